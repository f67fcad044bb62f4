/- DERIVED by an AI agent. Rules by which simp carries a text out, head first. No program in sight. -/
import Derived.Test.YtijabbemjaioeaaGreatDoorA9
set_option linter.all false
namespace Go.Abs
open Bool renaming true→k0,false→l0
open Option renaming some→n0,none→o0
open Go renaming TypeId→A0,Operand→B0,IntKind→D0,Value→E0,FuncId→F0,Program→G0,ResultVar→J0
open List renaming range→lc,replicate→ld,getD→lg,length→lh
variable (p:PV)(j:Nat)(i:Nat)(f:F0)(c:M0)(o:Nat)(x:E0)(d:PV->Prop){e:O0->Prop}{h:A0}{m:M0}{q:F0}{r:Nat}{u:RV->Prop}{w:O0->PV->Prop}{y:M0->O0->Prop}{z:List M0}{A:Option Nat}{B:M0->Prop}{C:D0}{D:Array Edge}{E:List Oper}{F:E0}{G:(S0)->PV->Prop}{H:Md}{I:RV}{J:String}{L:O0}{M:S0}{N:World}{O:List LR}{R:Bool}{S:J0}
def iL(a:N0):M0:=a.map λn=>.v (.int .i64 n)
def kL(k:D0)(a:N0):M0:=a.map λn=>.v (.int k n)
def sL(a:Q0):M0:=a.map λn=>.v (.string n)
def bL(a:List Bool):M0:=a.map λn=>.v (.bool n)
def mF(a:List N0):M0:=a.map λr=>.sl l0 1 (iL r)
abbrev aE(a:N0):PV:=.sl l0 1 (iL a)
abbrev zs3(a:Q0):PV:=.sl l0 1 (sL a)
abbrev hY(a:List N0):PV:=.sl l0 1 (mF a)
abbrev al(n:Int):PV:=.v (.int .i64 n)
abbrev dv(n:Int):PV:=.v (.int .u64 n)
abbrev aU(b:Bool):PV:=.v (.bool b)
abbrev fa(s:P0):PV:=.v (.string s)
theorem dB(a:N0):lh (iL a)=lh a:=by simp[iL]
theorem zfC(k:D0)(a:N0):lh (kL k a)=lh a:=by simp[kL]
theorem cN(a:Q0):lh (sL a)=lh a:=by simp[sL]
theorem Re(a:List Bool):lh (bL a)=lh a:=by simp[bL]
theorem bU(a:List N0):lh (mF a)=lh a:=by simp[mF]
theorem Rf(a b:N0):iL a++iL b=iL (a++b):=by simp[iL]
theorem DT(a:Q0)(n:P0):sL a++[.v (.string n)]=sL (a++[n]):=by simp[sL]
theorem Rh(a b:Q0):sL a++sL b=sL (a++b):=by simp[sL]
theorem LP(a:List N0)(r:N0):mF a++[.sl l0 1 (iL r)]=mF (a++[r]):=by simp[mF]
theorem LQ(a b:List N0):mF a++mF b=mF (a++b):=by simp[mF]
theorem Vx(a:N0)(n:Nat):(iL a).take n=iL (a.take n):=by simp[iL]
theorem zfa(a:N0)(n:Nat):(iL a).drop n=iL (a.drop n):=by simp[iL]
theorem zkE(a:N0)(i:Nat)(n:Int):nt (iL a) i [.v (.int .i64 n)]=iL (a.set i n):=by simp[nt,iL]
theorem zkF(a p:PV)(c:M0):nt (a::c) 0 [p]=p::c:=rfl
theorem zkG(a b p:PV)(c:M0):nt (a::b::c) 1 [p]=a::p::c:=rfl
theorem zkH(a b d p:PV)(c:M0):nt (a::b::d::c) 2 [p]=a::b::p::c:=rfl
theorem zkI(a b d e p:PV)(c:M0):nt (a::b::d::e::c) 3 [p]=a::b::d::p::c:=rfl
theorem zkJ(a b p q:PV):nt [a,b] 0 [p,q]=[p,q]:=rfl
theorem zkK(a b c d p q:PV):nt [a,b,c,d] 0 [p,q]=[p,q,c,d]:=rfl
theorem zfd(a b c d p q:PV):nt [a,b,c,d] 2 [p,q]=[a,b,p,q]:=rfl
theorem zkL(a b c d p q r s:PV):nt [a,b,c,d] 0 [p,q,r,s]=[p,q,r,s]:=rfl
theorem zkM(a:List Bool)(i:Nat)(n:Bool):nt (bL a) i [.v (.bool n)]=bL (a.set i n):=by simp[nt,bL]
theorem mG(n:Nat)(x:Int):ld n (PV.v (.int .i64 x))=iL (ld n x):=by simp[iL]
theorem wv(n:Nat)(x:Bool):ld n (PV.v (.bool x))=bL (ld n x):=by simp[bL]
theorem zcM(a:N0):(∀p∈iL a,NL p=k0)=True:=by simp[iL,NL,E0.oneCell']
theorem zkN(a:Q0):(∀p∈sL a,NL p=k0)=True:=by simp[sL,NL,E0.oneCell']
theorem zff(k:D0)(n:Int):(E0.int k n).oneCell'=true:=(rfl)
theorem Yh(b:Bool):(E0.bool b).oneCell'=true:=(rfl)
theorem LS(b:P0):(E0.string b).oneCell'=true:=(rfl)
theorem Ri(a:Option Addr)(l c:Nat):(E0.slice a l c).oneCell'=true:=(rfl)
theorem iW(s:St)(d:Option Nat)(p:PV):(s.put d p).rw=s.rw:=by cases d<;>rfl
theorem Vy(s:St)(k:Nat)(r:Row):(s.row k r).sl=s.sl:=(rfl)
theorem dw(s:St)(k:Nat)(r:Row):(s.row k r).rw k=r:=by simp[St.row]
theorem bZ(s:St)(k j:Nat)(r:Row)(h:j≠k):(s.row k r).rw j=s.rw j:=by simp[St.row,h]
theorem Ad(s:St)(a:O0):(s.freeze a).sl=s.sl:=(rfl)
theorem Ae(s:St)(a:O0)(k:Nat):(s.freeze a).rw k=if k∈a then Gx (s.rw k)else s.rw k:=(rfl)
theorem KP(a:Nat)(e b:Nat)(d:Bool)(c:M0):Gx ⟨a,.sli e b d c⟩=⟨a,.sli e b k0 c⟩:=(rfl)
theorem Vz(s:St)(t:Nat):s.ev (.tmp t)=s.sl t:=(rfl)
theorem zfg(s:St)(f:F0):s.ev (.func f)=.clo f []:=(rfl)
theorem VA(s:St)(k:D0)(n:Int):s.ev (.const (.int k n))=.v (.int k n):=(rfl)
theorem KQ(s:St)(b:Bool):s.ev (.const (.bool b))=.v (.bool b):=(rfl)
theorem Af(s:St)(b:P0):s.ev (.const (.string b))=.v (.string b):=(rfl)
theorem Yi(s:St)(a:Option Addr)(l c:Nat):s.ev (.const (.slice a l c))=.v (.slice a l c):=(rfl)
theorem KR:(St.init c).sl o=lg c o .junk:=(rfl)
theorem KS:(St.init c).rw o=⟨0,.dead⟩:=(rfl)
theorem Ag{b:Type}(a:b)(l:List b)(d:b):lg (a::l) 0 d=a:=(rfl)
theorem Ah{b:Type}(a:b)(l:List b)(i:Nat)(d:b):lg (a::l) (i+1) d=lg l i d:=(rfl)
theorem DV{a:Type}(i:Nat)(d:a):lg ([]:List a) i d=d:=(rfl)
theorem DW(s:St)(d:Nat)(a:RK)(p:Nat->PV):jx s d a p=(s.row d ⟨(s.rw d).ver+1,a⟩).put (n0 d) (p ((s.rw d).ver+1)):=(rfl)
theorem DX(s:St)(d k:Nat)(a:RK):ma s d k a=(s.row k ⟨(s.rw k).ver+1,a⟩).put (n0 d) (.own k ((s.rw k).ver+1)):=(rfl)
structure Dm {α:Type} (K:α):Type
def kk{a:Type}(K:a)(_:Dm K:=⟨⟩):a:=K
theorem zfh{a b:Type}(K:a->b)(u:Dm K)(x:a):kk K u x=K x:=(rfl)
def Ai(p:PV)(K:PV->Prop):Prop:=K p
theorem zr8:Ai (.v x) d=d (.v x):=(rfl)
theorem zkQ(fr:Bool)(z:Nat)(c:M0)(K:PV->Prop):Ai (.sl fr z c) K=K (.sl fr z c):=(rfl)
theorem zfi:Ai (.own j i) d=d (.own j i):=(rfl)
theorem zfj:Ai (.ref j i o) d=d (.ref j i o):=(rfl)
theorem zkR:Ai (.ag c) d=d (.ag c):=(rfl)
theorem zfk:Ai (.tup c) d=d (.tup c):=(rfl)
theorem zfl:Ai (.clo f c) d=d (.clo f c):=(rfl)
section
variable {P:G0}{T:gg}{ops:Array Oper}{Q:AX->St->Prop}{s:St}
def zfm(p:PV)(A B:Prop):Prop:=match p with|.v (.bool b)=>(b=k0->A)/\(b=l0->B)|_=>False
def c1(b:Bool)(A B:Prop):Prop:=(b=k0->A)/\(b=l0->B)
def c2(b:Bool)(A B:Prop):Prop:=(b=k0->A)/\(b=l0->B)
def d1(b:Bool)(A B:Prop):Prop:=(b=l0->A)/\(b=k0->B)
def d2(b:Bool)(A B:Prop):Prop:=(b=l0->A)/\(b=k0->B)
theorem zr9(A B:Prop):c1 k0 (kk A) (kk B)=A:=by simp[c1,kk]
theorem zsa(A B:Prop):c1 l0 (kk A) (kk B)=B:=by simp[c1,kk]
theorem zsd(A B:Prop):d1 k0 (kk A) (kk B)=B:=by simp[d1,kk]
theorem zse(A B:Prop):d1 l0 (kk A) (kk B)=A:=by simp[d1,kk]
theorem zkS(b:Bool)(A B:Prop):c1 b A B=c2 b A B:=(rfl)
theorem zkT(b:Bool)(A B:Prop):c2 b (kk A) (kk B)=((b=k0->A)/\(b=l0->B)):=(rfl)
theorem zkU(b:Bool)(A B:Prop):d1 b A B=d2 b A B:=(rfl)
theorem zkV(b:Bool)(A B:Prop):d2 b (kk A) (kk B)=((b=l0->A)/\(b=k0->B)):=(rfl)
theorem LU(b:Bool)(A B:Prop):zfm (.v (.bool b)) A B=c1 b A B:=(rfl)
theorem Yl[aw]:wC P T .skip Q s=Q .norm s:=(rfl)
theorem DY[aw](id:Nat):wC P T (.region id ops l0) Q s=CA P T ops ops.toList s (Q .norm):=(rfl)
theorem DZ[aw](id:Nat):wC P T (.region id ops k0) Q s=(EG ops=k0/\qy P T ops [] ops.toList s (Q .norm)):=(rfl)
theorem zfn[aw](x y:Code):wC P T (.seq x y) Q s=wC P T x (AX.seq (wC P T y Q) Q) s:=(rfl)
theorem Ym[aw](c:B0)(x y:Code):wC P T (.cond c x y) Q s=zfm (s.ev c) (kk (wC P T x Q s)) (kk (wC P T y Q s)):=(rfl)
theorem Rl[aw](id:Nat)(x:Code):wC P T (.block id x) Q s=wC P T x (AX.blk id Q) s:=(rfl)
theorem Yn[aw](x:Code):wC P T (.loop x) Q s=uA (kk (wC P T x)) (kk Q) s:=(rfl)
theorem Yo[aw](id:Nat):wC P T (.exit id) Q s=Q (.exit id) s:=(rfl)
theorem zfo[aw]:wC P T .ret Q s=Q .ret s:=(rfl)
variable {K:St->Prop}
theorem Yp:AX.seq K Q .norm s=K s:=(rfl)
theorem zfp:AX.seq K Q .ret s=Q .ret s:=(rfl)
theorem Yq:AX.seq K Q (.exit j) s=Q (.exit j) s:=(rfl)
theorem Yr:AX.blk j Q .norm s=Q .norm s:=(rfl)
theorem zfq:AX.blk j Q .ret s=Q .ret s:=(rfl)
theorem BK:AX.blk j Q (.exit j) s=Q .norm s:=by simp[AX.blk]
theorem IC(h:i≠j):AX.blk j Q (.exit i) s=Q (.exit i) s:=by simp[AX.blk,h]
theorem Ys(a:List J0)(rv:RV):zlN T a rv .ret s=Cu T s a rv:=(rfl)
theorem Yt[aw]:CA P T ops [] s K=K s:=(rfl)
theorem ID:∀(n:Nat)(p:V0),(∀k,k<n->p k=k0)->nq n p=true:=by
 intro n;induction n with
 | zero=>intro p _;rfl
 | succ n a=>simp[nq];grind
def clr(e:Ent):List Ent->Bool|[]=>k0|a::l=>!uE a e&&clr e l
def ww:List Ent->Bool|[]=>k0|e::l=>clr e l&&ww l
theorem Yu:∀{l:List Ent},ww l=k0->l.Pairwise λa b=>uE b a=false:=by
 intro l;induction l with
 | nil=>simp
 | cons e l g =>
   intro h;simp[ww]at h;refine List.pairwise_cons.2 ⟨?_,g h.2⟩;have:∀c:List Ent,clr e c=k0->∀b∈c,uE b e=false:=by
    intro c;induction c with
    | nil=>simp
    | cons x c f =>
      simp_all[clr]
   grind
theorem zcN[aw]{l:List Ent}(h:ww l=k0):BU ops l.reverse=true:=by refine ID _ _ λj m=>ID _ _ λi d=>?_;split;rename_i a b e f;obtain⟨g,rfl⟩:=List.getElem?_eq_some_iff.1 e;obtain⟨k,rfl⟩:=List.getElem?_eq_some_iff.1 f;rw[List.pairwise_iff_getElem.1 (List.pairwise_reverse.2<|Yu h) i j g k d];rfl;rfl
def zcO(ops:Array Oper)(acc:List Ent)(A:Prop):Prop:=BU ops acc.reverse=k0/\A
def lnK(b:Bool)(ops:Array Oper)(acc:List Ent)(A:Prop):Prop:=match b with|true=>A|false=>BU ops acc.reverse=k0/\A
theorem Rp[aw](acc:List Ent)(A:Prop):zcO ops acc (kk A)=lnK (ww acc) ops acc (kk A):=by
 unfold zcO lnK;cases h:ww acc with
 | true=>simp[zcN h]
 | false=>rfl
theorem zsi(acc:List Ent)(A:Prop):lnK k0 ops acc (kk A)=A:=(rfl)
theorem zsj(acc:List Ent)(A:Prop):lnK l0 ops acc (kk A)=(BU ops acc.reverse=k0/\A):=(rfl)
theorem zkW:ww []=true:=(rfl)
theorem zfr(e:Ent)(l:List Ent):ww (e::l)=(clr e l&&ww l):=(rfl)
theorem zfs(e:Ent):clr e []=true:=(rfl)
theorem Yv(e a:Ent)(l:List Ent):clr e (a::l)=(!uE a e&&clr e l):=(rfl)
def xY(l:O0)(t:Tc):Bool:=l.any t.has
theorem Yw(t:Tc):xY [] t=false:=(rfl)
theorem Rq(k:Nat)(l:O0)(t:Tc):xY (k::l) t=(t.has k||xY l t):=(rfl)
theorem zft(k:Nat):(Tc.ids []).has k=false:=(rfl)
theorem Yx(a:Nat)(l:O0)(k:Nat):(Tc.ids (a::l)).has k=(a%1000==k%1000||(Tc.ids l).has k):=(rfl)
theorem zfu(d k:Nat):(Tc.res d).has k=(k%1000==d%1000):=(rfl)
theorem zfv(a b t u:O0):uE ⟨a,.ids t⟩ ⟨b,.ids u⟩=(xY a (.ids u)||(xY b (.ids t)||xY t (.ids u))):=by simp[uE,xY,tV,nI]
theorem zfw(a b t:O0)(d:Nat):uE ⟨a,.ids t⟩ ⟨b,.res d⟩=(xY a (.res d)||(xY b (.ids t)||xY t (.res d))):=by simp[uE,xY,tV,nI]
theorem zfx(a b t:O0)(d:Nat):uE ⟨a,.res d⟩ ⟨b,.ids t⟩=(xY a (.ids t)||(xY b (.res d)||xY t (.res d))):=by simp[uE,xY,tV,nI]
theorem zfy(a b:O0)(d c:Nat):uE ⟨a,.res d⟩ ⟨b,.res c⟩=(xY a (.res c)||(xY b (.res d)||(d%1000==c%1000))):=by simp[uE,xY,tV,nI]
theorem Rr[aw](acc:List Ent):qy P T ops acc [] s K=zcO ops acc (kk (K s)):=(rfl)
def gK(d:Option Nat)(a:Bool)(s:St)(A B:l1)(N:Prop):Prop :=
 match d with
 | some d=>(match s.sl d with|.v (.bool b)=>(b=a->A d)/\(b=!a->B d)|.v (.tuple _)=>N|_=>False)
 | none=>False
def gK1(a:Bool)(p:PV)(A B N:Prop):Prop:=match p with|.v (.bool b)=>(b=a->A)/\(b=!a->B)|.v (.tuple _)=>N|_=>False
theorem zfz(d:Nat)(a:Bool)(A B:l1)(N:Prop):gK (n0 d) a s A B N=gK1 a (s.sl d) (kk (A d)) (kk (B d)) N:=(rfl)
theorem Ru(a:Bool)(A B N:Prop):gK1 a (.v undef) A B (kk N)=N:=(rfl)
theorem Yy(b:Bool)(A B N:Prop):gK1 k0 (.v (.bool b)) A B N=c1 b A B:=(rfl)
theorem Rv(b:Bool)(A B N:Prop):gK1 l0 (.v (.bool b)) A B N=d1 b A B:=(rfl)
theorem Rw[aw]{a:Op} :
 CA P T ops (⟨A,a,h,J,D,o0⟩::E) s K=jN P T s ⟨A,a,h,J,D,o0⟩ (λc=>CA P T ops E c K):=(rfl)
theorem LV[aw]{c:Op} :
 CA P T ops (⟨A,c,h,J,D,n0 (r,R)⟩::E) s K=gK ((ops[r]?).bind (·.dst)) R s
  (kk λd=>jN P T (s.put (n0 d) (.v (.bool R))) ⟨A,c,h,J,D,n0 (r,R)⟩ (λe=>CA P T ops E e K))
  (kk λd=>CA P T ops E ((s.put (n0 d) (.v (.bool !R))).put A (.v undef)) K) (kk (CA P T ops E (s.put A (.v undef)) K)):=(rfl)
theorem zkY(l:List Oper)(j:Nat):((⟨l⟩:Array Oper)[j]?)=l[j]?:=sp
theorem getElem?_zero{b:Type}(a:b)(l:List b):(a::l)[0]?=n0 a:=(rfl)
theorem getElem?_succ{b:Type}(a:b)(l:List b)(i:Nat):(a::l)[i+1]?=l[i]?:=(rfl)
theorem Rx(o:Oper):(n0 o).bind (·.dst)=o.dst:=(rfl)
theorem LW[aw]{a:Op}(acc:List Ent) :
 qy P T ops acc (⟨A,a,h,J,D,o0⟩::E) s K=dK P T s ⟨A,a,h,J,D,o0⟩ (kk λe c=>qy P T ops (e::acc) E c K):=(rfl)
theorem IE[aw]{c:Op}(acc:List Ent) :
 qy P T ops acc (⟨A,c,h,J,D,n0 (r,R)⟩::E) s K=gK ((ops[r]?).bind (·.dst)) R s
  (kk λd=>dK P T (s.put (n0 d) (.v (.bool R))) ⟨A,c,h,J,D,n0 (r,R)⟩ (kk λe f=>qy P T ops (e::acc) E f K))
  (kk λd=>qy P T ops (⟨[],.ids []⟩::acc) E ((s.put (n0 d) (.v (.bool !R))).put A (.v undef)) K) (kk (qy P T ops (⟨[],.ids []⟩::acc) E (s.put A (.v undef)) K)):=(rfl)
def iJ(l:M0)(acc:O0)(Kn:O0->Prop):Prop:=Kn (acc++l.flatMap kR)
def xZ(l:M0)(acc:O0)(Kn:O0->Prop):Prop:=Kn (acc++l.flatMap zay)
section
variable (l:M0)(acc:O0)(Kn:O0->Prop)
theorem Yz:iJ [] acc (kk Kn)=Kn acc:=by simp[iJ,kk]
theorem zkZ(x:E0):iJ (.v x::l) acc (kk Kn)=iJ l acc (kk Kn):=(rfl)
theorem zfA(fr:Bool)(z:Nat)(c:M0):iJ (.sl fr z c::l) acc (kk Kn)=iJ l acc (kk Kn):=(rfl)
theorem Ry(fr:Bool)(c:M0)(o:Nat):iJ (.eref fr c o::l) acc (kk Kn)=iJ l acc (kk Kn):=(rfl)
theorem YD(k v:Nat):iJ (.own k v::l) acc (kk Kn)=iJ l (acc++[k%1000]) (kk Kn):=by simp[iJ,kR]
theorem YE(k v o:Nat):iJ (.ref k v o::l) acc (kk Kn)=iJ l (acc++[k%1000]) (kk Kn):=by simp[iJ,kR]
theorem zfB(c:M0):iJ (.ag c::l) acc (kk Kn)=xZ c acc (kk λa=>iJ l a (kk Kn)):=by simp[iJ,xZ,kk,kR]
theorem YF:xZ [] acc (kk Kn)=Kn acc:=by simp[xZ,kk]
theorem zk0(x:E0):xZ (.v x::l) acc (kk Kn)=xZ l acc (kk Kn):=(rfl)
theorem YH(k v:Nat):xZ (.own k v::l) acc (kk Kn)=xZ l (acc++[k%1000]) (kk Kn):=by simp[xZ,zay]
end
def lS(rw:S0)(n:Nat)(l:M0)(acc:O0)(Kn:O0->Prop):Prop:=Kn (acc++l.flatMap (kg rw n))
def ZO(r:Row)(rw:S0)(n:Nat)(acc:O0)(Kn:O0->Prop):Prop:=Kn (acc++(match r.kind with|.box _ c=>c.flatMap (kg rw n)|_=>[]))
def Cp(r:Row)(k:Nat)(acc:O0)(Kn:O0->Prop):Prop:=Kn (acc++(match r.kind with|.tab _ c=>Nx k c|_=>[]))
section
variable (rw:S0)(n:Nat)(l:M0)(acc:O0)(Kn:O0->Prop)
theorem YJ:lS rw n [] acc (kk Kn)=Kn acc:=by simp[lS,kk]
theorem zk1(x:E0):lS rw (n+1) (.v x::l) acc (kk Kn)=lS rw (n+1) l acc (kk Kn):=rfl
theorem zfD(fr:Bool)(z:Nat)(c:M0):lS rw (n+1) (.sl fr z c::l) acc (kk Kn)=lS rw (n+1) l acc (kk Kn):=rfl
theorem YK(k v:Nat):lS rw (n+1) (.own k v::l) acc (kk Kn)=Cp (rw k) k (acc++[k%1000]) (kk λa=>lS rw (n+1) l a (kk Kn)):=by simp[lS,Cp,kk];rfl
theorem LX(k a e z:Nat)(b:Bool)(c:M0):Cp ⟨a,.sli e z b c⟩ k acc (kk Kn)=Kn acc:=by simp[Cp,kk]
theorem LZ(k a e:Nat)(c:M0):Cp ⟨a,.tab e c⟩ k acc (kk Kn)=Kn (acc++Nx k c):=(rfl)
theorem RE(rw':S0)(k m:Nat):Nx k (fi rw' k 0 m)=[]:=by simp[Nx,fi,bz]
theorem zfE(c:M0):lS rw (n+1) (.ag c::l) acc (kk Kn)=lS rw n c acc (kk λa=>lS rw (n+1) l a (kk Kn)):=by simp[lS,kg,kk]
theorem YL(f:F0)(c:M0):lS rw (n+1) (.clo f c::l) acc (kk Kn)=lS rw n c acc (kk λa=>lS rw (n+1) l a (kk Kn)):=by simp[lS,kg,kk]
theorem zjB(k v o:Nat):lS rw (n+1) (.ref k v o::l) acc (kk Kn)=ZO (rw k) rw n (acc++[k%1000]) (kk λa=>lS rw (n+1) l a (kk Kn)):=by simp only[lS,ZO,kk,cE];rw[kg];cases (rw k).kind<;>simp
theorem ZP(a:Nat)(t:A0)(c:M0):ZO ⟨a,.box t c⟩ rw n acc (kk Kn)=lS rw n c acc (kk Kn):=(rfl)
end
section
variable {dst:Option Nat}{ty:A0}{pos:String}{af:Array Edge}{g:Option (Nat×Bool)}
theorem YN[aw](x:B0):ie P T s ⟨dst,.move x,ty,pos,af,g⟩ K=Ai (s.ev x) (kk λp=>K (s.put dst p)):=(rfl)
theorem yr[aw](t:Nat):ie P T s ⟨dst,.assign (.tmp t),ty,pos,af,g⟩ K=Ai (s.sl t) (kk λp=>K (s.put dst p)):=(rfl)
theorem yu[aw](k:D0)(n:Int):ie P T s ⟨dst,.assign (.const (.int k n)),ty,pos,af,g⟩ K=K (s.put dst (.v (.int k n))):=(rfl)
theorem xB[aw](b:Bool):ie P T s ⟨dst,.assign (.const (.bool b)),ty,pos,af,g⟩ K=K (s.put dst (.v (.bool b))):=(rfl)
theorem tp[aw](b:P0):ie P T s ⟨dst,.assign (.const (.string b)),ty,pos,af,g⟩ K=K (s.put dst (.v (.string b))):=(rfl)
def nilRow(T:gg)(k:TK):RK:=match k with|.sli e=>.sli e (T e).size l0 []|_=>.nil
theorem Me(e:A0):nilRow T (.sli e)=.sli e (T e).size l0 []:=(rfl)
theorem yw[aw](d:Nat):ie P T s ⟨n0 d,.assign (.const (.slice o0 0 0)),ty,pos,af,g⟩ K=K (jx s d (nilRow T (T ty).k) λv=>.own d v):=(rfl)
theorem YO[aw](c x y:B0):ie P T s ⟨dst,.pick c x y,ty,pos,af,g⟩ K=zfm (s.ev c) (kk (Ai (s.ev x) (kk λp=>K (s.put dst p)))) (kk (Ai (s.ev y) (kk λp=>K (s.put dst p)))):=(rfl)
theorem zfF[aw](a:BinOp)(t b:A0)(x y:B0):ie P T s ⟨dst,.binOp a t x y b,ty,pos,af,g⟩ K=iu T a t (s.ev x) (s.ev y) (kk λp=>K (s.put dst p)):=(rfl)
theorem zk2[aw](a:UnOp)(t:A0)(x:B0):ie P T s ⟨dst,.unOp a t x,ty,pos,af,g⟩ K=unK a (s.ev x) (kk λp=>K (s.put dst p)):=(rfl)
theorem IG[aw](a b:A0)(x:B0):ie P T s ⟨dst,.convert a b x,ty,pos,af,g⟩ K=rf T s.rw a b (s.ev x) (kk λp=>K (s.put dst p)):=(rfl)
theorem YP[aw](t:A0)(x:B0):ie P T s ⟨dst,.load t x,ty,pos,af,g⟩ K=Bh s.rw (s.ev x) (kk λm c a=>qt T t m c a (kk λp=>K (s.put dst p))):=(rfl)
theorem BL[aw](t:A0)(x:B0)(f:Nat):ie P T s ⟨dst,.fieldAddr t x f,ty,pos,af,g⟩ K =
 oP T t f (kk λo _=>yN (s.ev x)=k0/\ml s.rw (s.ev x) (kk (Ai (pP (s.ev x) o) (kk λp=>K (s.put dst p))))):=(rfl)
def agK(p:PV)(K:M0->Prop):Prop:=match p with|.ag c=>K c|_=>False
theorem zk3(Kc:M0->Prop):agK (.ag c) Kc=Kc c:=(rfl)
def zs5(p:PV)(K:M0->Prop):Prop:=match p with|.tup c=>K c|_=>False
theorem YQ(Kc:M0->Prop):zs5 (.tup c) Kc=Kc c:=(rfl)
theorem GO[aw](t:A0)(x:B0)(f:Nat):ie P T s ⟨dst,.field t x f,ty,pos,af,g⟩ K =
 agK (s.ev x) (kk λc=>oP T t f (kk λo a=>qt T a .asis c o (kk λp=>K (s.put dst p)))):=by
 show oP T t f _=_
 unfold oP agK kk
 grind
theorem Mg[aw](t:A0)(x i:B0):ie P T s ⟨dst,.lookup t x i l0,ty,pos,af,g⟩ K=xE T s.rw t (s.ev x) (s.ev i) (kk λp=>K (s.put dst p)):=by show(l0=l0/\xE T _ t _ _ _)=_;simp[kk]
theorem IH[aw](d:Nat)(t:A0):ie P T s ⟨n0 d,.makeMap t o0,ty,pos,af,g⟩ K=K (jx s d (.mp λ_=>0) λv=>.own d v):=(rfl)
theorem BM[aw](t:A0)(m x y:B0):ie P T s ⟨o0,.mapUpdate t m x y,ty,pos,af,g⟩ K=ziX T s t (s.ev m) (s.ev x) (s.ev y) (kk K):=by show(o0=o0/\ziX T s t _ _ _ K)=_;simp[kk]
theorem BN[aw](t:A0)(x i:B0):ie P T s ⟨dst,.indexAddr t x i,ty,pos,af,g⟩ K=iE T s.rw t (s.ev x) (s.ev i) (kk λp=>K (s.put dst p)):=(rfl)
def VB(T:gg)(t:A0)(x i:PV)(K:PV->Prop):Prop:=0<(T t).size/\(match (T t).k,x,i with
 | .str,.v (.string s),.v (.int _ n)=>0<=n/\n.toNat<s.size/\K (.v (.int .u8 ((lg s.data.toList n.toNat 0).toNat:Int)))
 | .arr len e,.ag c,.v (.int _ n)=>0<=n/\n<len/\qt T e .asis c (n.toNat*(T e).size) K
 | _,_,_=>False)
theorem RF[aw](t:A0)(x i:B0):ie P T s ⟨dst,.index t x i,ty,pos,af,g⟩ K=VB T t (s.ev x) (s.ev i) (kk λp=>K (s.put dst p)):=(rfl)
theorem IJ[aw](x:B0)(i:Nat):ie P T s ⟨dst,.extract x i,ty,pos,af,g⟩ K=zs5 (s.ev x) (kk λa=>i<lh a/\Ai (lg a i .junk) (kk λp=>K (s.put dst p))):=(rfl)
theorem Ea[aw](x:B0):ie P T s ⟨dst,.nilCheck x,ty,pos,af,g⟩ K=ml s.rw (s.ev x) (kk (Ai (s.ev x) (kk λp=>K (s.put dst p)))):=(rfl)
theorem Eb[aw](f:F0)(a:Array B0):ie P T s ⟨dst,.makeFunc (.func f) #[] a,ty,pos,af,g⟩ K=K (s.put dst (.clo f (a.toList.map s.ev))):=by show(#[]=#[]/\K _)=_;simp
theorem zfG[aw](x:B0)(t:A0):ie P T s ⟨dst,.call ⟨.builtin .len,#[x],#[t]⟩,ty,pos,af,g⟩ K=NP T s.rw t (s.ev x) (kk λp=>K (s.put dst p)):=(rfl)
theorem zfH[aw](x y:B0)(a:Array A0):ie P T s ⟨dst,.call ⟨.builtin .max,#[x,y],a⟩,ty,pos,af,g⟩ K=mI k0 (s.ev x) (s.ev y) (kk λp=>K (s.put dst p)):=(rfl)
theorem zfI[aw](x y:B0)(a:Array A0):ie P T s ⟨dst,.call ⟨.builtin .min,#[x,y],a⟩,ty,pos,af,g⟩ K=mI l0 (s.ev x) (s.ev y) (kk λp=>K (s.put dst p)):=(rfl)
theorem Mh[aw](d:Nat)(x y:B0)(t a:A0):ie P T s ⟨n0 d,.call ⟨.builtin .append,#[x,y],#[t,a]⟩,ty,pos,af,g⟩ K=ER T s d t a (s.ev x) (s.ev y) (kk K):=(rfl)
def Qg(p:PV)(K:F0->M0->Prop):Prop:=match p with|.clo g a=>K g a|_=>False
theorem YR(Kc:F0->M0->Prop):Qg (.clo f c) Kc=Kc f c:=(rfl)
def nn[aw](P:G0)(f:F0)(args:M0)(K:RV->Prop)(M:Prop):Prop:=(∃rv,AC P f args rv/\K rv)\/M
theorem aa[aw]{rv:Dm u}{M:Prop}(h:AC P q m I)(b:u I):nn P q m (kk u rv) M:=.inl ⟨I,h,b⟩
def tS[aw](P:G0)(f:F0)(args a:M0)(dst:Option Nat)(s:St)(K:St->Prop):Prop:=zcG P s f a dst K\/zpR P s f a dst K\/zlW P s f args dst K\/askG P s f a dst K
theorem oJ[aw]{c lent:M0}{us:Dm s}{dst:Dm K}(h:AM P q m O z F)(d:List (Nat×Nat))(g:GiveL d c m)(i:EN s.rw d O)(j:(d.map (·.1)).Nodup)(k:K ((s.wrote d O z).put A (.v F))):nn P q lent u (tS P q lent c A (kk s us) (kk K dst)):=.inr<|.inl ⟨d,O,m,z,F,h,g,i,j,k⟩
theorem Ec[aw]{c lent:M0}{v e d:Nat}{a:List M0}{res:TR}{us:Dm s}{dst:Dm K}(h:AT P q m e d z a res)(j:GiveL [(r,v)] c m)(l:TabIs s.rw r v e d L z)(i:L.Nodup)(n:∀g:O0,g.Perm L->res.next (s.tabbed r v e d g a) r v A K):nn P q lent u (tS P q lent c A (kk s us) (kk K dst)) :=
 .inr<|.inr<|.inl ⟨r,v,e,d,L,z,a,m,res,h,j,l,i,n⟩
theorem zk4[aw]{a:M0}{us:Dm s}{rv:Dm K}(b:St)(h:AC P q m I)(e:Wk (br s r I) b)(g:K b):nn P q m u (tS P q m a (n0 r) (kk s us) (kk K rv)) :=
 .inr<|.inr<|.inr<|.inl ⟨I,b,h,e,g⟩
theorem KT[aw]{c lent:M0}{us:Dm s}{dst:Dm K}(h:AG P q m M G)(a:Nat->Option Nat)(e:l1)(l:GvL a e M s.rw m c)(k:Give a e M s.rw)(n:∀g p,G g p->∃(b:Nat->Option Nat)(i:T0)(j:Bool),Back a b g i j e M s.rw/\∀S:St,After s S A b i j g p->K S):nn P q lent u (tS P q lent c A (kk s us) (kk K dst)) :=
 .inr<|.inr<|.inr<|.inr ⟨m,M,G,a,e,h,l,k,n⟩
def uu(s:St)(l:List B0):M0:=l.map λx=>gk s.rw nh (s.ev x)
theorem RG:uu s []=[]:=(rfl)
theorem Mi(x:B0)(l:List B0):uu s (x::l)=gk s.rw 3 (s.ev x)::uu s l:=(rfl)
def Ml(s:St)(l:List B0):M0:=l.map s.ev
theorem YS:Ml s []=[]:=(rfl)
theorem RH(x:B0)(l:List B0):Ml s (x::l)=s.ev x::Ml s l:=(rfl)
theorem YT[aw](f:B0)(args:List B0)(b:RV->Prop)(dst:Option Nat):((oM P s.rw s.ev f ⟨args⟩ b\/zaJ P s f ⟨args⟩ dst K)\/(match s.ev f with
 | .clo g a=>zpR P s g (args.map s.ev++a) dst K\/zlW P s g ((args.map λx=>gk s.rw nh (s.ev x))++a.map (gk s.rw nh)) dst K\/askG P s g (args.map s.ev++a) dst K
 | _=>False)) =
 Qg (s.ev f) (kk λg a=>nn P g (uu s args++a.map (gk s.rw 3)) (kk b) (tS P g (uu s args++a.map (gk s.rw 3)) (Ml s args++a) dst (kk s) (kk K))):=by
 unfold oM zaJ Qg
 cases s.ev f<;>first|(simp;done)|skip
 exact propext or_assoc
theorem RI[aw](d:Nat)(f:B0)(args:List B0)(b:Array A0):jN P T s ⟨n0 d,.call ⟨.value f,⟨args⟩,b⟩,ty,pos,af,g⟩ K =
 Qg (s.ev f) (kk λg a=>nn P g (uu s args++a.map (gk s.rw 3)) (kk λrv=>K (br s d rv)) (tS P g (uu s args++a.map (gk s.rw 3)) (Ml s args++a) (n0 d) (kk s) (kk K))):=YT f _ _ _
theorem RJ[aw](b:Builtin)(args:Array B0)(a:Array A0)(h:(match b with|.append=>l0|_=>k0)=k0):jN P T s ⟨dst,.call ⟨.builtin b,args,a⟩,ty,pos,af,g⟩ K=ie P T s ⟨dst,.call ⟨.builtin b,args,a⟩,ty,pos,af,g⟩ K:=by
 cases b<;>first|rfl|grind
theorem RL[aw](d:Nat)(t:A0):ie P T s ⟨n0 d,.alloc t,ty,pos,af,g⟩ K=(0<(T t).size/\K (jx s d (.box t ((T t).zero.map PV.v)) λv=>.ref d v 0)):=(rfl)
theorem zfJ[aw](d:Nat)(t:A0)(x:B0):ie P T s ⟨n0 d,.box t x,ty,pos,af,g⟩ K=fb s.rw (s.ev x) (kk λc=>K (jx s d (.box t c) λv=>.ref d v 0)):=(rfl)
def evs(s:St)(l:List (Nat×B0)):M0:=l.map λx=>s.ev x.2
theorem zfK:evs s []=[]:=(rfl)
theorem YU(n:Nat)(x:B0)(l:List (Nat×B0)):evs s ((n,x)::l)=s.ev x::evs s l:=(rfl)
def zcP(T:gg)(s:St)(d:Nat)(a:TK)(z n:Nat)(parts:List (Nat×B0))(K:St->Prop):Prop :=
 0<z/\match a with
 | .sli e=>0<(T e).size/\n=lh parts/\EP 0 parts=k0/\n*(T e).size<=16777216 /\
  BX s.rw (T e).size (evs s parts) λc f=>d∉f/\K (((s.freeze f).row d ⟨(s.rw d).ver+1,.sli e (T e).size l0 c⟩).put (n0 d) (.own d ((s.rw d).ver+1)))
 | _=>False
theorem yy[aw](d:Nat)(t:A0)(n:Nat)(parts:List (Nat×B0)):ie P T s ⟨n0 d,.buildSlice t n ⟨parts⟩,ty,pos,af,g⟩ K=zcP T s d (T t).k (T t).size n parts (kk K):=(rfl)
def lit(c:M0):M0:=c
def zk6(a:N0)(c:M0):M0:=iL a++c
def zk7(a:Q0)(c:M0):M0:=sL a++c
def zk9(a:List N0)(c:M0):M0:=mF a++c
theorem KU:lit []=[]:=(rfl)
theorem KV(n:Int)(l:M0):lit (.v (.int .i64 n)::l)=zk6 [n] l:=(rfl)
theorem KW(n:P0)(l:M0):lit (.v (.string n)::l)=zk7 [n] l:=(rfl)
theorem VC(n:N0)(l:M0):lit (.sl l0 1 (iL n)::l)=zk9 [n] l:=(rfl)
theorem Ee(a:N0):zk6 a []=iL a:=bh _
theorem Ef(a:Q0):zk7 a []=sL a:=bh _
theorem Eh(a:List N0):zk9 a []=mF a:=bh _
theorem Aj(a:N0)(n:Int)(l:M0):zk6 a (.v (.int .i64 n)::l)=zk6 (a++[n]) l:=by simp[zk6,iL]
theorem Ak(a:Q0)(n:P0)(l:M0):zk7 a (.v (.string n)::l)=zk7 (a++[n]) l:=by simp[zk7,sL]
theorem Mm(d e n:Nat)(parts:List (Nat×B0))(a:(T e).size=1) :
 zcP T s d (.sli e) 1 n parts K=(n=lh parts/\EP 0 parts=k0/\n<=16777216/\BX s.rw 1 (evs s parts) (kk λc f=>d∉f/\K (((s.freeze f).row d ⟨(s.rw d).ver+1,.sli e 1 l0 (lit c)⟩).put (n0 d) (.own d ((s.rw d).ver+1))))):=by
 simp only[zcP,a,Nat.one_pos,cC,dh]
 rfl
theorem RM:EP j []=true:=(rfl)
theorem Mn(i j:Nat)(x:B0)(l:List (Nat×B0)):EP i ((j,x)::l)=(j==i&&EP (i+1) l):=(rfl)
theorem RN(rw:S0)(a:Nat)(Kp:M0->O0->Prop):BX rw a [] (kk Kp)=Kp [] []:=(rfl)
theorem Mp(rw:S0)(a:Nat)(p:PV)(b:M0)(Kp:M0->O0->Prop):BX rw a (p::b) (kk Kp)=kK rw p (kk λc f=>lh c=a/\BX rw a b (kk λd e=>Kp (c++d) (f++e))):=(rfl)
theorem RO[aw](t:A0)(a x:B0):ie P T s ⟨o0,.store t a x,ty,pos,af,g⟩ K=NK T s t (s.ev a) (s.ev x) (kk K):=by show(o0=o0/\NK T s t _ _ K)=_;simp[kk]
def zla(T:gg)(t:A0)(l c:PV)(K:A0->M0->Prop):Prop :=
 match (T t).k,l,c with
 | .sli e,.v (.int _ a),.v (.int _ b)=>0<(T t).size/\(T e).size=1/\(match (T e).zero with
  | [z]=>0<=a/\a<=b/\((T e).bytes:Int)*b<=281474976710656/\b<=9223372036854775807/\K e (ld a.toNat (.v z))
  | _=>False)
 | _,_,_=>False
theorem YV[aw](d:Nat)(t:A0)(l c:B0):ie P T s ⟨n0 d,.makeSlice t l c,ty,pos,af,g⟩ K=zla T t (s.ev l) (s.ev c) (kk λe f=>K (jx s d (.sli e 1 l0 f) λv=>.own d v)):=by
 simp[zla,kk,ie];grind
def zlb(T:gg)(d:TK)(z:Nat)(l c:PV)(K:A0->M0->Prop):Prop :=
 match d,l,c with
 | .sli e,.v (.int _ a),.v (.int _ b)=>0<z/\(T e).size=1/\(match (T e).zero with
  | [z]=>0<=a/\a<=b/\((T e).bytes:Int)*b<=281474976710656/\b<=9223372036854775807/\K e (ld a.toNat (.v z))
  | _=>False)
 | _,_,_=>False
theorem zfL(t:A0)(l c:PV)(Kc:A0->M0->Prop):zla T t l c Kc=zlb T (T t).k (T t).size l c Kc:=(rfl)
def zlc(a:List E0)(K:E0->Prop):Prop:=match a with|[z]=>K z|_=>False
theorem RP(z:E0)(a:E0->Prop):zlc [z] a=a z:=(rfl)
theorem RQ{d:D0}{a b:Int}{Kc:A0->M0->Prop}(f:(T h).size=1) :
 zlb T (.sli h) 1 (.v (.int C a)) (.v (.int d b)) Kc=zlc (T h).zero (kk λz=>0<=a/\a<=b/\((T h).bytes:Int)*b<=281474976710656/\b<=9223372036854775807/\Kc h (ld a.toNat (.v z))):=by
 simp_all[zlb,zlc,kk]
def zir(T:gg)(s:St)(t:A0)(x:PV)(b c d:Option B0)(K:O0->PV->Prop):Prop :=
 match x with
 | .own k a=>(match (s.rw k).kind with
  | .sli _ _ l0 _=>gO T (s.freeze [k]).rw s.ev t (.own k a) b c d (K [k])
  | _=>gO T s.rw s.ev t (.own k a) b c d (K []))
 | x=>gO T s.rw s.ev t x b c d (K [])
theorem RR[aw](t:A0)(x:B0)(a b c:Option B0):ie P T s ⟨dst,.slice t x a b c,ty,pos,af,g⟩ K=zir T s t (s.ev x) a b c (kk λd p=>K ((s.freeze d).put dst p)):=by
 have h:∀q,s.ev x=q->(match q with
  | .own k _=>(match (s.rw k).kind with
   | .sli _ _ l0 _=>qQ T (s.freeze [k]).rw s.ev (.slice t x a b c) λp=>K<|(s.freeze [k]).put dst p
   | _=>qQ T s.rw s.ev (.slice t x a b c) λp=>K<|s.put dst p)
  | _=>qQ T s.rw s.ev (.slice t x a b c) λp=>K<|s.put dst p)=zir T s t q a b c λd p=>K<|(s.freeze d).put dst p:=by
  intro q f
  unfold zir
  cases q<;>simp[qQ,f,St.freeze_nil s]
 exact h _ rfl
end
def zis(s:St)(l:List (Nat×B0)):List (Nat×PV):=l.map λx=>(x.1,s.ev x.2)
theorem YW:zis s []=[]:=(rfl)
theorem RS(n:Nat)(x:B0)(l:List (Nat×B0)):zis s ((n,x)::l)=(n,s.ev x)::zis s l:=(rfl)
def wx(T:gg):List (Nat×A0)->Prop|[]=>True|x::a=>0<(T x.2).size/\wx T a
theorem Mq:wx T []=True:=(rfl)
theorem IK(o:Nat)(t:A0)(a:List (Nat×A0)):wx T ((o,t)::a)=(0<(T t).size/\wx T a):=(rfl)
theorem zit:∀a:List (Nat×A0),(∀x∈a,0<(T x.2).size)=wx T a:=by
 intro a;induction a with
 | nil=>simp[wx]
 | cons x a b=>simp[wx,<- b]
def zld(T:gg)(rw:S0)(b:TK)(z:Nat)(d:List E0)(e:List (Nat×PV))(K:PV->Prop):Prop :=
 0<z/\match b with
 | .struct a=>wx T a/\lZ T rw a e (d.map PV.v) λc=>K (.ag c)
 | _=>False
theorem zle[aw](t:A0)(parts:List (Nat×B0))(Kp:PV->Prop):wD T s.rw s.ev t ⟨parts⟩ Kp=zld T s.rw (T t).k (T t).size (T t).zero (zis s parts) (kk Kp):=by
 simp only[wD,zit];rfl
theorem IL(rw:S0)(a:List (Nat×A0))(z:Nat)(b:List E0)(d:List (Nat×PV))(Kp:PV->Prop) :
 zld T rw (.struct a) z b d (kk Kp)=(0<z/\wx T a/\lZ T rw a d (b.map PV.v) (kk λc=>Kp (.ag c))):=(rfl)
theorem RT(rw:S0)(a:List (Nat×A0))(c:M0)(Kc:M0->Prop):lZ T rw a [] c (kk Kc)=Kc c:=(rfl)
def zs6(T:gg)(rw:S0)(d:List (Nat×A0))(x:Option (Nat×A0))(p:PV)(a:List (Nat×PV))(cells:M0)(Kc:M0->Prop):Prop :=
 match x with
 | some (b,e)=>fb rw p λc=>lh c=(T e).size/\b+lh c<=lh cells/\lZ T rw d a (nt cells b c) Kc
 | none=>False
theorem Mr(rw:S0)(b:List (Nat×A0))(i:Nat)(p:PV)(a:List (Nat×PV))(c:M0)(Kc:M0->Prop):lZ T rw b ((i,p)::a) c (kk Kc)=zs6 T rw b b[i]? p a c (kk Kc):=rfl
theorem RU(rw:S0)(d:List (Nat×A0))(b:Nat)(e:A0)(p:PV)(a:List (Nat×PV))(cells:M0)(Kc:M0->Prop) :
 zs6 T rw d (n0 (b,e)) p a cells (kk Kc)=fb rw p (kk λc=>lh c=(T e).size/\b+lh c<=lh cells/\lZ T rw d a (nt cells b c) (kk Kc)):=(rfl)
section
variable {dst:Option Nat}{ty:A0}{pos:String}{af:Array Edge}{g:Option (Nat×Bool)}
theorem RW[aw](t:A0)(parts:List (Nat×B0)):ie P T s ⟨dst,.build t ⟨parts⟩,ty,pos,af,g⟩ K=zld T s.rw (T t).k (T t).size (T t).zero (zis s parts) (kk λp=>K (s.put dst p)):=by rw[<- zle];rfl
def ncD(rw:S0)(b:TK)(z:Nat)(x:PV)(a:Bool->Prop):Prop:=0<z/\match b with|.sli _=>Qk rw x λ_ _ c=>a l0/\(c=[]->a k0)|_=>False
theorem IM[aw](t a:A0)(x:B0):jN P T s ⟨dst,.binOp .eql t x (.const (.slice o0 0 0)) a,ty,pos,af,g⟩ K=ncD s.rw (T t).k (T t).size (s.ev x) (kk λb=>K (s.put dst (.v (.bool b)))):=(rfl)
theorem zlf(rw:S0)(e z b:Nat)(fr:Bool)(c:M0)(a:Bool->Prop):ncD rw (.sli e) z (.sl fr b c) (kk a)=(0<z/\a l0/\(c=[]->a k0)):=(rfl)
theorem YX[aw](x:B0):jN P T s ⟨dst,.move x,ty,pos,af,g⟩ K=ie P T s ⟨dst,.move x,ty,pos,af,g⟩ K:=(rfl)
theorem Mu[aw](x:B0):jN P T s ⟨dst,.assign x,ty,pos,af,g⟩ K=ie P T s ⟨dst,.assign x,ty,pos,af,g⟩ K:=(rfl)
theorem YY[aw](c x y:B0):jN P T s ⟨dst,.pick c x y,ty,pos,af,g⟩ K=ie P T s ⟨dst,.pick c x y,ty,pos,af,g⟩ K:=(rfl)
theorem zlg[aw](a:UnOp)(t:A0)(x:B0):jN P T s ⟨dst,.unOp a t x,ty,pos,af,g⟩ K=ie P T s ⟨dst,.unOp a t x,ty,pos,af,g⟩ K:=(rfl)
theorem IP[aw](a b:A0)(x:B0):jN P T s ⟨dst,.convert a b x,ty,pos,af,g⟩ K=ie P T s ⟨dst,.convert a b x,ty,pos,af,g⟩ K:=(rfl)
theorem YZ[aw](t:A0)(x:B0):jN P T s ⟨dst,.load t x,ty,pos,af,g⟩ K=ie P T s ⟨dst,.load t x,ty,pos,af,g⟩ K:=(rfl)
theorem BO[aw](t:A0)(x:B0)(f:Nat):jN P T s ⟨dst,.fieldAddr t x f,ty,pos,af,g⟩ K=ie P T s ⟨dst,.fieldAddr t x f,ty,pos,af,g⟩ K:=(rfl)
theorem Mv[aw](t:A0)(x i:B0)(ok:Bool):jN P T s ⟨dst,.lookup t x i ok,ty,pos,af,g⟩ K=ie P T s ⟨dst,.lookup t x i ok,ty,pos,af,g⟩ K:=(rfl)
theorem IQ[aw](t:A0)(r:Option B0):jN P T s ⟨dst,.makeMap t r,ty,pos,af,g⟩ K=ie P T s ⟨dst,.makeMap t r,ty,pos,af,g⟩ K:=(rfl)
theorem BP[aw](t:A0)(m x y:B0):jN P T s ⟨dst,.mapUpdate t m x y,ty,pos,af,g⟩ K=ie P T s ⟨dst,.mapUpdate t m x y,ty,pos,af,g⟩ K:=(rfl)
theorem BQ[aw](t:A0)(x i:B0):jN P T s ⟨dst,.indexAddr t x i,ty,pos,af,g⟩ K=ie P T s ⟨dst,.indexAddr t x i,ty,pos,af,g⟩ K:=(rfl)
theorem Sc[aw](t:A0)(x i:B0):jN P T s ⟨dst,.index t x i,ty,pos,af,g⟩ K=ie P T s ⟨dst,.index t x i,ty,pos,af,g⟩ K:=(rfl)
theorem IR[aw](x:B0)(i:Nat):jN P T s ⟨dst,.extract x i,ty,pos,af,g⟩ K=ie P T s ⟨dst,.extract x i,ty,pos,af,g⟩ K:=(rfl)
theorem Ei[aw](x:B0):jN P T s ⟨dst,.nilCheck x,ty,pos,af,g⟩ K=ie P T s ⟨dst,.nilCheck x,ty,pos,af,g⟩ K:=(rfl)
theorem Ej[aw](f:Fn)(b a:Array B0):jN P T s ⟨dst,.makeFunc f b a,ty,pos,af,g⟩ K=ie P T s ⟨dst,.makeFunc f b a,ty,pos,af,g⟩ K:=(rfl)
theorem Sd[aw](t:A0):jN P T s ⟨dst,.alloc t,ty,pos,af,g⟩ K=ie P T s ⟨dst,.alloc t,ty,pos,af,g⟩ K:=(rfl)
theorem zfN[aw](t:A0)(x:B0):jN P T s ⟨dst,.box t x,ty,pos,af,g⟩ K=ie P T s ⟨dst,.box t x,ty,pos,af,g⟩ K:=(rfl)
theorem Mw[aw](t:A0)(n:Nat):jN P T s ⟨dst,.buildSlice t n ⟨[]⟩,ty,pos,af,g⟩ K=ie P T s ⟨dst,.buildSlice t n ⟨[]⟩,ty,pos,af,g⟩ K:=(rfl)
theorem Mx[aw](t:A0)(n:Nat)(p q:Nat×B0)(l:List (Nat×B0)):jN P T s ⟨dst,.buildSlice t n ⟨p::q::l⟩,ty,pos,af,g⟩ K=ie P T s ⟨dst,.buildSlice t n ⟨p::q::l⟩,ty,pos,af,g⟩ K:=(rfl)
def Za(T:gg)(s:St)(d:Nat)(t:A0)(n i:Nat)(p:PV)(b:St->Prop)(A:Prop):Prop :=
 match p with
 | .own k a=>(match (s.rw k).kind with|.tab _ _=>CB T s d t n i k a b|.sli _ _ _ _=>A\/CB T s d t n i k a b|_=>A)
 | _=>A
theorem My[aw](d:Nat)(t:A0)(n i:Nat)(x:B0):jN P T s ⟨n0 d,.buildSlice t n ⟨[(i,x)]⟩,ty,pos,af,g⟩ K =
 Za T s d t n i (s.ev x) (kk K) (kk (ie P T s ⟨n0 d,.buildSlice t n ⟨[(i,x)]⟩,ty,pos,af,g⟩ K)):=by
 unfold jN Za kk
 grind
theorem zlh(d:Nat)(t:A0)(n i:Nat)(x:E0)(A:Prop):Za T s d t n i (.v x) (kk K) (kk A)=A:=(rfl)
theorem zfO(d:Nat)(t:A0)(n i:Nat)(fr:Bool)(z:Nat)(c:M0)(A:Prop):Za T s d t n i (.sl fr z c) (kk K) (kk A)=A:=(rfl)
def VD(T:gg)(r:Row)(s:St)(d:Nat)(t:A0)(n i k a:Nat)(b:St->Prop)(A:Prop):Prop:=match r.kind with|.tab _ _=>CB T s d t n i k a b|.sli _ _ _ _=>A\/CB T s d t n i k a b|_=>A
theorem Zc(d:Nat)(t:A0)(n i k a:Nat)(A:Prop):Za T s d t n i (.own k a) (kk K) (kk A)=VD T (s.rw k) s d t n i k a (kk K) (kk A):=(rfl)
def An(T:gg)(s:St)(d:Nat)(b:TK)(z n i k a:Nat)(r:Row)(K:St->Prop):Prop:=0<z/\n=1/\i=0/\r.ver=a/\r.kind.slice=k0/\d≠k/\(match b with
 | .sli e=>(T e).size=1/\K ((s.row d ⟨(s.rw d).ver+1,.tab e [.own k a]⟩).put (n0 d) (.own d ((s.rw d).ver+1)))
 | _=>False)
def orB(A B:Prop):Prop:=A\/B
theorem zvl{A B:Prop}{u:Dm A}{v:Dm B}(h:A):orB (kk A u) (kk B v):=.inl h
theorem zfQ{A B:Prop}{u:Dm A}{v:Dm B}(h:B):orB (kk A u) (kk B v):=.inr h
theorem MA(d:Nat)(t:A0)(n i k a v e z:Nat)(b:Bool)(c:M0)(A:Prop):VD T ⟨v,.sli e z b c⟩ s d t n i k a (kk K) (kk A)=orB (kk A) (kk (An T s d (T t).k (T t).size n i k a (s.rw k) K)):=(rfl)
theorem IS(d e k a b z:Nat)(f:Bool)(c:M0)(h:(T e).size=1):An T s d (.sli e) 1 1 0 k a ⟨a,.sli b z f c⟩ K=(d≠k/\K ((s.row d ⟨(s.rw d).ver+1,.tab e [.own k a]⟩).put (n0 d) (.own d ((s.rw d).ver+1)))):=by simp[An,h,RK.slice]
theorem MB(d:Nat)(t:A0)(n i k a v e:Nat)(c:M0)(A:Prop):VD T ⟨v,.tab e c⟩ s d t n i k a (kk K) (kk A)=An T s d (T t).k (T t).size n i k a (s.rw k) K:=(rfl)
theorem IT(d e k a b:Nat)(c:M0)(h:(T e).size=1):An T s d (.sli e) 1 1 0 k a ⟨a,.tab b c⟩ K=(d≠k/\K ((s.row d ⟨(s.rw d).ver+1,.tab e [.own k a]⟩).put (n0 d) (.own d ((s.rw d).ver+1)))):=by simp[An,h,RK.slice]
def Zd(T:gg)(s:St)(d:Nat)(t b:A0)(x:PV)(y:PV)(f:St->Prop)(A:Prop):Prop :=
 match x with
 | .own k a=>(match (s.rw k).kind with|.tab e c=>zpP T s d t b k a e c y f|_=>A)
 | _=>A
def ziu(T:gg)(s:St)(d:Nat)(t a:A0)(x:PV)(y:PV)(c:St->Prop)(A:Prop):Prop :=
 match y with
 | .v (.string b)=>Wa T s d t a x b c
 | _=>Zd T s d t a x y c A
theorem MC[aw](d:Nat)(x y:B0)(t a:A0):jN P T s ⟨n0 d,.call ⟨.builtin .append,⟨[x,y]⟩,⟨[t,a]⟩⟩,ty,pos,af,g⟩ K =
 ziu T s d t a (s.ev x) (s.ev y) (kk K) (kk (ie P T s ⟨n0 d,.call ⟨.builtin .append,⟨[x,y]⟩,⟨[t,a]⟩⟩,ty,pos,af,g⟩ K)):=by
 unfold jN ziu Zd kk
 grind
theorem Ze(d:Nat)(t b:A0)(x:PV)(k a:Nat)(A:Prop):ziu T s d t b x (.own k a) (kk K) (kk A)=Zd T s d t b x (.own k a) (kk K) (kk A):=(rfl)
theorem zfR(d:Nat)(t a:A0)(x:PV)(fr:Bool)(z:Nat)(c:M0)(A:Prop):ziu T s d t a x (.sl fr z c) (kk K) (kk A)=Zd T s d t a x (.sl fr z c) (kk K) (kk A):=(rfl)
def Zf(T:gg)(r:Row)(s:St)(d:Nat)(h:TK)(z:Nat)(a:TK)(i k f:Nat)(b:P0)(K:St->Prop):Prop :=
 0<z/\0<i/\a=.str/\match h with
 | .sli e=>(T e).size=1/\0<(T e).bytes/\(r.ver=f/\(match r.kind with
  | .nil=>b.size*(T e).bytes<=140737488355328/\K (ma s d k (.sli e (T e).size l0 (lT b)))
  | .sli j g l0 c=>j=e/\g=(T e).size/\(lh c+b.size)*(T e).bytes<=140737488355328/\K (ma s d k (.sli e (T e).size l0 (c++lT b)))
  | _=>False))
 | _=>False
theorem Zg(d:Nat)(t c:A0)(k a:Nat)(b:P0)(A:Prop):ziu T s d t c (.own k a) (.v (.string b)) (kk K) (kk A)=Zf T (s.rw k) s d (T t).k (T t).size (T c).k (T c).size k a b (kk K):=(rfl)
theorem Sg(d k a e:Nat)(c:M0)(b:P0)(h:(T e).size=1)(f:(T e).bytes=1):Zf T ⟨a,.sli e 1 l0 c⟩ s d (.sli e) 1 .str 1 k a b (kk K) =
 (lh c+b.size<=140737488355328/\K (ma s d k (.sli e 1 l0 (c++lT b)))):=by
 simp[Zf,h,f,kk]
theorem zli(d:Nat)(t a:A0)(x:E0)(y:PV)(A:Prop):Zd T s d t a (.v x) y (kk K) (kk A)=A:=(rfl)
def KX(T:gg)(r:Row)(s:St)(d:Nat)(t b:A0)(k a:Nat)(y:PV)(f:St->Prop)(A:Prop):Prop:=match r.kind with|.tab e c=>zpP T s d t b k a e c y f|_=>A
theorem Zh(d:Nat)(t b:A0)(k a:Nat)(y:PV)(A:Prop):Zd T s d t b (.own k a) y (kk K) (kk A)=KX T (s.rw k) s d t b k a y (kk K) (kk A):=(rfl)
theorem IU(d:Nat)(t b:A0)(k a v e z:Nat)(f:Bool)(c:M0)(y:PV)(A:Prop):KX T ⟨v,.sli e z f c⟩ s d t b k a y (kk K) (kk A)=A:=(rfl)
def zlj(T:gg)(s:St)(d:Nat)(f:TK)(z k b e:Nat)(r:Row)(c:M0)(y:PV)(K:St->Prop):Prop :=
 0<z/\f=.sli e/\(T e).size=1/\0<(T e).bytes/\r.ver=b/\TM s.rw y λa=>(lh c+lh a)*(T e).bytes<=140737488355328/\K (ma s d k (.tab e (c++a)))
theorem IX(d:Nat)(t:A0)(k a v e:Nat)(c:M0)(y:PV)(A:Prop):KX T ⟨v,.tab e c⟩ s d t t k a y (kk K) (kk A)=zlj T s d (T t).k (T t).size k a e (s.rw k) c y (kk K):=propext ⟨λh=>h.2,λh=>⟨rfl,h⟩⟩
theorem Si(d k b e f:Nat)(c g:M0)(y:PV)(h:(T e).size=1)(i:0<(T e).bytes):zlj T s d (.sli e) 1 k b e ⟨b,.tab f g⟩ c y (kk K) =
 TM s.rw y (kk λa=>(lh c+lh a)*(T e).bytes<=140737488355328/\K (ma s d k (.tab e (c++a)))):=by
 simp[zlj,h,i,kk]
def ME(r:Row)(rw:S0)(v:Nat)(Kc:M0->Prop):Prop:=r.ver=v/\(match r.kind with
 | .sli _ a _ c=>a=1/\(∀p∈c,NL p=k0)/\Kc c
 | .tab _ c=>(∀p∈c,qz rw p)/\Kc c
 | _=>False)
theorem Sj(rw:S0)(j v:Nat)(Kc:M0->Prop):TM rw (.own j v) (kk Kc)=ME (rw j) rw v (kk Kc):=(rfl)
theorem Sk[aw](rw:S0)(v e:Nat)(b:Bool)(a:N0)(Kc:M0->Prop):ME ⟨v,.sli e 1 b (iL a)⟩ rw v (kk Kc)=Kc (iL a):=by simp[ME,zcM a,kk]
theorem MF(rw:S0)(v e k a:Nat)(Kc:M0->Prop):ME ⟨v,.tab e [.own k a]⟩ rw v (kk Kc)=(qz rw (.own k a)/\Kc [.own k a]):=by simp[ME,kk]
theorem Sl[aw](t:A0)(parts:Array (Nat×B0)):jN P T s ⟨dst,.build t parts,ty,pos,af,g⟩ K=ie P T s ⟨dst,.build t parts,ty,pos,af,g⟩ K:=(rfl)
theorem Sm[aw](t:A0)(a x:B0):jN P T s ⟨dst,.store t a x,ty,pos,af,g⟩ K=ie P T s ⟨dst,.store t a x,ty,pos,af,g⟩ K:=(rfl)
theorem Zi[aw](t:A0)(l c:B0):jN P T s ⟨dst,.makeSlice t l c,ty,pos,af,g⟩ K=ie P T s ⟨dst,.makeSlice t l c,ty,pos,af,g⟩ K:=(rfl)
theorem Sn[aw](t:A0)(x:B0)(a b c:Option B0):jN P T s ⟨dst,.slice t x a b c,ty,pos,af,g⟩ K=ie P T s ⟨dst,.slice t x a b c,ty,pos,af,g⟩ K:=(rfl)
theorem IY[aw](a:BinOp)(t b:A0)(x:B0)(y:Nat):jN P T s ⟨dst,.binOp a t x (.tmp y) b,ty,pos,af,g⟩ K=ie P T s ⟨dst,.binOp a t x (.tmp y) b,ty,pos,af,g⟩ K:=by cases a<;>rfl
theorem IZ[aw](a:BinOp)(t b:A0)(x:B0)(k:D0)(n:Int):jN P T s ⟨dst,.binOp a t x (.const (.int k n)) b,ty,pos,af,g⟩ K=ie P T s ⟨dst,.binOp a t x (.const (.int k n)) b,ty,pos,af,g⟩ K:=by cases a<;>rfl
theorem yz[aw](a:BinOp)(t c:A0)(x:B0)(b:P0):jN P T s ⟨dst,.binOp a t x (.const (.string b)) c,ty,pos,af,g⟩ K=ie P T s ⟨dst,.binOp a t x (.const (.string b)) c,ty,pos,af,g⟩ K:=by cases a<;>rfl
end
section
variable {dst:Option Nat}{ty:A0}{pos:String}{af:Array Edge}{g:Option (Nat×Bool)}{Ke:Ent->St->Prop}
theorem zfT[aw](x:B0):dK P T s ⟨dst,.move x,ty,pos,af,g⟩ (kk Ke)=Ai (s.ev x) (kk λp=>Ke ⟨[],.ids []⟩ (s.put dst p)):=(rfl)
theorem So[aw](x:B0):dK P T s ⟨dst,.assign x,ty,pos,af,g⟩ (kk Ke)=Ai (s.ev x) (kk λp=>Ke ⟨[],.ids []⟩ (s.put dst p)):=(rfl)
theorem zfU[aw](c x y:B0):dK P T s ⟨dst,.pick c x y,ty,pos,af,g⟩ (kk Ke)=zfm (s.ev c) (kk (Ai (s.ev x) (kk λp=>Ke ⟨[],.ids []⟩ (s.put dst p)))) (kk (Ai (s.ev y) (kk λp=>Ke ⟨[],.ids []⟩ (s.put dst p)))):=(rfl)
theorem zlk[aw](a:BinOp)(t b:A0)(x y:B0):dK P T s ⟨dst,.binOp a t x y b,ty,pos,af,g⟩ (kk Ke)=iu T a t (s.ev x) (s.ev y) (kk λp=>Ke ⟨[],.ids []⟩ (s.put dst p)):=(rfl)
theorem zsk[aw](a:UnOp)(t:A0)(x:B0):dK P T s ⟨dst,.unOp a t x,ty,pos,af,g⟩ (kk Ke)=unK a (s.ev x) (kk λp=>Ke ⟨[],.ids []⟩ (s.put dst p)):=(rfl)
theorem MG[aw](a b:A0)(x:B0):dK P T s ⟨dst,.convert a b x,ty,pos,af,g⟩ (kk Ke)=iJ [s.ev x] [] (kk λl=>rf T s.rw a b (s.ev x) (kk λp=>Ke ⟨l,.ids []⟩ (s.put dst p))):=(rfl)
theorem zfV[aw](t:A0)(x:B0):dK P T s ⟨dst,.load t x,ty,pos,af,g⟩ (kk Ke)=iJ [s.ev x] [] (kk λl=>Bh s.rw (s.ev x) (kk λm c a=>qt T t m c a (kk λp=>Ke ⟨l,.ids []⟩ (s.put dst p)))):=(rfl)
theorem El[aw](t:A0)(x:B0)(f:Nat):dK P T s ⟨dst,.fieldAddr t x f,ty,pos,af,g⟩ (kk Ke) =
 iJ [s.ev x] [] (kk λl=>oP T t f (kk λo _=>yN (s.ev x)=k0/\ml s.rw (s.ev x) (kk (Ai (pP (s.ev x) o) (kk λp=>Ke ⟨l,.ids []⟩ (s.put dst p)))))):=(rfl)
theorem Zj[aw](t:A0)(x:B0)(f:Nat):dK P T s ⟨dst,.field t x f,ty,pos,af,g⟩ (kk Ke) =
 agK (s.ev x) (kk λc=>oP T t f (kk λo a=>qt T a .asis c o (kk λp=>Ke ⟨[],.ids []⟩ (s.put dst p)))):=GO (P:=P) t x f
theorem Em[aw](t:A0)(x y:B0):dK P T s ⟨dst,.indexAddr t x y,ty,pos,af,g⟩ (kk Ke)=iJ [s.ev x,s.ev y] [] (kk λl=>iE T s.rw t (s.ev x) (s.ev y) (kk λp=>Ke ⟨l,.ids []⟩ (s.put dst p))):=(rfl)
theorem Zk[aw](t:A0)(x y:B0):dK P T s ⟨dst,.index t x y,ty,pos,af,g⟩ (kk Ke)=VB T t (s.ev x) (s.ev y) (kk λp=>Ke ⟨[],.ids []⟩ (s.put dst p)):=(rfl)
theorem MH[aw](x:B0)(n:Nat):dK P T s ⟨dst,.extract x n,ty,pos,af,g⟩ (kk Ke)=zs5 (s.ev x) (kk λa=>n<lh a/\Ai (lg a n .junk) (kk λp=>Ke ⟨[],.ids []⟩ (s.put dst p))):=(rfl)
theorem Jb[aw](x:B0):dK P T s ⟨dst,.nilCheck x,ty,pos,af,g⟩ (kk Ke)=iJ [s.ev x] [] (kk λl=>ml s.rw (s.ev x) (kk (Ai (s.ev x) (kk λp=>Ke ⟨l,.ids []⟩ (s.put dst p))))):=(rfl)
theorem zll[aw](x:B0)(t:A0):dK P T s ⟨dst,.call ⟨.builtin .len,#[x],#[t]⟩,ty,pos,af,g⟩ (kk Ke)=iJ [s.ev x] [] (kk λl=>NP T s.rw t (s.ev x) (kk λp=>Ke ⟨l,.ids []⟩ (s.put dst p))):=(rfl)
theorem zlm[aw](x y:B0)(a:Array A0):dK P T s ⟨dst,.call ⟨.builtin .max,#[x,y],a⟩,ty,pos,af,g⟩ (kk Ke)=iJ [s.ev x,s.ev y] [] (kk λl=>mI k0 (s.ev x) (s.ev y) (kk λp=>Ke ⟨l,.ids []⟩ (s.put dst p))):=(rfl)
theorem Sr[aw](t:A0)(x a:B0):dK P T s ⟨dst,.slice t x (n0 a) o0 o0,ty,pos,af,g⟩ (kk Ke)=iJ [s.ev x,s.ev a] [] (kk λl=>gO T s.rw s.ev t (s.ev x) (n0 a) o0 o0 (kk λp=>Ke ⟨l,.ids []⟩ (s.put dst p))):=(rfl)
def MI(T:gg)(s:St)(dst:Option Nat)(t:A0)(x c:B0)(r:Row)(k a:Nat)(b:PV)(Ke:Ent->St->Prop):Prop :=
 match r.kind with
 | .sli _ _ l0 _=>zvo T s dst t r k a b Ke
 | _=>iJ [.own k a,b] [] (kk λl=>gO T s.rw s.ev t (.own k a) o0 (n0 c) o0 (kk λp=>Ke ⟨l,.ids []⟩ (s.put dst p)))
def zlo(T:gg)(s:St)(dst:Option Nat)(t:A0)(x c:B0)(a d:PV)(Ke:Ent->St->Prop):Prop :=
 match a with
 | .own k b=>MI T s dst t x c (s.rw k) k b d Ke
 | _=>iJ [a,d] [] (kk λl=>gO T s.rw s.ev t a o0 (n0 c) o0 (kk λp=>Ke ⟨l,.ids []⟩ (s.put dst p)))
theorem Zl(t:A0)(x b:B0)(k a:Nat)(c:PV):zlo T s dst t x b (.own k a) c (kk Ke)=MI T s dst t x b (s.rw k) k a c (kk Ke):=(rfl)
def zvm(T:gg)(t e:A0):Prop:=0<(T t).size/\(T t).k=.sli e/\0<(T e).size/\(T e).size=1
theorem Jc(t:A0)(x g:B0)(v e:Nat)(c:M0)(k a d:Nat)(f:D0)(m:Int):MI T s (n0 d) t x g ⟨v,.sli e 1 l0 c⟩ k a (.v (.int f m)) (kk Ke) =
 (v=a/\zvm T t e/\0<=m/\m<=(lh c:Int)/\Ke ⟨[],.ids [k]⟩ ((s.row k ⟨a+1,.sli e 1 l0 (c.take m.toNat)⟩).put (n0 d) (.own k (a+1)))):=by
 refine propext ⟨λh=>?_,λ⟨i,⟨j,l,n,o⟩,p,q,r⟩=>⟨d,e,c,f,m,rfl,by rw[i],j,l,n,o,rfl,p,q,r⟩⟩
 have⟨G,H,I,u,J,w,y,z,A,B,C,D,E,F,b⟩:=h
 cases w;cases y;cases D
 exact⟨rfl,⟨z,A,B,C⟩,E,F,b⟩
theorem Su[aw](t:A0)(x a:B0):dK P T s ⟨dst,.slice t x o0 (n0 a) o0,ty,pos,af,g⟩ (kk Ke)=zlo T s dst t x a (s.ev x) (s.ev a) (kk Ke):=by
 have b:(pD T s.rw s.ev (.slice t x o0 (n0 a) o0) λp=>Ke ⟨EC s ⟨dst,.slice t x o0 (n0 a) o0,ty,pos,af,g⟩,.ids []⟩<|s.put dst p)=iJ [s.ev x,s.ev a] [] (kk λl=>gO T s.rw s.ev t (s.ev x) o0 (n0 a) o0<|kk λp=>Ke ⟨l,.ids []⟩<|s.put dst p):=(rfl);show zpH T s _ t (s.ev x) (s.ev a) (kk Ke)=_;cases d:s.ev x with
 | own k f =>
   rw[d]at b;unfold zpH zlo MI;dsimp only;generalize s.rw k=r;cases r with
   | mk v h =>
     cases h with
     | sli e z i c=>cases i with
       | false=>rfl
       | true=>exact b
     | _=>exact b
 | _=>rw[d]at b;exact b
theorem Zm[aw](t:A0)(parts:List (Nat×B0)):dK P T s ⟨dst,.build t ⟨parts⟩,ty,pos,af,g⟩ (kk Ke)=iJ (evs s parts) [] (kk λl=>zld T s.rw (T t).k (T t).size (T t).zero (zis s parts) (kk λp=>Ke ⟨l,.ids []⟩ (s.put dst p))):=by
 have e:((Op.build t ⟨parts⟩).operands.toList.map s.ev).flatMap kR=(evs s parts).flatMap kR:=by simp[Op.operands];rfl
 show pD T _ _ (.build t _) (λp=>Ke ⟨((Op.build t _).operands.toList.map _).flatMap kR,.ids []⟩<|s.put dst p)=_;rw[e];exact(zle t _<|λp=>Ke _<|s.put dst p)
def zcQ[aw](P:G0)(f:F0)(a:M0)(d:Nat)(s:St)(Ke:Ent->St->Prop):Prop:=zsw P s f a d (λb k c=>Ke ⟨b,.ids [d,k]⟩ c)
theorem zpA[aw]{c lent:M0}{k v e g d:Nat}{b:List M0}{us:Dm s}{i:Dm Ke}(h:AT P q m e g z b (.rv I))(j:GiveL [(k,v)] c m)(l:TabIs s.rw k v e g L z)(r:L.Nodup)(n:d%1000≠k%1000)(o:Ke ⟨[],.ids [d,k]⟩ (br (s.killed k L) d I)):nn P q lent u (zcQ P q c d (kk s us) (kk Ke i)) :=
 .inr<|.inl ⟨k,v,e,g,L,z,b,m,I,h,j,l,r,n,o⟩
theorem Zn[aw]{a c head out lent:M0}{j i d:Nat}{us:Dm s}{ok:Dm Ke}(h:AF P q m head r out R)(p:zlQ m a)(g:c=a++[.own j i])(n:s.rw j=⟨i,.sli r 1 l0 head⟩)(e:plain head)(o:d%1000≠j%1000)(k:j<1000000)(t:Ke ⟨[],.ids [d,j]⟩ (((s.row j ⟨i+1,.dead⟩).row d ⟨(s.rw d).ver+1,.sli r 1 l0 out⟩).put (n0 d) (.tup [.own d ((s.rw d).ver+1),.v (.bool R)]))):nn P q lent u (zcQ P q c d (kk s us) (kk Ke ok)):=by
 have l:((s.row j ⟨(s.rw j).ver+1,.dead⟩).rw d)=s.rw d:=bu _ _ λh=>o<|om
 have b:Ke ⟨[],.ids [d,j]⟩ (br (s.killed j []) d<|VO r out R):=by rwa[zlR,Ny,l,n]
 exact .inr<|.inr<|.inl ⟨j,i,r,m,a,head,out,R,h,p,g,n,e,o,k,b⟩
theorem zjC[aw]{f:F0}{b lent:M0}{k d:Nat}{x:RV}{r:Row}{i:RV->Prop}{us:Dm s}{u:Dm Ke}(e:O0)(h:∀c:St,c.rw k=s.rw k->(∀a∈e,c.rw a=s.rw a)->∀g:St->Prop,g (br (c.row k r) d x)->askG P c f b (n0 d) g)(j:d%1000≠k%1000)(l:Ke ⟨e,.ids [d,k]⟩ (br (s.row k r) d x)):nn P f lent i (zcQ P f b d (kk s us) (kk Ke u)):=.inr (.inr (.inr ⟨e,k,x,r,o0,h,j,l⟩))
theorem Zo[aw]{lent:M0}{d:Nat}{p:PV}{k:Row}{us:Dm s}{e:Dm Ke}(h:∀b:St,b.rw r=s.rw r->∀c:St->Prop,c ((b.row r k).put (n0 d) p)->askG P b q m (n0 d) c)(g:d%1000≠r%1000)(i:Ke ⟨[],.ids [d,r]⟩ ((s.row r k).put (n0 d) p)):nn P q lent u (zcQ P q m d (kk s us) (kk Ke e)):=.inr<|.inr<|.inr ⟨[],r,.im .junk,k,n0 p,λb j _=>h b j,g,i⟩
theorem zfX[aw](d:Nat)(f:B0)(args:List B0)(b:Array A0):dK P T s ⟨n0 d,.call ⟨.value f,⟨args⟩,b⟩,ty,pos,af,g⟩ (kk Ke) =
 lS s.rw 3 (Ml s args) [] (kk λl=>lS s.rw 4 [s.ev f] l (kk λc=>Qg (s.ev f) (kk λg a=>nn P g (uu s args++a.map (gk s.rw 3)) (kk λrv=>Ke ⟨c,.res d⟩ (br s d rv)) (zcQ P g (Ml s args++a) d (kk s) (kk Ke))))):=by
 simp only[lS,zfh,cE,kD,bh]
 show(oM P _ _ f _ _\/tdK P s f _ d Ke)=_
 unfold oM tdK Qg nn zcQ kk
 cases s.ev f<;>first|rfl|simp|skip
theorem Sw[aw](d:Nat)(x y:B0)(t a:A0):dK P T s ⟨n0 d,.call ⟨.builtin .append,#[x,y],#[t,a]⟩,ty,pos,af,g⟩ (kk Ke) =
 iJ [s.ev y] [] (kk λl=>iJ [s.ev x] [d] (kk λb=>ie P T s ⟨n0 d,.call ⟨.builtin .append,#[x,y],#[t,a]⟩,ty,pos,af,g⟩ (Ke ⟨l,.ids b⟩))):=by
 have e:∀p:PV,[p].flatMap kR=kR p:=λp=>sp
 simp[iJ,kk]
 rfl
theorem Zp[aw](d:Nat)(t:A0):dK P T s ⟨n0 d,.alloc t,ty,pos,af,g⟩ (kk Ke)=ie P T s ⟨n0 d,.alloc t,ty,pos,af,g⟩ (Ke ⟨[],.ids [d]⟩):=(rfl)
theorem BR[aw](d:Nat)(t:A0)(n:Nat)(parts:List (Nat×B0)):dK P T s ⟨n0 d,.buildSlice t n ⟨parts⟩,ty,pos,af,g⟩ (kk Ke)=iJ (evs s parts) [d] (kk λl=>ie P T s ⟨n0 d,.buildSlice t n ⟨parts⟩,ty,pos,af,g⟩ (Ke ⟨[],.ids l⟩)):=(rfl)
theorem Zq[aw](t:A0)(a x:B0):dK P T s ⟨dst,.store t a x,ty,pos,af,g⟩ (kk Ke)=iJ [s.ev a,s.ev x] [] (kk λl=>ie P T s ⟨dst,.store t a x,ty,pos,af,g⟩ (Ke ⟨[],.ids l⟩)):=by have e:[s.ev a,s.ev x].flatMap kR=kR (s.ev a)++kR (s.ev x):=sp;simp[iJ];rfl
end
def TK.isInt:TK->Bool|.int _=>k0|_=>l0
theorem zfZ(k:D0):TK.isInt (.int k)=true:=(rfl)
theorem zf0(k:D0):TK.agg (.int k)=false:=(rfl)
theorem Zs:TK.agg (.bool)=false:=(rfl)
theorem zf2:TK.agg (.str)=false:=(rfl)
theorem zf4(e:A0):TK.agg (.sli e)=false:=(rfl)
theorem MK(f:List (Nat×A0)):TK.agg (.struct f)=true:=(rfl)
theorem zf8(k e:A0):TK.agg (.map k e)=false:=(rfl)
theorem Sy:TK.agg (.other)=false:=(rfl)
section
variable {Kp:PV->Prop}{rw:S0}
section
variable (t:A0)(k:D0)(a b:Int)
theorem zf9:iu T .add t (.v (.int k a)) (.v (.int k b)) Kp=Kp (.v (.int k (k.wrap (a+b)))):=by simp[iu,iw,jm]
theorem zga:iu T .sub t (.v (.int k a)) (.v (.int k b)) Kp=Kp (.v (.int k (k.wrap (a-b)))):=by simp[iu,iw,jm]
theorem zgb:iu T .mul t (.v (.int k a)) (.v (.int k b)) Kp=Kp (.v (.int k (k.wrap (a*b)))):=by simp[iu,iw,jm]
theorem zgc:iu T .quo t (.v (.int k a)) (.v (.int k b)) Kp=(b≠0/\Kp (.v (.int k (k.wrap (a.tdiv b))))):=by simp[iu,iw,jm]
theorem zgd:iu T .rem t (.v (.int k a)) (.v (.int k b)) Kp=(b≠0/\Kp (.v (.int k (a.tmod b)))):=by simp[iu,iw,jm]
theorem zge:iu T .and t (.v (.int k a)) (.v (.int k b)) Kp=Kp (.v (.int k (fu k a b))):=by simp[iu,iw,jm]
theorem zlr:iu T .or t (.v (.int k a)) (.v (.int k b)) Kp=Kp (.v (.int k (EX k a b))):=by simp[iu,iw,jm]
theorem zpB:iu T .xor t (.v (.int k a)) (.v (.int k b)) Kp=Kp (.v (.int k (zl4 k a b))):=by simp[iu,iw,jm]
theorem ML:iu T .andNot t (.v (.int k a)) (.v (.int k b)) Kp=Kp (.v (.int k (gU k a b))):=by simp[iu,iw,jm]
theorem zgg(c:D0):iu T .shl t (.v (.int k a)) (.v (.int c b)) Kp=(0<=b/\Kp (.v (.int k (jl k a b)))):=rfl
theorem zgh(c:D0):iu T .shr t (.v (.int k a)) (.v (.int c b)) Kp=(0<=b/\Kp (.v (.int k (wH k a b)))):=rfl
theorem zgi:iu T .eql t (.v (.int k a)) (.v (.int k b)) Kp=Kp (.v (.bool (a==b))):=by simp[iu,iw,jm]
theorem zgj:iu T .neq t (.v (.int k a)) (.v (.int k b)) Kp=Kp (.v (.bool (a != b))):=by simp[iu,iw,jm]
theorem zgk:iu T .lss t (.v (.int k a)) (.v (.int k b)) Kp=Kp (.v (.bool (decide (a<b)))):=by simp[iu,iw,jm]
theorem zgl:iu T .leq t (.v (.int k a)) (.v (.int k b)) Kp=Kp (.v (.bool (decide (a<=b)))):=by simp[iu,iw,jm]
theorem zgm:iu T .gtr t (.v (.int k a)) (.v (.int k b)) Kp=Kp (.v (.bool (decide (b<a)))):=by simp[iu,iw,jm]
theorem zgn:iu T .geq t (.v (.int k a)) (.v (.int k b)) Kp=Kp (.v (.bool (decide (b<=a)))):=by simp[iu,iw,jm]
end
theorem Jd(t:A0)(a b:P0):iu T .eql t (.v (.string a)) (.v (.string b)) Kp=Kp (.v (.bool (a.toList==b.toList))):=by simp[iu,Hk]
theorem Je(t:A0)(a b:P0):iu T .neq t (.v (.string a)) (.v (.string b)) Kp=Kp (.v (.bool (!(a.toList==b.toList)))):=by simp[iu,Hk]
theorem Jf(t:A0)(a b:P0):iu T .add t (.v (.string a)) (.v (.string b)) Kp=(a.size+b.size<=9223372036854775807/\Kp (.v (.string (a++b)))):=by simp[iu,Hk]
theorem zls(b:Bool):unK .not (.v (.bool b)) Kp=Kp (.v (.bool !b)):=(rfl)
theorem zlt(k:D0)(n:Int):unK .neg (.v (.int k n)) Kp=Kp (.v (.int k (k.wrap (0-n)))):=(rfl)
theorem Zu(fr:Bool)(c:M0)(a:Nat)(b:Md->M0->Nat->Prop):Bh rw (.eref fr c a) b=b (.set fr) c a:=(rfl)
def Cq(r:Row)(b a:Nat)(d:Md->M0->Nat->Prop):Prop:=r.ver=b/\match r.kind with|.box _ c=>d .asis c a|.sli _ _ _ c=>d (.set k0) c a|.tab _ c=>d .asis c a|_=>False
theorem zgo(j a b:Nat)(c:Md->M0->Nat->Prop):Bh rw (.ref j a b) c=Cq (rw j) a b c:=(rfl)
theorem MM(a b:Nat)(e:A0)(c:M0)(d:Md->M0->Nat->Prop):Cq ⟨a,.box e c⟩ a b d=d .asis c b:=by simp[Cq]
theorem MN(a b e:Nat)(c:M0)(d:Md->M0->Nat->Prop):Cq ⟨a,.tab e c⟩ a b d=d .asis c b:=by simp[Cq]
theorem MO(a b e f:Nat)(g:Bool)(c:M0)(d:Md->M0->Nat->Prop):Cq ⟨a,.sli e f g c⟩ a b d=d (.set k0) c b:=by simp[Cq]
def yA(r:Row)(a:Nat)(K:PV->Prop):Prop:=r.ver=a/\match r.kind with|.nil=>K (.v (.int .i64 0))|.sli _ b _ c=>0<b/\K (.v (.int .i64 ((lh c/b:Nat):Int)))|.tab _ c=>K (.v (.int .i64 (lh c:Int)))|_=>False
def zcR(rw:S0)(k:TK)(z:Nat)(x:PV)(K:PV->Prop):Prop :=
 0<z/\match k with
 | .str=>(match x with|.v (.string s)=>K (.v (.int .i64 s.size))|_=>False)
 | .sli _=>Kk rw x λa n=>0<a/\K (.v (.int .i64 ((n/a:Nat):Int)))
 | .arr n _=>K (.v (.int .i64 n))
 | _=>False
theorem zlu(t:A0)(x:PV):NP T rw t x Kp=zcR rw (T t).k (T t).size x Kp:=(rfl)
theorem zgp(b:P0):zcR rw .str 1 (.v (.string b)) Kp=Kp (.v (.int .i64 b.size)):=by simp[zcR]
theorem zlv(e:A0)(fr:Bool)(c:M0):zcR rw (.sli e) 1 (.sl fr 1 c) Kp=Kp (.v (.int .i64 (lh c:Int))):=by simp[zcR,Kk]
theorem zgq(e:A0)(j a:Nat):zcR rw (.sli e) 1 (.own j a) Kp=yA (rw j) a Kp:=by simp[zcR,Kk,yA];grind
theorem MP(a e:Nat)(b:Bool)(c:M0):yA ⟨a,.sli e 1 b c⟩ a Kp=Kp (.v (.int .i64 (lh c:Int))):=by simp[yA]
theorem MQ(a e:Nat)(c:M0):yA ⟨a,.tab e c⟩ a Kp=Kp (.v (.int .i64 (lh c:Int))):=by simp[yA]
def VE(T:gg)(t:A0)(r:Row)(b:Nat)(a:Int)(K:PV->Prop):Prop:=r.ver=b/\match r.kind with|.mp f=>zaV T t/\K (.v (.int .i64 (f a)))|_=>False
theorem Zv(t:A0)(j b:Nat)(a:Int):xE T rw t (.own j b) (.v (.int .u64 a)) Kp=VE T t (rw j) b a Kp:=(rfl)
theorem MS(t:A0)(b:Nat)(f:Int->Int)(a:Int):VE T t ⟨b,.mp f⟩ b a Kp=(zaV T t/\Kp (.v (.int .i64 (f a)))):=by simp[VE]
def zcS(T:gg)(t:A0)(r:Row)(a:Nat)(K:(Int->Int)->Prop):Prop:=r.ver=a/\match r.kind with|.mp f=>zaV T t/\K f|_=>False
theorem zgr{s:St}{K:St->Prop}(t:A0)(j b:Nat)(a v:Int):ziX T s t (.own j b) (.v (.int .u64 a)) (.v (.int .i64 v)) (kk K)=zcS T t (s.rw j) b (kk λf=>K (s.row j ⟨b,.mp (yO f a v)⟩)):=(rfl)
theorem Sz(t:A0)(a:Nat)(f:Int->Int)(K:(Int->Int)->Prop):zcS T t ⟨a,.mp f⟩ a (kk K)=(zaV T t/\K f):=by simp[zcS,kk]
def iaD(T:gg)(rw:S0)(d:TK)(z:Nat)(x i:PV)(K:PV->Prop):Prop :=
 match i with
 | .v (.int _ n) =>
   0<z/\match d with
   | .sli e =>
     (match x with
     | .sl fr a c=>0<(T e).size/\a=(T e).size/\0<=n/\n.toNat*a<lh c/\K (.eref fr c (n.toNat*a))
     | .own k b=>(rw k).ver=b/\match (rw k).kind with|.sli _ a _ c=>0<(T e).size/\a=(T e).size/\0<=n/\n.toNat*a<lh c/\K (.ref k b (n.toNat*a))|.tab _ c=>(T e).size=1/\0<=n/\n.toNat<lh c/\K (.ref k b n.toNat)|_=>False
     | _=>False)
   | .arr len e=>yN x=k0/\0<(T e).size/\0<=n/\n<len/\ml rw x (K (pP x (n.toNat*(T e).size)))
   | _=>False
 | _=>False
theorem zsl(t:A0)(x i:PV):iE T rw t x i Kp=iaD T rw (T t).k (T t).size x i Kp:=(rfl)
theorem zsm(fr:Bool)(c:M0)(n:Int)(d:(T h).size=1) :
 iaD T rw (.sli h) 1 (.sl fr 1 c) (.v (.int C n)) Kp=(0<=n/\n<(lh c:Int)/\Kp (.eref fr c n.toNat)):=by
 simp_all[iaD]
def SA(r:Row)(j a:Nat)(n:Int)(K:PV->Prop):Prop:=r.ver=a/\match r.kind with|.sli _ b _ c=>b=1/\0<=n/\n<(lh c:Int)/\K (.ref j a n.toNat)|.tab _ c=>0<=n/\n<(lh c:Int)/\K (.ref j a n.toNat)|_=>False
theorem zlw(j c:Nat)(n:Int)(d:(T h).size=1) :
 iaD T rw (.sli h) 1 (.own j c) (.v (.int C n)) Kp=SA (rw j) j c n Kp:=by
 simp[iaD,d,SA]
 grind
theorem zgs(len z j a b:Nat)(n:Int)(c:(T h).size=1):iaD T rw (.arr len h) (z+1) (.ref j a b) (.v (.int C n)) Kp=(0<=n/\n<(len:Int)/\ml rw (.ref j a b) (kk (Kp (.ref j a (b+n.toNat))))):=by simp[iaD,c,yN,pP,kk]
theorem zlx[aw](len z j a b:Nat)(n:Int)(c:(T h).size=1):iaD T rw (.arr len h) (z+1) (.ref j a (b+1)) (.v (.int C n)) Kp=(0<=n/\n<(len:Int)/\ml rw (.ref j a (b+1)) (kk (Kp (.ref j a (b+1+n.toNat))))):=zgs _ _ _ _ _ _ c
theorem SB(j a e:Nat)(c:M0)(n:Int):SA ⟨a,.tab e c⟩ j a n Kp=(0<=n/\n<(lh c:Int)/\Kp (.ref j a n.toNat)):=by simp[SA]
theorem SC(j a e:Nat)(b:Bool)(c:M0)(n:Int):SA ⟨a,.sli e 1 b c⟩ j a n Kp=(0<=n/\n<(lh c:Int)/\Kp (.ref j a n.toNat)):=by simp[SA]
theorem tt{h:Type}(f:h->PV)(d:h)(c:List h){t:A0}{m:Md}(o:Nat)(g:h->PV)(j:∀x,m.fix (f x)=g x)(k:(T t).k.agg=l0)(l:0<(T t).size) :
 qt T t m (c.map f) o Kp=(o<lh c/\Kp (g (lg c o d))):=by
 simp_all[qt]
theorem SD(m:Md)(v:E0):m.fix (.v v)=.v v:=by cases m<;>rfl
theorem Zw:Md.asis.fix p=p:=(rfl)
theorem zsn[aw](a:N0)(o:Nat)(b:(T h).k.agg=l0)(c:0<(T h).size):qt T h H (iL a) o Kp=(o<lh a/\Kp (.v (.int .i64 (lg a o 0)))) :=
 tt _ 0 a o _ (λx=>SD H _) b c
theorem zwi[aw](k:D0)(a:N0)(o:Nat)(b:(T h).k.agg=l0)(c:0<(T h).size):qt T h H (kL k a) o Kp=(o<lh a/\Kp (.v (.int k (lg a o 0)))) :=
 tt _ 0 a o _ (λx=>SD H _) b c
theorem zsp[aw](a:List Bool)(o:Nat)(b:(T h).k.agg=l0)(c:0<(T h).size):qt T h H (bL a) o Kp=(o<lh a/\Kp (.v (.bool (lg a o l0)))) :=
 tt _ _ a o _ (λx=>SD H _) b c
theorem zsq[aw](a:Q0)(o:Nat)(b:(T h).k.agg=l0)(c:0<(T h).size):qt T h H (sL a) o Kp=(o<lh a/\Kp (.v (.string (lg a o ⟨#[]⟩)))) :=
 tt (λn=>PV.v<|.string n) _ a o _ (λx=>SD H _) b c
theorem zlz[aw](a:List N0)(o:Nat)(b:(T h).k.agg=l0)(c:0<(T h).size):qt T h (.set R) (mF a) o Kp=(o<lh a/\Kp (.sl R 1 (iL (lg a o [])))) :=
 tt _ [] a o _ (λx=>rfl) b c
theorem zsr(p:PV)(c:M0)(a:(T h).k.agg=l0)(b:0<(T h).size):qt T h H (p::c) 0 Kp=Ai (H.fix p) Kp:=by simp[qt,a,b,Ai]
theorem zss(p q:PV)(c:M0)(a:(T h).k.agg=l0)(b:0<(T h).size):qt T h H (p::q::c) 1 Kp=Ai (H.fix q) Kp:=by simp[qt,a,b,Ai]
theorem zst(p q r:PV)(c:M0)(a:(T h).k.agg=l0)(b:0<(T h).size):qt T h H (p::q::r::c) 2 Kp=Ai (H.fix r) Kp:=by simp[qt,a,b,Ai]
theorem zsu(p q r s:PV)(c:M0)(a:(T h).k.agg=l0)(b:0<(T h).size):qt T h H (p::q::r::s::c) 3 Kp=Ai (H.fix s) Kp:=by simp[qt,a,b,Ai]
theorem zgu(p:PV)(a:M0)(o:Nat)(b:(T h).k.agg=k0)(c:0<(T h).size):qt T h H (p::a) o Kp=(o+(T h).size<=(p::a).length/\Ai (.ag ((((p::a).drop o).take (T h).size).map H.fix)) Kp):=by simp[qt,b,c,Ai]
def VF(T:gg)(b:TK)(z:Nat)(f:Nat)(K:Nat->A0->Prop):Prop :=
 0<z/\match b with|.struct c=>(match c[f]? with|some (o,a)=>0<(T a).size/\K o a|none=>False)|_=>False
def zlA(T:gg)(x:Option (Nat×A0))(K:Nat->A0->Prop):Prop:=match x with|some (o,a)=>0<(T a).size/\K o a|none=>False
theorem Zx(t:A0)(f:Nat)(a:Nat->A0->Prop):oP T t f a=VF T (T t).k (T t).size f a:=(rfl)
theorem wy(a:List (Nat×A0))(z f:Nat)(b:Nat->A0->Prop):VF T (.struct a) (z+1) f b=zlA T a[f]? b:=by simp[VF,zlA]
theorem SE(o:Nat)(a:A0)(b:Nat->A0->Prop)(h:0<(T a).size):zlA T (n0 (o,a)) b=b o a:=by simp[zlA,h]
def Ao(r:Row)(a:Nat)(A:Prop):Prop:=r.ver=a/\r.kind.nd=k0/\A
theorem Zz(j a o:Nat)(A:Prop):ml rw (.ref j a o) A=Ao (rw j) a A:=(rfl)
theorem Jg(a:Nat)(b:A0)(c:M0)(A:Prop):Ao ⟨a,.box b c⟩ a (kk A)=A:=by simp[Ao,RK.nd,kk]
theorem SG:yN (.ref j i o)=true:=(rfl)
theorem SH(d:Nat):pP (.ref j i o) d=.ref j i (o+d):=(rfl)
def zlB(b a:TK)(x:PV)(K:PV->Prop):Prop:=match b,a,x with
 | .int _,.int k,.v (.int _ n)=>K (.v (.int k (k.wrap n)))
 | .str,.str,.v (.string s)=>K (.v (.string s))
 | _,_,_=>False
theorem ZA{b:A0}(n:Int)(c:(T h).k.isInt=k0)(d:(T b).k.isInt=k0)(e:0<(T h).size)(f:0<(T b).size):rf T rw h b (.v (.int C n)) Kp=zlB (T h).k (T b).k (.v (.int C n)) Kp:=by revert c d;simp[rf,zlB];cases (T h).k<;>simp[TK.isInt];grind
theorem SJ(b a k:D0)(n:Int):zlB (.int b) (.int a) (.v (.int k n)) Kp=Kp (.v (.int a (a.wrap n))):=(rfl)
theorem SK(b:P0)(n:Int)(a:(T h).k=.str)(c:0<(T h).size):VB T h (.v (.string b)) (.v (.int C n)) Kp=(0<=n/\n.toNat<b.size/\Kp (.v (.int .u8 ((lg b.data.toList n.toNat 0).toNat:Int)))):=by simp[VB,a,c]
theorem MV(k c:D0)(a b:Int):mI k0 (.v (.int k a)) (.v (.int c b)) Kp=Kp (.v (.int k (if b > a then b else a))):=(rfl)
theorem MX(k c:D0)(a b:Int):mI l0 (.v (.int k a)) (.v (.int c b)) Kp=Kp (.v (.int k (if b<a then b else a))):=(rfl)
def ya(p:PV)(K:Int->Prop):Prop:=match p with|.v (.int _ n)=>K n|_=>False
theorem ZC(k:D0)(n:Int)(a:Int->Prop):ya (.v (.int k n)) a=a n:=(rfl)
def tT(T:gg)(rw:S0)(b:B0->PV)(i:TK)(z:Nat)(x:PV)(g d f:Option B0)(K:PV->Prop):Prop :=
 0<z/\match i with
 | .str=>f=o0/\(match x with
  | .v (.string s)=>rZ b g 0 λl=>rZ b d s.size λh=>0<=l/\l<=h/\h<=s.size/\K (.v (.string (s.extract l.toNat h.toNat)))
  | _=>False)
 | .sli e=>re rw x λfr a c=>0<(T e).size/\a=(T e).size /\
  rZ b g 0 λl=>rZ b d ((lh c/a:Nat):Int) λh=>rZ b f ((lh c/a:Nat):Int) λm=>0<=l/\l<=h/\h<=m/\m<=((lh c/a:Nat):Int)/\(d=o0->f=o0) /\
   K (.sl fr a ((c.take (h.toNat*a)).drop (l.toNat*a)))
 | _=>False
theorem zlC(t:A0)(a:B0->PV)(x:PV)(b c d:Option B0):gO T rw a t x b c d Kp=tT T rw a (T t).k (T t).size x b c d Kp:=(rfl)
theorem ZD(fr:Bool)(c:M0)(x:B0)(a:(T h).size=1):tT T rw s.ev (.sli h) 1 (.sl fr 1 c) (n0 x) o0 o0 Kp=ya (s.ev x) (kk λl=>0<=l/\l<=(lh c:Int)/\Kp (.sl fr 1 (c.drop l.toNat))):=by simp only[tT,re,rZ,a,ya];cases s.ev x<;>simp;rfl
theorem ZG(b:P0)(x:B0):tT T rw s.ev .str 1 (.v (.string b)) (n0 x) o0 o0 Kp=ya (s.ev x) (kk λl=>0<=l/\l<=(b.size:Int)/\Kp (.v (.string (b.extract l.toNat b.size)))):=by simp[tT,rZ,ya,kk];rfl
theorem ZI(b:P0)(x y:B0):tT T rw s.ev .str 1 (.v (.string b)) (n0 x) (n0 y) o0 Kp=ya (s.ev x) (kk λl=>ya (s.ev y) (kk λh=>0<=l/\l<=h/\h<=(b.size:Int)/\Kp (.v (.string (b.extract l.toNat h.toNat))))):=by
 simp[tT,rZ,ya,kk];rfl
def VG(T:gg)(r:Row)(k a:Nat)(b:B0->PV)(e z:Nat)(rw:S0)(d f g:Option B0)(K:PV->Prop):Prop :=
 k<1000000/\r.ver=a/\match r.kind with|.sli _ h k0 c=>tT T rw b (.sli e) z (.sl k0 h c) d f g K|_=>False
theorem zgw(e z k f:Nat)(g i j:Option B0):tT T rw s.ev (.sli e) z (.own k f) g i j Kp=VG T (rw k) k f s.ev e z rw g i j Kp:=by
 have l:(k<lent)=(k<1000000):=rfl;simp[tT,re,VG];grind
theorem MY(e z k a h b:Nat)(rw':S0)(c:M0)(d f g:Option B0):VG T ⟨a,.sli h b k0 c⟩ k a s.ev e z rw' d f g Kp=(k<1000000/\tT T rw' s.ev (.sli e) z (.sl k0 b c) d f g Kp):=by simp[VG]
theorem zgx(t:A0)(fr:Bool)(z:Nat)(c:M0)(b d e:Option B0):zir T s t (.sl fr z c) b d e (kk w)=gO T s.rw s.ev t (.sl fr z c) b d e (kk λp=>w [] p):=(rfl)
theorem zlD(t:A0)(x:E0)(b c d:Option B0):zir T s t (.v x) b c d (kk w)=gO T s.rw s.ev t (.v x) b c d (kk λp=>w [] p):=(rfl)
def zcT(T:gg)(s:St)(t:A0)(r:Row)(k a:Nat)(b c d:Option B0)(K:O0->PV->Prop):Prop :=
 match r.kind with
 | .sli _ _ l0 _=>gO T (s.freeze [k]).rw s.ev t (.own k a) b c d (kk λp=>K [k] p)
 | _=>gO T s.rw s.ev t (.own k a) b c d (kk λp=>K [] p)
theorem ZJ(t:A0)(k a:Nat)(c d e:Option B0):zir T s t (.own k a) c d e (kk w)=zcT T s t (s.rw k) k a c d e (kk w):=(rfl)
theorem Jh(t:A0)(v e z:Nat)(c:M0)(k a:Nat)(d f g:Option B0):zcT T s t ⟨v,.sli e z l0 c⟩ k a d f g (kk w)=gO T (s.freeze [k]).rw s.ev t (.own k a) d f g (kk λp=>w [k] p):=(rfl)
theorem SM(t:A0)(v e z:Nat)(c:M0)(k a:Nat)(d f g:Option B0):zcT T s t ⟨v,.sli e z k0 c⟩ k a d f g (kk w)=gO T s.rw s.ev t (.own k a) d f g (kk λp=>w [] p):=(rfl)
theorem zgy(x:E0)(h:x.oneCell'=k0):fb rw (.v x) B=B [.v x]:=by simp[fb,h]
theorem MZ(c:M0):fb rw (.ag c) B=B c:=(rfl)
theorem zj4(fr:Bool)(a:Nat)(c:M0):fb rw (.sl fr a c) B=B [.sl fr a c]:=(rfl)
theorem SN(f:F0)(c:M0):fb rw (.clo f c) B=B [.clo f c]:=(rfl)
def wz(r:Row)(a:Nat)(A:Prop):Prop:=r.ver=a/\r.kind.slice=k0/\A
theorem SO(j a:Nat):fb rw (.own j a) B=wz (rw j) a (kk (B [.own j a])):=(rfl)
theorem Na(a e b:Nat)(d:Bool)(c:M0)(A:Prop):wz ⟨a,.sli e b d c⟩ a (kk A)=A:=by simp[wz,RK.slice,kk]
theorem Nb(a e:Nat)(c:M0)(A:Prop):wz ⟨a,.tab e c⟩ a (kk A)=A:=by simp[wz,RK.slice,kk]
theorem zlE(x:E0)(h:x.oneCell'=k0):kK rw (.v x) y=y [.v x] []:=by simp[kK,h]
theorem zgz(a:Nat)(c:M0):kK rw (.sl k0 a c) y=y [.sl l0 a c] []:=by simp[kK]
def VH(r:Row)(k a:Nat)(K:M0->O0->Prop):Prop:=r.ver=a/\k<lent/\(match r.kind with|.nil=>K [.sl l0 1 []] []|.sli _ b _ c=>K [.sl l0 b c] [k]|_=>False)
theorem ZL(j a:Nat):kK rw (.own j a) y=VH (rw j) j a y:=(rfl)
theorem Ji(j a e b:Nat)(d:Bool)(c:M0)(h:j<lent):VH ⟨a,.sli e b d c⟩ j a y=y [.sl l0 b c] [j]:=by simp[VH,h]
def allP(rw:S0)(l:M0):Prop:=∀p∈l,qz rw p
theorem ZM(rw:S0):allP rw []=True:=by simp[allP]
theorem SR(rw:S0)(p:PV)(l:M0):allP rw (p::l)=(qz rw p/\allP rw l):=by simp[allP]
def qO(s:St)(z j b a:Nat)(r:Row)(x:PV)(K:St->Prop):Prop:=0<z/\r.ver=b/\match r.kind with
 | .box f c=>fb s.rw x λnew=>lh new=z/\a+lh new<=lh c/\allP s.rw new/\K (s.row j ⟨b,.box f (nt c a new)⟩)
 | .sli e g l0 c=>kK s.rw x λnew d=>lh new=z/\a+lh new<=lh c/\j∉d/\K ((s.freeze d).row j ⟨b,.sli e g l0 (nt c a new)⟩)
 | .tab e c=>fb s.rw x λnew=>lh new=z/\a+lh new<=lh c/\allP s.rw new/\K (s.row j ⟨b,.tab e (nt c a new)⟩)
 | _=>False
theorem SS(j a b e:Nat)(c:M0)(x:PV):qO s 1 j a b ⟨a,.tab e c⟩ x K=fb s.rw x (kk λnew=>lh new=1/\b+lh new<=lh c/\allP s.rw new/\K (s.row j ⟨a,.tab e (nt c b new)⟩)):=by simp[qO,kk]
theorem ZN(t:A0)(j a b:Nat)(x:PV):NK T s t (.ref j a b) x K=qO s (T t).size j a b (s.rw j) x K:=(rfl)
theorem Jj[aw]:s.freeze []=s:=St.freeze_nil s
theorem SU(j a b e d:Nat)(c:M0)(x:PV):qO s 1 j a b ⟨a,.sli e d l0 c⟩ x K=kK s.rw x (kk λnew f=>lh new=1/\b+lh new<=lh c/\j∉f/\K ((s.freeze f).row j ⟨a,.sli e d l0 (nt c b new)⟩)):=by simp[qO,kk]
theorem uv(z j a b:Nat)(d:A0)(c:M0)(x:PV):qO s (z+1) j a b ⟨a,.box d c⟩ x K=fb s.rw x (kk λnew=>lh new=z+1/\b+lh new<=lh c/\allP s.rw new/\K (s.row j ⟨a,.box d (nt c b new)⟩)):=by simp[qO,kk]
theorem Nc[aw](j a b:Nat)(d:A0)(c:M0)(x:PV):qO s 1 j a b ⟨a,.box d c⟩ x K=fb s.rw x (kk λnew=>lh new=1/\b+lh new<=lh c/\allP s.rw new/\K (s.row j ⟨a,.box d (nt c b new)⟩)):=uv 0 j a b d c x
theorem Nd[aw](j a b:Nat)(d:A0)(c:M0)(x:PV):qO s 2 j a b ⟨a,.box d c⟩ x K=fb s.rw x (kk λnew=>lh new=2/\b+lh new<=lh c/\allP s.rw new/\K (s.row j ⟨a,.box d (nt c b new)⟩)):=uv 1 j a b d c x
theorem zlF(rw:S0)(v:E0):qz rw (.v v)=(v.oneCell'=k0):=(rfl)
theorem Nf(rw:S0)(j v:Nat):qz rw (.own j v)=wz (rw j) v (kk True):=by simp[qz,wz,kk]
theorem Nh[aw](j a b:Nat)(d:A0)(c:M0)(x:PV):qO s 4 j a b ⟨a,.box d c⟩ x K=fb s.rw x (kk λnew=>lh new=4/\b+lh new<=lh c/\allP s.rw new/\K (s.row j ⟨a,.box d (nt c b new)⟩)):=uv 3 j a b d c x
def yB(T:gg)(rw:S0)(y:PV)(K:M0->Prop):Prop:=Qk rw y λfr b a=>b=1/\((∀p∈a,NL p=k0)\/(fr=k0/\∀p∈a,Bg p=k0))/\K a
def Cr(T:gg)(s:St)(d j b e:Nat)(r:Row)(a:M0)(K:St->Prop):Prop:=r.ver=b/\match r.kind with
 | .nil=>a.length*(T e).bytes<=140737488355328/\K (ma s d j (.sli e 1 l0 a))
 | .sli g f l0 c=>g=e/\f=1/\(lh c+lh a)*(T e).bytes<=140737488355328/\K (ma s d j (.sli e 1 l0 (c++a)))
 | _=>False
def zlG(T:gg)(s:St)(d e:Nat)(x:PV)(a:M0)(K:St->Prop):Prop:=match x with
 | .v u=>nu u=k0/\a.length*(T e).bytes<=140737488355328/\K (jx s d (.sli e 1 l0 a) (λv=>.own d v))
 | .own j b=>Cr T s d j b e (s.rw j) a K
 | _=>False
def zs7(T:gg)(s:St)(d:Nat)(g:TK)(z:Nat)(x y:PV)(K:St->Prop):Prop :=
 0<z/\match g with
 | .sli e=>0<(T e).size/\0<(T e).bytes/\Qk s.rw y λfr h a=>h=(T e).size/\((∀p∈a,NL p=k0)\/(fr=k0/\∀p∈a,Bg p=k0)) /\
  (match x with
  | .v u=>nu u=k0/\a.length*(T e).bytes<=140737488355328/\K (jx s d (.sli e (T e).size l0 a) (λv=>.own d v))
  | .own k b=>(s.rw k).ver=b/\(match (s.rw k).kind with
   | .nil=>a.length*(T e).bytes<=140737488355328/\K (ma s d k (.sli e (T e).size l0 a))
   | .sli i f l0 c=>i=e/\f=(T e).size/\(lh c+lh a)*(T e).bytes<=140737488355328/\K (ma s d k (.sli e (T e).size l0 (c++a)))
   | _=>False)
  | _=>False)
 | _=>False
theorem SX(d:Nat)(t:A0)(x y:PV):ER T s d t t x y K=zs7 T s d (T t).k (T t).size x y K:=propext ⟨λh=>h.2,λh=>⟨rfl,h⟩⟩
theorem ZQ{e:Nat}(x y:PV)(b:(T e).size=1)(c:0<(T e).bytes):zs7 T s r (.sli e) 1 x y K=yB T s.rw y (kk λa=>zlG T s r e x a (kk K)):=by simp[zs7,b,c];rfl
theorem ZR(d e j b:Nat)(a:M0):zlG T s d e (.own j b) a K=Cr T s d j b e (s.rw j) a K:=(rfl)
theorem ZS(d e:Nat)(a:M0):zlG T s d e (.v (.slice o0 0 0)) a K=(a.length*(T e).bytes<=140737488355328/\K (jx s d (.sli e 1 l0 a) (λv=>.own d v))):=by simp[zlG,nu]
theorem Ni(d j b e:Nat)(c a:M0):Cr T s d j b e ⟨b,.sli e 1 l0 c⟩ a K=((lh c+lh a)*(T e).bytes<=140737488355328/\K (ma s d j (.sli e 1 l0 (c++a)))):=by simp[Cr]
variable {Kc:M0->Prop}
theorem zcU(c:M0)(h:∀p∈c,NL p=k0)(fr:Bool):yB T rw (.sl fr 1 c) Kc=Kc c:=by simp[yB,Qk,bO h]
theorem zgD[aw](a:N0)(fr:Bool):yB T rw (.sl fr 1 (iL a)) Kc=Kc (iL a):=zcU _ (ss<|zcM a) fr
def GP(c:M0):Prop:=∀p∈c,Bg p=k0
def SY(r:Row)(a:Nat)(K:M0->Prop):Prop:=r.ver=a/\match r.kind with|.nil=>K []|.sli _ b _ c=>b=1/\GP c/\K c|_=>False
theorem SZ(j f:Nat):yB T rw (.own j f) Kc=SY (rw j) f Kc:=by
 unfold yB Qk SY;dsimp;generalize (rw j).kind=g;cases g with
 | sli e k l c =>
   refine propext ⟨λ⟨a,b,h,d⟩=>⟨a,b,?_,d⟩,λ⟨a,b,h,d⟩=>⟨a,b,.inr ⟨rfl,h⟩,d⟩⟩;rcases h with h|h
   intro p i;have:=h p i;cases p<;>simp[NL]at this;exact this;exact h.2
 | nil=>simp
 | _=>simp
theorem Ta(a e:Nat)(b:Bool)(c:M0):SY ⟨a,.sli e 1 b c⟩ a Kc=(GP c/\Kc c):=by simp[SY]
theorem zgG(a:N0):GP (iL a)=True:=by simp[GP,iL,Bg,E0.oneCell']
theorem zgI(a:Q0):GP (sL a)=True:=by simp[GP,sL,Bg,E0.oneCell']
theorem ZV(a:List N0):GP (mF a)=True:=by simp[GP,mF,Bg]
theorem Td:[j].Nodup=True:=sp
theorem Te:[j,i].Nodup=(j≠i):=sp
theorem zgK:(j<lent)=(j<1000000):=(rfl)
theorem zsv(v u:E0):uz rw (.v v) (.im (.v u)) e=(PV.v u=PV.v v/\e []):=(rfl)
def Nk(r:Row)(j a e d:Nat)(c:M0)(K:O0->Prop):Prop:=j<lent/\r.ver=a/\(match r.kind with
 | .nil=>c=[]/\K []
 | .sli f b l0 g=>f=e/\b=d/\g=c/\K [j]
 | _=>False)
theorem zgL(j a Kn b:Nat)(c:M0):uz rw (.own j a) (.fr Kn b c) e=Nk (rw j) j a Kn b c e:=(rfl)
theorem Cs(j a Kn b:Nat)(c d:M0)(h:j<lent):Nk ⟨a,.sli Kn b l0 d⟩ j a Kn b c e=(d=c/\e [j]):=by simp[Nk,h]
theorem ZW:Cu T s [.tmp r] I=uz s.rw (s.sl r) I List.Nodup:=(rfl)
theorem Tf:Cu T s [.cell r h] I=Bh s.rw (s.sl r) (kk λm c b=>qt T h m c b (kk λp=>uz s.rw p I List.Nodup)):=(rfl)
theorem ZX{b:J0}:Cu T s [S,b] I=Kd T s [S,b] (kk λc=>uz s.rw (.tup c) I List.Nodup):=(rfl)
theorem Nl{b c:J0}:Cu T s [S,b,c] I=Kd T s [S,b,c] (kk λd=>uz s.rw (.tup d) I List.Nodup):=(rfl)
theorem ZY(a:M0->Prop):Kd T s [] (kk a)=a []:=(rfl)
theorem ZZ(t:Nat)(a:List J0)(b:M0->Prop):Kd T s (.tmp t::a) (kk b)=Ai (s.sl t) (kk λp=>Kd T s a (kk λc=>b (p::c))):=(rfl)
theorem Tg(a:Nat)(t:A0)(d:List J0)(e:M0->Prop):Kd T s (.cell a t::d) (kk e)=Bh s.rw (s.sl a) (kk λm c b=>qt T t m c b (kk λp=>Kd T s d (kk λf=>e (p::f)))):=(rfl)
theorem zab(Kn a:Nat)(c:M0):Nv rw (.v (.slice o0 0 0)) (.fr Kn a c) e=(c=[]/\e []):=by simp[Nv,qP,nu]
theorem zac(Kn a:Nat)(c:M0):qP rw (.v (.slice o0 0 0)) (.fr Kn a c) e=(c=[]/\e []):=by simp[qP,nu]
theorem Nn[aw](d e a:Nat)(x y:E0)(c:M0):br s d (.tup [.ag [.im (.v x),.fr e a c],.im (.v y)])=(s.row d ⟨(s.rw d).ver+1,.sli e a l0 c⟩).put (n0 d) (.tup [.ag [.v x,.own d ((s.rw d).ver+1)],.v y]):=by simp[br,leaves,eu,gN,fL];rfl
theorem rU:br s j (.im (.v x))=s.put (n0 j) (.v x):=by simp[br,leaves,cM,eu,fP,mY]
theorem zj5[aw]{lent:M0}{d:Nat}{x:Row}{Ke:Ent->St->Prop}{us:Dm s}{j:Dm Ke}(i:O0)(h:∀b:St,b.rw r=s.rw r->(∀a∈i,b.rw a=s.rw a)->∀g:St->Prop,g ((b.row r x).put (n0 d) (.v F))->askG P b q m (n0 d) g)(l:d%1000≠r%1000)(k:Ke ⟨i,.ids [d,r]⟩ ((s.row r x).put (n0 d) (.v F))):nn P q lent u (zcQ P q m d (kk s us) (kk Ke j)) :=
 zjC (x:=.im (.v F)) (r:=x) i (λb n o g e=>h b n o g (by rw[rU]at e;exact e)) l (by rw[rU];exact k)
theorem Er(d e a:Nat)(c:M0):br s d (.fr e a c)=(s.row d ⟨(s.rw d).ver+1,.sli e a l0 c⟩).put (n0 d) (.own d ((s.rw d).ver+1)):=by simp[br,leaves];rfl
theorem Tj[aw](d e a:Nat)(x:E0)(c:M0):br s d (.ag [.im (.v x),.fr e a c])=(s.row d ⟨(s.rw d).ver+1,.sli e a l0 c⟩).put (n0 d) (.ag [.v x,.own d ((s.rw d).ver+1)]):=by simp[br,leaves,eu,fL];rfl
theorem Tk[aw](d e b f a:Nat)(x y:E0)(c c2:M0):br s d (.ag [.im (.v x),.fr e b c,.im (.v y),.fr f a c2]) =
 ((s.row (d+1000) ⟨(s.rw (d+1000)).ver+1,.sli f a l0 c2⟩).row d ⟨(s.rw d).ver+1,.sli e b l0 c⟩).put (n0 d) (.ag [.v x,.own d ((s.rw d).ver+1),.v y,.own (d+1000) ((s.rw (d+1000)).ver+1)]):=by
 simp[br,leaves,eu,fL]
 rfl
theorem Tl[aw](d:Nat)(x y:E0):br s d (.tup [.im (.v x),.im (.v y)])=s.put (n0 d) (.tup [.v x,.v y]):=by simp[br,leaves,cM,eu,gN,fL,fP,mY]
theorem Tm[aw](d e a:Nat)(c:M0)(y:E0):br s d (.tup [.fr e a c,.im (.v y)])=(s.row d ⟨(s.rw d).ver+1,.sli e a l0 c⟩).put (n0 d) (.tup [.own d ((s.rw d).ver+1),.v y]):=by simp[br,leaves];rfl
theorem zgM(a:M0)(l:List RV):uz rw (.ag a) (.ag l) e=Kf (Nv rw) a l e:=(rfl)
theorem zad(a:M0)(l:List RV):uz rw (.tup a) (.tup l) e=Kf (Nv rw) a l e:=(rfl)
theorem zgN(a:M0)(l:List RV):Nv rw (.ag a) (.ag l) e=Kf (qP rw) a l e:=(rfl)
theorem zae(f:PV->RV->(O0->Prop)->Prop):Kf f [] [] e=e []:=(rfl)
theorem Tn(f:PV->RV->(O0->Prop)->Prop)(p:PV)(c:M0)(r:RV)(d:List RV):Kf f (p::c) (r::d) e=f p r (kk λa=>Kf f c d (kk λb=>e (a++b))):=(rfl)
theorem zlH(v u:E0):Nv rw (.v v) (.im (.v u)) e=(PV.v u=PV.v v/\e []):=(rfl)
theorem zlI(v u:E0):qP rw (.v v) (.im (.v u)) e=(PV.v u=PV.v v/\e []):=(rfl)
theorem zaf(j a Kn b:Nat)(c:M0):Nv rw (.own j a) (.fr Kn b c) e=Nk (rw j) j a Kn b c e:=(rfl)
theorem zag(j a Kn b:Nat)(c:M0):qP rw (.own j a) (.fr Kn b c) e=Nk (rw j) j a Kn b c e:=(rfl)
theorem zah(rw:S0)(n:Nat)(k:D0)(x:Int):gk rw (n+1) (.v (.int k x))=.v (.int k x):=(rfl)
theorem To(rw:S0)(n:Nat)(x:Bool):gk rw (n+1) (.v (.bool x))=.v (.bool x):=(rfl)
theorem Jk(rw:S0)(n:Nat)(x:P0):gk rw (n+1) (.v (.string x))=.v (.string x):=(rfl)
theorem zai(rw:S0)(n:Nat):gk rw (n+1) (.v (.slice o0 0 0))=.sl l0 1 []:=(rfl)
theorem zgO(rw:S0)(n:Nat)(fr:Bool)(a:Nat)(c:M0):gk rw (n+1) (.sl fr a c)=.sl l0 a c:=(rfl)
theorem zgP(rw:S0)(n:Nat)(c:M0):gk rw (n+1) (.ag c)=.ag (c.map (gk rw n)):=(rfl)
def Es(rw:S0)(n:Nat)(r:Row)(b a:Nat):PV:=if r.ver=b then(match r.kind with|.box _ c=>.eref l0 (c.map (gk rw n)) a|.sli _ _ _ c=>.eref l0 c a|_=>.junk)else .junk
theorem zaj(rw:S0)(n j a b:Nat):gk rw (n+1) (.ref j a b)=Es rw n (rw j) a b:=(rfl)
theorem Jl(rw:S0)(n a b:Nat)(t:A0)(c:M0):Es rw n ⟨a,.box t c⟩ a b=.eref l0 (c.map (gk rw n)) b:=by simp[Es]
theorem zak(rw:S0)(n:Nat)(f:F0)(c:M0):gk rw (n+1) (.clo f c)=.clo f (c.map (gk rw n)):=(rfl)
def wA(rw:S0)(n:Nat)(r:Row)(a:Nat):PV:=if r.ver=a then(match r.kind with|.nil=>.sl l0 1 []|.sli _ b _ c=>.sl l0 b c|.tab _ c=>.sl l0 1 (c.map (tA rw))|_=>.junk)else .junk
theorem zal(rw:S0)(n j a:Nat):gk rw (n+1) (.own j a)=wA rw n (rw j) a:=(rfl)
theorem Jn(rw:S0)(n:Nat)(a e:Nat)(c:M0):wA rw n ⟨a,.tab e c⟩ a=.sl l0 1 (c.map (tA rw)):=by simp[wA]
theorem Jo(rw:S0)(n:Nat)(a e b:Nat)(d:Bool)(c:M0):wA rw n ⟨a,.sli e b d c⟩ a=.sl l0 b c:=by simp[wA]
end
def zam:PV->Prop|.sl _ a c=>lh c<=9223372036854775807*a|_=>True
def yC:PV->Prop|.sl _ a c=>lh c<=9223372036854775807*a/\∀p∈c,zam p|.ag c=>∀p∈c,zam p|.eref _ c _=>∀p∈c,zam p|_=>True
def Et:PV->Prop|.sl _ a c=>lh c<=9223372036854775807*a/\∀p∈c,yC p|.ag c=>∀p∈c,yC p|.eref _ c _=>∀p∈c,yC p|.clo _ c=>∀p∈c,yC p|_=>True
def Kb:M0->Prop|[]=>True|p::a=>Et p/\Kb a
theorem Nq{E:Env}{p:PV}(h:Rep N E r p F):zam p:=by
 cases h<;>try trivial
 next c len cap cells a g d e f i j =>show (lh _)<=9223372036854775807*c;rw[d];exact ec _<|aJ e f
theorem Eu[aw]{E:Env}{p:PV}(h:Rep N E r p F):yC p:=by
 cases h<;>try trivial
 case sl fr q len cap cells a j f k l m c =>
  refine⟨?_,λp d=>?_⟩
  ·rw[f];exact ec _<|aJ k l
  ·obtain⟨i,e,rfl⟩:=bV d;exact Nq<|c i e
 case eref fr cells n b o j m c=>intro p d;obtain⟨i,e,rfl⟩:=bV d;exact Nq<|c i e
 case ag cells x f c=>intro p d;obtain⟨i,e,rfl⟩:=bV d;exact Nq<|c i e om
theorem zlL[aw]{E:Env}{p:PV}(h:Rep N E r p F):Et p:=by
 cases h<;>try trivial
 case sl fr s len cap cells a k g l m n c =>
  refine⟨?_,λp d=>?_⟩
  ·rw[g];exact ec _<|aJ l m
  ·obtain⟨i,e,rfl⟩:=bV d;exact Eu<|c i e
 case eref fr cells q b o k n c=>intro p d;obtain⟨i,e,rfl⟩:=bV d;exact Eu<|c i e
 case ag cells x g c=>intro p d;obtain⟨i,e,rfl⟩:=bV d;exact Eu<|c i e om
 case clo f cells x g c=>intro p d;obtain⟨i,e,rfl⟩:=bV d;exact Eu<|c i e om
theorem VI[aw]{E:Env}{d:List E0}(h:ex N E r m d):Kb m:=by
 have:∀p∈m,Et p:=λp e=>by obtain⟨i,b,rfl⟩:=bV e;exact zlL<|h.2 i b<|by rwa[<- h.1]
 clear h;induction m with
 | nil=>trivial
 | cons p m f=>exact⟨this p sp,f λq g=>this q<|by grind⟩
theorem dT:Kb []=True:=(rfl)
theorem dt(p:PV)(a:M0):Kb (p::a)=(Et p/\Kb a):=(rfl)
theorem kQ:Et (.v x)=True:=(rfl)
theorem jt:yC (.v x)=True:=(rfl)
theorem hZ(fr:Bool)(a:N0):yC (.sl fr 1 (iL a))=(lh a<=9223372036854775807):=by simp[yC,zam,iL]
theorem ga(fr:Bool)(a:N0):Et (.sl fr 1 (iL a))=(lh a<=9223372036854775807):=by simp[Et,yC,iL]
theorem gb(y:PV):Et (.ag [p,y])=(yC p/\yC y):=by simp[Et]
theorem AC.go[aw]{fn:Func}{c:Code}{rs:List J0}(j:T.Ok P)(k:P.follows .mixedOrders=k0)(e:P.funcs[q]?=n0 fn)(a:(fn.name == "runtime.NumGoroutine")=l0)(g:fn.body=n0 c)(l:fn.results.toList=rs)(b:(fits fn.ntmps c&&decide (lh m<=fn.ntmps)&&decide (lh fn.results.toList<=4))=k0)(h:Kb m->wC P T c (zlN T rs I) (St.init m)):AC P q m I:=by
 subst l
 refine⟨⟨fn,e,a,by grind⟩,λw vals d i=>?_⟩
 exact(AC.of j k e a g b<|h<|VI i).2 w _ d i
theorem AM.go[aw]{fn:Func}{c:Code}{rs:List J0}(i:T.Ok P)(j:P.follows .mixedOrders=k0)(k:P.funcs[q]?=n0 fn)(d:(fn.name == "runtime.NumGoroutine")=l0)(l:fn.body=n0 c)(x:fn.results.toList=rs)(e:(fits fn.ntmps c&&decide (lh m<=fn.ntmps)&&decide (lh fn.results.toList<=4))=k0)(n:∀r∈O,plain r.c)(o:∀c∈z,plain c)(g:lh z=lh O)(h:(∀r∈O,lh r.c<=9223372036854775807*r.sz)->wC P T c (zpE T rs O z F) (St.initM m O)):AM P q m O z F:=by
 subst x
 exact AM.of i j k d l e n o g h
theorem dJ[aw](a:N0):plain (iL a):=by simp[plain,zcM a]
theorem zan[aw](a:Q0):plain (sL a):=by simp[plain,zkN a]
theorem mh:∀c∈([]:List M0),plain c:=λc h=>by grind
theorem ia(d:plain m)(e:∀c∈z,plain c):∀c∈m::z,plain c:=λc b=>by grind
theorem mi:∀r∈([]:List LR),plain r.c:=λc h=>by grind
theorem ic{d:Nat}(f:plain m)(g:∀l∈O,plain l.c):∀l∈(⟨r,d,m⟩:LR)::O,plain l.c:=λc b=>by grind
theorem Ev(args:M0)(a:List LR)(i:Nat):(St.initM args a).sl i=lg args i .junk:=(rfl)
theorem Ew(args:M0)(a:List LR)(i:Nat):(St.initM args a).rw i=XP a i:=(rfl)
theorem zgQ[aw](e a:Nat)(c:M0)(l:List LR):XP (⟨e,a,c⟩::l) 1000000=⟨1,.sli e a l0 c⟩:=Hh (ins:=⟨e,a,c⟩::l) (i:=0) rfl
theorem zgR[aw](r:LR)(e a:Nat)(c:M0)(l:List LR):XP (r::⟨e,a,c⟩::l) 1000001=⟨1,.sli e a l0 c⟩:=Hh (ins:=r::⟨e,a,c⟩::l) (i:=1) rfl
theorem zao(c:List J0)(b:List LR)(a:List M0)(x:E0):zpE T c b a x .ret s=zcW T s c b a x:=(rfl)
theorem Tq(c:List J0)(b:List LR)(a:List M0)(x:E0):zpE T c b a x .norm s=zcW T s c b a x:=(rfl)
theorem zap(r:Nat)(b:List LR)(a:List M0)(x:E0):zcW T s [.tmp r] b a x=(Ns s.rw 0 b a/\s.sl r=.v x):=(rfl)
theorem Ts(b:List LR)(a:List M0)(x:E0):zcW T s [] b a x=(Ns s.rw 0 b a/\x=.tuple #[]):=(rfl)
theorem zgS(rw:S0)(e b:Nat)(a c:M0):Ns rw 0 [⟨e,b,a⟩] [c]=(rw 1000000=⟨1,.sli e b l0 c⟩):=by show(rw 1000000=⟨1,.sli e b _ c⟩/\True)=_;simp
theorem zgT(rw:S0)(e d f b:Nat)(a c h g:M0):Ns rw 0 [⟨e,d,a⟩,⟨f,b,h⟩] [c,g]=(rw 1000000=⟨1,.sli e d l0 c⟩/\rw 1000001=⟨1,.sli f b l0 g⟩):=by show(rw 1000000=⟨1,.sli e d _ c⟩/\rw 1000001=⟨1,.sli f b _ g⟩/\True)=_;simp
theorem KY(j v e b:Nat)(a c:M0):s.wrote [(j,v)] [⟨e,b,a⟩] [c]=s.row j ⟨v,.sli e b l0 c⟩:=by
 unfold St.wrote St.row oK;grind
theorem La[aw](j v e g d f l b:Nat)(a c n m:M0)(q:j≠d):s.wrote [(j,v),(d,f)] [⟨e,g,a⟩,⟨l,b,n⟩] [c,m]=(s.row j ⟨v,.sli e g l0 c⟩).row d ⟨f,.sli l b l0 m⟩:=by have p:([(j,v),(d,f)].map (·.1)).Nodup:=ss q;unfold St.wrote St.row;congr 1;funext k;show oK _ _ _ _ k=if k=d then⟨f,.sli l b _ m⟩else if k=j then⟨v,.sli e g _ c⟩else s.rw k;by_cases h:k=d;subst h;rw[ae rfl];exact Hg p (i:=1) (r:=⟨l,b,n⟩) rfl rfl rfl;rw[ac h];by_cases o:k=j;subst o;rw[ae rfl];exact Hg p (i:=0) (r:=⟨e,g,a⟩) rfl rfl rfl;rw[ac o];exact NG (by grind)
theorem AG.go[aw]{fn:Func}{c:Code}{rs:List J0}(l:T.Ok P)(d:P.follows .mixedOrders=k0)(e:P.funcs[q]?=n0 fn)(a:(fn.name == "runtime.NumGoroutine")=l0)(g:fn.body=n0 c)(n:fn.results.toList=rs)(b:(fits fn.ntmps c&&decide (lh m<=fn.ntmps)&&decide (lh fn.results.toList<=4))=k0)(h:Kb m->(∀k,yD (M k).kind)->∀s:St,(∀i,s.sl i=lg m i .junk)->(∀k,s.rw k=M k)->wC P T c (Qi T rs G) s):AG P q m M G:=by
 subst n
 refine⟨⟨fn,e,a,by grind⟩,λw args E vals o p j=>?_⟩
 exact(AG.of l d e a g b<|λpost=>h (VI j) post _ (λ_=>rfl)<|λ_=>rfl).2 w args E _ o p j
theorem zaq(a:List J0)(post:(S0)->PV->Prop):Qi T a post .ret s=Qh T s a post:=(rfl)
theorem Tt(a:List J0)(post:(S0)->PV->Prop):Qi T a post .norm s=Qh T s a post:=(rfl)
theorem zar(post:(S0)->PV->Prop):Qh T s [.tmp j] post=post s.rw (s.sl j):=(rfl)
theorem Tu(post:(S0)->PV->Prop):Qh T s [] post=post s.rw (.tup []):=(rfl)
theorem Tv(a:Nat)(t:A0)(post:(S0)->PV->Prop):Qh T s [.cell a t] post=Bh s.rw (s.sl a) (kk λm c b=>qt T t m c b (kk λp=>post s.rw p)):=(rfl)
theorem zas(r a:Nat)(post:(S0)->PV->Prop):Qh T s [.tmp r,.tmp a] post=post s.rw (.tup [s.sl r,s.sl a]):=(rfl)
theorem aF{n:Int}(h:-9223372036854775808<=n)(a:n<=9223372036854775807):D0.i64.wrap n=n:=by simp[D0.wrap,D0.bits,D0.signed];omega
section
variable {Kp:PV->Prop}
theorem uw[aw](k:Nat)(p:O0)(o:Nat)(a:(T h).k.agg=l0)(b:0<(T h).size):qt T h .asis (cy k p) o Kp=(o<lh p/\Kp (.own (dq k (lg p o 0)) 1)):=by exact tt _ 0 p o _ (λ_=>rfl) a b
theorem zpC(k:Nat)(p:O0)(i j:Nat):nt (cy k p) i [.own (dq k j) 1]=cy k (p.set i j):=by show(cy k p).set i _=_;simp[cy]
theorem Ap(k v e b:Nat)(p:O0)(a:List M0):(s.tabbed k v e b p a).sl=s.sl:=(rfl)
theorem mj[aw](k v e b:Nat)(p:O0)(a:List M0):(s.tabbed k v e b p a).rw k=⟨v,.tab e (cy k p)⟩:=yI
theorem oy[aw](k v e b:Nat)(p:O0)(a:List M0)(j:Nat)(h:(j%1000==k%1000)=l0):(s.tabbed k v e b p a).rw j=s.rw j:=by have h:=beq_eq_false_iff_ne.1 h;refine CD (λe=>h<|om) λx _ e=>h ?_;simp[e,fX]
theorem GQ(k v:Nat)(dst:Option Nat):TR.self.next s k v dst K=K (s.put dst (.own k v)):=(rfl)
theorem Ct(k v:Nat)(dst:Option Nat)(x:E0):(TR.selfx x).next s k v dst K=K (s.put dst (.tup [.own k v,.v x])):=(rfl)
theorem zat(b:List J0)(e c n:Nat)(a:List M0)(res:TR):zpD T b e c n a res .ret s=zaw T s b e c n a res:=(rfl)
theorem Tx(b:List J0)(e c n:Nat)(a:List M0)(res:TR):zpD T b e c n a res .norm s=zaw T s b e c n a res:=(rfl)
def VK(rw:S0)(e b n:Nat)(a:List M0):Prop:=∃q:O0,TabIs rw lent 1 e b q a/\q.Perm (lc n)
theorem Ty(r e b n:Nat)(a:List M0):zaw T s [.tmp r] e b n a .self=(VK s.rw e b n a/\s.sl r=.own 1000000 1):=(rfl)
theorem Nr(r b e c n:Nat)(a:List M0)(x:E0):zaw T s [.tmp r,.tmp b] e c n a (.selfx x)=(VK s.rw e c n a/\s.sl r=.own 1000000 1/\s.sl b=.v x):=(rfl)
theorem zgW(b:List J0)(e c n:Nat)(a:List M0)(r:RV):zaw T s b e c n a (.rv r)=(VK s.rw e c n a/\Cu T s b r):=(rfl)
theorem zau[aw]{rw:S0}{v e g:Nat}(h:TabIs rw r v e g L z):(cy r L).map (tA rw)=z.map λc=>.sl l0 1 c:=by
 refine bE (by simp[bP,h.len]) λi a b=>?_;have d:=by simpa[bP]using a
 have f:=ss b;have j:(cy r L)[i]'(by grind)=.own (dq r<|lg L i 0) 1:=by simp[cy,lg,d]
 have l:lg z i []=z[i]:=by simp[lg,f]
 rw[aM,aM,j];simp only[tA,h.row i d,eW,l]
theorem ux[aw](d e b:Nat)(a:List M0):(br s d (.tb e b a)).sl d=.own d ((s.rw d).ver+1):=by rw[br,cF];rfl
theorem qx[aw](d e b t:Nat)(a:List M0)(h:t≠d):(br s d (.tb e b a)).sl t=s.sl t:=by simp_all[br,da]
theorem uy[aw](d e b j:Nat)(a:List M0)(h:(j%1000==d%1000)=l0):(br s d (.tb e b a)).rw j=s.rw j:=by have h:=beq_eq_false_iff_ne.1 h;unfold br;rw[pO];refine oa _ _ _ _ _ λi _ e=>h ?_;simp[e,bz]
theorem Tz[aw](d e b:Nat)(a:List M0)(h:r<lh a):(br s d (.tb e b a)).rw (dq d r)=⟨(s.rw (dq d r)).ver+1,.sli b 1 l0 (lg a r [])⟩:=by
 have c:(br s d<|.tb e b a).rw=pN s.rw d (gn s.rw d (leaves<|.tb e b a) 0) 0:=pO _ _ _ _
 have f:lh (leaves<|.tb e b a)=lh a+1:=by simp[leaves]
 have g:r+1<(gn s.rw d (leaves<|.tb e b a) 0).length:=by rw[iP];omega
 have:=qp s.rw d _ 0 _ g;rw[cm]at this;rw[c];show pN _ d _ 0 (bz d<|r+1)=_;rw[this,rX _ _ _ _ _ om];have k:(leaves<|.tb e b a)[r+1]=(b,n0 1,a[r]):=by simp[leaves]
 simp[k,jv,dq,h]
theorem rV[aw](d e b:Nat)(a:List M0):(br s d (.tb e b a)).rw d=⟨(s.rw d).ver+1,.tab e (fi s.rw d 0 (lh a))⟩:=by
 have c:(br s d<|.tb e b a).rw=pN s.rw d (gn s.rw d (leaves<|.tb e b a) 0) 0:=pO _ _ _ _
 have f:lh (leaves<|.tb e b a)=lh a+1:=by simp[leaves]
 have h:0<(gn s.rw d (leaves<|.tb e b a) 0).length:=by simp[iP,f]
 rw[c];have g:bz d 0=d:=rfl
 have j:pN s.rw d _ 0 d=pN _ d (gn s.rw d (leaves<|.tb e b a) 0) 0 (bz d 0):=rfl
 rw[j,qp s.rw d _ 0 0 h,rX _ _ _ _ _ om];have k:(leaves<|.tb e b a)[0]=(e,o0,ld (lh a) .junk):=by simp[leaves]
 simp[k,jv,g]
theorem GR[aw](d j:Nat):bz d (0+1+j)=dq d j:=by simp[fX,bz];omega
theorem Aq[aw](d e c:Nat)(a:List M0)(h:∀i,i<lh a->(s.rw (dq d i)).ver=0):TabIs (br s d (.tb e c a)).rw d ((s.rw d).ver+1) e c (lc (lh a)) a:=by
 refine⟨?_,sp,λi f=>?_⟩;simp_all[rV,fi,cy,GR];simp_all[Tz]
theorem zav[aw](d e f:Nat)(c:List M0):(fi s.rw d 0 (lh c)).map (tA (br s d (.tb e f c)).rw)=c.map λr=>.sl l0 1 r:=by
 refine bE (by simp[fi]) λi a b=>?_;have g:=ss b;have h:lg c i []=c[i]:=by grind
 simp[fi];simp_all[GR,tA,Tz]
end
theorem As[aw](k:Nat)(p:O0)(j:Nat)(h:(j%1000==k%1000)=l0):(s.killed k p).rw j=s.rw j:=by
 refine iS λa=>(beq_eq_false_iff_ne.1 h) ?_;rcases a with rfl|⟨x,_,rfl⟩
 rfl;exact gf _ _
theorem Jq[aw](d e c:Nat)(a:List M0)(h:∀i,s.rw (dq d i)=M (dq d i)):(fi M d 0 (lh a)).map (tA (br s d (.tb e c a)).rw)=a.map λr=>.sl l0 1 r:=by
 have:fi M d 0 (lh a)=fi s.rw d 0 (lh a):=by refine cO λj _=>?_;rw[GR,h j]
 rw[this,zav]
theorem zcV(M:List N0):(M.map iL).map (λr=>PV.sl l0 1 r)=mF M:=by rw[fj];rfl
def np[aw]{a:Type}(I:a->St->Prop)(d:a->Nat)(m:Nat)(e:St):Prop:=∃b c,Wk e c/\I b c/\d b<m
theorem ah[aw]{a:Type}{I:a->St->Prop}{c:a->Nat}(b:a)(h:I b s)(d:c b<r:=by first|omega|(simp only;omega)|(dsimp only;omega)|(show _<_;simp;omega)):np I c r s:=⟨b,s,Wk.refl s,h,d⟩
theorem az[aw]{a:Type}(I:a->St->Prop)(c:a->Nat)(d:a){b:(AX->St->Prop)->St->Prop}{u:Dm b}{v:Dm Q}(f:I d s)(h:∀x e,I x e->b (AX.seq (np I c (c x)) Q) e):uA (kk b u) (kk Q v) s :=
 ⟨a,I,c,⟨d,s,Wk.refl s,f⟩,h⟩
end
end Go.Abs
