/- DERIVED by an AI agent. -/
import Derived.Test.YtijabbemjaioeaaGreatDoorP1
import Derived.Lib.ItoaNum
set_option linter.all false
namespace Go.Abs
open Bool renaming true→k0
open Option renaming some→n0,none→o0
open List renaming range→lc,replicate→ld,getD→lg,length→lh
variable (b:Nat)(t:P0)(d:Nat)(g:List UInt8)(h:V0)(N:Nat){x y z:Nat}{o:V0}{q:P0}{u:X0}{w:List UInt8}{L:Int}{A:UInt8}{B:Nat×Nat}{C:N0}
abbrev SP:=Option (Nat×Nat)
def XR(b:SP->Nat->Nat->SP)(a i:Nat)(s:SP):Nat->SP
 | 0=>s
 | t+1=>b (XR b a i s t) i (a+t)
def th(b:SP->Nat->Nat->SP)(a m:Nat):Nat->SP
 | 0=>o0
 | t+1=>XR b a (a+t) (th b a m t) (m-a)
def CM(e:X0)(s:SP)(i j:Nat):SP:=match s with
 | none=>if e i j=0 then o0 else n0 (i,j)
 | some (r,c)=>if e i j≠0/\(e i j).natAbs<(e r c).natAbs then n0 (i,j)else n0 (r,c)
def yV(e:X0)(s:SP)(i j:Nat):SP:=match s with
 | none=>if e i j=0 then o0 else n0 (i,j)
 | some x=>n0 x
def wL(a m i j b c:Nat):Prop:=a<=b/\a<=c/\c<m/\(b<i\/b=i/\c<j)
def LsP(e:X0)(a m i j:Nat)(s:SP):Prop:=match s with
 | none=>∀b d,wL a m i j b d->e b d=0
 | some (r,c)=>wL a m i j r c/\e r c≠0/\(∀b d,wL a m i j b d->e b d≠0->(e r c).natAbs<=(e b d).natAbs)/\∀b d,a<=b->b<r->a<=d->d<m->e b d≠0->(e r c).natAbs<(e b d).natAbs
def FsP(e:X0)(a m i j:Nat)(s:SP):Prop:=match s with
 | none=>∀b d,wL a m i j b d->e b d=0
 | some (r,c)=>wL a m i j r c/\e r c≠0/\∀b d,a<=b->b<r->a<=d->d<m->e b d=0
section
variable {e:X0}{a m i j n:Nat}{s:SP}
theorem zmv(h:e i j=0):CM e s i j=s:=by
 match s with
 | none=>exact ae h
 | some _=>exact ac λa=>a.1 h
theorem zmw(h:e i j≠0):CM e o0 i j=n0 (i,j):=ac h
theorem zp9(h:e i j≠0)(a:(e i j).natAbs<(e x y).natAbs):CM e (n0 (x,y)) i j=n0 (i,j):=ae ⟨h,a⟩
theorem ztk(a:¬(e i j).natAbs<(e x y).natAbs):CM e (n0 (x,y)) i j=n0 (x,y):=ac λb=>a b.2
theorem uZ(h:wL a m i (j+1) x y):wL a m i j x y\/(x=i/\y=j):=by unfold wL at *;omega
theorem Ug(h:wL a m i j x y):wL a m i (j+1) x y:=by unfold wL at *;omega
theorem yW:wL a m (i+1) a x y↔wL a m i m x y:=by unfold wL;omega
theorem LsP.step(h:LsP e a m i j s)(u:a<=i)(w:a<=j)(x:j<m):LsP e a m i (j+1) (CM e s i j):=by
 have f:wL a m i (j+1) i j:=⟨u,w,x,.inr ⟨rfl,dD j⟩⟩
 match s,h with
 | none,h =>
   unfold CM;by_cases l:e i j=0;simp only[l,eW];intro g k d;rcases uZ d with d|⟨rfl,rfl⟩
   exact h g k d;exact l;simp only[l,gx];refine⟨f,l,λg k d b=>?_,λg k o p n q b=>?_⟩;rcases uZ d with d|⟨rfl,rfl⟩;exact absurd (h g k d) b;exact ab _;exact absurd (h g k ⟨o,n,q,.inl p⟩) b
 | some (r,c),⟨o,p,n,q⟩ =>
   show LsP e a m i (j+1) (if e i j≠0/\(e i j).natAbs<(e r c).natAbs then n0 (i,j)else n0 (r,c));by_cases l:e i j≠0/\(e i j).natAbs<(e r c).natAbs;rw[ae l];refine⟨f,l.1,λg k d b=>?_,λg k y z A B b=>?_⟩;rcases uZ d with d|⟨rfl,rfl⟩;have:=n g k d b;omega;exact ab _;have:=n g k ⟨y,A,B,.inl z⟩ b;omega;rw[ac l];refine⟨Ug o,p,λg k d b=>?_,q⟩;rcases uZ d with d|⟨rfl,rfl⟩
   exact n g k d b;exact Nat.le_of_not_lt λt=>l ⟨b,t⟩
theorem LsP.row(h:LsP e a m i m s):LsP e a m (i+1) a s:=by
 match s,h with
 | none,h=>exact λb d f=>h b d<|yW.1 f
 | some _,⟨g,j,k,l⟩=>exact⟨yW.2 g,j,λb d f=>k b d<|yW.1 f,l⟩
theorem LsP.init:LsP e a m a a none:=λb c h=>by unfold wL at h;omega
theorem zmx(h:LsP e a m i a s)(b:a<=i):∀t,a+t<=m->LsP e a m i (a+t) (XR (CM e) a i s t):=by
 intro t;induction t with
 | zero=>exact λ_=>h
 | succ t c=>intro d;exact(c om).step b om om
theorem zdF(b:a<=m):∀t,LsP e a m (a+t) a (th (CM e) a m t):=by
 intro t;induction t with
 | zero=>exact LsP.init
 | succ t c =>have:=zmx c om (m-a) om;rw[show a+(m-a)=m by omega]at this;exact this.row
theorem Wm(k:a<=n)(d:a<=m)(h:th (CM e) a m (n-a)=n0 (x,y)):Lst e a n m x y:=by have:=zdF (e:=e) d<|n-a;rw[h,show a+(n-a)=n by omega]at this;obtain⟨⟨l,o,p,u⟩,q,s,t⟩:=this;exact⟨⟨l,om⟩,⟨o,p⟩,q,λi j f g j1 j2 b=>s i j ⟨f,j1,j2,.inl g⟩ b,λi j f g j1 j2 b=>t i j f g j1 j2 b⟩
theorem Wn(c:a<=n)(b:a<=m)(h:th (CM e) a m (n-a)=o0):∀i j,a<=i->i<n->a<=j->j<m->e i j=0:=by have:=zdF (e:=e) b<|n-a;rw[h,show a+(n-a)=n by omega]at this;exact λi j d f j1 j2=>this i j ⟨d,j1,j2,.inl f⟩
theorem FsP.step(h:FsP e a m i j s)(o:a<=i)(p:a<=j)(q:j<m):FsP e a m i (j+1) (yV e s i j):=by
 match s,h with
 | none,h =>
   unfold yV;by_cases b:e i j=0;simp only[b,eW];intro d f g;rcases uZ g with g|⟨rfl,rfl⟩
   exact h d f g;exact b;simp only[b,gx];exact⟨⟨o,p,q,.inr ⟨rfl,dD j⟩⟩,b,λd f k l n t=>h d f ⟨k,n,t,.inl l⟩⟩
 | some (r,c),⟨k,l,n⟩=>exact⟨Ug k,l,n⟩
theorem FsP.row(h:FsP e a m i m s):FsP e a m (i+1) a s:=by
 match s,h with
 | none,h=>exact λb d f=>h b d<|yW.1 f
 | some _,⟨g,j,k⟩=>exact⟨yW.2 g,j,k⟩
theorem ztl(h:FsP e a m i a s)(b:a<=i):∀t,a+t<=m->FsP e a m i (a+t) (XR (yV e) a i s t):=by
 intro t;induction t with
 | zero=>exact λ_=>h
 | succ t c=>intro d;exact(c om).step b om om
theorem zmy(b:a<=m):∀t,FsP e a m (a+t) a (th (yV e) a m t):=by
 intro t;induction t with
 | zero=>exact λd f h=>by unfold wL at h;omega
 | succ t c =>have:=ztl c om (m-a) om;rw[show a+(m-a)=m by omega]at this;exact this.row
theorem zdG(d:a<=n)(b:a<=m)(h:th (yV e) a m (n-a)=n0 (x,y)):(a<=x/\x<n)/\(a<=y/\y<m)/\e x y≠0/\∀i j,a<=i->i<x->a<=j->j<m->e i j=0:=by have:=zmy (e:=e) b<|n-a;rw[h]at this;obtain⟨⟨f,g,k,p⟩,l,o⟩:=this;grind
theorem Ll(c:a<=n)(b:a<=m)(h:th (yV e) a m (n-a)=o0):∀i j,a<=i->i<n->a<=j->j<m->e i j=0:=by have:=zmy (e:=e) b<|n-a;rw[h,show a+(n-a)=n by omega]at this;exact λi j d f j1 j2=>this i j ⟨d,j1,j2,.inl f⟩
theorem zmz(x:Nat×Nat)(a i:Nat):∀t,XR (yV e) a i (n0 x) t=n0 x:=by
 intro t;induction t with
 | zero=>rfl
 | succ t b=>rw[XR,b];rfl
theorem zmA(h:XR (yV e) a i s x=n0 B):∀u,XR (yV e) a i s (x+u)=n0 B:=by
 intro u;induction u with
 | zero=>exact h
 | succ u b=>rw[<- jT,XR,b];rfl
theorem zmB{t:Nat}(h:th (yV e) a m t=n0 B):∀u,th (yV e) a m (t+u)=n0 B:=by
 intro u;induction u with
 | zero=>exact h
 | succ u b=>rw[<- jT,th,b,zmz]
end
theorem zbc{b:X0}(l:z<x)(f:lh C=y)(g:∀j,j<y->lg C j 0=b z j)(k:∀a j,a<x->j<y->a≠z->b a j=u a j):(cz x y u).set z C=cz x y b:=by refine Wo (by rw[de,fw]) (λa h=>?_) λa j h c=>?_;rw[qE];split;exact f;exact cr h;rw[qE];split;rename_i d;rw[<- d.1];exact g j c;rename_i d;rw[dz h c,k a j h c λu=>d ⟨u.symm,by rw[fw];exact h⟩]
theorem zhc(e:x<lh C)(f:y<lh C):lg ((C.set y (lg C x 0)).set x (lg C y 0)) z 0=lg C (ua x y z) 0:=by unfold ua;grind
def Us(e:X0)(Q:U0)(a i0:Nat):X0:=λi j=>if a<i/\i<i0/\a<=j then e i j-Q i*e a j else e i j
def reC(e:X0)(R:U0)(a j0:Nat):X0:=λi j=>if a<=i/\a<j/\j<j0 then e i j-R j*e i a else e i j
def vw(e:X0)(Q:U0)(a i0 j0:Nat):X0:=λi j=>if i=i0/\a<=j/\j<j0 then e i j-Q i*e a j else Us e Q a i0 i j
def vy(e:X0)(R:U0)(a j0 i0:Nat):X0:=λi j=>if j=j0/\a<=i/\i<i0 then e i j-R j*e i a else reC e R a j0 i j
section
variable {e:X0}{Q R:U0}{a i j i0 j0 n m:Nat}
theorem HA(h:i<=a):Us e Q a i0 i j=e i j:=ac λb=>om
theorem zm1(h:i0<=i):Us e Q a i0 i j=e i j:=ac λb=>om
theorem WE(h:a<i)(b:i<i0)(c:a<=j):Us e Q a i0 i j=e i j-Q i*e a j:=ae ⟨h,b,c⟩
theorem zdT(h:j<=a):reC e R a j0 i j=e i j:=ac λb=>om
theorem zm2(h:j0<=j):reC e R a j0 i j=e i j:=ac λb=>om
theorem ztI(h:a<=i)(b:a<j)(c:j<j0):reC e R a j0 i j=e i j-R j*e i a:=ae ⟨h,b,c⟩
theorem zjj:vw e Q a i0 a i j=Us e Q a i0 i j:=ac λb=>om
theorem zjk:vy e R a j0 a i j=reC e R a j0 i j:=ac λb=>om
theorem zm3(h:a<i0):vw e Q a i0 j0 a j=e a j:=by rw[vw,ac λb=>om,HA<|ab a]
theorem zqB(h:j0<=j):vw e Q a i0 j0 i0 j=e i0 j:=by rw[vw,ac λb=>om,zm1<|ab _]
theorem zm4(h:a<j0):vy e R a j0 i0 i a=e i a:=by rw[vy,ac λb=>om,zdT<|ab a]
theorem zqC(h:i0<=i):vy e R a j0 i0 i j0=e i j0:=by rw[vy,ac λb=>om,zm2<|ab _]
theorem zm5(h:a<=j0):Bj (vw e Q a i0 j0) i0 j0 (e i0 j0-Q i0*e a j0) i j=vw e Q a i0 (j0+1) i j:=by unfold Bj vw;grind
theorem zm6(h:a<=i0):Bj (vy e R a j0 i0) i0 j0 (e i0 j0-R j0*e i0 a) i j=vy e R a j0 (i0+1) i j:=by unfold Bj vy;grind
theorem zm7(h:a<i0)(f:j<m):vw e Q a i0 m i j=Us e Q a (i0+1) i j:=by unfold vw Us;omega
theorem zm8(h:a<j0)(f:i<n):vy e R a j0 n i j=reC e R a (j0+1) i j:=by unfold vy reC;grind
end
def piv(e:X0)(a r c:Nat):X0:=λi j=>e (ua a r i) (ua a c j)
def stp(e:X0)(n m a r c:Nat):Nat->Nat->Int :=
 reC (Us (piv e a r c) (λi=>piv e a r c i a/e r c) a n) (λj=>piv e a r c a j/e r c) a m
section
variable {e:X0}{k n m r2 r3 a r c i j:Nat}
theorem znj:ua b d N=ua d b N:=by unfold ua;grind
theorem mv:ua b d b=d:=ae rfl
theorem nU{i:Nat}(h:x<=z/\z<y)(c:x<=i)(d:i<y):x<=ua x z i/\ua x z i<y:=by unfold ua;grind
theorem wS:piv e a r c a a=e r c:=by simp[piv,mv]
theorem znk{x p:Int}(a:p.natAbs=1\/(p.natAbs=2/\(x=0\/x.natAbs=2)))(b:-2<=x/\x<=2):x=p*(x/p)/\-2<=x/p/\x/p<=2:=by have:p=1\/p=-1\/p=2\/p=-2:=om;rcases this with h|h|h|h<;>subst h<;>omega
theorem znl(b:a<i)(d:i<n)(f:a<j)(g:j<m)(h:piv e a r c i a=e r c*(piv e a r c i a/e r c)):stp e n m a r c i j=piv e a r c i j-piv e a r c i a/e r c*piv e a r c a j:=by
 rw[stp,ztI om f g,WE b d om,WE b d<|ab a,wS];grind
theorem zd6:stp e n m a r c a a=e r c:=by rw[stp,zdT<|ab a,HA<|ab a,wS]
theorem zqI(f:a<=r/\r<n)(b:a<=c/\c<m)(l:(e r c).natAbs=1)(o:∀i j,a<=i->i<n->a<=j->j<m->-2<=e i j/\e i j<=2):Sst e (stp e n m a r c) a n m r c 1:=by
 refine⟨f,b,om,e r c,om,λi j d g j1 j2=>?_⟩;have h:=nU f (dY d) g;have t:=nU b (dY j1) j2;have q:=(znk (x:=piv e a r c i a) (.inl l)<|by unfold piv;rw[mv];exact o _ _ h.1 h.2 b.1 b.2).1;rw[znl d g j1 j2 q];have p:piv e a r c i j=e (ke a r i) (ke a c j):=by unfold piv;rw[mb d,mb j1]
 have s:piv e a r c a j=e r (ke a c j):=by unfold piv;rw[mv,mb j1]
 have k:piv e a r c i a=e (ke a r i) c:=by unfold piv;rw[mv,mb d]
 rw[k]at q;rw[p,s,k,Int.natCast_one,jL,tQ,<- fE,<- q]
theorem znm{x y z:Int}(d:L.natAbs=2)(h:L*x=y*z)(b:y=L*(y/L)):x-y/L*z=0:=by
 grind
theorem zd7(g:Good k)(h:SWq k n m r2 r3 a e)(B:r2<=m)(C:r3<=m)(x:Lst e a n m r c) :
 (∀i,a<i->i<n->piv e a r c i a=e r c*(piv e a r c i a/e r c)/\-2<=piv e a r c i a/e r c/\piv e a r c i a/e r c<=2) /\
 (∀j,a<j->j<m->piv e a r c a j=e r c*(piv e a r c a j/e r c)/\-2<=piv e a r c a j/e r c/\piv e a r c a j/e r c<=2) /\
 (∀i j,a<=i->i<n->a<=j->j<m->-2<=piv e a r c i j/\piv e a r c i j<=2) /\
 (∀i j,a<i->i<n->a<j->j<m->(stp e n m a r c i j).tmod (e r c)=0) /\
 (((e r c).natAbs=1/\SWq k n m r2 r3 (a+1) (stp e n m a r c))\/((e r c).natAbs=2/\(∀i j,a<i->i<n->a<j->j<m->stp e n m a r c i j=0)/\r2=a/\r3=a+1)):=by
 have u:=x.hi
 have w:=x.hj
 have z:∀i j,a<=i->i<n->a<=j->j<m->-2<=e i j/\e i j<=2:=λi j d b j1 j2=>h.small d b j1 j2
 have p:∀i j,a<=i->i<n->a<=j->j<m->-2<=piv e a r c i j/\piv e a r c i j<=2:=λi j d b j1 j2=>by have l:=nU u d b;have o:=nU w j1 j2;exact z _ _ l.1 l.2 o.1 o.2
 have s:=h.go g B C x
 have y:∀i j,a<=i->i<n->a<=j->j<m->piv e a r c i j=e r c*(piv e a r c i j/e r c)/\-2<=piv e a r c i j/e r c/\piv e a r c i j/e r c<=2:=λi j d b j1 j2=>by
  refine znk ?_<|p i j d b j1 j2;rcases s with⟨f,_⟩|⟨f,t,_⟩
  exact .inl f;have l:=nU u d b;have o:=nU w j1 j2;exact .inr ⟨f,(t _ _ l.1 l.2 o.1 o.2).1⟩
 refine⟨λi d b=>y i a om b (ab a) om,λj j1 j2=>y a j (ab a) om om j2,p,?_⟩
 rcases s with⟨f,t⟩|⟨f,t,D,E⟩
 refine⟨λi j _ _ _ _=>?_,.inl ⟨f,t _<|zqI u w f z⟩⟩;have:e r c=1\/e r c=-1:=om;rcases this with h|h<;>rw[h]<;>simp
 have A:∀i j,a<i->i<n->a<j->j<m->stp e n m a r c i j=0:=λi j d b j1 j2=>by have q:=(y i a om b (ab a) om).1;rw[znl d b j1 j2 q];have l:=nU u (dY d) b;have o:=nU w (dY j1) j2;have:=(t _ _ l.1 l.2 o.1 o.2).2;refine znm f ?_ q;unfold piv;rw[mv,mv];exact this
 exact⟨λi j d b j1 j2=>by rw[A i j d b j1 j2];exact Int.zero_tmod _,.inr ⟨f,A,D,E⟩⟩
end
def crs(e:X0)(a:Nat)(l:Int)(i j:Nat):Int:=(e i j*e a a-e i a*e a j).tdiv l
def bar(e:X0)(a:Nat)(l:Int)(i0:Nat):X0:=λi j=>if a<i/\i<i0/\a<=j then(if j=a then 0 else crs e a l i j)else e i j
def rC(e:X0)(a:Nat)(l:Int)(i0 j0:Nat):X0:=λi j=>if i=i0/\a<j/\j<j0 then crs e a l i j else bar e a l i0 i j
section
variable {e:X0}{a i j i0 j0 n m:Nat}{l:Int}
theorem znn(h:i<=a):bar e a l i0 i j=e i j:=ac λb=>om
theorem zno(h:i0<=i):bar e a l i0 i j=e i j:=ac λb=>om
theorem ztO(h:a<i)(b:i<i0)(c:a<j):bar e a l i0 i j=crs e a l i j:=by unfold bar;omega
theorem zjr:rC e a l i0 (a+1) i j=bar e a l i0 i j:=ac λb=>om
theorem zbF(h:a<i0):rC e a l i0 j0 a j=e a j:=by rw[rC,ac λb=>om,znn<|ab a]
theorem zqK(h:j0<=j):rC e a l i0 j0 i0 j=e i0 j:=by rw[rC,ac λb=>om,zno<|ab _]
theorem znp:rC e a l i0 j0 i0 a=e i0 a:=by rw[rC,ac λb=>om,zno<|ab _]
theorem znq(h:a<j0):Bj (rC e a l i0 j0) i0 j0 (crs e a l i0 j0) i j=rC e a l i0 (j0+1) i j:=by unfold Bj rC;grind
theorem znr(h:a<i0)(g:j<m):Bj (rC e a l i0 m) i0 a 0 i j=bar e a l (i0+1) i j:=by unfold Bj rC bar;grind
def bst(e:X0)(n a r c:Nat)(l:Int):X0:=bar (piv e a r c) a l n
theorem zqL(B:z=1\/z=2)(t:l=(z:Int)\/l=-(z:Int))(f:a<=x/\x<n)(g:a<=y/\y<m)(d:e x y≠0)(u:∀i j,a<=i->i<n->a<=j->j<m->(z:Int)∣e x y*e i j-e i y*e x j):Sst e (bst e n a x y l) a n m x y z:=by
 refine⟨f,g,d,if l=(z:Int)then 1 else -1,by split<;>simp,λi j b o j1 j2=>?_⟩;have p:=nU f (dY b) o;have q:=nU g (dY j1) j2;have w:piv e a x y i j=e (ke a x i) (ke a y j):=by unfold piv;rw[mb b,mb j1]
 have r:piv e a x y a j=e x (ke a y j):=by unfold piv;rw[mv,mb j1]
 have A:piv e a x y i a=e (ke a x i) y:=by unfold piv;rw[mv,mb b]
 have s:=u _ _ p.1 p.2 q.1 q.2;rw[mb b,mb j1]at s;unfold bst;rw[ztO b o j1];unfold crs;rw[w,r,A,wS,kZ<|e (ke a x i)<|ke a y j];generalize e x y*e (ke a x i) (ke a y j)-e (ke a x i) y*e x (ke a y j)=c at *;obtain⟨k,rfl⟩:=s;rcases t with h|h
 rw[ae h,h,jS _ om];omega;rw[ac om,h,Int.tdiv_neg,jS _ om,Int.mul_neg,Int.neg_mul_neg,jL]
end
def HJ(n m:Nat):Nat->(X0)->Nat->Int->Int
 | 0,_,_,l=>l
 | f+1,e,a,l=>match th (yV e) a m (n-a)with
   | none=>l
   | some (r,c)=>HJ n m f (bst e n a r c l) (a+1) (e r c)
theorem UD{a:Nat}(h:th (yV u) a y (x-a)=o0):HJ x y (z+1) u a L=L:=by rw[HJ,h]
theorem UE{a r c:Nat}(h:th (yV u) a y (x-a)=n0 (r,c)):HJ x y (z+1) u a L=HJ x y z (bst u x a r c L) (a+1) (u r c):=by rw[HJ,h]
theorem zns{b d a r c l:Nat}(g:Good x)(h:IW x y z b d l a u)(q:b<=z)(s:d<=z)(t:L=(l:Int)\/L=-(l:Int))(n:th (yV u) a z (y-a)=n0 (r,c)) :
 (a<=r/\r<y)/\(a<=c/\c<z)/\u r c≠0/\(∀i j,a<=i->i<y->a<=j->j<z->-2<=u i j/\u i j<=2)/\IW x y z b d (u r c).natAbs (a+1) (bst u y a r c L):=have⟨f,o,p,w⟩:=zdG h.an h.am n;have⟨m,e⟩:=h.go g q s f o p w;⟨f,o,p,λi j k A j1 j2=>h.small k A j1 j2,e _<|zqL h.l t f o p m⟩
theorem zhD{k n m d i:Nat}(g:Good k)(j:d<=m)(o:i<=m):∀(f a l:Nat)(e:X0)(L:Int),n+1<=a+f->IW k n m d i l a e->(L=(l:Int)\/L=-(l:Int))->((HJ n m f e a L).natAbs=1\/(HJ n m f e a L).natAbs=2)/\((HJ n m f e a L).natAbs=1->d=i)
 | 0,a,l,e,L,q,h,_=>by have:=h.an;omega
 | f+1,a,l,e,L,q,h,s=>by
   cases b:th (yV e) a m (n-a)with
   | none =>rw[UD b];have t:=(h.stop j o<|Ll h.an h.am b).2;have w:=h.l;exact⟨om,λp=>t om⟩
   | some u =>obtain⟨r,c⟩:=u;rw[UE b];obtain⟨_,_,_,_,p⟩:=zns g h j o s b;exact zhD g j o f (a+1) _ _ _ om p om
theorem vI{p:Nat}[NeZero p](g:lM (p:Int)=k0)(L H:O0):iQ p (fy L H)<=lh H/\kN (Wp (p:=p) (Of L H) 0 (lh L) (lh H)) (p^(lh H-iQ p (fy L H))):=by
 by_cases k:L=[];subst k;have l:=(CP (p:=p) g (M:=fy [] H) (n:=0) (by simp[fy])<|λi b=>by simp[fy]at b).1;rw[show iQ (p:Int) (fy [] H)=0 by omega];exact⟨aB _,mn _ (aB _) λi j _ h=>absurd h sp⟩;have d:0<lh L:=List.length_pos_iff.2 k;have c:∀i,i<lh L->lh (lg (fy L H) i [])=lh H:=λi b=>by rw[lO b];simp
 obtain⟨l,m⟩:=CP (p:=p) g (M:=fy L H) (n:=lh H) (c 0 d) (λi b=>c i<|by rwa [gX]at b);refine⟨l,m.congr λx=>?_⟩;unfold Wp Kq;have f:On (λj=>0<=j/\j<lh H) x↔On (λa=>a<lh H) x:=⟨λh j e=>h j om,λh j e=>h j om⟩;rw[f,gX];refine nZ λ_=>⟨λh i _ b=>?_,λh i b=>?_⟩;rw[<- h i b];refine fg _ λj e=>?_;rw[lO b];unfold Of;simp[lg,e];rw[<- h i (aB _) b];refine fg _ λj e=>?_;rw[lO b];unfold Of;simp[lg,e]
def smN(M:fG):N0:=ld (iQ 2 M) 1++ld (iQ 3 M-iQ 2 M) 2
section
variable {k:Nat}{f:V0}
abbrev Lo(f:V0)(k:Nat):O0:=cd f k 64
abbrev Bm(f:V0)(k:Nat):fG:=fy (cd f k 64) (cd f (k+1) 64)
theorem UJ:iQ 2 (Bm h N)<=(Lo h (N+1)).length:=(vI zmC _ _).1
theorem JC:iQ 3 (Bm h N)<=(Lo h (N+1)).length:=(vI zmD _ _).1
theorem SWq.start(g:Good k)(c:∀a b,b<64->f b=k0->a&&&b=a->f a=k0):SWq k (Lo f k).length (Lo f (k+1)).length (iQ 2 (Bm f k)) (iQ 3 (Bm f k)) 0 (Of (Lo f k) (Lo f (k+1))) :=
 ⟨aB _,aB _,⟨_,.inl ⟨0,g.start c⟩⟩,(vI zmC _ _).2,(vI zmD _ _).2⟩
theorem IW.start(g:Good k)(c:∀a b,b<64->f b=k0->a&&&b=a->f a=k0):IW k (Lo f k).length (Lo f (k+1)).length (iQ 2 (Bm f k)) (iQ 3 (Bm f k)) 1 0 (Of (Lo f k) (Lo f (k+1))) :=
 ⟨aB _,aB _,⟨_,.inl ⟨rfl,⟨0,g.start c⟩,(vI zmC _ _).2⟩⟩,(vI zmD _ _).2⟩
end
theorem UI(L H:O0):fy L H=cz (lh L) (lh H) (Of L H):=by refine Wo (gX L H) (λi a=>by rw[lO a,aG]) λi j a b=>?_;rw[lO a];simp[Of,b]
def zk(e:X0)(j:Nat):Nat->Nat
 | 0=>0
 | i+1=>zk e j i+(e i j).natAbs
theorem zhG:(lI b d).natAbs=if b&&&d=b then 1 else 0:=by unfold lI;grind
theorem zqR(L H:O0)(j:Nat):∀i,i<=lh L->zk (Of L H) j i=((L.take i).filter λa=>a&&&H.getD j 0==a).length:=by
 intro i;induction i with
 | zero=>intro _;rfl
 | succ i b =>intro c;rw[zk,bj 0<|by omega,aW,aA];rw[Of,zhG];grind
theorem zju:∀b,b<64->lh ((lc 64).filter λa=>(aQ a+1==aQ b)&&(a&&&b==a))<=6:=by decide +kernel
theorem zbK(k:x<=lh (Lo h N))(g:y<lh (Lo h (N+1))):zk (Of (Lo h N) (Lo h (N+1))) y x<=6:=by
 rw[zqR _ _ _ _ k];have l:lg (Lo h<|N+1) y 0∈Lo h (N+1):=by rw[lg,aN g];exact bx g
 obtain⟨d,c⟩:=List.mem_filter.1 l;rw[aj,aK]at c;have m:=zju _<|List.mem_range.1 d;generalize (Lo h<|N+1).getD y 0=b at *;refine aJ (((List.take_sublist x<|Lo h N).filter _).length_le)<|aJ ?_ m;unfold Lo cd;rw[ou];rw[<- iG,<- iG];refine yj λa _ e=>?_;grind
theorem zwF:chk 0=true:=by decide +kernel
theorem zwG:chk 1=true:=by decide +kernel
theorem zwH:chk 2=true:=by decide +kernel
theorem zwI:chk 3=true:=by decide +kernel
theorem zwJ:chk 4=true:=by decide +kernel
theorem zwK:chk 5=true:=by decide +kernel
theorem zqS:∀k,k<6->chk k=k0
 | 0,_=>zwF|1,_=>zwG|2,_=>zwH|3,_=>zwI|4,_=>zwJ|5,_=>zwK
 | k+6,h=>absurd h om
theorem Kw(h:x<6):Good x:=zqe<|zqS x h
theorem zsG{k n m b d:Nat}(g:Good k)(i:b<=m)(j:d<=m):∀(f a:Nat)(e:X0),n+1<=a+f->SWq k n m b d a e->b<=d
 | 0,a,e,p,h=>by have:=h.an;omega
 | f+1,a,e,p,h=>by
   cases l:th _ a m (n-a)with
   | none =>have:=h.stop i j<|Wn h.an h.am l;omega
   | some q =>
     obtain⟨_,_,_,_,s⟩:=zd7 g h i j (Wm h.an h.am l);rcases s with⟨_,o⟩|⟨_,_,o,t⟩
     exact zsG g i j f _ _ om o;omega
theorem zsH(c:x<6)(d:∀a b,b<64->o b=k0->a&&&b=a->o a=k0):iQ 2 (Bm o x)<=iQ 3 (Bm o x) :=
 zsG (Kw c) (UJ o x) (JC o x) (lh (Lo o x)+1) 0 _ om<|SWq.start (Kw c) d
theorem Lv{f:V0}{k:Nat}(c:k<6)(d:∀a b,b<64->f b=k0->a&&&b=a->f a=k0):lh (smN (Bm f k))=iQ 3 (Bm f k):=by have:=zsH c d;simp_all[smN]
theorem ztX:∀k,k<7->lh ((lc 64).filter λa=>aQ a==k)<=20:=by decide +kernel
theorem UH{k:Nat}(b:k<7):lh (Lo h k)<=20:=by refine aJ ?_<|ztX k b;rw[Lo,cd,<- iG,<- iG];exact yj λa _ c=>((aj _ _).mp c).2
def Kv(e:X0)(a i0:Nat):X0:=λi j=>if a<i/\i<i0/\a<=j then(e i j+e i a*e a j)%2 else e i j
def UF(e:X0)(a i0 j0:Nat):X0:=λi j=>if i=i0/\a<=j/\j<j0 then(e i j+e i a*e a j)%2 else Kv e a i0 i j
def FK(e:X0)(a j0:Nat):X0:=λi j=>if i=a/\a<j/\j<j0 then 0 else e i j
def clq(e:X0)(n m a:Nat):X0:=FK (Kv e a n) a m
def HL(n m:Nat)(e:X0):Prop:=∀i j,i<n->j<m->e i j=0\/e i j=1
section
variable {e e':X0}{a i j i0 j0 n m r c:Nat}
theorem zqN{y z:Int}(a:L=0\/L=1):(L+y*z)%2=0\/(L+y*z)%2=1:=om
theorem OH(h:i<=a):Kv e a i0 i j=e i j:=ac λb=>om
theorem znu(h:i0<=i):Kv e a i0 i j=e i j:=ac λb=>om
theorem znv(h:a<i)(b:i<i0)(c:a<=j):Kv e a i0 i j=(e i j+e i a*e a j)%2:=ae ⟨h,b,c⟩
theorem zbH:UF e a i0 a i j=Kv e a i0 i j:=ac λb=>om
theorem ztR(h:a<i0):UF e a i0 j0 a j=e a j:=by rw[UF,ac λb=>om,OH<|ab a]
theorem ztS(h:j0<=j):UF e a i0 j0 i0 j=e i0 j:=by rw[UF,ac λb=>om,znu<|ab _]
theorem zqO(h:a<=j0):Bj (UF e a i0 j0) i0 j0 ((e i0 j0+e i0 a*e a j0)%2) i j=UF e a i0 (j0+1) i j:=by unfold Bj UF;grind
theorem zqP(h:a<i0)(g:j<m):UF e a i0 m i j=Kv e a (i0+1) i j:=by unfold UF Kv;grind
theorem znw(d:HL n m e)(b:i0<n)(h:e i0 a=0)(f:j<m):Kv e a i0 i j=Kv e a (i0+1) i j:=by unfold Kv;by_cases g:i=i0;subst g;rw[ac λk=>om];split;have:=d i j b f;rw[h];omega;rfl;grind
theorem zbI(b:HL n m e):HL n m (Kv e a i0):=λi j c d=>by unfold Kv;split;exact zqN<|b i j c d;exact b i j c d
theorem znx(b:HL n m e):HL n m (FK e a j0):=λi j c d=>by unfold FK;split;exact .inl rfl;exact b i j c d
theorem zny(b:HL n m e):HL n m (clq e n m a):=znx<|zbI b
theorem zhE(b:e a a=1)(d:e i a=0\/e i a=1)(h:a<i)(c:i<i0):Kv e a i0 i a=0:=by rw[znv h c<|ab a,b];omega
theorem WG(h:i≠a):FK e a j0 i j=e i j:=ac λb=>h b.1
theorem zd9(h:j<=a):FK e a j0 i j=e i j:=ac λb=>om
theorem znz(h:j0<=j):FK e a j0 a j=e a j:=ac λb=>om
theorem znA:FK e a (a+1) i j=e i j:=ac λb=>om
theorem zqQ(h:a<j0):Bj (FK e a j0) a j0 0 i j=FK e a (j0+1) i j:=by unfold Bj FK;omega
theorem znB(h:e a j0=0):FK e a j0 i j=FK e a (j0+1) i j:=by unfold FK;grind
theorem zjt(h:e a x=L):Bj e a x L i j=e i j:=by simp_all[Bj]
theorem ztT:clq e n m a a a=e a a:=by rw[clq,zd9<|ab a,OH<|ab a]
theorem ztU(h:i<a):clq e n m a i j=e i j:=by rw[clq,WG om,OH om]
theorem UG(h:∀i j,a<=i->i<n->a<=j->j<m->e i j%2=e' i j%2)(g:K2 e a n m x):K2 e' a n m x:=by
 refine g.congr λr=>nZ λk=>?_;have d:∀i,a<=i->i<n->Ko m e i r=Ko m e' i r:=λi b c=>by
  refine fg m λj l=>?_;by_cases f:a<=j;have:kv 2 (e i j)=kv 2 (e' i j):=by rw[WA];exact h i j b c f l
  rw[this];rw[k j om];grind
 grind
theorem ztV(t:HL n m e)(g:a<=r/\r<n)(h:a<=c/\c<m)(f:e r c=1)(k:K2 e a n m x):K2 (clq (piv e a r c) n m a) (a+1) n m x:=by
 have l:Sst e (λi j=>e r c*e (ke a r i) (ke a c j)-e (ke a r i) c*e r (ke a c j)) a n m r c 1:=⟨g,h,om,1,.inl rfl,λi j _ _ _ _=>sp⟩;refine UG (λi j b o j1 j2=>?_)<|k.back l (by rw[f];decide) dc;unfold clq;rw[WG om,znv b o om];have p:piv e a r c i j=e (ke a r i) (ke a c j):=by unfold piv;rw[mb b,mb j1]
 have q:piv e a r c a j=e r (ke a c j):=by unfold piv;rw[mv,mb j1]
 have s:piv e a r c i a=e (ke a r i) c:=by unfold piv;rw[mv,mb b]
 rw[p,q,s,f];omega
theorem zbJ(f:HL n m e)(b:a<n/\r<n)(d:a<m/\c<m):HL n m (piv e a r c):=λ_ _ g h=>f _ _ (Hw b.1 b.2 g)<|Hw d.1 d.2 h
theorem ztW(b:a<=r)(d:a<=c)(f:i<a)(g:j<a):piv e a r c i j=e i j:=by unfold piv ua;grind
structure MW (n m r2 b a:Nat) (e:Nat->Nat->Int):Prop where
 ba:b<=a
 bn:b<=n
 bm:b<=m
 bt:HL n m e
 on:∀i,i<b->e i i=1
 k2:K2 e b n m r2
 zr:b=a\/∀i j,b<=i->i<n->b<=j->j<m->e i j=0
theorem MW.step(h:MW n m x a a e)(f:a<=r/\r<n)(g:a<=c/\c<m)(j:e r c=1):MW n m x (a+1) (a+1) (clq (piv e a r c) n m a):=by refine⟨ab _,om,om,zny<|zbJ h.bt om om,λi k=>?_,ztV h.bt f g j h.k2,.inl rfl⟩;by_cases b:i=a;subst b;rw[ztT,wS,j];rw[ztU om,ztW f.1 g.1 om om];exact h.on i om
theorem MW.skip(h:MW n m x y a e)(d:∀i j,y<=i->i<n->y<=j->j<m->e i j=0):MW n m x y (a+1) e:=⟨by have:=h.ba;omega,h.bn,h.bm,h.bt,h.on,h.k2,.inr d⟩
theorem MW.fin(h:MW n m x y (min n m) e)(k:x<=m):x=y/\∀i,i<min n m->e i i=if i<x then 1 else 0:=by
 have c:∀i j,y<=i->i<n->y<=j->j<m->e i j=0:=by rcases h.zr with d|d;exact λi j f g j1 j2=>om;exact d
 have l:=kN.uniq2 h.k2 (mn e h.bm λi j f g j1 j2=>by grind) k h.bm;refine⟨l,λi o=>?_⟩;split;exact h.on i om;grind
theorem MW.start(b:K2 (λi j=>e i j%(y:Int)) 0 n m x)(c:y=1\/y=2):MW n m x 0 0 (λi j=>e i j%(y:Int)) :=
 ⟨ab _,aB _,aB _,λi j _ _=>by grind,λi h=>om,b,.inl rfl⟩
end
def AN(b t N:Nat):N0:=(lc N).map λi=>if i<b then 1 else(t:Int)
theorem Dc:lh (AN b d N)=N:=by simp[AN]
theorem OI{i:Nat}(h:i<z):lg (AN x y z) i 0=if i<x then 1 else(y:Int):=by simp[AN,h]
theorem znC{b t N k:Nat}(h:k<=N):(AN b t N).take k=AN b t k:=by unfold AN;rw[<- List.map_take,List.take_range,ra h]
theorem zhF(h:x<=z):AN x y z=ld x 1++ld (z-x) (y:Int):=by refine bE (by rw[Dc];grind) λi a c=>?_;simp[AN,List.getElem_append]
theorem zvI{k n m l b:Nat}(g:Good k)(d:l<=m)(i:b<=m):∀(f a:Nat)(e:X0),n+1<=a+f->SWq k n m l b a e->b<=n
 | 0,a,e,p,h=>by have:=h.an;omega
 | f+1,a,e,p,h=>by
   cases j:th (CM e) a m (n-a)with
   | none =>have:=h.stop d i<|Wn h.an h.am j;have:=h.an;omega
   | some q =>
     obtain⟨_,_,_,_,s⟩:=zd7 g h d i (Wm h.an h.am j);rcases s with⟨_,o⟩|⟨_,_,o,t⟩
     exact zvI g d i f (a+1) _ om o;have:=(Wm h.an h.am j).hi;omega
theorem zo4(c:x<64)(h:¬y&&&x=x):∃i,i<6/\x.testBit i=k0/\y.testBit i=false:=by rw[cg]at h;have⟨i,b⟩:=Classical.not_forall.1 h;have a:x.testBit i=k0/\¬y.testBit i=true:=⟨aC λh=>b λd=>absurd d h,λh=>b λ_=>h⟩;refine⟨i,aC λe=>?_,a.1,ss a.2⟩;have:=eK (i:=i)<|cp c<|aV (n:=2) (i:=6) dc om;grind
theorem zid(a:x.testBit z=k0)(b:y.testBit z=false):¬y&&&x=x:=λh=>by grind
theorem zuv:∀x,x<64->∀i,i<6->x.testBit i=k0->∀t,t<64->((x-2^i)&&&t==t)=(x&&&t==t&&!t.testBit i):=by decide +kernel
theorem XA(a:x<64)(b:y<6)(c:x.testBit y=k0)(d:z<64):(x-2^y)&&&z=z↔x&&&z=z/\z.testBit y=false:=by have:=zuv x a y b c z d;grind
theorem zuw:∀m,m<6->∀y,y<2^m->∀t,t<2^m->((y+2^m)&&&(t+2^m)==t+2^m)=(y&&&t==t)/\((y+2^m)&&&t==t)=(y&&&t==t)/\(y&&&(t+2^m)==t+2^m)=false:=dc
theorem zeN(c:x<6)(d:y<2^x)(e:z<2^x):((y+2^x)&&&(z+2^x)=z+2^x↔y&&&z=z)/\((y+2^x)&&&z=z↔y&&&z=z)/\¬y&&&(z+2^x)=z+2^x:=by have⟨a,b,f⟩:=zuw x c y d z e;grind
def sdF(m s:Nat)(f:V0)(t:Nat):Bool:=if t<2^m then pB f s t else decide (t<2^(m+1))&&(f ((t-2^m)|||s)&&!((t-2^m)&&&s==s))
def Vd(m s x i:Nat):O0:=if s.testBit i=k0 then [x-2^i,x-2^i+2^m]else []
def QX(m s x:Nat):O0:=if x&&&s=s then(lc 6).flatMap (Vd m s x)else [x]
theorem zie:x&&&(z|||y)=z|||y↔x&&&z=z/\x&&&y=y:=by simp[cg];grind
theorem Iq{s:Nat}(_:z<64):s∈QX x y z↔(¬z&&&y=y/\s=z)\/(z&&&y=y/\∃i,i<6/\y.testBit i=k0/\(s=z-2^i\/s=z-2^i+2^x)):=by unfold QX Vd;grind
theorem zo5(q:x<6)(I:y<2^x){X:O0}(p:∀f∈X,f<2^x)(D:∀z,o z=k0↔∃f∈X,f&&&z=z)(E:z<64) :
 sdF x y o z=k0↔∃f∈X,∃t∈QX x y f,t&&&z=z:=by
 have F:2^x<=32:=aV (n:=2) (i:=x) (j:=5) dc om
 have l:∀{f z:Nat},f<2^x->f&&&z=z->z<2^x:=λ{f z}c h=>bD (by rw[<- h];exact bI) c
 unfold sdF
 by_cases r:z<2^x
 ·rw[ae r];unfold pB;rw[aj,D,bC,bc];constructor
  ·rintro⟨⟨f,c,d⟩,w⟩;have:=p f c;refine⟨f,c,?_⟩;by_cases e:f&&&y=y
   ·obtain⟨i,k,g,m⟩:=zo4 om w;exact⟨f-2^i,(Iq om).2<|.inr ⟨e,i,k,g,.inl rfl⟩,(XA om k (cg.1 e i g) E).2 ⟨d,m⟩⟩
   ·exact⟨f,(Iq om).2<|.inl ⟨e,rfl⟩,d⟩
  ·rintro⟨f,c,t,A,d⟩;have:=p f c;rcases(Iq om).1 A with⟨e,rfl⟩|⟨e,i,k,g,s⟩
   ·exact⟨⟨t,c,d⟩,λh=>e<|cg.2 λi G=>cg.1 d i<|cg.1 h i G⟩
   ·have B:(f-2^i)&&&z=z:=by
     rcases s with rfl|rfl
     ·exact d
     ·exact(zeN q (bD (mE f<|2^i) this) r).2.1.1 d
    obtain⟨a,b⟩:=(XA om k (cg.1 e i g) E).1 B;exact⟨⟨f,c,a⟩,zid g b⟩
 ·rw[ac r];obtain⟨u,rfl⟩:∃u,z=u+2^x:=⟨z-2^x,om⟩;rw[dS,aj,aq,aj,D,bC,bc];constructor
  ·rintro⟨d,⟨f,c,w⟩,e⟩;rw[fm]at d;have:=p f c;obtain⟨s,C⟩:=zie.1 w;obtain⟨i,k,g,m⟩:=zo4 om e;exact⟨f,c,f-2^i+2^x,(Iq om).2<|.inr ⟨C,i,k,g,.inr rfl⟩,(zeN q (bD (mE f<|2^i) this) om).1.2<|(XA om k (cg.1 C i g) om).2 ⟨s,m⟩⟩
  ·rintro⟨f,c,t,A,d⟩;have:=p f c;rcases(Iq om).1 A with⟨e,rfl⟩|⟨e,i,k,g,s⟩
   ·exact absurd (l this d) om
   ·rcases s with rfl|rfl
    ·exact absurd (@l (f-2^i) _ (bD (mE f<|2^i) this) d) om
    ·have H:u<2^x:=by
      have C:u+2^x<=f-2^i+2^x:=by
       conv=>lhs;rw[<- d]
       exact bI
      have:=mE f<|2^i;omega
     obtain⟨a,b⟩:=(XA om k (cg.1 e i g) om).1 ((zeN q (bD (mE f<|2^i) this) H).1.1 d);exact⟨by rw[fm];omega,⟨f,c,zie.2 ⟨a,e⟩⟩,zid g b⟩
theorem zrR(A:y<2^x)(s:∀z,o z=k0->z<2^x) :
 sdF x y o z=k0↔pB o y z=k0\/∃b a,dL o y b=k0/\y&&&a=a/\a≠y/\z=2^x|||a|||b:=by
 have d:∀{a b:Nat},dL o y b=k0->y&&&a=a->2^x|||a|||b=(a|||b)+2^x/\a|||b<2^x/\((a|||b)|||y=b|||y)/\((a|||b)&&&y=a):=λ{a b}g k=>by
  unfold dL at g;rw[aj,aK]at g;have p:=s _ g.2;have q:a<2^x:=bD (by rw[<- k];exact bI) A;have r:b<2^x:=bD pt p;have n:a|||b<2^x:=cu q r
  have e:=rJ n 1;rw[dh]at e;refine⟨by rw[xt,<- e,xr],n,bB λi=>?_,bB λi=>?_⟩;have:=cV (λf=>f.testBit i) k;simp only[bQ,bq]at this ⊢;revert this;cases a.testBit i<;>cases b.testBit i<;>cases y.testBit i<;>simp;have j:=cV (λf=>f.testBit i) k;have c:=cV (λf=>f.testBit i) g.1;simp only[bQ,bq,dQ]at j c ⊢;revert j c;cases a.testBit i<;>cases b.testBit i<;>cases y.testBit i<;>simp
 unfold sdF
 by_cases j:z<2^x
 rw[ae j];refine⟨.inl,λh=>h.elim id ?_⟩;rintro⟨b,a,c,l,_,rfl⟩;rw[(d c l).1]at j;omega
 rw[ac j];have w:¬pB o y z=true:=λh=>j (s z (by unfold pB at h;rw[aj]at h;exact h.1));obtain⟨u,rfl⟩:∃u,z=u+2^x:=⟨z-2^x,om⟩;rw[dS,aj,aq,aj,bC,bc];constructor
 rintro⟨c,l,t⟩;have B:=s _ l;have C:u<2^x:=bD pt B;have m:u&&&y|||(u ^^^ (u&&&y))=u:=bB λi=>by simp only[bQ,bq,eS];cases u.testBit i<;>cases y.testBit i<;>rfl
 have g:dL o y (u ^^^ (u&&&y))=true:=by
  unfold dL;rw[aj,aK];refine⟨bB λi=>?_,?_⟩;simp only[bQ,eS,dQ];cases u.testBit i<;>cases y.testBit i<;>rfl;rw[show u ^^^ (u&&&y)|||y=u|||y from bB λi=>by
   simp only[bQ,bq,eS];cases u.testBit i<;>cases y.testBit i<;>rfl]
  exact l
 have k:y&&&(u&&&y)=u&&&y:=by rw[cl y,fD,dp]
 exact .inr ⟨_,_,g,k,t,by rw[(d g k).1,m]⟩
 intro h;obtain⟨b,a,c,l,t,D⟩:=h.resolve_left w;obtain⟨E,H,F,G⟩:=d c l;rw[E]at D;have:u=a|||b:=om
 subst this;refine⟨by rw[fm];omega,?_,by rw[G];exact t⟩;rw[F];unfold dL at c;rw[aj]at c;exact c.2
theorem PG(_:x≠0):Go.Lib.decDigits x=(if x/10=0 then []else Go.Lib.decDigits (x/10))++[UInt8.ofNat (48+x%10)]:=by rw[Go.Lib.decDigits];grind
theorem zik{b:Type}{motive:List b->Prop}(nil:motive [])(snoc:∀l a,motive l->motive (l++[a]))(l:List b):motive l:=by
 have h:∀r:List b,motive r.reverse:=λr=>by
  induction r with
  | nil=>grind
  | cons a r c=>grind
 have:=h l.reverse;grind
def oI(l:List UInt8):Nat:=l.foldl (λn c=>10*n+(c.toNat-48)) 0
theorem PH(c:UInt8):oI (g++[c])=10*oI g+(c.toNat-48):=by simp[oI]
def JI(l:List UInt8):Bool:=l.all λc=>decide (48<=c.toNat)&&decide (c.toNat<=57)
theorem zv0(h:48<=A.toNat/\A.toNat<=57):UInt8.ofNat (48+(A.toNat-48))=A:=by simp_all
theorem zpc:∀(l:List UInt8),JI l=k0->oI l<10^l.length:=by
 intro l;induction l using zik with
 | nil=>decide
 | snoc l c a =>intro h;unfold JI at h a;rw[fW,aj]at h;have b:=a h.1;simp at h;rw[PH,aA,cG];omega
theorem zrW:x≠0->∃c l,Go.Lib.decDigits x=c::l/\c.toNat≠48:=by
 induction x using Nat.strongRecOn with
 | _ x b =>intro h;rw[PG h];split;simp;omega;rename_i a;have⟨c,l,e,d⟩:=b _ om a;grind
theorem zux:∀(l:List UInt8),JI l=k0->l≠[]->(l.head?.map UInt8.toNat≠n0 48)->oI l≠0/\Go.Lib.decDigits (oI l)=l:=by
 intro l;induction l using zik with
 | nil=>simp
 | snoc l c e =>
   intro h _ f;unfold JI at h e;rw[fW,aj]at h;have g:48<=c.toNat/\c.toNat<=57:=by grind
   rw[PH];by_cases b:l=[];subst b;have i:=ss f;have j:oI []=0:=rfl;rw[j];refine⟨om,?_⟩;rw[PG om,ae om,show(10*0+(c.toNat-48))%10=c.toNat-48 by omega,zv0 g];have d:l.head?.map UInt8.toNat≠n0 48:=by
    grind
   have⟨k,m⟩:=e h.1 b d;refine⟨om,?_⟩;rw[PG om,show(10*oI l+(c.toNat-48))/10=oI l by omega,ac k,m,show(10*oI l+(c.toNat-48))%10=c.toNat-48 by omega,zv0 g]
theorem XG:Go.Lib.decDigits 0=[48]:=by simp[Go.Lib.decDigits]
theorem zuy(h:JI w=k0)(i:w≠[]):Go.Lib.decDigits (oI w)=w↔w.length=1\/w.head?.map UInt8.toNat≠n0 48:=by
 by_cases a:w.head?.map UInt8.toNat=n0 48;by_cases b:lh w=1
 match w,b with
 | [c],_ =>refine⟨λ_=>.inl rfl,λ_=>?_⟩;have e:c=48:=UInt8.toNat_inj.1 (ss a);subst e;show Go.Lib.decDigits 0=_;rw[XG]
 refine⟨λe=>?_,λj=>absurd a<|j.resolve_left b⟩;by_cases f:oI w=0;rw[f,XG]at e;grind;have⟨c,k,g,d⟩:=zrW f;grind;exact⟨λ_=>.inr a,λ_=>(zux w h i a).2⟩
def GB(l:List UInt8)(a:Nat):Bool:=decide (1<=lh l)&&decide (lh l<=a)&&(JI l&&(decide (lh l=1)||!decide ((lg l 0 0).toNat=48)))
def ZH(l:List UInt8):List UInt8:=if(lg l 0 0).toNat=45 then l.drop 1 else l
def pg(l:List UInt8):Bool:=GB (ZH l) 12&&!decide ((lg l 0 0).toNat=45/\oI (ZH l)=0)
def we(l:List UInt8):Int:=if(lg l 0 0).toNat=45 then -(oI (ZH l):Int)else oI (ZH l)
theorem zkb(h:w≠[]):w.head?.map UInt8.toNat=n0 (lg w 0 0).toNat:=by
 cases w with
 | nil=>grind
 | cons a w=>rfl
theorem zrX(a:1<=lh w)(d:lh w<=x)(b:JI w=k0):GB w x=k0↔Go.Lib.decDigits (oI w)=w:=by
 have c:w≠[]:=λe=>by grind
 simp[zuy b c,zkb c,GB,b,a,d]
theorem PI{l:List UInt8}(f:1<=lh (ZH l))(g:lh (ZH l)<=12)(i:JI (ZH l)=k0):Go.Lib.itoa (we l)=l↔pg l=true:=by
 rw[pg,we,aj,zrX f g i,bC,bJ];by_cases b:(lg l 0 0).toNat=45;rw[ae b];have c:l=45::ZH l:=by
  cases l with
  | nil=>simp_all
  | cons a l =>have:a=45:=UInt8.toNat_inj.1 b;rw[this];rfl
 by_cases d:oI (ZH l)=0;rw[d];refine⟨λe=>?_,λh=>absurd ⟨b,rfl⟩ h.2⟩;unfold Go.Lib.itoa at e;rw[ac dc,c,show((-((0:Nat):Int)).toNat)=0 from rfl,XG]at e;grind;unfold Go.Lib.itoa;grind;have c:ZH l=l:=ac b;unfold Go.Lib.itoa;grind
def zT(b:Nat):List UInt8->List (List UInt8)
 | []=>[[]]
 | x::l=>if x.toNat=b then []::zT b l else match zT b l with|p::r=>(x::p)::r|[]=>[[x]]
theorem nG(x:UInt8)(l:List UInt8):zT b (x::l)=if x.toNat=b then []::zT b l else match zT b l with|p::r=>(x::p)::r|[]=>[[x]]:=rfl
theorem DH:zT b g≠[]:=by
 cases g with
 | nil=>simp[zT]
 | cons x g=>unfold zT;grind
theorem zcu(b:Nat):∀(l:List UInt8)(x:UInt8),zT b (l++[x])=if x.toNat=b then zT b l++[[]]else(zT b l).dropLast++[(zT b l).getLastD []++[x]]
 | [],x=>by by_cases h:x.toNat=b<;>simp[zT,h]
 | y::l,x=>by
   rw[kE,nG,nG,zcu b l x];have c:=DH b l;by_cases h:x.toNat=b;rw[ae h,ae h];by_cases a:y.toNat=b;rw[ae a,ae a];rfl;rw[ac a,ac a];cases d:zT b l with
   | nil=>exact absurd d c
   | cons p r=>rfl
   rw[ac h,ac h];by_cases a:y.toNat=b;rw[ae a,ae a];cases d:zT b l with
   | nil=>exact absurd d c
   | cons p r=>simp
   rw[ac a,ac a];cases d:zT b l with
   | nil=>exact absurd d c
   | cons p r=>cases r with
     | nil=>simp
     | cons e r=>simp
theorem zuC:fK t d=(lg t.data.toList d 0).toNat:=rfl
theorem PJ:(t.extract d N).data.toList=(t.data.toList.take N).drop d:=by rw[xx,Aa,List.drop_take]
theorem zpg:∀i,i<=t.size->zT d (t.data.toList.take i)=(pU t d i).1.map (λp=>p.data.toList)++[(t.data.toList.take i).drop (pU t d i).2]:=by
 intro i;induction i with
 | zero=>simp[zT,pU]
 | succ i a =>intro c;have b:i<lh _:=c;have e:=(Li t d i).1;rw[bj 0 b,zcu,a om,<- zuC];by_cases h:fK t i=d;have f:((t.data.toList.take i)++[lg t.data.toList i 0]).drop (i+1)=[]:=eI (by grind);simp only[ae h,uW h,cq,dR,gy,PJ];rw[f];rw[ac h,Fj h,List.dropLast_concat,List.getLastD_concat,kP (by grind)]
theorem qi:(dO t d).map (λp=>p.data.toList)=zT d t.data.toList:=by have h:=zpg t d _<|ab _;have a:t.data.toList.take t.size=t.data.toList:=bK<|ab _;rw[dO,cq,dR,PJ];grind
theorem XI{b:Nat}:∀{l p:List UInt8},p∈zT b l->lh p<=lh l
 | [],p,h=>by simp[List.mem_singleton.1 h]
 | x::l,p,h=>by
   rw[nG]at h;have c:=DH b l;by_cases d:x.toNat=b;rw[ae d]at h;rcases List.mem_cons.1 h with rfl|h
   simp;exact po<|XI h;rw[ac d]at h;cases a:zT b l with
   | nil=>grind
   | cons q r =>
     rw[a]at h;rcases List.mem_cons.1 h with rfl|h
     exact Nat.succ_le_succ<|XI<|a ▸ cU;exact po<|XI<|a ▸ dd _ h
theorem zU{p:P0}{b:Nat}(h:p∈dO q b):p.size<=q.size:=by have:=XI (by rw[<- qi];exact List.mem_map_of_mem h);simp_all
theorem XJ{b:Nat}{x:UInt8}(d:x.toNat≠b):∀{l:List UInt8},x∈l->∃p∈zT b l,x∈p
 | y::l,h=>by
   have e:=DH b l;rw[nG];by_cases f:y.toNat=b;rcases List.mem_cons.1 h with rfl|h
   grind;have⟨p,a,c⟩:=XJ d h;grind;rw[ac f];cases g:zT b l with
   | nil=>grind
   | cons p r =>
     rcases List.mem_cons.1 h with rfl|h;simp;have⟨q,a,c⟩:=XJ d h;grind
theorem Ab{b:Nat}:∀{l:List UInt8},(∀x∈l,x.toNat≠b)->zT b l=[l]
 | [],_=>rfl
 | x::l,h=>by rw[nG,ac<|h x cU,Ab λy a=>h y<|dd _ a]
theorem zil{b:Nat}:∀{l:List UInt8}{x:UInt8},x∈l->x.toNat=b->2<=lh (zT b l)
 | y::l,x,h,d=>by
   rw[nG];have f:=List.length_pos_iff.2 (DH b l);by_cases c:y.toNat=b;grind;rcases List.mem_cons.1 h with rfl|h
   omega;have:=zil h d;grind
theorem XK{b:Nat}:∀{l a c:List UInt8},zT b l=[a,c]->∃x:UInt8,x.toNat=b/\l=a++x::c/\(∀y∈c,y.toNat≠b)/\∀y∈a,y.toNat≠b
 | [],a,c,h=>by simp[zT]at h
 | x::l,a,c,h=>by
   rw[nG]at h;have g:=DH b l;by_cases f:x.toNat=b;rw[ae f]at h;obtain⟨rfl,d⟩:=List.cons.inj h;have j:∀y∈l,y.toNat≠b:=λy k e=>by have:=zil k e;grind
   rw[Ab j]at d;grind;rw[ac f]at h;cases i:zT b l with
   | nil=>grind
   | cons p r =>rw[i]at h;obtain⟨rfl,d⟩:=List.cons.inj h;obtain⟨z,m,n,o,q⟩:=XK (by rw[i,d]);grind
theorem zpd(h:49<=A.toNat/\A.toNat<=54):pg [A]=k0/\we [A]=((A.toNat-48:Nat):Int):=by
 have b:A=UInt8.ofNat A.toNat:=sp;have:∀m:Fin 6,pg [UInt8.ofNat (49+m.val)]=k0/\we [UInt8.ofNat (49+m.val)]=((m.val+1)):=dc
 have a:=this ⟨A.toNat-49,om⟩;grind
theorem zuz(h:pg w=k0)(d:1<=we w)(f:we w<=6):∃c:UInt8,w=[c]/\(49<=c.toNat/\c.toNat<=54):=by
 have a:=h;unfold pg GB at a;simp[bT]at a;have:∀m:Fin 6,Go.Lib.itoa (m.val+1)=[UInt8.ofNat (49+m.val)]:=by decide +kernel
 have b:=this ⟨(we w-1).toNat,om⟩;rw[show(((we w-1).toNat):Int)+1=we w by omega,(PI a.1.1.1 a.1.1.2 a.1.2.1).2 h]at b;refine⟨_,b,?_⟩;simp[this];omega
def XH(t:P0):Bool:=decide (2<=t.size/\49<=fK t 0/\fK t 0<=54/\fK t 1=58)
def GC(t:P0):P0:=t.extract 2 t.size
def Iu(r:P0):Q0:=if r.size=0 then []else dO r 44
def ph(a:Q0):N0:=a.map λp=>((Br p:Nat):Int)
theorem Bb{a:Q0}(h:x<lh a):ph (a.take (x+1))=ph (a.take x)++[((Br (lg a x ⟨#[]⟩):Nat):Int)]:=by rw[ph,bj ⟨#[]⟩ h,cq];rfl
theorem zcr(a:Q0):lh (ph a)=lh a:=aG _
theorem zcs:(GC t).data.toList=t.data.toList.drop 2:=by rw[GC,PJ,show t.data.toList.take t.size=t.data.toList from bK (ab<|lh _)]
theorem zrY(h:A∈q.data.toList)(a:A.toNat=58):uq q=false:=by
 have⟨i,b,e⟩:=bV h;have c:fK q i=58:=by unfold fK;grind
 refine(zd3 ?_<|zd2 b om).2;refine aD λe=>?_;simp_all
theorem zpe(h:A∈q.data.toList)(c:A.toNat=58):(Iu q).all uq=false:=by
 rw[Iu,ac (λe=>by simp_all)];obtain⟨p,a,f⟩:=XJ (b:=44) om h;rw[<- qi]at a;obtain⟨x,g,rfl⟩:=List.mem_map.1 a;exact List.all_eq_false.2 ⟨x,g,by simp[zrY f c]⟩
theorem zuA{b:P0}(h:q.data.toList=b.data.toList):q=b:=iR<|Array.toList_inj.1 h
theorem zct(h:XH q=k0):∃c x:UInt8,q.data.toList=c::x::(GC q).data.toList/\fK q 0=c.toNat/\(49<=c.toNat/\c.toNat<=54)/\x.toNat=58:=by
 have h:=cH h;have a:2<=lh _:=h.1;rw[zcs];unfold fK at h ⊢
 match e:q.data.toList,a with
 | c::x::l,_ =>grind
theorem zrZ(h:(dO q 58).length≠2):(XH q&&(Iu (GC q)).all uq)=false:=by rw[er];refine Classical.or_iff_not_imp_left.2 λb=>?_;have⟨c,x,e,_,i,d⟩:=zct (Bool.not_eq_false _ ▸ b);refine aC λf=>h ?_;have a:∀y∈(GC q).data.toList,y.toNat≠58:=λy g e=>f<|zpe g e;have:=cV lh<|qi q 58;rw[aG]at this;rw[this,e,nG,ac om,nG,ae d,Ab a];rfl
theorem zpf{p t:P0}(h:dO q 58=[p,t]):p.size+(t.size+1)=q.size:=by
 have a:=by have:=qi q 58;rw[h]at this;exact this
 have⟨x,_,e,_⟩:=XK a.symm;have:=cV lh e;rw[aA]at this;exact this.symm
theorem zuB{p t:P0}(h:dO q 58=[p,t]):(XH q=k0->t=GC q)/\(XH q=k0↔∃c:UInt8,p.data.toList=[c]/\(49<=c.toNat/\c.toNat<=54))/\∀c:UInt8,p.data.toList=[c]->fK q 0=c.toNat:=by
 have j:[p.data.toList,t.data.toList]=zT 58 q.data.toList:=by have:=qi q 58;grind
 have⟨x,k,e,C,m⟩:=XK j.symm;have g:∀c:UInt8,p.data.toList=[c]->fK q 0=c.toNat:=λc a=>by simp[fK,e,a]
 have i:XH q=k0->∃c:UInt8,p.data.toList=[c]/\(49<=c.toNat/\c.toNat<=54)/\(GC q).data.toList=t.data.toList:=λb=>by
  have⟨c,y,n,o,a,r⟩:=zct b;match s:p.data.toList,e with
  | [],e=>grind
  | [d],e =>grind
  | d::d2::l,e =>grind
 refine⟨λb=>?_,⟨λb=>?_,λ⟨c,a,D⟩=>?_⟩,g⟩;have⟨c,_,_,w⟩:=i b;exact(zuA w).symm;grind;have E:=g c a;have B:q.size=lh _:=rfl;refine ay ⟨?_,om,om,?_⟩;grind;unfold fK;grind
theorem zgv:∀c,c<64->∀d,d<64->d&&&c=c->d≠c->(aQ d=aQ c+1/\((lc 6).any λv=>!c.testBit v&&(d==c|||2^v))=k0)\/((lc 6).any λv=>!c.testBit v&&(d&&&(c|||2^v)==c|||2^v)&&(c|||2^v) != d)=true:=by decide +kernel
theorem YM(i:CN o)(g:x<64)(h:kx o x=k0):∃v,v<6/\x.testBit v=false/\xa o x=x|||2^v/\aQ (xa o x)=aQ x+1:=by
 obtain⟨j,k,l,m⟩:=zhU h;rcases zgv x g _ j l m with⟨n,d⟩|d
 obtain⟨v,b,a⟩:=List.any_eq_true.1 d;simp only[aj,bC,aK]at a;exact⟨v,List.mem_range.1 b,a.1,a.2,n⟩;obtain⟨v,b,a⟩:=List.any_eq_true.1 d;simp only[aj,bC,aK,gS]at a;have b:=List.mem_range.1 b;have:x|||2^v∈wZ o x:=zbZ.2 ⟨Wz g b,i _ _ k a.1.2,tI,λe=>by
  have:=ztG x v;rw[e,a.1.1]at this;cases this⟩
 rw[zeo h,fZ]at this;exact absurd this a.2
section
variable {p:Nat}[NeZero p]{f:V0}{c:Nat}
theorem zfc(h:kx f c=k0)(a:x<64)(b:f x=k0)(d:x&&&c=c)(e:x≠c):x=xa f c:=by have:x∈wZ f c:=zbZ.2 ⟨a,b,d,e⟩;rwa [zeo h,fZ]at this
theorem znt(h:kx f c=k0)(e:x<64):f x=k0↔pB f c x=k0\/(f x=k0/\x=c)\/x=xa f c:=by have g:=zhU h;unfold pB;rw[aj,bC,bc];constructor;intro a;by_cases b:x&&&c=c;by_cases d:x=c;exact .inr (.inl ⟨a,d⟩);exact .inr (.inr (zfc h e a b d));exact .inl ⟨a,b⟩;rintro(a|a|a);exact a.1;exact a.1;rw[a];exact g.2.1
theorem zuI(h:kx f c=k0):pB f c c=false/\pB f c (xa f c)=false:=by have a:=zhU h;unfold pB;rw[dp,a.2.2.1];simp
theorem Ti(n:CN f)(l:c<64)(k:f c=k0)(h:kx f c=k0)(j a:Nat):Ou f j a↔Ou (pB f c) j a\/(j=aQ c/\a=c)\/(j=aQ c+1/\a=xa f c):=by
 obtain⟨v,_,_,_,g⟩:=YM n l h;have m:=zhU h;unfold Ou;constructor;rintro⟨d,b,i⟩;rcases(znt h d).1 b with e|⟨_,e⟩|e
 exact .inl ⟨d,e,i⟩;exact .inr (.inl ⟨by rw[<- i,e],e⟩);exact .inr (.inr ⟨by rw[<- i,e,g],e⟩);rintro(⟨d,b,i⟩|⟨d,b⟩|⟨d,b⟩);exact⟨d,(znt h d).2 (.inl b),i⟩;exact⟨b ▸ l,b ▸ k,by rw[d,b]⟩;exact⟨b ▸ m.1,b ▸ m.2.1,by rw[d,b,g]⟩
def one(b:Bool):Nat:=if b then 1 else 0
theorem zcE(k:CN f)(l:c<64)(g:f c=k0)(h:kx f c=k0)(j:Nat):lh (cd f j 64)=lh (cd (pB f c) j 64)+one (j==aQ c)+one (j==aQ c+1):=by
 have d:=zuI h;have i:xa f c≠c:=(zhU h).2.2.2;have m:kN (λa=>j=aQ c/\a=c) (one (j==aQ c)):=by unfold one;by_cases e:j=aQ c;rw[ae (beq_iff_eq.2 e)];exact(kN.one c).congr λx=>⟨λh=>⟨e,h⟩,λh=>h.2⟩;rw[ac (by rw[aK];exact e)];exact kN.none λx h=>e h.1
 have n:kN (λa=>j=aQ c+1/\a=xa f c) (one (j==aQ c+1)):=by unfold one;by_cases e:j=aQ c+1;rw[ae (beq_iff_eq.2 e)];exact(kN.one (xa f c)).congr λx=>⟨λh=>⟨e,h⟩,λh=>h.2⟩;rw[ac (by rw[aK];exact e)];exact kN.none λx h=>e h.1
 have o:=((zr0 (pB f c) j).or m λx b e=>by rw[e.2]at b;rw[b.2.1]at d;exact Bool.noConfusion d.1).or n λx b e=>by rcases b with b|b;rw[e.2]at b;rw[b.2.1]at d;exact Bool.noConfusion d.2;exact i (e.2.symm.trans b.2)
 exact zrV (o.congr λa=>((Ti k l g h j a).trans or_assoc.symm).symm)
theorem znD(F:lM (p:Int)=k0)(r:CN f)(G:c<64)(s:f c=k0)(h:kx f c=k0)(j:Nat):nul p f j=nul p (pB f c) j+one (j==aQ c):=by
 have R:CN (pB f c):=zsP r c;have M:=(Uo (p:=p) F r j).2;have N:=(Uo (p:=p) F R j).2;obtain⟨v,O,z,b,H⟩:=YM r G h;have A:=zhU h;have q:∀a,Ou (pB f c) j a->Ou f j a:=λa g=>(Ti r G s h j a).2 (.inl g);by_cases e:j=aQ c;unfold one;rw[ae (beq_iff_eq.2 e)];let w:Nat->Fin p:=λa=>if a=xa f c then sg p c v else 0
 have P:On (Ou f (j+1)) w:=λa g=>ac λm=>g (by rw[m];exact⟨A.1,A.2.1,by rw[H,e]⟩);have B:On (Ou f j) (bd w):=zsF r P;have C:bd (bd w)=v0:=zvF P.lt;have D:bd w c=1:=by unfold bd;rw[Ov (v:=v) 6 O λi V u=>?_];rw[ac (by rw[z];decide)];show sg p c v*(if c|||2^v=xa f c then sg p c v else 0)=1;rw[ae b.symm,zhn];split;rfl;rename_i k;show sg p c i*(if c|||2^i=xa f c then sg p c v else 0)=0;rw[ac λm=>u (ztA (ss k) (m.trans b))];grind
 have E:kN (λ_:Fin p=>True) p:=⟨List.finRange p,Ma p,λx=>sp,sp⟩;have I:=kN.fib (S:=λx:Nat->Fin p=>On (Ou f j) x/\bd x=v0) (λx=>x c) E (λ_ _=>trivial) λy _=>by
  refine(N.image (U:=λx=>(On (Ou f j) x/\bd x=v0)/\x c=y) (λx=>vp x (vsm y (bd w))) (λx J _ _ K=>funext λa=>?_) λx=>⟨λ⟨⟨n,k⟩,L⟩=>?_,λ⟨J,⟨n,k⟩,K⟩=>?_⟩);have:=congrFun K a;unfold vp at this;generalize vsm y (bd w) a=t at this;have:x a+t+-t=J a+t+-t:=by rw[this]
  grind;refine⟨CO x (vsm y (bd w)),⟨λa g=>?_,?_⟩,funext λa=>by unfold vp CO;grind⟩;unfold CO vsm;by_cases l:a=c;rw[l,L,D];grind;have:¬Ou f j a:=λd=>by rcases(Ti r G s h j a).1 d with o|o|o;exact g o;exact l o.2;omega
  rw[n a this,B a this];grind;rw[ztE,zvE,k,C];funext a;unfold CO vsm v0;grind;subst K;refine⟨⟨λa g=>?_,?_⟩,?_⟩;unfold vp vsm;rw[n a λm=>g (q a m),B a g];grind;rw[zdQ,zvE,k,C];funext a;unfold vp vsm v0;grind;show J c+y*bd w c=y;rw[n c (λm=>Bool.noConfusion ((zuI h).1.symm.trans m.2.1)),D];grind
 have:=M.uniq I;rw[Gs,<- fm]at this;exact zqo F this;unfold one;rw[ac (by rw[aK];exact e),lD];refine zqo F (M.uniq (N.congr λx=>and_congr_left λk=>⟨λn a g=>n a λm=>g (q a m),λn a g=>?_⟩));by_cases l:Ou f j a;rcases(Ti r G s h j a).1 l with o|o|⟨o,rfl⟩;exact absurd o g;exact absurd o.1 e;have Q:bd x c=sg p c v*x (xa f c):=by
  unfold bd;rw[Ov (v:=v) 6 O λi V u=>?_];rw[ac (by rw[z];decide),b];split;rfl;rename_i k;have k:c.testBit i=false:=ss k;have:¬Ou f j (c|||2^i):=λd=>u (ztA k ((zfc h d.1 d.2.1 tI λe=>by
   have:=ztG c i;rw[e,k]at this;cases this).trans b))
  rw[n _ this];grind
 rw[k]at Q;have W:=zhn (p:=p) c v;have:x (xa f c)=sg p c v*(sg p c v*x (xa f c)):=by grind
 rw[this,<- Q];unfold v0;grind;exact n a l
def Np(f:V0)(p j:Nat):Int:=((cd f j 64).length:Int)-kM f p j-kM f p (j+1)
theorem zvT(d:lM (p:Int)=k0)(b:CN f)(g:c<64)(a:f c=k0)(h:kx f c=k0)(j:Nat):Np f p j=Np (pB f c) p j:=by
 have i:CN (pB f c):=zsP b c;have m:=zcE b g a h j;have n:=zcE b g a h (j+1);have k:=znD d b g a h j;have l:=znD d b g a h (j+1);have o:=(Uo (p:=p) d b j).1;have q:=(Uo (p:=p) d b (j+1)).1;have r:=(Uo (p:=p) d i j).1;have s:=(Uo (p:=p) d i (j+1)).1;have t:one (j+1==aQ c+1)=one (j==aQ c):=by unfold one;by_cases e:j=aQ c;rw[ae (beq_iff_eq.2 om),ae (beq_iff_eq.2 e)];rw[ac (by rw[aK];omega),ac (by rw[aK];exact e)]
 unfold nul at k l;unfold Np;omega
theorem Zb(a:lM (p:Int)=k0):∀(n:Nat)(f:V0)(l:O0),CN f->∀j,Np (QB n f l).1 p j=Np f p j
 | 0,f,l,_,j=>rfl
 | n+1,f,l,b,j=>by
   rw[QB];cases c:lJ f with
   | true=>rfl
   | false =>rw[ac dc];obtain⟨d,e,g,_⟩:=vP c;rw[Zb a n _ _ (zsP b _) j,<- zvT a b d e g j]
def En(f:V0):Nat->Int|0=>0|j+1=>En f j+(if j%2=0 then((cd f j 64).length:Int)else -((cd f j 64).length:Int))
theorem znE(e:CN f)(g:c<64)(a:f c=k0)(h:kx f c=k0):∀j,En f j=En (pB f c) j+(if j=aQ c+1 then(if aQ c%2=0 then 1 else -1)else 0)
 | 0=>by rw[En,En,ac om];rfl
 | j+1=>by have i:=zcE e g a h j;have k:=znE e g a h j;rw[En,En,k,i];unfold one;by_cases d:j=aQ c;rw[ae (beq_iff_eq.2 d),ac (show ¬(j==aQ c+1)=k0 by rw[aK];omega),ac (show ¬j=aQ c+1 by omega),ae (show j+1=aQ c+1 by omega),<- d];split<;>omega;rw[ac (show ¬(j==aQ c)=k0 by rw[aK];exact d)];by_cases b:j=aQ c+1;rw[ae (beq_iff_eq.2 b),ae b,ac (show ¬j+1=aQ c+1 by omega)];split<;>split<;>omega;rw[ac (show ¬(j==aQ c+1)=k0 by rw[aK];exact b),ac b,ac (show ¬j+1=aQ c+1 by omega)];split<;>omega
end
theorem zmX:∀(n:Nat)(f:V0)(l:O0),CN f->CN (QB n f l).1
 | 0,f,l,a=>a
 | n+1,f,l,a=>by rw[QB];split;exact a;exact zmX n _ _ (zsP a _)
theorem ze8:∀(n:Nat)(f:V0)(l:O0),CN f->En (QB n f l).1 8=En f 8
 | 0,f,l,_=>rfl
 | n+1,f,l,a=>by
   rw[QB];cases c:lJ f with
   | true=>rfl
   | false =>rw[ac dc];obtain⟨b,d,e,_⟩:=vP c;have g:aQ (pe (eN f))<=6:=jA b;rw[ze8 n _ _ (zsP a _),znE a b d e 8,ac om,Int.add_zero]
theorem Sp(h:cv o<=x):cd o x 64=[]:=by refine List.filter_eq_nil_iff.2 λs a=>?_;intro e;simp only[aj,aK]at e;have:=rz (f:=o) 64 s (List.mem_range.1 a) e.1;unfold cv at h;omega
def Ek(g:U0):Nat->Int|0=>0|k+1=>Ek g k+g k
theorem ze9:Ek (λk=>lg (ed h N) k 0) (cv h)=Ek (Np h N) 8:=by
 have b:∀k,k<=cv h->Ek (λk=>lg (ed h N) k 0) k=Ek (Np h N) k:=λk=>by
  induction k with
  | zero=>intro _;rfl
  | succ k a=>intro p;rw[Ek,Ek,a om,pX h N om];rfl
 have c:∀j,Ek (Np h N) (cv h+j)=Ek (Np h N) (cv h):=λj=>by
  induction j with
  | zero=>rfl
  | succ j a =>rw[<- jT,Ek,a];unfold Np kM;rw[Sp (kF _ _),ae (.inr (kF _ _)),ae (.inr om)];simp
 have d:=eD h;rw[b _ (ab _),<- c (8-cv h),show cv h+(8-cv h)=8 by omega]
theorem zfb:En h (cv h)=En h 8:=by
 have a:∀j,En h (cv h+j)=En h (cv h):=λj=>by
  induction j with
  | zero=>rfl
  | succ j b =>rw[<- jT,En,b,Sp (kF _ _)];simp
 have c:=eD h;rw[<- a (8-cv h),show cv h+(8-cv h)=8 by omega]
theorem zgt{g:V0}(h:∀s,s<64->o s=g s)(k:Nat):En o k=En g k:=by
 induction k with
 | zero=>rfl
 | succ k a=>rw[En,En,a,Oo (ab _) h]
theorem zs4{p:Nat}[NeZero p](a:lM (p:Int)=k0){g:V0}(b:CN o)(h:∀s,s<64->g s=(QB 64 o []).1 s):Ek (λk=>lg (ed g p) k 0) (cv g)=Ek (λk=>lg (ed o p) k 0) (cv o):=by
 rw[zdO p h,zdN h,ze9,ze9];have:∀k,Ek (Np (QB 64 o []).1 p) k=Ek (Np o p) k:=λk=>by
  induction k with
  | zero=>rfl
  | succ k c=>rw[Ek,Ek,c,Zb a 64 o [] b k]
 exact this 8
theorem ztn{g:V0}(a:CN o)(h:∀s,s<64->g s=(QB 64 o []).1 s):En g (cv g)=En o (cv o):=by rw[zfb,zfb,zgt h,ze8 64 o [] a]
end Go.Abs
