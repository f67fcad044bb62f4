/- DERIVED by an AI agent. -/
import Derived.Test.YtigjebcjfbhnjaaGreatDoorQ3
import Derived.Test.YtigjebcjfbhnjaaGreatDoorP2
set_option linter.all false
namespace Go.Proofs.YtigjebcjfbhnjaaGreatDoor
open Bool renaming true→k0,false→l0
open Option renaming some→n0,none→o0
open Go renaming IntKind→D0,FuncId→F0
open List renaming range→lc,replicate→ld,getD→lg,length→lh
open Nat renaming reduceEqDiff→lj,reduceMod→lk,reduceAdd→ll,reduceLT→lm,reduceLeDiff→lp,reduceSub→lr,reduceMul→lu,reduceBEq→lw
open Int renaming reduceToNat→lz,reduceLE→lA,reduceLT→lB,reduceNeg→lC
open Go.Proofs.Tryz
open Go.Abs
variable (a:F0)(l:N0)(n:Nat)(b:V0)(x:Int)(c:O0)(d:N0)(k:Nat)(y:Int){h:N0}{u:List Bool}{s:Nat}{e:Int}{g:F0}{C:N0->Int->Bool}{t:TypeId}{i:M0}{j:Nat->Option Nat}{K:St->Prop}{o:S0}{J:RV->Prop}{r:O0}{w:St}{z:PV}
def jW(h:N0)(s k:Nat):O0:=((lc k).filter λj=>lg h j 0 != 0).map (s+·)
theorem OU:jW l n (k+1)=if(lg l k 0 != 0)=k0 then jW l n k++[n+k]else jW l n k:=by
 unfold jW;rw[bW];grind
def gL(f:V0)(p:Int):Nat->O0
 | 0=>[]
 | i+1=>gL f p i++jW (ed (dL f (lg (co f) i 0)) p) (aQ (lg (co f) i 0)) (ed (dL f (lg (co f) i 0)) p).length
def wX:O0->Int|[]=>-1|a::l=>((l.foldl min a:Nat):Int)
theorem zjH:wX (c++[k])=if wX c<0\/(k:Int)<wX c then(k:Int)else wX c:=by
 cases c with
 | nil=>rfl
 | cons a c =>show(((c++[k]).foldl min a))=ite (((c.foldl min a:Nat):Int)<0\/k<((c.foldl min a:Nat):Int)) _ ((c.foldl min a:Nat):Int);grind
theorem zq5:∀l:O0,(∀x∈l,x<=100)->-1<=wX l/\wX l<=100
 | [],_=>⟨oE _,dc⟩
 | a::l,h=>by
   have:∀(l:O0)(a:Nat),a<=100->l.foldl min a<=100:=λl=>by
    induction l with
    | nil=>simp
    | cons x l c=>grind
   have:=this l a<|h a sp;show -1<=((l.foldl min a:Nat):Int)/\((l.foldl min a:Nat):Int)<=100;omega
theorem Ib{k x:Nat}:x∈jW h s k↔∃j,j<k/\h.getD j 0≠0/\x=s+j:=by unfold jW;constructor;grind;simp_all
theorem Ic{f:V0}{p:Int}{x:Nat}:∀{i:Nat},x∈gL f p i↔∃t,t<i/\x∈jW (ed (dL f (lg (co f) t 0)) p) (aQ (lg (co f) t 0)) (ed (dL f (lg (co f) t 0)) p).length
 | 0=>by simp[gL]
 | i+1=>by rw[gL,gG,Ic];grind
theorem zn1{k:Nat}(b:s<64)(d:k<=7):∀x∈jW h (aQ s) k,x<=100:=λx c=>by obtain⟨j,a,_,rfl⟩:=Ib.1 c;have:=jA b;omega
theorem zhP{f:V0}(c:s<=lh (co f)):∀x∈gL f e s,x<=100:=λx a=>have⟨t,d,h⟩:=Ic.1 a;have b:=(cR.1<|aP 0<|om).1;zn1 b (by rw[df];exact eD _) x h
def Cc(f:V0)(p:Int):O0:=gL f p (co f).length
noncomputable def nE(n:Int)(a:N0)(p:Int):Int:=if aS n a=k0/\lM p=k0 then wX (Cc (ao a) p)else -1
theorem zn2{p:Int}(a:aS (s:Int) h=k0){m:Nat}(b:m<64)(c:lM p=k0):Bl (ci s (bl (dI (hU (qU h m)) k0))) p=ed (dL (ao h) m) p:=by rw[Bl,ae c];exact cV (λf=>ed f p)<|funext λt=>zhS a b t
theorem sK:AC prog 114 [.ag [al x,aE d],al y] (.im (al (nE x d y))):=by
 refine cA [.tmp 4] func114 λhl=>?_;refine aR<|aa (io x d) ?_;have a1:=ordN_len<|ci x d;have I:¬aS x d=k0->co (ci x d)=[]:=λh=>by have h:aS x d=false:=ss h;refine List.eq_nil_iff_forall_not_mem.2 λs g=>?_;have:=(cR.1 g).2;unfold ci at this;rw[h]at this;cases this
 have a:aS x d=k0->ci x d=ao d:=λh=>by funext s;unfold ci;rw[h,au]
 have P:=λk (D:k<lh (co<|ci x d))=>cR.1<|aP 0 D;have J:(lM y=k0/\nE x d y=wX (gL (ao d) y (co<|ci x d).length))\/nE x d y=-1:=by by_cases B:aS x d=k0/\lM y=k0;refine .inl ⟨B.2,?_⟩;rw[nE,ae B,a B.1];rfl;exact .inr<|ac B
 have F:lM y=l0->nE x d y=-1:=λh=>ac λB=>by rw[B.2]at h;cases h
 have Q:¬aS x d=k0->nE x d y=-1:=λh=>ac λB=>h B.1;have R:∀k,k<lh (co<|ci x d)->aS x d=true:=λk D=>aC λh=>by rw[I h]at D;simp at D
 have S:aS x d=k0->∀i,gL (ao d) y (i+1)=gL (ao d) y i++jW (ed (dL (ao d)<|lg (co<|ci x d) i 0) y) (aQ<|lg (co<|ci x d) i 0) (ed (dL (ao d)<|lg (co<|ci x d) i 0) y).length:=λh i=>by
  have:co (ao d)=co (ci x d):=by rw[a h]
  rw[<- this];rfl
 have U:aS x d=k0->∀i,i<=lh (co<|ci x d)->∀n∈gL (ao d) y i,n<=100:=λh i hi=>by
  have:co (ao d)=co (ci x d):=by rw[a h]
  exact zhP<|by rw[this];exact hi
 generalize hL:co (ci x d)=L at *;have a2:=ap L;have V:al (-1)=al (wX<|gL (ao d) y 0):=rfl;refine cZ @ap ?_;refine az (λ(i:Nat)s=>(s.sl 1=al y/\s.sl 2=.ref 2 1 0/\s.rw 2=⟨1,.box 31 [al x,aE d]⟩/\s.sl 5=al (wX<|gL (ao d) y i)/\s.sl 6=.own 12 1/\s.rw 12=⟨1,.sli 3 1 l0<|iL<|bl L⟩/\s.sl 7=al i)/\(i<=lh L/\(i=0\/lM y=k0))) (λi=>lh L-i) (0) ⟨(jX V),⟨aB _,.inl rfl⟩⟩ ?_;intro i sa ⟨G,W⟩;obtain⟨hi,K⟩:=W;refine ff G @ap ?_;refine⟨λp=>aa (jY y) ?_,λp=>?_⟩;refine ff G @ap ?_;have p:i<lh L:=om;have z:=R i p;obtain⟨h1,h6,_⟩:=cY.1 z;obtain⟨m,rfl⟩:∃m:Nat,x=m:=⟨x.toNat,om⟩;refine⟨λE=>?_,λE=>?_⟩;have C:=(P i p).1;have M:=bX p;have N:=zn2 (p:=y) z C E;have X:=S z i;have a3:=U z i om;have a4:=eD<|dL (ao d)<|lg L i 0;have a5:=df (dL (ao d)<|lg L i 0) y;generalize a6:lg L i 0=j at *;have a7:=jA C;refine iD G @ap M ?_;refine⟨kr,p,p,aa (lQ _ d j C (dM z)<|by have:=fH z;omega) ?_⟩;refine iD G @ap M<|aa (nS _ _ y) ?_;rw[N];generalize ed (dL (ao d) j) y=g at *;refine iD G @ap M ?_;have Y:gL (ao d) y i=gL (ao d) y i++jW g (aQ j) 0:=(bh _).symm;refine⟨kr,?_⟩;refine az (λ(k:Nat)s=>(s.sl 1=al y/\s.sl 2=.ref 2 1 0/\s.rw 2=⟨1,.box 31 [al (m:Nat),aE d]⟩/\s.sl 5=al (wX<|gL (ao d) y i++jW g (aQ j) k)/\s.sl 6=.own 12 1/\s.rw 12=⟨1,.sli 3 1 l0<|iL<|bl L⟩/\s.sl 7=al i/\s.sl 8=.own 30 ((sa.rw 30).ver+1)/\s.rw 30=⟨(sa.rw 30).ver+1,.sli 3 1 l0<|iL g⟩/\s.sl 9=al k)/\(k<=lh g)) (λk=>lh g-k) (0) ⟨(gE G Y.symm),aB _⟩ ?_;intro k sb ⟨⟨l,o,q,e,r,b,t,u,c,w⟩,a8⟩;simp only[↓gp,gq,simprocAttr,gT,l,o,q,e,r,b,t,u,c,w,ap,M];refine⟨λD=>⟨p,p,aa (ey j om) ?_⟩,λD=>?_⟩;have hw:D0.i64.wrap ((aQ j:Int)+(k:Int))=((aQ j+k:Nat):Int):=by rw[aF om om];omega
 have Z:=OU g (aQ j) k;have f:wX (gL (ao d) y i++jW g (aQ j) (k+1))=if(lg g k 0 != 0)=k0 then(if wX (gL (ao d) y i++jW g (aQ j) k)<0\/((aQ j+k:Nat):Int)<wX (gL (ao d) y i++jW g (aQ j) k)then((aQ j+k:Nat):Int)else wX (gL (ao d) y i++jW g (aQ j) k))else wX (gL (ao d) y i++jW g (aQ j) k):=by rw[Z];split;rw[<- cP,zjH];rfl
 simp only[↓gp,gq,simprocAttr,gT,l,o,q,e,r,b,t,u,c,w,ap,M,hw];generalize wX (gL (ao d) y i++jW g (aQ j) k)=A at *;refine⟨D,D,λO=>⟨λha=>⟨λhb=>?_,λhb=>?_⟩,λha=>?_⟩,λO=>?_⟩;rw[ae O,ae<|.inr hb]at f;exact ah (k+1) ⟨(by and_intros<;>(first|(simp only[gr,simprocAttr,l,o,q,e,r,b,t,u,c,w,f,ak (show k<8 by omega) om];first|done|rfl|(simp;done))|assumption|rfl)),om⟩;rw[ae O,ac<|λh=>h.elim ha hb]at f;exact ah (k+1) ⟨(by and_intros<;>(first|(simp only[gr,simprocAttr,l,o,q,e,r,b,t,u,c,w,f,ak (show k<8 by omega) om];first|done|rfl|(simp;done))|assumption|rfl)),om⟩;rw[ae O,ae<|.inl ha]at f;exact ah (k+1) ⟨(by and_intros<;>(first|(simp only[gr,simprocAttr,l,o,q,e,r,b,t,u,c,w,f,ak (show k<8 by omega) om];first|done|rfl|(simp;done))|assumption|rfl)),om⟩;rw[ac<|by rw[O];decide]at f;exact ah (k+1) ⟨(by and_intros<;>(first|(simp only[gr,simprocAttr,l,o,q,e,r,b,t,u,c,w,f,ak (show k<8 by omega) om];first|done|rfl|(simp;done))|assumption|rfl)),om⟩;have a0:k=lh g:=om;subst a0;rw[<- X]at e;exact ah (i+1) ⟨(by and_intros<;>(first|(simp only[gr,simprocAttr,G,l,o,q,e,r,b,t,u,c,w,ak p om];first|done|rfl|(simp;done))|assumption|rfl)),⟨om,.inr E⟩⟩;rw[F E];rcases K with rfl|h
 rfl;rw[h]at E;cases E;have H:i=lh L:=om;rcases J with⟨_,h⟩|h
 rw[h,H];rw[h];by_cases B:aS x d=k0;rcases K with rfl|E;rfl;have hd:nE x d y=wX (Cc (ao d) y):=ae ⟨B,E⟩;rw[hd]at h;have:Cc (ao d) y=gL (ao d) y i:=by
  unfold Cc;have:co (ao d)=L:=by rw[<- hL,a B]
  rw[this,H]
 rw[<- this,h];have:L=[]:=I B;rw[H,this];rfl
def rE(b:Int)(l:O0):Int:=l.foldl (λ(b:Int)(x:Nat)=>min b (x:Int)) b
theorem zjF:rE x (c++[k])=min (rE x c) (k:Int):=by simp[rE]
theorem zq2{b:Int}(a:-1<=b/\b<=100):∀l:O0,-1<=rE b l/\rE b l<=100:=λl=>by
 induction l generalizing b with
 | nil=>exact a
 | cons x l c=>exact c (b:=min b x) ⟨om,om⟩
theorem zq3{b:Int}:∀l:O0,rE b l<=b/\∀x∈l,rE b l<=(x:Int):=λl=>by
 induction l generalizing b with
 | nil=>exact⟨oE _,λx a=>by grind⟩
 | cons y l c =>
   have e:rE b (y::l)=rE _ l:=rfl;grind
theorem zn0{b:Int}:∀l:O0,rE b l=b\/∃x∈l,rE b l=(x:Int):=λl=>by
 induction l generalizing b with
 | nil=>exact .inl rfl
 | cons y l a =>
   have e:rE b (y::l)=rE _ l:=rfl;grind
def WY(f:V0)(p:Int):Int:=rE ((cv f:Int)-1) (Cc f p)
theorem zB(Q:lM x=k0):AC prog 171 [dv (bA b 64:Nat),al x] (.im (al (WY b x))):=by
 refine cA [.tmp 4] func171 λhl=>?_;refine aR<|aa (pa b) ?_;refine aR ?_;have R:=dj b 64;have z:co (bA b 64).testBit=co b:=mo λs c=>ek _ c;have A:=lP (bA b 64) om;rw[z]at A;refine aa A ?_;have S:=ordN_len b;have E:=λk (B:k<lh (co b))=>cR.1<|aP 0 B;have C:WY b x=rE ((cv b:Int)-1) (gL b x (co b).length):=rfl;have F:∀i,gL b x (i+1)=gL b x i++jW (ed (dL b<|lg (co b) i 0) x) (aQ<|lg (co b) i 0) (ed (dL b<|lg (co b) i 0) x).length:=λi=>rfl;generalize hL:co b=L at *;have U:=ap L;have V:=eD b;have G:al ((cv b:Int)-1)=al (rE ((cv b:Int)-1)<|gL b x 0):=rfl;refine cZ @ap ?_;refine az (λ(i:Nat)s=>(s.sl 0=dv (bA b 64:Nat)/\s.sl 1=al x/\s.sl 5=al (rE ((cv b:Int)-1)<|gL b x i)/\s.sl 13=.own 13 1/\s.rw 13=⟨1,.sli 3 1 l0<|iL<|bl L⟩/\s.sl 14=al (lh L)/\s.sl 15=al i)/\(i<=lh L)) (λi=>lh L-i) (0) ⟨(jX G),aB _⟩ ?_;intro i P ⟨y,W⟩;refine ff y @ap ?_;refine⟨λo=>?_,λo=>?_⟩;have o:i<lh L:=om;have r:=(E i o).1;have D:=bX o;have H:=F i;have X:=eD<|dL b<|lg L i 0;have Y:=df (dL b<|lg L i 0) x;generalize Z:lg L i 0=a at *;have a0:=jA r;have I:=jb r;refine iD y @ap D ?_;refine⟨o,o,aa (jR _ a r) ?_⟩;refine iD y @ap D<|aa (sv _ x Q) ?_;generalize ed (dL b a) x=c at *;refine iD y @ap D ?_;have J:gL b x i=gL b x i++jW c (aQ a) 0:=(bh _).symm;refine az (λ(k:Nat)s=>(s.sl 0=dv (bA b 64:Nat)/\s.sl 1=al x/\s.sl 5=al (rE ((cv b:Int)-1)<|gL b x i++jW c (aQ a) k)/\s.sl 7=al a/\s.sl 13=.own 13 1/\s.rw 13=⟨1,.sli 3 1 l0<|iL<|bl L⟩/\s.sl 14=al (lh L)/\s.sl 15=al i/\s.sl 23=.own 23 ((P.rw 23).ver+1)/\s.rw 23=⟨(P.rw 23).ver+1,.sli 3 1 l0<|iL c⟩/\s.sl 24=al (lh c)/\s.sl 25=al k)/\(k<=lh c)) (λk=>lh c-k) (0) ⟨(gE y J.symm),aB _⟩ ?_;intro k sb ⟨⟨t,u,q,w,d,e,g,h,j,l,m,n⟩,a1⟩;simp only[↓gp,gq,simprocAttr,gT,t,u,q,w,d,e,g,h,j,l,m,n,ap,D];have K:=OU c (aQ a) k;have a2:=zq2 (b:=(cv b:Int)-1) om<|gL b x i++jW c (aQ a) k;have p:rE ((cv b:Int)-1) (gL b x i++jW c (aQ a) (k+1))=if(lg c k 0 != 0)=k0 then min (rE ((cv b:Int)-1)<|gL b x i++jW c (aQ a) k) ((aQ a+k:Nat):Int)else rE ((cv b:Int)-1) (gL b x i++jW c (aQ a) k):=by rw[K];split;rw[<- cP,zjF];rfl
 refine⟨λB=>⟨B,B,λM=>aa (dy _) ?_,λM=>?_⟩,λB=>?_⟩;have hw:D0.i64.wrap ((aQ a:Int)+(k:Int))=((aQ a+k:Nat):Int):=by rw[aF om om];omega
 rw[ae M]at p;simp only[↓gp,gq,simprocAttr,gT,t,u,q,w,d,e,g,h,j,l,m,n,ap,D,I,hw];have em:(if((aQ a+k:Nat):Int)<rE ((cv b:Int)-1) (gL b x i++jW c (aQ a) k)then((aQ a+k:Nat):Int)else rE ((cv b:Int)-1) (gL b x i++jW c (aQ a) k))=min (rE ((cv b:Int)-1)<|gL b x i++jW c (aQ a) k) ((aQ a+k:Nat):Int):=by split<;>omega
 rw[<- em]at p;exact ah (k+1) ⟨(by and_intros<;>(first|(simp only[gr,simprocAttr,t,u,q,w,d,e,g,h,j,l,m,n,p,ak (show k<8 by omega) om];first|done|rfl|(simp;done))|assumption|rfl)),om⟩;rw[ac<|by rw[M];decide]at p;exact ah (k+1) ⟨(by and_intros<;>(first|(simp only[gr,simprocAttr,t,u,q,w,d,e,g,h,j,l,m,n,p,ak (show k<8 by omega) om];first|done|rfl|(simp;done))|assumption|rfl)),om⟩;have N:k=lh c:=om;subst N;rw[<- H]at q;exact ah (i+1) ⟨(by and_intros<;>(first|(simp only[gr,simprocAttr,y,t,u,q,w,d,e,g,h,j,l,m,n,ak o om];first|done|rfl|(simp;done))|assumption|rfl)),om⟩;have O:i=lh L:=om;rw[C,O]
theorem zjG:(∀x∈n::c,c.foldl min n<=x)/\c.foldl min n∈n::c:=by
 induction c generalizing n with
 | nil=>exact⟨λx b=>by rw[List.mem_singleton.1 b];exact ab _,sp⟩
 | cons y c d =>
   have⟨l,f⟩:=d (min n y);have e:(y::c).foldl min n=c.foldl min (min n y):=rfl;rw[e];refine⟨λx b=>?_,?_⟩;have g:=l (min n y) sp;rcases List.mem_cons.1 b with rfl|b
   omega;rcases List.mem_cons.1 b with rfl|b;omega;exact l x (by simp[b]);grind
section
variable {f:V0}{m q:Nat}[NeZero q]
theorem zbW(o:lM (q:Int)=k0)(r:CN f)(s:m<=6)(u:∀t,t<64->f t=k0->t<2^m){x:Nat}:x∈Cc f q↔∃F k,F<2^m/\f F=k0/\¬Ac q (dL f F) k/\aQ F+k=x:=by
 have g:=dx s;have l:∀F k,lg (ed _ q) k 0≠0↔¬Ac q _ k:=λF k=>by rw[zq9,Ne,(Xa o (OW r F) k).2]
 unfold Cc;rw[Ic];constructor;rintro⟨t,i,h⟩;obtain⟨j,a,b,rfl⟩:=Ib.1 h;obtain⟨w,n⟩:=cR.1 (aP 0 i);grind;rintro⟨F,k,a,b,c,rfl⟩;obtain⟨t,i,e⟩:=eX 0 (cR.2 ⟨cp a g,b⟩);refine⟨t,i,?_⟩;rw[e];refine Ib.2 ⟨k,mX λd=>c<|ztz<|by grind,(l _ _).2 c,rfl⟩
theorem zq4(w:lM (q:Int)=k0)(r:CN f)(E:f 0=k0)(y:m<=6)(z:∀t,t<64->f t=k0->t<2^m):∃d:Nat,zsN q f m d/\wX (Cc f q)=d/\WY f q=d/\(d:Int)<=(cv f:Int)-1:=by
 have G:=dx y;have A:0<cv f:=by have:=rz 64 0 dc E;unfold cv;omega
 have⟨T,c,i,o⟩:=AH (f:=f) 64 A;have o:aQ T+1=cv f:=o;have p:∀s,s<64->f s=k0->aQ s<=aQ T:=λs n u=>by have:=rz 64 s n u;have K:cv f=oY f 64:=rfl;omega
 have h:aQ T∈Cc f q:=(zbW w r y z).2 ⟨T,0,z T c i,i,zjJ w r c i<|zq8 c p,rfl⟩;cases B:Cc f q with
 | nil=>rw[B]at h;simp at h
 | cons a l =>
   have⟨n,u⟩:=zjG a l;have j:=λx=>zbW (x:=x) w r y z;rw[B]at h j;refine⟨l.foldl min a,⟨?_,zbX r λF H C k L=>?_⟩,rfl,?_,?_⟩;exact(j _).1 u;refine aC λD=>?_;have:=n _<|(j _).2 ⟨F,k,H,C,D,rfl⟩;omega;unfold WY;rw[B];have e:(cv f:Int)-1=((aQ T:Nat):Int):=om;rw[e];have⟨M,I⟩:=zq3 (b:=((aQ T:Nat):Int))<|a::l;have N:=I _ u;rcases zn0 (b:=((aQ T:Nat):Int)) (a::l)with g|⟨x,J,g⟩
   have:=n _ h;omega;have:=n x J;omega;have:=n _ h;omega
end
theorem vN(a:n<=57)(e:k<=n):AC prog 257 [al n,al k] (.im (al (rg n k:Nat))):=by refine cA [.tmp 4] func257 λf=>?_;have c:decide ((k:Int)<0)=false:=aD om;refine cZ c ?_;refine⟨λh=>om,λ_=>?_⟩;refine az (λi s=>(s.sl 0=al n/\s.sl 1=al k/\s.sl 5=al (rg n i)/\s.sl 6=al i)/\(i<=k)) (λi=>k-i) 0 ⟨(jX @oV),om⟩ ?_;intro i g ⟨b,d⟩;refine cZ b ?_;refine⟨λh=>?_,λh=>?_⟩;rw[ak h om];refine⟨om,?_⟩;exact ah _ ⟨(DM b (ak h om) (zmr (i:=i) a om) (zms (i:=i) a om)<|zmt (i:=i) a),om⟩;grind
def gh(n k:Int):Int:=if 0<=n/\0<=k/\k<=n then(rg n.toNat k.toNat:Nat)else 0
theorem Cd(a:x<=57):AC prog 197 [al x,al y] (.im (al (gh x y))):=by
 refine cA [.tmp 4] func197 λg=>?_;refine aR<|aa (fe _ _ _) ?_;refine aR ?_;refine⟨λh=>aa (fe _ _ _) ?_,λh=>?_⟩;refine aR ?_;refine⟨λb=>?_,λb=>?_⟩;unfold gh;grind;have d:0<=x:=by grind
 have e:=by simp at b;omega
 obtain⟨x,rfl⟩:=ca d;obtain⟨y,rfl⟩:=ca e.1;have a:x<=57:=om;refine az (λi s=>(s.sl 0=al x/\s.sl 1=al y/\s.sl 5=al (rg x i)/\s.sl 6=al i)/\(i<=y)) (λi=>y-i) (0) ⟨(jX @oV),om⟩ ?_;intro i l ⟨c,f⟩;refine cZ c ?_;refine⟨λh=>?_,λh=>?_⟩;rw[ak h om];refine⟨om,?_⟩;exact ah (i+1) ⟨(DM c (ak h om) (zmr (i:=i) a om) (zms (i:=i) a om)<|zmt (i:=i) a),om⟩;have:i=y:=om;simp_all[gh,om];unfold gh;grind
theorem Ce(f:x<=57):AC prog 172 [al x,al y] (.im (al (gh x y))):=by
 refine cA [.tmp 4] func172 λg=>?_;refine aR ?_;refine⟨λa=>⟨λ_=>⟨λb=>⟨λc=>by rw[gh,ac om],λc=>?_⟩,λb=>by rw[gh,ac om]⟩,λh=>om⟩,λa=>by rw[gh,ac om]⟩;obtain⟨x,rfl⟩:=ca (show 0<=x by omega);obtain⟨y,rfl⟩:=ca (show 0<=y by omega);have d:D0.i64.wrap (x-y)=(x-y:Nat):=by rw[aF om om];omega
 have e:gh x y=(rg x y):=by simp_all[gh]
 rw[d,e];refine⟨λ_=>aa (vN x _ om om) ?_,λ_=>aa (vN x y om om) ?_⟩;refine aR ?_;rw[zp7 x y om];exact ef
noncomputable def OZ(a:N0)(q:Nat):Int:=((cd (ao a) q 64).length:Int)
theorem UT:0<=OZ l n/\OZ l n<=64:=by have:=fc (ao l) n<|ab 64;unfold OZ;omega
theorem wY(b:Bool):AC prog 215 [aU b] (.im (al (if b=k0 then 1 else 0))):=by refine cA [.tmp 2] func215 λa=>?_;refine aR ?_;simp
theorem zrc(h:lM e=k0):∃q:Nat,e=q/\q≠0:=by
 unfold lM at h;simp[cw]at h;rcases h with(rfl|rfl)|rfl
 exact⟨2,rfl,dc⟩;exact⟨3,rfl,dc⟩;exact⟨5,rfl,dc⟩
theorem FT(n:mr e h=k0):∃m:Nat,e=m/\1<=m/\m<=6/\CN (ao h)/\ao h 0=k0/\∀s,s<64->ao h s=k0->s<2^m:=by
 obtain⟨c,b⟩:=fR.1 n;obtain⟨r,u,d⟩:=cY.1 c;obtain⟨m,rfl⟩:∃m:Nat,e=m:=⟨e.toNat,om⟩;refine⟨m,rfl,om,om,λs t f g=>pZ f g,?_,λs f j=>?_⟩;cases h with
 | nil=>grind
 | cons x l=>exact eT.2 ⟨x,sp,sp⟩
 obtain⟨x,k,a⟩:=eT.1 j;obtain⟨i,o,rfl⟩:=eX 0 k;obtain⟨p,t,w,q,y,d⟩:=AK (d i o).1;have:m=p:=om;subst this;rw[q,ar]at a;have:=bI (n:=t) (m:=s);omega
def zq0(f:V0)(p:Int):Bool:=decide (bA f 64≠0)&&decide (WY f p=(cv f:Int)-1)
theorem Dl(a:lM x=k0):AC prog 252 [dv (bA b 64:Nat),al x] (.im (aU (zq0 b x))):=by
 refine cA [.tmp 4] func252 λp=>?_;refine aR ?_;unfold zq0;refine⟨λh=>aa (zB b x a) ?_,λh=>?_⟩;refine aR<|aa (pa b) ?_;refine aR ?_;grind;grind
theorem zA:AC prog 72 [.ag [al x,aE d],al y] (.im (al (if mr x d=k0/\lM y=k0 then WY (ao d) y else -1))):=by refine cA [.tmp 4] func72 λg=>?_;refine aR<|aa (aH x d) ?_;refine aR ?_;refine⟨λe=>⟨λc=>aa (gB y) ?_,λc=>?_⟩,λe=>?_⟩;have p:=ss e;refine aR ?_;refine⟨λb=>?_,λb=>?_⟩;grind;have b:=ss b;refine aa (cj x d<|dM p)<|aR<|aa (zB _ y b) ?_;rw[ae ⟨fR.2 ⟨p,by grind⟩,b⟩];exact ef;rw[ac<|λh=>by have:=(fR.1 h.1).2;grind];rw[ac<|λh=>by have:=(fR.1 h.1).1;grind]
noncomputable def Zr(n:Int)(a:N0)(p:Int):Bool:=aS n a&&(lM p&&zq0 (ao a) p)
theorem wV:AC prog 157 [.ag [al x,aE d],al y] (.im (aU (Zr x d y))):=by refine cA [.tmp 4] func157 λp=>?_;refine aR (aa (aH x d) ?_);refine aR ?_;unfold Zr;refine⟨λb=>aa (gB y) ?_,λb=>?_⟩;refine aR ?_;rw[b];refine⟨λc=>?_,λc=>?_⟩;refine aa (cj x d (dM b)) ?_;refine aR (aa (Dl _ y c) ?_);rw[c];exact ef;rw[c];rfl;rw[b];rfl
theorem zq1:-2<=gD x d/\gD x d<=100000000:=by unfold gD;split;rename_i h;have⟨b,c⟩:=fR.1 h;have:=dM b _ (aP 0 (show (lh d)-1<lh d by omega));have:=jA (s:=(lg d (lh d-1) 0).toNat) om;omega;omega
theorem znY(n:aS e h=k0):∀x∈h,aQ x.toNat<=aQ (lg h (lh h-1) 0).toNat:=λx l=>by
 obtain⟨_,_,m⟩:=cY.1 n;have b:=dM n;have d:∀j,j<lh h->∀i,i<=j->aQ (lg h i 0).toNat<=aQ (lg h j 0).toNat:=by
  intro j;induction j with
  | zero=>simp
  | succ j o =>
    intro g i f;have c:=(m (j+1) g).2.1 om;rw[dS]at c;have p:=b _ (aP 0 g);have q:=b _ (aP 0 (show j<lh h by omega));unfold rQ at c;rw[nA p,nA q]at c;grind
 obtain⟨i,f,rfl⟩:=eX 0 l;exact d (lh h-1) om i om
theorem Dn(n:mr e h=k0):gD e h+1=(cv (ao h):Int)-1:=by have⟨g,l⟩:=fR.1 n;have i:=dM g;have d:gD e h=(aQ _)-1:=ae n;have m:=aP 0 (show (lh h)-1<lh h by omega);have j:=i _ m;have r:=rz 64 _ om (eT.2 ⟨_,m,dp _⟩);have q:cv (ao h)=oY _ 64:=rfl;have⟨T,a,b,c⟩:=AH (f:=ao h) 64 om;have⟨x,o,k⟩:=eT.1 b;have u:=znY g x o;have w:=zn4 (by have:=i x o;omega) k;omega
theorem AR(b:aS e h=k0)(c:¬mr e h=k0):h=[]:=by
 cases h with
 | nil=>rfl
 | cons a l=>exact absurd (fR.2 ⟨b,sp⟩) c
theorem Ly{p:Int}(n:mr e h=k0)(g:lM p=k0):∃(m q d:Nat)(_:NeZero q),e=m/\p=q/\1<=m/\m<=6/\zsN q (ao h) m d/\nE e h p=d/\WY (ao h) p=d/\(d:Int)<=(cv (ao h):Int)-1:=by obtain⟨m,rfl,j,i,k,l,o⟩:=FT n;obtain⟨q,rfl,r⟩:=zrc g;haveI:NeZero q:=⟨r⟩;obtain⟨d,a,b,c,f⟩:=zq4 g k l i o;exact⟨m,q,d,inferInstance,rfl,rfl,j,i,a,by rwa[nE,ae ⟨(fR.1 n).1,g⟩],c,f⟩
theorem znZ(a:ao h 0=k0):bA (ao h) 64≠0:=λe=>by have:=ek (ao h) (s:=0) dc;grind
theorem zvQ:(decide (0<=nE x d y)&&decide (nE x d y=gD x d+1))=Zr x d y:=by
 unfold Zr;by_cases b:lM y=k0;by_cases h:mr x d=k0;obtain⟨m,q,p,_,rfl,rfl,j,k,l,e,f,o⟩:=Ly h b;have g:=(FT h).choose_spec.2.2.2.2.1;unfold zq0;rw[(fR.1 h).1,b,e,f,Dn h,ay (znZ g),ay om];rfl;cases c:aS x d with
 | false =>
   have:nE x d y=-1:=ac λh=>by rw[h.1]at c;cases c
   rw[this];rfl
 | true =>
   have i:=AR c h;subst i;have e:nE x [] y=-1:=by rw[nE,ae ⟨c,b⟩];rfl
   rw[e,b];rfl
 have:nE x d y=-1:=ac λh=>b h.2;rw[this,show lM y=l0 by simpa using b];simp
theorem wW:AC prog 206 [.ag [al x,aE d],al y] (.im (aU (Zr x d y))):=by refine cA [.tmp 4] func206 λc=>?_;refine aR (aa (sK x d y) ?_);refine aR ?_;rw[<- zvQ];have p:=zq1 x d;have b:D0.i64.wrap (gD x d+1)=gD x d+1:=aF om om;refine⟨λh=>aa (gZ x d) ?_,λh=>?_⟩;refine cZ b ?_;rw[ay h];rfl;rw[aD h];rfl
theorem zjE:D0.i64.wrap (D0.i64.wrap x+y)=D0.i64.wrap (x+y):=by simp[D0.wrap,D0.bits,D0.signed];omega
theorem zt4:fu .i64 (n:Int) 1=((n%2:Nat):Int):=by
 have e:fu _ n 1=D0.i64.wrap (((BitVec.ofInt 64 n&&&BitVec.ofInt 64 1).toNat)):=rfl;have a:BitVec.ofInt 64 n=BitVec.ofNat 64 n:=sp;have b:BitVec.ofInt 64 1=BitVec.ofNat 64 1:=dc;have c:(BitVec.ofNat 64 n&&&BitVec.ofNat 64 1).toNat=n%2:=sp
 rw[e,a,b,c,aF om om]
def IV(s:Int):Int:=D0.i64.wrap ((aQ s.toNat:Nat):Int)
theorem AQ(h:0<=e/\e<64):IV e=(aQ e.toNat:Nat):=by have:=jA (s:=e.toNat) om;exact aF om om
theorem zx:AC prog 183 [al x] (.im (al (IV x))):=by
 refine cA [.tmp 2] func183 λl=>?_;refine aR ?_;by_cases f:0<=x;obtain⟨n,rfl⟩:=ca f;have g:al 0=al (D0.i64.wrap ((0:Nat):Int)):=rfl;refine az (λ((m,a):Nat×Nat) s=>(s.sl 0=al m/\s.sl 3=al (D0.i64.wrap (a:Int)))/\(a+aQ m=aQ n)) (λ(m,a)=>m) ((n,0)) ⟨(jX g),sp⟩ ?_;intro(m,a) i ⟨c,b⟩;refine ox c @zt4 @za4 @zjE ?_;refine⟨λd=>?_,λd=>?_⟩;have e:m≠0:=om;have j:=b;rw[Fe e]at j;have k:D0.i64.wrap ((a:Int)+((m%2:Nat):Int))=D0.i64.wrap ((a+m%2:Nat):Int):=by congr 1
 exact ah ((m/2,a+m%2)) ⟨(gE c k),by dsimp only;omega⟩;have:m=0:=om;subst this;rw[kq,lD]at b;unfold IV;rw[ar,<- b];refine az (λ(t:Unit)s=>(s.sl 0=al x/\s.sl 3=al 0)/\(True)) (λt=>0) (()) ⟨nm,trivial⟩ ?_;intro t i ⟨c,b⟩;refine cZ c ?_;refine⟨λd=>absurd d om,λd=>?_⟩;have:x.toNat=0:=om;unfold IV;rw[this,kq];rfl
noncomputable def zy(n:Int)(a:N0):Bool:=aS n a&&a.all λx=>decide (aQ x.toNat=aQ (lg a 0 0).toNat)
theorem zsM(c:s<lh h)(a:IV (lg h s 0)≠IV (lg h 0 0)):zy e h=false:=by
 unfold zy;cases d:aS e h with
 | false=>rfl
 | true =>have b:=dM d;rw[au,fo];refine⟨_,aP 0 c,?_⟩;rw[AQ (b _ (aP 0 c)),AQ (b _ (aP 0 (show 0<lh h by omega)))]at a;intro k;exact a (by have:=cH k;omega)
theorem znX(c:aS e h=k0)(n:∀k,k<lh h->IV (lg h k 0)=IV (lg h 0 0)):zy e h=true:=by unfold zy;have b:=dM c;rw[c,au,aY];intro x a;obtain⟨k,d,rfl⟩:=eX 0 a;have:=n k d;rw[AQ (b _ (aP 0 d)),AQ (b _ (aP 0 (show 0<lh h by omega)))]at this;exact ay om
theorem nC:AC prog 178 [.ag [al x,aE d]] (.im (aU (zy x d))):=by
 refine cA [.tmp 2] func178 λg=>?_;simp only[dt,dT,dF,gb,jt,hZ,cC]at g;refine aR ?_;refine az (λ(k:Nat)s=>(s.sl 1=.ref 1 1 0/\s.rw 1=⟨1,.box 31 [al x,aE d]⟩/\s.sl 3=al (k+1:Nat))/\((k+1<=d.length\/k=0)/\∀j,j<k+1->IV (lg d j 0)=IV (lg d 0 0))) (λk=>lh d-k) (0) ⟨nm,⟨.inr rfl,λj i=>by rw[show j=0 by omega]⟩⟩ ?_;intro k m ⟨c,f⟩;obtain⟨o,b⟩:=f;refine cZ c ?_;refine⟨λh=>⟨kr,h,h,aa (zx _) ?_⟩,λh=>aa (bw x d) ?_⟩;refine cZ c ?_;refine⟨om,om,aa (zx _) ?_⟩;refine cZ c ?_;refine⟨λa=>?_,λa=>?_⟩;rw[zsM h (ss a)];have a:IV (lg d (k+1) 0)=IV (lg d 0 0):=ss a;exact ah (k+1) ⟨(gE c (ak h g)),⟨.inl om,λj i=>by
  by_cases e:j=k+1;rw[e];exact a;exact b j om⟩⟩
 refine cZ c ?_;cases l:aS x d with
 | false=>unfold zy;rw[l];rfl
 | true=>rw[znX l λj i=>b j om]
theorem nD:AC prog 154 [.ag [al x,aE d]] (.im (aU (zy x d))):=by
 refine cA [.tmp 2] func154 λl=>?_;simp only[dt,dT,dF,gb,jt,hZ,cC]at l;refine aR (aa (aH x d) ?_);refine aR ?_;refine⟨λb=>?_,λb=>?_⟩;have b:aS x d=false:=ss b;unfold zy;rw[b];rfl;have b:aS x d=true:=ss b;have a:=dM b;refine az (λ(k:Nat)s=>(s.sl 1=.ref 1 1 0/\s.rw 1=⟨1,.box 31 [al x,aE d]⟩/\s.sl 9=aE d/\s.sl 10=al (lh d)/\s.sl 11=al k)/\(k<=lh d/\∀j,j<k->IV (lg d j 0)=IV (lg d 0 0))) (λk=>lh d-k) (0) ⟨nm,⟨aB _,λj m=>om⟩⟩ ?_;intro k q ⟨g,i⟩;obtain⟨r,c⟩:=i;refine cZ g ?_;refine⟨λh=>⟨h,h,kr,aa (dy _) ?_⟩,λh=>?_⟩;have o:=a _ (aP 0 h);have p:=a _ (aP 0 (show 0<lh d by omega));refine cZ g ?_;refine⟨om,om,aa (dy _) ?_⟩;rw[nA o,nA p,<- AQ o,<- AQ p];refine cZ g ?_;refine⟨λf=>?_,λf=>?_⟩;rw[zsM h (ss f)];have f:IV (lg d k 0)=IV (lg d 0 0):=ss f;exact ah (k+1) ⟨(gE g (ak h l)),⟨om,λj m=>by
  by_cases e:j=k;rw[e];exact f;exact c j om⟩⟩
 rw[znX b λj m=>c j om]
theorem Cf:AC prog 261 [aE l,aE d] (.im (aU (decide (l=d)))):=by
 refine cA [.tmp 4] func261 λf=>?_;simp only[dt,ga,dT,dF]at f;simp only[↓gp,gq,simprocAttr,gT];refine⟨λh=>?_,λh=>?_⟩;grind;have b:=by simp at h;omega
 refine az (λ(i:Nat)s=>s.sl 0=aE l/\s.sl 1=aE d/\s.sl 5=al i/\i<=lh l/\l.take i=d.take i) (λi=>lh l-i) 0 ⟨rfl,rfl,rfl,sp,sp⟩ ?_;intro i m ⟨g,j,k,n,a⟩;simp only[↓gp,gq,simprocAttr,gT,g,j,k];refine⟨λh=>⟨kr,h,h,om,om,λc=>?_,λc=>?_⟩,λh=>?_⟩;grind;refine ah (i+1) ⟨by simp only[gr,lj,lm,ll,lk,lw,g],by simp only[gr,lj,lm,ll,lk,lw,j],by simp only[gr,lj,lm,ll,lk,lw];rw[ak h f.1],h,?_⟩ om;rw[bj 0 h,bj 0<|by omega,a];grind;grind
theorem uf{a b:Type}(f:a->Option b){l:List a}(d:a)(h:s<lh l):(l.take (s+1)).findSome? f=((l.take s).findSome? f).or (f (lg l s d)):=by simp[bj d h]
theorem FU{a b:Type}(f:a->Option b){l:List a}(d:a)(h:s<lh l)(c:(l.take s).findSome? f=o0){x:b}(e:f (lg l s d)=n0 x):l.findSome? f=n0 x:=by rw[<- lV _ l,yk,uf f d h,c,e];rfl
noncomputable def zro(a:N0):O0:=(lc 64).filter (hU a)
noncomputable def zF(a:N0):N0:=bl (zro a)
theorem zud:Uk (zF l):=λb a=>by obtain⟨s,d,rfl⟩:=List.mem_map.1 a;have:=List.mem_range.1 (List.mem_filter.1 d).1;omega
theorem zhY:lh (zF l)<=64:=by rw[zF,zro,ap];grind
theorem zol(j:h.Nodup)(g:Uk h):vS h=zF h:=by
 symm;have f:(zF h).Pairwise (·<·):=by refine List.Pairwise.map _ (λa b c=>?_)<|List.Pairwise.filter _ gA;omega
 refine zb3 ?_<|f.imp λc=>Int.le_of_lt c;exact(dn (f.imp λc=>Int.ne_of_lt c) j).2<|λx=>by rw[zF,zro,bl,dX];refine⟨λ⟨s,k,e⟩=>?_,λc=>⟨x.toNat,List.mem_filter.2 ⟨List.mem_range.2<|by have:=g x c;omega,?_⟩,by have:=g x c;omega⟩⟩;simp_all[hU];unfold hU;have:=g x c;grind
theorem zez:AC prog 364 [al x,al y] (.im (aU (decide (x<y)))):=by refine cA [.tmp 4] func364 λa=>?_;refine aR<|aa (yq x) ?_;exact ef
theorem Xi(b:n<9):∃k:Int,AC prog 352 [dv n] (.im (al k)):=by refine⟨if n=0 then 0 else if n<2 then 1 else if n<4 then 2 else if n<8 then 3 else 4,?_⟩;refine cA [.tmp 2] func352 λc=>?_;refine aR ?_;refine⟨λh=>absurd h om,λ_=>⟨λh=>absurd h om,λ_=>⟨λh=>absurd h om,λ_=>?_⟩⟩⟩;have a:n=0\/n=1\/n=2\/n=3\/n=4\/n=5\/n=6\/n=7\/n=8:=om;rcases a with rfl|rfl|rfl|rfl|rfl|rfl|rfl|rfl|rfl<;>exact⟨dc,by decide +kernel,dc⟩
theorem zeA(a:n<9):∃k:Int,AC prog 311 [.v (.int .u64 n)] (.im (al k)):=by have⟨k,b⟩:=Xi n a;refine⟨k,cA [.tmp 2] func311 λc=>?_⟩;refine aR<|aa b ?_;exact ef
theorem KC(L:lh l<=1000):AM prog 358 [.own 1000000 1,al 0,al (lh l)] [⟨3,1,iL l⟩] [iL (vS l)] (.tuple #[]):=by
 refine AM.go (rs:=[]) tk mixed func358 rfl rfl rfl kr (ic (dJ _) mi) (ia (dJ _) mh) rfl λM=>?_;refine aR ?_;refine az (λ((i,c):Nat×N0) s=>s.sl 0=.own 1000000 1/\s.rw 1000000=⟨1,.sli 3 1 l0<|iL c⟩/\s.sl 1=al 0/\s.sl 2=al (lh l)/\s.sl 6=al i/\1<=i/\c.Perm l/\zhW c i/\(i<=l.length\/l.length=0)) (λ(i,_)=>lh l-i) (1,l) ⟨gl,gl,gl,gl,rfl,om,List.Perm.refl _,λa b t u=>om,om⟩ ?_;intro(i,c) N ⟨E,F,t,u,G,O,w,H,x⟩;have I:=w.length_eq;refine nN E F t u G ?_;refine⟨λy=>?_,λy=>?_⟩;rotate_left
 ·have e:=by
   refine zjT w λa b J P=>?_;rcases x with x|x
   ·exact H a b J om
   omega
  grind
 ·refine az (λ(j,m)s=>s.sl 0=.own 1000000 1/\s.rw 1000000=⟨1,.sli 3 1 l0<|iL m⟩/\s.sl 1=al 0/\s.sl 2=al (lh l)/\s.sl 6=al i/\s.sl 7=al j/\j<=i/\m.Perm l/\Pc m i j) (λ(j,_)=>j) (i,c) ⟨by simp[gr,simprocAttr,E],by simp[gr,F],by simp[gr,simprocAttr,t],by simp[gr,simprocAttr,u],by simp[gr,simprocAttr,G],gl,ab _,w,zeq H⟩ ?_;intro(j,m) Q ⟨k,n,o,p,r,z,A,d,f⟩;have K:=d.length_eq;have g:j<lh m:=om;by_cases q:0<j
  ·have B:D0.i64.wrap (j-1)=(j-1:Nat):=by rw[aF om om];omega
   refine xA k n o p r z B ?_;refine⟨kr,λ_=>⟨g,g,om,om,aa (zez _ _) ?_⟩,λh=>?_⟩
   ·refine xA k n o p r z B ?_;refine⟨λC=>⟨kr,om,om,om,om,om,om,om,om,kr,?_⟩,λD=>?_⟩
    ·exact ah (j-1,swj m j) ⟨by simp[gr,simprocAttr,k],rfl,by simp[gr,simprocAttr,o],by simp[gr,simprocAttr,p],by simp[gr,simprocAttr,r],rfl,om,(zod q g).trans d,zb2 f q A om C⟩<|om
    ·exact ah (i+1,m) ⟨by simp[gr,simprocAttr,k],by simp[gr,n],by simp[gr,simprocAttr,o],by simp[gr,simprocAttr,p],by rw[aF om om];rfl,om,d,JE f A<|.inr<|Int.not_lt.1 D,om⟩<|om
   grind
  ·refine Cn k n o p r z ?_;refine⟨kr,λh=>absurd (h) om,λh=>?_⟩;exact ah (i+1,m) ⟨by simp[gr,simprocAttr,k],by simp[gr,n],by simp[gr,simprocAttr,o],by simp[gr,simprocAttr,p],by rw[aF om om];rfl,om,d,JE f A<|.inl om,om⟩<|om
theorem zjX(g:lh l<=12)(k:Int):AM prog 327 [.own 1000000 1,al 0,al (lh l),al k] [⟨3,1,iL l⟩] [iL (vS l)] (.tuple #[]):=by
 refine AM.go (rs:=[]) tk mixed func327 rfl rfl rfl kr (ic (dJ _) mi) (ia (dJ _) mh) rfl λi=>?_;refine aR ?_;refine az (λ(_:Unit)s=>s.sl 0=.own 1000000 1/\s.rw 1000000=⟨1,.sli 3 1 l0<|iL l⟩/\s.sl 1=al 0/\s.sl 2=al (lh l)) (λ_=>0) () ⟨gl,gl,gl,gl⟩ ?_;intro _ j ⟨c,b,d,e⟩;have f:D0.i64.wrap ((lh l:Int)-0)=(lh l:Int):=by rw[aF om om];omega
 refine nN c b d e f ?_;refine⟨λh=>?_,λh=>absurd (by omega) h⟩;refine oJ (KC l om) [(1000000,1)] (by repeat (first|exact GiveL.nil|refine GiveL.v ?_|refine GiveL.clo ?_|refine GiveL.own 0 rfl ?_|refine GiveL.own 1 rfl ?_|refine GiveL.ag ?_ ?_)) ⟨by simp only[gr,b],trivial⟩ dc ?_;exact mg b
theorem QD(d:lh l<=8):AM prog 294 [.own 1000000 1] [⟨3,1,iL l⟩] [iL (vS l)] (.tuple #[]):=by refine AM.go (rs:=[]) tk mixed func294 rfl rfl rfl kr (ic (dJ _) mi) (ia (dJ _) mh) rfl λe=>?_;have⟨k,c⟩:=zeA (lh l) om;have b:D0.u64.wrap _=(lh l):=dm om;refine cZ b<|aa c ?_;refine cZ b ?_;refine oJ (zjX l om k) [(1000000,1)] (by repeat (first|exact GiveL.nil|refine GiveL.v ?_|refine GiveL.clo ?_|refine GiveL.own 0 rfl ?_|refine GiveL.own 1 rfl ?_|refine GiveL.ag ?_ ?_)) ⟨gl,trivial⟩ dc<|ef
def oC(items:N0)(f:F0)(fl:List Bool)(p:PV):M0:=.sl l0 1 (iL items)::.clo f []::(bL fl++[p])
section
variable {items:N0}{f:F0}{fl:List Bool}{p:PV}{Kp:PV->Prop}
theorem Pe(h:lh fl=256):lh (oC items f fl p)=259:=by simp[oC,bL,h]
theorem Dp(a:(T t).k.agg=l0)(b:0<(T t).size):qt T t .asis (oC items f fl p) 0 Kp=Kp (.sl l0 1 (iL items)):=by simp[qt,a,b,oC,Md.fix]
theorem Dq(a:(T t).k.agg=l0)(b:0<(T t).size):qt T t .asis (oC items f fl p) 1 Kp=Kp (.clo f []):=by simp[qt,a,b,oC,Md.fix]
theorem zua(h:lh fl=256)(a:n<256)(b:(T t).k.agg=l0)(c:0<(T t).size):qt T t .asis (oC items f fl p) (2+n) Kp=Kp (.v (.bool (lg fl n l0))):=by
 have e:lg (oC items f fl p) (2+n) .junk=.v (.bool<|lg fl n l0):=by
  have d:n<(bL fl).length:=by simp[bL,h,a]
  simp only[oC,lg,show 2+n=n+1+1 by omega,ge];rw[eE d];simp[bL,h,a]
 have g:=Pe (items:=items) (f:=f) (p:=p) h;simp only[qt,b,c,g,cC];rw[e];simp[Md.fix];omega
theorem Dr(h:lh fl=256)(a:(T t).k.agg=l0)(b:0<(T t).size):qt T t .asis (oC items f fl p) 258 Kp=Kp p:=by
 have e:lg (oC items f fl p) 258 .junk=p:=by
  have c:lh (bL fl)=256:=by simp[bL,h]
  simp_all[oC]
 simp only[qt,a,b,Pe h];rw[e];simp[Md.fix]
theorem Xh(h:lh fl=256)(q:PV):nt (oC items f fl p) 258 [q]=oC items f fl q:=by
 have a:lh (bL fl)=256:=by simp[bL,h]
 show(oC _ f fl p).set 258 q=_;simp_all[oC]
theorem zrm(h:lh fl=256)(a:n<256)(b:Bool):nt (oC items f fl p) (2+n) [.v (.bool b)]=oC items f (fl.set n b) p:=by
 have c:n<(bL fl).length:=by simp[bL,h,a]
 show(oC _ f fl p).set _ _=_;simp[oC,show 2+n=n+1+1 by omega];simp_all[bL]
end
def oR(b:Bool)(items:N0)(f:F0)(fl:List Bool)(a:N0)(k:Nat):Row :=
 if k=1000000 then⟨1,.box 165 (oC items f fl (if b=k0 then .v (.slice o0 0 0)else .own 1000001 1))⟩else if k=1000001/\b=l0 then⟨1,.sli 3 1 l0 (iL a)⟩else⟨0,.dead⟩
def UW(b:N0->Int->Bool)(items:N0)(f:F0)(n:Nat)(a:N0)(c:S0)(p:PV):Prop :=
 ∃fl v,lh fl=256/\zjV b items (λu=>lg fl u l0)/\p=aU (ix b items n a).isSome/\c 1000000=⟨1,.box 165 (oC items f fl (.own 1000001 v))⟩/\c 1000001=⟨v,.sli 3 1 l0 (iL ((ix b items n a).getD a))⟩
theorem AV:(T 143).size=1:=dc
theorem AW:(T 143).k=.other:=rfl
theorem zub:∀u,u<256->∀k,k<8->(fu .i64 (wH .i64 (u:Nat) (k:Nat)) 1==1)=Nat.testBit u k:=by decide +kernel
theorem zuc:∀u,u<256->∀k,k<8->EX .i64 (u:Nat) (jl .i64 1 (k:Nat))=((u|||2^k:Nat):Int):=by decide +kernel
theorem zE{a:N0}(b:Bool)(fl:lh u=256)(i:b=k0->a=[])(c:∀k,w.rw k=oR b h g u a k) :
 ∃d,Wk w d/\d.sl=w.sl/\d.rw 1000000=⟨1,.box 165 (oC h g u (.own 1000001 1))⟩/\d.rw 1000001=⟨1,.sli 3 1 l0 (iL a)⟩/\∀k,k<1000000->d.rw k=⟨0,.dead⟩:=by
 cases b with
 | false=>exact⟨w,Wk.refl w,rfl,by rw[c];rfl,by rw[c];rfl,λk j=>by rw[c];unfold oR;rw[ac om,ac om]⟩
 | true =>
   have l:=i rfl
   subst l
   have m:w.rw 1000000=⟨1,.box 165<|oC h g u<|.v<|.slice o0 0 0⟩:=by rw[c];rfl
   have n:w.rw 1000001=⟨0,.dead⟩:=by rw[c];rfl
   have o:(oC h g u<|.v<|.slice o0 0 0)[258]?=n0 (.v<|.slice o0 0 0):=by
    have p:lh (bL u)=256:=by simp[bL,fl]
    simp only[oC,show 258=256+1+1 by omega,ge];rw[eo om,p];rfl
   have s:=Wk.nilBox 1000001 3 m o dc
   rw[n]at s
   have e:(oC h g u<|.v<|.slice o0 0 0).set 258 (.own 1000001<|0+1)=oC h g u (.own 1000001 1):=Xh fl _
   rw[e]at s
   refine⟨_,s,rfl,by rw[dw],by rw[bZ _ _ _ _ dc,dw];rfl,λk j=>?_⟩
   rw[bZ _ _ _ _ om,bZ _ _ _ _ om,c];unfold oR;rw[ac om,ac om]
theorem zoj{c:l1}{R:S0}{e:M0}(h:GvL j c o R i e):∀fl:List Bool,GvL j c o R (bL fl++i) (bL fl++e):=by
 intro fl;induction fl with
 | nil=>exact h
 | cons b fl f=>exact .one (.v _) f
theorem zok{b:T0}{v:Nat}{c:Bool}(e:j 1000001=n0 s)(fl:(o 1000001).ver=v) :
 (oC h g u (.own 1000001 v)).map (yP j o b c)=(match c with|true=>oC h g u (.own s (b 1000001))|false=>.junk::(oC h g u (.own s (b 1000001))).tail):=by
 have f:(bL u).map (yP j o b c)=bL u:=by unfold bL;rw[fj];exact cO λx _=>rfl
 have i:yP j o b c (.own 1000001 v)=.own s (b 1000001):=by show Hn j o b c (.own 1000001 v)=_;rw[lH,e,fl,du]
 unfold oC
 rw[dR,dR,cq,f,List.map_singleton,i]
 cases c<;>rfl
def zex(k:Nat):Option Nat:=if k=1000000\/k=1000001 then n0 k else o0
theorem qf{j:Nat}(h:zex s=n0 j):s=j/\(s=1000000\/s=1000001):=by unfold zex at h;grind
theorem zvU{a:N0}(k:(oR l0 h g u a s).kind.nd=k0):s=1000000\/s=1000001:=by unfold oR at k;by_cases b:s=1000000;omega;rw[ac b]at k;by_cases c:s=1000001/\l0=l0;grind;rw[ac c]at k;cases k
theorem zrn{f:F0}{c:N0}{n d v:Nat}{us:Dm w}{L:Dm K}(lent:AG prog g [.ref 1000000 1 0,al e] (oR l0 h f u c) (UW C h f n c))(F:w.rw 1000000=⟨1,.box 165 (oC h f u (.own 1000001 v))⟩)(D:w.rw 1000001=⟨v,.sli 3 1 l0 (iL c)⟩)(y:∀(S:St)(l:List Bool)(s:Nat),lh l=256->zjV C h (λe=>lg l e l0)->S.sl d=aU (ix C h n c).isSome->(∀t,t≠d->S.sl t=w.sl t) ->
  S.rw 1000000=⟨1,.box 165 (oC h f l (.own 1000001 s))⟩->S.rw 1000001=⟨s,.sli 3 1 l0 (iL ((ix C h n c).getD c))⟩->(∀fl,fl≠1000000->fl≠1000001->S.rw fl=w.rw fl)->K S) :
 nn prog g i J (tS prog g i [.ref 1000000 1 0,al e] (n0 d) (kk w us) (kk K L)):=by
 have G:zex 1000000=n0 1000000:=rfl
 have E:zex 1000001=n0 1000001:=rfl
 have m:oR l0 h f u c 1000000=⟨1,.box 165 (oC h f u (.own 1000001 1))⟩:=rfl
 have items:oR l0 h f u c 1000001=⟨1,.sli 3 1 l0 (iL c)⟩:=rfl
 refine KT lent zex (λ_=>False) (.one (.ref G (by rw[m]) (by rw[F]) (by rw[m];rfl)) (.one (.v _) .nil)) ⟨λk y=>?_,λk Q j _ _ o q=>?_,λk j _ _ lent=>lent⟩ λM p N=>?_
 rcases zvU y with rfl|rfl
 refine⟨ab _,by rw[m];exact Nat.one_pos,1000000,G,?_⟩;rw[m,F];exact⟨rfl,.one (.sl _ _ _) (.clo .nil (zoj (.one (.own E (by rw[items]) (by rw[D]) (by rw[items];rfl)) .nil) u))⟩
 refine⟨dc,by rw[items];exact Nat.one_pos,1000001,E,?_⟩;rw[items,D];exact⟨rfl,rfl,rfl,dJ _⟩
 rw[(qf o).1,(qf q).1]
 obtain⟨l,s,H,O,rfl,z,r⟩:=N;refine⟨zex,λk=>if k=1000001 then(if s=1 then v else v+1)else 1,k0,⟨λ_ _=>rfl,λa b fl o q=>?_,λa fl o q x=>?_,λa fl o q=>?_,λ_ _ lent=>lent⟩,λS A=>?_⟩
 rw[(qf o).1,(qf q).1]
 obtain⟨rfl,rfl|rfl⟩:=qf o
 rw[F];rfl
 rw[r,items]at x;have x:s=1:=x;rw[D];simp[x]
 obtain⟨rfl,rfl|rfl⟩:=qf o
 have:=q (by rw[m];rfl);rw[z,m]at this;exact absurd rfl this
 have:=q (by rw[items];rfl);rw[r,items]at this;have x:¬s=1:=this;rw[D];simp[x]
 have B:=A.row 1000000 1000000 G;have I:=A.row 1000001 1000001 E;rw[z]at B;rw[r]at I;have B:S.rw 1000000=⟨1,.box 165 ((oC h f l (.own 1000001 s)).map (yP zex M _ k0))⟩:=B;rw[zok E (by rw[r])]at B;refine y S l _ H O ?_ (λt P=>?_) B I λfl o q=>A.off fl λk y=>?_
 rw[A.sl,cF];rfl
 rw[A.sl,da _ _ _ _ P]
 obtain⟨rfl,lent|lent⟩:=qf y
 exact o lent
 exact q lent
theorem zey(y:N0->Int->Bool)(hF:∀l x,Uk l->(0<=x/\x<64)->AC prog a [aE l,al x] (.im (aU (y l x))))(hP:∀l l' x,l.Perm l'->y l x=y l' x)(items:N0)(hn:items.Nodup)(b1:Uk items)(h8:lh items<=8) :
 ∀(n:Nat)(b:Bool)(fl:List Bool)(u:Nat)(d:N0),(b=k0->d=[])->lh fl=256->zjV y items (λu=>lg fl u l0)->zD items u d->lh d+n=lh items->Uk d->u<256 ->
  AG prog 295 [.ref 1000000 1 0,al u] (oR b items a fl d) (UW y items a n d):=by
 intro n
 induction n with
 | zero =>
   intro b fl u d M t X Y N O J
   refine AG.goW (rs:=[.tmp 4]) tk mixed func295 rfl rfl rfl kr λhl b2 z P Z=>?_
   have⟨s,H,B,Q,R,a0⟩:=zE b t M Z
   refine⟨s,H,?_⟩
   have z0:s.sl 0=.ref 1000000 1 0:=by rw[B,P];rfl
   have z1:s.sl 1=al u:=by rw[B,P];rfl
   clear P Z H B z
   simp only[↓gp,gq,simprocAttr,gT,z0,z1,Q,R,Dr t,Dp,Dq]
   have e:((lh d:Int)==(lh items:Int))=true:=by rw[aK];omega
   exact⟨kr,λ_=>⟨fl,1,t,X,rfl,Q,R⟩,λh=>absurd (e.symm.trans h) dc⟩
 | succ n ih =>
   intro b fl u d M t X Y N O J
   refine AG.goW (rs:=[.tmp 4]) tk mixed func295 rfl rfl rfl kr λhl b2 z P Z=>?_
   have⟨s,H,B,Q,R,a0⟩:=zE b t M Z
   refine⟨s,H,?_⟩
   have z0:s.sl 0=.ref 1000000 1 0:=by rw[B,P];rfl
   have z1:s.sl 1=al u:=by rw[B,P];rfl
   clear P Z H B z
   simp (maxSteps:=9^7) -dsimp only[↓gp,gq,reduceCtorEq,lj,lm,lp,ll,lu,lr,lw,lz,lA,lB,lC,lk,gT,z0,z1,Q,R,Dr t,Dp,Dq]
   have e:((lh d:Int)==(lh items:Int))=false:=by rw[bc];omega
   refine⟨kr,λh=>absurd (e.symm.trans h) dc,λ_=>⟨J,?_⟩⟩
   simp only[↓gp,gq,simprocAttr,gT,zua u t J,Dp,Dq,Dr t,z0,z1,Q,R]
   refine⟨λh=>?_,λh=>?_⟩
   unfold UW;rw[show ix y items (n+1) d=o0 from X u h (n+1) d Y N];exact⟨fl,1,t,X,rfl,Q,R⟩
   have G:ix y items (n+1) d=items.findSome? (λg=>if decide (g∈d)||!y d g then o0 else ix y items n (d++[g])):=rfl;generalize b3:(λg=>if decide (g∈d)||!y d g then o0 else ix y items n (d++[g]))=F at *;refine az (λ((k,v,g):Nat×Nat×List Bool) s=>s.sl 0=.ref 1000000 1 0/\s.sl 1=al u/\s.sl 27=aE items/\s.sl 28=al (lh items)/\s.sl 29=al k/\s.rw 1000000=⟨1,.box 165 (oC items a g (.own 1000001 v))⟩/\s.rw 1000001=⟨v,.sli 3 1 l0 (iL d)⟩/\(k<=lh items/\g.length=256/\zjV y items (λu=>lg g u l0)/\(items.take k).findSome? F=o0)) (λ(k,v,g)=>lh items-k) ((0,1,fl)) (by refine⟨?_,?_,?_,?_,?_,?_,?_,⟨aB _,t,X,rfl⟩⟩<;>(first|(simp only[gr,simprocAttr,z0,z1,Q,R];first|done|rfl|(simp;done))|assumption|rfl)) ?_;intro(k,v,g) sa ⟨o,p,i,j,m,f,c,b4⟩;have⟨hk,q,I,r⟩:=b4;by_cases h:k<lh items
   have U:k<8:=om;have a1:D0.u64.wrap (k:Int)=(k:Int):=dm om;have a2:=zub u J k U;have b5:=zuc u J k U;simp only[↓gp,gq,simprocAttr,gT,o,p,i,j,m,f,c,Dp,Dq,Dr q,AV,AW,a1,a2];have a3:=b1 _ (aP 0 h);have V:F (lg items k 0)=if decide (lg items k 0∈d)||!y d (lg items k 0)then o0 else ix y items n (d++[lg items k 0]):=by rw[<- b3]
   have K:=zjU hn Y h;have C:F (lg items k 0)=o0->(items.take (k+1)).findSome? F=none:=λe=>by rw[uf F 0 h,r,e];rfl
   refine⟨λ_=>⟨h,h,kr,λD=>aa (hF d _ O a3) ?_,λD=>?_⟩,λW=>absurd h W⟩
   simp only[↓gp,gq,simprocAttr,gT,o,p,i,j,m,f,c,Dp,Dq,Dr q,Xh q,AV,AW,a1,a2];refine⟨λM=>?_,λM=>?_⟩
   have e0:F (lg items k 0)=none:=by rw[V,ae (by rw[show y d (lg items k 0)=l0 by simpa using M];simp)]
   exact ah ((k+1,v,g)) (by refine⟨?_,?_,?_,?_,?_,?_,?_,⟨om,q,I,C e0⟩⟩<;>(first|(simp only[gr,simprocAttr,o,p,i,j,m,f,c,ak h om];first|done|rfl|(simp;done))|assumption|rfl)) (by first|omega|(simp only;omega)|(dsimp only;omega)|(show _<_;simp;omega))
   have b6:y d (lg items k 0)=true:=ss M
   have e0:F (lg items k 0)=ix y items n (d++[lg items k 0]):=by rw[V,ac (by rw[K,D,b6];decide)]
   have b7:u|||2^k<256:=by
    have:u|||2^k<2^8:=cu J (bN om U)
    exact this
   have a4:=ih l0 g (u|||2^k) (d++[lg items k 0]) (λh=>by cases h) q I (zeu Y h D) (by simp;omega) (λb b8=>by
    rcases List.mem_append.1 b8 with W|W;exact O b W;rw[List.mem_singleton.1 W];exact a3) b7
   rw[<- b5]at a4;refine⟨om,by rw[Pe q];exact ab _,zrn (v:=v+1) a4 (by simp only[gr,simprocAttr,o,p,i,j,m,f,c]) (by simp only[gr,simprocAttr,o,p,i,j,m,f,c]) λS g' v' A L a5 E w0 w1 a6=>?_⟩;rw[<- e0]at a5 w1;have u0:S.sl 0=.ref 1000000 1 0:=by rw[E 0 dc];simp only[gr,simprocAttr,o,p,i,j,m,f,c]
   have u1:S.sl 1=al u:=by rw[E 1 dc];simp only[gr,simprocAttr,o,p,i,j,m,f,c]
   have a7:S.sl 27=aE items:=by rw[E 27 dc];simp only[gr,simprocAttr,o,p,i,j,m,f,c]
   have a8:S.sl 28=al (lh items):=by rw[E 28 dc];simp only[gr,simprocAttr,o,p,i,j,m,f,c]
   have b0:S.sl 29=al k:=by rw[E 29 dc];simp only[gr,simprocAttr,o,p,i,j,m,f,c]
   clear E a6;simp only[↓gp,gq,simprocAttr,gT,a5,u0,u1,a7,a8,b0,w0,w1,Dp,Dq,Dr A,Xh A];refine⟨λhs=>?_,λhs=>?_⟩
   have⟨x,hx⟩:=Option.isSome_iff_exists.1 hs;unfold UW;rw[G,FU F 0 h r hx];rw[hx]at w1;exact⟨g',v',A,L,rfl,w0,w1⟩
   have e1:F (lg items k 0)=none:=by
    cases hx:F (lg items k 0)with
    | none=>rfl
    | some x=>rw[hx]at hs;cases hs
   have el:lh ((F (lg items k 0)).getD (d++[lg items k 0]))=lh d+1:=by rw[e1];simp
   have ew:D0.i64.wrap (lh ((F (lg items k 0)).getD (d++[lg items k 0]))-1:Int)=(lh d:Int):=by rw[el,aF om om];omega
   have et:((F (lg items k 0)).getD (d++[lg items k 0])).take ((lh d:Nat):Int).toNat=d:=by rw[e1];simp
   rw[ew,el];refine⟨kr,⟨by decide +kernel,kr,by decide +kernel,kr⟩,om,om,by rw[Pe A];exact ab _,kr,?_⟩;exact ah ((k+1,v'+1,g')) (by refine⟨?_,?_,?_,?_,?_,?_,?_,⟨om,A,L,C e1⟩⟩<;>(first|(simp only[gr,simprocAttr,o,p,i,j,m,f,c,u0,u1,a7,a8,b0,et,ak h (show (lh items)<=9223372036854775807 by omega)];first|done|rfl|(simp;done))|assumption|rfl)) (by first|omega|(simp only;omega)|(dsimp only;omega)|(show _<_;simp;omega))
   have e0:F (lg items k 0)=none:=by rw[V,ae (by rw[K,D];rfl)]
   exact ah ((k+1,v,g)) (by refine⟨?_,?_,?_,?_,?_,?_,?_,⟨om,q,I,C e0⟩⟩<;>(first|(simp only[gr,simprocAttr,o,p,i,j,m,f,c,ak h om];first|done|rfl|(simp;done))|assumption|rfl)) (by first|omega|(simp only;omega)|(dsimp only;omega)|(show _<_;simp;omega))
   have b9:k=lh items:=om;simp (maxSteps:=9^7) -dsimp only[↓gp,gq,reduceCtorEq,lj,lm,lp,ll,lu,lr,lw,lz,lA,lB,lC,lk,gT,o,p,i,j,m,f,c,Dp,Dq,Dr q,zrm u q J];refine⟨λW=>absurd W h,λ_=>⟨J,by rw[Pe q];omega,?_⟩⟩;rw[b9,av]at r;unfold UW;rw[G,r];refine⟨g.set u k0,v,by rw[de];exact q,?_,rfl,gl,by simp only[gr,simprocAttr,o,p,i,j,m,f,c];rfl⟩;have:=zof hP I Y N (by rw[G,r]);intro w H;refine this w ?_;show(if w=u then k0 else g.getD w l0)=k0;by_cases e:w=u
   rw[ae e]
   rw[ac e];have H:lg (g.set u k0) w l0=true:=H;simpa[lg,cW (Ne.symm e)]using H
def oX(a:PV)(f:F0)(b:List Bool)(p:PV):M0:=a::.clo f []::(bL b++[p])
theorem zoh(a:PV)(f:F0):a::.clo f []::List.map PV.v (ld 256 (Value.bool l0)++[Value.slice o0 0 0])=oX a f (ld 256 l0) (.v (.slice o0 0 0)):=by rw[oX,bL,cq,List.map_replicate,List.map_replicate];rfl
theorem Xf{p0 p:PV}{f:F0}(h:lh u=256):lh (oX p0 f u p)=259:=by simp[oX,bL,h]
theorem zt9{p:PV}{c:PV->Prop}(h:lh u=256)(d:(T t).k.agg=l0)(b:0<(T t).size):qt T t .asis (oX z g u p) 258 c=c p:=by
 have e:lg (oX z g u p) 258 .junk=p:=by
  have i:lh (bL u)=256:=by simp[bL,h]
  simp[oX,i]
 simp only[qt,d,b,Xf h];rw[e];simp[Md.fix]
theorem zrj{a:M0}(h:lh a=lh i):nt i 0 a=a:=by simp[zl1,h]
theorem zrk{rw:S0}{p:PV}(e:qz rw z)(d:qz rw p):Go.Abs.allP rw (oX z g u p):=by
 intro q a;rcases List.mem_cons.1 a with rfl|a
 omega;rcases List.mem_cons.1 a with rfl|a;trivial;rcases List.mem_append.1 a with a|a;obtain⟨b,_,rfl⟩:=List.mem_map.1 a;rfl;grind
theorem zoi{a:Nat}{p:PV}(e:lh u=256)(h:lh i=259)(f:qz w.rw z)(k:qz w.rw p)(d:Dm K) :
 K (w.row s ⟨a,.box t (oX z g u p)⟩)->qO w 259 s a 0 ⟨a,.box t i⟩ (.ag (oX z g u p)) (kk K d):=by
 intro l
 rw[uv 258]
 refine⟨Xf e,by simp[Xf e,h],zrk f k,?_⟩
 rwa[zrj<|by rw[Xf e,h]]
theorem zrl{f:F0}{n d l ki vi ei:Nat}{fz:Bool}{us:Dm w}{N:Dm K}(lent:AG prog g [.ref 1000000 1 0,al 0] (oR k0 h f u []) (UW C h f n []))(E:w.rw l=⟨1,.box 165 (oX (.own ki vi) f u (.v (.slice o0 0 0)))⟩)(O:w.rw ki=⟨vi,.sli ei 1 fz (iL h)⟩)(P:w.rw d=⟨0,.dead⟩)(Q:ki≠l)(I:d≠l)(q:∀(S:St)(r:List Bool),lh r=256->S.sl d=aU (ix C h n []).isSome->(∀t,t≠d->S.sl t=w.sl t) ->
  S.rw l=⟨1,.box 165 (oX .junk f r (.own d 1))⟩->S.rw d=⟨1,.sli 3 1 l0 (iL ((ix C h n []).getD []))⟩->(∀c,c≠l->c≠d->S.rw c=w.rw c)->K S) :
 nn prog g i J (tS prog g i [.ref l 1 0,al 0] (n0 d) (kk w us) (kk K N)):=by
 have m:oR k0 h f u [] 1000000=⟨1,.box 165 (oC h f u (.v (.slice o0 0 0)))⟩:=rfl
 have F:∀k,k≠1000000->oR k0 h f u [] k=⟨0,.dead⟩:=λk q=>by unfold oR;rw[ac q,ac (λlent=>by cases lent.2)]
 have o:∀k,(oR k0 h f u [] k).kind.nd=k0->k=1000000:=λk q=>by by_cases lent:k=1000000;exact lent;rw[F k lent]at q;cases q
 have M:(λk:Nat=>if k=1000000 then n0 l else o0) 1000000=n0 l:=ae rfl
 have R:(λk:Nat=>if k=1000000 then n0 l else if k=1000001 then n0 d else o0) 1000000=n0 l:=ae rfl
 have L:(λk:Nat=>if k=1000000 then n0 l else if k=1000001 then n0 d else o0) 1000001=n0 d:=rfl
 have qq:∀{k j:Nat},(λk:Nat=>if k=1000000 then n0 l else if k=1000001 then n0 d else o0) k=n0 j->(k=1000000/\j=l)\/(k=1000001/\j=d):=λ{k j}lent=>by have lent:(if k=1000000 then n0 l else if k=1000001 then n0 d else o0)=n0 j:=lent;by_cases a:k=1000000;rw[ae a]at lent;exact .inl ⟨a,(Option.some.inj lent).symm⟩;rw[ac a]at lent;by_cases b:k=1000001;rw[ae b]at lent;exact .inr ⟨b,(Option.some.inj lent).symm⟩;rw[ac b]at lent;cases lent
 refine KT lent (λk=>if k=1000000 then n0 l else o0) (λj=>j=ki) (.one (.ref M (by rw[m]) (by rw[E]) (by rw[m];rfl)) (.one (.v _) .nil)) ⟨λk q=>?_,λk U j a b _ _=>by rw[o k a,o U b],λk j a b e=>?_⟩ λV p W=>?_
 have:=o k q;subst this;refine⟨ab _,by rw[m];exact Nat.one_pos,l,M,?_⟩;rw[m,E];exact⟨rfl,.one (.lent rfl O) (.clo .nil (zoj (.one (.v _) .nil) u))⟩
 have:=o k a;subst this;have b:n0 l=n0 j:=b;cases b;exact Q e.symm
 obtain⟨r,X,G,Z,rfl,x,y⟩:=W;refine⟨λk=>if k=1000000 then n0 l else if k=1000001 then n0 d else o0,λk=>1,l0,⟨λk q=>?_,λa b c z A=>?_,λa c z A a3=>?_,λa c z A=>?_,λlent=>by cases lent⟩,λS B=>?_⟩
 have:=o k q;subst this;rfl
 rcases qq z with⟨rfl,D⟩|⟨rfl,D⟩<;>rcases qq A with⟨rfl,H⟩|⟨rfl,H⟩<;>first|rfl|(exact absurd (D.symm.trans H) (Ne.symm I))|(exact absurd (D.symm.trans H) I)
 have:=o a A;subst this;rcases qq z with⟨_,rfl⟩|⟨lent,_⟩
 rw[E]
 exact absurd lent dc
 rcases qq z with⟨rfl,rfl⟩|⟨rfl,rfl⟩
 have:=A (by rw[m];rfl);rw[x,m]at this;exact absurd rfl this
 rw[P];exact Nat.one_pos
 have s:=B.row 1000000 l R;have D:=B.row 1000001 d L;rw[x]at s;rw[y]at D;have s:S.rw l=⟨1,.box 165 ((oC h f r (.own 1000001 X)).map (yP (λk:Nat=>if k=1000000 then n0 l else if k=1000001 then n0 d else o0) V _ l0))⟩:=s;rw[zok L (by rw[y])]at s;refine q S r G ?_ (λt Y=>?_) s D λc a b=>B.off c λk q=>?_
 rw[B.sl,cF];rfl
 rw[B.sl,da _ _ _ _ Y]
 rcases qq q with⟨_,rfl⟩|⟨_,rfl⟩
 exact a rfl
 exact b rfl
def Ig(b:N0->Int->Bool)(a:N0):Option N0:=if (lh a)<=8 then ix b (vS a) (lh a) []else o0
theorem Xg(c:N0->Int->Bool)(r:∀l x,Uk l->(0<=x/\x<64)->AC prog a [aE l,al x] (.im (aU (c l x))))(s:∀l p x,l.Perm p->c l x=c p x)(f:N0)(t:f.Nodup)(g:Uk f) :
 AC prog 247 [aE f,.clo a []] (.tup [.fr 3 1 (iL ((Ig c f).getD [])),.im (aU (Ig c f).isSome)]):=by
 refine cA [.tmp 4,.tmp 5] func247 λw=>?_
 simp -dsimp only[↓gp,gq,reduceCtorEq,lj,lm,lp,ll,lu,lr,lw,lz,lA,lB,lC,lk,gT,AV,AW]
 refine⟨λh=>?_,λh=>?_⟩
 unfold Ig;rw[ac om];exact⟨rfl,rfl⟩
 have i:lh f<=8:=om;unfold Ig;rw[ae i];refine aa (pd f om) ?_;simp -dsimp only[↓gp,gq,reduceCtorEq,lj,lm,lp,ll,lu,lr,lw,lz,lA,lB,lC,lk,gT,AV,AW];refine oJ (QD f i) [(12,1)] (by repeat (first|exact GiveL.nil|refine GiveL.v ?_|refine GiveL.clo ?_|refine GiveL.own 0 rfl ?_|refine GiveL.own 1 rfl ?_|refine GiveL.ag ?_ ?_)) ⟨rfl,trivial⟩ dc ?_;simp (maxSteps:=9^7) -dsimp only[↓gp,gq,reduceCtorEq,lj,lm,lp,ll,lu,lr,lw,lz,lA,lB,lC,lk,gT,AV,AW,zoh];refine zoi cX (by grind) ?_ (by exact rfl) _ ?_
 simp (maxSteps:=9^7) -dsimp only[↓gp,gq,reduceCtorEq,lj,lm,lp,ll,lu,lr,lw,lz,lA,lB,lC,lk,gT,Nf]
 have y:=zey a c r s (vS f) ((xc f).nodup_iff.2 t) (λb j=>g b<|(xc f).mem_iff.1 j) (by rw[If];exact i) (lh f) k0 (ld 256 l0) 0 [] (λ_=>rfl) cX (λu e=>by
  grind) (zes _) (by rw[If];simp) (λb j=>by cases j) dc
 simp (maxSteps:=9^7) -dsimp only[↓gp,gq,reduceCtorEq,lj,lm,lp,ll,lu,lr,lw,lz,lA,lB,lC,lk,gT,AV,AW,zoh];refine zrl (ki:=12) (vi:=1) (ei:=3) (fz:=l0) y (rfl) (rfl) (rfl) dc dc λS z d k m A n q=>?_;have B:S.sl 7=.ref 7 1 0:=by rw[m 7 dc];rfl
 simp -dsimp only[↓gp,gq,reduceCtorEq,lj,lm,lp,ll,lu,lr,lw,lz,lA,lB,lC,lk,gT,k,B,A,n,zt9 d];generalize ix c (vS f) (lh f) []=o;cases o with
 | none=>decide
 | some l=>simp
theorem zog(a:ZU e h):Uk h:=λb c=>by obtain⟨i,d,rfl⟩:=eX 0 c;exact sj (a.2.2 i d).1
theorem zjW:∀(n:Nat)(head l:N0),ix C h n head=n0 l->lh l=lh head+n:=by
 intro n;induction n with
 | zero=>intro head l a;rw[<- Option.some.inj<|a];rfl
 | succ n d =>intro head l a;have⟨x,_,b⟩:=List.exists_of_findSome?_eq_some a;grind
def zjY(l:O0):Prop:=∀g∈l,g<64
theorem LA(h:zjY r)(a:s<lh r):lg r s 0<64:=h _<|aP 0 a
theorem zb4{b:Type}(f:b->Nat->b)(a:b)(h:s<lh r):(r.take (s+1)).foldl f a=f ((r.take s).foldl f a) (lg r s 0):=by rw[bj 0 h,jJ];rfl
theorem Pf(q:zjY c)(o:k<64):AC prog 296 [aE (bl c),al k] (.im (al (PQ c k:Nat))):=by
 refine cA [.tmp 4] func296 λi=>?_;simp only[dt,dT,dF,kQ,ga,cC,ap]at i;have b:=ap c;refine aR ?_;refine az (λ(a:Nat)s=>(s.sl 1=al k/\s.sl 5=al ((c.take a).foldl (Xd k) 0:Nat)/\s.sl 9=aE (bl c)/\s.sl 10=al (lh c)/\s.sl 11=al a)/\(a<=lh c)) (λa=>lh c-a) (0) ⟨(jX b),sp⟩ ?_;intro a u ⟨e,r⟩;refine ff e b ?_;refine⟨λh=>?_,λh=>?_⟩;have w:=LA q h;have f:gU .i64 (k:Int) (lg c a 0:Nat)=((k ^^^ (k&&&c.getD a 0):Nat):Int):=fv om om;have p:=Pb (s:=k) (g:=lg c a 0) o;have j:qN ((k ^^^ (k&&&c.getD a 0):Nat):Int)=(aQ (k ^^^ (k&&&c.getD a 0)):Nat):=by rw[nA om];simp
 have d:(c.take (a+1)).foldl (Xd k) 0=Xd k ((c.take a).foldl (Xd k) 0) (lg c a 0):=zb4 (Xd k) 0 h;have t:(c.take a).foldl (Xd k) 0<64:=zsQ (bs:=c.take a) o;have l:EX .i64 (((c.take a).foldl (Xd k) 0:Nat):Int) ((k ^^^ (k&&&c.getD a 0):Nat):Int)=(((c.take a).foldl (Xd k) 0|||(k ^^^ (k&&&c.getD a 0)):Nat):Int):=nQ om om;rw[bX h,f];refine⟨h,h,aa (dy _) ?_⟩;refine nN e b (bX h) f j ?_;refine⟨λm=>?_,λm=>?_⟩;have n:Xd k ((c.take a).foldl (Xd k) 0) (lg c a 0)=(c.take a).foldl (Xd k) 0|||(k ^^^ (k&&&c.getD a 0)):=by unfold Xd;rw[ae (by have:=beq_iff_eq.1 m;omega)]
 exact ah (a+1) ⟨(MT e (ak h i) d n l f),om⟩;have n:Xd k ((c.take a).foldl (Xd k) 0) (lg c a 0)=(c.take a).foldl (Xd k) 0:=by unfold Xd;rw[ac (by have:=beq_eq_false_iff_ne.1 m;omega)]
 exact ah (a+1) ⟨(DM e (ak h i) d n f),om⟩;obtain rfl:a=lh c:=om;unfold PQ;rw[av]
theorem Ih(l:zjY c)(m:k<64):AC prog 248 [aE (bl c),al k] (.im (aU (KA c k))):=by
 refine cA [.tmp 4] func248 λn=>?_;simp[dt,dT,dF,kQ,ga,cC,ap]at n;have d:=ap c;refine aR<|aa (Pf c k l m) ?_;refine aR ?_;refine az (λ(a:Nat)s=>(s.sl 5=al _/\s.sl 11=aE _/\s.sl 12=al _/\s.sl 13=al a)/\(a<=lh c/\∀i,i<a->(PQ c k ^^^ (PQ c k&&&c.getD i 0) != 0)=k0)) (λa=>lh c-a) (0) ⟨(jX d),sp⟩ ?_;intro a q ⟨o,g⟩;obtain⟨r,b⟩:=g;refine ff o d ?_;refine⟨λh=>?_,λh=>?_⟩;have t:=LA l h;have p:=zsQ (bs:=c) m;have j:gU .i64 _ _=((PQ c k ^^^ (PQ c k&&&c.getD a 0):Nat)):=fv om om;rw[bX h,j];refine⟨h,h,λe=>?_,λe=>ah _ ⟨(gE o<|ak h n),⟨om,λi f=>?_⟩⟩⟩;unfold KA;grind;grind;rw[KA,aY];intro x j;obtain⟨i,f,rfl⟩:=eX 0 j;grind
theorem zjZ:∀f,f<64->∀i,i<6->(((f&&&2^i:Nat):Int)==0)=!(Nat.testBit f i):=dc
theorem QE(P:zjY c)(N:k<64):AC prog 339 [aE (bl c),al k] (.im (al (xb c k 6:Nat))):=by
 refine cA [.tmp 4] func339 λG=>?_;simp only[dt,dT,dF,kQ,ga,cC,ap]at G;have H:=ap c;simp only[↓gp,gq,simprocAttr,gT];refine az (λ(i:Nat)s=>s.sl 0=aE (bl c)/\s.sl 1=al k/\s.sl 5=al (xb c k i:Nat)/\s.sl 6=al i/\(i<=6)) (λi=>6-i) (0) (by refine⟨?_,?_,?_,?_,om⟩<;>(first|(simp only[gr,simprocAttr,xb];first|done|rfl|(simp;done))|assumption|rfl)) ?_;intro i X ⟨a,d,f,j,Q⟩;by_cases I:i<6;have B:D0.u64.wrap (i:Int)=(i:Int):=dm om;have C:jl .i64 1 (i:Int)=((2^i:Nat):Int):=eh om;have R:(2:Nat)^i<=2^5:=aV om om;have J:fu .i64 (k:Int) ((2^i:Nat):Int)=((k&&&2^i:Nat):Int):=ej om om;have D:(((k&&&2^i:Nat):Int)==0)=!(k.testBit i):=zjZ k N i I;have o:xb c k (i+1)=if k.testBit i&&c.any (λg=>g&&&(k-2^i)==k-2^i)then xb c k i|||2^i else xb c k i:=rfl
 simp only[↓gp,gq,simprocAttr,gT,a,d,f,j,B,C,J,D];refine⟨λ_=>⟨λu=>?_,λu=>?_⟩,λh=>absurd (show(i:Int)<6 by omega) h⟩;have u:k.testBit i=false:=ss u;rw[u,ce,ac dc]at o;exact ah (i+1) (by refine⟨?_,?_,?_,?_,om⟩<;>(first|(simp only[gr,simprocAttr,a,d,f,j,ak I om,o];first|done|rfl|(simp;done))|assumption|rfl)) (by first|omega|(simp only;omega)|(dsimp only;omega)|(show _<_;simp;omega));have u:k.testBit i=true:=ss u;rw[u,au]at o;have K:2^i<=k:=nf u;have S:k-2^i<=k:=mE _ _;have E:D0.i64.wrap ((k:Int)-((2^i:Nat):Int))=((k-2^i:Nat):Int):=by rw[<- Int.ofNat_sub K];exact aF om om
 generalize U:(λg=>g&&&(k-2^i)==k-2^i)=q at *;refine az (λ(b:Nat)s=>s.sl 0=aE (bl c)/\s.sl 1=al k/\s.sl 5=al (if(c.take b).any q=k0 then xb c k i|||2^i else xb c k i:Nat)/\s.sl 6=al i/\s.sl 7=al (2^i:Nat)/\s.sl 8=al b/\(b<=lh c)) (λb=>lh c-b) (0) (by refine⟨?_,?_,?_,?_,?_,?_,om⟩<;>(first|(simp only[gr,simprocAttr,a,d,f,j,C,B,pu,jF];first|done|rfl|(simp;done))|assumption|rfl)) ?_;intro b Y ⟨p,r,l,t,y,z,V⟩;simp only[↓gp,gq,simprocAttr,gT,p,r,l,t,y,z,H,E];refine⟨λw=>?_,λw=>?_⟩;have Z:=LA P w;have W:fu .i64 ((lg c b 0:Nat):Int) ((k-2^i:Nat):Int)=((lg c b 0&&&(k-2^i):Nat):Int):=ej om om;rw[bX w,W];have x:(c.take (b+1)).any q=((c.take b).any q||q (lg c b 0)):=by rw[bj 0 w,lK];simp
 have F:q (lg c b 0)=(lg c b 0&&&(k-2^i)==k-2^i):=by rw[<- U]
 have m:(((lg c b 0&&&(k-2^i):Nat):Int)==((k-2^i:Nat):Int))=(lg c b 0&&&(k-2^i)==k-2^i):=by rw[aZ,aK,aK];omega
 refine⟨w,w,λA=>?_,λA=>?_⟩;have A:q (lg c b 0)=true:=by rw[F,<- m];exact A
 have L:xb c k i<64:=zsR N;have O:xb c k i|||2^i<64:=cu (n:=6) L om
 have M:EX .i64 ((if(c.take b).any q=k0 then xb c k i|||2^i else xb c k i:Nat):Int) ((2^i:Nat):Int)=((xb c k i|||2^i:Nat):Int):=by rw[nQ (by split<;>omega) om];split;rw[xt,Nat.or_self];rfl
 exact ah (b+1) (by refine⟨?_,?_,?_,?_,?_,?_,om⟩<;>(first|(simp only[gr,simprocAttr,p,r,l,t,y,z,ak w G,x,A,M,Gt,eW];first|done|rfl|(simp;done))|assumption|rfl)) (by first|omega|(simp only;omega)|(dsimp only;omega)|(show _<_;simp;omega));have A:q (lg c b 0)=false:=by rw[F,<- m];exact A
 exact ah (b+1) (by refine⟨?_,?_,?_,?_,?_,?_,om⟩<;>(first|(simp only[gr,simprocAttr,p,r,l,t,y,z,ak w G,x,A,fT];first|done|rfl|(simp;done))|assumption|rfl)) (by first|omega|(simp only;omega)|(dsimp only;omega)|(show _<_;simp;omega));have e:b=lh c:=om;rw[e,av,<- o]at l;exact ah (i+1) (by refine⟨?_,?_,?_,?_,om⟩<;>(first|(simp only[gr,simprocAttr,a,d,f,j,p,r,l,t,ak I om];first|done|rfl|(simp;done))|assumption|rfl)) (by first|omega|(simp only;omega)|(dsimp only;omega)|(show _<_;simp;omega));have e:i=6:=om;subst e;simp (maxSteps:=9^7) -dsimp only[↓gp,gq,reduceCtorEq,lj,lm,lp,ll,lu,lr,lw,lz,lA,lB,lC,lk,gT,a,d,f,j];exact λh=>absurd h dc
theorem Pg(g:zjY c)(j:k<64):AC prog 304 [aE (bl c),al k] (.im (aU (KA c k))):=by
 refine cA [.tmp 4] func304 λn=>?_;simp only[dt,dT,dF,kQ,ga,cC,ap]at n;have d:=ap c;rw[zt8 j g];refine cZ d ?_;refine⟨λh=>?_,λh=>?_⟩;have:c=[]:=aL (by have:=beq_iff_eq.1 h;omega);subst this;rfl;refine aa (QE c k g j) ?_;refine aR ?_;have p:xb c k 6<64:=zsR j;refine az (λ(a:Nat)s=>(s.sl 0=aE (bl c)/\s.sl 1=al k/\s.sl 5=al (xb c k 6:Nat)/\s.sl 6=al a)/\(a<=lh c/\∀i,i<a->((lg c i 0&&&k)&&&xb c k 6 != xb c k 6)=k0)) (λa=>lh c-a) (0) ⟨nm,sp⟩ ?_;intro a q ⟨o,l⟩;obtain⟨r,b⟩:=l;refine ff o d ?_;refine⟨λh=>?_,λh=>?_⟩;have t:=LA g h;have u:lg c a 0&&&k<=k:=wq;have m:fu .i64 (fu .i64 ((lg c a 0:Nat):Int) (k:Int)) ((xb c k 6:Nat):Int)=(((lg c a 0&&&k)&&&xb c k 6:Nat):Int):=by rw[ej om om,ej om om]
 rw[bX h,m];refine⟨h,h,λe=>?_,λe=>ah (a+1) ⟨(gE o (ak h n)),⟨om,λi f=>?_⟩⟩⟩;unfold zjQ;grind;grind;unfold zjQ;rw[aY];intro x m;obtain⟨i,f,rfl⟩:=eX 0 m;exact b i om
def KD(l:N0)(x:Int):Bool:=KA (l.map Int.toNat) x.toNat
theorem UX(l:Uk h):bl (h.map Int.toNat)=h:=by
 rw[bl,fj];have:∀x∈h,((λs:Nat=>(s:Int))∘Int.toNat) x=id x:=λx a=>by have:=l x a;grind
 rw[cO this,JT]
theorem Ph(l:Uk h):zjY (h.map Int.toNat):=λg a=>by obtain⟨x,b,rfl⟩:=List.mem_map.1 a;have:=l x b;omega
theorem zom(h:l.Perm d):KD l y=KD d y:=zjR _<|h.map _
theorem zeB(a:Uk l)(b:0<=x/\x<64):AC prog 248 [aE l,al x] (.im (aU (KD l x))):=by have:=Ih _ x.toNat (Ph a) om;rwa[UX a,show(x.toNat:Int)=x by omega]at this
theorem zeC(a:Uk l)(b:0<=x/\x<64):AC prog 304 [aE l,al x] (.im (aU (KD l x))):=by have:=Pg _ x.toNat (Ph a) om;rwa[UX a,show(x.toNat:Int)=x by omega]at this
theorem Pd(I:Uk l)(J:lh l<=1000):∀(n:Nat)(head:N0),Uk head->lh head+n=lh l ->
 AF prog 265 [.sl l0 1 (iL l)] (iL head) 3 (iL ((ix KD l n head).getD [])) (ix KD l n head).isSome:=by
 intro n
 induction n with
 | zero =>
   intro head B K
   unfold AF
   refine xag [.tmp 4,.tmp 5] func265 λL C z i m=>?_
   have u:z.sl 0=aE l:=by rw[i];rfl
   have w:z.sl 1=.own 1000000 1:=by rw[i];rfl
   have o:z.rw 1000000=⟨1,.sli 3 1 l0<|iL head⟩:=by rw[m,uD]
   clear i m
   refine iD u w o ?_
   refine⟨λ_=>⟨1000000,1,.inl rfl,rfl,by simp only[gr,simprocAttr,o];rfl⟩,λh=>?_⟩
   rw[bc]at h
   exact absurd om h
 | succ n M =>
   intro head B K
   unfold AF
   refine xag [.tmp 4,.tmp 5] func265 λL C z i m=>?_
   have u:z.sl 0=aE l:=by rw[i];rfl
   have w:z.sl 1=.own 1000000 1:=by rw[i];rfl
   have o:z.rw 1000000=⟨1,.sli 3 1 l0<|iL head⟩:=by rw[m,uD]
   clear i m
   refine iD u w o ?_
   have D:((lh head:Int)==(lh l:Int))=false:=by rw[bc];omega
   refine⟨λh=>absurd (D.symm.trans h) dc,λ_=>?_⟩
   have p:ix KD l (n+1) head=l.findSome? (λg=>if decide (g∈head)||!KD head g then o0 else ix KD l n (head++[g])):=rfl
   rw[p]
   generalize N:(λg=>if decide (g∈head)||!KD head g then o0 else ix KD l n (head++[g]))=f at *
   refine az (λ(k:Nat)s=>(s.sl 0=aE l/\s.sl 1=.own 1000000 1/\s.rw 1000000=⟨1,.sli 3 1 l0<|iL head⟩/\s.sl 6=al k)/\(k<=lh l/\(l.take k).findSome? f=o0)) (λk=>lh l-k) (0) ⟨(fB u w o),⟨aB _,rfl⟩⟩ ?_
   intro k Q ⟨j,E⟩
   have⟨R,c⟩:=E
   refine cZ j ?_
   refine⟨λh=>?_,λh=>?_⟩
   have q:=I _<|aP 0 h;refine⟨h,h,aa (mO head _) ?_⟩;refine cZ j ?_;have a:f (lg l k 0)=if decide (lg l k 0∈head)||!KD head (lg l k 0)then o0 else ix KD l n (head++[lg l k 0]):=by rw[<- N]
   have d:f (lg l k 0)=o0->(l.take<|k+1).findSome? f=none:=λe=>by rw[uf f 0 h,c,e];rfl
   refine⟨λF=>⟨h,h,aa (zeC head _ B q) ?_⟩,λF=>?_⟩
   refine cZ j ?_;refine⟨λr=>?_,λr=>?_⟩
   have e:f (lg l k 0)=none:=by rw[a,ae<|by rw[show KD head (lg l k 0)=l0 by simpa using r];simp]
   exact ah (k+1) ⟨(gE j<|ak h om),⟨om,d e⟩⟩
   have r:KD head (lg l k 0)=true:=ss r
   have e:f (lg l k 0)=ix KD l n (head++[lg l k 0]):=by rw[a,ac<|by rw[r];simpa using F]
   have t:=M (head++[lg l k 0]) (λb G=>by
    rcases List.mem_append.1 G with H|H;exact B b H;rw[List.mem_singleton.1 H];exact q)<|by simp;omega
   rw[<- e]at t;refine⟨kr,om,h,h,om,Zn t (λ_ _ _ _=>.one (.sl _ _ _) .nil) rfl (by simp only[gr,simprocAttr];rw[show iL (head++[lg l k 0])=iL head++iL [lg l k 0] from by simp[iL]]) (dJ _) dc dc ?_⟩;refine cZ j ?_;refine⟨kr,λy=>?_,λy=>?_⟩
   have⟨x,A⟩:=Option.isSome_iff_exists.1 y;rw[FU f 0 h c A];rw[A];exact⟨47,_,.inr dc,rfl,gl⟩
   have O:f (lg l k 0)=none:=by
    cases A:f (lg l k 0)with
    | none=>rfl
    | some x=>rw[A]at y;cases y
   exact ah (k+1) ⟨(gE j<|ak h om),⟨om,d O⟩⟩
   have e:f (lg l k 0)=none:=by rw[a,ae<|ss<|Or.inl F]
   exact ah (k+1) ⟨(gE j<|ak h om),⟨om,d e⟩⟩
   have e:k=lh l:=om;rw[e,av]at c;rw[c];exact⟨52,_,.inr dc,rfl,by simp only[gr,simprocAttr];rfl⟩
noncomputable def xd(n:Int)(a:N0):Option N0:=if aS n a=k0/\a.length<=8 then ix KD (zF a) (zF a).length []else o0
theorem rj:AC prog 200 [.ag [al x,aE d]] (.tup [.fr 3 1 (iL ((xd x d).getD [])),.im (aU (xd x d).isSome)]):=by
 refine cA [.tmp 2,.tmp 3] func200 λA=>?_;refine aR<|aa (bw x d) ?_;refine aR ?_;unfold xd;refine⟨λc=>?_,λc=>?_⟩;have c:aS x d=true:=ss c;refine⟨λp=>?_,λp=>?_⟩;rw[ac om];exact⟨rfl,rfl⟩;rw[ae ⟨c,om⟩];refine az (λ((m,v):Nat×Nat) s=>(s.sl 1=.ref 1 1 0/\s.rw 1=⟨1,.box 31 [al x,aE d]⟩/\s.sl 4=.own 18 v/\s.rw 18=⟨v,.sli 3 1 l0<|iL<|bl<|(lc m).filter<|hU d⟩/\s.sl 5=al m)/\(m<=64)) (λ(m,v)=>64-m) ((0,1)) ⟨nm,sp⟩ ?_;intro(m,v) B ⟨a,t⟩;have u:lh ((lc m).filter<|hU d)<=64:=by grind
 refine cZ a ?_;refine⟨λh=>aa (mO d _) ?_,λh=>?_⟩;refine cZ a ?_;have e:(m:Int)∈d->bl ((lc<|m+1).filter<|hU d)=bl ((lc m).filter<|hU d)++[(m:Int)]:=λh=>by rw[bW,aW,cI];simp[hU,h,bl]
 have i:¬(m:Int)∈d->bl ((lc<|m+1).filter<|hU d)=bl ((lc m).filter<|hU d):=λh=>by rw[bW,aW,cI];simp[hU,h,bl]
 refine⟨λj=>⟨by rw[ap];omega,ah ((m+1,v+1)) ⟨(fB a (ak (show m<64 by omega) om)<|e j),om⟩⟩,λj=>ah ((m+1,v)) ⟨(fB a (ak (show m<64 by omega) om)<|i j),om⟩⟩;have k:m=64:=om;subst k;have w:=Pd (zF d) (zud d) (by have:=zhY d;omega) (zF d).length [] (λb n=>by cases n) sp;refine zg4 w (λ_ _=>.one (.lent dc<|by simp only[gr,simprocAttr,a];rfl) .nil) rfl (rfl) (dJ _) dc λS C r y f g z l=>?_;rcases y with rfl|rfl
 exact DL f g;exact DL f g;rw[ac<|λh=>by rw[h.1]at c;cases c];exact⟨rfl,rfl⟩
theorem zri:xd x d=if aS x d=k0 then Ig KD d else none:=by unfold xd Ig;by_cases b:aS x d=k0;have a:=cY.1 b;rw[<- (zol (FA a)<|zog a),If];grind;grind
theorem rl:AC prog 150 [.ag [al x,aE d]] (.tup [.fr 3 1 (iL ((xd x d).getD [])),.im (aU (xd x d).isSome)]):=by refine cA [.tmp 2,.tmp 3] func150 λb=>?_;rw[zri];refine aR<|aa (aH x d) ?_;refine aR ?_;refine⟨λa=>?_,λa=>?_⟩;rw[ac<|by grind];decide;have a:=ss a;have c:=cY.1 a;rw[ae a];refine aa (Xg 248 KD zeB zom d (FA c)<|zog c)<|ef
theorem zhX:lh ((xd x d).getD [])<=64:=by
 unfold xd;split;cases b:ix KD _ _ []with
 | none=>simp
 | some l =>have:=zjW _ _ _ b;have:=zhY d;grind
 simp
theorem OT(a:aS (s:Int) h=k0){m:Nat}(b:m<64):ao (bl (dI (hU (qU h m)) k0))=dL (ao h) m:=by funext t;rw[<- zhS a b t,ci,OV a b,au]
theorem Bt(t:Nat)(b:n<18446744073709551616)(a:k<64):AC prog 281 [al k,.eref l0 [dv n] 0,.eref l0 [al t] 0] (.im (aU (Sp n.testBit t k))):=by refine cA [.tmp 4] func281 λc=>?_;refine aR ?_;unfold Sp;refine⟨kr,aa (ez n _ b a) ?_⟩;refine aR ?_;refine⟨λh=>aa (dy _) ?_,λh=>?_⟩;rw[jb a,h];exact ef;rw[h];rfl
theorem FR:AC prog 226 [dv (bA b 64:Nat),al k] (.im (dv (bA (Sp b k) 64:Nat))):=by refine cA [.tmp 4] func226 λc=>?_;have a:=dj b 64;refine aR (aa (gF 6 om _ [.eref l0 [dv (bA b 64:Nat)] 0,.eref l0 [al k] 0] (Sp (bA b 64).testBit k) (λrw=>rfl) λt f=>Bt _ t k om om) ?_);rw[oq (w':=Sp b k) om λt f=>by rw[ay (show t<2^6 by omega),au];unfold Sp;rw[ek b om]];exact ef
theorem Dk:AC prog 204 [.ag [al x,aE d]] (.im (aU (xd x d).isSome)):=by refine cA [.tmp 2] func204 λb=>?_;refine aR<|aa (rj x d) ?_;exact ef
theorem znV(n:aS e h=k0)(b:¬mr e h=k0):(cv (ao h):Int)-2=gD e h:=by
 have a:=AR n b;subst a;have c:gD e []=-2:=ac b;have d:cv (ao [])=0:=dc
 omega
theorem mQ:AC prog 143 [.ag [al x,aE d]] (.im (al (gD x d))):=by
 refine cA [.tmp 2] func143 λf=>?_;refine aR<|aa (aH x d) ?_;refine aR ?_;refine⟨λb=>?_,λb=>?_⟩;have e:gD x d=-2:=ac λh=>by have:=(fR.1 h).1;grind
 rw[e];have b:=ss b;refine aa (cj x d<|dM b)<|aR<|aa (pa<|ao d) ?_;have g:=eD<|ao d;have a:D0.i64.wrap ((cv (ao d))-1-1)=gD x d:=by rw[aF om om];by_cases c:mr x d=k0;have:=Dn c;omega;have:=znV b c;omega
 exact mg a
theorem jc(u:k<9223372036854775808):AC prog 71 [.ag [al x,aE d],al k] (.fr 3 1 (iL (bl (cd (ci x d) k 64)))):=by
 refine cA [.tmp 4] func71 λC=>?_;refine aR (aa (aH x d) ?_);refine aR ?_;refine⟨λc=>?_,λc=>?_⟩;have e:cd (ci x d) k 64=[]:=by refine List.filter_eq_nil_iff.2 λs r a=>?_;rw[aj]at a;have:=a.1;unfold ci at this;grind
 rw[e];rfl;have c:=ss c;have w:ci x d=ao d:=funext λs=>by unfold ci;rw[c,au]
 rw[w];refine aa (cj x d (dM c))<|aR ?_;have n:AC prog 170 [dv (bA (ao d) 64:Nat)] (.tb 29 3 ((ms (ao d)).map iL)):=by unfold ms;rw[fj];exact sw (ao d)
 have m:=nx (ao d);have D:=eD (ao d);refine HI n (λi E=>gl) λS f b g o=>?_;have p:=f;have y:S.sl 1=al k:=by rw[g 1 dc];simp only[gr,simprocAttr]
 have z:S.sl 4=.own 4 1:=by rw[g 4 dc];simp only[gr,simprocAttr]
 have A:S.rw 4=⟨1,.sli 3 1 l0 []⟩:=by rw[o 4 dc];simp only[gr,simprocAttr]
 rw[m]at p;have j:=p.top;refine XO b y z A j @uw @bP @bp ?_;refine⟨λ_=>⟨λh=>?_,λh=>⟨om,om,?_⟩⟩,λh=>absurd h om⟩;have e:cd (ao d) k 64=[]:=by unfold cd;refine List.filter_eq_nil_iff.2 λs r a=>?_;rw[aj,aK]at a;have:aQ s<cv (ao d):=rz 64 s (List.mem_range.1 r) a.1;omega
 rw[e];rfl;have B:lg (lc (cv (ao d))) k 0=k:=by simp[lg,show k<cv (ao d)by omega]
 have t:=p.is.row k (by rw[bp];omega);rw[B]at t ⊢;have l:∀k,k<7->dq 11 k<lent:=dc;rw[t,ko,kO _ om,Cs _ _ _ _ _ _ (l k om)];exact⟨rfl,sp⟩
noncomputable def Sh(n:Int)(a:N0):N0:=if aS n a=k0 then bl (cd (ao a) 2 64)else []
noncomputable def goN(n:Int)(a:N0):Int:=if aS n a=k0 then n else 0
theorem OS:AC prog 329 [.ag [al x,aE d]] (.tup [.ag [.im (al (goN x d)),.fr 3 1 (iL (Sh x d))],.im (aU (aS x d))]):=by
 refine cA [.cell 2 186,.tmp 3] func329 λg=>?_;refine aR (aa (aH x d) ?_);refine aR ?_;have c:AC prog 71 [.ag [al x,aE d],al 2] (.fr 3 1 (iL (bl (cd (ci x d) 2 64)))):=jc x d 2 dc;refine⟨λb=>?_,λb=>⟨kr,aa c ?_⟩⟩;unfold goN Sh;rw[show aS x d=l0 by simpa using b];exact⟨rfl,rfl,rfl⟩;have b:aS x d=true:=ss b;have a:goN x d=x:=ae b;have e:ci x d=ao d:=funext λs=>by unfold ci;rw[b,au]
 have f:Sh x d=bl (cd (ao d) 2 64):=ae b;rw[a,b,f,e];refine aR ?_;kernel_rfl
def mxP(l:O0):Int:=l.foldl (λm s=>if m<(aQ s:Int)then(aQ s:Int)else m) (-1)
theorem zbU:mxP (c++[k])=if mxP c<(aQ k:Int)then(aQ k:Int)else mxP c:=by rw[mxP,jJ];rfl
theorem zbV:∀(L:O0),L.Pairwise rx->∀k,k<=lh L->mxP (L.take k)=if k=0 then -1 else(aQ (lg L (k-1) 0):Int)
 | L,h,0,_=>rfl
 | L,h,k+1,i=>by
   have c:=zbV L h k om;have d:(if k+1=0 then(-1:Int)else(aQ (lg L (k+1-1) 0)))=(aQ (lg L k 0)):=sp
   rw[bj 0 om,zbU,c,d];by_cases b:k=0;grind;have e:=List.pairwise_iff_getElem.1 h (k-1) k om om om;have f:lg L (k-1) 0=L[k-1]:=by grind
   have g:lg L k 0=L[k]:=by grind
   rw[f,g];unfold rx at e;omega
theorem zqY:mxP (mw x d)=gmO x d:=by have h:=zbV (mw x d) ((wK _).filter _) _<|ab _;simp_all[gmO]
theorem wT:AC prog 253 [.ag [al x,aE d]] (.im (al (gmO x d))):=by refine cA [.tmp 2] func253 λo=>?_;refine aR<|aa (sJ x d) ?_;rw[<- zqY];have g:=λi=>zhN (n:=x) (xs:=d) (i:=i);have j:=sI x d;generalize mw x d=L at *;refine cZ @ap ?_;refine az (λ(k:Nat)s=>(s.sl 3=al (mxP<|L.take k)/\s.sl 7=.own 7 1/\s.rw 7=⟨1,.sli 3 1 l0<|iL<|bl L⟩/\s.sl 8=al (lh L)/\s.sl 9=al k)/\(k<=lh L)) (λk=>lh L-k) (0) ⟨nm,aB _⟩ ?_;intro k p ⟨b,l⟩;refine ff b @ap ?_;refine⟨λa=>?_,λa=>?_⟩;have m:=g k a;have e:=zbU (L.take k)<|lg L k 0;rw[<- bj 0 a]at e;have f:qN ((lg L k 0:Nat):Int)=(aQ (lg L k 0):Int):=jb m;rw[bX a];refine⟨a,a,aa (dy _) ?_⟩;refine iD b @ap f ?_;refine⟨λc=>aa (dy _) ?_,λc=>?_⟩;rw[ae c]at e;refine ff b f ?_;exact ah (k+1) ⟨(fB b e<|ak a om),om⟩;rw[ac c]at e;exact ah (k+1) ⟨(fB b e<|ak a om),om⟩;have:k=lh L:=om;rw[this,av]
theorem Di:AC prog 155 [.ag [al x,aE d]] (.im (aU (xd x d).isSome)):=by refine cA [.tmp 2] func155 λb=>?_;refine aR<|aa (rl x d) ?_;exact ef
theorem Qx:AC prog 158 [.ag [al x,aE d]] (.im (aU (WW x d))):=by refine cA [.tmp 2] func158 λb=>?_;refine aR<|aa (aH x d) ?_;refine aR ?_;unfold WW;refine⟨λh=>aa (wT x d) ?_,λh=>?_⟩;rw[h];exact ef;grind
end Go.Proofs.YtigjebcjfbhnjaaGreatDoor
