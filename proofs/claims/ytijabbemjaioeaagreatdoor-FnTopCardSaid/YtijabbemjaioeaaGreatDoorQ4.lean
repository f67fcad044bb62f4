/- DERIVED by an AI agent. -/
import Derived.Test.YtijabbemjaioeaaGreatDoorQ3
set_option linter.all false
namespace Go.Proofs.YtijabbemjaioeaaGreatDoor
open Bool renaming true→k0,false→l0
open Option renaming some→n0,none→o0
open Go renaming IntKind→D0,FuncId→F0
open List renaming range→lc,replicate→ld,getD→lg,length→lh
open Nat renaming reduceEqDiff→lj,reduceMod→lk,reduceAdd→ll,reduceLT→lm,reduceLeDiff→lp,reduceSub→lr,reduceMul→lu,reduceBEq→lw
open Int renaming reduceToNat→lz,reduceLE→lA,reduceLT→lB,reduceNeg→lC
open Go.Proofs.Tryz
open Go.Abs
variable (a:F0)(l:N0)(n:Nat)(k:Nat)(b:V0)(x:Int)(c:O0)(d:N0)(y:Int)(s:Nat){e:N0}{u:List Bool}{j:Nat}{g:Int}{h:F0}{C:N0->Int->Bool}{t:TypeId}{i:M0}{o:Nat->Option Nat}{K:St->Prop}{r:S0}{J:RV->Prop}{w:O0}{z:St}{A:PV}
def rE(b:Int)(l:O0):Int:=l.foldl (λ(b:Int)(x:Nat)=>min b (x:Int)) b
theorem zjF:rE x (c++[s])=min (rE x c) (s:Int):=by simp[rE]
theorem zq2{b:Int}(a:-1<=b/\b<=100):∀l:O0,-1<=rE b l/\rE b l<=100:=λl=>by
 induction l generalizing b with
 | nil=>exact a
 | cons x l c=>exact c (b:=min b x) ⟨om,om⟩
theorem zq3{b:Int}:∀l:O0,rE b l<=b/\∀x∈l,rE b l<=(x:Int):=λl=>by
 induction l generalizing b with
 | nil=>exact⟨oE _,λx a=>by grind⟩
 | cons y l c =>
   have e:rE b (y::l)=rE _ l:=rfl;grind
theorem zn0{b:Int}:∀l:O0,rE b l=b\/∃x∈l,rE b l=(x:Int):=λl=>by
 induction l generalizing b with
 | nil=>exact .inl rfl
 | cons y l a =>
   have e:rE b (y::l)=rE _ l:=rfl;grind
def WY(f:V0)(p:Int):Int:=rE ((cv f:Int)-1) (Cc f p)
theorem zB(Q:lM x=k0):AC prog 152 [dv (bA b 64:Nat),al x] (.im (al (WY b x))):=by
 refine cA [.tmp 4] func152 λhl=>?_;refine aR<|aa (pa b) ?_;refine aR ?_;have R:=dj b 64;have z:co (bA b 64).testBit=co b:=mo λs c=>ek _ c;have A:=lP _ om;rw[z]at A;refine aa A ?_;have S:=ordN_len b;have E:=λk (B:k<lh (co b))=>cR.1<|aP 0 B;have C:WY b x=rE _ (gL b x _):=rfl;have F:∀i,gL b x (i+1)=gL b x i++jW _ _ _:=λi=>rfl;generalize hL:co b=L at *;have U:=ap L;have V:=eD b;have G:al ((cv b:Int)-1)=al _:=rfl;refine cZ @ap ?_;refine az (λ(i:Nat)s=>(s.sl 0=dv _/\s.sl 1=al x/\s.sl 5=al (rE _<|gL b x i)/\s.sl 13=.own 13 1/\s.rw 13=⟨1,.sli 3 1 l0<|iL<|bl L⟩/\s.sl 14=al (lh L)/\s.sl 15=al i)/\(i<=lh L)) (λi=>lh L-i) (0) ⟨(jX G),aB _⟩ ?_;intro i P ⟨y,W⟩;refine ff y @ap ?_;refine⟨λo=>?_,λo=>?_⟩;have o:i<lh L:=om;have r:=(E i o).1;have D:=bX o;have H:=F i;have X:=eD<|dL b<|lg L i 0;have Y:=df (dL b<|lg L i 0) x;generalize Z:lg L i 0=a at *;have a0:=jA r;have I:=jb r;refine iD y @ap D ?_;refine⟨o,o,aa (jR _ a r) ?_⟩;refine iD y @ap D<|aa (sv _ x Q) ?_;generalize ed (dL b a) x=c at *;refine iD y @ap D ?_;have J:gL b x i=gL b x i++jW c (aQ a) 0:=(bh _).symm;refine az (λ(k:Nat)s=>(s.sl 0=dv _/\s.sl 1=al x/\s.sl 5=al (rE _<|gL b x i++jW c (aQ a) k)/\s.sl 7=al a/\s.sl 13=.own 13 1/\s.rw 13=⟨1,.sli 3 1 l0<|iL<|bl L⟩/\s.sl 14=al (lh L)/\s.sl 15=al i/\s.sl 23=.own 23 _/\s.rw 23=⟨(P.rw 23).ver+1,.sli 3 1 l0<|iL c⟩/\s.sl 24=al (lh c)/\s.sl 25=al k)/\(k<=lh c)) (λk=>lh c-k) (0) ⟨(gE y J.symm),aB _⟩ ?_;intro k sb ⟨⟨t,u,q,w,d,e,g,h,j,l,m,n⟩,a1⟩;simp only[↓gp,gq,simprocAttr,gT,t,u,q,w,d,e,g,h,j,l,m,n,ap,D];have K:=OU c (aQ a) k;have p:rE ((cv b:Int)-1) (gL b x i++jW c (aQ a) (k+1))=if(lg c k 0 != 0)=k0 then min (rE ((cv b:Int)-1)<|gL b x i++jW c (aQ a) k) ((aQ a+k:Nat):Int)else rE ((cv b:Int)-1) (gL b x i++jW c (aQ a) k):=by rw[K];split;rw[<- cP,zjF];rfl
 refine⟨λB=>⟨B,B,λM=>aa (dy _) ?_,λM=>?_⟩,λB=>?_⟩;have hw:D0.i64.wrap ((aQ a:Int)+(k:Int))=((aQ a+k:Nat):Int):=by rw[aF om om];omega
 rw[ae M]at p;simp only[↓gp,gq,simprocAttr,gT,t,u,q,w,d,e,g,h,j,l,m,n,ap,D,I,hw];have em:(if((aQ a+k:Nat):Int)<rE ((cv b:Int)-1) (gL b x i++jW c (aQ a) k)then((aQ a+k:Nat):Int)else rE ((cv b:Int)-1) (gL b x i++jW c (aQ a) k))=min (rE ((cv b:Int)-1)<|gL b x i++jW c (aQ a) k) ((aQ a+k:Nat):Int):=om
 rw[<- em]at p;exact ah (k+1) ⟨(by and_intros<;>(first|(simp only[gr,simprocAttr,t,u,q,w,d,e,g,h,j,l,m,n,p,ak (show k<8 by omega) om])|assumption|rfl)),om⟩;rw[ac<|by rw[M];decide]at p;exact ah (k+1) ⟨(by and_intros<;>(first|(simp only[gr,simprocAttr,t,u,q,w,d,e,g,h,j,l,m,n,p,ak (show k<8 by omega) om])|assumption|rfl)),om⟩;have N:k=lh c:=om;subst N;rw[<- H]at q;exact ah (i+1) ⟨(by and_intros<;>(first|(simp only[gr,simprocAttr,y,t,u,q,w,d,e,g,h,j,l,m,n,ak o om])|assumption|rfl)),om⟩;grind
theorem zjG:(∀x∈n::c,c.foldl min n<=x)/\c.foldl min n∈n::c:=by
 induction c generalizing n with
 | nil=>simp
 | cons y c d =>
   have⟨l,f⟩:=d (min n y);have e:(y::c).foldl min n=c.foldl min _:=rfl;refine⟨λx b=>?_,?_⟩;have g:=l (min n y) sp;rcases List.mem_cons.1 b with rfl|b
   omega;rcases List.mem_cons.1 b with rfl|b;omega;grind;grind
section
variable {f:V0}{m q:Nat}[NeZero q]
theorem zbW(o:lM (q:Int)=k0)(r:CN f)(s:m<=6)(u:∀t,t<64->f t=k0->t<2^m){x:Nat}:x∈Cc f q↔∃F k,F<2^m/\f F=k0/\¬Ac q (dL f F) k/\aQ F+k=x:=by
 have g:=dx s;have l:∀F k,lg (ed _ q) k 0≠0↔¬Ac q _ k:=λF k=>by rw[zq9,Ne,(Xa o (OW r F) k).2]
 rw[Cc,Ic];constructor;rintro⟨t,i,h⟩;obtain⟨j,a,b,rfl⟩:=Ib.1 h;obtain⟨w,n⟩:=cR.1 (aP 0 i);grind;rintro⟨F,k,a,b,c,rfl⟩;obtain⟨t,i,e⟩:=eX 0 (cR.2 ⟨cp a g,b⟩);refine⟨t,i,?_⟩;rw[e];refine Ib.2 ⟨k,mX λd=>c<|ztz<|by grind,(l _ _).2 c,rfl⟩
theorem zq4(w:lM (q:Int)=k0)(r:CN f)(E:f 0=k0)(y:m<=6)(z:∀t,t<64->f t=k0->t<2^m):∃d:Nat,zsN q f m d/\wX (Cc f q)=d/\WY f q=d/\(d:Int)<=(cv f:Int)-1:=by
 have G:=dx y;have A:0<cv f:=by have:=rz 64 0 dc E;unfold cv;omega
 have⟨T,c,i,o⟩:=AH (f:=f) 64 A;have o:aQ T+1=cv f:=o;have p:∀s,s<64->f s=k0->aQ s<=aQ T:=λs n u=>by have:=rz 64 s n u;have K:cv f=oY f 64:=rfl;omega
 have h:aQ T∈Cc f q:=(zbW w r y z).2 ⟨T,0,z T c i,i,zjJ w r c i<|zq8 c p,rfl⟩;cases B:Cc f q with
 | nil=>rw[B]at h;simp at h
 | cons a l =>
   have⟨n,u⟩:=zjG a l;have j:=λx=>zbW (x:=x) w r y z;rw[B]at h j;refine⟨l.foldl min a,⟨?_,zbX r λF H C k L=>?_⟩,rfl,?_,?_⟩;exact(j _).1 u;refine aC λD=>?_;have:=n _<|(j _).2 ⟨F,k,H,C,D,rfl⟩;omega;unfold WY;rw[B];have e:(cv f:Int)-1=((aQ T:Nat):Int):=om;rw[e];have⟨M,I⟩:=zq3 (b:=((aQ T:Nat):Int))<|a::l;have N:=I _ u;rcases zn0 (b:=((aQ T:Nat):Int)) (a::l)with g|⟨x,J,g⟩
   have:=n _ h;omega;have:=n x J;omega;have:=n _ h;omega
end
theorem vN(a:n<=57)(e:k<=n):AC prog 233 [al n,al k] (.im (al (rg n k:Nat))):=by refine cA [.tmp 4] func233 λf=>?_;have c:decide ((k:Int)<0)=false:=aD om;refine cZ c ?_;refine⟨λh=>om,λ_=>?_⟩;refine az (λi s=>(s.sl 0=al n/\s.sl 1=al k/\s.sl 5=al (rg n i)/\s.sl 6=al i)/\(i<=k)) (λi=>k-i) 0 ⟨(jX @oV),om⟩ ?_;intro i g ⟨b,d⟩;refine cZ b ?_;refine⟨λh=>?_,λh=>?_⟩;rw[ak h om];refine⟨om,?_⟩;exact ah _ ⟨(DM b (ak h om) (zmr (i:=i) a om) (zms (i:=i) a om)<|zmt (i:=i) a),om⟩;grind
def gh(n k:Int):Int:=if 0<=n/\0<=k/\k<=n then(rg n.toNat k.toNat:Nat)else 0
theorem Cd(a:x<=57):AC prog 254 [al x,al y] (.im (al (gh x y))):=by
 refine cA [.tmp 4] func254 λg=>?_;refine aR<|aa (fe _ _ _) ?_;refine aR ?_;refine⟨λh=>aa (fe _ _ _) ?_,λh=>?_⟩;refine aR ?_;refine⟨λb=>?_,λb=>?_⟩;unfold gh;grind;have d:0<=x:=by grind
 have e:=by simp at b;omega
 obtain⟨x,rfl⟩:=ca d;obtain⟨y,rfl⟩:=ca e.1;have a:x<=57:=om;refine az (λi s=>(s.sl 0=al x/\s.sl 1=al y/\s.sl 5=al (rg x i)/\s.sl 6=al i)/\(i<=y)) (λi=>y-i) 0 ⟨(jX @oV),om⟩ ?_;intro i l ⟨c,f⟩;refine cZ c ?_;refine⟨λh=>?_,λh=>?_⟩;rw[ak h om];refine⟨om,?_⟩;exact ah _ ⟨(DM c (ak h om) (zmr (i:=i) a om) (zms (i:=i) a om)<|zmt (i:=i) a),om⟩;have:i=y:=om;simp_all[gh];unfold gh;grind
theorem Ce(f:x<=57):AC prog 153 [al x,al y] (.im (al (gh x y))):=by
 refine cA [.tmp 4] func153 λg=>?_;refine aR ?_;refine⟨λa=>⟨λ_=>⟨λb=>⟨λc=>by rw[gh,ac om],λc=>?_⟩,λb=>by rw[gh,ac om]⟩,λh=>om⟩,λa=>by rw[gh,ac om]⟩;obtain⟨x,rfl⟩:=ca (show 0<=x by omega);obtain⟨y,rfl⟩:=ca (show 0<=y by omega);have d:D0.i64.wrap (x-y)=(x-y:Nat):=by rw[aF om om];omega
 have e:gh x y=(rg x y):=by simp_all[gh]
 rw[d,e];refine⟨λ_=>aa (vN x _ om om) ?_,λ_=>aa (vN x y om om) ?_⟩;refine aR ?_;rw[zp7 x y om];exact ef
noncomputable def OZ(a:N0)(q:Nat):Int:=((cd (ao a) q 64).length:Int)
theorem UT:0<=OZ l n/\OZ l n<=64:=by have:=fc (ao l) n<|ab 64;unfold OZ;omega
theorem wY(b:Bool):AC prog 269 [aU b] (.im (al (if b=k0 then 1 else 0))):=by refine cA [.tmp 2] func269 λa=>?_;refine aR ?_;simp
theorem zrc(h:lM g=k0):∃q:Nat,g=q/\q≠0:=by
 unfold lM at h;simp[cw]at h;rcases h with(rfl|rfl)|rfl
 exact⟨2,rfl,dc⟩;exact⟨3,rfl,dc⟩;exact⟨5,rfl,dc⟩
theorem FT(h:mr g e=k0):∃m:Nat,g=m/\1<=m/\m<=6/\CN (ao e)/\ao e 0=k0/\∀s,s<64->ao e s=k0->s<2^m:=by
 obtain⟨c,b⟩:=fR.1 h;obtain⟨r,u,d⟩:=cY.1 c;obtain⟨m,rfl⟩:∃m:Nat,g=m:=⟨g.toNat,om⟩;refine⟨m,rfl,om,om,λs t f a=>pZ f a,?_,λs f j=>?_⟩;cases e with
 | nil=>grind
 | cons x l=>exact eT.2 ⟨x,sp,sp⟩
 obtain⟨x,k,n⟩:=eT.1 j;obtain⟨i,o,rfl⟩:=eX 0 k;obtain⟨p,t,w,q,y,d⟩:=AK (d i o).1;have:m=p:=om;subst this;rw[q,ar]at n;have:=bI (n:=t) (m:=s);omega
def zq0(f:V0)(p:Int):Bool:=decide (bA f 64≠0)&&decide (WY f p=(cv f:Int)-1)
theorem Dl(a:lM x=k0):AC prog 228 [dv (bA b 64:Nat),al x] (.im (aU (zq0 b x))):=by
 refine cA [.tmp 4] func228 λp=>?_;refine aR ?_;unfold zq0;refine⟨λh=>aa (zB b x a) ?_,λh=>?_⟩;refine aR<|aa (pa b) ?_;refine aR ?_;grind;grind
theorem zA:AC prog 72 [.ag [al x,aE d],al y] (.im (al (if mr x d=k0/\lM y=k0 then WY (ao d) y else -1))):=by refine cA [.tmp 4] func72 λg=>?_;refine aR<|aa (aH x d) ?_;refine aR ?_;refine⟨λe=>⟨λc=>aa (gB y) ?_,λc=>?_⟩,λe=>?_⟩;have p:=ss e;refine aR ?_;refine⟨λb=>?_,λb=>?_⟩;grind;have b:=ss b;refine aa (cj x d<|dM p)<|aR<|aa (zB _ y b) ?_;rw[ae ⟨fR.2 ⟨p,by grind⟩,b⟩];exact ef;rw[ac<|λh=>by have:=(fR.1 h.1).2;grind];rw[ac<|λh=>by have:=(fR.1 h.1).1;grind]
noncomputable def cmO(n:Int)(a:N0)(p:Int):Bool:=aS n a&&(lM p&&zq0 (ao a) p)
theorem wV:AC prog 140 [.ag [al x,aE d],al y] (.im (aU (cmO x d y))):=by refine cA [.tmp 4] func140 λp=>?_;refine aR<|aa (aH x d) ?_;refine aR ?_;unfold cmO;refine⟨λb=>aa (gB y) ?_,λb=>?_⟩;refine aR ?_;rw[b];refine⟨λc=>?_,λc=>?_⟩;refine aa (cj x d<|dM b)<|aR<|aa (Dl _ y c) ?_;rw[c];exact ef;grind;grind
theorem zq1:-2<=gD x d/\gD x d<=100000000:=by unfold gD;split;rename_i h;have⟨b,c⟩:=fR.1 h;have:=dM b _ (aP 0 (show (lh d)-1<lh d by omega));have:=jA (s:=(lg d (lh d-1) 0).toNat) om;omega;omega
theorem znY(h:aS g e=k0):∀x∈e,aQ x.toNat<=aQ (lg e (lh e-1) 0).toNat:=λx l=>by
 obtain⟨_,_,m⟩:=cY.1 h;have b:=dM h;have d:∀j,j<lh e->∀i,i<=j->aQ (lg e i 0).toNat<=aQ (lg e j 0).toNat:=by
  intro j;induction j with
  | zero=>simp
  | succ j o =>
    intro a i f;have c:=(m _ a).2.1 om;have p:=b _ (aP 0 a);unfold rQ at c;rw[nA p,nA (b _ (aP 0 (by omega)))]at c;grind
 obtain⟨i,f,rfl⟩:=eX 0 l;exact d _ om i om
theorem Dn(h:mr g e=k0):gD g e+1=(cv (ao e):Int)-1:=by have⟨d,l⟩:=fR.1 h;have i:=dM d;have n:gD g e=(aQ _)-1:=ae h;have m:=aP 0 (show (lh e)-1<lh e by omega);have j:=i _ m;have r:=rz 64 _ om (eT.2 ⟨_,m,dp _⟩);have q:cv (ao e)=oY _ 64:=rfl;have⟨T,a,b,c⟩:=AH (f:=ao e) 64 om;have⟨x,o,k⟩:=eT.1 b;have u:=znY d x o;have w:=zn4 (by have:=i x o;omega) k;omega
theorem AR(h:aS g e=k0)(c:¬mr g e=k0):e=[]:=by
 cases e with
 | nil=>rfl
 | cons a l=>exact absurd (fR.2 ⟨h,sp⟩) c
theorem Ly{p:Int}(h:mr g e=k0)(f:lM p=k0):∃(m q d:Nat)(_:NeZero q),g=m/\p=q/\1<=m/\m<=6/\zsN q (ao e) m d/\nE g e p=d/\WY (ao e) p=d/\(d:Int)<=(cv (ao e):Int)-1:=by obtain⟨m,rfl,j,i,k,l,o⟩:=FT h;obtain⟨q,rfl,r⟩:=zrc f;haveI:NeZero q:=⟨r⟩;obtain⟨d,a,b,c,n⟩:=zq4 f k l i o;exact⟨m,q,d,inferInstance,rfl,rfl,j,i,a,by rwa[nE,ae ⟨(fR.1 h).1,f⟩],c,n⟩
theorem znZ(h:ao e 0=k0):bA (ao e) 64≠0:=λa=>by have:=ek (ao e) (s:=0) dc;grind
theorem zvQ:(decide (0<=nE x d y)&&decide (nE x d y=gD x d+1))=cmO x d y:=by
 unfold cmO;by_cases b:lM y=k0;by_cases h:mr x d=k0;obtain⟨m,q,p,_,rfl,rfl,j,k,l,e,f,o⟩:=Ly h b;rw[zq0,(fR.1 h).1,b,e,f,Dn h,ay<|znZ ((FT h).choose_spec.2.2.2.2.1)];rfl;cases c:aS x d with
 | false =>
   have:nE x d y=-1:=ac λh=>by grind
   grind
 | true =>
   have i:=AR c h;subst i;have e:nE x [] y=-1:=by rw[nE,ae ⟨c,b⟩];rfl
   rw[e,b];rfl
 have:nE x d y=-1:=ac λh=>b h.2;grind
theorem wW:AC prog 263 [.ag [al x,aE d],al y] (.im (aU (cmO x d y))):=by refine cA [.tmp 4] func263 λc=>?_;refine aR<|aa (sK x d y) ?_;refine aR ?_;rw[<- zvQ];have p:=zq1 x d;have b:D0.i64.wrap _=gD x d+1:=aF om om;refine⟨λh=>aa (gZ x d) ?_,λh=>?_⟩;refine cZ b ?_;grind;grind
theorem zjE:D0.i64.wrap (D0.i64.wrap x+y)=D0.i64.wrap (x+y):=by simp[D0.wrap,D0.bits,D0.signed];omega
theorem zt4:fu .i64 (n:Int) 1=((n%2:Nat):Int):=by
 have e:fu _ n 1=D0.i64.wrap (((BitVec.ofInt 64 n&&&BitVec.ofInt 64 1).toNat)):=rfl;have a:BitVec.ofInt 64 n=BitVec.ofNat 64 n:=sp;have b:BitVec.ofInt 64 1=BitVec.ofNat 64 1:=dc;have c:(BitVec.ofNat 64 n&&&BitVec.ofNat 64 1).toNat=n%2:=sp
 rw[e,a,b,c,aF om om]
def Zt(s:Int):Int:=D0.i64.wrap ((aQ s.toNat:Nat):Int)
theorem AQ(h:0<=g/\g<64):Zt g=(aQ g.toNat:Nat):=have:=jA (s:=g.toNat) om;aF om om
theorem zx:AC prog 37 [al x] (.im (al (Zt x))):=by
 refine cA [.tmp 2] func37 λl=>?_;refine aR ?_;by_cases f:0<=x;obtain⟨n,rfl⟩:=ca f;have g:al 0=al _:=rfl;refine az (λ(m,a)s=>(s.sl 0=al m/\s.sl 3=al (D0.i64.wrap a))/\(a+aQ m=aQ n)) (λ(m,a)=>m) ((n,0)) ⟨(jX g),sp⟩ ?_;intro(m,a) i ⟨c,b⟩;refine ox c @zt4 @za4 @zjE ?_;refine⟨λd=>?_,λd=>?_⟩;rw[Fe om]at b;have k:D0.i64.wrap (a+m%2)=D0.i64.wrap ((a+m%2)):=sp
 exact ah ((m/2,a+m%2)) ⟨(gE c k),by grind⟩;simp_all[kq,Zt];refine az (λt s=>(s.sl 0=al x/\s.sl 3=al 0)/\True) (λt=>0) (()) ⟨nm,trivial⟩ ?_;intro t i ⟨c,b⟩;refine cZ c ?_;refine⟨λd=>absurd d om,λd=>?_⟩;have:x.toNat=0:=om;rw[Zt,this,kq];rfl
noncomputable def zy(n:Int)(a:N0):Bool:=aS n a&&a.all λx=>decide (aQ x.toNat=aQ (lg a 0 0).toNat)
theorem zsM(c:j<lh e)(h:Zt (lg e j 0)≠Zt (lg e 0 0)):zy g e=false:=by
 unfold zy;cases d:aS g e with
 | false=>rfl
 | true =>have b:=dM d;rw[AQ<|b _<|aP 0 c,AQ<|b _<|aP 0<|om]at h;grind
theorem znX(c:aS g e=k0)(h:∀k,k<lh e->Zt (lg e k 0)=Zt (lg e 0 0)):zy g e=true:=by unfold zy;have b:=dM c;rw[c,au,aY];intro x a;obtain⟨k,d,rfl⟩:=eX 0 a;have:=h k d;rw[AQ<|b _<|aP 0 d,AQ<|b _<|aP 0<|om]at this;grind
theorem nC:AC prog 239 [.ag [al x,aE d]] (.im (aU (zy x d))):=by
 refine cA [.tmp 2] func239 λg=>?_;simp[dt,dT,gb,jt,hZ]at g;refine aR ?_;refine az (λk s=>(s.sl 1=.ref 1 1 0/\s.rw 1=⟨1,.box 26 _⟩/\s.sl 3=al (k+1:Nat))/\((k+1<=d.length\/k=0)/\∀j,j<k+1->Zt (lg d j 0)=Zt (lg d 0 0))) (λk=>lh d-k) 0 ⟨nm,⟨.inr rfl,λj i=>by grind⟩⟩ ?_;intro k m ⟨c,f⟩;have⟨o,b⟩:=f;refine cZ c ?_;refine⟨λh=>⟨kr,h,h,aa (zx _) ?_⟩,λh=>aa (bw x d) ?_⟩;refine cZ c ?_;refine⟨om,om,aa (zx _) ?_⟩;refine cZ c ?_;refine⟨λa=>?_,λa=>?_⟩;rw[zsM h<|ss a];exact ah _ ⟨(gE c<|ak h g),⟨.inl om,λj i=>by
  grind⟩⟩
 refine cZ c ?_;cases l:aS x d with
 | false=>simp[zy,l]
 | true=>rw[znX l λj i=>b j om]
theorem nD:AC prog 137 [.ag [al x,aE d]] (.im (aU (zy x d))):=by
 refine cA [.tmp 2] func137 λl=>?_;simp[dt,dT,gb,jt,hZ]at l;refine aR (aa (aH x d) ?_);refine aR ?_;refine⟨λb=>?_,λb=>?_⟩;simp_all[zy];have b:=ss b;have a:=dM b;refine az (λ(k:Nat)s=>(s.sl 1=.ref 1 1 0/\s.rw 1=⟨1,.box 26 _⟩/\s.sl 9=aE d/\s.sl 10=al _/\s.sl 11=al k)/\(k<=lh d/\∀j,j<k->Zt (lg d j 0)=Zt (lg d 0 0))) (λk=>lh d-k) 0 ⟨nm,⟨aB _,λj m=>om⟩⟩ ?_;intro k q ⟨g,i⟩;have⟨r,c⟩:=i;refine cZ g ?_;refine⟨λh=>⟨h,h,kr,aa (dy _) ?_⟩,λh=>?_⟩;have o:=a _ (aP 0 h);have p:=a _ (aP 0 (show 0<lh d by omega));refine cZ g ?_;refine⟨om,om,aa (dy _) ?_⟩;rw[nA o,nA p,<- AQ o,<- AQ p];refine cZ g ?_;refine⟨λf=>?_,λf=>?_⟩;rw[zsM h (ss f)];exact ah _ ⟨(gE g (ak h l)),⟨om,λj m=>by
  grind⟩⟩
 rw[znX b λj m=>c j om]
theorem Cf:AC prog 83 [aE l,aE d] (.im (aU (decide (l=d)))):=by
 refine cA [.tmp 4] func83 λf=>?_;simp[dt,ga]at f;simp[↓gp,gq,gT];refine⟨λh=>?_,λh=>?_⟩;grind;refine az (λ(i:Nat)s=>s.sl 0=aE l/\s.sl 1=aE d/\s.sl 5=al i/\i<=lh l/\l.take i=d.take i) (λi=>lh l-i) 0 ⟨rfl,rfl,rfl,sp,sp⟩ ?_;intro i m ⟨g,j,k,n,a⟩;simp only[↓gp,gq,simprocAttr,gT,g,j,k];refine⟨λh=>⟨kr,h,h,om,om,λc=>?_,λc=>?_⟩,λh=>?_⟩;grind;refine ah _ ⟨by simp[gr,simprocAttr,g],by simp[gr,j],by simp only[gr,simprocAttr];rw[ak h f.1],h,?_⟩ om;rw[bj 0 h,bj 0<|om];grind;grind
theorem uf{a b:Type}(f:a->Option b){l:List a}(d:a)(h:j<lh l):(l.take (j+1)).findSome? f=((l.take j).findSome? f).or (f (lg l j d)):=by simp[bj d h]
theorem FU{a b:Type}(f:a->Option b){l:List a}(d:a)(h:j<lh l)(c:(l.take j).findSome? f=o0){x:b}(e:f (lg l j d)=n0 x):l.findSome? f=n0 x:=by rw[<- lV _ l,yk,uf f d h,c,e];rfl
noncomputable def zro(a:N0):O0:=(lc 64).filter (hU a)
noncomputable def zF(a:N0):N0:=bl (zro a)
theorem zud:Uk (zF l):=λb a=>by obtain⟨s,d,rfl⟩:=List.mem_map.1 a;have:=List.mem_range.1 (List.mem_filter.1 d).1;omega
theorem zhY:lh (zF l)<=64:=by rw[zF,zro,ap];grind
theorem zol(j:e.Nodup)(g:Uk e):vS e=zF e:=by
 symm;have f:(zF e).Pairwise (·<·):=by refine List.Pairwise.map _ (λa b h=>?_)<|List.Pairwise.filter _ gA;omega
 refine zb3 ?_<|f.imp λh=>Int.le_of_lt h;exact(dn (f.imp λh=>Int.ne_of_lt h) j).2<|λx=>by rw[zF,zro,bl,dX];refine⟨λ⟨s,k,c⟩=>?_,λh=>⟨x.toNat,List.mem_filter.2 ⟨List.mem_range.2<|by have:=g x h;omega,?_⟩,by have:=g x h;omega⟩⟩;simp_all[hU];unfold hU;have:=g x h;grind
theorem zez:AC prog 365 [al x,al y] (.im (aU (decide (x<y)))):=by refine cA [.tmp 4] func365 λa=>?_;refine aR<|aa (yq x) ?_;exact ef
theorem Xi(b:n<9):∃k:Int,AC prog 353 [dv n] (.im (al k)):=by refine⟨if n=0 then 0 else if n<2 then 1 else if n<4 then 2 else if n<8 then 3 else 4,?_⟩;refine cA [.tmp 2] func353 λc=>?_;refine aR ?_;refine⟨λh=>absurd h om,λ_=>⟨λh=>absurd h om,λ_=>⟨λh=>absurd h om,λ_=>?_⟩⟩⟩;have a:n=0\/n=1\/n=2\/n=3\/n=4\/n=5\/n=6\/n=7\/n=8:=om;rcases a with rfl|rfl|rfl|rfl|rfl|rfl|rfl|rfl|rfl<;>exact⟨dc,by decide +kernel,dc⟩
theorem zeA(a:n<9):∃k:Int,AC prog 315 [.v (.int .u64 n)] (.im (al k)):=by have⟨k,b⟩:=Xi n a;refine⟨k,cA [.tmp 2] func315 λc=>?_⟩;refine aR<|aa b ?_;exact ef
theorem KC(L:lh l<=1000):AM prog 359 [.own 1000000 1,al 0,al (lh l)] [⟨3,1,iL l⟩] [iL (vS l)] (.tuple #[]):=by
 refine AM.go (rs:=[]) tk mixed func359 rfl rfl rfl kr (ic (dJ _) mi) (ia (dJ _) mh) rfl λM=>?_;refine aR ?_;refine az (λ((i,c):Nat×N0) s=>s.sl 0=.own 1000000 1/\s.rw 1000000=⟨1,.sli 3 1 l0<|iL c⟩/\s.sl 1=al 0/\s.sl 2=al (lh l)/\s.sl 6=al i/\1<=i/\c.Perm l/\zhW c i/\(i<=l.length\/l.length=0)) (λ(i,_)=>lh l-i) (1,l) ⟨gl,gl,gl,gl,rfl,om,List.Perm.refl _,λa b t u=>om,om⟩ ?_;intro(i,c) N ⟨E,F,t,u,G,O,w,H,x⟩;have I:=w.length_eq;refine nN E F t u G ?_;refine⟨λy=>?_,λy=>?_⟩;rotate_left
 ·have e:=by
   refine zjT w λa b J P=>?_;rcases x with x|x
   ·exact H a b J om
   omega
  grind
 ·refine az (λ(j,m)s=>s.sl 0=.own 1000000 1/\s.rw 1000000=⟨1,.sli 3 1 l0<|iL m⟩/\s.sl 1=al 0/\s.sl 2=al (lh l)/\s.sl 6=al i/\s.sl 7=al j/\j<=i/\m.Perm l/\Pc m i j) (λ(j,_)=>j) (i,c) ⟨by simp[gr,E],by simp[gr,F],by simp[gr,t],by simp[gr,u],by simp[gr,G],gl,ab _,w,zeq H⟩ ?_;intro(j,m) Q ⟨k,n,o,p,r,z,A,d,f⟩;have K:=d.length_eq;have g:j<lh m:=om;by_cases q:0<j
  ·have B:D0.i64.wrap (j-1)=(j-1:Nat):=by rw[aF om om];omega
   refine xA k n o p r z B ?_;refine⟨kr,λ_=>⟨g,g,om,om,aa (zez _ _) ?_⟩,λh=>?_⟩
   ·refine xA k n o p r z B ?_;refine⟨λC=>⟨kr,om,om,om,om,om,om,om,om,kr,?_⟩,λD=>?_⟩
    ·exact ah (j-1,swj m j) ⟨by simp[gr,k],rfl,by simp[gr,o],by simp[gr,p],by simp[gr,r],rfl,om,(zod q g).trans d,zb2 f q A om C⟩<|om
    ·exact ah (i+1,m) ⟨by simp[gr,k],by simp[gr,n],by simp[gr,o],by simp[gr,p],by rw[aF om om];rfl,om,d,JE f A<|.inr<|Int.not_lt.1 D,om⟩<|om
   grind
  ·refine Cn k n o p r z ?_;refine⟨kr,λh=>absurd h om,λh=>?_⟩;exact ah (i+1,m) ⟨by simp[gr,k],by simp[gr,n],by simp[gr,o],by simp[gr,p],by rw[aF om om];rfl,om,d,JE f A<|.inl om,om⟩<|om
theorem zjX(g:lh l<=12)(k:Int):AM prog 331 [.own 1000000 1,al 0,al (lh l),al k] [⟨3,1,iL l⟩] [iL (vS l)] (.tuple #[]):=by
 refine AM.go (rs:=[]) tk mixed func331 rfl rfl rfl kr (ic (dJ _) mi) (ia (dJ _) mh) rfl λi=>?_;refine aR ?_;refine az (λ_ s=>s.sl 0=.own 1000000 1/\s.rw 1000000=⟨1,.sli 3 1 l0<|iL l⟩/\s.sl 1=al 0/\s.sl 2=al (lh l)) (λ_=>0) () ⟨gl,gl,gl,gl⟩ ?_;intro _ j ⟨c,b,d,e⟩;have f:D0.i64.wrap ((lh l)-0)=(lh l):=by rw[aF om om];rfl
 refine nN c b d e f ?_;refine⟨λh=>?_,λh=>absurd om h⟩;refine oJ (KC l om) [(1000000,1)] (by repeat (first|exact GiveL.nil|refine GiveL.v ?_|refine GiveL.clo ?_|refine GiveL.own 0 rfl ?_|refine GiveL.own 1 rfl ?_|refine GiveL.ag ?_ ?_)) ⟨by simp[gr,b],trivial⟩ dc<|mg b
theorem QD(d:lh l<=8):AM prog 293 [.own 1000000 1] [⟨3,1,iL l⟩] [iL (vS l)] (.tuple #[]):=by refine AM.go (rs:=[]) tk mixed func293 rfl rfl rfl kr (ic (dJ _) mi) (ia (dJ _) mh) rfl λe=>?_;have⟨k,c⟩:=zeA (lh l) om;have b:D0.u64.wrap _=(lh l):=dm om;refine cZ b<|aa c ?_;refine cZ b ?_;refine oJ (zjX l om k) [(1000000,1)] (by repeat (first|exact GiveL.nil|refine GiveL.v ?_|refine GiveL.clo ?_|refine GiveL.own 0 rfl ?_|refine GiveL.own 1 rfl ?_|refine GiveL.ag ?_ ?_)) ⟨gl,trivial⟩ dc<|ef
def oC(items:N0)(f:F0)(fl:List Bool)(p:PV):M0:=.sl l0 1 (iL items)::.clo f []::(bL fl++[p])
section
variable {items:N0}{f:F0}{fl:List Bool}{p:PV}{Kp:PV->Prop}
theorem Pe(h:lh fl=256):lh (oC items f fl p)=259:=by simp[oC,bL,h]
theorem Dp(a:(T t).k.agg=l0)(b:0<(T t).size):qt T t .asis (oC items f fl p) 0 Kp=Kp (.sl l0 1 (iL items)):=by simp[qt,a,b,oC,Md.fix]
theorem Dq(a:(T t).k.agg=l0)(b:0<(T t).size):qt T t .asis (oC items f fl p) 1 Kp=Kp (.clo f []):=by simp[qt,a,b,oC,Md.fix]
theorem zua(h:lh fl=256)(a:n<256)(b:(T t).k.agg=l0)(c:0<(T t).size):qt T t .asis (oC items f fl p) (2+n) Kp=Kp (.v (.bool (lg fl n l0))):=by
 have e:lg (oC items f fl p) (2+n) .junk=.v (.bool<|lg fl n l0):=by
  have d:n<(bL fl).length:=by simp[bL,h,a]
  simp only[oC,lg,show 2+n=n+1+1 by omega,ge];rw[eE d];simp[bL,h,a]
 have g:=Pe (items:=items) (f:=f) (p:=p) h;simp only[qt,b,c,g,cC];rw[e];simp[Md.fix];omega
theorem Dr(h:lh fl=256)(a:(T t).k.agg=l0)(b:0<(T t).size):qt T t .asis (oC items f fl p) 258 Kp=Kp p:=by
 have e:lg (oC items f fl p) 258 .junk=p:=by
  have c:lh (bL fl)=256:=by simp[bL,h]
  simp_all[oC]
 simp only[qt,a,b,Pe h];rw[e];simp[Md.fix]
theorem Xh(h:lh fl=256)(q:PV):nt (oC items f fl p) 258 [q]=oC items f fl q:=by
 have a:lh (bL fl)=256:=by simp[bL,h]
 show(oC _ f fl p).set 258 q=_;simp_all[oC]
theorem zrm(h:lh fl=256)(a:n<256)(b:Bool):nt (oC items f fl p) (2+n) [.v (.bool b)]=oC items f (fl.set n b) p:=by
 show(oC _ f fl p).set _ _=_;simp[oC,show 2+n=n+1+1 by omega];simp_all[bL]
end
def oR(b:Bool)(items:N0)(f:F0)(fl:List Bool)(a:N0)(k:Nat):Row :=
 if k=1000000 then⟨1,.box 175 (oC items f fl (if b=k0 then .v (.slice o0 0 0)else .own 1000001 1))⟩else if k=1000001/\b=l0 then⟨1,.sli 3 1 l0 (iL a)⟩else⟨0,.dead⟩
def UW(b:N0->Int->Bool)(items:N0)(f:F0)(n:Nat)(a:N0)(c:S0)(p:PV):Prop :=
 ∃fl v,lh fl=256/\zjV b items (λu=>lg fl u l0)/\p=aU (ix b items n a).isSome/\c 1000000=⟨1,.box 175 (oC items f fl (.own 1000001 v))⟩/\c 1000001=⟨v,.sli 3 1 l0 (iL ((ix b items n a).getD a))⟩
theorem AV:(T 150).size=1:=dc
theorem AW:(T 150).k=.other:=rfl
theorem zub:∀u,u<256->∀k,k<8->(fu .i64 (wH .i64 (u:Nat) (k:Nat)) 1==1)=Nat.testBit u k:=by decide +kernel
theorem zuc:∀u,u<256->∀k,k<8->EX .i64 (u:Nat) (jl .i64 1 (k:Nat))=((u|||2^k:Nat):Int):=by decide +kernel
theorem zE{a:N0}(b:Bool)(fl:lh u=256)(i:b=k0->a=[])(c:∀k,z.rw k=oR b e h u a k) :
 ∃d,Wk z d/\d.sl=z.sl/\d.rw 1000000=⟨1,.box 175 (oC e h u (.own 1000001 1))⟩/\d.rw 1000001=⟨1,.sli 3 1 l0 (iL a)⟩/\∀k,k<1000000->d.rw k=⟨0,.dead⟩:=by
 cases b with
 | false=>exact⟨z,Wk.refl z,rfl,by rw[c];rfl,by rw[c];rfl,λk j=>by rw[c];unfold oR;rw[ac om,ac om]⟩
 | true =>
   have l:=i rfl
   subst l
   have m:z.rw 1000000=⟨1,.box 175<|oC e h u<|.v<|.slice o0 0 0⟩:=by rw[c];rfl
   have n:z.rw 1000001=⟨0,.dead⟩:=by rw[c];rfl
   have o:(oC e h u<|.v<|.slice o0 0 0)[258]?=n0 (.v<|.slice o0 0 0):=by
    have p:lh (bL u)=256:=by simp[bL,fl]
    simp only[oC,show 258=256+1+1 by omega,ge];rw[eo om,p];rfl
   have g:=Wk.nilBox 1000001 3 m o dc
   rw[n]at g
   have s:(oC e h u<|.v<|.slice o0 0 0).set 258 (.own 1000001<|0+1)=oC e h u (.own 1000001 1):=Xh fl _
   rw[s]at g
   refine⟨_,g,rfl,by rw[dw],by rw[bZ _ _ _ _ dc,dw];rfl,λk j=>?_⟩
   rw[bZ _ _ _ _ om,bZ _ _ _ _ om,c];unfold oR;rw[ac om,ac om]
theorem zoj{c:l1}{R:S0}{e:M0}(h:GvL o c r R i e):∀fl:List Bool,GvL o c r R (bL fl++i) (bL fl++e):=by
 intro fl;induction fl with
 | nil=>exact h
 | cons b fl f=>exact .one (.v _) f
theorem zok{b:T0}{v:Nat}{c:Bool}(f:o 1000001=n0 j)(g:(r 1000001).ver=v) :
 (oC e h u (.own 1000001 v)).map (ren1 o r b c)=(match c with|true=>oC e h u (.own j (b 1000001))|false=>.junk::(oC e h u (.own j (b 1000001))).tail):=by
 have fl:(bL u).map (ren1 o r b c)=bL u:=by unfold bL;rw[fj];rfl
 have i:ren1 o r b c (.own 1000001 v)=.own j (b 1000001):=by show Hn o r b c (.own 1000001 v)=_;rw[lH,f,g,du]
 unfold oC
 rw[dR,dR,cq,fl,List.map_singleton,i]
 cases c<;>rfl
def zex(k:Nat):Option Nat:=if k=1000000\/k=1000001 then n0 k else o0
theorem qf{k:Nat}(h:zex j=n0 k):j=k/\(j=1000000\/j=1000001):=by unfold zex at h;grind
theorem zvU{a:N0}(k:(oR l0 e h u a j).kind.nd=k0):j=1000000\/j=1000001:=by unfold oR at k;by_cases b:j=1000000;omega;rw[ac b]at k;by_cases c:j=1000001/\l0=l0;grind;rw[ac c]at k;cases k
theorem zrn{f:F0}{c:N0}{n d v:Nat}{us:Dm z}{L:Dm K}(fl:AG prog h [.ref 1000000 1 0,al g] (oR l0 e f u c) (UW C e f n c))(F:z.rw 1000000=⟨1,.box 175 (oC e f u (.own 1000001 v))⟩)(D:z.rw 1000001=⟨v,.sli 3 1 l0 (iL c)⟩)(y:∀(S:St)(l:List Bool)(w:Nat),lh l=256->zjV C e (λg=>lg l g l0)->S.sl d=aU (ix C e n c).isSome->(∀t,t≠d->S.sl t=z.sl t) ->
  S.rw 1000000=⟨1,.box 175 (oC e f l (.own 1000001 w))⟩->S.rw 1000001=⟨w,.sli 3 1 l0 (iL ((ix C e n c).getD c))⟩->(∀items,items≠1000000->items≠1000001->S.rw items=z.rw items)->K S) :
 nn prog h i J (tS prog h i [.ref 1000000 1 0,al g] (n0 d) (kk z us) (kk K L)):=by
 have G:zex 1000000=n0 1000000:=rfl
 have E:zex 1000001=n0 1000001:=rfl
 have m:oR l0 e f u c 1000000=⟨1,.box 175 (oC e f u (.own 1000001 1))⟩:=rfl
 have s:oR l0 e f u c 1000001=⟨1,.sli 3 1 l0 (iL c)⟩:=rfl
 refine KT fl zex (λ_=>False) (.one (.ref G (by rw[m]) (by rw[F]) (by rw[m];rfl)) (.one (.v _) .nil)) ⟨λk y=>?_,λk Q j _ _ o q=>?_,λk j _ _ fl=>fl⟩ λM p N=>?_
 rcases zvU y with rfl|rfl
 refine⟨ab _,by rw[m];exact Nat.one_pos,1000000,G,?_⟩;rw[m,F];exact⟨rfl,.one (.sl _ _ _) (.clo .nil (zoj (.one (.own E (by rw[s]) (by rw[D]) (by rw[s];rfl)) .nil) u))⟩
 refine⟨dc,by rw[s];exact Nat.one_pos,1000001,E,?_⟩;rw[s,D];exact⟨rfl,rfl,rfl,dJ _⟩
 rw[(qf o).1,(qf q).1]
 obtain⟨l,w,H,O,rfl,lent,r⟩:=N;refine⟨zex,λk=>if k=1000001 then(if w=1 then v else v+1)else 1,k0,⟨λ_ _=>rfl,λa b items o q=>?_,λa items o q x=>?_,λa items o q=>?_,λ_ _ fl=>fl⟩,λS A=>?_⟩
 rw[(qf o).1,(qf q).1]
 obtain⟨rfl,rfl|rfl⟩:=qf o
 rw[F];rfl
 rw[r,s]at x;have x:w=1:=x;rw[D];simp[x]
 obtain⟨rfl,rfl|rfl⟩:=qf o
 have:=q (by rw[m];rfl);rw[lent,m]at this;exact absurd rfl this
 have:=q (by rw[s];rfl);rw[r,s]at this;have x:¬w=1:=this;rw[D];simp[x]
 have B:=A.row 1000000 1000000 G;have I:=A.row 1000001 1000001 E;rw[lent]at B;rw[r]at I;have B:S.rw 1000000=⟨1,.box 175 ((oC e f l (.own 1000001 w)).map (ren1 zex M _ k0))⟩:=B;rw[zok E (by rw[r])]at B;refine y S l _ H O ?_ (λt P=>?_) B I λitems o q=>A.off items λk y=>?_
 rw[A.sl,cF];rfl
 rw[A.sl,da _ _ _ _ P]
 obtain⟨rfl,fl|fl⟩:=qf y
 exact o fl
 exact q fl
theorem zey(y:N0->Int->Bool)(hF:∀l x,Uk l->(0<=x/\x<64)->AC prog a [aE l,al x] (.im (aU (y l x))))(hP:∀l l' x,l.Perm l'->y l x=y l' x)(items:N0)(hn:items.Nodup)(b1:Uk items)(h8:lh items<=8) :
 ∀(n:Nat)(b:Bool)(fl:List Bool)(u:Nat)(d:N0),(b=k0->d=[])->lh fl=256->zjV y items (λu=>lg fl u l0)->zD items u d->lh d+n=lh items->Uk d->u<256 ->
  AG prog 294 [.ref 1000000 1 0,al u] (oR b items a fl d) (UW y items a n d):=by
 intro n
 induction n with
 | zero =>
   intro b fl u d M t X Y N O J
   refine AG.goW tk mixed func294 rfl rfl rfl kr λhl b2 z P Z=>?_
   have⟨s,H,B,Q,R,a0⟩:=zE b t M Z
   refine⟨s,H,?_⟩
   have z0:s.sl 0=.ref 1000000 1 0:=by rw[B,P];rfl
   have z1:s.sl 1=al u:=by rw[B,P];rfl
   clear P Z H B z
   simp only[↓gp,gq,simprocAttr,gT,z0,z1,Q,R,Dr t,Dp,Dq]
   have e:((lh d:Int)==(lh items:Int))=true:=by rw[aK];omega
   exact⟨kr,λ_=>⟨fl,1,t,X,rfl,Q,R⟩,λh=>absurd (e.symm.trans h) dc⟩
 | succ n ih =>
   intro b fl u d M t X Y N O J
   refine AG.goW (rs:=[.tmp 4]) tk mixed func294 rfl rfl rfl kr λhl b2 z P Z=>?_
   have⟨s,H,B,Q,R,a0⟩:=zE b t M Z
   refine⟨s,H,?_⟩
   have z0:s.sl 0=.ref 1000000 1 0:=by rw[B,P];rfl
   have z1:s.sl 1=al u:=by rw[B,P];rfl
   clear P Z H B z
   simp -dsimp only[↓gp,gq,reduceCtorEq,lj,lm,lp,ll,lu,lr,lw,lz,lA,lB,lC,lk,gT,z0,z1,Q,R,Dr t,Dp,Dq]
   have e:((lh d:Int)==(lh items:Int))=false:=by rw[bc];omega
   refine⟨kr,λh=>absurd (e.symm.trans h) dc,λ_=>⟨J,?_⟩⟩
   simp only[↓gp,gq,simprocAttr,gT,zua u t J,Dp,Dq,Dr t,z0,z1,Q,R]
   refine⟨λh=>?_,λh=>?_⟩
   unfold UW;rw[X u h (n+1) d Y N];grind
   have G:ix y items (n+1) d=items.findSome? _:=rfl;generalize b3:(λg=>if decide (g∈d)||!y d g then o0 else ix y items n (d++[g]))=F at *;refine az (λ((k,v,g):Nat×Nat×List Bool) s=>s.sl 0=.ref 1000000 1 0/\s.sl 1=al u/\s.sl 27=aE items/\s.sl 28=al (lh items)/\s.sl 29=al k/\s.rw 1000000=⟨1,.box 175 (oC items a g (.own 1000001 v))⟩/\s.rw 1000001=⟨v,.sli 3 1 l0 (iL d)⟩/\(k<=lh items/\g.length=256/\zjV y items (λu=>lg g u l0)/\(items.take k).findSome? F=o0)) (λ(k,v,g)=>lh items-k) ((0,1,fl)) (by refine⟨?_,?_,?_,?_,?_,?_,?_,⟨aB _,t,X,rfl⟩⟩<;>(first|(simp only[gr,simprocAttr,z0,z1,Q,R])|assumption|rfl)) ?_;intro(k,v,g) sa ⟨o,p,i,j,m,f,c,b4⟩;have⟨hk,q,I,r⟩:=b4;by_cases h:k<lh items
   have U:k<8:=om;have a1:D0.u64.wrap (k:Int)=(k:Int):=dm om;have a2:=zub u J k U;have b5:=zuc u J k U;simp only[↓gp,gq,simprocAttr,gT,o,p,i,j,m,f,c,Dp,Dq,Dr q,AV,AW,a1,a2];have a3:=b1 _ (aP 0 h);have V:F (lg items k 0)=if decide (lg items k 0∈d)||!y d (lg items k 0)then o0 else ix y items n (d++[lg items k 0]):=by rw[<- b3]
   have K:=zjU hn Y h;have C:F (lg items k 0)=o0->(items.take (k+1)).findSome? F=none:=λe=>by rw[uf F 0 h,r,e];rfl
   refine⟨λ_=>⟨h,h,kr,λD=>aa (hF d _ O a3) ?_,λD=>?_⟩,λW=>absurd h W⟩
   simp only[↓gp,gq,simprocAttr,gT,o,p,i,j,m,f,c,Dp,Dq,Dr q,Xh q,AV,AW,a1,a2];refine⟨λM=>?_,λM=>?_⟩
   have e0:F (lg items k 0)=none:=by grind
   exact ah ((k+1,v,g)) (by refine⟨?_,?_,?_,?_,?_,?_,?_,⟨om,q,I,C e0⟩⟩<;>(first|(simp only[gr,simprocAttr,o,p,i,j,m,f,c,ak h om])|assumption|rfl)) (om)
   have b6:y d (lg items k 0)=true:=ss M
   have e0:F (lg items k 0)=ix y items n (d++[lg items k 0]):=by grind
   have b7:u|||2^k<256:=by
    exact cu J (bN om U)
   have a4:=ih l0 g (u|||2^k) _ (λh=>by cases h) q I (zeu Y h D) (by simp;omega) (λb b8=>by
    rcases List.mem_append.1 b8 with W|W;exact O b W;grind) b7
   rw[<- b5]at a4;refine⟨om,by rw[Pe q];exact ab _,zrn (v:=v+1) a4 (rfl) (rfl) λS g' v' A L a5 E w0 w1 a6=>?_⟩;rw[<- e0]at a5 w1;have u0:S.sl 0=.ref 1000000 1 0:=by rw[E 0 dc];simp only[gr,simprocAttr,o,p,i,j,m,f,c]
   have u1:S.sl 1=al u:=by rw[E 1 dc];simp only[gr,simprocAttr,o,p,i,j,m,f,c]
   have a7:S.sl 27=aE items:=by rw[E 27 dc];simp only[gr,simprocAttr,o,p,i,j,m,f,c]
   have a8:S.sl 28=al (lh items):=by rw[E 28 dc];simp only[gr,simprocAttr,o,p,i,j,m,f,c]
   have b0:S.sl 29=al k:=by rw[E 29 dc];simp only[gr,simprocAttr,o,p,i,j,m,f,c]
   clear E a6;simp only[↓gp,gq,simprocAttr,gT,a5,u0,u1,a7,a8,b0,w0,w1,Dp,Dq,Dr A,Xh A];refine⟨λhs=>?_,λhs=>?_⟩
   have⟨x,hx⟩:=Option.isSome_iff_exists.1 hs;unfold UW;rw[G,FU F 0 h r hx];grind
   have e1:F (lg items k 0)=none:=by
    simp_all
   have el:lh ((F (lg items k 0)).getD (d++[lg items k 0]))=lh d+1:=by rw[e1];simp
   have ew:D0.i64.wrap (lh ((F (lg items k 0)).getD (d++[lg items k 0]))-1:Int)=(lh d:Int):=by rw[el,aF om om];omega
   have et:((F (lg items k 0)).getD (d++[lg items k 0])).take ((lh d:Nat):Int).toNat=d:=by rw[e1];simp
   rw[ew,el];refine⟨kr,⟨by decide +kernel,kr,by decide +kernel,kr⟩,om,om,by rw[Pe A];exact ab _,kr,?_⟩;exact ah ((k+1,v'+1,g')) (by refine⟨?_,?_,?_,?_,?_,?_,?_,⟨om,A,L,C e1⟩⟩<;>(first|(simp only[gr,simprocAttr,o,p,i,j,m,f,c,u0,u1,a7,a8,b0,et,ak h (show (lh items)<=9223372036854775807 by omega)])|assumption|rfl)) (om)
   have e0:F (lg items k 0)=none:=by grind
   exact ah ((k+1,v,g)) (by refine⟨?_,?_,?_,?_,?_,?_,?_,⟨om,q,I,C e0⟩⟩<;>(first|(simp only[gr,simprocAttr,o,p,i,j,m,f,c,ak h om])|assumption|rfl)) (om)
   have b9:k=lh items:=om;simp -dsimp only[↓gp,gq,reduceCtorEq,lj,lm,lp,ll,lu,lr,lw,lz,lA,lB,lC,lk,gT,o,p,i,j,m,f,c,Dp,Dq,Dr q,zrm u q J];refine⟨λW=>absurd W h,λ_=>⟨J,by rw[Pe q];omega,?_⟩⟩;rw[b9,av]at r;unfold UW;rw[G,r];refine⟨g.set u k0,v,by rw[de];exact q,?_,rfl,gl,by simp only[gr,simprocAttr,o,p,i,j,m,f,c];rfl⟩;have:=zof hP I Y N (by rw[G,r]);intro w H;refine this w ?_;show(if w=u then k0 else g.getD w l0)=k0;by_cases e:w=u
   rw[ae e]
   grind
def oX(a:PV)(f:F0)(b:List Bool)(p:PV):M0:=a::.clo f []::(bL b++[p])
theorem zoh(a:PV)(f:F0):a::.clo f []::List.map PV.v (ld 256 (Value.bool l0)++[Value.slice o0 0 0])=oX a f (ld 256 l0) (.v (.slice o0 0 0)):=by rw[oX,bL,cq,List.map_replicate,List.map_replicate];rfl
theorem Xf{p0 p:PV}{f:F0}(h:lh u=256):lh (oX p0 f u p)=259:=by simp[oX,bL,h]
theorem zt9{p:PV}{c:PV->Prop}(b:lh u=256)(d:(T t).k.agg=l0)(g:0<(T t).size):qt T t .asis (oX A h u p) 258 c=c p:=by
 have e:lg (oX A h u p) 258 .junk=p:=by
  have i:lh (bL u)=256:=by simp[bL,b]
  simp[oX,i]
 simp only[qt,d,g,Xf b];rw[e];simp[Md.fix]
theorem zrj{a:M0}(h:lh a=lh i):nt i 0 a=a:=by simp[zl1,h]
theorem zrk{rw:S0}{p:PV}(e:qz rw A)(g:qz rw p):Go.Abs.allP rw (oX A h u p):=by
 intro q a;rcases List.mem_cons.1 a with rfl|a
 omega;rcases List.mem_cons.1 a with rfl|a;trivial;rcases List.mem_append.1 a with a|a;obtain⟨b,_,rfl⟩:=List.mem_map.1 a;rfl;grind
theorem zoi{a:Nat}{p:PV}(e:lh u=256)(f:lh i=259)(b:qz z.rw A)(k:qz z.rw p)(d:Dm K) :
 K (z.row j ⟨a,.box t (oX A h u p)⟩)->qO z 259 j a 0 ⟨a,.box t i⟩ (.ag (oX A h u p)) (kk K d):=by
 intro l
 rw[uv 258]
 refine⟨Xf e,by simp[Xf e,f],zrk b k,?_⟩
 rwa[zrj<|by rw[Xf e,f]]
theorem zrl{f:F0}{n d l ki vi ei:Nat}{fz:Bool}{us:Dm z}{N:Dm K}(c:AG prog h [.ref 1000000 1 0,al 0] (oR k0 e f u []) (UW C e f n []))(E:z.rw l=⟨1,.box 175 (oX (.own ki vi) f u (.v (.slice o0 0 0)))⟩)(O:z.rw ki=⟨vi,.sli ei 1 fz (iL e)⟩)(P:z.rw d=⟨0,.dead⟩)(Q:ki≠l)(I:d≠l)(q:∀(S:St)(r:List Bool),lh r=256->S.sl d=aU (ix C e n []).isSome->(∀t,t≠d->S.sl t=z.sl t) ->
  S.rw l=⟨1,.box 175 (oX .junk f r (.own d 1))⟩->S.rw d=⟨1,.sli 3 1 l0 (iL ((ix C e n []).getD []))⟩->(∀D,D≠l->D≠d->S.rw D=z.rw D)->K S) :
 nn prog h i J (tS prog h i [.ref l 1 0,al 0] (n0 d) (kk z us) (kk K N)):=by
 have m:oR k0 e f u [] 1000000=⟨1,.box 175 (oC e f u (.v (.slice o0 0 0)))⟩:=rfl
 have F:∀k,k≠1000000->oR k0 e f u [] k=⟨0,.dead⟩:=λk q=>by unfold oR;rw[ac q,ac (λc=>by cases c.2)]
 have o:∀k,(oR k0 e f u [] k).kind.nd=k0->k=1000000:=λk q=>by by_cases c:k=1000000;exact c;rw[F k c]at q;cases q
 have M:(λk:Nat=>if k=1000000 then n0 l else o0) 1000000=n0 l:=ae rfl
 have R:(λk:Nat=>if k=1000000 then n0 l else if k=1000001 then n0 d else o0) 1000000=n0 l:=ae rfl
 have L:(λk:Nat=>if k=1000000 then n0 l else if k=1000001 then n0 d else o0) 1000001=n0 d:=rfl
 have qq:∀{k j:Nat},(λk:Nat=>if k=1000000 then n0 l else if k=1000001 then n0 d else o0) k=n0 j->(k=1000000/\j=l)\/(k=1000001/\j=d):=λ{k j}c=>by grind
 refine KT c (λk=>if k=1000000 then n0 l else o0) (λj=>j=ki) (.one (.ref M (by rw[m]) (by rw[E]) (by rw[m];rfl)) (.one (.v _) .nil)) ⟨λk q=>?_,λk U j a b _ _=>by rw[o k a,o U b],λk j a b g=>?_⟩ λV p W=>?_
 have:=o k q;subst this;refine⟨ab _,by rw[m];exact Nat.one_pos,l,M,?_⟩;rw[m,E];exact⟨rfl,.one (.lent rfl O) (.clo .nil (zoj (.one (.v _) .nil) u))⟩
 have:=o k a;subst this;have b:n0 l=n0 j:=b;cases b;exact Q g.symm
 obtain⟨r,X,G,Z,rfl,x,y⟩:=W;refine⟨λk=>if k=1000000 then n0 l else if k=1000001 then n0 d else o0,λk=>1,l0,⟨λk q=>?_,λa b D lent A=>?_,λa D lent A a3=>?_,λa D lent A=>?_,λc=>by cases c⟩,λS B=>?_⟩
 have:=o k q;subst this;rfl
 rcases qq lent with⟨rfl,w⟩|⟨rfl,w⟩<;>rcases qq A with⟨rfl,H⟩|⟨rfl,H⟩<;>first|rfl|(exact absurd (w.symm.trans H) (Ne.symm I))|(exact absurd (w.symm.trans H) I)
 have:=o a A;subst this;rcases qq lent with⟨_,rfl⟩|⟨c,_⟩
 rw[E]
 exact absurd c dc
 rcases qq lent with⟨rfl,rfl⟩|⟨rfl,rfl⟩
 have:=A (by rw[m];rfl);rw[x,m]at this;exact absurd rfl this
 rw[P];exact Nat.one_pos
 have s:=B.row 1000000 l R;have w:=B.row 1000001 d L;rw[x]at s;rw[y]at w;have s:S.rw l=⟨1,.box 175 ((oC e f r (.own 1000001 X)).map (ren1 (λk:Nat=>if k=1000000 then n0 l else if k=1000001 then n0 d else o0) V _ l0))⟩:=s;rw[zok L (by rw[y])]at s;refine q S r G ?_ (λt Y=>?_) s w λD a b=>B.off D λk q=>?_
 rw[B.sl,cF];rfl
 rw[B.sl,da _ _ _ _ Y]
 rcases qq q with⟨_,rfl⟩|⟨_,rfl⟩
 exact a rfl
 exact b rfl
def Ig(b:N0->Int->Bool)(a:N0):Option N0:=if (lh a)<=8 then ix b (vS a) (lh a) []else o0
theorem Xg(c:N0->Int->Bool)(r:∀l x,Uk l->(0<=x/\x<64)->AC prog a [aE l,al x] (.im (aU (c l x))))(s:∀l p x,l.Perm p->c l x=c p x)(f:N0)(t:f.Nodup)(g:Uk f) :
 AC prog 223 [aE f,.clo a []] (.tup [.fr 3 1 (iL ((Ig c f).getD [])),.im (aU (Ig c f).isSome)]):=by
 refine cA [.tmp 4,.tmp 5] func223 λw=>?_
 simp only[↓gp,gq,simprocAttr,gT]
 refine⟨λh=>?_,λh=>?_⟩
 rw[Ig,ac om];decide
 have i:lh f<=8:=om;unfold Ig;rw[ae i];refine aa (pd f om) ?_;simp[↓gp,gq,simprocAttr];refine oJ (QD f i) [(12,1)] (by repeat (first|exact GiveL.nil|refine GiveL.v ?_|refine GiveL.clo ?_|refine GiveL.own 0 rfl ?_|refine GiveL.own 1 rfl ?_|refine GiveL.ag ?_ ?_)) ⟨rfl,trivial⟩ dc ?_;simp -dsimp only[↓gp,gq,lj,lm,lp,ll,gT,zoh];refine zoi cX (by grind) ?_ (by exact rfl) _ ?_
 simp -dsimp only[gq,lj]
 have y:=zey a c r s _ ((xc f).nodup_iff.2 t) (λb j=>g b<|(xc f).mem_iff.1 j) (by rwa[If]) (lh f) k0 (ld 256 l0) 0 [] (λ_=>rfl) cX (λu e=>by
  grind) (zes _) (by simp[If]) (λb j=>by grind) dc
 simp -dsimp only[↓gp,gq,lj,lm,lp,ll,gT,zoh];refine zrl y (rfl) (rfl) (rfl) dc dc λS z d k m A n q=>?_;have B:S.sl 7=.ref 7 1 0:=by rw[m 7 dc];rfl
 simp[↓gp,gq,simprocAttr,gT,k,B,A,n,zt9 d];generalize ix c _ _ []=o;cases o with
 | none=>decide
 | some l=>simp
theorem zog(h:cxP g e):Uk e:=λb c=>by obtain⟨i,d,rfl⟩:=eX 0 c;exact sj (h.2.2 i d).1
theorem zjW:∀(n:Nat)(head l:N0),ix C e n head=n0 l->lh l=lh head+n:=by
 intro n;induction n with
 | zero=>intro head l h;rw[<- Option.some.inj<|h];rfl
 | succ n d =>intro head l h;have⟨x,_,b⟩:=List.exists_of_findSome?_eq_some h;grind
def zjY(l:O0):Prop:=∀g∈l,g<64
theorem LA(h:zjY w)(a:j<lh w):lg w j 0<64:=h _<|aP 0 a
theorem zb4{b:Type}(f:b->Nat->b)(a:b)(h:j<lh w):(w.take (j+1)).foldl f a=f ((w.take j).foldl f a) (lg w j 0):=by rw[bj 0 h,jJ];rfl
theorem Pf(q:zjY c)(o:s<64):AC prog 295 [aE (bl c),al s] (.im (al (PQ c s:Nat))):=by
 refine cA [.tmp 4] func295 λi=>?_;simp[dt,dT,kQ,ga,ap]at i;have b:=ap c;refine aR ?_;refine az (λk a=>(a.sl 1=al s/\a.sl 5=al ((c.take k).foldl (Xd s) 0:Nat)/\a.sl 9=aE _/\a.sl 10=al _/\a.sl 11=al k)/\(k<=lh c)) (λk=>lh c-k) 0 ⟨(jX b),sp⟩ ?_;intro k u ⟨e,r⟩;refine ff e b ?_;refine⟨λh=>?_,λh=>?_⟩;have w:=LA q h;have f:gU _ s _=((s ^^^ (s&&&c.getD k 0):Nat)):=fv om om;have p:=Pb (g:=lg c k 0) o;have j:qN ((s ^^^ (s&&&c.getD k 0)):Int)=(aQ (s ^^^ (s&&&c.getD k 0))):=by rw[nA om];simp
 have d:=zb4 (Xd s) 0 h;have t:(c.take k).foldl _ 0<64:=zsQ o;have l:EX _ _ _=(((c.take k).foldl (Xd s) 0|||(s ^^^ (s&&&c.getD k 0)):Nat)):=nQ om om;refine⟨h,h,aa (dy _) ?_⟩;refine nN e b (bX h) f j ?_;refine⟨λm=>?_,λm=>?_⟩;have n:Xd s ((c.take k).foldl (Xd s) 0) (lg c k 0)=(c.take k).foldl (Xd s) 0|||(s ^^^ (s&&&c.getD k 0)):=by unfold Xd;grind
 exact ah (k+1) ⟨(xc6 e (ak h i) d n l f),om⟩;have n:Xd s ((c.take k).foldl (Xd s) 0) (lg c k 0)=(c.take k).foldl (Xd s) 0:=by unfold Xd;grind
 exact ah (k+1) ⟨(DM e (ak h i) d n f),om⟩;obtain rfl:k=lh c:=om;rw[PQ,av]
theorem Ih(l:zjY c)(m:s<64):AC prog 224 [aE (bl c),al s] (.im (aU (KA c s))):=by
 refine cA [.tmp 4] func224 λn=>?_;simp[dt,dT,kQ,ga,ap]at n;have d:=ap c;refine aR<|aa (Pf c s l m) ?_;refine aR ?_;refine az (λ(k:Nat)a=>(a.sl 5=al _/\a.sl 11=aE _/\a.sl 12=al _/\a.sl 13=al k)/\(k<=lh c/\∀i,i<k->(PQ c s ^^^ (PQ c s&&&c.getD i 0) != 0)=k0)) (λk=>lh c-k) 0 ⟨(jX d),sp⟩ ?_;intro k q ⟨o,g⟩;refine ff o d ?_;refine⟨λh=>?_,λh=>?_⟩;have t:=LA l h;have p:=zsQ (bs:=c) m;have j:gU _ _ _=((PQ c s ^^^ (PQ c s&&&c.getD k 0))):=fv om om;rw[bX h];refine⟨h,h,λe=>?_,λe=>ah _ ⟨(gE o<|ak h n),⟨om,λi f=>?_⟩⟩⟩;unfold KA;grind;grind;rw[KA,aY];intro x j;obtain⟨i,f,rfl⟩:=eX 0 j;grind
theorem zjZ:∀f,f<64->∀i,i<6->(((f&&&2^i:Nat):Int)==0)=!(Nat.testBit f i):=dc
theorem QE(P:zjY c)(N:s<64):AC prog 373 [aE (bl c),al s] (.im (al (xb c s 6:Nat))):=by
 refine cA [.tmp 4] func373 λG=>?_;simp[dt,dT,kQ,ga,cC,ap]at G;have H:=ap c;simp[↓gp,gq,gT];refine az (λi b=>b.sl 0=aE _/\b.sl 1=al s/\b.sl 5=al (xb c s i)/\b.sl 6=al i/\(i<=6)) (λi=>6-i) (0) (by refine⟨?_,?_,?_,?_,om⟩<;>(rfl)) ?_;intro i X ⟨a,d,f,j,Q⟩;by_cases I:i<6;have B:D0.u64.wrap _=i:=dm om;have C:=eh om;have R:2^i<=2^5:=aV om om;have J:fu .i64 _ _=(s&&&2^i:Nat):=ej om om;have D:=zjZ s N i I;have o:xb c s (i+1)=if s.testBit i&&c.any (λg=>g&&&(s-2^i)==s-2^i)then xb c s i|||2^i else xb c s i:=rfl
 simp only[↓gp,gq,simprocAttr,gT,a,d,f,j,B,C,J,D];refine⟨λ_=>⟨λu=>?_,λu=>?_⟩,λh=>absurd (by omega) h⟩;have u:=ss u;rw[u,ce,ac dc]at o;exact ah (i+1) (by refine⟨?_,?_,?_,?_,om⟩<;>(first|(simp[gr,simprocAttr,a,d,f,j,ak I om,o])|assumption|rfl)) (om);have u:=ss u;rw[u,au]at o;have K:=nf u;have S:s-2^i<=s:=mE _ _;have E:D0.i64.wrap (s-(2^i:Nat))=(s-2^i:Nat):=by rw[<- Int.ofNat_sub K];exact aF om om
 generalize U:(λg=>g&&&(s-2^i)==s-2^i)=q at *;refine az (λk b=>b.sl 0=aE (bl c)/\b.sl 1=al s/\b.sl 5=al (if(c.take k).any q=k0 then xb c s i|||2^i else xb c s i:Nat)/\b.sl 6=al i/\b.sl 7=al (2^i:Nat)/\b.sl 8=al k/\(k<=lh c)) (λk=>lh c-k) (0) (by refine⟨?_,?_,?_,?_,?_,?_,om⟩<;>(first|(simp[gr,simprocAttr,a,d,f,j,C,B,pu,jF])|assumption|rfl)) ?_;intro k Y ⟨p,r,l,t,y,z,V⟩;simp only[↓gp,gq,simprocAttr,gT,p,r,l,t,y,z,H,E];refine⟨λw=>?_,λw=>?_⟩;have Z:=LA P w;rw[bX w,ej om om];have x:(c.take (k+1)).any q=((c.take k).any q||q (lg c k 0)):=by rw[bj 0 w,lK];simp
 have F:q (lg c k 0)=(lg c k 0&&&(s-2^i)==s-2^i):=by rw[<- U]
 have m:(((lg c k 0&&&(s-2^i):Nat):Int)==((s-2^i:Nat):Int))=(lg c k 0&&&(s-2^i)==s-2^i):=by rw[aZ,aK,aK];omega
 refine⟨w,w,λA=>?_,λA=>?_⟩;have A:q (lg c k 0)=true:=by rw[F,<- m];exact A
 have L:xb c s i<64:=zsR N;have O:xb c s i|||2^i<64:=cu (n:=6) L om
 have M:EX .i64 ((if(c.take k).any q=k0 then xb c s i|||2^i else xb c s i:Nat):Int) ((2^i:Nat):Int)=((xb c s i|||2^i:Nat):Int):=by rw[nQ (by split<;>omega) om];split;rw[xt,Nat.or_self];rfl
 exact ah (k+1) (by refine⟨?_,?_,?_,?_,?_,?_,om⟩<;>(first|(simp only[gr,simprocAttr,p,r,l,t,y,z,ak w G,x,A,M,Gt,eW];first|done|rfl|(simp;done))|assumption|rfl)) (by first|omega|(simp only;omega)|(dsimp only;omega)|(show _<_;simp;omega));have A:q (lg c k 0)=false:=by rw[F,<- m];exact A
 exact ah (k+1) (by refine⟨?_,?_,?_,?_,?_,?_,om⟩<;>(first|(simp only[gr,simprocAttr,p,r,l,t,y,z,ak w G,x,A,fT];first|done|rfl|(simp;done))|assumption|rfl)) (by first|omega|(simp only;omega)|(dsimp only;omega)|(show _<_;simp;omega));have e:k=lh c:=om;rw[e,av,<- o]at l;exact ah (i+1) (by refine⟨?_,?_,?_,?_,om⟩<;>(first|(simp only[gr,simprocAttr,a,d,f,j,p,r,l,t,ak I om];first|done|rfl|(simp;done))|assumption|rfl)) (by first|omega|(simp only;omega)|(dsimp only;omega)|(show _<_;simp;omega));have e:i=6:=om;subst e;simp (maxSteps:=9^7) -dsimp only[↓gp,gq,reduceCtorEq,lj,lm,lp,ll,lu,lr,lw,lz,lA,lB,lC,lk,gT,a,d,f,j];exact λh=>absurd h dc
theorem Pg(g:zjY c)(j:s<64):AC prog 341 [aE (bl c),al s] (.im (aU (KA c s))):=by
 refine cA [.tmp 4] func341 λn=>?_;simp[dt,dT,kQ,ga,ap]at n;have d:=ap c;rw[zt8 j g];refine cZ d ?_;refine⟨λh=>?_,λh=>?_⟩;have:c=[]:=aL (by grind);subst this;rfl;refine aa (QE c s g j)<|aR ?_;have p:xb c s 6<64:=zsR j;refine az (λ(k:Nat)a=>(a.sl 0=aE _/\a.sl 1=al s/\a.sl 5=al _/\a.sl 6=al k)/\(k<=lh c/\∀i,i<k->((lg c i 0&&&s)&&&xb c s 6 != xb c s 6)=k0)) (λk=>lh c-k) 0 ⟨nm,sp⟩ ?_;intro k q ⟨o,l⟩;obtain⟨r,b⟩:=l;refine ff o d ?_;refine⟨λh=>?_,λh=>?_⟩;have t:=LA g h;have u:lg c k 0&&&s<=s:=wq;have m:fu .i64 (fu .i64 ((lg c k 0:Nat)) s) ((xb c s 6):Int)=(((lg c k 0&&&s)&&&xb c s 6):Int):=by rw[ej om om,ej om om]
 rw[bX h];refine⟨h,h,λe=>?_,λe=>ah _ ⟨(gE o (ak h n)),⟨om,λi f=>?_⟩⟩⟩;unfold zjQ;grind;grind;rw[zjQ,aY];intro x m;obtain⟨i,f,rfl⟩:=eX 0 m;grind
def KD(l:N0)(x:Int):Bool:=KA (l.map Int.toNat) x.toNat
theorem UX(h:Uk e):bl (e.map Int.toNat)=e:=by
 rw[bl,fj];have:∀x∈e,((λs:Nat=>(s:Int))∘Int.toNat) x=id x:=λx a=>by have:=h x a;grind
 rw[cO this,JT]
theorem Ph(h:Uk e):zjY (e.map Int.toNat):=λg a=>by obtain⟨x,b,rfl⟩:=List.mem_map.1 a;have:=h x b;omega
theorem zom(h:l.Perm d):KD l y=KD d y:=zjR _<|h.map _
theorem zeB(a:Uk l)(b:0<=x/\x<64):AC prog 224 [aE l,al x] (.im (aU (KD l x))):=by have:=Ih _ x.toNat (Ph a) om;rwa[UX a,show(x.toNat:Int)=x by omega]at this
theorem zeC(a:Uk l)(b:0<=x/\x<64):AC prog 341 [aE l,al x] (.im (aU (KD l x))):=by have:=Pg _ x.toNat (Ph a) om;rwa[UX a,show(x.toNat:Int)=x by omega]at this
theorem Pd(I:Uk l)(J:lh l<=1000):∀(n:Nat)(head:N0),Uk head->lh head+n=lh l ->
 AF prog 306 [.sl l0 1 (iL l)] (iL head) 3 (iL ((ix KD l n head).getD [])) (ix KD l n head).isSome:=by
 intro n
 induction n with
 | zero =>
   intro head B K
   refine Sx _ func306 λL C z i m=>?_
   have u:z.sl 0=aE l:=by grind
   have w:z.sl 1=.own 1000000 1:=by grind
   have o:z.rw 1000000=⟨1,.sli 3 1 l0<|iL head⟩:=by rw[m,uD]
   refine iD u w o ?_
   refine⟨λ_=>⟨1000000,1,.inl rfl,rfl,by simp[gr,simprocAttr,o];rfl⟩,λh=>?_⟩
   grind
 | succ n M =>
   intro head B K
   refine Sx _ func306 λL C z i m=>?_
   have u:z.sl 0=aE l:=by grind
   have w:z.sl 1=.own 1000000 1:=by rw[i];rfl
   have o:z.rw 1000000=⟨1,.sli 3 1 l0<|iL head⟩:=by rw[m,uD]
   refine iD u w o ?_
   have D:((lh head)==(lh l:Int))=false:=by grind
   refine⟨λh=>absurd (D.symm.trans h) dc,λ_=>?_⟩
   have p:ix KD l (n+1) head=l.findSome? _:=rfl
   rw[p]
   generalize N:(λg=>if decide (g∈head)||!KD head g then o0 else ix KD l n _)=f at *
   refine az (λ(k:Nat)s=>(s.sl 0=aE l/\s.sl 1=.own _ 1/\s.rw 1000000=⟨1,.sli 3 1 _<|iL head⟩/\s.sl 6=al k)/\(k<=lh l/\(l.take k).findSome? f=o0)) (λk=>lh l-k) (0) ⟨(fB u w o),⟨aB _,rfl⟩⟩ ?_
   intro k Q ⟨j,E⟩
   have⟨R,c⟩:=E
   refine cZ j ?_
   refine⟨λh=>?_,λh=>?_⟩
   have q:=I _<|aP 0 h;refine⟨h,h,aa (mO head _) ?_⟩;refine cZ j ?_;have a:f (lg l k 0)=if decide (lg l k 0∈head)||!KD head (lg l k 0)then o0 else ix KD l n (head++[lg l k 0]):=by rw[<- N]
   have d:f _=o0->(l.take<|k+1).findSome? f=none:=λe=>by rw[uf f 0 h,c,e];rfl
   refine⟨λF=>⟨h,h,aa (zeC head _ B q) ?_⟩,λF=>?_⟩
   refine cZ j ?_;refine⟨λr=>?_,λr=>?_⟩
   have e:f (lg l k 0)=none:=by grind
   exact ah _ ⟨(gE j<|ak h om),⟨om,d e⟩⟩
   have e:f (lg l k 0)=ix KD l n (head++[lg l k 0]):=by grind
   have t:=M (head++[lg l k 0]) (λb G=>by
    rcases List.mem_append.1 G with H|H;exact B b H;grind)<|by grind
   rw[<- e]at t;refine⟨kr,om,h,h,om,Zn t (λ_ _ _ _=>.one (.sl _ _ _) .nil) rfl (by simp only[gr,simprocAttr];rw[show iL (head++[lg l k 0])=iL head++iL [lg l k 0] from by simp[iL]]) (dJ _) dc dc ?_⟩;refine cZ j ?_;refine⟨kr,λy=>?_,λy=>?_⟩
   have⟨x,A⟩:=Option.isSome_iff_exists.1 y;rw[FU f 0 h c A];rw[A];exact⟨47,_,.inr dc,rfl,gl⟩
   have O:f (lg l k 0)=none:=by
    simp_all
   exact ah _ ⟨(gE j<|ak h om),⟨om,d O⟩⟩
   have e:f (lg l k 0)=none:=by grind
   exact ah _ ⟨(gE j<|ak h om),⟨om,d e⟩⟩
   have e:k=lh l:=om;rw[e,av]at c;rw[c];exact⟨52,_,.inr dc,rfl,rfl⟩
noncomputable def xd(n:Int)(a:N0):Option N0:=if aS n a=k0/\a.length<=8 then ix KD (zF a) (zF a).length []else o0
theorem rj:AC prog 257 [.ag [al x,aE d]] (.tup [.fr 3 1 (iL ((xd x d).getD [])),.im (aU (xd x d).isSome)]):=by
 refine cA [.tmp 2,.tmp 3] func257 λA=>?_;refine aR<|aa (bw x d) ?_;refine aR ?_;unfold xd;refine⟨λc=>?_,λc=>?_⟩;have c:=ss c;refine⟨λp=>?_,λp=>?_⟩;rw[ac om];decide;rw[ae ⟨c,om⟩];refine az (λ(m,v)s=>(s.sl 1=.ref 1 1 0/\s.rw 1=⟨1,.box 26 [al x,aE d]⟩/\s.sl 4=.own 18 v/\s.rw 18=⟨v,.sli 3 1 l0<|iL<|bl<|(lc m).filter<|hU d⟩/\s.sl 5=al m)/\(m<=64)) (λ(m,v)=>64-m) ((0,1)) ⟨nm,sp⟩ ?_;intro(m,v) B ⟨a,t⟩;have u:lh ((lc m).filter<|hU d)<=64:=by grind
 refine cZ a ?_;refine⟨λh=>aa (mO d _) ?_,λh=>?_⟩;refine cZ a ?_;have e:(m:Int)∈d->bl ((lc<|m+1).filter<|hU d)=bl ((lc m).filter<|hU d)++[(m:Int)]:=λh=>by simp[bW,aW,cI,hU,h,bl]
 have i:¬(m:Int)∈d->bl ((lc<|m+1).filter<|hU d)=bl ((lc m).filter<|hU d):=λh=>by simp[bW,aW,cI,hU,h,bl]
 refine⟨λj=>⟨by rw[ap];omega,ah ((m+1,v+1)) ⟨(fB a (ak (show m<64 by omega) om)<|e j),om⟩⟩,λj=>ah ((m+1,v)) ⟨(fB a (ak (show m<64 by omega) om)<|i j),om⟩⟩;have k:m=64:=om;subst k;have w:=Pd _ (zud d) (by have:=zhY d;omega) (zF d).length [] (λb n=>by grind) sp;refine zg4 w (λ_ _=>.one (.lent dc<|by simp only[gr,simprocAttr,a];rfl) .nil) rfl (rfl) (dJ _) dc λS C r y f g z l=>?_;rcases y with rfl|rfl
 exact DL f g;exact DL f g;rw[ac<|λh=>by grind];decide
theorem zri:xd x d=if aS x d=k0 then Ig KD d else none:=by unfold xd Ig;by_cases b:aS x d=k0;have a:=cY.1 b;rw[<- (zol (FA a)<|zog a),If];grind;grind
theorem rl:AC prog 133 [.ag [al x,aE d]] (.tup [.fr 3 1 (iL ((xd x d).getD [])),.im (aU (xd x d).isSome)]):=by refine cA [.tmp 2,.tmp 3] func133 λb=>?_;rw[zri];refine aR<|aa (aH x d) ?_;refine aR ?_;refine⟨λa=>?_,λa=>?_⟩;rw[ac<|by grind];decide;have a:=ss a;have c:=cY.1 a;rw[ae a];refine aa (Xg 224 KD zeB zom d (FA c)<|zog c)<|ef
theorem zhX:lh ((xd x d).getD [])<=64:=by
 unfold xd;split;cases b:ix KD _ _ []with
 | none=>simp
 | some l =>have:=zjW _ _ _ b;have:=zhY d;grind
 simp
theorem OT(h:aS (j:Int) e=k0){s:Nat}(b:s<64):ao (bl (dI (hU (qU e s)) k0))=dL (ao e) s:=by funext t;rw[<- zhS h b t,ci,OV h b,au]
theorem Bt(b:n<18446744073709551616)(a:k<64):AC prog 280 [al k,.eref l0 [dv n] 0,.eref l0 [al s] 0] (.im (aU (skF n.testBit s k))):=by refine cA [.tmp 4] func280 λc=>?_;refine aR ?_;unfold skF;refine⟨kr,aa (ez n _ b a) ?_⟩;refine aR ?_;refine⟨λh=>aa (dy _) ?_,λh=>?_⟩;rw[jb a,h];exact ef;grind
theorem FR:AC prog 202 [dv (bA b 64:Nat),al s] (.im (dv (bA (skF b s) 64:Nat))):=by refine cA [.tmp 4] func202 λc=>?_;have a:=dj b 64;refine aR<|aa (gF 6 om _ _ _ (λrw=>rfl) λt k=>Bt _ t s om om) ?_;rw[oq (w':=skF b s) om λt k=>by simp_all[skF,ek]];exact ef
theorem Dk:AC prog 261 [.ag [al x,aE d]] (.im (aU (xd x d).isSome)):=by refine cA [.tmp 2] func261 λb=>?_;refine aR<|aa (rj x d) ?_;exact ef
theorem znV(h:aS g e=k0)(b:¬mr g e=k0):(cv (ao e):Int)-2=gD g e:=by
 have a:=AR h b;subst a;have c:gD g []=-2:=ac b;have d:cv (ao [])=0:=dc
 omega
theorem mQ:AC prog 126 [.ag [al x,aE d]] (.im (al (gD x d))):=by
 refine cA [.tmp 2] func126 λf=>?_;refine aR<|aa (aH x d) ?_;refine aR ?_;refine⟨λb=>?_,λb=>?_⟩;have e:gD x d=-2:=ac λh=>by have:=(fR.1 h).1;grind
 rw[e];have b:=ss b;refine aa (cj x d<|dM b)<|aR<|aa (pa<|ao d) ?_;have g:=eD<|ao d;have a:D0.i64.wrap ((cv<|ao d)-1-1)=gD x d:=by rw[aF om om];by_cases c:mr x d=k0;have:=Dn c;omega;have:=znV b c;omega
 exact mg a
theorem jc(u:s<9223372036854775808):AC prog 71 [.ag [al x,aE d],al s] (.fr 3 1 (iL (bl (cd (ci x d) s 64)))):=by
 refine cA [.tmp 4] func71 λC=>?_;refine aR (aa (aH x d) ?_);refine aR ?_;refine⟨λc=>?_,λc=>?_⟩;have e:cd (ci x d) s 64=[]:=by refine List.filter_eq_nil_iff.2 λn r k=>?_;simp_all[ci]
 rw[e];rfl;have c:=ss c;have w:ci x d=ao d:=funext λn=>by rw[ci,c,au]
 rw[w];refine aa (cj x d (dM c))<|aR ?_;have a:AC prog 151 [dv (bA (ao d) 64)] (.tb 24 3 ((ms (ao d)).map iL)):=by rw[ms,fj];exact sw _
 have D:=eD (ao d);refine HI a (λi E=>gl) λS f b g o=>?_;have p:=f;have y:S.sl 1=al s:=by rw[g 1 dc];rfl
 have z:S.sl 4=.own 4 1:=by rw[g 4 dc];rfl
 have A:S.rw 4=⟨1,.sli 3 1 l0 []⟩:=by simp[o,gr]
 rw[nx _]at p;refine XO b y z A p.top @uw @bP @bp ?_;refine⟨λ_=>⟨λh=>?_,λh=>⟨om,om,?_⟩⟩,λh=>absurd h om⟩;have e:cd (ao d) s 64=[]:=by refine List.filter_eq_nil_iff.2 λn r k=>?_;rw[aj,aK]at k;have:aQ n<cv _:=rz 64 n (List.mem_range.1 r) k.1;omega
 rw[e];rfl;have B:lg (lc (cv (ao d))) s 0=s:=by grind
 have t:=p.is.row s (by grind);rw[B]at t ⊢;have l:∀s,s<7->dq 11 s<lent:=dc;rw[t,ko,kO _ om,Cs _ _ _ _ _ _ (l s om)];simp
noncomputable def goL(n:Int)(a:N0):N0:=if aS n a=k0 then bl (cd (ao a) 2 64)else []
noncomputable def goN(n:Int)(a:N0):Int:=if aS n a=k0 then n else 0
theorem OS:AC prog 333 [.ag [al x,aE d]] (.tup [.ag [.im (al (goN x d)),.fr 3 1 (iL (goL x d))],.im (aU (aS x d))]):=by
 refine cA [.cell 2 196,.tmp 3] func333 λg=>?_;refine aR<|aa (aH x d) ?_;refine aR ?_;refine⟨λb=>?_,λb=>⟨kr,aa (jc x d 2 dc) ?_⟩⟩;rw[goN,goL,show aS x d=l0 by grind];exact⟨rfl,rfl,rfl⟩;have b:=ss b;have a:goN x d=x:=ae b;have e:ci x d=ao d:=funext λs=>by rw[ci,b,au]
 have f:goL x d=bl _:=ae b;rw[a,b,f,e];refine aR ?_;rfl
def mxP(l:O0):Int:=l.foldl (λm s=>if m<(aQ s:Int)then(aQ s:Int)else m) (-1)
theorem zbU:mxP (c++[s])=if mxP c<(aQ s:Int)then(aQ s:Int)else mxP c:=by rw[mxP,jJ];rfl
theorem zbV:∀(L:O0),L.Pairwise rx->∀k,k<=lh L->mxP (L.take k)=if k=0 then -1 else(aQ (lg L (k-1) 0):Int)
 | L,h,0,_=>rfl
 | L,h,k+1,i=>by
   have d:(if k+1=0 then(-1:Int)else(aQ<|lg L (k+1-1) 0))=(aQ<|lg L k 0):=sp
   rw[bj 0 om,zbU,zbV L h k om,d];by_cases b:k=0;grind;have e:=List.pairwise_iff_getElem.1 h (k-1) k om om om;have f:lg L (k-1) 0=L[k-1]:=by grind
   have g:lg L k 0=L[k]:=by grind
   rw[f,g];unfold rx at e;omega
theorem zqY:mxP (mw x d)=gmO x d:=by have h:=zbV (mw x d) ((wK _).filter _) _<|ab _;simp_all[gmO]
theorem wT:AC prog 229 [.ag [al x,aE d]] (.im (al (gmO x d))):=by refine cA [.tmp 2] func229 λo=>?_;refine aR<|aa (sJ x d) ?_;rw[<- zqY];have g:=λi=>zhN (n:=x) (xs:=d) (i:=i);have j:=sI x d;generalize mw x d=L at *;refine cZ @ap ?_;refine az (λk s=>(s.sl 3=al (mxP<|L.take k)/\s.sl 7=.own 7 1/\s.rw 7=⟨1,.sli 3 1 _<|iL<|bl L⟩/\s.sl 8=al _/\s.sl 9=al k)/\(k<=lh L)) (λk=>lh L-k) 0 ⟨nm,aB _⟩ ?_;intro k p ⟨b,l⟩;refine ff b @ap ?_;refine⟨λa=>?_,λa=>?_⟩;have e:=zbU (L.take k)<|lg L k 0;rw[<- bj 0 a]at e;have f:=jb (g k a);rw[bX a];refine⟨a,a,aa (dy _) ?_⟩;refine iD b @ap f ?_;refine⟨λc=>aa (dy _) ?_,λc=>?_⟩;rw[ae c]at e;refine ff b f ?_;exact ah (k+1) ⟨(fB b e<|ak a om),om⟩;rw[ac c]at e;exact ah (k+1) ⟨(fB b e<|ak a om),om⟩;grind
theorem Di:AC prog 138 [.ag [al x,aE d]] (.im (aU (xd x d).isSome)):=by refine cA [.tmp 2] func138 λb=>?_;refine aR<|aa (rl x d) ?_;exact ef
theorem Qx:AC prog 141 [.ag [al x,aE d]] (.im (aU (WW x d))):=by refine cA [.tmp 2] func141 λb=>?_;refine aR<|aa (aH x d) ?_;refine aR ?_;unfold WW;refine⟨λh=>aa (wT x d) ?_,λh=>?_⟩;rw[h];exact ef;grind
def fp(a:N0)(n i k:Nat):N0:=(lc n).map λt=>((XQ (a.take (if t<i then (lh a) else if t=i then k else 0)) t:Nat):Int)
theorem sM:lh (fp l n k s)=n:=by simp[fp]
theorem Xj:ld n (0:Int)=fp l n 0 0:=by
 refine bE (by simp[fp]) λj b c=>?_;simp only[fp,gz,aM,bG];have:(if j<0 then (lh l) else if j=0 then 0 else 0)=0:=sp
 rw[this];rfl
theorem zeD{i k:Nat}(h:i<j):lg (fp e j i k) i 0=((XQ (e.take k) i:Nat):Int):=by simp_all[fp]
theorem zb5{i k:Nat}(h:i<j):(fp e j i k).set i ((XQ (e.take (k+1)) i:Nat):Int)=fp e j i (k+1):=by refine bE (by simp[fp]) λn b c=>?_;simp[fp];grind
theorem Xk{i k:Nat}(h:XQ (e.take (k+1)) i=XQ (e.take k) i):fp e j i (k+1)=fp e j i k:=by simp[fp];grind
theorem zb6{i:Nat}:fp e j i (lh e)=fp e j (i+1) 0:=by simp[fp];grind
def vT(a:N0)(n:Nat):N0:=(lc n).map λt=>((XQ a t:Nat):Int)
theorem zb7:fp l n n 0=vT l n:=by
 refine bE (by simp[fp,vT]) λj b c=>?_;have:=by simpa[fp]using b
 simp[fp,vT,this]
theorem zon{gs:N0}{i:Nat}(h:i<j):lg (vT gs j) i 0=((XQ gs i:Nat):Int):=by simp_all[vT]
theorem Ds(E:n<=6)(a:N0)(r:∀x∈a,0<=x/\x<64):AC prog 335 [.ag [al n,aE a]] (.fr 3 1 (iL (vT a n))):=by
 refine cA [.tmp 2] func335 λt=>?_;simp only[dt,dT,dF,gb,jt,hZ,ga,cC]at t;refine aR ?_;refine⟨om,om,?_⟩;refine az (λ((k,v,u):Nat×Nat×Nat) s=>(s.sl 1=.ref 1 u 0/\s.rw 1=⟨u,.box 196 [al n,aE a]⟩/\s.sl 3=.own 9 v/\s.rw 9=⟨v,.sli 3 1 l0 (iL (fp a n k 0))⟩/\s.sl 11=al n/\s.sl 12=al k)/\(k<=n)) (λ(k,v,u)=>n-k) ((0,1,1)) ⟨(by and_intros<;>(first|(simp only[gr,simprocAttr,mG,ar,<- Xj];first|done|rfl|(simp;done))|assumption|rfl)),sp⟩ ?_;intro(k,v,u) F ⟨g,y⟩;refine ff g @sM ?_;refine⟨λc=>?_,λc=>?_⟩;refine az (λ((j,v):Nat×Nat) s=>(s.sl 1=.ref 1 u 0/\s.rw 1=⟨u,.box 196 [al n,aE a]⟩/\s.sl 3=.own 9 v/\s.rw 9=⟨v,.sli 3 1 l0 (iL (fp a n k j))⟩/\s.sl 11=al n/\s.sl 12=al k/\s.sl 4=al k/\s.sl 16=aE a/\s.sl 17=al (lh a)/\s.sl 18=al j)/\(j<=lh a)) (λ(j,v)=>lh a-j) ((0,v)) ⟨(jX g),sp⟩ ?_;intro(j,v) G ⟨f,A⟩;have h:D0.u64.wrap (k:Int)=(k:Int):=dm om;refine iD f @sM h ?_;refine⟨λb=>⟨b,b,?_⟩,λb=>?_⟩;have l:=r _ (aP 0 b);have⟨e,d⟩:=ca l.1;rw[d,CL om om];have m:∀x∈a,x.toNat<64:=λx l=>by have:=r x l;omega
 refine⟨λo=>?_,λo=>?_⟩;have p:=zp6 (i:=k) b m (by rw[d,ar];exact o);have B:2^k<64:=by have:2^k<2^6:=bN om om;omega
 have C:=zml (a.take j) k;have D:e ^^^ (e&&&2^k)<64:=gR (n:=6) om (bD bI om);have q:EX .i64 (lg (fp a n k j) k 0) (gU .i64 (e:Int) (jl .i64 1 (k:Int)))=((XQ (a.take (j+1)) k:Nat):Int):=by rw[zeD c,eh om,fv om om,nQ om om,p,d,ar]
 exact⟨c,c,c,om,ah ((j+1,v)) ⟨(by and_intros<;>(first|(simp only[gr,simprocAttr,f,d,q,zb5 c,ak b om])|assumption|rfl)),om⟩⟩;have p:fp a n k (j+1)=fp a n k j:=Xk (zti b (by rw[d,ar];exact o));exact ah ((j+1,v)) ⟨(fB f (ak b om) p),om⟩;obtain rfl:j=lh a:=om;exact ah ((k+1,v,u)) ⟨(by and_intros<;>(first|(simp only[gr,simprocAttr,g,f,ak c om,<- zb6])|assumption|rfl)),om⟩;obtain rfl:k=n:=om;rw[zb7]
def yg(a:W0)(i x:Nat)(c:N0)(m:Nat):Bool:=(lc m).all λj=>!(a i j&&decide (lg c j 0=(x:Int)))
theorem zbT(a:W0)(i x:Nat)(c:N0)(m:Nat):yg a i x c (m+1)=(yg a i x c m&&!(a i m&&decide (lg c m 0=(x:Int)))):=by simp[yg,bW]
def cfL(ok:Nat->N0->Bool)(i:Nat)(f:N0->Bool×N0):Nat->Nat->N0->Bool×N0
 | 0,_,c=>(l0,c)
 | m+1,x,c=>if ok x c=k0 then(if(f (c.set i x)).1=k0 then f (c.set i x)else cfL ok i f m (x+1) (f (c.set i x)).2)else cfL ok i f m (x+1) c
def XT(a:W0)(k:Nat):Nat->Nat->N0->Bool×N0
 | 0,_,c=>(k0,c)
 | r+1,i,c=>cfL (λx c=>yg a i x c i) i (XT a k r (i+1)) k 0 c
def fdL(ok:V0)(g:Nat->Option N0):Nat->Nat->Option N0
 | 0,_=>o0
 | m+1,x=>if ok x=k0 then(match g x with|some l=>n0 l|none=>fdL ok g m (x+1))else fdL ok g m (x+1)
def Lx(a:W0)(k:Nat):Nat->N0->Option N0
 | 0,head=>n0 head
 | r+1,head=>fdL (λx=>yg a (lh head) x head (lh head)) (λx=>Lx a k r (head++[(x:Int)])) k 0
theorem WU{ok:Nat->N0->Bool}{i n:Nat}{f:N0->Bool×N0}(a:∀c,lh c=n->(f c).2.length=n):∀(m x:Nat)(c:N0),lh c=n->(cfL ok i f m x c).2.length=n
 | 0,_,c,h=>h
 | m+1,x,c,h=>by rw[cfL];split;split;grind;exact WU a m _ _ (a _ (by grind));exact WU a m _ _ h
theorem WV(a:W0)(k n:Nat):∀(r i:Nat)(c:N0),lh c=n->(XT a k r i c).2.length=n
 | 0,_,c,h=>h
 | r+1,i,c,h=>WU (λc b=>WV a k n r _ c b) k 0 c h
theorem znU{i:W0}{x:Nat}{d:N0}{m:Nat}(h:∀c,c<m->lg e c 0=lg d c 0):yg i j x e m=yg i j x d m:=by unfold yg;grind
theorem zjD{head:N0}(h:e.take j=head)(b:lh head=j){i:Nat}(a:i<j):lg e i 0=lg head i 0:=by grind
theorem zsL(a:W0)(k n:Nat):∀(r i:Nat)(c head:N0),i+r=n->lh c=n->lh head=i->c.take i=head ->
 (XT a k r i c).2.take i=head/\(match Lx a k r head with|some l=>(XT a k r i c).1=k0/\(XT a k r i c).2=l|none=>(XT a k r i c).1=l0)
 | 0,i,c,head,w,d,p,b=>by refine⟨b,rfl,?_⟩;rw[<- b];show c=c.take i;rw[bK om]
 | r+1,i,c,head,w,d,p,b=>by
   have s:∀(m x:Nat)(c:N0),lh c=n->c.take i=head ->
    (cfL (λx c=>yg a i x c i) i (XT a k r (i+1)) m x c).2.take i=head /\
    (match fdL (λx=>yg a (lh head) x head (lh head)) (λx=>Lx a k r (head++[(x:Int)])) m x with
     | some l=>(cfL (λx c=>yg a i x c i) i (XT a k r (i+1)) m x c).1=k0/\(cfL (λx c=>yg a i x c i) i (XT a k r (i+1)) m x c).2=l
     | none=>(cfL (λx c=>yg a i x c i) i (XT a k r (i+1)) m x c).1=l0):=by
    intro m
    induction m with
    | zero=>intro x c d b;exact⟨b,rfl⟩
    | succ m f =>
      intro x c d b;rw[cfL,fdL];have t:yg a i x c i=yg a (lh head) x head (lh head):=by rw[p];exact znU λj y=>zjD b p y
      rw[t];by_cases q:yg a (lh head) x head (lh head)=k0;rw[ae q,ae q];have g:(c.set i (x:Int)).take (i+1)=head++[(x:Int)]:=by rw[pq (by rw[de];omega),List.take_set_of_le (ab i),b];simp
      have⟨z,h⟩:=zsL a k n r (i+1) (c.set i x) (head++[(x:Int)]) om (by rw[de];exact d) (by rw[aA,p];rfl) g;have A:=WV a k n r (i+1) (c.set i x) (by rw[de];exact d);have o:(XT a k r (i+1) (c.set i x)).2.take i=head:=by
       have:=cV (List.take i) z;grind
      grind
      rw[ac q,ac q];exact f (x+1) c d b
   exact s k 0 c d b
theorem zt2(a:W0)(k n:Nat):(XT a k n 0 (ld n 0)).1=(Lx a k n []).isSome/\((Lx a k n []).isSome=k0->(XT a k n 0 (ld n 0)).2=(Lx a k n []).getD []):=by
 have h:=(zsL a k n n 0 (ld n 0) [] om sp rfl rfl).2;grind
end Go.Proofs.YtijabbemjaioeaaGreatDoor
