/- DERIVED by an AI agent. -/
import Derived.Test.YtijabbemjaioeaaGreatDoorQ6
set_option linter.all false
namespace Go.Proofs.YtijabbemjaioeaaGreatDoor
open Bool renaming true→k0,false→l0
open Option renaming some→n0
open Go renaming IntKind→D0
open List renaming range→lc,replicate→ld,getD→lg,length→lh
open Nat renaming reduceEqDiff→lj,reduceMod→lk,reduceAdd→ll,reduceLT→lm,reduceLeDiff→lp,reduceSub→lr,reduceMul→lu,reduceBEq→lw
open Int renaming reduceToNat→lz,reduceLE→lA,reduceLT→lB,reduceNeg→lC
open Go.Proofs.Tryz
open Go.Abs
variable (n:Int)(f:V0)(m:Nat)(a:N0)(s:Int)(p:Nat)(b:N0){L:N0}{k:Nat}{x:Int}{q:V0}{d:Int->Bool}
theorem Bd(b:aS n a=k0)(k:Nat)(h:k<6):AC prog 221 [.ag [al n,aE a],al (k+1:Nat)] (.tb 24 3 ((Bm (ci n a) k).map iL)):=by
 refine cA _ func221 λl=>?_;refine aR<|aa (aH n a) ?_;have c1:(((k+1:Nat):Int)<1)=False:=aX om;have c2:(6<((k+1:Nat):Int))=False:=aX om;have c:D0.i64.wrap (((k+1:Nat):Int)-1)=k:=by rw[aF om om];omega
 have e:=fc (ci n a) k<|ab 64;have f:=fc (ci n a) (k+1)<|ab 64;simp only[↓gp,gq,simprocAttr,gT,b,c1,c2,c];refine⟨kr,aa (jc n a k om) ?_⟩;simp[↓gp,gq,simprocAttr,gT,b,c1,c2,c];refine aa (jc n a (k+1) om) ?_;simp only[↓gp,gq,simprocAttr,gT,b,c1,c2,c];refine aa (qT _ _ k e f (λi d=>?_)<|λi d=>?_) ?_;have:=fI.1<|aP 0 d;grind;have:=fI.1<|aP 0 d;omega;refine⟨kr,uR ⟨Aq 23 24 3 _<|λi d=>gl,dC⟩ dc λj g=>?_⟩;have:=List.mem_range.1 g;rw[aG,gX]at this;omega
theorem GL:AC prog 130 [.ag [al n,aE a]] (.fr 3 1 (iL (ed (ci n a) 3))):=by
 refine cA [.tmp 2] func130 λhl=>?_;refine aR (aa (aH n a) ?_);cases K:aS n a with
 | false =>
   have e:ed (ci n a) 3=[]:=by have C:cv (ci n a)=0:=(eb _).symm.trans (by rw[HS _ (λs=>by unfold ci;rw[K];rfl)];rfl);unfold ed;rw[C];rfl
   rw[e];refine aR ?_;rfl
 | true =>
   have L:=dM K;rw[mP K];have D:∀o b,b<64->ao a b=k0->o&&&b=o->ao a o=true:=λo b _ X M=>pZ X (by rw[cl];exact M);generalize N:ao a=f at *;have hd:=eD f;have c:=nx f;refine aR (aa (N ▸ cj n a L) ?_);refine aR (aa (uc f) ?_);have V:D0.i64.wrap ((cv f:Int)+1)=((cv f+1:Nat):Int):=by rw[aF om om];rfl
   refine ff c V ?_;refine⟨om,om,?_⟩;refine az (λ((k,v,w):Nat×Nat×Nat) s=>(s.sl 3=.own 13 v/\s.rw 13=⟨v,.sli 24 1 l0 (mF (ms f))⟩/\s.sl 4=.own 17 w/\s.rw 17=⟨w,.sli 3 1 l0 (iL (Yk f 3 k))⟩/\s.sl 5=al k)/\(1<=k/\k<=cv f+1/\(k<=cv f\/cv f=0))) (λ(k,v,w)=>cv f+1-k) ((1,1,1)) ⟨(rS c V (zhz f 3) @mG),by simp;omega⟩ ?_;intro(k,v,w) Z ⟨y,O⟩;have⟨E,F,a0⟩:=O;have q:=Ox f 3 k;rcases bf k (cv f)with h|h
   have l:((k:Int)<(cv f:Int))=True:=bO om;have d:D0.i64.wrap ((k:Int)-1)=((k-1:Nat):Int):=by rw[aF om om];omega
   have g:=kO f (k:=k-1) om;have m:=kO f h;have G:=fc f (k-1) (ab 64);have P:=fc f k (ab 64);refine xA y c l q d g m ?_
   repeat refine⟨by first|kernel_rfl|omega,?_⟩
   refine aa (qT (cd f (k-1) 64) (cd f k 64) (k-1) G P (λi Q=>?_) (λi Q=>?_)) ?_;have:=fI.1 (aP 0 Q);omega;have:=fI.1 (aP 0 Q);exact⟨this.1,om⟩;refine xA y c l q d g m ?_;have A:=yp f (k-1) om D;have H:Bm f (k-1)=fy (cd f (k-1) 64) (cd f k 64):=by grind
   have r:=by have:=zdV (p:=3) (f:=f) (k:=k-1) om;rw[show k-1+1=k by omega]at this;exact this.symm
   have t:=Lv (f:=f) (k:=k-1) om D;rw[H,r]at t;have x:=zhA f 3 h;unfold smV at A;rw[H,r]at A;by_cases C:kM f 3 k=0;rw[ae C]at A;refine aa A ?_;rw[C,iU]at x;refine xA y c l q d g m ?_;exact⟨om,om,kr,ah ((k+1,v,w)) ⟨(xc6 y (ak h om) d g m x),⟨by dsimp only;omega,by dsimp only;omega,by dsimp only;omega⟩⟩⟩;rw[ac C]at A;refine aa A ?_;simp only[↓gp,gq,simprocAttr,gT,y,c,l,q,d,g,m,qe,dB,t];exact⟨om,om,kr,ah ((k+1,v,w)) ⟨(xc7 y (ak h om) d g m t x),⟨by dsimp only;omega,by dsimp only;omega,by dsimp only;omega⟩⟩⟩;have l:((k:Int)<(cv f:Int))=False:=aX om;have r:∀j,j<cv f+1->lg (Yk f 3 k) j 0=(kM f 3 j:Int):=λj hj=>by rw[zby f 3 hj];split;rfl;rw[Lu om];rfl
   refine iD y c l ?_;generalize Yk f 3 k=rk at *;refine az (λ((j,v,w,u):Nat×Nat×Nat×Nat) s=>(s.sl 3=.own 13 v/\s.rw 13=⟨v,.sli 24 1 l0 (mF (ms f))⟩/\s.sl 4=.own 17 w/\s.rw 17=⟨w,.sli 3 1 l0 (iL rk)⟩/\s.sl 6=.own 6 u/\s.rw 6=⟨u,.sli 3 1 l0 (iL ((ed f 3).take j))⟩/\s.sl 40=al (cv f:Nat)/\s.sl 41=al j)/\(j<=cv f)) (λ(j,v,w,u)=>cv f-j) ((0,v,w,(Z.rw 6).ver+1)) ⟨(gE y c),om⟩ ?_;intro(j,v,w,u) sb ⟨R,a1⟩;rcases bf j (cv f)with B|B
   have z:((j:Int)<(cv f:Int))=True:=bO om;have d:=ak B om;have g:=kO f B;have G:=fc f j (ab 64);have a2:=qS f 3 j;have a3:=qS f 3 (j+1);have I:D0.i64.wrap _=((cd f j 64).length:Int)-(kM f 3 j:Int):=aF om om;have J:D0.i64.wrap _=((cd f j 64).length:Int)-(kM f 3 j:Int)-(kM f 3 (j+1):Int):=aF om om;have E:=r j om;have F:=r (j+1) om;have S:(ed f 3).take (j+1)=(ed f 3).take j++[((cd f j 64).length:Int)-kM f 3 j-kM f 3 (j+1)]:=by rw[bj 0 (by rw[df];exact B),pX f 3 B]
   have a4:lh ((ed f 3).take j)<=7:=by rw[bg,df];omega
   simp only[↓gp,gq,simprocAttr,gT,R,z,c,q,d,g,ap,E,F,I,J];exact⟨kr,B,om,om,om,om,om,kr,ah ((j+1,v,w,u+1)) ⟨(DM R d I J S),by dsimp only;omega⟩⟩;have z:((j:Int)<(cv f:Int))=False:=aX om;have:j=(ed f 3).length:=by rw[df];omega
   have U:(ed f 3).take j=ed f 3:=by rw[this,av]
   exact xd3 R z U
noncomputable def ym(f:V0)(k:Nat):Nat:=if k<6 then iQ 3 (Bm f k)-iQ 2 (Bm f k)else 0
def DR(L:N0)(j:Nat):N0:=(L.take j).filter λx=>decide (1<x)
theorem Ya(h:k<lh L)(a:1<lg L k 0):DR L (k+1)=DR L k++[lg L k 0]:=by unfold DR;rw[bj 0 h];grind
theorem ze4(h:k<lh L)(a:¬1<lg L k 0):DR L (k+1)=DR L k:=by unfold DR;rw[bj 0 h];grind
theorem zkw:DR a (lh a)=a.filter λx=>decide (1<x):=by rw[DR,av]
theorem Yb:lh (DR a p)<=lh a:=aJ (aO _ _)<|by grind
theorem zkx{f:V0}(a:k<6):DR (smN (Bm f k)) (smN (Bm f k)).length=ld (ym f k) 2:=by rw[zkw];simp_all[smN,ym]
theorem Yc(c:k<6)(d:∀a b,b<64->q b=k0->a&&&b=a->q a=k0):lh (smN (Bm q k))<=20:=Lv c d▸aJ (JC q k)<|UH q om
theorem JW(d:aS n a=k0)(k:Nat)(B:k<=6):AC prog 256 [.ag [al n,aE a],al k] (.fr 3 1 (iL (ld (ym (ci n a) k) 2))):=by
 refine cA [.tmp 4] func256 λC=>?_;refine aR<|aa (bw n a) ?_;refine cZ d ?_;have l:=fe k 0 5;rcases bf k 6 with m|m
 rw[show(decide (0<=(k:Int))&&decide ((k:Int)<=5))=k0 by rw[ay om,ay om];rfl]at l;refine aa l ?_;have p:D0.i64.wrap ((k:Int)+1)=((k+1:Nat):Int):=ak (n:=7) om om;refine ff d p ?_;refine aa (qa n a (k+1) om om) ?_;have e:=OL n a;rw[dS];generalize ci n a=f at *;have q:=zm f k m e;have g:=zkx (f:=f) m;have t:=Yc m e;refine ff d p<|aa q ?_;generalize smN (Bm f k)=L at *;refine ff d p ?_;have w:DR L 0=[]:=rfl;refine az (λ((j,v,u):Nat×Nat×Nat) s=>(s.sl 5=.own 8 v/\s.rw 8=⟨v,.sli 3 1 l0<|iL<|DR L j⟩/\s.sl 6=.own 22 u/\s.rw 22=⟨u,.sli 3 1 l0<|iL L⟩/\s.sl 7=al j)/\(j<=lh L)) (λ(j,v,u)=>lh L-j) ((0,1,1)) ⟨(jX w),om⟩ ?_;intro(j,v,u) D ⟨i,y⟩;have z:=Yb L j;rcases bf j (lh L) with h|h
 have b:((j:Int)<(lh L:Int))=True:=bO om;by_cases o:1<lg L j 0;have c:=bO o;have r:=Ya h o;refine ox i @dB b c ?_;exact⟨h,h,om,ah ((j+1,v+1,u)) ⟨(fB i (ak h om) r),by dsimp only;omega⟩⟩;have c:=aX o;have r:=ze4 h o;refine ox i @dB b c ?_;exact⟨h,ah ((j+1,v,u)) ⟨(fB i (ak h om) r),by dsimp only;omega⟩⟩;have b:((j:Int)<(lh L:Int))=False:=aX om;obtain rfl:j=lh L:=om;exact xd4 i @dB b g;obtain rfl:k=6:=om;rw[show(decide (0<=((6:Nat):Int))&&decide (((6:Nat):Int)<=5))=l0 by decide]at l;refine aa l ?_;refine cZ d ?_;rfl
theorem JX(i:aS n a=k0)(k:Nat)(G:k<=6):AC prog 131 [.ag [al n,aE a],al k] (.fr 3 1 (iL (ld (ym (ci n a) k) 2))):=by
 refine cA [.tmp 4] func131 λH=>?_;refine aR<|aa (aH n a) ?_;have o:((k:Int)<0)=False:=aX om;rcases bf k 6 with l|l
 have m:(5<(k:Int))=False:=aX om;have r:D0.i64.wrap ((k:Int)+1)=((k+1:Nat):Int):=ak (n:=7) om om;refine ox i o m r<|aa (Bd n a i k l) ?_;have d:=OL n a;generalize ci n a=f at *;have p:=yp f k l d;have c:=zkx (f:=f) l;have z:=Yc l d;have q:=Lv l d;unfold smV at p;refine ox i o m r ?_;by_cases u:iQ 3 (Bm f k)=0;rw[ae u]at p;rw[u]at q;have A:ld (ym f k) (2:Int)=[]:=by rw[<- c,q];rfl
 rw[A];refine aa p ?_;refine ox i o m r ?_;have w:iL []=[]:=rfl;refine az (λ(j:Nat)s=>(s.sl 5=.own 5 1/\s.rw 5=⟨1,.sli 3 1 l0<|iL []⟩/\s.sl 24=al 0/\s.sl 25=al 0)/\(True)) (λj=>0) (0) ⟨(jX w),trivial⟩ ?_;intro j B ⟨e,x⟩;exact mg e;rw[ac u]at p;refine aa p ?_;generalize smN (Bm f k)=L at *;have C:DR L 0=[]:=rfl;refine Cn i o m r @qe @dB ?_;refine az (λ((j,v):Nat×Nat) s=>(s.sl 5=.own 5 v/\s.rw 5=⟨v,.sli 3 1 l0<|iL<|DR L j⟩/\s.sl 23=.sl k0 1 (iL L)/\s.sl 24=al (lh L)/\s.sl 25=al j)/\(j<=lh L)) (λ(j,v)=>lh L-j) ((0,1)) ⟨(gE C @qe),om⟩ ?_;intro(j,v) B ⟨e,x⟩;have E:=Yb L j;rcases bf j (lh L) with h|h
 have b:((j:Int)<(lh L:Int))=True:=bO om;by_cases t:1<lg L j 0;have g:=bO t;have y:=Ya h t;refine ox e @dB b g ?_;exact⟨h,om,ah ((j+1,v+1)) ⟨(fB e (ak h om) y),by dsimp only;omega⟩⟩;have g:=aX t;have y:=ze4 h t;refine ox e @dB b g ?_;exact⟨h,ah ((j+1,v)) ⟨(fB e (ak h om) y),by dsimp only;omega⟩⟩;have b:((j:Int)<(lh L:Int))=False:=aX om;obtain rfl:j=lh L:=om;exact xd4 e @dB b c;obtain rfl:k=6:=om;have m:=bO om;refine iD i o m ?_;rfl
def XX(h:Int):Nat->P0|0=>dA h|t+1=>XX h t++⟨#[47]⟩++dA 2
noncomputable def JV(f:V0)(j:Nat):Q0:=(lc j).map λi=>XX (lg (ed f 3) (i+1) 0) (ym f (i+1))
noncomputable def qw(f:V0):P0:=if cv f<=1 then⟨#[45]⟩else qJ (JV f (cv f-1)) ⟨#[32]⟩
theorem XY:JV f (m+1)=JV f m++[XX (lg (ed f 3) (m+1) 0) (ym f (m+1))]:=by simp[JV,bW]
theorem DP:lh (JV f m)=m:=by simp[JV]
theorem zcI:ym f m<=20:=by unfold ym;split;have:=JC f m;have:=UH f (k:=m+1) om;omega;omega
theorem zkv:-128<=lg (ed f 3) m 0/\(ed f 3).getD m 0<=64:=by by_cases h:m<cv f;rw[pX f 3 h];have:=qS f 3 m;have:=qS f 3<|m+1;have:=fc f m<|ab 64;omega;rw[eU,eQ<|by rw[df];omega];simp
theorem DQ{h:Int}(a:-128<=h/\h<=64):∀t,(XX h t).size<=20+21*t
 | 0=>eY om om
 | t+1=>by have b:=DQ a t;have c:=eY (n:=2) om om;have d:(⟨#[47]⟩:P0).size=1:=rfl;rw[XX,aI,aI];omega
theorem XZ:∀i,i<lh (JV f m)->(lg (JV f m) i ⟨#[]⟩).size<=440:=λi a=>by
 rw[DP]at a;have e:lg (JV f m) i ⟨#[]⟩=XX (lg (ed f 3) (i+1) 0) (ym f<|i+1):=by simp[JV,a]
 rw[e];have:=DQ (zkv f<|i+1)<|ym f<|i+1;have:=zcI f<|i+1;omega
theorem GJ:AC prog 172 [.ag [al n,aE a]] (.im (fa (if aS n a=k0 then qw (ci n a)else⟨#[]⟩))):=by
 refine cA [.tmp 2] func172 λR=>?_;refine aR<|aa (bw n a) ?_;cases E:aS n a with
 | false=>exact ef
 | true =>
   have q:=JW n a E;rw[ae rfl];refine aR<|aa (HQ n a) ?_;have F:=eD<|ci n a;generalize ci n a=f at *;have c:=df f 3;have G:sL (JV f<|1-1)=[]:=rfl;refine cZ c ?_;refine az (λ((k,v,u):Nat×Nat×Nat) s=>(s.sl 1=.ref 1 1 0/\s.rw 1=⟨1,.box 26 [al n,aE a]⟩/\s.sl 3=.own 13 u/\s.rw 13=⟨u,.sli 3 1 l0<|iL<|ed f 3⟩/\s.sl 4=.own 14 v/\s.rw 14=⟨v,.sli 9 1 l0<|sL<|JV f<|k-1⟩/\s.sl 5=al k)/\(1<=k/\(k<=cv f\/k=1))) (λ(k,v,u)=>cv f+1-k) ((1,1,1)) ⟨(jX G),⟨om,.inr rfl⟩⟩ ?_;intro(k,v,u) I ⟨g,r⟩;have⟨w,J⟩:=r;rcases bf k (cv f)with h|h
   have d:((k:Int)<(cv f:Int))=True:=bO om;have K:=zkv f k;have C:=zcI f k;refine iD g c d ?_;refine⟨h,aa (cB om om) ?_⟩;refine iD g c d ?_;refine aa (q k om) ?_;refine iD g c d ?_;have j:lh (ld (ym f k) (2:Int))=ym f k:=cX;have x:XX (lg (ed f 3) k 0) 0=dA (lg (ed f 3) k 0):=rfl;refine az (λ((t,y):Nat×Nat) s=>(s.sl 1=.ref 1 1 0/\s.rw 1=⟨1,.box 26 [al n,aE a]⟩/\s.sl 3=.own 13 u/\s.rw 13=⟨u,.sli 3 1 l0<|iL<|ed f 3⟩/\s.sl 4=.own 14 v/\s.rw 14=⟨v,.sli 9 1 l0<|sL<|JV f<|k-1⟩/\s.sl 5=al k/\s.sl 6=fa (XX (lg (ed f 3) k 0) t)/\s.sl 7=.own 28 y/\s.rw 28=⟨y,.sli 3 1 l0<|iL<|ld (ym f k) 2⟩/\s.sl 8=al t)/\(t<=ym f k)) (λ(t,y)=>ym f k-t) ((0,(I.rw 28).ver+1)) ⟨(gE g x),om⟩ ?_;intro(t,y) S ⟨l,M⟩;rcases bf t (ym f k)with o|o
   have b:((t:Int)<(ym f k:Int))=True:=bO om;have D:lg (ld (ym f k) (2:Int)) t 0=2:=by simp[lg,o]
   have z:XX (lg (ed f 3) k 0) (t+1)=XX (lg (ed f 3) k 0) t++⟨#[47]⟩++dA 2:=rfl;have N:=DQ K t;have O:=eY (n:=2) om om;have P:(⟨#[47]⟩:P0).size=1:=rfl;refine nN l @dB j b D ?_;refine⟨om,o,aa (cB om om) ?_⟩;refine nN l @dB j b D ?_;rw[aI];exact⟨om,ah ((t+1,y)) ⟨(fB l (ak o om) z),by dsimp only;omega⟩⟩;have b:((t:Int)<(ym f k:Int))=False:=aX om;obtain rfl:t=ym f k:=om;have A:JV f k=JV f (k-1)++[XX (lg (ed f 3) k 0) (ym f k)]:=by have:=XY f<|k-1;rwa [Nat.sub_add_cancel w]at this
   have m:k+1-1=k:=om;refine ox l @dB j b ?_;exact⟨by rw[DP];omega,ah ((k+1,v+1,u)) ⟨(DM g l (ak h om) A m),⟨by dsimp only;omega,.inl h⟩⟩⟩;have d:((k:Int)<(cv f:Int))=False:=aX om;have B:=DP f<|k-1;refine ox g c d B ?_;unfold qw;refine⟨λp=>?_,λp=>?_⟩;rw[ae<|by have:=beq_iff_eq.1 p;omega];have p:=beq_eq_false_iff_ne.1 p;rw[ac om];obtain rfl:k=cv f:=om;refine aa (qI (JV f<|cv f-1) ⟨#[32]⟩ om<|λi Q=>?_) ?_;have:=oD (sep:=⟨#[32]⟩) (XZ f<|cv f-1) (ab 1) i Q;have U:(⟨#[32]⟩:P0).size=1:=rfl;omega;have e:=jD (JV f<|cv f-1) ⟨#[32]⟩ (JV f<|cv f-1).length<|ab _;rw[av]at e;rw[e];exact mg g
theorem GK:AC prog 56 [.ag [al n,aE a]] (.im (fa (if aS n a=k0 then qw (ci n a)else⟨#[]⟩))):=by
 refine cA [.tmp 2] func56 λQ=>?_;refine aR<|aa (aH n a) ?_;cases D:aS n a with
 | false=>exact ef
 | true =>
   have p:=JX n a D;rw[ae rfl];refine aR<|aa (GL n a) ?_;have E:=eD<|ci n a;generalize ci n a=f at *;have b:=df f 3;have F:sL (JV f<|1-1)=[]:=rfl;unfold qw;rcases bf 1 (cv f)with j|j
   have g:((cv f:Int)<=1)=False:=aX om;rw[ac om];refine ff b g ?_;refine az (λ((k,v,u):Nat×Nat×Nat) s=>(s.sl 1=.ref 1 1 0/\s.rw 1=⟨1,.box 26 [al n,aE a]⟩/\s.sl 3=.own 13 u/\s.rw 13=⟨u,.sli 3 1 l0<|iL<|ed f 3⟩/\s.sl 4=.own 4 v/\s.rw 4=⟨v,.sli 9 1 l0<|sL<|JV f<|k-1⟩/\s.sl 5=al k)/\(1<=k/\k<=cv f)) (λ(k,v,u)=>cv f+1-k) ((1,1,1)) ⟨(jX F),⟨om,om⟩⟩ ?_;intro(k,v,u) H ⟨i,q⟩;have⟨r,I⟩:=q;rcases bf k (cv f)with h|h
   have d:((k:Int)<(cv f:Int))=True:=bO om;have J:=zkv f k;have B:=zcI f k;refine iD i b d ?_;refine⟨h,aa (db om om) ?_⟩;refine iD i b d ?_;refine aa (p k om) ?_;have e:lh (ld (ym f k) (2:Int))=ym f k:=cX;refine ox i b d e ?_;have w:XX (lg (ed f 3) k 0) 0=dA (lg (ed f 3) k 0):=rfl;refine az (λ((t,y):Nat×Nat) s=>(s.sl 1=.ref 1 1 0/\s.rw 1=⟨1,.box 26 [al n,aE a]⟩/\s.sl 3=.own 13 u/\s.rw 13=⟨u,.sli 3 1 l0<|iL<|ed f 3⟩/\s.sl 4=.own 4 v/\s.rw 4=⟨v,.sli 9 1 l0<|sL<|JV f<|k-1⟩/\s.sl 5=al k/\s.sl 6=fa (XX (lg (ed f 3) k 0) t)/\s.sl 30=.own 30 y/\s.rw 30=⟨y,.sli 3 1 l0<|iL<|ld (ym f k) 2⟩/\s.sl 31=al (ym f k:Nat)/\s.sl 32=al t)/\(t<=ym f k)) (λ(t,y)=>ym f k-t) ((0,(H.rw 30).ver+1)) ⟨(fB i w e),om⟩ ?_;intro(t,y) R ⟨l,L⟩;rcases bf t (ym f k)with o|o
   have c:((t:Int)<(ym f k:Int))=True:=bO om;have C:lg (ld (ym f k) (2:Int)) t 0=2:=by simp[lg,o]
   have x:XX (lg (ed f 3) k 0) (t+1)=XX (lg (ed f 3) k 0) t++(⟨#[47]⟩++dA 2):=by rw[XX,xo]
   have M:=DQ J t;have N:=eY (n:=2) om om;have O:(⟨#[47]⟩:P0).size=1:=rfl;refine nN l @dB e c C ?_;refine⟨o,aa (db om om) ?_⟩;refine nN l @dB e c C ?_;rw[aI];exact⟨om,om,ah ((t+1,y)) ⟨(fB l (ak o om) x),by dsimp only;omega⟩⟩;have c:((t:Int)<(ym f k:Int))=False:=aX om;obtain rfl:t=ym f k:=om;have z:JV f k=JV f (k-1)++[XX (lg (ed f 3) k 0) (ym f k)]:=by have:=XY f<|k-1;rwa [Nat.sub_add_cancel r]at this
   have m:k+1-1=k:=om;refine ox l @dB e c ?_;exact⟨by rw[DP];omega,ah ((k+1,v+1,u)) ⟨(DM i l (ak h om) z m),⟨by dsimp only;omega,h⟩⟩⟩;have d:((k:Int)<(cv f:Int))=False:=aX om;obtain rfl:k=cv f:=om;refine iD i b d ?_;have P:=DP f<|cv f-1;have A:=oD (sep:=⟨#[32]⟩) (XZ f<|cv f-1) (ab 1) (JV f<|cv f-1).length<|ab _;rw[jD _ _ _<|ab _,av]at A;refine aa (kA (JV f<|cv f-1) ⟨#[32]⟩ om om) ?_;exact mg i;have g:((cv f:Int)<=1)=True:=bO om;rw[ae j];exact DL b g
def stC(r f:Int):Bool:=decide ((aQ (r.toNat&&&f.toNat):Int)=(aQ r.toNat:Int)-1)
noncomputable def Pu(a:N0)(r:Int)(L:N0):Nat->N0
 | 0=>L
 | j+1=>if(!decide (lg a j 0∈Pu a r L j)&&stC r (lg a j 0))=k0 then Pu a r L j++[lg a j 0]else Pu a r L j
noncomputable def ZF(a:N0):Nat->Nat->N0->N0
 | 0,_,L=>L
 | n+1,k,L=>if k<L.length then ZF a n (k+1) (Pu a (lg L k 0) L (lh a))else L
noncomputable def GA(n:Int)(a:N0):Bool:=zy n a&&decide (0<lh a)&&decide (lh (ZF a (lh a+1) 0 [lg a 0 0])=lh a)
def Xy(a L:N0):Prop:=L.Nodup/\∀x∈L,x∈a
theorem zoS:∀(L a:N0),L.Nodup->(∀x∈L,x∈a)->lh L<=lh a
 | [],_,_,_=>aB _
 | x::L,a,f,b=>by have⟨g,h⟩:=List.nodup_cons.1 f;have i:=zoS L (a.erase x) h λy d=>(zY λe=>g (by grind)).2 (b y (by grind));grind
theorem Gc{a:N0}(h:Xy L a):lh a<=lh L:=zoS a L h.1 h.2
theorem zoT{d:N0}(h:Xy L d)(f:x∈L)(g:¬x∈d):Xy L (d++[x]) :=
 ⟨List.nodup_append.2 ⟨h.1,sp,λa i b j e=>by grind⟩,λy c=>by
  rcases List.mem_append.1 c with c|c;exact h.2 y c;grind⟩
theorem zoU{d:N0}{r:Int}(h:Xy L d):∀j,j<=lh L->Xy L (Pu L r d j)/\d.length<=(Pu L r d j).length/\∀k,k<lh d->lg (Pu L r d j) k 0=lg d k 0:=by
 intro j;induction j with
 | zero=>exact λ_=>⟨h,ab _,λ_ _=>rfl⟩
 | succ j f =>intro i;have⟨a,b,c⟩:=f om;rw[Pu];split;rename_i e;rw[aj,bC,bJ]at e;refine⟨zoT a (aP 0 om) e.1,by rw[aA];omega,λk g=>?_⟩;rw[<- c k g,eU,eE om,<- eU];exact⟨a,b,c⟩
theorem zoV{f:Int}(c:0<=x/\x<64)(d:0<=f/\f<64)(h:aQ f.toNat=aQ x.toNat):(qN (gU .i64 f x)==1)=stC x f:=by
 have e:gU .i64 f x=((f.toNat ^^^ (f.toNat&&&x.toNat))):=by rw[<- fv om om];grind
 have a:f.toNat&&&x.toNat<64:=bD bI om;have g:=zra f.toNat om _ a (by grind);rw[e,jb (gR (n:=6) om a)];unfold stC;grind
theorem zch{L:N0}(a:0<=x/\x<64):bA (hU (L++[x])) 64=bA (hU L) 64|||2^x.toNat:=by rw[CX _ om];refine gu λs _=>?_;rw[zC,zC,aZ];grind
theorem zoW(h:zy x L=k0):aS x L=k0/\∀a∈L,∀y∈L,aQ a.toNat=aQ y.toNat:=by simp_all[zy]
theorem zh8{n:Nat}(h:lh L<=n):ZF a k n L=L:=by
 cases k with
 | zero=>rfl
 | succ k=>rw[ZF,ac om]
theorem wa:AC prog 285 [.ag [al n,aE a]] (.im (aU (GA n a))):=by
 refine cA [.tmp 2] func285 λhl=>?_;refine aR<|aa (nD n a) ?_;refine aR ?_;have D:zy n a=l0->GA n a=false:=λh=>by unfold GA;rw[h];rfl
 refine⟨λp=>⟨λC=>?_,λC=>?_⟩,λp=>by rw[D<|ss p]⟩;unfold GA;rw[aD<|show ¬0<lh a by have:=beq_iff_eq.1 C;omega,cT];rfl;have p:zy n a=true:=ss p;have b:0<lh a:=ov λe=>by rw[e]at C;cases C
 have⟨q,E⟩:=zoW p;have l:=dM q;have a0:=fH q;have F:=l _<|aP 0 b;have hB:GA n a=decide (lh (ZF a (lh a+1) 0 [lg a 0 0])=lh a):=by unfold GA;rw[p,ay b,au,au]
 have t:D0.u64.wrap (lg a 0 0)=lg a 0 0:=by rw[show lg a 0 0=(((lg a 0 0).toNat:Nat):Int)by omega];exact dm om
 have w:jl .u64 1 (lg a 0 0)=((bA (hU [lg a 0 0]) 64:Nat):Int):=by rw[show jl .u64 1 (lg a 0 0)=jl .u64 1 (((lg a 0 0).toNat:Nat):Int)by congr 1;omega,yU om];have:=zch (L:=[]) F;rw[eg]at this;rw[this,show bA (hU []) 64=0 from (gu (w':=λ_=>l0)<|λs _=>by rw[zC];simp).trans vB,JS]
 have G:Xy a [lg a 0 0]:=⟨sp,λx Z=>by rw[List.mem_singleton.1 Z];exact aP 0 b⟩;have H:iL [lg a 0 0]=[al (lg a 0 0)]:=rfl;refine ff t w ?_;refine⟨om,b,om,b,om,?_⟩;refine az (λ((k,v,L):Nat×Nat×N0) s=>(s.sl 1=.ref 1 1 0/\s.rw 1=⟨1,.box 26 [al n,aE a]⟩/\s.sl 3=.own 21 v/\s.rw 21=⟨v,.sli 3 1 l0<|iL L⟩/\s.sl 4=dv (bA (hU L) 64:Nat)/\s.sl 5=al k)/\(k<=lh L/\Xy a L/\ZF a (lh a+1-k) k L=ZF a (lh a+1) 0 [lg a 0 0])) (λ(k,v,L)=>lh a+1-k) ((0,1,[lg a 0 0])) ⟨(fB t w H),⟨aB _,G,rfl⟩⟩ ?_;intro(k,v,L) sa ⟨I,J⟩;have⟨hk,d,f⟩:=J;have a1:=Gc d;refine cZ I ?_;refine⟨λy=>?_,λy=>?_⟩;have hr:=l _<|d.2 _<|aP 0 y;rw[show (lh a)+1-k=(lh a+1-(k+1))+1 by omega,ZF,ae y]at f;have hJ:=λj(K:j<=lh a)=>zoU (r:=lg L k 0) d j K;have N:∀j,Pu a (lg L k 0) L (j+1)=if(!decide (lg a j 0∈Pu a (lg L k 0) L j)&&stC (lg L k 0) (lg a j 0))=k0 then Pu a (lg L k 0) L j++[lg a j 0]else Pu a (lg L k 0) L j:=λj=>rfl
 have O:Pu a (lg L k 0) L 0=L:=rfl;have P:=d.2 _<|aP 0 y;generalize Q:lg L k 0=r at *;refine az (λ((j,u):Nat×Nat) s=>(s.sl 1=.ref 1 1 0/\s.rw 1=⟨1,.box 26 [al n,aE a]⟩/\s.sl 3=.own 21 u/\s.rw 21=⟨u,.sli 3 1 l0<|iL<|Pu a r L j⟩/\s.sl 4=dv (bA (hU<|Pu a r L j) 64:Nat)/\s.sl 5=al k/\s.sl 35=aE a/\s.sl 36=al (lh a)/\s.sl 37=al j)/\(j<=lh a)) (λ(j,u)=>lh a-j) ((0,v)) ⟨(gE I O),aB _⟩ ?_;intro(j,u) sb ⟨g,R⟩;have⟨j1,j2,j3⟩:=hJ j R;have z:=j3 k y;rw[Q]at z;have a2:=Gc j1;have c:=N j;generalize hM:Pu a r L j=M at *;refine cZ g ?_;refine⟨λi=>?_,λi=>?_⟩;have m:=l _<|aP 0 i;have S:=aP 0 i;have a3:=dj (hU M) 64;have hc:=ez (bA (hU M) 64) (lg a j 0).toNat om om;rw[ek _ om,zC,show(((lg a j 0).toNat:Nat):Int)=lg a j 0 by omega]at hc;have U:=zoV hr m<|E _ S _ P;have V:lg a j 0=(((lg a j 0).toNat:Nat):Int):=om;have A:D0.u64.wrap (lg a j 0)=lg a j 0:=by rw[V];exact dm om
 have W:(2:Nat)^(lg a j 0).toNat<18446744073709551616:=by have:(2:Nat)^(lg a j 0).toNat<2^64:=bN om om;omega
 have B:EX .u64 (bA (hU M) 64:Nat) (jl .u64 1<|lg a j 0)=((bA (hU<|M++[lg a j 0]) 64:Nat):Int):=by rw[show jl .u64 1 (lg a j 0)=jl .u64 1 (((lg a j 0).toNat:Nat):Int)by congr 1,yU om,Ca om W,zch m]
 have X:iL M++[al (lg a j 0)]=iL (M++[lg a j 0]):=by simp[iL]
 generalize Z:lg a j 0=x at *;refine⟨i,i,aa hc ?_⟩;refine cZ g ?_;refine⟨λo=>⟨om,om,aa (dy _) ?_⟩,λo=>?_⟩;have o:decide (x∈M)=false:=ss o;rw[z];refine ox g U A B ?_;rw[o,pw,au]at c;refine⟨λY=>?_,λY=>?_⟩;rw[ae Y]at c;exact⟨m.1,om,ah ((j+1,u+1)) ⟨(xc7 g g A B c X<|ak i om),by dsimp only;omega⟩⟩;rw[ac<|by rw[Y];decide]at c;exact ah ((j+1,u)) ⟨(rS g g c<|ak i om),by dsimp only;omega⟩;have o:decide (x∈M)=true:=ss o;rw[o,jU,ce,ac dc]at c;exact ah ((j+1,u)) ⟨(rS g g c<|ak i om),by dsimp only;omega⟩;have K:j=lh a:=om;have f:ZF a (lh a+1-(k+1)) (k+1) M=ZF a (lh a+1) 0 [lg a 0 0]:=by rw[<- hM,K];exact f
 exact ah ((k+1,u,M)) ⟨(fB I g<|ak (show k<64 by omega) om),⟨by dsimp only;omega,j1,f⟩⟩;rw[zh8 a om]at f;rw[hB,<- f,aZ,aq,aK];omega
theorem wb:AC prog 338 [.ag [al n,aE a]] (.im (aU (GA n a))):=by
 refine cA [.tmp 2] func338 λhl=>?_;refine aR<|aa (nC n a) ?_;refine aR ?_;have A:zy n a=l0->GA n a=false:=λh=>by unfold GA;rw[h];rfl
 refine⟨λq=>⟨λz=>?_,λz=>?_⟩,λq=>by rw[A<|ss q]⟩;unfold GA;rw[aD<|show ¬0<lh a by have:=beq_iff_eq.1 z;omega,cT];rfl;have q:zy n a=true:=ss q;have c:0<lh a:=ov λe=>by rw[e]at z;cases z
 have⟨w,Q⟩:=zoW q;have m:=dM w;have R:=fH w;have S:=m _<|aP 0 c;have U:GA n a=decide (lh (ZF a (lh a+1) 0 [lg a 0 0])=lh a):=by unfold GA;rw[q,ay c,au,au]
 have B:Xy a [lg a 0 0]:=⟨sp,λx t=>by rw[List.mem_singleton.1 t];exact aP 0 c⟩;have C:iL [lg a 0 0]=[al (lg a 0 0)]:=rfl;refine⟨om,c,?_⟩;refine az (λ((k,v,L):Nat×Nat×N0) s=>(s.sl 1=.ref 1 1 0/\s.rw 1=⟨1,.box 26 [al n,aE a]⟩/\s.sl 3=.own 19 v/\s.rw 19=⟨v,.sli 3 1 l0<|iL L⟩/\s.sl 4=al k)/\(k<=lh L/\Xy a L/\ZF a (lh a+1-k) k L=ZF a (lh a+1) 0 [lg a 0 0])) (λ(k,v,L)=>lh a+1-k) ((0,1,[lg a 0 0])) ⟨(jX C),⟨aB _,B,rfl⟩⟩ ?_;intro(k,v,L) sa ⟨D,E⟩;have⟨hk,d,f⟩:=E;have W:=Gc d;refine cZ D ?_;refine⟨λy=>?_,λy=>?_⟩;have X:=m _<|d.2 _<|aP 0 y;rw[show (lh a)+1-k=(lh a+1-(k+1))+1 by omega,ZF,ae y]at f;have Y:=λj(F:j<=lh a)=>zoU (r:=lg L k 0) d j F;have G:∀j,Pu a (lg L k 0) L (j+1)=if(!decide (lg a j 0∈Pu a (lg L k 0) L j)&&stC (lg L k 0) (lg a j 0))=k0 then Pu a (lg L k 0) L j++[lg a j 0]else Pu a (lg L k 0) L j:=λj=>rfl
 have H:Pu a (lg L k 0) L 0=L:=rfl;have Z:=d.2 _<|aP 0 y;generalize I:lg L k 0=r at *;refine az (λ((j,u):Nat×Nat) s=>(s.sl 1=.ref 1 1 0/\s.rw 1=⟨1,.box 26 [al n,aE a]⟩/\s.sl 3=.own 19 u/\s.rw 19=⟨u,.sli 3 1 l0<|iL<|Pu a r L j⟩/\s.sl 4=al k/\s.sl 5=al j)/\(j<=lh a)) (λ(j,u)=>lh a-j) ((0,v)) ⟨(gE D H),aB _⟩ ?_;intro(j,u) sb ⟨g,J⟩;have⟨j1,j2,j3⟩:=Y j J;have l:=j3 k y;rw[I]at l;have a0:=Gc j1;have b:=G j;generalize hM:Pu a r L j=M at *;refine cZ g ?_;refine⟨λi=>?_,λi=>?_⟩;have a1:=m _<|aP 0 i;have K:iL M++[al (lg a j 0)]=iL (M++[lg a j 0]):=by simp[iL]
 generalize t:lg a j 0=x at *;have o:fu .i64 r x=((r.toNat&&&x.toNat:Nat):Int):=by rw[<- ej om om];congr 1<;>omega
 have a2:r.toNat&&&x.toNat<64:=bD bI om;have a3:=jA (s:=r.toNat) om;have N:D0.i64.wrap ((aQ r.toNat:Int)-1)=(aQ r.toNat:Int)-1:=aF om om;have O:(((aQ (r.toNat&&&x.toNat):Nat):Int)==(aQ r.toNat:Int)-1)=stC r x:=by unfold stC;rw[aZ,aK,aq]
 refine⟨kr,i,i,aa (mO _ _) ?_⟩;refine ox g l t o ?_;refine⟨λp=>⟨om,om,i,i,aa (ey _ om) ?_⟩,λp=>?_⟩;have p:decide (x∈M)=false:=ss p;refine ox g l t o ?_;refine⟨om,om,aa (mf X.1 om) ?_⟩;refine Cn g l t o N O ?_;rw[p,pw,au]at b;refine⟨λP=>?_,λP=>?_⟩;rw[ae P]at b;exact⟨i,i,om,ah ((j+1,u+1)) ⟨(xc6 g g t b K<|ak i om),by dsimp only;omega⟩⟩;rw[ac<|by rw[P];decide]at b;exact ah ((j+1,u)) ⟨(rS g g b<|ak i om),by dsimp only;omega⟩;have p:decide (x∈M)=true:=ss p;rw[p,jU,ce,ac dc]at b;exact ah ((j+1,u)) ⟨(rS g g b<|ak i om),by dsimp only;omega⟩;have F:j=lh a:=om;have f:ZF a (lh a+1-(k+1)) (k+1) M=ZF a (lh a+1) 0 [lg a 0 0]:=by rw[<- hM,F];exact f
 exact ah ((k+1,u,M)) ⟨(fB D g<|ak (show k<64 by omega) om),⟨by dsimp only;omega,j1,f⟩⟩;rw[zh8 a om]at f;rw[U,<- f,aZ,aq,aK];omega
def ZE:N0->Nat->Nat
 | a,0=>0
 | a,k+1=>ZE a k|||(lg a k 0).toNat
theorem zrH:∀k,k<=lh a->(ZE a k).testBit p=(a.take k).any λx=>x.toNat.testBit p:=by
 intro k;induction k with
 | zero=>simp[ZE]
 | succ k b =>intro h;rw[ZE,bq,b om,bj 0 om];simp
theorem zoR(h:Uu L):∀k,k<=lh L->ZE L k<64:=by
 intro k;induction k with
 | zero=>simp[ZE]
 | succ k b =>intro c;have:=h _ (aP 0 (show k<lh L by omega));exact cu (n:=6) (b om) om
theorem zrI:(m&&&2^p==2^p)=m.testBit p:=by
 rw[aZ,aK];refine⟨λh=>?_,λh=>bB λi=>?_⟩;have e:(m&&&2^p).testBit p=true:=by grind
 grind;grind
theorem zrJ:(ZE a (lh a)).testBit p=ao a (2^p):=by rw[zrH a p _<|ab _,av];congr 1;funext x;exact(zrI _ _).symm
theorem Gb(h:aS n a=k0):AC prog 286 [.ag [al n,aE a]] (.im (al (ZE a (lh a):Nat))):=by
 refine cA [.tmp 2] func286 λj=>?_;have b:=dM h;have f:=fH h;refine aR<|aa (aH n a) ?_;have g:ZE a 0=0:=rfl;refine cZ h ?_;refine az (λk s=>(s.sl 1=.ref 1 1 0/\s.rw 1=⟨1,.box 26 _⟩/\s.sl 3=al (ZE a k)/\s.sl 10=aE a/\s.sl 11=al _/\s.sl 12=al k)/\(k<=lh a)) (λk=>lh a-k) 0 ⟨(jX g),aB _⟩ ?_;intro k l ⟨e,i⟩;refine cZ e ?_;refine⟨λc=>⟨c,c,?_⟩,λc=>?_⟩;have m:=b _<|aP 0 c;have o:=zoR b k om;have d:EX .i64 (ZE a k) (lg a k 0)=((ZE a (k+1):Nat)):=by rw[show lg a k 0=(((lg a k 0).toNat):Int)by omega,nQ om om];rfl
 exact ah _ ⟨(fB e d<|ak c om),om⟩;grind
theorem QU(h:aS (m:Int) a=k0)(d:p<m):AC prog 111 [.ag [al m,aE a],al (2^p:Nat)] (.tup [.ag [.im (al m),.fr 3 1 (iL (HY a p))],.im (aU k0)]):=by
 refine cA [.cell 4 26,.tmp 5] func111 λg=>?_;have⟨i,e,_⟩:=cY.1 h;have f:=p64 (show p<6 by omega);have b:2^p<2^m:=bN dc d;have c:di m (2^p:Nat)=true:=by unfold di;grind
 refine aR (aa (aH m a) ?_);refine cZ h (aa (eR m _) ?_);refine ff h c ?_;refine⟨kr,aa (cj m a (dM h)) ?_⟩;refine aR (aa (jR (ao a) _ f) ?_);rw[znS h om];refine aR (aa (mR m _ (zbS _)) ?_);rw[WP (zt h om)];refine aR ?_;kernel_rfl
theorem KJ(h:aS n a=k0)(b:0<lh a)(c:lM s=k0):AC prog 70 [.ag [al n,aE a],al s] (.fr 3 1 (iL (ed (ao a) s))):=by
 refine cA [.tmp 4] func70 λe=>?_;have d:((lh a:Int)==0)=false:=by grind
 refine aR<|aa (aH n a) ?_;refine ff h d<|aa (gB s) ?_;refine cZ c<|aa (cj n a<|dM h) ?_;refine aR<|aa (sv _ s c) ?_;exact ef
noncomputable def YI(n:Int)(a:N0)(p:Nat):Bool:=GA n (HY a p)&&sO n (HY a p)
noncomputable def rF(n:Int)(a:N0):Bool:=decide (gD n a=2)&&(sO n a&&(GA n a&&(lc 6).all λp=>!ao a (2^p)||YI n a p))
theorem zh7{l:O0}(a:k∈l)(h:q k=l0):l.all q=false:=by grind
theorem vY(h:aS (m:Int) a=k0):AC prog 217 [.ag [al m,aE a]] (.im (aU (rF m a))):=by
 refine cA [.tmp 2] func217 λN=>?_;have⟨O,P,_⟩:=cY.1 h;have y:=dM h;have I:=fH h;refine aR<|aa (mQ m a) ?_;refine aR ?_;refine⟨λd1=>aa (qV m a om) ?_,λd1=>by unfold rF;rw[aD<|bne_iff_ne.1 d1];rfl⟩;have o:rF m a=(sO m a&&(GA m a&&(lc 6).all λp=>!ao a (2^p)||YI m a p)):=by unfold rF;rw[ay<|show gD m a=2 by simpa using d1,au]
 refine aR ?_;refine⟨λd2=>aa (wa m a) ?_,λd2=>by rw[o,show sO m a=l0 by simpa using d2];rfl⟩;have q:rF m a=(GA m a&&(lc 6).all λp=>!ao a (2^p)||YI m a p):=by rw[o,show sO m a=k0 by simpa using d2,au]
 refine aR ?_;refine⟨λz=>by rw[q,show GA m a=l0 by simpa using z];rfl,λz=>aa (Gb m a h) ?_⟩;have r:rF m a=(lc 6).all λp=>!ao a (2^p)||YI m a p:=by rw[q,show GA m a=k0 by simpa using z,au]
 have u:=zoR y (lh a)<|ab _;have f:∀p,p∈ug (ZE a<|lh a) 6↔p<6/\ao a (2^p)=true:=λp=>by unfold ug;rw[dG,eJ,zrJ]
 have A:∀p,p<6->ao a (2^p)=k0->p<m:=λp B k=>by have:=(nV h).2 _ (p64 B) k;rw[ar]at this;exact(uo dc).1 this
 refine aR<|aa (vV _ u) ?_;have J:=FW (ZE a<|lh a) 6;have d:=ap<|ug (ZE a<|lh a) 6;generalize ug (ZE a<|lh a) 6=L at *;refine cZ d ?_;refine az (λ(j:Nat)s=>(s.sl 1=.ref 1 1 0/\s.rw 1=⟨1,.box 26 [al m,aE a]⟩/\s.sl 22=.own 22 1/\s.rw 22=⟨1,.sli 3 1 l0<|iL<|bl L⟩/\s.sl 23=al (lh L)/\s.sl 24=al j)/\(j<=lh L/\∀t,t<j->YI m a (lg L t 0)=k0)) (λj=>lh L-j) (0) ⟨(jX d),⟨aB _,λt g=>absurd g<|rb t⟩⟩ ?_;intro j Q ⟨l,C⟩;have⟨R,i⟩:=C;refine ff l d ?_;refine⟨λn=>⟨n,n,?_⟩,λn=>?_⟩;have⟨b,k⟩:=(f _).1 (aP 0 n);have w:=A _ b k;have x:∀t,t<j+1->YI m a (lg L j 0)=k0->YI m a (lg L t 0)=true:=λt g D=>by rcases Nat.lt_succ_iff_lt_or_eq.1 g with g|rfl;exact i t g;exact D
 have c:YI m a (lg L j 0)=l0->rF m a=false:=λD=>by rw[r];exact zh7 (List.mem_range.2 b)<|by rw[D,k];rfl
 rw[bX n];generalize L.getD j 0=p at *;have E:D0.u64.wrap (p:Int)=(p:Int):=dm om;have F:jl .i64 1 (p:Int)=((2^p:Nat):Int):=eh om;refine iD l E F<|aa (QU m a p h w) ?_;have K:=fH<|zt h b;unfold YI at x c;generalize HY a p=Y at *;refine cZ l<|aa (wa m Y) ?_;refine cZ l ?_;refine⟨λG=>aa (qV m Y om) ?_,λG=>c<|by rw[show GA m Y=l0 by simpa using G];rfl⟩;refine cZ l ?_;refine⟨λH=>c<|by rw[show sO m Y=l0 by simpa using H,cT],λH=>?_⟩;have M:(GA m Y&&sO m Y)=true:=by rw[show GA m Y=k0 by simpa using G,show sO m Y=k0 by simpa using H];rfl
 exact ah (j+1) ⟨(fB l d<|ak n om),⟨om,λt g=>x t g M⟩⟩;rw[r,List.all_eq_true.2 λp B=>?_];have b:=List.mem_range.1 B;cases k:ao a (2^p)with
 | false=>rfl
 | true =>have⟨t,g,e⟩:=eX 0 ((f p).2 ⟨b,k⟩);have:=i t om;rw[e]at this;rw[this];rfl
theorem vZ(h:aS (m:Int) a=k0):AC prog 303 [.ag [al m,aE a]] (.im (aU (rF m a))):=by
 refine cA [.tmp 2] func303 λI=>?_;have⟨J,K,_⟩:=cY.1 h;have i:=dM h;have F:=fH h;refine aR (aa (gZ m a) ?_);refine aR ?_;refine⟨λd1=>aa (qW m a om) ?_,λd1=>by unfold rF;rw[aD (bne_iff_ne.1 d1)];rfl⟩;have k:rF m a=(sO m a&&(GA m a&&(lc 6).all λp=>!ao a (2^p)||YI m a p)):=by unfold rF;rw[ay (show gD m a=2 by simpa using d1),au]
 refine aR ?_;refine⟨λd2=>aa (wb m a) ?_,λd2=>by rw[k,show sO m a=l0 by simpa using d2];rfl⟩;have l:rF m a=(GA m a&&(lc 6).all λp=>!ao a (2^p)||YI m a p):=by rw[k,show sO m a=k0 by simpa using d2,au]
 refine aR ?_;refine⟨λx=>by rw[l,show GA m a=l0 by simpa using x];rfl,λx=>?_⟩;have n:rF m a=(lc 6).all λp=>!ao a (2^p)||YI m a p:=by rw[l,show GA m a=k0 by simpa using x,au]
 have y:∀p,p<6->ao a (2^p)=k0->p<m:=λp z w=>by have:=(nV h).2 _ (p64 z) w;rw[ar]at this;exact(uo dc).1 this
 refine az (λ(j:Nat)s=>(s.sl 1=.ref 1 1 0/\s.rw 1=⟨1,.box 26 [al m,aE a]⟩/\s.sl 3=al j)/\(j<=m/\∀t,t<j->(!ao a (2^t)||YI m a t)=k0)) (λj=>m-j) (0) ⟨nm,⟨aB _,λt o=>absurd o (rb t)⟩⟩ ?_;intro j L ⟨e,A⟩;have⟨M,d⟩:=A;have q:D0.u64.wrap (j:Int)=(j:Int):=dm om;refine ff e q ?_;refine⟨λB=>?_,λB=>?_⟩;have f:j<6:=om;have g:=p64 f;have r:jl .i64 1 (j:Int)=((2^j:Nat):Int):=eh om;have c:(!ao a (2^j)||YI m a j)=k0->∀t,t<j+1->(!ao a (2^t)||YI m a t)=true:=λg t o=>by rcases Nat.lt_succ_iff_lt_or_eq.1 o with o|rfl;exact d t o;exact g
 have b:(!ao a (2^j)||YI m a j)=l0->rF m a=false:=λg=>by rw[n];exact zh7 (List.mem_range.2 f) g
 rw[r];refine aa (jB m a _ i g) ?_;refine iD e q r ?_;refine⟨λu=>?_,λu=>?_⟩;exact ah (j+1) ⟨(gE e (ak B om)),⟨om,c (by rw[u];rfl)⟩⟩;have u:ao a (2^j)=true:=ss u;rw[u,jU,gm]at c b;refine aa (lQ m a _ g i om) ?_;have G:=fH (zt h f);unfold YI at c b;rw[show bl (dI (hU (qU a (2^j))) k0)=HY a j from rfl];generalize HY a j=Y at *;refine cZ e (aa (wb m Y) ?_);refine cZ e ?_;refine⟨λC=>aa (qW m Y om) ?_,λC=>b (by rw[show GA m Y=l0 by simpa using C];rfl)⟩;refine cZ e ?_;refine⟨λD=>b (by rw[show sO m Y=l0 by simpa using D,cT]),λD=>?_⟩;have H:(GA m Y&&sO m Y)=true:=by rw[show GA m Y=k0 by simpa using C,show sO m Y=k0 by simpa using D];rfl
 exact ah (j+1) ⟨(gE e (ak B om)),⟨om,c H⟩⟩;grind
theorem zup{g:V0}(h:∀t,t<64->(g t=k0↔∃s,s<64/\q s=k0/\t&&&s=t)):dI q k0=dI g true:=by refine zoo (Ft _ _) (Ft _ _) λs=>?_;rw[ja,ja,ku,ku];grind
theorem zJ(d:Uu L)(h:∀t,t<64->(q t=k0↔∃x∈L,x.toNat&&&t=t)):bl (dI (hU L) k0)=bl (dI q k0):=by refine cV bl<|zup λt e=>?_;rw[h t e];constructor;rintro⟨x,c,a⟩;have:=d x c;refine⟨x.toNat,om,?_,by rw[cl];exact a⟩;rw[zC,aq,show((x.toNat:Nat):Int)=x by omega];exact c;rintro⟨s,c,a,f⟩;rw[zC,aq]at a;exact⟨s,a,by rw[ar,cl];exact f⟩
theorem zeK{s t:Nat}:k&&&(t|||s)=t|||s↔k&&&t=t/\k&&&s=s:=by simp[cg];grind
theorem AZ{s t:Nat}:(k&&&s)&&&t=t↔k&&&t=t/\s&&&t=t:=by grind
def xO(b:Bool)(n:Int)(f:V0):RV:=.tup [.ag [.im (al (if b=k0 then n else 0)),.fr 3 1 (iL (if b=k0 then bl (dI f k0)else []))],.im (aU b)]
theorem eH:xO l0 n f=.tup [.ag [.im (al 0),.fr 3 1 []],.im (aU l0)]:=rfl
theorem kX:xO k0 n f=.tup [.ag [.im (al n),.fr 3 1 (iL (bl (dI f k0)))],.im (aU k0)]:=rfl
theorem iI{s:Int}(h:di x s=k0):∃m u:Nat,x=m/\s=u/\m<=6/\u<2^m/\u<64:=by unfold di at h;rw[aq]at h;obtain⟨b,c,d,a⟩:=h;obtain⟨m,rfl⟩:∃m:Nat,x=m:=⟨x.toNat,om⟩;obtain⟨u,rfl⟩:∃u:Nat,s=u:=⟨s.toNat,om⟩;rw[iM]at a;have:=dx (m:=m) om;exact⟨m,u,rfl,rfl,om,om,om⟩
theorem dP:AC prog 121 [al n,dv (bA f 64:Nat)] (.ag [.im (al n),.fr 3 1 (iL (bl (dI f k0)))]):=by have:=mR n _<|kz f;rwa [je (jq f) _]at this
theorem Ps:AC prog 111 [.ag [al n,aE a],al s] (xO (aS n a&&di n s) n (dL (ao a) s.toNat)):=by
 refine cA [.cell 4 26,.tmp 5] func111 λf=>?_;refine aR<|aa (aH n a) ?_;cases d:aS n a with
 | false =>simp[au,eH];exact ef
 | true =>
   refine aR<|aa (eR n s) ?_;cases e:di n s with
   | false =>simp only[ce,au,eH];exact ef
   | true =>obtain⟨m,u,rfl,rfl,g,h,c⟩:=iI e;refine aR ?_;refine⟨kr,aa (cj m a (dM d)) ?_⟩;refine aR<|aa (jR (ao a) u c) ?_;refine aR<|aa (dP _ _) ?_;simp only[au,kX];refine aR ?_;kernel_rfl
theorem FZ:AC prog 113 [.ag [al n,aE a],al s] (xO (aS n a&&di n s) n (pB (ao a) s.toNat)):=by
 refine cA [.cell 4 26,.tmp 5] func113 λf=>?_;refine aR<|aa (aH n a) ?_;cases d:aS n a with
 | false =>simp[au,eH];exact ef
 | true =>
   refine aR<|aa (eR n s) ?_;cases e:di n s with
   | false =>simp only[ce,au,eH];exact ef
   | true =>obtain⟨m,u,rfl,rfl,g,h,c⟩:=iI e;refine aR ?_;refine⟨kr,aa (cj m a (dM d)) ?_⟩;refine aR<|aa (jC (ao a) u c) ?_;refine aR<|aa (dP _ _) ?_;simp only[au,kX];refine aR ?_;kernel_rfl
theorem Io:AC prog 114 [.ag [al n,aE a],al s] (xO (aS n a&&di n s) n (λt=>ao a t&&eG s.toNat t)):=by
 refine cA [.cell 4 26,.tmp 5] func114 λf=>?_;refine aR<|aa (aH n a) ?_;cases d:aS n a with
 | false =>simp[eH];exact ef
 | true =>
   refine aR<|aa (eR n s) ?_;cases e:di n s with
   | false =>simp[ce,eH];exact ef
   | true =>obtain⟨m,u,rfl,rfl,g,h,c⟩:=iI e;refine aR ?_;refine⟨kr,aa (cj m a (dM d)) ?_⟩;refine aR<|aa (vC _ u c) ?_;refine aR<|aa (dP _ _) ?_;simp[au,kX];refine aR ?_;rfl
theorem KH(h:aS x L=k0):∃m:Nat,x=m/\1<=m/\m<=6:=have⟨b,c,_⟩:=cY.1 h;⟨x.toNat,om,om,om⟩
theorem KI(t:Nat)(a:m<18446744073709551616)(b:p<64)(c:t<64):AC prog 204 [al t,.eref l0 [dv m] 0,.eref l0 [al p] 0] (.im (aU (m.testBit (t|||p)))):=by refine cA [.tmp 4] func204 λe=>?_;have d:EX _ t p=t|||p:=nQ om om;refine cZ d<|aa (ez m _ a<|cu (n:=6) c b) ?_;exact ef
theorem QR:AC prog 112 [.ag [al n,aE a],al s] (xO (aS n a&&di n s) n (λt=>decide (t<2^n.toNat)&&ao a (t|||s.toNat))):=by
 refine cA [.cell 4 26,.tmp 5] func112 λj=>?_;refine aR<|aa (aH n a) ?_;cases f:aS n a with
 | false =>simp[au,eH];exact ef
 | true =>
   have c:=dM f;refine aR<|aa (eR n s) ?_;cases g:di n s with
   | false =>simp[au,eH];exact ef
   | true =>obtain⟨m,u,rfl,rfl,d,k,b⟩:=iI g;refine aR<|aa (cj m a c) ?_;have h:=dx d;have i:=dj (ao a) 64;refine aR ?_;refine aa (gF m d _ _ _ (λrw=>rfl) λt e=>KI _ u t om b om) ?_;rw[oq d λt e=>by rw[ek _<|cu (n:=6) e b]];refine aR<|aa (dP _ _) ?_;simp[kX];exact ef
theorem Ga:AC prog 110 [.ag [al n,aE a],al s] (xO (aS n a&&(decide (0<=s)&&decide (s<=6))) n (skF (ao a) s.toNat)):=by
 refine cA [.cell 4 26,.tmp 5] func110 λg=>?_;refine aR<|aa (aH n a) ?_;cases f:aS n a with
 | false =>simp only[ce,eH];exact ef
 | true =>
   have b:=dM f;by_cases c:0<=s/\s<=6;obtain⟨j,rfl⟩:∃j:Nat,s=j:=⟨s.toNat,om⟩;rw[ay c.1,ay c.2];refine iD (show((j:Int)<0)=False from aX om) (show((6:Int)<(j:Int))=False from aX om) (show(6<j)=False from aX om) ?_;refine⟨kr,aa (cj n a b) ?_⟩;refine aR<|aa (FR (ao a) j) ?_;refine aR<|aa (dP _ _) ?_;simp only[au,kX];refine aR ?_;kernel_rfl;have e:(decide (0<=s)&&decide (s<=6))=false:=by grind
   rw[e,cT,eH];by_cases d:s<0;exact mg<|bO d;exact DL (aX d)<|show(6<s)=True from bO om
theorem Pt:AC prog 106 [.ag [al n,aE a],.ag [al s,aE b]] (xO (aS n a&&(aS s b&&decide (n=s))) n (λt=>ao a t||ao b t)):=by
 refine cA [.cell 4 26,.tmp 5] func106 λl=>?_;refine aR<|aa (aH n a) ?_;cases h:aS n a with
 | false =>simp[ce,au,eH];exact ef
 | true =>
   have f:=dM h;refine aR<|aa (aH s b) ?_;cases i:aS s b with
   | false =>simp[ce,au,eH];exact ef
   | true =>
     have d:=dM i;by_cases g:n=s;subst g;rw[ay rfl];refine cZ (show(n != n)=l0 by simp) ?_;refine⟨kr,aa (cj n a f) ?_⟩;refine aR<|aa (cj n b d) ?_;have j:=dj (ao a) 64;have k:=dj (ao b) 64;have e:EX .u64 (bA (ao a) 64) (bA (ao b) 64)=((bA (λt=>ao a t||ao b t) 64:Nat):Int):=by rw[Ca om om,FB]
     refine cZ e<|aa (dP _ _) ?_;simp[au,kX];simp[↓gp,gq,simprocAttr,gT,e];rfl;simp only[aD g,cT,eH];exact mg<|bne_iff_ne.2 g
theorem QS:AC prog 107 [.ag [al n,aE a],.ag [al s,aE b]] (xO (aS n a&&(aS s b&&decide (n=s))) n (λt=>ao a t&&ao b t)):=by
 refine cA [.cell 4 26,.tmp 5] func107 λl=>?_;refine aR<|aa (aH n a) ?_;cases h:aS n a with
 | false =>simp only[ce,au,eH];exact ef
 | true =>
   have f:=dM h;refine aR<|aa (aH s b) ?_;cases i:aS s b with
   | false =>simp only[ce,au,eH];exact ef
   | true =>
     have d:=dM i;by_cases g:n=s;subst g;rw[ay (rfl:n=n)];refine cZ (show(n != n)=l0 by simp) ?_;refine⟨kr,aa (cj n a f) ?_⟩;refine aR<|aa (cj n b d) ?_;have j:=dj (ao a) 64;have k:=dj (ao b) 64;have e:fu .u64 (bA (ao a) 64:Nat) (bA (ao b) 64:Nat)=((bA (λt=>ao a t&&ao b t) 64:Nat):Int):=by rw[zdD om om,zbD]
     refine cZ e<|aa (dP _ _) ?_;simp only[au,kX];simp only[↓gp,gq,simprocAttr,gT,e];kernel_rfl;simp only[aD g,cT,eH];exact mg<|bne_iff_ne.2 g
theorem QT:AC prog 98 [.ag [al n,aE a]] (xO (aS n a) n (Cb n.toNat (ao a))):=by
 refine cA [.cell 2 26,.tmp 3] func98 λf=>?_;refine aR<|aa (aH n a) ?_;cases d:aS n a with
 | false =>simp[eH];exact ef
 | true =>refine aR ?_;obtain⟨m,rfl,e,c⟩:=KH d;refine⟨kr,aa (cj m a (dM d)) ?_⟩;refine aR<|aa (Qz m c<|ao a) ?_;refine aR<|aa (dP _ _) ?_;simp[kX];refine aR ?_;rfl
theorem zuo(h:k<lh L)(a:d (lg L k 0)=k0):(L.take (k+1)).filter d=(L.take k).filter d++[lg L k 0]:=by rw[bj 0 h];grind
theorem zvZ(h:k<lh L)(a:d (lg L k 0)=l0):(L.take (k+1)).filter d=(L.take k).filter d:=by rw[bj 0 h];grind
theorem LC(h:0<=x/\x<64)(a:k<64):fu .i64 x (k:Int)=((x.toNat&&&k:Nat):Int):=by rw[<- ej om om];grind
theorem uj{g:V0}(n:Int)(h:bl (dI (hU L) k0)=bl (dI g k0)):xO k0 n g=.tup [.ag [.im (al n),.fr 3 1 (iL (bl (dI (hU L) k0)))],.im (aU k0)]:=by rw[h];rfl
theorem mT:AC prog 251 [.ag [al n,aE a],al s] (.im (aU (aS n a&&di n s))):=by
 refine cA [.tmp 4] func251 λb=>?_;refine aR<|aa (bw n a) ?_;cases c:aS n a with
 | false =>exact ef
 | true =>refine aR<|aa (ro n s) ?_;exact ef
theorem QP:AC prog 246 [.ag [al n,aE a],al s] (xO (aS n a&&di n s) n (dL (ao a) s.toNat)):=by
 refine cA [.cell 4 26,.tmp 5] func246 λi=>?_;refine aR<|aa (mT n a s) ?_;cases f:aS n a&&di n s with
 | false =>rw[eH];exact ef
 | true =>
   obtain⟨c,g⟩:=Bool.and_eq_true_iff.1 f;obtain⟨m,u,rfl,rfl,j,k,b⟩:=iI g;have h:=fH c;refine aR<|aa (lQ m a u b (dM c) om) ?_;have e:bl (dI (hU<|qU a u) k0)=bl (dI (dL (ao a) u) k0):=by conv=>lhs;rw[xe<|OV c b,OT c b]
   exact uj _ e▸ef
theorem FX:AC prog 248 [.ag [al n,aE a],al s] (xO (aS n a&&di n s) n (pB (ao a) s.toNat)):=by
 refine cA [.cell 4 26,.tmp 5] func248 λh=>?_;refine aR<|aa (mT n a s) ?_;cases d:aS n a&&di n s with
 | false =>rw[eH];exact ef
 | true =>obtain⟨b,e⟩:=Bool.and_eq_true_iff.1 d;obtain⟨m,u,rfl,rfl,i,j,c⟩:=iI e;refine aR<|aa (ky m a u c) ?_;rw[mP b,kX];exact ef
theorem In:AC prog 249 [.ag [al n,aE a],al s] (xO (aS n a&&di n s) n (λt=>ao a t&&eG s.toNat t)):=by
 refine cA [.cell 4 26,.tmp 5] func249 λp=>?_;refine aR<|aa (mT n a s) ?_;cases i:aS n a&&di n s with
 | false =>rw[eH];exact ef
 | true =>
   obtain⟨h,j⟩:=Bool.and_eq_true_iff.1 i;obtain⟨m,u,rfl,rfl,q,r,c⟩:=iI j;have b:=dM h;have k:=fH h;refine aR ?_;refine aa (xG m a u c b om) ?_;have e:bl (dI (hU<|a.map λx=>fu .i64 x u) k0)=bl (dI (λt=>ao a t&&eG u t) k0):=by refine zJ (λx f=>?_) λt w=>?_;obtain⟨y,l,rfl⟩:=List.mem_map.1 f;exact zhb (b y l) om;unfold eG;rw[aj,eT,aK];constructor;rintro⟨⟨x,g,d⟩,o⟩;exact⟨_,List.mem_map.2 ⟨x,g,rfl⟩,by rw[LC (b x g) c,ar];exact AZ.2 ⟨d,o⟩⟩;rintro⟨_,g,d⟩;obtain⟨x,f,rfl⟩:=List.mem_map.1 g;rw[LC (b x f) c,ar]at d;grind
   rw[uj _ e];exact ef
theorem QQ:AC prog 247 [.ag [al n,aE a],al s] (xO (aS n a&&di n s) n (λt=>decide (t<2^n.toNat)&&ao a (t|||s.toNat))):=by
 refine cA [.cell 4 26,.tmp 5] func247 λN=>?_;simp -dsimp only[↓gp,gq,simprocAttr,gT];refine aa (mT n a s) ?_;cases E:aS n a&&di n s with
 | false =>rw[eH];simp -dsimp only[↓gp,gq,simprocAttr,gT]
 | true =>
   obtain⟨A,F⟩:=Bool.and_eq_true_iff.1 E;obtain⟨m,u,rfl,rfl,O,P,B⟩:=iI F;have r:=dM A;have G:=fH A;simp (maxSteps:=9^7) -dsimp only[↓gp,gq,simprocAttr,gT];have e:bl (dI (hU (a.filter λx=>fu .i64 x u==(u:Int))) k0)=bl (dI (λt=>decide (t<2^m)&&ao a (t|||u)) k0):=by
    refine zJ (λx z=>r x (List.mem_filter.1 z).1) λt H=>?_;rw[aj,aq,eT];have w:∀x∈a,(fu .i64 x u==(u:Int))=k0↔x.toNat&&&u=u:=λx h=>by rw[aK,LC (r x h) B];omega
    constructor;rintro⟨_,x,p,y⟩;exact⟨x,List.mem_filter.2 ⟨p,(w x p).2 (zeK.1 y).2⟩,(zeK.1 y).1⟩;rintro⟨x,p,y⟩;obtain⟨p,I⟩:=List.mem_filter.1 p;have:=(nV A).2 t H (eT.2 ⟨x,p,y⟩);grind
   rw[uj _ e];generalize C:(λx:Int=>fu .i64 x (u:Int)==(u:Int))=q at *;refine az (λ((k,v):Nat×Nat) s=>s.sl 1=al u/\s.sl 2=.ref 2 1 0/\s.rw 2=⟨1,.box 26 [al m,aE a]⟩/\s.sl 4=.ref 4 1 0/\s.rw 4=⟨1,.box 26 [al 0,.v (.slice none 0 0)]⟩/\s.sl 5=aU l0/\s.sl 6=.own 13 v/\s.rw 13=⟨v,.sli 3 1 l0 (iL ((a.take k).filter q))⟩/\s.sl 7=al k/\(k<=lh a)) (λ(k,v)=>lh a-k) ((0,1)) (by refine⟨?_,?_,?_,?_,?_,?_,?_,?_,?_,sp⟩<;>(rfl)) ?_;intro(k,v) Q ⟨c,d,f,g,i,j,l,b,o,K⟩;have L:lh ((a.take k).filter q)<=k:=aJ (aO _ _) (by rw[bg];omega);simp -dsimp only[↓gp,gq,simprocAttr,gT,c,d,f,g,i,j,l,b,o];refine⟨λh=>⟨h,h,?_⟩,λh=>?_⟩;have M:(fu .i64 (lg a k 0) (u:Int)==(u:Int))=q (lg a k 0):=by rw[<- C]
   rw[M];refine⟨λD=>⟨h,h,om,ah ((k+1,v+1)) (by refine⟨?_,?_,?_,?_,?_,?_,?_,?_,?_,om⟩<;>(first|(simp (maxSteps:=9^7) -dsimp only[gr,lj,lm,ll,lk,lw,c,d,f,g,i,j,l,b,o,ak h om,zuo h D])|assumption|rfl)) (om)⟩,λD=>ah ((k+1,v)) (by refine⟨?_,?_,?_,?_,?_,?_,?_,?_,?_,om⟩<;>(first|(simp (maxSteps:=9^7) -dsimp only[gr,lj,lm,ll,lk,lw,c,d,f,g,i,j,l,b,o,ak h om,zvZ h D])|assumption|rfl)) (om)⟩;have:k=lh a:=om;subst this;refine aa (eV m _ λx z=>?_) ?_;rw[av]at z;exact r x (List.mem_filter.1 z).1;simp -dsimp only[↓gp,gq,simprocAttr,gT,c,d,f,g,i,j,l,b,o,av]
theorem FY:AC prog 165 [.ag [al n,aE a],al s] (xO (aS n a&&(decide (0<=s)&&decide (s<=6))) n (skF (ao a) s.toNat)):=by
 refine cA [.cell 4 26,.tmp 5] func165 λH=>?_;refine aR (aa (bw n a) ?_);cases w:aS n a with
 | false =>simp only[ce,eH];exact ef
 | true =>
   refine aR (aa (fe _ _ _) ?_);cases y:(decide (0<=s)&&decide (s<=6))with
   | false =>rw[au,eH];exact ef
   | true =>
     rw[aj,aq,aq]at y;obtain⟨j,rfl⟩:∃j:Nat,s=j:=⟨s.toNat,om⟩;refine aR (aa (io n a) ?_);rw[mP w];have e:bl (dI (hU (bl ((co (ao a)).filter λt=>decide (aQ t<=j)))) k0)=bl (dI (skF (ao a) j) k0):=by refine cV bl (je (λk l=>?_) k0);rw[pb,aZ,aq,dG,cR];simp_all[skF,aj]
     rw[uj _ e];have c:=ap (co (ao a));have m:=ordN_len (ao a);have d:=λi (z:i<lh (co (ao a)))=>(cR.1 (aP 0 z)).1;have b:∀g∈co (ao a),g<64:=λg A=>(cR.1 A).1;generalize co (ao a)=all at *;generalize o:(λt:Nat=>decide (aQ t<=j))=q at *;refine aR ?_;refine az (λ((s,v):Nat×Nat) k=>(k.sl 1=al j/\k.sl 2=.ref 2 1 0/\k.rw 2=⟨1,.box 26 [al n,aE a]⟩/\k.sl 4=.ref 4 1 0/\k.rw 4=⟨1,.box 26 [al 0,.v (.slice none 0 0)]⟩/\k.sl 5=aU l0/\k.sl 6=.own 18 v/\k.rw 18=⟨v,.sli 3 1 l0 (iL (bl ((all.take s).filter q)))⟩/\k.sl 7=.own 20 1/\k.rw 20=⟨1,.sli 3 1 l0 (iL (bl all))⟩/\k.sl 8=al s)/\(s<=lh all)) (λ(s,v)=>lh all-s) ((0,1)) ⟨nm,om⟩ ?_;intro(s,v) I ⟨f,C⟩;have D:lh ((all.take s).filter q)<=s:=aJ (aO _ _) (by rw[bg];omega);refine ff f c ?_;refine⟨λh=>?_,λh=>?_⟩;have E:=d s h;rw[bX h];refine⟨h,h,aa (ey _ om) ?_⟩;have r:=ak h (by omega);have u:q (lg all s 0)=decide (aQ (lg all s 0)<=j):=by rw[<- o]
     refine iD f c (bX h) ?_;refine⟨λF=>⟨h,h,by rw[ap];omega,?_⟩,λF=>?_⟩;have e:bl ((all.take (s+1)).filter q)=bl ((all.take s).filter q)++[((lg all s 0:Nat):Int)]:=by rw[ny h (by rw[u];exact ay om),cI];rfl
     exact ah ((s+1,v+1)) ⟨(rS f r e (bX h)),by dsimp only;omega⟩;have e:=qv h (p:=q) (by rw[u];exact aD om);exact ah ((s+1,v)) ⟨(fB f r e),by dsimp only;omega⟩;have e:s=lh all:=om;subst e;rw[av];refine aa (eV n _ (λx G=>?_)) ?_;obtain⟨k,l,rfl⟩:=List.mem_map.1 (G);grind;exact mg f
def DC(c:Int->Int->Int)(xs ys:N0)(i j:Nat):N0:=((xs.take i).flatMap λx=>ys.map (c x))++(ys.take j).map (c (lg xs i 0))
section
variable {c:Int->Int->Int}{xs ys:N0}{i j:Nat}
theorem Xt(h:j<lh ys):DC c xs ys i (j+1)=DC c xs ys i j++[c (lg xs i 0) (lg ys j 0)]:=by unfold DC;rw[bj 0 h,cq,cP];rfl
theorem zeH(h:i<lh xs):DC c xs ys i (lh ys)=DC c xs ys (i+1) 0:=by unfold DC;rw[bj 0 h];simp
theorem Xu:DC c xs ys 0 0=[]:=rfl
theorem zoN(a:j<=lh ys):i<=lh xs->lh (DC c xs ys i j)=i*ys.length+j:=by
 intro b;rw[DC,aA,aG,bg,ra a];congr 1;induction i with
 | zero=>simp
 | succ i d=>simp[bj 0 b,d om,Nat.succ_mul]
theorem zeI:n∈DC c xs ys (lh xs) 0↔∃a∈xs,∃b∈ys,c a b=n:=by simp[DC]
end
theorem zoO{c:Int->Int->Int}{ys:N0}(h:∀a∈L,∀b∈ys,0<=c a b/\c a b<64):Uu (DC c L ys (lh L) 0):=λx d=>by obtain⟨a,e,b,f,rfl⟩:=(zeI x).1 d;grind
theorem zoP{b c d:Nat}(e:k<=c)(f:b<=d):k*b<=c*d:=zX e f
def Xv(a b:Int):Int:=fu .i64 a b
theorem QM:AC prog 163 [.ag [al n,aE a],.ag [al s,aE b]] (xO (aS n a&&(aS s b&&decide (n=s))) n (λt=>ao a t&&ao b t)):=by
 refine cA [.cell 4 26,.tmp 5] func163 λJ=>?_;refine aR (aa (bw n a) ?_);cases y:aS n a with
 | false =>simp only[ce,au,eH];exact ef
 | true =>
   refine aR (aa (bw s b) ?_);cases z:aS s b with
   | false =>simp only[ce,au,eH];exact ef
   | true =>
     by_cases r:n=s
     ·subst r;have l:=dM y;have p:=dM z;have B:=fH y;have C:=fH z;rw[ay (rfl:n=n)];have d:∀k∈a,∀xs∈b,Xv k xs=((k.toNat&&&xs.toNat:Nat):Int):=λk f xs g=>by
       have:=p xs g;unfold Xv
       conv=>lhs;rw[show xs=((xs.toNat:Nat):Int)by omega]
       exact LC (l k f) om
      have e:bl (dI (hU (DC Xv a b (lh a) 0)) k0)=bl (dI (λt=>ao a t&&ao b t) k0):=by
       refine zJ (zoO λk f xs g=>?_) λt K=>?_
       ·rw[d k f xs g];have m:k.toNat&&&xs.toNat<=k.toNat:=bI;have:=l k f;omega
       ·rw[aj,eT,eT];constructor
        ·rintro⟨⟨k,f,m⟩,xs,g,o⟩;exact⟨_,(zeI _).2 ⟨k,f,xs,g,rfl⟩,by rw[d k f xs g,ar];exact AZ.2 ⟨m,o⟩⟩
        ·rintro⟨x,D,m⟩;obtain⟨k,f,xs,g,rfl⟩:=(zeI _).1 D;rw[d k f xs g,ar]at m;exact⟨⟨k,f,(AZ.1 m).1⟩,xs,g,(AZ.1 m).2⟩
      rw[au,au,uj _ e];refine cZ (show(n != n)=l0 by simp) ?_;refine az (λ((i,v):Nat×Nat) ys=>(ys.sl 2=.ref 2 1 0/\ys.rw 2=⟨1,.box 26 [al n,aE a]⟩/\ys.sl 3=.ref 3 1 0/\ys.rw 3=⟨1,.box 26 [al n,aE b]⟩/\ys.sl 4=.ref 4 1 0/\ys.rw 4=⟨1,.box 26 [al 0,.v (.slice none 0 0)]⟩/\ys.sl 5=aU l0/\ys.sl 6=.own 25 v/\ys.rw 25=⟨v,.sli 3 1 l0 (iL (DC Xv a b i 0))⟩/\ys.sl 7=al i)/\(i<=lh a)) (λ(i,v)=>lh a-i) ((0,1)) ⟨(jX @Xu),om⟩ ?_;intro(i,v) L ⟨q,F⟩;refine cZ q ?_;refine⟨λh=>?_,λh=>?_⟩
      ·refine az (λ((j,v):Nat×Nat) ys=>(ys.sl 2=.ref 2 1 0/\ys.rw 2=⟨1,.box 26 [al n,aE a]⟩/\ys.sl 3=.ref 3 1 0/\ys.rw 3=⟨1,.box 26 [al n,aE b]⟩/\ys.sl 4=.ref 4 1 0/\ys.rw 4=⟨1,.box 26 [al 0,.v (.slice none 0 0)]⟩/\ys.sl 5=aU l0/\ys.sl 6=.own 25 v/\ys.rw 25=⟨v,.sli 3 1 l0 (iL (DC Xv a b i j))⟩/\ys.sl 7=al i/\ys.sl 8=al j)/\(j<=lh b)) (λ(j,v)=>lh b-j) ((0,v)) ⟨(jX q),om⟩ ?_;intro(j,v) M ⟨u,w⟩;have H:=zoN (c:=Xv) (xs:=a) (ys:=b) w (dY h);have A:=zoP (show i<=448 by omega) (show (lh b)<=448 by omega);refine cZ u ?_;refine⟨λo=>?_,λo=>?_⟩
       ·refine⟨kr,h,h,o,o,om,kr,?_⟩;have I:DC Xv a b i (j+1)=DC Xv a b i j++[fu .i64 (lg a i 0) (lg b j 0)]:=Xt o;exact ah ((j+1,v+1)) ⟨(fB u (ak o om) I),by dsimp only;omega⟩
       ·have:j=lh b:=om;subst this;exact ah ((i+1,v)) ⟨(rS q u (ak h om) (zeH (c:=Xv) (ys:=b) h)),by dsimp only;omega⟩
      ·have:i=lh a:=om;subst this;refine aa (eV n _ (zoO λk f xs g=>?_)) ?_
       ·rw[d k f xs g];have m:k.toNat&&&xs.toNat<=k.toNat:=bI;have:=l k f;omega
       ·exact mg q
     ·rw[aD r,cT,cT,eH];exact mg (show(n != s)=k0 from bne_iff_ne.2 r)
theorem Pr:AC prog 162 [.ag [al n,aE a],.ag [al s,aE b]] (xO (aS n a&&(aS s b&&decide (n=s))) n (λt=>ao a t||ao b t)):=by
 refine cA [.cell 4 26,.tmp 5] func162 λp=>?_;refine aR<|aa (bw n a) ?_;cases k:aS n a with
 | false =>simp only[ce,au,eH];exact ef
 | true =>
   refine aR<|aa (bw s b) ?_;cases l:aS s b with
   | false =>simp only[ce,au,eH];exact ef
   | true =>
     by_cases h:n=s;subst h;have i:=dM k;have g:=dM l;have m:=fH k;have o:=fH l;rw[ay (rfl:n=n)];have c:Uu (a++b):=λx d=>(List.mem_append.1 d).elim (i x)<|g x;have e:bl (dI (hU<|a++b) k0)=bl (dI (λt=>ao a t||ao b t) k0):=by
      refine zJ c λt q=>?_;rw[cw,eT,eT];grind
     rw[au,au,uj _ e];refine cZ (show(n != n)=l0 by simp) ?_;refine⟨kr,om,om,aa (eV n _ c) ?_⟩;refine aR ?_;kernel_rfl;rw[aD h,cT,cT,eH];exact mg<|bne_iff_ne.2 h
def Xw(n:Nat)(a b:Int):Int:=a+b*2^n
theorem zeJ{m a b:Nat}(f:k+m<=6)(c:a<2^k)(d:b<2^m):a+b*2^k<64/\b*2^k<64/\a|||(b*2^k)=a+b*2^k:=have e:∀k,k<7->∀a,a<2^k->∀b,b<2^(6-k)->a+b*2^k<64/\b*2^k<64/\a|||(b*2^k)=a+b*2^k:=dc;e k om a c b<|cp d<|aV dc om
noncomputable def joF(n:Nat)(xs ys:N0)(t:Nat):Bool:=ao (DC (Xw n) xs ys (lh xs) 0) t
theorem zoQ{a:Nat}{ys:N0}(g:k+a<=6)(i:aS (k:Int) L=k0)(j:aS (a:Int) ys=k0){b:Int}(l:x∈L)(o:b∈ys):∃p q:Nat,x=p/\b=q/\p<2^k/\q<2^a/\Xw k x b=((p+q*2^k:Nat):Int)/\p+q*2^k<64:=by
 have lt:∀{n:Nat}{c:N0},aS (n:Int) c=k0->∀z∈c,∃p:Nat,z=p/\p<2^n:=λ{n c}h z d=>by have r:=dM h z d;refine⟨z.toNat,om,?_⟩;have:=(nV h).2 z.toNat om<|eT.2 ⟨z,d,dp _⟩;rwa [ar]at this
 obtain⟨p,rfl,e⟩:=lt i x l;obtain⟨q,rfl,f⟩:=lt j b o;exact⟨p,q,rfl,rfl,e,f,by unfold Xw;simp,(zeJ g e f).1⟩
theorem zcf{q m:Nat}(a:m<64)(h:q*2^m<9223372036854775808):jl .i64 (q:Int) (m:Int)=((q*2^m:Nat):Int):=by rw[jl,show min _ _=m by simp[D0.bits];omega,show(q:Int)*2^m=(q*2^m:Nat)by simp];exact aF om om
theorem Vc:ao (a++[s]) p=(ao a p||eG s.toNat p):=by simp[ao,eG]
theorem zrG{xs:Nat}{ys:N0}(c:k+xs<=6)(d:aS (k:Int) L=k0)(f:aS (xs:Int) ys=k0):Uu (DC (Xw k) L ys (lh L) 0) :=
 zoO λa g b i=>by have⟨p,q,_,_,_,_,e,h⟩:=zoQ c d f g i;grind
theorem uh:AC prog 105 [.ag [al n,aE a],.ag [al s,aE b]] (xO (aS n a&&(aS s b&&decide (n+s<=6))) (n+s) (joF n.toNat a b)):=by
 refine cA [.cell 4 26,.tmp 5] func105 λN=>?_;refine aR<|aa (aH n a) ?_;cases l:aS n a with
 | false =>simp only[ce,au,eH];exact ef
 | true =>
   refine aR<|aa (aH s b) ?_;cases o:aS s b with
   | false =>simp only[ce,au,eH];exact ef
   | true =>
     obtain⟨m,rfl,r,B⟩:=KH l;obtain⟨k,rfl,C,D⟩:=KH o;have u:D0.i64.wrap ((m:Int)+(k:Int))=((m+k:Nat):Int):=by rw[aF om om];rfl
     have E:=fH l;have F:=fH o;by_cases A:m+k<=6;rw[ay<|show(m:Int)+k<=6 by omega,au,au,kX];have G:bA (ao<|DC (Xw m) a b 0 0) 64=0:=by rw[Xu];exact vB
     have w:D0.u64.wrap (m:Int)=(m:Int):=dm om;refine iD u (show((6:Int)<((m+k:Nat):Int))=False from aX om) (show(6<m+k)=False from aX om) ?_;refine az (λ(i:Nat)ys=>(ys.sl 2=.ref 2 1 0/\ys.rw 2=⟨1,.box 26 [al m,aE a]⟩/\ys.sl 3=.ref 3 1 0/\ys.rw 3=⟨1,.box 26 [al k,aE b]⟩/\ys.sl 4=.ref 4 1 0/\ys.rw 4=⟨1,.box 26 [al 0,.v (.slice none 0 0)]⟩/\ys.sl 5=aU l0/\ys.sl 6=dv (bA (ao<|DC (Xw m) a b i 0) 64:Nat)/\ys.sl 29=aE a/\ys.sl 30=al (lh a)/\ys.sl 31=al i)/\(i<=lh a)) (λi=>lh a-i) (0) ⟨(jX G),aB _⟩ ?_;intro i O ⟨g,H⟩;refine cZ g ?_;refine⟨λh=>⟨h,h,?_⟩,λh=>?_⟩;refine az (λ(j:Nat)ys=>(ys.sl 2=.ref 2 1 0/\ys.rw 2=⟨1,.box 26 [al m,aE a]⟩/\ys.sl 3=.ref 3 1 0/\ys.rw 3=⟨1,.box 26 [al k,aE b]⟩/\ys.sl 4=.ref 4 1 0/\ys.rw 4=⟨1,.box 26 [al 0,.v (.slice none 0 0)]⟩/\ys.sl 5=aU l0/\ys.sl 6=dv (bA (ao<|DC (Xw m) a b i j) 64:Nat)/\ys.sl 8=al (lg a i 0)/\ys.sl 29=aE a/\ys.sl 30=al (lh a)/\ys.sl 31=al i/\ys.sl 36=aE b/\ys.sl 37=al (lh b)/\ys.sl 38=al j)/\(j<=lh b)) (λj=>lh b-j) (0) ⟨(jX g),aB _⟩ ?_;intro j P ⟨f,I⟩;refine cZ f ?_;refine⟨λd=>⟨d,d,?_⟩,λd=>?_⟩;obtain⟨p,q,J,eq,K,L,e,x⟩:=zoQ A l o (aP 0 h) (aP 0 d);obtain⟨j1,j2,j3⟩:=zeJ A K L;have y:=zcf (q:=q) (m:=m) om om;have z:EX .i64 (p:Int) ((q*2^m:Nat):Int)=((p+q*2^m:Nat):Int):=by rw[nQ om om,j3]
     have r:=dj (ao<|DC (Xw m) a b i j) 64;have M:=dj (eG<|p+q*2^m) 64;have xs:EX .u64 (bA (ao<|DC (Xw m) a b i j) 64:Nat) (bA (eG<|p+q*2^m) 64:Nat)=((bA (ao<|DC (Xw m) a b i<|j+1) 64:Nat):Int):=by rw[Ca om om,FB];congr 1;refine gu λt _=>?_;rw[Xt d,Vc,e,ar]
     refine Cn f J eq w y z<|aa (gC _ x) ?_;refine ff f xs ?_;exact ah (j+1) ⟨(fB f (ak d om) xs),om⟩;have:j=lh b:=om;subst this;exact ah (i+1) ⟨(rS g f (ak h om)<|zeH (c:=Xw m) (ys:=b) h),om⟩;have:i=lh a:=om;subst this;refine cZ u<|aa (dP _ _) ?_;refine cZ g ?_;exact⟨om,rfl⟩;rw[aD<|show ¬(m:Int)+k<=6 by omega,cT,cT,eH];exact xd3 u (show((6:Int)<((m+k:Nat):Int))=True from bO om)<|show(6<m+k)=True from bO om
theorem Xx:AC prog 245 [.ag [al n,aE a],.ag [al s,aE b]] (.im (aU (aS n a&&(aS s b&&decide (n+s<=6))))):=by
 refine cA [.tmp 4] func245 λi=>?_;refine aR<|aa (bw n a) ?_;cases ys:aS n a with
 | false =>exact ef
 | true =>
   refine aR<|aa (bw s b) ?_;cases c:aS s b with
   | false =>exact ef
   | true =>obtain⟨m,rfl,d,e⟩:=KH ys;obtain⟨k,rfl,f,g⟩:=KH c;have h:D0.i64.wrap _=m+k:=aF om om;exact mg h
theorem ui:AC prog 161 [.ag [al n,aE a],.ag [al s,aE b]] (xO (aS n a&&(aS s b&&decide (n+s<=6))) (n+s) (joF n.toNat a b)):=by
 refine cA [.cell 4 26,.tmp 5] func161 λS=>?_;refine aR (aa (Xx n a s b) ?_);cases y:(aS n a&&(aS s b&&decide (n+s<=6)))with
 | false =>rw[eH];exact ef
 | true =>
   rw[aj,aj,aq]at y;obtain⟨g,l,o⟩:=y;obtain⟨m,rfl,A,B⟩:=KH g;obtain⟨k,rfl,C,D⟩:=KH l;have o:m+k<=6:=om;have E:D0.i64.wrap ((m:Int)+(k:Int))=(m:Int)+k:=aF om om;have d:D0.u64.wrap (m:Int)=(m:Int):=dm om;have F:=fH g;have G:=fH l;have f:=zrG o g l;have e:bl (dI (hU (DC (Xw m) a b (lh a) 0)) k0)=bl (dI (joF m a b) k0):=zJ f λt U=>eT;rw[ar,uj _ e];refine aR ?_;refine az (λ((i,v):Nat×Nat) ys=>(ys.sl 2=.ref 2 1 0/\ys.rw 2=⟨1,.box 26 [al m,aE a]⟩/\ys.sl 3=.ref 3 1 0/\ys.rw 3=⟨1,.box 26 [al k,aE b]⟩/\ys.sl 4=.ref 4 1 0/\ys.rw 4=⟨1,.box 26 [al 0,.v (.slice none 0 0)]⟩/\ys.sl 5=aU l0/\ys.sl 6=.own 14 v/\ys.rw 14=⟨v,.sli 3 1 l0 (iL (DC (Xw m) a b i 0))⟩/\ys.sl 7=al i)/\(i<=lh a)) (λ(i,v)=>lh a-i) ((0,1)) ⟨(jX @Xu),om⟩ ?_;intro(i,v) V ⟨r,I⟩;refine cZ r ?_;refine⟨λh=>?_,λh=>?_⟩;refine az (λ((j,v):Nat×Nat) ys=>(ys.sl 2=.ref 2 1 0/\ys.rw 2=⟨1,.box 26 [al m,aE a]⟩/\ys.sl 3=.ref 3 1 0/\ys.rw 3=⟨1,.box 26 [al k,aE b]⟩/\ys.sl 4=.ref 4 1 0/\ys.rw 4=⟨1,.box 26 [al 0,.v (.slice none 0 0)]⟩/\ys.sl 5=aU l0/\ys.sl 6=.own 14 v/\ys.rw 14=⟨v,.sli 3 1 l0 (iL (DC (Xw m) a b i j))⟩/\ys.sl 7=al i/\ys.sl 8=al j)/\(j<=lh b)) (λ(j,v)=>lh b-j) ((0,v)) ⟨(jX r),om⟩ ?_;intro(j,v) W ⟨u,w⟩;have K:=zoN (c:=Xw m) (xs:=a) (ys:=b) w (dY h);have z:=zoP (show i<=448 by omega) (show (lh b)<=448 by omega);refine cZ u ?_;refine⟨λxs=>?_,λxs=>?_⟩;obtain⟨p,q,L,eq,M,N,O,P⟩:=zoQ o g l (aP 0 h) (aP 0 xs);obtain⟨j1,j2,j3⟩:=zeJ o M N;have x:=zcf (q:=q) (m:=m) om om;have Q:D0.i64.wrap (lg a i 0+jl .i64 (lg b j 0) (D0.u64.wrap (m:Int)))=Xw m (lg a i 0) (lg b j 0):=by rw[O,d,L,eq,x,aF om om];rfl
   have R:DC (Xw m) a b i (j+1)=DC (Xw m) a b i j++[D0.i64.wrap (lg a i 0+jl .i64 (lg b j 0) (D0.u64.wrap (m:Int)))]:=by rw[Q];exact Xt xs
   exact⟨kr,h,h,xs,xs,by rw[d];omega,om,kr,ah ((j+1,v+1)) ⟨(fB u (ak xs om) R),by dsimp only;omega⟩⟩;have:j=lh b:=om;subst this;exact ah ((i+1,v)) ⟨(rS r u (ak h om) (zeH (c:=Xw m) (ys:=b) h)),by dsimp only;omega⟩;have:i=lh a:=om;subst this;simp only[↓gp,gq,simprocAttr,gT,E];refine aa (eV _ _ f) ?_;exact mg r
theorem QN:AC prog 155 [.ag [al n,aE a]] (xO (aS n a&&(aS 1 [1]&&decide (n+1<=6))) (n+1) (joF n.toNat a [1])):=by refine cA [.cell 2 26,.tmp 3] func155 λxs=>?_;refine aR<|aa (ui n a 1 [1]) ?_;unfold xO;exact ef
theorem QO:AC prog 99 [.ag [al n,aE a]] (xO (aS n a&&(aS 1 [1]&&decide (n+1<=6))) (n+1) (joF n.toNat a [1])):=by refine cA [.cell 2 26,.tmp 3] func99 λxs=>?_;refine aR<|aa (uh n a 1 [1]) ?_;unfold xO;exact ef
theorem Bx:AC prog 156 [.ag [al n,aE a]] (xO (aS n a&&(aS 2 [1,2]&&decide (n+2<=6))) (n+2) (joF n.toNat a [1,2])):=by refine cA [.cell 2 26,.tmp 3] func156 λxs=>?_;refine aR<|aa (ui n a 2 _) ?_;unfold xO;exact ef
theorem By:AC prog 100 [.ag [al n,aE a]] (xO (aS n a&&(aS 2 [1,2]&&decide (n+2<=6))) (n+2) (joF n.toNat a [1,2])):=by refine cA [.cell 2 26,.tmp 3] func100 λxs=>?_;refine aR<|aa (uh n a 2 _) ?_;unfold xO;exact ef
noncomputable def hfB(n:Int)(a:N0)(s:Int):Bool:=aS n a&&(decide (0<=s)&&decide (s<=63))&&ao a s.toNat
theorem zum(h:aS (k:Int) L=k0):(di k x&&ao L x.toNat)=((decide (0<=x)&&decide (x<=63))&&ao L x.toNat):=by rw[aZ];simp only[aj,aq];constructor;rintro⟨b,d⟩;obtain⟨_,u,_,rfl,_,_,c⟩:=iI b;grind;rintro⟨⟨b,d⟩,c⟩;have e:=(nV h).2 _ om c;obtain⟨g,f,_⟩:=cY.1 h;simp_all[di]
theorem sR:AC prog 68 [.ag [al n,aE a],al s] (.im (aU (hfB n a s))):=by
 refine cA [.tmp 4] func68 λh=>?_;unfold hfB;refine aR<|aa (aH n a) ?_;cases b:aS n a with
 | false =>exact ef
 | true =>
   obtain⟨m,rfl,e,f⟩:=KH b;have c:=dM b;rw[au,<- zum b];refine aR<|aa (eR m s) ?_;cases g:di m s with
   | false =>exact ef
   | true =>obtain⟨_,u,_,rfl,_,_,d⟩:=iI g;refine aR<|aa (cj m a c) ?_;refine aR<|aa (ez _ u (kz _) d) ?_;simp[↓gp,gq,jq _ u d]
theorem zI:AC prog 80 [.ag [al n,aE a],al s] (.im (aU (hfB n a s))):=by
 refine cA [.tmp 4] func80 λd=>?_;unfold hfB;refine aR<|aa (bw n a) ?_;cases b:aS n a with
 | false =>exact ef
 | true =>
   refine aR<|aa (fe _ _ _) ?_;cases c:(decide (0<=s)&&decide (s<=63))with
   | false =>exact ef
   | true =>rw[aj,aq,aq]at c;obtain⟨u,rfl⟩:∃u:Nat,s=u:=⟨s.toNat,om⟩;refine aR<|aa (jB n a u (dM b) om) ?_;exact ef
def Do(s:Int):O0:=if 0<=s/\s<=63 then co (eG s.toNat)else []
theorem zun:di 6 n=decide (0<=n/\n<=63):=by unfold di;grind
theorem vW:AC prog 198 [al n] (.fr 3 1 (iL (bl (Do n)))):=by refine cA [.tmp 2] func198 λa=>?_;refine aR<|aa (eR 6 n) ?_;rw[zun];unfold Do;by_cases h:0<=n/\n<=63;obtain⟨u,rfl⟩:∃u:Nat,n=u:=⟨n.toNat,om⟩;rw[ay h,ae h];refine aR ?_;refine aa (gC u om)<|aR<|aa (lP _<|kz _) ?_;rw[mo<|jq<|eG u];exact ef;rw[aD h,ac h];refine aR ?_;rfl
theorem vX:AC prog 168 [al n] (.fr 3 1 (iL (bl (Do n)))):=by
 refine cA [.tmp 2] func168 λw=>?_;unfold Do;by_cases h:0<=n/\n<=63;obtain⟨u,rfl⟩:∃u:Nat,n=u:=⟨n.toNat,om⟩;rw[ae h,ar];have c:(decide (0<=(u:Int))&&decide ((u:Int)<=63))=true:=by simp;omega
 have d:co (hU<|bl<|(lc 64).filter<|eG u)=co (eG u):=mo λs f=>by rw[pb];cases h:eG u s<;>simp[h,f]
 refine aR ?_;refine az (λ((m,v):Nat×Nat) s=>(s.sl 0=al u/\s.sl 3=.own 5 v/\s.rw 5=⟨v,.sli 3 1 l0<|iL<|bl<|(lc m).filter<|eG u⟩/\s.sl 4=al m)/\(m<=64)) (λ(m,v)=>64-m) ((0,1)) ⟨nm,sp⟩ ?_;intro(m,v) x ⟨a,b⟩;have g:lh ((lc m).filter<|eG u)<=64:=by have:=aO (eG u)<|lc m;rw[bp]at this;omega
 by_cases i:m<64;refine iD a (show((m:Int)<64)=True from bO om) (show(m<64)=True from bO i) ?_;refine aa (fe _ _ _) ?_;have o:(fu .i64 (m:Int) (u:Int)==(m:Int))=eG u m:=by rw[ej om om,aZ,aK];unfold eG;rw[aK,cl];omega
 rw[c];refine ff a o ?_;refine⟨λj=>⟨by rw[ap];omega,?_⟩,λj=>?_⟩;have e:bl ((lc<|m+1).filter<|eG u)=bl ((lc m).filter<|eG u)++[(m:Int)]:=by rw[bW,aW,cI];simp[j,bl]
 exact ah ((m+1,v+1)) ⟨(fB a (ak i om) e),by dsimp only;omega⟩;have e:bl ((lc<|m+1).filter<|eG u)=bl ((lc m).filter<|eG u):=by rw[bW,aW,cI];simp[j,bl]
 exact ah ((m+1,v)) ⟨(fB a (ak i om) e),by dsimp only;omega⟩;have:m=64:=om;subst this;refine iD a (show(((64:Nat):Int)<64)=False from aX om) (show((64:Int)<64)=False from aX om) ?_;refine aa (kw _<|CU λs f=>by grind) ?_;rw[d];exact mg a;rw[ac h];have c:(decide (0<=n)&&decide (n<=63))=false:=by rw[er,bJ,bJ];omega
 have k:iL ([]:N0)=[]:=rfl;refine aR ?_;refine az (λ(m:Nat)s=>(s.sl 0=al n/\s.sl 3=.own 5 1/\s.rw 5=⟨1,.sli 3 1 l0<|iL []⟩/\s.sl 4=al m)/\(m=0)) (λm=>1) (0) ⟨(jX k),rfl⟩ ?_;intro m x ⟨a,b⟩;subst b;refine ff a (show(((0:Nat):Int)<64)=True from bO om) ?_;refine aa (fe _ _ _) ?_;rw[c];refine cZ a ?_;refine aa (kw []<|λn p=>absurd p sp) ?_;have q:co (hU [])=[]:=List.eq_nil_iff_forall_not_mem.2 λt r=>by have:=(cR.1 r).2;simp[hU]at this
 rw[q];exact mg a
theorem Im:AC prog 61 [.ag [al n,aE a]] (.fr 3 1 (iL (bl (eN (ci n a))))):=by
 refine cA [.tmp 2] func61 λd=>?_;refine aR<|aa (aH n a) ?_;cases b:aS n a with
 | false =>
   have e:eN (ci n a)=[]:=List.eq_nil_iff_forall_not_mem.2 λs c=>by have:=(cR.1 (List.mem_filter.1 c).1).2;simp_all[ci]
   rw[e];refine aR ?_;rfl
 | true =>rw[mP b];refine aR<|aa (cj n a<|dM b) ?_;refine aR<|aa (Cg _<|kz _) ?_;rw[tM<|jq<|ao a];exact ef
theorem Pq:AC prog 154 [.ag [al n,aE a]] (xO (aS n a) n (Cb n.toNat (ao a))):=by
 cases b:aS n a with
 | false =>refine cA [.cell 2 26,.tmp 3] func154 λg=>?_;rw[eH];refine aR<|aa (bw n a) ?_;exact mg b
 | true =>
   obtain⟨m,rfl,c,d⟩:=KH b;have e:zjI m a=bl (dI (Cb m<|ao a) k0):=by
    conv=>lhs;rw[xe<|zt5 b]
    exact cV bl<|je (λs f=>zn3 b f) k0
   have:=QA m a b;rwa[e]at this
def flF(f:V0)(s:Nat):Bool:=(co (eG s)).all λt=>!decide (aQ t<=2)||f t
def smL(l:O0):O0:=l.filter λt=>decide (aQ t<=2)
theorem zvY(h:aS (k:Int) L=k0)(s:Nat)(r:s<2^k):flF (ao L) s=kW (bl (smL (mw k L))) s:=by
 obtain⟨E,F,_⟩:=cY.1 h;have w:=dx (m:=k) om;rw[aZ];unfold flF kW;rw[aY,aY];have e:∀t,oo k L t=k0↔t<2^k/\ao L t=false:=λt=>by unfold oo di;grind
 constructor;intro c x y;obtain⟨t,l,rfl⟩:=List.mem_map.1 (show x∈(smL<|mw k L).map λs:Nat=>(s:Int) from y);obtain⟨f,d⟩:=List.mem_filter.1 l;obtain⟨⟨z,A⟩,_⟩:=ja.1 f;cases g:(t&&&s==t)with
 | false=>rw[ar,g];rfl
 | true =>rw[aK]at g;have:=c t<|cR.2 ⟨z,by unfold eG;rw[aK,cl];exact g⟩;rw[((e t).1 A).2,d]at this;cases this
 intro c t l;obtain⟨f,d⟩:=cR.1 l;unfold eG at d;rw[aK,cl]at d;cases B:decide (aQ t<=2)with
 | false=>rfl
 | true =>
   cases g:ao L t with
   | true=>rfl
   | false =>
     have n:t<2^k:=bD (by rw[<- d];exact wq) r;have o:=(e t).2 ⟨n,g⟩;obtain⟨u,i,p,j⟩:∃u,u∈mw k L/\aQ u<=aQ t/\u&&&t=u:=by
      cases q:iF (oo k L) l0 t with
      | true=>exact⟨t,ja.2 ⟨⟨f,o⟩,q⟩,ab _,dp t⟩
      | false =>obtain⟨u,i,p,j,C,D⟩:=Oc (aQ t) t (ab _) f q;exact⟨u,ja.2 ⟨⟨i,p⟩,D⟩,dY<|ry f i j C,j⟩
     rw[aq]at B;have:=c (u:Int)<|List.mem_map.2 ⟨u,List.mem_filter.2 ⟨i,ay om⟩,rfl⟩;rw[ar,pV j d,du]at this;cases this
theorem KG(r:m<64):AC prog 197 [al m,.eref l0 [dv (bA f 64:Nat)] 0] (.im (aU (flF f m))):=by
 refine cA [.tmp 3] func197 λw=>?_;refine aR<|aa (vW m) ?_;unfold Do flF;rw[ae<|show 0<=(m:Int)/\(m:Int)<=63 by omega,ar];have a:=ap<|co<|eG m;have n:=ordN_len<|eG m;have j:=λi (q:i<lh (co<|eG m))=>(cR.1<|aP 0 q).1;generalize co (eG m)=L at *;refine cZ a ?_;refine az (λ(k:Nat)s=>(s.sl 0=al m/\s.sl 1=.eref l0 [dv (bA f 64:Nat)] 0/\s.sl 7=.own 7 1/\s.rw 7=⟨1,.sli 3 1 l0<|iL<|bl L⟩/\s.sl 8=al (lh L)/\s.sl 9=al k)/\(k<=lh L/\((L.take k).all λt=>!decide (aQ t<=2)||f t)=k0)) (λk=>lh L-k) (0) ⟨(jX a),⟨aB _,rfl⟩⟩ ?_;intro k x ⟨g,o⟩;have⟨y,b⟩:=o;refine ff g a ?_;refine⟨λh=>?_,λh=>?_⟩;have d:=j k h;have c:((L.take<|k+1).all λt=>!decide (aQ t<=2)||f t)=(!decide (aQ (lg L k 0)<=2)||f (lg L k 0)):=by rw[bj 0 h,fW,b];simp
 have l:(!decide (aQ (lg L k 0)<=2)||f (lg L k 0))=l0->(L.all λt=>!decide (aQ t<=2)||f t)=false:=λe=>by rw[fo];exact⟨_,aP 0 h,by rw[e];decide⟩
 rw[bX h];refine⟨h,h,aa (dy _) ?_⟩;rw[jb d];by_cases u:aQ (lg L k 0)<=2;refine nN g a (bX h) (show((aQ (lg L k 0):Int)<=2)=True from bO om) (show(aQ (lg L k 0)<=2)=True from bO u)<|aa (ez _ _ (kz f) d) ?_;simp only[↓gp,gq,simprocAttr,gT,g,a,jq f _ d];rw[ay u,jU,gm]at c l;refine⟨λp=>l<|ss p,λp=>?_⟩;exact ah (k+1) ⟨(fB g a<|ak h om),⟨om,by rw[c];simpa using p⟩⟩;refine nN g a (bX h) (show((aQ (lg L k 0):Int)<=2)=False from aX om) (show(aQ (lg L k 0)<=2)=False from aX u) ?_;rw[aD u,pw,Bool.true_or]at c;exact ah (k+1) ⟨(fB g a<|ak h om),⟨om,c⟩⟩;have:k=lh L:=om;rw[this,av]at b;rw[b]
theorem QK:AC prog 104 [.ag [al n,aE a]] (xO (aS n a) n (λs=>decide (s<2^n.toNat)&&flF (ao a) s)):=by
 refine cA [.cell 2 26,.tmp 3] func104 λg=>?_;refine aR<|aa (aH n a) ?_;cases c:aS n a with
 | false =>rw[eH];exact ef
 | true =>obtain⟨m,rfl,d,b⟩:=KH c;have e:=dx b;rw[kX];refine aR<|aa (cj m a<|dM c) ?_;refine aR<|aa (gF m b _ _ _ (λrw=>rfl) λs f=>KG _ s om) ?_;rw[oq b λs f=>rfl];refine aR<|aa (dP _ _) ?_;exact ef
theorem QL:AC prog 160 [.ag [al n,aE a]] (xO (aS n a) n (λs=>decide (s<2^n.toNat)&&flF (ao a) s)):=by
 refine cA [.cell 2 26,.tmp 3] func160 λC=>?_;refine aR (aa (bw n a) ?_);cases i:aS n a with
 | false =>rw[eH];exact ef
 | true =>
   obtain⟨m,rfl,r,f⟩:=KH i;refine aR (aa (kV m a) ?_);have e:bl (dI (λs=>decide (s<2^m)&&flF (ao a) s) k0)=bl (dI (apF m (bl (smL (mw m a)))) k0):=by refine cV bl (je (λs j=>?_) k0);unfold apF;rw[ar];by_cases h:s<2^m;rw[zvY i s h];rw[aD h];rfl
   rw[kX,e];have u:=sI m a;have b:∀t∈mw m a,t<64:=λt w=>(ja.1 w).1.1;have c:=ap (mw m a);generalize mw m a=L at *;unfold smL;generalize g:(λt:Nat=>decide (aQ t<=2))=q at *;refine aR ?_;refine az (λ((k,v):Nat×Nat) s=>(s.sl 1=.ref 1 1 0/\s.rw 1=⟨1,.box 26 [al m,aE a]⟩/\s.sl 2=.ref 2 1 0/\s.rw 2=⟨1,.box 26 [al 0,.v (.slice none 0 0)]⟩/\s.sl 3=aU l0/\s.sl 4=.own 12 1/\s.rw 12=⟨1,.sli 3 1 l0 (iL (bl L))⟩/\s.sl 5=.own 13 v/\s.rw 13=⟨v,.sli 3 1 l0 (iL (bl ((L.take k).filter q)))⟩/\s.sl 6=al k)/\(k<=lh L)) (λ(k,v)=>lh L-k) ((0,1)) ⟨nm,om⟩ ?_;intro(k,v) D ⟨d,y⟩;have z:lh ((L.take k).filter q)<=k:=aJ (aO _ _) (by rw[bg];omega);refine ff d c ?_;refine⟨λh=>?_,λh=>?_⟩;have A:=b _ (aP 0 h);rw[bX h];refine⟨h,h,aa (ey _ om) ?_⟩;have l:=ak h (by omega);have o:q (lg L k 0)=decide (aQ (lg L k 0)<=2):=by rw[<- g]
   refine iD d c (bX h) ?_;refine⟨λB=>⟨h,h,by rw[ap];omega,?_⟩,λB=>?_⟩;have e:bl ((L.take (k+1)).filter q)=bl ((L.take k).filter q)++[((lg L k 0:Nat):Int)]:=by rw[ny h (by rw[o];exact ay om),cI];rfl
   exact ah ((k+1,v+1)) ⟨(rS d l e (bX h)),by dsimp only;omega⟩;have e:=qv h (p:=q) (by rw[o];exact aD om);exact ah ((k+1,v)) ⟨(fB d l e),by dsimp only;omega⟩;have e:k=lh L:=om;subst e;rw[av];refine aa (QF m _ f (CU λs j=>b s (List.mem_filter.1 j).1)) ?_;exact mg d
end Go.Proofs.YtijabbemjaioeaaGreatDoor
namespace Go.Proofs.YtijabbemjaioeaaGreatDoor
open Bool renaming true→k0,false→l0
open Option renaming some→n0
open Go renaming IntKind→D0
open List renaming range→lc,replicate→ld,getD→lg,length→lh
open Nat renaming reduceEqDiff→lj,reduceMod→lk,reduceAdd→ll,reduceLT→lm,reduceLeDiff→lp,reduceSub→lr,reduceMul→lu,reduceBEq→lw
open Int renaming reduceToNat→lz,reduceLE→lA,reduceLT→lB,reduceNeg→lC
open Go.Proofs.Tryz
open Go.Abs Go.Shelf
def zsU:Go.Shelf.Ren where
 f:=λx=>match x with|6=>276|15=>315|14=>314|28=>352|29=>353|20=>344|21=>345|22=>346|23=>347|24=>348|25=>349|26=>350|27=>351|46=>376|47=>377|48=>378|49=>379|50=>380|57=>386|n=>n
 t:=λx=>match x with|22=>24|24=>3|25=>118|3=>3|39=>83|0=>0|53=>182|55=>101|4=>4|46=>203|45=>202|50=>72|5=>5|9=>9|66=>218|70=>222|76=>226|77=>169|n=>n
 g:=λx=>x
theorem zut:SlLaysF.n6 prog zsU where
 mixed:=mixed
 f6:=⟨ "slices.SortFunc[[]int,int]",dc,(show prog.funcs[276]?=n0 _ from func276).trans (cV n0 kr)⟩
 f14:=⟨ "slices.pdqsortCmpFunc[int]",dc,(show prog.funcs[314]?=n0 _ from func314).trans (cV n0 kr)⟩
 f15:=(show prog.funcs[315]?=n0 _ from func315).trans (cV n0 kr)
 f20:=⟨ "slices.insertionSortCmpFunc[int]",dc,(show prog.funcs[344]?=n0 _ from func344).trans (cV n0 kr)⟩
 f21:=⟨ "slices.heapSortCmpFunc[int]",dc,(show prog.funcs[345]?=n0 _ from func345).trans (cV n0 kr)⟩
 f22:=⟨ "slices.breakPatternsCmpFunc[int]",dc,(show prog.funcs[346]?=n0 _ from func346).trans (cV n0 kr)⟩
 f23:=⟨ "slices.choosePivotCmpFunc[int]",dc,(show prog.funcs[347]?=n0 _ from func347).trans (cV n0 kr)⟩
 f24:=⟨ "slices.reverseRangeCmpFunc[int]",dc,(show prog.funcs[348]?=n0 _ from func348).trans (cV n0 kr)⟩
 f25:=⟨ "slices.partialInsertionSortCmpFunc[int]",dc,(show prog.funcs[349]?=n0 _ from func349).trans (cV n0 kr)⟩
 f26:=⟨ "slices.partitionEqualCmpFunc[int]",dc,(show prog.funcs[350]?=n0 _ from func350).trans (cV n0 kr)⟩
 f27:=⟨ "slices.partitionCmpFunc[int]",dc,(show prog.funcs[351]?=n0 _ from func351).trans (cV n0 kr)⟩
 f28:=(show prog.funcs[352]?=n0 _ from func352).trans (cV n0 kr)
 f29:=(show prog.funcs[353]?=n0 _ from func353).trans (cV n0 kr)
 f46:=⟨ "slices.siftDownCmpFunc[int]",dc,(show prog.funcs[376]?=n0 _ from func376).trans (cV n0 kr)⟩
 f47:=(show prog.funcs[377]?=n0 _ from func377).trans (cV n0 kr)
 f48:=(show prog.funcs[378]?=n0 _ from func378).trans (cV n0 kr)
 f49:=⟨ "slices.medianAdjacentCmpFunc[int]",dc,(show prog.funcs[379]?=n0 _ from func379).trans (cV n0 kr)⟩
 f50:=⟨ "slices.medianCmpFunc[int]",dc,(show prog.funcs[380]?=n0 _ from func380).trans (cV n0 kr)⟩
 f57:=⟨ "slices.order2CmpFunc[int]",dc,(show prog.funcs[386]?=n0 _ from func386).trans (cV n0 kr)⟩
 t0:=underlying0
 a0:=isAgg0
 z0:=sizeOf0
 v0:=zeroValue0
 t3:=underlying3
 a3:=isAgg3
 z3:=sizeOf3
 v3:=zeroValue3
 t4:=underlying4
 a4:=isAgg4
 z4:=sizeOf4
 v4:=zeroValue4
 t5:=underlying5
 a5:=isAgg5
 z5:=sizeOf5
 v5:=zeroValue5
 t9:=underlying9
 a9:=isAgg9
 z9:=sizeOf9
 v9:=zeroValue9
 t22:=underlying24
 a22:=isAgg24
 z22:=sizeOf24
 v22:=zeroValue24
 a24:=isAgg3
 z24:=sizeOf3
 t25:=underlying118
 a25:=isAgg118
 z25:=sizeOf118
 v25:=zeroValue118
 t39:=underlying83
 a39:=isAgg83
 z39:=sizeOf83
 v39:=zeroValue83
 t45:=underlying202
 a45:=isAgg202
 z45:=sizeOf202
 v45:=zeroValue202
 t46:=underlying203
 a46:=isAgg203
 z46:=sizeOf203
 v46:=zeroValue203
 t50:=underlying72
 a50:=isAgg72
 z50:=sizeOf72
 v50:=zeroValue72
 t53:=underlying182
 a53:=isAgg182
 z53:=sizeOf182
 v53:=zeroValue182
 t55:=underlying101
 a55:=isAgg101
 z55:=sizeOf101
 v55:=zeroValue101
 t66:=underlying218
 a66:=isAgg218
 z66:=sizeOf218
 v66:=zeroValue218
 t70:=underlying222
 a70:=isAgg222
 z70:=sizeOf222
 v70:=zeroValue222
 t76:=underlying226
 a76:=isAgg226
 z76:=sizeOf226
 v76:=zeroValue226
 t77:=underlying169
 a77:=isAgg169
 z77:=sizeOf169
 v77:=zeroValue169
theorem zrM:SlLaysF0.n6 prog zsU where
 mixed:=mixed
 f6:=⟨ "slices.SortFunc[[]int,int]",dc,(show prog.funcs[276]?=n0 _ from func276).trans (cV n0 kr)⟩
 f14:=⟨ "slices.pdqsortCmpFunc[int]",dc,(show prog.funcs[314]?=n0 _ from func314).trans (cV n0 kr)⟩
 f15:=(show prog.funcs[315]?=n0 _ from func315).trans (cV n0 kr)
 f20:=⟨ "slices.insertionSortCmpFunc[int]",dc,(show prog.funcs[344]?=n0 _ from func344).trans (cV n0 kr)⟩
 f21:=⟨ "slices.heapSortCmpFunc[int]",dc,(show prog.funcs[345]?=n0 _ from func345).trans (cV n0 kr)⟩
 f22:=⟨ "slices.breakPatternsCmpFunc[int]",dc,(show prog.funcs[346]?=n0 _ from func346).trans (cV n0 kr)⟩
 f23:=⟨ "slices.choosePivotCmpFunc[int]",dc,(show prog.funcs[347]?=n0 _ from func347).trans (cV n0 kr)⟩
 f24:=⟨ "slices.reverseRangeCmpFunc[int]",dc,(show prog.funcs[348]?=n0 _ from func348).trans (cV n0 kr)⟩
 f25:=⟨ "slices.partialInsertionSortCmpFunc[int]",dc,(show prog.funcs[349]?=n0 _ from func349).trans (cV n0 kr)⟩
 f26:=⟨ "slices.partitionEqualCmpFunc[int]",dc,(show prog.funcs[350]?=n0 _ from func350).trans (cV n0 kr)⟩
 f27:=⟨ "slices.partitionCmpFunc[int]",dc,(show prog.funcs[351]?=n0 _ from func351).trans (cV n0 kr)⟩
 f28:=(show prog.funcs[352]?=n0 _ from func352).trans (cV n0 kr)
 f29:=(show prog.funcs[353]?=n0 _ from func353).trans (cV n0 kr)
 f46:=⟨ "slices.siftDownCmpFunc[int]",dc,(show prog.funcs[376]?=n0 _ from func376).trans (cV n0 kr)⟩
 f47:=(show prog.funcs[377]?=n0 _ from func377).trans (cV n0 kr)
 f48:=(show prog.funcs[378]?=n0 _ from func378).trans (cV n0 kr)
 f49:=⟨ "slices.medianAdjacentCmpFunc[int]",dc,(show prog.funcs[379]?=n0 _ from func379).trans (cV n0 kr)⟩
 f50:=⟨ "slices.medianCmpFunc[int]",dc,(show prog.funcs[380]?=n0 _ from func380).trans (cV n0 kr)⟩
 f57:=⟨ "slices.order2CmpFunc[int]",dc,(show prog.funcs[386]?=n0 _ from func386).trans (cV n0 kr)⟩
 t0:=underlying0
 a0:=isAgg0
 z0:=sizeOf0
 v0:=zeroValue0
 t3:=underlying3
 a3:=isAgg3
 z3:=sizeOf3
 v3:=zeroValue3
 t4:=underlying4
 a4:=isAgg4
 z4:=sizeOf4
 v4:=zeroValue4
 t5:=underlying5
 a5:=isAgg5
 z5:=sizeOf5
 v5:=zeroValue5
 t9:=underlying9
 a9:=isAgg9
 z9:=sizeOf9
 v9:=zeroValue9
 t22:=underlying24
 a22:=isAgg24
 z22:=sizeOf24
 v22:=zeroValue24
 t25:=underlying118
 a25:=isAgg118
 z25:=sizeOf118
 v25:=zeroValue118
 t39:=underlying83
 a39:=isAgg83
 z39:=sizeOf83
 v39:=zeroValue83
 t45:=underlying202
 a45:=isAgg202
 z45:=sizeOf202
 v45:=zeroValue202
 t46:=underlying203
 a46:=isAgg203
 z46:=sizeOf203
 v46:=zeroValue203
 t50:=underlying72
 a50:=isAgg72
 z50:=sizeOf72
 v50:=zeroValue72
 t53:=underlying182
 a53:=isAgg182
 z53:=sizeOf182
 v53:=zeroValue182
 t55:=underlying101
 a55:=isAgg101
 z55:=sizeOf101
 v55:=zeroValue101
 t66:=underlying218
 a66:=isAgg218
 z66:=sizeOf218
 v66:=zeroValue218
 t70:=underlying222
 a70:=isAgg222
 z70:=sizeOf222
 v70:=zeroValue222
 t76:=underlying226
 a76:=isAgg226
 z76:=sizeOf226
 v76:=zeroValue226
 t77:=underlying169
 a77:=isAgg169
 z77:=sizeOf169
 v77:=zeroValue169
end Go.Proofs.YtijabbemjaioeaaGreatDoor
namespace Go.Proofs.YtijabbemjaioeaaGreatDoor
open Bool renaming true→k0,false→l0
open Option renaming some→n0
open Go renaming IntKind→D0
open List renaming range→lc,replicate→ld,getD→lg,length→lh
open Nat renaming reduceEqDiff→lj,reduceMod→lk,reduceAdd→ll,reduceLT→lm,reduceLeDiff→lp,reduceSub→lr,reduceMul→lu,reduceBEq→lw
open Int renaming reduceToNat→lz,reduceLE→lA,reduceLT→lB,reduceNeg→lC
open Go.Proofs.Tryz
open Go.Abs
def zus(a b:Int):Int:=if a=b then 0 else if rQ a b then -1 else 1
theorem yh[aw](a b:Int):AC prog 277 [al a,al b] (.im (al (zus a b))):=by refine cA [.tmp 4] func277 λc=>?_;refine aR ?_;unfold zus;refine⟨λh=>?_,λh=>aa (ur _ _) ?_⟩;grind;rw[ac<|ss h];refine aR ?_;simp
end Go.Proofs.YtijabbemjaioeaaGreatDoor
