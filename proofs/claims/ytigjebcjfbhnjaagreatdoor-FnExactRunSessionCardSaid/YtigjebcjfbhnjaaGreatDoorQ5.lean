/- DERIVED by an AI agent. -/
import Derived.Test.YtigjebcjfbhnjaaGreatDoorQ4
set_option linter.all false
namespace Go.Proofs.YtigjebcjfbhnjaaGreatDoor
open Bool renaming true→k0,false→l0
open Option renaming some→n0,none→o0
open Go renaming IntKind→D0
open List renaming range→lc,replicate→ld,getD→lg,length→lh
open Nat renaming reduceEqDiff→lj,reduceMod→lk,reduceAdd→ll,reduceLT→lm,reduceLeDiff→lp,reduceSub→lr,reduceMul→lu,reduceBEq→lw
open Int renaming reduceToNat→lz,reduceLE→lA,reduceLT→lB,reduceNeg→lC
open Go.Proofs.Tryz
open Go.Abs
variable (f:V0)(n:Int)(m:Nat)(a:N0)(k:Int)(p:Nat)(i:Nat){c:N0}{d r:Nat}{b:V0}{x:Int}{e:FuncId}{l:O0}{g:M0}{h:W0}{K:St->Prop}{j:RV->Prop}{o:Ent->St->Prop}{s:St}{q:Int->Bool}
def fp(a:N0)(n i k:Nat):N0:=(lc n).map λt=>((XQ (a.take (if t<i then (lh a) else if t=i then k else 0)) t:Nat):Int)
theorem sM(k:Nat):lh (fp a p i k)=p:=by simp[fp]
theorem Xj:ld p (0:Int)=fp a p 0 0:=by
 refine bE (by simp[fp]) λj b c=>?_;simp only[fp,gz,aM,bG];have:(if j<0 then (lh a) else if j=0 then 0 else 0)=0:=sp
 rw[this];rfl
theorem zeD{k:Nat}(h:r<d):lg (fp c d r k) r 0=((XQ (c.take k) r:Nat):Int):=by simp_all[fp]
theorem zb5{k:Nat}(h:r<d):(fp c d r k).set r ((XQ (c.take (k+1)) r:Nat):Int)=fp c d r (k+1):=by refine bE (by simp[fp]) λj b i=>?_;simp[fp];grind
theorem Xk{k:Nat}(h:XQ (c.take (k+1)) r=XQ (c.take k) r):fp c d r (k+1)=fp c d r k:=by simp[fp];grind
theorem zb6:fp c d r (lh c)=fp c d (r+1) 0:=by simp[fp];grind
def vT(a:N0)(n:Nat):N0:=(lc n).map λt=>((XQ a t:Nat):Int)
theorem zb7:fp a p p 0=vT a p:=by
 refine bE (by simp[fp,vT]) λj b c=>?_;have:=by simpa[fp]using b
 simp[fp,vT,this]
theorem zon{gs:N0}(h:r<d):lg (vT gs d) r 0=((XQ gs r:Nat):Int):=by simp_all[vT]
theorem Ds(E:m<=6)(a:N0)(r:∀x∈a,0<=x/\x<64):AC prog 331 [.ag [al m,aE a]] (.fr 3 1 (iL (vT a m))):=by
 refine cA [.tmp 2] func331 λt=>?_;simp only[dt,dT,dF,gb,jt,hZ,ga,cC]at t;refine aR ?_;refine⟨om,om,?_⟩;refine az (λ((k,v,u):Nat×Nat×Nat) s=>(s.sl 1=.ref 1 u 0/\s.rw 1=⟨u,.box 186 [al m,aE a]⟩/\s.sl 3=.own 9 v/\s.rw 9=⟨v,.sli 3 1 l0 (iL (fp a m k 0))⟩/\s.sl 11=al m/\s.sl 12=al k)/\(k<=m)) (λ(k,v,u)=>m-k) ((0,1,1)) ⟨(by and_intros<;>(first|(simp only[gr,simprocAttr,mG,ar,<- Xj];first|done|rfl|(simp;done))|assumption|rfl)),sp⟩ ?_;intro(k,v,u) F ⟨g,y⟩;refine ff g @sM ?_;refine⟨λc=>?_,λc=>?_⟩;refine az (λ((j,v):Nat×Nat) s=>(s.sl 1=.ref 1 u 0/\s.rw 1=⟨u,.box 186 [al m,aE a]⟩/\s.sl 3=.own 9 v/\s.rw 9=⟨v,.sli 3 1 l0 (iL (fp a m k j))⟩/\s.sl 11=al m/\s.sl 12=al k/\s.sl 4=al k/\s.sl 16=aE a/\s.sl 17=al (lh a)/\s.sl 18=al j)/\(j<=lh a)) (λ(j,v)=>lh a-j) ((0,v)) ⟨(jX g),sp⟩ ?_;intro(j,v) G ⟨f,A⟩;have h:D0.u64.wrap (k:Int)=(k:Int):=dm om;refine iD f @sM h ?_;refine⟨λb=>⟨b,b,?_⟩,λb=>?_⟩;have l:=r _ (aP 0 b);have⟨e,d⟩:=ca l.1;rw[d,CL om om];have n:∀x∈a,x.toNat<64:=λx l=>by have:=r x l;omega
 refine⟨λo=>?_,λo=>?_⟩;have p:=zp6 (i:=k) b n (by rw[d,ar];exact o);have B:2^k<64:=by have:2^k<2^6:=bN om om;omega
 have C:=zml (a.take j) k;have D:e ^^^ (e&&&2^k)<64:=gR (n:=6) om (bD bI om);have q:EX .i64 (lg (fp a m k j) k 0) (gU .i64 (e:Int) (jl .i64 1 (k:Int)))=((XQ (a.take (j+1)) k:Nat):Int):=by rw[zeD c,eh om,fv om om,nQ om om,p,d,ar]
 exact⟨c,c,c,om,ah ((j+1,v)) ⟨(by and_intros<;>(first|(simp only[gr,simprocAttr,f,d,q,zb5 c,ak b om])|assumption|rfl)),om⟩⟩;have p:fp a m k (j+1)=fp a m k j:=Xk (zti b (by rw[d,ar];exact o));exact ah ((j+1,v)) ⟨(fB f (ak b om) p),om⟩;obtain rfl:j=lh a:=om;exact ah ((k+1,v,u)) ⟨(by and_intros<;>(first|(simp only[gr,simprocAttr,g,f,ak c om,<- zb6])|assumption|rfl)),om⟩;obtain rfl:k=m:=om;rw[zb7]
def yg(a:W0)(i x:Nat)(c:N0)(m:Nat):Bool:=(lc m).all λj=>!(a i j&&decide (lg c j 0=(x:Int)))
theorem zbT(a:W0)(i x:Nat)(c:N0)(m:Nat):yg a i x c (m+1)=(yg a i x c m&&!(a i m&&decide (lg c m 0=(x:Int)))):=by simp[yg,bW]
def RB(ok:Nat->N0->Bool)(i:Nat)(f:N0->Bool×N0):Nat->Nat->N0->Bool×N0
 | 0,_,c=>(l0,c)
 | m+1,x,c=>if ok x c=k0 then(if(f (c.set i x)).1=k0 then f (c.set i x)else RB ok i f m (x+1) (f (c.set i x)).2)else RB ok i f m (x+1) c
def XT(a:W0)(k:Nat):Nat->Nat->N0->Bool×N0
 | 0,_,c=>(k0,c)
 | r+1,i,c=>RB (λx c=>yg a i x c i) i (XT a k r (i+1)) k 0 c
def Sf(ok:V0)(g:Nat->Option N0):Nat->Nat->Option N0
 | 0,_=>o0
 | m+1,x=>if ok x=k0 then(match g x with|some l=>n0 l|none=>Sf ok g m (x+1))else Sf ok g m (x+1)
def Lx(a:W0)(k:Nat):Nat->N0->Option N0
 | 0,head=>n0 head
 | r+1,head=>Sf (λx=>yg a (lh head) x head (lh head)) (λx=>Lx a k r (head++[(x:Int)])) k 0
theorem WU{ok:Nat->N0->Bool}{i n:Nat}{f:N0->Bool×N0}(a:∀c,lh c=n->(f c).2.length=n):∀(m x:Nat)(c:N0),lh c=n->(RB ok i f m x c).2.length=n
 | 0,_,c,h=>h
 | m+1,x,c,h=>by rw[RB];have b:=a (c.set i x) (by rw[de];exact h);split;split;exact b;exact WU a m (x+1) _ b;exact WU a m (x+1) _ h
theorem WV(a:W0)(k n:Nat):∀(r i:Nat)(c:N0),lh c=n->(XT a k r i c).2.length=n
 | 0,_,c,h=>h
 | r+1,i,c,h=>WU (λc b=>WV a k n r _ c b) k 0 c h
theorem znU{x:N0}{m:Nat}(i:∀j,j<m->lg c j 0=lg x j 0):yg h d r c m=yg h d r x m:=by unfold yg;grind
theorem zjD{head:N0}(h:c.take d=head)(b:lh head=d)(a:r<d):lg c r 0=lg head r 0:=by grind
theorem zsL(a:W0)(k n:Nat):∀(r i:Nat)(c head:N0),i+r=n->lh c=n->lh head=i->c.take i=head ->
 (XT a k r i c).2.take i=head/\(match Lx a k r head with|some l=>(XT a k r i c).1=k0/\(XT a k r i c).2=l|none=>(XT a k r i c).1=l0)
 | 0,i,c,head,w,d,p,b=>by refine⟨b,rfl,?_⟩;rw[<- b];show c=c.take i;rw[bK om]
 | r+1,i,c,head,w,d,p,b=>by
   have s:∀(m x:Nat)(c:N0),lh c=n->c.take i=head ->
    (RB (λx c=>yg a i x c i) i (XT a k r (i+1)) m x c).2.take i=head /\
    (match Sf (λx=>yg a (lh head) x head (lh head)) (λx=>Lx a k r (head++[(x:Int)])) m x with
     | some l=>(RB (λx c=>yg a i x c i) i (XT a k r (i+1)) m x c).1=k0/\(RB (λx c=>yg a i x c i) i (XT a k r (i+1)) m x c).2=l
     | none=>(RB (λx c=>yg a i x c i) i (XT a k r (i+1)) m x c).1=l0):=by
    intro m
    induction m with
    | zero=>intro x c d b;exact⟨b,rfl⟩
    | succ m f =>
      intro x c d b;rw[RB,Sf];have t:yg a i x c i=yg a (lh head) x head (lh head):=by rw[p];exact znU λj y=>zjD b p y
      rw[t];by_cases q:yg a (lh head) x head (lh head)=k0;rw[ae q,ae q];have g:(c.set i (x:Int)).take (i+1)=head++[(x:Int)]:=by rw[pq (by rw[de];omega),List.take_set_of_le (ab i),b];simp
      obtain⟨z,h⟩:=zsL a k n r (i+1) (c.set i x) (head++[(x:Int)]) om (by rw[de];exact d) (by rw[aA,p];rfl) g;have A:=WV a k n r (i+1) (c.set i x) (by rw[de];exact d);have o:(XT a k r (i+1) (c.set i x)).2.take i=head:=by
       have:=cV (List.take i) z;have e:(head++[(x:Int)]).take i=head:=by rw[iq om,bK om]
       rw[List.take_take,ra om,e]at this;exact this
      cases u:Lx a k r (head++[(x:Int)])with
      | some l =>rw[u]at h;rw[ae h.1];exact⟨o,h⟩
      | none =>rw[u]at h;rw[ac (by rw[h];decide)];exact f (x+1) _ A o
      rw[ac q,ac q];exact f (x+1) c d b
   exact s k 0 c d b
theorem zt2(a:W0)(k n:Nat):(XT a k n 0 (ld n 0)).1=(Lx a k n []).isSome/\((Lx a k n []).isSome=k0->(XT a k n 0 (ld n 0)).2=(Lx a k n []).getD []):=by
 have h:=(zsL a k n n 0 (ld n 0) [] om sp rfl rfl).2;grind
def Lw(a:N0)(i j:Nat):Bool:=(XQ a i).testBit j
theorem UN:lh (vT a p)=p:=by simp[vT]
theorem HZ(S:p<=6)(K:i<=6):∀(r k:Nat)(c:N0),k+r=i->lh c=i ->
 AM prog 330 [.own 1000000 1,.own 1000001 1,al k,al p] [⟨3,1,iL (vT a i)⟩,⟨3,1,iL c⟩] [iL (vT a i),iL (XT (Lw a) p r k c).2] (.bool (XT (Lw a) p r k c).1):=by
 intro r
 induction r with
 | zero =>
   intro k c L J
   refine AM.go (rs:=[.tmp 8]) tk mixed func330 rfl rfl rfl kr (ic (dJ _) (ic (dJ _) mi)) (ia (dJ _) (ia (dJ _) mh)) rfl λM=>?_
   have f:=UN a i
   refine cZ f ?_
   refine⟨λ_=>⟨rfl,rfl⟩,λh=>absurd h (by rw[show(k:Int)=i by omega];simp)⟩
 | succ r N =>
   intro k c L J
   refine AM.go (rs:=[.tmp 8]) tk mixed func330 rfl rfl rfl kr (ic (dJ _) (ic (dJ _) mi)) (ia (dJ _) (ia (dJ _) mh)) rfl λM=>?_
   have f:=UN a i
   refine cZ f ?_
   refine⟨λh=>absurd (beq_iff_eq.1 h) om,λ_=>?_⟩
   refine az (λ((x,d):Nat×N0) s=>(s.sl 0=.own 1000000 1/\s.rw 1000000=⟨1,.sli 3 1 l0 (iL (vT a i))⟩/\s.sl 1=.own 1000001 1/\s.rw 1000001=⟨1,.sli 3 1 l0 (iL d)⟩/\s.sl 2=al k/\s.sl 3=al p/\s.sl 9=al x)/\(x<=p/\d.length=i/\RB (λx c=>yg (Lw a) k x c k) k (XT (Lw a) p r (k+1)) (p-x) x d=XT (Lw a) p (r+1) k c)) (λ(x,d)=>p-x) ((0,c)) ⟨nm,⟨aB _,J,rfl⟩⟩ ?_
   intro(x,d) U ⟨w,B⟩
   obtain⟨P,l,b⟩:=B
   refine iD w f l ?_
   refine⟨λC=>?_,λC=>?_⟩
   have g:k<i:=om;have D:p-x=(p-(x+1))+1:=om;rw[D,RB]at b;have E:=zon (gs:=a) g;have q:yg (Lw a) k x d 0=true:=rfl;refine az (λ(j:Nat)s=>(s.sl 0=.own 1000000 1/\s.rw 1000000=⟨1,.sli 3 1 l0 (iL (vT a i))⟩/\s.sl 1=.own 1000001 1/\s.rw 1000001=⟨1,.sli 3 1 l0 (iL d)⟩/\s.sl 2=al k/\s.sl 3=al p/\s.sl 9=al x/\s.sl 10=aU (yg (Lw a) k x d j)/\s.sl 11=al j)/\(j<=k)) (λj=>k-j) (0) ⟨(gE w q),aB _⟩ ?_;intro j V ⟨m,Q⟩;refine iD m f l ?_;refine⟨λy=>?_,λy=>?_⟩
   have F:D0.u64.wrap (j:Int)=(j:Int):=dm om;have t:(fu .i64 (wH .i64 ((XQ a k:Nat):Int) (j:Int)) 1==1)=Lw a k j:=CL (by have:=zml a k;omega) om;have o:=zbT (Lw a) k x d j;refine Cn m f l F E t ?_;refine⟨g,g,λz=>⟨om,om,λG=>?_,λG=>?_⟩,λz=>?_⟩
   have e:yg (Lw a) k x d (j+1)=false:=by rw[o,z,ay (beq_iff_eq.1 G)];simp
   exact ah (j+1) ⟨(fB m e (ak y om)),om⟩
   have e:yg (Lw a) k x d (j+1)=yg (Lw a) k x d j:=by rw[o,z,aD (beq_eq_false_iff_ne.1 G)];simp
   exact ah (j+1) ⟨(fB m e (ak y om)),om⟩
   have e:yg (Lw a) k x d (j+1)=yg (Lw a) k x d j:=by rw[o,z];simp
   exact ah (j+1) ⟨(fB m e (ak y om)),om⟩
   have:j=k:=om;subst this;refine⟨λn=>?_,λn=>?_⟩
   have n:yg (Lw a) j x d j=false:=ss n
   rw[ac (by rw[n];decide)]at b;exact ah ((x+1,d)) ⟨(fB w m (ak C om)),⟨by dsimp only;omega,l,b⟩⟩
   have n:yg (Lw a) j x d j=true:=ss n
   rw[ae n]at b;have u:lh (d.set j (x:Int))=i:=by rw[de];exact l
   have H:=N (j+1) (d.set j x) om u;have I:=WV (Lw a) p i r (j+1) (d.set j x) u;have R:D0.i64.wrap ((j:Int)+1)=((j+1:Nat):Int):=ak g om;rw[R];refine⟨g,g,oJ H [(1000000,1),(1000001,1)] (by repeat (first|exact GiveL.nil|refine GiveL.v ?_|refine GiveL.clo ?_|refine GiveL.own 0 rfl ?_|refine GiveL.own 1 rfl ?_|refine GiveL.ag ?_ ?_)) ⟨by simp -dsimp only[gr,simprocAttr,m],by simp -dsimp only[gr,simprocAttr,m],trivial⟩ dc ?_⟩;refine cZ m ?_;refine⟨λA=>?_,λA=>?_⟩
   rw[ae A]at b;rw[<- b,A];exact⟨rfl,rfl⟩
   rw[ac (by rw[A];decide)]at b;exact ah ((x+1,(XT (Lw a) p r (j+1) (d.set j (x:Int))).2)) ⟨(fB w m (ak C om)),⟨by dsimp only;omega,I,b⟩⟩
   have e:p-x=0:=om;rw[e,RB]at b;rw[<- b];exact⟨rfl,rfl⟩
def UO(a:N0)(i j:Nat):Bool:=ao a (2^i+2^j)
noncomputable def MJ(n:Int)(a:N0)(k:Int):Option N0:=if aS n a=k0/\(1<=k/\k<=6)then Lx (UO a) k.toNat n.toNat []else o0
theorem zt1{a:W0}{m:Nat}(i:∀j,j<m->h d j=a d j)(c:N0):yg h d r c m=yg a d r c m:=by unfold yg;grind
theorem UP{ok a:V0}{g b:Nat->Option N0}(c:∀x,ok x=a x)(d:∀x,g x=b x):∀m x,Sf ok g m x=Sf a b m x
 | 0,_=>rfl
 | m+1,x=>by rw[Sf,Sf,c,d,UP c d m (x+1)]
theorem znT{b a:W0}{n:Nat}(k:Nat)(h:∀i j,i<n->j<i->b i j=a i j):∀(r:Nat)(head:N0),lh head+r=n->Lx b k r head=Lx a k r head
 | 0,_,_=>rfl
 | r+1,head,d=>UP (λx=>zt1 (λj c=>h _ j om c) _) (λx=>znT k h r _<|by grind) k 0
theorem zqW:∀s,s<64->∀i,i<6->∀j,j<6->(!(aQ s==2)||!s.testBit i||!s.testBit j||!decide (i≠j)||(s==2^i+2^j))=true:=by decide +kernel
theorem zqX:∀i,i<6->∀j,j<6->(!decide (i≠j)||(decide (2^i+2^j<64)&&(aQ (2^i+2^j)==2)&&(2^i+2^j).testBit i&&(2^i+2^j).testBit j))=true:=by decide +kernel
theorem zvP(b:aS (d:Int) c=k0)(m:d<=6){j:Nat}(t:r<d)(u:j<r):Lw (Sh d c) r j=UO c r j:=by
 have e:Sh (d:Int) c=bl (cd (ao c) 2 64):=ae b;have a:∀x∈Sh (d:Int) c,x.toNat<64:=λx a=>by rw[e]at a;unfold bl at a;obtain⟨s,i,rfl⟩:=List.mem_map.1 a;simpa using(fI.1 i).1
 unfold Lw UO;rw[Wj _ _ _ a,e,aZ];unfold adj;rw[cS];have f:=zqX r om j om;constructor;rintro⟨x,a,h⟩;unfold bl at a;obtain⟨s,i,rfl⟩:=List.mem_map.1 a;obtain⟨g,k,l⟩:=fI.1 i;rw[ar,aj,aj]at h;have:=zqW s g r om j om;rw[l,h.1,h.2.1,ay (show r≠j by omega)]at this;rw[<- show s=2^r+2^j by simpa using this];exact k;intro h;rw[show decide (r≠j)=k0 from ay om]at f;obtain⟨⟨⟨n,o⟩,p⟩,q⟩:((2^r+2^j<64/\aQ (2^r+2^j)=2)/\(2^r+2^j).testBit r=k0)/\(2^r+2^j).testBit j=true:=ss f;refine⟨((2^r+2^j:Nat):Int),List.mem_map.2 ⟨_,fI.2 ⟨n,h,o⟩,rfl⟩,?_⟩;rw[ar,p,q,ay (show r≠j by omega)];rfl
theorem zw:AC prog 298 [.ag [al n,aE a],al k] (.tup [.fr 3 1 (iL ((MJ n a k).getD [])),.im (aU (MJ n a k).isSome)]):=by
 refine cA [.tmp 4,.tmp 5] func298 λG=>?_;refine aR (aa (OS n a) ?_);refine aR ?_;have d:¬(aS n a=k0/\(1<=k/\k<=6))->[]=iL ((MJ n a k).getD [])/\(MJ n a k).isSome=false:=λh=>by rw[show MJ n a k=o0 from ac h];exact⟨rfl,rfl⟩
 refine⟨λg=>⟨λu=>⟨λw=>d λh=>om,λw=>?_⟩,λu=>d λh=>om⟩,λg=>d λh=>by rw[h.1]at g;cases g⟩;have b:aS n a=true:=ss g;have r:=cY.1 b;obtain⟨m,rfl⟩:∃m:Nat,n=m:=⟨n.toNat,by have:=r.1;omega⟩;obtain⟨q,rfl⟩:∃q:Nat,k=q:=⟨k.toNat,om⟩;have e:m<=6:=by have:=r.2.1;omega
 have y:goN (m:Int) a=(m:Int):=ae b;have z:MJ (m:Int) a q=Lx (Lw (Sh m a)) q m []:=by unfold MJ;rw[ae ⟨b,om,om⟩,ar,ar];exact(znT (n:=m) q (λi j A B=>zvP b e A B) m [] sp).symm
 have o:∀x∈Sh (m:Int) a,0<=x/\x<64:=λx p=>by rw[show Sh (m:Int) a=bl (cd (ao a) 2 64) from ae b]at p;unfold bl at p;obtain⟨s,C,rfl⟩:=List.mem_map.1 p;have:=(fI.1 C).1;omega
 rw[y,z];obtain⟨D,E⟩:=zt2 (Lw (Sh (m:Int) a)) q m;refine⟨om,om,om,aa (Ds m e _ o) ?_⟩;have c:=HZ (Sh (m:Int) a) q m om e m 0 (ld m 0) om sp;generalize Sh (m:Int) a=t at *;refine aR ?_;rw[D]at c;refine oJ c [(28,1),(26,1)] (by repeat (first|exact GiveL.nil|refine GiveL.v ?_|refine GiveL.clo ?_|refine GiveL.own 0 rfl ?_|refine GiveL.own 1 rfl ?_|refine GiveL.ag ?_ ?_)) ⟨by simp -dsimp only[gr,simprocAttr]<;>rfl,by simp -dsimp only[gr,simprocAttr]<;>rfl,trivial⟩ dc ?_;refine aR ?_;refine⟨λf=>?_,λf=>?_⟩;cases F:Lx (Lw t) q m []with
 | none=>exact⟨rfl,rfl⟩
 | some l=>rw[F]at f;cases f
 have f:(Lx (Lw t) q m []).isSome=true:=ss f;rw[E f];exact⟨rfl,f⟩
theorem OR(u:aS (m:Int) a=k0)(hk:p<=6):∀(r:Nat)(head:N0),lh head+r=m ->
 AF prog 341 [.ag [al m,aE a],al p] (iL head) 3 (iL ((Lx (UO a) p r head).getD [])) (Lx (UO a) p r head).isSome:=by
 have W:m<=6:=by have:=(cY.1 u).2.1;omega
 have K:=dM u
 intro r
 induction r with
 | zero =>
   intro head X
   unfold AF
   refine xag [.tmp 6,.tmp 7] func341 λY L z i q=>?_
   have D:z.sl 0=.ag [al m,aE a]:=by rw[i];rfl
   have E:z.sl 1=al p:=by rw[i];rfl
   have F:z.sl 2=.own 1000000 1:=by rw[i];rfl
   have w:z.rw 1000000=⟨1,.sli 3 1 l0 (iL head)⟩:=by rw[q,uD]
   have G:∀j,j<1000000->z.rw j=⟨0,.dead⟩:=λj c=>by rw[q,GV _ _ om]
   clear i q
   refine nN D E F w G ?_
   refine⟨λ_=>⟨1000000,1,.inl rfl,rfl,by simp -dsimp only[gr,simprocAttr,w];rfl⟩,λh=>?_⟩
   rw[bc]at h
   exact absurd om h
 | succ r Z =>
   intro head X
   unfold AF
   refine xag [.tmp 6,.tmp 7] func341 λY L z i q=>?_
   have D:z.sl 0=.ag [al m,aE a]:=by rw[i];rfl
   have E:z.sl 1=al p:=by rw[i];rfl
   have F:z.sl 2=.own 1000000 1:=by rw[i];rfl
   have w:z.rw 1000000=⟨1,.sli 3 1 l0 (iL head)⟩:=by rw[q,uD]
   have G:∀j,j<1000000->z.rw j=⟨0,.dead⟩:=λj c=>by rw[q,GV _ _ om]
   clear i q
   refine nN D E F w G ?_
   have M:((lh head:Int)==(m:Int))=false:=by rw[bc];omega
   refine⟨λh=>absurd (M.symm.trans h) dc,λ_=>?_⟩
   refine az (λ(x:Nat)s=>(s.sl 1=al p/\s.sl 2=.own 1000000 1/\s.rw 1000000=⟨1,.sli 3 1 l0 (iL head)⟩/\s.sl 3=.ref 3 1 0/\s.rw 3=⟨1,.box 31 [al m,aE a]⟩/\s.sl 8=al (lh head)/\s.sl 9=al x)/\(x<=p/\Sf (λx=>yg (UO a) (lh head) x head (lh head)) (λx=>Lx (UO a) p r (head++[(x:Int)])) (p-x) x=Lx (UO a) p (r+1) head)) (λx=>p-x) (0) ⟨(DM D E F w G),⟨aB _,rfl⟩⟩ ?_
   intro x sa ⟨H,N⟩
   obtain⟨a0,d⟩:=N
   refine cZ H ?_
   refine⟨λO=>?_,λO=>?_⟩
   rw[show p-x=(p-(x+1))+1 by omega,Sf]at d;have y:yg (UO a) (lh head) x head 0=true:=rfl;refine az (λ(j:Nat)s=>(s.sl 1=al p/\s.sl 2=.own 1000000 1/\s.rw 1000000=⟨1,.sli 3 1 l0 (iL head)⟩/\s.sl 3=.ref 3 1 0/\s.rw 3=⟨1,.box 31 [al m,aE a]⟩/\s.sl 8=al (lh head)/\s.sl 9=al x/\s.sl 10=aU (yg (UO a) (lh head) x head j)/\s.sl 11=al j)/\(j<=lh head)) (λj=>lh head-j) (0) ⟨(gE H y),aB _⟩ ?_;intro j sb ⟨n,a1⟩;refine cZ n ?_;refine⟨λc=>?_,λc=>?_⟩
   have f:=zbT (UO a) (lh head) x head j;have P:D0.u64.wrap (j:Int)=(j:Int):=dm om;have A:D0.u64.wrap (lh head:Int)=(lh head:Int):=dm om;have a2:2^j<=2^4:=aV dc om;have a3:2^head.length<=2^5:=aV dc om;have t:jl .i64 1 (j:Int)=((2^j:Nat):Int):=eh om;have g:jl .i64 1 (lh head:Int)=((2^head.length:Nat):Int):=eh om;have V:D0.i64.wrap (((2^head.length:Nat):Int)+((2^j:Nat):Int))=((2^head.length+2^j:Nat):Int):=by clear t g f;generalize 2^j=k at *;generalize 2^head.length=b at *;rw[aF om om];omega
   refine Cn n P A t g V ?_;have Q:2^head.length+2^j<64:=by clear t g V f;generalize 2^j=k at *;generalize 2^head.length=b at *;omega
   refine⟨λI=>⟨c,c,λR=>aa (jB m a _ K Q) ?_,λR=>?_⟩,λI=>?_⟩
   have e:yg (UO a) (lh head) x head (j+1)=!ao a (2^head.length+2^j):=by rw[f,I,ay (show lg head j 0=(x:Int)by simpa using R),au,nM];rfl
   refine cZ n ?_;exact ah (j+1) ⟨(fB n e (ak c om)),om⟩
   have e:yg (UO a) (lh head) x head (j+1)=true:=by rw[f,I,aD (show ¬head.getD j 0=(x:Int) from bne_iff_ne.1 R)];simp
   exact ah (j+1) ⟨(fB n e (ak c om)),om⟩
   have e:yg (UO a) (lh head) x head (j+1)=false:=by rw[f,I];rfl
   exact ah (j+1) ⟨(fB n e (ak c om)),om⟩
   have B:j=lh head:=om;refine⟨λo=>?_,λo=>?_⟩
   have o:yg (UO a) (lh head) x head (lh head)=false:=by rw[B]at o;simpa using o
   rw[ac (by rw[o];decide)]at d;exact ah (x+1) ⟨(fB H n (ak O om)),⟨om,d⟩⟩
   have o:yg (UO a) (lh head) x head (lh head)=true:=by rw[B]at o;simpa using o
   rw[ae o]at d;have S:=Z (head++[(x:Int)]) (by rw[aA,cG];omega);refine⟨kr,om,om,Zn S (λ_ _ _ _=>.ag (.one (.v _) (.one (.sl _ _ _) .nil)) (.one (.v _) .nil)) rfl (by simp -dsimp only[gr,simprocAttr];rw[show iL (head++[(x:Int)])=iL head++iL [(x:Int)] from by simp[iL]]<;>rfl) (dJ _) dc dc ?_⟩;refine cZ n ?_;refine⟨kr,λJ=>?_,λJ=>?_⟩
   obtain⟨l,C⟩:=Option.isSome_iff_exists.1 J;rw[C]at d;rw[<- d,C];exact⟨64,_,.inr dc,rfl,gl⟩
   have e0:Lx (UO a) p r (head++[(x:Int)])=none:=by
    cases U:Lx (UO a) p r (head++[(x:Int)])with
    | none=>rfl
    | some l=>rw[U]at J;cases J
   rw[e0]at d;exact ah (x+1) ⟨(fB H n (ak O om)),⟨om,d⟩⟩
   rw[show p-x=0 by omega,Sf]at d;rw[<- d];exact⟨69,_,.inr dc,rfl,by simp -dsimp only[gr,simprocAttr];rfl⟩
theorem zu:AC prog 306 [.ag [al n,aE a],al k] (.tup [.fr 3 1 (iL ((MJ n a k).getD [])),.im (aU (MJ n a k).isSome)]):=by
 refine cA [.tmp 4,.tmp 5] func306 λw=>?_;refine aR (aa (bw n a) ?_);refine aR ?_;have c:¬(aS n a=k0/\(1<=k/\k<=6))->[]=iL ((MJ n a k).getD [])/\(MJ n a k).isSome=false:=λh=>by rw[show MJ n a k=o0 from ac h];exact⟨rfl,rfl⟩
 refine⟨λf=>aa (fe _ _ _) ?_,λf=>c λh=>by rw[h.1]at f;cases f⟩;refine aR ?_;refine⟨λh=>(c λg=>by rw[ay g.2.1,ay g.2.2]at h;cases h),λh=>?_⟩;have b:aS n a=true:=ss f;have j:1<=k/\k<=6:=ss h;have l:=cY.1 b;obtain⟨m,rfl⟩:∃m:Nat,n=m:=⟨n.toNat,by have:=l.1;omega⟩;obtain⟨q,rfl⟩:∃q:Nat,k=q:=⟨k.toNat,om⟩;have p:MJ (m:Int) a q=Lx (UO a) q m []:=by unfold MJ;rw[ae ⟨b,j⟩,ar,ar]
 rw[p];have s:=OR m a q b om m [] sp;generalize Lx (UO a) q m []=o at *;refine zg4 s (λ_ _=>.ag (.one (.v _) (.one (.sl _ _ _) .nil)) (.one (.v _) .nil)) rfl (by simp -dsimp only[gr,simprocAttr];rfl) (dJ _) dc λS x r t d e u i=>?_;rcases t with rfl|rfl
 exact DL d e;exact DL d e
theorem FO:-2<=gD n a/\gD n a<=5:=by by_cases b:mr n a=k0;have:=Dn b;have:=eD<|ao a;omega;rw[show gD n a=-2 from ac b];omega
noncomputable def IN(n:Int)(a:N0):Nat->Int->Int
 | 0,_=>0
 | m+1,k=>if(MJ n a k).isSome=k0 then k else IN n a m (k+1)
theorem Dg:AC prog 255 [.ag [al n,aE a]] (.im (al (IN n a 6 1))):=by
 refine cA [.tmp 2] func255 λi=>?_;refine aR ?_;refine az (λ(k:Nat)s=>(s.sl 1=.ref 1 1 0/\s.rw 1=⟨1,.box 31 [al n,aE a]⟩/\s.sl 3=al ((k:Int)+1))/\(k<=6/\IN n a (6-k) ((k:Int)+1)=IN n a 6 1)) (λk=>6-k) (0) ⟨nm,⟨aB _,rfl⟩⟩ ?_;intro k j ⟨d,e⟩;obtain⟨l,b⟩:=e;refine cZ d ?_;refine⟨λh=>?_,λh=>?_⟩;rw[show 6-k=(6-(k+1))+1 by omega,IN]at b;refine aa (zw n a _) ?_;refine cZ d ?_;refine⟨λf=>?_,λf=>?_⟩;rw[ae f]at b;exact b.symm;rw[ac (by rw[f];decide)]at b;have g:D0.i64.wrap ((k:Int)+1+1)=((k+1:Nat):Int)+1:=by rw[aF om om];omega
 have c:IN n a (6-(k+1)) (((k+1:Nat):Int)+1)=IN n a 6 1:=by rw[<- b];congr 1
 exact ah (k+1) ⟨(gE d g),⟨om,c⟩⟩;rw[show 6-k=0 by omega,IN]at b;rw[<- b]
theorem Dh:AC prog 269 [.ag [al n,aE a]] (.im (al (IN n a 6 1))):=by
 refine cA [.tmp 2] func269 λi=>?_;refine aR ?_;refine az (λ(k:Nat)s=>(s.sl 1=.ref 1 1 0/\s.rw 1=⟨1,.box 31 [al n,aE a]⟩/\s.sl 3=al ((k:Int)+1))/\(k<=6/\IN n a (6-k) ((k:Int)+1)=IN n a 6 1)) (λk=>6-k) (0) ⟨nm,⟨aB _,rfl⟩⟩ ?_;intro k j ⟨d,e⟩;obtain⟨l,b⟩:=e;refine cZ d ?_;refine⟨λh=>?_,λh=>?_⟩;rw[show 6-k=(6-(k+1))+1 by omega,IN]at b;refine aa (zu n a _) ?_;refine cZ d ?_;refine⟨λf=>?_,λf=>?_⟩;rw[ae f]at b;exact b.symm;rw[ac (by rw[f];decide)]at b;have g:D0.i64.wrap ((k:Int)+1+1)=((k+1:Nat):Int)+1:=by rw[aF om om];omega
 have c:IN n a (6-(k+1)) (((k+1:Nat):Int)+1)=IN n a 6 1:=by rw[<- b];congr 1
 exact ah (k+1) ⟨(gE d g),⟨om,c⟩⟩;rw[show 6-k=0 by omega,IN]at b;rw[<- b]
noncomputable def WT(n:Int)(a:N0):Bool:=mr n a&&decide (IN n a 6 1=max (gD n a+1) 1)
theorem FP:AC prog 160 [.ag [al n,aE a]] (.im (aU (WT n a))):=by
 refine cA [.tmp 2] func160 λg=>?_;refine aR<|aa (aH n a) ?_;refine aR ?_;unfold WT;refine⟨λb=>⟨λc=>?_,λc=>⟨kr,aa (Dg n a) ?_⟩⟩,λb=>?_⟩;rw[show mr n a=l0 from Bool.eq_false_iff.2 λh=>by have:=(fR.1 h).2;grind];rfl;have d:=fR.2 ⟨ss b,ov λe=>by grind⟩;have i:=FO n a;have f:D0.i64.wrap _=gD n a+1:=aF om om;refine aR<|aa (mQ n a) ?_;refine cZ f ?_
 grind
 rw[show mr n a=l0 from Bool.eq_false_iff.2 λh=>by have:=(fR.1 h).1;grind];rfl
theorem FQ:AC prog 209 [.ag [al n,aE a]] (.im (aU (WT n a))):=by
 refine cA [.tmp 2] func209 λf=>?_;refine aR ?_;refine⟨kr,aa (gZ n a) ?_⟩;refine aR ?_;unfold WT;refine⟨λh=>aa (Dh n a) ?_,λh=>?_⟩;have b:=aC λd=>by rw[show gD n a=-2 from ac d]at h;omega
 have g:=FO n a;have c:D0.i64.wrap _=gD n a+1:=aF om om;refine aR<|aa (gZ n a) ?_;refine cZ c<|aa (DS _ _) ?_;refine cZ c ?_
 grind
 rw[show mr n a=l0 from Bool.eq_false_iff.2 λb=>by have:=Dn b;have⟨_,_,_,_,_,e,_⟩:=FT b;have i:0<cv (ao a):=(by have:=rz 64 0 dc e;unfold cv;omega);omega];rfl
theorem zj1{i:O0}(h:co b=l++d::i):(∃t,t∈i/\d&&&t=d)↔iF b k0 d=false:=by
 have f:=wK b;rw[h,zZ]at f;have j:=List.pairwise_cons.1 f.2.1;have p:d<64/\b d=true:=cR.1 (by rw[h];simp);constructor;rintro⟨t,c,k⟩;have a:t<64/\b t=true:=cR.1 (by rw[h];simp[c]);cases g:iF b k0 d with
 | false=>rfl
 | true =>have:=ku.1 g t a.1 a.2 k;subst this;exact absurd (j.1 t c) qD
 intro g;have:¬ ∀t,t<64->b t=k0->d&&&t=d->t=d:=λh=>by rw[ku.2 h]at g;cases g
 have⟨t,c⟩:=Classical.not_forall.1 this;have m:t<64:=aC λh=>c λs=>absurd s h;have s:b t=true:=aC λh=>c λ_ s=>absurd s h;have n:d&&&t=d:=aC λh=>c λ_ _ s=>absurd s h;have o:t≠d:=λe=>c λ_ _ _=>e;have q:=ry m p.1 n (Ne.symm o);have a:t∈l++d::i:=h ▸ cR.2 ⟨m,s⟩;rcases List.mem_append.1 a with a|a
 have:=f.2.2 t a d sp;unfold rx at this;omega;rcases List.mem_cons.1 a with a|a;exact absurd a o;exact⟨t,a,n⟩
theorem mS(M:m<18446744073709551616):AC prog 233 [dv m] (.fr 3 1 (iL (bl (dI m.testBit k0)))):=by
 refine cA [.tmp 2] func233 λS=>?_;refine aR (aa (lP m M) ?_);refine cZ @ap ?_;have I:=ordN_len m.testBit;have w:∀k,k<lh (co m.testBit)->lg (co m.testBit) k 0<64:=λk b=>(cR.1 (aP 0 b)).1;have E:∀k,k<lh (co m.testBit)->((∃t,t∈(co m.testBit).drop (k+1)/\(co m.testBit).getD k 0&&&t=lg (co m.testBit) k 0)↔iF m.testBit k0 (lg (co m.testBit) k 0)=l0):=λk b=>zj1 (zbz b);unfold dI;generalize co m.testBit=all at *;refine az (λ((k,v,H):Nat×Nat×Bool) s=>(s.sl 3=.own 11 1/\s.rw 11=⟨1,.sli 3 1 H (iL (bl all))⟩/\s.sl 4=.own 4 v/\s.rw 4=⟨v,.sli 3 1 l0 (iL (bl ((all.take k).filter (iF m.testBit k0))))⟩/\s.sl 12=.own 11 1/\s.sl 13=al (lh all)/\s.sl 14=al k)/\(k<=lh all)) (λ(k,v,H)=>lh all-k) ((0,1,l0)) ⟨(jX @ap),sp⟩ ?_;intro(k,v,H) U ⟨o,O⟩;have J:lh ((all.take k).filter (iF m.testBit k0))<=k:=aJ OB (by simp;omega);by_cases b:k<lh all;have V:=w k b;have G:lg (bl all) k 0=((lg all k 0:Nat):Int):=bX b;have a:=ak b om;have y:∀j,j<lh (all.drop (k+1))->(lg (all.drop (k+1)) j 0)<64/\(bl (all.drop (k+1))).getD j 0=((lg (all.drop (k+1)) j 0:Nat):Int):=λj D=>⟨by
  grind,bX D⟩
 have P:lh (all.drop (k+1))<=448:=by simp;omega
 have g:∀j,j<lh (all.drop (k+1))->(gU .i64 (lg all k 0:Nat) (lg (bl (all.drop (k+1))) j 0)=0↔all.getD k 0&&&(all.drop (k+1)).getD j 0=lg all k 0):=λj D=>by have Q:=y j D;rw[Q.2,fv om om,<- gW];omega
 have l:(bl all).drop (k+1)=bl (all.drop (k+1)):=by unfold bl;rw[List.map_drop]
 have q:=E k b;have x:iF m.testBit k0 (lg all k 0)=k0->bl ((all.take (k+1)).filter (iF m.testBit k0))=bl ((all.take k).filter (iF m.testBit k0))++[((lg all k 0:Nat):Int)]:=λh=>by rw[ny b h,cI,jZ]
 have F:iF m.testBit k0 (lg all k 0)=l0->bl ((all.take (k+1)).filter (iF m.testBit k0))=bl ((all.take k).filter (iF m.testBit k0)):=λh=>by rw[qv b h]
 cases H with
 | false =>
   refine Cn o @ap G a @ar l ?_;refine⟨λ_=>⟨b,b,om,?_⟩,λh=>absurd b h⟩;refine az (λ(j:Nat)s=>(s.sl 3=.own 11 1/\s.rw 11=⟨1,.sli 3 1 k0 (iL (bl all))⟩/\s.sl 4=.own 4 v/\s.rw 4=⟨v,.sli 3 1 l0 (iL (bl ((all.take k).filter (iF m.testBit k0))))⟩/\s.sl 12=.own 11 1/\s.sl 13=al (lh all)/\s.sl 14=al k/\s.sl 6=al (lg all k 0:Nat)/\s.sl 7=.v (.bool l0)/\s.sl 22=.sl k0 1 (iL (bl (all.drop (k+1))))/\s.sl 23=al (all.drop (k+1)).length/\s.sl 24=al j)/\(j<=(all.drop (k+1)).length/\∀i,i<j->lg all k 0&&&(all.drop (k+1)).getD i 0≠all.getD k 0)) (λj=>lh (all.drop (k+1))-j) (0) ⟨(DM o @ap G a l),sp⟩ ?_;intro j R ⟨r,z⟩;obtain⟨D,c⟩:=z;refine ox r @ap G a ?_;refine⟨λd=>⟨d,d,λu=>?_,λu=>?_⟩,λd=>?_⟩;have p:=(g j d).1 (ss u);have A:=q.1 ⟨_,aP 0 d,p⟩;have e:=F A;exact ah ((k+1,v,k0)) ⟨(rS o r a e),by dsimp only;omega⟩;have p:¬all.getD k 0&&&(all.drop (k+1)).getD j 0=lg all k 0:=λh=>by rw[(g j d).2 h]at u;simp at u
   have B:=ak d om;exact ah (j+1) ⟨(gE r B),⟨om,λi n=>by rcases Nat.lt_succ_iff_lt_or_eq.1 n with n|rfl;exact c i n;exact p⟩⟩;have A:iF m.testBit k0 (lg all k 0)=true:=by
    cases K:iF m.testBit k0 (lg all k 0)with
    | true=>rfl
    | false =>obtain⟨t,L,C⟩:=q.2 K;obtain⟨i,n,rfl⟩:=eX 0 L;exact absurd C (c i om)
   have e:=x A;exact⟨om,ah ((k+1,v+1,k0)) ⟨(rS o r a e),by dsimp only;omega⟩⟩
 | true =>
   refine Cn o @ap G a @ar l ?_;refine⟨λ_=>⟨b,b,om,?_⟩,λh=>absurd b h⟩;refine az (λ(j:Nat)s=>(s.sl 3=.own 11 1/\s.rw 11=⟨1,.sli 3 1 k0 (iL (bl all))⟩/\s.sl 4=.own 4 v/\s.rw 4=⟨v,.sli 3 1 l0 _⟩/\s.sl 12=.own 11 1/\s.sl 13=al (lh all)/\s.sl 14=al k/\s.sl 6=al (lg all k 0:Nat)/\s.sl 7=.v (.bool l0)/\s.sl 22=.sl k0 1 (iL (bl (all.drop (k+1))))/\s.sl 23=al (all.drop (k+1)).length/\s.sl 24=al j)/\(j<=(all.drop (k+1)).length/\∀i,i<j->lg all k 0&&&(all.drop (k+1)).getD i 0≠all.getD k 0)) (λj=>lh (all.drop (k+1))-j) (0) ⟨(DM o @ap G a l),sp⟩ ?_;intro j R ⟨r,z⟩;obtain⟨D,c⟩:=z;refine ox r @ap G a ?_;refine⟨λd=>⟨d,d,λu=>?_,λu=>?_⟩,λd=>?_⟩;have p:=(g j d).1 (ss u);have A:=q.1 ⟨_,aP 0 d,p⟩;have e:=F A;exact ah ((k+1,v,k0)) ⟨(rS o r a e),by dsimp only;omega⟩;have p:¬all.getD k 0&&&(all.drop (k+1)).getD j 0=lg all k 0:=λh=>by rw[(g j d).2 h]at u;simp at u
   have B:=ak d om;exact ah (j+1) ⟨(gE r B),⟨om,λi n=>by rcases Nat.lt_succ_iff_lt_or_eq.1 n with n|rfl;exact c i n;exact p⟩⟩;have A:iF m.testBit k0 (lg all k 0)=true:=by
    cases K:iF m.testBit k0 (lg all k 0)with
    | true=>rfl
    | false =>obtain⟨t,L,C⟩:=q.2 K;obtain⟨i,n,rfl⟩:=eX 0 L;exact absurd C (c i om)
   have e:=x A;exact⟨om,ah ((k+1,v+1,k0)) ⟨(rS o r a e),by dsimp only;omega⟩⟩
 refine ff o @ap ?_;grind
theorem mR(a:m<18446744073709551616):AC prog 138 [al n,dv m] (.ag [.im (al n),.fr 3 1 (iL (bl (dI m.testBit k0)))]):=by refine cA [.cell 4 31] func138 λb=>?_;refine aR<|aa (mS m a) ?_;exact ef
def kW(a:N0)(s:Nat):Bool:=a.all λx=>!(x.toNat&&&s==x.toNat)
theorem zb8{k s:Nat}(h:k<lh c):kW (c.take (k+1)) s=(kW (c.take k) s&&!((lg c k 0).toNat&&&s==(lg c k 0).toNat)):=by simp[kW,bj 0 h]
theorem zb9(a:0<=x/\x<64){s:Nat}(b:s<64):(fu .i64 x (s:Int) != x)=!(x.toNat&&&s==x.toNat):=by have e:x=x.toNat:=om;rw[e,ej om om];grind
noncomputable def apF(n:Int)(a:N0)(s:Nat):Bool:=decide (s<2^n.toNat)&&kW a s
theorem QF(C:m<=6)(D:Uu a):AC prog 184 [al m,aE a] (.ag [.im (al m),.fr 3 1 (iL (bl (dI (apF m a) k0)))]):=by
 refine cA [.cell 4 31] func184 λE=>?_;simp only[dt,dT,dF,gb,jt,hZ,ga,kQ,cC]at E;have F:=dx C;have x:jl .i64 1 (m:Int)=((2^m:Nat):Int):=eh C;have y:D0.u64.wrap (m:Int)=(m:Int):=dm om;refine aR ?_;refine az (λ((t,v):Nat×Nat) s=>(s.sl 0=al m/\s.sl 1=aE a/\s.sl 4=.ref 4 1 0/\s.rw 4=⟨1,.box 31 [al 0,.v (.slice o0 0 0)]⟩/\s.sl 5=.own 9 v/\s.rw 9=⟨v,.sli 3 1 l0<|iL<|bl<|(lc t).filter<|kW a⟩/\s.sl 6=al t)/\(t<=2^m)) (λ(t,v)=>2^m-t) ((0,1)) ⟨nm,sp⟩ ?_;intro(t,v) N ⟨u,H⟩;have I:lh ((lc t).filter<|kW a)<=64:=by have:=aO (kW a)<|lc t;rw[bp]at this;omega
 refine iD u x y ?_;refine⟨λh=>?_,λh=>?_⟩;have w:kW a t=k0->bl ((lc<|t+1).filter<|kW a)=bl ((lc t).filter<|kW a)++[(t:Int)]:=λh=>by rw[bW,aW,cI];simp[h,bl]
 have z:kW a t=l0->bl ((lc<|t+1).filter<|kW a)=bl ((lc t).filter<|kW a):=λh=>by rw[bW,aW,cI];simp[h,bl]
 have J:kW (a.take 0) t=true:=rfl;refine az (λ(k:Nat)s=>(s.sl 0=al m/\s.sl 1=aE a/\s.sl 4=.ref 4 1 0/\s.rw 4=⟨1,.box 31 [al 0,.v (.slice o0 0 0)]⟩/\s.sl 5=.own 9 v/\s.rw 9=⟨v,.sli 3 1 l0<|iL<|bl<|(lc t).filter<|kW a⟩/\s.sl 6=al t/\s.sl 7=.v (.bool<|kW (a.take k) t)/\s.sl 8=al k)/\(k<=lh a)) (λk=>lh a-k) (0) ⟨(gE u J),om⟩ ?_;intro k O ⟨⟨c,d,f,g,j,l,n,b,o⟩,K⟩;by_cases p:k<lh a;have q:=zb8 (s:=t) p;have r:=zb9 (HC D p) (s:=t) om;simp only[↓gp,gq,simprocAttr,gT,c,d,f,g,j,l,n,b,o,r];refine⟨λ_=>⟨kr,λA=>⟨p,p,p,p,?_⟩,λA=>?_⟩,λh=>absurd p h⟩;rw[A,au]at q;exact ah (k+1) ⟨(by and_intros<;>(first|(simp only[gr,simprocAttr,c,d,f,g,j,l,n,b,o,ak p om,q];first|done|rfl|(simp;done))|assumption|rfl)),om⟩;rw[A,ce]at q;exact ah (k+1) ⟨(by and_intros<;>(first|(simp only[gr,simprocAttr,c,d,f,g,j,l,n,b,o,ak p om,q];first|done|rfl|(simp;done))|assumption|rfl)),om⟩;have L:a.take k=a:=bK om;rw[L]at b;simp only[↓gp,gq,simprocAttr,gT,c,d,f,g,j,l,n,b,o];refine⟨λh=>absurd h p,λ_=>⟨λB=>?_,λB=>?_⟩⟩;have e:=w B;exact⟨by rw[ap];omega,ah ((t+1,v+1)) ⟨(by and_intros<;>(first|(simp only[gr,simprocAttr,u,c,d,f,g,j,l,n,b,o,ak h om,e];first|done|rfl|(simp;done))|assumption|rfl)),by dsimp only;omega⟩⟩;have e:=z B;exact ah ((t+1,v)) ⟨(by and_intros<;>(first|(simp only[gr,simprocAttr,u,c,d,f,g,j,l,n,b,o,ak h om,e];first|done|rfl|(simp;done))|assumption|rfl)),by dsimp only;omega⟩;have:t=2^m:=om;subst this;refine aa (eV m _<|CU λi M=>?_) ?_;have:=List.mem_range.1 (List.mem_filter.1 M).1;omega;have e:hU (bl<|(lc<|2^m).filter<|kW a)=apF m a:=by funext s;exact znb
 rw[e];exact mg u
def Bu(f:V0)(c:Nat)(k:Nat):O0:=(lc k).filter λt=>f t&&(t&&&c==c)&&t != c
theorem zoq:Bu f m 64=wZ f m:=rfl
theorem zor{f:V0}{c k:Nat}(h:(f k&&(k&&&c==c)&&k != c)=k0):Bu f c (k+1)=Bu f c k++[k]:=by simp[Bu,bW,h]
theorem zrq(h:(b r&&(r&&&d==d)&&r != d)=l0):Bu b d (r+1)=Bu b d r:=by simp[Bu,bW,h]
theorem zos(a:d<=64):lh (Bu f m d)<=(wZ f m).length:=by
 have e:lc 64=lc d++(lc<|64-d).map (d+·):=by rw[<- List.range_add];congr 1;omega
 unfold Bu wZ;grind
def zeE(l:O0):Int:=if (lh l)=1 then((lg l 0 0:Nat):Int)else -1
theorem zue:zeE [m]=(m:Int):=rfl
theorem sN(z:m<18446744073709551616)(C:p<64) :
 AC prog 222 [dv m,al p] (.tup [.im (al (if(wZ m.testBit p).length<=1 then zeE (wZ m.testBit p)else 0)),.im (aU (kx m.testBit p))]):=by
 refine cA [.tmp 4,.tmp 5] func222 λD=>?_
 simp only[↓gp,gq,simprocAttr,gT]
 refine az (λ(k:Nat)s=>s.sl 0=dv m/\s.sl 1=al p/\s.sl 6=al (zeE (Bu m.testBit p k))/\s.sl 7=al k/\(k<=64/\(Bu m.testBit p k).length<=1)) (λk=>64-k) (0) (by refine⟨?_,?_,?_,?_,⟨om,by simp[Bu]⟩⟩<;>(first|(simp only[gr,simprocAttr];first|done|rfl|(simp;done))|assumption|rfl)) ?_
 intro k E ⟨a,b,d,g,u⟩
 have⟨G,i⟩:=u
 by_cases F:k<64
 have j:(gU .i64 (p:Int) (k:Int)==0)=(k&&&p==p):=by rw[fv om om,aZ,aK,aK];have:=@gW p k;rw[cl k p];omega
 have n:((k:Int) != (p:Int))=(k != p):=by rw[aZ,gS,gS];omega
 simp only[↓gp,gq,simprocAttr,gT,a,b,d,g,n,j];have l:(m.testBit k&&(k&&&p==p)&&k != p)=l0->Bu m.testBit p (k+1)=Bu m.testBit p k:=zrq;have o:=zos m.testBit p (show k+1<=64 by omega);have r:=ak F (show 64<=9223372036854775807 by omega);refine⟨λ_=>⟨λw=>⟨λx=>aa (ez m k z F) ?_,λx=>?_⟩,λw=>?_⟩,λh=>absurd (show(k:Int)<64 by omega) h⟩
 simp only[↓gp,gq,simprocAttr,gT,a,b,d,g,n,j];refine⟨λy=>?_,λy=>?_⟩
 have t:=zor (f:=m.testBit) (c:=p) (k:=k) (by rw[w,x,y];rfl);refine⟨λc=>?_,λc=>?_⟩
 have q:lh (Bu m.testBit p k)=1:=by unfold zeE at c;split at c;assumption;omega
 have A:2<=(wZ m.testBit p).length:=by rw[t,aA,q]at o;exact o
 rw[ac om];refine⟨rfl,?_⟩;unfold kx;exact beq_eq_false_iff_ne.2 om
 have B:Bu m.testBit p k=[]:=by refine aL ?_;unfold zeE at c;split at c;omega;omega
 rw[B,eg]at t;exact ah (k+1) (by refine⟨?_,?_,?_,?_,⟨om,by rw[t];exact ab _⟩⟩<;>(first|(simp only[gr,simprocAttr,a,b,d,g,r,t,zue];first|done|rfl|(simp;done))|assumption|rfl)) (by first|omega|(simp only;omega)|(dsimp only;omega)|(show _<_;simp;omega))
 have e:=l (by rw[y];rfl);exact ah (k+1) (by refine⟨?_,?_,?_,?_,⟨om,by rw[e];exact i⟩⟩<;>(first|(simp only[gr,simprocAttr,a,b,d,g,r,e];first|done|rfl|(simp;done))|assumption|rfl)) (by first|omega|(simp only;omega)|(dsimp only;omega)|(show _<_;simp;omega))
 have e:=l (by rw[x];simp);exact ah (k+1) (by refine⟨?_,?_,?_,?_,⟨om,by rw[e];exact i⟩⟩<;>(first|(simp only[gr,simprocAttr,a,b,d,g,r,e];first|done|rfl|(simp;done))|assumption|rfl)) (by first|omega|(simp only;omega)|(dsimp only;omega)|(show _<_;simp;omega))
 have e:=l (by rw[w];simp);exact ah (k+1) (by refine⟨?_,?_,?_,?_,⟨om,by rw[e];exact i⟩⟩<;>(first|(simp only[gr,simprocAttr,a,b,d,g,r,e];first|done|rfl|(simp;done))|assumption|rfl)) (by first|omega|(simp only;omega)|(dsimp only;omega)|(show _<_;simp;omega))
 obtain rfl:k=64:=om;rw[zoq]at *;simp (maxSteps:=9^7) -dsimp only[↓gp,gq,reduceCtorEq,lj,lm,lp,ll,lu,lr,lw,lz,lA,lB,lC,lk,gT,a,b,d,g];refine⟨λh=>absurd h dc,λ_=>?_⟩;rw[ae i];refine⟨rfl,?_⟩;unfold kx zeE;split
 rename_i h;rw[h];simp
 rename_i h;rw[beq_eq_false_iff_ne.2 h];simp
theorem Cg(F:m<18446744073709551616):AC prog 151 [dv m] (.fr 3 1 (iL (bl (eN m.testBit)))):=by
 refine cA [.tmp 2] func151 λr=>?_;refine aR (aa (lP m F) ?_);have a:=ap (co m.testBit);have g:=ordN_len m.testBit;have b:=λi (n:i<lh (co m.testBit))=>(cR.1 (aP 0 n)).1;have c:eN _=(co m.testBit).filter _:=rfl;rw[c];generalize co m.testBit=all at *;refine cZ a ?_;refine az (λ(k,v)s=>(s.sl 0=dv m/\s.sl 3=.own 3 v/\s.rw 3=⟨v,.sli 3 1 l0 (iL (bl ((all.take k).filter (kx m.testBit))))⟩/\s.sl 9=.own 9 1/\s.rw 9=⟨1,.sli 3 1 l0 (iL (bl all))⟩/\s.sl 10=al (lh all)/\s.sl 11=al k)/\(k<=lh all)) (λ(k,v)=>lh all-k) ((0,1)) ⟨(jX a),om⟩ ?_;intro(k,v) t ⟨f,p⟩;have q:lh ((all.take k).filter (kx m.testBit))<=k:=aJ (aO _ _) (by rw[bg];omega);refine ff f a ?_;refine⟨λh=>?_,λh=>?_⟩;have j:=b k h;rw[bX h];refine⟨h,h,aa (sN m _ F j) ?_⟩;have d:(all.take (k+1)).filter (kx m.testBit)=(all.take k).filter (kx m.testBit)++[lg all k 0].filter (kx m.testBit):=by rw[bj 0 h,aW]
 refine iD f a (bX h) ?_;refine⟨λl=>⟨by rw[ap];omega,?_⟩,λl=>?_⟩;have e:bl ((all.take (k+1)).filter (kx m.testBit))=bl ((all.take k).filter (kx m.testBit))++[((lg all k 0:Nat):Int)]:=by rw[d,cI,bF,ae l,dH];rfl
 exact ah ((k+1,v+1)) ⟨(fB f (ak h (by omega)) e),om⟩;have e:(all.take (k+1)).filter (kx m.testBit)=(all.take k).filter (kx m.testBit):=by grind
 exact ah ((k+1,v)) ⟨(fB f (ak h (by omega)) e),om⟩;grind
theorem Ii{l:O0}(h:0<lh l):lg (bl l) (lh l-1) 0=((pe l:Nat):Int):=bX om
noncomputable def zeF(a:N0):(V0)×O0:=QB 64 (ao a) []
theorem zot:zbY f<=64:=aO f<|lc 64
theorem kz:bA f 64<18446744073709551616:=by have:=dj f 64;grind
theorem jq:∀s,s<64->(bA f 64).testBit s=f s:=λs a=>by rw[mM,ay a,au]
theorem UZ(c:d<18446744073709551616)(b:r<18446744073709551616):gU .u64 (d:Int) (r:Int)=((d ^^^ (d&&&r):Nat):Int):=by
 have e:∀{x:Nat},x<18446744073709551616->(BitVec.ofInt 64 x).toNat=x:=λ{x}j=>by grind
 have h:BitVec.ofInt 64 d&&&~~~ BitVec.ofInt 64 r=BitVec.ofInt 64 d ^^^ (BitVec.ofInt 64 d&&&BitVec.ofInt 64 r):=by grind
 show D0.u64.wrap (((BitVec.ofInt 64 _&&&~~~ BitVec.ofInt 64 _).toNat:Nat):Int)=_;rw[h,BitVec.toNat_xor,kG,e c,e b];have f:d&&&r<2^64:=Nat.and_lt_two_pow _<|ss b;exact dm<|ss (gR (ss c) f)
theorem Du :
 AC prog 122 [.ag [al n,aE a]] (.tup [.ag [.im (al (if aS n a=k0 then n else 0)),.fr 3 1 (iL (if aS n a=k0 then bl (dI (zeF a).1 k0)else []))],.fr 3 1 (iL (if aS n a=k0 then bl (zeF a).2 else [])),.im (aU (aS n a))]):=by
 refine cA [.cell 2 31,.tmp 3,.tmp 4] func122 λU=>?_
 refine aR ?_
 refine aa (aH n a) ?_
 refine aR ?_
 refine⟨λg=>?_,λg=>?_⟩
 have g:aS n a=false:=ss g
 rw[g];exact⟨rfl,rfl,rfl,rfl⟩
 have g:aS n a=true:=ss g
 rw[g];refine aa (cj n a<|dM g) ?_;refine aR ?_;refine az (λ((f,l,m,v):(V0)×O0×Nat×Nat) s=>(s.sl 1=.ref 1 1 0/\s.rw 1=⟨1,.box 31 [al n,aE a]⟩/\s.sl 2=.ref 2 1 0/\s.rw 2=⟨1,.box 31 [al 0,.v (.slice o0 0 0)]⟩/\s.sl 5=dv (bA f 64:Nat)/\s.sl 6=.own 6 v/\s.rw 6=⟨v,.sli 3 1 l0<|iL<|bl l⟩)/\(QB m f l=zeF a/\zbY f<=m/\l.length+m<=64)) (λ(f,l,m,v)=>m) ((ao a,[],64,1)) ⟨nm,⟨rfl,zot _,sp⟩⟩ ?_;intro(f,l,m,v) V ⟨j,F⟩;obtain⟨c,w,I⟩:=F;have G:eN (bA f 64).testBit=eN f:=tM<|jq f;have P:=vQ f;refine cZ j<|aa (Cg (bA f 64)<|kz f) ?_;rw[G];have k:=ap<|eN f;have o:=vO (f:=f);have i:dI (bA f 64).testBit k0=dI f true:=je (jq f) k0;by_cases p:lh (eN f)=0
 have r:lJ f=true:=by unfold lJ;rw[p];rfl
 have x:=o r l m;rw[c]at x;refine ox j k p (show(((0:Nat):Int)==0)=k0 from rfl)<|aa (mR n (bA f 64)<|kz f) ?_;rw[i,x];exact mg j
 have y:D0.i64.wrap (((eN f).length:Int)-1)=((lh (eN f)-1:Nat):Int):=by rw[aF om om];omega
 have z:(((eN f).length:Int)==0)=false:=beq_eq_false_iff_ne.2 om;have d:=Ii (l:=eN f) om;refine Cn j k y z @ar d ?_;refine⟨om,om,λD=>?_,λD=>?_⟩
 have r:lJ f=true:=by
  unfold lJ;grind
 have x:=o r l m;rw[c]at x;refine aa (mR n (bA f 64)<|kz f) ?_;rw[i,x];exact mg j
 have r:lJ f=false:=by unfold lJ;grind
 obtain⟨c1,c2,H,W,X⟩:=vP r;obtain⟨Y,Z,p3,p4⟩:=zhU H;have K:=Xc r;obtain⟨E,rfl⟩:∃E,m=E+1:=⟨m-1,om⟩;obtain⟨t,u⟩:=Ie r l w;generalize Q:pe (eN f)=b at *;refine⟨om,om,aa (sN (bA f 64) b (kz f) c1) ?_⟩;rw[Pa<|jq f,zb0<|jq f,zeo H];have A:(if [xa f b].length<=1 then zeE [xa f b]else 0)=((xa f b:Nat):Int):=rfl;rw[A];have B:D0.u64.wrap (b:Int)=(b:Int):=dm om;have C:D0.u64.wrap (xa f b:Int)=(xa f b:Int):=dm om;have L:(2:Nat)^b<2^64:=bN om om;have M:(2:Nat)^xa f b<2^64:=bN om om;have R:2^b|||2^xa f b<2^64:=cu L M
 have N:gU .u64 (bA f 64:Nat) (EX .u64 (jl .u64 1 (b:Int))<|jl .u64 1 (xa f b:Int))=((bA (pB f b) 64:Nat):Int):=by rw[yU om,yU om,Ca (ss L)<|ss M,UZ (kz f)<|ss R,zre c1 H]
 simp only[↓gp,gq,simprocAttr,gT,j,k,y,z,ar,d,B,C,N];have S:bl (l++[b])=bl l++[(b:Int)]:=cI l [b];refine⟨by rw[ap];omega,ah ((pB f b,l++[b],E,v+1)) ⟨(DM j B C N S),⟨by rw[<- t];exact c,u,by show(l++[b]).length+E<=64;rw[aA,cG];omega⟩⟩⟩
theorem Xl(h:l.Pairwise rx):l.Nodup:=h.imp λ{a b}c e=>by subst e;exact qD c
theorem zoo{b:O0}(c:l.Pairwise rx)(d:b.Pairwise rx)(h:∀s,s∈l↔s∈b):l=b :=
 List.Perm.eq_of_pairwise (λx y _ _ e f=>by unfold rx at e f;omega) c d<|(dn (Xl c)<|Xl d).2 h
theorem zj0:(co f).Perm ((lc 64).filter f) :=
 (dn (Xl<|wK f)<|List.Pairwise.filter _ dC).2 λs=>by rw[cR,dG,eJ]
theorem zrp:lh ((co f).filter λt=>(t&&&m==m)&&t != m)=(wZ f m).length:=by rw[((zj0 f).filter _).length_eq,ou];unfold wZ;grind
theorem xe(h:aS x c=k0):c=bl (dI (ao c) k0):=by
 have A:=cY.1 h;have e:=dM h;have I:bl (c.map Int.toNat)=c:=by
  unfold bl;rw[fj];have:∀n∈c,((λs:Nat=>(s:Int))∘Int.toNat) n=id n:=λn l=>by have:=e n l;show((n.toNat:Nat):Int)=n;omega
  rw[cO this,JT]
 have B:(c.map Int.toNat).Pairwise rx:=by refine List.pairwise_iff_getElem.2 λi j p q f=>?_;have r:i<lh c:=ss p;have m:j<lh c:=ss q;have d:=HE A j i f m;rw[fU 0 r,fU 0 m]at d;have a:=e _ (bx r);have b:=e _ (bx m);rw[aM,aM];generalize c[i]=n at *;generalize c[j]=y at *;unfold rQ at d;rw[nA a,nA b]at d;simp only[aj,aq]at d;obtain⟨_,_,d⟩:=d;unfold rx;split at d;rw[aq]at d;omega;rw[aq]at d;omega
 have C:c.map Int.toNat=dI (ao c) true:=by
  refine zoo B (Ft _ _) λs=>?_;rw[ja];have g:∀t,ao c t=k0↔∃n∈c,n.toNat&&&t=t:=λt=>by unfold ao;rw[cS];exact⟨λ⟨n,D,E⟩=>⟨n,D,ss E⟩,λ⟨n,D,E⟩=>⟨n,D,ss E⟩⟩
  have u:∀n∈c,∀y∈c,n.toNat&&&y.toNat=n.toNat->n=y:=λn l y o k=>by
   obtain⟨i,p,rfl⟩:=eX 0 l;obtain⟨j,q,rfl⟩:=eX 0 o;rcases Nat.lt_trichotomy i j with f|f|f
   have:=(A.2.2 j q).2.2 i f;have a:=e _ (aP 0 p);have b:=e _ (aP 0 q);refine absurd ?_ this;have J:lg c i 0=(((lg c i 0).toNat:Nat):Int):=om;have K:lg c j 0=(((lg c j 0).toNat:Nat):Int):=om;rw[J,K,ej om om,k];rw[f];have d:=HE A i j f p;have a:=e _ (aP 0 p);have b:=e _ (aP 0 q);by_cases F:lg c i 0=lg c j 0;exact F;have:=ry (s:=(lg c j 0).toNat) (t:=(lg c i 0).toNat) om om k om;unfold rQ at d;rw[nA a,nA b]at d;simp only[aj,aq]at d;obtain⟨_,_,d⟩:=d;split at d;rw[aq]at d;omega;rw[aq]at d;omega
  constructor;intro d;obtain⟨n,l,rfl⟩:=List.mem_map.1 d;have a:=e n l;refine⟨⟨om,(g _).2 ⟨n,l,dp _⟩⟩,ku.2 λt O G w=>?_⟩;grind;rintro⟨⟨L,M⟩,N⟩;obtain⟨y,o,H⟩:=(g s).1 M;have b:=e y o;have:=ku.1 N y.toNat om ((g _).2 ⟨y,o,dp _⟩) (by rw[cl];exact H);rw[<- this];exact List.mem_map.2 ⟨y,o,rfl⟩
 rw[<- C,I]
theorem KE(a:O0)(c:Nat)(w:∀g∈a,g<64)(D:c<64)(x:lh a<=1000000):AC prog 201 [aE (bl a),al c] (.fr 3 1 (iL (bl (a.filter λt=>(t&&&c==c)&&t != c)))):=by
 refine cA [.tmp 4] func201 λy=>?_;simp only[dt,dT,dF,kQ,ga,cC,ap]at y;have l:=ap a;refine aR ?_;refine az (λ((k,v):Nat×Nat) s=>(s.sl 0=aE (bl a)/\s.sl 1=al c/\s.sl 5=.own 7 v/\s.rw 7=⟨v,.sli 3 1 l0 (iL (bl ((a.take k).filter λt=>(t&&&c==c)&&t != c)))⟩/\s.sl 6=al k)/\(k<=lh a/\a.length<=1000000)) (λ(k,v)=>lh a-k) ((0,1)) ⟨nm,⟨om,x⟩⟩ ?_;intro(k,v) E ⟨j,m⟩;have⟨F,_⟩:=m;have A:lh ((a.take k).filter λt=>(t&&&c==c)&&t != c)<=k:=aJ (aO _ _) (by rw[bg];omega);generalize n:(λt:Nat=>(t&&&c==c)&&t != c)=q at *;refine ff j l ?_;refine⟨λh=>?_,λh=>?_⟩;have G:=w _ (aP 0 h);have b:q (lg a k 0)=((lg a k 0&&&c==c)&&a.getD k 0 != c):=by rw[<- n]
 have B:(fu .i64 ((lg a k 0:Nat):Int) (c:Int)==(c:Int))=(lg a k 0&&&c==c):=by rw[ej om om,aZ,aK,aK];omega
 have C:(((lg a k 0:Nat):Int) != (c:Int))=(lg a k 0 != c):=by rw[aZ,gS,gS];omega
 have o:=ak h (show (lh a)<=9223372036854775807 by omega);have d:(a.take (k+1)).filter q=(a.take k).filter q++[lg a k 0].filter q:=by rw[bj 0 h,aW]
 have f:q (lg a k 0)=k0->bl ((a.take (k+1)).filter q)=bl ((a.take k).filter q)++[((lg a k 0:Nat):Int)]:=λp=>by rw[d,cI,bF,ae p,dH];rfl
 have i:q (lg a k 0)=l0->(a.take (k+1)).filter q=(a.take k).filter q:=λp=>by rw[d,bF,ac (by rw[p];decide),dH,bh]
 rw[bX h,B];refine⟨h,h,λr=>?_,λr=>?_⟩;rw[C];refine⟨h,h,λu=>?_,λu=>?_⟩;have e:=f (by rw[b,r,u];rfl);refine⟨h,h,by rw[ap];omega,ah ((k+1,v+1)) ⟨(fB j o e),⟨by dsimp only;omega,om⟩⟩⟩;have e:=i (by rw[b,u];simp);exact ah ((k+1,v)) ⟨(fB j o e),⟨by dsimp only;omega,om⟩⟩;have e:=i (by rw[b,r];rfl);exact ah ((k+1,v)) ⟨(fB j o e),⟨by dsimp only;omega,om⟩⟩;have e:k=lh a:=om;subst e;rw[av]
theorem qg:AC prog 104 [.ag [al n,aE a]] (.fr 3 1 (iL (bl (eN (ci n a))))):=by
 refine cA [.tmp 2] func104 λF=>?_;refine aR (aa (io n a) ?_);have f:=ap (co (ci n a));have r:=ordN_len (ci n a);have j:=λi (z:i<lh (co (ci n a)))=>(cR.1 (aP 0 z)).1;have b:∀g∈co (ci n a),g<64:=λg A=>(cR.1 A).1;have u:∀c,(lh ((co (ci n a)).filter λt=>(t&&&c==c)&&t != c)==1)=kx (ci n a) c:=λc=>by rw[zrp];rfl
 have l:eN (ci n a)=(co (ci n a)).filter (kx (ci n a)):=rfl;rw[l];generalize kx (ci n a)=q at *;generalize co (ci n a)=all at *;refine aR ?_;refine az (λ((k,v):Nat×Nat) s=>(s.sl 3=.own 6 v/\s.rw 6=⟨v,.sli 3 1 l0 (iL (bl ((all.take k).filter q)))⟩/\s.sl 4=.own 8 1/\s.rw 8=⟨1,.sli 3 1 l0 (iL (bl all))⟩/\s.sl 5=al k)/\(k<=lh all)) (λ(k,v)=>lh all-k) ((0,1)) ⟨nm,om⟩ ?_;intro(k,v) G ⟨p,C⟩;have D:lh ((all.take k).filter q)<=k:=aJ (aO _ _) (by rw[bg];omega);refine ff p f ?_;refine⟨λh=>?_,λh=>?_⟩;have w:=j k h;have y:=ak h (show (lh all)<=9223372036854775807 by omega);have m:(all.take (k+1)).filter q=(all.take k).filter q++[lg all k 0].filter q:=by rw[bj 0 h,aW]
 rw[bX h];refine⟨h,h,aa (KE all (lg all k 0) b w om) ?_⟩;have E:=u (lg all k 0);have o:=ap (all.filter λt=>(t&&&all.getD k 0==lg all k 0)&&t != lg all k 0);have d:(((all.filter λt=>(t&&&all.getD k 0==lg all k 0)&&t != lg all k 0).length:Int)==1)=q (lg all k 0):=by rw[<- E,aZ,aK,aK];omega
 refine nN p f o (bX h) d ?_;refine⟨λx=>⟨h,h,by rw[ap];omega,?_⟩,λx=>?_⟩;have e:bl ((all.take (k+1)).filter q)=bl ((all.take k).filter q)++[((lg all k 0:Nat):Int)]:=by rw[m,cI,bF,ae x,dH];rfl
 exact ah ((k+1,v+1)) ⟨(fB p y e),by dsimp only;omega⟩;have e:(all.take (k+1)).filter q=(all.take k).filter q:=by rw[m,bF,ac (by rw[x];decide),dH,bh]
 exact ah ((k+1,v)) ⟨(fB p y e),by dsimp only;omega⟩;have e:k=lh all:=om;subst e;rw[av]
theorem ky(G:p<64):AC prog 182 [.ag [al n,aE a],al p] (.ag [.im (al n),.fr 3 1 (iL (bl (dI (pB (ci n a) p) k0)))]):=by
 refine cA [.cell 4 31] func182 λH=>?_;refine aR (aa (io n a) ?_);have m:=ap (co (ci n a));have o:=ordN_len (ci n a);have d:=λi (z:i<lh (co (ci n a)))=>(cR.1 (aP 0 z)).1;have b:∀g∈co (ci n a),g<64:=λg A=>(cR.1 A).1;have f:dI (hU (bl ((co (ci n a)).filter λt=>!(t&&&p==p)))) k0=dI (pB (ci n a) p) true:=by refine je (λs c=>?_) k0;rw[pb,aZ,aq,dG,cR];simp_all[pB,aj]
 rw[<- f];generalize co (ci n a)=all at *;generalize r:(λt:Nat=>!(t&&&p==p))=q at *;refine aR ?_;refine az (λ((k,v):Nat×Nat) s=>(s.sl 1=al p/\s.sl 2=.ref 2 1 0/\s.rw 2=⟨1,.box 31 [al n,aE a]⟩/\s.sl 4=.ref 4 1 0/\s.rw 4=⟨1,.box 31 [al 0,.v (.slice o0 0 0)]⟩/\s.sl 5=.own 8 v/\s.rw 8=⟨v,.sli 3 1 l0 (iL (bl ((all.take k).filter q)))⟩/\s.sl 6=.own 10 1/\s.rw 10=⟨1,.sli 3 1 l0 (iL (bl all))⟩/\s.sl 7=al k)/\(k<=lh all)) (λ(k,v)=>lh all-k) ((0,1)) ⟨nm,om⟩ ?_;intro(k,v) I ⟨l,C⟩;have D:lh ((all.take k).filter q)<=k:=aJ (aO _ _) (by rw[bg];omega);refine ff l m ?_;refine⟨λh=>?_,λh=>?_⟩;have E:=d k h;have y:=ak h (show (lh all)<=9223372036854775807 by omega);have j:(all.take (k+1)).filter q=(all.take k).filter q++[lg all k 0].filter q:=by rw[bj 0 h,aW]
 have u:(fu .i64 ((lg all k 0:Nat):Int) (p:Int) != (p:Int))=q (lg all k 0):=by rw[<- r,ej om om];show _=!(lg all k 0&&&p==p);rw[aZ,gS,bC,bc];omega
 rw[bX h,u];refine⟨h,h,λw=>⟨h,h,by rw[ap];omega,?_⟩,λw=>?_⟩;have e:bl ((all.take (k+1)).filter q)=bl ((all.take k).filter q)++[((lg all k 0:Nat):Int)]:=by rw[j,cI,bF,ae w,dH];rfl
 exact ah ((k+1,v+1)) ⟨(fB l y e),by dsimp only;omega⟩;have e:(all.take (k+1)).filter q=(all.take k).filter q:=by rw[j,bF,ac (by rw[w];decide),dH,bh]
 exact ah ((k+1,v)) ⟨(fB l y e),by dsimp only;omega⟩;have e:k=lh all:=om;subst e;rw[av];refine aa (eV n _ (λx F=>?_)) ?_;obtain⟨s,c,rfl⟩:=List.mem_map.1 (show x∈(all.filter q).map λs:Nat=>(s:Int) from F);have:=b s (List.mem_filter.1 c).1;omega;exact mg l
def UY(n:Int)(f:V0):Prop:=DnF f/\∀s,s<64->f s=k0->s<2^n.toNat
theorem Xm(a:1<=x)(f:x<=6)(h:UY x b):aS x (bl (dI b k0))=true:=by have:=zel om om h.2;grind
theorem Xn(a:1<=x)(f:x<=6)(h:UY x b):∀s,s<64->ci x (bl (dI b k0)) s=b s:=λs c=>by rw[ci,Xm a f h,au,vv,zep h.1 c]
theorem Xo(h:UY x b)(c:Nat):UY x (pB b c):=⟨zsP h.1 c,λs f a=>h.2 s f<|by simp_all[pB]⟩
theorem nV(h:aS x c=k0):UY x (ao c):=by
 refine⟨λs t a b=>pZ a b,λs m f=>?_⟩;unfold ao at f;rw[cS]at f;obtain⟨n,g,e⟩:=f;have e:=beq_iff_eq.1 e;obtain⟨o,p,j⟩:=cY.1 h;obtain⟨i,k,rfl⟩:=eX 0 g;have d:=(j i k).1;unfold di at d;have:s<=(lg c i 0).toNat:=by rw[<- e];exact bI
 grind
theorem zop{g:V0}(h:∀s,s<64->b s=g s)(c:Nat):dI (pB b c) k0=dI (pB g c) true:=je (λs a=>by simp_all[pB]) _
theorem zG(b:lh a<=1048576):AC prog 17 [.ag [al n,aE a]] (.ag [.im (al n),.fr 3 1 (iL a)]):=by refine cA [.cell 2 31] func17 λc=>?_;refine aR ?_;exact⟨kr,om,kr⟩
theorem Dt :
 AC prog 79 [.ag [al n,aE a]] (.tup [.ag [.im (al (if aS n a=k0 then n else 0)),.fr 3 1 (iL (if aS n a=k0 then bl (dI (zeF a).1 k0)else []))],.fr 3 1 (iL (if aS n a=k0 then bl (zeF a).2 else [])),.im (aU (aS n a))]):=by
 refine cA [.cell 2 31,.tmp 3,.tmp 4] func79 λX=>?_
 refine aR ?_
 refine aa (bw n a) ?_
 refine aR ?_
 refine⟨λw=>?_,λw=>?_⟩
 have w:aS n a=false:=ss w
 rw[w];exact⟨rfl,rfl,rfl,rfl⟩
 have w:aS n a=true:=ss w
 rw[w];obtain⟨H,I,_⟩:=cY.1 w;have E:=xe w;have R:lh a<=448:=by rw[E,ap];exact vu _ _
 refine aa (zG n a om) ?_;refine aR ?_;refine az (λ((f,l,m,v,F,u):(V0)×O0×Nat×Nat×PV×Nat) s=>(s.sl 2=.ref 2 1 0/\s.rw 2=⟨1,.box 31 [al 0,.v (.slice o0 0 0)]⟩/\s.sl 5=.ref 5 1 0/\s.rw 5=⟨1,.box 31 [al n,F]⟩/\s.sl 6=.own 16 v/\s.rw 16=⟨v,.sli 3 1 l0<|iL<|bl l⟩)/\(QB m f l=zeF a/\zbY f<=m/\l.length+m<=64/\UY n f/\((F=.own 15 1/\s.rw 15=⟨1,.sli 3 1 l0<|iL<|bl<|dI f k0⟩)\/(F=.own 45 u/\s.rw 45=⟨u,.sli 3 1 l0<|iL<|bl<|dI f k0⟩)))) (λ(f,l,m,v,F,u)=>m) ((ao a,[],64,1,.own 15 1,0)) ⟨nm,⟨rfl,zot _,sp,nV w,Or.inl ⟨rfl,by rw[<- E];simp only[gr,simprocAttr]⟩⟩⟩ ?_;intro(f,l,m,v,F,u) J ⟨x,K⟩;obtain⟨b,A,Q,c,L⟩:=K;rcases L with⟨rfl,p⟩|⟨rfl,p⟩
 have g:=Xn H I c;have M:=Xm H I c;have B:eN (ci n<|bl<|dI f k0)=eN f:=tM g;refine ff x p<|aa (qg n<|bl<|dI f k0) ?_;rw[B];have q:=ap<|eN f;have N:=vQ f;by_cases h:lh (eN f)=0
 have i:lJ f=true:=by unfold lJ;rw[h];rfl
 have r:=vO i l m;rw[b]at r;refine nN x p q h (show(((0:Nat):Int)==0)=k0 from rfl) ?_;rw[r];exact⟨rfl,rfl⟩
 have C:D0.i64.wrap (((eN f).length:Int)-1)=((lh (eN f)-1:Nat):Int):=by rw[aF om om];omega
 have D:(((eN f).length:Int)==0)=false:=beq_eq_false_iff_ne.2 om;have j:=Ii (l:=eN f) om;refine xA x p q C D @ar j ?_;refine⟨om,om,λy=>?_,λy=>?_⟩
 have i:lJ f=true:=by
  unfold lJ;have:pe (eN f)=0:=by have:=beq_iff_eq.1 y;omega
  rw[this];simp
 have r:=vO i l m;rw[b]at r;rw[r];exact⟨rfl,rfl⟩
 have i:lJ f=false:=by unfold lJ;rw[ir,bc,bc];refine⟨h,λe=>?_⟩;rw[e]at y;simp at y
 obtain⟨c1,c2,U,V,W⟩:=vP i;have G:=Xc i;obtain⟨z,rfl⟩:∃z,m=z+1:=⟨m-1,om⟩;obtain⟨k,o⟩:=Ie i l A;generalize O:pe (eN f)=d at *;have t:=ky n (bl<|dI f k0) d c1;rw[zop g d]at t;refine⟨om,om,by rw[ap];omega,aa t ?_⟩;have P:bl (l++[d])=bl l++[(d:Int)]:=cI l [d];refine ff x p ?_;exact ah ((pB f d,l++[d],z,v+1,.own 45 ((J.rw 45).ver+1),(J.rw 45).ver+1)) ⟨(fB x p P),⟨by rw[<- k];exact b,o,by show(l++[d]).length+z<=64;rw[aA,cG];omega,Xo c d,Or.inr ⟨rfl,by simp only[gr,simprocAttr,p]⟩⟩⟩
 have g:=Xn H I c;have M:=Xm H I c;have B:eN (ci n<|bl<|dI f k0)=eN f:=tM g;refine ff x p<|aa (qg n<|bl<|dI f k0) ?_;rw[B];have q:=ap<|eN f;have N:=vQ f;by_cases h:lh (eN f)=0
 have i:lJ f=true:=by unfold lJ;rw[h];rfl
 have r:=vO i l m;rw[b]at r;refine nN x p q h (show(((0:Nat):Int)==0)=k0 from rfl) ?_;rw[r];exact⟨rfl,rfl⟩
 have C:D0.i64.wrap (((eN f).length:Int)-1)=((lh (eN f)-1:Nat):Int):=by rw[aF om om];omega
 have D:(((eN f).length:Int)==0)=false:=beq_eq_false_iff_ne.2 om;have j:=Ii (l:=eN f) om;refine xA x p q C D @ar j ?_;refine⟨om,om,λy=>?_,λy=>?_⟩
 have i:lJ f=true:=by
  unfold lJ;have:pe (eN f)=0:=by have:=beq_iff_eq.1 y;omega
  rw[this];simp
 have r:=vO i l m;rw[b]at r;rw[r];exact⟨rfl,rfl⟩
 have i:lJ f=false:=by unfold lJ;rw[ir,bc,bc];refine⟨h,λe=>?_⟩;rw[e]at y;simp at y
 obtain⟨c1,c2,U,V,W⟩:=vP i;have G:=Xc i;obtain⟨z,rfl⟩:∃z,m=z+1:=⟨m-1,om⟩;obtain⟨k,o⟩:=Ie i l A;generalize O:pe (eN f)=d at *;have t:=ky n (bl<|dI f k0) d c1;rw[zop g d]at t;refine⟨om,om,by rw[ap];omega,aa t ?_⟩;have P:bl (l++[d])=bl l++[(d:Int)]:=cI l [d];refine ff x p ?_;exact ah ((pB f d,l++[d],z,v+1,.own 45 ((J.rw 45).ver+1),(J.rw 45).ver+1)) ⟨(fB x p P),⟨by rw[<- k];exact b,o,by show(l++[d]).length+z<=64;rw[aA,cG];omega,Xo c d,Or.inr ⟨rfl,by simp only[gr,simprocAttr,p]⟩⟩⟩
theorem Bs(e:m<18446744073709551616)(g:p<64)(f:i<64):AC prog 232 [al i,.eref l0 [dv m] 0,.eref l0 [al p] 0] (.im (aU (pB m.testBit p i))):=by
 refine cA [.tmp 4] func232 λt=>?_;have c:gU _ _ _=((p ^^^ (p&&&i):Nat)):=fv om om;have d:((((p ^^^ (p&&&i)):Int)) != 0)=!(i&&&p==p):=by have:=gW (a:=p) (b:=i);grind
 refine ff c d<|aa (ez m _ e f) ?_;refine ff c d ?_;unfold pB;grind
theorem jC(b:m<64):AC prog 134 [dv (bA f 64:Nat),al m] (.im (dv (bA (pB f m) 64:Nat))):=by refine cA [.tmp 4] func134 λd=>?_;have c:=dj f 64;refine aR<|aa (gF 6 om _ _ _ (λrw=>rfl) λt a=>Bs _ m t om b om) ?_;rw[oq (w':=pB f m) om λt a=>by simp_all[pB,ek]];exact ef
noncomputable def HY(a:N0)(p:Nat):N0:=bl (dI (hU (qU a (2^p))) k0)
noncomputable def WO(a:N0)(p:Nat):N0:=bl (dI (pB (ao a) (2^p)) k0)
noncomputable def zs(a:N0)(p:Nat):Bool:=ao a (2^p)&&(HY a p).all λs=>!decide (s∈WO a p)
def rD(a:N0):Nat:=bA (ao a) 64
theorem zbS:rD a<18446744073709551616:=by have:=dj (ao a) 64;simp_all[rD]
theorem RA(b:d<6):2^d<64:=by have:=bN (a:=2) dc b;omega
theorem WP(h:aS x c=k0):bl (dI (rD c).testBit k0)=c:=by
 conv=>rhs;rw[xe h]
 exact cV bl<|je (λs b=>ek _ b) _
theorem zt(h:aS (d:Int) c=k0)(b:r<6):aS (d:Int) (HY c r)=true:=OV h (RA b)
theorem OQ(h:aS (d:Int) c=k0)(p:Nat):aS (d:Int) (WO c p)=true:=have⟨b,a,_⟩:=cY.1 h;Xm b a<|Xo (nV h) _
theorem WQ(h:aS (d:Int) c=k0)(b:r<6)(t:Nat):ao (HY c r) t=dL (ao c) (2^r) t:=congrFun (OT h (RA b)) t
theorem WR(h:aS (d:Int) c=k0)(p:Nat)(b:r<64):ao (WO c p) r=pB (ao c) (2^p) r:=by have⟨a,t,_⟩:=cY.1 h;have:=Xn a t (Xo (nV h)<|2^p) r b;unfold ci at this;have e:=OQ h p;simp_all[WO]
theorem znS(h:aS (d:Int) c=k0)(b:r<6):bA (dL (ao c) (2^r)) 64=rD (HY c r):=gu λt _=>(WQ h b t).symm
theorem zsK(h:aS (d:Int) c=k0)(p:Nat):bA (pB (ao c) (2^p)) 64=rD (WO c p):=gu λt b=>(WR h p om).symm
theorem JD(a:d<lh c)(h:q (lg c d 0)=l0):c.all q=false:=by grind
theorem FM(a:d<lh c):(c.take (d+1)).all q=((c.take d).all q&&q (lg c d 0)):=by simp[bj 0 a]
theorem WS(h:aS (m:Int) a=k0)(g:p<6):AC prog 328 [dv (rD a),al p] (.im (aU (zs a p))):=by refine cA [.tmp 4] func328 λt=>?_;have i:=RA g;have k:=zbS a;have e:D0.u64.wrap (p:Int)=(p:Int):=dm om;have f:jl .i64 1 (p:Int)=((2^p:Nat):Int):=eh om;have q:(rD a).testBit (2^p)=ao a (2^p):=ek _ i;refine ff e f (aa (ez (rD a) _ k i) ?_);rw[q];refine ff e f ?_;unfold zs;refine⟨λc=>?_,λc=>aa (jC (ao a) _ i) ?_⟩;have c:ao a (2^p)=false:=ss c;rw[c];rfl;have c:ao a (2^p)=true:=ss c;rw[zsK h,c,au];refine aR (aa (mS _ (zbS _)) ?_);rw[WP (OQ h p)];refine aR (aa (jR (ao a) _ i) ?_);rw[znS h g];refine aR (aa (mS _ (zbS _)) ?_);rw[WP (zt h g)];have r:=fH (zt h g);generalize HY a p=L at *;generalize WO a p=D at *;refine aR ?_;refine az (λ(j:Nat)s=>(s.sl 6=.own 19 1/\s.rw 19=⟨1,.sli 3 1 l0 (iL D)⟩/\s.sl 23=.own 23 1/\s.rw 23=⟨1,.sli 3 1 l0 (iL L)⟩/\s.sl 24=al (lh L)/\s.sl 25=al j)/\(j<=lh L/\(L.take j).all (λs=>!decide (s∈D))=k0)) (λj=>lh L-j) (0) ⟨nm,⟨aB _,rfl⟩⟩ ?_;intro j u ⟨l,n⟩;obtain⟨w,b⟩:=n;refine cZ l ?_;refine⟨λd=>⟨d,d,aa (tK _ _) ?_⟩,λd=>?_⟩;refine cZ l ?_;refine⟨λo=>?_,λo=>?_⟩;rw[JD d (by rw[ay o];rfl)];exact ah (j+1) ⟨(gE l (ak d om)),⟨om,by rw[FM d,b,aD o];rfl⟩⟩;rw[show L.take j=L from bK om]at b;rw[b]
theorem FN(h:aS (m:Int) a=k0)(A:p<m):AC prog 340 [.ag [al m,aE a],al p] (.im (aU (zs a p))):=by
 refine cA [.tmp 4] func340 λB=>?_;obtain⟨e,C,_⟩:=cY.1 h;have g:p<6:=om;have n:=RA g;have c:D0.u64.wrap (p:Int)=(p:Int):=dm om;have d:jl .i64 1 (p:Int)=((2^p:Nat):Int):=eh om;have i:D0.i64.wrap ((m:Int)-1)=(m:Int)-1:=aF om om;have k:=dM h;refine aR (aa (bw m a) ?_);have o:(decide ((0:Int)<=(p:Int))&&decide ((p:Int)<=(m:Int)-1))=true:=by rw[aj,aq,aq];omega
 refine ff h i (aa (fe _ _ _) ?_);rw[o];refine ox h i c d (aa (jB m a _ k n) ?_);refine ox h i c d ?_;unfold zs;refine⟨λf=>?_,λf=>?_⟩;have f:ao a (2^p)=false:=ss f;rw[f];rfl;have f:ao a (2^p)=true:=ss f;have w:=fH h;rw[f,au];refine aa (lQ m a _ n k om) ?_;refine ox h i c d (aa (ky m a _ n) ?_);have l:ci (m:Int) a=ao a:=by funext t;unfold ci;rw[h,au]
 rw[l];have x:=fH (zt h g);refine ox h i c d ?_;have y:bl (dI (hU (qU a (2^p))) k0)=HY a p:=rfl;have z:bl (dI (pB (ao a) (2^p)) k0)=WO a p:=rfl;rw[y,z];generalize HY a p=L at *;generalize WO a p=D at *;refine az (λ(j:Nat)s=>(s.sl 5=.ref 5 1 0/\s.rw 5=⟨1,.box 31 [al m,.own 31 1]⟩/\s.rw 31=⟨1,.sli 3 1 l0 (iL L)⟩/\s.sl 6=.ref 6 1 0/\s.rw 6=⟨1,.box 31 [al m,.own 36 1]⟩/\s.rw 36=⟨1,.sli 3 1 l0 (iL D)⟩/\s.sl 7=al j)/\(j<=lh L/\(L.take j).all (λs=>!decide (s∈D))=k0)) (λj=>lh L-j) (0) ⟨nm,⟨aB _,rfl⟩⟩ ?_;intro j E ⟨q,r⟩;obtain⟨F,b⟩:=r;refine cZ q ?_;refine⟨λe=>?_,λe=>?_⟩;refine⟨kr,e,e,aa (mO _ _) ?_⟩;refine cZ q ?_;refine⟨λu=>?_,λu=>?_⟩;rw[JD e (by rw[ay u];rfl)];exact ah (j+1) ⟨(gE q (ak e om)),⟨om,by rw[FM e,b,aD u];rfl⟩⟩;rw[show L.take j=L from bK om]at b;rw[b]
noncomputable def tL(a:N0):Nat:=lh ((lc 6).filter λp=>ao a (2^p))
noncomputable def HX:Nat->N0->Bool
 | 0,_=>k0
 | r+1,a=>decide (lh a<=1)||(lc 6).any λp=>zs a p&&HX r (HY a p)&&HX r (WO a p)
theorem zjA:HX (m+1) a=(decide (lh a<=1)||(lc 6).any λp=>zs a p&&HX m (HY a p)&&HX m (WO a p)):=rfl
noncomputable def FL(a:N0):Bool:=HX 7 a
theorem WM{a b:V0}{p:Nat}:∀{l:O0},(∀q∈l,a q=k0->b q=k0)->p∈l->b p=k0->a p=l0->lh (l.filter a)<lh (l.filter b)
 | [],_,h,_,_=>by grind
 | x::l,h,c,e,f=>by
   have i:lh (l.filter a)<=(l.filter b).length:=by
    have:l.filter a=(l.filter b).filter a:=by rw[ou];refine eM λq d=>?_;simp_all
    grind
   rcases List.mem_cons.1 c with rfl|c;grind;have g:=WM (λq d=>h q<|dd _ d) c e f;grind
theorem zhM:tL a<=6:=aO _<|lc 6
theorem zbQ(h:aS (d:Int) c=k0)(b:r<6)(a:ao c (2^r)=k0):tL (HY c r)<tL c:=by refine WM (λq p e=>?_) (List.mem_range.2 b) a ?_;rw[WQ h b]at e;unfold dL at e;rw[aj]at e;exact pZ e.2 (bB λi=>by grind);simp[WQ h b,dL]
theorem zbR(h:aS (d:Int) c=k0)(b:r<6)(a:ao c (2^r)=k0):tL (WO c r)<tL c:=by refine WM (p:=r) (λq p e=>?_) (List.mem_range.2 b) a ?_;rw[WR h r (RA (List.mem_range.1 p))]at e;unfold pB at e;rw[aj]at e;exact e.1;rw[WR h r (RA b)];unfold pB;rw[dp];simp
theorem zq(h:zs c d=k0):ao c (2^d)=true:=by simp_all[zs]
theorem any_eq{a:V0}(h:∀q∈l,b q=a q):l.any b=l.any a:=by grind
theorem AP(m:Nat):∀(r:Nat)(a:N0),aS (m:Int) a=k0->tL a<r->∀b,tL a<b->HX r a=HX b a
 | 0,_,_,h,_,_=>om
 | r+1,a,c,h,0,f=>om
 | r+1,a,c,h,b+1,f=>by unfold HX;congr 1;refine any_eq λp d=>?_;have d:=List.mem_range.1 d;cases g:zs a p;rfl;have e:=zq g;have i:=zbQ c d e;have j:=zbR c d e;rw[AP m r _ (zt c d) om b om,AP m r _ (OQ c p) om b om]
noncomputable def Qw(a:N0)(p:Nat):Bool:=zs a p&&FL (HY a p)&&FL (WO a p)
theorem zej(m:aS (d:Int) c=k0):FL c=(decide (lh c<=1)||(lc 6).any (Qw c)):=by refine(zjA 6 c).trans<|cV (decide (lh c<=1)||·)<|any_eq λp b=>?_;have b:=List.mem_range.1 b;show(zs c p&&HX 6 (HY c p)&&HX 6 (WO c p))=(zs c p&&HX 7 (HY c p)&&HX 7 (WO c p));cases e:zs c p;simp only[ce];have a:=zq e;have f:=zhM c;have g:=zbQ m b a;have h:=zbR m b a;rw[AP d 6 _ (zt m b) om 7 om,AP d 6 _ (OQ m p) om 7 om]
theorem zqV(b:aS (d:Int) c=k0)(a:r<6)(p:d<=r):zs c r=false:=by
 have e:ao c (2^r)=false:=by refine Bool.eq_false_iff.2 λf=>?_;have:=(nV b).2 _ (RA a) f;rw[ar]at this;have:=aV (show 0<2 by decide) p;omega
 unfold zs;rw[e];rfl
theorem znR(b:aS (d:Int) c=k0)(h:∀p,p<d->Qw c p=l0):(lc 6).any (Qw c)=false:=by rw[pk];intro p m;by_cases a:p<d;grind;simp[Qw,zqV b (List.mem_range.1 m) om]
theorem Kx(j:∀a,aS (m:Int) a=k0->tL a<p->AC prog 267 [.ag [al m,aE a]] (.im (aU (FL a))))(a:N0)(r:Nat)(h:aS (m:Int) a=k0)(u:tL a<p+1)(n:r<m):AC prog 305 [.ag [al m,aE a],al r] (.im (aU (Qw a r))):=by
 refine cA [.tmp 4] func305 λw=>?_;obtain⟨x,y,_⟩:=cY.1 h;have d:r<6:=om;have k:=RA d;have b:D0.u64.wrap (r:Int)=(r:Int):=dm om;have c:jl .i64 1 (r:Int)=((2^r:Nat):Int):=eh om;have g:=dM h;have o:=fH h;have e:ci (m:Int) a=ao a:=by funext t;unfold ci;rw[h,au]
 have q:bl (dI (hU (qU a (2^r))) k0)=HY a r:=rfl;have s:bl (dI (pB (ao a) (2^r)) k0)=WO a r:=rfl;refine ff b c (aa (FN m a r h n) ?_);refine ff b c ?_;unfold Qw;refine⟨λf=>?_,λf=>?_⟩;have l:=zq f;have z:=zbQ h d l;have A:=zbR h d l;refine aa (lQ m a _ k g om) ?_;rw[q];refine ff b c ?_;refine aa (j _ (zt h d) om) ?_;rw[f,au];refine ff b c ?_;refine⟨λi=>?_,λi=>?_⟩;refine aa (ky m a _ k) ?_;rw[e,s];refine ff b c ?_;refine aa (j _ (OQ h r) om) ?_;refine aR ?_;rw[i];rfl;rw[i];rfl;rw[f];rfl
theorem OP:∀(r:Nat)(a:N0),aS (m:Int) a=k0->tL a<r->AC prog 267 [.ag [al m,aE a]] (.im (aU (FL a))):=by
 intro r;induction r with
 | zero=>intro a _ h;omega
 | succ r k =>
   intro a h l;refine cA [.tmp 2] func267 λo=>?_;have⟨q,t,_⟩:=cY.1 h;have b:=zej h;refine aR ?_;refine⟨λn=>?_,λn=>?_⟩;grind;rw[aD<|by omega,gm]at b;refine az (λ(j:Nat)s=>(s.sl 1=.ref 1 1 0/\s.rw 1=⟨1,.box 31 [al m,aE a]⟩/\s.sl 3=al j)/\(j<=m/\∀p,p<j->Qw a p=l0)) (λj=>m-j) (0) ⟨nm,⟨aB _,λp d=>absurd d<|rb p⟩⟩ ?_;intro j u ⟨e,f⟩;have⟨w,c⟩:=f;refine cZ e ?_;refine⟨λg=>?_,λg=>?_⟩;refine aa (Kx m r k a j h l g) ?_;refine cZ e ?_;refine⟨λi=>?_,λi=>?_⟩;grind;exact ah (j+1) ⟨(gE e<|ak g om),⟨om,λp d=>by
    grind⟩⟩
   rw[b,znR h λp d=>c p om]
noncomputable def WN(n:Int)(a:N0):Bool:=aS n a&&FL a
theorem yf:AC prog 205 [.ag [al n,aE a]] (.im (aU (WN n a))):=by refine cA [.tmp 2] func205 λb=>?_;refine aR<|aa (bw n a) ?_;refine aR ?_;unfold WN;refine⟨λh=>?_,λh=>?_⟩;obtain⟨c,d,_⟩:=cY.1 h;obtain⟨m,rfl⟩:∃m:Nat,n=m:=⟨n.toNat,om⟩;have:=zhM a;refine aa (OP m 7 a h om)<|aR ?_;grind;grind
abbrev Mf:=Int->Int
def mpR(g:Mf)(i:Nat):Row:=if i=1000000 then⟨1,.mp g⟩else⟨0,.dead⟩
theorem zp(g:Mf):mpR g 1000000=⟨1,.mp g⟩:=ae rfl
theorem zeg(g:Mf)(h:d≠1000000):mpR g d=⟨0,.dead⟩:=ac h
theorem zeh{g:Mf}(h:(mpR g d).kind.nd=k0):d=1000000:=aC λe=>by rw[zeg g e]at h;cases h
def HV(x:Bool×Mf)(a:S0)(p:PV):Prop:=p=aU x.1/\a 1000000=⟨1,.mp x.2⟩
def zbP(k a:Nat):Option Nat:=if a=1000000 then n0 k else o0
theorem OO:zbP m 1000000=n0 m:=ae rfl
theorem sH{x:Nat}(h:zbP d r=n0 x):r=1000000/\x=d:=by simp_all[zbP]
theorem AO{a:Nat->Option Nat}{b:l1}{c R:S0}:∀{l:M0},plain l->GvL a b c R l l
 | [],_=>.nil
 | p::l,h=>by have d:=h p sp;cases p<;>first|exact .one (.v _)<|AO λq e=>h q<|by grind|(simp[NL]at d)
theorem zsJ[aw]{v:Nat}{args:Mf}{x:Bool×Mf}(q:AG prog e (.ag [.own 1000000 1]::g) (mpR args) (HV x))(k:plain g)(m:s.rw r=⟨v,.mp args⟩)(t:K ((s.row r ⟨v,.mp x.2⟩).put (n0 d) (aU x.1))):askG prog s e (.ag [.own r v]::g) (n0 d) K:=by
 refine⟨_,_,_,zbP r,λ_=>False,q,.ag (.one (.own (OO r) rfl (by rw[m])<|rfl) .nil)<|AO k,⟨λa c=>?_,λa b j c l _ _=>(zeh c).trans (zeh l).symm,λ_ _ _ _ h=>h⟩,λy p⟨u,o⟩=>?_⟩
 have:=zeh c;subst this;exact⟨ab _,by simp[zp],r,OO r,by rw[m];rfl⟩
 subst u;refine⟨zbP r,λ_=>v,k0,⟨λ_ _=>rfl,λa b j c l=>(sH c).1.trans (sH l).1.symm,λa j c _ _=>?_,λa j c w=>?_,λ_ _ h=>h⟩,λS n=>?_⟩
 rw[(sH c).2,m]
 have:=(sH c).1;subst this;exact absurd (by rw[o,zp])<|w<|rfl
 have f:S=(s.row r ⟨v,.mp x.2⟩).put (n0 d) (aU x.1):=by refine St.ext2 (λi=>?_) λa=>?_;rw[n.sl];rfl;rw[iW];by_cases f:a=r;subst f;rw[dw,n.row _ a<|OO a,o];rfl;rw[bZ _ _ _ _ f];exact n.off a λb l=>f (sH l).2
 grind
theorem znQ[aw]{a:M0}{v:Nat}{k:Mf}{x:Bool×Mf}{us:Dm s}{u:Dm K}(c:AG prog e (.ag [.own 1000000 1]::g) (mpR k) (HV x))(b:plain g)(h:s.rw r=⟨v,.mp k⟩)(i:K ((s.row r ⟨v,.mp x.2⟩).put (n0 d) (aU x.1))):nn prog e a j (tS prog e a (.ag [.own r v]::g) (n0 d) (kk s us) (kk K u)):=.inr<|.inr<|.inr<|.inr<|zsJ c b h i
theorem HW[aw]{a:M0}{v:Nat}{k:Mf}{x:Bool×Mf}{us:Dm s}{u:Dm o}(h:AG prog e (.ag [.own 1000000 1]::g) (mpR k) (HV x))(i:plain g)(f:s.rw r=⟨v,.mp k⟩)(l:d%1000≠r%1000)(m:o ⟨[],.ids [d,r]⟩ ((s.row r ⟨v,.mp x.2⟩).put (n0 d) (aU x.1))):nn prog e a j (zcQ prog e (.ag [.own r v]::g) d (kk s us) (kk o u)) :=
 Zo (λargs n p c=>zsJ h i (n.trans f) c) l m
def zei(a:S0)(p:PV):Prop:=∃k v,p=.ag [.own k v]/\a k=⟨v,.mp λ_=>0⟩
theorem zvO[aw]{d j:Nat}(q:AG prog e [] (λ_=>⟨0,.dead⟩) zei)(r:K ((s.row j ⟨(s.rw j).ver+1,.mp λ_=>0⟩).put (n0 d) (.ag [.own j ((s.rw j).ver+1)]))):askG prog s e [] (n0 d) K:=by
 refine⟨_,_,_,λ_=>o0,λ_=>False,q,.nil,⟨λ_ h=>(by cases h),λ_ _ _ h=>(by cases h),λ_ _ h=>(by cases h)⟩,λt p⟨k,v,u,o⟩=>?_⟩
 subst u
 have c:∀{a x:Nat},(if a=k then n0 j else o0)=n0 x->a=k/\x=j:=λ{a x}h=>by split at h;cases h;exact⟨‹_›,rfl⟩;cases h
 refine⟨λa=>if a=k then n0 j else o0,λ_=>(s.rw j).ver+1,k0,⟨λ_ h=>(by cases h),λa b x g l=>(c g).1.trans (c l).1.symm,λ_ _ _ h=>(by cases h),λa x g _=>by rw[(c g).2];exact dD _,λ_ _ h=>h⟩,λS m=>?_⟩
 have f:S=(s.row j ⟨(s.rw j).ver+1,.mp λ_=>0⟩).put (n0 d) (.ag [.own j ((s.rw j).ver+1)]):=by
  refine St.ext2 (λi=>?_) λa=>?_;rw[m.sl];have n:zaX (λa=>if a=k then n0 j else o0) t (λ_=>(s.rw j).ver+1) k0 (.ag [.own k v])=.ag [.own j ((s.rw j).ver+1)]:=by unfold zaX;simp only[dR,gy,yP,lH,ae,o,du]
  rw[n];by_cases f:i=d;subst f;rw[cF,cF];rw[da _ _ _ _ f,da _ _ _ _ f];rfl;rw[iW];by_cases f:a=j;subst f;rw[dw,m.row k a<|ae rfl,o];rfl;rw[bZ _ _ _ _ f];exact m.off a λb l=>f (c l).2
 rw[f];exact r
theorem zjz[aw](f:Nat){us:Dm s}{u:Dm o}(a:AG prog e [] (λ_=>⟨0,.dead⟩) zei)(h:d%1000≠f%1000)(i:o ⟨[],.ids [d,f]⟩ ((s.row f ⟨(s.rw f).ver+1,.mp λ_=>0⟩).put (n0 d) (.ag [.own f ((s.rw f).ver+1)]))):nn prog e g j (zcQ prog e [] d (kk s us) (kk o u)) :=
 Zo (λl k m c=>zvO a (j:=f)<|by grind) h i
noncomputable def Sb(W:N0->Mf->Bool×Mf)(a:N0)(p:Nat)(g:Mf):Bool×Mf :=
 if zs a p=k0 then(if(W (HY a p) g).1=k0 then W (WO a p) (W (HY a p) g).2 else(l0,(W (HY a p) g).2))else(l0,g)
noncomputable def lpF(S:Nat->Mf->Bool×Mf)(k:Int):Nat->Nat->Mf->Bool×Mf
 | 0,_,g=>(l0,g)
 | n+1,p,g=>if(S p g).1=k0 then(k0,yO (S p g).2 k 1)else lpF S k n (p+1) (S p g).2
noncomputable def PP:Nat->N0->Mf->Bool×Mf
 | 0,_,g=>(k0,g)
 | r+1,a,g=>if (lh a)<=1 then(k0,g)else if g (rD a)≠0 then(g (rD a)==1,g)else lpF (Sb (PP r) a) (rD a) 6 0 (yO g (rD a) 2)
theorem mpT:zaV T 144:=⟨by rw[zgB];decide,by rw[zk8];decide,zk5,by rw[T3s];decide,T3k,T3z⟩
theorem plu:plain [dv m]:=λq h=>by rw[List.mem_singleton.1 h];rfl
theorem zwN:plain [dv m,al p]:=λq h=>by rcases List.mem_cons.1 h with rfl|h;rfl;rw[List.mem_singleton.1 h];rfl
theorem Qv(w:∀c g,aS (m:Int) c=k0->tL c<p->AG prog 251 [.ag [.own 1000000 1],dv (rD c)] (mpR g) (HV (PP p c g)))(c:N0)(r:Nat)(g:Mf)(h:aS (m:Int) c=k0)(D:tL c<p+1)(e:r<6) :
 AG prog 297 [.ag [.own 1000000 1],dv (rD c),al r] (mpR g) (HV (Sb (PP p) c r g)):=by
 refine xag [.tmp 6] func297 λE A z n q=>?_
 have f:z.sl 0=.ag [.own 1000000 1]:=by rw[n];rfl
 have i:z.sl 1=dv (rD c):=by rw[n];rfl
 have k:z.sl 2=al r:=by rw[n];rfl
 have d:z.rw 1000000=⟨1,.mp g⟩:=by rw[q,zp]
 have l:∀j,j<1000000->z.rw j=⟨0,.dead⟩:=λj F=>by rw[q,zeg _ om]
 clear n q
 have x:=RA e
 have s:D0.u64.wrap (r:Int)=(r:Int):=dm om
 have t:jl .i64 1 (r:Int)=((2^r:Nat):Int):=eh om
 refine xA f i k d l s t ?_
 refine⟨kr,aa (WS m c r h e) ?_⟩
 refine nN f i k d l ?_
 unfold Sb
 refine⟨λo=>?_,λo=>?_⟩
 rw[ae o];have y:=zq o;refine aa (jR (ao c) _ x) ?_;rw[znS h e];refine nN f i k d l ?_;have G:=zbQ h e y;have H:=zbR h e y;have B:=w (HY c r) g (zt h e) om;refine HW B (plu _) (rp d) dc ?_;generalize PP p (HY c r) g=a at *;refine nN f i k d l ?_;refine⟨λu=>?_,λu=>?_⟩
 rw[ae u];refine aa (jC (ao c) _ x) ?_;rw[zsK h];refine nN f i k d l ?_;have C:=w (WO c r) a.2 (OQ h r) om;refine HW C (plu _) (rp d) dc ?_;generalize PP p (WO c r) a.2=b at *;refine nN f i k d l ?_;exact⟨kr,rfl,by simp -dsimp only[gr,simprocAttr,d]⟩
 rw[ac (by rw[u];decide)];exact⟨rfl,by simp -dsimp only[gr,simprocAttr,d]⟩
 rw[ac (by rw[o];decide)];exact⟨rfl,by simp -dsimp only[gr,simprocAttr,d]⟩
theorem WL:∀(r:Nat)(b:N0)(g:Mf),aS (m:Int) b=k0->tL b<r->AG prog 251 [.ag [.own 1000000 1],dv (rD b)] (mpR g) (HV (PP r b g)):=by
 intro r;induction r with
 | zero=>intro b g _ h;omega
 | succ r x =>
   intro b g h y;refine xag [.tmp 4] func251 λG A z k l=>?_;have n:z.sl 0=.ag [.own 1000000 1]:=by rw[k];rfl
   have o:z.sl 1=dv (rD b):=by rw[k];rfl
   have f:z.rw 1000000=⟨1,.mp g⟩:=by rw[l,zp]
   have p:∀j,j<1000000->z.rw j=⟨0,.dead⟩:=λj B=>by rw[l,zeg _ om]
   clear k l;have i:=mS (rD b) (zbS b);rw[WP h]at i;refine ox n o f p (aa i ?_);refine ox n o f p ?_;refine⟨λC=>?_,λC=>?_⟩;rw[show PP (r+1) b g=(k0,g) from ae om];exact⟨rfl,by simp -dsimp only[gr,simprocAttr,f]⟩;have q:=(show PP (r+1) b g=_ from ac (show ¬b.length<=1 by omega));refine⟨mpT,λt=>?_,λt=>?_⟩;rw[q,ae (ss t)];exact⟨mpT,rfl,by simp -dsimp only[gr,simprocAttr,f]⟩;rw[ac (ss t)]at q;rw[q];refine⟨mpT,?_⟩;refine az (λ((j,e):Nat×Mf) s=>(s.sl 1=dv (rD b)/\s.sl 2=.ref 2 1 0/\s.rw 2=⟨1,.box 146 [.own 1000000 1]⟩/\s.rw 1000000=⟨1,.mp e⟩/\s.sl 4=aU l0/\s.sl 5=al j)/\(j<=6/\lpF (Sb (PP r) b) (rD b) (6-j) j e=lpF (Sb (PP r) b) (rD b) 6 0 (yO g (rD b) 2))) (λ(j,e)=>6-j) ((0,yO g (rD b) 2)) ⟨(rS n o f p),⟨aB _,rfl⟩⟩ ?_;intro(j,e) H ⟨d,u⟩;obtain⟨B,c⟩:=u;refine cZ d ?_;refine⟨λE=>?_,λE=>?_⟩;rw[show 6-j=(6-(j+1))+1 by omega,lpF]at c;have F:=Qv m r x b j e h y om;refine znQ F (zwN _ _) (rp d) ?_;generalize Sb (PP r) b j e=a at *;refine cZ d ?_;refine⟨λw=>?_,λw=>?_⟩;rw[ae w]at c;rw[<- c];exact⟨mpT,rfl,by simp -dsimp only[gr,simprocAttr,d]⟩;rw[ac (by rw[w];decide)]at c;exact ah ((j+1,a.2)) ⟨(fB d d (ak (show j<6 by omega) om)),⟨by dsimp only;omega,c⟩⟩;rw[show 6-j=0 by omega,lpF]at c;rw[<- c];exact⟨rfl,by simp -dsimp only[gr,simprocAttr,d]⟩
theorem ztY{b:N0}(d:aS x c=k0)(e:aS x b=k0)(h:rD c=rD b):c=b:=by rw[xe d,xe e];refine cV bl<|je (λs a=>?_) _;rw[<- ek (ao c) a,<- ek (ao b) a];exact cV (λk=>Nat.testBit k s) h
def Qu(m b:Nat)(g:Mf):Prop:=∀a,aS (m:Int) a=k0->(g (rD a)=1->FL a=k0)/\(g (rD a)≠0->g (rD a)≠1->tL a<b->FL a=l0)
def OkM(m b:Nat)(g:Mf)(c:N0)(R:Bool×Mf):Prop:=R.1=FL c/\Qu m b R.2/\∀a,aS (m:Int) a=k0->tL c<tL a->R.2 (rD a)=g (rD a)
theorem WJ(f:Mf)(a y:Int):yO f a y a=y:=ae rfl
theorem WK(f:Mf){b:Int}(y:Int)(h:b≠x):yO f x y b=f b:=ac h
theorem zhL{b:N0}(m:aS (d:Int) c=k0)(a:aS (d:Int) b=k0)(h:b≠c):((rD b:Nat):Int)≠((rD c:Nat):Int):=λe=>h<|ztY a m om
theorem ztZ(j:∀c g b,aS (d:Int) c=k0->tL c<r->tL c<b->Qu d b g->OkM d b g c (PP r c g))(f:aS (d:Int) c=k0)(A:tL c<r+1){p:Nat}(i:p<6){e:Mf}(k:Qu d (tL c) e) :
 (Sb (PP r) c p e).1=Qw c p/\Qu d (tL c) (Sb (PP r) c p e).2/\∀m,aS (d:Int) m=k0->tL c<=tL m->(Sb (PP r) c p e).2 (rD m)=e (rD m):=by
 unfold Sb Qw
 cases q:zs c p
 rw[ac dc];exact⟨rfl,k,λ_ _ _=>rfl⟩
 rw[ae rfl];have l:=zq q;have s:=zbQ f i l;have t:=zbR f i l;obtain⟨u,n,o⟩:=j (HY c p) e (tL c) (zt f i) om s k;generalize PP r (HY c p) e=a at *;rw[au,<- u];cases B:a.1
 rw[ac dc];exact⟨rfl,n,λm h w=>o m h om⟩
 rw[ae rfl];obtain⟨x,y,z⟩:=j (WO c p) a.2 (tL c) (OQ f p) om t n;exact⟨by rw[x];rfl,y,λm h w=>(z m h om).trans (o m h om)⟩
theorem zvM{b:Nat}(K:∀c g b,aS (d:Int) c=k0->tL c<r->tL c<b->Qu d b g->OkM d b g c (PP r c g))(A:aS (d:Int) c=k0)(L:tL c<r+1)(C:¬c.length<=1){g:Mf}(M:Qu d b g) :
 ∀(n p:Nat)(e:Mf),p+n=6->Qu d (tL c) e->(∀q,q<p->Qw c q=l0)->e (rD c)=2->(∀m,aS (d:Int) m=k0->m≠c->tL c<=tL m->e (rD m)=g (rD m))->OkM d b g c (lpF (Sb (PP r) c) (rD c) n p e):=by
 have x:=zej A
 rw[aD C,gm]at x
 have o:∀(e:Mf)(v:Int),(∀m,aS (d:Int) m=k0->m≠c->tL c<=tL m->e (rD m)=g (rD m))->Qu d (tL c) e->e (rD c)=v->(v=1->FL c=k0)->(v≠1->FL c=l0)->Qu d b e:=λe v i y N C O m f=>by by_cases j:m=c;subst j;rw[N];exact⟨C,λ_ h _=>O h⟩;by_cases D:tL m<tL c;exact⟨(y m f).1,λa b _=>(y m f).2 a b D⟩;rw[i m f j om];exact M m f
 have s:∀m,tL c<tL m->m≠c:=λm h e=>by rw[e]at h;omega
 intro n
 induction n with
 | zero =>
   intro p e P y k E i
   have z:FL c=false:=by rw[x,pk];intro q B;rw[k q (by have:=List.mem_range.1 B;omega)];decide
   exact⟨z.symm,o e 2 i y E (λh=>absurd h dc) (λ_=>z),λm f t=>i m f (s m t) om⟩
 | succ n F =>
   intro p e P y k E i
   obtain⟨G,H,I⟩:=ztZ K A L (p:=p) om y
   rw[lpF]
   generalize Sb (PP r) c p e=a at *
   have u:∀m,aS (d:Int) m=k0->m≠c->tL c<=tL m->a.2 (rD m)=g (rD m):=λm f l t=>(I m f t).trans (i m f l t)
   cases J:a.1
   rw[ac dc];exact F (p+1) a.2 om H (λq B=>by
    rcases Nat.lt_succ_iff_lt_or_eq.1 B with B|rfl;exact k q B;rw[<- G,J]) ((I c A (ab _)).trans E) u
   rw[ae rfl];have z:FL c=true:=by rw[x,cS];exact⟨p,List.mem_range.2 om,by rw[<- G,J]⟩
   have w:∀m,aS (d:Int) m=k0->m≠c->tL c<=tL m->yO a.2 (rD c) 1 (rD m)=g (rD m):=λm f l t=>by rw[WK _ _ (zhL A f l)];exact u m f l t
   refine⟨z.symm,o _ 1 w (λm f=>?_) (WJ _ _ _) (λ_=>z) (λh=>absurd rfl h),λm f t=>w m f (s m t) om⟩;by_cases j:m=c
   subst j;show(yO a.2 _ 1 _=1->_)/\(yO a.2 _ 1 _≠0->yO a.2 _ 1 _≠1->_);rw[WJ];exact⟨λ_=>z,λ_ h=>absurd rfl h⟩
   show(yO a.2 _ 1 _=1->_)/\(yO a.2 _ 1 _≠0->yO a.2 _ 1 _≠1->_);rw[WK _ _ (zhL A f j)];exact H m f
theorem zvN:∀(r:Nat)(d:N0)(g:Mf)(b:Nat),aS (m:Int) d=k0->tL d<r->tL d<b->Qu m b g->OkM m b g d (PP r d g):=by
 intro r;induction r with
 | zero=>simp
 | succ r s =>intro d g b f t u e;rw[PP];by_cases k:lh d<=1;rw[ae k];exact⟨by rw[zej f,ay k];rfl,e,λ_ _ _=>rfl⟩;rw[ac k];by_cases o:g (rD d)≠0;rw[ae o];refine⟨?_,e,λ_ _ _=>rfl⟩;have⟨w,x⟩:=e d f;grind;rw[ac o];refine zvM s f t k e 6 0 _ rfl (λn i=>?_) (λq h=>absurd h<|rb q) (WJ _ _ _)<|λn i p _=>WK _ _<|zhL f i p;by_cases j:n=d;simp_all[WJ];rw[WK _ _<|zhL f i j];exact⟨(e n i).1,λa c h=>(e n i).2 a c om⟩
theorem zt0(h:aS (d:Int) c=k0):(PP 7 c λ_=>0).1=FL c:=have:=zhM c;(zvN d 7 c _ 7 h om om λb _=>⟨λh=>absurd h dc,λh=>absurd rfl h⟩).1
theorem zjy(f:Mf)(K:Prop):wz ⟨m,.mp f⟩ m (kk K)=K:=by simp[wz,RK.slice,kk]
theorem zo:AG prog 250 [] (λ_=>⟨0,.dead⟩) zei:=by refine xag [.cell 0 146] func250 λe c z d a=>?_;refine ff a @zjy ?_;exact⟨1,1,rfl,rfl⟩
theorem ye:AC prog 156 [.ag [al n,aE a]] (.im (aU (WN n a))):=by refine cA [.tmp 2] func156 λc=>?_;refine aR ?_;refine⟨kr,aa (aH n a) ?_⟩;refine aR ?_;unfold WN;refine⟨λh=>?_,λh=>?_⟩;obtain⟨d,e,_⟩:=cY.1 h;obtain⟨m,rfl⟩:∃m:Nat,n=m:=⟨n.toNat,om⟩;have f:=zhM a;refine zjz 999 zo dc ?_;refine aR<|aa (cj m a<|dM h) ?_;refine aR ?_;refine HW (WL m 7 a (λ_=>0) h om) (plu _) gl dc ?_;rw[h,au,<- zt0 h];refine aR ?_;kernel_rfl;rw[h];rfl
end Go.Proofs.YtigjebcjfbhnjaaGreatDoor
