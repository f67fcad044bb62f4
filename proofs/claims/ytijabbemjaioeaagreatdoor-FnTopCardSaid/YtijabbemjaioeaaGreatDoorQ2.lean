/- DERIVED by an AI agent. -/
import Derived.Test.YtijabbemjaioeaaGreatDoorQ1
set_option linter.all false
namespace Go.Proofs.YtijabbemjaioeaaGreatDoor
open Bool renaming true→k0,false→l0
open Go renaming IntKind→D0
open List renaming range→lc,replicate→ld,getD→lg,length→lh
open Nat renaming reduceEqDiff→lj,reduceMod→lk,reduceAdd→ll,reduceLT→lm,reduceLeDiff→lp,reduceSub→lr,reduceMul→lu,reduceBEq→lw
open Int renaming reduceToNat→lz,reduceLE→lA,reduceLT→lB,reduceNeg→lC
open Go.Proofs.Tryz
open Go.Abs
variable (c:O0)(a:O0)(f:V0)(n:Nat)(t:P0)(b:V0)(p:Int)(o:N0)(d:Int)(k:Nat){s:Nat}{L:N0}{x:Int}{g:Q0}{e:V0}{h:P0}{i:PV->Prop}
theorem gt:AC prog 89 [.ag [al p,aE o]] (.fr 3 1 (iL (gc (ci p o)))):=by
 refine cA [.tmp 2] func89 λK=>?_;refine aR ?_;refine aa (io p o) ?_;refine aR ?_;have j:=ordN_len<|ci p o;have f:∀i,i<lh (co<|ci p o)->lg (co<|ci p o) i 0<64:=λi h=>OA h;have n:=zmR<|ci p o;have A:=eD<|ci p o;unfold gc;generalize co (ci p o)=all at *;refine az (λ((i,v,u):Nat×Nat×Nat) s=>(s.sl 3=.own 6 v/\s.rw 6=⟨v,.sli 3 1 l0<|iL<|rA (all.take i)<|Jy<|all.take i⟩/\s.sl 4=.own 8 u/\s.rw 8=⟨u,.sli 3 1 l0<|iL<|bl all⟩/\s.sl 5=al i)/\(i<=lh all)) (λ(i,v,u)=>lh all-i) ((0,1,1)) ⟨(by and_intros<;>(first|(simp only[gr,simprocAttr,Jy,rA];first|done|rfl|(simp;done))|assumption|rfl)),sp⟩ ?_;intro(i,v,u) L ⟨a,C⟩;refine ff a @ap ?_;refine⟨λh=>?_,λh=>?_⟩;have D:=f i h;have b:lg (bl all) i 0=((lg all i 0:Nat):Int):=bX h;have g:=bj 0 h;have q:=zmP (all.take i)<|lg all i 0;rw[<- g]at q;have z:=zmS (l:=all) (k:=i+1);have E:=jA D;refine az (λ((w,m):Nat×Nat) s=>(s.sl 3=.own 6 w/\s.rw 6=⟨w,.sli 3 1 l0<|iL<|rA (all.take i) m⟩/\s.sl 4=.own 8 u/\s.rw 8=⟨u,.sli 3 1 l0<|iL<|bl all⟩/\s.sl 5=al i)/\(Jy (all.take i)<=m/\m<=Jy (all.take<|i+1))) (λ(w,m)=>Jy (all.take<|i+1)-m) ((v,Jy (all.take i))) ⟨(jX a),⟨om,om⟩⟩ ?_;intro(w,m) M ⟨d,r⟩;have⟨t,G⟩:=r;refine ox d @ap @oB b ?_;refine⟨h,h,aa (ey _ om) ?_⟩;refine ox d @ap @oB b ?_;refine⟨λH=>⟨om,?_⟩,λH=>?_⟩;have e:rA (all.take i) m++[0]=rA (all.take i) (m+1):=zja _ t;exact ah ((w+1,m+1)) ⟨(gE d e),⟨by dsimp only;omega,by dsimp only;omega⟩⟩;have x:lg (rA (all.take i) m) (aQ<|lg all i 0) 0=(zf (all.take i) (aQ<|lg all i 0):Int):=vn _ om;have I:zf (all.take i) (aQ<|lg all i 0)<=448:=by have:=aO (λs=>aQ s==aQ (lg all i 0))<|all.take i;rw[bg]at this;unfold zf;omega
 have J:D0.i64.wrap ((zf (all.take i) (aQ<|lg all i 0):Int)+1)=(zf (all.take i) (aQ<|lg all i 0):Int)+1:=aF om om;have y:m=Jy (all.take<|i+1):=om;have c:=zmQ (all.take i) (lg all i 0) m om;rw[<- g]at c;refine⟨kr,h,h,aa (ey _ om) ?_⟩;refine ox d @ap @oB b ?_;refine⟨h,h,aa (ey _ om) ?_⟩;refine xA d @ap @oB b x J c ?_;refine⟨om,om,om,om,kr,?_⟩;subst y;exact ah ((i+1,w,u)) ⟨(fB a d<|ak h om),by dsimp only;omega⟩;have:i=lh all:=om;rw[this,av,n]
theorem Oy(p:n<64)(q:k<64)(r:aQ k=aQ n+1):AC prog 187 [al n,al k] (.im (al (lI n k))):=by
 refine cA [.tmp 4] func187 λy=>?_;have d:=ej (a:=n) (b:=k) om om;have i:D0.i64.wrap ((aQ k:Int)-(aQ n:Int))=1:=by rw[aF om om];omega
 refine cZ d ?_;refine⟨λh=>aa (ey k om) ?_,λh=>?_⟩;have g:n&&&k=n:=by grind
 have⟨u,A⟩:=zbp n p k q g;refine aR<|aa (ey n om) ?_;have w:n≠k:=λe=>by grind
 have j:D0.i64.wrap (k-n)=((k-n:Nat):Int):=by rw[aF om om];omega
 have a:D0.i64.wrap ((k-n:Nat)-1)=(k-n-1:Nat):=by rw[aF om om];omega
 have c:=ej (a:=k) (b:=k-n-1) om om;have l:k&&&(k-n-1)<64:=by have:k&&&(k-n-1)<=k:=bI;omega
 have m:(1 != 1)=false:=rfl;refine nN i j a c m ?_;refine aa (ey _ om) ?_;have f:((aQ _:Nat):Int).tmod 2=((aQ (k&&&(k-n-1))%2:Nat):Int):=rfl
 have b:D0.i64.wrap _=2*((aQ (k&&&(k-n-1))%2:Nat):Int):=aF om om;have o:D0.i64.wrap _=1-2*((aQ (k&&&(k-n-1))%2:Nat):Int):=aF om om;refine iD f b o ?_;unfold lI;grind;have g:¬n&&&k=n:=by grind
 simp[lI,g]
theorem Oz{l h:O0}(a:s<lh l):fy (l.take s) h++[h.map λb=>lI (lg l s 0) b]=fy (l.take (s+1)) h:=by simp[bj 0 a,fy]
theorem qa(R:1<=k)(G:k<=7):AC prog 92 [.ag [al p,aE o],al k] (.fr 24 1 (mF (fy (cd (ci p o) (k-1) 64) (cd (ci p o) k 64)))):=by
 refine cA [.tmp 4] func92 λS=>?_;have B:D0.i64.wrap ((k:Int)-1)=((k-1:Nat):Int):=by rw[aF om om];omega
 refine cZ B ?_;refine aa (nj p o<|k-1) ?_;refine aR ?_;refine aa (nj p o k) ?_;refine aR ?_;have H:=fc (ci p o) (k-1)<|ab 64;have I:=fc (ci p o) k<|ab 64;have C:∀i,i<lh (cd (ci p o) (k-1) 64)->lg (cd (ci p o) (k-1) 64) i 0<64/\aQ (lg (cd (ci p o) (k-1) 64) i 0)=k-1:=λi m=>by have:=fI.1<|aP 0 m;exact⟨this.1,this.2.2⟩
 have D:∀i,i<lh (cd (ci p o) k 64)->lg (cd (ci p o) k 64) i 0<64/\aQ (lg (cd (ci p o) k 64) i 0)=k:=λi m=>by have:=fI.1<|aP 0 m;exact⟨this.1,this.2.2⟩
 generalize cd (ci p o) (k-1) 64=n at *;generalize cd (ci p o) k 64=m at *;refine az (λ((i,v,a,b):Nat×Nat×Nat×Nat) s=>(s.sl 5=.own 11 v/\s.rw 11=⟨v,.sli 24 1 l0<|mF<|fy (n.take i) m⟩/\s.sl 6=.own 15 a/\s.rw 15=⟨a,.sli 3 1 l0<|iL<|bl n⟩/\s.sl 7=.own 18 b/\s.rw 18=⟨b,.sli 3 1 l0<|iL<|bl m⟩/\s.sl 8=al i)/\(i<=lh n)) (λ(i,v,a,b)=>lh n-i) ((0,1,1,1)) ⟨(by and_intros<;>(rfl)),sp⟩ ?_;intro(i,v,a,b) K ⟨E,L⟩;have F:lh (fy (n.take i) m)=min i (lh n):=by rw[gX,bg]
 refine ff E @ap ?_;refine⟨λh=>?_,λh=>?_⟩;have A:lg (bl n) i 0=((lg n i 0:Nat):Int):=bX h;refine az (λ((j,u):Nat×Nat) s=>(s.sl 5=.own 11 v/\s.rw 11=⟨v,.sli 24 1 l0<|mF<|fy (n.take i) m⟩/\s.sl 6=.own 15 a/\s.rw 15=⟨a,.sli 3 1 l0<|iL<|bl n⟩/\s.sl 7=.own 18 b/\s.rw 18=⟨b,.sli 3 1 l0<|iL<|bl m⟩/\s.sl 8=al i/\s.sl 9=.own 25 u/\s.rw 25=⟨u,.sli 3 1 l0<|iL<|(m.take j).map λb=>lI (lg n i 0) b⟩/\s.sl 10=al j)/\(j<=lh m)) (λ(j,u)=>lh m-j) ((0,(K.rw 25).ver+1)) ⟨(jX E),om⟩ ?_;intro(j,u) U ⟨⟨q,d,r,f,t,g,w,x,c,l⟩,N⟩;simp only[↓gp,gq,simprocAttr,gT,q,d,r,f,t,g,w,x,c,l,ap];refine⟨λz=>?_,λz=>?_⟩;have y:lg (bl m) j 0=((lg m j 0:Nat):Int):=bX z;have O:=C i h;have P:=D j z;simp only[↓gp,gq,simprocAttr,gT,q,d,r,f,t,g,w,x,c,l,ap,A,y];refine⟨kr,h,h,z,z,aa (Oy _ _ O.1 P.1 om) ?_⟩;simp only[↓gp,gq,simprocAttr,gT,q,d,r,f,t,g,w,x,c,l,ap,A,y];have e:(m.take<|j+1).map (λb=>lI (lg n i 0) b)=(m.take j).map (λb=>lI (lg n i 0) b)++[lI (lg n i 0) (lg m j 0)]:=by rw[bj 0 z];simp
 refine⟨by rw[aG,bg];omega,kr,?_⟩;exact ah ((j+1,u+1)) ⟨(by and_intros<;>(first|(simp only[gr,simprocAttr,q,d,r,f,t,g,w,x,c,l,ak z om,e];first|done|rfl|(simp;done))|assumption|rfl)),by dsimp only;omega⟩;have Q:j=lh m:=om;subst Q;rw[av]at c;refine zvl ?_;simp only[↓gp,gq,simprocAttr,gT,q,d,r,f,t,g,w,x,c,l,F,bU];have e:=Oz (h:=m) h;refine⟨om,?_⟩;exact ah ((i+1,v+1,a,b)) ⟨(by and_intros<;>(first|(simp only[gr,simprocAttr,E,q,d,r,f,t,g,w,x,c,l,ak h om,LP,e];first|done|rfl|(simp;done))|assumption|rfl)),by dsimp only;omega⟩;have:i=lh n:=om;rw[this,av]
theorem zdV{f:V0}{p:Int}{k:Nat}(h:k+1<cv f):kM f p (k+1)=iQ p (fy (cd f k 64) (cd f (k+1) 64)):=by unfold kM;grind
theorem Lu{p:Int}(h:cv e<=s):kM e p s=0:=by simp[kM,h]
def Bl(f:V0)(p:Int):N0:=if lM p=k0 then ed f p else []
theorem nS:AC prog 38 [.ag [al p,aE o],al d] (.fr 3 1 (iL (Bl (ci p o) d))):=by
 refine cA [.tmp 4] func38 λH=>?_;refine aR ?_;refine aa (gt p o) ?_;refine aR ?_;refine aa (jY d) ?_;refine aR ?_;unfold Bl;refine⟨λg=>?_,λg=>?_⟩;have g:lM d=false:=ss g;rw[g];rfl;have g:lM d=true:=ss g;rw[ae g];have x:=eD (ci p o);have b:=eb (ci p o);generalize y:ci p o=f at *;refine az (λ((k,v,w):Nat×Nat×Nat) s=>(s.sl 1=al d/\s.sl 2=.ref 2 1 0/\s.rw 2=⟨1,.box 26 [al p,aE o]⟩/\s.sl 5=.own 10 v/\s.rw 10=⟨v,.sli 3 1 l0 (iL ((ed f d).take k))⟩/\s.sl 6=.own 12 w/\s.rw 12=⟨w,.sli 3 1 l0 (iL (gc f))⟩/\s.sl 7=al (kM f d k)/\s.sl 8=al k)/\(k<=cv f)) (λ(k,v,w)=>cv f-k) ((0,1,1)) ⟨(by and_intros<;>(rfl)),sp⟩ ?_;intro(k,v,w) I ⟨i,A⟩;refine ff i b ?_;refine⟨λh=>?_,λh=>?_⟩;have B:=qS f d k;have C:=qS f d (k+1);have D:=fc f k (ab 64);have r:=lN f h;have a:=ak h om;have c:D0.i64.wrap _=((cd f k 64).length:Int)-(kM f d k:Int):=aF om om;have n:D0.i64.wrap _=((cd f k 64).length:Int)-(kM f d k:Int)-(kM f d (k+1):Int):=aF om om;have j:(ed f d).take (k+1)=(ed f d).take k++[((cd f k 64).length:Int)-kM f d k-kM f d (k+1)]:=by rw[bj 0 (by rw[df];exact h),pX f d h]
 have E:lh ((ed f d).take k)<=7:=by rw[bg,df];omega
 refine iD i b a ?_;refine⟨λt=>aa (y ▸ qa p o (k+1) om om) ?_,λt=>?_⟩;have l:=zdV (p:=d) t;rw[dS];have F:=gX (cd f k 64) (cd f (k+1) 64);have m:=Oq (cd f k 64) (cd f (k+1) 64);have G:=Ot (cd f k 64) (cd f (k+1) 64);have u:=fc f (k+1) (ab 64);refine iD i b a ?_;refine aa (OD _ d g om m om) ?_;rw[<- l];refine Cn i b a r c n ?_;refine⟨h,h,om,?_⟩;exact ah ((k+1,v+1,w)) ⟨(DM i a c n j),by dsimp only;omega⟩;have e:=Lu (p:=d) (show cv f<=k+1 by omega);rw[e,iU,jI]at n;rw[e,iU,jI]at j;refine nN i b a r c ?_;refine⟨h,h,om,?_⟩;have q:D0.i64.wrap (((cd f k 64).length:Int)-(kM f d k:Int)-0)=((cd f k 64).length:Int)-(kM f d k:Int):=by rw[jI];exact n
 exact ah ((k+1,v+1,w)) ⟨(xc7 i a c q j e @iU),by dsimp only;omega⟩;have:k=(ed f d).length:=by rw[df];omega
 rw[this,av]
theorem og{G:Nat}(b:G<2^64)(h:∀s,s<64->G.testBit s=f s):G=bA f 64:=by refine bB λs=>?_;rw[mM];by_cases a:s<64;grind;have:G.testBit s=false:=eK<|cp b<|aV om om;grind
theorem ek{s:Nat}(h:s<64):(bA f 64).testBit s=f s:=by simp[mM,h]
theorem gu{w w':V0}(h:∀s,s<64->w s=w' s):bA w 64=bA w' 64 :=
 og w' (dj w 64) λs a=>by simp_all[ek]
theorem FB:bA f 64|||bA b 64=bA (λs=>f s||b s) 64 :=
 og _ (cu (dj f 64)<|dj b 64) λs a=>by simp_all[ek]
theorem zbD:bA f 64&&&bA b 64=bA (λs=>f s&&b s) 64 :=
 og _ (bD bI<|dj f 64) λs a=>by simp_all[ek]
theorem CX(a:s<64):bA f 64|||2^s=bA (λw=>f w||w==s) 64 :=
 og _ (cu (dj f 64)<|bN om a) λw b=>by rw[bq,ek f b];grind
theorem vB:bA (λ_=>l0) 64=0:=(og _ om<|λs _=>sp).symm
def eG(u:Nat)(t:Nat):Bool:=u&&&t==t
theorem gC(r:n<64):AC prog 195 [al n] (.im (dv (bA (eG n) 64:Nat))):=by
 refine cA [.tmp 2] func195 λB=>?_;refine aR ?_;have d:bA (λv=>eG n v&&decide (n<v)) 64=0:=by
  rw[<- vB];refine gu λv p=>?_;cases h:(eG n v&&decide (n<v))with
  | false=>rfl
  | true =>simp[eG]at h;have:n&&&v<=n:=bI;omega
 refine az (λ(t:Nat)s=>(s.sl 0=al n/\s.sl 3=dv (bA (λv=>eG n v&&decide (t<v)) 64:Nat)/\s.sl 4=al t)/\(t<=n/\n&&&t=t)) (λt=>t) (n) ⟨(jX d),⟨ab _,dp n⟩⟩ ?_;intro t C ⟨l,m⟩;have⟨w,j⟩:=m;have x:=dj (λv=>eG n v&&decide (t<v)) 64;have f:D0.u64.wrap (t:Int)=(t:Int):=dm om;have u:=by have:2^t<2^64:=bN om om;omega
 have g:EX .u64 (bA (λv=>eG n v&&decide (t<v)) 64:Nat) (jl .u64 1 t)=((bA (λv=>eG n v&&decide (t<=v)) 64:Nat):Int):=by rw[yU om,Ca om u,CX _ om];simp[eG,j];grind
 refine iD l f g ?_;refine⟨λk=>?_,λk=>?_⟩;simp_all;have k:¬t=0:=by grind
 have q:D0.i64.wrap ((t:Int)-1)=((t-1:Nat):Int):=by rw[aF om om];omega
 have c:=ej (a:=t-1) (b:=n) om om;have z:(t-1)&&&n<=t-1:=bI;have i:bA (λv=>eG n v&&decide ((t-1)&&&n<v)) 64=bA (λv=>eG n v&&decide (t<=v)) 64:=by
  refine gu λv p=>?_;cases A:eG n v with
  | false=>rfl
  | true =>
    refine decide_eq_decide.2 ⟨λh=>?_,λh=>om⟩;rcases bf v t with o|o
    have:=zmT n r t om (by grind) k v o (by rw[cl];simpa[eG]using A);omega;exact o
 exact ah ((t-1)&&&n) ⟨(xc6 l f g q c i),⟨om,by grind⟩⟩
theorem zdZ{t:Nat}(h:s<lh L):ao (L.take (s+1)) t=(ao (L.take s) t||eG (lg L s 0).toNat t):=by simp[bj 0 h,ao,eG]
theorem cj(g:Uu o):AC prog 118 [.ag [al p,aE o]] (.im (dv (bA (ao o) 64:Nat))):=by
 refine cA [.tmp 2] func118 λe=>?_;simp[dt,dT,gb,jt,hZ]at e;refine aR ?_;refine az (λ(k:Nat)s=>(s.sl 3=dv (bA (ao<|o.take k) 64:Nat)/\s.sl 7=aE o/\s.sl 8=al (lh o)/\s.sl 9=al k)/\(k<=lh o)) (λk=>lh o-k) (0) ⟨(jX vB),om⟩ ?_;intro k n ⟨d,i⟩;refine cZ d ?_;refine⟨λh=>⟨h,h,?_⟩,λh=>?_⟩;have a:=HC g h;have j:lg o k 0=((lg o k 0).toNat:Int):=om;have f:=gC (lg o k 0).toNat om;rw[<- j]at f;refine aa f ?_;have l:=dj (ao<|o.take k) 64;have m:=dj (eG (lg o k 0).toNat) 64;have c:EX .u64 (bA (ao<|o.take k) 64:Nat) (bA (eG (lg o k 0).toNat) 64:Nat)=((bA (ao<|o.take<|k+1) 64:Nat):Int):=by rw[Ca om om,FB];congr 1;exact gu λt _=>(zdZ h).symm
 refine ff d c ?_;exact ah (k+1) ⟨(fB d (ak h e) c),om⟩;have:k=lh o:=om;rw[this,av]
theorem vC(b:n<64):AC prog 205 [dv (bA f 64:Nat),al n] (.im (dv (bA (λt=>f t&&eG n t) 64:Nat))):=by
 refine cA [.tmp 4] func205 λe=>?_;refine aR<|aa (gC n b) ?_;have c:=dj f 64;have d:=dj (eG n) 64;have a:fu .u64 (bA f 64) (bA (eG n) 64)=((bA (λt=>f t&&eG n t) 64)):=by rw[zdD om om,zbD]
 exact mg a
theorem jb(h:s<64):qN (s:Int)=(aQ s:Nat):=by rw[qN,ae om];simp
theorem HB:oY f (n+1)=if f n=k0 then max (oY f n) (aQ n+1)else oY f n:=rfl
theorem pa:AC prog 216 [dv (bA f 64:Nat)] (.im (al ((cv f:Int)-1))):=by
 refine cA [.tmp 2] func216 λi=>?_;refine aR ?_;have c:=dj f 64;refine az (λ(m:Nat)s=>(s.sl 0=dv _/\s.sl 3=al ((oY f m:Int)-1)/\s.sl 4=al m)/\(m<=64)) (λm=>64-m) (0) ⟨(by and_intros<;>(rfl)),om⟩ ?_;intro m j ⟨a,d⟩;refine cZ a ?_;refine⟨λh=>aa (ez _ m om om) ?_,λh=>?_⟩;have h:m<64:=om;rw[ek f h];refine cZ a ?_;refine⟨λb=>aa (dy _) ?_,λb=>?_⟩;refine ff a (jb h) ?_;refine⟨λg=>aa (dy _) ?_,λg=>?_⟩;refine ff a (jb h) ?_;have e:(oY f (m+1):Int)-1=(aQ m:Int):=by rw[HB,ae b];omega
 exact ah (m+1) ⟨(rS a (ak h om) (jb h) e),om⟩;have e:oY f (m+1)=oY f m:=by rw[HB,ae b];omega
 exact ah (m+1) ⟨(fB a (ak h om) e),om⟩;have e:oY f (m+1)=oY f m:=by rw[HB,ac<|by grind]
 exact ah (m+1) ⟨(fB a (ak h om) e),om⟩;have:m=64:=om;subst this;rfl
theorem Ut{j:Nat}(a:e s=k0):cd e j (s+1)=if j=aQ s then cd e j s++[s]else cd e j s:=by rw[uX];grind
theorem zjp{j:Nat}(a:e s=l0):cd e j (s+1)=cd e j s:=by simp[uX,a]
def ms(f:V0):fG:=(lc (cv f)).map λk=>bl (cd f k 64)
theorem nx:lh (ms f)=cv f:=by simp[ms]
theorem kO{k:Nat}(h:k<cv f):lg (ms f) k []=bl (cd f k 64):=by simp[ms,h]
theorem sw:AC prog 151 [dv (bA f 64:Nat)] (.tb 24 3 ((lc (cv f)).map λj=>iL (bl (cd f j 64)))):=by
 refine cA [.tmp 2] func151 λy=>?_;have p:=dj f 64;have z:=eD f;refine aR ?_;refine aa (pa f) ?_;have o:D0.i64.wrap ((cv f:Int)-1+1)=(cv f:Int):=by rw[aF om om];omega
 refine cZ o ?_;refine⟨om,om,?_⟩;refine zi1 (k:=9) (v:=1) (e:=24) (e2:=3) (n:=cv f) (rp o) (λj=>gl) (λ(m:Nat)s=>(s.sl 0=dv (bA f 64:Nat)/\s.sl 3=.own 9 1/\s.sl 4=al m)/\(m<=64/\TabF s.rw 9 1 24 3 (cv f) (λj=>1+lh (cd f j m)) (λj=>bl<|cd f j m))) (λm=>64-m) (0) (λA qw b i=>⟨(gE b i),⟨om,qw⟩⟩) ?_;intro m B ⟨a,l⟩;have⟨q,c⟩:=l;refine cZ a ?_;refine⟨λh=>aa (ez (bA f 64) m om om) ?_,λh=>?_⟩;have h:m<64:=om;rw[ek f h];refine cZ a ?_;refine⟨λd=>aa (dy _) ?_,λd=>?_⟩;have g:aQ m<cv f:=rz 64 m h d;have t:=c.row (aQ m) g;have u:=fc f (aQ m) q;refine xA a (jb h) @c.top @BY @zi0 t @ap ?_;refine⟨g,g,om,g,om,ah (m+1) ⟨(gE a<|ak h om),⟨om,c.add g (r:=bl (cd f (aQ m) m)++[(m:Int)]) (rp a) (rp a) (λx w=>by simp only[gr,simprocAttr,a,w]) (λj _=>?_)<|λj _=>?_⟩⟩⟩;rw[Ut d];grind;rw[Ut d];split;rename_i e;subst e;rw[cI];rfl;rfl;have e:∀j,cd f j (m+1)=cd f j m:=λj=>zjp d;refine ah (m+1) ⟨(gE a<|ak h om),⟨om,?_⟩⟩;simp only[e];exact c.same gl<|λx=>gl;have:m=64:=om;subst this;exact zi2 c dc om
theorem uc:AC prog 151 [dv (bA f 64:Nat)] (.fr 24 1 (mF (ms f))):=by have:=(sw f).flat;unfold ms mF;rw[fj]at this ⊢;exact this
theorem Fz(m:n<64)(b:k<64)(o:aQ k=aQ n+1):AC prog 290 [al n,al k] (.im (al (lI n k))):=by
 refine cA [.tmp 4] func290 λw=>?_;have f:=fv (a:=n) (b:=k) om om;simp only[↓gp,gq,simprocAttr,gT,f];refine⟨λh=>?_,λh=>?_⟩;have j:¬n&&&k=n:=by grind
 simp[lI,j];have j:n&&&k=n:=gW.1<|by
  grind
 have⟨r,s⟩:=zbp n m k b j;have t:n≠k:=λe=>by grind
 have c:=fv (a:=k) (b:=n) om om;rw[cl k n,s]at c;have l:D0.i64.wrap ((k-n:Nat)-1)=((k-n-1:Nat):Int):=by rw[aF om om];omega
 have d:=ej (a:=k) (b:=k-n-1) om om;have g:k&&&(k-n-1)<64:=by have:k&&&(k-n-1)<=k:=bI;omega
 have i:((aQ _:Nat):Int).tmod 2=((aQ (k&&&(k-n-1))%2:Nat):Int):=rfl
 simp only[↓gp,gq,gT,c,l,d];refine aa (dy _) ?_;simp -dsimp only[↓gp,gq,simprocAttr,gT,jb g,i];unfold lI;grind
theorem zqE{a c:O0}{j:Nat}(d:s<lh a)(e:j<lh c):lg (c.map λb=>lI (lg a s 0) b) j 0=lI (lg a s 0) (lg c j 0):=by grind
theorem qT(I:lh c<=64)(J:lh a<=64)(C:∀i,i<lh c->lg c i 0<64/\aQ (lg c i 0)=n)(D:∀i,i<lh a->lg a i 0<64/\aQ (lg a i 0)=n+1) :
 AC prog 220 [aE (bl c),aE (bl a)] (.tb 24 3 ((fy c a).map iL)):=by
 refine cA _ func220 λR=>?_
 refine cZ @ap ?_
 refine⟨om,om,?_⟩
 refine NV (rp @ap) (λj=>gl) (λ(i:Nat)s=>(s.sl 1=aE (bl a)/\s.sl 5=.own 12 1/\s.sl 13=aE (bl c)/\s.sl 14=al (lh c)/\s.sl 15=al i)/\(i<=lh c/\TabP s.rw 12 1 24 3 (lh c) i (fy (c.take i) a))) (λi=>lh c-i) (0) (λK qw g u=>⟨(fB g u @ap),⟨om,qw⟩⟩) ?_
 intro i L ⟨E,F⟩
 have⟨N,z⟩:=F
 refine ox E @z.top @ik @ap ?_
 refine⟨λh=>?_,λh=>?_⟩
 have l:lh (fy (c.take i) a)=i:=by rw[gX,bg];omega
 refine⟨h,h,om,om,h,om,?_⟩;refine TZ (k:=12) (v:=1) (e:=24) (e2:=3) (n:=lh c) (i:=i) (d:=24) (vd:=(L.rw 24).ver+1) (M:=fy (c.take i) a) (r:=ld (lh a) 0) (rp @z.top) l (λj A=>by simp only[gr,simprocAttr,z.row j A]) (λj A=>by simp only[gr,simprocAttr,z.rest j A]) gl dc dc h (λ(j:Nat)s=>(s.sl 1=aE (bl a)/\s.sl 5=.own 12 1/\s.sl 13=aE (bl c)/\s.sl 14=al (lh c)/\s.sl 15=al i/\s.sl 6=al i/\s.sl 7=al (lg c i 0:Nat)/\s.sl 26=aE (bl a)/\s.sl 27=al (lh a)/\s.sl 28=al j)/\(j<=lh a/\TabP s.rw 12 1 24 3 (lh c) (i+1) (fy (c.take i) a++[pz (a.map λb=>lI (lg c i 0) b) (ld (lh a) 0) j]))) (λj=>lh a-j) (0) (λK qw g u=>⟨(DM g u E @ap (bX h)),⟨om,by rw[qB];exact qw⟩⟩) ?_;intro j S ⟨p,H⟩;have⟨A,f⟩:=H;have w:lh (a.map λb=>lI (lg c i 0) b)=(ld (lh a) (0:Int)).length:=sp;have m:=f.row i om;rw[Ua l]at m;have y:∀t,lh (pz (a.map λb=>lI (lg c i 0) b) (ld (lh a) 0) t)=lh a:=λt=>by rw[mm w];simp
 refine xA p @f.top @Fb m y @ik @ap ?_;refine⟨λo=>?_,λo=>?_⟩
 have q:lg (bl a) j 0=((lg a j 0:Nat):Int):=bX o;have O:=C i h;have P:=D j o;refine⟨o,o,?_⟩;refine xA p @f.top @Fb m y @ik q ?_;refine⟨kr,h,h,aa (Fz _ _ O.1 P.1 om) ?_⟩;refine xA p @f.top @Fb m y @ik q ?_;refine⟨o,om,kr,ah (j+1) ⟨(gE p<|ak o om),⟨om,?_⟩⟩⟩;have e:fy (c.take i) a++[pz (a.map λb=>lI (lg c i 0) b) (ld (lh a) 0) (j+1)]=(fy (c.take i) a++[pz (a.map λb=>lI (lg c i 0) b) (ld (lh a) 0) j]).set i ((pz (a.map λb=>lI (lg c i 0) b) (ld (lh a) 0) j).set j<|lI (lg c i 0)<|lg a j 0):=by rw[za0 l,<- zqE h o,tF w<|ss o]
 rw[e];exact f.set om (rp p) (rp p)<|λx Q=>by simp only[gr,simprocAttr,p,Q]
 have:j=lh a:=om;subst this;refine ah (i+1) ⟨(fB E p<|ak h om),⟨om,?_⟩⟩;have e:pz (a.map λb=>lI (lg c i 0) b) (ld (lh a) 0) (lh a)=a.map λb=>lI (lg c i 0) b:=by have:=tE w;simpa using this
 have B:=f;rw[e,Oz h]at B;exact B.same gl<|λx=>gl
 have:i=lh c:=om;subst this;rw[av]at z;exact uR z.done dc<|λj A=>by have:=List.mem_range.1 A;omega
noncomputable def Yk(f:V0)(p:Int)(k:Nat):N0:=(lc (cv f+1)).map λj=>if j<k then(kM f p j:Int)else 0
theorem Ox:lh (Yk f p k)=cv f+1:=by simp[Yk]
theorem zby{j:Nat}(h:j<cv f+1):lg (Yk f p s) j 0=if j<s then(kM f p j:Int)else 0:=by simp[Yk,h]
theorem zhz:ld (cv f+1) 0=Yk f p 1:=by refine bE (by simp[Yk]) λj a b=>?_;simp_all[Yk,kM]
theorem zhA(h:s<cv f):(Yk f p s).set s (kM f p s)=Yk f p (s+1):=by refine bE (by simp[Yk]) λj a b=>?_;simp[Yk];grind
theorem sv(H:lM p=k0):AC prog 150 [dv (bA f 64:Nat),al p] (.fr 3 1 (iL (ed f p))):=by
 refine cA [.tmp 4] func150 λU=>?_;have V:=eD f;have a:=nx f;refine aR ?_;refine aa (uc f) ?_;have G:D0.i64.wrap ((cv f:Int)+1)=((cv f+1:Nat):Int):=by rw[aF om om];rfl
 refine ff a G ?_;refine⟨om,om,?_⟩;refine az (λ(k,v,w)s=>(s.sl 1=al p/\s.sl 5=.own 11 v/\s.rw 11=⟨v,.sli 24 1 l0<|mF<|ms f⟩/\s.sl 6=.own 15 w/\s.rw 15=⟨w,.sli 3 1 l0<|iL<|Yk f p k⟩/\s.sl 7=al k)/\(1<=k/\k<=cv f+1/\(k<=cv f\/cv f=0))) (λ(k,v,w)=>cv f+1-k) ((1,1,1)) ⟨(rS a G (zhz f p) @mG),om⟩ ?_;intro(k,v,w) J ⟨t,B⟩;have g:=Ox f p k;refine iD t a g ?_;refine⟨λh=>?_,λh=>?_⟩;have c:D0.i64.wrap ((k:Int)-1)=((k-1:Nat):Int):=by rw[aF om om];omega
 have d:=kO f (k:=k-1) om;have l:=kO f h;have x:=fc f (k-1)<|ab 64;have C:=fc f k<|ab 64;refine Cn t a g c d l ?_;refine⟨kr,om,om,h,h,aa (qT _ _ (k-1) x C (λi D=>?_)<|λi D=>?_) ?_⟩;have:=fI.1<|aP 0 D;omega;have:=fI.1<|aP 0 D;omega;refine Cn t a g c d l ?_;have m:iQ p (fy (cd f (k-1) 64)<|cd f k 64)=kM f p k:=by unfold kM;rw[ac om]
 have L:=gX (cd f (k-1) 64)<|cd f k 64;have M:=Ot (cd f (k-1) 64)<|cd f k 64;refine aa (Qq _ p H om (Oq _ _) om) ?_;rw[m];have b:=zhA f p h;refine xA t a g c d l b ?_;refine⟨om,om,kr,?_⟩;exact ah ((k+1,v,w)) ⟨(xc6 t (ak h om) c d l b),⟨om,om,om⟩⟩;have m:∀j,j<cv f+1->lg (Yk f p k) j 0=(kM f p j:Int):=λj N=>by rw[zby f p N];split;rfl;rw[Lu om];rfl
 generalize Yk f p k=O at *;refine⟨om,om,?_⟩;refine az (λ(k,v,w,u)s=>(s.sl 5=.own 11 v/\s.rw 11=⟨v,.sli 24 1 l0<|mF<|ms f⟩/\s.sl 6=.own 15 w/\s.rw 15=⟨w,.sli 3 1 l0<|iL O⟩/\s.sl 8=.own 39 u/\s.rw 39=⟨u,.sli 3 1 l0<|iL<|pz (ed f p) (ld (cv f) 0) k⟩/\s.sl 41=al (cv f:Nat)/\s.sl 42=al k)/\(k<=cv f)) (λ(k,v,w,u)=>cv f-k) ((0,v,w,(J.rw 39).ver+1)) ⟨(rS t a @qB @mG),om⟩ ?_;intro(k,v,w,u) W ⟨E,Q⟩;have r:lh (ed f p)=(ld (cv f) (0:Int)).length:=by simp[df]
 have y:lh (pz (ed f p) (ld (cv f) 0) k)=cv f:=by rw[mm r];simp
 by_cases n:k<cv f;have c:=ak n om;have d:=kO f n;have x:=fc f k<|ab 64;have R:=qS f p k;have S:=qS f p<|k+1;have z:D0.i64.wrap _=((cd f k 64).length:Int)-(kM f p k:Int):=aF om om;have A:D0.i64.wrap _=((cd f k 64).length:Int)-(kM f p k:Int)-(kM f p (k+1):Int):=aF om om;have o:=m k om;have q:=m (k+1) om;have b:(pz (ed f p) (ld (cv f) 0) k).set k (((cd f k 64).length:Int)-kM f p k-kM f p (k+1))=pz (ed f p) (ld (cv f) 0) (k+1):=by rw[<- pX f p n,tF r<|ss n]
 simp only[↓gp,gq,simprocAttr,gT,E,a,g,y,c,d,ap,o,q,z,A,b];refine⟨λ_=>⟨kr,n,n,om,om,om,om,n,om,kr,?_⟩,λF=>absurd n F⟩;exact ah ((k+1,v,w,u)) ⟨(xc8 E c d o q z A b),om⟩;refine ox E a g y ?_;refine⟨λF=>absurd F n,λ_=>?_⟩;have e:k=(ld (cv f) (0:Int)).length:=by simp;omega
 have:=tE r;grind
noncomputable def mr(n:Int)(a:N0):Bool:=aS n a&&!(lh a==0)
theorem fR:mr x L=k0↔aS x L=k0/\0<lh L:=by unfold mr;grind
noncomputable def gD(n:Int)(a:N0):Int:=if mr n a=k0 then(aQ (lg a (lh a-1) 0).toNat:Int)-1 else -2
theorem zjo:decide (gD p o < -1)=!mr p o:=by unfold gD;grind
theorem gZ:AC prog 240 [.ag [al p,aE o]] (.im (al (gD p o))):=by
 refine cA [.tmp 2] func240 λi=>?_;simp[dt,dF,gb,jt,hZ,cC]at i;refine aR<|aa (bw p o) ?_;have j:0<lh o->D0.i64.wrap ((lh o)-1)=((lh o-1:Nat)):=λh=>by rw[aF om om];omega
 by_cases b:mr p o=k0;have⟨f,l⟩:=fR.1 b;have m:=HC (dM f) (k:=lh o-1) om;have c:=mf m.1 om;have n:((lh o:Int)==0)=false:=by grind
 have a:=jA (s:=(lg o (lh o-1) 0).toNat) om;refine ox f n (j l) @ar ?_;refine⟨om,om,aa c ?_⟩;have d:D0.i64.wrap _=(aQ (lg o (lh o-1) 0).toNat)-1:=aF om om;have e:gD p o=(aQ _:Int)-1:=ae b;exact DL d e;have e:gD p o=-2:=ac b;rw[e];refine aR ?_;exact λc g=>absurd (fR.2 ⟨ss c,by grind⟩) b
theorem eV(b:Uu o):AC prog 97 [al p,aE o] (.ag [.im (al p),.fr 3 1 (iL (bl (dI (hU o) k0)))]):=by refine cA [.cell 4 26] func97 λc=>?_;refine aR<|aa (vz _ o b) ?_;exact ef
theorem xG(A:k<64)(q:Uu o)(w:lh o<=1000):AC prog 302 [.ag [al p,aE o],al k] (.ag [.im (al p),.fr 3 1 (iL (bl (dI (hU (o.map λx=>fu .i64 x k)) k0)))]):=by
 refine cA [.cell 4 26] func302 λr=>?_;simp only[dt,dT,dF,gb,jt,hZ,cC]at r;refine aR ?_;have l:∀a,a<lh o->(o.take<|a+1).map (λx=>fu .i64 x k)=(o.take a).map (λx=>fu .i64 x k)++[fu .i64 (lg o a 0) k]:=λa h=>by rw[bj 0 h];simp
 refine az (λ((a,v):Nat×Nat) s=>(s.sl 1=al k/\s.sl 2=.ref 2 1 0/\s.rw 2=⟨1,.box 26 [al p,aE o]⟩/\s.sl 4=.ref 4 1 0/\s.rw 4=⟨1,.box 26 [al 0,.v (.slice none 0 0)]⟩/\s.sl 5=.own 7 v/\s.rw 7=⟨v,.sli 3 1 l0<|iL<|(o.take a).map λx=>fu .i64 x k⟩/\s.sl 6=al a)/\(a<=lh o)) (λ(a,v)=>lh o-a) ((0,1)) ⟨nm,sp⟩ ?_;intro(a,v) B ⟨⟨c,d,e,f,g,i,b,j⟩,u⟩;refine XO c d e f g i b j ?_;refine⟨λh=>⟨h,h,by rw[aG,bg];omega,ah ((a+1,v+1)) ⟨(by and_intros<;>(first|(simp only[gr,simprocAttr,c,d,e,f,g,i,b,j,ak h om,l a h];first|done|rfl|(simp;done))|assumption|rfl)),om⟩⟩,λh=>?_⟩;have:a=lh o:=om;subst this;have m:o.take (lh o)=o:=av;rw[m]at b;refine aa (eV p _ ?_) ?_;intro x n;obtain⟨y,z,rfl⟩:=List.mem_map.1 n;exact zhb (q y<|by rwa [m]at z) om;simp only[↓gp,gq,simprocAttr,gT,c,d,e,f,g,i,b,j,m]
theorem zpw{b:Int}(c:0<=x/\x<64)(d:0<=b/\b<64):0<=fu .i64 x b/\fu .i64 x b<64:=zhb c d
theorem Tw(h:Uu L)(b:0<=x/\x<64):Uu (L++[x]):=λy a=>by rw[gG,fZ]at a;exact a.elim (h y) (λe=>e ▸ b)
theorem zi5(a:s<=6)(h:zfe ((2^s:Nat):Int) x):0<=x/\x<64:=by have b:=dx a;have c:0<2^s:=MU om;obtain⟨m,rfl,d⟩:=Ey c h;omega
theorem aH:AC prog 49 [.ag [al p,aE o]] (.im (aU (aS p o))):=by refine cA [.tmp 2] func49 λb=>?_;refine aR<|aa (CV p o) ?_;exact ef
theorem qc(g:t.size<=2000000):AC prog 19 [fa t,.v (.int .u8 k)] (.fr 9 1 (sL (dO t k))):=by
 refine cA [.tmp 4] func19 λj=>?_;refine aR ?_;refine az (λ(i,v)s=>(s.sl 0=fa t/\s.sl 1=.v (.int .u8 k)/\s.sl 5=.own 5 v/\s.rw 5=⟨v,.sli 9 1 l0<|sL (pU t k i).1⟩/\s.sl 6=al (pU t k i).2/\s.sl 7=al i)/\(i<=t.size)) (λ(i,v)=>t.size-i) ((0,1)) ⟨nm,sp⟩ ?_;intro(i,v) b ⟨c,f⟩;have d:=Li t k i;refine ff c @cN ?_;refine⟨λh=>⟨h,λa=>⟨d.1,om,om,?_⟩,λa=>?_⟩,λh=>⟨om,om,?_⟩⟩;have a:fK t i=k:=by have:=beq_iff_eq.1 a;unfold fK;omega
 exact ah ((i+1,v+1)) ⟨(rS c (ak h om) (uW a) @DT),om⟩;have a:¬fK t i=k:=by have:=beq_eq_false_iff_ne.1 a;unfold fK;omega
 exact ah ((i+1,v)) ⟨(fB c (ak h om)<|Fj a),om⟩;obtain rfl:i=t.size:=om;rfl
theorem iT(p:t.size<=2000000):AC prog 25 [fa t,.v (.int .u8 k)] (.fr 9 1 (sL (dO t k))):=by
 refine cA [.tmp 4] func25 λq=>?_;refine aR<|az (λ((i,v,out,f):Nat×Nat×Q0×Nat) s=>(s.sl 0=fa t/\s.sl 1=.v (.int .u8 k)/\s.sl 5=.own 8 v/\s.rw 8=⟨v,.sli 9 1 l0<|sL out⟩/\s.sl 6=al f/\s.sl 7=al i)/\(i<=t.size+1/\(i<=t.size->out=(pU t k i).1/\f=(pU t k i).2)/\(t.size<i->out=dO t k))) (λ(i,v,out,f)=>t.size+1-i) ((0,1,[],0)) ⟨nm,⟨sp,by simp[pU],sp⟩⟩ ?_;intro(i,v,out,f) r ⟨g,j⟩;obtain⟨u,l,m⟩:=j;have d:=Li t k i;refine ff g @cN ?_;refine⟨λh=>?_,λh=>by grind⟩;obtain⟨rfl,rfl⟩:=l h;refine⟨λe=>?_,λa=>?_⟩;have e:=beq_eq_false_iff_ne.1 e;have c:i<t.size:=om;refine⟨c,λa=>⟨d.1,om,om,?_⟩,λa=>?_⟩;have a:fK t i=k:=by have:=beq_iff_eq.1 a;unfold fK;omega
 exact ah ((i+1,v+1,(pU t k<|i+1).1,(pU t k<|i+1).2)) ⟨(rS g (ak c om) (uW a) @DT),⟨om,λ_=>⟨sp,sp⟩,om⟩⟩;have a:¬fK t i=k:=by have:=beq_eq_false_iff_ne.1 a;unfold fK;omega
 exact ah ((i+1,v,(pU t k i).1,(pU t k i).2)) ⟨(gE g<|ak c om),⟨om,λ_=>⟨by rw[Fj a],by rw[Fj a]⟩,om⟩⟩;have a:=beq_iff_eq.1 a;obtain rfl:i=t.size:=om;refine⟨d.1,om,om,?_⟩;have o:D0.i64.wrap _=((t.size+1):Int):=ak (n:=t.size+1) om om;exact ah ((t.size+1,v+1,dO t k,t.size+1)) ⟨(by and_intros<;>(first|(simp[gr,simprocAttr,g,o,dO])|assumption|rfl)),⟨om,om,λ_=>rfl⟩⟩
theorem gP:AC prog 47 [fa t] (.tup [.im (al (Br t:Nat)),.im (aU (uq t))]):=by
 refine cA [.tmp 2,.tmp 3] func47 λD=>?_;cases f:wQ t with
 | true =>
   rw[(FE f).1,(FE f).2];have g:(t.toList==(⟨#[45]⟩:P0).toList)=true:=by rw[qd];exact f
   exact mg g
 | false =>
   have g:(t.toList==(⟨#[45]⟩:P0).toList)=false:=by rw[qd];exact f
   have j:(0<t.size/\¬PO t t.size=k0)\/t.size=0->Br t=0/\uq t=false:=λh=>by rcases h with h|h;exact zd3 f<|Bool.eq_false_iff.2 h.2;unfold Br uq;rw[f,h];exact⟨rfl,rfl⟩
   refine cZ g ?_;refine⟨λl=>⟨λy=>?_,λy=>?_⟩,λl=>j (Or.inr<|by grind) |>.imp (λh=>by rw[h];rfl) (λh=>h)⟩;have:=j<|Or.inl ⟨om,λh=>by have:=ztM h;omega⟩;grind;refine az (λ(i:Nat)s=>(s.sl 0=fa t/\s.sl 4=al (oU t i:Nat)/\s.sl 5=al i)/\(i<=t.size/\PO t i=k0)) (λi=>t.size-i) (0) ⟨(jX @rN),⟨sp,rfl⟩⟩ ?_;intro i E ⟨p,q⟩;have⟨c,o⟩:=q;refine cZ p ?_;have r:fK t i=(lg t.data.toList i 0).toNat:=rfl;rw[<- r]
   refine⟨λc=>?_,λc=>by obtain rfl:i=t.size:=om
                        rw[(FG f o).1,(FG f o).2,ay<|show 1<=t.size by grind];simp⟩
   have u:i<t.size:=om;have m:=λh=>j<|Or.inl ⟨om,λe=>absurd (zd2 (t:=t) u h)<|by rw[e];simp⟩;have b:¬(97<=fK t i/\fK t i<=102/\(i=0\/fK t (i-1)<fK t i))->((Br t:Nat):Int)=0/\uq t=false:=λh=>by grind
   refine⟨c,λz=>⟨c,λk=>b om,λA=>?_⟩,λk=>b om⟩;have F:=OF o;have B:=by have:2^(fK t i-97)<2^6:=bN om om;omega
   have d:D0.u8.wrap ((fK t i:Int)-97)=((fK t i-97:Nat):Int):=by simp[D0.wrap,D0.bits];omega
   have a:D0.u64.wrap _=((fK t i-97:Nat):Int):=dm om;have n:EX .i64 ((oU t i:Nat):Int) (jl .i64 1 ((fK t i-97:Nat):Int))=((oU t (i+1):Nat):Int):=by rw[eh om,nQ om om,AE]
   have w:=FD t i;rw[o,au]at w;refine⟨kr,λl=>?_,λl=>⟨c,by rw[d,a];omega,?_⟩⟩;have x:D0.i64.wrap ((i:Int)-1)=((i-1:Nat):Int):=by rw[aF om om];omega
   rw[x];refine⟨c,om,om,λk=>?_,λk=>⟨c,by rw[d,a];omega,?_⟩⟩;refine b ?_;unfold fK at k ⊢;rw[ar]at k;omega;have C:fK t (i-1)<fK t i:=by simp_all[fK,ar]
   exact ah (i+1) ⟨(xc6 p r.symm d a n<|ak c om),⟨om,by grind⟩⟩;exact ah (i+1) ⟨(xc6 p r.symm d a n<|ak c om),⟨om,by grind⟩⟩
theorem gQ(G:t.size<=2000000):AC prog 76 [fa t] (.tup [.im (al (Br t:Nat)),.im (aU (uq t))]):=by
 refine cA [.tmp 2,.tmp 3] func76 λH=>?_;refine aR ?_;refine az (λ(i:Nat)s=>(s.sl 0=fa t/\s.sl 4=al (oU t i:Nat)/\s.sl 5=al i)/\(i<=t.size/\PO t i=k0/\(wQ t=k0->i=0))) (λi=>t.size-i) (0) ⟨(jX @rN),⟨sp,rfl,λ_=>rfl⟩⟩ ?_;intro i I ⟨l,u⟩;have⟨m,n,z⟩:=u;have w:(t.toList==(⟨#[]⟩:P0).toList)=decide (t.size=0):=by rw[qd,aZ,aq,aq];exact⟨λh=>by rw[h];rfl,λh=>iR<|qm h⟩
 cases c:wQ t with
 | true =>
   have d:(t.toList==(⟨#[45]⟩:P0).toList)=true:=by rw[qd];exact c
   obtain rfl:=z c;have B:t.size=1:=by rw[show t=⟨#[45]⟩ from cH c];rfl
   rw[(FE c).1,(FE c).2];refine ox l d w B ?_;exact⟨rfl,rfl⟩
 | false =>
   have d:(t.toList==(⟨#[45]⟩:P0).toList)=false:=by rw[qd];exact c
   rcases bf i t.size with m|m;have a:((i:Int)<(t.size:Int))=True:=bO om;have C:fK t i=(lg t.data.toList i 0).toNat:=rfl;have e:D0.i64.wrap (D0.i64.wrap (((lg t.data.toList i 0).toNat:Nat):Int)-97)=(fK t i:Int)-97:=by have D:=zth t i;have E:D0.i64.wrap ((fK t i:Nat):Int)=((fK t i:Nat):Int):=aF om om;rw[<- C,E,aF om om]
   have g:¬(97<=fK t i/\fK t i<=102/\(i=0\/fK t (i-1)<fK t i))->(0:Int)=((Br t:Nat):Int)/\l0=uq t:=λh=>by have:=zd3 c<|zd2 (t:=t) m h;rw[this.1,this.2];exact⟨rfl,rfl⟩
   refine nN l d w a e ?_;refine⟨m,aa (fe _ _ _) ?_⟩;by_cases f:97<=fK t i/\fK t i<=102;have J:=OF n;have o:(fK t i:Int)-97=((fK t i-97:Nat):Int):=om;have x:(decide ((0:Int)<=((fK t i-97:Nat):Int))&&decide (((fK t i-97:Nat):Int)<=5))=true:=by simp;omega
   have j:D0.u64.wrap ((fK t i-97:Nat):Int)=((fK t i-97:Nat):Int):=dm om;have y:=znh n f.1;have F:2^(fK t i-97)<64:=by have:2^(fK t i-97)<2^6:=bN om om;omega
   have A:=FD t i;rw[n,au]at A;rw[o]at *;refine nN l a e x j ?_;have k:(!(decide True&&decide (((fK t i-97:Nat):Int)<=5)))=false:=by simp;omega
   have p:(wH .i64 ((oU t i:Nat):Int) ((fK t i-97:Nat):Int) != 0)=l0↔(i=0\/fK t (i-1)<fK t i):=by rw[zmk om,bne_eq_false_iff_eq,<- y];omega
   refine⟨λ_=>⟨λb=>?_,λb=>?_⟩,λb=>by rw[k]at b;cases b⟩;grind;have q:PO t (i+1)=true:=by rw[A];exact ay ⟨f.1,f.2,p.1 b⟩
   have r:D0.i64.wrap (((oU t i:Nat):Int)+jl .i64 1 ((fK t i-97:Nat):Int))=((oU t (i+1):Nat):Int):=by have z:(0:Int)<=((2^(fK t i-97):Nat):Int):=lE _;rw[eh om,aF om om,<- zng q];rfl
   exact ah (i+1) ⟨(DM l e j r<|ak m om),⟨om,q⟩⟩;refine iD l a e ?_;grind;obtain rfl:i=t.size:=om;have a:((t.size:Int)<(t.size:Int))=False:=aX om;rw[(FG c n).1,(FG c n).2];refine ox l d w a ?_;rw[aZ,aq,bC,bJ];omega
theorem xH(h:OkSet t):AC prog 47 [fa t] (.tup [.im (al (oU t t.size:Nat)),.im (aU k0)]):=by have:=gP t;rwa [h.ps.1,h.ps.2]at this
theorem xI(h:OkSet t):AC prog 76 [fa t] (.tup [.im (al (oU t t.size:Nat)),.im (aU k0)]):=by have:=gQ t (by have:=h.hi;omega);rwa [h.ps.1,h.ps.2]at this
def mu(a:Q0):N0:=a.map λp=>((oU p p.size:Nat):Int)
theorem AL(h:s<lh g):mu (g.take (s+1))=mu (g.take s)++[((oU (lg g s ⟨#[]⟩) (lg g s ⟨#[]⟩).size:Nat):Int)]:=by unfold mu;rw[bj _ h,cq];rfl
def chr(n:Nat):P0:=⟨#[UInt8.ofNat (48+n)]⟩
structure OkText (t:ByteArray) (n:Nat) (rest:ByteArray) (ps:List ByteArray):Prop where
 size:2<=t.size/\t.size<=1000
 pts:1<=n/\n<=6
 b0:fK t 0=48+n
 b1:fK t 1=58
 tail:t.extract 2 t.size=rest
 rsize:rest.size<=1000
 full:(rest.toList==(⟨#[]⟩:ByteArray).toList)=false
 parts:dO rest 44=ps
 plen:ps.length<=1000
 pne:0<ps.length
 sets:∀p∈ps,OkSet p
 head:dO t 58=[chr n,rest]
 cx:cxP n (mu ps)
theorem oh{s:St}(x y z:Value):br s n (.tup [.im (.v x),.im (.v y),.im (.v z)])=s.put (some n) (.tup [.v x,.v y,.v z]):=by simp[br,leaves,cM,eu,gN,fL,fP,mY]
theorem HG{a:P0}(n:OkText h s a g):AC prog 200 [fa h] (.tup [.im (al s),.im (fa a),.im (aU k0)]):=by
 refine cA [.tmp 2,.tmp 3,.tmp 4] func200 λd=>?_;have i:=n.size;have j:=n.pts;have e:(lg h.data.toList 0 0).toNat=48+s:=n.b0;have f:(lg h.data.toList 1 0).toNat=58:=n.b1;simp -dsimp only[↓gp,gq,lj,lm,lp,ll,lr,lw,lz,lA,lC,lk,gT,e,f];have c:D0.u8.wrap (((48+s:Nat))-48)=s:=by simp[D0.wrap,D0.bits];omega
 refine⟨λ_=>⟨om,λ_=>⟨om,λ_=>⟨om,λb=>(by grind),λ_=>⟨kr,om,om,?_,n.tail.symm⟩⟩,λb=>om⟩,λb=>om⟩,λb=>om⟩;rw[c,aF om om]
theorem Bp{o:P0}(n:OkText h s o g):AC prog 108 [fa h] (.tup [.ag [.im (al s),.fr 3 1 (iL (mu g))],.im (aU k0)]):=by
 refine cA [.cell 2 26,.tmp 3] func108 λE=>?_;simp (maxSteps:=9^7) -dsimp only[↓gp,gq,reduceCtorEq,lj,lm,lp,ll,lu,lr,lw,lz,lA,lB,lC,lk,gT];refine aa (HG n) ?_;simp (maxSteps:=9^7) -dsimp only[↓gp,gq,reduceCtorEq,lj,lm,lp,ll,lu,lr,lw,lz,lA,lB,lC,lk,gT,oh,n.full];refine aa (qc o 44 (by have:=n.rsize;omega)) ?_;rw[n.parts];simp (maxSteps:=9^7) -dsimp only[↓gp,gq,reduceCtorEq,lj,lm,lp,ll,lu,lr,lw,lz,lA,lB,lC,lk,gT,cN];refine az (λ((k,u,q,w,v,y):Nat×Nat×PV×RK×Nat×Nat) t=>t.sl 2=.ref 2 1 0/\t.rw 2=⟨1,.box 26 [al 0,.v (.slice none 0 0)]⟩/\t.sl 7=.ref 7 y 0/\t.rw 7=⟨y,.box 26 [al s,q]⟩/\t.rw 44=⟨u,w⟩/\t.sl 26=.own 26 v/\t.rw 26=⟨v,.sli 9 1 l0 (sL g)⟩/\t.sl 27=al (lh g)/\t.sl 28=al k/\(k<=lh g/\((k=0/\q=.v (.slice none 0 0))\/(0<k/\q=.own 44 u/\w=.sli 3 1 l0 (iL (mu (g.take k))))))) (λ(k,u,q,w,v,y)=>lh g-k) ((0,0,.v (.slice none 0 0),.dead,1,1)) (by refine⟨?_,?_,?_,?_,?_,?_,?_,?_,?_,sp⟩<;>(first|(simp (maxSteps:=9^7) -dsimp only[gr,lj,lm,ll,lk,lw,cN];first|done|rfl|(simp;done))|assumption|rfl)) ?_;intro(k,u,q,w,v,y) F ⟨i,j,l,m,a,b,c,d,e,x⟩;have⟨G,z⟩:=x;have p:lh (mu (g.take k))=k:=by unfold mu;simp;omega
 rcases z with⟨rfl,rfl⟩|⟨H,rfl,rfl⟩;simp (maxSteps:=9^7) -dsimp only[↓gp,gq,reduceCtorEq,lj,lm,lp,ll,lu,lr,lw,lz,lA,lB,lC,lk,gT,i,j,l,m,a,b,c,d,e,cN];refine⟨λf=>⟨f,f,aa (xH _ (n.sets _ (aP ⟨#[]⟩ f))) ?_⟩,λr=>?_⟩;simp (maxSteps:=9^7) -dsimp only[↓gp,gq,reduceCtorEq,lj,lm,lp,ll,lu,lr,lw,lz,lA,lB,lC,lk,gT,i,j,l,m,a,b,c,d,e,cN];have A:mu (g.take 1)=[((oU (lg g 0 ⟨#[]⟩) (lg g 0 ⟨#[]⟩).size:Nat):Int)]:=AL f;exact ah ((1,u+1,.own 44 (u+1),.sli 3 1 l0 (iL (mu (g.take 1))),v,y)) (by refine⟨?_,?_,?_,?_,?_,?_,?_,?_,?_,⟨om,Or.inr ⟨om,rfl,rfl⟩⟩⟩<;>(first|(simp (maxSteps:=9^7) -dsimp only[gr,lj,lm,ll,lk,lw,i,j,l,m,a,b,c,d,e,A];first|done|rfl|(simp;done))|assumption|rfl)) (by first|omega|(simp only;omega)|(dsimp only;omega)|(show _<_;simp;omega));exact absurd n.pne r;simp (maxSteps:=9^7) -dsimp only[↓gp,gq,reduceCtorEq,lj,lm,lp,ll,lu,lr,lw,lz,lA,lB,lC,lk,gT,i,j,l,m,a,b,c,d,e,cN,dB,p];refine⟨λf=>⟨f,f,aa (xH _ (n.sets _ (aP ⟨#[]⟩ f))) ?_⟩,λr=>?_⟩;simp (maxSteps:=9^7) -dsimp only[↓gp,gq,reduceCtorEq,lj,lm,lp,ll,lu,lr,lw,lz,lA,lB,lC,lk,gT,i,j,l,m,a,b,c,d,e,cN,p];have D:=n.plen;exact⟨om,ah ((k+1,u+1,.own 44 (u+1),.sli 3 1 l0 (iL (mu (g.take (k+1)))),v,y)) (by refine⟨?_,?_,?_,?_,?_,?_,?_,?_,?_,⟨om,Or.inr ⟨om,rfl,rfl⟩⟩⟩<;>(first|(simp (maxSteps:=9^7) -dsimp only[gr,lj,lm,ll,lk,lw,i,j,l,m,a,b,c,d,e,AL f,ak f om];first|done|rfl|(simp;done))|assumption|rfl)) (by first|omega|(simp only;omega)|(dsimp only;omega)|(show _<_;simp;omega))⟩;obtain rfl:k=lh g:=om;rw[av];have B:=vA n.cx;refine aa (aH s (mu g)) ?_;simp (maxSteps:=9^7) -dsimp only[↓gp,gq,reduceCtorEq,lj,lm,lp,ll,lu,lr,lw,lz,lA,lB,lC,lk,gT,i,j,l,m,a,b,c,d,e,B,p,av]
def Uy(r:Row)(b:Nat)(d:PV->Prop):Prop:=r.ver=b/\match r.kind with
 | .nil=>∃a:N0,[]=a.map (λn=>PV.v (.int .u8 n))/\d (.v (.string (a.foldl (λr n=>r.push (UInt8.ofNat n.toNat)) ByteArray.empty)))
 | .sli _ e _ c=>e=1/\∃a:N0,c=a.map (λn=>PV.v (.int .u8 n))/\d (.v (.string (a.foldl (λr n=>r.push (UInt8.ofNat n.toNat)) ByteArray.empty)))
 | _=>False
theorem zi(rw:S0)(j a:Nat):rf T rw 22 9 (.own j a) i=Uy (rw j) a i:=by have c:=zxe;have d:=T9k;have g:=T9s;simp only[rf,Uy,c,d,T5k,zxf,g,T5s,Qk];grind
theorem Uz(d:Bool)(e:Int):Uy ⟨n,.sli k 1 d [.v (.int .u8 e)]⟩ n i=i (.v (.string ([e].foldl (λr e=>r.push (UInt8.ofNat e.toNat)) ByteArray.empty))):=by
 simp only[Uy,cC];refine propext ⟨λ⟨f,b,h⟩=>?_,λh=>⟨[e],rfl,h⟩⟩
 match f,b with
 | [m],b=>grind
theorem zd1:lit [.v (.int .u8 p)]=[.v (.int .u8 p)]:=rfl
theorem FC:(chr n).size=1:=rfl
theorem ztK(h:s<=9):((chr s).data.toList.getD 0 0).toNat=48+s:=by show(UInt8.ofNat<|48+s).toNat=48+s;simp;omega
theorem ztL(h:s<=9):([(48+s:Int)].foldl (λr s=>r.push (UInt8.ofNat s.toNat)) ByteArray.empty)++⟨#[]⟩=chr s:=rfl
theorem HH(q:1<=s)(k:s<=9):AC prog 34 [al s] (.im (fa (chr s))):=by
 refine cA [.tmp 2] func34 λr=>?_;have l:((s:Int)==0)=false:=beq_eq_false_iff_ne.2 om;simp[↓gp,gq,simprocAttr,gT,l];refine az (λ(m,o)n=>n.sl 0=al m/\n.sl 3=aU l0/\n.sl 4=fa o/\((m=s/\o=⟨#[]⟩)\/(m=0/\o=chr s))) (λ(m,o)=>m) ((s,⟨#[]⟩)) (by refine⟨?_,?_,?_,Or.inl ⟨rfl,rfl⟩⟩<;>(rfl)) ?_;intro(m,o) t ⟨a,b,c,e⟩;rcases e with⟨rfl,rfl⟩|⟨rfl,rfl⟩
 have f:((m:Int)).tmod 10=m:=Int.tmod_eq_of_lt om om;have g:D0.i64.wrap _=48+m:=aF om om;have d:D0.u8.wrap (48+m)=48+m:=by simp[D0.wrap,D0.bits];omega
 have i:((m:Int)).tdiv 10=0:=Int.tdiv_eq_zero_of_lt om om;have j:=ztL k;simp -dsimp only[↓gp,gq,lj,lm,lp,ll,lu,lr,lw,lz,lB,lC,lk,gT,a,b,c,zi,Uz,zd1,f,g,d,i,j];refine⟨λ_=>⟨dc,λh=>absurd h om,λ_=>⟨?_,dc,ah ((0,chr m)) (by refine⟨?_,?_,?_,Or.inr ⟨rfl,rfl⟩⟩<;>(first|(simp only[gr,simprocAttr,a,b,c,f,g,d,i,j];first|done|rfl|(simp;done))|assumption|rfl))<|om⟩⟩,λh=>?_⟩;show 1+0<=9223372036854775807;omega;grind;simp[↓gp,gq,simprocAttr,gT,a,b,c]
theorem Qr(p:1<=s)(m:s<=9):AC prog 182 [fa (chr s),al 12] (.tup [.im (al s),.im (aU k0)]):=by
 refine cA [.tmp 4,.tmp 5] func182 λx=>?_;have g:=ztK m;have h:(((48+s:Nat):Int)==45)=false:=beq_eq_false_iff_ne.2 om;have f:((1:Nat):Int)=1:=rfl;simp only[↓gp,gq,simprocAttr,gT,FC,g,h,f];refine az (λ(i:Nat)n=>n.sl 0=fa (chr s)/\n.sl 6=aU l0/\n.sl 7=fa (chr s)/\n.sl 8=al (if i=0 then 0 else s:Nat)/\n.sl 9=al i/\(i<=1)) (λi=>1-i) (0) (by refine⟨?_,?_,?_,?_,?_,sp⟩<;>(rfl)) ?_;intro i y ⟨a,b,c,d,e,q⟩;have r:i=0\/i=1:=om;rcases r with rfl|rfl
 have t:((0:Nat):Int)=0:=rfl;have j:D0.u8.wrap (((48+s:Nat):Int)-48)=(s:Int):=by simp[D0.wrap,D0.bits,D0.signed];omega
 have o:D0.i64.wrap (s:Int)=(s:Int):=aF om om;have u:D0.i64.wrap (10*0)=0:=dc;have w:D0.i64.wrap (0+(s:Int))=(s:Int):=by rw[Int.zero_add];exact o
 have k:D0.i64.wrap (0+1)=1:=dc;simp (maxSteps:=9^7) -dsimp only[↓gp,gq,reduceCtorEq,lj,lm,lp,ll,lu,lr,lw,lz,lA,lB,lC,lk,gT,a,b,c,d,e,FC,g,f,t];refine⟨λ_=>⟨λl=>absurd l om,λ_=>ah (1) (by refine⟨?_,?_,?_,?_,?_,om⟩<;>(first|(simp (maxSteps:=9^7) -dsimp only[gr,lj,lm,ll,lk,lw,a,b,c,d,e,j,o,u,w,k];first|done|rfl|(simp;done))|assumption|rfl))<|om⟩,λl=>absurd l om⟩;simp only[↓gp,gq,simprocAttr,gT,a,b,c,d,e,FC,g,f];refine aa (HH p m) ?_;simp only[↓gp,gq,simprocAttr,gT,a,b,c,d,e,FC,du]
theorem Ku(a:1<=s)(b:s<=9):AC prog 81 [fa (chr s)] (.tup [.im (al s),.im (aU k0)]):=by refine cA [.tmp 2,.tmp 3] func81 λc=>?_;refine aR<|aa (Qr a b) ?_;exact ef
theorem Bq{e:P0}(n:OkText h s e g):AC prog 164 [fa h] (.tup [.ag [.im (al s),.fr 3 1 (iL (mu g))],.im (aU k0)]):=by
 refine cA [.cell 2 26,.tmp 3] func164 λJ=>?_;simp only[↓gp,gq,simprocAttr,gT];refine aa (iT h 58 (by have:=n.size.2;omega)) ?_;rw[n.head];have C:(((2:Nat):Int) != 2)=false:=rfl;simp (maxSteps:=9^7) -dsimp only[↓gp,gq,reduceCtorEq,lj,lm,lp,ll,lu,lr,lw,lz,lA,lB,lC,lk,gT,cN,C];refine⟨om,aa (Ku n.pts.1 (by have:=n.pts;omega)) ?_⟩;simp (maxSteps:=9^7) -dsimp only[↓gp,gq,reduceCtorEq,lj,lm,lp,ll,lu,lr,lw,lz,lA,lB,lC,lk,gT];refine⟨om,aa (iT e 44 (by have:=n.rsize;omega)) ?_⟩;rw[n.parts];simp only[↓gp,gq,simprocAttr,gT,cN];refine az (λ((k,u,w,B,v,y,z):Nat×Nat×PV×RK×Nat×Nat×Nat) t=>t.sl 2=.ref 2 1 0/\t.rw 2=⟨1,.box 26 [al 0,.v (.slice none 0 0)]⟩/\t.sl 7=.ref 7 y 0/\t.rw 7=⟨y,.box 26 [al s,w]⟩/\t.rw 58=⟨u,B⟩/\t.sl 4=.own 13 z/\t.rw 13=⟨z,.sli 9 1 l0 (sL [chr s,e])⟩/\t.sl 6=aU k0/\t.sl 8=.own 30 v/\t.rw 30=⟨v,.sli 9 1 l0 (sL g)⟩/\t.sl 9=al k/\(k<=lh g/\((k=0/\w=.v (.slice none 0 0))\/(0<k/\w=.own 58 u/\B=.sli 3 1 l0 (iL (mu (g.take k))))))) (λ(k,u,w,B,v,y,z)=>lh g-k) ((0,0,.v (.slice none 0 0),.dead,1,1,1)) (by refine⟨?_,?_,?_,?_,?_,?_,?_,?_,?_,?_,?_,sp⟩<;>(first|(simp only[gr,simprocAttr,cN];first|done|rfl|(simp;done))|assumption|rfl)) ?_;intro(k,u,w,B,v,y,z) K ⟨f,q,i,j,a,l,b,m,o,c,p,D⟩;have⟨L,E⟩:=D;have r:lh (mu (g.take k))=k:=by unfold mu;simp;omega
 have x:[chr s,e].getD 1 ⟨#[]⟩=e:=rfl;rcases E with⟨rfl,rfl⟩|⟨M,rfl,rfl⟩
 simp (maxSteps:=9^7) -dsimp only[↓gp,gq,reduceCtorEq,lj,lm,lp,ll,lu,lr,lw,lz,lA,lB,lC,lk,gT,f,q,i,j,a,l,b,m,o,c,p,cN,x,n.full];refine⟨λd=>⟨om,d,d,aa (xI _ (n.sets _ (aP ⟨#[]⟩ d))) ?_⟩,λA=>absurd n.pne A⟩;simp only[↓gp,gq,simprocAttr,gT,f,q,i,j,a,l,b,m,o,c,p,cN];have F:mu (g.take 1)=[((oU (lg g 0 ⟨#[]⟩) (lg g 0 ⟨#[]⟩).size:Nat):Int)]:=AL d;exact ah ((1,u+1,.own 58 (u+1),.sli 3 1 l0 (iL (mu (g.take 1))),v,y,z)) (by refine⟨?_,?_,?_,?_,?_,?_,?_,?_,?_,?_,?_,⟨om,Or.inr ⟨om,rfl,rfl⟩⟩⟩<;>(first|(simp only[gr,simprocAttr,f,q,i,j,a,l,b,m,o,c,p,F];first|done|rfl|(simp;done))|assumption|rfl)) (by first|omega|(simp only;omega)|(dsimp only;omega)|(show _<_;simp;omega));simp (maxSteps:=9^7) -dsimp only[↓gp,gq,reduceCtorEq,lj,lm,lp,ll,lu,lr,lw,lz,lA,lB,lC,lk,gT,f,q,i,j,a,l,b,m,o,c,p,cN,dB,r,x,n.full];refine⟨λd=>⟨om,d,d,aa (xI _ (n.sets _ (aP ⟨#[]⟩ d))) ?_⟩,λA=>?_⟩;simp only[↓gp,gq,simprocAttr,gT,f,q,i,j,a,l,b,m,o,c,p,cN,r];have I:=n.plen;exact⟨om,ah ((k+1,u+1,.own 58 (u+1),.sli 3 1 l0 (iL (mu (g.take (k+1)))),v,y,z)) (by refine⟨?_,?_,?_,?_,?_,?_,?_,?_,?_,?_,?_,⟨om,Or.inr ⟨om,rfl,rfl⟩⟩⟩<;>(first|(simp only[gr,simprocAttr,f,q,i,j,a,l,b,m,o,c,p,AL d,ak d om];first|done|rfl|(simp;done))|assumption|rfl)) (by first|omega|(simp only;omega)|(dsimp only;omega)|(show _<_;simp;omega))⟩;obtain rfl:k=lh g:=om;rw[av];have G:=vA n.cx;refine aa (bw s (mu g)) ?_;simp only[↓gp,gq,simprocAttr,gT,f,q,i,j,a,l,b,m,o,c,p,G,r,av]
theorem zj3:∀(l:List UInt8)(a:P0),((l.map λx=>(x.toNat:Int)).foldl (λr n=>r.push (UInt8.ofNat n.toNat)) a)=⟨(a.data.toList++l).toArray⟩:=by
 intro l;induction l with
 | nil=>simp
 | cons x l b =>simp_all
theorem Dx(j:Bool)(b:P0):Uy ⟨n,.sli k 1 j (lT b)⟩ n i=i (.v (.string b)):=by
 simp only[Uy,cC];have f:lT b=(b.data.toList.map λx=>x.toNat).map (λa=>PV.v<|.int .u8 a):=by simp[lT]
 have c:=zj3 b.data.toList ByteArray.empty;refine propext ⟨λ⟨e,g,d⟩=>?_,λh=>⟨_,f,by rwa[c]⟩⟩;rw[f]at g;rwa[<- ((List.map_inj_right<|λx y h=>ss h).1 g),c]at d
theorem zH(b:P0):lT t++lT b=lT (t++b):=by simp[lT]
theorem zce:lT ⟨#[]⟩=[]:=rfl
def iy(l:Q0)(sep:P0):Nat->P0|0=>⟨#[]⟩|i+1=>(if i=0 then iy l sep i else iy l sep i++sep)++lg l i ⟨#[]⟩
theorem qI(l:Q0)(sep:P0)(r:lh l<=1000000000000)(g:∀i,i<=lh l->(iy l sep i).size+sep.size<=70000000000000):AC prog 86 [.sl l0 1 (sL l),fa sep] (.im (fa (iy l sep (lh l)))):=by
 refine cA [.tmp 4] func86 λk=>?_;refine aR<|az (λ(i,v)s=>(s.sl 0=.sl l0 1 (sL l)/\s.sl 1=fa sep/\s.sl 5=.own 7 v/\s.rw 7=⟨v,.sli 5 1 l0 (lT (iy l sep i))⟩/\s.sl 6=al i)/\(i<=lh l)) (λ(i,v)=>lh l-i) ((0,1)) ⟨(by and_intros<;>(rfl)),om⟩ ?_;intro(i,v) t ⟨b,c⟩;have d:lh (sL l)=lh l:=by simp[sL]
 refine ox b d @zi @Dx ?_;refine⟨λh=>?_,λh=>?_⟩;have a:=g _ h;have j:=ak h om;have o:=tC sep;have p:=tC (iy l sep i);refine⟨λq=>?_,λq=>?_⟩;have e:iy l sep (i+1)=(iy l sep i++sep)++lg l i ⟨#[]⟩:=by rw[iy,ac om]
 rw[e,aI,aI]at a;have f:lT (iy l sep i)++lT sep++lT (lg l i ⟨#[]⟩)=lT (iy l sep (i+1)):=by rw[zH,zH,e]
 exact⟨om,h,h,by grind,ah ((i+1,v+1+1)) ⟨(fB b j f),om⟩⟩;have e:iy l sep (i+1)=iy l sep i++lg l i ⟨#[]⟩:=by rw[iy,ae om]
 rw[e,aI]at a;have f:lT (iy l sep i)++lT (lg l i ⟨#[]⟩)=lT (iy l sep (i+1)):=by rw[zH,e]
 exact⟨h,h,om,ah ((i+1,v+1)) ⟨(fB b j f),om⟩⟩;grind
theorem zh1:∀s,s<64->∀i,i<6->(fu .i64 (wH .i64 (s:Nat) (i:Nat)) 1==1)=s.testBit i:=dc
def ug(s i:Nat):O0:=(lc i).filter s.testBit
def txP(s i:Nat):P0:=⟨((ug s i).map λj=>UInt8.ofNat (97+j)).toArray⟩
def zh2(s:Nat):P0:=if s=0 then⟨#[45]⟩else txP s 6
def ip(s:Int):P0:=if 0<=s/\s<64 then zh2 s.toNat else⟨#[]⟩
theorem zcc{i:Nat}(h:s.testBit i=k0):ug s (i+1)=ug s i++[i]:=by simp[ug,bW,h]
theorem zh3{i:Nat}(h:s.testBit i=l0):ug s (i+1)=ug s i:=by simp[ug,bW,h]
theorem zrv{i:Nat}(h:s.testBit i=k0):txP s (i+1)=txP s i++⟨#[UInt8.ofNat (97+i)]⟩:=by unfold txP;rw[zcc h];refine iR ?_;simp
theorem zug{i:Nat}(h:s.testBit i=l0):txP s (i+1)=txP s i:=by unfold txP;rw[zh3 h]
theorem FW:lh (ug n k)<=k:=by have:=aO n.testBit<|lc k;rwa [bp]at this
theorem zcd:(txP n k).size<=k:=by have:=FW n k;show((ug n k).map _).toArray.size<=k;grind
theorem zrw:∀i,i<6->(⟨#[97,98,99,100,101,102]⟩:P0).extract i (i+1)=⟨#[UInt8.ofNat (97+i)]⟩:=dc
theorem Pk:AC prog 85 [al p] (.im (fa (ip p))):=by
 refine cA [.tmp 2] func85 λq=>?_;refine aR<|aa (fe _ _ _) ?_;refine aR ?_;unfold ip;refine⟨λh=>?_,λh=>?_⟩;grind;have h:=ss h;obtain⟨u,rfl⟩:∃u:Nat,p=u:=⟨p.toNat,om⟩;refine⟨λd=>?_,λd=>?_⟩;have:u=0:=by grind
 rw[this];rfl;have j:zh2 u=txP u 6:=ac (λe=>by grind);refine az (λi p=>(p.sl 0=al u/\p.sl 3=fa (txP u i)/\p.sl 4=al i)/\(i<=6)) (λi=>6-i) 0 ⟨nm,om⟩ ?_;intro i t ⟨f,o⟩;have a:D0.u64.wrap i=i:=dm om;by_cases k:i<6;have b:=zh1 u om i k;have l:=ak k om;refine Cn f a b l @ar (zrw i k) ?_;have s:=zcd u i;refine⟨λ_=>⟨λm=>⟨om,by show i+1<=6;omega,by show(txP u i).size+1<=9223372036854775807;omega,?_⟩,λm=>?_⟩,λh=>absurd om h⟩;have e:=zrv m;exact ah (i+1) ⟨(fB f l e),om⟩;exact ah (i+1) ⟨(fB f l (zug m)),om⟩;refine ff f a ?_;grind
theorem vV(j:n<64):AC prog 212 [al n] (.fr 3 1 (iL (bl (ug n 6)))):=by
 refine cA [.tmp 2] func212 λu=>?_;refine aR<|aa (eR 6 n) ?_;have d:di 6 n=true:=by simp[di];omega
 rw[d];refine aR<|az (λ(i,v)s=>(s.sl 0=al n/\s.sl 3=.own 3 v/\s.rw 3=⟨v,.sli 3 1 l0<|iL<|bl<|ug n i⟩/\s.sl 4=al i)/\(i<=6)) (λ(i,v)=>6-i) ((0,1)) ⟨nm,om⟩ ?_;intro(i,v) o ⟨c,l⟩;have m:=FW n i;have a:D0.u64.wrap _=i:=dm om;by_cases f:i<6;refine iD c a (zh1 n j i f) ?_;refine⟨λ_=>⟨λg=>⟨by rw[ap];omega,?_⟩,λg=>?_⟩,λh=>absurd h om⟩;have e:bl (ug n i)++[(i:Int)]=bl (ug n<|i+1):=by rw[zcc g,cI,jZ]
 exact ah ((i+1,v+1)) ⟨(fB c (ak f om) e),om⟩;exact ah ((i+1,v)) ⟨(fB c (ak f om) (zh3 g)),om⟩;refine ff c a ?_;grind
def Xp(l:O0):P0:=⟨(l.map λj=>UInt8.ofNat (97+j)).toArray⟩
theorem zj2(h:n<6):lT (Xp c)++[PV.v (.int .u8 (97+n:Nat))]=lT (Xp (c++[n])):=by
 simp[lT,Xp];omega
theorem Pl:AC prog 124 [al p] (.im (fa (ip p))):=by
 refine cA [.tmp 2] func124 λI=>?_;simp[↓gp,gq,simprocAttr,gT];refine aa (eR 6 p) ?_;have m:di 6 p=decide (0<=p/\p<64):=by simp[di]
 rw[m];simp -dsimp only[↓gp,gq,lj,lp,ll,lu,lr,lw,lz,lA,lB,lC,lk,gT];unfold ip;refine⟨λh=>?_,λh=>?_⟩;grind;have h:=ss h;rw[ae h];obtain⟨u,rfl⟩:∃u:Nat,p=u:=⟨p.toNat,om⟩;rw[ar];have C:u<64:=om;refine⟨λj=>?_,λj=>?_⟩;have:u=0:=by grind
 rw[this];rfl;have n:u≠0:=λe=>by grind
 have o:zh2 u=Xp _:=ac n;rw[o];refine⟨dc,aa (vV u C) ?_⟩;simp[↓gp,gq,simprocAttr,gT,ap];have D:=FW u 6;have q:∀k,k<lh (ug u 6)->lg (ug u 6) k 0<6:=λk g=>List.mem_range.1 (List.mem_filter.1<|aP 0 g).1;generalize ug u 6=l at *;have r:Xp (l.take 0)=⟨#[]⟩:=rfl;refine az (λ(k,v)p=>p.sl 3=.own 11 v/\p.rw 11=⟨v,.sli 5 1 l0<|lT<|Xp<|l.take k⟩/\p.sl 13=.own 13 1/\p.rw 13=⟨1,.sli 3 1 l0<|iL<|bl l⟩/\p.sl 14=al (lh l)/\p.sl 15=al k/\(k<=lh l)) (λ(k,v)=>lh l-k) ((0,1)) (by refine⟨?_,?_,?_,?_,?_,?_,om⟩<;>(rfl)) ?_;intro(k,v) J ⟨i,a,b,c,d,f,F⟩;have z:lh (lT<|Xp<|l.take k)<=6:=by rw[tC];show((l.take k).map _).toArray.size<=6;grind
 by_cases g:k<lh l;have t:=bX g;have A:=q k g;have G:=ak g om;have w:D0.i64.wrap (97+((lg l k 0:Nat)))=((97+lg l k 0:Nat)):=by rw[aF om om];rfl
 have y:D0.u8.wrap ((97+lg l k 0:Nat))=((97+lg l k 0:Nat)):=by generalize l.getD k 0=x at A;simp[D0.wrap,D0.bits];omega
 have e:lT (Xp<|l.take k)++[PV.v (.int .u8 (97+lg l k 0:Nat))]=lT (Xp<|l.take<|k+1):=by rw[zj2 _ _ A,bj 0 g]
 simp only[↓gp,gq,simprocAttr,gT,i,a,b,c,d,f,ap,t,w,y,zd1,zi,Dx];refine⟨λ_=>⟨g,g,?_,om,ah ((k+1,v+1)) (by refine⟨?_,?_,?_,?_,?_,?_,om⟩<;>(first|(simp only[gr,simprocAttr,i,a,b,c,d,f,G,e];first|done|rfl|(simp;done))|assumption|rfl))<|om⟩,λh=>absurd g h⟩;intro s H;rw[List.mem_singleton.1 H];rfl;simp[↓gp,gq,simprocAttr,gT,i,a,b,c,d,f,ap,zi,Dx];grind
theorem xf:(ip p).size<=6:=by unfold ip zh2;split;split;decide;exact zcd _ _;decide
theorem xg{l:Q0}{sep:P0}(h:∀i,i<lh l->(lg l i ⟨#[]⟩).size<=6)(b:sep.size<=1):∀i,i<=lh l->(iy l sep i).size<=7*i:=by
 intro i;induction i with
 | zero=>exact λ_=>ab _
 | succ i a =>unfold iy;grind
theorem QG(sep:List UInt8):∀(a:List (List UInt8)) (x:List UInt8),a≠[]->Go.Lib.join (a++[x]) sep=Go.Lib.join a sep++sep++x:=by
 intro a x h;cases a with
 | nil=>grind
 | cons y r =>simp[Go.Lib.join_cons,Go.Lib.joinTail]
theorem jD(l:Q0)(sep:P0):∀i,i<=lh l->iy l sep i=qJ (l.take i) sep:=by
 intro i;induction i with
 | zero=>intro _;rfl
 | succ i c =>intro a;rw[iy,c om,bj ⟨#[]⟩ a];unfold qJ;rw[cq,dR,gy];by_cases b:i=0;subst b;refine iR ?_;simp[Go.Lib.join_nil,Go.Lib.join_one];rw[ac b,QG _ _ _<|λe=>by simp_all];rfl
def Dw(l:N0):P0:=qJ (l.map ip) ⟨#[44]⟩
theorem nX(j:lh o<=500):AC prog 35 [aE o] (.im (fa (Dw o))):=by
 refine cA [.tmp 2] func35 λm=>?_;refine aR<|az (λ(k,v)s=>(s.sl 0=aE o/\s.sl 3=.own 5 v/\s.rw 5=⟨v,.sli 9 1 l0<|sL<|(o.take k).map ip⟩/\s.sl 4=al k)/\(k<=lh o)) (λ(k,v)=>lh o-k) ((0,1)) ⟨nm,om⟩ ?_;intro(k,v) n ⟨b,f⟩;refine cZ b ?_;refine⟨λh=>⟨h,h,aa (Pk _) ?_⟩,λh=>?_⟩;refine cZ b ?_;have e:(o.take<|k+1).map ip=(o.take k).map ip++[ip (lg o k 0)]:=by simp[bj 0 h]
 refine⟨by grind,ah ((k+1,v+1)) ⟨(fB b (ak h<|om) e),om⟩⟩;rw[bK om];have c:=xg (l:=o.map ip) (sep:=⟨#[44]⟩) (λi a=>by
  have a:=ss a;have:lg (o.map ip) i ⟨#[]⟩=ip o[i]:=by grind
  exact this▸xf _)<|ab 1
 refine aa (qI _ _ (by grind)<|λi a=>?_) ?_;have:=c i a;rw[aG]at a;have l:(⟨#[44]⟩:P0).size=1:=rfl;omega;have e:=jD (o.map ip) ⟨#[44]⟩ _<|ab _;rw[av]at e;rw[e];refine cZ b ?_;rfl
noncomputable def oo(n:Int)(a:N0)(s:Nat):Bool:=aS n a&&(di n s&&!ao a s)
noncomputable def mw(n:Int)(a:N0):O0:=dI (oo n a) l0
theorem zhO(h:oo x L s=k0):s<64:=by unfold oo at h;simp[aj]at h;have:=sj h.2.1;omega
theorem znW:hU (bl ((lc 64).filter (oo p o)))=oo p o:=by funext s;rw[pb];refine Bool.eq_iff_iff.2 ?_;rw[aq,dG,eJ];exact⟨λh=>h.2,λh=>⟨zhO h,h⟩⟩
theorem WX(h:aS x L=l0)(s:Nat):oo x L s=false:=by simp[oo,h]
theorem zqZ(h:aS x L=l0):mw x L=[]:=by simp[mw,dI,co,cd,funext<|WX h]
theorem sI:lh (mw p o)<=448:=vu _ _
theorem kV:AC prog 234 [.ag [al p,aE o]] (.fr 3 1 (iL (bl (mw p o)))):=by
 refine cA [.tmp 2] func234 λy=>?_;refine aR ?_;refine az (λ(t,v)s=>(s.sl 1=.ref 1 1 0/\s.rw 1=⟨1,.box 26 [al p,aE o]⟩/\s.sl 3=.own 5 v/\s.rw 5=⟨v,.sli 3 1 l0 (iL (bl ((lc t).filter (oo p o))))⟩/\s.sl 4=al t)/\(t<=64)) (λ(t,v)=>64-t) ((0,1)) ⟨nm,sp⟩ ?_;intro(t,v) z ⟨b,r⟩;have u:lh ((lc t).filter (oo p o))<=64:=by grind
 have f:(t=64\/aS p o=l0)->hU (bl ((lc t).filter (oo p o)))=oo p o:=λh=>by rcases h with rfl|h;exact znW p o;funext i;rw[pb,WX h];exact aD λa=>by rw[dG,WX h]at a;cases a.2
 have c:(t=64\/aS p o=l0)->AC prog 189 _ (.fr 3 1 (iL (bl (mw p o)))):=λh=>by have:=vz l0 _ (CU (l:=(lc t).filter (oo p o)) λi w=>zhO (List.mem_filter.1 w).2);rwa [f h]at this
 refine cZ b ?_;refine⟨λh=>aa (bw p o) ?_,λh=>aa (c (.inl om)) ?_⟩;refine cZ b ?_;refine⟨λk=>aa (ro _ _) ?_,λk=>aa (c (.inr k)) ?_⟩;have x:=dM k;have h:t<64:=om;have d:oo p o t=(di p t&&!ao o t):=by simp[oo,k]
 have g:oo p o t=k0->bl ((lc (t+1)).filter (oo p o))=bl ((lc t).filter (oo p o))++[(t:Int)]:=λh=>by rw[bW,aW,cI];simp[h,bl]
 have j:oo p o t=l0->bl ((lc (t+1)).filter (oo p o))=bl ((lc t).filter (oo p o)):=λh=>by rw[bW,aW,cI];simp[h,bl]
 refine cZ b ?_;refine⟨λm=>aa (jB p o t x h) ?_,λm=>?_⟩;refine cZ b ?_;refine⟨λn=>?_,λn=>?_⟩;have e:=g (by grind);refine⟨by rw[ap];omega,ah ((t+1,v+1)) ⟨(fB b (ak h om) e),om⟩⟩;have e:=j (by rw[d,n];simp);exact ah ((t+1,v)) ⟨(fB b (ak h om) e),om⟩;have e:=j (by rw[d,m];rfl);exact ah ((t+1,v)) ⟨(fB b (ak h om) e),om⟩;exact mg b;exact mg b
theorem Dj(a:n<18446744073709551616)(b:k<64):AC prog 292 [al k,.eref l0 [dv n] 0] (.im (aU (!n.testBit k))):=by refine cA [.tmp 3] func292 λc=>?_;refine aR<|aa (ez n k a b) ?_;exact ef
theorem Ia(a:n<=6)(b:k<18446744073709551616):AC prog 222 [al n,dv k] (.fr 3 1 (iL (bl (dI (λs=>decide (s<2^n)&&!k.testBit s) l0)))):=by refine cA [.tmp 4] func222 λd=>?_;have c:=dx a;refine aR ?_;refine aa (gF n a _ _ _ (λrw=>rfl) λs f=>Dj k s b om)<|aR<|aa (HD _<|Uw _ a) ?_;have e:(bA _<|2^n).testBit=λs=>decide _&&!k.testBit s:=funext λs=>mM _ _ _;exact e▸ef
theorem sJ:AC prog 132 [.ag [al p,aE o]] (.fr 3 1 (iL (bl (mw p o)))):=by
 refine cA [.tmp 2] func132 λj=>?_;refine aR<|aa (aH p o) ?_;refine aR ?_;refine⟨λb=>?_,λb=>?_⟩;rw[zqZ<|ss b];rfl;have b:=ss b;obtain⟨k,l,_⟩:=cY.1 b;obtain⟨m,rfl⟩:∃m:Nat,p=m:=⟨p.toNat,om⟩;have g:=dx (m:=m) om;refine⟨kr,aa (cj _ o<|dM b) ?_⟩;refine aR ?_;have a:=dj (ao o) 64;refine aa (Ia m _ om om) ?_;have e:(λs=>decide (s<2^m)&&!(bA (ao o) 64).testBit s)=oo m o:=funext λs=>by rw[oo,mM];unfold di;grind
 rw[e];refine aR ?_;rfl
theorem WF(e:Uu L)(f:s<64)(w:Nat):hU (L.map λx=>fu .i64 x (s:Int)) w=k0↔∃x∈L,x.toNat&&&s=w:=by
 unfold hU;have a:∀x∈L,fu .i64 x s=x.toNat&&&s:=λx h=>by have:=e x h;rw[<- ej om om];grind
 grind
noncomputable def zdU(a:N0)(w:Nat):N0:=bl (dI (hU (a.map λx=>fu .i64 x (w:Int))) k0)
theorem zjn(f:Uu L)(g:s<64){t:Nat}(l:t<64):ao (zdU L s) t=mZ (ao L) s t:=by
 unfold zdU mZ;rw[vv];refine Bool.eq_iff_iff.2 ⟨λh=>?_,λh=>?_⟩;have⟨w,m,d⟩:=List.any_eq_true.1 h;simp only[aj,aK]at d;have⟨x,b,a⟩:=(WF f g w).1 d.1;have i:t&&&w=t:=by rw[cl];exact d.2
 have j:w&&&x.toNat=w:=by rw[<- a,cl,<- fD,dp]
 have k:w&&&s=w:=by rw[<- a,fD,dp]
 rw[aj];refine⟨eT.2 ⟨x,b,by rw[cl];exact pV i j⟩,?_⟩;rw[aK,cl];exact pV i k;rw[aj,aK]at h;have⟨x,b,a⟩:=eT.1 h.1;have e:x.toNat&&&s<64:=by have:x.toNat&&&s<=s:=wq;omega
 refine List.any_eq_true.2 ⟨x.toNat&&&s,List.mem_range.2 e,?_⟩;rw[aj,aK];exact⟨(WF f g _).2 ⟨x,b,rfl⟩,by rw[fD,h.2,a]⟩
theorem ztJ(h:aS x L=k0)(A:s<64):aS x (zdU L s)=true:=by
 have B:=dM h;obtain⟨C,D,E⟩:=cY.1 h;refine vA ⟨C,D,λk c=>?_⟩;unfold zdU at c ⊢;rw[ap]at c;have q:=Ft (hU<|L.map λw=>fu .i64 w (s:Int)) k0;have d:=λi (o:i<lh (dI (hU<|L.map λw=>fu .i64 w (s:Int)) k0))=>ja.1<|aP 0 o;have r:=λi (o:i<lh (dI (hU<|L.map λw=>fu .i64 w (s:Int)) k0))=>(WF B A _).1 (d i o).1.2;generalize dI (hU<|L.map λw=>fu .i64 w (s:Int)) k0=f at *;have g:∀i j,i<j->j<lh f->rx (lg f i 0) (lg f j 0):=λi j m y=>by
  have:=List.pairwise_iff_getElem.1 q i j om y m;have a:lg f i 0=f[i]'om:=by simp[lg,show i<lh f by omega]
  have b:lg f j 0=f[j]:=by simp[lg,y]
  rw[a,b];exact this
 refine⟨?_,λG=>?_,λi o=>?_⟩;obtain⟨w,t,u⟩:=r k c;rw[bX c];obtain⟨i,o,rfl⟩:=eX 0 t;have:=(E i o).1;unfold di at this ⊢;rw[aq]at this ⊢;have F:lg f k 0<=(lg L i 0).toNat:=by rw[<- u];exact bI
 refine⟨om,om,om,?_⟩;omega;rw[bX c,bX om];have p:=g (k-1) k om c;have:=(d k c).1.1;have:=(d (k-1) om).1.1;unfold rQ;unfold rx at p;rw[jb om,jb om];simp only[aj,aq];refine⟨om,om,?_⟩;split;rw[aq];omega;rw[aq];omega;have z:=(d i om).1.1;have l:=(d k c).1;rw[bX c,bX om,ej om om];intro e;have:=ku.1 (d i om).2 (lg f k 0) l.1 l.2 om;have p:=g i k o c;rw[this]at p;exact qD p
theorem fH(h:aS x L=k0):lh L<=64:=by
 have d:=dM h;have j:(L.map Int.toNat).Nodup:=by refine List.Pairwise.map _ (λa b=>?_)<|List.Pairwise.imp_of_mem (S:=λa b=>0<=a/\0<=b/\a≠b) (λk l f=>⟨(d _ k).1,(d _ l).1,f⟩) (FA<|cY.1 h);omega
 refine aC λs=>?_;have:=(zbb (m:=lc 64) j (λc g=>?_)<|by grind).length_eq;grind;obtain⟨y,o,rfl⟩:=List.mem_map.1 g;have:=d y o;grind
theorem zna(h:aS x L=k0)(b:s<64)(t:Nat)(c:t<64):ci x (zdU L s) t=mZ (ao L) s t:=by rw[ci,ztJ h b,zjn (dM h) b c];rfl
theorem zqD(h:aS x L=k0){w:Nat}(b:w<64){p:Int}(c:lM p=k0):Bl (ci x (zdU L w)) p=ed (mZ (ao L) w) p:=by rw[Bl,ae c];exact zdO p λs d=>zna h b s d
noncomputable def CT(n:Int)(a:N0)(p:Int):fG:=if mr n a=k0/\lM p=k0 then zqz (ao a) p n.toNat else []
theorem Fw{p:Int}(h:¬(mr x L=k0/\lM p=k0)):CT x L p=[]:=ac h
theorem zm9{i:Nat}(h:i<s):lg (lc s) i 0=i:=by grind
theorem zjm{b:Type}(n:Nat)(a:b):ld n a++[a]=ld (n+1) a:=by rw[zW]
theorem Fy:AC prog 307 [.ag [al p,aE o],al d] (.tb 24 3 ((CT p o d).map iL)):=by
 refine cA [.tmp 4] func307 λhl=>?_;simp only[dt,dT,dF,gb,jt,hZ,cC]at hl;refine aR (aa (gZ p o) ?_);have Q:=zjo p o;refine cZ Q ?_;refine⟨λa=>aa (jY d) ?_,λa=>?_⟩;have a:mr p o=true:=ss a;refine aR ?_;refine⟨λB=>?_,λB=>?_⟩;rw[Fw (λh=>by rw[h.2]at B;cases B)];exact yR gl dc;have B:lM d=true:=ss B;have q:=(fR.1 a).1;obtain⟨h1,h6,_⟩:=cY.1 q;have hb:CT p o d=zqz (ao o) d p.toNat:=ae ⟨a,B⟩;rw[hb];have R:=dM q;have a3:=fH q;obtain⟨m,rfl⟩:∃m:Nat,p=m:=⟨p.toNat,om⟩;rw[ar];have a4:=dx (m:=m) om;have t:jl .i64 1 (m:Int)=((2^m:Nat):Int):=eh om;have y:D0.u64.wrap (m:Int)=(m:Int):=dm om;have G:D0.i64.wrap ((m:Int)+1)=((m+1:Nat):Int):=by rw[aF om om];rfl
 refine NW (k:=11) (v:=1) (e:=24) (e2:=3) gl (λj=>gl) (λ(i:Nat)s=>(s.sl 1=al d/\s.sl 2=.ref 2 1 0/\s.rw 2=⟨1,.box 26 [al (m:Nat),aE o]⟩/\s.sl 5=.own 11 (i+1)/\s.sl 6=al i)/\(i<=m+1/\TabG s.rw 11 (i+1) 24 3 i (ld i (ld (m+1) 0)))) (λi=>m+1-i) (0) (λsX qw f C=>⟨(gE f C),⟨om,qw⟩⟩) ?_;intro i sa ⟨H,S⟩;obtain⟨hi,I⟩:=S;refine iD H G @ar ?_;refine⟨λh=>⟨om,om,?_⟩,λh=>?_⟩;refine zfQ ?_;refine ff H @I.top ?_;refine⟨om,?_⟩;exact tD (k:=11) (v:=i+1+1) (e:=24) (e2:=3) (n:=i) (d:=31) (vd:=(sa.rw 31).ver+1) (M:=ld i (ld (m+1) 0)) (r:=ld (m+1) 0) (rp @I.top) sp (λj J=>by simp only[gr,simprocAttr,I.row j J]) (λj J=>by simp only[gr,simprocAttr,I.rest j J]) (rp G) dc dc (i+1) (λsX qw f C=>⟨(DM f C H H (ak (show i<m+1 by omega) om)),⟨om,(zjm i _ ▸ qw:TabG _ _ _ _ _ _ _)⟩⟩) (by first|omega|(simp only;omega)|(dsimp only;omega)|(show _<_;simp;omega));have:i=m+1:=om;subst this;have U:=I.done;refine az (λ(w:Nat)s=>(s.sl 1=al d/\s.sl 2=.ref 2 1 0/\s.rw 2=⟨1,.box 26 [al (m:Nat),aE o]⟩/\s.sl 5=.own 11 (m+1+1)/\s.sl 7=al w)/\(w<=2^m/\TabI s.rw 11 (m+1+1) 24 3 (lc (m+1)) (qG (ao o) d m w))) (λw=>2^m-w) (0) ⟨(jX H),⟨aB _,U.same gl (λx=>gl)⟩⟩ ?_;intro w sb ⟨D,V⟩;obtain⟨hw,K⟩:=V;refine iD D t y ?_;refine⟨λO=>aa (ey w om) ?_,λO=>?_⟩;refine iD D t y ?_;refine aa (xG _ o w om R om) ?_;refine iD D t y (aa (nS _ _ d) ?_);have z:=zqD q (w:=w) om B;unfold zdU at z;rw[z];have a5:=zbv (n:=m) om O;have L:=AJ (mZ (ao o) w) d;have a6:=eD (mZ (ao o) w);have W:=df (mZ (ao o) w) d;generalize X:ed (mZ (ao o) w) d=b at *;have g:=λk=>WC (j:=aQ w) (WD (ao o) d m w) L k;refine iD D t y ?_;refine az (λ((k,u):Nat×Nat) s=>(s.sl 1=al d/\s.sl 2=.ref 2 1 0/\s.rw 2=⟨1,.box 26 [al (m:Nat),aE o]⟩/\s.sl 5=.own 11 (m+1+1)/\s.sl 7=al w/\s.sl 8=al (aQ w:Nat)/\s.sl 9=.own 48 u/\s.rw 48=⟨u,.sli 3 1 l0 (iL b)⟩/\s.sl 10=al k)/\(k<=lh b/\TabI s.rw 11 (m+1+1) 24 3 (lc (m+1)) (qF (qG (ao o) d m w) (aQ w) b k))) (λ(k,u)=>lh b-k) ((0,(sb.rw 48).ver+1)) ⟨(jX D),⟨om,K.same gl (λx=>gl)⟩⟩ ?_;intro(k,u) sc ⟨E,Y⟩;obtain⟨hk,c⟩:=Y;have A:(k=b.length\/aQ w<k)->qF (qG (ao o) d m w) (aQ w) b k=qG (ao o) d m (w+1):=λh=>by
  have e0:qG (ao o) d m (w+1)=qF (qG (ao o) d m w) (aQ w) (ed (mZ (ao o) w) d) (cv (mZ (ao o) w)):=rfl;rw[e0,<- W,X];rcases h with h|h
  rw[h];have:=zjh (M:=qG (ao o) d m w) (hs:=b) h (lh b-k);rw[show k+(lh b-k)=lh b by omega]at this;exact this.symm
 by_cases F:k<lh b;by_cases Z:k<=aQ w;have g:=g k;have a7:=g.small (aQ w-k) (aQ w);have a8:=L k;have b0:=g.len;have a0:=g.row (aQ w-k) om;have N:qF (qG (ao o) d m w) (aQ w) b (k+1)=JA (qF (qG (ao o) d m w) (aQ w) b k) (aQ w-k) (aQ w) (lg b k 0):=by rw[qF,ae Z]
 generalize qF (qG (ao o) d m w) (aQ w) b k=M at *;have P:lg (lc (m+1)) (aQ w-k) 0=aQ w-k:=zm9 om;have l:=c.row (i:=aQ w-k) om;rw[P]at l;have a1:D0.i64.wrap ((aQ w:Int)-(k:Int))=((aQ w-k:Nat):Int):=by rw[aF om om];omega
 have a2:D0.i64.wrap (lg (lg M (aQ w-k) []) (aQ w) 0+lg b k 0)=lg (lg M (aQ w-k) []) (aQ w) 0+lg b k 0:=aF om om;simp only[↓gp,gq,simprocAttr,gT,E,a1,c.top,uw,P,l,a0,bP,bp,a2];refine⟨λ_=>⟨λ_=>⟨kr,om,om,om,om,om,om,F,F,om,om,kr,?_⟩,λh=>absurd Z h⟩,λh=>absurd F h⟩;exact ah ((k+1,u)) ⟨(gE E (ak F om)),⟨by dsimp only;omega,by
  dsimp only;rw[N];exact c.set (i:=aQ w-k) om gl (xr4 P E @c.top l) (λx hx=>by simp only[gr,simprocAttr,P ▸ hx])⟩⟩
 have e:=A (.inr om);rw[e]at c;refine cZ E ?_;refine⟨λ_=>⟨λh=>absurd h Z,λ_=>?_⟩,λh=>absurd F h⟩;exact ah (w+1) ⟨(fB D E (ak O om)),⟨om,c.same gl (λx=>gl)⟩⟩;have e:=A (.inl om);rw[e]at c;refine cZ E ?_;refine⟨λh=>absurd h F,λ_=>?_⟩;exact ah (w+1) ⟨(fB D E (ak O om)),⟨om,c.same gl (λx=>gl)⟩⟩;have:w=2^m:=om;subst this;exact uR K dc (λj J=>by have:=List.mem_range.1 J;omega);have a:mr p o=false:=ss a;rw[Fw (λh=>by rw[h.1]at a;cases a)];exact yR gl dc
def UA(n:Nat):N0:=ld n 0
theorem FH(q:n<=100):AC prog 225 [al n] (.tb 24 3 (ld (n+1) (iL (UA (n+1))))):=by
 refine cA [.tmp 2] func225 λr=>?_;have o:D0.i64.wrap (n+1)=((n+1:Nat)):=by rw[aF om om];rfl
 refine ff o @ar ?_;refine⟨om,om,?_⟩;refine zg5 (λ(i:Nat)s=>(s.sl 0=al n/\s.sl 3=.own 7 1/\s.rw 7=⟨1,.tab 24<|oQ 7 (n+1) i⟩/\s.sl 9=al (n+1:Nat)/\s.sl 10=al i)/\(i<=n+1/\(∀j,j<i->s.rw (dq 7 j)=⟨1,.sli 3 1 l0<|iL<|UA<|n+1⟩)/\∀j,i<=j->s.rw (dq 7 j)=⟨0,.dead⟩)) (λi=>n+1-i) (0) (Wk.tab (k:=7) (v:=1) (e:=24) (c:=ld (n+1) (.v<|.slice none 0 0)) gl<|NX _) ⟨(by and_intros<;>(first|(simp only[gr,simprocAttr,<- Ub];first|done|rfl|(simp;done))|assumption|rfl)),⟨sp,λj h=>absurd h om,λj _=>gl⟩⟩ ?_;intro i p ⟨f,l⟩;have m:=f.2.2.1;have⟨t,a,b⟩:=l;refine ox f o @ik @ar ?_;refine⟨λh=>⟨om,om,h,om,?_⟩,λh=>?_⟩;exact Fc _ (Wk.ren (d:=17) (k:=7) (k':=dq 7 i) (vk:=1) (et:=24) (c:=iL (UA<|n+1)) (rfl) (rp f) (rp<|b i<|ab _) dc<|za2 h) ⟨(gE f<|ak h om),⟨om,λj g=>(by
  by_cases e:j=i;simp_all[gr,simprocAttr];simp[gr,simprocAttr,e,a j om]),λj g=>(by
  have e:¬j=i:=om;simp[gr,simprocAttr,e,b j om])⟩⟩
 obtain rfl:i=n+1:=om;refine zmc (n:=n+1) dc om (by rw[m,za1]) sp λj g=>?_;grind
theorem zjl:ld (n+1) (iL (UA (n+1)))=(ld (n+1) (ld (n+1) (0:Int))).map iL:=by simp[UA]
theorem Fv:AC prog 135 [.ag [al p,aE o],al d] (.tb 24 3 ((CT p o d).map iL)):=by
 refine cA [.tmp 4] func135 λW=>?_;simp only[dt,dT,dF,gb,jt,hZ,cC]at W;refine aR (aa (aH p o) ?_);refine aR ?_;refine⟨λH=>⟨λE=>aa (gB d) ?_,λE=>?_⟩,λH=>?_⟩;have a:aS p o=true:=ss H;have X:mr p o=true:=fR.2 ⟨a,by simp at E;exact List.length_pos_iff.2 E⟩;refine aR ?_;refine⟨λA=>?_,λA=>?_⟩;rw[Fw (λh=>by rw[h.2]at A;cases A)];exact yR gl dc;have A:lM d=true:=ss A;obtain⟨h1,h6,_⟩:=cY.1 a;have Y:CT p o d=zqz (ao o) d p.toNat:=ae ⟨X,A⟩;rw[Y];have K:=dM a;have Z:=fH a;obtain⟨m,rfl⟩:∃m:Nat,p=m:=⟨p.toNat,om⟩;rw[ar];have a0:=dx (m:=m) om;have q:jl .i64 1 (m:Int)=((2^m:Nat):Int):=eh om;have r:D0.u64.wrap (m:Int)=(m:Int):=dm om;refine aa (FH m om) ?_;rw[zjl];refine aR (aa (cj _ o K) ?_);refine aR ?_;refine az (λ(w:Nat)s=>(s.sl 1=al d/\s.sl 2=.ref 2 1 0/\s.rw 2=⟨1,.box 26 [al (m:Nat),aE o]⟩/\s.sl 5=.own 27 1/\s.sl 6=dv (bA (ao o) 64:Nat)/\s.sl 7=al w)/\(w<=2^m/\TabI s.rw 27 1 24 3 (lc (m+1)) (qG (ao o) d m w))) (λw=>2^m-w) (0) ⟨nm,⟨aB _,TabI.adopt (d:=27) (by simp only[iW];rfl) (λx=>by simp only[iW];rfl) (λi hi=>gl) gl cX⟩⟩ ?_;intro w sb ⟨D,L⟩;obtain⟨hw,F⟩:=L;refine iD D q r ?_;refine⟨λN=>aa (dy _) ?_,λN=>?_⟩;have z:w<64:=om;have V:=jb z;refine ox D q r V (aa (vC (ao o) w z) ?_);refine ox D q r V (aa (sv _ d A) ?_);have B:(λt=>ao o t&&eG w t)=mZ (ao o) w:=rfl;rw[B];have a1:=zbv (n:=m) om N;have G:=AJ (mZ (ao o) w) d;have a2:=eD (mZ (ao o) w);have O:=df (mZ (ao o) w) d;generalize P:ed (mZ (ao o) w) d=b at *;have f:=λk=>WC (j:=aQ w) (WD (ao o) d m w) G k;refine iD D q r ?_;refine az (λ((k,u):Nat×Nat) s=>(s.sl 1=al d/\s.sl 2=.ref 2 1 0/\s.rw 2=⟨1,.box 26 [al (m:Nat),aE o]⟩/\s.sl 5=.own 27 1/\s.sl 6=dv (bA (ao o) 64:Nat)/\s.sl 7=al w/\s.sl 8=al (aQ w:Nat)/\s.sl 44=.own 44 u/\s.rw 44=⟨u,.sli 3 1 l0 (iL b)⟩/\s.sl 45=al (lh b)/\s.sl 46=al k)/\(k<=lh b/\TabI s.rw 27 1 24 3 (lc (m+1)) (qF (qG (ao o) d m w) (aQ w) b k))) (λ(k,u)=>lh b-k) ((0,(sb.rw 44).ver+1)) ⟨(jX D),⟨om,F.same gl (λx=>gl)⟩⟩ ?_;intro(k,u) sc ⟨C,Q⟩;obtain⟨hk,c⟩:=Q;by_cases y:k<lh b;by_cases I:k<=aQ w;have f:=f k;have a3:=f.small (aQ w-k) (aQ w);have a4:=G k;have a5:=f.len;have R:=f.row (aQ w-k) om;have g:qF (qG (ao o) d m w) (aQ w) b (k+1)=JA (qF (qG (ao o) d m w) (aQ w) b k) (aQ w-k) (aQ w) (lg b k 0):=by rw[qF,ae I]
 generalize qF (qG (ao o) d m w) (aQ w) b k=M at *;have J:lg (lc (m+1)) (aQ w-k) 0=aQ w-k:=zm9 om;have l:=c.row (i:=aQ w-k) om;rw[J]at l;have S:D0.i64.wrap ((aQ w:Int)-(k:Int))=((aQ w-k:Nat):Int):=by rw[aF om om];omega
 have U:D0.i64.wrap (lg (lg M (aQ w-k) []) (aQ w) 0+lg b k 0)=lg (lg M (aQ w-k) []) (aQ w) 0+lg b k 0:=aF om om;simp only[↓gp,gq,simprocAttr,gT,C,S,c.top,uw,J,l,R,bP,bp,U];refine⟨λ_=>⟨y,y,λ_=>⟨om,om,om,om,om,om,?_⟩,λh=>absurd I h⟩,λh=>absurd y h⟩;exact ah ((k+1,u)) ⟨(gE C (ak y om)),⟨by dsimp only;omega,by
  dsimp only;rw[g];exact c.set (i:=aQ w-k) om gl (xr4 J C @c.top l) (λx hx=>by simp only[gr,simprocAttr,J ▸ hx])⟩⟩
 have g:qF (qG (ao o) d m w) (aQ w) b (k+1)=qF (qG (ao o) d m w) (aQ w) b k:=by rw[qF,ac I]
 refine cZ C ?_;refine⟨λ_=>⟨y,y,λh=>absurd h I,λ_=>?_⟩,λh=>absurd y h⟩;exact ah ((k+1,u)) ⟨(gE C (ak y om)),⟨by dsimp only;omega,by
  dsimp only;rw[g];exact c.same gl (λx=>gl)⟩⟩
 have e:qF (qG (ao o) d m w) (aQ w) b k=qG (ao o) d m (w+1):=by have e0:qG (ao o) d m (w+1)=qF (qG (ao o) d m w) (aQ w) (ed (mZ (ao o) w) d) (cv (mZ (ao o) w)):=rfl;rw[e0,<- O,P,show k=lh b by omega]
 rw[e]at c;refine cZ C ?_;refine⟨λh=>absurd h y,λ_=>?_⟩;exact ah (w+1) ⟨(fB D C (ak N om)),⟨om,c.same gl (λx=>gl)⟩⟩;have:w=2^m:=om;subst this;exact uR F dc (λj hj=>by have:=List.mem_range.1 hj;omega);rw[Fw (λh=>by have:=(fR.1 h.1).2;simp at E;rw[E]at this;simp at this)];exact yR gl dc;rw[Fw (λh=>by have:=(fR.1 h.1).1;rw[this]at H;cases H)];exact yR gl dc
theorem zhy:SqB (CT p o d):=by unfold CT;split;rename_i h;have⟨b,c,_⟩:=cY.1 (fR.1 h.1).1;exact .of (zqA _ d om) om;exact .nil
theorem zbw(M:fG):(M.map iL).map (λr=>PV.sl l0 1 r)=mF M:=by rw[fj];rfl
theorem CQ:AC prog 307 [.ag [al p,aE o],al d] (.fr 24 1 (mF (CT p o d))):=zbw _ ▸ (Fy p o d).flat
theorem CR:AC prog 135 [.ag [al p,aE o],al d] (.fr 24 1 (mF (CT p o d))):=zbw _ ▸ (Fv p o d).flat
end Go.Proofs.YtijabbemjaioeaaGreatDoor
