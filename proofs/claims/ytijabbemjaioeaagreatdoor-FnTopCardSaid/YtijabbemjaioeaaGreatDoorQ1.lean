/- DERIVED by an AI agent. -/
import Derived.Test.YtijabbemjaioeaaGreatDoorB1
import Derived.Test.YtijabbemjaioeaaGreatDoorP1
set_option linter.all false
namespace Go.Proofs.YtijabbemjaioeaaGreatDoor
open Bool renaming true→k0,false→l0
open Go renaming IntKind→D0
open List renaming range→lc,replicate→ld,getD→lg,length→lh
open Nat renaming reduceEqDiff→lj,reduceMod→lk,reduceAdd→ll,reduceLT→lm,reduceLeDiff→lp,reduceSub→lr,reduceMul→lu,reduceBEq→lw
open Int renaming reduceToNat→lz,reduceLE→lA,reduceLT→lB,reduceNeg→lC
open Go.Proofs.Tryz
open Go.Abs
variable (a:N0)(M:fG)(n:Nat)(s:Nat)(p:Int)(b:N0)(k:Int)(i:Nat)(h:Int){l:N0}{x:Int}{j:Nat}{c:O0}{f:V0}{d:fG}
def zkA(a b:Int):Int:=if a<b then -1 else if b<a then 1 else 0
theorem yq:AC prog 316 [al p] (.im (aU l0)):=by refine cA [.tmp 2] func316 λ_=>?_;refine aR ?_;simp
theorem Qb:AC prog 278 [al p,al k] (.im (al (zkA p k))):=by refine cA [.tmp 4] func278 λ_=>?_;refine aR<|aa (yq p) ?_;refine aR<|aa (yq k) ?_;refine aR ?_;unfold zkA;omega
theorem fe:AC prog 33 [al p,al k,al h] (.im (aU (decide (k<=p)&&decide (p<=h)))):=by refine cA [.tmp 6] func33 λ_=>?_;refine aR ?_;grind
def ut:N0->N0->Bool
 | [],_=>l0
 | _::_,[]=>l0
 | a::c,b::d=>if a=b then ut c d else decide (a<b)
def Ye:N0->N0->Int
 | [],[]=>0
 | [],_::_=>-1
 | _::_,[]=>1
 | a::c,b::d=>if zkA a b=0 then Ye c d else zkA a b
theorem Qf:AC prog 238 [aE a,aE b] (.im (aU (ut a b))):=by refine cA _ func238 λf=>?_;simp[dt,ga]at f;simp -dsimp[↓gp];refine az (λ(i:Nat)s=>s.sl 0=aE a/\s.sl 1=aE b/\s.sl 5=al i/\i<=lh a/\ut a b=ut (a.drop i) (b.drop i)) (λi=>lh a-i) 0 ⟨rfl,rfl,rfl,sp,sp⟩ ?_;intro i l ⟨g,j,k,m,d⟩;simp only[d,↓gp,gq,simprocAttr,gT,g,j,k];refine⟨λh=>⟨λc=>⟨kr,h,h,c,c,λe=>⟨kr,h,h,c,c,?_⟩,λe=>?_⟩,λc=>?_⟩,λh=>?_⟩;rw[kp 0 h,kp 0 c];simp_all[ut];refine ah _ ⟨by simp[gr,g],by simp -dsimp[gr,j],by simp only[gr];rw[ak h f.1],h,?_⟩ om;rw[kp 0 h,kp 0 c];simp_all[ut];rw[eI<|show (lh b)<=i by omega];cases a.drop i<;>rfl;rw[eI<|om];rfl
theorem GN:AC prog 193 [aE a,aE b] (.im (al (Ye a b))):=by refine cA [.tmp 4] func193 λm=>?_;simp[dt,ga]at m;simp[↓gp,gq,simprocAttr,gT];refine az (λ(i:Nat)s=>s.sl 0=aE a/\s.sl 1=aE b/\s.sl 9=aE a/\s.sl 10=al _/\s.sl 11=al i/\i<=lh a/\i<=lh b/\Ye a b=Ye (a.drop i) (b.drop i)) (λi=>lh a-i) 0 ⟨rfl,rfl,rfl,rfl,rfl,sp,sp,sp⟩ ?_;intro i o ⟨g,j,k,c,d,p,n,e⟩;simp only[e,↓gp,gq,simprocAttr,gT,g,j,k,c,d];refine⟨λh=>⟨h,h,λf=>?_,λf=>⟨om,om,aa (Qb _ _) ?_⟩⟩,λh=>⟨λf=>?_,λf=>?_⟩⟩;rw[kp 0 h,eI f];rfl;simp -dsimp[↓gp,gq,simprocAttr,gT,d];refine⟨λl=>?_,λl=>?_⟩;rw[kp 0 h,kp 0<|show i<lh b by omega];simp_all[Ye,l];refine ah _ ⟨by simp -dsimp only[gr,simprocAttr,g],by simp[gr,j],by simp -dsimp[gr,simprocAttr,k],by simp -dsimp[gr,lj,c],by simp -dsimp only[gr];rw[ak h m.1],h,om,?_⟩ om;rw[kp 0 h,kp 0<|show i<lh b by omega];simp_all[Ye,l];rw[eI<|by omega,kp 0<|by omega];rfl;rw[eI<|by omega,eI<|by omega];rfl
theorem DS:AC prog 311 [al p,al k] (.im (al (max p k))):=by refine cA [.tmp 4] func311 λc=>?_;refine aR ?_;grind
theorem ey(h:n<9223372036854775808):AC prog 37 [al n] (.im (al (aQ n:Nat))):=by refine cA _ func37 λj=>?_;simp[↓gp];refine az (λ(x:Nat×Nat)s=>s.sl 0=al x.1/\s.sl 3=al x.2/\x.1<=n/\x.2+aQ x.1=aQ n) (λx=>x.1) (n,0) ⟨gl,rfl,sp,sp⟩ ?_;intro⟨m,a⟩ k ⟨d,e,f,b⟩;have g:=zp2 n;simp only[↓gp,gq,simprocAttr,d,e,zme<|show m<9223372036854775808 by omega,za4];refine⟨λi=>?_,λi=>?_⟩;rw[Fe om]at b;refine ah (m/2,a+m%2) ⟨gl,?_,om,by grind⟩<|om;rw[aF om om];rfl;simp_all[kq]
theorem mf{s:Int}(a:0<=s)(h:s<9223372036854775808):AC prog 37 [al s] (.im (al (aQ s.toNat:Nat))):=by obtain⟨m,rfl⟩:=ca a;exact ey m om
theorem Cm[aw](n:Nat)(h:n<64):AC prog 318 [dv n] (.im (al (aQ n:Nat))):=by refine cA [.tmp 2] func318 λa=>?_;refine aR ?_;clear a;obtain⟨m,rfl⟩:∃m:Fin 64,m.val=n:=⟨⟨n,h⟩,rfl⟩;revert m;decide +kernel
theorem GM[aw](n:Nat)(h:n<64):AC prog 279 [dv n] (.im (al (aQ n:Nat))):=by refine cA [.tmp 2] func279 λa=>?_;refine aR<|aa (Cm n h) ?_;exact ef
theorem eR[aw](n s:Int):AC prog 146 [al n,al s] (.im (aU (di n s))):=by refine cA _ func146 λd=>?_;simp[↓gp,gq,gT,di];refine⟨λa=>⟨λb=>⟨λc=>?_,λc=>om⟩,λb=>om⟩,λa=>om⟩;obtain⟨m,rfl⟩:=ca a;rw[mJ om,eh om];grind
theorem ro:AC prog 31 [al p,al k] (.im (aU (di p k))):=by
 refine cA [.tmp 4] func31 λf=>?_;refine aR<|aa (fe _ _ _) ?_;refine aR ?_;refine⟨λh=>?_,λh=>?_⟩;simp[bT]at h;obtain⟨a,c⟩:=h;obtain⟨m,rfl⟩:=ca a;have d:=dx (m:=m) om;have e:di m k=decide (0<=k/\k<(2^m:Nat)):=by rw[di];grind
 rw[e,mJ om,eh om];generalize 2^m=q at d;rw[aF om om];refine⟨om,aa (fe _ _ _) ?_⟩;refine aR ?_;grind;refine aD λb=>?_;grind
def qN(s:Int):Int:=if 0<=s/\s<64 then(aQ s.toNat:Nat)else -1
theorem Vv:di 6 p=decide (0<=p/\p<64):=by simp[di]
theorem dy[aw](s:Int):AC prog 199 [al s] (.im (al (qN s))):=by
 refine cA [.tmp 2] func199 λa=>?_;refine aR ?_;refine aa (eR _ _)<|cZ @Vv ?_;refine⟨λh=>?_,λh=>?_⟩;have h:¬(0<=s/\s<64):=by grind
 rw[qN,ac h];have h:=ss h;obtain⟨m,rfl⟩:=ca h.1;rw[mJ om];refine aa (GM m om)<|aR ?_;simp[qN,h]
def rQ(a b:Int):Bool:=decide (0<=a/\a<64)&&(decide (0<=b/\b<64)&&(if qN a=qN b then decide (a<b)else decide (qN a<qN b)))
theorem ur[aw](a b:Int):AC prog 210 [al a,al b] (.im (aU (rQ a b))):=by
 refine cA [.tmp 4] func210 λf=>?_;refine aR ?_;refine aa (eR _ _)<|cZ @Vv ?_;unfold rQ;refine⟨λh=>aa (eR _ _) ?_,λh=>?_⟩;refine cZ @Vv ?_;refine⟨λc=>?_,λc=>?_⟩;grind;refine aa (dy a)<|aR ?_;refine aa (dy b)<|aR ?_;refine⟨λd=>aa (dy a) ?_,λd=>?_⟩;refine aR<|aa (dy b) ?_;refine aR ?_;grind;grind;grind
theorem zje:0<=fu .i64 p 255/\fu .i64 p 255<256:=by
 have a:(BitVec.ofInt 64 (255:Int)).toNat=255:=dc;have e:fu .i64 p 255=D0.i64.wrap (((BitVec.ofInt 64 p&&&BitVec.ofInt 64 255).toNat:Nat):Int):=rfl;have:(BitVec.ofInt 64 p&&&BitVec.ofInt 64 255).toNat<=255:=by rw[kG,a];exact wq
 rw[e,aF om om];omega
abbrev TC:TypeId:=64
def zwc(P:Int->Prop)(rv:RV):Prop:=∃x,rv=.im (al x)/\P x
def Ep(h:Int):Int:=D0.i64.wrap (D0.i64.wrap (h*6364136223846793005)+1442695040888963407)
theorem Sv:zd0 prog 15 TC a:=by
 refine Sx [.tmp 2] func15 λd _ s e g=>?_;simp only[dt,dT,dF]at d;have c:a.length<=9223372036854775807:=by have:=d.1;simpa[kL]using this
 refine iD e g @RC ?_;refine az (λ(j:Nat×Int)s=>match j with|(i,h)=>(s.sl 0=.sl l0 1 (kL .u8 a)/\s.sl 3=al h/\s.sl 4=al i)/\(i<=a.length)) (λ(i,h)=>a.length-i) ((0,D0.i64.wrap (26583+(a.length:Int)))) ⟨(jX e),sp⟩ ?_;intro(i,h) n ⟨f,k⟩;refine cZ f ?_;have l:∀b:i<a.length,D0.i64.wrap ((i:Int)+1)=((i+1:Nat):Int):=λb=>ak b c;refine⟨λb=>⟨λm=>⟨b,b,?_⟩,λm=>?_⟩,λb=>?_⟩;exact ah ((i+1,fu .i64 (D0.i64.wrap (D0.i64.wrap (D0.i64.wrap (h*131)+D0.i64.wrap (a.getD i 0))+7)) 1073741823)) ⟨(gE f (l b)),by dsimp only;omega⟩;exact⟨31,_,h,rfl,by simp -dsimp only[gr,simprocAttr];rfl⟩;exact⟨31,_,h,rfl,by simp -dsimp only[gr,simprocAttr];rfl⟩
def ZK(a:N0)(i:Nat)(h:Int):Int :=
 if i<a.length then fu .i64 (D0.i64.wrap (fu .i64 (zl4 .i64 (wH .i64 (Ep h) 33) (wH .i64 (Ep h) 45)) 255+D0.i64.wrap (lg a i 0))) 255
 else fu .i64 (zl4 .i64 (wH .i64 (Ep h) 33) (wH .i64 (Ep h) 45)) 255
def IN(a:N0)(i:Nat):Nat:=if i<a.length then i+1 else i
theorem Ja:0<=ZK a n p/\ZK a n p<256:=by unfold ZK;split<;>exact zje _
set_option maxRecDepth 100000 in
theorem RX(f:a.length<=9223372036854775806):Mb prog 94 TC a [] λi h=>(.int .i64 (ZK a i h),IN a i,Ep h):=by
 intro i h;refine Sx [.tmp 2] func94 λk _ s g d=>?_;have c:s.rw 1000000=⟨1,.box TC [.sl l0 1 (kL .u8 a),al i,al h]⟩:=by rw[d];rfl
 have e:s.rw 1000500=⟨0,.dead⟩:=by rw[d];rfl
 refine ff g c ?_;refine⟨kr,kr,λb=>⟨kr,b,b,?_⟩,λb=>?_⟩;have j:D0.i64.wrap ((i:Int)+1)=((i+1:Nat):Int):=ak b om;rw[j];refine⟨by simp only[ZK,ae b];rfl,?_,by simp -dsimp only[gr,simprocAttr,e]⟩;simp -dsimp only[gr,simprocAttr,c];simp only[IN,ae b];rfl;refine⟨by simp only[ZK,ac b];rfl,?_,by simp -dsimp only[gr,simprocAttr,e]⟩;simp -dsimp only[gr,simprocAttr,c];simp only[IN,ac b];rfl
def zfe(n x:Int):Prop:=0<=x/\(x<n\/(n<=0/\x=0))
theorem zcL{n:Int}(a:0<x)(b:0<=n):zfe x (n.tmod x):=by rw[mL b];exact⟨jr _ om,.inl (ji _ a)⟩
theorem Ey{n:Nat}(c:0<n)(a:zfe n x):∃m:Nat,x=m/\m<n:=by obtain⟨d,b|⟨b,e⟩⟩:=a;exact⟨x.toNat,om,om⟩;omega
def Sa(a:N0)(n:Int)(i:Nat)(h:Int):Value×Nat×Int :=
 if n<=0 then(.int .i64 0,i,h)
 else if n<=256 then(.int .i64 ((ZK a i h).tmod n),IN a i,Ep h)
 else(.int .i64 ((ZK a i h*16777216+ZK a (IN a i) (Ep h)*65536+ZK a (IN a (IN a i)) (Ep (Ep h))*256+ZK a (IN a (IN a (IN a i))) (Ep (Ep (Ep h)))).tmod n),IN a (IN a (IN a (IN a i))),Ep (Ep (Ep (Ep h))))
theorem zdK:zwc (zfe p) (.im (.v (Sa a p i h).1)):=by unfold Sa;have c:=Ja a i h;have d:=Ja a (IN a i) (Ep h);have e:=Ja a (IN a (IN a i)) (Ep (Ep h));have f:=Ja a (IN a (IN a (IN a i))) (Ep (Ep (Ep h)));split;rename_i b;exact⟨0,rfl,oE _,.inr ⟨b,rfl⟩⟩;split;exact⟨_,rfl,zcL om om⟩;exact⟨_,rfl,zcL om om⟩
theorem Eo:∃(x:Int)(j:Nat)(g:Int),Sa a p i h=(.int .i64 x,j,g)/\zfe p x:=by
 obtain⟨x,n,c⟩:=zdK a p i h;injection n with n
 injection n with n
 exact⟨x,(Sa a p i h).2.1,(Sa a p i h).2.2,by rw[<- n],c⟩
theorem yx:plain [al p]:=λn a=>by rw[List.mem_singleton.1 a];rfl
set_option maxRecDepth 100000 in
theorem kb(g:a.length<=9223372036854775806)(n:Int)(D:n<=1000000):Mb prog 41 TC a [al n] (Sa a n):=by
 intro i h;refine Sx [.tmp 4] func41 λE _ s c l=>?_;have b:s.rw 1000000=⟨1,.box TC [.sl l0 1 (kL .u8 a),al i,al h]⟩:=by rw[l];rfl
 have j:s.rw 1000500=⟨0,.dead⟩:=by rw[l];rfl
 have d:=RX a g;have e:plain []:=λ_ h=>absurd h sp;have F:=Ja a i h;have G:=Ja a (IN a i) (Ep h);have H:=Ja a (IN a (IN a i)) (Ep (Ep h));have I:=Ja a (IN a (IN a (IN a i))) (Ep (Ep (Ep h)));refine ff c b ?_;refine⟨λf=>?_,λf=>⟨λk=>?_,λk=>?_⟩⟩;unfold Sa;rw[ae f];exact⟨rfl,by simp -dsimp only[gr,simprocAttr,b]<;>rfl,by simp -dsimp only[gr,simprocAttr,j]⟩;refine lb d e (i:=i) (h:=h) (RB b) rfl ?_;refine ff c b ?_;unfold Sa;rw[ac f,ae k];exact⟨om,rfl,by simp -dsimp only[gr,simprocAttr,b]<;>rfl,by simp -dsimp only[gr,simprocAttr,j]⟩;refine lb d e (i:=i) (h:=h) (RB b) rfl ?_;refine ff c b ?_;refine lb d e (i:=IN a i) (h:=Ep h) (RB b) rfl ?_;refine ff c b ?_;refine lb d e (i:=IN a (IN a i)) (h:=Ep (Ep h)) (RB b) rfl ?_;refine ff c b ?_;refine lb d e (i:=IN a (IN a (IN a i))) (h:=Ep (Ep (Ep h))) (RB b) rfl ?_;generalize m:ZK a i h=x at *;generalize o:ZK a (IN a i) (Ep h)=y at *;generalize p:ZK a (IN a (IN a i)) (Ep (Ep h))=z at *;generalize q:ZK a (IN a (IN a (IN a i))) (Ep (Ep (Ep h)))=w at *;have r:D0.i64.wrap (x*16777216)=x*16777216:=aF om om;have t:D0.i64.wrap (y*65536)=y*65536:=aF om om;have u:D0.i64.wrap (x*16777216+y*65536)=x*16777216+y*65536:=aF om om;have A:D0.i64.wrap (z*256)=z*256:=aF om om;have B:D0.i64.wrap (x*16777216+y*65536+z*256)=x*16777216+y*65536+z*256:=aF om om;have C:D0.i64.wrap (x*16777216+y*65536+z*256+w)=x*16777216+y*65536+z*256+w:=aF om om;refine XO c b r t u A B C ?_;unfold Sa;rw[ac f,ac k,m,o,p,q];exact⟨om,rfl,by simp -dsimp only[gr,simprocAttr,b]<;>rfl,by simp -dsimp only[gr,simprocAttr,j]⟩
theorem Rz(b:lh a<=9223372036854775806)(n:Int)(c:n<=1000000):zqg prog 41 TC a ⟨0,.dead⟩ [al n] (zwc (zfe n)) :=
 (kb a b n c).toCur λi h=>zdK a n i h
def onF(a:N0)(n:Int)(i:Nat)(h:Int):Value×Nat×Int:=((match (Sa a n i h).1 with|.int _ x=>.bool (x==0)|_=>.bool l0),(Sa a n i h).2)
theorem RA(c:a.length<=9223372036854775806)(n:Int)(f:n<=1000000):Mb prog 96 TC a [al n] (onF a n):=by
 intro i h;refine Sx [.tmp 4] func96 λk _ s d e=>?_;have b:s.rw 1000000=⟨1,.box TC [.sl l0 1 (kL .u8 a),al i,al h]⟩:=by rw[e];rfl
 have g:s.rw 1000500=⟨0,.dead⟩:=by rw[e];rfl
 refine ff d b ?_;refine lb (kb a c n f) (yx n) (i:=i) (h:=h) (RB b) rfl ?_;unfold onF;obtain⟨y,j3,l,j,m⟩:=Eo a n i h;rw[j];refine ff d b ?_;exact⟨rfl,by simp -dsimp only[gr,simprocAttr,b]<;>rfl,by simp -dsimp only[gr,simprocAttr,g]⟩
theorem zuL:∃(x:Bool)(j:Nat)(g:Int),onF a p i h=(.bool x,j,g):=by obtain⟨y,j3,c,b,d⟩:=Eo a p i h;unfold onF;rw[b];exact⟨_,_,_,rfl⟩
def piF(a:N0)(l:N0)(i:Nat)(h:Int):Value×Nat×Int:=((match (Sa a (lh l) i h).1 with|.int _ x=>.int .i64 (lg l x.toNat 0)|_=>.int .i64 0),(Sa a (lh l) i h).2)
theorem zuN{l:N0}(b:0<lh l)(i:Nat)(h:Int):∃(x:Int)(j:Nat)(g:Int),piF a l i h=(.int .i64 x,j,g)/\x∈l:=by obtain⟨y,j3,f,c,d⟩:=Eo a (lh l) i h;obtain⟨m,rfl,e⟩:=Ey b d;unfold piF;rw[c];exact⟨_,_,_,rfl,aP 0 e⟩
theorem MD(c:a.length<=9223372036854775806)(l:N0)(d:0<l.length)(j:l.length<=1000000):zd5 prog 95 TC a 3 (iL l) (piF a l):=by
 intro i h;refine Sx [.tmp 4] func95 λp _ s f g=>?_;have b:s.rw 1000000=⟨1,.box TC [.sl l0 1 (kL .u8 a),al i,al h]⟩:=by rw[g];rfl
 have e:s.rw 1000500=⟨1,.sli 3 1 l0 (iL l)⟩:=by rw[g];rfl
 refine iD f b e ?_;refine lb (kb a c l.length om) (yx _) (i:=i) (h:=h) (RB b) rfl ?_;unfold piF;obtain⟨y,j3,q,k,n⟩:=Eo a l.length i h;obtain⟨m,rfl,o⟩:=Ey d n;rw[k];refine iD f b e ?_;exact⟨om,o,rfl,by simp -dsimp only[gr,simprocAttr,b]<;>rfl,by simp -dsimp only[gr,simprocAttr,e]<;>rfl⟩
theorem ez(a:n<18446744073709551616)(b:s<64):AC prog 147 [dv n,al s] (.im (aU (n.testBit s))):=by refine cA [.tmp 4] func147 λd=>?_;have c:D0.u64.wrap _=s:=dm om;exact DL c<|zmm a b
theorem lP(i:n<18446744073709551616):AC prog 206 [dv n] (.fr 3 1 (iL (bl (co n.testBit)))):=by
 refine cA [.tmp 2] func206 λq=>?_;refine aR ?_;refine az (λ((k,v):Nat×Nat) s=>(s.sl 0=dv n/\s.sl 3=.own 3 v/\s.rw 3=⟨v,.sli 3 1 l0 (iL (bl (oG n.testBit k 0)))⟩/\s.sl 4=al k)/\(k<=7)) (λ(k,v)=>7-k) ((0,1)) ⟨nm,sp⟩ ?_;intro(k,v) r ⟨e,l⟩;refine cZ e ?_;refine⟨λf=>?_,λf=>?_⟩;refine az (λ((m,v):Nat×Nat) s=>(s.sl 0=dv n/\s.sl 3=.own 3 v/\s.rw 3=⟨v,.sli 3 1 l0 (iL (bl (oG n.testBit k m)))⟩/\s.sl 4=al k/\s.sl 5=al m)/\(m<=64)) (λ(m,v)=>64-m) ((0,v)) ⟨(jX e),sp⟩ ?_;intro(m,v) t ⟨a,o⟩;refine cZ a ?_;refine⟨λb=>?_,λb=>?_⟩;have b:m<64:=om;refine aa (ez n m i b) ?_;refine cZ a ?_;have h:=Ob n.testBit k m;have p:qN (m:Int)=(aQ m:Nat):=by rw[qN,ae om];simp
 refine⟨λd=>aa (dy _) ?_,λd=>?_⟩;refine ff a p ?_;refine⟨λg=>?_,λg=>?_⟩;have c:oG n.testBit k (m+1)=oG n.testBit k m++[m]:=za9 (by rw[d];simp at g ⊢;omega);refine⟨by rw[ap];omega,?_⟩;exact ah ((m+1,v+1)) ⟨(DM a (ak b om) c @cI @jZ),om⟩;have c:oG n.testBit k (m+1)=oG n.testBit k m:=Lj (by rw[d];simp at g ⊢;omega);exact ah ((m+1,v)) ⟨(fB a (ak b om) c),om⟩;have c:oG n.testBit k (m+1)=oG n.testBit k m:=Lj (by rw[d];rfl);exact ah ((m+1,v)) ⟨(fB a (ak b om) c),om⟩;have:m=64:=om;subst this;have f:k<7:=om;exact ah ((k+1,v)) ⟨(rS e a (ak f om) @Hv),om⟩;have:k=7:=om;subst this;rw[Oa]
theorem gF(o:n<=6)(g:FuncId)(a:M0)(w:V0)(b:∀rw,a.map (gk rw 3)=a)(p:∀s:Nat,s<2^n->AC prog g (al s::a) (.im (aU (w s)))) :
 AC prog 119 [al n,.clo g a] (.im (dv (bA w (2^n):Nat))):=by
 refine cA [.tmp 4] func119 λx=>?_
 have q:=dx o
 have c:=eh o
 have d:D0.u64.wrap _=n:=dm om
 refine aR ?_
 refine az (λk s=>(s.sl 0=al n/\s.sl 1=.clo g a/\s.sl 5=dv (bA w k:Nat)/\s.sl 6=al k)/\(k<=2^n)) (λk=>2^n-k) (0) ⟨nm,sp⟩ ?_
 intro k y ⟨h,r⟩
 have t:=dj w k
 refine ox h d c b ?_
 refine⟨λi=>aa (p k i) ?_,λi=>?_⟩
 have e:D0.u64.wrap _=k:=dm om;have j:=by have:2^k<2^64:=bN om om;omega
 have f:EX .u64 (bA w k) (jl .u64 1 k)=((bA w k|||2^k:Nat):Int):=by rw[yU om,Ca om j]
 refine nN h d c e f ?_;refine⟨λl=>?_,λl=>?_⟩
 have m:bA w (k+1)=bA w k|||2^k:=by rw[bA,ae l]
 exact ah (k+1) ⟨(DM h (ak i om) e f m),om⟩
 have m:bA w (k+1)=bA w k:=by rw[bA,ac<|by grind]
 exact ah (k+1) ⟨(fB h (ak i om) m),om⟩
 grind
theorem zbz(h:j<lh c):c=c.take j++lg c j 0::c.drop (j+1):=by simp_all
theorem ny(h:j<lh c)(a:f (lg c j 0)=k0):(c.take (j+1)).filter f=(c.take j).filter f++[lg c j 0]:=by rw[bj 0 h];grind
theorem qv{p:V0}(h:j<lh c)(a:p (lg c j 0)=l0):(c.take (j+1)).filter p=(c.take j).filter p:=by rw[bj 0 h];grind
theorem OB:lh (c.filter f)<=lh c:=aO _ _
theorem HD(I:n<18446744073709551616):AC prog 291 [dv n] (.fr 3 1 (iL (bl (dI n.testBit l0)))):=by
 refine cA [.tmp 2] func291 λO=>?_;refine aR ?_;refine aa (lP n I) ?_;refine aR ?_;have y:=ordN_len n.testBit;have d:∀k,k<lh (co n.testBit)->lg (co n.testBit) k 0<64:=λk b=>(cR.1<|aP 0 b).1;have c:∀k,k<lh (co n.testBit)->co n.testBit=(co n.testBit).take k++lg (co n.testBit) k 0::(co n.testBit).drop (k+1):=λk b=>zbz b;have o:=λk b=>zdE<|c k b;unfold dI;generalize co n.testBit=all at *;refine az (λ((k,v,u):Nat×Nat×Nat) s=>(s.sl 3=.own 3 v/\s.rw 3=⟨v,.sli 3 1 l0<|iL<|bl<|(all.take k).filter<|iF n.testBit l0⟩/\s.sl 10=.own 10 u/\s.rw 10=⟨u,.sli 3 1 l0<|iL<|bl all⟩/\s.sl 11=al (lh all)/\s.sl 12=al k)/\(k<=lh all)) (λ(k,v,u)=>lh all-k) ((0,1,1)) ⟨(jX @ap),sp⟩ ?_;intro(k,v,u) P ⟨q,K⟩;refine ff q @ap ?_;refine⟨λb=>⟨b,b,?_⟩,λb=>?_⟩;have Q:=d k b;have z:lg (bl all) k 0=((lg all k 0:Nat):Int):=bX b;generalize a:(all.take k).filter (iF n.testBit l0)=out at *;have L:lh out<=k:=by rw[<- a];exact aJ OB<|by simp;omega
 have A:∀j,j<lh out->lg out j 0<64:=λj H=>by have:lg out j 0∈out:=aP 0 H;generalize out.getD j 0=x at *;rw[<- a]at this;obtain⟨i,F,rfl⟩:=eX 0 (jK (List.mem_filter.1 this).1);exact d i F
 refine az (λ(j:Nat)s=>(s.sl 3=.own 3 v/\s.rw 3=⟨v,.sli 3 1 l0<|iL<|bl out⟩/\s.sl 10=.own 10 u/\s.rw 10=⟨u,.sli 3 1 l0<|iL<|bl all⟩/\s.sl 11=al (lh all)/\s.sl 12=al k/\s.sl 5=al (lg all k 0:Nat)/\s.sl 6=aU l0/\s.sl 16=.own 3 v/\s.sl 17=al (lh out)/\s.sl 18=al j)/\(j<=lh out/\∀i,i<j->lg out i 0&&&all.getD k 0≠out.getD i 0)) (λj=>lh out-j) (0) ⟨(fB q z @ap),sp⟩ ?_;intro j R ⟨r,B⟩;obtain⟨H,f⟩:=B;refine ff r @ap ?_;have C:j<lh out->lg (bl out) j 0=((lg out j 0:Nat):Int):=λh=>bX h;have g:j<lh out->(gU .i64 (lg (bl out) j 0) ((lg all k 0:Nat):Int)=0↔out.getD j 0&&&all.getD k 0=lg out j 0):=λh=>by have:=A j h;rw[C h,fv om om,<- gW];omega
 have l:=o k b;rw[a]at l;refine⟨λm=>⟨m,m,λw=>?_,λw=>ah (j+1) ⟨(gE r<|ak m om),⟨om,λi F=>?_⟩⟩⟩,λm=>⟨om,?_⟩⟩;have D:iF n.testBit l0 (lg all k 0)=false:=l.1 ⟨_,aP 0 m,(g m).1<|beq_iff_eq.1 w⟩;have E:(all.take<|k+1).filter (iF n.testBit l0)=out:=by rw[qv b D,a]
 exact ah ((k+1,v,u)) ⟨(rS q r (ak b om) E),om⟩;rcases Nat.lt_succ_iff_lt_or_eq.1 F with F|rfl;exact f i F;intro e;rw[(g m).2 e]at w;simp at w;have D:iF n.testBit l0 (lg all k 0)=true:=by
  cases M:iF n.testBit l0 (lg all k 0)with
  | true=>rfl
  | false =>obtain⟨t,N,G⟩:=l.2 M;obtain⟨i,F,rfl⟩:=eX 0 N;exact absurd G<|f i om
 have p:(all.take<|k+1).filter (iF n.testBit l0)=out++[lg all k 0]:=by rw[ny b D,a]
 exact ah ((k+1,v+1,u)) ⟨(xc6 q r (ak b om) p @cI @jZ),om⟩;have:k=lh all:=om;subst this;rw[av]
noncomputable def hU(a:N0)(s:Nat):Bool:=decide ((s:Int)∈a)
noncomputable def qb(a:N0)(k:Nat):List Bool:=(lc 64).map λs=>hU (a.take k) s
theorem ud:lh (qb a n)=64:=rfl
theorem zbA:ld 64 l0=qb a 0:=rfl
theorem zdW(h:j<lh l)(c:0<=lg l j 0/\l.getD j 0<64):(qb l j).set (lg l j 0).toNat k0=qb l (j+1):=by
 refine bE (by simp[qb]) λk d f=>?_;simp only[qb,fd,aM,bG];have e:hU (l.take<|j+1) k=(hU (l.take j) k||decide ((k:Int)=lg l j 0)):=by unfold hU;rw[bj 0 h,<- Bool.decide_or];exact decide_eq_decide.2<|by simp only[gG,fZ]
 grind
theorem kw(G:∀x∈a,0<=x/\x<64):AC prog 88 [aE a] (.fr 3 1 (iL (bl (co (hU a))))):=by
 refine cA [.tmp 2] func88 λE=>?_;simp only[dt,dT,dF,kQ,ga,cC]at E;simp (maxSteps:=9^7) -dsimp only[↓gp,gq,reduceCtorEq,lj,lm,lp,ll,lu,lr,lw,lz,lA,lB,lC,lk,gT];refine⟨dc,az (λ((k,v):Nat×Nat) s=>s.sl 0=aE a/\s.sl 3=.own 8 v/\s.rw 8=⟨v,.sli 4 1 l0 (bL (qb a k))⟩/\s.sl 4=al k/\(k<=lh a)) (λ(k,v)=>lh a-k) ((0,1)) (by refine⟨?_,?_,?_,?_,sp⟩<;>(first|(simp only[gr,simprocAttr,wv,zbA,lz];first|done|rfl|(simp;done))|assumption|rfl)) ?_⟩;intro(k,v) I ⟨j,l,n,o,J⟩;simp only[↓gp,gq,simprocAttr,gT,j,l,n,o,ud];refine⟨λi=>?_,λi=>?_⟩;have B:=G _ (aP 0 i);exact⟨i,i,om,om,om,ah ((k+1,v)) (by refine⟨?_,?_,?_,?_,om⟩<;>(first|(simp only[gr,simprocAttr,j,l,n,o,ak i E,zdW i B];first|done|rfl|(simp;done))|assumption|rfl)) (by first|omega|(simp only;omega)|(dsimp only;omega)|(show _<_;simp;omega))⟩;have:k=lh a:=om;subst this;have y:∀s,s<64->lg (qb a (lh a)) s l0=hU a s:=λs K=>by rw[fU l0 (by rw[ud];exact K)];simp[qb]
 have C:=ud a (lh a);generalize qb a (lh a)=row at *;refine az (λ((k,v,u):Nat×Nat×Nat) s=>s.sl 3=.own 8 u/\s.rw 8=⟨u,.sli 4 1 l0 (bL row)⟩/\s.sl 5=.own 21 v/\s.rw 21=⟨v,.sli 3 1 l0 (iL (bl (oG (hU a) k 0)))⟩/\s.sl 6=al k/\(k<=7)) (λ(k,v,u)=>7-k) ((0,(I.rw 21).ver+1,v)) (by refine⟨?_,?_,?_,?_,?_,sp⟩<;>(first|(simp only[gr,simprocAttr,j,l,n,o];first|done|rfl|(simp;done))|assumption|rfl)) ?_;intro(k,v,u) P ⟨p,q,r,h,t,M⟩;simp only[↓gp,gq,simprocAttr,gT,p,q,r,h,t];refine⟨λi=>?_,λi=>?_⟩;refine az (λ((m,v):Nat×Nat) s=>s.sl 3=.own 8 u/\s.rw 8=⟨u,.sli 4 1 l0 (bL row)⟩/\s.sl 5=.own 21 v/\s.rw 21=⟨v,.sli 3 1 l0 (iL (bl (oG (hU a) k m)))⟩/\s.sl 6=al k/\s.sl 7=al m/\(m<=64)) (λ(m,v)=>64-m) ((0,v)) (by refine⟨?_,?_,?_,?_,?_,?_,sp⟩<;>(first|(simp only[gr,simprocAttr,p,q,r,h,t];first|done|rfl|(simp;done))|assumption|rfl)) ?_;intro(m,v) Q ⟨c,d,e,b,f,g,O⟩;simp only[↓gp,gq,simprocAttr,gT,c,d,e,b,f,g,C];have F:=Ob (hU a) k m;refine⟨λw=>⟨om,om,?_⟩,λw=>?_⟩;have w:m<64:=om;rw[y m w];refine⟨λA=>aa (mf om om) ?_,λA=>?_⟩;simp only[↓gp,gq,simprocAttr,gT,c,d,e,b,f,g,ar];refine⟨λD=>?_,λD=>?_⟩;have z:oG (hU a) k (m+1)=oG (hU a) k m++[m]:=za9 (by rw[A];simp at D ⊢;omega);refine⟨by rw[ap];omega,?_⟩;exact ah ((m+1,v+1)) (by refine⟨?_,?_,?_,?_,?_,?_,om⟩<;>(first|(simp only[gr,simprocAttr,c,d,e,b,f,g,ak w om,z,cI,jZ];first|done|rfl|(simp;done))|assumption|rfl)) (by first|omega|(simp only;omega)|(dsimp only;omega)|(show _<_;simp;omega));have z:oG (hU a) k (m+1)=oG (hU a) k m:=Lj (by rw[A];simp at D ⊢;omega);exact ah ((m+1,v)) (by refine⟨?_,?_,?_,?_,?_,?_,om⟩<;>(first|(simp only[gr,simprocAttr,c,d,e,b,f,g,ak w om,z];first|done|rfl|(simp;done))|assumption|rfl)) (by first|omega|(simp only;omega)|(dsimp only;omega)|(show _<_;simp;omega));have z:oG (hU a) k (m+1)=oG (hU a) k m:=Lj (by rw[A];rfl);exact ah ((m+1,v)) (by refine⟨?_,?_,?_,?_,?_,?_,om⟩<;>(first|(simp only[gr,simprocAttr,c,d,e,b,f,g,ak w om,z];first|done|rfl|(simp;done))|assumption|rfl)) (by first|omega|(simp only;omega)|(dsimp only;omega)|(show _<_;simp;omega));have:m=64:=om;subst this;have i:k<7:=om;exact ah ((k+1,v,u)) (by refine⟨?_,?_,?_,?_,?_,om⟩<;>(first|(simp only[gr,simprocAttr,p,q,r,h,t,c,d,e,b,f,g,ak i om,Hv];first|done|rfl|(simp;done))|assumption|rfl)) (by first|omega|(simp only;omega)|(dsimp only;omega)|(show _<_;simp;omega));have:k=7:=om;subst this;rw[Oa]
theorem vz(g:Bool)(f:N0)(w:∀x∈f,0<=x/\x<64):AC prog 189 [aE f,aU g] (.fr 3 1 (iL (bl (dI (hU f) g)))):=by
 refine cA [.tmp 4] func189 λM=>?_;simp only[dt,dT,dF,kQ,ga,cC]at M;refine aR ?_;refine aa (kw f w) ?_;refine aR ?_;have H:=ordN_len (hU f);have b:∀t,t∈co (hU f)↔t<64/\hU f t=true:=λt=>cR;unfold dI;have F:∀s,s<64->(iF (hU f) g s=k0↔∀t,t∈co (hU f)->(if g=k0 then s&&&t=s else t&&&s=t)->t=s):=λs L=>by
  cases g with
  | true=>rw[ku];grind
  | false=>rw[so];grind
 generalize co (hU f)=all at *;have A:∀k,k<lh all->lg all k 0<64:=λk d=>((b _).1 (aP 0 d)).1;refine az (λ((k,v,u):Nat×Nat×Nat) s=>(s.sl 1=aU g/\s.sl 5=.own 13 u/\s.rw 13=⟨u,.sli 3 1 l0 (iL (bl all))⟩/\s.sl 6=.own 14 v/\s.rw 14=⟨v,.sli 3 1 l0 (iL (bl ((all.take k).filter (iF (hU f) g))))⟩/\s.sl 7=al k)/\(k<=lh all)) (λ(k,v,u)=>lh all-k) ((0,1,1)) ⟨nm,sp⟩ ?_;intro(k,v,u) U ⟨D,O⟩;refine ff D @ap ?_;have P:lh ((all.take k).filter (iF (hU f) g))<=k:=aJ OB (by simp;omega);refine⟨λd=>?_,λd=>?_⟩;have L:=A k d;refine az (λ((j,fine):Nat×Bool) s=>(s.sl 1=aU g/\s.sl 5=.own 13 u/\s.rw 13=⟨u,.sli 3 1 l0 (iL (bl all))⟩/\s.sl 6=.own 14 v/\s.rw 14=⟨v,.sli 3 1 l0 (iL (bl ((all.take k).filter (iF (hU f) g))))⟩/\s.sl 7=al k/\s.sl 8=aU fine/\s.sl 9=al j)/\(j<=lh all/\(fine=k0↔∀i,i<j->(if g=k0 then all.getD k 0&&&all.getD i 0=lg all k 0 else all.getD i 0&&&all.getD k 0=lg all i 0)->lg all i 0=lg all k 0))) (λ(j,fine)=>lh all-j) ((0,k0)) ⟨(jX D),sp⟩ ?_;intro(j,fine) V ⟨n,J⟩;obtain⟨W,o⟩:=J;have y:lg (bl all) k 0=((lg all k 0:Nat):Int):=bX d;have C:j<lh all->lg (bl all) j 0=((lg all j 0:Nat):Int):=λh=>bX h;have l:j<lh all->fu .i64 (lg (bl all) k 0) (lg (bl all) j 0)=((lg all k 0&&&all.getD j 0:Nat):Int):=λh=>by have:=A j h;rw[y,C h,ej om om]
 have p:j=lh all->(fine=k0↔iF (hU f) g (lg all k 0)=k0):=λh=>by rw[o,F _ L];exact⟨λa t B=>by obtain⟨i,E,rfl⟩:=eX 0 B;exact a i om,λa i E=>a _ (aP 0 om)⟩
 have q:j=lh all->fine=l0->iF (hU f) g (lg all k 0)=false:=λh r=>by
  grind
 have G:(if g=k0 then all.getD k 0&&&all.getD j 0=lg all k 0 else all.getD j 0&&&all.getD k 0=lg all j 0)->lg all j 0≠all.getD k 0->(l0=k0↔∀i,i<j+1->(if g=k0 then all.getD k 0&&&all.getD i 0=lg all k 0 else all.getD i 0&&&all.getD k 0=lg all i 0)->lg all i 0=lg all k 0):=λK c =>⟨λh=>(by cases h),λh=>absurd (h j om K) c⟩;have z:(¬(if g=k0 then all.getD k 0&&&all.getD j 0=lg all k 0 else all.getD j 0&&&all.getD k 0=lg all j 0)\/all.getD j 0=lg all k 0)->(fine=k0↔∀i,i<j+1->(if g=k0 then all.getD k 0&&&all.getD i 0=lg all k 0 else all.getD i 0&&&all.getD k 0=lg all i 0)->lg all i 0=lg all k 0):=λK=>by
  grind
 cases g with
 | true =>refine ff n @ap ?_;refine⟨λa=>⟨d,d,a,a,λc=>⟨λm=>ah ((j+1,fine)) ⟨(gE n (ak a om)),⟨om,z (.inl ?_)⟩⟩,λm=>ah ((j+1,l0)) ⟨(gE n (ak a om)),⟨om,G ?_ ?_⟩⟩⟩,λc=>ah ((j+1,fine)) ⟨(gE n (ak a om)),⟨om,z (.inr ?_)⟩⟩⟩,λa=>?_⟩;rw[l a,y]at m;simp only[eW];intro e;rw[e]at m;simp at m;rw[l a,y]at m;have:=beq_iff_eq.1 m;simp only[eW];omega;rw[y,C a]at c;intro e;rw[e]at c;simp at c;rw[y,C a]at c;have:=bne_eq_false_iff_eq.1 c;omega;refine⟨λr=>⟨d,d,om,?_⟩,λr=>?_⟩;have w:=(p om).1 r;exact ah ((k+1,v+1,u)) ⟨(xc7 D n (ak d om) (ny d w) @cI @jZ y),om⟩;have w:=q om r;exact ah ((k+1,v,u)) ⟨(rS D n (ak d om) (qv d w)),om⟩
 | false =>refine ff n @ap ?_;refine⟨λa=>⟨d,d,a,a,λc=>⟨λm=>ah ((j+1,l0)) ⟨(gE n (ak a om)),⟨om,G ?_ ?_⟩⟩,λm=>ah ((j+1,fine)) ⟨(gE n (ak a om)),⟨om,z (.inl ?_)⟩⟩⟩,λc=>ah ((j+1,fine)) ⟨(gE n (ak a om)),⟨om,z (.inr ?_)⟩⟩⟩,λa=>?_⟩;rw[l a,C a]at m;have:=beq_iff_eq.1 m;simp only[eP,gx];rw[cl];omega;rw[y,C a]at c;intro e;rw[e]at c;simp at c;rw[l a,C a]at m;simp only[eP,gx];intro e;rw[cl]at e;rw[e]at m;simp at m;rw[y,C a]at c;have:=bne_eq_false_iff_eq.1 c;omega;refine⟨λr=>⟨d,d,om,?_⟩,λr=>?_⟩;have w:=(p om).1 r;exact ah ((k+1,v+1,u)) ⟨(xc7 D n (ak d om) (ny d w) @cI @jZ y),om⟩;have w:=q om r;exact ah ((k+1,v,u)) ⟨(rS D n (ak d om) (qv d w)),om⟩
 have:k=lh all:=om;subst this;rw[av]
theorem pd(b:lh a<=1048576):AC prog 44 [aE a] (.fr 3 1 (iL a)):=by refine cA [.tmp 2] func44 λc=>?_;refine aR ?_;grind
theorem mO:AC prog 300 [aE a,al p] (.im (aU (decide (p∈a)))):=by refine cA [.tmp 4] func300 λf=>?_;simp[dt,dT,ga,kQ]at f;refine aR ?_;refine az (λ(k:Nat)s=>(s.sl 0=aE a/\s.sl 1=al p/\s.sl 5=al k)/\(k<=lh a/\∀i,i<k->lg a i 0≠p)) (λk=>lh a-k) 0 ⟨nm,sp⟩ ?_;intro k l ⟨g,e⟩;have⟨m,n⟩:=e;refine cZ g ?_;refine⟨λh=>⟨h,h,λc=>?_,λc=>ah _ ⟨(gE g<|ak h f),⟨om,λi d=>?_⟩⟩⟩,λh=>?_⟩;grind;grind;intro j;have⟨i,d,c⟩:=eX 0 j;grind
def idxOf(a:N0)(n:Int):Int:=if n∈a then(a.idxOf n:Nat)else -1
theorem znd(h:j<lh l)(c:lg l j 0=x)(b:∀i,i<j->lg l i 0≠x):idxOf l x=j:=by
 have g:=c ▸ aP 0 h;rw[idxOf,ae g];have k:=List.idxOf_lt_length_iff.2 g;have n:lg l (l.idxOf x) 0=x:=by grind
 rcases Nat.lt_trichotomy (l.idxOf x) j with d|e|f;grind;rw[e];have:=List.not_of_lt_findIdx f;grind
theorem OC:AC prog 313 [aE a,al p] (.im (al (idxOf a p))):=by refine cA [.tmp 4] func313 λg=>?_;simp[dt,dT,ga,kQ]at g;refine aR ?_;refine az (λ(k:Nat)s=>(s.sl 0=aE a/\s.sl 1=al p/\s.sl 7=al _/\s.sl 8=al k)/\(k<=lh a/\∀i,i<k->lg a i 0≠p)) (λk=>lh a-k) 0 ⟨nm,sp⟩ ?_;intro k m ⟨j,f⟩;have⟨o,n⟩:=f;refine cZ j ?_;refine⟨λh=>⟨h,h,λc=>znd h (by grind) n,λc=>ah _ ⟨(gE j<|ak h g),⟨om,λi d=>?_⟩⟩⟩,λh=>?_⟩;grind;unfold idxOf;grind
theorem tK:AC prog 274 [aE a,al p] (.im (aU (decide (p∈a)))):=by refine cA [.tmp 4] func274 λc=>?_;refine aR<|aa (OC a p) ?_;refine aR ?_;unfold idxOf;grind
theorem Kr{b:Int}(c:0<=x/\x<64)(d:0<=b/\b<64):AC prog 32 [al x,al b] (.im (aU (rQ x b))):=by refine cA [.tmp 4] func32 λf=>?_;refine aR<|aa (mf c.1 om) ?_;refine aR<|aa (mf d.1 om) ?_;refine aR ?_;unfold rQ qN;grind
def zvH(n:Int)(a:N0)(k:Nat):Prop:=di n (lg a k 0)=k0/\(0<k->rQ (lg a (k-1) 0) (lg a k 0)=k0)/\∀i,i<k->fu .i64 (lg a i 0) (lg a k 0)≠a.getD i 0
def cxP(n:Int)(a:N0):Prop:=1<=n/\n<=6/\∀k,k<lh a->zvH n a k
open Classical in
noncomputable def aS(n:Int)(a:N0):Bool:=decide (cxP n a)
open Classical in
theorem pc(h:¬cxP x l):aS x l=false:=aD h
open Classical in
theorem vA(h:cxP x l):aS x l=true:=ay h
open Classical in
theorem cY:aS x l=k0↔cxP x l:=aq
theorem bw:AC prog 10 [.ag [al p,aE b]] (.im (aU (aS p b))):=by
 refine cA [.tmp 2] func10 λu=>?_;simp only[dt,dT,dF,gb,jt,hZ,cC]at u;refine aR ?_;refine az (λ(k:Nat)s=>(s.sl 1=.ref 1 1 0/\s.rw 1=⟨1,.box 26 [al p,aE b]⟩/\s.sl 3=al k)/\(k<=lh b/\∀i,i<k->zvH p b i)) (λk=>lh b-k) (0) ⟨nm,sp⟩ ?_;intro k D ⟨m,w⟩;have⟨z,d⟩:=w;have t:D0.i64.wrap ((k:Int)-1)=(k:Int)-1:=aF om om;refine iD m t @oc ?_;refine⟨λh=>⟨kr,h,h,aa (ro _ _) ?_⟩,λh=>aa (fe _ _ _) ?_⟩;refine iD m t @oc ?_;refine⟨λe=>⟨λA=>⟨om,om,om,h,h,?_⟩,λA=>?_⟩,λe=>?_⟩;have e:di p (lg b k 0)=true:=by rwa [eZ]at e
 have B:=sj e;have x:=sj (d (k-1) om).1;refine aa (Kr x B) ?_;refine iD m t @oc ?_;refine⟨λa=>pc λg=>?_,λa=>?_⟩;have:=(g.2.2 k h).2.1 om;rw[this]at a;cases a;have a:0<k->rQ (lg b (k-1) 0) (lg b k 0)=true:=λ_=>by rwa [eZ]at a
 refine az (λ(i:Nat)s=>(s.sl 1=.ref 1 1 0/\s.rw 1=⟨1,.box 26 [al p,aE b]⟩/\s.sl 3=al k/\s.sl 4=al i)/\(i<=k/\∀j,j<i->fu .i64 (lg b j 0) (lg b k 0)≠b.getD j 0)) (λi=>k-i) (0) ⟨(jX m),sp⟩ ?_;intro i C ⟨o,n⟩;have⟨y,f⟩:=n;refine cZ o ?_;refine⟨λl=>⟨kr,om,om,h,h,om,om,λq=>?_,λq=>ah (i+1) ⟨(gE o<|ak l om),⟨om,λj c=>?_⟩⟩⟩,λl=>ah (k+1) ⟨(fB m o<|ak h u),⟨om,λj c=>?_⟩⟩⟩;exact pc λg=>(g.2.2 k h).2.2 i l<|ss q;rcases Nat.lt_succ_iff_lt_or_eq.1 c with c|rfl;exact f j c;simpa using q;rcases Nat.lt_succ_iff_lt_or_eq.1 c with c|rfl;exact d j c;exact⟨e,a,λi l=>f i om⟩;have e:di p (lg b k 0)=true:=by rwa [eZ]at e
 have a:0<k->rQ (lg b (k-1) 0) (lg b k 0)=true:=λh=>om;refine az (λ(i:Nat)s=>(s.sl 1=.ref 1 1 0/\s.rw 1=⟨1,.box 26 [al p,aE b]⟩/\s.sl 3=al k/\s.sl 4=al i)/\(i<=k/\∀j,j<i->fu .i64 (lg b j 0) (lg b k 0)≠b.getD j 0)) (λi=>k-i) (0) ⟨(jX m),sp⟩ ?_;intro i C ⟨o,n⟩;have⟨y,f⟩:=n;refine cZ o ?_;refine⟨λl=>⟨kr,om,om,h,h,om,om,λq=>?_,λq=>ah (i+1) ⟨(gE o<|ak l om),⟨om,λj c=>?_⟩⟩⟩,λl=>ah (k+1) ⟨(fB m o<|ak h u),⟨om,λj c=>?_⟩⟩⟩;exact pc λg=>(g.2.2 k h).2.2 i l<|ss q;rcases Nat.lt_succ_iff_lt_or_eq.1 c with c|rfl;exact f j c;simpa using q;rcases Nat.lt_succ_iff_lt_or_eq.1 c with c|rfl;exact d j c;exact⟨e,a,λi l=>f i om⟩;have e:di p (lg b k 0)=false:=by rwa [bC]at e
 exact pc λg=>by have:=(g.2.2 k h).1;rw[e]at this;cases this
 refine iD m t @oc ?_;by_cases r:1<=p/\p<=6;rw[vA ⟨r.1,r.2,λk z=>d k om⟩];simp[r.1,r.2];rw[pc λg=>r ⟨g.1,g.2.1⟩];symm;rw[er,bJ,bJ];omega
theorem CV:AC prog 122 [al p,aE b] (.im (aU (aS p b))):=by
 refine cA [.tmp 4] func122 λw=>?_;simp only[dt,dT,dF,kQ,ga,cC]at w;refine aR ?_;refine⟨λI=>⟨λJ=>pc λl=>by have:=l.2.1;omega,λJ=>?_⟩,λI=>pc λl=>by have:=l.1;omega⟩;refine az (λ(k:Nat)s=>(s.sl 0=al p/\s.sl 1=aE b/\s.sl 17=aE b/\s.sl 18=al (lh b)/\s.sl 19=al k)/\(k<=lh b/\∀i,i<k->di p (lg b i 0)=k0/\(0<i->rQ (lg b (i-1) 0) (lg b i 0)=k0))) (λk=>lh b-k) (0) ⟨nm,sp⟩ ?_;intro k N ⟨q,B⟩;have⟨g,c⟩:=B;have x:D0.i64.wrap ((k:Int)-1)=(k:Int)-1:=aF om om;refine iD q x @oc ?_;refine⟨λh=>⟨h,h,aa (eR _ _) ?_⟩,λh=>?_⟩;refine iD q x @oc ?_;refine⟨λr=>?_,λr=>⟨λK=>⟨om,om,om,aa (ur _ _) ?_⟩,λK=>?_⟩⟩;have r:di p (lg b k 0)=false:=by rwa [bC]at r
 exact pc λl=>by have:=(l.2.2 k h).1;rw[r]at this;cases this
 refine iD q x @oc ?_;refine⟨λy=>pc λl=>?_,λy=>ah (k+1) ⟨(gE q<|ak h w),⟨om,λj f=>?_⟩⟩⟩;have:=(l.2.2 k h).2.1 om;rw[this]at y;cases y;rcases Nat.lt_succ_iff_lt_or_eq.1 f with f|rfl;exact c j f;exact⟨by rwa [eZ]at r,λ_=>by rwa [eZ]at y⟩;refine ah (k+1) ⟨(gE q<|ak h w),⟨om,λj f=>?_⟩⟩;rcases Nat.lt_succ_iff_lt_or_eq.1 f with f|rfl
 exact c j f;exact⟨by rwa [eZ]at r,λ_=>om⟩;have n:∀i,i<lh b->di p (lg b i 0)=k0/\(0<i->rQ (lg b (i-1) 0) (lg b i 0)=k0):=λi C=>c i om;clear x c;have m:∀i j,i<lh b->j<lh b->(gU .i64 (lg b i 0) (lg b j 0)=0↔fu .i64 (lg b i 0) (lg b j 0)=lg b i 0):=λi j C f=>zba (sj (n i C).1)<|sj (n j f).1;refine az (λ(i:Nat)s=>(s.sl 1=aE b/\s.sl 41=aE b/\s.sl 42=al (lh b)/\s.sl 43=al i)/\(i<=lh b/\∀j k,j<i->j<k->k<lh b->fu .i64 (lg b j 0) (lg b k 0)≠b.getD j 0)) (λi=>lh b-i) (0) ⟨(jX q),sp⟩ ?_;intro i O ⟨D,E⟩;have⟨C,t⟩:=E;have u:i<lh b->D0.i64.wrap ((i:Int)+1)=((i+1:Nat):Int):=λh=>ak h w;refine cZ D ?_;refine⟨λd=>?_,λL=>vA ⟨om,om,λk g=>⟨(n k g).1,(n k g).2,λj f=>t j k om f g⟩⟩⟩;rw[u d];refine⟨d,d,om,om,?_⟩;refine az (λ(j:Nat)s=>(s.sl 1=aE b/\s.sl 41=aE b/\s.sl 42=al (lh b)/\s.sl 43=al i/\s.sl 8=al (lg b i 0)/\s.sl 51=aE (b.drop<|i+1)/\s.sl 52=al (lh b-(i+1):Nat)/\s.sl 53=al j)/\(j<=lh b-(i+1)/\∀k,k<j->fu .i64 (lg b i 0) (lg b (i+1+k) 0)≠b.getD i 0)) (λj=>lh b-(i+1)-j) (0) ⟨(jX D),sp⟩ ?_;intro j P ⟨F,G⟩;have⟨f,o⟩:=G;have M:∀j,lg (b.drop<|i+1) j 0=lg b (i+1+j) 0:=λj=>by simp[lg]
 simp only[↓gp,gq,simprocAttr,gT,F,M,wr];refine⟨λz=>⟨z,z,λA=>?_,λA=>ah (j+1) ⟨(gE F<|ak z om),⟨om,λk g=>?_⟩⟩⟩,λz=>ah (i+1) ⟨(fB D F<|u d),⟨om,λj k a g H=>?_⟩⟩⟩;refine pc λl=>(l.2.2 (i+1+j) om).2.2 i om<|(m i (i+1+j) d om).1<|ss A;grind;rcases Nat.lt_succ_iff_lt_or_eq.1 a with a|rfl;exact t j k a g H;have:=o (k-(j+1)) om;rwa [show j+1+(k-(j+1))=k by omega]at this
theorem zbC:rQ p p=false:=by simp[rQ]
theorem zdY{b c:Int}(d:rQ x b=k0)(e:rQ b c=k0):rQ x c=true:=by unfold rQ at *;grind
theorem HE(h:cxP x l):∀(j i:Nat),i<j->j<lh l->rQ (lg l i 0) (lg l j 0)=true:=by
 intro j;induction j with
 | zero=>simp
 | succ j d =>
   intro i b e;have c:=(h.2.2 _ e).2.1 om;rcases Nat.lt_succ_iff_lt_or_eq.1 b with b|rfl
   exact zdY (d i b om) c;grind
theorem FA(h:cxP x l):l.Nodup:=by refine List.pairwise_iff_getElem.2 λi j d c a e=>?_;have:=HE h j i a c;simp_all[zbC]
def sy(n s:Int):Int:=if di n s=k0 then 2^n.toNat-1-s else -1
theorem AK{s:Int}(h:di x s=k0):∃m t:Nat,x=m/\s=t/\m<=6/\t<2^m:=by unfold di at h;have h:=cH h;obtain⟨m,rfl⟩:=ca h.1;obtain⟨t,rfl⟩:=ca h.2.2.1;refine⟨m,t,rfl,rfl,om,?_⟩;have:=h.2.2.2;rw[iM]at this;omega
theorem Bn:AC prog 235 [al p,al k] (.im (al (sy p k))):=by
 refine cA [.tmp 4] func235 λc=>?_;refine aR<|aa (ro _ _) ?_;refine aR ?_;unfold sy;refine⟨λh=>?_,λh=>?_⟩;grind;have h:=by rwa [eZ]at h
 obtain⟨m,t,rfl,rfl,a,d⟩:=AK h;have b:=dx a;rw[ae h,mJ om,eh om,iM];generalize 2^m=q at *;refine⟨om,?_⟩;rw[aF (n:=q-1) om om,aF om om]
theorem zdX:∀m,m<7->∀t,t<64->t<2^m->((2^m-1) ^^^ ((2^m-1)&&&t))=2^m-1-t:=dc
theorem Bo:AC prog 273 [al p,al k] (.im (al (sy p k))):=by
 refine cA [.tmp 4] func273 λe=>?_;refine aR<|aa (eR _ _) ?_;refine aR ?_;unfold sy;refine⟨λh=>?_,λh=>?_⟩;grind;have h:=by rwa [eZ]at h
 obtain⟨m,t,rfl,rfl,a,b⟩:=AK h;have c:=dx a;rw[ae h,mJ om,eh om,iM];have d:=zdX m om t om b;generalize 2^m=q at *;rw[aF om om,show(q:Int)-1=(q-1:Nat)by omega,fv om om];omega
def Uk(l:N0):Prop:=∀b∈l,0<=b/\b<64
theorem nA(h:0<=x/\x<64):qN x=(aQ x.toNat:Nat):=by rw[qN,ae h]
theorem znc{p:Int->Bool}(h:j<lh l)(a:p (lg l j 0)=l0):l.all p=false:=by grind
theorem zhB{l:N0}{p:Int->Bool}(h:∀k,k<lh l->p (lg l k 0)=k0):l.all p=true:=by rw[aY];intro x a;obtain⟨i,b,rfl⟩:=eX 0 a;grind
theorem Uw(w:V0)(a:j<=6):bA w (2^j)<18446744073709551616:=by have c:=dj w<|2^j;have d:2^(2^j)<=2^64:=aV om<|dx a;omega
theorem znb{s:Nat}:hU (bl ((lc j).filter f)) s=(decide (s<j)&&f s):=by unfold hU bl;grind
def Uu(a:N0):Prop:=∀x∈a,0<=x/\x<64
theorem HC(h:Uu l){k:Nat}(b:k<lh l):0<=lg l k 0/\l.getD k 0<64:=h _<|aP 0 b
theorem dM(h:aS x l=k0):Uu l:=λa b=>by obtain⟨i,c,rfl⟩:=eX 0 b;exact sj ((cY.1 h).2.2 i c).1
theorem Uv(a:0<=x/\x<64)(b:j<64):(fu .i64 x (j:Int)==(j:Int))=(x.toNat&&&j==j):=by
 have e:x=x.toNat:=om;rw[e,ej om om];grind
theorem jB(j:Uu b)(l:i<64):AC prog 87 [.ag [al p,aE b],al i] (.im (aU (ao b i))):=by
 refine cA [.tmp 4] func87 λm=>?_;simp[dt,dT,gb,jt,hZ,kQ,cC]at m;refine aR ?_;refine az (λ(k:Nat)s=>(s.sl 1=al i/\s.sl 2=.ref 2 1 0/\s.rw 2=⟨1,.box 26 _⟩/\s.sl 5=al k)/\(k<=lh b/\∀n,n<k->((lg b n 0).toNat&&&i==i)=l0)) (λk=>lh b-k) (0) ⟨nm,sp⟩ ?_;intro k q ⟨o,e⟩;refine cZ o ?_;refine⟨λh=>⟨h,h,λc=>?_,λc=>ah _ ⟨(gE o<|ak h m),⟨om,λn d=>?_⟩⟩⟩,λh=>?_⟩;rw[Uv (HC j h) l]at c;exact eT.2 ⟨_,aP 0 h,ss c⟩;rw[Uv (HC j h) l]at c;grind;cases u:ao b i with
 | false=>rfl
 | true =>obtain⟨x,f,g⟩:=eT.1 u;obtain⟨n,d,rfl⟩:=eX 0 f;grind
noncomputable def ci(n:Int)(a:N0)(s:Nat):Bool:=aS n a&&ao a s
theorem pb(l:O0)(s:Nat):hU (bl l) s=decide (s∈l):=by
 unfold hU bl;grind
theorem CU{l:O0}(h:∀s∈l,s<64):∀x∈bl l,0<=x/\x<64:=λx a=>by obtain⟨s,b,rfl⟩:=List.mem_map.1 a;grind
theorem io:AC prog 36 [.ag [al p,aE b]] (.fr 3 1 (iL (bl (co (ci p b))))):=by
 refine cA [.tmp 2] func36 λr=>?_;refine aR ?_;have i:∀m,m=64->co (hU<|bl<|(lc m).filter<|ci p b)=co (ci p b):=λm d=>by refine mo λs j=>?_;rw[pb,d];cases h:ci p b s<;>simp[h,j]
 have n:∀m,m<=64->∀s∈(lc m).filter (ci p b),s<64:=λm d s j=>by have:=List.mem_range.1 (List.mem_filter.1 j).1;omega
 refine az (λ((m,v):Nat×Nat) s=>(s.sl 1=.ref 1 1 0/\s.rw 1=⟨1,.box 26 [al p,aE b]⟩/\s.sl 3=.own 5 v/\s.rw 5=⟨v,.sli 3 1 l0<|iL<|bl<|(lc m).filter<|ci p b⟩/\s.sl 4=al m)/\(m<=64)) (λ(m,v)=>64-m) ((0,1)) ⟨nm,sp⟩ ?_;intro(m,v) t ⟨c,g⟩;have k:lh ((lc m).filter<|ci p b)<=64:=by have:=aO (ci p b)<|lc m;rw[bp]at this;omega
 refine cZ c ?_;refine⟨λh=>aa (bw p b) ?_,λh=>?_⟩;refine cZ c ?_;have d:m<64:=om;refine⟨λf=>aa (jB p b m (dM f) d) ?_,λf=>aa (kw _<|CU<|n m g) ?_⟩;refine ff c @ap ?_;refine⟨λl=>?_,λl=>?_⟩;have e:(lc<|m+1).filter (ci p b)=(lc m).filter (ci p b)++[m]:=by rw[bW,aW];simp[ci,f,l]
 refine⟨om,?_⟩;exact ah ((m+1,v+1)) ⟨(DM c (ak d om) e @cI @jZ),by dsimp only;omega⟩;have e:(lc<|m+1).filter (ci p b)=(lc m).filter (ci p b):=by rw[bW,aW];simp[ci,f,l]
 exact ah ((m+1,v)) ⟨(fB c (ak d om) e),by dsimp only;omega⟩;refine cZ c ?_;have a:(lc m).filter (ci p b)=[]:=by rw[iO];intro s _;simp[ci,f]
 have q:co (ci p b)=co (hU<|bl []):=mo λs _=>by rw[pb];simp[ci,f]
 rw[a,q];have:m=64:=om;refine aa (kw _<|CU<|n m g) ?_;refine cZ c ?_;rw[i m this]
theorem OA(h:j<lh (co f)):lg (co f) j 0<64:=(cR.1<|aP 0 h).1
theorem sx:AC prog 183 [.ag [al p,aE b],al k] (.fr 3 1 (iL (bl ((co (ci p b)).filter λs=>(aQ s:Int)==k)))):=by
 refine cA [.tmp 4] func183 λo=>?_;refine aR<|aa (io p b) ?_;refine aR ?_;have f:=ordN_len<|ci p b;have c:∀i,i<lh _->lg (co<|ci p b) i 0<64:=λi h=>OA h;generalize co _=all at *;refine az (λ(i,v,u)s=>(s.sl 1=al k/\s.sl 5=.own 8 v/\s.rw 8=⟨v,.sli 3 1 l0<|iL<|bl<|(all.take i).filter λs=>(aQ s)==k⟩/\s.sl 6=.own 10 u/\s.rw 10=⟨u,.sli 3 1 l0<|iL<|bl all⟩/\s.sl 7=al i)/\(i<=lh all)) (λ(i,v,u)=>lh all-i) ((0,1,1)) ⟨nm,sp⟩ ?_;intro(i,v,u) a ⟨d,l⟩;have m:lh ((all.take i).filter λs=>(aQ s)==k)<=i:=by grind
 refine ff d @ap ?_;refine⟨λh=>?_,λh=>?_⟩;have q:=c i h;have n:=bX h;rw[n];refine⟨h,h,aa (ey _ om) ?_⟩;refine iD d @ap n ?_;refine⟨λg=>⟨h,h,om,?_⟩,λg=>?_⟩;have e:(all.take<|i+1).filter (λs=>(aQ s)==k)=(all.take i).filter _++[lg all i 0]:=ny h g;exact ah ((i+1,v+1,u)) ⟨(xc6 d (ak h om) e @cI @jZ n),om⟩;have e:(all.take<|i+1).filter (λs=>(aQ s)==k)=(all.take i).filter _:=qv h g;exact ah ((i+1,v,u)) ⟨(fB d (ak h om) e),om⟩;grind
theorem JB(f:V0)(k:Nat):(co f).filter (λs=>(aQ s:Int)==(k:Int))=cd f k 64:=by
 rw[<- Jx f k];grind
theorem nj:AC prog 183 [.ag [al p,aE b],al i] (.fr 3 1 (iL (bl (cd (ci p b) i 64)))):=by have:=sx p b i;rwa [JB]at this
theorem jY:AC prog 90 [al p] (.im (aU (lM p))):=by refine cA [.tmp 2] func90 λb=>?_;refine aR ?_;simp_all[lM]
theorem gB:AC prog 149 [al p] (.im (aU (lM p))):=by refine cA [.tmp 2] func149 λb=>?_;refine aR ?_;simp_all[lM]
theorem NY{a p:Int}(b:0<p):-p<a.tmod p/\a.tmod p<p:=⟨Int.lt_tmod_of_pos a b,Int.tmod_lt_of_pos a b⟩
theorem tZ(b:lM k=k0):AC prog 270 [al p,al k] (.im (al (p%k))):=by refine cA [.tmp 4] func270 λe=>?_;have b:=jy b;have f:=NY (a:=p) (om:0<k);have c:D0.i64.wrap _=p.tmod k+k:=aF om om;refine ff c (zha p k om) ?_;omega
theorem oS(d:0<k/\k<=5):AC prog 337 [al p,al k] (.im (al (p%k))):=by refine cA [.tmp 4] func337 λe=>?_;have f:=NY (a:=p) (om:0<k);have c:D0.i64.wrap _=p.tmod k+k:=aF om om;have b:=zha p k om;refine cZ c ?_;refine⟨om,λh=>?_,λh=>?_⟩;rw[<- b,mL om,jH om om];rw[<- b,mA om,Int.add_emod_right,jH om om]
theorem Ff{r b:Int}(h:b<x):nP x r b (x-b).toNat=if r*b%x=1 then b else nP x r (b+1) (x-(b+1)).toNat:=by have e:(x-b).toNat=(x-(b+1)).toNat+1:=om;rw[e,nP]
theorem Fg(e:lM k=k0):AC prog 312 [al p,al k] (.im (al (sk k p))):=by
 refine cA [.tmp 4] func312 λq=>?_;have j:=jy e;refine aR<|aa (jY k) ?_;refine cZ e ?_;have l:=ji p (om:0<k);refine az (λb s=>(s.sl 0=al p/\s.sl 1=al k/\s.sl 5=al b)/\(1<=b/\b<=k/\sk k p=nP k _ b (k-b).toNat)) (λb=>(k-b).toNat) 1 ⟨nm,⟨om,om,rfl⟩⟩ ?_;intro b r ⟨f,g⟩;have⟨t,m,i⟩:=g;refine cZ f ?_;refine⟨λh=>aa (tZ p k e) ?_,λh=>?_⟩;have n:0<=p%k*b/\p%k*b<=20:=by refine⟨kH (jr p om) om,?_⟩;have:=kI (show p%k<=4 by omega) om om om;omega
 have o:D0.i64.wrap _=p%k*b:=aF om om;have d:D0.i64.wrap _=b+1:=aF om om;simp only[↓gp,gq,simprocAttr,f,o,mL n.1];refine⟨om,λc=>?_,λc=>ah _ ⟨(gE f d),⟨om,om,?_⟩⟩⟩;have c:=beq_iff_eq.1 c;rw[i,Ff h,ae c];rw[i,Ff h,ac<|ss c];have:(k-b).toNat=0:=om;rw[i,this];rfl
theorem Fh(e:lM k=k0):AC prog 336 [al p,al k] (.im (al (sk k p))):=by
 refine cA [.tmp 4] func336 λq=>?_;have j:=jy e;refine aR ?_;refine aa (gB k)<|cZ e ?_;have l:=ji p (om:0<k);refine aa (oS p k<|om)<|aR ?_;refine az (λb s=>(s.sl 1=al k/\s.sl 5=al _/\s.sl 6=al b)/\(1<=b/\b<=k/\sk k p=nP k _ b (k-b).toNat)) (λb=>(k-b).toNat) 1 ⟨nm,⟨om,om,rfl⟩⟩ ?_;intro b r ⟨i,f⟩;have⟨t,m,g⟩:=f;have n:0<=p%k*b/\p%k*b<=20:=by refine⟨kH (jr p om) om,?_⟩;have:=kI (show p%k<=4 by omega) om om om;omega
 have o:D0.i64.wrap _=p%k*b:=aF om om;have d:D0.i64.wrap _=b+1:=aF om om;simp only[↓gp,gq,simprocAttr,i,o,mL n.1];refine⟨λh=>⟨om,λc=>?_,λc=>ah _ ⟨(gE i d),⟨om,om,?_⟩⟩⟩,λh=>?_⟩;have c:=beq_iff_eq.1 c;rw[g,Ff h,ae c];rw[g,Ff h,ac<|ss c];have:(k-b).toNat=0:=om;rw[g,this];rfl
theorem za6(h:j<lh l):lg (l.map λx=>x%p) j 0=lg l j 0%p:=by grind
theorem Ud(h:j<lh d):nw p (d.take j)++[(lg d j []).map λx=>x%p]=nw p (d.take (j+1)):=by simp[bj [] h,nw]
theorem BZ(h:j<=lh d):lh (nw p (d.take j))=j:=by simp_all[nw]
theorem uS(D:0<p/\p<=5)(J:lh M<=900)(z:∀i,i<lh M->lh (lg M i [])<=1000):AC prog 299 [hY M,al p] (.tb 24 3 ((nw p M).map iL)):=by
 refine cA [.tmp 4] func299 λK=>?_;refine aR ?_;refine⟨om,om,?_⟩;refine NV (k:=12) (v:=1) (e:=24) (e2:=3) (n:=lh M) gl (λj=>gl) (λ(i:Nat)s=>(s.sl 0=hY M/\s.sl 1=al p/\s.sl 5=.own 12 1/\s.sl 13=hY M/\s.sl 14=al (lh M)/\s.sl 15=al i)/\(i<=lh M/\TabP s.rw 12 1 24 3 (lh M) i (nw p (M.take i)))) (λi=>lh M-i) (0) (λE qw a f=>⟨(gE a f),⟨om,qw⟩⟩) ?_;intro i F ⟨A,B⟩;have⟨G,o⟩:=B;refine iD A @o.top @ik ?_;refine⟨λh=>⟨h,h,by have:=z i h;omega,by have:=z i h;omega,h,om,?_⟩,λh=>?_⟩;have H:=z i h;have b:=BZ p G;generalize u:lg M i []=row at *;refine TZ (k:=12) (v:=1) (e:=24) (e2:=3) (n:=lh M) (i:=i) (d:=24) (vd:=(F.rw 24).ver+1) (M:=nw p (M.take i)) (r:=ld (lh row) 0) (rp @o.top) b (λj q=>by simp only[gr,simprocAttr,o.row j q]) (λj q=>by simp only[gr,simprocAttr,o.rest j q]) gl dc dc h (λ(j:Nat)s=>(s.sl 0=hY M/\s.sl 1=al p/\s.sl 5=.own 12 1/\s.sl 13=hY M/\s.sl 14=al (lh M)/\s.sl 15=al i/\s.sl 6=al i/\s.sl 7=aE row/\s.sl 26=aE row/\s.sl 27=al (lh row)/\s.sl 28=al j)/\(j<=lh row/\TabP s.rw 12 1 24 3 (lh M) (i+1) (nw p (M.take i)++[pz (row.map λx=>x%p) (ld (lh row) 0) j]))) (λj=>lh row-j) (0) (λE qw a f=>⟨(fB a f A),⟨om,by rw[qB];exact qw⟩⟩) ?_;intro j L ⟨g,C⟩;have⟨q,c⟩:=C;have l:=c.row i om;rw[Ua b]at l;have w:∀t,lh (pz (row.map λx=>x%p) (ld (lh row) 0) t)=lh row:=λt=>by rw[mm sp];simp
 refine Cn g @c.top @Fb l w @ik ?_;refine⟨λm=>⟨m,m,kr,h,h,aa (oS _ p D) ?_⟩,λm=>?_⟩;refine Cn g @c.top @Fb l w @ik ?_;refine⟨m,om,kr,ah (j+1) ⟨(gE g (ak m om)),⟨om,?_⟩⟩⟩;have e:nw p (M.take i)++[pz (row.map λx=>x%p) (ld (lh row) 0) (j+1)]=(nw p (M.take i)++[pz (row.map λx=>x%p) (ld (lh row) 0) j]).set i ((pz (row.map λx=>x%p) (ld (lh row) 0) j).set j (lg row j 0%p)):=by rw[za0 b,<- tF sp (ss m),za6 p m]
 rw[e];exact c.set om (rp g) (rp g) (λx I=>by simp only[gr,simprocAttr,g,I]);have:j=lh row:=om;subst this;refine ah (i+1) ⟨(fB A g (ak h om)),⟨om,?_⟩⟩;have e:=by have:=tE (new:=row.map λx=>x%p) (old:=ld (lh row) 0) sp;simpa using this
 have y:=c;rw[e,<- u,Ud p h]at y;exact y.same gl (λx=>gl);have:i=lh M:=om;subst this;rw[av]at o;exact uR o.done dc (λj q=>by have:=List.mem_range.1 q;omega)
theorem AB{b p:Int}(d:0<=x/\x<p)(c:0<=b/\b<=5)(e:p<=5):0<=x*b/\x*b<=25:=by refine⟨kH d.1 c.1,?_⟩;have:=kI (show x<=5 by omega) c.2 c.1 om;omega
theorem zmf:pz a a n=a:=by simp[pz]
theorem Km(hp:lM h=k0)(hM:MatOk h n M)(k:s<lh M)(hc:i<n)(hn:n<=1000):AT prog 271 [.own 1000000 1,al s,al i,al h] 24 3 (M.map iL) ((od h s i M).map iL) .self:=by
 refine AT.goI (rs:=[.tmp 8]) tk mixed func271 rfl rfl rfl kr (gV h s i M) λhl p hs J ht=>?_;have V:=jy hp;have K:=hM.len s k;have L:=hM.res s k;have c0:=L i;have W:=ht.row k;have m:∀a,a<lh M->lg (lc<|lh M) a 0=a:=λa hi=>by simp[lg,hi]
 rw[m s k]at W;refine nN hs J @ht.top W (m s k) ?_;refine⟨k,k,om,om,aa (Fg _ h hp) ?_⟩;generalize hb:sk h (lg (lg M s []) i 0)=b at *;have X:=zg7 hp<|lg (lg M s []) i 0;rw[hb]at X;refine ff hs J ?_;generalize N:lg M s []=g at *;refine az (λ(j:Nat)p=>(p.sl 0=.own 1000000 1/\p.sl 1=al s/\p.sl 2=al i/\p.sl 3=al h/\p.sl 9=al b/\p.sl 10=al j)/\(j<=n/\TabI p.rw 1000000 1 24 3 (lc<|lh M) (M.set s<|pz (Gy h b g) g j))) (λj=>n-j) (0) ⟨(jX hs),⟨om,by rw[qB,<- N,lL];exact ht.same gl<|λx=>gl⟩⟩ ?_;intro j sa ⟨U,a5⟩;have⟨hj,w⟩:=a5;have O:s<(M.set s<|pz (Gy h b g) g j).length:=ss k;have Y:=w.row O;have a6:lh (pz (Gy h b g) g j)=n:=by rw[mm<|jO h b g];exact K
 rw[eO k,m s k]at Y;have a7:=Fi (jO h b g)<|ab j;have a8:=L j;have b0:=AB a8 ⟨X.1,om⟩ V.2;have hw:D0.i64.wrap (lg g j 0*b)=lg g j 0*b:=aF om om;simp only[↓gp,gq,simprocAttr,gT,U,w.top,Y,m s k,a6,a7,hw,mL b0.1];refine⟨k,k,λc=>⟨kr,k,k,k,k,c,c,om,c,om,kr,?_⟩,λc=>?_⟩;refine ah (j+1) ⟨(gE U<|ak c om),⟨om,?_⟩⟩;have e:M.set s (pz (Gy h b g) g<|j+1)=(M.set s<|pz (Gy h b g) g j).set s ((pz (Gy h b g) g j).set j<|lg g j 0*b%h):=by rw[Lg,<- tF (jO h b g) om,uT h b om]
 rw[e];refine w.set O (rp U) ?_<|λx Z=>?_;rw[m s k];simp only[gr,simprocAttr,U];rw[m s k]at Z;simp only[gr,simprocAttr,U,Z];have:j=n:=om;subst this;have a0:pz (Gy h b g) g j=Gy h b g:=by rw[<- K];exact tE<|jO h b g
 rw[a0]at w;have a1:M.set s (Gy h b g)=yT h s i M:=by unfold yT;rw[N,hb]
 rw[a1]at w;have z:=Wg (p:=h) (n:=j) (at':=s) (col:=i) om hM k;have b1:lh (yT h s i M)=lh M:=oA h s i M;have Q:od h s i M=mK h s i (yT h s i M) (lh M):=rfl;rw[Q];generalize yT h s i M=l at *;refine az (λ(a:Nat)p=>(p.sl 0=.own 1000000 1/\p.sl 1=al s/\p.sl 2=al i/\p.sl 3=al h/\p.sl 11=al a)/\(a<=lh M/\TabI p.rw 1000000 1 24 3 (lc<|lh M) (mK h s i l a))) (λa=>lh M-a) (0) ⟨(jX U),⟨om,by rw[Ue];exact w.same gl<|λx=>gl⟩⟩ ?_;intro a sb ⟨Hb,b2⟩;have⟨hi,y⟩:=b2;have b3:lh (mK h s i l a)=lh M:=by rw[jz,b1]
 refine ff Hb @y.top ?_;refine⟨λc=>?_,λc=>?_⟩;have q:a<lh l:=om;have a2:=y.row (i:=a) om;rw[AD h s i q<|ab a,m a c]at a2;have b4:=z.len a q;have A:=z.res a q;generalize r:lg l a []=d at *;refine ox Hb @y.top a2 (m a c) ?_;refine⟨c,c,om,om,?_⟩;have hf:=A i;generalize b5:lg d i 0=f at *;have B:s<lh l:=om;have u:lh (oF h s i l a)=lh d:=by rw[(Lh (p:=h) om z q).1,b4]
 refine az (λ(t:Nat)p=>(p.sl 0=.own 1000000 1/\p.sl 1=al s/\p.sl 2=al i/\p.sl 3=al h/\p.sl 11=al a/\p.sl 12=al f/\p.sl 13=al t)/\(t<=lh d/\TabI p.rw 1000000 1 24 3 (lc<|lh M) ((mK h s i l a).set a<|pz (oF h s i l a) d t))) (λt=>lh d-t) (0) ⟨(jX Hb),⟨om,(y.same gl<|λx=>gl).to<|by rw[qB,<- r,<- AD h s i q<|ab a,lL]⟩⟩ ?_;intro t sc ⟨F,b6⟩;have⟨c3,o⟩:=b6;have c4:lh ((mK h s i l a).set a<|pz (oF h s i l a) d t)=lh M:=by rw[de,b3]
 have G:=o.row (i:=a) om;rw[eO om,m a c]at G;have C:lh (pz (oF h s i l a) d t)=lh d:=mm u t;have P:=Fi u<|ab t;refine nN F @o.top G (m a c) C ?_;refine⟨c,c,λR=>⟨λb7=>?_,λb8=>?_⟩,λR=>?_⟩;have H:¬a=s:=by intro e;simp[e]at b7
 have S:=o.row (i:=s) om;rw[il H,zg8 h s i a B,m s k]at S;have c5:=z.len s B;have D:=z.res s B;have I:oF h s i l a=sbt h f (lg l s []) d:=by unfold oF;rw[ac H,r,b5]
 generalize b9:lg l s []=piv at *;have c6:=AB hf ⟨(D t).1,by have:=(D t).2;omega⟩ V.2;have c7:=A t;have a3:D0.i64.wrap (f*piv.getD t 0)=f*piv.getD t 0:=aF om om;have a4:D0.i64.wrap (lg d t 0-f*piv.getD t 0)=lg d t 0-f*piv.getD t 0:=aF om om;simp only[↓gp,gq,simprocAttr,gT,F,o.top,G,m a c,C,S,m s k,P,a3,a4];refine⟨kr,c,c,c,c,R,R,k,k,om,om,aa (tZ _ h hp) ?_⟩;simp only[↓gp,gq,simprocAttr,gT,F,o.top,G,m a c,C,S,m s k,P,a3,a4];refine⟨R,om,kr,ah (t+1) ⟨(gE F<|ak R om),⟨om,?_⟩⟩⟩;have e:(mK h s i l a).set a (pz (oF h s i l a) d<|t+1)=((mK h s i l a).set a<|pz (oF h s i l a) d t).set a ((pz (oF h s i l a) d t).set t<|(lg d t 0-f*piv.getD t 0)%h):=by rw[Lg,<- tF u R,<- oT h f (piv:=piv) R,I]
 rw[e];refine o.set om (rp F) ?_<|λx Z=>?_;rw[m a c];simp only[gr,simprocAttr,F];rw[m a c]at Z;simp only[gr,simprocAttr,F,Z];have H:a=s:=by have h9:(a:Int)=s:=ss b8;omega
 have I:oF h s i l a=d:=by unfold oF;rw[ae H,r]
 have E:=o;rw[I,zmf,<- I,uV h s i q]at E;exact ah (a+1) ⟨(fB Hb F<|ak c om),⟨om,E.same gl<|λx=>gl⟩⟩;have:t=lh d:=om;have E:=o;rw[this,tE u,uV h s i q]at E;exact ah (a+1) ⟨(fB Hb F<|ak c om),⟨om,E.same gl<|λx=>gl⟩⟩;have:a=lh M:=om;rw[this]at y;exact pT (y.same gl<|λx=>gl)<|List.Perm.refl _
theorem zvt(q:O0){a b:Nat}(c:a<lh q)(d:b<lh q):lg ((q.set a (lg q b 0)).set b (lg q a 0)) a 0=lg q b 0:=by grind
theorem zvu{b:Nat}(c:j<lh d):lg (wJ d j b) j []=lg d b []:=by unfold wJ;grind
theorem Lb{a m:Nat}(h:a<m):fV d j a (m-a)=if(lg d a []).getD j 0=0 then fV d j (a+1) (m-(a+1))else a:=by have e:m-a=(m-(a+1))+1:=om;rw[e,fV]
theorem za5{n:Nat}(h:j<n)(b:lh c<lh d):oe x d c j (n-j)=oe x (gI x d j c).1 (gI x d j c).2 (j+1) (n-(j+1)):=by have e:n-j=(n-(j+1))+1:=om;rw[e,oe,ae b]
theorem Uc{p:Int}{a c i:Nat}(h:Res p (lg d i []))(M:i=a\/(lg d i []).getD c 0=0):oF p a c d i=lg d i []:=by unfold oF;split;rfl;rename_i b;rw[M.resolve_left b,zmg h]
theorem zp3{p f y:Int}(a:0<x):(p+(x-f)*y)%x=(p-f*y)%x:=by
 have e:p+(x-f)*y=(p-f*y)+x*y:=by grind
 simp_all
theorem Hs(hp:lM p=k0)(hM:MatOk p n M)(hm:lh M<=900)(hn:n<=1000):AT prog 298 [.own 1000000 1,al n,al p] 24 3 (M.map iL) ((oe p M [] 0 n).1.map iL) (.rv (.fr 3 1 (iL (bl (oe p M [] 0 n).2)))):=by
 refine AT.goI (rs:=[.tmp 6]) tk mixed func298 rfl rfl rfl kr (za8 p n M [] 0) λhl s hs X ht=>?_;have a7:=jy hp;refine ff hs X ?_;refine az (λ((g,piv,d,q,v):fG×O0×Nat×O0×Nat) s=>(s.sl 0=.own 1000000 1/\s.sl 1=al n/\s.sl 2=al p/\s.sl 7=.own 7 v/\s.rw 7=⟨v,.sli 3 1 l0 (iL (bl piv))⟩/\s.sl 8=al d)/\(d<=n/\MatOk p n g/\g.length=lh M/\piv.length<=lh M/\TabI s.rw 1000000 1 24 3 q g/\q.Perm (lc (lh M))/\oe p M [] 0 n=oe p g piv d (n-d))) (λ(g,piv,d,q,v)=>n-d) ((M,[],0,lc (lh M),1)) ⟨(gE hs X),⟨om,hM,rfl,sp,ht.same gl (λx=>gl),List.Perm.refl _,rfl⟩⟩ ?_;intro(g,piv,d,q,v) sa ⟨Ha,c5⟩;have⟨e7,C,a8,e9,N,z,o⟩:=c5;have F:lh q=lh g:=N.len;refine ox Ha @N.top F @ap ?_;refine⟨λh1=>⟨λy=>?_,λy=>?_⟩,λh1=>?_⟩;have h1:d<n:=om;have y:lh piv<lh g:=om;rw[za5 h1 y]at o;refine az (λ(a:Nat)s=>(s.sl 0=.own 1000000 1/\s.sl 1=al n/\s.sl 2=al p/\s.sl 7=.own 7 v/\s.rw 7=⟨v,.sli 3 1 l0 (iL (bl piv))⟩/\s.sl 8=al d/\s.sl 9=al (lh piv)/\s.sl 10=al a)/\(lh piv<=a/\a<=lh g/\fV g d (lh piv) (lh g-lh piv)=fV g d a (lh g-a)/\TabI s.rw 1000000 1 24 3 q g)) (λa=>lh g-a) (lh piv) ⟨(jX Ha),⟨om,om,rfl,N.same gl (λx=>gl)⟩⟩ ?_;intro a sb ⟨V,c6⟩;have⟨f0,f1,G,w⟩:=c6;have stop:(¬a<g.length\/¬(lg g a []).getD d 0=0)->fV g d (lh piv) (lh g-lh piv)=a:=λh=>by rw[G];by_cases c7:a<lh g;rw[Lb c7,ac (h.resolve_left om)];rw[show (lh g)-a=0 by omega];rfl
 refine iD V @w.top F ?_;refine⟨λK=>?_,λK=>?_⟩;have a1:=w.row K;have e8:=C.len a K;refine ox V @w.top F a1 ?_;refine⟨K,K,om,om,λL=>?_,λL=>?_⟩;have L:=beq_iff_eq.1 L;rw[Lb K,ae L]at G;exact ah (a+1) ⟨(gE V (ak K om)),⟨om,om,G,w.same gl (λx=>gl)⟩⟩;have L:¬(lg g a []).getD d 0=0:=ss L;have a2:=stop (.inr L);have b0:((a:Int)==(lh g:Int))=false:=by simp;omega
 have a3:gI p g d piv=(od p (lh piv) d (wJ g (lh piv) a),piv++[d]):=by unfold gI;rw[a2,ac om]
 rw[a3]at o;have f2:lh (q.set (lh piv) (lg q a 0))=lh q:=sp;have b1:=w.row y;have b2:=zvt q (a:=lh piv) (b:=a) om om;refine xA V @w.top F a1 b0 b1 b2 ?_;refine⟨kr,K,K,y,y,y,om,K,om,kr,y,y,om,om,?_⟩;refine aa (Fh _ p hp) ?_;have b3:=C.len a K;have a4:=C.res a K;generalize c8:lg g a []=k at *;have f3:sk p (lg k d 0)=sk p (lg k d 0):=rfl;have c9:=zg7 hp (lg k d 0);generalize d0:sk p (lg k d 0)=b at *;have Y:lh (wJ g (lh piv) a)=lh g:=jP _ _ _;have Z:lg (wJ g (lh piv) a) (lh piv) []=k:=by rw[zvu y,c8]
 have d3:=Wh C y K;refine xA V @w.top F a1 b0 b1 b2 ?_;refine⟨y,y,?_⟩;have D:lh ((q.set (lh piv) (lg q a 0)).set a (lg q (lh piv) 0))=lh g:=by simp[F]
 have W:((q.set (lh piv) (lg q a 0)).set a (lg q (lh piv) 0)).Perm q:=by
  have e1:lg q (lh piv) 0=q[lh piv]'om:=by simp[lg,(by omega:lh piv<lh q)]
  have e2:lg q a 0=q[a]'om:=by simp[lg,(by omega:a<lh q)]
  rw[e1,e2];exact pj om om
 have a5:(wJ g (lh piv) a).set (lh piv) (Gy p b k)=yT p (lh piv) d (wJ g (lh piv) a):=by unfold yT;rw[Z,d0]
 have d4:od p (lh piv) d (wJ g (lh piv) a)=mK p (lh piv) d (yT p (lh piv) d (wJ g (lh piv) a)) (lh g):=by unfold od;rw[Y]
 refine az (λ(j:Nat)s=>(s.sl 0=.own 1000000 1/\s.sl 1=al n/\s.sl 2=al p/\s.sl 7=.own 7 v/\s.rw 7=⟨v,.sli 3 1 l0 (iL (bl piv))⟩/\s.sl 8=al d/\s.sl 9=al (lh piv)/\s.sl 11=al b/\s.sl 78=al (lh k)/\s.sl 79=al j)/\(j<=n/\TabI s.rw 1000000 1 24 3 ((q.set (lh piv) (lg q a 0)).set a (lg q (lh piv) 0)) ((wJ g (lh piv) a).set (lh piv) (pz (Gy p b k) k j)))) (λj=>n-j) (0) ⟨(jX V),⟨om,by rw[qB,<- Z,lL];exact(w.swap y K (rp V) (λx=>by simp only[gr,simprocAttr,V])).1⟩⟩ ?_;intro j sc ⟨Hc,d5⟩;have⟨hj,O⟩:=d5;generalize (q.set (lh piv) (lg q a 0)).set a (lg q (lh piv) 0)=q' at *;generalize f4:wJ g (lh piv) a=S at *;have a0:lh piv<(S.set (lh piv) (pz (Gy p b k) k j)).length:=by rw[de];omega
 have b4:=O.row a0;rw[eO om]at b4;have b5:lh (pz (Gy p b k) k j)=n:=by rw[mm (jO p b k)];exact b3
 have d6:=Fi (jO p b k) (ab j);have d7:=a4 j;have d8:=AB d7 ⟨c9.1,om⟩ a7.2;have hw:D0.i64.wrap (lg k j 0*b)=lg k j 0*b:=aF om om;simp only[↓gp,gq,simprocAttr,gT,Hc,O.top,b4,b5,d6,hw,mL d8.1,D];refine⟨λh=>⟨kr,y,y,y,y,om,om,om,om,om,kr,?_⟩,λh=>?_⟩;have h:j<n:=om;refine ah (j+1) ⟨(gE Hc (ak h om)),⟨om,?_⟩⟩;have e:S.set (lh piv) (pz (Gy p b k) k (j+1))=(S.set (lh piv) (pz (Gy p b k) k j)).set (lh piv) ((pz (Gy p b k) k j).set j (lg k j 0*b%p)):=by rw[Lg,<- tF (jO p b k) om,uT p b om]
 rw[e];exact O.set a0 (rp Hc) (rp Hc) (λx hx=>by simp only[gr,simprocAttr,Hc,hx]);have:j=lh k:=om;rw[this,tE (jO p b k),a5]at O;have H:=Wg (p:=p) (n:=n) (at':=lh piv) (col:=d) om d3 om;have b6:lh (yT p (lh piv) d S)=lh g:=by rw[oA,Y]
 rw[d4]at o;generalize yT p (lh piv) d S=m at *;refine az (λ(i:Nat)s=>(s.sl 0=.own 1000000 1/\s.sl 1=al n/\s.sl 2=al p/\s.sl 7=.own 7 v/\s.rw 7=⟨v,.sli 3 1 l0 (iL (bl piv))⟩/\s.sl 8=al d/\s.sl 9=al (lh piv)/\s.sl 101=al (lh g)/\s.sl 102=al i)/\(i<=lh g/\TabI s.rw 1000000 1 24 3 q' (mK p (lh piv) d m i))) (λi=>lh g-i) (0) ⟨(jX Hc),⟨om,by rw[Ue];exact O.same gl (λx=>gl)⟩⟩ ?_;intro i sd ⟨Hd,d9⟩;have⟨hi,A⟩:=d9;have e0:lh (mK p (lh piv) d m i)=lh g:=by rw[jz,b6]
 refine iD Hd @A.top D ?_;refine⟨λh=>⟨λhe=>?_,λhe=>?_⟩,λh=>?_⟩;have hid:¬i=lh piv:=by intro e;simp[e]at he
 have r:i<lh m:=om;have a6:=A.row (i:=i) om;rw[AD p (lh piv) d r (ab i)]at a6;have e3:=H.len i r;have I:=H.res i r;have B:lh (oF p (lh piv) d m i)=(lg m i []).length:=by rw[(Lh (p:=p) om H r).1,e3]
 refine ox Hd @A.top D a6 ?_;refine⟨h,h,om,om,λL=>?_,λL=>?_⟩;have L:lg (lg m i []) d 0=0:=beq_iff_eq.1 L;have E:=A;have P:=Uc (p:=p) (a:=lh piv) (c:=d) I (.inr L);have u:(mK p (lh piv) d m i).set i (lg m i [])=mK p (lh piv) d m i:=by rw[<- AD p (lh piv) d r (ab i),lL]
 rw[<- u,<- P,uV p (lh piv) d r]at E;exact ah (i+1) ⟨(gE Hd (ak h om)),⟨om,E.same gl (λx=>gl)⟩⟩;have L:¬(lg m i []).getD d 0=0:=ss L;have P:oF p (lh piv) d m i=sbt p (lg (lg m i []) d 0) (lg m (lh piv) []) (lg m i []):=by unfold oF;rw[ac hid]
 have f5:=I d;have u:(mK p (lh piv) d m i).set i (lg m i [])=mK p (lh piv) d m i:=by rw[<- AD p (lh piv) d r (ab i),lL]
 generalize m.getD i []=l at *;generalize l.getD d 0=f at *;have b7:D0.i64.wrap (p-f)=p-f:=aF om om;refine nN Hd @A.top D a6 b7 ?_;refine⟨h,h,om,om,h,h,?_⟩;refine az (λ(t:Nat)s=>(s.sl 0=.own 1000000 1/\s.sl 1=al n/\s.sl 2=al p/\s.sl 7=.own 7 v/\s.rw 7=⟨v,.sli 3 1 l0 (iL (bl piv))⟩/\s.sl 8=al d/\s.sl 9=al (lh piv)/\s.sl 101=al (lh g)/\s.sl 102=al i/\s.sl 13=al i/\s.sl 14=al (p-f)/\s.sl 131=al (lh l)/\s.sl 132=al t)/\(t<=lh l/\TabI s.rw 1000000 1 24 3 q' ((mK p (lh piv) d m i).set i (pz (oF p (lh piv) d m i) l t)))) (λt=>lh l-t) (0) ⟨(gE Hd b7),⟨om,by rw[qB,u];exact A.same gl (λx=>gl)⟩⟩ ?_;intro t se ⟨He,e4⟩;have⟨f6,Q⟩:=e4;have f7:lh ((mK p (lh piv) d m i).set i (pz (oF p (lh piv) d m i) l t))=lh g:=by rw[de,e0]
 have b8:=Q.row (i:=i) om;rw[eO om]at b8;have b9:lh (pz (oF p (lh piv) d m i) l t)=lh l:=mm B t;have c0:=Fi B (ab t);have R:lh piv<lh m:=om;have c3:=Q.row (i:=lh piv) om;rw[il hid,zg8 p (lh piv) d i R]at c3;have f8:=H.len (lh piv) R;have U:=H.res (lh piv) R;generalize m.getD (lh piv) []=pr at *;have f9:=AB (show 0<=p-f/\p-f<p by omega) ⟨(U t).1,by have:=(U t).2;omega⟩ a7.2;have g0:=I t;have e5:D0.i64.wrap ((p-f)*pr.getD t 0)=(p-f)*pr.getD t 0:=aF om om;have e6:D0.i64.wrap (lg l t 0+(p-f)*pr.getD t 0)=lg l t 0+(p-f)*pr.getD t 0:=aF om om;have c4:(lg l t 0+(p-f)*pr.getD t 0).tmod p=(lg l t 0-f*pr.getD t 0)%p:=by rw[mL om,zp3 om]
 simp only[↓gp,gq,simprocAttr,gT,He,Q.top,D,b8,c3,b9,c0,e5,e6,c4];refine⟨λJ=>⟨kr,h,h,h,h,J,J,y,y,om,om,om,J,om,kr,?_⟩,λJ=>?_⟩;refine ah (t+1) ⟨(gE He (ak J om)),⟨om,?_⟩⟩;have e:(mK p (lh piv) d m i).set i (pz (oF p (lh piv) d m i) l (t+1))=((mK p (lh piv) d m i).set i (pz (oF p (lh piv) d m i) l t)).set i ((pz (oF p (lh piv) d m i) l t).set t ((lg l t 0-f*pr.getD t 0)%p)):=by rw[Lg,<- tF B J,<- oT p f (piv:=pr) J,P]
 rw[e];exact Q.set om (rp He) (rp He) (λx hx=>by simp only[gr,simprocAttr,He,hx]);have:t=lh l:=om;have E:=Q;rw[this,tE B,uV p (lh piv) d r]at E;exact ah (i+1) ⟨(fB Hd He (ak h om)),⟨om,E.same gl (λx=>gl)⟩⟩;have hid:i=lh piv:=by have h9:(i:Int)=lh piv:=ss he;omega
 have r:i<lh m:=om;have E:=A;have P:=Uc (p:=p) (a:=lh piv) (c:=d) (H.res i r) (.inl hid);have u:(mK p (lh piv) d m i).set i (lg m i [])=mK p (lh piv) d m i:=by rw[<- AD p (lh piv) d r (ab i),lL]
 rw[<- u,<- P,uV p (lh piv) d r]at E;exact ah (i+1) ⟨(gE Hd (ak h om)),⟨om,E.same gl (λx=>gl)⟩⟩;have:i=lh g:=om;rw[this]at A;refine⟨by rw[ap];omega,?_⟩;exact ah ((mK p (lh piv) d m (lh g),piv++[d],d+1,q',v+1)) ⟨(DM Ha Hd (ak h1 om) @cI @jZ),⟨by dsimp only;omega,zg9 om H,by dsimp only;rw[jz,b6,a8],by simp;omega,A.same gl (λx=>gl),W.trans z,o⟩⟩;have a2:=stop (.inl om);have:a=lh g:=om;subst this;have a3:gI p g d piv=(g,piv):=by unfold gI;rw[ae a2]
 rw[a3]at o;refine iD V @w.top F ?_;exact ah ((g,piv,d+1,q,v)) ⟨(fB Ha V (ak h1 om)),⟨by dsimp only;omega,C,a8,by dsimp only;omega,w.same gl (λx=>gl),z,o⟩⟩;have hf:oe p g piv d (n-d)=(g,piv):=Ht p g piv d (n-d) om;rw[hf]at o;rw[o];refine⟨pT (N.same gl (λx=>gl)) z,?_⟩;exact mg Ha;have hf:oe p g piv d (n-d)=(g,piv):=by rw[show n-d=0 by omega];rfl
 rw[hf]at o;rw[o];refine⟨pT (N.same gl (λx=>gl)) z,?_⟩;exact mg Ha
theorem Qq(e:lM p=k0)(f:lh M<=900)(g:∀i,i<lh M->lh (lg M i [])=lh (lg M 0 []))(h:lh (lg M 0 [])<=1000):AC prog 232 [hY M,al p] (.im (al (iQ p M))):=by refine cA [.tmp 4] func232 λl=>?_;have k:=jy e;refine aR ?_;refine⟨λc=>?_,λc=>?_⟩;have a:=aL<|ss c;subst a;rfl;have a:¬M.length=0:=ss c;refine⟨kr,aa (uS M p om f<|λi j=>by grind) ?_⟩;refine aR ?_;refine⟨om,om,?_⟩;have d:=Wi (p:=p) om g;have b:=Hs _ _ p e d (by rwa[qC]) h;refine zpA b (by repeat (first|exact GiveL.nil|refine GiveL.v ?_|refine GiveL.clo ?_|refine GiveL.own 0 rfl ?_|refine GiveL.own 1 rfl ?_|refine GiveL.ag ?_ ?_)) (Aq 10 24 3 _<|λi j=>gl) dC dc ?_;refine aR ?_;exact⟨kr,by rw[ap];rfl⟩
theorem HF(hp:lM p=k0)(hM:lh M<=900)(hr:∀i,i<lh M->lh (lg M i [])=lh (lg M 0 []))(hn:lh (lg M 0 [])<=1000) :
 AC prog 186 [hY M,al p] (.tup [.tb 24 3 ((oe p (nw p M) [] 0 (lg M 0 []).length).1.map iL),.fr 3 1 (iL (bl (oe p (nw p M) [] 0 (lg M 0 []).length).2))]):=by
 refine cA [.tmp 4,.tmp 5] func186 λhl=>?_
 have c7:=jy hp
 generalize c8:lh (lg M 0 [])=n at *
 refine aR ?_
 refine NW (k:=15) (v:=1) (e:=24) (e2:=3) gl (λj=>gl) (λ(i:Nat)s=>(s.sl 0=hY M/\s.sl 1=al p/\s.sl 6=.own 15 (i+1)/\s.sl 7=al i)/\(i<=lh M/\TabG s.rw 15 (i+1) 24 3 i (nw p (M.take i)))) (λi=>lh M-i) (0) (λsX qw J W=>⟨(gE J W),⟨om,qw⟩⟩) ?_
 intro i sa ⟨Ha,a8⟩
 have⟨hi,ht⟩:=a8
 refine cZ Ha ?_
 refine⟨λh=>?_,λh=>?_⟩
 have b0:=hr i h;have Q:=BZ p hi;refine zg5 (λ((j,u):Nat×Nat) s=>(s.sl 0=hY M/\s.sl 1=al p/\s.sl 6=.own 15 (i+1)/\s.sl 7=al i/\s.sl 8=.own 22 u/\s.rw 22=⟨u,.tab 3 (iL (((lg M i []).map λx=>x%p).take j))⟩/\s.sl 9=al j)/\(j<=n/\TabG s.rw 15 (i+1) 24 3 i (nw p (M.take i)))) (λ(j,u)=>n-j) ((0,(sa.rw 22).ver+1)) (Wk.tab (k:=22) (v:=(sa.rw 22).ver+1) (e:=3) (c:=[]) gl (λp hp=>by cases hp)) ⟨(jX Ha),⟨om,ht.same gl (λx=>gl)⟩⟩ ?_;intro(j,u) sb ⟨⟨A,B,C,D,E,l,F⟩,b1⟩;have⟨G,K⟩:=b1;refine xA A B C D E l F ?_;refine⟨h,h,λH=>⟨h,h,om,om,aa (tZ _ p hp) ?_⟩,λH=>?_⟩
 refine xA A B C D E l F ?_;have b2:j<n:=om;have b3:((lg M i []).map λx=>x%p).take (j+1)=((lg M i []).map λx=>x%p).take j++[lg (lg M i []) j 0%p]:=by rw[bj 0 (ss H),za6 p H]
 have c9:lh (((lg M i []).map λx=>x%p).take j)<=1000:=by simp;omega
 refine⟨om,ah ((j+1,u+1)) ⟨(by and_intros<;>(first|(simp only[gr,simprocAttr,A,B,C,D,E,l,F,ak b2 om,b3];first|done|rfl|(simp;done))|assumption|rfl)),⟨by dsimp only;omega,K.same gl (λx=>gl)⟩⟩⟩
 have b4:((lg M i []).map λx=>x%p).take j=(lg M i []).map λx=>x%p:=bK (by rw[aG,b0];omega);rw[b4]at l;refine XO A B C D E l F @K.top ?_;refine⟨om,zdA (k:=15) (v:=i+1+1) (e:=24) (e2:=3) (n:=i) (d:=22) (vd:=u) (M:=nw p (M.take i)) (r:=(lg M i []).map λx=>x%p) (rp @K.top) Q (λj G=>by simp only[gr,simprocAttr,K.row j G]) (λj G=>by simp only[gr,simprocAttr,K.rest j G]) (xr7 A B C D E l F) dc dc (i+1) (λsX qw J W=>⟨(by and_intros<;>(first|(simp only[gr,simprocAttr,J,W,Ha,A,B,C,D,E,l,F,ak h om];first|done|rfl|(simp;done))|assumption|rfl)),⟨om,(Ud p h ▸ qw:TabG _ _ _ _ _ _ _)⟩⟩) (by first|omega|(simp only;omega)|(dsimp only;omega)|(show _<_;simp;omega))⟩
 have:i=lh M:=om;subst this;rw[av]at ht;have b5:=ht.done;have a1:=Wi (p:=p) om hr;have b6:=qC p M;generalize nw p M=R at *;refine az (λ((b,piv,f,q,v):fG×O0×Nat×O0×Nat) s=>(s.sl 1=al p/\s.sl 6=.own 15 (lh M+1)/\s.sl 10=.own 48 v/\s.rw 48=⟨v,.sli 3 1 l0 (iL (bl piv))⟩/\s.sl 11=al f)/\(f<=n/\MatOk p n b/\b.length=lh M/\piv.length<=lh M/\TabI s.rw 15 (lh M+1) 24 3 q b/\q.Perm (lc (lh M))/\oe p R [] 0 n=oe p b piv f (n-f))) (λ(b,piv,f,q,v)=>n-f) ((R,[],0,lc (lh M),(sa.rw 48).ver+1)) ⟨(jX Ha),⟨om,a1,b6,sp,b5.same gl (λx=>gl),List.Perm.refl _,rfl⟩⟩ ?_;intro(b,piv,f,q,v) sc ⟨L,b7⟩;have⟨c6,z,a2,d0,m,o,g⟩:=b7;have w:lh q=lh b:=m.len;refine ox L @m.top w @ap ?_;refine⟨λh0=>?_,λh0=>?_⟩
 have h0:0<lh b:=om;have b8:=m.row h0;have b9:=z.len 0 h0;refine Cn L @m.top w @ap b8 b9 ?_;refine⟨om,h0,λh1=>⟨λH=>?_,λH=>?_⟩,λh1=>?_⟩
 rw[za5 h1 H]at g;refine az (λ(a:Nat)s=>(s.sl 1=al p/\s.sl 6=.own 15 (lh M+1)/\s.sl 10=.own 48 v/\s.rw 48=⟨v,.sli 3 1 l0 (iL (bl piv))⟩/\s.sl 11=al f/\s.sl 12=al (lh piv)/\s.sl 13=al a)/\(lh piv<=a/\a<=lh b/\fV b f (lh piv) (lh b-lh piv)=fV b f a (lh b-a)/\TabI s.rw 15 (lh M+1) 24 3 q b)) (λa=>lh b-a) (lh piv) ⟨(jX L),⟨om,om,rfl,m.same gl (λx=>gl)⟩⟩ ?_;intro a sd ⟨O,c0⟩;have⟨d3,d4,y,t⟩:=c0;have stop:(¬a<b.length\/¬(lg b a []).getD f 0=0)->fV b f (lh piv) (lh b-lh piv)=a:=λh=>by rw[y];by_cases c3:a<lh b;rw[Lb c3,ac (h.resolve_left om)];rw[show (lh b)-a=0 by omega];rfl
 refine iD O @t.top w ?_;refine⟨λI=>?_,λI=>?_⟩
 have a3:=t.row I;have Q:=z.len a I;refine ox O @t.top w a3 ?_;refine⟨I,I,om,om,λX=>?_,λX=>?_⟩
 have X:=beq_iff_eq.1 X;rw[Lb I,ae X]at y;exact ah (a+1) ⟨(gE O (ak I om)),⟨om,om,y,t.same gl (λx=>gl)⟩⟩
 have X:¬(lg b a []).getD f 0=0:=ss X
 have Y:=stop (.inr X);have a4:((a:Int)==(lh b:Int))=false:=by simp;omega
 have Z:gI p b f piv=(od p (lh piv) f (wJ b (lh piv) a),piv++[f]):=by unfold gI;rw[Y,ac om]
 rw[Z]at g;have c4:=t.row H;refine Cn O @t.top w a3 a4 c4 ?_;have a5:=Wh z H I;have S:lh (wJ b (lh piv) a)=lh b:=jP _ _ _;have P:((q.set a (lg q (lh piv) 0)).set (lh piv) (lg q a 0)).Perm q:=by
  have e1:lg q (lh piv) 0=q[lh piv]'om:=by simp[lg,(by omega:lh piv<lh q)]
  have e2:lg q a 0=q[a]'om:=by simp[lg,(by omega:a<lh q)]
  rw[e1,e2];exact pj om om
 have a6:=Km (wJ b (lh piv) a) n (lh piv) f p hp a5 om h1 hn;refine⟨I,I,H,H,I,om,H,om,Ec a6 (by repeat (first|exact GiveL.nil|refine GiveL.v ?_|refine GiveL.clo ?_|refine GiveL.own 0 rfl ?_|refine GiveL.own 1 rfl ?_|refine GiveL.ag ?_ ?_)) ((t.swap I H (rp O) (λx=>by simp only[gr,simprocAttr,O])).1.to (za7 b a (lh piv))).is (P.nodup_iff.2 t.nd) (λp' a0=>?_)⟩;refine ff O @ap ?_;refine⟨om,?_⟩;have U:p'.Nodup:=a0.nodup_iff.2 (P.nodup_iff.2 t.nd);have c5:=Uf (p:=p) (at':=lh piv) (col:=f) om a5 om;have V:=gV p (lh piv) f (wJ b (lh piv) a);have a7:lh p'=lh b:=by rw[a0.length_eq,P.length_eq,w]
 exact ah ((od p (lh piv) f (wJ b (lh piv) a),piv++[f],f+1,p',v+1)) ⟨(DM L O (ak h1 om) @cI @jZ),⟨by dsimp only;omega,c5,by dsimp only;rw[V,S,a2],by simp;omega,⟨⟨gl,by simp[a7,V,S],λi hi=>by simp only[gr,simprocAttr,sh U hi,ko]⟩,U⟩,a0.trans (P.trans o),g⟩⟩
 have Y:=stop (.inl om);have:a=lh b:=om;subst this;have Z:gI p b f piv=(b,piv):=by unfold gI;rw[ae Y]
 rw[Z]at g;refine iD O @t.top w ?_;exact ah ((b,piv,f+1,q,v)) ⟨(fB L O (ak h1 om)),⟨by dsimp only;omega,z,a2,by dsimp only;omega,t.same gl (λx=>gl),o,g⟩⟩
 have hf:oe p b piv f (n-f)=(b,piv):=Ht p b piv f (n-f) H;rw[hf]at g;rw[g];refine cZ L ?_;have N:∀j∈q,j<998:=λj G=>by have:=List.mem_range.1 (o.mem_iff.1 G);omega
 refine Hp m dc N ?_;refine cZ L ?_;exact Hq m.nd (λj G=>by rw[fX];omega) dc
 have hf:oe p b piv f (n-f)=(b,piv):=by rw[show n-f=0 by omega];rfl
 rw[hf]at g;rw[g];refine cZ L ?_;have N:∀j∈q,j<998:=λj G=>by have:=List.mem_range.1 (o.mem_iff.1 G);omega
 refine Hp m dc N ?_;refine cZ L ?_;exact Hq m.nd (λj G=>by rw[fX];omega) dc
 have hf:oe p b piv f (n-f)=(b,piv):=Ht p b piv f (n-f) om;rw[hf]at g;rw[g];refine cZ L ?_;have N:∀j∈q,j<998:=λj G=>by have:=List.mem_range.1 (o.mem_iff.1 G);omega
 refine Hp m dc N ?_;refine cZ L ?_;exact Hq m.nd (λj G=>by rw[fX];omega) dc
theorem zjq(s:St)(d e g b f:Nat)(a:List M0)(c:M0):(br s d (.tup [.tb e g a,.fr b f c])).sl d=.tup [.own d ((s.rw d).ver+1),.own (dq d (lh a)) ((s.rw (dq d (lh a))).ver+1)] /\
 (br s d (.tup [.tb e g a,.fr b f c])).rw (dq d (lh a))=⟨(s.rw (dq d (lh a))).ver+1,.sli b f l0 c⟩:=by
 have i:lh (leaves<|.tb e g a)=lh a+1:=by simp[leaves]
 have m:bz d 0=d:=rfl
 have j:bz d (0+(lh a+1))=dq d (lh a):=by rw[cm];rfl
 constructor
 rw[br,cF];simp only[eu,gN,fL,fP,i,m,j]
 have k:(br s d<|.tup [.tb e g a,.fr b f c]).rw=pN s.rw d (gn s.rw d (leaves<|.tup [.tb e g a,.fr b f c]) 0) 0:=by exact pO _ _ _ _
 have h:leaves (.tup [.tb e g a,.fr b f c])=leaves (.tb e g a)++[(b,some f,c)]:=by simp[leaves]
 have l:lh a+1<(leaves<|.tup [.tb e g a,.fr b f c]).length:=by grind
 have n:lh a+1<(gn s.rw d (leaves<|.tup [.tb e g a,.fr b f c]) 0).length:=by rwa[iP]
 have:=qp s.rw d _ 0 _ n;rw[j]at this;rw[k,this,rX _ _ _ _ _ l,j];have o:(leaves<|.tup _)[lh a+1]=(b,some f,c):=by grind
 rw[o];rfl
theorem OD(a:lM p=k0)(b:lh M<=900)(c:∀i,i<lh M->lh (lg M i [])=lh (lg M 0 []))(d:lh (lg M 0 [])<=1000):AC prog 91 [hY M,al p] (.im (al (iQ p M))):=by refine cA [.tmp 4] func91 λe=>?_;refine aR ?_;refine aa (HF M p a b c d)<|ff @zjq @ap ?_;rfl
end Go.Proofs.YtijabbemjaioeaaGreatDoor
