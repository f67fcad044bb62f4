/- DERIVED by an AI agent. -/
import Derived.Test.YtigjebcjfbhnjaaGreatDoorQ1
set_option linter.all false
namespace Go.Proofs.YtigjebcjfbhnjaaGreatDoor
open Bool renaming true→k0,false→l0
open Go renaming IntKind→D0
open List renaming range→lc,replicate→ld,getD→lg,length→lh
open Nat renaming reduceEqDiff→lj,reduceMod→lk,reduceAdd→ll,reduceLT→lm,reduceLeDiff→lp,reduceSub→lr,reduceMul→lu,reduceBEq→lw
open Int renaming reduceToNat→lz,reduceLE→lA,reduceLT→lB,reduceNeg→lC
open Go.Proofs.Tryz
open Go.Abs
variable (f:V0)(a:Nat)(M:fG)(t:P0)(b:V0)(n:Int)(o:N0)(p:Int)(k:Nat){w:Nat}{c:N0}{d:Q0}{e:V0}{g:Int}{h:P0}{i:PV->Prop}
theorem Qq(e:lM n=k0)(f:lh M<=900)(g:∀i,i<lh M->lh (lg M i [])=lh (lg M 0 []))(h:lh (lg M 0 [])<=1000):AC prog 256 [hY M,al n] (.im (al (iQ n M))):=by refine cA [.tmp 4] func256 λl=>?_;have k:=jy e;refine aR ?_;refine⟨λc=>?_,λc=>?_⟩;have a:=aL<|ss c;subst a;rfl;have a:¬M.length=0:=ss c;refine⟨kr,aa (uS M n om f<|λi j=>by grind) ?_⟩;refine aR ?_;refine⟨om,om,?_⟩;have d:=Wi (p:=n) om g;have b:=Hs _ _ n e d (by rwa[qC]) h;refine zpA b (by repeat (first|exact GiveL.nil|refine GiveL.v ?_|refine GiveL.clo ?_|refine GiveL.own 0 rfl ?_|refine GiveL.own 1 rfl ?_|refine GiveL.ag ?_ ?_)) (Aq 10 29 3 _<|λi j=>gl) dC dc ?_;refine aR ?_;exact⟨kr,by rw[ap];rfl⟩
theorem HF(hp:lM n=k0)(hM:lh M<=900)(hr:∀i,i<lh M->lh (lg M i [])=lh (lg M 0 []))(hn:lh (lg M 0 [])<=1000) :
 AC prog 271 [hY M,al n] (.tup [.tb 29 3 ((oe n (nw n M) [] 0 (lg M 0 []).length).1.map iL),.fr 3 1 (iL (bl (oe n (nw n M) [] 0 (lg M 0 []).length).2))]):=by
 refine cA [.tmp 4,.tmp 5] func271 λhl=>?_
 have c7:=jy hp
 generalize c8:lh (lg M 0 [])=p at *
 refine aR ?_
 refine NW (k:=15) (v:=1) (e:=29) (e2:=3) gl (λj=>gl) (λ(i:Nat)s=>(s.sl 0=hY M/\s.sl 1=al n/\s.sl 6=.own 15 (i+1)/\s.sl 7=al i)/\(i<=lh M/\TabG s.rw 15 (i+1) 29 3 i (nw n (M.take i)))) (λi=>lh M-i) (0) (λsX qw J W=>⟨(gE J W),⟨om,qw⟩⟩) ?_
 intro i sa ⟨Ha,a8⟩
 have⟨hi,ht⟩:=a8
 refine cZ Ha ?_
 refine⟨λh=>?_,λh=>?_⟩
 have b0:=hr i h;have Q:=BZ n hi;refine zg5 (λ((j,u):Nat×Nat) s=>(s.sl 0=hY M/\s.sl 1=al n/\s.sl 6=.own 15 (i+1)/\s.sl 7=al i/\s.sl 8=.own 22 u/\s.rw 22=⟨u,.tab 3 (iL (((lg M i []).map λx=>x%n).take j))⟩/\s.sl 9=al j)/\(j<=p/\TabG s.rw 15 (i+1) 29 3 i (nw n (M.take i)))) (λ(j,u)=>p-j) ((0,(sa.rw 22).ver+1)) (Wk.tab (k:=22) (v:=(sa.rw 22).ver+1) (e:=3) (c:=[]) gl (λn hp=>by cases hp)) ⟨(jX Ha),⟨om,ht.same gl (λx=>gl)⟩⟩ ?_;intro(j,u) sb ⟨⟨A,B,C,D,E,l,F⟩,b1⟩;have⟨G,K⟩:=b1;refine xA A B C D E l F ?_;refine⟨h,h,λH=>⟨h,h,om,om,aa (tZ _ n hp) ?_⟩,λH=>?_⟩
 refine xA A B C D E l F ?_;have b2:j<p:=om;have b3:((lg M i []).map λx=>x%n).take (j+1)=((lg M i []).map λx=>x%n).take j++[lg (lg M i []) j 0%n]:=by rw[bj 0 (ss H),za6 n H]
 have c9:lh (((lg M i []).map λx=>x%n).take j)<=1000:=by simp;omega
 refine⟨om,ah ((j+1,u+1)) ⟨(by and_intros<;>(first|(simp only[gr,simprocAttr,A,B,C,D,E,l,F,ak b2 om,b3];first|done|rfl|(simp;done))|assumption|rfl)),⟨by dsimp only;omega,K.same gl (λx=>gl)⟩⟩⟩
 have b4:((lg M i []).map λx=>x%n).take j=(lg M i []).map λx=>x%n:=bK (by rw[aG,b0];omega);rw[b4]at l;refine XO A B C D E l F @K.top ?_;refine⟨om,zdA (k:=15) (v:=i+1+1) (e:=29) (e2:=3) (n:=i) (d:=22) (vd:=u) (M:=nw n (M.take i)) (r:=(lg M i []).map λx=>x%n) (rp @K.top) Q (λj G=>by simp only[gr,simprocAttr,K.row j G]) (λj G=>by simp only[gr,simprocAttr,K.rest j G]) (xr7 A B C D E l F) dc dc (i+1) (λsX qw J W=>⟨(by and_intros<;>(first|(simp only[gr,simprocAttr,J,W,Ha,A,B,C,D,E,l,F,ak h om];first|done|rfl|(simp;done))|assumption|rfl)),⟨om,(Ud n h ▸ qw:TabG _ _ _ _ _ _ _)⟩⟩) (by first|omega|(simp only;omega)|(dsimp only;omega)|(show _<_;simp;omega))⟩
 have:i=lh M:=om;subst this;rw[av]at ht;have b5:=ht.done;have a1:=Wi (p:=n) om hr;have b6:=qC n M;generalize nw n M=R at *;refine az (λ((b,piv,f,q,v):fG×O0×Nat×O0×Nat) s=>(s.sl 1=al n/\s.sl 6=.own 15 (lh M+1)/\s.sl 10=.own 48 v/\s.rw 48=⟨v,.sli 3 1 l0 (iL (bl piv))⟩/\s.sl 11=al f)/\(f<=p/\MatOk n p b/\b.length=lh M/\piv.length<=lh M/\TabI s.rw 15 (lh M+1) 29 3 q b/\q.Perm (lc (lh M))/\oe n R [] 0 p=oe n b piv f (p-f))) (λ(b,piv,f,q,v)=>p-f) ((R,[],0,lc (lh M),(sa.rw 48).ver+1)) ⟨(jX Ha),⟨om,a1,b6,sp,b5.same gl (λx=>gl),List.Perm.refl _,rfl⟩⟩ ?_;intro(b,piv,f,q,v) sc ⟨L,b7⟩;have⟨c6,z,a2,d0,m,o,g⟩:=b7;have w:lh q=lh b:=m.len;refine ox L @m.top w @ap ?_;refine⟨λh0=>?_,λh0=>?_⟩
 have h0:0<lh b:=om;have b8:=m.row h0;have b9:=z.len 0 h0;refine Cn L @m.top w @ap b8 b9 ?_;refine⟨om,h0,λh1=>⟨λH=>?_,λH=>?_⟩,λh1=>?_⟩
 rw[za5 h1 H]at g;refine az (λ(a:Nat)s=>(s.sl 1=al n/\s.sl 6=.own 15 (lh M+1)/\s.sl 10=.own 48 v/\s.rw 48=⟨v,.sli 3 1 l0 (iL (bl piv))⟩/\s.sl 11=al f/\s.sl 12=al (lh piv)/\s.sl 13=al a)/\(lh piv<=a/\a<=lh b/\fV b f (lh piv) (lh b-lh piv)=fV b f a (lh b-a)/\TabI s.rw 15 (lh M+1) 29 3 q b)) (λa=>lh b-a) (lh piv) ⟨(jX L),⟨om,om,rfl,m.same gl (λx=>gl)⟩⟩ ?_;intro a sd ⟨O,c0⟩;have⟨d3,d4,y,t⟩:=c0;have stop:(¬a<b.length\/¬(lg b a []).getD f 0=0)->fV b f (lh piv) (lh b-lh piv)=a:=λh=>by rw[y];by_cases c3:a<lh b;rw[AA c3,ac (h.resolve_left om)];rw[show (lh b)-a=0 by omega];rfl
 refine iD O @t.top w ?_;refine⟨λI=>?_,λI=>?_⟩
 have a3:=t.row I;have Q:=z.len a I;refine ox O @t.top w a3 ?_;refine⟨I,I,om,om,λX=>?_,λX=>?_⟩
 have X:=beq_iff_eq.1 X;rw[AA I,ae X]at y;exact ah (a+1) ⟨(gE O (ak I om)),⟨om,om,y,t.same gl (λx=>gl)⟩⟩
 have X:¬(lg b a []).getD f 0=0:=ss X
 have Y:=stop (.inr X);have a4:((a:Int)==(lh b:Int))=false:=by simp;omega
 have Z:gI n b f piv=(od n (lh piv) f (wJ b (lh piv) a),piv++[f]):=by unfold gI;rw[Y,ac om]
 rw[Z]at g;have c4:=t.row H;refine Cn O @t.top w a3 a4 c4 ?_;have a5:=Wh z H I;have S:lh (wJ b (lh piv) a)=lh b:=jP _ _ _;have P:((q.set a (lg q (lh piv) 0)).set (lh piv) (lg q a 0)).Perm q:=by
  have e1:lg q (lh piv) 0=q[lh piv]'om:=by simp[lg,(by omega:lh piv<lh q)]
  have e2:lg q a 0=q[a]'om:=by simp[lg,(by omega:a<lh q)]
  rw[e1,e2];exact pj om om
 have a6:=Km (wJ b (lh piv) a) p (lh piv) f n hp a5 om h1 hn;refine⟨I,I,H,H,I,om,H,om,Ec a6 (by repeat (first|exact GiveL.nil|refine GiveL.v ?_|refine GiveL.clo ?_|refine GiveL.own 0 rfl ?_|refine GiveL.own 1 rfl ?_|refine GiveL.ag ?_ ?_)) ((t.swap I H (rp O) (λx=>by simp only[gr,simprocAttr,O])).1.to (za7 b a (lh piv))).is (P.nodup_iff.2 t.nd) (λp' a0=>?_)⟩;refine ff O @ap ?_;refine⟨om,?_⟩;have U:p'.Nodup:=a0.nodup_iff.2 (P.nodup_iff.2 t.nd);have c5:=Uf (p:=n) (at':=lh piv) (col:=f) om a5 om;have V:=gV n (lh piv) f (wJ b (lh piv) a);have a7:lh p'=lh b:=by rw[a0.length_eq,P.length_eq,w]
 exact ah ((od n (lh piv) f (wJ b (lh piv) a),piv++[f],f+1,p',v+1)) ⟨(DM L O (ak h1 om) @cI @jZ),⟨by dsimp only;omega,c5,by dsimp only;rw[V,S,a2],by simp;omega,⟨⟨gl,by simp[a7,V,S],λi hi=>by simp only[gr,simprocAttr,sh U hi,ko]⟩,U⟩,a0.trans (P.trans o),g⟩⟩
 have Y:=stop (.inl om);have:a=lh b:=om;subst this;have Z:gI n b f piv=(b,piv):=by unfold gI;rw[ae Y]
 rw[Z]at g;refine iD O @t.top w ?_;exact ah ((b,piv,f+1,q,v)) ⟨(fB L O (ak h1 om)),⟨by dsimp only;omega,z,a2,by dsimp only;omega,t.same gl (λx=>gl),o,g⟩⟩
 have hf:oe n b piv f (p-f)=(b,piv):=Ht n b piv f (p-f) H;rw[hf]at g;rw[g];refine cZ L ?_;have N:∀j∈q,j<998:=λj G=>by have:=List.mem_range.1 (o.mem_iff.1 G);omega
 refine Hp m dc N ?_;refine cZ L ?_;exact Hq m.nd (λj G=>by rw[fX];omega) dc
 have hf:oe n b piv f (p-f)=(b,piv):=by rw[show p-f=0 by omega];rfl
 rw[hf]at g;rw[g];refine cZ L ?_;have N:∀j∈q,j<998:=λj G=>by have:=List.mem_range.1 (o.mem_iff.1 G);omega
 refine Hp m dc N ?_;refine cZ L ?_;exact Hq m.nd (λj G=>by rw[fX];omega) dc
 have hf:oe n b piv f (p-f)=(b,piv):=Ht n b piv f (p-f) om;rw[hf]at g;rw[g];refine cZ L ?_;have N:∀j∈q,j<998:=λj G=>by have:=List.mem_range.1 (o.mem_iff.1 G);omega
 refine Hp m dc N ?_;refine cZ L ?_;exact Hq m.nd (λj G=>by rw[fX];omega) dc
theorem zjq(s:St)(d e g b f:Nat)(a:List M0)(c:M0):(br s d (.tup [.tb e g a,.fr b f c])).sl d=.tup [.own d ((s.rw d).ver+1),.own (dq d (lh a)) ((s.rw (dq d (lh a))).ver+1)] /\
 (br s d (.tup [.tb e g a,.fr b f c])).rw (dq d (lh a))=⟨(s.rw (dq d (lh a))).ver+1,.sli b f l0 c⟩:=by
 have i:lh (bo<|.tb e g a)=lh a+1:=by simp[bo]
 have m:bz d 0=d:=rfl
 have j:bz d (0+(lh a+1))=dq d (lh a):=by rw[cm];rfl
 constructor
 rw[br,cF];simp only[eu,gN,fL,fP,i,m,j]
 have k:(br s d<|.tup [.tb e g a,.fr b f c]).rw=pN s.rw d (gn s.rw d (bo<|.tup [.tb e g a,.fr b f c]) 0) 0:=by exact pO _ _ _ _
 have h:bo (.tup [.tb e g a,.fr b f c])=bo (.tb e g a)++[(b,some f,c)]:=by simp[bo]
 have l:lh a+1<(bo<|.tup [.tb e g a,.fr b f c]).length:=by grind
 have n:lh a+1<(gn s.rw d (bo<|.tup [.tb e g a,.fr b f c]) 0).length:=by rwa[iP]
 have:=qp s.rw d _ 0 _ n;rw[j]at this;rw[k,this,rX _ _ _ _ _ l,j];have o:(bo<|.tup _)[lh a+1]=(b,some f,c):=by grind
 rw[o];rfl
theorem OD(a:lM n=k0)(b:lh M<=900)(c:∀i,i<lh M->lh (lg M i [])=lh (lg M 0 []))(d:lh (lg M 0 [])<=1000):AC prog 213 [hY M,al n] (.im (al (iQ n M))):=by refine cA [.tmp 4] func213 λe=>?_;refine aR ?_;refine aa (HF M n a b c d)<|ff @zjq @ap ?_;rfl
theorem gt:AC prog 97 [.ag [al n,aE o]] (.fr 3 1 (iL (gc (ci n o)))):=by
 refine cA [.tmp 2] func97 λK=>?_;refine aR ?_;refine aa (io n o) ?_;refine aR ?_;have j:=ordN_len<|ci n o;have f:∀i,i<lh (co<|ci n o)->lg (co<|ci n o) i 0<64:=λi h=>OA h;have a:=zmR<|ci n o;have A:=eD<|ci n o;unfold gc;generalize co (ci n o)=all at *;refine az (λ((i,v,u):Nat×Nat×Nat) s=>(s.sl 3=.own 6 v/\s.rw 6=⟨v,.sli 3 1 l0<|iL<|rA (all.take i)<|Jy<|all.take i⟩/\s.sl 4=.own 8 u/\s.rw 8=⟨u,.sli 3 1 l0<|iL<|bl all⟩/\s.sl 5=al i)/\(i<=lh all)) (λ(i,v,u)=>lh all-i) ((0,1,1)) ⟨(by and_intros<;>(first|(simp only[gr,simprocAttr,Jy,rA];first|done|rfl|(simp;done))|assumption|rfl)),sp⟩ ?_;intro(i,v,u) L ⟨p,C⟩;refine ff p @ap ?_;refine⟨λh=>?_,λh=>?_⟩;have D:=f i h;have b:lg (bl all) i 0=((lg all i 0:Nat):Int):=bX h;have g:=bj 0 h;have q:=zmP (all.take i)<|lg all i 0;rw[<- g]at q;have z:=zmS (l:=all) (k:=i+1);have E:=jA D;refine az (λ((w,m):Nat×Nat) s=>(s.sl 3=.own 6 w/\s.rw 6=⟨w,.sli 3 1 l0<|iL<|rA (all.take i) m⟩/\s.sl 4=.own 8 u/\s.rw 8=⟨u,.sli 3 1 l0<|iL<|bl all⟩/\s.sl 5=al i)/\(Jy (all.take i)<=m/\m<=Jy (all.take<|i+1))) (λ(w,m)=>Jy (all.take<|i+1)-m) ((v,Jy (all.take i))) ⟨(jX p),⟨om,om⟩⟩ ?_;intro(w,m) M ⟨d,r⟩;have⟨t,G⟩:=r;refine ox d @ap @oB b ?_;refine⟨h,h,aa (ey _ om) ?_⟩;refine ox d @ap @oB b ?_;refine⟨λH=>⟨om,?_⟩,λH=>?_⟩;have e:rA (all.take i) m++[0]=rA (all.take i) (m+1):=zja _ t;exact ah ((w+1,m+1)) ⟨(gE d e),⟨by dsimp only;omega,by dsimp only;omega⟩⟩;have x:lg (rA (all.take i) m) (aQ<|lg all i 0) 0=(zf (all.take i) (aQ<|lg all i 0):Int):=vn _ om;have I:zf (all.take i) (aQ<|lg all i 0)<=448:=by have:=aO (λs=>aQ s==aQ (lg all i 0))<|all.take i;rw[bg]at this;unfold zf;omega
 have J:D0.i64.wrap ((zf (all.take i) (aQ<|lg all i 0):Int)+1)=(zf (all.take i) (aQ<|lg all i 0):Int)+1:=aF om om;have y:m=Jy (all.take<|i+1):=om;have c:=zmQ (all.take i) (lg all i 0) m om;rw[<- g]at c;refine⟨kr,h,h,aa (ey _ om) ?_⟩;refine ox d @ap @oB b ?_;refine⟨h,h,aa (ey _ om) ?_⟩;refine xA d @ap @oB b x J c ?_;refine⟨om,om,om,om,kr,?_⟩;subst y;exact ah ((i+1,w,u)) ⟨(fB p d<|ak h om),by dsimp only;omega⟩;have:i=lh all:=om;rw[this,av,a]
theorem Oy(p:a<64)(q:k<64)(r:aQ k=aQ a+1):AC prog 272 [al a,al k] (.im (al (lI a k))):=by
 refine cA [.tmp 4] func272 λy=>?_;have d:=ej (a:=a) (b:=k) om om;have i:D0.i64.wrap ((aQ k:Int)-(aQ a:Int))=1:=by rw[aF om om];omega
 refine cZ d ?_;refine⟨λh=>aa (ey k om) ?_,λh=>?_⟩;have g:a&&&k=a:=by grind
 have⟨u,A⟩:=zbp a p k q g;refine aR<|aa (ey a om) ?_;have w:a≠k:=λe=>by grind
 have j:D0.i64.wrap (k-a)=((k-a:Nat):Int):=by rw[aF om om];omega
 have b:D0.i64.wrap ((k-a:Nat)-1)=(k-a-1:Nat):=by rw[aF om om];omega
 have c:=ej (a:=k) (b:=k-a-1) om om;have l:k&&&(k-a-1)<64:=by have:k&&&(k-a-1)<=k:=bI;omega
 have m:(1 != 1)=false:=rfl;refine nN i j b c m ?_;refine aa (ey _ om) ?_;have f:((aQ _:Nat):Int).tmod 2=((aQ (k&&&(k-a-1))%2:Nat):Int):=rfl
 have n:D0.i64.wrap _=2*((aQ (k&&&(k-a-1))%2:Nat):Int):=aF om om;have o:D0.i64.wrap _=1-2*((aQ (k&&&(k-a-1))%2:Nat):Int):=aF om om;refine iD f n o ?_;unfold lI;grind;have g:¬a&&&k=a:=by grind
 simp[lI,g]
theorem Oz{l h:O0}(a:w<lh l):fy (l.take w) h++[h.map λb=>lI (lg l w 0) b]=fy (l.take (w+1)) h:=by simp[bj 0 a,fy]
theorem qa(R:1<=k)(G:k<=7):AC prog 214 [.ag [al n,aE o],al k] (.fr 29 1 (mF (fy (cd (ci n o) (k-1) 64) (cd (ci n o) k 64)))):=by
 refine cA [.tmp 4] func214 λS=>?_;have B:D0.i64.wrap ((k:Int)-1)=((k-1:Nat):Int):=by rw[aF om om];omega
 refine cZ B ?_;refine aa (nj n o<|k-1) ?_;refine aR ?_;refine aa (nj n o k) ?_;refine aR ?_;have H:=fc (ci n o) (k-1)<|ab 64;have I:=fc (ci n o) k<|ab 64;have C:∀i,i<lh (cd (ci n o) (k-1) 64)->lg (cd (ci n o) (k-1) 64) i 0<64/\aQ (lg (cd (ci n o) (k-1) 64) i 0)=k-1:=λi m=>by have:=fI.1<|aP 0 m;exact⟨this.1,this.2.2⟩
 have D:∀i,i<lh (cd (ci n o) k 64)->lg (cd (ci n o) k 64) i 0<64/\aQ (lg (cd (ci n o) k 64) i 0)=k:=λi m=>by have:=fI.1<|aP 0 m;exact⟨this.1,this.2.2⟩
 generalize cd (ci n o) (k-1) 64=p at *;generalize cd (ci n o) k 64=m at *;refine az (λ((i,v,a,b):Nat×Nat×Nat×Nat) s=>(s.sl 5=.own 11 v/\s.rw 11=⟨v,.sli 29 1 l0<|mF<|fy (p.take i) m⟩/\s.sl 6=.own 15 a/\s.rw 15=⟨a,.sli 3 1 l0<|iL<|bl p⟩/\s.sl 7=.own 18 b/\s.rw 18=⟨b,.sli 3 1 l0<|iL<|bl m⟩/\s.sl 8=al i)/\(i<=lh p)) (λ(i,v,a,b)=>lh p-i) ((0,1,1,1)) ⟨(by and_intros<;>(rfl)),sp⟩ ?_;intro(i,v,a,b) K ⟨E,L⟩;have F:lh (fy (p.take i) m)=min i (lh p):=by rw[gX,bg]
 refine ff E @ap ?_;refine⟨λh=>?_,λh=>?_⟩;have A:lg (bl p) i 0=((lg p i 0:Nat):Int):=bX h;refine az (λ((j,u):Nat×Nat) s=>(s.sl 5=.own 11 v/\s.rw 11=⟨v,.sli 29 1 l0<|mF<|fy (p.take i) m⟩/\s.sl 6=.own 15 a/\s.rw 15=⟨a,.sli 3 1 l0<|iL<|bl p⟩/\s.sl 7=.own 18 b/\s.rw 18=⟨b,.sli 3 1 l0<|iL<|bl m⟩/\s.sl 8=al i/\s.sl 9=.own 25 u/\s.rw 25=⟨u,.sli 3 1 l0<|iL<|(m.take j).map λb=>lI (lg p i 0) b⟩/\s.sl 10=al j)/\(j<=lh m)) (λ(j,u)=>lh m-j) ((0,(K.rw 25).ver+1)) ⟨(jX E),om⟩ ?_;intro(j,u) U ⟨⟨q,d,r,f,t,g,w,x,c,l⟩,N⟩;simp only[↓gp,gq,simprocAttr,gT,q,d,r,f,t,g,w,x,c,l,ap];refine⟨λz=>?_,λz=>?_⟩;have y:lg (bl m) j 0=((lg m j 0:Nat):Int):=bX z;have O:=C i h;have P:=D j z;simp only[↓gp,gq,simprocAttr,gT,q,d,r,f,t,g,w,x,c,l,ap,A,y];refine⟨kr,h,h,z,z,aa (Oy _ _ O.1 P.1 om) ?_⟩;simp only[↓gp,gq,simprocAttr,gT,q,d,r,f,t,g,w,x,c,l,ap,A,y];have e:(m.take<|j+1).map (λb=>lI (lg p i 0) b)=(m.take j).map (λb=>lI (lg p i 0) b)++[lI (lg p i 0) (lg m j 0)]:=by rw[bj 0 z];simp
 refine⟨by rw[aG,bg];omega,kr,?_⟩;exact ah ((j+1,u+1)) ⟨(by and_intros<;>(first|(simp only[gr,simprocAttr,q,d,r,f,t,g,w,x,c,l,ak z om,e];first|done|rfl|(simp;done))|assumption|rfl)),by dsimp only;omega⟩;have Q:j=lh m:=om;subst Q;rw[av]at c;refine zvl ?_;simp only[↓gp,gq,simprocAttr,gT,q,d,r,f,t,g,w,x,c,l,F,bU];have e:=Oz (h:=m) h;refine⟨om,?_⟩;exact ah ((i+1,v+1,a,b)) ⟨(by and_intros<;>(first|(simp only[gr,simprocAttr,E,q,d,r,f,t,g,w,x,c,l,ak h om,LP,e];first|done|rfl|(simp;done))|assumption|rfl)),by dsimp only;omega⟩;have:i=lh p:=om;rw[this,av]
theorem zdV{f:V0}{p:Int}{k:Nat}(h:k+1<cv f):kM f p (k+1)=iQ p (fy (cd f k 64) (cd f (k+1) 64)):=by unfold kM;grind
theorem Lu{p:Int}(h:cv e<=w):kM e p w=0:=by simp[kM,h]
def Bl(f:V0)(p:Int):N0:=if lM p=k0 then ed f p else []
theorem nS:AC prog 112 [.ag [al n,aE o],al p] (.fr 3 1 (iL (Bl (ci n o) p))):=by
 refine cA [.tmp 4] func112 λH=>?_;refine aR ?_;refine aa (gt n o) ?_;refine aR ?_;refine aa (jY p) ?_;refine aR ?_;unfold Bl;refine⟨λg=>?_,λg=>?_⟩;have g:lM p=false:=ss g;rw[g];rfl;have g:lM p=true:=ss g;rw[ae g];have x:=eD (ci n o);have b:=eb (ci n o);generalize y:ci n o=f at *;refine az (λ((k,v,w):Nat×Nat×Nat) s=>(s.sl 1=al p/\s.sl 2=.ref 2 1 0/\s.rw 2=⟨1,.box 31 [al n,aE o]⟩/\s.sl 5=.own 10 v/\s.rw 10=⟨v,.sli 3 1 l0 (iL ((ed f p).take k))⟩/\s.sl 6=.own 12 w/\s.rw 12=⟨w,.sli 3 1 l0 (iL (gc f))⟩/\s.sl 7=al (kM f p k)/\s.sl 8=al k)/\(k<=cv f)) (λ(k,v,w)=>cv f-k) ((0,1,1)) ⟨(by and_intros<;>(first|(simp -dsimp only[gr,simprocAttr,kM];first|done|rfl|(simp;done))|assumption|rfl)),sp⟩ ?_;intro(k,v,w) I ⟨i,A⟩;refine ff i b ?_;refine⟨λh=>?_,λh=>?_⟩;have B:=qS f p k;have C:=qS f p (k+1);have D:=fc f k (ab 64);have r:=lN f h;have a:=ak h om;have c:D0.i64.wrap (((cd f k 64).length:Int)-(kM f p k:Int))=((cd f k 64).length:Int)-(kM f p k:Int):=aF om om;have d:D0.i64.wrap (((cd f k 64).length:Int)-(kM f p k:Int)-(kM f p (k+1):Int))=((cd f k 64).length:Int)-(kM f p k:Int)-(kM f p (k+1):Int):=aF om om;have j:(ed f p).take (k+1)=(ed f p).take k++[((cd f k 64).length:Int)-kM f p k-kM f p (k+1)]:=by rw[bj 0 (by rw[df];exact h),pX f p h]
 have E:lh ((ed f p).take k)<=7:=by rw[bg,df];omega
 refine iD i b a ?_;refine⟨λt=>aa (y ▸ qa n o (k+1) om om) ?_,λt=>?_⟩;have l:=zdV (p:=p) t;rw[dS];have F:=gX (cd f k 64) (cd f (k+1) 64);have m:=Oq (cd f k 64) (cd f (k+1) 64);have G:=Ot (cd f k 64) (cd f (k+1) 64);have u:=fc f (k+1) (ab 64);refine iD i b a ?_;refine aa (OD _ p g om m om) ?_;rw[<- l];refine Cn i b a r c d ?_;refine⟨h,h,om,?_⟩;exact ah ((k+1,v+1,w)) ⟨(DM i a c d j),by dsimp only;omega⟩;have e:=Lu (p:=p) (show cv f<=k+1 by omega);rw[e,iU,jI]at d;rw[e,iU,jI]at j;refine nN i b a r c ?_;refine⟨h,h,om,?_⟩;have q:D0.i64.wrap (((cd f k 64).length:Int)-(kM f p k:Int)-0)=((cd f k 64).length:Int)-(kM f p k:Int):=by rw[jI];exact d
 exact ah ((k+1,v+1,w)) ⟨(Sx i a c q j e @iU),by dsimp only;omega⟩;have:k=(ed f p).length:=by rw[df];omega
 rw[this,av]
theorem og{G:Nat}(b:G<2^64)(h:∀s,s<64->G.testBit s=f s):G=bA f 64:=by refine bB λs=>?_;rw[mM];by_cases a:s<64;grind;have:G.testBit s=false:=eK<|cp b<|aV om om;grind
theorem ek{s:Nat}(h:s<64):(bA f 64).testBit s=f s:=by simp[mM,h]
theorem gu{w w':V0}(h:∀s,s<64->w s=w' s):bA w 64=bA w' 64 :=
 og w' (dj w 64) λs a=>by simp_all[ek]
theorem FB:bA f 64|||bA b 64=bA (λs=>f s||b s) 64 :=
 og _ (cu (dj f 64)<|dj b 64) λs a=>by simp_all[ek]
theorem zbD:bA f 64&&&bA b 64=bA (λs=>f s&&b s) 64 :=
 og _ (bD bI<|dj f 64) λs a=>by simp_all[ek]
theorem CX(a:w<64):bA f 64|||2^w=bA (λs=>f s||s==w) 64 :=
 og _ (cu (dj f 64)<|bN om a) λs b=>by rw[bq,ek f b];grind
theorem vB:bA (λ_=>l0) 64=0:=(og _ om<|λs _=>sp).symm
def eG(u:Nat)(t:Nat):Bool:=u&&&t==t
theorem gC(r:a<64):AC prog 221 [al a] (.im (dv (bA (eG a) 64:Nat))):=by
 refine cA [.tmp 2] func221 λB=>?_;refine aR ?_;have d:bA (λv=>eG a v&&decide (a<v)) 64=0:=by
  rw[<- vB];refine gu λv p=>?_;cases h:(eG a v&&decide (a<v))with
  | false=>rfl
  | true =>simp[eG]at h;have:a&&&v<=a:=bI;omega
 refine az (λ(t:Nat)s=>(s.sl 0=al a/\s.sl 3=dv (bA (λv=>eG a v&&decide (t<v)) 64:Nat)/\s.sl 4=al t)/\(t<=a/\a&&&t=t)) (λt=>t) (a) ⟨(jX d),⟨ab _,dp a⟩⟩ ?_;intro t C ⟨l,m⟩;obtain⟨w,j⟩:=m;have x:=dj (λv=>eG a v&&decide (t<v)) 64;have f:D0.u64.wrap (t:Int)=(t:Int):=dm om;have n:(2:Nat)^t<18446744073709551616:=by have:(2:Nat)^t<2^64:=bN om om;omega
 have g:EX .u64 (bA (λv=>eG a v&&decide (t<v)) 64:Nat) (jl .u64 1 (t:Int))=((bA (λv=>eG a v&&decide (t<=v)) 64:Nat):Int):=by rw[yU om,Ca om n,CX _ om];congr 1;refine gu λv p=>?_;by_cases e:v=t;subst e;simp[eG,j];have y:decide (t<v)=decide (t<=v):=decide_eq_decide.2 om;simp[e,y]
 refine iD l f g ?_;refine⟨λk=>?_,λk=>?_⟩;have:t=0:=by simp at k;omega
 subst this;simp;have k:¬t=0:=by intro e;subst e;simp at k
 have q:D0.i64.wrap ((t:Int)-1)=((t-1:Nat):Int):=by rw[aF om om];omega
 have c:=ej (a:=t-1) (b:=a) om om;have z:(t-1)&&&a<=t-1:=bI;have i:bA (λv=>eG a v&&decide ((t-1)&&&a<v)) 64=bA (λv=>eG a v&&decide (t<=v)) 64:=by
  refine gu λv p=>?_;cases A:eG a v with
  | false=>rfl
  | true =>
    simp only[au];refine decide_eq_decide.2 ⟨λh=>?_,λh=>om⟩;rcases bf v t with o|o
    have:=zmT a r t om (by rw[cl];exact j) k v o (by rw[cl];simpa[eG]using A);omega;exact o
 refine nN l f g q c ?_;exact ah ((t-1)&&&a) ⟨(MT l f g q c i),⟨om,by rw[cl,fD,dp]⟩⟩
theorem zdZ{t:Nat}(h:w<lh c):ao (c.take (w+1)) t=(ao (c.take w) t||eG (lg c w 0).toNat t):=by simp[bj 0 h,ao,eG]
theorem cj(g:Uu o):AC prog 135 [.ag [al n,aE o]] (.im (dv (bA (ao o) 64:Nat))):=by
 refine cA [.tmp 2] func135 λe=>?_;simp[dt,dT,gb,jt,hZ]at e;refine aR ?_;refine az (λ(k:Nat)s=>(s.sl 3=dv (bA (ao<|o.take k) 64:Nat)/\s.sl 7=aE o/\s.sl 8=al (lh o)/\s.sl 9=al k)/\(k<=lh o)) (λk=>lh o-k) (0) ⟨(jX vB),om⟩ ?_;intro k a ⟨d,i⟩;refine cZ d ?_;refine⟨λh=>⟨h,h,?_⟩,λh=>?_⟩;have p:=HC g h;have j:lg o k 0=((lg o k 0).toNat:Int):=om;have f:=gC (lg o k 0).toNat om;rw[<- j]at f;refine aa f ?_;have l:=dj (ao<|o.take k) 64;have m:=dj (eG (lg o k 0).toNat) 64;have c:EX .u64 (bA (ao<|o.take k) 64:Nat) (bA (eG (lg o k 0).toNat) 64:Nat)=((bA (ao<|o.take<|k+1) 64:Nat):Int):=by rw[Ca om om,FB];congr 1;exact gu λt _=>(zdZ h).symm
 refine ff d c ?_;exact ah (k+1) ⟨(fB d (ak h e) c),om⟩;have:k=lh o:=om;rw[this,av]
theorem vC(b:a<64):AC prog 229 [dv (bA f 64:Nat),al a] (.im (dv (bA (λt=>f t&&eG a t) 64:Nat))):=by
 refine cA [.tmp 4] func229 λe=>?_;refine aR<|aa (gC a b) ?_;have c:=dj f 64;have d:=dj (eG a) 64;have w:fu .u64 (bA f 64) (bA (eG a) 64)=((bA (λt=>f t&&eG a t) 64)):=by rw[zdD om om,zbD]
 exact mg w
theorem jb(h:w<64):qN (w:Int)=(aQ w:Nat):=by rw[qN,ae om];simp
theorem HB:oY f (a+1)=if f a=k0 then max (oY f a) (aQ a+1)else oY f a:=rfl
theorem pa:AC prog 240 [dv (bA f 64:Nat)] (.im (al ((cv f:Int)-1))):=by
 refine cA [.tmp 2] func240 λi=>?_;refine aR ?_;have c:=dj f 64;refine az (λ(m:Nat)s=>(s.sl 0=dv _/\s.sl 3=al ((oY f m:Int)-1)/\s.sl 4=al m)/\(m<=64)) (λm=>64-m) (0) ⟨(by and_intros<;>(rfl)),om⟩ ?_;intro m j ⟨a,d⟩;refine cZ a ?_;refine⟨λh=>aa (ez _ m om om) ?_,λh=>?_⟩;have h:m<64:=om;rw[ek f h];refine cZ a ?_;refine⟨λb=>aa (dy _) ?_,λb=>?_⟩;refine ff a (jb h) ?_;refine⟨λg=>aa (dy _) ?_,λg=>?_⟩;refine ff a (jb h) ?_;have e:(oY f (m+1):Int)-1=(aQ m:Int):=by rw[HB,ae b];omega
 exact ah (m+1) ⟨(rS a (ak h om) (jb h) e),om⟩;have e:oY f (m+1)=oY f m:=by rw[HB,ae b];omega
 exact ah (m+1) ⟨(fB a (ak h om) e),om⟩;have e:oY f (m+1)=oY f m:=by rw[HB,ac<|by grind]
 exact ah (m+1) ⟨(fB a (ak h om) e),om⟩;have:m=64:=om;subst this;rfl
theorem Ut{j:Nat}(a:e w=k0):cd e j (w+1)=if j=aQ w then cd e j w++[w]else cd e j w:=by rw[uX];grind
theorem zjp{j:Nat}(a:e w=l0):cd e j (w+1)=cd e j w:=by simp[uX,a]
def ms(f:V0):fG:=(lc (cv f)).map λk=>bl (cd f k 64)
theorem nx:lh (ms f)=cv f:=by simp[ms]
theorem kO{k:Nat}(h:k<cv f):lg (ms f) k []=bl (cd f k 64):=by simp[ms,h]
theorem sw:AC prog 170 [dv (bA f 64:Nat)] (.tb 29 3 ((lc (cv f)).map λj=>iL (bl (cd f j 64)))):=by
 refine cA [.tmp 2] func170 λy=>?_;have p:=dj f 64;have z:=eD f;refine aR ?_;refine aa (pa f) ?_;have o:D0.i64.wrap ((cv f:Int)-1+1)=(cv f:Int):=by rw[aF om om];omega
 refine cZ o ?_;refine⟨om,om,?_⟩;refine zi1 (k:=9) (v:=1) (e:=29) (e2:=3) (n:=cv f) (rp o) (λj=>gl) (λ(m:Nat)s=>(s.sl 0=dv (bA f 64:Nat)/\s.sl 3=.own 9 1/\s.sl 4=al m)/\(m<=64/\TabF s.rw 9 1 29 3 (cv f) (λj=>1+lh (cd f j m)) (λj=>bl<|cd f j m))) (λm=>64-m) (0) (λA qw b i=>⟨(gE b i),⟨om,qw⟩⟩) ?_;intro m B ⟨a,l⟩;have⟨q,c⟩:=l;refine cZ a ?_;refine⟨λh=>aa (ez (bA f 64) m om om) ?_,λh=>?_⟩;have h:m<64:=om;rw[ek f h];refine cZ a ?_;refine⟨λd=>aa (dy _) ?_,λd=>?_⟩;have g:aQ m<cv f:=rz 64 m h d;have t:=c.row (aQ m) g;have u:=fc f (aQ m) q;refine xA a (jb h) @c.top @BY @zi0 t @ap ?_;refine⟨g,g,om,g,om,ah (m+1) ⟨(gE a<|ak h om),⟨om,c.add g (r:=bl (cd f (aQ m) m)++[(m:Int)]) (rp a) (rp a) (λx w=>by simp only[gr,simprocAttr,a,w]) (λj _=>?_)<|λj _=>?_⟩⟩⟩;rw[Ut d];grind;rw[Ut d];split;rename_i e;subst e;rw[cI];rfl;rfl;have e:∀j,cd f j (m+1)=cd f j m:=λj=>zjp d;refine ah (m+1) ⟨(gE a<|ak h om),⟨om,?_⟩⟩;simp only[e];exact c.same gl<|λx=>gl;have:m=64:=om;subst this;exact zi2 c dc om
theorem uc:AC prog 170 [dv (bA f 64:Nat)] (.fr 29 1 (mF (ms f))):=by have:=(sw f).flat;unfold ms mF;rw[fj]at this ⊢;exact this
theorem Fz(m:a<64)(n:k<64)(o:aQ k=aQ a+1):AC prog 291 [al a,al k] (.im (al (lI a k))):=by
 refine cA [.tmp 4] func291 λw=>?_;have f:=fv (a:=a) (b:=k) om om;simp only[↓gp,gq,simprocAttr,gT,f];refine⟨λh=>?_,λh=>?_⟩;have j:¬a&&&k=a:=by grind
 simp[lI,j];have j:a&&&k=a:=gW.1<|by
  grind
 have⟨r,s⟩:=zbp a m k n j;have t:a≠k:=λe=>by grind
 have c:=fv (a:=k) (b:=a) om om;rw[cl k a,s]at c;have l:D0.i64.wrap ((k-a:Nat)-1)=((k-a-1:Nat):Int):=by rw[aF om om];omega
 have d:=ej (a:=k) (b:=k-a-1) om om;have g:k&&&(k-a-1)<64:=by have:k&&&(k-a-1)<=k:=bI;omega
 have i:((aQ _:Nat):Int).tmod 2=((aQ (k&&&(k-a-1))%2:Nat):Int):=rfl
 simp only[↓gp,gq,gT,c,l,d];refine aa (dy _) ?_;simp -dsimp only[↓gp,gq,simprocAttr,gT,jb g,i];unfold lI;grind
theorem zqE{a c:O0}{j:Nat}(d:w<lh a)(e:j<lh c):lg (c.map λb=>lI (lg a w 0) b) j 0=lI (lg a w 0) (lg c j 0):=by grind
theorem qT(c a:O0)(k:Nat)(I:lh c<=64)(J:lh a<=64)(C:∀i,i<lh c->lg c i 0<64/\aQ (lg c i 0)=k)(D:∀i,i<lh a->lg a i 0<64/\aQ (lg a i 0)=k+1) :
 AC prog 244 [aE (bl c),aE (bl a)] (.tb 29 3 ((fy c a).map iL)):=by
 refine cA [.tmp 4] func244 λR=>?_
 refine cZ @ap ?_
 refine⟨om,om,?_⟩
 refine NV (k:=12) (v:=1) (e:=29) (e2:=3) (n:=lh c) (rp @ap) (λj=>gl) (λ(i:Nat)s=>(s.sl 1=aE (bl a)/\s.sl 5=.own 12 1/\s.sl 13=aE (bl c)/\s.sl 14=al (lh c)/\s.sl 15=al i)/\(i<=lh c/\TabP s.rw 12 1 29 3 (lh c) i (fy (c.take i) a))) (λi=>lh c-i) (0) (λK qw g u=>⟨(fB g u @ap),⟨om,qw⟩⟩) ?_
 intro i L ⟨E,F⟩
 obtain⟨N,z⟩:=F
 refine ox E @z.top @ik @ap ?_
 refine⟨λh=>?_,λh=>?_⟩
 have G:lg (bl c) i 0=((lg c i 0:Nat):Int):=bX h;have l:lh (fy (c.take i) a)=i:=by rw[gX,bg];omega
 refine⟨h,h,om,om,h,om,?_⟩;refine TZ (k:=12) (v:=1) (e:=29) (e2:=3) (n:=lh c) (i:=i) (d:=24) (vd:=(L.rw 24).ver+1) (M:=fy (c.take i) a) (r:=ld (lh a) 0) (rp @z.top) l (λj A=>by simp -dsimp only[gr,simprocAttr,z.row j A]) (λj A=>by simp -dsimp only[gr,simprocAttr,z.rest j A]) gl dc dc h (λ(j:Nat)s=>(s.sl 1=aE (bl a)/\s.sl 5=.own 12 1/\s.sl 13=aE (bl c)/\s.sl 14=al (lh c)/\s.sl 15=al i/\s.sl 6=al i/\s.sl 7=al (lg c i 0:Nat)/\s.sl 26=aE (bl a)/\s.sl 27=al (lh a)/\s.sl 28=al j)/\(j<=lh a/\TabP s.rw 12 1 29 3 (lh c) (i+1) (fy (c.take i) a++[pz (a.map λb=>lI (lg c i 0) b) (ld (lh a) 0) j]))) (λj=>lh a-j) (0) (λK qw g u=>⟨(DM g u E @ap G),⟨om,by rw[qB];exact qw⟩⟩) ?_;intro j S ⟨p,H⟩;obtain⟨A,f⟩:=H;have w:lh (a.map λb=>lI (lg c i 0) b)=(ld (lh a) (0:Int)).length:=sp;have m:=f.row i om;rw[Ua l]at m;have y:∀t,lh (pz (a.map λb=>lI (lg c i 0) b) (ld (lh a) 0) t)=lh a:=λt=>by rw[mm w];simp
 refine xA p @f.top @Fb m y @ik @ap ?_;refine⟨λo=>?_,λo=>?_⟩
 have q:lg (bl a) j 0=((lg a j 0:Nat):Int):=bX o;have O:=C i h;have P:=D j o;refine⟨o,o,?_⟩;refine xA p @f.top @Fb m y @ik q ?_;refine⟨kr,h,h,aa (Fz _ _ O.1 P.1 om) ?_⟩;refine xA p @f.top @Fb m y @ik q ?_;refine⟨o,om,kr,ah (j+1) ⟨(gE p (ak o om)),⟨om,?_⟩⟩⟩;have e:fy (c.take i) a++[pz (a.map λb=>lI (lg c i 0) b) (ld (lh a) 0) (j+1)]=(fy (c.take i) a++[pz (a.map λb=>lI (lg c i 0) b) (ld (lh a) 0) j]).set i ((pz (a.map λb=>lI (lg c i 0) b) (ld (lh a) 0) j).set j (lI (lg c i 0) (lg a j 0))):=by rw[za0 l,<- zqE h o,tF w (ss o)]
 rw[e];exact f.set om (rp p) (rp p) (λx Q=>by simp -dsimp only[gr,simprocAttr,p,Q])
 have:j=lh a:=om;subst this;refine ah (i+1) ⟨(fB E p (ak h om)),⟨om,?_⟩⟩;have e:pz (a.map λb=>lI (lg c i 0) b) (ld (lh a) 0) (lh a)=a.map λb=>lI (lg c i 0) b:=by have:=tE w;simpa using this
 have B:=f;rw[e,Oz h]at B;exact B.same gl (λx=>gl)
 have:i=lh c:=om;subst this;rw[av]at z;exact uR z.done dc (λj A=>by have:=List.mem_range.1 A;omega)
noncomputable def Ep(f:V0)(p:Int)(k:Nat):N0:=(lc (cv f+1)).map λj=>if j<k then(kM f p j:Int)else 0
theorem Ox:lh (Ep f n k)=cv f+1:=by simp[Ep]
theorem zby{j:Nat}(h:j<cv f+1):lg (Ep f n w) j 0=if j<w then(kM f n j:Int)else 0:=by simp[Ep,lg,h]
theorem zhz:ld (cv f+1) 0=Ep f n 1:=by refine bE (by simp[Ep]) λj a b=>?_;simp only[gz,Ep,aM,bG];split;have:j=0:=om;subst this;simp[kM];rfl
theorem zhA(h:w<cv f):(Ep f n w).set w (kM f n w)=Ep f n (w+1):=by refine bE (by simp[Ep]) λj a b=>?_;rw[fd];simp only[Ep,aM,bG];by_cases e:w=j;subst e;simp;rw[ac e];by_cases c:j<w;rw[ae c,ae om];rw[ac c,ac om]
theorem sv(H:lM n=k0):AC prog 169 [dv (bA f 64:Nat),al n] (.fr 3 1 (iL (ed f n))):=by
 refine cA [.tmp 4] func169 λU=>?_;have V:=eD f;have a:=nx f;refine aR ?_;refine aa (uc f) ?_;have G:D0.i64.wrap ((cv f:Int)+1)=((cv f+1:Nat):Int):=by rw[aF om om];rfl
 refine ff a G ?_;refine⟨om,om,?_⟩;refine az (λ((k,v,w):Nat×Nat×Nat) s=>(s.sl 1=al n/\s.sl 5=.own 11 v/\s.rw 11=⟨v,.sli 29 1 l0 (mF (ms f))⟩/\s.sl 6=.own 15 w/\s.rw 15=⟨w,.sli 3 1 l0 (iL (Ep f n k))⟩/\s.sl 7=al k)/\(1<=k/\k<=cv f+1/\(k<=cv f\/cv f=0))) (λ(k,v,w)=>cv f+1-k) ((1,1,1)) ⟨(rS a G (zhz f n) @mG),by simp;omega⟩ ?_;intro(k,v,w) J ⟨t,B⟩;obtain⟨o,q,K⟩:=B;have g:=Ox f n k;refine iD t a g ?_;refine⟨λh=>?_,λh=>?_⟩;have c:D0.i64.wrap ((k:Int)-1)=((k-1:Nat):Int):=by rw[aF om om];omega
 have d:=kO f (k:=k-1) om;have l:=kO f h;have x:=fc f (k-1) (ab 64);have C:=fc f k (ab 64);refine Cn t a g c d l ?_;refine⟨kr,om,om,h,h,aa (qT (cd f (k-1) 64) (cd f k 64) (k-1) x C (λi D=>?_) (λi D=>?_)) ?_⟩;have:=fI.1 (aP 0 D);exact⟨this.1,this.2.2⟩;have:=fI.1 (aP 0 D);exact⟨this.1,om⟩;refine Cn t a g c d l ?_;have m:iQ n (fy (cd f (k-1) 64) (cd f k 64))=kM f n k:=by unfold kM;rw[ac om]
 have L:=gX (cd f (k-1) 64) (cd f k 64);have M:=Ot (cd f (k-1) 64) (cd f k 64);refine aa (Qq _ n H om (Oq _ _) om) ?_;rw[m];have b:=zhA f n h;refine xA t a g c d l b ?_;refine⟨om,om,kr,?_⟩;exact ah ((k+1,v,w)) ⟨(MT t (ak h om) c d l b),⟨by dsimp only;omega,by dsimp only;omega,by dsimp only;omega⟩⟩;have m:∀j,j<cv f+1->lg (Ep f n k) j 0=(kM f n j:Int):=λj N=>by rw[zby f n N];split;rfl;rw[Lu om];rfl
 generalize Ep f n k=O at *;refine⟨om,om,?_⟩;refine az (λ((k,v,w,u):Nat×Nat×Nat×Nat) s=>(s.sl 5=.own 11 v/\s.rw 11=⟨v,.sli 29 1 l0 (mF (ms f))⟩/\s.sl 6=.own 15 w/\s.rw 15=⟨w,.sli 3 1 l0 (iL O)⟩/\s.sl 8=.own 39 u/\s.rw 39=⟨u,.sli 3 1 l0 (iL (pz (ed f n) (ld (cv f) 0) k))⟩/\s.sl 41=al (cv f:Nat)/\s.sl 42=al k)/\(k<=cv f)) (λ(k,v,w,u)=>cv f-k) ((0,v,w,(J.rw 39).ver+1)) ⟨(rS t a @qB @mG),om⟩ ?_;intro(k,v,w,u) W ⟨E,Q⟩;have r:lh (ed f n)=(ld (cv f) (0:Int)).length:=by simp[df]
 have y:lh (pz (ed f n) (ld (cv f) 0) k)=cv f:=by rw[mm r];simp
 by_cases p:k<cv f;have c:=ak p om;have d:=kO f p;have x:=fc f k (ab 64);have R:=qS f n k;have S:=qS f n (k+1);have z:D0.i64.wrap (((cd f k 64).length:Int)-(kM f n k:Int))=((cd f k 64).length:Int)-(kM f n k:Int):=aF om om;have A:D0.i64.wrap (((cd f k 64).length:Int)-(kM f n k:Int)-(kM f n (k+1):Int))=((cd f k 64).length:Int)-(kM f n k:Int)-(kM f n (k+1):Int):=aF om om;have o:=m k om;have q:=m (k+1) om;have b:(pz (ed f n) (ld (cv f) 0) k).set k (((cd f k 64).length:Int)-kM f n k-kM f n (k+1))=pz (ed f n) (ld (cv f) 0) (k+1):=by rw[<- pX f n p,tF r (ss p)]
 simp -dsimp only[↓gp,gq,simprocAttr,gT,E,a,g,y,c,d,ap,o,q,z,A,b];refine⟨λ_=>⟨kr,p,p,om,om,om,om,p,om,kr,?_⟩,λF=>absurd p F⟩;exact ah ((k+1,v,w,u)) ⟨(xc8 E c d o q z A b),by dsimp only;omega⟩;refine ox E a g y ?_;refine⟨λF=>absurd F p,λ_=>?_⟩;have e:k=(ld (cv f) (0:Int)).length:=by simp;omega
 have:=tE r;rw[<- e]at this;rw[this]
noncomputable def mr(n:Int)(a:N0):Bool:=aS n a&&!(lh a==0)
theorem fR:mr g c=k0↔aS g c=k0/\0<lh c:=by unfold mr;cases aS g c<;>simp[Nat.pos_iff_ne_zero]
noncomputable def gD(n:Int)(a:N0):Int:=if mr n a=k0 then(aQ (lg a (lh a-1) 0).toNat:Int)-1 else -2
theorem zjo:decide (gD n o < -1)=!mr n o:=by unfold gD;grind
theorem gZ:AC prog 179 [.ag [al n,aE o]] (.im (al (gD n o))):=by
 refine cA [.tmp 2] func179 λi=>?_;simp[dt,dF,gb,jt,hZ,cC]at i;refine aR<|aa (bw n o) ?_;have j:0<lh o->D0.i64.wrap ((lh o)-1)=((lh o-1:Nat)):=λh=>by rw[aF om om];omega
 by_cases b:mr n o=k0;have⟨f,l⟩:=fR.1 b;have m:=HC (dM f) (k:=lh o-1) om;have c:=mf m.1 om;have a:((lh o:Int)==0)=false:=by grind
 have p:=jA (s:=(lg o (lh o-1) 0).toNat) om;refine ox f a (j l) @ar ?_;refine⟨om,om,aa c ?_⟩;have d:D0.i64.wrap _=(aQ (lg o (lh o-1) 0).toNat)-1:=aF om om;have e:gD n o=(aQ _:Int)-1:=ae b;exact DL d e;have e:gD n o=-2:=ac b;rw[e];refine aR ?_;exact λc g=>absurd (fR.2 ⟨ss c,by grind⟩) b
theorem eV(b:Uu o):AC prog 90 [al n,aE o] (.ag [.im (al n),.fr 3 1 (iL (bl (dI (hU o) k0)))]):=by refine cA [.cell 4 31] func90 λc=>?_;refine aR<|aa (vz _ o b) ?_;exact ef
theorem xG(A:k<64)(q:Uu o)(p:lh o<=1000):AC prog 260 [.ag [al n,aE o],al k] (.ag [.im (al n),.fr 3 1 (iL (bl (dI (hU (o.map λx=>fu .i64 x k)) k0)))]):=by
 refine cA [.cell 4 31] func260 λr=>?_;simp only[dt,dT,dF,gb,jt,hZ,cC]at r;refine aR ?_;have l:∀a,a<lh o->(o.take<|a+1).map (λx=>fu .i64 x k)=(o.take a).map (λx=>fu .i64 x k)++[fu .i64 (lg o a 0) k]:=λa h=>by rw[bj 0 h];simp
 refine az (λ((a,v):Nat×Nat) s=>(s.sl 1=al k/\s.sl 2=.ref 2 1 0/\s.rw 2=⟨1,.box 31 [al n,aE o]⟩/\s.sl 4=.ref 4 1 0/\s.rw 4=⟨1,.box 31 [al 0,.v (.slice none 0 0)]⟩/\s.sl 5=.own 7 v/\s.rw 7=⟨v,.sli 3 1 l0<|iL<|(o.take a).map λx=>fu .i64 x k⟩/\s.sl 6=al a)/\(a<=lh o)) (λ(a,v)=>lh o-a) ((0,1)) ⟨nm,sp⟩ ?_;intro(a,v) B ⟨⟨c,d,e,f,g,i,b,j⟩,u⟩;refine XO c d e f g i b j ?_;refine⟨λh=>⟨h,h,by rw[aG,bg];omega,ah ((a+1,v+1)) ⟨(by and_intros<;>(first|(simp only[gr,simprocAttr,c,d,e,f,g,i,b,j,ak h om,l a h];first|done|rfl|(simp;done))|assumption|rfl)),om⟩⟩,λh=>?_⟩;have:a=lh o:=om;subst this;have m:o.take (lh o)=o:=av;rw[m]at b;refine aa (eV n _ ?_) ?_;intro x w;obtain⟨y,z,rfl⟩:=List.mem_map.1 w;exact zhb (q y<|by rwa [m]at z) om;simp only[↓gp,gq,simprocAttr,gT,c,d,e,f,g,i,b,j,m]
theorem WF(e:Uu c)(f:w<64)(s:Nat):hU (c.map λx=>fu .i64 x (w:Int)) s=k0↔∃x∈c,x.toNat&&&w=s:=by
 unfold hU;have a:∀x∈c,fu .i64 x w=x.toNat&&&w:=λx h=>by have:=e x h;rw[<- ej om om];grind
 grind
noncomputable def zdU(a:N0)(w:Nat):N0:=bl (dI (hU (a.map λx=>fu .i64 x (w:Int))) k0)
theorem zjn(f:Uu c)(g:w<64){t:Nat}(l:t<64):ao (zdU c w) t=mZ (ao c) w t:=by
 unfold zdU mZ;rw[vv];refine Bool.eq_iff_iff.2 ⟨λh=>?_,λh=>?_⟩;have⟨s,m,d⟩:=List.any_eq_true.1 h;simp only[aj,aK]at d;have⟨x,b,a⟩:=(WF f g s).1 d.1;have i:t&&&s=t:=by rw[cl];exact d.2
 have j:s&&&x.toNat=s:=by rw[<- a,cl,<- fD,dp]
 have k:s&&&w=s:=by rw[<- a,fD,dp]
 rw[aj];refine⟨eT.2 ⟨x,b,by rw[cl];exact pV i j⟩,?_⟩;rw[aK,cl];exact pV i k;rw[aj,aK]at h;have⟨x,b,a⟩:=eT.1 h.1;have e:x.toNat&&&w<64:=by have:x.toNat&&&w<=w:=wq;omega
 refine List.any_eq_true.2 ⟨x.toNat&&&w,List.mem_range.2 e,?_⟩;rw[aj,aK];exact⟨(WF f g _).2 ⟨x,b,rfl⟩,by rw[fD,h.2,a]⟩
theorem ztJ(h:aS g c=k0)(A:w<64):aS g (zdU c w)=true:=by
 have B:=dM h;obtain⟨C,D,E⟩:=cY.1 h;refine vA ⟨C,D,λk n=>?_⟩;unfold zdU at n ⊢;rw[ap]at n;have q:=Ft (hU (c.map λx=>fu .i64 x (w:Int))) k0;have d:=λi (o:i<lh (dI (hU (c.map λx=>fu .i64 x (w:Int))) k0))=>ja.1 (aP 0 o);have r:=λi (o:i<lh (dI (hU (c.map λx=>fu .i64 x (w:Int))) k0))=>(WF B A _).1 (d i o).1.2;generalize dI (hU (c.map λx=>fu .i64 x (w:Int))) k0=f at *;have m:∀i j,i<j->j<lh f->rx (lg f i 0) (lg f j 0):=λi j s y=>by
  have:=List.pairwise_iff_getElem.1 q i j om y s;have a:lg f i 0=f[i]'om:=by simp[lg,show i<lh f by omega]
  have b:lg f j 0=f[j]:=by simp[lg,y]
  rw[a,b];exact this
 refine⟨?_,λG=>?_,λi o=>?_⟩;obtain⟨x,t,u⟩:=r k n;rw[bX n];obtain⟨i,o,rfl⟩:=eX 0 t;have:=(E i o).1;unfold di at this ⊢;rw[aq]at this ⊢;have F:lg f k 0<=(lg c i 0).toNat:=by rw[<- u];exact bI
 refine⟨om,om,om,?_⟩;omega;rw[bX n,bX om];have p:=m (k-1) k om n;have:=(d k n).1.1;have:=(d (k-1) om).1.1;unfold rQ;unfold rx at p;rw[jb om,jb om];simp only[aj,aq];refine⟨om,om,?_⟩;split;rw[aq];omega;rw[aq];omega;have z:=(d i om).1.1;have l:=(d k n).1;rw[bX n,bX om,ej om om];intro e;have:=ku.1 (d i om).2 (lg f k 0) l.1 l.2 om;have p:=m i k o n;rw[this]at p;exact qD p
theorem fH(h:aS g c=k0):lh c<=64:=by
 have i:=FA (cY.1 h);have d:=dM h;have j:(c.map Int.toNat).Nodup:=by refine List.Pairwise.map _ (λa b=>?_) (List.Pairwise.imp_of_mem (S:=λa b=>0<=a/\0<=b/\a≠b) (λk l f=>⟨(d _ k).1,(d _ l).1,f⟩) i);intro⟨p,q,r⟩ e;omega
 refine aC λs=>?_;have:=(zbb (m:=lc 64) j (λx n=>?_) (by simp;omega)).length_eq;simp at this;omega;obtain⟨y,o,rfl⟩:=List.mem_map.1 n;have:=d y o;exact List.mem_range.2 om
theorem zna(h:aS g c=k0)(b:w<64)(t:Nat)(a:t<64):ci g (zdU c w) t=mZ (ao c) w t:=by unfold ci;rw[ztJ h b,zjn (dM h) b a];rfl
theorem zqD(h:aS g c=k0){w:Nat}(b:w<64){p:Int}(a:lM p=k0):Bl (ci g (zdU c w)) p=ed (mZ (ao c) w) p:=by unfold Bl;rw[ae a];exact zdO p λs d=>zna h b s d
noncomputable def CT(n:Int)(a:N0)(p:Int):fG:=if mr n a=k0/\lM p=k0 then zqz (ao a) p n.toNat else []
theorem Fw{p:Int}(h:¬(mr g c=k0/\lM p=k0)):CT g c p=[]:=ac h
theorem zm9{i:Nat}(h:i<w):lg (lc w) i 0=i:=by grind
theorem zjm{b:Type}(n:Nat)(a:b):ld n a++[a]=ld (n+1) a:=by rw[zW]
theorem Fy:AC prog 266 [.ag [al n,aE o],al p] (.tb 29 3 ((CT n o p).map iL)):=by
 refine cA [.tmp 4] func266 λhl=>?_;simp only[dt,dT,dF,gb,jt,hZ,cC]at hl;refine aR (aa (gZ n o) ?_);have Q:=zjo n o;refine cZ Q ?_;refine⟨λa=>aa (jY p) ?_,λa=>?_⟩;have a:mr n o=true:=ss a;refine aR ?_;refine⟨λB=>?_,λB=>?_⟩;rw[Fw (λh=>by rw[h.2]at B;cases B)];exact yR gl dc;have B:lM p=true:=ss B;have q:=(fR.1 a).1;obtain⟨h1,h6,_⟩:=cY.1 q;have hb:CT n o p=zqz (ao o) p n.toNat:=ae ⟨a,B⟩;rw[hb];have R:=dM q;have a3:=fH q;obtain⟨m,rfl⟩:∃m:Nat,n=m:=⟨n.toNat,om⟩;rw[ar];have a4:=dx (m:=m) om;have t:jl .i64 1 (m:Int)=((2^m:Nat):Int):=eh om;have y:D0.u64.wrap (m:Int)=(m:Int):=dm om;have G:D0.i64.wrap ((m:Int)+1)=((m+1:Nat):Int):=by rw[aF om om];rfl
 refine NW (k:=11) (v:=1) (e:=29) (e2:=3) gl (λj=>gl) (λ(i:Nat)s=>(s.sl 1=al p/\s.sl 2=.ref 2 1 0/\s.rw 2=⟨1,.box 31 [al (m:Nat),aE o]⟩/\s.sl 5=.own 11 (i+1)/\s.sl 6=al i)/\(i<=m+1/\TabG s.rw 11 (i+1) 29 3 i (ld i (ld (m+1) 0)))) (λi=>m+1-i) (0) (λsX qw f C=>⟨(gE f C),⟨om,qw⟩⟩) ?_;intro i sa ⟨H,S⟩;obtain⟨hi,I⟩:=S;refine iD H G @ar ?_;refine⟨λh=>⟨om,om,?_⟩,λh=>?_⟩;refine zfQ ?_;refine ff H @I.top ?_;refine⟨om,?_⟩;exact tD (k:=11) (v:=i+1+1) (e:=29) (e2:=3) (n:=i) (d:=31) (vd:=(sa.rw 31).ver+1) (M:=ld i (ld (m+1) 0)) (r:=ld (m+1) 0) (rp @I.top) sp (λj J=>by simp only[gr,simprocAttr,I.row j J]) (λj J=>by simp only[gr,simprocAttr,I.rest j J]) (rp G) dc dc (i+1) (λsX qw f C=>⟨(DM f C H H (ak (show i<m+1 by omega) om)),⟨om,(zjm i _ ▸ qw:TabG _ _ _ _ _ _ _)⟩⟩) (by first|omega|(simp only;omega)|(dsimp only;omega)|(show _<_;simp;omega));have:i=m+1:=om;subst this;have U:=I.done;refine az (λ(w:Nat)s=>(s.sl 1=al p/\s.sl 2=.ref 2 1 0/\s.rw 2=⟨1,.box 31 [al (m:Nat),aE o]⟩/\s.sl 5=.own 11 (m+1+1)/\s.sl 7=al w)/\(w<=2^m/\TabI s.rw 11 (m+1+1) 29 3 (lc (m+1)) (qG (ao o) p m w))) (λw=>2^m-w) (0) ⟨(jX H),⟨aB _,U.same gl (λx=>gl)⟩⟩ ?_;intro w sb ⟨D,V⟩;obtain⟨hw,K⟩:=V;refine iD D t y ?_;refine⟨λO=>aa (ey w om) ?_,λO=>?_⟩;refine iD D t y ?_;refine aa (xG _ o w om R om) ?_;refine iD D t y (aa (nS _ _ p) ?_);have z:=zqD q (w:=w) om B;unfold zdU at z;rw[z];have a5:=zbv (n:=m) om O;have L:=AJ (mZ (ao o) w) p;have a6:=eD (mZ (ao o) w);have W:=df (mZ (ao o) w) p;generalize X:ed (mZ (ao o) w) p=b at *;have g:=λk=>WC (j:=aQ w) (WD (ao o) p m w) L k;refine iD D t y ?_;refine az (λ((k,u):Nat×Nat) s=>(s.sl 1=al p/\s.sl 2=.ref 2 1 0/\s.rw 2=⟨1,.box 31 [al (m:Nat),aE o]⟩/\s.sl 5=.own 11 (m+1+1)/\s.sl 7=al w/\s.sl 8=al (aQ w:Nat)/\s.sl 9=.own 48 u/\s.rw 48=⟨u,.sli 3 1 l0 (iL b)⟩/\s.sl 10=al k)/\(k<=lh b/\TabI s.rw 11 (m+1+1) 29 3 (lc (m+1)) (qF (qG (ao o) p m w) (aQ w) b k))) (λ(k,u)=>lh b-k) ((0,(sb.rw 48).ver+1)) ⟨(jX D),⟨om,K.same gl (λx=>gl)⟩⟩ ?_;intro(k,u) sc ⟨E,Y⟩;obtain⟨hk,c⟩:=Y;have A:(k=b.length\/aQ w<k)->qF (qG (ao o) p m w) (aQ w) b k=qG (ao o) p m (w+1):=λh=>by
  have e0:qG (ao o) p m (w+1)=qF (qG (ao o) p m w) (aQ w) (ed (mZ (ao o) w) p) (cv (mZ (ao o) w)):=rfl;rw[e0,<- W,X];rcases h with h|h
  rw[h];have:=zjh (M:=qG (ao o) p m w) (hs:=b) h (lh b-k);rw[show k+(lh b-k)=lh b by omega]at this;exact this.symm
 by_cases F:k<lh b;by_cases Z:k<=aQ w;have g:=g k;have a7:=g.small (aQ w-k) (aQ w);have a8:=L k;have b0:=g.len;have a0:=g.row (aQ w-k) om;have N:qF (qG (ao o) p m w) (aQ w) b (k+1)=JA (qF (qG (ao o) p m w) (aQ w) b k) (aQ w-k) (aQ w) (lg b k 0):=by rw[qF,ae Z]
 generalize qF (qG (ao o) p m w) (aQ w) b k=M at *;have P:lg (lc (m+1)) (aQ w-k) 0=aQ w-k:=zm9 om;have l:=c.row (i:=aQ w-k) om;rw[P]at l;have a1:D0.i64.wrap ((aQ w:Int)-(k:Int))=((aQ w-k:Nat):Int):=by rw[aF om om];omega
 have a2:D0.i64.wrap (lg (lg M (aQ w-k) []) (aQ w) 0+lg b k 0)=lg (lg M (aQ w-k) []) (aQ w) 0+lg b k 0:=aF om om;simp only[↓gp,gq,simprocAttr,gT,E,a1,c.top,uw,P,l,a0,bP,bp,a2];refine⟨λ_=>⟨λ_=>⟨kr,om,om,om,om,om,om,F,F,om,om,kr,?_⟩,λh=>absurd Z h⟩,λh=>absurd F h⟩;exact ah ((k+1,u)) ⟨(gE E (ak F om)),⟨by dsimp only;omega,by
  dsimp only;rw[N];exact c.set (i:=aQ w-k) om gl (xr4 P E @c.top l) (λx hx=>by simp only[gr,simprocAttr,P ▸ hx])⟩⟩
 have e:=A (.inr om);rw[e]at c;refine cZ E ?_;refine⟨λ_=>⟨λh=>absurd h Z,λ_=>?_⟩,λh=>absurd F h⟩;exact ah (w+1) ⟨(fB D E (ak O om)),⟨om,c.same gl (λx=>gl)⟩⟩;have e:=A (.inl om);rw[e]at c;refine cZ E ?_;refine⟨λh=>absurd h F,λ_=>?_⟩;exact ah (w+1) ⟨(fB D E (ak O om)),⟨om,c.same gl (λx=>gl)⟩⟩;have:w=2^m:=om;subst this;exact uR K dc (λj J=>by have:=List.mem_range.1 J;omega);have a:mr n o=false:=ss a;rw[Fw (λh=>by rw[h.1]at a;cases a)];exact yR gl dc
theorem aH:AC prog 49 [.ag [al n,aE o]] (.im (aU (aS n o))):=by refine cA [.tmp 2] func49 λb=>?_;refine aR<|aa (CV n o) ?_;exact ef
theorem qc(g:t.size<=2000000):AC prog 12 [fa t,.v (.int .u8 k)] (.fr 9 1 (sL (dO t k))):=by
 refine cA [.tmp 4] func12 λj=>?_;refine aR ?_;refine az (λ(i,v)s=>(s.sl 0=fa t/\s.sl 1=.v (.int .u8 k)/\s.sl 5=.own 5 v/\s.rw 5=⟨v,.sli 9 1 l0<|sL (pU t k i).1⟩/\s.sl 6=al (pU t k i).2/\s.sl 7=al i)/\(i<=t.size)) (λ(i,v)=>t.size-i) ((0,1)) ⟨nm,sp⟩ ?_;intro(i,v) b ⟨c,f⟩;have d:=Li t k i;refine ff c @cN ?_;refine⟨λh=>⟨h,λa=>⟨d.1,om,om,?_⟩,λa=>?_⟩,λh=>⟨om,om,?_⟩⟩;have a:fK t i=k:=by have:=beq_iff_eq.1 a;unfold fK;omega
 exact ah ((i+1,v+1)) ⟨(rS c (ak h om) (uW a) @DT),om⟩;have a:¬fK t i=k:=by have:=beq_eq_false_iff_ne.1 a;unfold fK;omega
 exact ah ((i+1,v)) ⟨(fB c (ak h om)<|Fj a),om⟩;obtain rfl:i=t.size:=om;rfl
theorem iT(p:t.size<=2000000):AC prog 9 [fa t,.v (.int .u8 k)] (.fr 9 1 (sL (dO t k))):=by
 refine cA [.tmp 4] func9 λq=>?_;refine aR<|az (λ((i,v,out,f):Nat×Nat×Q0×Nat) s=>(s.sl 0=fa t/\s.sl 1=.v (.int .u8 k)/\s.sl 5=.own 8 v/\s.rw 8=⟨v,.sli 9 1 l0<|sL out⟩/\s.sl 6=al f/\s.sl 7=al i)/\(i<=t.size+1/\(i<=t.size->out=(pU t k i).1/\f=(pU t k i).2)/\(t.size<i->out=dO t k))) (λ(i,v,out,f)=>t.size+1-i) ((0,1,[],0)) ⟨nm,⟨sp,by simp[pU],sp⟩⟩ ?_;intro(i,v,out,f) r ⟨g,j⟩;obtain⟨u,l,m⟩:=j;have d:=Li t k i;refine ff g @cN ?_;refine⟨λh=>?_,λh=>by grind⟩;obtain⟨rfl,rfl⟩:=l h;refine⟨λe=>?_,λa=>?_⟩;have e:=beq_eq_false_iff_ne.1 e;have c:i<t.size:=om;refine⟨c,λa=>⟨d.1,om,om,?_⟩,λa=>?_⟩;have a:fK t i=k:=by have:=beq_iff_eq.1 a;unfold fK;omega
 exact ah ((i+1,v+1,(pU t k<|i+1).1,(pU t k<|i+1).2)) ⟨(rS g (ak c om) (uW a) @DT),⟨om,λ_=>⟨sp,sp⟩,om⟩⟩;have a:¬fK t i=k:=by have:=beq_eq_false_iff_ne.1 a;unfold fK;omega
 exact ah ((i+1,v,(pU t k i).1,(pU t k i).2)) ⟨(gE g<|ak c om),⟨om,λ_=>⟨by rw[Fj a],by rw[Fj a]⟩,om⟩⟩;have a:=beq_iff_eq.1 a;obtain rfl:i=t.size:=om;refine⟨d.1,om,om,?_⟩;have o:D0.i64.wrap _=((t.size+1):Int):=ak (n:=t.size+1) om om;exact ah ((t.size+1,v+1,dO t k,t.size+1)) ⟨(by and_intros<;>(first|(simp[gr,simprocAttr,g,o,dO])|assumption|rfl)),⟨om,om,λ_=>rfl⟩⟩
theorem gP:AC prog 47 [fa t] (.tup [.im (al (Br t:Nat)),.im (aU (uq t))]):=by
 refine cA [.tmp 2,.tmp 3] func47 λD=>?_;cases f:wQ t with
 | true =>
   rw[(FE f).1,(FE f).2];have g:(t.toList==(⟨#[45]⟩:P0).toList)=true:=by rw[qd];exact f
   exact mg g
 | false =>
   have g:(t.toList==(⟨#[45]⟩:P0).toList)=false:=by rw[qd];exact f
   have j:(0<t.size/\¬PO t t.size=k0)\/t.size=0->Br t=0/\uq t=false:=λh=>by rcases h with h|h;exact zd3 f (Bool.eq_false_iff.2 h.2);unfold Br uq;rw[f,h];exact⟨rfl,rfl⟩
   refine cZ g ?_;refine⟨λl=>⟨λy=>?_,λy=>?_⟩,λl=>j (Or.inr (by have:=beq_iff_eq.1 l;omega)) |>.imp (λh=>by rw[h];rfl) (λh=>h)⟩;have:=j (Or.inl ⟨om,λh=>by have:=ztM h;omega⟩);exact⟨by rw[this.1];rfl,this.2⟩;refine az (λ(i:Nat)s=>(s.sl 0=fa t/\s.sl 4=al (oU t i:Nat)/\s.sl 5=al i)/\(i<=t.size/\PO t i=k0)) (λi=>t.size-i) (0) ⟨(jX @rN),⟨sp,rfl⟩⟩ ?_;intro i E ⟨p,q⟩;obtain⟨c,o⟩:=q;refine cZ p ?_;have r:fK t i=(lg t.data.toList i 0).toNat:=rfl;rw[<- r]
   refine⟨λc=>?_,λc=>by obtain rfl:i=t.size:=om
                        rw[(FG f o).1,(FG f o).2,ay (show 1<=t.size by have:=beq_eq_false_iff_ne.1 l;omega)];exact⟨rfl,rfl⟩⟩
   have u:i<t.size:=om;have m:=λh=>j (Or.inl ⟨om,λe=>absurd (zd2 (t:=t) u h) (by rw[e];simp)⟩);have b:¬(97<=fK t i/\fK t i<=102/\(i=0\/fK t (i-1)<fK t i))->((Br t:Nat):Int)=0/\uq t=false:=λh=>by rw[(m h).1,(m h).2];exact⟨rfl,rfl⟩
   refine⟨c,λz=>⟨c,λk=>b om,λA=>?_⟩,λk=>b om⟩;have F:=OF o;have B:2^(fK t i-97)<64:=by have:2^(fK t i-97)<2^6:=bN om om;omega
   have d:D0.u8.wrap ((fK t i:Int)-97)=((fK t i-97:Nat):Int):=by simp[D0.wrap,D0.bits,D0.signed];omega
   have a:D0.u64.wrap ((fK t i-97:Nat):Int)=((fK t i-97:Nat):Int):=dm om;have n:EX .i64 ((oU t i:Nat):Int) (jl .i64 1 ((fK t i-97:Nat):Int))=((oU t (i+1):Nat):Int):=by rw[eh om,nQ om om,AE]
   have w:=FD t i;rw[o,au]at w;refine⟨kr,λl=>?_,λl=>⟨c,by rw[d,a];omega,?_⟩⟩;have l:0<i:=om;have x:D0.i64.wrap ((i:Int)-1)=((i-1:Nat):Int):=by rw[aF om om];omega
   rw[x];refine⟨c,om,om,λk=>?_,λk=>⟨c,by rw[d,a];omega,?_⟩⟩;refine b ?_;unfold fK at k ⊢;rw[ar]at k;omega;have C:fK t (i-1)<fK t i:=by unfold fK at k ⊢;rw[ar]at k;omega
   exact ah (i+1) ⟨(MT p r.symm d a n (ak c om)),⟨om,by rw[w];exact ay ⟨om,om,Or.inr C⟩⟩⟩;exact ah (i+1) ⟨(MT p r.symm d a n (ak c om)),⟨om,by rw[w];exact ay ⟨om,om,Or.inl om⟩⟩⟩
theorem gQ(G:t.size<=2000000):AC prog 32 [fa t] (.tup [.im (al (Br t:Nat)),.im (aU (uq t))]):=by
 refine cA [.tmp 2,.tmp 3] func32 λH=>?_;refine aR ?_;refine az (λ(i:Nat)s=>(s.sl 0=fa t/\s.sl 4=al (oU t i:Nat)/\s.sl 5=al i)/\(i<=t.size/\PO t i=k0/\(wQ t=k0->i=0))) (λi=>t.size-i) (0) ⟨(jX @rN),⟨sp,rfl,λ_=>rfl⟩⟩ ?_;intro i I ⟨l,u⟩;have⟨m,n,z⟩:=u;have w:(t.toList==(⟨#[]⟩:P0).toList)=decide (t.size=0):=by rw[qd,aZ,aq,aq];exact⟨λh=>by rw[h];rfl,λh=>iR<|qm h⟩
 cases c:wQ t with
 | true =>
   have d:(t.toList==(⟨#[45]⟩:P0).toList)=true:=by rw[qd];exact c
   obtain rfl:=z c;have B:t.size=1:=by rw[show t=⟨#[45]⟩ from cH c];rfl
   rw[(FE c).1,(FE c).2];refine ox l d w B ?_;exact⟨rfl,rfl⟩
 | false =>
   have d:(t.toList==(⟨#[45]⟩:P0).toList)=false:=by rw[qd];exact c
   rcases bf i t.size with m|m;have a:((i:Int)<(t.size:Int))=True:=bO om;have C:fK t i=(lg t.data.toList i 0).toNat:=rfl;have e:D0.i64.wrap (D0.i64.wrap (((lg t.data.toList i 0).toNat:Nat):Int)-97)=(fK t i:Int)-97:=by have D:=zth t i;have E:D0.i64.wrap ((fK t i:Nat):Int)=((fK t i:Nat):Int):=aF om om;rw[<- C,E,aF om om]
   have g:¬(97<=fK t i/\fK t i<=102/\(i=0\/fK t (i-1)<fK t i))->(0:Int)=((Br t:Nat):Int)/\l0=uq t:=λh=>by have:=zd3 c<|zd2 (t:=t) m h;rw[this.1,this.2];exact⟨rfl,rfl⟩
   refine nN l d w a e ?_;refine⟨m,aa (fe _ _ _) ?_⟩;by_cases f:97<=fK t i/\fK t i<=102;have J:=OF n;have o:(fK t i:Int)-97=((fK t i-97:Nat):Int):=om;have x:(decide ((0:Int)<=((fK t i-97:Nat):Int))&&decide (((fK t i-97:Nat):Int)<=5))=true:=by simp;omega
   have j:D0.u64.wrap ((fK t i-97:Nat):Int)=((fK t i-97:Nat):Int):=dm om;have y:=znh n f.1;have F:2^(fK t i-97)<64:=by have:2^(fK t i-97)<2^6:=bN om om;omega
   have A:=FD t i;rw[n,au]at A;rw[o]at *;refine nN l a e x j ?_;have k:(!(decide True&&decide (((fK t i-97:Nat):Int)<=5)))=false:=by simp;omega
   have p:(wH .i64 ((oU t i:Nat):Int) ((fK t i-97:Nat):Int) != 0)=l0↔(i=0\/fK t (i-1)<fK t i):=by rw[zmk om,bne_eq_false_iff_eq,<- y];omega
   refine⟨λ_=>⟨λb=>?_,λb=>?_⟩,λb=>by rw[k]at b;cases b⟩;grind;have q:PO t (i+1)=true:=by rw[A];exact ay ⟨f.1,f.2,p.1 b⟩
   have r:D0.i64.wrap (((oU t i:Nat):Int)+jl .i64 1 ((fK t i-97:Nat):Int))=((oU t (i+1):Nat):Int):=by have z:(0:Int)<=((2^(fK t i-97):Nat):Int):=lE _;rw[eh om,aF om om,<- zng q];rfl
   exact ah (i+1) ⟨(DM l e j r<|ak m om),⟨om,q⟩⟩;refine iD l a e ?_;grind;obtain rfl:i=t.size:=om;have a:((t.size:Int)<(t.size:Int))=False:=aX om;rw[(FG c n).1,(FG c n).2];refine ox l d w a ?_;rw[aZ,aq,bC,bJ];omega
theorem xH(h:OkSet t):AC prog 47 [fa t] (.tup [.im (al (oU t t.size:Nat)),.im (aU k0)]):=by have:=gP t;rwa [h.ps.1,h.ps.2]at this
theorem xI(h:OkSet t):AC prog 32 [fa t] (.tup [.im (al (oU t t.size:Nat)),.im (aU k0)]):=by have:=gQ t (by have:=h.hi;omega);rwa [h.ps.1,h.ps.2]at this
def mu(a:Q0):N0:=a.map λp=>((oU p p.size:Nat):Int)
theorem AL(h:w<lh d):mu (d.take (w+1))=mu (d.take w)++[((oU (lg d w ⟨#[]⟩) (lg d w ⟨#[]⟩).size:Nat):Int)]:=by unfold mu;rw[bj _ h,cq];rfl
def Mc(n:Nat):P0:=⟨#[UInt8.ofNat (48+n)]⟩
structure OkText (t:ByteArray) (n:Nat) (rest:ByteArray) (ps:List ByteArray):Prop where
 size:2<=t.size/\t.size<=1000
 pts:1<=n/\n<=6
 b0:fK t 0=48+n
 b1:fK t 1=58
 tail:t.extract 2 t.size=rest
 rsize:rest.size<=1000
 full:(rest.toList==(⟨#[]⟩:ByteArray).toList)=false
 parts:dO rest 44=ps
 plen:ps.length<=1000
 pne:0<ps.length
 sets:∀p∈ps,OkSet p
 head:dO t 58=[Mc n,rest]
 cx:ZU n (mu ps)
theorem oh{s:St}(x y z:Value):br s a (.tup [.im (.v x),.im (.v y),.im (.v z)])=s.put (some a) (.tup [.v x,.v y,.v z]):=by simp[br,bo,cM,eu,gN,fL,fP,mY]
theorem HG{a:P0}(n:OkText h w a d):AC prog 116 [fa h] (.tup [.im (al w),.im (fa a),.im (aU k0)]):=by
 refine cA [.tmp 2,.tmp 3,.tmp 4] func116 λg=>?_;have i:=n.size;have j:=n.pts;have e:(lg h.data.toList 0 0).toNat=48+w:=n.b0;have f:(lg h.data.toList 1 0).toNat=58:=n.b1;simp (maxSteps:=9^7) -dsimp only[↓gp,gq,reduceCtorEq,lj,lm,lp,ll,lu,lr,lw,lz,lA,lB,lC,lk,gT,e,f];have c:D0.u8.wrap (((48+w:Nat):Int)-48)=(w:Int):=by simp[D0.wrap,D0.bits,D0.signed];omega
 refine⟨λ_=>⟨om,λ_=>⟨om,λ_=>⟨om,λb=>(by simp at b),λ_=>⟨kr,om,om,?_,n.tail.symm⟩⟩,λb=>om⟩,λb=>om⟩,λb=>om⟩;rw[c,aF om om]
theorem Bp{o:P0}(n:OkText h w o d):AC prog 42 [fa h] (.tup [.ag [.im (al w),.fr 3 1 (iL (mu d))],.im (aU k0)]):=by
 refine cA [.cell 2 31,.tmp 3] func42 λE=>?_;simp (maxSteps:=9^7) -dsimp only[↓gp,gq,reduceCtorEq,lj,lm,lp,ll,lu,lr,lw,lz,lA,lB,lC,lk,gT];refine aa (HG n) ?_;simp (maxSteps:=9^7) -dsimp only[↓gp,gq,reduceCtorEq,lj,lm,lp,ll,lu,lr,lw,lz,lA,lB,lC,lk,gT,oh,n.full];refine aa (qc o 44 (by have:=n.rsize;omega)) ?_;rw[n.parts];simp (maxSteps:=9^7) -dsimp only[↓gp,gq,reduceCtorEq,lj,lm,lp,ll,lu,lr,lw,lz,lA,lB,lC,lk,gT,cN];refine az (λ((k,u,q,t,v,y):Nat×Nat×PV×RK×Nat×Nat) s=>s.sl 2=.ref 2 1 0/\s.rw 2=⟨1,.box 31 [al 0,.v (.slice none 0 0)]⟩/\s.sl 7=.ref 7 y 0/\s.rw 7=⟨y,.box 31 [al w,q]⟩/\s.rw 44=⟨u,t⟩/\s.sl 26=.own 26 v/\s.rw 26=⟨v,.sli 9 1 l0 (sL d)⟩/\s.sl 27=al (lh d)/\s.sl 28=al k/\(k<=lh d/\((k=0/\q=.v (.slice none 0 0))\/(0<k/\q=.own 44 u/\t=.sli 3 1 l0 (iL (mu (d.take k))))))) (λ(k,u,q,t,v,y)=>lh d-k) ((0,0,.v (.slice none 0 0),.dead,1,1)) (by refine⟨?_,?_,?_,?_,?_,?_,?_,?_,?_,sp⟩<;>(first|(simp (maxSteps:=9^7) -dsimp only[gr,lj,lm,ll,lk,lw,cN];first|done|rfl|(simp;done))|assumption|rfl)) ?_;intro(k,u,q,t,v,y) F ⟨i,j,l,m,a,b,c,g,e,x⟩;obtain⟨G,z⟩:=x;have p:lh (mu (d.take k))=k:=by unfold mu;simp;omega
 rcases z with⟨rfl,rfl⟩|⟨H,rfl,rfl⟩;simp (maxSteps:=9^7) -dsimp only[↓gp,gq,reduceCtorEq,lj,lm,lp,ll,lu,lr,lw,lz,lA,lB,lC,lk,gT,i,j,l,m,a,b,c,g,e,cN];refine⟨λf=>⟨f,f,aa (xH _ (n.sets _ (aP ⟨#[]⟩ f))) ?_⟩,λr=>?_⟩;simp (maxSteps:=9^7) -dsimp only[↓gp,gq,reduceCtorEq,lj,lm,lp,ll,lu,lr,lw,lz,lA,lB,lC,lk,gT,i,j,l,m,a,b,c,g,e,cN];have A:mu (d.take 1)=[((oU (lg d 0 ⟨#[]⟩) (lg d 0 ⟨#[]⟩).size:Nat):Int)]:=AL f;exact ah ((1,u+1,.own 44 (u+1),.sli 3 1 l0 (iL (mu (d.take 1))),v,y)) (by refine⟨?_,?_,?_,?_,?_,?_,?_,?_,?_,⟨om,Or.inr ⟨om,rfl,rfl⟩⟩⟩<;>(first|(simp (maxSteps:=9^7) -dsimp only[gr,lj,lm,ll,lk,lw,i,j,l,m,a,b,c,g,e,A];first|done|rfl|(simp;done))|assumption|rfl)) (by first|omega|(simp only;omega)|(dsimp only;omega)|(show _<_;simp;omega));exact absurd n.pne r;simp (maxSteps:=9^7) -dsimp only[↓gp,gq,reduceCtorEq,lj,lm,lp,ll,lu,lr,lw,lz,lA,lB,lC,lk,gT,i,j,l,m,a,b,c,g,e,cN,dB,p];refine⟨λf=>⟨f,f,aa (xH _ (n.sets _ (aP ⟨#[]⟩ f))) ?_⟩,λr=>?_⟩;simp (maxSteps:=9^7) -dsimp only[↓gp,gq,reduceCtorEq,lj,lm,lp,ll,lu,lr,lw,lz,lA,lB,lC,lk,gT,i,j,l,m,a,b,c,g,e,cN,p];have D:=n.plen;exact⟨om,ah ((k+1,u+1,.own 44 (u+1),.sli 3 1 l0 (iL (mu (d.take (k+1)))),v,y)) (by refine⟨?_,?_,?_,?_,?_,?_,?_,?_,?_,⟨om,Or.inr ⟨om,rfl,rfl⟩⟩⟩<;>(first|(simp (maxSteps:=9^7) -dsimp only[gr,lj,lm,ll,lk,lw,i,j,l,m,a,b,c,g,e,AL f,ak f om];first|done|rfl|(simp;done))|assumption|rfl)) (by first|omega|(simp only;omega)|(dsimp only;omega)|(show _<_;simp;omega))⟩;obtain rfl:k=lh d:=om;rw[av];have B:=vA n.cx;refine aa (aH w (mu d)) ?_;simp (maxSteps:=9^7) -dsimp only[↓gp,gq,reduceCtorEq,lj,lm,lp,ll,lu,lr,lw,lz,lA,lB,lC,lk,gT,i,j,l,m,a,b,c,g,e,B,p,av]
def Uy(r:Row)(b:Nat)(d:PV->Prop):Prop:=r.ver=b/\match r.kind with
 | .nil=>∃a:N0,[]=a.map (λn=>PV.v (.int .u8 n))/\d (.v (.string (a.foldl (λr n=>r.push (UInt8.ofNat n.toNat)) ByteArray.empty)))
 | .sli _ e _ c=>e=1/\∃a:N0,c=a.map (λn=>PV.v (.int .u8 n))/\d (.v (.string (a.foldl (λr n=>r.push (UInt8.ofNat n.toNat)) ByteArray.empty)))
 | _=>False
theorem zi(rw:S0)(j a:Nat):rf T rw 52 9 (.own j a) i=Uy (rw j) a i:=by have c:(T 52).k=.sli 5:=zkP;have d:(T 9).k=.str:=T9k;have e:(T 5).k=.int .u8:=T5k;have f:(T 52).size=1:=zkX;have g:(T 9).size=1:=T9s;have b:(T 5).size=1:=T5s;unfold rf Uy;simp only[c,d,e,f,g,b,Qk];cases h:(rw j).kind<;>simp
theorem Uz(d:Bool)(n:Int):Uy ⟨a,.sli k 1 d [.v (.int .u8 n)]⟩ a i=i (.v (.string ([n].foldl (λr n=>r.push (UInt8.ofNat n.toNat)) ByteArray.empty))):=by
 unfold Uy;simp only[cC];refine propext ⟨λ⟨f,b,h⟩=>?_,λh=>⟨[n],rfl,h⟩⟩
 match f,b with
 | [m],b=>simp at b;subst b;exact h
theorem zd1:lit [.v (.int .u8 n)]=[.v (.int .u8 n)]:=rfl
theorem FC:(Mc a).size=1:=rfl
theorem ztK(h:w<=9):((Mc w).data.toList.getD 0 0).toNat=48+w:=by show(UInt8.ofNat (48+w)).toNat=48+w;simp;omega
theorem ztL(h:w<=9):([(48+w:Int)].foldl (λr w=>r.push (UInt8.ofNat w.toNat)) ByteArray.empty)++⟨#[]⟩=Mc w:=by
 have:∀m:Fin 10,([(48+(m.val:Nat):Int)].foldl (λr w=>r.push (UInt8.ofNat w.toNat)) ByteArray.empty)++⟨#[]⟩=Mc m.val:=by decide +kernel
 exact this ⟨w,om⟩
theorem HH(q:1<=w)(k:w<=9):AC prog 35 [al w] (.im (fa (Mc w))):=by
 refine cA [.tmp 2] func35 λr=>?_;have l:((w:Int)==0)=false:=beq_eq_false_iff_ne.2 om;simp -dsimp only[↓gp,gq,simprocAttr,gT,l];refine az (λ((m,o):Nat×P0) s=>s.sl 0=al m/\s.sl 3=aU l0/\s.sl 4=fa o/\((m=w/\o=⟨#[]⟩)\/(m=0/\o=Mc w))) (λ(m,o)=>m) ((w,⟨#[]⟩)) (by refine⟨?_,?_,?_,Or.inl ⟨rfl,rfl⟩⟩<;>(first|(simp -dsimp only[gr,simprocAttr,aD (show ¬((w:Int)<0)by omega)];first|done|rfl|(simp;done))|assumption|rfl)) ?_;intro(m,o) t ⟨a,b,c,e⟩;rcases e with⟨rfl,rfl⟩|⟨rfl,rfl⟩
 have f:((m:Int)).tmod 10=(m:Int):=Int.tmod_eq_of_lt om om;have g:D0.i64.wrap (48+(m:Int))=48+(m:Int):=aF om om;have d:D0.u8.wrap (48+(m:Int))=48+(m:Int):=by simp[D0.wrap,D0.bits,D0.signed];omega
 have i:((m:Int)).tdiv 10=0:=Int.tdiv_eq_zero_of_lt om om;have j:=ztL k;simp (maxSteps:=9^7) -dsimp only[↓gp,gq,reduceCtorEq,lj,lm,lp,ll,lu,lr,lw,lz,lA,lB,lC,lk,gT,a,b,c,zi,Uz,zd1,f,g,d,i,j];refine⟨λ_=>⟨dc,λh=>absurd h om,λ_=>⟨?_,dc,ah ((0,Mc m)) (by refine⟨?_,?_,?_,Or.inr ⟨rfl,rfl⟩⟩<;>(first|(simp -dsimp only[gr,simprocAttr,a,b,c,f,g,d,i,j];first|done|rfl|(simp;done))|assumption|rfl)) (by first|omega|(simp only;omega)|(dsimp only;omega)|(show _<_;simp;omega))⟩⟩,λh=>?_⟩;show 1+0<=9223372036854775807;omega;simp at h;omega;simp -dsimp only[↓gp,gq,simprocAttr,gT,a,b,c,show(((0:Nat):Int) != 0)=l0 from rfl]
theorem Qr(p:1<=w)(m:w<=9):AC prog 111 [fa (Mc w),al 12] (.tup [.im (al w),.im (aU k0)]):=by
 refine cA [.tmp 4,.tmp 5] func111 λx=>?_;have g:=ztK m;have h:(((48+w:Nat):Int)==45)=false:=beq_eq_false_iff_ne.2 om;have f:((1:Nat):Int)=1:=rfl;simp -dsimp only[↓gp,gq,simprocAttr,gT,FC,g,h,f];refine az (λ(i:Nat)s=>s.sl 0=fa (Mc w)/\s.sl 6=aU l0/\s.sl 7=fa (Mc w)/\s.sl 8=al (if i=0 then 0 else w:Nat)/\s.sl 9=al i/\(i<=1)) (λi=>1-i) (0) (by refine⟨?_,?_,?_,?_,?_,sp⟩<;>(first|(simp -dsimp only[gr,simprocAttr];first|done|rfl|(simp;done))|assumption|rfl)) ?_;intro i y ⟨a,b,c,d,e,q⟩;have r:i=0\/i=1:=om;rcases r with rfl|rfl
 have t:((0:Nat):Int)=0:=rfl;have j:D0.u8.wrap (((48+w:Nat):Int)-48)=(w:Int):=by simp[D0.wrap,D0.bits,D0.signed];omega
 have o:D0.i64.wrap (w:Int)=(w:Int):=aF om om;have u:D0.i64.wrap (10*0)=0:=dc;have n:D0.i64.wrap (0+(w:Int))=(w:Int):=by rw[Int.zero_add];exact o
 have k:D0.i64.wrap (0+1)=1:=dc;simp (maxSteps:=9^7) -dsimp only[↓gp,gq,reduceCtorEq,lj,lm,lp,ll,lu,lr,lw,lz,lA,lB,lC,lk,gT,a,b,c,d,e,FC,g,f,t];refine⟨λ_=>⟨λl=>absurd l om,λ_=>ah (1) (by refine⟨?_,?_,?_,?_,?_,om⟩<;>(first|(simp (maxSteps:=9^7) -dsimp only[gr,lj,lm,ll,lk,lw,a,b,c,d,e,j,o,u,n,k];first|done|rfl|(simp;done))|assumption|rfl)) (by first|omega|(simp only;omega)|(dsimp only;omega)|(show _<_;simp;omega))⟩,λl=>absurd l om⟩;simp -dsimp only[↓gp,gq,simprocAttr,gT,a,b,c,d,e,FC,g,f];refine aa (HH p m) ?_;simp -dsimp only[↓gp,gq,simprocAttr,gT,a,b,c,d,e,FC,du]
theorem Ku(a:1<=w)(b:w<=9):AC prog 40 [fa (Mc w)] (.tup [.im (al w),.im (aU k0)]):=by refine cA [.tmp 2,.tmp 3] func40 λc=>?_;refine aR (aa (Qr a b) ?_);exact ef
theorem Bq{e:P0}(n:OkText h w e d):AC prog 28 [fa h] (.tup [.ag [.im (al w),.fr 3 1 (iL (mu d))],.im (aU k0)]):=by
 refine cA [.cell 2 31,.tmp 3] func28 λJ=>?_;simp -dsimp only[↓gp,gq,simprocAttr,gT];refine aa (iT h 58 (by have:=n.size.2;omega)) ?_;rw[n.head];have C:(((2:Nat):Int) != 2)=false:=rfl;simp (maxSteps:=9^7) -dsimp only[↓gp,gq,reduceCtorEq,lj,lm,lp,ll,lu,lr,lw,lz,lA,lB,lC,lk,gT,cN,C];refine⟨om,aa (Ku n.pts.1 (by have:=n.pts;omega)) ?_⟩;simp (maxSteps:=9^7) -dsimp only[↓gp,gq,reduceCtorEq,lj,lm,lp,ll,lu,lr,lw,lz,lA,lB,lC,lk,gT];refine⟨om,aa (iT e 44 (by have:=n.rsize;omega)) ?_⟩;rw[n.parts];simp -dsimp only[↓gp,gq,simprocAttr,gT,cN];refine az (λ((k,u,t,B,v,y,z):Nat×Nat×PV×RK×Nat×Nat×Nat) s=>s.sl 2=.ref 2 1 0/\s.rw 2=⟨1,.box 31 [al 0,.v (.slice none 0 0)]⟩/\s.sl 7=.ref 7 y 0/\s.rw 7=⟨y,.box 31 [al w,t]⟩/\s.rw 58=⟨u,B⟩/\s.sl 4=.own 13 z/\s.rw 13=⟨z,.sli 9 1 l0 (sL [Mc w,e])⟩/\s.sl 6=aU k0/\s.sl 8=.own 30 v/\s.rw 30=⟨v,.sli 9 1 l0 (sL d)⟩/\s.sl 9=al k/\(k<=lh d/\((k=0/\t=.v (.slice none 0 0))\/(0<k/\t=.own 58 u/\B=.sli 3 1 l0 (iL (mu (d.take k))))))) (λ(k,u,t,B,v,y,z)=>lh d-k) ((0,0,.v (.slice none 0 0),.dead,1,1,1)) (by refine⟨?_,?_,?_,?_,?_,?_,?_,?_,?_,?_,?_,sp⟩<;>(first|(simp -dsimp only[gr,simprocAttr,cN];first|done|rfl|(simp;done))|assumption|rfl)) ?_;intro(k,u,t,B,v,y,z) K ⟨f,g,i,j,a,l,b,m,o,c,p,D⟩;obtain⟨L,E⟩:=D;have r:lh (mu (d.take k))=k:=by unfold mu;simp;omega
 have x:[Mc w,e].getD 1 ⟨#[]⟩=e:=rfl;rcases E with⟨rfl,rfl⟩|⟨M,rfl,rfl⟩
 simp (maxSteps:=9^7) -dsimp only[↓gp,gq,reduceCtorEq,lj,lm,lp,ll,lu,lr,lw,lz,lA,lB,lC,lk,gT,f,g,i,j,a,l,b,m,o,c,p,cN,x,n.full];refine⟨λq=>⟨om,q,q,aa (xI _ (n.sets _ (aP ⟨#[]⟩ q))) ?_⟩,λA=>absurd n.pne A⟩;simp -dsimp only[↓gp,gq,simprocAttr,gT,f,g,i,j,a,l,b,m,o,c,p,cN];have F:mu (d.take 1)=[((oU (lg d 0 ⟨#[]⟩) (lg d 0 ⟨#[]⟩).size:Nat):Int)]:=AL q;exact ah ((1,u+1,.own 58 (u+1),.sli 3 1 l0 (iL (mu (d.take 1))),v,y,z)) (by refine⟨?_,?_,?_,?_,?_,?_,?_,?_,?_,?_,?_,⟨om,Or.inr ⟨om,rfl,rfl⟩⟩⟩<;>(first|(simp -dsimp only[gr,simprocAttr,f,g,i,j,a,l,b,m,o,c,p,F];first|done|rfl|(simp;done))|assumption|rfl)) (by first|omega|(simp only;omega)|(dsimp only;omega)|(show _<_;simp;omega));simp (maxSteps:=9^7) -dsimp only[↓gp,gq,reduceCtorEq,lj,lm,lp,ll,lu,lr,lw,lz,lA,lB,lC,lk,gT,f,g,i,j,a,l,b,m,o,c,p,cN,dB,r,x,n.full];refine⟨λq=>⟨om,q,q,aa (xI _ (n.sets _ (aP ⟨#[]⟩ q))) ?_⟩,λA=>?_⟩;simp -dsimp only[↓gp,gq,simprocAttr,gT,f,g,i,j,a,l,b,m,o,c,p,cN,r];have I:=n.plen;exact⟨om,ah ((k+1,u+1,.own 58 (u+1),.sli 3 1 l0 (iL (mu (d.take (k+1)))),v,y,z)) (by refine⟨?_,?_,?_,?_,?_,?_,?_,?_,?_,?_,?_,⟨om,Or.inr ⟨om,rfl,rfl⟩⟩⟩<;>(first|(simp -dsimp only[gr,simprocAttr,f,g,i,j,a,l,b,m,o,c,p,AL q,ak q om];first|done|rfl|(simp;done))|assumption|rfl)) (by first|omega|(simp only;omega)|(dsimp only;omega)|(show _<_;simp;omega))⟩;obtain rfl:k=lh d:=om;rw[av];have G:=vA n.cx;refine aa (bw w (mu d)) ?_;simp -dsimp only[↓gp,gq,simprocAttr,gT,f,g,i,j,a,l,b,m,o,c,p,G,r,av]
def UA(n:Nat):N0:=ld n 0
theorem FH(q:a<=100):AC prog 249 [al a] (.tb 29 3 (ld (a+1) (iL (UA (a+1))))):=by
 refine cA [.tmp 2] func249 λr=>?_;have o:D0.i64.wrap (a+1)=((a+1:Nat)):=by rw[aF om om];rfl
 refine ff o @ar ?_;refine⟨om,om,?_⟩;refine zg5 (λ(i:Nat)s=>(s.sl 0=al a/\s.sl 3=.own 7 1/\s.rw 7=⟨1,.tab 29<|oQ 7 (a+1) i⟩/\s.sl 9=al (a+1:Nat)/\s.sl 10=al i)/\(i<=a+1/\(∀j,j<i->s.rw (dq 7 j)=⟨1,.sli 3 1 l0<|iL<|UA<|a+1⟩)/\∀j,i<=j->s.rw (dq 7 j)=⟨0,.dead⟩)) (λi=>a+1-i) (0) (Wk.tab (k:=7) (v:=1) (e:=29) (c:=ld (a+1) (.v<|.slice none 0 0)) gl<|NX _) ⟨(by and_intros<;>(first|(simp only[gr,simprocAttr,<- Ub];first|done|rfl|(simp;done))|assumption|rfl)),⟨sp,λj h=>absurd h om,λj _=>gl⟩⟩ ?_;intro i p ⟨f,l⟩;have m:=f.2.2.1;have⟨t,n,b⟩:=l;refine ox f o @ik @ar ?_;refine⟨λh=>⟨om,om,h,om,?_⟩,λh=>?_⟩;exact Fc _ (Wk.ren (d:=17) (k:=7) (k':=dq 7 i) (vk:=1) (et:=29) (c:=iL (UA<|a+1)) (rfl) (rp f) (rp<|b i<|ab _) dc<|za2 h) ⟨(gE f<|ak h om),⟨om,λj g=>(by
  by_cases e:j=i;simp_all[gr,simprocAttr];simp[gr,simprocAttr,e,n j om]),λj g=>(by
  have e:¬j=i:=om;simp[gr,simprocAttr,e,b j om])⟩⟩
 obtain rfl:i=a+1:=om;refine zmc (n:=a+1) dc om (by rw[m,za1]) sp λj g=>?_;grind
theorem zjl:ld (a+1) (iL (UA (a+1)))=(ld (a+1) (ld (a+1) (0:Int))).map iL:=by simp[UA]
theorem Fv:AC prog 152 [.ag [al n,aE o],al p] (.tb 29 3 ((CT n o p).map iL)):=by
 refine cA [.tmp 4] func152 λW=>?_;simp only[dt,dT,dF,gb,jt,hZ,cC]at W;refine aR (aa (aH n o) ?_);refine aR ?_;refine⟨λH=>⟨λE=>aa (gB p) ?_,λE=>?_⟩,λH=>?_⟩;have a:aS n o=true:=ss H;have X:mr n o=true:=fR.2 ⟨a,by simp at E;exact List.length_pos_iff.2 E⟩;refine aR ?_;refine⟨λA=>?_,λA=>?_⟩;rw[Fw (λh=>by rw[h.2]at A;cases A)];exact yR gl dc;have A:lM p=true:=ss A;obtain⟨h1,h6,_⟩:=cY.1 a;have Y:CT n o p=zqz (ao o) p n.toNat:=ae ⟨X,A⟩;rw[Y];have K:=dM a;have Z:=fH a;obtain⟨m,rfl⟩:∃m:Nat,n=m:=⟨n.toNat,om⟩;rw[ar];have a0:=dx (m:=m) om;have q:jl .i64 1 (m:Int)=((2^m:Nat):Int):=eh om;have r:D0.u64.wrap (m:Int)=(m:Int):=dm om;refine aa (FH m om) ?_;rw[zjl];refine aR (aa (cj _ o K) ?_);refine aR ?_;refine az (λ(w:Nat)s=>(s.sl 1=al p/\s.sl 2=.ref 2 1 0/\s.rw 2=⟨1,.box 31 [al (m:Nat),aE o]⟩/\s.sl 5=.own 27 1/\s.sl 6=dv (bA (ao o) 64:Nat)/\s.sl 7=al w)/\(w<=2^m/\TabI s.rw 27 1 29 3 (lc (m+1)) (qG (ao o) p m w))) (λw=>2^m-w) (0) ⟨nm,⟨aB _,TabI.adopt (d:=27) (by simp only[iW];rfl) (λx=>by simp only[iW];rfl) (λi hi=>gl) gl cX⟩⟩ ?_;intro w sb ⟨D,L⟩;obtain⟨hw,F⟩:=L;refine iD D q r ?_;refine⟨λN=>aa (dy _) ?_,λN=>?_⟩;have z:w<64:=om;have V:=jb z;refine ox D q r V (aa (vC (ao o) w z) ?_);refine ox D q r V (aa (sv _ p A) ?_);have B:(λt=>ao o t&&eG w t)=mZ (ao o) w:=rfl;rw[B];have a1:=zbv (n:=m) om N;have G:=AJ (mZ (ao o) w) p;have a2:=eD (mZ (ao o) w);have O:=df (mZ (ao o) w) p;generalize P:ed (mZ (ao o) w) p=b at *;have f:=λk=>WC (j:=aQ w) (WD (ao o) p m w) G k;refine iD D q r ?_;refine az (λ((k,u):Nat×Nat) s=>(s.sl 1=al p/\s.sl 2=.ref 2 1 0/\s.rw 2=⟨1,.box 31 [al (m:Nat),aE o]⟩/\s.sl 5=.own 27 1/\s.sl 6=dv (bA (ao o) 64:Nat)/\s.sl 7=al w/\s.sl 8=al (aQ w:Nat)/\s.sl 44=.own 44 u/\s.rw 44=⟨u,.sli 3 1 l0 (iL b)⟩/\s.sl 45=al (lh b)/\s.sl 46=al k)/\(k<=lh b/\TabI s.rw 27 1 29 3 (lc (m+1)) (qF (qG (ao o) p m w) (aQ w) b k))) (λ(k,u)=>lh b-k) ((0,(sb.rw 44).ver+1)) ⟨(jX D),⟨om,F.same gl (λx=>gl)⟩⟩ ?_;intro(k,u) sc ⟨C,Q⟩;obtain⟨hk,c⟩:=Q;by_cases y:k<lh b;by_cases I:k<=aQ w;have f:=f k;have a3:=f.small (aQ w-k) (aQ w);have a4:=G k;have a5:=f.len;have R:=f.row (aQ w-k) om;have g:qF (qG (ao o) p m w) (aQ w) b (k+1)=JA (qF (qG (ao o) p m w) (aQ w) b k) (aQ w-k) (aQ w) (lg b k 0):=by rw[qF,ae I]
 generalize qF (qG (ao o) p m w) (aQ w) b k=M at *;have J:lg (lc (m+1)) (aQ w-k) 0=aQ w-k:=zm9 om;have l:=c.row (i:=aQ w-k) om;rw[J]at l;have S:D0.i64.wrap ((aQ w:Int)-(k:Int))=((aQ w-k:Nat):Int):=by rw[aF om om];omega
 have U:D0.i64.wrap (lg (lg M (aQ w-k) []) (aQ w) 0+lg b k 0)=lg (lg M (aQ w-k) []) (aQ w) 0+lg b k 0:=aF om om;simp only[↓gp,gq,simprocAttr,gT,C,S,c.top,uw,J,l,R,bP,bp,U];refine⟨λ_=>⟨y,y,λ_=>⟨om,om,om,om,om,om,?_⟩,λh=>absurd I h⟩,λh=>absurd y h⟩;exact ah ((k+1,u)) ⟨(gE C (ak y om)),⟨by dsimp only;omega,by
  dsimp only;rw[g];exact c.set (i:=aQ w-k) om gl (xr4 J C @c.top l) (λx hx=>by simp only[gr,simprocAttr,J ▸ hx])⟩⟩
 have g:qF (qG (ao o) p m w) (aQ w) b (k+1)=qF (qG (ao o) p m w) (aQ w) b k:=by rw[qF,ac I]
 refine cZ C ?_;refine⟨λ_=>⟨y,y,λh=>absurd h I,λ_=>?_⟩,λh=>absurd y h⟩;exact ah ((k+1,u)) ⟨(gE C (ak y om)),⟨by dsimp only;omega,by
  dsimp only;rw[g];exact c.same gl (λx=>gl)⟩⟩
 have e:qF (qG (ao o) p m w) (aQ w) b k=qG (ao o) p m (w+1):=by have e0:qG (ao o) p m (w+1)=qF (qG (ao o) p m w) (aQ w) (ed (mZ (ao o) w) p) (cv (mZ (ao o) w)):=rfl;rw[e0,<- O,P,show k=lh b by omega]
 rw[e]at c;refine cZ C ?_;refine⟨λh=>absurd h y,λ_=>?_⟩;exact ah (w+1) ⟨(fB D C (ak N om)),⟨om,c.same gl (λx=>gl)⟩⟩;have:w=2^m:=om;subst this;exact uR F dc (λj hj=>by have:=List.mem_range.1 hj;omega);rw[Fw (λh=>by have:=(fR.1 h.1).2;simp at E;rw[E]at this;simp at this)];exact yR gl dc;rw[Fw (λh=>by have:=(fR.1 h.1).1;rw[this]at H;cases H)];exact yR gl dc
theorem zhy:SqB (CT n o p):=by unfold CT;split;rename_i h;have⟨b,c,_⟩:=cY.1 (fR.1 h.1).1;exact .of (zqA _ p om) om;exact .nil
theorem zbw:(M.map iL).map (λr=>PV.sl l0 1 r)=mF M:=by rw[fj];rfl
theorem CQ:AC prog 266 [.ag [al n,aE o],al p] (.fr 29 1 (mF (CT n o p))):=zbw _ ▸ (Fy n o p).flat
theorem CR:AC prog 152 [.ag [al n,aE o],al p] (.fr 29 1 (mF (CT n o p))):=zbw _ ▸ (Fv n o p).flat
end Go.Proofs.YtigjebcjfbhnjaaGreatDoor
