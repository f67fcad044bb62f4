/- DERIVED by an AI agent. -/
import Derived.Test.YtigjebcjfbhnjaaGreatDoorQ5
set_option linter.all false
namespace Go.Proofs.YtigjebcjfbhnjaaGreatDoor
open Bool renaming true→k0,false→l0
open Go renaming IntKind→D0
open List renaming range→lc,replicate→ld,getD→lg,length→lh
open Nat renaming reduceEqDiff→lj,reduceMod→lk,reduceAdd→ll,reduceLT→lm,reduceLeDiff→lp,reduceSub→lr,reduceMul→lu,reduceBEq→lw
open Int renaming reduceToNat→lz,reduceLE→lA,reduceLT→lB,reduceNeg→lC
open Go.Proofs.Tryz
open Go.Abs
variable (n:Int)(a:N0)(d:Int)(L:O0)(s:Nat)(j:Nat){i:Nat}{b:N0}{c:O0}{e:Int}
def rcB(d:Int)(s:Nat)(x:Int):Bool:=(x.toNat&&&s==s)&&decide ((aQ x.toNat:Int)=d+1)
def Gz(a:N0)(d:Int)(s j:Nat):Nat:=lh ((a.take j).filter (rcB d s))
theorem Pj:Gz a d s 0=0:=rfl
theorem zca(h:i<lh b):Gz b n s (i+1)=Gz b n s i+if rcB n s (lg b i 0)=k0 then 1 else 0:=by unfold Gz;rw[bj 0 h];grind
theorem zou:Gz a d s j<=lh a:=by unfold Gz;grind
noncomputable def DN(n:Int)(a:N0):O0:=if gD n a<0 then []else cd (ci n a) (gD n a).toNat 64
noncomputable def Va(n:Int)(a:N0):N0:=(DN n a).map λs=>(Gz a (gD n a) s (lh a):Int)
def Ij(a:N0)(d:Int)(L:O0)(i j:Nat):N0:=(lc (lh L)).map λt=>(Gz a d (lg L t 0) (if t<i then (lh a) else if t=i then j else 0):Int)
theorem zhZ:lh (Ij a d L s j)=lh L:=by simp[Ij]
theorem zuf{xs:N0}{d:Int}(j:Nat)(h:i<lh c):lg (Ij xs d c i j) i 0=(Gz xs d (lg c i 0) j:Int):=by simp_all[Ij]
theorem zrr{xs:N0}{d:Int}{i j:Nat}(h:i<lh c):(Ij xs d c i j).set i (Gz xs d (lg c i 0) (j+1):Int)=Ij xs d c i (j+1):=by refine bE (by simp[Ij]) λt a b=>?_;simp[Ij];grind
theorem zcb{j:Nat}(h:Gz b e (lg c i 0) (j+1)=Gz b e (lg c i 0) j):Ij b e c i (j+1)=Ij b e c i j:=by simp[Ij];grind
theorem zov:ld (lh L) (0:Int)=Ij a d L 0 0:=by refine bE (by simp[Ij]) λt b c=>?_;simp[Ij,Pj]
theorem zow:Ij a d L s (lh a)=Ij a d L (s+1) 0:=by simp[Ij];grind
theorem zrs:Ij a d L (lh L) 0=L.map λs=>(Gz a d s (lh a):Int):=by
 refine bE (by simp[Ij]) λt c e=>?_;have b:t<lh L:=by grind
 simp[Ij,b]
theorem FV(h:¬gD e b<0):aS e b=k0/\∃d:Nat,gD e b=d/\d<=5:=have n:=aC λc=>h (by simp[show gD e b=-2 from ac c]);have a:=Dn n;have f:=eD (ao b);⟨(fR.1 n).1,(gD e b).toNat,om,om⟩
theorem xN(hx:a.length<=1048576):AC prog 220 [.ag [al n,aE a]] (.tup [.fr 3 1 (iL (bl (DN n a))),.fr 3 1 (iL (Va n a))]):=by
 refine cA [.tmp 2,.tmp 3] func220 λhl=>?_;refine aR ?_;refine aa (mQ n a) ?_;refine aR ?_;refine⟨λF=>?_,λF=>?_⟩;have e:DN n a=[]:=ae F;unfold Va;rw[e];exact⟨rfl,rfl⟩;have⟨G,d,C,W⟩:=FV F;have H:=dM G;have e:DN n a=cd (ci n a) d 64:=by unfold DN;rw[ac F,C,ar]
 have I:∀s∈DN n a,s<64:=λs J=>by rw[e]at J;exact(fI.1 J).1
 have X:(DN n a).length<=64:=by rw[e];exact fc _ _<|ab 64
 unfold Va;rw[C];refine aa (jc n a d om) ?_;rw[<- e];generalize DN n a=L at *;refine cZ @ap ?_;refine⟨om,om,?_⟩;have Y:ld L.length (0:Int)=Ij a d L 0 0:=zov a d L;refine az (λ(i:Nat)s=>(s.sl 1=.ref 1 1 0/\s.rw 1=⟨1,.box 31 [al n,aE a]⟩/\s.sl 4=al d/\s.sl 5=.own 17 1/\s.rw 17=⟨1,.sli 3 1 l0<|iL<|bl L⟩/\s.sl 6=.own 20 1/\s.rw 20=⟨1,.sli 3 1 l0<|iL<|Ij a d L i 0⟩/\s.sl 21=.own 17 1/\s.sl 22=al L.length/\s.sl 23=al i)/\(i<=L.length)) (λi=>L.length-i) (0) ⟨(jX Y),aB _⟩ ?_;intro i sa ⟨K,Z⟩;refine ff K @ap ?_;refine⟨λA=>⟨om,om,?_⟩,λA=>?_⟩;have M:(bl L).getD i 0=((L.getD i 0:Nat):Int):=bX A;have J:=I _<|aP 0 A;rw[M];refine az (λ(j:Nat)s=>(s.sl 1=.ref 1 1 0/\s.rw 1=⟨1,.box 31 [al n,aE a]⟩/\s.sl 4=al d/\s.sl 5=.own 17 1/\s.rw 17=⟨1,.sli 3 1 l0<|iL<|bl L⟩/\s.sl 6=.own 20 1/\s.rw 20=⟨1,.sli 3 1 l0<|iL<|Ij a d L i j⟩/\s.sl 7=al i/\s.sl 8=al (L.getD i 0)/\s.sl 21=.own 17 1/\s.sl 22=al L.length/\s.sl 23=al i/\s.sl 29=aE a/\s.sl 30=al a.length/\s.sl 31=al j)/\(j<=a.length)) (λj=>a.length-j) (0) ⟨(jX K),aB _⟩ ?_;intro j sb ⟨⟨p,q,r,t,c,u,b,w,x,f,g,k,l,m,o⟩,a0⟩;simp only[↓gp,gq,simprocAttr,gT,p,q,r,t,c,u,b,w,x,f,g,k,l,m,o];refine⟨λB=>⟨om,om,aa (dy _) ?_⟩,λB=>?_⟩;have N:=H _<|aP 0 B;have O:=nA N;have hw:D0.i64.wrap ((d:Int)+1)=((d+1:Nat):Int):=ak (show d<6 by omega) om;have y:=zca (d:Int) (L.getD i 0) B;have a1:=zou a d (L.getD i 0) j;have P:=zuf (xs:=a) (d:=d) j A;have V:=zhZ a d L i j;have D:=zrr (xs:=a) (d:=(d:Int)) (j:=j) A;have Q:a.getD j 0=(((a.getD j 0).toNat:Nat):Int):=om;have E:(gU .i64 ((L.getD i 0:Nat):Int) (a.getD j 0)==0)=((a.getD j 0).toNat&&&L.getD i 0==L.getD i 0):=by rw[Q,fv om om,ar];refine Bool.eq_iff_iff.2 ?_;rw[aK,aK,cl (a.getD j 0).toNat,<- gW];omega
 simp only[↓gp,gq,simprocAttr,gT,p,q,r,t,c,u,b,w,x,f,g,k,l,m,o,O,hw,E];have z:rcB (d:Int) (L.getD i 0) (a.getD j 0)=(((a.getD j 0).toNat&&&L.getD i 0==L.getD i 0)&&decide ((aQ (a.getD j 0).toNat:Int)=(d:Int)+1)):=rfl;refine⟨λR=>⟨λS=>⟨om,om,om,om,?_⟩,λS=>?_⟩,λR=>?_⟩;rw[ae<|by rw[z,S,au,aq];have:=beq_iff_eq.1 R;omega]at y;have U:D0.i64.wrap ((Gz a (d:Int) (L.getD i 0) j:Int)+1)=(Gz a (d:Int) (L.getD i 0) (j+1):Int):=by rw[y,aF om om];omega
 exact ah (j+1) ⟨(by and_intros<;>(first|(simp only[gr,simprocAttr,p,q,r,t,c,u,b,w,x,f,g,k,l,m,o,P,U,D,ak B om];first|done|rfl|(simp;done))|assumption|rfl)),om⟩;rw[ac<|by rw[z,S];simp,lD]at y;exact ah (j+1) ⟨(by and_intros<;>(first|(simp only[gr,simprocAttr,p,q,r,t,c,u,b,w,x,f,g,k,l,m,o,zcb y,ak B om];first|done|rfl|(simp;done))|assumption|rfl)),om⟩;rw[ac<|by rw[z,aj,aq];rintro⟨_,h⟩;have:=beq_eq_false_iff_ne.1 R;omega,lD]at y;exact ah (j+1) ⟨(by and_intros<;>(first|(simp only[gr,simprocAttr,p,q,r,t,c,u,b,w,x,f,g,k,l,m,o,zcb y,ak B om];first|done|rfl|(simp;done))|assumption|rfl)),om⟩;have:j=a.length:=om;rw[this,zow]at b;exact ah (i+1) ⟨(by and_intros<;>(first|(simp only[gr,simprocAttr,K,p,q,r,t,c,u,b,w,x,f,g,k,l,m,o,ak A om];first|done|rfl|(simp;done))|assumption|rfl)),om⟩;have:i=L.length:=om;rw[this,zrs]
theorem zh0{n:Int}{xs:N0}:lh (Va n xs)<=64:=by rw[Va,DN,aG];split;simp;exact fc _ _<|ab 64
theorem Vb{e:St}(b f a:Nat)(c c2:M0):br e s (.tup [.fr j b c,.fr f a c2]) =
 ((e.row (s+1000) ⟨(e.rw (s+1000)).ver+1,.sli f a l0 c2⟩).row s ⟨(e.rw s).ver+1,.sli j b l0 c⟩).put (some s) (.tup [.own s ((e.rw s).ver+1),.own (s+1000) ((e.rw (s+1000)).ver+1)]):=by
 simp[br,bo,eu,fL]
 rfl
theorem zrt:decide (0<lh (Va n a))=decide (0<=gD n a):=by
 have x:lh (Va n a)=(DN n a).length:=by unfold Va;rw[aG]
 rw[x];by_cases o:gD n a<0;rw[aD (show ¬0<=gD n a by omega),show DN n a=[] from ae o];rfl;rw[ay (show 0<=gD n a by omega),aq];obtain⟨q,d,r,y⟩:=FV o;have t:mr n a=true:=aC λp=>o (by rw[show gD n a=-2 from ac p];decide);obtain⟨m,rfl,z,F,s,G,H⟩:=FT t;have A:=Dn t;have B:cv (ao a)=oY (ao a) 64:=rfl;obtain⟨T,g,b,c⟩:=AH (f:=ao a) 64 om;have C:T≠0:=λe=>by
  subst e;have:aQ 0=0:=by decide +kernel
  omega
 obtain⟨v,u⟩:∃v,T.testBit v=true:=aC λp=>C (bB λi=>by
  rw[dQ];cases h:T.testBit i with
  | false=>rfl
  | true=>exact absurd ⟨i,h⟩ p)
 have k:v<6:=aC λp=>by have z:=nf u;have:(2:Nat)^6<=2^v:=aV om om;omega
 obtain⟨D,w⟩:=Fq u;have j:=zhm g k;have E:=Hy _ j v k D;rw[w]at E;have l:T&&&(T ^^^ 2^v)=T ^^^ 2^v:=by have:=tI (a:=T ^^^ 2^v) (v:=v);rwa [w]at this
 refine xw (a:=T ^^^ 2^v) ?_;unfold DN;rw[ac o,r,ar,fI];refine⟨j,?_,om⟩;unfold ci;rw[q,au];exact s _ _ b l
theorem Dv(b:lh a<=1048576):AC prog 254 [.ag [al n,aE a]] (.fr 3 1 (iL (Va n a))):=by refine cA [.tmp 2] func254 λc=>?_;refine aR<|aa (xN n a b) ?_;exact mg @Vb
noncomputable def sO(n:Int)(a:N0):Bool:=zy n a&&(decide (0<=gD n a)&&(Va n a).all λx=>decide (x=2))
theorem qV(q:lh a<=1048576):AC prog 159 [.ag [al n,aE a]] (.im (aU (sO n a))):=by
 refine cA [.tmp 2] func159 λt=>?_;refine aR<|aa (nD n a) ?_;refine aR ?_;unfold sO;refine⟨λc=>aa (mQ n a) ?_,λc=>?_⟩;have c:=ss c;rw[c];by_cases d:gD n a<0;rw[aD<|by omega];exact aR<|λh=>absurd d h;rw[ay<|by omega];refine aR ?_;refine⟨λj=>absurd j d,λj=>aa (Dv n a q) ?_⟩;have m:=zh0 (n:=n) (xs:=a);generalize Va n a=R at *;refine aR ?_;refine az (λ(k:Nat)s=>(s.sl 14=.own 14 1/\s.rw 14=⟨1,.sli 3 1 _<|iL R⟩/\s.sl 15=al _/\s.sl 16=al k)/\(k<=lh R/\(∀i,i<k->lg R i 0=2))) (λk=>lh R-k) 0 ⟨nm,sp⟩ ?_;intro k u ⟨o,f⟩;have⟨w,b⟩:=f;refine cZ o ?_;refine⟨λh=>⟨h,h,λg=>?_,λg=>?_⟩,λh=>?_⟩;exact znc h<|aD<|bne_iff_ne.1 g;exact ah _ ⟨(gE o<|ak h om),⟨om,λi r=>by
  grind⟩⟩
 exact zhB λi r=>ay<|b i om;grind
theorem vU(c:¬gD n a<0):AC prog 180 [.ag [al n,aE a]] (.fr 3 1 (iL (bl (DN n a)))):=by
 refine cA [.tmp 2] func180 λf=>?_;refine aR ?_;refine⟨kr,aa (gZ n a) ?_⟩;have⟨_,d,b,_⟩:=FV c;have e:DN n a=cd (ci n a) d 64:=by unfold DN;grind
 rw[e,b];refine aR<|aa (nj n a d) ?_;exact ef
theorem sP(R:lh a<=1048576):AC prog 181 [.ag [al n,aE a]] (.fr 3 1 (iL (Va n a))):=by
 refine cA [.tmp 2] func181 λS=>?_;refine aR<|aa (gZ n a) ?_;refine aR ?_;refine⟨λl=>?_,λl=>aa (vU n a l) ?_⟩;have e:DN n a=[]:=ae l;unfold Va;rw[e];rfl;have⟨q,d,m,G⟩:=FV l;have r:=dM q;have e:DN n a=cd (ci n a) d 64:=by unfold DN;rw[ac l,m,ar]
 have u:∀s∈DN n a,s<64:=λs w=>by rw[e]at w;exact(fI.1 w).1
 have H:lh (DN n a)<=64:=by rw[e];exact fc _ _<|ab 64
 have k:=gZ n a;unfold Va;rw[m]at k ⊢;generalize DN n a=L at *;refine cZ @ap ?_;have I:((L.take 0).map λs=>(Gz a (d:Int) s (lh a):Int))=[]:=rfl;have x:iL ([]:N0)=[]:=rfl;refine az (λ((i,v):Nat×Nat) s=>(s.sl 1=.ref 1 1 0/\s.rw 1=⟨1,.box 31 [al n,aE a]⟩/\s.sl 3=.own 8 v/\s.rw 8=⟨v,.sli 3 1 l0<|iL<|(L.take i).map λs=>(Gz a (d:Int) s (lh a):Int)⟩/\s.sl 4=.own 14 1/\s.rw 14=⟨1,.sli 3 1 l0<|iL<|bl L⟩/\s.sl 5=al i)/\(i<=lh L)) (λ(i,v)=>lh L-i) ((0,1)) ⟨(gE I x),aB _⟩ ?_;intro(i,v) U ⟨y,K⟩;refine ff y @ap ?_;refine⟨λc=>?_,λc=>?_⟩;have z:lg (bl L) i 0=((lg L i 0:Nat):Int):=bX c;have w:=u _<|aP 0 c;refine az (λ(j:Nat)s=>(s.sl 1=.ref 1 1 0/\s.rw 1=⟨1,.box 31 [al n,aE a]⟩/\s.sl 3=.own 8 v/\s.rw 8=⟨v,.sli 3 1 l0<|iL<|(L.take i).map λs=>(Gz a (d:Int) s (lh a):Int)⟩/\s.sl 4=.own 14 1/\s.rw 14=⟨1,.sli 3 1 l0<|iL<|bl L⟩/\s.sl 5=al i/\s.sl 6=al (Gz a (d:Int) (lg L i 0) j)/\s.sl 7=al j)/\(j<=lh a)) (λj=>lh a-j) (0) ⟨(gE y @Pj),aB _⟩ ?_;intro j V ⟨f,N⟩;refine cZ f ?_;refine⟨λg=>?_,λg=>?_⟩;have O:=r _<|aP 0 g;have E:D0.i64.wrap ((d:Int)+1)=((d+1:Nat):Int):=ak (show d<6 by omega) om;have b:=zca (d:Int) (lg L i 0) g;have P:=zou a d (lg L i 0) j;have⟨t,F,Q⟩:∃t:Nat,lg a j 0=t/\t<64:=⟨(lg a j 0).toNat,om,om⟩;have o:(fu .i64 (t:Int) ((lg L i 0:Nat):Int)==((lg L i 0:Nat):Int))=(t&&&L.getD i 0==lg L i 0):=by rw[ej om om];refine Bool.eq_iff_iff.2 ?_;rw[aK,aK];omega
 have A:rcB (d:Int) (lg L i 0) (lg a j 0)=((t&&&L.getD i 0==lg L i 0)&&decide ((aQ t:Int)=(d:Int)+1)):=by rw[F];unfold rcB;rw[ar]
 rw[A]at b;refine nN f @ap z o F ?_;refine⟨kr,g,g,c,c,c,c,λB=>⟨g,g,aa (ey t om) ?_⟩,λB=>?_⟩;rw[B,au]at b;refine ff f E<|aa k ?_;refine ff f E<|aa (wY _) ?_;have p:D0.i64.wrap ((Gz a (d:Int) (lg L i 0) j:Int)+(if((aQ t:Int)==((d+1:Nat):Int))=k0 then 1 else 0))=(Gz a (d:Int) (lg L i 0) (j+1):Int):=by rw[b];by_cases C:(aQ t:Int)=(d:Int)+1;rw[ae<|beq_iff_eq.2 om,ae<|ay C,aF om om];omega;rw[ac<|λh=>C<|by have:=beq_iff_eq.1 h;omega,ac<|λh=>C<|cH h,aF om om];omega
 refine ff f p ?_;exact ah (j+1) ⟨(fB f p<|ak g om),om⟩;rw[B,ce,ac dc,lD]at b;refine aa (wY _) ?_;have p:D0.i64.wrap ((Gz a (d:Int) (lg L i 0) j:Int)+0)=(Gz a (d:Int) (lg L i 0) (j+1):Int):=by rw[b,aF om om];omega
 refine ff f p ?_;exact ah (j+1) ⟨(fB f p<|ak g om),om⟩;have:j=lh a:=om;have D:(L.take<|i+1).map (λs=>(Gz a (d:Int) s (lh a):Int))=(L.take i).map (λs=>(Gz a (d:Int) s (lh a):Int))++[(Gz a (d:Int) (lg L i 0) j:Int)]:=by rw[this,bj 0 c,cq];rfl
 refine⟨by rw[aG,bg];omega,?_⟩;exact ah ((i+1,v+1)) ⟨(rS y f D<|ak c om),by dsimp only;omega⟩;have:i=lh L:=om;rw[this,av]
theorem qW(m:lh a<=1048576):AC prog 208 [.ag [al n,aE a]] (.im (aU (sO n a))):=by
 refine cA [.tmp 2] func208 λq=>?_;refine aR<|aa (sP n a m) ?_;have c:=zrt n a;have j:=zh0 (n:=n) (xs:=a);unfold sO;generalize Va n a=R at *;refine aR ?_;refine az (λ(k:Nat)s=>(s.sl 1=.ref 1 1 0/\s.rw 1=⟨1,.box 31 [al n,aE a]⟩/\s.sl 3=.own 6 1/\s.rw 6=⟨1,.sli 3 1 l0<|iL R⟩/\s.sl 4=al k)/\(k<=lh R/\(∀i,i<k->lg R i 0=2))) (λk=>lh R-k) (0) ⟨nm,sp⟩ ?_;intro k r ⟨d,f⟩;have⟨t,b⟩:=f;refine cZ d ?_;refine⟨λh=>⟨h,h,λg=>?_,λg=>?_⟩,λh=>?_⟩;rw[znc h<|aD<|bne_iff_ne.1 g,cT,cT];exact ah (k+1) ⟨(gE d<|ak h om),⟨om,λi o=>by
  grind⟩⟩
 rw[zhB (l:=R) λi o=>ay<|b i om,nM,<- c];refine aa (nC n a) ?_;refine cZ d ?_;grind
theorem zj3:∀(l:List UInt8)(a:P0),((l.map λx=>(x.toNat:Int)).foldl (λr n=>r.push (UInt8.ofNat n.toNat)) a)=⟨(a.data.toList++l).toArray⟩:=by
 intro l;induction l with
 | nil=>simp
 | cons x l b =>simp_all
theorem Dx(e:Bool)(b:P0){d:PV->Prop}:Uy ⟨s,.sli j 1 e (lT b)⟩ s d=d (.v (.string b)):=by
 simp only[Uy,cC];have f:lT b=(b.data.toList.map λx=>x.toNat).map (λn=>PV.v<|.int .u8 n):=by simp[lT]
 have c:=zj3 b.data.toList ByteArray.empty;refine propext ⟨λ⟨k,g,i⟩=>?_,λh=>⟨_,f,by rwa[c]⟩⟩;rw[f]at g;rwa[<- ((List.map_inj_right<|λx y h=>ss h).1 g),c]at i
theorem zH(a b:P0):lT a++lT b=lT (a++b):=by simp[lT]
theorem zce:lT ⟨#[]⟩=[]:=rfl
def iy(l:Q0)(sep:P0):Nat->P0|0=>⟨#[]⟩|i+1=>(if i=0 then iy l sep i else iy l sep i++sep)++lg l i ⟨#[]⟩
theorem qI(l:Q0)(sep:P0)(r:lh l<=1000000000000)(g:∀i,i<=lh l->(iy l sep i).size+sep.size<=70000000000000):AC prog 94 [.sl l0 1 (sL l),fa sep] (.im (fa (iy l sep (lh l)))):=by
 refine cA [.tmp 4] func94 λk=>?_;refine aR ?_;refine az (λ(i,v)s=>(s.sl 0=.sl l0 1 (sL l)/\s.sl 1=fa sep/\s.sl 5=.own 7 v/\s.rw 7=⟨v,.sli 5 1 l0 (lT (iy l sep i))⟩/\s.sl 6=al i)/\(i<=lh l)) (λ(i,v)=>lh l-i) ((0,1)) ⟨(by and_intros<;>(rfl)),om⟩ ?_;intro(i,v) t ⟨b,c⟩;have d:lh (sL l)=lh l:=by simp[sL]
 refine ox b d @zi @Dx ?_;refine⟨λh=>?_,λh=>?_⟩;have a:=g (i+1) h;have j:=ak h (by omega);have o:=tC sep;have p:=tC (iy l sep i);refine⟨λq=>?_,λq=>?_⟩;have e:iy l sep (i+1)=(iy l sep i++sep)++lg l i ⟨#[]⟩:=by rw[iy,ac om]
 rw[e,aI,aI]at a;have f:lT (iy l sep i)++lT sep++lT (lg l i ⟨#[]⟩)=lT (iy l sep (i+1)):=by rw[zH,zH,e]
 exact⟨om,h,h,by grind,ah ((i+1,v+1+1)) ⟨(fB b j f),om⟩⟩;have e:iy l sep (i+1)=iy l sep i++lg l i ⟨#[]⟩:=by rw[iy,ae om]
 rw[e,aI]at a;have f:lT (iy l sep i)++lT (lg l i ⟨#[]⟩)=lT (iy l sep (i+1)):=by rw[zH,e]
 exact⟨h,h,om,ah ((i+1,v+1)) ⟨(fB b j f),om⟩⟩;grind
theorem zh1:∀s,s<64->∀i,i<6->(fu .i64 (wH .i64 (s:Nat) (i:Nat)) 1==1)=s.testBit i:=dc
def ug(s i:Nat):O0:=(lc i).filter s.testBit
def Tp(s i:Nat):P0:=⟨((ug s i).map λj=>UInt8.ofNat (97+j)).toArray⟩
def zh2(s:Nat):P0:=if s=0 then⟨#[45]⟩else Tp s 6
def ip(s:Int):P0:=if 0<=s/\s<64 then zh2 s.toNat else⟨#[]⟩
theorem zcc{s:Nat}(h:i.testBit s=k0):ug i (s+1)=ug i s++[s]:=by simp[ug,bW,h]
theorem zh3{s:Nat}(h:i.testBit s=l0):ug i (s+1)=ug i s:=by simp[ug,bW,h]
theorem zrv{s:Nat}(h:i.testBit s=k0):Tp i (s+1)=Tp i s++⟨#[UInt8.ofNat (97+s)]⟩:=by unfold Tp;rw[zcc h];refine iR ?_;simp
theorem zug{s:Nat}(h:i.testBit s=l0):Tp i (s+1)=Tp i s:=by unfold Tp;rw[zh3 h]
theorem FW:lh (ug s j)<=j:=by have:=aO s.testBit<|lc j;rwa [bp]at this
theorem zcd:(Tp s j).size<=j:=by have:=FW s j;show((ug s j).map _).toArray.size<=j;simpa using this
theorem zrw:∀i,i<6->(⟨#[97,98,99,100,101,102]⟩:P0).extract i (i+1)=⟨#[UInt8.ofNat (97+i)]⟩:=dc
theorem Pk:AC prog 93 [al n] (.im (fa (ip n))):=by
 refine cA [.tmp 2] func93 λq=>?_;refine aR (aa (fe _ _ _) ?_);refine aR ?_;unfold ip;refine⟨λh=>?_,λh=>?_⟩;rw[ac (λr=>by simp at h;omega)];have h:0<=n/\n<=63:=ss h;rw[ae ⟨h.1,om⟩];obtain⟨u,rfl⟩:∃u:Nat,n=u:=⟨n.toNat,om⟩;rw[ar];have s:u<64:=om;refine⟨λd=>?_,λd=>?_⟩;have:u=0:=by have:(u:Int)=0:=ss d;omega
 rw[this];rfl;have g:u≠0:=λe=>by rw[e]at d;simp at d
 have j:zh2 u=Tp u 6:=ac g;rw[j];refine az (λ(i:Nat)n=>(n.sl 0=al u/\n.sl 3=fa (Tp u i)/\n.sl 4=al i)/\(i<=6)) (λi=>6-i) (0) ⟨nm,om⟩ ?_;intro i t ⟨f,o⟩;have a:D0.u64.wrap (i:Int)=(i:Int):=dm om;by_cases k:i<6;have b:=zh1 u s i k;have c:=zrw i k;have l:=ak k om;refine Cn f a b l @ar c ?_;have p:=zcd u i;refine⟨λ_=>⟨λm=>⟨om,by show i+1<=6;omega,by show(Tp u i).size+1<=9223372036854775807;omega,?_⟩,λm=>?_⟩,λh=>absurd om h⟩;have e:=zrv m;exact ah (i+1) ⟨(fB f l e),om⟩;have e:=zug m;exact ah (i+1) ⟨(fB f l e),om⟩;refine ff f a ?_;refine⟨λh=>absurd h om,λ_=>?_⟩;have:i=6:=om;rw[this]
theorem vV(j:s<64):AC prog 236 [al s] (.fr 3 1 (iL (bl (ug s 6)))):=by
 refine cA [.tmp 2] func236 λn=>?_;refine aR<|aa (eR 6 s) ?_;have d:di 6 s=true:=by simp[di];omega
 rw[d];refine aR ?_;refine az (λ(i,v)u=>(u.sl 0=al s/\u.sl 3=.own 3 v/\u.rw 3=⟨v,.sli 3 1 l0<|iL<|bl<|ug s i⟩/\u.sl 4=al i)/\(i<=6)) (λ(i,v)=>6-i) ((0,1)) ⟨nm,om⟩ ?_;intro(i,v) o ⟨c,l⟩;have m:=FW s i;have a:D0.u64.wrap _=i:=dm om;by_cases f:i<6;have b:=zh1 s j i f;refine iD c a b ?_;refine⟨λ_=>⟨λg=>⟨by rw[ap];omega,?_⟩,λg=>?_⟩,λh=>absurd h om⟩;have e:bl (ug s i)++[(i:Int)]=bl (ug s<|i+1):=by rw[zcc g,cI,jZ]
 exact ah ((i+1,v+1)) ⟨(fB c (ak f om) e),om⟩;have e:=zh3 g;exact ah ((i+1,v)) ⟨(fB c (ak f om) e),om⟩;refine ff c a ?_;grind
def Xp(l:O0):P0:=⟨(l.map λj=>UInt8.ofNat (97+j)).toArray⟩
theorem zj2(h:s<6):lT (Xp L)++[PV.v (.int .u8 (97+s:Nat))]=lT (Xp (L++[s])):=by
 simp[lT,Xp];omega
theorem Pl:AC prog 141 [al n] (.im (fa (ip n))):=by
 refine cA [.tmp 2] func141 λI=>?_;simp only[↓gp,gq,simprocAttr,gT];refine aa (eR 6 n) ?_;have m:di 6 n=decide (0<=n/\n<64):=by simp[di]
 rw[m];simp (maxSteps:=9^7) -dsimp only[↓gp,gq,reduceCtorEq,lj,lm,lp,ll,lu,lr,lw,lz,lA,lB,lC,lk,gT];unfold ip;refine⟨λh=>?_,λh=>?_⟩;rw[ac<|λB=>by rw[ay B]at h;cases h];have h:0<=n/\n<64:=ss h;rw[ae h];obtain⟨u,rfl⟩:∃u:Nat,n=u:=⟨n.toNat,om⟩;rw[ar];have C:u<64:=om;refine⟨λj=>?_,λj=>?_⟩;have:u=0:=by have:(u:Int)=0:=ss j;omega
 rw[this];rfl;have s:u≠0:=λe=>by rw[e]at j;simp at j
 have o:zh2 u=Xp (ug u 6):=ac s;rw[o];refine⟨dc,aa (vV u C) ?_⟩;simp only[↓gp,gq,simprocAttr,gT,ap];have D:=FW u 6;have q:∀k,k<lh (ug u 6)->lg (ug u 6) k 0<6:=λk g=>List.mem_range.1 (List.mem_filter.1<|aP 0 g).1;generalize ug u 6=l at *;have r:Xp (l.take 0)=⟨#[]⟩:=rfl;refine az (λ((k,v):Nat×Nat) n=>n.sl 3=.own 11 v/\n.rw 11=⟨v,.sli 5 1 l0<|lT<|Xp<|l.take k⟩/\n.sl 13=.own 13 1/\n.rw 13=⟨1,.sli 3 1 l0<|iL<|bl l⟩/\n.sl 14=al (lh l)/\n.sl 15=al k/\(k<=lh l)) (λ(k,v)=>lh l-k) ((0,1)) (by refine⟨?_,?_,?_,?_,?_,?_,om⟩<;>(rfl)) ?_;intro(k,v) J ⟨i,a,b,c,d,f,F⟩;have z:lh (lT<|Xp<|l.take k)<=6:=by rw[tC];show((l.take k).map _).toArray.size<=6;simp;omega
 by_cases g:k<lh l;have t:lg (bl l) k 0=((lg l k 0:Nat):Int):=bX g;have A:=q k g;have G:=ak g om;have w:D0.i64.wrap (97+((lg l k 0:Nat):Int))=((97+lg l k 0:Nat):Int):=by rw[aF om om];rfl
 have y:D0.u8.wrap ((97+lg l k 0:Nat):Int)=((97+lg l k 0:Nat):Int):=by generalize l.getD k 0=x at A;simp[D0.wrap,D0.bits,D0.signed];omega
 have e:lT (Xp<|l.take k)++[PV.v (.int .u8 (97+lg l k 0:Nat))]=lT (Xp<|l.take<|k+1):=by rw[zj2 _ _ A,bj 0 g]
 simp only[↓gp,gq,simprocAttr,gT,i,a,b,c,d,f,ap,t,w,y,zd1,zi,Dx];refine⟨λ_=>⟨g,g,?_,om,ah ((k+1,v+1)) (by refine⟨?_,?_,?_,?_,?_,?_,by dsimp only;omega⟩<;>(first|(simp only[gr,simprocAttr,i,a,b,c,d,f,G,e];first|done|rfl|(simp;done))|assumption|rfl))<|om⟩,λh=>absurd g h⟩;intro p H;rw[List.mem_singleton.1 H];rfl;simp only[↓gp,gq,simprocAttr,gT,i,a,b,c,d,f,ap,zi,Dx];refine⟨λh=>absurd h g,λ_=>?_⟩;rw[bK om]
theorem xf:(ip n).size<=6:=by unfold ip zh2;split;split;decide;exact zcd _ _;decide
theorem xg{l:Q0}{sep:P0}(h:∀i,i<lh l->(lg l i ⟨#[]⟩).size<=6)(b:sep.size<=1):∀i,i<=lh l->(iy l sep i).size<=7*i:=by
 intro i;induction i with
 | zero=>exact λ_=>ab _
 | succ i a =>unfold iy;grind
theorem QG(sep:List UInt8):∀(a:List (List UInt8)) (x:List UInt8),a≠[]->Go.Lib.join (a++[x]) sep=Go.Lib.join a sep++sep++x:=by
 intro a x h;cases a with
 | nil=>grind
 | cons y r =>simp[Go.Lib.join_cons,Go.Lib.joinTail]
theorem jD(l:Q0)(sep:P0):∀i,i<=lh l->iy l sep i=qJ (l.take i) sep:=by
 intro i;induction i with
 | zero=>intro _;rfl
 | succ i c =>intro a;rw[iy,c om,bj ⟨#[]⟩ a];unfold qJ;rw[cq,dR,gy];by_cases b:i=0;subst b;refine iR ?_;simp[Go.Lib.join_nil,Go.Lib.join_one];rw[ac b,QG _ _ _<|λe=>by simp_all];rfl
def Dw(l:N0):P0:=qJ (l.map ip) ⟨#[44]⟩
theorem nX(j:lh a<=500):AC prog 36 [aE a] (.im (fa (Dw a))):=by
 refine cA [.tmp 2] func36 λm=>?_;refine aR ?_;refine az (λ(k,v)s=>(s.sl 0=aE a/\s.sl 3=.own 5 v/\s.rw 5=⟨v,.sli 9 1 l0<|sL<|(a.take k).map ip⟩/\s.sl 4=al k)/\(k<=lh a)) (λ(k,v)=>lh a-k) ((0,1)) ⟨nm,om⟩ ?_;intro(k,v) n ⟨b,f⟩;refine cZ b ?_;refine⟨λh=>⟨h,h,aa (Pk _) ?_⟩,λh=>?_⟩;refine cZ b ?_;have e:(a.take<|k+1).map ip=(a.take k).map ip++[ip (lg a k 0)]:=by rw[bj 0 h];simp
 refine⟨by grind,ah ((k+1,v+1)) ⟨(fB b (ak h<|by omega) e),om⟩⟩;rw[bK om];have c:=xg (l:=a.map ip) (sep:=⟨#[44]⟩) (λi l=>by
  have l:i<lh a:=ss l;have:lg (a.map ip) i ⟨#[]⟩=ip a[i]:=by simp[lg,l]
  rw[this];exact xf _)<|ab 1
 refine aa (qI (a.map ip) ⟨#[44]⟩ (by rw[aG];omega)<|λi l=>?_) ?_;have:=c i l;rw[aG]at l;have o:(⟨#[44]⟩:P0).size=1:=rfl;omega;have e:=jD (a.map ip) ⟨#[44]⟩ (a.map ip).length<|ab _;rw[av]at e;rw[e];refine cZ b ?_;rfl
end Go.Proofs.YtigjebcjfbhnjaaGreatDoor
namespace Go.Proofs.YtigjebcjfbhnjaaGreatDoor
open Bool renaming true→k0,false→l0
open Go renaming IntKind→D0
open List renaming range→lc,replicate→ld,getD→lg,length→lh
open Nat renaming reduceEqDiff→lj,reduceMod→lk,reduceAdd→ll,reduceLT→lm,reduceLeDiff→lp,reduceSub→lr,reduceMul→lu,reduceBEq→lw
open Int renaming reduceToNat→lz,reduceLE→lA,reduceLT→lB,reduceNeg→lC
open Go.Proofs.Tryz
open Go.Abs Go.Shelf
def zox:Go.Shelf.Ren where
 f:=λx=>match x with|156=>142|165=>237|166=>238|169=>239|240=>284|241=>285|276=>319|277=>320|n=>n
 t:=λx=>match x with|31=>22|9=>9|3=>3|4=>4|0=>0|20=>20|72=>131|76=>135|70=>129|37=>52|75=>134|127=>157|164=>177|5=>5|80=>137|n=>n
 g:=λx=>x
theorem zru:Lays.n156 prog zox where
 mixed:=mixed
 f156:=oH func142
 f165:=oH func237
 f166:=oH func238
 f169:=oH func239
 f240:=oH func284
 f241:=oH func285
 f276:=oH func319
 f277:=oH func320
 t0:=underlying0
 a0:=isAgg0
 z0:=sizeOf0
 v0:=zeroValue0
 t3:=underlying3
 a3:=isAgg3
 z3:=sizeOf3
 v3:=zeroValue3
 t4:=underlying4
 a4:=isAgg4
 z4:=sizeOf4
 v4:=zeroValue4
 t9:=underlying9
 a9:=isAgg9
 z9:=sizeOf9
 v9:=zeroValue9
 t20:=underlying20
 a20:=isAgg20
 z20:=sizeOf20
 v20:=zeroValue20
 t31:=underlying22
 a31:=isAgg22
 z31:=sizeOf22
 v31:=zeroValue22
 t37:=underlying52
 a37:=isAgg52
 z37:=sizeOf52
 v37:=zeroValue52
 t70:=underlying129
 a70:=isAgg129
 z70:=sizeOf129
 v70:=zeroValue129
 t72:=underlying131
 a72:=isAgg131
 z72:=sizeOf131
 v72:=zeroValue131
 t75:=underlying134
 a75:=isAgg134
 z75:=sizeOf134
 v75:=zeroValue134
 t76:=underlying135
 a76:=isAgg135
 z76:=sizeOf135
 v76:=zeroValue135
 t127:=underlying157
 a127:=isAgg157
 z127:=sizeOf157
 v127:=zeroValue157
 t164:=underlying177
 a164:=isAgg177
 z164:=sizeOf177
 v164:=zeroValue177
theorem zoy:Builder.Extra prog zox where
 sizeBuilder:=kr
 liesBuilder:=kr
 t5:=underlying5
 a5:=isAgg5
 z5:=sizeOf5
 v5:=zeroValue5
 infoByte:=kr
 cellsByte:=kr
 sizeByte:=kr
 neB5:=dc
theorem kA(l:Q0)(sep:P0)(b:lh l<=140737488355328)(a:(qJ l sep).size<=140737488355328):AC prog 142 [.sl l0 1 (sL l),fa sep] (.im (fa (qJ l sep))) :=
 zrx zru zoy ⟨_,func142,kr,kr⟩ (λh=>h) l sep b a
theorem nW(l:N0)(m:lh l<=500):AC prog 51 [aE l] (.im (fa (Dw l))):=by
 refine cA [.tmp 2] func51 λn=>?_;refine aR ?_;refine⟨om,om,?_⟩;refine az (λ(k,v)s=>(s.sl 3=.own 8 v/\s.rw 8=⟨v,.sli 9 1 l0<|sL<|(l.take k).map ip⟩/\s.sl 9=aE l/\s.sl 10=al (lh l)/\s.sl 11=al k)/\(k<=lh l)) (λ(k,v)=>lh l-k) ((0,1)) ⟨(by and_intros<;>(rfl)),om⟩ ?_;intro(k,v) o ⟨a,g⟩;refine cZ a ?_;refine⟨λh=>⟨h,h,aa (Pl _) ?_⟩,λh=>?_⟩;refine cZ a ?_;have e:(l.take<|k+1).map ip=(l.take k).map ip++[ip (lg l k 0)]:=by rw[bj 0 h];simp
 refine⟨by grind,ah ((k+1,v+1)) ⟨(fB a (ak h<|by omega) e),om⟩⟩;rw[bK om];have b:=xg (l:=l.map ip) (sep:=⟨#[44]⟩) (λi c=>by
  have c:i<lh l:=ss c;have:lg (l.map ip) i ⟨#[]⟩=ip l[i]:=by simp[lg,c]
  rw[this];exact xf _) (ab 1) (l.map ip).length<|ab _
 rw[jD _ _ _<|ab _,av,aG]at b;refine aa (kA (l.map ip) ⟨#[44]⟩ (by rw[aG];omega) om) ?_;refine cZ a ?_;rfl
end Go.Proofs.YtigjebcjfbhnjaaGreatDoor
namespace Go.Proofs.YtigjebcjfbhnjaaGreatDoor
open Bool renaming true→k0,false→l0
open Go renaming IntKind→D0
open List renaming range→lc,replicate→ld,getD→lg,length→lh
open Nat renaming reduceEqDiff→lj,reduceMod→lk,reduceAdd→ll,reduceLT→lm,reduceLeDiff→lp,reduceSub→lr,reduceMul→lu,reduceBEq→lw
open Int renaming reduceToNat→lz,reduceLE→lA,reduceLT→lB,reduceNeg→lC
open Go.Proofs.Tryz
open Go.Abs
variable (f:V0)(n:Int)(a:N0)(k:Nat){d:Q0}{i:Nat}{w:P0}{b:Bool}{K:St->Prop}{L:N0}{c:FuncId}{o:RV->Prop}{s:St}{g:M0}
def HU(a:Q0)(b:Bool)(w:P0):Q0:=if b=k0 then a++[w]else a
def Zb(b:Bool)(a:Q0)(i:Nat):Row :=
 if i=1000000 then⟨1,.box 22 [if b=k0 then .v (.slice none 0 0)else .own 1000001 1]⟩else if i=1000001 then(if b=k0 then⟨0,.dead⟩else⟨1,.sli 9 1 l0 (sL a)⟩)else⟨0,.dead⟩
theorem znN(b:Bool)(a:Q0)(h:i<1000000):Zb b a i=⟨0,.dead⟩:=by unfold Zb;rw[ac om,ac om]
theorem zed(h:(Zb b d i).kind.nd=k0):i=1000000\/(i=1000001/\b=l0):=by by_cases c:i=1000000;exact .inl c;by_cases a:i=1000001;cases b;exact .inr ⟨a,rfl⟩;rw[a]at h;cases h;unfold Zb at h;rw[ac c,ac a]at h;cases h
def zee(out:Q0)(a:S0)(p:PV):Prop:=p=.tup []/\∃v,0<v/\a 1000000=⟨1,.box 22 [.own 1000001 v]⟩/\a 1000001=⟨v,.sli 9 1 l0 (sL out)⟩
theorem znO(g:b=k0->d=[])(a:∀k,s.rw k=Zb b d k) :
 ∃c,Wk s c/\c.sl=s.sl/\c.rw 1000000=⟨1,.box 22 [.own 1000001 1]⟩/\c.rw 1000001=⟨1,.sli 9 1 l0 (sL d)⟩/\∀k,k<1000000->c.rw k=⟨0,.dead⟩:=by
 cases b with
 | false=>exact⟨s,Wk.refl s,rfl,by rw[a];rfl,by rw[a];rfl,λk e=>by rw[a,znN _ _ e]⟩
 | true =>
   have h:=g rfl
   subst h
   have i:s.rw 1000000=⟨1,.box 22 [.v (.slice none 0 0)]⟩:=by rw[a];rfl
   have j:s.rw 1000001=⟨0,.dead⟩:=by rw[a];rfl
   have f:=Wk.nilBox (o:=0) 1000001 9 i rfl dc
   rw[j]at f
   refine⟨_,f,rfl,by rw[dw];rfl,by rw[bZ _ _ _ _ dc,dw];rfl,λk e=>?_⟩
   rw[bZ _ _ _ _ om,bZ _ _ _ _ om,a,znN _ _ e]
theorem ol(b:Bool)(c:Q0)(m:b=k0->c=[])(t:lh c<=100)(g:Bool)(w:P0):AG prog 153 [aU g,fa w,.ref 1000000 1 0] (Zb b c) (zee (HU c g w)):=by
 refine AG.goW (rs:=[]) tk mixed func153 rfl rfl rfl kr λu n z f k=>?_;obtain⟨s,l,a,i,j,d⟩:=znO m k;refine⟨s,l,?_⟩;have o:s.sl 0=aU g:=by rw[a,f];rfl
 have p:s.sl 1=fa w:=by rw[a,f];rfl
 have q:s.sl 2=.ref 1000000 1 0:=by rw[a,f];rfl
 clear f k l a z;have r:sL c++[fa w]=sL (c++[w]):=by simp[sL]
 have e:lh (sL c)=lh c:=by simp[sL]
 refine xA o p q i j d e ?_;unfold HU;refine⟨λh=>⟨om,?_⟩,λh=>?_⟩;rw[ae h];exact⟨rfl,2,dc,by simp -dsimp only[gr,simprocAttr,i],by simp -dsimp only[gr,simprocAttr,j]⟩;rw[ac (by rw[h];decide)];exact⟨rfl,1,dc,i,j⟩
theorem zvK[aw]{out:Q0}{z:Bool}{f:PV}{k q j O:Nat}(R:AG prog c [aU b,fa w,.ref 1000000 1 0] (Zb z d) (zee out))(E:s.rw k=⟨q,.box 22 [f]⟩)(t:(z=k0/\f=.v (.slice none 0 0))\/(z=l0/\f=.own j O/\s.rw j=⟨O,.sli 9 1 l0 (sL d)⟩))(u:j≠k)(U:∀P,K (((s.row j ⟨P,.sli 9 1 l0 (sL out)⟩).row k ⟨q,.box 22 [.own j P]⟩).put (some i) (.tup []))):askG prog s c [aU b,fa w,.ref k q 0] (some i) K:=by
 let o:Nat->Option Nat:=λa=>if a=1000000 then some k else if a=1000001 then(if z=k0 then none else some j)else none
 let g:Nat->Option Nat:=λa=>if a=1000000 then some k else if a=1000001 then some j else none
 have y:∀{a x:Nat},g a=some x->(a=1000000/\x=k)\/(a=1000001/\x=j):=λ{a x}h=>by have h:(if a=1000000 then some k else if a=1000001 then some j else none)=some x:=h;split at h;cases h;exact .inl ⟨‹_›,rfl⟩;split at h;cases h;exact .inr ⟨‹_›,rfl⟩;cases h
 have F:∀a,(Zb z d a).kind.nd=k0->g a=o a:=λa h=>by rcases zed h with rfl|⟨rfl,rfl⟩<;>rfl
 have G:GvA o (λ_=>False) (Zb z d) s.rw (if z=k0 then .v (.slice none 0 0)else .own 1000001 1) f:=by rcases t with⟨rfl,rfl⟩|⟨rfl,rfl,H⟩;exact .v _;exact .own rfl rfl (by rw[H]) rfl
 have m:∀a r x,g a=some x->g r=some x->a=r:=λa r x h I=>by rcases y h with⟨rfl,rfl⟩|⟨rfl,rfl⟩<;>rcases y I with⟨rfl,e⟩|⟨rfl,e⟩;rfl;exact absurd e.symm u;exact absurd e u;rfl
 refine⟨_,_,_,o,λ_=>False,R,.one (.v _) (.one (.v _) (.one (.ref rfl rfl (by rw[E]) rfl) .nil)),⟨λa J=>?_,λa r x J L h I=>m a r x ((F a J).trans h) ((F r L).trans I),λ_ _ _ _ h=>h⟩,λA p⟨V,v,X,Q,B⟩=>?_⟩
 rcases zed J with rfl|⟨rfl,rfl⟩
 exact⟨ab _,Nat.one_pos,k,rfl,by rw[E];exact⟨rfl,.one G .nil⟩⟩
 rcases t with⟨h,_⟩|⟨_,_,H⟩
 cases h
 exact⟨dc,Nat.one_pos,j,rfl,by rw[H];exact⟨rfl,rfl,rfl,zan _⟩⟩
 subst V;let l:T0:=λa=>if a=1000000 then q else(s.rw j).ver+(if z=k0 then v else v-1)
 refine⟨g,l,k0,⟨F,m,λa x h C n=>?_,λa x h C=>?_,λ_ _ h=>h⟩,λS D=>?_⟩
 rcases y h with⟨rfl,rfl⟩|⟨rfl,rfl⟩
 rw[E];rfl
 rcases zed C with h|⟨_,rfl⟩
 cases h
 rw[B]at n;have:v=1:=n;subst this;rfl
 rcases y h with⟨rfl,rfl⟩|⟨rfl,rfl⟩
 exact absurd (by rw[Q];rfl) (C rfl)
 show(s.rw x).ver<(s.rw x).ver+(if z=k0 then v else v-1);cases z with
 | true=>rw[ae rfl];omega
 | false =>have:=C rfl;rw[B]at this;have:v≠1:=this;rw[ac dc];omega
 have e:S=((s.row j ⟨l 1000001,.sli 9 1 l0 (sL out)⟩).row k ⟨q,.box 22 [.own j (l 1000001)]⟩).put (some i) (.tup []):=by
  refine St.ext2 (λN=>?_) λa=>?_;rw[D.sl];by_cases e:N=i;subst e;rw[cF,cF];rfl;rw[da _ _ _ _ e,da _ _ _ _ e];rfl;rw[iW];by_cases e:a=k;subst e;rw[dw,D.row 1000000 a rfl,Q];have:Hn g A l k0 (.own 1000001 v)=.own j (l 1000001):=by rw[lH,B];show(match some j,v==v with|some j,k0=>PV.own j (l 1000001)|_,_=>.junk)=_;rw[du]
  show(⟨q,.box 22 [yP g A l k0 (.own 1000001 v)]⟩:Row)=_;rw[show yP g A l k0 (.own 1000001 v)=Hn g A l k0 (.own 1000001 v) from rfl,this];rw[bZ _ _ _ _ e];by_cases M:a=j;subst M;rw[dw,D.row 1000001 a rfl,B];rfl;rw[bZ _ _ _ _ M];refine D.off a λz W=>?_;rcases y W with⟨_,h⟩|⟨_,h⟩
  exact e h;exact M h
 rw[e];exact U _
theorem sF[aw]{out:Q0}(l:Bool){f:PV}{k e:Nat}(j m:Nat){us:Dm s}{u:Dm K}(p:AG prog c [aU b,fa w,.ref 1000000 1 0] (Zb l d) (zee out))(q:s.rw k=⟨e,.box 22 [f]⟩)(a:(l=k0/\f=.v (.slice none 0 0))\/(l=l0/\f=.own j m/\s.rw j=⟨m,.sli 9 1 l0 (sL d)⟩))(h:j≠k)(r:∀n,K (((s.row j ⟨n,.sli 9 1 l0 (sL out)⟩).row k ⟨e,.box 22 [.own j n]⟩).put (some i) (.tup []))):nn prog c g o (tS prog c g [aU b,fa w,.ref k e 0] (some i) (kk s us) (kk K u)):=.inr (.inr (.inr (.inr (zvK p q a h r))))
def lsR(a:Q0)(i:Nat):Row:=if i=1000000 then⟨1,.sli 9 1 l0 (sL a)⟩else⟨0,.dead⟩
theorem zef(h:(lsR d i).kind.nd=k0):i=1000000:=aC λe=>by unfold lsR at h;rw[ac e]at h;cases h
def znP(out:Q0)(a:S0)(p:PV):Prop:=∃v,0<v/\p=.own 1000000 v/\a 1000000=⟨v,.sli 9 1 l0 (sL out)⟩
theorem jQ(a:Q0)(o:lh a<=100)(d:Bool)(w:P0):AG prog 203 [.own 1000000 1,aU d,fa w] (lsR a) (znP (HU a d w)):=by
 refine xag [.tmp 6] func203 λp g z c e=>?_;have i:z.sl 0=.own 1000000 1:=by rw[c];rfl
 have k:z.sl 1=aU d:=by rw[c];rfl
 have l:z.sl 2=fa w:=by rw[c];rfl
 have f:z.rw 1000000=⟨1,.sli 9 1 l0<|sL a⟩:=by rw[e];rfl
 have m:∀j,j<1000000->z.rw j=⟨0,.dead⟩:=λj q=>by rw[e];unfold lsR;rw[ac om]
 have b:lh (sL a)=lh a:=by simp[sL]
 refine Cn i k l f m b ?_;unfold HU;refine⟨λh=>⟨om,?_⟩,λh=>?_⟩;rw[ae h];exact⟨2,dc,rfl,rfl⟩;rw[ac<|by rw[h];decide];exact⟨1,dc,rfl,f⟩
theorem sG[aw]{out:Q0}{j q:Nat}{us:Dm s}{u:Dm K}(E:AG prog c [.own 1000000 1,aU b,fa w] (lsR d) (znP out))(n:s.rw j=⟨q,.sli 9 1 l0 (sL d)⟩)(F:∀B,K ((s.row j ⟨B,.sli 9 1 l0 (sL out)⟩).put (some i) (.own j B))):nn prog c g o (tS prog c g [.own j q,aU b,fa w] (some i) (kk s us) (kk K u)):=by
 refine .inr<|.inr<|.inr<|.inr<|show askG prog s c [.own j q,aU b,fa w] (some i) K from ?_
 let k:Nat->Option Nat:=λa=>if a=1000000 then some j else none
 have m:∀{a x:Nat},k a=some x->a=1000000/\x=j:=λ{a x}h=>by have h:(if a=1000000 then some j else none)=some x:=h;split at h;cases h;exact⟨‹_›,rfl⟩;cases h
 refine⟨_,_,_,k,λ_=>False,E,.one (.own rfl rfl (by rw[n]) rfl)<|.one (.v _)<|.one (.v _) .nil,⟨λa r=>?_,λa G x r t _ _=>(zef r).trans (zef t).symm,λ_ _ _ _ h=>h⟩,λC p⟨v,M,H,f⟩=>?_⟩
 have:=zef r;subst this;exact⟨ab _,Nat.one_pos,j,rfl,by rw[n];exact⟨rfl,rfl,rfl,zan _⟩⟩
 subst H;refine⟨k,λ_=>q+(v-1),k0,⟨λ_ _=>rfl,λa G x h I=>(m h).1.trans (m I).1.symm,λa x h _ l=>?_,λa x h J=>?_,λ_ _ h=>h⟩,λS y=>?_⟩
 obtain⟨rfl,rfl⟩:=m h;rw[f]at l;have:v=1:=l;subst this;rw[n];rfl
 obtain⟨rfl,rfl⟩:=m h;have:=J rfl;rw[f]at this;have:v≠1:=this;rw[n];show q<q+(v-1);omega
 have e:S=(s.row j ⟨q+(v-1),.sli 9 1 l0<|sL out⟩).put (some i) (.own j<|q+(v-1)):=by
  refine St.ext2 (λA=>?_) λa=>?_;rw[y.sl];have z:zaX k C (λ_=>q+(v-1)) k0 (.own 1000000 v)=.own j (q+(v-1)):=by show Hn k C (λ_=>q+(v-1)) k0 (.own 1000000 v)=_;rw[lH,f];show(match some j,v==v with|some j,k0=>PV.own j (q+(v-1))|_,_=>.junk)=_;rw[du]
  rw[z];by_cases e:A=i;subst e;rw[cF,cF];rw[da _ _ _ _ e,da _ _ _ _ e];rfl;rw[iW];by_cases e:a=j;subst e;rw[dw,y.row 1000000 a rfl,f];rfl;rw[bZ _ _ _ _ e];exact y.off a λD L=>e (m L).2
 rw[e];exact F _
noncomputable def Qs(n:Int)(a:N0):Q0 :=
 HU (HU (HU (HU (HU (HU (HU [] (zy n a) ⟨#[112,117,114,101]⟩) (xd n a).isSome ⟨#[115,104,101,108,108,97,98,108,101]⟩) (WN n a) ⟨#[100,101,99,111,109,112,111,115,97,98,108,101]⟩) (Zr n a 2) ⟨#[102,117,108,108]⟩) (WW n a) ⟨#[102,108,97,103]⟩) (sO n a) ⟨#[99,108,111,115,101,100]⟩) (WT n a) ⟨#[98,97,108,97,110,99,101,100]⟩
noncomputable def Qt(n:Int)(a:N0):P0:=if aS n a=k0 then(if(Qs n a).length=0 then⟨#[45]⟩else qJ (Qs n a) ⟨#[32]⟩)else⟨#[]⟩
def XS(k:Nat)(a:Q0):Prop:=lh a<=k/\∀w∈a,w.size<=12
theorem WI:XS 0 []:=⟨ab _,λ_ h=>by grind⟩
theorem hG(h:XS i d)(b:Bool)(c:w.size<=12):XS (i+1) (HU d b w):=by
 unfold HU;cases b;exact⟨po h.1,h.2⟩;refine⟨by rw[ae rfl,aA,cG];have:=h.1;omega,λx a=>?_⟩;rcases List.mem_append.1 a with a|a
 exact h.2 x a;grind
theorem zbO(h:∀l,l<lh d->(lg d l ⟨#[]⟩).size<=i)(b:w.size<=1):∀l,l<=lh d->(iy d w l).size<=(i+1)*l:=by
 intro l;induction l with
 | zero=>exact λ_=>ab _
 | succ l a =>unfold iy;grind
theorem znM:XS 7 (Qs n a):=hG (hG (hG (hG (hG (hG (hG WI _ dc) _ dc) _ dc) _ dc) _ dc) _ dc) _ dc
theorem ON:(∀i,i<=lh (Qs n a)->(iy (Qs n a) ⟨#[32]⟩ i).size<=13*i)/\iy (Qs n a) ⟨#[32]⟩ (Qs n a).length=qJ (Qs n a) ⟨#[32]⟩ :=
 ⟨zbO (λi b=>(znM n a).2 _<|aP _ b)<|ab 1,by simp[jD]⟩
theorem vK:AC prog 63 [.ag [al n,aE a]] (.im (fa (Qt n a))):=by
 refine cA [.tmp 2] func63 λI=>?_;refine aR (aa (aH n a) ?_);refine aR ?_;unfold Qt;refine⟨λb=>?_,λb=>?_⟩;rw[ac (by intro h;rw[h]at b;cases b)];have b:aS n a=true:=ss b;rw[ae b];have B:=fH b;refine aa (nD n a) ?_;refine aR ?_;refine sF k0 90 0 (ol k0 [] (λ_=>rfl) dc (zy n a) ⟨#[112,117,114,101]⟩) gl (.inl ⟨rfl,rfl⟩) dc λC=>?_;obtain⟨t,c⟩:∃W,W=HU [] (zy n a) ⟨#[112,117,114,101]⟩:=⟨_,rfl⟩;rw[<- c];have l:XS 1 t:=c ▸ hG WI _ dc;refine aR (aa (Di n a) ?_);refine aR ?_;refine sF l0 90 C (ol l0 t (λh=>by cases h) (by have:=l.1;omega) ((xd n a).isSome) ⟨#[115,104,101,108,108,97,98,108,101]⟩) gl (.inr ⟨rfl,rfl,gl⟩) dc λD=>?_;obtain⟨u,d⟩:∃W,W=HU t ((xd n a).isSome) ⟨#[115,104,101,108,108,97,98,108,101]⟩:=⟨_,rfl⟩;rw[<- d];have m:XS 2 u:=d ▸ hG l _ dc;refine aR (aa (ye n a) ?_);refine aR ?_;refine sF l0 90 D (ol l0 u (λh=>by cases h) (by have:=m.1;omega) (WN n a) ⟨#[100,101,99,111,109,112,111,115,97,98,108,101]⟩) gl (.inr ⟨rfl,rfl,gl⟩) dc λE=>?_;obtain⟨w,f⟩:∃W,W=HU u (WN n a) ⟨#[100,101,99,111,109,112,111,115,97,98,108,101]⟩:=⟨_,rfl⟩;rw[<- f];have o:XS 3 w:=f ▸ hG m _ dc;refine aR (aa (wV n a 2) ?_);refine aR ?_;refine sF l0 90 E (ol l0 w (λh=>by cases h) (by have:=o.1;omega) (Zr n a 2) ⟨#[102,117,108,108]⟩) gl (.inr ⟨rfl,rfl,gl⟩) dc λv4=>?_;obtain⟨x,g⟩:∃W,W=HU w (Zr n a 2) ⟨#[102,117,108,108]⟩:=⟨_,rfl⟩;rw[<- g];have p:XS 4 x:=g ▸ hG o _ dc;refine aR (aa (Qx n a) ?_);refine aR ?_;refine sF l0 90 v4 (ol l0 x (λh=>by cases h) (by have:=p.1;omega) (WW n a) ⟨#[102,108,97,103]⟩) gl (.inr ⟨rfl,rfl,gl⟩) dc λF=>?_;obtain⟨y,i⟩:∃W,W=HU x (WW n a) ⟨#[102,108,97,103]⟩:=⟨_,rfl⟩;rw[<- i];have q:XS 5 y:=i ▸ hG p _ dc;refine aR ?_;refine aa (qV n a om) ?_;refine aR ?_;refine sF l0 90 F (ol l0 y (λh=>by cases h) (by have:=q.1;omega) (sO n a) ⟨#[99,108,111,115,101,100]⟩) gl (.inr ⟨rfl,rfl,gl⟩) dc λv6=>?_;obtain⟨z,j⟩:∃W,W=HU y (sO n a) ⟨#[99,108,111,115,101,100]⟩:=⟨_,rfl⟩;rw[<- j];have r:XS 6 z:=j ▸ hG q _ dc;refine aR (aa (FP n a) ?_);refine aR ?_;refine sF l0 90 v6 (ol l0 z (λh=>by cases h) (by have:=r.1;omega) (WT n a) ⟨#[98,97,108,97,110,99,101,100]⟩) gl (.inr ⟨rfl,rfl,gl⟩) dc λJ=>?_;obtain⟨s,k⟩:∃W,W=HU z (WT n a) ⟨#[98,97,108,97,110,99,101,100]⟩:=⟨_,rfl⟩;rw[<- k];have A:XS 7 s:=k ▸ hG r _ dc;refine aR ?_;have G:s=Qs n a:=by rw[k,j,i,g,f,d,c];rfl
 obtain⟨j1,j2⟩:=ON n a;rw[<- G]at j1 j2 ⊢;have H:=A.1;refine⟨λh=>?_,λh=>?_⟩;rw[ae (by have:=beq_iff_eq.1 h;omega)];rw[ac (by intro e;rw[e]at h;cases h)];have j3:=j1 (lh s) (ab _);rw[j2]at j3;refine aa (kA s ⟨#[32]⟩ om om) ?_;exact ef
theorem vL:AC prog 106 [.ag [al n,aE a]] (.im (fa (Qt n a))):=by
 refine cA [.tmp 2] func106 λG=>?_;refine aR ?_;refine aa (bw n a) ?_;refine aR ?_;unfold Qt;refine⟨λb=>?_,λb=>?_⟩;rw[ac (by intro h;rw[h]at b;cases b)];have b:aS n a=true:=ss b;rw[ae b];have C:=fH b;refine aa (nC n a) ?_;refine aR ?_;refine sG (jQ [] dc (zy n a) ⟨#[112,117,114,101]⟩) xs0 λH=>?_;obtain⟨t,c⟩:∃W,W=HU [] (zy n a) ⟨#[112,117,114,101]⟩:=⟨_,rfl⟩;rw[<- c];have m:XS 1 t:=c ▸ hG WI _ dc;refine aR ?_;refine aa (Dk n a) ?_;refine aR ?_;refine sG (jQ t (by have:=m.1;omega) ((xd n a).isSome) ⟨#[115,104,101,108,108,97,98,108,101]⟩) xs0 λI=>?_;obtain⟨u,d⟩:∃W,W=HU t ((xd n a).isSome) ⟨#[115,104,101,108,108,97,98,108,101]⟩:=⟨_,rfl⟩;rw[<- d];have o:XS 2 u:=d ▸ hG m _ dc;refine aR ?_;refine aa (yf n a) ?_;refine aR ?_;refine sG (jQ u (by have:=o.1;omega) (WN n a) ⟨#[100,101,99,111,109,112,111,115,97,98,108,101]⟩) xs0 λJ=>?_;obtain⟨w,f⟩:∃W,W=HU u (WN n a) ⟨#[100,101,99,111,109,112,111,115,97,98,108,101]⟩:=⟨_,rfl⟩;rw[<- f];have p:XS 3 w:=f ▸ hG o _ dc;refine aR ?_;refine aa (wW n a 2) ?_;refine aR ?_;refine sG (jQ w (by have:=p.1;omega) (Zr n a 2) ⟨#[102,117,108,108]⟩) xs0 λv4=>?_;obtain⟨x,g⟩:∃W,W=HU w (Zr n a 2) ⟨#[102,117,108,108]⟩:=⟨_,rfl⟩;rw[<- g];have q:XS 4 x:=g ▸ hG p _ dc;refine aR ?_;refine aa (Qy n a) ?_;refine aR ?_;refine sG (jQ x (by have:=q.1;omega) (WW n a) ⟨#[102,108,97,103]⟩) xs0 λK=>?_;obtain⟨y,j⟩:∃W,W=HU x (WW n a) ⟨#[102,108,97,103]⟩:=⟨_,rfl⟩;rw[<- j];have r:XS 5 y:=j ▸ hG q _ dc;refine aR ?_;refine aa (qW n a om) ?_;refine aR ?_;refine sG (jQ y (by have:=r.1;omega) (sO n a) ⟨#[99,108,111,115,101,100]⟩) xs0 λv6=>?_;obtain⟨z,k⟩:∃W,W=HU y (sO n a) ⟨#[99,108,111,115,101,100]⟩:=⟨_,rfl⟩;rw[<- k];have s:XS 6 z:=k ▸ hG r _ dc;refine aR ?_;refine aa (FQ n a) ?_;refine aR ?_;refine sG (jQ z (by have:=s.1;omega) (WT n a) ⟨#[98,97,108,97,110,99,101,100]⟩) xs0 λL=>?_;obtain⟨A,l⟩:∃W,W=HU z (WT n a) ⟨#[98,97,108,97,110,99,101,100]⟩:=⟨_,rfl⟩;rw[<- l];have B:XS 7 A:=l ▸ hG s _ dc;refine aR ?_;have D:A=Qs n a:=by rw[l,k,j,g,f,d,c];rfl
 obtain⟨j1,j2⟩:=ON n a;rw[<- D]at j1 j2 ⊢;have E:=B.1;refine⟨λh=>?_,λh=>?_⟩;rw[ae (by have:=beq_iff_eq.1 h;omega)];rw[ac (by intro e;rw[e]at h;cases h)];refine aa (qI A ⟨#[32]⟩ om (λi F=>by
  have:=j1 i F;have e:(ByteArray.mk #[32]).size=1:=rfl;omega)) ?_
 rw[j2];exact ef
theorem sQ:AC prog 145 [dv (bA f 64:Nat)] (.fr 3 1 (iL (gc f))):=by
 refine cA [.tmp 2] func145 λr=>?_;have t:=eD f;refine aR<|aa (uc f) ?_;have a:=nx f;have m:=eb f;refine cZ a ?_;refine az (λ(k,v)s=>(s.sl 3=.own 3 v/\s.rw 3=⟨v,.sli 3 1 l0<|iL<|(gc f).take k⟩/\s.sl 7=.own 7 1/\s.rw 7=⟨1,.sli 29 1 l0<|mF<|ms f⟩/\s.sl 8=al (cv f)/\s.sl 9=al k)/\(k<=cv f)) (λ(k,v)=>cv f-k) ((0,1)) ⟨(jX a),sp⟩ ?_;intro(k,v) u ⟨⟨c,b,d,g,i,j⟩,o⟩;refine xA c b d g i j a ?_;refine⟨λh=>⟨h,h,?_⟩,λh=>?_⟩;have l:=kO f h;have p:=fc f k<|ab 64;have e:(gc f).take (k+1)=(gc f).take k++[((cd f k 64).length:Int)]:=by rw[bj 0 om,lN f h]
 have q:lh ((gc f).take k)<=7:=by simp;omega
 simp only[↓gp,gq,gT,c,b,d,g,i,j,a,l,ap];refine⟨om,?_⟩;exact ah ((k+1,v+1)) ⟨(by and_intros<;>(first|(simp only[gr,simprocAttr,c,b,d,g,i,j,l,ap,e,ak h om];first|done|rfl|(simp;done))|assumption|rfl)),om⟩;grind
noncomputable def RC(n:Int)(a:N0):N0:=if aS n a=k0 then gc (ao a)else []
theorem gw:AC prog 54 [.ag [al n,aE a]] (.fr 3 1 (iL (RC n a))):=by
 refine cA [.tmp 2] func54 λc=>?_;refine aR (aa (aH n a) ?_);refine aR ?_;refine⟨λb=>?_,λb=>?_⟩;have b:aS n a=false:=ss b;have:RC n a=[]:=by unfold RC;rw[ac (by rw[b];decide)]
 rw[this];rfl;have b:aS n a=true:=ss b;have:RC n a=gc (ao a):=ae b;rw[this];refine aa (cj n a (dM b)) ?_;refine aR (aa (sQ _) ?_);exact ef
def Sa(k:Nat):Int:=2*((k%2:Nat):Int)-1
def HR(L:O0)(j:Nat):Int:=((L.take j).map λs=>Sa (aQ s)).sum
def nB(l:N0):Nat->Int|0=>0|k+1=>nB l k+Sa k*l.getD k 0
theorem OM:-1<=Sa k/\Sa k<=1/\(k%2=1->Sa k=1)/\(k%2=0->Sa k=-1):=by unfold Sa;omega
theorem UM{L:O0}(h:i<lh L):HR L (i+1)=HR L i+Sa (aQ (lg L i 0)):=by unfold HR;rw[bj 0 h];simp
theorem WH(L:O0):∀j,j<=lh L->-(j:Int)<=HR L j/\HR L j<=j:=by
 intro j;induction j with
 | zero=>simp[HR]
 | succ j a =>intro h;have c:=OM<|aQ<|lg L j 0;rw[UM om];omega
theorem zjx(L:O0)(s:Nat):∀d,nB (rA (L++[s]) d) d=nB (rA L d) d+if aQ s<d then Sa (aQ s)else 0:=by
 have a:∀n d,d<=n->nB (rA (L++[s]) n) d=nB (rA L n) d+if aQ s<d then Sa (aQ s)else 0:=by
  intro n d;induction d with
  | zero=>intro _;simp[nB]
  | succ d e =>intro h;rw[nB,nB,e om,vn _ om,vn _ om,Un];by_cases b:aQ s=d;rw[ae b,ae (show aQ s<d+1 by omega),ac (show ¬aQ s<d by omega),b,show(((zf L d+1:Nat):Int))=(zf L d:Int)+1 by omega,Int.mul_add];omega;rw[ac b];by_cases c:aQ s<d;rw[ae c,ae (show aQ s<d+1 by omega),lD];omega;rw[ac c,ac (show ¬aQ s<d+1 by omega),lD];omega
 exact λd=>a d d (ab _)
theorem znK{d:Nat}:∀(R L:O0),(∀s∈L++R,aQ s<d)->nB (rA (L++R) d) d=nB (rA L d) d+(R.map λs=>Sa (aQ s)).sum
 | [],L,_=>sp
 | x::R,L,h=>by have e:L++x::R=(L++[x])++R:=sp;rw[e]at h ⊢;rw[znK R (L++[x]) h,zjx,ae (h x sp),dR,List.sum_cons];omega
theorem znL:∀n,n<=k->nB (rA [] k) n=0:=by
 intro n;induction n with
 | zero=>intro _;rfl
 | succ n a =>intro h;rw[nB,a om,vn _ om];simp[zf]
theorem mP{n:Int}(h:aS n L=k0):ci n L=ao L:=by funext s;rw[ci,h,au]
theorem zec:nB (gc f) (cv f)=HR (co f) (co f).length:=by
 have:=znK (d:=cv f) _ [] (λs b=>have⟨c,e⟩:=cR.1 (ss b);rz 64 s c e);rw[eg,znL _ _<|ab _,Int.zero_add]at this;rw[gc,HR,this,av]
theorem sE(h:aS n a=k0):AC prog 57 [.ag [al n,aE a]] (.im (al (nB (gc (ao a)) (cv (ao a))))):=by
 refine cA [.tmp 2] func57 λx=>?_;refine aR (aa (aH n a) ?_);refine cZ h (aa (cj n a (dM h)) ?_);refine aR (aa (sQ _) ?_);have f:=eb (ao a);have p:=eD (ao a);have c:∀i,i<lh (gc (ao a))->0<=lg (gc (ao a)) i 0/\(gc (ao a)).getD i 0<=64:=λi y=>by rw[lN _ om];exact UT a i
 have o:∀k,k<=lh (gc (ao a))->-(64*(k:Int))<=nB (gc (ao a)) k/\nB (gc (ao a)) k<=64*(k:Int):=by
  intro k;induction k with
  | zero=>intro _;exact⟨oE _,oE _⟩
  | succ k q =>
    intro z;have b:=q om;have d:=c k om;rw[nB];rcases mD k with g|g
    rw[(OM k).2.2.2 g];omega;rw[(OM k).2.2.1 g];omega
 rw[<- f];generalize gc (ao a)=F at *;refine aR ?_;refine az (λ(k:Nat)s=>(s.sl 1=.ref 1 1 0/\s.rw 1=⟨1,.box 31 [al n,aE a]⟩/\s.sl 3=al (nB F k)/\s.sl 11=.own 11 1/\s.rw 11=⟨1,.sli 3 1 l0 (iL F)⟩/\s.sl 12=al (lh F)/\s.sl 13=al k)/\(k<=lh F)) (λk=>lh F-k) (0) ⟨nm,aB _⟩ ?_;intro k A ⟨j,r⟩;have t:(k:Int).tmod 2=((k%2:Nat):Int):=by rw[mL om];omega
 refine ff j t ?_;refine⟨λb=>⟨b,b,λd=>?_,λd=>?_⟩,λb=>?_⟩;have u:=o k om;have w:=c k b;have l:=(OM k).2.2.1 (by have:=beq_iff_eq.1 d;omega);have e:nB F (k+1)=nB F k+lg F k 0:=by rw[nB,l];omega
 have m:D0.i64.wrap (nB F k+lg F k 0)=nB F (k+1):=by rw[e];exact aF om om
 exact ah (k+1) ⟨(fB j (ak b om) m),om⟩;have u:=o k om;have w:=c k b;have l:=(OM k).2.2.2 (by have:=beq_eq_false_iff_ne.1 d;omega);have e:nB F (k+1)=nB F k-lg F k 0:=by rw[nB,l];omega
 have m:D0.i64.wrap (nB F k-lg F k 0)=nB F (k+1):=by rw[e];exact aF om om
 exact ah (k+1) ⟨(fB j (ak b om) m),om⟩;rw[show k=lh F by omega]
theorem xK:AC prog 100 [.ag [al n,aE a]] (.im (al (nB (gc (ci n a)) (cv (ci n a))))):=by
 refine cA [.tmp 2] func100 λr=>?_;refine aR (aa (io n a) ?_);rw[zec];have d:=ap (co (ci n a));have e:=ordN_len (ci n a);have c:=λi (g:i<lh (co (ci n a)))=>(cR.1 (aP 0 g)).1;generalize co (ci n a)=L at *;refine aR ?_;refine az (λ(k:Nat)s=>(s.sl 1=.ref 1 1 0/\s.rw 1=⟨1,.box 31 [al n,aE a]⟩/\s.sl 3=al (HR L k)/\s.sl 4=.own 7 1/\s.rw 7=⟨1,.sli 3 1 l0 (iL (bl L))⟩/\s.sl 5=al k)/\(k<=lh L)) (λk=>lh L-k) (0) ⟨nm,aB _⟩ ?_;intro k t ⟨f,h⟩;refine ff f d ?_;refine⟨λb=>⟨b,b,?_⟩,λb=>?_⟩;have j:=c k b;rw[bX b];refine aa (ey _ om) ?_;have u:=WH L k om;have l:(aQ (lg L k 0):Int).tmod 2=((aQ (lg L k 0)%2:Nat):Int):=by rw[mL om];omega
 have m:aQ (lg L k 0)%2<2:=xq _ dc;have o:D0.i64.wrap (2*((aQ (lg L k 0)%2:Nat):Int))=2*((aQ (lg L k 0)%2:Nat):Int):=aF om om;have p:D0.i64.wrap (HR L k+2*((aQ (lg L k 0)%2:Nat):Int))=HR L k+2*((aQ (lg L k 0)%2:Nat):Int):=aF om om;have q:D0.i64.wrap (HR L k+2*((aQ (lg L k 0)%2:Nat):Int)-1)=HR L (k+1):=by rw[UM b];unfold Sa;rw[aF om om];omega
 refine nN f l o p q ?_;exact ah (k+1) ⟨(gE f (ak b om)),om⟩;rw[show k=lh L by omega]
theorem zn(h:aS n a=k0):AC prog 100 [.ag [al n,aE a]] (.im (al (nB (gc (ao a)) (cv (ao a))))):=by have:=xK n a;rwa [mP h]at this
noncomputable def hV(a:N0):N0:=(lc (cv (ao a))).map λk=>UR (OZ a) (cv (ao a)-1) (k+1) k
theorem Df:lh (hV a)=cv (ao a):=by simp[hV]
theorem zhK{xs:N0}{k:Nat}(h:k<cv (ao xs)):(hV xs).take (k+1)=(hV xs).take k++[UR (OZ xs) (cv (ao xs)-1) (k+1) k]:=by rw[bj 0<|by rwa[Df]];simp[hV,h]
theorem zwL:∀x∈hV a,-8960<=x/\x<=8960:=λx b=>by obtain⟨k,c,rfl⟩:=List.mem_map.1 b;have c:=List.mem_range.1 c;have d:=eD<|ao a;have:=AU (UT a) (n:=cv (ao a)-1) (t:=k) om om<|k+1;omega
theorem vJ:AC prog 146 [aE (gc (ao a))] (.fr 3 1 (iL (hV a))):=by
 refine cA [.tmp 2] func146 λR=>?_;have A:=eb (ao a);have E:=eD (ao a);have d:∀i,i<cv (ao a)->lg (gc (ao a)) i 0=OZ a i:=λi f=>by rw[lN _ f];rfl
 have g:=Df a;have j:=λk=>zhK (xs:=a) (k:=k);generalize gc (ao a)=F at *;generalize S:cv (ao a)=D at *;generalize hV a=V at *;have l:D0.i64.wrap ((lh F:Int)-1)=(D:Int)-1:=by rw[aF om om];omega
 refine cZ l ?_;refine az (λ((k,v):Nat×Nat) s=>(s.sl 0=aE F/\s.sl 3=al ((D:Int)-1)/\s.sl 4=.own 4 v/\s.rw 4=⟨v,.sli 3 1 l0 (iL (V.take k))⟩/\s.sl 5=al k)/\(k<=D)) (λ(k,v)=>D-k) ((0,1)) ⟨nm,aB _⟩ ?_;intro(k,v) U ⟨m,H⟩;refine cZ m ?_;refine⟨λh=>?_,λh=>?_⟩;refine az (λ(i:Nat)s=>(s.sl 0=aE F/\s.sl 3=al ((D:Int)-1)/\s.sl 4=.own 4 v/\s.rw 4=⟨v,.sli 3 1 l0 (iL (V.take k))⟩/\s.sl 5=al k/\s.sl 6=al (UR (OZ a) (D-1) i k)/\s.sl 7=al i)/\(i<=k+1)) (λi=>k+1-i) (0) ⟨(jX m),aB _⟩ ?_;intro i W ⟨c,I⟩;refine cZ c ?_;refine⟨λw=>?_,λw=>?_⟩;have o:gh ((D:Int)-1-i) ((k:Int)-i)=(rg (D-1-i) (k-i):Nat):=by unfold gh;rw[ae ⟨om,om,om⟩,show((D:Int)-1-i).toNat=D-1-i by omega,show((k:Int)-i).toNat=k-i by omega]
 have J:=OY (n:=D-1-i) (k:=k-i) om om;have p:=UT a i;obtain⟨X,Y,x,y⟩:=Xb p (b:=(rg (D-1-i) (k-i):Nat)) ⟨om,om⟩ (k-i);have K:=AU (UT a) (n:=D-1) (t:=k) om om i;have z:UR (OZ a) (D-1) (i+1) k=UR (OZ a) (D-1) i k+MU (k-i) (OZ a i*(rg (D-1-i) (k-i):Nat)):=by rw[OX,ae w]
 have L:D0.i64.wrap ((D:Int)-1-i)=(D:Int)-1-i:=aF om om;have M:D0.i64.wrap ((k:Int)-i)=(k:Int)-i:=aF om om;have N:((k:Int)-i).tmod 2=(((k-i)%2:Nat):Int):=by rw[show(k:Int)-i=((k-i:Nat):Int)by omega,mL om];omega
 have q:=d i om;generalize Z:((rg (D-1-i) (k-i):Nat):Int)=B at *;generalize hC:OZ a i=C at *;have O:D0.i64.wrap (C*B)=C*B:=aF om om;have v4:D0.i64.wrap (0-C*B)=-(C*B):=by rw[aF om om];omega
 refine⟨kr,om,om,aa (Ce _ _ om) ?_⟩;refine XO c L M o q N O v4 ?_;refine⟨λr=>?_,λr=>?_⟩;have e:MU (k-i) (C*B)=-(C*B):=ac (by have:=beq_iff_eq.1 r;omega);have u:D0.i64.wrap (UR (OZ a) (D-1) i k+-(C*B))=UR (OZ a) (D-1) (i+1) k:=by rw[z,e];rw[e]at x y;exact aF om om
 exact ah (i+1) ⟨(rS c v4 u (ak (show i<7 by omega) om)),om⟩;have e:MU (k-i) (C*B)=C*B:=ae (by have:=beq_eq_false_iff_ne.1 r;omega);have u:D0.i64.wrap (UR (OZ a) (D-1) i k+C*B)=UR (OZ a) (D-1) (i+1) k:=by rw[z,e];rw[e]at x y;exact aF om om
 exact ah (i+1) ⟨(fB c u (ak (show i<7 by omega) om)),om⟩;have f:i=k+1:=om;subst f;have e:=j k om;have P:lh (V.take k)<=7:=by simp;omega
 exact⟨om,ah ((k+1,v+1)) ⟨(rS m c e (ak (show k<7 by omega) om)),by dsimp only;omega⟩⟩;have Q:k=D:=om;rw[Q,<- g,av]
theorem xL(h:aS n a=k0):AC prog 55 [.ag [al n,aE a]] (.fr 3 1 (iL (hV a))):=by refine cA [.tmp 2] func55 λb=>?_;refine aR (aa (gw n a) ?_);rw[show RC n a=gc (ao a) from ae h];refine aR (aa (vJ a) ?_);exact ef
theorem xM(h:aS n a=k0):AC prog 98 [.ag [al n,aE a]] (.fr 3 1 (iL (hV a))):=by
 refine cA [.tmp 2] func98 λS=>?_;have x:=eb (ao a);have y:=eD (ao a);have g:∀i,i<cv (ao a)->lg (gc (ao a)) i 0=OZ a i:=λi j=>by rw[lN _ j];rfl
 have l:=Df a;have m:=λk=>zhK (xs:=a) (k:=k);have c:=gt n a;rw[mP h]at c;generalize gc (ao a)=F at *;generalize U:cv (ao a)=D at *;generalize hV a=V at *;have d:D0.i64.wrap ((lh F:Int)-1)=(D:Int)-1:=by rw[aF om om];omega
 refine cZ d (aa c ?_);refine cZ d ?_;refine az (λ((k,v):Nat×Nat) s=>(s.sl 1=.ref 1 1 0/\s.rw 1=⟨1,.box 31 [al n,aE a]⟩/\s.sl 3=.own 9 v/\s.rw 9=⟨v,.sli 3 1 l0 (iL (V.take k))⟩/\s.sl 4=.own 11 1/\s.rw 11=⟨1,.sli 3 1 l0 (iL F)⟩/\s.sl 5=al ((D:Int)-1)/\s.sl 6=al k)/\(k<=D)) (λ(k,v)=>D-k) ((0,1)) ⟨nm,aB _⟩ ?_;intro(k,v) W ⟨o,A⟩;refine cZ o ?_;refine⟨λh=>?_,λh=>?_⟩;refine az (λ(i:Nat)s=>(s.sl 1=.ref 1 1 0/\s.rw 1=⟨1,.box 31 [al n,aE a]⟩/\s.sl 3=.own 9 v/\s.rw 9=⟨v,.sli 3 1 l0 (iL (V.take k))⟩/\s.sl 4=.own 11 1/\s.rw 11=⟨1,.sli 3 1 l0 (iL F)⟩/\s.sl 5=al ((D:Int)-1)/\s.sl 6=al k/\s.sl 7=al (UR (OZ a) (D-1) i k)/\s.sl 8=al i)/\(i<=k+1)) (λi=>k+1-i) (0) ⟨(jX o),aB _⟩ ?_;intro i X ⟨f,E⟩;refine cZ f ?_;refine⟨λu=>?_,λu=>?_⟩;have p:gh ((D:Int)-1-i) ((k:Int)-i)=(rg (D-1-i) (k-i):Nat):=by unfold gh;rw[ae ⟨om,om,om⟩,show((D:Int)-1-i).toNat=D-1-i by omega,show((k:Int)-i).toNat=k-i by omega]
 have G:=OY (n:=D-1-i) (k:=k-i) om om;have q:=UT a i;obtain⟨Y,Z,t3,t4⟩:=Xb q (b:=(rg (D-1-i) (k-i):Nat)) ⟨om,om⟩ (k-i);have H:=AU (UT a) (n:=D-1) (t:=k) om om i;have I:UR (OZ a) (D-1) (i+1) k=UR (OZ a) (D-1) i k+MU (k-i) (OZ a i*(rg (D-1-i) (k-i):Nat)):=by rw[OX,ae u]
 have J:D0.i64.wrap ((D:Int)-1-i)=(D:Int)-1-i:=aF om om;have K:D0.i64.wrap ((k:Int)-i)=(k:Int)-i:=aF om om;have L:((k:Int)-i).tmod 2=(((k-i)%2:Nat):Int):=by rw[show(k:Int)-i=((k-i:Nat):Int)by omega,mL om];omega
 have r:=g i om;have M:(k-i)%2<2:=xq _ dc;have N:D0.i64.wrap (2*(((k-i)%2:Nat):Int))=2*(((k-i)%2:Nat):Int):=aF om om;have O:D0.i64.wrap (1-2*(((k-i)%2:Nat):Int))=1-2*(((k-i)%2:Nat):Int):=aF om om;generalize hB:((rg (D-1-i) (k-i):Nat):Int)=B at *;generalize hC:OZ a i=C at *;have P:(1-2*(((k-i)%2:Nat):Int))*C*B=MU (k-i) (C*B):=by
  unfold MU;rcases mD (k-i)with h|h
  rw[h,ae rfl];simp;rw[h,ac dc];simp[JQ]
 have v0:D0.i64.wrap ((1-2*(((k-i)%2:Nat):Int))*C)=(1-2*(((k-i)%2:Nat):Int))*C:=by rcases mD (k-i)with h|h<;>rw[h]<;>exact aF (by simp;omega) (by simp;omega)
 have v4:D0.i64.wrap (MU (k-i) (C*B))=MU (k-i) (C*B):=aF om om;have w:D0.i64.wrap (UR (OZ a) (D-1) i k+MU (k-i) (C*B))=UR (OZ a) (D-1) (i+1) k:=by rw[I];exact aF om om
 refine⟨kr,om,om,aa (Cd _ _ om) ?_⟩;simp -dsimp only[↓gp,gq,simprocAttr,gT,f,J,K,p,r,L,v0,N,O,P,v4,w];exact ah (i+1) ⟨(fB f w (ak (show i<7 by omega) om)),om⟩;have j:i=k+1:=om;subst j;have e:=m k om;have Q:lh (V.take k)<=7:=by simp;omega
 exact⟨om,ah ((k+1,v+1)) ⟨(rS o f e (ak (show k<7 by omega) om)),by dsimp only;omega⟩⟩;have R:k=D:=om;rw[R,<- l,av]
theorem HS(h:∀s,f s=l0):gc f=[]:=by have e:=funext h;subst e;rfl
theorem HT:AC prog 98 [.ag [al n,aE a]] (.fr 3 1 (iL (if aS n a=k0 then hV a else []))):=by by_cases h:aS n a=k0;exact ae h▸xM n a h;rw[ac h];have b:=gt n a;rw[HS _ λs=>by unfold ci;grind]at b;refine cA [.tmp 2] func98 λf=>?_;refine aR<|aa b ?_;refine aR ?_;have d:D0.i64.wrap (-1)=-1:=dc;refine az (λ(k:Nat)s=>(s.sl 3=.own 9 1/\s.rw 9=⟨1,.sli 3 1 _ []⟩/\s.sl 5=al _/\s.sl 6=al k)/\(k=0)) (λk=>0-k) 0 ⟨(jX d),rfl⟩ ?_;intro k g ⟨e,c⟩;subst c;refine cZ e ?_;rfl
theorem OL:∀e b,b<64->ci n a b=k0->e&&&b=e->ci n a e=true:=λe b _ c d=>by unfold ci at *;rw[aj]at c ⊢;exact⟨c.1,pZ c.2<|by grind⟩
theorem HQ:AC prog 198 [.ag [al n,aE a]] (.fr 3 1 (iL (ed (ci n a) 3))):=by
 refine cA [.tmp 2] func198 λG=>?_;refine aR (aa (gt n a) ?_);refine aR ?_;have y:=eD (ci n a);have e:=eb (ci n a);have m:∀d b,b<64->ci n a b=k0->d&&&b=d->ci n a d=true:=OL n a;generalize z:ci n a=f at *;refine az (λ((k,v,w):Nat×Nat×Nat) s=>(s.sl 1=.ref 1 1 0/\s.rw 1=⟨1,.box 31 [al n,aE a]⟩/\s.sl 3=.own 8 v/\s.rw 8=⟨v,.sli 3 1 l0 (iL ((ed f 3).take k))⟩/\s.sl 4=.own 10 w/\s.rw 10=⟨w,.sli 3 1 l0 (iL (gc f))⟩/\s.sl 5=al (kM f 3 k)/\s.sl 6=al k)/\(k<=cv f)) (λ(k,v,w)=>cv f-k) ((0,1,1)) ⟨(by and_intros<;>(first|(simp -dsimp only[gr,simprocAttr,kM];first|done|rfl|(simp;done))|assumption|rfl)),sp⟩ ?_;intro(k,v,w) H ⟨j,B⟩;refine ff j e ?_;refine⟨λh=>?_,λh=>?_⟩;have C:=qS f 3 k;have D:=qS f 3 (k+1);have E:=fc f k (ab 64);have u:=lN f h;have c:=ak h om;have g:D0.i64.wrap (((cd f k 64).length:Int)-(kM f 3 k:Int))=((cd f k 64).length:Int)-(kM f 3 k:Int):=aF om om;have i:D0.i64.wrap (((cd f k 64).length:Int)-(kM f 3 k:Int)-(kM f 3 (k+1):Int))=((cd f k 64).length:Int)-(kM f 3 k:Int)-(kM f 3 (k+1):Int):=aF om om;have l:(ed f 3).take (k+1)=(ed f 3).take k++[((cd f k 64).length:Int)-kM f 3 k-kM f 3 (k+1)]:=by rw[bj 0 (by rw[df];exact h),pX f 3 h]
 have F:lh ((ed f 3).take k)<=7:=by rw[bg,df];omega
 refine iD j e c ?_;refine⟨λx=>aa (z ▸ qa n a (k+1) om om) ?_,λx=>?_⟩;have q:=zdV (p:=3) x;rw[dS];refine iD j e c ?_;refine aa (zm f k om m) ?_;have o:=Lv (f:=f) (k:=k) om m;rw[show iQ 3 (Bm f k)=kM f 3 (k+1) from q.symm]at o;refine XO j e c u g i @dB o ?_;refine⟨h,h,om,?_⟩;exact ah ((k+1,v+1,w)) ⟨(DM j c g i l),by dsimp only;omega⟩;have r:=Lu (p:=3) (show cv f<=k+1 by omega);rw[r,iU,jI]at i;rw[r,iU,jI]at l;refine nN j e c u g ?_;refine⟨h,h,om,?_⟩;have t:D0.i64.wrap (((cd f k 64).length:Int)-(kM f 3 k:Int)-0)=((cd f k 64).length:Int)-(kM f 3 k:Int):=by rw[jI];exact i
 exact ah ((k+1,v+1,w)) ⟨(Sx j c g t l r @iU),by dsimp only;omega⟩;have:k=(ed f 3).length:=by rw[df];omega
 rw[this,av]
theorem Bd(b:aS n a=k0)(k:Nat)(h:k<6):AC prog 245 [.ag [al n,aE a],al (k+1:Nat)] (.tb 29 3 ((Bm (ci n a) k).map iL)):=by
 refine cA _ func245 λl=>?_;refine aR<|aa (aH n a) ?_;have c1:(((k+1:Nat):Int)<1)=False:=aX om;have c2:(6<((k+1:Nat):Int))=False:=aX om;have c:D0.i64.wrap (((k+1:Nat):Int)-1)=k:=by rw[aF om om];omega
 have e:=fc (ci n a) k<|ab 64;have f:=fc (ci n a) (k+1)<|ab 64;simp only[↓gp,gq,simprocAttr,gT,b,c1,c2,c];refine⟨kr,aa (jc n a k om) ?_⟩;simp[↓gp,gq,simprocAttr,gT,b,c1,c2,c];refine aa (jc n a (k+1) om) ?_;simp only[↓gp,gq,simprocAttr,gT,b,c1,c2,c];refine aa (qT _ _ k e f (λi d=>?_)<|λi d=>?_) ?_;have:=fI.1<|aP 0 d;grind;have:=fI.1<|aP 0 d;omega;refine⟨kr,uR ⟨Aq 23 29 3 _<|λi d=>gl,dC⟩ dc λj g=>?_⟩;have:=List.mem_range.1 g;rw[aG,gX]at this;omega
theorem GL:AC prog 147 [.ag [al n,aE a]] (.fr 3 1 (iL (ed (ci n a) 3))):=by
 refine cA [.tmp 2] func147 λhl=>?_;refine aR (aa (aH n a) ?_);cases K:aS n a with
 | false =>
   have W:∀s,ci n a s=false:=λs=>by unfold ci;rw[K];rfl
   have e:ed (ci n a) 3=[]:=by have C:cv (ci n a)=0:=(eb _).symm.trans (by rw[HS _ W];rfl);unfold ed;rw[C];rfl
   rw[e];refine aR ?_;rfl
 | true =>
   have L:=dM K;rw[mP K];have D:∀o b,b<64->ao a b=k0->o&&&b=o->ao a o=true:=λo b _ X M=>pZ X (by rw[cl];exact M);generalize N:ao a=f at *;have hd:=eD f;have c:=nx f;refine aR (aa (N ▸ cj n a L) ?_);refine aR (aa (uc f) ?_);have V:D0.i64.wrap ((cv f:Int)+1)=((cv f+1:Nat):Int):=by rw[aF om om];rfl
   refine ff c V ?_;refine⟨om,om,?_⟩;refine az (λ((k,v,w):Nat×Nat×Nat) s=>(s.sl 3=.own 13 v/\s.rw 13=⟨v,.sli 29 1 l0 (mF (ms f))⟩/\s.sl 4=.own 17 w/\s.rw 17=⟨w,.sli 3 1 l0 (iL (Ep f 3 k))⟩/\s.sl 5=al k)/\(1<=k/\k<=cv f+1/\(k<=cv f\/cv f=0))) (λ(k,v,w)=>cv f+1-k) ((1,1,1)) ⟨(rS c V (zhz f 3) @mG),by simp;omega⟩ ?_;intro(k,v,w) Z ⟨y,O⟩;obtain⟨E,F,a0⟩:=O;have q:=Ox f 3 k;rcases bf k (cv f)with h|h
   have l:((k:Int)<(cv f:Int))=True:=bO om;have d:D0.i64.wrap ((k:Int)-1)=((k-1:Nat):Int):=by rw[aF om om];omega
   have g:=kO f (k:=k-1) om;have m:=kO f h;have G:=fc f (k-1) (ab 64);have P:=fc f k (ab 64);refine xA y c l q d g m ?_
   repeat refine⟨by first|kernel_rfl|omega,?_⟩
   refine aa (qT (cd f (k-1) 64) (cd f k 64) (k-1) G P (λi Q=>?_) (λi Q=>?_)) ?_;have:=fI.1 (aP 0 Q);exact⟨this.1,this.2.2⟩;have:=fI.1 (aP 0 Q);exact⟨this.1,om⟩;refine xA y c l q d g m ?_;have A:=yp f (k-1) om D;have H:Bm f (k-1)=fy (cd f (k-1) 64) (cd f k 64):=by unfold Bm;rw[show k-1+1=k by omega]
   have r:iQ 3 (fy (cd f (k-1) 64) (cd f k 64))=kM f 3 k:=by have:=zdV (p:=3) (f:=f) (k:=k-1) om;rw[show k-1+1=k by omega]at this;exact this.symm
   have t:=Lv (f:=f) (k:=k-1) om D;rw[H,r]at t;have x:=zhA f 3 h;unfold smV at A;rw[H,r]at A;by_cases C:kM f 3 k=0;rw[ae C]at A;refine aa A ?_;rw[C,iU]at x;refine xA y c l q d g m ?_;exact⟨om,om,kr,ah ((k+1,v,w)) ⟨(MT y (ak h om) d g m x),⟨by dsimp only;omega,by dsimp only;omega,by dsimp only;omega⟩⟩⟩;rw[ac C]at A;refine aa A ?_;simp -dsimp only[↓gp,gq,simprocAttr,gT,y,c,l,q,d,g,m,qe,dB,t];exact⟨om,om,kr,ah ((k+1,v,w)) ⟨(Sx y (ak h om) d g m t x),⟨by dsimp only;omega,by dsimp only;omega,by dsimp only;omega⟩⟩⟩;have l:((k:Int)<(cv f:Int))=False:=aX om;have r:∀j,j<cv f+1->lg (Ep f 3 k) j 0=(kM f 3 j:Int):=λj hj=>by rw[zby f 3 hj];split;rfl;rw[Lu om];rfl
   refine iD y c l ?_;generalize Ep f 3 k=rk at *;refine az (λ((j,v,w,u):Nat×Nat×Nat×Nat) s=>(s.sl 3=.own 13 v/\s.rw 13=⟨v,.sli 29 1 l0 (mF (ms f))⟩/\s.sl 4=.own 17 w/\s.rw 17=⟨w,.sli 3 1 l0 (iL rk)⟩/\s.sl 6=.own 6 u/\s.rw 6=⟨u,.sli 3 1 l0 (iL ((ed f 3).take j))⟩/\s.sl 40=al (cv f:Nat)/\s.sl 41=al j)/\(j<=cv f)) (λ(j,v,w,u)=>cv f-j) ((0,v,w,(Z.rw 6).ver+1)) ⟨(gE y c),om⟩ ?_;intro(j,v,w,u) sb ⟨R,a1⟩;rcases bf j (cv f)with B|B
   have z:((j:Int)<(cv f:Int))=True:=bO om;have d:=ak B om;have g:=kO f B;have G:=fc f j (ab 64);have a2:=qS f 3 j;have a3:=qS f 3 (j+1);have I:D0.i64.wrap (((cd f j 64).length:Int)-(kM f 3 j:Int))=((cd f j 64).length:Int)-(kM f 3 j:Int):=aF om om;have J:D0.i64.wrap (((cd f j 64).length:Int)-(kM f 3 j:Int)-(kM f 3 (j+1):Int))=((cd f j 64).length:Int)-(kM f 3 j:Int)-(kM f 3 (j+1):Int):=aF om om;have E:=r j om;have F:=r (j+1) om;have S:(ed f 3).take (j+1)=(ed f 3).take j++[((cd f j 64).length:Int)-kM f 3 j-kM f 3 (j+1)]:=by rw[bj 0 (by rw[df];exact B),pX f 3 B]
   have a4:lh ((ed f 3).take j)<=7:=by rw[bg,df];omega
   simp -dsimp only[↓gp,gq,simprocAttr,gT,R,z,c,q,d,g,ap,E,F,I,J];exact⟨kr,B,om,om,om,om,om,kr,ah ((j+1,v,w,u+1)) ⟨(DM R d I J S),by dsimp only;omega⟩⟩;have z:((j:Int)<(cv f:Int))=False:=aX om;have:j=(ed f 3).length:=by rw[df];omega
   have U:(ed f 3).take j=ed f 3:=by rw[this,av]
   exact RY R z U
noncomputable def ym(f:V0)(k:Nat):Nat:=if k<6 then iQ 3 (Bm f k)-iQ 2 (Bm f k)else 0
def DR(L:N0)(j:Nat):N0:=(L.take j).filter λx=>decide (1<x)
theorem Ya(h:i<lh L)(a:1<lg L i 0):DR L (i+1)=DR L i++[lg L i 0]:=by unfold DR;rw[bj 0 h];grind
theorem ze4(h:i<lh L)(a:¬1<lg L i 0):DR L (i+1)=DR L i:=by unfold DR;rw[bj 0 h];grind
theorem zkw:DR a (lh a)=a.filter λx=>decide (1<x):=by rw[DR,av]
theorem Yb:lh (DR a k)<=lh a:=aJ (aO _ _)<|by grind
theorem zkx{f:V0}(a:i<6):DR (Th (Bm f i)) (Th (Bm f i)).length=ld (ym f i) 2:=by rw[zkw];unfold Th ym;rw[ae a,aW,yi,yi];simp
theorem Yc{f:V0}(c:i<6)(d:∀a b,b<64->f b=k0->a&&&b=a->f a=k0):lh (Th (Bm f i))<=20:=by rw[Lv c d];exact aJ (JC f i) (UH f om)
theorem JW(d:aS n a=k0)(k:Nat)(B:k<=6):AC prog 199 [.ag [al n,aE a],al k] (.fr 3 1 (iL (ld (ym (ci n a) k) 2))):=by
 refine cA [.tmp 4] func199 λC=>?_;refine aR (aa (bw n a) ?_);refine cZ d ?_;have l:=fe k 0 5;rcases bf k 6 with m|m
 rw[show(decide (0<=(k:Int))&&decide ((k:Int)<=5))=k0 by rw[ay om,ay om];rfl]at l;refine aa l ?_;have p:D0.i64.wrap ((k:Int)+1)=((k+1:Nat):Int):=ak (n:=7) om om;refine ff d p ?_;refine aa (qa n a (k+1) om om) ?_;have e:=OL n a;rw[dS];generalize ci n a=f at *;have q:=zm f k m e;have g:=zkx (f:=f) m;have t:=Yc m e;refine ff d p (aa q ?_);generalize Th (Bm f k)=L at *;refine ff d p ?_;have w:DR L 0=[]:=rfl;refine az (λ((j,v,u):Nat×Nat×Nat) s=>(s.sl 5=.own 8 v/\s.rw 8=⟨v,.sli 3 1 l0 (iL (DR L j))⟩/\s.sl 6=.own 22 u/\s.rw 22=⟨u,.sli 3 1 l0 (iL L)⟩/\s.sl 7=al j)/\(j<=lh L)) (λ(j,v,u)=>lh L-j) ((0,1,1)) ⟨(jX w),om⟩ ?_;intro(j,v,u) D ⟨i,y⟩;have z:=Yb L j;rcases bf j (lh L) with h|h
 have b:((j:Int)<(lh L:Int))=True:=bO om;by_cases o:1<lg L j 0;have c:=bO o;have r:=Ya h o;refine ox i @dB b c ?_;exact⟨h,h,om,ah ((j+1,v+1,u)) ⟨(fB i (ak h om) r),by dsimp only;omega⟩⟩;have c:=aX o;have r:=ze4 h o;refine ox i @dB b c ?_;exact⟨h,ah ((j+1,v,u)) ⟨(fB i (ak h om) r),by dsimp only;omega⟩⟩;have b:((j:Int)<(lh L:Int))=False:=aX om;obtain rfl:j=lh L:=om;exact Rc i @dB b g;obtain rfl:k=6:=om;rw[show(decide (0<=((6:Nat):Int))&&decide (((6:Nat):Int)<=5))=l0 by decide]at l;refine aa l ?_;have A:ym (ci n a) 6=0:=ac om;rw[A];refine cZ d ?_;rfl
theorem JX(i:aS n a=k0)(k:Nat)(G:k<=6):AC prog 148 [.ag [al n,aE a],al k] (.fr 3 1 (iL (ld (ym (ci n a) k) 2))):=by
 refine cA [.tmp 4] func148 λH=>?_;refine aR (aa (aH n a) ?_);have o:((k:Int)<0)=False:=aX om;rcases bf k 6 with l|l
 have m:(5<(k:Int))=False:=aX om;have r:D0.i64.wrap ((k:Int)+1)=((k+1:Nat):Int):=ak (n:=7) om om;refine ox i o m r (aa (Bd n a i k l) ?_);have d:=OL n a;generalize ci n a=f at *;have p:=yp f k l d;have c:=zkx (f:=f) l;have z:=Yc l d;have q:=Lv l d;unfold smV at p;refine ox i o m r ?_;by_cases u:iQ 3 (Bm f k)=0;rw[ae u]at p;rw[u]at q;have A:ld (ym f k) (2:Int)=[]:=by rw[<- c,q];rfl
 rw[A];refine aa p ?_;refine ox i o m r ?_;have w:iL []=[]:=rfl;refine az (λ(j:Nat)s=>(s.sl 5=.own 5 1/\s.rw 5=⟨1,.sli 3 1 l0 (iL [])⟩/\s.sl 24=al 0/\s.sl 25=al 0)/\(True)) (λj=>0) (0) ⟨(jX w),trivial⟩ ?_;intro j B ⟨e,x⟩;exact mg e;rw[ac u]at p;refine aa p ?_;generalize Th (Bm f k)=L at *;have C:DR L 0=[]:=rfl;refine Cn i o m r @qe @dB ?_;refine az (λ((j,v):Nat×Nat) s=>(s.sl 5=.own 5 v/\s.rw 5=⟨v,.sli 3 1 l0 (iL (DR L j))⟩/\s.sl 23=.sl k0 1 (iL L)/\s.sl 24=al (lh L)/\s.sl 25=al j)/\(j<=lh L)) (λ(j,v)=>lh L-j) ((0,1)) ⟨(gE C @qe),om⟩ ?_;intro(j,v) B ⟨e,x⟩;have E:=Yb L j;rcases bf j (lh L) with h|h
 have b:((j:Int)<(lh L:Int))=True:=bO om;by_cases t:1<lg L j 0;have g:=bO t;have y:=Ya h t;refine ox e @dB b g ?_;exact⟨h,om,ah ((j+1,v+1)) ⟨(fB e (ak h om) y),by dsimp only;omega⟩⟩;have g:=aX t;have y:=ze4 h t;refine ox e @dB b g ?_;exact⟨h,ah ((j+1,v)) ⟨(fB e (ak h om) y),by dsimp only;omega⟩⟩;have b:((j:Int)<(lh L:Int))=False:=aX om;obtain rfl:j=lh L:=om;exact Rc e @dB b c;obtain rfl:k=6:=om;have m:(5<((6:Nat):Int))=True:=bO om;have F:ym (ci n a) 6=0:=ac om;rw[F];refine iD i o m ?_;rfl
theorem zrz{u:Nat}(h:u≠0):Go.Lib.decDigits u=(if u/10=0 then []else Go.Lib.decDigits (u/10))++[UInt8.ofNat (48+u%10)]:=by rw[Go.Lib.decDigits];grind
theorem zeG:∀(k u:Nat),u<10^(k+1)->lh (Go.Lib.decDigits u)<=k+1:=by
 intro k;induction k with
 | zero=>simp_all[Go.Lib.decDigits,om]
 | succ k b =>
   intro u h;rw[Go.Lib.decDigits];grind
def dA(n:Int):P0:=⟨(Go.Lib.itoa n).toArray⟩
theorem eY{n:Int}(a:-9223372036854775808<=n)(b:n<=9223372036854775807):(dA n).size<=20:=by
 have e:(dA n).size=(Go.Lib.itoa n).length:=rfl
 rw[e,Go.Lib.itoa];split;have:=zeG 18 n.natAbs om;grind;have:=zeG 18 n.toNat om;omega
def Ek(d:Nat):P0:=⟨#[UInt8.ofNat (48+d)]⟩
theorem zoB{d:Nat}(h:d<10){x:Int}(a:x=(d:Int)):([D0.u8.wrap (D0.i64.wrap (48+x))].foldl (λr n=>r.push (UInt8.ofNat n.toNat)) ByteArray.empty)=Ek d:=by
 subst a;have:∀m:Fin 10,([D0.u8.wrap (D0.i64.wrap (48+(m.val:Nat)))].foldl (λr n=>r.push (UInt8.ofNat n.toNat)) ByteArray.empty)=Ek m.val:=by decide +kernel
 exact this ⟨d,h⟩
theorem cB{n:Int}(S:-9223372036854775808<=n)(U:n<=9223372036854775807):AC prog 35 [al n] (.im (fa (dA n))):=by
 refine cA [.tmp 2] func35 λV=>?_;by_cases t:n=0;subst t;simp -dsimp only[↓gp,gq,simprocAttr,gT,show((0:Int)==0)=k0 from rfl];decide +kernel;have G:(n==0)=false:=beq_eq_false_iff_ne.2 t;simp -dsimp only[↓gp,gq,simprocAttr,gT,G];refine az (λ((m,o):Int×P0) s=>s.sl 0=al m/\s.sl 3=aU (decide (n<0))/\s.sl 4=fa o/\((if m=0 then []else Go.Lib.decDigits m.natAbs)++o.data.toList=Go.Lib.decDigits n.natAbs/\(n<0->m<=0)/\(0<=n->0<=m)/\m.natAbs<=9223372036854775808/\o.size<=19)) (λ(m,o)=>m.natAbs) ((n,⟨#[]⟩)) (by refine⟨?_,?_,?_,⟨by rw[ac t];simp,λh=>Int.le_of_lt h,λh=>h,om,dc⟩⟩<;>(first|(simp -dsimp only[gr,simprocAttr];first|done|rfl|(simp;done))|assumption|rfl)) ?_;intro(m,o) W ⟨i,e,j,w⟩;obtain⟨k,I,J,K,L⟩:=w;by_cases y:m=0;subst y;rw[ae rfl,eg]at k;simp -dsimp only[↓gp,gq,simprocAttr,gT,i,e,j,show((0:Int) != 0)=l0 from rfl];have z:o=⟨(Go.Lib.decDigits n.natAbs).toArray⟩:=by rw[<- k]
 subst z;unfold dA Go.Lib.itoa;refine⟨λh=>⟨?_,?_⟩,λh=>?_⟩;show 1+_<=_;omega;rw[ae h];refine iR ?_;simp;rw[ac h,show n.toNat=n.natAbs by omega];have A:(m != 0)=true:=by rw[gS];exact y
 have B:=zrz (u:=m.natAbs) om;rw[ac y,B]at k;have D:m.tmod 10=if m<0 then -((m.natAbs%10:Nat):Int)else((m.natAbs%10:Nat):Int):=by split;rename_i h;obtain⟨a,rfl⟩:∃a:Nat,m=-(a:Int):=⟨m.natAbs,om⟩;rw[Int.neg_tmod,Int.natAbs_neg,ow];rfl;rename_i h;obtain⟨a,rfl⟩:∃a:Nat,m=(a:Int):=⟨m.natAbs,om⟩;rw[ow];rfl
 have r:m.tdiv 10=if m<0 then -((m.natAbs/10:Nat):Int)else((m.natAbs/10:Nat):Int):=by split;rename_i h;obtain⟨a,rfl⟩:∃a:Nat,m=-(a:Int):=⟨m.natAbs,om⟩;rw[Int.neg_tdiv,Int.natAbs_neg,ow];rfl;rename_i h;obtain⟨a,rfl⟩:∃a:Nat,m=(a:Int):=⟨m.natAbs,om⟩;rw[ow];rfl
 have c:D0.i64.wrap (m.tdiv 10)=m.tdiv 10:=by rw[r];exact aF (by split<;>omega) (by split<;>omega)
 simp (maxSteps:=9^7) -dsimp only[↓gp,gq,reduceCtorEq,lj,lm,lp,ll,lu,lr,lw,lz,lA,lB,lC,lk,gT,i,e,j,zi,Uz,zd1,A,c];have l:=xq m.natAbs (show 0<10 by decide);generalize M:m.natAbs%10=d at *;have p:=cV lh k;have N:=zeG 18 n.natAbs om;have z:lh o.data.toList=o.size:=dU;rw[aA,aA,cG,z]at p;have O:(Ek d++o).size=1+o.size:=by rw[aI];rfl
 have P:(Ek d).size=1:=rfl;have f:(if m.tdiv 10=0 then []else Go.Lib.decDigits (m.tdiv 10).natAbs)++(Ek d++o).data.toList=Go.Lib.decDigits n.natAbs:=by
  rw[<- k];have E:(m.tdiv 10).natAbs=m.natAbs/10:=by rw[r];split<;>omega
  have F:(m.tdiv 10=0)↔(m.natAbs/10=0):=by rw[<- E];omega
  have Q:(Ek d++o).data.toList=[UInt8.ofNat (48+d)]++o.data.toList:=by simp[Ek]
  rw[E,Q,<- cP];by_cases h:m.natAbs/10=0;rw[ae h,ae (F.2 h)];rw[ac h,ac (λR=>h (F.1 R))]
 have g:(m.tdiv 10).natAbs<m.natAbs:=by rw[r];split<;>omega
 have b:(n<0->m.tdiv 10<=0)/\(0<=n->0<=m.tdiv 10)/\(m.tdiv 10).natAbs<=9223372036854775808:=by rw[r];refine⟨λh=>?_,λh=>?_,?_⟩<;>split<;>omega
 refine⟨dc,λC=>?_,λC=>?_⟩;have q:=zoB (d:=d) l (x:=D0.i64.wrap (0-m.tmod 10)) (by rw[D,aF (by split<;>omega) (by split<;>omega)];split<;>omega);rw[q];refine⟨om,dc,ah (m.tdiv 10,Ek d++o) ⟨by simp -dsimp only[gr,simprocAttr,c],by simp -dsimp only[gr,simprocAttr,e],by simp -dsimp only[gr,simprocAttr,q],f,b.1,b.2.1,b.2.2,by show(Ek d++o).size<=19;omega⟩ g⟩;have q:=zoB (d:=d) l (x:=m.tmod 10) (by rw[D]at C ⊢;split at C<;>split<;>omega);rw[q];refine⟨om,dc,ah (m.tdiv 10,Ek d++o) ⟨by simp -dsimp only[gr,simprocAttr,c],by simp -dsimp only[gr,simprocAttr,e],by simp -dsimp only[gr,simprocAttr,q],f,b.1,b.2.1,b.2.2,by show(Ek d++o).size<=19;omega⟩ g⟩
end Go.Proofs.YtigjebcjfbhnjaaGreatDoor
namespace Go.Proofs.YtigjebcjfbhnjaaGreatDoor
open Bool renaming true→k0,false→l0
open Go renaming IntKind→D0
open List renaming range→lc,replicate→ld,getD→lg,length→lh
open Nat renaming reduceEqDiff→lj,reduceMod→lk,reduceAdd→ll,reduceLT→lm,reduceLeDiff→lp,reduceSub→lr,reduceMul→lu,reduceBEq→lw
open Int renaming reduceToNat→lz,reduceLE→lA,reduceLT→lB,reduceNeg→lC
open Go.Proofs.Tryz
open Go.Abs Go.Shelf
def zuh:Go.Shelf.Ren where
 f:=λx=>match x with|171=>140|243=>235|246=>283|283=>315|284=>316|285=>317|286=>318|129=>352|317=>353|318=>354|319=>355|320=>356|337=>372|338=>373|n=>n
 t:=λx=>match x with|3=>3|9=>9|2=>2|4=>4|171=>173|0=>0|53=>90|37=>52|5=>5|173=>175|212=>201|51=>172|20=>20|213=>202|46=>81|232=>218|233=>219|n=>n
 g:=λx=>match x with|17=>0|18=>2|19=>3|n=>n
theorem zry:LaysM.n171 prog zuh where
 mixed:=mixed
 f129:=oH func352
 f171:=oH func140
 f243:=oH func235
 f246:=oH func283
 f283:=oH func315
 f284:=oH func316
 f285:=oH func317
 f286:=oH func318
 f317:=oH func353
 f318:=oH func354
 f319:=oH func355
 f320:=oH func356
 f337:=oH func372
 f338:=oH func373
 t0:=underlying0
 a0:=isAgg0
 z0:=sizeOf0
 v0:=zeroValue0
 t2:=underlying2
 a2:=isAgg2
 z2:=sizeOf2
 v2:=zeroValue2
 t3:=underlying3
 a3:=isAgg3
 z3:=sizeOf3
 v3:=zeroValue3
 t4:=underlying4
 a4:=isAgg4
 z4:=sizeOf4
 v4:=zeroValue4
 t5:=underlying5
 a5:=isAgg5
 z5:=sizeOf5
 v5:=zeroValue5
 t9:=underlying9
 a9:=isAgg9
 z9:=sizeOf9
 v9:=zeroValue9
 t20:=underlying20
 a20:=isAgg20
 z20:=sizeOf20
 v20:=zeroValue20
 t37:=underlying52
 a37:=isAgg52
 z37:=sizeOf52
 v37:=zeroValue52
 t46:=underlying81
 a46:=isAgg81
 z46:=sizeOf81
 v46:=zeroValue81
 t51:=underlying172
 a51:=isAgg172
 z51:=sizeOf172
 v51:=zeroValue172
 t53:=underlying90
 a53:=isAgg90
 z53:=sizeOf90
 v53:=zeroValue90
 t171:=underlying173
 a171:=isAgg173
 z171:=sizeOf173
 v171:=zeroValue173
 t173:=underlying175
 a173:=isAgg175
 z173:=sizeOf175
 v173:=zeroValue175
 t212:=underlying201
 a212:=isAgg201
 z212:=sizeOf201
 v212:=zeroValue201
 t213:=underlying202
 a213:=isAgg202
 z213:=sizeOf202
 t232:=underlying218
 a232:=isAgg218
 z232:=sizeOf218
 v232:=zeroValue218
 t233:=underlying219
 a233:=isAgg219
 z233:=sizeOf219
 v233:=zeroValue219
 g17:=kr
 g18:=kr
 g19:=kr
 i0:=kr
 i2:=kr
 i3:=kr
 i4:=kr
 i5:=kr
 i9:=kr
 i20:=kr
 i37:=kr
 i46:=kr
 i51:=kr
 i53:=kr
 i171:=kr
 i173:=kr
 i212:=kr
 i232:=kr
 i233:=kr
 m17:=kr
 m18:=kr
 m19:=kr
theorem Pn{n:Int}(a:-9223372036854775808<=n)(b:n<=9223372036854775807):AC prog 140 [al n] (.im (fa (dA n))) :=
 zp1 zry ⟨_,func140,kr,kr⟩ (λ_ h=>h) a b
theorem db{n:Int}(a:-9223372036854775808<=n)(b:n<=9223372036854775807):AC prog 50 [al n] (.im (fa (dA n))):=by refine cA [.tmp 2] func50 λc=>?_;refine aR<|aa (Pn a b) ?_;exact ef
end Go.Proofs.YtigjebcjfbhnjaaGreatDoor
namespace Go.Proofs.YtigjebcjfbhnjaaGreatDoor
open Bool renaming true→k0,false→l0
open Go renaming IntKind→D0
open List renaming range→lc,replicate→ld,getD→lg,length→lh
open Nat renaming reduceEqDiff→lj,reduceMod→lk,reduceAdd→ll,reduceLT→lm,reduceLeDiff→lp,reduceSub→lr,reduceMul→lu,reduceBEq→lw
open Int renaming reduceToNat→lz,reduceLE→lA,reduceLT→lB,reduceNeg→lC
open Go.Proofs.Tryz
open Go.Abs
def Ss(n:Int):Prop:=-9223372036854775808<=n/\n<=9223372036854775807
def pH(l:N0):P0:=if (lh l)=0 then⟨#[45]⟩else qJ (l.map dA) ⟨#[44]⟩
theorem oD{m:Nat}{l:Q0}{sep:P0}(h:∀i,i<lh l->(lg l i ⟨#[]⟩).size<=m)(b:sep.size<=1):∀i,i<=lh l->(iy l sep i).size<=(m+1)*i:=by
 intro i;induction i with
 | zero=>exact λ_=>ab _
 | succ i a =>unfold iy;grind
theorem Pm{l:N0}(b:∀x∈l,Ss x):∀i,i<=lh (l.map dA)->(iy (l.map dA) ⟨#[44]⟩ i).size<=21*i :=
 oD (λi a=>by
  have a:i<lh l:=ss a;have e:lg (l.map dA) i ⟨#[]⟩=dA l[i]:=by simp[lg,a]
  rw[e];have:=b l[i] (bx a);exact eY this.1 this.2) (ab 1)
theorem iz(l:N0)(o:lh l<=1048576)(a:∀x∈l,Ss x):AC prog 96 [aE l] (.im (fa (pH l))):=by
 refine cA [.tmp 2] func96 λp=>?_;refine aR ?_;refine az (λ((k,v):Nat×Nat) s=>(s.sl 0=aE l/\s.sl 3=.own 5 v/\s.rw 5=⟨v,.sli 9 1 l0 (sL ((l.take k).map dA))⟩/\s.sl 4=al k)/\(k<=lh l)) (λ(k,v)=>lh l-k) ((0,1)) ⟨nm,om⟩ ?_;intro(k,v) q ⟨b,n⟩;have d:lh (sL ((l.take k).map dA))=k:=by simp[sL];omega
 refine ff b d ?_;refine⟨λh=>?_,λh=>?_⟩;have g:=a _ (aP 0 h);refine⟨h,h,aa (cB g.1 g.2) ?_⟩;refine cZ b ?_;have e:(l.take (k+1)).map dA=(l.take k).map dA++[dA (lg l k 0)]:=by rw[bj 0 h];simp
 refine⟨by rw[aG,bg];omega,ah ((k+1,v+1)) ⟨(fB b (ak h (show (lh l)<=9223372036854775807 by omega)) e),by dsimp only;omega⟩⟩;obtain rfl:k=lh l:=om;rw[av];unfold pH;refine⟨λc=>?_,λc=>?_⟩;rw[ae (by have:=beq_iff_eq.1 c;omega)];rw[ac (by intro e;rw[e]at c;simp at c)];have f:=Pm a;refine aa (qI (l.map dA) ⟨#[44]⟩ (by rw[aG];omega) (λi j=>?_)) ?_;have:=f i j;rw[aG]at j;have r:(⟨#[44]⟩:P0).size=1:=rfl;omega;have e:=jD (l.map dA) ⟨#[44]⟩ (l.map dA).length (ab _);rw[av]at e;rw[e];exact mg b
theorem iA(l:N0)(m:lh l<=1048576)(a:∀x∈l,Ss x):AC prog 53 [aE l] (.im (fa (pH l))):=by
 refine cA [.tmp 2] func53 λn=>?_;refine aR ?_;unfold pH;refine⟨λb=>?_,λb=>⟨om,om,?_⟩⟩;rw[ae (by have:=beq_iff_eq.1 b;omega)];rw[ac (by intro e;rw[e]at b;simp at b)];have g:sL ((l.take 0).map dA)=[]:=rfl;refine az (λ((k,v):Nat×Nat) s=>(s.sl 3=.own 11 v/\s.rw 11=⟨v,.sli 9 1 l0 (sL ((l.take k).map dA))⟩/\s.sl 12=aE l/\s.sl 13=al (lh l)/\s.sl 14=al k)/\(k<=lh l)) (λ(k,v)=>lh l-k) ((0,1)) ⟨(by and_intros<;>(first|(simp -dsimp only[gr,simprocAttr,g,ld];first|done|rfl|(simp;done))|assumption|rfl)),om⟩ ?_;intro(k,v) o ⟨c,j⟩;refine cZ c ?_;refine⟨λh=>?_,λh=>?_⟩;have f:=a _ (aP 0 h);refine⟨h,h,aa (db f.1 f.2) ?_⟩;refine cZ c ?_;have e:(l.take (k+1)).map dA=(l.take k).map dA++[dA (lg l k 0)]:=by rw[bj 0 h];simp
 refine⟨by rw[aG,bg];omega,ah ((k+1,v+1)) ⟨(fB c (ak h (show (lh l)<=9223372036854775807 by omega)) e),by dsimp only;omega⟩⟩;obtain rfl:k=lh l:=om;rw[av];have d:=Pm a (l.map dA).length (ab _);rw[jD _ _ _ (ab _),av,aG]at d;refine aa (kA (l.map dA) ⟨#[44]⟩ (by rw[aG];omega) om) ?_;exact mg c
end Go.Proofs.YtigjebcjfbhnjaaGreatDoor
