/- DERIVED by an AI agent. -/
import Derived.Test.YtijabbemjaioeaaGreatDoorQ8
set_option linter.all false
namespace Go.Proofs.YtijabbemjaioeaaGreatDoor
open Bool renaming true→k0,false→l0
open Go renaming IntKind→D0
open List renaming range→lc,getD→lg,length→lh
open Go.Proofs.Tryz
open Go.Abs
variable (b:Bool)(n:Int)(f:V0)(a:N0)(t:P0)(m:Nat)(p:Int)(c:N0)(d:Q0)(w:P0){C:N0}{l:List UInt8}{k:Nat}{x:Int}{e:P0}{L:O0}
def PR(L:O0)(C:N0)(k:Nat):O0:=((lc k).filter λi=>lg C i 0==1).map λi=>lg L i 0
theorem zoC(h:(lg C k 0==1)=k0):PR L C (k+1)=PR L C k++[lg L k 0]:=by unfold PR;rw[bW,aW];grind
theorem zsS{L:O0}(h:(lg C k 0==1)=l0):PR L C (k+1)=PR L C k:=by unfold PR;rw[bW,aW];grind
theorem zui(L:O0)(C:N0)(k:Nat):lh (PR L C k)<=k:=by unfold PR;grind
theorem zuj(c:k<=lh L):∀s∈PR L C k,s∈L:=λs a=>by obtain⟨i,b,rfl⟩:=List.mem_map.1 a;grind
noncomputable def egF(n:Int)(a:N0)(t:Nat):Bool:=ao (bl (PR (DN n a) (Va n a) (DN n a).length)) t
noncomputable def egB(n:Int)(a:N0):Bool:=zy n a&&decide (0<=gD n a)
theorem zh4(h:egB x C=k0):aS x C=k0/\C.length<=1048576/\¬gD x C<0/\(DN x C).length<=64/\(∀s∈DN x C,s<64)/\(Va x C).length=(DN x C).length:=by
 unfold egB zy at h;simp[aq]at h;have b:¬gD x C<0:=om;have c:=h.1.1;have f:=fH c;have e:DN x C=cd (ci x C) (gD x C).toNat 64:=by simp[DN,b]
 exact⟨c,om,b,e▸fc _ _<|ab 64,λs d=>by rw[e]at d;exact(fI.1 d).1,by rw[Va,aG]⟩
theorem Dy:AC prog 102 [.ag [al n,aE a]] (xO (egB n a) n (egF n a)):=by
 refine cA [.cell 2 26,.tmp 3] func102 λy=>?_;refine aR<|aa (nD n a) ?_;cases j:zy n a with
 | false =>rw[show egB n a=l0 by simp[egB,j],eH];exact ef
 | true =>
   refine aR<|aa (mQ n a) ?_;cases e:egB n a with
   | false =>
     have f:gD n a<0:=by simp_all[egB]
     rw[eH];exact mg<|bO f
   | true =>
     have⟨z,l,f,m,o,p⟩:=zh4 e;rw[kX];unfold egF;have q:=xN n a l;generalize DN n a=L at *;generalize Va n a=C at *;have b:=ap L;refine cZ (aX f)<|aa q ?_;refine ff @Vb b ?_;refine az (λk s=>(s.sl 1=.ref 1 1 0/\s.rw 1=⟨1,.box 26 _⟩/\s.sl 2=.ref 2 1 0/\s.rw 2=⟨1,.box 26 _⟩/\s.sl 3=.v _/\s.sl 5=.own 1020 1/\s.rw 1020=⟨1,.sli 3 1 _<|iL C⟩/\s.sl 6=dv (bA (ao<|bl<|PR L C k) 64)/\s.sl 23=.own 20 1/\s.rw 20=⟨1,.sli 3 1 _<|iL<|bl L⟩/\s.sl 24=al _/\s.sl 25=al k)/\(k<=lh L)) (λk=>lh L-k) (0) ⟨(gE vB b),aB _⟩ ?_;intro k A ⟨c,u⟩;refine ff c b ?_;refine⟨λh=>⟨h,h,om,om,λg=>?_,λg=>?_⟩,λh=>?_⟩;have i:=o _<|aP 0 h;rw[bX h];refine aa (gC _ i) ?_;have w:=dj (ao<|bl<|PR L C k) 64;have x:=dj (eG<|lg L k 0) 64;have d:EX .u64 (bA (ao<|bl<|PR L C k) 64) (bA (eG<|lg L k 0) 64)=((bA (ao<|bl<|PR L C<|k+1) 64):Int):=by rw[Ca om om,FB];congr 1;refine gu λt _=>?_;rw[zoC g,cI,<- jZ,Vc,ar]
     refine ff c d ?_;exact ah _ ⟨(rS c b (ak h om) d),om⟩;exact ah (k+1) ⟨(rS c b (ak h om)<|zsS (L:=L) g),om⟩;have:k=lh L:=om;subst this;refine aa (dP _ _)<|mg c
theorem Dz:AC prog 158 [.ag [al n,aE a]] (xO (egB n a) n (egF n a)):=by
 refine cA [.cell 2 26,.tmp 3] func158 λE=>?_;refine aR<|aa (nC n a) ?_;cases l:zy n a with
 | false =>rw[show egB n a=l0 by simp[egB,l],eH];exact ef
 | true =>
   refine aR<|aa (gZ n a) ?_;cases i:egB n a with
   | false =>
     have d:gD n a<0:=by simp_all[egB]
     rw[eH];exact mg<|bO d
   | true =>
     obtain⟨F,m,d,o,p,q⟩:=zh4 i;unfold egF;have r:=vU n a d;have u:=sP n a m;generalize DN n a=L at *;generalize Va n a=C at *;have b:=ap L;have c:Uu (bl<|PR L C<|lh L):=λz w=>by obtain⟨s,x,rfl⟩:=AY w;have:=p s<|zuj (ab _) s x;omega
     rw[uj n (zJ c λt G=>eT)];refine cZ (aX d)<|aa r ?_;refine cZ b<|aa u ?_;refine cZ b ?_;refine az (λ(k,v)s=>(s.sl 1=.ref 1 1 0/\s.rw 1=⟨1,.box 26 [al n,aE a]⟩/\s.sl 2=.ref 2 1 0/\s.rw 2=⟨1,.box 26 [al 0,.v (.slice none 0 0)]⟩/\s.sl 3=.v (.bool l0)/\s.sl 4=.own 18 1/\s.rw 18=⟨1,.sli 3 1 l0<|iL<|bl L⟩/\s.sl 5=.own 20 1/\s.rw 20=⟨1,.sli 3 1 l0<|iL C⟩/\s.sl 6=.own 21 v/\s.rw 21=⟨v,.sli 3 1 l0<|iL<|bl<|PR L C k⟩/\s.sl 7=al k)/\(k<=lh L)) (λ(k,v)=>lh L-k) ((0,1)) ⟨(jX b),aB _⟩ ?_;intro(k,v) H ⟨f,A⟩;have B:=zui L C k;refine ff f b ?_;refine⟨λh=>⟨om,om,λj=>⟨h,h,by rw[ap];omega,?_⟩,λj=>?_⟩,λh=>?_⟩;have D:bl (PR L C<|k+1)=bl (PR L C k)++[lg (bl L) k 0]:=by rw[zoC j,cI,bX h];rfl
     exact ah ((k+1,v+1)) ⟨(rS f b (ak h om) D),om⟩;exact ah ((k+1,v)) ⟨(rS f b (ak h om)<|zsS (L:=L) j),om⟩;have:k=lh L:=om;subst this;refine aa (eV n _ c)<|mg f
def dl(t:P0):List UInt8:=t.data.toList
theorem zpb:dl (t.extract 1 t.size)=(dl t).drop 1:=by unfold dl;rw[xx,Aa,na,bK<|sp]
theorem Gj{l:List UInt8}{i:Nat}(h:i<lh l):JI (l.take (i+1))=(JI (l.take i)&&(decide (48<=(lg l i 0).toNat)&&decide ((lg l i 0).toNat<=57))):=by simp[JI,bj 0 h]
theorem Gk{i:Nat}(h:JI (l.take i)=l0):JI l=false:=by unfold JI at *;grind
theorem Gm{l:List UInt8}{i:Nat}(h:i<lh l):oI (l.take (i+1))=10*oI (l.take i)+((lg l i 0).toNat-48):=by rw[bj 0 h,PH]
theorem PE{l:List UInt8}{i:Nat}(h:JI (l.take i)=k0)(b:i<=12):oI (l.take i)<1000000000000:=by
 have c:=zpc _ h;have a:lh (l.take i)<=12:=by grind
 have d:10^(l.take i).length<=10^12:=aV dc a;omega
theorem Gn(h:48<=k/\k<=57):D0.i64.wrap (D0.u8.wrap ((k:Int)-48))=((k-48:Nat):Int):=by
 have:D0.u8.wrap (k-48)=(k-48:Nat):=by simp[D0.wrap,D0.bits];omega
 rw[this,aF om om]
theorem sT(K:m<=12):AC prog 148 [fa t,al m] (.tup [.im (al (if GB (dl t) m=k0 then(oI (dl t):Int)else 0)),.im (aU (GB (dl t) m))]):=by
 refine cA [.tmp 4,.tmp 5] func148 λL=>?_;have j:lh (dl t)=t.size:=rfl;have e:∀i,(lg t.data.toList i 0).toNat=(lg (dl t) i 0).toNat:=λi=>rfl;generalize E:dl t=l at *;have C:oI (l.take 0)=0:=rfl;have k:t.size=0\/1<=t.size:=om;by_cases F:t.size=0;have b:GB l m=false:=by simp[GB,j,F]
 have k:((t.size:Int)==0)=true:=beq_iff_eq.2 om;rw[b];exact mg k;have k:((t.size:Int)==0)=false:=beq_eq_false_iff_ne.2 om;by_cases p:m<t.size;have b:GB l m=false:=by simp[GB];omega
 rw[b];exact DL k (bO p);have b:GB l m=(JI l&&(decide (t.size=1)||!decide ((lg l 0 0).toNat=48))):=by simp_all[GB]
 by_cases D:t.size=1;have q:(1<(t.size:Int))=False:=aX om;refine iD k (aX p) q ?_;refine az (λi s=>(s.sl 0=fa t/\s.sl 6=al (oI (l.take i))/\s.sl 7=al i)/\(i<=t.size/\JI (l.take i)=k0)) (λi=>t.size-i) 0 ⟨(jX C),⟨aB _,rfl⟩⟩ ?_;intro i G ⟨o,a⟩;have⟨H,g⟩:=a;have r:=PE g (om);refine ff o e ?_;refine⟨λh=>?_,λh=>?_⟩;have c:=Gj (l:=l) (i:=i) om;refine⟨h,λu=>⟨h,λw=>?_,λw=>⟨h,?_⟩⟩,λu=>?_⟩;grind;have d:48<=(lg l i 0).toNat/\(lg l i 0).toNat<=57:=om;have x:=Gm (l:=l) (i:=i) om;have y:D0.i64.wrap _=((oI (l.take i):Nat))*10:=aF om om;have z:=Gn d;have A:D0.i64.wrap (((oI (l.take i)):Int)*10+(((lg l i 0).toNat-48:Nat)))=((oI (l.take (i+1))):Int):=by rw[aF om om];omega
 exact ah _ ⟨(xc6 o e (ak h om) y z A),⟨om,by grind⟩⟩;grind;grind;have q:(1<(t.size:Int))=True:=bO om;by_cases B:(lg l 0 0).toNat=48;have n:GB l m=false:=by grind
 rw[n];refine nN k (aX p) q e B ?_;omega;have J:(((lg l 0 0).toNat:Int)==48)=false:=beq_eq_false_iff_ne.2 om;refine nN k (aX p) q e J ?_;refine⟨om,?_⟩;refine az (λi s=>(s.sl 0=fa t/\s.sl 6=al (oI (l.take i))/\s.sl 7=al i)/\(i<=t.size/\JI (l.take i)=k0)) (λi=>t.size-i) 0 ⟨(jX C),⟨aB _,rfl⟩⟩ ?_;intro i G ⟨o,a⟩;have⟨H,g⟩:=a;have r:=PE g (om);refine ff o e ?_;refine⟨λh=>?_,λh=>?_⟩;have c:=Gj (l:=l) (i:=i) om;have f:¬(48<=(lg l i 0).toNat/\(lg l i 0).toNat<=57)->JI l=false:=λI=>by refine Gk (i:=i+1) ?_;grind
 refine⟨h,λu=>⟨h,λw=>?_,λw=>⟨h,?_⟩⟩,λu=>?_⟩;grind;have d:48<=(lg l i 0).toNat/\(lg l i 0).toNat<=57:=om;have x:=Gm (l:=l) (i:=i) om;have y:D0.i64.wrap _=((oI (l.take i):Nat))*10:=aF om om;have A:D0.i64.wrap (((oI (l.take i):Nat))*10+(((lg l i 0).toNat-48:Nat)))=((oI (l.take (i+1)):Nat)):=by rw[aF om om];omega
 exact ah _ ⟨(xc6 o e (ak h om) y (Gn d) A),⟨om,by grind⟩⟩;grind;grind
theorem XE(h:(lg l 0 0).toNat=45):ZH l=l.drop 1:=ae h
theorem XF(h:¬(lg l 0 0).toNat=45):ZH l=l:=ac h
theorem xS(s:t.size<=2000000):AC prog 69 [fa t] (.tup [.im (al (if pg (dl t)=k0 then we (dl t)else 0)),.im (aU (pg (dl t)))]):=by
 refine cA [.tmp 2,.tmp 3] func69 λu=>?_;have m:lh (dl t)=t.size:=rfl;have c:∀i,(lg t.data.toList i 0).toNat=(lg (dl t) i 0).toNat:=λi=>rfl;have o:=zpb t;have d:=sT t 12 dc;have e:=sT (t.extract 1 t.size) 12 dc;rw[o]at e;generalize dl t=l at *;by_cases a:(lg l 0 0).toNat=45;have p:¬t.size=0:=λh=>by simp_all
 have f:((0:Int)<t.size)=True:=bO om;have g:(((lg l 0 0).toNat:Int)==45)=true:=beq_iff_eq.2 om;have j:pg l=(GB (l.drop 1) 12&&!decide (oI (l.drop 1)=0)):=by rw[pg,XE a];grind
 have hV:we l=-(oI (l.drop 1)):=by rw[we,XE a,ae a]
 rw[j,hV];refine iD f c g ?_;refine⟨om,om,aa e ?_⟩;cases b:GB _ 12 with
 | false =>exact ef
 | true =>
   have k:=PE (l:=l.drop 1) (by rw[av];simp_all[GB]) (by simp_all[GB]);rw[av]at k;by_cases n:oI (l.drop 1)=0;rw[n];refine aR ?_;simp;have q:(((oI (l.drop 1)):Int)==0)=false:=beq_eq_false_iff_ne.2 om;have r:D0.i64.wrap (0-((oI (l.drop 1):Nat)))=-((oI (l.drop 1):Nat)):=by rw[Gu];exact aF om om
   rw[aD n];exact DL q r
 have j:pg l=GB l 12:=by rw[pg,XF a,aD (λh=>a h.1),pw,nM]
 have hV:we l=(oI l):=by rw[we,XF a,ac a]
 rw[j,hV];by_cases p:t.size=0;have f:(0<(t.size:Int))=False:=aX om;refine cZ f (aa d ?_);cases b:GB l 12 with
 | false=>exact ef
 | true=>exact ef
 have f:(0<(t.size:Int))=True:=bO om;have g:(((lg l 0 0).toNat:Int)==45)=false:=beq_eq_false_iff_ne.2 om;refine iD f c g ?_;refine⟨om,aa d ?_⟩;cases b:GB l 12 with
 | false=>exact ef
 | true=>exact ef
theorem PF(Z:t.size<=2000000):AC prog 182 [fa t,al 12] (.tup [.im (al (if pg (dl t)=k0 then we (dl t)else 0)),.im (aU (pg (dl t)))]):=by
 refine cA [.tmp 4,.tmp 5] func182 λhl=>?_;have I:lh (dl t)=t.size:=rfl;have d:∀i,(lg t.data.toList i 0).toNat=(lg (dl t) i 0).toNat:=λi=>rfl;have S:=zpb t;have C:t=⟨(dl t).toArray⟩:=rfl;generalize U:dl t=l at *;by_cases m:(lg l 0 0).toNat=45;have J:=ay m;have V:¬t.size=0:=λh=>by simp_all
 have o:(0<(t.size:Int))=True:=bO om;have A:(((lg l 0 0).toNat:Int)==45)=true:=beq_iff_eq.2 om;have a:=XE m;generalize hr:l.drop 1=r at *;generalize K:t.extract 1 _=u at *;have D:∀i,(lg u.data.toList i 0).toNat=(lg r i 0).toNat:=λi=>by rw[<- S];rfl
 have E:lh r=u.size:=by rw[<- S];rfl
 have L:oI (r.take 0)=0:=rfl;by_cases W:1<=u.size/\u.size<=12;have B:((u.size:Int)<1)=False:=aX om;have F:(12<(u.size:Int))=False:=aX om;have p:JI r=l0->pg l=false:=λh=>by simp[pg,GB,a,h]
 refine Cn o d A K B F ?_;refine⟨om,om,?_⟩;refine az (λi s=>(s.sl 0=fa t/\s.sl 6=.v (.bool (decide ((lg l 0 0).toNat=45)))/\s.sl 7=fa u/\s.sl 8=al (oI (r.take i))/\s.sl 9=al i)/\(i<=u.size/\JI (r.take i)=k0)) (λi=>u.size-i) 0 ⟨(gE L J),⟨aB _,rfl⟩⟩ ?_;intro i X ⟨g,q⟩;have⟨Y,k⟩:=q;have w:=PE k (by omega);refine ff g D ?_;refine⟨λh=>?_,λh=>?_⟩;have e:=Gj (l:=r) (i:=i) om;rw[k,au]at e;have j:=λm=>p (Gk (i:=i+1) (by rw[e,er,bJ,bJ];omega));refine⟨h,λy=>⟨h,λM=>?_,λM=>⟨h,?_⟩⟩,λy=>?_⟩;grind;have f:48<=(lg r i 0).toNat/\(lg r i 0).toNat<=57:=om;have N:=Gm (l:=r) (i:=i) om;have O:D0.i64.wrap _=10*((oI (r.take i)):Int):=aF om om;have P:=Gn f;have Q:D0.i64.wrap (10*((oI (r.take i):Nat))+(((lg r i 0).toNat-48:Nat)))=((oI (r.take (i+1)):Nat)):=by rw[aF om om];omega
 exact ah _ ⟨(xc6 g D (ak h om) O P Q),⟨om,by grind⟩⟩;grind;have:i=u.size:=om;rw[this,<- E,av]at k w;have hit:=PI (by rw[a];omega) (by grind) (by grind);rw[this,<- E,av]at g ⊢;have b:-1000000000000<we l/\we l<1000000000000/\we l=(if(lg l 0 0).toNat=45 then -(oI r:Int)else oI r):=by unfold we;grind
 have c:((dA (we l)).toList==t.toList)=pg l:=by rw[qd,aZ,aq,<- hit,C];exact⟨λh=>List.toArray_inj (cV ByteArray.data h),λh=>cV (λx:List _=>(⟨x.toArray⟩:P0)) h⟩
 refine⟨λz=>?_,λz=>?_⟩;rw[ae z]at b;have G:D0.i64.wrap (0-((oI r:Nat)))=we l:=by rw[b.2.2,Gu];exact aF om om
 refine aa (cB om om) ?_;refine iD g c G ?_;grind
 grind
 have H:pg l=false:=by unfold pg GB;grind
 rw[H];by_cases y:u.size<1;refine nN o d A K (bO y) ?_;omega;refine Cn o d A K (aX y) (bO om) ?_;omega;have J:=aD m;have A:(((lg l 0 0).toNat:Int)==45)=false:=beq_eq_false_iff_ne.2 om;have a:=XF m;have L:oI (l.take 0)=0:=rfl;have p:JI l=l0->pg l=false:=λh=>by simp[pg,GB,a,h]
 by_cases V:t.size=0;have o:(0<(t.size:Int))=False:=aX om;have B:((t.size:Int)<1)=True:=bO om;have H:pg l=false:=by simp_all[pg,GB]
 rw[H];exact DL o B;have o:(0<(t.size:Int))=True:=bO om;have B:((t.size:Int)<1)=False:=aX om;by_cases W:t.size<=12;have F:(12<(t.size:Int))=False:=aX om;refine nN o d A B F ?_;refine⟨om,?_⟩;refine az (λi s=>(s.sl 0=fa t/\s.sl 6=.v (.bool (decide ((lg l 0 0).toNat=45)))/\s.sl 7=fa t/\s.sl 8=al (oI (l.take i))/\s.sl 9=al i)/\(i<=t.size/\JI (l.take i)=k0)) (λi=>t.size-i) 0 ⟨(gE L J),⟨aB _,rfl⟩⟩ ?_;intro i X ⟨g,q⟩;have⟨Y,k⟩:=q;have w:=PE k (by omega);refine ff g d ?_;refine⟨λh=>?_,λh=>?_⟩;have e:=Gj (l:=l) (i:=i) om;rw[k,au]at e;have j:=λm=>p (Gk (i:=i+1) (by rw[e,er,bJ,bJ];omega));refine⟨h,λy=>⟨h,λM=>?_,λM=>⟨h,?_⟩⟩,λy=>?_⟩;grind;have f:48<=(lg l i 0).toNat/\(lg l i 0).toNat<=57:=om;have N:=Gm (l:=l) (i:=i) om;have O:D0.i64.wrap _=10*((oI (l.take i):Nat)):=aF om om;have P:=Gn f;have Q:D0.i64.wrap (10*((oI (l.take i):Nat))+(((lg l i 0).toNat-48:Nat)))=((oI (l.take (i+1))):Int):=by rw[aF om om];omega
 exact ah _ ⟨(xc6 g d (ak h om) O P Q),⟨om,by grind⟩⟩;grind;have:i=t.size:=om;rw[this,<- I,av]at k w;have hit:=PI (by rw[a];omega) (by grind) (by grind);rw[this,<- I,av]at g ⊢;have b:-1000000000000<we l/\we l<1000000000000/\we l=(if(lg l 0 0).toNat=45 then -(oI l:Int)else oI l):=by unfold we;grind
 have c:((dA (we l)).toList==t.toList)=pg l:=by rw[qd,aZ,aq,<- hit,C];exact⟨λh=>List.toArray_inj (cV ByteArray.data h),λh=>cV (λx:List _=>(⟨x.toArray⟩:P0)) h⟩
 refine⟨λz=>?_,λz=>?_⟩;omega
 rw[ac z]at b;rw[<- b.2.2];refine aa (cB om om) ?_;refine ff g c ?_;grind
 have F:=bO om;have H:pg l=false:=by unfold pg GB;grind
 rw[H];refine nN o d A B F ?_;omega
theorem qh(a:t.size<=2000000):AC prog 81 [fa t] (.tup [.im (al (if pg (dl t)=k0 then we (dl t)else 0)),.im (aU (pg (dl t)))]):=by refine cA [.tmp 2,.tmp 3] func81 λb=>?_;refine aR<|aa (PF t a) ?_;exact ef
open Classical in
noncomputable def Tp(t:P0):Bool:=(XH t&&(Iu (GC t)).all uq)&&aS ((fK t 0-48:Nat):Int) (ph (Iu (GC t)))
def mkP(b:Bool)(n:Int)(a:N0):RV:=.tup [.ag [.im (al (if b=k0 then n else 0)),.fr 3 1 (iL (if b=k0 then a else []))],.im (aU b)]
noncomputable def pxR(t:P0):RV:=mkP (Tp t) ((fK t 0-48:Nat):Int) (ph (Iu (GC t)))
theorem qX(h:Tp e=l0):pxR e=.tup [.ag [.im (al 0),.fr 3 1 []],.im (aU l0)]:=by rw[pxR,h];rfl
theorem XC{t:P0}(h:Tp t=k0):pxR t=.tup [.ag [.im (al (fK t 0-48:Nat)),.fr 3 1 (iL (ph (Iu (GC t))))],.im (aU k0)]:=by simp[pxR,mkP,h]
theorem XD:(t.toList==(⟨#[]⟩:P0).toList)=decide (t.size=0):=by rw[qd,aZ,aq,aq];exact⟨λh=>by rw[h];rfl,λh=>iR<|qm h⟩
theorem Gi(g:t.size<=2000000):AC prog 200 [fa t] (.tup [.im (al (if XH t=k0 then fK t 0-48 else 0:Nat)),.im (fa (if XH t=k0 then GC t else⟨#[]⟩)),.im (aU (XH t))]):=by
 refine cA [.tmp 2,.tmp 3,.tmp 4] func200 λi=>?_;have e:(2<=t.size/\49<=fK t 0/\fK t 0<=54/\fK t 1=58)->XH t=true:=λh=>ay h;have b:(lg t.data.toList 0 0).toNat=fK t 0:=rfl;have c:(lg t.data.toList 1 0).toNat=fK t 1:=rfl;cases a:XH t with
 | false =>refine ff b c ?_;grind
 | true =>have k:=cH a;refine ff b c ?_;exact⟨λ_=>⟨om,λ_=>⟨om,λ_=>⟨om,λd=>bne_iff_ne.1 d om,λ_=>⟨kr,om,om,(Gn ⟨om,om⟩).symm,rfl⟩⟩,λd=>om⟩,λd=>om⟩,λd=>om⟩
theorem tN:lh (dO t m)<=t.size+1:=by unfold dO;have:=(Li t m t.size).2;grind
theorem zR(K:t.size<=2000000):AC prog 108 [fa t] (pxR t):=by
 refine cA [.cell 2 26,.tmp 3] func108 λP=>?_;refine aR (aa (Gi t K) ?_);have j:(XH t&&(Iu (GC t)).all uq)=l0->Tp t=false:=λh=>by unfold Tp;rw[h];rfl
 cases A:XH t with
 | false =>rw[qX (j (by rw[A];rfl))];exact mg @oh
 | true =>
   rw[A,au]at j;have c:Tp t=((Iu (GC t)).all uq&&aS ((fK t 0-48:Nat):Int) (ph (Iu (GC t)))):=by unfold Tp;rw[A,au]
   have l:=XD (GC t);by_cases x:(GC t).size=0;rw[ay x]at l;have m:Iu (GC t)=[]:=by unfold Iu;rw[ae x]
   refine ff @oh l (aa (aH ((fK t 0-48:Nat):Int) []) ?_);rw[m]at c;cases d:aS ((fK t 0-48:Nat):Int) []with
   | false =>rw[qX (by rw[c];exact d)];exact DL @oh l
   | true =>rw[XC (by rw[c];exact d),m];have B:iL (ph [])=[]:=rfl;exact xd3 @oh l B
   rw[aD x]at l;have m:Iu (GC t)=dO (GC t) 44:=by unfold Iu;rw[ac x]
   have C:(GC t).size<=2000000:=by have:=cV lh (zcs t);rw[wr]at this;exact aJ (rI this) (aJ (mE _ _) K)
   have D:=tN (GC t) 44;refine ff @oh l (aa (qc (GC t) 44 C) ?_);rw[<- m]at D ⊢;have g:0<(Iu (GC t)).length:=by rw[m];unfold dO;simp
   generalize L:Iu (GC t)=a at *;generalize M:fK t 0-48=n at *;refine cZ @cN ?_;refine az (λ((k,u,o,z,v,y):Nat×Nat×PV×RK×Nat×Nat) s=>(s.sl 2=.ref 2 1 0/\s.rw 2=⟨1,.box 26 [al 0,.v (.slice none 0 0)]⟩/\s.sl 7=.ref 7 y 0/\s.rw 7=⟨y,.box 26 [al n,o]⟩/\s.rw 44=⟨u,z⟩/\s.sl 26=.own 26 v/\s.rw 26=⟨v,.sli 9 1 l0 (sL a)⟩/\s.sl 27=al (lh a)/\s.sl 28=al k)/\((k<=lh a/\(a.take k).all uq=k0)/\((k=0/\o=.v (.slice none 0 0))\/(0<k/\o=.own 44 u/\z=.sli 3 1 l0 (iL (ph (a.take k))))))) (λ(k,u,o,z,v,y)=>lh a-k) ((0,0,.v (.slice none 0 0),.dead,1,1)) ⟨(jX @cN),sp⟩ ?_;intro(k,u,o,z,v,y) Q ⟨f,E⟩;have⟨⟨R,p⟩,F⟩:=E;have e:lh (ph (a.take k))=k:=by rw[zcr,bg];omega
   have i:k<lh a->uq (lg a k ⟨#[]⟩)=l0->Tp t=false:=λG H=>j (List.all_eq_false.2 ⟨_,aP ⟨#[]⟩ G,by rw[H];decide⟩);have q:k<lh a->uq (lg a k ⟨#[]⟩)=k0->(a.take (k+1)).all uq=true:=λG H=>by rw[bj ⟨#[]⟩ G,fW,p,um,H];rfl
   rcases F with⟨rfl,rfl⟩|⟨O,rfl,rfl⟩;refine ff f @cN ?_;have b:0<lh a:=g;refine⟨λ_=>⟨om,b,aa (gP _) ?_⟩,λI=>absurd g om⟩;cases r:uq (lg a 0 ⟨#[]⟩)with
   | false =>rw[qX (i b r)];exact DL f @cN
   | true =>refine ff f @cN ?_;exact ah ((1,u+1,.own 44 (u+1),.sli 3 1 l0 (iL (ph (a.take 1))),v,y)) ⟨(gE f (Bb b)),⟨⟨om,q b r⟩,Or.inr ⟨om,rfl,rfl⟩⟩⟩
   refine ox f @cN @dB e ?_;refine⟨λb=>⟨b,b,aa (gP _) ?_⟩,λI=>?_⟩;cases r:uq (lg a k ⟨#[]⟩)with
   | false =>rw[qX (i om r)];exact xd3 f @cN e
   | true =>refine iD f @cN e ?_;refine⟨om,?_⟩;exact ah ((k+1,u+1,.own 44 (u+1),.sli 3 1 l0 (iL (ph (a.take (k+1)))),v,y)) ⟨(fB f (Bb b) (ak b om)),⟨⟨om,q b r⟩,Or.inr ⟨om,rfl,rfl⟩⟩⟩
   obtain rfl:k=lh a:=om;rw[av]at *;rw[p,au]at c;refine aa (aH n (ph a)) ?_;cases d:aS n (ph a)with
   | false =>rw[qX (by rw[c];exact d)];exact DL f e
   | true =>have w:=XC (t:=t) (by rw[c];exact d);rw[M,L]at w;rw[w];exact DL f e
theorem zS(ht:t.size<=2000000):AC prog 164 [fa t] (pxR t):=by
 refine cA [.cell 2 26,.tmp 3] func164 λhl=>?_;refine aR ?_;refine aa (iT t 58 ht) ?_;by_cases J:(dO t 58).length=2;rotate_left;have G:(((dO t 58).length:Int) != 2)=true:=bne_iff_ne.2 om;rw[qX (by unfold Tp;rw[zrZ J];rfl)];exact DL @cN G
 match hg:dO t 58,J with
 | [p,q],_ =>
 have a0:=zpf hg;obtain⟨Q,hH,R⟩:=zuB hg;have G:(((2:Nat):Int) != 2)=false:=rfl;have H:XH t=l0\/(Iu q).all uq=l0->Tp t=false:=λh=>by
  unfold Tp;grind
 have a1:=tN q 44;have S:XH t=l0->∀xs,(pg p.data.toList&&aS (if pg p.data.toList=k0 then we p.data.toList else 0) xs)=false:=λh xs=>by rw[er];refine Classical.or_iff_not_imp_left.2 λK=>?_;have K:=Bool.not_eq_false _ ▸ K;rw[ae K];refine pc λhc=>?_;obtain⟨c,C,r⟩:=zuz K hc.1 hc.2.1;grind
 have U:XH t=k0->pg p.data.toList=k0/\(if pg p.data.toList=k0 then we p.data.toList else 0)=((fK t 0-48:Nat):Int):=λh=>by obtain⟨c,C,r⟩:=hH.1 h;rw[R c C,C,(zpd r).1,ae rfl];exact⟨rfl,(zpd r).2⟩
 refine ff @cN G ?_;refine aa (qh p om) ?_;unfold dl;have hz:∀x:Bool×Int,(x.1=pg p.data.toList/\x.2=if pg p.data.toList=k0 then we p.data.toList else 0)->Tp t=((Iu q).all uq&&(x.1&&aS x.2 (ph (Iu q))))/\(Tp t=k0->pxR t=.tup [.ag [.im (al x.2),.fr 3 1 (iL (ph (Iu q)))],.im (aU k0)]):=λx hx=>by
  rw[hx.1,hx.2];cases w:XH t with
  | false =>grind
  | true =>have r:=U w;rw[r.2,r.1,au];refine⟨by unfold Tp;rw[w,au,Q w],λh=>by rw[XC h,Q w]⟩
 obtain⟨d,g⟩:=hz (pg p.data.toList,if pg p.data.toList=k0 then we p.data.toList else 0) ⟨rfl,rfl⟩;dsimp only at d g;generalize K:pg p.data.toList=b at *;generalize hn:(if b=k0 then we p.data.toList else 0)=n at *;refine cZ @cN ?_;refine aa (iT q 44 om) ?_;generalize A:dO q 44=a at *;have D:=XD q;refine cZ @cN ?_;refine az (λ(za:Nat×Nat×PV×RK×Nat×Nat×Nat)s=>match za with|(k,u,L,P,v,y,z)=>(s.sl 2=.ref 2 1 0/\s.rw 2=⟨1,.box 26 _⟩/\s.sl 7=.ref 7 y 0/\s.rw 7=⟨y,.box 26 [al n,L]⟩/\s.rw 58=⟨u,P⟩/\s.sl 4=.own 13 z/\s.rw 13=⟨z,.sli 9 1 l0 (sL [p,q])⟩/\s.sl 6=.v (.bool b)/\s.sl 8=.own 30 v/\s.rw 30=⟨v,.sli 9 1 l0 (sL a)⟩/\s.sl 9=al k)/\((k<=a.length/\(a.take k).all uq=k0)/\((k=0/\L=.v (.slice none 0 0))\/(0<k/\q.size≠0/\L=.own 58 u/\P=.sli 3 1 l0 (iL (ph (a.take k))))))) (λ(k,u,L,P,v,y,z)=>a.length-k) ((0,0,.v (.slice none 0 0),.dead,1,1,1)) ⟨(by and_intros<;>(rfl)),sp⟩ ?_;intro(k,u,L,P,v,y,z) sa ⟨i,V⟩;obtain⟨⟨hk,M⟩,N⟩:=V;have j:(ph (a.take k)).length=k:=by rw[zcr,bg];omega
 have l:[p,q].getD 1 ⟨#[]⟩=q:=rfl;have O:k<a.length->uq _=k0->(a.take (k+1)).all uq=true:=λC J=>by rw[bj ⟨#[]⟩ C,fW,M,um,J];rfl
 by_cases I:q.size=0;rw[ay I]at D;have W:Iu q=[]:=by unfold Iu;rw[ae I]
 rw[W]at d g;obtain⟨rfl,rfl⟩:=N.resolve_right λh=>h.2.1 I;have f:((0:Int)<(a.length:Int))=True:=bO (by rw[<- A];unfold dO;simp);cases b with
 | false =>rw[qX d];exact xd5 i @cN l D f
 | true =>
   refine nN i @cN l D f ?_;refine aa (bw n []) ?_;cases m:aS n []with
   | false =>rw[qX (by rw[d];exact m)];exact mg i
   | true =>rw[g (by rw[d];exact m)];have X:iL (ph [])=[]:=rfl;exact DL i X
 rw[aD I]at D;have W:Iu q=a:=by unfold Iu;rw[ac I,A]
 rw[W]at d g H;have e:0<a.length:=by rw[<- A];unfold dO;simp
 have E:k<a.length->uq _=l0->Tp t=false:=λC J=>H (Or.inr (List.all_eq_false.2 ⟨_,aP ⟨#[]⟩ C,by rw[J];decide⟩));have F:k<a.length->(a.getD k ⟨#[]⟩).size<=2000000:=λh=>aJ (zU (b:=44) (by rw[A];exact aP ⟨#[]⟩ h)) (by omega);rcases N with⟨rfl,rfl⟩|⟨a2,_,rfl,rfl⟩
 refine ox i @cN l D ?_;refine⟨λ_=>⟨om,e,aa (gQ _ (F e)) ?_⟩,λY=>absurd e om⟩;cases o:uq (a.getD 0 ⟨#[]⟩)with
 | false =>rw[qX (E e o)];exact DL i @cN
 | true =>refine ff i @cN ?_;exact ah ((1,u+1,.own 58 (u+1),.sli 3 1 l0 (iL (ph (a.take 1))),v,y,z)) ⟨(gE i (Bb e)),⟨⟨om,O e o⟩,Or.inr ⟨om,I,rfl,rfl⟩⟩⟩
 rcases bf k a.length with f|Y;have B:((k:Int)<(a.length:Int))=True:=bO om;refine xA i @cN @dB j l D B ?_;refine⟨f,aa (gQ _ (F f)) ?_⟩;cases o:uq (a.getD k ⟨#[]⟩)with
 | false =>rw[qX (E f o)];exact xd3 i @cN j
 | true =>refine iD i @cN j ?_;refine⟨om,?_⟩;exact ah ((k+1,u+1,.own 58 (u+1),.sli 3 1 l0 (iL (ph (a.take (k+1)))),v,y,z)) ⟨(fB i (Bb f) (ak f om)),⟨⟨om,O f o⟩,Or.inr ⟨om,I,rfl,rfl⟩⟩⟩
 obtain rfl:k=a.length:=om;have B:((a.length:Int)<(a.length:Int))=False:=aX om;rw[av]at *;rw[M,au]at d;cases b with
 | false =>rw[qX d];exact xd7 i @cN @dB j l D B
 | true =>
   refine xA i @cN @dB j l D B ?_;refine aa (bw n (ph a)) ?_;cases m:aS n (ph a)with
   | false =>rw[qX (by rw[d];exact m)];exact DL i j
   | true =>rw[g (by rw[d];exact m)];exact DL i j
theorem zph(h:lh C=0):ed (ao C) n=[]:=by have e:=List.length_eq_zero_iff.1 h;subst e;rfl
theorem qj(h:aS n a=k0)(c:lM p=k0):AC prog 70 [.ag [al n,aE a],al p] (.fr 3 1 (iL (ed (ao a) p))):=by
 by_cases b:0<lh a;exact KJ n a p h b c;have d:((lh a:Int)==0)=true:=by grind
 rw[zph p om];refine cA [.tmp 4] func70 λe=>?_;refine aR<|aa (aH n a) ?_;refine ff h d ?_;rfl
theorem wg(h:aS n a=k0)(b:lM p=k0):AC prog 38 [.ag [al n,aE a],al p] (.fr 3 1 (iL (ed (ao a) p))):=by have:=nS n a p;rwa [mP h,show Bl _ p=ed _ p from ae b]at this
noncomputable def orB(n:Int)(a:N0):Bool:=rF n a&&(lg (ed (ao a) 3) (lh (ed (ao a) 3)-1) 0==1)
theorem zin{n:Int}{xs:N0}(h:rF n xs=k0):0<(ed (ao xs) 3).length/\(ed (ao xs) 3).length<=7:=by
 unfold rF at h;rw[aj,aj,aj,aq]at h;have⟨a,_,d,_⟩:=h;have:=Dn (aC λc=>by rw[show gD n xs=-2 from ac c]at a;grind);rw[df];omega
theorem BB(h:aS (m:Int) c=k0):AC prog 218 [.ag [al m,aE c]] (.im (aU (orB m c))):=by
 refine cA [.tmp 2] func218 λf=>?_;refine aR<|aa (vY m c h) ?_;refine aR ?_;unfold orB;refine⟨λd=>by grind,λd=>aa (qj m c 3 h rfl) ?_⟩;have d:=ss d;have⟨a,b⟩:=zin d;rw[d];generalize ed _ 3=H at *;have e:D0.i64.wrap ((lh H)-1)=((lh H-1:Nat)):=by rw[aF om om];omega
 refine cZ e ?_;omega
theorem BC(h:aS (m:Int) c=k0):AC prog 304 [.ag [al m,aE c]] (.im (aU (orB m c))):=by
 refine cA [.tmp 2] func304 λg=>?_;refine aR<|aa (wg m c 3 h rfl) ?_;have e:=zin (n:=m) (xs:=c);unfold orB;generalize ed _ 3=H at *;refine aR<|aa (vZ m c h) ?_;refine aR ?_;refine⟨λd=>?_,λd=>by grind⟩;have⟨a,b⟩:=e d;have f:D0.i64.wrap ((lh H)-1)=((lh H-1:Nat)):=by rw[aF om om];omega
 refine cZ f ?_;grind
noncomputable def LD(a:N0):Int:=nB (gc (ao a)) (cv (ao a))
theorem Vl:-448<=LD a/\LD a<=448:=by rw[LD,zec];have:=WH (co<|ao a) _<|ab _;have:=Go.Abs.ordN_len<|ao a;omega
noncomputable def XL(n:Int)(a:N0):P0:=if rF n a=k0 then(if LD a=1 then⟨#[115,112,104,101,114,101]⟩else(if orB n a=k0 then⟨#[111,114,105,101,110,116,97,98,108,101,32]⟩else⟨#[111,116,104,101,114,32]⟩)++dA (1-LD a))else⟨#[110,111]⟩
theorem DI(h:aS (m:Int) c=k0):AC prog 127 [.ag [al m,aE c]] (.im (fa (XL m c))):=by refine cA [.tmp 2] func127 λi=>?_;refine aR<|aa (vY m c h) ?_;refine aR ?_;unfold XL;have a:=sE m c h;change AC _ _ _ (.im<|al<|LD c)at a;have j:=Vl c;have b:D0.i64.wrap _=1-LD c:=aF om om;have g:=eY (n:=1-LD c) om om;refine⟨λd=>by grind,λd=>aa a ?_⟩;rw[ae<|by grind];refine cZ b ?_;refine⟨λe=>by grind,λe=>aa (BB m c h) ?_⟩;rw[ac<|beq_eq_false_iff_ne.1 e];refine cZ b ?_;refine⟨λf=>aa a ?_,λf=>aa a ?_⟩;rw[ae f];refine cZ b ?_;refine aa (db om om)<|cZ b ?_;show 11+(dA<|1-LD c).size<=_;omega;rw[ac<|by grind];refine cZ b ?_;refine aa (db om om)<|cZ b ?_;show 6+(dA<|1-LD c).size<=_;omega
theorem DJ(h:aS (m:Int) c=k0):AC prog 253 [.ag [al m,aE c]] (.im (fa (XL m c))):=by
 refine cA [.tmp 2] func253 λj=>?_;refine aR<|aa (vZ m c h) ?_;refine aR ?_;unfold XL;have a:=zn m c h;change AC _ _ _ (.im<|al<|LD c)at a;have k:=Vl c;have b:D0.i64.wrap _=1-LD c:=aF om om;have i:=eY (n:=1-LD c) om om;refine⟨λd=>by grind,λd=>aa a ?_⟩;rw[ae<|by grind];refine cZ b ?_;refine⟨λf=>by grind,λf=>aa (BC m c h) ?_⟩;rw[ac<|beq_eq_false_iff_ne.1 f];refine cZ b ?_;refine⟨λg=>?_,λg=>?_⟩;rw[ae g];refine⟨dc,aa a ?_⟩;refine cZ b ?_;refine aa (cB om om) ?_;have e:(ByteArray.mk #[111,114,105,101,110,116,97,98,108,101])++(ByteArray.mk #[32])=ByteArray.mk #[111,114,105,101,110,116,97,98,108,101,32]:=dc
 refine ff b e ?_;show 11+(dA<|1-LD c).size<=_;omega;rw[ac<|by grind];refine⟨dc,aa a ?_⟩;refine cZ b ?_;refine aa (cB om om) ?_;have e:(ByteArray.mk #[111,116,104,101,114])++(ByteArray.mk #[32])=ByteArray.mk #[111,116,104,101,114,32]:=dc
 refine ff b e ?_;show 6+(dA<|1-LD c).size<=_;omega
theorem zim(h:¬aS x C=k0):ci x C=λ_=>false:=by unfold ci;grind
noncomputable def QY(n:Int)(a:N0):Int:=nB (gc (ci n a)) (cv (ci n a))
theorem KM:AC prog 57 [.ag [al n,aE a]] (.im (al (QY n a))):=by unfold QY;by_cases h:aS n a=k0;exact mP h▸sE n a h;rw[zim<|om];refine cA [.tmp 2] func57 λb=>?_;refine aR<|aa (aH n a) ?_;refine cZ h ?_;rfl
noncomputable def hVX(n:Int)(a:N0):N0:=if aS n a=k0 then hV a else []
theorem Iv:AC prog 55 [.ag [al n,aE a]] (.fr 3 1 (iL (hVX n a))):=by unfold hVX;by_cases h:aS n a=k0;exact ae h▸xL n a h;have e:fcR n a=gc (ao []):=ac h;rw[ac h];refine cA [.tmp 2] func55 λb=>?_;refine aR<|aa (gw n a) ?_;rw[e];refine aR<|aa (vJ []) ?_;refine aR ?_;rfl
theorem Iw:AC prog 70 [.ag [al n,aE a],al p] (.fr 3 1 (iL (Bl (ci n a) p))):=by
 unfold Bl;by_cases h:aS n a=k0;rw[mP h];by_cases b:lM p=k0;exact ae b▸qj n a p h b;rw[ac<|om];refine cA [.tmp 4] func70 λc=>?_;refine aR<|aa (aH n a) ?_;refine cZ h ?_;refine⟨λ_=>aa (gB p) ?_,λ_=>rfl⟩;refine cZ b ?_;rfl;rw[zim<|om];refine cA [.tmp 4] func70 λc=>?_;have e:(if lM p=k0 then ed (λ_=>l0) p else [])=[]:=by split<;>kernel_rfl
 rw[e];refine aR<|aa (aH n a) ?_;refine cZ h ?_;rfl
theorem BA(u:-9223372036854775808<=p/\p<9223372036854775808):AC prog 71 [.ag [al n,aE a],al p] (.fr 3 1 (iL (bl ((co (ci n a)).filter λs=>(aQ s:Int)==p)))):=by
 by_cases l:0<=p;obtain⟨m,rfl⟩:=ca l;rw[JB];exact jc n a m om;have e:(co<|ci n a).filter (λs=>(aQ s)==p)=[]:=by simp;omega
 rw[e];refine cA [.tmp 4] func71 λw=>?_;refine aR<|aa (aH n a) ?_;refine aR ?_;refine⟨λ_=>rfl,λd=>?_⟩;refine aa (cj n a<|dM (ss d))<|aR ?_;have o:AC prog 151 [dv (bA (ao a) 64)] (.tb 24 3<|(ms<|ao a).map iL):=by rw[ms,fj];exact sw<|ao a
 refine HI o (λi x=>gl) λS f b c g=>?_;have q:S.sl 1=al p:=by rw[c 1 dc];rfl
 have r:S.sl 4=.own 4 1:=by rw[c 4 dc];rfl
 have t:S.rw 4=⟨1,.sli 3 1 l0 []⟩:=by simp[g,gr]
 have j:(p<0)=True:=bO om;refine nN b q r t j ?_;rfl
theorem KN:AC prog 72 [.ag [al n,aE a],al p] (.im (al (nE n a p))):=by
 have e:nE n a p=if mr n a=k0/\lM p=k0 then WY (ao a) p else -1:=by
  by_cases h:mr n a=k0/\lM p=k0;rw[ae h];obtain⟨m,q,d,_,rfl,rfl,k,l,o,f,g,r⟩:=Ly h.1 h.2;omega;rw[ac h];by_cases c:lM p=k0;cases b:aS n a with
  | false=>exact ac λh=>by grind
  | true =>have i:=AR b λj=>h ⟨j,c⟩;subst i;rw[nE,ae ⟨b,c⟩];rfl
  exact ac λh=>c h.2
 exact e▸zA n a p
def JL(i j:Nat)(x:Int):P0:=dA i++⟨#[58]⟩++dA j++⟨#[61]⟩++dA x
def pC(i:Nat)(r:N0):Nat->Q0|0=>[]|k+1=>if r.getD k 0=0 then pC i r k else pC i r k++[JL i k (lg r k 0)]
def qk(M:fG):Nat->Q0|0=>[]|i+1=>qk M i++pC i (lg M i []) (lh M)
theorem PK:∀k,lh (pC m c k)<=k:=by
 intro k;induction k with
 | zero=>exact ab _
 | succ k a =>rw[pC];grind
theorem zcv{M:fG}(a:lh M<=7):∀i,lh (qk M i)<=7*i:=by
 intro i;induction i with
 | zero=>exact ab _
 | succ i b=>rw[qk,aA];have:=PK i (lg M i [])<|lh M;omega
theorem zeR{j:Nat}(a:k<=100)(b:j<=100)(c:-100000<=x/\x<=100000):(JL k j x).size<=62:=by have d:=eY (n:=k) om om;have e:=eY (n:=j) om om;have f:=eY (n:=x) om om;simp[JL];show _+1+_+1+_<=62;omega
theorem zpi(d:k<=100)(e:∀r,-100000<=lg C r 0/\C.getD r 0<=100000):∀r,r<=100->∀b∈pC k C r,b.size<=62:=by
 intro r;induction r with
 | zero=>intro _ b a;cases a
 | succ r c =>intro f b a;rw[pC]at a;split at a;grind;rcases List.mem_append.1 a with a|a;grind;exact List.mem_singleton.1 a▸zeR d om<|e r
theorem zcw{M:fG}(h:SqB M):∀i,i<=7->∀b∈qk M i,b.size<=62:=by
 intro i;induction i with
 | zero=>intro _ b a;cases a
 | succ i c =>
   intro d b a;rcases List.mem_append.1 (a)with a|a
   grind;exact zpi om (λk=>h.small i k) _ (by have:=h.len;omega) b a
theorem zio{i j:Nat}(a:i<=100)(b:j<=100)(c:-100000<=x/\x<=100000):(dA i).size<=20/\(dA j).size<=20/\(dA x).size<=20 :=
 ⟨eY om om,eY om om,eY om om⟩
noncomputable def Ci(n:Int)(a:N0)(p:Int):P0:=qJ (qk (CT n a p) (CT n a p).length) ⟨#[32]⟩
theorem Ix:AC prog 259 [.ag [al n,aE a],al p] (.im (fa (Ci n a p))):=by
 refine cA [.tmp 4] func259 λH=>?_;refine aR<|aa (CQ n a p) ?_;have f:=zhy n a p;unfold Ci;generalize CT n a p=M at *;have g:=f.len;refine aR ?_;have y:sL (qk M 0)=[]:=rfl;refine az (λ(i,v)s=>(s.sl 5=.own 9 v/\s.rw 9=⟨v,.sli 9 1 l0<|sL<|qk M i⟩/\s.sl 6=.own 12 1/\s.rw 12=⟨1,.sli 24 1 l0<|mF M⟩/\s.sl 7=al i)/\(i<=lh M)) (λ(i,v)=>lh M-i) ((0,1)) ⟨(jX y),om⟩ ?_;intro(i,v) I ⟨o,A⟩;have B:=zcv g i;refine cZ o ?_;refine⟨λh=>?_,λh=>?_⟩;have q:=f.row i h;have r:sL (qk M i++pC i (lg M i []) 0)=sL (qk M i):=by rw[pC,bh]
 refine az (λ(j,u)s=>(s.sl 5=.own 9 u/\s.rw 9=⟨u,.sli 9 1 l0<|sL<|qk M i++pC i (lg M i []) j⟩/\s.sl 6=.own 12 1/\s.rw 12=⟨1,.sli 24 1 l0<|mF M⟩/\s.sl 7=al i/\s.sl 8=al j)/\(j<=lh M)) (λ(j,u)=>lh M-j) ((0,v)) ⟨(gE o r),om⟩ ?_;intro(j,u) J ⟨b,D⟩;have E:=PK i (lg M i []) j;have F:=f.small i j;refine ff b q ?_;refine⟨λc=>⟨h,h,c,c,λt=>?_,λt=>?_⟩,λc=>?_⟩;have d:lg (lg M i []) j 0≠0:=ss t;have G:=zio (i:=i) (j:=j) om om F;have e:pC i (lg M i []) (j+1)=pC i (lg M i []) j++[JL i j (lg (lg M i []) j 0)]:=by rw[pC,ac d]
 refine⟨kr,aa (cB om om) ?_⟩;refine ff b q ?_;refine⟨by show _+1<=_;omega,aa (cB om om) ?_⟩;refine ff b q ?_;have K:(dA i++⟨#[58]⟩).size<=21:=by rw[aI];show _+1<=21;omega
 have L:(dA i++⟨#[58]⟩++dA j).size<=41:=by grind
 have N:(dA i++⟨#[58]⟩++dA j++⟨#[61]⟩).size<=42:=by rw[aI];show _+1<=42;omega
 refine⟨om,by grind,h,h,c,c,aa (cB om om) ?_⟩;refine ff b q ?_;refine⟨om,by grind,kr,ah ((j+1,u+1)) ⟨(by and_intros<;>(first|(simp only[gr,simprocAttr,b,ak c<|show (lh M)<=9223372036854775807 by omega,e,JL,cP];first|done|rfl|(simp;done))|assumption|rfl)),om⟩⟩;have d:lg (lg M i []) j 0=0:=ss t;have e:pC i (lg M i []) (j+1)=pC i (lg M i []) j:=by rw[pC,ae d]
 exact ah ((j+1,u)) ⟨(fB b (ak c om) e),om⟩;obtain rfl:j=lh M:=om;exact ah ((i+1,u)) ⟨(by and_intros<;>(first|(simp only[gr,simprocAttr,o,b,ak h om,qk])|assumption|rfl)),om⟩;obtain rfl:i=lh M:=om;have l:=zcw f _ g;have w:∀k,k<=lh _->(iy _ ⟨#[32]⟩ k).size<=63*k:=oD (λk x=>l _<|aP _ x)<|ab 1;refine aa (qI _ _ om<|λk x=>?_) ?_;have:=w k x;have P:(⟨#[32]⟩:P0).size=1:=rfl;omega;have e:=jD (qk M<|lh M) ⟨#[32]⟩ _<|ab _;rw[av]at e;exact e▸mg o
theorem Iy:AC prog 62 [.ag [al n,aE a],al p] (.im (fa (Ci n a p))):=by
 refine cA [.tmp 4] func62 λI=>?_;refine aR<|aa (CR n a p) ?_;have f:=zhy n a p;unfold Ci;generalize CT n a p=M at *;have g:=f.len;refine aR ?_;have y:sL (qk M 0)=[]:=rfl;refine az (λ(i,v)s=>(s.sl 5=.own 5 v/\s.rw 5=⟨v,.sli 9 1 l0<|sL<|qk M i⟩/\s.sl 12=.own 12 1/\s.rw 12=⟨1,.sli 24 1 l0<|mF M⟩/\s.sl 13=al (lh M)/\s.sl 14=al i)/\(i<=lh M)) (λ(i,v)=>lh M-i) ((0,1)) ⟨(jX y),om⟩ ?_;intro(i,v) J ⟨q,A⟩;have B:=zcv g i;refine cZ q ?_;refine⟨λh=>⟨h,h,?_⟩,λh=>?_⟩;have b:=f.row i h;have r:sL (qk M i++pC i (lg M i []) 0)=sL (qk M i):=by rw[pC,bh]
 refine az (λ(j,u)s=>(s.sl 5=.own 5 u/\s.rw 5=⟨u,.sli 9 1 l0<|sL<|qk M i++pC i (lg M i []) j⟩/\s.sl 6=al i/\s.sl 12=.own 12 1/\s.rw 12=⟨1,.sli 24 1 l0<|mF M⟩/\s.sl 13=al (lh M)/\s.sl 14=al i/\s.sl 19=.sl k0 1 (iL<|lg M i [])/\s.sl 20=al (lh M)/\s.sl 21=al j)/\(j<=lh M)) (λ(j,u)=>lh M-j) ((0,v)) ⟨(fB q b r),om⟩ ?_;intro(j,u) K ⟨c,D⟩;have E:=PK i (lg M i []) j;have F:=f.small i j;refine ff c b ?_;refine⟨λl=>⟨l,l,λt=>?_,λt=>?_⟩,λl=>?_⟩;have d:lg (lg M i []) j 0≠0:=ss t;have G:=zio (i:=i) (j:=j) om om F;have e:pC i (lg M i []) (j+1)=pC i (lg M i []) j++[JL i j (lg (lg M i []) j 0)]:=by rw[pC,ac d]
 have L:(dA i++⟨#[58]⟩).size<=21:=by rw[aI];show _+1<=21;omega
 have N:(dA (i:Int)++⟨#[58]⟩++dA j).size<=41:=by grind
 have O:(dA (i:Int)++⟨#[58]⟩++dA (j:Int)++⟨#[61]⟩).size<=42:=by rw[aI];show _+1<=42;omega
 refine aa (db om om) ?_;refine ff c b ?_;refine⟨by grind,aa (db om om) ?_⟩;refine ff c b ?_;refine⟨om,by grind,aa (db om om) ?_⟩;refine ff c b ?_;refine⟨om,by grind,ah ((j+1,u+1)) ⟨(by and_intros<;>(first|(simp only[gr,simprocAttr,c,ak l<|show (lh M)<=9223372036854775807 by omega,e,JL,cP,b];first|done|rfl|(simp;done))|assumption|rfl)),om⟩⟩;have d:lg (lg M i []) j 0=0:=ss t;have e:pC i (lg M i []) (j+1)=pC i (lg M i []) j:=by rw[pC,ae d]
 exact ah ((j+1,u)) ⟨(rS c (ak l om) e b),om⟩;obtain rfl:j=lh M:=om;exact ah ((i+1,u)) ⟨(by and_intros<;>(first|(simp only[gr,simprocAttr,q,c,ak h om,qk])|assumption|rfl)),om⟩;obtain rfl:i=lh M:=om;have o:=zcw f (lh M) g;have w:∀k,k<=lh _->(iy _ ⟨#[32]⟩ k).size<=63*k:=oD (λk H=>o _<|aP _ H)<|ab 1;have x:=w _<|ab _;rw[jD _ _ _<|ab _,av]at x;refine aa (kA _ _ om om) ?_;exact mg q
theorem lR(b:lh a<=1048576):AC prog 27 [.ag [al n,aE a]] (.ag [.im (al n),.fr 3 1 (iL a)]):=by refine cA [.cell 2 26] func27 λc=>?_;refine aR ?_;exact⟨kr,om,kr⟩
def zvL(n:Int)(a:N0):RV:=.ag [.im (al n),.fr 3 1 (iL a),.im (al n),.fr 3 1 (iL a)]
theorem MR:AC prog 40 [] (zvL (xJ 1) (mu (FI 1))):=by refine cA [.cell 0 28] func40 λb=>?_;unfold zvL;refine aR ?_;refine aa (pG 1) ?_;have a:=zfP 1;generalize mu (FI 1)=c at *;generalize ((xJ 1:Nat):Int)=n at *;refine aR ?_;refine⟨kr,aa (lR _ _ a) ?_⟩;refine aR ?_;exact kr
theorem ot(b:lh a<=1048576):AC prog 18 [.ag [al n,aE a]] (.ag [.im (al n),.fr 3 1 (iL a)]):=by refine cA [.cell 2 26] func18 λc=>?_;refine aR ?_;refine⟨kr,aa (pd a b) ?_⟩;refine aR ?_;rfl
theorem PD(b:lh a<=1048576)(d:lh c<=1048576):AC prog 24 [.ag [al n,aE a,al p,aE c]] (.ag [.im (al n),.fr 3 1 (iL a),.im (al p),.fr 3 1 (iL c)]):=by
 refine cA [.cell 2 28] func24 λe=>?_;refine aR ?_;refine⟨kr,aa (lR n a b) ?_⟩;refine aR<|aa (lR p c d) ?_;refine aR ?_
 rfl
theorem zP(b:lh a<=500):AC prog 175 [aE a] (.im (fa (Vp a))):=by refine cA [.tmp 2] func175 λc=>?_;refine aR ?_;unfold Vp;refine⟨λl=>?_,λl=>aa (nX a b) ?_⟩;grind;rw[ac<|by grind];exact ef
def zrT(b:Bool):P0:=if b=k0 then⟨#[121,101,115]⟩else⟨#[110,111]⟩
theorem zQ:AC prog 65 [aU b] (.im (fa (zrT b))):=by refine cA [.tmp 2] func65 λa=>?_;cases b<;>refine aR ?_<;>rfl
theorem Ch:AC prog 79 [aU b] (.im (fa (zrT b))):=by refine cA [.tmp 2] func79 λa=>?_;cases b<;>refine aR ?_<;>rfl
noncomputable def zrU(n:Int)(a:N0):P0:=if(Ci n a 2).size=0 then⟨#[110,111]⟩else Ci n a 2
theorem KL:AC prog 177 [.ag [al n,aE a]] (.im (fa (zrU n a))):=by refine cA [.tmp 2] func177 λd=>?_;refine aR<|aa (Ix n a 2) ?_;have b:=XD<|Ci n a 2;unfold zrU;by_cases c:(Ci n a 2).size=0;rw[ay c]at b;exact ae c▸mg b;rw[aD c]at b;exact ac c▸mg b
def PM(l:N0):P0:=if (lh l)=0 then⟨#[110,111,110,101]⟩else Dw l
noncomputable def QZ(n:Int)(a:N0):P0:=if aS n a=k0 then PM (bl (mw n a))else⟨#[]⟩
theorem sY:AC prog 173 [.ag [al n,aE a]] (.im (fa (QZ n a))):=by
 refine cA [.tmp 2] func173 λg=>?_;refine aR<|aa (bw n a) ?_;refine aR ?_;unfold QZ;refine⟨λb=>?_,λb=>aa (kV n a) ?_⟩;grind;rw[ae (ss b)];have d:=sI n a;have f:=ap<|mw n a;generalize bl _=l at *;unfold PM;refine aR ?_;refine⟨λc=>?_,λc=>aa (nX l om) ?_⟩
 grind
 rw[ac<|by grind];exact ef
theorem sZ:AC prog 58 [.ag [al n,aE a]] (.im (fa (QZ n a))):=by
 refine cA [.tmp 2] func58 λg=>?_;refine aR<|aa (aH n a) ?_;refine aR ?_;unfold QZ;refine⟨λb=>?_,λb=>aa (sJ n a) ?_⟩;grind;rw[ae<|ss b];have d:=sI n a;have f:=ap<|mw n a;generalize bl _=l at *;unfold PM;refine aR ?_;refine⟨λc=>?_,λc=>aa (nW l om) ?_⟩
 grind
 rw[ac<|by grind];exact ef
theorem PL:(if mr n a=k0/\lM p=k0 then WY (ao a) p else -1)=nE n a p:=by
 by_cases b:lM p=k0;by_cases h:mr n a=k0;obtain⟨m,q,d,_,rfl,rfl,j,k,l,f,g,o⟩:=Ly h b;grind;rw[ac λe=>h e.1];cases c:aS n a with
 | false=>exact(ac λh=>by grind).symm
 | true =>have i:=AR c h;subst i;rw[nE,ae ⟨c,b⟩];rfl
 rw[ac λe=>b e.2];exact(ac λh=>b h.2).symm
theorem zpj:-1<=nE n a p/\nE n a p<=6:=by by_cases b:lM p=k0;by_cases h:mr n a=k0;obtain⟨m,q,d,_,rfl,rfl,c,f,g,i,j,k⟩:=Ly h b;have:=eD<|ao a;omega;rw[<- PL,ac λe=>h e.1];omega;rw[<- PL,ac λe=>b e.2];omega
theorem XM(a:Array UInt8):(ByteArray.mk a).size=a.size:=rfl
theorem DK(a:∀x∈C,inI x)(b:lh C<=7):(pH C).size<=147:=by unfold pH;split;decide;have:=Pm a _<|ab _;rw[jD _ _ _<|ab _,av,aG]at this;omega
theorem zkc:(QZ n a).size<=3136:=by
 unfold QZ;split;unfold PM;split;decide;have d:=sI n a;have e:=ap<|mw n a;generalize bl _=l at *;have b:=xg (l:=l.map ip) (sep:=⟨#[44]⟩) (λi c=>by
  have c:=ss c;have:lg (l.map ip) i ⟨#[]⟩=ip l[i]:=by grind
  exact this▸xf _) (ab 1) _<|ab _
 rw[jD _ _ _<|ab _,av,aG]at b;unfold Dw;omega;decide
theorem zkd:(XL n a).size<=31:=by have c:=Vl a;have b:=eY (n:=1-LD a) om om;unfold XL;split;split;decide;split;simp[XM];omega;simp[XM];omega;decide
theorem zke:(Qt n a).size<=91:=by unfold Qt;split;split;decide;have⟨j1,j2⟩:=ON n a;have:=(znM n a).1;grind;decide
theorem zV:∀x∈gc f,inI x:=λx b=>by obtain⟨i,a,rfl⟩:=eX 0 b;rw[eb]at a;rw[lN f a];have:=fc f i<|ab 64;unfold inI;omega
theorem XN:∀x∈hV a,inI x:=λx b=>by have:=zwL a x b;unfold inI;omega
theorem Gp:∀x∈ed f p,inI x:=λx a=>by obtain⟨i,b,rfl⟩:=eX 0 a;have:=AJ f p i;unfold inI;omega
theorem fN{l:Q0}{i j:Nat}(a:j=i+1)(b:i≠0){x:P0}(h:lg l i ⟨#[]⟩=x):iy l e j=iy l e i++e++x:=by rw[a,iy,ac b,h]
def Iz(a b c d e f g h a9:P0):Q0:=[⟨#[100,105,109]⟩,a,⟨#[99,111,117,110,116,115]⟩,b,⟨#[104]⟩,c,⟨#[101,117,108,101,114]⟩,d,⟨#[104,111,108,101,115]⟩,e,⟨#[100,101,112,116,104]⟩,f,⟨#[109,105,115,115,105,110,103]⟩,g,⟨#[115,117,114,102,97,99,101]⟩,h,a9]
theorem zr1(c d f g h k a9:P0):qJ (Iz t w c d f g h k a9) ⟨#[32]⟩=((((((((((((((((((⟨#[100,105,109,32]⟩:P0)++t)++⟨#[32,99,111,117,110,116,115,32]⟩)++w)++⟨#[32,104,32]⟩)++c)++⟨#[32,101,117,108,101,114,32]⟩)++d)++⟨#[32,104,111,108,101,115,32]⟩)++f)++⟨#[32,100,101,112,116,104,32]⟩)++g)++⟨#[32,109,105,115,115,105,110,103,32]⟩)++h)++⟨#[32,115,117,114,102,97,99,101,32]⟩)++k)++⟨#[32]⟩)++a9):=by have l:(⟨#[100,105,109,32]⟩:P0)=⟨#[100,105,109]⟩++⟨#[32]⟩:=rfl;have m:(⟨#[32,99,111,117,110,116,115,32]⟩:P0)=⟨#[32]⟩++(⟨#[99,111,117,110,116,115]⟩++⟨#[32]⟩):=rfl;have n:(⟨#[32,104,32]⟩:P0)=⟨#[32]⟩++(⟨#[104]⟩++⟨#[32]⟩):=rfl;have l3:(⟨#[32,101,117,108,101,114,32]⟩:P0)=⟨#[32]⟩++(⟨#[101,117,108,101,114]⟩++⟨#[32]⟩):=rfl;have o:(⟨#[32,104,111,108,101,115,32]⟩:P0)=⟨#[32]⟩++(⟨#[104,111,108,101,115]⟩++⟨#[32]⟩):=rfl;have p:(⟨#[32,100,101,112,116,104,32]⟩:P0)=⟨#[32]⟩++(⟨#[100,101,112,116,104]⟩++⟨#[32]⟩):=rfl;have q:(⟨#[32,109,105,115,115,105,110,103,32]⟩:P0)=⟨#[32]⟩++(⟨#[109,105,115,115,105,110,103]⟩++⟨#[32]⟩):=rfl;have r:(⟨#[32,115,117,114,102,97,99,101,32]⟩:P0)=⟨#[32]⟩++(⟨#[115,117,114,102,97,99,101]⟩++⟨#[32]⟩):=rfl;have e:=jD (Iz t w c d f g h k a9) ⟨#[32]⟩ 17<|ab _;rw[show(Iz t w c d f g h k a9).take 17=Iz t w c d f g h k a9 from rfl]at e;rw[<- e,fN (i:=16) (j:=17) rfl dc (x:=a9) rfl,fN (i:=15) (j:=16) rfl dc (x:=k) rfl,fN (i:=14) (j:=15) rfl dc (x:=⟨#[115,117,114,102,97,99,101]⟩) rfl,fN (i:=13) (j:=14) rfl dc (x:=h) rfl,fN (i:=12) (j:=13) rfl dc (x:=⟨#[109,105,115,115,105,110,103]⟩) rfl,fN (i:=11) (j:=12) rfl dc (x:=g) rfl,fN (i:=10) (j:=11) rfl dc (x:=⟨#[100,101,112,116,104]⟩) rfl,fN (i:=9) (j:=10) rfl dc (x:=f) rfl,fN (i:=8) (j:=9) rfl dc (x:=⟨#[104,111,108,101,115]⟩) rfl,fN (i:=7) (j:=8) rfl dc (x:=d) rfl,fN (i:=6) (j:=7) rfl dc (x:=⟨#[101,117,108,101,114]⟩) rfl,fN (i:=5) (j:=6) rfl dc (x:=c) rfl,fN (i:=4) (j:=5) rfl dc (x:=⟨#[104]⟩) rfl,fN (i:=3) (j:=4) rfl dc (x:=w) rfl,fN (i:=2) (j:=3) rfl dc (x:=⟨#[99,111,117,110,116,115]⟩) rfl,fN (i:=1) (j:=2) rfl dc (x:=t) rfl,show iy (Iz t w c d f g h k a9) ⟨#[32]⟩ 1=⟨#[100,105,109]⟩ from rfl];simp only[l,m,n,l3,o,p,q,r,xo]
theorem zkf{a1 a2 a3 a4 a5 a6 a7 a8 a9:P0}(h:∀a∈[a1,a2,a3,a4,a5,a6,a7,a8,a9],a.size<=3136):(qJ (Iz a1 a2 a3 a4 a5 a6 a7 a8 a9) ⟨#[32]⟩).size<=60000:=by
 have c:∀w∈Iz a1 a2 a3 a4 a5 a6 a7 a8 a9,w.size<=3136:=λw b=>by unfold Iz at b;simp[wt]at b;rcases b with rfl|rfl|rfl|rfl|rfl|rfl|rfl|rfl|rfl|rfl|rfl|rfl|rfl|rfl|rfl|rfl|rfl<;>first|decide|exact h _ sp
 have j1:=oD (sep:=⟨#[32]⟩) (λi d=>c _<|aP _ d) (ab 1) 17<|ab _;have e:=jD (Iz a1 a2 a3 a4 a5 a6 a7 a8 a9) ⟨#[32]⟩ 17<|ab _;rw[show(Iz a1 a2 a3 a4 a5 a6 a7 a8 a9).take 17=Iz a1 a2 a3 a4 a5 a6 a7 a8 a9 from rfl]at e;grind
noncomputable def zuD(n:Int)(a:N0):Q0:=Iz (dA (gD n a)) (pH (gc (ao a))) (pH (hV a)) (dA (LD a)) (pH (ed (ao a) 2)) (dA (nE n a 2)) (QZ n a) (XL n a) (Qt n a)
theorem zpk:∀b∈[dA (gD n a),pH (gc (ao a)),pH (hV a),dA (LD a),pH (ed (ao a) 2),dA (nE n a 2),QZ n a,XL n a,Qt n a],b.size<=3136:=λb c=>by have d:=eD (ao a);have e:=FO n a;have f:=Vl a;have g:=zpj n a 2;have h:=eY (n:=gD n a) om om;have i:=DK (zV _) (by rw[eb];omega);have j:=DK (XN a) (by rw[Df];omega);have k:=eY (n:=LD a) om om;have l:=DK (Gp _ 2) (by rw[df];omega);have m:=eY (n:=nE n a 2) om om;have o:=zkc n a;have p:=zkd n a;have q:=zke n a;simp[jV]at c;grind
noncomputable def zpl(n:Int)(a:N0):P0:=if aS n a=k0 then qJ (zuD n a) ⟨#[32]⟩else⟨#[]⟩
theorem xn:AC prog 52 [.ag [al n,aE a]] (.im (fa (zpl n a))):=by refine cA [.tmp 2] func52 λq=>?_;refine aR<|aa (aH n a) ?_;refine aR ?_;unfold zpl;refine⟨λb=>by grind,λb=>⟨kr,aa (mQ n a) ?_⟩⟩;have b:=ss b;rw[ae b];obtain⟨r,s,_⟩:=cY.1 b;obtain⟨m,rfl⟩:∃m:Nat,n=m:=⟨n.toNat,om⟩;have t:=FO m a;have i:=eb<|ao a;have j:=eD<|ao a;have l:=Df a;have u:=Vl a;have o:=Gp (ao a) 2;have p:=df (ao a) 2;have w:=zpj m a 2;have d:=sE m a b;change AC _ _ _ (.im<|al<|LD a)at d;have e:=zA m a 2;rw[PL]at e;have f:=gw m a;rw[show fcR m a=gc _ from ae b]at f;refine aR ?_;refine aa (db om om)<|aR<|aa f ?_;refine aR<|aa (iA _ om<|zV<|ao a) ?_;refine aR<|aa (xL m a b) ?_;refine aR<|aa (iA _ om<|XN a) ?_;refine aR<|aa d ?_;refine aR ?_;refine aa (db om om)<|aR<|aa (qj m a 2 b rfl) ?_;refine aR ?_;refine aa (iA _ om o)<|aR<|aa e ?_;refine aR ?_;refine aa (db om om)<|aR<|aa (sZ m a) ?_;refine aR<|aa (DI m a b) ?_;refine aR<|aa (vK m a) ?_;refine aR ?_;refine⟨kr,?_⟩;have c:=zkf<|zpk m a;refine aa (kA (zuD m a) _ (show 17<=_ by simp)<|aJ c dc) ?_;exact ef
theorem xm:AC prog 169 [.ag [al n,aE a]] (.im (fa (zpl n a))):=by refine cA [.tmp 2] func169 λq=>?_;refine aR<|aa (bw n a) ?_;refine aR ?_;unfold zpl;refine⟨λb=>by grind,λb=>⟨kr,aa (gZ n a) ?_⟩⟩;have b:=ss b;rw[ae b];obtain⟨r,s,_⟩:=cY.1 b;obtain⟨m,rfl⟩:∃m:Nat,n=m:=⟨n.toNat,om⟩;have t:=FO m a;have f:=zV<|ao a;have g:=eb<|ao a;have i:=eD<|ao a;have k:=Df a;have u:=Vl a;have l:=Gp (ao a) 2;have o:=df (ao a) 2;have w:=zpj m a 2;have d:=zn m a b;change AC _ _ _ (.im<|al<|LD a)at d;have e:=gt m a;rw[mP b]at e;have c:=zpk m a;simp[wt]at c;rw[zuD,zr1];refine aR ?_;refine aa (cB om om)<|aR ?_;refine⟨(by simp[XM];omega),(by simp[XM];omega),aa e ?_⟩;refine aR<|aa (iz _ om f) ?_;refine aR ?_;refine⟨(by simp[XM];omega),(by simp[XM];omega),aa (xM m a b) ?_⟩;refine aR<|aa (iz _ om (XN a)) ?_;refine aR ?_;refine⟨(by simp[XM];omega),(by simp[XM];omega),aa d ?_⟩;refine aR ?_;refine aa (cB om om)<|aR ?_;refine⟨(by simp[XM];omega),kr,kr,(by simp[XM];omega),aa (wg m a 2 b rfl) ?_⟩;refine aR ?_;refine aa (iz _ om l)<|aR ?_;refine⟨(by simp[XM];omega),(by simp[XM];omega),aa (sK m a 2) ?_⟩;refine aR ?_;refine aa (cB om om)<|aR ?_;refine⟨(by simp[XM];omega),(by simp[XM];omega),aa (sY m a) ?_⟩;refine aR ?_;refine⟨(by simp[XM];omega),kr,kr,(by simp[XM];omega),aa (DJ m a b) ?_⟩;refine aR ?_;refine⟨(by simp[XM];omega),(by simp[XM];omega),aa (vL m a) ?_⟩;refine aR ?_;exact(by simp[XM];omega)
noncomputable def qn(b:Bool)(n:Int)(f:V0):Bool×Int×N0:=if b=k0 then(k0,n,bl (dI f k0))else(l0,0,[])
def xz(r:Bool×Int×N0):RV:=.tup [.ag [.im (al r.2.1),.fr 3 1 (iL r.2.2)],.im (aU r.1)]
theorem gi:xO b n f=xz (qn b n f):=by cases b<;>rfl
theorem iH{a:Sort _}{b:Bool}(h:b=l0)(x y:a):(if b=k0 then x else y)=y:=ac (by rw[h];exact tu)
theorem zku:RV.tup [.ag [.im (al (if b=k0 then n else 0)),.fr 3 1 (iL (if b=k0 then bl (dI f k0)else []))],.fr 3 1 (iL a),.im (aU b)]=.tup [.ag [.im (al (qn b n f).2.1),.fr 3 1 (iL (qn b n f).2.2)],.fr 3 1 (iL a),.im (aU (qn b n f).1)]:=by cases b<;>rfl
abbrev Md:=Bool×Bool×Int×N0
def BI(r:Md):RV:=.tup [.ag [.im (al r.2.2.1),.fr 3 1 (iL r.2.2.2)],.im (aU r.2.1),.im (aU r.1)]
def Gw(r:Md):RV:=.ag [.im (al r.2.2.1),.fr 3 1 (iL r.2.2.2),.im (aU r.2.1),.im (aU r.1)]
noncomputable def Bc(n:Int)(a:N0)(m:Int)(b:N0)(w:P0):Md :=
 if(w.toList==(⟨#[100,117,97,108]⟩:P0).toList)=k0 then(k0,qn (aS n a) n (Cb n.toNat (ao a)))
 else if(w.toList==(⟨#[99,111,110,101]⟩:P0).toList)=k0 then(k0,qn (aS n a&&(aS 1 [1]&&decide (n+1<=6))) (n+1) (joF n.toNat a [1]))
 else if(w.toList==(⟨#[115,117,115,112,101,110,100]⟩:P0).toList)=k0 then(k0,qn (aS n a&&(aS 2 [1,2]&&decide (n+2<=6))) (n+2) (joF n.toNat a [1,2]))
 else if(w.toList==(⟨#[99,97,110,111,110]⟩:P0).toList)=k0 then(k0,(aS n a,zoX n a (aS n a),uk n a))
 else if(w.toList==(⟨#[101,100,103,101]⟩:P0).toList)=k0 then(k0,qn (egB n a) n (egF n a))
 else if(w.toList==(⟨#[99,111,108,108,97,112,115,101]⟩:P0).toList)=k0 then(k0,qn (aS n a) n (zeF a).1)
 else if(w.toList==(⟨#[102,108,97,103]⟩:P0).toList)=k0 then(k0,qn (aS n a) n (λs=>decide (s<2^n.toNat)&&flF (ao a) s))
 else if(w.toList==(⟨#[106,111,105,110]⟩:P0).toList)=k0 then(k0,qn (aS n a&&(aS m b&&decide (n+m<=6))) (n+m) (joF n.toNat a b))
 else if(w.toList==(⟨#[117,110,105,111,110]⟩:P0).toList)=k0 then(k0,qn (aS n a&&(aS m b&&decide (n=m))) n (λt=>ao a t||ao b t))
 else if(w.toList==(⟨#[109,101,101,116]⟩:P0).toList)=k0 then(k0,qn (aS n a&&(aS m b&&decide (n=m))) n (λt=>ao a t&&ao b t))
 else(l0,l0,0,[])
theorem Cl:AC prog 45 [.ag [al n,aE a,al p,aE c],fa w] (BI (Bc n a p c w)):=by refine cA [.cell 4 26,.tmp 5,.tmp 6] func45 λb=>?_;refine aR ?_;unfold Bc;refine⟨λh=>?_,λh=>?_⟩;have D:=QT n a;rw[gi]at D;rw[ae h];unfold xz at D;unfold BI;refine aa D<|ef;rw[iH h];refine⟨λh=>?_,λh=>?_⟩;have D:=QO n a;rw[gi]at D;rw[ae h];unfold xz at D;unfold BI;refine aa D<|ef;rw[iH h];refine⟨λh=>?_,λh=>?_⟩;have D:=By n a;rw[gi]at D;rw[ae h];unfold xz at D;unfold BI;refine aa D<|ef;rw[iH h];refine⟨λh=>?_,λh=>?_⟩;have D:=kC n a;rw[ae h];unfold BI;refine aa D<|ef;rw[iH h];refine⟨λh=>?_,λh=>?_⟩;have D:=Dy n a;rw[gi]at D;rw[ae h];unfold xz at D;unfold BI;refine aa D<|ef;rw[iH h];refine⟨λh=>?_,λh=>?_⟩;have D:=Du n a;rw[zku]at D;rw[ae h];unfold BI;refine aa D<|mg @JK;rw[iH h];refine⟨λh=>?_,λh=>?_⟩;have D:=QK n a;rw[gi]at D;rw[ae h];unfold xz at D;unfold BI;refine aa D<|ef;rw[iH h];refine⟨λh=>?_,λh=>?_⟩;have D:=uh n a p c;rw[gi]at D;rw[ae h];unfold xz at D;unfold BI;refine aa D<|ef;rw[iH h];refine⟨λh=>?_,λh=>?_⟩;have D:=Pt n a p c;rw[gi]at D;rw[ae h];unfold xz at D;unfold BI;refine aa D<|ef;rw[iH h];refine⟨λh=>?_,λh=>?_⟩;have D:=QS n a p c;rw[gi]at D;rw[ae h];unfold xz at D;unfold BI;refine aa D<|ef;rw[iH h];unfold BI;refine aR ?_;rfl
theorem PZ:AC prog 74 [.ag [al n,aE a,al p,aE c],fa w] (Gw (Bc n a p c w)):=by refine cA [.cell 4 52] func74 λb=>?_;refine aR ?_;unfold Bc;refine⟨λh=>?_,λh=>?_⟩;have D:=Pq n a;rw[gi]at D;rw[ae h];unfold xz at D;unfold Gw;refine aa D<|ef;rw[iH h];refine⟨λh=>?_,λh=>?_⟩;have D:=QN n a;rw[gi]at D;rw[ae h];unfold xz at D;unfold Gw;refine aa D<|ef;rw[iH h];refine⟨λh=>?_,λh=>?_⟩;have D:=Bx n a;rw[gi]at D;rw[ae h];unfold xz at D;unfold Gw;refine aa D<|ef;rw[iH h];refine⟨λh=>?_,λh=>?_⟩;have D:=kB n a;rw[ae h];unfold Gw;refine aa D<|ef;rw[iH h];refine⟨λh=>?_,λh=>?_⟩;have D:=Dz n a;rw[gi]at D;rw[ae h];unfold xz at D;unfold Gw;refine aa D<|ef;rw[iH h];refine⟨λh=>?_,λh=>?_⟩;have D:=Dt n a;rw[zku]at D;rw[ae h];unfold Gw;refine aa D<|mg @JK;rw[iH h];refine⟨λh=>?_,λh=>?_⟩;have D:=QL n a;rw[gi]at D;rw[ae h];unfold xz at D;unfold Gw;refine aa D<|ef;rw[iH h];refine⟨λh=>?_,λh=>?_⟩;have D:=ui n a p c;rw[gi]at D;rw[ae h];unfold xz at D;unfold Gw;refine aa D<|ef;rw[iH h];refine⟨λh=>?_,λh=>?_⟩;have D:=Pr n a p c;rw[gi]at D;rw[ae h];unfold xz at D;unfold Gw;refine aa D<|ef;rw[iH h];refine⟨λh=>?_,λh=>?_⟩;have D:=QM n a p c;rw[gi]at D;rw[ae h];unfold xz at D;unfold Gw;refine aa D<|ef;rw[iH h];unfold Gw;refine aR ?_;rfl
theorem me(s:St)(d e a:Nat)(x y z:Value)(c:M0):br s d (.ag [.im (.v x),.fr e a c,.im (.v y),.im (.v z)])=(s.row d ⟨(s.rw d).ver+1,.sli e a l0 c⟩).put (some d) (.ag [.v x,.own d ((s.rw d).ver+1),.v y,.v z]):=by simp[br,leaves,eu,fL];rfl
theorem gJ(s:St)(d e a:Nat)(x y z:Value)(c:M0):br s d (.tup [.ag [.im (.v x),.fr e a c],.im (.v y),.im (.v z)])=(s.row d ⟨(s.rw d).ver+1,.sli e a l0 c⟩).put (some d) (.tup [.ag [.v x,.own d ((s.rw d).ver+1)],.v y,.v z]):=by simp[br,leaves,eu,gN,fL];rfl
theorem zks:mkP b n a=xz (if b=k0 then(k0,n,a)else(l0,0,[])):=by cases b<;>rfl
noncomputable def pxM(t:P0):Bool×Int×N0:=if Tp t=k0 then(k0,((fK t 0-48:Nat):Int),ph (Iu (GC t)))else(l0,0,[])
def Gv(t:P0):Int:=if pg (dl t)=k0 then we (dl t)else 0
def PW:Md:=(l0,l0,0,[])
noncomputable def exM(v:Int):Bool×Int×N0:=(decide (1<=v/\v<=8),xJ v,mu (FI v))
noncomputable def XW(n:Int)(a:N0)(w:P0)(s:Int)(k:Bool):Md :=
 if(w.toList==(⟨#[108,105,110,107]⟩:P0).toList)=k0 then(k,qn (aS n a&&di n s) n (dL (ao a) s.toNat))
 else if(w.toList==(⟨#[115,116,97,114]⟩:P0).toList)=k0 then(k,qn (aS n a&&di n s) n (λt=>decide (t<2^n.toNat)&&ao a (t|||s.toNat)))
 else if(w.toList==(⟨#[100,101,108,101,116,101]⟩:P0).toList)=k0 then(k,qn (aS n a&&di n s) n (pB (ao a) s.toNat))
 else if(w.toList==(⟨#[105,110,100,117,99,101,100]⟩:P0).toList)=k0 then(k,qn (aS n a&&di n s) n (λt=>ao a t&&eG s.toNat t))
 else if(w.toList==(⟨#[100,105,118,105,100,101]⟩:P0).toList)=k0 then(k,qn (sdB n a s) (n+1) (sdF n.toNat s.toNat (ao a)))
 else PW
noncomputable def Zy(n:Int)(a:N0)(w t:P0):Md :=
 if(w.toList==(⟨#[99,111,109,112,108,101,120]⟩:P0).toList)=k0 then(k0,pxM t)
 else if(w.toList==(⟨#[101,120,97,109,112,108,101]⟩:P0).toList)=k0 then(pg (dl t),exM (Gv t))
 else if(w.toList==(⟨#[115,107,101,108,101,116,111,110]⟩:P0).toList)=k0 then(pg (dl t),qn (aS n a&&(decide (0<=Gv t)&&decide (Gv t<=6))) n (skF (ao a) (Gv t).toNat))
 else XW n a w (Br t:Nat) (uq t)
noncomputable def IB(n:Int)(a:N0)(w t:P0):Md :=
 if(w.toList==(⟨#[99,111,109,112,108,101,120]⟩:P0).toList)=k0 then(k0,pxM t)
 else if(w.toList==(⟨#[101,120,97,109,112,108,101]⟩:P0).toList)=k0 then(if pg (dl t)=k0 then(k0,exM (Gv t))else PW)
 else if(w.toList==(⟨#[115,107,101,108,101,116,111,110]⟩:P0).toList)=k0 then(if pg (dl t)=k0 then(k0,qn (aS n a&&(decide (0<=Gv t)&&decide (Gv t<=6))) n (skF (ao a) (Gv t).toNat))else PW)
 else if uq t=k0 then XW n a w (Br t:Nat) k0 else PW
def LK(r s:Md):Prop:=r.1=s.1/\(r.1=k0->r=s)
theorem LL{c:Prop}[Decidable c]{a b d e:Md}(f:LK a d)(g:LK b e):LK (if c then a else b) (if c then d else e):=by grind
theorem ze3(x:Bool×Int×N0):LK (b,x) (if b=k0 then(k0,x)else PW):=by cases b<;>exact⟨rfl,λh=>by grind⟩
theorem zkt:(XW n a t p l0).1=false:=by
 unfold XW
 repeat' split
 all_goals rfl
theorem zr5:LK (Zy n a t w) (IB n a t w):=by
 refine LL ⟨rfl,λ_=>rfl⟩<|LL (ze3 _ _)<|LL (ze3 _ _) ?_;cases uq w with
 | true=>exact⟨rfl,λ_=>rfl⟩
 | false=>exact⟨zkt n a t _,λh=>by simp_all[zkt]⟩
theorem DO(t:P0)(g:t.size<=2000000):AC prog 46 [.ag [al n,aE a,al p,aE c],fa w,fa t] (BI (Zy n a w t)):=by
 refine cA [.cell 6 26,.tmp 7,.tmp 8] func46 λj=>?_;have d:=xS t g;refine aR<|aa d ?_;refine aR<|aa (gP t) ?_;unfold Zy XW;have b:=zR t g;have e:AC _ 109 _ (xz<|exM<|Gv t):=pF<|Gv t;have f:=Ga n a<|Gv t;generalize ((Br t))=i at *;refine aR ?_;refine⟨λh=>?_,λh=>?_⟩;have D:AC prog 108 [fa t] (xz<|pxM t):=by rw[pxR,zks]at b;exact b
 rw[ae h];unfold xz at D;unfold BI;refine aa D<|ef;rw[iH h];refine⟨λh=>?_,λh=>?_⟩;have D:=e;rw[ae h];unfold xz at D;unfold BI;refine aa D<|ef;rw[iH h];refine⟨λh=>?_,λh=>?_⟩;have D:=f;rw[gi]at D;rw[ae h];unfold xz at D;unfold BI;refine aa D ?_;simp[↓gp,gq,gT];rw[iH h];refine⟨λh=>?_,λh=>?_⟩;have D:=Ps n a i;rw[gi]at D;rw[ae h];unfold xz at D;unfold BI;refine aa D<|ef;rw[iH h];refine⟨λh=>?_,λh=>?_⟩;have D:=QR n a i;rw[gi]at D;rw[ae h];unfold xz at D;unfold BI;refine aa D<|ef;rw[iH h];refine⟨λh=>?_,λh=>?_⟩;have D:=FZ n a i;rw[gi]at D;rw[ae h];unfold xz at D;unfold BI;refine aa D<|ef;rw[iH h];refine⟨λh=>?_,λh=>?_⟩;have D:=Io n a i;rw[gi]at D;rw[ae h];unfold xz at D;unfold BI;refine aa D<|ef;rw[iH h];refine⟨λh=>?_,λh=>?_⟩;have D:=DB n a i;rw[gi]at D;rw[ae h];unfold xz at D;unfold BI;refine aa D<|ef;rw[iH h];unfold BI PW;refine aR ?_;rfl
theorem PX(s:Int):AC prog 166 [.ag [al n,aE a,al p,aE c],fa w,al s] (Gw (XW n a w s k0)):=by refine cA [.cell 6 52] func166 λb=>?_;unfold XW;refine aR ?_;refine⟨λh=>?_,λh=>?_⟩;have D:=QP n a s;rw[gi]at D;rw[ae h];unfold xz at D;unfold Gw;refine aa D<|ef;rw[iH h];refine⟨λh=>?_,λh=>?_⟩;have D:=QQ n a s;rw[gi]at D;rw[ae h];unfold xz at D;unfold Gw;refine aa D<|ef;rw[iH h];refine⟨λh=>?_,λh=>?_⟩;have D:=FX n a s;rw[gi]at D;rw[ae h];unfold xz at D;unfold Gw;refine aa D<|ef;rw[iH h];refine⟨λh=>?_,λh=>?_⟩;have D:=In n a s;rw[gi]at D;rw[ae h];unfold xz at D;unfold Gw;refine aa D<|ef;rw[iH h];refine⟨λh=>?_,λh=>?_⟩;have D:=DA n a s;rw[gi]at D;rw[ae h];unfold xz at D;unfold Gw;refine aa D<|ef;rw[iH h];unfold Gw PW;refine aR ?_;rfl
theorem PY(t:P0)(j:t.size<=2000000):AC prog 75 [.ag [al n,aE a,al p,aE c],fa w,fa t] (Gw (IB n a w t)):=by
 refine cA [.cell 6 52] func75 λs=>?_;have g:AC _ 81 _ (.tup [.im (al<|Gv t),.im _]):=qh t j;have k:=gQ t j;have h:AC prog 164 [fa t] (xz<|pxM t):=by have:=zS t j;rwa[pxR,zks]at this
 have d:AC prog 93 _ (xz<|exM<|Gv t):=pG<|Gv t;have e:=FY n a<|Gv t;have i:=PX n a p c w (Br t);rw[gi]at e;unfold IB;generalize pg _=o at *;generalize uq t=f at *;unfold xz at h d e;unfold Gw at i ⊢;cases m:(w.toList==(⟨#[99,111,109,112,108,101,120]⟩:P0).toList)with
 | true =>refine cZ m<|aa h ?_;exact mg m
 | false =>
   cases b:(w.toList==(⟨#[101,120,97,109,112,108,101]⟩:P0).toList)with
   | true =>
     have l:(w.toList==(⟨#[115,107,101,108,101,116,111,110]⟩:P0).toList)=false:=by simp_all
     refine iD m b l<|aa g ?_;cases o with
     | true =>refine iD m b l<|aa d ?_;exact xd3 m b l
     | false =>unfold PW;refine iD m b l ?_;rfl
   | false =>
     cases l:(w.toList==(⟨#[115,107,101,108,101,116,111,110]⟩:P0).toList)with
     | true =>
       refine iD m b l<|aa g ?_;cases o with
       | true =>refine iD m b l<|aa d ?_;refine iD m b l<|aa e ?_;exact xd3 m b l
       | false =>unfold PW;refine iD m b l ?_;rfl
     | false =>
       refine iD m b l<|aa k ?_;cases f with
       | true =>refine iD m b l<|aa i ?_;exact xd4 m b l @me
       | false =>unfold PW;refine iD m b l ?_;rfl
noncomputable def flM(n:Int)(a:N0)(w p q:P0):Md:=if(w.toList==(⟨#[102,108,105,112]⟩:P0).toList)=k0/\uq p=k0/\uq q=k0 then(k0,qn (fpB n a (Br p:Nat) (Br q:Nat)) n (fpF n.toNat (ao a) (Br p) (Br q)))else PW
noncomputable def ng(a:P0->P0->Md)(n:Int)(b:N0)(m:Int)(c:N0):Q0->Md
 | [w]=>Bc n b m c w
 | [w,t]=>a w t
 | [w,p,q]=>flM n b w p q
 | _=>PW
theorem zkr:LK (ng (Zy n a) n a p c d) (ng (IB n a) n a p c d):=by unfold ng;split;exact⟨rfl,λ_=>rfl⟩;exact zr5 n a _ _;exact⟨rfl,λ_=>rfl⟩;exact⟨rfl,λ_=>rfl⟩
theorem GI(f:∀m∈d,m.size<=2000000)(b:lh d<=2000001):AC prog 20 [.ag [al n,aE a,al p,aE c],zs3 d] (BI (ng (Zy n a) n a p c d)):=by
 refine cA [.cell 4 26,.tmp 5,.tmp 6] func20 λs=>?_
 match d,f,b with
 | [],_,_ =>unfold ng BI PW;refine aR ?_;rfl
 | [w],_,_ =>have D:=Cl n a p c w;rw[show ng _ n a p c [w]=Bc n a p c w from rfl];unfold BI at *;refine aR ?_;refine⟨kr,aa D ?_⟩;refine cZ @gJ ?_;rfl
 | [w,t],f,_ =>have D:=DO n a p c w t<|f t sp;rw[show ng _ n a p c _=Zy n a w t from rfl];unfold BI at *;refine aR ?_;refine⟨kr,aa D ?_⟩;refine cZ @gJ ?_;rfl
 | [w,m,q],f,_ =>have D:=QI n a (Br m)<|Br q;rw[show ng _ n a p c _=flM n a w m q from rfl];unfold flM;rw[gi]at D;unfold xz at D;unfold BI PW;refine aR<|aa (gP m) ?_;refine aR<|aa (gP q) ?_;refine aR ?_;refine⟨λh=>⟨λg=>⟨λi=>?_,λi=>?_⟩,λg=>?_⟩,λh=>?_⟩;rw[ae ⟨h,g,i⟩];refine aa D<|ef;rw[ac λe=>Bool.noConfusion<|i.symm.trans e.2.2];decide;rw[ac λe=>Bool.noConfusion<|g.symm.trans e.2.1];decide;rw[ac λe=>Bool.noConfusion<|h.symm.trans e.1];decide
 | _::_::_::_::l,_,b =>unfold ng BI PW;have c1:(((lh l+1+1+1+1:Nat):Int)==1)=false:=beq_eq_false_iff_ne.2 om;have c2:(((lh l+1+1+1+1:Nat):Int)==2)=false:=beq_eq_false_iff_ne.2 om;have o:(((lh l+1+1+1+1:Nat):Int)==3)=false:=beq_eq_false_iff_ne.2 om;simp only[↓gp,gq,simprocAttr,gT,c1,c2,o];rfl
theorem LJ(b:∀m∈d,m.size<=2000000)(f:lh d<=2000001):AC prog 26 [.ag [al n,aE a,al p,aE c],zs3 d] (Gw (ng (IB n a) n a p c d)):=by
 refine cA [.cell 4 52] func26 λs=>?_
 match d,b,f with
 | [],_,_ =>unfold ng Gw PW;refine aR ?_;rfl
 | [w],_,_ =>have D:=PZ n a p c w;rw[show ng _ n a p c [w]=Bc n a p c w from rfl];unfold Gw at *;refine aR ?_;refine⟨kr,aa D ?_⟩;refine cZ @me ?_;rfl
 | [w,t],b,_ =>have D:=PY n a p c w t<|b t sp;rw[show ng _ n a p c _=IB n a w t from rfl];unfold Gw at *;refine aR ?_;refine⟨kr,aa D ?_⟩;refine cZ @me ?_;rfl
 | [w,m,q],b,_ =>have D:=QJ n a (Br m)<|Br q;rw[show ng _ n a p c _=flM n a w m q from rfl];unfold flM;rw[gi]at D;unfold xz at D;unfold Gw PW;refine aR<|aa (gQ m<|b m sp) ?_;refine aR<|aa (gQ q<|b q sp) ?_;refine aR ?_;refine⟨λh=>⟨λg=>⟨λi=>?_,λi=>?_⟩,λg=>?_⟩,λh=>?_⟩;rw[ae ⟨h,g,i⟩];refine aa D<|ef;rw[ac λe=>Bool.noConfusion<|i.symm.trans e.2.2];decide;rw[ac λe=>Bool.noConfusion<|g.symm.trans e.2.1];decide;rw[ac λe=>Bool.noConfusion<|h.symm.trans e.1];decide
 | _::_::_::_::l,_,f =>unfold ng Gw PW;have c1:(((lh l+1+1+1+1:Nat):Int)==1)=false:=beq_eq_false_iff_ne.2 om;have c2:(((lh l+1+1+1+1:Nat):Int)==2)=false:=beq_eq_false_iff_ne.2 om;have o:(((lh l+1+1+1+1:Nat):Int)==3)=false:=beq_eq_false_iff_ne.2 om;simp only[↓gp,gq,simprocAttr,gT,c1,c2,o];rfl
end Go.Proofs.YtijabbemjaioeaaGreatDoor
namespace Go.Proofs.YtijabbemjaioeaaGreatDoor
open Bool renaming true→k0,false→l0
open Go renaming IntKind→D0
open List renaming range→lc,getD→lg,length→lh
open Go.Proofs.Tryz
open Go.Abs Go.Shelf
noncomputable def zcx(n:Int)(a:N0):P0:=if aS n a=k0 then PM ((xd n a).getD [])else⟨#[]⟩
theorem BD(n:Int)(a:N0):AC prog 174 [.ag [al n,aE a]] (.im (fa (zcx n a))):=by
 refine cA [.tmp 2] func174 λg=>?_;refine aR<|aa (bw n a) ?_;refine aR ?_;unfold zcx;refine⟨λb=>?_,λb=>aa (rj n a) ?_⟩;grind;rw[ae (ss b)];have f:=zhX n a;generalize xd n a=o at *;have d:!o.isSome=k0->o.getD []=[]:=λh=>by
  simp_all
 unfold PM;refine aR ?_;refine⟨λh=>⟨λc=>?_,λc=>aa (nX _ om) ?_⟩,λh=>?_⟩;grind;rw[ac<|by grind];exact ef;grind
theorem BE(n:Int)(a:N0):AC prog 59 [.ag [al n,aE a]] (.im (fa (zcx n a))):=by
 refine cA [.tmp 2] func59 λg=>?_;refine aR<|aa (aH n a) ?_;refine aR ?_;unfold zcx;refine⟨λb=>?_,λb=>aa (rl n a) ?_⟩;grind;rw[ae (ss b)];have f:=zhX n a;generalize xd n a=o at *;have d:!o.isSome=k0->o.getD []=[]:=λh=>by
  simp_all
 unfold PM;refine aR ?_;refine⟨λh=>⟨λc=>?_,λc=>aa (nW _ om) ?_⟩,λh=>?_⟩;grind;rw[ac<|by grind];exact ef;grind
end Go.Proofs.YtijabbemjaioeaaGreatDoor
namespace Go.Proofs.YtijabbemjaioeaaGreatDoor
open Bool renaming true→k0,false→l0
open Go renaming IntKind→D0
open List renaming range→lc,getD→lg,length→lh
open Go.Proofs.Tryz
open Go.Abs
variable (n:Int)(a:N0)(m:Int)(c:N0)
theorem zs0:fcR n a=gc (ci n a):=by unfold fcR;split;rename_i h;rw[mP h];rename_i h;simp[HS,ci,h]
noncomputable def hoT(n:Int)(a:N0):P0:=if aS n a=k0 then qw (ci n a)else⟨#[]⟩
theorem ze0(f:V0):lh (gc f)<=1048576:=by rw[eb];have:=eD f;omega
theorem zkq:lh (hVX n a)<=1048576/\∀x∈hVX n a,inI x:=by unfold hVX;split;exact⟨by rw[Df];have:=eD<|ao a;omega,XN a⟩;simp
theorem ze1:-448<=QY n a/\QY n a<=448:=by rw[QY,zec];have:=WH (co<|ci n a) _<|ab _;have:=Abs.ordN_len<|ci n a;omega
theorem zcH(n:Int)(a:N0):∀(r k:Nat),0<=exF n a k r/\exF n a k r<=k+r
 | 0,k=>by simp[exF]
 | r+1,k=>by have:=zcH n a r<|k+1;rw[exF];omega
theorem ze2:Xq n a<=720:=by unfold Xq;split;rename_i h;have⟨b,c,_⟩:=cY.1 h;exact aJ (aO _ _)<|zK _ om;omega
noncomputable def LH(n:Int)(a:N0)(m:Int)(b:N0)(w:P0):Bool×P0 :=
 if(w.toList==(⟨#[115,104,111,119]⟩:P0).toList)=k0 then(k0,Vn n a)
 else if(w.toList==(⟨#[100,101,115,99,114,105,98,101]⟩:P0).toList)=k0 then(k0,zpl n a)
 else if(w.toList==(⟨#[99,111,117,110,116,115]⟩:P0).toList)=k0 then(k0,pH (gc (ci n a)))
 else if(w.toList==(⟨#[104]⟩:P0).toList)=k0 then(k0,pH (hVX n a))
 else if(w.toList==(⟨#[104,111,108,101,115]⟩:P0).toList)=k0 then(k0,hoT n a)
 else if(w.toList==(⟨#[101,117,108,101,114]⟩:P0).toList)=k0 then(k0,dA (QY n a))
 else if(w.toList==(⟨#[109,105,115,115,105,110,103]⟩:P0).toList)=k0 then(k0,QZ n a)
 else if(w.toList==(⟨#[115,104,101,108,108,105,110,103]⟩:P0).toList)=k0 then(k0,zcx n a)
 else if(w.toList==(⟨#[102,114,101,101]⟩:P0).toList)=k0 then(k0,Vp (bl (eN (ci n a))))
 else if(w.toList==(⟨#[98,101,116,116,105]⟩:P0).toList)=k0 then(k0,zrU n a)
 else if(w.toList==(⟨#[107,105,110,100,115]⟩:P0).toList)=k0 then(k0,Qt n a)
 else if(w.toList==(⟨#[119,104,105,99,104]⟩:P0).toList)=k0 then(k0,dA (exR n a))
 else if(w.toList==(⟨#[97,108,105,107,101]⟩:P0).toList)=k0 then(k0,zrT (PA n a m b))
 else if(w.toList==(⟨#[115,121,109,109,101,116,114,105,101,115]⟩:P0).toList)=k0 then(k0,dA (Xq n a:Nat))
 else(l0,⟨#[]⟩)
def IA:P0:=⟨#[119,104,97,116]⟩
theorem GH(w:P0):AC prog 22 [.ag [al n,aE a,al m,aE c],fa w] (.tup [.im (fa (LH n a m c w).2),.im (aU (LH n a m c w).1)]):=by refine cA [.tmp 4,.tmp 5] func22 λg=>?_;have i:=ze1 n a;have j:=zcH n a 8 1;have k:=ze2 n a;have l:=vQ<|ci n a;have f:=zkq n a;unfold LH;refine aR ?_;refine⟨λh=>?_,λh=>?_⟩;rw[ae h];refine aa (kY n a) ?_;exact ef;rw[iH h];refine⟨λh=>?_,λh=>?_⟩;rw[ae h];refine aa (xn n a) ?_;exact ef;rw[iH h];refine⟨λh=>?_,λh=>?_⟩;rw[ae h];have b:=gw n a;rw[zs0]at b;refine aa (b) ?_;refine aR<|aa (iA (gc<|ci n a) (ze0 _)<|zV _) ?_;exact ef;rw[iH h];refine⟨λh=>?_,λh=>?_⟩;rw[ae h];have b:=Iv n a;refine aa (b) ?_;refine aR<|aa (iA (hVX n a) f.1 f.2) ?_;exact ef;rw[iH h];refine⟨λh=>?_,λh=>?_⟩;rw[ae h];have b:AC prog 56 _ (.im<|fa<|hoT n a):=GK n a;refine aa (b) ?_;exact ef;rw[iH h];refine⟨λh=>?_,λh=>?_⟩;rw[ae h];refine aa (KM n a) ?_;refine aR ?_;refine aa (db (n:=QY n a) om om) ?_;exact ef;rw[iH h];refine⟨λh=>?_,λh=>?_⟩;rw[ae h];refine aa (sZ n a) ?_;exact ef;rw[iH h];refine⟨λh=>?_,λh=>?_⟩;rw[ae h];refine aa (BE n a) ?_;exact ef;rw[iH h];refine⟨λh=>?_,λh=>?_⟩;rw[ae h];refine aa (Im n a) ?_;refine aR<|aa (xT (bl<|eN<|ci n a)<|by rw[ap];omega) ?_;exact ef;rw[iH h];refine⟨λh=>?_,λh=>?_⟩;rw[ae h];refine aa (Iy n a 2) ?_;have d:=XD<|Ci n a 2;unfold zrU;by_cases e:(Ci n a 2).size=0;rw[ay e]at d;rw[ae e];exact mg d;rw[aD e]at d;rw[ac e];exact mg d;rw[iH h];refine⟨λh=>?_,λh=>?_⟩;rw[ae h];refine aa (vK n a) ?_;exact ef;rw[iH h];refine⟨λh=>?_,λh=>?_⟩;rw[ae h];refine aa (Is n a) ?_;refine aR<|aa (db (n:=exR n a) (by unfold exR;omega)<|by unfold exR;omega) ?_;exact ef;rw[iH h];refine⟨λh=>?_,λh=>?_⟩;rw[ae h];refine aa (xR n m a c) ?_;refine aR<|aa (zQ<|PA n a m c) ?_;exact ef;rw[iH h];refine⟨λh=>?_,λh=>?_⟩;rw[ae h];refine aa (xh n a) ?_;refine aR ?_;refine aa (db om om) ?_;exact ef;rw[iH h];exact ef
theorem LI(w:P0):AC prog 78 [.ag [al n,aE a,al m,aE c],fa w] (.im (fa (if(LH n a m c w).1=k0 then(LH n a m c w).2 else IA))):=by refine cA [.tmp 4] func78 λe=>?_;have f:=ze1 n a;have g:=zcH n a 8 1;have i:=ze2 n a;have j:=vQ<|ci n a;have d:=zkq n a;unfold LH;refine aR ?_;refine⟨λh=>?_,λh=>?_⟩;rw[ae h];refine aa (sU n a) ?_;exact ef;rw[iH h];refine⟨λh=>?_,λh=>?_⟩;rw[ae h];refine aa (xm n a) ?_;exact ef;rw[iH h];refine⟨λh=>?_,λh=>?_⟩;rw[ae h];have b:=gt n a;refine aa (b) ?_;refine aR<|aa (iz (gc<|ci n a) (ze0 _)<|zV _) ?_;exact ef;rw[iH h];refine⟨λh=>?_,λh=>?_⟩;rw[ae h];have b:=HT n a;refine aa (b) ?_;refine aR<|aa (iz (hVX n a) d.1 d.2) ?_;exact ef;rw[iH h];refine⟨λh=>?_,λh=>?_⟩;rw[ae h];have b:AC prog 172 _ (.im<|fa<|hoT n a):=GJ n a;refine aa (b) ?_;exact ef;rw[iH h];refine⟨λh=>?_,λh=>?_⟩;rw[ae h];refine aa (xK n a) ?_;refine aR ?_;refine aa (cB (n:=QY n a) om om) ?_;exact ef;rw[iH h];refine⟨λh=>?_,λh=>?_⟩;rw[ae h];refine aa (sY n a) ?_;exact ef;rw[iH h];refine⟨λh=>?_,λh=>?_⟩;rw[ae h];refine aa (BD n a) ?_;exact ef;rw[iH h];refine⟨λh=>?_,λh=>?_⟩;rw[ae h];refine aa (qg n a) ?_;refine aR<|aa (zP (bl<|eN<|ci n a)<|by rw[ap];omega) ?_;exact ef;rw[iH h];refine⟨λh=>?_,λh=>?_⟩;rw[ae h];refine aa (KL n a) ?_;exact ef;rw[iH h];refine⟨λh=>?_,λh=>?_⟩;rw[ae h];refine aa (vL n a) ?_;exact ef;rw[iH h];refine⟨λh=>?_,λh=>?_⟩;rw[ae h];refine aa (It n a) ?_;refine aR<|aa (cB (n:=exR n a) (by unfold exR;omega)<|by unfold exR;omega) ?_;exact ef;rw[iH h];refine⟨λh=>?_,λh=>?_⟩;rw[ae h];refine aa (xQ n m a c) ?_;refine aR<|aa (Ch<|PA n a m c) ?_;exact ef;rw[iH h];refine⟨λh=>?_,λh=>?_⟩;rw[ae h];refine aa (xi n a) ?_;refine aR ?_;refine aa (cB om om) ?_;exact ef;rw[iH h];refine aR ?_;rfl
end Go.Proofs.YtijabbemjaioeaaGreatDoor
