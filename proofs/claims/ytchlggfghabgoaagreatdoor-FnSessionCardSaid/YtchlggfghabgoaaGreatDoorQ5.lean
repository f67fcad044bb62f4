/- DERIVED by an AI agent. -/
import Derived.Test.YtchlggfghabgoaaGreatDoorQ4
import Derived.Test.YtchlggfghabgoaaGreatDoorP2
set_option linter.all false
namespace Go.Proofs.YtchlggfghabgoaaGreatDoor
open Bool renaming true→k0,false→l0
open Option renaming some→n0,none→o0
open Go renaming IntKind→D0
open List renaming range→lc,replicate→ld,getD→lg,length→lh
open Go.Proofs.Tryz
open Go.Abs
variable (a:Q0)(n:Int)(m:Nat)(b:N0)(d:Int)(L:O0)(s:Nat)(j:Nat){l:N0}{i p:Nat}{z:Q0}{K:St->Prop}{f:FuncId}{g:M0}{e:RV->Prop}{w:P0}{c:St}{h:O0}{N:Bool}{k:Int}{o:Ent->St->Prop}{q:Int->Bool}
def Lw(a:N0)(i j:Nat):Bool:=(XQ a i).testBit j
theorem UN:lh (vT b s)=s:=by simp[vT]
theorem HZ(S:s<=6)(K:j<=6):∀(r i:Nat)(c:N0),i+r=j->lh c=j ->
 AM prog 329 [.own 1000000 1,.own 1000001 1,al i,al s] [⟨3,1,iL (vT b j)⟩,⟨3,1,iL c⟩] [iL (vT b j),iL (XT (Lw b) s r i c).2] (.bool (XT (Lw b) s r i c).1):=by
 intro r
 induction r with
 | zero =>
   intro i c L J
   refine AM.go (rs:=[.tmp 8]) tk mixed func329 rfl rfl rfl kr (ic (dJ _)<|ic (dJ _) mi) (ia (dJ _)<|ia (dJ _) mh) rfl λM=>?_
   have f:=UN b j
   refine cZ f ?_
   refine⟨λ_=>⟨rfl,rfl⟩,λh=>absurd h<|by rw[show(i:Int)=j by omega];simp⟩
 | succ r N =>
   intro i c L J
   refine AM.go (rs:=[.tmp 8]) tk mixed func329 rfl rfl rfl kr (ic (dJ _)<|ic (dJ _) mi) (ia (dJ _)<|ia (dJ _) mh) rfl λM=>?_
   have f:=UN b j
   refine cZ f ?_
   refine⟨λh=>absurd (beq_iff_eq.1 h) om,λ_=>?_⟩
   refine az (λ((x,d):Nat×N0) k=>(k.sl 0=.own 1000000 1/\k.rw 1000000=⟨1,.sli 3 1 l0<|iL<|vT b j⟩/\k.sl 1=.own 1000001 1/\k.rw 1000001=⟨1,.sli 3 1 l0<|iL d⟩/\k.sl 2=al i/\k.sl 3=al s/\k.sl 9=al x)/\(x<=s/\d.length=j/\cfL (λx c=>yg (Lw b) i x c i) i (XT (Lw b) s r<|i+1) (s-x) x d=XT (Lw b) s (r+1) i c)) (λ(x,d)=>s-x) ((0,c)) ⟨nm,⟨aB _,J,rfl⟩⟩ ?_
   intro(x,d) U ⟨w,B⟩
   have⟨P,l,a⟩:=B
   refine iD w f l ?_
   refine⟨λC=>?_,λC=>?_⟩
   have g:i<j:=om;have D:s-x=(s-(x+1))+1:=om;rw[D,cfL]at a;have E:=zon (gs:=b) g;have q:yg (Lw b) i x d 0=true:=rfl;refine az (λ(n:Nat)k=>(k.sl 0=.own 1000000 1/\k.rw 1000000=⟨1,.sli 3 1 l0<|iL<|vT b j⟩/\k.sl 1=.own 1000001 1/\k.rw 1000001=⟨1,.sli 3 1 l0<|iL d⟩/\k.sl 2=al i/\k.sl 3=al s/\k.sl 9=al x/\k.sl 10=aU (yg (Lw b) i x d n)/\k.sl 11=al n)/\(n<=i)) (λn=>i-n) (0) ⟨(gE w q),aB _⟩ ?_;intro n V ⟨m,Q⟩;refine iD m f l ?_;refine⟨λy=>?_,λy=>?_⟩
   have F:D0.u64.wrap (n:Int)=(n:Int):=dm om;have t:(fu .i64 (wH .i64 ((XQ b i:Nat):Int) (n:Int)) 1==1)=Lw b i n:=CL (by have:=zml b i;omega) om;have o:=zbT (Lw b) i x d n;refine Cn m f l F E t ?_;refine⟨g,g,λz=>⟨om,om,λG=>?_,λG=>?_⟩,λz=>?_⟩
   have e:yg (Lw b) i x d (n+1)=false:=by rw[o,z,ay<|beq_iff_eq.1 G];simp
   exact ah (n+1) ⟨(fB m e<|ak y om),om⟩
   have e:yg (Lw b) i x d (n+1)=yg (Lw b) i x d n:=by rw[o,z,aD<|beq_eq_false_iff_ne.1 G];simp
   exact ah (n+1) ⟨(fB m e<|ak y om),om⟩
   have e:yg (Lw b) i x d (n+1)=yg (Lw b) i x d n:=by rw[o,z];simp
   exact ah (n+1) ⟨(fB m e<|ak y om),om⟩
   have:n=i:=om;subst this;refine⟨λp=>?_,λp=>?_⟩
   have p:yg (Lw b) n x d n=false:=ss p
   rw[ac<|by rw[p];decide]at a;exact ah ((x+1,d)) ⟨(fB w m<|ak C om),⟨by dsimp only;omega,l,a⟩⟩
   have p:yg (Lw b) n x d n=true:=ss p
   rw[ae p]at a;have u:lh (d.set n (x:Int))=j:=by rw[de];exact l
   have H:=N (n+1) (d.set n x) om u;have I:=WV (Lw b) s j r (n+1) (d.set n x) u;have R:D0.i64.wrap ((n:Int)+1)=((n+1:Nat):Int):=ak g om;rw[R];refine⟨g,g,oJ H [(1000000,1),(1000001,1)] (by repeat (first|exact GiveL.nil|refine GiveL.v ?_|refine GiveL.clo ?_|refine GiveL.own 0 rfl ?_|refine GiveL.own 1 rfl ?_|refine GiveL.ag ?_ ?_)) ⟨by simp only[gr,simprocAttr,m],by simp only[gr,simprocAttr,m],trivial⟩ dc ?_⟩;refine cZ m ?_;refine⟨λA=>?_,λA=>?_⟩
   rw[ae A]at a;rw[<- a,A];exact⟨rfl,rfl⟩
   rw[ac<|by rw[A];decide]at a;exact ah ((x+1,(XT (Lw b) s r (n+1)<|d.set n (x:Int)).2)) ⟨(fB w m<|ak C om),⟨by dsimp only;omega,I,a⟩⟩
   have e:s-x=0:=om;rw[e,cfL]at a;rw[<- a];exact⟨rfl,rfl⟩
def UO(a:N0)(i j:Nat):Bool:=ao a (2^i+2^j)
noncomputable def Yf(n:Int)(a:N0)(k:Int):Option N0:=if aS n a=k0/\(1<=k/\k<=6)then Lx (UO a) k.toNat n.toNat []else o0
theorem zt1{e a:W0}{m:Nat}(h:∀j,j<m->e i j=a i j)(c:N0):yg e i p c m=yg a i p c m:=by unfold yg;grind
theorem UP{ok a:V0}{g b:Nat->Option N0}(c:∀x,ok x=a x)(d:∀x,g x=b x):∀m x,fdL ok g m x=fdL a b m x
 | 0,_=>rfl
 | m+1,x=>by rw[fdL,fdL,c,d,UP c d m<|x+1]
theorem znT{b a:W0}{n:Nat}(k:Nat)(h:∀i j,i<n->j<i->b i j=a i j):∀(r:Nat)(head:N0),lh head+r=n->Lx b k r head=Lx a k r head
 | 0,_,_=>rfl
 | r+1,head,d=>UP (λx=>zt1 (λj c=>h _ j om c) _) (λx=>znT k h r _<|by grind) k 0
theorem zqW:∀s,s<64->∀i,i<6->∀j,j<6->(!(aQ s==2)||!s.testBit i||!s.testBit j||!decide (i≠j)||(s==2^i+2^j))=true:=by decide +kernel
theorem zqX:∀i,i<6->∀j,j<6->(!decide (i≠j)||(decide (2^i+2^j<64)&&(aQ (2^i+2^j)==2)&&(2^i+2^j).testBit i&&(2^i+2^j).testBit j))=true:=by decide +kernel
theorem zvP(c:aS (i:Int) l=k0)(r:i<=6){j:Nat}(t:p<i)(u:j<p):Lw (goL i l) p j=UO l p j:=by
 have e:goL (i:Int) l=bl _:=ae c;have a:∀x∈goL (i:Int) l,x.toNat<64:=λx a=>by rw[e]at a;obtain⟨s,d,rfl⟩:=List.mem_map.1 a;simpa using(fI.1 d).1
 unfold Lw UO;rw[Wj _ _ _ a,e,aZ];rw[adj,cS];have f:=zqX p om j om;constructor;rintro⟨x,a,h⟩;obtain⟨s,d,rfl⟩:=List.mem_map.1 a;obtain⟨g,k,m⟩:=fI.1 d;have:=zqW s g p om j om;grind;intro h;rw[ay om]at f;obtain⟨⟨⟨n,o⟩,b⟩,q⟩:((2^p+2^j<64/\aQ _=2)/\(2^p+2^j).testBit p=k0)/\(2^p+2^j).testBit j=true:=ss f;refine⟨((2^p+2^j:Nat):Int),List.mem_map.2 ⟨_,fI.2 ⟨n,h,o⟩,rfl⟩,?_⟩;grind
theorem zw:AC prog 290 [.ag [al n,aE b],al d] (.tup [.fr 3 1 (iL ((Yf n b d).getD [])),.im (aU (Yf n b d).isSome)]):=by
 refine cA [.tmp 4,.tmp 5] func290 λG=>?_;refine aR<|aa (OS n b) ?_;refine aR ?_;have k:¬(aS n b=k0/\(1<=d/\d<=6))->[]=iL ((Yf n b d).getD [])/\(Yf n b d).isSome=false:=λh=>by rw[show Yf n b d=o0 from ac h];decide
 refine⟨λg=>⟨λu=>⟨λw=>k λh=>om,λw=>?_⟩,λu=>k λh=>om⟩,λg=>k λh=>by grind⟩;have a:=ss g;have r:=cY.1 a;obtain⟨m,rfl⟩:∃m:Nat,n=m:=⟨n.toNat,by have:=r.1;omega⟩;obtain⟨q,rfl⟩:∃q:Nat,d=q:=⟨d.toNat,om⟩;have e:m<=6:=by have:=r.2.1;omega
 have y:goN _ b=m:=ae a;have z:Yf m b q=Lx (Lw<|goL m b) q m []:=by rw[Yf,ae ⟨a,om,om⟩,ar,ar];exact(znT q (λi j A B=>zvP a e A B) m [] sp).symm
 have o:∀x∈goL _ b,0<=x/\x<64:=λx p=>by rw[show goL _ b=bl _ from ae a]at p;obtain⟨s,C,rfl⟩:=List.mem_map.1 p;have:=(fI.1 C).1;omega
 rw[y,z];obtain⟨D,E⟩:=zt2 (Lw<|goL m b) q m;refine⟨om,om,om,aa (Ds m e _ o) ?_⟩;have c:=HZ (goL m b) q m om e m 0 (ld m 0) om sp;generalize goL _ b=t at *;refine aR ?_;refine oJ c [(28,1),(26,1)] (by repeat (first|exact GiveL.nil|refine GiveL.v ?_|refine GiveL.clo ?_|refine GiveL.own 0 rfl ?_|refine GiveL.own 1 rfl ?_|refine GiveL.ag ?_ ?_)) ⟨by simp[gr],by simp[gr],trivial⟩ dc ?_;refine aR ?_;refine⟨λf=>?_,λf=>?_⟩;cases F:Lx (Lw t) q m []with
 | none=>decide
 | some l=>grind
 grind
theorem OR(u:aS (m:Int) b=k0)(hk:s<=6):∀(r:Nat)(head:N0),lh head+r=m ->
 AF prog 372 [.ag [al m,aE b],al s] (iL head) 3 (iL ((Lx (UO b) s r head).getD [])) (Lx (UO b) s r head).isSome:=by
 have W:m<=6:=by have:=(cY.1 u).2.1;omega
 have K:=dM u
 intro r
 induction r with
 | zero =>
   intro head X
   unfold AF
   refine RY [.tmp 6,.tmp 7] func372 λY L z i q=>?_
   have D:z.sl 0=.ag [al m,aE b]:=by rw[i];rfl
   have E:z.sl 1=al s:=by rw[i];rfl
   have F:z.sl 2=.own 1000000 1:=by rw[i];rfl
   have w:z.rw 1000000=⟨1,.sli 3 1 l0 (iL head)⟩:=by rw[q,uD]
   have G:∀j,j<1000000->z.rw j=⟨0,.dead⟩:=λj p=>by rw[q,GV _ _ om]
   clear i q
   refine nN D E F w G ?_
   refine⟨λ_=>⟨1000000,1,.inl rfl,rfl,by simp only[gr,simprocAttr,w];rfl⟩,λh=>?_⟩
   rw[bc]at h
   exact absurd om h
 | succ r Z =>
   intro head X
   unfold AF
   refine RY [.tmp 6,.tmp 7] func372 λY L z i q=>?_
   have D:z.sl 0=.ag [al m,aE b]:=by rw[i];rfl
   have E:z.sl 1=al s:=by rw[i];rfl
   have F:z.sl 2=.own 1000000 1:=by rw[i];rfl
   have w:z.rw 1000000=⟨1,.sli 3 1 l0 (iL head)⟩:=by rw[q,uD]
   have G:∀j,j<1000000->z.rw j=⟨0,.dead⟩:=λj p=>by rw[q,GV _ _ om]
   clear i q
   refine nN D E F w G ?_
   have M:((lh head:Int)==(m:Int))=false:=by rw[bc];omega
   refine⟨λh=>absurd (M.symm.trans h) dc,λ_=>?_⟩
   refine az (λ(x:Nat)k=>(k.sl 1=al s/\k.sl 2=.own 1000000 1/\k.rw 1000000=⟨1,.sli 3 1 l0 (iL head)⟩/\k.sl 3=.ref 3 1 0/\k.rw 3=⟨1,.box 31 [al m,aE b]⟩/\k.sl 8=al (lh head)/\k.sl 9=al x)/\(x<=s/\fdL (λx=>yg (UO b) (lh head) x head (lh head)) (λx=>Lx (UO b) s r (head++[(x:Int)])) (s-x) x=Lx (UO b) s (r+1) head)) (λx=>s-x) (0) ⟨(DM D E F w G),⟨aB _,rfl⟩⟩ ?_
   intro x sa ⟨H,N⟩
   have⟨a0,d⟩:=N
   refine cZ H ?_
   refine⟨λO=>?_,λO=>?_⟩
   rw[show s-x=(s-(x+1))+1 by omega,fdL]at d;have y:yg (UO b) (lh head) x head 0=true:=rfl;refine az (λ(j:Nat)k=>(k.sl 1=al s/\k.sl 2=.own 1000000 1/\k.rw 1000000=⟨1,.sli 3 1 l0 (iL head)⟩/\k.sl 3=.ref 3 1 0/\k.rw 3=⟨1,.box 31 [al m,aE b]⟩/\k.sl 8=al (lh head)/\k.sl 9=al x/\k.sl 10=aU (yg (UO b) (lh head) x head j)/\k.sl 11=al j)/\(j<=lh head)) (λj=>lh head-j) (0) ⟨(gE H y),aB _⟩ ?_;intro j sb ⟨n,a1⟩;refine cZ n ?_;refine⟨λp=>?_,λp=>?_⟩
   have f:=zbT (UO b) (lh head) x head j;have P:D0.u64.wrap (j:Int)=(j:Int):=dm om;have A:D0.u64.wrap (lh head:Int)=(lh head:Int):=dm om;have a2:2^j<=2^4:=aV dc om;have a3:2^head.length<=2^5:=aV dc om;have t:jl .i64 1 (j:Int)=((2^j:Nat):Int):=eh om;have g:jl .i64 1 (lh head:Int)=((2^head.length:Nat):Int):=eh om;have V:D0.i64.wrap (((2^head.length:Nat):Int)+((2^j:Nat):Int))=((2^head.length+2^j:Nat):Int):=by clear t g f;generalize 2^j=a at *;generalize 2^head.length=c at *;rw[aF om om];omega
   refine Cn n P A t g V ?_;have Q:2^head.length+2^j<64:=by clear t g V f;generalize 2^j=a at *;generalize 2^head.length=c at *;omega
   refine⟨λI=>⟨p,p,λR=>aa (jB m b _ K Q) ?_,λR=>?_⟩,λI=>?_⟩
   have e:yg (UO b) (lh head) x head (j+1)=!ao b (2^head.length+2^j):=by rw[f,I,ay (show lg head j 0=(x:Int)by simpa using R),au,nM];rfl
   refine cZ n ?_;exact ah (j+1) ⟨(fB n e (ak p om)),om⟩
   have e:yg (UO b) (lh head) x head (j+1)=true:=by rw[f,I,aD (show ¬head.getD j 0=(x:Int) from bne_iff_ne.1 R)];simp
   exact ah (j+1) ⟨(fB n e (ak p om)),om⟩
   have e:yg (UO b) (lh head) x head (j+1)=false:=by rw[f,I];rfl
   exact ah (j+1) ⟨(fB n e (ak p om)),om⟩
   have B:j=lh head:=om;refine⟨λo=>?_,λo=>?_⟩
   have o:yg (UO b) (lh head) x head (lh head)=false:=by rw[B]at o;simpa using o
   rw[ac (by rw[o];decide)]at d;exact ah (x+1) ⟨(fB H n (ak O om)),⟨om,d⟩⟩
   have o:yg (UO b) (lh head) x head (lh head)=true:=by rw[B]at o;simpa using o
   rw[ae o]at d;have S:=Z (head++[(x:Int)]) (by rw[aA,cG];omega);refine⟨kr,om,om,Zn S (λ_ _ _ _=>.ag (.one (.v _) (.one (.sl _ _ _) .nil)) (.one (.v _) .nil)) rfl (by simp only[gr,simprocAttr];rw[show iL (head++[(x:Int)])=iL head++iL [(x:Int)] from by simp[iL]]<;>rfl) (dJ _) dc dc ?_⟩;refine cZ n ?_;refine⟨kr,λJ=>?_,λJ=>?_⟩
   have⟨l,C⟩:=Option.isSome_iff_exists.1 J;rw[C]at d;rw[<- d,C];exact⟨64,_,.inr dc,rfl,gl⟩
   have e0:Lx (UO b) s r (head++[(x:Int)])=none:=by
    cases U:Lx (UO b) s r (head++[(x:Int)])with
    | none=>rfl
    | some l=>rw[U]at J;cases J
   rw[e0]at d;exact ah (x+1) ⟨(fB H n (ak O om)),⟨om,d⟩⟩
   rw[show s-x=0 by omega,fdL]at d;rw[<- d];exact⟨69,_,.inr dc,rfl,by simp only[gr,simprocAttr];rfl⟩
theorem zu:AC prog 338 [.ag [al n,aE b],al d] (.tup [.fr 3 1 (iL ((Yf n b d).getD [])),.im (aU (Yf n b d).isSome)]):=by
 refine cA [.tmp 4,.tmp 5] func338 λw=>?_;refine aR<|aa (bw n b) ?_;refine aR ?_;have c:¬(aS n b=k0/\(1<=d/\d<=6))->[]=iL ((Yf n b d).getD [])/\(Yf n b d).isSome=false:=λh=>by rw[show Yf n b d=o0 from ac h];decide
 refine⟨λf=>aa (fe _ _ _) ?_,λf=>c λh=>by grind⟩;refine aR ?_;refine⟨λh=>(c λg=>by grind),λh=>?_⟩;have a:=ss f;have j:=ss h;have l:=cY.1 a;obtain⟨m,rfl⟩:∃m:Nat,n=m:=⟨n.toNat,by have:=l.1;omega⟩;obtain⟨q,rfl⟩:∃q:Nat,d=q:=⟨d.toNat,om⟩;have p:Yf m b q=Lx (UO b) q m []:=by simp_all[Yf,ar]
 rw[p];have s:=OR m b q a om m [] sp;refine zg4 s (λ_ _=>.ag (.one (.v _)<|.one (.sl _ _ _) .nil)<|.one (.v _) .nil) rfl (rfl) (dJ _) dc λS x r t k e u i=>?_;rcases t with rfl|rfl
 exact DL k e;exact DL k e
theorem FO:-2<=gD n b/\gD n b<=5:=by by_cases a:mr n b=k0;have:=Dn a;have:=eD<|ao b;omega;rw[show gD n b=-2 from ac a];omega
noncomputable def Sp(n:Int)(a:N0):Nat->Int->Int
 | 0,_=>0
 | m+1,k=>if(Yf n a k).isSome=k0 then k else Sp n a m (k+1)
theorem Dg:AC prog 220 [.ag [al n,aE b]] (.im (al (Sp n b 6 1))):=by
 refine cA [.tmp 2] func220 λi=>?_;refine aR ?_;refine az (λ(k:Nat)s=>(s.sl 1=.ref 1 1 0/\s.rw 1=⟨1,.box 31 _⟩/\s.sl 3=al (k+1))/\(k<=6/\Sp n b (6-k) (k+1)=Sp n b 6 1)) (λk=>6-k) 0 ⟨nm,⟨aB _,rfl⟩⟩ ?_;intro k j ⟨d,e⟩;have⟨l,a⟩:=e;refine cZ d ?_;refine⟨λh=>?_,λh=>?_⟩;rw[show 6-k=(6-(k+1))+1 by omega,Sp]at a;refine aa (zw n b _)<|cZ d ?_;refine⟨λf=>?_,λf=>?_⟩;grind;rw[ac<|by grind]at a;have g:D0.i64.wrap (k+1+1)=((k+1:Nat))+1:=by rw[aF om om];rfl
 have c:Sp n b (6-(k+1)) (((k+1:Nat))+1)=Sp n b 6 1:=by grind
 exact ah _ ⟨(gE d g),⟨om,c⟩⟩;rw[show 6-k=0 by omega,Sp]at a;grind
theorem Dh:AC prog 304 [.ag [al n,aE b]] (.im (al (Sp n b 6 1))):=by
 refine cA [.tmp 2] func304 λi=>?_;refine aR ?_;refine az (λ(k:Nat)s=>(s.sl 1=.ref 1 1 0/\s.rw 1=⟨1,.box 31 _⟩/\s.sl 3=al (k+1))/\(k<=6/\Sp n b (6-k) (k+1)=Sp n b 6 1)) (λk=>6-k) 0 ⟨nm,⟨aB _,rfl⟩⟩ ?_;intro k j ⟨d,e⟩;have⟨l,a⟩:=e;refine cZ d ?_;refine⟨λh=>?_,λh=>?_⟩;rw[show 6-k=(6-(k+1))+1 by omega,Sp]at a;refine aa (zu n b _)<|cZ d ?_;refine⟨λf=>?_,λf=>?_⟩;grind;rw[ac<|by grind]at a;have g:D0.i64.wrap (k+1+1)=((k+1:Nat))+1:=by rw[aF om om];rfl
 have c:Sp n b (6-(k+1)) (((k+1:Nat))+1)=Sp n b 6 1:=by grind
 exact ah _ ⟨(gE d g),⟨om,c⟩⟩;rw[show 6-k=0 by omega,Sp]at a;grind
noncomputable def WT(n:Int)(a:N0):Bool:=mr n a&&decide (Sp n a 6 1=max (gD n a+1) 1)
theorem FP:AC prog 127 [.ag [al n,aE b]] (.im (aU (WT n b))):=by
 refine cA [.tmp 2] func127 λg=>?_;refine aR<|aa (aH n b) ?_;refine aR ?_;unfold WT;refine⟨λa=>⟨λc=>?_,λc=>⟨kr,aa (Dg n b) ?_⟩⟩,λa=>?_⟩;rw[show mr n b=l0 from Bool.eq_false_iff.2 λh=>by have:=(fR.1 h).2;grind];rfl;have d:=fR.2 ⟨ss a,ov λe=>by grind⟩;have i:=FO n b;have f:D0.i64.wrap _=gD n b+1:=aF om om;refine aR<|aa (mQ n b) ?_;refine cZ f ?_
 grind
 rw[show mr n b=l0 from Bool.eq_false_iff.2 λh=>by have:=(fR.1 h).1;grind];rfl
theorem FQ:AC prog 258 [.ag [al n,aE b]] (.im (aU (WT n b))):=by
 refine cA [.tmp 2] func258 λf=>?_;refine aR ?_;refine⟨kr,aa (gZ n b) ?_⟩;refine aR ?_;unfold WT;refine⟨λh=>aa (Dh n b) ?_,λh=>?_⟩;have a:=aC λd=>by rw[show gD n b=-2 from ac d]at h;omega
 have g:=FO n b;have c:D0.i64.wrap _=gD n b+1:=aF om om;refine aR<|aa (gZ n b) ?_;refine cZ c<|aa (DS _ _) ?_;refine cZ c ?_
 grind
 rw[show mr n b=l0 from Bool.eq_false_iff.2 λa=>by have:=Dn a;have⟨_,_,_,_,_,e,_⟩:=FT a;have i:0<cv (ao b):=(by have:=rz 64 0 dc e;unfold cv;omega);omega];rfl
theorem Bs(e:m<18446744073709551616)(g:s<64)(f:j<64):AC prog 197 [al j,.eref l0 [dv m] 0,.eref l0 [al s] 0] (.im (aU (pB m.testBit s j))):=by
 refine cA [.tmp 4] func197 λi=>?_;have c:gU _ _ _=((s ^^^ (s&&&j):Nat)):=fv om om;have d:((((s ^^^ (s&&&j)):Int)) != 0)=!(j&&&s==s):=by have:=gW (a:=s) (b:=j);grind
 refine ff c d<|aa (ez m _ e f) ?_;refine ff c d ?_;unfold pB;grind
theorem jC(f:V0)(s:Nat)(b:s<64):AC prog 101 [dv (bA f 64:Nat),al s] (.im (dv (bA (pB f s) 64:Nat))):=by refine cA [.tmp 4] func101 λd=>?_;have c:=dj f 64;refine aR<|aa (gF 6 om _ _ _ (λrw=>rfl) λt a=>Bs _ s t om b om) ?_;rw[oq (w':=pB f s) om λt a=>by simp_all[pB,ek]];exact ef
noncomputable def HY(a:N0)(p:Nat):N0:=bl (dI (hU (qU a (2^p))) k0)
noncomputable def WO(a:N0)(p:Nat):N0:=bl (dI (pB (ao a) (2^p)) k0)
noncomputable def zs(a:N0)(p:Nat):Bool:=ao a (2^p)&&(HY a p).all λs=>!decide (s∈WO a p)
def rD(a:N0):Nat:=bA (ao a) 64
theorem zbS:rD b<18446744073709551616:=by have:=dj (ao b) 64;simp_all[rD]
theorem p64(b:i<6):2^i<64:=by have:=bN (a:=2) dc b;omega
theorem WP(h:aS k l=k0):bl (dI (rD l).testBit k0)=l:=by
 conv=>rhs;rw[xe h]
 exact cV bl<|je (λs b=>ek _ b) _
theorem zt(h:aS (i:Int) l=k0)(b:p<6):aS (i:Int) (HY l p)=true:=OV h<|p64 b
theorem OQ(h:aS (i:Int) l=k0)(p:Nat):aS (i:Int) (WO l p)=true:=have⟨b,c,_⟩:=cY.1 h;Xm b c<|Xo (nV h) _
theorem WQ(h:aS (i:Int) l=k0)(b:p<6)(t:Nat):ao (HY l p) t=dL (ao l) (2^p) t:=congrFun (OT h<|p64 b) t
theorem WR(h:aS (i:Int) l=k0)(t:Nat)(b:p<64):ao (WO l t) p=pB (ao l) (2^t) p:=by have⟨c,d,_⟩:=cY.1 h;have:=Xn c d (Xo (nV h)<|2^t) p b;unfold ci at this;have e:=OQ h t;simp_all[WO]
theorem znS(h:aS (i:Int) l=k0)(b:p<6):bA (dL (ao l) (2^p)) 64=rD (HY l p):=gu λt _=>(WQ h b t).symm
theorem zsK(h:aS (i:Int) l=k0)(p:Nat):bA (pB (ao l) (2^p)) 64=rD (WO l p):=gu λt b=>(WR h p om).symm
theorem JD(a:i<lh l)(h:q (lg l i 0)=l0):l.all q=false:=by grind
theorem FM(a:i<lh l):(l.take (i+1)).all q=((l.take i).all q&&q (lg l i 0)):=by simp[bj 0 a]
theorem WS(h:aS (m:Int) b=k0)(g:s<6):AC prog 327 [dv (rD b),al s] (.im (aU (zs b s))):=by refine cA [.tmp 4] func327 λt=>?_;have i:=p64 g;have k:=zbS b;have e:D0.u64.wrap (s:Int)=(s:Int):=dm om;have f:jl .i64 1 (s:Int)=((2^s:Nat):Int):=eh om;have q:(rD b).testBit (2^s)=ao b (2^s):=ek _ i;refine ff e f<|aa (ez (rD b) _ k i) ?_;rw[q];refine ff e f ?_;unfold zs;refine⟨λc=>?_,λc=>aa (jC (ao b) _ i) ?_⟩;grind;have c:ao b (2^s)=true:=ss c;rw[zsK h,c,au];refine aR<|aa (mS _<|zbS _) ?_;rw[WP<|OQ h s];refine aR<|aa (jR (ao b) _ i) ?_;rw[znS h g];refine aR<|aa (mS _<|zbS _) ?_;rw[WP<|zt h g];have r:=fH<|zt h g;generalize HY b s=L at *;generalize WO b s=D at *;refine aR ?_;refine az (λ(j:Nat)p=>(p.sl 6=.own 19 1/\p.rw 19=⟨1,.sli 3 1 l0<|iL D⟩/\p.sl 23=.own 23 1/\p.rw 23=⟨1,.sli 3 1 l0<|iL L⟩/\p.sl 24=al (lh L)/\p.sl 25=al j)/\(j<=lh L/\(L.take j).all (λp=>!decide (p∈D))=k0)) (λj=>lh L-j) (0) ⟨nm,⟨aB _,rfl⟩⟩ ?_;intro j u ⟨l,n⟩;have⟨w,a⟩:=n;refine cZ l ?_;refine⟨λd=>⟨d,d,aa (tK _ _) ?_⟩,λd=>?_⟩;refine cZ l ?_;refine⟨λo=>?_,λo=>?_⟩;rw[JD d<|by rw[ay o];rfl];exact ah (j+1) ⟨(gE l<|ak d om),⟨om,by rw[FM d,a,aD o];rfl⟩⟩;grind
theorem FN(h:aS (m:Int) b=k0)(A:s<m):AC prog 371 [.ag [al m,aE b],al s] (.im (aU (zs b s))):=by
 refine cA [.tmp 4] func371 λB=>?_;have⟨e,C,_⟩:=cY.1 h;have g:s<6:=om;have n:=p64 g;have c:D0.u64.wrap (s:Int)=(s:Int):=dm om;have d:jl .i64 1 (s:Int)=((2^s:Nat):Int):=eh om;have i:D0.i64.wrap ((m:Int)-1)=(m:Int)-1:=aF om om;have k:=dM h;refine aR<|aa (bw m b) ?_;have o:(decide ((0:Int)<=(s:Int))&&decide ((s:Int)<=(m:Int)-1))=true:=by rw[aj,aq,aq];omega
 refine ff h i<|aa (fe _ _ _) ?_;rw[o];refine ox h i c d<|aa (jB m b _ k n) ?_;refine ox h i c d ?_;unfold zs;refine⟨λf=>?_,λf=>?_⟩;grind;have f:ao b (2^s)=true:=ss f;have w:=fH h;rw[f,au];refine aa (lQ m b _ n k om) ?_;refine ox h i c d<|aa (ky m b _ n) ?_;have l:ci (m:Int) b=ao b:=by funext t;unfold ci;rw[h,au]
 rw[l];have x:=fH<|zt h g;refine ox h i c d ?_;have y:bl (dI (hU<|qU b<|2^s) k0)=HY b s:=rfl;have z:bl (dI (pB (ao b)<|2^s) k0)=WO b s:=rfl;rw[y,z];generalize HY b s=L at *;generalize WO b s=D at *;refine az (λ(j:Nat)p=>(p.sl 5=.ref 5 1 0/\p.rw 5=⟨1,.box 31 [al m,.own 31 1]⟩/\p.rw 31=⟨1,.sli 3 1 l0<|iL L⟩/\p.sl 6=.ref 6 1 0/\p.rw 6=⟨1,.box 31 [al m,.own 36 1]⟩/\p.rw 36=⟨1,.sli 3 1 l0<|iL D⟩/\p.sl 7=al j)/\(j<=lh L/\(L.take j).all (λp=>!decide (p∈D))=k0)) (λj=>lh L-j) (0) ⟨nm,⟨aB _,rfl⟩⟩ ?_;intro j E ⟨q,r⟩;have⟨F,a⟩:=r;refine cZ q ?_;refine⟨λe=>?_,λe=>?_⟩;refine⟨kr,e,e,aa (mO _ _) ?_⟩;refine cZ q ?_;refine⟨λu=>?_,λu=>?_⟩;rw[JD e<|by rw[ay u];rfl];exact ah (j+1) ⟨(gE q<|ak e om),⟨om,by rw[FM e,a,aD u];rfl⟩⟩;grind
noncomputable def tL(a:N0):Nat:=lh ((lc 6).filter λp=>ao a (2^p))
noncomputable def HX:Nat->N0->Bool
 | 0,_=>k0
 | r+1,a=>decide (lh a<=1)||(lc 6).any λp=>zs a p&&HX r (HY a p)&&HX r (WO a p)
theorem zjA:HX (m+1) b=(decide (lh b<=1)||(lc 6).any λp=>zs b p&&HX m (HY b p)&&HX m (WO b p)):=rfl
noncomputable def FL(a:N0):Bool:=HX 7 a
theorem WM{a b:V0}{p:Nat}:∀{l:O0},(∀q∈l,a q=k0->b q=k0)->p∈l->b p=k0->a p=l0->lh (l.filter a)<lh (l.filter b)
 | [],_,h,_,_=>by grind
 | x::l,h,c,e,f=>by
   have i:lh (l.filter a)<=(l.filter b).length:=by
    have:l.filter a=(l.filter b).filter a:=by rw[ou];refine eM λq d=>?_;simp_all
    grind
   rcases List.mem_cons.1 c with rfl|c;grind;have g:=WM (λq d=>h q<|dd _ d) c e f;grind
theorem zhM:tL b<=6:=aO _<|lc 6
theorem zbQ(h:aS (i:Int) l=k0)(b:p<6)(c:ao l (2^p)=k0):tL (HY l p)<tL l:=by refine WM (λq d e=>?_) (List.mem_range.2 b) c ?_;rw[WQ h b]at e;unfold dL at e;rw[aj]at e;exact pZ e.2 (bB λa=>by grind);simp[WQ h b,dL]
theorem zbR(h:aS (i:Int) l=k0)(b:p<6)(c:ao l (2^p)=k0):tL (WO l p)<tL l:=by refine WM (λq d e=>?_) (List.mem_range.2 b) c ?_;rw[WR h p<|p64<|List.mem_range.1 d]at e;simp_all[pB];simp[WR h p<|p64 b,pB]
theorem zq(h:zs l i=k0):ao l (2^i)=true:=by simp_all[zs]
theorem any_eq{a b:V0}(l:∀q∈h,a q=b q):h.any a=h.any b:=by grind
theorem AP(m:Nat):∀(r:Nat)(a:N0),aS (m:Int) a=k0->tL a<r->∀b,tL a<b->HX r a=HX b a
 | 0,_,_,h,_,_=>om
 | r+1,a,c,h,0,f=>om
 | r+1,a,c,h,b+1,f=>by unfold HX;congr 1;refine any_eq λp d=>?_;have d:=List.mem_range.1 d;cases g:zs a p;rfl;have e:=zq g;have i:=zbQ c d e;have j:=zbR c d e;rw[AP m r _ (zt c d) om b om,AP m r _ (OQ c p) om b om]
noncomputable def Qw(a:N0)(p:Nat):Bool:=zs a p&&FL (HY a p)&&FL (WO a p)
theorem zej(c:aS (i:Int) l=k0):FL l=(decide (lh l<=1)||(lc 6).any (Qw l)):=by refine(zjA 6 l).trans<|cV (decide (lh l<=1)||·)<|any_eq λp b=>?_;have b:=List.mem_range.1 b;show(zs l p&&HX 6 (HY l p)&&HX 6 (WO l p))=(zs l p&&HX 7 (HY l p)&&HX 7 (WO l p));cases e:zs l p;simp only[ce];have d:=zq e;have f:=zhM l;have g:=zbQ c b d;have h:=zbR c b d;rw[AP i 6 _ (zt c b) om 7 om,AP i 6 _ (OQ c p) om 7 om]
theorem zqV(b:aS (i:Int) l=k0)(c:p<6)(d:i<=p):zs l p=false:=by
 have e:ao l (2^p)=false:=by refine Bool.eq_false_iff.2 λf=>?_;have:=(nV b).2 _ (p64 c) f;rw[ar]at this;have:=aV (show 0<2 by simp) d;omega
 simp[zs,e]
theorem znR(b:aS (i:Int) l=k0)(h:∀p,p<i->Qw l p=l0):(lc 6).any (Qw l)=false:=by rw[pk];intro p c;by_cases d:p<i;grind;simp[Qw,zqV b (List.mem_range.1 c) om]
theorem Kx(j:∀a,aS (m:Int) a=k0->tL a<s->AC prog 302 [.ag [al m,aE a]] (.im (aU (FL a))))(a:N0)(p:Nat)(h:aS (m:Int) a=k0)(u:tL a<s+1)(n:p<m):AC prog 337 [.ag [al m,aE a],al p] (.im (aU (Qw a p))):=by
 refine cA [.tmp 4] func337 λw=>?_;have⟨x,y,_⟩:=cY.1 h;have d:p<6:=om;have k:=p64 d;have b:D0.u64.wrap (p:Int)=(p:Int):=dm om;have c:jl .i64 1 (p:Int)=((2^p:Nat):Int):=eh om;have g:=dM h;have o:=fH h;have e:ci (m:Int) a=ao a:=by funext t;unfold ci;rw[h,au]
 have q:bl _=HY a p:=rfl;have r:bl _=WO a p:=rfl;refine ff b c<|aa (FN m a p h n) ?_;refine ff b c ?_;unfold Qw;refine⟨λf=>?_,λf=>?_⟩;have l:=zq f;have z:=zbQ h d l;have A:=zbR h d l;refine aa (lQ m a _ k g om) ?_;rw[q];refine ff b c ?_;refine aa (j _ (zt h d) om) ?_;rw[f,au];refine ff b c ?_;refine⟨λi=>?_,λi=>?_⟩;refine aa (ky m a _ k) ?_;rw[e,r];refine ff b c ?_;refine aa (j _ (OQ h p) om) ?_;refine aR ?_;rw[i];rfl;rw[i];rfl;rw[f];rfl
theorem OP:∀(r:Nat)(a:N0),aS (m:Int) a=k0->tL a<r->AC prog 302 [.ag [al m,aE a]] (.im (aU (FL a))):=by
 intro r;induction r with
 | zero=>intro a _ h;omega
 | succ r k =>
   intro a h l;refine cA [.tmp 2] func302 λo=>?_;have⟨q,t,_⟩:=cY.1 h;have b:=zej h;refine aR ?_;refine⟨λn=>?_,λn=>?_⟩;grind;rw[aD<|by omega,gm]at b;refine az (λ(j:Nat)s=>(s.sl 1=.ref 1 1 0/\s.rw 1=⟨1,.box 31 [al m,aE a]⟩/\s.sl 3=al j)/\(j<=m/\∀p,p<j->Qw a p=l0)) (λj=>m-j) (0) ⟨nm,⟨aB _,λp d=>absurd d<|rb p⟩⟩ ?_;intro j u ⟨e,f⟩;have⟨w,c⟩:=f;refine cZ e ?_;refine⟨λg=>?_,λg=>?_⟩;refine aa (Kx m r k a j h l g) ?_;refine cZ e ?_;refine⟨λi=>?_,λi=>?_⟩;grind;exact ah (j+1) ⟨(gE e<|ak g om),⟨om,λp d=>by
    grind⟩⟩
   rw[b,znR h λp d=>c p om]
noncomputable def WN(n:Int)(a:N0):Bool:=aS n a&&FL a
theorem yf:AC prog 254 [.ag [al n,aE b]] (.im (aU (WN n b))):=by refine cA [.tmp 2] func254 λa=>?_;refine aR<|aa (bw n b) ?_;refine aR ?_;unfold WN;refine⟨λh=>?_,λh=>?_⟩;obtain⟨c,d,_⟩:=cY.1 h;obtain⟨m,rfl⟩:∃m:Nat,n=m:=⟨n.toNat,om⟩;have:=zhM b;refine aa (OP m 7 b h om)<|aR ?_;grind;grind
abbrev Mf:=Int->Int
def mpR(g:Mf)(i:Nat):Row:=if i=1000000 then⟨1,.mp g⟩else⟨0,.dead⟩
theorem zp(g:Mf):mpR g 1000000=⟨1,.mp g⟩:=ae rfl
theorem zeg(g:Mf)(h:i≠1000000):mpR g i=⟨0,.dead⟩:=ac h
theorem zeh{g:Mf}(h:(mpR g i).kind.nd=k0):i=1000000:=aC λe=>by rw[zeg g e]at h;cases h
def HV(x:Bool×Mf)(a:S0)(p:PV):Prop:=p=aU x.1/\a 1000000=⟨1,.mp x.2⟩
def zbP(k a:Nat):Option Nat:=if a=1000000 then n0 k else o0
theorem OO:zbP m 1000000=n0 m:=ae rfl
theorem sH{x:Nat}(h:zbP i p=n0 x):p=1000000/\x=i:=by simp_all[zbP]
theorem AO{a:Nat->Option Nat}{b:l1}{c R:S0}:∀{l:M0},plain l->GvL a b c R l l
 | [],_=>.nil
 | p::l,h=>by have d:=h p sp;cases p<;>first|exact .one (.v _)<|AO λq e=>h q<|by grind|(simp[NL]at d)
theorem zsJ[aw]{v:Nat}{k:Mf}{x:Bool×Mf}(q:AG prog f (.ag [.own 1000000 1]::g) (mpR k) (HV x))(r:plain g)(m:c.rw p=⟨v,.mp k⟩)(t:K ((c.row p ⟨v,.mp x.2⟩).put (n0 i) (aU x.1))):askG prog c f (.ag [.own p v]::g) (n0 i) K:=by
 refine⟨_,_,_,zbP p,λ_=>False,q,.ag (.one (.own (OO p) rfl (by rw[m])<|rfl) .nil)<|AO r,⟨λa args=>?_,λa b j args l _ _=>(zeh args).trans (zeh l).symm,λ_ _ _ _ h=>h⟩,λy s⟨u,o⟩=>?_⟩
 have:=zeh args;subst this;exact⟨ab _,by simp[zp],p,OO p,by rw[m];rfl⟩
 subst u;refine⟨zbP p,λ_=>v,k0,⟨λ_ _=>rfl,λa b j args l=>(sH args).1.trans (sH l).1.symm,λa j args _ _=>?_,λa j args w=>?_,λ_ _ h=>h⟩,λS n=>?_⟩
 rw[(sH args).2,m]
 have:=(sH args).1;subst this;exact absurd (by rw[o,zp])<|w<|rfl
 have e:S=(c.row p ⟨v,.mp x.2⟩).put (n0 i) (aU x.1):=by refine St.ext2 (λd=>?_) λa=>?_;rw[n.sl];rfl;rw[iW];by_cases e:a=p;subst e;rw[dw,n.row _ a<|OO a,o];rfl;rw[bZ _ _ _ _ e];exact n.off a λb l=>e (sH l).2
 grind
theorem znQ[aw]{a:M0}{v:Nat}{k:Mf}{x:Bool×Mf}{us:Dm c}{u:Dm K}(b:AG prog f (.ag [.own 1000000 1]::g) (mpR k) (HV x))(args:plain g)(h:c.rw p=⟨v,.mp k⟩)(d:K ((c.row p ⟨v,.mp x.2⟩).put (n0 i) (aU x.1))):nn prog f a e (tS prog f a (.ag [.own p v]::g) (n0 i) (kk c us) (kk K u)):=.inr<|.inr<|.inr<|.inr<|zsJ b args h d
theorem HW[aw]{a:M0}{v:Nat}{k:Mf}{x:Bool×Mf}{us:Dm c}{u:Dm o}(h:AG prog f (.ag [.own 1000000 1]::g) (mpR k) (HV x))(d:plain g)(j:c.rw p=⟨v,.mp k⟩)(l:i%1000≠p%1000)(m:o ⟨[],.ids [i,p]⟩ ((c.row p ⟨v,.mp x.2⟩).put (n0 i) (aU x.1))):nn prog f a e (zcQ prog f (.ag [.own p v]::g) i (kk c us) (kk o u)) :=
 Zo (λb n s args=>zsJ h d (n.trans j) args) l m
def zei(a:S0)(p:PV):Prop:=∃k v,p=.ag [.own k v]/\a k=⟨v,.mp λ_=>0⟩
theorem zvO[aw]{d j:Nat}(q:AG prog f [] (λ_=>⟨0,.dead⟩) zei)(r:K ((c.row j ⟨(c.rw j).ver+1,.mp λ_=>0⟩).put (n0 d) (.ag [.own j ((c.rw j).ver+1)]))):askG prog c f [] (n0 d) K:=by
 refine⟨_,_,_,λ_=>o0,λ_=>False,q,.nil,⟨λ_ h=>(by cases h),λ_ _ _ h=>(by cases h),λ_ _ h=>(by cases h)⟩,λt p⟨k,v,u,o⟩=>?_⟩
 subst u
 have s:∀{a x:Nat},(if a=k then n0 j else o0)=n0 x->a=k/\x=j:=λ{a x}h=>by split at h;cases h;exact⟨‹_›,rfl⟩;cases h
 refine⟨λa=>if a=k then n0 j else o0,λ_=>(c.rw j).ver+1,k0,⟨λ_ h=>(by cases h),λa b x g l=>(s g).1.trans (s l).1.symm,λ_ _ _ h=>(by cases h),λa x g _=>by rw[(s g).2];exact dD _,λ_ _ h=>h⟩,λS m=>?_⟩
 have e:S=(c.row j ⟨(c.rw j).ver+1,.mp λ_=>0⟩).put (n0 d) (.ag [.own j ((c.rw j).ver+1)]):=by
  refine St.ext2 (λi=>?_) λa=>?_;rw[m.sl];have n:zaX (λa=>if a=k then n0 j else o0) t (λ_=>(c.rw j).ver+1) k0 (.ag [.own k v])=.ag [.own j ((c.rw j).ver+1)]:=by unfold zaX;simp only[dR,gy,ren1,lH,ae,o,du]
  rw[n];by_cases e:i=d;subst e;rw[cF,cF];rw[da _ _ _ _ e,da _ _ _ _ e];rfl;rw[iW];by_cases e:a=j;subst e;rw[dw,m.row k a<|ae rfl,o];rfl;rw[bZ _ _ _ _ e];exact m.off a λb l=>e (s l).2
 rw[e];exact r
theorem zjz[aw](j:Nat){us:Dm c}{u:Dm o}(d:AG prog f [] (λ_=>⟨0,.dead⟩) zei)(h:i%1000≠j%1000)(a:o ⟨[],.ids [i,j]⟩ ((c.row j ⟨(c.rw j).ver+1,.mp λ_=>0⟩).put (n0 i) (.ag [.own j ((c.rw j).ver+1)]))):nn prog f g e (zcQ prog f [] i (kk c us) (kk o u)) :=
 Zo (λl k m b=>zvO d (j:=j)<|by grind) h a
noncomputable def spF(W:N0->Mf->Bool×Mf)(a:N0)(p:Nat)(g:Mf):Bool×Mf :=
 if zs a p=k0 then(if(W (HY a p) g).1=k0 then W (WO a p) (W (HY a p) g).2 else(l0,(W (HY a p) g).2))else(l0,g)
noncomputable def lpF(S:Nat->Mf->Bool×Mf)(k:Int):Nat->Nat->Mf->Bool×Mf
 | 0,_,g=>(l0,g)
 | n+1,p,g=>if(S p g).1=k0 then(k0,yO (S p g).2 k 1)else lpF S k n (p+1) (S p g).2
noncomputable def PP:Nat->N0->Mf->Bool×Mf
 | 0,_,g=>(k0,g)
 | r+1,a,g=>if (lh a)<=1 then(k0,g)else if g (rD a)≠0 then(g (rD a)==1,g)else lpF (spF (PP r) a) (rD a) 6 0 (yO g (rD a) 2)
theorem mpT:zaV T 148:=⟨dc,dc,zuH,dc,T3k,T3z⟩
theorem plu:plain [dv m]:=λq h=>by rw[List.mem_singleton.1 h];rfl
theorem zwN:plain [dv m,al s]:=λq h=>by rcases List.mem_cons.1 h with rfl|h;rfl;rw[List.mem_singleton.1 h];rfl
theorem Qv(w:∀c g,aS (m:Int) c=k0->tL c<s->AG prog 216 [.ag [.own 1000000 1],dv (rD c)] (mpR g) (HV (PP s c g)))(c:N0)(p:Nat)(g:Mf)(h:aS (m:Int) c=k0)(D:tL c<s+1)(e:p<6) :
 AG prog 289 [.ag [.own 1000000 1],dv (rD c),al p] (mpR g) (HV (spF (PP s) c p g)):=by
 refine RY [.tmp 6] func289 λE A z n q=>?_
 have f:z.sl 0=.ag [.own 1000000 1]:=by rw[n];rfl
 have i:z.sl 1=dv (rD c):=by rw[n];rfl
 have k:z.sl 2=al p:=by rw[n];rfl
 have d:z.rw 1000000=⟨1,.mp g⟩:=by rw[q,zp]
 have l:∀j,j<1000000->z.rw j=⟨0,.dead⟩:=λj F=>by rw[q,zeg _ om]
 clear n q
 have x:=p64 e
 have r:D0.u64.wrap (p:Int)=(p:Int):=dm om
 have t:jl .i64 1 (p:Int)=((2^p:Nat):Int):=eh om
 refine xA f i k d l r t ?_
 refine⟨kr,aa (WS m c p h e) ?_⟩
 refine nN f i k d l ?_
 unfold spF
 refine⟨λo=>?_,λo=>?_⟩
 rw[ae o];have y:=zq o;refine aa (jR (ao c) _ x) ?_;rw[znS h e];refine nN f i k d l ?_;have G:=zbQ h e y;have H:=zbR h e y;have B:=w (HY c p) g (zt h e) om;refine HW B (plu _) (rp d) dc ?_;generalize PP s (HY c p) g=a at *;refine nN f i k d l ?_;refine⟨λu=>?_,λu=>?_⟩
 rw[ae u];refine aa (jC (ao c) _ x) ?_;rw[zsK h];refine nN f i k d l ?_;have C:=w (WO c p) a.2 (OQ h p) om;refine HW C (plu _) (rp d) dc ?_;generalize PP s (WO c p) a.2=b at *;refine nN f i k d l ?_;exact⟨kr,rfl,by simp only[gr,simprocAttr,d]⟩
 rw[ac<|by rw[u];decide];exact⟨rfl,by simp only[gr,simprocAttr,d]⟩
 rw[ac<|by rw[o];decide];exact⟨rfl,by simp only[gr,simprocAttr,d]⟩
theorem WL:∀(r:Nat)(b:N0)(g:Mf),aS (m:Int) b=k0->tL b<r->AG prog 216 [.ag [.own 1000000 1],dv (rD b)] (mpR g) (HV (PP r b g)):=by
 intro r;induction r with
 | zero=>intro b g _ h;omega
 | succ r x =>
   intro b g h y;refine RY [.tmp 4] func216 λG A z k l=>?_;have n:z.sl 0=.ag [.own 1000000 1]:=by rw[k];rfl
   have o:z.sl 1=dv (rD b):=by rw[k];rfl
   have f:z.rw 1000000=⟨1,.mp g⟩:=by rw[l,zp]
   have p:∀j,j<1000000->z.rw j=⟨0,.dead⟩:=λj B=>by rw[l,zeg _ om]
   clear k l;have i:=mS (rD b)<|zbS b;rw[WP h]at i;refine ox n o f p<|aa i ?_;refine ox n o f p ?_;refine⟨λC=>?_,λC=>?_⟩;rw[show PP (r+1) b g=(k0,g) from ae om];exact⟨rfl,by simp only[gr,simprocAttr,f]⟩;have q:=(show PP (r+1) b g=_ from ac (show ¬b.length<=1 by omega));refine⟨mpT,λt=>?_,λt=>?_⟩;rw[q,ae<|ss t];exact⟨mpT,rfl,by simp only[gr,simprocAttr,f]⟩;rw[ac<|ss t]at q;rw[q];refine⟨mpT,?_⟩;refine az (λ((j,e):Nat×Mf) s=>(s.sl 1=dv (rD b)/\s.sl 2=.ref 2 1 0/\s.rw 2=⟨1,.box 150 [.own 1000000 1]⟩/\s.rw 1000000=⟨1,.mp e⟩/\s.sl 4=aU l0/\s.sl 5=al j)/\(j<=6/\lpF (spF (PP r) b) (rD b) (6-j) j e=lpF (spF (PP r) b) (rD b) 6 0 (yO g (rD b) 2))) (λ(j,e)=>6-j) ((0,yO g (rD b) 2)) ⟨(rS n o f p),⟨aB _,rfl⟩⟩ ?_;intro(j,e) H ⟨d,u⟩;have⟨B,c⟩:=u;refine cZ d ?_;refine⟨λE=>?_,λE=>?_⟩;rw[show 6-j=(6-(j+1))+1 by omega,lpF]at c;have F:=Qv m r x b j e h y om;refine znQ F (zwN _ _) (rp d) ?_;generalize spF (PP r) b j e=a at *;refine cZ d ?_;refine⟨λw=>?_,λw=>?_⟩;rw[ae w]at c;rw[<- c];exact⟨mpT,rfl,by simp only[gr,simprocAttr,d]⟩;rw[ac<|by rw[w];decide]at c;exact ah ((j+1,a.2)) ⟨(fB d d<|ak (show j<6 by omega) om),⟨by dsimp only;omega,c⟩⟩;rw[show 6-j=0 by omega,lpF]at c;rw[<- c];exact⟨rfl,by simp only[gr,simprocAttr,d]⟩
theorem ztY{b:N0}(d:aS k l=k0)(e:aS k b=k0)(h:rD l=rD b):l=b:=by rw[xe d,xe e];refine cV bl<|je (λs c=>?_) _;rw[<- ek (ao l) c,<- ek (ao b) c];exact cV (λa=>Nat.testBit a s) h
def Qu(m b:Nat)(g:Mf):Prop:=∀a,aS (m:Int) a=k0->(g (rD a)=1->FL a=k0)/\(g (rD a)≠0->g (rD a)≠1->tL a<b->FL a=l0)
def OkM(m b:Nat)(g:Mf)(c:N0)(R:Bool×Mf):Prop:=R.1=FL c/\Qu m b R.2/\∀a,aS (m:Int) a=k0->tL c<tL a->R.2 (rD a)=g (rD a)
theorem WJ(f:Mf)(a y:Int):yO f a y a=y:=ae rfl
theorem WK(f:Mf){b:Int}(y:Int)(h:b≠k):yO f k y b=f b:=ac h
theorem zhL{b:N0}(c:aS (i:Int) l=k0)(d:aS (i:Int) b=k0)(h:b≠l):((rD b:Nat):Int)≠((rD l:Nat):Int):=λe=>h<|ztY d c om
theorem ztZ{m r:Nat}(j:∀c g b,aS (m:Int) c=k0->tL c<r->tL c<b->Qu m b g->OkM m b g c (PP r c g)){c:N0}(f:aS (m:Int) c=k0)(A:tL c<r+1){p:Nat}(i:p<6){e:Mf}(k:Qu m (tL c) e) :
 (spF (PP r) c p e).1=Qw c p/\Qu m (tL c) (spF (PP r) c p e).2/\∀d,aS (m:Int) d=k0->tL c<=tL d->(spF (PP r) c p e).2 (rD d)=e (rD d):=by
 unfold spF Qw
 cases q:zs c p
 grind
 have l:=zq q;have s:=zbQ f i l;have t:=zbR f i l;have⟨u,n,o⟩:=j (HY c p) e (tL c) (zt f i) om s k;generalize PP r (HY c p) e=a at *;cases B:a.1
 grind
 rw[ae rfl];have⟨x,y,z⟩:=j (WO c p) a.2 (tL c) (OQ f p) om t n;grind
theorem zvM{b:Nat}(K:∀l g b,aS (i:Int) l=k0->tL l<p->tL l<b->Qu i b g->OkM i b g l (PP p l g))(A:aS (i:Int) l=k0)(L:tL l<p+1)(C:¬l.length<=1){g:Mf}(M:Qu i b g) :
 ∀(n d:Nat)(e:Mf),d+n=6->Qu i (tL l) e->(∀q,q<d->Qw l q=l0)->e (rD l)=2->(∀c,aS (i:Int) c=k0->c≠l->tL l<=tL c->e (rD c)=g (rD c))->OkM i b g l (lpF (spF (PP p) l) (rD l) n d e):=by
 have x:=zej A
 rw[aD C,gm]at x
 have o:∀(e:Mf)(v:Int),(∀c,aS (i:Int) c=k0->c≠l->tL l<=tL c->e (rD c)=g (rD c))->Qu i (tL l) e->e (rD l)=v->(v=1->FL l=k0)->(v≠1->FL l=l0)->Qu i b e:=λe v m y N C O c f=>by by_cases j:c=l;subst j;rw[N];exact⟨C,λ_ h _=>O h⟩;by_cases D:tL c<tL l;exact⟨(y c f).1,λa b _=>(y c f).2 a b D⟩;rw[m c f j om];exact M c f
 have s:∀c,tL l<tL c->c≠l:=λc h e=>by rw[e]at h;omega
 intro n
 induction n with
 | zero =>
   intro d e P y k E m
   have z:FL l=false:=by rw[x,pk];intro q B;rw[k q<|by have:=List.mem_range.1 B;omega];decide
   exact⟨z.symm,o e 2 m y E (λh=>absurd h dc)<|λ_=>z,λc f t=>m c f (s c t) om⟩
 | succ n F =>
   intro d e P y k E m
   have⟨G,H,I⟩:=ztZ K A L (p:=d) om y
   rw[lpF]
   generalize spF (PP p) l d e=a at *
   have u:∀c,aS (i:Int) c=k0->c≠l->tL l<=tL c->a.2 (rD c)=g (rD c):=λc f r t=>(I c f t).trans<|m c f r t
   cases J:a.1
   grind
   rw[ae rfl];have z:FL l=true:=by rw[x,cS];exact⟨d,List.mem_range.2 om,by rw[<- G,J]⟩
   have w:∀c,aS (i:Int) c=k0->c≠l->tL l<=tL c->yO a.2 (rD l) 1 (rD c)=g (rD c):=λc f r t=>by rw[WK _ _<|zhL A f r];exact u c f r t
   refine⟨z.symm,o _ 1 w (λc f=>?_) (WJ _ _ _) (λ_=>z)<|λh=>absurd rfl h,λc f t=>w c f (s c t) om⟩;by_cases j:c=l
   grind
   show(yO a.2 _ 1 _=1->_)/\(yO a.2 _ 1 _≠0->yO a.2 _ 1 _≠1->_);rw[WK _ _<|zhL A f j];exact H c f
theorem zvN:∀(r:Nat)(d:N0)(g:Mf)(b:Nat),aS (m:Int) d=k0->tL d<r->tL d<b->Qu m b g->OkM m b g d (PP r d g):=by
 intro r;induction r with
 | zero=>simp
 | succ r s =>intro d g b f t u e;rw[PP];by_cases k:lh d<=1;rw[ae k];exact⟨by rw[zej f,ay k];rfl,e,λ_ _ _=>rfl⟩;rw[ac k];by_cases o:g (rD d)≠0;rw[ae o];refine⟨?_,e,λ_ _ _=>rfl⟩;have⟨w,x⟩:=e d f;grind;rw[ac o];refine zvM s f t k e 6 0 _ rfl (λn i=>?_) (λq h=>absurd h<|rb q) (WJ _ _ _)<|λn i p _=>WK _ _<|zhL f i p;by_cases j:n=d;simp_all[WJ];rw[WK _ _<|zhL f i j];exact⟨(e n i).1,λa c h=>(e n i).2 a c om⟩
theorem zt0(h:aS (i:Int) l=k0):(PP 7 l λ_=>0).1=FL l:=have:=zhM l;(zvN i 7 l _ 7 h om om λb _=>⟨λh=>absurd h dc,λh=>absurd rfl h⟩).1
theorem zjy(f:Mf)(K:Prop):wz ⟨m,.mp f⟩ m (kk K)=K:=by simp[wz,RK.slice,kk]
theorem zo:AG prog 215 [] (λ_=>⟨0,.dead⟩) zei:=by refine RY [.cell 0 150] func215 λe c z d a=>?_;refine ff a @zjy ?_;exact⟨1,1,rfl,rfl⟩
theorem ye:AC prog 123 [.ag [al n,aE b]] (.im (aU (WN n b))):=by refine cA [.tmp 2] func123 λc=>?_;refine aR ?_;refine⟨kr,aa (aH n b) ?_⟩;refine aR ?_;unfold WN;refine⟨λh=>?_,λh=>?_⟩;obtain⟨d,e,_⟩:=cY.1 h;obtain⟨m,rfl⟩:∃m:Nat,n=m:=⟨n.toNat,om⟩;have f:=zhM b;refine zjz 999 zo dc ?_;refine aR<|aa (cj m b<|dM h) ?_;refine aR ?_;refine HW (WL m 7 b (λ_=>0) h om) (plu _) gl dc ?_;rw[h,au,<- zt0 h];refine aR ?_;kernel_rfl;rw[h];rfl
def rcB(d:Int)(s:Nat)(x:Int):Bool:=(x.toNat&&&s==s)&&decide ((aQ x.toNat:Int)=d+1)
def Gz(a:N0)(d:Int)(s j:Nat):Nat:=lh ((a.take j).filter (rcB d s))
theorem Pj:Gz b d s 0=0:=rfl
theorem zca(h:i<lh l):Gz l n m (i+1)=Gz l n m i+if rcB n m (lg l i 0)=k0 then 1 else 0:=by unfold Gz;rw[bj 0 h];grind
theorem zou:Gz b d s j<=lh b:=by unfold Gz;grind
noncomputable def DN(n:Int)(a:N0):O0:=if gD n a<0 then []else cd (ci n a) (gD n a).toNat 64
noncomputable def Va(n:Int)(a:N0):N0:=(DN n a).map λs=>(Gz a (gD n a) s (lh a):Int)
def Ij(a:N0)(d:Int)(L:O0)(i j:Nat):N0:=(lc (lh L)).map λt=>(Gz a d (lg L t 0) (if t<i then (lh a) else if t=i then j else 0):Int)
theorem zhZ:lh (Ij b d L s j)=lh L:=by simp[Ij]
theorem zuf{xs:N0}{d:Int}(j:Nat)(L:i<lh h):lg (Ij xs d h i j) i 0=(Gz xs d (lg h i 0) j:Int):=by simp_all[Ij]
theorem zrr{xs:N0}{d:Int}{i j:Nat}(L:i<lh h):(Ij xs d h i j).set i (Gz xs d (lg h i 0) (j+1):Int)=Ij xs d h i (j+1):=by refine bE (by simp[Ij]) λt a b=>?_;simp[Ij];grind
theorem zcb(j:Gz l k (lg h i 0) (p+1)=Gz l k (lg h i 0) p):Ij l k h i (p+1)=Ij l k h i p:=by simp[Ij];grind
theorem zov:ld (lh L) (0:Int)=Ij b d L 0 0:=by refine bE (by simp[Ij]) λt a c=>?_;simp[Ij,Pj]
theorem zow:Ij b d L s (lh b)=Ij b d L (s+1) 0:=by simp[Ij];grind
theorem zrs:Ij b d L (lh L) 0=L.map λs=>(Gz b d s (lh b):Int):=by
 refine bE (by simp[Ij]) λt c e=>?_;have a:t<lh L:=by grind
 simp[Ij,a]
theorem FV(h:¬gD k l<0):aS k l=k0/\∃d:Nat,gD k l=d/\d<=5:=have b:=aC λc=>h (by simp[show gD k l=-2 from ac c]);have e:=Dn b;have f:=eD (ao l);⟨(fR.1 b).1,(gD k l).toNat,om,om⟩
theorem xN(hx:b.length<=1048576):AC prog 185 [.ag [al n,aE b]] (.tup [.fr 3 1 (iL (bl (DN n b))),.fr 3 1 (iL (Va n b))]):=by
 refine cA [.tmp 2,.tmp 3] func185 λhl=>?_;refine aR ?_;refine aa (mQ n b) ?_;refine aR ?_;refine⟨λF=>?_,λF=>?_⟩;have e:DN n b=[]:=ae F;unfold Va;rw[e];exact⟨rfl,rfl⟩;have⟨G,d,C,W⟩:=FV F;have H:=dM G;have e:DN n b=cd (ci n b) d 64:=by unfold DN;rw[ac F,C,ar]
 have I:∀s∈DN n b,s<64:=λs J=>by rw[e]at J;exact(fI.1 J).1
 have X:(DN n b).length<=64:=by rw[e];exact fc _ _<|ab 64
 unfold Va;rw[C];refine aa (jc n b d om) ?_;rw[<- e];generalize DN n b=L at *;refine cZ @ap ?_;refine⟨om,om,?_⟩;have Y:ld L.length (0:Int)=Ij b d L 0 0:=zov b d L;refine az (λ(i:Nat)s=>(s.sl 1=.ref 1 1 0/\s.rw 1=⟨1,.box 31 [al n,aE b]⟩/\s.sl 4=al d/\s.sl 5=.own 17 1/\s.rw 17=⟨1,.sli 3 1 l0<|iL<|bl L⟩/\s.sl 6=.own 20 1/\s.rw 20=⟨1,.sli 3 1 l0<|iL<|Ij b d L i 0⟩/\s.sl 21=.own 17 1/\s.sl 22=al L.length/\s.sl 23=al i)/\(i<=L.length)) (λi=>L.length-i) (0) ⟨(jX Y),aB _⟩ ?_;intro i sa ⟨K,Z⟩;refine ff K @ap ?_;refine⟨λA=>⟨om,om,?_⟩,λA=>?_⟩;have M:(bl L).getD i 0=((L.getD i 0:Nat):Int):=bX A;have J:=I _<|aP 0 A;rw[M];refine az (λ(j:Nat)s=>(s.sl 1=.ref 1 1 0/\s.rw 1=⟨1,.box 31 [al n,aE b]⟩/\s.sl 4=al d/\s.sl 5=.own 17 1/\s.rw 17=⟨1,.sli 3 1 l0<|iL<|bl L⟩/\s.sl 6=.own 20 1/\s.rw 20=⟨1,.sli 3 1 l0<|iL<|Ij b d L i j⟩/\s.sl 7=al i/\s.sl 8=al (L.getD i 0)/\s.sl 21=.own 17 1/\s.sl 22=al L.length/\s.sl 23=al i/\s.sl 29=aE b/\s.sl 30=al b.length/\s.sl 31=al j)/\(j<=b.length)) (λj=>b.length-j) (0) ⟨(jX K),aB _⟩ ?_;intro j sb ⟨⟨p,q,r,t,c,u,a,w,x,f,g,k,l,m,o⟩,a0⟩;simp only[↓gp,gq,simprocAttr,gT,p,q,r,t,c,u,a,w,x,f,g,k,l,m,o];refine⟨λB=>⟨om,om,aa (dy _) ?_⟩,λB=>?_⟩;have N:=H _<|aP 0 B;have O:=nA N;have hw:D0.i64.wrap ((d:Int)+1)=((d+1:Nat):Int):=ak (show d<6 by omega) om;have y:=zca (d:Int) (L.getD i 0) B;have a1:=zou b d (L.getD i 0) j;have P:=zuf (xs:=b) (d:=d) j A;have V:=zhZ b d L i j;have D:=zrr (xs:=b) (d:=(d:Int)) (j:=j) A;have Q:b.getD j 0=(((b.getD j 0).toNat:Nat):Int):=om;have E:(gU .i64 ((L.getD i 0:Nat):Int) (b.getD j 0)==0)=((b.getD j 0).toNat&&&L.getD i 0==L.getD i 0):=by rw[Q,fv om om,ar];refine Bool.eq_iff_iff.2 ?_;rw[aK,aK,cl (b.getD j 0).toNat,<- gW];omega
 simp only[↓gp,gq,simprocAttr,gT,p,q,r,t,c,u,a,w,x,f,g,k,l,m,o,O,hw,E];have z:rcB (d:Int) (L.getD i 0) (b.getD j 0)=(((b.getD j 0).toNat&&&L.getD i 0==L.getD i 0)&&decide ((aQ (b.getD j 0).toNat:Int)=(d:Int)+1)):=rfl;refine⟨λR=>⟨λS=>⟨om,om,om,om,?_⟩,λS=>?_⟩,λR=>?_⟩;rw[ae<|by rw[z,S,au,aq];have:=beq_iff_eq.1 R;omega]at y;have U:D0.i64.wrap ((Gz b (d:Int) (L.getD i 0) j:Int)+1)=(Gz b (d:Int) (L.getD i 0) (j+1):Int):=by rw[y,aF om om];omega
 exact ah (j+1) ⟨(by and_intros<;>(first|(simp only[gr,simprocAttr,p,q,r,t,c,u,a,w,x,f,g,k,l,m,o,P,U,D,ak B om];first|done|rfl|(simp;done))|assumption|rfl)),om⟩;rw[ac<|by rw[z,S];simp,lD]at y;exact ah (j+1) ⟨(by and_intros<;>(first|(simp only[gr,simprocAttr,p,q,r,t,c,u,a,w,x,f,g,k,l,m,o,zcb y,ak B om];first|done|rfl|(simp;done))|assumption|rfl)),om⟩;rw[ac<|by rw[z,aj,aq];rintro⟨_,h⟩;have:=beq_eq_false_iff_ne.1 R;omega,lD]at y;exact ah (j+1) ⟨(by and_intros<;>(first|(simp only[gr,simprocAttr,p,q,r,t,c,u,a,w,x,f,g,k,l,m,o,zcb y,ak B om];first|done|rfl|(simp;done))|assumption|rfl)),om⟩;have:j=b.length:=om;rw[this,zow]at a;exact ah (i+1) ⟨(by and_intros<;>(first|(simp only[gr,simprocAttr,K,p,q,r,t,c,u,a,w,x,f,g,k,l,m,o,ak A om];first|done|rfl|(simp;done))|assumption|rfl)),om⟩;have:i=L.length:=om;rw[this,zrs]
theorem zh0{n:Int}{xs:N0}:lh (Va n xs)<=64:=by rw[Va,DN,aG];split;simp;exact fc _ _<|ab 64
theorem Vb(f a:Nat)(b c2:M0):br c m (.tup [.fr s j b,.fr f a c2]) =
 ((c.row (m+1000) ⟨(c.rw (m+1000)).ver+1,.sli f a l0 c2⟩).row m ⟨(c.rw m).ver+1,.sli s j l0 b⟩).put (n0 m) (.tup [.own m ((c.rw m).ver+1),.own (m+1000) ((c.rw (m+1000)).ver+1)]):=by
 simp[br,leaves,eu,fL]
 rfl
theorem zrt:decide (0<lh (Va n b))=decide (0<=gD n b):=by
 have x:lh (Va n b)=(DN n b).length:=by unfold Va;rw[aG]
 rw[x];by_cases o:gD n b<0;rw[aD (show ¬0<=gD n b by omega),show DN n b=[] from ae o];rfl;rw[ay (show 0<=gD n b by omega),aq];obtain⟨q,d,r,y⟩:=FV o;have t:mr n b=true:=aC λp=>o (by rw[show gD n b=-2 from ac p];decide);obtain⟨m,rfl,z,F,s,G,H⟩:=FT t;have A:=Dn t;have B:cv (ao b)=oY (ao b) 64:=rfl;obtain⟨T,a,g,c⟩:=AH (f:=ao b) 64 om;have C:T≠0:=λe=>by
  subst e;have:aQ 0=0:=by decide +kernel
  omega
 obtain⟨v,u⟩:∃v,T.testBit v=true:=aC λp=>C (bB λi=>by
  grind)
 have k:v<6:=aC λp=>by have z:=nf u;have:(2:Nat)^6<=2^v:=aV om om;omega
 obtain⟨D,w⟩:=Fq u;have j:=zhm a k;have E:=Hy _ j v k D;rw[w]at E;have l:T&&&(T ^^^ 2^v)=T ^^^ 2^v:=by have:=tI (a:=T ^^^ 2^v) (v:=v);rwa [w]at this
 refine xw (a:=T ^^^ 2^v) ?_;unfold DN;rw[ac o,r,ar,fI];refine⟨j,?_,om⟩;unfold ci;rw[q,au];exact s _ _ g l
theorem Dv(a:lh b<=1048576):AC prog 219 [.ag [al n,aE b]] (.fr 3 1 (iL (Va n b))):=by refine cA [.tmp 2] func219 λc=>?_;refine aR<|aa (xN n b a) ?_;exact mg @Vb
noncomputable def sO(n:Int)(a:N0):Bool:=zy n a&&(decide (0<=gD n a)&&(Va n a).all λx=>decide (x=2))
theorem qV(q:lh b<=1048576):AC prog 126 [.ag [al n,aE b]] (.im (aU (sO n b))):=by
 refine cA [.tmp 2] func126 λt=>?_;refine aR<|aa (nD n b) ?_;refine aR ?_;unfold sO;refine⟨λc=>aa (mQ n b) ?_,λc=>?_⟩;have c:=ss c;rw[c];by_cases d:gD n b<0;rw[aD<|om];exact aR<|λh=>absurd d h;rw[ay<|om];refine aR ?_;refine⟨λj=>absurd j d,λj=>aa (Dv n b q) ?_⟩;have m:=zh0 (n:=n) (xs:=b);generalize Va n b=R at *;refine aR ?_;refine az (λ(k:Nat)s=>(s.sl 14=.own 14 1/\s.rw 14=⟨1,.sli 3 1 _<|iL R⟩/\s.sl 15=al _/\s.sl 16=al k)/\(k<=lh R/\(∀i,i<k->lg R i 0=2))) (λk=>lh R-k) 0 ⟨nm,sp⟩ ?_;intro k u ⟨o,f⟩;have⟨w,a⟩:=f;refine cZ o ?_;refine⟨λh=>⟨h,h,λg=>?_,λg=>?_⟩,λh=>?_⟩;exact znc h<|aD<|bne_iff_ne.1 g;exact ah _ ⟨(gE o<|ak h om),⟨om,λi r=>by
  grind⟩⟩
 exact zhB λi r=>ay<|a i om;grind
theorem vU(c:¬gD n b<0):AC prog 232 [.ag [al n,aE b]] (.fr 3 1 (iL (bl (DN n b)))):=by
 refine cA [.tmp 2] func232 λf=>?_;refine aR ?_;refine⟨kr,aa (gZ n b) ?_⟩;have⟨_,d,a,_⟩:=FV c;have e:DN n b=cd (ci n b) d 64:=by unfold DN;grind
 rw[e,a];refine aR<|aa (nj n b d) ?_;exact ef
theorem sP(R:lh b<=1048576):AC prog 233 [.ag [al n,aE b]] (.fr 3 1 (iL (Va n b))):=by
 refine cA [.tmp 2] func233 λS=>?_;refine aR<|aa (gZ n b) ?_;refine aR ?_;refine⟨λl=>?_,λl=>aa (vU n b l) ?_⟩;have e:DN n b=[]:=ae l;rw[Va,e];rfl;have⟨q,d,m,G⟩:=FV l;have r:=dM q;have e:DN n b=cd (ci n b) d 64:=by unfold DN;grind
 have u:∀s∈DN n b,s<64:=λs w=>by rw[e]at w;exact(fI.1 w).1
 have H:lh (DN n b)<=64:=by rw[e];exact fc _ _<|ab 64
 have k:=gZ n b;unfold Va;rw[m]at k ⊢;generalize DN n b=L at *;refine cZ @ap ?_;have I:((L.take 0).map λs=>(Gz b d s (lh b):Int))=[]:=rfl;have x:iL []=[]:=rfl;refine az (λ(i,v)s=>(s.sl 1=.ref 1 1 0/\s.rw 1=⟨1,.box 31 [al n,aE b]⟩/\s.sl 3=.own 8 v/\s.rw 8=⟨v,.sli 3 1 l0<|iL<|(L.take i).map λs=>(Gz b d s (lh b):Int)⟩/\s.sl 4=.own 14 1/\s.rw 14=⟨1,.sli 3 1 l0<|iL<|bl L⟩/\s.sl 5=al i)/\(i<=lh L)) (λ(i,v)=>lh L-i) ((0,1)) ⟨(gE I x),aB _⟩ ?_;intro(i,v) U ⟨y,K⟩;refine ff y @ap ?_;refine⟨λc=>?_,λc=>?_⟩;have z:=bX c;have w:=u _<|aP 0 c;refine az (λj s=>(s.sl 1=.ref 1 1 0/\s.rw 1=⟨1,.box 31 _⟩/\s.sl 3=.own 8 v/\s.rw 8=⟨v,.sli 3 1 l0<|iL<|(L.take i).map λs=>(Gz b d s (lh b):Int)⟩/\s.sl 4=.own 14 1/\s.rw 14=⟨1,.sli 3 1 l0<|iL<|bl L⟩/\s.sl 5=al i/\s.sl 6=al (Gz b d (lg L i 0) j)/\s.sl 7=al j)/\(j<=lh b)) (λj=>lh b-j) (0) ⟨(gE y @Pj),aB _⟩ ?_;intro j V ⟨f,N⟩;refine cZ f ?_;refine⟨λg=>?_,λg=>?_⟩;have O:=r _<|aP 0 g;have E:=ak (show d<6 by omega) om;have a:=zca d (lg L i 0) g;have P:=zou b d (lg L i 0) j;have⟨t,F,Q⟩:∃t:Nat,lg b j 0=t/\t<64:=⟨(lg b j 0).toNat,om,om⟩;have o:(fu .i64 t ((lg L i 0:Nat):Int)==((lg L i 0:Nat):Int))=(t&&&L.getD i 0==lg L i 0):=by rw[ej om om];grind
 have A:rcB d (lg L i 0) (lg b j 0)=((t&&&L.getD i 0==lg L i 0)&&decide ((aQ t:Int)=d+1)):=by rw[F];rfl
 rw[A]at a;refine nN f @ap z o F ?_;refine⟨kr,g,g,c,c,c,c,λB=>⟨g,g,aa (ey t om) ?_⟩,λB=>?_⟩;rw[B,au]at a;refine ff f E<|aa k ?_;refine ff f E<|aa (wY _) ?_;have p:D0.i64.wrap ((Gz b (d:Int) (lg L i 0) j:Int)+(if((aQ t:Int)==((d+1:Nat):Int))=k0 then 1 else 0))=(Gz b d (lg L i 0) (j+1):Int):=by rw[a];by_cases C:(aQ t:Int)=d+1;rw[ae<|beq_iff_eq.2 om,ae<|ay C,aF om om];omega;rw[ac<|λh=>C<|by grind,ac<|λh=>C<|cH h,aF om om];omega
 refine ff f p ?_;exact ah (j+1) ⟨(fB f p<|ak g om),om⟩;rw[B,ce,ac dc,lD]at a;refine aa (wY _) ?_;have p:D0.i64.wrap ((Gz b d (lg L i 0) j:Int)+0)=(Gz b d (lg L i 0) (j+1):Int):=by rw[a,aF om om];omega
 refine ff f p ?_;exact ah (j+1) ⟨(fB f p<|ak g om),om⟩;have:j=lh b:=om;have D:(L.take<|i+1).map (λs=>(Gz b d s (lh b):Int))=(L.take i).map (λs=>(Gz b d s (lh b):Int))++[(Gz b d (lg L i 0) j:Int)]:=by rw[this,bj 0 c,cq];rfl
 refine⟨by grind,?_⟩;exact ah ((i+1,v+1)) ⟨(rS y f D<|ak c om),om⟩;grind
theorem qW(m:lh b<=1048576):AC prog 257 [.ag [al n,aE b]] (.im (aU (sO n b))):=by
 refine cA [.tmp 2] func257 λq=>?_;refine aR<|aa (sP n b m) ?_;have c:=zrt n b;have j:=zh0 (n:=n) (xs:=b);unfold sO;generalize Va n b=R at *;refine aR ?_;refine az (λ(k:Nat)s=>(s.sl 1=.ref 1 1 0/\s.rw 1=⟨1,.box 31 _⟩/\s.sl 3=.own 6 1/\s.rw 6=⟨1,.sli 3 1 _<|iL R⟩/\s.sl 4=al k)/\(k<=lh R/\(∀i,i<k->lg R i 0=2))) (λk=>lh R-k) 0 ⟨nm,sp⟩ ?_;intro k r ⟨d,f⟩;have⟨t,a⟩:=f;refine cZ d ?_;refine⟨λh=>⟨h,h,λg=>?_,λg=>?_⟩,λh=>?_⟩;rw[znc h<|aD<|bne_iff_ne.1 g,cT,cT];exact ah _ ⟨(gE d<|ak h om),⟨om,λi o=>by
  grind⟩⟩
 rw[zhB λi o=>ay<|a i om];refine aa (nC n b)<|cZ d ?_;grind
def HU(a:Q0)(b:Bool)(w:P0):Q0:=if b=k0 then a++[w]else a
def adR(b:Bool)(a:Q0)(i:Nat):Row :=
 if i=1000000 then⟨1,.box 25 [if b=k0 then .v (.slice o0 0 0)else .own 1000001 1]⟩else if i=1000001 then(if b=k0 then⟨0,.dead⟩else⟨1,.sli 9 1 l0 (sL a)⟩)else⟨0,.dead⟩
theorem znN(b:Bool)(a:Q0)(h:i<1000000):adR b a i=⟨0,.dead⟩:=by unfold adR;grind
theorem zed(h:(adR N z i).kind.nd=k0):i=1000000\/(i=1000001/\N=l0):=by by_cases c:i=1000000;omega;by_cases a:i=1000001;cases N;grind;rw[a]at h;cases h;unfold adR at h;rw[ac c,ac a]at h;cases h
def zee(out:Q0)(a:S0)(p:PV):Prop:=p=.tup []/\∃v,0<v/\a 1000000=⟨1,.box 25 [.own 1000001 v]⟩/\a 1000001=⟨v,.sli 9 1 l0 (sL out)⟩
theorem znO(g:N=k0->z=[])(a:∀k,c.rw k=adR N z k) :
 ∃s,Wk c s/\s.sl=c.sl/\s.rw 1000000=⟨1,.box 25 [.own 1000001 1]⟩/\s.rw 1000001=⟨1,.sli 9 1 l0 (sL z)⟩/\∀k,k<1000000->s.rw k=⟨0,.dead⟩:=by
 cases N with
 | false=>exact⟨c,Wk.refl c,rfl,by rw[a];rfl,by rw[a];rfl,λk e=>by rw[a,znN _ _ e]⟩
 | true =>
   have h:=g rfl
   subst h
   have i:c.rw 1000000=⟨1,.box 25 [.v (.slice o0 0 0)]⟩:=by rw[a];rfl
   have j:c.rw 1000001=⟨0,.dead⟩:=by rw[a];rfl
   have f:=Wk.nilBox (o:=0) 1000001 9 i rfl dc
   rw[j]at f
   refine⟨_,f,rfl,rfl,rfl,λk e=>?_⟩
   rw[bZ _ _ _ _ om,bZ _ _ _ _ om,a,znN _ _ e]
theorem ol(b:Bool)(c:Q0)(m:b=k0->c=[])(t:lh c<=100)(g:Bool)(w:P0):AG prog 120 [aU g,fa w,.ref 1000000 1 0] (adR b c) (zee (HU c g w)):=by
 refine AG.goW tk mixed func120 rfl rfl rfl kr λu n z f k=>?_;have⟨s,l,a,i,j,d⟩:=znO m k;refine⟨s,l,?_⟩;have o:s.sl 0=aU g:=by simp_all
 have p:s.sl 1=fa w:=by simp_all
 have q:s.sl 2=.ref 1000000 1 0:=by simp_all
 have e:lh (sL c)=lh c:=by simp[sL]
 refine xA o p q i j d e ?_;unfold HU;refine⟨λh=>⟨om,?_⟩,λh=>?_⟩;rw[ae h];exact⟨rfl,2,dc,rfl,rfl⟩;rw[ac<|by grind];exact⟨rfl,1,dc,i,j⟩
theorem zvK[aw]{out:Q0}{b:Bool}{d:PV}{q j O:Nat}(R:AG prog f [aU N,fa w,.ref 1000000 1 0] (adR b z) (zee out))(E:c.rw p=⟨q,.box 25 [d]⟩)(t:(b=k0/\d=.v (.slice o0 0 0))\/(b=l0/\d=.own j O/\c.rw j=⟨O,.sli 9 1 l0 (sL z)⟩))(u:j≠p)(U:∀P,K (((c.row j ⟨P,.sli 9 1 l0 (sL out)⟩).row p ⟨q,.box 25 [.own j P]⟩).put (n0 i) (.tup []))):askG prog c f [aU N,fa w,.ref p q 0] (n0 i) K:=by
 let o:Nat->Option Nat:=λa=>if a=1000000 then n0 p else if a=1000001 then(if b=k0 then o0 else n0 j)else o0
 let g:Nat->Option Nat:=λa=>if a=1000000 then n0 p else if a=1000001 then n0 j else o0
 have y:∀{a x:Nat},g a=n0 x->(a=1000000/\x=p)\/(a=1000001/\x=j):=λ{a x}h=>by grind
 have F:∀a,(adR b z a).kind.nd=k0->g a=o a:=λa h=>by rcases zed h with rfl|⟨rfl,rfl⟩<;>rfl
 have G:GvA o (λ_=>False) (adR b z) c.rw (if b=k0 then .v (.slice o0 0 0)else .own 1000001 1) d:=by rcases t with⟨rfl,rfl⟩|⟨rfl,rfl,H⟩;exact .v _;exact .own rfl rfl (by rw[H]) rfl
 have m:∀a r x,g a=n0 x->g r=n0 x->a=r:=λa r x h I=>by rcases y h with⟨rfl,rfl⟩|⟨rfl,rfl⟩<;>rcases y I with⟨rfl,e⟩|⟨rfl,e⟩;rfl;exact absurd e.symm u;exact absurd e u;rfl
 refine⟨_,_,_,o,λ_=>False,R,.one (.v _)<|.one (.v _)<|.one (.ref rfl rfl (by rw[E]) rfl) .nil,⟨λa J=>?_,λa r x J L h I=>m a r x ((F a J).trans h)<|(F r L).trans I,λ_ _ _ _ h=>h⟩,λA s⟨V,v,X,Q,B⟩=>?_⟩
 rcases zed J with rfl|⟨rfl,rfl⟩
 exact⟨ab _,Nat.one_pos,p,rfl,by rw[E];exact⟨rfl,.one G .nil⟩⟩
 rcases t with⟨h,_⟩|⟨_,_,H⟩
 cases h
 exact⟨dc,Nat.one_pos,j,rfl,by rw[H];exact⟨rfl,rfl,rfl,zan _⟩⟩
 subst V;let l:T0:=λa=>if a=1000000 then q else(c.rw j).ver+(if b=k0 then v else v-1)
 refine⟨g,l,k0,⟨F,m,λa x h C n=>?_,λa x h C=>?_,λ_ _ h=>h⟩,λS D=>?_⟩
 rcases y h with⟨rfl,rfl⟩|⟨rfl,rfl⟩
 rw[E];rfl
 rcases zed C with h|⟨_,rfl⟩
 cases h
 rw[B]at n;have:v=1:=n;subst this;rfl
 rcases y h with⟨rfl,rfl⟩|⟨rfl,rfl⟩
 exact absurd (by rw[Q];rfl)<|C rfl
 show(c.rw x).ver<(c.rw x).ver+(if b=k0 then v else v-1);cases b with
 | true=>rw[ae rfl];omega
 | false =>have:=C rfl;rw[B]at this;have:v≠1:=this;rw[ac dc];omega
 have e:S=((c.row j ⟨l 1000001,.sli 9 1 l0<|sL out⟩).row p ⟨q,.box 25 [.own j (l 1000001)]⟩).put (n0 i) (.tup []):=by
  refine St.ext2 (λk=>?_) λa=>?_;rw[D.sl];by_cases e:k=i;subst e;rw[cF,cF];rfl;rw[da _ _ _ _ e,da _ _ _ _ e];rfl;rw[iW];by_cases e:a=p;subst e;rw[dw,D.row 1000000 a rfl,Q];have:Hn g A l k0 (.own 1000001 v)=.own j (l 1000001):=by rw[lH,B];show(match n0 j,v==v with|some j,k0=>PV.own j (l 1000001)|_,_=>.junk)=_;rw[du]
  show(⟨q,.box 25 [ren1 g A l k0 (.own 1000001 v)]⟩:Row)=_;rw[show ren1 g A l k0 (.own 1000001 v)=Hn g A l k0 (.own 1000001 v) from rfl,this];rw[bZ _ _ _ _ e];by_cases M:a=j;subst M;rw[dw,D.row 1000001 a rfl,B];rfl;rw[bZ _ _ _ _ M];refine D.off a λb W=>?_;rcases y W with⟨_,h⟩|⟨_,h⟩
  exact e h;exact M h
 rw[e];exact U _
theorem sF[aw]{out:Q0}(b:Bool){a:PV}{d:Nat}(j m:Nat){us:Dm c}{u:Dm K}(k:AG prog f [aU N,fa w,.ref 1000000 1 0] (adR b z) (zee out))(q:c.rw p=⟨d,.box 25 [a]⟩)(o:(b=k0/\a=.v (.slice o0 0 0))\/(b=l0/\a=.own j m/\c.rw j=⟨m,.sli 9 1 l0 (sL z)⟩))(h:j≠p)(r:∀n,K (((c.row j ⟨n,.sli 9 1 l0 (sL out)⟩).row p ⟨d,.box 25 [.own j n]⟩).put (n0 i) (.tup []))):nn prog f g e (tS prog f g [aU N,fa w,.ref p d 0] (n0 i) (kk c us) (kk K u)):=.inr<|.inr<|.inr<|.inr<|zvK k q o h r
def lsR(a:Q0)(i:Nat):Row:=if i=1000000 then⟨1,.sli 9 1 l0 (sL a)⟩else⟨0,.dead⟩
theorem zef(h:(lsR z i).kind.nd=k0):i=1000000:=aC λe=>by unfold lsR at h;rw[ac e]at h;cases h
def znP(out:Q0)(a:S0)(p:PV):Prop:=∃v,0<v/\p=.own 1000000 v/\a 1000000=⟨v,.sli 9 1 l0 (sL out)⟩
theorem jQ(o:lh a<=100)(d:Bool)(w:P0):AG prog 252 [.own 1000000 1,aU d,fa w] (lsR a) (znP (HU a d w)):=by
 refine RY _ func252 λp g z c e=>?_;have i:z.sl 0=.own 1000000 1:=by grind
 have k:z.sl 1=aU d:=by grind
 have l:z.sl 2=fa w:=by rw[c];rfl
 have f:z.rw 1000000=⟨1,.sli 9 1 l0<|sL a⟩:=by rw[e];rfl
 have m:∀j,j<1000000->z.rw j=⟨0,.dead⟩:=λj q=>by rw[e,lsR,ac om]
 have b:lh (sL a)=lh a:=by simp[sL]
 refine Cn i k l f m b ?_;unfold HU;refine⟨λh=>⟨om,?_⟩,λh=>?_⟩;rw[ae h];exact⟨2,dc,rfl,rfl⟩;rw[ac<|by grind];exact⟨1,dc,rfl,f⟩
theorem sG[aw]{out:Q0}{d:Nat}{us:Dm c}{u:Dm K}(E:AG prog f [.own 1000000 1,aU N,fa w] (lsR z) (znP out))(n:c.rw p=⟨d,.sli 9 1 l0 (sL z)⟩)(F:∀B,K ((c.row p ⟨B,.sli 9 1 l0 (sL out)⟩).put (n0 i) (.own p B))):nn prog f g e (tS prog f g [.own p d,aU N,fa w] (n0 i) (kk c us) (kk K u)):=by
 refine .inr<|.inr<|.inr<|.inr<|show askG prog c f [.own p d,aU N,fa w] (n0 i) K from ?_
 let k:Nat->Option Nat:=λa=>if a=1000000 then n0 p else o0
 have m:∀{a x:Nat},k a=n0 x->a=1000000/\x=p:=λ{a x}h=>by grind
 refine⟨_,_,_,k,λ_=>False,E,.one (.own rfl rfl (by rw[n]) rfl)<|.one (.v _)<|.one (.v _) .nil,⟨λa r=>?_,λa G x r t _ _=>(zef r).trans (zef t).symm,λ_ _ _ _ h=>h⟩,λC A⟨v,M,H,o⟩=>?_⟩
 have:=zef r;subst this;exact⟨ab _,Nat.one_pos,p,rfl,by rw[n];exact⟨rfl,rfl,rfl,zan _⟩⟩
 subst H;refine⟨k,λ_=>d+(v-1),k0,⟨λ_ _=>rfl,λa G x h I=>(m h).1.trans (m I).1.symm,λa x h _ l=>?_,λa x h J=>?_,λ_ _ h=>h⟩,λS y=>?_⟩
 obtain⟨rfl,rfl⟩:=m h;rw[o]at l;have:v=1:=l;subst this;rw[n];rfl
 obtain⟨rfl,rfl⟩:=m h;have:=J rfl;rw[o]at this;have:v≠1:=this;rw[n];show d<d+(v-1);omega
 have q:S=(c.row p ⟨d+(v-1),.sli 9 1 l0<|sL out⟩).put (n0 i) (.own p<|d+(v-1)):=by
  refine St.ext2 (λj=>?_) λa=>?_;rw[y.sl];have D:zaX k C (λ_=>d+(v-1)) k0 (.own 1000000 v)=.own p (d+(v-1)):=by show Hn k C (λ_=>d+(v-1)) k0 (.own 1000000 v)=_;rw[lH,o];show(match n0 p,v==v with|some p,k0=>PV.own p (d+(v-1))|_,_=>.junk)=_;rw[du]
  rw[D];by_cases q:j=i;subst q;rw[cF,cF];rw[da _ _ _ _ q,da _ _ _ _ q];rfl;rw[iW];by_cases q:a=p;subst q;rw[dw,y.row 1000000 a rfl,o];rfl;rw[bZ _ _ _ _ q];exact y.off a λb L=>q (m L).2
 rw[q];exact F _
noncomputable def Qs(n:Int)(a:N0):Q0 :=
 HU (HU (HU (HU (HU (HU (HU [] (zy n a) ⟨#[112,117,114,101]⟩) (xd n a).isSome ⟨#[115,104,101,108,108,97,98,108,101]⟩) (WN n a) ⟨#[100,101,99,111,109,112,111,115,97,98,108,101]⟩) (cmO n a 2) ⟨#[102,117,108,108]⟩) (WW n a) ⟨#[102,108,97,103]⟩) (sO n a) ⟨#[99,108,111,115,101,100]⟩) (WT n a) ⟨#[98,97,108,97,110,99,101,100]⟩
noncomputable def Qt(n:Int)(a:N0):P0:=if aS n a=k0 then(if(Qs n a).length=0 then⟨#[45]⟩else qJ (Qs n a) ⟨#[32]⟩)else⟨#[]⟩
def XS(k:Nat)(a:Q0):Prop:=lh a<=k/\∀w∈a,w.size<=12
theorem WI:XS 0 []:=⟨ab _,λ_ h=>by grind⟩
theorem hG(h:XS i z)(b:Bool)(d:w.size<=12):XS (i+1) (HU z b w):=by
 unfold HU;cases b;exact⟨po h.1,h.2⟩;refine⟨by rw[ae rfl,aA,cG];have:=h.1;omega,λx a=>?_⟩;rcases List.mem_append.1 a with a|a
 exact h.2 x a;grind
theorem zbO{m:Nat}{l:Q0}{sep:P0}(h:∀i,i<lh l->(lg l i ⟨#[]⟩).size<=m)(b:sep.size<=1):∀i,i<=lh l->(iy l sep i).size<=(m+1)*i:=by
 intro i;induction i with
 | zero=>exact λ_=>ab _
 | succ i a =>unfold iy;grind
theorem znM:XS 7 (Qs n b):=hG (hG (hG (hG (hG (hG (hG WI _ dc) _ dc) _ dc) _ dc) _ dc) _ dc) _ dc
theorem ON:(∀i,i<=lh (Qs n b)->(iy (Qs n b) ⟨#[32]⟩ i).size<=13*i)/\iy (Qs n b) ⟨#[32]⟩ (Qs n b).length=qJ (Qs n b) ⟨#[32]⟩ :=
 ⟨zbO (λi a=>(znM n b).2 _<|aP _ a)<|ab 1,by simp[jD]⟩
theorem vK:AC prog 56 [.ag [al n,aE b]] (.im (fa (Qt n b))):=by
 refine cA [.tmp 2] func56 λI=>?_;refine aR<|aa (aH n b) ?_;refine aR ?_;unfold Qt;refine⟨λa=>?_,λa=>?_⟩;grind;have a:=ss a;rw[ae a];have B:=fH a;refine aa (nD n b)<|aR ?_;refine sF k0 90 0 (ol k0 [] (λ_=>rfl) dc (zy n b) _) gl (.inl ⟨rfl,rfl⟩) dc λC=>?_;have⟨t,c⟩:∃W,W=HU [] (zy n b) ⟨#[112,117,114,101]⟩:=⟨_,rfl⟩;rw[<- c];have l:XS 1 t:=c ▸ hG WI _ dc;refine aR<|aa (Di n b) ?_;refine aR ?_;refine sF l0 90 C (ol l0 t (λh=>by cases h) (by have:=l.1;omega) _ _) gl (.inr ⟨rfl,rfl,gl⟩) dc λD=>?_;have⟨u,d⟩:∃W,W=HU t ((xd n b).isSome) ⟨#[115,104,101,108,108,97,98,108,101]⟩:=⟨_,rfl⟩;rw[<- d];have m:XS 2 u:=d ▸ hG l _ dc;refine aR<|aa (ye n b) ?_;refine aR ?_;refine sF l0 90 D (ol l0 u (λh=>by cases h) (by have:=m.1;omega) (WN n b) _) gl (.inr ⟨rfl,rfl,gl⟩) dc λE=>?_;have⟨w,f⟩:∃W,W=HU u (WN n b) ⟨#[100,101,99,111,109,112,111,115,97,98,108,101]⟩:=⟨_,rfl⟩;rw[<- f];have o:XS 3 w:=f ▸ hG m _ dc;refine aR<|aa (wV n b 2) ?_;refine aR ?_;refine sF l0 90 E (ol l0 w (λh=>by cases h) (by have:=o.1;omega) _ _) gl (.inr ⟨rfl,rfl,gl⟩) dc λv4=>?_;have⟨x,g⟩:∃W,W=HU w (cmO n b 2) ⟨#[102,117,108,108]⟩:=⟨_,rfl⟩;rw[<- g];have p:XS 4 x:=g ▸ hG o _ dc;refine aR<|aa (Qx n b) ?_;refine aR ?_;refine sF l0 90 v4 (ol l0 x (λh=>by cases h) (by have:=p.1;omega) (WW n b) _) gl (.inr ⟨rfl,rfl,gl⟩) dc λF=>?_;have⟨y,i⟩:∃W,W=HU x (WW n b) ⟨#[102,108,97,103]⟩:=⟨_,rfl⟩;rw[<- i];have q:XS 5 y:=i ▸ hG p _ dc;refine aR ?_;refine aa (qV n b om) ?_;refine aR ?_;refine sF l0 90 F (ol l0 y (λh=>by cases h) (by have:=q.1;omega) (sO n b) _) gl (.inr ⟨rfl,rfl,gl⟩) dc λv6=>?_;have⟨z,j⟩:∃W,W=HU y (sO n b) ⟨#[99,108,111,115,101,100]⟩:=⟨_,rfl⟩;rw[<- j];have r:XS 6 z:=j ▸ hG q _ dc;refine aR<|aa (FP n b) ?_;refine aR ?_;refine sF l0 90 v6 (ol l0 z (λh=>by cases h) (by have:=r.1;omega) (WT n b) _) gl (.inr ⟨rfl,rfl,gl⟩) dc λJ=>?_;have⟨s,k⟩:∃W,W=HU z (WT n b) ⟨#[98,97,108,97,110,99,101,100]⟩:=⟨_,rfl⟩;rw[<- k];have A:XS 7 s:=k ▸ hG r _ dc;refine aR ?_;have G:s=Qs n b:=by rw[k,j,i,g,f,d,c];rfl
 have⟨j1,j2⟩:=ON n b;rw[<- G]at j1 j2 ⊢;have H:=A.1;refine⟨λh=>?_,λh=>?_⟩;grind;rw[ac<|by grind];have j3:=j1 (lh s)<|ab _;rw[j2]at j3;refine aa (kA s _ om om) ?_;exact ef
theorem vL:AC prog 171 [.ag [al n,aE b]] (.im (fa (Qt n b))):=by
 refine cA [.tmp 2] func171 λG=>?_;refine aR ?_;refine aa (bw n b) ?_;refine aR ?_;unfold Qt;refine⟨λa=>?_,λa=>?_⟩;grind;have a:=ss a;rw[ae a];have C:=fH a;refine aa (nC n b) ?_;refine aR ?_;refine sG (jQ [] dc (zy n b) _) xs0 λH=>?_;have⟨t,c⟩:∃W,W=HU [] (zy n b) ⟨#[112,117,114,101]⟩:=⟨_,rfl⟩;rw[<- c];have m:XS 1 t:=c ▸ hG WI _ dc;refine aR ?_;refine aa (Dk n b) ?_;refine aR ?_;refine sG (jQ t (by have:=m.1;omega) _ _) xs0 λI=>?_;have⟨u,d⟩:∃W,W=HU t ((xd n b).isSome) ⟨#[115,104,101,108,108,97,98,108,101]⟩:=⟨_,rfl⟩;rw[<- d];have o:XS 2 u:=d ▸ hG m _ dc;refine aR<|aa (yf n b) ?_;refine aR ?_;refine sG (jQ u (by have:=o.1;omega) (WN n b) _) xs0 λJ=>?_;have⟨w,f⟩:∃W,W=HU u (WN n b) ⟨#[100,101,99,111,109,112,111,115,97,98,108,101]⟩:=⟨_,rfl⟩;rw[<- f];have p:XS 3 w:=f ▸ hG o _ dc;refine aR ?_;refine aa (wW n b 2) ?_;refine aR ?_;refine sG (jQ w (by have:=p.1;omega) _ _) xs0 λv4=>?_;have⟨x,g⟩:∃W,W=HU w (cmO n b 2) ⟨#[102,117,108,108]⟩:=⟨_,rfl⟩;rw[<- g];have q:XS 4 x:=g ▸ hG p _ dc;refine aR<|aa (Qy n b) ?_;refine aR ?_;refine sG (jQ x (by have:=q.1;omega) (WW n b) _) xs0 λK=>?_;have⟨y,j⟩:∃W,W=HU x (WW n b) ⟨#[102,108,97,103]⟩:=⟨_,rfl⟩;rw[<- j];have r:XS 5 y:=j ▸ hG q _ dc;refine aR ?_;refine aa (qW n b om) ?_;refine aR ?_;refine sG (jQ y (by have:=r.1;omega) (sO n b) _) xs0 λv6=>?_;have⟨z,k⟩:∃W,W=HU y (sO n b) ⟨#[99,108,111,115,101,100]⟩:=⟨_,rfl⟩;rw[<- k];have s:XS 6 z:=k ▸ hG r _ dc;refine aR ?_;refine aa (FQ n b) ?_;refine aR ?_;refine sG (jQ z (by have:=s.1;omega) (WT n b) _) xs0 λL=>?_;have⟨A,l⟩:∃W,W=HU z (WT n b) ⟨#[98,97,108,97,110,99,101,100]⟩:=⟨_,rfl⟩;rw[<- l];have B:XS 7 A:=l ▸ hG s _ dc;refine aR ?_;have D:A=Qs n b:=by rw[l,k,j,g,f,d,c];rfl
 have⟨j1,j2⟩:=ON n b;rw[<- D]at j1 j2 ⊢;have E:=B.1;refine⟨λh=>?_,λh=>?_⟩;grind;rw[ac<|by grind];refine aa (qI A _ om<|λi F=>by
  have:=j1 i F;have e:(ByteArray.mk #[32]).size=1:=rfl;omega) ?_
 rw[j2];exact ef
theorem zd0:plain (sL a):=by have:=zkN a;unfold plain;rw[this];trivial
def txQ(rv:RV):Prop:=∃w,rv=.im (fa w)/\w.size<=40000
theorem IN(t:lh l<=9223372036854775806){v j a:Nat}{us:Dm c}{u:Dm K}{d:Nat}(q:c.rw p=⟨v,.box TC [.sl N 1 (kL .u8 l),al d,al k]⟩)(r:c.rw j=⟨a,.sli 9 1 l0 (sL z)⟩)(x:∀(w:P0)(f:Nat)(h:Int),w.size<=40000->K (br (c.row p ⟨v,.box TC [.sl l0 1 (kL .u8 l),.v (.int .i64 (f:Int)),.v (.int .i64 h)]⟩) i (.im (fa w))))(m:(i%1000==p%1000)=false:=by rfl)(n:(i%1000==j%1000)=false:=by rfl)(o:(p%1000==j%1000)=false:=by rfl)(y:0<lh z:=by decide)(fr:lh z<=1000000:=by decide)(A:∀w∈z,w.size<=40000:=by decide) :
 nn prog 29 g e (tS prog 29 g [.ref p v 0,.own j a] (n0 i) (kk c us) (kk K u)) :=
 ka (Np l t z y fr) (.some r (zd0 z)) q (.one (yx (by rw[q])) (.one (ZK (by rw[r])) .nil)) m (λ_ s=>by cases s;exact⟨n,o⟩) λrv f h⟨w,s,B⟩=>by subst s;exact x w f h (A w B)
theorem MT(c:b.length<=9223372036854775806):RB prog 15 TC b ⟨0,.dead⟩ [] txQ:=by
 intro i h;refine RY [.tmp 2] func15 λA _ s f p=>?_;have l:s.rw 1000000=⟨1,.box TC [.sl l0 1 (kL .u8 b),al i,al h]⟩:=by rw[p];rfl
 have o:s.rw 1000500=⟨0,.dead⟩:=by rw[p];rfl
 have a:∀k,k<1000000->s.rw k=⟨0,.dead⟩:=λk r=>by rw[p];exact ZF r
 refine iD f l a ?_;refine ka (kb b c 9 dc) .none (xs2 l a) (GvL.one (yx (xs2 l a)) (by repeat (first|exact GvL.nil|refine GvL.one (GvA.v _) ?_|refine GvL.one (GvA.sl _ _ _) ?_))) rfl (λ_ h=>by cases h) λrv B C⟨x,d,D⟩=>?_;subst d;refine iD f l a ?_;refine⟨λh=>?_,λ_=>⟨λh=>?_,λ_=>⟨λh=>?_,λ_=>⟨λh=>?_,λ_=>⟨λh=>?_,λ_=>?_⟩⟩⟩⟩⟩
 ·refine ka (kb b c 4 dc) .none (xs2 l a) (GvL.one (yx (xs2 l a)) (by repeat (first|exact GvL.nil|refine GvL.one (GvA.v _) ?_|refine GvL.one (GvA.sl _ _ _) ?_))) rfl (λ_ h=>by cases h) λrv g j⟨y,d,t⟩=>?_;subst d;obtain⟨m,rfl,E⟩:=DU (n:=4) dc t;have e:D0.i64.wrap (1+(m:Int))=((m+1:Nat):Int):=by rw[aF om om];omega
  refine ox f l a e ?_;refine ka (Nj b c (m+1) om om) .none (xs2 l a) (GvL.one (yx (xs2 l a)) (by repeat (first|exact GvL.nil|refine GvL.one (GvA.v _) ?_|refine GvL.one (GvA.sl _ _ _) ?_))) rfl (λ_ h=>by cases h) λrv u z⟨n,q,d,F⟩=>?_;subst d;refine iD f l a ?_;refine aa (sU n q) ?_;have G:=Tw n q;refine iD f l a ?_;refine⟨by show 8+_<=_;omega,?_⟩;exact⟨_,u,z,_,⟨_,rfl,by rw[aI];show 8+_<=_;omega⟩,.one (.lf (.im _)),fS,by simp -dsimp only[gr,simprocAttr,l]<;>rfl,by simp -dsimp only[gr,simprocAttr,o]⟩
 ·refine IN c (Eo l) (Eo a) λw g j e=>?_;refine iD f l a ?_;exact⟨_,g,j,_,⟨w,rfl,e⟩,.one (.lf (.im _)),fS,by simp -dsimp only[gr,simprocAttr,l]<;>rfl,by simp -dsimp only[gr,simprocAttr,o]⟩
 ·refine IN c (Eo l) (Eo a) λw g j e=>?_;refine iD f l a ?_;exact⟨_,g,j,_,⟨w,rfl,e⟩,.one (.lf (.im _)),fS,by simp -dsimp only[gr,simprocAttr,l]<;>rfl,by simp -dsimp only[gr,simprocAttr,o]⟩
 ·refine IN c (Eo l) (Eo a) λw g j e=>?_;refine iD f l a ?_;exact⟨_,g,j,_,⟨w,rfl,e⟩,.one (.lf (.im _)),fS,by simp -dsimp only[gr,simprocAttr,l]<;>rfl,by simp -dsimp only[gr,simprocAttr,o]⟩
 ·refine IN c (Eo l) (Eo a) λw g j e=>?_;refine iD f l a ?_;exact⟨_,g,j,_,⟨w,rfl,e⟩,.one (.lf (.im _)),fS,by simp -dsimp only[gr,simprocAttr,l]<;>rfl,by simp -dsimp only[gr,simprocAttr,o]⟩
 ·repeat' first|apply And.intro|intro _
  all_goals
   refine IN c (Eo l) (Eo a) λw g j e=>?_
   refine iD f l a ?_
   exact⟨_,g,j,_,⟨w,rfl,e⟩,.one (.lf (.im _)),fS,by simp -dsimp only[gr,simprocAttr,l]<;>rfl,by simp -dsimp only[gr,simprocAttr,o]⟩
theorem RD(h:∀x∈z,x.size<=40000)(b:w.size<=40000):∀x∈z++[w],x.size<=40000:=λx a=>by rcases List.mem_append.1 a with a|a;exact h x a;rw[List.mem_singleton.1 a];exact b
theorem Ek(d:b.length<=9223372036854775806):ADr prog 5 [.sl l0 1 (kL .u8 b)] (λrv=>∃w,rv=.im (fa w)/\w.size<=2000000):=by
 refine RY [.tmp 2] func5 λK _ s q c=>?_;refine ff q c ?_;refine RC (Rn b) (.one (.sl _ _ _) .nil) λM=>?_;refine ff q c ?_;refine ka (kb b d 6 dc) .none (Eo c) (GvL.one (yx (Eo c)) (by repeat (first|exact GvL.nil|refine GvL.one (GvA.v _) ?_|refine GvL.one (GvA.sl _ _ _) ?_))) rfl (λ_ h=>by cases h) λrv O P⟨x,a,E⟩=>?_;subst a;obtain⟨m,rfl,Q⟩:=DU (n:=6) dc E;obtain⟨N,r,F⟩:∃N:Nat,D0.i64.wrap (1+(m:Int))=(N:Int)/\N<=41:=⟨m+1,by rw[aF om om];omega,om⟩;refine iD q c r ?_;refine ka (Ex b d 16 dc) .none (Eo c) (GvL.one (yx (Eo c)) (by repeat (first|exact GvL.nil|refine GvL.one (GvA.v _) ?_|refine GvL.one (GvA.sl _ _ _) ?_))) rfl (λ_ h=>by cases h) λrv R S⟨e,a⟩=>?_;subst a;refine ff q c ?_;refine⟨λ_=>?_,λ_=>?_⟩;refine ka (kb b d 3 dc) .none (Eo c) (GvL.one (yx (Eo c)) (by repeat (first|exact GvL.nil|refine GvL.one (GvA.v _) ?_|refine GvL.one (GvA.sl _ _ _) ?_))) rfl (λ_ h=>by cases h) λrv A B⟨y,a,G⟩=>?_;subst a;obtain⟨p,rfl,U⟩:=DU (n:=3) dc G;obtain⟨N,r,F⟩:∃N:Nat,D0.i64.wrap (39+(p:Int))=(N:Int)/\N<=41:=⟨p+39,by rw[aF om om];omega,om⟩;refine iD q c r ?_
 all_goals
  refine az (λ(H:Nat×Nat×Nat×Int×Q0)s=>match H with|(k,v,j,g,L)=>(s.sl 3=.ref 8 1 0/\s.rw 8=⟨1,.box TC [.sl l0 1 (kL .u8 b),al j,al g]⟩/\s.sl 4=.own 9 v/\s.rw 9=⟨v,.sli 9 1 l0 (sL L)⟩/\s.sl 5=al N/\s.sl 6=al k)/\(k<=N/\L.length=k/\∀w∈L,w.size<=40000)) (λ(k,v,j,g,L)=>N-k) ((0,1,_,_,[])) ⟨(fB q c r),⟨aB _,rfl,λw h=>by cases h⟩⟩ ?_
  intro(k,v,j,g,L) V ⟨f,t⟩
  obtain⟨W,C,o⟩:=t
  refine cZ f ?_
  refine⟨λu=>⟨λI=>?_,λI=>?_⟩,λu=>?_⟩
  ·exact⟨om,ah ((k+1,v+1,j,g,L++[⟨#[115,104,111,119]⟩])) ⟨(gE f (ak (show k<N by omega) om)),⟨by dsimp only;omega,by simp[C],RD o dc⟩⟩⟩
  ·refine ka (MT b d) .none (Eo f) (GvL.one (yx (Eo f)) (by repeat (first|exact GvL.nil|refine GvL.one (GvA.v _) ?_|refine GvL.one (GvA.sl _ _ _) ?_))) rfl (λ_ h=>by cases h) λrv A B⟨w,a,J⟩=>?_;subst a;refine cZ f ?_;exact⟨om,ah ((k+1,v+1,A,B,L++[w])) ⟨(gE f (ak (show k<N by omega) om)),⟨by dsimp only;omega,by simp[C],RD o J⟩⟩⟩
  ·have D:=zbO (m:=40000) (l:=L) (sep:=⟨#[10]⟩) (λi z=>o _ (aP ⟨#[]⟩ z)) (ab 1);refine aa (qI L ⟨#[10]⟩ om λi z=>?_) ?_
   ·have:=D i z;show _+1<=_;omega
   refine cZ f ?_;have:=D L.length (ab _);exact⟨_,_,⟨_,rfl,om⟩,.one (.lf (.im _)),sp⟩
theorem qo(h:-9223372036854775808<n)(b:n<=9223372036854775807):AC prog 365 [al n] (.im (al (n.natAbs:Nat))):=by
 refine cA [.tmp 2] func365 λc=>?_;have a:D0.i64.wrap (0-n)=-n:=by rw[aF om om];omega
 refine cZ a<|aa (DS _ _) ?_;have e:max n (-n)=n.natAbs:=om;exact mg e
def Vr(s:SP):Int:=match s with|none=>-1|some (r,_)=>r
def Vu(s:SP):Int:=match s with|none=>-1|some (_,c)=>c
def Sm2(n m a:Nat)(e:X0):Prop:=∀i j,a<=i->i<n->a<=j->j<m->-1000<=e i j/\e i j<=1000
theorem JZ(e:X0)(n m a:Nat)(V:n<=900)(W:m<=900)(X:a<=n)(G:a<=m)(L:Sm2 n m a e):AC prog 366 [hY (cz n m e),al a] (.tup [.im (al (Vr (th (CM e) a m (n-a)))),.im (al (Vu (th (CM e) a m (n-a))))]):=by
 refine cA [.tmp 4,.tmp 5] func366 λY=>?_;have b:=fw (n:=n) (m:=m) (e:=e);refine aR ?_;refine az (λ(t:Nat)s=>(s.sl 0=hY (cz n m e)/\s.sl 1=al a/\s.sl 6=al (Vr<|th (CM e) a m t)/\s.sl 7=al (Vu<|th (CM e) a m t)/\s.sl 8=al (a+t:Nat))/\(a+t<=n)) (λt=>n-t) (0) ⟨nm,om⟩ ?_;intro t Z ⟨H,N⟩;refine iD H @bU b ?_;refine⟨λO=>?_,λO=>?_⟩;have d:a+t<n:=om;have h:=cr (m:=m) (e:=e) d;refine az (λ(u:Nat)s=>(s.sl 0=hY (cz n m e)/\s.sl 1=al a/\s.sl 6=al (Vr<|XR (CM e) a (a+t) (th (CM e) a m t) u)/\s.sl 7=al (Vu<|XR (CM e) a (a+t) (th (CM e) a m t) u)/\s.sl 8=al (a+t:Nat)/\s.sl 9=al (a+u:Nat))/\(a+u<=m)) (λu=>m-u) (0) ⟨(jX H),om⟩ ?_;intro u sb ⟨j,I⟩;have q:=zmx (zdF (e:=e) G t) om u I;have f:XR (CM e) a (a+t) (th (CM e) a m t) (u+1)=CM e (XR (CM e) a (a+t) (th (CM e) a m t) u) (a+t) (a+u):=rfl;rcases bf (a+u) m with p|p
 have i:=dz (e:=e) d p;have P:=L _ _ om d om p;have g:(((a+u:Nat):Int)<(m:Int))=True:=bO om;have z:=ak p om;generalize XR (CM e) a (a+t) (th (CM e) a m t) u=Q at *;by_cases B:e (a+t) (a+u)=0;rw[zmv B]at f;refine xA j @bU b h g i B ?_;exact⟨d,d,kr,d,d,p,ah (u+1) ⟨(fB j f z),om⟩⟩;have k:(e (a+t) (a+u) != 0)=true:=bne_iff_ne.2 B
 match Q,q with
 | none,_ =>rw[zmw B]at f;have w:Vr o0=-1:=rfl;have x:Vu o0=-1:=rfl;have A:Vr (n0 (a+t,a+u))=((a+t:Nat):Int):=rfl;have J:Vu (n0 (a+t,a+u))=((a+u:Nat):Int):=rfl;simp only[↓gp,gq,simprocAttr,gT,j,bU,b,h,g,i,k,w,x];exact⟨d,d,kr,d,d,p,ah (u+1) ⟨(DM j f z A J),om⟩⟩
 | some (r,c),q =>have⟨⟨R,S,F,q4⟩,_⟩:=q;have w:Vr (n0 (r,c))=(r:Int):=rfl;have x:Vu (n0 (r,c))=(c:Int):=rfl;have C:r<n:=om;have l:=dz (e:=e) C F;have o:=cr (m:=m) (e:=e) C;have M:=L _ _ R C S F;have A:((r:Int)<0)=False:=aX om;simp only[↓gp,gq,simprocAttr,gT,j,bU,b,h,g,i,k,w,x,A];refine⟨d,d,kr,d,d,p,d,d,p,aa (qo _ om om) ?_⟩;simp only[↓gp,gq,simprocAttr,gT,j,bU,b,h,g,i,k,w,x,A,o,l];refine⟨C,C,F,F,aa (qo (e r c) om om) ?_⟩;by_cases D:(e (a+t)<|a+u).natAbs<(e r c).natAbs;have J:Vr (n0 (a+t,a+u))=((a+t:Nat):Int):=rfl;have U:Vu (n0 (a+t,a+u))=((a+u:Nat):Int):=rfl;rw[zp9 B D]at f;have y:(((e (a+t)<|a+u).natAbs:Int)<((e r c).natAbs:Int))=True:=bO om;simp only[↓gp,gq,simprocAttr,gT,j,bU,b,h,g,i,k,w,x,A,o,l,y];exact ah (u+1) ⟨(DM j f z J U),om⟩;rw[ztk D]at f;simp only[↓gp,gq,simprocAttr,gT,j,bU,b,h,g,i,k,w,x,A,o,l,aX om];exact ah (u+1) ⟨(DM j f z w x),om⟩
 have g:(((a+u:Nat):Int)<(m:Int))=False:=aX om;have K:u=m-a:=om;have E:th (CM e) a m (t+1)=XR (CM e) a (a+t) (th (CM e) a m t) u:=by rw[K];rfl
 refine nN j @bU b h g ?_;exact⟨d,d,ah (t+1) ⟨(rS H j E (ak d om)),om⟩⟩;have:t=n-a:=om;rw[this];exact⟨rfl,rfl⟩
theorem Ra{q:O0}{a b:Nat}(c:a<lh q)(d:b<lh q):((q.set a (lg q b 0)).set b (lg q a 0)).Perm q:=by
 grind
theorem LO(e:X0)(n m a r c:Nat)(S:n<=900)(U:m<=900)(o:a<n)(k:a<m)(p:r<n)(D:c<m):AT prog 367 [.own 1000000 1,al a,al r,al c] 29 3 ((cz n m e).map iL) ((cz n m λi j=>e (ua a r i) (ua a c j)).map iL) .self:=by
 have d:=λe=>fw (n:=n) (m:=m) (e:=e);refine AT.goI (rs:=[.tmp 8]) tk mixed func367 rfl rfl rfl kr (by rw[d,d]) λV s F w y=>?_;rw[d]at y ⊢;have L:lh (lc n)=n:=sp;have z:=Ra (q:=lc n) (a:=r) (b:=a) om om;have M:=y.row (i:=r) (by rw[d];exact p);have N:=y.row (i:=a) (by rw[d];exact o);refine nN F w @y.top M N ?_;refine⟨p,p,o,o,p,om,o,om,?_⟩;have G:∀rw',rw' 1000000=⟨1,.tab 29 (cy 1000000 (((lc n).set r (lg (lc n) a 0)).set a (lg (lc n) r 0)))⟩->(∀x,rw' (dq 1000000 x)=s.rw (dq 1000000 x))->TabI rw' 1000000 1 29 3 _ (cz n m _):=λrw' t O=>by exact(y.swap (rw':=rw') (a:=r) (b:=a) (by rw[d];exact p) (by rw[d];exact o) t O).1.to (by rw[<- zbe o p,za7];rfl)
 refine az (λ(i:Nat)s=>(s.sl 0=.own 1000000 1/\s.sl 1=al a/\s.sl 2=al r/\s.sl 3=al c/\s.sl 10=al i)/\(i<=n/\TabI s.rw 1000000 1 29 3 _ (cz n m λf j=>if f<i then e (ua a r f) (ua a c j)else e (ua a r f) j))) (λi=>n-i) (0) ⟨(jX F),⟨om,G _ (rp F) (λx=>by simp only[gr,simprocAttr,F])⟩⟩ ?_;intro i W ⟨u,H⟩;have⟨X,g⟩:=H;generalize ((lc n).set r _).set a _=q at *;have A:lh q=n:=by rw[g.len,d]
 generalize I:(λf j=>if f<i then e (ua a r f) (ua a c j)else e (ua a r f) j)=E at *;rcases bf i n with h|h
 have B:=g.row (i:=i) (by rw[d];exact h);have C:=cr (m:=m) (e:=E) h;have l:((i:Int)<(n:Int))=True:=bO om;refine Cn u @g.top A l B C ?_;refine⟨h,D,D,kr,h,h,k,k,D,om,kr,h,?_⟩;have J:∀j,E i j=e (ua a r i) j:=λj=>by rw[<- I];simp
 have K:cz n m (λf j=>if f<i+1 then e (ua a r f) (ua a c j)else e (ua a r f) j)=(cz n m E).set i (((lg (cz n m E) i []).set c (lg (lg (cz n m E) i []) a 0)).set a (lg (lg (cz n m E) i []) c 0)):=by refine(zbc h (by rw[de,de,C]) (λj P=>?_) λf j _ _ Q=>?_).symm;rw[zhc om om,dz h (Hw k D P),J,ae (dD i)];grind
 refine⟨k,om,ah (i+1) ⟨(gE u (ak h om)),⟨om,?_⟩⟩⟩;rw[K];exact g.set (by rw[d];exact h) (rp u) (rp u) (λx R=>by simp only[gr,simprocAttr,u,R]);obtain rfl:i=n:=om;have l:((i:Int)<(i:Int))=False:=aX om;refine ox u @g.top A l ?_;refine pT ((g.same gl (λx=>gl)).to ?_) z;rw[<- I];exact dV λf j t _=>ae t
end Go.Proofs.YtchlggfghabgoaaGreatDoor
