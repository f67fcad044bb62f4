/- DERIVED by an AI agent. -/
import Derived.Test.YtijabbemjaioeaaGreatDoorQ4
import Derived.Test.YtijabbemjaioeaaGreatDoorP2
set_option linter.all false
namespace Go.Proofs.YtijabbemjaioeaaGreatDoor
open Bool renaming true→k0,false→l0
open Option renaming some→n0,none→o0
open Go renaming IntKind→D0
open List renaming range→lc,replicate→ld,getD→lg,length→lh
open Go.Proofs.Tryz
open Go.Abs
variable (a:Q0)(n:Int)(m:Nat)(c:N0)(d:Int)(L:O0)(s:Nat)(j:Nat){b:N0}{i p x:Nat}{l:Q0}{K:St->Prop}{g:M0}{e:RV->Prop}{f:FuncId}{h:Int}{k:St}{w:P0}{N:Bool}{o:O0}{q:Ent->St->Prop}{r:Int->Bool}
def Lw(a:N0)(i j:Nat):Bool:=(XQ a i).testBit j
theorem UN:lh (vT c s)=s:=by simp[vT]
theorem HZ(S:s<=6)(K:j<=6):∀(r i:Nat)(k:N0),i+r=j->lh k=j ->
 AM prog 334 [.own 1000000 1,.own 1000001 1,al i,al s] [⟨3,1,iL (vT c j)⟩,⟨3,1,iL k⟩] [iL (vT c j),iL (XT (Lw c) s r i k).2] (.bool (XT (Lw c) s r i k).1):=by
 intro r
 induction r with
 | zero =>
   intro i k L J
   refine AM.go (rs:=[.tmp 8]) tk mixed func334 rfl rfl rfl kr (ic (dJ _)<|ic (dJ _) mi) (ia (dJ _)<|ia (dJ _) mh) rfl λM=>?_
   have f:=UN c j
   refine cZ f ?_
   refine⟨λ_=>⟨rfl,rfl⟩,λh=>absurd h<|by rw[show(i:Int)=j by omega];simp⟩
 | succ r N =>
   intro i k L J
   refine AM.go (rs:=[.tmp 8]) tk mixed func334 rfl rfl rfl kr (ic (dJ _)<|ic (dJ _) mi) (ia (dJ _)<|ia (dJ _) mh) rfl λM=>?_
   have f:=UN c j
   refine cZ f ?_
   refine⟨λh=>absurd (beq_iff_eq.1 h) om,λ_=>?_⟩
   refine az (λ((x,d):Nat×N0) a=>(a.sl 0=.own 1000000 1/\a.rw 1000000=⟨1,.sli 3 1 l0<|iL<|vT c j⟩/\a.sl 1=.own 1000001 1/\a.rw 1000001=⟨1,.sli 3 1 l0<|iL d⟩/\a.sl 2=al i/\a.sl 3=al s/\a.sl 9=al x)/\(x<=s/\d.length=j/\cfL (λx k=>yg (Lw c) i x k i) i (XT (Lw c) s r<|i+1) (s-x) x d=XT (Lw c) s (r+1) i k)) (λ(x,d)=>s-x) ((0,k)) ⟨nm,⟨aB _,J,rfl⟩⟩ ?_
   intro(x,d) U ⟨w,B⟩
   have⟨P,l,b⟩:=B
   refine iD w f l ?_
   refine⟨λC=>?_,λC=>?_⟩
   have g:i<j:=om;have D:s-x=(s-(x+1))+1:=om;rw[D,cfL]at b;have E:=zon (gs:=c) g;have q:yg (Lw c) i x d 0=true:=rfl;refine az (λ(n:Nat)a=>(a.sl 0=.own 1000000 1/\a.rw 1000000=⟨1,.sli 3 1 l0<|iL<|vT c j⟩/\a.sl 1=.own 1000001 1/\a.rw 1000001=⟨1,.sli 3 1 l0<|iL d⟩/\a.sl 2=al i/\a.sl 3=al s/\a.sl 9=al x/\a.sl 10=aU (yg (Lw c) i x d n)/\a.sl 11=al n)/\(n<=i)) (λn=>i-n) (0) ⟨(gE w q),aB _⟩ ?_;intro n V ⟨m,Q⟩;refine iD m f l ?_;refine⟨λy=>?_,λy=>?_⟩
   have F:D0.u64.wrap (n:Int)=(n:Int):=dm om;have t:(fu .i64 (wH .i64 ((XQ c i:Nat):Int) (n:Int)) 1==1)=Lw c i n:=CL (by have:=zml c i;omega) om;have o:=zbT (Lw c) i x d n;refine Cn m f l F E t ?_;refine⟨g,g,λz=>⟨om,om,λG=>?_,λG=>?_⟩,λz=>?_⟩
   have e:yg (Lw c) i x d (n+1)=false:=by rw[o,z,ay<|beq_iff_eq.1 G];simp
   exact ah (n+1) ⟨(fB m e<|ak y om),om⟩
   have e:yg (Lw c) i x d (n+1)=yg (Lw c) i x d n:=by rw[o,z,aD<|beq_eq_false_iff_ne.1 G];simp
   exact ah (n+1) ⟨(fB m e<|ak y om),om⟩
   have e:yg (Lw c) i x d (n+1)=yg (Lw c) i x d n:=by rw[o,z];simp
   exact ah (n+1) ⟨(fB m e<|ak y om),om⟩
   have:n=i:=om;subst this;refine⟨λp=>?_,λp=>?_⟩
   have p:yg (Lw c) n x d n=false:=ss p
   rw[ac<|by rw[p];decide]at b;exact ah ((x+1,d)) ⟨(fB w m<|ak C om),⟨by dsimp only;omega,l,b⟩⟩
   have p:yg (Lw c) n x d n=true:=ss p
   rw[ae p]at b;have u:lh (d.set n (x:Int))=j:=by rw[de];exact l
   have H:=N (n+1) (d.set n x) om u;have I:=WV (Lw c) s j r (n+1) (d.set n x) u;have R:D0.i64.wrap ((n:Int)+1)=((n+1:Nat):Int):=ak g om;rw[R];refine⟨g,g,oJ H [(1000000,1),(1000001,1)] (by repeat (first|exact GiveL.nil|refine GiveL.v ?_|refine GiveL.clo ?_|refine GiveL.own 0 rfl ?_|refine GiveL.own 1 rfl ?_|refine GiveL.ag ?_ ?_)) ⟨by simp only[gr,simprocAttr,m],by simp only[gr,simprocAttr,m],trivial⟩ dc ?_⟩;refine cZ m ?_;refine⟨λA=>?_,λA=>?_⟩
   rw[ae A]at b;rw[<- b,A];exact⟨rfl,rfl⟩
   rw[ac<|by rw[A];decide]at b;exact ah ((x+1,(XT (Lw c) s r (n+1)<|d.set n (x:Int)).2)) ⟨(fB w m<|ak C om),⟨by dsimp only;omega,I,b⟩⟩
   have e:s-x=0:=om;rw[e,cfL]at b;rw[<- b];exact⟨rfl,rfl⟩
def UO(a:N0)(i j:Nat):Bool:=ao a (2^i+2^j)
noncomputable def fcO(n:Int)(a:N0)(k:Int):Option N0:=if aS n a=k0/\(1<=k/\k<=6)then Lx (UO a) k.toNat n.toNat []else o0
theorem zt1{e a:W0}(h:∀j,j<x->e i j=a i j)(c:N0):yg e i p c x=yg a i p c x:=by unfold yg;grind
theorem UP{ok a:V0}{g b:Nat->Option N0}(c:∀x,ok x=a x)(d:∀x,g x=b x):∀m x,fdL ok g m x=fdL a b m x
 | 0,_=>rfl
 | m+1,x=>by rw[fdL,fdL,c,d,UP c d m<|x+1]
theorem znT{b a:W0}{n:Nat}(k:Nat)(h:∀i j,i<n->j<i->b i j=a i j):∀(r:Nat)(head:N0),lh head+r=n->Lx b k r head=Lx a k r head
 | 0,_,_=>rfl
 | r+1,head,d=>UP (λx=>zt1 (λj c=>h _ j om c) _) (λx=>znT k h r _<|by grind) k 0
theorem zqW:∀s,s<64->∀i,i<6->∀j,j<6->(!(aQ s==2)||!s.testBit i||!s.testBit j||!decide (i≠j)||(s==2^i+2^j))=true:=by decide +kernel
theorem zqX:∀i,i<6->∀j,j<6->(!decide (i≠j)||(decide (2^i+2^j<64)&&(aQ (2^i+2^j)==2)&&(2^i+2^j).testBit i&&(2^i+2^j).testBit j))=true:=by decide +kernel
theorem zvP(c:aS (i:Int) b=k0)(r:i<=6)(t:p<i)(u:x<p):Lw (goL i b) p x=UO b p x:=by
 have e:goL (i:Int) b=bl _:=ae c;have a:∀m∈goL (i:Int) b,m.toNat<64:=λm a=>by rw[e]at a;obtain⟨s,d,rfl⟩:=List.mem_map.1 a;simpa using(fI.1 d).1
 unfold Lw UO;rw[Wj _ _ _ a,e,aZ];rw[adj,cS];have f:=zqX p om x om;constructor;rintro⟨m,a,h⟩;obtain⟨s,d,rfl⟩:=List.mem_map.1 a;obtain⟨g,k,l⟩:=fI.1 d;have:=zqW s g p om x om;grind;intro h;rw[ay om]at f;obtain⟨⟨⟨n,o⟩,j⟩,q⟩:((2^p+2^x<64/\aQ _=2)/\(2^p+2^x).testBit p=k0)/\(2^p+2^x).testBit x=true:=ss f;refine⟨((2^p+2^x:Nat):Int),List.mem_map.2 ⟨_,fI.2 ⟨n,h,o⟩,rfl⟩,?_⟩;grind
theorem zw:AC prog 297 [.ag [al n,aE c],al d] (.tup [.fr 3 1 (iL ((fcO n c d).getD [])),.im (aU (fcO n c d).isSome)]):=by
 refine cA [.tmp 4,.tmp 5] func297 λG=>?_;refine aR<|aa (OS n c) ?_;refine aR ?_;have k:¬(aS n c=k0/\(1<=d/\d<=6))->[]=iL ((fcO n c d).getD [])/\(fcO n c d).isSome=false:=λh=>by rw[show fcO n c d=o0 from ac h];decide
 refine⟨λg=>⟨λu=>⟨λw=>k λh=>om,λw=>?_⟩,λu=>k λh=>om⟩,λg=>k λh=>by grind⟩;have b:=ss g;have r:=cY.1 b;obtain⟨m,rfl⟩:∃m:Nat,n=m:=⟨n.toNat,by have:=r.1;omega⟩;obtain⟨q,rfl⟩:∃q:Nat,d=q:=⟨d.toNat,om⟩;have e:m<=6:=by have:=r.2.1;omega
 have y:goN _ c=m:=ae b;have z:fcO m c q=Lx (Lw<|goL m c) q m []:=by rw[fcO,ae ⟨b,om,om⟩,ar,ar];exact(znT q (λi j A B=>zvP b e A B) m [] sp).symm
 have o:∀x∈goL _ c,0<=x/\x<64:=λx p=>by rw[show goL _ c=bl _ from ae b]at p;obtain⟨s,C,rfl⟩:=List.mem_map.1 p;have:=(fI.1 C).1;omega
 rw[y,z];obtain⟨D,E⟩:=zt2 (Lw<|goL m c) q m;refine⟨om,om,om,aa (Ds m e _ o) ?_⟩;have a:=HZ (goL m c) q m om e m 0 (ld m 0) om sp;generalize goL _ c=t at *;refine aR ?_;refine oJ a [(28,1),(26,1)] (by repeat (first|exact GiveL.nil|refine GiveL.v ?_|refine GiveL.clo ?_|refine GiveL.own 0 rfl ?_|refine GiveL.own 1 rfl ?_|refine GiveL.ag ?_ ?_)) ⟨by simp[gr],by simp[gr],trivial⟩ dc ?_;refine aR ?_;refine⟨λf=>?_,λf=>?_⟩;cases F:Lx (Lw t) q m []with
 | none=>decide
 | some l=>grind
 grind
theorem OR(u:aS (m:Int) c=k0)(hk:s<=6):∀(r:Nat)(head:N0),lh head+r=m ->
 AF prog 375 [.ag [al m,aE c],al s] (iL head) 3 (iL ((Lx (UO c) s r head).getD [])) (Lx (UO c) s r head).isSome:=by
 have W:m<=6:=by have:=(cY.1 u).2.1;omega
 have K:=dM u
 intro r
 induction r with
 | zero =>
   intro head X
   unfold AF
   refine Sx [.tmp 6,.tmp 7] func375 λY L z i q=>?_
   have D:z.sl 0=.ag [al m,aE c]:=by rw[i];rfl
   have E:z.sl 1=al s:=by rw[i];rfl
   have F:z.sl 2=.own 1000000 1:=by rw[i];rfl
   have w:z.rw 1000000=⟨1,.sli 3 1 l0 (iL head)⟩:=by rw[q,uD]
   have G:∀j,j<1000000->z.rw j=⟨0,.dead⟩:=λj p=>by rw[q,GV _ _ om]
   clear i q
   refine nN D E F w G ?_
   refine⟨λ_=>⟨1000000,1,.inl rfl,rfl,by simp only[gr,simprocAttr,w];rfl⟩,λh=>?_⟩
   rw[bc]at h
   exact absurd om h
 | succ r Z =>
   intro head X
   unfold AF
   refine Sx [.tmp 6,.tmp 7] func375 λY L z i q=>?_
   have D:z.sl 0=.ag [al m,aE c]:=by rw[i];rfl
   have E:z.sl 1=al s:=by rw[i];rfl
   have F:z.sl 2=.own 1000000 1:=by rw[i];rfl
   have w:z.rw 1000000=⟨1,.sli 3 1 l0 (iL head)⟩:=by rw[q,uD]
   have G:∀j,j<1000000->z.rw j=⟨0,.dead⟩:=λj p=>by rw[q,GV _ _ om]
   clear i q
   refine nN D E F w G ?_
   have M:((lh head:Int)==(m:Int))=false:=by rw[bc];omega
   refine⟨λh=>absurd (M.symm.trans h) dc,λ_=>?_⟩
   refine az (λ(x:Nat)k=>(k.sl 1=al s/\k.sl 2=.own 1000000 1/\k.rw 1000000=⟨1,.sli 3 1 l0 (iL head)⟩/\k.sl 3=.ref 3 1 0/\k.rw 3=⟨1,.box 26 [al m,aE c]⟩/\k.sl 8=al (lh head)/\k.sl 9=al x)/\(x<=s/\fdL (λx=>yg (UO c) (lh head) x head (lh head)) (λx=>Lx (UO c) s r (head++[(x:Int)])) (s-x) x=Lx (UO c) s (r+1) head)) (λx=>s-x) (0) ⟨(DM D E F w G),⟨aB _,rfl⟩⟩ ?_
   intro x sa ⟨H,N⟩
   have⟨a0,d⟩:=N
   refine cZ H ?_
   refine⟨λO=>?_,λO=>?_⟩
   rw[show s-x=(s-(x+1))+1 by omega,fdL]at d;have y:yg (UO c) (lh head) x head 0=true:=rfl;refine az (λ(j:Nat)k=>(k.sl 1=al s/\k.sl 2=.own 1000000 1/\k.rw 1000000=⟨1,.sli 3 1 l0 (iL head)⟩/\k.sl 3=.ref 3 1 0/\k.rw 3=⟨1,.box 26 [al m,aE c]⟩/\k.sl 8=al (lh head)/\k.sl 9=al x/\k.sl 10=aU (yg (UO c) (lh head) x head j)/\k.sl 11=al j)/\(j<=lh head)) (λj=>lh head-j) (0) ⟨(gE H y),aB _⟩ ?_;intro j sb ⟨n,a1⟩;refine cZ n ?_;refine⟨λp=>?_,λp=>?_⟩
   have f:=zbT (UO c) (lh head) x head j;have P:D0.u64.wrap (j:Int)=(j:Int):=dm om;have A:D0.u64.wrap (lh head:Int)=(lh head:Int):=dm om;have a2:2^j<=2^4:=aV dc om;have a3:2^head.length<=2^5:=aV dc om;have t:jl .i64 1 (j:Int)=((2^j:Nat):Int):=eh om;have g:jl .i64 1 (lh head:Int)=((2^head.length:Nat):Int):=eh om;have V:D0.i64.wrap (((2^head.length:Nat):Int)+((2^j:Nat):Int))=((2^head.length+2^j:Nat):Int):=by clear t g f;generalize 2^j=a at *;generalize 2^head.length=b at *;rw[aF om om];omega
   refine Cn n P A t g V ?_;have Q:2^head.length+2^j<64:=by clear t g V f;generalize 2^j=a at *;generalize 2^head.length=b at *;omega
   refine⟨λI=>⟨p,p,λR=>aa (jB m c _ K Q) ?_,λR=>?_⟩,λI=>?_⟩
   have e:yg (UO c) (lh head) x head (j+1)=!ao c (2^head.length+2^j):=by rw[f,I,ay (show lg head j 0=(x:Int)by simpa using R),au,nM];rfl
   refine cZ n ?_;exact ah (j+1) ⟨(fB n e (ak p om)),om⟩
   have e:yg (UO c) (lh head) x head (j+1)=true:=by rw[f,I,aD (show ¬head.getD j 0=(x:Int) from bne_iff_ne.1 R)];simp
   exact ah (j+1) ⟨(fB n e (ak p om)),om⟩
   have e:yg (UO c) (lh head) x head (j+1)=false:=by rw[f,I];rfl
   exact ah (j+1) ⟨(fB n e (ak p om)),om⟩
   have B:j=lh head:=om;refine⟨λo=>?_,λo=>?_⟩
   have o:yg (UO c) (lh head) x head (lh head)=false:=by rw[B]at o;simpa using o
   rw[ac (by rw[o];decide)]at d;exact ah (x+1) ⟨(fB H n (ak O om)),⟨om,d⟩⟩
   have o:yg (UO c) (lh head) x head (lh head)=true:=by rw[B]at o;simpa using o
   rw[ae o]at d;have S:=Z (head++[(x:Int)]) (by rw[aA,cG];omega);refine⟨kr,om,om,Zn S (λ_ _ _ _=>.ag (.one (.v _) (.one (.sl _ _ _) .nil)) (.one (.v _) .nil)) rfl (by simp only[gr,simprocAttr];rw[show iL (head++[(x:Int)])=iL head++iL [(x:Int)] from by simp[iL]]<;>rfl) (dJ _) dc dc ?_⟩;refine cZ n ?_;refine⟨kr,λJ=>?_,λJ=>?_⟩
   have⟨l,C⟩:=Option.isSome_iff_exists.1 J;rw[C]at d;rw[<- d,C];exact⟨64,_,.inr dc,rfl,gl⟩
   have e0:Lx (UO c) s r (head++[(x:Int)])=none:=by
    cases U:Lx (UO c) s r (head++[(x:Int)])with
    | none=>rfl
    | some l=>rw[U]at J;cases J
   rw[e0]at d;exact ah (x+1) ⟨(fB H n (ak O om)),⟨om,d⟩⟩
   rw[show s-x=0 by omega,fdL]at d;rw[<- d];exact⟨69,_,.inr dc,rfl,by simp only[gr,simprocAttr];rfl⟩
theorem zu:AC prog 343 [.ag [al n,aE c],al d] (.tup [.fr 3 1 (iL ((fcO n c d).getD [])),.im (aU (fcO n c d).isSome)]):=by
 refine cA [.tmp 4,.tmp 5] func343 λw=>?_;refine aR<|aa (bw n c) ?_;refine aR ?_;have a:¬(aS n c=k0/\(1<=d/\d<=6))->[]=iL ((fcO n c d).getD [])/\(fcO n c d).isSome=false:=λh=>by rw[show fcO n c d=o0 from ac h];decide
 refine⟨λf=>aa (fe _ _ _) ?_,λf=>a λh=>by grind⟩;refine aR ?_;refine⟨λh=>(a λg=>by grind),λh=>?_⟩;have b:=ss f;have j:=ss h;have l:=cY.1 b;obtain⟨m,rfl⟩:∃m:Nat,n=m:=⟨n.toNat,by have:=l.1;omega⟩;obtain⟨q,rfl⟩:∃q:Nat,d=q:=⟨d.toNat,om⟩;have p:fcO m c q=Lx (UO c) q m []:=by simp_all[fcO,ar]
 rw[p];have s:=OR m c q b om m [] sp;refine zg4 s (λ_ _=>.ag (.one (.v _)<|.one (.sl _ _ _) .nil)<|.one (.v _) .nil) rfl (rfl) (dJ _) dc λS x r t k e u i=>?_;rcases t with rfl|rfl
 exact DL k e;exact DL k e
theorem FO:-2<=gD n c/\gD n c<=5:=by by_cases b:mr n c=k0;have:=Dn b;have:=eD<|ao c;omega;rw[show gD n c=-2 from ac b];omega
noncomputable def Zr(n:Int)(a:N0):Nat->Int->Int
 | 0,_=>0
 | m+1,k=>if(fcO n a k).isSome=k0 then k else Zr n a m (k+1)
theorem Dg:AC prog 231 [.ag [al n,aE c]] (.im (al (Zr n c 6 1))):=by
 refine cA [.tmp 2] func231 λi=>?_;refine aR ?_;refine az (λ(k:Nat)s=>(s.sl 1=.ref 1 1 0/\s.rw 1=⟨1,.box 26 _⟩/\s.sl 3=al (k+1))/\(k<=6/\Zr n c (6-k) (k+1)=Zr n c 6 1)) (λk=>6-k) 0 ⟨nm,⟨aB _,rfl⟩⟩ ?_;intro k j ⟨d,e⟩;have⟨l,a⟩:=e;refine cZ d ?_;refine⟨λh=>?_,λh=>?_⟩;rw[show 6-k=(6-(k+1))+1 by omega,Zr]at a;refine aa (zw n c _)<|cZ d ?_;refine⟨λf=>?_,λf=>?_⟩;grind;rw[ac<|by grind]at a;have g:D0.i64.wrap (k+1+1)=((k+1:Nat))+1:=by rw[aF om om];rfl
 have b:Zr n c (6-(k+1)) (((k+1:Nat))+1)=Zr n c 6 1:=by grind
 exact ah _ ⟨(gE d g),⟨om,b⟩⟩;rw[show 6-k=0 by omega,Zr]at a;grind
theorem Dh:AC prog 310 [.ag [al n,aE c]] (.im (al (Zr n c 6 1))):=by
 refine cA [.tmp 2] func310 λi=>?_;refine aR ?_;refine az (λ(k:Nat)s=>(s.sl 1=.ref 1 1 0/\s.rw 1=⟨1,.box 26 _⟩/\s.sl 3=al (k+1))/\(k<=6/\Zr n c (6-k) (k+1)=Zr n c 6 1)) (λk=>6-k) 0 ⟨nm,⟨aB _,rfl⟩⟩ ?_;intro k j ⟨d,e⟩;have⟨l,a⟩:=e;refine cZ d ?_;refine⟨λh=>?_,λh=>?_⟩;rw[show 6-k=(6-(k+1))+1 by omega,Zr]at a;refine aa (zu n c _)<|cZ d ?_;refine⟨λf=>?_,λf=>?_⟩;grind;rw[ac<|by grind]at a;have g:D0.i64.wrap (k+1+1)=((k+1:Nat))+1:=by rw[aF om om];rfl
 have b:Zr n c (6-(k+1)) (((k+1:Nat))+1)=Zr n c 6 1:=by grind
 exact ah _ ⟨(gE d g),⟨om,b⟩⟩;rw[show 6-k=0 by omega,Zr]at a;grind
noncomputable def WT(n:Int)(a:N0):Bool:=mr n a&&decide (Zr n a 6 1=max (gD n a+1) 1)
theorem FP:AC prog 143 [.ag [al n,aE c]] (.im (aU (WT n c))):=by
 refine cA [.tmp 2] func143 λg=>?_;refine aR<|aa (aH n c) ?_;refine aR ?_;unfold WT;refine⟨λb=>⟨λa=>?_,λa=>⟨kr,aa (Dg n c) ?_⟩⟩,λb=>?_⟩;rw[show mr n c=l0 from Bool.eq_false_iff.2 λh=>by have:=(fR.1 h).2;grind];rfl;have d:=fR.2 ⟨ss b,ov λe=>by grind⟩;have i:=FO n c;have f:D0.i64.wrap _=gD n c+1:=aF om om;refine aR<|aa (mQ n c) ?_;refine cZ f ?_
 grind
 rw[show mr n c=l0 from Bool.eq_false_iff.2 λh=>by have:=(fR.1 h).1;grind];rfl
theorem FQ:AC prog 266 [.ag [al n,aE c]] (.im (aU (WT n c))):=by
 refine cA [.tmp 2] func266 λf=>?_;refine aR ?_;refine⟨kr,aa (gZ n c) ?_⟩;refine aR ?_;unfold WT;refine⟨λh=>aa (Dh n c) ?_,λh=>?_⟩;have b:=aC λd=>by rw[show gD n c=-2 from ac d]at h;omega
 have g:=FO n c;have a:D0.i64.wrap _=gD n c+1:=aF om om;refine aR<|aa (gZ n c) ?_;refine cZ a<|aa (DS _ _) ?_;refine cZ a ?_
 grind
 rw[show mr n c=l0 from Bool.eq_false_iff.2 λb=>by have:=Dn b;have⟨_,_,_,_,_,e,_⟩:=FT b;have i:0<cv (ao c):=(by have:=rz 64 0 dc e;unfold cv;omega);omega];rfl
theorem Bs(e:m<18446744073709551616)(g:s<64)(f:j<64):AC prog 208 [al j,.eref l0 [dv m] 0,.eref l0 [al s] 0] (.im (aU (pB m.testBit s j))):=by
 refine cA [.tmp 4] func208 λi=>?_;have c:gU _ _ _=((s ^^^ (s&&&j):Nat)):=fv om om;have d:((((s ^^^ (s&&&j)):Int)) != 0)=!(j&&&s==s):=by have:=gW (a:=s) (b:=j);grind
 refine ff c d<|aa (ez m _ e f) ?_;refine ff c d ?_;unfold pB;grind
theorem jC(f:V0)(s:Nat)(b:s<64):AC prog 117 [dv (bA f 64:Nat),al s] (.im (dv (bA (pB f s) 64:Nat))):=by refine cA [.tmp 4] func117 λd=>?_;have c:=dj f 64;refine aR<|aa (gF 6 om _ _ _ (λrw=>rfl) λt a=>Bs _ s t om b om) ?_;rw[oq (w':=pB f s) om λt a=>by simp_all[pB,ek]];exact ef
noncomputable def HY(a:N0)(p:Nat):N0:=bl (dI (hU (qU a (2^p))) k0)
noncomputable def WO(a:N0)(p:Nat):N0:=bl (dI (pB (ao a) (2^p)) k0)
noncomputable def zs(a:N0)(p:Nat):Bool:=ao a (2^p)&&(HY a p).all λs=>!decide (s∈WO a p)
def rD(a:N0):Nat:=bA (ao a) 64
theorem zbS:rD c<18446744073709551616:=by have:=dj (ao c) 64;simp_all[rD]
theorem p64(b:i<6):2^i<64:=by have:=bN (a:=2) dc b;omega
theorem WP(a:aS h b=k0):bl (dI (rD b).testBit k0)=b:=by
 conv=>rhs;rw[xe a]
 exact cV bl<|je (λs n=>ek _ n) _
theorem zt(h:aS (i:Int) b=k0)(a:p<6):aS (i:Int) (HY b p)=true:=OV h<|p64 a
theorem OQ(h:aS (i:Int) b=k0)(p:Nat):aS (i:Int) (WO b p)=true:=have⟨a,c,_⟩:=cY.1 h;Xm a c<|Xo (nV h) _
theorem WQ(h:aS (i:Int) b=k0)(a:p<6)(t:Nat):ao (HY b p) t=dL (ao b) (2^p) t:=congrFun (OT h<|p64 a) t
theorem WR(h:aS (i:Int) b=k0)(t:Nat)(a:p<64):ao (WO b t) p=pB (ao b) (2^t) p:=by have⟨c,d,_⟩:=cY.1 h;have:=Xn c d (Xo (nV h)<|2^t) p a;unfold ci at this;have e:=OQ h t;simp_all[WO]
theorem znS(h:aS (i:Int) b=k0)(a:p<6):bA (dL (ao b) (2^p)) 64=rD (HY b p):=gu λt _=>(WQ h a t).symm
theorem zsK(h:aS (i:Int) b=k0)(p:Nat):bA (pB (ao b) (2^p)) 64=rD (WO b p):=gu λt a=>(WR h p om).symm
theorem JD(a:i<lh b)(h:r (lg b i 0)=l0):b.all r=false:=by grind
theorem FM(a:i<lh b):(b.take (i+1)).all r=((b.take i).all r&&r (lg b i 0)):=by simp[bj 0 a]
theorem WS(h:aS (m:Int) c=k0)(g:s<6):AC prog 332 [dv (rD c),al s] (.im (aU (zs c s))):=by refine cA [.tmp 4] func332 λt=>?_;have i:=p64 g;have k:=zbS c;have e:D0.u64.wrap (s:Int)=(s:Int):=dm om;have f:jl .i64 1 (s:Int)=((2^s:Nat):Int):=eh om;have q:(rD c).testBit (2^s)=ao c (2^s):=ek _ i;refine ff e f<|aa (ez (rD c) _ k i) ?_;rw[q];refine ff e f ?_;unfold zs;refine⟨λp=>?_,λp=>aa (jC (ao c) _ i) ?_⟩;grind;have p:ao c (2^s)=true:=ss p;rw[zsK h,p,au];refine aR<|aa (mS _<|zbS _) ?_;rw[WP<|OQ h s];refine aR<|aa (jR (ao c) _ i) ?_;rw[znS h g];refine aR<|aa (mS _<|zbS _) ?_;rw[WP<|zt h g];have r:=fH<|zt h g;generalize HY c s=L at *;generalize WO c s=D at *;refine aR ?_;refine az (λ(j:Nat)a=>(a.sl 6=.own 19 1/\a.rw 19=⟨1,.sli 3 1 l0<|iL D⟩/\a.sl 23=.own 23 1/\a.rw 23=⟨1,.sli 3 1 l0<|iL L⟩/\a.sl 24=al (lh L)/\a.sl 25=al j)/\(j<=lh L/\(L.take j).all (λa=>!decide (a∈D))=k0)) (λj=>lh L-j) (0) ⟨nm,⟨aB _,rfl⟩⟩ ?_;intro j u ⟨l,n⟩;have⟨w,b⟩:=n;refine cZ l ?_;refine⟨λd=>⟨d,d,aa (tK _ _) ?_⟩,λd=>?_⟩;refine cZ l ?_;refine⟨λo=>?_,λo=>?_⟩;rw[JD d<|by rw[ay o];rfl];exact ah (j+1) ⟨(gE l<|ak d om),⟨om,by rw[FM d,b,aD o];rfl⟩⟩;grind
theorem FN(h:aS (m:Int) c=k0)(A:s<m):AC prog 374 [.ag [al m,aE c],al s] (.im (aU (zs c s))):=by
 refine cA [.tmp 4] func374 λB=>?_;have⟨e,C,_⟩:=cY.1 h;have g:s<6:=om;have n:=p64 g;have p:D0.u64.wrap (s:Int)=(s:Int):=dm om;have d:jl .i64 1 (s:Int)=((2^s:Nat):Int):=eh om;have i:D0.i64.wrap ((m:Int)-1)=(m:Int)-1:=aF om om;have k:=dM h;refine aR<|aa (bw m c) ?_;have o:(decide ((0:Int)<=(s:Int))&&decide ((s:Int)<=(m:Int)-1))=true:=by rw[aj,aq,aq];omega
 refine ff h i<|aa (fe _ _ _) ?_;rw[o];refine ox h i p d<|aa (jB m c _ k n) ?_;refine ox h i p d ?_;unfold zs;refine⟨λf=>?_,λf=>?_⟩;grind;have f:ao c (2^s)=true:=ss f;have w:=fH h;rw[f,au];refine aa (lQ m c _ n k om) ?_;refine ox h i p d<|aa (ky m c _ n) ?_;have l:ci (m:Int) c=ao c:=by funext t;unfold ci;rw[h,au]
 rw[l];have x:=fH<|zt h g;refine ox h i p d ?_;have y:bl (dI (hU<|qU c<|2^s) k0)=HY c s:=rfl;have z:bl (dI (pB (ao c)<|2^s) k0)=WO c s:=rfl;rw[y,z];generalize HY c s=L at *;generalize WO c s=D at *;refine az (λ(j:Nat)a=>(a.sl 5=.ref 5 1 0/\a.rw 5=⟨1,.box 26 [al m,.own 31 1]⟩/\a.rw 31=⟨1,.sli 3 1 l0<|iL L⟩/\a.sl 6=.ref 6 1 0/\a.rw 6=⟨1,.box 26 [al m,.own 36 1]⟩/\a.rw 36=⟨1,.sli 3 1 l0<|iL D⟩/\a.sl 7=al j)/\(j<=lh L/\(L.take j).all (λa=>!decide (a∈D))=k0)) (λj=>lh L-j) (0) ⟨nm,⟨aB _,rfl⟩⟩ ?_;intro j E ⟨q,r⟩;have⟨F,b⟩:=r;refine cZ q ?_;refine⟨λe=>?_,λe=>?_⟩;refine⟨kr,e,e,aa (mO _ _) ?_⟩;refine cZ q ?_;refine⟨λu=>?_,λu=>?_⟩;rw[JD e<|by rw[ay u];rfl];exact ah (j+1) ⟨(gE q<|ak e om),⟨om,by rw[FM e,b,aD u];rfl⟩⟩;grind
noncomputable def tL(a:N0):Nat:=lh ((lc 6).filter λp=>ao a (2^p))
noncomputable def HX:Nat->N0->Bool
 | 0,_=>k0
 | r+1,a=>decide (lh a<=1)||(lc 6).any λp=>zs a p&&HX r (HY a p)&&HX r (WO a p)
theorem zjA:HX (m+1) c=(decide (lh c<=1)||(lc 6).any λp=>zs c p&&HX m (HY c p)&&HX m (WO c p)):=rfl
noncomputable def FL(a:N0):Bool:=HX 7 a
theorem WM{a b:V0}{p:Nat}:∀{l:O0},(∀q∈l,a q=k0->b q=k0)->p∈l->b p=k0->a p=l0->lh (l.filter a)<lh (l.filter b)
 | [],_,h,_,_=>by grind
 | x::l,h,c,e,f=>by
   have i:lh (l.filter a)<=(l.filter b).length:=by
    have:l.filter a=(l.filter b).filter a:=by rw[ou];refine eM λq d=>?_;simp_all
    grind
   rcases List.mem_cons.1 c with rfl|c;grind;have g:=WM (λq d=>h q<|dd _ d) c e f;grind
theorem zhM:tL c<=6:=aO _<|lc 6
theorem zbQ(h:aS (i:Int) b=k0)(a:p<6)(c:ao b (2^p)=k0):tL (HY b p)<tL b:=by refine WM (λq d e=>?_) (List.mem_range.2 a) c ?_;rw[WQ h a]at e;unfold dL at e;rw[aj]at e;exact pZ e.2 (bB λm=>by grind);simp[WQ h a,dL]
theorem zbR(h:aS (i:Int) b=k0)(a:p<6)(c:ao b (2^p)=k0):tL (WO b p)<tL b:=by refine WM (λq d e=>?_) (List.mem_range.2 a) c ?_;rw[WR h p<|p64<|List.mem_range.1 d]at e;simp_all[pB];simp[WR h p<|p64 a,pB]
theorem zq(h:zs b i=k0):ao b (2^i)=true:=by simp_all[zs]
theorem any_eq{a b:V0}(h:∀q∈o,a q=b q):o.any a=o.any b:=by grind
theorem AP(m:Nat):∀(r:Nat)(a:N0),aS (m:Int) a=k0->tL a<r->∀b,tL a<b->HX r a=HX b a
 | 0,_,_,h,_,_=>om
 | r+1,a,c,h,0,f=>om
 | r+1,a,c,h,b+1,f=>by unfold HX;congr 1;refine any_eq λp d=>?_;have d:=List.mem_range.1 d;cases g:zs a p;rfl;have e:=zq g;have i:=zbQ c d e;have j:=zbR c d e;rw[AP m r _ (zt c d) om b om,AP m r _ (OQ c p) om b om]
noncomputable def Qw(a:N0)(p:Nat):Bool:=zs a p&&FL (HY a p)&&FL (WO a p)
theorem zej(c:aS (i:Int) b=k0):FL b=(decide (lh b<=1)||(lc 6).any (Qw b)):=by refine(zjA 6 b).trans<|cV (decide (lh b<=1)||·)<|any_eq λp a=>?_;have a:=List.mem_range.1 a;show(zs b p&&HX 6 (HY b p)&&HX 6 (WO b p))=(zs b p&&HX 7 (HY b p)&&HX 7 (WO b p));cases e:zs b p;simp only[ce];have d:=zq e;have f:=zhM b;have g:=zbQ c a d;have h:=zbR c a d;rw[AP i 6 _ (zt c a) om 7 om,AP i 6 _ (OQ c p) om 7 om]
theorem zqV(a:aS (i:Int) b=k0)(c:p<6)(d:i<=p):zs b p=false:=by
 have e:ao b (2^p)=false:=by refine Bool.eq_false_iff.2 λf=>?_;have:=(nV a).2 _ (p64 c) f;rw[ar]at this;have:=aV (show 0<2 by simp) d;omega
 simp[zs,e]
theorem znR(a:aS (i:Int) b=k0)(h:∀p,p<i->Qw b p=l0):(lc 6).any (Qw b)=false:=by rw[pk];intro p c;by_cases d:p<i;grind;simp[Qw,zqV a (List.mem_range.1 c) om]
theorem Kx(j:∀a,aS (m:Int) a=k0->tL a<s->AC prog 308 [.ag [al m,aE a]] (.im (aU (FL a))))(a:N0)(p:Nat)(h:aS (m:Int) a=k0)(u:tL a<s+1)(n:p<m):AC prog 342 [.ag [al m,aE a],al p] (.im (aU (Qw a p))):=by
 refine cA [.tmp 4] func342 λw=>?_;have⟨x,y,_⟩:=cY.1 h;have d:p<6:=om;have k:=p64 d;have b:D0.u64.wrap (p:Int)=(p:Int):=dm om;have c:jl .i64 1 (p:Int)=((2^p:Nat):Int):=eh om;have g:=dM h;have o:=fH h;have e:ci (m:Int) a=ao a:=by funext t;unfold ci;rw[h,au]
 have q:bl _=HY a p:=rfl;have r:bl _=WO a p:=rfl;refine ff b c<|aa (FN m a p h n) ?_;refine ff b c ?_;unfold Qw;refine⟨λf=>?_,λf=>?_⟩;have l:=zq f;have z:=zbQ h d l;have A:=zbR h d l;refine aa (lQ m a _ k g om) ?_;rw[q];refine ff b c ?_;refine aa (j _ (zt h d) om) ?_;rw[f,au];refine ff b c ?_;refine⟨λi=>?_,λi=>?_⟩;refine aa (ky m a _ k) ?_;rw[e,r];refine ff b c ?_;refine aa (j _ (OQ h p) om) ?_;refine aR ?_;rw[i];rfl;rw[i];rfl;rw[f];rfl
theorem OP:∀(r:Nat)(a:N0),aS (m:Int) a=k0->tL a<r->AC prog 308 [.ag [al m,aE a]] (.im (aU (FL a))):=by
 intro r;induction r with
 | zero=>intro a _ h;omega
 | succ r k =>
   intro a h l;refine cA [.tmp 2] func308 λo=>?_;have⟨q,t,_⟩:=cY.1 h;have b:=zej h;refine aR ?_;refine⟨λn=>?_,λn=>?_⟩;grind;rw[aD<|by omega,gm]at b;refine az (λ(j:Nat)s=>(s.sl 1=.ref 1 1 0/\s.rw 1=⟨1,.box 26 [al m,aE a]⟩/\s.sl 3=al j)/\(j<=m/\∀p,p<j->Qw a p=l0)) (λj=>m-j) (0) ⟨nm,⟨aB _,λp d=>absurd d<|rb p⟩⟩ ?_;intro j u ⟨e,f⟩;have⟨w,c⟩:=f;refine cZ e ?_;refine⟨λg=>?_,λg=>?_⟩;refine aa (Kx m r k a j h l g) ?_;refine cZ e ?_;refine⟨λi=>?_,λi=>?_⟩;grind;exact ah (j+1) ⟨(gE e<|ak g om),⟨om,λp d=>by
    grind⟩⟩
   rw[b,znR h λp d=>c p om]
noncomputable def WN(n:Int)(a:N0):Bool:=aS n a&&FL a
theorem yf:AC prog 262 [.ag [al n,aE c]] (.im (aU (WN n c))):=by refine cA [.tmp 2] func262 λb=>?_;refine aR<|aa (bw n c) ?_;refine aR ?_;unfold WN;refine⟨λh=>?_,λh=>?_⟩;obtain⟨a,d,_⟩:=cY.1 h;obtain⟨m,rfl⟩:∃m:Nat,n=m:=⟨n.toNat,om⟩;have:=zhM c;refine aa (OP m 7 c h om)<|aR ?_;grind;grind
abbrev Mf:=Int->Int
def mpR(g:Mf)(i:Nat):Row:=if i=1000000 then⟨1,.mp g⟩else⟨0,.dead⟩
theorem zp(g:Mf):mpR g 1000000=⟨1,.mp g⟩:=ae rfl
theorem zeg(g:Mf)(h:i≠1000000):mpR g i=⟨0,.dead⟩:=ac h
theorem zeh{g:Mf}(h:(mpR g i).kind.nd=k0):i=1000000:=aC λe=>by rw[zeg g e]at h;cases h
def HV(x:Bool×Mf)(a:S0)(p:PV):Prop:=p=aU x.1/\a 1000000=⟨1,.mp x.2⟩
def zbP(k a:Nat):Option Nat:=if a=1000000 then n0 k else o0
theorem OO:zbP m 1000000=n0 m:=ae rfl
theorem Ed(h:zbP i p=n0 x):p=1000000/\x=i:=by unfold zbP at h;split at h;cases h;exact⟨‹_›,rfl⟩;cases h
theorem AO{a:Nat->Option Nat}{b:l1}{c R:S0}:∀{l:M0},plain l->GvL a b c R l l
 | [],_=>.nil
 | p::l,h=>by have d:=h p sp;cases p<;>first|exact .one (.v _)<|AO λq e=>h q<|by grind|(simp[NL]at d)
theorem zsJ[aw]{d:Mf}{v:Bool×Mf}(q:AG prog f (.ag [.own 1000000 1]::g) (mpR d) (HV v))(r:plain g)(m:k.rw p=⟨x,.mp d⟩)(t:K ((k.row p ⟨x,.mp v.2⟩).put (n0 i) (aU v.1))):askG prog k f (.ag [.own p x]::g) (n0 i) K:=by
 refine⟨_,_,_,zbP p,λ_=>False,q,.ag (.one (.own (OO p) rfl (by rw[m])<|rfl) .nil)<|AO r,⟨λa c=>?_,λa b j c l _ _=>(zeh c).trans (zeh l).symm,λ_ _ _ _ h=>h⟩,λy s⟨u,o⟩=>?_⟩
 have:=zeh c;subst this;exact⟨ab _,by simp[zp],p,OO p,by rw[m];rfl⟩
 subst u;refine⟨zbP p,λ_=>x,k0,⟨λ_ _=>rfl,λa b j c l=>(Ed c).1.trans (Ed l).1.symm,λa j c _ _=>?_,λa j c w=>?_,λ_ _ h=>h⟩,λS n=>?_⟩
 rw[(Ed c).2,m]
 have:=(Ed c).1;subst this;exact absurd (by rw[o,zp])<|w<|rfl
 have e:S=(k.row p ⟨x,.mp v.2⟩).put (n0 i) (aU v.1):=by refine St.ext2 (λargs=>?_) λa=>?_;rw[n.sl];rfl;rw[iW];by_cases e:a=p;subst e;rw[dw,n.row _ a<|OO a,o];rfl;rw[bZ _ _ _ _ e];exact n.off a λb l=>e (Ed l).2
 grind
theorem znQ[aw]{a:M0}{d:Mf}{v:Bool×Mf}{us:Dm k}{u:Dm K}(c:AG prog f (.ag [.own 1000000 1]::g) (mpR d) (HV v))(args:plain g)(h:k.rw p=⟨x,.mp d⟩)(b:K ((k.row p ⟨x,.mp v.2⟩).put (n0 i) (aU v.1))):nn prog f a e (tS prog f a (.ag [.own p x]::g) (n0 i) (kk k us) (kk K u)):=.inr<|.inr<|.inr<|.inr<|zsJ c args h b
theorem HW[aw]{a:M0}{d:Mf}{v:Bool×Mf}{us:Dm k}{u:Dm q}(h:AG prog f (.ag [.own 1000000 1]::g) (mpR d) (HV v))(args:plain g)(j:k.rw p=⟨x,.mp d⟩)(l:i%1000≠p%1000)(m:q ⟨[],.ids [i,p]⟩ ((k.row p ⟨x,.mp v.2⟩).put (n0 i) (aU v.1))):nn prog f a e (zcQ prog f (.ag [.own p x]::g) i (kk k us) (kk q u)) :=
 Zo (λo n b c=>zsJ h args (n.trans j) c) l m
def zei(a:S0)(p:PV):Prop:=∃k v,p=.ag [.own k v]/\a k=⟨v,.mp λ_=>0⟩
theorem zvO[aw]{d j:Nat}(q:AG prog f [] (λ_=>⟨0,.dead⟩) zei)(r:K ((k.row j ⟨(k.rw j).ver+1,.mp λ_=>0⟩).put (n0 d) (.ag [.own j ((k.rw j).ver+1)]))):askG prog k f [] (n0 d) K:=by
 refine⟨_,_,_,λ_=>o0,λ_=>False,q,.nil,⟨λ_ h=>(by cases h),λ_ _ _ h=>(by cases h),λ_ _ h=>(by cases h)⟩,λt p⟨s,v,u,o⟩=>?_⟩
 subst u
 have c:∀{a x:Nat},(if a=s then n0 j else o0)=n0 x->a=s/\x=j:=λ{a x}h=>by split at h;cases h;exact⟨‹_›,rfl⟩;cases h
 refine⟨λa=>if a=s then n0 j else o0,λ_=>(k.rw j).ver+1,k0,⟨λ_ h=>(by cases h),λa b x g l=>(c g).1.trans (c l).1.symm,λ_ _ _ h=>(by cases h),λa x g _=>by rw[(c g).2];exact dD _,λ_ _ h=>h⟩,λS m=>?_⟩
 have e:S=(k.row j ⟨(k.rw j).ver+1,.mp λ_=>0⟩).put (n0 d) (.ag [.own j ((k.rw j).ver+1)]):=by
  refine St.ext2 (λi=>?_) λa=>?_;rw[m.sl];have n:zaX (λa=>if a=s then n0 j else o0) t (λ_=>(k.rw j).ver+1) k0 (.ag [.own s v])=.ag [.own j ((k.rw j).ver+1)]:=by unfold zaX;simp only[dR,gy,ren1,lH,ae,o,du]
  rw[n];by_cases e:i=d;subst e;rw[cF,cF];rw[da _ _ _ _ e,da _ _ _ _ e];rfl;rw[iW];by_cases e:a=j;subst e;rw[dw,m.row s a<|ae rfl,o];rfl;rw[bZ _ _ _ _ e];exact m.off a λb l=>e (c l).2
 rw[e];exact r
theorem zjz[aw](j:Nat){us:Dm k}{u:Dm q}(d:AG prog f [] (λ_=>⟨0,.dead⟩) zei)(h:i%1000≠j%1000)(b:q ⟨[],.ids [i,j]⟩ ((k.row j ⟨(k.rw j).ver+1,.mp λ_=>0⟩).put (n0 i) (.ag [.own j ((k.rw j).ver+1)]))):nn prog f g e (zcQ prog f [] i (kk k us) (kk q u)) :=
 Zo (λl a m c=>zvO d (j:=j)<|by grind) h b
noncomputable def spF(W:N0->Mf->Bool×Mf)(a:N0)(p:Nat)(g:Mf):Bool×Mf :=
 if zs a p=k0 then(if(W (HY a p) g).1=k0 then W (WO a p) (W (HY a p) g).2 else(l0,(W (HY a p) g).2))else(l0,g)
noncomputable def lpF(S:Nat->Mf->Bool×Mf)(k:Int):Nat->Nat->Mf->Bool×Mf
 | 0,_,g=>(l0,g)
 | n+1,p,g=>if(S p g).1=k0 then(k0,yO (S p g).2 k 1)else lpF S k n (p+1) (S p g).2
noncomputable def PP:Nat->N0->Mf->Bool×Mf
 | 0,_,g=>(k0,g)
 | r+1,a,g=>if (lh a)<=1 then(k0,g)else if g (rD a)≠0 then(g (rD a)==1,g)else lpF (spF (PP r) a) (rD a) 6 0 (yO g (rD a) 2)
theorem mpT:zaV T 151:=⟨dc,dc,zwd,dc,T3k,T3z⟩
theorem plu:plain [dv m]:=λq h=>by rw[List.mem_singleton.1 h];rfl
theorem zwN:plain [dv m,al s]:=λq h=>by rcases List.mem_cons.1 h with rfl|h;rfl;rw[List.mem_singleton.1 h];rfl
theorem Qv(w:∀c g,aS (m:Int) c=k0->tL c<s->AG prog 227 [.ag [.own 1000000 1],dv (rD c)] (mpR g) (HV (PP s c g)))(c:N0)(p:Nat)(g:Mf)(h:aS (m:Int) c=k0)(D:tL c<s+1)(e:p<6) :
 AG prog 296 [.ag [.own 1000000 1],dv (rD c),al p] (mpR g) (HV (spF (PP s) c p g)):=by
 refine Sx [.tmp 6] func296 λE A z n q=>?_
 have f:z.sl 0=.ag [.own 1000000 1]:=by rw[n];rfl
 have i:z.sl 1=dv (rD c):=by rw[n];rfl
 have k:z.sl 2=al p:=by rw[n];rfl
 have d:z.rw 1000000=⟨1,.mp g⟩:=by rw[q,zp]
 have l:∀j,j<1000000->z.rw j=⟨0,.dead⟩:=λj F=>by rw[q,zeg _ om]
 clear n q
 have x:=p64 e
 have r:D0.u64.wrap (p:Int)=(p:Int):=dm om
 have t:jl .i64 1 (p:Int)=((2^p:Nat):Int):=eh om
 refine xA f i k d l r t ?_
 refine⟨kr,aa (WS m c p h e) ?_⟩
 refine nN f i k d l ?_
 unfold spF
 refine⟨λo=>?_,λo=>?_⟩
 rw[ae o];have y:=zq o;refine aa (jR (ao c) _ x) ?_;rw[znS h e];refine nN f i k d l ?_;have G:=zbQ h e y;have H:=zbR h e y;have B:=w (HY c p) g (zt h e) om;refine HW B (plu _) (rp d) dc ?_;generalize PP s (HY c p) g=a at *;refine nN f i k d l ?_;refine⟨λu=>?_,λu=>?_⟩
 rw[ae u];refine aa (jC (ao c) _ x) ?_;rw[zsK h];refine nN f i k d l ?_;have C:=w (WO c p) a.2 (OQ h p) om;refine HW C (plu _) (rp d) dc ?_;generalize PP s (WO c p) a.2=b at *;refine nN f i k d l ?_;exact⟨kr,rfl,by simp only[gr,simprocAttr,d]⟩
 rw[ac<|by rw[u];decide];exact⟨rfl,by simp only[gr,simprocAttr,d]⟩
 rw[ac<|by rw[o];decide];exact⟨rfl,by simp only[gr,simprocAttr,d]⟩
theorem WL:∀(r:Nat)(b:N0)(g:Mf),aS (m:Int) b=k0->tL b<r->AG prog 227 [.ag [.own 1000000 1],dv (rD b)] (mpR g) (HV (PP r b g)):=by
 intro r;induction r with
 | zero=>intro b g _ h;omega
 | succ r x =>
   intro b g h y;refine Sx [.tmp 4] func227 λG A z k l=>?_;have n:z.sl 0=.ag [.own 1000000 1]:=by rw[k];rfl
   have o:z.sl 1=dv (rD b):=by rw[k];rfl
   have f:z.rw 1000000=⟨1,.mp g⟩:=by rw[l,zp]
   have p:∀j,j<1000000->z.rw j=⟨0,.dead⟩:=λj B=>by rw[l,zeg _ om]
   clear k l;have i:=mS (rD b)<|zbS b;rw[WP h]at i;refine ox n o f p<|aa i ?_;refine ox n o f p ?_;refine⟨λC=>?_,λC=>?_⟩;rw[show PP (r+1) b g=(k0,g) from ae om];exact⟨rfl,by simp only[gr,simprocAttr,f]⟩;have q:=(show PP (r+1) b g=_ from ac (show ¬b.length<=1 by omega));refine⟨mpT,λt=>?_,λt=>?_⟩;rw[q,ae<|ss t];exact⟨mpT,rfl,by simp only[gr,simprocAttr,f]⟩;rw[ac<|ss t]at q;rw[q];refine⟨mpT,?_⟩;refine az (λ((j,e):Nat×Mf) s=>(s.sl 1=dv (rD b)/\s.sl 2=.ref 2 1 0/\s.rw 2=⟨1,.box 153 [.own 1000000 1]⟩/\s.rw 1000000=⟨1,.mp e⟩/\s.sl 4=aU l0/\s.sl 5=al j)/\(j<=6/\lpF (spF (PP r) b) (rD b) (6-j) j e=lpF (spF (PP r) b) (rD b) 6 0 (yO g (rD b) 2))) (λ(j,e)=>6-j) ((0,yO g (rD b) 2)) ⟨(rS n o f p),⟨aB _,rfl⟩⟩ ?_;intro(j,e) H ⟨d,u⟩;have⟨B,c⟩:=u;refine cZ d ?_;refine⟨λE=>?_,λE=>?_⟩;rw[show 6-j=(6-(j+1))+1 by omega,lpF]at c;have F:=Qv m r x b j e h y om;refine znQ F (zwN _ _) (rp d) ?_;generalize spF (PP r) b j e=a at *;refine cZ d ?_;refine⟨λw=>?_,λw=>?_⟩;rw[ae w]at c;rw[<- c];exact⟨mpT,rfl,by simp only[gr,simprocAttr,d]⟩;rw[ac<|by rw[w];decide]at c;exact ah ((j+1,a.2)) ⟨(fB d d<|ak (show j<6 by omega) om),⟨by dsimp only;omega,c⟩⟩;rw[show 6-j=0 by omega,lpF]at c;rw[<- c];exact⟨rfl,by simp only[gr,simprocAttr,d]⟩
theorem ztY{n:N0}(d:aS h b=k0)(e:aS h n=k0)(a:rD b=rD n):b=n:=by rw[xe d,xe e];refine cV bl<|je (λs c=>?_) _;rw[<- ek (ao b) c,<- ek (ao n) c];exact cV (λk=>Nat.testBit k s) a
def Qu(m b:Nat)(g:Mf):Prop:=∀a,aS (m:Int) a=k0->(g (rD a)=1->FL a=k0)/\(g (rD a)≠0->g (rD a)≠1->tL a<b->FL a=l0)
def OkM(m b:Nat)(g:Mf)(c:N0)(R:Bool×Mf):Prop:=R.1=FL c/\Qu m b R.2/\∀a,aS (m:Int) a=k0->tL c<tL a->R.2 (rD a)=g (rD a)
theorem WJ(f:Mf)(a y:Int):yO f a y a=y:=ae rfl
theorem WK(f:Mf){b:Int}(y:Int)(a:b≠h):yO f h y b=f b:=ac a
theorem zhL{a:N0}(c:aS (i:Int) b=k0)(d:aS (i:Int) a=k0)(h:a≠b):((rD a:Nat):Int)≠((rD b:Nat):Int):=λe=>h<|ztY d c om
theorem ztZ{m r:Nat}(j:∀c g b,aS (m:Int) c=k0->tL c<r->tL c<b->Qu m b g->OkM m b g c (PP r c g)){c:N0}(f:aS (m:Int) c=k0)(A:tL c<r+1){p:Nat}(i:p<6){e:Mf}(k:Qu m (tL c) e) :
 (spF (PP r) c p e).1=Qw c p/\Qu m (tL c) (spF (PP r) c p e).2/\∀d,aS (m:Int) d=k0->tL c<=tL d->(spF (PP r) c p e).2 (rD d)=e (rD d):=by
 unfold spF Qw
 cases q:zs c p
 grind
 have l:=zq q;have s:=zbQ f i l;have t:=zbR f i l;have⟨u,n,o⟩:=j (HY c p) e (tL c) (zt f i) om s k;generalize PP r (HY c p) e=a at *;cases B:a.1
 grind
 rw[ae rfl];have⟨x,y,z⟩:=j (WO c p) a.2 (tL c) (OQ f p) om t n;grind
theorem zvM(K:∀b g x,aS (i:Int) b=k0->tL b<p->tL b<x->Qu i x g->OkM i x g b (PP p b g))(A:aS (i:Int) b=k0)(L:tL b<p+1)(C:¬b.length<=1){g:Mf}(M:Qu i x g) :
 ∀(n d:Nat)(e:Mf),d+n=6->Qu i (tL b) e->(∀q,q<d->Qw b q=l0)->e (rD b)=2->(∀c,aS (i:Int) c=k0->c≠b->tL b<=tL c->e (rD c)=g (rD c))->OkM i x g b (lpF (spF (PP p) b) (rD b) n d e):=by
 have r:=zej A
 rw[aD C,gm]at r
 have o:∀(e:Mf)(v:Int),(∀c,aS (i:Int) c=k0->c≠b->tL b<=tL c->e (rD c)=g (rD c))->Qu i (tL b) e->e (rD b)=v->(v=1->FL b=k0)->(v≠1->FL b=l0)->Qu i x e:=λe v m y N C O c f=>by by_cases j:c=b;subst j;rw[N];exact⟨C,λ_ h _=>O h⟩;by_cases D:tL c<tL b;exact⟨(y c f).1,λa x _=>(y c f).2 a x D⟩;rw[m c f j om];exact M c f
 have s:∀c,tL b<tL c->c≠b:=λc h e=>by rw[e]at h;omega
 intro n
 induction n with
 | zero =>
   intro d e P y k E m
   have z:FL b=false:=by rw[r,pk];intro q B;rw[k q<|by have:=List.mem_range.1 B;omega];decide
   exact⟨z.symm,o e 2 m y E (λh=>absurd h dc)<|λ_=>z,λc f t=>m c f (s c t) om⟩
 | succ n F =>
   intro d e P y k E m
   have⟨G,H,I⟩:=ztZ K A L (p:=d) om y
   rw[lpF]
   generalize spF (PP p) b d e=a at *
   have u:∀c,aS (i:Int) c=k0->c≠b->tL b<=tL c->a.2 (rD c)=g (rD c):=λc f l t=>(I c f t).trans<|m c f l t
   cases J:a.1
   grind
   rw[ae rfl];have z:FL b=true:=by rw[r,cS];exact⟨d,List.mem_range.2 om,by rw[<- G,J]⟩
   have w:∀c,aS (i:Int) c=k0->c≠b->tL b<=tL c->yO a.2 (rD b) 1 (rD c)=g (rD c):=λc f l t=>by rw[WK _ _<|zhL A f l];exact u c f l t
   refine⟨z.symm,o _ 1 w (λc f=>?_) (WJ _ _ _) (λ_=>z)<|λh=>absurd rfl h,λc f t=>w c f (s c t) om⟩;by_cases j:c=b
   grind
   show(yO a.2 _ 1 _=1->_)/\(yO a.2 _ 1 _≠0->yO a.2 _ 1 _≠1->_);rw[WK _ _<|zhL A f j];exact H c f
theorem zvN:∀(r:Nat)(d:N0)(g:Mf)(b:Nat),aS (m:Int) d=k0->tL d<r->tL d<b->Qu m b g->OkM m b g d (PP r d g):=by
 intro r;induction r with
 | zero=>simp
 | succ r s =>intro d g b f t u e;rw[PP];by_cases k:lh d<=1;rw[ae k];exact⟨by rw[zej f,ay k];rfl,e,λ_ _ _=>rfl⟩;rw[ac k];by_cases o:g (rD d)≠0;rw[ae o];refine⟨?_,e,λ_ _ _=>rfl⟩;have⟨w,x⟩:=e d f;grind;rw[ac o];refine zvM s f t k e 6 0 _ rfl (λn i=>?_) (λq h=>absurd h<|rb q) (WJ _ _ _)<|λn i p _=>WK _ _<|zhL f i p;by_cases j:n=d;simp_all[WJ];rw[WK _ _<|zhL f i j];exact⟨(e n i).1,λa c h=>(e n i).2 a c om⟩
theorem zt0(h:aS (i:Int) b=k0):(PP 7 b λ_=>0).1=FL b:=have:=zhM b;(zvN i 7 b _ 7 h om om λa _=>⟨λh=>absurd h dc,λh=>absurd rfl h⟩).1
theorem zjy(f:Mf)(K:Prop):wz ⟨m,.mp f⟩ m (kk K)=K:=by simp[wz,RK.slice,kk]
theorem zo:AG prog 226 [] (λ_=>⟨0,.dead⟩) zei:=by refine Sx [.cell 0 153] func226 λe c z d a=>?_;refine ff a @zjy ?_;exact⟨1,1,rfl,rfl⟩
theorem ye:AC prog 139 [.ag [al n,aE c]] (.im (aU (WN n c))):=by refine cA [.tmp 2] func139 λa=>?_;refine aR ?_;refine⟨kr,aa (aH n c) ?_⟩;refine aR ?_;unfold WN;refine⟨λh=>?_,λh=>?_⟩;obtain⟨d,e,_⟩:=cY.1 h;obtain⟨m,rfl⟩:∃m:Nat,n=m:=⟨n.toNat,om⟩;have f:=zhM c;refine zjz 999 zo dc ?_;refine aR<|aa (cj m c<|dM h) ?_;refine aR ?_;refine HW (WL m 7 c (λ_=>0) h om) (plu _) gl dc ?_;rw[h,au,<- zt0 h];refine aR ?_;kernel_rfl;rw[h];rfl
def rcB(d:Int)(s:Nat)(x:Int):Bool:=(x.toNat&&&s==s)&&decide ((aQ x.toNat:Int)=d+1)
def Gz(a:N0)(d:Int)(s j:Nat):Nat:=lh ((a.take j).filter (rcB d s))
theorem Pj:Gz c d s 0=0:=rfl
theorem zca(h:i<lh b):Gz b n m (i+1)=Gz b n m i+if rcB n m (lg b i 0)=k0 then 1 else 0:=by unfold Gz;rw[bj 0 h];grind
theorem zou:Gz c d s j<=lh c:=by unfold Gz;grind
noncomputable def DN(n:Int)(a:N0):O0:=if gD n a<0 then []else cd (ci n a) (gD n a).toNat 64
noncomputable def Va(n:Int)(a:N0):N0:=(DN n a).map λs=>(Gz a (gD n a) s (lh a):Int)
def Ij(a:N0)(d:Int)(L:O0)(i j:Nat):N0:=(lc (lh L)).map λt=>(Gz a d (lg L t 0) (if t<i then (lh a) else if t=i then j else 0):Int)
theorem zhZ:lh (Ij c d L s j)=lh L:=by simp[Ij]
theorem zuf{xs:N0}{d:Int}(j:Nat)(h:i<lh o):lg (Ij xs d o i j) i 0=(Gz xs d (lg o i 0) j:Int):=by simp_all[Ij]
theorem zrr{xs:N0}{d:Int}{i j:Nat}(h:i<lh o):(Ij xs d o i j).set i (Gz xs d (lg o i 0) (j+1):Int)=Ij xs d o i (j+1):=by refine bE (by simp[Ij]) λt a b=>?_;simp[Ij];grind
theorem zcb(j:Gz b h (lg o i 0) (p+1)=Gz b h (lg o i 0) p):Ij b h o i (p+1)=Ij b h o i p:=by simp[Ij];grind
theorem zov:ld (lh L) (0:Int)=Ij c d L 0 0:=by refine bE (by simp[Ij]) λt b a=>?_;simp[Ij,Pj]
theorem zow:Ij c d L s (lh c)=Ij c d L (s+1) 0:=by simp[Ij];grind
theorem zrs:Ij c d L (lh L) 0=L.map λs=>(Gz c d s (lh c):Int):=by
 refine bE (by simp[Ij]) λt a e=>?_;have b:t<lh L:=by grind
 simp[Ij,b]
theorem FV(a:¬gD h b<0):aS h b=k0/\∃d:Nat,gD h b=d/\d<=5:=have n:=aC λc=>a (by simp[show gD h b=-2 from ac c]);have e:=Dn n;have f:=eD (ao b);⟨(fR.1 n).1,(gD h b).toNat,om,om⟩
theorem xN(hx:c.length<=1048576):AC prog 194 [.ag [al n,aE c]] (.tup [.fr 3 1 (iL (bl (DN n c))),.fr 3 1 (iL (Va n c))]):=by
 refine cA [.tmp 2,.tmp 3] func194 λhl=>?_;refine aR ?_;refine aa (mQ n c) ?_;refine aR ?_;refine⟨λF=>?_,λF=>?_⟩;have e:DN n c=[]:=ae F;unfold Va;rw[e];exact⟨rfl,rfl⟩;have⟨G,d,C,W⟩:=FV F;have H:=dM G;have e:DN n c=cd (ci n c) d 64:=by unfold DN;rw[ac F,C,ar]
 have I:∀s∈DN n c,s<64:=λs J=>by rw[e]at J;exact(fI.1 J).1
 have X:(DN n c).length<=64:=by rw[e];exact fc _ _<|ab 64
 unfold Va;rw[C];refine aa (jc n c d om) ?_;rw[<- e];generalize DN n c=L at *;refine cZ @ap ?_;refine⟨om,om,?_⟩;have Y:ld L.length (0:Int)=Ij c d L 0 0:=zov c d L;refine az (λ(i:Nat)s=>(s.sl 1=.ref 1 1 0/\s.rw 1=⟨1,.box 26 [al n,aE c]⟩/\s.sl 4=al d/\s.sl 5=.own 17 1/\s.rw 17=⟨1,.sli 3 1 l0<|iL<|bl L⟩/\s.sl 6=.own 20 1/\s.rw 20=⟨1,.sli 3 1 l0<|iL<|Ij c d L i 0⟩/\s.sl 21=.own 17 1/\s.sl 22=al L.length/\s.sl 23=al i)/\(i<=L.length)) (λi=>L.length-i) (0) ⟨(jX Y),aB _⟩ ?_;intro i sa ⟨K,Z⟩;refine ff K @ap ?_;refine⟨λA=>⟨om,om,?_⟩,λA=>?_⟩;have M:(bl L).getD i 0=((L.getD i 0:Nat):Int):=bX A;have J:=I _<|aP 0 A;rw[M];refine az (λ(j:Nat)s=>(s.sl 1=.ref 1 1 0/\s.rw 1=⟨1,.box 26 [al n,aE c]⟩/\s.sl 4=al d/\s.sl 5=.own 17 1/\s.rw 17=⟨1,.sli 3 1 l0<|iL<|bl L⟩/\s.sl 6=.own 20 1/\s.rw 20=⟨1,.sli 3 1 l0<|iL<|Ij c d L i j⟩/\s.sl 7=al i/\s.sl 8=al (L.getD i 0)/\s.sl 21=.own 17 1/\s.sl 22=al L.length/\s.sl 23=al i/\s.sl 29=aE c/\s.sl 30=al c.length/\s.sl 31=al j)/\(j<=c.length)) (λj=>c.length-j) (0) ⟨(jX K),aB _⟩ ?_;intro j sb ⟨⟨p,q,r,t,a,u,b,w,x,f,g,k,l,m,o⟩,a0⟩;simp only[↓gp,gq,simprocAttr,gT,p,q,r,t,a,u,b,w,x,f,g,k,l,m,o];refine⟨λB=>⟨om,om,aa (dy _) ?_⟩,λB=>?_⟩;have N:=H _<|aP 0 B;have O:=nA N;have hw:D0.i64.wrap ((d:Int)+1)=((d+1:Nat):Int):=ak (show d<6 by omega) om;have y:=zca (d:Int) (L.getD i 0) B;have a1:=zou c d (L.getD i 0) j;have P:=zuf (xs:=c) (d:=d) j A;have V:=zhZ c d L i j;have D:=zrr (xs:=c) (d:=(d:Int)) (j:=j) A;have Q:c.getD j 0=(((c.getD j 0).toNat:Nat):Int):=om;have E:(gU .i64 ((L.getD i 0:Nat):Int) (c.getD j 0)==0)=((c.getD j 0).toNat&&&L.getD i 0==L.getD i 0):=by rw[Q,fv om om,ar];refine Bool.eq_iff_iff.2 ?_;rw[aK,aK,cl (c.getD j 0).toNat,<- gW];omega
 simp only[↓gp,gq,simprocAttr,gT,p,q,r,t,a,u,b,w,x,f,g,k,l,m,o,O,hw,E];have z:rcB (d:Int) (L.getD i 0) (c.getD j 0)=(((c.getD j 0).toNat&&&L.getD i 0==L.getD i 0)&&decide ((aQ (c.getD j 0).toNat:Int)=(d:Int)+1)):=rfl;refine⟨λR=>⟨λS=>⟨om,om,om,om,?_⟩,λS=>?_⟩,λR=>?_⟩;rw[ae<|by rw[z,S,au,aq];have:=beq_iff_eq.1 R;omega]at y;have U:D0.i64.wrap ((Gz c (d:Int) (L.getD i 0) j:Int)+1)=(Gz c (d:Int) (L.getD i 0) (j+1):Int):=by rw[y,aF om om];omega
 exact ah (j+1) ⟨(by and_intros<;>(first|(simp only[gr,simprocAttr,p,q,r,t,a,u,b,w,x,f,g,k,l,m,o,P,U,D,ak B om];first|done|rfl|(simp;done))|assumption|rfl)),om⟩;rw[ac<|by rw[z,S];simp,lD]at y;exact ah (j+1) ⟨(by and_intros<;>(first|(simp only[gr,simprocAttr,p,q,r,t,a,u,b,w,x,f,g,k,l,m,o,zcb y,ak B om];first|done|rfl|(simp;done))|assumption|rfl)),om⟩;rw[ac<|by rw[z,aj,aq];rintro⟨_,h⟩;have:=beq_eq_false_iff_ne.1 R;omega,lD]at y;exact ah (j+1) ⟨(by and_intros<;>(first|(simp only[gr,simprocAttr,p,q,r,t,a,u,b,w,x,f,g,k,l,m,o,zcb y,ak B om];first|done|rfl|(simp;done))|assumption|rfl)),om⟩;have:j=c.length:=om;rw[this,zow]at b;exact ah (i+1) ⟨(by and_intros<;>(first|(simp only[gr,simprocAttr,K,p,q,r,t,a,u,b,w,x,f,g,k,l,m,o,ak A om];first|done|rfl|(simp;done))|assumption|rfl)),om⟩;have:i=L.length:=om;rw[this,zrs]
theorem zh0{n:Int}{xs:N0}:lh (Va n xs)<=64:=by rw[Va,DN,aG];split;simp;exact fc _ _<|ab 64
theorem Vb(f a:Nat)(c c2:M0):br k m (.tup [.fr s j c,.fr f a c2]) =
 ((k.row (m+1000) ⟨(k.rw (m+1000)).ver+1,.sli f a l0 c2⟩).row m ⟨(k.rw m).ver+1,.sli s j l0 c⟩).put (n0 m) (.tup [.own m ((k.rw m).ver+1),.own (m+1000) ((k.rw (m+1000)).ver+1)]):=by
 simp[br,leaves,eu,fL]
 rfl
theorem zrt:decide (0<lh (Va n c))=decide (0<=gD n c):=by
 have x:lh (Va n c)=(DN n c).length:=by unfold Va;rw[aG]
 rw[x];by_cases o:gD n c<0;rw[aD (show ¬0<=gD n c by omega),show DN n c=[] from ae o];rfl;rw[ay (show 0<=gD n c by omega),aq];obtain⟨q,d,r,y⟩:=FV o;have t:mr n c=true:=aC λp=>o (by rw[show gD n c=-2 from ac p];decide);obtain⟨m,rfl,z,F,s,G,H⟩:=FT t;have A:=Dn t;have B:cv (ao c)=oY (ao c) 64:=rfl;obtain⟨T,a,b,g⟩:=AH (f:=ao c) 64 om;have C:T≠0:=λe=>by
  subst e;have:aQ 0=0:=by decide +kernel
  omega
 obtain⟨v,u⟩:∃v,T.testBit v=true:=aC λp=>C (bB λi=>by
  grind)
 have k:v<6:=aC λp=>by have z:=nf u;have:(2:Nat)^6<=2^v:=aV om om;omega
 obtain⟨D,w⟩:=Fq u;have j:=zhm a k;have E:=Hy _ j v k D;rw[w]at E;have l:T&&&(T ^^^ 2^v)=T ^^^ 2^v:=by have:=tI (a:=T ^^^ 2^v) (v:=v);rwa [w]at this
 refine xw (a:=T ^^^ 2^v) ?_;unfold DN;rw[ac o,r,ar,fI];refine⟨j,?_,om⟩;unfold ci;rw[q,au];exact s _ _ b l
theorem Dv(b:lh c<=1048576):AC prog 230 [.ag [al n,aE c]] (.fr 3 1 (iL (Va n c))):=by refine cA [.tmp 2] func230 λa=>?_;refine aR<|aa (xN n c b) ?_;exact mg @Vb
noncomputable def sO(n:Int)(a:N0):Bool:=zy n a&&(decide (0<=gD n a)&&(Va n a).all λx=>decide (x=2))
theorem qV(q:lh c<=1048576):AC prog 142 [.ag [al n,aE c]] (.im (aU (sO n c))):=by
 refine cA [.tmp 2] func142 λt=>?_;refine aR<|aa (nD n c) ?_;refine aR ?_;unfold sO;refine⟨λa=>aa (mQ n c) ?_,λa=>?_⟩;have a:=ss a;rw[a];by_cases d:gD n c<0;rw[aD<|om];exact aR<|λh=>absurd d h;rw[ay<|om];refine aR ?_;refine⟨λj=>absurd j d,λj=>aa (Dv n c q) ?_⟩;have m:=zh0 (n:=n) (xs:=c);generalize Va n c=R at *;refine aR ?_;refine az (λ(k:Nat)s=>(s.sl 14=.own 14 1/\s.rw 14=⟨1,.sli 3 1 _<|iL R⟩/\s.sl 15=al _/\s.sl 16=al k)/\(k<=lh R/\(∀i,i<k->lg R i 0=2))) (λk=>lh R-k) 0 ⟨nm,sp⟩ ?_;intro k u ⟨o,f⟩;have⟨w,b⟩:=f;refine cZ o ?_;refine⟨λh=>⟨h,h,λg=>?_,λg=>?_⟩,λh=>?_⟩;exact znc h<|aD<|bne_iff_ne.1 g;exact ah _ ⟨(gE o<|ak h om),⟨om,λi r=>by
  grind⟩⟩
 exact zhB λi r=>ay<|b i om;grind
theorem vU(a:¬gD n c<0):AC prog 241 [.ag [al n,aE c]] (.fr 3 1 (iL (bl (DN n c)))):=by
 refine cA [.tmp 2] func241 λf=>?_;refine aR ?_;refine⟨kr,aa (gZ n c) ?_⟩;have⟨_,d,b,_⟩:=FV a;have e:DN n c=cd (ci n c) d 64:=by unfold DN;grind
 rw[e,b];refine aR<|aa (nj n c d) ?_;exact ef
theorem sP(R:lh c<=1048576):AC prog 242 [.ag [al n,aE c]] (.fr 3 1 (iL (Va n c))):=by
 refine cA [.tmp 2] func242 λS=>?_;refine aR<|aa (gZ n c) ?_;refine aR ?_;refine⟨λl=>?_,λl=>aa (vU n c l) ?_⟩;have e:DN n c=[]:=ae l;rw[Va,e];rfl;have⟨q,d,m,G⟩:=FV l;have r:=dM q;have e:DN n c=cd (ci n c) d 64:=by unfold DN;grind
 have u:∀s∈DN n c,s<64:=λs w=>by rw[e]at w;exact(fI.1 w).1
 have H:lh (DN n c)<=64:=by rw[e];exact fc _ _<|ab 64
 have k:=gZ n c;unfold Va;rw[m]at k ⊢;generalize DN n c=L at *;refine cZ @ap ?_;have I:((L.take 0).map λs=>(Gz c d s (lh c):Int))=[]:=rfl;have x:iL []=[]:=rfl;refine az (λ(i,v)s=>(s.sl 1=.ref 1 1 0/\s.rw 1=⟨1,.box 26 [al n,aE c]⟩/\s.sl 3=.own 8 v/\s.rw 8=⟨v,.sli 3 1 l0<|iL<|(L.take i).map λs=>(Gz c d s (lh c):Int)⟩/\s.sl 4=.own 14 1/\s.rw 14=⟨1,.sli 3 1 l0<|iL<|bl L⟩/\s.sl 5=al i)/\(i<=lh L)) (λ(i,v)=>lh L-i) ((0,1)) ⟨(gE I x),aB _⟩ ?_;intro(i,v) U ⟨y,K⟩;refine ff y @ap ?_;refine⟨λa=>?_,λa=>?_⟩;have z:=bX a;have w:=u _<|aP 0 a;refine az (λj s=>(s.sl 1=.ref 1 1 0/\s.rw 1=⟨1,.box 26 _⟩/\s.sl 3=.own 8 v/\s.rw 8=⟨v,.sli 3 1 l0<|iL<|(L.take i).map λs=>(Gz c d s (lh c):Int)⟩/\s.sl 4=.own 14 1/\s.rw 14=⟨1,.sli 3 1 l0<|iL<|bl L⟩/\s.sl 5=al i/\s.sl 6=al (Gz c d (lg L i 0) j)/\s.sl 7=al j)/\(j<=lh c)) (λj=>lh c-j) (0) ⟨(gE y @Pj),aB _⟩ ?_;intro j V ⟨f,N⟩;refine cZ f ?_;refine⟨λg=>?_,λg=>?_⟩;have O:=r _<|aP 0 g;have E:=ak (show d<6 by omega) om;have b:=zca d (lg L i 0) g;have P:=zou c d (lg L i 0) j;have⟨t,F,Q⟩:∃t:Nat,lg c j 0=t/\t<64:=⟨(lg c j 0).toNat,om,om⟩;have o:(fu .i64 t ((lg L i 0:Nat):Int)==((lg L i 0:Nat):Int))=(t&&&L.getD i 0==lg L i 0):=by rw[ej om om];grind
 have A:rcB d (lg L i 0) (lg c j 0)=((t&&&L.getD i 0==lg L i 0)&&decide ((aQ t:Int)=d+1)):=by rw[F];rfl
 rw[A]at b;refine nN f @ap z o F ?_;refine⟨kr,g,g,a,a,a,a,λB=>⟨g,g,aa (ey t om) ?_⟩,λB=>?_⟩;rw[B,au]at b;refine ff f E<|aa k ?_;refine ff f E<|aa (wY _) ?_;have p:D0.i64.wrap ((Gz c (d:Int) (lg L i 0) j:Int)+(if((aQ t:Int)==((d+1:Nat):Int))=k0 then 1 else 0))=(Gz c d (lg L i 0) (j+1):Int):=by rw[b];by_cases C:(aQ t:Int)=d+1;rw[ae<|beq_iff_eq.2 om,ae<|ay C,aF om om];omega;rw[ac<|λh=>C<|by grind,ac<|λh=>C<|cH h,aF om om];omega
 refine ff f p ?_;exact ah (j+1) ⟨(fB f p<|ak g om),om⟩;rw[B,ce,ac dc,lD]at b;refine aa (wY _) ?_;have p:D0.i64.wrap ((Gz c d (lg L i 0) j:Int)+0)=(Gz c d (lg L i 0) (j+1):Int):=by rw[b,aF om om];omega
 refine ff f p ?_;exact ah (j+1) ⟨(fB f p<|ak g om),om⟩;have:j=lh c:=om;have D:(L.take<|i+1).map (λs=>(Gz c d s (lh c):Int))=(L.take i).map (λs=>(Gz c d s (lh c):Int))++[(Gz c d (lg L i 0) j:Int)]:=by rw[this,bj 0 a,cq];rfl
 refine⟨by grind,?_⟩;exact ah ((i+1,v+1)) ⟨(rS y f D<|ak a om),om⟩;grind
theorem qW(m:lh c<=1048576):AC prog 265 [.ag [al n,aE c]] (.im (aU (sO n c))):=by
 refine cA [.tmp 2] func265 λq=>?_;refine aR<|aa (sP n c m) ?_;have a:=zrt n c;have j:=zh0 (n:=n) (xs:=c);unfold sO;generalize Va n c=R at *;refine aR ?_;refine az (λ(k:Nat)s=>(s.sl 1=.ref 1 1 0/\s.rw 1=⟨1,.box 26 _⟩/\s.sl 3=.own 6 1/\s.rw 6=⟨1,.sli 3 1 _<|iL R⟩/\s.sl 4=al k)/\(k<=lh R/\(∀i,i<k->lg R i 0=2))) (λk=>lh R-k) 0 ⟨nm,sp⟩ ?_;intro k r ⟨d,f⟩;have⟨t,b⟩:=f;refine cZ d ?_;refine⟨λh=>⟨h,h,λg=>?_,λg=>?_⟩,λh=>?_⟩;rw[znc h<|aD<|bne_iff_ne.1 g,cT,cT];exact ah _ ⟨(gE d<|ak h om),⟨om,λi o=>by
  grind⟩⟩
 rw[zhB λi o=>ay<|b i om];refine aa (nC n c)<|cZ d ?_;grind
def HU(a:Q0)(b:Bool)(w:P0):Q0:=if b=k0 then a++[w]else a
def adR(b:Bool)(a:Q0)(i:Nat):Row :=
 if i=1000000 then⟨1,.box 34 [if b=k0 then .v (.slice o0 0 0)else .own 1000001 1]⟩else if i=1000001 then(if b=k0 then⟨0,.dead⟩else⟨1,.sli 9 1 l0 (sL a)⟩)else⟨0,.dead⟩
theorem znN(b:Bool)(a:Q0)(h:i<1000000):adR b a i=⟨0,.dead⟩:=by unfold adR;grind
theorem zed(h:(adR N l i).kind.nd=k0):i=1000000\/(i=1000001/\N=l0):=by by_cases c:i=1000000;omega;by_cases a:i=1000001;cases N;grind;rw[a]at h;cases h;unfold adR at h;rw[ac c,ac a]at h;cases h
def zee(out:Q0)(a:S0)(p:PV):Prop:=p=.tup []/\∃v,0<v/\a 1000000=⟨1,.box 34 [.own 1000001 v]⟩/\a 1000001=⟨v,.sli 9 1 l0 (sL out)⟩
theorem znO(g:N=k0->l=[])(a:∀s,k.rw s=adR N l s) :
 ∃c,Wk k c/\c.sl=k.sl/\c.rw 1000000=⟨1,.box 34 [.own 1000001 1]⟩/\c.rw 1000001=⟨1,.sli 9 1 l0 (sL l)⟩/\∀s,s<1000000->c.rw s=⟨0,.dead⟩:=by
 cases N with
 | false=>exact⟨k,Wk.refl k,rfl,by rw[a];rfl,by rw[a];rfl,λs e=>by rw[a,znN _ _ e]⟩
 | true =>
   have h:=g rfl
   subst h
   have i:k.rw 1000000=⟨1,.box 34 [.v (.slice o0 0 0)]⟩:=by rw[a];rfl
   have j:k.rw 1000001=⟨0,.dead⟩:=by rw[a];rfl
   have f:=Wk.nilBox (o:=0) 1000001 9 i rfl dc
   rw[j]at f
   refine⟨_,f,rfl,rfl,rfl,λs e=>?_⟩
   rw[bZ _ _ _ _ om,bZ _ _ _ _ om,a,znN _ _ e]
theorem ol(b:Bool)(c:Q0)(m:b=k0->c=[])(t:lh c<=100)(g:Bool)(w:P0):AG prog 136 [aU g,fa w,.ref 1000000 1 0] (adR b c) (zee (HU c g w)):=by
 refine AG.goW tk mixed func136 rfl rfl rfl kr λu n z f k=>?_;have⟨s,l,a,i,j,d⟩:=znO m k;refine⟨s,l,?_⟩;have o:s.sl 0=aU g:=by simp_all
 have p:s.sl 1=fa w:=by simp_all
 have q:s.sl 2=.ref 1000000 1 0:=by simp_all
 have e:lh (sL c)=lh c:=by simp[sL]
 refine xA o p q i j d e ?_;unfold HU;refine⟨λh=>⟨om,?_⟩,λh=>?_⟩;rw[ae h];exact⟨rfl,2,dc,rfl,rfl⟩;rw[ac<|by grind];exact⟨rfl,1,dc,i,j⟩
theorem zvK[aw]{out:Q0}{b:Bool}{c:PV}{j O:Nat}(R:AG prog f [aU N,fa w,.ref 1000000 1 0] (adR b l) (zee out))(E:k.rw p=⟨x,.box 34 [c]⟩)(t:(b=k0/\c=.v (.slice o0 0 0))\/(b=l0/\c=.own j O/\k.rw j=⟨O,.sli 9 1 l0 (sL l)⟩))(u:j≠p)(U:∀P,K (((k.row j ⟨P,.sli 9 1 l0 (sL out)⟩).row p ⟨x,.box 34 [.own j P]⟩).put (n0 i) (.tup []))):askG prog k f [aU N,fa w,.ref p x 0] (n0 i) K:=by
 let o:Nat->Option Nat:=λa=>if a=1000000 then n0 p else if a=1000001 then(if b=k0 then o0 else n0 j)else o0
 let g:Nat->Option Nat:=λa=>if a=1000000 then n0 p else if a=1000001 then n0 j else o0
 have y:∀{a q:Nat},g a=n0 q->(a=1000000/\q=p)\/(a=1000001/\q=j):=λ{a q}h=>by grind
 have F:∀a,(adR b l a).kind.nd=k0->g a=o a:=λa h=>by rcases zed h with rfl|⟨rfl,rfl⟩<;>rfl
 have G:GvA o (λ_=>False) (adR b l) k.rw (if b=k0 then .v (.slice o0 0 0)else .own 1000001 1) c:=by rcases t with⟨rfl,rfl⟩|⟨rfl,rfl,H⟩;exact .v _;exact .own rfl rfl (by rw[H]) rfl
 have m:∀a r q,g a=n0 q->g r=n0 q->a=r:=λa r q h I=>by rcases y h with⟨rfl,rfl⟩|⟨rfl,rfl⟩<;>rcases y I with⟨rfl,e⟩|⟨rfl,e⟩;rfl;exact absurd e.symm u;exact absurd e u;rfl
 refine⟨_,_,_,o,λ_=>False,R,.one (.v _)<|.one (.v _)<|.one (.ref rfl rfl (by rw[E]) rfl) .nil,⟨λa J=>?_,λa r q J L h I=>m a r q ((F a J).trans h)<|(F r L).trans I,λ_ _ _ _ h=>h⟩,λA z⟨V,v,X,Q,B⟩=>?_⟩
 rcases zed J with rfl|⟨rfl,rfl⟩
 exact⟨ab _,Nat.one_pos,p,rfl,by rw[E];exact⟨rfl,.one G .nil⟩⟩
 rcases t with⟨h,_⟩|⟨_,_,H⟩
 cases h
 exact⟨dc,Nat.one_pos,j,rfl,by rw[H];exact⟨rfl,rfl,rfl,zan _⟩⟩
 subst V;let s:T0:=λa=>if a=1000000 then x else(k.rw j).ver+(if b=k0 then v else v-1)
 refine⟨g,s,k0,⟨F,m,λa q h C n=>?_,λa q h C=>?_,λ_ _ h=>h⟩,λS D=>?_⟩
 rcases y h with⟨rfl,rfl⟩|⟨rfl,rfl⟩
 rw[E];rfl
 rcases zed C with h|⟨_,rfl⟩
 cases h
 rw[B]at n;have:v=1:=n;subst this;rfl
 rcases y h with⟨rfl,rfl⟩|⟨rfl,rfl⟩
 exact absurd (by rw[Q];rfl)<|C rfl
 show(k.rw q).ver<(k.rw q).ver+(if b=k0 then v else v-1);cases b with
 | true=>rw[ae rfl];omega
 | false =>have:=C rfl;rw[B]at this;have:v≠1:=this;rw[ac dc];omega
 have e:S=((k.row j ⟨s 1000001,.sli 9 1 l0<|sL out⟩).row p ⟨x,.box 34 [.own j (s 1000001)]⟩).put (n0 i) (.tup []):=by
  refine St.ext2 (λd=>?_) λa=>?_;rw[D.sl];by_cases e:d=i;subst e;rw[cF,cF];rfl;rw[da _ _ _ _ e,da _ _ _ _ e];rfl;rw[iW];by_cases e:a=p;subst e;rw[dw,D.row 1000000 a rfl,Q];have:Hn g A s k0 (.own 1000001 v)=.own j (s 1000001):=by rw[lH,B];show(match n0 j,v==v with|some j,k0=>PV.own j (s 1000001)|_,_=>.junk)=_;rw[du]
  show(⟨x,.box 34 [ren1 g A s k0 (.own 1000001 v)]⟩:Row)=_;rw[show ren1 g A s k0 (.own 1000001 v)=Hn g A s k0 (.own 1000001 v) from rfl,this];rw[bZ _ _ _ _ e];by_cases M:a=j;subst M;rw[dw,D.row 1000001 a rfl,B];rfl;rw[bZ _ _ _ _ M];refine D.off a λb W=>?_;rcases y W with⟨_,h⟩|⟨_,h⟩
  exact e h;exact M h
 rw[e];exact U _
theorem sF[aw]{out:Q0}(b:Bool){c:PV}(j m:Nat){us:Dm k}{u:Dm K}(a:AG prog f [aU N,fa w,.ref 1000000 1 0] (adR b l) (zee out))(q:k.rw p=⟨x,.box 34 [c]⟩)(o:(b=k0/\c=.v (.slice o0 0 0))\/(b=l0/\c=.own j m/\k.rw j=⟨m,.sli 9 1 l0 (sL l)⟩))(h:j≠p)(r:∀n,K (((k.row j ⟨n,.sli 9 1 l0 (sL out)⟩).row p ⟨x,.box 34 [.own j n]⟩).put (n0 i) (.tup []))):nn prog f g e (tS prog f g [aU N,fa w,.ref p x 0] (n0 i) (kk k us) (kk K u)):=.inr<|.inr<|.inr<|.inr<|zvK a q o h r
def lsR(a:Q0)(i:Nat):Row:=if i=1000000 then⟨1,.sli 9 1 l0 (sL a)⟩else⟨0,.dead⟩
theorem zef(h:(lsR l i).kind.nd=k0):i=1000000:=aC λe=>by unfold lsR at h;rw[ac e]at h;cases h
def znP(out:Q0)(a:S0)(p:PV):Prop:=∃v,0<v/\p=.own 1000000 v/\a 1000000=⟨v,.sli 9 1 l0 (sL out)⟩
theorem jQ(o:lh a<=100)(d:Bool)(w:P0):AG prog 260 [.own 1000000 1,aU d,fa w] (lsR a) (znP (HU a d w)):=by
 refine Sx _ func260 λp g z c e=>?_;have i:z.sl 0=.own 1000000 1:=by grind
 have k:z.sl 1=aU d:=by grind
 have l:z.sl 2=fa w:=by rw[c];rfl
 have f:z.rw 1000000=⟨1,.sli 9 1 l0<|sL a⟩:=by rw[e];rfl
 have m:∀j,j<1000000->z.rw j=⟨0,.dead⟩:=λj q=>by rw[e,lsR,ac om]
 have b:lh (sL a)=lh a:=by simp[sL]
 refine Cn i k l f m b ?_;unfold HU;refine⟨λh=>⟨om,?_⟩,λh=>?_⟩;rw[ae h];exact⟨2,dc,rfl,rfl⟩;rw[ac<|by grind];exact⟨1,dc,rfl,f⟩
theorem sG[aw]{out:Q0}{us:Dm k}{u:Dm K}(E:AG prog f [.own 1000000 1,aU N,fa w] (lsR l) (znP out))(n:k.rw p=⟨x,.sli 9 1 l0 (sL l)⟩)(F:∀B,K ((k.row p ⟨B,.sli 9 1 l0 (sL out)⟩).put (n0 i) (.own p B))):nn prog f g e (tS prog f g [.own p x,aU N,fa w] (n0 i) (kk k us) (kk K u)):=by
 refine .inr<|.inr<|.inr<|.inr<|show askG prog k f [.own p x,aU N,fa w] (n0 i) K from ?_
 let c:Nat->Option Nat:=λa=>if a=1000000 then n0 p else o0
 have m:∀{a D:Nat},c a=n0 D->a=1000000/\D=p:=λ{a D}h=>by grind
 refine⟨_,_,_,c,λ_=>False,E,.one (.own rfl rfl (by rw[n]) rfl)<|.one (.v _)<|.one (.v _) .nil,⟨λa r=>?_,λa G D r t _ _=>(zef r).trans (zef t).symm,λ_ _ _ _ h=>h⟩,λC d⟨v,M,H,o⟩=>?_⟩
 have:=zef r;subst this;exact⟨ab _,Nat.one_pos,p,rfl,by rw[n];exact⟨rfl,rfl,rfl,zan _⟩⟩
 subst H;refine⟨c,λ_=>x+(v-1),k0,⟨λ_ _=>rfl,λa G D h I=>(m h).1.trans (m I).1.symm,λa D h _ q=>?_,λa D h J=>?_,λ_ _ h=>h⟩,λS y=>?_⟩
 obtain⟨rfl,rfl⟩:=m h;rw[o]at q;have:v=1:=q;subst this;rw[n];rfl
 obtain⟨rfl,rfl⟩:=m h;have:=J rfl;rw[o]at this;have:v≠1:=this;rw[n];show x<x+(v-1);omega
 have A:S=(k.row p ⟨x+(v-1),.sli 9 1 l0<|sL out⟩).put (n0 i) (.own p<|x+(v-1)):=by
  refine St.ext2 (λj=>?_) λa=>?_;rw[y.sl];have z:zaX c C (λ_=>x+(v-1)) k0 (.own 1000000 v)=.own p (x+(v-1)):=by show Hn c C (λ_=>x+(v-1)) k0 (.own 1000000 v)=_;rw[lH,o];show(match n0 p,v==v with|some p,k0=>PV.own p (x+(v-1))|_,_=>.junk)=_;rw[du]
  rw[z];by_cases A:j=i;subst A;rw[cF,cF];rw[da _ _ _ _ A,da _ _ _ _ A];rfl;rw[iW];by_cases A:a=p;subst A;rw[dw,y.row 1000000 a rfl,o];rfl;rw[bZ _ _ _ _ A];exact y.off a λb L=>A (m L).2
 rw[A];exact F _
noncomputable def Qs(n:Int)(a:N0):Q0 :=
 HU (HU (HU (HU (HU (HU (HU [] (zy n a) ⟨#[112,117,114,101]⟩) (xd n a).isSome ⟨#[115,104,101,108,108,97,98,108,101]⟩) (WN n a) ⟨#[100,101,99,111,109,112,111,115,97,98,108,101]⟩) (cmO n a 2) ⟨#[102,117,108,108]⟩) (WW n a) ⟨#[102,108,97,103]⟩) (sO n a) ⟨#[99,108,111,115,101,100]⟩) (WT n a) ⟨#[98,97,108,97,110,99,101,100]⟩
noncomputable def Qt(n:Int)(a:N0):P0:=if aS n a=k0 then(if(Qs n a).length=0 then⟨#[45]⟩else qJ (Qs n a) ⟨#[32]⟩)else⟨#[]⟩
def XS(k:Nat)(a:Q0):Prop:=lh a<=k/\∀w∈a,w.size<=12
theorem WI:XS 0 []:=⟨ab _,λ_ h=>by grind⟩
theorem hG(h:XS i l)(b:Bool)(d:w.size<=12):XS (i+1) (HU l b w):=by
 unfold HU;cases b;exact⟨po h.1,h.2⟩;refine⟨by rw[ae rfl,aA,cG];have:=h.1;omega,λx a=>?_⟩;rcases List.mem_append.1 a with a|a
 exact h.2 x a;grind
theorem zbO(h:∀sep,sep<lh l->(lg l sep ⟨#[]⟩).size<=i)(b:w.size<=1):∀sep,sep<=lh l->(iy l w sep).size<=(i+1)*sep:=by
 intro sep;induction sep with
 | zero=>exact λ_=>ab _
 | succ sep a =>unfold iy;grind
theorem znM:XS 7 (Qs n c):=hG (hG (hG (hG (hG (hG (hG WI _ dc) _ dc) _ dc) _ dc) _ dc) _ dc) _ dc
theorem ON:(∀i,i<=lh (Qs n c)->(iy (Qs n c) ⟨#[32]⟩ i).size<=13*i)/\iy (Qs n c) ⟨#[32]⟩ (Qs n c).length=qJ (Qs n c) ⟨#[32]⟩ :=
 ⟨zbO (λi b=>(znM n c).2 _<|aP _ b)<|ab 1,by simp[jD]⟩
theorem vK:AC prog 63 [.ag [al n,aE c]] (.im (fa (Qt n c))):=by
 refine cA [.tmp 2] func63 λI=>?_;refine aR<|aa (aH n c) ?_;refine aR ?_;unfold Qt;refine⟨λb=>?_,λb=>?_⟩;grind;have b:=ss b;rw[ae b];have B:=fH b;refine aa (nD n c)<|aR ?_;refine sF k0 90 0 (ol k0 [] (λ_=>rfl) dc (zy n c) _) gl (.inl ⟨rfl,rfl⟩) dc λC=>?_;have⟨t,a⟩:∃W,W=HU [] (zy n c) ⟨#[112,117,114,101]⟩:=⟨_,rfl⟩;rw[<- a];have l:XS 1 t:=a ▸ hG WI _ dc;refine aR<|aa (Di n c) ?_;refine aR ?_;refine sF l0 90 C (ol l0 t (λh=>by cases h) (by have:=l.1;omega) _ _) gl (.inr ⟨rfl,rfl,gl⟩) dc λD=>?_;have⟨u,d⟩:∃W,W=HU t ((xd n c).isSome) ⟨#[115,104,101,108,108,97,98,108,101]⟩:=⟨_,rfl⟩;rw[<- d];have m:XS 2 u:=d ▸ hG l _ dc;refine aR<|aa (ye n c) ?_;refine aR ?_;refine sF l0 90 D (ol l0 u (λh=>by cases h) (by have:=m.1;omega) (WN n c) _) gl (.inr ⟨rfl,rfl,gl⟩) dc λE=>?_;have⟨w,f⟩:∃W,W=HU u (WN n c) ⟨#[100,101,99,111,109,112,111,115,97,98,108,101]⟩:=⟨_,rfl⟩;rw[<- f];have o:XS 3 w:=f ▸ hG m _ dc;refine aR<|aa (wV n c 2) ?_;refine aR ?_;refine sF l0 90 E (ol l0 w (λh=>by cases h) (by have:=o.1;omega) _ _) gl (.inr ⟨rfl,rfl,gl⟩) dc λv4=>?_;have⟨x,g⟩:∃W,W=HU w (cmO n c 2) ⟨#[102,117,108,108]⟩:=⟨_,rfl⟩;rw[<- g];have p:XS 4 x:=g ▸ hG o _ dc;refine aR<|aa (Qx n c) ?_;refine aR ?_;refine sF l0 90 v4 (ol l0 x (λh=>by cases h) (by have:=p.1;omega) (WW n c) _) gl (.inr ⟨rfl,rfl,gl⟩) dc λF=>?_;have⟨y,i⟩:∃W,W=HU x (WW n c) ⟨#[102,108,97,103]⟩:=⟨_,rfl⟩;rw[<- i];have q:XS 5 y:=i ▸ hG p _ dc;refine aR ?_;refine aa (qV n c om) ?_;refine aR ?_;refine sF l0 90 F (ol l0 y (λh=>by cases h) (by have:=q.1;omega) (sO n c) _) gl (.inr ⟨rfl,rfl,gl⟩) dc λv6=>?_;have⟨z,j⟩:∃W,W=HU y (sO n c) ⟨#[99,108,111,115,101,100]⟩:=⟨_,rfl⟩;rw[<- j];have r:XS 6 z:=j ▸ hG q _ dc;refine aR<|aa (FP n c) ?_;refine aR ?_;refine sF l0 90 v6 (ol l0 z (λh=>by cases h) (by have:=r.1;omega) (WT n c) _) gl (.inr ⟨rfl,rfl,gl⟩) dc λJ=>?_;have⟨s,k⟩:∃W,W=HU z (WT n c) ⟨#[98,97,108,97,110,99,101,100]⟩:=⟨_,rfl⟩;rw[<- k];have A:XS 7 s:=k ▸ hG r _ dc;refine aR ?_;have G:s=Qs n c:=by rw[k,j,i,g,f,d,a];rfl
 have⟨j1,j2⟩:=ON n c;rw[<- G]at j1 j2 ⊢;have H:=A.1;refine⟨λh=>?_,λh=>?_⟩;grind;rw[ac<|by grind];have j3:=j1 (lh s)<|ab _;rw[j2]at j3;refine aa (kA s _ om om) ?_;exact ef
theorem vL:AC prog 178 [.ag [al n,aE c]] (.im (fa (Qt n c))):=by
 refine cA [.tmp 2] func178 λG=>?_;refine aR ?_;refine aa (bw n c) ?_;refine aR ?_;unfold Qt;refine⟨λb=>?_,λb=>?_⟩;grind;have b:=ss b;rw[ae b];have C:=fH b;refine aa (nC n c) ?_;refine aR ?_;refine sG (jQ [] dc (zy n c) _) xs0 λH=>?_;have⟨t,a⟩:∃W,W=HU [] (zy n c) ⟨#[112,117,114,101]⟩:=⟨_,rfl⟩;rw[<- a];have m:XS 1 t:=a ▸ hG WI _ dc;refine aR ?_;refine aa (Dk n c) ?_;refine aR ?_;refine sG (jQ t (by have:=m.1;omega) _ _) xs0 λI=>?_;have⟨u,d⟩:∃W,W=HU t ((xd n c).isSome) ⟨#[115,104,101,108,108,97,98,108,101]⟩:=⟨_,rfl⟩;rw[<- d];have o:XS 2 u:=d ▸ hG m _ dc;refine aR<|aa (yf n c) ?_;refine aR ?_;refine sG (jQ u (by have:=o.1;omega) (WN n c) _) xs0 λJ=>?_;have⟨w,f⟩:∃W,W=HU u (WN n c) ⟨#[100,101,99,111,109,112,111,115,97,98,108,101]⟩:=⟨_,rfl⟩;rw[<- f];have p:XS 3 w:=f ▸ hG o _ dc;refine aR ?_;refine aa (wW n c 2) ?_;refine aR ?_;refine sG (jQ w (by have:=p.1;omega) _ _) xs0 λv4=>?_;have⟨x,g⟩:∃W,W=HU w (cmO n c 2) ⟨#[102,117,108,108]⟩:=⟨_,rfl⟩;rw[<- g];have q:XS 4 x:=g ▸ hG p _ dc;refine aR<|aa (Qy n c) ?_;refine aR ?_;refine sG (jQ x (by have:=q.1;omega) (WW n c) _) xs0 λK=>?_;have⟨y,j⟩:∃W,W=HU x (WW n c) ⟨#[102,108,97,103]⟩:=⟨_,rfl⟩;rw[<- j];have r:XS 5 y:=j ▸ hG q _ dc;refine aR ?_;refine aa (qW n c om) ?_;refine aR ?_;refine sG (jQ y (by have:=r.1;omega) (sO n c) _) xs0 λv6=>?_;have⟨z,k⟩:∃W,W=HU y (sO n c) ⟨#[99,108,111,115,101,100]⟩:=⟨_,rfl⟩;rw[<- k];have s:XS 6 z:=k ▸ hG r _ dc;refine aR ?_;refine aa (FQ n c) ?_;refine aR ?_;refine sG (jQ z (by have:=s.1;omega) (WT n c) _) xs0 λL=>?_;have⟨A,l⟩:∃W,W=HU z (WT n c) ⟨#[98,97,108,97,110,99,101,100]⟩:=⟨_,rfl⟩;rw[<- l];have B:XS 7 A:=l ▸ hG s _ dc;refine aR ?_;have D:A=Qs n c:=by rw[l,k,j,g,f,d,a];rfl
 have⟨j1,j2⟩:=ON n c;rw[<- D]at j1 j2 ⊢;have E:=B.1;refine⟨λh=>?_,λh=>?_⟩;grind;rw[ac<|by grind];refine aa (qI A _ om<|λi F=>by
  have:=j1 i F;have e:(ByteArray.mk #[32]).size=1:=rfl;omega) ?_
 rw[j2];exact ef
theorem zhC:plain (sL a):=by have:=zkN a;unfold plain;rw[this];trivial
def pkF(a:N0)(l:Q0)(i:Nat)(h:Int):Value×Nat×Int:=((match (Sa a (lh l) i h).1 with|.int _ x=>.string (lg l x.toNat ⟨#[]⟩)|_=>.string ⟨#[]⟩),(Sa a (lh l) i h).2)
theorem zuJ(b:0<lh l)(i:Nat)(h:Int):∃(x:P0)(j:Nat)(g:Int),pkF c l i h=(.string x,j,g)/\x∈l:=by obtain⟨y,j3,f,a,d⟩:=Eo c (lh l) i h;obtain⟨m,rfl,e⟩:=Ey b d;unfold pkF;rw[a];exact⟨_,_,_,rfl,aP _ e⟩
theorem Rn(d:lh c<=9223372036854775806)(l:Q0)(e:0<lh l)(k:lh l<=1000000):zd5 prog 43 TC c 9 (sL l) (pkF c l):=by
 intro i h;refine Sx [.tmp 4] func43 λq _ s g j=>?_;have a:s.rw 1000000=⟨1,.box TC [.sl l0 1 (kL .u8 c),al i,al h]⟩:=by rw[j];rfl
 have f:s.rw 1000500=⟨1,.sli 9 1 l0 (sL l)⟩:=by rw[j];rfl
 have b:lh (sL l)=lh l:=by simp[sL]
 refine ox g a f b ?_;refine lb (kb c d (lh l) om) (yx _) (i:=i) (h:=h) (RB a) rfl ?_;unfold pkF;obtain⟨y,j3,r,n,o⟩:=Eo c (lh l) i h;obtain⟨m,rfl,p⟩:=Ey e o;rw[n];refine ox g a f b ?_;exact⟨om,p,rfl,by simp -dsimp only[gr,simprocAttr,a]<;>rfl,by simp -dsimp only[gr,simprocAttr,f]<;>rfl⟩
theorem zpr(c:lh b<=9223372036854775806){j m:Nat}{us:Dm k}{u:Dm K}{v:Nat}(o:k.rw p=⟨x,.box TC [.sl N 1 (kL .u8 b),al v,al h]⟩)(d:k.rw j=⟨m,.sli 9 1 l0 (sL l)⟩)(q:K ((k.row p ⟨x,.box TC [.sl l0 1 (kL .u8 b),.v (.int .i64 (pkF b l v h).2.1),.v (.int .i64 (pkF b l v h).2.2)]⟩).put (n0 i) (.v (pkF b l v h).1)))(n:(i%1000==p%1000)=false:=by rfl)(f:(i%1000==j%1000)=false:=by rfl)(fr:(p%1000==j%1000)=false:=by rfl)(r:0<lh l:=by decide)(t:lh l<=1000000:=by decide) :
 nn prog 43 g e (tS prog 43 g [.ref p x 0,.own j m] (n0 i) (kk k us) (kk K u)) :=
 .inr (.inr (.inr (.inr ((Rn b c l r t).askG (zhC l) o d n f fr q))))
theorem zig(c:lh b<=9223372036854775806){j m:Nat}{us:Dm k}{u:Dm K}{v:Nat}{l:N0}(o:k.rw p=⟨x,.box TC [.sl N 1 (kL .u8 b),al v,al h]⟩)(d:k.rw j=⟨m,.sli 3 1 l0 (iL l)⟩)(q:K ((k.row p ⟨x,.box TC [.sl l0 1 (kL .u8 b),.v (.int .i64 (piF b l v h).2.1),.v (.int .i64 (piF b l v h).2.2)]⟩).put (n0 i) (.v (piF b l v h).1)))(n:(i%1000==p%1000)=false:=by rfl)(f:(i%1000==j%1000)=false:=by rfl)(fr:(p%1000==j%1000)=false:=by rfl)(r:0<lh l:=by decide)(t:lh l<=1000000:=by decide) :
 nn prog 95 g e (tS prog 95 g [.ref p x 0,.own j m] (n0 i) (kk k us) (kk K u)) :=
 .inr (.inr (.inr (.inr ((MD b c l r t).askG (dJ l) o d n f fr q))))
def zzL(a:N0)(N:Int):Nat->Nat->Int->N0->N0×Nat×Int
 | 0,j,g,L=>(L,j,g)
 | r+1,j,g,L=>match Sa a N j g with
   | (.int _ x,j1,c)=>(match onF a 2 j1 c with
     | (.bool k0,j2,b)=>(match Sa a N j2 b with
       | (.int _ y,j3,d)=>zzL a N r j3 d (L++[fu .i64 x y])
       | _=>(L,j,g))
     | (_,j2,b)=>zzL a N r j2 b (L++[x]))
   | _=>(L,j,g)
theorem zps{g:Int}{L:N0}{j1 y:Int}{j2 j3:Nat}{r c d:Int}(e:Sa b h p g=(.int .i64 j1,x,r))(f:onF b 2 x r=(.bool k0,j2,c))(j:Sa b h j2 c=(.int .i64 y,j3,d)):zzL b h (i+1) p g L=zzL b h i j3 d (L++[fu .i64 j1 y]):=by rw[zzL,e];simp only[f,j]
theorem zpt{g:Int}{L:N0}{j1:Int}{j2:Nat}{j c:Int}(d:Sa b h p g=(.int .i64 j1,x,j))(e:onF b 2 x j=(.bool l0,j2,c)):zzL b h (i+1) p g L=zzL b h i j2 c (L++[j1]):=by rw[zzL,d];simp only[e]
noncomputable def zzR(n:Nat)(z:N0×Nat×Int):RV×Nat×Int:=(.ag [.im (al n),.fr 3 1 (iL (bl (dI (hU z.1) k0)))],z.2)
theorem IV(f:lh c<=9223372036854775806)(n:Nat)(U:1<=n)(B:n<=6)(i:Nat)(h:Int):∃z,AG prog 42 [.ref 1000000 1 0,al n] (LY TC c i h ⟨0,.dead⟩) (Yg TC c (zzR n z)):=by
 obtain⟨o,C,D,E,O⟩:=zuN c (l:=[0,1,2,3,4,4,5,6]) dc i h;refine⟨zzL c ((2^n:Nat):Int) o.toNat C D [],Sx [.cell 4 26] func42 λhl _ s F G=>?_⟩;have A:s.rw 1000000=⟨1,.box TC [.sl l0 1 (kL .u8 c),al i,al h]⟩:=by rw[G];rfl
 have V:s.rw 1000500=⟨0,.dead⟩:=by rw[G];rfl
 have m:∀k,k<1000000->s.rw k=⟨0,.dead⟩:=λk P=>by rw[G];exact Rc P
 refine iD F A m ?_;refine zig f (l:=[0,1,2,3,4,4,5,6]) (RB A) (RB m) ?_;rw[E];refine iD F A m ?_;obtain⟨q,rfl⟩:∃q:Nat,o=q:=⟨o.toNat,by simp at O;omega⟩;have hq:q<=6:=by simp at O;omega
 have W:=dx B;have d:jl .i64 1 (n:Int)=((2^n:Nat):Int):=eh om;have e:D0.u64.wrap (n:Int)=(n:Int):=dm om;rw[ar];refine az (λ((k,v,j,g,L):Nat×Nat×Nat×Int×N0) s=>(s.sl 0=.ref 1000000 1 0/\s.rw 1000000=⟨1,.box TC [.sl l0 1 (kL .u8 c),al j,al g]⟩/\s.rw 1000500=⟨0,.dead⟩/\s.sl 1=al n/\s.sl 4=.ref 4 1 0/\s.rw 4=⟨1,.box 26 [al 0,.v (.slice o0 0 0)]⟩/\s.sl 5=.own 9 v/\s.rw 9=⟨v,.sli 3 1 l0 (iL L)⟩/\s.sl 6=al q/\s.sl 7=al k)/\(k<=q/\zzL c ((2^n:Nat):Int) (q-k) j g L=zzL c ((2^n:Nat):Int) q C D []/\L.length=k/\Uu L)) (λ(k,v,j,g,L)=>q-k) ((0,1,C,D,[])) ⟨(rS F A V m),⟨aB _,rfl,rfl,λx Y=>absurd Y sp⟩⟩ ?_;intro(k,v,j,g,L) sa ⟨a,H⟩;obtain⟨P,p,Q,r⟩:=H;rcases bf k q with u|Z
 have t:((k:Int)<(q:Int))=True:=bO om;have I:q-k=(q-(k+1))+1:=om;obtain⟨x,j1,R,J,b1⟩:=Eo c ((2^n:Nat):Int) j g;have w:=zi5 B b1;obtain⟨b,j2,K,M⟩:=zuL c 2 j1 R;obtain⟨y,j3,h3,S,b3⟩:=Eo c ((2^n:Nat):Int) j2 K;have N:=zi5 B b3;refine ox a d e t ?_;refine lb (kb c f ((2^n:Nat):Int) om) (yx _) (i:=j) (h:=g) (RB a) rfl ?_;rw[J];refine iD a d e ?_;refine lb (RA c f 2 dc) (yx _) (i:=j1) (h:=R) (RB a) rfl ?_;rw[M];refine iD a d e ?_;rw[I]at p;cases b with
 | true =>rw[zps J M S]at p;refine iD a d e ?_;refine lb (kb c f ((2^n:Nat):Int) om) (yx _) (i:=j2) (h:=K) (RB a) rfl ?_;rw[S];refine iD a d e ?_;exact⟨om,ah ((k+1,v+1,j3,h3,L++[fu .i64 x y])) ⟨(gE a (ak u om)),⟨by dsimp only;omega,p,by simp[Q],Tw r (zpw w N)⟩⟩⟩
 | false =>rw[zpt J M]at p;refine iD a d e ?_;exact⟨om,ah ((k+1,v+1,j2,K,L++[x])) ⟨(gE a (ak u om)),⟨by dsimp only;omega,p,by simp[Q],Tw r w⟩⟩⟩
 obtain rfl:k=q:=om;have t:((k:Int)<(k:Int))=False:=aX om;rw[pi]at p;rw[<- p];refine ff a t ?_;refine aa (eV n L r) ?_;refine cZ a ?_;exact⟨⟨_,.one (.ag (.cons (.im _) (.cons (.fr (RB a) dc) .nil))),sp⟩,by simp -dsimp only[gr,simprocAttr,a]<;>rfl,by simp -dsimp only[gr,simprocAttr,a]⟩
noncomputable def siF(c:N0)(a:lh c<=9223372036854775806)(n:Nat)(b:1<=n)(d:n<=6)(i:Nat)(h:Int):=(IV c a n b d i h).choose
theorem Rm(a:lh c<=9223372036854775806)(n:Nat)(b:1<=n)(d:n<=6):Yj prog 42 TC c [al n] λi h=>zzR n (siF c a n b d i h):=λi h=>(IV c a n b d i h).choose_spec
def txV(y:Value×Nat×Int):Prop:=∃w,y.1=.string w/\w.size<=40000
theorem zwb(a:0<lh l)(c:∀w∈l,w.size<=40000):txV (pkF b l i h):=by obtain⟨x,j,g,e,d⟩:=zuJ b a i h;exact⟨x,by rw[e],c x d⟩
theorem BS(d:lh c<=9223372036854775806)(i:Nat)(h:Int):∃y,txV y/\AG prog 17 [.ref 1000000 1 0] (LY TC c i h ⟨0,.dead⟩) (Yf TC c y):=by
 obtain⟨x,g,j,q,w⟩:=Eo c 9 i h;have l:x=0\/x=1\/x=2\/x=3\/x=4\/x=5\/x=6\/x=7\/x=8:=by obtain⟨u,v⟩:=w;omega
 obtain⟨y,r,t,z,A⟩:=Eo c 4 g j;obtain⟨m,rfl,F⟩:=Ey (n:=4) dc A;have B:D0.i64.wrap (1+(m:Int))=((m+1:Nat):Int):=by rw[aF om om];omega
 rcases l with rfl|l
 ·have C:=Rm c d (m+1) om om;generalize D:siF c d (m+1) om om r t=Z;have G:=zbm ((m+1:Nat):Int) (bl (dI (hU Z.1) k0));refine⟨(.string (⟨#[99,111,109,112,108,101,120,32]⟩++Vn ((m+1:Nat):Int) (bl (dI (hU Z.1) k0))),Z.2),⟨_,rfl,by rw[aI];show 8+_<=_;omega⟩,Sx [.tmp 2] func17 λE _ s e f=>?_⟩;have b:s.rw 1000000=⟨1,.box TC [.sl l0 1 (kL .u8 c),al i,al h]⟩:=by rw[f];rfl
  have o:s.rw 1000500=⟨0,.dead⟩:=by rw[f];rfl
  have a:∀k,k<1000000->s.rw k=⟨0,.dead⟩:=λk p=>by rw[f];exact Rc p
  refine iD e b a ?_;refine lb (kb c d 9 dc) (yx _) (i:=i) (h:=h) (RB b) rfl ?_;rw[q];refine iD e b a ?_;refine lb (kb c d 4 dc) (yx _) (i:=g) (h:=j) (RB b) rfl ?_;rw[z];refine ox e b a B ?_;refine zqF C (yx _) (i:=r) (h:=t) (RB b) rfl ?_;rw[D];unfold zzR;refine iD e b a ?_;refine aa (sU _ _) ?_;refine iD e b a ?_;exact⟨by show 8+_<=_;omega,rfl,by simp -dsimp only[gr,simprocAttr,b]<;>rfl,by simp -dsimp only[gr,simprocAttr,o]⟩
 ·rcases l with rfl|rfl|rfl|rfl|rfl|rfl|rfl|rfl
  all_goals
   apply Exists.intro (pkF c _ g j)
   refine⟨?_,Sx [.tmp 2] func17 λE _ s e f=>?_⟩
   rotate_left
   have b:s.rw 1000000=⟨1,.box TC [.sl l0 1 (kL .u8 c),al i,al h]⟩:=by rw[f];rfl
   have o:s.rw 1000500=⟨0,.dead⟩:=by rw[f];rfl
   have a:∀k,k<1000000->s.rw k=⟨0,.dead⟩:=λk p=>by rw[f];exact Rc p
   refine iD e b a ?_
   refine lb (kb c d 9 dc) (yx _) (i:=i) (h:=h) (RB b) rfl ?_
   rw[q]
   refine iD e b a ?_
   refine zpr d (RB b) (RB a) ?_
   refine iD e b a ?_
   exact⟨rfl,by simp -dsimp only[gr,simprocAttr,b]<;>rfl,by simp -dsimp only[gr,simprocAttr,o]⟩
   exact zwb dc dc
theorem qo(h:-9223372036854775808<n)(b:n<=9223372036854775807):AC prog 368 [al n] (.im (al (n.natAbs:Nat))):=by
 refine cA [.tmp 2] func368 λc=>?_;have a:D0.i64.wrap (0-n)=-n:=by rw[aF om om];omega
 refine cZ a<|aa (DS _ _) ?_;have e:max n (-n)=n.natAbs:=om;exact mg e
def Vr(s:SP):Int:=match s with|none=>-1|some (r,_)=>r
def Vu(s:SP):Int:=match s with|none=>-1|some (_,c)=>c
def Sm2(n m a:Nat)(e:X0):Prop:=∀i j,a<=i->i<n->a<=j->j<m->-1000<=e i j/\e i j<=1000
theorem JZ(e:X0)(n m a:Nat)(V:n<=900)(W:m<=900)(X:a<=n)(G:a<=m)(L:Sm2 n m a e):AC prog 369 [hY (cz n m e),al a] (.tup [.im (al (Vr (th (CM e) a m (n-a)))),.im (al (Vu (th (CM e) a m (n-a))))]):=by
 refine cA [.tmp 4,.tmp 5] func369 λY=>?_;have b:=fw (n:=n) (m:=m) (e:=e);refine aR ?_;refine az (λ(t:Nat)s=>(s.sl 0=hY (cz n m e)/\s.sl 1=al a/\s.sl 6=al (Vr<|th (CM e) a m t)/\s.sl 7=al (Vu<|th (CM e) a m t)/\s.sl 8=al (a+t:Nat))/\(a+t<=n)) (λt=>n-t) (0) ⟨nm,om⟩ ?_;intro t Z ⟨H,N⟩;refine iD H @bU b ?_;refine⟨λO=>?_,λO=>?_⟩;have d:a+t<n:=om;have h:=cr (m:=m) (e:=e) d;refine az (λ(u:Nat)s=>(s.sl 0=hY (cz n m e)/\s.sl 1=al a/\s.sl 6=al (Vr<|XR (CM e) a (a+t) (th (CM e) a m t) u)/\s.sl 7=al (Vu<|XR (CM e) a (a+t) (th (CM e) a m t) u)/\s.sl 8=al (a+t:Nat)/\s.sl 9=al (a+u:Nat))/\(a+u<=m)) (λu=>m-u) (0) ⟨(jX H),om⟩ ?_;intro u sb ⟨j,I⟩;have q:=zmx (zdF (e:=e) G t) om u I;have f:XR (CM e) a (a+t) (th (CM e) a m t) (u+1)=CM e (XR (CM e) a (a+t) (th (CM e) a m t) u) (a+t) (a+u):=rfl;rcases bf (a+u) m with p|p
 have i:=dz (e:=e) d p;have P:=L _ _ om d om p;have g:(((a+u:Nat):Int)<(m:Int))=True:=bO om;have z:=ak p om;generalize XR (CM e) a (a+t) (th (CM e) a m t) u=Q at *;by_cases B:e (a+t) (a+u)=0;rw[zmv B]at f;refine xA j @bU b h g i B ?_;exact⟨d,d,kr,d,d,p,ah (u+1) ⟨(fB j f z),om⟩⟩;have k:(e (a+t) (a+u) != 0)=true:=bne_iff_ne.2 B
 match Q,q with
 | none,_ =>rw[zmw B]at f;have w:Vr o0=-1:=rfl;have x:Vu o0=-1:=rfl;have A:Vr (n0 (a+t,a+u))=((a+t:Nat):Int):=rfl;have J:Vu (n0 (a+t,a+u))=((a+u:Nat):Int):=rfl;simp only[↓gp,gq,simprocAttr,gT,j,bU,b,h,g,i,k,w,x];exact⟨d,d,kr,d,d,p,ah (u+1) ⟨(DM j f z A J),om⟩⟩
 | some (r,c),q =>have⟨⟨R,S,F,q4⟩,_⟩:=q;have w:Vr (n0 (r,c))=(r:Int):=rfl;have x:Vu (n0 (r,c))=(c:Int):=rfl;have C:r<n:=om;have l:=dz (e:=e) C F;have o:=cr (m:=m) (e:=e) C;have M:=L _ _ R C S F;have A:((r:Int)<0)=False:=aX om;simp only[↓gp,gq,simprocAttr,gT,j,bU,b,h,g,i,k,w,x,A];refine⟨d,d,kr,d,d,p,d,d,p,aa (qo _ om om) ?_⟩;simp only[↓gp,gq,simprocAttr,gT,j,bU,b,h,g,i,k,w,x,A,o,l];refine⟨C,C,F,F,aa (qo (e r c) om om) ?_⟩;by_cases D:(e (a+t)<|a+u).natAbs<(e r c).natAbs;have J:Vr (n0 (a+t,a+u))=((a+t:Nat):Int):=rfl;have U:Vu (n0 (a+t,a+u))=((a+u:Nat):Int):=rfl;rw[zp9 B D]at f;have y:(((e (a+t)<|a+u).natAbs:Int)<((e r c).natAbs:Int))=True:=bO om;simp only[↓gp,gq,simprocAttr,gT,j,bU,b,h,g,i,k,w,x,A,o,l,y];exact ah (u+1) ⟨(DM j f z J U),om⟩;rw[ztk D]at f;simp only[↓gp,gq,simprocAttr,gT,j,bU,b,h,g,i,k,w,x,A,o,l,aX om];exact ah (u+1) ⟨(DM j f z w x),om⟩
 have g:(((a+u:Nat):Int)<(m:Int))=False:=aX om;have K:u=m-a:=om;have E:th (CM e) a m (t+1)=XR (CM e) a (a+t) (th (CM e) a m t) u:=by rw[K];rfl
 refine nN j @bU b h g ?_;exact⟨d,d,ah (t+1) ⟨(rS H j E (ak d om)),om⟩⟩;have:t=n-a:=om;rw[this];exact⟨rfl,rfl⟩
end Go.Proofs.YtijabbemjaioeaaGreatDoor
