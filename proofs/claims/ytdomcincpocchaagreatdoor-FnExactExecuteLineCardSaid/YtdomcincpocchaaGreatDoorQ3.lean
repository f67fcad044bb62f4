/- DERIVED by an AI agent. -/
import Derived.Test.YtdomcincpocchaaGreatDoorQ2
set_option linter.all false
namespace Go.Proofs.YtdomcincpocchaaGreatDoor
open Bool renaming true→n0,false→o0
open Option renaming some→A0,none→B0
open Go renaming IntKind→F0
open List renaming range→lc,replicate→ld,getD→lg,length→lh
open Nat renaming reduceEqDiff→lj,reduceMod→lk,reduceAdd→ll,reduceLT→lm,reduceLeDiff→lp,reduceSub→lr,reduceMul→lu,reduceBEq→lw
open Int renaming reduceToNat→lz,reduceLE→lA,reduceLT→lB,reduceNeg→lC
open Go.Proofs.Tryz
open Go.Abs
variable (m:Nat)(f:X0)(n:Int)(a:P0)(k:Int)(e:Z0)(t:Nat)(s:Nat)(b:Nat)(r:Nat){d o:Nat}{l:P0}{p:Q0}{K:St->Prop}{w:RV->Prop}{x:Int}{P:Program}{c:O0}{g:FuncId}{h:St}{i:Z0}{M:fG}{j:S0}{q:Value}
def cx6(n:Nat)(l:Q0):Bool:=decide (1<=n)&&decide (n<=6)&&(lc (lh l)).all λk =>
 decide (lg l k 0<2^n)&&(decide (k=0)||(if CJ (lg l (k-1) 0)=CJ (lg l k 0)then decide (lg l (k-1) 0<lg l k 0)else decide (CJ (lg l (k-1) 0)<CJ (lg l k 0)))) &&
 (lc k).all λi=>!(lg l i 0&&&l.getD k 0==lg l i 0)
theorem OG(h:d<lh p):lg (bl p) d 0=((lg p d 0:Nat):Int):=bX h
theorem ztN(h:cx6 d p=n0):cxP d (bl p):=by
 unfold cx6 at h;simp only[aj,bT,aY,eJ,cw,bC]at h;have⟨⟨x,s⟩,c⟩:=h;refine⟨om,om,λk g=>?_⟩;rw[ap]at g;have⟨⟨y,f⟩,t⟩:=c k g;have z:=dx s;have j:lg p k 0<64:=om;have l:∀i,i<lh p->lg p i 0<64:=λi o=>by have:=(c i o).1.1;omega
 refine⟨?_,λA=>?_,λi o=>?_⟩;rw[OG g];unfold di;refine ay ⟨om,om,om,?_⟩;rw[iM];omega;have f:=f.resolve_left om;have m:=l (k-1) om;rw[OG g,OG (show k-1<lh p by omega)];generalize p.getD (k-1) 0=a at *;generalize p.getD k 0=b at *;have u:qN (a:Int)=(CJ a:Nat):=by rw[qN,ae om,ar,yS m]
 have w:qN (b:Int)=(CJ b:Nat):=by rw[qN,ae om,ar,yS j]
 unfold rQ;rw[u,w,ay (show(0:Int)<=a/\(a:Int)<64 by omega),ay (show(0:Int)<=b/\(b:Int)<64 by omega)];simp only[au];by_cases n:CJ a=CJ b;rw[ae n]at f;rw[ae om];exact ay (by have:=cH f;omega);rw[ac n]at f;rw[ac om];exact ay (by have:=cH f;omega);have q:=t i o;have r:=l i om;rw[OG g,OG (show i<lh p by omega),ej om om];intro e;have e:lg p i 0&&&p.getD k 0=lg p i 0:=Int.ofNat.inj e;rw[e]at q;simp at q
theorem zni(a:T0):mu a=bl (a.map λp=>oU p p.size):=by simp[mu,bl]
theorem zj{a:S0}{n:T0}(size:decide (2<=j.size/\j.size<=1000)=n0)(pts:decide (1<=d/\d<=6)=n0)(f:fK j 0=48+d)(g:fK j 1=58)(tail:j.extract 2 j.size=a)(c:decide (a.size<=1000)=n0)(full:(a.toList==(⟨#[]⟩:S0).toList)=o0)(parts:dO a 44=n)(b:decide (0<lh n/\n.length<=1000)=n0)(e:n.all zmi=n0)(head:dO j 58=[chr d,a])(h:cx6 d (n.map λp=>oU p p.size)=n0):OkText j d a n :=
 ⟨cH size,cH pts,f,g,tail,cH c,full,parts,(cH b).2,(cH b).1,λp i=>zmj<|List.all_eq_true.1 e p i,head,by rw[zni];exact ztN h⟩
def ex1:S0:=⟨#[52,58,97,98,99,44,97,98,100,44,97,99,100,44,98,99,100]⟩
def ps1:T0:=[⟨#[97,98,99]⟩,⟨#[97,98,100]⟩,⟨#[97,99,100]⟩,⟨#[98,99,100]⟩]
theorem zwx:OkText ex1 4 ⟨#[97,98,99,44,97,98,100,44,97,99,100,44,98,99,100]⟩ ps1:=zj kr kr kr kr kr kr kr kr kr kr kr kr
def ex2:S0:=⟨#[54,58,97,99,100,44,98,99,100,44,97,98,101,44,97,99,101,44,98,100,101,44,97,98,102,44,98,99,102,44,97,100,102,44,99,101,102,44,100,101,102]⟩
def ps2:T0:=[⟨#[97,99,100]⟩,⟨#[98,99,100]⟩,⟨#[97,98,101]⟩,⟨#[97,99,101]⟩,⟨#[98,100,101]⟩,⟨#[97,98,102]⟩,⟨#[98,99,102]⟩,⟨#[97,100,102]⟩,⟨#[99,101,102]⟩,⟨#[100,101,102]⟩]
theorem zwy:OkText ex2 6 ⟨#[97,99,100,44,98,99,100,44,97,98,101,44,97,99,101,44,98,100,101,44,97,98,102,44,98,99,102,44,97,100,102,44,99,101,102,44,100,101,102]⟩ ps2:=zj kr kr kr kr kr kr kr kr kr kr kr kr
def ex3:S0:=⟨#[53,58,97,98,44,98,99,44,99,100,44,97,101,44,100,101]⟩
def ps3:T0:=[⟨#[97,98]⟩,⟨#[98,99]⟩,⟨#[99,100]⟩,⟨#[97,101]⟩,⟨#[100,101]⟩]
theorem zwz:OkText ex3 5 ⟨#[97,98,44,98,99,44,99,100,44,97,101,44,100,101]⟩ ps3:=zj kr kr kr kr kr kr kr kr kr kr kr kr
def ex4:S0:=⟨#[53,58,97,98,99,44,99,100,101]⟩
def ps4:T0:=[⟨#[97,98,99]⟩,⟨#[99,100,101]⟩]
theorem zwA:OkText ex4 5 ⟨#[97,98,99,44,99,100,101]⟩ ps4:=zj kr kr kr kr kr kr kr kr kr kr kr kr
def ex5:S0:=⟨#[54,58,97,98,99,44,97,99,100,44,97,98,101,44,97,100,101,44,98,99,102,44,99,100,102,44,98,101,102,44,100,101,102]⟩
def ps5:T0:=[⟨#[97,98,99]⟩,⟨#[97,99,100]⟩,⟨#[97,98,101]⟩,⟨#[97,100,101]⟩,⟨#[98,99,102]⟩,⟨#[99,100,102]⟩,⟨#[98,101,102]⟩,⟨#[100,101,102]⟩]
theorem zwB:OkText ex5 6 ⟨#[97,98,99,44,97,99,100,44,97,98,101,44,97,100,101,44,98,99,102,44,99,100,102,44,98,101,102,44,100,101,102]⟩ ps5:=zj kr kr kr kr kr kr kr kr kr kr kr kr
def ex6:S0:=⟨#[54,58,97,98,44,99,100,44,101,102]⟩
def ps6:T0:=[⟨#[97,98]⟩,⟨#[99,100]⟩,⟨#[101,102]⟩]
theorem zwC:OkText ex6 6 ⟨#[97,98,44,99,100,44,101,102]⟩ ps6:=zj kr kr kr kr kr kr kr kr kr kr kr kr
def ex7:S0:=⟨#[52,58,97,98,44,98,99,44,99,100]⟩
def ps7:T0:=[⟨#[97,98]⟩,⟨#[98,99]⟩,⟨#[99,100]⟩]
theorem zwD:OkText ex7 4 ⟨#[97,98,44,98,99,44,99,100]⟩ ps7:=zj kr kr kr kr kr kr kr kr kr kr kr kr
def ex8:S0:=⟨#[53,58,97,98,99,44,97,98,100,44,99,100,101]⟩
def ps8:T0:=[⟨#[97,98,99]⟩,⟨#[97,98,100]⟩,⟨#[99,100,101]⟩]
theorem zwE:OkText ex8 5 ⟨#[97,98,99,44,97,98,100,44,99,100,101]⟩ ps8:=zj kr kr kr kr kr kr kr kr kr kr kr kr
def CY(k:Int):S0:=if k=1 then ex1 else if k=2 then ex2 else if k=3 then ex3 else if k=4 then ex4 else if k=5 then ex5 else if k=6 then ex6 else if k=7 then ex7 else if k=8 then ex8 else⟨#[]⟩
def xJ(k:Int):Nat:=if k=1 then 4 else if k=2 then 6 else if k=3 then 5 else if k=4 then 5 else if k=5 then 6 else if k=6 then 6 else if k=7 then 4 else if k=8 then 5 else 0
def FI(k:Int):T0:=if k=1 then ps1 else if k=2 then ps2 else if k=3 then ps3 else if k=4 then ps4 else if k=5 then ps5 else if k=6 then ps6 else if k=7 then ps7 else if k=8 then ps8 else []
theorem wR(h:¬(1<=x/\x<=8)):CY x=⟨#[]⟩:=by unfold CY;grind
theorem UB(h:¬(1<=x/\x<=8)):xJ x=0:=by unfold xJ;grind
theorem zbE(h:¬(1<=x/\x<=8)):FI x=[]:=by unfold FI;grind
theorem UC(h:1<=x/\x<=8):∃a,OkText (CY x) (xJ x) a (FI x):=by
 have:x=1\/x=2\/x=3\/x=4\/x=5\/x=6\/x=7\/x=8:=om;rcases this with rfl|rfl|rfl|rfl|rfl|rfl|rfl|rfl
 exact⟨_,zwx⟩;exact⟨_,zwy⟩;exact⟨_,zwz⟩;exact⟨_,zwA⟩;exact⟨_,zwB⟩;exact⟨_,zwC⟩;exact⟨_,zwD⟩;exact⟨_,zwE⟩
theorem rh{b:Int}(e:(x==b)=n0)(h:CY b=j):CY x=j:=by grind
theorem CZ:AC prog 232 [al n] (.im (fa (CY n))):=by refine cA [.tmp 2] func232 λj=>?_;refine aR ?_;exact⟨λe=>rh e rfl,λa=>⟨λe=>rh e rfl,λb=>⟨λe=>rh e rfl,λc=>⟨λe=>rh e rfl,λd=>⟨λe=>rh e rfl,λf=>⟨λe=>rh e rfl,λg=>⟨λe=>rh e rfl,λh=>⟨λe=>rh e rfl,λi=>wR<|by grind⟩⟩⟩⟩⟩⟩⟩⟩
theorem Da:AC prog 190 [al n] (.im (fa (CY n))):=by refine cA [.tmp 2] func190 λj=>?_;refine aR ?_;exact⟨λe=>rh e rfl,λa=>⟨λe=>rh e rfl,λb=>⟨λe=>rh e rfl,λc=>⟨λe=>rh e rfl,λd=>⟨λe=>rh e rfl,λf=>⟨λe=>rh e rfl,λg=>⟨λe=>rh e rfl,λh=>⟨λe=>rh e rfl,λi=>wR<|by grind⟩⟩⟩⟩⟩⟩⟩⟩
theorem yc:AC prog 129 [fa ⟨#[]⟩] (.tup [.ag [.im (al 0),.fr 3 1 (iL [])],.im (aU o0)]):=by
 refine cA [.cell 2 28,.tmp 3] func129 λa=>?_;refine aR ?_;have b:AC prog 231 [fa ⟨#[]⟩] (.tup [.im (al 0),.im (fa ⟨#[]⟩),.im (aU o0)]):=by refine cA [.tmp 2,.tmp 3,.tmp 4] func231 λa=>?_;have c:((⟨#[]⟩:S0).size:Nat)=0:=rfl;exact mg c
 refine aa b<|cZ @oh ?_;rfl
theorem yd:AC prog 85 [fa ⟨#[]⟩] (.tup [.ag [.im (al 0),.fr 3 1 (iL [])],.im (aU o0)]):=by refine cA [.cell 2 28,.tmp 3] func85 λc=>?_;refine aR<|aa (iT ⟨#[]⟩ 58 dc) ?_;have b:(((dO ⟨#[]⟩ 58).length:Nat))=1:=rfl;have a:(1 != 2)=true:=rfl;refine iD @cN b a ?_;rfl
theorem pF:AC prog 130 [al n] (.tup [.ag [.im (al (xJ n)),.fr 3 1 (iL (mu (FI n)))],.im (aU (decide (1<=n/\n<=8)))]):=by refine cA [.cell 2 28,.tmp 3] func130 λc=>?_;simp -dsimp only[↓gp,gq,simprocAttr,gT];refine aa (CZ n) ?_;by_cases h:1<=n/\n<=8;have⟨a,b⟩:=UC h;rw[ay h];simp -dsimp[↓gp,simprocAttr,gT];refine aa (Bp b) ?_;simp -dsimp only[↓gp,gq,simprocAttr,gT];rw[wR h,UB h,zbE h,aD h];simp -dsimp[↓gp,gq,simprocAttr,gT];refine aa yc ?_;simp -dsimp only[↓gp,gq,lj,lm,ll,gT,mu];rfl
theorem pG:AC prog 86 [al n] (.tup [.ag [.im (al (xJ n)),.fr 3 1 (iL (mu (FI n)))],.im (aU (decide (1<=n/\n<=8)))]):=by refine cA [.cell 2 28,.tmp 3] func86 λc=>?_;simp -dsimp only[↓gp,gq,simprocAttr,gT];refine aa (Da n) ?_;by_cases h:1<=n/\n<=8;have⟨a,b⟩:=UC h;rw[ay h];simp -dsimp[↓gp,simprocAttr,gT];refine aa (Bq b) ?_;simp -dsimp only[↓gp,gq,simprocAttr,gT];rw[wR h,UB h,zbE h,aD h];simp -dsimp[↓gp,gq,simprocAttr,gT];refine aa yd ?_;simp -dsimp only[↓gp,gq,lj,lm,ll,lA,lB,lC,lk,gT,mu];rfl
theorem sA(b:lh a<=1152921504606846976)(c:0<=k)(d:k<=1152921504606846976):AM prog 26 [.ag [al n,.own 1000000 1],al k] [⟨3,1,iL a⟩] [iL (Ux k (lh a))] (.int .i64 (k+lh a)):=by refine AM.go (rs:=[.tmp 4]) tk mixed func26 rfl rfl rfl kr (ic (dJ _) mi) (ia (dJ _) mh) rfl λe=>?_;refine aR ?_;refine oJ (Ks a k b c d) [(1000000,1)] (by repeat (first|exact GiveL.nil|refine GiveL.v ?_|refine GiveL.clo ?_|refine GiveL.own 0 rfl ?_|refine GiveL.own 1 rfl ?_|refine GiveL.ag ?_ ?_)) ⟨gl,trivial⟩ dc<|ef
theorem sB(a:t<=1152921504606846976)(b:0<=k)(c:k<=1152921504606846976):AC prog 27 [.ag [al n,aE (Ux k t)],al k] (.im (al (k+t))):=by refine cA [.tmp 4] func27 λd=>?_;refine aR<|aa (Kt k t a b c) ?_;refine aR ?_;omega
theorem vD(a b:P0):AC prog 25 [.ag [al n,aE a],.ag [al k,aE b]] (.im (aU (zbB n a k b))):=by refine cA [.tmp 4] func25 λd=>?_;refine aR ?_;unfold zbB;refine⟨λh=>?_,λh=>aa (Qc a b) ?_⟩;grind;refine aR ?_;grind
theorem vE(b:0<=k)(c:k<=1048576):AC prog 11 [.ag [al n,aE a],al k] (.im (al (szI k (lh a)))):=by refine cA [.tmp 4] func11 λd=>?_;refine aR<|aa (Qe a k b c) ?_;refine aR ?_;have e:(if k-↑a.length<0 then(-1:Int)else k-↑a.length)=szI k _:=rfl;omega
theorem vF(b:lh a<=1048576):AC prog 18 [.ag [al n,aE a]] (.ag [.im (al n),.fr 3 1 (iL a)]):=by refine cA [.cell 2 28] func18 λc=>?_;refine aR<|aa (Qd a b) ?_;exact ef
theorem HI{b:O0}{a:Nat}{us:Dm h}{u:Dm K}(args:AC P g c (.tb o a (M.map iL)))(e:∀i,i<lh M->(h.rw (dq d i)).ver=0)(k:∀S:St,TabI S.rw d ((h.rw d).ver+1) o a (lc (lh M)) M->S.sl d=.own d ((h.rw d).ver+1)->(∀t,t≠d->S.sl t=h.sl t)->(∀j,(j%1000==d%1000)=o0->S.rw j=h.rw j)->K S):nn P g c w (tS P g c b (A0 d) (kk h us) (kk K u)) :=
 zk4 _ args (Wk.refl _)<|k _ ⟨by
  have:=Aq d o a (M.map iL)<|λi l=>e i<|ss l;grind,dC⟩ (ux d o a _) (λt m=>qx d o a t _ m)<|λj n=>uy d o a j _ n
theorem zd4{e lent:O0}{l k v:Nat}{us:Dm h}{u:Dm K}{b:fG}(args:AT P g c o l (M.map iL) (b.map iL) (.rv (.im (.v q))))(y:GiveL [(k,v)] e c)(f:TabI h.rw k v o l p M)(z:lh b=lh M)(n:d%1000≠k%1000)(A:∀(S:St)(x:Q0),TabI S.rw k v o l x b->x.Perm p->S.sl d=.v q->(∀t,t≠d->S.sl t=h.sl t)->(∀j,(j%1000==k%1000)=o0->S.rw j=h.rw j)->K S):nn P g lent w (tS P g lent e (A0 d) (kk h us) (kk K u)):=by
 refine Ec args y f.is f.nd λm a=>?_
 have s:lh m=(b.map iL).length:=by simp[a.length_eq,f.len,z]
 have r:=a.nodup_iff.2 f.nd
 refine⟨n,?_⟩
 rw[rU]
 exact A _ m (⟨⟨mj ..,s,λi C=>sh r C⟩,r⟩) a (cF ..) (λt f=>da _ _ _ _ f)<|λj D=>oy _ _ _ _ _ _ _ D
theorem vG{rw:U0}{e a:Nat}(h:TabI rw d o e a p M)(rw':U0)(b:∀j,rw' (dq d j)=rw (dq d j)):(cy d p).map (tA rw')=mF M:=by rw[<- zcV,<- zau h.is];refine cO λc v=>?_;obtain⟨j,_,rfl⟩:=List.mem_map.1 v;simp[tA,b]
theorem zcJ{e lent:O0}{l k v:Nat}{us:Dm h}{u:Dm K}{b:fG}(r:AT P g c o l (M.map iL) (b.map iL) .self)(s:GiveL [(k,v)] e c)(args:TabI h.rw k v o l p M)(x:lh b=lh M)(y:∀(S:St)(q:Q0),TabI S.rw k v o l q b->q.Perm p->S.sl d=.own k v->(∀t,t≠d->S.sl t=h.sl t)->(∀j,(j%1000==k%1000)=o0->S.rw j=h.rw j)->K S):nn P g lent w (tS P g lent e (A0 d) (kk h us) (kk K u)):=by
 refine Ec r s args.is args.nd λm a=>?_
 have n:lh m=(b.map iL).length:=by simp[a.length_eq,args.len,x]
 have f:=a.nodup_iff.2 args.nd
 exact y _ m (⟨⟨mj ..,n,λi A=>sh f A⟩,f⟩) a (cF ..) (λt args=>da _ _ _ _ args)<|λj B=>oy _ _ _ _ _ _ _ B
theorem zcK{e lent:O0}{l k v:Nat}{us:Dm h}{u:Dm K}{b:fG}(r:AT P g c o l (M.map iL) (b.map iL) (.selfx q))(s:GiveL [(k,v)] e c)(args:TabI h.rw k v o l p M)(y:lh b=lh M)(z:∀(S:St)(x:Q0),TabI S.rw k v o l x b->x.Perm p->S.sl d=.tup [.own k v,.v q]->(∀t,t≠d->S.sl t=h.sl t)->(∀j,(j%1000==k%1000)=o0->S.rw j=h.rw j)->K S):nn P g lent w (tS P g lent e (A0 d) (kk h us) (kk K u)):=by
 refine Ec r s args.is args.nd λm a=>?_
 have n:lh m=(b.map iL).length:=by simp[a.length_eq,args.len,y]
 have f:=a.nodup_iff.2 args.nd
 exact z _ m (⟨⟨mj ..,n,λi B=>sh f B⟩,f⟩) a (cF ..) (λt args=>da _ _ _ _ args)<|λj C=>oy _ _ _ _ _ _ _ C
def AtS(k n m b c a:Nat)(e:Z0)(out:P0):Prop:=(out=ld a 1/\SWq k n m b c a e)\/(out=ld b 1++[2]/\a=b+1/\c=a/\a<=n/\a<=m/\∀i j,a<=i->i<n->a<=j->j<m->e i j=0)
theorem ze5{m b c a:Nat}(h:AtS d o m b c a i l)(f:b<=m)(g:c<=m)(e:∀k j,a<=k->k<o->a<=j->j<m->i k j=0):l=ld b 1++ld (c-b) 2:=by rcases h with⟨rfl,out⟩|⟨rfl,q,out,_⟩;have⟨n,p⟩:=out.stop f g e;simp_all;simp_all
theorem AtS.le{m c out a:Nat}(h:AtS d o m c out a i l):a<=o/\a<=m/\l.length=a:=by rcases h with⟨rfl,b⟩|⟨rfl,e,_,f,g,_⟩;exact⟨b.an,b.am,sp⟩;grind
theorem JY(W:Nat)(g:Abs.Good t)(hn:s<=20)(hm:b<=20)(h2:r<=b)(h3:W<=b)(hW:SWq t s b r W 0 e):AC prog 310 [hY (cz s b e)] (.fr 3 1 (iL (ld r 1++ld (W-r) 2))):=by
 refine cA [.tmp 2] func310 λhl=>?_;have k:=λp=>fw (n:=s) (m:=b) (e:=p);refine aR ?_;refine NW (k:=13) (v:=1) (e:=22) (e2:=3) gl (λj=>gl) (λ(i:Nat)L=>(L.sl 0=hY (cz s b e)/\L.sl 3=.own 13 (i+1)/\L.sl 4=al i)/\(i<=s/\TabG L.rw 13 (i+1) 22 3 i ((cz s b e).take i))) (λi=>s-i) (0) (λsX qw z N=>⟨(gE z N),⟨om,qw⟩⟩) ?_;intro i sa ⟨Ha,a8⟩;have⟨hi,O⟩:=a8;rcases bf i s with h|h
 have b0:((i:Int)<(s:Int))=True:=bO om;have b1:=cr (m:=b) (e:=e) h;refine Cn Ha @bU k b0 b1 @O.top ?_;refine⟨h,om,zfQ ?_⟩;have b2:(cz s b e).take i++[lg (cz s b e) i []]=(cz s b e).take (i+1):=(bj [] (by rw[k];exact h)).symm;have b3:lh ((cz s b e).take i)=i:=by rw[bg,k];omega
 refine ox Ha @O.top @bP @bp ?_;exact⟨om,tD (k:=13) (v:=i+1+1) (e:=22) (e2:=3) (n:=i) (d:=21) (vd:=(sa.rw 21).ver+1+1) (M:=(cz s b e).take i) (r:=lg (cz s b e) i []) (rp @O.top) b3 (λj hj=>by simp only[gr,simprocAttr,O.row j hj]) (λj hj=>by simp only[gr,simprocAttr,O.rest j hj]) gl dc dc (i+1) (λsX qw z N=>⟨(rS z N Ha (ak h om)),⟨om,(b2 ▸ qw:TabG _ _ _ _ _ _ _)⟩⟩) (by first|omega|(simp only;omega)|(dsimp only;omega)|(show _<_;simp;omega))⟩;obtain rfl:i=s:=om;rw[bK (by rw[k];exact ab i)]at O;have a0:=O.done;have a1:((i:Int)<(i:Int))=False:=aX om;refine nN Ha @bU k a1 @a0.top ?_;refine az (λ((a,p,q,v,out):Nat×(Z0)×Q0×Nat×P0) L=>(L.sl 0=hY (cz i b e)/\L.sl 3=.own 13 (i+1)/\L.sl 5=.own 29 v/\L.rw 29=⟨v,.sli 3 1 o0 (iL out)⟩/\L.sl 6=al a)/\(AtS t i b r W a p out/\TabI L.rw 13 (i+1) 22 3 q (cz i b p))) (λ(a,p,q,v,out)=>i-a) ((0,e,lc i,(sa.rw 29).ver+1,[])) ⟨(jX Ha),⟨.inl ⟨rfl,hW⟩,a0.same gl (λx=>gl)⟩⟩ ?_;intro(a,p,q,v,out) sb ⟨Hb,b4⟩;have⟨hA,I⟩:=b4;have⟨b8,b9,b5⟩:=hA.le;by_cases b6:a<i/\a<b;have⟨l,w⟩:=b6;have o:((a:Int)<(i:Int))=True:=bO om;have A:((a:Int)<(b:Int))=True:=bO om;have P:=I.row (i:=0) (by rw[k];omega);have Q:=cr (m:=b) (e:=p) (show 0<i by omega);have B:lh q=i:=by rw[I.len,k]
 refine xA Hb @I.top B o A P Q ?_;refine⟨om,om,?_⟩;refine az (λ(n:Nat)L=>(L.sl 0=hY (cz i b e)/\L.sl 3=.own 13 (i+1)/\L.sl 5=.own 29 v/\L.rw 29=⟨v,.sli 3 1 o0 (iL out)⟩/\L.sl 6=al a)/\(TabI L.rw 13 (i+1) 22 3 q (cz i b p))) (λn=>0) (0) ⟨(jX Hb),I.same gl (λx=>gl)⟩ ?_;intro n sc ⟨R,b7⟩;have C:=b7;have S:=vG C;have hS:Sm2 i b a p:=λX Y i1 i2 j1 j2=>by rcases hA with⟨_,D⟩|⟨_,_,_,_,_,D⟩;have:=D.small i1 i2 j1 j2;omega;rw[D X Y i1 i2 j1 j2];omega
 refine iD R @C.top S ?_;refine aa (JZ p i b a om om om om hS) ?_;cases a2:th (CM p) a b (i-a)with
 | none =>have u:=ze5 hA h2 h3 (Wn om om a2);have e1:Vr B0=-1:=rfl;have Z:Vu B0=-1:=rfl;exact xd6 R @C.top S e1 Z u
 | some rc =>
   have⟨m,c⟩:=rc;have y:=Wm om om a2;have E:=y.hi;have F:=y.hj;have e1:Vr (A0 (m,c))=(m:Int):=rfl;have Z:Vu (A0 (m,c))=(c:Int):=rfl;have e3:((m:Int)<0)=False:=aX om;refine Cn R @C.top S e1 Z e3 ?_;have U:SWq t i b r W a p/\out=ld a 1:=by rcases hA with⟨h4,D⟩|⟨_,_,_,_,_,D⟩;exact⟨D,h4⟩;exact absurd (D m c E.1 E.2 F.1 F.2) y.nz
   have⟨k1,k2,k3,k4,k5⟩:=zd7 g U.1 h2 h3 y;refine zcJ (LO p i b a m c om om om om E.2 F.2) (by repeat (first|exact GiveL.nil|refine GiveL.v ?_|refine GiveL.clo ?_|refine GiveL.own 0 rfl ?_|refine GiveL.own 1 rfl ?_|refine GiveL.ag ?_ ?_)) (C.same gl (λx=>gl)) (by rw[k,k]) λS1 q1 G c0 d1 s1 w1=>?_;have G:TabI S1.rw 13 (i+1) 22 3 q1 (cz i b (piv p a m c)):=G;have u0:S1.sl 0=hY (cz i b e):=by rw[s1 0 dc];simp only[gr,simprocAttr,R]
   have u5:S1.sl 5=.own 29 v:=by rw[s1 5 dc];simp only[gr,simprocAttr,R]
   have u6:S1.sl 6=al a:=by rw[s1 6 dc];simp only[gr,simprocAttr,R]
   have a3:S1.rw 29=⟨v,.sli 3 1 o0 (iL out)⟩:=by rw[w1 29 dc];simp only[gr,simprocAttr,R]
   clear s1 w1;have a4:=vG G;simp only[↓gp,gq,simprocAttr,gT,d1,u0,u5,u6,a3,G.top,a4];have V:=LN (piv p a m c) (λX=>piv p a m c X a/p m c) (λY=>piv p a m c a Y/p m c) i b a om om l w (by rw[wS];exact y.nz) (by rw[wS];exact k1) (by rw[wS];exact k2) k3;refine zcK V (by repeat (first|exact GiveL.nil|refine GiveL.v ?_|refine GiveL.clo ?_|refine GiveL.own 0 rfl ?_|refine GiveL.own 1 rfl ?_|refine GiveL.ag ?_ ?_)) (G.same gl (λx=>gl)) (by rw[k,k]) λS2 q2 f c3 d2 s2 w2=>?_;have f:TabI S2.rw 13 (i+1) 22 3 q2 (cz i b (stp p i b a m c)):=f;have y0:S2.sl 0=hY (cz i b e):=by rw[s2 0 dc];simp only[gr,simprocAttr,u0]
   have y5:S2.sl 5=.own 29 v:=by rw[s2 5 dc];simp only[gr,simprocAttr,u5]
   have y6:S2.sl 6=al a:=by rw[s2 6 dc];simp only[gr,simprocAttr,u6]
   have J:S2.rw 29=⟨v,.sli 3 1 o0 (iL out)⟩:=by rw[w2 29 dc];simp only[gr,simprocAttr,a3]
   clear s2 w2;have H:=vG f;simp only[↓gp,gq,simprocAttr,gT,d2,y0,y5,y6,J,f.top,H];refine aa (Qa (stp p i b a m c) i b a om om l w (by rw[zd6];exact y.nz) (by rw[zd6];exact k4)) ?_;have K:lh q2=i:=by rw[f.len,k]
   have a5:=f.row (i:=a) (by rw[k];exact l);have a6:=cr (m:=b) (e:=stp p i b a m c) l;have va:lg (lg (cz i b (stp p i b a m c)) a []) a 0=p m c:=by rw[dz l w,zd6]
   have c4:=U.1.small E.1 E.2 F.1 F.2;simp only[↓gp,gq,simprocAttr,gT,d2,y0,y5,y6,J,f.top,H,K,a5,a6,va];refine⟨om,om,w,w,aa (qo (p m c) om om) ?_⟩;simp only[↓gp,gq,simprocAttr,gT,d2,y0,y5,y6,J,f.top,H,K,a5,a6,va,dB,b5];have a7:AtS t i b r W (a+1) (stp p i b a m c) (out++[((p m c).natAbs:Int)]):=by
    rw[U.2];rcases k5 with⟨h4,D⟩|⟨h4,D,h6,h7⟩
    exact .inl ⟨by rw[h4,zW];rfl,D⟩;exact .inr ⟨by rw[h4,h6];rfl,om,h7,l,w,λX Y i1 i2 j1 j2=>D X Y i1 i2 j1 j2⟩
   exact⟨om,ah ((a+1,stp p i b a m c,q2,v+1,out++[((p m c).natAbs:Int)])) ⟨(by and_intros<;>(first|(simp only[gr,simprocAttr,Hb,d2,y0,y5,y6,J,ak l om];first|done|rfl|(simp;done))|assumption|rfl)),⟨a7,f.same gl (λx=>gl)⟩⟩⟩
 have u:=ze5 hA h2 h3 λX Y=>om;by_cases l:a<i;have o:((a:Int)<(i:Int))=True:=bO om;have A:((a:Int)<(b:Int))=False:=aX om;have P:=I.row (i:=0) (by rw[k];omega);have Q:=cr (m:=b) (e:=p) (show 0<i by omega);have B:lh q=i:=by rw[I.len,k]
 refine XO Hb @I.top B o A P Q u ?_;omega;have o:((a:Int)<(i:Int))=False:=aX om;have B:lh q=i:=by rw[I.len,k]
 exact xd5 Hb @I.top B o u
theorem rP(G:t<=900)(H:s<=900)(I:b<=t)(D:b<=s):AC prog 329 [hY (cz t s e),al b] (.tup [.im (al (Vr (th (yV e) b s (t-b)))),.im (al (Vu (th (yV e) b s (t-b))))]):=by
 refine cA [.tmp 4,.tmp 5] func329 λJ=>?_;have n:=fw (n:=t) (m:=s) (e:=e);refine aR ?_;refine az (λ(a:Nat)m=>(m.sl 0=hY (cz t s e)/\m.sl 1=al b/\m.sl 6=al (b+a:Nat))/\(b+a<=t/\th (yV e) b s a=B0)) (λa=>t-a) (0) ⟨nm,⟨om,rfl⟩⟩ ?_;intro a K ⟨p,r⟩;have⟨E,j⟩:=r;rcases bf (b+a) t with c|c
 have g:(((b+a:Nat):Int)<(t:Int))=True:=bO om;have h:=cr (m:=s) (e:=e) c;refine ox p @bU n g ?_;refine az (λ(u:Nat)m=>(m.sl 0=hY (cz t s e)/\m.sl 1=al b/\m.sl 6=al (b+a:Nat)/\m.sl 7=al (b+u:Nat))/\(b+u<=s/\XR (yV e) b (b+a) (th (yV e) b s a) u=B0)) (λu=>s-u) (0) ⟨(jX p),⟨om,j⟩⟩ ?_;intro u L ⟨k,w⟩;have⟨F,i⟩:=w;have d:XR (yV e) b (b+a) (th (yV e) b s a) (u+1)=if e (b+a) (b+u)=0 then B0 else A0 (b+a,b+u):=by rw[XR,i];rfl
 rcases bf (b+u) s with l|l;have A:=dz (e:=e) c l;have f:(((b+u:Nat):Int)<(s:Int))=True:=bO om;have x:F0.i64.wrap (((b+u:Nat):Int)+1)=((b+(u+1):Nat):Int):=ak l om;by_cases q:e (b+a) (b+u)=0;rw[ae q]at d;refine xA k @bU n h f A q ?_;exact⟨c,c,c,c,l,ah (u+1) ⟨(gE k x),⟨om,d⟩⟩⟩;rw[ac q]at d;have y:(e (b+a) (b+u) != 0)=true:=bne_iff_ne.2 q;have B:=zmA d<|s-b-(u+1);rw[show u+1+(s-b-(u+1))=s-b by omega]at B;have C:=zmB (t:=a+1) B<|t-b-(a+1);rw[show a+1+(t-b-(a+1))=t-b by omega]at C;rw[C];refine xA k @bU n h f A y ?_;exact⟨c,c,c,c,l,rfl,rfl⟩;have f:(((b+u:Nat):Int)<(s:Int))=False:=aX om;have z:u=s-b:=om;have o:th (yV e) b s (a+1)=none:=by rw[z]at i;exact i
 refine nN k @bU n h f ?_;exact⟨c,c,ah (a+1) ⟨(fB p k (ak c om)),⟨om,o⟩⟩⟩;have g:(((b+a:Nat):Int)<(t:Int))=False:=aX om;rw[show t-b=a by omega,j];refine ox p @bU n g ?_;exact⟨rfl,rfl⟩
theorem zkz:Cu T h [] (.tup []):=fS
theorem BJ(c:Nat)(S:t<=900)(U:s<=900)(o:b<t)(k:b<s)(p:r<t)(F:c<s):AT prog 330 [.own 1000000 1,al b,al r,al c] 22 3 ((cz t s e).map iL) ((cz t s (piv e b r c)).map iL) (.rv (.tup [])):=by
 have d:=λe=>fw (n:=t) (m:=s) (e:=e);refine AT.goI (rs:=[]) tk mixed func330 rfl rfl rfl kr (by rw[d,d]) λV a G w y=>?_;rw[d]at y ⊢;have z:lh (lc t)=t:=sp;have A:=Ra (q:=lc t) (a:=b) (b:=r) om om;have M:=y.row (i:=r) (by rw[d];exact p);have N:=y.row (i:=b) (by rw[d];exact o);refine Cn G w @y.top M N z ?_;refine⟨kr,p,p,o,o,o,om,p,om,kr,?_⟩;have H:∀rw',rw' 1000000=⟨1,.tab 22 (cy 1000000 (((lc t).set b (lg (lc t) r 0)).set r (lg (lc t) b 0)))⟩->(∀x,rw' (dq 1000000 x)=a.rw (dq 1000000 x))->TabI rw' 1000000 1 22 3 _ (cz t s _):=λrw' m O=>by exact(y.swap (rw':=rw') (a:=b) (b:=r) (by rw[d];exact o) (by rw[d];exact p) m O).1.to (by rw[<- zbe o p];rfl)
 refine az (λ(i:Nat)a=>(a.sl 0=.own 1000000 1/\a.sl 1=al b/\a.sl 2=al r/\a.sl 3=al c/\a.sl 24=.own 1000000 1/\a.sl 25=al t/\a.sl 26=al i)/\(i<=t/\TabI a.rw 1000000 1 22 3 _ (cz t s λf j=>if f<i then e (ua b r f) (ua b c j)else e (ua b r f) j))) (λi=>t-i) (0) ⟨(gE G z),⟨om,H _ (rp G) (λx=>by simp only[gr,simprocAttr,G])⟩⟩ ?_;intro i W ⟨u,I⟩;have⟨X,g⟩:=I;generalize ((lc t).set b (lg (lc t) r 0)).set r (lg (lc t) b 0)=q at *;have B:lh q=t:=by rw[g.len,d]
 generalize J:(λf j=>if f<i then e (ua b r f) (ua b c j)else e (ua b r f) j)=E at *;rcases bf i t with h|h
 have C:=g.row (i:=i) (by rw[d];exact h);have D:=cr (m:=s) (e:=E) h;have l:((i:Int)<(t:Int))=True:=bO om;refine Cn u @g.top B l C D ?_;have K:∀j,E i j=e (ua b r i) j:=λj=>by rw[<- J];simp
 have L:cz t s (λf j=>if f<i+1 then e (ua b r f) (ua b c j)else e (ua b r f) j)=(cz t s E).set i (((lg (cz t s E) i []).set b (lg (lg (cz t s E) i []) c 0)).set c (lg (lg (cz t s E) i []) b 0)):=by refine(zbc h (by rw[de,de,D]) (λj P=>?_) λf j _ _ Q=>?_).symm;rw[zhc om om,znj,dz h (Hw k F P),K,ae (dD i)];grind
 refine⟨h,kr,F,F,k,k,k,om,F,om,kr,ah (i+1) ⟨(gE u (ak h om)),⟨om,?_⟩⟩⟩;rw[L];exact g.set (by rw[d];exact h) (rp u) (rp u) (λx R=>by simp only[gr,simprocAttr,u,R]);obtain rfl:i=t:=om;have l:((i:Int)<(i:Int))=False:=aX om;refine ox u @g.top B l ?_;refine⟨pT ((g.same gl (λx=>gl)).to ?_) A,?_⟩;rw[<- J];exact dV λf j m _=>ae m;exact zkz
theorem zky:br h m (.tup [])=h.put (A0 m) (.tup []):=by simp[br,bo,cM,eu,fL]
theorem LM{e lent:O0}{l k v:Nat}{us:Dm h}{u:Dm K}{b:fG}(args:AT P g c o l (M.map iL) (b.map iL) (.rv (.tup [])))(x:GiveL [(k,v)] e c)(f:TabI h.rw k v o l p M)(y:lh b=lh M)(n:d%1000≠k%1000)(z:∀(S:St)(q:Q0),TabI S.rw k v o l q b->q.Perm p->(∀t,t≠d->S.sl t=h.sl t)->(∀j,(j%1000==k%1000)=o0->S.rw j=h.rw j)->K S):nn P g lent w (tS P g lent e (A0 d) (kk h us) (kk K u)):=by
 refine Ec args x f.is f.nd λm a=>?_
 have s:lh m=(b.map iL).length:=by simp[a.length_eq,f.len,y]
 have r:=a.nodup_iff.2 f.nd
 refine⟨n,?_⟩
 rw[zky]
 exact z _ m (⟨⟨mj ..,s,λi B=>sh r B⟩,r⟩) a (λt f=>da _ _ _ _ f)<|λj C=>oy _ _ _ _ _ _ _ C
set_option maxRecDepth 100000 in
theorem Be(r3:Nat)(g:Abs.Good t)(hn:s<=20)(hm:b<=20)(h2:r<=b)(h3:r3<=b)(hW:IW t s b r r3 1 0 e):AC prog 296 [hY (cz s b e)] (.tup [.im (al r3),.im (al ((HJ s b (s+1) e 0 1).natAbs:Nat))]):=by
 refine cA [.tmp 2,.tmp 3] func296 λhl=>?_;have n:=λk=>fw (n:=s) (m:=b) (e:=k);have K:=n e;refine ff @bU K ?_;refine⟨om,om,?_⟩;refine NV (k:=15) (v:=1) (e:=22) (e2:=3) (n:=s) gl (λj=>gl) (λ(i:Nat)r2=>(r2.sl 0=hY (cz s b e)/\r2.sl 4=.own 15 1/\r2.sl 16=hY (cz s b e)/\r2.sl 17=al s/\r2.sl 18=al i)/\(i<=s/\TabP r2.rw 15 1 22 3 s i ((cz s b e).take i))) (λi=>s-i) (0) (λsX qw B N=>⟨(gE B N),⟨om,qw⟩⟩) ?_;intro i sa ⟨Ha,a5⟩;have⟨hi,W⟩:=a5;rcases bf i s with h|h
 have a6:((i:Int)<(s:Int))=True:=bO om;have a7:=cr (m:=b) (e:=e) h;have a8:(cz s b e).take i++[lg (cz s b e) i []]=(cz s b e).take (i+1):=(bj [] (by rw[n];exact h)).symm;have b0:lh ((cz s b e).take i)=i:=by rw[bg,n];omega
 refine xA Ha @bU K a6 a7 @W.top @ik ?_;exact⟨h,om,om,zdz (k:=15) (v:=1) (e:=22) (e2:=3) (n:=s) (i:=i) (d:=26) (vd:=(sa.rw 26).ver+1) (M:=(cz s b e).take i) (r:=lg (cz s b e) i []) (rp @W.top) b0 (λj A=>by simp only[gr,simprocAttr,W.row j A]) (λj A=>by simp only[gr,simprocAttr,W.rest j A]) gl dc dc h (i+1) (λsX qw B N=>⟨(rS B N Ha (ak h om)),⟨om,(a8 ▸ qw:TabP _ _ _ _ _ _ _ _)⟩⟩) (by first|omega|(simp only;omega)|(dsimp only;omega)|(show _<_;simp;omega))⟩;obtain rfl:i=s:=om;rw[bK (by rw[n];exact ab i)]at W;have b1:=W.done;have Y:((i:Int)<(i:Int))=False:=aX om;refine ox Ha @bU K Y ?_;refine az (λ((a,k,q,L):Nat×(Z0)×Q0×Int) r2=>(r2.sl 4=.own 15 1/\r2.sl 7=al L/\r2.sl 8=al a)/\((∃l:Nat,IW t i b r r3 l a k/\(L=(l:Int)\/L=-(l:Int)))/\HJ i b (i+1) e 0 1=HJ i b (i+1-a) k a L/\TabI r2.rw 15 1 22 3 q (cz i b k))) (λ(a,k,q,L)=>i+1-a) ((0,e,lc i,1)) ⟨(jX Ha),⟨⟨1,hW,.inl rfl⟩,rfl,b1.same gl (λx=>gl)⟩⟩ ?_;intro(a,k,q,L) sb ⟨O,b2⟩;have⟨⟨l,Z,hL⟩,w,hT⟩:=b2;have b3:=Z.an;have b4:=Z.am;have c4:=Z.l;have P:=vG hT;have hf:i+1-a=(i-a)+1:=om;rw[hf]at w;refine iD O @hT.top P ?_;refine aa (rP k i b a om om om om) ?_;cases F:th (yV k) a b (i-a)with
 | none =>
   have e1:Vr B0=-1:=rfl;have X:Vu B0=-1:=rfl;have h4:=(Z.stop h2 h3 (Ll b3 b4 F)).1;rw[UD F]at w;have b5:F0.i64.wrap (0-L)=-L:=by rw[aF om om];omega
   have b6:max L (-L)=(L.natAbs:Int):=om;rw[w];refine XO O @hT.top P e1 X b5 b6 h4 ?_;split<;>omega
 | some rc =>
   have⟨m,c⟩:=rc;have⟨f1,f2,f3,f4,f5⟩:=zns g Z h2 h3 hL F;rw[UE F]at w;have e1:Vr (A0 (m,c))=(m:Int):=rfl;have X:Vu (A0 (m,c))=(c:Int):=rfl;have e3:((m:Int)<0)=False:=aX om;refine Cn O @hT.top P e1 X e3 ?_;refine LM (BJ k i b a m c om om om om f1.2 f2.2) (by repeat (first|exact GiveL.nil|refine GiveL.v ?_|refine GiveL.clo ?_|refine GiveL.own 0 rfl ?_|refine GiveL.own 1 rfl ?_|refine GiveL.ag ?_ ?_)) (hT.same gl (λx=>gl)) (by rw[n,n]) dc λS1 q1 Q c5 s1 w1=>?_;have u4:S1.sl 4=.own 15 1:=by rw[s1 4 dc];simp only[gr,simprocAttr,O]
   have u7:S1.sl 7=al L:=by rw[s1 7 dc];simp only[gr,simprocAttr,O]
   have u8:S1.sl 8=al a:=by rw[s1 8 dc];simp only[gr,simprocAttr,O]
   clear s1 w1;have G:F0.i64.wrap ((a:Int)+1)=((a+1:Nat):Int):=ak (n:=i) om om;refine nN u4 u7 u8 @Q.top G ?_;have H:∀x j,a<=x->x<i->a<=j->j<b->-2<=piv k a m c x j/\piv k a m c x j<=2:=λx j i1 i2 j1 j2=>by have t1:=nU f1 i1 i2;have t2:=nU f2 j1 j2;exact f4 _ _ t1.1 t1.2 t2.1 t2.2
   have b7:piv k a m c a a=k m c:=wS;have a0:bst k i a m c L=bar (piv k a m c) a L i:=rfl;rw[a0]at f5 w;have f:a<i:=om;have o:a<b:=om;generalize piv k a m c=E at *;have a1:L≠0:=om;have b8:(L==0)=false:=beq_eq_false_iff_ne.2 a1;have u:lh q1=i:=by rw[Q.len,n]
   refine az (λ(x:Nat)r2=>(r2.sl 4=.own 15 1/\r2.sl 7=al L/\r2.sl 8=al a/\r2.sl 11=al x)/\((a<x/\x<=i)/\TabI r2.rw 15 1 22 3 q1 (cz i b (bar E a L x)))) (λx=>i-x) (a+1) ⟨(fB u4 u7 u8),⟨⟨om,om⟩,(Q.same gl (λx=>gl)).to (dV λi' j _ _=>(ac om).symm)⟩⟩ ?_;intro x sc ⟨Hc,b9⟩;have⟨⟨R,c6⟩,C⟩:=b9;rcases bf x i with p|p
   have S:((x:Int)<(i:Int))=True:=bO om;refine nN Hc @C.top u S G ?_;refine az (λ(j:Nat)r2=>(r2.sl 4=.own 15 1/\r2.sl 7=al L/\r2.sl 8=al a/\r2.sl 11=al x/\r2.sl 12=al j)/\((a<j/\j<=b)/\TabI r2.rw 15 1 22 3 q1 (cz i b (rC E a L x j)))) (λj=>b-j) (a+1) ⟨(gE Hc G),⟨⟨om,om⟩,(C.same gl (λx=>gl)).to (dV λi' j _ _=>zjr.symm)⟩⟩ ?_;intro j sd ⟨D,c0⟩;have⟨⟨c3,c7⟩,z⟩:=c0;have I:=z.row (i:=x) (by rw[n];exact p);have a2:=z.row (i:=a) (by rw[n];exact f);have J:=cr (m:=b) (e:=rC E a L x j) p;have a3:=cr (m:=b) (e:=rC E a L x j) f;rcases bf j b with A|A
   have U:((j:Int)<(b:Int))=True:=bO om;have v1:lg (lg (cz i b (rC E a L x j)) x []) j 0=E x j:=by rw[dz p A,zqK (ab j)]
   have v2:lg (lg (cz i b (rC E a L x j)) a []) a 0=E a a:=by rw[dz f o,zbF R]
   have v3:lg (lg (cz i b (rC E a L x j)) x []) a 0=E x a:=by rw[dz p o,znp]
   have v4:lg (lg (cz i b (rC E a L x j)) a []) j 0=E a j:=by rw[dz f A,zbF R]
   have m1:=Yd (H x j om p om A) 2 (H a a (ab a) f (ab a) o);have m2:=Yd (H x a om p (ab a) o) 2 (H a j (ab a) f om A);have w1:F0.i64.wrap (E x j*E a a)=E x j*E a a:=aF om om;have w2:F0.i64.wrap (E x a*E a j)=E x a*E a j:=aF om om;have w3:F0.i64.wrap (E x j*E a a-E x a*E a j)=E x j*E a a-E x a*E a j:=aF om om;have a4:(E x j*E a a-E x a*E a j).tdiv L=crs E a L x j:=rfl;have w4:F0.i64.wrap (crs E a L x j)=crs E a L x j:=by have:=Int.natAbs_tdiv_le_natAbs (E x j*E a a-E x a*E a j) L;rw[a4]at this;exact aF om om
   simp only[↓gp,gq,simprocAttr,gT,D,z.top,u,U,I,a2,J,a3,v1,v2,v3,v4,w1,w2,w3,b8,a4,w4];refine⟨p,p,kr,p,p,p,p,A,f,f,o,o,p,p,o,o,f,f,A,a1,om,kr,ah (j+1) ⟨(gE D (ak A om)),⟨⟨om,om⟩,?_⟩⟩⟩;have V:cz i b (rC E a L x (j+1))=(cz i b (rC E a L x j)).set x ((lg (cz i b (rC E a L x j)) x []).set j (crs E a L x j)):=by rw[vc p];exact dV λi' j' _ _=>(znq om).symm
   rw[V];exact z.set (by rw[n];exact p) (rp D) (rp D) (λy hy=>by simp only[gr,simprocAttr,D,hy]);have U:((j:Int)<(b:Int))=False:=aX om;obtain rfl:j=b:=om;refine XO D @z.top u U I a2 J a3 ?_;refine⟨p,p,p,p,o,om,ah (x+1) ⟨(fB Hc D (ak p om)),⟨⟨om,om⟩,?_⟩⟩⟩;have V:cz i j (bar E a L (x+1))=(cz i j (rC E a L x j)).set x ((lg (cz i j (rC E a L x j)) x []).set a 0):=by rw[vc p];exact dV λi' j' _ h'=>(znr R h').symm
   rw[V];exact z.set (by rw[n];exact p) (rp D) (rp D) (λy hy=>by simp only[gr,simprocAttr,D,hy]);have S:((x:Int)<(i:Int))=False:=aX om;obtain rfl:x=i:=om;have I:=C.row (i:=a) (by rw[n];exact f);have J:=cr (m:=b) (e:=bar E a L x) f;have v1:lg (lg (cz x b (bar E a L x)) a []) a 0=k m c:=by rw[dz f o,znn (ab a),b7]
   refine xA Hc @C.top u S I J v1 ?_;exact⟨f,f,o,o,ah ((a+1,bar E a L x,q1,k m c)) ⟨(fB O Hc G),⟨⟨(k m c).natAbs,f5,Int.natAbs_eq _⟩,by rw[w,show x+1-(a+1)=x-a by omega],C.same gl (λx=>gl)⟩⟩⟩
theorem vH(k:m<=1000)(l:t<=1000):AC prog 333 [al m,al t] (.im (al (Nat.gcd m t:Nat))):=by
 refine cA [.tmp 4] func333 λq=>?_;refine aR ?_;refine az (λ(x,y)s=>(s.sl 0=al x/\s.sl 1=al y)/\(Nat.gcd x y=Nat.gcd m t/\x<=1000/\y<=1000)) (λ(x,y)=>y) ((m,t)) ⟨nm,⟨rfl,k,l⟩⟩ ?_;intro(x,y) r ⟨c,d⟩;have⟨e,b,n⟩:=d;rcases tg y with f|f
 subst f;rw[Nat.gcd_zero_right]at e;have o:((0:Int) != 0)=false:=rfl;exact xd3 c o e;have g:((y:Int) != 0)=true:=bne_iff_ne.2 om;have i:(x:Int).tmod y=(x%y:Nat):=rfl
 have p:=xq x f;have j:F0.i64.wrap _=(x%y:Nat):=aF om om;have h:(y==0)=false:=beq_eq_false_iff_ne.2 om;refine nN c g i j h ?_;exact⟨kr,om,ah ((y,x%y)) ⟨(fB c i j),⟨by rw[<- e,Nat.gcd_comm x y,Nat.gcd_rec y x,Nat.gcd_comm],n,om⟩⟩⟩
theorem HK(H:t<=900)(I:s<=900)(A:b<=t)(k:b<=s)(D:∀i j,b<=i->i<t->b<=j->j<s->e i j=0\/e i j=1):AC prog 331 [hY (cz t s e),al b] (.tup [.im (al (Vr (th (yV e) b s (t-b)))),.im (al (Vu (th (yV e) b s (t-b))))]):=by
 refine cA [.tmp 4,.tmp 5] func331 λS=>?_;have d:=fw (n:=t) (m:=s) (e:=e);refine aR<|aa (rP e t s b H I A k) ?_;refine aR ?_;refine az (λ(a:Nat)m=>(m.sl 0=hY (cz t s e)/\m.sl 1=al b/\m.sl 6=al (Vr<|th (yV e) b s<|t-b)/\m.sl 7=al (Vu<|th (yV e) b s<|t-b)/\m.sl 8=al (b+a:Nat))/\(b+a<=t)) (λa=>t-a) (0) ⟨nm,om⟩ ?_;intro a U ⟨y,J⟩;rcases bf (b+a) t with n|n
 have l:(((b+a:Nat):Int)<(t:Int))=True:=bO om;have o:=cr (m:=s) (e:=e) n;refine ox y @bU d l ?_;refine az (λ(u:Nat)m=>(m.sl 0=hY (cz t s e)/\m.sl 1=al b/\m.sl 6=al (Vr<|th (yV e) b s<|t-b)/\m.sl 7=al (Vu<|th (yV e) b s<|t-b)/\m.sl 8=al (b+a:Nat)/\m.sl 9=al (b+u:Nat))/\(b+u<=s)) (λu=>s-u) (0) ⟨(jX y),om⟩ ?_;intro u V ⟨p,K⟩;rcases bf (b+u) s with h|h
 have E:=dz (e:=e) n h;have f:(((b+u:Nat):Int)<(s:Int))=True:=bO om;have z:F0.i64.wrap (((b+u:Nat):Int)+1)=((b+(u+1):Nat):Int):=ak h om;rcases D _ _ om n om h with B|B
 refine xA p @bU d o f E B ?_;exact⟨n,n,kr,n,n,h,ah (u+1) ⟨(gE p z),om⟩⟩;cases g:th (yV e) b s (t-b)with
 | none =>have:=Ll A k g _ _ (show b<=b+a by omega) n (show b<=b+u by omega) h;omega
 | some L =>
   have⟨r,c⟩:=L;have⟨q,w,M,_⟩:=zdG A k g;have N:e r c=1:=(D r c q.1 q.2 w.1 w.2).resolve_left M;have F:Vr (th (yV e) b s<|t-b)=(r:Int):=by rw[g];rfl
   have G:Vu (th (yV e) b s<|t-b)=(c:Int):=by rw[g];rfl
   have O:Vr (A0 (r,c))=(r:Int):=rfl;have P:Vu (A0 (r,c))=(c:Int):=rfl;have C:=dz (e:=e) q.2 w.2;have x:=cr (m:=s) (e:=e) q.2;have Q:((1:Int) != 0)=true:=rfl;have R:((1:Int)<1)=False:=aX om;simp only[↓gp,gq,simprocAttr,gT,p,bU,d,o,f,E,B,F,G,O,P,Q,R,C,x,N];exact⟨n,n,kr,n,n,h,n,n,h,q.2,q.2,w.2,w.2,ah (u+1) ⟨(rS p F G z),om⟩⟩
 have f:(((b+u:Nat):Int)<(s:Int))=False:=aX om;have z:F0.i64.wrap (((b+a:Nat):Int)+1)=((b+(a+1):Nat):Int):=ak n om;refine nN p @bU d o f ?_;exact⟨n,n,ah (a+1) ⟨(fB y p z),om⟩⟩;have l:(((b+a:Nat):Int)<(t:Int))=False:=aX om;exact xd4 y @bU d l
set_option maxRecDepth 100000 in
theorem FJ(hn:t<=900)(hm:s<=900)(c:b<t)(l:b<s)(h1:e b b=1)(Q:HL t s e) :
 AT prog 332 [.own 1000000 1,al b,al 2] 22 3 ((cz t s e).map iL) ((cz t s (clq e t s b)).map iL) (.rv (.im (aU n0))):=by
 have n:=λe=>fw (n:=t) (m:=s) (e:=e)
 refine AT.goI (rs:=[.tmp 6]) tk mixed func332 rfl rfl rfl kr (by rw[n,n]) λhl m hs a0 ht=>?_
 rw[n]at ht ⊢
 have f:∀i,i<t->lg (lc t) i 0=i:=λi hi=>by simp[lg,hi]
 have o:lh (lc t)=t:=bp
 have R:F0.i64.wrap ((b:Int)+1)=((b+1:Nat):Int):=ak c om
 refine iD hs a0 R ?_
 refine az (λ(i:Nat)m=>(m.sl 0=.own 1000000 1/\m.sl 1=al b/\m.sl 2=al 2/\m.sl 7=.v (.bool n0)/\m.sl 8=al i)/\((b<i/\i<=t)/\TabI m.rw 1000000 1 22 3 (lc t) (cz t s (Kv e b i)))) (λi=>t-i) (b+1) ⟨(gE hs R),⟨⟨om,om⟩,(ht.same gl (λx=>gl)).to (dV λi j _ _=>(ac om).symm)⟩⟩ ?_
 intro i sa ⟨Y,a4⟩
 have⟨⟨S,b4⟩,D⟩:=a4
 rcases bf i t with h|h
 have U:((i:Int)<(t:Int))=True:=bO om;have F:=D.row (i:=i) (by rw[n];exact h);have a1:=D.row (i:=b) (by rw[n];exact c);rw[f i h]at F;rw[f b c]at a1;have M:=cr (m:=s) (e:=Kv e b i) h;have a5:=cr (m:=s) (e:=Kv e b i) c;have v1:lg (lg (cz t s (Kv e b i)) i []) b 0=e i b:=by rw[dz h l,znu (ab i)]
 have v2:lg (lg (cz t s (Kv e b i)) b []) b 0=1:=by rw[dz c l,OH (ab b),h1]
 have V:=Q i b h l;have H:(e i b).tdiv 1=e i b:=Int.tdiv_one _;have I:F0.i64.wrap (e i b)=e i b:=aF om om;simp only[↓gp,gq,simprocAttr,gT,Y,D.top,o,U,F,a1,f i h,f b c,M,a5,v1,v2,H,I]
 repeat refine⟨by first|omega|assumption|kernel_rfl,?_⟩
 refine az (λ(j:Nat)m=>(m.sl 0=.own 1000000 1/\m.sl 1=al b/\m.sl 2=al 2/\m.sl 7=.v (.bool n0)/\m.sl 8=al i/\m.sl 9=al (e i b)/\m.sl 10=al j)/\(((b<=j/\j<=s)/\(e i b=0->j=b))/\TabI m.rw 1000000 1 22 3 (lc t) (cz t s (UF e b i j)))) (λj=>s-j) (b) ⟨(fB Y H I),⟨⟨⟨om,om⟩,λ_=>rfl⟩,(D.same gl (λx=>gl)).to (dV λp w _ _=>zbH.symm)⟩⟩ ?_;intro j sb ⟨K,a6⟩;have⟨⟨⟨N,a7⟩,a8⟩,d⟩:=a6;have g:=d.row (i:=i) (by rw[n];exact h);have J:=d.row (i:=b) (by rw[n];exact c);rw[f i h]at g;rw[f b c]at J;have a:=cr (m:=s) (e:=UF e b i j) h;have O:=cr (m:=s) (e:=UF e b i j) c;by_cases P:j<s/\e i b=1
 have⟨q,A⟩:=P;have u:((j:Int)<(s:Int))=True:=bO om;have B:(e i b != 0)=true:=by rw[A];rfl
 have v3:lg (lg (cz t s (UF e b i j)) i []) j 0=e i j:=by rw[dz h q,ztS (ab j)]
 have v4:lg (lg (cz t s (UF e b i j)) b []) j 0=e b j:=by rw[dz c q,ztR S]
 have s1:=Q i j h q;have s2:=Q b j c q;have w1:F0.i64.wrap (e i b*e b j)=e i b*e b j:=by rw[A];exact aF om om
 have w2:F0.i64.wrap (e i j-e i b*e b j)=e i j-e i b*e b j:=by rw[A];exact aF om om
 simp only[↓gp,gq,simprocAttr,gT,K,d.top,o,u,B,g,J,f i h,f b c,a,O,v3,v4,w1,w2]
 repeat refine⟨by first|omega|assumption|kernel_rfl,?_⟩
 refine aa (oS _ 2 om) ?_;simp only[↓gp,gq,simprocAttr,gT,K,d.top,o,u,B,g,J,f i h,f b c,a,O,v3,v4,w1,w2];have e2:(e i j-e i b*e b j)%2=(e i j+e i b*e b j)%2:=om;refine⟨om,kr,ah (j+1) ⟨(gE K (ak q om)),⟨⟨⟨om,om⟩,λC=>om⟩,?_⟩⟩⟩;have W:cz t s (UF e b i (j+1))=(cz t s (UF e b i j)).set i ((lg (cz t s (UF e b i j)) i []).set j ((e i j-e i b*e b j)%2)):=by rw[vc h,e2];exact dV λp w _ _=>(zqO N).symm
 rw[W];exact d.set (by rw[n];exact h) (rp K) (by rw[f i h];simp only[gr,simprocAttr,K]) (λx hx=>by rw[f i h]at hx;simp only[gr,simprocAttr,K,hx])
 have r:∀p w,w<s->UF e b i j p w=Kv e b (i+1) p w:=λp w Z=>by rcases V with C|C;rw[a8 C,zbH];exact znw Q h C Z;obtain rfl:j=s:=om;exact zqP S Z
 have v5:lg (lg (cz t s (UF e b i j)) i []) b 0=0:=by rw[dz h l,r i b l];exact zhE h1 V S (dD i)
 have X:(decide ((j:Int)<(s:Int))=o0\/(decide ((j:Int)<(s:Int))=n0/\(e i b != 0)=o0)):=by rcases V with C|C;rcases bf j s with q|q;exact .inr ⟨ay om,by rw[C];rfl⟩;exact .inl (aD om);exact .inl (aD om)
 rcases X with q|⟨q,h3⟩
 have u:((j:Int)<(s:Int))=False:=aX (of_decide_eq_false q);simp only[↓gp,gq,simprocAttr,gT,K,d.top,o,u,g,J,f i h,f b c,a,O,v5];exact⟨h,h,h,h,l,l,ah (i+1) ⟨(fB Y K (ak h om)),⟨⟨om,om⟩,(d.same gl (λx=>gl)).to (dV λp w _ Z=>r p w Z)⟩⟩⟩
 have u:((j:Int)<(s:Int))=True:=bO (cH q);simp only[↓gp,gq,simprocAttr,gT,K,d.top,o,u,h3,g,J,f i h,f b c,a,O,v5];exact⟨h,h,h,h,l,l,ah (i+1) ⟨(fB Y K (ak h om)),⟨⟨om,om⟩,(d.same gl (λx=>gl)).to (dV λp w _ Z=>r p w Z)⟩⟩⟩
 obtain rfl:i=t:=om;have U:((i:Int)<(i:Int))=False:=aX om;refine nN Y @D.top o U R ?_;have eA:∀j,Kv e b i b j=e b j:=λj=>OH (ab b);have eC:∀p,b<p->p<i->Kv e b i p b=0:=λp b0 a2=>zhE h1 (Q p b a2 l) b0 a2;have eB:HL i s (Kv e b i):=zbI Q;have b1:clq e i s b=FK (Kv e b i) b s:=rfl;rw[b1];generalize Kv e b i=E at *;refine az (λ(j:Nat)m=>(m.sl 0=.own 1000000 1/\m.sl 1=al b/\m.sl 2=al 2/\m.sl 7=.v (.bool n0)/\m.sl 11=al j)/\((b<j/\j<=s)/\TabI m.rw 1000000 1 22 3 (lc i) (cz i s (FK E b j)))) (λj=>s-j) (b+1) ⟨(jX Y),⟨⟨om,om⟩,(D.same gl (λx=>gl)).to (dV λi j _ _=>znA.symm)⟩⟩ ?_;intro j sc ⟨Hc,b2⟩;have⟨⟨N,a7⟩,d⟩:=b2;have F:=d.row (i:=b) (by rw[n];exact c);rw[f b c]at F;have M:=cr (m:=s) (e:=FK E b j) c;rcases bf j s with q|q
 have u:((j:Int)<(s:Int))=True:=bO om;have v1:lg (lg (cz i s (FK E b j)) b []) j 0=e b j:=by rw[dz c q,znz (ab j),eA]
 have v2:lg (lg (cz i s (FK E b j)) b []) b 0=1:=by rw[dz c l,zd9 (ab b),eA,h1]
 have a3:=Q b j c q;have H:(e b j).tdiv 1=e b j:=Int.tdiv_one _;have I:F0.i64.wrap (e b j)=e b j:=aF om om;simp only[↓gp,gq,simprocAttr,gT,Hc,d.top,o,u,F,f b c,M,v1,v2,H,I]
 repeat refine⟨by first|omega|assumption|kernel_rfl,?_⟩
 refine az (λ(k:Nat)m=>(m.sl 0=.own 1000000 1/\m.sl 1=al b/\m.sl 2=al 2/\m.sl 7=.v (.bool n0)/\m.sl 11=al j/\m.sl 12=al (e b j)/\m.sl 13=al k)/\(((b<=k/\k<=i)/\(e b j=0->k=b))/\TabI m.rw 1000000 1 22 3 (lc i) (cz i s (FK E b (if k=b then j else j+1))))) (λk=>i-k) (b) ⟨(fB Hc H I),⟨⟨⟨om,om⟩,λ_=>rfl⟩,by rw[ae rfl];exact d.same gl (λx=>gl)⟩⟩ ?_;intro k sd ⟨L,b3⟩;have⟨⟨⟨b5,b6⟩,b7⟩,y⟩:=b3;by_cases P:k<i/\e b j=1
 have⟨h,A⟩:=P;have G:((k:Int)<(i:Int))=True:=bO om;have B:(e b j != 0)=true:=by rw[A];rfl
 have g:=y.row (i:=k) (by rw[n];exact h);rw[f k h]at g;have a:=cr (m:=s) (e:=FK E b (if k=b then j else j+1)) h;have v3:lg (lg (cz i s (FK E b (if k=b then j else j+1))) k []) j 0=E k j:=by rw[dz h q];split;rename_i z;rw[z,znz (ab j)];rename_i z;exact WG z
 have v4:lg (lg (cz i s (FK E b (if k=b then j else j+1))) k []) b 0=E k b:=by rw[dz h l,zd9 (ab b)]
 have s1:=eB k j h q;have s2:(k=b/\E k b=1/\E k j=1)\/(b<k/\E k b=0):=by rcases bf b k with h3|h3;exact .inr ⟨h3,eC k h3 h⟩;obtain rfl:k=b:=om;exact .inl ⟨rfl,by rw[eA,h1],by rw[eA,A]⟩
 have w1:F0.i64.wrap (e b j*E k b)=E k b:=by rw[A,jL];exact aF om om
 have w2:F0.i64.wrap (E k j-E k b)=E k j-E k b:=aF om om;simp only[↓gp,gq,simprocAttr,gT,L,y.top,o,G,B,g,f k h,a,v3,v4,w1,w2]
 repeat refine⟨by first|omega|assumption|kernel_rfl,?_⟩
 refine aa (oS _ 2 om) ?_;simp only[↓gp,gq,simprocAttr,gT,L,y.top,o,G,B,g,f k h,a,v3,v4,w1,w2];have e2:(E k j-E k b)%2=if k=b then 0 else E k j:=by split<;>omega
 refine⟨q,om,kr,ah (k+1) ⟨(gE L (ak h om)),⟨⟨⟨om,om⟩,λC=>om⟩,?_⟩⟩⟩;have W:cz i s (FK E b (if k+1=b then j else j+1))=(cz i s (FK E b (if k=b then j else j+1))).set k ((lg (cz i s (FK E b (if k=b then j else j+1))) k []).set j ((E k j-E k b)%2)):=by rw[vc h,e2,ac (show ¬k+1=b by omega)];by_cases z:k=b;subst z;rw[ae rfl,ae rfl];exact dV λp w _ _=>(zqQ N).symm;rw[ac z,ac z];exact dV λp w _ _=>(zjt (WG z)).symm
 rw[W];exact y.set (by rw[n];exact h) (rp L) (by rw[f k h];simp only[gr,simprocAttr,L]) (λx hx=>by rw[f k h]at hx;simp only[gr,simprocAttr,L,hx])
 have r:∀p w,FK E b (if k=b then j else j+1) p w=FK E b (j+1) p w:=λp w=>by
  split;rename_i z;rcases a3 with C|C
  exact znB (by rw[eA,C]);omega;rfl
 have g:=y.row (i:=b) (by rw[n];exact c);rw[f b c]at g;have a:=cr (m:=s) (e:=FK E b (if k=b then j else j+1)) c;have v5:lg (lg (cz i s (FK E b (if k=b then j else j+1))) b []) j 0=0:=by rw[dz c q,r];exact ae ⟨rfl,N,dD j⟩
 rcases bf k i with h|h
 have G:((k:Int)<(i:Int))=True:=bO om;have B:(e b j != 0)=false:=by rcases a3 with C|C;rw[C];rfl;exact absurd ⟨h,C⟩ P
 simp only[↓gp,gq,simprocAttr,gT,L,y.top,o,G,B,g,f b c,a,v5];exact⟨c,c,q,q,ah (j+1) ⟨(fB Hc L (ak q om)),⟨⟨om,om⟩,(y.same gl (λx=>gl)).to (dV λp w _ _=>r p w)⟩⟩⟩
 have G:((k:Int)<(i:Int))=False:=aX om;refine XO L @y.top o G g (f b c) a v5 ?_;exact⟨c,c,q,q,ah (j+1) ⟨(fB Hc L (ak q om)),⟨⟨om,om⟩,(y.same gl (λx=>gl)).to (dV λp w _ _=>r p w)⟩⟩⟩
 have u:((j:Int)<(s:Int))=False:=aX om;obtain rfl:j=s:=om;refine xA Hc @d.top o u F (f b c) M ?_;refine⟨c,c,pT (d.same gl (λx=>gl)) (List.Perm.refl _)⟩
theorem zjs(e:Z0):nw n (cz t s e)=cz t s λi j=>e i j%n:=by simp[nw,cz]
theorem ztP(a:d=1\/d=2){b:Bool}(c:x=if b then 1 else 0):((Nat.gcd d x.toNat:Nat):Int)=if b then 1 else(d:Int):=by rcases a with rfl|rfl<;>cases b<;>simp[c]
theorem zqM{b t N i j:Nat}(e:t=1\/t=2)(c:i<=j)(d:j<N):((Nat.gcd (lg (AN b t N) i 0).toNat (lg (AN b t N) j 0).toNat:Nat):Int)=lg (AN b t N) i 0/\(lg (AN b t N) i 0=1\/(AN b t N).getD i 0=2)/\(lg (AN b t N) j 0=1\/(AN b t N).getD j 0=2):=by rw[OI<|om,OI d];by_cases a:i<b;simp[a];omega;grind
theorem zbG:l.set d (lg l d 0)=l:=by refine bE sp λj b a=>?_;grind
theorem ztQ{ T:gg}{rw:U0}{a:PV->Prop}{e:TypeId}(fr:Bool)(c:O0)(x y:Operand)(b:(T e).size=1):tT T rw h.ev (.sli e) 1 (.sl fr 1 c) B0 (A0 x) (A0 y) a=ya (h.ev x) (kk λs=>ya (h.ev y) (kk λm=>0<=s/\s<=m/\m<=(lh c:Int)/\a (.sl fr 1 (c.take s.toNat)))):=by simp[tT,re,rZ,ya,kk];grind
set_option maxRecDepth 100000 in
theorem Db(c:Nat)(hn:t<=20)(hm:s<=20)(G:0<t)(ht:b=1\/b=2)(hr:r<=t/\r<=s)(h2:c<=s)(hK:K2 (λi j=>e i j%(b:Int)) 0 t s c):AC prog 297 [hY (cz t s e),al r,al b] (.im (aE (AN c b r))):=by
 refine cA [.tmp 6] func297 λhl=>?_;have a:=λZ=>fw (n:=t) (m:=s) (e:=Z);have b4:b=1->∀i j,e i j%(b:Int)=0:=λh i j=>by rw[h];exact Int.emod_one _
 have E:=uS (cz t s e) b om (by rw[a];omega) (λi hi=>by rw[a]at hi;rw[cr hi];omega);rw[zjs]at E;have H:=MW.start hK ht;generalize hE:(λi j=>e i j%(b:Int))=e1 at *;have a0:=a e1;refine aR ?_;refine HI E (λi hi=>gl) λS f d1 p w1=>?_;rw[a0]at f;have f:TabI S.rw 19 1 22 3 (lc t) (cz t s e1):=f;have u1:S.sl 1=al r:=by rw[p 1 dc];simp only[gr,simprocAttr]
 have u2:S.sl 2=al b:=by rw[p 2 dc];simp only[gr,simprocAttr]
 clear p w1;have b5:=f.row (i:=0) (by rw[a0];exact G);have b6:=cr (m:=s) (e:=e1) G;have b7:lh (lc t)=t:=bp;generalize hN:min t s=N at *;have a1:(if s<t then(s:Int)else(t:Int))=(N:Int):=by split<;>omega
 simp only[↓gp,gq,simprocAttr,gT,d1,u1,u2,f.top,b7,b5,b6,a1];refine⟨om,G,?_⟩;refine az (λ((k,Z,q):Nat×(Z0)×Q0) m=>(m.sl 1=al r/\m.sl 2=al b/\m.sl 7=.own 19 1/\m.sl 8=al N/\m.sl 9=al k)/\((k<=N/\(∃n,MW t s c n k Z)/\(b=1->∀i j,i<t->j<s->Z i j=0))/\TabI m.rw 19 1 22 3 q (cz t s Z))) (λ(k,Z,q)=>N-k) ((0,e1,lc t)) ⟨(by and_intros<;>(first|(simp only[gr,simprocAttr,d1,u1,u2,a1];first|done|rfl|(simp;done))|assumption|rfl)),⟨⟨om,⟨0,H⟩,λh i j _ _=>by rw[<- hE];exact b4 h i j⟩,f.same gl (λx=>gl)⟩⟩ ?_;intro(k,Z,q) sa ⟨U,b8⟩;have⟨⟨d5,⟨n,z⟩,a2⟩,hT⟩:=b8;rcases bf k N with hk|hk
 have I:((k:Int)<(N:Int))=True:=bO om;refine ff U I ?_;refine az (λ(x:Nat)m=>(m.sl 1=al r/\m.sl 2=al b/\m.sl 7=.own 19 1/\m.sl 8=al N/\m.sl 9=al k)/\(TabI m.rw 19 1 22 3 q (cz t s Z))) (λx=>0) (0) ⟨(jX U),hT.same gl (λx=>gl)⟩ ?_;intro x sb ⟨A,b9⟩;have d:=b9;have J:=vG d;refine iD A @d.top J ?_;refine aa (HK Z t s k om om om om λi j _ i2 _ j2=>z.bt i j i2 j2) ?_;cases a3:th (yV Z) k s (t-k)with
 | none =>
   have K:Vr B0=-1:=rfl;have L:Vu B0=-1:=rfl;have hz:∀i j,n<=i->i<t->n<=j->j<s->Z i j=0:=by rcases z.zr with V|V;subst V;exact Ll om om a3;exact V
   refine nN A @d.top J K L ?_;exact ah ((k+1,Z,q)) ⟨(fB U A (ak hk om)),⟨⟨by dsimp only;omega,⟨n,z.skip hz⟩,a2⟩,d.same gl (λx=>gl)⟩⟩
 | some rc =>
   have⟨x,y⟩:=rc;have⟨f1,f2,f3,_⟩:=zdG om om a3;have V:Z x y=1:=(z.bt x y f1.2 f2.2).resolve_left f3;have c0:n=k:=by rcases z.zr with B|B;exact B;have:=z.ba;exact absurd (B x y om f1.2 om f2.2) f3
   subst c0;have c3:b=2:=ht.resolve_left λB=>f3 (a2 B x y f1.2 f2.2);subst c3;have K:Vr (A0 (x,y))=(x:Int):=rfl;have L:Vu (A0 (x,y))=(y:Int):=rfl;have c4:((x:Int)<0)=False:=aX om;refine Cn A @d.top J K L c4 ?_;refine LM (BJ Z t s n x y om om om om f1.2 f2.2) (by repeat (first|exact GiveL.nil|refine GiveL.v ?_|refine GiveL.clo ?_|refine GiveL.own 0 rfl ?_|refine GiveL.own 1 rfl ?_|refine GiveL.ag ?_ ?_)) (d.same gl (λx=>gl)) (by rw[a,a]) dc λS1 q1 a4 M p w1=>?_;have y1:S1.sl 1=al r:=by rw[p 1 dc];simp only[gr,simprocAttr,A]
   have y2:S1.sl 2=al (2:Nat):=by rw[p 2 dc];simp only[gr,simprocAttr,A]
   have y7:S1.sl 7=.own 19 1:=by rw[p 7 dc];simp only[gr,simprocAttr,A]
   have y8:S1.sl 8=al N:=by rw[p 8 dc];simp only[gr,simprocAttr,A]
   have y9:S1.sl 9=al n:=by rw[p 9 dc];simp only[gr,simprocAttr,A]
   clear p w1;refine Cn y1 y2 y7 y8 y9 @a4.top ?_;refine zd4 (FJ (piv Z n x y) t s n om om om om (by rw[wS,V]) (zbJ z.bt om om)) (by repeat (first|exact GiveL.nil|refine GiveL.v ?_|refine GiveL.clo ?_|refine GiveL.own 0 rfl ?_|refine GiveL.own 1 rfl ?_|refine GiveL.ag ?_ ?_)) (a4.same gl (λx=>gl)) (by rw[a,a]) dc λS2 q2 a5 d6 d2 W w2=>?_;have z1:S2.sl 1=al r:=by rw[W 1 dc];simp only[gr,simprocAttr,y1]
   have z2:S2.sl 2=al (2:Nat):=by rw[W 2 dc];simp only[gr,simprocAttr,y2]
   have z7:S2.sl 7=.own 19 1:=by rw[W 7 dc];simp only[gr,simprocAttr,y7]
   have z8:S2.sl 8=al N:=by rw[W 8 dc];simp only[gr,simprocAttr,y8]
   have z9:S2.sl 9=al n:=by rw[W 9 dc];simp only[gr,simprocAttr,y9]
   clear W w2;simp only[↓gp,gq,simprocAttr,gT,d2,z1,z2,z7,z8,z9,a5.top];exact ah ((n+1,clq (piv Z n x y) t s n,q2)) ⟨(by and_intros<;>(first|(simp only[gr,simprocAttr,U,d2,z1,z2,z7,z8,z9,ak hk om];first|done|rfl|(simp;done))|assumption|rfl)),⟨⟨by dsimp only;omega,⟨n+1,z.step f1 f2 V⟩⟩,a5.same gl (λx=>gl)⟩⟩
 obtain rfl:k=N:=om;have I:((k:Int)<(k:Int))=False:=aX om;subst hN;have⟨_,c5⟩:=z.fin h2;generalize min t s=N at *;have hz:ld N 0=pz (AN c b N) (ld N 0) 0:=(qB _ _).symm;have O:lh (AN c b N)=(ld N (0:Int)).length:=by rw[Dc,cX]
 have a6:lh (ld N (0:Int))=N:=cX;have a7:∀k,lh (pz (AN c b N) (ld N 0) k)=N:=λk=>by rw[mm O,cX]
 refine ff U I ?_;refine⟨om,om,?_⟩;refine az (λ((k,v):Nat×Nat) m=>(m.sl 1=al r/\m.sl 2=al b/\m.sl 7=.own 19 1/\m.sl 8=al N/\m.sl 12=.own 50 v/\m.rw 50=⟨v,.sli 3 1 o0 (iL (pz (AN c b N) (ld N 0) k))⟩/\m.sl 52=al N/\m.sl 53=al k)/\(k<=N/\TabI m.rw 19 1 22 3 q (cz t s Z))) (λ(k,v)=>N-k) ((0,(sa.rw 50).ver+1)) ⟨(fB U a6 hz.symm),⟨om,hT.same gl (λx=>gl)⟩⟩ ?_;intro(k,v) sc ⟨X,c6⟩;have⟨d9,d⟩:=c6;rcases bf k N with h|h
 have C:((k:Int)<(N:Int))=True:=bO om;have o:=d.row (i:=k) (by rw[a];omega);have a8:=cr (m:=s) (e:=Z) (show k<t by omega);have vk:=dz (n:=t) (m:=s) (e:=Z) (i:=k) (j:=k) om om;have F:lh q=t:=by rw[d.len,a]
 have P:=c5 k h;have c7:Z k k=((Z k k).toNat:Int):=by rw[P];split<;>rfl
 have b0:(Z k k).toNat<=1000:=by rw[P];split<;>decide
 have g:=vH b (Z k k).toNat om b0;rw[<- c7,ztP ht (b:=decide (k<c)) (by rw[P];simp)]at g;have c8:(if(decide (k<c))=n0 then(1:Int)else(b:Int))=lg (AN c b N) k 0:=by rw[OI h];simp
 rw[c8]at g;refine XO X C a7 @d.top o a8 vk F ?_;refine⟨om,om,om,om,aa g ?_⟩;refine XO X C a7 @d.top o a8 vk F ?_;have H:=tF O (by rw[cX];exact h);exact⟨h,ah ((k+1,v)) ⟨(rS X X (ak h om) H),⟨by dsimp only;omega,d.same gl (λx=>gl)⟩⟩⟩;obtain rfl:k=N:=om;have C:((k:Int)<(k:Int))=False:=aX om;have b1:pz (AN c b k) (ld k 0) k=AN c b k:=by have:=tE O;rwa [cX]at this
 have l:=Dc c b k;refine ox X C b1 l ?_;refine az (λ((i,w):Nat×Nat) m=>(m.sl 1=al r/\m.sl 2=al b/\m.sl 8=al k/\m.sl 12=.own 50 w/\m.rw 50=⟨w,.sli 3 1 o0 (iL (AN c b k))⟩/\m.sl 70=al k/\m.sl 71=al i)/\(i<=k)) (λ(i,w)=>k-i) ((0,v)) ⟨(fB X b1 l),om⟩ ?_;intro(i,w) sd ⟨Hd,e2⟩;rcases bf i k with h3|h3
 have Q:((i:Int)<(k:Int))=True:=bO om;have R:F0.i64.wrap ((i:Int)+1)=((i+1:Nat):Int):=ak h3 om;refine iD Hd Q R ?_;refine az (λ((j,u):Nat×Nat) m=>(m.sl 1=al r/\m.sl 2=al b/\m.sl 8=al k/\m.sl 12=.own 50 u/\m.rw 50=⟨u,.sli 3 1 o0 (iL (AN c b k))⟩/\m.sl 70=al k/\m.sl 71=al i/\m.sl 14=al i/\m.sl 15=al j)/\(i<j/\j<=k)) (λ(j,u)=>k-j) ((i+1,w)) ⟨(gE Hd R),⟨om,om⟩⟩ ?_;intro(j,u) se ⟨Y,c9⟩;have⟨d0,e3⟩:=c9;rcases bf j k with B|B
 have D:((j:Int)<(k:Int))=True:=bO om;have⟨p1,p2,p3⟩:=zqM (b:=c) ht (dY d0) B;have g:=vH (lg (AN c b k) i 0).toNat (lg (AN c b k) j 0).toNat om om;rw[p1,BH om,BH om]at g;refine iD Y D l ?_;have M:(lg (AN c b k) i 0).tdiv (lg (AN c b k) i 0)=1:=Int.tdiv_self om;have d3:(lg (AN c b k) i 0==0)=false:=beq_eq_false_iff_ne.2 om;have b2:F0.i64.wrap (1*(AN c b k).getD j 0)=lg (AN c b k) j 0:=by rw[jL];exact aF om om
 have b3:F0.i64.wrap 1=1:=rfl;refine⟨kr,om,om,om,aa g ?_⟩;refine XO Y D l M d3 b2 b3 @zbG ?_;exact⟨kr,om,om,om,om,om,kr,om,om,ah ((j+1,u)) ⟨(xc7 Y Y (ak B om) M b2 b3 @zbG),⟨by dsimp only;omega,by dsimp only;omega⟩⟩⟩;have D:((j:Int)<(k:Int))=False:=aX om;refine iD Y D l ?_;exact ah ((i+1,u)) ⟨(fB Hd Y R),by dsimp only;omega⟩;have Q:((i:Int)<(k:Int))=False:=aX om;have e4:(T 3).size=1:=rfl;have o:r<=k:=om;have d4:=znC (b:=c) (t:=b) o;refine xA Hd Q l @ztQ @dB @Vx d4 ?_;exact⟨o,rfl,⟨_,rfl⟩,fS⟩
theorem HN:∀{i n:Nat},i<=n->zk e t i<=zk e t n:=by
 intro i n h;induction h with
 | refl=>simp
 | step _ a=>exact aJ a<|kF _ _
theorem OK(A:t<=900)(B:s<=900)(c:0<t)(q:∀j,j<s->zk e j t<=6):AC prog 309 [hY (cz t s e)] (.im (aU n0)):=by
 refine cA [.tmp 2] func309 λC=>?_;have a:=fw (n:=t) (m:=s) (e:=e);have g:=cr (m:=s) (e:=e) c;refine aR ?_;refine az (λ(j:Nat)n=>(n.sl 0=hY (cz t s e)/\n.sl 3=al j)/\(j<=s)) (λj=>s-j) (0) ⟨nm,om⟩ ?_;intro j D ⟨o,u⟩;rcases bf j s with d|d
 have f:((j:Int)<(s:Int))=True:=bO om;refine nN o @bU a g f ?_;refine⟨om,c,?_⟩;refine az (λ(i:Nat)n=>(n.sl 0=hY (cz t s e)/\n.sl 3=al j/\n.sl 4=al (zk e j i:Nat)/\n.sl 5=al i)/\(i<=t)) (λi=>t-i) (0) ⟨(jX o),om⟩ ?_;intro i E ⟨h,p⟩;have w:=aJ (HN e j p)<|q j d;rcases bf i t with k|k
 have b:((i:Int)<(t:Int))=True:=bO om;have r:=dz (e:=e) k d;have l:=cr (m:=s) (e:=e) k;have x:=aJ (HN e j<|show i+1<=t by omega)<|q j d;have y:zk e j (i+1)=zk e j i+(e i j).natAbs:=rfl;have m:F0.i64.wrap (((zk e j i:Nat):Int)+((e i j).natAbs:Int))=((zk e j (i+1):Nat):Int):=by rw[y,aF om om];omega
 refine Cn h @bU a b r l ?_;refine⟨k,d,d,aa (qo (e i j) om om) ?_⟩;refine xA h @bU a b r l m ?_;exact ah (i+1) ⟨(fB h (ak k om) m),om⟩;have b:((i:Int)<(t:Int))=False:=aX om;have z:(6<((zk e j i:Nat):Int))=False:=aX om;refine nN h @bU a b z ?_;exact ah (j+1) ⟨(fB o h<|ak d om),om⟩;have f:((j:Int)<(s:Int))=False:=aX om;refine nN o @bU a g f ?_;exact⟨om,c⟩
theorem OJ(u:Nat)(g:Abs.Good t)(C:s<=20)(D:b<=20)(y:r<=b)(z:u<=b)(A:SWq t s b r u 0 e)(E:∀i j,i<s->j<b->-1<=e i j/\e i j<=1)(F:∀j,j<b->zk e j s<=6):AC prog 271 [hY (cz s b e)] (.fr 3 1 (iL (ld r 1++ld (u-r) 2))):=by
 refine cA [.tmp 2] func271 λM=>?_;have a:=fw (n:=s) (m:=b) (e:=e);refine aR ?_;refine az (λ(i:Nat)l=>(l.sl 0=hY (cz s b e)/\l.sl 3=al i)/\(i<=s)) (λi=>s-i) (0) ⟨nm,om⟩ ?_;intro i N ⟨h,G⟩;rcases bf i s with k|k
 have f:((i:Int)<(s:Int))=True:=bO om;have c:=cr (m:=b) (e:=e) k;have w:=cr (m:=b) (e:=e) (show 0<s by omega);have x:((b:Int) != (b:Int))=false:=sp;have o:(20<(b:Int))=False:=aX om;refine XO h @bU a f c w x o ?_;refine⟨kr,k,om,om,k,?_⟩;refine az (λ(j:Nat)l=>(l.sl 0=hY (cz s b e)/\l.sl 3=al i/\l.sl 4=al j)/\(j<=b)) (λj=>b-j) (0) ⟨(jX h),om⟩ ?_;intro j O ⟨p,H⟩;rcases bf j b with q|q
 have d:((j:Int)<(b:Int))=True:=bO om;have B:=dz (e:=e) k q;have I:=E i j k q;refine Cn p @bU a c d B ?_;refine⟨k,k,k,k,q,aa (fe (e i j) (-1) 1) ?_⟩;have J:(decide (-1<=e i j)&&decide (e i j<=1))=true:=by rw[aj,aq,aq];exact I
 refine xA p @bU a c d B J ?_;exact ah (j+1) ⟨(gE p (ak q om)),om⟩;have d:((j:Int)<(b:Int))=False:=aX om;refine nN p @bU a c d ?_;exact⟨k,k,ah (i+1) ⟨(fB h p (ak k om)),om⟩⟩;have f:((i:Int)<(s:Int))=False:=aX om;have m:(20<(s:Int))=False:=aX om;refine nN h @bU a f m ?_;refine⟨λn=>?_,λn=>?_⟩;have n:=beq_eq_false_iff_ne.1 n;refine aa (OK e s b om om om F) ?_;refine cZ h (aa (JY e t s b r u g C D y z A) ?_);exact mg h;have n:=beq_iff_eq.1 n;have⟨K,L⟩:=A.stop y z λP Q _ _ _ _=>om;rw[K,L];rfl
theorem Dd(k:t<=20):AC prog 364 [hY (cz t s e)] (.im (aU n0)):=by
 refine cA [.tmp 2] func364 λl=>?_;have a:=fw (n:=t) (m:=s) (e:=e);refine ff @bU a ?_;refine az (λ(i:Nat)m=>(m.sl 0=hY _/\m.sl 5=hY _/\m.sl 6=al t/\m.sl 7=al i)/\(i<=t)) (λi=>t-i) 0 ⟨nm,om⟩ ?_;intro i o ⟨c,j⟩;rcases bf i t with h|h
 have b:((i:Int)<t)=True:=bO om;have f:=cr (m:=s) (e:=e) (show 0<t by omega);have g:((s:Int) != (s:Int))=false:=sp;refine xA c @bU a b (cr (m:=s) (e:=e) h) f g ?_;exact⟨h,om,om,ah (i+1) ⟨(gE c (ak h om)),om⟩⟩;have b:((i:Int)<(t:Int))=False:=aX om;exact xd4 c @bU a b
theorem zl(e:Z0)(n m:Nat)(r:n<=20)(B:m<=20)(t:∀i j,i<n->j<m->-1<=e i j/\e i j<=1):AC prog 328 [hY (cz n m e),al 20,al 1] (.im (aU n0)):=by
 refine cA [.tmp 6] func328 λC=>?_;have a:=fw (n:=n) (m:=m) (e:=e);have g:(20<(n:Int))=False:=aX om;refine iD @bU a g (aa (Dd e n m r) ?_);by_cases u:n=0;subst u;refine ff @bU a ?_;refine az (λ(i:Nat)s=>(s.sl 0=hY (cz 0 m e)/\s.sl 2=al 1/\s.sl 31=hY (cz 0 m e)/\s.sl 32=al 0/\s.sl 33=al i)/\(i=0)) (λi=>0) (0) ⟨nm,rfl⟩ ?_;intro i w ⟨f,k⟩;subst k;exact mg f;have x:(0<(n:Int))=True:=bO om;have q:=cr (m:=m) (e:=e) (show 0<n by omega);have l:(20<(m:Int))=False:=aX om;refine nN @bU a x q l ?_;refine⟨om,?_⟩;refine az (λ(i:Nat)s=>(s.sl 0=hY (cz n m e)/\s.sl 2=al 1/\s.sl 31=hY (cz n m e)/\s.sl 32=al n/\s.sl 33=al i)/\(i<=n)) (λi=>n-i) (0) ⟨nm,om⟩ ?_;intro i w ⟨f,k⟩;rcases bf i n with h|h
 have b:((i:Int)<(n:Int))=True:=bO om;have c:=cr (m:=m) (e:=e) h;refine Cn f @bU a b c @dB ?_;refine⟨h,?_⟩;refine az (λ(j:Nat)s=>(s.sl 0=hY (cz n m e)/\s.sl 2=al 1/\s.sl 31=hY (cz n m e)/\s.sl 32=al n/\s.sl 33=al i/\s.sl 37=aE (lg (cz n m e) i [])/\s.sl 38=al m/\s.sl 39=al j)/\(j<=m)) (λj=>m-j) (0) ⟨(gE f c),om⟩ ?_;intro j D ⟨p,y⟩;rcases bf j m with o|o
 have d:((j:Int)<(m:Int))=True:=bO om;have z:=dz (e:=e) h o;have E:=t i j h o;have c1:(e i j < -1)=False:=aX om;have c2:(1<e i j)=False:=aX om;have A:F0.i64.wrap (-1)=-1:=rfl;simp only[↓gp,gq,simprocAttr,gT,p,d,z,c,c1,c2,dB,A];exact⟨o,ah (j+1) ⟨(gE p (ak o om)),om⟩⟩;have d:((j:Int)<(m:Int))=False:=aX om;refine ff p d ?_;exact ah (i+1) ⟨(fB f p (ak h om)),om⟩;have b:((i:Int)<(n:Int))=False:=aX om;exact DL f b
def cnz(e:Z0)(j:Nat):Nat->Nat|0=>0|i+1=>if e i j=0 then cnz e j i else cnz e j i+1
theorem znF(e:Z0)(j:Nat):∀i,cnz e j i<=zk e j i
 | 0=>ab _
 | i+1=>by have:=znF e j i;show(if e i j=0 then _ else _)<=zk e j i+(e i j).natAbs;grind
theorem HM(w:t<=20)(x:s<=20)(y:∀i j,i<t->j<s->-1<=e i j/\e i j<=1)(z:∀j,j<s->zk e j t<=6):AC prog 295 [hY (cz t s e)] (.im (aU n0)):=by
 refine cA [.tmp 2] func295 λE=>?_;have a:=fw (n:=t) (m:=s) (e:=e);refine aR (aa (zl e t s w x y) ?_);refine ff @bU a ?_;intro o;have o:t≠0:=λh=>by rw[h]at o;cases o
 have p:=cr (m:=s) (e:=e) (show 0<t by omega);refine⟨om,om,?_⟩;refine az (λ(j:Nat)n=>(n.sl 0=hY (cz t s e)/\n.sl 15=al s/\n.sl 16=al j)/\(j<=s)) (λj=>s-j) (0) ⟨(jX p),om⟩ ?_;intro j F ⟨k,A⟩;rcases bf j s with c|c
 have d:((j:Int)<(s:Int))=True:=bO om;refine ox k d @bU a ?_;refine az (λ(i:Nat)n=>(n.sl 0=hY (cz t s e)/\n.sl 3=al j/\n.sl 15=al s/\n.sl 16=al j/\n.sl 4=al (cnz e j i:Nat)/\n.sl 20=al t/\n.sl 21=al i)/\(i<=t)) (λi=>t-i) (0) ⟨(jX k),om⟩ ?_;intro i G ⟨f,q⟩;have B:=aJ (znF e j i) (aJ (HN e j q) (z j c));rcases bf i t with h|h
 have b:((i:Int)<(t:Int))=True:=bO om;have g:=cr (m:=s) (e:=e) h;have u:=dz (e:=e) h c;by_cases l:e i j=0;have r:cnz e j (i+1)=cnz e j i:=ae l;refine XO f b g @dB u l @bU a ?_;exact⟨h,c,c,ah (i+1) ⟨(fB f r (ak h om)),om⟩⟩;have r:cnz e j (i+1)=cnz e j i+1:=ac l;have m:(e i j != 0)=true:=bne_iff_ne.2 l;have C:F0.i64.wrap (((cnz e j i:Nat):Int)+1)=((cnz e j (i+1):Nat):Int):=by rw[r];exact ak (n:=7) om om
 refine XO f b g @dB u m @bU a ?_;exact⟨h,c,c,ah (i+1) ⟨(fB f C (ak h om)),om⟩⟩;have b:((i:Int)<(t:Int))=False:=aX om;have D:(6<((cnz e j i:Nat):Int))=False:=aX om;refine iD f b D ?_;exact ah (j+1) ⟨(fB k f (ak c om)),om⟩;have d:((j:Int)<(s:Int))=False:=aX om;exact DL k d
theorem zhH(L H:Q0)(i j:Nat):-1<=Of L H i j/\Of L H i j<=1:=by have:=zhG (lg L i 0)<|lg H j 0;unfold Of;grind
theorem zm(c:t<6)(d:∀a b,b<64->f b=n0->a&&&b=a->f a=n0):AC prog 271 [hY (Bm f t)] (.fr 3 1 (iL (smN (Bm f t)))):=by have:=OJ _ t _ _ _ _ (Kw c) (UH f om) (UH f om) (UJ f t) (JC f t) (SWq.start (Kw c) d) (λi j _ _=>zhH _ _ i j)<|λj e=>zbK f t (ab _) e;rwa[<- UI]at this
noncomputable def smV(M:fG):RV:=if iQ 3 M=0 then .fr 3 1 []else .im (aE (smN M))
theorem yp(g:t<6)(h:∀a b,b<64->f b=n0->a&&&b=a->f a=n0):AC prog 250 [hY (Bm f t)] (smV (Bm f t)):=by
 refine cA [.tmp 2] func250 λI=>?_;have s:=UH f (k:=t) om;have u:=UH f (k:=t+1) om;have l:=HM (Of (Lo f t)<|Lo f<|t+1) _ _ s u (λi j _ _=>zhH _ _ i j)<|λj D=>zbK f t (ab _) D;have x:=Be (Of (Lo f t)<|Lo f<|t+1) t _ _ _ _ (Kw g) s u (UJ f t) (JC f t)<|IW.start (Kw g) h;have d:=zhD (Kw g) (UJ f t) (JC f t) (lh (Lo f t)+1) 0 1 _ 1 om (IW.start (Kw g) h)<|.inl rfl;have y:=zvI (Kw g) (UJ f t) (JC f t) (lh (Lo f t)+1) 0 _ om<|SWq.start (Kw g) h;have z:=zsH g h;have E:=UJ f t;have A:=JC f t;have F:=(SWq.start (Kw g) h).k2;unfold smV smN;have G:Bm f t=cz (Lo f t).length (Lo f<|t+1).length (Of (Lo f t)<|Lo f<|t+1):=UI _ _;generalize iQ 2 (Bm f t)=r at *;generalize iQ 3 (Bm f t)=o at *;rw[G];generalize H:(HJ (Lo f t).length (Lo f<|t+1).length (lh (Lo f t)+1) (Of (Lo f t)<|Lo f<|t+1) 0 1).natAbs=k at *;generalize Of (Lo f t) (Lo f<|t+1)=e at *;generalize (Lo f t).length=n at *;generalize (Lo f<|t+1).length=m at *;refine aR<|aa l ?_;refine aR<|aa x ?_;by_cases B:o=0;rw[ae B];exact mg B;rw[ac B];have C:((o:Int)==0)=false:=beq_eq_false_iff_ne.2 om;refine cZ C ?_;have p:=Db e n m k o (if k=1 then 0 else r) s u om d.1 ⟨y,A⟩ (by split<;>omega)<|by
  rcases d.1 with c|c;rw[ae c,c];exact mn _ (aB _) λi j _ _ _ _=>by rw[Int.natCast_one,Int.emod_one];rfl
  rw[ac om,c];exact UG (λi j _ _ _ _=>(Int.emod_emod_of_dvd _<|Int.dvd_refl _).symm) F
 have q:AN (if k=1 then 0 else r) k o=ld r 1++ld (o-r) 2:=by rcases d.1 with c|c;have:=d.2 c;rw[ae c,zhF<|aB _,c,this,pi];simp;rw[ac om,zhF z,c];rfl
 rw[q]at p;refine aa p ?_;refine cZ @qe ?_;exact⟨rfl,⟨_,rfl⟩,fS⟩
noncomputable def oo(n:Int)(a:P0)(s:Nat):Bool:=aS n a&&(di n s&&!ao a s)
noncomputable def mw(n:Int)(a:P0):Q0:=dI (oo n a) o0
theorem zhO(h:oo x l d=n0):d<64:=by unfold oo at h;simp[aj]at h;have:=sj h.2.1;omega
theorem znW:hU (bl ((lc 64).filter (oo n a)))=oo n a:=by funext s;rw[pb];refine Bool.eq_iff_iff.2 ?_;rw[aq,dG,eJ];exact⟨λh=>h.2,λh=>⟨zhO h,h⟩⟩
theorem WX(h:aS x l=o0)(s:Nat):oo x l s=false:=by simp[oo,h]
theorem zqZ(h:aS x l=o0):mw x l=[]:=by simp[mw,dI,co,cd,funext<|WX h]
theorem sI:lh (mw n a)<=448:=vu _ _
theorem kV:AC prog 177 [.ag [al n,aE a]] (.fr 3 1 (iL (bl (mw n a)))):=by
 refine cA [.tmp 2] func177 λy=>?_;refine aR ?_;refine az (λ((t,v):Nat×Nat) s=>(s.sl 1=.ref 1 1 0/\s.rw 1=⟨1,.box 28 [al n,aE a]⟩/\s.sl 3=.own 5 v/\s.rw 5=⟨v,.sli 3 1 o0 (iL (bl ((lc t).filter (oo n a))))⟩/\s.sl 4=al t)/\(t<=64)) (λ(t,v)=>64-t) ((0,1)) ⟨nm,sp⟩ ?_;intro(t,v) z ⟨b,r⟩;have u:lh ((lc t).filter (oo n a))<=64:=by have:=aO (oo n a) (lc t);rw[bp]at this;omega
 have f:(t=64\/aS n a=o0)->hU (bl ((lc t).filter (oo n a)))=oo n a:=λh=>by rcases h with rfl|h;exact znW n a;funext i;rw[pb,WX h];exact aD λp=>by rw[dG,WX h]at p;cases p.2
 have c:(t=64\/aS n a=o0)->AC prog 200 [aE (bl ((lc t).filter (oo n a))),aU o0] (.fr 3 1 (iL (bl (mw n a)))):=λh=>by have:=vz o0 _ (CU (l:=(lc t).filter (oo n a)) λi w=>zhO (List.mem_filter.1 w).2);rwa [f h]at this
 refine cZ b ?_;refine⟨λh=>aa (bw n a) ?_,λh=>aa (c (.inl om)) ?_⟩;refine cZ b ?_;refine⟨λk=>aa (ro _ _) ?_,λk=>aa (c (.inr k)) ?_⟩;have x:=dM k;have h:t<64:=om;have d:oo n a t=(di n t&&!ao a t):=by unfold oo;rw[k];rfl
 have g:oo n a t=n0->bl ((lc (t+1)).filter (oo n a))=bl ((lc t).filter (oo n a))++[(t:Int)]:=λh=>by rw[bW,aW,cI];simp[h,bl]
 have j:oo n a t=o0->bl ((lc (t+1)).filter (oo n a))=bl ((lc t).filter (oo n a)):=λh=>by rw[bW,aW,cI];simp[h,bl]
 refine cZ b ?_;refine⟨λm=>aa (jB n a t x h) ?_,λm=>?_⟩;refine cZ b ?_;refine⟨λo=>?_,λo=>?_⟩;have e:=g (by rw[d,m,o];rfl);refine⟨by rw[ap];omega,ah ((t+1,v+1)) ⟨(fB b (ak h om) e),by dsimp only;omega⟩⟩;have e:=j (by rw[d,o];simp);exact ah ((t+1,v)) ⟨(fB b (ak h om) e),by dsimp only;omega⟩;have e:=j (by rw[d,m];rfl);exact ah ((t+1,v)) ⟨(fB b (ak h om) e),by dsimp only;omega⟩;exact mg b;exact mg b
theorem Dj(a:m<18446744073709551616)(b:t<64):AC prog 300 [al t,.eref o0 [dv m] 0] (.im (aU (!m.testBit t))):=by refine cA [.tmp 3] func300 λc=>?_;refine aR<|aa (ez m t a b) ?_;exact ef
theorem Ia(a:m<=6)(b:t<18446744073709551616):AC prog 253 [al m,dv t] (.fr 3 1 (iL (bl (dI (λs=>decide (s<2^m)&&!t.testBit s) o0)))):=by refine cA [.tmp 4] func253 λd=>?_;have c:=dx a;refine aR ?_;refine aa (gF m a _ _ _ (λrw=>rfl) λs f=>Dj t s b om)<|aR<|aa (HD _<|Uw _ a) ?_;have e:(bA _<|2^m).testBit=λs=>decide _&&!t.testBit s:=funext λs=>mM _ _ _;exact e▸ef
theorem sJ:AC prog 153 [.ag [al n,aE a]] (.fr 3 1 (iL (bl (mw n a)))):=by
 refine cA [.tmp 2] func153 λj=>?_;refine aR (aa (aH n a) ?_);refine aR ?_;refine⟨λb=>?_,λb=>?_⟩;rw[zqZ (ss b)];rfl;have b:=ss b;obtain⟨k,l,_⟩:=cY.1 b;obtain⟨m,rfl⟩:∃m:Nat,n=m:=⟨n.toNat,om⟩;have g:=dx (m:=m) om;refine⟨kr,aa (cj _ a (dM b)) ?_⟩;refine aR ?_;have o:=dj (ao a) 64;refine aa (Ia m _ om om) ?_;have e:(λs=>decide (s<2^m)&&!(bA (ao a) 64).testBit s)=oo m a:=funext λs=>by rw[oo,b,mM,au];unfold di;grind
 rw[e];refine aR ?_;rfl
noncomputable def gmO(n:Int)(a:P0):Int:=if mw n a=[]then -1 else(aQ (lg (mw n a) (lh (mw n a)-1) 0):Int)
noncomputable def WW(n:Int)(a:P0):Bool:=aS n a&&decide (gmO n a<=2)
theorem zhN{n:Int}{xs:P0}{i:Nat}(h:i<lh (mw n xs)):lg (mw n xs) i 0<64:=(ja.1<|aP 0 h).1.1
theorem wU:AC prog 275 [.ag [al n,aE a]] (.im (al (gmO n a))):=by
 refine cA [.tmp 2] func275 λm=>?_;refine aR<|aa (kV n a) ?_;unfold gmO;have c:=λi=>zhN (n:=n) (xs:=a) (i:=i);have k:=sI n a;generalize mw n a=L at *;refine cZ @ap ?_;refine⟨λd=>?_,λd=>?_⟩
 simp_all
 have g:0<lh L:=by grind
 have h:lh L-1<lh L:=om;have c:=c _ h;have j:F0.i64.wrap ((lh L)-1)=((lh L-1:Nat)):=by rw[aF om om];omega
 rw[ac<|λe=>by rw[e]at g;simp at g];rw[j];refine⟨om,om,om,?_⟩;rw[ar,bX h];refine aa (ey _ om) ?_;exact mg j
theorem Qy:AC prog 212 [.ag [al n,aE a]] (.im (aU (WW n a))):=by refine cA [.tmp 2] func212 λb=>?_;refine aR<|aa (bw n a) ?_;refine aR ?_;unfold WW;refine⟨λh=>aa (wU n a) ?_,λh=>?_⟩;rw[h];exact ef;grind
theorem zel{m:Nat}(o:1<=m)(y:m<=6){f:X0}(w:∀s,s<64->f s=n0->s<2^m):aS (m:Int) (bl (dI f n0))=true:=by
 refine vA ⟨(by omega:(1:Int)<=(m:Int)),(by omega:(m:Int)<=6),λk d=>?_⟩;rw[ap]at d;have p:=Ft f n0;have c:=λi (q:i<lh (dI f n0))=>ja.1<|aP 0 q;generalize dI f n0=g at *;have h:∀i j,i<j->j<lh g->rx (lg g i 0) (lg g j 0):=λi j r t=>by
  have:=List.pairwise_iff_getElem.1 p i j om t r;have a:lg g i 0=g[i]'om:=by simp[lg,show i<lh g by omega]
  have b:lg g j 0=g[j]:=by simp[lg,t]
  rw[a,b];exact this
 refine⟨?_,λz=>?_,λi q=>?_⟩;have o:=c k d;have x:=w _ o.1.1 o.1.2;rw[bX d];unfold di;rw[aq];refine⟨om,om,om,?_⟩;rw[iM];exact_mod_cast x;rw[bX d,bX om];have n:=h (k-1) k om d;have:=(c k d).1.1;have:=(c (k-1) om).1.1;unfold rQ;unfold rx at n;rw[jb om,jb om];simp only[aj,aq];refine⟨om,om,?_⟩;split;rw[aq];omega;rw[aq];omega;have u:=(c i om).1.1;have l:=(c k d).1;rw[bX d,bX om,ej om om];intro e;have:=ku.1 (c i om).2 (lg g k 0) l.1 l.2 om;have n:=h i k q d;rw[this]at n;exact qD n
theorem zC:hU a t=decide ((t:Int)∈a):=rfl
noncomputable def zq6(n:Int)(a:P0):P0:=(bl (mw n a)).map (sy n)
noncomputable def zjI(n:Int)(a:P0):P0:=bl (dI (hU (zq6 n a)) n0)
theorem zhQ(h:aS (d:Int) l=n0)(t:Nat) :
 (t:Int)∈zq6 d l↔∃u,u<2^d/\ao l u=o0/\(∀v,v<2^d->ao l v=o0->v&&&u=v->v=u)/\t=2^d-1-u:=by
 obtain⟨A,B,_⟩:=cY.1 h
 have r:=dx (m:=d) om
 have c:∀s:Nat,oo d l s=n0↔s<2^d/\ao l s=false:=λs=>by unfold oo di;rw[h,au,aj,aq,bC,iM];exact⟨λ⟨⟨_,_,_,a⟩,b⟩=>⟨om,b⟩,λ⟨a,b⟩=>⟨⟨om,om,om,om⟩,b⟩⟩
 have g:∀s:Nat,s<2^d->sy d s=((2^d-1-s:Nat):Int):=λs n=>by
  have j:di d s=true:=by unfold di;rw[aq,iM];exact⟨om,om,om,om⟩
  unfold sy;rw[ae j,iM];omega
 unfold zq6
 rw[dX]
 refine⟨λ⟨x,o,e⟩=>?_,λ⟨u,p,k,i,e⟩=>?_⟩
 unfold bl at o;obtain⟨s,n,rfl⟩:=List.mem_map.1 o;obtain⟨⟨C,w⟩,y⟩:=ja.1 n;obtain⟨a,b⟩:=(c s).1 w;rw[g s a]at e;exact⟨s,a,b,λv q m f=>so.1 y v om ((c v).2 ⟨q,m⟩) f,om⟩
 refine⟨u,?_,by rw[g u p,e]⟩;unfold bl;refine List.mem_map.2 ⟨u,ja.2 ⟨⟨om,(c u).2 ⟨p,k⟩⟩,so.2 λv q z f=>?_⟩,rfl⟩;obtain⟨a,b⟩:=(c v).1 z;exact i v a b f
theorem zt5(h:aS (d:Int) l=n0):aS (d:Int) (zjI d l)=true:=by obtain⟨c,a,_⟩:=cY.1 h;refine zel om om λs e b=>?_;rw[zC,aq]at b;obtain⟨u,f,_,_,rfl⟩:=(zhQ h s).1 b;omega
theorem zn3(h:aS (d:Int) l=n0)(s:o<64):ao (zjI d l) o=Cb d (ao l) o:=by have⟨e,f,_⟩:=cY.1 h;unfold zjI;rw[vv];exact zdR om (λo t a b=>pZ a b) (λt=>zhQ h t) s
def qU(a:P0)(s:Nat):P0:=(a.filter λx=>fu .i64 x s==(s:Int)).map λx=>x-s
theorem zhR(g:Uu l)(j:d<64)(v:Nat):(v:Int)∈qU l d↔∃x∈l,x.toNat&&&d=d/\v=x.toNat-d:=by
 have c:∀x∈l,fu .i64 x d=(x.toNat&&&d:Nat):=λx h=>by have:=g x h;rw[<- ej om om];grind
 rw[qU,dX];refine⟨λ⟨x,s,e⟩=>?_,λ⟨x,s,i,e⟩=>?_⟩;grind;refine⟨x,List.mem_filter.2 ⟨s,by grind⟩,?_⟩;have:=g x s;have:d<=x.toNat:=by rw[<- i];exact bI
 omega
theorem OV(h:aS (d:Int) l=n0)(c:o<64):aS (d:Int) (bl (dI (hU (qU l o)) n0))=true:=by obtain⟨g,j,s⟩:=cY.1 h;refine zel om om λt k b=>?_;rw[zC,aq]at b;obtain⟨x,e,_,rfl⟩:=(zhR (dM h) c t).1 b;obtain⟨i,f,rfl⟩:=eX 0 e;have:=(s i f).1;unfold di at this;grind
theorem zhS(h:aS (d:Int) l=n0)(b:o<64)(t:Nat):ci d (bl (dI (hU (qU l o)) n0)) t=dL (ao l) o t:=by rw[ci,OV h b,vv];exact zdS (λx c=>by have:=dM h x c;omega) b (λv=>zhR (dM h) b v) t
theorem UQ(b:d<=6)(c:o<2^d):sy d o=((2^d-1-o:Nat):Int):=by
 have a:di d o=true:=by unfold di;grind
 unfold sy;grind
theorem oq{w w':X0}(a:d<=6)(h:∀s,s<64->(decide (s<2^d)&&w s)=w' s):bA w (2^d)=bA w' 64 :=
 og w' (Uw w a) λs b=>by rw[mM,h s b]
theorem Ky(a:m<=6)(b:t<18446744073709551616)(c:s<2^m):AC prog 280 [al s,.eref o0 [dv t] 0,.eref o0 [al m] 0] (.im (aU (!t.testBit (2^m-1-s)))):=by refine cA [.tmp 4] func280 λe=>?_;have d:=dx a;refine aR ?_;refine⟨kr,aa (Bo m s) ?_⟩;rw[UQ a c];refine aR ?_;refine aa (ez t _ b om)<|ef
theorem Qz(a:m<=6)(f:X0):AC prog 221 [al m,dv (bA f 64:Nat)] (.im (dv (bA (Cb m f) 64:Nat))):=by refine cA [.tmp 4] func221 λe=>?_;have c:=dx a;have d:=dj f 64;refine aR<|aa (gF m a _ _ _ (λrw=>rfl) λs b=>Ky m _ s a om b) ?_;rw[oq (w':=Cb m f) a λs b=>by rw[ek f om];rfl];exact ef
theorem Kz(a:m<18446744073709551616)(b:t<64)(c:s<64):AC prog 289 [al s,.eref o0 [al t] 0,.eref o0 [dv m] 0] (.im (aU (dL m.testBit t s))):=by
 refine cA [.tmp 4] func289 λi=>?_;have d:fu _ _ _=(s&&&t:Int):=ej om om;have f:EX _ s t=(s|||t:Nat):=nQ om om;have g:=cu (n:=6) c b
 refine ff d f ?_;unfold dL;refine⟨λh=>aa (ez m _ a g) ?_,λh=>?_⟩;have h:=ss h;exact h▸ef;grind
theorem jR(a:t<64):AC prog 234 [dv (bA f 64:Nat),al t] (.im (dv (bA (dL f t) 64:Nat))):=by refine cA [.tmp 4] func234 λe=>?_;have c:=dj f 64;refine aR<|aa (gF 6 om _ _ _ (λrw=>rfl) λs b=>Kz _ t s om a om) ?_;rw[oq (w':=dL f t) om λs b=>by rw[ay<|om];exact zbt (λu d=>ek f d) a b];exact ef
theorem QA(h:aS (m:Int) a=n0):AC prog 75 [.ag [al m,aE a]] (.tup [.ag [.im (al m),.fr 3 1 (iL (zjI m a))],.im (aU n0)]):=by
 refine cA [.cell 2 28,.tmp 3] func75 λA=>?_;simp only[dt,dT,dF,gb,jt,hZ,cC]at A;have B:=sI m a;have C:=ap<|mw m a;refine aR<|aa (bw m a) ?_;refine cZ h<|aa (kV m a) ?_;obtain⟨K,L,_⟩:=cY.1 h;unfold zjI zq6;have t:Uu ((bl<|mw m a).map<|sy m):=by
  intro x D;obtain⟨y,z,rfl⟩:=List.mem_map.1 D;unfold bl at z;obtain⟨s,E,rfl⟩:=List.mem_map.1 z;have F:=dx (m:=m) om;obtain⟨⟨M,u⟩,_⟩:=ja.1 E;have p:di m s=true:=by unfold oo at u;simp only[aj]at u;exact u.2.1
  have:s<2^m:=by unfold di at p;rw[aq,iM]at p;omega
  rw[UQ om this];omega
 generalize bl (mw m a)=c at *;refine aR ?_;have q:∀k,k<lh c->(c.take<|k+1).map (sy m)=(c.take k).map (sy m)++[sy m (lg c k 0)]:=λk h=>by rw[bj 0 h];simp
 refine az (λ((k,v,w):Nat×Nat×Nat) s=>(s.sl 1=.ref 1 1 0/\s.rw 1=⟨1,.box 28 [al (m:Nat),aE a]⟩/\s.sl 2=.ref 2 1 0/\s.rw 2=⟨1,.box 28 [al 0,.v (.slice B0 0 0)]⟩/\s.sl 3=aU o0/\s.sl 4=.own 12 w/\s.rw 12=⟨w,.sli 3 1 o0<|iL c⟩/\s.sl 5=.own 13 v/\s.rw 13=⟨v,.sli 3 1 o0<|iL<|(c.take k).map<|sy m⟩/\s.sl 6=al k)/\(k<=lh c)) (λ(k,v,w)=>lh c-k) ((0,1,1)) ⟨nm,sp⟩ ?_;intro(k,v,w) N ⟨⟨e,f,g,i,j,l,b,n,d,o⟩,H⟩;simp only[↓gp,gq,simprocAttr,gT,e,f,g,i,j,l,b,n,d,o];refine⟨λr=>⟨kr,r,r,aa (Bn _ _) ?_⟩,λr=>?_⟩;simp only[↓gp,gq,simprocAttr,gT,e,f,g,i,j,l,b,n,d,o];have I:lh ((c.take k).map<|sy m)<=448:=by rw[aG,bg];omega
 refine⟨om,kr,?_⟩;exact ah ((k+1,v+1,w)) ⟨(by and_intros<;>(first|(simp only[gr,simprocAttr,e,f,g,i,j,l,b,n,d,o,ak r om,q k r];first|done|rfl|(simp;done))|assumption|rfl)),by dsimp only;omega⟩;have:k=lh c:=om;subst this;have J:c.take (lh c)=c:=av;rw[J]at d ⊢;refine aa (eV m _ t) ?_;simp only[↓gp,gq,simprocAttr,gT,e,f,g,i,j,l,b,n,d,o]
theorem lQ(u:t<64)(l:Uu a)(m:lh a<=1000):AC prog 197 [.ag [al n,aE a],al t] (.ag [.im (al n),.fr 3 1 (iL (bl (dI (hU (qU a t)) n0)))]):=by
 refine cA [.cell 4 28] func197 λo=>?_;refine aR ?_;have i:qU a t=qU (a.take<|lh a) t:=by rw[av]
 refine az (λ((k,v):Nat×Nat) s=>(s.sl 1=al t/\s.sl 2=.ref 2 1 0/\s.rw 2=⟨1,.box 28 [al n,aE a]⟩/\s.sl 4=.ref 4 1 0/\s.rw 4=⟨1,.box 28 [al 0,.v (.slice B0 0 0)]⟩/\s.sl 5=.own 7 v/\s.rw 7=⟨v,.sli 3 1 o0<|iL<|qU (a.take k) t⟩/\s.sl 6=al k)/\(k<=lh a)) (λ(k,v)=>lh a-k) ((0,1)) ⟨nm,sp⟩ ?_;intro(k,v) z ⟨g,q⟩;have r:lh (qU (a.take k) t)<=1000:=by unfold qU;grind
 refine cZ g ?_;refine⟨λh=>⟨h,h,?_⟩,λh=>?_⟩;have c:=HC l h;have j:F0.i64.wrap (lg a k 0-(t:Int))=lg a k 0-(t:Int):=aF om om;refine⟨λd=>?_,λd=>?_⟩;have e:qU (a.take<|k+1) t=qU (a.take k) t++[lg a k 0-(t:Int)]:=by unfold qU;rw[bj 0 h,aW,cq,bF,ae d];rfl
 exact⟨h,h,om,ah ((k+1,v+1)) ⟨(rS g (ak h om) j e),by dsimp only;omega⟩⟩;have e:qU (a.take<|k+1) t=qU (a.take k) t:=by unfold qU;rw[bj 0 h,aW,cq,bF,ac<|by rw[d];decide];simp
 exact ah ((k+1,v)) ⟨(fB g (ak h om) e),by dsimp only;omega⟩;have:k=lh a:=om;subst this;rw[i];refine aa (eV n _ ?_) ?_;intro x f;unfold qU at f;obtain⟨y,d,rfl⟩:=List.mem_map.1 f;obtain⟨w,b⟩:=List.mem_filter.1 d;rw[av]at w;have:=l y w;rw[aK]at b;have A:fu .i64 y (t:Int)=((y.toNat&&&t:Nat):Int):=by rw[<- ej om om];congr 1;omega
 have B:y.toNat&&&t<=y.toNat:=bI;omega;exact mg g
end Go.Proofs.YtdomcincpocchaaGreatDoor
