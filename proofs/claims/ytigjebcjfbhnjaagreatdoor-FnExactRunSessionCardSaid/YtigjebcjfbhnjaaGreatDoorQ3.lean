/- DERIVED by an AI agent. -/
import Derived.Test.YtigjebcjfbhnjaaGreatDoorQ2
set_option linter.all false
namespace Go.Proofs.YtigjebcjfbhnjaaGreatDoor
open Bool renaming true→k0,false→l0
open Option renaming some→n0,none→o0
open Go renaming IntKind→D0
open List renaming range→lc,replicate→ld,getD→lg,length→lh
open Nat renaming reduceEqDiff→lj,reduceMod→lk,reduceAdd→ll,reduceLT→lm,reduceLeDiff→lp,reduceSub→lr,reduceMul→lu,reduceBEq→lw
open Int renaming reduceToNat→lz,reduceLE→lA,reduceLT→lB,reduceNeg→lC
open Go.Proofs.Tryz
open Go.Abs
variable (m:Nat)(f:V0)(n:Int)(a:N0)(e:X0)(k:Nat)(s:Nat)(t:Nat)(r:Nat)(c:Nat){d o:Nat}{l:N0}{p:O0}{K:St->Prop}{w:RV->Prop}{x:Int}{P:Program}{b:M0}{g:FuncId}{h:St}{i:X0}{M:fG}{j:P0}{q:Value}
def cx6(n:Nat)(l:O0):Bool:=decide (1<=n)&&decide (n<=6)&&(lc (lh l)).all λk =>
 decide (lg l k 0<2^n)&&(decide (k=0)||(if CJ (lg l (k-1) 0)=CJ (lg l k 0)then decide (lg l (k-1) 0<lg l k 0)else decide (CJ (lg l (k-1) 0)<CJ (lg l k 0)))) &&
 (lc k).all λi=>!(lg l i 0&&&l.getD k 0==lg l i 0)
theorem OG(h:d<lh p):lg (bl p) d 0=((lg p d 0:Nat):Int):=bX h
theorem ztN(h:cx6 d p=k0):ZU d (bl p):=by
 unfold cx6 at h;simp only[aj,bT,aY,eJ,cw,bC]at h;obtain⟨⟨x,s⟩,c⟩:=h;refine⟨om,om,λk g=>?_⟩;rw[ap]at g;obtain⟨⟨y,f⟩,t⟩:=c k g;have z:=dx s;have j:lg p k 0<64:=om;have l:∀i,i<lh p->lg p i 0<64:=λi o=>by have:=(c i o).1.1;omega
 refine⟨?_,λA=>?_,λi o=>?_⟩;rw[OG g];unfold di;refine ay ⟨om,om,om,?_⟩;rw[iM];omega;have f:=f.resolve_left om;have m:=l (k-1) om;rw[OG g,OG (show k-1<lh p by omega)];generalize p.getD (k-1) 0=a at *;generalize p.getD k 0=b at *;have u:qN (a:Int)=(CJ a:Nat):=by rw[qN,ae om,ar,yS m]
 have w:qN (b:Int)=(CJ b:Nat):=by rw[qN,ae om,ar,yS j]
 unfold rQ;rw[u,w,ay (show(0:Int)<=a/\(a:Int)<64 by omega),ay (show(0:Int)<=b/\(b:Int)<64 by omega)];simp only[au];by_cases n:CJ a=CJ b;rw[ae n]at f;rw[ae om];exact ay (by have:=cH f;omega);rw[ac n]at f;rw[ac om];exact ay (by have:=cH f;omega);have q:=t i o;have r:=l i om;rw[OG g,OG (show i<lh p by omega),ej om om];intro e;have e:lg p i 0&&&p.getD k 0=lg p i 0:=Int.ofNat.inj e;rw[e]at q;simp at q
theorem zni(a:Q0):mu a=bl (a.map λp=>oU p p.size):=by simp[mu,bl]
theorem zj{a:P0}{n:Q0}(size:decide (2<=j.size/\j.size<=1000)=k0)(pts:decide (1<=d/\d<=6)=k0)(f:fK j 0=48+d)(g:fK j 1=58)(tail:j.extract 2 j.size=a)(c:decide (a.size<=1000)=k0)(full:(a.toList==(⟨#[]⟩:P0).toList)=l0)(parts:dO a 44=n)(b:decide (0<lh n/\n.length<=1000)=k0)(e:n.all zmi=k0)(head:dO j 58=[Mc d,a])(h:cx6 d (n.map λp=>oU p p.size)=k0):OkText j d a n :=
 ⟨cH size,cH pts,f,g,tail,cH c,full,parts,(cH b).2,(cH b).1,λp i=>zmj (List.all_eq_true.1 e p i),head,by rw[zni];exact ztN h⟩
def ex1:P0:=⟨#[52,58,97,98,99,44,97,98,100,44,97,99,100,44,98,99,100]⟩
def ps1:Q0:=[⟨#[97,98,99]⟩,⟨#[97,98,100]⟩,⟨#[97,99,100]⟩,⟨#[98,99,100]⟩]
theorem zwx:OkText ex1 4 ⟨#[97,98,99,44,97,98,100,44,97,99,100,44,98,99,100]⟩ ps1:=zj kr kr kr kr kr kr kr kr kr kr kr kr
def ZO:P0:=⟨#[54,58,97,99,100,44,98,99,100,44,97,98,101,44,97,99,101,44,98,100,101,44,97,98,102,44,98,99,102,44,97,100,102,44,99,101,102,44,100,101,102]⟩
def ps2:Q0:=[⟨#[97,99,100]⟩,⟨#[98,99,100]⟩,⟨#[97,98,101]⟩,⟨#[97,99,101]⟩,⟨#[98,100,101]⟩,⟨#[97,98,102]⟩,⟨#[98,99,102]⟩,⟨#[97,100,102]⟩,⟨#[99,101,102]⟩,⟨#[100,101,102]⟩]
theorem zwy:OkText ZO 6 ⟨#[97,99,100,44,98,99,100,44,97,98,101,44,97,99,101,44,98,100,101,44,97,98,102,44,98,99,102,44,97,100,102,44,99,101,102,44,100,101,102]⟩ ps2:=zj kr kr kr kr kr kr kr kr kr kr kr kr
def ex3:P0:=⟨#[53,58,97,98,44,98,99,44,99,100,44,97,101,44,100,101]⟩
def ps3:Q0:=[⟨#[97,98]⟩,⟨#[98,99]⟩,⟨#[99,100]⟩,⟨#[97,101]⟩,⟨#[100,101]⟩]
theorem zwz:OkText ex3 5 ⟨#[97,98,44,98,99,44,99,100,44,97,101,44,100,101]⟩ ps3:=zj kr kr kr kr kr kr kr kr kr kr kr kr
def ex4:P0:=⟨#[53,58,97,98,99,44,99,100,101]⟩
def ps4:Q0:=[⟨#[97,98,99]⟩,⟨#[99,100,101]⟩]
theorem zwA:OkText ex4 5 ⟨#[97,98,99,44,99,100,101]⟩ ps4:=zj kr kr kr kr kr kr kr kr kr kr kr kr
def ex5:P0:=⟨#[54,58,97,98,99,44,97,99,100,44,97,98,101,44,97,100,101,44,98,99,102,44,99,100,102,44,98,101,102,44,100,101,102]⟩
def ps5:Q0:=[⟨#[97,98,99]⟩,⟨#[97,99,100]⟩,⟨#[97,98,101]⟩,⟨#[97,100,101]⟩,⟨#[98,99,102]⟩,⟨#[99,100,102]⟩,⟨#[98,101,102]⟩,⟨#[100,101,102]⟩]
theorem zwB:OkText ex5 6 ⟨#[97,98,99,44,97,99,100,44,97,98,101,44,97,100,101,44,98,99,102,44,99,100,102,44,98,101,102,44,100,101,102]⟩ ps5:=zj kr kr kr kr kr kr kr kr kr kr kr kr
def ex6:P0:=⟨#[54,58,97,98,44,99,100,44,101,102]⟩
def ps6:Q0:=[⟨#[97,98]⟩,⟨#[99,100]⟩,⟨#[101,102]⟩]
theorem zwC:OkText ex6 6 ⟨#[97,98,44,99,100,44,101,102]⟩ ps6:=zj kr kr kr kr kr kr kr kr kr kr kr kr
def ex7:P0:=⟨#[52,58,97,98,44,98,99,44,99,100]⟩
def ps7:Q0:=[⟨#[97,98]⟩,⟨#[98,99]⟩,⟨#[99,100]⟩]
theorem zwD:OkText ex7 4 ⟨#[97,98,44,98,99,44,99,100]⟩ ps7:=zj kr kr kr kr kr kr kr kr kr kr kr kr
def ex8:P0:=⟨#[53,58,97,98,99,44,97,98,100,44,99,100,101]⟩
def ps8:Q0:=[⟨#[97,98,99]⟩,⟨#[97,98,100]⟩,⟨#[99,100,101]⟩]
theorem zwE:OkText ex8 5 ⟨#[97,98,99,44,97,98,100,44,99,100,101]⟩ ps8:=zj kr kr kr kr kr kr kr kr kr kr kr kr
def CY(k:Int):P0:=if k=1 then ex1 else if k=2 then ZO else if k=3 then ex3 else if k=4 then ex4 else if k=5 then ex5 else if k=6 then ex6 else if k=7 then ex7 else if k=8 then ex8 else⟨#[]⟩
def xJ(k:Int):Nat:=if k=1 then 4 else if k=2 then 6 else if k=3 then 5 else if k=4 then 5 else if k=5 then 6 else if k=6 then 6 else if k=7 then 4 else if k=8 then 5 else 0
def FI(k:Int):Q0:=if k=1 then ps1 else if k=2 then ps2 else if k=3 then ps3 else if k=4 then ps4 else if k=5 then ps5 else if k=6 then ps6 else if k=7 then ps7 else if k=8 then ps8 else []
theorem wR(h:¬(1<=x/\x<=8)):CY x=⟨#[]⟩:=by unfold CY;grind
theorem UB(h:¬(1<=x/\x<=8)):xJ x=0:=by unfold xJ;grind
theorem zbE(h:¬(1<=x/\x<=8)):FI x=[]:=by unfold FI;grind
theorem UC(h:1<=x/\x<=8):∃a,OkText (CY x) (xJ x) a (FI x):=by
 have:x=1\/x=2\/x=3\/x=4\/x=5\/x=6\/x=7\/x=8:=om;rcases this with rfl|rfl|rfl|rfl|rfl|rfl|rfl|rfl
 exact⟨_,zwx⟩;exact⟨_,zwy⟩;exact⟨_,zwz⟩;exact⟨_,zwA⟩;exact⟨_,zwB⟩;exact⟨_,zwC⟩;exact⟨_,zwD⟩;exact⟨_,zwE⟩
theorem rh{b:Int}(e:(x==b)=k0)(h:CY b=j):CY x=j:=by grind
theorem CZ:AC prog 43 [al n] (.im (fa (CY n))):=by refine cA [.tmp 2] func43 λj=>?_;refine aR ?_;exact⟨λe=>rh e rfl,λa=>⟨λe=>rh e rfl,λb=>⟨λe=>rh e rfl,λc=>⟨λe=>rh e rfl,λd=>⟨λe=>rh e rfl,λf=>⟨λe=>rh e rfl,λg=>⟨λe=>rh e rfl,λh=>⟨λe=>rh e rfl,λi=>wR<|by grind⟩⟩⟩⟩⟩⟩⟩⟩
theorem Da:AC prog 29 [al n] (.im (fa (CY n))):=by refine cA [.tmp 2] func29 λj=>?_;refine aR ?_;exact⟨λe=>rh e rfl,λa=>⟨λe=>rh e rfl,λb=>⟨λe=>rh e rfl,λc=>⟨λe=>rh e rfl,λd=>⟨λe=>rh e rfl,λf=>⟨λe=>rh e rfl,λg=>⟨λe=>rh e rfl,λh=>⟨λe=>rh e rfl,λi=>wR<|by grind⟩⟩⟩⟩⟩⟩⟩⟩
theorem yc:AC prog 42 [fa ⟨#[]⟩] (.tup [.ag [.im (al 0),.fr 3 1 (iL [])],.im (aU l0)]):=by
 refine cA [.cell 2 31,.tmp 3] func42 λa=>?_;refine aR ?_;have b:AC prog 116 [fa ⟨#[]⟩] (.tup [.im (al 0),.im (fa ⟨#[]⟩),.im (aU l0)]):=by refine cA [.tmp 2,.tmp 3,.tmp 4] func116 λa=>?_;have c:((⟨#[]⟩:P0).size:Nat)=0:=rfl;exact mg c
 refine aa b<|cZ @oh ?_;rfl
theorem yd:AC prog 28 [fa ⟨#[]⟩] (.tup [.ag [.im (al 0),.fr 3 1 (iL [])],.im (aU l0)]):=by refine cA [.cell 2 31,.tmp 3] func28 λc=>?_;refine aR<|aa (iT ⟨#[]⟩ 58 dc) ?_;have b:(((dO ⟨#[]⟩ 58).length:Nat))=1:=rfl;have a:(1 != 2)=true:=rfl;refine iD @cN b a ?_;rfl
theorem pF:AC prog 22 [al n] (.tup [.ag [.im (al (xJ n)),.fr 3 1 (iL (mu (FI n)))],.im (aU (decide (1<=n/\n<=8)))]):=by refine cA [.cell 2 31,.tmp 3] func22 λc=>?_;simp -dsimp only[↓gp,gq,simprocAttr,gT];refine aa (CZ n) ?_;by_cases h:1<=n/\n<=8;have⟨a,b⟩:=UC h;rw[ay h];simp -dsimp[↓gp,simprocAttr,gT];refine aa (Bp b) ?_;simp -dsimp only[↓gp,gq,simprocAttr,gT];rw[wR h,UB h,zbE h,aD h];simp -dsimp[↓gp,gq,simprocAttr,gT];refine aa yc ?_;simp -dsimp only[↓gp,gq,lj,lm,ll,gT,mu];rfl
theorem pG:AC prog 16 [al n] (.tup [.ag [.im (al (xJ n)),.fr 3 1 (iL (mu (FI n)))],.im (aU (decide (1<=n/\n<=8)))]):=by refine cA [.cell 2 31,.tmp 3] func16 λc=>?_;simp -dsimp only[↓gp,gq,simprocAttr,gT];refine aa (Da n) ?_;by_cases h:1<=n/\n<=8;have⟨a,b⟩:=UC h;rw[ay h];simp -dsimp[↓gp,simprocAttr,gT];refine aa (Bq b) ?_;simp -dsimp only[↓gp,gq,simprocAttr,gT];rw[wR h,UB h,zbE h,aD h];simp -dsimp[↓gp,gq,simprocAttr,gT];refine aa yd ?_;simp -dsimp only[↓gp,gq,lj,lm,ll,lA,lB,lC,lk,gT,mu];rfl
theorem DU:lh (mu (FI n))<=1048576:=by by_cases h:1<=n/\n<=8;obtain⟨_,a⟩:=UC h;have:=a.plen;unfold mu;simp;omega;rw[zbE h];decide
theorem HI{args:M0}{a:Nat}{us:Dm h}{u:Dm K}(c:AC P g b (.tb o a (M.map iL)))(e:∀i,i<lh M->(h.rw (dq d i)).ver=0)(k:∀S:St,TabI S.rw d ((h.rw d).ver+1) o a (lc (lh M)) M->S.sl d=.own d ((h.rw d).ver+1)->(∀t,t≠d->S.sl t=h.sl t)->(∀j,(j%1000==d%1000)=l0->S.rw j=h.rw j)->K S):nn P g b w (tS P g b args (n0 d) (kk h us) (kk K u)) :=
 zk4 _ c (Wk.refl _) (k _ ⟨by
  have:=Aq (s:=h) d o a (M.map iL) (λi l=>e i (ss l));rwa [aG]at this,dC⟩ (ux d o a _) (λt m=>qx d o a t _ m) (λj n=>uy d o a j _ n))
theorem zd4{e lent:M0}{l k v:Nat}{us:Dm h}{u:Dm K}{f:fG}(args:AT P g b o l (M.map iL) (f.map iL) (.rv (.im (.v q))))(y:GiveL [(k,v)] e b)(c:TabI h.rw k v o l p M)(z:lh f=lh M)(n:d%1000≠k%1000)(A:∀(S:St)(x:O0),TabI S.rw k v o l x f->x.Perm p->S.sl d=.v q->(∀t,t≠d->S.sl t=h.sl t)->(∀j,(j%1000==k%1000)=l0->S.rw j=h.rw j)->K S):nn P g lent w (tS P g lent e (n0 d) (kk h us) (kk K u)):=by
 refine Ec args y c.is c.nd λm a=>?_
 have s:lh m=(f.map iL).length:=by rw[a.length_eq,c.len];simp[z]
 have r:=a.nodup_iff.2 c.nd
 have B:TabI (h.tabbed k v o l m (f.map iL)).rw k v o l m f:=⟨⟨mj ..,s,λi C=>sh r C⟩,r⟩
 refine⟨n,?_⟩
 rw[rU]
 exact A _ m B a (cF ..) (λt c=>da _ _ _ _ c) (λj D=>oy _ _ _ _ _ _ _ D)
theorem vG{rw:S0}{e a:Nat}(h:TabI rw d o e a p M)(rw':S0)(b:∀j,rw' (dq d j)=rw (dq d j)):(cy d p).map (tA rw')=mF M:=by rw[<- zcV,<- zau h.is];refine cO λc v=>?_;obtain⟨j,_,rfl⟩:=List.mem_map.1 v;simp[tA,b]
theorem zcJ{e lent:M0}{l k v:Nat}{us:Dm h}{u:Dm K}{args:fG}(r:AT P g b o l (M.map iL) (args.map iL) .self)(s:GiveL [(k,v)] e b)(c:TabI h.rw k v o l p M)(x:lh args=lh M)(y:∀(S:St)(q:O0),TabI S.rw k v o l q args->q.Perm p->S.sl d=.own k v->(∀t,t≠d->S.sl t=h.sl t)->(∀j,(j%1000==k%1000)=l0->S.rw j=h.rw j)->K S):nn P g lent w (tS P g lent e (n0 d) (kk h us) (kk K u)):=by
 refine Ec r s c.is c.nd λm a=>?_
 have n:lh m=(args.map iL).length:=by rw[a.length_eq,c.len];simp[x]
 have f:=a.nodup_iff.2 c.nd
 have z:TabI (h.tabbed k v o l m (args.map iL)).rw k v o l m args:=⟨⟨mj ..,n,λi A=>sh f A⟩,f⟩
 rw[GQ]
 exact y _ m z a (cF ..) (λt c=>da _ _ _ _ c) (λj B=>oy _ _ _ _ _ _ _ B)
theorem zcK{e lent:M0}{l k v:Nat}{us:Dm h}{u:Dm K}{args:fG}(r:AT P g b o l (M.map iL) (args.map iL) (.selfx q))(s:GiveL [(k,v)] e b)(c:TabI h.rw k v o l p M)(y:lh args=lh M)(z:∀(S:St)(x:O0),TabI S.rw k v o l x args->x.Perm p->S.sl d=.tup [.own k v,.v q]->(∀t,t≠d->S.sl t=h.sl t)->(∀j,(j%1000==k%1000)=l0->S.rw j=h.rw j)->K S):nn P g lent w (tS P g lent e (n0 d) (kk h us) (kk K u)):=by
 refine Ec r s c.is c.nd λm a=>?_
 have n:lh m=(args.map iL).length:=by rw[a.length_eq,c.len];simp[y]
 have f:=a.nodup_iff.2 c.nd
 have A:TabI (h.tabbed k v o l m (args.map iL)).rw k v o l m args:=⟨⟨mj ..,n,λi B=>sh f B⟩,f⟩
 rw[Ct]
 exact z _ m A a (cF ..) (λt c=>da _ _ _ _ c) (λj C=>oy _ _ _ _ _ _ _ C)
def AtS(k n m b c a:Nat)(e:X0)(out:N0):Prop:=(out=ld a 1/\SWq k n m b c a e)\/(out=ld b 1++[2]/\a=b+1/\c=a/\a<=n/\a<=m/\∀i j,a<=i->i<n->a<=j->j<m->e i j=0)
theorem ze5{m b c a:Nat}(h:AtS d o m b c a i l)(f:b<=m)(g:c<=m)(e:∀k j,a<=k->k<o->a<=j->j<m->i k j=0):l=ld b 1++ld (c-b) 2:=by rcases h with⟨rfl,out⟩|⟨rfl,q,out,_⟩;have⟨n,p⟩:=out.stop f g e;simp_all;simp_all
theorem AtS.le{m c out a:Nat}(h:AtS d o m c out a i l):a<=o/\a<=m/\l.length=a:=by rcases h with⟨rfl,b⟩|⟨rfl,e,_,f,g,_⟩;exact⟨b.an,b.am,sp⟩;grind
theorem JY(g:Abs.Good k)(hn:s<=20)(hm:t<=20)(h2:r<=t)(h3:c<=t)(hW:SWq k s t r c 0 e):AC prog 303 [hY (cz s t e)] (.fr 3 1 (iL (ld r 1++ld (c-r) 2))):=by
 refine cA [.tmp 2] func303 λhl=>?_;have b:=λp=>fw (n:=s) (m:=t) (e:=p);refine aR ?_;refine NW (k:=13) (v:=1) (e:=29) (e2:=3) gl (λj=>gl) (λ(i:Nat)W=>(W.sl 0=hY (cz s t e)/\W.sl 3=.own 13 (i+1)/\W.sl 4=al i)/\(i<=s/\TabG W.rw 13 (i+1) 29 3 i ((cz s t e).take i))) (λi=>s-i) (0) (λsX qw z N=>⟨(gE z N),⟨om,qw⟩⟩) ?_;intro i sa ⟨Ha,a8⟩;obtain⟨hi,O⟩:=a8;rcases bf i s with h|h
 have b0:((i:Int)<(s:Int))=True:=bO om;have b1:=cr (m:=t) (e:=e) h;refine Cn Ha @bU b b0 b1 @O.top ?_;refine⟨h,om,zfQ ?_⟩;have b2:(cz s t e).take i++[lg (cz s t e) i []]=(cz s t e).take (i+1):=(bj [] (by rw[b];exact h)).symm;have b3:lh ((cz s t e).take i)=i:=by rw[bg,b];omega
 refine ox Ha @O.top @bP @bp ?_;exact⟨om,tD (k:=13) (v:=i+1+1) (e:=29) (e2:=3) (n:=i) (d:=21) (vd:=(sa.rw 21).ver+1+1) (M:=(cz s t e).take i) (r:=lg (cz s t e) i []) (rp @O.top) b3 (λj hj=>by simp -dsimp only[gr,simprocAttr,O.row j hj]) (λj hj=>by simp -dsimp only[gr,simprocAttr,O.rest j hj]) gl dc dc (i+1) (λsX qw z N=>⟨(rS z N Ha (ak h om)),⟨om,(b2 ▸ qw:TabG _ _ _ _ _ _ _)⟩⟩) (by first|omega|(simp only;omega)|(dsimp only;omega)|(show _<_;simp;omega))⟩;obtain rfl:i=s:=om;rw[bK (by rw[b];exact ab i)]at O;have a0:=O.done;have a1:((i:Int)<(i:Int))=False:=aX om;refine nN Ha @bU b a1 @a0.top ?_;refine az (λ((a,p,q,v,out):Nat×(X0)×O0×Nat×N0) W=>(W.sl 0=hY (cz i t e)/\W.sl 3=.own 13 (i+1)/\W.sl 5=.own 29 v/\W.rw 29=⟨v,.sli 3 1 l0 (iL out)⟩/\W.sl 6=al a)/\(AtS k i t r c a p out/\TabI W.rw 13 (i+1) 29 3 q (cz i t p))) (λ(a,p,q,v,out)=>i-a) ((0,e,lc i,(sa.rw 29).ver+1,[])) ⟨(jX Ha),⟨.inl ⟨rfl,hW⟩,a0.same gl (λx=>gl)⟩⟩ ?_;intro(a,p,q,v,out) sb ⟨Hb,b4⟩;obtain⟨hA,I⟩:=b4;obtain⟨b8,b9,b5⟩:=hA.le;by_cases b6:a<i/\a<t;obtain⟨l,w⟩:=b6;have o:((a:Int)<(i:Int))=True:=bO om;have A:((a:Int)<(t:Int))=True:=bO om;have P:=I.row (i:=0) (by rw[b];omega);have Q:=cr (m:=t) (e:=p) (show 0<i by omega);have B:lh q=i:=by rw[I.len,b]
 refine xA Hb @I.top B o A P Q ?_;refine⟨om,om,?_⟩;refine az (λ(m:Nat)W=>(W.sl 0=hY (cz i t e)/\W.sl 3=.own 13 (i+1)/\W.sl 5=.own 29 v/\W.rw 29=⟨v,.sli 3 1 l0 (iL out)⟩/\W.sl 6=al a)/\(TabI W.rw 13 (i+1) 29 3 q (cz i t p))) (λm=>0) (0) ⟨(jX Hb),I.same gl (λx=>gl)⟩ ?_;intro m sc ⟨R,b7⟩;have C:=b7;have S:=vG C;have hS:Sm2 i t a p:=λX Y i1 i2 j1 j2=>by rcases hA with⟨_,D⟩|⟨_,_,_,_,_,D⟩;have:=D.small i1 i2 j1 j2;omega;rw[D X Y i1 i2 j1 j2];omega
 refine iD R @C.top S ?_;refine aa (JZ p i t a om om om om hS) ?_;cases a2:th (CM p) a t (i-a)with
 | none =>have u:=ze5 hA h2 h3 (Wn om om a2);have e1:Vr o0=-1:=rfl;have Z:Vu o0=-1:=rfl;exact xd6 R @C.top S e1 Z u
 | some rc =>
   obtain⟨L,n⟩:=rc;have y:=Wm om om a2;have E:=y.hi;have F:=y.hj;have e1:Vr (n0 (L,n))=(L:Int):=rfl;have Z:Vu (n0 (L,n))=(n:Int):=rfl;have e3:((L:Int)<0)=False:=aX om;refine Cn R @C.top S e1 Z e3 ?_;have U:SWq k i t r c a p/\out=ld a 1:=by rcases hA with⟨h4,D⟩|⟨_,_,_,_,_,D⟩;exact⟨D,h4⟩;exact absurd (D L n E.1 E.2 F.1 F.2) y.nz
   obtain⟨k1,k2,k3,k4,k5⟩:=zd7 g U.1 h2 h3 y;refine zcJ (LO p i t a L n om om om om E.2 F.2) (by repeat (first|exact GiveL.nil|refine GiveL.v ?_|refine GiveL.clo ?_|refine GiveL.own 0 rfl ?_|refine GiveL.own 1 rfl ?_|refine GiveL.ag ?_ ?_)) (C.same gl (λx=>gl)) (by rw[b,b]) λS1 q1 G c0 d1 s1 w1=>?_;have G:TabI S1.rw 13 (i+1) 29 3 q1 (cz i t (piv p a L n)):=G;have u0:S1.sl 0=hY (cz i t e):=by rw[s1 0 dc];simp -dsimp only[gr,simprocAttr,R]
   have u5:S1.sl 5=.own 29 v:=by rw[s1 5 dc];simp -dsimp only[gr,simprocAttr,R]
   have u6:S1.sl 6=al a:=by rw[s1 6 dc];simp -dsimp only[gr,simprocAttr,R]
   have a3:S1.rw 29=⟨v,.sli 3 1 l0 (iL out)⟩:=by rw[w1 29 dc];simp -dsimp only[gr,simprocAttr,R]
   clear s1 w1;have a4:=vG G;simp -dsimp only[↓gp,gq,simprocAttr,gT,d1,u0,u5,u6,a3,G.top,a4];have V:=LN (piv p a L n) (λX=>piv p a L n X a/p L n) (λY=>piv p a L n a Y/p L n) i t a om om l w (by rw[wS];exact y.nz) (by rw[wS];exact k1) (by rw[wS];exact k2) k3;refine zcK V (by repeat (first|exact GiveL.nil|refine GiveL.v ?_|refine GiveL.clo ?_|refine GiveL.own 0 rfl ?_|refine GiveL.own 1 rfl ?_|refine GiveL.ag ?_ ?_)) (G.same gl (λx=>gl)) (by rw[b,b]) λS2 q2 f c3 d2 s2 w2=>?_;have f:TabI S2.rw 13 (i+1) 29 3 q2 (cz i t (Mz p i t a L n)):=f;have y0:S2.sl 0=hY (cz i t e):=by rw[s2 0 dc];simp -dsimp only[gr,simprocAttr,u0]
   have y5:S2.sl 5=.own 29 v:=by rw[s2 5 dc];simp -dsimp only[gr,simprocAttr,u5]
   have y6:S2.sl 6=al a:=by rw[s2 6 dc];simp -dsimp only[gr,simprocAttr,u6]
   have J:S2.rw 29=⟨v,.sli 3 1 l0 (iL out)⟩:=by rw[w2 29 dc];simp -dsimp only[gr,simprocAttr,a3]
   clear s2 w2;have H:=vG f;simp -dsimp only[↓gp,gq,simprocAttr,gT,d2,y0,y5,y6,J,f.top,H];refine aa (Qa (Mz p i t a L n) i t a om om l w (by rw[zd6];exact y.nz) (by rw[zd6];exact k4)) ?_;have K:lh q2=i:=by rw[f.len,b]
   have a5:=f.row (i:=a) (by rw[b];exact l);have a6:=cr (m:=t) (e:=Mz p i t a L n) l;have va:lg (lg (cz i t (Mz p i t a L n)) a []) a 0=p L n:=by rw[dz l w,zd6]
   have c4:=U.1.small E.1 E.2 F.1 F.2;simp -dsimp only[↓gp,gq,simprocAttr,gT,d2,y0,y5,y6,J,f.top,H,K,a5,a6,va];refine⟨om,om,w,w,aa (qo (p L n) om om) ?_⟩;simp -dsimp only[↓gp,gq,simprocAttr,gT,d2,y0,y5,y6,J,f.top,H,K,a5,a6,va,dB,b5];have a7:AtS k i t r c (a+1) (Mz p i t a L n) (out++[((p L n).natAbs:Int)]):=by
    rw[U.2];rcases k5 with⟨h4,D⟩|⟨h4,D,h6,h7⟩
    exact .inl ⟨by rw[h4,zW];rfl,D⟩;exact .inr ⟨by rw[h4,h6];rfl,om,h7,l,w,λX Y i1 i2 j1 j2=>D X Y i1 i2 j1 j2⟩
   exact⟨om,ah ((a+1,Mz p i t a L n,q2,v+1,out++[((p L n).natAbs:Int)])) ⟨(by and_intros<;>(first|(simp -dsimp only[gr,simprocAttr,Hb,d2,y0,y5,y6,J,ak l om];first|done|rfl|(simp;done))|assumption|rfl)),⟨a7,f.same gl (λx=>gl)⟩⟩⟩
 have u:=ze5 hA h2 h3 λX Y=>om;by_cases l:a<i;have o:((a:Int)<(i:Int))=True:=bO om;have A:((a:Int)<(t:Int))=False:=aX om;have P:=I.row (i:=0) (by rw[b];omega);have Q:=cr (m:=t) (e:=p) (show 0<i by omega);have B:lh q=i:=by rw[I.len,b]
 refine XO Hb @I.top B o A P Q u ?_;omega;have o:((a:Int)<(i:Int))=False:=aX om;have B:lh q=i:=by rw[I.len,b]
 exact xd5 Hb @I.top B o u
theorem rP(G:k<=900)(H:s<=900)(I:t<=k)(D:t<=s):AC prog 322 [hY (cz k s e),al t] (.tup [.im (al (Vr (th (yV e) t s (k-t)))),.im (al (Vu (th (yV e) t s (k-t))))]):=by
 refine cA [.tmp 4,.tmp 5] func322 λJ=>?_;have b:=fw (n:=k) (m:=s) (e:=e);refine aR ?_;refine az (λ(a:Nat)m=>(m.sl 0=hY (cz k s e)/\m.sl 1=al t/\m.sl 6=al (t+a:Nat))/\(t+a<=k/\th (yV e) t s a=o0)) (λa=>k-a) (0) ⟨nm,⟨om,rfl⟩⟩ ?_;intro a K ⟨p,r⟩;obtain⟨E,j⟩:=r;rcases bf (t+a) k with c|c
 have g:(((t+a:Nat):Int)<(k:Int))=True:=bO om;have h:=cr (m:=s) (e:=e) c;refine ox p @bU b g ?_;refine az (λ(u:Nat)m=>(m.sl 0=hY (cz k s e)/\m.sl 1=al t/\m.sl 6=al (t+a:Nat)/\m.sl 7=al (t+u:Nat))/\(t+u<=s/\XR (yV e) t (t+a) (th (yV e) t s a) u=o0)) (λu=>s-u) (0) ⟨(jX p),⟨om,j⟩⟩ ?_;intro u L ⟨n,w⟩;obtain⟨F,i⟩:=w;have d:XR (yV e) t (t+a) (th (yV e) t s a) (u+1)=if e (t+a) (t+u)=0 then o0 else n0 (t+a,t+u):=by rw[XR,i];rfl
 rcases bf (t+u) s with l|l;have A:=dz (e:=e) c l;have f:(((t+u:Nat):Int)<(s:Int))=True:=bO om;have x:D0.i64.wrap (((t+u:Nat):Int)+1)=((t+(u+1):Nat):Int):=ak l om;by_cases q:e (t+a) (t+u)=0;rw[ae q]at d;refine xA n @bU b h f A q ?_;exact⟨c,c,c,c,l,ah (u+1) ⟨(gE n x),⟨om,d⟩⟩⟩;rw[ac q]at d;have y:(e (t+a) (t+u) != 0)=true:=bne_iff_ne.2 q;have B:=zmA d (s-t-(u+1));rw[show u+1+(s-t-(u+1))=s-t by omega]at B;have C:=zmB (t:=a+1) B (k-t-(a+1));rw[show a+1+(k-t-(a+1))=k-t by omega]at C;rw[C];refine xA n @bU b h f A y ?_;exact⟨c,c,c,c,l,rfl,rfl⟩;have f:(((t+u:Nat):Int)<(s:Int))=False:=aX om;have z:u=s-t:=om;have o:th (yV e) t s (a+1)=none:=by rw[z]at i;exact i
 have x:D0.i64.wrap (((t+a:Nat):Int)+1)=((t+(a+1):Nat):Int):=ak c om;refine nN n @bU b h f ?_;exact⟨c,c,ah (a+1) ⟨(fB p n x),⟨om,o⟩⟩⟩;have g:(((t+a:Nat):Int)<(k:Int))=False:=aX om;rw[show k-t=a by omega,j];refine ox p @bU b g ?_;exact⟨rfl,rfl⟩
theorem zkz:Cu T h [] (.tup []):=fS
theorem BJ(S:k<=900)(U:s<=900)(o:t<k)(n:t<s)(p:r<k)(F:c<s):AT prog 323 [.own 1000000 1,al t,al r,al c] 29 3 ((cz k s e).map iL) ((cz k s (piv e t r c)).map iL) (.rv (.tup [])):=by
 have d:=λe=>fw (n:=k) (m:=s) (e:=e);refine AT.goI (rs:=[]) tk mixed func323 rfl rfl rfl kr (by rw[d,d]) λV a G w y=>?_;rw[d]at y ⊢;have z:lh (lc k)=k:=sp;have A:=Ra (q:=lc k) (a:=t) (b:=r) om om;have M:=y.row (i:=r) (by rw[d];exact p);have N:=y.row (i:=t) (by rw[d];exact o);refine Cn G w @y.top M N z ?_;refine⟨kr,p,p,o,o,o,om,p,om,kr,?_⟩;have H:∀rw',rw' 1000000=⟨1,.tab 29 (cy 1000000 (((lc k).set t (lg (lc k) r 0)).set r (lg (lc k) t 0)))⟩->(∀x,rw' (dq 1000000 x)=a.rw (dq 1000000 x))->TabI rw' 1000000 1 29 3 (((lc k).set t (lg (lc k) r 0)).set r (lg (lc k) t 0)) (cz k s λi j=>e (ua t r i) j):=λrw' m O=>by exact(y.swap (rw':=rw') (a:=t) (b:=r) (by rw[d];exact o) (by rw[d];exact p) m O).1.to (by rw[<- zbe o p];rfl)
 refine az (λ(i:Nat)a=>(a.sl 0=.own 1000000 1/\a.sl 1=al t/\a.sl 2=al r/\a.sl 3=al c/\a.sl 24=.own 1000000 1/\a.sl 25=al k/\a.sl 26=al i)/\(i<=k/\TabI a.rw 1000000 1 29 3 (((lc k).set t (lg (lc k) r 0)).set r (lg (lc k) t 0)) (cz k s λf j=>if f<i then e (ua t r f) (ua t c j)else e (ua t r f) j))) (λi=>k-i) (0) ⟨(gE G z),⟨om,H _ (rp G) (λx=>by simp -dsimp only[gr,simprocAttr,G])⟩⟩ ?_;intro i W ⟨u,I⟩;obtain⟨X,g⟩:=I;generalize ((lc k).set t (lg (lc k) r 0)).set r (lg (lc k) t 0)=q at *;have B:lh q=k:=by rw[g.len,d]
 generalize J:(λf j=>if f<i then e (ua t r f) (ua t c j)else e (ua t r f) j)=E at *;rcases bf i k with h|h
 have C:=g.row (i:=i) (by rw[d];exact h);have D:=cr (m:=s) (e:=E) h;have l:((i:Int)<(k:Int))=True:=bO om;refine Cn u @g.top B l C D ?_;have K:∀j,E i j=e (ua t r i) j:=λj=>by rw[<- J];simp
 have L:cz k s (λf j=>if f<i+1 then e (ua t r f) (ua t c j)else e (ua t r f) j)=(cz k s E).set i (((lg (cz k s E) i []).set t (lg (lg (cz k s E) i []) c 0)).set c (lg (lg (cz k s E) i []) t 0)):=by refine(zbc h (by rw[de,de,D]) (λj P=>?_) λf j _ _ Q=>?_).symm;rw[zhc om om,znj,dz h (Hw n F P),K,ae (dD i)];rw[<- J];dsimp only;by_cases m:f<i;rw[ae m,ae om];rw[ac m,ac om]
 refine⟨h,kr,F,F,n,n,n,om,F,om,kr,ah (i+1) ⟨(gE u (ak h om)),⟨om,?_⟩⟩⟩;rw[L];exact g.set (by rw[d];exact h) (rp u) (rp u) (λx R=>by simp -dsimp only[gr,simprocAttr,u,R]);obtain rfl:i=k:=om;have l:((i:Int)<(i:Int))=False:=aX om;refine ox u @g.top B l ?_;refine⟨pT ((g.same gl (λx=>gl)).to ?_) A,?_⟩;rw[<- J];exact dV λf j m _=>ae m;exact zkz
theorem zky:br h m (.tup [])=h.put (n0 m) (.tup []):=by simp[br,bo,cM,eu,fL]
theorem LM{e lent:M0}{l k v:Nat}{us:Dm h}{u:Dm K}{f:fG}(args:AT P g b o l (M.map iL) (f.map iL) (.rv (.tup [])))(x:GiveL [(k,v)] e b)(c:TabI h.rw k v o l p M)(y:lh f=lh M)(n:d%1000≠k%1000)(z:∀(S:St)(q:O0),TabI S.rw k v o l q f->q.Perm p->(∀t,t≠d->S.sl t=h.sl t)->(∀j,(j%1000==k%1000)=l0->S.rw j=h.rw j)->K S):nn P g lent w (tS P g lent e (n0 d) (kk h us) (kk K u)):=by
 refine Ec args x c.is c.nd λm a=>?_
 have s:lh m=(f.map iL).length:=by rw[a.length_eq,c.len];simp[y]
 have r:=a.nodup_iff.2 c.nd
 have A:TabI (h.tabbed k v o l m (f.map iL)).rw k v o l m f:=⟨⟨mj ..,s,λi B=>sh r B⟩,r⟩
 refine⟨n,?_⟩
 rw[zky]
 exact z _ m A a (λt c=>da _ _ _ _ c) (λj C=>oy _ _ _ _ _ _ _ C)
set_option maxRecDepth 100000 in
theorem Be(g:Abs.Good k)(hn:s<=20)(hm:t<=20)(h2:r<=t)(h3:c<=t)(hW:IW k s t r c 1 0 e):AC prog 289 [hY (cz s t e)] (.tup [.im (al c),.im (al ((HJ s t (s+1) e 0 1).natAbs:Nat))]):=by
 refine cA [.tmp 2,.tmp 3] func289 λhl=>?_;have b:=λn=>fw (n:=s) (m:=t) (e:=n);have K:=b e;refine ff @bU K ?_;refine⟨om,om,?_⟩;refine NV (k:=15) (v:=1) (e:=29) (e2:=3) (n:=s) gl (λj=>gl) (λ(i:Nat)r3=>(r3.sl 0=hY (cz s t e)/\r3.sl 4=.own 15 1/\r3.sl 16=hY (cz s t e)/\r3.sl 17=al s/\r3.sl 18=al i)/\(i<=s/\TabP r3.rw 15 1 29 3 s i ((cz s t e).take i))) (λi=>s-i) (0) (λsX qw B N=>⟨(gE B N),⟨om,qw⟩⟩) ?_;intro i sa ⟨Ha,a5⟩;obtain⟨hi,W⟩:=a5;rcases bf i s with h|h
 have a6:((i:Int)<(s:Int))=True:=bO om;have a7:=cr (m:=t) (e:=e) h;have a8:(cz s t e).take i++[lg (cz s t e) i []]=(cz s t e).take (i+1):=(bj [] (by rw[b];exact h)).symm;have b0:lh ((cz s t e).take i)=i:=by rw[bg,b];omega
 refine xA Ha @bU K a6 a7 @W.top @ik ?_;exact⟨h,om,om,zdz (k:=15) (v:=1) (e:=29) (e2:=3) (n:=s) (i:=i) (d:=26) (vd:=(sa.rw 26).ver+1) (M:=(cz s t e).take i) (r:=lg (cz s t e) i []) (rp @W.top) b0 (λj A=>by simp -dsimp only[gr,simprocAttr,W.row j A]) (λj A=>by simp -dsimp only[gr,simprocAttr,W.rest j A]) gl dc dc h (i+1) (λsX qw B N=>⟨(rS B N Ha (ak h om)),⟨om,(a8 ▸ qw:TabP _ _ _ _ _ _ _ _)⟩⟩) (by first|omega|(simp only;omega)|(dsimp only;omega)|(show _<_;simp;omega))⟩;obtain rfl:i=s:=om;rw[bK (by rw[b];exact ab i)]at W;have b1:=W.done;have Y:((i:Int)<(i:Int))=False:=aX om;refine ox Ha @bU K Y ?_;refine az (λ((a,n,q,L):Nat×(X0)×O0×Int) r3=>(r3.sl 4=.own 15 1/\r3.sl 7=al L/\r3.sl 8=al a)/\((∃l:Nat,IW k i t r c l a n/\(L=(l:Int)\/L=-(l:Int)))/\HJ i t (i+1) e 0 1=HJ i t (i+1-a) n a L/\TabI r3.rw 15 1 29 3 q (cz i t n))) (λ(a,n,q,L)=>i+1-a) ((0,e,lc i,1)) ⟨(jX Ha),⟨⟨1,hW,.inl rfl⟩,rfl,b1.same gl (λx=>gl)⟩⟩ ?_;intro(a,n,q,L) sb ⟨O,b2⟩;obtain⟨⟨l,Z,hL⟩,w,hT⟩:=b2;have b3:=Z.an;have b4:=Z.am;have c4:=Z.l;have P:=vG hT;have hf:i+1-a=(i-a)+1:=om;rw[hf]at w;refine iD O @hT.top P ?_;refine aa (rP n i t a om om om om) ?_;cases F:th (yV n) a t (i-a)with
 | none =>
   have e1:Vr o0=-1:=rfl;have X:Vu o0=-1:=rfl;have h4:=(Z.stop h2 h3 (Ll b3 b4 F)).1;rw[UD F]at w;have b5:D0.i64.wrap (0-L)=-L:=by rw[aF om om];omega
   have b6:max L (-L)=(L.natAbs:Int):=om;rw[w];refine XO O @hT.top P e1 X b5 b6 h4 ?_;split<;>omega
 | some rc =>
   obtain⟨r2,m⟩:=rc;obtain⟨f1,f2,f3,f4,f5⟩:=zns g Z h2 h3 hL F;rw[UE F]at w;have e1:Vr (n0 (r2,m))=(r2:Int):=rfl;have X:Vu (n0 (r2,m))=(m:Int):=rfl;have e3:((r2:Int)<0)=False:=aX om;refine Cn O @hT.top P e1 X e3 ?_;refine LM (BJ n i t a r2 m om om om om f1.2 f2.2) (by repeat (first|exact GiveL.nil|refine GiveL.v ?_|refine GiveL.clo ?_|refine GiveL.own 0 rfl ?_|refine GiveL.own 1 rfl ?_|refine GiveL.ag ?_ ?_)) (hT.same gl (λx=>gl)) (by rw[b,b]) dc λS1 q1 Q c5 s1 w1=>?_;have u4:S1.sl 4=.own 15 1:=by rw[s1 4 dc];simp -dsimp only[gr,simprocAttr,O]
   have u7:S1.sl 7=al L:=by rw[s1 7 dc];simp -dsimp only[gr,simprocAttr,O]
   have u8:S1.sl 8=al a:=by rw[s1 8 dc];simp -dsimp only[gr,simprocAttr,O]
   clear s1 w1;have G:D0.i64.wrap ((a:Int)+1)=((a+1:Nat):Int):=ak (n:=i) om om;refine nN u4 u7 u8 @Q.top G ?_;have H:∀x j,a<=x->x<i->a<=j->j<t->-2<=piv n a r2 m x j/\piv n a r2 m x j<=2:=λx j i1 i2 j1 j2=>by have t1:=nU f1 i1 i2;have t2:=nU f2 j1 j2;exact f4 _ _ t1.1 t1.2 t2.1 t2.2
   have b7:piv n a r2 m a a=n r2 m:=wS;have a0:bst n i a r2 m L=MD (piv n a r2 m) a L i:=rfl;rw[a0]at f5 w;have f:a<i:=om;have o:a<t:=om;generalize piv n a r2 m=E at *;have a1:L≠0:=om;have b8:(L==0)=false:=beq_eq_false_iff_ne.2 a1;have u:lh q1=i:=by rw[Q.len,b]
   refine az (λ(x:Nat)r3=>(r3.sl 4=.own 15 1/\r3.sl 7=al L/\r3.sl 8=al a/\r3.sl 11=al x)/\((a<x/\x<=i)/\TabI r3.rw 15 1 29 3 q1 (cz i t (MD E a L x)))) (λx=>i-x) (a+1) ⟨(fB u4 u7 u8),⟨⟨om,om⟩,(Q.same gl (λx=>gl)).to (dV λi' j _ _=>(ac om).symm)⟩⟩ ?_;intro x sc ⟨Hc,b9⟩;obtain⟨⟨R,c6⟩,C⟩:=b9;rcases bf x i with p|p
   have S:((x:Int)<(i:Int))=True:=bO om;refine nN Hc @C.top u S G ?_;refine az (λ(j:Nat)r3=>(r3.sl 4=.own 15 1/\r3.sl 7=al L/\r3.sl 8=al a/\r3.sl 11=al x/\r3.sl 12=al j)/\((a<j/\j<=t)/\TabI r3.rw 15 1 29 3 q1 (cz i t (rC E a L x j)))) (λj=>t-j) (a+1) ⟨(gE Hc G),⟨⟨om,om⟩,(C.same gl (λx=>gl)).to (dV λi' j _ _=>zjr.symm)⟩⟩ ?_;intro j sd ⟨D,c0⟩;obtain⟨⟨c3,c7⟩,z⟩:=c0;have I:=z.row (i:=x) (by rw[b];exact p);have a2:=z.row (i:=a) (by rw[b];exact f);have J:=cr (m:=t) (e:=rC E a L x j) p;have a3:=cr (m:=t) (e:=rC E a L x j) f;rcases bf j t with A|A
   have U:((j:Int)<(t:Int))=True:=bO om;have v1:lg (lg (cz i t (rC E a L x j)) x []) j 0=E x j:=by rw[dz p A,zqK (ab j)]
   have v2:lg (lg (cz i t (rC E a L x j)) a []) a 0=E a a:=by rw[dz f o,zbF R]
   have v3:lg (lg (cz i t (rC E a L x j)) x []) a 0=E x a:=by rw[dz p o,znp]
   have v4:lg (lg (cz i t (rC E a L x j)) a []) j 0=E a j:=by rw[dz f A,zbF R]
   have m1:=Yd (H x j om p om A) 2 (H a a (ab a) f (ab a) o);have m2:=Yd (H x a om p (ab a) o) 2 (H a j (ab a) f om A);have w1:D0.i64.wrap (E x j*E a a)=E x j*E a a:=aF om om;have w2:D0.i64.wrap (E x a*E a j)=E x a*E a j:=aF om om;have w3:D0.i64.wrap (E x j*E a a-E x a*E a j)=E x j*E a a-E x a*E a j:=aF om om;have a4:(E x j*E a a-E x a*E a j).tdiv L=crs E a L x j:=rfl;have w4:D0.i64.wrap (crs E a L x j)=crs E a L x j:=by have:=Int.natAbs_tdiv_le_natAbs (E x j*E a a-E x a*E a j) L;rw[a4]at this;exact aF om om
   simp -dsimp only[↓gp,gq,simprocAttr,gT,D,z.top,u,U,I,a2,J,a3,v1,v2,v3,v4,w1,w2,w3,b8,a4,w4];refine⟨p,p,kr,p,p,p,p,A,f,f,o,o,p,p,o,o,f,f,A,a1,om,kr,ah (j+1) ⟨(gE D (ak A om)),⟨⟨om,om⟩,?_⟩⟩⟩;have V:cz i t (rC E a L x (j+1))=(cz i t (rC E a L x j)).set x ((lg (cz i t (rC E a L x j)) x []).set j (crs E a L x j)):=by rw[vc p];exact dV λi' j' _ _=>(znq om).symm
   rw[V];exact z.set (by rw[b];exact p) (rp D) (rp D) (λy hy=>by simp -dsimp only[gr,simprocAttr,D,hy]);have U:((j:Int)<(t:Int))=False:=aX om;obtain rfl:j=t:=om;refine XO D @z.top u U I a2 J a3 ?_;refine⟨p,p,p,p,o,om,ah (x+1) ⟨(fB Hc D (ak p om)),⟨⟨om,om⟩,?_⟩⟩⟩;have V:cz i j (MD E a L (x+1))=(cz i j (rC E a L x j)).set x ((lg (cz i j (rC E a L x j)) x []).set a 0):=by rw[vc p];exact dV λi' j' _ h'=>(znr R h').symm
   rw[V];exact z.set (by rw[b];exact p) (rp D) (rp D) (λy hy=>by simp -dsimp only[gr,simprocAttr,D,hy]);have S:((x:Int)<(i:Int))=False:=aX om;obtain rfl:x=i:=om;have I:=C.row (i:=a) (by rw[b];exact f);have J:=cr (m:=t) (e:=MD E a L x) f;have v1:lg (lg (cz x t (MD E a L x)) a []) a 0=n r2 m:=by rw[dz f o,znn (ab a),b7]
   refine xA Hc @C.top u S I J v1 ?_;exact⟨f,f,o,o,ah ((a+1,MD E a L x,q1,n r2 m)) ⟨(fB O Hc G),⟨⟨(n r2 m).natAbs,f5,Int.natAbs_eq _⟩,by rw[w,show x+1-(a+1)=x-a by omega],C.same gl (λx=>gl)⟩⟩⟩
theorem vH(b:m<=1000)(l:k<=1000):AC prog 326 [al m,al k] (.im (al (Nat.gcd m k:Nat))):=by
 refine cA [.tmp 4] func326 λq=>?_;refine aR ?_;refine az (λ((x,y):Nat×Nat) s=>(s.sl 0=al x/\s.sl 1=al y)/\(Nat.gcd x y=Nat.gcd m k/\x<=1000/\y<=1000)) (λ(x,y)=>y) ((m,k)) ⟨nm,⟨rfl,b,l⟩⟩ ?_;intro(x,y) r ⟨c,d⟩;obtain⟨e,t,n⟩:=d;rcases tg y with f|f
 subst f;rw[Nat.gcd_zero_right]at e;have o:((0:Int) != 0)=false:=rfl;exact RY c o e;have g:((y:Int) != 0)=true:=bne_iff_ne.2 om;have i:(x:Int).tmod (y:Int)=((x%y:Nat):Int):=by rw[mA om];exact(wo x y).symm
 have p:=xq x f;have j:D0.i64.wrap ((x%y:Nat):Int)=((x%y:Nat):Int):=aF om om;have h:((y:Int)==0)=false:=beq_eq_false_iff_ne.2 om;refine nN c g i j h ?_;exact⟨kr,om,ah ((y,x%y)) ⟨(fB c i j),⟨by rw[<- e,Nat.gcd_comm x y,Nat.gcd_rec y x,Nat.gcd_comm],n,om⟩⟩⟩
theorem HK(H:k<=900)(I:s<=900)(A:t<=k)(n:t<=s)(D:∀i j,t<=i->i<k->t<=j->j<s->e i j=0\/e i j=1):AC prog 324 [hY (cz k s e),al t] (.tup [.im (al (Vr (th (yV e) t s (k-t)))),.im (al (Vu (th (yV e) t s (k-t))))]):=by
 refine cA [.tmp 4,.tmp 5] func324 λS=>?_;have d:=fw (n:=k) (m:=s) (e:=e);refine aR (aa (rP e k s t H I A n) ?_);refine aR ?_;refine az (λ(a:Nat)m=>(m.sl 0=hY (cz k s e)/\m.sl 1=al t/\m.sl 6=al (Vr (th (yV e) t s (k-t)))/\m.sl 7=al (Vu (th (yV e) t s (k-t)))/\m.sl 8=al (t+a:Nat))/\(t+a<=k)) (λa=>k-a) (0) ⟨nm,om⟩ ?_;intro a U ⟨y,J⟩;rcases bf (t+a) k with b|b
 have l:(((t+a:Nat):Int)<(k:Int))=True:=bO om;have o:=cr (m:=s) (e:=e) b;refine ox y @bU d l ?_;refine az (λ(u:Nat)m=>(m.sl 0=hY (cz k s e)/\m.sl 1=al t/\m.sl 6=al (Vr (th (yV e) t s (k-t)))/\m.sl 7=al (Vu (th (yV e) t s (k-t)))/\m.sl 8=al (t+a:Nat)/\m.sl 9=al (t+u:Nat))/\(t+u<=s)) (λu=>s-u) (0) ⟨(jX y),om⟩ ?_;intro u V ⟨p,K⟩;rcases bf (t+u) s with h|h
 have E:=dz (e:=e) b h;have f:(((t+u:Nat):Int)<(s:Int))=True:=bO om;have z:D0.i64.wrap (((t+u:Nat):Int)+1)=((t+(u+1):Nat):Int):=ak h om;rcases D _ _ om b om h with B|B
 refine xA p @bU d o f E B ?_;exact⟨b,b,kr,b,b,h,ah (u+1) ⟨(gE p z),om⟩⟩;cases g:th (yV e) t s (k-t)with
 | none =>have:=Ll A n g _ _ (show t<=t+a by omega) b (show t<=t+u by omega) h;omega
 | some L =>
   obtain⟨r,c⟩:=L;obtain⟨q,w,M,_⟩:=zdG A n g;have N:e r c=1:=(D r c q.1 q.2 w.1 w.2).resolve_left M;have F:Vr (th (yV e) t s (k-t))=(r:Int):=by rw[g];rfl
   have G:Vu (th (yV e) t s (k-t))=(c:Int):=by rw[g];rfl
   have O:Vr (n0 (r,c))=(r:Int):=rfl;have P:Vu (n0 (r,c))=(c:Int):=rfl;have C:=dz (e:=e) q.2 w.2;have x:=cr (m:=s) (e:=e) q.2;have Q:((1:Int) != 0)=true:=rfl;have R:((1:Int)<1)=False:=aX om;simp -dsimp only[↓gp,gq,simprocAttr,gT,p,bU,d,o,f,E,B,F,G,O,P,Q,R,C,x,N];exact⟨b,b,kr,b,b,h,b,b,h,q.2,q.2,w.2,w.2,ah (u+1) ⟨(rS p F G z),om⟩⟩
 have f:(((t+u:Nat):Int)<(s:Int))=False:=aX om;have z:D0.i64.wrap (((t+a:Nat):Int)+1)=((t+(a+1):Nat):Int):=ak b om;refine nN p @bU d o f ?_;exact⟨b,b,ah (a+1) ⟨(fB y p z),om⟩⟩;have l:(((t+a:Nat):Int)<(k:Int))=False:=aX om;exact Rc y @bU d l
set_option maxRecDepth 100000 in
theorem FJ(hn:k<=900)(hm:s<=900)(c:t<k)(l:t<s)(h1:e t t=1)(Q:HL k s e) :
 AT prog 325 [.own 1000000 1,al t,al 2] 29 3 ((cz k s e).map iL) ((cz k s (Tb e k s t)).map iL) (.rv (.im (aU k0))):=by
 have b:=λe=>fw (n:=k) (m:=s) (e:=e)
 refine AT.goI (rs:=[.tmp 6]) tk mixed func325 rfl rfl rfl kr (by rw[b,b]) λhl m hs a0 ht=>?_
 rw[b]at ht ⊢
 have f:∀i,i<k->lg (lc k) i 0=i:=λi hi=>by simp[lg,hi]
 have o:lh (lc k)=k:=bp
 have R:D0.i64.wrap ((t:Int)+1)=((t+1:Nat):Int):=ak c om
 refine iD hs a0 R ?_
 refine az (λ(i:Nat)m=>(m.sl 0=.own 1000000 1/\m.sl 1=al t/\m.sl 2=al 2/\m.sl 7=.v (.bool k0)/\m.sl 8=al i)/\((t<i/\i<=k)/\TabI m.rw 1000000 1 29 3 (lc k) (cz k s (Kv e t i)))) (λi=>k-i) (t+1) ⟨(gE hs R),⟨⟨om,om⟩,(ht.same gl (λx=>gl)).to (dV λi j _ _=>(ac om).symm)⟩⟩ ?_
 intro i sa ⟨Y,a4⟩
 obtain⟨⟨S,b4⟩,D⟩:=a4
 rcases bf i k with h|h
 have U:((i:Int)<(k:Int))=True:=bO om;have F:=D.row (i:=i) (by rw[b];exact h);have a1:=D.row (i:=t) (by rw[b];exact c);rw[f i h]at F;rw[f t c]at a1;have M:=cr (m:=s) (e:=Kv e t i) h;have a5:=cr (m:=s) (e:=Kv e t i) c;have v1:lg (lg (cz k s (Kv e t i)) i []) t 0=e i t:=by rw[dz h l,znu (ab i)]
 have v2:lg (lg (cz k s (Kv e t i)) t []) t 0=1:=by rw[dz c l,OH (ab t),h1]
 have V:=Q i t h l;have H:(e i t).tdiv 1=e i t:=Int.tdiv_one _;have I:D0.i64.wrap (e i t)=e i t:=aF om om;simp -dsimp only[↓gp,gq,simprocAttr,gT,Y,D.top,o,U,F,a1,f i h,f t c,M,a5,v1,v2,H,I]
 repeat refine⟨by first|omega|assumption|kernel_rfl,?_⟩
 refine az (λ(j:Nat)m=>(m.sl 0=.own 1000000 1/\m.sl 1=al t/\m.sl 2=al 2/\m.sl 7=.v (.bool k0)/\m.sl 8=al i/\m.sl 9=al (e i t)/\m.sl 10=al j)/\(((t<=j/\j<=s)/\(e i t=0->j=t))/\TabI m.rw 1000000 1 29 3 (lc k) (cz k s (UF e t i j)))) (λj=>s-j) (t) ⟨(fB Y H I),⟨⟨⟨om,om⟩,λ_=>rfl⟩,(D.same gl (λx=>gl)).to (dV λp w _ _=>zbH.symm)⟩⟩ ?_;intro j sb ⟨K,a6⟩;obtain⟨⟨⟨N,a7⟩,a8⟩,d⟩:=a6;have g:=d.row (i:=i) (by rw[b];exact h);have J:=d.row (i:=t) (by rw[b];exact c);rw[f i h]at g;rw[f t c]at J;have a:=cr (m:=s) (e:=UF e t i j) h;have O:=cr (m:=s) (e:=UF e t i j) c;by_cases P:j<s/\e i t=1
 obtain⟨q,A⟩:=P;have u:((j:Int)<(s:Int))=True:=bO om;have B:(e i t != 0)=true:=by rw[A];rfl
 have v3:lg (lg (cz k s (UF e t i j)) i []) j 0=e i j:=by rw[dz h q,ztS (ab j)]
 have v4:lg (lg (cz k s (UF e t i j)) t []) j 0=e t j:=by rw[dz c q,ztR S]
 have s1:=Q i j h q;have s2:=Q t j c q;have w1:D0.i64.wrap (e i t*e t j)=e i t*e t j:=by rw[A];exact aF om om
 have w2:D0.i64.wrap (e i j-e i t*e t j)=e i j-e i t*e t j:=by rw[A];exact aF om om
 simp -dsimp only[↓gp,gq,simprocAttr,gT,K,d.top,o,u,B,g,J,f i h,f t c,a,O,v3,v4,w1,w2]
 repeat refine⟨by first|omega|assumption|kernel_rfl,?_⟩
 refine aa (oS _ 2 om) ?_;simp -dsimp only[↓gp,gq,simprocAttr,gT,K,d.top,o,u,B,g,J,f i h,f t c,a,O,v3,v4,w1,w2];have e2:(e i j-e i t*e t j)%2=(e i j+e i t*e t j)%2:=om;refine⟨om,kr,ah (j+1) ⟨(gE K (ak q om)),⟨⟨⟨om,om⟩,λC=>om⟩,?_⟩⟩⟩;have W:cz k s (UF e t i (j+1))=(cz k s (UF e t i j)).set i ((lg (cz k s (UF e t i j)) i []).set j ((e i j-e i t*e t j)%2)):=by rw[vc h,e2];exact dV λp w _ _=>(zqO N).symm
 rw[W];exact d.set (by rw[b];exact h) (rp K) (by rw[f i h];simp -dsimp only[gr,simprocAttr,K]) (λx hx=>by rw[f i h]at hx;simp -dsimp only[gr,simprocAttr,K,hx])
 have r:∀p w,w<s->UF e t i j p w=Kv e t (i+1) p w:=λp w Z=>by rcases V with C|C;rw[a8 C,zbH];exact znw Q h C Z;obtain rfl:j=s:=om;exact zqP S Z
 have v5:lg (lg (cz k s (UF e t i j)) i []) t 0=0:=by rw[dz h l,r i t l];exact zhE h1 V S (dD i)
 have X:(decide ((j:Int)<(s:Int))=l0\/(decide ((j:Int)<(s:Int))=k0/\(e i t != 0)=l0)):=by rcases V with C|C;rcases bf j s with q|q;exact .inr ⟨ay om,by rw[C];rfl⟩;exact .inl (aD om);exact .inl (aD om)
 rcases X with q|⟨q,h3⟩
 have u:((j:Int)<(s:Int))=False:=aX (of_decide_eq_false q);simp -dsimp only[↓gp,gq,simprocAttr,gT,K,d.top,o,u,g,J,f i h,f t c,a,O,v5];exact⟨h,h,h,h,l,l,ah (i+1) ⟨(fB Y K (ak h om)),⟨⟨om,om⟩,(d.same gl (λx=>gl)).to (dV λp w _ Z=>r p w Z)⟩⟩⟩
 have u:((j:Int)<(s:Int))=True:=bO (cH q);simp -dsimp only[↓gp,gq,simprocAttr,gT,K,d.top,o,u,h3,g,J,f i h,f t c,a,O,v5];exact⟨h,h,h,h,l,l,ah (i+1) ⟨(fB Y K (ak h om)),⟨⟨om,om⟩,(d.same gl (λx=>gl)).to (dV λp w _ Z=>r p w Z)⟩⟩⟩
 obtain rfl:i=k:=om;have U:((i:Int)<(i:Int))=False:=aX om;refine nN Y @D.top o U R ?_;have eA:∀j,Kv e t i t j=e t j:=λj=>OH (ab t);have eC:∀p,t<p->p<i->Kv e t i p t=0:=λp b0 a2=>zhE h1 (Q p t a2 l) b0 a2;have eB:HL i s (Kv e t i):=zbI Q;have b1:Tb e i s t=FK (Kv e t i) t s:=rfl;rw[b1];generalize Kv e t i=E at *;refine az (λ(j:Nat)m=>(m.sl 0=.own 1000000 1/\m.sl 1=al t/\m.sl 2=al 2/\m.sl 7=.v (.bool k0)/\m.sl 11=al j)/\((t<j/\j<=s)/\TabI m.rw 1000000 1 29 3 (lc i) (cz i s (FK E t j)))) (λj=>s-j) (t+1) ⟨(jX Y),⟨⟨om,om⟩,(D.same gl (λx=>gl)).to (dV λi j _ _=>znA.symm)⟩⟩ ?_;intro j sc ⟨Hc,b2⟩;obtain⟨⟨N,a7⟩,d⟩:=b2;have F:=d.row (i:=t) (by rw[b];exact c);rw[f t c]at F;have M:=cr (m:=s) (e:=FK E t j) c;rcases bf j s with q|q
 have u:((j:Int)<(s:Int))=True:=bO om;have v1:lg (lg (cz i s (FK E t j)) t []) j 0=e t j:=by rw[dz c q,znz (ab j),eA]
 have v2:lg (lg (cz i s (FK E t j)) t []) t 0=1:=by rw[dz c l,zd9 (ab t),eA,h1]
 have a3:=Q t j c q;have H:(e t j).tdiv 1=e t j:=Int.tdiv_one _;have I:D0.i64.wrap (e t j)=e t j:=aF om om;simp -dsimp only[↓gp,gq,simprocAttr,gT,Hc,d.top,o,u,F,f t c,M,v1,v2,H,I]
 repeat refine⟨by first|omega|assumption|kernel_rfl,?_⟩
 refine az (λ(n:Nat)m=>(m.sl 0=.own 1000000 1/\m.sl 1=al t/\m.sl 2=al 2/\m.sl 7=.v (.bool k0)/\m.sl 11=al j/\m.sl 12=al (e t j)/\m.sl 13=al n)/\(((t<=n/\n<=i)/\(e t j=0->n=t))/\TabI m.rw 1000000 1 29 3 (lc i) (cz i s (FK E t (if n=t then j else j+1))))) (λn=>i-n) (t) ⟨(fB Hc H I),⟨⟨⟨om,om⟩,λ_=>rfl⟩,by rw[ae rfl];exact d.same gl (λx=>gl)⟩⟩ ?_;intro n sd ⟨L,b3⟩;obtain⟨⟨⟨b5,b6⟩,b7⟩,y⟩:=b3;by_cases P:n<i/\e t j=1
 obtain⟨h,A⟩:=P;have G:((n:Int)<(i:Int))=True:=bO om;have B:(e t j != 0)=true:=by rw[A];rfl
 have g:=y.row (i:=n) (by rw[b];exact h);rw[f n h]at g;have a:=cr (m:=s) (e:=FK E t (if n=t then j else j+1)) h;have v3:lg (lg (cz i s (FK E t (if n=t then j else j+1))) n []) j 0=E n j:=by rw[dz h q];split;rename_i z;rw[z,znz (ab j)];rename_i z;exact WG z
 have v4:lg (lg (cz i s (FK E t (if n=t then j else j+1))) n []) t 0=E n t:=by rw[dz h l,zd9 (ab t)]
 have s1:=eB n j h q;have s2:(n=t/\E n t=1/\E n j=1)\/(t<n/\E n t=0):=by rcases bf t n with h3|h3;exact .inr ⟨h3,eC n h3 h⟩;obtain rfl:n=t:=om;exact .inl ⟨rfl,by rw[eA,h1],by rw[eA,A]⟩
 have w1:D0.i64.wrap (e t j*E n t)=E n t:=by rw[A,jL];exact aF om om
 have w2:D0.i64.wrap (E n j-E n t)=E n j-E n t:=aF om om;simp -dsimp only[↓gp,gq,simprocAttr,gT,L,y.top,o,G,B,g,f n h,a,v3,v4,w1,w2]
 repeat refine⟨by first|omega|assumption|kernel_rfl,?_⟩
 refine aa (oS _ 2 om) ?_;simp -dsimp only[↓gp,gq,simprocAttr,gT,L,y.top,o,G,B,g,f n h,a,v3,v4,w1,w2];have e2:(E n j-E n t)%2=if n=t then 0 else E n j:=by split<;>omega
 refine⟨q,om,kr,ah (n+1) ⟨(gE L (ak h om)),⟨⟨⟨om,om⟩,λC=>om⟩,?_⟩⟩⟩;have W:cz i s (FK E t (if n+1=t then j else j+1))=(cz i s (FK E t (if n=t then j else j+1))).set n ((lg (cz i s (FK E t (if n=t then j else j+1))) n []).set j ((E n j-E n t)%2)):=by rw[vc h,e2,ac (show ¬n+1=t by omega)];by_cases z:n=t;subst z;rw[ae rfl,ae rfl];exact dV λp w _ _=>(zqQ N).symm;rw[ac z,ac z];exact dV λp w _ _=>(zjt (WG z)).symm
 rw[W];exact y.set (by rw[b];exact h) (rp L) (by rw[f n h];simp -dsimp only[gr,simprocAttr,L]) (λx hx=>by rw[f n h]at hx;simp -dsimp only[gr,simprocAttr,L,hx])
 have r:∀p w,FK E t (if n=t then j else j+1) p w=FK E t (j+1) p w:=λp w=>by
  split;rename_i z;rcases a3 with C|C
  exact znB (by rw[eA,C]);omega;rfl
 have g:=y.row (i:=t) (by rw[b];exact c);rw[f t c]at g;have a:=cr (m:=s) (e:=FK E t (if n=t then j else j+1)) c;have v5:lg (lg (cz i s (FK E t (if n=t then j else j+1))) t []) j 0=0:=by rw[dz c q,r];exact ae ⟨rfl,N,dD j⟩
 rcases bf n i with h|h
 have G:((n:Int)<(i:Int))=True:=bO om;have B:(e t j != 0)=false:=by rcases a3 with C|C;rw[C];rfl;exact absurd ⟨h,C⟩ P
 simp -dsimp only[↓gp,gq,simprocAttr,gT,L,y.top,o,G,B,g,f t c,a,v5];exact⟨c,c,q,q,ah (j+1) ⟨(fB Hc L (ak q om)),⟨⟨om,om⟩,(y.same gl (λx=>gl)).to (dV λp w _ _=>r p w)⟩⟩⟩
 have G:((n:Int)<(i:Int))=False:=aX om;refine XO L @y.top o G g (f t c) a v5 ?_;exact⟨c,c,q,q,ah (j+1) ⟨(fB Hc L (ak q om)),⟨⟨om,om⟩,(y.same gl (λx=>gl)).to (dV λp w _ _=>r p w)⟩⟩⟩
 have u:((j:Int)<(s:Int))=False:=aX om;obtain rfl:j=s:=om;refine xA Hc @d.top o u F (f t c) M ?_;refine⟨c,c,pT (d.same gl (λx=>gl)) (List.Perm.refl _)⟩
theorem zjs(e:X0):nw n (cz k s e)=cz k s λi j=>e i j%n:=by simp[nw,cz]
theorem ztP(a:d=1\/d=2){b:Bool}(c:x=if b then 1 else 0):((Nat.gcd d x.toNat:Nat):Int)=if b then 1 else(d:Int):=by rcases a with rfl|rfl<;>cases b<;>simp[c]
theorem zqM{b t N i j:Nat}(e:t=1\/t=2)(c:i<=j)(d:j<N):((Nat.gcd (lg (AN b t N) i 0).toNat (lg (AN b t N) j 0).toNat:Nat):Int)=lg (AN b t N) i 0/\(lg (AN b t N) i 0=1\/(AN b t N).getD i 0=2)/\(lg (AN b t N) j 0=1\/(AN b t N).getD j 0=2):=by rw[OI<|om,OI d];by_cases a:i<b;simp[a];omega;grind
theorem zbG:l.set d (lg l d 0)=l:=by refine bE sp λj b a=>?_;grind
theorem ztQ{ T:gg}{rw:S0}{a:PV->Prop}{e:TypeId}(fr:Bool)(c:M0)(x y:Operand)(b:(T e).size=1):tT T rw h.ev (.sli e) 1 (.sl fr 1 c) o0 (n0 x) (n0 y) a=ya (h.ev x) (kk λs=>ya (h.ev y) (kk λm=>0<=s/\s<=m/\m<=(lh c:Int)/\a (.sl fr 1 (c.take s.toNat)))):=by simp[tT,re,rZ,ya,kk];grind
set_option maxRecDepth 100000 in
theorem Db(hn:k<=20)(hm:s<=20)(G:0<k)(ht:t=1\/t=2)(hr:r<=k/\r<=s)(h2:c<=s)(hK:K2 (λi j=>e i j%(t:Int)) 0 k s c):AC prog 290 [hY (cz k s e),al r,al t] (.im (aE (AN c t r))):=by
 refine cA [.tmp 6] func290 λhl=>?_;have a:=λZ=>fw (n:=k) (m:=s) (e:=Z);have b4:t=1->∀i j,e i j%(t:Int)=0:=λh i j=>by rw[h];exact Int.emod_one _
 have E:=uS (cz k s e) t om (by rw[a];omega) (λi hi=>by rw[a]at hi;rw[cr hi];omega);rw[zjs]at E;have H:=MW.start hK ht;generalize hE:(λi j=>e i j%(t:Int))=e1 at *;have a0:=a e1;refine aR ?_;refine HI E (λi hi=>gl) λS f d1 p w1=>?_;rw[a0]at f;have f:TabI S.rw 19 1 29 3 (lc k) (cz k s e1):=f;have u1:S.sl 1=al r:=by rw[p 1 dc];simp -dsimp only[gr,simprocAttr]
 have u2:S.sl 2=al t:=by rw[p 2 dc];simp -dsimp only[gr,simprocAttr]
 clear p w1;have b5:=f.row (i:=0) (by rw[a0];exact G);have b6:=cr (m:=s) (e:=e1) G;have b7:lh (lc k)=k:=bp;generalize hN:min k s=N at *;have a1:(if s<k then(s:Int)else(k:Int))=(N:Int):=by split<;>omega
 simp -dsimp only[↓gp,gq,simprocAttr,gT,d1,u1,u2,f.top,b7,b5,b6,a1];refine⟨om,G,?_⟩;refine az (λ((n,Z,q):Nat×(X0)×O0) m=>(m.sl 1=al r/\m.sl 2=al t/\m.sl 7=.own 19 1/\m.sl 8=al N/\m.sl 9=al n)/\((n<=N/\(∃b,MW k s c b n Z)/\(t=1->∀i j,i<k->j<s->Z i j=0))/\TabI m.rw 19 1 29 3 q (cz k s Z))) (λ(n,Z,q)=>N-n) ((0,e1,lc k)) ⟨(by and_intros<;>(first|(simp -dsimp only[gr,simprocAttr,d1,u1,u2,a1];first|done|rfl|(simp;done))|assumption|rfl)),⟨⟨om,⟨0,H⟩,λh i j _ _=>by rw[<- hE];exact b4 h i j⟩,f.same gl (λx=>gl)⟩⟩ ?_;intro(n,Z,q) sa ⟨U,b8⟩;obtain⟨⟨d5,⟨b,z⟩,a2⟩,hT⟩:=b8;rcases bf n N with hk|hk
 have I:((n:Int)<(N:Int))=True:=bO om;refine ff U I ?_;refine az (λ(x:Nat)m=>(m.sl 1=al r/\m.sl 2=al t/\m.sl 7=.own 19 1/\m.sl 8=al N/\m.sl 9=al n)/\(TabI m.rw 19 1 29 3 q (cz k s Z))) (λx=>0) (0) ⟨(jX U),hT.same gl (λx=>gl)⟩ ?_;intro x sb ⟨A,b9⟩;have d:=b9;have J:=vG d;refine iD A @d.top J ?_;refine aa (HK Z k s n om om om om λi j _ i2 _ j2=>z.bt i j i2 j2) ?_;cases a3:th (yV Z) n s (k-n)with
 | none =>
   have K:Vr o0=-1:=rfl;have L:Vu o0=-1:=rfl;have hz:∀i j,b<=i->i<k->b<=j->j<s->Z i j=0:=by rcases z.zr with V|V;subst V;exact Ll om om a3;exact V
   refine nN A @d.top J K L ?_;exact ah ((n+1,Z,q)) ⟨(fB U A (ak hk om)),⟨⟨by dsimp only;omega,⟨b,z.skip hz⟩,a2⟩,d.same gl (λx=>gl)⟩⟩
 | some rc =>
   obtain⟨x,y⟩:=rc;obtain⟨f1,f2,f3,_⟩:=zdG om om a3;have V:Z x y=1:=(z.bt x y f1.2 f2.2).resolve_left f3;have c0:b=n:=by rcases z.zr with B|B;exact B;have:=z.ba;exact absurd (B x y om f1.2 om f2.2) f3
   subst c0;have c3:t=2:=ht.resolve_left λB=>f3 (a2 B x y f1.2 f2.2);subst c3;have K:Vr (n0 (x,y))=(x:Int):=rfl;have L:Vu (n0 (x,y))=(y:Int):=rfl;have c4:((x:Int)<0)=False:=aX om;refine Cn A @d.top J K L c4 ?_;refine LM (BJ Z k s b x y om om om om f1.2 f2.2) (by repeat (first|exact GiveL.nil|refine GiveL.v ?_|refine GiveL.clo ?_|refine GiveL.own 0 rfl ?_|refine GiveL.own 1 rfl ?_|refine GiveL.ag ?_ ?_)) (d.same gl (λx=>gl)) (by rw[a,a]) dc λS1 q1 a4 M p w1=>?_;have y1:S1.sl 1=al r:=by rw[p 1 dc];simp -dsimp only[gr,simprocAttr,A]
   have y2:S1.sl 2=al (2:Nat):=by rw[p 2 dc];simp -dsimp only[gr,simprocAttr,A]
   have y7:S1.sl 7=.own 19 1:=by rw[p 7 dc];simp -dsimp only[gr,simprocAttr,A]
   have y8:S1.sl 8=al N:=by rw[p 8 dc];simp -dsimp only[gr,simprocAttr,A]
   have y9:S1.sl 9=al b:=by rw[p 9 dc];simp -dsimp only[gr,simprocAttr,A]
   clear p w1;refine Cn y1 y2 y7 y8 y9 @a4.top ?_;refine zd4 (FJ (piv Z b x y) k s b om om om om (by rw[wS,V]) (zbJ z.bt om om)) (by repeat (first|exact GiveL.nil|refine GiveL.v ?_|refine GiveL.clo ?_|refine GiveL.own 0 rfl ?_|refine GiveL.own 1 rfl ?_|refine GiveL.ag ?_ ?_)) (a4.same gl (λx=>gl)) (by rw[a,a]) dc λS2 q2 a5 d6 d2 W w2=>?_;have z1:S2.sl 1=al r:=by rw[W 1 dc];simp -dsimp only[gr,simprocAttr,y1]
   have z2:S2.sl 2=al (2:Nat):=by rw[W 2 dc];simp -dsimp only[gr,simprocAttr,y2]
   have z7:S2.sl 7=.own 19 1:=by rw[W 7 dc];simp -dsimp only[gr,simprocAttr,y7]
   have z8:S2.sl 8=al N:=by rw[W 8 dc];simp -dsimp only[gr,simprocAttr,y8]
   have z9:S2.sl 9=al b:=by rw[W 9 dc];simp -dsimp only[gr,simprocAttr,y9]
   clear W w2;simp -dsimp only[↓gp,gq,simprocAttr,gT,d2,z1,z2,z7,z8,z9,a5.top];exact ah ((b+1,Tb (piv Z b x y) k s b,q2)) ⟨(by and_intros<;>(first|(simp -dsimp only[gr,simprocAttr,U,d2,z1,z2,z7,z8,z9,ak hk om];first|done|rfl|(simp;done))|assumption|rfl)),⟨⟨by dsimp only;omega,⟨b+1,z.step f1 f2 V⟩⟩,a5.same gl (λx=>gl)⟩⟩
 obtain rfl:n=N:=om;have I:((n:Int)<(n:Int))=False:=aX om;subst hN;obtain⟨_,c5⟩:=z.fin h2;have d7:min k s<=k:=Nat.min_le_left k s;have d8:min k s<=s:=Nat.min_le_right k s;generalize min k s=N at *;have hz:ld N 0=pz (AN c t N) (ld N 0) 0:=(qB _ _).symm;have O:lh (AN c t N)=(ld N (0:Int)).length:=by rw[Dc,cX]
 have a6:lh (ld N (0:Int))=N:=cX;have a7:∀n,lh (pz (AN c t N) (ld N 0) n)=N:=λn=>by rw[mm O,cX]
 refine ff U I ?_;refine⟨om,om,?_⟩;refine az (λ((n,v):Nat×Nat) m=>(m.sl 1=al r/\m.sl 2=al t/\m.sl 7=.own 19 1/\m.sl 8=al N/\m.sl 12=.own 50 v/\m.rw 50=⟨v,.sli 3 1 l0 (iL (pz (AN c t N) (ld N 0) n))⟩/\m.sl 52=al N/\m.sl 53=al n)/\(n<=N/\TabI m.rw 19 1 29 3 q (cz k s Z))) (λ(n,v)=>N-n) ((0,(sa.rw 50).ver+1)) ⟨(fB U a6 hz.symm),⟨om,hT.same gl (λx=>gl)⟩⟩ ?_;intro(n,v) sc ⟨X,c6⟩;obtain⟨d9,d⟩:=c6;rcases bf n N with h|h
 have C:((n:Int)<(N:Int))=True:=bO om;have o:=d.row (i:=n) (by rw[a];omega);have a8:=cr (m:=s) (e:=Z) (show n<k by omega);have vk:=dz (n:=k) (m:=s) (e:=Z) (i:=n) (j:=n) om om;have F:lh q=k:=by rw[d.len,a]
 have P:=c5 n h;have c7:Z n n=((Z n n).toNat:Int):=by rw[P];split<;>rfl
 have b0:(Z n n).toNat<=1000:=by rw[P];split<;>decide
 have g:=vH t (Z n n).toNat om b0;rw[<- c7,ztP ht (b:=decide (n<c)) (by rw[P];simp)]at g;have c8:(if(decide (n<c))=k0 then(1:Int)else(t:Int))=lg (AN c t N) n 0:=by rw[OI h];simp
 rw[c8]at g;refine XO X C a7 @d.top o a8 vk F ?_;refine⟨om,om,om,om,aa g ?_⟩;refine XO X C a7 @d.top o a8 vk F ?_;have H:=tF O (by rw[cX];exact h);exact⟨h,ah ((n+1,v)) ⟨(rS X X (ak h om) H),⟨by dsimp only;omega,d.same gl (λx=>gl)⟩⟩⟩;obtain rfl:n=N:=om;have C:((n:Int)<(n:Int))=False:=aX om;have b1:pz (AN c t n) (ld n 0) n=AN c t n:=by have:=tE O;rwa [cX]at this
 have l:=Dc c t n;refine ox X C b1 l ?_;refine az (λ((i,w):Nat×Nat) m=>(m.sl 1=al r/\m.sl 2=al t/\m.sl 8=al n/\m.sl 12=.own 50 w/\m.rw 50=⟨w,.sli 3 1 l0 (iL (AN c t n))⟩/\m.sl 70=al n/\m.sl 71=al i)/\(i<=n)) (λ(i,w)=>n-i) ((0,v)) ⟨(fB X b1 l),om⟩ ?_;intro(i,w) sd ⟨Hd,e2⟩;rcases bf i n with h3|h3
 have Q:((i:Int)<(n:Int))=True:=bO om;have R:D0.i64.wrap ((i:Int)+1)=((i+1:Nat):Int):=ak h3 om;refine iD Hd Q R ?_;refine az (λ((j,u):Nat×Nat) m=>(m.sl 1=al r/\m.sl 2=al t/\m.sl 8=al n/\m.sl 12=.own 50 u/\m.rw 50=⟨u,.sli 3 1 l0 (iL (AN c t n))⟩/\m.sl 70=al n/\m.sl 71=al i/\m.sl 14=al i/\m.sl 15=al j)/\(i<j/\j<=n)) (λ(j,u)=>n-j) ((i+1,w)) ⟨(gE Hd R),⟨om,om⟩⟩ ?_;intro(j,u) se ⟨Y,c9⟩;obtain⟨d0,e3⟩:=c9;rcases bf j n with B|B
 have D:((j:Int)<(n:Int))=True:=bO om;obtain⟨p1,p2,p3⟩:=zqM (b:=c) ht (dY d0) B;have g:=vH (lg (AN c t n) i 0).toNat (lg (AN c t n) j 0).toNat om om;rw[p1,BH om,BH om]at g;refine iD Y D l ?_;have M:(lg (AN c t n) i 0).tdiv (lg (AN c t n) i 0)=1:=Int.tdiv_self om;have d3:(lg (AN c t n) i 0==0)=false:=beq_eq_false_iff_ne.2 om;have b2:D0.i64.wrap (1*(AN c t n).getD j 0)=lg (AN c t n) j 0:=by rw[jL];exact aF om om
 have b3:D0.i64.wrap 1=1:=rfl;refine⟨kr,om,om,om,aa g ?_⟩;refine XO Y D l M d3 b2 b3 @zbG ?_;exact⟨kr,om,om,om,om,om,kr,om,om,ah ((j+1,u)) ⟨(Sx Y Y (ak B om) M b2 b3 @zbG),⟨by dsimp only;omega,by dsimp only;omega⟩⟩⟩;have D:((j:Int)<(n:Int))=False:=aX om;refine iD Y D l ?_;exact ah ((i+1,u)) ⟨(fB Hd Y R),by dsimp only;omega⟩;have Q:((i:Int)<(n:Int))=False:=aX om;have e4:(T 3).size=1:=rfl;have o:r<=n:=om;have d4:=znC (b:=c) (t:=t) o;refine xA Hd Q l @ztQ @dB @Vx d4 ?_;exact⟨o,rfl,⟨_,rfl⟩,fS⟩
theorem HN:∀{i n:Nat},i<=n->zk e k i<=zk e k n:=by
 intro i n h;induction h with
 | refl=>exact ab _
 | step _ a=>exact aJ a (kF _ _)
theorem OK(A:k<=900)(B:s<=900)(c:0<k)(q:∀j,j<s->zk e j k<=6):AC prog 302 [hY (cz k s e)] (.im (aU k0)):=by
 refine cA [.tmp 2] func302 λC=>?_;have a:=fw (n:=k) (m:=s) (e:=e);have g:=cr (m:=s) (e:=e) c;refine aR ?_;refine az (λ(j:Nat)m=>(m.sl 0=hY (cz k s e)/\m.sl 3=al j)/\(j<=s)) (λj=>s-j) (0) ⟨nm,om⟩ ?_;intro j D ⟨o,u⟩;rcases bf j s with d|d
 have f:((j:Int)<(s:Int))=True:=bO om;refine nN o @bU a g f ?_;refine⟨om,c,?_⟩;refine az (λ(i:Nat)m=>(m.sl 0=hY (cz k s e)/\m.sl 3=al j/\m.sl 4=al (zk e j i:Nat)/\m.sl 5=al i)/\(i<=k)) (λi=>k-i) (0) ⟨(jX o),om⟩ ?_;intro i E ⟨h,p⟩;have w:=aJ (HN e j p) (q j d);rcases bf i k with n|n
 have b:((i:Int)<(k:Int))=True:=bO om;have r:=dz (e:=e) n d;have l:=cr (m:=s) (e:=e) n;have x:=aJ (HN e j (show i+1<=k by omega)) (q j d);have y:zk e j (i+1)=zk e j i+(e i j).natAbs:=rfl;have t:D0.i64.wrap (((zk e j i:Nat):Int)+((e i j).natAbs:Int))=((zk e j (i+1):Nat):Int):=by rw[y,aF om om];omega
 refine Cn h @bU a b r l ?_;refine⟨n,d,d,aa (qo (e i j) om om) ?_⟩;refine xA h @bU a b r l t ?_;exact ah (i+1) ⟨(fB h (ak n om) t),om⟩;have b:((i:Int)<(k:Int))=False:=aX om;have z:(6<((zk e j i:Nat):Int))=False:=aX om;refine nN h @bU a b z ?_;exact ah (j+1) ⟨(fB o h (ak d om)),om⟩;have f:((j:Int)<(s:Int))=False:=aX om;refine nN o @bU a g f ?_;exact⟨om,c⟩
theorem OJ(g:Abs.Good k)(C:s<=20)(D:t<=20)(y:r<=t)(z:c<=t)(A:SWq k s t r c 0 e)(E:∀i j,i<s->j<t->-1<=e i j/\e i j<=1)(F:∀j,j<t->zk e j s<=6):AC prog 264 [hY (cz s t e)] (.fr 3 1 (iL (ld r 1++ld (c-r) 2))):=by
 refine cA [.tmp 2] func264 λM=>?_;have a:=fw (n:=s) (m:=t) (e:=e);refine aR ?_;refine az (λ(i:Nat)u=>(u.sl 0=hY (cz s t e)/\u.sl 3=al i)/\(i<=s)) (λi=>s-i) (0) ⟨nm,om⟩ ?_;intro i N ⟨h,G⟩;rcases bf i s with b|b
 have f:((i:Int)<(s:Int))=True:=bO om;have n:=cr (m:=t) (e:=e) b;have w:=cr (m:=t) (e:=e) (show 0<s by omega);have x:((t:Int) != (t:Int))=false:=sp;have o:(20<(t:Int))=False:=aX om;refine XO h @bU a f n w x o ?_;refine⟨kr,b,om,om,b,?_⟩;refine az (λ(j:Nat)u=>(u.sl 0=hY (cz s t e)/\u.sl 3=al i/\u.sl 4=al j)/\(j<=t)) (λj=>t-j) (0) ⟨(jX h),om⟩ ?_;intro j O ⟨p,H⟩;rcases bf j t with q|q
 have d:((j:Int)<(t:Int))=True:=bO om;have B:=dz (e:=e) b q;have I:=E i j b q;refine Cn p @bU a n d B ?_;refine⟨b,b,b,b,q,aa (fe (e i j) (-1) 1) ?_⟩;have J:(decide (-1<=e i j)&&decide (e i j<=1))=true:=by rw[aj,aq,aq];exact I
 refine xA p @bU a n d B J ?_;exact ah (j+1) ⟨(gE p (ak q om)),om⟩;have d:((j:Int)<(t:Int))=False:=aX om;refine nN p @bU a n d ?_;exact⟨b,b,ah (i+1) ⟨(fB h p (ak b om)),om⟩⟩;have f:((i:Int)<(s:Int))=False:=aX om;have l:(20<(s:Int))=False:=aX om;refine nN h @bU a f l ?_;refine⟨λm=>?_,λm=>?_⟩;have m:=beq_eq_false_iff_ne.1 m;refine aa (OK e s t om om om F) ?_;refine cZ h (aa (JY e k s t r c g C D y z A) ?_);exact mg h;have m:=beq_iff_eq.1 m;obtain⟨K,L⟩:=A.stop y z λP Q _ _ _ _=>om;rw[K,L];rfl
theorem Dd(n:k<=20):AC prog 357 [hY (cz k s e)] (.im (aU k0)):=by
 refine cA [.tmp 2] func357 λl=>?_;have a:=fw (n:=k) (m:=s) (e:=e);refine ff @bU a ?_;refine az (λ(i:Nat)m=>(m.sl 0=hY (cz k s e)/\m.sl 5=hY (cz k s e)/\m.sl 6=al k/\m.sl 7=al i)/\(i<=k)) (λi=>k-i) (0) ⟨nm,om⟩ ?_;intro i o ⟨c,j⟩;rcases bf i k with h|h
 have b:((i:Int)<(k:Int))=True:=bO om;have d:=cr (m:=s) (e:=e) h;have f:=cr (m:=s) (e:=e) (show 0<k by omega);have g:((s:Int) != (s:Int))=false:=sp;refine xA c @bU a b d f g ?_;exact⟨h,om,om,ah (i+1) ⟨(gE c (ak h om)),om⟩⟩;have b:((i:Int)<(k:Int))=False:=aX om;exact Rc c @bU a b
theorem zl(e:X0)(n m:Nat)(r:n<=20)(B:m<=20)(t:∀i j,i<n->j<m->-1<=e i j/\e i j<=1):AC prog 321 [hY (cz n m e),al 20,al 1] (.im (aU k0)):=by
 refine cA [.tmp 6] func321 λC=>?_;have a:=fw (n:=n) (m:=m) (e:=e);have g:(20<(n:Int))=False:=aX om;refine iD @bU a g (aa (Dd e n m r) ?_);by_cases u:n=0;subst u;refine ff @bU a ?_;refine az (λ(i:Nat)s=>(s.sl 0=hY (cz 0 m e)/\s.sl 2=al 1/\s.sl 31=hY (cz 0 m e)/\s.sl 32=al 0/\s.sl 33=al i)/\(i=0)) (λi=>0) (0) ⟨nm,rfl⟩ ?_;intro i w ⟨f,k⟩;subst k;exact mg f;have x:(0<(n:Int))=True:=bO om;have q:=cr (m:=m) (e:=e) (show 0<n by omega);have l:(20<(m:Int))=False:=aX om;refine nN @bU a x q l ?_;refine⟨om,?_⟩;refine az (λ(i:Nat)s=>(s.sl 0=hY (cz n m e)/\s.sl 2=al 1/\s.sl 31=hY (cz n m e)/\s.sl 32=al n/\s.sl 33=al i)/\(i<=n)) (λi=>n-i) (0) ⟨nm,om⟩ ?_;intro i w ⟨f,k⟩;rcases bf i n with h|h
 have b:((i:Int)<(n:Int))=True:=bO om;have c:=cr (m:=m) (e:=e) h;refine Cn f @bU a b c @dB ?_;refine⟨h,?_⟩;refine az (λ(j:Nat)s=>(s.sl 0=hY (cz n m e)/\s.sl 2=al 1/\s.sl 31=hY (cz n m e)/\s.sl 32=al n/\s.sl 33=al i/\s.sl 37=aE (lg (cz n m e) i [])/\s.sl 38=al m/\s.sl 39=al j)/\(j<=m)) (λj=>m-j) (0) ⟨(gE f c),om⟩ ?_;intro j D ⟨p,y⟩;rcases bf j m with o|o
 have d:((j:Int)<(m:Int))=True:=bO om;have z:=dz (e:=e) h o;have E:=t i j h o;have c1:(e i j < -1)=False:=aX om;have c2:(1<e i j)=False:=aX om;have A:D0.i64.wrap (-1)=-1:=rfl;simp only[↓gp,gq,simprocAttr,gT,p,d,z,c,c1,c2,dB,A];exact⟨o,ah (j+1) ⟨(gE p (ak o om)),om⟩⟩;have d:((j:Int)<(m:Int))=False:=aX om;refine ff p d ?_;exact ah (i+1) ⟨(fB f p (ak h om)),om⟩;have b:((i:Int)<(n:Int))=False:=aX om;exact DL f b
def Ti(e:X0)(j:Nat):Nat->Nat|0=>0|i+1=>if e i j=0 then Ti e j i else Ti e j i+1
theorem znF(e:X0)(j:Nat):∀i,Ti e j i<=zk e j i
 | 0=>ab _
 | i+1=>by have:=znF e j i;show(if e i j=0 then _ else _)<=zk e j i+(e i j).natAbs;split<;>omega
theorem HM(w:k<=20)(x:s<=20)(y:∀i j,i<k->j<s->-1<=e i j/\e i j<=1)(z:∀j,j<s->zk e j k<=6):AC prog 288 [hY (cz k s e)] (.im (aU k0)):=by
 refine cA [.tmp 2] func288 λE=>?_;have a:=fw (n:=k) (m:=s) (e:=e);refine aR (aa (zl e k s w x y) ?_);refine ff @bU a ?_;intro o;have o:k≠0:=λh=>by rw[h]at o;cases o
 have p:=cr (m:=s) (e:=e) (show 0<k by omega);refine⟨om,om,?_⟩;refine az (λ(j:Nat)m=>(m.sl 0=hY (cz k s e)/\m.sl 15=al s/\m.sl 16=al j)/\(j<=s)) (λj=>s-j) (0) ⟨(jX p),om⟩ ?_;intro j F ⟨n,A⟩;rcases bf j s with c|c
 have d:((j:Int)<(s:Int))=True:=bO om;refine ox n d @bU a ?_;refine az (λ(i:Nat)m=>(m.sl 0=hY (cz k s e)/\m.sl 3=al j/\m.sl 15=al s/\m.sl 16=al j/\m.sl 4=al (Ti e j i:Nat)/\m.sl 20=al k/\m.sl 21=al i)/\(i<=k)) (λi=>k-i) (0) ⟨(jX n),om⟩ ?_;intro i G ⟨f,q⟩;have B:=aJ (znF e j i) (aJ (HN e j q) (z j c));rcases bf i k with h|h
 have b:((i:Int)<(k:Int))=True:=bO om;have g:=cr (m:=s) (e:=e) h;have u:=dz (e:=e) h c;by_cases l:e i j=0;have r:Ti e j (i+1)=Ti e j i:=ae l;refine XO f b g @dB u l @bU a ?_;exact⟨h,c,c,ah (i+1) ⟨(fB f r (ak h om)),om⟩⟩;have r:Ti e j (i+1)=Ti e j i+1:=ac l;have t:(e i j != 0)=true:=bne_iff_ne.2 l;have C:D0.i64.wrap (((Ti e j i:Nat):Int)+1)=((Ti e j (i+1):Nat):Int):=by rw[r];exact ak (n:=7) om om
 refine XO f b g @dB u t @bU a ?_;exact⟨h,c,c,ah (i+1) ⟨(fB f C (ak h om)),om⟩⟩;have b:((i:Int)<(k:Int))=False:=aX om;have D:(6<((Ti e j i:Nat):Int))=False:=aX om;refine iD f b D ?_;exact ah (j+1) ⟨(fB n f (ak c om)),om⟩;have d:((j:Int)<(s:Int))=False:=aX om;exact DL n d
theorem zhH(L H:O0)(i j:Nat):-1<=Of L H i j/\Of L H i j<=1:=by have:=zhG (lg L i 0)<|lg H j 0;unfold Of;grind
theorem zm(c:k<6)(d:∀a b,b<64->f b=k0->a&&&b=a->f a=k0):AC prog 264 [hY (Bm f k)] (.fr 3 1 (iL (Th (Bm f k)))):=by have:=OJ (Of (Lo f k) (Lo f (k+1))) k (Lo f k).length (Lo f (k+1)).length _ _ (Kw c) (UH f om) (UH f om) (UJ f k) (JC f k) (SWq.start (Kw c) d) (λi j _ _=>zhH _ _ i j) (λj e=>zbK f k (ab _) e);rw[<- UI]at this;exact this
noncomputable def smV(M:fG):RV:=if iQ 3 M=0 then .fr 3 1 []else .im (aE (Th M))
theorem yp(g:k<6)(h:∀a b,b<64->f b=k0->a&&&b=a->f a=k0):AC prog 243 [hY (Bm f k)] (smV (Bm f k)):=by
 refine cA [.tmp 2] func243 λI=>?_;have s:=UH f (k:=k) om;have u:=UH f (k:=k+1) om;have w:∀i j,i<lh (Lo f k)->j<lh (Lo f (k+1))->-1<=Of (Lo f k) (Lo f (k+1)) i j/\Of (Lo f k) (Lo f (k+1)) i j<=1:=λi j _ _=>zhH _ _ i j;have l:=HM (Of (Lo f k) (Lo f (k+1))) _ _ s u w (λj D=>zbK f k (ab _) D);have x:=Be (Of (Lo f k) (Lo f (k+1))) k _ _ _ _ (Kw g) s u (UJ f k) (JC f k) (IW.start (Kw g) h);have d:=zhD (Kw g) (UJ f k) (JC f k) (lh (Lo f k)+1) 0 1 _ 1 om (IW.start (Kw g) h) (.inl rfl);have y:=zvI (Kw g) (UJ f k) (JC f k) (lh (Lo f k)+1) 0 _ om (SWq.start (Kw g) h);have z:=zsH g h;have E:=UJ f k;have A:=JC f k;have F:=(SWq.start (Kw g) h).k2;unfold smV Th;have G:Bm f k=cz (Lo f k).length (Lo f (k+1)).length (Of (Lo f k) (Lo f (k+1))):=UI _ _;generalize iQ 2 (Bm f k)=r at *;generalize iQ 3 (Bm f k)=o at *;rw[G];generalize H:(HJ (Lo f k).length (Lo f (k+1)).length (lh (Lo f k)+1) (Of (Lo f k) (Lo f (k+1))) 0 1).natAbs=t at *;generalize Of (Lo f k) (Lo f (k+1))=e at *;generalize (Lo f k).length=n at *;generalize (Lo f (k+1)).length=m at *;refine aR (aa l ?_);refine aR (aa x ?_);by_cases B:o=0;rw[ae B];exact mg B;rw[ac B];have C:((o:Int)==0)=false:=beq_eq_false_iff_ne.2 om;refine cZ C ?_;have p:=Db e n m t o (if t=1 then 0 else r) s u om d.1 ⟨y,A⟩ (by split<;>omega) (by
  rcases d.1 with c|c;rw[ae c,c];exact mn _ (aB _) λi j _ _ _ _=>by rw[Int.natCast_one,Int.emod_one];rfl
  rw[ac om,c];exact UG (λi j _ _ _ _=>(Int.emod_emod_of_dvd _ (Int.dvd_refl _)).symm) F)
 have q:AN (if t=1 then 0 else r) t o=ld r 1++ld (o-r) 2:=by rcases d.1 with c|c;have:=d.2 c;rw[ae c,zhF (aB _),c,this,pi];simp;rw[ac om,zhF z,c];rfl
 rw[q]at p;refine aa p ?_;refine cZ @qe ?_;exact⟨rfl,⟨_,rfl⟩,fS⟩
noncomputable def oo(n:Int)(a:N0)(s:Nat):Bool:=aS n a&&(di n s&&!ao a s)
noncomputable def mw(n:Int)(a:N0):O0:=dI (oo n a) l0
theorem zhO(h:oo x l d=k0):d<64:=by unfold oo at h;simp[aj]at h;have:=sj h.2.1;omega
theorem znW:hU (bl ((lc 64).filter (oo n a)))=oo n a:=by funext s;rw[pb];refine Bool.eq_iff_iff.2 ?_;rw[aq,dG,eJ];exact⟨λh=>h.2,λh=>⟨zhO h,h⟩⟩
theorem WX(h:aS x l=l0)(s:Nat):oo x l s=false:=by simp[oo,h]
theorem zqZ(h:aS x l=l0):mw x l=[]:=by simp[mw,dI,co,cd,funext<|WX h]
theorem sI:lh (mw n a)<=448:=vu _ _
theorem kV:AC prog 173 [.ag [al n,aE a]] (.fr 3 1 (iL (bl (mw n a)))):=by
 refine cA [.tmp 2] func173 λy=>?_;refine aR ?_;refine az (λ((t,v):Nat×Nat) s=>(s.sl 1=.ref 1 1 0/\s.rw 1=⟨1,.box 31 [al n,aE a]⟩/\s.sl 3=.own 5 v/\s.rw 5=⟨v,.sli 3 1 l0 (iL (bl ((lc t).filter (oo n a))))⟩/\s.sl 4=al t)/\(t<=64)) (λ(t,v)=>64-t) ((0,1)) ⟨nm,sp⟩ ?_;intro(t,v) z ⟨b,r⟩;have u:lh ((lc t).filter (oo n a))<=64:=by have:=aO (oo n a) (lc t);rw[bp]at this;omega
 have f:(t=64\/aS n a=l0)->hU (bl ((lc t).filter (oo n a)))=oo n a:=λh=>by rcases h with rfl|h;exact znW n a;funext i;rw[pb,WX h];exact aD λp=>by rw[dG,WX h]at p;cases p.2
 have c:(t=64\/aS n a=l0)->AC prog 195 [aE (bl ((lc t).filter (oo n a))),aU l0] (.fr 3 1 (iL (bl (mw n a)))):=λh=>by have:=vz l0 _ (CU (l:=(lc t).filter (oo n a)) λi w=>zhO (List.mem_filter.1 w).2);rwa [f h]at this
 refine cZ b ?_;refine⟨λh=>aa (bw n a) ?_,λh=>aa (c (.inl om)) ?_⟩;refine cZ b ?_;refine⟨λk=>aa (ro _ _) ?_,λk=>aa (c (.inr k)) ?_⟩;have x:=dM k;have h:t<64:=om;have d:oo n a t=(di n t&&!ao a t):=by unfold oo;rw[k];rfl
 have g:oo n a t=k0->bl ((lc (t+1)).filter (oo n a))=bl ((lc t).filter (oo n a))++[(t:Int)]:=λh=>by rw[bW,aW,cI];simp[h,bl]
 have j:oo n a t=l0->bl ((lc (t+1)).filter (oo n a))=bl ((lc t).filter (oo n a)):=λh=>by rw[bW,aW,cI];simp[h,bl]
 refine cZ b ?_;refine⟨λm=>aa (jB n a t x h) ?_,λm=>?_⟩;refine cZ b ?_;refine⟨λo=>?_,λo=>?_⟩;have e:=g (by rw[d,m,o];rfl);refine⟨by rw[ap];omega,ah ((t+1,v+1)) ⟨(fB b (ak h om) e),by dsimp only;omega⟩⟩;have e:=j (by rw[d,o];simp);exact ah ((t+1,v)) ⟨(fB b (ak h om) e),by dsimp only;omega⟩;have e:=j (by rw[d,m];rfl);exact ah ((t+1,v)) ⟨(fB b (ak h om) e),by dsimp only;omega⟩;exact mg b;exact mg b
theorem Dj(a:m<18446744073709551616)(b:k<64):AC prog 293 [al k,.eref l0 [dv m] 0] (.im (aU (!m.testBit k))):=by refine cA [.tmp 3] func293 λc=>?_;refine aR (aa (ez m k a b) ?_);exact ef
theorem Ia(a:m<=6)(b:k<18446744073709551616):AC prog 246 [al m,dv k] (.fr 3 1 (iL (bl (dI (λs=>decide (s<2^m)&&!k.testBit s) l0)))):=by refine cA [.tmp 4] func246 λd=>?_;have c:=dx a;refine aR ?_;refine aa (gF m a _ [.eref l0 [dv k] 0] (λs=>!k.testBit s) (λrw=>rfl) λs f=>Dj k s b om) ?_;refine aR (aa (HD _ (Uw _ a)) ?_);have e:(bA (λs=>!k.testBit s) (2^m)).testBit=λs=>decide (s<2^m)&&!k.testBit s:=funext λs=>mM _ _ _;rw[e];exact ef
theorem sJ:AC prog 149 [.ag [al n,aE a]] (.fr 3 1 (iL (bl (mw n a)))):=by
 refine cA [.tmp 2] func149 λj=>?_;refine aR (aa (aH n a) ?_);refine aR ?_;refine⟨λb=>?_,λb=>?_⟩;rw[zqZ (ss b)];rfl;have b:=ss b;obtain⟨k,l,_⟩:=cY.1 b;obtain⟨m,rfl⟩:∃m:Nat,n=m:=⟨n.toNat,om⟩;have g:=dx (m:=m) om;refine⟨kr,aa (cj _ a (dM b)) ?_⟩;refine aR ?_;have o:=dj (ao a) 64;refine aa (Ia m _ om om) ?_;have e:(λs=>decide (s<2^m)&&!(bA (ao a) 64).testBit s)=oo m a:=funext λs=>by rw[oo,b,mM,au];unfold di;grind
 rw[e];refine aR ?_;rfl
noncomputable def gmO(n:Int)(a:N0):Int:=if mw n a=[]then -1 else(aQ (lg (mw n a) (lh (mw n a)-1) 0):Int)
noncomputable def WW(n:Int)(a:N0):Bool:=aS n a&&decide (gmO n a<=2)
theorem zhN{n:Int}{xs:N0}{i:Nat}(h:i<lh (mw n xs)):lg (mw n xs) i 0<64:=(ja.1<|aP 0 h).1.1
theorem wU:AC prog 268 [.ag [al n,aE a]] (.im (al (gmO n a))):=by
 refine cA [.tmp 2] func268 λm=>?_;refine aR<|aa (kV n a) ?_;unfold gmO;have c:=λi=>zhN (n:=n) (xs:=a) (i:=i);have k:=sI n a;generalize mw n a=L at *;refine cZ @ap ?_;refine⟨λd=>?_,λd=>?_⟩
 simp_all
 have g:0<lh L:=by grind
 have h:lh L-1<lh L:=om;have c:=c _ h;have j:D0.i64.wrap ((lh L)-1)=((lh L-1:Nat)):=by rw[aF om om];omega
 rw[ac<|λe=>by rw[e]at g;simp at g];rw[j];refine⟨om,om,om,?_⟩;rw[ar,bX h];refine aa (ey _ om) ?_;exact mg j
theorem Qy:AC prog 207 [.ag [al n,aE a]] (.im (aU (WW n a))):=by refine cA [.tmp 2] func207 λb=>?_;refine aR<|aa (bw n a) ?_;refine aR ?_;unfold WW;refine⟨λh=>aa (wU n a) ?_,λh=>?_⟩;rw[h];exact ef;grind
theorem zel{m:Nat}(o:1<=m)(y:m<=6){f:V0}(w:∀s,s<64->f s=k0->s<2^m):aS (m:Int) (bl (dI f k0))=true:=by
 refine vA ⟨(by omega:(1:Int)<=(m:Int)),(by omega:(m:Int)<=6),λk d=>?_⟩;rw[ap]at d;have p:=Ft f k0;have c:=λi (q:i<lh (dI f k0))=>ja.1<|aP 0 q;generalize dI f k0=g at *;have h:∀i j,i<j->j<lh g->rx (lg g i 0) (lg g j 0):=λi j r t=>by
  have:=List.pairwise_iff_getElem.1 p i j om t r;have a:lg g i 0=g[i]'om:=by simp[lg,show i<lh g by omega]
  have b:lg g j 0=g[j]:=by simp[lg,t]
  rw[a,b];exact this
 refine⟨?_,λz=>?_,λi q=>?_⟩;have o:=c k d;have x:=w _ o.1.1 o.1.2;rw[bX d];unfold di;rw[aq];refine⟨om,om,om,?_⟩;rw[iM];exact_mod_cast x;rw[bX d,bX om];have n:=h (k-1) k om d;have:=(c k d).1.1;have:=(c (k-1) om).1.1;unfold rQ;unfold rx at n;rw[jb om,jb om];simp only[aj,aq];refine⟨om,om,?_⟩;split;rw[aq];omega;rw[aq];omega;have u:=(c i om).1.1;have l:=(c k d).1;rw[bX d,bX om,ej om om];intro e;have:=ku.1 (c i om).2 (lg g k 0) l.1 l.2 om;have n:=h i k q d;rw[this]at n;exact qD n
theorem zC:hU a k=decide ((k:Int)∈a):=rfl
noncomputable def zq6(n:Int)(a:N0):N0:=(bl (mw n a)).map (sy n)
noncomputable def zjI(n:Int)(a:N0):N0:=bl (dI (hU (zq6 n a)) k0)
theorem zhQ(h:aS (d:Int) l=k0)(t:Nat) :
 (t:Int)∈zq6 d l↔∃u,u<2^d/\ao l u=l0/\(∀v,v<2^d->ao l v=l0->v&&&u=v->v=u)/\t=2^d-1-u:=by
 obtain⟨A,B,_⟩:=cY.1 h
 have r:=dx (m:=d) om
 have c:∀s:Nat,oo d l s=k0↔s<2^d/\ao l s=false:=λs=>by unfold oo di;rw[h,au,aj,aq,bC,iM];exact⟨λ⟨⟨_,_,_,a⟩,b⟩=>⟨om,b⟩,λ⟨a,b⟩=>⟨⟨om,om,om,om⟩,b⟩⟩
 have g:∀s:Nat,s<2^d->sy d s=((2^d-1-s:Nat):Int):=λs n=>by
  have j:di d s=true:=by unfold di;rw[aq,iM];exact⟨om,om,om,om⟩
  unfold sy;rw[ae j,iM];omega
 unfold zq6
 rw[dX]
 refine⟨λ⟨x,o,e⟩=>?_,λ⟨u,p,k,i,e⟩=>?_⟩
 unfold bl at o;obtain⟨s,n,rfl⟩:=List.mem_map.1 o;obtain⟨⟨C,w⟩,y⟩:=ja.1 n;obtain⟨a,b⟩:=(c s).1 w;rw[g s a]at e;exact⟨s,a,b,λv q m f=>so.1 y v om ((c v).2 ⟨q,m⟩) f,om⟩
 refine⟨u,?_,by rw[g u p,e]⟩;unfold bl;refine List.mem_map.2 ⟨u,ja.2 ⟨⟨om,(c u).2 ⟨p,k⟩⟩,so.2 λv q z f=>?_⟩,rfl⟩;obtain⟨a,b⟩:=(c v).1 z;exact i v a b f
theorem zt5(h:aS (d:Int) l=k0):aS (d:Int) (zjI d l)=true:=by obtain⟨c,a,_⟩:=cY.1 h;refine zel om om λs e b=>?_;rw[zC,aq]at b;obtain⟨u,f,_,_,rfl⟩:=(zhQ h s).1 b;omega
theorem zn3(h:aS (d:Int) l=k0)(s:o<64):ao (zjI d l) o=Cb d (ao l) o:=by have⟨e,f,_⟩:=cY.1 h;unfold zjI;rw[vv];exact zdR om (λo t a b=>pZ a b) (λt=>zhQ h t) s
def qU(a:N0)(s:Nat):N0:=(a.filter λx=>fu .i64 x s==(s:Int)).map λx=>x-s
theorem zhR(g:Uu l)(j:d<64)(v:Nat):(v:Int)∈qU l d↔∃x∈l,x.toNat&&&d=d/\v=x.toNat-d:=by
 have c:∀x∈l,fu .i64 x d=(x.toNat&&&d:Nat):=λx h=>by have:=g x h;rw[<- ej om om];grind
 rw[qU,dX];refine⟨λ⟨x,s,e⟩=>?_,λ⟨x,s,i,e⟩=>?_⟩;grind;refine⟨x,List.mem_filter.2 ⟨s,by grind⟩,?_⟩;have:=g x s;have:d<=x.toNat:=by rw[<- i];exact bI
 omega
theorem OV(h:aS (d:Int) l=k0)(c:o<64):aS (d:Int) (bl (dI (hU (qU l o)) k0))=true:=by obtain⟨g,j,s⟩:=cY.1 h;refine zel om om λt k b=>?_;rw[zC,aq]at b;obtain⟨x,e,_,rfl⟩:=(zhR (dM h) c t).1 b;obtain⟨i,f,rfl⟩:=eX 0 e;have:=(s i f).1;unfold di at this;grind
theorem zhS(h:aS (d:Int) l=k0)(b:o<64)(t:Nat):ci d (bl (dI (hU (qU l o)) k0)) t=dL (ao l) o t:=by rw[ci,OV h b,vv];exact zdS (λx c=>by have:=dM h x c;omega) b (λv=>zhR (dM h) b v) t
theorem UQ(b:d<=6)(c:o<2^d):sy d o=((2^d-1-o:Nat):Int):=by
 have a:di d o=true:=by unfold di;grind
 unfold sy;grind
theorem oq{w w':V0}(a:d<=6)(h:∀s,s<64->(decide (s<2^d)&&w s)=w' s):bA w (2^d)=bA w' 64 :=
 og w' (Uw w a) λs b=>by rw[mM,h s b]
theorem Ky(a:m<=6)(b:k<18446744073709551616)(c:s<2^m):AC prog 273 [al s,.eref l0 [dv k] 0,.eref l0 [al m] 0] (.im (aU (!k.testBit (2^m-1-s)))):=by refine cA [.tmp 4] func273 λe=>?_;have d:=dx a;refine aR ?_;refine⟨kr,aa (Bo m s) ?_⟩;rw[UQ a c];refine aR ?_;refine aa (ez k _ b om) ?_;exact ef
theorem Qz(a:m<=6)(f:V0):AC prog 216 [al m,dv (bA f 64:Nat)] (.im (dv (bA (Cb m f) 64:Nat))):=by refine cA [.tmp 4] func216 λe=>?_;have c:=dx a;have d:=dj f 64;refine aR<|aa (gF m a _ _ _ (λrw=>rfl) λs b=>Ky m _ s a om b) ?_;rw[oq (w':=Cb m f) a λs b=>by rw[ek f om];rfl];exact ef
theorem Kz(a:m<18446744073709551616)(b:k<64)(c:s<64):AC prog 282 [al s,.eref l0 [al k] 0,.eref l0 [dv m] 0] (.im (aU (dL m.testBit k s))):=by
 refine cA [.tmp 4] func282 λi=>?_;have d:fu .i64 (s:Int) (k:Int)=((s&&&k:Nat):Int):=ej om om;have f:EX .i64 (s:Int) (k:Int)=((s|||k:Nat):Int):=nQ om om;have g:s|||k<64:=cu (n:=6) c b
 refine ff d f ?_;unfold dL;refine⟨λh=>aa (ez m _ a g) ?_,λh=>?_⟩;have h:s&&&k=0:=ss h;rw[h];exact ef;have h:(s&&&k==0)=false:=by rw[bc];intro e;simp[e]at h
 rw[h];rfl
theorem jR(a:k<64):AC prog 227 [dv (bA f 64:Nat),al k] (.im (dv (bA (dL f k) 64:Nat))):=by refine cA [.tmp 4] func227 λe=>?_;have c:=dj f 64;refine aR (aa (gF 6 om _ [.eref l0 [al k] 0,.eref l0 [dv (bA f 64:Nat)] 0] (dL (bA f 64).testBit k) (λrw=>rfl) λt b=>Kz _ k t om a om) ?_);rw[oq (w':=dL f k) om λt b=>by rw[ay (show t<2^6 by omega),au];exact zbt (λu d=>ek f d) a b];exact ef
theorem QA(h:aS (m:Int) a=k0):AC prog 74 [.ag [al m,aE a]] (.tup [.ag [.im (al m),.fr 3 1 (iL (zjI m a))],.im (aU k0)]):=by
 refine cA [.cell 2 31,.tmp 3] func74 λA=>?_;simp only[dt,dT,dF,gb,jt,hZ,cC]at A;have B:=sI m a;have C:=ap<|mw m a;refine aR<|aa (bw m a) ?_;refine cZ h<|aa (kV m a) ?_;obtain⟨K,L,_⟩:=cY.1 h;unfold zjI zq6;have t:Uu ((bl<|mw m a).map<|sy m):=by
  intro x D;obtain⟨y,z,rfl⟩:=List.mem_map.1 D;unfold bl at z;obtain⟨s,E,rfl⟩:=List.mem_map.1 z;have F:=dx (m:=m) om;obtain⟨⟨M,u⟩,_⟩:=ja.1 E;have p:di m s=true:=by unfold oo at u;simp only[aj]at u;exact u.2.1
  have:s<2^m:=by unfold di at p;rw[aq,iM]at p;omega
  rw[UQ om this];omega
 generalize bl (mw m a)=c at *;refine aR ?_;have q:∀k,k<lh c->(c.take<|k+1).map (sy m)=(c.take k).map (sy m)++[sy m (lg c k 0)]:=λk h=>by rw[bj 0 h];simp
 refine az (λ((k,v,w):Nat×Nat×Nat) s=>(s.sl 1=.ref 1 1 0/\s.rw 1=⟨1,.box 31 [al (m:Nat),aE a]⟩/\s.sl 2=.ref 2 1 0/\s.rw 2=⟨1,.box 31 [al 0,.v (.slice o0 0 0)]⟩/\s.sl 3=aU l0/\s.sl 4=.own 12 w/\s.rw 12=⟨w,.sli 3 1 l0<|iL c⟩/\s.sl 5=.own 13 v/\s.rw 13=⟨v,.sli 3 1 l0<|iL<|(c.take k).map<|sy m⟩/\s.sl 6=al k)/\(k<=lh c)) (λ(k,v,w)=>lh c-k) ((0,1,1)) ⟨nm,sp⟩ ?_;intro(k,v,w) N ⟨⟨e,f,g,i,j,l,b,n,d,o⟩,H⟩;simp only[↓gp,gq,simprocAttr,gT,e,f,g,i,j,l,b,n,d,o];refine⟨λr=>⟨kr,r,r,aa (Bn _ _) ?_⟩,λr=>?_⟩;simp only[↓gp,gq,simprocAttr,gT,e,f,g,i,j,l,b,n,d,o];have I:lh ((c.take k).map<|sy m)<=448:=by rw[aG,bg];omega
 refine⟨om,kr,?_⟩;exact ah ((k+1,v+1,w)) ⟨(by and_intros<;>(first|(simp only[gr,simprocAttr,e,f,g,i,j,l,b,n,d,o,ak r om,q k r];first|done|rfl|(simp;done))|assumption|rfl)),by dsimp only;omega⟩;have:k=lh c:=om;subst this;have J:c.take (lh c)=c:=av;rw[J]at d ⊢;refine aa (eV m _ t) ?_;simp only[↓gp,gq,simprocAttr,gT,e,f,g,i,j,l,b,n,d,o]
theorem lQ(u:k<64)(l:Uu a)(m:lh a<=1000):AC prog 192 [.ag [al n,aE a],al k] (.ag [.im (al n),.fr 3 1 (iL (bl (dI (hU (qU a k)) k0)))]):=by
 refine cA [.cell 4 31] func192 λo=>?_;simp only[dt,dT,dF,gb,jt,hZ,cC]at o;refine aR ?_;have i:qU a k=qU (a.take (lh a)) k:=by rw[av]
 refine az (λ((c,v):Nat×Nat) s=>(s.sl 1=al k/\s.sl 2=.ref 2 1 0/\s.rw 2=⟨1,.box 31 [al n,aE a]⟩/\s.sl 4=.ref 4 1 0/\s.rw 4=⟨1,.box 31 [al 0,.v (.slice o0 0 0)]⟩/\s.sl 5=.own 7 v/\s.rw 7=⟨v,.sli 3 1 l0 (iL (qU (a.take c) k))⟩/\s.sl 6=al c)/\(c<=lh a)) (λ(c,v)=>lh a-c) ((0,1)) ⟨nm,sp⟩ ?_;intro(c,v) z ⟨g,q⟩;have r:lh (qU (a.take c) k)<=1000:=by unfold qU;rw[aG];have:=aO (λx=>fu .i64 x (k:Int)==(k:Int)) (a.take c);rw[bg]at this;omega
 refine cZ g ?_;refine⟨λh=>⟨h,h,?_⟩,λh=>?_⟩;have t:=HC l h;have j:D0.i64.wrap (lg a c 0-(k:Int))=lg a c 0-(k:Int):=aF om om;refine⟨λd=>?_,λd=>?_⟩;have e:qU (a.take (c+1)) k=qU (a.take c) k++[lg a c 0-(k:Int)]:=by unfold qU;rw[bj 0 h,aW,cq,bF,ae d];rfl
 exact⟨h,h,om,ah ((c+1,v+1)) ⟨(rS g (ak h om) j e),by dsimp only;omega⟩⟩;have e:qU (a.take (c+1)) k=qU (a.take c) k:=by unfold qU;rw[bj 0 h,aW,cq,bF,ac (by rw[d];decide)];simp
 exact ah ((c+1,v)) ⟨(fB g (ak h om) e),by dsimp only;omega⟩;have:c=lh a:=om;subst this;rw[i];refine aa (eV n _ ?_) ?_;intro x f;unfold qU at f;obtain⟨y,d,rfl⟩:=List.mem_map.1 f;obtain⟨w,b⟩:=List.mem_filter.1 d;rw[av]at w;have:=l y w;rw[aK]at b;have A:fu .i64 y (k:Int)=((y.toNat&&&k:Nat):Int):=by rw[<- ej om om];congr 1;omega
 have B:y.toNat&&&k<=y.toNat:=bI;omega;exact mg g
end Go.Proofs.YtigjebcjfbhnjaaGreatDoor
