/- DERIVED by an AI agent. -/
import Derived.Test.YtijabbemjaioeaaGreatDoorQ2
import Derived.Lib.ItoaNum
set_option linter.all false
namespace Go.Proofs.YtijabbemjaioeaaGreatDoor
open Bool renaming true→k0,false→l0
open Go.IntKind renaming wrap→I0
open List renaming range→lc,replicate→ld,getD→lg,length→lh
open Nat renaming reduceEqDiff→lj,reduceMod→lk,reduceAdd→ll,reduceLT→lm,reduceLeDiff→lp,reduceSub→lr,reduceMul→lu,reduceBEq→lw
open Int renaming reduceToNat→lz,reduceLE→lA,reduceLT→lB,reduceNeg→lC
open Go.Proofs.Tryz
open Go.Abs
variable (F:Nat)(n:Int)(a:N0)(f:V0)(c:Nat){d:N0}{b:V0}{m:Nat}{k:Int}{l:O0}{t:P0}
def cx6(n:Nat)(l:O0):Bool:=decide (1<=n)&&decide (n<=6)&&(lc (lh l)).all λk =>
 decide (lg l k 0<2^n)&&(decide (k=0)||(if CJ (lg l (k-1) 0)=CJ (lg l k 0)then decide (lg l (k-1) 0<lg l k 0)else decide (CJ (lg l (k-1) 0)<CJ (lg l k 0)))) &&
 (lc k).all λi=>!(lg l i 0&&&l.getD k 0==lg l i 0)
theorem OG(h:m<lh l):lg (bl l) m 0=((lg l m 0:Nat):Int):=bX h
theorem ztN(h:cx6 m l=k0):cxP m (bl l):=by
 unfold cx6 at h;simp only[aj,bT,aY,eJ,cw,bC]at h;have⟨⟨x,s⟩,c⟩:=h;refine⟨om,om,λk g=>?_⟩;rw[ap]at g;have⟨⟨y,f⟩,t⟩:=c k g;have z:=dx s;have j:lg l k 0<64:=om;have d:∀i,i<lh l->lg l i 0<64:=λi o=>by have:=(c i o).1.1;omega
 refine⟨?_,λA=>?_,λi o=>?_⟩;rw[OG g];unfold di;refine ay ⟨om,om,om,?_⟩;rw[iM];omega;have f:=f.resolve_left om;have n:=d (k-1) om;rw[OG g,OG (show k-1<lh l by omega)];generalize l.getD (k-1) 0=a at *;generalize l.getD k 0=b at *;have u:qN (a:Int)=(CJ a:Nat):=by rw[qN,ae om,ar,yS n]
 have w:qN (b:Int)=(CJ b:Nat):=by rw[qN,ae om,ar,yS j]
 unfold rQ;rw[u,w,ay (show(0:Int)<=a/\(a:Int)<64 by omega),ay (show(0:Int)<=b/\(b:Int)<64 by omega)];simp only[au];by_cases p:CJ a=CJ b;rw[ae p]at f;rw[ae om];exact ay (by have:=cH f;omega);rw[ac p]at f;rw[ac om];exact ay (by have:=cH f;omega);have q:=t i o;have r:=d i om;rw[OG g,OG (show i<lh l by omega),ej om om];intro e;have e:lg l i 0&&&l.getD k 0=lg l i 0:=Int.ofNat.inj e;rw[e]at q;simp at q
theorem zni(a:Q0):mu a=bl (a.map λp=>oU p p.size):=by simp[mu,bl]
theorem zj{a:P0}{d:Q0}(size:decide (2<=t.size/\t.size<=1000)=k0)(pts:decide (1<=m/\m<=6)=k0)(f:fK t 0=48+m)(g:fK t 1=58)(tail:t.extract 2 t.size=a)(c:decide (a.size<=1000)=k0)(full:(a.toList==(⟨#[]⟩:P0).toList)=l0)(parts:dO a 44=d)(b:decide (0<lh d/\d.length<=1000)=k0)(e:d.all zmi=k0)(head:dO t 58=[chr m,a])(h:cx6 m (d.map λp=>oU p p.size)=k0):OkText t m a d :=
 ⟨cH size,cH pts,f,g,tail,cH c,full,parts,(cH b).2,(cH b).1,λp i=>zmj<|List.all_eq_true.1 e p i,head,by rw[zni];exact ztN h⟩
def ex1:P0:=⟨#[52,58,97,98,99,44,97,98,100,44,97,99,100,44,98,99,100]⟩
def ps1:Q0:=[⟨#[97,98,99]⟩,⟨#[97,98,100]⟩,⟨#[97,99,100]⟩,⟨#[98,99,100]⟩]
theorem zwx:OkText ex1 4 ⟨#[97,98,99,44,97,98,100,44,97,99,100,44,98,99,100]⟩ ps1:=zj kr kr kr kr kr kr kr kr kr kr kr kr
def ex2:P0:=⟨#[54,58,97,99,100,44,98,99,100,44,97,98,101,44,97,99,101,44,98,100,101,44,97,98,102,44,98,99,102,44,97,100,102,44,99,101,102,44,100,101,102]⟩
def ps2:Q0:=[⟨#[97,99,100]⟩,⟨#[98,99,100]⟩,⟨#[97,98,101]⟩,⟨#[97,99,101]⟩,⟨#[98,100,101]⟩,⟨#[97,98,102]⟩,⟨#[98,99,102]⟩,⟨#[97,100,102]⟩,⟨#[99,101,102]⟩,⟨#[100,101,102]⟩]
theorem zwy:OkText ex2 6 ⟨#[97,99,100,44,98,99,100,44,97,98,101,44,97,99,101,44,98,100,101,44,97,98,102,44,98,99,102,44,97,100,102,44,99,101,102,44,100,101,102]⟩ ps2:=zj kr kr kr kr kr kr kr kr kr kr kr kr
def ex3:P0:=⟨#[53,58,97,98,44,98,99,44,99,100,44,97,101,44,100,101]⟩
def ps3:Q0:=[⟨#[97,98]⟩,⟨#[98,99]⟩,⟨#[99,100]⟩,⟨#[97,101]⟩,⟨#[100,101]⟩]
theorem zwz:OkText ex3 5 ⟨#[97,98,44,98,99,44,99,100,44,97,101,44,100,101]⟩ ps3:=zj kr kr kr kr kr kr kr kr kr kr kr kr
def ex4:P0:=⟨#[53,58,97,98,99,44,99,100,101]⟩
def ps4:Q0:=[⟨#[97,98,99]⟩,⟨#[99,100,101]⟩]
theorem zwA:OkText ex4 5 ⟨#[97,98,99,44,99,100,101]⟩ ps4:=zj kr kr kr kr kr kr kr kr kr kr kr kr
def ex5:P0:=⟨#[54,58,97,98,99,44,97,99,100,44,97,98,101,44,97,100,101,44,98,99,102,44,99,100,102,44,98,101,102,44,100,101,102]⟩
def ps5:Q0:=[⟨#[97,98,99]⟩,⟨#[97,99,100]⟩,⟨#[97,98,101]⟩,⟨#[97,100,101]⟩,⟨#[98,99,102]⟩,⟨#[99,100,102]⟩,⟨#[98,101,102]⟩,⟨#[100,101,102]⟩]
theorem zwB:OkText ex5 6 ⟨#[97,98,99,44,97,99,100,44,97,98,101,44,97,100,101,44,98,99,102,44,99,100,102,44,98,101,102,44,100,101,102]⟩ ps5:=zj kr kr kr kr kr kr kr kr kr kr kr kr
def ex6:P0:=⟨#[54,58,97,98,44,99,100,44,101,102]⟩
def ps6:Q0:=[⟨#[97,98]⟩,⟨#[99,100]⟩,⟨#[101,102]⟩]
theorem zwC:OkText ex6 6 ⟨#[97,98,44,99,100,44,101,102]⟩ ps6:=zj kr kr kr kr kr kr kr kr kr kr kr kr
def ex7:P0:=⟨#[52,58,97,98,44,98,99,44,99,100]⟩
def ps7:Q0:=[⟨#[97,98]⟩,⟨#[98,99]⟩,⟨#[99,100]⟩]
theorem zwD:OkText ex7 4 ⟨#[97,98,44,98,99,44,99,100]⟩ ps7:=zj kr kr kr kr kr kr kr kr kr kr kr kr
def ex8:P0:=⟨#[53,58,97,98,99,44,97,98,100,44,99,100,101]⟩
def ps8:Q0:=[⟨#[97,98,99]⟩,⟨#[97,98,100]⟩,⟨#[99,100,101]⟩]
theorem zwE:OkText ex8 5 ⟨#[97,98,99,44,97,98,100,44,99,100,101]⟩ ps8:=zj kr kr kr kr kr kr kr kr kr kr kr kr
def CY(k:Int):P0:=if k=1 then ex1 else if k=2 then ex2 else if k=3 then ex3 else if k=4 then ex4 else if k=5 then ex5 else if k=6 then ex6 else if k=7 then ex7 else if k=8 then ex8 else⟨#[]⟩
def xJ(k:Int):Nat:=if k=1 then 4 else if k=2 then 6 else if k=3 then 5 else if k=4 then 5 else if k=5 then 6 else if k=6 then 6 else if k=7 then 4 else if k=8 then 5 else 0
def FI(k:Int):Q0:=if k=1 then ps1 else if k=2 then ps2 else if k=3 then ps3 else if k=4 then ps4 else if k=5 then ps5 else if k=6 then ps6 else if k=7 then ps7 else if k=8 then ps8 else []
theorem wR(h:¬(1<=k/\k<=8)):CY k=⟨#[]⟩:=by unfold CY;grind
theorem UB(h:¬(1<=k/\k<=8)):xJ k=0:=by unfold xJ;grind
theorem zbE(h:¬(1<=k/\k<=8)):FI k=[]:=by unfold FI;grind
theorem UC(h:1<=k/\k<=8):∃a,OkText (CY k) (xJ k) a (FI k):=by
 have:k=1\/k=2\/k=3\/k=4\/k=5\/k=6\/k=7\/k=8:=om;rcases this with rfl|rfl|rfl|rfl|rfl|rfl|rfl|rfl
 exact⟨_,zwx⟩;exact⟨_,zwy⟩;exact⟨_,zwz⟩;exact⟨_,zwA⟩;exact⟨_,zwB⟩;exact⟨_,zwC⟩;exact⟨_,zwD⟩;exact⟨_,zwE⟩
theorem rh{j:Int}(e:(k==j)=k0)(h:CY j=t):CY k=t:=by grind
theorem CZ:AC prog 201 [al n] (.im (fa (CY n))):=by refine cA [.tmp 2] func201 λj=>?_;refine aR ?_;exact⟨λe=>rh e rfl,λa=>⟨λe=>rh e rfl,λb=>⟨λe=>rh e rfl,λc=>⟨λe=>rh e rfl,λd=>⟨λe=>rh e rfl,λf=>⟨λe=>rh e rfl,λg=>⟨λe=>rh e rfl,λh=>⟨λe=>rh e rfl,λi=>wR<|by grind⟩⟩⟩⟩⟩⟩⟩⟩
theorem Da:AC prog 188 [al n] (.im (fa (CY n))):=by refine cA [.tmp 2] func188 λj=>?_;refine aR ?_;exact⟨λe=>rh e rfl,λa=>⟨λe=>rh e rfl,λb=>⟨λe=>rh e rfl,λc=>⟨λe=>rh e rfl,λd=>⟨λe=>rh e rfl,λf=>⟨λe=>rh e rfl,λg=>⟨λe=>rh e rfl,λh=>⟨λe=>rh e rfl,λi=>wR<|by grind⟩⟩⟩⟩⟩⟩⟩⟩
theorem yc:AC prog 108 [fa ⟨#[]⟩] (.tup [.ag [.im (al 0),.fr 3 1 (iL [])],.im (aU l0)]):=by
 refine cA [.cell 2 26,.tmp 3] func108 λa=>?_;refine aR ?_;have b:AC prog 200 [fa ⟨#[]⟩] (.tup [.im (al 0),.im (fa ⟨#[]⟩),.im (aU l0)]):=by refine cA [.tmp 2,.tmp 3,.tmp 4] func200 λa=>?_;have c:(⟨#[]⟩:P0).size=0:=rfl;exact mg c
 refine aa b<|cZ @oh ?_;rfl
theorem yd:AC prog 164 [fa ⟨#[]⟩] (.tup [.ag [.im (al 0),.fr 3 1 (iL [])],.im (aU l0)]):=by refine cA [.cell 2 26,.tmp 3] func164 λc=>?_;refine aR<|aa (iT ⟨#[]⟩ 58 dc) ?_;have b:(((dO ⟨#[]⟩ 58).length))=1:=rfl;have a:(1 != 2)=true:=rfl;refine iD @cN b a ?_;rfl
theorem pF:AC prog 109 [al n] (.tup [.ag [.im (al (xJ n)),.fr 3 1 (iL (mu (FI n)))],.im (aU (decide (1<=n/\n<=8)))]):=by refine cA [.cell 2 26,.tmp 3] func109 λc=>?_;simp only[↓gp,gq,simprocAttr,gT];refine aa (CZ n) ?_;by_cases h:1<=n/\n<=8;have⟨a,b⟩:=UC h;rw[ay h];simp -dsimp[↓gp];refine aa (Bp b) ?_;simp[↓gp,gq,gT];rw[wR h,UB h,zbE h,aD h];simp -dsimp[↓gp];refine aa yc ?_;simp only[↓gp,gq,lj,lm,ll,gT,mu];rfl
theorem pG:AC prog 93 [al n] (.tup [.ag [.im (al (xJ n)),.fr 3 1 (iL (mu (FI n)))],.im (aU (decide (1<=n/\n<=8)))]):=by refine cA [.cell 2 26,.tmp 3] func93 λc=>?_;simp only[↓gp,gq,simprocAttr,gT];refine aa (Da n) ?_;by_cases h:1<=n/\n<=8;have⟨a,b⟩:=UC h;rw[ay h];simp -dsimp[↓gp];refine aa (Bq b) ?_;simp[↓gp,gq,gT];rw[wR h,UB h,zbE h,aD h];simp -dsimp[↓gp];refine aa yd ?_;simp only[↓gp,gq,lj,lm,ll,gT,mu];rfl
theorem zfP:lh (mu (FI n))<=1048576:=by by_cases h:1<=n/\n<=8;obtain⟨_,a⟩:=UC h;have:=a.plen;unfold mu;simp;omega;rw[zbE h];decide
theorem zj1{i:O0}(h:co b=l++m::i):(∃t,t∈i/\m&&&t=m)↔iF b k0 m=false:=by
 have f:=wK b;rw[h,zZ]at f;have j:=List.pairwise_cons.1 f.2.1;have p:m<64/\b m=true:=cR.1 (by rw[h];simp);constructor;rintro⟨t,c,k⟩;have a:t<64/\b t=true:=cR.1 (by rw[h];simp[c]);cases g:iF b k0 m with
 | false=>rfl
 | true =>have:=ku.1 g t a.1 a.2 k;subst this;exact absurd (j.1 t c) qD
 intro g;have:¬ ∀t,t<64->b t=k0->m&&&t=m->t=m:=λh=>by rw[ku.2 h]at g;cases g
 have⟨t,c⟩:=Classical.not_forall.1 this;have s:t<64:=aC λh=>c λd=>absurd d h;have d:b t=true:=aC λh=>c λ_ d=>absurd d h;have n:m&&&t=m:=aC λh=>c λ_ _ d=>absurd d h;have o:t≠m:=λe=>c λ_ _ _=>e;have q:=ry s p.1 n (Ne.symm o);have a:t∈l++m::i:=h ▸ cR.2 ⟨s,d⟩;rcases List.mem_append.1 a with a|a
 have:=f.2.2 t a m sp;unfold rx at this;omega;rcases List.mem_cons.1 a with a|a;exact absurd a o;exact⟨t,a,n⟩
theorem mS(M:F<18446744073709551616):AC prog 209 [dv F] (.fr 3 1 (iL (bl (dI F.testBit k0)))):=by
 refine cA [.tmp 2] func209 λS=>?_;refine aR (aa (lP F M) ?_);refine cZ @ap ?_;have I:=ordN_len F.testBit;have w:∀k,k<lh (co F.testBit)->lg (co F.testBit) k 0<64:=λk b=>(cR.1 (aP 0 b)).1;have E:∀k,k<lh (co F.testBit)->((∃t,t∈(co F.testBit).drop (k+1)/\(co F.testBit).getD k 0&&&t=lg (co F.testBit) k 0)↔iF F.testBit k0 (lg (co F.testBit) k 0)=l0):=λk b=>zj1 (zbz b);unfold dI;generalize co F.testBit=all at *;refine az (λ((k,v,H):Nat×Nat×Bool) s=>(s.sl 3=.own 11 1/\s.rw 11=⟨1,.sli 3 1 H (iL (bl all))⟩/\s.sl 4=.own 4 v/\s.rw 4=⟨v,.sli 3 1 l0 (iL (bl ((all.take k).filter (iF F.testBit k0))))⟩/\s.sl 12=.own 11 1/\s.sl 13=al (lh all)/\s.sl 14=al k)/\(k<=lh all)) (λ(k,v,H)=>lh all-k) ((0,1,l0)) ⟨(jX @ap),sp⟩ ?_;intro(k,v,H) U ⟨o,O⟩;have J:lh ((all.take k).filter (iF F.testBit k0))<=k:=aJ OB (by simp;omega);by_cases b:k<lh all;have V:=w k b;have m:lg (bl all) k 0=((lg all k 0:Nat):Int):=bX b;have a:=ak b om;have y:∀j,j<lh (all.drop (k+1))->(lg (all.drop (k+1)) j 0)<64/\(bl (all.drop (k+1))).getD j 0=((lg (all.drop (k+1)) j 0:Nat):Int):=λj D=>⟨by
  grind,bX D⟩
 have P:lh (all.drop (k+1))<=448:=by simp;omega
 have g:∀j,j<lh (all.drop (k+1))->(gU .i64 (lg all k 0:Nat) (lg (bl (all.drop (k+1))) j 0)=0↔all.getD k 0&&&(all.drop (k+1)).getD j 0=lg all k 0):=λj D=>by have Q:=y j D;rw[Q.2,fv om om,<- gW];omega
 have l:(bl all).drop (k+1)=bl (all.drop (k+1)):=by unfold bl;rw[List.map_drop]
 have q:=E k b;have x:iF F.testBit k0 (lg all k 0)=k0->bl ((all.take (k+1)).filter (iF F.testBit k0))=bl ((all.take k).filter (iF F.testBit k0))++[((lg all k 0:Nat):Int)]:=λh=>by rw[ny b h,cI,jZ]
 have G:iF F.testBit k0 (lg all k 0)=l0->bl ((all.take (k+1)).filter (iF F.testBit k0))=bl ((all.take k).filter (iF F.testBit k0)):=λh=>by rw[qv b h]
 cases H with
 | false =>
   refine Cn o @ap m a @ar l ?_;refine⟨λ_=>⟨b,b,om,?_⟩,λh=>absurd b h⟩;refine az (λ(j:Nat)s=>(s.sl 3=.own 11 1/\s.rw 11=⟨1,.sli 3 1 k0 (iL (bl all))⟩/\s.sl 4=.own 4 v/\s.rw 4=⟨v,.sli 3 1 l0 (iL (bl ((all.take k).filter (iF F.testBit k0))))⟩/\s.sl 12=.own 11 1/\s.sl 13=al (lh all)/\s.sl 14=al k/\s.sl 6=al (lg all k 0:Nat)/\s.sl 7=.v (.bool l0)/\s.sl 22=.sl k0 1 (iL (bl (all.drop (k+1))))/\s.sl 23=al (all.drop (k+1)).length/\s.sl 24=al j)/\(j<=(all.drop (k+1)).length/\∀i,i<j->lg all k 0&&&(all.drop (k+1)).getD i 0≠all.getD k 0)) (λj=>lh (all.drop (k+1))-j) (0) ⟨(DM o @ap m a l),sp⟩ ?_;intro j R ⟨r,z⟩;obtain⟨D,c⟩:=z;refine ox r @ap m a ?_;refine⟨λd=>⟨d,d,λu=>?_,λu=>?_⟩,λd=>?_⟩;have p:=(g j d).1 (ss u);have A:=q.1 ⟨_,aP 0 d,p⟩;have e:=G A;exact ah ((k+1,v,k0)) ⟨(rS o r a e),by dsimp only;omega⟩;have p:¬all.getD k 0&&&(all.drop (k+1)).getD j 0=lg all k 0:=λh=>by rw[(g j d).2 h]at u;simp at u
   have B:=ak d om;exact ah (j+1) ⟨(gE r B),⟨om,λi n=>by rcases Nat.lt_succ_iff_lt_or_eq.1 n with n|rfl;exact c i n;exact p⟩⟩;have A:iF F.testBit k0 (lg all k 0)=true:=by
    cases K:iF F.testBit k0 (lg all k 0)with
    | true=>rfl
    | false =>obtain⟨t,L,C⟩:=q.2 K;obtain⟨i,n,rfl⟩:=eX 0 L;exact absurd C (c i om)
   have e:=x A;exact⟨om,ah ((k+1,v+1,k0)) ⟨(rS o r a e),by dsimp only;omega⟩⟩
 | true =>
   refine Cn o @ap m a @ar l ?_;refine⟨λ_=>⟨b,b,om,?_⟩,λh=>absurd b h⟩;refine az (λ(j:Nat)s=>(s.sl 3=.own 11 1/\s.rw 11=⟨1,.sli 3 1 k0 (iL (bl all))⟩/\s.sl 4=.own 4 v/\s.rw 4=⟨v,.sli 3 1 l0 _⟩/\s.sl 12=.own 11 1/\s.sl 13=al (lh all)/\s.sl 14=al k/\s.sl 6=al (lg all k 0:Nat)/\s.sl 7=.v (.bool l0)/\s.sl 22=.sl k0 1 (iL (bl (all.drop (k+1))))/\s.sl 23=al (all.drop (k+1)).length/\s.sl 24=al j)/\(j<=(all.drop (k+1)).length/\∀i,i<j->lg all k 0&&&(all.drop (k+1)).getD i 0≠all.getD k 0)) (λj=>lh (all.drop (k+1))-j) (0) ⟨(DM o @ap m a l),sp⟩ ?_;intro j R ⟨r,z⟩;obtain⟨D,c⟩:=z;refine ox r @ap m a ?_;refine⟨λd=>⟨d,d,λu=>?_,λu=>?_⟩,λd=>?_⟩;have p:=(g j d).1 (ss u);have A:=q.1 ⟨_,aP 0 d,p⟩;have e:=G A;exact ah ((k+1,v,k0)) ⟨(rS o r a e),by dsimp only;omega⟩;have p:¬all.getD k 0&&&(all.drop (k+1)).getD j 0=lg all k 0:=λh=>by rw[(g j d).2 h]at u;simp at u
   have B:=ak d om;exact ah (j+1) ⟨(gE r B),⟨om,λi n=>by rcases Nat.lt_succ_iff_lt_or_eq.1 n with n|rfl;exact c i n;exact p⟩⟩;have A:iF F.testBit k0 (lg all k 0)=true:=by
    cases K:iF F.testBit k0 (lg all k 0)with
    | true=>rfl
    | false =>obtain⟨t,L,C⟩:=q.2 K;obtain⟨i,n,rfl⟩:=eX 0 L;exact absurd C (c i om)
   have e:=x A;exact⟨om,ah ((k+1,v+1,k0)) ⟨(rS o r a e),by dsimp only;omega⟩⟩
 refine ff o @ap ?_;grind
theorem mR(a:c<18446744073709551616):AC prog 121 [al n,dv c] (.ag [.im (al n),.fr 3 1 (iL (bl (dI c.testBit k0)))]):=by refine cA [.cell 4 26] func121 λb=>?_;refine aR<|aa (mS c a) ?_;exact ef
def kW(a:N0)(s:Nat):Bool:=a.all λx=>!(x.toNat&&&s==x.toNat)
theorem zb8{k s:Nat}(h:k<lh d):kW (d.take (k+1)) s=(kW (d.take k) s&&!((lg d k 0).toNat&&&s==(lg d k 0).toNat)):=by simp[kW,bj 0 h]
theorem zb9(a:0<=k/\k<64){s:Nat}(b:s<64):(fu .i64 k (s:Int) != k)=!(k.toNat&&&s==k.toNat):=by have e:k=k.toNat:=om;rw[e,ej om om];grind
noncomputable def apF(n:Int)(a:N0)(s:Nat):Bool:=decide (s<2^n.toNat)&&kW a s
theorem QF(C:F<=6)(D:Uu a):AC prog 244 [al F,aE a] (.ag [.im (al F),.fr 3 1 (iL (bl (dI (apF F a) k0)))]):=by
 refine cA [.cell 4 26] func244 λE=>?_;simp only[dt,dT,dF,gb,jt,hZ,ga,kQ,cC]at E;have n:=dx C;have x:jl .i64 1 (F:Int)=((2^F:Nat):Int):=eh C;have y:I0 .u64 (F:Int)=(F:Int):=dm om;refine aR ?_;refine az (λ((t,v):Nat×Nat) s=>(s.sl 0=al F/\s.sl 1=aE a/\s.sl 4=.ref 4 1 0/\s.rw 4=⟨1,.box 26 [al 0,.v (.slice none 0 0)]⟩/\s.sl 5=.own 9 v/\s.rw 9=⟨v,.sli 3 1 l0<|iL<|bl<|(lc t).filter<|kW a⟩/\s.sl 6=al t)/\(t<=2^F)) (λ(t,v)=>2^F-t) ((0,1)) ⟨nm,sp⟩ ?_;intro(t,v) N ⟨u,H⟩;have I:lh ((lc t).filter<|kW a)<=64:=by have:=aO (kW a)<|lc t;rw[bp]at this;omega
 refine iD u x y ?_;refine⟨λh=>?_,λh=>?_⟩;have w:kW a t=k0->bl ((lc<|t+1).filter<|kW a)=bl ((lc t).filter<|kW a)++[(t:Int)]:=λh=>by rw[bW,aW,cI];simp[h,bl]
 have z:kW a t=l0->bl ((lc<|t+1).filter<|kW a)=bl ((lc t).filter<|kW a):=λh=>by rw[bW,aW,cI];simp[h,bl]
 have J:kW (a.take 0) t=true:=rfl;refine az (λ(k:Nat)s=>(s.sl 0=al F/\s.sl 1=aE a/\s.sl 4=.ref 4 1 0/\s.rw 4=⟨1,.box 26 [al 0,.v (.slice none 0 0)]⟩/\s.sl 5=.own 9 v/\s.rw 9=⟨v,.sli 3 1 l0<|iL<|bl<|(lc t).filter<|kW a⟩/\s.sl 6=al t/\s.sl 7=.v (.bool<|kW (a.take k) t)/\s.sl 8=al k)/\(k<=lh a)) (λk=>lh a-k) (0) ⟨(gE u J),om⟩ ?_;intro k O ⟨⟨c,d,f,g,j,l,m,b,o⟩,K⟩;by_cases p:k<lh a;have q:=zb8 (s:=t) p;have r:=zb9 (HC D p) (s:=t) om;simp only[↓gp,gq,simprocAttr,gT,c,d,f,g,j,l,m,b,o,r];refine⟨λ_=>⟨kr,λA=>⟨p,p,p,p,?_⟩,λA=>?_⟩,λh=>absurd p h⟩;rw[A,au]at q;exact ah (k+1) ⟨(by and_intros<;>(first|(simp only[gr,simprocAttr,c,d,f,g,j,l,m,b,o,ak p om,q];first|done|rfl|(simp;done))|assumption|rfl)),om⟩;rw[A,ce]at q;exact ah (k+1) ⟨(by and_intros<;>(first|(simp only[gr,simprocAttr,c,d,f,g,j,l,m,b,o,ak p om,q];first|done|rfl|(simp;done))|assumption|rfl)),om⟩;have L:a.take k=a:=bK om;rw[L]at b;simp only[↓gp,gq,simprocAttr,gT,c,d,f,g,j,l,m,b,o];refine⟨λh=>absurd h p,λ_=>⟨λB=>?_,λB=>?_⟩⟩;have e:=w B;exact⟨by rw[ap];omega,ah ((t+1,v+1)) ⟨(by and_intros<;>(first|(simp only[gr,simprocAttr,u,c,d,f,g,j,l,m,b,o,ak h om,e];first|done|rfl|(simp;done))|assumption|rfl)),by dsimp only;omega⟩⟩;have e:=z B;exact ah ((t+1,v)) ⟨(by and_intros<;>(first|(simp only[gr,simprocAttr,u,c,d,f,g,j,l,m,b,o,ak h om,e];first|done|rfl|(simp;done))|assumption|rfl)),by dsimp only;omega⟩;have:t=2^F:=om;subst this;refine aa (eV F _<|CU λi M=>?_) ?_;have:=List.mem_range.1 (List.mem_filter.1 M).1;omega;have e:hU (bl<|(lc<|2^F).filter<|kW a)=apF F a:=by funext s;exact znb
 rw[e];exact mg u
def Bu(f:V0)(c:Nat)(k:Nat):O0:=(lc k).filter λt=>f t&&(t&&&c==c)&&t != c
theorem zoq:Bu f c 64=wZ f c:=rfl
theorem zor{f:V0}{c k:Nat}(h:(f k&&(k&&&c==c)&&k != c)=k0):Bu f c (k+1)=Bu f c k++[k]:=by simp[Bu,bW,h]
theorem zrq{k:Nat}(h:(b k&&(k&&&m==m)&&k != m)=l0):Bu b m (k+1)=Bu b m k:=by simp[Bu,bW,h]
theorem zos(a:m<=64):lh (Bu f c m)<=(wZ f c).length:=by
 have e:lc 64=lc m++(lc<|64-m).map (m+·):=by rw[<- List.range_add];congr 1;omega
 unfold Bu wZ;grind
def zeE(l:O0):Int:=if (lh l)=1 then((lg l 0 0:Nat):Int)else -1
theorem zue:zeE [F]=(F:Int):=rfl
theorem sN(z:F<18446744073709551616)(C:c<64) :
 AC prog 196 [dv F,al c] (.tup [.im (al (if(wZ F.testBit c).length<=1 then zeE (wZ F.testBit c)else 0)),.im (aU (kx F.testBit c))]):=by
 refine cA [.tmp 4,.tmp 5] func196 λD=>?_
 simp only[↓gp,gq,simprocAttr,gT]
 refine az (λ(k:Nat)s=>s.sl 0=dv F/\s.sl 1=al c/\s.sl 6=al (zeE (Bu F.testBit c k))/\s.sl 7=al k/\(k<=64/\(Bu F.testBit c k).length<=1)) (λk=>64-k) (0) (by refine⟨?_,?_,?_,?_,⟨om,by simp[Bu]⟩⟩<;>(first|(simp only[gr,simprocAttr];first|done|rfl|(simp;done))|assumption|rfl)) ?_
 intro k E ⟨a,b,d,g,u⟩
 have⟨G,i⟩:=u
 by_cases m:k<64
 have j:(gU .i64 (c:Int) (k:Int)==0)=(k&&&c==c):=by rw[fv om om,aZ,aK,aK];have:=@gW c k;rw[cl k c];omega
 have n:((k:Int) != (c:Int))=(k != c):=by rw[aZ,gS,gS];omega
 simp only[↓gp,gq,simprocAttr,gT,a,b,d,g,n,j];have l:(F.testBit k&&(k&&&c==c)&&k != c)=l0->Bu F.testBit c (k+1)=Bu F.testBit c k:=zrq;have o:=zos F.testBit c (show k+1<=64 by omega);have r:=ak m (show 64<=9223372036854775807 by omega);refine⟨λ_=>⟨λw=>⟨λx=>aa (ez F k z m) ?_,λx=>?_⟩,λw=>?_⟩,λh=>absurd (show(k:Int)<64 by omega) h⟩
 simp only[↓gp,gq,simprocAttr,gT,a,b,d,g,n,j];refine⟨λy=>?_,λy=>?_⟩
 have t:=zor (f:=F.testBit) (c:=c) (k:=k) (by rw[w,x,y];rfl);refine⟨λp=>?_,λp=>?_⟩
 have q:lh (Bu F.testBit c k)=1:=by unfold zeE at p;split at p;assumption;omega
 have A:2<=(wZ F.testBit c).length:=by rw[t,aA,q]at o;exact o
 rw[ac om];refine⟨rfl,?_⟩;unfold kx;exact beq_eq_false_iff_ne.2 om
 have B:Bu F.testBit c k=[]:=by refine aL ?_;unfold zeE at p;split at p;omega;omega
 rw[B,eg]at t;exact ah (k+1) (by refine⟨?_,?_,?_,?_,⟨om,by rw[t];exact ab _⟩⟩<;>(first|(simp only[gr,simprocAttr,a,b,d,g,r,t,zue];first|done|rfl|(simp;done))|assumption|rfl)) (by first|omega|(simp only;omega)|(dsimp only;omega)|(show _<_;simp;omega))
 have e:=l (by rw[y];rfl);exact ah (k+1) (by refine⟨?_,?_,?_,?_,⟨om,by rw[e];exact i⟩⟩<;>(first|(simp only[gr,simprocAttr,a,b,d,g,r,e];first|done|rfl|(simp;done))|assumption|rfl)) (by first|omega|(simp only;omega)|(dsimp only;omega)|(show _<_;simp;omega))
 have e:=l (by rw[x];simp);exact ah (k+1) (by refine⟨?_,?_,?_,?_,⟨om,by rw[e];exact i⟩⟩<;>(first|(simp only[gr,simprocAttr,a,b,d,g,r,e];first|done|rfl|(simp;done))|assumption|rfl)) (by first|omega|(simp only;omega)|(dsimp only;omega)|(show _<_;simp;omega))
 have e:=l (by rw[w];simp);exact ah (k+1) (by refine⟨?_,?_,?_,?_,⟨om,by rw[e];exact i⟩⟩<;>(first|(simp only[gr,simprocAttr,a,b,d,g,r,e];first|done|rfl|(simp;done))|assumption|rfl)) (by first|omega|(simp only;omega)|(dsimp only;omega)|(show _<_;simp;omega))
 obtain rfl:k=64:=om;rw[zoq]at *;simp (maxSteps:=9^7) -dsimp only[↓gp,gq,reduceCtorEq,lj,lm,lp,ll,lu,lr,lw,lz,lA,lB,lC,lk,gT,a,b,d,g];refine⟨λh=>absurd h dc,λ_=>?_⟩;rw[ae i];refine⟨rfl,?_⟩;unfold kx zeE;split
 rename_i h;rw[h];simp
 rename_i h;rw[beq_eq_false_iff_ne.2 h];simp
theorem Cg(m:F<18446744073709551616):AC prog 134 [dv F] (.fr 3 1 (iL (bl (eN F.testBit)))):=by
 refine cA [.tmp 2] func134 λr=>?_;refine aR (aa (lP F m) ?_);have a:=ap (co F.testBit);have g:=ordN_len F.testBit;have b:=λi (n:i<lh (co F.testBit))=>(cR.1 (aP 0 n)).1;have c:eN _=(co F.testBit).filter _:=rfl;rw[c];generalize co F.testBit=all at *;refine cZ a ?_;refine az (λ(k,v)s=>(s.sl 0=dv F/\s.sl 3=.own 3 v/\s.rw 3=⟨v,.sli 3 1 l0 (iL (bl ((all.take k).filter (kx F.testBit))))⟩/\s.sl 9=.own 9 1/\s.rw 9=⟨1,.sli 3 1 l0 (iL (bl all))⟩/\s.sl 10=al (lh all)/\s.sl 11=al k)/\(k<=lh all)) (λ(k,v)=>lh all-k) ((0,1)) ⟨(jX a),om⟩ ?_;intro(k,v) t ⟨f,p⟩;have q:lh ((all.take k).filter (kx F.testBit))<=k:=aJ (aO _ _) (by rw[bg];omega);refine ff f a ?_;refine⟨λh=>?_,λh=>?_⟩;have j:=b k h;rw[bX h];refine⟨h,h,aa (sN F _ m j) ?_⟩;have d:(all.take (k+1)).filter (kx F.testBit)=(all.take k).filter (kx F.testBit)++[lg all k 0].filter (kx F.testBit):=by rw[bj 0 h,aW]
 refine iD f a (bX h) ?_;refine⟨λl=>⟨by rw[ap];omega,?_⟩,λl=>?_⟩;have e:bl ((all.take (k+1)).filter (kx F.testBit))=bl ((all.take k).filter (kx F.testBit))++[((lg all k 0:Nat):Int)]:=by rw[d,cI,bF,ae l,dH];rfl
 exact ah ((k+1,v+1)) ⟨(fB f (ak h (by omega)) e),om⟩;have e:(all.take (k+1)).filter (kx F.testBit)=(all.take k).filter (kx F.testBit):=by grind
 exact ah ((k+1,v)) ⟨(fB f (ak h (by omega)) e),om⟩;grind
theorem Ii{l:O0}(h:0<lh l):lg (bl l) (lh l-1) 0=((pe l:Nat):Int):=bX om
noncomputable def zeF(a:N0):(V0)×O0:=QB 64 (ao a) []
theorem zot:zbY f<=64:=aO f<|lc 64
theorem kz:bA f 64<18446744073709551616:=by have:=dj f 64;grind
theorem jq:∀s,s<64->(bA f 64).testBit s=f s:=λs a=>by rw[mM,ay a,au]
theorem UZ{b:Nat}(c:m<18446744073709551616)(d:b<18446744073709551616):gU .u64 (m:Int) (b:Int)=((m ^^^ (m&&&b):Nat):Int):=by
 have e:∀{x:Nat},x<18446744073709551616->(BitVec.ofInt 64 x).toNat=x:=λ{x}j=>by grind
 have h:BitVec.ofInt 64 m&&&~~~ BitVec.ofInt 64 b=BitVec.ofInt 64 m ^^^ (BitVec.ofInt 64 m&&&BitVec.ofInt 64 b):=by grind
 show I0 .u64 (((BitVec.ofInt 64 _&&&~~~ BitVec.ofInt 64 _).toNat:Nat):Int)=_;rw[h,BitVec.toNat_xor,kG,e c,e d];have f:m&&&b<2^64:=Nat.and_lt_two_pow _<|ss d;exact dm<|ss (gR (ss c) f)
theorem Du :
 AC prog 103 [.ag [al n,aE a]] (.tup [.ag [.im (al (if aS n a=k0 then n else 0)),.fr 3 1 (iL (if aS n a=k0 then bl (dI (zeF a).1 k0)else []))],.fr 3 1 (iL (if aS n a=k0 then bl (zeF a).2 else [])),.im (aU (aS n a))]):=by
 refine cA [.cell 2 26,.tmp 3,.tmp 4] func103 λU=>?_
 refine aR ?_
 refine aa (aH n a) ?_
 refine aR ?_
 refine⟨λg=>?_,λg=>?_⟩
 have g:aS n a=false:=ss g
 rw[g];exact⟨rfl,rfl,rfl,rfl⟩
 have g:aS n a=true:=ss g
 rw[g];refine aa (cj n a<|dM g) ?_;refine aR ?_;refine az (λ((f,l,m,v):(V0)×O0×Nat×Nat) s=>(s.sl 1=.ref 1 1 0/\s.rw 1=⟨1,.box 26 [al n,aE a]⟩/\s.sl 2=.ref 2 1 0/\s.rw 2=⟨1,.box 26 [al 0,.v (.slice none 0 0)]⟩/\s.sl 5=dv (bA f 64:Nat)/\s.sl 6=.own 6 v/\s.rw 6=⟨v,.sli 3 1 l0<|iL<|bl l⟩)/\(QB m f l=zeF a/\zbY f<=m/\l.length+m<=64)) (λ(f,l,m,v)=>m) ((ao a,[],64,1)) ⟨nm,⟨rfl,zot _,sp⟩⟩ ?_;intro(f,l,m,v) V ⟨j,F⟩;obtain⟨c,w,I⟩:=F;have G:eN (bA f 64).testBit=eN f:=tM<|jq f;have P:=vQ f;refine cZ j<|aa (Cg (bA f 64)<|kz f) ?_;rw[G];have k:=ap<|eN f;have o:=vO (f:=f);have i:dI (bA f 64).testBit k0=dI f true:=je (jq f) k0;by_cases p:lh (eN f)=0
 have r:lJ f=true:=by unfold lJ;rw[p];rfl
 have x:=o r l m;rw[c]at x;refine ox j k p (show(((0:Nat):Int)==0)=k0 from rfl)<|aa (mR n (bA f 64)<|kz f) ?_;rw[i,x];exact mg j
 have y:I0 .i64 (((eN f).length:Int)-1)=((lh (eN f)-1:Nat):Int):=by rw[aF om om];omega
 have z:(((eN f).length:Int)==0)=false:=beq_eq_false_iff_ne.2 om;have d:=Ii (l:=eN f) om;refine Cn j k y z @ar d ?_;refine⟨om,om,λD=>?_,λD=>?_⟩
 have r:lJ f=true:=by
  unfold lJ;grind
 have x:=o r l m;rw[c]at x;refine aa (mR n (bA f 64)<|kz f) ?_;rw[i,x];exact mg j
 have r:lJ f=false:=by unfold lJ;grind
 obtain⟨c1,c2,H,W,X⟩:=vP r;obtain⟨Y,Z,p3,p4⟩:=zhU H;have K:=Xc r;obtain⟨E,rfl⟩:∃E,m=E+1:=⟨m-1,om⟩;obtain⟨t,u⟩:=Ie r l w;generalize Q:pe (eN f)=b at *;refine⟨om,om,aa (sN (bA f 64) b (kz f) c1) ?_⟩;rw[Pa<|jq f,zb0<|jq f,zeo H];have A:(if [xa f b].length<=1 then zeE [xa f b]else 0)=((xa f b:Nat):Int):=rfl;rw[A];have B:I0 .u64 (b:Int)=(b:Int):=dm om;have C:I0 .u64 (xa f b:Int)=(xa f b:Int):=dm om;have L:(2:Nat)^b<2^64:=bN om om;have M:(2:Nat)^xa f b<2^64:=bN om om;have R:2^b|||2^xa f b<2^64:=cu L M
 have N:gU .u64 (bA f 64:Nat) (EX .u64 (jl .u64 1 (b:Int))<|jl .u64 1 (xa f b:Int))=((bA (pB f b) 64:Nat):Int):=by rw[yU om,yU om,Ca (ss L)<|ss M,UZ (kz f)<|ss R,zre c1 H]
 simp only[↓gp,gq,simprocAttr,gT,j,k,y,z,ar,d,B,C,N];have S:bl (l++[b])=bl l++[(b:Int)]:=cI l [b];refine⟨by rw[ap];omega,ah ((pB f b,l++[b],E,v+1)) ⟨(DM j B C N S),⟨by rw[<- t];exact c,u,by show(l++[b]).length+E<=64;rw[aA,cG];omega⟩⟩⟩
theorem zel{m:Nat}(o:1<=m)(y:m<=6)(w:∀s,s<64->b s=k0->s<2^m):aS (m:Int) (bl (dI b k0))=true:=by
 refine vA ⟨(by omega:(1:Int)<=(m:Int)),(by omega:(m:Int)<=6),λk d=>?_⟩;rw[ap]at d;have p:=Ft b k0;have c:=λi (q:i<lh (dI b k0))=>ja.1<|aP 0 q;generalize dI b k0=g at *;have h:∀i j,i<j->j<lh g->rx (lg g i 0) (lg g j 0):=λi j r t=>by
  have:=List.pairwise_iff_getElem.1 p i j om t r;have a:lg g i 0=g[i]'om:=by simp[lg,show i<lh g by omega]
  have f:lg g j 0=g[j]:=by simp[lg,t]
  rw[a,f];exact this
 refine⟨?_,λz=>?_,λi q=>?_⟩;have o:=c k d;have x:=w _ o.1.1 o.1.2;rw[bX d];unfold di;rw[aq];refine⟨om,om,om,?_⟩;rw[iM];exact_mod_cast x;rw[bX d,bX om];have n:=h (k-1) k om d;have:=(c k d).1.1;have:=(c (k-1) om).1.1;unfold rQ;unfold rx at n;rw[jb om,jb om];simp only[aj,aq];refine⟨om,om,?_⟩;split;rw[aq];omega;rw[aq];omega;have u:=(c i om).1.1;have l:=(c k d).1;rw[bX d,bX om,ej om om];intro e;have:=ku.1 (c i om).2 (lg g k 0) l.1 l.2 om;have n:=h i k q d;rw[this]at n;exact qD n
theorem zC:hU a c=decide ((c:Int)∈a):=rfl
noncomputable def zq6(n:Int)(a:N0):N0:=(bl (mw n a)).map (sy n)
noncomputable def zjI(n:Int)(a:N0):N0:=bl (dI (hU (zq6 n a)) k0)
theorem zhQ(h:aS (m:Int) d=k0)(t:Nat) :
 (t:Int)∈zq6 m d↔∃u,u<2^m/\ao d u=l0/\(∀v,v<2^m->ao d v=l0->v&&&u=v->v=u)/\t=2^m-1-u:=by
 obtain⟨A,B,_⟩:=cY.1 h
 have r:=dx (m:=m) om
 have c:∀s:Nat,oo m d s=k0↔s<2^m/\ao d s=false:=λs=>by unfold oo di;rw[h,au,aj,aq,bC,iM];exact⟨λ⟨⟨_,_,_,a⟩,b⟩=>⟨om,b⟩,λ⟨a,b⟩=>⟨⟨om,om,om,om⟩,b⟩⟩
 have g:∀s:Nat,s<2^m->sy m s=((2^m-1-s:Nat):Int):=λs n=>by
  have j:di m s=true:=by unfold di;rw[aq,iM];exact⟨om,om,om,om⟩
  unfold sy;rw[ae j,iM];omega
 unfold zq6
 rw[dX]
 refine⟨λ⟨x,o,e⟩=>?_,λ⟨u,p,k,i,e⟩=>?_⟩
 unfold bl at o;obtain⟨s,n,rfl⟩:=List.mem_map.1 o;obtain⟨⟨C,w⟩,y⟩:=ja.1 n;obtain⟨a,b⟩:=(c s).1 w;rw[g s a]at e;exact⟨s,a,b,λv q l f=>so.1 y v om ((c v).2 ⟨q,l⟩) f,om⟩
 refine⟨u,?_,by rw[g u p,e]⟩;unfold bl;refine List.mem_map.2 ⟨u,ja.2 ⟨⟨om,(c u).2 ⟨p,k⟩⟩,so.2 λv q z f=>?_⟩,rfl⟩;obtain⟨a,b⟩:=(c v).1 z;exact i v a b f
theorem zt5(h:aS (m:Int) d=k0):aS (m:Int) (zjI m d)=true:=by obtain⟨c,a,_⟩:=cY.1 h;refine zel om om λs e b=>?_;rw[zC,aq]at b;obtain⟨u,f,_,_,rfl⟩:=(zhQ h s).1 b;omega
theorem zn3(h:aS (m:Int) d=k0){s:Nat}(c:s<64):ao (zjI m d) s=Cb m (ao d) s:=by have⟨e,f,_⟩:=cY.1 h;rw[zjI,vv];exact zdR om (λs t a b=>pZ a b) (λt=>zhQ h t) c
def qU(a:N0)(s:Nat):N0:=(a.filter λx=>fu .i64 x s==(s:Int)).map λx=>x-s
theorem zhR(g:Uu d)(j:m<64)(v:Nat):(v:Int)∈qU d m↔∃x∈d,x.toNat&&&m=m/\v=x.toNat-m:=by
 have c:∀x∈d,fu .i64 x m=x.toNat&&&m:=λx h=>by have:=g x h;rw[<- ej om om];grind
 rw[qU,dX];refine⟨λ⟨x,s,e⟩=>?_,λ⟨x,s,i,e⟩=>?_⟩;grind;refine⟨x,List.mem_filter.2 ⟨s,by grind⟩,?_⟩;have:=g x s;have:m<=x.toNat:=by rw[<- i];exact bI
 omega
theorem OV(h:aS (m:Int) d=k0){s:Nat}(c:s<64):aS (m:Int) (bl (dI (hU (qU d s)) k0))=true:=by obtain⟨g,j,a⟩:=cY.1 h;refine zel om om λt k b=>?_;rw[zC,aq]at b;obtain⟨x,e,_,rfl⟩:=(zhR (dM h) c t).1 b;obtain⟨i,f,rfl⟩:=eX 0 e;have:=(a i f).1;unfold di at this;grind
theorem zhS(h:aS (m:Int) d=k0){s:Nat}(b:s<64)(t:Nat):ci m (bl (dI (hU (qU d s)) k0)) t=dL (ao d) s t:=by rw[ci,OV h b,vv];exact zdS (λx c=>by have:=dM h x c;omega) b (λv=>zhR (dM h) b v) t
theorem Xl(h:l.Pairwise rx):l.Nodup:=h.imp λ{a b}c e=>by subst e;exact qD c
theorem zoo{b:O0}(c:l.Pairwise rx)(d:b.Pairwise rx)(h:∀s,s∈l↔s∈b):l=b :=
 List.Perm.eq_of_pairwise (λx y _ _ e f=>by unfold rx at e f;omega) c d<|(dn (Xl c)<|Xl d).2 h
theorem zj0:(co f).Perm ((lc 64).filter f) :=
 (dn (Xl<|wK f)<|List.Pairwise.filter _ dC).2 λs=>by rw[cR,dG,eJ]
theorem zrp:lh ((co f).filter λt=>(t&&&c==c)&&t != c)=(wZ f c).length:=by rw[((zj0 f).filter _).length_eq,ou];unfold wZ;grind
theorem xe(h:aS k d=k0):d=bl (dI (ao d) k0):=by
 have A:=cY.1 h;have e:=dM h;have I:bl (d.map Int.toNat)=d:=by
  unfold bl;rw[fj];have:∀x∈d,((λs:Nat=>(s:Int))∘Int.toNat) x=id x:=λx l=>by have:=e x l;show((x.toNat:Nat):Int)=x;omega
  rw[cO this,JT]
 have B:(d.map Int.toNat).Pairwise rx:=by refine List.pairwise_iff_getElem.2 λi j p q f=>?_;have r:i<lh d:=ss p;have m:j<lh d:=ss q;have c:=HE A j i f m;rw[fU 0 r,fU 0 m]at c;have a:=e _ (bx r);have b:=e _ (bx m);rw[aM,aM];generalize d[i]=x at *;generalize d[j]=y at *;unfold rQ at c;rw[nA a,nA b]at c;simp only[aj,aq]at c;obtain⟨_,_,c⟩:=c;unfold rx;split at c;rw[aq]at c;omega;rw[aq]at c;omega
 have C:d.map Int.toNat=dI (ao d) true:=by
  refine zoo B (Ft _ _) λs=>?_;rw[ja];have g:∀t,ao d t=k0↔∃x∈d,x.toNat&&&t=t:=λt=>by unfold ao;rw[cS];exact⟨λ⟨x,D,E⟩=>⟨x,D,ss E⟩,λ⟨x,D,E⟩=>⟨x,D,ss E⟩⟩
  have u:∀x∈d,∀y∈d,x.toNat&&&y.toNat=x.toNat->x=y:=λx l y o n=>by
   obtain⟨i,p,rfl⟩:=eX 0 l;obtain⟨j,q,rfl⟩:=eX 0 o;rcases Nat.lt_trichotomy i j with f|f|f
   have:=(A.2.2 j q).2.2 i f;have a:=e _ (aP 0 p);have b:=e _ (aP 0 q);refine absurd ?_ this;have J:lg d i 0=(((lg d i 0).toNat:Nat):Int):=om;have K:lg d j 0=(((lg d j 0).toNat:Nat):Int):=om;rw[J,K,ej om om,n];rw[f];have c:=HE A i j f p;have a:=e _ (aP 0 p);have b:=e _ (aP 0 q);by_cases F:lg d i 0=lg d j 0;exact F;have:=ry (s:=(lg d j 0).toNat) (t:=(lg d i 0).toNat) om om n om;unfold rQ at c;rw[nA a,nA b]at c;simp only[aj,aq]at c;obtain⟨_,_,c⟩:=c;split at c;rw[aq]at c;omega;rw[aq]at c;omega
  constructor;intro c;obtain⟨x,l,rfl⟩:=List.mem_map.1 c;have a:=e x l;refine⟨⟨om,(g _).2 ⟨x,l,dp _⟩⟩,ku.2 λt O G w=>?_⟩;grind;rintro⟨⟨L,M⟩,N⟩;obtain⟨y,o,H⟩:=(g s).1 M;have b:=e y o;have:=ku.1 N y.toNat om ((g _).2 ⟨y,o,dp _⟩) (by rw[cl];exact H);rw[<- this];exact List.mem_map.2 ⟨y,o,rfl⟩
 rw[<- C,I]
theorem KE(a:O0)(c:Nat)(w:∀g∈a,g<64)(D:c<64)(x:lh a<=1000000):AC prog 258 [aE (bl a),al c] (.fr 3 1 (iL (bl (a.filter λt=>(t&&&c==c)&&t != c)))):=by
 refine cA [.tmp 4] func258 λy=>?_;simp only[dt,dT,dF,kQ,ga,cC,ap]at y;have l:=ap a;refine aR ?_;refine az (λ((k,v):Nat×Nat) s=>(s.sl 0=aE (bl a)/\s.sl 1=al c/\s.sl 5=.own 7 v/\s.rw 7=⟨v,.sli 3 1 l0 (iL (bl ((a.take k).filter λt=>(t&&&c==c)&&t != c)))⟩/\s.sl 6=al k)/\(k<=lh a/\a.length<=1000000)) (λ(k,v)=>lh a-k) ((0,1)) ⟨nm,⟨om,x⟩⟩ ?_;intro(k,v) E ⟨j,m⟩;have⟨F,_⟩:=m;have A:lh ((a.take k).filter λt=>(t&&&c==c)&&t != c)<=k:=aJ (aO _ _) (by rw[bg];omega);generalize n:(λt:Nat=>(t&&&c==c)&&t != c)=q at *;refine ff j l ?_;refine⟨λh=>?_,λh=>?_⟩;have G:=w _ (aP 0 h);have b:q (lg a k 0)=((lg a k 0&&&c==c)&&a.getD k 0 != c):=by rw[<- n]
 have B:(fu .i64 ((lg a k 0:Nat):Int) (c:Int)==(c:Int))=(lg a k 0&&&c==c):=by rw[ej om om,aZ,aK,aK];omega
 have C:(((lg a k 0:Nat):Int) != (c:Int))=(lg a k 0 != c):=by rw[aZ,gS,gS];omega
 have o:=ak h (show (lh a)<=9223372036854775807 by omega);have d:(a.take (k+1)).filter q=(a.take k).filter q++[lg a k 0].filter q:=by rw[bj 0 h,aW]
 have f:q (lg a k 0)=k0->bl ((a.take (k+1)).filter q)=bl ((a.take k).filter q)++[((lg a k 0:Nat):Int)]:=λp=>by rw[d,cI,bF,ae p,dH];rfl
 have i:q (lg a k 0)=l0->(a.take (k+1)).filter q=(a.take k).filter q:=λp=>by rw[d,bF,ac (by rw[p];decide),dH,bh]
 rw[bX h,B];refine⟨h,h,λr=>?_,λr=>?_⟩;rw[C];refine⟨h,h,λu=>?_,λu=>?_⟩;have e:=f (by rw[b,r,u];rfl);refine⟨h,h,by rw[ap];omega,ah ((k+1,v+1)) ⟨(fB j o e),⟨by dsimp only;omega,om⟩⟩⟩;have e:=i (by rw[b,u];simp);exact ah ((k+1,v)) ⟨(fB j o e),⟨by dsimp only;omega,om⟩⟩;have e:=i (by rw[b,r];rfl);exact ah ((k+1,v)) ⟨(fB j o e),⟨by dsimp only;omega,om⟩⟩;have e:k=lh a:=om;subst e;rw[av]
theorem qg:AC prog 176 [.ag [al n,aE a]] (.fr 3 1 (iL (bl (eN (ci n a))))):=by
 refine cA [.tmp 2] func176 λF=>?_;refine aR (aa (io n a) ?_);have f:=ap (co (ci n a));have r:=ordN_len (ci n a);have j:=λi (z:i<lh (co (ci n a)))=>(cR.1 (aP 0 z)).1;have b:∀g∈co (ci n a),g<64:=λg A=>(cR.1 A).1;have u:∀c,(lh ((co (ci n a)).filter λt=>(t&&&c==c)&&t != c)==1)=kx (ci n a) c:=λc=>by rw[zrp];rfl
 have l:eN (ci n a)=(co (ci n a)).filter (kx (ci n a)):=rfl;rw[l];generalize kx (ci n a)=q at *;generalize co (ci n a)=all at *;refine aR ?_;refine az (λ((k,v):Nat×Nat) s=>(s.sl 3=.own 6 v/\s.rw 6=⟨v,.sli 3 1 l0 (iL (bl ((all.take k).filter q)))⟩/\s.sl 4=.own 8 1/\s.rw 8=⟨1,.sli 3 1 l0 (iL (bl all))⟩/\s.sl 5=al k)/\(k<=lh all)) (λ(k,v)=>lh all-k) ((0,1)) ⟨nm,om⟩ ?_;intro(k,v) G ⟨p,C⟩;have D:lh ((all.take k).filter q)<=k:=aJ (aO _ _) (by rw[bg];omega);refine ff p f ?_;refine⟨λh=>?_,λh=>?_⟩;have w:=j k h;have y:=ak h (show (lh all)<=9223372036854775807 by omega);have m:(all.take (k+1)).filter q=(all.take k).filter q++[lg all k 0].filter q:=by rw[bj 0 h,aW]
 rw[bX h];refine⟨h,h,aa (KE all (lg all k 0) b w om) ?_⟩;have E:=u (lg all k 0);have o:=ap (all.filter λt=>(t&&&all.getD k 0==lg all k 0)&&t != lg all k 0);have d:(((all.filter λt=>(t&&&all.getD k 0==lg all k 0)&&t != lg all k 0).length:Int)==1)=q (lg all k 0):=by rw[<- E,aZ,aK,aK];omega
 refine nN p f o (bX h) d ?_;refine⟨λx=>⟨h,h,by rw[ap];omega,?_⟩,λx=>?_⟩;have e:bl ((all.take (k+1)).filter q)=bl ((all.take k).filter q)++[((lg all k 0:Nat):Int)]:=by rw[m,cI,bF,ae x,dH];rfl
 exact ah ((k+1,v+1)) ⟨(fB p y e),by dsimp only;omega⟩;have e:(all.take (k+1)).filter q=(all.take k).filter q:=by rw[m,bF,ac (by rw[x];decide),dH,bh]
 exact ah ((k+1,v)) ⟨(fB p y e),by dsimp only;omega⟩;have e:k=lh all:=om;subst e;rw[av]
theorem ky(G:c<64):AC prog 243 [.ag [al n,aE a],al c] (.ag [.im (al n),.fr 3 1 (iL (bl (dI (pB (ci n a) c) k0)))]):=by
 refine cA [.cell 4 26] func243 λH=>?_;refine aR (aa (io n a) ?_);have m:=ap (co (ci n a));have o:=ordN_len (ci n a);have d:=λi (z:i<lh (co (ci n a)))=>(cR.1 (aP 0 z)).1;have b:∀g∈co (ci n a),g<64:=λg A=>(cR.1 A).1;have f:dI (hU (bl ((co (ci n a)).filter λt=>!(t&&&c==c)))) k0=dI (pB (ci n a) c) true:=by refine je (λs p=>?_) k0;rw[pb,aZ,aq,dG,cR];simp_all[pB,aj]
 rw[<- f];generalize co (ci n a)=all at *;generalize r:(λt:Nat=>!(t&&&c==c))=q at *;refine aR ?_;refine az (λ((k,v):Nat×Nat) s=>(s.sl 1=al c/\s.sl 2=.ref 2 1 0/\s.rw 2=⟨1,.box 26 [al n,aE a]⟩/\s.sl 4=.ref 4 1 0/\s.rw 4=⟨1,.box 26 [al 0,.v (.slice none 0 0)]⟩/\s.sl 5=.own 8 v/\s.rw 8=⟨v,.sli 3 1 l0 (iL (bl ((all.take k).filter q)))⟩/\s.sl 6=.own 10 1/\s.rw 10=⟨1,.sli 3 1 l0 (iL (bl all))⟩/\s.sl 7=al k)/\(k<=lh all)) (λ(k,v)=>lh all-k) ((0,1)) ⟨nm,om⟩ ?_;intro(k,v) I ⟨l,C⟩;have D:lh ((all.take k).filter q)<=k:=aJ (aO _ _) (by rw[bg];omega);refine ff l m ?_;refine⟨λh=>?_,λh=>?_⟩;have E:=d k h;have y:=ak h (show (lh all)<=9223372036854775807 by omega);have j:(all.take (k+1)).filter q=(all.take k).filter q++[lg all k 0].filter q:=by rw[bj 0 h,aW]
 have u:(fu .i64 ((lg all k 0:Nat):Int) (c:Int) != (c:Int))=q (lg all k 0):=by rw[<- r,ej om om];show _=!(lg all k 0&&&c==c);rw[aZ,gS,bC,bc];omega
 rw[bX h,u];refine⟨h,h,λw=>⟨h,h,by rw[ap];omega,?_⟩,λw=>?_⟩;have e:bl ((all.take (k+1)).filter q)=bl ((all.take k).filter q)++[((lg all k 0:Nat):Int)]:=by rw[j,cI,bF,ae w,dH];rfl
 exact ah ((k+1,v+1)) ⟨(fB l y e),by dsimp only;omega⟩;have e:(all.take (k+1)).filter q=(all.take k).filter q:=by rw[j,bF,ac (by rw[w];decide),dH,bh]
 exact ah ((k+1,v)) ⟨(fB l y e),by dsimp only;omega⟩;have e:k=lh all:=om;subst e;rw[av];refine aa (eV n _ (λx F=>?_)) ?_;obtain⟨s,p,rfl⟩:=List.mem_map.1 (show x∈(all.filter q).map λs:Nat=>(s:Int) from F);have:=b s (List.mem_filter.1 p).1;omega;exact mg l
def UY(n:Int)(f:V0):Prop:=DnF f/\∀s,s<64->f s=k0->s<2^n.toNat
theorem Xm(a:1<=k)(f:k<=6)(h:UY k b):aS k (bl (dI b k0))=true:=by have:=zel om om h.2;grind
theorem Xn(a:1<=k)(f:k<=6)(h:UY k b):∀s,s<64->ci k (bl (dI b k0)) s=b s:=λs c=>by rw[ci,Xm a f h,au,vv,zep h.1 c]
theorem Xo(h:UY k b)(c:Nat):UY k (pB b c):=⟨zsP h.1 c,λs f a=>h.2 s f<|by simp_all[pB]⟩
theorem nV(h:aS k d=k0):UY k (ao d):=by
 refine⟨λs t a b=>pZ a b,λs m f=>?_⟩;unfold ao at f;rw[cS]at f;obtain⟨x,g,e⟩:=f;have e:=beq_iff_eq.1 e;obtain⟨o,p,j⟩:=cY.1 h;obtain⟨i,n,rfl⟩:=eX 0 g;have c:=(j i n).1;unfold di at c;have:s<=(lg d i 0).toNat:=by rw[<- e];exact bI
 grind
theorem zop{g:V0}(h:∀s,s<64->b s=g s)(c:Nat):dI (pB b c) k0=dI (pB g c) true:=je (λs a=>by simp_all[pB]) _
theorem zG(b:lh a<=1048576):AC prog 27 [.ag [al n,aE a]] (.ag [.im (al n),.fr 3 1 (iL a)]):=by refine cA [.cell 2 26] func27 λc=>?_;refine aR ?_;exact⟨kr,om,kr⟩
theorem Dt :
 AC prog 159 [.ag [al n,aE a]] (.tup [.ag [.im (al (if aS n a=k0 then n else 0)),.fr 3 1 (iL (if aS n a=k0 then bl (dI (zeF a).1 k0)else []))],.fr 3 1 (iL (if aS n a=k0 then bl (zeF a).2 else [])),.im (aU (aS n a))]):=by
 refine cA [.cell 2 26,.tmp 3,.tmp 4] func159 λX=>?_
 refine aR ?_
 refine aa (bw n a) ?_
 refine aR ?_
 refine⟨λw=>?_,λw=>?_⟩
 have w:aS n a=false:=ss w
 rw[w];exact⟨rfl,rfl,rfl,rfl⟩
 have w:aS n a=true:=ss w
 rw[w];obtain⟨H,I,_⟩:=cY.1 w;have E:=xe w;have R:lh a<=448:=by rw[E,ap];exact vu _ _
 refine aa (zG n a om) ?_;refine aR ?_;refine az (λ((f,l,m,v,F,u):(V0)×O0×Nat×Nat×PV×Nat) s=>(s.sl 2=.ref 2 1 0/\s.rw 2=⟨1,.box 26 [al 0,.v (.slice none 0 0)]⟩/\s.sl 5=.ref 5 1 0/\s.rw 5=⟨1,.box 26 [al n,F]⟩/\s.sl 6=.own 16 v/\s.rw 16=⟨v,.sli 3 1 l0<|iL<|bl l⟩)/\(QB m f l=zeF a/\zbY f<=m/\l.length+m<=64/\UY n f/\((F=.own 15 1/\s.rw 15=⟨1,.sli 3 1 l0<|iL<|bl<|dI f k0⟩)\/(F=.own 45 u/\s.rw 45=⟨u,.sli 3 1 l0<|iL<|bl<|dI f k0⟩)))) (λ(f,l,m,v,F,u)=>m) ((ao a,[],64,1,.own 15 1,0)) ⟨nm,⟨rfl,zot _,sp,nV w,Or.inl ⟨rfl,by rw[<- E];simp only[gr,simprocAttr]⟩⟩⟩ ?_;intro(f,l,m,v,F,u) J ⟨x,K⟩;obtain⟨b,A,Q,c,L⟩:=K;rcases L with⟨rfl,p⟩|⟨rfl,p⟩
 have g:=Xn H I c;have M:=Xm H I c;have B:eN (ci n<|bl<|dI f k0)=eN f:=tM g;refine ff x p<|aa (qg n<|bl<|dI f k0) ?_;rw[B];have q:=ap<|eN f;have N:=vQ f;by_cases h:lh (eN f)=0
 have i:lJ f=true:=by unfold lJ;rw[h];rfl
 have r:=vO i l m;rw[b]at r;refine nN x p q h (show(((0:Nat):Int)==0)=k0 from rfl) ?_;rw[r];exact⟨rfl,rfl⟩
 have C:I0 .i64 (((eN f).length:Int)-1)=((lh (eN f)-1:Nat):Int):=by rw[aF om om];omega
 have D:(((eN f).length:Int)==0)=false:=beq_eq_false_iff_ne.2 om;have j:=Ii (l:=eN f) om;refine xA x p q C D @ar j ?_;refine⟨om,om,λy=>?_,λy=>?_⟩
 have i:lJ f=true:=by
  unfold lJ;have:pe (eN f)=0:=by have:=beq_iff_eq.1 y;omega
  rw[this];simp
 have r:=vO i l m;rw[b]at r;rw[r];exact⟨rfl,rfl⟩
 have i:lJ f=false:=by unfold lJ;rw[ir,bc,bc];refine⟨h,λe=>?_⟩;rw[e]at y;simp at y
 obtain⟨c1,c2,U,V,W⟩:=vP i;have G:=Xc i;obtain⟨z,rfl⟩:∃z,m=z+1:=⟨m-1,om⟩;obtain⟨k,o⟩:=Ie i l A;generalize O:pe (eN f)=d at *;have t:=ky n (bl<|dI f k0) d c1;rw[zop g d]at t;refine⟨om,om,by rw[ap];omega,aa t ?_⟩;have P:bl (l++[d])=bl l++[(d:Int)]:=cI l [d];refine ff x p ?_;exact ah ((pB f d,l++[d],z,v+1,.own 45 ((J.rw 45).ver+1),(J.rw 45).ver+1)) ⟨(fB x p P),⟨by rw[<- k];exact b,o,by show(l++[d]).length+z<=64;rw[aA,cG];omega,Xo c d,Or.inr ⟨rfl,by simp only[gr,simprocAttr,p]⟩⟩⟩
 have g:=Xn H I c;have M:=Xm H I c;have B:eN (ci n<|bl<|dI f k0)=eN f:=tM g;refine ff x p<|aa (qg n<|bl<|dI f k0) ?_;rw[B];have q:=ap<|eN f;have N:=vQ f;by_cases h:lh (eN f)=0
 have i:lJ f=true:=by unfold lJ;rw[h];rfl
 have r:=vO i l m;rw[b]at r;refine nN x p q h (show(((0:Nat):Int)==0)=k0 from rfl) ?_;rw[r];exact⟨rfl,rfl⟩
 have C:I0 .i64 (((eN f).length:Int)-1)=((lh (eN f)-1:Nat):Int):=by rw[aF om om];omega
 have D:(((eN f).length:Int)==0)=false:=beq_eq_false_iff_ne.2 om;have j:=Ii (l:=eN f) om;refine xA x p q C D @ar j ?_;refine⟨om,om,λy=>?_,λy=>?_⟩
 have i:lJ f=true:=by
  unfold lJ;have:pe (eN f)=0:=by have:=beq_iff_eq.1 y;omega
  rw[this];simp
 have r:=vO i l m;rw[b]at r;rw[r];exact⟨rfl,rfl⟩
 have i:lJ f=false:=by unfold lJ;rw[ir,bc,bc];refine⟨h,λe=>?_⟩;rw[e]at y;simp at y
 obtain⟨c1,c2,U,V,W⟩:=vP i;have G:=Xc i;obtain⟨z,rfl⟩:∃z,m=z+1:=⟨m-1,om⟩;obtain⟨k,o⟩:=Ie i l A;generalize O:pe (eN f)=d at *;have t:=ky n (bl<|dI f k0) d c1;rw[zop g d]at t;refine⟨om,om,by rw[ap];omega,aa t ?_⟩;have P:bl (l++[d])=bl l++[(d:Int)]:=cI l [d];refine ff x p ?_;exact ah ((pB f d,l++[d],z,v+1,.own 45 ((J.rw 45).ver+1),(J.rw 45).ver+1)) ⟨(fB x p P),⟨by rw[<- k];exact b,o,by show(l++[d]).length+z<=64;rw[aA,cG];omega,Xo c d,Or.inr ⟨rfl,by simp only[gr,simprocAttr,p]⟩⟩⟩
theorem zrz{u:Nat}(h:u≠0):Go.Lib.decDigits u=(if u/10=0 then []else Go.Lib.decDigits (u/10))++[UInt8.ofNat (48+u%10)]:=by rw[Go.Lib.decDigits];grind
theorem zeG:∀(k u:Nat),u<10^(k+1)->lh (Go.Lib.decDigits u)<=k+1:=by
 intro k;induction k with
 | zero=>simp_all[Go.Lib.decDigits,om]
 | succ k b =>
   intro u h;rw[Go.Lib.decDigits];grind
def dA(n:Int):P0:=⟨(Go.Lib.itoa n).toArray⟩
theorem eY{n:Int}(a:-9223372036854775808<=n)(b:n<=9223372036854775807):(dA n).size<=20:=by
 have e:(dA n).size=(Go.Lib.itoa n).length:=rfl
 rw[e,Go.Lib.itoa];split;have:=zeG 18 n.natAbs om;grind;have:=zeG 18 n.toNat om;omega
def dgB(d:Nat):P0:=⟨#[UInt8.ofNat (48+d)]⟩
theorem zoB{d:Nat}(h:d<10){x:Int}(a:x=(d:Int)):([I0 .u8 (I0 .i64 (48+x))].foldl (λr n=>r.push (UInt8.ofNat n.toNat)) ByteArray.empty)=dgB d:=by
 subst a;have:∀m:Fin 10,([I0 .u8 (I0 .i64<|48+m.val)].foldl (λr n=>r.push<|UInt8.ofNat n.toNat) ByteArray.empty)=dgB m.val:=dc
 exact this ⟨d,h⟩
theorem cB{n:Int}(S:-9223372036854775808<=n)(U:n<=9223372036854775807):AC prog 34 [al n] (.im (fa (dA n))):=by
 refine cA [.tmp 2] func34 λV=>?_;by_cases t:n=0;subst t;simp only[↓gp,gq,simprocAttr,gT,show((0:Int)==0)=k0 from rfl];decide +kernel;have G:(n==0)=false:=beq_eq_false_iff_ne.2 t;simp only[↓gp,gq,simprocAttr,gT,G];refine az (λ((m,o):Int×P0) s=>s.sl 0=al m/\s.sl 3=aU (decide (n<0))/\s.sl 4=fa o/\((if m=0 then []else Go.Lib.decDigits m.natAbs)++o.data.toList=Go.Lib.decDigits n.natAbs/\(n<0->m<=0)/\(0<=n->0<=m)/\m.natAbs<=9223372036854775808/\o.size<=19)) (λ(m,o)=>m.natAbs) ((n,⟨#[]⟩)) (by refine⟨?_,?_,?_,⟨by rw[ac t];simp,λh=>Int.le_of_lt h,λh=>h,om,dc⟩⟩<;>(rfl)) ?_;intro(m,o) W ⟨i,e,j,w⟩;obtain⟨k,I,J,K,L⟩:=w;by_cases y:m=0;subst y;rw[ae rfl,eg]at k;simp only[↓gp,gq,simprocAttr,gT,i,e,j,show((0:Int) != 0)=l0 from rfl];have z:o=⟨(Go.Lib.decDigits n.natAbs).toArray⟩:=by rw[<- k]
 subst z;unfold dA Go.Lib.itoa;refine⟨λh=>⟨?_,?_⟩,λh=>?_⟩;show 1+_<=_;omega;rw[ae h];refine iR ?_;simp;rw[ac h,show n.toNat=n.natAbs by omega];have A:(m != 0)=true:=by rw[gS];exact y
 have B:=zrz (u:=m.natAbs) om;rw[ac y,B]at k;have D:m.tmod 10=if m<0 then -((m.natAbs%10:Nat):Int)else((m.natAbs%10:Nat):Int):=by grind
 have r:m.tdiv 10=if m<0 then -((m.natAbs/10:Nat):Int)else((m.natAbs/10:Nat):Int):=by grind
 have c:I0 .i64 (m.tdiv 10)=m.tdiv 10:=by rw[r];exact aF (by split<;>omega) (by split<;>omega)
 simp (maxSteps:=9^7) -dsimp only[↓gp,gq,reduceCtorEq,lj,lm,lp,ll,lu,lr,lw,lz,lA,lB,lC,lk,gT,i,e,j,zi,Uz,zd1,A,c];have l:=xq m.natAbs (show 0<10 by decide);generalize M:m.natAbs%10=d at *;have p:=cV lh k;have N:=zeG 18 n.natAbs om;have z:lh o.data.toList=o.size:=dU;rw[aA,aA,cG,z]at p;have O:(dgB d++o).size=1+o.size:=by rw[aI];rfl
 have P:(dgB d).size=1:=rfl;have f:(if m.tdiv 10=0 then []else Go.Lib.decDigits (m.tdiv 10).natAbs)++(dgB d++o).data.toList=Go.Lib.decDigits n.natAbs:=by
  rw[<- k];have E:(m.tdiv 10).natAbs=m.natAbs/10:=by rw[r];split<;>omega
  have Q:(dgB d++o).data.toList=[UInt8.ofNat (48+d)]++o.data.toList:=by simp[dgB]
  grind
 have g:(m.tdiv 10).natAbs<m.natAbs:=by rw[r];split<;>omega
 have b:(n<0->m.tdiv 10<=0)/\(0<=n->0<=m.tdiv 10)/\(m.tdiv 10).natAbs<=9223372036854775808:=by rw[r];refine⟨λh=>?_,λh=>?_,?_⟩<;>split<;>omega
 refine⟨dc,λC=>?_,λC=>?_⟩;have q:=zoB (d:=d) l (x:=I0 .i64 (0-m.tmod 10)) (by rw[D,aF (by split<;>omega) (by split<;>omega)];split<;>omega);rw[q];refine⟨om,dc,ah (m.tdiv 10,dgB d++o) ⟨by simp only[gr,simprocAttr,c],by simp only[gr,simprocAttr,e],by simp only[gr,simprocAttr,q],f,b.1,b.2.1,b.2.2,by show(dgB d++o).size<=19;omega⟩ g⟩;have q:=zoB (d:=d) l (x:=m.tmod 10) (by rw[D]at C ⊢;split at C<;>split<;>omega);rw[q];refine⟨om,dc,ah (m.tdiv 10,dgB d++o) ⟨by simp only[gr,simprocAttr,c],by simp only[gr,simprocAttr,e],by simp only[gr,simprocAttr,q],f,b.1,b.2.1,b.2.2,by show(dgB d++o).size<=19;omega⟩ g⟩
end Go.Proofs.YtijabbemjaioeaaGreatDoor
namespace Go.Proofs.YtijabbemjaioeaaGreatDoor
open Bool renaming true→k0,false→l0
open Go.IntKind renaming wrap→I0
open List renaming range→lc,replicate→ld,getD→lg,length→lh
open Nat renaming reduceEqDiff→lj,reduceMod→lk,reduceAdd→ll,reduceLT→lm,reduceLeDiff→lp,reduceSub→lr,reduceMul→lu,reduceBEq→lw
open Int renaming reduceToNat→lz,reduceLE→lA,reduceLT→lB,reduceNeg→lC
open Go.Proofs.Tryz
open Go.Abs Go.Shelf
def zuh:Go.Shelf.Ren where
 f:=λx=>match x with|171=>123|243=>211|246=>282|283=>319|284=>320|285=>321|286=>322|129=>353|317=>354|318=>355|319=>356|320=>357|337=>381|338=>382|n=>n
 t:=λx=>match x with|3=>3|9=>9|2=>2|4=>4|171=>183|0=>0|53=>101|37=>22|5=>5|173=>185|212=>208|51=>182|20=>20|213=>209|46=>83|232=>228|233=>229|n=>n
 g:=λx=>match x with|17=>0|18=>2|19=>3|n=>n
theorem zry:LaysM.n171 prog zuh where
 mixed:=mixed
 f129:=(show prog.funcs[353]?=some _ from func353).trans (cV some kr)
 f171:=(show prog.funcs[123]?=some _ from func123).trans (cV some kr)
 f243:=(show prog.funcs[211]?=some _ from func211).trans (cV some kr)
 f246:=(show prog.funcs[282]?=some _ from func282).trans (cV some kr)
 f283:=(show prog.funcs[319]?=some _ from func319).trans (cV some kr)
 f284:=(show prog.funcs[320]?=some _ from func320).trans (cV some kr)
 f285:=(show prog.funcs[321]?=some _ from func321).trans (cV some kr)
 f286:=(show prog.funcs[322]?=some _ from func322).trans (cV some kr)
 f317:=(show prog.funcs[354]?=some _ from func354).trans (cV some kr)
 f318:=(show prog.funcs[355]?=some _ from func355).trans (cV some kr)
 f319:=(show prog.funcs[356]?=some _ from func356).trans (cV some kr)
 f320:=(show prog.funcs[357]?=some _ from func357).trans (cV some kr)
 f337:=(show prog.funcs[381]?=some _ from func381).trans (cV some kr)
 f338:=(show prog.funcs[382]?=some _ from func382).trans (cV some kr)
 t0:=underlying0
 a0:=isAgg0
 z0:=sizeOf0
 v0:=zeroValue0
 t2:=underlying2
 a2:=isAgg2
 z2:=sizeOf2
 v2:=zeroValue2
 t3:=underlying3
 a3:=isAgg3
 z3:=sizeOf3
 v3:=zeroValue3
 t4:=underlying4
 a4:=isAgg4
 z4:=sizeOf4
 v4:=zeroValue4
 t5:=underlying5
 a5:=isAgg5
 z5:=sizeOf5
 v5:=zeroValue5
 t9:=underlying9
 a9:=isAgg9
 z9:=sizeOf9
 v9:=zeroValue9
 t20:=underlying20
 a20:=isAgg20
 z20:=sizeOf20
 v20:=zeroValue20
 t37:=underlying22
 a37:=isAgg22
 z37:=sizeOf22
 v37:=zeroValue22
 t46:=underlying83
 a46:=isAgg83
 z46:=sizeOf83
 v46:=zeroValue83
 t51:=underlying182
 a51:=isAgg182
 z51:=sizeOf182
 v51:=zeroValue182
 t53:=underlying101
 a53:=isAgg101
 z53:=sizeOf101
 v53:=zeroValue101
 t171:=underlying183
 a171:=isAgg183
 z171:=sizeOf183
 v171:=zeroValue183
 t173:=underlying185
 a173:=isAgg185
 z173:=sizeOf185
 v173:=zeroValue185
 t212:=underlying208
 a212:=isAgg208
 z212:=sizeOf208
 v212:=zeroValue208
 t213:=underlying209
 a213:=isAgg209
 z213:=sizeOf209
 t232:=underlying228
 a232:=isAgg228
 z232:=sizeOf228
 v232:=zeroValue228
 t233:=underlying229
 a233:=isAgg229
 z233:=sizeOf229
 v233:=zeroValue229
 g17:=kr
 g18:=kr
 g19:=kr
 i0:=kr
 i2:=kr
 i3:=kr
 i4:=kr
 i5:=kr
 i9:=kr
 i20:=kr
 i37:=kr
 i46:=kr
 i51:=kr
 i53:=kr
 i171:=kr
 i173:=kr
 i212:=kr
 i232:=kr
 i233:=kr
 m17:=kr
 m18:=kr
 m19:=kr
theorem Pn{n:Int}(a:-9223372036854775808<=n)(b:n<=9223372036854775807):AC prog 123 [al n] (.im (fa (dA n))) :=
 zp1 zry ⟨_,func123,kr,kr⟩ (λ_ h=>h) a b
theorem db{n:Int}(a:-9223372036854775808<=n)(b:n<=9223372036854775807):AC prog 50 [al n] (.im (fa (dA n))):=by refine cA [.tmp 2] func50 λc=>?_;refine aR<|aa (Pn a b) ?_;exact ef
def zox:Go.Shelf.Ren where
 f:=λx=>match x with|156=>125|165=>213|166=>214|169=>215|240=>283|241=>284|276=>323|277=>324|n=>n
 t:=λx=>match x with|31=>34|9=>9|3=>3|4=>4|0=>0|20=>20|72=>138|76=>142|70=>136|37=>22|75=>141|127=>167|164=>187|5=>5|80=>144|n=>n
 g:=λx=>x
theorem zru:Lays.n156 prog zox where
 mixed:=mixed
 f156:=(show prog.funcs[125]?=some _ from func125).trans (cV some kr)
 f165:=(show prog.funcs[213]?=some _ from func213).trans (cV some kr)
 f166:=(show prog.funcs[214]?=some _ from func214).trans (cV some kr)
 f169:=(show prog.funcs[215]?=some _ from func215).trans (cV some kr)
 f240:=(show prog.funcs[283]?=some _ from func283).trans (cV some kr)
 f241:=(show prog.funcs[284]?=some _ from func284).trans (cV some kr)
 f276:=(show prog.funcs[323]?=some _ from func323).trans (cV some kr)
 f277:=(show prog.funcs[324]?=some _ from func324).trans (cV some kr)
 t0:=underlying0
 a0:=isAgg0
 z0:=sizeOf0
 v0:=zeroValue0
 t3:=underlying3
 a3:=isAgg3
 z3:=sizeOf3
 v3:=zeroValue3
 t4:=underlying4
 a4:=isAgg4
 z4:=sizeOf4
 v4:=zeroValue4
 t9:=underlying9
 a9:=isAgg9
 z9:=sizeOf9
 v9:=zeroValue9
 t20:=underlying20
 a20:=isAgg20
 z20:=sizeOf20
 v20:=zeroValue20
 t31:=underlying34
 a31:=isAgg34
 z31:=sizeOf34
 v31:=zeroValue34
 t37:=underlying22
 a37:=isAgg22
 z37:=sizeOf22
 v37:=zeroValue22
 t70:=underlying136
 a70:=isAgg136
 z70:=sizeOf136
 v70:=zeroValue136
 t72:=underlying138
 a72:=isAgg138
 z72:=sizeOf138
 v72:=zeroValue138
 t75:=underlying141
 a75:=isAgg141
 z75:=sizeOf141
 v75:=zeroValue141
 t76:=underlying142
 a76:=isAgg142
 z76:=sizeOf142
 v76:=zeroValue142
 t127:=underlying167
 a127:=isAgg167
 z127:=sizeOf167
 v127:=zeroValue167
 t164:=underlying187
 a164:=isAgg187
 z164:=sizeOf187
 v164:=zeroValue187
theorem zoy:Builder.Extra prog zox where
 sizeBuilder:=kr
 liesBuilder:=kr
 t5:=underlying5
 a5:=isAgg5
 z5:=sizeOf5
 v5:=zeroValue5
 infoByte:=kr
 cellsByte:=kr
 sizeByte:=kr
 neB5:=dc
theorem kA(l:Q0)(sep:P0)(b:lh l<=140737488355328)(a:(qJ l sep).size<=140737488355328):AC prog 125 [.sl l0 1 (sL l),fa sep] (.im (fa (qJ l sep))) :=
 zrx zru zoy ⟨_,func125,kr,kr⟩ (λh=>h) l sep b a
theorem nW(l:N0)(m:lh l<=500):AC prog 51 [aE l] (.im (fa (Dw l))):=by
 refine cA [.tmp 2] func51 λn=>?_;refine aR ?_;refine⟨om,om,?_⟩;refine az (λ(k,v)s=>(s.sl 3=.own 8 v/\s.rw 8=⟨v,.sli 9 1 l0<|sL<|(l.take k).map ip⟩/\s.sl 9=aE l/\s.sl 10=al (lh l)/\s.sl 11=al k)/\(k<=lh l)) (λ(k,v)=>lh l-k) ((0,1)) ⟨(by and_intros<;>(rfl)),om⟩ ?_;intro(k,v) o ⟨a,g⟩;refine cZ a ?_;refine⟨λh=>⟨h,h,aa (Pl _) ?_⟩,λh=>?_⟩;refine cZ a ?_;have e:(l.take<|k+1).map ip=(l.take k).map ip++[ip (lg l k 0)]:=by simp[bj 0 h]
 refine⟨by grind,ah ((k+1,v+1)) ⟨(fB a (ak h<|om) e),om⟩⟩;rw[bK om];have b:=xg (l:=l.map ip) (sep:=⟨#[44]⟩) (λi c=>by
  have c:=ss c;have:lg (l.map ip) i ⟨#[]⟩=ip l[i]:=by grind
  exact this▸xf _) (ab 1) _<|ab _
 rw[jD _ _ _<|ab _,av,aG]at b;refine aa (kA _ _ (by grind) om)<|cZ a ?_;rfl
end Go.Proofs.YtijabbemjaioeaaGreatDoor
namespace Go.Proofs.YtijabbemjaioeaaGreatDoor
open Bool renaming true→k0,false→l0
open Go.IntKind renaming wrap→I0
open List renaming range→lc,replicate→ld,getD→lg,length→lh
open Nat renaming reduceEqDiff→lj,reduceMod→lk,reduceAdd→ll,reduceLT→lm,reduceLeDiff→lp,reduceSub→lr,reduceMul→lu,reduceBEq→lw
open Int renaming reduceToNat→lz,reduceLE→lA,reduceLT→lB,reduceNeg→lC
open Go.Proofs.Tryz
open Go.Abs
variable (m:Nat)(n:Int)(l:N0)(s:Nat)(t:Nat){a:N0}{d:Nat}{K:St->Prop}{c:RV->Prop}{p:O0}{P:Program}{b:M0}{f:FuncId}{M:fG}{e:Int}
def inI(n:Int):Prop:=-9223372036854775808<=n/\n<=9223372036854775807
def pH(l:N0):P0:=if (lh l)=0 then⟨#[45]⟩else qJ (l.map dA) ⟨#[44]⟩
theorem oD{m:Nat}{l:Q0}{sep:P0}(h:∀i,i<lh l->(lg l i ⟨#[]⟩).size<=m)(b:sep.size<=1):∀i,i<=lh l->(iy l sep i).size<=(m+1)*i:=by
 intro i;induction i with
 | zero=>exact λ_=>ab _
 | succ i a =>unfold iy;grind
theorem Pm(b:∀x∈a,inI x):∀i,i<=lh (a.map dA)->(iy (a.map dA) ⟨#[44]⟩ i).size<=21*i :=
 oD (λi l=>by
  have l:=ss l;have e:lg (a.map dA) i ⟨#[]⟩=dA a[i]:=by grind
  rw[e];have:=b _<|bx l;exact eY this.1 this.2)<|ab 1
theorem iz(o:lh l<=1048576)(a:∀x∈l,inI x):AC prog 170 [aE l] (.im (fa (pH l))):=by
 refine cA [.tmp 2] func170 λp=>?_;refine aR ?_;refine az (λ(k,v)s=>(s.sl 0=aE l/\s.sl 3=.own 5 v/\s.rw 5=⟨v,.sli 9 1 l0<|sL<|(l.take k).map dA⟩/\s.sl 4=al k)/\(k<=lh l)) (λ(k,v)=>lh l-k) ((0,1)) ⟨nm,om⟩ ?_;intro(k,v) q ⟨b,n⟩;have d:lh (sL<|(l.take k).map dA)=k:=by simp[sL];omega
 refine ff b d ?_;refine⟨λh=>?_,λh=>?_⟩;have g:=a _<|aP 0 h;refine⟨h,h,aa (cB g.1 g.2) ?_⟩;refine cZ b ?_;have e:(l.take<|k+1).map dA=(l.take k).map dA++[dA (lg l k 0)]:=by rw[bj 0 h];simp
 refine⟨by grind,ah ((k+1,v+1)) ⟨(fB b (ak h<|by omega) e),om⟩⟩;obtain rfl:k=lh l:=om;rw[av];unfold pH;refine⟨λc=>?_,λc=>?_⟩;grind;rw[ac<|by grind];have f:=Pm a;refine aa (qI _ _ (by grind)<|λi j=>?_) ?_;have:=f i j;rw[aG]at j;have r:(⟨#[44]⟩:P0).size=1:=rfl;omega;have e:=jD (l.map dA) ⟨#[44]⟩ _<|ab _;rw[av]at e;rw[e];exact mg b
theorem iA(m:lh l<=1048576)(a:∀x∈l,inI x):AC prog 53 [aE l] (.im (fa (pH l))):=by
 refine cA [.tmp 2] func53 λn=>?_;refine aR ?_;unfold pH;refine⟨λb=>?_,λb=>⟨om,om,?_⟩⟩;grind;rw[ac<|by grind];refine az (λ(k,v)s=>(s.sl 3=.own 11 v/\s.rw 11=⟨v,.sli 9 1 l0<|sL<|(l.take k).map dA⟩/\s.sl 12=aE l/\s.sl 13=al (lh l)/\s.sl 14=al k)/\(k<=lh l)) (λ(k,v)=>lh l-k) ((0,1)) ⟨(by and_intros<;>(rfl)),om⟩ ?_;intro(k,v) o ⟨c,j⟩;refine cZ c ?_;refine⟨λh=>?_,λh=>?_⟩;have f:=a _<|aP 0 h;refine⟨h,h,aa (db f.1 f.2) ?_⟩;refine cZ c ?_;have e:(l.take<|k+1).map dA=(l.take k).map dA++[dA (lg l k 0)]:=by simp[bj 0 h]
 refine⟨by grind,ah ((k+1,v+1)) ⟨(fB c (ak h<|by omega) e),om⟩⟩;obtain rfl:k=lh l:=om;rw[av];have d:=Pm a _<|ab _;rw[jD _ _ _<|ab _,av,aG]at d;refine aa (kA _ _ (by grind) om) ?_;exact mg c
theorem JJ:(Dw l).size<=7*l.length:=by
 have h:=xg (l:=l.map ip) (sep:=⟨#[44]⟩) (λi a=>by
  have a:=ss a;have e:lg (l.map ip) i ⟨#[]⟩=ip l[i]:=by grind
  exact e▸xf _) (ab 1) _<|ab _
 rwa[jD _ _ _<|ab _,av,aG]at h
theorem Vm(h:aS e a=k0):lh a<=448:=by rw[xe h,ap];exact vu _ _
noncomputable def Vn(n:Int)(a:N0):P0:=if aS n a=k0 then dA n++⟨#[58]⟩++Dw a else⟨#[]⟩
theorem zbm:(Vn n l).size<=4000:=by unfold Vn;split;rename_i h;obtain⟨e,f,_⟩:=cY.1 h;have a:=eY (n:=n) om om;have b:=JJ l;have c:=Vm h;rw[aI,aI];show _+1+_<=4000;omega;decide
theorem sU:AC prog 11 [.ag [al n,aE l]] (.im (fa (Vn n l))):=by
 refine cA [.tmp 2] func11 λf=>?_;refine aR<|aa (bw n l) ?_;refine aR ?_;unfold Vn;refine⟨λd=>?_,λd=>?_⟩;grind;have d:=ss d;rw[ae d];have⟨g,h,_⟩:=cY.1 d;have a:=eY (n:=n) om om;have b:=JJ l;have c:=Vm d;have i:(dA n++⟨#[58]⟩).size<=21:=by rw[aI];show _+1<=21;omega
 refine⟨kr,aa (cB om om) ?_⟩;refine aR ?_;refine⟨by grind,aa (nX l om) ?_⟩;refine aR ?_;omega
theorem kY:AC prog 21 [.ag [al n,aE l]] (.im (fa (Vn n l))):=by
 refine cA [.tmp 2] func21 λf=>?_;refine aR<|aa (aH n l) ?_;refine aR ?_;unfold Vn;refine⟨λd=>?_,λd=>?_⟩;grind;have d:=ss d;rw[ae d];have⟨g,h,_⟩:=cY.1 d;have a:=eY (n:=n) om om;have b:=JJ l;have c:=Vm d;have i:(dA n++⟨#[58]⟩).size<=21:=by rw[aI];show _+1<=21;omega
 refine⟨kr,aa (db om om) ?_⟩;refine aR ?_;refine⟨by grind,aa (nW l om) ?_⟩;refine aR ?_;omega
def Vp(l:N0):P0:=if (lh l)=0 then⟨#[45]⟩else Dw l
theorem xT(b:lh l<=500):AC prog 60 [aE l] (.im (fa (Vp l))):=by refine cA [.tmp 2] func60 λc=>?_;refine aR ?_;unfold Vp;refine⟨λa=>?_,λa=>aa (nW l b) ?_⟩;grind;rw[ac<|by grind];exact ef
theorem JK(s:St)(d e b f a:Nat)(x y:Value)(c c2:M0):br s d (.tup [.ag [.im (.v x),.fr e b c],.fr f a c2,.im (.v y)]) =
 ((s.row (d+1000) ⟨(s.rw (d+1000)).ver+1,.sli f a l0 c2⟩).row d ⟨(s.rw d).ver+1,.sli e b l0 c⟩).put (some d) (.tup [.ag [.v x,.own d ((s.rw d).ver+1)],.own (d+1000) ((s.rw (d+1000)).ver+1),.v y]):=by
 simp[br,leaves,eu,gN,fL]
 rfl
theorem zcg:AC prog 4 [.sl l0 1 (kL .u8 l)] (.im (aU (decide (1048576<(lh l:Int))))):=by refine cA [.tmp 2] func4 λb=>?_;exact ef
theorem Nj(c:N0):AC prog 39 [aE l,aE c] (.im (aU (decide (l=c)))):=by
 refine cA [.tmp 4] func39 λf=>?_;simp only[dt,ga,dT,dF]at f;simp (maxSteps:=9^7) -dsimp only[↓gp,gq,reduceCtorEq,lj,lm,lp,ll,lu,lr,lw,lz,lA,lB,lC,lk,gT];refine⟨λh=>?_,λh=>?_⟩;intro e;simp[e]at h;have b:lh l=lh c:=by simp at h;omega
 refine az (λ(i:Nat)s=>s.sl 0=aE l/\s.sl 1=aE c/\s.sl 5=al i/\i<=lh l/\l.take i=c.take i) (λi=>lh l-i) 0 ⟨by simp (maxSteps:=9^7) -dsimp only[gr,lj,lm,ll,lk,lw],by simp (maxSteps:=9^7) -dsimp only[gr,lj,lm,ll,lk,lw],by simp (maxSteps:=9^7) -dsimp only[gr,lj,lm,ll,lk,lw];rfl,sp,sp⟩ ?_;intro i m ⟨g,j,k,n,a⟩;simp (maxSteps:=9^7) -dsimp only[↓gp,gq,reduceCtorEq,lj,lm,lp,ll,lu,lr,lw,lz,lA,lB,lC,lk,gT,g,j,k];refine⟨λh=>⟨kr,h,h,om,om,λd=>?_,λd=>?_⟩,λh=>?_⟩;intro e;simp[e]at d;refine ah (i+1) ⟨by simp (maxSteps:=9^7) -dsimp only[gr,lj,lm,ll,lk,lw,g],by simp (maxSteps:=9^7) -dsimp only[gr,lj,lm,ll,lk,lw,j],by simp (maxSteps:=9^7) -dsimp only[gr,lj,lm,ll,lk,lw];rw[ak h f.1],h,?_⟩ om;rw[bj 0 h,bj 0 (show i<lh c by omega),a];simp at d;simpa using d;rw[bK om,bK om]at a;exact a
noncomputable def gmO(n:Int)(a:N0):Int:=if mw n a=[]then -1 else(aQ (lg (mw n a) (lh (mw n a)-1) 0):Int)
noncomputable def WW(n:Int)(a:N0):Bool:=aS n a&&decide (gmO n a<=2)
theorem zhN{n:Int}{xs:N0}{i:Nat}(h:i<lh (mw n xs)):lg (mw n xs) i 0<64:=(ja.1<|aP 0 h).1.1
theorem wU:AC prog 309 [.ag [al n,aE l]] (.im (al (gmO n l))):=by
 refine cA [.tmp 2] func309 λm=>?_;refine aR<|aa (kV n l) ?_;unfold gmO;have c:=λi=>zhN (n:=n) (xs:=l) (i:=i);have k:=sI n l;generalize mw n l=L at *;refine cZ @ap ?_;refine⟨λd=>?_,λd=>?_⟩
 simp_all
 have g:0<lh L:=by grind
 have h:lh L-1<lh L:=om;have c:=c _ h;have j:I0 .i64 ((lh L)-1)=((lh L-1:Nat)):=by rw[aF om om];omega
 rw[ac<|λe=>by grind];rw[j];refine⟨om,om,om,?_⟩;rw[ar,bX h];refine aa (ey _ om)<|mg j
theorem Qy:AC prog 264 [.ag [al n,aE l]] (.im (aU (WW n l))):=by refine cA [.tmp 2] func264 λb=>?_;refine aR<|aa (bw n l) ?_;refine aR ?_;unfold WW;refine⟨λh=>aa (wU n l) ?_,λh=>?_⟩;rw[h];exact ef;grind
theorem HI{s:St}{args:M0}{e a:Nat}{us:Dm s}{u:Dm K}(h:AC P f b (.tb e a (M.map iL)))(g:∀i,i<lh M->(s.rw (dq d i)).ver=0)(k:∀S:St,TabI S.rw d ((s.rw d).ver+1) e a (lc (lh M)) M->S.sl d=.own d ((s.rw d).ver+1)->(∀t,t≠d->S.sl t=s.sl t)->(∀j,(j%1000==d%1000)=l0->S.rw j=s.rw j)->K S):nn P f b c (tS P f b args (some d) (kk s us) (kk K u)) :=
 zk4 _ h (Wk.refl _)<|k _ ⟨by
  have:=Aq d e a (M.map iL)<|λi l=>g i<|ss l;grind,dC⟩ (ux d e a _) (λt m=>qx d e a t _ m)<|λj n=>uy d e a j _ n
theorem zd4{s:St}{g lent:M0}{e l k v:Nat}{us:Dm s}{u:Dm K}{w:fG}{x:Value}(h:AT P f b e l (M.map iL) (w.map iL) (.rv (.im (.v x))))(y:GiveL [(k,v)] g b)(args:TabI s.rw k v e l p M)(z:lh w=lh M)(n:d%1000≠k%1000)(A:∀(S:St)(q:O0),TabI S.rw k v e l q w->q.Perm p->S.sl d=.v x->(∀t,t≠d->S.sl t=s.sl t)->(∀j,(j%1000==k%1000)=l0->S.rw j=s.rw j)->K S):nn P f lent c (tS P f lent g (some d) (kk s us) (kk K u)):=by
 refine Ec h y args.is args.nd λm a=>?_
 have o:lh m=(w.map iL).length:=by simp[a.length_eq,args.len,z]
 have r:=a.nodup_iff.2 args.nd
 refine⟨n,?_⟩
 rw[rU]
 exact A _ m (⟨⟨mj ..,o,λi C=>sh r C⟩,r⟩) a (cF ..) (λt args=>da _ _ _ _ args)<|λj D=>oy _ _ _ _ _ _ _ D
theorem vG{rw:S0}{v e a:Nat}(h:TabI rw d v e a p M)(rw':S0)(b:∀j,rw' (dq d j)=rw (dq d j)):(cy d p).map (tA rw')=mF M:=by rw[<- zcV,<- zau h.is];refine cO λc k=>?_;obtain⟨j,_,rfl⟩:=List.mem_map.1 k;simp[tA,b]
theorem UQ{s:Nat}(b:d<=6)(c:s<2^d):sy d s=((2^d-1-s:Nat):Int):=by
 have a:di d s=true:=by unfold di;grind
 unfold sy;grind
theorem oq{w w':V0}(a:d<=6)(h:∀s,s<64->(decide (s<2^d)&&w s)=w' s):bA w (2^d)=bA w' 64 :=
 og w' (Uw w a) λs b=>by rw[mM,h s b]
theorem Ky(a:m<=6)(b:s<18446744073709551616)(c:t<2^m):AC prog 272 [al t,.eref l0 [dv s] 0,.eref l0 [al m] 0] (.im (aU (!s.testBit (2^m-1-t)))):=by refine cA [.tmp 4] func272 λe=>?_;have d:=dx a;refine aR ?_;refine⟨kr,aa (Bo m t) ?_⟩;rw[UQ a c];refine aR ?_;refine aa (ez s _ b om)<|ef
theorem Qz(a:m<=6)(f:V0):AC prog 190 [al m,dv (bA f 64:Nat)] (.im (dv (bA (Cb m f) 64:Nat))):=by refine cA [.tmp 4] func190 λe=>?_;have c:=dx a;have d:=dj f 64;refine aR<|aa (gF m a _ _ _ (λrw=>rfl) λs b=>Ky m _ s a om b) ?_;rw[oq (w':=Cb m f) a λs b=>by rw[ek f om];rfl];exact ef
theorem Kz(a:m<18446744073709551616)(b:s<64)(c:t<64):AC prog 281 [al t,.eref l0 [al s] 0,.eref l0 [dv m] 0] (.im (aU (dL m.testBit s t))):=by
 refine cA [.tmp 4] func281 λi=>?_;have d:fu _ _ _=t&&&s:=ej om om;have f:EX _ t s=t|||s:=nQ om om;refine ff d f ?_;unfold dL;refine⟨λh=>aa (ez m _ a (cu (n:=6) c b)) ?_,λh=>?_⟩;exact (ss h)▸ef;grind
theorem jR(f:V0)(s:Nat)(a:s<64):AC prog 203 [dv (bA f 64:Nat),al s] (.im (dv (bA (dL f s) 64:Nat))):=by refine cA [.tmp 4] func203 λe=>?_;have c:=dj f 64;refine aR<|aa (gF 6 om _ _ _ (λrw=>rfl) λt b=>Kz _ s t om a om) ?_;rw[oq (w':=dL f s) om λt b=>by rw[ay<|om];exact zbt (λu d=>ek f d) a b];exact ef
theorem QA(h:aS (m:Int) l=k0):AC prog 154 [.ag [al m,aE l]] (.tup [.ag [.im (al m),.fr 3 1 (iL (zjI m l))],.im (aU k0)]):=by
 refine cA [.cell 2 26,.tmp 3] func154 λA=>?_;have B:=sI m l;have C:=ap<|mw m l;refine aR<|aa (bw m l) ?_;refine cZ h<|aa (kV m l) ?_;obtain⟨K,L,_⟩:=cY.1 h;unfold zjI zq6;have t:Uu ((bl<|mw m l).map<|sy m):=by
  intro x D;obtain⟨y,z,rfl⟩:=List.mem_map.1 D;unfold bl at z;obtain⟨s,E,rfl⟩:=List.mem_map.1 z;have F:=dx (m:=m) om;obtain⟨⟨M,u⟩,_⟩:=ja.1 E;have p:di m s=true:=by simp_all[oo,aj]
  have:s<2^m:=by unfold di at p;rw[aq,iM]at p;omega
  rw[UQ om this];omega
 generalize bl (mw m l)=c at *;refine aR ?_;have q:∀k,k<lh c->(c.take<|k+1).map (sy m)=(c.take k).map (sy m)++[sy m (lg c k 0)]:=λk h=>by rw[bj 0 h];simp
 refine az (λ(k,v,w)s=>(s.sl 1=.ref 1 1 0/\s.rw 1=⟨1,.box 26 [al (m:Nat),aE l]⟩/\s.sl 2=.ref 2 1 0/\s.rw 2=⟨1,.box 26 [al 0,.v (.slice none 0 0)]⟩/\s.sl 3=aU l0/\s.sl 4=.own 12 w/\s.rw 12=⟨w,.sli 3 1 l0<|iL c⟩/\s.sl 5=.own 13 v/\s.rw 13=⟨v,.sli 3 1 l0<|iL<|(c.take k).map<|sy m⟩/\s.sl 6=al k)/\(k<=lh c)) (λ(k,v,w)=>lh c-k) ((0,1,1)) ⟨nm,sp⟩ ?_;intro(k,v,w) N ⟨⟨e,f,g,i,j,d,b,n,a,o⟩,H⟩;simp only[↓gp,gq,simprocAttr,gT,e,f,g,i,j,d,b,n,a,o];refine⟨λr=>⟨kr,r,r,aa (Bn _ _) ?_⟩,λr=>?_⟩;simp only[↓gp,gq,simprocAttr,gT,e,f,g,i,j,d,b,n,a,o];have I:lh ((c.take k).map<|sy m)<=448:=by rw[aG,bg];omega
 refine⟨om,kr,?_⟩;exact ah ((k+1,v+1,w)) ⟨(by and_intros<;>(first|(simp only[gr,simprocAttr,e,f,g,i,j,d,b,n,a,o,ak r om,q k r])|assumption|rfl)),om⟩;have:k=lh c:=om;subst this;rw[av]at a ⊢;refine aa (eV m _ t) ?_;simp only[↓gp,gq,simprocAttr,gT,e,f,g,i,j,d,b,n,a,o]
theorem lQ(u:s<64)(c:Uu l)(m:lh l<=1000):AC prog 252 [.ag [al n,aE l],al s] (.ag [.im (al n),.fr 3 1 (iL (bl (dI (hU (qU l s)) k0)))]):=by
 refine cA [.cell 4 26] func252 λo=>?_;refine aR ?_;have i:qU l s=qU (l.take<|lh l) s:=sp
 refine az (λ(k,v)w=>(w.sl 1=al s/\w.sl 2=.ref 2 1 0/\w.rw 2=⟨1,.box 26 [al n,aE l]⟩/\w.sl 4=.ref 4 1 0/\w.rw 4=⟨1,.box 26 [al 0,.v (.slice none 0 0)]⟩/\w.sl 5=.own 7 v/\w.rw 7=⟨v,.sli 3 1 l0<|iL<|qU (l.take k) s⟩/\w.sl 6=al k)/\(k<=lh l)) (λ(k,v)=>lh l-k) ((0,1)) ⟨nm,sp⟩ ?_;intro(k,v) z ⟨g,q⟩;have r:lh (qU (l.take k) s)<=1000:=by unfold qU;grind
 refine cZ g ?_;refine⟨λh=>⟨h,h,?_⟩,λh=>?_⟩;have t:=HC c h;have j:I0 .i64 _=lg l k 0-s:=aF om om;refine⟨λd=>?_,λd=>?_⟩;have e:qU (l.take<|k+1) s=qU (l.take k) s++[lg l k 0-s]:=by rw[qU,bj 0 h,aW,cq,bF,ae d];rfl
 exact⟨h,h,om,ah ((k+1,v+1)) ⟨(rS g (ak h om) j e),om⟩⟩;have e:qU (l.take<|k+1) s=qU (l.take k) s:=by unfold qU;rw[bj 0 h,aW,cq,bF,ac<|by grind];simp
 exact ah ((k+1,v)) ⟨(fB g (ak h om) e),om⟩;have:k=lh l:=om;subst this;rw[i];refine aa (eV n _ ?_) ?_;intro x f;obtain⟨y,d,rfl⟩:=List.mem_map.1 f;obtain⟨a,b⟩:=List.mem_filter.1 d;rw[av]at a;have:=c y a;rw[aK]at b;have A:fu .i64 y s=(y.toNat&&&s:Nat):=by rw[<- ej om om];grind
 have B:y.toNat&&&s<=y.toNat:=bI;omega;exact mg g
def jW(h:N0)(s k:Nat):O0:=((lc k).filter λj=>lg h j 0 != 0).map (s+·)
theorem OU:jW l s (t+1)=if(lg l t 0 != 0)=k0 then jW l s t++[s+t]else jW l s t:=by
 unfold jW;rw[bW];grind
def gL(f:V0)(p:Int):Nat->O0
 | 0=>[]
 | i+1=>gL f p i++jW (ed (dL f (lg (co f) i 0)) p) (aQ (lg (co f) i 0)) (ed (dL f (lg (co f) i 0)) p).length
def wX:O0->Int|[]=>-1|a::l=>((l.foldl min a:Nat):Int)
theorem zjH(l:O0)(n:Nat):wX (l++[n])=if wX l<0\/(n:Int)<wX l then(n:Int)else wX l:=by
 cases l with
 | nil=>rfl
 | cons a l =>show(((l++[n]).foldl min a))=ite (((l.foldl min a:Nat):Int)<0\/n<((l.foldl min a:Nat):Int)) _ ((l.foldl min a:Nat):Int);grind
theorem zq5:∀l:O0,(∀x∈l,x<=100)->-1<=wX l/\wX l<=100
 | [],_=>⟨oE _,dc⟩
 | a::l,h=>by
   have:∀(l:O0)(a:Nat),a<=100->l.foldl min a<=100:=λl=>by
    induction l with
    | nil=>simp
    | cons x l c=>grind
   have:=this l a<|h a sp;show -1<=((l.foldl min a:Nat):Int)/\((l.foldl min a:Nat):Int)<=100;omega
theorem Ib{k x:Nat}:x∈jW a d k↔∃j,j<k/\a.getD j 0≠0/\x=d+j:=by unfold jW;constructor;grind;simp_all
theorem Ic{f:V0}{p:Int}{x:Nat}:∀{i:Nat},x∈gL f p i↔∃t,t<i/\x∈jW (ed (dL f (lg (co f) t 0)) p) (aQ (lg (co f) t 0)) (ed (dL f (lg (co f) t 0)) p).length
 | 0=>by simp[gL]
 | i+1=>by rw[gL,gG,Ic];grind
theorem zn1{k:Nat}(b:d<64)(s:k<=7):∀x∈jW a (aQ d) k,x<=100:=λx c=>by obtain⟨j,h,_,rfl⟩:=Ib.1 c;have:=jA b;omega
theorem zhP{f:V0}(c:d<=lh (co f)):∀x∈gL f e d,x<=100:=λx a=>have⟨t,i,h⟩:=Ic.1 a;have b:=(cR.1<|aP 0<|om).1;zn1 b (by rw[df];exact eD _) x h
def Cc(f:V0)(p:Int):O0:=gL f p (co f).length
noncomputable def nE(n:Int)(a:N0)(p:Int):Int:=if aS n a=k0/\lM p=k0 then wX (Cc (ao a) p)else -1
theorem zn2{p:Int}(h:aS (d:Int) a=k0){s:Nat}(b:s<64)(c:lM p=k0):Bl (ci d (bl (dI (hU (qU a s)) k0))) p=ed (dL (ao a) s) p:=by rw[Bl,ae c];exact cV (λf=>ed f p)<|funext λt=>zhS h b t
theorem sK(p:Int):AC prog 184 [.ag [al n,aE l],al p] (.im (al (nE n l p))):=by
 refine cA [.tmp 4] func184 λhl=>?_;refine aR<|aa (io n l) ?_;have a1:=ordN_len<|ci n l;have I:¬aS n l=k0->co (ci n l)=[]:=λh=>by have h:aS n l=false:=ss h;refine List.eq_nil_iff_forall_not_mem.2 λs g=>?_;have:=(cR.1 g).2;unfold ci at this;rw[h]at this;cases this
 have y:aS n l=k0->ci n l=ao l:=λh=>by funext s;unfold ci;rw[h,au]
 have P:=λk (D:k<lh (co<|ci n l))=>cR.1<|aP 0 D;have J:(lM p=k0/\nE n l p=wX (gL (ao l) p (co<|ci n l).length))\/nE n l p=-1:=by by_cases B:aS n l=k0/\lM p=k0;refine .inl ⟨B.2,?_⟩;rw[nE,ae B,y B.1];rfl;exact .inr<|ac B
 have F:lM p=l0->nE n l p=-1:=λh=>ac λB=>by rw[B.2]at h;cases h
 have R:∀k,k<lh (co<|ci n l)->aS n l=true:=λk D=>aC λh=>by rw[I h]at D;simp at D
 have S:aS n l=k0->∀i,gL (ao l) p (i+1)=gL (ao l) p i++jW (ed (dL (ao l)<|lg (co<|ci n l) i 0) p) (aQ<|lg (co<|ci n l) i 0) (ed (dL (ao l)<|lg (co<|ci n l) i 0) p).length:=λh i=>by
  have:co (ao l)=co (ci n l):=by rw[y h]
  rw[<- this];rfl
 have U:aS n l=k0->∀i,i<=lh (co<|ci n l)->∀x∈gL (ao l) p i,x<=100:=λh i hi=>by
  have:co (ao l)=co (ci n l):=by rw[y h]
  exact zhP<|by rw[this];exact hi
 generalize hL:co (ci n l)=L at *;have a2:=ap L;have V:al (-1)=al (wX<|gL (ao l) p 0):=rfl;refine cZ @ap ?_;refine az (λ(i:Nat)s=>(s.sl 1=al p/\s.sl 2=.ref 2 1 0/\s.rw 2=⟨1,.box 26 [al n,aE l]⟩/\s.sl 5=al (wX<|gL (ao l) p i)/\s.sl 6=.own 12 1/\s.rw 12=⟨1,.sli 3 1 l0<|iL<|bl L⟩/\s.sl 7=al i)/\(i<=lh L/\(i=0\/lM p=k0))) (λi=>lh L-i) (0) ⟨(jX V),⟨aB _,.inl rfl⟩⟩ ?_;intro i sa ⟨G,W⟩;obtain⟨hi,K⟩:=W;refine ff G @ap ?_;refine⟨λd=>aa (jY p) ?_,λd=>?_⟩;refine ff G @ap ?_;have d:i<lh L:=om;have z:=R i d;obtain⟨h1,h6,_⟩:=cY.1 z;obtain⟨m,rfl⟩:∃m:Nat,n=m:=⟨n.toNat,om⟩;refine⟨λE=>?_,λE=>?_⟩;have C:=(P i d).1;have M:=bX d;have N:=zn2 (p:=p) z C E;have X:=S z i;have a3:=U z i om;have a4:=eD<|dL (ao l)<|lg L i 0;have a5:=df (dL (ao l)<|lg L i 0) p;generalize a6:lg L i 0=j at *;have a7:=jA C;refine iD G @ap M ?_;refine⟨kr,d,d,aa (lQ _ l j C (dM z)<|by have:=fH z;omega) ?_⟩;refine iD G @ap M<|aa (nS _ _ p) ?_;rw[N];generalize ed (dL (ao l) j) p=g at *;refine iD G @ap M ?_;have Y:gL (ao l) p i=gL (ao l) p i++jW g (aQ j) 0:=(bh _).symm;refine⟨kr,?_⟩;refine az (λ(k:Nat)s=>(s.sl 1=al p/\s.sl 2=.ref 2 1 0/\s.rw 2=⟨1,.box 26 [al (m:Nat),aE l]⟩/\s.sl 5=al (wX<|gL (ao l) p i++jW g (aQ j) k)/\s.sl 6=.own 12 1/\s.rw 12=⟨1,.sli 3 1 l0<|iL<|bl L⟩/\s.sl 7=al i/\s.sl 8=.own 30 ((sa.rw 30).ver+1)/\s.rw 30=⟨(sa.rw 30).ver+1,.sli 3 1 l0<|iL g⟩/\s.sl 9=al k)/\(k<=lh g)) (λk=>lh g-k) (0) ⟨(gE G Y.symm),aB _⟩ ?_;intro k sb ⟨⟨a,o,q,e,r,b,t,u,c,w⟩,a8⟩;simp only[↓gp,gq,simprocAttr,gT,a,o,q,e,r,b,t,u,c,w,ap,M];refine⟨λD=>⟨d,d,aa (ey j om) ?_⟩,λD=>?_⟩;have hw:I0 .i64 ((aQ j:Int)+(k:Int))=((aQ j+k:Nat):Int):=by rw[aF om om];omega
 have Z:=OU g (aQ j) k;have f:wX (gL (ao l) p i++jW g (aQ j) (k+1))=if(lg g k 0 != 0)=k0 then(if wX (gL (ao l) p i++jW g (aQ j) k)<0\/((aQ j+k:Nat):Int)<wX (gL (ao l) p i++jW g (aQ j) k)then((aQ j+k:Nat):Int)else wX (gL (ao l) p i++jW g (aQ j) k))else wX (gL (ao l) p i++jW g (aQ j) k):=by rw[Z];split;rw[<- cP,zjH];rfl
 simp only[↓gp,gq,simprocAttr,gT,a,o,q,e,r,b,t,u,c,w,ap,M,hw];refine⟨D,D,λO=>⟨λha=>⟨λhb=>?_,λhb=>?_⟩,λha=>?_⟩,λO=>?_⟩;rw[ae O,ae<|.inr hb]at f;exact ah (k+1) ⟨(by and_intros<;>(first|(simp only[gr,simprocAttr,a,o,q,e,r,b,t,u,c,w,f,ak (show k<8 by omega) om];first|done|rfl|(simp;done))|assumption|rfl)),om⟩;rw[ae O,ac<|λh=>h.elim ha hb]at f;exact ah (k+1) ⟨(by and_intros<;>(first|(simp only[gr,simprocAttr,a,o,q,e,r,b,t,u,c,w,f,ak (show k<8 by omega) om];first|done|rfl|(simp;done))|assumption|rfl)),om⟩;rw[ae O,ae<|.inl ha]at f;exact ah (k+1) ⟨(by and_intros<;>(first|(simp only[gr,simprocAttr,a,o,q,e,r,b,t,u,c,w,f,ak (show k<8 by omega) om];first|done|rfl|(simp;done))|assumption|rfl)),om⟩;rw[ac<|by rw[O];decide]at f;exact ah (k+1) ⟨(by and_intros<;>(first|(simp only[gr,simprocAttr,a,o,q,e,r,b,t,u,c,w,f,ak (show k<8 by omega) om];first|done|rfl|(simp;done))|assumption|rfl)),om⟩;have a0:k=lh g:=om;subst a0;rw[<- X]at e;exact ah (i+1) ⟨(by and_intros<;>(first|(simp only[gr,simprocAttr,G,a,o,q,e,r,b,t,u,c,w,ak d om];first|done|rfl|(simp;done))|assumption|rfl)),⟨om,.inr E⟩⟩;grind;have H:i=lh L:=om;rcases J with⟨_,h⟩|h
 rw[h,H];rw[h];by_cases B:aS n l=k0;rcases K with rfl|E;rfl;have hd:nE n l p=wX (Cc (ao l) p):=ae ⟨B,E⟩;rw[hd]at h;have:Cc (ao l) p=gL (ao l) p i:=by
  unfold Cc;grind
 rw[<- this,h];have:L=[]:=I B;rw[H,this];rfl
end Go.Proofs.YtijabbemjaioeaaGreatDoor
