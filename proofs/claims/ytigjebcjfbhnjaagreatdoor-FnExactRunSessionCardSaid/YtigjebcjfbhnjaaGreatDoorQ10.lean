/- DERIVED by an AI agent. -/
import Derived.Test.YtigjebcjfbhnjaaGreatDoorQ9
set_option linter.all false
namespace Go.Proofs.YtigjebcjfbhnjaaGreatDoor
open Bool renaming true→k0,false→l0
open List renaming range→lc,getD→lg,length→lh
open Go.Proofs.Tryz
open Go.Abs
variable (k:Bool)(a:Nat)(n:Int)(b:N0)(m:Int)(d:N0)(t:P0)(c:P0)(l:Q0)(e:Nat){f:P0}{i:Nat}{g:N0}
theorem zeW:-1<=nE n b m/\nE n b m<=100:=by unfold nE;split;exact zq5 _ (zhP (ab _));omega
theorem zeX:-1<=QH n b m/\QH n b m<=14000000:=by unfold QH;split;rename_i h;split;split<;>omega;have d:=eD (ao b);have:=zoF (zuk (ao b)) (d:=m) om h.2.2 (lh (gc (ao b))-1) (by rw[eb];omega);rw[eb]at *;omega;omega
theorem zeY(f:V0)(p:Int):lh (Bl f p)<=1048576/\∀x∈Bl f p,Ss x:=by unfold Bl;split;exact⟨by rw[df];have:=eD f;omega,Gp f p⟩;exact⟨aB _,λx h=>by cases h⟩
noncomputable def hmT(n:Int)(a:N0)(v:Int):P0:=if(Bl (ci n a) v).length=0 then⟨#[110,111]⟩else pH (Bl (ci n a) v)
noncomputable def fsL(n:Int)(a:N0)(v:Int):N0:=bl ((co (ci n a)).filter λs=>(aQ s:Int)==v)
theorem zeZ:lh (fsL n b m)<=500:=by unfold fsL;rw[ap];have:=aO (λs=>(aQ s:Int)==m) (co (ci n b));have:=Abs.ordN_len (ci n b);omega
noncomputable def zcG(n:Int)(a:N0)(w:P0)(v:Int):Bool×P0 :=
 if(w.toList==(⟨#[104,111,108,101,115]⟩:P0).toList)=k0 then(k0,hmT n a v)
 else if(w.toList==(⟨#[102,97,99,101,115]⟩:P0).toList)=k0 then(k0,Vp (fsL n a v))
 else if(w.toList==(⟨#[100,101,112,116,104]⟩:P0).toList)=k0 then(k0,dA (nE n a v))
 else if(w.toList==(⟨#[108,101,102,116]⟩:P0).toList)=k0 then(k0,dA (QH n a v))
 else(l0,⟨#[]⟩)
noncomputable def XV(n:Int)(a:N0)(w t:P0):Bool×P0:=if(w.toList==(⟨#[102,97,99,101]⟩:P0).toList)=k0 then(uq t,zrT (Yj n a (Br t:Nat)))else if pg (dl t)=k0 then zcG n a w (Gv t)else(l0,⟨#[]⟩)
def whX(r:Bool×P0):P0:=if r.1=k0 then r.2 else IA
theorem zsZ:-1000000000000<=Gv t/\Gv t<=1000000000000:=by unfold Gv;split;rename_i h;unfold pg GB at h;simp only[aj,bT]at h;have a:=zpc _ h.1.2.1;have b:=aV (n:=10) om h.1.1.2;unfold we;split<;>omega;omega
theorem PS(v:Int):AC prog 41 [.ag [al n,aE b,al m,aE d],fa t,al v] (.im (fa (whX (zcG n b t v)))):=by
 refine cA [.tmp 6] func41 λg=>?_;unfold zcG;refine aR ?_;have d1:AC prog 113 [.ag [al n,aE b],al v] (.fr 3 1 (iL (fsL n b v))):=sx n b v;have d2:=zeW n b v;have i:=zeX n b v;have c:=zeY (ci n b) v;have f:=zeZ n b v;refine⟨λh=>?_,λh=>?_⟩;rw[ae h];refine aa (nS n b v) ?_;unfold hmT;generalize Bl (ci n b) v=l at *;refine cZ @dB ?_;refine⟨λw=>?_,λw=>?_⟩;have w:lh l=0:=by have:=beq_iff_eq.1 w;omega
 rw[ae w];rfl;have w:¬l.length=0:=λe=>by rw[e]at w;cases w
 rw[ac w];refine aa (iz l c.1 c.2) ?_;refine aR ?_;rfl;rw[iH h];refine⟨λh=>?_,λh=>?_⟩;rw[ae h];refine aa (d1) ?_;refine aR (aa (zP (fsL n b v) f) ?_);refine aR ?_;rfl;rw[iH h];refine⟨λh=>?_,λh=>?_⟩;rw[ae h];refine aa (sK n b v) ?_;refine aR ?_;refine aa (cB (n:=nE n b v) om om) ?_;refine aR ?_;rfl;rw[iH h];refine⟨λh=>?_,λh=>?_⟩;rw[ae h];refine aa (Il n b v) ?_;refine aR ?_;refine aa (cB (n:=QH n b v) om om) ?_;refine aR ?_;rfl;rw[iH h];rfl
theorem JU(g:c.size<=2000000):AC prog 27 [.ag [al n,aE b,al m,aE d],fa t,fa c] (.tup [.im (fa (XV n b t c).2),.im (aU (XV n b t c).1)]):=by
 refine cA [.tmp 6,.tmp 7] func27 λj=>?_;have a:AC prog 69 [fa c] (.tup [.im (al (Gv c)),.im (aU (pg (dl c)))]):=xS c g;unfold XV;refine aR ?_;refine⟨λh=>?_,λh=>?_⟩;rw[ae h];refine aa (gP c) ?_;refine aR (aa (sR n b (Br c:Nat)) ?_);refine aR (aa (zQ _) ?_);exact ef;rw[iH h];refine aa a ?_;have k:=zsZ c;generalize Gv c=v at *;cases pg (dl c)with
 | false =>rw[iH rfl];exact ef
 | true =>
   rw[ae rfl];unfold zcG;refine aR ?_;have d1:AC prog 71 [.ag [al n,aE b],al v] (.fr 3 1 (iL (fsL n b v))):=BA n b v om;have d2:=zeW n b v;have o:=zeX n b v;have w:=zeY (ci n b) v;have i:=zeZ n b v;refine⟨λh=>?_,λh=>?_⟩;rw[ae h];refine aa (Iw n b v) ?_;unfold hmT;generalize Bl (ci n b) v=l at *;refine cZ @dB ?_;refine⟨λf=>?_,λf=>?_⟩;have f:lh l=0:=by have:=beq_iff_eq.1 f;omega
   rw[ae f];have f:¬l.length=0:=λe=>by rw[e]at f;cases f
   rw[ac f];refine aa (iA l w.1 w.2) ?_;exact ef;rw[iH h];refine⟨λh=>?_,λh=>?_⟩;rw[ae h];refine aa (d1) ?_;refine aR (aa (xT (fsL n b v) i) ?_);exact ef;rw[iH h];refine⟨λh=>?_,λh=>?_⟩;rw[ae h];refine aa (KN n b v) ?_;refine aR ?_;refine aa (db (n:=nE n b v) om om) ?_;exact ef;rw[iH h];refine⟨λh=>?_,λh=>?_⟩;rw[ae h];refine aa (Ik n b v) ?_;refine aR ?_;refine aa (db (n:=QH n b v) om om) ?_;exact ef;rw[iH h];exact⟨rfl,rfl⟩
noncomputable def PT(n:Int)(a:N0)(m:Int)(b:N0):Q0->P0
 | [w]=>whX (LH n a m b w)
 | [w,t]=>whX (XV n a w t)
 | _=>IA
theorem GG(e:∀p∈l,p.size<=2000000)(c:lh l<=2000001):AC prog 21 [.ag [al n,aE b,al m,aE d],zs3 l] (.im (fa (PT n b m d l))):=by
 refine cA [.tmp 4] func21 λj=>?_
 match l,e,c with
 | [],_,_ =>refine aR ?_;rfl
 | [w],_,_ =>have D:AC prog 37 [.ag [al n,aE b,al m,aE d],fa w] (.im (fa (PT n b m d [w]))):=LI n b m d w;generalize PT n b m d [w]=r at *;refine aR ?_;refine⟨kr,aa D ?_⟩;exact ef
 | [w,t],e,_ =>
   have i:=e t sp;have f:AC prog 40 [fa t] (.tup [.im (al (Gv t)),.im (aU (pg (dl t)))]):=qh t i;have g:=PS n b m d w (Gv t);rw[show PT n b m d [w,t]=whX (XV n b w t) from rfl];unfold XV;refine aR ?_;refine⟨λh=>?_,λh=>?_⟩;rw[ae h];refine aa (gQ t i) ?_;cases uq t with
   | false =>refine aR ?_;rfl
   | true =>refine aR (aa (zI n b (Br t:Nat)) ?_);refine aR (aa (Ch _) ?_);refine aR ?_;rfl
   rw[iH h];refine aa f ?_;cases pg (dl t)with
   | false =>rw[iH rfl];refine aR ?_;rfl
   | true =>rw[ae rfl];refine aR ?_;refine⟨kr,aa g ?_⟩;exact ef
 | _::_::_::a,_,c =>rw[show PT n b m d (_::_::_::a)=IA from rfl];have c1:(((lh a+1+1+1:Nat):Int)==1)=false:=beq_eq_false_iff_ne.2 om;have c2:(((lh a+1+1+1:Nat):Int) != 2)=true:=bne_iff_ne.2 om;simp -dsimp only[↓gp,gq,simprocAttr,gT,c1,c2];rfl
theorem kf(s:St)(d e b f a:Nat)(x y:Value)(c c2:M0):br s d (.ag [.im (.v x),.fr e b c,.im (.v y),.fr f a c2])=((s.row (d+1000) ⟨(s.rw (d+1000)).ver+1,.sli f a l0 c2⟩).row d ⟨(s.rw d).ver+1,.sli e b l0 c⟩).put (some d) (.ag [.v x,.own d ((s.rw d).ver+1),.v y,.own (d+1000) ((s.rw (d+1000)).ver+1)]):=by simp[br,bo,eu,fL];rfl
theorem Ab{b:Nat}:∀{l x:List UInt8},zT b l=[x]->x=l
 | [],x,h=>by simpa[zT]using h.symm
 | y::l,x,h=>by
   rw[nG]at h;split at h;have:=DH b l;grind;cases e:zT b l with
   | nil=>exact absurd e<|DH b l
   | cons p r =>rw[e]at h;simp at h;have⟨a,c⟩:=h;rw[c]at e;rw[<- a,Ab e]
theorem ziq{w:P0}(h:dO f i=[w]):w=f:=by have a:=qi f i;rw[h]at a;have:=Ab a.symm;exact iR (Array.toList_inj.1 this)
abbrev Se:=Int×N0×Int×N0
def seT(r:Se×P0):RV:=.tup [.ag [.im (al r.1.1),.fr 3 1 (iL r.1.2.1),.im (al r.1.2.2.1),.fr 3 1 (iL r.1.2.2.2)],.im (fa r.2)]
noncomputable def Np(n:Int)(a:N0)(m:Int)(b:N0)(t:P0):Se×P0 :=
 if(t.toList==(⟨#[107,101,101,112]⟩:P0).toList)=k0 then((n,a,n,a),⟨#[111,107]⟩)
 else if(t.toList==(⟨#[115,119,97,112]⟩:P0).toList)=k0 then((m,b,n,a),⟨#[111,107]⟩)
 else if(ng (IB n a) n a m b (dO t 32)).1=k0 then(if(ng (IB n a) n a m b (dO t 32)).2.1=k0 then(((ng (IB n a) n a m b (dO t 32)).2.2.1,(ng (IB n a) n a m b (dO t 32)).2.2.2,m,b),Vn (ng (IB n a) n a m b (dO t 32)).2.2.1 (ng (IB n a) n a m b (dO t 32)).2.2.2)else((n,a,m,b),⟨#[110,111]⟩))
 else((n,a,m,b),PT n a m b (dO t 32))
theorem yn(b:Bool)(n:Int)(f:V0):((k,qn b n f):Md).2.2.2.length<=1048576:=by
 cases b with
 | true=>show(bl (dI f k0)).length<=_;rw[ap];have:=vu f k0;omega
 | false=>exact aB _
theorem zpu:((k,exM n):Md).2.2.2.length<=1048576:=by
 show(mu<|FI n).length<=_;unfold mu FI;repeat' split
 all_goals decide
theorem zpv{w:Int}(c:lh g<=1048576):(Bc w g n b t).2.2.2.length<=1048576:=by
 unfold Bc
 repeat' split
 all_goals first|exact yn _ _ _ _|exact aB _|skip
 show(uk w g).length<=_;unfold uk;split
 ·rcases DG (g.map Int.toNat) (nk w.toNat w.toNat []) g with e|⟨d,_,e⟩
  ·rw[e];exact c
  ·rw[e];unfold wu;rw[ap];have:=Abs.ordN_len (hU (bl (Ge (g.map Int.toNat) d)));omega
 ·exact aB _
def sm(r:Md):Prop:=r.2.2.2.length<=1048576
theorem yo{c:Prop}[Decidable c]{a b:Md}(d:sm a)(e:sm b):sm (if c then a else b):=by grind
theorem zeU:sm PW:=aB _
theorem zsX:sm (IB n b t c):=by refine yo ?_ (yo (yo (zpu _ _) zeU) (yo (yo (yn _ _ _ _) zeU) (yo (yo (yn _ _ _ _) (yo (yn _ _ _ _) (yo (yn _ _ _ _) (yo (yn _ _ _ _) (yo (yn _ _ _ _) zeU))))) zeU)));show(pxM c).2.2.length<=_;unfold pxM;split;rename_i h;unfold Ey at h;rw[aj]at h;show(ph (Iu (GC c))).length<=_;rw[xe h.2,ap];have:=vu (ao (ph (Iu (GC c)))) k0;omega;exact aB _
theorem zeV{n:Int}(m:Int)(b:N0)(c:Q0)(d:lh g<=1048576):(ng (IB n g) n g m b c).2.2.2.length<=1048576:=by unfold ng;split;exact zpv m b _ d;exact zsX n g _ _;unfold ZF;split;exact yn _ _ _ _;exact aB _;exact aB _
theorem Ck(i:lh b<=1048576)(o:lh d<=1048576)(q:t.size<=2000000):AC prog 11 [.ag [al n,aE b,al m,aE d],fa t] (seT (Np n b m d t)):=by
 refine cA [.cell 4 33,.tmp 5] func11 λz=>?_;have f:∀p∈dO t 32,p.size<=2000000:=λp w=>aJ (zU w) q;have g:lh (dO t 32)<=2000001:=aJ (tN t 32) om;have h:=LJ n b m d (dO t 32) f g;have j:=GG n b m d (dO t 32) f g;have k:=zeV m d (dO t 32) i (n:=n);have l:=iT t 32 q;unfold Np;generalize ng (IB n b) n b m d (dO t 32)=r at *;generalize PT n b m d (dO t 32)=a at *;generalize dO t 32=A at *;obtain⟨x,y,s,u⟩:=r;unfold Gw at h;unfold seT;refine aR (aa (PD n b m d i o) ?_);refine cZ @kf (aa l ?_);refine cZ @kf (aa h ?_);cases c:(t.toList==(⟨#[107,101,101,112]⟩:P0).toList)with
 | true =>rw[ae rfl];refine iD @kf @me c (aa (lR n b i) ?_);exact mg kf
 | false =>
   rw[iH rfl];cases e:(t.toList==(⟨#[115,119,97,112]⟩:P0).toList)with
   | true =>rw[ae rfl];refine ox @kf @me c e (aa (lR m d o) ?_);refine cZ @kf (aa (lR n b i) ?_);exact mg kf
   | false =>
     rw[iH rfl];cases x with
     | true =>
       rw[ae rfl];cases y with
       | true =>rw[ae rfl];refine ox @kf @me c e (aa (lR s u k) ?_);refine ox @kf @me c e ?_;refine⟨kr,aa (sU s u) ?_⟩;exact Rc kf me c e
       | false =>rw[iH rfl];exact Rc kf me c e
     | false =>rw[iH rfl];refine ox @kf @me c e ?_;refine⟨kr,aa j ?_⟩;exact Rc kf me c e
theorem zsW{n m:Int}{xs ys:N0}{w:P0}(h:w=⟨#[107,101,101,112]⟩\/w=⟨#[115,119,97,112]⟩):(Bc n xs m ys w).1=false:=by unfold Bc;rcases h with h|h<;>subst h<;>simp<;>rfl
theorem XU:dO ⟨#[107,101,101,112]⟩ 32=[⟨#[107,101,101,112]⟩]/\dO ⟨#[115,119,97,112]⟩ 32=[⟨#[115,119,97,112]⟩]:=dc
theorem zeT{w:P0}(h:(f.toList==w.toList)=k0):f=w:=by rwa [qd,bT]at h
theorem zuS{t:P0}(h:(dO t 32).length≠1):(t.toList==(⟨#[107,101,101,112]⟩:P0).toList)=l0/\(t.toList==(⟨#[115,119,97,112]⟩:P0).toList)=false:=by constructor;exact Bool.eq_false_iff.2 λe=>h (by rw[zeT e];rfl);exact Bool.eq_false_iff.2 λe=>h (by rw[zeT e];rfl)
theorem zkp{r s:Md}(h:LK r s)(a:r.1=l0):s.1=false:=h.1.symm.trans a
theorem Cj(F:lh b<=1048576)(H:lh d<=1048576)(G:t.size<=2000000):AC prog 14 [.ag [al n,aE b,al m,aE d],fa t] (seT (Np n b m d t)):=by
 refine cA [.cell 4 33,.tmp 5] func14 λO=>?_;have x:∀p∈dO t 32,p.size<=2000000:=λp I=>aJ (zU I) G;have C:lh (dO t 32)<=2000001:=aJ (tN t 32) om;have e:=GI n b m d (dO t 32) x C;have g:=zuS (t:=t);have y:=qc t 32 G;have j:=zkr n b m d (dO t 32);unfold Np;refine aR ?_;refine⟨kr,aa (ot n b F) ?_⟩;refine aR ?_;refine aa (ot m d H) ?_;refine aR ?_;refine⟨kr,aa y ?_⟩;generalize J:dO t 32=K at *;clear y;unfold seT;rcases K with _|⟨w,_|⟨p,_|⟨q,_|⟨o,l⟩⟩⟩⟩
 have f:=g dc;rw[iH f.1,iH f.2,iH (b:=(ng (IB n b) n b m d []).1) rfl];rw[show ng (IF n b) n b m d []=PW from rfl]at e;unfold BI PW at e;refine aR ?_;refine aa e ?_;refine cZ @gJ ?_;rfl;have L:=ziq J;subst L;rw[show ng (IF n b) n b m d [w]=Bc n b m d w from rfl]at e;rw[show ng (IB n b) n b m d [w]=Bc n b m d w from rfl];have A:=zsW (n:=n) (m:=m) (xs:=b) (ys:=d) (w:=w);have k:AC prog 26 [.ag [al n,aE b,al m,aE d],fa w] (.tup [.im (fa (LH n b m d w).2),.im (aU (LH n b m d w).1)]):=GH n b m d w;rw[show PT n b m d [w]=whX (LH n b m d w) from rfl];generalize Bc n b m d w=r at *;generalize LH n b m d w=z at *;obtain⟨s,u,h,i⟩:=r;obtain⟨D,M⟩:=z;unfold BI at e;unfold whX IA;cases B:(w.toList==(⟨#[107,101,101,112]⟩:P0).toList)with
 | true =>obtain rfl:s=false:=A (.inl (zeT B));rw[ae rfl];refine aR ?_;refine aa e ?_;refine ff @gJ B ?_;refine aa (ot n b F) ?_;exact DL gJ B
 | false =>
   rw[iH rfl];cases E:(w.toList==(⟨#[115,119,97,112]⟩:P0).toList)with
   | true =>obtain rfl:s=false:=A (.inr (zeT E));rw[ae rfl];refine aR ?_;refine aa e ?_;exact RY gJ B E
   | false =>
     rw[iH rfl];cases s with
     | true =>
       rw[ae rfl];cases u with
       | true =>rw[ae rfl];refine aR ?_;refine aa e ?_;refine cZ @gJ ?_;refine⟨kr,aa (kY h i) ?_⟩;refine cZ @gJ ?_;kernel_rfl
       | false =>rw[iH rfl];refine aR ?_;refine aa e ?_;exact mg gJ
     | false =>
       rw[iH rfl];refine aR ?_;refine aa e ?_;refine iD @gJ B E ?_;refine⟨kr,aa k ?_⟩;cases D with
       | true=>exact ef
       | false=>exact ef
 have f:=g sp;rw[iH f.1,iH f.2];rw[show ng (IF n b) n b m d [w,p]=IF n b w p from rfl]at e;rw[show ng (IB n b) n b m d [w,p]=IB n b w p from rfl];have j:=zr5 n b w p;have k:=JU n b m d w p (x p sp);rw[show PT n b m d [w,p]=whX (XV n b w p) from rfl];generalize XV n b w p=z at *;generalize IB n b w p=v at *;generalize IF n b w p=r at *;obtain⟨s,u,h,i⟩:=r;obtain⟨D,M⟩:=z;unfold BI at e;unfold whX IA;cases s with
 | true =>
   rw[<- j.2 rfl];rw[ae (c:=(k0,u,h,i).1=k0) rfl];cases u with
   | true =>rw[ae (c:=(k0,k0,h,i).2.1=k0) rfl];refine aR ?_;refine aa e ?_;refine cZ @gJ ?_;refine⟨kr,aa (kY h i) ?_⟩;refine cZ @gJ ?_;kernel_rfl
   | false =>rw[iH (b:=(k0,l0,h,i).2.1) rfl];refine aR ?_;refine aa e ?_;exact mg gJ
 | false =>
   rw[iH (zkp j rfl)];refine aR ?_;refine aa e ?_;refine cZ @gJ ?_;refine⟨kr,aa k ?_⟩;cases D with
   | true=>exact ef
   | false=>exact ef
 have f:=g sp;rw[iH f.1,iH f.2];rw[show ng (IF n b) n b m d [w,p,q]=ZF n b w p q from rfl]at e;rw[show ng (IB n b) n b m d [w,p,q]=ZF n b w p q from rfl];rw[show PT n b m d [w,p,q]=IA from rfl];generalize ZF n b w p q=r at *;obtain⟨s,u,h,i⟩:=r;unfold BI at e;unfold IA;cases s with
 | true =>
   rw[ae rfl];cases u with
   | true =>rw[ae rfl];refine aR ?_;refine aa e ?_;refine cZ @gJ ?_;refine⟨kr,aa (kY h i) ?_⟩;refine cZ @gJ ?_;kernel_rfl
   | false =>rw[iH rfl];refine aR ?_;refine aa e ?_;exact mg gJ
 | false =>rw[iH rfl];refine aR ?_;refine aa e ?_;exact mg gJ
 have f:=g sp;rw[iH f.1,iH f.2,iH (b:=(ng (IB n b) n b m d (w::p::q::o::l)).1) rfl];have N:(3<((lh l+1+1+1+1:Nat):Int))=True:=bO om;refine cZ N ?_;rfl
theorem zsV(a:lh b<=1048576)(c:lh d<=1048576):(Np n b m d t).1.2.1.length<=1048576/\(Np n b m d t).1.2.2.2.length<=1048576:=by have:=zeV m d (dO t 32) a (n:=n);unfold Np;split;exact⟨a,a⟩;split;exact⟨c,a⟩;split;split;exact⟨this,c⟩;exact⟨a,c⟩;exact⟨a,c⟩
theorem LG(s:St)(d e b f a:Nat)(x y z:Value)(c c2:M0):br s d (.tup [.ag [.im (.v x),.fr e b c,.im (.v y),.fr f a c2],.im (.v z)])=((s.row (d+1000) ⟨(s.rw (d+1000)).ver+1,.sli f a l0 c2⟩).row d ⟨(s.rw d).ver+1,.sli e b l0 c⟩).put (some d) (.tup [.ag [.v x,.own d ((s.rw d).ver+1),.v y,.own (d+1000) ((s.rw (d+1000)).ver+1)],.v z]):=by simp[br,bo,eu,gN,fL];rfl
noncomputable def YA(s:Se×Q0)(l:P0):Se×Q0:=((Np s.1.1 s.1.2.1 s.1.2.2.1 s.1.2.2.2 l).1,s.2++[(Np s.1.1 s.1.2.1 s.1.2.2.1 s.1.2.2.2 l).2])
noncomputable def ka(l:Q0):Se×Q0:=l.foldl YA ((((xJ 1:Nat):Int),mu (FI 1),((xJ 1:Nat):Int),mu (FI 1)),[])
theorem Ed(h:i<lh l):ka (l.take (i+1))=YA (ka (l.take i)) (lg l i ⟨#[]⟩):=by unfold ka;rw[bj ⟨#[]⟩ h,jJ];rfl
theorem ZB:∀(l:Q0)(s:Se×Q0),(l.foldl YA s).2.length=s.2.length+lh l:=by
 intro l;induction l with
 | nil=>intro s;rfl
 | cons a l b=>intro s;rw[qY,b];simp[YA];omega
theorem LY:(ka l).2.length=lh l:=by unfold ka;rw[ZB];simp
theorem zd0:∀(l:Q0)(s:Se×Q0),s.1.2.1.length<=1048576->s.1.2.2.2.length<=1048576->(l.foldl YA s).1.2.1.length<=1048576/\(l.foldl YA s).1.2.2.2.length<=1048576:=by
 intro l;induction l with
 | nil=>intro s b c;exact⟨b,c⟩
 | cons a l d =>intro s b c;rw[qY];have:=zsV s.1.1 s.1.2.1 s.1.2.2.1 s.1.2.2.2 a b c;exact d _ this.1 this.2
theorem zcz:(ka l).1.2.1.length<=1048576/\(ka l).1.2.2.2.length<=1048576 :=
 zd0 l _ (DU 1) (DU 1)
noncomputable def ruO(t:P0):Q0:=if(dO t 10).length<=40 then(ka (dO t 10)).2 else []
noncomputable def ruR(t:P0):RV:=.tup [.fr 9 1 (sL (ruO t)),.im (aU (decide (lh (dO t 10)<=40)))]
theorem ZE:lh (ruO t)<=40:=by unfold ruO;split;rename_i h;rw[LY];exact h;exact aB _
theorem Am(y:t.size<=2000000):AC prog 4 [fa t] (ruR t):=by
 refine cA [.tmp 2,.tmp 3] func4 λK=>?_;have j:∀i,i<lh (dO t 10)->(lg (dO t 10) i ⟨#[]⟩).size<=2000000:=λi z=>aJ (zU (aP ⟨#[]⟩ z)) y;refine aR ?_;refine aa (iT t 10 y) ?_;unfold ruR ruO;generalize dO t 10=L at *;refine aR ?_;refine⟨λh=>?_,λh=>?_⟩
 ·have h:¬L.length<=40:=om;rw[ac h];exact⟨rfl,h⟩
 ·have n:lh L<=40:=om;rw[ae n,ay n];have A:=BS;have l:(ka (L.take 0))=((((xJ 1:Nat):Int),mu (FI 1),((xJ 1:Nat):Int),mu (FI 1)),[]):=rfl;unfold RX at A;refine aa A ?_;refine aR ?_;refine az (λ((i,m,c,v,w):Nat×Nat×Bool×Nat×Nat) s=>(s.sl 4=.own 11 1/\s.rw 11=⟨1,.sli 9 1 l0 (sL L)⟩/\s.sl 5=.own 16 m/\s.rw 16=⟨m,.sli 9 1 l0 (sL (ka (L.take i)).2)⟩/\s.sl 6=.ref 6 1 0/\s.rw 6=⟨1,.box 33 [al (ka (L.take i)).1.1,.own (if c then 30 else 17) v,al (ka (L.take i)).1.2.2.1,.own (if c then 1030 else 1017) w]⟩/\s.sl 7=al i)/\(i<=lh L/\s.rw (if c then 30 else 17)=⟨v,.sli 3 1 l0 (iL (ka (L.take i)).1.2.1)⟩/\s.rw (if c then 1030 else 1017)=⟨w,.sli 3 1 l0 (iL (ka (L.take i)).1.2.2.2)⟩)) (λ(i,m,c,v,w)=>lh L-i) ((0,1,l0,1,1)) ⟨(jX l),⟨aB _,by simp -dsimp only[gr,simprocAttr,l],by simp -dsimp only[gr,simprocAttr,l]⟩⟩ ?_;intro(i,m,c,v,w) B ⟨k,q⟩;obtain⟨z,d,f⟩:=q;obtain⟨C,D⟩:=zcz (L.take i);have F:=LY (L.take i);cases c<;>simp only[eW,eP,gx]at k d f
  all_goals
   rcases bf i (lh L) with a|G
  ·have b:=Ed L a;unfold YA at b;have o:=Ck (ka (L.take i)).1.1 (ka (L.take i)).1.2.1 (ka (L.take i)).1.2.2.1 (ka (L.take i)).1.2.2.2 (lg L i ⟨#[]⟩) C D (j i a);generalize Np (ka (L.take i)).1.1 (ka (L.take i)).1.2.1 (ka (L.take i)).1.2.2.1 (ka (L.take i)).1.2.2.2 (lg L i ⟨#[]⟩)=r at *;generalize ka (L.take i)=e at *;obtain⟨⟨H,u,I,x⟩,J⟩:=r;unfold seT at o;have g:((i:Int)<(lh L:Int))=True:=bO om;refine ox k d f g ?_;refine⟨kr,a,aa o ?_⟩;refine ox k d f @LG ?_;have p:lh (List.take i L)=i:=by rw[bg];omega
   refine⟨kr,om,?_⟩;exact ah ((i+1,m+1,k0,(B.rw 30).ver+1,(B.rw 1030).ver+1)) ⟨(fB k b (ak a om)),⟨a,by simp -dsimp only[gr,simprocAttr,b],by simp -dsimp only[gr,simprocAttr,b]⟩⟩
  ·obtain rfl:i=lh L:=om;rw[av]at *;have g:((lh L:Int)<(lh L:Int))=False:=aX om;exact Rc k d f g
  ·have b:=Ed L a;unfold YA at b;have o:=Ck (ka (L.take i)).1.1 (ka (L.take i)).1.2.1 (ka (L.take i)).1.2.2.1 (ka (L.take i)).1.2.2.2 (lg L i ⟨#[]⟩) C D (j i a);generalize Np (ka (L.take i)).1.1 (ka (L.take i)).1.2.1 (ka (L.take i)).1.2.2.1 (ka (L.take i)).1.2.2.2 (lg L i ⟨#[]⟩)=r at *;generalize ka (L.take i)=e at *;obtain⟨⟨H,u,I,x⟩,J⟩:=r;unfold seT at o;have g:((i:Int)<(lh L:Int))=True:=bO om;refine ox k d f g ?_;refine⟨kr,a,aa o ?_⟩;refine ox k d f @LG ?_;have p:lh (List.take i L)=i:=by rw[bg];omega
   refine⟨kr,om,?_⟩;exact ah ((i+1,m+1,k0,v+1,w+1)) ⟨(fB k b (ak a om)),⟨a,by simp -dsimp only[gr,simprocAttr,b],by simp -dsimp only[gr,simprocAttr,b]⟩⟩
  ·obtain rfl:i=lh L:=om;rw[av]at *;have g:((lh L:Int)<(lh L:Int))=False:=aX om;exact Rc k d f g
theorem Al(y:t.size<=2000000):AC prog 5 [fa t] (ruR t):=by
 refine cA [.tmp 2,.tmp 3] func5 λK=>?_;have j:∀i,i<lh (dO t 10)->(lg (dO t 10) i ⟨#[]⟩).size<=2000000:=λi z=>aJ (zU (aP ⟨#[]⟩ z)) y;refine aR ?_;refine aa (qc t 10 y) ?_;unfold ruR ruO;generalize dO t 10=L at *;refine aR ?_;refine⟨λh=>?_,λh=>?_⟩
 ·have h:¬L.length<=40:=om;rw[ac h];exact⟨rfl,h⟩
 ·have n:lh L<=40:=om;rw[ae n,ay n];have A:=Co;have l:(ka (L.take 0))=((((xJ 1:Nat):Int),mu (FI 1),((xJ 1:Nat):Int),mu (FI 1)),[]):=rfl;unfold RX at A;refine aa A ?_;refine aR ?_;refine az (λ((i,m,c,v,w):Nat×Nat×Bool×Nat×Nat) s=>(s.sl 16=.own 11 1/\s.rw 11=⟨1,.sli 9 1 l0 (sL L)⟩/\s.sl 17=al (lh L)/\s.sl 18=al i/\s.sl 6=.own 6 m/\s.rw 6=⟨m,.sli 9 1 l0 (sL (ka (L.take i)).2)⟩/\s.sl 5=.ref 5 1 0/\s.rw 5=⟨1,.box 33 [al (ka (L.take i)).1.1,.own (if c then 25 else 15) v,al (ka (L.take i)).1.2.2.1,.own (if c then 1025 else 1015) w]⟩)/\(i<=lh L/\s.rw (if c then 25 else 15)=⟨v,.sli 3 1 l0 (iL (ka (L.take i)).1.2.1)⟩/\s.rw (if c then 1025 else 1015)=⟨w,.sli 3 1 l0 (iL (ka (L.take i)).1.2.2.2)⟩)) (λ(i,m,c,v,w)=>lh L-i) ((0,1,l0,1,1)) ⟨(jX l),⟨aB _,by simp -dsimp only[gr,simprocAttr,l],by simp -dsimp only[gr,simprocAttr,l]⟩⟩ ?_;intro(i,m,c,v,w) B ⟨k,q⟩;obtain⟨z,d,f⟩:=q;obtain⟨C,D⟩:=zcz (L.take i);have F:=LY (L.take i);cases c<;>simp only[eW,eP,gx]at k d f
  all_goals
   rcases bf i (lh L) with a|G
  ·have b:=Ed L a;unfold YA at b;have o:=Cj (ka (L.take i)).1.1 (ka (L.take i)).1.2.1 (ka (L.take i)).1.2.2.1 (ka (L.take i)).1.2.2.2 (lg L i ⟨#[]⟩) C D (j i a);generalize Np (ka (L.take i)).1.1 (ka (L.take i)).1.2.1 (ka (L.take i)).1.2.2.1 (ka (L.take i)).1.2.2.2 (lg L i ⟨#[]⟩)=r at *;generalize ka (L.take i)=e at *;obtain⟨⟨H,u,I,x⟩,J⟩:=r;unfold seT at o;have g:((i:Int)<(lh L:Int))=True:=bO om;refine ox k d f g ?_;refine⟨a,aa o ?_⟩;refine ox k d f @LG ?_;have p:lh (List.take i L)=i:=by rw[bg];omega
   refine⟨om,?_⟩;exact ah ((i+1,m+1,k0,(B.rw 25).ver+1,(B.rw 1025).ver+1)) ⟨(fB k b (ak a om)),⟨a,by simp -dsimp only[gr,simprocAttr,b],by simp -dsimp only[gr,simprocAttr,b]⟩⟩
  ·obtain rfl:i=lh L:=om;rw[av]at *;have g:((lh L:Int)<(lh L:Int))=False:=aX om;exact Rc k d f g
  ·have b:=Ed L a;unfold YA at b;have o:=Cj (ka (L.take i)).1.1 (ka (L.take i)).1.2.1 (ka (L.take i)).1.2.2.1 (ka (L.take i)).1.2.2.2 (lg L i ⟨#[]⟩) C D (j i a);generalize Np (ka (L.take i)).1.1 (ka (L.take i)).1.2.1 (ka (L.take i)).1.2.2.1 (ka (L.take i)).1.2.2.2 (lg L i ⟨#[]⟩)=r at *;generalize ka (L.take i)=e at *;obtain⟨⟨H,u,I,x⟩,J⟩:=r;unfold seT at o;have g:((i:Int)<(lh L:Int))=True:=bO om;refine ox k d f g ?_;refine⟨a,aa o ?_⟩;refine ox k d f @LG ?_;have p:lh (List.take i L)=i:=by rw[bg];omega
   refine⟨om,?_⟩;exact ah ((i+1,m+1,k0,v+1,w+1)) ⟨(fB k b (ak a om)),⟨a,by simp -dsimp only[gr,simprocAttr,b],by simp -dsimp only[gr,simprocAttr,b]⟩⟩
  ·obtain rfl:i=lh L:=om;rw[av]at *;have g:((lh L:Int)<(lh L:Int))=False:=aX om;exact Rc k d f g
theorem la(f:lh l<=1000):AC prog 6 [.sl l0 1 (sL l),.sl l0 1 (sL l)] (.im (aU k0)):=by refine cA [.tmp 4] func6 λg=>?_;have c:((lh l:Int) != (lh l))=false:=sp;refine cZ c ?_;refine az (λ(i:Nat)s=>(s.sl 0=.sl l0 1 (sL l)/\s.sl 1=.sl l0 1 (sL l)/\s.sl 5=al i)/\(i<=lh l)) (λi=>lh l-i) (0) ⟨nm,aB _⟩ ?_;intro i j ⟨b,d⟩;have e:∀w:P0,(w.toList==w.toList)=true:=λw=>sp;refine ff b e ?_;intro h;exact⟨kr,h,h,h,h,ah (i+1) ⟨(gE b (ak h om)),h⟩⟩
def Nj(k:Nat):P0:=(⟨#[109]⟩:P0)++⟨(Go.Lib.decDigits k).toArray⟩
theorem tu(z:0<a)(l:a<=1000):AC prog 15 [al a] (.im (fa (Nj a))):=by
 refine cA [.tmp 2] func15 λA=>?_;have e:((a:Int)<=0)=False:=aX om;refine cZ e ?_;refine az (λ((m,o):Nat×P0) s=>(s.sl 0=al m/\s.sl 3=fa o)/\((if m=0 then []else Go.Lib.decDigits m)++o.data.toList=Go.Lib.decDigits a/\m<=1000/\o.size<=20)) (λ(m,o)=>m) ((a,⟨#[]⟩)) ⟨nm,⟨by rw[ac om];simp,l,dc⟩⟩ ?_;intro(m,o) B ⟨g,h⟩;obtain⟨f,p,q⟩:=h;by_cases i:m=0;subst i;rw[ae rfl,eg]at f;have j:(0<((0:Nat):Int))=False:=aX om;refine ff g j ?_;refine⟨by show 1+_<=_;omega,?_⟩;unfold Nj;rw[<- f];have j:(0<(m:Int))=True:=bO om;have k:IntKind.i64.wrap ((m:Int).tdiv 10)=((m/10:Nat):Int):=by rw[show(m:Int).tdiv 10=((m/10:Nat):Int) from rfl];exact aF om om
 have r:(m:Int).tmod 10=((m%10:Nat):Int):=rfl;have e:=zoB (d:=m%10) (xq m dc) (x:=(m:Int).tmod 10) r;refine xA g j @zi @Uz @zd1 k e ?_;rw[ac i,zrz i]at f;have t:(Ek (m%10)).size=1:=rfl;have b:(if m/10=0 then []else Go.Lib.decDigits (m/10))++(Ek (m%10)++o).data.toList=Go.Lib.decDigits a:=by
  rw[<- f];have u:(Ek (m%10)++o).data.toList=[UInt8.ofNat (48+m%10)]++o.data.toList:=by simp[Ek]
  rw[u,<- cP]
 have c:(Ek (m%10)++o).size<=20:=by have w:=cV lh b;have C:=zeG 3 a om;have y:(Ek (m%10)++o).data.toList.length=(Ek (m%10)++o).size:=dU;rw[aA,y]at w;omega
 refine⟨om,ah ((m/10,Ek (m%10)++o)) ⟨(fB g k e),⟨b,by dsimp only;omega,c⟩⟩⟩
def lb(k n:Nat):Q0:=(lc n).map λi=>Nj (k+i)
theorem wh:lh (lb a e)=e:=by simp[lb]
theorem Sv(h:i<lh l):(lb a i++l.drop i).set i (Nj (a+i))=lb a (i+1)++l.drop (i+1):=by
 have b:lh (lb a i)=i:=wh a i;rw[lW _ _ om,b,pi];have e:l.drop i=l[i]::l.drop (i+1):=by rw[tm h]
 rw[e,List.set_cons_zero];simp[lb,bW]
theorem En:plain (sL l):=by have:=zkN l;unfold plain;rw[this];trivial
theorem yv(a:0<e)(m:e+lh l<=1000):AM prog 7 [.own 1000000 1,al e] [⟨9,1,sL l⟩] [sL (lb e (lh l))] (.int .i64 ((e+lh l:Nat):Int)):=by
 refine AM.go (rs:=[.tmp 4]) tk mixed func7 rfl rfl rfl kr (ic (En _) mi) (ia (En _) mh) rfl λn=>?_;refine aR ?_;have c:lb e 0++l.drop 0=l:=by simp[lb]
 have d:lb e 0++l=l:=by simp[lb]
 refine az (λ(i:Nat)s=>(s.sl 0=.own 1000000 1/\s.rw 1000000=⟨1,.sli 9 1 l0 (sL (lb e i++l.drop i))⟩/\s.sl 1=al ((e+i:Nat):Int)/\s.sl 5=al i)/\(i<=lh l)) (λi=>lh l-i) (0) ⟨(gE c d),aB _⟩ ?_;intro i o ⟨k,j⟩;have b:lh (lb e i++l.drop i)=lh l:=by rw[aA,wh,wr];omega
 refine ff k b ?_;refine⟨λh=>aa (tu (e+i) om om) ?_,λh=>?_⟩;have f:nt (sL (lb e i++l.drop i)) i [PV.v (Value.string (Nj (e+i)))]=sL (lb e (i+1)++l.drop (i+1)):=by rw[<- Sv e l h];simp[nt,sL]
 have g:IntKind.i64.wrap (((e+i:Nat):Int)+1)=((e+(i+1):Nat):Int):=by rw[aF om om];omega
 refine ff k b ?_;exact⟨h,h,ah (i+1) ⟨(rS k f g (ak h om)),h⟩⟩;obtain rfl:i=lh l:=om;simp
theorem Nm{k:Nat}(h:k<i):lg (lb a i) k ⟨#[]⟩=Nj (a+k):=by simp[lb,lg,h]
theorem yx(g:0<a)(j:a+e<=1000):AC prog 8 [.sl l0 1 (sL (lb a e)),al a] (.im (al ((a+e:Nat):Int))):=by
 refine cA [.tmp 4] func8 λl=>?_;refine aR ?_;refine az (λ(i:Nat)s=>(s.sl 0=.sl l0 1 (sL (lb a e))/\s.sl 1=al ((a+i:Nat):Int)/\s.sl 5=al i)/\(i<=e)) (λi=>e-i) (0) ⟨nm,aB _⟩ ?_;intro i m ⟨b,d⟩;have k:=wh a e;refine ff b k ?_;refine⟨λh=>⟨kr,h,h,aa (tu (a+i) om om) ?_⟩,λh=>?_⟩;have c:IntKind.i64.wrap (((a+i:Nat):Int)+1)=((a+(i+1):Nat):Int):=by rw[aF om om];omega
 have n:=Nm a h;have f:∀w:P0,(w.toList==w.toList)=true:=λw=>sp;refine ox b k n f ?_;exact ah (i+1) ⟨(fB b c (ak h om)),h⟩;obtain rfl:i=e:=om;rfl
end Go.Proofs.YtigjebcjfbhnjaaGreatDoor
