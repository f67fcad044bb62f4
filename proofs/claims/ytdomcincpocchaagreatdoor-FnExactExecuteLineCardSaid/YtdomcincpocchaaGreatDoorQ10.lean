/- DERIVED by an AI agent. -/
import Derived.Test.YtdomcincpocchaaGreatDoorQ9
set_option linter.all false
namespace Go.Proofs.YtdomcincpocchaaGreatDoor
open Bool renaming true→n0,false→o0
open List renaming length→lh
open Go.Proofs.Tryz
open Go.Abs
variable (k:Bool)(b:Bool)(n:Int)(a:P0)(m:Int)(d:P0)(w:S0)(t:S0){c:S0}{e:P0}
theorem zeW:-1<=nE n a m/\nE n a m<=100:=by unfold nE;split;exact zq5 _<|zhP<|ab _;omega
theorem zeX:-1<=QH n a m/\QH n a m<=14000000:=by unfold QH;split;rename_i h;split;grind;have b:=eD (ao a);have:=zoF (zuk (ao a)) om h.2.2 (lh (gc (ao a))-1) (by rw[eb];omega);rw[eb]at *;omega;omega
theorem zeY(f:X0)(p:Int):lh (Bl f p)<=1048576/\∀x∈Bl f p,inI x:=by unfold Bl;split;exact⟨by rw[df];have:=eD f;omega,Gp f p⟩;simp
noncomputable def hmT(n:Int)(a:P0)(v:Int):S0:=if(Bl (ci n a) v).length=0 then⟨#[110,111]⟩else pH (Bl (ci n a) v)
noncomputable def fsL(n:Int)(a:P0)(v:Int):P0:=bl ((co (ci n a)).filter λs=>(aQ s:Int)==v)
theorem zeZ:lh (fsL n a m)<=500:=by rw[fsL,ap];have:=aO (λs=>(aQ s)==m)<|co<|ci n a;have:=Abs.ordN_len<|ci n a;omega
noncomputable def zcG(n:Int)(a:P0)(w:S0)(v:Int):Bool×S0 :=
 if(w.toList==(⟨#[104,111,108,101,115]⟩:S0).toList)=n0 then(n0,hmT n a v)
 else if(w.toList==(⟨#[102,97,99,101,115]⟩:S0).toList)=n0 then(n0,Vp (fsL n a v))
 else if(w.toList==(⟨#[100,101,112,116,104]⟩:S0).toList)=n0 then(n0,dA (nE n a v))
 else if(w.toList==(⟨#[108,101,102,116]⟩:S0).toList)=n0 then(n0,dA (QH n a v))
 else(o0,⟨#[]⟩)
noncomputable def XV(n:Int)(a:P0)(w t:S0):Bool×S0:=if(w.toList==(⟨#[102,97,99,101]⟩:S0).toList)=n0 then(uq t,zrT (hfB n a (Br t:Nat)))else if pg (dl t)=n0 then zcG n a w (Gv t)else(o0,⟨#[]⟩)
def whX(r:Bool×S0):S0:=if r.1=n0 then r.2 else IA
theorem zsZ:-1000000000000<=Gv w/\Gv w<=1000000000000:=by unfold Gv;split;rename_i h;unfold pg GB at h;simp[bT]at h;have a:=zpc _ h.1.2.1;have b:=aV (n:=10) om h.1.1.2;simp[we];omega;omega
theorem PS(v:Int):AC prog 40 [.ag [al n,aE a,al m,aE d],fa w,al v] (.im (fa (whX (zcG n a w v)))):=by
 refine cA [.tmp 6] func40 λg=>?_;unfold zcG;refine aR ?_;have d2:=zeW n a v;have i:=zeX n a v;have c:=zeY (ci n a) v;have f:=zeZ n a v;refine⟨λh=>?_,λh=>?_⟩;rw[ae h];refine aa (nS n a v) ?_;unfold hmT;generalize Bl (ci n a) v=l at *;refine cZ @dB ?_;refine⟨λb=>?_,λb=>?_⟩;have b:lh l=0:=by have:=beq_iff_eq.1 b;omega
 rw[ae b];rfl;have b:¬l.length=0:=λe=>by rw[e]at b;cases b
 rw[ac b];refine aa (iz l c.1 c.2) ?_;refine aR ?_;rfl;rw[iH h];refine⟨λh=>?_,λh=>?_⟩;rw[ae h];refine aa (sx n a v) ?_;refine aR<|aa (zP (fsL n a v) f) ?_;refine aR ?_;rfl;rw[iH h];refine⟨λh=>?_,λh=>?_⟩;rw[ae h];refine aa (sK n a v) ?_;refine aR ?_;refine aa (cB (n:=nE n a v) om om) ?_;refine aR ?_;rfl;rw[iH h];refine⟨λh=>?_,λh=>?_⟩;rw[ae h];refine aa (Il n a v) ?_;refine aR ?_;refine aa (cB (n:=QH n a v) om om) ?_;refine aR ?_;rfl;rw[iH h];rfl
theorem JU(g:t.size<=2000000):AC prog 24 [.ag [al n,aE a,al m,aE d],fa w,fa t] (.tup [.im (fa (XV n a w t).2),.im (aU (XV n a w t).1)]):=by
 refine cA [.tmp 6,.tmp 7] func24 λj=>?_;have c:AC prog 67 [fa t] (.tup [.im (al<|Gv t),.im _]):=xS t g;unfold XV;refine aR ?_;refine⟨λh=>?_,λh=>?_⟩;rw[ae h];refine aa (gP t) ?_;refine aR<|aa (sR n a (Br t:Nat)) ?_;refine aR<|aa (zQ _) ?_;exact ef;rw[iH h];refine aa c ?_;have k:=zsZ t;generalize Gv t=v at *;cases pg (dl t)with
 | false =>rw[iH rfl];exact ef
 | true =>
   rw[ae rfl];unfold zcG;refine aR ?_;have d2:=zeW n a v;have o:=zeX n a v;have f:=zeY (ci n a) v;have i:=zeZ n a v;refine⟨λh=>?_,λh=>?_⟩;rw[ae h];refine aa (Iw n a v) ?_;unfold hmT;generalize Bl (ci n a) v=l at *;refine cZ @dB ?_;refine⟨λb=>?_,λb=>?_⟩;have b:lh l=0:=by have:=beq_iff_eq.1 b;omega
   rw[ae b];have b:¬l.length=0:=λe=>by rw[e]at b;cases b
   rw[ac b];refine aa (iA l f.1 f.2) ?_;exact ef;rw[iH h];refine⟨λh=>?_,λh=>?_⟩;rw[ae h];refine aa (BA n a v om) ?_;refine aR<|aa (xT (fsL n a v) i) ?_;exact ef;rw[iH h];refine⟨λh=>?_,λh=>?_⟩;rw[ae h];refine aa (KN n a v) ?_;refine aR ?_;refine aa (db (n:=nE n a v) om om) ?_;exact ef;rw[iH h];refine⟨λh=>?_,λh=>?_⟩;rw[ae h];refine aa (Ik n a v) ?_;refine aR ?_;refine aa (db (n:=QH n a v) om om) ?_;exact ef;rw[iH h];exact⟨rfl,rfl⟩
noncomputable def PT(n:Int)(a:P0)(m:Int)(b:P0):T0->S0
 | [w]=>whX (LH n a m b w)
 | [w,t]=>whX (XV n a w t)
 | _=>IA
theorem GG(c:T0)(e:∀p∈c,p.size<=2000000)(b:lh c<=2000001):AC prog 17 [.ag [al n,aE a,al m,aE d],zs3 c] (.im (fa (PT n a m d c))):=by
 refine cA [.tmp 4] func17 λj=>?_
 match c,e,b with
 | [],_,_ =>refine aR ?_;rfl
 | [w],_,_ =>have D:AC prog 36 [.ag [al n,aE a,al m,aE d],fa w] (.im<|fa<|PT n a m d [w]):=LI n a m d w;generalize PT n a m d [w]=r at *;refine aR ?_;refine⟨kr,aa D ?_⟩;exact ef
 | [w,t],e,_ =>
   have i:=e t sp;have f:AC prog 39 [fa t] (.tup [.im (al<|Gv t),.im (aU<|pg<|dl t)]):=qh t i;have g:=PS n a m d w<|Gv t;rw[show PT n a m d [w,t]=whX (XV n a w t) from rfl];unfold XV;refine aR ?_;refine⟨λh=>?_,λh=>?_⟩;rw[ae h];refine aa (gQ t i) ?_;cases uq t with
   | false =>refine aR ?_;rfl
   | true =>refine aR<|aa (zI n a (Br t:Nat)) ?_;refine aR<|aa (Ch _) ?_;refine aR ?_;rfl
   rw[iH h];refine aa f ?_;cases pg (dl t)with
   | false =>rw[iH rfl];refine aR ?_;rfl
   | true =>rw[ae rfl];refine aR ?_;refine⟨kr,aa g ?_⟩;exact ef
 | _::_::_::l,_,b =>rw[show PT n a m d (_::_::_::l)=IA from rfl];have c1:(((lh l+1+1+1:Nat):Int)==1)=false:=beq_eq_false_iff_ne.2 om;have c2:(((lh l+1+1+1:Nat):Int) != 2)=true:=bne_iff_ne.2 om;simp only[↓gp,gq,simprocAttr,gT,c1,c2];rfl
theorem kf(s:St)(d e b f a:Nat)(x y:Value)(c c2:O0):br s d (.ag [.im (.v x),.fr e b c,.im (.v y),.fr f a c2])=((s.row (d+1000) ⟨(s.rw (d+1000)).ver+1,.sli f a o0 c2⟩).row d ⟨(s.rw d).ver+1,.sli e b o0 c⟩).put (some d) (.ag [.v x,.own d ((s.rw d).ver+1),.v y,.own (d+1000) ((s.rw (d+1000)).ver+1)]):=by simp[br,bo,eu,fL];rfl
theorem Ab{b:Nat}:∀{l x:List UInt8},zT b l=[x]->x=l
 | [],x,h=>by simpa[zT]using h.symm
 | y::l,x,h=>by
   rw[nG]at h;split at h;have:=DH b l;grind;cases e:zT b l with
   | nil=>exact absurd e<|DH b l
   | cons p r =>rw[e]at h;simp at h;have⟨a,c⟩:=h;rw[c]at e;rw[<- a,Ab e]
theorem ziq{w:S0}{b:Nat}(h:dO c b=[w]):w=c:=by have a:=qi c b;rw[h]at a;exact iR<|Array.toList_inj.1 (Ab a.symm)
abbrev Se:=Int×P0×Int×P0
def seT(r:Se×S0):RV:=.tup [.ag [.im (al r.1.1),.fr 3 1 (iL r.1.2.1),.im (al r.1.2.2.1),.fr 3 1 (iL r.1.2.2.2)],.im (fa r.2)]
noncomputable def exE(n:Int)(a:P0)(m:Int)(b:P0)(t:S0):Se×S0 :=
 if(t.toList==(⟨#[107,101,101,112]⟩:S0).toList)=n0 then((n,a,n,a),⟨#[111,107]⟩)
 else if(t.toList==(⟨#[115,119,97,112]⟩:S0).toList)=n0 then((m,b,n,a),⟨#[111,107]⟩)
 else if(ng (IB n a) n a m b (dO t 32)).1=n0 then(if(ng (IB n a) n a m b (dO t 32)).2.1=n0 then(((ng (IB n a) n a m b (dO t 32)).2.2.1,(ng (IB n a) n a m b (dO t 32)).2.2.2,m,b),Vn (ng (IB n a) n a m b (dO t 32)).2.2.1 (ng (IB n a) n a m b (dO t 32)).2.2.2)else((n,a,m,b),⟨#[110,111]⟩))
 else((n,a,m,b),PT n a m b (dO t 32))
theorem yn(f:X0):((k,qn b n f):Md).2.2.2.length<=1048576:=by
 cases b with
 | true=>show(bl<|dI f _).length<=_;rw[ap];have:=vu f n0;omega
 | false=>exact aB _
theorem zpu:((k,exM n):Md).2.2.2.length<=1048576:=by
 show(mu<|FI n).length<=_;unfold mu FI;repeat' split
 all_goals decide
theorem zpv{m:Int}(c:lh e<=1048576):(Bc m e n a w).2.2.2.length<=1048576:=by
 unfold Bc
 repeat' split
 all_goals first|exact yn _ _ _ _|exact aB _|skip
 unfold uk;split
 ·rcases DG _ _ e with b|⟨d,_,b⟩
  ·rw[b];exact c
  ·rw[b];rw[wu,ap];have:=Abs.ordN_len<|hU<|bl<|Ge (e.map Int.toNat) d;omega
 simp
def sm(r:Md):Prop:=r.2.2.2.length<=1048576
theorem yo{c:Prop}[Decidable c]{a b:Md}(d:sm a)(e:sm b):sm (if c then a else b):=by grind
theorem zeU:sm PW:=aB _
theorem zsX:sm (IB n a w t):=by refine yo ?_<|yo (yo (zpu _ _) zeU)<|yo (yo (yn _ _ _ _) zeU)<|yo (yo (yn _ _ _ _)<|yo (yn _ _ _ _)<|yo (yn _ _ _ _)<|yo (yn _ _ _ _)<|yo (yn _ _ _ _) zeU) zeU;show(pxM t).2.2.length<=_;unfold pxM;split;rename_i h;unfold pxB at h;rw[aj]at h;show(ph<|Iu<|GC t).length<=_;rw[xe h.2,ap];have:=vu (ao<|ph<|Iu<|GC t) n0;omega;exact aB _
theorem zeV{n:Int}(m:Int)(b:P0)(c:T0)(d:lh e<=1048576):(ng (IB n e) n e m b c).2.2.2.length<=1048576:=by unfold ng;split;exact zpv m b _ d;exact zsX n e _ _;unfold flM;split;exact yn _ _ _ _;decide;decide
theorem Ck(i:lh a<=1048576)(o:lh d<=1048576)(q:w.size<=2000000):AC prog 5 [.ag [al n,aE a,al m,aE d],fa w] (seT (exE n a m d w)):=by
 refine cA [.cell 4 30,.tmp 5] func5 λz=>?_;have f:∀p∈dO w 32,p.size<=2000000:=λp b=>aJ (zU b) q;have g:lh (dO w 32)<=2000001:=aJ (tN w 32) om;have h:=LJ n a m d (dO w 32) f g;have j:=GG n a m d (dO w 32) f g;have k:=zeV m d (dO w 32) i (n:=n);have l:=iT w 32 q;unfold exE;generalize ng (IB n a) n a m d (dO w 32)=r at *;have⟨x,y,s,u⟩:=r;unfold Gw at h;unfold seT;refine aR<|aa (PD n a m d i o) ?_;refine cZ @kf<|aa l ?_;refine cZ @kf<|aa h ?_;cases t:(w.toList==(⟨#[107,101,101,112]⟩:S0).toList)with
 | true =>refine iD @kf @me t<|aa (lR n a i) ?_;exact mg kf
 | false =>
   cases e:(w.toList==(⟨#[115,119,97,112]⟩:S0).toList)with
   | true =>refine ox @kf @me t e<|aa (lR m d o) ?_;refine cZ @kf<|aa (lR n a i) ?_;exact mg kf
   | false =>
     cases x with
     | true =>
       rw[ae rfl];cases y with
       | true =>refine ox @kf @me t e<|aa (lR s u k) ?_;refine ox @kf @me t e ?_;exact⟨kr,aa (sU s u)<|xd4 kf me t e⟩
       | false =>exact xd4 kf me t e
     | false =>refine ox @kf @me t e ?_;exact⟨kr,aa j<|xd4 kf me t e⟩
theorem zsW{n m:Int}{xs ys:P0}{w:S0}(h:w=⟨#[107,101,101,112]⟩\/w=⟨#[115,119,97,112]⟩):(Bc n xs m ys w).1=false:=by unfold Bc;rcases h with h|h<;>subst h<;>simp<;>rfl
theorem XU:dO ⟨#[107,101,101,112]⟩ 32=[⟨#[107,101,101,112]⟩]/\dO ⟨#[115,119,97,112]⟩ 32=[⟨#[115,119,97,112]⟩]:=dc
theorem zeT{w:S0}(h:(c.toList==w.toList)=n0):c=w:=by rwa [qd,bT]at h
theorem zuS{t:S0}(h:(dO t 32).length≠1):(t.toList==(⟨#[107,101,101,112]⟩:S0).toList)=o0/\(t.toList==(⟨#[115,119,97,112]⟩:S0).toList)=false:=by constructor;exact Bool.eq_false_iff.2 λe=>h (by rw[zeT e];rfl);exact Bool.eq_false_iff.2 λe=>h (by rw[zeT e];rfl)
theorem zkp{r s:Md}(h:LK r s)(a:r.1=o0):s.1=false:=h.1.symm.trans a
theorem Cj(F:lh a<=1048576)(H:lh d<=1048576)(G:w.size<=2000000):AC prog 7 [.ag [al n,aE a,al m,aE d],fa w] (seT (exE n a m d w)):=by
 refine cA [.cell 4 30,.tmp 5] func7 λO=>?_;have x:∀p∈dO w 32,p.size<=2000000:=λp I=>aJ (zU I) G;have C:lh (dO w 32)<=2000001:=aJ (tN w 32) om;have t:=GI n a m d (dO w 32) x C;have g:=zuS (t:=w);have y:=qc w 32 G;have j:=zkr n a m d (dO w 32);unfold exE;refine aR ?_;refine⟨kr,aa (ot n a F) ?_⟩;refine aR ?_;refine aa (ot m d H) ?_;refine aR ?_;refine⟨kr,aa y ?_⟩;generalize J:dO w 32=K at *;clear y;unfold seT;rcases K with _|⟨e,_|⟨p,_|⟨q,_|⟨o,l⟩⟩⟩⟩
 have f:=g dc;rw[iH f.1,iH f.2,iH (b:=(ng (IB n a) n a m d []).1) rfl];rw[show ng (wiM n a) n a m d []=PW from rfl]at t;unfold BI PW at t;refine aR ?_;refine aa t ?_;refine cZ @gJ ?_;rfl;have L:=ziq J;subst L;rw[show ng (wiM n a) n a m d [e]=Bc n a m d e from rfl]at t;rw[show ng (IB n a) n a m d [e]=Bc n a m d e from rfl];have A:=zsW (n:=n) (m:=m) (xs:=a) (ys:=d) (w:=e);have k:AC prog 23 [.ag [al n,aE a,al m,aE d],fa e] (.tup [.im (fa (LH n a m d e).2),.im (aU (LH n a m d e).1)]):=GH n a m d e;rw[show PT n a m d [e]=whX (LH n a m d e) from rfl];generalize Bc n a m d e=r at *;generalize LH n a m d e=z at *;obtain⟨s,u,h,i⟩:=r;obtain⟨D,M⟩:=z;unfold BI at t;unfold whX IA;cases B:(e.toList==(⟨#[107,101,101,112]⟩:S0).toList)with
 | true =>obtain rfl:s=false:=A (.inl (zeT B));rw[ae rfl];refine aR ?_;refine aa t ?_;refine ff @gJ B ?_;refine aa (ot n a F) ?_;exact DL gJ B
 | false =>
   rw[iH rfl];cases E:(e.toList==(⟨#[115,119,97,112]⟩:S0).toList)with
   | true =>obtain rfl:s=false:=A (.inr (zeT E));rw[ae rfl];refine aR ?_;refine aa t ?_;exact xd3 gJ B E
   | false =>
     rw[iH rfl];cases s with
     | true =>
       rw[ae rfl];cases u with
       | true =>rw[ae rfl];refine aR ?_;refine aa t ?_;refine cZ @gJ ?_;refine⟨kr,aa (kY h i) ?_⟩;refine cZ @gJ ?_;kernel_rfl
       | false =>rw[iH rfl];refine aR ?_;refine aa t ?_;exact mg gJ
     | false =>
       rw[iH rfl];refine aR ?_;refine aa t ?_;refine iD @gJ B E ?_;refine⟨kr,aa k ?_⟩;cases D with
       | true=>exact ef
       | false=>exact ef
 have f:=g sp;rw[iH f.1,iH f.2];rw[show ng (wiM n a) n a m d [e,p]=wiM n a e p from rfl]at t;rw[show ng (IB n a) n a m d [e,p]=IB n a e p from rfl];have j:=zr5 n a e p;have k:=JU n a m d e p (x p sp);rw[show PT n a m d [e,p]=whX (XV n a e p) from rfl];generalize XV n a e p=z at *;generalize IB n a e p=v at *;generalize wiM n a e p=r at *;obtain⟨s,u,h,i⟩:=r;obtain⟨D,M⟩:=z;unfold BI at t;unfold whX IA;cases s with
 | true =>
   rw[<- j.2 rfl];rw[ae (c:=(n0,u,h,i).1=n0) rfl];cases u with
   | true =>rw[ae (c:=(n0,n0,h,i).2.1=n0) rfl];refine aR ?_;refine aa t ?_;refine cZ @gJ ?_;refine⟨kr,aa (kY h i) ?_⟩;refine cZ @gJ ?_;kernel_rfl
   | false =>rw[iH (b:=(n0,o0,h,i).2.1) rfl];refine aR ?_;refine aa t ?_;exact mg gJ
 | false =>
   rw[iH (zkp j rfl)];refine aR ?_;refine aa t ?_;refine cZ @gJ ?_;refine⟨kr,aa k ?_⟩;cases D with
   | true=>exact ef
   | false=>exact ef
 have f:=g sp;rw[iH f.1,iH f.2];rw[show ng (wiM n a) n a m d [e,p,q]=flM n a e p q from rfl]at t;rw[show ng (IB n a) n a m d [e,p,q]=flM n a e p q from rfl];rw[show PT n a m d [e,p,q]=IA from rfl];generalize flM n a e p q=r at *;obtain⟨s,u,h,i⟩:=r;unfold BI at t;unfold IA;cases s with
 | true =>
   rw[ae rfl];cases u with
   | true =>rw[ae rfl];refine aR ?_;refine aa t ?_;refine cZ @gJ ?_;refine⟨kr,aa (kY h i) ?_⟩;refine cZ @gJ ?_;kernel_rfl
   | false =>rw[iH rfl];refine aR ?_;refine aa t ?_;exact mg gJ
 | false =>rw[iH rfl];refine aR ?_;refine aa t ?_;exact mg gJ
 have f:=g sp;rw[iH f.1,iH f.2,iH (b:=(ng (IB n a) n a m d (e::p::q::o::l)).1) rfl];have N:(3<((lh l+1+1+1+1:Nat):Int))=True:=bO om;refine cZ N ?_;rfl
end Go.Proofs.YtdomcincpocchaaGreatDoor
