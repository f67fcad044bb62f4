/- DERIVED by an AI agent. -/
import Derived.Test.YtchlggfghabgoaaGreatDoorQ9
set_option linter.all false
namespace Go.Proofs.YtchlggfghabgoaaGreatDoor
open Bool renaming true→k0,false→l0
open List renaming getD→lg,length→lh
open Go.Proofs.Tryz
open Go.Abs
variable (k:Bool)(b:Bool)(n:Int)(a:N0)(m:Int)(d:N0)(t:P0)(c:P0)(l:Q0){e:P0}{i:Nat}{f:N0}
theorem zeW:-1<=nE n a m/\nE n a m<=100:=by unfold nE;split;exact zq5 _<|zhP<|ab _;omega
theorem zeX:-1<=QH n a m/\QH n a m<=14000000:=by unfold QH;split;rename_i h;split;grind;have b:=eD (ao a);have:=zoF (zuk (ao a)) om h.2.2 (lh (gc (ao a))-1) (by rw[eb];omega);rw[eb]at *;omega;omega
theorem zeY(f:V0)(p:Int):lh (Bl f p)<=1048576/\∀x∈Bl f p,inI x:=by unfold Bl;split;exact⟨by rw[df];have:=eD f;omega,Gp f p⟩;simp
noncomputable def hmT(n:Int)(a:N0)(v:Int):P0:=if(Bl (ci n a) v).length=0 then⟨#[110,111]⟩else pH (Bl (ci n a) v)
noncomputable def fsL(n:Int)(a:N0)(v:Int):N0:=bl ((co (ci n a)).filter λs=>(aQ s:Int)==v)
theorem zeZ:lh (fsL n a m)<=500:=by rw[fsL,ap];have:=aO (λs=>(aQ s)==m)<|co<|ci n a;have:=Abs.ordN_len<|ci n a;omega
noncomputable def zcG(n:Int)(a:N0)(w:P0)(v:Int):Bool×P0 :=
 if(w.toList==(⟨#[104,111,108,101,115]⟩:P0).toList)=k0 then(k0,hmT n a v)
 else if(w.toList==(⟨#[102,97,99,101,115]⟩:P0).toList)=k0 then(k0,Vp (fsL n a v))
 else if(w.toList==(⟨#[100,101,112,116,104]⟩:P0).toList)=k0 then(k0,dA (nE n a v))
 else if(w.toList==(⟨#[108,101,102,116]⟩:P0).toList)=k0 then(k0,dA (QH n a v))
 else(l0,⟨#[]⟩)
noncomputable def XV(n:Int)(a:N0)(w t:P0):Bool×P0:=if(w.toList==(⟨#[102,97,99,101]⟩:P0).toList)=k0 then(uq t,zrT (hfB n a (Br t:Nat)))else if pg (dl t)=k0 then zcG n a w (Gv t)else(l0,⟨#[]⟩)
def whX(r:Bool×P0):P0:=if r.1=k0 then r.2 else IA
theorem zsZ:-1000000000000<=Gv t/\Gv t<=1000000000000:=by unfold Gv;split;rename_i h;unfold pg GB at h;simp[bT]at h;have a:=zpc _ h.1.2.1;have b:=aV (n:=10) om h.1.1.2;simp[we];omega;omega
theorem PS(v:Int):AC prog 82 [.ag [al n,aE a,al m,aE d],fa t,al v] (.im (fa (whX (zcG n a t v)))):=by
 refine cA [.tmp 6] func82 λg=>?_;unfold zcG;refine aR ?_;have d2:=zeW n a v;have i:=zeX n a v;have c:=zeY (ci n a) v;have f:=zeZ n a v;refine⟨λh=>?_,λh=>?_⟩;rw[ae h];refine aa (nS n a v) ?_;unfold hmT;generalize Bl (ci n a) v=l at *;refine cZ @dB ?_;refine⟨λb=>?_,λb=>?_⟩;have b:lh l=0:=by have:=beq_iff_eq.1 b;omega
 rw[ae b];rfl;have b:¬l.length=0:=λe=>by rw[e]at b;cases b
 rw[ac b];refine aa (iz l c.1 c.2) ?_;refine aR ?_;rfl;rw[iH h];refine⟨λh=>?_,λh=>?_⟩;rw[ae h];refine aa (sx n a v) ?_;refine aR<|aa (zP (fsL n a v) f) ?_;refine aR ?_;rfl;rw[iH h];refine⟨λh=>?_,λh=>?_⟩;rw[ae h];refine aa (sK n a v) ?_;refine aR ?_;refine aa (cB (n:=nE n a v) om om) ?_;refine aR ?_;rfl;rw[iH h];refine⟨λh=>?_,λh=>?_⟩;rw[ae h];refine aa (Il n a v) ?_;refine aR ?_;refine aa (cB (n:=QH n a v) om om) ?_;refine aR ?_;rfl;rw[iH h];rfl
theorem JU(g:c.size<=2000000):AC prog 25 [.ag [al n,aE a,al m,aE d],fa t,fa c] (.tup [.im (fa (XV n a t c).2),.im (aU (XV n a t c).1)]):=by
 refine cA [.tmp 6,.tmp 7] func25 λj=>?_;have f:AC prog 62 [fa c] (.tup [.im (al<|Gv c),.im _]):=xS c g;unfold XV;refine aR ?_;refine⟨λh=>?_,λh=>?_⟩;rw[ae h];refine aa (gP c) ?_;refine aR<|aa (sR n a (Br c:Nat)) ?_;refine aR<|aa (zQ _) ?_;exact ef;rw[iH h];refine aa f ?_;have k:=zsZ c;generalize Gv c=v at *;cases pg (dl c)with
 | false =>rw[iH rfl];exact ef
 | true =>
   rw[ae rfl];unfold zcG;refine aR ?_;have d2:=zeW n a v;have o:=zeX n a v;have w:=zeY (ci n a) v;have i:=zeZ n a v;refine⟨λh=>?_,λh=>?_⟩;rw[ae h];refine aa (Iw n a v) ?_;unfold hmT;generalize Bl (ci n a) v=l at *;refine cZ @dB ?_;refine⟨λb=>?_,λb=>?_⟩;have b:lh l=0:=by have:=beq_iff_eq.1 b;omega
   rw[ae b];have b:¬l.length=0:=λe=>by rw[e]at b;cases b
   rw[ac b];refine aa (iA l w.1 w.2) ?_;exact ef;rw[iH h];refine⟨λh=>?_,λh=>?_⟩;rw[ae h];refine aa (BA n a v om) ?_;refine aR<|aa (xT (fsL n a v) i) ?_;exact ef;rw[iH h];refine⟨λh=>?_,λh=>?_⟩;rw[ae h];refine aa (KN n a v) ?_;refine aR ?_;refine aa (db (n:=nE n a v) om om) ?_;exact ef;rw[iH h];refine⟨λh=>?_,λh=>?_⟩;rw[ae h];refine aa (Ik n a v) ?_;refine aR ?_;refine aa (db (n:=QH n a v) om om) ?_;exact ef;rw[iH h];exact⟨rfl,rfl⟩
noncomputable def PT(n:Int)(a:N0)(m:Int)(b:N0):Q0->P0
 | [w]=>whX (LH n a m b w)
 | [w,t]=>whX (XV n a w t)
 | _=>IA
theorem GG(e:∀p∈l,p.size<=2000000)(c:lh l<=2000001):AC prog 34 [.ag [al n,aE a,al m,aE d],zs3 l] (.im (fa (PT n a m d l))):=by
 refine cA [.tmp 4] func34 λj=>?_
 match l,e,c with
 | [],_,_ =>refine aR ?_;rfl
 | [w],_,_ =>have D:AC prog 78 [.ag [al n,aE a,al m,aE d],fa w] (.im<|fa<|PT n a m d [w]):=LI n a m d w;generalize PT n a m d [w]=r at *;refine aR ?_;refine⟨kr,aa D ?_⟩;exact ef
 | [w,t],e,_ =>
   have i:=e t sp;have f:AC prog 81 [fa t] (.tup [.im (al<|Gv t),.im (aU<|pg<|dl t)]):=qh t i;have g:=PS n a m d w<|Gv t;rw[show PT n a m d [w,t]=whX (XV n a w t) from rfl];unfold XV;refine aR ?_;refine⟨λh=>?_,λh=>?_⟩;rw[ae h];refine aa (gQ t i) ?_;cases uq t with
   | false =>refine aR ?_;rfl
   | true =>refine aR<|aa (zI n a (Br t:Nat)) ?_;refine aR<|aa (Ch _) ?_;refine aR ?_;rfl
   rw[iH h];refine aa f ?_;cases pg (dl t)with
   | false =>rw[iH rfl];refine aR ?_;rfl
   | true =>rw[ae rfl];refine aR ?_;refine⟨kr,aa g ?_⟩;exact ef
 | _::_::_::b,_,c =>rw[show PT n a m d (_::_::_::b)=IA from rfl];have c1:(((lh b+1+1+1:Nat):Int)==1)=false:=beq_eq_false_iff_ne.2 om;have c2:(((lh b+1+1+1:Nat):Int) != 2)=true:=bne_iff_ne.2 om;simp only[↓gp,gq,simprocAttr,gT,c1,c2];rfl
theorem kf(s:St)(d e b f a:Nat)(x y:Value)(c c2:M0):br s d (.ag [.im (.v x),.fr e b c,.im (.v y),.fr f a c2])=((s.row (d+1000) ⟨(s.rw (d+1000)).ver+1,.sli f a l0 c2⟩).row d ⟨(s.rw d).ver+1,.sli e b l0 c⟩).put (some d) (.ag [.v x,.own d ((s.rw d).ver+1),.v y,.own (d+1000) ((s.rw (d+1000)).ver+1)]):=by simp[br,leaves,eu,fL];rfl
theorem Ab{b:Nat}:∀{l x:List UInt8},zT b l=[x]->x=l
 | [],x,h=>by simpa[zT]using h.symm
 | y::l,x,h=>by
   rw[nG]at h;split at h;have:=DH b l;grind;cases e:zT b l with
   | nil=>exact absurd e<|DH b l
   | cons p r =>rw[e]at h;simp at h;have⟨a,c⟩:=h;rw[c]at e;rw[<- a,Ab e]
theorem ziq{w:P0}(h:dO e i=[w]):w=e:=by have a:=qi e i;rw[h]at a;exact iR<|Array.toList_inj.1 (Ab a.symm)
abbrev Se:=Int×N0×Int×N0
def seT(r:Se×P0):RV:=.tup [.ag [.im (al r.1.1),.fr 3 1 (iL r.1.2.1),.im (al r.1.2.2.1),.fr 3 1 (iL r.1.2.2.2)],.im (fa r.2)]
noncomputable def Yk(n:Int)(a:N0)(m:Int)(b:N0)(t:P0):Se×P0 :=
 if(t.toList==(⟨#[107,101,101,112]⟩:P0).toList)=k0 then((n,a,n,a),⟨#[111,107]⟩)
 else if(t.toList==(⟨#[115,119,97,112]⟩:P0).toList)=k0 then((m,b,n,a),⟨#[111,107]⟩)
 else if(ng (IB n a) n a m b (dO t 32)).1=k0 then(if(ng (IB n a) n a m b (dO t 32)).2.1=k0 then(((ng (IB n a) n a m b (dO t 32)).2.2.1,(ng (IB n a) n a m b (dO t 32)).2.2.2,m,b),Vn (ng (IB n a) n a m b (dO t 32)).2.2.1 (ng (IB n a) n a m b (dO t 32)).2.2.2)else((n,a,m,b),⟨#[110,111]⟩))
 else((n,a,m,b),PT n a m b (dO t 32))
theorem yn(f:V0):((k,qn b n f):Md).2.2.2.length<=1048576:=by
 cases b with
 | true=>show(bl<|dI f _).length<=_;rw[ap];have:=vu f k0;omega
 | false=>exact aB _
theorem zpu:((k,exM n):Md).2.2.2.length<=1048576:=by
 show(mu<|FI n).length<=_;unfold mu FI;repeat' split
 all_goals decide
theorem zpv{w:Int}(c:lh f<=1048576):(Bc w f n a t).2.2.2.length<=1048576:=by
 unfold Bc
 repeat' split
 all_goals first|exact yn _ _ _ _|exact aB _|skip
 unfold uk;split
 ·rcases DG _ _ f with e|⟨d,_,e⟩
  ·rw[e];exact c
  ·rw[e];rw[wu,ap];have:=Abs.ordN_len<|hU<|bl<|Ge (f.map Int.toNat) d;omega
 simp
def sm(r:Md):Prop:=r.2.2.2.length<=1048576
theorem yo{c:Prop}[Decidable c]{a b:Md}(d:sm a)(e:sm b):sm (if c then a else b):=by grind
theorem zeU:sm PW:=aB _
theorem zsX:sm (IB n a t c):=by refine yo ?_<|yo (yo (zpu _ _) zeU)<|yo (yo (yn _ _ _ _) zeU)<|yo (yo (yn _ _ _ _)<|yo (yn _ _ _ _)<|yo (yn _ _ _ _)<|yo (yn _ _ _ _)<|yo (yn _ _ _ _) zeU) zeU;show(pxM c).2.2.length<=_;unfold pxM;split;rename_i h;unfold Sh at h;rw[aj]at h;show(ph<|Iu<|GC c).length<=_;rw[xe h.2,ap];have:=vu (ao<|ph<|Iu<|GC c) k0;omega;exact aB _
theorem zeV{n:Int}(m:Int)(b:N0)(c:Q0)(d:lh f<=1048576):(ng (IB n f) n f m b c).2.2.2.length<=1048576:=by unfold ng;split;exact zpv m b _ d;exact zsX n f _ _;unfold flM;split;exact yn _ _ _ _;decide;decide
theorem Ck(i:lh a<=1048576)(o:lh d<=1048576)(q:t.size<=2000000):AC prog 19 [.ag [al n,aE a,al m,aE d],fa t] (seT (Yk n a m d t)):=by
 refine cA [.cell 4 33,.tmp 5] func19 λz=>?_;have f:∀p∈dO t 32,p.size<=2000000:=λp w=>aJ (zU w) q;have g:lh (dO t 32)<=2000001:=aJ (tN t 32) om;have h:=LJ n a m d (dO t 32) f g;have j:=GG n a m d (dO t 32) f g;have k:=zeV m d (dO t 32) i (n:=n);have l:=iT t 32 q;unfold Yk;generalize ng (IB n a) n a m d (dO t 32)=r at *;have⟨x,y,s,u⟩:=r;unfold Gw at h;unfold seT;refine aR<|aa (PD n a m d i o) ?_;refine cZ @kf<|aa l ?_;refine cZ @kf<|aa h ?_;cases c:(t.toList==(⟨#[107,101,101,112]⟩:P0).toList)with
 | true =>refine iD @kf @me c<|aa (lR n a i) ?_;exact mg kf
 | false =>
   cases e:(t.toList==(⟨#[115,119,97,112]⟩:P0).toList)with
   | true =>refine ox @kf @me c e<|aa (lR m d o) ?_;refine cZ @kf<|aa (lR n a i) ?_;exact mg kf
   | false =>
     cases x with
     | true =>
       rw[ae rfl];cases y with
       | true =>refine ox @kf @me c e<|aa (lR s u k) ?_;refine ox @kf @me c e ?_;exact⟨kr,aa (sU s u)<|xd4 kf me c e⟩
       | false =>exact xd4 kf me c e
     | false =>refine ox @kf @me c e ?_;exact⟨kr,aa j<|xd4 kf me c e⟩
theorem zsW{n m:Int}{xs ys:N0}{w:P0}(h:w=⟨#[107,101,101,112]⟩\/w=⟨#[115,119,97,112]⟩):(Bc n xs m ys w).1=false:=by unfold Bc;rcases h with h|h<;>subst h<;>simp<;>rfl
theorem XU:dO ⟨#[107,101,101,112]⟩ 32=[⟨#[107,101,101,112]⟩]/\dO ⟨#[115,119,97,112]⟩ 32=[⟨#[115,119,97,112]⟩]:=dc
theorem zeT{w:P0}(h:(e.toList==w.toList)=k0):e=w:=by rwa [qd,bT]at h
theorem zuS{t:P0}(h:(dO t 32).length≠1):(t.toList==(⟨#[107,101,101,112]⟩:P0).toList)=l0/\(t.toList==(⟨#[115,119,97,112]⟩:P0).toList)=false:=by constructor;exact Bool.eq_false_iff.2 λe=>h (by rw[zeT e];rfl);exact Bool.eq_false_iff.2 λe=>h (by rw[zeT e];rfl)
theorem zkp{r s:Md}(h:LK r s)(a:r.1=l0):s.1=false:=h.1.symm.trans a
theorem Cj(F:lh a<=1048576)(H:lh d<=1048576)(G:t.size<=2000000):AC prog 11 [.ag [al n,aE a,al m,aE d],fa t] (seT (Yk n a m d t)):=by
 refine cA [.cell 4 33,.tmp 5] func11 λO=>?_;have x:∀p∈dO t 32,p.size<=2000000:=λp I=>aJ (zU I) G;have C:lh (dO t 32)<=2000001:=aJ (tN t 32) om;have e:=GI n a m d (dO t 32) x C;have g:=zuS (t:=t);have y:=qc t 32 G;have j:=zkr n a m d<|dO t 32;unfold Yk;refine aR ?_;refine⟨kr,aa (ot n a F) ?_⟩;refine aR ?_;refine aa (ot m d H) ?_;refine aR ?_;refine⟨kr,aa y ?_⟩;generalize J:dO t 32=K at *;clear y;unfold seT;rcases K with _|⟨w,_|⟨p,_|⟨q,_|⟨o,l⟩⟩⟩⟩
 have f:=g dc;rw[iH f.1,iH f.2,iH (b:=(ng (IB n a) n a m d []).1) rfl];rw[show ng (Sv n a) n a m d []=PW from rfl]at e;unfold BI PW at e;refine aR ?_;refine aa e ?_;refine cZ @gJ ?_;rfl;have L:=ziq J;subst L;rw[show ng (Sv n a) n a m d [w]=Bc n a m d w from rfl]at e;rw[show ng (IB n a) n a m d [w]=Bc n a m d w from rfl];have A:=zsW (n:=n) (m:=m) (xs:=a) (ys:=d) (w:=w);have k:AC prog 24 [.ag [al n,aE a,al m,aE d],fa w] (.tup [.im (fa (LH n a m d w).2),.im (aU (LH n a m d w).1)]):=GH n a m d w;rw[show PT n a m d [w]=whX (LH n a m d w) from rfl];generalize Bc n a m d w=r at *;generalize LH n a m d w=z at *;have⟨s,u,h,i⟩:=r;have⟨D,M⟩:=z;unfold BI at e;unfold whX IA;cases B:(w.toList==(⟨#[107,101,101,112]⟩:P0).toList)with
 | true =>obtain rfl:s=false:=A (.inl<|zeT B);rw[ae rfl];refine aR ?_;refine aa e ?_;refine ff @gJ B ?_;refine aa (ot n a F) ?_;exact DL gJ B
 | false =>
   rw[iH rfl];cases E:(w.toList==(⟨#[115,119,97,112]⟩:P0).toList)with
   | true =>obtain rfl:s=false:=A (.inr<|zeT E);rw[ae rfl];refine aR ?_;refine aa e ?_;exact xd3 gJ B E
   | false =>
     rw[iH rfl];cases s with
     | true =>
       rw[ae rfl];cases u with
       | true =>rw[ae rfl];refine aR ?_;refine aa e ?_;refine cZ @gJ ?_;refine⟨kr,aa (kY h i) ?_⟩;refine cZ @gJ ?_;kernel_rfl
       | false =>rw[iH rfl];refine aR ?_;refine aa e ?_;exact mg gJ
     | false =>
       rw[iH rfl];refine aR ?_;refine aa e ?_;refine iD @gJ B E ?_;refine⟨kr,aa k ?_⟩;cases D with
       | true=>exact ef
       | false=>exact ef
 have f:=g sp;rw[iH f.1,iH f.2];rw[show ng (Sv n a) n a m d [w,p]=Sv n a w p from rfl]at e;rw[show ng (IB n a) n a m d [w,p]=IB n a w p from rfl];have j:=zr5 n a w p;have k:=JU n a m d w p<|x p sp;rw[show PT n a m d [w,p]=whX (XV n a w p) from rfl];generalize XV n a w p=z at *;generalize IB n a w p=v at *;generalize Sv n a w p=r at *;have⟨s,u,h,i⟩:=r;have⟨D,M⟩:=z;unfold BI at e;unfold whX IA;cases s with
 | true =>
   rw[<- j.2 rfl];rw[ae (c:=(k0,u,h,i).1=k0) rfl];cases u with
   | true =>rw[ae (c:=(k0,k0,h,i).2.1=k0) rfl];refine aR ?_;refine aa e ?_;refine cZ @gJ ?_;refine⟨kr,aa (kY h i) ?_⟩;refine cZ @gJ ?_;kernel_rfl
   | false =>rw[iH (b:=(k0,l0,h,i).2.1) rfl];refine aR ?_;refine aa e ?_;exact mg gJ
 | false =>
   rw[iH<|zkp j rfl];refine aR ?_;refine aa e ?_;refine cZ @gJ ?_;refine⟨kr,aa k ?_⟩;cases D with
   | true=>exact ef
   | false=>exact ef
 have f:=g sp;rw[iH f.1,iH f.2];rw[show ng (Sv n a) n a m d [w,p,q]=flM n a w p q from rfl]at e;rw[show ng (IB n a) n a m d [w,p,q]=flM n a w p q from rfl];rw[show PT n a m d [w,p,q]=IA from rfl];generalize flM n a w p q=r at *;have⟨s,u,h,i⟩:=r;unfold BI at e;unfold IA;cases s with
 | true =>
   rw[ae rfl];cases u with
   | true =>rw[ae rfl];refine aR ?_;refine aa e ?_;refine cZ @gJ ?_;refine⟨kr,aa (kY h i) ?_⟩;refine cZ @gJ ?_;kernel_rfl
   | false =>rw[iH rfl];refine aR ?_;refine aa e ?_;exact mg gJ
 | false =>rw[iH rfl];refine aR ?_;refine aa e ?_;exact mg gJ
 have f:=g sp;rw[iH f.1,iH f.2,iH (b:=(ng (IB n a) n a m d<|w::p::q::o::l).1) rfl];have N:(3<((lh l+1+1+1+1:Nat):Int))=True:=bO om;refine cZ N ?_;rfl
theorem zsV(b:lh a<=1048576)(c:lh d<=1048576):(Yk n a m d t).1.2.1.length<=1048576/\(Yk n a m d t).1.2.2.2.length<=1048576:=by have:=zeV m d (dO t 32) b (n:=n);unfold Yk;grind
theorem LG(s:St)(d e b f a:Nat)(x y z:Value)(c c2:M0):br s d (.tup [.ag [.im (.v x),.fr e b c,.im (.v y),.fr f a c2],.im (.v z)])=((s.row (d+1000) ⟨(s.rw (d+1000)).ver+1,.sli f a l0 c2⟩).row d ⟨(s.rw d).ver+1,.sli e b l0 c⟩).put (some d) (.tup [.ag [.v x,.own d ((s.rw d).ver+1),.v y,.own (d+1000) ((s.rw (d+1000)).ver+1)],.v z]):=by simp[br,leaves,eu,gN,fL];rfl
noncomputable def Yj(s:Se×Q0)(l:P0):Se×Q0:=((Yk s.1.1 s.1.2.1 s.1.2.2.1 s.1.2.2.2 l).1,s.2++[(Yk s.1.1 s.1.2.1 s.1.2.2.1 s.1.2.2.2 l).2])
noncomputable def lb(l:Q0):Se×Q0:=l.foldl Yj ((((xJ 1:Nat):Int),mu (FI 1),((xJ 1:Nat):Int),mu (FI 1)),[])
theorem Ed(h:i<lh l):lb (l.take (i+1))=Yj (lb (l.take i)) (lg l i ⟨#[]⟩):=by unfold lb;rw[bj ⟨#[]⟩ h,jJ];rfl
theorem zkj:∀(l:Q0)(s:Se×Q0),(l.foldl Yj s).2.length=s.2.length+lh l:=by
 intro l;induction l with
 | nil=>intro s;rfl
 | cons a l b=>intro s;rw[qY,b];simp[Yj];omega
theorem MD:(lb l).2.length=lh l:=by unfold lb;rw[zkj];simp
theorem zoA:∀(l:Q0)(s:Se×Q0),s.1.2.1.length<=1048576->s.1.2.2.2.length<=1048576->(l.foldl Yj s).1.2.1.length<=1048576/\(l.foldl Yj s).1.2.2.2.length<=1048576:=by
 intro l;induction l with
 | nil=>intro s b c;exact⟨b,c⟩
 | cons a l d =>intro s b c;rw[qY];have:=zsV s.1.1 s.1.2.1 s.1.2.2.1 s.1.2.2.2 a b c;exact d _ this.1 this.2
theorem zfY:(lb l).1.2.1.length<=1048576/\(lb l).1.2.2.2.length<=1048576 :=
 zoA l _ (Mc 1) (Mc 1)
noncomputable def ruO(t:P0):Q0:=if(dO t 10).length<=40 then(lb (dO t 10)).2 else []
noncomputable def ruR(t:P0):RV:=.tup [.fr 9 1 (sL (ruO t)),.im (aU (decide (lh (dO t 10)<=40)))]
theorem zkk:lh (ruO t)<=40:=by unfold ruO;split;rename_i h;rw[MD];exact h;exact aB _
theorem Lb(y:t.size<=2000000):AC prog 7 [fa t] (ruR t):=by
 refine cA [.tmp 2,.tmp 3] func7 λK=>?_;have j:∀i,i<lh (dO t 10)->(lg (dO t 10) i ⟨#[]⟩).size<=2000000:=λi z=>aJ (zU (aP ⟨#[]⟩ z)) y;refine aR ?_;refine aa (iT t 10 y) ?_;unfold ruR ruO;generalize dO t 10=L at *;refine aR ?_;refine⟨λh=>?_,λh=>?_⟩
 ·have h:¬L.length<=40:=om;rw[ac h];exact⟨rfl,h⟩
 ·have n:lh L<=40:=om;rw[ae n,ay n];have A:=LY;have l:(lb (L.take 0))=((((xJ 1:Nat):Int),mu (FI 1),((xJ 1:Nat):Int),mu (FI 1)),[]):=rfl;unfold Zb at A;refine aa A ?_;refine aR ?_;refine az (λ((i,m,c,v,w):Nat×Nat×Bool×Nat×Nat) s=>(s.sl 4=.own 11 1/\s.rw 11=⟨1,.sli 9 1 l0 (sL L)⟩/\s.sl 5=.own 16 m/\s.rw 16=⟨m,.sli 9 1 l0 (sL (lb (L.take i)).2)⟩/\s.sl 6=.ref 6 1 0/\s.rw 6=⟨1,.box 33 [al (lb (L.take i)).1.1,.own (if c then 30 else 17) v,al (lb (L.take i)).1.2.2.1,.own (if c then 1030 else 1017) w]⟩/\s.sl 7=al i)/\(i<=lh L/\s.rw (if c then 30 else 17)=⟨v,.sli 3 1 l0 (iL (lb (L.take i)).1.2.1)⟩/\s.rw (if c then 1030 else 1017)=⟨w,.sli 3 1 l0 (iL (lb (L.take i)).1.2.2.2)⟩)) (λ(i,m,c,v,w)=>lh L-i) ((0,1,l0,1,1)) ⟨(jX l),⟨aB _,by simp -dsimp only[gr,simprocAttr,l],by simp -dsimp only[gr,simprocAttr,l]⟩⟩ ?_;intro(i,m,c,v,w) B ⟨k,q⟩;obtain⟨z,d,f⟩:=q;obtain⟨C,D⟩:=zfY (L.take i);have F:=MD (L.take i);cases c<;>simp only[eW,eP,gx]at k d f
  all_goals
   rcases bf i (lh L) with a|G
  ·have b:=Ed L a;unfold Yj at b;have o:=Ck (lb (L.take i)).1.1 (lb (L.take i)).1.2.1 (lb (L.take i)).1.2.2.1 (lb (L.take i)).1.2.2.2 (lg L i ⟨#[]⟩) C D (j i a);generalize Yk (lb (L.take i)).1.1 (lb (L.take i)).1.2.1 (lb (L.take i)).1.2.2.1 (lb (L.take i)).1.2.2.2 (lg L i ⟨#[]⟩)=r at *;generalize lb (L.take i)=e at *;obtain⟨⟨H,u,I,x⟩,J⟩:=r;unfold seT at o;have g:((i:Int)<(lh L:Int))=True:=bO om;refine ox k d f g ?_;refine⟨kr,a,aa o ?_⟩;refine ox k d f @LG ?_;have p:lh (List.take i L)=i:=by rw[bg];omega
   refine⟨kr,om,?_⟩;exact ah ((i+1,m+1,k0,(B.rw 30).ver+1,(B.rw 1030).ver+1)) ⟨(fB k b (ak a om)),⟨a,by simp -dsimp only[gr,simprocAttr,b],by simp -dsimp only[gr,simprocAttr,b]⟩⟩
  ·obtain rfl:i=lh L:=om;rw[av]at *;have g:((lh L:Int)<(lh L:Int))=False:=aX om;exact xd4 k d f g
  ·have b:=Ed L a;unfold Yj at b;have o:=Ck (lb (L.take i)).1.1 (lb (L.take i)).1.2.1 (lb (L.take i)).1.2.2.1 (lb (L.take i)).1.2.2.2 (lg L i ⟨#[]⟩) C D (j i a);generalize Yk (lb (L.take i)).1.1 (lb (L.take i)).1.2.1 (lb (L.take i)).1.2.2.1 (lb (L.take i)).1.2.2.2 (lg L i ⟨#[]⟩)=r at *;generalize lb (L.take i)=e at *;obtain⟨⟨H,u,I,x⟩,J⟩:=r;unfold seT at o;have g:((i:Int)<(lh L:Int))=True:=bO om;refine ox k d f g ?_;refine⟨kr,a,aa o ?_⟩;refine ox k d f @LG ?_;have p:lh (List.take i L)=i:=by rw[bg];omega
   refine⟨kr,om,?_⟩;exact ah ((i+1,m+1,k0,v+1,w+1)) ⟨(fB k b (ak a om)),⟨a,by simp -dsimp only[gr,simprocAttr,b],by simp -dsimp only[gr,simprocAttr,b]⟩⟩
  ·obtain rfl:i=lh L:=om;rw[av]at *;have g:((lh L:Int)<(lh L:Int))=False:=aX om;exact xd4 k d f g
theorem Jp(y:t.size<=2000000):AC prog 6 [fa t] (ruR t):=by
 refine cA [.tmp 2,.tmp 3] func6 λK=>?_;have j:∀i,i<lh (dO t 10)->(lg (dO t 10) i ⟨#[]⟩).size<=2000000:=λi z=>aJ (zU (aP ⟨#[]⟩ z)) y;refine aR ?_;refine aa (qc t 10 y) ?_;unfold ruR ruO;generalize dO t 10=L at *;refine aR ?_;refine⟨λh=>?_,λh=>?_⟩
 ·have h:¬L.length<=40:=om;rw[ac h];exact⟨rfl,h⟩
 ·have n:lh L<=40:=om;rw[ae n,ay n];have A:=Ar;have l:(lb (L.take 0))=((((xJ 1:Nat):Int),mu (FI 1),((xJ 1:Nat):Int),mu (FI 1)),[]):=rfl;unfold Zb at A;refine aa A ?_;refine aR ?_;refine az (λ((i,m,c,v,w):Nat×Nat×Bool×Nat×Nat) s=>(s.sl 16=.own 11 1/\s.rw 11=⟨1,.sli 9 1 l0 (sL L)⟩/\s.sl 17=al (lh L)/\s.sl 18=al i/\s.sl 6=.own 6 m/\s.rw 6=⟨m,.sli 9 1 l0 (sL (lb (L.take i)).2)⟩/\s.sl 5=.ref 5 1 0/\s.rw 5=⟨1,.box 33 [al (lb (L.take i)).1.1,.own (if c then 25 else 15) v,al (lb (L.take i)).1.2.2.1,.own (if c then 1025 else 1015) w]⟩)/\(i<=lh L/\s.rw (if c then 25 else 15)=⟨v,.sli 3 1 l0 (iL (lb (L.take i)).1.2.1)⟩/\s.rw (if c then 1025 else 1015)=⟨w,.sli 3 1 l0 (iL (lb (L.take i)).1.2.2.2)⟩)) (λ(i,m,c,v,w)=>lh L-i) ((0,1,l0,1,1)) ⟨(jX l),⟨aB _,by simp -dsimp only[gr,simprocAttr,l],by simp -dsimp only[gr,simprocAttr,l]⟩⟩ ?_;intro(i,m,c,v,w) B ⟨k,q⟩;obtain⟨z,d,f⟩:=q;obtain⟨C,D⟩:=zfY (L.take i);have F:=MD (L.take i);cases c<;>simp only[eW,eP,gx]at k d f
  all_goals
   rcases bf i (lh L) with a|G
  ·have b:=Ed L a;unfold Yj at b;have o:=Cj (lb (L.take i)).1.1 (lb (L.take i)).1.2.1 (lb (L.take i)).1.2.2.1 (lb (L.take i)).1.2.2.2 (lg L i ⟨#[]⟩) C D (j i a);generalize Yk (lb (L.take i)).1.1 (lb (L.take i)).1.2.1 (lb (L.take i)).1.2.2.1 (lb (L.take i)).1.2.2.2 (lg L i ⟨#[]⟩)=r at *;generalize lb (L.take i)=e at *;obtain⟨⟨H,u,I,x⟩,J⟩:=r;unfold seT at o;have g:((i:Int)<(lh L:Int))=True:=bO om;refine ox k d f g ?_;refine⟨a,aa o ?_⟩;refine ox k d f @LG ?_;have p:lh (List.take i L)=i:=by rw[bg];omega
   refine⟨om,?_⟩;exact ah ((i+1,m+1,k0,(B.rw 25).ver+1,(B.rw 1025).ver+1)) ⟨(fB k b (ak a om)),⟨a,by simp -dsimp only[gr,simprocAttr,b],by simp -dsimp only[gr,simprocAttr,b]⟩⟩
  ·obtain rfl:i=lh L:=om;rw[av]at *;have g:((lh L:Int)<(lh L:Int))=False:=aX om;exact xd4 k d f g
  ·have b:=Ed L a;unfold Yj at b;have o:=Cj (lb (L.take i)).1.1 (lb (L.take i)).1.2.1 (lb (L.take i)).1.2.2.1 (lb (L.take i)).1.2.2.2 (lg L i ⟨#[]⟩) C D (j i a);generalize Yk (lb (L.take i)).1.1 (lb (L.take i)).1.2.1 (lb (L.take i)).1.2.2.1 (lb (L.take i)).1.2.2.2 (lg L i ⟨#[]⟩)=r at *;generalize lb (L.take i)=e at *;obtain⟨⟨H,u,I,x⟩,J⟩:=r;unfold seT at o;have g:((i:Int)<(lh L:Int))=True:=bO om;refine ox k d f g ?_;refine⟨a,aa o ?_⟩;refine ox k d f @LG ?_;have p:lh (List.take i L)=i:=by rw[bg];omega
   refine⟨om,?_⟩;exact ah ((i+1,m+1,k0,v+1,w+1)) ⟨(fB k b (ak a om)),⟨a,by simp -dsimp only[gr,simprocAttr,b],by simp -dsimp only[gr,simprocAttr,b]⟩⟩
  ·obtain rfl:i=lh L:=om;rw[av]at *;have g:((lh L:Int)<(lh L:Int))=False:=aX om;exact xd4 k d f g
theorem znE(h:i<lh l):(lb l).2.getD i ⟨#[]⟩=(Yj (lb (l.take i)) (lg l i ⟨#[]⟩)).2.getD i ⟨#[]⟩:=by
 have a:∀j,i+1+j<=lh l->(lb (l.take (i+1+j))).2.getD i ⟨#[]⟩=(Yj (lb (l.take i)) (lg l i ⟨#[]⟩)).2.getD i ⟨#[]⟩:=λj=>by
  induction j with
  | zero=>intro _;rw[lD,Ed l h]
  | succ j c =>intro d;have b:=MD (l.take (i+1+j));rw[bg,ra om]at b;rw[<- c om,<- jT,Ed l om];unfold Yj;simp only[eU];rw[eE om]
 have:=a (lh l-(i+1)) om;rw[show i+1+(lh l-(i+1))=lh l by omega,av]at this;exact this
theorem zoz(h:i<lh l):(lb l).2.getD i ⟨#[]⟩=(Yk (lb (l.take i)).1.1 (lb (l.take i)).1.2.1 (lb (l.take i)).1.2.2.1 (lb (l.take i)).1.2.2.2 (lg l i ⟨#[]⟩)).2:=by rw[znE l h];have a:=MD (l.take i);rw[bg,ra om]at a;unfold Yj;simp only[eU];rw[eo om,a,pi];rfl
theorem Mz(f:lh l<=1000):AC prog 8 [.sl l0 1 (sL l),.sl l0 1 (sL l)] (.im (aU k0)):=by refine cA [.tmp 4] func8 λg=>?_;have c:((lh l:Int) != (lh l))=false:=sp;refine cZ c ?_;refine az (λ(i:Nat)s=>(s.sl 0=.sl l0 1 (sL l)/\s.sl 1=.sl l0 1 (sL l)/\s.sl 5=al i)/\(i<=lh l)) (λi=>lh l-i) (0) ⟨nm,aB _⟩ ?_;intro i j ⟨b,d⟩;have e:∀w:P0,(w.toList != w.toList)=false:=λw=>sp;refine ff b e ?_;intro h;exact⟨kr,h,h,h,h,ah (i+1) ⟨(gE b (ak h om)),h⟩⟩
end Go.Proofs.YtchlggfghabgoaaGreatDoor
