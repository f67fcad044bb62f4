/- DERIVED by an AI agent. -/
import Derived.Test.YtijabbemjaioeaaGreatDoorQ9
set_option linter.all false
namespace Go.Proofs.YtijabbemjaioeaaGreatDoor
open Bool renaming true→k0,false→l0
open List renaming range→lc,getD→lg,length→lh
open Go.Proofs.Tryz
open Go.Abs
variable (k:Bool)(f:V0)(n:Int)(a:N0)(m:Int)(d:N0)(w:P0)(s:Int)(b:Bool)(t:P0){c:N0}{e:Int}{g:P0}{h:Nat}{i:V0}{j:Bool}
theorem zeW:-1<=nE n a m/\nE n a m<=100:=by unfold nE;split;exact zq5 _<|zhP<|ab _;omega
theorem zeX:-1<=QH n a m/\QH n a m<=14000000:=by unfold QH;split;rename_i h;split;grind;have b:=eD (ao a);have:=zoF (zuk (ao a)) om h.2.2 (lh (gc (ao a))-1) (by rw[eb];omega);rw[eb]at *;omega;omega
theorem zeY:lh (Bl f n)<=1048576/\∀x∈Bl f n,inI x:=by unfold Bl;split;exact⟨by rw[df];have:=eD f;omega,Gp f n⟩;simp
noncomputable def hmT(n:Int)(a:N0)(v:Int):P0:=if(Bl (ci n a) v).length=0 then⟨#[110,111]⟩else pH (Bl (ci n a) v)
noncomputable def fsL(n:Int)(a:N0)(v:Int):N0:=bl ((co (ci n a)).filter λs=>(aQ s:Int)==v)
theorem zeZ:lh (fsL n a m)<=500:=by rw[fsL,ap];have:=aO (λs=>(aQ s)==m)<|co<|ci n a;have:=Abs.ordN_len<|ci n a;omega
noncomputable def zcG(n:Int)(a:N0)(w:P0)(v:Int):Bool×P0 :=
 if(w.toList==(⟨#[104,111,108,101,115]⟩:P0).toList)=k0 then(k0,hmT n a v)
 else if(w.toList==(⟨#[102,97,99,101,115]⟩:P0).toList)=k0 then(k0,Vp (fsL n a v))
 else if(w.toList==(⟨#[100,101,112,116,104]⟩:P0).toList)=k0 then(k0,dA (nE n a v))
 else if(w.toList==(⟨#[108,101,102,116]⟩:P0).toList)=k0 then(k0,dA (QH n a v))
 else(l0,⟨#[]⟩)
noncomputable def XV(n:Int)(a:N0)(w t:P0):Bool×P0:=if(w.toList==(⟨#[102,97,99,101]⟩:P0).toList)=k0 then(uq t,zrT (hfB n a (Br t:Nat)))else if pg (dl t)=k0 then zcG n a w (Gv t)else(l0,⟨#[]⟩)
def whX(r:Bool×P0):P0:=if r.1=k0 then r.2 else IA
theorem zsZ:-1000000000000<=Gv w/\Gv w<=1000000000000:=by unfold Gv;split;rename_i h;unfold pg GB at h;simp[bT]at h;have a:=zpc _ h.1.2.1;have b:=aV (n:=10) om h.1.1.2;simp[we];omega;omega
theorem PS:AC prog 82 [.ag [al n,aE a,al m,aE d],fa w,al s] (.im (fa (whX (zcG n a w s)))):=by
 refine cA [.tmp 6] func82 λg=>?_;unfold zcG;refine aR ?_;have d2:=zeW n a s;have i:=zeX n a s;have c:=zeY (ci n a) s;have f:=zeZ n a s;refine⟨λh=>?_,λh=>?_⟩;rw[ae h];refine aa (nS n a s) ?_;unfold hmT;generalize Bl (ci n a) s=l at *;refine cZ @dB ?_;refine⟨λb=>?_,λb=>?_⟩;have b:lh l=0:=by have:=beq_iff_eq.1 b;omega
 rw[ae b];rfl;have b:¬l.length=0:=λe=>by rw[e]at b;cases b
 rw[ac b];refine aa (iz l c.1 c.2) ?_;refine aR ?_;rfl;rw[iH h];refine⟨λh=>?_,λh=>?_⟩;rw[ae h];refine aa (sx n a s) ?_;refine aR<|aa (zP (fsL n a s) f) ?_;refine aR ?_;rfl;rw[iH h];refine⟨λh=>?_,λh=>?_⟩;rw[ae h];refine aa (sK n a s) ?_;refine aR ?_;refine aa (cB (n:=nE n a s) om om) ?_;refine aR ?_;rfl;rw[iH h];refine⟨λh=>?_,λh=>?_⟩;rw[ae h];refine aa (Il n a s) ?_;refine aR ?_;refine aa (cB (n:=QH n a s) om om) ?_;refine aR ?_;rfl;rw[iH h];rfl
theorem JU(g:t.size<=2000000):AC prog 23 [.ag [al n,aE a,al m,aE d],fa w,fa t] (.tup [.im (fa (XV n a w t).2),.im (aU (XV n a w t).1)]):=by
 refine cA [.tmp 6,.tmp 7] func23 λj=>?_;have c:AC prog 69 [fa t] (.tup [.im (al<|Gv t),.im _]):=xS t g;unfold XV;refine aR ?_;refine⟨λh=>?_,λh=>?_⟩;rw[ae h];refine aa (gP t) ?_;refine aR<|aa (sR n a (Br t:Nat)) ?_;refine aR<|aa (zQ _) ?_;exact ef;rw[iH h];refine aa c ?_;have k:=zsZ t;generalize Gv t=v at *;cases pg (dl t)with
 | false =>rw[iH rfl];exact ef
 | true =>
   rw[ae rfl];unfold zcG;refine aR ?_;have d2:=zeW n a v;have o:=zeX n a v;have f:=zeY (ci n a) v;have i:=zeZ n a v;refine⟨λh=>?_,λh=>?_⟩;rw[ae h];refine aa (Iw n a v) ?_;unfold hmT;generalize Bl (ci n a) v=l at *;refine cZ @dB ?_;refine⟨λb=>?_,λb=>?_⟩;have b:lh l=0:=by have:=beq_iff_eq.1 b;omega
   rw[ae b];have b:¬l.length=0:=λe=>by rw[e]at b;cases b
   rw[ac b];refine aa (iA l f.1 f.2) ?_;exact ef;rw[iH h];refine⟨λh=>?_,λh=>?_⟩;rw[ae h];refine aa (BA n a v om) ?_;refine aR<|aa (xT (fsL n a v) i) ?_;exact ef;rw[iH h];refine⟨λh=>?_,λh=>?_⟩;rw[ae h];refine aa (KN n a v) ?_;refine aR ?_;refine aa (db (n:=nE n a v) om om) ?_;exact ef;rw[iH h];refine⟨λh=>?_,λh=>?_⟩;rw[ae h];refine aa (Ik n a v) ?_;refine aR ?_;refine aa (db (n:=QH n a v) om om) ?_;exact ef;rw[iH h];exact⟨rfl,rfl⟩
noncomputable def PT(n:Int)(a:N0)(m:Int)(b:N0):Q0->P0
 | [w]=>whX (LH n a m b w)
 | [w,t]=>whX (XV n a w t)
 | _=>IA
theorem GG(c:Q0)(e:∀p∈c,p.size<=2000000)(b:lh c<=2000001):AC prog 28 [.ag [al n,aE a,al m,aE d],zs3 c] (.im (fa (PT n a m d c))):=by
 refine cA [.tmp 4] func28 λj=>?_
 match c,e,b with
 | [],_,_ =>refine aR ?_;rfl
 | [w],_,_ =>have D:AC prog 78 [.ag [al n,aE a,al m,aE d],fa w] (.im<|fa<|PT n a m d [w]):=LI n a m d w;generalize PT n a m d [w]=r at *;refine aR ?_;refine⟨kr,aa D ?_⟩;exact ef
 | [w,t],e,_ =>
   have i:=e t sp;have f:AC prog 81 [fa t] (.tup [.im (al<|Gv t),.im (aU<|pg<|dl t)]):=qh t i;have g:=PS n a m d w<|Gv t;rw[show PT n a m d [w,t]=whX (XV n a w t) from rfl];unfold XV;refine aR ?_;refine⟨λh=>?_,λh=>?_⟩;rw[ae h];refine aa (gQ t i) ?_;cases uq t with
   | false =>refine aR ?_;rfl
   | true =>refine aR<|aa (zI n a (Br t:Nat)) ?_;refine aR<|aa (Ch _) ?_;refine aR ?_;rfl
   rw[iH h];refine aa f ?_;cases pg (dl t)with
   | false =>rw[iH rfl];refine aR ?_;rfl
   | true =>rw[ae rfl];refine aR ?_;refine⟨kr,aa g ?_⟩;exact ef
 | _::_::_::l,_,b =>rw[show PT n a m d (_::_::_::l)=IA from rfl];have c1:(((lh l+1+1+1:Nat):Int)==1)=false:=beq_eq_false_iff_ne.2 om;have c2:(((lh l+1+1+1:Nat):Int) != 2)=true:=bne_iff_ne.2 om;simp only[↓gp,gq,simprocAttr,gT,c1,c2];rfl
theorem kf(s:St)(d e b f a:Nat)(x y:Value)(c c2:M0):br s d (.ag [.im (.v x),.fr e b c,.im (.v y),.fr f a c2])=((s.row (d+1000) ⟨(s.rw (d+1000)).ver+1,.sli f a l0 c2⟩).row d ⟨(s.rw d).ver+1,.sli e b l0 c⟩).put (some d) (.ag [.v x,.own d ((s.rw d).ver+1),.v y,.own (d+1000) ((s.rw (d+1000)).ver+1)]):=by simp[br,leaves,eu,fL];rfl
theorem Ab{b:Nat}:∀{l x:List UInt8},zT b l=[x]->x=l
 | [],x,h=>by simpa[zT]using h.symm
 | y::l,x,h=>by
   rw[nG]at h;split at h;have:=DH b l;grind;cases e:zT b l with
   | nil=>exact absurd e<|DH b l
   | cons p r =>rw[e]at h;simp at h;have⟨a,c⟩:=h;rw[c]at e;rw[<- a,Ab e]
theorem ziq{w:P0}(b:dO g h=[w]):w=g:=by have a:=qi g h;rw[b]at a;exact iR<|Array.toList_inj.1 (Ab a.symm)
abbrev Se:=Int×N0×Int×N0
def seT(r:Se×P0):RV:=.tup [.ag [.im (al r.1.1),.fr 3 1 (iL r.1.2.1),.im (al r.1.2.2.1),.fr 3 1 (iL r.1.2.2.2)],.im (fa r.2)]
noncomputable def RD(n:Int)(a:N0)(m:Int)(b:N0)(t:P0):Se×P0 :=
 if(t.toList==(⟨#[107,101,101,112]⟩:P0).toList)=k0 then((n,a,n,a),⟨#[111,107]⟩)
 else if(t.toList==(⟨#[115,119,97,112]⟩:P0).toList)=k0 then((m,b,n,a),⟨#[111,107]⟩)
 else if(ng (IB n a) n a m b (dO t 32)).1=k0 then(if(ng (IB n a) n a m b (dO t 32)).2.1=k0 then(((ng (IB n a) n a m b (dO t 32)).2.2.1,(ng (IB n a) n a m b (dO t 32)).2.2.2,m,b),Vn (ng (IB n a) n a m b (dO t 32)).2.2.1 (ng (IB n a) n a m b (dO t 32)).2.2.2)else((n,a,m,b),⟨#[110,111]⟩))
 else((n,a,m,b),PT n a m b (dO t 32))
theorem yn(n:Int)(f:V0):((k,qn b n f):Md).2.2.2.length<=1048576:=by
 cases b with
 | true=>show(bl<|dI f _).length<=_;rw[ap];have:=vu f k0;omega
 | false=>exact aB _
theorem zpu:((k,exM n):Md).2.2.2.length<=1048576:=by
 show(mu<|FI n).length<=_;unfold mu FI;repeat' split
 all_goals decide
theorem zpv(b:lh c<=1048576):(Bc e c n a w).2.2.2.length<=1048576:=by
 unfold Bc
 repeat' split
 all_goals first|exact yn _ _ _ _|exact aB _|skip
 unfold uk;split
 ·rcases DG _ _ c with m|⟨d,_,m⟩
  ·rw[m];exact b
  ·rw[m];rw[wu,ap];have:=Abs.ordN_len<|hU<|bl<|Ge (c.map Int.toNat) d;omega
 simp
def sm(r:Md):Prop:=r.2.2.2.length<=1048576
theorem yo{c:Prop}[Decidable c]{a b:Md}(d:sm a)(e:sm b):sm (if c then a else b):=by grind
theorem zeU:sm PW:=aB _
theorem zsX:sm (IB n a w t):=by refine yo ?_<|yo (yo (zpu _ _) zeU)<|yo (yo (yn _ _ _ _) zeU)<|yo (yo (yn _ _ _ _)<|yo (yn _ _ _ _)<|yo (yn _ _ _ _)<|yo (yn _ _ _ _)<|yo (yn _ _ _ _) zeU) zeU;show(pxM t).2.2.length<=_;unfold pxM;split;rename_i h;unfold Tp at h;rw[aj]at h;show(ph<|Iu<|GC t).length<=_;rw[xe h.2,ap];have:=vu (ao<|ph<|Iu<|GC t) k0;omega;exact aB _
theorem zeV{n:Int}(m:Int)(b:N0)(a:Q0)(d:lh c<=1048576):(ng (IB n c) n c m b a).2.2.2.length<=1048576:=by unfold ng;split;exact zpv m b _ d;exact zsX n c _ _;unfold flM;split;exact yn _ _ _ _;decide;decide
theorem Ck(i:lh a<=1048576)(o:lh d<=1048576)(q:w.size<=2000000):AC prog 7 [.ag [al n,aE a,al m,aE d],fa w] (seT (RD n a m d w)):=by
 refine cA [.cell 4 28,.tmp 5] func7 λz=>?_;have f:∀p∈dO w 32,p.size<=2000000:=λp b=>aJ (zU b) q;have g:lh (dO w 32)<=2000001:=aJ (tN w 32) om;have h:=LJ n a m d (dO w 32) f g;have j:=GG n a m d (dO w 32) f g;have k:=zeV m d (dO w 32) i (n:=n);have l:=iT w 32 q;unfold RD;generalize ng (IB n a) n a m d (dO w 32)=r at *;have⟨x,y,s,u⟩:=r;unfold Gw at h;unfold seT;refine aR<|aa (PD n a m d i o) ?_;refine cZ @kf<|aa l ?_;refine cZ @kf<|aa h ?_;cases t:(w.toList==(⟨#[107,101,101,112]⟩:P0).toList)with
 | true =>refine iD @kf @me t<|aa (lR n a i) ?_;exact mg kf
 | false =>
   cases e:(w.toList==(⟨#[115,119,97,112]⟩:P0).toList)with
   | true =>refine ox @kf @me t e<|aa (lR m d o) ?_;refine cZ @kf<|aa (lR n a i) ?_;exact mg kf
   | false =>
     cases x with
     | true =>
       rw[ae rfl];cases y with
       | true =>refine ox @kf @me t e<|aa (lR s u k) ?_;refine ox @kf @me t e ?_;exact⟨kr,aa (sU s u)<|xd4 kf me t e⟩
       | false =>exact xd4 kf me t e
     | false =>refine ox @kf @me t e ?_;exact⟨kr,aa j<|xd4 kf me t e⟩
theorem zsW{n m:Int}{xs ys:N0}{w:P0}(h:w=⟨#[107,101,101,112]⟩\/w=⟨#[115,119,97,112]⟩):(Bc n xs m ys w).1=false:=by unfold Bc;rcases h with h|h<;>subst h<;>simp<;>rfl
theorem XU:dO ⟨#[107,101,101,112]⟩ 32=[⟨#[107,101,101,112]⟩]/\dO ⟨#[115,119,97,112]⟩ 32=[⟨#[115,119,97,112]⟩]:=dc
theorem zeT{w:P0}(h:(g.toList==w.toList)=k0):g=w:=by rwa [qd,bT]at h
theorem zuS{t:P0}(h:(dO t 32).length≠1):(t.toList==(⟨#[107,101,101,112]⟩:P0).toList)=l0/\(t.toList==(⟨#[115,119,97,112]⟩:P0).toList)=false:=by constructor;exact Bool.eq_false_iff.2 λe=>h (by rw[zeT e];rfl);exact Bool.eq_false_iff.2 λe=>h (by rw[zeT e];rfl)
theorem zkp{r s:Md}(h:LK r s)(a:r.1=l0):s.1=false:=h.1.symm.trans a
theorem Cj(F:lh a<=1048576)(H:lh d<=1048576)(G:w.size<=2000000):AC prog 6 [.ag [al n,aE a,al m,aE d],fa w] (seT (RD n a m d w)):=by
 refine cA [.cell 4 28,.tmp 5] func6 λO=>?_;have x:∀p∈dO w 32,p.size<=2000000:=λp I=>aJ (zU I) G;have C:lh (dO w 32)<=2000001:=aJ (tN w 32) om;have t:=GI n a m d (dO w 32) x C;have g:=zuS (t:=w);have y:=qc w 32 G;have j:=zkr n a m d<|dO w 32;unfold RD;refine aR ?_;refine⟨kr,aa (ot n a F) ?_⟩;refine aR ?_;refine aa (ot m d H) ?_;refine aR ?_;refine⟨kr,aa y ?_⟩;generalize J:dO w 32=K at *;clear y;unfold seT;rcases K with _|⟨e,_|⟨p,_|⟨q,_|⟨o,l⟩⟩⟩⟩
 have f:=g dc;rw[iH f.1,iH f.2,iH (b:=(ng (IB n a) n a m d []).1) rfl];rw[show ng (Zy n a) n a m d []=PW from rfl]at t;unfold BI PW at t;refine aR ?_;refine aa t ?_;refine cZ @gJ ?_;rfl;have L:=ziq J;subst L;rw[show ng (Zy n a) n a m d [e]=Bc n a m d e from rfl]at t;rw[show ng (IB n a) n a m d [e]=Bc n a m d e from rfl];have A:=zsW (n:=n) (m:=m) (xs:=a) (ys:=d) (w:=e);have k:AC prog 22 [.ag [al n,aE a,al m,aE d],fa e] (.tup [.im (fa (LH n a m d e).2),.im (aU (LH n a m d e).1)]):=GH n a m d e;rw[show PT n a m d [e]=whX (LH n a m d e) from rfl];generalize Bc n a m d e=r at *;generalize LH n a m d e=z at *;have⟨s,u,h,i⟩:=r;have⟨D,M⟩:=z;unfold BI at t;unfold whX IA;cases B:(e.toList==(⟨#[107,101,101,112]⟩:P0).toList)with
 | true =>obtain rfl:s=false:=A (.inl<|zeT B);rw[ae rfl];refine aR ?_;refine aa t ?_;refine ff @gJ B ?_;refine aa (ot n a F) ?_;exact DL gJ B
 | false =>
   rw[iH rfl];cases E:(e.toList==(⟨#[115,119,97,112]⟩:P0).toList)with
   | true =>obtain rfl:s=false:=A (.inr<|zeT E);rw[ae rfl];refine aR ?_;refine aa t ?_;exact xd3 gJ B E
   | false =>
     rw[iH rfl];cases s with
     | true =>
       rw[ae rfl];cases u with
       | true =>rw[ae rfl];refine aR ?_;refine aa t ?_;refine cZ @gJ ?_;refine⟨kr,aa (kY h i) ?_⟩;refine cZ @gJ ?_;kernel_rfl
       | false =>rw[iH rfl];refine aR ?_;refine aa t ?_;exact mg gJ
     | false =>
       rw[iH rfl];refine aR ?_;refine aa t ?_;refine iD @gJ B E ?_;refine⟨kr,aa k ?_⟩;cases D with
       | true=>exact ef
       | false=>exact ef
 have f:=g sp;rw[iH f.1,iH f.2];rw[show ng (Zy n a) n a m d [e,p]=Zy n a e p from rfl]at t;rw[show ng (IB n a) n a m d [e,p]=IB n a e p from rfl];have j:=zr5 n a e p;have k:=JU n a m d e p<|x p sp;rw[show PT n a m d [e,p]=whX (XV n a e p) from rfl];generalize XV n a e p=z at *;generalize IB n a e p=v at *;generalize Zy n a e p=r at *;have⟨s,u,h,i⟩:=r;have⟨D,M⟩:=z;unfold BI at t;unfold whX IA;cases s with
 | true =>
   rw[<- j.2 rfl];rw[ae (c:=(k0,u,h,i).1=k0) rfl];cases u with
   | true =>rw[ae (c:=(k0,k0,h,i).2.1=k0) rfl];refine aR ?_;refine aa t ?_;refine cZ @gJ ?_;refine⟨kr,aa (kY h i) ?_⟩;refine cZ @gJ ?_;kernel_rfl
   | false =>rw[iH (b:=(k0,l0,h,i).2.1) rfl];refine aR ?_;refine aa t ?_;exact mg gJ
 | false =>
   rw[iH<|zkp j rfl];refine aR ?_;refine aa t ?_;refine cZ @gJ ?_;refine⟨kr,aa k ?_⟩;cases D with
   | true=>exact ef
   | false=>exact ef
 have f:=g sp;rw[iH f.1,iH f.2];rw[show ng (Zy n a) n a m d [e,p,q]=flM n a e p q from rfl]at t;rw[show ng (IB n a) n a m d [e,p,q]=flM n a e p q from rfl];rw[show PT n a m d [e,p,q]=IA from rfl];generalize flM n a e p q=r at *;have⟨s,u,h,i⟩:=r;unfold BI at t;unfold IA;cases s with
 | true =>
   rw[ae rfl];cases u with
   | true =>rw[ae rfl];refine aR ?_;refine aa t ?_;refine cZ @gJ ?_;refine⟨kr,aa (kY h i) ?_⟩;refine cZ @gJ ?_;kernel_rfl
   | false =>rw[iH rfl];refine aR ?_;refine aa t ?_;exact mg gJ
 | false =>rw[iH rfl];refine aR ?_;refine aa t ?_;exact mg gJ
 have f:=g sp;rw[iH f.1,iH f.2,iH (b:=(ng (IB n a) n a m d<|e::p::q::o::l).1) rfl];have N:(3<((lh l+1+1+1+1:Nat):Int))=True:=bO om;refine cZ N ?_;rfl
def MT(r:Bool×Int×N0):Prop:=r.1=k0->aS r.2.1 r.2.2=k0
theorem Ar(h:j=k0->∃m:Nat,e=m/\1<=m/\m<=6/\∀s,s<64->i s=k0->s<2^m):MT (qn j e i):=by
 intro a;cases j with
 | false=>cases a
 | true =>obtain⟨m,rfl,c,d,f⟩:=h rfl;exact zel c d f
theorem Mz(h:aS e c=k0):∃m:Nat,e=m/\1<=m/\m<=6/\∀t,ao c t=k0->t<2^m:=by obtain⟨m,rfl,b,a⟩:=KH h;exact⟨m,rfl,b,a,λt d=>LB h d⟩
theorem zve:MT (XW n a w s b).2:=by unfold XW;split;refine Ar λh=>?_;obtain⟨m,rfl,k,c,d⟩:=Mz (Bool.and_eq_true_iff.1 h).1;refine⟨m,rfl,k,c,λt _ e=>?_⟩;unfold dL at e;have:=d _ (Bool.and_eq_true_iff.1 e).2;exact bD (pt) this;split;refine Ar λh=>?_;obtain⟨m,rfl,k,c,d⟩:=Mz (Bool.and_eq_true_iff.1 h).1;exact⟨m,rfl,k,c,λt _ e=>by simpa using(Bool.and_eq_true_iff.1 e).1⟩;split;refine Ar λh=>?_;obtain⟨m,rfl,k,c,d⟩:=Mz (Bool.and_eq_true_iff.1 h).1;exact⟨m,rfl,k,c,λt _ e=>d t (Bool.and_eq_true_iff.1 e).1⟩;split;refine Ar λh=>?_;obtain⟨m,rfl,k,c,d⟩:=Mz (Bool.and_eq_true_iff.1 h).1;exact⟨m,rfl,k,c,λt _ e=>d t (Bool.and_eq_true_iff.1 e).1⟩;split;refine Ar λh=>?_;obtain⟨m,u,rfl,rfl,g,k,c,i,j,f⟩:=zh6 h;refine⟨m+1,om,om,om,λt _ e=>?_⟩;unfold sdF at e;rw[ar]at e;split at e;rename_i h;have:2^m<=2^(m+1):=aV dc om;omega;simpa using(Bool.and_eq_true_iff.1 e).1;intro h;cases h
theorem zsh:∀(n:Nat)(f:V0)(l:O0)(t:Nat),(QB n f l).1 t=k0->f t=true:=by
 intro n;induction n with
 | zero=>intro f l t h;exact h
 | succ n a =>intro f l t h;unfold QB at h;split at h;exact h;have:=a _ _ _ h;unfold pB at this;exact(Bool.and_eq_true_iff.1 this).1
theorem zwQ{k:Nat}{f:N0}(d:h+k<=6)(i:aS (h:Int) c=k0)(j:aS (k:Int) f=k0){t:Nat}(g:joF h c f t=k0):t<2^(h+k):=by
 unfold joF at g;obtain⟨x,l,m⟩:=eT.1 g;obtain⟨a,n,b,o,rfl⟩:=(zeI x).1 l;obtain⟨p,q,_,_,u,r,e,_⟩:=zoQ d i j n o;rw[e,ar]at m;have w:t<=p+q*2^h:=by rw[<- m];exact bI
 have s:(q+1)*2^h<=2^k*2^h:=ec _ r;rw[Ng,Gs (2^h)];rw[fA]at s;omega
theorem zkX{m:Int}{b:N0}:MT (qn (aS e c&&(aS m b&&decide (e+m<=6))) (e+m) (joF e.toNat c b)):=by refine Ar λh=>?_;simp only[aj,aq]at h;obtain⟨n,d,f⟩:=h;obtain⟨k,rfl,g,i,_⟩:=Mz n;obtain⟨l,rfl,j,_,_⟩:=Mz d;exact⟨k+l,om,om,om,λt _ a=>zwQ om n d a⟩
theorem zwR:MT (qn (egB e c) e (egF e c)):=by refine Ar λh=>?_;obtain⟨b,_,f,_,_,_⟩:=zh4 h;obtain⟨k,rfl,g,i,j⟩:=Mz b;refine⟨k,rfl,g,i,λt _ n=>?_⟩;unfold egF at n;refine Gh (fs:=PR _ _ _) (λx l=>?_) n;have a:=zuj (ab _) x l;unfold DN at a;rw[ac f]at a;have d:=(fI.1 a).2.1;unfold ci at d;exact j x (Bool.and_eq_true_iff.1 d).2
theorem zvf:MT (aS e c,zoX e c (aS e c),uk e c):=by
 intro h;have h:aS e c=true:=h;obtain⟨m,b,rfl,o,n,d,p,E,G,H⟩:=DD h;have f:uk (m:Int) c=pI b (nk m m []) c:=by unfold uk;rw[ae h,p];rfl
 have I:zoX (m:Int) c (aS (m:Int) c)=(m:Int):=by unfold zoX;rw[h];rfl
 show aS (zoX (m:Int) c (aS (m:Int) c)) (uk (m:Int) c)=k0;rw[I,f];have g:∀x∈b,∀t,t<64->ao c t=k0->x&&&t=x->t=x:=λx j=>by
  have a:=xe h;have q:(x:Int)∈c:=by rw[d];exact nF.2 j
  have r:(x:Int)∈bl (dI (ao c) k0):=a ▸ q;exact ku.1 (ja.1 (nF.1 r)).2
 subst d;rcases DG b (nk m m []) (bl b)with w|⟨k,w,J⟩
 rw[w];exact h;rw[J];have l:=rO w;have z:=dx (m:=m) n;unfold wu;have A:∀s,hU (bl (Ge b k)) s=k0↔∃x∈b,jE x k m=s:=λs=>by have:=zii n l (fs:=b) (u:=s);unfold wu at this;rw[nF,cR]at this;constructor;intro h;exact this.1 ⟨by rw[pb,bT]at h;exact zoY n l s h,h⟩;intro h;exact(this.2 h).2
 have a:co (hU (bl (Ge b k)))=dI (hU (bl (Ge b k))) true:=by unfold dI;refine(List.filter_eq_self.2 λs B=>?_).symm;obtain⟨x,j,rfl⟩:=(A s).1 (cR.1 B).2;refine ku.2 λt L C D=>?_;obtain⟨y,F,rfl⟩:=(A t).1 C;have K:=(zcp l (E x j) (s:=y)).2 (by rw[cl];exact D);have i:y<64:=cp (E y F) z;rw[g x j y i (DF.2 ⟨y,F,dp _⟩) (by rw[cl];exact K)]
 rw[a];exact zel o n λs _ B=>by obtain⟨x,_,rfl⟩:=(A s).1 B;exact Gg l x
theorem zvg:MT (Bc n a m d w).2:=by
 unfold Bc;split;refine Ar λh=>?_;obtain⟨k,rfl,b,c,i⟩:=Mz h;exact⟨k,rfl,b,c,λt _ g=>by unfold Cb at g;simpa using(Bool.and_eq_true_iff.1 g).1⟩;split;exact zkX;split;exact zkX;split;exact zvf;split;exact zwR;split;refine Ar λh=>?_;obtain⟨k,rfl,b,c,i⟩:=Mz h;exact⟨k,rfl,b,c,λt _ g=>i t (zsh _ _ _ _ g)⟩;split;refine Ar λh=>?_;obtain⟨k,rfl,b,c,i⟩:=Mz h;exact⟨k,rfl,b,c,λt _ g=>by simpa using(Bool.and_eq_true_iff.1 g).1⟩;split;exact zkX;split;refine Ar λh=>?_;simp only[aj,aq]at h;obtain⟨e,f,rfl⟩:=h;obtain⟨k,rfl,b,c,i⟩:=Mz e;exact⟨k,rfl,b,c,λt _ g=>by
  rcases Bool.or_eq_true_iff.1 g with h|h;exact i t h;exact LB f h⟩
 split;refine Ar λh=>?_;simp only[aj,aq]at h;obtain⟨e,f,rfl⟩:=h;obtain⟨k,rfl,b,c,i⟩:=Mz e;exact⟨k,rfl,b,c,λt _ g=>i t (Bool.and_eq_true_iff.1 g).1⟩;intro h;cases h
theorem zww:MT (pxM w):=by unfold pxM;split;rename_i h;intro _;unfold Tp at h;exact(Bool.and_eq_true_iff.1 h).2;intro h;cases h
theorem YC:MT PW.2:=λh=>by cases h
theorem zwM:MT (qn (aS e c&&j) e (skF (ao c) h)):=by refine Ar λa=>?_;obtain⟨m,rfl,b,d,k⟩:=Mz (Bool.and_eq_true_iff.1 a).1;exact⟨m,rfl,b,d,λt _ f=>k t (zrQ.1 f).1⟩
theorem zwO(q:P0):MT (flM n a w t q).2:=by
 unfold flM;split;refine Ar λh=>?_;obtain⟨m,u,v,rfl,_,_,c,d,_,_,_⟩:=zh5 h;obtain⟨k,e,f,_,g⟩:=Mz c;obtain rfl:m=k:=om;refine⟨m,rfl,f,d,λb _ p=>?_⟩;unfold fpF at p;rw[ar]at p;rcases Bool.or_eq_true_iff.1 p with h|h
 exact g b (Bool.and_eq_true_iff.1 h).1;simpa using(Bool.and_eq_true_iff.1 h).1;exact YC
theorem zkP:MT (exM n):=by
 intro h;have h:1<=n/\n<=8:=cH h;have a:n=1\/n=2\/n=3\/n=4\/n=5\/n=6\/n=7\/n=8:=om;show aS (xJ n) (mu (FI n))=k0;rcases a with rfl|rfl|rfl|rfl|rfl|rfl|rfl|rfl
 all_goals
  refine vA ⟨dc,dc,?_⟩
  unfold zvH
  decide +kernel
theorem zwP:MT (IB n a w t).2:=by unfold IB;split;exact zww t;split;split;exact zkP _;exact YC;split;split;exact zwM;exact YC;split;exact zve _ _ _ _ _;exact YC
theorem zvd(c:Q0):MT (ng (IB n a) n a m d c).2:=by unfold ng;split;exact zvg n a m d _;exact zwP n a _ _;exact zwO n a _ _ _;exact YC
theorem Th{m:Int}{ys:N0}(t:P0)(b:aS e c=k0)(a:aS m ys=k0):aS (RD e c m ys t).1.1 (RD e c m ys t).1.2.1=k0/\aS (RD e c m ys t).1.2.2.1 (RD e c m ys t).1.2.2.2=true:=by have h:=zvd e c m ys (dO t 32);unfold RD;split;exact⟨b,b⟩;split;exact⟨a,b⟩;split;split;rename_i d;exact⟨h d,a⟩;exact⟨b,a⟩;exact⟨b,a⟩
theorem zuT{m:Int}{b:N0}(a:(g.toList==(⟨#[107,101,101,112]⟩:P0).toList)=l0)(d:(g.toList==(⟨#[115,119,97,112]⟩:P0).toList)=l0)(t:(ng (IB e c) e c m b (dO g 32)).1=l0):(RD e c m b g).1=(e,c,m,b):=by
 unfold RD
 rw[ac (by rw[a];exact tu),ac (by rw[d];exact tu),ac (by rw[t];exact tu)]
def c1L:Q0:=[⟨#[100,117,97,108]⟩,⟨#[99,111,110,101]⟩,⟨#[115,117,115,112,101,110,100]⟩,⟨#[99,97,110,111,110]⟩,⟨#[101,100,103,101]⟩,⟨#[99,111,108,108,97,112,115,101]⟩,⟨#[102,108,97,103]⟩,⟨#[106,111,105,110]⟩,⟨#[117,110,105,111,110]⟩,⟨#[109,101,101,116]⟩]
def c2L:Q0:=[⟨#[99,111,109,112,108,101,120]⟩,⟨#[101,120,97,109,112,108,101]⟩,⟨#[115,107,101,108,101,116,111,110]⟩,⟨#[108,105,110,107]⟩,⟨#[115,116,97,114]⟩,⟨#[100,101,108,101,116,101]⟩,⟨#[105,110,100,117,99,101,100]⟩,⟨#[100,105,118,105,100,101]⟩]
def zuU(t:P0):Bool:=!(t.toList==(⟨#[107,101,101,112]⟩:P0).toList)&&(!(t.toList==(⟨#[115,119,97,112]⟩:P0).toList)&&(match dO t 32 with|[w]=>c1L.all (λc=>!(w.toList==c.toList))|[w,_]=>c2L.all (λc=>!(w.toList==c.toList))|_=>l0))
theorem zuW{m:Int}{b:N0}(h:zuU g=k0):(RD e c m b g).1=(e,c,m,b):=by unfold zuU at h;rw[aj,aj,bC,bC]at h;obtain⟨d,f,a⟩:=h;refine zuT d f ?_;split at a;rename_i w t;rw[t];show(Bc e c m b w).1=l0;simp only[c1L,um,List.all_nil,aj,bC]at a;unfold Bc;simp only[a,eP,gx];rename_i w p t;rw[t];show(IB e c w p).1=l0;simp only[c2L,um,List.all_nil,aj,bC]at a;unfold IB XW;simp only[a,eP,gx];split<;>rfl;cases a
theorem zek(t:DnF i)(a:h<64):ao (bl (dI i k0)) h=i h:=by rw[vv,aZ,cS];constructor;rintro⟨s,c,e⟩;simp only[aj,aK]at e;exact t s h e.1 e.2;intro b;exact⟨h,List.mem_range.2 a,by rw[b,dp];simp⟩
theorem zsg(f:DnF i):DnF (Cb h i):=by
 intro s t c a;unfold Cb at c ⊢;simp only[aj,aq,bC]at c ⊢;have d:t<=s:=by rw[<- a];exact bI
 refine⟨om,?_⟩;cases e:i (2^h-1-t)with
 | false=>rfl
 | true =>
   have b:(2^h-1-t)&&&(2^h-1-s)=2^h-1-s:=by apply bB;intro m;rw[bQ,show 2^h-1-t=2^h-(t+1)by omega,show 2^h-1-s=2^h-(s+1)by omega,Co om,Co c.1];have:=cV (λx=>x.testBit m) a;simp only[bQ]at this;cases g:s.testBit m<;>cases j:t.testBit m<;>simp_all
   have:=f _ _ e b;rw[c.2]at this;cases this
theorem zf1(h:aS e c=k0):bl (dI (Cb e.toNat (ao (bl (dI (Cb e.toNat (ao c)) k0)))) k0)=c:=by
 obtain⟨m,rfl,j,n,d⟩:=Mz h;have f:=dx (m:=m) n;rw[ar]
 conv=>rhs;rw[xe h]
 refine cV bl (je (λs k=>?_) k0);have g:=(nV h).1;unfold Cb;by_cases b:s<2^m
 ·have a:ao (bl (dI (Cb m (ao c)) k0)) (2^m-1-s)=Cb m (ao c) (2^m-1-s):=zek (zsg g) om;unfold Cb at a;rw[a,ay b,ay (show 2^m-1-s<2^m by omega),show 2^m-1-(2^m-1-s)=s by omega];simp
 ·rw[aD b];cases i:ao c s with
  | false=>rfl
  | true=>exact absurd (d s i) b
theorem YA:nB (gc f) (cv f)=-En f (cv f):=by
 have:∀k,k<=cv f->nB (gc f) k=-En f k:=λk=>by
  induction k with
  | zero=>intro _;rfl
  | succ k a =>intro h;rw[nB,En,a om,lN f om];unfold sg2;split;rw[show((k%2:Nat):Int)=0 by omega];omega;rw[show((k%2:Nat):Int)=1 by omega];omega
 exact this _ (ab _)
noncomputable def clz(a:N0):N0:=bl (dI (zeF a).1 k0)
theorem zkD(s:aS e c=k0)(b:h<64):ao (clz c) h=(QB 64 (ao c) []).1 h:=zek (zmX 64 _ [] (nV s).1) b
theorem zr3(h:aS e c=k0):nB (gc (ao (clz c))) (cv (ao (clz c)))=nB (gc (ao c)) (cv (ao c)):=by rw[YA,YA,ztn (nV h).1 λs=>zkD h]
noncomputable def sH(f:V0):Int:=Ek (λk=>lg (ed f 2) k 0) (cv f)
theorem zr4(h:aS e c=k0):sH (ao (clz c))=sH (ao c):=zs4 (p:=2) rfl (nV h).1 λs=>zkD h
theorem zr7{m:Int}{b:N0}:RD e c m b ⟨#[107,101,101,112]⟩=((e,c,e,c),⟨#[111,107]⟩):=ae (by decide +kernel)
theorem zsb{m:Int}{b:N0}:RD e c m b ⟨#[115,119,97,112]⟩=((m,b,e,c),⟨#[111,107]⟩):=(iH (by decide +kernel) _ _).trans (ae (by decide +kernel))
theorem zul{m:Int}{n:N0}{a:Int}{d:N0}(b:(g.toList==(⟨#[107,101,101,112]⟩:P0).toList)=l0)(f:(g.toList==(⟨#[115,119,97,112]⟩:P0).toList)=l0)(t:ng (IB e c) e c m n (dO g 32)=(k0,k0,a,d)):RD e c m n g=((a,d,m,n),Vn a d):=by
 unfold RD
 rw[t,ac (by rw[b];exact tu),ac (by rw[f];exact tu)]
 rfl
theorem zkO{m:Int}{b:N0}(h:aS e c=k0):RD e c m b ⟨#[99,111,108,108,97,112,115,101]⟩=((e,clz c,m,b),Vn e (clz c)):=by refine zul (by decide +kernel) (by decide +kernel) ?_;rw[show dO ⟨#[99,111,108,108,97,112,115,101]⟩ 32=[⟨#[99,111,108,108,97,112,115,101]⟩]by decide +kernel];show Bc e c m b _=_;unfold Bc qn;rw[h];exact(iH (by decide +kernel) _ _).trans ((iH (by decide +kernel) _ _).trans ((iH (by decide +kernel) _ _).trans ((iH (by decide +kernel) _ _).trans ((iH (by decide +kernel) _ _).trans (ae (by decide +kernel))))))
noncomputable def duz(n:Int)(a:N0):N0:=bl (dI (Cb n.toNat (ao a)) k0)
theorem Tb{m:Int}{b:N0}(h:aS e c=k0):RD e c m b ⟨#[100,117,97,108]⟩=((e,duz e c,m,b),Vn e (duz e c)):=by refine zul (by decide +kernel) (by decide +kernel) ?_;rw[show dO ⟨#[100,117,97,108]⟩ 32=[⟨#[100,117,97,108]⟩]by decide +kernel];show Bc e c m b _=_;unfold Bc qn;rw[h];exact ae (by decide +kernel)
theorem zuP(h:aS e c=k0)(m:Int)(b:N0):aS e (clz c)=true:=by have:=(Th (m:=e) (ys:=c) ⟨#[99,111,108,108,97,112,115,101]⟩ h h).1;rwa [zkO h]at this
theorem zuQ(h:aS e c=k0):aS e (duz e c)=true:=by have:=(Th (m:=e) (ys:=c) ⟨#[100,117,97,108]⟩ h h).1;rwa [Tb h]at this
theorem zwv(h:aS e c=k0):duz e (duz e c)=c:=zf1 h
def Nm:Q0:=[⟨#[115,104,111,119]⟩,⟨#[99,111,117,110,116,115]⟩,⟨#[104]⟩,⟨#[104,111,108,101,115]⟩,⟨#[101,117,108,101,114]⟩,⟨#[109,105,115,115,105,110,103]⟩,⟨#[102,114,101,101]⟩,⟨#[104,111,108,101,115,32,50]⟩,⟨#[102,97,99,101,115,32,49]⟩,⟨#[108,101,102,116,32,51]⟩,⟨#[102,97,99,101,32,97]⟩,⟨#[110,111,116,104,105,110,103]⟩,⟨#[]⟩]
theorem zsc{n:Int}{xs:N0}{m:Int}{ys:N0}(h:g∈Nm):(RD n xs m ys g).1=(n,xs,m,ys):=zuW ((by decide +kernel:∀g∈Nm,zuU g=k0) g h)
theorem zsf(h:g∈Nm):g.size<=2000000:=by
 have:∀g∈Nm,g.size<=2000000:=by decide +kernel
 exact this g h
theorem Al:AC prog 8 [.ag [al n,aE a,al m,aE d],.ag [al n,aE a,al m,aE d]] (.im (aU k0)):=by refine cA [.tmp 4] func8 λe=>?_;have c:=rn n n a a;have b:=rn m m d d;rw[ay ⟨rfl,rfl⟩]at c b;refine aR ?_;refine aa c ?_;refine aR ?_;refine aa b ?_;exact ef
theorem Jp:AC prog 9 [.ag [al n,aE a,al m,aE d],.ag [al n,aE a,al m,aE d]] (.im (aU k0)):=by refine cA [.tmp 4] func9 λe=>?_;have c:=Bz n n a a;have b:=Bz m m d d;rw[ay ⟨rfl,rfl⟩]at c b;refine aR ?_;refine aa c ?_;refine aR ?_;refine aa b ?_;exact ef
theorem DU:AC prog 14 [.ag [al n,aE a],.ag [al n,aE a]] (.im (aU k0)):=by refine cA [.tmp 4] func14 λc=>?_;have b:=Nj a a;rw[ay rfl]at b;refine aR ?_;refine aa b ?_;exact ef
theorem zkC{k:Nat}(h:k<cv f):-128<=lg (ed f n) k 0/\(ed f n).getD k 0<=64:=by
 have a:=qS f n k;have b:=qS f n (k+1);have c:lh (cd f k 64)<=64:=by have:=aO (λs=>f s&&aQ s==k) (lc 64);rw[bp]at this;exact this
 rw[pX f n h];omega
theorem zws(f:V0)(p:Int):∀k,k<=cv f->-(128*(k:Int))<=Ek (λk=>lg (ed f p) k 0) k/\Ek (λk=>lg (ed f p) k 0) k<=64*(k:Int)
 | 0,_=>⟨oE 0,oE 0⟩
 | k+1,h=>by have a:=zws f p k om;have b:=zkC f p (k:=k) om;rw[Ek];omega
theorem Eg(h:aS n a=k0):AC prog 13 [.ag [al n,aE a],al 2] (.im (al (sH (ao a)))):=by
 refine cA [.tmp 4] func13 λq=>?_;have j:=nS n a 2;rw[mP h,Bl,ae (show lM 2=k0 from rfl)]at j;refine aR ?_;refine aa j ?_;have m:∀k,k<cv (ao a)->-128<=lg (ed (ao a) 2) k 0/\(ed (ao a) 2).getD k 0<=64:=λk h=>zkC (ao a) 2 h;have o:=zws (ao a) 2;have e:=df (ao a) 2;have r:=eD (ao a);unfold sH;generalize ed (ao a) 2=l at *;generalize cv (ao a)=d at *;refine aR ?_;refine az (λ(k:Nat)s=>(s.sl 5=al (Ek (λk=>lg l k 0) k)/\s.sl 6=.own 10 1/\s.rw 10=⟨1,.sli 3 1 l0 (iL l)⟩/\s.sl 7=al k)/\(k<=d)) (λk=>d-k) (0) ⟨nm,aB _⟩ ?_;intro k t ⟨f,g⟩;rcases bf k d with b|p
 have u:=o k g;have w:=m k b;have c:((k:Int)<(d:Int))=True:=bO om;have i:IntKind.i64.wrap (Ek (λk=>lg l k 0) k+lg l k 0)=Ek (λk=>lg l k 0) (k+1):=aF om om;refine iD f e c ?_;exact⟨b,ah (k+1) ⟨(fB f i (ak b om)),b⟩⟩;obtain rfl:k=d:=om;have c:((k:Int)<(k:Int))=False:=aX om;exact xd3 f e c
theorem LG(s:St)(d e b f a:Nat)(x y z:Value)(c c2:M0):br s d (.tup [.ag [.im (.v x),.fr e b c,.im (.v y),.fr f a c2],.im (.v z)])=((s.row (d+1000) ⟨(s.rw (d+1000)).ver+1,.sli f a l0 c2⟩).row d ⟨(s.rw d).ver+1,.sli e b l0 c⟩).put (some d) (.tup [.ag [.v x,.own d ((s.rw d).ver+1),.v y,.own (d+1000) ((s.rw (d+1000)).ver+1)],.v z]):=by simp[br,leaves,eu,gN,fL];rfl
noncomputable def liF(b:N0)(a:lh b<=9223372036854775806)(i:Nat)(h:Int):=(BS b a i h).choose
theorem zgU(b:lh a<=9223372036854775806)(i:Nat)(h:Int):txV (liF a b i h):=(BS a b i h).choose_spec.1
theorem IF(b:lh a<=9223372036854775806):Mb prog 17 TC a [] (liF a b):=λi h=>(BS a b i h).choose_spec.2
theorem RY:plain []:=λ_ h=>absurd h sp
def seA(n:Int)(a:N0)(m:Int)(b:N0):RV:=.ag [.im (al n),.fr 3 1 (iL a),.im (al m),.fr 3 1 (iL b)]
def seQ(rv:RV):Prop:=∃n a m b,rv=seA n a m b/\aS n a=k0/\aS m b=k0
theorem zgV:aS ((xJ 1:Nat):Int) (mu (FI 1))=true:=zkP 1 rfl
theorem Rg(f:lh a<=9223372036854775806):zqg prog 16 TC a ⟨0,.dead⟩ [al 4] seQ:=by
 intro i h;refine Sx [.cell 4 28] func16 λhl _ s E H=>?_;have B:s.rw 1000000=⟨1,.box TC [.sl l0 1 (kL .u8 a),al i,al h]⟩:=by rw[H];rfl
 have S:s.rw 1000500=⟨0,.dead⟩:=by rw[H];rfl
 have o:∀k,k<1000000->s.rw k=⟨0,.dead⟩:=λk K=>by rw[H];exact Rc K
 have L:=MR;unfold zvL at L;refine iD E B o ?_;refine aa L ?_;refine iD E B o ?_;refine Sh (Rz a f 5 dc) .none (xs2 B o) (GvL.one (SV (xs2 B o)) (by repeat (first|exact GvL.nil|refine GvL.one (GvA.v _) ?_|refine GvL.one (GvA.sl _ _ _) ?_))) rfl (λ_ h=>by cases h) λrv U V⟨x,I,M⟩=>?_;subst I;obtain⟨q,rfl,hq⟩:=Ey (n:=5) dc M;refine iD E B o ?_;refine az (λ((k,c,v,w,j,g,n,p,m,t):Nat×Bool×Nat×Nat×Nat×Int×Int×N0×Int×N0) s=>(s.sl 0=.ref 1000000 1 0/\s.rw 1000000=⟨1,.box TC [.sl l0 1 (kL .u8 a),al j,al g]⟩/\s.rw 1000500=⟨0,.dead⟩/\s.sl 4=.ref 4 1 0/\s.rw 4=⟨1,.box 28 [al 0,.v (.slice none 0 0),al 0,.v (.slice none 0 0)]⟩/\s.sl 5=.ref 5 1 0/\s.rw 5=⟨1,.box 28 [al n,.own (if c then 22 else 8) v,al m,.own (if c then 1022 else 1008) w]⟩/\s.sl 6=al q/\s.sl 7=al k)/\(k<=q/\aS n p=k0/\aS m t=k0/\s.rw (if c then 22 else 8)=⟨v,.sli 3 1 l0 (iL p)⟩/\s.rw (if c then 1022 else 1008)=⟨w,.sli 3 1 l0 (iL t)⟩)) (λ(k,c,v,w,j,g,n,p,m,t)=>q-k) ((0,l0,1,1,U,V,((xJ 1:Nat):Int),mu (FI 1),((xJ 1:Nat):Int),mu (FI 1))) ⟨(rS E B S o),⟨aB _,zgV,zgV,by simp -dsimp only[gr,simprocAttr,o],by simp -dsimp only[gr,simprocAttr,o]⟩⟩ ?_;intro(k,c,v,w,j,g,n,p,m,t) N ⟨e,J⟩;obtain⟨K,c1,c2,b,d⟩:=J;rcases bf k q with l|X
 ·have u:((k:Int)<(q:Int))=True:=bO om;obtain⟨F,z,Y⟩:=zgU a f j g;have Z:=IF a f;generalize A:liF a f j g=y at *;obtain⟨y1,j1,O⟩:=y;have z:y1=.string F:=z;subst z;have M:=Vm c1;have a0:=Vm c2;have P:=Ck n p m t F om om om;have G:=Th F c1 c2;generalize RD n p m t F=r at *;obtain⟨⟨Q,C,R,D⟩,w'⟩:=r;unfold seT at P;cases c<;>simp only[eW,eP,gx]at e b d
  all_goals
   refine ox e b d u ?_
   refine⟨kr,zaa Z RY (i:=j) (h:=g) (RB e) rfl ?_⟩
   rw[A]
   refine iD e b d ?_
   refine aa P ?_
   refine ox e b d @LG ?_
  ·exact⟨kr,ah ((k+1,k0,(N.rw 22).ver+1,(N.rw 1022).ver+1,j1,O,Q,C,R,D)) ⟨(fB e A (ak l om)),⟨l,G.1,G.2,by simp -dsimp only[gr,simprocAttr,A],by simp -dsimp only[gr,simprocAttr,A]⟩⟩⟩
  ·exact⟨kr,ah ((k+1,k0,v+1,w+1,j1,O,Q,C,R,D)) ⟨(fB e A (ak l om)),⟨l,G.1,G.2,by simp -dsimp only[gr,simprocAttr,A],by simp -dsimp only[gr,simprocAttr,A]⟩⟩⟩
 ·obtain rfl:k=q:=om;have u:((k:Int)<(k:Int))=False:=aX om;cases c<;>simp only[eW,eP,gx]at e b d
  all_goals
   refine ox e b d u ?_
   exact⟨_,j,g,_,⟨n,p,m,t,rfl,c1,c2⟩,.one (.ag (.cons (.im _) (.cons (.fr (xs2 e b) dc) (.cons (.im _) (.cons (.fr (xs2 e d) dc) .nil))))),sp,by simp -dsimp only[gr,simprocAttr,e]<;>rfl,by simp -dsimp only[gr,simprocAttr,e]⟩
theorem zpp{ T:gg}{ s:St}(a r:Nat)(t:TypeId)(post:(S0)->PV->Prop):Qh T s [.cell a t,.tmp r] post=Bh s.rw (s.sl a) (kk λm c b=>qt T t m c b (kk λp=>post s.rw (.tup [p,s.sl r]))):=(rfl)
theorem Ex(b:lh a<=9223372036854775806):ADr prog 5 [.sl l0 1 (kL .u8 a)] (λrv=>∃n e m f w,rv=.tup [.ag [.im (al n),.fr 3 1 (iL e),.im (al m),.fr 3 1 (iL f)],.im (fa w)]/\aS n e=k0/\aS m f=k0/\w.size<=40000):=by refine Sx [.cell 2 28,.tmp 3] func5 λu _ s g c=>?_;refine ff g c ?_;refine SQ (Sv a) (.one (.sl _ _ _) .nil) λx=>?_;refine ff g c ?_;refine Sh (Rg a b) .none (RB c) (GvL.one (SV (RB c)) (by repeat (first|exact GvL.nil|refine GvL.one (GvA.v _) ?_|refine GvL.one (GvA.sl _ _ _) ?_))) rfl (λ_ h=>by cases h) λrv j k⟨n,e,m,f,l,c1,c2⟩=>?_;subst l;unfold seA;refine iD g c @kf ?_;obtain⟨p,d,o⟩:=zgU a b j k;have q:=IF a b;generalize r:liF a b j k=y at *;obtain⟨t,j1,z⟩:=y;have d:t=.string p:=d;subst d;refine lb q RY (i:=j) (h:=k) (xs2 c @kf) rfl ?_;rw[r];refine ox g c @kf @zpp ?_;exact⟨_,_,⟨n,e,m,f,p,rfl,c1,c2,o⟩,.tup (.cons (.ag (.cons (.im _) (.cons (.fr xs0 dc) (.cons (.im _) (.cons (.fr xs0 dc) .nil))))) (.cons (.lf (.im _)) .nil)),sp⟩
end Go.Proofs.YtijabbemjaioeaaGreatDoor
