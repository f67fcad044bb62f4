/- DERIVED by an AI agent. -/
import Derived.Test.YtijabbemjaioeaaGreatDoorA6
set_option linter.all false
namespace Go.Abs
open Bool renaming false→l0
open Option renaming some→n0,none→o0
open List renaming length→lh
variable (e:Nat){c:M0}{j:Nat}{P:Program}{f:Operand}{g:FuncId}{y:Value}{G:Ghost}{a:Bool}{o:Oper}
theorem cF(s:St)(d:Nat)(p:PV):(s.put (n0 d) p).sl d=p:=by simp[St.put]
theorem da(s:St)(d t:Nat)(p:PV)(h:t≠d):(s.put (n0 d) p).sl t=s.sl t:=by simp[St.put,h]
def VN(e:Nat)(head:M0)(k:Nat):Row:=if k=1000000 then⟨1,.sli e 1 l0 head⟩else⟨0,.dead⟩
theorem uD(head:M0):VN e head 1000000=⟨1,.sli e 1 l0 head⟩:=ae rfl
theorem GV(head:M0)(h:¬j=1000000):VN e head j=⟨0,.dead⟩:=ac h
def zvp(e:Nat)(out:M0)(ok:Bool)(a:S0)(p:PV):Prop:=∃k v,(k=1000000\/k<1000000)/\p=.tup [.own k v,.v (.bool ok)]/\a k=⟨v,.sli e 1 l0 out⟩
def AF[aw](P:Program)(f:FuncId)(a head:M0)(e:Nat)(out:M0)(ok:Bool):Prop:=AG P f (a++[.own 1000000 1]) (VN e head) (zvp e out ok)
def zlQ(b a:M0):Prop:=∀(c:Nat->Option Nat)(d:l1)(e R:S0),GvL c d e R b a
theorem GvL.app{e:Nat->Option Nat}{f:l1}{g R:S0}{c d:M0}(t:GvL e f g R c d):∀{a b:M0},GvL e f g R a b->GvL e f g R (a++c) (b++d)
 | _,_,.nil=>t
 | _,_,.one h r=>.one h (GvL.app t r)
 | _,_,.ag h r=>.ag h (GvL.app t r)
 | _,_,.clo h r=>.clo h (GvL.app t r)
theorem TH(a:Nat->Option Nat)(b:S0)(c:T0)(d:Bool)(k v:Nat)(x:Value):zaX a b c d (.tup [.own k v,.v x])=.tup [Hn a b c d (.own k v),.v x]:=rfl
theorem TI{d k a i:Nat}(h:(if a=1000000 then n0 j else if a=k then n0 d else o0)=n0 i):(a=1000000/\i=j)\/(a≠1000000/\a=k/\i=d):=by grind
theorem zpK[aw]{d k a b i:Nat}(c:d≠j)(e:(if a=1000000 then n0 j else if a=k then n0 d else o0)=n0 i)(f:(if b=1000000 then n0 j else if b=k then n0 d else o0)=n0 i):a=b:=by grind
theorem GW{a i:Nat}(h:(if a=1000000 then n0 j else o0)=n0 i):a=1000000/\i=j:=by grind
theorem AF.askG[aw]{s:St}{K:St->Prop}{y head out:M0}{f t d F:Nat}(h:AF P g c head j out a)(O:∀(M:Nat->Option Nat)(Q:S0),GvL M (λi=>i≠f) Q s.rw c y)(D:s.rw f=⟨t,.sli j 1 l0 head⟩)(R:plain head)(G:d≠f)(w:∀(S:St)(v r:Nat),((r=f/\(v=t\/v=t+1)/\S.rw d=s.rw d)\/(r=d/\v=(s.rw d).ver+1/\(S.rw f).ver<=t+1))->S.sl=(s.put (n0 F) (.tup [.own r v,.v (.bool a)])).sl->S.rw r=⟨v,.sli j 1 l0 out⟩->(∀i,i≠f->i≠d->S.rw i=s.rw i)->K S) :
 askG P s g (y++[.own f t]) (n0 F) K:=by
 have u:=uD j head
 have q:∀k,(VN j head k).kind.nd=true->k=1000000:=λk w=>by by_cases h:k=1000000;exact h;rw[GV j head h]at w;cases w
 have e:(λk:Nat=>if k=1000000 then n0 f else o0) 1000000=n0 f:=ae rfl
 refine⟨_,_,_,(λk=>if k=1000000 then n0 f else o0),(λi=>i≠f),h,((GvL.one ?_ .nil).app (O _ _)),⟨λk w=>?_,λk U i m n _ _=>by rw[q k m,q U n],λk i w z=>?_⟩,λH p A=>?_⟩
 exact .own e (by rw[u]) (by rw[D]) (by rw[u];rfl)
 have:=q k w;subst this;refine⟨ab _,by rw[u];exact Nat.one_pos,f,e,?_⟩;rw[u,D];exact⟨rfl,rfl,rfl,R⟩
 have:=q k w;subst this;have z:n0 f=n0 i:=e.symm.trans z;cases z;exact λh=>h rfl
 obtain⟨k,v,N,rfl,I⟩:=A;have J:(v==(H k).ver)=true:=by rw[I];simp
 rcases N with rfl|V
 refine⟨λk=>if k=1000000 then n0 f else o0,λ_=>if v=1 then t else t+1,l0,⟨λ_ _=>rfl,λE b i m n=>?_,λE i m n o=>?_,λE i m n=>?_,λh=>by cases h⟩,λS x=>?_⟩
 rw[(GW m).1,(GW n).1]
 have:=q E n;subst this;have z:n0 f=n0 i:=e.symm.trans m;cases z;rw[u,I]at o;have o:v=1:=o;rw[ae o,D]
 by_cases ok:E=1000000
 subst ok;have z:n0 f=n0 i:=e.symm.trans m;cases z;have:=n (by rw[u];rfl);rw[u,I]at this;have o:¬v=1:=this;rw[ac o,D];exact dD _
 simp[ok]at m
 have l:=x.row 1000000 f e;rw[I]at l;refine w S _ f (.inl ⟨rfl,?_,x.off d λE ok=>?_⟩) ?_ l (λi B _=>x.off i λE ok=>?_)
 by_cases o:v=1
 rw[ae o];exact .inl rfl
 rw[ac o];exact .inr rfl
 exact G (GW ok).2
 rw[x.sl,TH,lH,J];simp only[ae]
 by_cases h:E=1000000
 simp only[ae h]at ok;exact B (Option.some.inj ok).symm
 simp only[ac h]at ok;cases ok
 have C:¬k=1000000:=om
 refine⟨λi=>if i=1000000 then n0 f else if i=k then n0 d else o0,λi=>if i=1000000 then(if(H 1000000).ver=1 then t else t+1)else(s.rw d).ver+1,l0,
  ⟨λE ok=>?_,λE b i m n=>?_,λE i m n o=>?_,λE i m n=>?_,λh=>by cases h⟩,λS x=>?_⟩
 have:=q E ok;subst this;rfl
 exact zpK G m n
 have:=q E n;subst this;simp only[eW]at m;cases m;rw[u]at o;have o:(H 1000000).ver=1:=o;simp only[eW,ae o,D]
 by_cases ok:E=1000000
 subst ok;simp only[eW]at m;cases m;have:=n (by rw[u];rfl);rw[u]at this;have o:¬(H 1000000).ver=1:=this;simp only[eW,ac o,D];exact dD _
 by_cases L:E=k
 simp only[ac ok,ae L]at m;cases m;simp only[ac ok];exact dD _
 simp[ok,L]at m
 have l:=x.row k d (by simp[C]);rw[I]at l;simp only[ac C]at l;refine w S _ d (.inr ⟨rfl,rfl,?_⟩) ?_ l (λi B hid=>x.off i λE ok=>?_)
 have:=x.row 1000000 f (ae rfl);rw[this];show(if(1000000:Nat)=1000000 then(if(H 1000000).ver=1 then t else t+1)else(s.rw d).ver+1)<=t+1;rw[ae rfl];split<;>omega
 rw[x.sl,TH,lH,J];simp only[ac C,eW]
 by_cases h:E=1000000
 simp only[ae h]at ok;exact B (Option.some.inj ok).symm
 by_cases n:E=k
 simp only[ac h,ae n]at ok;exact hid (Option.some.inj ok).symm
 simp only[ac h,ac n]at ok;cases ok
theorem Wk.moveP[aw]{s:St}{j t v N M e sz d:Nat}{c:M0}{p p':PV}(hd:s.rw j=⟨v,.sli e sz l0 c⟩)(hjt:j≠t)(hjl:j<lent)(hN:(s.rw t).ver<N)(hM:v<=M)(hsl:s.sl d=p)(hp:∀(w:World)(E E':Env)(y:Value),E.R j=⟨v,.sli e sz l0 c⟩->E'.R t=⟨N,.sli e sz l0 c⟩->E'.rv t=E.rv j->Lasts w w E E'->Rep w E 0 p y->Rep w E' 0 p' y) :
 Wk s (((s.row j ⟨M,.dead⟩).row t ⟨N,.sli e sz l0 c⟩).put (n0 d) p'):=by
 intro G a w ⟨E,hs⟩
 have hRd:E.R j=⟨v,.sli e sz l0 c⟩:=by rw[hs.rw];exact hd
 have hRt:(E.R t).ver<N:=by rw[hs.rw];exact hN
 let R':S0:=fM (fM E.R j ⟨M,.dead⟩) t ⟨N,.sli e sz l0 c⟩
 let rm':Nat->Option Nat:=fM (fM E.rm j o0) t<|E.rm j
 let rv':Nat->Value:=fM E.rv t<|E.rv j
 let E':Env:={ R:=R',rm:=rm',rv:=rv',L:=Lf E.X R' rm',B:=E.B,X:=E.X }
 have Rt:E'.R t=⟨N,.sli e sz l0 c⟩:=aT _ _ _
 have Rj:E'.R j=⟨M,.dead⟩:=by show R' j=_;simp only[R'];rw[bu _ _ hjt,aT]
 have Ro:∀i,i≠j->i≠t->E'.R i=E.R i:=λi h1 h2=>by show R' i=_;simp only[R'];rw[bu _ _ h2,bu _ _ h1]
 have Mt:E'.rm t=E.rm j:=aT _ _ _
 have Mj:E'.rm j=none:=by show rm' j=_;simp only[rm'];rw[bu _ _ hjt,aT]
 have Mo:∀i,i≠j->i≠t->E'.rm i=E.rm i:=λi h1 h2=>by show rm' i=_;simp only[rm'];rw[bu _ _ h2,bu _ _ h1]
 have Vt:E'.rv t=E.rv j:=aT _ _ _
 have Vo:∀i,i≠t->E'.rv i=E.rv i:=λi h=>bu _ _ h
 have hL:∀b,E'.L b->E.L b:=by
  intro b h;rw[hs.wok.live];rcases h with⟨i,h1,h2⟩|hX;rotate_left
  ·exact .inr hX
  refine .inl ?_;have h1:E'.rm i=n0 b:=h1;have h2:(E'.R i).kind.live=true:=h2;by_cases it:i=t
  ·subst it;rw[Mt]at h1;exact⟨j,h1,by rw[hRd];rfl⟩
  ·by_cases ij:i=j
   ·subst ij;rw[Mj]at h1;cases h1
   ·rw[Mo i ij it]at h1;rw[Ro i ij it]at h2;exact⟨i,h1,h2⟩
 have hl:Lasts w w E E':=by
  refine⟨λb _ h=>⟨rfl,λh'=>h<|hL b h'⟩,λi=>?_,λi he hs'=>?_,λi he hs'=>?_,ab _⟩
  all_goals
   by_cases it:i=t
   ·subst it
    first
     | (rw[Rt];exact dY hRt)
     | (rw[Rt]at he;have he:N=(E.R i).ver:=he;omega)
   ·by_cases ij:i=j
    ·subst ij
     first
      | (rw[Rj,hRd];exact hM)
      | (rw[Rj]at hs';cases hs')
    ·first
      | (rw[Ro i ij it];exact ab _)
      | (rw[Ro i ij it]at hs';exact⟨hs',Vo i it⟩)
      | (rw[Ro i ij it]at hs';exact⟨hs',Mo i ij it⟩)
 have hwok:WOk G E' w:=by
  refine⟨λi=>?_,λi i' b n1 n2 e1 e2=>?_,λb=>mV,λi hn=>?_,hs.wok.base,hs.wok.xs,hs.wok.fx,λi b hn hb=>?_,hs.wok.kept,λi=>?_⟩
  ·by_cases it:i=t
   ·subst it;have hrow:=hs.wok.rows j;unfold cn at hrow ⊢;rw[hRd]at hrow;rw[Rt,Mt,Vt];rcases hrow with h|⟨b,n,cap,vs,rest,h1,h2,h3,h4,h5,h6,h7,h8,h9⟩
    ·exact .inl h
    ·refine .inr ⟨b,n,cap,vs,rest,h1,?_,h3,h4,h5,h6,h7,h8,h9.mono hl.bare<|ab _⟩;rcases h2 with h2|h2
     ·exact .inl h2
     ·exact absurd h2.1 om
   ·by_cases ij:i=j
    ·subst ij;unfold cn;rw[Rj];trivial
    ·have hrow:=hs.wok.rows i;unfold cn at hrow ⊢;rw[Ro i ij it,Mo i ij it,Vo i it];cases hkd:(E.R i).kind with
     | mp f=>simpa only[hkd]using hrow
     | dead=>trivial
     | nil=>simpa only[hkd]using hrow
     | box t cells =>simp only[hkd]at hrow ⊢;have⟨b,vs,h1,h2,h3,h4⟩:=hrow;exact⟨b,vs,h1,h2,h3,h4.mono hl<|ab _⟩
     | sli e sz fz cells =>
       simp only[hkd]at hrow ⊢;rcases hrow with h|⟨b,n,cap,vs,rest,h1,h2,h3,h4,h5,h6,h7,h8,h9⟩
       ·exact .inl h
       ·exact .inr ⟨b,n,cap,vs,rest,h1,h2,h3,h4,h5,h6,h7,h8,h9.mono hl.bare<|ab _⟩
     | tab e cells =>
       simp only[hkd]at hrow ⊢;rcases hrow with h|⟨b,n,cap,vs,rest,h1,h2,h3,h4,h5,h6,h7,h8,h9⟩
       ·exact .inl h
       ·exact .inr ⟨b,n,cap,vs,rest,h1,h2,h3,h4,h5,h6,h7,h8,h9.mono hl<|ab _⟩
  ·have back:∀i b,(E'.R i).kind.nd=true->E'.rm i=n0 b->(E.R<|if i=t then j else i).kind.nd=true/\E.rm (if i=t then j else i)=n0 b/\i≠j:=by
    intro i b hn hm;by_cases it:i=t
    ·subst it;rw[ae rfl];rw[Mt]at hm;exact⟨by rw[hRd];rfl,hm,Ne.symm hjt⟩
    ·rw[ac it];have ij:i≠j:=λe=>by subst e;rw[Mj]at hm;cases hm
     rw[Mo i ij it]at hm;exact⟨by rw[<- Ro i ij it];exact hn,hm,ij⟩
   have⟨a1,a2,a3⟩:=back i b n1 e1;have⟨b1,b2,b3⟩:=back i' b n2 e2;have:=hs.wok.inj _ _ b a1 b1 a2 b2;by_cases it:i=t
   ·by_cases it2:i'=t
    ·rw[it,it2]
    ·rw[ae it,ac it2]at this;exact absurd this.symm b3
   ·by_cases it2:i'=t
    ·rw[ac it,ae it2]at this;exact absurd this a3
    ·rw[ac it,ac it2]at this;exact this
  ·by_cases it:i=t
   ·subst it;rw[Rt];exact bD (aB _) hRt
   ·by_cases ij:i=j
    ·subst ij;rw[Rj]at hn;cases hn
    ·rw[Ro i ij it]at hn ⊢;exact hs.wok.pos i hn
  ·by_cases it:i=t
   ·subst it;rw[Mt]at hb;exact hs.wok.apart j b (by rw[hRd];rfl) hb
   ·by_cases ij:i=j
    ·subst ij;rw[Mj]at hb;cases hb
    ·rw[Mo i ij it]at hb;rw[Ro i ij it]at hn;exact hs.wok.apart i b hn hb
  ·have⟨p1,p2⟩:=hs.wok.pin i;by_cases it:i=t
   ·subst it;rw[Rt];exact⟨aJ p1<|dY hRt,λh=>by have h:N=(G.pR i).ver:=h;omega⟩
   ·by_cases ij:i=j
    ·subst ij;rw[Rj];rw[hRd]at p1;exact⟨aJ p1 hM,λh h'=>by cases h'⟩
    ·rw[Ro i ij it,Mo i ij it,Vo i it];exact⟨p1,p2⟩
 refine⟨E',?_,hwok,hs.size,hs.defers,λi=>?_⟩
 ·show R'=_;simp only[R',hs.rw];rfl
 ·by_cases hid:i=d
  ·subst hid;rw[cF];have h:=hs.slots i;rw[hsl]at h;exact hp w E E' _ hRd Rt Vt hl h
  ·rw[da _ _ _ _ hid];exact(hs.slots i).mono hl<|ab _
theorem GX[aw]{w:World}{E a:Env}{t v N e b:Nat}(d:E.R j=⟨v,.sli e b l0 c⟩)(f:a.R t=⟨N,.sli e b l0 c⟩)(g:a.rv t=E.rv j)(h:Rep w E 0 (.own j v) y):Rep w a 0 (.own t N) y:=by
 cases h with
 | own k i =>refine .own (by grind) λ_ _=>?_;grind
theorem Wk.move[aw]{s:St}{j t v N M e m d:Nat}(o:s.rw j=⟨v,.sli e m l0 c⟩)(f:j≠t)(g:j<lent)(p:(s.rw t).ver<N)(q:v<=M)(i:s.sl d=.tup [.own j v,.v y]) :
 Wk s (((s.row j ⟨M,.dead⟩).row t ⟨N,.sli e m l0 c⟩).put (n0 d) (.tup [.own t N,.v y])):=by
 refine Wk.moveP o f g p q i λw E C x r u z A h=>?_
 cases h with
 | @tup _ _ _ D l B =>
   refine .tup l λk a b=>?_
   have n:=B k (ss a) b
   rcases k with _|_|k
   exact GX r u z n
   exact n.mono A<|ab _
   grind
theorem Wk.moveS[aw]{s:St}{j t v N M e g d:Nat}(i:s.rw j=⟨v,.sli e g l0 c⟩)(a:j≠t)(b:j<lent)(k:(s.rw t).ver<N)(l:v<=M)(f:s.sl d=.own j v) :
 Wk s (((s.row j ⟨M,.dead⟩).row t ⟨N,.sli e g l0 c⟩).put (n0 d) (.own t N)) :=
 Wk.moveP i a b k l f λ_ _ _ _ m n o _ h=>GX m n o h
theorem Wk.killAt[aw]{s:St}{j M:Nat}(hM:(s.rw j).ver<=M):Wk s (s.row j ⟨M,.dead⟩):=by
 intro G a w ⟨E,hs⟩;have hRj:(E.R j).ver<=M:=by rw[hs.rw];exact hM
 have Rj:fM E.R j ⟨M,.dead⟩ j=⟨M,.dead⟩:=aT _ _ _;have Ro:∀i,i≠j->fM E.R j ⟨M,.dead⟩ i=E.R i:=λi h=>bu _ _ h;have ht:Turn G E { R:=fM E.R j ⟨M,.dead⟩,rm:=E.rm,rv:=E.rv,L:=Lf E.X (fM E.R j ⟨M,.dead⟩) E.rm,B:=E.B,X:=E.X } w w (·=j):=by
  refine⟨rfl,rfl,rfl,λi hi=>⟨Ro i hi,rfl,rfl⟩,λ_ _ _=>rfl,λi b hD _ hnd=>?_,λi hD=>?_,λi hD he h=>?_,λi hD he h=>?_,λi hD hnd=>?_,λi i' b hD hD' h1 _ _ _=>?_,ab _,rfl,rfl,⟨rfl,λ_=>sp⟩⟩
  all_goals subst hD
  ·have hnd:(fM E.R i _ i).kind.nd=true:=hnd;rw[Rj]at hnd;cases hnd
  grind
  ·have h:(fM E.R i ⟨M,.dead⟩ i).kind.slice=true:=h;rw[Rj]at h;cases h
  ·have h:(fM E.R i ⟨M,.dead⟩ i).kind.nd=true:=h;rw[Rj]at h;cases h
  ·have hnd:(fM E.R i ⟨M,.dead⟩ i).kind.nd=true:=hnd;rw[Rj]at hnd;cases hnd
  omega
 have hrows:∀i,i=j->cn w { R:=fM E.R j ⟨M,.dead⟩,rm:=E.rm,rv:=E.rv,L:=Lf E.X (fM E.R j ⟨M,.dead⟩) E.rm,B:=E.B,X:=E.X } G.C i:=λi hi=>by
  simp_all[cn,Rj]
 have key:=ht.sim hs hrows;have e:({ s with rw:=fM E.R j ⟨M,.dead⟩ }:St)=s.row j ⟨M,.dead⟩:=by rw[hs.rw];rfl
 rw[e]at key;exact⟨_,key⟩
theorem St.ext2{a b:St}(c:∀i,a.sl i=b.sl i)(d:∀i,a.rw i=b.rw i):a=b:=by
 cases a;congr 1;grind;grind
def VO(e:Nat)(out:M0)(ok:Bool):RV:=.tup [.fr e 1 out,.im (.v (.bool ok))]
theorem zlR[aw](s:St)(d e:Nat)(out:M0)(ok:Bool):br s d (VO e out ok)=(s.row d ⟨(s.rw d).ver+1,.sli e 1 l0 out⟩).put (n0 d) (.tup [.own d ((s.rw d).ver+1),.v (.bool ok)]):=by simp[br,VO,leaves];rfl
theorem Ny(s:St)(j:Nat):s.killed j []=s.row j ⟨(s.rw j).ver+1,.dead⟩:=by unfold St.killed St.row dZ zlV;grind
theorem zc8[aw]{s:St}{ok:Call}{m e d:Nat}{p head out:M0}{l:M0}(Y:o.op=.call ok)(Z:ok.callee=.value f)(q:o.dst=n0 d)(hd:d<G.n)(C:s.ev f=.clo g l)(h:AF P g c head e out a)(B:ok.args.toList.map s.ev++l=p++[.own j m])(hq:zlQ c p)(R:s.rw j=⟨m,.sli e 1 l0 head⟩)(hp:plain head)(n:d≠j)(D:j<lent) :
 fF P G s o (br (s.killed j []) d (VO e out a)):=by
 intro A w hs K' Q hK
 refine yQ (K:=λS=>Wk S _) Y Z (λy U=>by grind) ?_ hs λs1 V W hw E=>hK V W (hw G V W E)
 rw[C]
 show askG P s g _ o.dst _
 rw[B,q]
 refine h.askG (λF R0=>hq F _ R0 _) R hp n λS v r hr z u x=>?_
 rw[zlR,Ny]
 have H:(s.rw j).ver=m:=by rw[R]
 have I:((s.row j ⟨(s.rw j).ver+1,.dead⟩).rw d)=s.rw d:=bu _ _ n
 rw[I,H]
 rcases hr with⟨rfl,X,J⟩|⟨rfl,rfl,X⟩
 have L:=Wk.move (s:=S) (t:=d) (M:=m+1) (d:=d) u (Ne.symm n) D (by rw[J];exact dD _) om (by rw[z,cF]);have O:(((s.row r ⟨m+1,.dead⟩).row d ⟨(s.rw d).ver+1,.sli e 1 l0 out⟩).put (n0 d) (.tup [.own d ((s.rw d).ver+1),.v (.bool a)]))=(((S.row r ⟨m+1,.dead⟩).row d ⟨(s.rw d).ver+1,.sli e 1 l0 out⟩).put (n0 d) (.tup [.own d ((s.rw d).ver+1),.v (.bool a)])):=by refine St.ext2 (λi=>?_) λi=>?_;by_cases k:i=d;subst k;rw[cF,cF];rw[da _ _ _ _ k,da _ _ _ _ k];show s.sl i=S.sl i;rw[z,da _ _ _ _ k];show fM (fM s.rw r _) d _ i=fM (fM S.rw r _) d _ i;by_cases k:i=d;subst k;rw[aT,aT];rw[bu _ _ k,bu _ _ k];by_cases b:i=r;subst b;rw[aT,aT];simp_all[bu,x]
 rw[O];exact L
 have L:=Wk.killAt (s:=S) (j:=j) (M:=m+1) X;have O:(((s.row j ⟨m+1,.dead⟩).row r ⟨(s.rw r).ver+1,.sli e 1 l0 out⟩).put (n0 r) (.tup [.own r ((s.rw r).ver+1),.v (.bool a)]))=S.row j ⟨m+1,.dead⟩:=by refine St.ext2 (λi=>?_) λi=>?_;show _=S.sl i;rw[z];rfl;show fM (fM s.rw j _) r _ i=fM S.rw j _ i;by_cases k:i=r;subst k;rw[aT,bu _ _ n,u];rw[bu _ _ k];by_cases b:i=j;subst b;rw[aT,aT];simp_all[bu,x]
 rw[O];exact L
theorem zpJ[aw]{T:gg}{s:St}{t e:TypeId}{y:Operand}{k d:Nat}{kk:IntKind}{m:Int}(Y:T.Ok P)(Z:o.op=.slice t f o0 (n0 y) o0)(l:o.dst=n0 j)(hd:j<G.n)(M:s.ev f=.own k d)(B:s.rw k=⟨d,.sli e 1 l0 c⟩)(N:0<(T t).size)(O:(T t).k=.sli e)(R:0<(T e).size)(S:(T e).size=1)(hy:s.ev y=.v (.int kk m))(h0:0<=m)(hm:m<=(lh c:Int)) :
 fF P G s o ((s.row k ⟨d+1,.sli e 1 l0 (c.take m.toNat)⟩).put (n0 j) (.own k (d+1))):=by
 intro a w q K' Q hK
 have⟨E,q⟩:=q
 have hR:=q.rw
 have g:E.R k=⟨d,.sli e 1 l0 c⟩:=by rw[hR];exact B
 have C:=dE q.slots f
 rw[M]at C
 have D:=dE q.slots y
 rw[hy]at D
 have F:=D.v_eq
 have H:a.eval f=E.rv k:=by cases C with|own hv M=>exact M (by rw[g])<|by rw[g];rfl
 have hf:=(Y t N).k
 rw[O]at hf
 have hu:P.underlying t=n0 (.slice e):=hf
 have x:=fQ (Y e R) w
 rw[S]at x
 have r:=q.wok.rows k
 unfold cn at r
 rw[g]at r
 have I:∀v:Value,(execOp a.eval o).run P w=.ok (.value v) w->(Lasts w w E _->cn w _ G.C k)->o.wp P a w K' Q:=λv J hr=>by
  have u:OneTurn E w w k ⟨d+1,.sli e 1 l0<|c.take m.toNat⟩ (E.rm k) v :=
   ⟨λ_ _ _=>rfl,λb z _=>.inr ⟨z,by rw[g];rfl,λ_=>by rw[g];rfl⟩,by rw[g];exact cK _,λh=>by rw[g]at h;simp at h,λh=>by rw[g]at h;simp at h,λ_=>jG _,ab _,rfl,rfl,⟨rfl,λ_=>by first|exact ab _|exact cK _⟩⟩
  refine uH (fz:=[]) (p:=.own k (d+1)) q J u sp hr ?_ (by simp[l,hd])<|λa' w' h=>hK a' w' ?_;exact .own (by simp[Env.turn,aT]) λ_ _=>by simp[Env.turn,aT]
  rw[St.freeze_nil,l]at h;exact h
 have a1:((m.toNat:Nat):Int)=m:=om
 rcases r with⟨U,V,W⟩|⟨b,n,cap,L,K,U,V,W,g4,g5,g6,g7,g8,g9⟩
 subst W;have X:m=0:=by simp at hm;omega
 subst X;refine I (.slice o0 0 0) ?_ λhl=>?_
 have z:(Instr.sliceBounds true 0 0 o0 (n0<|.int kk 0) o0).run P w=.ok (0,0,0) w:=by simp[Instr.sliceBounds,run_sliceBound]
 simp[execOp,Z,H,V,F,Instr.sliceAt,run_underlying hu,Instr.slice,z,x]
 unfold cn;simp only[Env.turn,aT];exact .inl ⟨U,trivial,sp⟩
 have a2:lh c=lh L:=g9.1;have A:m<=(cap:Int):=om;refine I (.slice (n0 ⟨b,0,o0⟩) m.toNat cap) ?_ λhl=>?_
 have z:(Instr.sliceBounds true n cap o0 (n0<|.int kk m) o0).run P w=.ok (0,m.toNat,cap) w:=by simp[Instr.sliceBounds,run_sliceBound,h0,A]
 simp[execOp,Z,H,W,F,Instr.sliceAt,run_underlying hu,Instr.slice,z,x,oN]
 unfold cn;simp only[Env.turn,aT];have a0:m.toNat<=lh L:=om;refine .inr ⟨b,m.toNat,cap,L.take m.toNat,L.drop m.toNat++K,U,V,rfl,by rw[<- cP,lV];exact g4,by simp;omega,om,g7,by rw[<- cP,lV];exact g8,?_⟩;have h9:=g9.mono hl.bare<|ab _;refine⟨by simp;omega,λi ha z=>?_⟩;rw[mc,mc];exact h9.2 i (by simp at ha;omega)<|by simp at z;omega
end Go.Abs
