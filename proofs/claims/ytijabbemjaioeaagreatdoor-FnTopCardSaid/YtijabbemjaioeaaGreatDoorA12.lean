/- DERIVED by an AI agent. -/
import Derived.Test.YtijabbemjaioeaaGreatDoorA11
set_option linter.all false
namespace Go.Abs
open Bool renaming false→l0
open List renaming range→lc,replicate→ld,getD→lg,length→lh
theorem SimE.nilRow[aw]{G:Ghost}{E:Env}{s:St}{a:Act}{w:World}(hs:SimE G E s a w)(k e:Nat) :
 ∃E',SimE G E' (s.row k ⟨(s.rw k).ver+1,.sli e 1 l0 []⟩) a w/\Rep w E' 0 (.own k ((s.rw k).ver+1)) (.slice none 0 0):=by
 have h:=(uJ (k:=k) (kd:=.sli e 1 l0 []) (m:=none) (v:=.slice none 0 0) (Ext.refl w)<|λb h=>by grind).sim hs (λj hj=>by simp_all[cn,Env.row,aT])
 have e1:({ s with rw:=(E.row k ⟨(E.R k).ver+1,.sli e 1 l0 []⟩ none<|.slice none 0 0).R })=s.row k ⟨(s.rw k).ver+1,.sli e 1 l0 []⟩:=by show({ s with rw:=fM E.R k _ })=_;rw[hs.rw];rfl
 rw[e1]at h
 refine⟨_,h,.own ?_ λ_ _=>?_⟩
 simp[Env.row,aT,hs.rw]
 simp[Env.row,aT]
theorem Wk.nilBox[aw]{s:St}{j v t o:Nat}{c:M0}(k e:Nat)(hj:s.rw j=⟨v,.box t c⟩)(ho:c[o]?=some (.v (.slice none 0 0)))(hjk:j≠k):Wk s ((s.row k ⟨(s.rw k).ver+1,.sli e 1 l0 []⟩).row j ⟨v,.box t (c.set o (.own k ((s.rw k).ver+1)))⟩):=by
 intro G a w ⟨E,hs⟩;have⟨E',h,hr⟩:=hs.nilRow k e;have hRj:E'.R j=⟨v,.box t c⟩:=by rw[h.rw];show(if j=k then _ else s.rw j)=_;rw[ac hjk,hj]
 let E3:Env:={ R:=fM E'.R j ⟨v,.box t (c.set o (.own k ((s.rw k).ver+1)))⟩,rm:=E'.rm,rv:=E'.rv,L:=Lf E'.X (fM E'.R j ⟨v,.box t (c.set o (.own k ((s.rw k).ver+1)))⟩) E'.rm,B:=E'.B,X:=E'.X };have ht:Turn G E' E3 w w (·=j):=by refine⟨rfl,rfl,rfl,λi hi=>⟨bu _ _ hi,rfl,rfl⟩,λ_ _ _=>rfl,λi b hi hb _=>?_,λi hi=>?_,λi hi _ hsl=>?_,λi hi _ _=>?_,λi hi _=>?_,λi i' b hi hi' _ _ _ _=>by rw[hi,hi'],ab _,rfl,rfl,⟨rfl,λ_=>by first|exact ab _|exact cK _⟩⟩;subst hi;exact .inr ⟨hb,by rw[hRj];rfl,λ_=>by rw[hRj];rfl⟩;subst hi;show _<=(fM E'.R i _ i).ver;rw[aT,hRj];exact ab _;subst hi;have:(fM E'.R i ⟨v,.box t (c.set o (.own k ((s.rw k).ver+1)))⟩ i).kind.slice=true:=hsl;rw[aT]at this;cases this;subst hi;exact⟨by rw[hRj];rfl,rfl⟩;subst hi;show 0<(fM E'.R i _ i).ver;rw[aT];have:=h.wok.pos i (by rw[hRj];rfl);rw[hRj]at this;exact this
 have hl:=ht.lasts h.wok;have hrows:∀i,i=j->cn w E3 G.C i:=λi hi=>by
  subst hi;have hrow:=h.wok.rows i;unfold cn at hrow ⊢;rw[hRj]at hrow;have⟨b,vs,h1,h2,h3,h4⟩:=hrow;show match (fM E'.R i ⟨v,.box t (c.set o (.own k ((s.rw k).ver+1)))⟩ i).kind with|.dead=>True|.nil=>_|.box t cells=>_|.sli e sz _ cells=>_|.tab e cells=>_|.mp f=>_
  rw[aT];refine⟨b,vs,h1,h2,h3,by simp[h4.1],λx a' b'=>?_⟩;have hx:x<lh c:=ss a';rw[fd];by_cases hxo:o=x;subst hxo;rw[ae rfl];have h0:=h4.2 o hx b';have:c[o]=.v (.slice none 0 0):=by have:=List.getElem?_eq_some_iff.1 ho;exact this.2
  rw[this]at h0;rw[h0.v_eq];exact hr.mono hl (ab _);rw[ac hxo];exact(h4.2 x hx b').mono hl (ab _)
 have key:=ht.sim h hrows;have e1:({ (s.row k ⟨(s.rw k).ver+1,.sli e 1 l0 []⟩)with rw:=E3.R }:St)=(s.row k ⟨(s.rw k).ver+1,.sli e 1 l0 []⟩).row j ⟨v,.box t (c.set o (.own k ((s.rw k).ver+1)))⟩:=by show({ (s.row k ⟨(s.rw k).ver+1,.sli e 1 l0 []⟩)with rw:=fM E'.R j _ }:St)=_;rw[h.rw];rfl
 rw[e1]at key;exact⟨_,key⟩
section
variable {Q:AX->St->Prop}{s:St}{k e e2:Nat}
end
end Go.Abs

namespace Go.Abs
open Bool renaming false→l0
open List renaming range→lc,replicate→ld,getD→lg,length→lh
variable {b:M0}{f:FuncId}
variable {P:Program}{s:St}{K:St->Prop}
theorem zg4[aw]{a c head out lent:M0}{e:Nat}{ok:Bool}{q:RV->Prop}{j n d:Nat}{us:Dm s}{u:Dm K}(h:AF P f b head e out ok)(w:∀(o:Nat->Option Nat)(x:S0),GvL o (λi=>i≠j) x s.rw b a)(g:c=a++[.own j n])(y:s.rw j=⟨n,.sli e 1 l0 head⟩)(z:plain head)(p:d≠j)(A:∀(S:St)(v r:Nat),(r=j\/r=d)->S.sl d=.tup [.own r v,.v (.bool ok)]->S.rw r=⟨v,.sli e 1 l0 out⟩->(∀t,t≠d->S.sl t=s.sl t)->(∀i,i≠j->i≠d->S.rw i=s.rw i)->K S) :
 nn P f lent q (tS P f lent c (some d) (kk s us) (kk K u)):=by
 subst g
 have B:=h.askG w y z p λS v r C k l m=>by refine A S v r (C.imp (·.1) (·.1)) ?_ l (λt D=>?_) m;rw[k,cF];simp_all[k,da]
 exact .inr (.inr (.inr (.inr B)))
theorem AG.goW[aw]{P:Program}{T:gg}{fn:Func}{c:Code}{rs:List ResultVar}{d:S0}{post:(S0)->PV->Prop}(m:T.Ok P)(n:P.follows .mixedOrders=true)(e:P.funcs[f]?=some fn)(a:(fn.name == "runtime.NumGoroutine")=l0)(g:fn.body=some c)(o:fn.results.toList=rs)(args:(fits fn.ntmps c&&decide (lh b<=fn.ntmps)&&decide (lh fn.results.toList<=4))=true)(h:Kb b->(∀k,yD (d k).kind)->∀s:St,(∀i,s.sl i=lg b i .junk)->(∀k,s.rw k=d k)->∃j,Wk s j/\wC P T c (Qi T rs post) j):AG P f b d post:=by
 subst o
 refine⟨⟨fn,e,a,by grind⟩,λw M E vals p q l=>?_⟩
 exact(AG.ofW m n e a g args<|λr=>h (VI l) r _ (λ_=>rfl)<|λ_=>rfl).2 w M E _ p q l
end Go.Abs

namespace Go.Abs
open Bool renaming false→l0
open List renaming range→lc,replicate→ld,getD→lg,length→lh
variable {p:O0}{g:Nat}{c:M0}{D:Bool}
section
variable {G:Ghost}{s:St}{E:Env}{a:Act}{w:World}
def Env.kill(E:Env)(k:Nat)(p:O0):Env:={ R:=dZ E.R k p,rm:=E.rm,rv:=E.rv,L:=Lf E.X (dZ E.R k p) E.rm,B:=E.B,X:=E.X }
theorem SimE.kill[aw](hs:SimE G E s a w)(k:Nat)(p:O0):SimE G (E.kill k p) (s.killed k p) a w/\Lasts w w E (E.kill k p):=by
 have dead:∀j,BW k p j->(dZ E.R k p j).kind.nd=true->False:=λj hj h=>by rw[kj hj]at h;cases h
 have ht:Turn G E (E.kill k p) w w (BW k p):=by refine⟨rfl,rfl,rfl,λj hj=>⟨iS hj,rfl,rfl⟩,λ_ _ _=>rfl,λj b hD _ hnd=>(dead j hD hnd).elim,λj hD=>?_,λj hD he _=>?_,λj hD he _=>?_,λj hD hnd=>(dead j hD hnd).elim,λj j' b hD hD' h1 _ _ _=>(dead j hD h1).elim,ab _,rfl,rfl,⟨rfl,λ_=>sp⟩⟩;show _<=(dZ E.R k p j).ver;rw[kj hD];exact cK _;have he:(dZ E.R k p j).ver=(E.R j).ver:=he;rw[kj hD]at he;simp at he;have he:(dZ E.R k p j).ver=(E.R j).ver:=he;rw[kj hD]at he;simp at he
 have hrows:∀j,BW k p j->cn w (E.kill k p) G.C j:=λj hj=>by
  show match (dZ E.R k p j).kind with|.dead=>True|.nil=>_|.box t cells=>_|.sli e sz _ cells=>_|.tab e cells=>_|.mp f=>_
  rw[kj hj];trivial
 have key:SimE G _ ({ s with rw:=dZ E.R k p }:St) a w:=ht.sim hs hrows;have e:({ s with rw:=dZ E.R k p }:St)=s.killed k p:=by rw[hs.rw];rfl
 rw[e]at key;exact⟨key,ht.lasts hs.wok⟩
theorem UK[aw](d:SimE G E s a w){j b:Nat}(l:BW g p j)(k:(E.R j).kind.nd=true)(h:E.rm j=some b):¬(E.kill g p).L b:=by rintro(⟨i,e,c⟩|m);by_cases f:BW g p i;rw[kj f]at c;cases c;rw[iS f]at c;have:=d.wok.inj i j b (RK.nd_of_live c) k e h;grind;exact d.wok.apart j b k h<|d.wok.xs ▸ m
theorem zhI[aw](c:SimE G E s a w){b:Nat}(d:g<lent)(e:(E.R g).kind.nd=true)(f:E.rm g=some b):E.B<=b:=by
 rw[c.wok.base];rcases ((c.wok.block f e).2) with h|h
 grind;omega
theorem UL[aw](l:SimE G E s a w){j v e u:Nat}(F:BW g p j)(r:j<lent)(x:E.R j=⟨v,.sli e u D c⟩){m:Env}{k:Nat}{fr:Bool}(H:m.bare=(E.kill g p).bare)(I:m.L=(E.kill g p).L)(y:m.lo k fr=E.B):Rep w m k (.sl fr u c) (E.rv j):=by
 have d:=l.wok.rows j
 unfold cn at d
 rw[x]at d
 rcases d with⟨_,z,t⟩|⟨b,n,cap,h,A,B,z,t,K,L,M,N,P,o⟩
 subst t;rw[z];exact .sl (λ_=>default) sp (ab _) (aB _) (λi f=>absurd f sp)<|λi f=>absurd f sp
 rw[t];have C:(E.R j).kind.nd=true:=by rw[x];rfl
 refine .sl (λi=>lg h i default) (by rw[o.1,L]) M N (λi f=>⟨b,0,rfl,?_,?_,?_⟩)<|λi f=>?_
 rw[y];exact zhI l r C B
 rw[I];exact UK l F C B
 have q:i<lh h:=by rw[<- o.1];exact f
 simp[World.cell?,K,q,mC,lg]
 have q:i<lh h:=by rw[<- o.1];exact f
 have:=o.2 i f q;have O:lg h i default=h[i]:=by simp[lg,q]
 rw[O,H,y];exact this.mono ((l.kill g p).2).bare<|ab _
theorem zhJ[aw](k:Nat)(p:O0):(E.kill k p).lo 0 true=E.B:=Nat.zero_max _
theorem znI[aw](f:SimE G E s a w){j v e d:Nat}(h:BW g p j)(b:j<lent)(i:E.R j=⟨v,.sli e d D c⟩):Rep w (E.kill g p) 0 (.sl true d c) (E.rv j) :=
 UL f h b i rfl rfl<|zhJ g p
end
section
variable {s:St}{k v e e2 d:Nat}{q:O0}{M:fG}
theorem Wk.flatRow[aw](h:s.rw k=⟨v,.sli e g D c⟩)(n:k<lent)(o:s.sl d=.own k v):Wk s ((s.killed k []).put (some d) (.sl true g c)):=by
 intro G a w ⟨E,f⟩;have⟨b,q⟩:=f.kill k [];have j:E.R k=⟨v,.sli e g D c⟩:=by rwa[f.rw]
 refine⟨_,b.rw,b.wok,b.size,b.defers,λi=>?_⟩;by_cases hid:i=d;subst hid;rw[cF];have m:=f.slots i;rw[o]at m;cases m with
 | own r p =>rw[p (by rw[j])<|by rw[j];rfl];exact znI f (.inl rfl) n j
 rw[da _ _ _ _ hid];exact b.slots i
theorem Wk.recell[aw]{fr:Bool}{n:Nat}(f:s.sl d=.sl fr 1 (ld n (.v (.slice none 0 0)))):Wk s (s.put (some d) (.sl fr 1 (ld n (.sl l0 1 [])))):=by
 intro G a w ⟨E,c⟩;refine⟨E,c.rw,c.wok,c.size,c.defers,λi=>?_⟩;by_cases hid:i=d;subst hid;rw[cF];have e:=c.slots i;rw[f]at e;generalize a.tmps.getD i _=y at e ⊢;cases e with
 | sl g h j k l m =>refine .sl g (ss h) j k (λi b=>l i<|ss b) λi b=>?_;have:=m i<|ss b;simp[gz]at this ⊢;rw[this.v_eq];exact .sl (λ_=>default) sp (ab _) (aB _) (λi b=>absurd b sp)<|λi b=>absurd b sp
 rw[da _ _ _ _ hid];exact c.slots i
theorem Wk.flat[aw](h:TabI s.rw k v e e2 q M)(P:k<lent)(Q:∀j∈q,dq k j<lent)(R:s.sl d=.own k v):Wk s ((s.killed k q).put (some d) (.sl true 1 (M.map λr=>.sl l0 1 (iL r)))):=by
 intro G a w ⟨E,g⟩;have⟨l,hl⟩:=g.kill k q;have y:E.R k=⟨v,.tab e (cy k q)⟩:=by rw[g.rw];exact h.top
 refine⟨_,l.rw,l.wok,l.size,l.defers,λi=>?_⟩;by_cases hid:i=d;subst hid;rw[cF];have J:=g.slots i;rw[R]at J;cases J with
 | own u S =>
   rw[S (by rw[y]) (by rw[y];rfl)];have c:=g.wok.rows k;unfold cn at c;rw[y]at c;have m:=h.len;rcases c with⟨_,K,z⟩|⟨b,n,cap,o,L,l,K,z,U,h5,V,W,h8,N⟩
   have A:q=[]:=by simpa[cy]using z
   have X:M=[]:=aL (by rw[<- m,A];rfl);rw[X,K];exact .sl (λ_=>default) sp (ab _) (aB _) (λi p=>absurd p sp) (λi p=>absurd p sp);rw[z];have O:(E.R k).kind.nd=true:=by rw[y];rfl
   have B:lh o=lh M:=by rw[<- N.1,bP,m]
   refine .sl (λi=>lg o i default) (by simp;omega) V W (λi p=>⟨b,0,rfl,?_,UK g (.inl rfl) O l,?_⟩) (λi p=>?_);show max 0 E.B<=b;have:=zhI g P O l;omega;have u:i<lh o:=by rw[B];simpa using p
   simp[World.cell?,U,u,mC,lg];have x:i<lh M:=ss p;have u:i<lh o:=om;have f:i<lh q:=om;have Y:=N.2 i (by rw[bP];exact f) u;have Z:lg o i default=o[i]:=by simp[lg,u]
   rw[Z,aM];have c:=h.row x;have C:lg q i 0=q[i]:=by simp[lg,f]
   rw[C]at c;have t:E.R (dq k q[i])=⟨1,.sli e2 1 l0 (iL (lg M i []))⟩:=by rw[g.rw];exact c
   have D:lg M i []=M[i]:=by simp[lg,x]
   have F:Rep w E 0 (.own (dq k q[i]) 1) o[i]:=by simpa[cy]using Y
   cases F with
   | own _ H =>have I:BW k q (dq k q[i]):=.inr ⟨q[i],bx f,rfl⟩;rw[H (by rw[t]) (by rw[t];rfl),<- D];refine UL g I (Q _ (bx f)) t rfl rfl ?_;show max ((E.kill k q).lo 0 true) 0=E.B;rw[zhJ,Nat.max_zero]
 rw[da _ _ _ _ hid];exact l.slots i
end
section
variable {s:St}{k j v e e2 d:Nat}{Q:AX->St->Prop}
theorem znJ[aw]{g:Type}(B:s.rw j=⟨v,.sli e 1 l0 []⟩)(l:j<lent)(m:s.sl d=.own j v)(C:s.rw k=⟨0,.dead⟩)(D:∀i,s.rw (dq k i)=⟨0,.dead⟩)(n:(j%1000==k%1000)=l0)(I:g->St->Prop)(o:g->Nat)(y:g){b:(AX->St->Prop)->St->Prop}{u:Dm b}{w:Dm Q}(E:∀a,TabG a.rw k 1 e e2 0 []->(a.sl=(s.put (some d) (.own k 1)).sl)->(∀i,(i%1000==k%1000)=l0->i≠j->a.rw i=s.rw i)->I y a)(h:∀x z,I x z->b (AX.seq (np I o (o x)) Q) z):uA (kk b u) (kk Q w) s:=by
 have c:∀i,i%1000=k%1000->i≠j:=λi F e=>beq_eq_false_iff_ne.1 n<|om
 have⟨a,p,H,f,q⟩:=TabG.init (s:=(((s.row j ⟨v,.dead⟩).row k ⟨1,.sli e 1 l0 []⟩).put (some d)<|.own k 1)) (k:=k) (v:=1) (e:=e) e2 (by rw[iW,dw]) (λi=>by
  rw[iW,bZ _ _ _ _<|ig k i,bZ _ _ _ _<|c _<|gf k i];grind)
 refine⟨g,I,o,⟨y,a,(Wk.moveS (N:=1) B (Ne.symm<|c k rfl) l (by grind) (ab _) m).trans p,E a H ?_ λi A J=>?_⟩,h⟩
 rw[f];rfl
 rw[q i A,iW,bZ _ _ _ _<|λh=>(beq_eq_false_iff_ne.1 A)<|by rw[h],bZ _ _ _ _ J]
end
end Go.Abs

namespace Go.Abs
open Bool renaming false→l0
open List renaming range→lc,replicate→ld,getD→lg,length→lh
variable {P:Program}{a:M0}{f:FuncId}{i:Nat}
def HP(e e2:Nat)(M:fG)(r:N0)(k:Nat):Row:=if k=1000500 then⟨1,.sli e2 1 l0 (iL r)⟩else qM e e2 (M.map iL) k
def zbM(e e2:Nat)(M:fG)(r:N0)(a:S0)(p:PV):Prop :=
 ∃v,p=.own 1000000 v/\a 1000000=⟨v,.tab e (cy 1000000 (lc (lh M))++[.own 1000500 1])⟩/\a 1000500=⟨1,.sli e2 1 l0 (iL r)⟩/\∀i,i<lh M->a (dq 1000000 i)=⟨1,.sli e2 1 l0 (iL (lg M i []))⟩
def APu[aw](P:Program)(f:FuncId)(args:M0)(e e2:Nat)(M:fG)(r:N0):Prop:=AG P f args (HP e e2 M r) (zbM e e2 M r)
section
variable {e e2:Nat}{M:fG}{r:N0}
theorem zbN[aw](i:Nat):dq 1000000 i≠1000500:=λh=>by rw[fX]at h;omega
theorem qH[aw]:HP e e2 M r 1000000=⟨1,.tab e (cy 1000000 (lc (lh M)))⟩:=by have:=jj (e:=e) (e2:=e2) (rows:=M.map iL);rwa[aG]at this
theorem sC[aw](h:i<lh M):HP e e2 M r (dq 1000000 i)=⟨1,.sli e2 1 l0 (iL (lg M i []))⟩:=by rw[HP,ac<|zbN i,show dq 1000000 i=dq lent i from rfl,lY<|by grind,ko]
theorem De:HP e e2 M r 1000500=⟨1,.sli e2 1 l0 (iL r)⟩:=ae rfl
theorem zqT[aw](h:(HP e e2 M r i).kind.nd=true):i=1000500\/i=1000000\/∃k,k<lh M/\i=dq 1000000 k:=by unfold HP at h;split at h;grind;rcases yH h with h|⟨k,a,h⟩;exact .inr<|.inl h;exact .inr<|.inr ⟨k,by grind,h⟩
theorem APu.go[aw]{T:gg}{fn:Func}{c:Code}{rs:List ResultVar}(g:T.Ok P)(k:P.follows .mixedOrders=true)(l:P.funcs[f]?=some fn)(args:(fn.name == "runtime.NumGoroutine")=l0)(m:fn.body=some c)(n:fn.results.toList=rs)(b:(fits fn.ntmps c&&decide (lh a<=fn.ntmps)&&decide (lh fn.results.toList<=4))=true)(h:Kb a->∀s:St,(∀i,s.sl i=lg a i .junk)->(∀j,j<1000000->s.rw j=⟨0,.dead⟩)->s.rw 1000000=⟨1,.tab e (cy 1000000 (lc (lh M)))⟩->s.rw 1000500=⟨1,.sli e2 1 l0 (iL r)⟩ ->
  (∀i,i<lh M->s.rw (dq 1000000 i)=⟨1,.sli e2 1 l0 (iL (lg M i []))⟩)->wC P T c (Qi T rs (zbM e e2 M r)) s):APu P f a e e2 M r:=by
 refine AG.go g k l args m n b λo _ s p d=>h o s p (λj q=>?_) (by rw[d,qH]) (by rw[d,De]) λi t=>by rw[d,sC t]
 rw[d]
 rw[HP,ac om]
 exact VS q
theorem zeb[aw]{s:St}{K:St->Prop}{X D:M0}{Ka:RV->Prop}{d k h v vh:Nat}{us:Dm s}{u:Dm K}(hc:APu P f a e e2 M r)(hl:GvL (λj=>if j=1000500 then some h else yb k (lh M) j) (λ_=>False) (HP e e2 M r) s.rw a X)(O:TabH s.rw k v e e2 (lh M) M)(hr:s.rw h=⟨vh,.sli e2 1 l0 (iL r)⟩)(a0:(h%1000==k%1000)=l0)(hk:∀(S:St)(v':Nat),S.rw k=⟨v',.tab e (cy k (lc (lh M))++[.own h vh])⟩->S.rw h=⟨vh,.sli e2 1 l0 (iL r)⟩->S.sl d=.own k v'->(∀t,t≠d->S.sl t=s.sl t)->(∀i,S.rw (dq k i)=s.rw (dq k i))->(∀j,(j%1000==k%1000)=l0->S.rw j=s.rw j)->K S) :
 nn P f D Ka (tS P f D X (some d) (kk s us) (kk K u)):=by
 have U:=beq_eq_false_iff_ne.1 a0
 have hg:=O.give (Ln:=λ_=>False) λ_ h=>h.elim
 have a5:lh (M.map iL)=lh M:=aG _
 have Y:∀j x,yb k (lh M) j=some x->x≠h:=λj x q e=>by rcases pS q with⟨_,rfl⟩|⟨i,_,_,rfl⟩;exact U (by rw[e]);exact U (by rw[<- e,gf])
 have G:GvL (λj=>if j=1000500 then some h else yb k (lh M) j) (λ_=>False) (HP e e2 M r) s.rw (cy lent (lc (lh M))) (cy k (lc (lh M))):=by
  have:∀l:O0,(∀j∈l,j<lh M)->GvL (λj=>if j=1000500 then some h else yb k (lh M) j) (λ_=>False) (HP e e2 M r) s.rw (cy lent l) (cy k l):=by
   intro l;induction l with
   | nil=>intro _;exact .nil
   | cons j l ih =>intro Q;have w:=Q j sp;refine .one (.own ?_ ?_ ?_ ?_) (ih λx q=>Q x (by simp[q]));show(if dq 1000000 j=1000500 then _ else _)=_;rw[ac (zbN j)];exact uQ k w;exact cV Row.ver (sC w);rw[O.row j w];show(HP e e2 M r (dq 1000000 j)).kind.slice=true;rw[sC w];rfl
  exact this _ λj Q=>List.mem_range.1 Q
 refine KT hc _ _ hl ⟨λj Q=>?_,λj E i n1 n2 w g=>?_,λ_ _ _ _ h=>h⟩ λR1 p⟨Z,hp,H,I,A⟩=>?_
 rcases zqT Q with rfl|rfl|⟨i,m,rfl⟩
 refine⟨dc,by rw[De];exact Nat.one_pos,h,ae rfl,?_⟩;rw[De,hr];exact⟨rfl,rfl,rfl,dJ _⟩
 refine⟨ab _,by rw[qH];exact Nat.one_pos,k,?_,?_⟩
 show(if(1000000:Nat)=1000500 then _ else _)=_;rw[ac dc];exact uP _ _
 rw[qH];rcases O.top with V|⟨h0,V⟩
 rw[V];exact⟨rfl,G⟩
 rw[V];exact⟨rfl,rfl,by rw[h0];rfl,rfl⟩
 refine⟨dY (yG i).1,by rw[sC m];exact Nat.one_pos,dq k i,?_,?_⟩
 show(if dq 1000000 i=1000500 then _ else _)=_;rw[ac (zbN i)];exact uQ k m
 rw[sC m,O.row i m];exact⟨rfl,rfl,rfl,dJ _⟩
 have w:(if j=1000500 then some h else yb k (lh M) j)=some i:=w;have g:(if E=1000500 then some h else yb k (lh M) E)=some i:=g;by_cases args:j=1000500
 by_cases b:E=1000500
 rw[args,b]
 rw[ae args]at w;rw[ac b]at g;cases w;exact absurd rfl (Y _ _ g)
 by_cases b:E=1000500
 rw[ac args]at w;rw[ae b]at g;cases g;exact absurd rfl (Y _ _ w)
 rw[ac args]at w;rw[ac b]at g;rcases pS w with⟨J,C⟩|⟨x,_,J,C⟩<;>rcases pS g with⟨L,n⟩|⟨y,_,L,n⟩
 rw[J,L]
 rw[C]at n;exact absurd n.symm (ig k y)
 rw[C]at n;exact absurd n (ig k x)
 rw[C]at n;have:=iZ n;subst this;rw[J,L]
 subst hp;let o:Nat->Option Nat:=λj=>if j=1000500 then some h else yb k (lh M) j
 let F:T0:=λj=>if j=1000000 then(if Z=1 then v else v+1)else if j=1000500 then vh else 1
 have rT:o 1000000=some k:=by show(if(1000000:Nat)=1000500 then _ else _)=_;rw[ac dc];exact uP _ _
 have rH:o 1000500=some h:=ae rfl;have rR:∀i,i<lh M->o (dq 1000000 i)=some (dq k i):=λi m=>by show(if dq 1000000 i=1000500 then _ else _)=_;rw[ac (zbN i)];exact uQ k m
 have nT:F 1000000=if Z=1 then v else v+1:=ae rfl
 have nH:F 1000500=vh:=by show(if(1000500:Nat)=1000000 then _ else _)=_;rw[ac dc,ae rfl]
 have nR:∀i,F (dq 1000000 i)=1:=λi=>by show(if dq 1000000 i=1000000 then _ else if dq 1000000 i=1000500 then _ else _)=_;rw[ac (λe=>by rw[fX]at e;omega),ac (zbN i)]
 have c:∀j x,o j=some x->(j=1000500/\x=h)\/(j=1000000/\x=k)\/∃i,i<lh M/\j=dq 1000000 i/\x=dq k i:=λj x q=>by have q:(if j=1000500 then some h else yb k (lh M) j)=some x:=q;by_cases args:j=1000500;rw[ae args]at q;cases q;exact .inl ⟨args,rfl⟩;rw[ac args]at q;exact .inr (pS q)
 refine⟨o,F,l0,⟨λj _=>rfl,λj E x w g=>?_,λj x q N B=>?_,λj x q N=>?_,λh=>by cases h⟩,λS R=>?_⟩
 rcases c j x w with⟨J,C⟩|⟨J,C⟩|⟨i,m,J,C⟩<;>rcases c E x g with⟨L,n⟩|⟨L,n⟩|⟨i',a6,L,n⟩
 rw[J,L]
 exact absurd (by rw[<- C,n]) U
 exact absurd (by rw[<- C,n,gf]) U
 exact absurd (by rw[<- C,n]) (Ne.symm U)
 rw[J,L]
 rw[C]at n;exact absurd n.symm (ig k i')
 exact absurd (by rw[<- n,C,gf]) U
 rw[C]at n;exact absurd n (ig k i)
 rw[C]at n;have:=iZ n;subst this;rw[J,L]
 rcases c j x q with⟨rfl,rfl⟩|⟨rfl,rfl⟩|⟨i,m,rfl,rfl⟩
 rw[nH,hr]
 rw[H,qH]at B;have B:Z=1:=B;rw[nT,ae B,O.ver]
 rw[nR,O.row i m]
 rcases c j x q with⟨rfl,rfl⟩|⟨rfl,rfl⟩|⟨i,m,rfl,rfl⟩
 have B:=N (by rw[De];rfl);rw[I,De]at B;exact absurd rfl B
 have B:=N (by rw[qH];rfl);rw[H,qH]at B;have B:¬Z=1:=B;rw[nT,ac B,O.ver];omega
 have B:=N (by rw[sC m];rfl);rw[A i m,sC m]at B;exact absurd rfl B
 have W:(cy 1000000 (lc (lh M))++[PV.own 1000500 1]).map (ren1 o R1 F l0)=cy k (lc (lh M))++[.own h vh]:=by
  rw[cq];congr 1;refine bE (by simp[cy]) λi args b=>?_;have m:i<lh M:=by simpa[cy]using args
  simp only[aM,cy,bG];have:=lH o R1 F l0 (dq 1000000 i) 1;rw[rR i m,A i m]at this;simp only[du,nR]at this;exact this;have:=lH o R1 F l0 1000500 1;rw[rH,I]at this;simp only[du,nH]at this;exact cV (λz=>[z]) this
 refine hk S (F 1000000) ?_ ?_ ?_ (λt a3=>?_) (λi=>?_) λj Q=>?_
 rw[R.row 1000000 k rT,H];show(⟨F 1000000,.tab e _⟩:Row)=_;rw[W]
 rw[R.row _ _ rH,I,nH];rfl
 rw[R.sl];show(s.put (some d) _).sl d=_;rw[cF];have:=lH o R1 F l0 1000000 Z;rw[rT,H]at this;simp only[du]at this;exact this
 rw[R.sl,da _ _ _ _ a3]
 by_cases m:i<lh M
 rw[R.row _ _ (rR i m),A i m,nR,O.row i m];rfl
 refine R.off _ λE q=>?_;rcases c E _ q with⟨_,g⟩|⟨_,g⟩|⟨x,a4,_,g⟩
 exact U (by rw[<- g,gf])
 exact ig k i g
 have:=iZ g;omega
 by_cases e:j=h
 subst e;rw[R.row _ _ rH,I,nH,hr];rfl
 refine R.off j λE q=>beq_eq_false_iff_ne.1 Q ?_;rcases c E _ q with⟨_,g⟩|⟨_,g⟩|⟨x,a4,_,g⟩
 exact absurd g e
 rw[g]
 rw[g,gf]
end
end Go.Abs

namespace Go.Abs
open Bool renaming false→l0
open List renaming range→lc,replicate→ld,getD→lg,length→lh
variable {a:(AX->St->Prop)->St->Prop}{m:Nat}
theorem Wk.moveB[aw]{s:St}{j t v N M e sz b vb tb o:Nat}{c cb:M0}(hd:s.rw j=⟨v,.sli e sz l0 c⟩)(hjt:j≠t)(hjl:j<lent)(hN:(s.rw t).ver<N)(hM:v<=M)(hb:s.rw b=⟨vb,.box tb cb⟩)(ho:cb[o]?=some (.own j v))(hbj:b≠j)(hbt:b≠t) :
 Wk s (((s.row j ⟨M,.dead⟩).row t ⟨N,.sli e sz l0 c⟩).row b ⟨vb,.box tb (cb.set o (.own t N))⟩):=by
 intro G a w ⟨E,hs⟩
 have hRd:E.R j=⟨v,.sli e sz l0 c⟩:=by rw[hs.rw];exact hd
 have hRt:(E.R t).ver<N:=by rw[hs.rw];exact hN
 have hRb:E.R b=⟨vb,.box tb cb⟩:=by rw[hs.rw];exact hb
 let R':S0:=fM (fM (fM E.R j ⟨M,.dead⟩) t ⟨N,.sli e sz l0 c⟩) b ⟨vb,.box tb<|cb.set o<|.own t N⟩
 let rm':Nat->Option Nat:=fM (fM E.rm j none) t<|E.rm j
 let rv':Nat->Value:=fM E.rv t<|E.rv j
 let E':Env:={ R:=R',rm:=rm',rv:=rv',L:=Lf E.X R' rm',B:=E.B,X:=E.X }
 have Rb:E'.R b=⟨vb,.box tb<|cb.set o<|.own t N⟩:=aT _ _ _
 have Rt:E'.R t=⟨N,.sli e sz l0 c⟩:=by show R' t=_;simp only[R'];rw[bu _ _<|Ne.symm hbt,aT]
 have Rj:E'.R j=⟨M,.dead⟩:=by show R' j=_;simp only[R'];rw[bu _ _<|Ne.symm hbj,bu _ _ hjt,aT]
 have Ro:∀i,i≠j->i≠t->i≠b->E'.R i=E.R i:=λi h1 h2 h3=>by show R' i=_;simp only[R'];rw[bu _ _ h3,bu _ _ h2,bu _ _ h1]
 have Rk:∀i,i≠j->i≠t->(E'.R i).ver=(E.R i).ver/\(E'.R i).kind.nd=(E.R i).kind.nd/\(E'.R i).kind.live=(E.R i).kind.live/\(E'.R i).kind.slice=(E.R i).kind.slice:=λi h1 h2=>by
  by_cases h3:i=b
  ·subst h3;rw[Rb,hRb];exact⟨rfl,rfl,rfl,rfl⟩
  ·rw[Ro i h1 h2 h3];exact⟨rfl,rfl,rfl,rfl⟩
 have Mt:E'.rm t=E.rm j:=aT _ _ _
 have Mj:E'.rm j=none:=by show rm' j=_;simp only[rm'];rw[bu _ _ hjt,aT]
 have Mo:∀i,i≠j->i≠t->E'.rm i=E.rm i:=λi h1 h2=>by show rm' i=_;simp only[rm'];rw[bu _ _ h2,bu _ _ h1]
 have Vt:E'.rv t=E.rv j:=aT _ _ _
 have Vo:∀i,i≠t->E'.rv i=E.rv i:=λi h=>bu _ _ h
 have hL:∀b,E'.L b->E.L b:=by
  intro b h;rw[hs.wok.live];rcases h with⟨i,h1,h2⟩|hX;rotate_left
  ·exact .inr hX
  refine .inl ?_;have h1:E'.rm i=some b:=h1;have h2:(E'.R i).kind.live=true:=h2;by_cases it:i=t
  ·subst it;rw[Mt]at h1;exact⟨j,h1,by rw[hRd];rfl⟩
  ·by_cases ij:i=j
   ·subst ij;rw[Mj]at h1;cases h1
   ·rw[Mo i ij it]at h1;rw[(Rk i ij it).2.2.1]at h2;exact⟨i,h1,h2⟩
 have hl:Lasts w w E E':=by
  refine⟨λb _ h=>⟨rfl,λh'=>h<|hL b h'⟩,λi=>?_,λi he hs'=>?_,λi he hs'=>?_,ab _⟩
  all_goals
   by_cases it:i=t
   ·subst it
    first
     | (rw[Rt];exact dY hRt)
     | (rw[Rt]at he;have he:N=(E.R i).ver:=he;omega)
   ·by_cases ij:i=j
    ·subst ij
     first
      | (rw[Rj,hRd];exact hM)
      | (rw[Rj]at hs';cases hs')
    ·first
      | (rw[(Rk i ij it).1];exact ab _)
      | (rw[(Rk i ij it).2.2.2]at hs';exact⟨hs',Vo i it⟩)
      | (rw[(Rk i ij it).2.1]at hs';exact⟨hs',Mo i ij it⟩)
 have hwok:WOk G E' w:=by
  refine⟨λi=>?_,λi i' b n1 n2 e1 e2=>?_,λb=>mV,λi hn=>?_,hs.wok.base,hs.wok.xs,hs.wok.fx,λi b hn hb=>?_,hs.wok.kept,λi=>?_⟩
  ·by_cases it:i=t
   ·subst it;have hrow:=hs.wok.rows j;unfold cn at hrow ⊢;rw[hRd]at hrow;rw[Rt,Mt,Vt];rcases hrow with h|⟨b,n,cap,vs,rest,h1,h2,h3,h4,h5,h6,h7,h8,h9⟩
    ·exact .inl h
    ·refine .inr ⟨b,n,cap,vs,rest,h1,?_,h3,h4,h5,h6,h7,h8,h9.mono hl.bare<|ab _⟩;rcases h2 with h2|h2
     ·exact .inl h2
     ·exact absurd h2.1 om
   ·by_cases ij:i=j
    ·subst ij;unfold cn;rw[Rj];trivial
    ·have hrow:=hs.wok.rows i;unfold cn at hrow ⊢;by_cases ib:i=b
     ·subst ib;rw[hRb]at hrow;rw[Rb,Mo i ij it];have⟨b',vs,h1,h2,h3,h4⟩:=hrow;refine⟨b',vs,h1,h2,h3,by simp[h4.1],λx a' b''=>?_⟩;have hx:x<lh cb:=ss a';rw[fd];by_cases hxo:o=x
      ·subst hxo;rw[ae rfl];have h0:=h4.2 o hx b'';have:cb[o]=.own j v:=(List.getElem?_eq_some_iff.1 ho).2;rw[this]at h0;exact GX hRd Rt Vt h0
      ·rw[ac hxo];exact(h4.2 x hx b'').mono hl<|ab _
     ·rw[Ro i ij it ib,Mo i ij it,Vo i it];cases hkd:(E.R i).kind with
      | mp f=>simpa only[hkd]using hrow
      | dead=>trivial
      | nil=>simpa only[hkd]using hrow
      | box t cells =>simp only[hkd]at hrow ⊢;have⟨b,vs,h1,h2,h3,h4⟩:=hrow;exact⟨b,vs,h1,h2,h3,h4.mono hl<|ab _⟩
      | sli e sz fz cells =>
        simp only[hkd]at hrow ⊢;rcases hrow with h|⟨b,n,cap,vs,rest,h1,h2,h3,h4,h5,h6,h7,h8,h9⟩
        ·exact .inl h
        ·exact .inr ⟨b,n,cap,vs,rest,h1,h2,h3,h4,h5,h6,h7,h8,h9.mono hl.bare<|ab _⟩
      | tab e cells =>
        simp only[hkd]at hrow ⊢;rcases hrow with h|⟨b,n,cap,vs,rest,h1,h2,h3,h4,h5,h6,h7,h8,h9⟩
        ·exact .inl h
        ·exact .inr ⟨b,n,cap,vs,rest,h1,h2,h3,h4,h5,h6,h7,h8,h9.mono hl<|ab _⟩
  ·have back:∀i b,(E'.R i).kind.nd=true->E'.rm i=some b->(E.R<|if i=t then j else i).kind.nd=true/\E.rm (if i=t then j else i)=some b/\i≠j:=by
    intro i b hn hm;by_cases it:i=t
    ·subst it;rw[ae rfl];rw[Mt]at hm;exact⟨by rw[hRd];rfl,hm,Ne.symm hjt⟩
    ·rw[ac it];have ij:i≠j:=λe=>by subst e;rw[Mj]at hm;cases hm
     rw[Mo i ij it]at hm;exact⟨by rw[<- (Rk i ij it).2.1];exact hn,hm,ij⟩
   have⟨a1,a2,a3⟩:=back i b n1 e1;have⟨b1,b2,b3⟩:=back i' b n2 e2;have:=hs.wok.inj _ _ b a1 b1 a2 b2;by_cases it:i=t
   ·by_cases it2:i'=t
    ·rw[it,it2]
    ·rw[ae it,ac it2]at this;exact absurd this.symm b3
   ·by_cases it2:i'=t
    ·rw[ac it,ae it2]at this;exact absurd this a3
    ·rw[ac it,ac it2]at this;exact this
  ·by_cases it:i=t
   ·subst it;rw[Rt];exact bD (aB _) hRt
   ·by_cases ij:i=j
    ·subst ij;rw[Rj]at hn;cases hn
    ·rw[(Rk i ij it).2.1]at hn;rw[(Rk i ij it).1];exact hs.wok.pos i hn
  ·by_cases it:i=t
   ·subst it;rw[Mt]at hb;exact hs.wok.apart j b (by rw[hRd];rfl) hb
   ·by_cases ij:i=j
    ·subst ij;rw[Mj]at hb;cases hb
    ·rw[Mo i ij it]at hb;rw[(Rk i ij it).2.1]at hn;exact hs.wok.apart i b hn hb
  ·have⟨p1,p2⟩:=hs.wok.pin i;by_cases it:i=t
   ·subst it;rw[Rt];exact⟨aJ p1<|dY hRt,λh=>by have h:N=(G.pR i).ver:=h;omega⟩
   ·by_cases ij:i=j
    ·subst ij;rw[Rj];rw[hRd]at p1;exact⟨aJ p1 hM,λh h'=>by cases h'⟩
    ·rw[(Rk i ij it).1,(Rk i ij it).2.1,(Rk i ij it).2.2.2,Mo i ij it,Vo i it];exact⟨p1,p2⟩
 refine⟨E',?_,hwok,hs.size,hs.defers,λi=>(hs.slots i).mono hl<|ab _⟩
 show R'=_
 simp only[R',hs.rw]
 rfl
section
variable {s:St}{j t v N e sz b vb tb o:Nat}{c cb cb':M0}{Q:AX->St->Prop}
theorem Wk.moveB'[aw](l:s.rw j=⟨v,.sli e sz l0 c⟩)(m:s.rw b=⟨vb,.box tb cb⟩)(n:cb[o]?=some (.own j v))(t N:Nat)(p:(s.rw t).ver<N)(h:cb.set o (.own t N)=cb')(k:j<lent)(d:(j==t)=l0)(f:(b==j)=l0)(a:(b==t)=l0) :
 ∃g,Wk s g/\(g.rw t=⟨N,.sli e sz l0 c⟩/\g.rw b=⟨vb,.box tb cb'⟩)/\g.sl=s.sl/\∀i,(i%1000==j%1000)=l0->(i%1000==t%1000)=l0->(i%1000==b%1000)=l0->g.rw i=s.rw i:=by
 have a:=beq_eq_false_iff_ne.1 a
 refine⟨_,Wk.moveB l (beq_eq_false_iff_ne.1 d) k p (ab _) m n (beq_eq_false_iff_ne.1 f) a,⟨?_,by rw[h,dw]⟩,rfl,λi q r u=>?_⟩
 rw[bZ _ _ _ _<|Ne.symm a,dw]
 rw[bZ _ _ _ _<|λe=>beq_eq_false_iff_ne.1 u<|om,bZ _ _ _ _<|λe=>beq_eq_false_iff_ne.1 r<|om,bZ _ _ _ _<|λe=>beq_eq_false_iff_ne.1 q<|om]
theorem znG[aw]{d:Type}(r:s.rw j=⟨v,.sli e sz l0 c⟩)(y:s.rw b=⟨vb,.box tb cb⟩)(z:cb[o]?=some (.own j v))(t N:Nat)(A:(s.rw t).ver<N)(f:cb.set o (.own t N)=cb')(g:j<lent)(k:(j==t)=l0)(l:(b==j)=l0)(m:(b==t)=l0)(I:d->St->Prop)(n:d->Nat)(p:d){u:Dm a}{w:Dm Q}(B:∀bd,(bd.rw t=⟨N,.sli e sz l0 c⟩/\bd.rw b=⟨vb,.box tb cb'⟩)->bd.sl=s.sl->(∀i,(i%1000==j%1000)=l0->(i%1000==t%1000)=l0->(i%1000==b%1000)=l0->bd.rw i=s.rw i)->I p bd)(h:∀x q,I x q->a (AX.seq (np I n (n x)) Q) q):uA (kk a u) (kk Q w) s:=have⟨bd,C,D,E,F⟩:=Wk.moveB' r y z t N A f g k l m;⟨d,I,n,⟨p,bd,C,B bd D E F⟩,h⟩
theorem zjv[aw]{d:Type}{I:d->St->Prop}{p:d->Nat}(q:s.rw j=⟨v,.sli e sz l0 c⟩)(r:s.rw b=⟨vb,.box tb cb⟩)(u:cb[o]?=some (.own j v))(t N:Nat)(w:(s.rw t).ver<N)(f:cb.set o (.own t N)=cb')(g:j<lent)(h:(j==t)=l0)(k:(b==j)=l0)(l:(b==t)=l0)(n:d)(x:∀a,(a.rw t=⟨N,.sli e sz l0 c⟩/\a.rw b=⟨vb,.box tb cb'⟩)->a.sl=s.sl->(∀i,(i%1000==j%1000)=l0->(i%1000==t%1000)=l0->(i%1000==b%1000)=l0->a.rw i=s.rw i)->I n a)(y:p n<m):np I p m s:=have⟨a,z,A,B,C⟩:=Wk.moveB' q r u t N w f g h k l;Fc n z (x a A B C) y
theorem Wk.moveS'[aw](h:s.rw j=⟨v,.sli e sz l0 c⟩)(f:s.sl m=.own j v)(t N:Nat)(k:(s.rw t).ver<N)(g:j<lent)(a:(j==t)=l0) :
 ∃b,Wk s b/\b.rw t=⟨N,.sli e sz l0 c⟩/\b.sl=(s.put (some m) (.own t N)).sl/\∀i,(i%1000==j%1000)=l0->(i%1000==t%1000)=l0->b.rw i=s.rw i:=by
 refine⟨_,Wk.moveS h (beq_eq_false_iff_ne.1 a) g k (ab _) f,by rw[iW,dw],rfl,λi l d=>?_⟩
 rw[iW,bZ _ _ _ _<|λe=>beq_eq_false_iff_ne.1 d<|om,bZ _ _ _ _<|λe=>beq_eq_false_iff_ne.1 l<|om]
theorem znH[aw]{b:Type}{d:Nat}(o:s.rw j=⟨v,.sli e sz l0 c⟩)(f:s.sl d=.own j v)(t N:Nat)(p:(s.rw t).ver<N)(g:j<lent)(k:(j==t)=l0)(I:b->St->Prop)(l:b->Nat)(m:b){u:Dm a}{w:Dm Q}(q:∀bd,bd.rw t=⟨N,.sli e sz l0 c⟩->bd.sl=(s.put (some d) (.own t N)).sl->(∀i,(i%1000==j%1000)=l0->(i%1000==t%1000)=l0->bd.rw i=s.rw i)->I m bd)(h:∀x n,I x n->a (AX.seq (np I l (l x)) Q) n):uA (kk a u) (kk Q w) s:=have⟨bd,r,y,z,A⟩:=Wk.moveS' o f t N p g k;⟨b,I,l,⟨m,bd,r,q bd y z A⟩,h⟩
theorem zjw[aw]{b:Type}{I:b->St->Prop}{l:b->Nat}{m d:Nat}(n:s.rw j=⟨v,.sli e sz l0 c⟩)(f:s.sl d=.own j v)(t N:Nat)(o:(s.rw t).ver<N)(g:j<lent)(h:(j==t)=l0)(k:b)(p:∀a,a.rw t=⟨N,.sli e sz l0 c⟩->a.sl=(s.put (some d) (.own t N)).sl->(∀i,(i%1000==j%1000)=l0->(i%1000==t%1000)=l0->a.rw i=s.rw i)->I k a)(q:l k<m):np I l m s:=have⟨a,r,u,w,x⟩:=Wk.moveS' n f t N o g h;Fc k r (p a u w x) q
end
end Go.Abs

namespace Go.Abs
open Bool renaming false→l0
open List renaming range→lc,replicate→ld,getD→lg,length→lh
section
variable {s:St}{k v e e2 d:Nat}{q:O0}{M:fG}{Q:AX->St->Prop}
theorem HO[aw]{R:S0}{j:Nat}(h:(j%1000==k%1000)=l0):dZ R k q j=R j:=by
 refine iS λa=>beq_eq_false_iff_ne.1 h ?_;rcases a with rfl|⟨x,_,rfl⟩
 rfl;exact gf _ _
theorem zea[aw]{b:Type}{I:b->St->Prop}{g:b->Nat}{m:Nat}(c:TabI s.rw k v e e2 q M)(h:k<lent)(i:∀j∈q,dq k j<lent)(l:s.sl d=.own k v)(f:b)(n:∀a,a.sl d=.sl true 1 (mF M)->(∀t,(t==d)=l0->a.sl t=s.sl t)->(∀j,(j%1000==k%1000)=l0->a.rw j=s.rw j)->I f a)(o:g f<m):np I g m s:=by
 refine Fc f (Wk.flat c h i l) (n _ (cF _ _ _) (λt c=>da _ _ _ _<|beq_eq_false_iff_ne.1 c) λj p=>?_) o
 exact HO p
theorem zbL[aw]{a:Type}{n:Nat}(i:s.rw k=⟨v,.sli e 1 l0 (ld n (.v (.slice none 0 0)))⟩)(l:k<lent)(m:s.sl d=.own k v)(I:a->St->Prop)(c:a->Nat)(f:a){bd:(AX->St->Prop)->St->Prop}{u:Dm bd}{w:Dm Q}(o:∀b,b.sl d=.sl true 1 (mF (ld n []))->(∀t,(t==d)=l0->b.sl t=s.sl t)->(∀j,(j%1000==k%1000)=l0->b.rw j=s.rw j)->I f b)(h:∀x g,I x g->bd (AX.seq (np I c (c x)) Q) g):uA (kk bd u) (kk Q w) s:=by
 have p:=Wk.flatRow i l m
 refine⟨a,I,c,⟨f,_,p.trans (Wk.recell<|cF _ _ _),o _ ?_ (λt r=>?_) λj y=>?_⟩,h⟩
 simp[cF,mF,iL]
 have:=beq_eq_false_iff_ne.1 r;rw[da _ _ _ _ this,da _ _ _ _ this];rfl
 exact HO y
end
theorem qe(s:St)(d:Nat)(fr:Bool)(a:Nat)(c:M0):br s d (.im (.sl fr a c))=s.put (some d) (.sl true a c):=by unfold br leaves eu fP mY;rfl
end Go.Abs
