/- DERIVED by an AI agent. -/
import Derived.Test.YtijabbemjaioeaaGreatDoorA4
set_option linter.all false
namespace Go.Abs
open Bool renaming true→k0
open Option renaming some→n0,none→o0
open Go renaming TypeId→A0,Operand→B0,World→C0,Value→E0,Program→G0
open List renaming range→lc,getD→lg,length→lh
variable (b:Nat->Option Nat)(c:S0)(d:T0)(f:Bool)(g:Nat)(h:Bool)(i:Nat)(j:RK){l:Nat}{Q:Exit->Act->C0->Prop}{x:E0}{m:M0}{n:List E0}{U:Act->C0->Prop}{r:Nat->Option Nat}{y:PV}{D:l1}{t:C0}{K:St->Prop}{u:B0}{z:A0}{A:Act}
theorem zaI{p q:O0}(d:q.Perm (lc (lh p))):(q.map λi=>lg p i 0).Perm p:=by
 have e:(lc<|lh p).map (λi=>lg p i 0)=p:=by refine bE sp λi a b=>?_;grind
 grind
section
variable {P:G0}{G:Ghost}{s:St}{E E':Env}{w w':C0}{k v e e2 B:Nat}{p q:O0}{rows rows':List M0}
def BW(k:Nat)(p:O0)(j:Nat):Prop:=j=k\/∃x∈p,j=dq k x
theorem TN[aw](V:WOk G E w)(F:TabIs E.R k v e e2 p rows)(hn:p.Nodup)(I:CC rows')(t:WOk ⟨w,GZ E k p,0,(E.giveT k p (qM e e2 rows) w.heap.size).R,(E.giveT k p (qM e e2 rows) w.heap.size).rm,(E.giveT k p (qM e e2 rows) w.heap.size).rv,(E.giveT k p (qM e e2 rows) w.heap.size).X⟩ E' w')(o:TabIs E'.R lent 1 e e2 q rows')(J:q.Perm (lc (lh rows))){y:Env}(W:∀j,BW k p j->y.R j=pA E.R k v e e2 (q.map λi=>lg p i 0) rows' j/\y.rm j=E.rm j/\y.rv j=E.rv j) :
 ∀j,BW k p j->cn w' y G.C j:=by
 have a0:lh q=lh rows:=by have:=J.length_eq;simpa using this
 have s:∀i,i<lh q->lg q i 0<lh rows:=λi c=>by have:=J.mem_iff.1 (Hf c);simpa using this
 have u:(q.map λi=>lg p i 0).Perm p:=zaI (by rw[F.len];exact J)
 have A:(q.map λi=>lg p i 0).Nodup:=u.nodup_iff.2 hn
 have a1:lh (q.map λi=>lg p i 0)=lh rows':=by rw[aG,o.len]
 have g:∀i,i<lh q->lg (q.map λi=>lg p i 0) i 0=lg p (lg q i 0) 0:=λi c=>by simp[lg,c]
 have B:∀j,(E'.R j).ver=((E.giveT k p (qM e e2 rows) w.heap.size).R j).ver->(E'.R j).kind.slice=k0->E'.rm j=(E.giveT k p (qM e e2 rows) w.heap.size).rm j/\E'.rv j=(E.giveT k p (qM e e2 rows) w.heap.size).rv j:=λj r z=>by obtain⟨_,K,L⟩:=(t.pin j).2 r (RK.nd_of_slice z);exact⟨K,(L z).2⟩
 have l:E'.rm lent=E.rm k/\E'.rv lent=E.rv k:=by have h:=B lent (by rw[o.top,VT,jj]) (by rw[o.top];rfl);rw[pM.1,pM.2]at h;exact h
 have d:∀i,i<lh q->E'.rm (dq lent (lg q i 0))=E.rm (dq k (lg p (lg q i 0) 0))/\E'.rv (dq lent (lg q i 0))=E.rv (dq k (lg p (lg q i 0) 0)):=λi c=>by have h:=B (dq lent (lg q i 0)) (by rw[o.row i c,VT,lY (s i c)]) (by rw[o.row i c];rfl);rw[(uG _).1,(uG _).2]at h;exact h
 intro j X
 obtain⟨Y,Z,r3⟩:=W j X
 rcases X with rfl|⟨x,M,rfl⟩
 have a:=t.rows lent;unfold cn at a ⊢;rw[o.top]at a;rw[Y,yI,Z,r3];rw[l.1,l.2]at a;rcases a with⟨r,z,C⟩|⟨b,n,cap,N,m,r,z,C,O,P,Q,R,S,H⟩
 refine .inl ⟨r,z,aL ?_⟩;rw[bP,aG,<- bP lent q,C];rfl
 refine .inr ⟨b,n,cap,N,m,r,(V.block r (by rw[F.top];rfl)).2,C,O,P,Q,R,S,?_,λi a' b'=>?_⟩
 rw[bP,aG,<- bP lent q];exact H.1
 have c:i<lh q:=by simpa[bP]using a'
 have h0:=H.2 i (by rw[bP];exact c) b';have K:(cy lent q)[i]'(by rw[bP];exact c)=.own (dq lent (lg q i 0)) 1:=by simp[cy,lg,c]
 have L:(cy j (q.map λi=>lg p i 0))[i]=.own (dq j (lg (q.map λi=>lg p i 0) i 0)) 1:=by simp[cy,lg,c]
 rw[K]at h0;rw[L];have D:lg (q.map λi=>lg p i 0) i 0∈p:=u.mem_iff.1 (Hf (by rw[aG];exact c));obtain⟨s1,s2,s3⟩:=W (dq j (lg (q.map λi=>lg p i 0) i 0)) (.inr ⟨_,D,rfl⟩);cases h0 with
 | own hv M =>
   refine .own ?_ λ_ _=>?_
   rw[s1,yJ A (by rw[aG];exact c)];exact ab _
   rw[s3,g i c,<- (d i c).2];exact M (by rw[o.row i c]) (by rw[o.row i c];rfl)
 obtain⟨i,c,rfl⟩:=rL (u.mem_iff.2 M);have f:i<lh q:=ss c
 have a:=t.rows (dq lent (lg q i 0));unfold cn at a ⊢;rw[o.row i f,(d i f).1,(d i f).2]at a;rw[Y,yJ A c,Z,r3,g i f];rcases a with h|⟨b,n,cap,N,m,r,z,C,O,P,Q,R,S,H⟩
 exact .inl h
 have hb:=(V.block r (by rw[F.row _ (by rw[F.len];exact s i f)];rfl)).2;rw[<- g i f]at hb;have U:=oz (w':=w') (E':=y.bare) (lo':=y.B) (I i (by rw[<- o.len];exact f)) H;refine Or.inr ⟨b,n,cap,N,m,r,?_,C,O,P,Q,R,S,U⟩;rw[<- g i f];exact hb
theorem ziI[aw](hw:WOk G E w)(ht:TabIs E.R k v e e2 p rows)(hn:p.Nodup){p':O0}(hp':p'.Perm p){pv:S0}{px':l1}{pm:Nat->Option Nat}{px:Nat->E0}(hw':WOk ⟨w,GZ E k p,0,pv,pm,px,px'⟩ E' w') :
 Turn G E { R:=pA E.R k v e e2 p' rows',rm:=E.rm,rv:=E.rv,L:=Lf E.X (pA E.R k v e e2 p' rows') E.rm,B:=E.B,X:=E.X } w w' (BW k p):=by
 have hn':p'.Nodup:=hp'.nodup_iff.2 hn
 have hin:∀j,BW k p j->((E.R j).kind.slice=k0/\(E.R j).kind.nd=k0/\(E.R j).kind.live=k0)/\(pA E.R k v e e2 p' rows' j).ver=(E.R j).ver/\(pA E.R k v e e2 p' rows' j).kind.nd=true:=by
  intro j hj;rcases hj with rfl|⟨x,hx,rfl⟩
  rw[ht.top,yI];exact⟨⟨rfl,rfl,rfl⟩,rfl,rfl⟩;obtain⟨i,hi,rfl⟩:=rL hx;rw[ht.row i hi];obtain⟨i',hi',he⟩:=rL (hp'.mem_iff.2 hx);rw[<- he,yJ hn' hi'];exact⟨⟨rfl,rfl,rfl⟩,rfl,rfl⟩
 refine⟨rfl,rfl,rfl,λj hj=>⟨CD (λh=>hj<|.inl h) λx hx h=>hj<|.inr ⟨x,hp'.mem_iff.1 hx,h⟩,rfl,rfl⟩,λb hb hD=>?_,λj b hD hb hnd=>?_,λj hD=>?_,λj hD _ hs=>?_,λj hD _ hs=>?_,λj hD hs=>?_,λj j' b hD hD' h1 h2 e1 e2=>?_,hw'.kept.size,hw'.kept.os,hw'.kept.tape,hw'.kept.output⟩
 refine hw'.kept.block b hb λk0 hM=>?_;rcases hM with⟨_,hM⟩|⟨i,hi,_,hM⟩
 have:=hD k (.inl rfl) hM;rw[ht.top]at this;cases this
 have hx:=Hf hi;have:=hD (dq k<|lg p i 0) (.inr ⟨_,hx,rfl⟩) hM;rw[(hin _<|.inr ⟨_,hx,rfl⟩).1.2.2]at this;cases this
 grind
 exact rI (hin j hD).2.1.symm
 exact⟨(hin j hD).1.1,rfl⟩
 exact⟨(hin j hD).1.2.1,rfl⟩
 have:=hw.pos j (hin j hD).1.2.1;grind
 exact hw.inj j j' b (hin j hD).1.2.1 (hin j' hD').1.2.1 e1 e2
theorem zdg[aw]{k:Env}(O:WOk G E w)(h:Turn G E k w w' D)(q:k.rm=E.rm/\k.B=E.B/\k.X=E.X)(a0:∀j,D j->(E.R j).kind.nd=k0){d:Nat}{f:List (A0×Option Nat×M0)}{l:List (E0×Option Nat)}(hd:∀j i,D j->j≠bz d i)(P:LeafsAt w' (Env.out w.heap.size (blk l)) f l)(a4:pE w' f l)(hn:(blk l).Nodup) :
 Turn G E (k.adopt d f l) w w' (λj=>D j\/∃i,i<f.length/\j=bz d i) /\
  (∀j,(∃i,i<f.length/\j=bz d i)->cn w' (k.adopt d f l) G.C j)/\Agr (k.adopt d f l) (λj=>(k.R j).ver) d 0 l /\
  (∀j,D j->(k.adopt d f l).R j=k.R j/\(k.adopt d f l).rm j=k.rm j/\(k.adopt d f l).rv j=k.rv j) /\
  Lasts w' w' (Env.out w.heap.size (blk l)).bare (k.adopt d f l).bare:=by
 have b0:=P.length
 have u:∀j(h:j<f.length),(k.adopt d f l).R (bz d j)=⟨(k.R (bz d j)).ver+1,jv k.R d j f[j].1 f[j].2.1 f[j].2.2⟩:=λj h=>by
  have Q:j<(gn k.R d f 0).length:=by rw[iP];exact h
  have:=qp k.R d (gn k.R d f 0) 0 j Q;rw[cm]at this;show pN k.R d (gn k.R d f 0) 0 (bz d j)=_;rw[this,rX k.R d f 0 j h Q,cm]
 have B:∀j(h:j<f.length)(Q:j<l.length),(k.adopt d f l).rm (bz d j)=l[j].2:=λj h Q=>by have:=qp k.rm d (l.map (·.2)) 0 j (by simpa using Q);rw[cm]at this;show pN k.rm d (l.map (·.2)) 0 (bz d j)=_;rw[this];simp
 have U:∀j(h:j<f.length)(Q:j<l.length),(k.adopt d f l).rv (bz d j)=l[j].1:=λj h Q=>by have:=qp k.rv d (l.map (·.1)) 0 j (by simpa using Q);rw[cm]at this;show pN k.rv d (l.map (·.1)) 0 (bz d j)=_;rw[this];simp
 have m:∀j,¬(∃i,i<f.length/\j=bz d i)->(k.adopt d f l).R j=k.R j/\(k.adopt d f l).rm j=k.rm j/\(k.adopt d f l).rv j=k.rv j:=λj hk=>by refine⟨oa _ d j _ 0 λi r e=>hk ⟨i,by rwa [iP]at r,by simpa using e⟩,oa _ d j _ 0 λi r e=>hk ⟨i,by simp at r;omega,by simpa using e⟩,oa _ d j _ 0 λi r e=>hk ⟨i,by simp at r;omega,by simpa using e⟩⟩
 have a1:∀j,D j->¬(∃i,i<f.length/\j=bz d i):=λj r⟨i,_,e⟩=>hd j i r e
 have I:∀j b,(k.R j).kind.nd=k0->k.rm j=n0 b->b<w.heap.size:=λj b t J=>by
  rw[q.1]at J;by_cases s:D j
  ·exact(O.block J (a0 j s)).1
  ·rw[(h.keep j s).1]at t;exact(O.block J t).1
 have V:Turn G E (k.adopt d f l) w w' (λj=>D j\/∃i,i<f.length/\j=bz d i):=by
  refine⟨rfl,?_,q.2.2,λj r=>?_,λb J s=>h.blocks b J λj r=>s j (.inl r),?_,?_,?_,?_,?_,?_,h.size,h.os,h.tape,h.output⟩
  ·exact h.B
  ·obtain⟨C,F,W⟩:=m j λc=>r (.inr c);obtain⟨k1,k2,k3⟩:=h.keep j λc=>r (.inl c);exact⟨C.trans k1,F.trans k2,W.trans k3⟩
  ·intro j b s J t;by_cases c:∃i,i<f.length/\j=bz d i
   ·obtain⟨i,c,rfl⟩:=c;rw[B i c om]at J;exact .inl ((P.get i c om).blk b J).1
   ·have s:=s.resolve_right c;obtain⟨C,F,W⟩:=m j c;rw[F]at J;rw[C]at t ⊢;exact h.fresh j b s J t
  ·intro j s;by_cases c:∃i,i<f.length/\j=bz d i
   ·obtain⟨i,c,rfl⟩:=c;rw[u i c];by_cases p:D (bz d i)
    ·exact absurd rfl (hd _ i p)
    ·rw[(h.keep _ p).1];exact cK _
   ·rw[(m j c).1];exact h.ver j (s.resolve_right c)
  ·intro j s H hs;by_cases c:∃i,i<f.length/\j=bz d i
   ·obtain⟨i,c,rfl⟩:=c;by_cases p:D (bz d i)
    ·exact absurd rfl (hd _ i p)
    ·rw[u i c,(h.keep _ p).1]at H;simp at H
   ·obtain⟨C,F,W⟩:=m j c;rw[C]at H hs;rw[W];exact h.same1 j (s.resolve_right c) H hs
  ·intro j s H hs;by_cases c:∃i,i<f.length/\j=bz d i
   ·obtain⟨i,c,rfl⟩:=c;by_cases p:D (bz d i)
    ·exact absurd rfl (hd _ i p)
    ·rw[u i c,(h.keep _ p).1]at H;simp at H
   ·obtain⟨C,F,W⟩:=m j c;rw[C]at H hs;rw[F];exact h.same2 j (s.resolve_right c) H hs
  ·intro j s t;by_cases c:∃i,i<f.length/\j=bz d i
   ·obtain⟨i,c,rfl⟩:=c;rw[u i c];exact jG _
   ·rw[(m j c).1]at t ⊢;exact h.pos j (s.resolve_right c) t
  ·intro j Z b s p h1 h2 e1 e2;have K:∀i(c:i<f.length),(k.adopt d f l).rm (bz d i)=n0 b->w.heap.size<=b:=λi c H=>by rw[B i c om]at H;exact((P.get i c om).blk b H).1
   by_cases c:∃i,i<f.length/\j=bz d i
   ·by_cases o:∃i,i<f.length/\Z=bz d i
    ·obtain⟨i,c,rfl⟩:=c;obtain⟨z,o,rfl⟩:=o;rw[B i c om]at e1;rw[B z o om]at e2;rw[zgY hn om om e1 e2]
    ·obtain⟨i,c,rfl⟩:=c;have g:=K i c e1;obtain⟨C,F,W⟩:=m Z o;rw[C]at h2;rw[F]at e2;have:=I Z b h2 e2;omega
   ·obtain⟨C,F,W⟩:=m j c;rw[C]at h1;rw[F]at e1;by_cases o:∃i,i<f.length/\Z=bz d i
    ·obtain⟨z,o,rfl⟩:=o;have g:=K z o e2;have:=I j b h1 e1;omega
    ·obtain⟨p1,p2,p3⟩:=m Z o;rw[p1]at h2;rw[p2]at e2;exact h.inj j Z b (s.resolve_right c) (p.resolve_right o) h1 h2 e1 e2
 have L:Lasts w' w' (Env.out w.heap.size (blk l)).bare (k.adopt d f l).bare:=by
  refine⟨λb J hL=>⟨rfl,λa5=>?_⟩,λ_=>ab _,λ_ _ h=>absurd h (by simp[Env.bare,RK.slice]),λ_ _ h=>absurd h (by simp[Env.bare,RK.nd]),ab _⟩;rcases a5 with⟨j,r,a6⟩|hX;rotate_left
  ·exact hL (.inl (by have:=O.fx.low b (by rw[<- O.xs,<- q.2.2];exact hX);have:=O.kept.size;omega))
  have R:¬(b<w.heap.size\/b∈blk l):=hL;by_cases c:∃i,i<f.length/\j=bz d i
  ·obtain⟨i,c,rfl⟩:=c;have M:(k.adopt d f l).rm (bz d i)=n0 b:=r;rw[B i c om]at M;refine R (.inr ?_);simp only[blk,jh];exact⟨_,bx om,M⟩
  ·obtain⟨C,F,_⟩:=m j c;have M:(k.adopt d f l).rm j=n0 b:=r;have S:((k.adopt d f l).R j).kind.live=true:=a6;rw[F]at M;rw[C]at S;exact R (.inl (I j b (RK.nd_of_live S) M))
 refine⟨V,?_,λj r=>?_,λj r=>m j (a1 j r),L⟩
 ·rintro j ⟨i,c,rfl⟩;have y:=P.get i c om;unfold cn;rw[u i c,B i c om,U i c om];generalize a7:f[i]=lx at y;generalize a8:l[i]=ly at y;cases y with
  | nil=>exact .inl ⟨rfl,rfl,rfl⟩
  | tbn=>exact .inl ⟨rfl,rfl,by simp[fi]⟩
  | @tb e b n cap cells vs A hB hh N hc hm X hr =>
    have Y:=a4 i e cells b n cap (by rw[aN c,a7]) (by rw[aN om,a8]) vs A hh N;refine .inr ⟨b,n,cap,vs,A,rfl,.inl (aJ O.kept.size hB),rfl,hh,N,hc,hm,X,by simp[fi,hr,N],λz a b'=>?_⟩;have o:z<cells.length:=by simpa[fi]using a
    have h0:=Y z b';have a2:i+1+z<l.length:=by
     cases hq:l[i+1+z]? with
     | none=>rw[hq]at h0;cases h0
     | some x=>exact(List.getElem?_eq_some_iff.1 hq).1
    rw[aN a2]at h0;have h0:l[i+1+z].1=vs[z]:=by simpa using h0
    show Rep w' (k.adopt d f l) 0 (fi k.R d i cells.length)[z] vs[z];simp only[fi,aM,bG];refine .own ?_ λ_ _=>?_
    ·rw[u (i+1+z) om];exact ab _
    ·rw[U (i+1+z) om a2,h0]
  | @fr e sz b n cap cells vs A hB hh N hc hm X hr =>
    refine .inr ⟨b,n,cap,vs,A,rfl,.inl ?_,rfl,hh,N,hc,hm,X,hr.mono L ?_⟩
    ·exact aJ O.kept.size hB
    ·show k.B<=w.heap.size;rw[q.2.1,O.base];exact O.kept.size
 ·rw[cm];have a3:j<f.length:=om;rw[u j a3,U j a3 r];exact⟨rfl,rfl⟩
theorem Jt[aw]{o:Oper}{c:Call}{f:B0}{K:St->Prop}(ho:o.op=.call c)(hc:c.callee=.value f)(hd:∀d,o.dst=n0 d->d<G.n)(hk:match s.ev f with|.clo g caps=>zpR P s g (c.args.toList.map s.ev++caps) o.dst K|_=>False){a:Act}(hs:rt G s a w){K':Act->C0->Prop}{Q:Exit->Act->C0->Prop}(hK:∀s' a' w',K s'->rt G s' a' w'->K' a' w'):o.wp P a w K' Q:=by
 split at hk
 rename_i g caps hev;obtain⟨k,v,e,e2,p,rows,rows',args,res,hat,hg,ht,hn,hk⟩:=hk;obtain⟨E,hs⟩:=hs;have hfx:=dE hs.slots f;rw[hev]at hfx;generalize hvf:a.eval f=vf at hfx;cases hfx with
 | @clo _ _ _ _ vs hl hh' =>
   obtain⟨hent,hpi,hpo,hlo,hcall⟩:=hat;have ht2:TabIs E.R k v e e2 p rows:=by rw[hs.rw];exact ht
   have hraw:ex w E 0 (c.args.toList.map s.ev++caps) (c.args.toList.map a.eval++vs) :=
    ex.append (ex.map λx _=>dE hs.slots x) ⟨hl,hh'⟩
   have hcall:=hcall w (GZ E k p) (E.giveT k p (qM e e2 rows) w.heap.size) _ (zlX hs.wok ht2 hn hpi) rfl (ziJ ht2 w.heap.size hg hraw);unfold Oper.wp;rw[EU ho hc hvf hent];show Calls P g _ w _;refine hcall.mono λen w'⟨E',q,vr,lv,he,hw',hE',hq,hres⟩=>?_;subst he;have hp':(q.map λi=>lg p i 0).Perm p:=zaI (by rw[ht.len];exact hq);have hk:=hk _ hp';let E2:Env:={ R:=pA E.R k v e e2 (q.map λi=>lg p i 0) rows',rm:=E.rm,rv:=E.rv,L:=Lf E.X (pA E.R k v e e2 (q.map λi=>lg p i 0) rows') E.rm,B:=E.B,X:=E.X };have hturn:Turn G E E2 w w' (BW k p):=ziI hs.wok ht2 hn hp' hw';have hself:∀x,Rep w' E2 0 x (E.rv k)->True:=λ_ _=>trivial;have own:Rep w' E2 0 (.own k v) (E.rv k):=by refine .own ?_ λ_ _=>rfl;show v<=(pA E.R k v e e2 _ rows' k).ver;rw[yI];exact ab _
   have hsim2:SimE G E2 (s.tabbed k v e e2 (q.map λi=>lg p i 0) rows') a w':=by
    have:=hturn.sim hs (TN hs.wok ht2 hn hpo hw' hE' hq λj _=>⟨rfl,rfl,rfl⟩);have e1:({ s with rw:=E2.R }:St)=s.tabbed k v e e2 (q.map λi=>lg p i 0) rows':=by show({ s with rw:=pA E.R k v e e2 _ rows' }:St)=_;rw[hs.rw];rfl
    rw[<- e1];exact this
   cases res with
   | self =>simp only[TR.ok,TR.next]at hres hk;subst hres;rw[pM.2];exact hK _ _ _ hk ⟨E2,hsim2.put hd own⟩
   | selfx x =>
     simp only[TR.ok,TR.next]at hres hk;subst hres;rw[pM.2];refine hK _ _ _ hk ⟨E2,hsim2.put hd (.tup (cells:=[.own k v,.v x]) (vs:=[E.rv k,x]) rfl λi a' b'=>?_)⟩
     match i,a' with
     | 0,_=>exact own
     | 1,_=>exact .v _
   | rv r =>
     simp only[TR.ok,TR.next]at hres hk;obtain⟨hout,hnd⟩:=hres;cases hdst:o.dst with
     | none=>rw[hdst]at hk;exact hK _ _ _ hk ⟨E2,hsim2⟩
     | some d =>
     rw[hdst]at hk;obtain⟨hdk,hk⟩:=hk;have hneq:∀j i,BW k p j->j≠bz d i:=λj i hj he=>by rcases hj with rfl|⟨x,_,rfl⟩;unfold bz at he;omega;rw[fX]at he;unfold bz at he;omega
     have hDnd:∀j,BW k p j->(E.R j).kind.nd=true:=λj hj=>by rcases hj with rfl|⟨x,hx,rfl⟩;rw[ht2.top];rfl;obtain⟨i,hi,rfl⟩:=rL hx;rw[ht2.row i hi];rfl
     obtain⟨a1,a2,a3,a4,a5⟩:=zdg (d:=d) hs.wok hturn ⟨rfl,rfl,rfl⟩ hDnd hneq hout.leafs hout.links hnd;have hrows3:∀j,(BW k p j\/∃i,i<(leaves r).length/\j=bz d i)->cn w' (E2.adopt d (leaves r) lv) G.C j:=λj hj=>by rcases hj with hj|hj;exact TN hs.wok ht2 hn hpo hw' hE' hq (λj hj=>a4 j hj) j hj;exact a2 j hj
     have hsim:=a1.sim hs hrows3;have hER:(E2.adopt d (leaves r) lv).R=cM (s.tabbed k v e e2 (q.map λi=>lg p i 0) rows').rw d (leaves r) 0:=by
      rw[pO];show pN E2.R d (gn E2.R d (leaves r) 0) 0=_;have:E2.R=(s.tabbed k v e e2 (q.map λi=>lg p i 0) rows').rw:=by show pA E.R k v e e2 _ rows'=pA s.rw k v e e2 _ rows';rw[hs.rw]
      rw[this]
     have hrep:Rep w' (E2.adopt d (leaves r) lv) 0 (eu (λj=>((s.tabbed k v e e2 (q.map λi=>lg p i 0) rows').rw j).ver) d r 0) vr:=by
      have:(λj=>(E2.R j).ver)=λj=>((s.tabbed k v e e2 (q.map λi=>lg p i 0) rows').rw j).ver:=by show(λj=>(pA E.R k v e e2 _ rows' j).ver)=λj=>(pA s.rw k v e e2 _ rows' j).ver;rw[hs.rw]
      rw[this]at a3;exact NJ a5 (by show E.B<=w.heap.size;rw[hs.wok.base];exact hs.wok.kept.size) r vr lv 0 hout a3
     have:=hsim.put (d:=n0 d) (by rintro x h;cases h;exact hd d hdst) hrep;rw[hER]at this;exact hK _ _ _ hk ⟨_,this⟩
 exact hk.elim
end
def TM(rw:S0)(y:PV)(K:M0->Prop):Prop :=
 match y with
 | .own j v=>(rw j).ver=v/\(match (rw j).kind with
  | .sli _ a _ c=>a=1/\(∀p∈c,NL p=k0)/\K c
  | .tab _ c=>(∀p∈c,qz rw p)/\K c
  | _=>False)
 | _=>False
def zpP(T:gg)(s:St)(d:Nat)(t f:A0)(k b e:Nat)(c:M0)(y:PV)(K:St->Prop):Prop :=
 t=f/\0<(T t).size/\(T t).k=.sli e/\(T e).size=1/\0<(T e).bytes/\(s.rw k).ver=b /\
  TM s.rw y λa=>(lh c+lh a)*(T e).bytes<=140737488355328/\K (ma s d k (.tab e (c++a)))
def CB(T:gg)(s:St)(d:Nat)(t:A0)(n i:Nat)(k a:Nat)(K:St->Prop):Prop :=
 0<(T t).size/\n=1/\i=0/\(s.rw k).ver=a/\(s.rw k).kind.slice=k0/\d≠k/\(match (T t).k with
  | .sli e=>(T e).size=1/\K ((s.row d ⟨(s.rw d).ver+1,.tab e [.own k a]⟩).put (n0 d) (.own d ((s.rw d).ver+1)))
  | _=>False)
section
variable {P:G0}{T:gg}{G:Ghost}{s:St}{E:Env}{a:Act}{w w':C0}{o:Oper}
theorem EL[aw]{lo sz:Nat}{c:M0}{d:List E0}{b n cap e:Nat}{a:List E0}(g:w.heap[b]?=n0 (.cells (d++a).toArray e (0,0))):∀i u,d[i]?=n0 u->∃f o,(n0 ⟨b,0,o0⟩:Option Addr)=n0 ⟨f,o,o0⟩/\w.cell? ⟨f,o+i,o0⟩=n0 u:=by intro i u h;obtain⟨j,rfl⟩:=List.getElem?_eq_some_iff.1 h;refine⟨b,0,rfl,?_⟩;rw[eF g<|by grind];grind
theorem zaH[aw]{K:M0->Prop}(d:TM E.R y K)(I:WOk G E w)(N:Rep w E 0 y x) :
 ∃m,K m/\∃J n cap p,x=.slice J n cap/\p.length=n/\(∀u∈p,u.oneCell'=k0)/\(∀i u,p[i]?=n0 u->∃b o,J=n0 ⟨b,o,o0⟩/\w.cell? ⟨b,o+i,o0⟩=n0 u)/\ex w E 0 m p:=by
 unfold TM at d
 split at d
 rename_i j v;obtain⟨L,d⟩:=d;have g:=I.rows j;unfold cn at g;cases N with
 | own _ q =>
   cases h:(E.R j).kind with
   | mp f=>simp only[h]at d
   | sli e M R c =>
     simp only[h]at d g;obtain⟨rfl,k,d⟩:=d;have q:=q L (by rw[h];rfl);refine⟨_,d,?_⟩;rcases g with⟨C,z,r⟩|⟨b,n,cap,p,A,C,z,r,D,F,O,P,Q,s⟩
     exact⟨o0,0,0,[],q.trans z,rfl,sp,sp,by subst r;exact⟨rfl,λi a=>absurd a sp⟩⟩
     refine⟨_,n,cap,p,q.trans r,by rw[F,dh],λu H=>?_,EL (lo:=0) (sz:=0) (c:=[]) (n:=0) (cap:=0) D,oz k s⟩;obtain⟨i,B,rfl⟩:=bV H;have l:i<lh c:=by rw[s.1];exact B
     exact(ET (w':=w) (E':=E) (lo':=0) (k _ (bx l)) (s.2 i l B)).2
   | tab e c =>
     simp only[h]at d g;obtain⟨k,d⟩:=d;have q:=q L (by rw[h];rfl);refine⟨_,d,?_⟩;rcases g with⟨C,z,r⟩|⟨b,n,cap,p,A,C,z,r,D,F,O,P,Q,s⟩
     exact⟨o0,0,0,[],q.trans z,rfl,sp,sp,by subst r;exact⟨rfl,λi a=>absurd a sp⟩⟩
     refine⟨_,n,cap,p,q.trans r,F,λu H=>?_,EL (lo:=0) (sz:=0) (c:=[]) (n:=0) (cap:=0) D,s⟩;obtain⟨i,B,rfl⟩:=bV H;have l:i<lh c:=by rw[s.1];exact B
     exact CE (k _ (bx l)) I (s.2 i l B)
   | dead=>simp only[h]at d
   | nil=>simp only[h]at d
   | box t c=>simp only[h]at d
 exact d.elim
theorem zdf[aw](hT:T.Ok P){t2:A0}{y:B0}{k M e:Nat}(ho:o.op=.call ⟨.builtin .append,#[u,y],#[z,t2]⟩)(c:o.dst=n0 l)(hd:l<G.n)(X:s.ev u=.own k M)(D:(s.rw k).kind=.tab e m)(L:zpP T s l z t2 k M e m (s.ev y) K)(a:rt G s A w)(hK:∀s' S w',K s'->rt G s' S w'->U S w'):o.wp P A w U Q:=by
 have⟨rfl,ht,Y,F,Z,N,L⟩:=L
 have⟨E,a⟩:=a
 have x:=a.rw
 rw[<- x]at L
 have⟨t,⟨O,L⟩,ax,n,cap,ws,h1,h2,h3,h4,h5⟩:=zaH L a.wok (dE a.slots y)
 have V:=dE a.slots u
 rw[X]at V
 have f:(E.R k).kind=.tab e m:=by rw[x];exact D
 have d:(E.R k).kind.slice=true:=by rw[f];rfl
 have R:=RK.nd_of_slice d
 have⟨H,I,q⟩:∃H,ziQ w e (T e).size (E.rm k) (E.rv k) H/\ex w E 0 m H:=by
  have r:=a.wok.rows k;unfold cn at r;simp only[f]at r;rw[F];rcases r with⟨g1,g2,g3⟩|⟨b,n,cap,H,K',g1,g2,g3,g4,g5,g6,g7,g8,g9⟩
  subst g3;exact⟨[],.inl ⟨g1,g2,rfl⟩,⟨rfl,λi p=>absurd p sp⟩⟩;exact⟨H,.inr ⟨b,n,cap,K',g1,g3,g4,by rw[dh];exact g5,g6,g7,by rw[dh];exact g8⟩,g9⟩
 have a0:A.eval u=E.rv k:=by cases V with|own hv V=>exact V (by rw[x];exact N) d
 have⟨v',w',m',B,g⟩:=yK (P:=P) hT o.type ht Y om Z I (mx:=n) (cx:=cap) (by rw[h2,F,dh]) h4 h3 (by rw[<- q.1,<- h5.1];exact O)
 rw[<- a0,<- h1]at B
 have j:(E.R k).ver=(s.rw k).ver:=by rw[x]
 have J:OneTurn E w w' k ⟨(s.rw k).ver+1,.tab e<|m++t⟩ m' v' :=
  ⟨λb hb a1=>g.block b hb λh=>(by
   have:=a1 h;rw[f]at this;cases this),
   λb hb _=>(by
    rcases g.fresh b hb with h|h;exact .inr ⟨h,R,λ_=>by rw[f];rfl⟩;exact .inl h),
   by rw[j];exact cK _,λh=>by rw[j]at h;simp at h,λh=>by rw[j]at h;simp at h,λ_=>jG _,g.size,g.os,g.tape,g.output⟩
 refine uH (fz:=[]) (p:=.own k ((s.rw k).ver+1)) a (nO ho B) J sp (λhl=>?_) ?_ (by simp[c,hd])<|λS w' h=>hK _ S w' L ?_
 unfold cn;simp only[Env.turn,aT];have C:ex w' (E.turn [] k ⟨(s.rw k).ver+1,.tab e<|m++t⟩ m' v') 0 (m++t) (H++ws):=(q.mono hl<|ab _).append<|h5.mono hl<|ab _;rcases g.phys with⟨W,q2,q3⟩|⟨b,n,cap,K',W,q2,q3,q4,q5,q6,q7⟩
 refine .inl ⟨W,q2,?_⟩;have:=C.1;rw[q3]at this;exact aL this
 rw[F,dh]at q4 q7;refine .inr ⟨b,n,cap,H++ws,K',W,?_,q2,q3,q4,q5,q6,q7,C⟩;rcases g.fresh b W with hf|hf
 exact(a.wok.block hf R).2
 exact .inl<|aJ a.wok.kept.size hf
 exact .own (by simp[Env.turn,aT]) λ_ _=>by simp[Env.turn,aT]
 rw[St.freeze_nil,c]at h;exact h
theorem EM[aw](D:T.Ok P){n i:Nat}{k m:Nat}(W:o.op=.buildSlice z n #[(i,u)])(f:o.dst=n0 l)(X:l<G.n)(F:s.ev u=.own k m)(r:CB T s l z n i k m K)(c:rt G s A w)(Y:∀V C w',K V->rt G V C w'->U C w'):o.wp P A w U Q:=by
 obtain⟨Z,rfl,rfl,y,H,a0,r⟩:=r
 split at r
 rename_i e I;obtain⟨t,r⟩:=r;have hu:P.underlying z=n0 (.slice e):=by have:=(D z Z).k;rw[I]at this;exact this
 obtain⟨ii,zz,hi,J,a1,L,M⟩:=(D e om).info;have a2:zz.cells.size=1:=by rw[<- dU,M,(D e om).zlen,t]
 obtain⟨E,c⟩:=c;have x:=dE c.slots u;rw[F]at x;have g:(E.R k).kind.slice=true:=by rw[c.rw];exact H
 have N:A.eval u=E.rv k:=by cases x with|own hv x=>exact x (by rw[c.rw];exact y) g
 have h1:(A.eval u).oneCell'=true:=by rw[N];exact Hi c.wok g
 have O:=mH h1;have d:(execOp A.eval o).run P w=.ok (.value<|.slice (n0 ⟨w.heap.size,0,o0⟩) 1 1) (w.alloc<|.cells [A.eval u].toArray e):=by
  have B:ii.size=1:=by rw[J,t]
  simp[execOp,W,Instr.buildSlice,run_underlying hu,sizeOf,typeInfo,zeroValue,hi,L,B,newRow,Instr.fill,O];congr 2;refine Array.ext sp λj p q=>?_;have R:j=0:=by simp at q;omega
  subst R;simp
 have a:OneTurn E w (w.alloc<|.cells ([A.eval u]++[]).toArray e) l ⟨(s.rw l).ver+1,.tab e [.own k m]⟩ (n0 w.heap.size) (.slice (n0 ⟨w.heap.size,0,o0⟩) 1 1) :=
  ⟨λb S _=>(Ext.alloc w _).block b S,λb S _=>.inl<|by simp at S;omega,by rw[c.rw];exact cK _,λh=>by rw[c.rw]at h;simp at h,λh=>by rw[c.rw]at h;simp at h,λ_=>jG _,sp,rfl,rfl,⟨rfl,λ_=>by first|exact ab _|exact cK _⟩⟩
 rw[<- bh [A.eval u]]at d;refine uH (fz:=[]) (p:=.own l ((s.rw l).ver+1)) c d a sp (λhl=>?_) ?_ (by simp[f,X])<|λC w' h=>Y _ C w' r<|by rw[f,St.freeze_nil]at h;exact h
 unfold cn;simp only[Env.turn,aT];refine .inr ⟨w.heap.size,1,1,[A.eval u],[],rfl,.inl c.wok.kept.size,rfl,heap_alloc_new w _,rfl,ab _,by simp[maxLen],rfl,?_⟩;refine⟨rfl,λj p q=>?_⟩;have R:j=0:=by simp at p;omega
 subst R;simp only[cL];have:=x.mono hl<|ab 0;simpa[Env.turn]using this
 exact .own (by simp[Env.turn,aT]) λ_ _=>by simp[Env.turn,aT]
 exact r.elim
end
theorem Rep.above{E E':Env}(h:Rep t E l y x)(r:∀k,(E.R k)=⟨0,.dead⟩)(d:∀k,(E'.R k)=⟨0,.dead⟩)(s:E.B=0)(g:E'.B=0)(p:∀b,l<=b->¬E.L b->¬E'.L b):Rep t E' l y x:=by
 induction h generalizing E' with
 | v x=>exact .v x
 | @sl E l fr J len cap cells a z m F G A B j =>
   have e:E.lo l fr=l:=by simp[Env.lo,s]
   have w:E'.lo l fr=l:=by simp[Env.lo,g]
   refine .sl z m F G (λi n=>?_)<|λi n=>?_
   grind
   have:=j i n (E':=E'.bare) (λ_=>rfl) (λ_=>rfl) rfl rfl<|λb hb h=>p b (by rw[e]at hb;exact hb) h;rw[w] ;rw[e]at this;exact this
 | @own E l k C x u I =>
   refine .own (by rw[d] ;rw[r]at u;exact u) λ_ c=>?_
   rw[d]at c;cases c
 | @ref E l k C D x u I =>
   refine .ref (by rw[d] ;rw[r]at u;exact u) λ_ c=>?_
   rw[d]at c;cases c
 | @eref E l fr cells D b o z A B j =>
   have e:E.lo l fr=l:=by simp[Env.lo,s]
   have w:E'.lo l fr=l:=by simp[Env.lo,g]
   refine .eref z (λi n=>?_)<|λi n=>?_
   grind
   have:=j i n (E':=E'.bare) (λ_=>rfl) (λ_=>rfl) rfl rfl<|λb hb h=>p b (by rw[e]at hb;exact hb) h;rw[w];rw[e]at this;exact this
 | ag m _ j=>exact .ag m λi a b=>j i a b r d s g p
 | tup m _ j=>exact .tup m λi a b=>j i a b r d s g p
 | clo m _ j=>exact .clo m λi a b=>j i a b r d s g p
 | junk x=>exact .junk x
def AG[aw](P:G0)(f:FuncId)(args:M0)(R0:S0)(post:(S0)->PV->Prop):Prop :=
 Enters P f/\∀(w:C0)(M:Nat->Nat->Prop)(E:Env)(vals:List E0),WOk ⟨w,M,0,E.R,E.rm,E.rv,E.X⟩ E w->E.R=R0->ex w E 0 args vals ->
  Calls P f vals.toArray w λa w'=>∃(E':Env)(p:PV)(v:E0),a=.returned v/\WOk ⟨w,M,0,E.R,E.rm,E.rv,E.X⟩ E' w'/\Rep w' E' 0 p v/\post E'.R p
inductive GvA (rho:Nat->Option Nat) (Ln:Nat->Prop) (R0 R:Nat->Row):PV->PV->Prop
 | v (x:Value):GvA rho Ln R0 R (.v x) (.v x)
 | sl (fr:Bool) (sz:Nat) (c:List PV):GvA rho Ln R0 R (.sl false sz c) (.sl fr sz c)
 | eref (fr:Bool) (c:List PV) (off:Nat):GvA rho Ln R0 R (.eref false c off) (.eref fr c off)
 | junk (p:PV):GvA rho Ln R0 R .junk p
 | own {k v k' v':Nat} (h:rho k=some k') (h1:(R0 k).ver=v) (h2:(R k').ver=v') (h3:(R0 k).kind.slice=true):GvA rho Ln R0 R (.own k v) (.own k' v')
 | ref {k v k' v' off:Nat} (h:rho k=some k') (h1:(R0 k).ver=v) (h2:(R k').ver=v') (h3:(R0 k).kind.nd=true):GvA rho Ln R0 R (.ref k v off) (.ref k' v' off)
 | lent {k' v' e sz:Nat} {fz:Bool} {c:List PV} (h:Ln k') (hr:R k'=⟨v',.sli e sz fz c⟩):GvA rho Ln R0 R (.sl false sz c) (.own k' v')
inductive GvL (rho:Nat->Option Nat) (Ln:Nat->Prop) (R0 R:Nat->Row):List PV->List PV->Prop
 | nil:GvL rho Ln R0 R [] []
 | one {p q:PV} {l l':List PV} (h:GvA rho Ln R0 R p q) (t:GvL rho Ln R0 R l l'):GvL rho Ln R0 R (p::l) (q::l')
 | ag {c c' l l':List PV} (h:GvL rho Ln R0 R c c') (t:GvL rho Ln R0 R l l'):GvL rho Ln R0 R (.ag c::l) (.ag c'::l')
 | clo {f:FuncId} {c c' l l':List PV} (h:GvL rho Ln R0 R c c') (t:GvL rho Ln R0 R l l'):GvL rho Ln R0 R (.clo f c::l) (.clo f c'::l')
def gvK(rho:Nat->Option Nat)(Ln:l1)(R0 R:S0):RK->RK->Prop
 | .box t c,.box h a=>t=h/\GvL rho Ln R0 R c a
 | .sli e d false c,.sli b g false a=>e=b/\d=g/\c=a/\plain c
 | .tab e c,.tab b a=>e=b/\GvL rho Ln R0 R c a
 | .tab e c,.sli b d false a=>e=b/\d=1/\c=[]/\a=[]
 | .mp f,.mp i=>f=i
 | _,_=>False
theorem kn{R0 R:S0}{a b:RK}(h:gvK r D R0 R a b):a.live=k0/\b.live=k0/\a.slice=b.slice:=by unfold gvK at h;split at h<;>first|exact⟨rfl,rfl,rfl⟩|grind
structure Give (rho:Nat->Option Nat) (Ln:Nat->Prop) (R0 R:Nat->Row):Prop where
 row:∀k,(R0 k).kind.nd=true->lent<=k/\0<(R0 k).ver/\∃j,rho k=some j/\gvK rho Ln R0 R (R0 k).kind (R j).kind
 inj:∀k k' j,(R0 k).kind.nd=true->(R0 k').kind.nd=true->rho k=some j->rho k'=some j->k=k'
 ln:∀k j,(R0 k).kind.nd=true->rho k=some j->¬Ln j
def gvX(E:Env)(rho:Nat->Option Nat)(Ln:l1)(R0:S0)(b:Nat):Prop :=
 (∃j,E.rm j=n0 b/\(E.R j).kind.live=k0/\¬Ln j/\∀k,(R0 k).kind.nd=k0->rho k≠n0 j)\/E.X b
def NT(E:Env)(rho:Nat->Option Nat)(R0:S0)(k:Nat):Option Nat:=if(R0 k).kind.nd=k0 then(rho k).bind E.rm else o0
def Env.gv(E:Env)(rho:Nat->Option Nat)(Ln:l1)(R0:S0)(B:Nat):Env :=
 { R:=R0,rm:=NT E rho R0,rv:=λk=>match rho k with|some j=>E.rv j|none=>default,L:=Lf (gvX E rho Ln R0) R0 (NT E rho R0),B:=B,X:=gvX E rho Ln R0 }
def gvM(E:Env)(rho:Nat->Option Nat)(R0:S0)(k b:Nat):Prop:=(R0 k).kind.nd=k0/\∃j,rho k=n0 j/\E.rm j=n0 b
section
variable {P:G0}{G:Ghost}{s:St}{E E':Env}{w w':C0}{rho:Nat->Option Nat}{Ln:l1}{R0:S0}
theorem Wc{j:Nat}(a:(R0 l).kind.nd=k0)(h:rho l=n0 j):NT E rho R0 l=E.rm j:=by simp[NT,a,h]
theorem uO{b:Nat}(h:NT E rho R0 l=n0 b):(R0 l).kind.nd=k0/\∃j,rho l=n0 j/\E.rm j=n0 b:=by
 unfold NT at h;by_cases a:(R0 l).kind.nd=k0;cases c:rho l with
 | none=>grind
 | some j=>grind
 grind
theorem ztc[aw](hw:WOk G E w)(hg:Give rho Ln R0 E.R){B b:Nat}(h:(E.gv rho Ln R0 B).L b):E.L b:=by rcases h with⟨k,a,d⟩|h;have⟨e,j,f,hb⟩:=uO a;have⟨_,_,i,c,g⟩:=hg.row k e;rw[f]at c;cases c;exact(hw.live b).2<|.inl ⟨j,hb,(kn g).2.1⟩;rcases h with⟨j,a,d,_⟩|h;exact(hw.live b).2<|.inl ⟨j,a,d⟩;exact(hw.live b).2<|.inr h
theorem zpW[aw](hw:WOk G E w)(hg:Give rho Ln R0 E.R)(B:Nat):Lasts w w E.bare (E.gv rho Ln R0 B).bare :=
 ⟨λb _ c=>⟨rfl,λa=>c<|ztc (B:=B) hw hg a⟩,λ_=>ab _,λ_ _ h=>absurd h<|by simp[Env.bare,RK.slice],λ_ _ h=>absurd h<|by simp[Env.bare,RK.nd],ab _⟩
theorem zpX[aw](hw:WOk G E w)(hg:Give rho Ln R0 E.R)(B:Nat){q:PV}(h:GvA rho Ln R0 E.R y q)(t:Rep w E 0 q x):Rep w (E.gv rho Ln R0 B) 0 y x:=by
 have f:=zpW hw hg B;cases h with
 | v p=>have:=t.v_eq;subst this;exact .v _
 | junk=>exact .junk _
 | sl fr W c =>
   cases t with
   | @sl _ _ _ _ len cap _ a N X Y Z t O =>refine .sl N X Y Z (λi d=>?_) (λi d=>(O i d).mono f (by simp[Env.lo]));have⟨b,o,ha,hb,r,g⟩:=t i d;exact⟨b,o,ha,by simp[Env.lo],λC=>r (ztc hw hg C),g⟩
 | eref fr c P =>
   cases t with
   | @eref _ _ _ _ _ b o N t O =>refine .eref N (λi d=>?_) (λi d=>(O i d).mono f (by simp[Env.lo]));have⟨hb,r,g⟩:=t i d;exact⟨by simp[Env.lo],λC=>r (ztc hw hg C),g⟩
 | @own k v D Q h F H u =>
   cases t with
   | own R z =>have⟨_,_,j,A,I⟩:=hg.row k (RK.nd_of_slice u);rw[h]at A;cases A;refine .own (by show v<=(R0 k).ver;omega) λ_ _=>?_;have:=z H (by rwa[<- (kn I).2.2]);show x=(match rho k with|some j=>E.rv j|none=>default);grind
 | @ref k v D Q P h F H u =>
   cases t with
   | ref R z =>have⟨_,_,j,A,I⟩:=hg.row k u;rw[h]at A;cases A;refine .ref (by show v<=(R0 k).ver;omega) λ_ _=>?_;have⟨b,hb,hp⟩:=z H (RK.nd_of_live (kn I).2.1);exact⟨b,(Wc u h).trans hb,hp⟩
 | @lent D Q e W fz c h m =>
   cases t with
   | own R z =>
     have z:=z (by rw[m]) (by rw[m];rfl);have l:=hw.rows D;unfold cn at l;rw[m]at l;rcases l with⟨F,H,u⟩|⟨b,n,cap,J,S,F,H,u,h4,h5,h6,h7,h8,M⟩
     subst u;rw[z,H];exact .sl (λ_=>undef) sp (ab _) (aB _) (λi d=>absurd d sp) (λi d=>absurd d sp);rw[z,u];refine .sl (λi=>lg J i undef) (M.1.trans h5) h6 h7 (λi d=>⟨b,0,rfl,by simp[Env.lo],λr=>by rcases r with⟨k,K,U⟩|r;have K:NT E rho R0 k=n0 b:=K;have⟨V,j,A,hb⟩:=uO K;have⟨_,_,j',L,I⟩:=hg.row k V;rw[A]at L;cases L;have:=hw.inj j D b (RK.nd_of_live (kn I).2.1) (by rw[m];rfl) hb F;subst this;exact hg.ln k j V A h;rcases r with⟨j,K,U,g3,_⟩|r;have:=hw.inj j D b (RK.nd_of_live U) (by rw[m];rfl) K F;subst this;exact g3 h;rw[hw.xs]at r;exact hw.apart D b (by rw[m];rfl) F r,?_⟩) (λi d=>?_);have s:i<lh J:=by rw[<- M.1];exact d
     rw[cm,eF h4 (by simp;omega)];simp[bM s,lg,s];have s:i<lh J:=by rw[<- M.1];exact d
     have e:lg J i undef=J[i]:=by simp[lg,s]
     rw[e];exact(M.2 i d s).mono f (by simp[Env.lo])
theorem Hm{E:Env}(h:ex t E l (y::m) n):∃x e,n=x::e/\Rep t E l y x/\ex t E l m e:=by
 cases n with
 | nil=>simp[ex]at h
 | cons vals f=>exact⟨vals,f,rfl,h.2 0 sp sp,ss h.1,λi a b=>h.2 (i+1) (ss a)<|ss b⟩
theorem Wd{E:Env}(f:Rep t E l y x)(h:ex t E l m n):ex t E l (y::m) (x::n):=by
 refine⟨by simp[h.1],λi a b=>?_⟩;cases i with
 | zero=>grind
 | succ i=>exact h.2 i _<|ss b
theorem We[aw](hw:WOk G E w)(hg:Give rho Ln R0 E.R)(B:Nat){n:M0}(h:GvL rho Ln R0 E.R m n):∀{vals:List E0},ex w E 0 n vals->ex w (E.gv rho Ln R0 B) 0 m vals:=by
 induction h with
 | nil=>intro vals h;exact⟨h.1,λi a=>absurd a sp⟩
 | one h _ p =>intro vals d;obtain⟨x,o,rfl,e,f⟩:=Hm d;exact Wd (zpX hw hg B h e)<|p f
 | ag _ _ b c =>
   intro vals d;obtain⟨x,o,rfl,e,f⟩:=Hm d;refine Wd ?_<|c f;cases e with
   | @ag _ _ _ j k l =>have g:=b ⟨k,l⟩;exact .ag g.1 g.2
 | clo _ _ b c =>
   intro vals d;obtain⟨x,o,rfl,e,f⟩:=Hm d;refine Wd ?_<|c f;cases e with
   | @clo _ _ _ _ j k l =>have g:=b ⟨k,l⟩;exact .clo g.1 g.2
theorem zvr[aw](hw:WOk G E w)(hg:Give rho Ln R0 E.R) :
 WOk ⟨w,gvM E rho R0,0,(E.gv rho Ln R0 w.heap.size).R,(E.gv rho Ln R0 w.heap.size).rm,(E.gv rho Ln R0 w.heap.size).rv,(E.gv rho Ln R0 w.heap.size).X⟩ (E.gv rho Ln R0 w.heap.size) w:=by
 refine⟨λk=>?_,λk M b Z n2 N O=>?_,λb=>mV,λk h=>(hg.row k h).2.1,rfl,rfl,⟨λb h=>?_,λk b hM=>?_,hw.held⟩,λk b r hb K=>?_,⟨rfl,rfl,OutLe.refl _,ab _,λ_ _ _=>rfl⟩,λj=>⟨ab _,λ_ h=>⟨h,rfl,λh=>⟨h,rfl⟩⟩⟩⟩
 show cn w (E.gv rho Ln R0 w.heap.size) _ k;by_cases r:(R0 k).kind.nd=k0
 obtain⟨P,_,j,q,d⟩:=hg.row k r;have em:(E.gv rho Ln R0 w.heap.size).rm k=E.rm j:=Wc r q;have ev:(E.gv rho Ln R0 w.heap.size).rv k=E.rv j:=by show(match rho k with|some j=>E.rv j|none=>default)=_;rw[q]
 have g:=hw.rows j
 have B:∀b,E.rm j=n0 b->Ghost.C ⟨w,gvM E rho R0,0,(E.gv rho Ln R0 w.heap.size).R,(E.gv rho Ln R0 w.heap.size).rm,(E.gv rho Ln R0 w.heap.size).rv,(E.gv rho Ln R0 w.heap.size).X⟩ k b :=
  λb hb=>.inr ⟨P,r,j,q,hb⟩
 unfold cn at g ⊢;show match (R0 k).kind with|.dead=>True|.nil=>_|.box t cells=>_|.sli e Q _ cells=>_|.tab e cells=>_|.mp f=>_
 rw[em,ev];cases y:(R0 k).kind with
 | dead=>trivial
 | nil=>rw[y]at d;cases l:(E.R j).kind<;>rw[l]at d<;>exact d.elim
 | box t c =>
   rw[y]at d;cases l:(E.R j).kind with
   | box t' R =>rw[l]at d;obtain⟨rfl,d⟩:=d;rw[l]at g;obtain⟨b,z,m,u,p,s⟩:=g;exact⟨b,z,m,B b m,p,We hw hg _ d s⟩
   | _=>rw[l]at d;exact d.elim
 | sli e Q S c =>
   rw[y]at d;cases S with
   | true=>cases l:(E.R j).kind<;>rw[l]at d<;>exact d.elim
   | false =>
     cases l:(E.R j).kind with
     | sli e' a0 U R =>
       rw[l]at d;cases U with
       | true=>exact d.elim
       | false =>
         obtain⟨rfl,rfl,rfl,hp⟩:=d;rw[l]at g;rcases g with hr|⟨b,n,cap,z,o,m,u,p,s,A,C,D,L,F⟩
         exact .inl hr
         exact .inr ⟨b,n,cap,z,o,m,B b m,p,s,A,C,D,L,oz hp F⟩
     | _=>rw[l]at d;exact d.elim
 | tab e c =>
   rw[y]at d;cases l:(E.R j).kind with
   | tab e' R =>
     rw[l]at d;obtain⟨rfl,d⟩:=d;rw[l]at g;rcases g with⟨m,u,p⟩|⟨b,n,cap,z,o,m,u,p,s,A,C,D,L,F⟩
     refine .inl ⟨m,u,?_⟩;subst p;cases d;rfl
     exact .inr ⟨b,n,cap,z,o,m,B b m,p,s,A,C,D,L,We hw hg _ d F⟩
   | sli e' Q S R =>
     rw[l]at d;cases S with
     | true=>exact d.elim
     | false =>
       obtain⟨rfl,rfl,rfl,rfl⟩:=d;rw[l]at g;rcases g with⟨m,u,p⟩|⟨b,n,cap,z,o,m,u,p,s,A,C,D,L,F⟩
       exact .inl ⟨m,u,rfl⟩
       exact .inr ⟨b,n,cap,z,o,m,B b m,p,s,om,C,D,om,F.1,λi a=>absurd a sp⟩
   | _=>rw[l]at d;exact d.elim
 | mp f =>
   rw[y]at d;cases l:(E.R j).kind with
   | mp f' =>rw[l]at d;obtain rfl:f=f':=d;rw[l]at g;obtain⟨b,es,ck,m,u,p,s,A⟩:=g;exact⟨b,es,ck,m,B b m,p,s,A⟩
   | _=>rw[l]at d;exact d.elim
 unfold cn;show match (R0 k).kind with|.dead=>True|.nil=>_|.box t cells=>_|.sli e Q _ cells=>_|.tab e cells=>_|.mp f=>_
 cases y:(R0 k).kind with
 | dead=>trivial
 | _=>rw[y]at r;exact absurd rfl r
 have N:NT E rho R0 k=n0 b:=N;have O:NT E rho R0 M=n0 b:=O;obtain⟨_,j,q,hb⟩:=uO N;obtain⟨_,V,H,W⟩:=uO O;obtain⟨_,_,i,x,d⟩:=hg.row k Z;obtain⟨_,_,i',I,X⟩:=hg.row M n2;rw[q]at x;cases x;rw[H]at I;cases I;have:=hw.inj j V b (RK.nd_of_live (kn d).2.1) (RK.nd_of_live (kn X).2.1) hb W;subst this;exact hg.inj k M j Z n2 q H
 rcases h with⟨j,l,Y,_⟩|h
 exact(hw.block l<|RK.nd_of_live Y).1
 rw[hw.xs]at h;have:=hw.fx.low b h;have:=hw.kept.size;show b<w.heap.size;omega
 obtain⟨r,j,q,hb⟩:=hM;obtain⟨_,_,i,x,d⟩:=hg.row k r;rw[q]at x;cases x;exact hw.ngl hb<|RK.nd_of_live (kn d).2.1
 have hb:NT E rho R0 k=n0 b:=hb;obtain⟨_,j,q,hb⟩:=uO hb;obtain⟨_,_,i,x,d⟩:=hg.row k r;rw[q]at x;cases x;have J:=RK.nd_of_live (kn d).2.1;rcases K with⟨V,l,Y,_,h3⟩|K
 have:=hw.inj j V b J (RK.nd_of_live Y) hb l;subst this;exact h3 k r q
 rw[hw.xs]at K;exact hw.apart j b J hb K
def Hn(rho:Nat->Option Nat)(b:S0)(nv:T0)(nl:Bool):PV->PV
 | .v x=>.v x
 | .own k v=>match rho k,v==(b k).ver with|some j,k0=>.own j (nv k)|_,_=>.junk
 | .ref k v a=>match rho k,v==(b k).ver with|some j,k0=>.ref j (nv k) a|_,_=>.junk
 | .sl fr d c=>match fr||nl with|true=>.sl fr d c|false=>.junk
 | .eref fr c a=>match fr||nl with|true=>.eref fr c a|false=>.junk
 | _=>.junk
def ren1(rho:Nat->Option Nat)(a:S0)(nv:T0)(nl:Bool):PV->PV
 | .ag c=>.ag (c.map (Hn rho a nv nl))
 | .clo f c=>.clo f (c.map (Hn rho a nv nl))
 | p=>Hn rho a nv nl p
def zaX(rho:Nat->Option Nat)(a:S0)(nv:T0)(nl:Bool):PV->PV
 | .tup c=>.tup (c.map (ren1 rho a nv nl))
 | p=>ren1 rho a nv nl p
def Bi(rho:Nat->Option Nat)(a:S0)(nv:T0)(nl:Bool):RK->RK
 | .box t c=>.box t (c.map (ren1 rho a nv nl))
 | .tab e c=>.tab e (c.map (ren1 rho a nv nl))
 | k=>k
theorem zpY(a:M0):Hn b c d f (.sl h i a)=match h||f with|true=>.sl h i a|false=>.junk:=rfl
theorem ziV(fr:M0)(a:Nat):Hn b c d f (.eref h fr a)=match h||f with|true=>.eref h fr a|false=>.junk:=rfl
theorem lH:Hn b c d f (.own g i)=match b g,i==(c g).ver with|some j,k0=>.own j (d g)|_,_=>.junk:=rfl
theorem zl6(a:Nat):Hn b c d f (.ref g i a)=match b g,i==(c g).ver with|some j,k0=>.ref j (d g) a|_,_=>.junk:=rfl
theorem EY:(Bi b c d f j).nd=j.nd:=by cases j<;>rfl
theorem ziW:(Bi b c d f j).live=j.live:=by cases j<;>rfl
theorem NU:(Bi b c d f j).slice=j.slice:=by cases j<;>rfl
structure Back (rho rho1:Nat->Option Nat) (R1:Nat->Row) (nv:Nat->Nat) (nl:Bool) (Ln:Nat->Prop) (R0 R:Nat->Row):Prop where
 keep:∀k,(R0 k).kind.nd=true->rho1 k=rho k
 inj:∀k k' j,rho1 k=some j->rho1 k'=some j->k=k'
 ver:∀k j,rho1 k=some j->(R0 k).kind.nd=true->(R1 k).ver=(R0 k).ver->nv k=(R j).ver
 new:∀k j,rho1 k=some j->((R0 k).kind.nd=true->(R1 k).ver≠(R0 k).ver)->(R j).ver<nv k
 nl:nl=true->∀j,¬Ln j
variable {rho1:Nat->Option Nat}{nv:T0}{nl:Bool}{inv:Nat->Option Nat}
def bkR(E E':Env)(rho1:Nat->Option Nat)(nv:T0)(nl:Bool)(inv:Nat->Option Nat)(j:Nat):Row :=
 match inv j with|some k=>⟨nv k,Bi rho1 E'.R nv nl (E'.R k).kind⟩|none=>E.R j
def Env.bk(E E':Env)(rho1:Nat->Option Nat)(nv:T0)(nl:Bool)(inv:Nat->Option Nat):Env :=
 { R:=bkR E E' rho1 nv nl inv,rm:=λj=>match inv j with|some k=>E'.rm k|none=>E.rm j,rv:=λj=>match inv j with|some k=>E'.rv k|none=>E.rv j,
   L:=Lf E.X (bkR E E' rho1 nv nl inv) (λj=>match inv j with|some k=>E'.rm k|none=>E.rm j),B:=E.B,X:=E.X }
theorem xF{k:Nat}(h:inv l=n0 k):(E.bk E' rho1 nv nl inv).R l=⟨nv k,Bi rho1 E'.R nv nl (E'.R k).kind⟩/\(E.bk E' rho1 nv nl inv).rm l=E'.rm k/\(E.bk E' rho1 nv nl inv).rv l=E'.rv k:=by simp[Env.bk,bkR,h]
theorem zdw(h:inv l=o0):(E.bk E' rho1 nv nl inv).R l=E.R l/\(E.bk E' rho1 nv nl inv).rm l=E.rm l/\(E.bk E' rho1 nv nl inv).rv l=E.rv l:=by simp[Env.bk,bkR,h]
variable [aw](hw:WOk G E w)(hg:Give rho Ln R0 E.R)(hb:Back rho rho1 E'.R nv nl Ln R0 E.R)(hinv:∀j k,inv j=n0 k↔rho1 k=n0 j)
 (hw':WOk ⟨w,gvM E rho R0,0,(E.gv rho Ln R0 w.heap.size).R,(E.gv rho Ln R0 w.heap.size).rm,(E.gv rho Ln R0 w.heap.size).rv,(E.gv rho Ln R0 w.heap.size).X⟩ E' w')
include hw hg hb hinv hw'
theorem ztd(f:¬E'.L l)(e:nl=k0\/w.heap.size<=l):¬(E.bk E' rho1 nv nl inv).L l:=by
 have m:=hw'.xs;intro h;rcases h with⟨j,c,a⟩|h
 cases g:inv j with
 | some k =>have⟨i,b,_⟩:=xF (E:=E) (E':=E') (rho1:=rho1) (nv:=nv) (nl:=nl) g;have c:(E.bk E' rho1 nv nl inv).rm j=n0 l:=c;have a:((E.bk E' _ nv nl inv).R j).kind.live=true:=a;rw[b]at c;rw[i]at a;rw[ziW]at a;exact f<|(hw'.live l).2<|.inl ⟨k,c,a⟩
 | none =>have⟨i,b,_⟩:=zdw (E:=E) (E':=E') (rho1:=rho1) (nv:=nv) (nl:=nl) g;have c:(E.bk E' rho1 nv nl inv).rm j=n0 l:=c;have a:((E.bk E' _ nv nl inv).R j).kind.live=true:=a;rw[b]at c;rw[i]at a;have n:=(hw.block c<|RK.nd_of_live a).1;by_cases d:Ln j;rcases e with e|e;exact hb.nl e j d;omega;refine f<|(hw'.live l).2<|.inr ?_;rw[m];refine .inl ⟨j,c,a,d,λk o p=>?_⟩;have:=(hinv j k).2<|(hb.keep k o).trans p;grind
 refine f<|(hw'.live l).2<|.inr ?_;exact m▸.inr h
theorem Wf(d:nl=k0\/w.heap.size<=l)(h:Rep w' E'.bare l y x):Rep w' (E.bk E' rho1 nv nl inv).bare l y x :=
 h.above (λ_=>rfl) (λ_=>rfl) rfl rfl λb c e=>ztd hw hg hb hinv hw' e<|d.imp id λh=>aJ h c
theorem zl7{p:PV}{x:E0}(h:Rep w' E' 0 p x):Rep w' (E.bk E' rho1 nv nl inv) 0 (Hn rho1 E'.R nv nl p) x:=by
 have L:E'.B=w.heap.size:=hw'.base;have D:(E.bk E' rho1 nv nl inv).B<=w.heap.size:=by show E.B<=_;rw[hw.base];exact hw.kept.size
 have f:∀fr,(E.bk E' rho1 nv nl inv).lo 0 fr<=E'.lo 0 fr:=λfr=>by unfold Env.lo;grind
 have g:∀fr,(fr||nl)=k0->nl=k0\/w.heap.size<=E'.lo 0 fr:=λfr h=>by
  cases fr with
  | true=>simp_all[Env.lo]
  | false=>grind
 cases h with
 | v y=>exact .v _
 | junk=>exact .junk _
 | ag=>exact .junk _
 | tup=>exact .junk _
 | clo=>exact .junk _
 | @sl _ _ fr M len cap cells a s F G H l t =>
   rw[zpY];cases q:(fr||nl)with
   | false=>exact .junk _
   | true =>refine .sl s F G H (λi m=>?_)<|λi m=>(Wf hw hg hb hinv hw' (g fr q)<|t i m).low<|f fr;have⟨b,o,I,d,u,c⟩:=l i m;exact⟨b,o,I,aJ (f fr) d,ztd hw hg hb hinv hw' u<|(g fr q).imp id λh=>aJ h d,c⟩
 | @eref _ _ fr cells z b o s l t =>
   rw[ziV];cases q:(fr||nl)with
   | false=>exact .junk _
   | true =>refine .eref s (λi m=>?_)<|λi m=>(Wf hw hg hb hinv hw' (g fr q)<|t i m).low<|f fr;have⟨d,u,c⟩:=l i m;exact⟨aJ (f fr) d,ztd hw hg hb hinv hw' u<|(g fr q).imp id λh=>aJ h d,c⟩
 | @own _ _ k v x J A =>
   rw[lH];cases l:rho1 k with
   | none=>exact .junk _
   | some j =>
     cases n:v==(E'.R k).ver with
     | false=>exact .junk _
     | true =>have⟨r,B,C⟩:=xF (E:=E) (E':=E') (rho1:=rho1) (nv:=nv) (nl:=nl) ((hinv j k).2 l);refine .own (by grind) λK e=>?_;simp_all[r,NU,C]
 | @ref _ _ k v z x J A =>
   rw[zl6];cases l:rho1 k with
   | none=>exact .junk _
   | some j =>
     cases n:v==(E'.R k).ver with
     | false=>exact .junk _
     | true =>have⟨r,B,C⟩:=xF (E:=E) (E':=E') (rho1:=rho1) (nv:=nv) (nl:=nl) ((hinv j k).2 l);refine .ref (by grind) λK e=>?_;simp_all[r,EY,B]
theorem EZ(f:PV->PV)(c:∀p x,Rep w' E' 0 p x->Rep w' (E.bk E' rho1 nv nl inv) 0 (f p) x){ps:M0}{vs:List E0}(h:ex w' E' 0 ps vs):ex w' (E.bk E' rho1 nv nl inv) 0 (ps.map f) vs:=⟨ss h.1,λi a b=>by
  have:=c _ _<|h.2 i (ss a) b;grind⟩
theorem zaY{p:PV}{x:E0}(h:Rep w' E' 0 p x):Rep w' (E.bk E' rho1 nv nl inv) 0 (ren1 rho1 E'.R nv nl p) x:=by
 have g:=λp x=>zl7 hw hg hb hinv hw' (p:=p) (x:=x);cases h with
 | @ag _ _ cells l i j=>have:=EZ hw hg hb hinv hw' _ g ⟨i,j⟩;exact .ag this.1 this.2
 | @clo _ _ f cells l i j=>have:=EZ hw hg hb hinv hw' _ g ⟨i,j⟩;exact .clo this.1 this.2
 | v y=>exact g _ _<|.v _
 | junk=>exact g _ _<|.junk _
 | tup i j=>exact g _ _<|.tup i j
 | sl k a b c d e=>exact g _ _<|.sl k a b c d e
 | eref k a b=>exact g _ _<|.eref k a b
 | own a b=>exact g _ _<|.own a b
 | ref a b=>exact g _ _<|.ref a b
theorem zl8(h:Rep w' E' 0 y x):Rep w' (E.bk E' rho1 nv nl inv) 0 (zaX rho1 E'.R nv nl y) x:=by
 have f:=λy x=>zaY hw hg hb hinv hw' (p:=y) (x:=x);cases h with
 | @tup _ _ cells k g i=>have:=EZ hw hg hb hinv hw' _ f ⟨g,i⟩;exact .tup this.1 this.2
 | ag g i=>exact f _ _<|.ag g i
 | clo g i=>exact f _ _<|.clo g i
 | v p=>exact f _ _<|.v _
 | junk=>exact f _ _<|.junk _
 | sl j a b c d e=>exact f _ _<|.sl j a b c d e
 | eref j a b=>exact f _ _<|.eref j a b
 | own a b=>exact f _ _<|.own a b
 | ref a b=>exact f _ _<|.ref a b
theorem zl9{k b:Nat}(i:inv l=n0 k)(e:E'.rm k=n0 b)(j:(E'.R k).kind.nd=k0):w.heap.size<=b\/(E.rm l=n0 b/\(E.R l).kind.live=k0):=by
 rcases(hw'.block e j).2 with h|⟨_,c,o,d,f⟩
 grind;have g:=(hinv l k).1 i;rw[hb.keep k c,d]at g;cases g;have⟨_,_,m,a,n⟩:=hg.row k c;rw[d]at a;cases a;exact .inr ⟨f,(kn n).2.1⟩
theorem zpZ:Turn G E (E.bk E' rho1 nv nl inv) w w' (λj=>∃k,inv j=n0 k):=by
 have n:∀j,¬(∃k,inv j=n0 k)->inv j=none:=λj h=>by
  cases a:inv j with
  | none=>rfl
  | some k=>exact absurd ⟨k,a⟩ h
 have d:∀j k,inv j=n0 k->(R0 k).kind.nd=k0->rho k=n0 j/\(E.R j).kind.live=k0/\(R0 k).kind.slice=(E.R j).kind.slice:=λj k a c=>by have e:=(hinv j k).1 a;rw[hb.keep k c]at e;have⟨_,_,F,p,H⟩:=hg.row k c;rw[e]at p;cases p;exact⟨e,(kn H).2.1,(kn H).2.2⟩
 have r:∀j k,inv j=n0 k->nv k=(E.R j).ver->(R0 k).kind.nd=k0/\(E'.R k).ver=(R0 k).ver:=λj k a l=>by by_cases g:(R0 k).kind.nd=k0/\(E'.R k).ver=(R0 k).ver;exact g;have:=hb.new k j ((hinv j k).1 a) λe i=>g ⟨e,i⟩;omega
 refine⟨rfl,rfl,rfl,λj y=>?_,λb z O=>?_,λj b⟨k,a⟩s c=>?_,λj⟨k,a⟩=>?_,λj⟨k,a⟩l f=>?_,λj⟨k,a⟩l f=>?_,λj⟨k,a⟩c=>?_,λj F b⟨k,a⟩⟨I,t⟩u x J K=>?_,hw'.kept.size,hw'.kept.os,hw'.kept.tape,hw'.kept.output⟩;exact zdw<|n j y;refine hw'.kept.block b z λk⟨c,j,y,A⟩=>?_;have a:=(hinv j k).2<|(hb.keep k c).trans y;have e:=O j ⟨k,a⟩ A;rw[(d j k a c).2.1]at e;cases e;have⟨m,o,_⟩:=xF (E:=E) (E':=E') (rho1:=rho1) (nv:=nv) (nl:=nl) a;rw[o]at s;rw[m]at c;have c:(Bi rho1 E'.R nv nl (E'.R k).kind).nd=true:=c;rw[EY]at c;rcases zl9 hw hg hb hinv hw' a s c with h|⟨e,i⟩
 exact .inl h;exact .inr ⟨e,RK.nd_of_live i,λ_=>i⟩;rw[(xF a).1];show(E.R j).ver<=nv k;by_cases g:(R0 k).kind.nd=k0/\(E'.R k).ver=(R0 k).ver;exact rI (hb.ver k j ((hinv j k).1 a) g.1 g.2).symm;exact dY<|hb.new k j ((hinv j k).1 a) λe i=>g ⟨e,i⟩;have⟨m,o,L⟩:=xF (E:=E) (E':=E') (rho1:=rho1) (nv:=nv) (nl:=nl) a;rw[m]at l f;have l:nv k=(E.R j).ver:=l;have f:(Bi rho1 E'.R nv nl (E'.R k).kind).slice=true:=f;rw[NU]at f;have⟨c,B⟩:=r j k a l;have⟨C,M,N⟩:=d j k a c;have⟨_,_,q⟩:=(hw'.pin k).2 B (RK.nd_of_slice f);have⟨D,P⟩:=q f;have D:(R0 k).kind.slice=true:=D;refine⟨by rw[<- N];exact D,?_⟩;rw[L,P];show(match rho k with|some j=>E.rv j|none=>default)=_;rw[C];have⟨m,o,L⟩:=xF (E:=E) (E':=E') (rho1:=rho1) (nv:=nv) (nl:=nl) a;rw[m]at l f;have l:nv k=(E.R j).ver:=l;have f:(Bi rho1 E'.R nv nl (E'.R k).kind).nd=true:=f;rw[EY]at f;have⟨c,B⟩:=r j k a l;have⟨C,M,N⟩:=d j k a c;have⟨_,q,_⟩:=(hw'.pin k).2 B f;refine⟨RK.nd_of_live M,?_⟩;rw[o,q];exact Wc c C;have⟨m,_,_⟩:=xF (E:=E) (E':=E') (rho1:=rho1) (nv:=nv) (nl:=nl) a;rw[m]at c ⊢;have c:(Bi rho1 E'.R nv nl (E'.R k).kind).nd=true:=c;rw[EY]at c;show 0<nv k;by_cases g:(R0 k).kind.nd=k0/\(E'.R k).ver=(R0 k).ver;rw[hb.ver k j ((hinv j k).1 a) g.1 g.2];exact hw.pos j<|RK.nd_of_live (d j k a g.1).2.1;have:=hb.new k j ((hinv j k).1 a) λe i=>g ⟨e,i⟩;omega;have⟨m,o,_⟩:=xF (E:=E) (E':=E') (rho1:=rho1) (nv:=nv) (nl:=nl) a;have⟨Q,R,_⟩:=xF (E:=E) (E':=E') (rho1:=rho1) (nv:=nv) (nl:=nl) t;rw[o]at J;rw[R]at K;rw[m]at u;rw[Q]at x;have u:(Bi rho1 E'.R nv nl (E'.R k).kind).nd=true:=u;have x:(Bi rho1 E'.R nv nl (E'.R I).kind).nd=true:=x;rw[EY]at u x;have:=hw'.inj k I b u x J K;subst this;have e:=(hinv j k).1 a;have i:=(hinv F k).1 t;rw[e]at i;cases i;rfl
theorem zp0:∀j,(∃k,inv j=n0 k)->cn w' (E.bk E' rho1 nv nl inv) G.C j:=by
 rintro j ⟨k,I⟩;have⟨L,M,N⟩:=xF (E:=E) (E':=E') (rho1:=rho1) (nv:=nv) (nl:=nl) I;have J:E'.B=w.heap.size:=hw'.base;have B:(E.bk E' rho1 nv nl inv).B<=w.heap.size:=by show E.B<=_;rw[hw.base];exact hw.kept.size
 have u:∀b,E'.rm k=n0 b->(E'.R k).kind.nd=k0->G.C j b:=λb C O=>by rcases zl9 hw hg hb hinv hw' I C O with h|⟨z,P⟩;exact .inl<|aJ hw.kept.size h;exact(hw.block z<|RK.nd_of_live P).2
 have z:=λK o=>EZ hw hg hb hinv hw' (ren1 rho1 E'.R nv nl) (λp x=>zaY hw hg hb hinv hw' (p:=p) (x:=x)) (ps:=K) (vs:=o);have a:=hw'.rows k;unfold cn at a ⊢;rw[L,M,N];show match Bi rho1 E'.R nv nl (E'.R k).kind with|.dead=>True|.nil=>_|.box t cells=>_|.sli e Q _ cells=>_|.tab e cells=>_|.mp f=>_
 cases l:(E'.R k).kind with
 | dead=>trivial
 | nil=>rw[l]at a;exact a
 | box t c =>rw[l]at a;have⟨b,o,d,r,m,q⟩:=a;exact⟨b,o,d,u b d<|by rw[l];rfl,m,z _ _ q⟩
 | sli e Q V c =>
   rw[l]at a;rcases a with R|⟨b,n,cap,o,g,d,r,m,q,s,D,F,H,A⟩
   exact .inl R;exact .inr ⟨b,n,cap,o,g,d,u b d<|by rw[l];rfl,m,q,s,D,F,H,A.1,λi x y=>(Wf hw hg hb hinv hw' (.inr<|rI J.symm)<|A.2 i x y).low<|by rw[J];exact B⟩
 | tab e c =>
   rw[l]at a;rcases a with⟨d,r,m⟩|⟨b,n,cap,o,g,d,r,m,q,s,D,F,H,A⟩
   exact .inl ⟨d,r,by rw[m];rfl⟩;exact .inr ⟨b,n,cap,o,g,d,u b d<|by rw[l];rfl,m,q,s,D,F,H,z _ _ A⟩
 | mp f =>rw[l]at a;have⟨b,S,U,d,r,m,q,s⟩:=a;exact⟨b,S,U,d,u b d<|by rw[l];rfl,m,q,s⟩
end
theorem zte(h:∀k c j,r k=n0 j->r c=n0 j->k=c):∃inv:Nat->Option Nat,∀j k,inv j=n0 k↔r k=n0 j:=by
 classical
 refine⟨λj=>if a:∃k,r k=n0 j then n0 a.choose else o0,λj k=>?_⟩;by_cases a:∃k,r k=n0 j;grind;grind
structure After (s S:St) (dst:Option Nat) (rho1:Nat->Option Nat) (nv:Nat->Nat) (nl:Bool) (R1:Nat->Row) (p:PV):Prop where
 row:∀k j,rho1 k=some j->S.rw j=⟨nv k,Bi rho1 R1 nv nl (R1 k).kind⟩
 off:∀j,(∀k,rho1 k≠some j)->S.rw j=s.rw j
 sl:S.sl=(s.put dst (zaX rho1 R1 nv nl p)).sl
def askG[aw](P:G0)(s:St)(g:FuncId)(a:M0)(b:Option Nat)(K:St->Prop):Prop :=
 ∃(args:M0) (R0:S0) (post:(S0)->PV->Prop) (rho:Nat->Option Nat) (Ln:l1),
  AG P g args R0 post/\GvL rho Ln R0 s.rw args a/\Give rho Ln R0 s.rw /\
  ∀c p,post c p->∃(rho1:Nat->Option Nat)(nv:T0)(nl:Bool),Back rho rho1 c nv nl Ln R0 s.rw/\∀S:St,After s S b rho1 nv nl c p->K S
theorem yQ[aw]{P:G0}{G:Ghost}{s:St}{w:C0}{o:Oper}{c:Call}{f:B0}{K:St->Prop}(ho:o.op=.call c)(hc:c.callee=.value f)(hd:∀d,o.dst=n0 d->d<G.n)(hk:match s.ev f with|.clo g caps=>askG P s g (c.args.toList.map s.ev++caps) o.dst K|_=>False){a:Act}(hs:rt G s a w){K':Act->C0->Prop}{Q:Exit->Act->C0->Prop}(hK:∀s' a' w',K s'->rt G s' a' w'->K' a' w'):o.wp P a w K' Q:=by
 split at hk
 rename_i g caps hev;have⟨args,R0,post,rho,Ln,hag,hgl,hgv,hk⟩:=hk;have⟨E,hs⟩:=hs;have hfx:=dE hs.slots f;rw[hev]at hfx;generalize hvf:a.eval f=vf at hfx;cases hfx with
 | @clo _ _ _ _ vs hl hh' =>
   have⟨hent,hcall⟩:=hag;rw[<- hs.rw]at hgl hgv
   have hraw:ex w E 0 (c.args.toList.map s.ev++caps) (c.args.toList.map a.eval++vs) :=
    ex.append (ex.map λx _=>dE hs.slots x) ⟨hl,hh'⟩
   have hcall:=hcall w (gvM E rho R0) (E.gv rho Ln R0 w.heap.size) _ (zvr hs.wok hgv) rfl<|We hs.wok hgv _ hgl hraw;unfold Oper.wp;rw[EU ho hc hvf hent];show Calls P g _ w _;refine hcall.mono λen w'⟨E',p,v,he,hw',hrep,hpost⟩=>?_;subst he;have⟨rho1,nv,nl,hbk,hk⟩:=hk E'.R p hpost;rw[<- hs.rw]at hbk;have⟨inv,hinv⟩:=zte hbk.inj;have hsim:=(zpZ hs.wok hgv hbk hinv hw').sim hs<|zp0 hs.wok hgv hbk hinv hw';have hput:=hsim.put hd<|zl8 hs.wok hgv hbk hinv hw' hrep;refine hK _ _ _ (hk _ ⟨λk j hkj=>?_,λj hj=>?_,?_⟩) ⟨_,hput⟩
   have:(St.put { s with rw:=(E.bk E' rho1 nv nl inv).R } o.dst<|zaX rho1 E'.R nv nl p).rw j=(E.bk E' rho1 nv nl inv).R j:=by cases o.dst<;>rfl
   rw[this,(xF<|(hinv j k).2 hkj).1]
   have:(St.put { s with rw:=(E.bk E' rho1 nv nl inv).R } o.dst<|zaX rho1 E'.R nv nl p).rw j=(E.bk E' rho1 nv nl inv).R j:=by cases o.dst<;>rfl
   have hn:inv j=none:=by
    cases hi:inv j with
    | none=>rfl
    | some k=>exact absurd ((hinv j k).1 hi)<|hj k
   rw[this,(zdw hn).1,hs.rw]
   cases o.dst<;>rfl
 exact hk.elim
end Go.Abs
