/- DERIVED by an AI agent. -/
import Derived.Test.YtijabbemjaioeaaGreatDoorA2
import Derived.Lib.AppendStr
set_option linter.all false
namespace Go.Abs
open Bool renaming true→k0,false→l0
open Option renaming some→n0,none→o0
open Go renaming TypeId→A0,World→C0,Value→E0
open List renaming range→lc,replicate→ld,getD→lg,length→lh
variable (b:Row){x:E0}{Q:Exit->Act->C0->Prop}{K:Act->C0->Prop}{c:Nat}{t:A0}{d:Option Nat}{e:M0}{h:List E0}{p:PV}{f:C0}{g:Operand}{i:Ghost}{j:Row}
def ziQ(w:C0)(e d:Nat)(m:Option Nat)(v:E0)(c:List E0):Prop :=
 (m=o0/\v=.slice o0 0 0/\c=[]) \/
 ∃b n cap a,m=n0 b/\v=.slice (n0 ⟨b,0,o0⟩) n cap/\w.heap[b]?=n0 (.cells (c++a).toArray e (0,0))/\c.length=n*d/\n<=cap/\cap<=maxLen/\(c++a).length=cap*d
structure Appended [aw] (w w':World) (e sz:Nat) (m m':Option Nat) (v':Value) (vs:List Value):Prop where
 phys:ziQ w' e sz m' v' vs
 block:∀b,b<w.heap.size->m≠some b->w'.heap[b]?=w.heap[b]?
 size:w.heap.size<=w'.heap.size
 os:w'.os=w.os
 tape:w'.tape=w.tape
 output:OutLe w w'
 fresh:∀b,m'=some b->m=some b\/w.heap.size<=b
section
variable {P:Program}{T:gg}
theorem yK[aw](N:T.Ok P){e:A0}(J:A0)(ht:0<(T t).size)(hk:(T t).k=.sli e)(s:0<(T e).size)(x:0<(T e).bytes){m:Option Nat}{v:E0}{vs a:List E0}(O:ziQ f e (T e).size m v vs){K:Option Addr}{mx cx:Nat}(l:lh a=mx*(T e).size)(p:∀i u,a[i]?=n0 u->∃b o,K=n0 ⟨b,o,o0⟩/\f.cell? ⟨b,o+i,o0⟩=n0 u)(Q:∀u∈a,u.oneCell'=k0)(r:(lh vs+lh a)*(T e).bytes<=140737488355328) :
 ∃v' w' m',(Builtin.append_ #[t,t] J #[v,.slice K mx cx]).run P f=.ok v' w'/\Appended f w' e (T e).size m m' v' (vs++a):=by
 have hf:=N t ht
 have y:P.underlying t=n0 (.slice e):=by have:=hf.k;rw[hk]at this;exact this
 obtain⟨i,z,A,R,B,hz,S⟩:=(N e s).info
 have c:i.size=(T e).size:=R
 have C:z.cells.size=(T e).size:=by rw[<- dU,S];exact(N e s).zlen
 by_cases hm:mx=0
 subst hm;have U:a=[]:=aL<|ss l;subst U;refine⟨v,f,m,?_,⟨ss O,λ_ _ _=>rfl,ab _,rfl,rfl,⟨rfl,λ_=>by first|exact ab _|exact cK _⟩,λb h=>.inl h⟩⟩;rcases O with⟨_,rfl,_⟩|⟨b,n,cap,q,_,rfl,_,_,D,_⟩
 cases K<;>simp[Builtin.append_,run_underlying y,sizeOf,typeInfo,A,Builtin.lenOf,Builtin.firstCells,loadCells,loadCellsFrom]
 cases K<;>simp[Builtin.append_,run_underlying y,sizeOf,typeInfo,A,Builtin.lenOf,Builtin.firstCells,loadCells,loadCellsFrom,D,storeCells]
 have E:0<lh a:=by rw[l];exact Nat.mul_pos om s
 obtain⟨L,M,rfl,_⟩:=p 0 a[0] (by simp[E]);have d:∀j u,a[j]?=n0 u->f.cell? ((⟨L,M,o0⟩:Addr).add j)=n0 u:=λj u V=>by
  obtain⟨b',o',W,hc⟩:=p j u V;simp_all[oN]
 have F:mx<=lh a:=by rw[l];exact iC _ s
 have a2:lh vs+lh a<=140737488355328:=aJ (iC _ x) r;rcases O with⟨rfl,rfl,rfl⟩|⟨b,n,cap,q,rfl,rfl,X,w,D,Y,G⟩
 have H:=run_append_nil (P:=P) f t J e i z y A hz ⟨L,M,o0⟩ mx cx a (by rw[l,c]) d om om<|by
  rw[B];have:mx*(T e).bytes<=a.length*(T e).bytes:=ec _ F;simp at r;omega
 refine⟨_,_,n0 f.heap.size,H,⟨.inr ⟨f.heap.size,mx,_,(Builtin.zeroCells z.cells<|grownCap f mx 0 e-mx).toList,rfl,rfl,?_,ss l,grownCap_ge f mx 0 e,grownCap_le_maxLen f mx 0 e<|by simp[maxLen];omega,?_⟩,λb x _=>?_,sp,rfl,rfl,⟨rfl,λ_=>by first|exact ab _|exact cK _⟩,λb h=>.inr<|by simp at h;omega⟩⟩
 have:=heap_alloc_new f.drew<|.cells (a.toArray++Builtin.zeroCells z.cells (grownCap f mx 0 e-mx)) e;simp_all
 have Z:=grownCap_ge f mx 0 e;simp only[eg,aA,dU,size_zeroCells,C,l,<- fA];congr 1;omega
 exact(Ext.alloc f.drew _).block b x
 have a3:n<=lh vs:=by rw[w];exact iC _ s
 by_cases g:n+mx<=cap
 have H:=run_append_room (P:=P) f t J e i y A b n cap (vs++q).toArray X ⟨L,M,o0⟩ mx cx a (by rw[l,c]) d Q g<|by
  rw[c,<- w];simp;have:(n+mx)*(T e).size<=cap*(T e).size:=ec _ g;rw[fA,<- w,<- l,<- G]at this;simpa using this
 refine⟨_,_,n0 b,H,⟨.inr ⟨b,n+mx,cap,q.drop<|lh a,rfl,rfl,?_,?_,g,Y,?_⟩,λk hk a0=>?_,sp,rfl,rfl,⟨rfl,λ_=>by first|exact ab _|exact cK _⟩,λb' h=>.inl h⟩⟩
 rw[setRow_heap f b _ _ e _ X];congr 2;rw[c,<- w];simp[List.take_left',wm]
 rw[aA,w,l,<- fA]
 have:(n+mx)*(T e).size<=cap*(T e).size:=ec _ g;rw[fA,<- w,<- l]at this;simp at G ⊢;omega
 exact setRow_other f b k _<|λe=>a0<|by rw[e]
 have I:∀j u,vs[j]?=n0 u->f.cell? ((⟨b,0,o0⟩:Addr).add j)=n0 u:=λj u V=>by obtain⟨a1,rfl⟩:=List.getElem?_eq_some_iff.1 V;rw[oN,cm,eF X<|by simp;omega];simp[bM a1]
 have H:=run_append_grow (P:=P) f t J e i z y A hz ⟨b,0,o0⟩ n cap vs (by rw[w,c]) I ⟨L,M,o0⟩ mx cx a (by rw[l,c]) d om om<|growslice_fits om<|by
  rw[B];have:(n+mx)*(T e).bytes<=(lh vs+lh a)*(T e).bytes:=ec _ om;omega
 refine⟨_,_,n0 f.heap.size,H,⟨.inr ⟨f.heap.size,n+mx,_,(Builtin.zeroCells z.cells<|grownCap f (n+mx) cap e-(n+mx)).toList,rfl,rfl,?_,?_,grownCap_ge f _ _ e,grownCap_le_maxLen f _ _ e<|by simp[maxLen];omega,?_⟩,λb x _=>?_,sp,rfl,rfl,⟨rfl,λ_=>by first|exact ab _|exact cK _⟩,λb h=>.inr<|by simp at h;omega⟩⟩
 have:=heap_alloc_new f.drew<|.cells (vs.toArray++a.toArray++Builtin.zeroCells z.cells (grownCap f (n+mx) cap e-(n+mx))) e;simp_all
 rw[aA,w,l,<- fA]
 have Z:=grownCap_ge f (n+mx) cap e;simp only[aA,dU,size_zeroCells,C,w,l,<- fA];congr 1;omega
 exact(Ext.alloc f.drew _).block b x
end
def Gx(r:Row):Row:=match r.kind with|.sli e a _ c=>⟨r.ver,.sli e a k0 c⟩|_=>r
def oL(R:S0)(a:O0):S0:=λk=>if k∈a then Gx (R k)else R k
def St.freeze(s:St)(ks:O0):St:={ s with rw:=oL s.rw ks }
theorem Le:(Gx b).ver=b.ver:=by unfold Gx;grind
theorem rY:(Gx b).kind.nd=b.kind.nd:=by unfold Gx;split<;>simp_all [RK.nd]
theorem TQ:(Gx b).kind.slice=b.kind.slice:=by unfold Gx;split<;>simp_all [RK.slice]
theorem ES(h:(Gx b).kind.live=k0):b.kind.live=true:=by unfold Gx at h;split at h<;>simp_all [RK.live]
theorem uI(R:S0):oL R []=R:=rfl
theorem St.freeze_nil[aw](s:St):s.freeze []=s:=rfl
def Env.turn(E:Env)(fz:O0)(k:Nat)(r:Row)(m:Option Nat)(v:E0):Env :=
 { R:=fM (oL E.R fz) k r,rm:=fM E.rm k m,rv:=fM E.rv k v,L:=Lf E.X (fM (oL E.R fz) k r) (fM E.rm k m),B:=E.B,X:=E.X }
structure OneTurn [aw] (E:Env) (w w':World) (k:Nat) (r:Row) (m:Option Nat) (v:Value):Prop where
 blocks:∀b,b<w.heap.size->(E.rm k=some b->(E.R k).kind.live=false)->w'.heap[b]?=w.heap[b]?
 fresh:∀b,m=some b->r.kind.nd=true->w.heap.size<=b\/(E.rm k=some b/\(E.R k).kind.nd=true/\(r.kind.live=true->(E.R k).kind.live=true))
 ver:(E.R k).ver<=r.ver
 same1:r.ver=(E.R k).ver->r.kind.slice=true->(E.R k).kind.slice=true/\v=E.rv k
 same2:r.ver=(E.R k).ver->r.kind.nd=true->(E.R k).kind.nd=true/\m=E.rm k
 pos:r.kind.nd=true->0<r.ver
 size:w.heap.size<=w'.heap.size
 os:w'.os=w.os
 tape:w'.tape=w.tape
 output:OutLe w w'
section
variable {G:Ghost}{E:Env}{w w':C0}{k:Nat}{r:Row}{m:Option Nat}{v:E0}{fz:O0}
theorem tW[aw](j:Nat)(h:j≠k):(E.turn fz k r m v).R j=if j∈fz then Gx (E.R j)else E.R j:=by simp_all[Env.turn,bu,oL]
theorem OneTurn.turn[aw](hw:WOk G E w)(h:OneTurn E w w' k r m v):Turn G E (E.turn fz k r m v) w w' (λj=>j=k\/j∈fz) where
 L:=rfl
 B:=rfl
 X:=rfl
 keep j hj:=by have h1:=λe=>hj<|.inl e;refine⟨by rw[tW j h1,ac (λe=>hj<|.inr e)],by simp[Env.turn,bu _ _ h1],by simp[Env.turn,bu _ _ h1]⟩
 blocks b hb hD:=h.blocks b hb λhk=>hD k (.inl rfl) hk
 fresh j b hD hb hn:=by by_cases hj:j=k;subst hj;simp[Env.turn,aT]at hb hn ⊢;exact h.fresh b hb hn;rw[tW j hj]at hn ⊢;simp[Env.turn,bu _ _ hj]at hb;have hf:=hD.resolve_left hj;rw[ae hf,rY]at hn;exact ae hf▸.inr ⟨hb,hn,ES _⟩
 ver j hD:=by by_cases hj:j=k;subst hj;simp[Env.turn,aT];exact h.ver;rw[tW j hj];split<;>simp[Le]
 same1 j hD he hs:=by by_cases hj:j=k;subst hj;simp[Env.turn,aT]at he hs ⊢;exact h.same1 he hs;rw[tW j hj]at hs;simp_all[Env.turn,bu,TQ]
 same2 j hD he hs:=by by_cases hj:j=k;subst hj;simp[Env.turn,aT]at he hs ⊢;exact h.same2 he hs;rw[tW j hj]at hs;simp_all[Env.turn,bu,rY]
 pos j hD hn:=by by_cases hj:j=k;subst hj;simp[Env.turn,aT]at hn ⊢;exact h.pos hn;rw[tW j hj]at hn ⊢;split at hn;rename_i hf;rw[rY]at hn;rw[ae hf,Le];exact hw.pos j hn;grind
 inj j j' b hD hD' hn hn' hb hb':=by
  by_cases hj:j=k;by_cases hj':j'=k;omega;subst hj;rw[tW j' hj']at hn';simp[Env.turn,aT]at hb hn;simp[Env.turn,bu _ _ hj']at hb';rw[ae<|hD'.resolve_left hj',rY]at hn';rcases h.fresh b hb hn with hf|⟨h1,h2,_⟩
  have:=(hw.block hb' hn').1;omega;exact hw.inj _ _ b h2 hn' h1 hb';rw[tW j hj,ae<|hD.resolve_left hj,rY]at hn;simp[Env.turn,bu _ _ hj]at hb;by_cases hj':j'=k;subst hj';simp[Env.turn,aT]at hb' hn';rcases h.fresh b hb' hn' with hf|⟨h1,h2,_⟩
  have:=(hw.block hb hn).1;omega;exact hw.inj _ _ b hn h2 hb h1;rw[tW j' hj',ae<|hD'.resolve_left hj',rY]at hn';simp[Env.turn,bu _ _ hj']at hb';exact hw.inj _ _ b hn hn' hb hb'
 size:=h.size
 os:=h.os
 tape:=h.tape
 output:=h.output
theorem OneTurn.rows[aw](s:WOk G E w)(h:OneTurn E w w' k r m v)(A:∀j∈fz,j≠k)(u:Lasts w w' E (E.turn fz k r m v)->cn w' (E.turn fz k r m v) G.C k) :
 ∀j,(j=k\/j∈fz)->cn w' (E.turn fz k r m v) G.C j:=by
 have z:=(h.turn (fz:=fz) s).lasts s
 intro j L
 by_cases q:j=k
 subst q;exact u z
 have M:j∈fz:=L.resolve_left q;have a:=s.rows j;have c:∀b,E.rm j=n0 b->(E.R j).kind.nd=k0->w'.heap[b]?=w.heap[b]?:=λb J K=>by
  refine h.blocks b (s.block J K).1 λB=>?_;cases C:(E.R k).kind.live with
  | false=>rfl
  | true=>exact absurd (s.inj j k b K (RK.nd_of_live C) J B) q
 unfold cn at a ⊢;rw[tW j q,ae M];have N:(E.turn fz k r m v).rm j=E.rm j:=by simp[Env.turn,bu _ _ q]
 have O:(E.turn fz k r m v).rv j=E.rv j:=by simp[Env.turn,bu _ _ q]
 rw[N,O];cases i:(E.R j).kind with
 | dead=>simp[Gx,i]
 | nil=>simp only[i,Gx]at a ⊢;exact a
 | box t cells =>simp only[i,Gx]at a ⊢;have⟨b,x,d,l,o,p⟩:=a;exact⟨b,x,d,l,(c b d<|by rw[i];rfl).trans o,p.mono z<|ab _⟩
 | sli e S P cells =>
   simp only[i,Gx]at a ⊢;rcases a with a|⟨b,n,cap,x,g,d,l,o,p,y,D,F,H,I⟩
   exact .inl a
   exact .inr ⟨b,n,cap,x,g,d,l,o,(c b d<|by rw[i];rfl).trans p,y,D,F,H,I.mono z.bare<|ab _⟩
 | tab e cells =>
   simp only[i,Gx]at a ⊢;rcases a with a|⟨b,n,cap,x,g,d,l,o,p,y,D,F,H,I⟩
   exact .inl a
   exact .inr ⟨b,n,cap,x,g,d,l,o,(c b d<|by rw[i];rfl).trans p,y,D,F,H,I.mono z<|ab _⟩
 | mp f =>simp only[i,Gx]at a ⊢;have⟨b,Q,R,d,l,o,p,y⟩:=a;exact⟨b,Q,R,d,l,o,(c b d<|by rw[i];rfl).trans p,y⟩
end
def NL:PV->Bool|.v x=>x.oneCell'|_=>l0
def kK(rw:S0)(p:PV)(K:M0->O0->Prop):Prop :=
 match p with
 | .v x=>x.oneCell'=k0/\K [.v x] []
 | .sl fr a c=>fr=k0/\K [.sl l0 a c] []
 | .own k b=>(rw k).ver=b/\k<lent/\(match (rw k).kind with|.nil=>K [.sl l0 1 []] []|.sli _ a _ c=>K [.sl l0 a c] [k]|_=>False)
 | .ag c=>(∀x∈c,NL x=k0)/\K c []
 | _=>False
theorem ET[aw]{w w':C0}{E E':Env}{a lo':Nat}(h:NL p=k0)(b:Rep w E a p x):Rep w' E' lo' p x/\x.oneCell'=true:=by
 cases p<;>simp[NL]at h;have:=b.v_eq;subst this;exact⟨.v _,h⟩
theorem Ju[aw]{rw:S0}{E:Env}{K:M0->O0->Prop}(d:kK rw p K)(Y:E.R=rw)(S:WOk i E f)(Z:Rep f E 0 p x) :
 ∃c w,K c w/\c.length=x.cells.size/\(∀y∈x.cells.toList,y.oneCell'=k0)/\(∀j∈w,j<lent/\∃e N fz cc,(E.R j).kind=.sli e N fz cc) /\
  ∀(w':C0)(h:Env),Lasts f w' E h->h.B=E.B->(∀j∈w,∀b,E.rm j=n0 b->w'.heap[b]?=f.heap[b]?/\¬h.L b)->ex w' h.bare h.B c x.cells.toList:=by
 subst Y
 cases Z with
 | v =>
   refine⟨_,_,d.2,by rw[mH d.1];rfl,λy l=>?_,sp,λw' h _ _ _=>?_⟩
   rw[mH d.1]at l;simp at l;subst l;exact d.1
   rw[mH d.1];exact⟨rfl,λG a b=>by simp at a;subst a;exact .v _⟩
 | @sl _ _ fr N len cap cells a cs B hc hm hr I =>
   obtain⟨rfl,d⟩:=d
   refine⟨_,_,d,rfl,λy l=>by simp[E0.cells]at l;subst l;rfl,sp,λw' h u C _=>⟨rfl,λG a b=>?_⟩⟩
   simp at a;subst a
   have U:E.lo 0 k0=E.B:=by simp[Env.lo]
   have D:h.bare.lo h.B l0=h.B:=by simp[Env.lo,Env.bare]
   refine Rep.sl cs B hc hm (λG r=>?_)<|λG r=>?_
   obtain⟨O,o,ha,P,hL,s⟩:=hr G r;obtain⟨J,L⟩:=u.cells O (CH s) hL;exact⟨O,o,ha,by rw[D,C,<- U];exact P,L,(tY J).trans s⟩
   rw[D];exact(I G r).mono u.bare<|by rw[U,C];exact ab _
 | @own _ _ k a0 _ hv V =>
   obtain⟨J,L,d⟩:=d
   have m:=S.rows k
   unfold cn at m
   cases g:(E.R k).kind with
   | dead=>simp only[g]at d
   | box t c=>simp only[g]at d
   | tab e c=>simp only[g]at d
   | mp w=>simp only[g]at d
   | nil =>
     simp only[g]at d m
     rw[V J<|by rw[g];rfl,m.2]
     exact⟨_,_,d,rfl,λy l=>by simp[E0.cells]at l;subst l;rfl,sp,λw' h _ _ _=>⟨rfl,λG a b=>by simp at a;subst a;exact qs _ _ _ _ _⟩⟩
   | sli e N fz c =>
     simp only[g]at d m
     have F:=V J<|by rw[g];rfl
     rcases m with⟨W,z,Q⟩|⟨b,n,cap,A,X,W,z,Q,g4,g5,g6,g7,g8,M⟩
     rw[F,z];subst Q
     exact⟨_,_,d,rfl,λy l=>by simp[E0.cells]at l;subst l;rfl,λj H=>by simp at H;subst H;exact⟨L,_,_,_,_,g⟩,
      λw' h _ _ _=>⟨rfl,λG a b=>by simp at a;subst a;exact qs _ _ _ _ _⟩⟩
     rw[F,Q];refine⟨_,_,d,rfl,λy l=>by simp[E0.cells]at l;subst l;rfl,λj H=>by simp at H;subst H;exact⟨L,_,_,_,_,g⟩,λw' h u C hf=>⟨rfl,λG a O=>?_⟩⟩;simp at a;subst a;obtain⟨q1,q2⟩:=hf k sp b W;have R:E.B<=b:=by
      rw[S.base];rcases z with z|z
      exact z;exact absurd z.1 om
     have D:h.bare.lo h.B l0=h.B:=by simp[Env.lo,Env.bare]
     refine Rep.sl (λG=>lg A G undef) (M.1.trans g5) g6 g7 (λG r=>⟨b,0,rfl,by rw[D,C];exact R,q2,?_⟩)<|λG r=>?_
     have q:G<lh A:=by rw[<- M.1];exact r
     rw[cm,eF (q1.trans g4)<|by simp;omega];simp[bM q,lg,q]
     have q:G<lh A:=by rw[<- M.1];exact r
     have e:lg A G undef=A[G]:=by simp[lg,q]
     rw[e,D];exact(M.2 G r q).mono u.bare<|by rw[C];exact ab _
 | @ag _ _ c A B I =>
   refine⟨_,_,d.2,by simpa[E0.cells]using B,λy l=>?_,sp,λw' h _ _ _=>⟨B,λG a b=>?_⟩⟩
   obtain⟨G,r,rfl⟩:=bV l;have q:G<lh c:=by rw[B];exact r
   exact(ET (w':=f) (E':=E) (lo':=0) (d.1 _<|bx q)<|I G q r).2
   exact(ET (d.1 _<|bx a)<|I G a b).1
 | ref=>exact d.elim
 | eref=>exact d.elim
 | tup=>exact d.elim
 | clo=>exact d.elim
 | junk=>exact d.elim
def nt(c:M0)(a:Nat)(new:M0):M0 :=
 match new with
 | [p]=>c.set a p
 | _=>c.take a++new++c.drop (a+lh new)
theorem zl1(c:M0)(a:Nat)(new:M0)(h:a+lh new<=lh c):nt c a new=c.take a++new++c.drop (a+lh new):=by
 unfold nt;split;have:a<lh c:=by grind
 simp[List.set_eq_take_append_cons_drop,this];rfl
def qz(rw:S0)(p:PV):Prop :=
 match p with
 | .v x=>x.oneCell'=k0
 | .sl _ _ _=>True
 | .eref _ _ _=>True
 | .clo _ _=>True
 | .own k a=>(rw k).ver=a/\(rw k).kind.slice=k0
 | .ref k a _=>(rw k).ver=a/\(rw k).kind.nd=k0
 | _=>False
theorem CE[aw]{E:Env}(h:qz E.R p)(d:WOk i E f)(e:Rep f E c p x):x.oneCell'=true:=by
 cases e with
 | v=>exact h
 | sl=>rfl
 | eref=>rfl
 | clo=>rfl
 | own w a=>exact a h.1 h.2▸Hi d h.2
 | ref w a=>have⟨b,_,g⟩:=a h.1 h.2;rw[g];rfl
 | ag=>exact h.elim
 | tup=>exact h.elim
 | junk=>exact h.elim
def NK(T:gg)(s:St)(t:A0)(f val:PV)(K:St->Prop):Prop :=
 0<(T t).size/\match f with
 | .ref k b a=>(s.rw k).ver=b/\match (s.rw k).kind with
   | .box g c=>fb s.rw val λnew=>lh new=(T t).size/\a+lh new<=lh c/\(∀p∈new,qz s.rw p)/\K (s.row k ⟨b,.box g (nt c a new)⟩)
   | .sli e h l0 c=>kK s.rw val λnew d=>lh new=(T t).size/\a+lh new<=lh c/\k∉d/\K ((s.freeze d).row k ⟨b,.sli e h l0 (nt c a new)⟩)
   | .tab e c=>fb s.rw val λnew=>lh new=(T t).size/\a+lh new<=lh c/\(∀p∈new,qz s.rw p)/\K (s.row k ⟨b,.tab e (nt c a new)⟩)
   | _=>False
 | _=>False
def Bg:PV->Bool|.v x=>x.oneCell'|.sl _ _ _=>k0|.eref _ _ _=>k0|.clo _ _=>k0|_=>l0
def ma(s:St)(d k:Nat)(a:RK):St:=(s.row k ⟨(s.rw k).ver+1,a⟩).put (n0 d) (.own k ((s.rw k).ver+1))
def ER(T:gg)(s:St)(d:Nat)(t g:A0)(x y:PV)(K:St->Prop):Prop :=
 t=g/\0<(T t).size/\match (T t).k with
 | .sli e=>0<(T e).size/\0<(T e).bytes/\Qk s.rw y λfr h a=>h=(T e).size/\((∀p∈a,NL p=k0)\/(fr=k0/\∀p∈a,Bg p=k0)) /\
  (match x with
  | .v u=>nu u=k0/\a.length*(T e).bytes<=140737488355328/\K (jx s d (.sli e (T e).size l0 a) (λv=>.own d v))
  | .own k b=>(s.rw k).ver=b/\(match (s.rw k).kind with
   | .nil=>a.length*(T e).bytes<=140737488355328/\K (ma s d k (.sli e (T e).size l0 a))
   | .sli i f l0 c=>i=e/\f=(T e).size/\(lh c+lh a)*(T e).bytes<=140737488355328/\K (ma s d k (.sli e (T e).size l0 (c++a)))
   | _=>False)
  | _=>False)
 | _=>False
section
variable {P:Program}{T:gg}{G:Ghost}{s:St}{E:Env}{a:Act}{w w':C0}{o:Oper}
theorem zdo(h:(execOp a.eval o).run P w=.ok .skip w')(b:K (a.put o.dst undef) w'):o.wp P a w K Q:=by unfold Oper.wp;rwa[h]
theorem uH[aw]{fz:O0}{m:E0}{p:PV}(v:SimE G E s a w)(b:(execOp a.eval o).run P w=.ok (.value m) w')(g:OneTurn E w w' c j d x)(i:∀k∈fz,k≠c)(r:Lasts w w' E (E.turn fz c j d x)->cn w' (E.turn fz c j d x) G.C c)(l:Rep w' (E.turn fz c j d x) 0 p m)(n:∀m,o.dst=n0 m->m<G.n)(q:∀f w',rt G (((s.freeze fz).row c j).put o.dst p) f w'->K f w'):o.wp P a w K Q:=by
 refine rM v b (g.turn v.wok) (g.rows v.wok i r) l n<|λf w' h=>q f w' ?_
 have e:(E.turn fz c j d x).R=((s.freeze fz).row c j).rw:=by simp[Env.turn,v.rw];rfl
 rwa[e]at h
theorem qr[aw]{fz:O0}(v:SimE G E s a w)(b:(execOp a.eval o).run P w=.ok .skip w')(f:OneTurn E w w' c j d x)(h:∀r∈fz,r≠c)(m:Lasts w w' E (E.turn fz c j d x)->cn w' (E.turn fz c j d x) G.C c)(i:o.dst=o0)(l:∀g w',rt G ((s.freeze fz).row c j) g w'->K g w'):o.wp P a w K Q:=by
 refine zdo b<|l _ _ ?_
 have e:(E.turn fz c j d x).R=((s.freeze fz).row c j).rw:=by simp[Env.turn,v.rw];rfl
 have:=(f.turn v.wok).sim v<|f.rows v.wok h m
 rw[e]at this
 rw[i]
 exact⟨_,this⟩
theorem wF[aw](g:T.Ok P){f:A0}(h:0<(T t).size){b off:Nat}{a:Array E0}(i:w.heap[b]?=n0 (.cells a f (0,0)))(c:x.cells.size=(T t).size)(d:off+x.cells.size<=a.size)(j:∀y∈x.cells.toList,y.oneCell'=k0) :
 (Instr.storeAt t (.pointer (n0 ⟨b,off,o0⟩)) x).run P w=.ok () (w.setRow b (a.toList.take off++x.cells.toList++a.toList.drop (off+x.cells.size)).toArray):=by
 have e:=run_storeCells_at P b off f _ 0 a w i (ss d) j
 simp_all[Instr.storeAt,Instr.sureAddr,storeVar,fQ (g t h) w]
theorem Ld[aw]{f:Env}{new:M0}{j:List E0}{a:Nat}(d:ex w f c e h)(g:ex w f c new j)(b:a+lh new<=lh e) :
 ex w f c (nt e a new) (h.take a++j++h.drop (a+lh j)):=by
 rw[zl1 _ _ _ b]
 refine ex.append (ex.append ⟨by simp[d.1],λi p q=>?_⟩ g) ⟨by simp[d.1,g.1],λi p q=>?_⟩
 simp;exact d.2 i _ _
 simpa[g.1]using (d.2 (a+lh new+i) (by grind) (by simp at q;have:=g.1;omega))
theorem zaO[aw](hT:T.Ok P){val:Operand}{K:St->Prop}(ho:o.op=.store t g val)(V:o.dst=o0)(ad:NK T s t (s.ev g) (s.ev val) K) :
 ∃s',K s'/\fF P G s o s':=by
 obtain⟨ht,ad⟩:=ad
 split at ad
 ·rename_i k z f a2;obtain⟨W,ad⟩:=ad;split at ad
  ·rename_i bt c C;have I:∃new,fb s.rw (s.ev val) (·=new)/\(lh new=(T t).size/\f+lh new<=lh c/\(∀p∈new,qz s.rw p)/\K (s.row k ⟨z,.box bt (nt c f new)⟩)):=by
    unfold fb at ad ⊢
    grind
   obtain⟨new,hc,hn,x,X,ad⟩:=I;refine⟨_,ad,λa w A K' Q hK=>?_⟩;obtain⟨E,A⟩:=A;have U:=A.rw;have r:=A.wok;have D:=dE A.slots g;have Y:=dE A.slots val;rw[a2]at D;have d:(E.R k).kind=.box bt c:=by rw[U];exact C
   have l:(E.R k).ver=z:=by rw[U];exact W
   obtain⟨c',rfl,m,_⟩:=rr hc U r Y;generalize Z:a.eval g=va at D;cases D with
   | ref hv hx =>
     obtain⟨b,O,rfl⟩:=hx l (by rw[d];rfl);have q:=r.rows k;unfold cn at q;simp only[d]at q;obtain⟨M,N,S,g2,g3,g4⟩:=q;rw[O]at S;cases S;have R:(a.eval val).cells.size=(T t).size:=by rw[<- hn,m.1];simp
     have h1:∀y∈(a.eval val).cells.toList,y.oneCell'=true:=λy hy=>by
      obtain⟨i,hi,rfl⟩:=bV hy;have a0:i<lh c':=by rw[m.1];exact hi
      exact CE (by rw[U];exact X _ (bx a0)) r (m.2 i a0 hi)
     have J:=wF (P:=P) hT ht g3 R (by rw[R,<- hn];simp;rw[<- g4.1];exact x) h1
     have F:OneTurn E w (w.setRow b (N.toArray.toList.take f++(a.eval val).cells.toList++N.toArray.toList.drop (f+(a.eval val).cells.size)).toArray) k ⟨z,.box bt (nt c f c')⟩ (E.rm k) (E.rv k) :=
      ⟨λM B L=>setRow_other w b M _ (λe=>by
       subst e;have:=L O;rw[d]at this;cases this),
       λM B _=>.inr ⟨B,by rw[d];rfl,λ_=>by rw[d];rfl⟩,by rw[l];exact ab _,
       λ_ h=>(by cases h),λ_ _=>⟨by rw[d];rfl,rfl⟩,λ_=>by show 0<z;rw[<- l];exact r.pos k (by rw[d];rfl),sp,rfl,rfl,⟨rfl,λ_=>by first|exact ab _|exact cK _⟩⟩
     refine qr (fz:=[]) A ?_ F sp (λhl=>?_) V (λa' w' h=>hK a' w' ?_)
     ·simp[execOp,ho,Z,J]
     ·unfold cn;simp only[Env.turn,aT];refine⟨b,_,O,g2,setRow_heap w b _ _ bt _ g3,?_⟩;have a3:=Ld (g4.mono hl (ab _)) (m.mono hl (ab _)) x;simpa[Env.turn]using a3
     ·rw[St.freeze_nil]at h;exact h
  ·rename_i e sz c C;have I:∃new fz,kK s.rw (s.ev val) (λa b=>a=new/\b=fz)/\(lh new=(T t).size/\f+lh new<=lh c/\k∉fz/\K ((s.freeze fz).row k ⟨z,.sli e sz l0 (nt c f new)⟩)):=by
    unfold kK at ad ⊢;split at ad
    ·exact⟨_,_,⟨ad.1,rfl,rfl⟩,ad.2⟩
    ·exact⟨_,_,⟨ad.1,rfl,rfl⟩,ad.2⟩
    grind
    ·exact⟨_,_,⟨ad.1,rfl,rfl⟩,ad.2⟩
    ·exact ad.elim
   obtain⟨new,fz,hc,hn,x,a7,ad⟩:=I;refine⟨_,ad,λa w A K' Q hK=>?_⟩;obtain⟨E,A⟩:=A;have U:=A.rw;have r:=A.wok;have D:=dE A.slots g;have Y:=dE A.slots val;rw[a2]at D;have d:(E.R k).kind=.sli e sz l0 c:=by rw[U];exact C
   have l:(E.R k).ver=z:=by rw[U];exact W
   obtain⟨c',f',⟨rfl,rfl⟩,a1,h1,a8,m⟩:=Ju hc U r Y;generalize Z:a.eval g=va at D;cases D with
   | ref hv hx =>
     obtain⟨b,O,rfl⟩:=hx l (by rw[d];rfl);have q:=r.rows k;unfold cn at q;simp only[d]at q;rcases q with⟨S,_,_⟩|⟨M,n,cap,N,H,S,g2,g3,g4,g5,g6,g7,g8,g9⟩
     ·rw[O]at S;cases S
     ·rw[O]at S;cases S;have R:(a.eval val).cells.size=(T t).size:=by rw[<- hn,a1]
      have u:f+(a.eval val).cells.size<=lh N:=by rw[<- a1,<- g9.1];exact x
      have J:=wF (P:=P) (off:=f) hT ht g4 R (by simp;omega) h1
      have F:OneTurn E w (w.setRow b ((N++H).toArray.toList.take f++(a.eval val).cells.toList++(N++H).toArray.toList.drop (f+(a.eval val).cells.size)).toArray) k ⟨z,.sli e sz l0 (nt c f c')⟩ (E.rm k) (E.rv k) :=
       ⟨λM B L=>setRow_other w b M _ (λe=>by
        subst e;have:=L O;rw[d]at this;cases this),
        λM B _=>.inr ⟨B,by rw[d];rfl,λ_=>by rw[d];rfl⟩,by rw[l];exact ab _,
        λ_ _=>⟨by rw[d];rfl,rfl⟩,λ_ _=>⟨by rw[d];rfl,rfl⟩,λ_=>by show 0<z;rw[<- l];exact r.pos k (by rw[d];rfl),sp,rfl,rfl,⟨rfl,λ_=>by first|exact ab _|exact cK _⟩⟩
      have L:∀j∈f',j≠k:=λj hj e=>a7 (e ▸ hj);refine qr (fz:=f') A ?_ F L (λhl=>?_) V (λa' w' h=>hK a' w' h)
      ·simp[execOp,ho,Z,J]
      ·unfold cn;simp only[Env.turn,aT];have a4:=m _ _ hl rfl (λj hj M B=>by
        obtain⟨q1,e',b0,b1,cc,q2⟩:=a8 j hj;have a5:M≠b:=λe=>L j hj (r.inj j k b (by rw[q2];rfl) (by rw[d];rfl) (by rw[<- e];exact B) O);refine⟨setRow_other w b M _ a5,λhL=>?_⟩;rcases hL with⟨j',r1,r2⟩|hX;rotate_left
        ·exact A.wok.apart j M (by rw[q2];rfl) B (A.wok.xs ▸ hX)
        by_cases a6:j'=k
        ·subst a6;simp only[aT]at r1;rw[O]at r1;cases r1;exact a5 rfl
        ·simp only[bu _ _ a6]at r1 r2;have r3:(E.R j').kind.live=true:=by
          unfold oL at r2;split at r2
          ·exact ES _ r2
          ·exact r2
         have:=r.inj j j' M (by rw[q2];rfl) (RK.nd_of_live r3) B r1;subst this;unfold oL at r2;rw[ae hj]at r2;simp[Gx,q2,RK.live]at r2)
       refine .inr ⟨b,n,cap,N.take f++(a.eval val).cells.toList++N.drop (f+(a.eval val).cells.toList.length),H,O,g2,g3,?_,?_,g6,g7,?_,?_⟩
       ·rw[setRow_heap w b _ _ e _ g4];congr 3;simp[iq (by omega:f<=lh N),kP u]
       ·simp at u ⊢;omega
       ·simp at g8 u ⊢;omega
       ·exact Ld (g9.mono hl.bare (ab _)) a4 x
  ·rename_i e c C;have I:∃new,fb s.rw (s.ev val) (·=new)/\(lh new=(T t).size/\f+lh new<=lh c/\(∀p∈new,qz s.rw p)/\K (s.row k ⟨z,.tab e (nt c f new)⟩)):=by
    unfold fb at ad ⊢
    grind
   obtain⟨new,hc,hn,x,X,ad⟩:=I;refine⟨_,ad,λa w A K' Q hK=>?_⟩;obtain⟨E,A⟩:=A;have U:=A.rw;have r:=A.wok;have D:=dE A.slots g;have Y:=dE A.slots val;rw[a2]at D;have d:(E.R k).kind=.tab e c:=by rw[U];exact C
   have l:(E.R k).ver=z:=by rw[U];exact W
   obtain⟨c',rfl,m,_⟩:=rr hc U r Y;generalize Z:a.eval g=va at D;cases D with
   | ref hv hx =>
     obtain⟨b,O,rfl⟩:=hx l (by rw[d];rfl);have q:=r.rows k;unfold cn at q;simp only[d]at q;rcases q with⟨S,_,_⟩|⟨M,n',cap,N,H,S,g2,g3,g4,g5,g6,g7,g8,g9⟩
     ·rw[O]at S;cases S
     rw[O]at S;cases S;have R:(a.eval val).cells.size=(T t).size:=by rw[<- hn,m.1];simp
     have h1:∀y∈(a.eval val).cells.toList,y.oneCell'=true:=λy hy=>by
      obtain⟨i,hi,rfl⟩:=bV hy;have a0:i<lh c':=by rw[m.1];exact hi
      exact CE (by rw[U];exact X _ (bx a0)) r (m.2 i a0 hi)
     have u:f+(a.eval val).cells.size<=lh N:=by rw[R,<- hn,<- g9.1];exact x
     have J:=wF (P:=P) (off:=f) hT ht g4 R (by simp;omega) h1
     have F:OneTurn E w (w.setRow b ((N++H).toArray.toList.take f++(a.eval val).cells.toList++(N++H).toArray.toList.drop (f+(a.eval val).cells.size)).toArray) k ⟨z,.tab e (nt c f c')⟩ (E.rm k) (E.rv k) :=
      ⟨λM B L=>setRow_other w b M _ (λe=>by
       subst e;have:=L O;rw[d]at this;cases this),
       λM B _=>.inr ⟨B,by rw[d];rfl,λ_=>by rw[d];rfl⟩,by rw[l];exact ab _,
       λ_ _=>⟨by rw[d];rfl,rfl⟩,λ_ _=>⟨by rw[d];rfl,rfl⟩,λ_=>by show 0<z;rw[<- l];exact r.pos k (by rw[d];rfl),sp,rfl,rfl,⟨rfl,λ_=>by first|exact ab _|exact cK _⟩⟩
     refine qr (fz:=[]) A ?_ F sp (λhl=>?_) V (λa' w' h=>hK a' w' ?_)
     ·simp[execOp,ho,Z,J]
     ·unfold cn;simp only[Env.turn,aT];refine .inr ⟨b,n',cap,N.take f++(a.eval val).cells.toList++N.drop (f+(a.eval val).cells.toList.length),H,O,g2,g3,?_,?_,g6,g7,?_,?_⟩
      ·rw[setRow_heap w b _ _ e _ g4];congr 3;simp[iq (by omega:f<=lh N),kP u]
      ·simp at u ⊢;omega
      ·simp at g8 u ⊢;omega
      ·have a3:=Ld (g9.mono hl (ab _)) (m.mono hl (ab _)) x;simpa[Env.turn]using a3
     ·rw[St.freeze_nil]at h;exact h
  ·exact ad.elim
 ·exact ad.elim
end
section
variable {P:Program}{T:gg}{G:Ghost}{s:St}{E:Env}{a:Act}{w w':C0}{o:Oper}
theorem nO{b:A0}{y:Operand}(c:o.op=.call ⟨.builtin .append,#[g,y],#[t,b]⟩)(h:(Builtin.append_ #[t,b] o.type #[a.eval g,a.eval y]).run P w=.ok x w') :
 (execOp a.eval o).run P w=.ok (.value x) w':=by
 simp[execOp,c,resolve,invoke,builtin,h]
theorem EQ[aw]{k:Nat}{e q:Nat}{c:M0}{m r:Option Nat}{s:E0}{j:List E0}{fz:Bool}(f:Appended w w' e q m r s j)(x:WOk G E w)(y:m=E.rm k)(z:∀b,E.rm k=n0 b->(E.R k).kind.nd=k0->G.C k b)(l:m≠o0->(E.R k).kind.nd=k0){d:Env}(t:d.rm k=r)(u:d.rv k=s)(A:(d.R k).kind=.sli e q fz c)(a:ex w' d.bare d.B c j):cn w' d G.C k:=by
 unfold cn
 simp only[A]
 rcases f.phys with⟨h,o,p⟩|⟨b,n,cap,g,h,o,p,B,C,D,F⟩
 refine .inl ⟨t.trans h,u.trans o,?_⟩;subst p;exact aL a.1
 refine .inr ⟨b,n,cap,j,g,t.trans h,?_,u.trans o,p,B,C,D,F,a⟩;rcases f.fresh b h with i|i
 exact z b (y ▸ i)<|l<|by rw[i];simp
 exact .inl<|aJ x.kept.size i
theorem zdn{g:Env}{l:Nat}(h:zvq w g c l e x):∃d n cap k,x=.slice d n cap/\k.length=n*l/\ex w g.bare c e k /\
 (∀i u,k[i]?=n0 u->∃b o,d=n0 ⟨b,o,o0⟩/\w.cell? ⟨b,o+i,o0⟩=n0 u):=by
 obtain⟨d,n,cap,s,rfl,t,_,_,m⟩:=h
 refine⟨d,n,cap,(lc<|lh e).map s,rfl,ss t,⟨sp,λi p q=>?_⟩,λi u r=>?_⟩
 grind
 grind
theorem zl0[aw](h:Bg p=k0)(a:Rep w E c p x):x.oneCell'=true:=by
 cases p<;>simp[Bg]at h
 ·rwa[a.v_eq]
 all_goals (cases a;rfl)
theorem TP[aw]{fr:Bool}(A:Qk s.rw p (λa b y=>a=fr/\b=c/\y=e))(B:E.R=s.rw)(C:WOk G E w)(m:Rep w E 0 p x)(t:(∀d∈e,NL d=k0)\/(fr=k0/\∀d∈e,Bg d=k0)) :
 ∃l n cap f,x=.slice l n cap/\f.length=n*c/\(∀u∈f,u.oneCell'=k0)/\(∀i u,f[i]?=n0 u->∃b o,l=n0 ⟨b,o,o0⟩/\w.cell? ⟨b,o+i,o0⟩=n0 u) /\
  ex w E.bare E.B e f:=by
 obtain⟨D,F,r,⟨H,I,J⟩,j⟩:=Az A B C m
 rw[H,I,J]at j
 obtain⟨l,n,cap,f,K,L,g,M⟩:=zdn j
 have N:∀d∈e,Bg d=true:=by rcases t with h|h;intro d m;have:=h d m;cases d<;>simp[NL,Bg]at this ⊢;exact this;exact h.2
 refine⟨l,n,cap,f,K,L,λu O=>?_,M,?_⟩
 obtain⟨i,z,rfl⟩:=bV O;have k:i<lh e:=by rw[g.1];exact z
 exact zl0 (N _<|bx k)<|g.2 i k z
 rcases t with h|⟨rfl,_⟩
 exact⟨g.1,λi d q=>(ET (h _<|bx d)<|g.2 i d q).1⟩
 exact⟨g.1,λi d q=>(g.2 i d q).low<|by simp[Env.lo]⟩
theorem VW[aw](hT:T.Ok P){t2:A0}{x y:Operand}{K:St->Prop}(ho:o.op=.call ⟨.builtin .append,#[x,y],#[t,t2]⟩)(C:o.dst=n0 c)(hd:c<G.n)(q:ER T s c t t2 (s.ev x) (s.ev y) K):∃Y,K Y/\fF P G s o Y:=by
 obtain⟨rfl,ht,q⟩:=q
 split at q
 rename_i e Z;obtain⟨he,a0,q⟩:=q;obtain⟨fr,sz,l,⟨rfl,a1,q⟩,a2⟩:=VX q;have M:=a2 (λa b d=>a=fr/\b=(T e).size/\d=l) ⟨rfl,rfl,rfl⟩;split at q
 rename_i u S;obtain⟨a3,z,q⟩:=q;refine⟨_,q,λa w r K' Q hK=>?_⟩;obtain⟨E,r⟩:=r;have U:=dE r.slots x;rw[S]at U;have J:=U.v_eq;rw[sf a3]at J;obtain⟨ax,n,cap,N,h1,h2,h3,h4,X⟩:=TP M r.rw r.wok (dE r.slots y) a1;obtain⟨v',w',m',A,g⟩:=yK (P:=P) hT (vs:=[]) (m:=o0) (v:=.slice o0 0 0) o.type ht Z he a0 (.inl ⟨rfl,rfl,rfl⟩) h2 h4 h3 (by rw[<- X.1];simpa using z);rw[<- J,<- h1]at A;have b0:Ext w w':=⟨g.os,g.tape,g.output,g.size,λb L=>g.block b L sp⟩;have a4:∀b,m'=n0 b->w.heap.size<=b:=λb L=>(g.fresh b L).resolve_left sp;have a5:=uJ (G:=G) (E:=E) (k:=c) (kd:=.sli e (T e).size l0 l) (m:=m') (v:=v') b0 a4;refine rM (E':=E.row c _ _ _) (p:=.own c ((s.rw c).ver+1)) r (nO ho A) a5 (λk b1=>?_) ?_ (by simp[C,hd])<|λa' w' h=>hK a' w' ?_
 subst b1;unfold cn;simp only[Env.row,aT];have a6:=X.mono (a5.lasts r.wok).bare<|ab _;rcases g.phys with⟨q1,q2,q3⟩|⟨b,n,cap,F,q1,q2,q3,q4,q5,q6,q7⟩
 refine .inl ⟨q1,q2,?_⟩;simp at q3;subst q3;exact aL X.1
 exact .inr ⟨b,n,cap,N,F,q1,.inl<|aJ r.wok.kept.size<|a4 b q1,q2,ss q3,ss q4,q5,q6,ss q7,a6⟩
 exact .own (by simp[Env.row,aT,r.rw]) λ_ _=>by simp[Env.row,aT]
 have e':(E.row c ⟨(E.R c).ver+1,.sli e (T e).size l0 l⟩ m' v').R=(s.row c ⟨(s.rw c).ver+1,.sli e (T e).size l0 l⟩).rw:=by simp only[Env.row,r.rw];rfl
 rw[e',C]at h;exact h
 rename_i k b3 S;obtain⟨a7,q⟩:=q
 have O:∀(d:M0),((s.rw k).kind=.nil/\d=[]\/(s.rw k).kind=.sli e (T e).size l0 d)->(lh d+lh l)*(T e).bytes<=140737488355328->K (ma s c k<|.sli e (T e).size l0<|d++l) ->
  ∃Y,K Y/\fF P G s o Y:=by
  intro d j z q
  refine⟨_,q,λa w r K' Q hK=>?_⟩
  obtain⟨E,r⟩:=r
  have hR:=r.rw
  have U:=dE r.slots x
  rw[S]at U
  obtain⟨ax,n,cap,ws,h1,h2,h3,h4,X⟩:=TP M r.rw r.wok (dE r.slots y) a1
  have D:(E.R k).kind.slice=true:=by rw[hR];rcases j with⟨h,_⟩|h<;>rw[h]<;>rfl
  have a8:=RK.nd_of_slice D
  obtain⟨N,V,H⟩:∃N,ziQ w e (T e).size (E.rm k) (E.rv k) N/\ex w E.bare E.B d N:=by
   have f:=r.wok.rows k;unfold cn at f;rw[hR]at f;rcases j with⟨h,rfl⟩|h
   simp only[h]at f;exact⟨[],.inl ⟨f.1,f.2,rfl⟩,⟨rfl,λi p=>absurd p sp⟩⟩;simp only[h]at f;rcases f with⟨g1,g2,g3⟩|⟨b,n,cap,N,F,g1,g2,g3,g4,g5,g6,g7,g8,g9⟩
   subst g3;exact⟨[],.inl ⟨g1,g2,rfl⟩,⟨rfl,λi p=>absurd p sp⟩⟩;exact⟨N,.inr ⟨b,n,cap,F,g1,g3,g4,g5,g6,g7,g8⟩,g9⟩
  have J:a.eval x=E.rv k:=by cases U with|own hv U=>exact U (by rw[hR];exact a7) D
  obtain⟨v',w',m',A,g⟩:=yK (P:=P) hT o.type ht Z he a0 V h2 h4 h3 (by rw[<- H.1,<- X.1];exact z)
  rw[<- J,<- h1]at A
  have B:(E.R k).ver=(s.rw k).ver:=by rw[hR]
  have I:(E.R k).kind.live=l0->E.rm k=none:=λR=>by
   have f:=r.wok.rows k;unfold cn at f;rw[hR]at f R;rcases j with⟨h,_⟩|h
   simp only[h]at f;exact f.1;rw[h]at R;cases R
  have W:OneTurn E w w' k ⟨(s.rw k).ver+1,.sli e (T e).size l0<|d++l⟩ m' v' :=
   ⟨λb L b2=>g.block b L λh=>(by
    have:=I<|b2 h;rw[this]at h;cases h),
    λb L _=>(by
     rcases g.fresh b L with h|h;refine .inr ⟨h,a8,λ_=>?_⟩;cases R:(E.R k).kind.live with
     | true=>rfl
     | false=>rw[I R]at h;cases h
     exact .inl h),
    by rw[B];exact cK _,λh=>by rw[B]at h;simp at h,λh=>by rw[B]at h;simp at h,λ_=>jG _,g.size,g.os,g.tape,g.output⟩
  refine uH (fz:=[]) (p:=.own k ((s.rw k).ver+1)) r (nO ho A) W sp (λR=>?_) ?_ (by simp[C,hd])<|λa' w' h=>hK a' w' ?_
  exact EQ (fz:=l0) (c:=d++l) g r.wok rfl (λb L hn=>(r.wok.block L hn).2) (λ_=>a8) (by simp[Env.turn,aT]) (by simp[Env.turn,aT]) (by simp[Env.turn,aT])<|(H.mono R.bare<|ab _).append<|X.mono R.bare<|ab _
  exact .own (by simp[Env.turn,aT]) λ_ _=>by simp[Env.turn,aT]
  rw[St.freeze_nil,C]at h;exact h
 split at q
 rename_i j;exact O [] (.inl ⟨j,rfl⟩) (ss q.1)<|ss q.2
 rename_i e' b4 d j;obtain⟨rfl,rfl,z,q⟩:=q;exact O d (.inr j) z q
 exact q.elim
 exact q.elim
 exact q.elim
end
end Go.Abs
namespace Go.Abs
open Bool renaming true→k0,false→l0
open Option renaming some→n0,none→o0
open Go renaming TypeId→A0,World→C0,Value→E0
open List renaming range→lc,replicate→ld,getD→lg,length→lh
open Go.Lib (strCells strCells_length strCells_oneCell run_append_room_string run_append_grow_string run_firstCells_string)
def lT(s:P0):M0:=s.data.toList.map λb=>PV.v (.int .u8 b.toNat)
theorem tC(s:P0):lh (lT s)=s.size:=by simp[lT]
theorem zl5[aw](s:P0)(w:C0)(E:Env)(c:Nat):ex w E c (lT s) (strCells s):=by refine⟨by rw[tC,strCells_length],λi a b=>?_⟩;simp[lT,strCells];exact .v _
section
variable {P:Program}{T:gg}
theorem VZ[aw](D:T.Ok P){t u e:A0}(E:A0)(ht:0<(T t).size)(V:(T t).k=.sli e)(I:0<(T u).size)(J:(T u).k=.str)(W:0<(T e).size)(a:(T e).size=1)(x:0<(T e).bytes){w:C0}{m:Option Nat}{v:E0}{g:List E0}(hp:ziQ w e (T e).size m v g)(s:P0)(o:(lh g+s.size)*(T e).bytes<=140737488355328) :
 ∃X w' m',(Builtin.append_ #[t,u] E #[v,.string s]).run P w=.ok X w'/\Appended w w' e (T e).size m m' X (g++strCells s):=by
 have F:=D t ht
 have G:P.underlying t=n0 (.slice e):=by have:=F.k;rw[V]at this;exact this
 have l:P.underlying u=n0 .string:=by have:=(D u I).k;rw[J]at this;exact this
 obtain⟨i,z,H,K,y,Y,L⟩:=(D e W).info
 have p:i.size=(T e).size:=K
 have A:z.cells.size=(T e).size:=by rw[<- dU,L];exact(D e W).zlen
 have d:=strCells_length s
 have Z:lh g+s.size<=140737488355328:=aJ (iC _ x) o
 rcases hp with⟨rfl,rfl,rfl⟩|⟨b,n,cap,q,rfl,rfl,M,c,a0,N,r⟩
 by_cases O:s.size=0
 have Q:strCells s=[]:=aL (by rw[d,O]);refine⟨.slice o0 0 0,w,o0,?_,⟨.inl ⟨rfl,rfl,by rw[Q];rfl⟩,λ_ _ _=>rfl,ab _,rfl,rfl,⟨rfl,λ_=>by first|exact ab _|exact cK _⟩,λb h=>.inl h⟩⟩;have F:=run_firstCells_string (P:=P) w i.size s;rw[O]at F;simp[Builtin.append_,run_underlying G,run_underlying l,sizeOf,typeInfo,H,Builtin.lenOf,O,F]
 have B:=run_append_nil_string (P:=P) w t u E e i z G l H Y s om om (by
  rw[y];simp at o;omega)
 refine⟨_,_,n0 w.heap.size,B,⟨.inr ⟨w.heap.size,s.size,_,(Builtin.zeroCells z.cells (grownCap w s.size 0 e-s.size)).toList,rfl,rfl,?_,by rw[a];simpa using d,grownCap_ge w s.size 0 e,grownCap_le_maxLen w s.size 0 e (by simp[maxLen];omega),?_⟩,λb x _=>?_,sp,rfl,rfl,⟨rfl,λ_=>by first|exact ab _|exact cK _⟩,λb h=>.inr (by simp at h;omega)⟩⟩
 have:=heap_alloc_new w.drew (.cells (s.data.map (λb=>E0.int .u8 b.toNat)++Builtin.zeroCells z.cells (grownCap w s.size 0 e-s.size)) e);rw[show(([]:List E0)++strCells s++(Builtin.zeroCells z.cells (grownCap w s.size 0 e-s.size)).toList).toArray=s.data.map (λb=>E0.int .u8 b.toNat)++Builtin.zeroCells z.cells (grownCap w s.size 0 e-s.size) from Array.toList_inj.1 (by simp[strCells])];exact this
 have R:=grownCap_ge w s.size 0 e;simp only[eg,aA,dU,size_zeroCells,A,d,a,dh];omega
 exact(Ext.alloc w.drew _).block b x
 rw[a,dh]at c r;by_cases f:n+s.size<=cap
 have B:=run_append_room_string (P:=P) w t u E e i G l H (by rw[p,a]) b n cap (g++q).toArray M s f (by
  simp at r ⊢;omega)
 refine⟨_,_,n0 b,B,⟨.inr ⟨b,n+s.size,cap,q.drop s.size,rfl,rfl,?_,?_,f,N,?_⟩,λk V S=>?_,sp,rfl,rfl,⟨rfl,λ_=>by first|exact ab _|exact cK _⟩,λb' h=>.inl h⟩⟩
 rw[setRow_heap w b _ _ e _ M];congr 2;rw[<- c];simp[List.take_left',wm]
 rw[aA,c,d,a,dh]
 rw[a,dh];simp at r ⊢;omega
 exact setRow_other w b k _ (λe=>S (by rw[e]))
 have C:∀j u,g[j]?=n0 u->w.cell? ((⟨b,0,o0⟩:Addr).add j)=n0 u:=λj u hj=>by obtain⟨U,rfl⟩:=List.getElem?_eq_some_iff.1 hj;rw[oN,cm,eF M (by simp;omega)];simp[bM U]
 have B:=run_append_grow_string (P:=P) w t u E e i z G l H Y ⟨b,0,o0⟩ n cap g (by rw[c,p,a,dh]) C s om om (growslice_fits om (by
  rw[y,<- c];omega))
 refine⟨_,_,n0 w.heap.size,B,⟨.inr ⟨w.heap.size,n+s.size,_,(Builtin.zeroCells z.cells (grownCap w (n+s.size) cap e-(n+s.size))).toList,rfl,rfl,?_,?_,grownCap_ge w _ _ e,grownCap_le_maxLen w _ _ e (by simp[maxLen];omega),?_⟩,λb x _=>?_,sp,rfl,rfl,⟨rfl,λ_=>by first|exact ab _|exact cK _⟩,λb h=>.inr (by simp at h;omega)⟩⟩
 have:=heap_alloc_new w.drew (.cells (g.toArray++(strCells s).toArray++Builtin.zeroCells z.cells (grownCap w (n+s.size) cap e-(n+s.size))) e);simp_all
 rw[aA,c,d,a,dh]
 have R:=grownCap_ge w (n+s.size) cap e;simp only[aA,dU,size_zeroCells,A,c,d,a,dh];omega
 exact(Ext.alloc w.drew _).block b x
end
def Wa(T:gg)(s:St)(d:Nat)(t g:A0)(x:PV)(b:P0)(K:St->Prop):Prop :=
 0<(T t).size/\0<(T g).size/\(T g).k=.str/\match (T t).k with
 | .sli e=>(T e).size=1/\0<(T e).bytes/\(match x with
  | .own k a=>(s.rw k).ver=a/\(match (s.rw k).kind with
   | .nil=>b.size*(T e).bytes<=140737488355328/\K (ma s d k (.sli e (T e).size l0 (lT b)))
   | .sli h f l0 c=>h=e/\f=(T e).size/\(lh c+b.size)*(T e).bytes<=140737488355328/\K (ma s d k (.sli e (T e).size l0 (c++lT b)))
   | _=>False)
  | _=>False)
 | _=>False
section
variable {P:Program}{T:gg}{G:Ghost}{s:St}{E:Env}{a:Act}{w w':C0}{o:Oper}
theorem Wb[aw](hT:T.Ok P){d:Nat}{t t2:A0}{x y:Operand}{r:P0}{K:St->Prop}(ho:o.op=.call ⟨.builtin .append,#[x,y],#[t,t2]⟩)(C:o.dst=n0 d)(hd:d<G.n)(hy:s.ev y=.v (.string r))(j:Wa T s d t t2 (s.ev x) r K):∃L,K L/\fF P G s o L:=by
 obtain⟨ht,W,X,j⟩:=j
 split at j
 rename_i e Y;obtain⟨Z,a0,j⟩:=j;have he:0<(T e).size:=om;split at j
 rename_i k a5 a1;obtain⟨M,j⟩:=j
 have D:∀(c:M0),((s.rw k).kind=.nil/\c=[]\/(s.rw k).kind=.sli e (T e).size l0 c)->(lh c+r.size)*(T e).bytes<=140737488355328->K (ma s d k<|.sli e (T e).size l0<|c++lT r) ->
  ∃L,K L/\fF P G s o L:=by
  intro c g u j
  refine⟨_,j,λa w B K' Q hK=>?_⟩
  obtain⟨E,B⟩:=B
  have N:=B.rw
  have V:=dE B.slots x
  rw[a1]at V
  have a2:a.eval y=.string r:=by have:=dE B.slots y;rw[hy]at this;exact this.v_eq
  have h5:ex w E.bare E.B (lT r) (strCells r):=zl5 r w _ _
  have q:(E.R k).kind.slice=true:=by rw[N];rcases g with⟨h,_⟩|h<;>rw[h]<;>rfl
  have O:=RK.nd_of_slice q
  obtain⟨R,I,z⟩:∃R,ziQ w e (T e).size (E.rm k) (E.rv k) R/\ex w E.bare E.B c R:=by
   have f:=B.wok.rows k;unfold cn at f;rw[N]at f;rcases g with⟨h,rfl⟩|h
   simp only[h]at f;exact⟨[],.inl ⟨f.1,f.2,rfl⟩,⟨rfl,λi p=>absurd p sp⟩⟩;simp only[h]at f;rcases f with⟨g1,g2,g3⟩|⟨b,n,cap,R,S,g1,g2,g3,g4,g5,g6,g7,g8,g9⟩
   subst g3;exact⟨[],.inl ⟨g1,g2,rfl⟩,⟨rfl,λi p=>absurd p sp⟩⟩;exact⟨R,.inr ⟨b,n,cap,S,g1,g3,g4,g5,g6,g7,g8⟩,g9⟩
  have a3:a.eval x=E.rv k:=by cases V with|own hv V=>exact V (by rw[N];exact M) q
  obtain⟨v',w',m',F,l⟩:=VZ (P:=P) hT o.type ht Y W X he Z a0 I r (by rw[<- z.1];exact u)
  rw[<- a3,<- a2]at F
  have m:(E.R k).ver=(s.rw k).ver:=by rw[N]
  have A:(E.R k).kind.live=l0->E.rm k=none:=λH=>by
   have f:=B.wok.rows k;unfold cn at f;rw[N]at f H;rcases g with⟨h,_⟩|h
   simp only[h]at f;exact f.1;rw[h]at H;cases H
  have J:OneTurn E w w' k ⟨(s.rw k).ver+1,.sli e (T e).size l0<|c++lT r⟩ m' v' :=
   ⟨λb U a4=>l.block b U λh=>(by
    have:=A<|a4 h;rw[this]at h;cases h),
    λb U _=>(by
     rcases l.fresh b U with h|h;grind
     exact .inl h),
    by rw[m];exact cK _,λh=>by rw[m]at h;simp at h,λh=>by rw[m]at h;simp at h,λ_=>jG _,l.size,l.os,l.tape,l.output⟩
  refine uH (fz:=[]) (p:=.own k ((s.rw k).ver+1)) B (nO ho F) J sp (λH=>?_) ?_ (by simp[C,hd])<|λa' w' h=>hK a' w' ?_
  exact EQ (fz:=l0) (c:=c++lT r) l B.wok rfl (λb U hn=>(B.wok.block U hn).2) (λ_=>O) (by simp[Env.turn,aT]) (by simp[Env.turn,aT]) (by simp[Env.turn,aT])<|(z.mono H.bare<|ab _).append<|h5.mono H.bare<|ab _
  exact .own (by simp[Env.turn,aT]) λ_ _=>by simp[Env.turn,aT]
  rw[St.freeze_nil,C]at h;exact h
 split at j
 rename_i g;exact D [] (.inl ⟨g,rfl⟩) (ss j.1)<|ss j.2
 rename_i e' a6 c g;obtain⟨rfl,rfl,u,j⟩:=j;exact D c (.inr g) u j
 exact j.elim
 exact j.elim
 exact j.elim
end
end Go.Abs
namespace Go.Abs
open Bool renaming true→k0,false→l0
open Option renaming some→n0,none→o0
open Go renaming TypeId→A0,World→C0,Value→E0
open List renaming range→lc,replicate→ld,getD→lg,length→lh
variable {b:List (E0×Option Nat)}{a:List (A0×Option Nat×M0)}{c:C0}{e:T0}{f:Nat}{g:E0}
def leaves:RV->List (A0×Option Nat×M0)
 | .im _=>[]
 | .fr e b c=>[(e,n0 b,c)]
 | .tb e d a=>(e,o0,ld (lh a) .junk)::a.map λr=>(d,n0 1,r)
 | .ag l=>(l.attach.map λ⟨x,_⟩=>leaves x).flatten
 | .tup l=>(l.attach.map λ⟨x,_⟩=>leaves x).flatten
theorem iv(l:List RV):leaves (.ag l)=(l.map leaves).flatten:=by simp[leaves]
theorem fq(l:List RV):leaves (.tup l)=(l.map leaves).flatten:=by simp[leaves]
def bz(d i:Nat):Nat:=d+1000*i
def fL(f:RV->Nat->PV):List RV->Nat->M0
 | [],_=>[]
 | x::a,i=>f x i::fL f a (i+lh (leaves x))
def fP(vr:T0)(d:Nat):RV->Nat->PV
 | .im p,_=>mY k0 p
 | .fr _ _ _,i=>.own (bz d i) (vr (bz d i)+1)
 | .tb _ _ _,i=>.own (bz d i) (vr (bz d i)+1)
 | .ag _,_=>.junk
 | .tup _,_=>.junk
def gN(vr:T0)(d:Nat):RV->Nat->PV
 | .ag l,i=>.ag (fL (fP vr d) l i)
 | .tup l,i=>.tup (fL (fP vr d) l i)
 | x,i=>fP vr d x i
def eu(vr:T0)(d:Nat):RV->Nat->PV
 | .ag l,i=>.ag (fL (gN vr d) l i)
 | .tup l,i=>.tup (fL (gN vr d) l i)
 | x,i=>fP vr d x i
def fi(rw:S0)(d i n:Nat):M0:=(lc n).map λj=>.own (bz d (i+1+j)) ((rw (bz d (i+1+j))).ver+1)
def jv(rw:S0)(d i:Nat)(e:A0)(a:Option Nat)(c:M0):RK :=
 match a with
 | some z=>.sli e z l0 c
 | none=>.tab e (fi rw d i (lh c))
def cM(rw:S0)(d:Nat):List (A0×Option Nat×M0)->Nat->Nat->Row
 | [],_=>rw
 | (e,a,c)::b,i=>fM (cM rw d b (i+1)) (bz d i) ⟨(rw (bz d i)).ver+1,jv rw d i e a c⟩
def br(s:St)(d:Nat)(rv:RV):St :=
 (St.mk s.sl (cM s.rw d (leaves rv) 0)).put (n0 d) (eu (λk=>(s.rw k).ver) d rv 0)
inductive LeafAt (w:World) (E:Env):(TypeId×Option Nat×List PV)->Value×Option Nat->Prop
 | nil {e sz:Nat}:LeafAt w E (e,some sz,[]) (.slice none 0 0,none)
 | tbn {e:Nat}:LeafAt w E (e,none,[]) (.slice none 0 0,none)
 | tb {e b n cap:Nat} {cells:List PV} {vs rest:List Value} (hB:E.B<=b) (hh:w.heap[b]?=some (.cells (vs++rest).toArray e (0,0)))
  (hn:vs.length=n) (hc:n<=cap) (hm:cap<=maxLen) (hl:(vs++rest).length=cap) (hr:cells.length=n) :
  LeafAt w E (e,none,cells) (.slice (some ⟨b,0,none⟩) n cap,some b)
 | fr {e sz b n cap:Nat} {cells:List PV} {vs rest:List Value} (hB:E.B<=b) (hh:w.heap[b]?=some (.cells (vs++rest).toArray e (0,0)))
  (hn:vs.length=n*sz) (hc:n<=cap) (hm:cap<=maxLen) (hl:(vs++rest).length=cap*sz) (hr:ex w E.bare E.B cells vs) :
  LeafAt w E (e,some sz,cells) (.slice (some ⟨b,0,none⟩) n cap,some b)
inductive LeafsAt (w:World) (E:Env):List (TypeId×Option Nat×List PV)->List (Value×Option Nat)->Prop
 | nil:LeafsAt w E [] []
 | cons {x:TypeId×Option Nat×List PV} {y:Value×Option Nat} {xs:List (TypeId×Option Nat×List PV)} {ys:List (Value×Option Nat)} (h:LeafAt w E x y) (hs:LeafsAt w E xs ys):LeafsAt w E (x::xs) (y::ys)
theorem LeafsAt.append{E:Env}{w:List (A0×Option Nat×M0)}{d:List (E0×Option Nat)}(h:LeafsAt c E a b)(k:LeafsAt c E w d):LeafsAt c E (a++w) (b++d):=by
 induction h with
 | nil=>grind
 | cons h _ e=>exact .cons h e
theorem LeafsAt.length{E:Env}(h:LeafsAt c E a b):lh b=lh a:=by
 induction h with
 | nil=>rfl
 | cons h _ w=>grind
theorem OutR.leafs[aw]{E:Env}{rv:RV}(h:OutR c E rv g b):LeafsAt c E (leaves rv) b:=by
 have m:∀(l:List RV) (f:List (List<|E0×Option Nat)),lh l=lh f->(∀i(a:i<lh l)(v:i<lh f),LeafsAt c E (leaves l[i]) f[i])->LeafsAt c E (l.map leaves).flatten f.flatten:=by
  intro l;induction l with
  | nil=>intro f h _;cases f with|nil=>exact .nil|cons x y=>simp at h
  | cons x D k =>
    intro f h o;cases f with
    | nil=>simp at h
    | cons y J =>simp only[dR,iB];exact(o 0 sp sp).append<|k J (ss h) λi a v=>o (i+1) (ss a)<|ss v
 induction h with
 | im h=>rw[leaves];exact .nil
 | nil=>rw[leaves];exact .cons .nil .nil
 | fr s o t u z A K=>rw[leaves];exact .cons (.fr s o t u z A K) .nil
 | tbn=>rw[leaves];exact .cons .tbn .nil
 | @tb e p w n cap d j F C s o t u z A L O P M k =>
   rw[leaves];refine .cons (.tb s o t u z A<|ss L) ?_
   have B:∀(d:List M0) (j:List E0) (C:List (E0×Option Nat)),lh d=lh j->lh d=lh C ->
    (∀i(a:i<lh d)(w:i<lh j)(v:i<lh C),LeafsAt c E (leaves<|.fr p 1 d[i]) [C[i]])->LeafsAt c E (d.map λr=>(p,n0 1,r)) C:=by
    intro d
    induction d with
    | nil=>intro j C _ h _;cases C with|nil=>exact .nil|cons x y=>simp at h
    | cons r Q k =>
      intro j C G H I;cases C with
      | nil=>simp at H
      | cons x D =>
        cases j with
        | nil=>simp at G
        | cons g j =>
          have q:=I 0 sp sp sp;rw[leaves]at q;simp only[cL]at q;cases q with
          | cons q _=>exact .cons q<|k j D (ss G) (ss H) λi a w v=>I (i+1) (ss a) (ss w)<|ss v
   exact B d j C om om k
 | @ag l j f N p o k=>rw[iv];exact m l f p λi a v=>k i a om v
 | @tup l j f N p o k=>rw[fq];exact m l f p λi a v=>k i a om v
def pE(w:C0)(g:List (A0×Option Nat×M0))(f:List (E0×Option Nat)):Prop :=
 ∀(i:Nat)(e:A0)(c:M0)(b n cap:Nat),g[i]?=n0 (e,o0,c)->f[i]?=n0 (.slice (n0 ⟨b,0,o0⟩) n cap,n0 b) ->
  ∀d a:List E0,w.heap[b]?=n0 (.cells (d++a).toArray e (0,0))->lh d=n->∀j(h:j<lh d),(f[i+1+j]?).map (·.1)=n0 d[j]
theorem pE.append{w:List (A0×Option Nat×M0)}{d:List (E0×Option Nat)}(u:lh a=lh b)(h:pE c a b)(k:pE c w d):pE c (a++w) (b++d):=by
 intro i e m o n cap g l p f q r j s;by_cases y:i<lh a;rw[eE y]at g;rw[eE om]at l;have:=h i e m o n cap g l p f q r j s;grind
 rw[eo om]at g;rw[eo om]at l;have:=k (i-lh a) e m o n cap g (by rw[u];exact l) p f q r j s;grind
theorem pE.nil(w:C0):pE w [] []:=λi e c b n cap h=>sp
theorem pE.one{e:A0}{a:M0}{x:E0×Option Nat}:pE c [(e,n0 f,a)] [x]:=λi e a b n cap h=>by
 grind
theorem OutR.links[aw]{E:Env}{rv:RV}(h:OutR c E rv g b):pE c (leaves rv) b:=by
 have f:∀(l:List RV) (d:List (List<|E0×Option Nat)),lh l=lh d->(∀i(a:i<lh l)(v:i<lh d),lh (leaves l[i])=d[i].length/\pE c (leaves l[i]) d[i])->pE c (l.map leaves).flatten d.flatten:=by
  intro l;induction l with
  | nil=>intro d h _;cases d with|nil=>exact pE.nil c|cons x y=>simp at h
  | cons x R o =>
    intro d h B;cases d with
    | nil=>simp at h
    | cons y K =>simp only[dR,iB];have C:=B 0 sp sp;exact pE.append C.1 C.2<|o K (ss h) λi a v=>B (i+1) (ss a)<|ss v
 induction h with
 | im h=>rw[leaves];exact pE.nil c
 | nil=>rw[leaves];exact pE.one
 | fr=>rw[leaves];exact pE.one
 | tbn=>rw[leaves];intro i e v w n cap D F;cases i<;>simp at D F
 | @tb e s w n cap p t q L S B U V W X D F M N o =>
   rw[leaves];intro i Y Z b' n' G k H u m z g4 j O;cases i with
   | zero =>simp only[wl,Option.some.injEq,Prod.mk.injEq,E0.slice.injEq]at k H;obtain⟨rfl,_,_⟩:=k;obtain⟨⟨I,A,e3⟩,P⟩:=H;subst A P;rw[B]at z;simp only[Option.some.injEq,Obj.cells.injEq,dF]at z;have Q:t++q=u++m:=ss<|cV Array.toList z;obtain⟨rfl,_⟩:=List.append_inj Q om;rw[show 0+1+j=j+1 by omega,ge,aN om];simp[M j O om]
   | succ i =>
     exfalso;rw[ge,fk]at k;cases J:p[i]? with
     | none=>rw[J]at k;cases k
     | some r=>rw[J]at k;simp at k
 | @ag l t d I s B o=>rw[iv];exact f l d s λi a v=>⟨(B i a om v).leafs.length.symm,o i a om v⟩
 | @tup l t d I s B o=>rw[fq];exact f l d s λi a v=>⟨(B i a om v).leafs.length.symm,o i a om v⟩
def Agr(E:Env)(vr:T0)(d i:Nat)(a:List (E0×Option Nat)):Prop:=∀j(h:j<lh a),(E.R (bz d (i+j))).ver=vr (bz d (i+j))+1/\E.rv (bz d (i+j))=a[j].1
theorem Agr.left{E:Env}{i:Nat}{y:List (E0×Option Nat)}(h:Agr E e f i (b++y)):Agr E e f i b:=λj a=>by have:=h j (by grind);grind
theorem Agr.right{E:Env}{i:Nat}{y:List (E0×Option Nat)}(h:Agr E e f i (b++y)):Agr E e f (i+lh b) y:=λj a=>by have:=h (lh b+j) (by grind);grind
section
variable {w:C0}{E E':Env}{vr:T0}{d:Nat}
def VV(w:C0)(E E':Env)(vr:T0)(d:Nat)(f:RV->Nat->PV):Prop :=
 ∀(rv:RV) (v:E0) (a:List (E0×Option Nat)) (i:Nat),OutR w E rv v a->Agr E' vr d i a->Rep w E' 0 (f rv i) v
theorem wE[aw]{f:RV->Nat->PV}(r:VV w E E' vr d f):∀(l:List RV) (h:List E0) (e:List (List (E0×Option Nat))) (i:Nat),l.length=h.length->l.length=e.length ->
 (∀j(a:j<l.length)(b:j<h.length)(c:j<e.length),OutR w E l[j] h[j] e[j])->Agr E' vr d i e.flatten->ex w E' 0 (fL f l i) h:=by
 intro l
 induction l with
 | nil=>intro h e i n _ _ _;cases h with|nil=>exact⟨rfl,λi a=>absurd a<|by simp[fL]⟩|cons x y=>simp at n
 | cons x u s =>
   intro h e i n p q k
   cases h with
   | nil=>simp at n
   | cons v h =>
     cases e with
     | nil=>simp at p
     | cons b e =>
       have o:=q 0 sp sp sp
       simp only[cL]at o
       rw[iB]at k
       have t:=r x v b i o k.left
       have m:b.length=(leaves x).length:=o.leafs.length
       have g:=s h e (i+(leaves x).length) (by simpa using n) (by simpa using p) (λj a b c=>q (j+1) (by simpa using a) (by simpa using b)<|by simpa using c)<|by rw[<- m];exact k.right
       refine⟨by simp[fL,g.1],λj a b=>?_⟩
       cases j with
       | zero=>exact t
       | succ j=>exact g.2 j (by simpa[fL]using a)<|by simpa using b
theorem NI[aw](e:Lasts w w E.bare E'.bare)(f:E'.B<=E.B):VV w E E' vr d (fP vr d):=by
 intro rv v g i h a;have own:∀{c:E0}{m:Option Nat}{b:List (E0×Option Nat)},Agr E' vr d i ((c,m)::b)->Rep w E' 0 _ c:=λa=>by have:=a 0 sp;exact .own (by rw[this.1];exact ab _) λ_ _=>this.2.symm
 cases h with
 | im h=>exact Hj (h.mono e<|ab _)<|by simpa[Env.lo]using f
 | nil=>exact own a
 | fr=>exact own a
 | tbn=>exact own a
 | tb=>exact own a
 | ag=>exact .junk _
 | tup=>exact .junk _
theorem zdm[aw](x:Lasts w w E.bare E'.bare)(y:E'.B<=E.B):VV w E E' vr d (gN vr d):=by
 intro rv v z i h n;have o:=NI (vr:=vr) (d:=d) x y;cases h with
 | @im p _ h=>exact o _ _ _ i (.im h) n
 | @nil e s=>exact o (.fr e s []) _ _ i .nil n
 | @fr e s _ _ _ cells _ _ a b c k f g j=>exact o _ _ _ i (.fr a b c k f g j) n
 | @tbn e q=>exact o (.tb e q []) _ _ i .tbn n
 | @tb e q _ _ _ r _ _ _ a b c k f g j l m=>exact o _ _ _ i (.tb a b c k f g j l m ‹_›) n
 | ag t q u=>have:=wE o _ _ _ i t q u n;exact .ag this.1 this.2
 | tup t q u=>have:=wE o _ _ _ i t q u n;exact .tup this.1 this.2
theorem NJ[aw](x:Lasts w w E.bare E'.bare)(y:E'.B<=E.B):VV w E E' vr d (eu vr d):=by
 intro rv v A i h n;have q:=NI (vr:=vr) (d:=d) x y;have z:=zdm (vr:=vr) (d:=d) x y;cases h with
 | @im p _ h=>exact q _ _ _ i (.im h) n
 | @nil e s=>exact q (.fr e s []) _ _ i .nil n
 | @fr e s _ _ _ cells _ _ a b c k f g j=>exact q _ _ _ i (.fr a b c k f g j) n
 | @tbn e o=>exact q (.tb e o []) _ _ i .tbn n
 | @tb e o _ _ _ r _ _ _ a b c k f g j l m=>exact q _ _ _ i (.tb a b c k f g j l m ‹_›) n
 | ag t o u=>have:=wE z _ _ _ i t o u n;exact .ag this.1 this.2
 | tup t o u=>have:=wE z _ _ _ i t o u n;exact .tup this.1 this.2
end
end Go.Abs
