/- DERIVED by an AI agent. -/
import Derived.Test.YtijabbemjaioeaaGreatDoorA12
import Derived.Shelf.Strings.OnBuilder
import Derived.Shelf.Strconv.Itoa3
import Derived.Lib.LaidU8
import Derived.Shelf.SlSortCmp.Whole1
import Derived.Shelf.SlSortCmp.NoneTotal
set_option linter.all false
namespace Go.Abs
open Bool renaming true→k0,false→l0
open Option renaming some→n0
open List renaming length→lh
open Nat renaming reduceEqDiff→lj
variable {a:M0}{b:N0}{t:TypeId}{P:Program}{K:St->Prop}{i:Nat}{f:FuncId}{l:RV->Prop}{F:Nat->Int->Value×Nat×Int}{c:List RV}{s:St}{h:Int}{e:RV}{p:PV}{g:Bool}{j:(S0)->PV->Prop}{k:S0}{w:Option Nat}{L:Row}{m:l1}
abbrev vM:=Nat×(TypeId×Option Nat×M0)
inductive LfG (R:Nat->Row):RV->PV->List vM->Prop
 | im (x:Value):LfG R (.im (.v x)) (.v x) []
 | sl (fr:Bool) (sz:Nat) (c:List PV):LfG R (.im (.sl fr sz c)) (.sl true sz c) []
 | fr {e sz k v:Nat} {c:List PV} (h:R k=⟨v,.sli e sz false c⟩) (hk:k<1000000):LfG R (.fr e sz c) (.own k v) [(k,(e,some sz,c))]
inductive LfsG (R:Nat->Row):List RV->List PV->List vM->Prop
 | nil:LfsG R [] [] []
 | cons {a:RV} {p:PV} {i:List vM} {l:List RV} {ps:List PV} {is:List vM} (h:LfG R a p i) (t:LfsG R l ps is):LfsG R (a::l) (p::ps) (i++is)
inductive G1 (R:Nat->Row):RV->PV->List vM->Prop
 | lf {a:RV} {p:PV} {i:List vM} (h:LfG R a p i):G1 R a p i
 | ag {l:List RV} {ps:List PV} {i:List vM} (h:LfsG R l ps i):G1 R (.ag l) (.ag ps) i
inductive G1s (R:Nat->Row):List RV->List PV->List vM->Prop
 | nil:G1s R [] [] []
 | cons {a:RV} {p:PV} {i:List vM} {l:List RV} {ps:List PV} {is:List vM} (h:G1 R a p i) (t:G1s R l ps is):G1s R (a::l) (p::ps) (i++is)
inductive G2 (R:Nat->Row):RV->PV->List vM->Prop
 | one {a:RV} {p:PV} {i:List vM} (h:G1 R a p i):G2 R a p i
 | tup {l:List RV} {ps:List PV} {i:List vM} (h:G1s R l ps i):G2 R (.tup l) (.tup ps) i
section
variable {R:S0}{rho1:Nat->Option Nat}{nv:T0}{vr:T0}{d:Nat}
def Fits(R:S0)(rho1:Nat->Option Nat)(nv vr:T0)(d i:Nat)(ids:List vM):Prop :=
 ∀j(h:j<lh ids),rho1 ids[j].1=n0 (bz d (i+j))/\nv ids[j].1=vr (bz d (i+j))+1
theorem Fits.left{a b:List vM}(h:Fits R rho1 nv vr d i (a++b)):Fits R rho1 nv vr d i a:=λj c=>by have:=h j (by rw[aA];omega);rwa [bM c]at this
theorem Fits.right{a b:List vM}(h:Fits R rho1 nv vr d i (a++b)):Fits R rho1 nv vr d (i+lh a) b:=λj c=>by have:=h (lh a+j) (by rw[aA];omega);rw[fJ om]at this;simpa[jT]using this
theorem LfG.leaves[aw]{i:List vM}(h:LfG R e p i):Go.Abs.leaves e=i.map (·.2):=by
 cases h<;>simp[Go.Abs.leaves]
theorem LfsG.leaves[aw]{i:List vM}(h:LfsG R c a i):(c.map Go.Abs.leaves).flatten=i.map (·.2):=by
 induction h with
 | nil=>rfl
 | cons h t b=>simp[b,h.leaves]
theorem G1.leaves[aw]{i:List vM}(h:G1 R e p i):Go.Abs.leaves e=i.map (·.2):=by
 cases h with
 | lf h=>exact h.leaves
 | ag h=>rw[iv];exact h.leaves
theorem G1s.leaves[aw]{i:List vM}(h:G1s R c a i):(c.map Go.Abs.leaves).flatten=i.map (·.2):=by
 induction h with
 | nil=>rfl
 | cons h t b=>simp[b,h.leaves]
theorem G2.leaves[aw]{i:List vM}(h:G2 R e p i):Go.Abs.leaves e=i.map (·.2):=by
 cases h with
 | one h=>exact h.leaves
 | tup h=>rw[fq];exact h.leaves
theorem LfG.row{i:List vM}(h:LfG R e p i):∀x∈i,x.1<1000000/\∃v b,x.2.2.1=n0 b/\R x.1=⟨v,.sli x.2.1 b l0 x.2.2.2⟩:=by
 cases h with
 | im=>simp
 | sl=>simp
 | fr h c=>intro x d;rw[List.mem_singleton.1 d];exact⟨c,_,_,rfl,h⟩
theorem LfsG.row{i:List vM}(h:LfsG R c a i):∀x∈i,x.1<1000000/\∃v l,x.2.2.1=n0 l/\R x.1=⟨v,.sli x.2.1 l l0 x.2.2.2⟩:=by
 induction h with
 | nil=>simp
 | cons h t b=>intro x d;exact(List.mem_append.1 d).elim (h.row x) (b x)
theorem G1.row{i:List vM}(h:G1 R e p i):∀x∈i,x.1<1000000/\∃v b,x.2.2.1=n0 b/\R x.1=⟨v,.sli x.2.1 b l0 x.2.2.2⟩:=by
 cases h with
 | lf h=>exact h.row
 | ag h=>exact h.row
theorem G1s.row{i:List vM}(h:G1s R c a i):∀x∈i,x.1<1000000/\∃v l,x.2.2.1=n0 l/\R x.1=⟨v,.sli x.2.1 l l0 x.2.2.2⟩:=by
 induction h with
 | nil=>simp
 | cons h t b=>intro x d;exact(List.mem_append.1 d).elim (h.row x) (b x)
theorem G2.row{i:List vM}(h:G2 R e p i):∀x∈i,x.1<1000000/\∃v b,x.2.2.1=n0 b/\R x.1=⟨v,.sli x.2.1 b l0 x.2.2.2⟩:=by
 cases h with
 | one h=>exact h.row
 | tup h=>exact h.row
theorem LfG.ren[aw]{ids:List vM}(h:LfG R e p ids)(b:Fits R rho1 nv vr d i ids):Hn rho1 R nv k0 p=fP vr d e i:=by
 cases h with
 | im x=>rfl
 | sl=>rfl
 | fr h c =>have:=b 0 sp;simp only[cL,lD]at this;rw[lH,this.1,h];simp only[du];rw[this.2];rfl
theorem LfG.ren1[aw]{ids:List vM}(h:LfG R e p ids)(b:Fits R rho1 nv vr d i ids):Go.Abs.ren1 rho1 R nv k0 p=gN vr d e i:=by
 have:=h.ren b;cases h with
 | im x=>rfl
 | sl=>rfl
 | fr h c=>exact this
theorem LfsG.ren[aw]{l:List RV}{a:M0}{ids:List vM}(h:LfsG R l a ids):∀{i:Nat},Fits R rho1 nv vr d i ids->a.map (Hn rho1 R nv k0)=fL (fP vr d) l i:=by
 induction h with
 | nil=>intro i _;rfl
 | cons h t c =>intro i b;rw[dR,fL,h.ren b.left,c b.right,h.leaves,aG]
theorem G1.ren[aw]{ids:List vM}(h:G1 R e p ids)(b:Fits R rho1 nv vr d i ids):Go.Abs.ren1 rho1 R nv k0 p=gN vr d e i:=by
 cases h with
 | lf h=>exact h.ren1 b
 | ag h=>show PV.ag _=PV.ag _;rw[h.ren b]
theorem G1s.ren[aw]{l:List RV}{a:M0}{ids:List vM}(h:G1s R l a ids):∀{i:Nat},Fits R rho1 nv vr d i ids->a.map (Go.Abs.ren1 rho1 R nv k0)=fL (gN vr d) l i:=by
 induction h with
 | nil=>intro i _;rfl
 | cons h t c =>intro i b;rw[dR,fL,h.ren b.left,c b.right,h.leaves,aG]
theorem LfsG.ren'[aw]{ids:List vM}(h:LfsG R c a ids):∀{i:Nat},Fits R rho1 nv vr d i ids->a.map (Hn rho1 R nv k0)=fL (gN vr d) c i:=by
 induction h with
 | nil=>intro i _;rfl
 | @cons l p _ _ _ _ h t f =>
   intro i b;have e:Hn rho1 R nv k0 p=gN vr d l i:=by rw[h.ren b.left];cases h<;>rfl
   rw[dR,fL,e,f b.right,h.leaves,aG]
theorem G2.ren[aw]{ids:List vM}(h:G2 R e p ids)(b:Fits R rho1 nv vr d 0 ids):zaX rho1 R nv k0 p=eu vr d e 0:=by
 cases h with
 | one h =>
   cases h with
   | lf h =>
     have:=h.ren b;cases h with
     | im x=>rfl
     | sl=>rfl
     | fr h c=>exact this
   | ag h=>show PV.ag _=PV.ag _;rw[h.ren' b]
 | tup h=>show PV.tup _=PV.tup _;rw[h.ren b]
end
theorem ZT[aw](d i:Nat):bz d i%1000=d%1000:=by unfold bz;omega
theorem SF[aw]{H:M0}(hc:AG P f a k j)(g:Nat->Option Nat)(hl:GvL g (λ_=>False) k s.rw a H)(Y:Give g (λ_=>False) k s.rw)(hd:∀d args,(k d).kind.nd=k0->g d=n0 args->(i%1000==args%1000)=l0)(A:∀t p,j t p->∃(rv:RV)(ids:List vM)(q:St),G2 t rv p ids/\(ids.map (·.1)).Nodup/\(∀d,(k d).kind.nd=k0->(t d).ver=(k d).ver/\∀rho1 nv,Bi rho1 t nv k0 (t d).kind=(t d).kind)/\q.sl=s.sl /\
  (∀d args,(k d).kind.nd=k0->g d=n0 args->q.rw args=⟨(s.rw args).ver,(t d).kind⟩)/\(∀args,(∀d,(k d).kind.nd=k0->g d≠n0 args)->q.rw args=s.rw args)/\K (br q i rv)) :
 askG P s f H (n0 i) K:=by
 refine⟨a,k,j,g,_,hc,hl,Y,λt p hp=>?_⟩
 obtain⟨rv,ids,q,Z,a0,u,a3,I,w,hK⟩:=A t p hp
 have y:=Z.row
 have J:∀d,(k d).kind.nd=k0->1000000<=d:=λd l=>(Y.row d l).1
 have B:∀n(c:n<lh ids),¬(k ids[n].1).kind.nd=true:=λn c h=>by have:=(y _ (bx c)).1;have:=J _ h;omega
 let rho1:Nat->Option Nat:=λd=>if(k d).kind.nd=k0 then g d else(ids.findIdx? (λx=>x.1==d)).map (bz i)
 let nv:T0:=λd=>if(k d).kind.nd=k0 then((g d).map λargs=>(s.rw args).ver).getD 0 else(match ids.findIdx? (λx=>x.1==d)with|some n=>(s.rw (bz i n)).ver+1|none=>0)
 have L:∀n(c:n<lh ids),ids.findIdx? (λx=>x.1==ids[n].1)=n0 n:=λn c=>by rw[gj];refine⟨c,sp,λargs R=>?_⟩;simp only[aK];intro e;have o:(ids.map (·.1))[args]'(by simp;omega)=(ids.map (·.1))[n]'(ss c):=ss e;exact absurd ((gd a0).1 o) om
 have r1:∀d,(k d).kind.nd=k0->rho1 d=g d:=λd h=>ae h
 have r3:∀n(c:n<lh ids),rho1 ids[n].1=n0 (bz i n):=λn c=>by show(if(k ids[n].1).kind.nd=k0 then _ else _)=_;rw[ac (B n c),L n c];rfl
 have n1:∀d args,(k d).kind.nd=k0->g d=n0 args->nv d=(s.rw args).ver:=λd args h R=>by show(if(k d).kind.nd=k0 then _ else _)=_;rw[ae h,R];rfl
 have n3:∀n(c:n<lh ids),nv ids[n].1=(s.rw (bz i n)).ver+1:=λn c=>by show(if(k ids[n].1).kind.nd=k0 then _ else _)=_;rw[ac (B n c),L n c]
 have r:∀d x,rho1 d=n0 x->((k d).kind.nd=k0/\g d=n0 x)\/∃n,∃c:n<lh ids,d=ids[n].1/\x=bz i n:=λd x l=>by
  by_cases o:(k d).kind.nd=k0;exact .inl ⟨o,(r1 d o).symm.trans l⟩;have l:(if(k d).kind.nd=k0 then g d else(ids.findIdx? (λx=>x.1==d)).map (bz i))=n0 x:=l;rw[ac o]at l;cases U:ids.findIdx? (λx=>x.1==d)with
  | none=>rw[U]at l;cases l
  | some n =>rw[U]at l;cases l;rw[gj]at U;obtain⟨c,e,_⟩:=U;exact .inr ⟨n,c,(beq_iff_eq.1 e).symm,rfl⟩
 have lj:∀n d args,(k d).kind.nd=k0->g d=n0 args->bz i n≠args:=λn d args h R e=>beq_eq_false_iff_ne.1 (hd d args h R) (by rw[<- e,ZT])
 refine⟨rho1,nv,k0,⟨r1,λd b x l hb=>?_,λd x l c hv=>?_,λd x l c=>?_,λ_ _ h=>h⟩,λS V=>?_⟩
 rcases r d x l with⟨C,z⟩|⟨n,c,C,z⟩<;>rcases r b x hb with⟨W,M⟩|⟨m,X,W,M⟩
 exact Y.inj d b x C W z M
 exact absurd M.symm (lj m d x C z)
 exact absurd z.symm (lj n b x W M)
 have:=zdk (z.symm.trans M);subst this;rw[C,W]
 rcases r d x l with⟨_,z⟩|⟨n,D,rfl,_⟩
 exact n1 d x c z
 exact absurd c (B n D)
 rcases r d x l with⟨C,z⟩|⟨n,D,rfl,rfl⟩
 exact absurd (u d C).1 (c C)
 rw[n3 n D];exact dD _
 have N:∀n,q.rw (bz i n)=s.rw (bz i n):=λn=>w _ λd h e=>lj n d _ h e rfl;have E:Fits t rho1 nv (λpost=>(q.rw post).ver) i 0 ids:=λn c=>by rw[cm];exact⟨r3 n c,by show _=(q.rw (bz i n)).ver+1;rw[N,n3 n c]⟩
 have a4:=Z.leaves;have a5:S=br q i rv:=by
  refine St.ext2 (λpost=>?_) λd=>?_;rw[V.sl,Z.ren E];unfold br;by_cases e:post=i;subst e;rw[cF,cF];rw[da _ _ _ _ e,da _ _ _ _ e];exact(congrFun a3 post).symm;unfold br;rw[iW];show S.rw d=cM _ i (leaves rv) 0 d;rw[pO,a4];by_cases F:∃n,n<lh ids/\d=bz i n;obtain⟨n,c,rfl⟩:=F;have X:n<(ids.map λx:vM=>x.2).length:=ss c;have O:n<(gn q.rw i (ids.map (·.2)) 0).length:=by rw[iP];exact X
  have o:=qp q.rw i _ 0 n O;rw[cm]at o;rw[o,rX _ _ _ _ _ X O,cm,N,V.row _ _ (r3 n c),n3 n c];obtain⟨_,v1,sz,e1,e2⟩:=y _ (bx c);rw[e2];have e3:((ids.map λx:vM=>x.2)[n]'X).2.1=n0 sz:=ss e1;simp only[jv,e3];simp[Bi];rw[oa _ _ _ _ _ λn c e=>F ⟨n,by rw[iP]at c;simpa using c,by rw[e,cm]⟩];by_cases G:∃b,(k b).kind.nd=k0/\g b=n0 d;obtain⟨b,o,Q⟩:=G;rw[V.row _ _ ((r1 b o).trans Q),I b d o Q,n1 b d o Q,(u b o).2];rw[w d λb o Q=>G ⟨b,o,Q⟩];refine V.off d λb hb=>?_;rcases r b d hb with h|⟨n,c,_,e⟩
  exact G ⟨b,h⟩;exact F ⟨n,c,e⟩
 rw[a5];exact hK
theorem Sf[aw]{e c:M0}{us:Dm s}{u:Dm K}(m:AG P f a k j)(b:Nat->Option Nat)(n:GvL b (λ_=>False) k s.rw a e)(o:Give b (λ_=>False) k s.rw)(q:∀d args,(k d).kind.nd=k0->b d=n0 args->(i%1000==args%1000)=l0)(g:∀h p,j h p->∃(rv:RV)(ids:List vM)(post:St),G2 h rv p ids/\(ids.map (·.1)).Nodup/\(∀d,(k d).kind.nd=k0->(h d).ver=(k d).ver/\∀rho1 nv,Bi rho1 h nv k0 (h d).kind=(h d).kind)/\post.sl=s.sl /\
  (∀d args,(k d).kind.nd=k0->b d=n0 args->post.rw args=⟨(s.rw args).ver,(h d).kind⟩)/\(∀args,(∀d,(k d).kind.nd=k0->b d≠n0 args)->post.rw args=s.rw args)/\K (br post i rv)) :
 nn P f c l (tS P f c e (n0 i) (kk s us) (kk K u)) :=
 .inr (.inr (.inr (.inr (SF m b n o q g))))
def zp8(Q:RV->Prop)(a:S0)(p:PV):Prop:=∃(rv:RV)(ids:List vM),Q rv/\G2 a rv p ids/\(ids.map (·.1)).Nodup
def ADr[aw](P:Program)(f:FuncId)(args:M0)(Q:RV->Prop):Prop:=AG P f args (λ_=>⟨0,.dead⟩) (zp8 Q)
theorem zkk[aw]{b c:M0}{us:Dm s}{u:Dm K}{Q:RV->Prop}(e:ADr P f a Q)(g:GvL (λ_=>none) (λ_=>False) (λ_=>⟨0,.dead⟩) s.rw a b)(d:∀rv,Q rv->K (br s i rv)):nn P f c l (tS P f c b (n0 i) (kk s us) (kk K u)) :=
 Sf e _ g ⟨λ_ h=>(by cases h),λ_ _ _ h=>(by cases h),λ_ _ h=>(by cases h)⟩ (λ_ _ h=>(by cases h)) λm p⟨rv,ids,j,k,args⟩ =>⟨rv,ids,s,k,args,λ_ h=>(by cases h),rfl,λ_ _ h=>(by cases h),λ_ _=>rfl,d rv j⟩
def Mc(t:TypeId)(a:N0)(i h:Int):RK:=.box t [.sl l0 1 (kL .u8 a),.v (.int .i64 i),.v (.int .i64 h)]
def LY(t:TypeId)(a:N0)(i h:Int)(L:Row)(k:Nat):Row:=if k=1000000 then⟨1,Mc t a i h⟩else if k=1000500 then L else⟨0,.dead⟩
def zqd(t:TypeId)(b:N0)(L:Row)(Q:RV->Prop)(a:S0)(p:PV):Prop :=
 ∃(rv:RV)(i:Nat)(h:Int)(ids:List vM),Q rv/\G2 a rv p ids/\(ids.map (·.1)).Nodup/\a 1000000=⟨1,Mc t b i h⟩/\a 1000500=L
def zqg[aw](P:Program)(f:FuncId)(t:TypeId)(a:N0)(L:Row)(args:M0)(Q:RV->Prop):Prop :=
 ∀(i:Nat)(h:Int),AG P f (.ref 1000000 1 0::args) (LY t a i h L) (zqd t a L Q)
inductive LRow (s:St):Row->Option Nat->Prop
 | none:LRow s ⟨0,.dead⟩ none
 | some {j v e sz:Nat} {c:List PV} (hj:s.rw j=⟨v,.sli e sz false c⟩) (hp:plain c):LRow s ⟨1,.sli e sz false c⟩ (some j)
def Jm(k:Nat)(j:Option Nat)(a:Nat):Option Nat:=if a=1000000 then n0 k else if a=1000500 then j else none
theorem ka(k:Nat)(j:Option Nat):Jm k j 1000000=n0 k:=ae rfl
theorem la(k:Nat)(j:Option Nat):Jm k j 1000500=j:=by unfold Jm;rw[ac dc,ae rfl]
theorem yv{i:Int}:LY t b h i L 1000000=⟨1,Mc t b h i⟩:=ae rfl
theorem Am{i:Int}:LY t b h i L 1000500=L:=by unfold LY;rw[ac dc,ae rfl]
theorem Rc{k:Int}(a:i<1000000):LY t b h k L i=⟨0,.dead⟩:=by unfold LY;rw[ac om,ac om]
theorem wh{k:Int}(a:(LY t b h k L i).kind.nd=k0):i=1000000\/(i=1000500/\L.kind.nd=k0):=by unfold LY at a;split at a;exact .inl ‹_›;split at a;exact .inr ⟨‹_›,a⟩;cases a
theorem Sh[aw]{z m:M0}{k v:Nat}{d:Nat}{us:Dm s}{u:Dm K}{Q:RV->Prop}(U:zqg P f t b L a Q)(O:LRow s L w)(R:s.rw k=⟨v,.box t [.sl g 1 (kL .u8 b),.v (.int .i64 d),.v (.int .i64 h)]⟩)(V:GvL (Jm k w) (λ_=>False) (LY t b d h L) s.rw (.ref 1000000 1 0::a) z)(J:(i%1000==k%1000)=l0)(B:∀j,w=n0 j->(i%1000==j%1000)=l0/\(k%1000==j%1000)=l0)(W:∀(rv:RV)(F:Nat)(G:Int),Q rv->K (br (s.row k ⟨v,.box t [.sl l0 1 (kL .u8 b),.v (.int .i64 F),.v (.int .i64 G)]⟩) i rv)) :
 nn P f m l (tS P f m z (n0 i) (kk s us) (kk K u)):=by
 have n:∀j,w=n0 j->k≠j:=λj fr e=>beq_eq_false_iff_ne.1 (B j fr).2 (by rw[e])
 have o:∀j,w=n0 j->∃M e H c,s.rw j=⟨M,.sli e H l0 c⟩/\L=⟨1,.sli e H l0 c⟩/\plain c:=λj fr=>by
  cases O with
  | none=>cases fr
  | some y q=>cases fr;exact⟨_,_,_,_,y,rfl,q⟩
 have C:L.kind.nd=k0->∃j,w=n0 j:=λr=>by
  cases O with
  | none=>cases r
  | some y q=>exact⟨_,rfl⟩
 refine Sf (U d h) _ V ⟨λS args=>?_,λS A x X Y args I=>?_,λ_ _ _ _ h=>h⟩ (λS j args fr=>?_) λR1 p⟨rv,F,G,ids,Z,hg,N,D,E⟩=>?_
 rcases wh args with rfl|⟨rfl,r⟩
 refine⟨ab _,by rw[yv];exact Nat.one_pos,k,ka _ _,?_⟩;rw[yv,R];exact⟨rfl,.one (.sl _ _ _) (.one (.v _) (.one (.v _) .nil))⟩
 obtain⟨j,fr⟩:=C r;obtain⟨M,e,H,c,y,q,h3⟩:=o j fr;refine⟨dc,by rw[Am,q];exact Nat.one_pos,j,by rw[la];exact fr,?_⟩;rw[Am,y,q];exact⟨rfl,rfl,rfl,h3⟩
 rcases wh X with rfl|⟨rfl,_⟩<;>rcases wh Y with rfl|⟨rfl,_⟩
 rfl
 rw[ka]at args;rw[la]at I;cases args;exact absurd rfl (n _ I)
 rw[ka]at I;rw[la]at args;cases I;exact absurd rfl (n _ args)
 rfl
 rcases wh args with rfl|⟨rfl,r⟩
 rw[ka]at fr;cases fr;exact J
 rw[la]at fr;exact(B j fr).1
 refine⟨rv,ids,s.row k ⟨v,.box t [.sl l0 1 (kL .u8 b),.v (.int .i64 F),.v (.int .i64 G)]⟩,hg,N,λS args=>?_,rfl,λS j args fr=>?_,λj fr=>?_,W rv F G Z⟩
 rcases wh args with rfl|⟨rfl,r⟩
 rw[D,yv];exact⟨rfl,λ_ _=>rfl⟩
 obtain⟨j,fr⟩:=C r;obtain⟨_,_,_,_,_,e,_⟩:=o j fr;rw[E,Am,e];exact⟨rfl,λ_ _=>rfl⟩
 rcases wh args with rfl|⟨rfl,r⟩
 rw[ka]at fr;cases fr;rw[dw,R,D];rfl
 rw[la]at fr;obtain⟨M,e,H,c,y,q,_⟩:=o j fr;rw[bZ _ _ _ _ (Ne.symm (n j fr)),y,E,q]
 refine bZ _ _ _ _ λe=>fr 1000000 (by rw[yv];rfl) (by rw[e];exact ka _ _)
def ZU(t:TypeId)(a:N0)(b:S0)(p:PV):Prop:=∃(k v:Nat)(h:Int),p=.ref k v 0/\b k=⟨v,Mc t a 0 h⟩
def zd0[aw](P:Program)(f:FuncId)(t:TypeId)(a:N0):Prop:=AG P f [.sl l0 1 (kL .u8 a)] (λ_=>⟨0,.dead⟩) (ZU t a)
theorem SQ[aw]{c:M0}{us:Dm s}{u:Dm K}(z:zd0 P f t b)(A:GvL (λ_=>none) (λ_=>False) (λ_=>⟨0,.dead⟩) s.rw [.sl l0 1 (kL .u8 b)] a)(B:∀h:Int,K ((s.row i ⟨(s.rw i).ver+1,.box t [.sl l0 1 (kL .u8 b),.v (.int .i64 ((0:Nat):Int)),.v (.int .i64 h)]⟩).put (n0 i) (.ref i ((s.rw i).ver+1) 0))):nn P f c l (tS P f c a (n0 i) (kk s us) (kk K u)):=by
 refine KT z _ _ A ⟨λ_ h=>(by cases h),λ_ _ _ h=>(by cases h),λ_ _ h=>(by cases h)⟩ λC p⟨k,v,h,D,q⟩=>?_
 subst D
 refine⟨λy=>if y=k then n0 i else none,λ_=>(s.rw i).ver+1,k0,⟨λ_ h=>(by cases h),λy m x g j=>?_,λ_ _ _ h=>(by cases h),λy x g _=>?_,λ_ _ h=>h⟩,λS n=>?_⟩
 have g:(if y=k then n0 i else none)=n0 x:=g;have j:(if m=k then n0 i else none)=n0 x:=j;by_cases r:y=k
 by_cases w:m=k
 rw[r,w]
 rw[ac w]at j;cases j
 rw[ac r]at g;cases g
 have g:(if y=k then n0 i else none)=n0 x:=g;split at g
 cases g;exact dD _
 cases g
 have e:S=(s.row i ⟨(s.rw i).ver+1,.box t [.sl l0 1 (kL .u8 b),.v (.int .i64 ((0:Nat):Int)),.v (.int .i64 h)]⟩).put (n0 i) (.ref i ((s.rw i).ver+1) 0):=by
  refine St.ext2 (λd=>?_) λy=>?_;rw[n.sl];have o:zaX (λy=>if y=k then n0 i else none) C (λ_=>(s.rw i).ver+1) k0 (.ref k v 0)=.ref i ((s.rw i).ver+1) 0:=by unfold zaX ren1;simp only[zl6,ae,q,du]
  rw[o];by_cases e:d=i;subst e;rw[cF,cF];rw[da _ _ _ _ e,da _ _ _ _ e];rfl;rw[iW];by_cases e:y=i;subst e;rw[dw,n.row k y (ae rfl),q];rfl;rw[bZ _ _ _ _ e];refine n.off y λm j=>?_;have j:(if m=k then n0 i else none)=n0 y:=j;split at j;cases j;exact e rfl;cases j
 rw[e];exact B h
theorem RC[aw]{T:gg}{pos:String}{c:Array Edge}{g:Option (Nat×Bool)}:ie P T s ⟨w,.assign (.const (.pointer none)),t,pos,c,g⟩ K=K (s.put w (.v (.pointer none))):=(rfl)
theorem SV{v:Nat}{R:Int}(d:(k i).ver=v):GvA (Jm i w) m (LY t b h R L) k (.ref 1000000 1 0) (.ref i v 0) :=
 .ref (ka _ _) (by rw[yv]) d (by rw[yv];rfl)
theorem zqk{j v e d:Nat}{R:Int}(f:(k j).ver=v):GvA (Jm i (n0 j)) m (LY t b h R ⟨1,.sli e d l0 a⟩) k (.own 1000500 1) (.own j v) :=
 .own (la _ _) (by rw[Am]) f (by rw[Am];rfl)
def Yf(t:TypeId)(b:N0)(x:Value×Nat×Int)(a:S0)(p:PV):Prop:=p=.v x.1/\a 1000000=⟨1,Mc t b x.2.1 x.2.2⟩/\a 1000500=⟨0,.dead⟩
def Mb[aw](P:Program)(f:FuncId)(t:TypeId)(a:N0)(args:M0)(F:Nat->Int->Value×Nat×Int):Prop :=
 ∀(i:Nat)(h:Int),AG P f (.ref 1000000 1 0::args) (LY t a i h ⟨0,.dead⟩) (Yf t a (F i h))
theorem Mb.toCur[aw](Q:Mb P f t b a F)(c:∀i h,l (.im (.v (F i h).1))):zqg P f t b ⟨0,.dead⟩ a l:=λi h=>by obtain⟨d,e⟩:=Q i h;refine⟨d,λw M E vals g j k=>(e w M E vals g j k).mono ?_⟩;rintro u x ⟨args,p,v,m,n,o,q,r,s⟩;exact⟨args,p,v,m,n,o,_,(F i h).2.1,(F i h).2.2,[],c i h,by rw[q];exact .one (.lf (.im _)),fS,r,s⟩
theorem AO{a:Nat->Option Nat}{b:l1}{c R:S0}:∀{l:M0},plain l->GvL a b c R l l
 | [],_=>.nil
 | p::l,h=>by have d:=h p sp;cases p<;>first|exact .one (.v _)<|AO λq e=>h q<|by grind|(simp[NL]at d)
def Yg(t:TypeId)(b:N0)(x:RV×Nat×Int)(a:S0)(p:PV):Prop:=(∃ids,G2 a x.1 p ids/\(ids.map (·.1)).Nodup)/\a 1000000=⟨1,Mc t b x.2.1 x.2.2⟩/\a 1000500=⟨0,.dead⟩
def Yj[aw](P:Program)(f:FuncId)(t:TypeId)(a:N0)(args:M0)(F:Nat->Int->RV×Nat×Int):Prop :=
 ∀(i:Nat)(h:Int),AG P f (.ref 1000000 1 0::args) (LY t a i h ⟨0,.dead⟩) (Yg t a (F i h))
theorem Yj.askG[aw]{k v:Nat}{d:Nat}{F:Nat->Int->RV×Nat×Int}(r:Yj P f t b a F)(u:plain a)(n:s.rw k=⟨v,.box t [.sl g 1 (kL .u8 b),.v (.int .i64 d),.v (.int .i64 h)]⟩)(o:(i%1000==k%1000)=l0)(w:K (br (s.row k ⟨v,.box t [.sl l0 1 (kL .u8 b),.v (.int .i64 (F d h).2.1),.v (.int .i64 (F d h).2.2)]⟩) i (F d h).1)):Go.Abs.askG P s f (.ref k v 0::a) (n0 i) K:=by
 refine SF (r d h) (Jm k none) (.one (SV (by rw[n])) (AO u)) ⟨λargs fr=>?_,λargs m x y z fr C=>?_,λ_ _ _ _ h=>h⟩ (λargs j fr l=>?_) λD p ⟨⟨ids,A,B⟩,q,E⟩=>?_
 rcases wh fr with rfl|⟨_,c⟩
 refine⟨ab _,by rw[yv];exact Nat.one_pos,k,ka _ _,?_⟩;rw[yv,n];exact⟨rfl,.one (.sl _ _ _) (.one (.v _) (.one (.v _) .nil))⟩
 cases c
 rcases wh y with rfl|⟨_,c⟩
 rcases wh z with rfl|⟨_,c⟩
 rfl
 cases c
 cases c
 rcases wh fr with rfl|⟨_,c⟩
 rw[ka]at l;cases l;exact o
 cases c
 refine⟨(F d h).1,ids,s.row k ⟨v,.box t [.sl l0 1 (kL .u8 b),.v (.int .i64 (F d h).2.1),.v (.int .i64 (F d h).2.2)]⟩,A,B,λargs fr=>?_,rfl,λargs j fr l=>?_,λj l=>?_,w⟩
 rcases wh fr with rfl|⟨_,c⟩
 rw[q,yv];exact⟨rfl,λ_ _=>rfl⟩
 cases c
 rcases wh fr with rfl|⟨_,c⟩
 rw[ka]at l;cases l;rw[dw,n,q];rfl
 cases c
 exact bZ _ _ _ _ λe=>l 1000000 (by rw[yv];rfl) (by rw[e];exact ka _ _)
theorem Mb.askG[aw]{k v:Nat}{args:Nat}{F:Nat->Int->Value×Nat×Int}(c:Mb P f t b a F)(e:plain a)(fr:s.rw k=⟨v,.box t [.sl g 1 (kL .u8 b),.v (.int .i64 args),.v (.int .i64 h)]⟩)(d:(i%1000==k%1000)=l0)(j:K ((s.row k ⟨v,.box t [.sl l0 1 (kL .u8 b),.v (.int .i64 (F args h).2.1),.v (.int .i64 (F args h).2.2)]⟩).put (n0 i) (.v (F args h).1))):Go.Abs.askG P s f (.ref k v 0::a) (n0 i) K :=
 Yj.askG (F:=λargs h=>(.im (.v (F args h).1),(F args h).2)) (λargs h=>(c args h).imp id λl w M E vals m n o=>(l w M E vals m n o).mono (by
  rintro B C ⟨q,p,v,r,u,x,y,z,A⟩;exact⟨q,p,v,r,u,x,⟨[],by rw[y];exact .one (.lf (.im _)),fS⟩,z,A⟩)) e fr d (by rw[rU];exact j)
theorem zqF[aw]{P:Program}{s:St}{K:St->Prop}{f:FuncId}{args a:M0}{e:RV->Prop}{d k v:Nat}{t:TypeId}{b:N0}{i:Nat}{h:Int}{fr:Bool}{F:Nat->Int->RV×Nat×Int}{us:Dm s}{u:Dm K}(g:Yj P f t b args F)(j:plain args)(l:s.rw k=⟨v,.box t [.sl fr 1 (kL .u8 b),.v (.int .i64 i),.v (.int .i64 h)]⟩)(c:(d%1000==k%1000)=l0)(m:K (br (s.row k ⟨v,.box t [.sl l0 1 (kL .u8 b),.v (.int .i64 (F i h).2.1),.v (.int .i64 (F i h).2.2)]⟩) d (F i h).1)) :
 nn P f a e (tS P f a (.ref k v 0::args) (n0 d) (kk s us) (kk K u)):=.inr (.inr (.inr (.inr (g.askG j l c m))))
theorem zaa[aw]{P:Program}{s:St}{c:Ent->St->Prop}{f:FuncId}{args a:M0}{l:RV->Prop}{d k v:Nat}{t:TypeId}{e:N0}{i:Nat}{h:Int}{fr:Bool}{F:Nat->Int->Value×Nat×Int}{us:Dm s}{u:Dm c}(m:Mb P f t e args F)(n:plain args)(o:s.rw k=⟨v,.box t [.sl fr 1 (kL .u8 e),.v (.int .i64 i),.v (.int .i64 h)]⟩)(b:(d%1000==k%1000)=l0)(p:c ⟨[],.ids [d,k]⟩ ((s.row k ⟨v,.box t [.sl l0 1 (kL .u8 e),.v (.int .i64 (F i h).2.1),.v (.int .i64 (F i h).2.2)]⟩).put (n0 d) (.v (F i h).1))) :
 nn P f a l (zcQ P f (.ref k v 0::args) d (kk s us) (kk c u)) :=
 zj5 [] (λq g _ _ j=>m.askG n (g.trans o) b j) (beq_eq_false_iff_ne.1 b) p
theorem lb[aw]{P:Program}{s:St}{K:St->Prop}{f:FuncId}{args a:M0}{e:RV->Prop}{d k v:Nat}{t:TypeId}{b:N0}{i:Nat}{h:Int}{fr:Bool}{F:Nat->Int->Value×Nat×Int}{us:Dm s}{u:Dm K}(g:Mb P f t b args F)(j:plain args)(l:s.rw k=⟨v,.box t [.sl fr 1 (kL .u8 b),.v (.int .i64 i),.v (.int .i64 h)]⟩)(c:(d%1000==k%1000)=l0)(m:K ((s.row k ⟨v,.box t [.sl l0 1 (kL .u8 b),.v (.int .i64 (F i h).2.1),.v (.int .i64 (F i h).2.2)]⟩).put (n0 d) (.v (F i h).1))) :
 nn P f a e (tS P f a (.ref k v 0::args) (n0 d) (kk s us) (kk K u)):=.inr (.inr (.inr (.inr (g.askG j l c m))))
def zkl(t:TypeId)(b:N0)(L:Row)(x:Value×Nat×Int)(a:S0)(p:PV):Prop:=p=.v x.1/\a 1000000=⟨1,Mc t b x.2.1 x.2.2⟩/\a 1000500=L
def zd5[aw](P:Program)(f:FuncId)(t:TypeId)(a:N0)(e:TypeId)(c:M0)(F:Nat->Int->Value×Nat×Int):Prop :=
 ∀(i:Nat)(h:Int),AG P f [.ref 1000000 1 0,.own 1000500 1] (LY t a i h ⟨1,.sli e 1 l0 c⟩) (zkl t a ⟨1,.sli e 1 l0 c⟩ (F i h))
theorem zd5.askG[aw]{k v j z:Nat}{e:TypeId}{c:Nat}{F:Nat->Int->Value×Nat×Int}(C:zd5 P f t b e a F)(D:plain a)(q:s.rw k=⟨v,.box t [.sl g 1 (kL .u8 b),.v (.int .i64 c),.v (.int .i64 h)]⟩)(r:s.rw j=⟨z,.sli e 1 l0 a⟩)(u:(i%1000==k%1000)=l0)(w:(i%1000==j%1000)=l0)(y:(k%1000==j%1000)=l0)(E:K ((s.row k ⟨v,.box t [.sl l0 1 (kL .u8 b),.v (.int .i64 (F c h).2.1),.v (.int .i64 (F c h).2.2)]⟩).put (n0 i) (.v (F c h).1))):Go.Abs.askG P s f [.ref k v 0,.own j z] (n0 i) K:=by
 have l:k≠j:=λe=>beq_eq_false_iff_ne.1 y (by rw[e])
 refine SF (C c h) (Jm k (n0 j)) (.one (SV (by rw[q])) (.one (zqk (by rw[r])) .nil)) ⟨λd fr=>?_,λd n x G H fr o=>?_,λ_ _ _ _ h=>h⟩ (λd x fr m=>?_) λJ p⟨I,A,B⟩=>?_
 rcases wh fr with rfl|⟨rfl,_⟩
 refine⟨ab _,by rw[yv];exact Nat.one_pos,k,ka _ _,?_⟩;rw[yv,q];exact⟨rfl,.one (.sl _ _ _) (.one (.v _) (.one (.v _) .nil))⟩
 refine⟨dc,by rw[Am];exact Nat.one_pos,j,la _ _,?_⟩;rw[Am,r];exact⟨rfl,rfl,rfl,D⟩
 rcases wh G with rfl|⟨rfl,_⟩<;>rcases wh H with rfl|⟨rfl,_⟩
 rfl
 rw[ka]at fr;rw[la]at o;cases fr;cases o;exact absurd rfl l
 rw[ka]at o;rw[la]at fr;cases fr;cases o;exact absurd rfl l
 rfl
 rcases wh fr with rfl|⟨rfl,_⟩
 rw[ka]at m;cases m;exact u
 rw[la]at m;cases m;exact w
 refine⟨.im (.v (F c h).1),[],s.row k ⟨v,.box t [.sl l0 1 (kL .u8 b),.v (.int .i64 (F c h).2.1),.v (.int .i64 (F c h).2.2)]⟩,by rw[I];exact .one (.lf (.im _)),fS,λd fr=>?_,rfl,λd x fr m=>?_,λx m=>?_,by rw[rU];exact E⟩
 rcases wh fr with rfl|⟨rfl,_⟩
 rw[A,yv];exact⟨rfl,λ_ _=>rfl⟩
 rw[B,Am];exact⟨rfl,λ_ _=>rfl⟩
 rcases wh fr with rfl|⟨rfl,_⟩
 rw[ka]at m;cases m;rw[dw,q,A];rfl
 rw[la]at m;cases m;rw[bZ _ _ _ _ (Ne.symm l),r,B]
 exact bZ _ _ _ _ λe=>m 1000000 (by rw[yv];rfl) (by rw[e];exact ka _ _)
theorem zka[aw]{k v e e2 d:Nat}{q:O0}{M:fG}{Q:AX->St->Prop}{a:Type}(c:TabI s.rw k v e e2 q M)(l:k<lent)(m:∀j∈q,dq k j<lent)(n:s.sl d=.own k v)(I:a->St->Prop)(f:a->Nat)(g:a){bd:(AX->St->Prop)->St->Prop}{u:Dm bd}{w:Dm Q}(o:∀b,b.sl d=.sl k0 1 (mF M)->(∀t,(t==d)=l0->b.sl t=s.sl t)->(∀j,(j%1000==k%1000)=l0->b.rw j=s.rw j)->I g b)(h:∀x i,I x i->bd (AX.seq (np I f (f x)) Q) i):uA (kk bd u) (kk Q w) s:=by
 refine⟨a,I,f,⟨g,_,Wk.flat c l m n,o _ (cF _ _ _) (λt c=>da _ _ _ _<|beq_eq_false_iff_ne.1 c) λj p=>?_⟩,h⟩
 exact HO p
end Go.Abs
namespace Go.Abs
open Bool renaming true→k0,false→l0
open Option renaming some→n0
open List renaming length→lh
open Nat renaming reduceEqDiff→lj
open Go.Proofs Go.Shelf Go.RowKit
variable {P:Program}{w:World}{g:Nat}{a:Ren}
def qJ(l:Q0)(sep:P0):P0:=⟨(Go.Lib.join (l.map (·.data.toList)) sep.data.toList).toArray⟩
theorem zrx[aw](L:Lays.n156 P a)(X:Builder.Extra P a)(D:Enters P (a.f 156))(m:¬aw.dr)(l:Q0)(sep:P0)(E:lh l<=140737488355328)(i:(qJ l sep).size<=140737488355328) :
 AC P (a.f 156) [.sl l0 1 (sL l),.v (.string sep)] (.im (.v (.string (qJ l sep)))):=by
 refine⟨D,λw vals _ F=>?_⟩
 obtain⟨G,u⟩:=F
 obtain⟨x,y,rfl⟩:∃x y,vals=[x,y]:=by
  match vals,G with
  | [x,y],_=>exact⟨x,y,rfl⟩
 have z:=u 0 (by simp) (by simp)
 have A:=u 1 (by simp) (by simp)
 simp only[cL,pl]at z A
 obtain rfl:=A.v_eq
 have c:lh (sL l)=lh l:=by simp[sL]
 have n:Calls P (a.f 156) #[x,.string sep] w λe p=>e=.returned (.string (qJ l sep))/\Below w.heap.size w p:=by
  cases z with
  | @sl _ _ _ _ len cap _ g Q B H R I J =>
    rw[dh,c]at B;subst B;have k:∀(j:Nat)t,l[j]?=n0 t->∃b o,g=n0 ⟨b,o,none⟩/\b<w.heap.size/\w.cell? ⟨b,o+j,none⟩=n0 (.string t):=λj t q=>by
     obtain⟨d,rfl⟩:=List.getElem?_eq_some_iff.1 q;obtain⟨b,o,K,_,S,r⟩:=I j (by rw[c];exact d);have C:=J j (by rw[c];exact d);have:(sL l)[j]'(by rw[c];exact d)=.v (.string l[j]):=by simp[sL]
     rw[this]at C;have M:=C.v_eq;refine⟨b,o,K,?_,by rw[r,M]⟩;rcases bf b w.heap.size with h|h;exact h;have:w.cell? ⟨b,o+j,none⟩=none:=by simp[World.cell?,h]
     rw[this]at r;cases r
    rcases l with _|⟨t,l⟩;exact(Any.strings_Join_none L X g cap sep w).mono λe p⟨s,f⟩=>⟨s,f ▸ Below.refl _ _⟩;obtain⟨b,o,rfl,N,_⟩:=k 0 t rfl;have:=Any.strings_Join L X b o cap (t::l) sep w (λj O q=>by
     obtain⟨U,V,e,_,h⟩:=k j O q;cases e;exact h) N E H (by simpa[qJ,ByteArray.size]using i)
    exact this
 exact n.mono λe p⟨s,f⟩=>⟨_,[],s,⟨f.os,f.tape,⟨f.output,λh=>absurd h m⟩,f.size,f.block⟩,.im (.v _),fS⟩
abbrev wI(P:Program)(w:World):Prop:=Go.Lib.TabIs P w "internal/strconv.uint64pow10" .u64 Go.Lib.pow10Tab
theorem zaZ(c:P.globalNamed "internal/strconv.uint64pow10" = n0 g){a:World}(h:wI P w)(d:∀b,b=g->a.heap[b]?=w.heap[b]?):wI P a:=by simp_all[Go.Lib.TabIs,World.var?]
theorem zdx(c:P.globalNamed "internal/strconv.uint64pow10" = n0 g){b:Nat}(h:wI P w)(d:b=g):b<w.heap.size:=by
 unfold wI Go.Lib.TabIs World.var? at h;grind
theorem zp1[aw](L:LaysM.n171 P a)(d:Enters P (a.f 171))(f:∀w,aw.Φ w->wI P w){n:Int}(g:-9223372036854775808<=n)(i:n<=9223372036854775807) :
 AC P (a.f 171) [.v (.int .i64 n)] (.im (.v (.string ⟨(Go.Lib.itoa n).toArray⟩))):=by
 refine⟨d,λw vals j l=>?_⟩
 obtain⟨m,o⟩:=l
 obtain⟨x,rfl⟩:∃x,vals=[x]:=by
  match vals,m with
  | [x],_=>simp
 obtain rfl:=(o 0 (sp)<|sp).v_eq
 refine(Any.strconv_Itoa L n g i w<|f w j).mono λe s⟨p,k,c,q⟩=>?_
 subst q
 refine⟨_,[],p,⟨rfl,rfl,⟨rfl,λ_=>kF _ _⟩,?_,λb r=>?_⟩,.im<|.v _,fS⟩
 simp
 show(w.heap++c)[b]?=w.heap[b]?
 grind
theorem ziZ{l:List (String×DataW Unit)}{t e:TypeId}{n:Nat}(k:P.globalNamed "internal/strconv.uint64pow10" = n0 g)(b:(P.globals[g]?).map (·.type)=n0 t)(m:P.underlying t=n0 (.array n e))(o:P.underlying e=n0 (.int .u64))(c:P.cellsOf e=1)(d:P.cellsOf t=n)(h:laidMet P l w)(q:("internal/strconv.uint64pow10",Go.Lib.tabData .u64 Go.Lib.pow10Tab)∈l):wI P w:=by
 have⟨s,u,W,j,p,f,i,a,r⟩:=Go.Lib.laidMet.reads h q
 obtain rfl:=Option.some.inj (k.symm.trans f)
 obtain rfl:=Option.some.inj (b.symm.trans i)
 rw[wI,Go.Lib.TabIs,a,<- Go.Lib.cells_of_tab m o c d r]
end Go.Abs
namespace Go.Abs
open Bool renaming true→k0,false→l0
open Option renaming some→n0
open List renaming length→lh
open Nat renaming reduceEqDiff→lj
open Go.Proofs Go.Shelf Go.RowKit Go.Sort
variable {W:World}{e:List Value}{b:Nat}
theorem zo0[aw]{a:World}(h:Ext W a)(d:aw.dr):∃q b,a=grow (W.drewN q) b:=by
 refine⟨a.drawn-W.drawn,a.heap.extract W.heap.size a.heap.size,?_⟩;have j:=h.output.more d;have k:a.heap=W.heap++a.heap.extract W.heap.size a.heap.size:=by refine Array.ext_getElem? λi=>?_;by_cases c:i<W.heap.size;rw[h.block i c,dN c];grind
 have e:=h.os;have f:=h.tape;have g:=h.output.same;cases a;cases W;simp only[grow,World.drewN]at *;subst e f g;congr 1;omega
section
variable {α:Type}[Inhabited α](enc:α->Value)
theorem zcj{cells:Array Value}{e:TypeId}{fr:Nat×Nat}(h:W.heap[b]?=n0 (.cells cells e fr))(a:Array α):(putRow enc W b 0 a).heap[b]?=n0 (.cells (putCells enc 0 a cells) e fr):=by simp[putRow,mapBlock,yl,h,onCells]
theorem Pz{i:Nat}(h:i≠b)(a:Array α):(putRow enc W b 0 a).heap[i]?=W.heap[i]?:=by simp[putRow,mapBlock,yl];omega
theorem QV{c:List Value}{d:Array α}(h:d.size=lh e):putCells enc 0 d (e++c).toArray=(d.toList.map enc++c).toArray:=by
 simp only[putCells];grind
end
theorem zj7{α:Type}{c:α->Int}{E:Env}{d:List α}(h:ex W E b (iL (d.map c)) e):e=d.map λx=>Value.int .i64 (c x):=by
 have⟨g,j⟩:=h;have f:=by simpa[iL]using g
 refine bE (ss f.symm) λi k l=>?_;have a:=j i om k;simp[iL]at a;rw[aM];exact a.v_eq
theorem zrN[aw]{P:Program}{ρ:Ren}(L:SlLaysF.n6 P ρ)(L0:SlLaysF0.n6 P ρ)(hE:Enters P (ρ.f 6))(hdr:aw.dr){α:Type}[Inhabited α](en:α->Int)(cf:α->α->Int)(hS:SWO (ltOf cf))(g:FuncId)(hg:∀args w,(callFunc g args).run P w=.ok (.enter g args) w)(hcmp:∀x y:α,AC P g [.v (.int .i64 (en x)),.v (.int .i64 (en y))] (.im (.v (.int .i64 (cf x y)))))(e:TypeId)(d:List α)(hd:lh d<4611686018427387904)(out:N0)(huniq:∀d':List α,d'.Perm d->d'.Pairwise (λx y=>ltOf cf y x=l0)->d'.map en=out):AM P (ρ.f 6) [.own 1000000 1,.clo g []] [⟨e,1,iL (d.map en)⟩] [iL out] (.tuple #[]):=by
 refine⟨hE,λr hr=>?_,rfl,λc hc=>?_,λw M E vals hw hR hv=>?_⟩
 rw[List.mem_singleton.1 hr];exact dJ _
 rw[List.mem_singleton.1 hc];exact dJ _
 obtain⟨hl,hr⟩:=hv
 obtain⟨x,y,rfl⟩:∃x y,vals=[x,y]:=by
  match vals,hl with
  | [x,y],_=>exact⟨x,y,rfl⟩
 have h0:=hr 0 (by simp) (by simp)
 have h1:=hr 1 (by simp) (by simp)
 simp only[cL,pl]at h0 h1
 have hRl:E.R 1000000=⟨1,.sli e 1 l0 (iL (d.map en))⟩:=by rw[hR];exact Hh (i:=0) (r:=⟨e,1,iL (d.map en)⟩) rfl
 have hx:x=E.rv 1000000:=by cases h0 with|own hv hx=>exact hx (by rw[hRl]) (by rw[hRl];rfl)
 have hy:y=.func (.func g) #[] #[]:=by
  cases h1 with
  | @clo _ _ _ _ vs hl2 hh=>have:vs=[]:=aL hl2.symm;subst this;rfl
 subst hx hy
 have hrow:=hw.rows 1000000
 unfold cn at hrow
 rw[hRl]at hrow
 rcases hrow with⟨g1,g2,g3⟩|⟨b,n,cap,vs,rest,g1,g2,g3,g4,g5,g6,g7,g8,g9⟩
 have hdn:d=[]:=by have:=cV lh g3;exact aL (by simpa[iL]using this)
 subst hdn
 have ho:out=[]:=(huniq [] (List.Perm.refl _) List.Pairwise.nil).symm
 subst ho
 rw[g2]
 refine(AnyF.slices_SortFunc_none L0 none 0 (.func (.func g) #[] #[]) w).mono λen' w'⟨he,hw'⟩=>?_
 subst hw'
 refine⟨he,E,hw,λi r c hi hc=>?_⟩
 match i,hi,hc with
 | 0,hi,hc=>cases hi;cases hc;exact hRl
 have hvs:=zj7 g9
 have hn:n=lh d:=by have:=cV lh hvs;rw[g5]at this;simpa using this
 subst hn
 let enc:α->Value:=λx=>.int .i64 (en x)
 have hvl:lh vs=d.toArray.size:=by rw[g5];simp
 have hcell:∀j(hj:j<lh vs),w.cell? ⟨b,0+j,none⟩=n0 vs[j]:=λj hj=>by rw[cm,eF g4 (by simp;omega)];simp[bM hj]
 have hH:Holds enc w b 0 d.toArray:=λj hj=>by
  have hj':j<lh vs:=by omega
  refine⟨?_,?_⟩;rw[hcell j hj'];have hj2:j<lh d:=ss hj;have:vs[j]=enc d[j]:=by
   have:vs[j]=(d.map λx=>Value.int .i64 (en x))[j]'(ss hj2):=by congr 1
   rw[this,aM]
  rw[this];simp[hj2];simp[World.frozen?,g4]
 have hbs:=pQ g4
 have hng:=hw.ngl g1 (by rw[hRl];rfl)
 have hphi:∀m os(dk:Array α),aw.Φ (sortWorld enc w b 0 m dk os):=λm os dk=>by refine aw.keep hw.held λi hi=>?_;have hne:i≠b:=λe=>hng (e ▸ hi);have hlt:=aw.low hw.held hi;show((putRow enc (Sort.ahead w m) b 0 dk).heap++os)[i]?=w.heap[i]?;rw[dN (by rw[Sort.size_putRow];exact hlt),Pz enc hne];rfl
 have hlays:CmpLays1 P g #[] enc cf b 0 d.toArray.size w:=λm os dk hs x y=>by
  have hc:=(hcmp x y).2 (sortWorld enc w b 0 m dk os) [.int .i64 (en x),.int .i64 (en y)] (hphi m os dk) ⟨rfl,λi a b=>by
   match i,a,b with
   | 0,_,_=>exact .v _
   | 1,_,_=>exact .v _⟩
  refine hc.mono λe' w1⟨v,lv,he,hx,ho,_⟩=>⟨?_,zo0 hx hdr⟩;cases ho with
  | im h=>cases h;exact he
 rw[g3]
 have hcon:=Any.slices_SortFunc L enc (λ_=>rfl) cf hS g #[] b 0 cap d.toArray w hg hlays hH hbs (ss hd)
 have hsz:d.toArray.size=lh d:=by simp
 rw[hsz]at hcon
 refine hcon.mono λen' w'⟨he,d',m,os,hp,hs,hw'⟩=>?_
 obtain⟨p1,p2,p3⟩:=hp
 have hds:d'.size=lh d:=by rw[p1];simp
 have hperm:d'.toList.Perm d:=by
  have a:(d'.extract 0 (lh d)).toList=d'.toList:=by rw[<- hds,Array.extract_size]
  have b:(d.toArray.extract 0 (lh d)).toList=d:=by simp
  rw[a,b]at p3;exact p3
 have hpw:d'.toList.Pairwise (λx y=>ltOf cf y x=l0):=by refine List.pairwise_iff_getElem.2 λi j hi hj hij=>?_;have hi':i<d'.size:=ss hi;have hj':j<d'.size:=ss hj;have:=hs i j (aB _) hij (by omega);rw[getElem!_pos d' i hi',getElem!_pos d' j hj']at this;simpa using this
 have hout:=huniq d'.toList hperm hpw
 have hheap:w'.heap[b]?=n0 (.cells (d'.toList.map enc++rest).toArray e (0,0)):=by rw[hw'];show((putRow enc (Sort.ahead w m) b 0 d').heap++os)[b]?=_;rw[dN (by rw[Sort.size_putRow];exact hbs),zcj enc (show(Sort.ahead w m).heap[b]?=_ from g4),QV enc (by rw[hds,g5,dh])]
 have hoff:∀i,i<w.heap.size->i≠b->w'.heap[i]?=w.heap[i]?:=λi hi hne=>by rw[hw'];show((putRow enc (Sort.ahead w m) b 0 d').heap++os)[i]?=_;rw[dN (by rw[Sort.size_putRow];exact hi),Pz enc hne];rfl
 have hsize:w.heap.size<=w'.heap.size:=by rw[hw'];show w.heap.size<=((putRow enc (Sort.ahead w m) b 0 d').heap++os).size;rw[Array.size_append,Sort.size_putRow];exact kF _ _
 let R':S0:=fM E.R 1000000 ⟨1,.sli e 1 l0 (iL out)⟩
 have Rk:R' 1000000=⟨1,.sli e 1 l0 (iL out)⟩:=aT _ _ _
 have Ro:∀k,k≠1000000->R' k=E.R k:=λk hk=>bu _ _ hk
 let E':Env:={ R:=R',rm:=E.rm,rv:=E.rv,L:=Lf E.X R' E.rm,B:=E.B,X:=E.X }
 have hturn:Turn ⟨w,M,0,E.R,E.rm,E.rv,E.X⟩ E E' w w' (λk=>k=1000000):=by refine⟨rfl,rfl,rfl,λk hk=>⟨Ro k hk,rfl,rfl⟩,λi hi hD=>?_,λk i hk hb hn=>?_,λk hk=>?_,λk hk _ _=>?_,λk hk _ _=>?_,λk hk _=>?_,λk k' i hk hk' _ _ _ _=>hk.trans hk'.symm,hsize,?_,?_,⟨?_,λ_=>?_⟩⟩;refine hoff i hi λe=>?_;have:=hD 1000000 rfl (by rw[e];exact g1);rw[hRl]at this;cases this;subst hk;exact .inr ⟨hb,by rw[hRl];rfl,λ_=>by rw[hRl];rfl⟩;subst hk;show _<=(R' 1000000).ver;rw[Rk,hRl];exact ab _;subst hk;exact⟨by rw[hRl];rfl,rfl⟩;subst hk;exact⟨by rw[hRl];rfl,rfl⟩;subst hk;show 0<(R' 1000000).ver;rw[Rk];exact Nat.one_pos;rw[hw'];rfl;rw[hw'];rfl;rw[hw'];rfl;rw[hw'];exact kF _ _
 have hwok:=hturn.wok hw λk hk=>by
  subst hk;unfold cn;have hk2:E'.R 1000000=⟨1,.sli e 1 l0 (iL out)⟩:=Rk;rw[hk2];refine .inr ⟨b,lh d,cap,d'.toList.map enc,rest,g1,g2,g3,hheap,by simp[hds],g6,g7,?_,?_⟩;rw[aA]at g8 ⊢;rw[<- g8,g5];simp[hds];refine⟨?_,λi a b'=>?_⟩;rw[<- hout];simp[iL];have hi:i<lh d'.toList:=ss b';have e1:(iL out)[i]=.v (.int .i64 (en d'.toList[i])):=by simp only[<- hout,iL,aM]
  rw[e1,aM];exact .v _
 refine⟨he,E',hwok,λi r c hi hc=>?_⟩
 match i,hi,hc with
 | 0,hi,hc=>cases hi;cases hc;exact Rk
end Go.Abs
namespace Go.Abs
open Bool renaming true→k0,false→l0
open Option renaming some→n0
open List renaming length→lh
open Nat renaming reduceEqDiff→lj
variable {w:World}{d:Prop}{E:Env}
def HeldS.tell(h:HeldS)(d:Prop):HeldS:={ h with dr:=d }
theorem zuu{h:HeldS}{M:Nat->Nat->Prop}{p:S0}{pm:Nat->Option Nat}{t:Nat->Value}{X:l1}(k:@WOk ⟨h⟩ ⟨w,M,0,p,pm,t,X⟩ E w):@WOk ⟨h.tell d⟩ ⟨w,M,0,p,pm,t,X⟩ E w:=by obtain⟨a,b,c,e,f,g,⟨i,j,l⟩,m,⟨n,o,_,q,r⟩,s⟩:=k;letI:aw:=⟨h.tell d⟩;exact⟨a,b,c,e,f,g,⟨i,j,l⟩,m,⟨n,o,OutLe.refl w,q,r⟩,s⟩
theorem zrP{h:HeldS}(t:¬h.dr){G:Ghost}(k:@WOk ⟨h.tell d⟩ G E w):@WOk ⟨h⟩ G E w:=by obtain⟨a,b,c,e,f,g,⟨i,j,l⟩,m,⟨n,o,p,q,r⟩,s⟩:=k;letI:aw:=⟨h⟩;exact⟨a,b,c,e,f,g,⟨i,j,l⟩,m,⟨n,o,⟨@OutLe.same ⟨h.tell d⟩ _ _ p,λe=>absurd e t⟩,q,r⟩,s⟩
theorem AM.off{h:HeldS}{d:Prop}(e:¬h.dr){P:Program}{f:FuncId}{args:M0}{b:List LR}{a:List M0}{x:Value}(k:@AM ⟨h.tell d⟩ P f args b a x):@AM ⟨h⟩ P f args b a x :=
 ⟨k.1,k.2.1,k.2.2.1,k.2.2.2.1,λw M E vals g i j=>(k.2.2.2.2 w M E _ (zuu g) i j).mono λ_ _⟨l,m,c,n⟩=>⟨l,m,zrP e c,n⟩⟩
end Go.Abs
