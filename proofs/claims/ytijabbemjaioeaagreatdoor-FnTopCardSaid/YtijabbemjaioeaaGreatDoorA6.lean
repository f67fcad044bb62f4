/- DERIVED by an AI agent. -/
import Derived.Test.YtijabbemjaioeaaGreatDoorA5
set_option linter.all false
namespace Go.Abs
open Bool renaming true→k0,false→l0
open Option renaming some→n0,none→o0
open Go renaming TypeId→A0,World→C0,Program→G0
open List renaming replicate→ld,getD→lg,length→lh
variable {k:Nat}{D:V0}{p:O0}{l:List Oper}{Q:Exit->Act->C0->Prop}{a:Oper}{w:C0}{b:G0}{t:A0}{c:Ghost}{R:S0}{d:Act}{x:PV}
def Wk[aw](s b:St):Prop:=∀(G:Ghost)(a:Act)(w:C0),rt G s a w->rt G b a w
theorem Wk.refl[aw](s:St):Wk s s:=λ_ _ _ h=>h
theorem Wk.trans[aw]{a b c:St}(h:Wk a b)(k:Wk b c):Wk a c:=λG x w d=>k G x w<|h G x w d
theorem Wk.freeze[aw](s:St)(ks:O0):Wk s (s.freeze ks):=by
 intro G a w ⟨E,hs⟩;have ht:Turn G E { R:=oL E.R ks,rm:=E.rm,rv:=E.rv,L:=Lf E.X (oL E.R ks) E.rm,B:=E.B,X:=E.X } w w (·∈ks):=by
  have at_:∀k,k∈ks->oL E.R ks k=Gx (E.R k):=λk hk=>by simp[oL,hk]
  refine⟨rfl,rfl,rfl,λk hk=>⟨by simp[oL,hk],rfl,rfl⟩,λ_ _ _=>rfl,λk b hk hb hn=>.inr ⟨hb,?_,λhl=>?_⟩,λk hk=>?_,λk hk _ h=>⟨?_,rfl⟩,λk hk _ h=>⟨?_,rfl⟩,λk hk hn=>?_,λk k' b hk hk' hn hn' hb hb'=>?_,ab _,rfl,rfl,⟨rfl,λ_=>by first|exact ab _|exact cK _⟩⟩;simpa[at_ k hk,rY]using hn;exact ES _ (by simpa[at_ k hk]using hl);simp[at_ k hk,Le];simpa[at_ k hk,TQ]using h;simpa[at_ k hk,rY]using h;have:=hs.wok.pos k (by simpa[at_ k hk,rY]using hn);simpa[at_ k hk,Le]using this;exact hs.wok.inj k k' b (by simpa[at_ k hk,rY]using hn) (by simpa[at_ k' hk',rY]using hn') hb hb'
 have hl:=ht.lasts hs.wok;have hrows:∀k,k∈ks->cn w { R:=oL E.R ks,rm:=E.rm,rv:=E.rv,L:=Lf E.X (oL E.R ks) E.rm,B:=E.B,X:=E.X } G.C k:=by
  intro k hk;have hr:=hs.wok.rows k;have hf:oL E.R ks k=Gx (E.R k):=by simp[oL,hk]
  unfold cn at hr ⊢;simp only[hf];cases hkd:(E.R k).kind with
  | dead=>simp[Gx,hkd]
  | nil=>simp only[hkd,Gx]at hr ⊢;exact hr
  | box t cells =>simp only[hkd,Gx]at hr ⊢;have⟨b,vs,h1,h2,h3,h4⟩:=hr;exact⟨b,vs,h1,h2,h3,h4.mono hl (ab _)⟩
  | sli e sz fz' cells =>
    simp only[hkd,Gx]at hr ⊢;rcases hr with hr|⟨b,n,cap,vs,rest,h1,h2,h3,h4,h5,h6,h7,h8,h9⟩
    exact .inl hr;exact .inr ⟨b,n,cap,vs,rest,h1,h2,h3,h4,h5,h6,h7,h8,h9.mono hl.bare (ab _)⟩
  | tab e cells =>
    simp only[hkd,Gx]at hr ⊢;rcases hr with hr|⟨b,n,cap,vs,rest,h1,h2,h3,h4,h5,h6,h7,h8,h9⟩
    exact .inl hr;exact .inr ⟨b,n,cap,vs,rest,h1,h2,h3,h4,h5,h6,h7,h8,h9.mono hl (ab _)⟩
  | mp f=>simp only[hkd,Gx]at hr ⊢;exact hr
 have key:=ht.sim hs hrows;have e:({ s with rw:=oL E.R ks }:St)=s.freeze ks:=by rw[hs.rw];rfl
 exact⟨_,e ▸ key⟩
def zlV(k:Nat)(p:O0)(j:Nat):Bool:=j==k||p.any λx=>j==dq k x
theorem zaF{j:Nat}:zlV k p j=k0↔BW k p j:=by simp[zlV,BW]
def dZ(R:S0)(k:Nat)(p:O0)(j:Nat):Row:=match zlV k p j with|true=>⟨(R j).ver+1,.dead⟩|false=>R j
def St.killed(s:St)(k:Nat)(p:O0):St:={ s with rw:=dZ s.rw k p }
theorem kj[aw]{j:Nat}(h:BW k p j):dZ R k p j=⟨(R j).ver+1,.dead⟩:=by rw[dZ,zaF.2 h]
theorem iS[aw]{j:Nat}(h:¬BW k p j):dZ R k p j=R j:=by
 unfold dZ;cases a:zlV k p j with
 | true=>exact absurd (zaF.1 a) h
 | false=>rfl
theorem Wk.kill[aw](s:St)(k:Nat)(p:O0):Wk s (s.killed k p):=by
 intro G a w ⟨E,hs⟩;have dead:∀j,BW k p j->(dZ E.R k p j).kind.nd=k0->False:=λj hj h=>by rw[kj hj]at h;cases h
 have ht:Turn G E { R:=dZ E.R k p,rm:=E.rm,rv:=E.rv,L:=Lf E.X (dZ E.R k p) E.rm,B:=E.B,X:=E.X } w w (BW k p):=by refine⟨rfl,rfl,rfl,λj hj=>⟨iS hj,rfl,rfl⟩,λ_ _ _=>rfl,λj b hD _ hnd=>(dead j hD hnd).elim,λj hD=>?_,λj hD he _=>?_,λj hD he _=>?_,λj hD hnd=>(dead j hD hnd).elim,λj j' b hD hD' h1 _ _ _=>(dead j hD h1).elim,ab _,rfl,rfl,⟨rfl,λ_=>by first|exact ab _|exact cK _⟩⟩;show _<=(dZ E.R k p j).ver;rw[kj hD];exact cK _;have he:(dZ E.R k p j).ver=(E.R j).ver:=he;rw[kj hD]at he;simp at he;have he:(dZ E.R k p j).ver=(E.R j).ver:=he;rw[kj hD]at he;simp at he
 have hrows:∀j,BW k p j->cn w { R:=dZ E.R k p,rm:=E.rm,rv:=E.rv,L:=Lf E.X (dZ E.R k p) E.rm,B:=E.B,X:=E.X } G.C j:=λj hj=>by
  unfold cn;show match (dZ E.R k p j).kind with|.dead=>True|.nil=>_|.box t cells=>_|.sli e sz _ cells=>_|.tab e cells=>_|.mp f=>_
  rw[kj hj];trivial
 have key:SimE G _ ({ s with rw:=dZ E.R k p }:St) a w:=ht.sim hs hrows;have e:({ s with rw:=dZ E.R k p }:St)=s.killed k p:=by rw[hs.rw];rfl
 rw[e]at key;exact⟨_,key⟩
theorem rq{a vr':T0}(h:∀i,a (bz k i)=vr' (bz k i))(rv:RV):eu a k rv 0=eu vr' k rv 0:=by
 have b:∀(r:RV)(i:Nat),fP a k r i=fP vr' k r i:=λr i=>by
  cases r<;>simp[fP,h]
 have c:∀(f g:RV->Nat->PV),(∀r i,f r i=g r i)->∀l i,fL f l i=fL g l i:=λf g h l=>by
  induction l with
  | nil=>intro i;rfl
  | cons r d j=>simp[fL,h,j]
 have e:∀(r:RV)(i:Nat),gN a k r i=gN vr' k r i:=λr i=>by
  cases r<;>simp[gN,b,c _ _ b]
 cases rv<;>simp[eu,b,c _ _ e]
theorem jM[aw]{R R':S0}{d:Nat}(h:∀i,R (bz d i)=R' (bz d i))(j:Nat):∀(a:List (A0×Option Nat×M0)) (i:Nat),
 ((∃m,m<lh a/\j=bz d (i+m))->cM R d a i j=cM R' d a i j)/\(¬(∃m,m<lh a/\j=bz d (i+m))->cM R d a i j=R j/\cM R' d a i j=R' j):=by
 intro a
 induction a with
 | nil=>intro i;exact⟨λ⟨m,b,_⟩=>by grind,λ_=>⟨rfl,rfl⟩⟩
 | cons l a o =>
   intro i
   have⟨e,k,c⟩:=l
   simp only[cM]
   by_cases f:j=bz d i
   subst f;refine⟨λ_=>?_,λn=>absurd ⟨0,sp,sp⟩ n⟩;have p:jv R d i e k c=jv R' d i e k c:=by cases k<;>simp[jv,fi,h]
   rw[aT,aT,h,p]
   rw[bu _ _ f,bu _ _ f];have⟨q,r⟩:=o (i+1);refine⟨λ⟨m,b,g⟩=>?_,λn=>r λ⟨m,b,g⟩=>n ⟨m+1,ss b,by grind⟩⟩;grind
theorem zdd[aw]{s:St}{v e c d:Nat}{f:O0}{n a:List M0}{r:RV}(F:TabIs s.rw k v e c p n)(J:p.Nodup)(z:f.Perm p)(K:d%1000≠k%1000) :
 (br (s.tabbed k v e c f a) d r).killed k p=br (s.killed k p) d r:=by
 have t:∀j,BW k p j->j%1000=k%1000:=λj g=>by rcases g with rfl|⟨x,_,rfl⟩;rfl;rw[fX];omega
 have b:∀i,¬BW k p (bz d i):=λi l=>K<|by rw[<- t _ l];unfold bz;omega
 have A:∀j,BW k p j↔(j=k\/∃x∈f,j=dq k x):=λj=>⟨λh=>by
  rcases h with h|⟨x,o,h⟩;exact .inl h;exact .inr ⟨x,z.mem_iff.2 o,h⟩,λh=>by
  rcases h with h|⟨x,o,h⟩;exact .inl h;exact .inr ⟨x,z.mem_iff.1 o,h⟩⟩
 have q:∀j,¬BW k p j->pA s.rw k v e c f a j=s.rw j:=λj g=>CD (λh=>g<|.inl h) λx o h=>g<|(A j).2<|.inr ⟨x,o,h⟩
 have u:∀j,BW k p j->(pA s.rw k v e c f a j).ver=(s.rw j).ver:=λj g=>by rcases g with rfl|⟨x,o,rfl⟩;rw[yI,F.top];obtain⟨P,B,C⟩:=rL (z.mem_iff.2 o);obtain⟨i,l,L⟩:=rL o;have G:=yJ (R:=s.rw) (k:=k) (v:=v) (e:=e) (e2:=c) (rows:=a) (z.nodup_iff.2 J) B;rw[C]at G;have H:=F.row i l;rw[L]at H;rw[G,H]
 have w:∀i,pA s.rw k v e c f a (bz d i)=dZ s.rw k p (bz d i):=λi=>by rw[q _<|b i,iS<|b i]
 have D:dZ (cM (pA s.rw k v e c f a) d (leaves r) 0) k p=cM (dZ s.rw k p) d (leaves r) 0:=by
  funext j;obtain⟨M,N⟩:=jM w j (leaves r) 0;by_cases g:∃m,m<(leaves r).length/\j=bz d (0+m);have E:¬BW k p j:=by obtain⟨m,_,rfl⟩:=g;exact b _
  rw[iS E];exact M g;obtain⟨I,O⟩:=N g;rw[O];by_cases l:BW k p j;rw[kj l,kj l,I,u j l];rw[iS l,iS l,I,q j l]
 have y:eu (λj=>(pA s.rw k v e c f a j).ver) d r 0=eu (λj=>(dZ s.rw k p j).ver) d r 0:=rq (λi=>by rw[w]) r
 show(St.mk _<|dZ (cM (pA s.rw k v e c f a) d (leaves r) 0) k p)=_
 rw[D]
 show(St.mk (((St.mk s.sl _).put (n0 d)<|eu (λj=>(pA s.rw k v e c f a j).ver) d r 0).sl) _)=_
 rw[y]
 rfl
theorem zde[aw]{s:St}{G:Call}{f:Operand}{v e n d:Nat}{rows o:List M0}{args h:M0}{g:FuncId}{r:RV}(E:a.op=.call G)(F:G.callee=.value f)(i:a.dst=n0 d)(H:d<c.n)(q:s.ev f=.clo g h)(t:AT b g args e n rows o (.rv r))(I:GiveL [(k,v)] (G.args.toList.map s.ev++h) args)(y:TabIs s.rw k v e n p rows)(z:p.Nodup)(l:d%1000≠k%1000):fF b c s a (br (s.killed k p) d r):=by
 intro P w J N Q L
 refine Jt (K:=λA=>∃m:O0,m.Perm p/\A=br (s.tabbed k v e n m o) d r) E F (λx B=>by grind) ?_ J λA C D⟨m,j,M⟩u=>L C D ?_
 rw[q];refine⟨k,v,e,n,p,rows,o,args,.rv r,t,I,y,z,λm j=>?_⟩;rw[i];exact⟨l,m,j,rfl⟩
 subst M;rw[<- zdd y z j l];exact Wk.kill _ k p c C D u
def ie[aw](P:G0)(T:gg)(s:St)(o:Oper)(K:St->Prop):Prop :=
 match o.op with
 | .assign (.const c) =>
   (match nu c with
   | true=>(match o.dst with|some d=>K (jx s d (match (T o.type).k with|.sli e=>.sli e (T e).size l0 []|_=>.nil) λv=>.own d v)|none=>False)
   | false=>K (s.put o.dst (VY c)))
 | .alloc t=>(match o.dst with|some d=>0<(T t).size/\K (jx s d (.box t ((T t).zero.map PV.v)) λv=>.ref d v 0)|none=>False)
 | .box t x=>(match o.dst with|some d=>fb s.rw (s.ev x) λc=>K (jx s d (.box t c) λv=>.ref d v 0)|none=>False)
 | .makeSlice t l c =>
   (match o.dst,(T t).k,s.ev l,s.ev c with
   | some d,.sli e,.v (.int _ a),.v (.int _ b)=>0<(T t).size/\(T e).size=1/\(match (T e).zero with
    | [z]=>0<=a/\a<=b/\((T e).bytes:Int)*b<=281474976710656/\b<=9223372036854775807/\K (jx s d (.sli e 1 l0 (ld a.toNat (.v z))) λv=>.own d v)
    | _=>False)
   | _,_,_,_=>False)
 | .buildSlice t n parts=>(match o.dst with|some d=>zdi T s d t n parts K|none=>False)
 | .store t g x=>o.dst=o0/\NK T s t (s.ev g) (s.ev x) K
 | .makeMap _ r=>(match o.dst,r with|some d,o0=>K (jx s d (.mp λ_=>0) λv=>.own d v)|_,_=>False)
 | .mapUpdate t m x y=>o.dst=o0/\ziX T s t (s.ev m) (s.ev x) (s.ev y) K
 | .build t parts=>wD T s.rw s.ev t parts λp=>K (s.put o.dst p)
 | .slice _ x _ _ _ =>
   (match s.ev x with
   | .own k _=>(match (s.rw k).kind with
    | .sli _ _ l0 _=>qQ T (s.freeze [k]).rw s.ev o.op λp=>K ((s.freeze [k]).put o.dst p)
    | _=>qQ T s.rw s.ev o.op λp=>K (s.put o.dst p))
   | _=>qQ T s.rw s.ev o.op λp=>K (s.put o.dst p))
 | .call c =>
   (match c.callee with
   | .builtin .append=>(match c.args,c.argTypes,o.dst with|⟨[x,y]⟩,⟨[t,h]⟩,n0 d=>ER T s d t h (s.ev x) (s.ev y) K|_,_,_=>False)
   | .value f=>(match o.dst with|some d=>oM P s.rw s.ev f c.args λrv=>K (br s d rv)|none=>oM P s.rw s.ev f c.args λ_=>K s)\/zaJ P s f c.args o.dst K
   | _=>qQ T s.rw s.ev o.op λp=>K (s.put o.dst p))
 | _=>qQ T s.rw s.ev o.op λp=>K (s.put o.dst p)
section
variable {P:G0}{T:gg}{G:Ghost}{s:St}{o:Oper}
theorem tX.effects[aw](h:tX P G s o x)(c:∀d,o.dst=n0 d->d<G.n):fF P G s o (s.put o.dst x):=λa w⟨E,b⟩K Q e=>h E a w b.rw b.wok (λp _=>dE b.slots p) K Q λv i f g=>e _ _ ⟨E,(b.ext f).put c g⟩
theorem Av[aw](b:T.Ok P){K:St->Prop}(c:∀d,o.dst=n0 d->d<G.n)(e:qQ T s.rw s.ev o.op λp=>K (s.put o.dst p)):∃a,K a/\fF P G s o a:=have⟨p,f,g⟩:=TT b e;⟨_,f,g.effects c⟩
theorem fF.wk[aw]{b c:St}(d:Wk s b)(h:fF P G b o c):fF P G s o c:=λa w e=>h a w<|d G a w e
theorem EI[aw](j:T.Ok P){K:St->Prop}(i:∀d,o.dst=n0 d->d<G.n)(e:ie P T s o K):∃u,K u/\fF P G s o u:=by
 unfold ie at e;split at e
 ·rename_i c g;split at e
  ·rename_i J;split at e
   ·rename_i d b;refine ziP ?_ g b (i d b) J e;split
    ·exact .inr ⟨_,_,rfl⟩
    ·exact .inl rfl
   ·exact e.elim
  ·exact Av j i<|by rw[g];exact e
 ·rename_i t g;split at e
  ·rename_i d b;exact zaN j g b (i d b) e
  ·exact e.elim
 ·rename_i t x g;split at e
  ·rename_i d b;exact ziO g b (i d b) e
  ·exact e.elim
 ·rename_i t l c g;split at e
  ·rename_i b B L q;have⟨C,D,e⟩:=e;split at e
   ·rename_i z M;have⟨N,O,R,S,e⟩:=e;exact zdj j g b (i _ b) C B L q D M N O R S e
   ·exact e.elim
  ·exact e.elim
 ·rename_i t n parts g;split at e
  ·rename_i d b;exact zaM j g b (i d b) e
  ·exact e.elim
 ·rename_i t ad x g;exact zaO j g e.1 e.2
 ·rename_i t r g;split at e
  ·rename_i d b;exact Qn g b (i d b) e
  ·exact e.elim
 ·rename_i t m x y g;exact ziY j g e.1 e.2
 ·rename_i t parts g;have⟨p,U,V⟩:=EO (G:=G) j g e;exact⟨_,U,V.effects i⟩
 ·rename_i t x lo hi mx g;split at e
  ·rename_i k W X;split at e
   ·have F:qQ T (s.freeze [k]).rw (s.freeze [k]).ev o.op λp=>K<|(s.freeze [k]).put o.dst p:=e;have⟨u,C,D⟩:=Av (G:=G) j i F;exact⟨u,C,D.wk<|Wk.freeze s [k]⟩
   ·exact Av j i e
  ·exact Av j i e
 ·rename_i c g;split at e
  ·rename_i q;split at e
   ·rename_i x y t t2 d H I b;refine VW j (x:=x) (y:=y) ?_ b (i d b) e;rw[g];have⟨c1,c2,c3⟩:=c;simp only at q H I;rw[q,H,I]
   ·exact e.elim
  ·rename_i f q;rcases e with e|e
   case inr=>exact zaK g q i e
   split at e
   ·rename_i d b;exact NH g q b (i d b) e
   ·rename_i b;have⟨rv,e,h⟩:=zg0 (G:=G) g q e;refine⟨_,e,λa w⟨E,A⟩Y Q Z=>h E a w A.rw A.wok (λx _=>dE A.slots x) Y Q λv w' lv hx _ _=>?_⟩;rw[b];exact Z _ _ ⟨E,A.ext hx⟩
  ·exact Av j i e
 ·exact Av j i e
def VQ(T:gg)(rw:S0)(t:A0)(x:PV)(K:Bool->Prop):Prop :=
 0<(T t).size/\match (T t).k with
 | .sli _=>Qk rw x λ_ _ c=>K l0/\(c=[]->K k0)
 | _=>False
def zlW[aw](P:G0)(s:St)(g:FuncId)(args:M0)(a:Option Nat)(K:St->Prop):Prop :=
 ∃(rv:RV)(b:St),AC P g args rv/\Wk (match a with|some d=>br s d rv|none=>s) b/\K b
def jN[aw](P:G0)(T:gg)(s:St)(o:Oper)(K:St->Prop):Prop :=
 match o.op with
 | .binOp .eql t x (.const (.slice o0 0 0)) _=>VQ T s.rw t (s.ev x) λb=>K (s.put o.dst (.v (.bool b)))
 | .binOp .neq t x (.const (.slice o0 0 0)) _=>VQ T s.rw t (s.ev x) λb=>K (s.put o.dst (.v (.bool !b)))
 | .call ⟨.value f,args,_⟩=>ie P T s o K\/(match s.ev f with
  | .clo g a=>zpR P s g (args.toList.map s.ev++a) o.dst K\/zlW P s g ((args.toList.map λx=>gk s.rw nh (s.ev x))++a.map (gk s.rw nh)) o.dst K\/askG P s g (args.toList.map s.ev++a) o.dst K
  | _=>False)
 | .call ⟨.builtin .append,⟨[x,y]⟩,⟨[t,j]⟩⟩=>(match o.dst,s.ev y with
  | some d,.v (.string b)=>Wa T s d t j (s.ev x) b K
  | _,_=>(match o.dst,s.ev x with
  | some d,.own k h=>(match (s.rw k).kind with|.tab e c=>zpP T s d t j k h e c (s.ev y) K|_=>ie P T s o K)
  | _,_=>ie P T s o K))
 | .buildSlice t n ⟨[(i,x)]⟩=>(match o.dst,s.ev x with
  | some d,.own k h=>(match (s.rw k).kind with|.tab _ _=>CB T s d t n i k h K|.sli _ _ _ _=>ie P T s o K\/CB T s d t n i k h K|_=>ie P T s o K)
  | _,_=>ie P T s o K)
 | _=>ie P T s o K
theorem NC(w:C0)(d:Nat){e:A0}(a:Option Addr)(n c P f:Nat)(h:b.underlying t=n0 (.slice e)) :
 (Op.equalIn (d+1) t (.slice a n c) (.slice o0 P f)).run b w=.ok a.isNone w:=by
 cases a<;>simp[Op.equalIn,run_underlying h]
theorem EJ[aw](w:C0){e:A0}(a:Option Addr)(n c P d:Nat)(h:b.underlying t=n0 (.slice e)) :
 (Op.equal t (.slice a n c) (.slice o0 P d)).run b w=.ok a.isNone w:=NC w _ a n c P d h
theorem EK[aw](j:T.Ok P){K:Bool->Prop}(f:VQ T s.rw t x K){E:Env}(k:E.R=s.rw)(m:WOk G E w){v:Value}(n:Rep w E 0 x v) :
 ∃b,K b/\(Op.equal t v (.slice o0 0 0)).run P w=.ok b w/\∃a l c,v=.slice a l c:=by
 obtain⟨q,f⟩:=f
 split at f
 rename_i e r;have i:=(j t q).k;rw[r]at i;obtain⟨fr,z,c,⟨u,y⟩,a,len,cap,A,rfl,B,C,D,d⟩:=Az f k m n;have g:=i;cases a with
 | some b=>exact⟨l0,u,EJ w _ _ _ _ _ g,_,_,_,rfl⟩
 | none =>
   have:c=[]:=by
    cases c with
    | nil=>rfl
    | cons p F=>obtain⟨b,o,h,_⟩:=d 0 sp;grind
   exact⟨k0,y this,EJ w _ _ _ _ _ g,_,_,_,rfl⟩
 grind
theorem ziG[aw](B:T.Ok P){K:St->Prop}(u:∀a,o.dst=n0 a->a<G.n)(h:jN P T s o K)(l:rt G s d w){O:Act->C0->Prop}(z:∀C A r,K C->rt G C A r->O A r):o.wp P d w O Q:=by
 have base:ie P T s o K->o.wp P d w O Q:=λh=>by obtain⟨C,D,I⟩:=EI (G:=G) B u h;exact I d w l _ _ λA r J=>z C A r D J
 unfold jN at h
 split at h
 rename_i t x W q;obtain⟨E,l⟩:=l;obtain⟨b,R,p,Y,Z,c1,L⟩:=EK (G:=G) B h l.rw l.wok (dE l.slots x);refine qA (v:=.bool b) (w':=w) ?_<|z _ _ _ R ⟨E,l.put u<|.v _⟩;have S:d.eval (.const<|.slice o0 0 0)=.slice o0 0 0:=rfl;rw[L]at p;simp[execOp,q,L,S,eqGuard,binOp,p]
 rename_i t x W q;obtain⟨E,l⟩:=l;obtain⟨b,R,p,Y,Z,c1,L⟩:=EK (G:=G) B h l.rw l.wok (dE l.slots x);refine qA (v:=.bool !b) (w':=w) ?_<|z _ _ _ R ⟨E,l.put u<|.v _⟩;have S:d.eval (.const<|.slice o0 0 0)=.slice o0 0 0:=rfl;rw[L]at p;simp[execOp,q,L,S,eqGuard,binOp,p]
 rename_i f args ts q;rcases h with h|h
 exact base h
 split at h
 rename_i g X m;rcases h with h|h|h
 exact Jt q rfl u (by rw[m];exact h) l z
 obtain⟨rv,C,M,U,h⟩:=h;have F:ie P T s o (·=(match o.dst with|some a=>br s a rv|none=>s)):=by
  unfold ie;simp only[q];refine .inl ?_;cases j:o.dst with
  | some a=>simp only;unfold oM;rw[m];exact⟨rv,M,rfl⟩
  | none=>simp only;unfold oM;rw[m];exact⟨rv,M,trivial⟩
 obtain⟨s2,rfl,I⟩:=EI (G:=G) B u F;exact I d w l _ _ λA r J=>z C A r h<|U G A r J
 exact yQ q rfl u (by rw[m];exact h) l z
 exact h.elim
 rename_i x y t W q;split at h
 rename_i a bs j N;obtain⟨C,D,I⟩:=Wb (G:=G) B q j (u a j) N h;exact I d w l _ _ λA r J=>z C A r D J
 split at h
 rename_i a k V j m;split at h
 rename_i e c H;exact zdf B q j (u a j) m H h l z
 exact base h
 exact base h
 rename_i t n i x q;split at h
 rename_i a k V j m;split at h
 exact EM B q j (u a j) m h l z
 rcases h with h|h
 exact base h
 exact EM B q j (u a j) m h l z
 exact base h
 exact base h
 exact base h
end
def VR(c:Array Oper)(s:St)(o:Oper)(e K2:St->Prop):Prop :=
 match o.guard with
 | none=>e s
 | some (j,a) =>
   match (c[j]?).bind (·.dst)with
   | some d=>(match s.sl d with|.v (.bool b)=>(b=a->e (s.put (n0 d) (.v (.bool a))))/\(b=!a->K2 ((s.put (n0 d) (.v (.bool !a))).put o.dst (.v undef)))|.v (.tuple _)=>K2 (s.put o.dst (.v undef))|_=>False)
   | none=>False
def CA[aw](P:G0)(T:gg)(a:Array Oper):List Oper->St->(St->Prop)->Prop
 | [],s,K=>K s
 | o::c,s,K=>VR a s o (λd=>jN P T d o λb=>CA P T a c b K) (λb=>CA P T a c b K)
theorem zaG[aw]{G:Ghost}{s:St}{d:Nat}{p:PV}{a:Act}{w:C0}(h:s.sl d=p)(b:rt G s a w):rt G (s.put (n0 d) p) a w:=by have⟨E,b⟩:=b;refine⟨E,b.rw,b.wok,b.size,b.defers,λi=>?_⟩;simp only[St.put];by_cases c:i=d;subst c;rw[ae rfl,<- h];exact b.slots i;exact ac c▸b.slots i
theorem ND[aw]{s:St}{dst:Option Nat}(G:∀a,dst=n0 a->a<c.n)(b:rt c s d w):rt c (s.put dst (.v undef)) (d.put dst undef) w:=have⟨E,b⟩:=b;⟨E,b.put G<|.v _⟩
theorem BV{c:Array Oper}{b:Array Value}{j d:Nat}{f:Array Value}(e:(c[j]?).bind (·.dst)=n0 d)(a:b.getD d undef=.tuple f):yielded c b j=none:=by
 rw[yielded];rw[bY]at a;grind
section
variable {P:G0}{T:gg}{G:Ghost}
theorem ziH[aw](O:T.Ok P){i:Array Oper}:∀(l:List Oper)(s:St)(K:St->Prop),(∀o∈l,∀d,o.dst=n0 d->d<G.n)->CA P T i l s K ->
 (∀L z A,K L->rt G L z A->Q .normal z A)->∀a w,rt G s a w->wpList P i Q l a w:=by
 intro l
 induction l with
 | nil=>intro s K _ e r a w g;exact r s a w e g
 | cons o M C =>
   intro s K B e r a w g
   have n:=B o sp
   have run:∀D,rt G D a w->(jN P T D o λF=>CA P T i M F K)->o.wp P a w (wpList P i Q M) Q:=λD H e =>ziG O n e H λF z A I R=>C F K (λo t=>B o<|by simp[t]) I r z A R
   simp only[wpList]
   simp only[CA,VR]at e
   cases q:o.guard with
   | none =>
     simp only[q]at e
     rw[ae<|by simp[Region.wanted,q]]
     exact .inl<|run s g e
   | some jw =>
     have⟨j,f⟩:=jw
     simp only[q]at e
     split at e
     rename_i d u;split at e
     rename_i b y;have c:a.tmps.getD d undef=.bool b:=by have⟨E,g⟩:=g;have:=g.slots d;rw[y]at this;exact this.v_eq
     have N:yielded i a.tmps j=n0 b:=by
      have J:a.tmps[d]?=n0 (.bool b):=by
       rw[bY]at c;cases h:a.tmps[d]? with
       | none=>rw[h]at c;simp[undef]at c
       | some x=>rw[h]at c;simp at c;rw[c]
      simp[yielded,u,J]
     by_cases k:b=f
     rw[ae<|by simp[Region.wanted,q,N,k]];exact .inl<|run _ (zaG (by rw[y,k]) g)<|e.1 k
     have m:b=!f:=by cases b<;>cases f<;>simp_all
     rw[ac<|by simp[Region.wanted,q,N,k]];have S:=zaG (d:=d) (p:=.v (.bool !f)) (by rw[y,m]) g;exact C _ K (λo t=>B o<|by simp[t]) (e.2 m) r _ w<|ND n S
     rename_i U y;have c:a.tmps.getD d undef=.tuple U:=by have⟨E,g⟩:=g;have:=g.slots d;rw[y]at this;exact this.v_eq
     rw[ac<|by simp[Region.wanted,q,BV u c]];exact C _ K (λo t=>B o<|by simp[t]) e r _ w<|ND n g
     exact e.elim
     exact e.elim
end
inductive Tc where
 | ids (l:List Nat)
 | res (d:Nat)
def Tc.has:Tc->Nat->Bool
 | .ids l,k=>l.any λa=>a%1000==k%1000
 | .res d,k=>k%1000==d%1000
structure Ent where
 rd:List Nat
 tc:Tc
def Ent.looks(e:Ent)(k:Nat):Bool:=e.rd.any λa=>a%1000==k%1000
theorem Tc.has_mod{t:Tc}{a:Nat}(h:k%1000=a%1000):t.has k=t.has a:=by
 cases t with
 | ids l=>simp[Tc.has,h]
 | res d=>simp[Tc.has,h]
theorem VP:(Tc.ids p).has k=k0↔∃a∈p,a%1000=k%1000:=by simp[Tc.has]
def Lc(o:Oper):Bool :=
 match o.op with
 | .move _=>k0
 | .assign _=>k0
 | .pick _ _ _=>k0
 | .binOp _ _ _ _ _=>k0
 | .unOp _ _ _=>k0
 | .extract _ _=>k0
 | .makeFunc _ _ _=>k0
 | .field _ _ _=>k0
 | .index _ _ _=>k0
 | _=>l0
def Qj(ops:Array Oper)(s:St)(o:Oper):Option Bool :=
 match o.guard with
 | none=>n0 k0
 | some (j,a)=>match (ops[j]?).bind (·.dst)with|some d=>(match s.sl d with|.v (.bool b)=>n0 (b==a)|.v (.tuple _)=>n0 l0|_=>o0)|none=>o0
def NB(ops:Array Oper)(o:Oper):O0 :=
 o.dst.toList++(o.op.operands.toList.filterMap fun|.tmp t=>n0 t|_=>o0)++(match o.guard with|some (j,_)=>((ops[j]?).bind (·.dst)).toList|none=>[])
abbrev zsy:=Nat->Row
structure Stp where
 val:PV
 rows:zsy
 e:Ent
def St.step(s:St)(o:Oper)(x:Stp):St:=(St.mk s.sl x.rows).put o.dst x.val
def St.stepIn(s:St)(o:Oper)(x:Stp):St:=(St.mk s.sl λk=>if x.e.tc.has k=k0 then x.rows k else s.rw k).put o.dst x.val
structure Local (ops:Array Oper) (o:Oper) (s s':St):Prop where
 ev:∀x∈o.op.operands,s'.ev x=s.ev x
inductive StepOk [aw] (P:Program) (G:Ghost) (ops:Array Oper) (s:St) (o:Oper) (x:Stp):Prop
 | skip (hg:Qj ops s o=some false) (hp:x.val=.v undef) (hr:x.rows=s.rw) (ht:x.e.tc=.ids []):StepOk P G ops s o x
 | step (hg:Qj ops s o=some true) (hr:∀k,x.e.tc.has k=false->x.rows k=s.rw k)
  (he:∀s':St,(∀k,x.e.looks k=true\/x.e.tc.has k=true->s'.rw k=s.rw k)->(∀y∈o.op.operands,s'.ev y=s.ev y)->fF P G s' o (s'.stepIn o x)):StepOk P G ops s o x
inductive Tr [aw] (P:Program) (G:Ghost) (ops:Array Oper):List Oper->St->List Stp->St->Prop
 | nil (s:St):Tr P G ops [] s [] s
 | cons {o:Oper} {os:List Oper} {s s':St} {x:Stp} {l:List Stp} (h:StepOk P G ops s o x) (t:Tr P G ops os (s.step o x) l s'):Tr P G ops (o::os) s (x::l) s'
def Cz:List Oper->List Stp->St->Nat->St
 | o::a,x::l,s,i+1=>Cz a l (s.step o x) i
 | _,_,s,_=>s
section
variable {P:G0}{T:gg}{G:Ghost}{ops:Array Oper}
theorem uF(l:List Oper)(a:List Stp)(s:St):Cz l a s 0=s:=by cases l<;>cases a<;>rfl
theorem Tr.length[aw]{s b:St}{a:List Stp}(h:Tr P G ops l s a b):lh a=lh l:=by
 induction h with
 | nil=>rfl
 | cons _ _ c=>grind
theorem Tr.last[aw]{s a:St}{b:List Stp}(h:Tr P G ops l s b a):Cz l b s (lh l)=a:=by
 induction h with
 | nil=>rfl
 | cons _ _ c=>exact c
theorem Tr.at[aw]{s d:St}{c:List Stp}(h:Tr P G ops l s c d):∀i(a:i<lh l)(b:i<lh c),StepOk P G ops (Cz l c s i) l[i] c[i]/\Cz l c s (i+1)=(Cz l c s i).step l[i] c[i]:=by
 induction h with
 | nil=>simp
 | cons h _ e =>
   intro i a b;cases i with
   | zero =>refine⟨by rwa[uF],?_⟩;exact uF _ _ _
   | succ i =>exact e i _<|ss b
def gH:Nat->(V0)->Option Nat
 | 0,_=>o0
 | n+1,p=>if p n=k0 then n0 n else gH n p
theorem nr:∀(n:Nat)(p q:V0),(∀k,k<n->p k=q k)->gH n p=gH n q:=by
 intro n;induction n with
 | zero=>intro p q _;rfl
 | succ n a=>simp[gH];grind
theorem Js[aw]:∀(n i:Nat)(p q:V0),i<=n->(∀k,k<i->p k=q k)->(∀k,i<=k->k<n->p k=l0)->gH n p=gH i q:=by
 intro n;induction n with
 | zero=>intro i p q h _ _;obtain rfl:i=0:=om
         rfl
 | succ n e =>intro i p q h c d;by_cases f:i=n+1;subst f;exact nr _ _ _ c;simp[gH];grind
theorem EH:∀(n i:Nat)(p:V0),i<n->p i=k0->(∀k,i<k->k<n->p k=l0)->gH n p=n0 i:=by
 intro n;induction n with
 | zero=>simp
 | succ n e =>simp[gH];grind
def xC(l:List Oper)(a:List Stp)(s:St)(D:V0)(t:Nat):PV :=
 match gH (lh l) (λk=>D k&&((l[k]?).bind (·.dst)==n0 t))with
 | some k=>(a[k]?.map (·.val)).getD .junk
 | none=>s.sl t
def kS(a:List Stp)(k j:Nat):Bool:=(a[j]?.map λx=>x.e.tc.has k).getD l0
def xD(l:List Oper)(a:List Stp)(s:St)(D:V0):zsy:=λk =>
 match gH (lh l) (λj=>D j&&kS a k j)with
 | some j=>(a[j]?.map (λx=>x.rows k)).getD (s.rw k)
 | none=>s.rw k
theorem zpN(s:St)(o:Oper)(x:Stp)(t:Nat):(s.step o x).sl t=if o.dst=n0 t then x.val else s.sl t:=by
 unfold St.step St.put;grind
theorem zpO(s:St)(o:Oper)(x:Stp):(s.step o x).rw=x.rows:=by unfold St.step St.put;grind
theorem Tr.slots[aw]{s d:St}{a:List Stp}(h:Tr P G ops l s a d)(t:Nat):∀i,i<=l.length ->
 (Cz l a s i).sl t=match gH i (λk=>(l[k]?).bind (·.dst)==n0 t)with|some k=>(a[k]?.map (·.val)).getD .junk|none=>s.sl t:=by
 intro i
 induction i with
 | zero=>intro _;rw[uF];rfl
 | succ i f =>
   intro g
   have c:i<a.length:=by rw[h.length];omega
   simp[(h.at i om c).2,zpN,gH]
   grind
theorem Tr.rows[aw]{s n:St}{a:List Stp}(h:Tr P G ops l s a n)(k:Nat):∀i,i<=l.length ->
 (Cz l a s i).rw k=match gH i (kS a k)with|some j=>(a[j]?.map (λx=>x.rows k)).getD (s.rw k)|none=>s.rw k:=by
 intro i
 induction i with
 | zero=>intro _;rw[uF];rfl
 | succ i o =>
   intro p
   have m:i<a.length:=by rw[h.length];omega
   have⟨b,c⟩:=h.at i om m
   simp only[c,zpO,gH]
   have e:=aN m
   by_cases d:kS a k i=k0
   grind
   rw[ac d,<- o om];have f:=by simpa[kS,e]using d
   cases b with
   | skip _ _ g _=>rw[g]
   | step _ g _=>grind
end
def iK(o:Oper):O0:=(o.after.toList.filter λe=>Region.binds .any e).map (·.on)
def tU(a:O0):O0->Nat
 | []=>0
 | k::b=>2^k|||a.getD k 0|||tU a b
def BT:List Oper->O0->O0
 | [],a=>a
 | o::b,a=>BT b (a++[tU a (iK o)])
theorem zc9(b:O0):∀(a:O0)(i:Nat),(tU b a).testBit i=k0->∃k∈a,i=k\/(lg b k 0).testBit i=true:=by
 intro a;induction a with
 | nil=>simp[tU]
 | cons k a c =>
   intro i h;simp only[tU]at h;grind
def zsx(l:List Oper)(a:O0)(n:Nat):Prop:=∀j,j<n->∀i,(lg a j 0).testBit i=k0->∃k∈(l[j]?.map iK).getD [],i=k\/(lg a k 0).testBit i=k0
theorem zda[aw](l:List Oper):∀(g a:List Oper)(b:O0),l=a++g->lh b=lh a->zsx l b (lh a)->zsx l (BT g b) (lh l):=by
 intro g;induction g with
 | nil=>intro a b m n p;simp at m;subst m;exact p
 | cons o g r =>
   intro a b m n p;have s:l[lh a]?=n0 o:=by rw[m];simp
   refine r (a++[o]) (b++[tU b (iK o)]) (by simp[m]) (by simp[n]) λj t i q=>?_;have c:∀k,(lg b k 0).testBit i=k0->(lg (b++[tU b (iK o)]) k 0).testBit i=true:=λk f=>by by_cases d:k<lh b;simpa[lg,eE d]using f;simp[lg,eQ (by omega:lh b<=k)]at f
   by_cases d:j<lh b;have e:(lg b j 0).testBit i=true:=by simpa[lg,eE d]using q
   have⟨k,f,h⟩:=p j om i e;exact⟨k,f,h.imp id<|c k⟩;obtain rfl:j=lh a:=by simp at t;omega
   have e:(tU b<|iK o).testBit i=true:=by
    have:lg (b++[tU b (iK o)]) (lh a) 0=tU b (iK o):=by rw[<- n];simp[lg]
    rwa [this]at q
   have⟨k,f,h⟩:=zc9 b _ i e;exact⟨k,by simpa[s]using f,h.imp id<|c k⟩
def EF(ops:Array Oper)(a b:Oper):Bool :=
 (match a.dst with|some t=>(NB ops b).contains t|none=>l0)||(match b.dst with|some t=>(NB ops a).contains t|none=>l0)
def nq:Nat->(V0)->Bool
 | 0,_=>k0
 | n+1,p=>p n&&nq n p
theorem tw:∀(n:Nat)(p:V0),nq n p=k0->∀k,k<n->p k=true:=by
 intro n;induction n with
 | zero=>simp
 | succ n b =>intro p h k a;simp[nq]at h;by_cases e:k=n;grind;exact b p h.2 k om
def tV:Tc->Tc->Bool
 | .ids l,t=>l.any t.has
 | .res d,.ids l=>l.any (Tc.res d).has
 | .res d,.res a=>d%1000==a%1000
theorem TL[aw]{a b:Tc}(c:a.has k=k0)(f:b.has k=k0):tV a b=true:=by
 cases a with
 | ids l =>have⟨x,g,e⟩:=VP.1 c;simp[tV];exact⟨x,g,by rwa[Tc.has_mod e]⟩
 | res d =>
   cases b with
   | ids l =>have⟨x,g,e⟩:=VP.1 f;simp[tV];exact⟨x,g,by rwa[Tc.has_mod e]⟩
   | res h=>simp_all[tV,Tc.has]
def uE(a b:Ent):Bool:=a.rd.any b.tc.has||b.rd.any a.tc.has||tV a.tc b.tc
theorem zpM[aw]{a b:Ent}(c:a.looks k=k0\/a.tc.has k=k0)(d:b.tc.has k=k0):uE a b=k0/\uE b a=true:=by
 unfold uE;rcases c with c|c
 have:a.rd.any b.tc.has=true:=by unfold Ent.looks at c;simp only[cS,aK]at c;have⟨x,f,e⟩:=c;exact List.any_eq_true.2 ⟨x,f,by rw[Tc.has_mod e];exact d⟩
 simp[this];simp[TL c d,TL d c]
def BU(ops:Array Oper)(c:List Ent):Bool :=
 nq (lh c) λj=>nq j λi=>match c[i]?,c[j]? with
  | some a,n0 b=>!uE a b||(lg (BT ops.toList []) j 0).testBit i
  | _,_=>k0
def EG(ops:Array Oper):Bool :=
 nq ops.size λj=>match ops[j]? with
  | none=>k0
  | some a=>(iK a).all (·<j)&&nq j λi=>match ops[i]? with
   | none=>k0
   | some b=>!EF ops b a||(lg (BT ops.toList []) j 0).testBit i
section
variable {P:G0}{T:gg}{G:Ghost}{ops:Array Oper}
structure Ordered (ops:Array Oper):Prop where
 low:∀j oj,ops[j]?=some oj->∀k∈iK oj,k<j
 bef:∀i j oi oj,i<j->ops[i]?=some oi->ops[j]?=some oj->EF ops oi oj=true->((BT ops.toList []).getD j 0).testBit i=true
theorem zdb[aw](h:EG ops=k0):Ordered ops:=by
 have c:∀j a,ops[j]?=n0 a->((iK a).all (·<j)&&nq j _)=true:=λj a b=>by
  have d:j<ops.size:=(Array.getElem?_eq_some_iff.1 b).1
  have:=tw _ _ h j d
  simpa only[b]using this
 refine⟨λj a b k g=>?_,λi j f a e l b m=>?_⟩;grind;have:=c j a b;simp only[aj]at this;have:=tw _ _ this.2 i e;grind
def zaE(ops:Array Oper)(c:List Ent):Prop:=∀(i j:Nat)(a b:Ent),i<j->c[i]?=n0 a->c[j]?=n0 b->uE a b=k0->(lg (BT ops.toList []) j 0).testBit i=k0
theorem zlT[aw]{c:List Ent}(h:BU ops c=k0):zaE ops c:=λi j a b d g f k=>by have:=tw _ _ (tw _ _ h j ((List.getElem?_eq_some_iff.1 f).1)) i d;grind
def GY(ops:Array Oper)(D:V0):Prop:=∀j a,ops[j]?=n0 a->D j=k0->∀k∈iK a,D k=k0
theorem pL[aw](m:Ordered ops)(n:GY ops D):∀(j:Nat)(a:Oper),ops[j]?=n0 a->(∀k∈iK a,D k=k0)->∀i,(lg (BT ops.toList []) j 0).testBit i=k0->D i=true:=by
 intro j;induction j using Nat.strongRecOn with
 | _ j o =>
   intro a b l i p;have e:j<ops.size:=(Array.getElem?_eq_some_iff.1 b).1;have q:=zda ops.toList ops.toList [] [] rfl rfl (λj b=>absurd b sp) j (ss e) i p;have⟨k,c,h⟩:=q;have f:ops.toList[j]?=n0 a:=ss b;rw[f]at c;simp at c;rcases h with rfl|h
   exact l i c;have g:=m.low j a b k c;have d:k<ops.size:=om;exact o k g ops[k] (ct d) (n k ops[k] (ct d)<|l k c) i h
def Jr(ops:Array Oper)(tr:List Stp)(s:St)(D:V0):St:=⟨xC ops.toList tr s D,xD ops.toList tr s D⟩
variable {s s':St}{tr:List Stp}
theorem Nz[aw](f:Ordered ops)(r:Tr P G ops ops.toList s tr s')(h:GY ops D)(g:ops[k]?=n0 a)(p:D k=l0)(u:∀i∈iK a,D i=k0){t:Nat}(q:t∈NB ops a):xC ops.toList tr s D t=(Cz ops.toList tr s k).sl t:=by
 have w:=(Array.getElem?_eq_some_iff.1 g).1
 rw[r.slots t k<|by simp;omega]
 unfold xC
 have e:gH (lh ops.toList) (λi=>D i&&((ops.toList[i]?).bind (·.dst)==n0 t))=gH k (λi=>(ops.toList[i]?).bind (·.dst)==n0 t):=by
  refine Js _ k _ _ (by simp;omega) (λi x=>?_)<|λi y j=>?_;cases d:((ops.toList[i]?).bind _==n0 t)with
  | false=>simp
  | true =>
    have o:ops[i]?=n0 ops[i]:=ct om;have b:ops[i].dst=n0 t:=by simpa[o]using d
    have l:EF ops ops[i] a=true:=by simp[EF,b,q]
    have:=pL f h k a g u i<|f.bef i k _ _ x o g l;simp[this]
  by_cases d:((ops.toList[i]?).bind (·.dst)==n0 t)=k0;by_cases m:i=k;grind;have c:=ss j;have o:=ct c;have b:=by simpa[o]using d
  have l:EF ops a ops[i]=true:=by simp[EF,b,q]
  cases n:D i with
  | false=>simp
  | true =>have:=pL f h i _ o (h i _ o n) k<|f.bef k i _ _ om g o l;grind
  grind
 rw[e]
theorem NA[aw](c:zaE ops (tr.map (·.e))){j i:Nat}{x:Stp}(f:tr[k]?=n0 x)(g:x.e.looks i=k0\/x.e.tc.has i=k0)(a:kS tr i j=k0) :
 (j<k->(lg (BT ops.toList []) k 0).testBit j=k0)/\(k<j->(lg (BT ops.toList []) j 0).testBit k=k0):=by
 unfold kS at a
 cases b:tr[j]? with
 | none=>grind
 | some y =>
   rw[b]at a
   have⟨c1,c2⟩:=zpM g (show y.e.tc.has i=k0 by grind)
   have d:(tr.map (·.e))[k]?=n0 x.e:=by grind
   have e:(tr.map (·.e))[j]?=n0 y.e:=by grind
   exact⟨λh=>c j k _ _ h e d c2,λh=>c k j _ _ h d e c1⟩
theorem zdc[aw](l:Ordered ops)(m:zaE ops (tr.map (·.e)))(t:Tr P G ops ops.toList s tr s')(b:GY ops D)(n:ops[k]?=n0 a)(p:D k=l0)(u:∀i∈iK a,D i=k0){x:Stp}(q:tr[k]?=n0 x){i:Nat}(r:x.e.looks i=k0\/x.e.tc.has i=k0):xD ops.toList tr s D i=(Cz ops.toList tr s k).rw i:=by
 have w:=(Array.getElem?_eq_some_iff.1 n).1
 rw[t.rows i k<|by grind]
 unfold xD
 have e:gH (lh ops.toList) (λj=>D j&&kS tr i j)=gH k (kS tr i):=by
  refine Js _ k _ _ (by grind) (λj y=>?_)<|λj z c=>?_;cases d:kS tr i j with
  | false=>simp
  | true =>simp[pL l b k a n u j<|(NA m q r d).1 y]
  cases d:kS tr i j with
  | false=>simp
  | true =>
    by_cases f:j=k;grind;have g:=ss c;have o:=ct g;cases h:D j with
    | false=>simp
    | true =>have:=pL l b j _ o (b j _ o h) k<|(NA m q r d).2 om;grind
 rw[e]
theorem zlU[aw](C:Ordered ops)(K:zaE ops (tr.map (·.e)))(A:GY ops D)(E:ops[k]?=n0 a)(I:D k=l0){x:Stp}(B:tr[k]?=n0 x) :
 Jr ops tr s (λi=>D i||i==k)=(Jr ops tr s D).stepIn a x:=by
 have u:k<ops.size:=(Array.getElem?_eq_some_iff.1 E).1
 have w:ops.toList[k]?=n0 a:=ss E
 have F:(Jr ops tr s<|λi=>D i||i==k).sl=((Jr ops tr s D).stepIn a x).sl:=by
  funext t;have G:((Jr ops tr s D).stepIn a x).sl t=if a.dst=n0 t then x.val else(Jr ops tr s D).sl t:=by
   unfold St.stepIn St.put;cases h:a.dst with
   | none=>simp
   | some d =>simp only[Option.some.injEq];by_cases e:t=d;subst e;simp;rw[ac e,ac<|λh=>e h.symm]
  rw[G];by_cases f:a.dst=n0 t;rw[ae f];show xC _ _ _ _ t=_;unfold xC;rw[EH _ k _ (ss u) (by simp[w,f])<|λi n p=>?_];simp[B];have l:i<ops.size:=ss p;have g:ops[i]?=n0 ops[i]:=ct l;have q:(i==k)=false:=by simp;omega
  simp only[q,fT];cases r:D i with
  | false=>simp
  | true =>
    by_cases J:ops[i].dst=n0 t;have L:EF ops a ops[i]=true:=by simp[EF,f,NB,J]
    have:=pL C A i _ g (A i _ g r) k<|C.bef k i _ _ n E g L;rw[I]at this;cases this;simp[g,J]
  rw[ac f];show xC _ _ _ _ t=xC _ _ _ D t;unfold xC;rw[nr _ _ (λi=>D i&&((ops.toList[i]?).bind (·.dst)==n0 t)) λi M=>?_];by_cases m:i=k;subst m;simp[w,f];have:(i==k)=false:=by simp[m]
  simp[this]
 have H:(Jr ops tr s<|λi=>D i||i==k).rw=((Jr ops tr s D).stepIn a x).rw:=by
  funext i;have G:((Jr ops tr s D).stepIn a x).rw i=if x.e.tc.has i=k0 then x.rows i else(Jr ops tr s D).rw i:=by unfold St.stepIn St.put;cases a.dst<;>rfl
  rw[G];have y:kS tr i k=x.e.tc.has i:=by simp[kS,B]
  by_cases z:x.e.tc.has i=k0;rw[ae z];show xD _ _ _ _ i=_;unfold xD;rw[EH _ k _ (ss u) (by simp[y,z])<|λj n p=>?_];simp[B];have l:j<ops.size:=ss p;have g:ops[j]?=n0 ops[j]:=ct l;have q:(j==k)=false:=by simp;omega
  simp only[q,fT];cases r:D j with
  | false=>simp
  | true =>
    cases N:kS tr i j with
    | false=>simp
    | true =>have:=pL C A j _ g (A j _ g r) k<|(NA K B (.inr z) N).2 n;rw[I]at this;cases this
  rw[ac z];show xD _ _ _ _ i=xD _ _ _ D i;unfold xD;rw[nr _ _ (λj=>D j&&kS tr i j) λj M=>?_];by_cases m:j=k;subst m;simp[y,z];have:(j==k)=false:=by simp[m]
  simp[this]
 cases O:Jr ops tr s (λi=>D i||i==k)with
 | mk o b =>
   cases P:(Jr ops tr s D).stepIn a x with
   | mk c d =>
     rw[O,P]at F H
     simp only at F H
     rw[F,H]
end
section
variable {P:G0}{T:gg}{G:Ghost}{ops:Array Oper}
theorem tX.congr[aw]{s s1:St}(h:tX P G s a x)(c:s1.rw=s.rw)(d:∀o∈a.op.operands,s1.ev o=s.ev o):tX P G s1 a x :=
 λE p w e f g K Q i=>h E p w (e.trans c) f (λo b=>by grind) K Q i
theorem ziD:∀(l:List Bool)(i:Nat),l[i]?=n0 l0->(l.set i k0).count l0+1=l.count false:=by
 grind
theorem zlS[aw]{s b:St}{o:List Stp}(d:Ordered ops)(e:Tr P G ops ops.toList s o b)(h:GY ops D)(j:ops[k]?=n0 a)(l:D k=l0)(m:∀i∈iK a,D i=k0) :
 ∀x∈a.op.operands,(Jr ops o s D).ev x=(Cz ops.toList o s k).ev x:=by
 intro x n
 cases x with
 | tmp t =>
   refine Nz d e h j l m ?_
   simp only[NB,gG,jh]
   exact .inl<|.inr ⟨.tmp t,ss n,rfl⟩
 | const c=>rfl
 | func f=>rfl
 | global g=>rfl
theorem zpL[aw]{s d:St}{a:List Stp}(b:Tr P G ops ops.toList s a d)(e:∀k,k<ops.size->D k=k0):Jr ops a s D=d:=by
 have f:=b.last;rw[<- f];unfold Jr;have g:xC ops.toList a s D=(Cz ops.toList a s<|lh ops.toList).sl:=by funext t;rw[b.slots t _<|ab _];unfold xC;grind
 have h:xD ops.toList a s D=(Cz ops.toList a s<|lh ops.toList).rw:=by funext k;rw[b.rows k _<|ab _];unfold xD;rw[nr _ _ (kS a k) λj c=>by grind]
 rw[g,h]
theorem TJ{a:Array Bool}{i:Nat}(h:i∈Region.ready .any ops a):∃o,ops[i]?=n0 o/\a.getD i k0=l0/\∀k∈iK o,a.getD k l0=true:=by simp only[Region.ready,dG,eJ,aj,bC]at h;obtain⟨c,l,d⟩:=h;have b:=ct c;refine⟨ops[i],b,l,λk j=>?_⟩;rw[b]at d;simp only[xV,mW,ta]at d;simp[iK]at j;grind
theorem ziE{listed:Array Bool}{i:Nat}{o:Oper}(a:ops[i]?=n0 o)(d:listed.getD i k0=l0)(f:∀k∈iK o,listed.getD k l0=k0):i∈Region.ready .any ops listed:=by
 have b:=(Array.getElem?_eq_some_iff.1 a).1;simp only[Region.ready,dG,eJ,aj,bC];refine⟨b,d,?_⟩;simp only[a,xV,mW,ta];intro e g;by_cases c:Region.binds .any e=k0
 ·have:=f e.on (by simp[iK];grind);grind
 grind
theorem ziF[aw]{s s':St}{l:List Stp}(K:Ordered ops)(V:zaE ops (l.map (·.e)))(L:Tr P G ops ops.toList s l s')(W:∀o∈ops,∀d,o.dst=n0 d->d<G.n){Q:Exit->Act->C0->Prop}(hQ:∀a w,rt G s' a w->Q .normal a w):∀(m:Nat)(c:Array Bool)(a:Act)(w:C0),c.size=ops.size->GY ops (λk=>c.getD k l0) ->
  rt G (Jr ops l s (λk=>c.getD k l0)) a w->c.toList.count l0<=m->wpAny P .any ops Q m c a w:=by
 have done:∀(c:Array Bool)(a:Act)(w:C0),c.size=ops.size->rt G (Jr ops l s<|λk=>c.getD k l0) a w->Region.ready .any ops c=[]->Q .normal a w:=by
  intro c a w r z M;refine hQ a w ?_;rw[zpL L]at z
  ·exact z
  ·intro k t;induction k using Nat.strongRecOn with
   | _ k ih =>
     cases X:c.getD k l0 with
     | true=>rfl
     | false =>
       have g:ops[k]?=n0 ops[k]:=ct t;have C:=ziE (listed:=c) g (by
        rw[bY]at X ⊢;rw[ct om]at X ⊢;simpa using X) λj N=>ih j (K.low k _ g j N)<|by have:=K.low k _ g j N;omega
       rw[M]at C;simp at C
 intro m
 induction m with
 | zero =>
   intro c a w r O z hn
   have Y:∀k,k<ops.size->c.getD k k0=true:=λk t=>by
    have hz:c.toList.count l0=0:=om;rw[List.count_eq_zero]at hz;rw[bY,ct om];cases X:c[k]with
    | true=>rfl
    | false=>exact absurd (by rw[<- X];simp) hz
   have M:Region.ready .any ops c=[]:=by apply List.eq_nil_iff_forall_not_mem.2;intro i hi;have⟨o,g,h1,_⟩:=TJ hi;have:=Y i (Array.getElem?_eq_some_iff.1 g).1;rw[h1]at this;cases this
   exact⟨M,done c a w r z M⟩
 | succ m ih =>
   intro c a w r O z hn
   refine⟨done c a w r z,λi hi=>?_⟩
   have⟨o,g,h1,hd⟩:=TJ hi
   have Z:i<ops.size:=(Array.getElem?_eq_some_iff.1 g).1
   have R:c.getD i l0=false:=by rw[bY,ct om]at h1 ⊢;simpa using h1
   have a0:i<ops.toList.length:=by simpa using Z
   have hit:i<l.length:=by rw[L.length];exact a0
   have⟨D,_⟩:=L.at i a0 hit
   have a1:ops.toList[i]=o:=by have:=g;rw[ct Z]at this;simpa using this
   rw[a1]at D
   have hx:l[i]?=n0 l[i]:=aN hit
   have a4:=zlS K L O g R hd
   have a5:∀k,l[i].e.looks k=k0\/l[i].e.tc.has k=k0->(Jr ops l s λk=>c.getD k l0).rw k=(Cz ops.toList l s i).rw k:=λk t=>zdc K V L O g R hd hx t
   have a6:∀d,o.dst=n0 d->d<G.n:=W o<|by rw[<- a1];simp
   have u:(λk=>(c.setIfInBounds i k0).getD k l0)=λk=>c.getD k l0||k==i:=by
    funext k;rw[bY,bY,Array.getElem?_setIfInBounds];by_cases t:i=k
    ·subst t;rw[ae rfl,ae om];simp
    ·rw[ac t];have:(k==i)=false:=by simp;exact λe=>t e.symm
     simp[this]
   have next:∀(S:Act)(U:C0),rt G (Jr ops l s λk=>c.getD k l0||k==i) S U->wpAny P .any ops Q m (c.setIfInBounds i k0) S U:=λS U F=>by
    refine ih _ S U (by simpa using r) ?_ (by rw[u];exact F) ?_
    ·rw[u];intro j oj N A k t;simp only[cw,aK]at A ⊢;rcases A with A|rfl
     ·exact .inl<|O j oj N A k t
     ·rw[g]at N;cases N;exact .inl<|hd k t
    ·have:=ziD c.toList i<|by
      rw[pJ,ct om];rw[bY,ct om]at R;simpa using R
     simp only[te];omega
   have y:=zlU (tr:=l) (s:=s) K V O g R hx
   unfold wpOp
   simp only[g]
   have a2:∀b,Qj ops (Cz ops.toList l s i) o=n0 b->Region.wanted o (yielded ops a.tmps)=b:=λb n=>by
    unfold Qj at n;cases q:o.guard with
    | none=>simp only[q]at n;simp at n;subst n;simp[Region.wanted,q]
    | some jw =>
      have⟨j,a8⟩:=jw;simp only[q]at n;split at n
      ·rename_i d H;have hn:d∈NB ops o:=by simp[NB,q,H]
       have B:=Nz K L O g R hd hn;split at n
       ·rename_i bb I;rw[I]at B;have⟨E,J⟩:=z;have p:=J.slots d;have f:a.tmps.getD d undef=.bool bb:=by have hh:(Jr ops l s λk=>c.getD k l0).sl d=.v (.bool bb):=B;rw[hh]at p;exact p.v_eq
        have hy:yielded ops a.tmps j=n0 bb:=by
         have a3:a.tmps[d]?=n0 (.bool bb):=by
          rw[bY]at f;cases h:a.tmps[d]? with
          | none=>rw[h]at f;simp[undef]at f
          | some x=>rw[h]at f;simp at f;rw[f]
         simp[yielded,H,a3]
        simp at n;simp[Region.wanted,q,hy,n]
       ·rename_i cs I;rw[I]at B;have⟨E,J⟩:=z;have p:=J.slots d;have f:a.tmps.getD d undef=.tuple cs:=by have hh:(Jr ops l s λk=>c.getD k l0).sl d=.v (.tuple cs):=B;rw[hh]at p;exact p.v_eq
        simp at n;subst n;simp[Region.wanted,q,BV H f]
       ·cases n
      ·cases n
   cases D with
   | skip n hp M a7 =>
     rw[a2 l0 n]
     simp only[eP,gx]
     refine next _ _ ?_
     rw[y]
     have h0:=ND (dst:=o.dst) a6 z
     have e:(Jr ops l s λk=>c.getD k l0).stepIn o l[i]=(Jr ops l s λk=>c.getD k l0).put o.dst (.v undef):=by unfold St.stepIn;rw[hp,a7];simp only[Tc.has,jF,eP,gx]
     rw[e];exact h0
   | step n M he =>
     rw[a2 k0 n]
     rw[ae rfl]
     refine .inl ?_
     refine he (Jr ops l s λk=>c.getD k l0) a5 a4 a w z _ _ λS U F=>next S U ?_
     rw[y]
     exact F
end
end Go.Abs
