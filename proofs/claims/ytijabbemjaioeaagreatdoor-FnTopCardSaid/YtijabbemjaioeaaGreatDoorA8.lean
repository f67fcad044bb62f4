/- DERIVED by an AI agent. -/
import Derived.Test.YtijabbemjaioeaaGreatDoorA7
set_option linter.all false
namespace Go.Abs
open Bool renaming true→k0,false→l0
open Option renaming some→n0
open Go renaming TypeId→A0,Operand→B0,World→C0,Program→G0
open List renaming getD→lg,length→lh
variable {l:O0}{k:Nat}{K:Ent->St->Prop}{b:B0->PV}{t:A0}{o:Oper}{s:St}{a:PV->Prop}{c:List (Nat×A0)}{i:PV}{d:Op}
def zay:PV->O0|.own k _=>[k%1000]|.ref k _ _=>[k%1000]|_=>[]
def kR:PV->O0|.own k _=>[k%1000]|.ref k _ _=>[k%1000]|.ag c=>c.flatMap zay|_=>[]
def ju(l:O0)(k:Nat):Prop:=∃a∈l,a%1000=k%1000
theorem iX(k:Nat):ju [k%1000] k:=⟨_,List.mem_singleton.2 rfl,JN _ _⟩
theorem EA(h:k∈l):ju l k:=⟨_,h,rfl⟩
theorem uB{m:O0}(h:ju l k):ju (l++m) k:=have⟨a,b,e⟩:=h;⟨a,List.mem_append.2<|.inl b,e⟩
theorem iY{m:O0}(h:ju m k):ju (l++m) k:=have⟨a,b,e⟩:=h;⟨a,List.mem_append.2<|.inr b,e⟩
theorem TB{a:Nat}(h:ju l a):ju (k::l) a:=have⟨b,c,e⟩:=h;⟨b,dd _ c,e⟩
theorem Sb:ju (k%1000::l) k:=⟨_,cU,JN _ _⟩
theorem zaz{m:O0}(h:ju l k)(b:∀a∈l,a∈m):ju m k:=have⟨a,c,e⟩:=h;⟨a,b a c,e⟩
theorem rK{b:Type}{f:b->O0}{l:List b}{x:b}(c:x∈l)(h:ju (f x) k):ju (l.flatMap f) k:=have⟨a,d,e⟩:=h;⟨a,List.mem_flatMap.2 ⟨x,c,d⟩,e⟩
theorem rW{e:Ent}(h:ju e.rd k):e.looks k=true:=by have⟨a,b,h⟩:=h;unfold Ent.looks;grind
theorem yE[aw]:(Tc.ids l).has k=k0↔ju l k:=VP
theorem EB[aw](h:(Tc.ids l).has k=l0):¬ju l k:=λa=>by rw[yE.2 a]at h;grind
def same(rw rw':S0)(p:PV):Prop:=∀k,ju (kR p) k->rw' k=rw k
section
variable {P:G0}{T:gg}{rw rw':S0}{p:PV}
theorem ziv[aw](a:same rw rw' p)(K:Md->M0->Nat->Prop):Bh rw' p K=Bh rw p K:=by
 cases p<;>first|rfl|(simp[Bh];rw[a _<|iX _])
theorem zaA[aw](a:same rw rw' p)(K:Bool->Nat->M0->Prop):Qk rw' p K=Qk rw p K:=by
 cases p<;>first|rfl|(simp[Qk];rw[a _<|iX _])
theorem zc1[aw](a:same rw rw' p)(K:Bool->Nat->M0->Prop):re rw' p K=re rw p K:=by
 cases p<;>first|rfl|(simp only[re];rw[a _<|iX _])
theorem Cw[aw](a:same rw rw' p)(A:Prop):ml rw' p A=ml rw p A:=by
 cases p<;>first|rfl|(simp[ml];rw[a _<|iX _])
theorem tv[aw](a:same rw rw' p)(K:M0->Prop):fb rw' p K=fb rw p K:=by
 cases p<;>first|rfl|(simp[fb];rw[a _<|iX _])
theorem Kg[aw](a:same rw rw' p)(K:PV->Prop):iE T rw' t p i K=iE T rw t p i K:=by unfold iE;simp only[Cw a];cases p<;>first|rfl|(simp only;rw[a _<|iX _])
theorem ziw[aw](a:same rw rw' p)(K:Nat->Nat->Prop):Kk rw' p K=Kk rw p K:=by
 cases p<;>first|rfl|(simp[Kk];rw[a _<|iX _])
theorem zix[aw](a:same rw rw' p)(K:PV->Prop):NP T rw' t p K=NP T rw t p K:=by simp[NP,ziw a]
theorem zaB[aw]{a c d:Option B0}(e:same rw rw' p)(K:PV->Prop):gO T rw' b t p a c d K=gO T rw b t p a c d K:=by simp[gO,zc1 e]
theorem zc2[aw]{b:A0}(c:same rw rw' p)(K:PV->Prop):rf T rw' t b p K=rf T rw t b p K:=by simp[rf,zaA c]
theorem zc3[aw](b:same rw rw' p)(K:PV->Prop):xE T rw' t p i K=xE T rw t p i K:=by
 cases p with
 | own k c =>
   cases i with
   | v x=>cases x with
     | int d a=>cases d<;>first|rfl|simp[xE,b k<|iX k]
     | _=>rfl
   | _=>rfl
 | _=>rfl
theorem ziy[aw](h:∀x∈d.operands,same rw rw' (b x))(K:PV->Prop):qQ T rw' b d K=qQ T rw b d K:=by
 unfold qQ;cases d<;>try rfl
 case convert a e x=>exact zc2 (h x<|by simp[Op.operands]) K
 case load t x=>exact ziv (h x<|by simp[Op.operands]) _
 case fieldAddr t x f=>simp only[Cw<|h x<|by simp[Op.operands]]
 case indexAddr t x i=>exact Kg (h x<|by simp[Op.operands]) K
 case slice t x g j k=>exact zaB (h x<|by simp[Op.operands]) K
 case nilCheck x=>exact Cw (h x<|by simp[Op.operands]) _
 case lookup t x i ok=>exact cV (ok=l0/\·)<|zc3 (h x<|by simp[Op.operands]) K
 case call c =>
  dsimp only;split
  ·rename_i x t;exact zix (h x<|by simp[Op.operands,Call.operands]) K
  ·rfl
  ·rfl
  ·rfl
theorem zc4[aw]:∀(a:List (Nat×PV)) (b:M0) (K:M0->Prop),(∀x∈a,same rw rw' x.2)->lZ T rw' c a b K=lZ T rw c a b K:=by
 intro a;induction a with
 | nil=>intro b K _;rfl
 | cons x a e =>intro b K h;have⟨i,p⟩:=x;simp[lZ,λb K=>e b K λy g=>h y (by grind),tv (h (i,p) sp)]
theorem ziz:∀(b:List (Nat×PV)) (k:M0) (K:M0->Prop),lZ T rw c b k K->∃a,K a/\lZ T rw c b k (·=a):=by
 intro b;induction b with
 | nil=>intro k K h;exact⟨k,h,rfl⟩
 | cons x b j =>
   intro k K h;unfold lZ at h ⊢;split at h;rename_i l o m;unfold fb at h ⊢
   grind
   exact h.elim
end
def pD(T:gg)(rw:S0)(b:B0->PV)(a:Op)(K:PV->Prop):Prop :=
 match a with
 | .build t parts=>wD T rw b t parts K
 | a=>qQ T rw b a K
def Nx(k:Nat)(c:M0):O0:=c.flatMap λq=>match q with|.own j _=>if j%1000=k%1000 then []else [j%1000]|_=>[]
def kg(rw:S0):Nat->PV->O0
 | 0,_=>[]
 | n+1,p=>match p with
   | .own k _=>k%1000::(match (rw k).kind with|.tab _ c=>Nx k c|_=>[])
   | .ref k _ _=>k%1000::(match (rw k).kind with|.box _ c=>c.flatMap (kg rw n)|_=>[])
   | .ag c=>c.flatMap (kg rw n)
   | .clo _ c=>c.flatMap (kg rw n)
   | _=>[]
theorem TE[aw]{rw rw':S0}:∀(n:Nat)(p:PV),(∀k,ju (kg rw n p) k->rw' k=rw k)->gk rw' n p=gk rw n p:=by
 intro n;induction n with
 | zero=>intro p _;rfl
 | succ n o =>
   intro p h;have a:∀c:M0,(∀k,ju _ k->rw' k=rw k)->c.map _=c.map _:=λc r =>cO λq g=>o q λk d=>r k<|rK g d;cases p with
   | own k i =>
     have l:=h k Sb;simp[gk,l];split;cases d:(rw k).kind with
     | tab e c =>
       simp only;congr 1;refine cO λq g=>?_;cases q with
       | own j v =>
         have b:=h j<|by
          simp[kg,d];by_cases m:j%1000=k%1000;exact⟨_,cU,om⟩;exact TB<|rK g<|by simp[m];exact iX j
         simp[tA,b]
       | _=>rfl
     | _=>rfl
     rfl
   | ref k i s =>
     simp only[gk,h k Sb];split;cases d:(rw k).kind with
     | box t c=>simp only;rw[a c λj b=>h j<|by simp only[kg,d];exact TB b]
     | _=>rfl
     rfl
   | ag c=>simp only[gk];rw[a c λj b=>h j b]
   | clo f c=>simp only[gk];rw[a c λj b=>h j b]
   | _=>rfl
def zaC(s:St)(d:Nat)(x:RV):Option PV->St|none=>br s d x|some p=>s.put (n0 d) p
def zsw[aw](P:G0)(s:St)(g:FuncId)(f:M0)(d:Nat)(K:O0->Nat->St->Prop):Prop :=
 (∃(k v e m:Nat) (p:O0) (b h:List M0) (args:M0) (r:RV),
  AT P g args e m b h (.rv r)/\GiveL [(k,v)] f args/\TabIs s.rw k v e m p b/\p.Nodup/\d%1000≠k%1000/\K [] k (br (s.killed k p) d r)) \/
 (∃(j n e:Nat)(i c head out:M0)(ok:Bool),
  AF P g i head e out ok/\zlQ i c/\f=c++[.own j n]/\s.rw j=⟨n,.sli e 1 l0 head⟩/\plain head/\d%1000≠j%1000/\j<lent/\K [] j (br (s.killed j []) d (VO e out ok))) \/
 (∃(o:O0)(k:Nat)(x:RV)(r:Row)(q:Option PV),(∀l:St,l.rw k=s.rw k->(∀a∈o,l.rw a=s.rw a)->∀t:St->Prop,t (zaC (l.row k r) d x q)->askG P l g f (n0 d) t)/\d%1000≠k%1000/\K o k (zaC (s.row k r) d x q))
def tdK[aw](P:G0)(s:St)(f:B0)(c:Call)(d:Nat)(K:Ent->St->Prop):Prop :=
 match s.ev f with|.clo g a=>zsw P s g (c.args.toList.map s.ev++a) d (λb k e=>K ⟨b,.ids [d,k]⟩ e)|_=>False
def nK[aw](P:G0)(s:St)(o:Oper)(K:Ent->St->Prop):Prop :=
 match o.op with
 | .call c=>(match c.callee with
  | .value f=>(match o.dst with
   | some d=>(oM P s.rw s.ev f c.args λrv=>K ⟨(c.args.toList.map s.ev).flatMap (kg s.rw nh)++kg s.rw (nh+1) (s.ev f),.res d⟩ (br s d rv))\/tdK P s f c d K
   | none=>oM P s.rw s.ev f c.args λ_=>K ⟨(c.args.toList.map s.ev).flatMap (kg s.rw nh)++kg s.rw (nh+1) (s.ev f),.ids []⟩ s)
  | _=>False)
 | _=>False
def EC(s:St)(o:Oper):O0:=match Lc o with|true=>[]|false=>(o.op.operands.toList.map s.ev).flatMap kR
def zvo(T:gg)(s:St)(b:Option Nat)(t:A0)(r:Row)(k a:Nat)(f:PV)(K:Ent->St->Prop):Prop :=
 ∃(d e:Nat)(c:M0)(g:IntKind)(m:Int),b=n0 d/\r=⟨a,.sli e 1 l0 c⟩/\0<(T t).size/\(T t).k=.sli e/\0<(T e).size/\(T e).size=1/\f=.v (.int g m)/\0<=m/\m<=(lh c:Int) /\
  K ⟨[],.ids [k]⟩ ((s.row k ⟨a+1,.sli e 1 l0 (c.take m.toNat)⟩).put (n0 d) (.own k (a+1)))
def zpH(T:gg)(s:St)(o:Oper)(t:A0)(b c:PV)(K:Ent->St->Prop):Prop :=
 match b with
 | .own k a=>(match (s.rw k).kind with
  | .sli _ _ l0 _=>zvo T s o.dst t (s.rw k) k a c K
  | _=>pD T s.rw s.ev o.op λp=>K ⟨EC s o,.ids []⟩ (s.put o.dst p))
 | _=>pD T s.rw s.ev o.op λp=>K ⟨EC s o,.ids []⟩ (s.put o.dst p)
def dK[aw](P:G0)(T:gg)(s:St)(o:Oper)(K:Ent->St->Prop):Prop :=
 match o.op with
 | .store _ a x=>ie P T s o (K ⟨[],.ids (kR (s.ev a)++kR (s.ev x))⟩)
 | .alloc _=>ie P T s o (K ⟨[],.ids o.dst.toList⟩)
 | .box _ x=>ie P T s o (K ⟨kR (s.ev x),.ids o.dst.toList⟩)
 | .makeSlice _ _ _=>ie P T s o (K ⟨[],.ids o.dst.toList⟩)
 | .buildSlice _ _ parts=>ie P T s o (K ⟨[],.ids (o.dst.toList++(parts.toList.map λx=>s.ev x.2).flatMap kR)⟩)
 | .slice t x none (n0 y) none=>zpH T s o t (s.ev x) (s.ev y) K
 | .call c=>(match c.callee with
  | .builtin .append=>(match c.args with|⟨[x,y]⟩=>ie P T s o (K ⟨kR (s.ev y),.ids (o.dst.toList++kR (s.ev x))⟩)|_=>False)
  | .value _=>nK P s o K
  | _=>pD T s.rw s.ev o.op λp=>K ⟨EC s o,.ids []⟩ (s.put o.dst p))
 | _=>pD T s.rw s.ev o.op λp=>K ⟨EC s o,.ids []⟩ (s.put o.dst p)
def qy[aw](P:G0)(T:gg)(ops:Array Oper):List Ent->List Oper->St->(St->Prop)->Prop
 | a,[],s,K=>BU ops a.reverse=k0/\K s
 | a,o::c,s,K=>VR ops s o
  (λd=>dK P T d o λe b=>qy P T ops (e::a) c b K)
  (λb=>qy P T ops (⟨[],.ids []⟩::a) c b K)
section
variable {P:G0}{T:gg}{G:Ghost}{ops:Array Oper}
theorem zlP[aw]{rw:S0}(h:qQ T rw b d a):∃p,a p/\∀k:PV->Prop,k p->qQ T rw b d k:=by
 unfold qQ at h ⊢;split at h;exact⟨_,h,λ_ h=>h⟩;exact⟨_,h,λ_ h=>h⟩;split at h;rename_i t _;cases t with
 | true=>exact⟨_,h.1 rfl,λ_ l=>⟨λ_=>l,λh=>by cases h⟩⟩
 | false=>exact⟨_,h.2 rfl,λ_ l=>⟨(λh=>by cases h),λ_=>l⟩⟩
 exact h.elim;exact zaR h;exact zg1 h;exact TS h;have⟨m,c,q,h,K⟩:=zaP h;have⟨p,e,i⟩:=Ay h;exact⟨p,e,λk n=>K _<|i _ n⟩;have⟨r,s,h,K⟩:=wG h;have⟨j,h⟩:=h;have⟨n,g⟩:=uK h;exact⟨_,n,λk n=>K _ ⟨j,g _ n⟩⟩;rename_i t x f;have⟨r,s,h,K⟩:=wG h;cases o:b x with
 | ag c =>rw[o]at h;have⟨p,e,i⟩:=Ay h;exact⟨p,e,λk n=>K _<|i _ n⟩
 | _=>rw[o]at h;exact h.elim
 exact yM h;have⟨g,h⟩:=h;split at h;exact⟨_,h.2.2,λ_ n=>⟨g,h.1,h.2.1,n⟩⟩;have⟨p,e,i⟩:=Ay h.2.2;exact⟨p,e,λ_ n=>⟨g,h.1,h.2.1,i _ n⟩⟩;exact h.elim;exact NM h;split at h;exact⟨_,h.2,λ_ n=>⟨h.1,n⟩⟩;exact h.elim;split at h;exact⟨_,h.2,λ_ n=>⟨h.1,n⟩⟩;exact h.elim;have⟨n,g⟩:=uK h;exact⟨_,n,λk n=>g _ n⟩;split at h;exact zaQ h;exact tz h;exact tz h;exact h.elim;have⟨u,h⟩:=h;have⟨p,e,K⟩:=TW h;exact⟨p,e,λk n=>⟨u,K _ n⟩⟩;exact h.elim
theorem ziA[aw]{rw:S0}(h:pD T rw b d a):∃p,a p/\pD T rw b d (·=p):=by
 unfold pD at h ⊢;split at h;unfold wD at h ⊢;have⟨f,h⟩:=h;split at h;have⟨j,h⟩:=h;have⟨K,k,l⟩:=ziz _ _ _ h;refine⟨_,k,f,j,?_⟩;grind;grind;have⟨p,m,n⟩:=zlP h;grind
theorem zc5[aw]{rw rw':S0}{ev:B0->PV}(h:∀x∈d.operands,same rw rw' (ev x))(K:PV->Prop):pD T rw' ev d K=pD T rw ev d K:=by
 unfold pD;split;rename_i t parts;unfold wD;split;rename_i e b;rw[zc4 _ _ _ λx c=>by
  obtain⟨y,a,rfl⟩:=List.mem_map.1 c;exact h y.2<|by simp only[Op.operands,wj,dX];exact⟨y,a,rfl⟩]
 rfl;exact ziy h K
theorem zc6{rw rw':S0}(K:Lc o=k0)(h:pD T rw b o.op a):pD T rw' b o.op a:=by
 unfold Lc at K
 split at K<;>first
  | (rename_i c;rw[c]at h ⊢;exact h)
  | grind
theorem zc7[aw](b:T.Ok P)(K:pD T s.rw s.ev o.op a):∃p,a p/\tX P G s o p:=by unfold pD at K;split at K;rename_i t parts c;exact EO b c K;exact TT b K
theorem zs9{a:St}{l:List (Nat×B0)}(h:∀x∈l,a.ev x.2=s.ev x.2):(l.map λx=>a.ev x.2)=l.map λx=>s.ev x.2:=cO h
def Bf(a:O0)(d:Nat)(r:Row)(rw:S0):S0:=λi=>if i=d then r else oL rw a i
theorem ED[aw](s:St)(d:Nat)(a:RK)(p:Nat->PV):jx s d a p=(St.mk s.sl (Bf [] d ⟨(s.rw d).ver+1,a⟩ s.rw)).put (n0 d) (p ((s.rw d).ver+1)):=rfl
theorem EE[aw](s:St)(d k:Nat)(a:RK):ma s d k a=(St.mk s.sl (Bf [] k ⟨(s.rw k).ver+1,a⟩ s.rw)).put (n0 d) (.own k ((s.rw k).ver+1)):=rfl
theorem GS[aw](s:St)(k:Nat)(r:Row):s.row k r=St.mk s.sl (Bf [] k r s.rw):=rfl
theorem VM(s:St)(a:O0)(k:Nat)(r:Row):(s.freeze a).row k r=St.mk s.sl (Bf a k r s.rw):=rfl
theorem TF[aw]{rw:S0}{K:M0->O0->Prop}(d:kK rw i K):∃c f,K c f/\(∀j∈f,ju (kR i) j)/\∀rw',same rw rw' i->kK rw' i (λa b=>a=c/\b=f):=by unfold kK at d;split at d;exact⟨_,_,d.2,sp,λrw' _=>⟨d.1,rfl,rfl⟩⟩;exact⟨_,_,d.2,sp,λrw' _=>⟨d.1,rfl,rfl⟩⟩;rename_i k l;have⟨h,p,d⟩:=d;split at d;refine⟨_,_,d,sp,λrw' g=>?_⟩;have:=g k<|iX _;unfold kK;grind;refine⟨_,_,d,λj m=>by exact List.mem_singleton.1 m▸iX _,λrw' g=>?_⟩;have:=g k<|iX _;unfold kK;grind;grind;exact⟨_,_,d.2,sp,λrw' _=>⟨d.1,rfl,rfl⟩⟩;grind
theorem ziB[aw]{rw:S0}:∀{e:M0}{K:M0->O0->Prop},BX rw k e K->∃c f,K c f/\(∀j∈f,ju (e.flatMap kR) j)/\∀rw',(∀p∈e,same rw rw' p)->∀i:M0->O0->Prop,i c f->BX rw' k e i:=by
 intro e;induction e with
 | nil=>intro K h;exact⟨_,_,h,sp,λ_ _ i h=>h⟩
 | cons p e r =>
   intro K h;have⟨c,f,⟨s,h⟩,t,u⟩:=TF h;have⟨B,C,h,l,w⟩:=r h;refine⟨_,_,h,λj x=>?_,λrw' b i y=>?_⟩;rw[cE];rcases List.mem_append.1 x with h|h
   exact uB<|t j h;exact iY<|l j h;have a:=u rw'<|b p sp;have o:∀{K2:M0->O0->Prop},K2 c f->kK rw' p K2:=λ{K2}d=>by unfold kK at a ⊢;split at a;have⟨g,rfl,rfl⟩:=a;exact⟨g,d⟩;have⟨g,rfl,rfl⟩:=a;exact⟨g,d⟩;grind;have⟨g,rfl,rfl⟩:=a;exact⟨g,d⟩;exact a.elim
   exact o ⟨s,w rw' (λq A=>b q<|by simp[A]) (λm n=>i (c++m)<|f++n) y⟩
theorem Cx{rw:S0}{K:M0->Prop}(a:fb rw i K):∃c,K c/\(∀q∈c,∀j∈zay q,j∈kR i)/\∀e:M0->Prop,e c->fb rw i e:=by
 have one:∀q:PV,∀f∈[q],∀j∈zay f,j∈kR q:=λq f d j b=>by rw[List.mem_singleton.1 d]at b;cases q<;>simp[zay]at b<;>simp[kR,b]
 unfold fb at a ⊢;split at a;exact⟨_,a,λq d j b=>List.mem_flatMap.2 ⟨q,d,b⟩,λ_ h=>h⟩;grind;grind;grind;grind;grind;grind;grind
theorem TG[aw]{rw rw':S0}(a:∀j,ju (zay i) j->rw' j=rw j)(h:qz rw i):qz rw' i:=by
 cases i<;>first|exact h|(simp[qz]at h ⊢;rwa[a _<|iX _])
def Cy[aw](P:G0)(b:gg)(G:Ghost)(s:St)(o:Oper)(K:Ent->St->Prop):Prop :=
 ∃x:Stp,K x.e (s.step o x)/\(∀k,x.e.tc.has k=l0->x.rows k=s.rw k) /\
  ∀a:St,(∀k,x.e.looks k=k0\/x.e.tc.has k=k0->a.rw k=s.rw k)->(∀y∈o.op.operands,a.ev y=s.ev y)->fF P G a o (a.stepIn o x)
theorem uC[aw](m:T.Ok P)(n:∀d,o.dst=n0 d->d<G.n){val:PV}{fz:O0}{d:Nat}{r:Row}{rd l:O0}(c:ju l d)(f:∀j∈fz,ju l j)(p:K ⟨rd,.ids l⟩ ((St.mk s.sl (Bf fz d r s.rw)).put o.dst val))(q:∀b:St,(∀k,ju rd k->b.rw k=s.rw k)->(∀k,ju l k->b.rw k=s.rw k)->(∀y∈o.op.operands,b.ev y=s.ev y)->ie P T b o (·=(St.mk b.sl (Bf fz d r b.rw)).put o.dst val)):Cy P T G s o K:=by
 refine⟨⟨val,Bf fz d r _,⟨rd,.ids l⟩⟩,p,λk a=>?_,λb g i=>?_⟩
 have a:=EB a;unfold Bf oL;grind
 have e:b.stepIn o ⟨val,Bf fz d r s.rw,⟨rd,.ids l⟩⟩=(St.mk b.sl<|Bf fz d r b.rw).put o.dst val:=by unfold St.stepIn;congr 2;funext k;by_cases a:(Tc.ids l).has k=k0;rw[ae a];have:=g k<|.inr a;simp[Bf,oL,this];have a:=λh=>a<|yE.2 h;unfold Bf oL;grind
 rw[e];obtain⟨u,rfl,t⟩:=EI m n (q b (λk a=>g k<|.inl<|rW a) (λk a=>g k<|.inr<|yE.2 a) i);grind
theorem ziC[aw]{val:PV}{fz:O0}{d:Nat}{r:Row}{rd l:O0}(c:ju l d)(f:∀j∈fz,ju l j)(m:K ⟨rd,.ids l⟩ ((St.mk s.sl (Bf fz d r s.rw)).put o.dst val))(n:∀b:St,(∀k,ju rd k->b.rw k=s.rw k)->(∀k,ju l k->b.rw k=s.rw k)->(∀y∈o.op.operands,b.ev y=s.ev y)->fF P G b o ((St.mk b.sl (Bf fz d r b.rw)).put o.dst val)):Cy P T G s o K:=by
 refine⟨⟨val,Bf fz d r s.rw,⟨rd,.ids l⟩⟩,m,λk a=>?_,λb g i=>?_⟩
 have a:¬ju l k:=EB a;show Bf fz d r s.rw k=s.rw k;unfold Bf oL;rw[ac<|λe=>a<|by rw[e];exact c,ac<|λe=>a<|f k e]
 have e:b.stepIn o ⟨val,Bf fz d r s.rw,⟨rd,.ids l⟩⟩=(St.mk b.sl<|Bf fz d r b.rw).put o.dst val:=by unfold St.stepIn;congr 2;funext k;by_cases a:(Tc.ids l).has k=k0;rw[ae a];have:=g k<|.inr a;show Bf fz d r s.rw k=Bf fz d r b.rw k;unfold Bf oL;rw[this];rw[ac a];have a:¬ju l k:=λh=>a<|yE.2 h;unfold Bf oL;rw[ac<|λe=>a<|by rw[e];exact c,ac<|λe=>a<|f k e]
 rw[e];exact n b (λk a=>g k<|.inl<|rW a) (λk a=>g k<|.inr<|yE.2 a) i
theorem zaD[aw](S:T.Ok P){L x:B0}(J:o.op=.store t L x)(U:∀d,o.dst=n0 d->d<G.n)(g:ie P T s o (K ⟨[],.ids (kR (s.ev L)++kR (s.ev x))⟩)):Cy P T G s o K:=by
 simp only[ie,J]at g
 have⟨m,V,g⟩:=g
 have q:∀i:St,(∀y∈o.op.operands,i.ev y=s.ev y)->i.ev L=s.ev L/\i.ev x=s.ev x:=λi l=>⟨l _<|by simp[J,Op.operands],l _<|by simp[J,Op.operands]⟩
 split at g
 rename_i k F H l;have⟨u,g⟩:=g;have n:ju (kR (s.ev L)++kR (s.ev x)) k:=by rw[l];exact uB<|iX _
 have f:∀(i:St)(p:PV),i.put o.dst p=i:=λi p=>by rw[m];rfl
 split at g
 rename_i W c b;have⟨new,⟨C,D,E,g⟩,w,M⟩:=Cx g;refine uC S U (rd:=[]) (val:=.junk) (fz:=[]) (d:=k) (r:=⟨F,.box W<|nt c H new⟩) n sp (by rw[f,<- GS];exact g) λi _ B h=>?_;have⟨N,O⟩:=q i h;rw[f,<- GS];simp only[ie,J];refine⟨m,V,?_⟩;rw[N,l,O];have z:=B k n;simp only[z];refine⟨u,?_⟩;simp only[b];rw[tv (rw:=s.rw)<|λj A=>B j<|iY A];exact M _ ⟨C,D,λp Q=>TG (λj A=>B j<|iY<|zaz A<|w p Q)<|E p Q,rfl⟩
 rename_i e X c b;have⟨new,R,⟨C,D,E,g⟩,Y,M⟩:=TF g;refine uC S U (rd:=[]) (val:=.junk) (fz:=R) (d:=k) (r:=⟨F,.sli e X l0<|nt c H new⟩) n (λj A=>iY<|Y j A) (by rw[f,<- VM];exact g) λi _ B h=>?_;have⟨N,O⟩:=q i h;rw[f,<- VM];simp only[ie,J];refine⟨m,V,?_⟩;rw[N,l,O];have z:=B k n;simp only[z];refine⟨u,?_⟩;simp only[b];have a:=M i.rw<|λj A=>B j<|iY A;unfold kK at a ⊢;split at a
 have⟨I,rfl,rfl⟩:=a;exact⟨I,C,D,E,rfl⟩
 have⟨I,rfl,rfl⟩:=a;exact⟨I,C,D,E,rfl⟩
 have⟨I,Z,a⟩:=a;refine⟨I,Z,?_⟩;split at a
 have⟨rfl,rfl⟩:=a;exact⟨C,D,E,rfl⟩
 have⟨rfl,rfl⟩:=a;exact⟨C,D,E,rfl⟩
 exact a.elim
 have⟨I,rfl,rfl⟩:=a;exact⟨I,C,D,E,rfl⟩
 exact a.elim
 rename_i e c b;have⟨new,⟨C,D,E,g⟩,w,M⟩:=Cx g;refine uC S U (rd:=[]) (val:=.junk) (fz:=[]) (d:=k) (r:=⟨F,.tab e<|nt c H new⟩) n sp (by rw[f,<- GS];exact g) λi _ B h=>?_;have⟨N,O⟩:=q i h;rw[f,<- GS];simp only[ie,J];refine⟨m,V,?_⟩;rw[N,l,O];have z:=B k n;simp only[z];refine⟨u,?_⟩;simp only[b];rw[tv (rw:=s.rw)<|λj A=>B j<|iY A];exact M _ ⟨C,D,λp Q=>TG (λj A=>B j<|iY<|zaz A<|w p Q)<|E p Q,rfl⟩
 exact g.elim
 exact g.elim
theorem GU[aw](i:T.Ok P){e:RK}{p:Nat->PV}(a:o.dst=n0 k)(j:∀k,o.dst=n0 k->k<G.n)(f:K ⟨l,.ids o.dst.toList⟩ (jx s k e p))(d:∀b:St,(∀h,ju l h->b.rw h=s.rw h)->(∀y∈o.op.operands,b.ev y=s.ev y)->ie P T b o (·=jx b k e p)):Cy P T G s o K:=by
 have c:ju o.dst.toList k:=a▸EA sp
 refine uC i j (fz:=[]) c sp (by rw[a]at f ⊢;exact f) λb m n g=>?_
 have:=d b m g
 simp_all[ED]
theorem zpI[aw](hT:T.Ok P)(hd:∀d,o.dst=n0 d->d<G.n)(A:dK P T s o K):Cy P T G s o K:=by
 have read:(pD T s.rw s.ev o.op λp=>K ⟨EC s o,.ids []⟩ (s.put o.dst p))->Cy P T G s o K:=λA=>by
  obtain⟨p,hp,hq⟩:=ziA A;refine⟨⟨p,s.rw,⟨EC s o,.ids []⟩⟩,hp,λ_ _=>rfl,λB N C=>?_⟩;have e:B.stepIn o ⟨p,s.rw,⟨EC s o,.ids []⟩⟩=B.put o.dst p:=by unfold St.stepIn;simp only[Tc.has,jF,eP,gx]
  rw[e];have d0:pD T (St.mk s.sl B.rw).rw (St.mk s.sl B.rw).ev o.op (·=p):=by
   cases hf:Lc o with
   | true=>exact zc6 hf hq
   | false =>refine(zc5 (rw:=s.rw) (rw':=B.rw) (ev:=s.ev) (λx Y k A=>N k (.inl (rW ?_))) _).mpr hq;simp only[EC,hf];exact rK (List.mem_map.2 ⟨x,ss Y,rfl⟩) A
  obtain⟨q,rfl,hy⟩:=zc7 (G:=G) hT d0;exact(hy.congr (s1:=B) rfl C).effects hd
 unfold dK at A;split at A
 ·rename_i t ad x J;exact zaD hT J hd A
 ·rename_i t J;simp only[ie,J]at A;split at A
  ·rename_i d b;refine GU hT b hd A.2 λB _ _=>?_;simp only[ie,J,b];exact⟨A.1,trivial⟩
  ·exact A.elim
 ·rename_i t x J;simp only[ie,J]at A;split at A
  ·rename_i d b;obtain⟨new,A,_,W⟩:=Cx A;refine GU hT b hd A λB N C=>?_;simp only[ie,J,b];rw[C x (by simp[J,Op.operands]),tv (rw:=s.rw) (λj E=>N j E)];exact W _ rfl
  ·exact A.elim
 ·rename_i t l c J;simp only[ie,J]at A;split at A
  ·rename_i d e kl nl kc nc b a8 U W;obtain⟨h1,h2,A⟩:=A;split at A
   ·rename_i z hz;obtain⟨h3,h4,h5,h6,A⟩:=A;refine GU hT b hd A λB _ C=>?_;simp only[ie,J,b,a8,C l (by simp[J,Op.operands]),C c (by simp[J,Op.operands]),U,W];refine⟨h1,h2,?_⟩;simp only[hz];exact⟨h3,h4,h5,h6,trivial⟩
   ·exact A.elim
  ·exact A.elim
 ·rename_i t n parts J;simp only[ie,J]at A;split at A
  ·rename_i d b;unfold zdi at A;obtain⟨ht,A⟩:=A;split at A
   ·rename_i e a8;obtain⟨he,hn,c0,c3,A⟩:=A;obtain⟨c,f,⟨d3,A⟩,hf,hp⟩:=ziB A;rw[VM]at A;have M:ju (o.dst.toList++(parts.toList.map λx=>s.ev x.2).flatMap kR) d:=uB (by rw[b];exact EA sp);refine uC hT hd (rd:=[]) (val:=.own d ((s.rw d).ver+1)) (fz:=f) (d:=d) (r:=⟨(s.rw d).ver+1,.sli e (T e).size l0 c⟩) M (λj E=>iY (hf j E)) (by rw[b]at A ⊢;exact A) λB _ U C=>?_;rw[b];simp only[ie,J,b];refine⟨ht,?_⟩;simp only[a8];refine⟨he,hn,c0,c3,?_⟩;have hm:(parts.toList.map λx=>B.ev x.2)=parts.toList.map λx=>s.ev x.2:=zs9 λx Y=>C _ (by
     simp only[J,Op.operands,wj,dX];exact⟨x,Y,rfl⟩)
    rw[hm];refine hp B.rw (λp d4 j E=>U j (iY (rK d4 E))) _ ⟨d3,?_⟩;rw[VM,U d M]
   ·exact A.elim
  ·exact A.elim
 ·rename_i t x y J;unfold zpH at A;split at A
  ·rename_i k a6 C;split at A
   ·obtain⟨d,e,c,kd,m,b,c4,h1,h2,h3,h4,d5,h5,h6,A⟩:=A;have M:ju [k] k:=EA sp;refine ziC (val:=.own k (a6+1)) (fz:=[]) (d:=k) (r:=⟨a6+1,.sli e 1 l0 (c.take m.toNat)⟩) (rd:=[]) (l:=[k]) M sp (by rw[GS]at A;rw[b];exact A) λB _ U D=>?_;rw[b,<- GS];have d6:B.ev x=.own k a6:=by rw[D x (by simp[J,Op.operands]),C]
    have d7:B.ev y=.v (.int kd m):=by rw[D y (by simp[J,Op.operands]),d5]
    exact zpJ hT J b (hd d b) d6 (by rw[U k M];exact c4) h1 h2 h3 h4 d7 h5 h6
   ·exact read A
  ·exact read A
 ·rename_i c J;split at A
  ·rename_i W;split at A
   ·rename_i x y L;simp only[ie,J,W]at A;split at A
    ·rename_i x' y' t t2 d a5 d8 b;have d9:x'=x/\y'=y:=by rw[L]at a5;simpa using a5.symm
     obtain⟨rfl,rfl⟩:=d9;have b4:∀z,z=x'\/z=y'->z∈o.op.operands:=λz hz=>by simp only[J,Op.operands,Call.operands,W,L];rcases hz with rfl|rfl<;>simp
     unfold ER at A;obtain⟨rfl,ht,A⟩:=A;split at A
     ·rename_i e a8;obtain⟨he,e3,A⟩:=A;obtain⟨fr,sz,X,⟨e4,e5,A⟩,c5⟩:=VX A
      have mk:∀{p:PV}{k:Nat}{r:Row},ju (o.dst.toList++kR (s.ev x')) k->K ⟨kR (s.ev y'),.ids (o.dst.toList++kR (s.ev x'))⟩ ((St.mk s.sl (Bf [] k r s.rw)).put (n0 d) p)->(∀B:St,(∀k,ju (o.dst.toList++kR (s.ev x')) k->B.rw k=s.rw k)->B.ev x'=s.ev x' ->
       (match B.ev x' with
        | .v u=>nu u=k0/\X.length*(T e).bytes<=140737488355328/\jx B d (.sli e (T e).size l0 X) (λv=>.own d v)=(St.mk B.sl (Bf [] k r B.rw)).put (n0 d) p
        | .own k' a6=>(B.rw k').ver=a6/\(match (B.rw k').kind with
         | .nil=>X.length*(T e).bytes<=140737488355328/\ma B d k' (.sli e (T e).size l0 X)=(St.mk B.sl (Bf [] k r B.rw)).put (n0 d) p
         | .sli e' c6 l0 c=>e'=e/\c6=(T e).size/\(lh c+lh X)*(T e).bytes<=140737488355328/\ma B d k' (.sli e (T e).size l0 (c++X))=(St.mk B.sl (Bf [] k r B.rw)).put (n0 d) p
         | _=>False)
        | _=>False))->Cy P T G s o K:=λ{p k r}M h1 h2=>by
       refine uC hT hd (val:=p) (fz:=[]) (d:=k) (r:=r) M sp (by rw[b]at h1 ⊢;exact h1) λB N U C=>?_
       rw[b]
       simp only[ie,J,W,L,d8,b]
       refine⟨rfl,ht,?_⟩
       simp only[a8]
       refine⟨he,e3,?_⟩
       rw[C y' (b4 y' (.inr rfl)),zaA (rw:=s.rw) (λj E=>N j E)]
       exact c5 _ ⟨e4,e5,h2 B U (C x' (b4 x' (.inl rfl)))⟩
      split at A
      ·rename_i u C;obtain⟨h1,h2,A⟩:=A;have M:ju (o.dst.toList++kR (s.ev x')) d:=uB (by rw[b];exact EA sp);rw[ED]at A;refine mk M A λB U Y=>?_;rw[Y,C];exact⟨h1,h2,by rw[ED,U d M]⟩
      ·rename_i k a6 C;obtain⟨b5,A⟩:=A;have M:ju (o.dst.toList++kR (s.ev x')) k:=iY (by rw[C];exact iX _);split at A
       ·rename_i a3;obtain⟨h1,A⟩:=A;rw[EE]at A;refine mk M A λB U Y=>?_;rw[Y,C];simp only[U k M];refine⟨b5,?_⟩;simp only[a3];exact⟨h1,by rw[EE,U k M]⟩
       ·rename_i e' c6 c' a3;obtain⟨h1,h2,h3,A⟩:=A;rw[EE]at A;refine mk M A λB U Y=>?_;rw[Y,C];simp only[U k M];refine⟨b5,?_⟩;simp only[a3];exact⟨h1,h2,h3,by rw[EE,U k M]⟩
       ·exact A.elim
      ·exact A.elim
     ·exact A.elim
    ·exact A.elim
   ·exact A.elim
  ·
   rename_i f W;simp only[nK,J,W]at A
   have args:∀B:St,(∀k,ju ((c.args.toList.map s.ev).flatMap (kg s.rw nh)++kg s.rw (nh+1) (s.ev f)) k->B.rw k=s.rw k)->(∀y∈o.op.operands,B.ev y=s.ev y)->∀g I,s.ev f=.clo g I ->
    B.ev f=s.ev f/\(c.args.toList.map λx=>gk B.rw nh (B.ev x))++I.map (gk B.rw nh)=(c.args.toList.map λx=>gk s.rw nh (s.ev x))++I.map (gk s.rw nh):=λB N C g I hf =>
    ⟨C f (by simp[J,Op.operands,Call.operands,W]),by
     congr 1
     ·refine cO λx Y=>?_;rw[C x (by simp[J,Op.operands,Call.operands,W];exact .inr (ss Y))];exact TE _ _ λk A=>N k (uB (rK (List.mem_map.2 ⟨x,Y,rfl⟩) A))
     ·refine cO λq hq=>TE _ _ λk A=>N k (iY ?_);rw[hf];exact rK hq A⟩
   cases b:o.dst with
   | some d =>
     simp only[b]at A;rcases A with A|A
     case inr =>
      unfold tdK at A;split at A
      ·rename_i g I C;rcases A with⟨k,v,e,e2,p,b6,e6,args,r,e7,hg,ht,hn,b3,A⟩|⟨k,vj,e,f3,f2,head,out,ok,e8,c7,c8,E,e9,b3,f0,A⟩|⟨rd,k,x,r,q,b8,b3,A⟩
       ·have H:∀j,(Tc.ids [d,k]).has j=k0↔(j%1000=d%1000\/j%1000=k%1000):=λj=>by simp only[Tc.has,hO,jF,fT,cw,aK];exact⟨λh=>h.imp nY nY,λh=>h.imp nY nY⟩
        have a0:∀j,BW k p j->j%1000=k%1000:=λj E=>by
         rcases E with rfl|⟨x,_,rfl⟩
         ·rfl
         ·rw[fX];omega
        have O:∀i,bz d i%1000=d%1000:=λi=>by unfold bz;omega
        refine⟨⟨eu (λj=>(dZ s.rw k p j).ver) d r 0,cM (dZ s.rw k p) d (leaves r) 0,⟨[],.ids [d,k]⟩⟩,?_,λj E=>?_,λB N D=>?_⟩
        ·have Z:s.step o ⟨eu (λj=>(dZ s.rw k p j).ver) d r 0,cM (dZ s.rw k p) d (leaves r) 0,⟨[],.ids [d,k]⟩⟩=br (s.killed k p) d r:=by unfold St.step br;rw[b];rfl
         rw[Z];exact A
        ·have E:¬(j%1000=d%1000\/j%1000=k%1000):=λh=>by have:=(H j).2 h;rw[this]at E;cases E
         have h2:=(jM (R:=dZ s.rw k p) (R':=dZ s.rw k p) (d:=d) (λ_=>rfl) j (leaves r) 0).2 λ⟨m,_,hm⟩=>E (.inl (by rw[hm];exact O _));show cM (dZ s.rw k p) d (leaves r) 0 j=s.rw j;rw[h2.1,iS λh=>E (.inr (a0 j h))]
        ·have a7:∀j,(j%1000=d%1000\/j%1000=k%1000)->B.rw j=s.rw j:=λj E=>N j (.inr ((H j).2 E));have F:∀j,(j%1000=d%1000\/j%1000=k%1000)->dZ s.rw k p j=dZ B.rw k p j:=λj E=>by unfold dZ;rw[a7 j E]
         have Z:B.stepIn o ⟨eu (λj=>(dZ s.rw k p j).ver) d r 0,cM (dZ s.rw k p) d (leaves r) 0,⟨[],.ids [d,k]⟩⟩=br (B.killed k p) d r:=by
          unfold St.stepIn br;rw[b,rq (vr':=λj=>(dZ B.rw k p j).ver) (λi=>by rw[F _ (.inl (O i))])];congr 2;funext j;obtain⟨a1,a2⟩:=jM (R:=dZ s.rw k p) (R':=dZ B.rw k p) (d:=d) (λi=>F _ (.inl (O i))) j (leaves r) 0;by_cases U:∃m,m<(leaves r).length/\j=bz d (0+m)
          ·have V:(Tc.ids [d,k]).has j=true:=(H j).2 (.inl (by obtain⟨m,_,rfl⟩:=U;exact O _));simp only[V,eW];exact a1 U
          ·obtain⟨b1,b2⟩:=a2 U;show _=cM (dZ B.rw k p) d (leaves r) 0 j;rw[b2];by_cases V:(Tc.ids [d,k]).has j=k0
           ·simp only[V,eW];rw[b1];exact F j ((H j).1 V)
           ·simp only[V,gx];exact(iS λh=>V ((H j).2 (.inr (a0 j h)))).symm
         rw[Z];have L:c.args.toList.map B.ev=c.args.toList.map s.ev:=cO λx Y=>D x (by simp[J,Op.operands,Call.operands,W];exact .inr (ss Y));have b0:B.ev f=.clo g I:=by rw[D f (by simp[J,Op.operands,Call.operands,W]),C]
         refine zde (rows:=b6) J W b (hd d b) b0 e7 (by rw[L];exact hg) ⟨?_,ht.len,λi hi=>?_⟩ hn b3
         ·rw[a7 k (.inr rfl)];exact ht.top
         ·rw[a7 (dq k (lg p i 0)) (.inr (gf _ _))];exact ht.row i hi
       ·have H:∀j,(Tc.ids [d,k]).has j=k0↔(j%1000=d%1000\/j%1000=k%1000):=λj=>by simp only[Tc.has,hO,jF,fT,cw,aK];exact⟨λh=>h.imp nY nY,λh=>h.imp nY nY⟩
        have a0:∀j,BW k [] j->j%1000=k%1000:=λj E=>by
         rcases E with rfl|⟨x,_,rfl⟩
         ·rfl
         ·rw[fX];omega
        have O:∀i,bz d i%1000=d%1000:=λi=>by unfold bz;omega
        refine⟨⟨eu (λj=>(dZ s.rw k [] j).ver) d (VO e out ok) 0,cM (dZ s.rw k []) d (leaves (VO e out ok)) 0,⟨[],.ids [d,k]⟩⟩,?_,λj E=>?_,λB N D=>?_⟩
        ·have Z:s.step o ⟨eu (λj=>(dZ s.rw k [] j).ver) d (VO e out ok) 0,cM (dZ s.rw k []) d (leaves (VO e out ok)) 0,⟨[],.ids [d,k]⟩⟩=br (s.killed k []) d (VO e out ok):=by unfold St.step br;rw[b];rfl
         rw[Z];exact A
        ·have E:¬(j%1000=d%1000\/j%1000=k%1000):=λh=>by have:=(H j).2 h;rw[this]at E;cases E
         have h2:=(jM (R:=dZ s.rw k []) (R':=dZ s.rw k []) (d:=d) (λ_=>rfl) j (leaves (VO e out ok)) 0).2 λ⟨m,_,hm⟩=>E (.inl (by rw[hm];exact O _));show cM (dZ s.rw k []) d (leaves (VO e out ok)) 0 j=s.rw j;rw[h2.1,iS λh=>E (.inr (a0 j h))]
        ·have a7:∀j,(j%1000=d%1000\/j%1000=k%1000)->B.rw j=s.rw j:=λj E=>N j (.inr ((H j).2 E));have F:∀j,(j%1000=d%1000\/j%1000=k%1000)->dZ s.rw k [] j=dZ B.rw k [] j:=λj E=>by unfold dZ;rw[a7 j E]
         have Z:B.stepIn o ⟨eu (λj=>(dZ s.rw k [] j).ver) d (VO e out ok) 0,cM (dZ s.rw k []) d (leaves (VO e out ok)) 0,⟨[],.ids [d,k]⟩⟩=br (B.killed k []) d (VO e out ok):=by
          unfold St.stepIn br;rw[b,rq (vr':=λj=>(dZ B.rw k [] j).ver) (λi=>by rw[F _ (.inl (O i))])];congr 2;funext j;obtain⟨a1,a2⟩:=jM (R:=dZ s.rw k []) (R':=dZ B.rw k []) (d:=d) (λi=>F _ (.inl (O i))) j (leaves (VO e out ok)) 0;by_cases U:∃m,m<(leaves (VO e out ok)).length/\j=bz d (0+m)
          ·have V:(Tc.ids [d,k]).has j=true:=(H j).2 (.inl (by obtain⟨m,_,rfl⟩:=U;exact O _));simp only[V,eW];exact a1 U
          ·obtain⟨b1,b2⟩:=a2 U;show _=cM (dZ B.rw k []) d (leaves (VO e out ok)) 0 j;rw[b2];by_cases V:(Tc.ids [d,k]).has j=k0
           ·simp only[V,eW];rw[b1];exact F j ((H j).1 V)
           ·simp only[V,gx];exact(iS λh=>V ((H j).2 (.inr (a0 j h)))).symm
         rw[Z];have L:c.args.toList.map B.ev=c.args.toList.map s.ev:=cO λx Y=>D x (by simp[J,Op.operands,Call.operands,W];exact .inr (ss Y));have b0:B.ev f=.clo g I:=by rw[D f (by simp[J,Op.operands,Call.operands,W]),C]
         exact zc8 J W b (hd d b) b0 e8 (by rw[L];exact c8) c7 (by rw[a7 k (.inr rfl)];exact E) e9 (λh=>b3 (by rw[h])) f0
       ·have H:∀j,(Tc.ids [d,k]).has j=k0↔(j%1000=d%1000\/j%1000=k%1000):=λj=>by simp only[Tc.has,hO,jF,fT,cw,aK];exact⟨λh=>h.imp nY nY,λh=>h.imp nY nY⟩
        have F:∀B:St,(∀j,(Tc.ids [d,k]).has j=k0->B.rw j=s.rw j)->∀j,(j%1000=d%1000\/j%1000=k%1000)->(s.row k r).rw j=(B.row k r).rw j:=λB N j E=>by show(if j=k then r else s.rw j)=(if j=k then r else B.rw j);rw[N j ((H j).2 E)]
        have c9:∀B:St,(∀j,(⟨rd,.ids [d,k]⟩:Ent).looks j=k0\/(Tc.ids [d,k]).has j=k0->B.rw j=s.rw j)->(∀y∈o.op.operands,B.ev y=s.ev y)->fF P G B o (zaC (B.row k r) d x q):=λB N D=>by
         have L:c.args.toList.map B.ev=c.args.toList.map s.ev:=cO λx Y=>D x (by simp[J,Op.operands,Call.operands,W];exact .inr (ss Y));have b0:B.ev f=.clo g I:=by rw[D f (by simp[J,Op.operands,Call.operands,W]),C]
         intro a w hs K' Q hK;refine yQ (K:=λS=>S=zaC (B.row k r) d x q) J W (λy hy=>by rw[b]at hy;cases hy;exact hd d b) ?_ hs λs1 a' w' hw f1=>hK a' w' (hw ▸ f1);rw[b0];show askG P B g (c.args.toList.map B.ev++I) o.dst _;rw[L,b];exact b8 B (N k (.inr ((H k).2 (.inr rfl)))) (λa ha=>N a (.inl (List.any_eq_true.2 ⟨a,ha,sp⟩))) _ rfl
        cases q with
        | some p =>
          refine⟨⟨p,(s.row k r).rw,⟨rd,.ids [d,k]⟩⟩,?_,λj E=>?_,λB N D=>?_⟩
          ·have Z:s.step o ⟨p,(s.row k r).rw,⟨rd,.ids [d,k]⟩⟩=zaC (s.row k r) d x (n0 p):=by unfold St.step zaC;rw[b];rfl
           rw[Z];exact A
          ·exact ac λh=>by rw[(H j).2 (.inr (by rw[h]))]at E;cases E
          ·have Z:B.stepIn o ⟨p,(s.row k r).rw,⟨rd,.ids [d,k]⟩⟩=zaC (B.row k r) d x (n0 p):=by
            unfold St.stepIn zaC;rw[b];congr 2;funext j;by_cases V:(Tc.ids [d,k]).has j=k0
            ·simp only[V,eW];exact F B (λj E=>N j (.inr E)) j ((H j).1 V)
            ·simp only[V,gx];exact(ac λh=>V ((H j).2 (.inr (by rw[h])))).symm
           rw[Z];exact c9 B N D
        | none =>
          have O:∀i,bz d i%1000=d%1000:=λi=>by unfold bz;omega
          refine⟨⟨eu (λj=>((s.row k r).rw j).ver) d x 0,cM (s.row k r).rw d (leaves x) 0,⟨rd,.ids [d,k]⟩⟩,?_,λj E=>?_,λB N D=>?_⟩
          ·have Z:s.step o ⟨eu (λj=>((s.row k r).rw j).ver) d x 0,cM (s.row k r).rw d (leaves x) 0,⟨rd,.ids [d,k]⟩⟩=br (s.row k r) d x:=by unfold St.step br;rw[b];rfl
           rw[Z];exact A
          ·have E:¬(j%1000=d%1000\/j%1000=k%1000):=λh=>by have:=(H j).2 h;rw[this]at E;cases E
           have h2:=(jM (R:=(s.row k r).rw) (R':=(s.row k r).rw) (d:=d) (λ_=>rfl) j (leaves x) 0).2 λ⟨m,_,hm⟩=>E (.inl (by rw[hm];exact O _));show cM (s.row k r).rw d (leaves x) 0 j=s.rw j;rw[h2.1];exact ac λh=>E (.inr (by rw[h]))
          ·have F:=F B λj E=>N j (.inr E);have Z:B.stepIn o ⟨eu (λj=>((s.row k r).rw j).ver) d x 0,cM (s.row k r).rw d (leaves x) 0,⟨rd,.ids [d,k]⟩⟩=br (B.row k r) d x:=by
            unfold St.stepIn br;rw[b,rq (vr':=λj=>((B.row k r).rw j).ver) (λi=>by rw[F _ (.inl (O i))])];congr 2;funext j;obtain⟨a1,a2⟩:=jM (R:=(s.row k r).rw) (R':=(B.row k r).rw) (d:=d) (λi=>F _ (.inl (O i))) j (leaves x) 0;by_cases U:∃m,m<(leaves x).length/\j=bz d (0+m)
            ·have V:(Tc.ids [d,k]).has j=true:=(H j).2 (.inl (by obtain⟨m,_,rfl⟩:=U;exact O _));simp only[V,eW];exact a1 U
            ·obtain⟨b1,b2⟩:=a2 U;show _=cM (B.row k r).rw d (leaves x) 0 j;rw[b2];by_cases V:(Tc.ids [d,k]).has j=k0
             ·simp only[V,eW];rw[b1];exact F j ((H j).1 V)
             ·simp only[V,gx];exact(ac λh=>V ((H j).2 (.inr (by rw[h])))).symm
           rw[Z];exact c9 B N D
      ·exact A.elim
     unfold oM at A;split at A
     ·rename_i g I C;obtain⟨rv,b9,A⟩:=A;have b7:∀B:St,(∀k,(Tc.res d).has k=k0->B.rw k=s.rw k)->eu (λk=>(B.rw k).ver) d rv 0=eu (λk=>(s.rw k).ver) d rv 0/\∀k,cM B.rw d (leaves rv) 0 k=if(Tc.res d).has k=k0 then cM s.rw d (leaves rv) 0 k else B.rw k:=λB N=>by
       have a4:∀i,B.rw (bz d i)=s.rw (bz d i):=λi=>N _ (by simp[Tc.has,bz]);refine⟨?_,λk=>?_⟩
       ·have e0:∀(r:RV)(i:Nat),fP (λk=>(B.rw k).ver) d r i=fP (λk=>(s.rw k).ver) d r i:=λr i=>by
         cases r<;>simp only[fP,a4]
        have eL:∀(f g:RV->Nat->PV),(∀r i,f r i=g r i)->∀l i,fL f l i=fL g l i:=λf g h l=>by
         induction l with
         | nil=>intro i;rfl
         | cons r rs ih=>intro i;simp only[fL,h,ih]
        have Z:∀(r:RV)(i:Nat),gN (λk=>(B.rw k).ver) d r i=gN (λk=>(s.rw k).ver) d r i:=λr i=>by
         cases r<;>simp only[gN,e0,eL _ _ e0]
        cases rv<;>simp only[eu,Z,e0,eL _ _ Z]
       ·have:∀(ls:List (A0×Option Nat×M0)) (i:Nat),cM B.rw d ls i k=if(Tc.res d).has k=k0 then cM s.rw d ls i k else B.rw k:=by
         intro ls;induction ls with
         | nil =>
           intro i;simp only[cM];by_cases A:(Tc.res d).has k=k0
           ·rw[ae A];exact N k A
           ·rw[ac A]
         | cons l ls ih =>
           intro i;obtain⟨e,sz,c⟩:=l;simp only[cM];by_cases he:k=bz d i
           ·subst he;rw[aT,aT,ae (by simp[Tc.has,bz]),a4];have A:jv B.rw d i e sz c=jv s.rw d i e sz c:=by
             cases sz<;>simp[jv,fi,a4]
            rw[A]
           ·rw[bu _ _ he,bu _ _ he];exact ih (i+1)
        exact this _ _
      refine⟨⟨eu (λk=>(s.rw k).ver) d rv 0,cM s.rw d (leaves rv) 0,⟨(c.args.toList.map s.ev).flatMap (kg s.rw nh)++kg s.rw (nh+1) (s.ev f),.res d⟩⟩,?_,λk hn=>?_,λB N D=>?_⟩
      ·have e:s.step o ⟨eu (λk=>(s.rw k).ver) d rv 0,cM s.rw d (leaves rv) 0,⟨(c.args.toList.map s.ev).flatMap (kg s.rw nh)++kg s.rw (nh+1) (s.ev f),.res d⟩⟩=br s d rv:=by unfold St.step br;rw[b]
       rw[e];exact A
      ·have hn:(Tc.res d).has k=false:=hn;have:=(b7 s λ_ _=>rfl).2 k;rw[hn]at this;simpa using this
      ·obtain⟨v1,v2⟩:=b7 B λk A=>N k (.inr A);have e:B.stepIn o ⟨eu (λk=>(s.rw k).ver) d rv 0,cM s.rw d (leaves rv) 0,⟨(c.args.toList.map s.ev).flatMap (kg s.rw nh)++kg s.rw (nh+1) (s.ev f),.res d⟩⟩=br B d rv:=by unfold St.stepIn br;rw[b,v1];congr 2;funext k;exact(v2 k).symm
       rw[e];obtain⟨a1,a2⟩:=args B (λk A=>N k (.inl (rW A))) D g I C;obtain⟨s2,rfl,he⟩:=NH (K:=(·=br B d rv)) (s:=B) J W b (hd d b) (by
        unfold oM;rw[a1,C];simp only;rw[a2];exact⟨rv,b9,rfl⟩)
       exact he
     ·exact A.elim
   | none =>
     simp only[b]at A;unfold oM at A;split at A
     ·rename_i g I C;obtain⟨rv,b9,A⟩:=A;refine⟨⟨.junk,s.rw,⟨(c.args.toList.map s.ev).flatMap (kg s.rw nh)++kg s.rw (nh+1) (s.ev f),.ids []⟩⟩,?_,λk _=>rfl,λB N D=>?_⟩
      ·have e:s.step o ⟨.junk,s.rw,⟨(c.args.toList.map s.ev).flatMap (kg s.rw nh)++kg s.rw (nh+1) (s.ev f),.ids []⟩⟩=s:=by unfold St.step St.put;rw[b]
       rw[e];exact A
      ·have e:B.stepIn o ⟨.junk,s.rw,⟨(c.args.toList.map s.ev).flatMap (kg s.rw nh)++kg s.rw (nh+1) (s.ev f),.ids []⟩⟩=B:=by unfold St.stepIn St.put;rw[b];simp only[Tc.has,jF,eP,gx]
       rw[e];obtain⟨a1,a2⟩:=args B (λk A=>N k (.inl (rW A))) D g I C;obtain⟨s2,rfl,he⟩:=EI (G:=G) (K:=(·=B)) (s:=B) (o:=o) hT hd (by
        simp only[ie,J,W,b];refine .inl ?_;unfold oM;rw[a1,C];simp only;rw[a2];exact⟨rv,b9,trivial⟩)
       exact he
     ·exact A.elim
  ·exact read A
 ·exact read A
end
theorem zlO{s:St}{d:Nat}{p:PV}(h:s.sl d=p):s.put (n0 d) p=s:=by
 unfold St.put;have:(λi=>if i=d then p else s.sl i)=s.sl:=by grind
 simp_all
section
variable {P:G0}{T:gg}{G:Ghost}{ops:Array Oper}
theorem zcZ[aw](F:T.Ok P):∀(l:List Oper)(a:List Ent)(s:St)(K:St->Prop),(∀o∈l,∀d,o.dst=n0 d->d<G.n)->qy P T ops a l s K->∃f g,Tr P G ops l s f g/\BU ops (a.reverse++f.map (·.e))=k0/\K g:=by
 intro l;induction l with
 | nil=>intro a s K _ h;exact⟨[],s,.nil s,ss h.1,h.2⟩
 | cons o t B =>
   intro a s K C c;have y:=C o sp;have u:∀o∈t,∀d,o.dst=n0 d->d<G.n:=λo H=>C o (by simp[H]);have run:∀(i:Qj ops s o=n0 k0),dK P T s o (λe I=>qy P T ops (e::a) t I K)->∃f g,Tr P G ops (o::t) s f g/\BU ops (a.reverse++f.map (·.e))=k0/\K g:=λi c=>by have⟨x,J,L,M⟩:=zpI (G:=G) F y c;have⟨f,g,z,A,p⟩:=B _ _ K u J;exact⟨x::f,g,.cons (.step i L M) z,ss A,p⟩
   have w:Qj ops s o=n0 l0->qy P T ops (⟨[],.ids []⟩::a) t (s.put o.dst (.v undef)) K->∃f g,Tr P G ops (o::t) s f g/\BU ops (a.reverse++f.map (·.e))=k0/\K g:=λi c=>by
    have⟨f,g,z,A,p⟩:=B _ _ K u c;have e:s.step o ⟨.v undef,s.rw,⟨[],.ids []⟩⟩=s.put o.dst (.v undef):=by unfold St.step;rfl
    exact⟨⟨.v undef,s.rw,⟨[],.ids []⟩⟩::f,g,.cons (.skip i rfl rfl rfl) (by rw[e];exact z),ss A,p⟩
   simp only[qy,VR]at c;cases i:o.guard with
   | none =>simp only[i]at c;exact run (by simp[Qj,i]) c
   | some jw =>
     have⟨j,k⟩:=jw;simp only[i]at c;split at c;rename_i d q;split at c;rename_i b r;by_cases m:b=k;have D:=c.1 m;rw[zlO (by rw[r,m])]at D;exact run (by simp[Qj,i,q,r,m]) D;have n:b=!k:=by cases b<;>cases k<;>simp_all
     have E:=c.2 n;rw[zlO (s:=s) (by rw[r,n])]at E;exact w (by simp[Qj,i,q,r,m]) E;rename_i N r;exact w (by simp[Qj,i,q,r]) c;exact c.elim;exact c.elim
theorem zc0[aw](y:T.Ok P)(z:P.follows .mixedOrders=k0)(A:EG ops=k0){K:St->Prop}(m:∀o∈ops,∀d,o.dst=n0 d->d<G.n)(B:qy P T ops [] ops.toList s K){Q:Exit->Act->C0->Prop}(C:∀b q r,K b->rt G b q r->Q .normal q r){a:Act}{w:C0}(D:rt G s a w):(Code.region k ops k0).wp P Q a w:=by
 have⟨c,b,F,f,g⟩:=zcZ (G:=G) y ops.toList [] s K (λo h=>m o<|by simpa using h) B
 refine wp_region_any z ?_
 have⟨E,i⟩:=D
 have l:rt G s a w.drew:=⟨E,i.ext<|Ext.drew w⟩
 have H:∀id,(Array.replicate ops.size l0).getD id l0=false:=λid=>by rw[bY,Array.getElem?_replicate];split<;>rfl
 have u:=funext H
 refine ziF (zdb A) (zlT<|by simpa using f) F m (λa w h=>C b a w g h) ops.size _ a w.drew sp ?_ ?_ ?_
 rw[u];intro j M N h;cases h
 rw[u];have x:∀n(p:V0),gH n (λid=>l0&&p id)=none:=by
  intro n p;induction n with
  | zero=>rfl
  | succ n I=>simp_all[gH]
 have e:Jr ops c s (λ_=>l0)=s:=by
  unfold Jr;have J:xC ops.toList c s (λ_=>l0)=s.sl:=by funext t;unfold xC;rw[x]
  have L:xD ops.toList c s (λ_=>l0)=s.rw:=by funext id;unfold xD;rw[x]
  rw[J,L]
 rw[e];exact l
 simp
end
inductive AX where
 | norm
 | exit (id:Nat)
 | ret
def AX.blk(id:Nat)(Q:AX->St->Prop):AX->St->Prop
 | .norm,s=>Q .norm s
 | .ret,s=>Q .ret s
 | .exit i,s=>if i=id then Q .norm s else Q (.exit i) s
def AX.seq(K:St->Prop)(Q:AX->St->Prop):AX->St->Prop
 | .norm,s=>K s
 | .ret,s=>Q .ret s
 | .exit i,s=>Q (.exit i) s
def uA[aw](a:(AX->St->Prop)->St->Prop)(Q:AX->St->Prop)(s:St):Prop :=
 ∃(b:Type)(I:b->St->Prop)(c:b->Nat),(∃x d,Wk s d/\I x d) /\
  ∀x e,I x e->a (AX.seq (λh=>∃f g,Wk h g/\I f g/\c f<c x) Q) e
def wC[aw](P:G0)(T:gg):Code->(AX->St->Prop)->St->Prop
 | .skip,Q,s=>Q .norm s
 | .region _ ops a,Q,s=>(match a with
   | false=>CA P T ops ops.toList s (Q .norm)
   | true=>EG ops=k0/\qy P T ops [] ops.toList s (Q .norm))
 | .seq x y,Q,s=>wC P T x (AX.seq (wC P T y Q) Q) s
 | .cond c x y,Q,s=>(match s.ev c with|.v (.bool b)=>(b=k0->wC P T x Q s)/\(b=l0->wC P T y Q s)|_=>False)
 | .block id x,Q,s=>wC P T x (AX.blk id Q) s
 | .loop x,Q,s=>uA (wC P T x) Q s
 | .exit id,Q,s=>Q (.exit id) s
 | .ret,Q,s=>Q .ret s
 | .label _,Q,s=>Q .norm s
 | _,_,_=>False
def fits(n:Nat):Code->Bool
 | .region _ ops _=>ops.all λo=>match o.dst with|some d=>decide (d<n)|none=>k0
 | .seq x y=>fits n x&&fits n y
 | .cond _ x y=>fits n x&&fits n y
 | .block _ x=>fits n x
 | .loop x=>fits n x
 | _=>k0
def zs8[aw](G:Ghost)(Q:AX->St->Prop):Exit->Act->C0->Prop
 | .normal,a,w=>∃s,rt G s a w/\Q .norm s
 | .exit id,a,w=>∃s,rt G s a w/\Q (.exit id) s
 | .ret,a,w=>∃s,rt G s a w/\Q .ret s
 | _,_,_=>False
section
variable {P:G0}{T:gg}{G:Ghost}
theorem Au[aw](hT:T.Ok P)(hm:P.follows .mixedOrders=k0):∀(c:Code),fits G.n c=k0->∀(Q:AX->St->Prop)(s:St),wC P T c Q s->∀(a:Act)(w:C0),rt G s a w->c.wp P (zs8 G Q) a w:=by
 intro c;induction c with
 | skip=>exact λ_ Q s f a w g=>wp_skip ⟨s,g,f⟩
 | region id ops M =>
   intro q Q s f a w g;have hd:∀o∈ops,∀d,o.dst=n0 d->d<G.n:=λo ho d V=>by simp only[fits,ta]at q;grind
   cases M with
   | false =>exact wp_region_list<|ziH hT ops.toList s (Q .norm) (λo h=>hd o<|ss h) f (λD A B j m=>⟨D,m,j⟩) a w g
   | true =>have z:=f;exact zc0 hT hm z.1 hd z.2 (λD A B j m=>⟨D,m,j⟩) g
 | seq x y F H =>
   intro q Q s f a w g;simp[fits]at q;refine wp_seq<|wp_mono (F q.1 _ s f a w g) λe A B h=>?_;cases e with
   | normal=>have⟨D,m,j⟩:=h;exact H q.2 Q D j A B m
   | exit id=>exact h
   | ret=>exact h
   | goto l=>exact h.elim
   | panic ch=>exact h.elim
   | outgrown=>exact h.elim
 | cond c x y F H =>
   intro q Q s f a w g;simp[fits]at q;simp[wC]at f;split at f;rename_i b hb;have⟨E,J⟩:=g;have hv:=dE J.slots c;rw[hb]at hv;refine wp_cond hv.v_eq ?_;grind
   grind
 | block id x W =>
   intro q Q s f a w g;refine wp_block<|wp_mono (W q _ s f a w g) λe A B h=>?_;cases e with
   | normal=>exact h
   | exit i =>have⟨D,m,j⟩:=h;simp[Exit.inBlock];simp[AX.blk]at j;by_cases hi:i=id;rw[ae hi]at j ⊢;exact⟨D,m,j⟩;rw[ac hi]at j ⊢;exact⟨D,m,j⟩
   | ret=>exact h
   | goto l=>exact h.elim
   | panic ch=>exact h.elim
   | outgrown=>exact h.elim
 | loop x W =>
   intro q Q s f a w g;have⟨α,I,μ,⟨x0,s0,X,Y⟩,C⟩:=f
   have Z:∀n U N,μ U=n->I U N->∀a w,rt G N a w->∀(b:Frame)(k:List _)(K:List _),
    ∃e A B,zs8 G Q e A B/\Arrives P (lone (b.at a<|.code x::.inLoop x::k) K w) b k K e A B:=by
    intro n
    induction n using Nat.strongRecOn with
    | _ n a0 =>
      intro U N hn hI a w g b k K;have⟨e,r,t,j,p⟩:=W q _ N (C U N hI) a w g b (.inLoop x::k) K;cases e with
      | normal =>have⟨s2,a1,x',s3,a2,a3,a4⟩:=j;have⟨O,R,S,L,u⟩:=a0 _ (hn ▸ a4) x' s3 rfl a3 r t (a2 G r t a1) b k K;exact⟨O,R,S,L,.of_steps (Steps.trans p<|.one step_inLoop) u⟩
      | exit id=>exact⟨.exit id,r,t,j,.pass rfl (λ_ _=>.inl sp) p⟩
      | ret=>exact⟨.ret,r,t,j,.pass rfl (λ_ _=>.inl sp) p⟩
      | goto l=>exact j.elim
      | panic ch=>exact j.elim
      | outgrown=>exact j.elim
   intro b k K;have⟨e,A,B,j,p⟩:=Z _ x0 s0 rfl Y a w (X G a w g) b k K;exact⟨e,A,B,j,.of_steps (.one step_loop) p⟩
 | exit id=>exact λ_ Q s f a w g=>wp_exit ⟨s,g,f⟩
 | ret=>exact λ_ Q s f a w g=>wp_ret ⟨s,g,f⟩
 | label l=>exact λ_ Q s f a w g=>wp_label ⟨s,g,f⟩
 | rangeFunc _ _ _ _=>exact λ_ Q s f=>f.elim
 | scope _ _=>exact λ_ Q s f=>f.elim
 | goto _=>exact λ_ Q s f=>f.elim
 | refuse _=>exact λ_ Q s f=>f.elim
end
def zvn[aw](P:G0)(n:Nat)(c:Code)(Q:AX->St->Prop)(s:St):Prop :=
 ∀G:Ghost,G.n=n->∀(a:Act)(w:C0),rt G s a w->c.wp P (zs8 G Q) a w
theorem zpG[aw]{P:G0}{T:gg}{Q:AX->St->Prop}{c:Code}(b:T.Ok P)(d:P.follows .mixedOrders=k0)(e:fits k c=k0)(h:wC P T c Q s):zvn P k c Q s :=
 λG f a w g=>Au b d c (by grind) Q s h a w g
end Go.Abs
