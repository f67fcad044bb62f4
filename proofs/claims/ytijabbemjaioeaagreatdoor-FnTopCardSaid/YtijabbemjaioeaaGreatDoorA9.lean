/- DERIVED by an AI agent. -/
import Derived.Test.YtijabbemjaioeaaGreatDoorA8
set_option linter.all false
namespace Go.Abs
open Bool renaming true→k0,false→l0
open Option renaming some→n0
open Go renaming Value→E0,FuncId→F0,Program→G0,ResultVar→J0
open List renaming range→lc,getD→lg,length→lh
variable {b:(S0)->PV->Prop}{c:Func}{e:S0}{d:G0}{f:M0}{g:F0}{h:Code}
def Nu(rw:S0)(a:TypeId):M0->List M0->(O0->Prop)->Prop
 | [],[],K=>K []
 | .own j v::b,r::c,K=>j<lent/\rw j=⟨v,.sli a 1 l0 r⟩/\Nu rw a b c λids=>K (j::ids)
 | _,_,_=>False
def RK.hand:RK->Bool|.sli _ _ l0 _=>k0|.tab _ _=>k0|_=>l0
theorem RK.live_hand{k:RK}(h:k.hand=k0):k.live=true:=by
 cases k with
 | sli e b a c=>cases a<;>simp_all [RK.hand,RK.live]
 | tab e c=>rfl
 | _=>cases h
theorem RK.nd_hand[aw]{k:RK}(h:k.hand=k0):k.nd=true:=RK.nd_of_live<|RK.live_hand h
def qP(rw:S0)(p:PV)(rv:RV)(K:O0->Prop):Prop :=
 match rv with
 | .im q=>(match p with
  | .v x=>q=.v x/\K []
  | .sl fr h c=>fr=k0/\(∃f,q=.sl f h c)/\K []
  | _=>False)
 | .tb e j a=>(match p with
  | .v x=>nu x=k0/\a=[]/\K []
  | .own k b=>k<lent/\(rw k).ver=b/\(match (rw k).kind with
   | .tab g c=>g=e/\Nu rw j c a λids=>K (k::ids)
   | .nil=>a=[]/\K []
   | .sli g d l0 i=>g=e/\d=1/\i=[]/\a=[]/\K [k]
   | _=>False)
  | _=>False)
 | .fr e h c=>(match p with
  | .v x=>nu x=k0/\c=[]/\K []
  | .own k b=>k<lent/\(rw k).ver=b/\(match (rw k).kind with
   | .nil=>c=[]/\K []
   | .sli g d l0 i=>g=e/\d=h/\i=c/\K [k]
   | _=>False)
  | _=>False)
 | _=>False
def Kf(f:PV->RV->(O0->Prop)->Prop):M0->List RV->(O0->Prop)->Prop
 | [],[],K=>K []
 | p::c,r::d,K=>f p r λa=>Kf f c d λb=>K (a++b)
 | _,_,_=>False
def Nv(rw:S0)(p:PV)(rv:RV)(K:O0->Prop):Prop :=
 match rv with
 | .ag l=>(match p with|.ag a=>Kf (qP rw) a l K|_=>False)
 | .tup l=>(match p with|.tup a=>Kf (qP rw) a l K|_=>False)
 | r=>qP rw p r K
def uz(rw:S0)(p:PV)(rv:RV)(K:O0->Prop):Prop :=
 match rv with
 | .ag l=>(match p with|.ag a=>Kf (Nv rw) a l K|_=>False)
 | .tup l=>(match p with|.tup a=>Kf (Nv rw) a l K|_=>False)
 | r=>qP rw p r K
section
variable {G:Ghost}{E:Env}{w:World}
def lG(E:Env)(ids:O0):O0:=ids.filterMap E.rm
def zpF(G:Ghost)(E:Env)(w:World)(f:PV->RV->(O0->Prop)->Prop):Prop :=
 ∀(p:PV)(rv:RV)(K:O0->Prop)(v:E0),f p rv K->Rep w E 0 p v->∃ids,K ids/\(∀k∈ids,k<lent/\(E.R k).kind.hand=k0) /\
  ∀a:O0,(∀b∈a,∃k,E.rm k=n0 b/\(E.R k).kind.live=k0)->∃c,OutR w (Env.out G.w0.heap.size a) rv v c/\blk c=lG E ids
theorem Ez[aw](C:WOk G E w)(m:TypeId):∀(h:M0) (d:List M0) (K:O0->Prop) (f:List E0),Nu E.R m h d K->ex w E 0 h f ->
 ∃ids,K ids/\(∀k∈ids,k<lent/\(E.R k).kind.hand=k0)/\d.length=lh f/\d.length=lh ids /\
  ∀i(a:i<lh d)(b:i<lh f)(c:i<lh ids),∃v,E.R ids[i]=⟨v,.sli m 1 l0 d[i]⟩/\f[i]=E.rv ids[i]:=by
 intro h
 induction h with
 | nil =>
   intro d K f e g
   cases d with
   | nil =>
     have:f=[]:=aL g.1.symm
     subst this
     exact⟨[],e,sp,rfl,rfl,λi a=>absurd a sp⟩
   | cons r n=>exact e.elim
 | cons p h q =>
   intro d K f e g
   cases d with
   | nil=>cases p<;>exact e.elim
   | cons r n =>
     cases p with
     | own j v =>
       have⟨s,l,e⟩:=e
       cases f with
       | nil=>simp[ex]at g
       | cons x f =>
         have⟨ids,t,u,y,z,A⟩:=q n _ f e ⟨ss g.1,λi a b=>g.2 (i+1) (ss a)<|ss b⟩
         have o:=g.2 0 sp sp
         simp only[cL]at o
         refine⟨j::ids,t,λk e=>?_,by simp[y],by simp[z],λi a b c=>?_⟩
         rcases List.mem_cons.1 e with rfl|e
         exact⟨s,by rw[l];rfl⟩
         exact u k e
         cases i with
         | zero =>
           cases o with
           | own D B=>exact⟨v,l,B (by rw[l])<|by rw[l];rfl⟩
         | succ i=>exact A i (ss a) (ss b)<|ss c
     | _=>exact e.elim
theorem Nw[aw](L:WOk G E w):zpF G E w (qP E.R):=by
 intro p rv K v d hp;have hB:E.B=G.w0.heap.size:=L.base;have B:∀(u:O0),(∀b∈u,∃k,E.rm k=n0 b/\(E.R k).kind.live=k0)->∀(q:PV)(x:E0),Rep w E.bare G.w0.heap.size q x->Rep w (Env.out G.w0.heap.size u).bare G.w0.heap.size q x:=by
  intro u y q x h;refine h.above (λ_=>rfl) (λ_=>rfl) rfl rfl λb H hL Q=>?_;rcases Q with A|A
  omega;obtain⟨k,R,S⟩:=y b A;exact hL ((L.live b).2 (.inl ⟨k,R,S⟩))
 unfold qP at d;cases rv with
 | im q =>
   simp only at d;cases hp with
   | v x=>obtain⟨rfl,d⟩:=d;exact⟨[],d,sp,λu _=>⟨[],.im (.v _),rfl⟩⟩
   | @sl _ _ fr sz len cap cells a cs hl hc hm hr hh =>
     obtain⟨rfl,⟨f,rfl⟩,d⟩:=d;refine⟨[],d,sp,λu y=>⟨[],.im ?_,rfl⟩⟩;have Z:E.lo 0 k0=G.w0.heap.size:=by simp[Env.lo,hB]
     have M:(Env.out G.w0.heap.size u).bare.lo G.w0.heap.size f=G.w0.heap.size:=by simp[Env.lo,Env.bare]
     refine .sl cs hl hc hm (λi hi=>?_) (λi hi=>?_);obtain⟨b,o,ha,H,hL,U⟩:=hr i hi;refine⟨b,o,ha,?_,λQ=>?_,U⟩;show(Env.out G.w0.heap.size u).bare.lo G.w0.heap.size f<=b;rw[M,<- Z];exact H;rcases Q with A|A;rw[Z]at H;omega;obtain⟨k,R,S⟩:=y b A;exact hL ((L.live b).2 (.inl ⟨k,R,S⟩));have N:=hh i hi;rw[Z]at N;show Rep w (Env.out G.w0.heap.size u).bare.bare ((Env.out G.w0.heap.size u).bare.lo G.w0.heap.size f) _ _;rw[M];exact B u y _ _ N
   | own=>exact d.elim
   | ref=>exact d.elim
   | eref=>exact d.elim
   | ag=>exact d.elim
   | tup=>exact d.elim
   | clo=>exact d.elim
   | junk=>exact d.elim
 | fr e sz c =>
   simp only at d;cases hp with
   | v x=>obtain⟨A,rfl,d⟩:=d;rw[sf A];exact⟨[],d,sp,λu _=>⟨_,.nil,rfl⟩⟩
   | @own _ _ k a1 _ hv W =>
     obtain⟨N,A,d⟩:=d;have g:=L.rows k;unfold cn at g;cases r:(E.R k).kind with
     | mp f=>simp only[r]at d
     | dead=>simp only[r]at d
     | box t cc=>simp only[r]at d
     | tab e cc=>simp only[r]at d
     | nil =>simp only[r]at d g;obtain⟨rfl,d⟩:=d;rw[W A (by rw[r];rfl),g.2];exact⟨[],d,sp,λu _=>⟨_,.nil,rfl⟩⟩
     | sli e' a2 fz I =>
       cases fz with
       | true=>simp only[r]at d
       | false =>
         simp only[r]at d g;obtain⟨rfl,rfl,rfl,d⟩:=d;rw[W A (by rw[r];rfl)];refine⟨[k],d,λj C=>by simp at C;subst C;exact⟨N,by rw[r];rfl⟩,λu y=>?_⟩;rcases g with⟨D,s,F⟩|⟨b,n,cap,J,O,D,s,F,g4,X,g6,g7,g8,Y⟩
         rw[s];subst F;exact⟨_,.nil,by simp[blk,lG,D]⟩;rw[F];have H:G.w0.heap.size<=b:=by rcases s with s|s;exact s;exact absurd s.1 om
         refine⟨_,.fr H g4 X g6 g7 g8 ⟨Y.1,λi a b=>?_⟩,by simp[blk,lG,D]⟩;have:=Y.2 i a b;rw[hB]at this;exact B u y _ _ this
   | sl=>exact d.elim
   | ref=>exact d.elim
   | eref=>exact d.elim
   | ag=>exact d.elim
   | tup=>exact d.elim
   | clo=>exact d.elim
   | junk=>exact d.elim
 | ag l=>exact d.elim
 | tup l=>exact d.elim
 | tb e M z =>
   simp only at d;cases hp with
   | v x=>obtain⟨A,rfl,d⟩:=d;rw[sf A];exact⟨[],d,sp,λu _=>⟨_,.tbn,rfl⟩⟩
   | @own _ _ k a1 _ hv W =>
     obtain⟨N,A,d⟩:=d;have g:=L.rows k;unfold cn at g;cases r:(E.R k).kind with
     | mp f=>simp only[r]at d
     | tab e' c =>
       simp only[r]at d g;obtain⟨rfl,d⟩:=d;rw[W A (by rw[r];rfl)];rcases g with⟨D,s,F⟩|⟨b,n,cap,J,O,D,s,F,g4,X,g6,g7,g8,Y⟩
       subst F;obtain⟨ids,k1,k2,k3,k4,k5⟩:=Ez L M _ _ _ [] d ⟨rfl,λi a=>absurd a sp⟩;have hi:ids=[]:=aL (by rw[<- k4,k3];rfl);have hr:z=[]:=aL k3;subst hi hr;rw[s];exact⟨[k],k1,λj C=>by simp at C;subst C;exact⟨N,by rw[r];rfl⟩,λu _=>⟨_,.tbn,by simp[blk,lG,D]⟩⟩;obtain⟨ids,k1,k2,k3,k4,k5⟩:=Ez L M _ _ _ J d Y;rw[F];have H:G.w0.heap.size<=b:=by rcases s with s|s;exact s;exact absurd s.1 om
       refine⟨k::ids,k1,λj C=>?_,λu y=>?_⟩;rcases List.mem_cons.1 C with rfl|C;exact⟨N,by rw[r];rfl⟩;exact k2 j C;have inner:∀i(a:i<lh z)(P:i<lh J)(I:i<lh ids),∃m,OutR w (Env.out G.w0.heap.size u) (.fr M 1 z[i]) J[i] [(J[i],m)]/\m=E.rm ids[i]:=by
        intro i a P I;obtain⟨v,q1,q2⟩:=k5 i a P I;have g:=L.rows ids[i];unfold cn at g;rw[q1]at g;simp only at g;rw[q2];rcases g with⟨f1,V,f3⟩|⟨bi,ni,a7,a8,a3,f1,V,f3,f4,f5,f6,f7,f8,f9⟩
        rw[V,f3];exact⟨none,.nil,f1.symm⟩;rw[f3];have a4:G.w0.heap.size<=bi:=by rcases V with V|V;exact V;exact absurd V.1 (by have:=(k2 _ (bx I)).1;omega)
        refine⟨n0 bi,.fr a4 f4 f5 f6 f7 f8 ⟨f9.1,λi' a' a5=>?_⟩,f1.symm⟩;have:=f9.2 i' a' a5;rw[hB]at this;exact B u y _ _ this
       refine⟨_,.tb (lvs:=(lc (lh z)).map λi=>(lg J i undef,E.rm (lg ids i 0))) H g4 X g6 g7 g8 (by rw[k3,X]) (by simp[k3,X]) (λi P I=>?_) (λi a P I=>?_),?_⟩;simp[lg,P];grind;simp only[blk,lG,List.filterMap_cons,D];congr 1;rw[List.filterMap_map];have e3:ids=(lc (lh z)).map λi=>lg ids i 0:=by refine bE (by simp[k4]) λi p q=>?_;simp[lg,p]
       rw[e3,List.filterMap_map,<- e3];rfl
     | nil =>simp only[r]at d g;obtain⟨rfl,d⟩:=d;rw[W A (by rw[r];rfl),g.2];exact⟨[],d,sp,λu _=>⟨_,.tbn,rfl⟩⟩
     | sli e' a2 fz I =>
       cases fz with
       | true=>simp only[r]at d
       | false =>
         simp only[r]at d g;obtain⟨rfl,rfl,rfl,rfl,d⟩:=d;rw[W A (by rw[r];rfl)];refine⟨[k],d,λj C=>by simp at C;subst C;exact⟨N,by rw[r];rfl⟩,λu y=>?_⟩;rcases g with⟨D,s,F⟩|⟨b,n,cap,J,O,D,s,F,g4,X,g6,g7,g8,Y⟩
         rw[s];exact⟨_,.tbn,by simp[blk,lG,D]⟩;rw[F];have H:G.w0.heap.size<=b:=by rcases s with s|s;exact s;exact absurd s.1 om
         have a0:n=0:=by have:=Y.1;simp at this;omega
         refine⟨_,.tb (lvs:=[]) (e2:=M) H g4 om g6 g7 om (by simp[a0]) (by simp[a0]) (λi P I=>absurd I sp) (λi a=>absurd a sp),by simp[blk,lG,D]⟩
     | dead=>simp only[r]at d
     | box t c=>simp only[r]at d
   | _=>exact d.elim
theorem wB{f:PV->RV->(O0->Prop)->Prop}(u:zpF G E w f):∀(n:M0)(e:List RV)(K:O0->Prop)(j:List E0),Kf f n e K->ex w E 0 n j ->
 ∃ids,K ids/\(∀k∈ids,k<lent/\(E.R k).kind.hand=k0)/\e.length=lh j /\
  ∀l:O0,(∀b∈l,∃k,E.rm k=n0 b/\(E.R k).kind.live=k0)->∃d:List (List (E0×Option Nat)),lh e=lh d /\
   (∀i(a:i<lh e)(b:i<lh j)(c:i<lh d),OutR w (Env.out G.w0.heap.size l) e[i] j[i] d[i])/\blk d.flatten=lG E ids:=by
 intro n
 induction n with
 | nil =>
   intro e K j g m
   cases e with
   | nil =>
     have:j=[]:=aL m.1.symm
     subst this
     exact⟨[],g,sp,rfl,λl _=>⟨[],rfl,λi a=>absurd a sp,rfl⟩⟩
   | cons r e=>exact g.elim
 | cons p n A =>
   intro e K j g m
   cases e with
   | nil=>exact g.elim
   | cons r e =>
     cases j with
     | nil=>simp[ex]at m
     | cons v j =>
       have⟨a,g,B,C⟩:=u p r _ v g (m.2 0 sp sp)
       have⟨b,g,D,o,F⟩:=A e _ j g ⟨ss m.1,λi x y=>m.2 (i+1) (ss x)<|ss y⟩
       refine⟨a++b,g,λk g=>?_,by simp[o],λl q=>?_⟩
       rcases List.mem_append.1 g with h|h
       exact B k h
       exact D k h
       have⟨H,I,s⟩:=C l q;have⟨d,J,L,t⟩:=F l q;refine⟨H::d,by simp[J],λi x y z=>?_,?_⟩
       grind
       simp only[iB,blk,lG,List.filterMap_append]at s t ⊢;rw[s,t]
theorem zcX[aw](t:WOk G E w):zpF G E w (Nv E.R):=by
 intro p rv K v a d;have f:=Nw t;unfold Nv at a;cases rv with
 | im q=>exact f p _ K v a d
 | fr e u c=>exact f p _ K v a d
 | tb e x s=>exact f p _ K v a d
 | ag l =>
   cases d with
   | @ag _ _ g h i j =>have⟨ids,k,m,n,o⟩:=wB f g l K h a ⟨i,j⟩;exact⟨ids,k,m,λr b=>let ⟨lvs,q1,q2,q3⟩:=o r b;⟨_,.ag n q1 q2,q3⟩⟩
   | _=>grind
 | tup l =>
   cases d with
   | @tup _ _ g h i j =>have⟨ids,k,m,n,o⟩:=wB f g l K h a ⟨i,j⟩;exact⟨ids,k,m,λr b=>let ⟨lvs,q1,q2,q3⟩:=o r b;⟨_,.tup n q1 q2,q3⟩⟩
   | _=>grind
theorem zcY[aw](t:WOk G E w):zpF G E w (uz E.R):=by
 intro p rv K v a d;have g:=Nw t;have f:=zcX t;unfold uz at a;cases rv with
 | im q=>exact g p _ K v a d
 | fr e x c=>exact g p _ K v a d
 | tb e y u=>exact g p _ K v a d
 | ag l =>
   cases d with
   | @ag _ _ h i j k =>have⟨ids,m,n,o,r⟩:=wB f h l K i a ⟨j,k⟩;exact⟨ids,m,n,λs b=>let ⟨lvs,q1,q2,q3⟩:=r s b;⟨_,.ag o q1 q2,q3⟩⟩
   | _=>grind
 | tup l =>
   cases d with
   | @tup _ _ h i j k =>have⟨ids,m,n,o,r⟩:=wB f h l K i a ⟨j,k⟩;exact⟨ids,m,n,λs b=>let ⟨lvs,q1,q2,q3⟩:=r s b;⟨_,.tup o q1 q2,q3⟩⟩
   | _=>grind
theorem VL[aw](h:WOk G E w):∀(ids:O0),ids.Nodup->(∀k∈ids,k<lent/\(E.R k).kind.hand=k0)->(lG E ids).Nodup:=by
 intro ids;induction ids with
 | nil=>exact λ_ _=>fS
 | cons k n i =>
   intro l e;have a:=List.nodup_cons.1 l;have c:=i a.2 λj d=>e j (by grind);unfold lG at *;cases f:E.rm k with
   | none=>grind
   | some b =>rw[nJ f];refine List.nodup_cons.2 ⟨λm=>?_,c⟩;have⟨j,d,g⟩:=List.mem_filterMap.1 m;have:=h.inj k j b (RK.nd_hand (e k sp).2) (RK.nd_hand (e j (by grind)).2) f g;grind
end
def zax(T:gg)(s:St)(r:J0)(K:PV->Prop):Prop :=
 match r with
 | .tmp t=>K (s.sl t)
 | .cell a t=>Bh s.rw (s.sl a) λm c b=>qt T t m c b K
def Kd(T:gg)(s:St):List J0->(M0->Prop)->Prop
 | [],K=>K []
 | r::a,K=>zax T s r λp=>Kd T s a λb=>K (p::b)
def Cu(T:gg)(s:St)(a:List J0)(rv:RV):Prop :=
 match a with
 | [r]=>zax T s r λp=>uz s.rw p rv List.Nodup
 | a=>Kd T s a λb=>uz s.rw (.tup b) rv List.Nodup
def St.init(args:M0):St:=⟨λi=>lg args i .junk,λ_=>⟨0,.dead⟩⟩
def zlN(T:gg)(a:List J0)(rv:RV):AX->St->Prop
 | .norm,s=>Cu T s a rv
 | .ret,s=>Cu T s a rv
 | .exit _,_=>False
section
variable {P:G0}{T:gg}{G:Ghost}{E:Env}{s:St}{a:Act}{w:World}
def Cv(b:Array E0):J0->Sem E0
 | .tmp t=>pure (b.getD t undef)
 | .cell a t=>do loadVar t (<- asAddr (b.getD a undef))
theorem pK[aw](j:T.Ok P)(f:SimE G E s a w){r:J0}{K:PV->Prop}(g:zax T s r K):∃p v,K p/\(Cv a.tmps r).run P w=.ok v w/\Rep w E 0 p v:=by
 cases r with
 | tmp t=>exact⟨_,_,g,rfl,f.slots t⟩
 | cell k t =>have⟨m,c,d,g,e⟩:=NQ (K:=λm c d=>qt T t m c d K) g f.rw f.wok (f.slots k);have⟨p,v,l,h,n⟩:=TU j g e;have⟨b,o,q,i,_⟩:=e;refine⟨p,v,l,?_,n⟩;rw[i]at h;simp[Cv,i];simpa[Instr.loadAt,Instr.sureAddr,asAddr]using h
theorem Nt[aw](l:T.Ok P)(m:SimE G E s a w):∀(b:List J0)(K:M0->Prop),Kd T s b K->∃g d,K g/\ex w E 0 g d/\d.length=lh b/\∀i(h:i<lh b)(j:i<lh d),(Cv a.tmps b[i]).run P w=.ok d[i] w:=by
 intro b;induction b with
 | nil=>exact λK c=>⟨[],[],c,⟨rfl,λi h=>absurd h sp⟩,rfl,λi h=>absurd h sp⟩
 | cons r b n =>
   intro K c;have⟨p,v,c,o,q⟩:=pK l m c;have⟨g,d,c,e,f,k⟩:=n _ c;refine⟨p::g,v::d,c,⟨by simp[e.1],λi h j=>?_⟩,by grind,λi h j=>?_⟩;cases i with
   | zero=>grind
   | succ i=>exact e.2 i _<|ss j
   grind
theorem kJ{fn:Array E0}{vs:List E0}(n:lh vs=lh c.results.toList)(o:lh c.results.toList<=4)(h:∀i(a:i<lh c.results.toList)(b:i<lh vs),(Cv fn c.results.toList[i]).run P w=.ok vs[i] w) :
 (results c fn).run P w=.ok (if h:vs.toArray.size=1 then vs.toArray[0]else .tuple vs.toArray) w:=by
 have e:∀(f g:J0->Sem E0),f=g->(do let vs <- c.results.mapM f;pure (if h:vs.size=1 then vs[0]else .tuple vs):Sem E0)=(do let vs <- c.results.mapM g;pure (if h:vs.size=1 then vs[0]else .tuple vs)):=by rintro f g rfl;rfl
 have u:results c fn=(do let vs <- c.results.mapM (Cv fn);pure (if h:vs.size=1 then vs[0]else .tuple vs)):=rfl
 rw[u]
 generalize c.results=y at *
 have⟨l⟩:=y
 have step:∀(l:List J0)(vs:List E0),lh vs=lh l->lh l<=4->(∀i(a:i<lh l)(b:i<lh vs),(Cv fn l[i]).run P w=.ok vs[i] w)->((⟨l⟩:Array J0).mapM<|Cv fn).run P w=.ok vs.toArray w:=by
  intro l vs n o h
  match l,vs,n,o with
  | [],[],_,_=>simp
  | [p],[q],_,_ =>have d:=h 0 sp sp;simp at d;simp[d]
  | [p,r],[q,s],_,_ =>have d:=h 0 sp sp;have j:=h 1 sp sp;simp at d j;simp[d,j]
  | [p,r,z],[q,s,A],_,_ =>have d:=h 0 sp sp;have j:=h 1 sp sp;have k:=h 2 sp sp;simp at d j k;simp[d,j,k]
  | [p,r,z,B],[q,s,A,v4],_,_ =>have d:=h 0 sp sp;have j:=h 1 sp sp;have k:=h 2 sp sp;have t:=h 3 sp sp;simp at d j k t;simp[d,j,k,t]
 have m:=step l vs n o h
 rw[Sem.run_bind,m]
 rfl
theorem TA[aw](A:T.Ok P)(j:SimE G E s a w)(B:lh c.results.toList<=4){rv:RV}(fn:Cu T s c.results.toList rv) :
 ∃v d,(results c a.tmps).run P w=.ok v w/\OutR w (Env.out G.w0.heap.size (blk d)) rv v d/\(blk d).Nodup:=by
 have l:∀(p:PV)(v:E0),uz s.rw p rv List.Nodup->Rep w E 0 p v->∃d,OutR w _ rv v d/\(blk d).Nodup:=λp v fn C=>by
  rw[<- j.rw]at fn;have⟨ids,t,e,m⟩:=zcY j.wok p rv _ v fn C;have⟨d,f,h⟩:=m (lG E ids) λb D=>by have⟨k,fn,u⟩:=List.mem_filterMap.1 D;exact⟨k,u,RK.live_hand (e k fn).2⟩
  rw[<- h]at f;exact⟨d,f,by rw[h];exact VL j.wok ids t e⟩
 unfold Cu at fn
 split at fn
 rename_i r n;have⟨p,v,fn,F,o⟩:=pK A j fn;have⟨d,f,h⟩:=l p v fn o;refine⟨v,d,?_,f,h⟩;rw[kJ (vs:=[v]) (by simp[n]) B λi a b=>by
  grind]
 rfl
 rename_i J y;have⟨I,x,fn,q,g,z⟩:=Nt A j _ _ fn;have⟨d,f,h⟩:=l (.tup I) _ fn (.tup q.1 q.2);refine⟨_,d,?_,f,h⟩;rw[kJ g B z];have:¬x.toArray.size=1:=by
  intro f;have:lh c.results.toList=1:=by grind
  have⟨r,n⟩:=List.length_eq_one_iff.1 this;exact y r n
 rw[Gq this]
end
theorem AC.of[aw]{P:G0}{T:gg}{f:F0}{fn:Func}{c:Code}{args:M0}{rv:RV}(hT:T.Ok P)(hm:P.follows .mixedOrders=k0)(hf:P.funcs[f]?=n0 fn)(hname:(fn.name == "runtime.NumGoroutine")=l0)(hb:fn.body=n0 c)(hfit:(fits fn.ntmps c&&decide (args.length<=fn.ntmps)&&decide (fn.results.toList.length<=4))=k0)(h:wC P T c (zlN T fn.results.toList rv) (St.init args)):AC P f args rv:=by
 simp only[aj,bT]at hfit
 have⟨⟨hfit,hargs⟩,hn4⟩:=hfit
 refine⟨⟨fn,hf,hname,by rw[hb];rfl⟩,λw vals hphi hvals=>?_⟩
 have hlen:args.length=vals.length:=hvals.1
 let G:Ghost:=⟨w,λ_ _=>False,fn.ntmps,λ_=>⟨0,.dead⟩,λ_=>none,λ_=>default,λ_=>False⟩
 let act:Act:={ tmps:=vals.toArray++Array.replicate (fn.ntmps-vals.toArray.size) undef,defers:=[] }
 have hsim:rt G (St.init args) act w:=by
  refine⟨Env.inn w.heap.size,rfl,⟨λk=>trivial,λk k' b h=>(by cases h),λb=>⟨λh=>h.elim,λh=>by rcases h with⟨k,h,_⟩|h;(cases h);exact h⟩,λk h=>(by cases h),rfl,rfl,⟨λb h=>h.elim,λk b h=>h.elim,hphi⟩,λk b h=>(by cases h),⟨rfl,rfl,OutLe.refl _,ab _,λ_ _ _=>rfl⟩,λk=>⟨aB _,λ_ h=>(by cases h)⟩⟩,?_,rfl,λi=>?_⟩;grind;show Rep w (Env.inn w.heap.size) 0 (args.getD i .junk) _;by_cases hi:i<args.length;have e1:args.getD i .junk=args[i]:=by simp[lg,hi]
  have e2:(vals.toArray++Array.replicate (fn.ntmps-vals.toArray.size) undef).getD i undef=vals[i]'om:=by rw[bY,dN<|by simp;omega];simp[(by omega:i<vals.length)]
  rw[e1,e2];exact hvals.2 i hi om;have e1:args.getD i .junk=.junk:=by simp[lg,hi]
  rw[e1];exact .junk _
 have hwp:=Au (G:=G) hT hm c hfit _ _ h act w hsim
 refine calls_of_wp hf hb<|wp_mono hwp λe a' w' hq=>?_
 have fin:∀s,rt G s a' w'->Cu T s fn.results.toList rv->a'.defers=[]/\∃v,(results fn a'.tmps).run P w'=.ok v w'/\∃v' lv,Ending.returned v=.returned v'/\Ext w w'/\OutR w' (Env.out w.heap.size<|blk lv) rv v' lv/\(blk lv).Nodup:=λs hs hk=>by have⟨E,hs⟩:=hs;have⟨v,lv,h1,h2,h3⟩:=TA hT hs hn4 hk;have hkept:=hs.wok.kept;exact⟨hs.defers,v,h1,v,lv,rfl,⟨hkept.os,hkept.tape,hkept.output,hkept.size,λb hb=>hkept.block b hb λ_ h=>h⟩,h2,h3⟩
 cases e with
 | normal=>have⟨s,hs,hk⟩:=hq;exact fin s hs hk
 | ret=>have⟨s,hs,hk⟩:=hq;exact fin s hs hk
 | exit id=>have⟨s,hs,hk⟩:=hq;exact hk.elim
 | goto l=>exact hq.elim
 | panic ch=>exact hq.elim
 | outgrown=>exact hq.elim
#print axioms AC.of
def Ns(rw:S0):Nat->List LR->List M0->Prop
 | _,[],[]=>True
 | i,r::b,c::a=>rw (lent+i)=⟨1,.sli r.e r.sz l0 c⟩/\Ns rw (i+1) b a
 | _,_,_=>False
def zcW(T:gg)(s:St)(c:List J0)(b:List LR)(a:List M0)(x:E0):Prop :=
 Ns s.rw 0 b a/\match c with
 | [r]=>zax T s r λp=>p=.v x
 | []=>x=.tuple #[]
 | _=>False
def zpE(T:gg)(c:List J0)(b:List LR)(a:List M0)(x:E0):AX->St->Prop
 | .norm,s=>zcW T s c b a x
 | .ret,s=>zcW T s c b a x
 | .exit _,_=>False
def St.initM(args:M0)(a:List LR):St:=⟨λi=>lg args i .junk,XP a⟩
theorem zlM{rw:S0}:∀(e:List LR) (d:List M0) (n:Nat),Ns rw n e d->lh d=lh e/\∀(i:Nat)(r:LR)(c:M0),e[i]?=n0 r->d[i]?=n0 c->rw (lent+(n+i))=⟨1,.sli r.e r.sz l0 c⟩:=by
 intro e;induction e with
 | nil=>intro d n h;cases d with
   | nil=>simp
   | cons _ _=>exact h.elim
 | cons r e j =>
   intro d n h;cases d with
   | nil=>exact h.elim
   | cons c d =>
     have⟨k,l⟩:=h;grind
theorem AM.of[aw]{P:G0}{T:gg}{f:F0}{fn:Func}{c:Code}{args:M0}{ins:List LR}{outs:List M0}{x:E0}(hT:T.Ok P)(hm:P.follows .mixedOrders=k0)(hf:P.funcs[f]?=n0 fn)(hname:(fn.name == "runtime.NumGoroutine")=l0)(hb:fn.body=n0 c)(hfit:(fits fn.ntmps c&&decide (args.length<=fn.ntmps)&&decide (fn.results.toList.length<=4))=k0)(hi:∀r∈ins,plain r.c)(ho:∀c∈outs,plain c)(hlen:outs.length=ins.length)(h:(∀r∈ins,r.c.length<=9223372036854775807*r.sz)->wC P T c (zpE T fn.results.toList ins outs x) (St.initM args ins)):AM P f args ins outs x:=by
 simp only[aj,bT]at hfit
 obtain⟨⟨hfit,hargs⟩,hn4⟩:=hfit
 refine⟨⟨fn,hf,hname,by rw[hb];rfl⟩,hi,hlen,ho,λw M E vals hw hR hvals=>?_⟩
 have hlen':args.length=vals.length:=hvals.1
 let G:Ghost:=⟨w,M,fn.ntmps,E.R,E.rm,E.rv,E.X⟩
 let act:Act:={ tmps:=vals.toArray++Array.replicate (fn.ntmps-vals.toArray.size) undef,defers:=[] }
 have hsim:rt G (St.initM args ins) act w:=by
  refine⟨E,hR,⟨hw.rows,hw.inj,hw.live,hw.pos,hw.base,hw.xs,hw.fx,hw.apart,⟨hw.kept.os,hw.kept.tape,hw.kept.output,hw.kept.size,hw.kept.block⟩,hw.pin⟩,?_,rfl,λi=>?_⟩;show(vals.toArray++Array.replicate (fn.ntmps-vals.toArray.size) undef).size=fn.ntmps;simp;omega;show Rep w E 0 (args.getD i .junk) ((vals.toArray++Array.replicate (fn.ntmps-vals.toArray.size) undef).getD i undef);by_cases hi:i<args.length;have e1:args.getD i .junk=args[i]:=by simp[lg,hi]
  have e2:(vals.toArray++Array.replicate (fn.ntmps-vals.toArray.size) undef).getD i undef=vals[i]'om:=by rw[bY,dN<|by simp;omega];simp[(by omega:i<vals.length)]
  rw[e1,e2];exact hvals.2 i hi om;have e1:args.getD i .junk=.junk:=by simp[lg,hi]
  rw[e1];exact .junk _
 have hlens:∀r∈ins,r.c.length<=9223372036854775807*r.sz:=λr hr=>by
  obtain⟨i,hi,rfl⟩:=bV hr;have hrow:=hw.rows<|lent+i;unfold cn at hrow;rw[hR,Hh<|aN hi]at hrow;simp only at hrow;rcases hrow with⟨_,_,hc⟩|⟨b,n,cap,vs,rest,h1,h2,h3,h4,h5,h6,h7,h8,h9⟩
  rw[hc];exact aB _;rw[h9.1,h5];exact ec _<|aJ h6 h7
 have hwp:=Au (G:=G) hT hm c hfit _ _ (h hlens) act w hsim
 refine calls_of_wp hf hb<|wp_mono hwp λe a' w' hq=>?_
 have fin:∀s,rt G s a' w'->zcW T s fn.results.toList ins outs x->a'.defers=[]/\∃v,(results fn a'.tmps).run P w'=.ok v w'/\Ending.returned v=.returned x/\∃E',WOk ⟨w,M,0,E.R,E.rm,E.rv,E.X⟩ E' w' /\
  ∀(i:Nat)(r:LR)(c:M0),ins[i]?=n0 r->outs[i]?=n0 c->E'.R (lent+i)=⟨1,.sli r.e r.sz l0 c⟩:=λs hs hk=>by
  obtain⟨E',hs⟩:=hs
  obtain⟨hrows,hk⟩:=hk
  have hat:=(zlM _ _ _ hrows).2
  have hlast:∃E',WOk ⟨w,M,0,E.R,E.rm,E.rv,E.X⟩ E' w' /\
   ∀(i:Nat)(r:LR)(c:M0),ins[i]?=n0 r->outs[i]?=n0 c->E'.R (lent+i)=⟨1,.sli r.e r.sz l0 c⟩ :=
   ⟨E',⟨hs.wok.rows,hs.wok.inj,hs.wok.live,hs.wok.pos,hs.wok.base,hs.wok.xs,hs.wok.fx,hs.wok.apart,⟨hs.wok.kept.os,hs.wok.kept.tape,hs.wok.kept.output,hs.wok.kept.size,hs.wok.kept.block⟩,hs.wok.pin⟩,λi r c h1 h2=>by
    have:=hat i r c h1 h2;rw[cm]at this;rw[hs.rw];exact this⟩
  split at hk
  rename_i r hr;obtain⟨p,v,hk,hv,hrep⟩:=pK hT hs hk;subst hk;have:=hrep.v_eq;subst this;refine⟨hs.defers,v,?_,rfl,hlast⟩;rw[kJ (vs:=[v]) (by simp[hr]) hn4 λi a b=>by
   have hi:i=0:=by simp[hr]at a;omega
   subst hi;simpa[hr]using hv]
  rfl
  rename_i hr;subst hk;refine⟨hs.defers,_,?_,rfl,hlast⟩;rw[kJ (vs:=[]) (by simp[hr]) hn4 λi a b=>absurd a<|by simp[hr]];rfl
  exact hk.elim
 cases e with
 | normal=>obtain⟨s,hs,hk⟩:=hq;exact fin s hs hk
 | ret=>obtain⟨s,hs,hk⟩:=hq;exact fin s hs hk
 | exit id=>obtain⟨s,hs,hk⟩:=hq;exact hk.elim
 | goto l=>exact hq.elim
 | panic ch=>exact hq.elim
 | outgrown=>exact hq.elim
def zaw(T:gg)(s:St)(b:List J0)(e c n:Nat)(a:List M0)(res:TR):Prop :=
 (∃q:O0,TabIs s.rw lent 1 e c q a/\q.Perm (lc n))/\match res with
 | .self=>(match b with|[r]=>zax T s r λp=>p=.own lent 1|_=>False)
 | .selfx x=>(match b with|[r,d]=>zax T s r (λp=>p=.own lent 1)/\zax T s d (λp=>p=.v x)|_=>False)
 | .rv r=>Cu T s b r
def zpD(T:gg)(b:List J0)(e c n:Nat)(a:List M0)(res:TR):AX->St->Prop
 | .norm,s=>zaw T s b e c n a res
 | .ret,s=>zaw T s b e c n a res
 | .exit _,_=>False
def St.initT(args:M0)(e b:Nat)(a:List M0):St:=⟨λi=>lg args i .junk,qM e b a⟩
theorem AT.of[aw]{P:G0}{T:gg}{f:F0}{fn:Func}{c:Code}{args:M0}{e e2:Nat}{rows rows':List M0}{res:TR}(hT:T.Ok P)(hm:P.follows .mixedOrders=k0)(hf:P.funcs[f]?=n0 fn)(hname:(fn.name == "runtime.NumGoroutine")=l0)(hb:fn.body=n0 c)(hfit:(fits fn.ntmps c&&decide (args.length<=fn.ntmps)&&decide (fn.results.toList.length<=4))=k0)(hi:CC rows)(ho:CC rows')(hlen:rows'.length=rows.length)(h:rows.length<=9223372036854775807->(∀i,i<rows.length->(rows.getD i []).length<=9223372036854775807)->wC P T c (zpD T fn.results.toList e e2 rows.length rows' res) (St.initT args e e2 rows)):AT P f args e e2 rows rows' res:=by
 simp only[aj,bT]at hfit
 have⟨⟨hfit,hargs⟩,hn4⟩:=hfit
 refine⟨⟨fn,hf,hname,by rw[hb];rfl⟩,hi,ho,hlen,λw M E vals hw hR hvals=>?_⟩
 have hlen':args.length=vals.length:=hvals.1
 let G:Ghost:=⟨w,M,fn.ntmps,E.R,E.rm,E.rv,E.X⟩
 let act:Act:={ tmps:=vals.toArray++Array.replicate (fn.ntmps-vals.toArray.size) undef,defers:=[] }
 have hsim:rt G (St.initT args e e2 rows) act w:=by
  refine⟨E,hR,⟨hw.rows,hw.inj,hw.live,hw.pos,hw.base,hw.xs,hw.fx,hw.apart,⟨hw.kept.os,hw.kept.tape,hw.kept.output,hw.kept.size,hw.kept.block⟩,hw.pin⟩,?_,rfl,λi=>?_⟩;show(vals.toArray++Array.replicate (fn.ntmps-vals.toArray.size) undef).size=fn.ntmps;simp;omega;show Rep w E 0 (args.getD i .junk) ((vals.toArray++Array.replicate (fn.ntmps-vals.toArray.size) undef).getD i undef);by_cases hi:i<args.length;have e1:args.getD i .junk=args[i]:=by simp[lg,hi]
  have e2:(vals.toArray++Array.replicate (fn.ntmps-vals.toArray.size) undef).getD i undef=vals[i]'om:=by rw[bY,dN (by simp;omega)];simp[(by omega:i<vals.length)]
  rw[e1,e2];exact hvals.2 i hi om;have e1:args.getD i .junk=.junk:=by simp[lg,hi]
  rw[e1];exact .junk _
 have hl1:rows.length<=9223372036854775807:=by
  have hrow:=hw.rows lent;unfold cn at hrow;rw[hR,jj]at hrow;simp only at hrow;rcases hrow with⟨_,_,hc⟩|⟨b,n,cap,vs,rest,h1,h2,h3,h4,h5,h6,h7,h8,h9⟩
  have:=cV lh hc;rw[bP,bp]at this;rw[this];exact aB _;have:=h9.1;rw[bP,bp]at this;rw[this,h5];exact aJ h6 h7
 have hl2:∀i,i<rows.length->(rows.getD i []).length<=9223372036854775807:=λi hi=>by
  have hrow:=hw.rows (dq lent i);unfold cn at hrow;rw[hR,lY hi]at hrow;simp only at hrow;rcases hrow with⟨_,_,hc⟩|⟨b,n,cap,vs,rest,h1,h2,h3,h4,h5,h6,h7,h8,h9⟩
  rw[hc];exact aB _;rw[h9.1,h5,dh];exact aJ h6 h7
 have hwp:=Au (G:=G) hT hm c hfit _ _ (h hl1 hl2) act w hsim
 refine calls_of_wp hf hb (wp_mono hwp λee a' w' hlift=>?_)
 have fin:∀s,rt G s a' w'->zaw T s fn.results.toList e e2 rows.length rows' res->a'.defers=[]/\∃v,(results fn a'.tmps).run P w'=.ok v w'/\∃(E':Env) (q:O0) (v':E0) (lv:List (E0×Option Nat)),Ending.returned v=.returned v'/\WOk ⟨w,M,0,E.R,E.rm,E.rv,E.X⟩ E' w' /\
  TabIs E'.R lent 1 e e2 q rows'/\q.Perm (lc rows.length)/\res.ok w.heap.size (E.rv lent) w' v' lv:=λs hs hk=>by
  have⟨E',hs⟩:=hs
  have⟨⟨q,htab,hq⟩,hk⟩:=hk
  rw[<- hs.rw]at htab
  have hwok:WOk ⟨w,M,0,E.R,E.rm,E.rv,E.X⟩ E' w':=⟨hs.wok.rows,hs.wok.inj,hs.wok.live,hs.wok.pos,hs.wok.base,hs.wok.xs,hs.wok.fx,hs.wok.apart,⟨hs.wok.kept.os,hs.wok.kept.tape,hs.wok.kept.output,hs.wok.kept.size,hs.wok.kept.block⟩,hs.wok.pin⟩
  have hself:∀v,Rep w' E' 0 (.own lent 1) v->v=E.rv lent:=λv hv=>by
   cases hv with
   | own h1 hx =>have h2:=hx (by rw[htab.top]) (by rw[htab.top];rfl);have h3:=(hwok.pin lent).2 (by rw[htab.top];show 1=(E.R lent).ver;rw[hR,jj]) (by rw[htab.top];rfl);rw[h2];exact(h3.2.2 (by rw[htab.top];rfl)).2
  cases res with
  | self =>
    simp only at hk
    split at hk
    rename_i r hr;have⟨p,v,hp,hv,hrep⟩:=pK hT hs hk;subst hp;refine⟨hs.defers,v,?_,E',q,v,[],rfl,hwok,htab,hq,hself v hrep⟩;rw[kJ (vs:=[v]) (by simp[hr]) hn4 λi a b=>by
     have hi:i=0:=by simp[hr]at a;omega
     subst hi;simpa[hr]using hv]
    rfl
    exact hk.elim
  | selfx x =>
    simp only at hk
    split at hk
    rename_i r r2 hr;have⟨hk1,hk2⟩:=hk;have⟨p,v,hp,hv,hrep⟩:=pK hT hs hk1;have⟨p2,v2,hp2,hv2,hrep2⟩:=pK hT hs hk2;subst hp hp2;have:=hrep2.v_eq;subst this;refine⟨hs.defers,.tuple #[v,v2],?_,E',q,_,[],rfl,hwok,htab,hq,by show E0.tuple #[v,v2]=.tuple #[E.rv lent,v2];rw[hself v hrep]⟩;rw[kJ (vs:=[v,v2]) (by simp[hr]) hn4 λi a b=>by
     have hi:i=0\/i=1:=by simp[hr]at a;omega
     rcases hi with rfl|rfl;simpa[hr]using hv;simpa[hr]using hv2]
    rfl
    exact hk.elim
  | rv r =>
    simp only at hk
    have⟨v,lv,h1,h2,h3⟩:=TA hT hs hn4 hk
    exact⟨hs.defers,v,h1,E',q,v,lv,rfl,hwok,htab,hq,h2,h3⟩
 cases ee with
 | normal=>have⟨s,hs,hk⟩:=hlift;exact fin s hs hk
 | ret=>have⟨s,hs,hk⟩:=hlift;exact fin s hs hk
 | exit id=>have⟨s,hs,hk⟩:=hlift;exact hk.elim
 | goto l=>exact hlift.elim
 | panic ch=>exact hlift.elim
 | outgrown=>exact hlift.elim
def Qh(T:gg)(s:St)(a:List J0)(post:(S0)->PV->Prop):Prop :=
 match a with
 | [r]=>zax T s r λp=>post s.rw p
 | a=>Kd T s a λb=>post s.rw (.tup b)
def Qi(T:gg)(a:List J0)(post:(S0)->PV->Prop):AX->St->Prop
 | .norm,s=>Qh T s a post
 | .ret,s=>Qh T s a post
 | .exit _,_=>False
def yD:RK->Prop|.sli _ a _ c=>lh c<=9223372036854775807*a|.tab _ c=>lh c<=9223372036854775807|_=>True
def St.initG(args:M0)(a:S0):St:=⟨λi=>lg args i .junk,a⟩
theorem AG.ofS[aw]{P:G0}{T:gg}{f:F0}{fn:Func}{c:Code}{args:M0}{R0:S0}{post:(S0)->PV->Prop}(hT:T.Ok P)(hm:P.follows .mixedOrders=k0)(hf:P.funcs[f]?=n0 fn)(hname:(fn.name == "runtime.NumGoroutine")=l0)(hb:fn.body=n0 c)(hfit:(fits fn.ntmps c&&decide (args.length<=fn.ntmps)&&decide (fn.results.toList.length<=4))=k0)(h:(∀k,yD (R0 k).kind)->zvn P fn.ntmps c (Qi T fn.results.toList post) (St.initG args R0)):AG P f args R0 post:=by
 simp only[aj,bT]at hfit
 have⟨⟨hfit,hargs⟩,hn4⟩:=hfit
 refine⟨⟨fn,hf,hname,by rw[hb];rfl⟩,λw M E vals hw hR hvals=>?_⟩
 have hlen':args.length=vals.length:=hvals.1
 let G:Ghost:=⟨w,M,fn.ntmps,E.R,E.rm,E.rv,E.X⟩
 let act:Act:={ tmps:=vals.toArray++Array.replicate (fn.ntmps-vals.toArray.size) undef,defers:=[] }
 have hsim:rt G (St.initG args R0) act w:=by
  refine⟨E,hR,⟨hw.rows,hw.inj,hw.live,hw.pos,hw.base,hw.xs,hw.fx,hw.apart,⟨hw.kept.os,hw.kept.tape,hw.kept.output,hw.kept.size,hw.kept.block⟩,hw.pin⟩,?_,rfl,λi=>?_⟩;show(vals.toArray++Array.replicate (fn.ntmps-vals.toArray.size) undef).size=fn.ntmps;simp;omega;show Rep w E 0 (args.getD i .junk) ((vals.toArray++Array.replicate (fn.ntmps-vals.toArray.size) undef).getD i undef);by_cases hi:i<args.length;have e1:args.getD i .junk=args[i]:=by simp[lg,hi]
  have e2:(vals.toArray++Array.replicate (fn.ntmps-vals.toArray.size) undef).getD i undef=vals[i]'om:=by rw[bY,dN<|by simp;omega];simp[(by omega:i<vals.length)]
  rw[e1,e2];exact hvals.2 i hi om;have e1:args.getD i .junk=.junk:=by simp[lg,hi]
  rw[e1];exact .junk _
 have hl:∀k,yD (R0 k).kind:=λk=>by
  have hrow:=hw.rows k;unfold cn at hrow;rw[hR]at hrow;unfold yD;cases hk:(R0 k).kind with
  | sli e sz fz c =>
    rw[hk]at hrow;rcases hrow with⟨_,_,hc⟩|⟨b,n,cap,vs,rest,h1,h2,h3,h4,h5,h6,h7,h8,h9⟩
    subst hc;exact aB _;show c.length<=_;rw[h9.1,h5];exact ec _<|aJ h6 h7
  | tab e c =>
    rw[hk]at hrow;rcases hrow with⟨_,_,hc⟩|⟨b,n,cap,vs,rest,h1,h2,h3,h4,h5,h6,h7,h8,h9⟩
    subst hc;exact aB _;show c.length<=_;rw[h9.1,h5];exact aJ h6 h7
  | _=>trivial
 have hwp:=h hl G rfl act w hsim
 refine calls_of_wp hf hb<|wp_mono hwp λee a' w' hlift=>?_
 have fin:∀s,rt G s a' w'->Qh T s fn.results.toList post->a'.defers=[]/\∃v,(results fn a'.tmps).run P w'=.ok v w'/\∃(E':Env)(p:PV)(v':E0),Ending.returned v=.returned v'/\WOk ⟨w,M,0,E.R,E.rm,E.rv,E.X⟩ E' w' /\
  Rep w' E' 0 p v'/\post E'.R p:=λs hs hk=>by
  have⟨E',hs⟩:=hs
  have hwok:WOk ⟨w,M,0,E.R,E.rm,E.rv,E.X⟩ E' w':=⟨hs.wok.rows,hs.wok.inj,hs.wok.live,hs.wok.pos,hs.wok.base,hs.wok.xs,hs.wok.fx,hs.wok.apart,⟨hs.wok.kept.os,hs.wok.kept.tape,hs.wok.kept.output,hs.wok.kept.size,hs.wok.kept.block⟩,hs.wok.pin⟩
  unfold Qh at hk
  split at hk
  rename_i r hr;have⟨p,v,hp,hv,hrep⟩:=pK hT hs hk;refine⟨hs.defers,v,?_,E',p,v,rfl,hwok,hrep,by rw[hs.rw];exact hp⟩;rw[kJ (vs:=[v]) (by simp[hr]) hn4 λi a b=>by
   have hi:i=0:=by simp[hr]at a;omega
   subst hi;simpa[hr]using hv]
  rfl
  rename_i rs hne;have⟨ps,vs,hk,hrl,hlen,hvs⟩:=Nt hT hs _ _ hk;refine⟨hs.defers,.tuple vs.toArray,?_,E',.tup ps,_,rfl,hwok,.tup hrl.1 hrl.2,by rw[hs.rw];exact hk⟩;rw[kJ hlen hn4 hvs];have:¬vs.toArray.size=1:=by
   intro h1;have:fn.results.toList.length=1:=by rw[<- hlen];simpa using h1
   have⟨r,hr⟩:=List.length_eq_one_iff.1 this;exact hne r hr
  rw[Gq this]
 cases ee with
 | normal=>have⟨s,hs,hk⟩:=hlift;exact fin s hs hk
 | ret=>have⟨s,hs,hk⟩:=hlift;exact fin s hs hk
 | exit id=>have⟨s,hs,hk⟩:=hlift;exact hk.elim
 | goto l=>exact hlift.elim
 | panic ch=>exact hlift.elim
 | outgrown=>exact hlift.elim
theorem AG.ofW[aw]{T:gg}(i:T.Ok d)(j:d.follows .mixedOrders=k0)(l:d.funcs[g]?=n0 c)(post:(c.name == "runtime.NumGoroutine")=l0)(m:c.body=n0 h)(P:(fits c.ntmps h&&decide (lh f<=c.ntmps)&&decide (lh c.results.toList<=4))=k0)(fn:(∀k,yD (e k).kind)->∃args,Wk (St.initG f e) args/\wC d T h (Qi T c.results.toList b) args):AG d g f e b :=
 AG.ofS i j l post m P λn=>by simp[aj]at P;have⟨args,o,p⟩:=fn n;exact λG q a w r=>zpG i j P.1.1 p G q a w<|o G a w r
theorem AG.of[aw]{T:gg}(P:T.Ok d)(post:d.follows .mixedOrders=k0)(i:d.funcs[g]?=n0 c)(a:(c.name == "runtime.NumGoroutine")=l0)(j:c.body=n0 h)(fn:(fits c.ntmps h&&decide (lh f<=c.ntmps)&&decide (lh c.results.toList<=4))=k0)(args:(∀k,yD (e k).kind)->wC d T h (Qi T c.results.toList b) (St.initG f e)):AG d g f e b :=
 AG.ofW P post i a j fn λl=>⟨_,Wk.refl _,args l⟩
end Go.Abs
