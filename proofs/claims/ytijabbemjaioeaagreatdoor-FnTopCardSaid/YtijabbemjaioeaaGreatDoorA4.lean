/- DERIVED by an AI agent. -/
import Derived.Test.YtijabbemjaioeaaGreatDoorA3
set_option linter.all false
namespace Go.Abs
open Bool renaming true→k0,false→l0
open Option renaming some→n0,none→o0
open Go renaming TypeId→A0,Operand→B0,World→C0,Value→E0,FuncId→F0,Program→G0
open List renaming range→lc,replicate→ld,getD→lg,length→lh
variable (b:Nat){d:Nat}{f:List (E0×Option Nat)}{g:List (A0×Option Nat×M0)}{q:List (Nat×Nat)}{t:A0}{x:B0}{n:M0}{h:Array (Nat×B0)}{i:C0}{j:List M0}{l:O0}{m:S0}{z:E0}{r:Call}
theorem zdk{i j:Nat}(h:bz d i=bz d j):i=j:=by unfold bz at h;omega
def pN{a:Type}(f:Nat->a)(d:Nat):List a->Nat->Nat->a
 | [],_=>f
 | x::b,i=>fM (pN f d b (i+1)) (bz d i) x
theorem oa[aw]{a:Type}(f:Nat->a)(d k:Nat):∀(l:List a)(i:Nat),(∀j,j<lh l->k≠bz d (i+j))->pN f d l i k=f k:=by
 intro l;induction l with
 | nil=>intro i _;rfl
 | cons x g b =>intro i h;rw[pN,bu _ _<|ss (h 0 sp)];exact b _ λj e=>by have:=h (j+1)<|ss e;grind
theorem qp[aw]{a:Type}(f:Nat->a)(d:Nat):∀(l:List a)(i j:Nat)(h:j<lh l),pN f d l i (bz d (i+j))=l[j]:=by
 intro l;induction l with
 | nil=>simp
 | cons x c b =>
   intro i j h;cases j with
   | zero=>simp[pN,fM]
   | succ j =>rw[pN,bu _ _<|λe=>by have:=zdk e;omega];have:=b (i+1) j<|ss h;grind
def gn(rw:S0)(d:Nat):List (A0×Option Nat×M0)->Nat->Y0
 | [],_=>[]
 | (e,a,c)::b,i=>⟨(rw (bz d i)).ver+1,jv rw d i e a c⟩::gn rw d b (i+1)
theorem pO(rw:S0)(d:Nat):∀(a:List (A0×Option Nat×M0)) (i:Nat),cM rw d a i=pN rw d (gn rw d a i) i:=by
 intro a;induction a with
 | nil=>intro i;rfl
 | cons x f b=>simp[cM,gn,pN,b]
theorem iP(rw:S0)(d:Nat):∀(a:List (A0×Option Nat×M0)) (i:Nat),lh (gn rw d a i)=lh a:=by
 intro a;induction a with
 | nil=>intro i;rfl
 | cons x f b=>simp[gn,b]
theorem rX[aw](rw:S0)(d:Nat):∀(a:List (A0×Option Nat×M0)) (i j:Nat) (h:j<lh a) (b:j<lh (gn rw d a i)),
 (gn rw d a i)[j]=⟨(rw (bz d (i+j))).ver+1,jv rw d (i+j) a[j].1 a[j].2.1 a[j].2.2⟩:=by
 intro a
 induction a with
 | nil=>simp
 | cons x g f =>
   intro i j h b
   cases j with
   | zero=>rfl
   | succ j =>
     simp[gn]
     grind
theorem LeafsAt.get{E:Env}(h:LeafsAt i E g f):∀b(p:b<lh g)(q:b<lh f),LeafAt i E g[b] f[b]:=by
 induction h with
 | nil=>simp
 | cons h _ c =>
   grind
theorem LeafAt.blk[aw]{E:Env}{x:A0×Option Nat×M0}{y:E0×Option Nat}(h:LeafAt i E x y):∀b,y.2=n0 b->E.B<=b/\b<i.heap.size:=by
 cases h with
 | nil=>simp
 | tbn=>simp
 | tb c d=>grind
 | fr c d=>grind
theorem zgY(a:(blk f).Nodup){j b:Nat}(c:d<lh f)(m:j<lh f)(g:f[d].2=n0 b)(h:f[j].2=n0 b):d=j:=by
 induction f generalizing d j with
 | nil=>grind
 | cons x i o =>
   have mem:∀k(n:k<lh i),i[k].2=n0 b->b∈blk i:=λk n p=>by simp[blk];grind
   have l:(blk i).Nodup:=by
    unfold blk at a ⊢;grind
   have out:x.2=n0 b->b∉blk i:=λe=>by simp_all[blk]
   grind
section
variable {P:G0}{T:gg}{G:Ghost}{s:St}{E:Env}{a:Act}{w w':C0}{o:Oper}
def Env.adopt(E:Env)(d:Nat)(ls:List (A0×Option Nat×M0))(lv:List (E0×Option Nat)):Env :=
 { R:=pN E.R d (gn E.R d ls 0) 0,rm:=pN E.rm d (lv.map (·.2)) 0,rv:=pN E.rv d (lv.map (·.1)) 0,
   L:=Lf E.X (pN E.R d (gn E.R d ls 0) 0) (pN E.rm d (lv.map (·.2)) 0),B:=E.B,X:=E.X }
theorem zdl[aw](u:WOk G E w)(L:Ext w w'){d:Nat}(B:LeafsAt w' (Env.out w.heap.size (blk f)) g f)(R:pE w' g f)(hn:(blk f).Nodup) :
 Turn G E (E.adopt d g f) w w' (λk=>∃j,j<g.length/\k=bz d j) /\
  (∀k,(∃j,j<g.length/\k=bz d j)->cn w' (E.adopt d g f) G.C k)/\Agr (E.adopt d g f) (λk=>(E.R k).ver) d 0 f:=by
 have a0:=B.length
 have l:∀j(h:j<g.length),(E.adopt d g f).R (bz d j)=⟨(E.R (bz d j)).ver+1,jv E.R d j g[j].1 g[j].2.1 g[j].2.2⟩:=λj h=>by
  have y:j<(gn E.R d g 0).length:=by rw[iP];exact h
  have:=qp E.R d (gn E.R d g 0) 0 j y;rw[cm]at this;show pN E.R d (gn E.R d g 0) 0 (bz d j)=_;rw[this,rX E.R d g 0 j h y,cm]
 have q:∀j(h:j<g.length)(y:j<f.length),(E.adopt d g f).rm (bz d j)=f[j].2:=λj h y=>by have:=qp E.rm d (f.map (·.2)) 0 j (by simpa using y);rw[cm]at this;show pN E.rm d (f.map (·.2)) 0 (bz d j)=_;rw[this];simp
 have C:∀j(h:j<g.length)(y:j<f.length),(E.adopt d g f).rv (bz d j)=f[j].1:=λj h y=>by have:=qp E.rv d (f.map (·.1)) 0 j (by simpa using y);rw[cm]at this;show pN E.rv d (f.map (·.1)) 0 (bz d j)=_;rw[this];simp
 have M:∀k,¬(∃j,j<g.length/\k=bz d j)->(E.adopt d g f).R k=E.R k/\(E.adopt d g f).rm k=E.rm k/\(E.adopt d g f).rv k=E.rv k:=λk I=>by refine⟨oa _ d k _ 0 λj c e=>I ⟨j,by rwa [iP]at c,by simpa using e⟩,oa _ d k _ 0 λj c e=>I ⟨j,by simp at c;omega,by simpa using e⟩,oa _ d k _ 0 λj c e=>I ⟨j,by simp at c;omega,by simpa using e⟩⟩
 have r:Turn G E (E.adopt d g f) w w' (λk=>∃j,j<g.length/\k=bz d j):=by
  refine⟨rfl,rfl,rfl,M,λb N _=>L.block b N,?_,?_,?_,?_,?_,?_,L.size,L.os,L.tape,L.output⟩
  ·rintro k b ⟨j,c,rfl⟩ N _;rw[q j c om]at N;exact .inl ((B.get j c om).blk b N).1
  ·rintro k ⟨j,c,rfl⟩;rw[l j c];exact cK _
  ·rintro k ⟨j,c,rfl⟩ h;rw[l j c]at h;simp at h
  ·rintro k ⟨j,c,rfl⟩ h;rw[l j c]at h;simp at h
  ·rintro k ⟨j,c,rfl⟩ _;rw[l j c];exact jG _
  ·rintro k k' b ⟨j,c,rfl⟩ ⟨P,p,rfl⟩ _ _ h1 h2;rw[q j c om]at h1;rw[q P p om]at h2;rw[zgY hn om om h1 h2]
 have hl:=r.lasts u
 refine⟨r,?_,λj c=>?_⟩
 ·rintro k ⟨j,c,rfl⟩;have m:=B.get j c om;unfold cn;rw[l j c,q j c om,C j c om];have D:Lasts w' w' (Env.out w.heap.size (blk f)).bare (E.adopt d g f).bare:=by
   refine⟨λb N hL=>⟨rfl,λS=>?_⟩,λ_=>ab _,λ_ _ h=>absurd h (by simp[Env.bare,RK.slice]),λ_ _ h=>absurd h (by simp[Env.bare,RK.nd]),ab _⟩;rcases S with⟨k,I,U⟩|hX;rotate_left
   ·exact hL (.inl (by have:=u.fx.low b (by rw[<- u.xs];exact hX);have:=u.kept.size;omega))
   have z:¬(b<w.heap.size\/b∈blk f):=hL;by_cases hD:∃j,j<g.length/\k=bz d j
   ·obtain⟨P,p,rfl⟩:=hD;have s:(E.adopt d g f).rm (bz d P)=n0 b:=I;rw[q P p om]at s;refine z (.inr ?_);simp only[blk,jh];exact⟨_,bx om,s⟩
   ·obtain⟨e1,e2,_⟩:=M k hD;have s:(E.adopt d g f).rm k=n0 b:=I;have A:((E.adopt d g f).R k).kind.live=true:=U;rw[e2]at s;rw[e1]at A;exact z (.inl (u.block s (RK.nd_of_live A)).1)
  generalize V:g[j]=lx at m;generalize W:f[j]=ly at m;cases m with
  | nil=>exact .inl ⟨rfl,rfl,rfl⟩
  | tbn=>exact .inl ⟨rfl,rfl,by simp[fi]⟩
  | @tb e b n cap cells J o X Q t Y Z F hr =>
    have H:=R j e cells b n cap (by rw[aN c,V]) (by rw[aN om,W]) J o Q t;refine .inr ⟨b,n,cap,J,o,rfl,.inl (aJ u.kept.size X),rfl,Q,t,Y,Z,F,by simp[fi,hr,t],λi a b'=>?_⟩;have hi:i<cells.length:=by simpa[fi]using a
    have K:=H i b';have O:j+1+i<f.length:=by
     cases hq:f[j+1+i]? with
     | none=>rw[hq]at K;cases K
     | some x=>exact(List.getElem?_eq_some_iff.1 hq).1
    rw[aN O]at K;have K:f[j+1+i].1=J[i]:=by simpa using K
    show Rep w' (E.adopt d g f) 0 (fi E.R d j cells.length)[i] J[i];simp only[fi,aM,bG];refine .own ?_ λ_ _=>?_
    ·rw[l (j+1+i) om];exact ab _
    ·rw[C (j+1+i) om O,K]
  | @fr e sz b n cap cells J o X Q t Y Z F hr =>
    refine .inr ⟨b,n,cap,J,o,rfl,.inl ?_,rfl,Q,t,Y,Z,F,hr.mono D ?_⟩
    ·exact aJ u.kept.size X
    ·show E.B<=w.heap.size;rw[u.base];exact u.kept.size
 ·rw[cm];have p:j<g.length:=om;rw[l j p,C j p c];exact⟨rfl,rfl⟩
theorem NH[aw]{K:St->Prop}(O:o.op=.call r)(R:r.callee=.value x)(z:o.dst=n0 d)(S:d<G.n)(u:oM P s.rw s.ev x r.args λrv=>K (br s d rv)):∃L,K L/\fF P G s o L:=by
 obtain⟨rv,u,h⟩:=zg0 (G:=G) O R u
 refine⟨_,u,λa w g U Q V=>?_⟩
 obtain⟨E,g⟩:=g
 refine h E a w g.rw g.wok (λf _=>dE g.slots f) U Q λv w' i W m X=>?_
 obtain⟨l,n,A⟩:=zdl (d:=d) g.wok W m.leafs m.links X
 have B:=l.sim g n
 have Y:(E.adopt d (leaves rv) i).R=cM s.rw d (leaves rv) 0:=by rw[pO,<- g.rw];rfl
 rw[z]
 refine V _ _ ⟨E.adopt d (leaves rv) i,?_⟩
 have t:Lasts w' w' (Env.out w.heap.size (blk i)).bare (E.adopt d (leaves rv) i).bare:=by
  refine⟨λb hb M=>⟨rfl,λF=>?_⟩,λ_=>ab _,λ_ _ h=>absurd h (by simp[Env.bare,RK.slice]),λ_ _ h=>absurd h (by simp[Env.bare,RK.nd]),ab _⟩;rcases F with⟨k,u,H⟩|Z;rotate_left
  ·exact M (.inl (by have:=g.wok.fx.low b (by rw[<- g.wok.xs];exact Z);have:=g.wok.kept.size;omega))
  have q:¬(b<w.heap.size\/b∈blk i):=M;have I:=l.wok g.wok n;by_cases N:∃j,j<(leaves rv).length/\k=bz d j
  ·obtain⟨y,J,rfl⟩:=N;have p:(E.adopt d (leaves rv) i).rm (bz d y)=n0 b:=u;have C:y<i.length:=by rw[m.leafs.length];exact J
   have:=qp E.rm d (i.map (·.2)) 0 y (by simpa using C);rw[cm]at this;have e:(E.adopt d (leaves rv) i).rm (bz d y)=i[y].2:=by show pN E.rm d (i.map (·.2)) 0 (bz d y)=_;rw[this];simp
   rw[e]at p;refine q (.inr ?_);simp only[blk,jh];exact⟨_,bx C,p⟩
  ·obtain⟨e1,e2,_⟩:=l.keep k N;have p:(E.adopt d (leaves rv) i).rm k=n0 b:=u;have c:((E.adopt d (leaves rv) i).R k).kind.live=true:=H;rw[e2]at p;rw[e1]at c;exact q (.inl (g.wok.block p (RK.nd_of_live c)).1)
 have D:Rep w' (E.adopt d (leaves rv) i) 0 (eu (λk=>(s.rw k).ver) d rv 0) v:=by rw[g.rw]at A;exact NJ t (by show E.B<=w.heap.size;rw[g.wok.base];exact g.wok.kept.size) rv v i 0 m A
 have:=B.put (d:=n0 d) (by simp[S]) D
 rw[Y]at this
 exact this
end
section
variable {P:G0}{T:gg}{G:Ghost}{s:St}{E:Env}{a:Act}{w w':C0}{o:Oper}
theorem ziO[aw]{K:St->Prop}(j:o.op=.box t x)(f:o.dst=n0 d)(k:d<G.n)(b:fb s.rw (s.ev x) λc=>K (jx s d (.box t c) λv=>.ref d v 0)):∃i,K i/\fF P G s o i:=by
 have g:∃new,fb s.rw (s.ev x) (·=new)/\K (jx s d (.box t new) λv=>.ref d v 0):=by
  unfold fb at b ⊢
  grind
 obtain⟨new,l,b⟩:=g
 refine⟨_,b,λa w e n Q m=>?_⟩
 obtain⟨E,e⟩:=e
 obtain⟨p,rfl,h,_⟩:=rr l e.rw e.wok (dE e.slots x)
 refine zgZ e f k h ?_ m
 simp[execOp,j,Instr.box,newVar,newRow]
theorem zaN[aw](h:T.Ok P){K:St->Prop}(j:o.op=.alloc t)(b:o.dst=n0 d)(k:d<G.n)(f:0<(T t).size/\K (jx s d (.box t ((T t).zero.map PV.v)) λv=>.ref d v 0)):∃g,K g/\fF P G s o g:=by
 have⟨c,f⟩:=f
 have⟨i,z,l,u,x,m,n⟩:=(h t c).info
 refine⟨_,f,λa w c y Q r=>?_⟩
 have⟨E,c⟩:=c
 refine zgZ (vs:=(T t).zero) c b k ⟨sp,λi p q=>by simp;exact .v _⟩ ?_ r
 have e:(T t).zero.toArray=z.cells:=by grind
 simp[execOp,j,Instr.alloc,zeroValue,typeInfo,l,m,newVar,newRow,e]
theorem ziP[aw]{f:RK}(g:f=.nil\/∃e j,f=.sli e j l0 []){K:St->Prop}(k:o.op=.assign (.const z))(b:o.dst=n0 d)(l:d<G.n)(m:nu z=k0)(n:K (jx s d f λv=>.own d v)):∃i,K i/\fF P G s o i:=by
 refine⟨_,n,λa w h q Q p=>?_⟩
 have⟨E,h⟩:=h
 refine zpV g h b l (Ext.refl w) ?_ p
 simp[execOp,k,Act.eval,sf m]
theorem zdj[aw](F:T.Ok P){e:A0}{c:B0}{H I:IntKind}{b f:Int}{K:St->Prop}(O:o.op=.makeSlice t x c)(k:o.dst=n0 d)(R:d<G.n)(S:0<(T t).size)(r:(T t).k=.sli e)(U:s.ev x=.v (.int H b))(V:s.ev c=.v (.int I f))(W:(T e).size=1)(X:(T e).zero=[z])(Y:0<=b)(J:b<=f)(Z:((T e).bytes:Int)*f<=281474976710656)(u:f<=9223372036854775807)(hk:K (jx s d (.sli e 1 l0 (ld b.toNat (.v z))) λv=>.own d v)):∃L,K L/\fF P G s o L:=by
 have hu:=by have:=(F t S).k;rw[r]at this;exact this
 have⟨i,l,hi,y,A,B,C⟩:=(F e om).info
 refine⟨_,hk,λa w m K' Q hK=>?_⟩
 have⟨E,m⟩:=m
 have M:=dE m.slots x
 have N:=dE m.slots c
 rw[U]at M;rw[V]at N
 have g:=run_make (P:=P) w t e i l hu hi B H I b f Y J (by rw[A];exact Z) u
 have D:l.cells=#[z]:=by grind
 have h:madeCells l.cells (f.toNat*i.size)=(ld b.toNat z++ld (f.toNat-b.toNat) z).toArray:=by unfold madeCells;grind
 rw[h]at g
 refine zpU (vs:=ld b.toNat z) (rest:=ld (f.toNat-b.toNat) z) (n:=b.toNat) (cap:=f.toNat) (sz:=1) (e:=e) m k R ⟨sp,λj p q=>by simp;exact .v _⟩ sp om (by simp[maxLen];omega) (by simp;omega) (Ext.alloc _ _) (heap_alloc_new w _) ?_ hK
 simp[execOp,O,M.v_eq,N.v_eq,g]
theorem TO:∀(l:List E0)(n a:Nat)(arr:Array E0),a+n+lh l<=arr.size ->
 ((l.zipIdx n).foldl (λb(x:E0×Nat)=>b.setIfInBounds (a+x.2) x.1) arr).toList=arr.toList.take (a+n)++l++arr.toList.drop (a+n+lh l):=by
 intro l
 induction l with
 | nil=>intro n a arr h;simp
 | cons x c d =>
   intro n a arr h
   simp only[List.zipIdx_cons,qY]
   rw[d (n+1) a _<|by simp at h ⊢;omega]
   have e:=list_seg_step arr.toList (a+n) x c<|by simp at h ⊢;omega
   simpa[te,jT]using e
def EP:Nat->List (Nat×B0)->Bool
 | _,[]=>k0
 | k,(i,_)::r=>(i==k)&&EP (k+1) r
theorem zpT[aw](a:Nat):∀(b:List E0) (c:List (Nat×E0)) (k:Nat) (cells:Array E0),c.map (·.2)=b->(∀j(h:j<lh c),c[j].1=k+j)->(∀v∈b,v.cells.size=a)->(k+lh b)*a<=cells.size ->
 ∃out,Instr.fill (λi=>n0 (i*a,a)) cells c=n0 out/\out.toList=cells.toList.take (k*a)++(b.map (·.cells.toList)).flatten++cells.toList.drop ((k+lh b)*a):=by
 intro b
 induction b with
 | nil =>
   intro c k cells f _ _ _
   have:c=[]:=ss f
   subst this
   exact⟨cells,rfl,sp⟩
 | cons v b t =>
   intro c k cells f s o w
   cases c with
   | nil=>simp at f
   | cons p c =>
     have⟨i,u⟩:=p
     simp only[dR,List.cons.injEq]at f
     have⟨rfl,f⟩:=f
     have y:i=k:=(s 0 sp:i=k+0)
     subst y
     have l:=o u sp
     have q:(i+(lh b+1))*a<=cells.size:=w
     have m:(i+(lh b+1))*a=i*a+a+b.length*a:=by rw[fA,fA];omega
     have e:=TO u.cells.toList 0 (i*a) cells<|by simp[l];omega
     have g:(u.cells.zipIdx.foldl (λn(x:E0×Nat)=>n.setIfInBounds (i*a+x.2) x.1) cells)=(u.cells.toList.zipIdx.foldl (λn(x:E0×Nat)=>n.setIfInBounds (i*a+x.2) x.1) cells):=by rw[<- Array.foldl_toList,BF]
     have⟨out,z,A⟩:=t c (i+1) (u.cells.toList.zipIdx.foldl (λn(x:E0×Nat)=>n.setIfInBounds (i*a+x.2) x.1) cells) f
      (λj h=>by have o:c[j].1=i+(j+1):=s (j+1)<|ss h;omega) (λv l=>o v<|by simp[l])<|by
       rw[<- dU,e];grind
     refine⟨out,?_,?_⟩
     simp only[Instr.fill];grind
     rw[A,e];have d:lh u.cells.toList=a:=ss l
     have B:(i+1)*a=i*a+a:=by rw[fA,JO]
     have C:(i+1+lh b)*a=i*a+a+b.length*a:=by rw[fA,fA,JO]
     have r:lh (cells.toList.take<|i*a)=i*a:=by simp;omega
     rw[B,C,bH,m,lD,d];have D:(cells.toList.take (i*a)++u.cells.toList++cells.toList.drop (i*a+a)).take (i*a+a)=cells.toList.take (i*a)++u.cells.toList:=by grind
     have E:(cells.toList.take (i*a)++u.cells.toList++cells.toList.drop (i*a+a)).drop (i*a+a+b.length*a)=cells.toList.drop (i*a+a+b.length*a):=by rw[wm,eI<|by simp[d];omega,eg,List.drop_drop];congr 1;simp[d];omega
     rw[D,E];simp[cP]
end
def ziX(T:gg)(s:St)(t:A0)(m x y:PV)(K:St->Prop):Prop :=
 match m,x,y with
 | .own k b,.v (.int .u64 a),.v (.int .i64 v)=>(s.rw k).ver=b/\(match (s.rw k).kind with|.mp f=>zaV T t/\K (s.row k ⟨b,.mp (yO f a v)⟩)|_=>False)
 | _,_,_=>False
section
variable {P:G0}{T:gg}{G:Ghost}{s:St}{o:Oper}
theorem Qn[aw]{K:St->Prop}(j:o.op=.makeMap t o0)(b:o.dst=n0 d)(l:d<G.n)(f:K (jx s d (.mp λ_=>0) λv=>.own d v)):∃g,K g/\fF P G s o g:=by
 refine⟨_,f,λa w c A Q n=>?_⟩;have⟨E,c⟩:=c;have q:Ext w (w.alloc<|.map #[] 0):=Ext.alloc _ _;refine rM (p:=.own d ((s.rw d).ver+1)) (v:=.map (n0 w.heap.size)) c ?_ (uJ (G:=G) (E:=E) (k:=d) (kd:=.mp λ_=>0) (m:=n0 w.heap.size) (v:=.map (n0 w.heap.size)) q sp) (λk f=>?_) ?_ (by grind)<|λu i h=>n u i ?_;have x:(Instr.makeMap t o0).run P w=.ok _ _:=rfl;simp[execOp,j,x];subst f;simp only[cn,Env.row,aT];exact⟨w.heap.size,#[],0,rfl,.inl c.wok.kept.size,rfl,heap_alloc_new w _,λe y=>by grind,λa=>rfl⟩;refine .own (by simp[Env.row,aT,c.rw]) λ_ _=>by simp[Env.row,aT]
 have z:(E.row d ⟨(E.R d).ver+1,.mp λ_=>0⟩ (n0 w.heap.size)<|.map<|some w.heap.size).R=(s.row d ⟨(s.rw d).ver+1,.mp λ_=>0⟩).rw:=by simp[Env.row,c.rw];rfl
 rwa[z,b]at h
theorem ziY[aw](X:T.Ok P){m y:B0}{K:St->Prop}(Y:o.op=.mapUpdate t x m y)(p:o.dst=o0)(i:ziX T s t (s.ev x) (s.ev m) (s.ev y) K):∃N,K N/\fF P G s o N:=by
 unfold ziX at i;split at i;rename_i k l a v Z D hy;have⟨q,i⟩:=i;split at i;rename_i f F;have⟨H,i⟩:=i;have⟨kt,e,u1,u2,_⟩:=NR X H;refine⟨_,i,λO w j K' Q hK=>?_⟩;have⟨E,j⟩:=j;have R:=j.rw;have r:=j.wok;have I:=dE j.slots x;have S:=dE j.slots m;have U:=dE j.slots y;rw[Z]at I;rw[D]at S;rw[hy]at U;have c:(E.R k).kind=.mp f:=by grind
 have d:(E.R k).ver=l:=by grind
 have g:=r.rows k;unfold cn at g;simp only[c]at g;have⟨b,es,ck,V,h2,W,C,h5⟩:=g;have⟨u,z,A,J⟩:=Qm u1 u2 C h5 a v;have L:O.eval x=.map (n0 b):=by
  cases I with
  | own hv D=>rw[D d (by rw[c];rfl),W]
 have n:OneTurn E w (ChangeMaps.setBlock w b (.map u z)) k ⟨l,.mp (yO f a v)⟩ _ _ :=
  ⟨λb' B M=>ChangeMaps.heap_setBlock_other C _ (λe=>by
   subst e;have:=M V;rw[c]at this;cases this),
   λb' B _=>.inr ⟨B,by rw[c];rfl,λ_=>by rw[c];rfl⟩,by grind,
   λ_ _=>⟨by rw[c];rfl,rfl⟩,λ_ _=>⟨by rw[c];rfl,rfl⟩,λ_=>by rw[<- d];exact r.pos k (by rw[c];rfl),by simp[ChangeMaps.setBlock],rfl,rfl,⟨rfl,λ_=>ab _⟩⟩
 refine qr (fz:=[]) j ?_ n sp (λhl=>?_) p (λa' w' h=>hK a' w' ?_);simp[execOp,Y,L,S.v_eq,U.v_eq,A];simp only[cn,Env.turn,aT];exact⟨b,u,z,V,h2,W,ChangeMaps.heap_setBlock_same C _,J⟩;exact h;grind;grind
end
def BX(rw:S0)(a:Nat):M0->(M0->O0->Prop)->Prop
 | [],K=>K [] []
 | p::b,K=>kK rw p λc f=>lh c=a/\BX rw a b λd e=>K (c++d) (f++e)
theorem ziL{rw:S0}{p:PV}{K:M0->O0->Prop}(d:kK rw p K):∃c f,K c f/\kK rw p (λa b=>a=c/\b=f):=by unfold kK at d ⊢;grind
inductive PureR (rw:Nat->Row) (es:Nat):List PV->List PV->List Nat->Prop
 | nil:PureR rw es [] [] []
 | cons {p:PV} {ps c cs:List PV} {f fs:List Nat} (h:kK rw p (λa b=>a=c/\b=f)) (hl:c.length=es) (hs:PureR rw es ps cs fs):PureR rw es (p::ps) (c++cs) (f++fs)
theorem ziM[aw]{rw:S0}:∀{a:M0}{K:M0->O0->Prop},BX rw d a K->∃c f,K c f/\PureR rw d a c f:=by
 intro a;induction a with
 | nil=>intro K h;exact⟨_,_,h,.nil⟩
 | cons p a b =>intro K h;have⟨c,f,⟨e,h⟩,g⟩:=ziL h;have⟨j,k,h,i⟩:=b h;exact⟨_,_,h,.cons g e i⟩
theorem PureR.sound[aw]{G:Ghost}{E:Env}(x:WOk G E i){c:M0}(h:PureR E.R d n c l):∀{us:List E0},ex i E 0 n us ->
 (lh c)=n.length*d/\(∀u∈us,u.cells.size=d)/\(∀j∈l,j<lent/\∃e y z A,(E.R j).kind=.sli e y z A) /\
  ∀(w':C0)(g:Env),Lasts i w' E g->g.B=E.B->(∀j∈l,∀b,E.rm j=n0 b->w'.heap[b]?=i.heap[b]?/\¬g.L b)->ex w' g.bare g.B c (us.map (·.cells.toList)).flatten:=by
 induction h with
 | nil =>
   intro us k
   have:us=[]:=aL k.1.symm
   subst this
   exact⟨sp,sp,sp,λ_ _ _ _ _=>⟨rfl,λw a=>absurd a sp⟩⟩
 | cons B C L D =>
   intro us k
   cases us with
   | nil=>simp[ex]at k
   | cons u us =>
     have F:Rep i E 0 _ u:=k.2 0 sp sp
     obtain⟨M,N,⟨rfl,rfl⟩,r,O,p,o⟩:=Ju B rfl x F
     obtain⟨H,I,J,K⟩:=D (us:=us) ⟨ss k.1,λw a b=>k.2 (w+1) (ss a)<|ss b⟩
     refine⟨by simp[H,C,fA];omega,λv q=>?_,λj f=>?_,λw' g m s t=>?_⟩
     rcases List.mem_cons.1 q with rfl|q
     omega
     exact I v q
     rcases List.mem_append.1 f with f|f
     exact p j f
     exact J j f
     simp only[dR,iB];exact(o w' g m s λj f=>t j<|List.mem_append.2<|.inl f).append<|K w' g m s λj f=>t j<|List.mem_append.2<|.inr f
def zdi(T:gg)(s:St)(d:Nat)(t:A0)(n:Nat)(parts:Array (Nat×B0))(K:St->Prop):Prop :=
 0<(T t).size/\match (T t).k with
 | .sli e=>0<(T e).size/\n=parts.size/\EP 0 parts.toList=k0/\n*(T e).size<=16777216 /\
  BX s.rw (T e).size (parts.toList.map λx=>s.ev x.2) λc f=>d∉f/\K (((s.freeze f).row d ⟨(s.rw d).ver+1,.sli e (T e).size l0 c⟩).put (n0 d) (.own d ((s.rw d).ver+1)))
 | _=>False
theorem ziN:∀(l:List (Nat×B0)) (k:Nat),EP k l=k0->∀j(h:j<lh l),l[j].1=k+j:=by
 intro l;induction l with
 | nil=>simp
 | cons x b c =>
   intro k a j h;simp[EP]at a;grind
section
variable {P:G0}{T:gg}{G:Ghost}{s:St}{E:Env}{a:Act}{w w':C0}{o:Oper}
theorem zaM[aw](hT:T.Ok P){n:Nat}{K:St->Prop}(ho:o.op=.buildSlice t n h)(A:o.dst=n0 d)(hd:d<G.n)(y:zdi T s d t n h K):∃s',K s'/\fF P G s o s':=by
 obtain⟨ht,y⟩:=y
 split at y
 ·rename_i e a0;obtain⟨he,rfl,L,a7,y⟩:=y;have Y:=by have:=(hT t ht).k;rwa[a0]at this
  obtain⟨i,zz,hi,z,a8,a1,a2⟩:=(hT e he).info;obtain⟨c,f,⟨a3,y⟩,q⟩:=ziM y;refine⟨_,y,λa w g K' Q hK=>?_⟩;obtain⟨E,g⟩:=g;rw[<- g.rw]at q;obtain⟨b1,M,a4,N⟩:=q.sound g.wok (ex.map λx _=>dE g.slots x.2);let us:=h.toList.map λx=>a.eval x.2;have O:(execOp a.eval o).run P w=.ok (.value (.slice (n0 ⟨w.heap.size,0,o0⟩) h.size h.size)) (w.alloc (.cells ((us.map λu:E0=>u.cells.toList).flatten++[]).toArray e)):=by
   have R:¬(16777216<h.size*i.size):=by grind
   have k:(h.map λx=>(x.1,a.eval x.2)).toList=h.toList.map λx=>(x.1,a.eval x.2):=sp;have m:∀S:Array _,Instr.fill (λj=>n0 (j*i.size,i.size)) ((Array.range (h.size*i.size)).map (S[·%S.size]!)) (h.toList.map λx=>(x.1,a.eval x.2))=n0 ((us.map λu:E0=>u.cells.toList).flatten.toArray):=by
    intro S
    obtain⟨out,r,U⟩:=zpT (T e).size us (h.toList.map λx=>(x.1,a.eval x.2)) 0 ((Array.range (h.size*i.size)).map _)
     (by simp[us]) (λj parts=>by
      have:=ziN h.toList 0 L j (ss parts);simpa using this) (λv hv=>M v hv) (by grind)
    have F:out.toList=(us.map λu:E0=>u.cells.toList).flatten:=by simp[U,us,z]
    simp[z]at r ⊢;rw[r,<- F]
   by_cases h0:h.size*i.size=0
   ·have:=m #[];simp[execOp,ho,Instr.buildSlice,run_underlying Y,sizeOf,typeInfo,hi,h0,newRow]at this ⊢;simp_all
   ·simp[execOp,ho,Instr.buildSlice,run_underlying Y,sizeOf,typeInfo,zeroValue,hi,a1,R,h0,k,newRow,m zz.cells]
  have B:(us.map λu:E0=>u.cells.toList).flatten.length=h.size*(T e).size:=by
   have h1:∀(l:List E0),(∀u∈l,u.cells.size=(T e).size)->(l.map λu:E0=>u.cells.toList).flatten.length=l.length*(T e).size:=by
    intro l;induction l with
    | nil=>intro _;simp
    | cons x xs ih =>grind
   rw[h1 us M];simp[us]
  have H:OneTurn E w (w.alloc (.cells ((us.map λu:E0=>u.cells.toList).flatten++[]).toArray e)) d ⟨(s.rw d).ver+1,.sli e (T e).size l0 c⟩ (n0 w.heap.size) (.slice (n0 ⟨w.heap.size,0,o0⟩) h.size h.size) :=
   ⟨λb I _=>(Ext.alloc w _).block b I,λb I _=>.inl (by simp at I;omega),by rw[g.rw];exact cK _,λparts=>by rw[g.rw]at parts;simp at parts,λparts=>by rw[g.rw]at parts;simp at parts,λ_=>jG _,sp,rfl,rfl,⟨rfl,λ_=>by first|exact ab _|exact cK _⟩⟩
  have a5:∀j∈f,j≠d:=λj J e=>a3 (e ▸ J);have W:h.size<=maxLen:=by have:h.size<=h.size*(T e).size:=iC _ he;simp[maxLen];omega
  refine uH (fz:=f) (p:=.own d ((s.rw d).ver+1)) g O H a5 (λhl=>?_) ?_ (by simp[A,hd]) (λa' w' parts=>hK a' w' (by rw[A]at parts;exact parts))
  ·unfold cn;simp only[Env.turn,aT];refine .inr ⟨w.heap.size,h.size,h.size,_,[],rfl,.inl g.wok.kept.size,rfl,(λZ=>heap_alloc_new w Z) _,B,ab _,W,by rw[bh];exact B,?_⟩;refine N _ _ hl rfl λj J b I=>?_;obtain⟨q1,e',b2,b3,cc,q2⟩:=a4 j J;have a6:=(g.wok.block I (by rw[q2];rfl)).1;refine⟨(Ext.alloc w _).block b a6,λhL=>?_⟩;rcases hL with⟨j',r1,C⟩|hX;rotate_left
   ·exact g.wok.apart j b (by rw[q2];rfl) I (g.wok.xs ▸ hX)
   by_cases X:j'=d
   ·subst X;simp only[aT]at r1;simp at r1;omega
   ·simp only[bu _ _ X]at r1 C;have r3:(E.R j').kind.live=true:=by
     unfold oL at C;split at C
     ·exact ES _ C
     ·exact C
    have:=g.wok.inj j j' b (by rw[q2];rfl) (RK.nd_of_live r3) I r1;subst this;unfold oL at C;rw[ae J]at C;simp[Gx,q2,RK.live]at C
  ·exact .own (by simp[Env.turn,aT]) λ_ _=>by simp[Env.turn,aT]
 grind
end
def lZ(T:gg)(rw:S0)(d:List (Nat×A0)):List (Nat×PV)->M0->(M0->Prop)->Prop
 | [],cells,K=>K cells
 | (i,p)::a,cells,K=>match d[i]? with
   | some (b,e)=>fb rw p λc=>lh c=(T e).size/\b+lh c<=lh cells/\lZ T rw d a (nt cells b c) K
   | none=>False
def wD(T:gg)(rw:S0)(b:B0->PV)(t:A0)(parts:Array (Nat×B0))(K:PV->Prop):Prop :=
 0<(T t).size/\match (T t).k with
 | .struct a=>(∀x∈a,0<(T x.2).size)/\lZ T rw a (parts.toList.map λx=>(x.1,b x.2)) ((T t).zero.map PV.v) λc=>K (.ag c)
 | _=>False
section
variable {P:G0}{T:gg}{G:Ghost}{s:St}{E:Env}{a:Act}{w w':C0}{o:Oper}
theorem zaL[aw]{rw:S0}(F:E.R=rw)(H:WOk G E w){fs:List (Nat×A0)}{places:Array (Nat×Nat)}(B:∀i:Nat,places[i]?=(fs[i]?).map λx:Nat×A0=>(x.1,(T x.2).size)) :
 ∀(l:List (Nat×PV)) (e:List (Nat×E0)) (c:M0) (d:Array E0) {K:M0->Prop},lZ T rw fs l c K->l.map (·.1)=e.map (·.1)->ex w E 0 (l.map (·.2)) (e.map (·.2))->ex w E 0 c d.toList ->
  ∃u out,K u/\Instr.fill (places[·]?) d e=n0 out/\ex w E 0 u out.toList:=by
 intro l
 induction l with
 | nil =>
   intro e c d K g m z A
   have:e=[]:=by simp_all
   subst this
   exact⟨c,d,g,rfl,A⟩
 | cons x l I =>
   intro e c d K g m z A
   cases e with
   | nil=>simp at m
   | cons y e =>
     have⟨i,p⟩:=x
     have⟨j,v⟩:=y
     simp only[dR,List.cons.injEq]at m
     have⟨rfl,m⟩:=m
     have J:=z.2 0 sp sp
     have C:ex w E 0 (l.map (·.2)) (e.map (·.2)):=⟨ss z.1,λk a b=>by
      have:=z.2 (k+1) (by grind) (by grind);grind⟩
     unfold lZ at g
     split at g
     rename_i f L D;have⟨c1,⟨M,q,g⟩,h,_⟩:=rr g F H J;have r:v.cells.size=(T L).size:=by rw[<- M,h.1];simp
     have N:lh c=d.size:=by rw[A.1];simp
     have s:=TO v.cells.toList 0 f d (by grind);have n:(v.cells.zipIdx.foldl (λd x=>d.setIfInBounds (f+x.2) x.1) d)=(v.cells.toList.zipIdx.foldl (λd x=>d.setIfInBounds (f+x.2) x.1) d):=by rw[<- Array.foldl_toList,BF]
     have⟨u,out,O,o,t⟩:=I e _ (v.cells.toList.zipIdx.foldl (λd x=>d.setIfInBounds (f+x.2) x.1) d) g m C (by
      rw[s];have:=Ld A h q;simpa using this)
     simp[Instr.fill];grind
     grind
theorem ziK(c:T.Ok P):∀(a:List Field),(∀x∈a.map (λf=>(f.offset,f.type)),0<(T x.2).size)->a.mapM (λf=>(P.info? f.type).map λi=>(f.offset,i.size))=n0 (a.map λf=>(f.offset,(T f.type).size)):=by
 intro a;induction a with
 | nil=>simp
 | cons f a d =>intro h;have⟨i,z,e,g,_⟩:=(c _<|h (f.offset,f.type) sp).info;grind
theorem EO[aw](N:T.Ok P){K:PV->Prop}(W:o.op=.build t h)(m:wD T s.rw s.ev t h K):∃p,K p/\tX P G s o p:=by
 obtain⟨X,m⟩:=m;split at m;rename_i u O;obtain⟨R,m⟩:=m;have L:=(N t X).k;rw[O]at L;obtain⟨d,L,y⟩:=L;obtain⟨i,z,Y,hs,hb,Z,S⟩:=(N t X).info;have A:∃b,K (.ag b)/\lZ T s.rw u (h.toList.map λx=>(x.1,s.ev x.2)) ((T t).zero.map PV.v) (·=b):=by
  have:∀(B:List (Nat×PV)) (c:M0) (K:M0->Prop),lZ T s.rw u B c K->∃b,K b/\lZ T s.rw u B c (·=b):=by
   intro B;induction B with
   | nil=>intro c K parts;exact⟨c,parts,rfl⟩
   | cons x B U =>
     intro c K parts;obtain⟨i,p⟩:=x;unfold lZ at parts ⊢;split at parts;rename_i a0 ft a3;unfold fb at parts ⊢
     grind
     exact parts.elim
  exact this _ _ _ m
 obtain⟨b,hK,n⟩:=A;refine⟨_,hK,λE a w hR hw hx K' Q V=>?_⟩;have I:∀x∈h.toList,Rep w E 0 (s.ev x.2) (a.eval x.2):=λx r=>hx x.2<|by
  simp only[W,Op.operands,wj,dX];exact⟨x,r,rfl⟩
 have g:(d.toList.map λf=>(f.offset,(T f.type).size)).toArray.toList=u.map λx=>(x.1,(T x.2).size):=by rw[<- y];simp
 obtain⟨a4,out,rfl,hf,l⟩:=zaL (T:=T) hR hw (fs:=u) (places:=(d.toList.map λf=>(f.offset,(T f.type).size)).toArray) (λj=>by
  rw[<- pJ,g,fk]) (h.toList.map λx=>(x.1,s.ev x.2)) (h.toList.map λx=>(x.1,a.eval x.2)) ((T t).zero.map PV.v) z.cells n sp (by
  have e1:(h.toList.map λx=>(x.1,s.ev x.2)).map (·.2)=h.toList.map λx=>s.ev x.2:=sp;have e2:(h.toList.map λx=>(x.1,a.eval x.2)).map (·.2)=h.toList.map λx=>a.eval x.2:=sp;rw[e1,e2];exact ex.map λx r=>I x r) (by
  rw[S];exact⟨sp,λj p q=>by simp;exact .v _⟩)
 have k:P.built t (h.map λx=>(x.1,a.eval x.2)).toList=n0 out:=by unfold G0.built;rw[Y,L];simp only[Z];rw[ziK N d.toList<|by rw[y];exact R];have e:(h.map λx=>(x.1,a.eval x.2)).toList=h.toList.map λx=>(x.1,a.eval x.2):=sp;rw[e];exact hf
 have J:(execOp a.eval o).run P w=.ok (.value<|.agg out) w:=by have:=run_build w t (h.map λx=>(x.1,a.eval x.2)) out k;simp[execOp,W,this]
 refine qA J<|V _ _ (Ext.refl w) ?_;have e:out=out.toList.toArray:=sp;rw[e];exact .ag l.1 λi p q=>l.2 i p q;exact m.elim
end
structure LR where
 e:Nat
 sz:Nat
 c:List PV
def XP(a:List LR)(k:Nat):Row:=if lent<=k then(match a[k-lent]? with|some r=>⟨1,.sli r.e r.sz l0 r.c⟩|none=>⟨0,.dead⟩)else⟨0,.dead⟩
def plain(c:M0):Prop:=∀p∈c,NL p=k0
def AM[aw](P:G0)(f:F0)(args:M0)(b:List LR)(a:List M0)(x:E0):Prop :=
 Enters P f/\(∀r∈b,plain r.c)/\a.length=lh b/\(∀c∈a,plain c) /\
  ∀(w:C0)(M:Nat->Nat->Prop)(E:Env)(vals:List E0),WOk ⟨w,M,0,E.R,E.rm,E.rv,E.X⟩ E w->E.R=XP b->ex w E 0 args vals ->
   Calls P f vals.toArray w λe g=>e=.returned x/\∃d,WOk ⟨w,M,0,E.R,E.rm,E.rv,E.X⟩ d g /\
    ∀(i:Nat)(r:LR)(c:M0),b[i]?=n0 r->a[i]?=n0 c->d.R (lent+i)=⟨1,.sli r.e r.sz l0 c⟩
inductive GiveL (js:List (Nat×Nat)):List PV->List PV->Prop
 | nil:GiveL js [] []
 | v {x:Value} {l l':List PV}:GiveL js l l'->GiveL js (.v x::l) (.v x::l')
 | clo {f:FuncId} {l l':List PV}:GiveL js l l'->GiveL js (.clo f []::l) (.clo f []::l')
 | own {k ver:Nat} {l l':List PV} (i:Nat):js[i]?=some (k,ver)->GiveL js l l'->GiveL js (.own k ver::l) (.own (lent+i) 1::l')
 | ag {c c' l l':List PV}:GiveL js c c'->GiveL js l l'->GiveL js (.ag c::l) (.ag c'::l')
def EN(rw:S0):List (Nat×Nat)->List LR->Prop
 | [],[]=>True
 | j::b,r::a=>rw j.1=⟨j.2,.sli r.e r.sz l0 r.c⟩/\EN rw b a
 | _,_=>False
def oK(R:S0)(d:List (Nat×Nat))(b:List LR)(a:List M0)(k:Nat):Row :=
 match d.findIdx? (λj=>j.1==k)with
 | some i=>(match d[i]?,b[i]?,a[i]? with|some j,n0 r,n0 c=>⟨j.2,.sli r.e r.sz l0 c⟩|_,_,_=>R k)
 | none=>R k
def St.wrote(s:St)(js:List (Nat×Nat))(ins:List LR)(outs:List M0):St:={ s with rw:=oK s.rw js ins outs }
def zcG[aw](P:G0)(s:St)(g:F0)(d:M0)(e:Option Nat)(K:St->Prop):Prop :=
 ∃(c:List (Nat×Nat)) (b:List LR) (args:M0) (a:List M0) (x:E0),
  AM P g args b a x/\GiveL c d args/\EN s.rw c b/\(c.map (·.1)).Nodup/\K ((s.wrote c b a).put e (.v x))
def zaJ[aw](P:G0)(s:St)(f:B0)(args:Array B0)(b:Option Nat)(K:St->Prop):Prop :=
 match s.ev f with
 | .clo g a=>zcG P s g (args.toList.map s.ev++a) b K
 | _=>False
theorem EN.at{rw:S0}:∀{d:List (Nat×Nat)}{c:List LR},EN rw d c->lh d=lh c/\∀(i:Nat)(j:Nat×Nat)(r:LR),d[i]?=n0 j->c[i]?=n0 r->rw j.1=⟨j.2,.sli r.e r.sz l0 r.c⟩:=by
 intro d;induction d with
 | nil=>intro c h;cases c with
   | nil=>simp
   | cons _ _=>exact h.elim
 | cons j d g =>
   intro c h;cases c with
   | nil=>exact h.elim
   | cons r c =>
     have⟨k,l⟩:=h;grind
theorem Hg{R:S0}{b:List (Nat×Nat)}{d:List LR}{a:List M0}(h:(b.map (·.1)).Nodup){i:Nat}{j:Nat×Nat}{r:LR}{c:M0}(f:b[i]?=n0 j)(l:d[i]?=n0 r)(m:a[i]?=n0 c) :
 oK R b d a j.1=⟨j.2,.sli r.e r.sz l0 c⟩:=by
 have:b.findIdx? (λx=>x.1==j.1)=n0 i:=by rw[gj];refine⟨(List.getElem?_eq_some_iff.1 f).1,by grind,λk o=>?_⟩;have g:=List.pairwise_iff_getElem.1 h k i (by grind) (by grind) o;grind
 simp_all[oK]
theorem NG{c:List LR}(h:d∉q.map (·.1)):oK m q c j d=m d:=by
 have:q.findIdx? (λx=>x.1==d)=none:=by grind
 rw[oK,this]
theorem oz[aw]{w w':C0}{E E':Env}{f lo':Nat}{d:List E0}(h:plain n)(e:ex w E f n d):ex w' E' lo' n d :=
 ⟨e.1,λi a b=>(ET (h _<|bx a)<|e.2 i a b).1⟩
section
variable {P:G0}{G:Ghost}{s:St}
def Env.give(E:Env)(js:List (Nat×Nat))(ins:List LR)(B:Nat):Env :=
 let R:=XP ins
 let rm:=λk=>if lent<=k then(js[k-lent]?).bind λj=>E.rm j.1 else o0
 { R:=R,rm:=rm,rv:=λk=>if lent<=k then(match js[k-lent]? with|some j=>E.rv j.1|none=>default)else default,L:=Lf (λ_=>False) R rm,B:=B,X:=λ_=>False }
theorem VU{ins:List LR}{k:Nat}(h:(XP ins k).kind.nd=k0):lent<=k/\∃r,ins[k-lent]?=n0 r/\XP ins k=⟨1,.sli r.e r.sz l0 r.c⟩:=by unfold XP at h ⊢;by_cases a:lent<=k;rw[ae a]at h ⊢;split at h;grind;cases h;rw[ac a]at h;cases h
theorem Hh{ins:List LR}{i:Nat}{r:LR}(h:ins[i]?=n0 r):XP ins (lent+i)=⟨1,.sli r.e r.sz l0 r.c⟩:=by simp_all[XP]
def zgX(E:Env)(a:List (Nat×Nat))(k b:Nat):Prop:=∃j,a[k-lent]?=n0 j/\E.rm j.1=n0 b
theorem zpS[aw]{E:Env}(B:WOk G E i){a:List LR}(O:EN E.R q a)(P:(q.map (·.1)).Nodup)(Q:∀r∈a,plain r.c) :
 WOk ⟨i,zgX E q,0,(E.give q a i.heap.size).R,(E.give q a i.heap.size).rm,(E.give q a i.heap.size).rv,(E.give q a i.heap.size).X⟩ (E.give q a i.heap.size) i:=by
 have⟨l,u⟩:=O.at
 have x:∀(n:Nat)(r:LR),a[n]?=n0 r->∃j,q[n]?=n0 j/\E.R j.1=⟨j.2,.sli r.e r.sz l0 r.c⟩:=λn r g=>by
  have c:n<lh q:=by rw[l];exact(List.getElem?_eq_some_iff.1 g).1
  exact⟨_,aN c,u _ _ _ (aN c) g⟩
 have C:∀k b,zgX E q k b->¬aw.Gl b:=λk b⟨j,w,R⟩=>by
  have c:k-lent<lh a:=by rw[<- l];exact(List.getElem?_eq_some_iff.1 w).1
  exact B.ngl R (by rw[u _ _ _ w (aN c)];rfl)
 have o:∀(k:Nat)(r:LR),lent<=k->a[k-lent]?=n0 r->∃j,q[k-lent]?=n0 j/\E.R j.1=⟨j.2,.sli r.e r.sz l0 r.c⟩:=λk r _ g=>x _ r g
 refine⟨λk=>?_,λk D b S U V W=>?_,λb=>mV,λk h=>?_,rfl,rfl,⟨λb h=>h.elim,C,B.held⟩,λk b _ _ h=>h,⟨rfl,rfl,OutLe.refl _,ab _,λ_ _ _=>rfl⟩,λk=>⟨ab _,λ_ h=>⟨h,rfl,λh=>⟨h,rfl⟩⟩⟩⟩
 ·show cn i (E.give q a i.heap.size) _ k;unfold cn;show match (XP a k).kind with|.dead=>True|.nil=>_|.box t cells=>_|.sli e sz _ cells=>_|.tab e cells=>_|.mp f=>_
  cases F:(XP a k).kind with
  | dead=>trivial
  | _ =>
    have⟨m,r,g,H⟩:=VU (ins:=a) (k:=k) (by rw[F];rfl);rw[H]at F;cases F
    all_goals
     have⟨j,w,d⟩:=o k r m g
     have s:=B.rows j.1
     unfold cn at s
     rw[d]at s
     simp only at s
     have em:(E.give q a i.heap.size).rm k=E.rm j.1:=by simp[Env.give,m,w]
     have X:(E.give q a i.heap.size).rv k=E.rv j.1:=by simp[Env.give,m,w]
     rw[em,X]
     rcases s with s|⟨b,n,cap,Y,y,M,h2,Z,h4,h5,h6,h7,h8,h9⟩
     ·exact .inl s
     ·exact .inr ⟨b,n,cap,Y,y,M,.inr ⟨m,j,w,M⟩,Z,h4,h5,h6,h7,h8,oz (Q r (my g)) h9⟩
 ·have⟨m,r,g,_⟩:=VU (ins:=a) (k:=k) S;have⟨z,r',I,_⟩:=VU (ins:=a) (k:=D) U;have⟨j,w,d⟩:=o k r m g;have⟨N,A,p⟩:=o D r' z I;have J:E.rm j.1=n0 b:=by simpa[Env.give,m,w]using V
  have K:E.rm N.1=n0 b:=by simpa[Env.give,z,A]using W
  have:=B.inj j.1 N.1 b (by rw[d];rfl) (by rw[p];rfl) J K;have c:=(List.getElem?_eq_some_iff.1 w);have L:=(List.getElem?_eq_some_iff.1 A);have⟨a1,a2⟩:=c;have⟨b1,b2⟩:=L;have:k-lent=D-lent:=(gd (h₀:=by simp;omega) (h₁:=by simp;omega) P).1 (by simp[a2,b2,this]);omega
 ·have⟨m,r,g,H⟩:=VU (ins:=a) (k:=k) h;show 0<(XP a k).ver;rw[H];exact Nat.one_pos
theorem zlY[aw]{E:Env}{d:List LR}(r:EN E.R q d)(B:Nat){args:M0}(I:GiveL q n args):∀{vals:List E0},ex i E 0 n vals->ex i (E.give q d B) 0 args vals:=by
 have⟨o,s⟩:=r.at;induction I with
 | nil=>intro vals h;exact⟨h.1,λw a=>absurd a sp⟩
 | @v x l t _ p =>
   intro vals h;cases vals with
   | nil=>simp[ex]at h
   | cons y m =>
     have e:=h.2 0 sp sp;simp only[cL]at e;have:=e.v_eq;subst this;have g:=p (vals:=m) ⟨ss h.1,λw a b=>h.2 (w+1) (ss a) (ss b)⟩;refine⟨by simp[g.1],λw a b=>?_⟩;cases w with
     | zero=>exact .v _
     | succ w=>exact g.2 w (ss a) (ss b)
 | @clo f l t _ p =>
   intro vals h;cases vals with
   | nil=>simp[ex]at h
   | cons y m =>
     have e:=h.2 0 sp sp;simp only[cL]at e;have g:=p (vals:=m) ⟨ss h.1,λw a b=>h.2 (w+1) (ss a) (ss b)⟩;refine⟨by simp[g.1],λw a b=>?_⟩;cases w with
     | zero=>cases e with|clo u _=>exact .clo u (λw h=>absurd h sp)
     | succ w=>exact g.2 w (ss a) (ss b)
 | @own k J l t w z _ p =>
   intro vals h;cases vals with
   | nil=>simp[ex]at h
   | cons y m =>
     have e:=h.2 0 sp sp;simp only[cL]at e;have g:=p (vals:=m) ⟨ss h.1,λw a b=>h.2 (w+1) (ss a) (ss b)⟩;refine⟨by simp[g.1],λA a b=>?_⟩;cases A with
     | zero =>
       have K:w<lh d:=by grind
       have G:d[w]?=n0 d[w]:=aN K;have j:=s w _ _ z G;cases e with
       | own N L =>refine .own ?_ λ_ _=>?_;show 1<=(XP d (lent+w)).ver;rw[Hh G];exact ab _;have C:=L (by rw[j]) (by rw[j];rfl);show y=_;rw[C];simp[Env.give,z]
     | succ A=>exact g.2 A (ss a) (ss b)
 | @ag c O l t _ _ D F =>
   intro vals h;cases vals with
   | nil=>simp[ex]at h
   | cons y m =>
     have e:=h.2 0 sp sp;simp only[cL]at e;have g:=F (vals:=m) ⟨ss h.1,λw a b=>h.2 (w+1) (ss a) (ss b)⟩;refine⟨by simp[g.1],λw a b=>?_⟩;cases w with
     | zero =>
       cases e with
       | @ag _ _ _ M u r =>have H:=D (vals:=M) ⟨u,r⟩;exact .ag H.1 H.2
     | succ w=>exact g.2 w (ss a) (ss b)
theorem zdh[aw]{E E':Env}{w w':C0}(hw:WOk G E w){js:List (Nat×Nat)}{ins:List LR}{outs:List M0}(hh:EN E.R js ins)(hn:(js.map (·.1)).Nodup)(hlo:lh outs=lh ins)(hpl:∀c∈outs,plain c)(hw':WOk ⟨w,zgX E js,0,(E.give js ins w.heap.size).R,(E.give js ins w.heap.size).rm,(E.give js ins w.heap.size).rv,(E.give js ins w.heap.size).X⟩ E' w')(hE:∀(i:Nat)(r:LR)(c:M0),ins[i]?=n0 r->outs[i]?=n0 c->E'.R (lent+i)=⟨1,.sli r.e r.sz l0 c⟩){a:Act}(hs:SimE G E s a w):rt G (s.wrote js ins outs) a w':=by
 obtain⟨hlen,hat⟩:=hh.at
 let E2:Env:={ R:=oK E.R js ins outs,rm:=E.rm,rv:=E.rv,L:=Lf E.X (oK E.R js ins outs) E.rm,B:=E.B,X:=E.X }
 have hin:∀k,k∈js.map (·.1)->∃(i:Nat)(j:Nat×Nat)(r:LR)(c:M0),js[i]?=n0 j/\ins[i]?=n0 r/\outs[i]?=n0 c/\j.1=k/\E.R k=⟨j.2,.sli r.e r.sz l0 r.c⟩/\oK E.R js ins outs k=⟨j.2,.sli r.e r.sz l0 c⟩:=by intro k hk;obtain⟨j,hj,rfl⟩:=List.mem_map.1 hk;obtain⟨i,hi,rfl⟩:=bV hj;have h1:js[i]?=n0 js[i]:=aN hi;have h2:ins[i]?=n0 ins[i]:=aN om;have h3:outs[i]?=n0 outs[i]:=aN om;exact⟨i,_,_,_,h1,h2,h3,rfl,hat i _ _ h1 h2,Hg hn h1 h2 h3⟩
 have ht:Turn G E E2 w w' (·∈js.map (·.1)):=by refine⟨rfl,rfl,rfl,λk hk=>⟨NG hk,rfl,rfl⟩,λb hb hD=>?_,λk b hD hb hnd=>?_,λk hD=>?_,λk hD _ hs=>?_,λk hD _ hs=>?_,λk hD hs=>?_,λk k' b hD hD' h1 h2 e1 e2=>?_,hw'.kept.size,hw'.kept.os,hw'.kept.tape,hw'.kept.output⟩;refine hw'.kept.block b hb λk0 hM=>?_;obtain⟨j,hj0,hjb⟩:=hM;have hj:=my hj0;have hmem:j.1∈js.map (·.1):=List.mem_map.2 ⟨j,hj,rfl⟩;obtain⟨i,j',r,c,_,_,_,_,h5,_⟩:=hin _ hmem;have:=hD j.1 hmem hjb;rw[h5]at this;cases this;obtain⟨i,j,r,c,_,_,_,_,h5,h6⟩:=hin k hD;exact .inr ⟨hb,by rw[h5];rfl,λ_=>by rw[h5];rfl⟩;obtain⟨i,j,r,c,_,_,_,_,h5,h6⟩:=hin k hD;show _<=(oK E.R js ins outs k).ver;rw[h5,h6];exact ab _;obtain⟨i,j,r,c,_,_,_,_,h5,h6⟩:=hin k hD;exact⟨by rw[h5];rfl,rfl⟩;obtain⟨i,j,r,c,_,_,_,_,h5,h6⟩:=hin k hD;exact⟨by rw[h5];rfl,rfl⟩;obtain⟨i,j,r,c,_,_,_,_,h5,h6⟩:=hin k hD;have:=hw.pos k (by rw[h5];rfl);rw[h5]at this;show 0<(oK E.R js ins outs k).ver;rw[h6];exact this;obtain⟨_,_,_,_,_,_,_,_,h5,_⟩:=hin k hD;obtain⟨_,_,_,_,_,_,_,_,h5',_⟩:=hin k' hD';exact hw.inj k k' b (by rw[h5];rfl) (by rw[h5'];rfl) e1 e2
 have hrows:∀k,k∈js.map (·.1)->cn w' E2 G.C k:=by
  intro k hk;obtain⟨i,j,r,c,h1,h2,h3,h4,h5,h6⟩:=hin k hk;have hrow':=hw'.rows (lent+i);unfold cn at hrow';rw[hE i r c h2 h3]at hrow';simp only at hrow';have hpin:=(hw'.pin (lent+i)).2 (by
   rw[hE i r c h2 h3];show 1=(XP ins (lent+i)).ver;rw[Hh h2]) (by rw[hE i r c h2 h3];rfl)
  obtain⟨_,q1,q2⟩:=hpin;have q2:=(q2 (by rw[hE i r c h2 h3];rfl)).2;have q1':E'.rm (lent+i)=E.rm k:=by rw[q1];simp[Env.give,h1,h4]
  have q2':E'.rv (lent+i)=E.rv k:=by rw[q2];simp[Env.give,h1,h4]
  rw[q1',q2']at hrow';unfold cn;show match (oK E.R js ins outs k).kind with|.dead=>True|.nil=>_|.box t cells=>_|.sli e sz _ cells=>_|.tab e cells=>_|.mp f=>_
  rw[h6];rcases hrow' with hr|⟨b,n,cap,vs,rest,g1,g2,g3,g4,g5,g6,g7,g8,g9⟩
  exact .inl hr;have hnd:(E.R k).kind.nd=true:=by rw[h5];rfl
  exact .inr ⟨b,n,cap,vs,rest,g1,(hw.block g1 hnd).2,g3,g4,g5,g6,g7,g8,oz (hpl c (my h3)) g9⟩
 have key:=ht.sim hs hrows
 have e:({ s with rw:=E2.R }:St)=s.wrote js ins outs:=by show({ s with rw:=oK E.R js ins outs }:St)=_;rw[hs.rw];rfl
 exact⟨_,e ▸ key⟩
theorem zaK[aw]{o:Oper}{K:St->Prop}(L:o.op=.call r)(M:r.callee=.value x)(N:∀d,o.dst=n0 d->d<G.n)(j:zaJ P s x r.args o.dst K) :
 ∃H,K H/\fF P G s o H:=by
 unfold zaJ at j
 split at j
 rename_i g l q;have⟨c,m,args,I,f,t,O,R,J,j⟩:=j;refine⟨_,j,λa w⟨E,k⟩Y Q S=>?_⟩;have h:=dE k.slots x;rw[q]at h;generalize u:a.eval x=vf at h;cases h with
 | @clo _ _ _ _ U V y =>
   have⟨n,z,A,B,b⟩:=t;have i:EN E.R c m:=by rwa[k.rw]
   have p:ex w E 0 (r.args.toList.map _++l) _ :=
    ex.append (ex.map λf _=>dE k.slots f) ⟨V,y⟩
   have b:=b w _ _ _ (zpS k.wok i J z) rfl<|zlY i _ O p;rw[Oper.wp,EU L M u n];refine b.mono λe Z⟨W,E',C,D⟩=>?_;subst W;have⟨X,F⟩:=zdh k.wok i J A B C D k;exact S _ _ ⟨X,F.put N<|.v f⟩
 grind
end
def dq(k j:Nat):Nat:=bz k (j+1)
theorem fX(j:Nat):dq b j=b+1000*(j+1):=rfl
theorem gf[aw](k j:Nat):dq k j%1000=k%1000:=by simp[fX]
theorem tx[aw](k j a:Nat):(dq k j=dq k a)=(j=a):=by simp[fX];omega
theorem Aw[aw](n k j:Nat)(h:n<k+1000):(n=dq k j)=False:=aX<|by rw[fX];omega
theorem Ax[aw](n k j:Nat)(h:n<k+1000):(dq k j=n)=False:=aX<|by rw[fX];omega
theorem yF[aw]{j:Nat}(h:d<1000)(a:j<998):dq d j<lent:=by simp[fX,lent];omega
def cy(k:Nat)(p:O0):M0:=p.map λj=>.own (dq k j) 1
theorem bP(p:O0):lh (cy b p)=lh p:=by simp[cy]
theorem zpQ{x:PV}(a:d<lh n):nt n d [x]=n.set d x:=rfl
structure TabIs (rw:Nat->Row) (k v e e2:Nat) (p:List Nat) (rows:List (List PV)):Prop where
 top:rw k=⟨v,.tab e (cy k p)⟩
 len:p.length=rows.length
 row:∀i,i<p.length->rw (dq k (p.getD i 0))=⟨1,.sli e2 1 false (rows.getD i [])⟩
def CC(rows:List M0):Prop:=∀i,i<lh rows->plain (lg rows i [])
def qM(e e2:Nat)(rows:List M0)(k:Nat):Row :=
 if k=lent then⟨1,.tab e (cy lent (lc (lh rows)))⟩
 else if lent<k/\(k-lent)%1000=0/\(k-lent)/1000-1<rows.length then⟨1,.sli e2 1 l0 (lg rows ((k-lent)/1000-1) [])⟩else⟨0,.dead⟩
section
variable {e e2:Nat}{rows:List M0}
theorem yG[aw](i:Nat):lent<dq lent i/\(dq lent i-lent)%1000=0/\(dq lent i-lent)/1000-1=i:=by simp[fX]
theorem jj:qM e e2 rows lent=⟨1,.tab e (cy lent (lc (lh rows)))⟩:=rfl
theorem lY[aw]{i:Nat}(h:i<lh rows):qM e e2 rows (dq lent i)=⟨1,.sli e2 1 l0 (lg rows i [])⟩:=by have⟨a,b,c⟩:=yG i;rw[qM,ac om,ae ⟨a,b,om⟩,c]
theorem VS(h:d<lent):qM e e2 rows d=⟨0,.dead⟩:=by unfold qM;grind
theorem yH[aw](h:(qM e e2 rows d).kind.nd=k0):d=lent\/∃i,i<lh rows/\d=dq lent i:=by unfold qM at h;split at h;grind;split at h;rename_i b a;exact .inr ⟨_,a.2.2,by rw[fX];omega⟩;cases h
theorem zta[aw]:TabIs (qM e e2 rows) lent 1 e e2 (lc (lh rows)) rows :=
 ⟨jj,sp,λi b=>by
  have:lg (lc<|lh rows) i 0=i:=by grind
  rw[this];exact lY (ss b)⟩
end
inductive TR where
 | self
 | selfx (x:Value)
 | rv (r:RV)
def TR.ok(N:Nat)(b:E0)(c:C0)(v:E0)(a:List (E0×Option Nat)):TR->Prop
 | .self=>v=b
 | .selfx x=>v=.tuple #[b,x]
 | .rv r=>OutR c (Env.out N (blk a)) r v a/\(blk a).Nodup
def AT[aw](P:G0)(f:F0)(args:M0)(e e2:Nat)(rows rows':List M0)(res:TR):Prop :=
 Enters P f/\CC rows/\CC rows'/\rows'.length=lh rows /\
  ∀(w:C0)(M:Nat->Nat->Prop)(E:Env)(vals:List E0),WOk ⟨w,M,0,E.R,E.rm,E.rv,E.X⟩ E w->E.R=qM e e2 rows->ex w E 0 args vals ->
   Calls P f vals.toArray w λc a=>∃(b:Env) (q:O0) (v:E0) (d:List (E0×Option Nat)),c=.returned v/\WOk ⟨w,M,0,E.R,E.rm,E.rv,E.X⟩ b a /\
    TabIs b.R lent 1 e e2 q rows'/\q.Perm (lc (lh rows))/\res.ok w.heap.size (E.rv lent) a v d
def pA(R:S0)(k v e e2:Nat)(p:O0)(rows:List M0)(j:Nat):Row :=
 if j=k then⟨v,.tab e (cy k p)⟩else match p.findIdx? (λx=>dq k x==j)with|some i=>⟨1,.sli e2 1 l0 (lg rows i [])⟩|none=>R j
def St.tabbed(s:St)(k v e e2:Nat)(p:O0)(rows:List M0):St:={ s with rw:=pA s.rw k v e e2 p rows }
section
variable {R:S0}{k v e e2:Nat}{p:O0}{rows:List M0}
theorem ig[aw](k x:Nat):dq k x≠k:=by simp[fX]
theorem iZ[aw]{x y:Nat}(h:dq d x=dq d y):x=y:=by rw[fX,fX]at h;omega
theorem yI:pA R k v e e2 p rows k=⟨v,.tab e (cy k p)⟩:=by rw[pA,ae rfl]
theorem yJ[aw](b:p.Nodup)(h:d<lh p):pA R k v e e2 p rows (dq k (lg p d 0))=⟨1,.sli e2 1 l0 (lg rows d [])⟩:=by
 have a:lg p d 0=p[d]:=by grind
 have c:p.findIdx? (λx=>dq k x==dq k (lg p d 0))=n0 d:=by rw[gj];refine⟨h,by grind,λj i=>?_⟩;simp only[a,aK];exact λe=>(List.pairwise_iff_getElem.1 b j d om h i)<|iZ e
 rw[pA,ac<|ig k _,c]
theorem CD(a:d≠k)(b:∀x∈p,d≠dq k x):pA R k v e e2 p rows d=R d:=by
 have c:p.findIdx? (λx=>dq k x==d)=none:=by grind
 simp[pA,a,c]
end
def TR.next(s:St)(k v:Nat)(a:Option Nat)(K:St->Prop):TR->Prop
 | .self=>K (s.put a (.own k v))
 | .selfx x=>K (s.put a (.tup [.own k v,.v x]))
 | .rv r=>match a with|some d=>d%1000≠k%1000/\K (br s d r)|none=>K s
def zpR[aw](P:G0)(s:St)(g:F0)(a:M0)(b:Option Nat)(K:St->Prop):Prop :=
 ∃(k v e e2:Nat) (p:O0) (rows rows':List M0) (args:M0) (res:TR),
  AT P g args e e2 rows rows' res/\GiveL [(k,v)] a args/\TabIs s.rw k v e e2 p rows/\p.Nodup /\
  ∀c:O0,c.Perm p->res.next (s.tabbed k v e e2 c rows') k v b K
def Kh(k:Nat)(p:O0)(j:Nat):Nat:=if j=lent then k else dq k (lg p ((j-lent)/1000-1) 0)
theorem NE(p:O0):Kh b p lent=b:=rfl
theorem NF[aw](k:Nat)(p:O0)(i:Nat):Kh k p (dq lent i)=dq k (lg p i 0):=by have⟨b,c,a⟩:=yG i;rw[Kh,ac om,a]
def Env.giveT(E:Env)(k:Nat)(p:O0)(R:S0)(B:Nat):Env :=
 { R:=R,rm:=λj=>if lent<=j then E.rm (Kh k p j)else o0,rv:=λj=>if lent<=j then E.rv (Kh k p j)else default,L:=Lf (λ_=>False) R (λj=>if lent<=j then E.rm (Kh k p j)else o0),B:=B,X:=λ_=>False }
def GZ(E:Env)(k:Nat)(p:O0)(j b:Nat):Prop:=(j=lent/\E.rm k=n0 b)\/∃i,i<lh p/\j=dq lent i/\E.rm (dq k (lg p i 0))=n0 b
section
variable {P:G0}{G:Ghost}{s:St}{E:Env}{w:C0}{k v e e2 B:Nat}{p:O0}{rows rows':List M0}{R:S0}
theorem VT:(E.giveT k p R B).R=R:=rfl
theorem pM[aw]:(E.giveT k p R B).rm lent=E.rm k/\(E.giveT k p R B).rv lent=E.rv k:=by simp[Env.giveT,NE]
theorem uG[aw](i:Nat):(E.giveT k p R B).rm (dq lent i)=E.rm (dq k (lg p i 0))/\(E.giveT k p R B).rv (dq lent i)=E.rv (dq k (lg p i 0)):=by simp[Env.giveT,dY<|(yG i).1,NF]
theorem Hf(h:d<lh l):lg l d 0∈l:=by
 grind
theorem rL(h:d∈l):∃i,i<lh l/\l.getD i 0=d:=by obtain⟨i,a,rfl⟩:=bV h;exact⟨i,a,by grind⟩
theorem zlX[aw](r:WOk G E w)(f:TabIs E.R k v e e2 p rows)(U:p.Nodup)(V:CC rows) :
 WOk ⟨w,GZ E k p,0,(E.giveT k p (qM e e2 rows) w.heap.size).R,(E.giveT k p (qM e e2 rows) w.heap.size).rm,(E.giveT k p (qM e e2 rows) w.heap.size).rv,(E.giveT k p (qM e e2 rows) w.heap.size).X⟩ (E.giveT k p (qM e e2 rows) w.heap.size) w:=by
 have s:∀j,(qM e e2 rows j).kind.nd=k0->(E.R (Kh k p j)).kind.nd=k0/\lent<=j/\((j=lent/\Kh k p j=k)\/∃i,i<lh rows/\j=dq lent i/\Kh k p j=dq k (lg p i 0)):=λj t=>by rcases yH t with rfl|⟨i,d,rfl⟩;exact⟨by rw[NE,f.top];rfl,ab _,.inl ⟨rfl,NE k p⟩⟩;exact⟨by rw[NF,f.row i (by rw[f.len];exact d)];rfl,dY (yG i).1,.inr ⟨i,d,rfl,NF k p i⟩⟩
 have z:∀j b,GZ E k p j b->¬aw.Gl b:=λj b h=>by rcases h with⟨_,h⟩|⟨i,d,_,h⟩;exact r.ngl h (by rw[f.top];rfl);exact r.ngl h (by rw[f.row i d];rfl)
 refine⟨λj=>?_,λj P b W X A e2=>?_,λb=>mV,λj h=>?_,rfl,rfl,⟨λb h=>h.elim,z,r.held⟩,λk b _ _ h=>h,⟨rfl,rfl,OutLe.refl _,ab _,λ_ _ _=>rfl⟩,λj=>⟨ab _,λ_ h=>⟨h,rfl,λh=>⟨h,rfl⟩⟩⟩⟩
 by_cases t:(qM e e2 rows j).kind.nd=k0
 rcases yH t with rfl|⟨i,d,rfl⟩
 have a:=r.rows k;unfold cn at a ⊢;rw[f.top]at a;have B:(E.giveT k p (qM e e2 rows) w.heap.size).R lent=⟨1,.tab e (cy lent (lc (lh rows)))⟩:=jj (e2:=e2);rw[B,pM.1,pM.2];rcases a with⟨m,C,o⟩|⟨b,n,cap,D,l,m,C,o,F,H,I,J,K,x⟩
 refine .inl ⟨m,C,aL ?_⟩;rw[bP,bp,<- f.len,<- bP k p,o];rfl
 refine .inr ⟨b,n,cap,D,l,m,.inr ⟨ab _,.inl ⟨rfl,m⟩⟩,o,F,H,I,J,K,?_,λi Y Z=>?_⟩
 rw[bP,bp,<- f.len,<- bP k p];exact x.1
 have d:i<lh rows:=by simpa[bP]using Y
 have c:i<lh p:=by rw[f.len];exact d
 have Q:=x.2 i (by rw[bP];exact c) Z;have q1:(cy k p)[i]'(by rw[bP];exact c)=.own (dq k (lg p i 0)) 1:=by simp[cy,lg,c]
 have q2:(cy lent (lc (lh rows)))[i]=.own (dq lent i) 1:=by simp[cy]
 rw[q1]at Q;rw[q2];cases Q with
 | own hv hx =>
   have R:=f.row i c;refine .own ?_ λ_ _=>?_
   have m:1<=(qM e e2 rows (dq lent i)).ver:=by rw[lY d];exact ab _
   exact m
   rw[(uG i).2];exact hx (by rw[R]) (by rw[R];rfl)
 have c:i<lh p:=by rw[f.len];exact d
 have a:=r.rows (dq k (lg p i 0));unfold cn at a ⊢;rw[f.row i c]at a;have B:(E.giveT k p (qM e e2 rows) w.heap.size).R (dq lent i)=⟨1,.sli e2 1 l0 (lg rows i [])⟩:=by rw[VT];exact lY d
 rw[B,(uG i).1,(uG i).2];rcases a with h|⟨b,n,cap,D,l,m,C,o,F,H,I,J,K,x⟩
 exact .inl h
 have hM:GZ E k p (dq lent i) b:=.inr ⟨i,c,rfl,m⟩;have L:lent<=dq lent i:=dY (yG i).1;have M:=oz (w':=w) (E':=(E.giveT k p (qM e e2 rows) w.heap.size).bare) (lo':=(E.giveT k p (qM e e2 rows) w.heap.size).B) (V i d) x;refine Or.inr ⟨b,n,cap,D,l,m,?_,o,F,H,I,J,K,M⟩;exact Or.inr ⟨L,hM⟩
 unfold cn;have:(E.giveT k p (qM e e2 rows) w.heap.size).R j=qM e e2 rows j:=rfl;rw[this];cases hk:(qM e e2 rows j).kind with
 | dead=>trivial
 | _=>rw[hk]at t;exact absurd rfl t
 have⟨a1,a2,a3⟩:=s j W;have⟨b1,b2,S⟩:=s P X;have N:E.rm (Kh k p j)=n0 b:=by simpa[Env.giveT,a2]using A
 have O:E.rm (Kh k p P)=n0 b:=by simpa[Env.giveT,b2]using e2
 have g:=r.inj _ _ b a1 b1 N O;rcases a3 with⟨rfl,c1⟩|⟨i,d,rfl,c1⟩
 rcases S with⟨rfl,d1⟩|⟨y,u,rfl,d1⟩
 rfl
 rw[c1,d1]at g;exact absurd g.symm (ig k _)
 rcases S with⟨rfl,d1⟩|⟨y,u,rfl,d1⟩
 rw[c1,d1]at g;exact absurd g (ig k _)
 rw[c1,d1]at g;have o:=iZ g;have c:i<lh p:=by rw[f.len];exact d
 have q:y<lh p:=by rw[f.len];exact u
 have A:lg p i 0=p[i]:=by simp[lg,c]
 have e2:lg p y 0=p[y]:=by simp[lg,q]
 rw[A,e2]at o;rw[(gd (h₀:=c) (h₁:=q) U).1 o]
 show 0<(qM e e2 rows j).ver;rcases yH h with rfl|⟨i,d,rfl⟩
 rw[jj];exact Nat.one_pos
 rw[lY d];exact Nat.one_pos
theorem ziJ[aw](g:TabIs E.R k v e e2 p rows)(B:Nat){args:M0}(C:GiveL [(k,v)] n args):∀{vals:List E0},ex w E 0 n vals->ex w (E.giveT k p (qM e e2 rows) B) 0 args vals:=by
 induction C with
 | nil=>intro vals h;exact⟨h.1,λi a=>absurd a sp⟩
 | @v x l q _ m =>
   intro vals h;cases vals with
   | nil=>simp[ex]at h
   | cons y j =>
     have:=(h.2 0 sp sp).v_eq;subst this;have g:=m ⟨ss h.1,λi a b=>h.2 (i+1) (ss a)<|ss b⟩;refine⟨by simp[g.1],λi a b=>?_⟩;cases i with
     | zero=>exact .v _
     | succ i=>exact g.2 i _<|ss b
 | @clo f l q _ m =>
   intro vals h;cases vals with
   | nil=>simp[ex]at h
   | cons y j =>
     have g:=m ⟨ss h.1,λi a b=>h.2 (i+1) (ss a)<|ss b⟩;refine⟨by simp[g.1],λi a b=>?_⟩;cases i with
     | zero=>cases (h.2 0 sp sp) with|clo r _=>exact .clo r<|λi h=>absurd h sp
     | succ i=>exact g.2 i _<|ss b
 | @own J D l q i s _ m =>
   intro vals h;cases vals with
   | nil=>simp[ex]at h
   | cons y j =>
     have o:=m ⟨ss h.1,λi a b=>h.2 (i+1) (ss a)<|ss b⟩;refine⟨by simp[o.1],λt a b=>?_⟩;cases t with
     | zero =>
       have F:i=0:=by grind
       subst F;simp[Prod.mk.injEq]at s;have⟨rfl,rfl⟩:=s;cases (h.2 0 sp sp) with
       | own K G =>refine .own ?_ λ_ _=>?_;exact ab _;exact G (by rw[g.top])<|by rw[g.top];rfl
     | succ t=>exact o.2 t _<|ss b
 | @ag c L l q _ _ u z =>
   intro vals h;cases vals with
   | nil=>simp[ex]at h
   | cons y j =>
     have o:=z ⟨ss h.1,λi a b=>h.2 (i+1) (ss a)<|ss b⟩;refine⟨by simp[o.1],λi a b=>?_⟩;cases i with
     | zero =>
       cases (h.2 0 sp sp) with
       | @ag _ _ _ H r I =>have A:=u ⟨r,I⟩;exact .ag A.1 A.2
     | succ i=>exact o.2 i _<|ss b
end
end Go.Abs
