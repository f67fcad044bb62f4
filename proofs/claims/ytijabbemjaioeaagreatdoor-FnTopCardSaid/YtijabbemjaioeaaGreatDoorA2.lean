/- DERIVED by an AI agent. -/
import Derived.Test.YtijabbemjaioeaaGreatDoorA1
set_option linter.all false
namespace Go.Abs
open Bool renaming true→k0,false→l0
open Option renaming some→n0,none→o0
open Go renaming TypeId→A0,Operand→B0,World→C0,Value→E0,Program→G0
open List renaming getD→lg,length→lh
variable (b:C0)(c:Nat){t:A0}{p:PV}{x:E0}{d:Nat}{e:PV->Prop}{A:Bool->Nat->M0->Prop}{Q:Exit->Act->C0->Prop}{f:M0}{j:Option B0}{g:C0}{h:Act->C0->Prop}{i:List E0}{k:Ghost}{m:Bool}{M:B0->PV}{l:Oper}{n:Int}{q:Int->Prop}{D:l1}{r:IntKind}{u:B0}{y:BinOp}{z:UnOp}{C:Prop}{F:Call}{H:Act}
section
variable {P:G0}{T:gg}{w:C0}{E:Env}{G:Ghost}{rw:S0}{K:PV->Prop}
theorem ziS[aw](i:T.Ok P){d:BinOp}{t:A0}{x y:B0}{p q:PV}{a b:E0}(c:iu T d t p q K)(e:Rep w E 0 p a)(f:Rep w E 0 q b) :
 ∃r,K r/\∃v,(do eqGuard d t x y a b;binOp d t a b:Sem E0).run P w=.ok v w/\Rep w E 0 r v:=by
 unfold iu at c
 split at c
 have⟨g,c⟩:=c;have:=e.v_eq;subst this;have:=f.v_eq;subst this;refine⟨_,c,_,?_,.v _⟩;rw[Sem.run_bind,Kl];simp only[Result.andThen_ok];exact zds w _ _ _ _ _ _ g
 have⟨g,c⟩:=c;have:=e.v_eq;subst this;have:=f.v_eq;subst this;split at c
 rename_i r j;refine⟨_,c,_,?_,.v _⟩;rw[Sem.run_bind,CG];simp only[Result.andThen_ok];exact zdt w _ _ _ _ _ g j
 exact c.elim
 have⟨k,l,c⟩:=c;have:=e.v_eq;subst this;have:=f.v_eq;subst this;have h:=(i t l).k;rw[k]at h;split at c
 refine⟨_,c,_,?_,.v _⟩;rw[Sem.run_bind,uN];simp[binOp,run_equal_bool w t _ _ h]
 refine⟨_,c,_,?_,.v _⟩;rw[Sem.run_bind,uN];simp[binOp,run_equal_bool w t _ _ h]
 exact c.elim
 exact c.elim
theorem zl3[aw](b:unK z p K)(c:Rep w E 0 p x):∃r,K r/\∃v,(Op.unary z x).run P w=.ok v w/\Rep w E 0 r v:=by unfold unK at b;split at b;have:=c.v_eq;subst this;exact⟨_,b,_,rfl,.v _⟩;have:=c.v_eq;subst this;exact⟨_,b,_,rfl,.v _⟩;have:=c.v_eq;subst this;exact⟨_,b,_,rfl,.v _⟩;grind
theorem CF(a:ml rw p C)(j:E.R=rw)(l:Rep w E 0 p x) :
 C/\((∃f e m,p=.clo f e/\x=.func (.func f) #[] m)\/∃b o,x=.pointer (n0 ⟨b,o,o0⟩)/\yN p=k0/\∀d,Rep w E 0 (pP p d) (.pointer (n0 ⟨b,o+d,o0⟩))):=by
 subst j
 cases l with
 | @ref _ _ k n c x q g =>
   have⟨r,s,a⟩:=a
   have⟨b,t,g⟩:=g r s
   refine⟨a,.inr ⟨b,c,g,rfl,λd=>.ref q λ_ _=>⟨b,t,rfl⟩⟩⟩
 | @eref _ _ fr cells c b o e u i =>
   refine⟨a,.inr ⟨b,o+c,rfl,rfl,λd=>?_⟩⟩
   have:=Rep.eref (off:=c+d) e u i
   rwa [<- jT]at this
 | clo y i=>exact⟨a,.inl ⟨_,_,_,rfl,rfl⟩⟩
 | v x=>exact a.elim
 | sl=>exact a.elim
 | own=>exact a.elim
 | ag=>exact a.elim
 | tup=>exact a.elim
 | junk=>exact a.elim
theorem oN(o d:Nat):(⟨c,o,o0⟩:Addr).add d=⟨c,o+d,o0⟩:=by simp[Addr.add]
theorem Ki[aw](y:T.Ok P)(a:oP T t d λo _=>yN p=k0/\ml rw p (K (pP p o)))(A:E.R=rw)(B:Rep w E 0 p x) :
 ∃r,K r/\∃v,(Instr.fieldAt t x d).run P w=.ok v w/\Rep w E 0 r v:=by
 have⟨C,a⟩:=a
 have z:=(y t C).k
 split at a
 rename_i I i;rw[i]at z;have⟨e,D,j⟩:=z;split at a
 rename_i o k c;have⟨l,g,a⟩:=a;have⟨a,F⟩:=CF a A B;rcases F with⟨J,L,M,rfl,_⟩|⟨b,G,rfl,_,m⟩
 cases g
 have H:∃f,e[d]?=n0 f/\f.offset=o/\f.type=k:=by
  grind
 have⟨f,n,h,q⟩:=H;have s:=fQ (y k l) w;refine⟨_,a,_,?_,m o⟩;have u:(T k).size≠0:=om;simp[Instr.fieldAt,run_underlying D,n,Instr.sureAddr,fieldPlace,q,s,u,h,oN]
 exact a.elim
 exact a.elim
theorem zg2[aw](n:T.Ok P)(o:qt T t .asis f d K)(p:lh f=lh i)(k:∀cells(h:cells<lh f)(l:cells<lh i),Rep w E 0 f[cells] i[cells]):∃r,K r/\∃v,(part t i.toArray d).run P w=.ok v w/\Rep w E 0 r v:=by
 have⟨q,o⟩:=o
 have m:=n t q
 have g:=TV m.k w
 have j:=fQ m w
 cases a:(T t).k.agg with
 | true =>
   simp[a]at o
   have⟨b,o⟩:=o
   refine⟨_,o,.agg ((i.drop d).take (T t).size).toArray,?_,?_⟩
   simp[part,g,a,j]
   refine .ag (by grind)<|λcells h l=>?_;simp at h l;simp[mc];exact k _ om om
 | false =>
   simp only[a]at o
   have⟨b,o⟩:=o
   have c:d<lh i:=om
   refine⟨_,o,i[d],?_,?_⟩
   simp[part,g,a,c]
   have e:lg f d .junk=f[d]:=by grind
   exact e▸k d b c
theorem zaU[aw](n:T.Ok P)(a:oP T t d λo i=>(match p with|.ag c=>qt T i .asis c o K|_=>False))(s:Rep w E 0 p x) :
 ∃r,K r/\∃v,(Instr.field t x d).run P w=.ok v w/\Rep w E 0 r v:=by
 have⟨u,a⟩:=a
 have q:=(n t u).k
 split at a
 rename_i G j;rw[j]at q;have⟨e,y,k⟩:=q;split at a
 rename_i o i b;have⟨z,a⟩:=a;cases s with
 | @ag _ _ cells H A B =>
   have C:∃f,e[d]?=n0 f/\f.offset=o/\f.type=i:=by
    grind
   have⟨f,l,g,m⟩:=C;have⟨r,D,v,F,h⟩:=zg2 (w:=w) n a A B;refine⟨r,D,v,?_,h⟩;simp[Instr.field,run_underlying y,l,asAgg,g,m,F]
 | v x=>grind
 | sl=>exact a.elim
 | own=>grind
 | ref=>grind
 | eref=>grind
 | tup=>exact a.elim
 | clo=>exact a.elim
 | junk=>exact a.elim
 exact a.elim
 grind
theorem ziT[aw]{g:Nat}(o:WOk G E w)(p:Rep w E 0 (.own d g) x)(q:(E.R d).ver=g){h:Nat}(l:(E.R d).kind=.sli t h m f)(s:0<lh f) :
 ∃b n cap r a,E.rm d=n0 b/\x=.slice (n0 ⟨b,0,o0⟩) n cap/\w.heap[b]?=n0 (.cells (r++a).toArray t (0,0)) /\
  (lh r)=n*h/\n<=cap/\cap<=maxLen/\(r++a).length=cap*h/\ex w E.bare E.B f r:=by
 cases p with
 | own _ i =>
   have i:=i q<|by rw[l];rfl
   have c:=o.rows d
   unfold cn at c
   grind
theorem oO[aw]{e:A0}(a:P.underlying t=n0 (.slice e))(c:(sizeOf e).run P w=.ok d w){b o len cap:Nat}(i:0<=n)(f:n<len) :
 (Instr.indexAt t (.slice (n0 ⟨b,o,o0⟩) len cap) (.int r n)).run P w=.ok (.pointer (n0 ⟨b,o+n.toNat*d,o0⟩)) w:=by
 simp[Instr.indexAt,asIntOf,run_underlying a,i,f,c,oN]
theorem EW[aw]{e:A0}{len:Nat}(a:P.underlying t=n0 (.array len e))(c:(sizeOf e).run P w=.ok d w){b o:Nat}(i:0<=n)(f:n<len) :
 (Instr.indexAt t (.pointer (n0 ⟨b,o,o0⟩)) (.int r n)).run P w=.ok (.pointer (n0 ⟨b,o+n.toNat*d,o0⟩)) w:=by
 simp[Instr.indexAt,asIntOf,run_underlying a,i,f,c,oN,Instr.sureAddr]
theorem Jv{a len:Nat}{m:Nat}(h:d*a<m)(b:m=len*a):d<len:=by subst b;exact Nat.lt_of_mul_lt_mul_right h
theorem Kj[aw](F:T.Ok P)(hw:WOk G E w){q:PV}{y:E0}(f:iE T rw t p q K)(hR:E.R=rw)(O:Rep w E 0 p x)(hq:Rep w E 0 q y) :
 ∃r,K r/\∃v,(Instr.indexAt t x y).run P w=.ok v w/\Rep w E 0 r v:=by
 subst hR
 unfold iE at f
 split at f
 rename_i k n;have:=hq.v_eq;subst this;obtain⟨hs,f⟩:=f;have Q:=(F t hs).k;split at f
 rename_i e R;rw[R]at Q;have H:P.underlying t=n0 (.slice e):=Q;split at f
 rename_i fr sz c;obtain⟨h,u,z,j,f⟩:=f;have d:=fQ (F e h) w;rw[<- u]at d;cases O with
 | @sl _ _ _ _ len cap _ a cs hl hc hm hr hh =>
   obtain⟨b,o,rfl,hb,hL,S⟩:=hr _ j;have I:n.toNat<len:=Jv j hl;refine⟨_,f,_,oO H d z om,.eref (b:=b) (o:=o) cs (λi hi=>?_) hh⟩;grind
 rename_i k' a2;obtain⟨hv,f⟩:=f;split at f
 rename_i e' sz fz c g;obtain⟨h,u,z,j,f⟩:=f;have d:=fQ (F e h) w;rw[<- u]at d;obtain⟨b,m,cap,vs,J,A,rfl,B,L,X,Y,M,C⟩:=ziT hw O hv g om;have I:n.toNat<m:=Jv j (C.1.trans L);refine⟨_,f,_,oO H d z om,?_⟩;rw[cm];exact .ref om λ_ _=>⟨b,A,rfl⟩
 rename_i e' c g;obtain⟨h,z,j,f⟩:=f;have d:=fQ (F e om) w;rw[h]at d;have l:=hw.rows k';unfold cn at l;simp only[g]at l;rcases l with⟨_,_,Z⟩|⟨b,m,cap,vs,J,A,_,a0,B,L,X,Y,M,C⟩
 rw[Z]at j;exact absurd j sp
 cases O with
 | own _ D =>
   have D:=D hv (by rw[g];rfl);rw[a0]at D;subst D;have I:n.toNat<m:=by rw[C.1]at j;omega
   refine⟨_,f,_,oO H d z om,?_⟩;rw[cm,dh];exact .ref om λ_ _=>⟨b,A,rfl⟩
 exact f.elim
 exact f.elim
 rename_i len e R;rw[R]at Q;have H:P.underlying t=n0 (.array len e):=Q;obtain⟨N,h,z,j,f⟩:=f;have d:=fQ (F e h) w;obtain⟨f,D⟩:=CF f rfl O;rcases D with⟨f',cs,vs,rfl,_⟩|⟨b,a3,rfl,_,a1⟩
 cases N
 exact⟨_,f,_,EW H d z j,a1 _⟩
 exact f.elim
 exact f.elim
theorem ziU[aw](j:T.Ok P)(k:WOk G E w){t ty:A0}(b:NP T rw t p K)(l:E.R=rw)(i:Rep w E 0 p x) :
 ∃r,K r/\∃v,(Builtin.len_ #[t] ty #[x]).run P w=.ok v w/\Rep w E 0 r v:=by
 obtain⟨m,b⟩:=b
 have d:=(j t m).k
 split at b
 rename_i f;rw[f]at d;have g:=d;split at b
 have:=i.v_eq;subst this;exact⟨_,b,_,by simp[Builtin.len_,run_underlying g,goInt],.v _⟩
 exact b.elim
 rename_i e f;rw[f]at d;have g:=d;obtain⟨o,c,⟨h,b⟩,a,len,cap,rfl,q⟩:=zdr b l k i;have e:c/o=len:=by simp_all
 rw[e]at b;exact⟨_,b,_,by simp[Builtin.len_,run_underlying g,goInt],.v _⟩
 rename_i n e f;rw[f]at d;exact⟨_,b,_,by simp[Builtin.len_,run_underlying d,goInt],.v _⟩
 exact b.elim
end
section
variable {P:G0}{T:gg}{w:C0}{E:Env}{G:Ghost}{rw:S0}{K:PV->Prop}{s:St}
theorem uM[aw](b:rZ M j n q)(h:∀x,j=n0 x->Rep w E 0 (M x) (H.eval x)) :
 ∃a,q a/\((j=o0/\a=n)\/∃k,j.map H.eval=n0 (.int k a)):=by
 unfold rZ at b
 split at b
 grind
 rename_i x;have f:=h x rfl;split at b
 rename_i k a g;rw[g]at f;exact⟨_,b,.inr ⟨k,by simp[f.v_eq]⟩⟩
 grind
theorem zdp[aw](g:re rw p A)(F:E.R=rw)(m:WOk G E w)(B:Rep w E 0 p x) :
 ∃fr s cells,A fr s cells/\Rep w E 0 (.sl fr s cells) x:=by
 subst F
 unfold re at g
 split at g
 ·exact⟨_,_,_,g,B⟩
 ·rename_i k H;have⟨I,J,g⟩:=g;split at g
  ·rename_i e s c a;refine⟨_,_,_,g,?_⟩;cases B with
   | own _ q =>
     have q:=q J (by rw[a];rfl);have d:=m.rows k;unfold cn at d;simp only[a]at d;rcases d with⟨t,j,u⟩|⟨b,n,cap,o,C,t,j,u,K,L,M,N,Q,r⟩
     ·subst u;rw[q,j];exact .sl (λ_=>undef) sp (ab _) (aB _) (λi h=>absurd h sp) (λi h=>absurd h sp)
     ·rw[q,u];have O:E.B<=b:=by
       rw[m.base];rcases j with j|j
       ·exact j
       ·exact absurd j.1 om
      have y:¬E.L b:=λy=>by
       rcases(m.live b).1 y with⟨P,z,l⟩|D;rotate_left
       ·rw[m.xs]at D;exact m.apart _ b (by rw[a];rfl) t D
       have:=m.inj k P b (by rw[a];rfl) (RK.nd_of_live l) t z;subst this;rw[a]at l;cases l
      refine .sl (λi=>lg o i undef) (r.1.trans L) M N (λi h=>⟨b,0,rfl,by simpa[Env.lo]using O,y,?_⟩) (λi h=>?_)
      ·have f:i<lh o:=by rw[<- r.1];exact h
       rw[cm,eF K (by simp;omega)];simp[bM f,lg,f]
      ·have f:i<lh o:=by rw[<- r.1];exact h
       have e:lg o i undef=o[i]:=by simp[lg,f]
       rw[e];exact(r.2 i h f).low (by simp[Env.lo])
  ·exact g.elim
 ·exact g.elim
theorem ztb[aw]{fr:Bool}{d:Nat}{c:M0}{a:Option Addr}{len cap l h m:Nat}(p:Rep w E 0 (.sl fr d c) (.slice a len cap))(q:l<=h)(D:h<=m)(F:m<=cap)(r:h<=len) :
 Rep w E 0 (.sl fr d ((c.take (h*d)).drop (l*d))) (.slice (if m=l then a else a.map (·.add (l*d))) (h-l) (m-l)):=by
 cases p with
 | @sl _ _ _ _ _ _ _ _ s t G H u x =>
   have y:h*d<=lh c:=by rw[t];exact ec _ r
   have f:lh ((c.take<|h*d).drop<|l*d)=(h-l)*d:=by simp[JP];omega
   have z:l*d<=h*d:=ec _ q
   refine .sl (λi=>s<|l*d+i) f om om (λi j=>?_)<|λi j=>?_
   rw[f,JP]at j;have⟨b,o,A,B,C,g⟩:=u (l*d+i) om;have k:m≠l:=by intro e;subst e;have:h=m:=om;subst this;simp at j
   rw[ac k,A];exact⟨b,o+l*d,by simp[oN],B,C,by rw[jT];exact g⟩
   grind
theorem zaT[aw](hT:T.Ok P)(hw:WOk G E w){a:Act}{u N:Option B0}(d:gO T rw M t p j u N K)(hR:E.R=rw)(z:Rep w E 0 p x)(A:∀y,j=n0 y->Rep w E 0 (M y) (a.eval y))(B:∀y,u=n0 y->Rep w E 0 (M y) (a.eval y))(S:∀y,N=n0 y->Rep w E 0 (M y) (a.eval y)) :
 ∃r,K r/\∃v,(Instr.sliceAt t x (j.map a.eval) (u.map a.eval) (N.map a.eval)).run P w=.ok v w/\Rep w E 0 r v:=by
 obtain⟨hs,d⟩:=d
 have O:=(hT t hs).k
 split at d
 rename_i U;rw[U]at O;have V:=O;obtain⟨rfl,d⟩:=d;split at d
 rename_i b;have:=z.v_eq;subst this;obtain⟨l,d,Q⟩:=uM d A;obtain⟨h,d,C⟩:=uM d B;obtain⟨q,i,D,d⟩:=d;refine⟨_,d,_,?_,.v _⟩;have W:(Instr.sliceBounds l0 b.size b.size (j.map a.eval) (u.map a.eval) o0).run P w=.ok (l.toNat,h.toNat,b.size) w:=by
  have F:((h.toNat:Nat):Int)=h:=om;rcases Q with⟨rfl,rfl⟩|⟨kl,n⟩<;>rcases C with⟨rfl,rfl⟩|⟨kh,s⟩
  rfl;simp[Instr.sliceBounds,s,run_sliceBound,i,D];simp[Instr.sliceBounds,n,run_sliceBound,q,i];simp[Instr.sliceBounds,n,s,run_sliceBound,q,i,D,F,(by omega:0<=h)]
 simp[Instr.sliceAt,run_underlying V,Instr.slice,W]
 exact d.elim
 rename_i e U;rw[U]at O;obtain⟨fr,sz,c,⟨X,Y,d⟩,z⟩:=zdp d hR hw z;have f:=fQ (hT e X) w;rw[<- Y]at f;obtain⟨l,d,Q⟩:=uM d A;obtain⟨h,d,C⟩:=uM d B;obtain⟨m,d,hm⟩:=uM d S;obtain⟨q,i,D,h3,h4,d⟩:=d;have Z:=z;cases z with
 | @sl _ _ _ _ len cap _ ad cs a0 hc a1 hr R =>
   have H:lh c/sz=len:=by rw[a0];exact Nat.mul_div_cancel _ om
   rw[H]at C hm h3;obtain⟨I,J,L,W⟩:∃I:Nat,h.toNat<=I/\I<=cap/\(Instr.sliceBounds k0 len cap (j.map a.eval) (u.map a.eval)<|N.map a.eval).run P w=.ok (l.toNat,h.toNat,I) w:=by
    have F:((h.toNat:Nat):Int)=h:=om;have em:((m.toNat:Nat):Int)=m:=om;have k:h<=(cap:Int):=om;have g:m<=(cap:Int):=om;rcases hm with⟨rfl,rfl⟩|⟨km,o⟩
    refine⟨cap,om,ab _,?_⟩;rcases Q with⟨rfl,rfl⟩|⟨kl,n⟩<;>rcases C with⟨rfl,rfl⟩|⟨kh,s⟩
    simp[Instr.sliceBounds];simp[Instr.sliceBounds,s,run_sliceBound,i,k];simp[Instr.sliceBounds,n,run_sliceBound,q,i];simp[Instr.sliceBounds,n,s,run_sliceBound,q,i,k,F,(by omega:0<=h)];refine⟨m.toNat,om,om,?_⟩;rcases C with⟨rfl,rfl⟩|⟨kh,s⟩
    have:=h4 rfl;subst this;simp at o;rcases Q with⟨rfl,rfl⟩|⟨kl,n⟩;simp[Instr.sliceBounds,s,o,run_sliceBound,i,g,D,em,F,(by omega:0<=h),(by omega:0<=m)];simp[Instr.sliceBounds,n,s,o,run_sliceBound,q,i,g,D,em,F,(by omega:0<=h),(by omega:0<=m)]
   refine⟨_,d,_,?_,ztb Z (l:=l.toNat) (h:=h.toNat) (m:=I) om J L om⟩;simp[Instr.sliceAt,run_underlying O,Instr.slice,W,f]
 exact d.elim
theorem zdq[aw](B:T.Ok P)(M:WOk G E w){g:A0}(d:rf T rw t g p K)(N:E.R=rw)(C:Rep w E 0 p x) :
 ∃r,K r/\∃v,(convert t g x).run P w=.ok v w/\Rep w E 0 r v:=by
 obtain⟨O,Q,d⟩:=d
 have h:=(B t O).k
 have i:=(B g Q).k
 split at d
 rename_i R S q s;rw[q]at h;rw[s]at i;have k:=h;have l:=i;split at d
 have:=C.v_eq;subst this;exact⟨_,d,_,by simp[convert,run_underlying k,run_underlying l,Conv.intToInt],.v _⟩
 exact d.elim
 rename_i q s;rw[q]at h;rw[s]at i;have k:=h;have l:=i;split at d
 have:=C.v_eq;subst this;exact⟨_,d,_,by simp[convert,run_underlying k,run_underlying l],.v _⟩
 exact d.elim
 rename_i e q s;rw[q]at h;rw[s]at i;have k:=h;have l:=i;obtain⟨D,d⟩:=d;have f:=(B e D).k;split at d
 rename_i U;rw[U]at f;have F:=f;obtain⟨fr,Z,c,⟨rfl,u,rfl,d⟩,a,len,cap,cs,rfl,V,hc,hm,m⟩:=Az d N M C;refine⟨_,d,_,?_,.v _⟩;rw[run_convert_bytes_string w t g e a len cap k F l];have y:len=lh u:=ss V.symm
 subst y;by_cases J:u=[]
 subst J;cases a with
 | none=>simp[Conv.bytesToString]
 | some W =>rfl
 obtain⟨b,o,rfl,_,_⟩:=m 0 (by grind);refine run_bytesToString (P:=P) w ⟨b,o,o0⟩ (lh u) cap u ?_;have:=run_loadCells_list (P:=P) (w:=w) ⟨b,o,o0⟩ (u.map (E0.int .u8)) (λj v A=>by
  simp only[fk,iN]at A;obtain⟨n,A,rfl⟩:=A;obtain⟨H,X⟩:=List.getElem?_eq_some_iff.1 A;obtain⟨b',o',z,I,L⟩:=m j (ss H);injection z with z
  injection z with z Y
  subst z;subst Y;simp at L;rw[oN,I,L.v_eq,X])
 simpa using this
 exact d.elim
 exact d.elim
end
inductive RV where
 | im (p:PV)
 | fr (e:TypeId) (sz:Nat) (cells:List PV)
 | ag (l:List RV)
 | tup (l:List RV)
 | tb (e e2:TypeId) (rows:List (List PV))
def Env.out(B:Nat)(bs:O0):Env:={ R:=λ_=>⟨0,.dead⟩,rm:=λ_=>o0,rv:=λ_=>default,L:=λb=>b<B\/b∈bs,B:=B,X:=λ_=>False }
def Env.inn(B:Nat):Env:={ R:=λ_=>⟨0,.dead⟩,rm:=λ_=>o0,rv:=λ_=>default,L:=λ_=>False,B:=B,X:=λ_=>False }
def blk(a:List (E0×Option Nat)):O0:=a.filterMap (·.2)
inductive OutR (w:World) (E:Env):RV->Value->List (Value×Option Nat)->Prop
 | im {p:PV} {v:Value} (h:Rep w E.bare E.B p v):OutR w E (.im p) v []
 | nil {e sz:Nat}:OutR w E (.fr e sz []) (.slice none 0 0) [(.slice none 0 0,none)]
 | fr {e sz b n cap:Nat} {cells:List PV} {vs rest:List Value} (hB:E.B<=b) (hh:w.heap[b]?=some (.cells (vs++rest).toArray e (0,0)))
  (hn:vs.length=n*sz) (hc:n<=cap) (hm:cap<=maxLen) (hl:(vs++rest).length=cap*sz) (hr:ex w E.bare E.B cells vs) :
  OutR w E (.fr e sz cells) (.slice (some ⟨b,0,none⟩) n cap) [(.slice (some ⟨b,0,none⟩) n cap,some b)]
 | tbn {e e2:Nat}:OutR w E (.tb e e2 []) (.slice none 0 0) [(.slice none 0 0,none)]
 | tb {e e2 b n cap:Nat} {rows:List (List PV)} {vs rest:List Value} {lvs:List (Value×Option Nat)} (hB:E.B<=b) (hh:w.heap[b]?=some (.cells (vs++rest).toArray e (0,0)))
  (hn:vs.length=n) (hc:n<=cap) (hm:cap<=maxLen) (hl:(vs++rest).length=cap) (h1:rows.length=n) (h2:lvs.length=n)
  (hv:∀i (b:i<vs.length) (c:i<lvs.length),lvs[i].1=vs[i])
  (hin:∀i (a:i<rows.length) (b:i<vs.length) (c:i<lvs.length),OutR w E (.fr e2 1 rows[i]) vs[i] [lvs[i]]) :
  OutR w E (.tb e e2 rows) (.slice (some ⟨b,0,none⟩) n cap) ((.slice (some ⟨b,0,none⟩) n cap,some b)::lvs)
 | ag {l:List RV} {vs:List Value} {bss:List (List (Value×Option Nat))} (h1:l.length=vs.length) (h2:l.length=bss.length)
  (hh:∀i (a:i<l.length) (b:i<vs.length) (c:i<bss.length),OutR w E l[i] vs[i] bss[i]):OutR w E (.ag l) (.agg vs.toArray) bss.flatten
 | tup {l:List RV} {vs:List Value} {bss:List (List (Value×Option Nat))} (h1:l.length=vs.length) (h2:l.length=bss.length)
  (hh:∀i (a:i<l.length) (b:i<vs.length) (c:i<bss.length),OutR w E l[i] vs[i] bss[i]):OutR w E (.tup l) (.tuple vs.toArray) bss.flatten
def Enters(P:G0)(f:FuncId):Prop:=∃fn,P.funcs[f]?=n0 fn/\(fn.name == "runtime.NumGoroutine")=l0/\fn.body.isNone=l0
def AC[aw](P:G0)(f:FuncId)(args:M0)(rv:RV):Prop :=
 Enters P f/\∀(w:C0)(vals:List E0),aw.Φ w->ex w (Env.inn w.heap.size) 0 args vals ->
  Calls P f vals.toArray w λe b=>∃v a,e=.returned v/\Ext w b/\OutR b (Env.out w.heap.size (blk a)) rv v a/\(blk a).Nodup
def tA(rw:S0)(p:PV):PV :=
 match p with
 | .v x=>if nu x=k0 then .sl l0 1 []else .v x
 | .own j v=>if(rw j).ver=v then(match (rw j).kind with|.nil=>.sl l0 1 []|.sli _ a _ c=>.sl l0 a c|_=>.junk)else .junk
 | _=>.junk
def gk(rw:S0):Nat->PV->PV
 | 0,_=>.junk
 | n+1,p =>
   match p with
   | .v x=>if nu x=k0 then .sl l0 1 []else .v x
   | .sl _ d c=>.sl l0 d c
   | .own k b=>if(rw k).ver=b then(match (rw k).kind with|.nil=>.sl l0 1 []|.sli _ d _ c=>.sl l0 d c|.tab _ c=>.sl l0 1 (c.map (tA rw))|_=>.junk)else .junk
   | .ref k b a=>if(rw k).ver=b then(match (rw k).kind with|.box _ c=>.eref l0 (c.map (gk rw n)) a|.sli _ _ _ c=>.eref l0 c a|_=>.junk)else .junk
   | .eref _ c a=>.eref l0 c a
   | .ag c=>.ag (c.map (gk rw n))
   | .tup _=>.junk
   | .clo f c=>.clo f (c.map (gk rw n))
   | .junk=>.junk
theorem uL(E:Env)(B:Nat):Lasts b b E.bare (Env.inn B).bare :=
 ⟨λw _ _=>⟨rfl,λh=>h⟩,λ_=>ab _,λ_ _ h=>absurd h<|by simp[Env.bare,RK.slice],λ_ _ h=>absurd h<|by simp[Env.bare,RK.nd],ab _⟩
theorem NN:Lasts b b (Env.inn c) (Env.inn c).bare :=
 ⟨λB _ _=>⟨rfl,λh=>h⟩,λ_=>ab _,λ_ _ h=>absurd h<|by simp[Env.bare,RK.slice],λ_ _ h=>absurd h<|by simp[Env.bare,RK.nd],aB _⟩
theorem qs(E:Env)(w:Nat)(fr:Bool)(c:Nat):Rep b E w (.sl fr c []) (.slice o0 0 0) :=
 .sl (λ_=>undef) sp (ab _) (aB _) (λi a=>absurd a sp)<|λi a=>absurd a sp
theorem zaS[aw]{E:Env}(A:WOk k E g)(B:Nat)(h:Rep g E 0 p x):Rep g (Env.inn B) 0 (tA E.R p) x:=by
 cases h with
 | v x =>simp only[tA];by_cases q:nu x=k0;rw[ae q,sf q];exact qs _ _ _ _ _;rw[ac q];exact .v _
 | @own _ _ G r x J u =>
   simp only[tA];by_cases j:(E.R G).ver=r;rw[ae j];have a:=A.rows G;unfold cn at a;cases l:(E.R G).kind with
   | mp f=>exact .junk _
   | dead=>exact .junk _
   | box t c=>exact .junk _
   | tab e c=>exact .junk _
   | nil =>simp only[l]at a ⊢;rw[u j<|by rw[l];rfl,a.2];exact qs _ _ _ _ _
   | sli e K L c =>
     simp only[l]at a ⊢;rw[u j<|by rw[l];rfl];rcases a with⟨C,y,s⟩|⟨b,n,cap,w,z,C,y,s,D,F,H,I,M,m⟩
     subst s;rw[y];exact qs _ _ _ _ _;rw[s];refine .sl (λi=>lg w i undef) (m.1.trans F) H I (λi o=>⟨b,0,rfl,by simp[Env.lo],λh=>h,?_⟩)<|λi o=>?_;have d:i<lh w:=by rw[<- m.1];exact o
     rw[cm,eF D<|by simp;omega];simp[bM d,lg,d];have d:i<lh w:=by rw[<- m.1];exact o
     have e:lg w i undef=w[i]:=by simp[lg,d]
     rw[e];exact(m.2 i o d).mono (uL g E B)<|by simp[Env.lo]
   rw[ac j];exact .junk _
 | _=>exact .junk _
theorem NO[aw]{E:Env}(Q:WOk k E g)(B:Nat):∀(n:Nat){p:PV}{x:E0},Rep g E 0 p x->Rep g (Env.inn B) 0 (gk E.R n p) x:=by
 intro n;induction n with
 | zero=>intro p x _;exact .junk _
 | succ n R =>
   intro p x h;cases h with
   | v x =>simp only[gk];by_cases S:nu x=k0;rw[ae S,sf S];exact qs _ _ _ _ _;rw[ac S];exact .v _
   | @sl _ _ fr W len cap cells a U M Z hm V I =>simp only[gk];refine .sl U M Z hm (λi j=>?_) (λi j=>(I i j).mono (uL g E B) (by simp[Env.lo]));have⟨b,o,ha,hb,hL,q⟩:=V i j;exact⟨b,o,ha,by simp[Env.lo],λh=>h,q⟩
   | @own _ _ G L x hv C =>
     simp only[gk];by_cases D:(E.R G).ver=L;rw[ae D];have w:=Q.rows G;unfold cn at w;cases u:(E.R G).kind with
     | mp f=>exact .junk _
     | dead=>exact .junk _
     | box t c=>exact .junk _
     | nil =>simp only[u]at w ⊢;rw[C D (by rw[u];rfl),w.2];exact qs _ _ _ _ _
     | sli e W fz c =>
       simp only[u]at w ⊢;rw[C D (by rw[u];rfl)];rcases w with⟨F,J,y⟩|⟨b,n,cap,l,K,F,J,y,H,N,O,P,X,s⟩
       subst y;rw[J];exact qs _ _ _ _ _;rw[y];refine .sl (λi=>lg l i undef) (s.1.trans N) O P (λi j=>⟨b,0,rfl,by simp[Env.lo],λh=>h,?_⟩) (λi j=>?_);have d:i<lh l:=by rw[<- s.1];exact j
       rw[cm,eF H (by simp;omega)];simp[bM d,lg,d];have d:i<lh l:=by rw[<- s.1];exact j
       have e:lg l i undef=l[i]:=by simp[lg,d]
       rw[e];exact(s.2 i j d).mono (uL g E B) (by simp[Env.lo])
     | tab e c =>
       simp only[u]at w ⊢;rw[C D (by rw[u];rfl)];rcases w with⟨F,J,y⟩|⟨b,n',cap,l,K,F,J,y,H,N,O,P,X,s⟩
       subst y;rw[J];exact qs _ _ _ _ _;rw[y];refine .sl (λi=>lg l i undef) (by simp;rw[s.1,N]) O P (λi j=>⟨b,0,rfl,by simp[Env.lo],λh=>h,?_⟩) (λi j=>?_);have d:i<lh l:=by rw[<- s.1];simpa using j
       rw[cm,eF H (by simp;omega)];simp[bM d,lg,d];have z:i<lh c:=ss j;have d:i<lh l:=by rw[<- s.1];exact z
       have e:lg l i undef=l[i]:=by simp[lg,d]
       rw[e];simp only[aM];exact(zaS Q B (s.2 i z d)).mono (NN g B) (by simp[Env.lo])
     rw[ac D];exact .junk _
   | @ref _ _ G L A x hv C =>
     simp only[gk];by_cases D:(E.R G).ver=L;rw[ae D];have w:=Q.rows G;unfold cn at w;cases u:(E.R G).kind with
     | mp f=>exact .junk _
     | dead=>exact .junk _
     | nil=>exact .junk _
     | box t c =>
       simp only[u]at w ⊢;have⟨b,l,F,J,y,H⟩:=w;have⟨Y,r,C⟩:=C D (by rw[u];rfl);rw[F]at r;cases r;rw[C]
       have:=Rep.eref (w:=g) (E:=Env.inn B) (lo:=0) (fr:=l0) (cells:=c.map (gk E.R n)) (off:=A) (b:=b) (o:=0) (λi=>lg l i undef)
        (λi j=>by
         have d:i<lh l:=by rw[<- H.1];simpa using j
         refine⟨by simp[Env.lo],λh=>h,?_⟩;rw[cm,eF y d];simp[lg,d])
        (λi j=>by
         have z:i<lh c:=ss j;have d:i<lh l:=by rw[<- H.1];exact z
         have e:lg l i undef=l[i]:=by simp[lg,d]
         rw[e];simp only[aM];exact(R (H.2 i z d)).mono (NN g B) (by simp[Env.lo]))
       simpa using this
     | tab e c=>exact .junk _
     | sli e W fz c =>
       simp only[u]at w ⊢;have⟨Y,r,C⟩:=C D (by rw[u];rfl);rcases w with⟨F,J,y⟩|⟨b,m,cap,l,K,F,J,y,H,N,O,P,X,s⟩
       rw[F]at r;exact absurd r sp;rw[F]at r;obtain rfl:b=Y:=ss r;rw[C]
       have:=Rep.eref (w:=g) (E:=Env.inn B) (lo:=0) (fr:=l0) (cells:=c) (off:=A) (b:=b) (o:=0) (λi=>lg l i undef)
        (λi j=>by
         have d:i<lh l:=by rw[<- s.1];exact j
         refine⟨by simp[Env.lo],λh=>h,?_⟩;rw[cm,eF H (by simp;omega)];simp[bM d,lg,d])
        (λi j=>by
         have d:i<lh l:=by rw[<- s.1];exact j
         have e:lg l i undef=l[i]:=by simp[lg,d]
         rw[e];exact(s.2 i j d).mono (uL g E B) (by simp[Env.lo]))
       simpa using this
     rw[ac D];exact .junk _
   | @eref _ _ fr cells A b o U V I =>simp only[gk];refine .eref U (λi j=>?_) (λi j=>(I i j).mono (uL g E B) (by simp[Env.lo]));have⟨hb,hL,q⟩:=V i j;exact⟨by simp[Env.lo],λh=>h,q⟩
   | ag M I =>simp only[gk];exact .ag (ss M) (λi a b=>by simp only[aM];exact R (I i (ss a) b))
   | tup M I=>simp only[gk];exact .junk _
   | clo M I =>simp only[gk];exact .clo (ss M) (λi a b=>by simp only[aM];exact R (I i (ss a) b))
   | junk x=>simp only[gk];exact .junk _
section
variable {P:G0}{T:gg}{rw:S0}{ev:B0->PV}
theorem yL(h:rZ ev j n q):∃K,q K/\∀a:Int->Prop,a K->rZ ev j n a:=by
 unfold rZ at *;grind
theorem ziR(h:re rw p A):∃a b c,A a b c/\∀d:Bool->Nat->M0->Prop,d a b c->re rw p d:=by unfold re at *;grind
theorem VX(h:Qk rw p A):∃a b c,A a b c/\∀d:Bool->Nat->M0->Prop,d a b c->Qk rw p d:=by unfold Qk at *;grind
theorem zaP{K:Md->M0->Nat->Prop}(h:Bh rw p K):∃a b c,K a b c/\∀e:Md->M0->Nat->Prop,e a b c->Bh rw p e:=by unfold Bh at *;grind
theorem zl2{K:Nat->Nat->Prop}(h:Kk rw p K):∃a b,K a b/\∀d:Nat->Nat->Prop,d a b->Kk rw p d:=by unfold Kk at *;grind
theorem Ay{m:Md}(h:qt T t m f d e):∃p,e p/\∀K:PV->Prop,K p->qt T t m f d K:=by unfold qt at *;grind
theorem wG{K:Nat->A0->Prop}(h:oP T t d K):∃a b,K a b/\∀c:Nat->A0->Prop,c a b->oP T t d c:=by unfold oP at *;grind
theorem uK(h:ml rw p C):C/\∀a:Prop,a->ml rw p a:=by unfold ml at *;grind
theorem yM[aw]{i:PV}(h:iE T rw t p i e):∃K,e K/\∀g:PV->Prop,g K->iE T rw t p i g:=by unfold iE at *;split at h;have⟨f,h⟩:=h;split at h;grind;have⟨a,b,c,d,h⟩:=h;have⟨h,x⟩:=uK h;exact⟨_,h,λ_ k=>⟨f,a,b,c,d,x _ k⟩⟩;exact h.elim;exact h.elim
theorem zaQ[aw](h:NP T rw t p e):∃K,e K/\∀x:PV->Prop,x K->NP T rw t p x:=by unfold NP at *;have⟨d,h⟩:=h;split at h;grind;have⟨a,b,h,c⟩:=zl2 h;grind;grind;grind
theorem NM[aw]{k n:Option B0}(h:gO T rw ev t p j k n e):∃K,e K/\∀o:PV->Prop,o K->gO T rw ev t p j k n o:=by unfold gO at *;have⟨q,h⟩:=h;split at h;have⟨r,h⟩:=h;split at h;have⟨l,h,f⟩:=yL h;have⟨u,h,g⟩:=yL h;have⟨a,b,c,h⟩:=h;exact⟨_,h,λ_ i=>⟨q,r,f _<|g _ ⟨a,b,c,i⟩⟩⟩;exact h.elim;have⟨fr,A,c,⟨s,w,h⟩,y⟩:=ziR h;have⟨l,h,f⟩:=yL h;have⟨u,h,g⟩:=yL h;have⟨m,h,z⟩:=yL h;have⟨a,b,c,d,x,h⟩:=h;exact⟨_,h,λ_ i=>⟨q,y _ ⟨s,w,f _<|g _<|z _ ⟨a,b,c,d,x,i⟩⟩⟩⟩;exact h.elim
theorem tz{y:PV}(h:mI m p y e):∃K,e K/\∀a:PV->Prop,a K->mI m p y a:=by unfold mI at *;grind
theorem TS[aw]{b:A0}(h:rf T rw t b p e):∃K,e K/\∀g:PV->Prop,g K->rf T rw t b p g:=by unfold rf at *;have⟨x,f,h⟩:=h;split at h;split at h;exact⟨_,h,λ_ d=>⟨x,f,d⟩⟩;exact h.elim;split at h;exact⟨_,h,λ_ d=>⟨x,f,d⟩⟩;exact h.elim;have⟨i,h⟩:=h;split at h;have⟨t,b,c,⟨j,k,l,h⟩,m⟩:=VX h;exact⟨_,h,λ_ d=>⟨x,f,i,m _ ⟨j,k,l,d⟩⟩⟩;exact h.elim;exact h.elim
theorem zaR{x:PV}(h:iu T y t p x e):∃K,e K/\∀d:PV->Prop,d K->iu T y t p x d:=by unfold iu at *;grind
theorem zg1(h:unK z p e):∃K,e K/\∀b:PV->Prop,b K->unK z p b:=by unfold unK at *;grind
end
section
variable {P:G0}{T:gg}{G:Ghost}{K:PV->Prop}{s:St}
theorem ea[aw](h:∀(E:Env)(a:Act)(w:C0),E.R=s.rw->WOk G E w->(∀x∈l.op.operands,Rep w E 0 (s.ev x) (a.eval x))->∃v,(execOp a.eval l).run P w=.ok (.value v) w/\Rep w E 0 p v) :
 tX P G s l p:=Ql λE a w b c d=>let ⟨v,h1,h2⟩:=h E a w b c d;⟨v,w,h1,Ext.refl w,h2⟩
theorem EV[aw]{E:Env}{q:PV}{b:E0}{r:PV}(c:mI m p q (·=r))(d:Rep g E 0 p x)(e:Rep g E 0 q b) :
 ∃v,(match m with|true=>Builtin.max_ #[] 0 #[x,b]|false=>Builtin.min_ #[] 0 #[x,b]:Sem E0).run P g=.ok v g/\Rep g E 0 r v:=by
 unfold mI at c
 split at c
 have:=d.v_eq;subst this;have:=e.v_eq;subst this;subst c;cases m
 exact⟨_,rfl,.v _⟩
 exact⟨_,rfl,.v _⟩
 grind
theorem TT[aw](H:T.Ok P)(d:qQ T s.rw s.ev l.op K):∃p,K p/\tX P G s l p:=by
 cases g:l.op with
 | move x =>rw[g]at d;exact⟨_,d,ea λE a w q u j=>⟨a.eval x,by simp[execOp,g],j x (by simp[g,Op.operands])⟩⟩
 | assign x =>rw[g]at d;exact⟨_,d,ea λE a w q u j=>⟨a.eval x,by simp[execOp,g],j x (by simp[g,Op.operands])⟩⟩
 | pick c x y =>
   rw[g]at d;simp only[qQ]at d;split at d;rename_i t hc;cases t with
   | true =>refine⟨_,d.1 rfl,ea λE a w q u j=>⟨a.eval x,?_,j x (by simp[g,Op.operands])⟩⟩;have D:=j c (by simp[g,Op.operands]);rw[hc]at D;simp[execOp,g,D.v_eq,asBool]
   | false =>refine⟨_,d.2 rfl,ea λE a w q u j=>⟨a.eval y,?_,j y (by simp[g,Op.operands])⟩⟩;have D:=j c (by simp[g,Op.operands]);rw[hc]at D;simp[execOp,g,D.v_eq,asBool]
   exact d.elim
 | binOp op t x y yt =>rw[g]at d;obtain⟨p,A,B⟩:=zaR d;refine⟨p,A,ea λE a w q u j=>?_⟩;obtain⟨r,rfl,v,o,z⟩:=ziS (x:=x) (y:=y) H (B (·=p) rfl) (j x (by simp[g,Op.operands])) (j y (by simp[g,Op.operands]));exact⟨v,by simp only[execOp,g];rw[Sem.run_bind,o];rfl,z⟩
 | unOp op t x =>rw[g]at d;obtain⟨p,A,B⟩:=zg1 d;refine⟨p,A,ea λE a w q u j=>?_⟩;obtain⟨r,rfl,v,o,z⟩:=zl3 (P:=P) (B (·=p) rfl) (j x (by simp[g,Op.operands]));exact⟨v,by simp[execOp,g,o],z⟩
 | convert a6 a7 x =>rw[g]at d;obtain⟨p,A,B⟩:=TS d;refine⟨p,A,ea λE a w q u j=>?_⟩;obtain⟨r,rfl,v,o,z⟩:=zdq H u (B (·=p) rfl) q (j x (by simp[g,Op.operands]));exact⟨v,by simp[execOp,g,o],z⟩
 | load t x =>rw[g]at d;simp only[qQ]at d;obtain⟨m,c,R,d,B⟩:=zaP d;obtain⟨p,A,O⟩:=Ay d;refine⟨p,A,ea λE a w q u j=>?_⟩;have D:=B (λm c R=>qt T t m c R (·=p)) (O _ rfl);obtain⟨m',c',a5,h2,a0⟩:=NQ D q u (j x (by simp[g,Op.operands]));obtain⟨r,v,rfl,o,z⟩:=TU H h2 a0;exact⟨v,by simp[execOp,g,o],z⟩
 | fieldAddr t x f =>rw[g]at d;obtain⟨o',ft,d,B⟩:=wG d;obtain⟨S,d⟩:=d;obtain⟨d,U⟩:=uK d;refine⟨_,d,ea λE a w q u j=>?_⟩;have D:=B (λa1 _=>yN (s.ev x)=k0/\ml s.rw (s.ev x) ((·=pP (s.ev x) o') (pP (s.ev x) a1))) ⟨S,U _ rfl⟩;obtain⟨r,rfl,v,o,z⟩:=Ki (K:=(·=pP (s.ev x) o')) H D q (j x (by simp[g,Op.operands]));exact⟨v,by simp[execOp,g,o],z⟩
 | field t x f =>
   rw[g]at d;obtain⟨o',ft,d,B⟩:=wG d;cases V:s.ev x with
   | ag c =>rw[V]at d;obtain⟨p,A,O⟩:=Ay d;refine⟨p,A,ea λE a w q u j=>?_⟩;have D:=B (λl ft=>(match s.ev x with|.ag c=>qt T ft .asis c l (·=p)|_=>False)) (by grind);obtain⟨r,rfl,v,o,z⟩:=zaU H D (j x (by simp[g,Op.operands]));exact⟨v,by simp[execOp,g,o],z⟩
   | _=>grind
 | indexAddr t x i =>rw[g]at d;obtain⟨p,A,B⟩:=yM d;refine⟨p,A,ea λE a w q u j=>?_⟩;obtain⟨r,rfl,v,o,z⟩:=Kj H u (B (·=p) rfl) q (j x (by simp[g,Op.operands])) (j i (by simp[g,Op.operands]));exact⟨v,by simp[execOp,g,o],z⟩
 | index t x i =>
   rw[g]at d;obtain⟨U,d⟩:=d;have hf:=(H t U).k;split at d;rename_i b k n J L M;rw[J]at hf;have hu:=hf;obtain⟨h0,D,d⟩:=d;refine⟨_,d,ea λE a w q u j=>?_⟩;have F:=j x (by simp[g,Op.operands]);have Q:=j i (by simp[g,Op.operands]);rw[L]at F;rw[M]at Q;refine⟨_,?_,.v _⟩;have hb:b[n.toNat]?=n0 (lg b.data.toList n.toNat 0):=by have a2:n.toNat<b.data.size:=D;have h2:b[n.toNat]=b.data[n.toNat]:=rfl;grind
   simp[execOp,g,F.v_eq,Q.v_eq,Instr.index,asIntOf,run_underlying hu,h0,hb];rename_i len e c k n J L M;rw[J]at hf;obtain⟨h0,D,d⟩:=d;obtain⟨p,A,O⟩:=Ay d;refine⟨p,A,ea λE a w q u j=>?_⟩;have F:=j x (by simp[g,Op.operands]);have Q:=j i (by simp[g,Op.operands]);rw[L]at F;rw[M]at Q;have a3:=fQ (H e d.1) w;generalize N:a.eval x=vx at F;generalize a4:a.eval i=vi at Q;have:=Q.v_eq;subst this;cases F with
   | @ag _ _ _ W X hh =>obtain⟨r,rfl,v,o,z⟩:=zg2 (w:=w) (E:=E) H (O (·=p) rfl) X hh;refine⟨v,?_,z⟩;simp[execOp,g,a4,N,Instr.index,asIntOf,run_underlying hf,h0,D,a3,o]
   exact d.elim
 | slice t x lo hi mx =>
   rw[g]at d;obtain⟨p,A,B⟩:=NM d;refine⟨p,A,ea λE a w q u j=>?_⟩
   obtain⟨r,rfl,v,o,z⟩:=zaT (a:=a) H u (B (·=p) rfl) q (j x (by simp[g,Op.operands]))
    (λy Y=>j y (by subst Y;simp[g,Op.operands])) (λy Y=>j y (by subst Y;simp[g,Op.operands])) (λy Y=>j y (by subst Y;simp[g,Op.operands]))
   exact⟨v,by simp[execOp,g,o],z⟩
 | extract x i =>
   rw[g]at d;simp only[qQ]at d;split at d;rename_i ps V;obtain⟨hi,d⟩:=d;refine⟨_,d,ea λE a w q u j=>?_⟩;have F:=j x (by simp[g,Op.operands]);rw[V]at F;generalize N:a.eval x=vx at F;cases F with
   | @tup _ _ _ W O hh =>
     have Z:i<lh W:=om;simp_all[execOp,g,N,Instr.extract,Z]
   exact d.elim
 | makeFunc fn first C =>
   rw[g]at d;simp only[qQ]at d;split at d;rename_i f;obtain⟨rfl,d⟩:=d;refine⟨_,d,ea λE a w q u j=>⟨.func (.func f) #[] (C.map a.eval),by simp[execOp,g,Instr.makeFunc],?_⟩⟩;have:=Rep.clo (w:=w) (E:=E) (lo:=0) (f:=f) (cells:=C.toList.map s.ev) (vs:=C.toList.map a.eval) sp (λi h h'=>by
    simp only[aM];exact j _ (by simp[g,Op.operands]))
   rw[show Array.map a.eval C=(C.toList.map a.eval).toArray from Array.toList_inj.1 (sp)];exact this;exact d.elim
 | nilCheck x =>
   rw[g]at d;obtain⟨d,U⟩:=uK d;refine⟨_,d,ea λE a w q u j=>?_⟩;have F:=j x (by simp[g,Op.operands]);obtain⟨_,h⟩:=CF (U True trivial) q F;refine⟨a.eval x,?_,F⟩;rcases h with⟨f,cs,W,_,o⟩|⟨b,o',o,_,_⟩
   simp[execOp,g,o];simp[execOp,g,o]
 | call c =>rw[g]at d;simp only[qQ]at d;split at d;rename_i x t;obtain⟨p,A,B⟩:=zaQ d;refine⟨p,A,ea λE a w q u j=>?_⟩;obtain⟨r,rfl,v,o,z⟩:=ziU (ty:=l.type) H u (B (·=p) rfl) q (j x (by simp[g,Op.operands,Call.operands]));exact⟨v,by simp[execOp,g,resolve,invoke,builtin,o],z⟩;rename_i x y _;obtain⟨p,A,B⟩:=tz d;refine⟨p,A,ea λE a w q u j=>?_⟩;obtain⟨v,o,z⟩:=EV (P:=P) (B (·=p) rfl) (j x (by simp[g,Op.operands,Call.operands])) (j y (by simp[g,Op.operands,Call.operands]));simp_all[Builtin.max_,execOp,g,resolve,invoke,builtin];rename_i x y _;obtain⟨p,A,B⟩:=tz d;refine⟨p,A,ea λE a w q u j=>?_⟩;obtain⟨v,o,z⟩:=EV (P:=P) (B (·=p) rfl) (j x (by simp[g,Op.operands,Call.operands])) (j y (by simp[g,Op.operands,Call.operands]));simp_all[Builtin.min_,execOp,g,resolve,invoke,builtin];exact d.elim
 | lookup t x i ok =>rw[g]at d;obtain⟨rfl,d⟩:=d;obtain⟨p,A,B⟩:=TW d;refine⟨p,A,ea λE a w q u j=>?_⟩;obtain⟨r,rfl,v,o,z⟩:=zdu H u (B (·=p) rfl) q (j x (by simp[g,Op.operands])) (j i (by simp[g,Op.operands]));exact⟨v,by simp[execOp,g,o],z⟩
 | _=>rw[g]at d;exact d.elim
end
def nh:Nat:=3
def oM[aw](P:G0)(rw:S0)(b:B0->PV)(f:B0)(args:Array B0)(K:RV->Prop):Prop :=
 match b f with
 | .clo g a=>∃rv,AC P g ((args.toList.map λx=>gk rw nh (b x))++a.map (gk rw nh)) rv/\K rv
 | _=>False
section
variable {P:G0}{T:gg}{G:Ghost}{s:St}
theorem ex.append{E:Env}{q:M0}{y:List E0}(h:ex g E d f i)(k:ex g E d q y):ex g E d (f++q) (i++y):=by
 refine⟨by simp[h.1,k.1],λc a b=>?_⟩;by_cases w:c<lh f;rw[bM w,bM (by rwa[<- h.1])];exact h.2 c _ _;rw[fJ om,fJ (by simp_all[h.1])];have e:c-lh i=c-lh f:=by rw[h.1]
 have:=k.2 (c-lh f) (by grind) (by have p:=h.1;grind);grind
theorem ex.map{E:Env}{c:Type}{l:List c}{f:c->PV}{w:c->E0}(h:∀x∈l,Rep g E d (f x) (w x)):ex g E d (l.map f) (l.map w) :=
 ⟨sp,λi a b=>by grind⟩
theorem EU(j:l.op=.call F)(k:F.callee=.value u){b:FuncId}(a:H.eval u=.func (.func b) #[] i.toArray)(m:Enters P b):(execOp H.eval l).run P g=.ok (.enter b ((F.args.toList.map H.eval)++i).toArray) g:=by
 have⟨fn,n,p,q⟩:=m
 have r:=ss p
 have d:¬fn.body=none:=by grind
 simp[execOp,j,resolve,k,a,Deferred.ofValue,invoke,callFunc,n,r,d]
theorem zg0[aw]{f:RV->Prop}(t:l.op=.call F)(c:F.callee=.value u)(j:oM P s.rw s.ev u F.args f) :
 ∃rv,f rv/\∀(E:Env)(a:Act)(w:C0),E.R=s.rw->WOk G E w->(∀x∈l.op.operands,Rep w E 0 (s.ev x) (a.eval x)) ->
  ∀(K:Act->C0->Prop)(Q:Exit->Act->C0->Prop),(∀v k y,Ext w k->OutR k (Env.out w.heap.size (blk y)) rv v y->(blk y).Nodup->K (a.put l.dst v) k)->l.wp P a w K Q:=by
 unfold oM at j
 split at j
 rename_i g o z;have⟨rv,m,j⟩:=j;refine⟨rv,j,λE a w H A I K Q J=>?_⟩;have b:=I u (by simp[t,Op.operands,Call.operands,c]);rw[z]at b;generalize B:a.eval u=vf at b;cases b with
 | @clo _ _ _ _ L M N =>
   have d:ex w (Env.inn w.heap.size) 0 ((F.args.toList.map λx=>gk s.rw nh (s.ev x))++o.map (gk s.rw nh)) (F.args.toList.map a.eval++L):=by refine ex.append (ex.map λx C=>?_) ⟨by simp[M],λi p q=>?_⟩;rw[<- H];exact NO A _ _ (I x (by simp[t,Op.operands,Call.operands,c];exact .inr (ss C)));simp only[aM];have:=NO A w.heap.size nh (N i (ss p) q);rwa [H]at this
   have h:=m.2 w _ A.held d;unfold Oper.wp;rw[EU t c B m.1];show Calls P g _ w _;refine h.mono λe k⟨v,O,R,n,r,D⟩=>?_;subst R;exact J v k O n r D
 exact j.elim
end
def Lf(X:l1)(R:S0)(a:Nat->Option Nat)(b:Nat):Prop:=(∃k,a k=n0 b/\(R k).kind.live=k0)\/X b
structure Turn [aw] (G:Ghost) (E E':Env) (w w':World) (D:Nat->Prop):Prop where
 L:E'.L=Lf E'.X E'.R E'.rm
 B:E'.B=E.B
 X:E'.X=E.X
 keep:∀k,¬D k->E'.R k=E.R k/\E'.rm k=E.rm k/\E'.rv k=E.rv k
 blocks:∀b,b<w.heap.size->(∀k,D k->E.rm k=some b->(E.R k).kind.live=false)->w'.heap[b]?=w.heap[b]?
 fresh:∀k b,D k->E'.rm k=some b->(E'.R k).kind.nd=true->w.heap.size<=b\/(E.rm k=some b/\(E.R k).kind.nd=true/\((E'.R k).kind.live=true->(E.R k).kind.live=true))
 ver:∀k,D k->(E.R k).ver<=(E'.R k).ver
 same1:∀k,D k->(E'.R k).ver=(E.R k).ver->(E'.R k).kind.slice=true->(E.R k).kind.slice=true/\E'.rv k=E.rv k
 same2:∀k,D k->(E'.R k).ver=(E.R k).ver->(E'.R k).kind.nd=true->(E.R k).kind.nd=true/\E'.rm k=E.rm k
 pos:∀k,D k->(E'.R k).kind.nd=true->0<(E'.R k).ver
 inj:∀k k' b,D k->D k'->(E'.R k).kind.nd=true->(E'.R k').kind.nd=true->E'.rm k=some b->E'.rm k'=some b->k=k'
 size:w.heap.size<=w'.heap.size
 os:w'.os=w.os
 tape:w'.tape=w.tape
 output:OutLe w w'
theorem Turn.lasts[aw]{E m:Env}{n:C0}(w:WOk k E g)(h:Turn k E m g n D):Lasts g n E m:=by
 refine⟨λb q i=>⟨h.blocks b q λG _ d=>?_,λe=>?_⟩,λG=>?_,λG=>?_,λG=>?_,by simp[h.B]⟩
 ·cases c:(E.R G).kind.live with
  | false=>rfl
  | true=>exact absurd ((w.live b).2<|.inl ⟨G,d,c⟩) i
 ·rw[h.L]at e;rcases e with⟨G,d,c⟩|o;rotate_left
  ·rw[h.X]at o;exact i<|(w.live b).2<|.inr o
  by_cases a:D G
  ·rcases h.fresh G b a d (RK.nd_of_live c)with t|⟨r,_,s⟩
   omega
   ·exact i<|(w.live b).2<|.inl ⟨G,r,s c⟩
  ·have⟨f,j,_⟩:=h.keep G a;rw[f]at c;rw[j]at d;exact i<|(w.live b).2<|.inl ⟨G,d,c⟩
 ·by_cases a:D G
  ·exact h.ver G a
  ·simp[(h.keep G a).1]
 ·by_cases a:D G
  ·exact h.same1 G a
  ·have⟨f,j,p⟩:=h.keep G a;grind
 ·by_cases a:D G
  ·exact h.same2 G a
  ·have⟨f,j,p⟩:=h.keep G a;grind
theorem Turn.wok[aw]{E L:Env}{M:C0}(a:WOk k E g)(h:Turn k E L g M D)(u:∀G,D G->cn M L k.C G):WOk k L M:=by
 have N:=h.lasts a;refine⟨λG=>?_,λG r b C x m l=>?_,λb=>by rw[h.L];rfl,λG=>?_,by rw[h.B,a.base],by rw[h.X,a.xs],a.fx,λG b F s O=>?_,⟨h.os.trans a.kept.os,h.tape.trans a.kept.tape,h.output.trans a.kept.output,aJ a.kept.size h.size,λb s hM=>?_⟩,λG=>?_⟩;by_cases c:D G;exact u G c;have⟨m,l,P⟩:=h.keep G c;have d:=a.rows G;have w:∀b,E.rm G=n0 b->(E.R G).kind.nd=k0->M.heap[b]?=g.heap[b]?:=λb s F=>by
  refine h.blocks b (a.block s F).1 λj hj Q=>?_;cases y:(E.R j).kind.live with
  | false=>rfl
  | true =>have:=a.inj G j b F (RK.nd_of_live y) s Q;subst this;exact absurd hj c
 unfold cn at d ⊢;rw[m,l,P];cases o:(E.R G).kind with
 | mp f=>(simp only[o]at d ⊢;have⟨b,es,ck,i,z,A,B,H⟩:=d;exact⟨b,es,ck,i,z,A,(w b i<|by rw[o];rfl).trans B,H⟩)
 | dead=>trivial
 | nil=>simpa only[o]using d
 | box t cells =>simp only[o]at d ⊢;have⟨b,I,i,z,A,B⟩:=d;exact⟨b,I,i,z,(w b i<|by rw[o];rfl).trans A,B.mono N<|ab _⟩
 | sli e sz fz cells =>
   simp only[o]at d ⊢;rcases d with d|⟨b,n,cap,I,p,i,z,A,B,H,R,S,U,V⟩
   exact .inl d;exact .inr ⟨b,n,cap,I,p,i,z,A,(w b i<|by rw[o];rfl).trans B,H,R,S,U,V.mono N.bare<|by rw[h.B];exact ab _⟩
 | tab e cells =>
   simp only[o]at d ⊢;rcases d with d|⟨b,n,cap,I,p,i,z,A,B,H,R,S,U,V⟩
   exact .inl d;exact .inr ⟨b,n,cap,I,p,i,z,A,(w b i<|by rw[o];rfl).trans B,H,R,S,U,V.mono N<|ab _⟩
 by_cases c:D G;by_cases q:D r;exact h.inj G r b c q C x m l;have⟨W,X,_⟩:=h.keep r q;rw[W]at x;rw[X]at l;rcases h.fresh G b c m C with hf|⟨J,K,_⟩
 have:=(a.block l x).1;omega;exact a.inj G r b K x J l;have⟨W,X,_⟩:=h.keep G c;rw[W]at C;rw[X]at m;by_cases q:D r;rcases h.fresh r b q l x with hf|⟨J,K,_⟩;have:=(a.block m C).1;omega;exact a.inj G r b C K m J;have⟨Y,Z,_⟩:=h.keep r q;rw[Y]at x;rw[Z]at l;exact a.inj G r b C x m l;by_cases c:D G;exact h.pos G c;rw[(h.keep G c).1];exact a.pos G;by_cases c:D G;rcases h.fresh G b c s F with hf|⟨J,K,_⟩;have:=a.fx.low b O;have:=a.kept.size;omega;exact a.apart G b K J O;have⟨m,l,_⟩:=h.keep G c;rw[m]at F;rw[l]at s;exact a.apart G b F s O;refine(h.blocks b (cp s a.kept.size) λG c o=>?_).trans<|a.kept.block b s hM;cases y:(E.R G).kind.live with
 | false=>rfl
 | true =>
   have:=(a.block o<|RK.nd_of_live y).2;rcases this with i|i
   omega;exact absurd i.2<|hM G
 have⟨p1,p2⟩:=a.pin G;by_cases c:D G;refine⟨aJ p1<|h.ver G c,λhe hs=>?_⟩;have hv:=h.ver G c;have e:(L.R G).ver=(E.R G).ver:=om;have⟨b1,b2⟩:=h.same2 G c e hs;have⟨q0,q1,q2⟩:=p2 om b1;refine⟨q0,b2.trans q1,λhs=>?_⟩;have⟨a1,a2⟩:=h.same1 G c e hs;exact⟨(q2 a1).1,a2.trans (q2 a1).2⟩;have⟨m,l,P⟩:=h.keep G c;rw[m,l,P];exact⟨p1,p2⟩
theorem Turn.sim[aw]{G:Ghost}{E E':Env}{s:St}{a:Act}{w w':C0}{D:l1}(hs:SimE G E s a w)(h:Turn G E E' w w' D)(hrows:∀k,D k->cn w' E' G.C k) :
 SimE G E' { s with rw:=E'.R } a w':=hs.turn (h.lasts hs.wok)<|h.wok hs.wok hrows
def fM{a:Type}(f:Nat->a)(k:Nat)(x:a):Nat->a:=λi=>if i=k then x else f i
theorem aT{a:Type}(f:Nat->a)(k:Nat)(x:a):fM f k x k=x:=by simp[fM]
theorem bu{a:Type}(f:Nat->a){i:Nat}(x:a)(h:i≠d):fM f d x i=f i:=by simp[fM,h]
def Env.row(E:Env)(k:Nat)(r:Row)(m:Option Nat)(v:E0):Env :=
 { R:=fM E.R k r,rm:=fM E.rm k m,rv:=fM E.rv k v,L:=Lf E.X (fM E.R k r) (fM E.rm k m),B:=E.B,X:=E.X }
theorem uJ[aw]{G:Ghost}{E:Env}{w w':C0}{k:Nat}{kd:RK}{m:Option Nat}{v:E0}(hx:Ext w w')(hm:∀b,m=n0 b->w.heap.size<=b) :
 Turn G E (E.row k ⟨(E.R k).ver+1,kd⟩ m v) w w' (·=k) where
 L:=rfl
 B:=rfl
 X:=rfl
 keep j hj:=⟨bu _ _ hj,bu _ _ hj,bu _ _ hj⟩
 blocks b hb _:=hx.block b hb
 fresh j b hj hb _:=by simp_all[Env.row,aT]
 ver j hj:=by simp_all[Env.row,aT]
 same1 j hj h:=by simp_all[Env.row,aT]
 same2 j hj h:=by simp_all[Env.row,aT]
 pos j hj _:=by simp_all[Env.row,aT]
 inj j j' b h1 h2 _ _ _ _:=om
 size:=hx.size
 os:=hx.os
 tape:=hx.tape
 output:=hx.output
def fF[aw](P:G0)(G:Ghost)(s:St)(o:Oper)(c:St):Prop :=
 ∀(a:Act)(w:C0),rt G s a w->∀(K:Act->C0->Prop)(Q:Exit->Act->C0->Prop),(∀b w',rt G c b w'->K b w')->o.wp P a w K Q
section
variable {P:G0}{T:gg}{G:Ghost}{s:St}{E:Env}{a:Act}{w w':C0}{o:Oper}
theorem rM[aw]{E':Env}{D:l1}{v:E0}{p:PV}(hs:SimE G E s a w)(hrun:(execOp a.eval o).run P w=.ok (.value v) w')(ht:Turn G E E' w w' D)(hrows:∀k,D k->cn w' E' G.C k)(hp:Rep w' E' 0 p v)(hd:∀x,o.dst=n0 x->x<G.n){K:Act->C0->Prop}{Q:Exit->Act->C0->Prop}(hK:∀a' w',rt G (St.put { s with rw:=E'.R } o.dst p) a' w'->K a' w'):o.wp P a w K Q :=
 qA hrun<|hK _ _ ⟨E',(ht.sim hs hrows).put hd hp⟩
def fb(rw:S0)(p:PV)(K:M0->Prop):Prop :=
 match p with
 | .ag c=>K c
 | .v x=>x.oneCell'=k0/\K [p]
 | .sl _ _ _=>K [p]
 | .eref _ _ _=>K [p]
 | .clo _ _=>K [p]
 | .own k a=>(rw k).ver=a/\(rw k).kind.slice=k0/\K [p]
 | .ref k a _=>(rw k).ver=a/\(rw k).kind.nd=k0/\K [p]
 | _=>False
theorem Hi[aw](l:WOk G E w)(j:(E.R d).kind.slice=k0):(E.rv d).oneCell'=true:=by
 have k:=l.rows d;unfold cn at k;cases a:(E.R d).kind with
 | dead=>rw[a]at j;cases j
 | box t c=>rw[a]at j;cases j
 | nil=>simp only[a]at k;rw[k.2];rfl
 | sli e q r c =>
   simp only[a]at k;rcases k with⟨_,h,_⟩|⟨b,n,cap,m,g,o,p,i,_⟩
   rw[h];rfl;rw[i];rfl
 | tab e c =>
   simp only[a]at k;rcases k with⟨_,h,_⟩|⟨b,n,cap,m,g,o,p,i,_⟩
   rw[h];rfl;rw[i];rfl
 | mp f =>simp only[a]at k;have⟨b,s,u,_,_,i,_⟩:=k;rw[i];rfl
theorem mH(h:x.oneCell'=k0):x.cells=#[x]:=by
 cases x<;>simp[E0.oneCell',E0.cells]at h ⊢
theorem rr[aw]{rw:S0}{K:M0->Prop}(e:fb rw p K)(q:E.R=rw)(r:WOk G E w)(o:Rep w E 0 p x) :
 ∃c,K c/\ex w E 0 c x.cells.toList/\(∀y∈x.cells.toList,p=.ag c\/y.oneCell'=k0):=by
 subst q
 have one:∀(f:x.oneCell'=k0),ex w E 0 [p] x.cells.toList:=λf=>by rw[mH f];exact⟨rfl,λi a b=>by grind⟩
 have d:∀(f:x.oneCell'=k0)(c:M0),(∀y∈x.cells.toList,p=.ag c\/y.oneCell'=k0):=λf c y h=>by rw[mH f]at h;grind
 cases o with
 | v=>exact⟨_,e.2,one e.1,d e.1 _⟩
 | sl=>exact⟨_,e,one rfl,d rfl _⟩
 | @own _ _ k l _ s m =>
   have⟨f,j,e⟩:=e
   have n:=Hi r j
   rw[<- (m f j)]at n
   exact⟨_,e,one n,d n _⟩
 | @ref _ _ k l t _ s m =>
   have⟨f,j,e⟩:=e
   have⟨b,_,g⟩:=m f j
   exact⟨_,e,one<|by rw[g];rfl,d (by rw[g];rfl) _⟩
 | eref=>exact⟨_,e,one rfl,d rfl _⟩
 | @ag _ _ c A u z=>exact⟨_,e,⟨u,z⟩,λy h=>.inl rfl⟩
 | tup=>exact e.elim
 | clo=>exact⟨_,e,one rfl,d rfl _⟩
 | junk=>exact e.elim
def jx(s:St)(d:Nat)(a:RK)(p:Nat->PV):St:=(s.row d ⟨(s.rw d).ver+1,a⟩).put (n0 d) (p ((s.rw d).ver+1))
theorem zgZ[aw]{vs:List E0}(K:SimE G E s a w)(b:o.dst=n0 d)(l:d<G.n)(n:ex w E 0 f vs)(g:(execOp a.eval o).run P w=.ok (.value (.pointer (n0 ⟨w.heap.size,0,o0⟩))) (w.alloc (.cells vs.toArray t)))(q:∀i w',rt G (jx s d (.box t f) (λv=>.ref d v 0)) i w'->h i w'):o.wp P a w h Q:=by
 have r:Ext w (w.alloc<|.cells vs.toArray t):=Ext.alloc _ _
 have j:=uJ (G:=G) (E:=E) (k:=d) (kd:=.box t f) (m:=n0 w.heap.size) (v:=default) r sp
 refine rM (E':=E.row d _ _ _) (p:=.ref d ((s.rw d).ver+1) 0) K g j (λk u=>?_) ?_ (by simp[b,l])<|λi w' c=>q i w' ?_
 subst u;unfold cn;simp only[Env.row,aT];exact⟨w.heap.size,vs,rfl,.inl K.wok.kept.size,heap_alloc_new w _,n.mono (j.lasts K.wok)<|ab _⟩
 refine .ref (by simp[Env.row,aT,K.rw]) λ_ _=>⟨w.heap.size,by simp[Env.row,aT],rfl⟩
 have e:(E.row d ⟨(E.R d).ver+1,.box t f⟩ (n0 w.heap.size) default).R=(s.row d ⟨(s.rw d).ver+1,.box t f⟩).rw:=by simp only[Env.row,K.rw];rfl
 rw[e,b]at c;exact c
theorem zpU[aw]{d n cap:Nat}{e:A0}{sz:Nat}{vs rest:List E0}(c:SimE G E s a w)(b:o.dst=n0 d)(q:d<G.n)(r:ex w E.bare E.B f vs)(t:lh vs=n*sz)(u:n<=cap)(x:cap<=maxLen)(y:lh (vs++rest)=cap*sz)(z:Ext w w')(g:w'.heap[w.heap.size]?=n0 (.cells (vs++rest).toArray e (0,0)))(i:(execOp a.eval o).run P w=.ok (.value (.slice (n0 ⟨w.heap.size,0,o0⟩) n cap)) w')(A:∀j w',rt G (jx s d (.sli e sz l0 f) (λv=>.own d v)) j w'->h j w'):o.wp P a w h Q:=by
 have l:=uJ (G:=G) (E:=E) (k:=d) (kd:=.sli e sz l0 f) (m:=n0 w.heap.size) (v:=.slice (n0 ⟨w.heap.size,0,o0⟩) n cap) z sp
 refine rM (E':=E.row d _ _ _) (p:=.own d ((s.rw d).ver+1)) c i l (λk B=>?_) ?_ (by simp[b,q])<|λj w' K=>A j w' ?_
 subst B;unfold cn;simp only[Env.row,aT];exact .inr ⟨w.heap.size,n,cap,vs,rest,rfl,.inl c.wok.kept.size,rfl,g,t,u,x,y,r.mono (l.lasts c.wok).bare<|ab _⟩
 refine .own (by simp[Env.row,aT,c.rw]) λ_ _=>by simp[Env.row,aT]
 have C:(E.row d ⟨(E.R d).ver+1,.sli e sz l0 f⟩ (n0 w.heap.size)<|.slice (n0 ⟨w.heap.size,0,o0⟩) n cap).R=(s.row d ⟨(s.rw d).ver+1,.sli e sz l0 f⟩).rw:=by simp only[Env.row,c.rw];rfl
 rw[C,b]at K;exact K
theorem zpV[aw]{c:RK}(i:c=.nil\/∃e l,c=.sli e l l0 [])(j:SimE G E s a w)(b:o.dst=n0 d)(n:d<G.n)(q:Ext w w')(f:(execOp a.eval o).run P w=.ok (.value (.slice o0 0 0)) w')(r:∀g w',rt G (jx s d c (λv=>.own d v)) g w'->h g w'):o.wp P a w h Q:=by
 have t:=uJ (G:=G) (E:=E) (k:=d) (kd:=c) (m:=o0) (v:=.slice o0 0 0) q sp
 refine rM (E':=E.row d _ _ _) (p:=.own d ((s.rw d).ver+1)) j f t (λk u=>?_) ?_ (by simp[b,n])<|λg w' K=>r g w' ?_
 subst u;unfold cn;simp only[Env.row,aT];rcases i with rfl|⟨e,l,rfl⟩
 simp
 simp
 refine .own (by simp[Env.row,aT,j.rw]) λ_ _=>by simp[Env.row,aT]
 have x:(E.row d ⟨(E.R d).ver+1,c⟩ o0<|.slice o0 0 0).R=(s.row d ⟨(s.rw d).ver+1,c⟩).rw:=by simp only[Env.row,j.rw];rfl
 rw[x,b]at K;exact K
end
end Go.Abs
