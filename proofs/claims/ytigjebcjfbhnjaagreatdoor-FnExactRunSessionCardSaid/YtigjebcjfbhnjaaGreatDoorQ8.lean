/- DERIVED by an AI agent. -/
import Derived.Test.YtigjebcjfbhnjaaGreatDoorQ7
set_option linter.all false
namespace Go.Proofs.YtigjebcjfbhnjaaGreatDoor
open Bool renaming true→k0,false→l0
open Go renaming IntKind→D0
open List renaming range→lc,getD→lg,length→lh
open Go.Proofs.Tryz
open Go.Abs Go.Shelf Go.Sort
def Ge(b a:O0):O0:=b.map λs=>jE s a (lh a)
theorem qK(a c:O0)(G:∀x∈a,x<64)(H:lh a<=64)(t:lh c<=6)(D:∀k,k<lh c->lg c k 0<6)(E:(Ge a c).Nodup):AC prog 218 [aE (bl a),aE (bl c)] (.fr 3 1 (iL (bl (co (hU (bl (Ge a c))))))):=by
 refine cA [.tmp 4] func218 λP=>?_;refine cZ @ap ?_;have q:lh (Ge a c)=lh a:=by simp[Ge]
 refine⟨om,om,?_⟩;refine az (λ(k,v)s=>(s.sl 0=aE (bl a)/\s.sl 1=aE (bl c)/\s.sl 5=.own 10 v/\s.rw 10=⟨v,.sli 3 1 l0<|iL<|bl<|(Ge a c).take k⟩/\s.sl 11=aE (bl a)/\s.sl 12=al (lh a)/\s.sl 13=al k)/\(k<=lh a)) (λ(k,v)=>lh a-k) ((0,1)) ⟨(jX @ap),sp⟩ ?_;intro(k,v) Q ⟨⟨j,l,m,b,f,g,i⟩,J⟩;refine XO j l m b f g i @ap ?_;refine⟨λp=>⟨p,p,?_⟩,λp=>?_⟩;have u:=G _<|aP 0 p;rw[bX p];refine aa (Py _ u c t D) ?_;refine XO j l m b f g i @ap ?_;have z:(Ge a c).take (k+1)=(Ge a c).take k++[jE (lg a k 0) c (lh c)]:=by rw[bj 0 om];congr 2;unfold Ge;simp[eU,fk,aN p]
 have K:lh ((Ge a c).take k)<=k:=by simp;omega
 refine⟨om,?_⟩;exact ah ((k+1,v+1)) ⟨(by and_intros<;>(first|(simp only[gr,simprocAttr,j,l,m,b,f,g,i,j,l,m,b,f,g,i,ak p om,z,cI,jZ];first|done|rfl|(simp;done))|assumption|rfl)),om⟩;have r:k=lh a:=om;rw[r,<- q,av]at b;rw[r,<- q,av];have A:∀x∈Ge a c,x<64:=λx L=>by obtain⟨y,_,rfl⟩:=List.mem_map.1 L;exact Ba y c D _<|ab _
 obtain⟨d,n⟩:∃d:List (Fin 64),QW d=Ge a c:=by refine⟨(Ge a c).attach.map λx=>⟨x.1,A _ x.2⟩,?_⟩;simp[QW,fj,tR]
 have B:d.Nodup:=by rw[<- n]at E;exact(List.pairwise_map.1 E).imp λh e=>h<|by rw[e]
 have C:lh d<=64:=by
  have:lh d=(Ge a c).length:=by rw[<- n];simp[QW]
  omega
 have M:Abs.Enters prog 277:=⟨_,func277,kr,kr⟩;have F:=AM.off (h:=default) (d:=True) (λe=>e)<|by
  letI:aw:=⟨HeldS.tell default True⟩;exact zrN zut zrM M trivial (λx:Fin 64=>((x.val:Nat):Int)) zo1 zo3 278 (enters_of func278 kr rfl) (λx y=>yh _ _) 3 d (bD C dc) (bl<|co<|hU<|bl<|QW d)<|λN O u=>by
   rw[<- zeM d N B O u];simp[QW,bl,fj,tR]
 have o:d.map (λx:Fin 64=>((x.val:Nat):Int))=bl (Ge a c):=by rw[<- n];simp[QW,bl,fj,tR]
 rw[o,n]at F;refine oJ F [(10,v)] (by repeat (first|exact GiveL.nil|refine GiveL.v ?_|refine GiveL.clo ?_|refine GiveL.own 0 rfl ?_|refine GiveL.own 1 rfl ?_|refine GiveL.ag ?_ ?_)) ⟨by simp only[gr,simprocAttr,b],trivial⟩ sp ?_;simp only[↓gp,gq,simprocAttr,gT,j,l,m,b,f,g,i,o,n]
end Go.Proofs.YtigjebcjfbhnjaaGreatDoor
namespace Go.Proofs.YtigjebcjfbhnjaaGreatDoor
open Bool renaming true→k0,false→l0
open Go renaming IntKind→D0
open List renaming range→lc,getD→lg,length→lh
open Go.Proofs.Tryz
open Go.Abs
variable (n:Nat)(a:Int)(f:V0)(X:O0)(L:List O0)(b:O0)(c:N0)(s:Int)(i:Nat)(t:Int){l:O0}{k:Nat}{C:N0}{x:Int}{d:V0}
structure goodN (n:Nat) (ns:List Nat):Prop where
 len:ns.length=n
 lt:∀x∈ns,x<n
 nd:ns.Nodup
theorem goodN.at{n:Nat}{a:O0}(h:goodN n a){k:Nat}(b:k<lh a):lg a k 0<n:=h.lt _<|aP 0 b
theorem goodN.at6(c:k<=6)(h:goodN k l):∀a,a<lh l->lg l a 0<6:=λa b=>by have:=h.at b;omega
theorem goodN.ne(h:goodN k l){i a:Nat}(b:i<a)(c:a<lh l):lg l i 0≠l.getD a 0:=by rw[fU 0<|om,fU 0 c];exact λe=>absurd ((gd h.nd).1 e) om
theorem zci{n:Nat}:∀(m:Nat)(head c:O0),c∈nk n m head->head.Nodup->(∀x∈head,x<n)->lh c=lh head+m/\c.Nodup/\∀x∈c,x<n
 | 0,head,c,h,d,f=>by simp_all[nk]
 | m+1,head,c,h,d,f=>by
   rw[nk,iV]at h;have⟨k,i,h⟩:=h;split at h;grind;have:=zci m _ c h (List.nodup_append.2 ⟨d,sp,λa o b j e=>by grind⟩)<|λx l=>by
    grind
   grind
theorem rO(h:l∈nk k k []):goodN k l:=have:=zci k [] l h fS sp;⟨ss this.1,this.2.2,this.2.1⟩
theorem zK:∀n,n<7->lh (nk n n [])<=720:=by decide +kernel
theorem Pw(q:k<=6)(h:goodN k l){s t:Nat}(f:s<2^k)(o:t<2^k)(e:jE s l (lh l)=jE t l (lh l)):s=t:=by
 have c:∀{s t:Nat},s<2^k->jE s l _=jE t l _->∀i,s.testBit i=k0->t.testBit i=true:=λ{s t}f e i g=>by
  have d:i<lh l:=h.len▸mX λn=>by rw[eK<|cp f<|aV om n]at g;grind
  have b:=(pf s l _<|lh l).2 ⟨i,d,g,rfl⟩;rw[e]at b;have⟨j,p,a,m⟩:=(pf t l _<|lh l).1 b;have:=by rw[fU 0 p,fU 0 d]at m;exact(gd h.nd).1 m
  grind
 refine bB λi=>?_;grind
theorem zeL(f:k<=6){c:O0}(h:goodN k c)(d:∀x∈l,x<2^k)(g:l.Nodup):(Ge l c).Nodup :=
 List.pairwise_map.2<|List.Pairwise.imp_of_mem (λi j b e=>b<|Pw f h (d _ i) (d _ j) e) g
theorem zoY(b:k<=6){a:O0}(h:goodN k a):∀x∈Ge l a,x<64:=λx d=>by obtain⟨y,_,rfl⟩:=List.mem_map.1 d;exact Ba y a (h.at6 b) _<|ab _
noncomputable def wu(a b:O0):N0:=bl (co (hU (bl (Ge a b))))
theorem ordN_len(a:∀x∈l,x<64)(b:l.Nodup):lh (co (hU (bl l)))=lh l:=by refine(((dn (Xl<|wK _) b).2 λs=>?_)).length_eq;simp_all[cR,pb]
theorem zh9(b:k<=6){c:O0}(h:goodN k c)(d:∀x∈l,x<2^k)(e:l.Nodup):lh (wu l c)=lh l:=by rw[wu,ap,ordN_len (zoY b h)<|zeL b h d e];simp[Ge]
theorem wc(p:∀x∈X,x<64)(q:lh X<=64)(o:k<=6)(d:goodN k b) :
 AC prog 176 [.ag [al a,aE (bl X)],aE (bl b)] (.ag [.im (al a),.fr 3 1 (iL (wu X b))]):=by
 refine cA [.cell 4 31] func176 λA=>?_
 have f:lh b<=6:=by have:=d.len;omega
 refine cZ @ap ?_
 have g:lh (Ge X b)=lh X:=by simp[Ge]
 refine az (λ(n,v)s=>(s.sl 1=aE (bl b)/\s.sl 2=.ref 2 1 0/\s.rw 2=⟨1,.box 31 [al a,aE (bl X)]⟩/\s.sl 4=.ref 4 1 0/\s.rw 4=⟨1,.box 31 [al 0,.v (.slice none 0 0)]⟩/\s.sl 5=.own 7 v/\s.rw 7=⟨v,.sli 3 1 l0<|iL<|bl<|(Ge X b).take n⟩/\s.sl 6=al n)/\(n<=lh X)) (λ(n,v)=>lh X-n) ((0,1)) ⟨(jX @ap),sp⟩ ?_
 intro(n,v) B ⟨e,t⟩
 refine ff e @ap ?_
 refine⟨λc=>?_,λc=>?_⟩
 have u:=p _<|aP 0 c;rw[bX c];refine⟨c,c,aa (Xz _ u b f (d.at6 o)<|λi n w y=>d.ne w y) ?_⟩;refine ff e @ap ?_;have j:(Ge X b).take (n+1)=(Ge X b).take n++[jE (lg X n 0) b (lh b)]:=by rw[bj 0 om];congr 2;unfold Ge;simp[eU,fk,aN c]
 have z:lh ((Ge X b).take n)<=n:=by simp;omega
 refine⟨om,?_⟩;exact ah ((n+1,v+1)) ⟨(DM e (ak c om) j @cI @jZ),om⟩
 have l:n=lh X:=om;rw[l,<- g,av];refine⟨kr,aa (kw _<|CU<|zoY o d) ?_⟩;refine cZ e ?_;exact⟨kr,rfl⟩
noncomputable def pI(a:O0)(N:List O0)(b:N0):N0:=N.foldl (λb c=>if ut (wu a c) b then wu a c else b) b
theorem Pv:pI X (L++[b]) c=if ut (wu X b) (pI X L c)then wu X b else pI X L c:=by rw[pI,jJ];rfl
noncomputable def uk(n:Int)(a:N0):N0:=if aS n a=k0 then pI (a.map Int.toNat) (nk n.toNat n.toNat []) a else []
def zoX(n:Int)(a:N0)(b:Bool):Int:=if b then n else 0
theorem DD(h:aS x C=k0):∃(m:Nat)(f:O0),x=m/\1<=m/\m<=6/\C=bl f/\C.map Int.toNat=f/\(∀c∈f,c<2^m)/\f.length<=64/\f.Nodup:=by
 obtain⟨B,n,_⟩:=cY.1 h;have d:=dM h;have q:bl (C.map Int.toNat)=C:=by
  rw[bl,fj];have:∀c∈C,((λs:Nat=>(s:Int))∘Int.toNat) c=id c:=λc g=>by have:=d c g;grind
  rw[cO this,JT]
 have l:=cY.1 h;have i:(C.map Int.toNat).Nodup:=by refine List.pairwise_map.2<|List.Pairwise.imp_of_mem (λ{a b}r u j e=>j ?_)<|FA l;have:=d a r;have:=d b u;omega
 refine⟨x.toNat,C.map _,om,om,om,q.symm,rfl,λc g=>?_,by rw[aG];exact fH h,i⟩;obtain⟨y,w,rfl⟩:=List.mem_map.1 g;obtain⟨k,o,rfl⟩:=bV w;have p:=(l.2.2 k o).1;obtain⟨m,t,D,z,E,A⟩:=AK p;grind
theorem kB:AC prog 77 [.ag [al a,aE c]] (.tup [.ag [.im (al (zoX a c (aS a c))),.fr 3 1 (iL (uk a c))],.im (aU (aS a c))]):=by
 refine cA [.cell 2 31,.tmp 3] func77 λhl=>?_;simp only[dt,dT,dF,gb,jt,hZ,cC]at hl;refine aR (aa (bw a c) ?_);refine aR ?_;refine⟨λp=>?_,λp=>?_⟩;have p:aS a c=false:=ss p;have:uk a c=[]:=by unfold uk;rw[ac (by rw[p];decide)]
 rw[p,this];exact⟨rfl,rfl,rfl⟩;have p:aS a c=true:=ss p;obtain⟨m,l,rfl,a0,B,J,K,hf,L,a1⟩:=DD p;have C:uk (m:Int) c=pI l (nk m m []) c:=by unfold uk;rw[ae p,K];rfl
 have O:zoX (m:Int) c k0=(m:Int):=ae rfl;rw[C,p,O];subst J;have a2:=fH p;refine aa (zG _ (bl l) om) ?_;refine aR ?_;have a3:=zK m om;have W:=zib (m-1) [] [] (by simp;omega) (by
  have e:lh ([]:O0)+1+(m-1)=m:=by simp;omega
  rw[e,show m-1+1=m by omega];simp;omega)
 have e:lh ([]:O0)+1+(m-1)=m:=by simp;omega
 rw[e,show m-1+1=m by omega,eg]at W;have y:∀X∈nk m m [],goodN m X:=λX h=>rO h;generalize nk m m []=N at *;refine CI (d:=18) (k:=17) (v:=1) (M:=[]) W (λj=>j=16) ?_ ⟨.inr ⟨rfl,gl⟩,rfl,λj P=>absurd P sp,λj _=>gl⟩ (λj P=>by subst P;rfl) λS Y hv hS D t f=>?_;exact .one (.v _) (.one (.lent (e:=3) (fz:=l0) rfl (by simp -dsimp only[gr,simprocAttr];rfl)) (.one (zdy gl) .nil));have Z:S.sl 1=.ref 1 1 0:=by rw[t 1 dc];simp -dsimp only[gr,simprocAttr]
 have u2:S.sl 2=.ref 2 1 0:=by rw[t 2 dc];simp -dsimp only[gr,simprocAttr]
 have u4:S.sl 4=.ref 4 1 0:=by rw[t 4 dc];simp -dsimp only[gr,simprocAttr]
 have w1:S.rw 1=⟨1,.box 31 [al m,aE (bl l)]⟩:=by rw[f 1 dc];simp -dsimp only[gr,simprocAttr]
 have w2:S.rw 2=⟨1,.box 31 [al 0,.v (.slice none 0 0)]⟩:=by rw[f 2 dc];simp -dsimp only[gr,simprocAttr]
 have w4:S.rw 4=⟨1,.box 31 [al m,.own 13 1]⟩:=by rw[f 4 dc];simp -dsimp only[gr,simprocAttr]
 have Q:S.rw 13=⟨1,.sli 3 1 l0 (iL (bl l))⟩:=by rw[f 13 dc];simp -dsimp only[gr,simprocAttr]
 have E:S.rw 900=⟨0,.dead⟩:=by rw[f 900 dc];simp -dsimp only[gr,simprocAttr]
 clear t f;have a4:lh (N.map bl)=lh N:=sp;refine xA D Z u2 u4 w1 w2 w4 ?_;refine znG (j:=13) (v:=1) (e:=3) (sz:=1) (c:=iL (bl l)) (b:=4) (vb:=1) (tb:=31) (cb:=[al m,.own 13 1]) (cb':=[al m,.own 900 1]) (o:=1) (rp Q) (rp w4) rfl 900 1 (rp E) rfl dc rfl rfl rfl (λ((k,u):Nat×Nat) s=>(s.sl 1=.ref 1 1 0/\s.rw 1=⟨1,.box 31 [al m,aE (bl l)]⟩/\s.sl 2=.ref 2 1 0/\s.rw 2=⟨1,.box 31 [al 0,.v (.slice none 0 0)]⟩/\s.sl 4=.ref 4 1 0/\s.rw 4=⟨1,.box 31 [al m,.own 900 u]⟩/\s.rw 900=⟨u,.sli 3 1 l0 (iL (pI l (N.take k) (bl l)))⟩/\s.sl 5=.own 17 Y/\s.sl 6=al k)/\(1<=u/\k<=lh N/\TabG s.rw 17 Y 29 3 (N.map bl).length (N.map bl))) (λ(k,u)=>lh N-k) ((0,1)) (λsX qw q n=>⟨(by and_intros<;>(first|(simp -dsimp only[gr,simprocAttr,q,n,D,Z,u2,u4,w1,w2,qw.1,qw.2];first|done|rfl|(simp;done))|assumption|rfl)),⟨dc,sp,hS.same (rp n) (λx=>by simp -dsimp only[gr,simprocAttr,n])⟩⟩) ?_;intro(k,u) sa ⟨A,R⟩;obtain⟨hu,hk,w⟩:=R;have F:lh (N.map bl)=lh N:=sp;refine ox A @w.top @bP @bp ?_;by_cases h:k<lh N;have G:k<(N.map bl).length:=om;have H:lg N k []∈N:=aP [] h;have hg:=y _ H;have U:lg (N.map bl) k []=bl (lg N k []):=by simp[lg,h]
 have V:=w.row k G;rw[U]at V;refine⟨λI=>?_,λI=>absurd G I⟩;rw[ztf G,V];refine⟨kr,G,G,?_⟩;refine cZ V ?_;refine aa (wc (m:Int) l (lg N k []) (λx hx=>cp (hf x hx) (aV (n:=2) (i:=m) (j:=6) om B)) L B hg) ?_;refine cZ A ?_;refine⟨kr,aa (Qf _ _) ?_⟩;have r:=Pv l (N.take k) (lg N k []) (bl l);rw[<- bj [] h]at r;refine cZ A ?_;refine⟨λz=>?_,λz=>?_⟩;rw[ae z]at r;exact zjv (j:=30) (v:=(sa.rw 30).ver+1) (e:=3) (sz:=1) (c:=iL (wu l (lg N k []))) (b:=4) (vb:=1) (tb:=31) (cb:=[al m,.own 30 ((sa.rw 30).ver+1)]) (cb':=[al m,.own 900 (u+1)]) (o:=1) gl gl rfl 900 (u+1) (by simp -dsimp only[gr,simprocAttr,A];exact dD _) rfl dc rfl rfl rfl ((k+1,u+1)) (λsX qw q n=>⟨(Sx q n A qw.1 qw.2 r (ak h om)),⟨om,by dsimp only;omega,w.same (rp n) (λx=>by simp -dsimp only[gr,simprocAttr,n])⟩⟩) (by first|omega|(simp only;omega)|(dsimp only;omega)|(show _<_;simp;omega));rw[ac (by rw[z];decide)]at r;exact ah ((k+1,u)) ⟨(fB A r (ak h om)),⟨hu,by dsimp only;omega,w.same gl (λx=>gl)⟩⟩;refine⟨λI=>absurd (F ▸ I) h,λ_=>?_⟩;have:k=lh N:=om;rw[this,av]
theorem zvX:ao (bl X) i=k0↔∃x∈X,x&&&i=i:=by simp[Hz]
theorem AY(h:x∈bl l):∃s,s∈l/\x=s:=by have⟨s,a,b⟩:=List.mem_map.1 h;grind
theorem LB(h:aS (k:Int) C=k0){t:Nat}(b:ao C t=k0):t<2^k:=by have⟨x,c,e⟩:=eT.1 b;have d:=dM h x c;have:=(nV h).2 t (bD (by rw[<- e];exact bI)<|om) b;grind
noncomputable def Yg(n:Int)(a:N0)(s:Int):Bool:=Yj n a s&&(!(s==0)&&!(n==6))
theorem zh6{s:Int}(h:Yg x C s=k0):∃m u:Nat,x=m/\s=u/\aS x C=k0/\1<=m/\m<6/\0<u/\u<2^m/\ao C u=true:=by unfold Yg Yj at h;simp only[aj,aq,bC,bc]at h;obtain⟨⟨⟨b,f,g⟩,c⟩,i,j⟩:=h;obtain⟨m,rfl,d,e⟩:=KH b;obtain⟨u,rfl⟩:∃u:Nat,s=u:=⟨s.toNat,om⟩;rw[ar]at c;exact⟨m,u,rfl,rfl,b,d,om,om,LB b c,c⟩
theorem zrD(x:Nat):lh (QX n i x)<=12:=by
 have h:∀s,lh (Vd n i x s)<=2:=λs=>by unfold Vd;grind
 unfold QX;split;rw[List.length_flatMap];show(List.map _ [0,1,2,3,4,5]).sum<=12;grind;simp
theorem zoK{X:O0}{g:Nat->O0}(h:∀x,lh (g x)<=k):lh (X.flatMap g)<=k*X.length:=by
 induction X with
 | nil=>simp
 | cons a X b=>rw[bH];grind
theorem Xs(g:Nat->O0)(h:k<lh l):(l.take (k+1)).flatMap g=(l.take k).flatMap g++g (lg l k 0):=by simp[bj 0 h]
theorem DA:AC prog 190 [.ag [al a,aE c],al s] (xO (Yg a c s) (a+1) (sdF a.toNat s.toNat (ao c))):=by
 refine cA [.cell 4 31,.tmp 5] func190 λhl=>?_;refine aR (aa (zI a c s) ?_);cases g:Yg a c s with
 | false =>
   rw[eH];unfold Yg at g;cases K:Yj a c s with
   | false=>exact ef
   | true =>
     rw[K,au]at g;cases q:(s==0)with
     | true=>exact mg q
     | false =>rw[q]at g;have l:(a==6)=true:=ss g;exact DL q l
 | true =>
   obtain⟨m,u,rfl,rfl,Z,a0,L,a1,hu,a2⟩:=zh6 g;have K:Yj m c u=true:=by unfold Yg at g;rw[aj]at g;exact g.1
   have q:((u:Int)==0)=false:=beq_eq_false_iff_ne.2 om;have l:((m:Int)==6)=false:=beq_eq_false_iff_ne.2 om;obtain⟨m',X,a3,_,_,rfl,_,M,a4,_⟩:=DD Z;obtain rfl:m=m':=om;have a5:=dx (m:=m) om;have Y:2^m<=32:=aV (n:=2) (i:=m) (j:=5) dc om;have N:∀x∈X,∀y∈QX m u x,y<64:=λx d y n=>by
    have:=M x d;have:=mE x;rcases(Iq om).1 n with⟨_,rfl⟩|⟨_,i,_,_,rfl|rfl⟩
    omega;exact bD (this _) om;have:=this (2^i);omega
   have r:Uu (bl (X.flatMap (QX m u))):=λz A=>by obtain⟨s,hs,rfl⟩:=AY A;obtain⟨x,d,n⟩:=List.mem_flatMap.1 hs;have:=N x d s n;omega
   have e:bl (dI (hU (bl (X.flatMap (QX m u)))) k0)=bl (dI (sdF m u (ao (bl X))) k0):=by refine zJ r λt J=>?_;rw[zo5 L hu M (zvX X) J];constructor;rintro⟨x,d,y,n,h⟩;exact⟨(y:Int),List.mem_map.2 ⟨y,List.mem_flatMap.2 ⟨x,d,n⟩,rfl⟩,by rw[ar];exact h⟩;rintro⟨z,A,h⟩;obtain⟨y,n,rfl⟩:=AY A;obtain⟨x,d,n⟩:=List.mem_flatMap.1 n;exact⟨x,d,y,n,by rwa [ar]at h⟩
   rw[ar,ar,uj _ e];have B:D0.u64.wrap (m:Int)=(m:Int):=dm om;have C:jl .i64 1 (m:Int)=((2^m:Nat):Int):=eh om;have O:D0.i64.wrap ((m:Int)+1)=(m:Int)+1:=aF om om;have P:=ap X;refine nN K q l B C ?_;refine az (λ((k,v):Nat×Nat) s=>(s.sl 1=al u/\s.sl 2=.ref 2 1 0/\s.rw 2=⟨1,.box 31 [al m,aE (bl X)]⟩/\s.sl 4=.ref 4 1 0/\s.rw 4=⟨1,.box 31 [al 0,.v (.slice none 0 0)]⟩/\s.sl 5=.v (.bool l0)/\s.sl 6=al (2^m:Nat)/\s.sl 7=.own 29 v/\s.rw 29=⟨v,.sli 3 1 l0 (iL (bl ((X.take k).flatMap (QX m u))))⟩/\s.sl 8=al k)/\(k<=lh X)) (λ(k,v)=>lh X-k) ((0,1)) ⟨(gE B C),om⟩ ?_;intro(k,v) sa ⟨o,a6⟩;have Q:=zoK (X:=X.take k) (zrD m u);rw[bg]at Q;refine ff o P ?_;refine⟨λh=>⟨h,h,?_⟩,λh=>?_⟩;have d:=M _ (aP 0 h);have D:=Xs (QX m u) h;rw[bX h];generalize a7:lg X k 0=x at *;have f:fu .i64 (x:Int) (u:Int)=((x&&&u:Nat):Int):=ej om om;by_cases b:x&&&u=u;have R:QX m u x=(lc 6).flatMap (Vd m u x):=ae b;refine ox o f b (show((u:Int) != (u:Int))=l0 by simp) ?_;have A:(X.take k).flatMap (QX m u)++(lc 0).flatMap (Vd m u x)=(X.take k).flatMap (QX m u):=sp;refine az (λ((i,v):Nat×Nat) s=>(s.sl 1=al u/\s.sl 2=.ref 2 1 0/\s.rw 2=⟨1,.box 31 [al m,aE (bl X)]⟩/\s.sl 4=.ref 4 1 0/\s.rw 4=⟨1,.box 31 [al 0,.v (.slice none 0 0)]⟩/\s.sl 5=.v (.bool l0)/\s.sl 6=al (2^m:Nat)/\s.sl 7=.own 29 v/\s.rw 29=⟨v,.sli 3 1 l0 (iL (bl ((X.take k).flatMap (QX m u)++(lc i).flatMap (Vd m u x))))⟩/\s.sl 8=al k/\s.sl 9=al x/\s.sl 10=al i)/\(i<=6)) (λ(i,v)=>6-i) ((0,v)) ⟨(gE o A),om⟩ ?_;intro(i,v) sb ⟨E,a8⟩;have S:lh ((lc i).flatMap (Vd m u x))<=2*(lc i).length:=zoK λi=>by unfold Vd;split<;>simp
   rw[bp]at S;have F:(lc (i+1)).flatMap (Vd m u x)=(lc i).flatMap (Vd m u x)++Vd m u x i:=by rw[bW,fO];simp
   by_cases l:i<6;have G:(fu .i64 (wH .i64 (u:Int) (i:Int)) 1==1)=u.testBit i:=CL om om;have H:D0.u64.wrap (i:Int)=(i:Int):=dm om;refine nN E (show((i:Int)<6)=True from bO om) (show(i<6)=True from bO l) H G ?_;refine⟨λn=>?_,λn=>?_⟩;have U:jl .i64 1 (i:Int)=((2^i:Nat):Int):=eh om;have I:2^i<=x:=nf (cg.1 b i n);have b0:(0:Int)<=((2^i:Nat):Int):=lE _;have b1:((2^i:Nat):Int)<=(x:Int):=Int.ofNat_le.2 I;have V:D0.i64.wrap ((x:Int)-((2^i:Nat):Int))=((x-2^i:Nat):Int):=by rw[aF (by generalize ((2^i:Nat):Int)=w at *;omega) (by generalize ((2^i:Nat):Int)=w at *;omega)];exact(Int.ofNat_sub I).symm
   have W:D0.i64.wrap (((x-2^i:Nat):Int)+((2^m:Nat):Int))=((x-2^i+2^m:Nat):Int):=by rw[aF om (by have:=mE x (2^i);omega)];exact(Int.natCast_add _ _).symm
   have p:bl ((X.take k).flatMap (QX m u)++(lc (i+1)).flatMap (Vd m u x))=bl ((X.take k).flatMap (QX m u)++(lc i).flatMap (Vd m u x))++[((x-2^i:Nat):Int),((x-2^i+2^m:Nat):Int)]:=by rw[F,<- cP,cI,Vd,ae n];rfl
   refine⟨by rw[ap,aA];omega,?_⟩;exact ah ((i+1,v+1)) ⟨(Sx E (ak l om) H U V W p),by dsimp only;omega⟩;have p:(lc (i+1)).flatMap (Vd m u x)=(lc i).flatMap (Vd m u x):=by rw[F,Vd,ac (by rw[n];decide),bh]
   exact ah ((i+1,v)) ⟨(fB E (ak l om) p),by dsimp only;omega⟩;obtain rfl:i=6:=om;refine iD E (show(((6:Nat):Int)<6)=False from aX om) (show((6:Int)<6)=False from aX om) ?_;have p:(X.take k).flatMap (QX m u)++(lc 6).flatMap (Vd m u x)=(X.take (k+1)).flatMap (QX m u):=by rw[D,R]
   exact ah ((k+1,v)) ⟨(rS o E (ak h om) p),by dsimp only;omega⟩;have R:QX m u x=[x]:=ac b;refine iD o f (show(((x&&&u:Nat):Int) != (u:Int))=k0 from bne_iff_ne.2 om) ?_;refine⟨by rw[ap];omega,?_⟩;have p:bl ((X.take (k+1)).flatMap (QX m u))=bl ((X.take k).flatMap (QX m u))++[(x:Int)]:=by rw[D,R,cI];rfl
   exact ah ((k+1,v+1)) ⟨(fB o (ak h om) p),by dsimp only;omega⟩;have:k=lh X:=om;subst this;have J:X.take (lh X)=X:=av;rw[J];refine cZ O (aa (eV _ _ r) ?_);exact DL o J
def sdC(m u b a:Nat):O0:=if a=u then []else [2^m|||a|||b]
def Ja(m u:Nat)(L M:O0)(i j:Nat):O0:=((L.take i).flatMap λb=>M.flatMap (sdC m u b))++(M.take j).flatMap (sdC m u (lg L i 0))
theorem zrE{m u:Nat}(M:O0)(h:k<lh l):Ja m u l M k (lh M)=Ja m u l M (k+1) 0:=by unfold Ja;rw[Xs _ h,av];simp
theorem zoL{m u:Nat}(L:O0)(i:Nat)(h:k<lh l):Ja m u L l i (k+1)=Ja m u L l i k++sdC m u (lg L i 0) (lg l k 0):=by unfold Ja;rw[Xs _ h,cP]
theorem zrF{u t:Nat}{M:O0}:t∈Ja k u l M (lh l) 0↔∃b∈l,∃a∈M,a≠u/\t=2^k|||a|||b:=by unfold Ja;rw[av,pu,kD,bh,iV];refine exists_congr λb=>nZ λ_=>?_;rw[iV];refine exists_congr λa=>nZ λ_=>?_;unfold sdC;by_cases h:a=u;rw[ae h];simp[h];rw[ac h];simp[h]
theorem DB:AC prog 132 [.ag [al a,aE c],al s] (xO (Yg a c s) (a+1) (sdF a.toNat s.toNat (ao c))):=by
 refine cA [.cell 4 31,.tmp 5] func132 λhl=>?_;refine aR ?_;refine aa (aH a c) ?_;cases d:Yg a c s with
 | false =>
   rw[eH];unfold Yg at d;cases q:aS a c with
   | false=>exact ef
   | true =>
     cases r:(a==6)with
     | true=>exact mg r
     | false =>
       cases x:(s==0)with
       | true=>exact DL x r
       | false =>
         refine ff x r ?_;refine aa (sR a c s) ?_;have K:Yj a c s=false:=by rw[x,r]at d;simpa using d
         rw[K];exact ef
 | true =>
   obtain⟨m,u,rfl,rfl,q,N,a0,a1,X,a2⟩:=zh6 d;have K:Yj m c u=true:=by unfold Yg at d;rw[aj]at d;exact d.1
   have x:((u:Int)==0)=false:=beq_eq_false_iff_ne.2 om;have r:((m:Int)==6)=false:=beq_eq_false_iff_ne.2 om;have y:D0.u64.wrap (m:Int)=(m:Int):=dm om;have z:jl .i64 1 (m:Int)=((2^m:Nat):Int):=eh om;have O:D0.i64.wrap ((m:Int)+1)=(m:Int)+1:=aF om om;have Y:2^m<=32:=aV (n:=2) (i:=m) (j:=5) dc om;have l:u<64:=om;rw[kX];refine iD q x r ?_;refine aa (sR m c u) ?_;refine iD K y z ?_;refine aa (cj m c (dM q)) ?_;refine aR ?_;refine aa (jC (ao c) u l) ?_;refine aR ?_;refine aa (jR (ao c) u l) ?_;refine aR ?_;refine aa (lP _ (kz _)) ?_;rw[mo (jq (dL (ao c) u))];have P:∀b,b∈co (dL (ao c) u)↔b<64/\dL (ao c) u b=true:=λb=>cR;have Q:∀n,n∈co (eG u)↔n<64/\u&&&n=n:=λn=>by rw[cR];unfold eG;rw[aK]
   have g:=vW u;unfold Do at g;rw[ae (show 0<=(u:Int)/\(u:Int)<=63 by omega),ar]at g;have A:∀t,t<64->(pB (ao c) u t||decide (t∈Ja m u (co (dL (ao c) u)) (co (eG u)) (co (dL (ao c) u)).length 0))=sdF m u (ao c) t:=λt ht=>by rw[aZ,cw,aq,zrF,zrR X (λt h=>LB q h)];refine or_congr_right ⟨?_,?_⟩;rintro⟨b,d,n,Z,H,f⟩;exact⟨b,n,((P b).1 d).2,((Q n).1 Z).2,H,f⟩;rintro⟨b,n,H,f,h3,h4⟩;have d:=H;unfold dL at d;rw[aj]at d;have:=LB q d.2;exact⟨b,(P b).2 ⟨bD pt (show b|||u<64 by omega),H⟩,n,(Q n).2 ⟨bD (by rw[<- f];exact bI) l,f⟩,h3,h4⟩
   have o:=ap (co (dL (ao c) u));have k:=ap (co (eG u));have a3:=Abs.ordN_len (dL (ao c) u);have a4:=Abs.ordN_len (eG u);have hz:bA (λt=>pB (ao c) u t||decide (t∈Ja m u (co (dL (ao c) u)) (co (eG u)) 0 0)) 64=bA (pB (ao c) u) 64:=gu λt _=>by simp[Ja]
   have R:∀i,i<(co (dL (ao c) u)).length->(co (dL (ao c) u)).getD i 0<2^m:=λi hi=>by have:=((P _).1 (aP 0 hi)).2;unfold dL at this;rw[aj]at this;exact bD pt (LB q this.2)
   have S:∀j,j<(co (eG u)).length->(co (eG u)).getD j 0<2^m:=λj hj=>bD (by rw[<- ((Q _).1 (aP 0 hj)).2];exact bI) X;generalize co (dL (ao c) u)=L at *;generalize co (eG u)=M at *;refine cZ o ?_;refine az (λ(za:Nat×Nat)s=>match za with|(i,w)=>(s.sl 1=al u/\s.sl 2=.ref 2 1 0/\s.rw 2=⟨1,.box 31 [al m,aE c]⟩/\s.sl 4=.ref 4 1 0/\s.rw 4=⟨1,.box 31 [al 0,.v (.slice none 0 0)]⟩/\s.sl 5=.v (.bool l0)/\s.sl 6=al (2^m:Nat)/\s.sl 8=dv (bA (λt=>pB (ao c) u t||decide (t∈Ja m u L M i 0)) 64:Nat)/\s.sl 44=.own 44 1/\s.rw 44=⟨1,.sli 3 1 l0 (iL (bl L))⟩/\s.sl 45=al L.length/\s.sl 46=al i)/\(i<=L.length)) (λ(i,w)=>L.length-i) ((0,0)) ⟨(rS hz o y z),om⟩ ?_;intro(i,w) sa ⟨B,a5⟩;refine ff B o ?_;refine⟨λh=>⟨h,h,?_⟩,λh=>?_⟩;rw[bX h];refine aa g ?_;refine ff B k ?_;refine az (λ(zb:Nat×Nat)s=>match zb with|(j,w)=>(s.sl 1=al u/\s.sl 2=.ref 2 1 0/\s.rw 2=⟨1,.box 31 [al m,aE c]⟩/\s.sl 4=.ref 4 1 0/\s.rw 4=⟨1,.box 31 [al 0,.v (.slice none 0 0)]⟩/\s.sl 5=.v (.bool l0)/\s.sl 6=al (2^m:Nat)/\s.sl 8=dv (bA (λt=>pB (ao c) u t||decide (t∈Ja m u L M i j)) 64:Nat)/\s.sl 10=al (L.getD i 0)/\s.sl 44=.own 44 1/\s.rw 44=⟨1,.sli 3 1 l0 (iL (bl L))⟩/\s.sl 45=al L.length/\s.sl 46=al i/\s.sl 51=.own 51 w/\s.rw 51=⟨w,.sli 3 1 l0 (iL (bl M))⟩/\s.sl 52=al M.length/\s.sl 53=al j)/\(j<=M.length)) (λ(j,w)=>M.length-j) ((0,(sa.rw 51).ver+1)) ⟨(fB B k (bX h)),om⟩ ?_;intro(j,w) sb ⟨I,a6⟩;refine ff I k ?_;refine⟨λf=>⟨f,f,?_⟩,λf=>?_⟩;have Z:=S j f;have d:=R i h;have p:=zoL (m:=m) (u:=u) L i f;have U:(bl M).getD j 0=((M.getD j 0:Nat):Int):=bX f;rw[U];generalize M.getD j 0=n at *;refine⟨λJ=>?_,λJ=>?_⟩;have V:¬n=u:=λe=>by rw[e]at J;simp at J
   have C:2^m|||n<2^(m+1):=cu (bN dc om) (by rw[fm];omega)
   have D:2^m|||n|||L.getD i 0<2^(m+1):=cu C (by rw[fm];omega)
   rw[fm]at C D;have E:EX .i64 ((2^m:Nat):Int) (n:Int)=((2^m|||n:Nat):Int):=nQ om om;have F:EX .i64 ((2^m|||n:Nat):Int) ((L.getD i 0:Nat):Int)=((2^m|||n|||L.getD i 0:Nat):Int):=nQ om om;have G:D0.u64.wrap ((2^m|||n|||L.getD i 0:Nat):Int)=((2^m|||n|||L.getD i 0:Nat):Int):=dm om;have N:=dj (λt=>pB (ao c) u t||decide (t∈Ja m u L M i j)) 64;have a7:(2:Nat)^(2^m|||n|||L.getD i 0)<2^64:=bN dc om;have W:EX .u64 (bA (λt=>pB (ao c) u t||decide (t∈Ja m u L M i j)) 64:Nat) (jl .u64 1 ((2^m|||n|||L.getD i 0:Nat):Int))=((bA (λt=>pB (ao c) u t||decide (t∈Ja m u L M i (j+1))) 64:Nat):Int):=by rw[yU om,Ca om om,CX _ om];congr 1;refine gu λt _=>?_;rw[p,sdC,ac V,nI];congr 1;simp only[gG,fZ,Bool.decide_or];congr 1
   exact⟨by rw[E,F,G];omega,ah ((j+1,w)) ⟨(MT I (ak f om) E F G W),by dsimp only;omega⟩⟩;have he:n=u:=by have:=beq_iff_eq.1 (show((n:Int)==(u:Int))=k0 by simpa using J);omega
   rw[sdC,ae he,bh]at p;exact ah ((j+1,w)) ⟨(fB I (ak f om) p),by dsimp only;omega⟩;have:j=M.length:=om;subst this;exact ah ((i+1,w)) ⟨(rS B I (ak h om) (zrE (m:=m) (u:=u) M h)),by dsimp only;omega⟩;have:i=L.length:=om;subst this;rw[gu A];refine cZ O ?_;refine aa (dP _ _) ?_;exact mg B
def wd(n:Nat)(L:List O0):List O0:=L.flatMap λl=>(lc n).flatMap λx=>if x∈l then []else [l++[x]]
def rG(n:Nat)(L:List O0):Nat->List O0|0=>L|r+1=>wd n (rG n L r)
theorem JF(B:List O0):wd n (L++B)=wd n L++wd n B:=by simp[wd]
theorem JG(n:Nat)(A B:List O0):∀r,rG n (A++B) r=rG n A r++rG n B r
 | 0=>rfl
 | r+1=>by simp[rG,JG,JF]
theorem zck(n:Nat):∀r,rG n [] r=[]
 | 0=>rfl
 | r+1=>by rw[rG,zck n r];rfl
theorem Vf(n r:Nat):∀L:List O0,rG n L r=L.flatMap λl=>rG n [l] r
 | []=>by simp[zck]
 | l::L=>by rw[cE,<- Vf n r L,<- JG];rfl
theorem Vg(n:Nat):∀(r:Nat) (L:List O0),rG n L (r+1)=rG n (wd n L) r
 | 0,L=>rfl
 | r+1,L=>by rw[rG,Vg n r L];rfl
theorem zif(n:Nat):∀(m:Nat)(head:O0),rG n [head] m=nk n m head
 | 0,head=>rfl
 | m+1,head=>by
   rw[Vg,Vf];have:wd n [head]=(lc n).flatMap λx=>if x∈head then []else [head++[x]]:=by unfold wd;simp
   rw[this,List.flatMap_assoc];congr 1;funext k;split;rfl;simp[cE,kD,bh,zif]
theorem zcl:∀n,n<7->∀r,r<7->lh (rG n [[]] r)<=720:=by decide +kernel
theorem zo6:∀n,n<7->∀r,r<n+1->(((rG n [[]] r).all λl=>lh l==r)&&decide (0<lh (rG n [[]] r)))=true:=by decide +kernel
def MR(l:O0)(x:Nat):List O0:=(lc x).flatMap λx=>if x∈l then []else [l++[x]]
theorem zcm:MR X (i+1)=MR X i++if i∈X then []else [X++[i]]:=by unfold MR;rw[bW,fO];simp
theorem XB(l:O0):∀x,lh (MR l x)<=x
 | 0=>by simp[MR]
 | x+1=>by have:=XB l x;rw[zcm,aA];split<;>simp<;>omega
theorem zj8(h:k<lh L):wd n (L.take (k+1))=wd n (L.take k)++MR (lg L k []) n:=by rw[bj [] h,JF];congr 1;unfold wd MR;rw[cE,kD,bh]
theorem zo7:lh (wd n L)<=n*L.length:=by
 induction L with
 | nil=>simp[wd]
 | cons l L a =>
   have:wd n (l::L)=MR l n++wd n L:=by unfold wd MR;rw[cE]
   rw[this,aA,bH,xu];have:=XB l n;omega
theorem zL:lg (L.map bl) i []=bl (lg L i []):=by by_cases h:i<lh L;grind;simp[h,bl]
def Vh(rw:S0)(r:Nat):Prop:=∀j,100+r<=j%1000->j%1000<106->rw j=⟨0,.dead⟩
theorem Vh.same{rw rw':S0}(h:Vh rw k)(c:∀j,100+k<=j%1000->j%1000<106->rw' j=rw j):Vh rw' k:=λj a b=>by rw[c j a b,h j a b]
theorem DE{j r c:Nat}(h:100+r<=j%1000)(a:c<100):(j=c)=False:=aX om
theorem xk{j r c:Nat}(h:100+r<=j%1000)(a:c<100):(c=j)=False:=aX om
theorem xP(h1:1<=n)(h6:n<=6):AC prog 217 [al n] (.im (.sl k0 1 (mF ((nk n n []).map bl)))):=by
 refine cA [.tmp 2] func217 λhl=>?_;refine aR ?_;refine zbL (k:=8) (v:=1) (e:=29) (d:=3) (n:=1) (by simp -dsimp only[gr,simprocAttr];rfl) dc gl (λ(r:Nat)s=>(s.sl 0=al n/\s.sl 3=.sl k0 1 (mF ((rG n [[]] r).map bl)))/\(r<=n/\Vh s.rw r)) (λr=>n-r) (0) (λU qw f g=>⟨(by and_intros<;>(first|(simp -dsimp only[gr,simprocAttr,f,g,qw];first|done|rfl|(simp;done))|assumption|rfl)),⟨aB _,λj a b=>by have m:=λc=>DE (c:=c) a;have o:=λc=>xk (c:=c) a;rw[g j (by simp;omega)];simp -dsimp only[gr,simprocAttr,m,o]⟩⟩) ?_;intro r V ⟨W,X⟩;obtain⟨hr,l⟩:=X;have w:=zo6 n om r om;have a7:=zcl n om r om;rw[aj,bT,aY]at w;have Y:rG n [[]] (r+1)=wd n (rG n [[]] r):=rfl;generalize hL:rG n [[]] r=L at *;have C:lh (L.map bl)=lh L:=aG _;have h0:lh (lg (L.map bl) 0 [])=r:=by rw[zL,ap];have:=w.1 _ (aP [] w.2);simpa using this
 simp -dsimp only[↓gp,gq,simprocAttr,gT,W,h0];refine⟨om,om,λZ=>?_,λZ=>?_⟩;obtain⟨K,hK⟩:∃K,K=100+r:=⟨_,rfl⟩;have y:∀j,j<100->(K=j)=False:=λj t=>aX om;have z:∀j,j<100->(j=K)=False:=λj t=>aX om;have E:∀i j,j<100->(dq K i=j)=False:=λi j t=>Ax j K i om;have F:∀i j,j<100->(j=dq K i)=False:=λi j t=>Aw j K i om;have J:K%1000=K:=om;have k6:∀i,(dq K i=K)=False:=λi=>Ax K K i om;have k7:∀i,(K=dq K i)=False:=λi=>Aw K K i om;have d1:V.rw K=⟨0,.dead⟩:=l K om om;have d2:∀i,V.rw (dq K i)=⟨0,.dead⟩:=λi=>l _ (by rw[gf];omega) (by rw[gf];omega);have m3:∀j,100+(r+1)<=j%1000->(j=K)=False:=λj t=>aX om;have m4:∀j,100+(r+1)<=j%1000->(K=j)=False:=λj t=>aX om;refine znJ (j:=4) (v:=(V.rw 4).ver+1) (k:=K) (d:=4) (e:=29) (e2:=3) gl dc gl (by simp -dsimp only[gr,simprocAttr,y,z];exact d1) (λi=>by simp -dsimp only[gr,simprocAttr,E,F];exact d2 i) (by rw[J];simp;omega) (λ((i,v):Nat×Nat) s=>(s.sl 0=al n/\s.sl 4=.own K v/\s.sl 15=.sl k0 1 (mF (L.map bl))/\s.sl 16=al (lh L)/\s.sl 17=al i)/\(i<=lh L/\TabG s.rw K v 29 3 ((wd n (L.take i)).map bl).length ((wd n (L.take i)).map bl)/\Vh s.rw (r+1))) (λ(i,v)=>lh L-i) ((0,1)) (λU qw f g=>⟨(rS f g W C),⟨aB _,qw,λj a b=>by
  rw[g j (by rw[J];simp;omega) om];have m:=λc=>DE (c:=c) a;have o:=λc=>xk (c:=c) a;simp -dsimp only[gr,simprocAttr,m,o];exact l j om b⟩⟩) ?_
 intro(i,v) sb ⟨N,a0⟩;obtain⟨hi,G,O⟩:=a0;refine ff N C ?_;refine⟨λh=>⟨om,om,?_⟩,λh=>?_⟩;have P:i<lh L:=om;have a1:=zj8 n L P;have a8:lh (lg L i [])=r:=by have:=w.1 _ (aP [] P);simpa using this
 generalize a2:wd n (L.take i)=H at *;have a5:lh H<=6*720:=by rw[<- a2];refine aJ (zo7 _ _) (zX h6 (by rw[bg];omega))
 generalize a3:lg L i []=p at *;refine az (λ((x,v):Nat×Nat) s=>(s.sl 0=al n/\s.sl 4=.own K v/\s.sl 15=.sl k0 1 (mF (L.map bl))/\s.sl 16=al (lh L)/\s.sl 17=al i/\s.sl 6=.sl k0 1 (iL (bl p))/\s.sl 7=al x)/\(x<=n/\TabG s.rw K v 29 3 ((H++MR p x).map bl).length ((H++MR p x).map bl)/\Vh s.rw (r+1))) (λ(x,v)=>n-x) ((0,v)) ⟨(fB N @zL a3),⟨aB _,by
  have e:H++MR p 0=H:=by simp[MR]
  rw[e];exact G.same (xr2 y z) (λx=>by simp -dsimp only[gr,simprocAttr,E,F]),O.same λj a b=>by
  have m:=λc=>DE (c:=c) a;have o:=λc=>xk (c:=c) a;simp -dsimp only[gr,simprocAttr,m,o]⟩⟩ ?_
 intro(x,v) sc ⟨D,a4⟩;obtain⟨hx,u,I⟩:=a4;refine cZ D ?_;refine⟨λh2=>aa (tK _ _) ?_,λh2=>?_⟩;have Q:x<n:=om;have A:=zcm p x;refine cZ D ?_;refine⟨λB=>?_,λB=>?_⟩;have B:x∉p:=λe=>by rw[ay (nF.2 e)]at B;cases B
 rw[ac B]at A;refine aa (pd _ (by rw[ap];omega)) ?_;refine ff D @ap ?_;refine⟨om,zfQ ?_⟩;generalize R:(H++MR p x).map bl=S at *;have a6:lh S<=10000:=by rw[<- R,aG,aA];have:=XB p x;omega
 refine xA D @ap @u.top @bP @bp y z ?_;have e:(H++MR p (x+1)).map bl=S++[bl (p++[x])]:=by rw[A,<- cP,cq,R];rfl
 refine⟨om,?_⟩;exact tD (k:=K) (v:=v+1) (e:=29) (e2:=3) (n:=lh S) (d:=32) (vd:=(sc.rw 32).ver+1+1) (M:=S) (r:=bl (p++[x])) (xr2 y z) rfl (λj t=>by simp -dsimp only[gr,simprocAttr,E,F,k6,k7,u.row j t]) (λj t=>by simp -dsimp only[gr,simprocAttr,E,F,k6,k7,u.rest j t]) (xr3 y z @Px) dc (by rw[J];simp;omega) ((x+1,v+1)) (λU qw f g=>⟨(Sx f g D D (ak Q om) y z),⟨by dsimp only;omega,by rw[e,aA,cG];exact qw,I.same λj a b=>by
  have m:=λc=>DE (c:=c) a;have o:=λc=>xk (c:=c) a;rw[g j (by rw[J];simp;omega) (by simp;omega)];simp -dsimp only[gr,simprocAttr,m,o,m3 j a,m4 j a]⟩⟩) (by first|omega|(simp only;omega)|(dsimp only;omega)|(show _<_;simp;omega))
 have B:x∈p:=aC λe=>by rw[aD (λe'=>e (nF.1 e'))]at B;cases B
 rw[ae B,bh]at A;exact ah ((x+1,v)) ⟨(gE D (ak Q om)),⟨om,by rw[A];exact u.same (xr2 y z) (λx=>by simp -dsimp only[gr,simprocAttr,E,F]),I.same λj a b=>by
  have m:=λc=>DE (c:=c) a;have o:=λc=>xk (c:=c) a;simp -dsimp only[gr,simprocAttr,m,o]⟩⟩
 have:x=n:=om;subst this;exact ah ((i+1,v)) ⟨(fB N D (ak h om)),⟨by dsimp only;omega,by rw[a1];exact u.same (xr2 y z) (λx=>by simp -dsimp only[gr,simprocAttr,E,F]),I.same λj a b=>by
  have m:=λc=>DE (c:=c) a;have o:=λc=>xk (c:=c) a;simp -dsimp only[gr,simprocAttr,m,o]⟩⟩
 have:i=lh L:=om;rw[this,av,<- Y]at G;exact zea (k:=K) (v:=v) (e:=29) (e2:=3) (q:=lc ((rG n [[]] (r+1)).map bl).length) (M:=(rG n [[]] (r+1)).map bl) (d:=3) ((G.done).same (xr2 y z) (λx=>by simp -dsimp only[gr,simprocAttr,E,F])) (by show K<1000000;omega) (λj t=>by
  have h5:=zcl n om (r+1) om;have:=List.mem_range.1 t;rw[aG]at this;rw[fX];show _<1000000;omega) (rp N) (r+1) (λU qw f g=>⟨(by and_intros<;>(first|(simp -dsimp only[gr,simprocAttr,f,g,W,qw,N];first|done|rfl|(simp;done))|assumption|rfl)),⟨om,λj a b=>by
  rw[g j (by rw[J];simp;omega)];have m:=λc=>DE (c:=c) a;have o:=λc=>xk (c:=c) a;simp -dsimp only[gr,simprocAttr,m,o];exact O j a b⟩⟩) (by first|omega|(simp only;omega)|(dsimp only;omega)|(show _<_;simp;omega))
 have:r=n:=om;subst this;rw[<- hL,zif];exact⟨rfl,⟨k0,rfl⟩,sp⟩
theorem Ve:∀c d:N0,lh c=lh d->(decide (Ye c d<0))=ut c d
 | [],[],_=>rfl
 | [],_::_,h=>by grind
 | _::_,[],h=>rfl
 | a::c,b::d,h=>by have g:=Ve c d<|ss h;unfold Ye ut zkA;grind
theorem Ir{m:Nat}(e:m<=6){a:O0}(f:∀x∈a,x<2^m)(g:a.Nodup):∀(N:List O0) (b:N0),(∀c∈N,goodN m c)->lh b=lh a->lh (pI a N b)=lh a
 | [],b,_,d=>d
 | c::N,b,h,d=>by
   have:=Ir e f g N (if ut (wu a c) b then wu a c else b) (λx i=>h x<|by grind)<|by
    split;exact zh9 e (h c sp) f g;grind
   exact this
theorem kC:AC prog 120 [.ag [al a,aE c]] (.tup [.ag [.im (al (zoX a c (aS a c))),.fr 3 1 (iL (uk a c))],.im (aU (aS a c))]):=by
 refine cA [.cell 2 31,.tmp 3] func120 λP=>?_;simp only[dt,dT,dF,gb,jt,hZ,cC]at P;refine aR (aa (aH a c) ?_);refine aR ?_;refine⟨λg=>?_,λg=>?_⟩;have g:aS a c=false:=ss g;have:uk a c=[]:=by unfold uk;rw[ac (by rw[g];decide)]
 rw[g,this];exact⟨rfl,rfl,rfl⟩;have g:aS a c=true:=ss g;obtain⟨m,n,rfl,F,b,G,H,C,I,r⟩:=DD g;have A:uk (m:Int) c=pI n (nk m m []) c:=by unfold uk;rw[ae g,H];rfl
 have J:zoX (m:Int) c k0=(m:Int):=ae rfl;rw[A,g,J];subst G;have Q:=fH g;refine aa (pd (bl n) om) ?_;refine aR (aa (xP m F b) ?_);have R:=zK m om;have l:∀D∈nk m m [],goodN m D:=λD h=>rO h;generalize nk m m []=N at *;have t:lh (N.map bl)=lh N:=sp;refine ff @qe t ?_;refine znH (j:=14) (v:=1) (e:=3) (sz:=1) (c:=iL (bl n)) (d:=4) gl gl 900 1 gl dc rfl (λ((k,u):Nat×Nat) s=>(s.sl 1=.ref 1 1 0/\s.rw 1=⟨1,.box 31 [al m,aE (bl n)]⟩/\s.sl 2=.ref 2 1 0/\s.rw 2=⟨1,.box 31 [al 0,.v (.slice none 0 0)]⟩/\s.sl 4=.own 900 u/\s.rw 900=⟨u,.sli 3 1 l0 (iL (pI n (N.take k) (bl n)))⟩/\s.sl 17=.sl k0 1 (mF (N.map bl))/\s.sl 18=al (lh N)/\s.sl 19=al k)/\(k<=lh N)) (λ(k,u)=>lh N-k) ((0,1)) (λU qw o w=>⟨(by and_intros<;>(first|(simp -dsimp only[gr,simprocAttr,o,w,qw,t];first|done|rfl|(simp;done))|assumption|rfl)),sp⟩) ?_;intro(k,u) V ⟨z,W⟩;refine ff z t ?_;refine⟨λh=>⟨h,h,?_⟩,λh=>?_⟩;have B:lg N k []∈N:=aP [] h;have E:=l _ B;have K:=zL N k;rw[K];have L:∀x∈n,x<64:=λx X=>cp (C x X) (aV (n:=2) (i:=m) (j:=6) om b);refine aa (qK n (lg N k []) L I (by have:=E.len;omega) (E.at6 b) (zeL b E C r)) ?_;refine cZ z (aa (GN _ _) ?_);have p:=Pv n (N.take k) (lg N k []) (bl n);rw[<- bj [] h]at p;have q:=Ve (wu n (lg N k [])) (pI n (N.take k) (bl n)) (by
  rw[zh9 b E C r,Ir b C r _ _ (λD M=>l D (jK M)) (ap n)])
 refine cZ z ?_;have O:bl (co (hU (bl (Ge n (lg N k [])))))=wu n (lg N k []):=rfl;rw[O];refine⟨λy=>?_,λy=>?_⟩;rw[ay y]at q;rw[ae q.symm]at p;exact zjw (j:=26) (v:=(V.rw 26).ver+1) (e:=3) (sz:=1) (c:=iL (wu n (lg N k []))) (d:=4) gl gl 900 (u+1) (by simp -dsimp only[gr,simprocAttr,z];exact dD _) dc rfl ((k+1,u+1)) (λU qw o w=>⟨(by and_intros<;>(first|(simp -dsimp only[gr,simprocAttr,o,w,z,qw,p,ak h om];first|done|rfl|(simp;done))|assumption|rfl)),by dsimp only;omega⟩) (by first|omega|(simp only;omega)|(dsimp only;omega)|(show _<_;simp;omega));rw[aD y]at q;rw[ac (by rw[<- q];decide)]at p;exact ah ((k+1,u)) ⟨(fB z p (ak h om)),by dsimp only;omega⟩;have:k=lh N:=om;rw[this,av]
theorem rn(m b:N0):AC prog 193 [.ag [al a,aE m],.ag [al s,aE b]] (.im (aU (decide (a=s/\m=b)))):=by refine cA [.tmp 4] func193 λc=>?_;refine aR ?_;refine⟨λh=>aa (Cf _ _) ?_,λh=>?_⟩;refine aR ?_;grind;grind
theorem sS(b:N0):AC prog 162 [aE c,aE b] (.im (aU (decide (c=b)))):=by
 refine cA [.tmp 4] func162 λj=>?_;simp[dt,ga]at j;refine aR ?_;refine⟨λh=>?_,λh=>?_⟩;grind;have k:lh c=lh b:=by grind
 refine az (λ(i:Nat)s=>(s.sl 0=aE c/\s.sl 1=aE b/\s.sl 12=al _/\s.sl 13=al i)/\(i<=lh c/\c.take i=b.take i)) (λi=>lh c-i) 0 ⟨nm,sp⟩ ?_;intro i l ⟨g,f⟩;have⟨m,a⟩:=f;refine cZ g ?_;refine⟨λh=>⟨kr,h,h,om,om,λd=>?_,λd=>?_⟩,λh=>?_⟩;grind;exact ah _ ⟨(gE g<|ak h om),⟨h,by
  rw[bj 0 h,bj 0<|by omega];grind⟩⟩
 grind
theorem Bz(m b:N0):AC prog 163 [.ag [al a,aE m],.ag [al s,aE b]] (.im (aU (decide (a=s/\m=b)))):=by refine cA [.tmp 4] func163 λc=>?_;refine aR ?_;refine⟨λh=>aa (sS _ _) ?_,λh=>?_⟩;refine aR ?_;grind;grind
def cfG(f:V0)(s t:Nat):Bool:=(lc 64).all λu=>dL f s u==(eG t u&&!(u==t))
noncomputable def flB(n:Int)(f:V0)(s t:Int):Bool:=di n s&&(di n t&&(!(s==0)&&(!(t==0)&&(!(fu .i64 s t != 0)&&(f s.toNat&&(!f t.toNat&&cfG f s.toNat t.toNat))))))
theorem zrA(b:V0):(((bA f 64:Nat):Int)==((bA b 64:Nat):Int))=(lc 64).all λu=>f u==b u:=by rw[aZ,aK,aY];constructor;intro h u a;have a:=List.mem_range.1 a;have e:bA f 64=bA b 64:=om;rw[aK,<- ek f a,<- ek b a,e];intro h;rw[gu λu a=>beq_iff_eq.1<|h u<|List.mem_range.2 a]
theorem Xr:AC prog 231 [al a,dv (bA f 64:Nat),al s,al t] (.im (aU (flB a f s t))):=by
 refine cA [.tmp 8] func231 λr=>?_;unfold flB;refine aR (aa (eR a s) ?_);cases l:di a s with
 | false=>exact ef
 | true =>
   refine aR (aa (eR a t) ?_);cases o:di a t with
   | false=>exact ef
   | true =>
     obtain⟨m,u,rfl,rfl,w,y,n⟩:=iI l;obtain⟨_,v,_,rfl,_,_,b⟩:=iI o;cases c:((u:Int)==0)with
     | true=>exact mg c
     | false =>
       cases d:((v:Int)==0)with
       | true=>exact DL c d
       | false =>
         cases i:(fu .i64 (u:Int) (v:Int) != 0)with
         | true=>exact RY c d i
         | false =>
           refine iD c d i (aa (ez _ u (kz f) n) ?_);rw[jq f u n];cases j:f u with
           | false=>exact mg j
           | true =>
             refine cZ j (aa (ez _ v (kz f) b) ?_);rw[jq f v b];cases k:f v with
             | true=>exact mg k
             | false =>
               refine cZ k (aa (jR f u n) ?_);refine aR (aa (gC v b) ?_);have g:D0.u64.wrap (v:Int)=(v:Int):=dm om;have p:(2:Nat)^v<2^64:=bN om om;have h:gU .u64 (bA (eG v) 64:Nat) (jl .u64 1 (v:Int))=((bA (λx=>eG v x&&!(x==v)) 64:Nat):Int):=by have q:=dj (eG v) 64;rw[yU om,UZ om (ss p)];congr 1;refine og _ ?_ λx h=>?_;exact gR (dj _ 64) (bD bI (dj _ 64));rw[eS,bQ,ek _ h,bR];by_cases e:v=x;subst e;cases eG v v<;>simp;have:(x==v)=false:=beq_eq_false_iff_ne.2 (Ne.symm e);rw[this,aD e];cases eG v x<;>rfl
               refine iD g h @zrA ?_;rfl
theorem Po:AC prog 133 [.ag [al a,aE c],al s,al t] (.im (aU (zy a c&&flB a (ao c) s t))):=by
 refine cA [.tmp 6] func133 λd=>?_;refine aR ?_;refine⟨kr,aa (nD a c) ?_⟩;cases b:zy a c with
 | false=>exact ef
 | true =>
   have n:aS a c=true:=by simp_all[zy]
   refine aR<|aa (cj a c<|dM n) ?_;refine aR<|aa (Xr a _ s t) ?_;exact ef
theorem zrB{g:V0}(b:DnF d)(c:DnF g):decide (bl (dI d k0)=bl (dI g k0))=(lc 64).all λx=>d x==g x:=by rw[aZ,aq,aY];constructor;intro h x a;have a:=List.mem_range.1 a;have e:=cV (λl=>ao l x) h;simp[vv,zep b a,zep c a]at e;grind;intro h;rw[je λx a=>beq_iff_eq.1<|h x<|List.mem_range.2 a]
theorem zvW(h:DnF d)(u:Nat):DnF (dL d u):=λs t b c=>by unfold dL at *;rw[aj,aK]at *;refine⟨bB λi=>?_,h _ _ b.2<|cg.2 λi f=>?_⟩;grind;grind
theorem zrC:DnF λx=>eG n x&&!(x==n):=λs t a b=>by unfold eG at *;grind
theorem Pp:AC prog 87 [.ag [al a,aE c],al s,al t] (.im (aU (zy a c&&flB a (ao c) s t))):=by
 refine cA [.tmp 6] func87 λY=>?_;unfold flB;refine aR (aa (nC a c) ?_);cases A:zy a c with
 | false=>exact ef
 | true =>
   have g:aS a c=true:=by unfold zy at A;rw[aj]at A;exact A.1
   have i:=dM g;have O:=fH g;refine aR (aa (mT a c s) ?_);rw[g];cases B:di a s with
   | false=>exact ef
   | true =>
     refine aR (aa (mT a c t) ?_);rw[g];cases P:di a t with
     | false=>exact ef
     | true =>
       obtain⟨m,u,rfl,rfl,Z,hu,f⟩:=iI B;obtain⟨_,v,_,rfl,_,_,C⟩:=iI P;cases z:((u:Int)==0)with
       | true=>exact mg z
       | false =>
         cases D:((v:Int)==0)with
         | true=>exact DL z D
         | false =>
           cases J:(fu .i64 (u:Int) (v:Int) != 0)with
           | true=>exact RY z D J
           | false =>
             refine iD z D J (aa (jB m c u i f) ?_);cases E:ao c u with
             | false=>exact mg E
             | true =>
               refine cZ E (aa (jB m c v i C) ?_);cases M:ao c v with
               | true=>exact mg M
               | false =>
                 refine cZ M ?_;refine aa (lQ m c u f i om) ?_;have l:=OV g f;have F:=fH l;have e:bl (dI (hU (qU c u)) k0)=bl (dI (dL (ao c) u) k0):=by conv=>lhs;rw[xe l,OT g f]
                 rw[e]at F ⊢;have Q:bl (dI (hU (bl ((co (eG v)).filter λx=>!(x==v)))) k0)=bl (dI (λx=>eG v x&&!(x==v)) k0):=by refine cV bl (je (λx o=>?_) k0);rw[pb,aZ,aq,dG,cR,aj];exact⟨λh=>⟨h.1.2,h.2⟩,λh=>⟨⟨o,h.1⟩,h.2⟩⟩
                 have p:=zrB (zvW (nV g).1 u) (zrC v);have R:=(vu (λx=>eG v x&&!(x==v)) k0);have d:=vX v;unfold Do at d;rw[ae (show 0<=(v:Int)/\(v:Int)<=63 by omega),ar]at d;have j:=ap (co (eG v));have S:=Abs.ordN_len (eG v);have r:∀x∈co (eG v),x<64:=λx o=>(cR.1 o).1;generalize U:bl (dI (dL (ao c) u) k0)=K at *;generalize G:(λx:Nat=>!(x==v))=q at *;generalize co (eG v)=L at *;refine aR (aa d ?_);refine cZ j ?_;refine az (λ((k,w):Nat×Nat) n=>(n.sl 1=al u/\n.sl 2=al v/\n.sl 3=.ref 3 1 0/\n.rw 3=⟨1,.box 31 [al m,aE c]⟩/\n.sl 7=.ref 7 1 0/\n.rw 7=⟨1,.box 31 [al m,.own 53 1]⟩/\n.rw 53=⟨1,.sli 3 1 l0 (iL K)⟩/\n.sl 8=.own 54 w/\n.rw 54=⟨w,.sli 3 1 l0 (iL (bl ((L.take k).filter q)))⟩/\n.sl 9=.own 56 1/\n.rw 56=⟨1,.sli 3 1 l0 (iL (bl L))⟩/\n.sl 10=al k)/\(k<=lh L)) (λ(k,w)=>lh L-k) ((0,1)) ⟨(jX j),om⟩ ?_;intro(k,w) sa ⟨b,W⟩;have X:lh ((L.take k).filter q)<=k:=aJ (aO _ _) (by rw[bg];omega);refine ff b j ?_;refine⟨λh=>?_,λh=>?_⟩
                 ·have H:(((lg L k 0:Nat):Int) != (v:Int))=q (lg L k 0):=by rw[<- G,aZ,gS,bC,bc];omega
                  rw[bX h,H];refine⟨h,h,λI=>⟨h,h,by rw[ap];omega,?_⟩,λI=>?_⟩
                  ·have e:=ny h I;exact ah ((k+1,w+1)) ⟨(DM b (ak h om) e @cI @jZ),by dsimp only;omega⟩
                  ·exact ah ((k+1,w)) ⟨(fB b (ak h om) (qv h I)),by dsimp only;omega⟩
                 ·have:k=lh L:=om;subst this;have y:L.take (lh L)=L:=av;rw[y];refine⟨kr,aa (eV m _ λx o=>?_) ?_⟩
                  ·obtain⟨n,B,rfl⟩:=AY o;have:=r n (List.mem_filter.1 B).1;omega
                  ·rw[Q];have N:=ap (dI (λx=>eG v x&&!(x==v)) k0);refine ff b y (aa (rn m m K _) ?_);rw[show decide ((m:Int)=m/\K=bl (dI (λx=>eG v x&&!(x==v)) k0))=cfG (ao c) u v from (decide_eq_decide.2 ⟨λh=>h.2,λh=>⟨rfl,h⟩⟩).trans p];refine cZ b ?_;exact⟨kr,by rw[E,au]⟩
def fpF(n:Nat)(f:V0)(s t x:Nat):Bool:=pB f s x||(decide (x<2^n)&&((s|||t)&&&x==x&&!(x&&&s==s)))
noncomputable def Yf(n:Int)(a:N0)(s t:Int):Bool:=zy n a&&flB n (ao a) s t
theorem zh5{s t:Int}(h:Yf x C s t=k0):∃m u v:Nat,x=m/\s=u/\t=v/\aS x C=k0/\m<=6/\u<2^m/\v<2^m/\u&&&v=0:=by unfold Yf flB zy at h;simp only[aj,bC]at h;obtain⟨⟨b,_⟩,c,d,_,_,f,_⟩:=h;obtain⟨m,u,rfl,rfl,g,i,j⟩:=iI c;obtain⟨_,v,k,rfl,_,l,o⟩:=iI d;obtain rfl:m=_:=Int.ofNat.inj k;have e:fu .i64 (u:Int) (v:Int)=((u&&&v:Nat):Int):=ej om om;rw[e,bne_eq_false_iff_eq]at f;exact⟨m,u,v,rfl,rfl,rfl,b,g,i,l,om⟩
theorem KF(t:Nat)(l:n<64)(c:i<64)(d:t<64):AC prog 137 [al n,.eref l0 [al i] 0,.eref l0 [al t] 0] (.im (aU ((i|||t)&&&n==n&&!(n&&&i==i)))):=by
 refine cA [.tmp 4] func137 λm=>?_;have e:EX .i64 (i:Int) (t:Int)=((i|||t:Nat):Int):=nQ om om;have f:=cu (n:=6) c d
 have g:gU .i64 (n:Int) _=((n ^^^ (n&&&(i|||t)):Nat):Int):=fv om om;have x:gU .i64 (i:Int) (n:Int)=((i ^^^ (i&&&n):Nat):Int):=fv om om;have j:(((n ^^^ (n&&&(i|||t)):Nat):Int)==0)=((i|||t)&&&n==n):=by have:=gW (a:=n) (b:=i|||t);grind
 have k:(((i ^^^ (i&&&n):Nat):Int) != 0)=!(n&&&i==i):=by have:=gW (a:=i) (b:=n);grind
 refine nN e g x j k ?_;grind
theorem QI:AC prog 48 [.ag [al a,aE c],al s,al t] (xO (Yf a c s t) a (fpF a.toNat (ao c) s.toNat t.toNat)):=by
 refine cA [.cell 6 31,.tmp 7] func48 λo=>?_;refine aR (aa (Po a c s t) ?_);cases d:Yf a c s t with
 | false =>unfold Yf at d;rw[eH,d];exact ef
 | true =>
   obtain⟨m,u,v,rfl,rfl,rfl,g,e,p,q,h⟩:=zh5 d;have i:=dx e;unfold Yf at d;rw[kX,d];refine aR ?_;refine⟨kr,aa (cj m c (dM g)) ?_⟩;refine aR ?_;refine aa (jC (ao c) u om) ?_;refine aR ?_;refine aa (gF m e _ [.eref l0 [al u] 0,.eref l0 [al v] 0] (λx=>(u|||v)&&&x==x&&!(x&&&u==u)) (λrw=>rfl) λx j=>KF x u v om om om) ?_;rw[oq (w':=λx=>decide (x<2^m)&&((u|||v)&&&x==x&&!(x&&&u==u))) e λx j=>rfl];have k:=dj (pB (ao c) u) 64;have l:=dj (λx=>decide (x<2^m)&&((u|||v)&&&x==x&&!(x&&&u==u))) 64;have f:EX .u64 (bA (pB (ao c) u) 64:Nat) (bA (λx=>decide (x<2^m)&&((u|||v)&&&x==x&&!(x&&&u==u))) 64:Nat)=((bA (fpF m (ao c) u v) 64:Nat):Int):=by rw[Ca om om,FB];rfl
   refine cZ f (aa (dP _ _) ?_);exact ef
theorem QJ:AC prog 33 [.ag [al a,aE c],al s,al t] (xO (Yf a c s t) a (fpF a.toNat (ao c) s.toNat t.toNat)):=by
 refine cA [.cell 6 31,.tmp 7] func33 λhl=>?_;refine aR (aa (Pp a c s t) ?_);cases I:Yf a c s t with
 | false =>unfold Yf at I;rw[eH,I];exact ef
 | true =>
   obtain⟨m,u,v,rfl,rfl,rfl,hc,hm,hu,hv,V⟩:=zh5 I;have J:=dx hm;unfold Yf at I;have b:∀x,x∈co (ao c)↔x<64/\ao c x=true:=λx=>cR;have d:∀x,x∈co (eG u)↔x<64/\u&&&x=x:=λx=>by rw[cR];unfold eG;rw[aK]
   have K:Uu (bl ((co (ao c)).filter (λx=>!(x&&&u==u))++((co (eG u)).filter λx=>!(x==u)).map λx=>x|||v)):=λz W=>by
    obtain⟨x,l,rfl⟩:=AY W;rcases List.mem_append.1 l with l|l
    have:=((b x).1 (List.mem_filter.1 l).1).1;omega;obtain⟨y,o,rfl⟩:=List.mem_map.1 l;have:=cu (n:=6) ((d y).1 (List.mem_filter.1 o).1).1 (show v<64 by omega);omega
   have e:bl (dI (hU (bl ((co (ao c)).filter (λx=>!(x&&&u==u))++((co (eG u)).filter λx=>!(x==u)).map λx=>x|||v))) k0)=bl (dI (fpF m (ao c) u v) k0):=by
    refine zJ K λf ht=>?_;unfold fpF;rw[cw,aj,aq,aj,aK,bC,bc];constructor;rintro(h|⟨_,E,g⟩);have U:=h;unfold pB at U;rw[aj]at U;exact⟨(f:Int),List.mem_map.2 ⟨f,mB _ (List.mem_filter.2 ⟨(b f).2 ⟨ht,U.1⟩,U.2⟩),rfl⟩,by rw[ar,dp]⟩;refine⟨((f&&&u|||v:Nat):Int),List.mem_map.2 ⟨_,gM _ (List.mem_map.2 ⟨f&&&u,List.mem_filter.2 ⟨(d _).2 ⟨bD bI ht,by rw[cl f u,<- fD,dp]⟩,ss g⟩,rfl⟩),rfl⟩,?_⟩;rw[ar];refine cg.2 λi r=>?_;have:=cg.1 E i r;rw[bq,cw]at this ⊢;rw[bQ,r,au];exact this;rintro⟨z,W,h⟩;obtain⟨x,l,rfl⟩:=AY W;rw[ar]at h;rcases List.mem_append.1 l with l|l
    obtain⟨E,g⟩:=List.mem_filter.1 l;refine .inl (zsP (nV hc).1 u x f ?_ h);unfold pB;rw[((b x).1 E).2,g];rfl;obtain⟨y,o,rfl⟩:=List.mem_map.1 l;obtain⟨E,g⟩:=List.mem_filter.1 o;obtain⟨E,h3⟩:=(d y).1 E;have N:∀i,y.testBit i=k0->u.testBit i=true:=cg.1 h3;have O:∀i,f.testBit i=k0->y.testBit i=k0\/v.testBit i=true:=λi r=>by have:=cg.1 h i r;rwa [bq,cw]at this
    refine .inr ⟨bD (by rw[<- h];exact bI) (cu (bD (by rw[<- h3];exact bI) hu) hv),cg.2 λi r=>by
     rw[bq,cw];exact(O i r).imp (N i) id,λX=>?_⟩
    have Y:¬y=u:=ss g;refine Y (bB λi=>?_);cases A:u.testBit i with
    | false=>cases Z:y.testBit i with
      | false=>rfl
      | true=>rw[N i Z]at A;cases A
    | true =>
      have B:¬v.testBit i=true:=λB=>by have:=cV (λx=>x.testBit i) V;simp only[bQ,dQ,A,B]at this;cases this
      rw[(O i (cg.1 X i A)).resolve_right B]
   rw[I,ar,ar,ar,uj _ e];have a0:∀i,i<lh (co (ao c))->lg (co (ao c)) i 0<64:=λi r=>((b _).1 (aP 0 r)).1;have a1:∀i,i<lh (co (eG u))->lg (co (eG u)) i 0<64:=λi r=>((d _).1 (aP 0 r)).1;have P:=io m c;rw[mP hc]at P;have p:=vX u;unfold Do at p;rw[ae (show 0<=(u:Int)/\(u:Int)<=63 by omega),ar]at p;have C:=ap (co (ao c));have q:=ap (co (eG u));have a7:=Abs.ordN_len (ao c);have a8:=Abs.ordN_len (eG u);generalize a2:(λx:Nat=>!(x&&&u==u))=F at *;generalize a3:(λx:Nat=>!(x==u))=Q at *;generalize co (ao c)=L at *;generalize co (eG u)=M at *;refine aR (aa P ?_);refine cZ C ?_;refine az (λ((k,w):Nat×Nat) n=>(n.sl 1=al u/\n.sl 2=al v/\n.sl 3=.ref 3 1 0/\n.rw 3=⟨1,.box 31 [al m,aE c]⟩/\n.sl 6=.ref 6 1 0/\n.rw 6=⟨1,.box 31 [al 0,.v (.slice none 0 0)]⟩/\n.sl 7=.v (.bool l0)/\n.sl 8=.own 19 w/\n.rw 19=⟨w,.sli 3 1 l0 (iL (bl ((L.take k).filter F)))⟩/\n.sl 9=.own 21 1/\n.rw 21=⟨1,.sli 3 1 l0 (iL (bl L))⟩/\n.sl 10=al k)/\(k<=lh L)) (λ(k,w)=>lh L-k) ((0,1)) ⟨(jX C),om⟩ ?_;intro(k,w) sa ⟨G,b0⟩;have a4:lh ((L.take k).filter F)<=k:=aJ (aO _ _) (by rw[bg];omega);refine ff G C ?_;refine⟨λh=>?_,λh=>?_⟩;have J:=a0 k h;have D:(fu .i64 ((lg L k 0:Nat):Int) (u:Int) != (u:Int))=F (lg L k 0):=by rw[<- a2,ej om om];show _=!(lg L k 0&&&u==u);rw[aZ,gS,bC,bc];omega
   rw[bX h,D];refine⟨h,h,λo=>⟨h,h,by rw[ap];omega,?_⟩,λo=>?_⟩;exact ah ((k+1,w+1)) ⟨(DM G (ak h om) (ny h o) @cI @jZ),by dsimp only;omega⟩;exact ah ((k+1,w)) ⟨(fB G (ak h om) (qv h o)),by dsimp only;omega⟩;have:k=lh L:=om;subst this;have a5:L.take (lh L)=L:=av;rw[a5]at G a4;refine aa p ?_;refine ff G q ?_;refine az (λ((j,H,z):Nat×Nat×Nat) n=>(n.sl 1=al u/\n.sl 2=al v/\n.sl 3=.ref 3 1 0/\n.rw 3=⟨1,.box 31 [al m,aE c]⟩/\n.sl 6=.ref 6 1 0/\n.rw 6=⟨1,.box 31 [al 0,.v (.slice none 0 0)]⟩/\n.sl 7=.v (.bool l0)/\n.sl 8=.own 19 H/\n.rw 19=⟨H,.sli 3 1 l0 (iL (bl (L.filter F++((M.take j).filter Q).map λx=>x|||v)))⟩/\n.sl 11=.own 44 z/\n.rw 44=⟨z,.sli 3 1 l0 (iL (bl M))⟩/\n.sl 12=al j)/\(j<=lh M)) (λ(j,H,z)=>lh M-j) ((0,w,(sa.rw 44).ver+1)) ⟨(gE G q),om⟩ ?_;intro(j,H,z) sb ⟨R,b1⟩;have b2:lh (((M.take j).filter Q).map λx=>x|||v)<=j:=by rw[aG];exact aJ (aO _ _) (by rw[bg];omega)
   refine ff R q ?_;refine⟨λg=>?_,λg=>?_⟩;have J:=a1 j g;have D:(((lg M j 0:Nat):Int) != (u:Int))=Q (lg M j 0):=by rw[<- a3,aZ,gS,bC,bc];omega
   have a6:EX .i64 ((lg M j 0:Nat):Int) (v:Int)=((lg M j 0|||v:Nat):Int):=nQ om om;rw[bX g,D];refine⟨g,g,λo=>⟨g,g,by rw[ap,aA];omega,?_⟩,λo=>?_⟩;have e2:bl (L.filter F++((M.take (j+1)).filter Q).map λx=>x|||v)=bl (L.filter F++((M.take j).filter Q).map λx=>x|||v)++[((lg M j 0|||v:Nat):Int)]:=by rw[ny g o,cq,<- cP,cI];rfl
   exact ah ((j+1,H+1,z)) ⟨(rS R (ak g om) a6 e2),by dsimp only;omega⟩;exact ah ((j+1,H,z)) ⟨(fB R (ak g om) (qv g o)),by dsimp only;omega⟩;have:j=lh M:=om;subst this;have S:M.take (lh M)=M:=av;rw[S]at R;rw[S];refine aa (eV m _ K) ?_;exact mg R
def zeP(s:Nat):Nat->Nat|0=>0|k+1=>zeP s k+if s.testBit k then 1 else 0
theorem zpa:∀s,s<64->aQ s=zeP s 6:=by decide +kernel
theorem Vi{s n:Nat}(h:s<2^n):∀k,zeP s (n+k)=zeP s n
 | 0=>rfl
 | k+1=>by rw[<- jT,zeP,Vi h k,eK<|cp h<|aV om om];simp
theorem zih{s:Nat}(a:k<=6)(h:s<2^k):s<64:=cp h<|aV om a
theorem zco(b:k<=6)(h:goodN k l){s:Nat}(d:s<2^k):aQ (jE s l k)=aQ s:=by
 have c:∀n,n<=k->aQ (jE s l n)=zeP s n:=by
  intro n;induction n with
  | zero=>intro _;rw[jE,kq];rfl
  | succ n e =>intro a;rw[jE,zeP,<- e om];split;rw[Hy _ (Ba s l (h.at6 b) n (by rw[h.len];omega)) _ (h.at6 b n (by rw[h.len];omega))];rw[<- ql,pf];rintro⟨i,g,_,j⟩;exact h.ne g (by rw[h.len];omega) j;rfl
 rw[zpa s (zih b d)];have:=Vi d (6-k);grind
theorem Gg(h:goodN k l)(s:Nat):jE s l k<2^k:=by refine tn _ λi c=>?_;rw[<- ql,pf];rintro⟨j,b,_,d⟩;have:=h.at (k:=j) (by grind);omega
theorem zj9(c:k<=6)(h:goodN k l){u:Nat}(d:u<2^k):∃t,t<2^k/\jE t l k=u:=have b:kN _ _:=⟨lc<|2^k,dC,λx=>eJ,bp⟩;b.sub_eq (b.image _ (λx y g i e=>Pw c h g i<|by rwa[h.len]) λy=>mV) (λx⟨t,_,e⟩=>e ▸ Gg h t) u d
theorem zcp(h:goodN k l){s t:Nat}(m:t<2^k):s&&&t=t↔jE s l k&&&jE t l k=jE t l k:=by
 rw[cg,cg];constructor;intro b j d;rw[pf]at d ⊢;grind;intro b i n;have c:i<k:=mX λa=>by rw[eK<|cp m<|aV om a]at n;cases n
 have f:=b (lg l i 0)<|(pf t l _ k).2 ⟨i,c,n,rfl⟩;have⟨j,d,g,e⟩:=(pf s l _ k).1 f;have:j=i:=by rw[fU 0<|by rw[h.len];exact d,fU 0<|by rw[h.len];exact c]at e;exact(gd h.nd).1 e
 exact this ▸ g
theorem zii(c:k<=6)(h:goodN k l){fs:O0}{u:Nat}:(u:Int)∈wu fs l↔∃x∈fs,jE x l k=u:=by rw[wu,nF,cR,pb,bT,Ge,dX,h.len];constructor;simp;rintro⟨x,b,e⟩;exact⟨e ▸ zih c (Gg h x),x,b,e⟩
theorem DF:ao (bl l) k=k0↔∃x∈l,x&&&k=k:=by simp[Hz]
theorem zij:∃l,wu X b=bl l:=⟨_,rfl⟩
theorem Vj(g:k<=6)(h:goodN k l){a:O0}(n:∀x∈a,x<2^k){t:Nat}(f:t<2^k):ao (wu a l) (jE t l k)=ao (bl a) t:=by obtain⟨b,i⟩:=zij a l;have c:=λu=>zii g h (fs:=a) (u:=u);rw[i]at c ⊢;rw[aZ,DF,DF];constructor;rintro⟨x,j,e⟩;obtain⟨y,d,rfl⟩:=(c x).1 (nF.2 j);exact⟨y,d,(zcp h f).2 e⟩;rintro⟨y,d,e⟩;exact⟨_,nF.1<|(c _).2 ⟨y,d,rfl⟩,(zcp h f).1 e⟩
theorem Gh(b:∀x∈l,x<2^k){t:Nat}(c:ao (bl l) t=k0):t<2^k:=by
 have⟨x,d,e⟩:=DF.1 c;have:=b x d;have:t<=x:=by rw[<- e];exact bI
 omega
theorem zeQ(c:k<=6)(h:goodN k l){b:O0}(i:∀x∈b,x<2^k)(n:Nat):lh (cd (ao (wu b l)) n 64)=(cd (ao (bl b)) n 64).length:=by
 have q:=(kN.list (Fp (ao (bl b)) n 64)).congr λa=>qu;refine ((kN.list (Fp _ n 64)).congr λa=>qu).uniq (q.image _ (λx y j s e=>Pw c h (Gh i j.2.1) (Gh i s.2.1) (by rwa[h.len])) λu=>?_);constructor;rintro⟨z,f,m⟩;obtain⟨d,p⟩:=zij b l;have o:=by
  rw[p]at f;exact Gh (λx j=>by have:=(zii c h (fs:=b) (u:=x)).1 (by rw[p];exact nF.2 j);obtain⟨y,_,rfl⟩:=this;exact Gg h y) f
 obtain⟨t,g,rfl⟩:=zj9 c h o;exact⟨t,⟨zih c g,by rwa[<- Vj c h i g],by simp_all[m,zco]⟩,rfl⟩;rintro⟨t,⟨_,f,m⟩,rfl⟩;have g:=Gh i f;exact⟨zih c (Gg h t),by simp_all[Vj],by rw[zco c h g,m]⟩
theorem zO{g:V0}(h:∀k,lh (cd d k 64)=lh (cd g k 64)):cv d<=cv g:=by refine aC λc=>?_;have⟨s,f,e,i⟩:=AH 64 (show 0<cv d by omega);have a:=fI.2 ⟨f,e,rfl⟩;have b:=h<|aQ s;have j:aQ s+1=cv d:=i;rw[st (f:=g) om]at b;grind
theorem PC{g:V0}(h:∀k,lh (cd d k 64)=lh (cd g k 64)):gc d=gc g:=by refine bE (by rw[eb,eb,Nat.le_antisymm (zO h) (zO λk=>(h k).symm)]) λi a b=>?_;have c:=lN d (by rwa[eb]at a);have f:=lN g (by rwa[eb]at b);grind
theorem DG(a:O0):∀(N:List O0) (b:N0),pI a N b=b\/∃c∈N,pI a N b=wu a c
 | [],b=>.inl rfl
 | c::N,b=>by
   have e:pI a (c::N) b=pI a N _:=rfl;rcases DG a N (if ut (wu a c) b then wu a c else b)with h|⟨d,f,g⟩
   grind;grind
theorem JH(h:aS x C=k0):gc (ao (uk x C))=gc (ao C):=by
 obtain⟨m,c,rfl,i,d,e,f,j,k,l⟩:=DD h;have b:uk m C=pI c (nk m m []) C:=by simp[uk,h,f]
 rw[b];subst e;rcases DG c _ (bl c)with g|⟨p,g,o⟩
 rw[g];rw[o];exact PC<|zeQ d (rO g) j
noncomputable def PA(n:Int)(a:N0)(m:Int)(b:N0):Bool:=aS n a&&aS m b&&decide (n=m/\uk n a=uk m b)
theorem xQ(m b:N0):AC prog 108 [.ag [al a,aE m],.ag [al s,aE b]] (.im (aU (PA a m s b))):=by refine cA [.tmp 4] func108 λe=>?_;refine aR<|aa (kB a m) ?_;refine aR<|aa (kB s b) ?_;refine aR ?_;unfold PA;refine⟨λc=>⟨λd=>?_,λd=>by grind⟩,λc=>by grind⟩;rw[c,d];refine aa (rn _ _ _ _)<|aR ?_;rfl
theorem PB{m:Int}{b:N0}(h:PA x C m b=k0):x=m/\RC x C=RC m b:=by unfold PA at h;simp only[aj,bT]at h;obtain⟨⟨c,d⟩,e,f⟩:=h;refine⟨e,?_⟩;unfold RC;rw[ae c,ae d,<- JH c,<- JH d,f]
theorem xR(c d:N0):AC prog 66 [.ag [al a,aE c],.ag [al s,aE d]] (.im (aU (PA a c s d))):=by
 refine cA [.tmp 4] func66 λh=>?_;refine aR<|aa (aH a c) ?_;refine aR ?_;refine⟨λe=>?_,λe=>?_⟩;have e:=ss e;refine aa (aH s d)<|aR ?_;refine⟨λm=>?_,λm=>?_⟩;simp_all[PA,m];have m:=ss m;refine⟨kr,λb=>aa (gw a c) ?_,λb=>?_⟩;have b:=ss b;subst b;refine aR<|aa (gw a d) ?_;refine aR<|aa (sS _ _) ?_;refine aR ?_;refine⟨kr,λf=>?_,λf=>aa (kC a c) ?_⟩;cases g:PA a c a d with
 | false=>rfl
 | true=>rw[ay (PB g).2]at f;grind
 refine aR<|aa (kC a d) ?_;refine aR<|aa (Bz _ _ _ _) ?_;refine aR ?_;rw[PA,e,m];rfl;have b:=ss b;cases g:PA a c s d with
 | false=>rfl
 | true=>exact absurd (PB g).1 b
 simp_all[PA,e]
noncomputable def Ng(n:Int)(a:N0):Nat->Nat->Int
 | _,0=>0
 | k,r+1=>if PA (xJ k) (mu (FI k)) n a=k0 then k else Ng n a (k+1) r
noncomputable def Yk(n:Int)(a:N0):Int:=Ng n a 1 8
theorem zM:AC prog 161 [] (.im (al 8)):=by refine cA [.tmp 0] func161 λa=>?_;exact ef
theorem zN:AC prog 210 [] (.im (al 8)):=by refine cA [.tmp 0] func210 λa=>?_;exact ef
theorem Is:AC prog 64 [.ag [al a,aE c]] (.im (al (Yk a c))):=by
 refine cA [.tmp 2] func64 λj=>?_;refine aR ?_;refine az (λ(k:Nat)s=>(s.sl 1=.ref 1 1 0/\s.rw 1=⟨1,.box 31 [al a,aE c]⟩/\s.sl 3=al ((k+1:Nat):Int))/\(k<=8/\Yk a c=Ng a c (k+1) (8-k))) (λk=>8-k) (0) ⟨nm,⟨om,rfl⟩⟩ ?_;intro k l ⟨b,n⟩;obtain⟨m,f⟩:=n;rw[f];refine cZ b (aa zM ?_);refine cZ b ?_;refine⟨λh=>aa (pF _) ?_,λh=>?_⟩;have g:k<8:=om;have i:8-k=(8-(k+1))+1:=om;have d:Ng a c (k+1) (8-k)=if PA (xJ ((k+1:Nat):Int)) (mu (FI ((k+1:Nat):Int))) a c=k0 then((k+1:Nat):Int)else Ng a c (k+1+1) (8-(k+1)):=by rw[i,Ng]
 rw[d];refine cZ b (aa (xR _ a _ c) ?_);refine cZ b ?_;refine⟨λe=>by rw[ae e],λe=>?_⟩;rw[ac (by rw[e];decide)]at d ⊢;exact ah (k+1) ⟨(gE b (ak (show k+1<9 by omega) om)),⟨om,by first|rfl|rw[f,d]|rw[show 7-k=8-(k+1)by omega]⟩⟩;have:k=8:=om;subst this;rfl
theorem zcn(h:aS x C=k0):lh (uk x C)=lh C:=by
 obtain⟨m,i,rfl,j,c,d,e,k,l,f⟩:=DD h;have b:uk m C=pI i (nk m m []) C:=by simp[uk,h,e]
 rw[b];subst d;rw[Ir c k f _ _ (λo g=>rO g)<|ap i,ap]
theorem zrS{m:Int}{b:N0}(h:PA x C m b=k0):x=m/\C.length=lh b:=by unfold PA at h;simp[bT]at h;have⟨⟨c,d⟩,e,f⟩:=h;exact⟨e,by rw[<- zcn c,<- zcn d,f]⟩
theorem zo9{m:Int}{b:N0}(h:¬(x=m/\C.length=lh b)):PA x C m b=false:=by
 cases c:PA x C m b with
 | false=>rfl
 | true=>exact absurd (zrS c) h
theorem It:AC prog 107 [.ag [al a,aE c]] (.im (al (Yk a c))):=by
 refine cA [.tmp 2] func107 λp=>?_;refine aR ?_;refine az (λ(k:Nat)s=>(s.sl 1=.ref 1 1 0/\s.rw 1=⟨1,.box 31 [al a,aE c]⟩/\s.sl 3=al ((k+1:Nat):Int))/\(k<=8/\Yk a c=Ng a c (k+1) (8-k))) (λk=>8-k) (0) ⟨nm,⟨om,rfl⟩⟩ ?_;intro k q ⟨b,d⟩;obtain⟨r,j⟩:=d;rw[j];refine cZ b (aa zN ?_);refine cZ b ?_;refine⟨λh=>aa (pG _) ?_,λh=>?_⟩;have l:k<8:=om;have m:8-k=(8-(k+1))+1:=om;have o:Ng a c (k+1) (8-k)=if PA (xJ ((k+1:Nat):Int)) (mu (FI ((k+1:Nat):Int))) a c=k0 then((k+1:Nat):Int)else Ng a c (k+1+1) (8-(k+1)):=by rw[m,Ng]
 rw[o];refine cZ b ?_;refine⟨λf=>⟨λg=>aa (xQ _ a _ c) ?_,λg=>?_⟩,λf=>?_⟩;refine cZ b ?_;refine⟨λi=>by rw[ae i],λi=>?_⟩;have n:¬PA (xJ ((k+1:Nat):Int)) (mu (FI ((k+1:Nat):Int))) a c=true:=by rw[i];decide
 exact ah (k+1) ⟨(gE b (ak (show k+1<9 by omega) om)),⟨om,by rw[ac n];first|done|rw[show 7-k=8-(k+1)by omega]⟩⟩;have n:¬PA (xJ ((k+1:Nat):Int)) (mu (FI ((k+1:Nat):Int))) a c=true:=by rw[zo9 λe=>by rw[e.2]at g;simp at g];decide
 exact ah (k+1) ⟨(gE b (ak (show k+1<9 by omega) om)),⟨om,by rw[ac n];first|done|rw[show 7-k=8-(k+1)by omega]⟩⟩;have n:¬PA (xJ ((k+1:Nat):Int)) (mu (FI ((k+1:Nat):Int))) a c=true:=by rw[zo9 λe=>by rw[e.1]at f;simp at f];decide
 exact ah (k+1) ⟨(gE b (ak (show k+1<9 by omega) om)),⟨om,by rw[ac n];first|done|rw[show 7-k=8-(k+1)by omega]⟩⟩;have:k=8:=om;subst this;rfl
def Tw(F:N0)(d:Int):Nat->Int|0=>0|k+1=>Tw F d k+lg F (k+1) 0*gh (d-1) k
noncomputable def QH(n:Int)(a:N0)(d:Int):Int:=if aS n a=k0/\0<=d/\d<=20 then(if d=0 then(if 0<(gc (ao a)).length then 1 else 0)else Tw (gc (ao a)) d (lh (gc (ao a))-1))else -1
theorem zoE{n:Int}(a:0<=n)(c:n<=19){k:Nat}(b:k<7):0<=gh n k/\gh n k<=30000:=by
 have h:∀n,n<20->∀k,k<7->rg n k<=30000:=dc
 obtain⟨n,rfl⟩:=ca a;have:=h n om k b;simp[gh];omega
theorem zoF(c:∀i,0<=lg C i 0/\C.getD i 0<=64){d:Int}(f:1<=d)(g:d<=20):∀k,k<7->0<=Tw C d k/\Tw C d k<=2000000*k:=by
 intro k;induction k with
 | zero=>intro _;exact⟨oE _,oE _⟩
 | succ k e =>intro h;have j:=e om;have a:=zoE (n:=d-1) om om (k:=k) om;have b:=c (k+1);have l:=kH b.1 a.1;have m:=kI b.2 a.2 a.1 dc;unfold Tw;omega
theorem zuk:0<=lg (gc f) i 0/\(gc f).getD i 0<=64:=by
 by_cases h:i<cv f;rw[lN _ h];have:=fc f i<|ab 64;omega;have:lg (gc f) i 0=0:=by simp[eQ<|show(gc f).length<=i by rw[eb];omega]
 omega
theorem Ik:AC prog 73 [.ag [al a,aE c],al s] (.im (al (QH a c s))):=by
 refine cA [.tmp 4] func73 λB=>?_;unfold QH;refine aR (aa (aH a c) ?_);cases w:aS a c with
 | false=>exact ef
 | true =>
   by_cases g:0<=s/\s<=20;rw[ae ⟨rfl,g⟩];have f:(s<0)=False:=aX om;have x:(20<s)=False:=aX om;have b:=gw a c;have e:RC a c=gc (ao c):=ae w;rw[e]at b;have t:=zuk (ao c);have d:=eb (ao c);have i:=eD (ao c);rw[<- d]at i;clear d;generalize gc (ao c)=F at *;refine ff f x (aa b ?_);by_cases j:s=0;subst j;refine cZ (show((0:Int)==0)=k0 from rfl) ?_;split<;>split<;>omega;have y:(s==0)=false:=beq_eq_false_iff_ne.2 j;rw[ac j];refine cZ y ?_;refine az (λ(k:Nat)n=>(n.sl 1=al s/\n.sl 5=.own 20 1/\n.rw 20=⟨1,.sli 3 1 l0 (iL F)⟩/\n.sl 6=al (Tw F s k)/\n.sl 7=al (k+1:Nat))/\(k+1<=F.length\/(k=0/\F.length=0))) (λk=>lh F-k) (0) ⟨nm,om⟩ ?_;intro k C ⟨l,z⟩;have A:=zoF t (show 1<=s by omega) g.2 k om;have m:D0.i64.wrap (s-1)=s-1:=aF om om;have o:D0.i64.wrap (((k+1:Nat):Int)-1)=(k:Int):=by rw[aF om om];omega
   refine iD l m o ?_;refine⟨λh=>⟨kr,h,h,aa (Ce (s-1) k om) ?_⟩,λh=>?_⟩;have p:=zoE (n:=s-1) om om (k:=k) om;have u:=t (k+1);have D:=kH u.1 p.1;have E:=kI u.2 p.2 p.1 dc;have q:D0.i64.wrap (lg F (k+1) 0*gh (s-1) k)=lg F (k+1) 0*gh (s-1) k:=aF om om;have r:D0.i64.wrap (Tw F s k+lg F (k+1) 0*gh (s-1) k)=Tw F s (k+1):=aF om om;refine iD l q r ?_;exact ah (k+1) ⟨(gE l (ak (show k+1<lh F by omega) om)),om⟩;rw[show (lh F)-1=k by omega];rw[ac λh=>g h.2];by_cases f:s<0;exact mg (bO f);exact DL (aX f) (show(20<s)=True from bO om)
theorem Il:AC prog 115 [.ag [al a,aE c],al s] (.im (al (QH a c s))):=by
 refine cA [.tmp 4] func115 λy=>?_;unfold QH;refine aR (aa (bw a c) ?_);cases t:aS a c with
 | false=>exact ef
 | true =>
   refine aR (aa (fe _ _ _) ?_);by_cases e:0<=s/\s<=20;rw[ae ⟨rfl,e⟩,show(decide (0<=s)&&decide (s<=20))=k0 by simp[e]];have b:=gt a c;rw[mP t]at b;have q:=zuk (ao c);have d:=eb (ao c);have f:=eD (ao c);rw[<- d]at f;clear d;generalize gc (ao c)=F at *;refine aR (aa b ?_);by_cases g:s=0;subst g;refine cZ (show((0:Int)==0)=k0 from rfl) (aa (wY _) ?_);refine aR ?_;split<;>split<;>omega;have u:(s==0)=false:=beq_eq_false_iff_ne.2 g;rw[ac g];refine cZ u ?_;refine az (λ(k:Nat)n=>(n.sl 1=al s/\n.sl 5=.own 17 1/\n.rw 17=⟨1,.sli 3 1 l0 (iL F)⟩/\n.sl 6=al (Tw F s k)/\n.sl 7=al (k+1:Nat))/\(k+1<=F.length\/(k=0/\F.length=0))) (λk=>lh F-k) (0) ⟨nm,om⟩ ?_;intro k z ⟨i,w⟩;have x:=zoF q (show 1<=s by omega) e.2 k om;have j:D0.i64.wrap (s-1)=s-1:=aF om om;have l:D0.i64.wrap (((k+1:Nat):Int)-1)=(k:Int):=by rw[aF om om];omega
   refine iD i j l ?_;refine⟨λh=>⟨kr,h,h,aa (Cd (s-1) k om) ?_⟩,λh=>?_⟩;have m:=zoE (n:=s-1) om om (k:=k) om;have r:=q (k+1);have A:=kH r.1 m.1;have B:=kI r.2 m.2 m.1 dc;have o:D0.i64.wrap (lg F (k+1) 0*gh (s-1) k)=lg F (k+1) 0*gh (s-1) k:=aF om om;have p:D0.i64.wrap (Tw F s k+lg F (k+1) 0*gh (s-1) k)=Tw F s (k+1):=aF om om;refine iD i o p ?_;exact ah (k+1) ⟨(gE i (ak (show k+1<lh F by omega) om)),om⟩;rw[show (lh F)-1=k by omega];rw[ac λh=>e h.2,show(decide (0<=s)&&decide (s<=20))=l0 by rw[er,bJ,bJ];omega];exact ef
noncomputable def zoG(a:O0)(N:List O0):List O0:=N.filter λb=>decide (wu a b=bl a)
noncomputable def Xq(n:Int)(a:N0):Nat:=if aS n a=k0 then(zoG (a.map Int.toNat) (nk n.toNat n.toNat [])).length else 0
theorem zoH{a:Type}{l:List a}{p:a->Bool}(d:a)(h:k<lh l)(b:p (lg l k d)=k0):(l.take (k+1)).filter p=(l.take k).filter p++[lg l k d]:=by rw[bj d h];grind
theorem zsT{a:Type}{l:List a}{p:a->Bool}(d:a)(h:k<lh l)(b:p (lg l k d)=l0):(l.take (k+1)).filter p=(l.take k).filter p:=by rw[bj d h];grind
theorem Bv(i:1<=n)(d:n<=6)(q:∀x∈X,x<2^n)(j:lh X<=64)(l:X.Nodup):AC prog 164 [.ag [al n,aE (bl X)]] (.fr 29 1 (mF ((zoG X (nk n n [])).map bl))):=by
 refine cA [.tmp 2] func164 λB=>?_;have r:=dx d;refine aR (aa (xP n i d) ?_);have t:=zK n om;have f:∀c∈nk n n [],goodN n c:=λc h=>rO h;generalize nk n n []=N at *;have b:lh (N.map bl)=lh N:=sp;have u:mF (((N.take 0).filter λc=>decide (wu X c=bl X)).map bl)=[]:=rfl;unfold zoG;refine ff @qe b ?_;refine az (λ(k,v)s=>(s.sl 1=.ref 1 1 0/\s.rw 1=⟨1,.box 31 [al n,aE (bl X)]⟩/\s.sl 3=.own 3 v/\s.rw 3=⟨v,.sli 29 1 l0 (mF (((N.take k).filter λc=>decide (wu X c=bl X)).map bl))⟩/\s.sl 8=.sl k0 1 (mF (N.map bl))/\s.sl 9=al (lh N)/\s.sl 10=al k)/\(k<=lh N)) (λ(k,v)=>lh N-k) ((0,1)) ⟨(gE u b),om⟩ ?_;intro(k,v) C ⟨g,y⟩;refine ff g b ?_;refine⟨λh=>⟨h,h,kr,?_⟩,λh=>?_⟩;have a:=f _ (aP [] h);rw[zL N k];refine aa (qK X _ (λx z=>by grind) j (by have:=a.len;omega) (a.at6 d) (zeL d a q l)) ?_;rw[show bl _=wu X _ from rfl];refine ff g b (aa (sS _ _) ?_);have A:lh ((N.take k).filter λc=>decide (wu X c=bl X))<=k:=aJ (aO _ _) (by grind);refine ff g b ?_;refine⟨kr,λo=>⟨by grind,?_⟩,λo=>?_⟩;have e:((N.take (k+1)).filter λc=>decide (wu X c=bl X)).map bl=((N.take k).filter λc=>decide (wu X c=bl X)).map bl++[bl (lg N k [])]:=by rw[zoH [] h (by rw[o];simp),cq];rfl
 exact ah ((k+1,v+1)) ⟨(rS g b (ak h om) e),om⟩;have e:=zsT (p:=λc=>decide (wu X c=bl X)) [] h (aD o);exact ah ((k+1,v)) ⟨(rS g b (ak h om) e),om⟩;grind
theorem xh:AC prog 67 [.ag [al a,aE c]] (.im (al (Xq a c:Nat))):=by
 refine cA [.tmp 2] func67 λj=>?_;unfold Xq;refine aR<|aa (aH a c) ?_;cases g:aS a c with
 | false=>exact ef
 | true =>obtain⟨m,h,rfl,b,n,rfl,d,i,e,f⟩:=DD g;rw[d];refine aR<|aa (Bv m h b n i e f) ?_;refine aR ?_;simp
theorem Bw(F:1<=n)(m:n<=6)(G:∀x∈X,x<2^n)(w:lh X<=64)(H:X.Nodup):AC prog 211 [.ag [al n,aE (bl X)]] (.fr 29 1 (mF ((zoG X (nk n n [])).map bl))):=by
 refine cA [.tmp 2] func211 λW=>?_;have I:=dx m;refine aR ?_;have J:=zK n om;have A:=zib (n-1) [] [] (by simp;omega) (by
  grind)
 have e:lh ([]:O0)+1+(n-1)=n:=by simp;omega
 rw[e,show n-1+1=n by omega,eg]at A;have g:∀b∈nk n n [],goodN n b:=λb h=>rO h;generalize nk n n []=N at *;unfold zoG;refine CI (k:=10) (v:=1) A (λj=>j=9) ?_ ⟨.inr ⟨rfl,gl⟩,rfl,λj o=>absurd o sp,λj _=>gl⟩ (λj o=>by subst o;rfl) λS K a L r i l=>?_;exact .one (.v _) (.one (.lent (e:=3) rfl (rfl)) (.one (zdy gl) .nil));have B:S.sl 1=.ref 1 1 0:=by rw[i 1 dc];rfl
 have C:S.sl 3=.own 6 1:=by rw[i 3 dc];rfl
 have D:S.rw 1=⟨1,.box 31 [al n,aE (bl X)]⟩:=by rw[l 1 dc];rfl
 have E:S.rw 6=⟨1,.sli 29 1 l0 []⟩:=by rw[l 6 dc];rfl
 have c:lh (N.map bl)=lh N:=sp;have O:mF (((N.take 0).filter λb=>decide (wu X b=bl X)).map bl)=[]:=rfl;refine nN r B C D E ?_;refine zka (k:=10) (v:=K) (d:=4) (L.done.same gl (λx=>gl)) dc (λj o=>yF dc (by grind)) gl (λ(k,v)s=>(s.sl 1=.ref 1 1 0/\s.rw 1=⟨1,.box 31 [al n,aE (bl X)]⟩/\s.sl 3=.own 6 v/\s.rw 6=⟨v,.sli 29 1 l0 (mF (((N.take k).filter λb=>decide (wu X b=bl X)).map bl))⟩/\s.sl 4=.sl k0 1 (mF (N.map bl))/\s.sl 5=al k)/\(k<=lh N)) (λ(k,v)=>lh N-k) ((0,1)) (λY qw t y=>⟨(by and_intros<;>(first|(simp only[gr,simprocAttr,t,y,r,B,C,D,E,O,qw])|assumption|rfl)),aB _⟩) ?_;intro(k,v) Z ⟨u,Q⟩;refine ff u c ?_;refine⟨λh=>⟨kr,h,h,?_⟩,λh=>?_⟩;have R:=g _ (aP [] h);have f:=zL N k;rw[f];refine aa (wc (n:Int) X _ (λx U=>by grind) w m R) ?_;refine ff u c (aa (Cf _ _) ?_);have V:lh ((N.take k).filter λb=>decide (wu X b=bl X))<=k:=aJ (aO _ _) (by rw[bg];omega);refine iD u c f ?_;refine⟨kr,λz=>⟨h,h,by rw[aG];omega,?_⟩,λz=>?_⟩;have e:((N.take (k+1)).filter λb=>decide (wu X b=bl X)).map bl=((N.take k).filter λb=>decide (wu X b=bl X)).map bl++[bl (lg N k [])]:=by rw[zoH [] h (by rw[z];simp),cq];rfl
 exact ah ((k+1,v+1)) ⟨(DM u c f (ak h om) e),om⟩;have e:=zsT (p:=λb=>decide (wu X b=bl X)) [] h (aD z);exact ah ((k+1,v)) ⟨(DM u c f (ak h om) e),om⟩;grind
theorem xi:AC prog 109 [.ag [al a,aE c]] (.im (al (Xq a c:Nat))):=by
 refine cA [.tmp 2] func109 λj=>?_;unfold Xq;refine aR<|aa (bw a c) ?_;cases g:aS a c with
 | false=>exact ef
 | true =>obtain⟨m,h,rfl,b,n,rfl,d,i,e,f⟩:=DD g;rw[d];refine aR<|aa (Bw m h b n i e f) ?_;refine aR ?_;simp
def PR(L:O0)(C:N0)(k:Nat):O0:=((lc k).filter λi=>lg C i 0==1).map λi=>lg L i 0
theorem zoC(h:(lg C k 0==1)=k0):PR l C (k+1)=PR l C k++[lg l k 0]:=by unfold PR;rw[bW,aW];grind
theorem zsS{L:O0}(h:(lg C k 0==1)=l0):PR L C (k+1)=PR L C k:=by unfold PR;rw[bW,aW];grind
theorem zui:lh (PR X c i)<=i:=by unfold PR;grind
theorem zuj(c:k<=lh l):∀s∈PR l C k,s∈l:=λs a=>by obtain⟨i,b,rfl⟩:=List.mem_map.1 a;grind
noncomputable def egF(n:Int)(a:N0)(t:Nat):Bool:=ao (bl (PR (DN n a) (Va n a) (DN n a).length)) t
noncomputable def RD(n:Int)(a:N0):Bool:=zy n a&&decide (0<=gD n a)
theorem zh4(h:RD x C=k0):aS x C=k0/\C.length<=1048576/\¬gD x C<0/\(DN x C).length<=64/\(∀s∈DN x C,s<64)/\(Va x C).length=(DN x C).length:=by
 unfold RD zy at h;simp only[aj,aq]at h;have b:¬gD x C<0:=om;have c:=h.1.1;have f:=fH c;have e:DN x C=cd (ci x C) (gD x C).toNat 64:=by unfold DN;rw[ac b]
 exact⟨c,om,b,by rw[e];exact fc _ _ (ab 64),λs d=>by rw[e]at d;exact(fI.1 d).1,by unfold Va;rw[aG]⟩
theorem Dy:AC prog 121 [.ag [al a,aE c]] (xO (RD a c) a (egF a c)):=by
 refine cA [.cell 2 31,.tmp 3] func121 λy=>?_;refine aR (aa (nD a c) ?_);cases j:zy a c with
 | false =>rw[show RD a c=l0 by unfold RD;rw[j];rfl,eH];exact ef
 | true =>
   refine aR (aa (mQ a c) ?_);cases e:RD a c with
   | false =>
     have f:gD a c<0:=by unfold RD at e;rw[j,au,bJ]at e;omega
     rw[eH];exact mg (bO f)
   | true =>
     obtain⟨z,l,f,m,o,p⟩:=zh4 e;rw[kX];unfold egF;have q:=xN a c l;generalize DN a c=L at *;generalize Va a c=C at *;have b:=ap L;refine cZ (aX f) (aa q ?_);have r:bA (ao (bl (PR L C 0))) 64=0:=vB;refine ff @Vb b ?_;refine az (λ(k:Nat)s=>(s.sl 1=.ref 1 1 0/\s.rw 1=⟨1,.box 31 [al a,aE c]⟩/\s.sl 2=.ref 2 1 0/\s.rw 2=⟨1,.box 31 [al 0,.v (.slice none 0 0)]⟩/\s.sl 3=.v (.bool l0)/\s.sl 5=.own 1020 1/\s.rw 1020=⟨1,.sli 3 1 l0 (iL C)⟩/\s.sl 6=dv (bA (ao (bl (PR L C k))) 64:Nat)/\s.sl 23=.own 20 1/\s.rw 20=⟨1,.sli 3 1 l0 (iL (bl L))⟩/\s.sl 24=al (lh L)/\s.sl 25=al k)/\(k<=lh L)) (λk=>lh L-k) (0) ⟨(gE r b),aB _⟩ ?_;intro k A ⟨n,u⟩;refine ff n b ?_;refine⟨λh=>⟨h,h,om,om,λg=>?_,λg=>?_⟩,λh=>?_⟩;have i:=o _ (aP 0 h);rw[bX h];refine aa (gC _ i) ?_;have w:=dj (ao (bl (PR L C k))) 64;have x:=dj (eG (lg L k 0)) 64;have d:EX .u64 (bA (ao (bl (PR L C k))) 64:Nat) (bA (eG (lg L k 0)) 64:Nat)=((bA (ao (bl (PR L C (k+1)))) 64:Nat):Int):=by rw[Ca om om,FB];congr 1;refine gu λt _=>?_;rw[zoC g,cI,<- jZ,Vc,ar]
     refine ff n d ?_;exact ah (k+1) ⟨(rS n b (ak h om) d),om⟩;exact ah (k+1) ⟨(rS n b (ak h om) (zsS (L:=L) g)),om⟩;have:k=lh L:=om;subst this;refine aa (dP _ _) ?_;exact mg n
theorem Dz:AC prog 78 [.ag [al a,aE c]] (xO (RD a c) a (egF a c)):=by
 refine cA [.cell 2 31,.tmp 3] func78 λE=>?_;refine aR (aa (nC a c) ?_);cases l:zy a c with
 | false =>rw[show RD a c=l0 by unfold RD;rw[l];rfl,eH];exact ef
 | true =>
   refine aR (aa (gZ a c) ?_);cases i:RD a c with
   | false =>
     have d:gD a c<0:=by unfold RD at i;rw[l,au,bJ]at i;omega
     rw[eH];exact mg (bO d)
   | true =>
     obtain⟨F,m,d,o,p,q⟩:=zh4 i;unfold egF;have r:=vU a c d;have u:=sP a c m;generalize DN a c=L at *;generalize Va a c=C at *;have b:=ap L;have n:Uu (bl (PR L C (lh L))):=λz w=>by obtain⟨s,x,rfl⟩:=AY w;have:=p s (zuj (ab _) s x);omega
     have e:bl (dI (hU (bl (PR L C (lh L)))) k0)=bl (dI (ao (bl (PR L C (lh L)))) k0):=zJ n λt G=>eT;rw[uj a (g:=λt=>ao (bl (PR L C (lh L))) t) e];refine cZ (aX d) (aa r ?_);refine cZ b (aa u ?_);refine cZ b ?_;refine az (λ((k,v):Nat×Nat) s=>(s.sl 1=.ref 1 1 0/\s.rw 1=⟨1,.box 31 [al a,aE c]⟩/\s.sl 2=.ref 2 1 0/\s.rw 2=⟨1,.box 31 [al 0,.v (.slice none 0 0)]⟩/\s.sl 3=.v (.bool l0)/\s.sl 4=.own 18 1/\s.rw 18=⟨1,.sli 3 1 l0 (iL (bl L))⟩/\s.sl 5=.own 20 1/\s.rw 20=⟨1,.sli 3 1 l0 (iL C)⟩/\s.sl 6=.own 21 v/\s.rw 21=⟨v,.sli 3 1 l0 (iL (bl (PR L C k)))⟩/\s.sl 7=al k)/\(k<=lh L)) (λ(k,v)=>lh L-k) ((0,1)) ⟨(jX b),aB _⟩ ?_;intro(k,v) H ⟨f,A⟩;have B:=zui L C k;refine ff f b ?_;refine⟨λh=>⟨om,om,λj=>⟨h,h,by rw[ap];omega,?_⟩,λj=>?_⟩,λh=>?_⟩;have D:bl (PR L C (k+1))=bl (PR L C k)++[lg (bl L) k 0]:=by rw[zoC j,cI,bX h];rfl
     exact ah ((k+1,v+1)) ⟨(rS f b (ak h om) D),by dsimp only;omega⟩;exact ah ((k+1,v)) ⟨(rS f b (ak h om) (zsS (L:=L) j)),by dsimp only;omega⟩;have:k=lh L:=om;subst this;refine aa (eV a _ n) ?_;exact mg f
end Go.Proofs.YtigjebcjfbhnjaaGreatDoor
