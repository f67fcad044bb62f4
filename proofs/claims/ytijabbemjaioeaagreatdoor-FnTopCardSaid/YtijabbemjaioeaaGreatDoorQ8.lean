/- DERIVED by an AI agent. -/
import Derived.Test.YtijabbemjaioeaaGreatDoorQ7
set_option linter.all false
namespace Go.Proofs.YtijabbemjaioeaaGreatDoor
open Bool renaming true→k0,false→l0
open Go renaming IntKind→D0
open List renaming range→lc,getD→lg,length→lh
open Go.Proofs.Tryz
open Go.Abs
variable (n:Nat)(m:Nat)(l:O0)(i:Nat){k:Nat}
def jE(s:Nat)(a:O0):Nat->Nat
 | 0=>0
 | k+1=>if s.testBit k then jE s a k|||2^(lg a k 0)else jE s a k
theorem Ba(s:Nat)(a:O0)(b:∀k,k<lh a->lg a k 0<6):∀k,k<=lh a->jE s a k<64
 | 0,_=>by simp[jE]
 | k+1,h=>by have c:=Ba s a b k om;rw[jE];split;exact cu c<|bN om (b k om);grind
theorem zrK:∀s,s<64->∀k,k<6->(fu .i64 (wH .i64 (s:Nat) (k:Nat)) 1==1)=Nat.testBit s k:=dc
theorem zur:∀u,u<64->∀k,k<6->EX .i64 (u:Nat) (jl .i64 1 (k:Nat))=((u|||2^k:Nat):Int):=dc
theorem Py(l:n<64)(a:O0)(m:lh a<=6)(j:∀k,k<lh a->lg a k 0<6):AC prog 275 [al n,aE (bl a)] (.im (al (jE n a (lh a):Nat))):=by
 refine cA [.tmp 4] func275 λr=>?_;refine cZ @ap ?_;refine az (λk s=>(s.sl 0=al n/\s.sl 1=aE _/\s.sl 5=al (jE n a k)/\s.sl 8=aE _/\s.sl 9=al _/\s.sl 10=al k)/\(k<=lh a)) (λk=>lh a-k) 0 ⟨(jX @ap),sp⟩ ?_;intro k t ⟨c,d⟩;refine ff c @ap ?_;refine⟨λb=>⟨b,b,?_⟩,λb=>?_⟩;have o:=j k b;have e:=bX b;have p:=zrK n l k om;have q:=zur _ (Ba n a j k d) _ o;rw[e,mJ om,mJ om,q,p];refine⟨om,λh=>⟨om,?_⟩,λh=>?_⟩;have i:jE n a (k+1)=jE n a k|||2^(lg a k 0):=by rw[jE,ae h]
 exact ah (k+1) ⟨(fB c (ak b om) i),om⟩;have i:jE n a (k+1)=jE n a k:=by rw[jE,ac<|by rw[h];decide]
 exact ah (k+1) ⟨(fB c (ak b om) i),om⟩;have:k=lh a:=om;rw[this]
theorem pf(m:Nat)(e:O0)(j:Nat):∀k,(jE m e k).testBit j=k0↔∃i,i<k/\m.testBit i=k0/\e.getD i 0=j
 | 0=>by simp[jE]
 | k+1=>by
   have d:=pf m e j k;rw[jE];grind
theorem zrL:∀u,u<64->∀k,k<6->u.testBit k=l0->∀b:Bool,D0.i64.wrap ((u:Nat)+jl .i64 (if b then 1 else 0) (k:Nat))=(((if b then u|||2^k else u):Nat):Int):=dc
theorem zj6:∀s,s<64->∀k,k<6->fu .i64 (wH .i64 (s:Nat) (k:Nat)) 1=(if Nat.testBit s k then 1 else 0):=dc
theorem Xz(l:n<64)(a:O0)(m:lh a<=6)(g:∀k,k<lh a->lg a k 0<6)(o:∀i k,i<k->k<lh a->lg a i 0≠a.getD k 0):AC prog 301 [al n,aE (bl a)] (.im (al (jE n a (lh a):Nat))):=by
 refine cA [.tmp 4] func301 λx=>?_;refine cZ @ap ?_;refine az (λ(k:Nat)s=>(s.sl 0=al n/\s.sl 1=aE (bl a)/\s.sl 5=al (jE n a k:Nat)/\s.sl 6=al k)/\(k<=lh a)) (λk=>lh a-k) (0) ⟨(jX @ap),sp⟩ ?_;intro k y ⟨h,c⟩;refine ff h @ap ?_;refine⟨λb=>?_,λb=>?_⟩;have p:=g k b;have d:lg (bl a) k 0=((lg a k 0:Nat):Int):=bX b;have e:D0.u64.wrap (k:Int)=(k:Int):=mJ om;have f:D0.u64.wrap ((lg a k 0:Nat):Int)=((lg a k 0:Nat):Int):=mJ om;have q:=zj6 n l k om;have r:(jE n a k).testBit (lg a k 0)=false:=by rw[<- ql,pf];rintro⟨i,t,_,u⟩;exact o i k t b u
 have j:=zrL _ (Ba n a g k c) _ p r<|n.testBit k;rw[d,e,f,q,j];refine⟨om,b,om,om,?_⟩;exact ah (k+1) ⟨(gE h<|ak b om),om⟩;have:k=lh a:=om;rw[this]
def nk(n:Nat):Nat->O0->List O0
 | 0,head=>[head]
 | m+1,head=>(lc n).flatMap λk=>if k∈head then []else nk n m (head++[k])
def xj(n m:Nat)(head:O0)(i:Nat):List O0:=(lc i).flatMap λk=>if k∈head then []else nk n m (head++[k])
theorem Ip:xj n m l (i+1)=xj n m l i++if i∈l then []else nk n m (l++[i]):=by simp[xj,bW]
theorem Gd:xj n m l n=nk n (m+1) l:=rfl
theorem zia{j:Nat}(h:k<=j):lh (xj n m l k)<=(xj n m l j).length:=by
 induction j with
 | zero=>grind
 | succ j a =>by_cases e:k=j+1;grind;rw[Ip,aA];omega
theorem nF{l:O0}:(k:Int)∈bl l↔k∈l:=by
 unfold bl;grind
theorem Px:bl (l++[i])=bl l++[(i:Int)]:=by simp[bl]
theorem zoZ(M:fG)(g:lh l<=100)(h:lh M<=1000000):APu prog 236 [al (lh l),.own 1000500 1,.own 1000000 1] 24 3 M (bl l):=by refine APu.go tk mixed func236 rfl rfl rfl kr λ_ s d a e c b=>?_;refine nN d a e c @ap<|zfQ ?_;refine xA d a e c @ap @bP @bp ?_;refine⟨om,_,rfl,gl,by simp[gr,c],λi f=>by simp_all[gr]⟩
theorem zib:∀(m:Nat) (head:O0) (M:fG) (X:lh head+m<=99) (Y:lh M+lh (nk (lh head+1+m) (m+1) head)<=1000000),
 AGr prog 236 [al (lh head+1+m:Nat),aE (bl head),.own 1000000 1] 24 3 M (M++(nk (lh head+1+m) (m+1) head).map bl):=by
 intro m
 induction m with
 | zero =>
   intro head M X Y
   refine AGr.go (rs:=[.tmp 6]) tk mixed func236 rfl rfl rfl kr λ_ L s w l y=>?_
   have I:((lh head:Int)==((lh head+1+0:Nat):Int))=false:=by rw[bc];omega
   refine nN w l @y.top I @ap ?_
   generalize Z:lh head+1+0=N at *
   refine az (λ((i,v):Nat×Nat) s=>(s.sl 0=al N/\s.sl 1=aE (bl head)/\s.sl 2=.own 1000000 v/\s.sl 7=al i)/\(i<=N/\TabG s.rw 1000000 v 24 3 (M++(xj N 0 head i).map bl).length (M++(xj N 0 head i).map bl))) (λ(i,v)=>N-i) ((0,1)) ⟨(jX w),⟨om,by
    have e:M++(xj N 0 head 0).map bl=M:=by simp[xj]
    rw[e];exact y.same gl (λx=>gl)⟩⟩ ?_
   intro(i,v) J ⟨f,p⟩
   have⟨hi,a⟩:=p
   refine cZ f ?_
   refine⟨λh=>aa (mO _ _) ?_,λh=>?_⟩
   refine cZ f ?_;have b:=Ip N 0 head i;refine⟨λc=>?_,λc=>?_⟩
   have c:i∉head:=λe=>by rw[ay (nF.2 e)]at c;cases c
   rw[ac c]at b;have q:=zia N 0 head (show i+1<=N by omega);rw[Gd,b,aA]at q;refine ff f @ap ?_;have P:lh (M++(xj N 0 head i).map bl)<=1000000:=by simp;omega
   have z:=zoZ (head++[i]) (M++(xj N 0 head i).map bl) (by simp;omega) P;rw[aA,cG,show (lh head)+1=N by omega]at z;generalize Q:M++(xj N 0 head i).map bl=R at *;refine⟨om,om,zeb (d:=33) (k:=1000000) (h:=26) (v:=v) (vh:=(J.rw 26).ver+1+1+1) z ?_ (TabG.toH (a.same gl (λx=>gl))) (by simp only[gr,simprocAttr,Px];simp only[iL,cq]) dc λS K U hH t g A B=>?_⟩
   refine .one (.v _) (.one (.own (ae rfl) (by rw[De]) gl (by rw[De];rfl)) (.one (.own ?_ (by rw[qH]) ?_ (by rw[qH];rfl)) .nil))
   rfl
   simp only[gr,simprocAttr,a.top]
   have C:S.sl 0=al N:=by rw[g 0 dc];simp only[gr,simprocAttr,f]
   have D:S.sl 1=aE (bl head):=by rw[g 1 dc];simp only[gr,simprocAttr,f]
   have E:S.sl 7=al i:=by rw[g 7 dc];simp only[gr,simprocAttr,f]
   have o:∀j,S.rw (dq 1000000 j)=J.rw (dq 1000000 j):=λj=>by rw[A j];simp only[gr,simprocAttr]
   clear g B A;refine ox t C D E ?_;have e:M++(xj N 0 head (i+1)).map bl=R++[bl (head++[i])]:=by rw[b,<- Q];simp[nk]
   exact tD (k:=1000000) (v:=K) (e:=24) (e2:=3) (n:=lh R) (d:=26) (vd:=(J.rw 26).ver+1+1+1) (M:=R) (r:=bl (head++[i])) (rp U) rfl (λj F=>by simp only[gr,simprocAttr,o,a.row j F]) (λj F=>by simp only[gr,simprocAttr,o,a.rest j F]) (rp hH) dc dc ((i+1,K)) (λsX qw G V=>⟨(xc7 G V f C D E (ak h om)),⟨om,by rw[e,aA,cG];exact qw⟩⟩) (om)
   have c:i∈head:=aC λe=>by rw[aD (λW=>e (nF.1 W))]at c;cases c
   rw[ae c,bh]at b;exact ah ((i+1,v)) ⟨(gE f (ak h om)),⟨om,by rw[b];exact a.same gl (λx=>gl)⟩⟩
   have u:i=N:=om;subst u;rw[Gd]at a;exact TY a (by rw[aA];omega) rfl
 | succ m ih =>
   intro head M X Y
   refine AGr.go (rs:=[.tmp 6]) tk mixed func236 rfl rfl rfl kr λ_ L s w l y=>?_
   have I:((lh head:Int)==((lh head+1+(m+1):Nat):Int))=false:=by rw[bc];omega
   refine nN w l @y.top I @ap ?_
   generalize Z:lh head+1+(m+1)=N at *
   refine az (λ((i,v):Nat×Nat) s=>(s.sl 0=al N/\s.sl 1=aE (bl head)/\s.sl 2=.own 1000000 v/\s.sl 7=al i)/\(i<=N/\TabG s.rw 1000000 v 24 3 (M++(xj N (m+1) head i).map bl).length (M++(xj N (m+1) head i).map bl))) (λ(i,v)=>N-i) ((0,1)) ⟨(jX w),⟨om,by
    have e:M++(xj N (m+1) head 0).map bl=M:=by simp[xj]
    rw[e];exact y.same gl (λx=>gl)⟩⟩ ?_
   intro(i,v) J ⟨f,p⟩
   have⟨hi,a⟩:=p
   refine cZ f ?_
   refine⟨λh=>aa (mO _ _) ?_,λh=>?_⟩
   refine cZ f ?_;have b:=Ip N (m+1) head i;refine⟨λc=>?_,λc=>?_⟩
   have c:i∉head:=λe=>by rw[ay (nF.2 e)]at c;cases c
   rw[ac c]at b;have q:=zia N (m+1) head (show i+1<=N by omega);rw[Gd,b,aA]at q;refine ff f @ap ?_;have H:lh (head++[i])+1+m=N:=by simp;omega
   have z:=ih (head++[i]) (M++(xj N (m+1) head i).map bl) (by simp;omega) (by rw[H];simp;omega);rw[H,cP,<- cq,<- b]at z;refine⟨om,om,CI (d:=33) (k:=1000000) (v:=v) z (λj=>j=26) ?_ (TabG.toH (a.same gl (λx=>gl))) (λj F=>by subst F;rfl) λS K hv U t g B=>?_⟩
   refine .one (.v _) (.one (.lent (e:=3) (fz:=l0) rfl (by simp only[gr,simprocAttr,Px];simp only[iL,cq])) (.one (zdy ?_) .nil));simp only[gr,simprocAttr,a.top]
   have C:S.sl 0=al N:=by rw[g 0 dc];simp only[gr,simprocAttr,f]
   have D:S.sl 1=aE (bl head):=by rw[g 1 dc];simp only[gr,simprocAttr,f]
   have E:S.sl 7=al i:=by rw[g 7 dc];simp only[gr,simprocAttr,f]
   refine ox t C D E ?_;exact ah ((i+1,K)) ⟨(DM f C D E (ak h om)),⟨om,U.same gl (λx=>gl)⟩⟩
   have c:i∈head:=aC λe=>by rw[aD (λW=>e (nF.1 W))]at c;cases c
   rw[ae c,bh]at b;exact ah ((i+1,v)) ⟨(gE f (ak h om)),⟨om,by rw[b];exact a.same gl (λx=>gl)⟩⟩
   have u:i=N:=om;subst u;rw[Gd]at a;exact TY a (by rw[aA];omega) rfl
end Go.Proofs.YtijabbemjaioeaaGreatDoor
namespace Go.Proofs.YtijabbemjaioeaaGreatDoor
open Bool renaming true→k0,false→l0
open Go renaming IntKind→D0
open List renaming range→lc,getD→lg,length→lh
open Go.Proofs.Tryz
open Go.Abs Go.Shelf Go.Sort
def KK(x:Fin 64):Nat:=aQ x.val*64+x.val
def zo1(x y:Fin 64):Int:=zus (x.val:Nat) (y.val:Nat)
theorem Gf:∀x y:Fin 64,ltOf zo1 x y=decide (KK x<KK y):=by decide +kernel
theorem zo2:∀x y:Fin 64,KK x=KK y->x=y:=by simp[KK];omega
theorem zo3:SWO (ltOf zo1) where
 irrefl x:=by simp[Gf]
 trans x y z h1 h2:=by rw[Gf]at *;grind
 ntrans x y z h1 h2:=by rw[Gf]at *;grind
theorem zic{l:O0}(h:l.Pairwise rx):l.Nodup:=h.imp λ{a b}c e=>by simp_all[rx]
theorem zrO{a b:O0}(c:a.Pairwise rx)(d:b.Pairwise rx)(h:∀s,s∈a↔s∈b):a=b :=
 List.Perm.eq_of_pairwise (λx y _ _ e f=>by unfold rx at e f;omega) c d<|(dn (zic c)<|zic d).2 h
def QW(d:List (Fin 64)):O0:=d.map λx=>x.val
theorem zeM(d a:List (Fin 64))(g:d.Nodup)(f:a.Perm d)(i:a.Pairwise λx y=>ltOf zo1 y x=l0):QW a=co (hU (bl (QW d))):=by have b:=f.nodup_iff.2 g;refine zrO ?_ (wK _) λs=>?_;rw[QW,List.pairwise_map];refine List.Pairwise.imp₂ ?_ i b;intro x y c j;rw[Gf]at c;have l:KK x≠KK y:=λe=>j<|zo2 _ _ e;have c:=ss c;have k:=om;unfold KK at k;simp[rx];omega;rw[cR,pb];unfold QW;grind
def Ge(b a:O0):O0:=b.map λs=>jE s a (lh a)
theorem qK(a c:O0)(G:∀x∈a,x<64)(H:lh a<=64)(t:lh c<=6)(D:∀k,k<lh c->lg c k 0<6)(E:(Ge a c).Nodup):AC prog 192 [aE (bl a),aE (bl c)] (.fr 3 1 (iL (bl (co (hU (bl (Ge a c))))))):=by
 refine cA [.tmp 4] func192 λP=>?_;refine cZ @ap ?_;have q:lh (Ge a c)=lh a:=by simp[Ge]
 refine⟨om,om,?_⟩;refine az (λ(k,v)s=>(s.sl 0=aE (bl a)/\s.sl 1=aE (bl c)/\s.sl 5=.own 10 v/\s.rw 10=⟨v,.sli 3 1 l0<|iL<|bl<|(Ge a c).take k⟩/\s.sl 11=aE (bl a)/\s.sl 12=al (lh a)/\s.sl 13=al k)/\(k<=lh a)) (λ(k,v)=>lh a-k) ((0,1)) ⟨(jX @ap),sp⟩ ?_;intro(k,v) Q ⟨⟨j,l,m,b,f,g,i⟩,J⟩;refine XO j l m b f g i @ap ?_;refine⟨λp=>⟨p,p,?_⟩,λp=>?_⟩;have u:=G _<|aP 0 p;rw[bX p];refine aa (Py _ u c t D)<|XO j l m b f g i @ap ?_;have z:(Ge a c).take (k+1)=(Ge a c).take k++[jE (lg a k 0) c (lh c)]:=by rw[bj 0 om];simp[Ge,eU,fk,p]
 have K:lh ((Ge a c).take k)<=k:=by grind
 refine⟨om,?_⟩;exact ah ((k+1,v+1)) ⟨(by and_intros<;>(first|(simp[gr,simprocAttr,j,l,f,g,ak p om,z,cI,jZ])|assumption|rfl)),om⟩;have r:k=lh a:=om;rw[r,<- q,av]at b;have A:∀x∈Ge a c,x<64:=λx L=>by obtain⟨y,_,rfl⟩:=List.mem_map.1 L;exact Ba y c D _<|ab _
 obtain⟨d,n⟩:∃d:List _,QW d=Ge a c:=by refine⟨(Ge a c).attach.map λx=>⟨x.1,A _ x.2⟩,?_⟩;simp[QW]
 have B:d.Nodup:=by rw[<- n]at E;exact(List.pairwise_map.1 E).imp λh e=>h<|om
 have C:lh d<=64:=by
  have:lh d=(Ge a c).length:=by simp[<- n,QW]
  omega
 have F:=AM.off (h:=default) (d:=True) (λe=>e)<|by
  letI:aw:=⟨HeldS.tell default True⟩;exact zrN zut zrM ⟨_,func276,kr,kr⟩ trivial (λx:Fin 64=>((x.val:Nat):Int)) zo1 zo3 277 (enters_of func277 kr rfl) (λx y=>yh _ _) 3 d (bD C dc) (bl<|co<|hU<|bl<|QW d)<|λN O u=>by
   rw[<- zeM d N B O u];simp[QW,bl,fj,tR]
 have o:d.map (λx:Fin 64=>((x.val:Nat):Int))=bl (Ge a c):=by rw[<- n];simp[QW,bl,fj,tR]
 rw[o,n]at F;refine oJ F [(10,v)] (by repeat (first|exact GiveL.nil|refine GiveL.v ?_|refine GiveL.clo ?_|refine GiveL.own 0 rfl ?_|refine GiveL.own 1 rfl ?_|refine GiveL.ag ?_ ?_)) ⟨by simp only[gr,simprocAttr,b],trivial⟩ sp ?_;simp only[↓gp,gq,simprocAttr,gT,j,l,m,b,f,g,i,o,n]
end Go.Proofs.YtijabbemjaioeaaGreatDoor
namespace Go.Proofs.YtijabbemjaioeaaGreatDoor
open Bool renaming true→k0,false→l0
open Go renaming IntKind→D0
open List renaming range→lc,getD→lg,length→lh
open Go.Proofs.Tryz
open Go.Abs
variable (n:Nat)(a:Int)(f:V0)(X:O0)(L:List O0)(s:Nat)(b:O0)(c:N0)(m:Int)(t:Int){l:O0}{k:Nat}{F:N0}{x:Int}{d:V0}
structure goodN (n:Nat) (ns:List Nat):Prop where
 len:ns.length=n
 lt:∀x∈ns,x<n
 nd:ns.Nodup
theorem goodN.at{n:Nat}{a:O0}(h:goodN n a){k:Nat}(b:k<lh a):lg a k 0<n:=h.lt _<|aP 0 b
theorem goodN.at6(c:k<=6)(h:goodN k l):∀a,a<lh l->lg l a 0<6:=λa b=>by have:=h.at b;omega
theorem goodN.ne(h:goodN k l){i a:Nat}(b:i<a)(c:a<lh l):lg l i 0≠l.getD a 0:=by rw[fU 0<|om,fU 0 c];exact λe=>absurd ((gd h.nd).1 e) om
theorem zci{n:Nat}:∀(m:Nat)(head c:O0),c∈nk n m head->head.Nodup->(∀x∈head,x<n)->lh c=lh head+m/\c.Nodup/\∀x∈c,x<n
 | 0,head,c,h,d,f=>by simp_all[nk]
 | m+1,head,c,h,d,f=>by
   rw[nk,iV]at h;have⟨k,i,h⟩:=h;split at h;grind;have:=zci m _ c h (List.nodup_append.2 ⟨d,sp,λa o b j e=>by grind⟩)<|λx l=>by
    grind
   grind
theorem rO(h:l∈nk k k []):goodN k l:=have:=zci k [] l h fS sp;⟨ss this.1,this.2.2,this.2.1⟩
theorem zK:∀n,n<7->lh (nk n n [])<=720:=by decide +kernel
theorem Pw(q:k<=6)(h:goodN k l){s t:Nat}(f:s<2^k)(o:t<2^k)(e:jE s l (lh l)=jE t l (lh l)):s=t:=by
 have c:∀{s t:Nat},s<2^k->jE s l _=jE t l _->∀i,s.testBit i=k0->t.testBit i=true:=λ{s t}f e i g=>by
  have d:i<lh l:=h.len▸mX λn=>by rw[eK<|cp f<|aV om n]at g;grind
  have b:=(pf s l _<|lh l).2 ⟨i,d,g,rfl⟩;rw[e]at b;have⟨j,p,a,m⟩:=(pf t l _<|lh l).1 b;have:=by rw[fU 0 p,fU 0 d]at m;exact(gd h.nd).1 m
  grind
 refine bB λi=>?_;grind
theorem zeL(f:k<=6){c:O0}(h:goodN k c)(d:∀x∈l,x<2^k)(g:l.Nodup):(Ge l c).Nodup :=
 List.pairwise_map.2<|List.Pairwise.imp_of_mem (λi j b e=>b<|Pw f h (d _ i) (d _ j) e) g
theorem zoY(b:k<=6){a:O0}(h:goodN k a):∀x∈Ge l a,x<64:=λx d=>by obtain⟨y,_,rfl⟩:=List.mem_map.1 d;exact Ba y a (h.at6 b) _<|ab _
noncomputable def wu(a b:O0):N0:=bl (co (hU (bl (Ge a b))))
theorem ordN_len(a:∀x∈l,x<64)(b:l.Nodup):lh (co (hU (bl l)))=lh l:=by refine(((dn (Xl<|wK _) b).2 λs=>?_)).length_eq;simp_all[cR,pb]
theorem zh9(b:k<=6){c:O0}(h:goodN k c)(d:∀x∈l,x<2^k)(e:l.Nodup):lh (wu l c)=lh l:=by rw[wu,ap,ordN_len (zoY b h)<|zeL b h d e];simp[Ge]
theorem wc(p:∀x∈X,x<64)(q:lh X<=64)(o:k<=6)(d:goodN k b) :
 AC prog 237 [.ag [al a,aE (bl X)],aE (bl b)] (.ag [.im (al a),.fr 3 1 (iL (wu X b))]):=by
 refine cA [.cell 4 26] func237 λA=>?_
 have f:lh b<=6:=by have:=d.len;omega
 refine cZ @ap ?_
 have g:lh (Ge X b)=lh X:=by simp[Ge]
 refine az (λ(n,v)s=>(s.sl 1=aE (bl b)/\s.sl 2=.ref 2 1 0/\s.rw 2=⟨1,.box 26 [al a,aE (bl X)]⟩/\s.sl 4=.ref 4 1 0/\s.rw 4=⟨1,.box 26 [al 0,.v (.slice none 0 0)]⟩/\s.sl 5=.own 7 v/\s.rw 7=⟨v,.sli 3 1 l0<|iL<|bl<|(Ge X b).take n⟩/\s.sl 6=al n)/\(n<=lh X)) (λ(n,v)=>lh X-n) ((0,1)) ⟨(jX @ap),sp⟩ ?_
 intro(n,v) B ⟨e,t⟩
 refine ff e @ap ?_
 refine⟨λc=>?_,λc=>?_⟩
 rw[bX c];refine⟨c,c,aa (Xz _ (p _<|aP 0 c) b f (d.at6 o)<|λi n w y=>d.ne w y) ?_⟩;refine ff e @ap ?_;have j:(Ge X b).take (n+1)=(Ge X b).take n++[jE (lg X n 0) b (lh b)]:=by rw[bj 0 om];simp[Ge,c]
 have z:lh ((Ge X b).take n)<=n:=by grind
 refine⟨om,?_⟩;exact ah ((n+1,v+1)) ⟨(DM e (ak c om) j @cI @jZ),om⟩
 have l:n=lh X:=om;rw[l,<- g,av];refine⟨kr,aa (kw _<|CU<|zoY o d) ?_⟩;refine cZ e ?_;exact⟨kr,rfl⟩
noncomputable def pI(a:O0)(N:List O0)(b:N0):N0:=N.foldl (λb c=>if ut (wu a c) b then wu a c else b) b
theorem Pv:pI X (L++[b]) c=if ut (wu X b) (pI X L c)then wu X b else pI X L c:=by rw[pI,jJ];rfl
noncomputable def uk(n:Int)(a:N0):N0:=if aS n a=k0 then pI (a.map Int.toNat) (nk n.toNat n.toNat []) a else []
def zoX(n:Int)(a:N0)(b:Bool):Int:=if b then n else 0
theorem DD(h:aS x F=k0):∃(m:Nat)(f:O0),x=m/\1<=m/\m<=6/\F=bl f/\F.map Int.toNat=f/\(∀c∈f,c<2^m)/\f.length<=64/\f.Nodup:=by
 obtain⟨B,C,_⟩:=cY.1 h;have d:=dM h;have q:bl (F.map Int.toNat)=F:=by
  rw[bl,fj];have:∀c∈F,((λs:Nat=>(s:Int))∘Int.toNat) c=id c:=λc g=>by have:=d c g;grind
  rw[cO this,JT]
 have l:=cY.1 h;have i:(F.map Int.toNat).Nodup:=by refine List.pairwise_map.2<|List.Pairwise.imp_of_mem (λ{a b}r u j e=>j ?_)<|FA l;have:=d a r;have:=d b u;omega
 refine⟨x.toNat,F.map _,om,om,om,q.symm,rfl,λc g=>?_,by rw[aG];exact fH h,i⟩;obtain⟨y,w,rfl⟩:=List.mem_map.1 g;obtain⟨k,o,rfl⟩:=bV w;obtain⟨m,t,D,z,E,A⟩:=AK ((l.2.2 k o).1);grind
theorem kB:AC prog 157 [.ag [al a,aE c]] (.tup [.ag [.im (al (zoX a c (aS a c))),.fr 3 1 (iL (uk a c))],.im (aU (aS a c))]):=by
 refine cA [.cell 2 26,.tmp 3] func157 λhl=>?_;refine aR<|aa (bw a c) ?_;refine aR ?_;refine⟨λp=>?_,λp=>?_⟩;have p:=ss p;have:uk a c=[]:=by simp_all[uk]
 rw[p,this];exact⟨rfl,rfl,rfl⟩;have p:=ss p;obtain⟨m,l,rfl,a0,B,J,K,hf,L,a1⟩:=DD p;have C:uk m c=pI l (nk m m []) c:=by simp[uk,p,K]
 have O:zoX _ c _=m:=ae rfl;rw[C,p,O];subst J;have a2:=fH p;refine aa (zG _ _ om) ?_;refine aR ?_;have a3:=zK m om;have W:=zib (m-1) [] [] (by grind)<|by
  grind
 have e:lh ([]:O0)+1+(m-1)=m:=by grind
 rw[e,show m-1+1=m by omega,eg]at W;have y:∀X∈nk m m [],goodN m X:=λX h=>rO h;generalize nk m m []=N at *;refine CI (k:=17) (v:=1) W (λj=>j=16) ?_ ⟨.inr ⟨rfl,gl⟩,rfl,λj P=>absurd P sp,λj _=>gl⟩ (λj P=>by grind) λS Y hv hS D t f=>?_;exact .one (.v _)<|.one (.lent rfl<|rfl)<|.one (zdy gl) .nil;have Z:S.sl 1=.ref 1 1 0:=by rw[t 1 dc];rfl
 have u2:S.sl 2=.ref 2 1 0:=by rw[t 2 dc];rfl
 have u4:S.sl 4=.ref 4 1 0:=by rw[t 4 dc];rfl
 have w1:S.rw 1=⟨1,.box 26 [al m,aE (bl l)]⟩:=by rw[f 1 dc];rfl
 have w2:S.rw 2=⟨1,.box 26 [al 0,.v (.slice none 0 0)]⟩:=by rw[f 2 dc];rfl
 have w4:S.rw 4=⟨1,.box 26 [al m,.own 13 1]⟩:=by rw[f 4 dc];rfl
 have Q:S.rw 13=⟨1,.sli 3 1 l0<|iL<|bl l⟩:=by rw[f 13 dc];rfl
 have E:S.rw 900=⟨0,.dead⟩:=by rw[f 900 dc];rfl
 refine xA D Z u2 u4 w1 w2 w4 ?_;refine znG (j:=13) (v:=1) (e:=3) (sz:=1) (c:=iL (bl l)) (b:=4) (vb:=1) (tb:=26) (cb:=[al m,.own 13 1]) (cb':=[al m,.own 900 1]) (o:=1) (rp Q) (rp w4) rfl 900 1 (rp E) rfl dc rfl rfl rfl (λ((k,u):Nat×Nat) s=>(s.sl 1=.ref 1 1 0/\s.rw 1=⟨1,.box 26 [al m,aE (bl l)]⟩/\s.sl 2=.ref 2 1 0/\s.rw 2=⟨1,.box 26 [al 0,.v (.slice none 0 0)]⟩/\s.sl 4=.ref 4 1 0/\s.rw 4=⟨1,.box 26 [al m,.own 900 u]⟩/\s.rw 900=⟨u,.sli 3 1 l0<|iL<|pI l (N.take k)<|bl l⟩/\s.sl 5=.own 17 Y/\s.sl 6=al k)/\(1<=u/\k<=lh N/\TabG s.rw 17 Y 24 3 (N.map bl).length (N.map bl))) (λ(k,u)=>lh N-k) ((0,1)) (λsX qw q n=>⟨(by and_intros<;>(first|(simp[gr,simprocAttr,q,n,D,Z,u2,u4,w1,w2,qw.1,qw.2];first|done|rfl|(simp;done))|assumption|rfl)),⟨dc,sp,hS.same (rp n)<|λx=>by simp[gr,simprocAttr,n]⟩⟩) ?_;intro(k,u) sa ⟨A,R⟩;obtain⟨hu,hk,w⟩:=R;have F:lh (N.map bl)=lh N:=sp;refine ox A @w.top @bP @bp ?_;by_cases h:k<lh N;have G:k<(N.map bl).length:=om;have hg:=y _ (aP [] h);have U:lg (N.map bl) k []=bl (lg N k []):=by simp[lg,h]
 have V:=w.row k G;rw[U]at V;refine⟨λI=>?_,λI=>absurd G I⟩;rw[ztf G,V];refine⟨kr,G,G,?_⟩;refine cZ V ?_;refine aa (wc (m:Int) l (lg N k []) (λx hx=>cp (hf x hx)<|aV (n:=2) (i:=m) (j:=6) om B) L B hg) ?_;refine cZ A ?_;refine⟨kr,aa (Qf _ _) ?_⟩;have r:=Pv l (N.take k) (lg N k [])<|bl l;rw[<- bj [] h]at r;refine cZ A ?_;refine⟨λz=>?_,λz=>?_⟩;rw[ae z]at r;exact zjv (j:=30) (e:=3) (sz:=1) (c:=iL (wu l<|lg N k [])) (b:=4) (vb:=1) (tb:=26) (cb:=[al m,.own 30 ((sa.rw 30).ver+1)]) (o:=1) gl gl rfl 900 (u+1) (by simp only[gr,simprocAttr,A];exact dD _) rfl dc rfl rfl rfl ((k+1,u+1)) (λsX qw q n=>⟨(xc7 q n A qw.1 qw.2 r<|ak h om),⟨om,by dsimp only;omega,w.same (rp n)<|λx=>by simp only[gr,simprocAttr,n]⟩⟩)<|om;rw[ac<|by rw[z];decide]at r;exact ah ((k+1,u)) ⟨(fB A r<|ak h om),⟨hu,by dsimp only;omega,w.same gl<|λx=>gl⟩⟩;grind
theorem zvX:ao (bl X) s=k0↔∃x∈X,x&&&s=s:=by simp[Hz]
theorem AY(h:x∈bl l):∃s,s∈l/\x=s:=by have⟨s,a,b⟩:=List.mem_map.1 h;grind
theorem LB(h:aS (k:Int) F=k0){t:Nat}(b:ao F t=k0):t<2^k:=by have⟨x,c,e⟩:=eT.1 b;have d:=dM h x c;have:=(nV h).2 t (bD (by rw[<- e];exact bI)<|om) b;grind
noncomputable def sdB(n:Int)(a:N0)(s:Int):Bool:=hfB n a s&&(!(s==0)&&!(n==6))
theorem zh6{s:Int}(h:sdB x F s=k0):∃m u:Nat,x=m/\s=u/\aS x F=k0/\1<=m/\m<6/\0<u/\u<2^m/\ao F u=true:=by unfold sdB hfB at h;simp[aj]at h;obtain⟨⟨⟨b,f,g⟩,c⟩,i,j⟩:=h;obtain⟨m,rfl,d,e⟩:=KH b;obtain⟨u,rfl⟩:∃u:Nat,s=u:=⟨s.toNat,om⟩;exact⟨m,u,rfl,rfl,b,d,om,om,LB b c,c⟩
theorem zrD(x:Nat):lh (QX n s x)<=12:=by
 have h:∀i,lh (Vd n s x i)<=2:=λi=>by unfold Vd;grind
 unfold QX;split;rw[List.length_flatMap];show(List.map _ [0,1,2,3,4,5]).sum<=12;grind;simp
theorem zoK{X:O0}{g:Nat->O0}(h:∀x,lh (g x)<=k):lh (X.flatMap g)<=k*X.length:=by
 induction X with
 | nil=>simp
 | cons a X b=>rw[bH];grind
theorem Xs(g:Nat->O0)(h:k<lh l):(l.take (k+1)).flatMap g=(l.take k).flatMap g++g (lg l k 0):=by simp[bj 0 h]
theorem DA:AC prog 250 [.ag [al a,aE c],al m] (xO (sdB a c m) (a+1) (sdF a.toNat m.toNat (ao c))):=by
 refine cA [.cell 4 26,.tmp 5] func250 λhl=>?_;refine aR<|aa (zI a c m) ?_;cases s:sdB a c m with
 | false =>
   rw[eH];unfold sdB at s;cases K:hfB a c m with
   | false=>exact ef
   | true =>
     rw[K,au]at s;cases q:(m==0)with
     | true=>exact mg q
     | false =>rw[q]at s;exact DL q (ss s)
 | true =>
   obtain⟨n,u,rfl,rfl,Z,a0,L,a1,hu,a2⟩:=zh6 s;have K:hfB n c u=true:=by simp_all[sdB,aj]
   have q:((u:Int)==0)=false:=beq_eq_false_iff_ne.2 om;have l:((n:Int)==6)=false:=beq_eq_false_iff_ne.2 om;obtain⟨m',X,a3,_,_,rfl,_,M,a4,_⟩:=DD Z;obtain rfl:n=m':=om;have Y:=aV (n:=2) (i:=n) (j:=5) dc om;have N:∀x∈X,∀y∈QX n u x,y<64:=λx d y g=>by
    have:=M x d;rcases(Iq om).1 g with⟨_,rfl⟩|⟨_,i,_,_,rfl|rfl⟩
    omega;grind;grind
   have r:Uu (bl<|X.flatMap<|QX n u):=λz A=>by obtain⟨m,hs,rfl⟩:=AY A;grind
   have e:bl (dI (hU<|bl<|X.flatMap<|QX n u) k0)=bl (dI (sdF n u<|ao<|bl X) k0):=by refine zJ r λt J=>?_;rw[zo5 L hu M (zvX X) J];constructor;rintro⟨x,d,y,g,h⟩;exact⟨y,List.mem_map.2 ⟨y,List.mem_flatMap.2 ⟨x,d,g⟩,rfl⟩,by grind⟩;rintro⟨z,A,h⟩;obtain⟨y,g,rfl⟩:=AY A;obtain⟨x,d,g⟩:=List.mem_flatMap.1 g;exact⟨x,d,y,g,by rwa [ar]at h⟩
   rw[ar,ar,uj _ e];have B:D0.u64.wrap _=n:=dm om;have C:=eh om;have O:D0.i64.wrap _=n+1:=aF om om;have P:=ap X;refine nN K q l B C ?_;refine az (λ(k,v)m=>(m.sl 1=al u/\m.sl 2=.ref 2 1 0/\m.rw 2=⟨1,.box 26 [al n,aE (bl X)]⟩/\m.sl 4=.ref 4 1 0/\m.rw 4=⟨1,.box 26 [al 0,.v (.slice none 0 0)]⟩/\m.sl 5=.v (.bool l0)/\m.sl 6=al (2^n:Nat)/\m.sl 7=.own 29 v/\m.rw 29=⟨v,.sli 3 1 l0<|iL<|bl<|(X.take k).flatMap<|QX n u⟩/\m.sl 8=al k)/\(k<=lh X)) (λ(k,v)=>lh X-k) ((0,1)) ⟨(gE B C),om⟩ ?_;intro(k,v) sa ⟨o,a6⟩;have Q:=zoK (X:=X.take k)<|zrD n u;rw[bg]at Q;refine ff o P ?_;refine⟨λh=>⟨h,h,?_⟩,λh=>?_⟩;have d:=M _<|aP 0 h;have D:=Xs (QX n u) h;rw[bX h];generalize a7:lg X k 0=x at *;have f:fu .i64 _ _=(x&&&u:Nat):=ej om om;by_cases b:x&&&u=u;have R:QX n u x=(lc 6).flatMap _:=ae b;refine ox o f b (show(u != (u:Int))=l0 by simp) ?_;have A:(X.take k).flatMap (QX n u)++(lc 0).flatMap (Vd n u x)=(X.take k).flatMap (QX n u):=sp;refine az (λ(i,v)m=>(m.sl 1=al u/\m.sl 2=.ref 2 1 0/\m.rw 2=⟨1,.box 26 [al n,aE (bl X)]⟩/\m.sl 4=.ref 4 1 0/\m.rw 4=⟨1,.box 26 [al 0,.v (.slice none 0 0)]⟩/\m.sl 5=.v (.bool l0)/\m.sl 6=al (2^n:Nat)/\m.sl 7=.own 29 v/\m.rw 29=⟨v,.sli 3 1 l0<|iL<|bl<|(X.take k).flatMap (QX n u)++(lc i).flatMap (Vd n u x)⟩/\m.sl 8=al k/\m.sl 9=al x/\m.sl 10=al i)/\(i<=6)) (λ(i,v)=>6-i) ((0,v)) ⟨(gE o A),om⟩ ?_;intro(i,v) sb ⟨E,a8⟩;have S:lh ((lc i).flatMap<|Vd n u x)<=2*(lc i).length:=zoK λi=>by unfold Vd;split<;>simp
   rw[bp]at S;have F:(lc<|i+1).flatMap (Vd n u x)=(lc i).flatMap (Vd n u x)++Vd n u x i:=by rw[bW,fO];simp
   by_cases l:i<6;have G:(fu .i64 _ 1==1)=u.testBit i:=CL om om;have H:D0.u64.wrap _=i:=dm om;refine nN E (show((i:Int)<6)=True from bO om) (bO l) H G ?_;refine⟨λg=>?_,λg=>?_⟩;have I:2^i<=x:=nf<|cg.1 b i g;have b0:(0:Int)<=((2^i:Nat):Int):=lE _;have b1:((2^i:Nat):Int)<=(x:Int):=Int.ofNat_le.2 I;have V:D0.i64.wrap ((x:Int)-((2^i:Nat):Int))=((x-2^i:Nat):Int):=by rw[aF (by generalize ((2^i:Nat):Int)=w at *;omega)<|by generalize ((2^i:Nat):Int)=w at *;omega];exact(Int.ofNat_sub I).symm
   have W:D0.i64.wrap (((x-2^i:Nat):Int)+((2^n:Nat):Int))=((x-2^i+2^n:Nat):Int):=by rw[aF om<|by have:=mE x<|2^i;omega];exact(Int.natCast_add _ _).symm
   have p:bl ((X.take k).flatMap (QX n u)++(lc<|i+1).flatMap (Vd n u x))=bl ((X.take k).flatMap (QX n u)++(lc i).flatMap (Vd n u x))++[((x-2^i:Nat):Int),((x-2^i+2^n:Nat):Int)]:=by rw[F,<- cP,cI,Vd,ae g];rfl
   refine⟨by rw[ap,aA];omega,?_⟩;exact ah ((i+1,v+1)) ⟨(xc7 E (ak l om) H (eh om) V W p),by dsimp only;omega⟩;have p:(lc<|i+1).flatMap (Vd n u x)=(lc i).flatMap (Vd n u x):=by rw[F,Vd,ac<|by rw[g];decide,bh]
   exact ah ((i+1,v)) ⟨(fB E (ak l om) p),by dsimp only;omega⟩;obtain rfl:i=6:=om;refine iD E (show(((6:Nat):Int)<6)=False from aX om) (show((6:Int)<6)=False from aX om) ?_;have p:(X.take k).flatMap (QX n u)++(lc 6).flatMap (Vd n u x)=(X.take<|k+1).flatMap (QX n u):=by rw[D,R]
   exact ah ((k+1,v)) ⟨(rS o E (ak h om) p),by dsimp only;omega⟩;have R:QX n u x=[x]:=ac b;refine iD o f (show(((x&&&u:Nat):Int) != (u:Int))=k0 from bne_iff_ne.2 om) ?_;refine⟨by rw[ap];omega,?_⟩;have p:bl ((X.take<|k+1).flatMap<|QX n u)=bl ((X.take k).flatMap<|QX n u)++[(x:Int)]:=by rw[D,R,cI];rfl
   exact ah ((k+1,v+1)) ⟨(fB o (ak h om) p),by dsimp only;omega⟩;have:k=lh X:=om;subst this;have J:X.take (lh X)=X:=av;rw[J];refine cZ O<|aa (eV _ _ r) ?_;exact DL o J
def sdC(m u b a:Nat):O0:=if a=u then []else [2^m|||a|||b]
def ZB(m u:Nat)(L M:O0)(i j:Nat):O0:=((L.take i).flatMap λb=>M.flatMap (sdC m u b))++(M.take j).flatMap (sdC m u (lg L i 0))
theorem zrE{m u:Nat}(M:O0)(h:k<lh l):ZB m u l M k (lh M)=ZB m u l M (k+1) 0:=by simp_all[ZB,Xs]
theorem zoL{m u:Nat}(L:O0)(i:Nat)(h:k<lh l):ZB m u L l i (k+1)=ZB m u L l i k++sdC m u (lg L i 0) (lg l k 0):=by simp_all[ZB,Xs]
theorem zrF{u t:Nat}{M:O0}:t∈ZB k u l M (lh l) 0↔∃b∈l,∃a∈M,a≠u/\t=2^k|||a|||b:=by simp[ZB,sdC]
theorem DB:AC prog 115 [.ag [al a,aE c],al m] (xO (sdB a c m) (a+1) (sdF a.toNat m.toNat (ao c))):=by
 refine cA [.cell 4 26,.tmp 5] func115 λhl=>?_;refine aR ?_;refine aa (aH a c) ?_;cases d:sdB a c m with
 | false =>
   rw[eH];unfold sdB at d;cases q:aS a c with
   | false=>exact ef
   | true =>
     cases r:(a==6)with
     | true=>exact mg r
     | false =>
       cases x:(m==0)with
       | true=>exact DL x r
       | false =>
         refine ff x r ?_;refine aa (sR a c m) ?_;have K:hfB a c m=false:=by grind
         rw[K];exact ef
 | true =>
   obtain⟨n,u,rfl,rfl,q,N,a0,a1,X,a2⟩:=zh6 d;have K:hfB n c u=true:=by simp_all[sdB,aj]
   have x:((u:Int)==0)=false:=beq_eq_false_iff_ne.2 om;have r:((n:Int)==6)=false:=beq_eq_false_iff_ne.2 om;have y:D0.u64.wrap (n:Int)=(n:Int):=dm om;have z:jl .i64 1 (n:Int)=((2^n:Nat):Int):=eh om;have O:D0.i64.wrap _=(n:Int)+1:=aF om om;have Y:2^n<=32:=aV (n:=2) (i:=n) (j:=5) dc om;have l:u<64:=om;rw[kX];refine iD q x r ?_;refine aa (sR n c u) ?_;refine iD K y z ?_;refine aa (cj n c (dM q)) ?_;refine aR ?_;refine aa (jC (ao c) u l) ?_;refine aR ?_;refine aa (jR (ao c) u l) ?_;refine aR ?_;refine aa (lP _ (kz _)) ?_;rw[mo (jq _)];have P:∀b,b∈co _↔b<64/\dL (ao c) u b=true:=λb=>cR;have Q:∀s,s∈co (eG u)↔s<64/\u&&&s=s:=λs=>by simp[cR,eG,aK]
   have g:=vW u;unfold Do at g;rw[ae (by omega),ar]at g;have A:∀t,t<64->(pB (ao c) u t||decide (t∈ZB n u (co (dL (ao c) u)) (co (eG u)) _ 0))=sdF n u (ao c) t:=λt ht=>by rw[aZ,cw,aq,zrF,zrR X (λt h=>LB q h)];refine or_congr_right ⟨?_,?_⟩;grind;rintro⟨b,s,H,f,h3,h4⟩;have d:=H;unfold dL at d;rw[aj]at d;have:=LB q d.2;exact⟨b,(P b).2 ⟨bD pt (show b|||u<64 by omega),H⟩,s,(Q s).2 ⟨bD (by rw[<- f];exact bI) l,f⟩,h3,h4⟩
   have o:=ap (co (dL (ao c) u));have k:=ap (co (eG u));have a3:=Abs.ordN_len (dL (ao c) u);have a4:=Abs.ordN_len (eG u);have hz:bA (λt=>pB (ao c) u t||decide (t∈ZB n u (co (dL (ao c) u)) (co (eG u)) 0 0)) 64=bA (pB (ao c) u) 64:=gu λt _=>by simp[ZB]
   have S:∀j,j<(co (eG u)).length->(co (eG u)).getD j 0<2^n:=λj hj=>bD (by rw[<- ((Q _).1 (aP 0 hj)).2];exact bI) X;generalize co _=L at *;generalize co (eG u)=M at *;refine cZ o ?_;refine az (λ(za:Nat×Nat)m=>match za with|(i,w)=>(m.sl 1=al u/\m.sl 2=.ref 2 1 0/\m.rw 2=⟨1,.box 26 _⟩/\m.sl 4=.ref 4 1 0/\m.rw 4=⟨1,.box 26 [al 0,.v _]⟩/\m.sl 5=.v _/\m.sl 6=al (2^n:Nat)/\m.sl 8=dv (bA (λt=>pB (ao c) u t||decide (t∈ZB n u L M i 0)) 64:Nat)/\m.sl 44=.own 44 1/\m.rw 44=⟨1,.sli 3 1 l0 _⟩/\m.sl 45=al L.length/\m.sl 46=al i)/\(i<=L.length)) (λ(i,w)=>L.length-i) ((0,0)) ⟨(rS hz o y z),om⟩ ?_;intro(i,w) sa ⟨B,a5⟩;refine ff B o ?_;refine⟨λh=>⟨h,h,?_⟩,λh=>?_⟩;rw[bX h];refine aa g ?_;refine ff B k ?_;refine az (λ(zb:Nat×Nat)m=>match zb with|(j,w)=>(m.sl 1=al u/\m.sl 2=.ref 2 1 0/\m.rw 2=⟨1,.box 26 _⟩/\m.sl 4=.ref 4 1 0/\m.rw 4=⟨1,.box 26 [al 0,.v _]⟩/\m.sl 5=.v _/\m.sl 6=al (2^n:Nat)/\m.sl 8=dv (bA (λt=>pB (ao c) u t||decide (t∈ZB n u L M i j)) 64:Nat)/\m.sl 10=al _/\m.sl 44=.own 44 1/\m.rw 44=⟨1,.sli 3 1 l0 _⟩/\m.sl 45=al L.length/\m.sl 46=al i/\m.sl 51=.own 51 w/\m.rw 51=⟨w,.sli 3 1 l0 _⟩/\m.sl 52=al M.length/\m.sl 53=al j)/\(j<=M.length)) (λ(j,w)=>M.length-j) ((0,(sa.rw 51).ver+1)) ⟨(fB B k (bX h)),om⟩ ?_;intro(j,w) sb ⟨I,a6⟩;refine ff I k ?_;refine⟨λf=>⟨f,f,?_⟩,λf=>?_⟩;have Z:=S j f;have d:=(λi hi=>by have:=((P _).1 (aP 0 hi)).2;unfold dL at this;rw[aj]at this;exact bD pt (LB q this.2)) i h;have p:=zoL (m:=n) (u:=u) L i f;have U:=bX f;rw[U];generalize M.getD j 0=s at *;refine⟨λJ=>?_,λJ=>?_⟩;have V:¬s=u:=λe=>by grind
   have C:2^n|||s<2^(n+1):=cu (bN dc om) (om)
   have D:2^n|||s|||L.getD i 0<2^(n+1):=cu C (om)
   have E:EX .i64 _ (s:Int)=((2^n|||s:Nat):Int):=nQ om om;have F:EX .i64 _ _=((2^n|||s|||L.getD i 0:Nat):Int):=nQ om om;have G:D0.u64.wrap _=((2^n|||s|||L.getD i 0:Nat):Int):=dm om;have N:=dj (λt=>pB (ao c) u t||decide (t∈ZB n u L M i j)) 64;have a7:(2:Nat)^(2^n|||s|||L.getD i 0)<2^64:=bN dc om;have W:EX .u64 (bA (λt=>pB (ao c) u t||decide (t∈ZB n u L M i j)) 64:Nat) (jl .u64 1 ((2^n|||s|||L.getD i 0:Nat):Int))=((bA (λt=>pB (ao c) u t||decide (t∈ZB n u L M i (j+1))) 64:Nat):Int):=by rw[yU om,Ca om om,CX _ om];congr 1;refine gu λt _=>?_;rw[p,sdC,ac V,nI];grind
   exact⟨by grind,ah ((j+1,w)) ⟨(xc6 I (ak f om) E F G W),om⟩⟩;have he:s=u:=by grind
   rw[sdC,ae he,bh]at p;exact ah ((j+1,w)) ⟨(fB I (ak f om) p),om⟩;have:j=M.length:=om;subst this;exact ah ((i+1,w)) ⟨(rS B I (ak h om) (zrE (m:=n) (u:=u) M h)),om⟩;have:i=L.length:=om;subst this;rw[gu A];refine cZ O ?_;refine aa (dP _ _) ?_;exact mg B
def wd(n:Nat)(L:List O0):List O0:=L.flatMap λl=>(lc n).flatMap λx=>if x∈l then []else [l++[x]]
def rG(n:Nat)(L:List O0):Nat->List O0|0=>L|r+1=>wd n (rG n L r)
theorem JF(B:List O0):wd n (L++B)=wd n L++wd n B:=by simp[wd]
theorem JG(n:Nat)(A B:List O0):∀r,rG n (A++B) r=rG n A r++rG n B r
 | 0=>rfl
 | r+1=>by simp[rG,JG,JF]
theorem zck(n:Nat):∀r,rG n [] r=[]
 | 0=>rfl
 | r+1=>by rw[rG,zck n r];rfl
theorem Vf(n r:Nat):∀L:List O0,rG n L r=L.flatMap λl=>rG n [l] r
 | []=>by simp[zck]
 | l::L=>by rw[cE,<- Vf n r L,<- JG];rfl
theorem Vg(n:Nat):∀(r:Nat) (L:List O0),rG n L (r+1)=rG n (wd n L) r
 | 0,L=>rfl
 | r+1,L=>by rw[rG,Vg n r L];rfl
theorem zif(n:Nat):∀(m:Nat)(head:O0),rG n [head] m=nk n m head
 | 0,head=>rfl
 | m+1,head=>by
   rw[Vg,Vf];have:wd n [head]=(lc n).flatMap λx=>if x∈head then []else [head++[x]]:=by simp[wd]
   rw[this,List.flatMap_assoc];congr 1;funext k;split;rfl;simp[zif]
theorem zcl:∀n,n<7->∀r,r<7->lh (rG n [[]] r)<=720:=by decide +kernel
theorem zo6:∀n,n<7->∀r,r<n+1->(((rG n [[]] r).all λl=>lh l==r)&&decide (0<lh (rG n [[]] r)))=true:=by decide +kernel
def onL(l:O0)(x:Nat):List O0:=(lc x).flatMap λx=>if x∈l then []else [l++[x]]
theorem zcm:onL X (s+1)=onL X s++if s∈X then []else [X++[s]]:=by simp[onL,bW]
theorem XB(l:O0):∀x,lh (onL l x)<=x
 | 0=>by simp[onL]
 | x+1=>by have:=XB l x;rw[zcm];grind
theorem zj8(h:k<lh L):wd n (L.take (k+1))=wd n (L.take k)++onL (lg L k []) n:=by simp[bj [] h,wd,onL]
theorem zo7:lh (wd n L)<=n*L.length:=by
 induction L with
 | nil=>simp[wd]
 | cons l L a =>
   have:wd n (l::L)=onL l n++wd n L:=rfl
   rw[this,aA,bH,xu];have:=XB l n;omega
theorem zL:lg (L.map bl) s []=bl (lg L s []):=by by_cases h:s<lh L;grind;simp[h,bl]
def Vh(rw:S0)(r:Nat):Prop:=∀j,100+r<=j%1000->j%1000<106->rw j=⟨0,.dead⟩
theorem Vh.same{rw rw':S0}(h:Vh rw k)(c:∀j,100+k<=j%1000->j%1000<106->rw' j=rw j):Vh rw' k:=λj a b=>by rw[c j a b,h j a b]
theorem DE{j r c:Nat}(h:100+r<=j%1000)(a:c<100):(j=c)=False:=aX om
theorem xk{j r c:Nat}(h:100+r<=j%1000)(a:c<100):(c=j)=False:=aX om
theorem xP(h1:1<=n)(h6:n<=6):AC prog 191 [al n] (.im (.sl k0 1 (mF ((nk n n []).map bl)))):=by
 refine cA [.tmp 2] func191 λhl=>?_;refine aR ?_;refine zbL (k:=8) (v:=1) (e:=24) (d:=3) (n:=1) (by simp -dsimp only[gr,simprocAttr];rfl) dc gl (λ(r:Nat)s=>(s.sl 0=al n/\s.sl 3=.sl k0 1 (mF ((rG n [[]] r).map bl)))/\(r<=n/\Vh s.rw r)) (λr=>n-r) (0) (λU qw f g=>⟨(by and_intros<;>(first|(simp -dsimp only[gr,simprocAttr,f,g,qw];first|done|rfl|(simp;done))|assumption|rfl)),⟨aB _,λj a b=>by have m:=λc=>DE (c:=c) a;have o:=λc=>xk (c:=c) a;rw[g j (by simp;omega)];simp -dsimp only[gr,simprocAttr,m,o]⟩⟩) ?_;intro r V ⟨W,X⟩;obtain⟨hr,l⟩:=X;have w:=zo6 n om r om;have a7:=zcl n om r om;rw[aj,bT,aY]at w;have Y:rG n [[]] (r+1)=wd n (rG n [[]] r):=rfl;generalize hL:rG n [[]] r=L at *;have C:lh (L.map bl)=lh L:=aG _;have h0:lh (lg (L.map bl) 0 [])=r:=by rw[zL,ap];have:=w.1 _ (aP [] w.2);simpa using this
 simp -dsimp only[↓gp,gq,simprocAttr,gT,W,h0];refine⟨om,om,λZ=>?_,λZ=>?_⟩;obtain⟨K,hK⟩:∃K,K=100+r:=⟨_,rfl⟩;have y:∀j,j<100->(K=j)=False:=λj t=>aX om;have z:∀j,j<100->(j=K)=False:=λj t=>aX om;have E:∀i j,j<100->(dq K i=j)=False:=λi j t=>Ax j K i om;have F:∀i j,j<100->(j=dq K i)=False:=λi j t=>Aw j K i om;have J:K%1000=K:=om;have k6:∀i,(dq K i=K)=False:=λi=>Ax K K i om;have k7:∀i,(K=dq K i)=False:=λi=>Aw K K i om;have d1:V.rw K=⟨0,.dead⟩:=l K om om;have d2:∀i,V.rw (dq K i)=⟨0,.dead⟩:=λi=>l _ (by rw[gf];omega) (by rw[gf];omega);have m3:∀j,100+(r+1)<=j%1000->(j=K)=False:=λj t=>aX om;have m4:∀j,100+(r+1)<=j%1000->(K=j)=False:=λj t=>aX om;refine znJ (j:=4) (v:=(V.rw 4).ver+1) (k:=K) (d:=4) (e:=24) (e2:=3) gl dc gl (by simp -dsimp only[gr,simprocAttr,y,z];exact d1) (λi=>by simp -dsimp only[gr,simprocAttr,E,F];exact d2 i) (by rw[J];simp;omega) (λ((i,v):Nat×Nat) s=>(s.sl 0=al n/\s.sl 4=.own K v/\s.sl 15=.sl k0 1 (mF (L.map bl))/\s.sl 16=al (lh L)/\s.sl 17=al i)/\(i<=lh L/\TabG s.rw K v 24 3 ((wd n (L.take i)).map bl).length ((wd n (L.take i)).map bl)/\Vh s.rw (r+1))) (λ(i,v)=>lh L-i) ((0,1)) (λU qw f g=>⟨(rS f g W C),⟨aB _,qw,λj a b=>by
  rw[g j (by rw[J];simp;omega) om];have m:=λc=>DE (c:=c) a;have o:=λc=>xk (c:=c) a;simp -dsimp only[gr,simprocAttr,m,o];exact l j om b⟩⟩) ?_
 intro(i,v) sb ⟨N,a0⟩;obtain⟨hi,G,O⟩:=a0;refine ff N C ?_;refine⟨λh=>⟨om,om,?_⟩,λh=>?_⟩;have P:i<lh L:=om;have a1:=zj8 n L P;have a8:lh (lg L i [])=r:=by have:=w.1 _ (aP [] P);simpa using this
 generalize a2:wd n (L.take i)=H at *;have a5:lh H<=6*720:=by rw[<- a2];refine aJ (zo7 _ _) (zX h6 (by rw[bg];omega))
 generalize a3:lg L i []=p at *;refine az (λ((x,v):Nat×Nat) s=>(s.sl 0=al n/\s.sl 4=.own K v/\s.sl 15=.sl k0 1 (mF (L.map bl))/\s.sl 16=al (lh L)/\s.sl 17=al i/\s.sl 6=.sl k0 1 (iL (bl p))/\s.sl 7=al x)/\(x<=n/\TabG s.rw K v 24 3 ((H++onL p x).map bl).length ((H++onL p x).map bl)/\Vh s.rw (r+1))) (λ(x,v)=>n-x) ((0,v)) ⟨(fB N @zL a3),⟨aB _,by
  have e:H++onL p 0=H:=by simp[onL]
  rw[e];exact G.same (xr2 y z) (λx=>by simp -dsimp only[gr,simprocAttr,E,F]),O.same λj a b=>by
  have m:=λc=>DE (c:=c) a;have o:=λc=>xk (c:=c) a;simp -dsimp only[gr,simprocAttr,m,o]⟩⟩ ?_
 intro(x,v) sc ⟨D,a4⟩;obtain⟨hx,u,I⟩:=a4;refine cZ D ?_;refine⟨λh2=>aa (tK _ _) ?_,λh2=>?_⟩;have Q:x<n:=om;have A:=zcm p x;refine cZ D ?_;refine⟨λB=>?_,λB=>?_⟩;have B:x∉p:=λe=>by rw[ay (nF.2 e)]at B;cases B
 rw[ac B]at A;refine aa (pd _ (by rw[ap];omega)) ?_;refine ff D @ap ?_;refine⟨om,zfQ ?_⟩;generalize R:(H++onL p x).map bl=S at *;have a6:lh S<=10000:=by rw[<- R,aG,aA];have:=XB p x;omega
 refine xA D @ap @u.top @bP @bp y z ?_;have e:(H++onL p (x+1)).map bl=S++[bl (p++[x])]:=by rw[A,<- cP,cq,R];rfl
 refine⟨om,?_⟩;exact tD (k:=K) (v:=v+1) (e:=24) (e2:=3) (n:=lh S) (d:=32) (vd:=(sc.rw 32).ver+1+1) (M:=S) (r:=bl (p++[x])) (xr2 y z) rfl (λj t=>by simp -dsimp only[gr,simprocAttr,E,F,k6,k7,u.row j t]) (λj t=>by simp -dsimp only[gr,simprocAttr,E,F,k6,k7,u.rest j t]) (xr3 y z @Px) dc (by rw[J];simp;omega) ((x+1,v+1)) (λU qw f g=>⟨(xc7 f g D D (ak Q om) y z),⟨by dsimp only;omega,by rw[e,aA,cG];exact qw,I.same λj a b=>by
  have m:=λc=>DE (c:=c) a;have o:=λc=>xk (c:=c) a;rw[g j (by rw[J];simp;omega) (by simp;omega)];simp -dsimp only[gr,simprocAttr,m,o,m3 j a,m4 j a]⟩⟩) (by first|omega|(simp only;omega)|(dsimp only;omega)|(show _<_;simp;omega))
 have B:x∈p:=aC λe=>by rw[aD (λe'=>e (nF.1 e'))]at B;cases B
 rw[ae B,bh]at A;exact ah ((x+1,v)) ⟨(gE D (ak Q om)),⟨om,by rw[A];exact u.same (xr2 y z) (λx=>by simp -dsimp only[gr,simprocAttr,E,F]),I.same λj a b=>by
  have m:=λc=>DE (c:=c) a;have o:=λc=>xk (c:=c) a;simp -dsimp only[gr,simprocAttr,m,o]⟩⟩
 have:x=n:=om;subst this;exact ah ((i+1,v)) ⟨(fB N D (ak h om)),⟨by dsimp only;omega,by rw[a1];exact u.same (xr2 y z) (λx=>by simp -dsimp only[gr,simprocAttr,E,F]),I.same λj a b=>by
  have m:=λc=>DE (c:=c) a;have o:=λc=>xk (c:=c) a;simp -dsimp only[gr,simprocAttr,m,o]⟩⟩
 have:i=lh L:=om;rw[this,av,<- Y]at G;exact zea (k:=K) (v:=v) (e:=24) (e2:=3) (q:=lc ((rG n [[]] (r+1)).map bl).length) (M:=(rG n [[]] (r+1)).map bl) (d:=3) ((G.done).same (xr2 y z) (λx=>by simp -dsimp only[gr,simprocAttr,E,F])) (by show K<1000000;omega) (λj t=>by
  have h5:=zcl n om (r+1) om;have:=List.mem_range.1 t;rw[aG]at this;rw[fX];show _<1000000;omega) (rp N) (r+1) (λU qw f g=>⟨(by and_intros<;>(first|(simp -dsimp only[gr,simprocAttr,f,g,W,qw,N];first|done|rfl|(simp;done))|assumption|rfl)),⟨om,λj a b=>by
  rw[g j (by rw[J];simp;omega)];have m:=λc=>DE (c:=c) a;have o:=λc=>xk (c:=c) a;simp -dsimp only[gr,simprocAttr,m,o];exact O j a b⟩⟩) (by first|omega|(simp only;omega)|(dsimp only;omega)|(show _<_;simp;omega))
 have:r=n:=om;subst this;rw[<- hL,zif];exact⟨rfl,⟨k0,rfl⟩,sp⟩
theorem Ve:∀c d:N0,lh c=lh d->(decide (Ye c d<0))=ut c d
 | [],[],_=>rfl
 | [],_::_,h=>by grind
 | _::_,[],h=>rfl
 | a::c,b::d,h=>by have g:=Ve c d<|ss h;unfold Ye ut zkA;grind
theorem Ir{m:Nat}(e:m<=6){a:O0}(f:∀x∈a,x<2^m)(g:a.Nodup):∀(N:List O0) (b:N0),(∀c∈N,goodN m c)->lh b=lh a->lh (pI a N b)=lh a
 | [],b,_,d=>d
 | c::N,b,h,d=>by
   have:=Ir e f g N (if ut (wu a c) b then wu a c else b) (λx i=>h x<|by grind)<|by
    split;exact zh9 e (h c sp) f g;grind
   exact this
theorem kC:AC prog 101 [.ag [al a,aE c]] (.tup [.ag [.im (al (zoX a c (aS a c))),.fr 3 1 (iL (uk a c))],.im (aU (aS a c))]):=by
 refine cA [.cell 2 26,.tmp 3] func101 λP=>?_;simp only[dt,dT,dF,gb,jt,hZ,cC]at P;refine aR (aa (aH a c) ?_);refine aR ?_;refine⟨λg=>?_,λg=>?_⟩;have g:aS a c=false:=ss g;have:uk a c=[]:=by unfold uk;rw[ac (by rw[g];decide)]
 rw[g,this];exact⟨rfl,rfl,rfl⟩;have g:aS a c=true:=ss g;obtain⟨m,n,rfl,F,b,G,H,C,I,r⟩:=DD g;have A:uk (m:Int) c=pI n (nk m m []) c:=by unfold uk;rw[ae g,H];rfl
 have J:zoX (m:Int) c k0=(m:Int):=ae rfl;rw[A,g,J];subst G;have Q:=fH g;refine aa (pd (bl n) om) ?_;refine aR (aa (xP m F b) ?_);have R:=zK m om;have l:∀D∈nk m m [],goodN m D:=λD h=>rO h;generalize nk m m []=N at *;have t:lh (N.map bl)=lh N:=sp;refine ff @qe t ?_;refine znH (j:=14) (v:=1) (e:=3) (sz:=1) (c:=iL (bl n)) (d:=4) gl gl 900 1 gl dc rfl (λ((k,u):Nat×Nat) s=>(s.sl 1=.ref 1 1 0/\s.rw 1=⟨1,.box 26 [al m,aE (bl n)]⟩/\s.sl 2=.ref 2 1 0/\s.rw 2=⟨1,.box 26 [al 0,.v (.slice none 0 0)]⟩/\s.sl 4=.own 900 u/\s.rw 900=⟨u,.sli 3 1 l0 (iL (pI n (N.take k) (bl n)))⟩/\s.sl 17=.sl k0 1 (mF (N.map bl))/\s.sl 18=al (lh N)/\s.sl 19=al k)/\(k<=lh N)) (λ(k,u)=>lh N-k) ((0,1)) (λU qw o w=>⟨(by and_intros<;>(first|(simp -dsimp only[gr,simprocAttr,o,w,qw,t];first|done|rfl|(simp;done))|assumption|rfl)),sp⟩) ?_;intro(k,u) V ⟨z,W⟩;refine ff z t ?_;refine⟨λh=>⟨h,h,?_⟩,λh=>?_⟩;have B:lg N k []∈N:=aP [] h;have E:=l _ B;have K:=zL N k;rw[K];have L:∀x∈n,x<64:=λx X=>cp (C x X) (aV (n:=2) (i:=m) (j:=6) om b);refine aa (qK n (lg N k []) L I (by have:=E.len;omega) (E.at6 b) (zeL b E C r)) ?_;refine cZ z (aa (GN _ _) ?_);have p:=Pv n (N.take k) (lg N k []) (bl n);rw[<- bj [] h]at p;have q:=Ve (wu n (lg N k [])) (pI n (N.take k) (bl n)) (by
  rw[zh9 b E C r,Ir b C r _ _ (λD M=>l D (jK M)) (ap n)])
 refine cZ z ?_;have O:bl (co (hU (bl (Ge n (lg N k [])))))=wu n (lg N k []):=rfl;rw[O];refine⟨λy=>?_,λy=>?_⟩;rw[ay y]at q;rw[ae q.symm]at p;exact zjw (j:=26) (v:=(V.rw 26).ver+1) (e:=3) (sz:=1) (c:=iL (wu n (lg N k []))) (d:=4) gl gl 900 (u+1) (by simp -dsimp only[gr,simprocAttr,z];exact dD _) dc rfl ((k+1,u+1)) (λU qw o w=>⟨(by and_intros<;>(first|(simp -dsimp only[gr,simprocAttr,o,w,z,qw,p,ak h om];first|done|rfl|(simp;done))|assumption|rfl)),by dsimp only;omega⟩) (by first|omega|(simp only;omega)|(dsimp only;omega)|(show _<_;simp;omega));rw[aD y]at q;rw[ac (by rw[<- q];decide)]at p;exact ah ((k+1,u)) ⟨(fB z p (ak h om)),by dsimp only;omega⟩;have:k=lh N:=om;rw[this,av]
theorem rn(n b:N0):AC prog 29 [.ag [al a,aE n],.ag [al m,aE b]] (.im (aU (decide (a=m/\n=b)))):=by refine cA [.tmp 4] func29 λc=>?_;refine aR ?_;refine⟨λh=>aa (Cf _ _) ?_,λh=>?_⟩;refine aR ?_;grind;grind
theorem sS(b:N0):AC prog 84 [aE c,aE b] (.im (aU (decide (c=b)))):=by
 refine cA [.tmp 4] func84 λj=>?_;simp[dt,ga]at j;refine aR ?_;refine⟨λh=>?_,λh=>?_⟩;grind;have k:lh c=lh b:=by grind
 refine az (λ(i:Nat)s=>(s.sl 0=aE c/\s.sl 1=aE b/\s.sl 12=al _/\s.sl 13=al i)/\(i<=lh c/\c.take i=b.take i)) (λi=>lh c-i) 0 ⟨nm,sp⟩ ?_;intro i l ⟨g,f⟩;refine cZ g ?_;refine⟨λh=>⟨kr,h,h,om,om,λd=>?_,λd=>?_⟩,λh=>?_⟩;grind;exact ah _ ⟨(gE g<|ak h om),⟨h,by
  rw[bj 0 h,bj 0<|om];grind⟩⟩
 grind
theorem Bz(n b:N0):AC prog 30 [.ag [al a,aE n],.ag [al m,aE b]] (.im (aU (decide (a=m/\n=b)))):=by refine cA [.tmp 4] func30 λc=>?_;refine aR ?_;refine⟨λh=>aa (sS _ _) ?_,λh=>?_⟩;refine aR ?_;grind;grind
def cfG(f:V0)(s t:Nat):Bool:=(lc 64).all λu=>dL f s u==(eG t u&&!(u==t))
noncomputable def flB(n:Int)(f:V0)(s t:Int):Bool:=di n s&&(di n t&&(!(s==0)&&(!(t==0)&&(!(fu .i64 s t != 0)&&(f s.toNat&&(!f t.toNat&&cfG f s.toNat t.toNat))))))
theorem zrA(b:V0):(((bA f 64:Nat):Int)==((bA b 64:Nat):Int))=(lc 64).all λu=>f u==b u:=by rw[aZ,aK,aY];constructor;intro h u a;have a:=List.mem_range.1 a;have e:bA f 64=bA b 64:=om;rw[aK,<- ek f a,<- ek b a,e];intro h;rw[gu λu a=>beq_iff_eq.1<|h u<|List.mem_range.2 a]
theorem Xr:AC prog 207 [al a,dv (bA f 64:Nat),al m,al t] (.im (aU (flB a f m t))):=by
 refine cA [.tmp 8] func207 λr=>?_;unfold flB;refine aR<|aa (eR a m) ?_;cases l:di a m with
 | false=>exact ef
 | true =>
   refine aR<|aa (eR a t) ?_;cases o:di a t with
   | false=>exact ef
   | true =>
     obtain⟨s,u,rfl,rfl,w,y,n⟩:=iI l;obtain⟨_,v,_,rfl,_,_,b⟩:=iI o;cases c:((u:Int)==0)with
     | true=>exact mg c
     | false =>
       cases d:((v:Int)==0)with
       | true=>exact DL c d
       | false =>
         cases i:(fu _ _ _ != 0)with
         | true=>exact xd3 c d i
         | false =>
           refine iD c d i<|aa (ez _ u (kz f) n) ?_;rw[jq f u n];cases j:f u with
           | false=>exact mg j
           | true =>
             refine cZ j<|aa (ez _ v (kz f) b) ?_;rw[jq f v b];cases k:f v with
             | true=>exact mg k
             | false =>
               refine cZ k<|aa (jR f u n) ?_;refine aR<|aa (gC v b) ?_;have g:D0.u64.wrap _=v:=dm om;have p:2^v<2^64:=bN om om;have h:gU .u64 (bA (eG v) 64) (jl .u64 1 v)=((bA (λx=>eG v x&&!(x==v)) 64)):=by have q:=dj (eG v) 64;rw[yU om,UZ om<|ss p];congr 1;refine og _ ?_ λx h=>?_;exact gR (dj _ 64)<|bD bI<|dj _ 64;rw[eS,bQ,ek _ h];grind
               refine iD g h @zrA ?_;rfl
theorem Po:AC prog 116 [.ag [al a,aE c],al m,al t] (.im (aU (zy a c&&flB a (ao c) m t))):=by
 refine cA [.tmp 6] func116 λd=>?_;refine aR ?_;refine⟨kr,aa (nD a c) ?_⟩;cases b:zy a c with
 | false=>exact ef
 | true =>
   have s:aS a c=true:=by simp_all[zy]
   refine aR<|aa (cj a c<|dM s) ?_;refine aR<|aa (Xr a _ m t) ?_;exact ef
theorem zrB{g:V0}(b:DnF d)(c:DnF g):decide (bl (dI d k0)=bl (dI g k0))=(lc 64).all λx=>d x==g x:=by rw[aZ,aq,aY];constructor;intro h x a;have a:=List.mem_range.1 a;have e:=cV (λl=>ao l x) h;simp[vv,zep b a,zep c a]at e;grind;intro h;rw[je λx a=>beq_iff_eq.1<|h x<|List.mem_range.2 a]
theorem zvW(h:DnF d)(u:Nat):DnF (dL d u):=λs t b c=>by unfold dL at *;rw[aj,aK]at *;refine⟨bB λi=>?_,h _ _ b.2<|cg.2 λi f=>?_⟩;grind;grind
theorem zrC:DnF λx=>eG n x&&!(x==n):=λs t a b=>by unfold eG at *;grind
theorem Pp:AC prog 167 [.ag [al a,aE c],al m,al t] (.im (aU (zy a c&&flB a (ao c) m t))):=by
 refine cA [.tmp 6] func167 λY=>?_;unfold flB;refine aR (aa (nC a c) ?_);cases A:zy a c with
 | false=>exact ef
 | true =>
   have g:aS a c=true:=by unfold zy at A;rw[aj]at A;exact A.1
   have i:=dM g;have O:=fH g;refine aR (aa (mT a c m) ?_);rw[g];cases B:di a m with
   | false=>exact ef
   | true =>
     refine aR (aa (mT a c t) ?_);rw[g];cases P:di a t with
     | false=>exact ef
     | true =>
       obtain⟨b,u,rfl,rfl,Z,hu,f⟩:=iI B;obtain⟨_,v,_,rfl,_,_,C⟩:=iI P;cases z:((u:Int)==0)with
       | true=>exact mg z
       | false =>
         cases D:((v:Int)==0)with
         | true=>exact DL z D
         | false =>
           cases J:(fu .i64 (u:Int) (v:Int) != 0)with
           | true=>exact xd3 z D J
           | false =>
             refine iD z D J (aa (jB b c u i f) ?_);cases E:ao c u with
             | false=>exact mg E
             | true =>
               refine cZ E (aa (jB b c v i C) ?_);cases M:ao c v with
               | true=>exact mg M
               | false =>
                 refine cZ M ?_;refine aa (lQ b c u f i om) ?_;have l:=OV g f;have F:=fH l;have e:bl (dI (hU (qU c u)) k0)=bl (dI (dL (ao c) u) k0):=by conv=>lhs;rw[xe l,OT g f]
                 rw[e]at F ⊢;have Q:bl (dI (hU (bl ((co (eG v)).filter λx=>!(x==v)))) k0)=bl (dI (λx=>eG v x&&!(x==v)) k0):=by refine cV bl (je (λx o=>?_) k0);rw[pb,aZ,aq,dG,cR,aj];exact⟨λh=>⟨h.1.2,h.2⟩,λh=>⟨⟨o,h.1⟩,h.2⟩⟩
                 have p:=zrB (zvW (nV g).1 u) (zrC v);have R:=(vu (λx=>eG v x&&!(x==v)) k0);have d:=vX v;unfold Do at d;rw[ae (show 0<=(v:Int)/\(v:Int)<=63 by omega),ar]at d;have j:=ap (co (eG v));have S:=Abs.ordN_len (eG v);have r:∀x∈co (eG v),x<64:=λx o=>(cR.1 o).1;generalize U:bl (dI (dL (ao c) u) k0)=K at *;generalize G:(λx:Nat=>!(x==v))=q at *;generalize co (eG v)=L at *;refine aR (aa d ?_);refine cZ j ?_;refine az (λ((k,w):Nat×Nat) s=>(s.sl 1=al u/\s.sl 2=al v/\s.sl 3=.ref 3 1 0/\s.rw 3=⟨1,.box 26 [al b,aE c]⟩/\s.sl 7=.ref 7 1 0/\s.rw 7=⟨1,.box 26 [al b,.own 53 1]⟩/\s.rw 53=⟨1,.sli 3 1 l0 (iL K)⟩/\s.sl 8=.own 54 w/\s.rw 54=⟨w,.sli 3 1 l0 (iL (bl ((L.take k).filter q)))⟩/\s.sl 9=.own 56 1/\s.rw 56=⟨1,.sli 3 1 l0 (iL (bl L))⟩/\s.sl 10=al k)/\(k<=lh L)) (λ(k,w)=>lh L-k) ((0,1)) ⟨(jX j),om⟩ ?_;intro(k,w) sa ⟨n,W⟩;have X:lh ((L.take k).filter q)<=k:=aJ (aO _ _) (by rw[bg];omega);refine ff n j ?_;refine⟨λh=>?_,λh=>?_⟩
                 ·have H:(((lg L k 0:Nat):Int) != (v:Int))=q (lg L k 0):=by rw[<- G,aZ,gS,bC,bc];omega
                  rw[bX h,H];refine⟨h,h,λI=>⟨h,h,by rw[ap];omega,?_⟩,λI=>?_⟩
                  ·have e:=ny h I;exact ah ((k+1,w+1)) ⟨(DM n (ak h om) e @cI @jZ),by dsimp only;omega⟩
                  ·exact ah ((k+1,w)) ⟨(fB n (ak h om) (qv h I)),by dsimp only;omega⟩
                 ·have:k=lh L:=om;subst this;have y:L.take (lh L)=L:=av;rw[y];refine⟨kr,aa (eV b _ λx o=>?_) ?_⟩
                  ·obtain⟨s,B,rfl⟩:=AY o;have:=r s (List.mem_filter.1 B).1;omega
                  ·rw[Q];have N:=ap (dI (λx=>eG v x&&!(x==v)) k0);refine ff n y (aa (rn b b K _) ?_);rw[show decide ((b:Int)=b/\K=bl (dI (λx=>eG v x&&!(x==v)) k0))=cfG (ao c) u v from (decide_eq_decide.2 ⟨λh=>h.2,λh=>⟨rfl,h⟩⟩).trans p];refine cZ n ?_;exact⟨kr,by rw[E,au]⟩
def fpF(n:Nat)(f:V0)(s t x:Nat):Bool:=pB f s x||(decide (x<2^n)&&((s|||t)&&&x==x&&!(x&&&s==s)))
noncomputable def fpB(n:Int)(a:N0)(s t:Int):Bool:=zy n a&&flB n (ao a) s t
theorem zh5{s t:Int}(h:fpB x F s t=k0):∃m u v:Nat,x=m/\s=u/\t=v/\aS x F=k0/\m<=6/\u<2^m/\v<2^m/\u&&&v=0:=by unfold fpB flB zy at h;simp only[aj,bC]at h;obtain⟨⟨b,_⟩,c,d,_,_,f,_⟩:=h;obtain⟨m,u,rfl,rfl,g,i,j⟩:=iI c;obtain⟨_,v,k,rfl,_,l,o⟩:=iI d;obtain rfl:m=_:=Int.ofNat.inj k;have e:fu .i64 (u:Int) (v:Int)=((u&&&v:Nat):Int):=ej om om;grind
theorem KF(t:Nat)(l:n<64)(c:s<64)(d:t<64):AC prog 120 [al n,.eref l0 [al s] 0,.eref l0 [al t] 0] (.im (aU ((s|||t)&&&n==n&&!(n&&&s==s)))):=by
 refine cA [.tmp 4] func120 λm=>?_;have e:EX _ _ _=(s|||t:Nat):=nQ om om;have f:=cu (n:=6) c d
 have g:gU _ _ _=((n ^^^ (n&&&(s|||t)):Nat)):=fv om om;have i:gU _ _ _=((s ^^^ (s&&&n):Nat)):=fv om om;have j:(((n ^^^ (n&&&(s|||t)):Nat))==0)=((s|||t)&&&n==n):=by have:=gW (a:=n) (b:=s|||t);grind
 have k:(((s ^^^ (s&&&n)):Int) != 0)=!(n&&&s==s):=by have:=gW (a:=s) (b:=n);grind
 refine nN e g i j k ?_;grind
theorem QI:AC prog 48 [.ag [al a,aE c],al m,al t] (xO (fpB a c m t) a (fpF a.toNat (ao c) m.toNat t.toNat)):=by
 refine cA [.cell 6 26,.tmp 7] func48 λo=>?_;refine aR<|aa (Po a c m t) ?_;cases d:fpB a c m t with
 | false =>unfold fpB at d;rw[eH,d];exact ef
 | true =>
   obtain⟨b,u,v,rfl,rfl,rfl,g,e,p,q,h⟩:=zh5 d;have i:=dx e;unfold fpB at d;rw[kX,d];refine aR ?_;refine⟨kr,aa (cj b c<|dM g) ?_⟩;refine aR<|aa (jC _ u om) ?_;refine aR<|aa (gF b e _ _ _ (λrw=>rfl) λx j=>KF x u v om om om) ?_;rw[oq e λx j=>rfl];have k:=dj (pB (ao c) u) 64;have l:=dj (λx=>decide (x<2^b)&&((u|||v)&&&x==x&&!(x&&&u==u))) 64;have f:EX .u64 (bA (pB (ao c) u) 64) (bA (λx=>decide (x<2^b)&&((u|||v)&&&x==x&&!(x&&&u==u))) 64)=((bA (fpF b (ao c) u v) 64)):=by rw[Ca om om,FB];rfl
   refine cZ f<|aa (dP _ _) ?_;exact ef
theorem QJ:AC prog 77 [.ag [al a,aE c],al m,al t] (xO (fpB a c m t) a (fpF a.toNat (ao c) m.toNat t.toNat)):=by
 refine cA [.cell 6 26,.tmp 7] func77 λhl=>?_;refine aR (aa (Pp a c m t) ?_);cases I:fpB a c m t with
 | false =>unfold fpB at I;rw[eH,I];exact ef
 | true =>
   obtain⟨f,u,v,rfl,rfl,rfl,hc,hm,hu,hv,V⟩:=zh5 I;have J:=dx hm;unfold fpB at I;have b:∀x,x∈co (ao c)↔x<64/\ao c x=true:=λx=>cR;have d:∀x,x∈co (eG u)↔x<64/\u&&&x=x:=λx=>by rw[cR];unfold eG;rw[aK]
   have K:Uu (bl ((co (ao c)).filter (λx=>!(x&&&u==u))++((co (eG u)).filter λx=>!(x==u)).map λx=>x|||v)):=λz W=>by
    obtain⟨x,l,rfl⟩:=AY W;rcases List.mem_append.1 l with l|l
    grind;obtain⟨y,o,rfl⟩:=List.mem_map.1 l;have:=cu (n:=6) ((d y).1 (List.mem_filter.1 o).1).1 (show v<64 by omega);omega
   have e:bl (dI (hU (bl ((co (ao c)).filter (λx=>!(x&&&u==u))++((co (eG u)).filter λx=>!(x==u)).map λx=>x|||v))) k0)=bl (dI (fpF f (ao c) u v) k0):=by
    refine zJ K λn ht=>?_;unfold fpF;rw[cw,aj,aq,aj,aK,bC,bc];constructor;rintro(h|⟨_,E,g⟩);have U:=h;unfold pB at U;rw[aj]at U;exact⟨(n:Int),List.mem_map.2 ⟨n,mB _ (List.mem_filter.2 ⟨(b n).2 ⟨ht,U.1⟩,U.2⟩),rfl⟩,by rw[ar,dp]⟩;refine⟨((n&&&u|||v:Nat):Int),List.mem_map.2 ⟨_,gM _ (List.mem_map.2 ⟨n&&&u,List.mem_filter.2 ⟨(d _).2 ⟨bD bI ht,by rw[cl n u,<- fD,dp]⟩,ss g⟩,rfl⟩),rfl⟩,?_⟩;rw[ar];grind;rintro⟨z,W,h⟩;obtain⟨x,l,rfl⟩:=AY W;rw[ar]at h;rcases List.mem_append.1 l with l|l
    obtain⟨E,g⟩:=List.mem_filter.1 l;refine .inl (zsP (nV hc).1 u x n ?_ h);simp_all[pB];obtain⟨y,o,rfl⟩:=List.mem_map.1 l;obtain⟨E,g⟩:=List.mem_filter.1 o;obtain⟨E,h3⟩:=(d y).1 E;have N:=cg.1 h3;have O:=λi r=>by have:=cg.1 h i r;rwa [bq,cw]at this
    refine .inr ⟨bD (by rw[<- h];exact bI) (cu (bD (by rw[<- h3];exact bI) hu) hv),cg.2 λi r=>by
     grind,λX=>?_⟩
    have Y:¬y=u:=ss g;refine Y (bB λi=>?_);cases A:u.testBit i with
    | false=>grind
    | true =>
      grind
   rw[I,ar,ar,ar,uj _ e];have a0:∀i,i<lh (co (ao c))->lg (co (ao c)) i 0<64:=λi r=>((b _).1 (aP 0 r)).1;have P:=io f c;rw[mP hc]at P;have p:=vX u;unfold Do at p;rw[ae (show 0<=(u:Int)/\(u:Int)<=63 by omega),ar]at p;have C:=ap (co (ao c));have q:=ap (co (eG u));have a7:=Abs.ordN_len (ao c);have a8:=Abs.ordN_len (eG u);generalize a2:(λx:Nat=>!(x&&&u==u))=F at *;generalize a3:(λx:Nat=>!(x==u))=Q at *;generalize co (ao c)=L at *;generalize co (eG u)=M at *;refine aR (aa P ?_);refine cZ C ?_;refine az (λ((k,w):Nat×Nat) s=>(s.sl 1=al u/\s.sl 2=al v/\s.sl 3=.ref 3 1 0/\s.rw 3=⟨1,.box 26 [al f,aE c]⟩/\s.sl 6=.ref 6 1 0/\s.rw 6=⟨1,.box 26 [al 0,.v (.slice none 0 0)]⟩/\s.sl 7=.v (.bool l0)/\s.sl 8=.own 19 w/\s.rw 19=⟨w,.sli 3 1 l0 (iL (bl ((L.take k).filter F)))⟩/\s.sl 9=.own 21 1/\s.rw 21=⟨1,.sli 3 1 l0 (iL (bl L))⟩/\s.sl 10=al k)/\(k<=lh L)) (λ(k,w)=>lh L-k) ((0,1)) ⟨(jX C),om⟩ ?_;intro(k,w) sa ⟨G,b0⟩;have a4:lh ((L.take k).filter F)<=k:=aJ (aO _ _) (by rw[bg];omega);refine ff G C ?_;refine⟨λh=>?_,λh=>?_⟩;have J:=a0 k h;have D:(fu .i64 ((lg L k 0:Nat):Int) (u:Int) != (u:Int))=F (lg L k 0):=by rw[<- a2,ej om om];show _=!(lg L k 0&&&u==u);rw[aZ,gS,bC,bc];omega
   rw[bX h,D];refine⟨h,h,λo=>⟨h,h,by rw[ap];omega,?_⟩,λo=>?_⟩;exact ah ((k+1,w+1)) ⟨(DM G (ak h om) (ny h o) @cI @jZ),by dsimp only;omega⟩;exact ah ((k+1,w)) ⟨(fB G (ak h om) (qv h o)),by dsimp only;omega⟩;have:k=lh L:=om;subst this;have a5:L.take (lh L)=L:=av;rw[a5]at G a4;refine aa p ?_;refine ff G q ?_;refine az (λ((j,H,z):Nat×Nat×Nat) s=>(s.sl 1=al u/\s.sl 2=al v/\s.sl 3=.ref 3 1 0/\s.rw 3=⟨1,.box 26 [al f,aE c]⟩/\s.sl 6=.ref 6 1 0/\s.rw 6=⟨1,.box 26 [al 0,.v (.slice none 0 0)]⟩/\s.sl 7=.v (.bool l0)/\s.sl 8=.own 19 H/\s.rw 19=⟨H,.sli 3 1 l0 (iL (bl (L.filter F++((M.take j).filter Q).map λx=>x|||v)))⟩/\s.sl 11=.own 44 z/\s.rw 44=⟨z,.sli 3 1 l0 (iL (bl M))⟩/\s.sl 12=al j)/\(j<=lh M)) (λ(j,H,z)=>lh M-j) ((0,w,(sa.rw 44).ver+1)) ⟨(gE G q),om⟩ ?_;intro(j,H,z) sb ⟨R,b1⟩;have b2:lh (((M.take j).filter Q).map λx=>x|||v)<=j:=by rw[aG];exact aJ (aO _ _) (by rw[bg];omega)
   refine ff R q ?_;refine⟨λg=>?_,λg=>?_⟩;have J:=(λi r=>((d _).1 (aP 0 r)).1) j g;have D:(((lg M j 0:Nat):Int) != (u:Int))=Q (lg M j 0):=by rw[<- a3,aZ,gS,bC,bc];omega
   have a6:EX .i64 ((lg M j 0:Nat):Int) (v:Int)=((lg M j 0|||v:Nat):Int):=nQ om om;rw[bX g,D];refine⟨g,g,λo=>⟨g,g,by rw[ap,aA];omega,?_⟩,λo=>?_⟩;have e2:bl (L.filter F++((M.take (j+1)).filter Q).map λx=>x|||v)=bl (L.filter F++((M.take j).filter Q).map λx=>x|||v)++[((lg M j 0|||v:Nat):Int)]:=by rw[ny g o,cq,<- cP,cI];rfl
   exact ah ((j+1,H+1,z)) ⟨(rS R (ak g om) a6 e2),by dsimp only;omega⟩;exact ah ((j+1,H,z)) ⟨(fB R (ak g om) (qv g o)),by dsimp only;omega⟩;have:j=lh M:=om;subst this;have S:M.take (lh M)=M:=av;rw[S]at R;rw[S];refine aa (eV f _ K) ?_;exact mg R
def zeP(s:Nat):Nat->Nat|0=>0|k+1=>zeP s k+if s.testBit k then 1 else 0
theorem zpa:∀s,s<64->aQ s=zeP s 6:=by decide +kernel
theorem Vi{s n:Nat}(h:s<2^n):∀k,zeP s (n+k)=zeP s n
 | 0=>rfl
 | k+1=>by rw[<- jT,zeP,Vi h k,eK<|cp h<|aV om om];simp
theorem zih{s:Nat}(a:k<=6)(h:s<2^k):s<64:=cp h<|aV om a
theorem zco(b:k<=6)(h:goodN k l){s:Nat}(d:s<2^k):aQ (jE s l k)=aQ s:=by
 have c:∀n,n<=k->aQ (jE s l n)=zeP s n:=by
  intro n;induction n with
  | zero=>intro _;rw[jE,kq];rfl
  | succ n e =>intro a;rw[jE,zeP,<- e om];split;rw[Hy _ (Ba s l (h.at6 b) n (by rw[h.len];omega)) _ (h.at6 b n (by rw[h.len];omega))];rw[<- ql,pf];rintro⟨i,g,_,j⟩;exact h.ne g (by rw[h.len];omega) j;rfl
 rw[zpa s (zih b d)];have:=Vi d (6-k);grind
theorem Gg(h:goodN k l)(s:Nat):jE s l k<2^k:=by refine tn _ λi c=>?_;rw[<- ql,pf];rintro⟨j,b,_,d⟩;have:=h.at (k:=j) (by grind);omega
theorem zj9(c:k<=6)(h:goodN k l){u:Nat}(d:u<2^k):∃t,t<2^k/\jE t l k=u:=have b:kN _ _:=⟨lc<|2^k,dC,λx=>eJ,bp⟩;b.sub_eq (b.image _ (λx y g i e=>Pw c h g i<|by rwa[h.len]) λy=>mV) (λx⟨t,_,e⟩=>e ▸ Gg h t) u d
theorem zcp(h:goodN k l){s t:Nat}(m:t<2^k):s&&&t=t↔jE s l k&&&jE t l k=jE t l k:=by
 rw[cg,cg];constructor;intro b j d;rw[pf]at d ⊢;grind;intro b i n;have c:i<k:=mX λa=>by rw[eK<|cp m<|aV om a]at n;cases n
 have f:=b (lg l i 0)<|(pf t l _ k).2 ⟨i,c,n,rfl⟩;have⟨j,d,g,e⟩:=(pf s l _ k).1 f;have:j=i:=by rw[fU 0<|by rw[h.len];exact d,fU 0<|by rw[h.len];exact c]at e;exact(gd h.nd).1 e
 exact this ▸ g
theorem zii(c:k<=6)(h:goodN k l){fs:O0}{u:Nat}:(u:Int)∈wu fs l↔∃x∈fs,jE x l k=u:=by rw[wu,nF,cR,pb,bT,Ge,dX,h.len];constructor;simp;rintro⟨x,b,e⟩;exact⟨e ▸ zih c (Gg h x),x,b,e⟩
theorem DF:ao (bl l) k=k0↔∃x∈l,x&&&k=k:=by simp[Hz]
theorem zij:∃l,wu X b=bl l:=⟨_,rfl⟩
theorem Vj(g:k<=6)(h:goodN k l){a:O0}(n:∀x∈a,x<2^k){t:Nat}(f:t<2^k):ao (wu a l) (jE t l k)=ao (bl a) t:=by obtain⟨b,i⟩:=zij a l;have c:=λu=>zii g h (fs:=a) (u:=u);rw[i]at c ⊢;rw[aZ,DF,DF];constructor;rintro⟨x,j,e⟩;obtain⟨y,d,rfl⟩:=(c x).1 (nF.2 j);exact⟨y,d,(zcp h f).2 e⟩;rintro⟨y,d,e⟩;exact⟨_,nF.1<|(c _).2 ⟨y,d,rfl⟩,(zcp h f).1 e⟩
theorem Gh{fs:O0}(a:∀x∈fs,x<2^k){t:Nat}(b:ao (bl fs) t=k0):t<2^k:=by
 have⟨x,c,e⟩:=DF.1 b;have:=a x c;have:t<=x:=by rw[<- e];exact bI
 omega
theorem zeQ(c:k<=6)(h:goodN k l){b:O0}(i:∀x∈b,x<2^k)(n:Nat):lh (cd (ao (wu b l)) n 64)=(cd (ao (bl b)) n 64).length:=by
 have q:=(kN.list (Fp (ao (bl b)) n 64)).congr λa=>qu;refine ((kN.list (Fp _ n 64)).congr λa=>qu).uniq (q.image _ (λx y j s e=>Pw c h (Gh i j.2.1) (Gh i s.2.1) (by rwa[h.len])) λu=>?_);constructor;rintro⟨z,f,m⟩;obtain⟨d,p⟩:=zij b l;have o:=by
  rw[p]at f;exact Gh (λx j=>by have:=(zii c h (fs:=b) (u:=x)).1 (by rw[p];exact nF.2 j);obtain⟨y,_,rfl⟩:=this;exact Gg h y) f
 obtain⟨t,g,rfl⟩:=zj9 c h o;exact⟨t,⟨zih c g,by rwa[<- Vj c h i g],by simp_all[m,zco]⟩,rfl⟩;rintro⟨t,⟨_,f,m⟩,rfl⟩;have g:=Gh i f;exact⟨zih c (Gg h t),by simp_all[Vj],by rw[zco c h g,m]⟩
theorem zO{g:V0}(h:∀k,lh (cd d k 64)=lh (cd g k 64)):cv d<=cv g:=by refine aC λc=>?_;have⟨s,f,e,i⟩:=AH 64 (show 0<cv d by omega);have a:=fI.2 ⟨f,e,rfl⟩;have b:=h<|aQ s;have j:aQ s+1=cv d:=i;rw[st (f:=g) om]at b;grind
theorem PC{g:V0}(h:∀k,lh (cd d k 64)=lh (cd g k 64)):gc d=gc g:=by refine bE (by rw[eb,eb,Nat.le_antisymm (zO h) (zO λk=>(h k).symm)]) λi a b=>?_;have c:=lN d (by rwa[eb]at a);have f:=lN g (by rwa[eb]at b);grind
theorem DG(a:O0):∀(N:List O0) (b:N0),pI a N b=b\/∃c∈N,pI a N b=wu a c
 | [],b=>.inl rfl
 | c::N,b=>by
   have e:pI a (c::N) b=pI a N _:=rfl;rcases DG a N (if ut (wu a c) b then wu a c else b)with h|⟨d,f,g⟩
   grind;grind
theorem JH(h:aS x F=k0):gc (ao (uk x F))=gc (ao F):=by
 obtain⟨m,c,rfl,i,d,e,f,j,k,l⟩:=DD h;have b:uk m F=pI c (nk m m []) F:=by simp[uk,h,f]
 rw[b];subst e;rcases DG c _ (bl c)with g|⟨p,g,o⟩
 rw[g];rw[o];exact PC<|zeQ d (rO g) j
noncomputable def PA(n:Int)(a:N0)(m:Int)(b:N0):Bool:=aS n a&&aS m b&&decide (n=m/\uk n a=uk m b)
theorem xQ(n b:N0):AC prog 180 [.ag [al a,aE n],.ag [al m,aE b]] (.im (aU (PA a n m b))):=by refine cA [.tmp 4] func180 λe=>?_;refine aR<|aa (kB a n) ?_;refine aR<|aa (kB m b) ?_;refine aR ?_;unfold PA;refine⟨λc=>⟨λd=>?_,λd=>by grind⟩,λc=>by grind⟩;rw[c,d];refine aa (rn _ _ _ _)<|aR ?_;rfl
theorem PB{m:Int}{b:N0}(h:PA x F m b=k0):x=m/\fcR x F=fcR m b:=by unfold PA at h;simp[bT]at h;have⟨⟨c,d⟩,e,f⟩:=h;refine⟨e,?_⟩;unfold fcR;rw[ae c,ae d,<- JH c,<- JH d,f]
theorem xR(c d:N0):AC prog 66 [.ag [al a,aE c],.ag [al m,aE d]] (.im (aU (PA a c m d))):=by
 refine cA [.tmp 4] func66 λh=>?_;refine aR<|aa (aH a c) ?_;refine aR ?_;refine⟨λe=>?_,λe=>?_⟩;have e:=ss e;refine aa (aH m d)<|aR ?_;refine⟨λn=>?_,λn=>?_⟩;simp_all[PA,n];have n:=ss n;refine⟨kr,λb=>aa (gw a c) ?_,λb=>?_⟩;have b:=ss b;subst b;refine aR<|aa (gw a d) ?_;refine aR<|aa (sS _ _) ?_;refine aR ?_;refine⟨kr,λf=>?_,λf=>aa (kC a c) ?_⟩;cases g:PA a c a d with
 | false=>rfl
 | true=>rw[ay (PB g).2]at f;grind
 refine aR<|aa (kC a d) ?_;refine aR<|aa (Bz _ _ _ _) ?_;refine aR ?_;rw[PA,e,n];rfl;have b:=ss b;cases g:PA a c m d with
 | false=>rfl
 | true=>exact absurd (PB g).1 b
 simp_all[PA,e]
noncomputable def exF(n:Int)(a:N0):Nat->Nat->Int
 | _,0=>0
 | k,r+1=>if PA (xJ k) (mu (FI k)) n a=k0 then k else exF n a (k+1) r
noncomputable def exR(n:Int)(a:N0):Int:=exF n a 1 8
theorem zM:AC prog 144 [] (.im (al 8)):=by refine cA [.tmp 0] func144 λa=>?_;exact ef
theorem zN:AC prog 267 [] (.im (al 8)):=by refine cA [.tmp 0] func267 λa=>?_;exact ef
theorem Is:AC prog 64 [.ag [al a,aE c]] (.im (al (exR a c))):=by
 refine cA [.tmp 2] func64 λj=>?_;refine aR ?_;refine az (λk s=>(s.sl 1=.ref 1 1 0/\s.rw 1=⟨1,.box 26 _⟩/\s.sl 3=al ((k+1:Nat)))/\(k<=8/\exR a c=exF a c (k+1) (8-k))) (λk=>8-k) 0 ⟨nm,⟨om,rfl⟩⟩ ?_;intro k l ⟨b,n⟩;have⟨m,f⟩:=n;rw[f];refine cZ b<|aa zM ?_;refine cZ b ?_;refine⟨λh=>aa (pF _) ?_,λh=>?_⟩;have i:8-k=(8-(k+1))+1:=om;have d:exF a c (k+1) (8-k)=if PA (xJ ((k+1:Nat))) (mu<|FI ((k+1:Nat))) a c=k0 then((k+1:Nat):Int)else exF a c (k+1+1) (8-(k+1)):=by rw[i,exF]
 rw[d];refine cZ b<|aa (xR _ a _ c) ?_;refine cZ b ?_;refine⟨λe=>by grind,λe=>?_⟩;rw[ac<|by grind]at d ⊢;exact ah _ ⟨(gE b<|ak (show k+1<9 by omega) om),⟨om,sp⟩⟩;have:k=8:=om;subst this;rfl
theorem zcn(h:aS x F=k0):lh (uk x F)=lh F:=by
 obtain⟨m,i,rfl,j,c,d,e,k,l,f⟩:=DD h;have b:uk m F=pI i (nk m m []) F:=by simp[uk,h,e]
 rw[b];subst d;rw[Ir c k f _ _ (λo g=>rO g)<|ap i,ap]
theorem zrS{m:Int}{b:N0}(h:PA x F m b=k0):x=m/\F.length=lh b:=by unfold PA at h;simp[bT]at h;have⟨⟨c,d⟩,e,f⟩:=h;exact⟨e,by rw[<- zcn c,<- zcn d,f]⟩
theorem zo9{m:Int}{b:N0}(h:¬(x=m/\F.length=lh b)):PA x F m b=false:=by
 cases c:PA x F m b with
 | false=>rfl
 | true=>exact absurd (zrS c) h
theorem It:AC prog 179 [.ag [al a,aE c]] (.im (al (exR a c))):=by
 refine cA [.tmp 2] func179 λp=>?_;refine aR ?_;refine az (λ(k:Nat)s=>(s.sl 1=.ref 1 1 0/\s.rw 1=⟨1,.box 26 _⟩/\s.sl 3=al ((k+1:Nat):Int))/\(k<=8/\exR a c=exF a c (k+1) (8-k))) (λk=>8-k) (0) ⟨nm,⟨om,rfl⟩⟩ ?_;intro k q ⟨b,d⟩;have⟨r,j⟩:=d;rw[j];refine cZ b<|aa zN ?_;refine cZ b ?_;refine⟨λh=>aa (pG _) ?_,λh=>?_⟩;have m:8-k=(8-(k+1))+1:=om;have o:exF a c (k+1) (8-k)=if PA (xJ ((k+1:Nat):Int)) (mu<|FI ((k+1:Nat):Int)) a c=k0 then((k+1:Nat):Int)else exF a c (k+1+1) (8-(k+1)):=by rw[m,exF]
 rw[o];refine cZ b ?_;refine⟨λf=>⟨λg=>aa (xQ _ a _ c) ?_,λg=>?_⟩,λf=>?_⟩;refine cZ b ?_;refine⟨λi=>by rw[ae i],λi=>?_⟩;have n:¬PA (xJ ((k+1:Nat):Int)) (mu<|FI ((k+1:Nat):Int)) a c=true:=by grind
 exact ah (k+1) ⟨(gE b<|ak (show k+1<9 by omega) om),⟨om,by grind⟩⟩;have n:¬PA (xJ ((k+1:Nat):Int)) (mu<|FI ((k+1:Nat):Int)) a c=true:=by rw[zo9 λe=>by grind];decide
 exact ah (k+1) ⟨(gE b<|ak (show k+1<9 by omega) om),⟨om,by grind⟩⟩;have n:¬PA (xJ ((k+1:Nat):Int)) (mu<|FI ((k+1:Nat):Int)) a c=true:=by rw[zo9 λe=>by grind];decide
 exact ah (k+1) ⟨(gE b<|ak (show k+1<9 by omega) om),⟨om,by grind⟩⟩;have:k=8:=om;subst this;rfl
def lfS(F:N0)(d:Int):Nat->Int|0=>0|k+1=>lfS F d k+lg F (k+1) 0*gh (d-1) k
noncomputable def QH(n:Int)(a:N0)(d:Int):Int:=if aS n a=k0/\0<=d/\d<=20 then(if d=0 then(if 0<(gc (ao a)).length then 1 else 0)else lfS (gc (ao a)) d (lh (gc (ao a))-1))else -1
theorem zoE{n:Int}(a:0<=n)(c:n<=19){k:Nat}(b:k<7):0<=gh n k/\gh n k<=30000:=by
 have h:∀n,n<20->∀k,k<7->rg n k<=30000:=dc
 obtain⟨n,rfl⟩:=ca a;have:=h n om k b;simp[gh];omega
theorem zoF(c:∀i,0<=lg F i 0/\F.getD i 0<=64){d:Int}(f:1<=d)(g:d<=20):∀k,k<7->0<=lfS F d k/\lfS F d k<=2000000*k:=by
 intro k;induction k with
 | zero=>exact λ_=>⟨oE _,oE _⟩
 | succ k e =>intro h;have a:=zoE (n:=d-1) om om (k:=k) om;have b:=c<|k+1;have l:=kH b.1 a.1;have m:=kI b.2 a.2 a.1 dc;unfold lfS;omega
theorem zuk:0<=lg (gc f) s 0/\(gc f).getD s 0<=64:=by
 by_cases h:s<cv f;rw[lN _ h];have:=fc f s<|ab 64;omega;have:lg (gc f) s 0=0:=by simp[eQ<|show(gc f).length<=s by rw[eb];omega]
 omega
theorem Ik:AC prog 73 [.ag [al a,aE c],al m] (.im (al (QH a c m))):=by
 refine cA [.tmp 4] func73 λB=>?_;unfold QH;refine aR<|aa (aH a c) ?_;cases w:aS a c with
 | false=>exact ef
 | true =>
   by_cases g:0<=m/\m<=20;have f:(m<0)=False:=aX om;have x:(20<m)=False:=aX om;have b:=gw a c;have e:fcR a c=gc (ao c):=ae w;rw[e]at b;have t:=zuk<|ao c;have d:=eb<|ao c;have i:=eD<|ao c;generalize gc (ao c)=F at *;refine ff f x<|aa b ?_;by_cases j:m=0;refine cZ (show((0:Int)==0)=k0 from rfl) ?_;grind;have y:=beq_eq_false_iff_ne.2 j;refine cZ y ?_;refine az (λ(k:Nat)s=>(s.sl 1=al m/\s.sl 5=.own 20 1/\s.rw 20=⟨1,.sli 3 1 l0<|iL F⟩/\s.sl 6=al (lfS F m k)/\s.sl 7=al (k+1:Nat))/\(k+1<=F.length\/(k=0/\F.length=0))) (λk=>lh F-k) (0) ⟨nm,om⟩ ?_;intro k C ⟨l,z⟩;have A:=zoF t (by omega) g.2 k om;have n:D0.i64.wrap (m-1)=m-1:=aF om om;have o:D0.i64.wrap (((k+1:Nat):Int)-1)=(k:Int):=by rw[aF om om];omega
   refine iD l n o ?_;refine⟨λh=>⟨kr,h,h,aa (Ce (m-1) k om) ?_⟩,λh=>?_⟩;have p:=zoE (n:=m-1) om om (k:=k) om;have u:=t<|k+1;have D:=kH u.1 p.1;have E:=kI u.2 p.2 p.1 dc;have q:D0.i64.wrap _=lg F (k+1) 0*gh (m-1) k:=aF om om;have r:D0.i64.wrap (lfS F m k+lg F (k+1) 0*gh (m-1) k)=lfS F m (k+1):=aF om om;refine iD l q r ?_;exact ah (k+1) ⟨(gE l<|ak (by omega) om),om⟩;grind;rw[ac λh=>g h.2];by_cases f:m<0;exact mg<|bO f;exact DL (aX f)<|show(20<m)=True from bO om
theorem Il:AC prog 185 [.ag [al a,aE c],al m] (.im (al (QH a c m))):=by
 refine cA [.tmp 4] func185 λy=>?_;unfold QH;refine aR<|aa (bw a c) ?_;cases t:aS a c with
 | false=>exact ef
 | true =>
   refine aR<|aa (fe _ _ _) ?_;by_cases e:0<=m/\m<=20;rw[ae ⟨rfl,e⟩,show(decide (0<=m)&&decide (m<=20))=k0 by simp[e]];have b:=gt a c;rw[mP t]at b;have q:=zuk<|ao c;have d:=eb<|ao c;have f:=eD<|ao c;rw[<- d]at f;clear d;generalize gc (ao c)=F at *;refine aR<|aa b ?_;by_cases g:m=0;subst g;refine cZ (show((0:Int)==0)=k0 from rfl)<|aa (wY _) ?_;refine aR ?_;split<;>split<;>omega;have u:(m==0)=false:=beq_eq_false_iff_ne.2 g;rw[ac g];refine cZ u ?_;refine az (λ(k:Nat)s=>(s.sl 1=al m/\s.sl 5=.own 17 1/\s.rw 17=⟨1,.sli 3 1 l0<|iL F⟩/\s.sl 6=al (lfS F m k)/\s.sl 7=al (k+1:Nat))/\(k+1<=F.length\/(k=0/\F.length=0))) (λk=>lh F-k) (0) ⟨nm,om⟩ ?_;intro k z ⟨i,w⟩;have x:=zoF q (show 1<=m by omega) e.2 k om;have j:D0.i64.wrap (m-1)=m-1:=aF om om;have l:D0.i64.wrap (((k+1:Nat):Int)-1)=(k:Int):=by rw[aF om om];omega
   refine iD i j l ?_;refine⟨λh=>⟨kr,h,h,aa (Cd (m-1) k om) ?_⟩,λh=>?_⟩;have n:=zoE (n:=m-1) om om (k:=k) om;have r:=q<|k+1;have A:=kH r.1 n.1;have B:=kI r.2 n.2 n.1 dc;have o:D0.i64.wrap (lg F (k+1) 0*gh (m-1) k)=lg F (k+1) 0*gh (m-1) k:=aF om om;have p:D0.i64.wrap (lfS F m k+lg F (k+1) 0*gh (m-1) k)=lfS F m (k+1):=aF om om;refine iD i o p ?_;exact ah (k+1) ⟨(gE i<|ak (show k+1<lh F by omega) om),om⟩;rw[show (lh F)-1=k by omega];rw[ac λh=>e h.2,show(decide (0<=m)&&decide (m<=20))=l0 by rw[er,bJ,bJ];omega];exact ef
noncomputable def zoG(a:O0)(N:List O0):List O0:=N.filter λb=>decide (wu a b=bl a)
noncomputable def Xq(n:Int)(a:N0):Nat:=if aS n a=k0 then(zoG (a.map Int.toNat) (nk n.toNat n.toNat [])).length else 0
theorem zoH{a:Type}{l:List a}{p:a->Bool}(d:a)(h:k<lh l)(b:p (lg l k d)=k0):(l.take (k+1)).filter p=(l.take k).filter p++[lg l k d]:=by rw[bj d h];grind
theorem zsT{a:Type}{l:List a}{p:a->Bool}(d:a)(h:k<lh l)(b:p (lg l k d)=l0):(l.take (k+1)).filter p=(l.take k).filter p:=by rw[bj d h];grind
theorem Bv(i:1<=n)(d:n<=6)(q:∀x∈X,x<2^n)(j:lh X<=64)(l:X.Nodup):AC prog 145 [.ag [al n,aE (bl X)]] (.fr 24 1 (mF ((zoG X (nk n n [])).map bl))):=by
 refine cA [.tmp 2] func145 λB=>?_;have r:=dx d;refine aR (aa (xP n i d) ?_);have t:=zK n om;have f:∀c∈nk n n [],goodN n c:=λc h=>rO h;generalize nk n n []=N at *;have b:lh (N.map bl)=lh N:=sp;have u:mF (((N.take 0).filter λc=>decide (wu X c=bl X)).map bl)=[]:=rfl;unfold zoG;refine ff @qe b ?_;refine az (λ(k,v)s=>(s.sl 1=.ref 1 1 0/\s.rw 1=⟨1,.box 26 [al n,aE (bl X)]⟩/\s.sl 3=.own 3 v/\s.rw 3=⟨v,.sli 24 1 l0 (mF (((N.take k).filter λc=>decide (wu X c=bl X)).map bl))⟩/\s.sl 8=.sl k0 1 (mF (N.map bl))/\s.sl 9=al (lh N)/\s.sl 10=al k)/\(k<=lh N)) (λ(k,v)=>lh N-k) ((0,1)) ⟨(gE u b),om⟩ ?_;intro(k,v) C ⟨g,y⟩;refine ff g b ?_;refine⟨λh=>⟨h,h,kr,?_⟩,λh=>?_⟩;have a:=f _ (aP [] h);rw[zL N k];refine aa (qK X _ (λx z=>by grind) j (by have:=a.len;omega) (a.at6 d) (zeL d a q l)) ?_;rw[show bl _=wu X _ from rfl];refine ff g b (aa (sS _ _) ?_);have A:lh ((N.take k).filter λc=>decide (wu X c=bl X))<=k:=aJ (aO _ _) (by grind);refine ff g b ?_;refine⟨kr,λo=>⟨by grind,?_⟩,λo=>?_⟩;have e:((N.take (k+1)).filter λc=>decide (wu X c=bl X)).map bl=((N.take k).filter λc=>decide (wu X c=bl X)).map bl++[bl (lg N k [])]:=by rw[zoH [] h (by rw[o];simp),cq];rfl
 exact ah ((k+1,v+1)) ⟨(rS g b (ak h om) e),om⟩;have e:=zsT (p:=λc=>decide (wu X c=bl X)) [] h (aD o);exact ah ((k+1,v)) ⟨(rS g b (ak h om) e),om⟩;grind
theorem xh:AC prog 67 [.ag [al a,aE c]] (.im (al (Xq a c:Nat))):=by
 refine cA [.tmp 2] func67 λj=>?_;unfold Xq;refine aR<|aa (aH a c) ?_;cases g:aS a c with
 | false=>exact ef
 | true =>obtain⟨m,h,rfl,b,n,rfl,d,i,e,f⟩:=DD g;rw[d];refine aR<|aa (Bv m h b n i e f) ?_;refine aR ?_;simp
theorem Bw(F:1<=n)(m:n<=6)(G:∀x∈X,x<2^n)(w:lh X<=64)(H:X.Nodup):AC prog 268 [.ag [al n,aE (bl X)]] (.fr 24 1 (mF ((zoG X (nk n n [])).map bl))):=by
 refine cA [.tmp 2] func268 λW=>?_;have I:=dx m;refine aR ?_;have J:=zK n om;have A:=zib (n-1) [] [] (by simp;omega) (by
  grind)
 have e:lh ([]:O0)+1+(n-1)=n:=by simp;omega
 rw[e,show n-1+1=n by omega,eg]at A;have g:∀b∈nk n n [],goodN n b:=λb h=>rO h;generalize nk n n []=N at *;unfold zoG;refine CI (k:=10) (v:=1) A (λj=>j=9) ?_ ⟨.inr ⟨rfl,gl⟩,rfl,λj o=>absurd o sp,λj _=>gl⟩ (λj o=>by subst o;rfl) λS K a L r i l=>?_;exact .one (.v _) (.one (.lent (e:=3) rfl (rfl)) (.one (zdy gl) .nil));have B:S.sl 1=.ref 1 1 0:=by rw[i 1 dc];rfl
 have C:S.sl 3=.own 6 1:=by rw[i 3 dc];rfl
 have D:S.rw 1=⟨1,.box 26 [al n,aE (bl X)]⟩:=by rw[l 1 dc];rfl
 have E:S.rw 6=⟨1,.sli 24 1 l0 []⟩:=by rw[l 6 dc];rfl
 have c:lh (N.map bl)=lh N:=sp;have O:mF (((N.take 0).filter λb=>decide (wu X b=bl X)).map bl)=[]:=rfl;refine nN r B C D E ?_;refine zka (k:=10) (v:=K) (d:=4) (L.done.same gl (λx=>gl)) dc (λj o=>yF dc (by grind)) gl (λ(k,v)s=>(s.sl 1=.ref 1 1 0/\s.rw 1=⟨1,.box 26 [al n,aE (bl X)]⟩/\s.sl 3=.own 6 v/\s.rw 6=⟨v,.sli 24 1 l0 (mF (((N.take k).filter λb=>decide (wu X b=bl X)).map bl))⟩/\s.sl 4=.sl k0 1 (mF (N.map bl))/\s.sl 5=al k)/\(k<=lh N)) (λ(k,v)=>lh N-k) ((0,1)) (λY qw t y=>⟨(by and_intros<;>(first|(simp only[gr,simprocAttr,t,y,r,B,C,D,E,O,qw])|assumption|rfl)),aB _⟩) ?_;intro(k,v) Z ⟨u,Q⟩;refine ff u c ?_;refine⟨λh=>⟨kr,h,h,?_⟩,λh=>?_⟩;have R:=g _ (aP [] h);have f:=zL N k;rw[f];refine aa (wc (n:Int) X _ (λx U=>by grind) w m R) ?_;refine ff u c (aa (Cf _ _) ?_);have V:lh ((N.take k).filter λb=>decide (wu X b=bl X))<=k:=aJ (aO _ _) (by rw[bg];omega);refine iD u c f ?_;refine⟨kr,λz=>⟨h,h,by rw[aG];omega,?_⟩,λz=>?_⟩;have e:((N.take (k+1)).filter λb=>decide (wu X b=bl X)).map bl=((N.take k).filter λb=>decide (wu X b=bl X)).map bl++[bl (lg N k [])]:=by rw[zoH [] h (by rw[z];simp),cq];rfl
 exact ah ((k+1,v+1)) ⟨(DM u c f (ak h om) e),om⟩;have e:=zsT (p:=λb=>decide (wu X b=bl X)) [] h (aD z);exact ah ((k+1,v)) ⟨(DM u c f (ak h om) e),om⟩;grind
theorem xi:AC prog 181 [.ag [al a,aE c]] (.im (al (Xq a c:Nat))):=by
 refine cA [.tmp 2] func181 λj=>?_;unfold Xq;refine aR<|aa (bw a c) ?_;cases g:aS a c with
 | false=>exact ef
 | true =>obtain⟨m,h,rfl,b,n,rfl,d,i,e,f⟩:=DD g;rw[d];refine aR<|aa (Bw m h b n i e f) ?_;refine aR ?_;simp
end Go.Proofs.YtijabbemjaioeaaGreatDoor
