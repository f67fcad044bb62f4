/- DERIVED by an AI agent. -/
import Derived.Test.YtigjebcjfbhnjaaGreatDoorB1
import Derived.Test.YtigjebcjfbhnjaaGreatDoorP1
set_option linter.all false
namespace Go.Proofs.YtigjebcjfbhnjaaGreatDoor
open Bool renaming true→k0,false→l0
open Go renaming IntKind→D0
open List renaming range→lc,replicate→ld,getD→lg,length→lh
open Nat renaming reduceEqDiff→lj,reduceMod→lk,reduceAdd→ll,reduceLT→lm,reduceLeDiff→lp,reduceSub→lr,reduceMul→lu,reduceBEq→lw
open Int renaming reduceToNat→lz,reduceLE→lA,reduceLT→lB,reduceNeg→lC
open Go.Proofs.Tryz
open Go.Abs
variable (a:N0)(M:fG)(e:X0)(n:Nat)(m:Nat)(p:Int)(b:N0)(c:Nat)(s:Int){r:N0}{x:Int}{k:Nat}{l:O0}{f:V0}{d:fG}
def zkA(a b:Int):Int:=if a<b then -1 else if b<a then 1 else 0
theorem yq:AC prog 312 [al p] (.im (aU l0)):=by refine cA [.tmp 2] func312 λ_=>?_;refine aR ?_;simp
theorem Qb:AC prog 279 [al p,al s] (.im (al (zkA p s))):=by refine cA [.tmp 4] func279 λ_=>?_;refine aR<|aa (yq p) ?_;refine aR<|aa (yq s) ?_;refine aR ?_;unfold zkA;omega
theorem fe(c:Int):AC prog 86 [al p,al s,al c] (.im (aU (decide (s<=p)&&decide (p<=c)))):=by refine cA [.tmp 6] func86 λ_=>?_;refine aR ?_;grind
def ut:N0->N0->Bool
 | [],_=>l0
 | _::_,[]=>l0
 | a::c,b::d=>if a=b then ut c d else decide (a<b)
def Ye:N0->N0->Int
 | [],[]=>0
 | [],_::_=>-1
 | _::_,[]=>1
 | a::c,b::d=>if zkA a b=0 then Ye c d else zkA a b
theorem Qf:AC prog 177 [aE a,aE b] (.im (aU (ut a b))):=by refine cA [.tmp 4] func177 λf=>?_;simp only[dt,ga,dT,dF]at f;simp (maxSteps:=9^7) -dsimp only[↓gp,gq,reduceCtorEq,lj,lm,lp,ll,lu,lr,lw,lz,lA,lB,lC,lk,gT];refine az (λ(i:Nat)s=>s.sl 0=aE a/\s.sl 1=aE b/\s.sl 5=al i/\i<=lh a/\ut a b=ut (a.drop i) (b.drop i)) (λi=>lh a-i) 0 ⟨by simp (maxSteps:=9^7) -dsimp only[gr,lj,lm,ll,lk,lw],by simp (maxSteps:=9^7) -dsimp only[gr,lj,lm,ll,lk,lw],by simp (maxSteps:=9^7) -dsimp only[gr,lj,lm,ll,lk,lw];rfl,sp,sp⟩ ?_;intro i l ⟨g,j,k,m,d⟩;rw[d];simp (maxSteps:=9^7) -dsimp only[↓gp,gq,reduceCtorEq,lj,lm,lp,ll,lu,lr,lw,lz,lA,lB,lC,lk,gT,g,j,k];refine⟨λh=>⟨λc=>⟨kr,h,h,c,c,λe=>⟨kr,h,h,c,c,?_⟩,λe=>?_⟩,λc=>?_⟩,λh=>?_⟩;rw[kp 0 h,kp 0 c];simp only[ut];rw[ac (ss e)];refine ah (i+1) ⟨by simp (maxSteps:=9^7) -dsimp only[gr,lj,lm,ll,lk,lw,g],by simp (maxSteps:=9^7) -dsimp only[gr,lj,lm,ll,lk,lw,j],by simp (maxSteps:=9^7) -dsimp only[gr,lj,lm,ll,lk,lw];rw[ak h f.1],h,?_⟩ om;rw[kp 0 h,kp 0 c];simp only[ut];rw[ae (ss e)];rw[eI (show (lh b)<=i by omega)];cases a.drop i<;>rfl;rw[eI (show (lh a)<=i by omega)];rfl
theorem GN:AC prog 219 [aE a,aE b] (.im (al (Ye a b))):=by refine cA [.tmp 4] func219 λm=>?_;simp only[dt,ga,dT,dF]at m;simp (maxSteps:=9^7) -dsimp only[↓gp,gq,reduceCtorEq,lj,lm,lp,ll,lu,lr,lw,lz,lA,lB,lC,lk,gT];refine az (λ(i:Nat)s=>s.sl 0=aE a/\s.sl 1=aE b/\s.sl 9=aE a/\s.sl 10=al (lh a)/\s.sl 11=al i/\i<=lh a/\i<=lh b/\Ye a b=Ye (a.drop i) (b.drop i)) (λi=>lh a-i) 0 ⟨by simp (maxSteps:=9^7) -dsimp only[gr,lj,lm,ll,lk,lw],by simp (maxSteps:=9^7) -dsimp only[gr,lj,lm,ll,lk,lw],by simp (maxSteps:=9^7) -dsimp only[gr,lj,lm,ll,lk,lw],by simp (maxSteps:=9^7) -dsimp only[gr,lj,lm,ll,lk,lw],by simp (maxSteps:=9^7) -dsimp only[gr,lj,lm,ll,lk,lw];rfl,sp,sp,sp⟩ ?_;intro i o ⟨g,j,k,c,d,p,n,e⟩;rw[e];simp (maxSteps:=9^7) -dsimp only[↓gp,gq,reduceCtorEq,lj,lm,lp,ll,lu,lr,lw,lz,lA,lB,lC,lk,gT,g,j,k,c,d];refine⟨λh=>⟨h,h,λf=>?_,λf=>⟨om,om,aa (Qb _ _) ?_⟩⟩,λh=>⟨λf=>?_,λf=>?_⟩⟩;rw[kp 0 h,eI f];rfl;simp (maxSteps:=9^7) -dsimp only[↓gp,gq,reduceCtorEq,lj,lm,lp,ll,lu,lr,lw,lz,lA,lB,lC,lk,gT,g,j,k,c,d];refine⟨λl=>?_,λl=>?_⟩;rw[kp 0 h,kp 0 (show i<lh b by omega)];simp only[Ye];rw[ac (ss l)];refine ah (i+1) ⟨by simp (maxSteps:=9^7) -dsimp only[gr,lj,lm,ll,lk,lw,g],by simp (maxSteps:=9^7) -dsimp only[gr,lj,lm,ll,lk,lw,j],by simp (maxSteps:=9^7) -dsimp only[gr,lj,lm,ll,lk,lw,k],by simp (maxSteps:=9^7) -dsimp only[gr,lj,lm,ll,lk,lw,c],by simp (maxSteps:=9^7) -dsimp only[gr,lj,lm,ll,lk,lw];rw[ak h m.1],h,om,?_⟩ om;rw[kp 0 h,kp 0 (show i<lh b by omega)];simp only[Ye];rw[ae (ss l)];rw[eI (show (lh a)<=i by omega),kp 0 (show i<lh b by omega)];rfl;rw[eI (show (lh a)<=i by omega),eI (show (lh b)<=i by omega)];rfl
theorem DS:AC prog 270 [al p,al s] (.im (al (max p s))):=by refine cA [.tmp 4] func270 λc=>?_;refine aR ?_;grind
theorem ey(h:n<9223372036854775808):AC prog 183 [al n] (.im (al (aQ n:Nat))):=by refine cA [.tmp 2] func183 λj=>?_;simp[↓gp];refine az (λ(x:Nat×Nat)s=>s.sl 0=al x.1/\s.sl 3=al x.2/\x.1<=n/\x.2+aQ x.1=aQ n) (λx=>x.1) (n,0) ⟨gl,rfl,sp,sp⟩ ?_;intro⟨m,a⟩ k ⟨d,e,f,b⟩;have g:=zp2 n;simp only[↓gp,gq,simprocAttr,d,e,zme (show m<9223372036854775808 by omega),za4];refine⟨λi=>?_,λi=>?_⟩;have c:m≠0:=om;rw[Fe c]at b;refine ah (m/2,a+m%2) ⟨gl,?_,om,by grind⟩ (om);rw[aF om om];rfl;simp_all[kq]
theorem mf{s:Int}(a:0<=s)(h:s<9223372036854775808):AC prog 183 [al s] (.im (al (aQ s.toNat:Nat))):=by obtain⟨m,rfl⟩:=ca a;exact ey m om
theorem Cm[aw](n:Nat)(h:n<64):AC prog 314 [dv n] (.im (al (aQ n:Nat))):=by refine cA [.tmp 2] func314 λa=>?_;refine aR ?_;clear a;obtain⟨m,rfl⟩:∃m:Fin 64,m.val=n:=⟨⟨n,h⟩,rfl⟩;revert m;decide +kernel
theorem GM[aw](n:Nat)(h:n<64):AC prog 280 [dv n] (.im (al (aQ n:Nat))):=by refine cA [.tmp 2] func280 λa=>?_;refine aR<|aa (Cm n h) ?_;exact ef
theorem eR[aw](n s:Int):AC prog 165 [al n,al s] (.im (aU (di n s))):=by refine cA [.tmp 4] func165 λd=>?_;simp[↓gp,gq,simprocAttr,gT,di];refine⟨λa=>⟨λb=>⟨λc=>?_,λc=>om⟩,λb=>om⟩,λa=>om⟩;obtain⟨m,rfl⟩:=ca a;rw[mJ om,eh om];grind
theorem ro:AC prog 91 [al p,al s] (.im (aU (di p s))):=by
 refine cA [.tmp 4] func91 λf=>?_;refine aR<|aa (fe _ _ _) ?_;refine aR ?_;refine⟨λh=>?_,λh=>?_⟩;simp[bT]at h;obtain⟨a,c⟩:=h;obtain⟨m,rfl⟩:=ca a;have d:=dx (m:=m) om;have e:di m s=decide (0<=s/\s<(2^m:Nat)):=by rw[di];grind
 rw[e,mJ om,eh om];generalize 2^m=q at d;rw[aF om om];refine⟨om,aa (fe _ _ _) ?_⟩;refine aR ?_;grind;refine aD λb=>?_;grind
def qN(s:Int):Int:=if 0<=s/\s<64 then(aQ s.toNat:Nat)else -1
theorem Vv:di 6 p=decide (0<=p/\p<64):=by simp[di]
theorem dy[aw](s:Int):AC prog 225 [al s] (.im (al (qN s))):=by
 refine cA [.tmp 2] func225 λa=>?_;refine aR ?_;refine aa (eR _ _)<|cZ @Vv ?_;refine⟨λh=>?_,λh=>?_⟩;have h:¬(0<=s/\s<64):=by grind
 rw[qN,ac h];have h:=ss h;obtain⟨m,rfl⟩:=ca h.1;rw[mJ om];refine aa (GM m om)<|aR ?_;simp[qN,h]
def rQ(a b:Int):Bool:=decide (0<=a/\a<64)&&(decide (0<=b/\b<64)&&(if qN a=qN b then decide (a<b)else decide (qN a<qN b)))
theorem ur[aw](a b:Int):AC prog 234 [al a,al b] (.im (aU (rQ a b))):=by
 refine cA [.tmp 4] func234 λf=>?_;refine aR ?_;refine aa (eR _ _) ?_;refine cZ @Vv ?_;unfold rQ;refine⟨λh=>aa (eR _ _) ?_,λh=>?_⟩;have e:decide (0<=a/\a<64)=true:=ss h;refine cZ @Vv ?_;rw[e];refine⟨λc=>?_,λc=>?_⟩;grind;have c:decide (0<=b/\b<64)=true:=ss c;rw[c];refine aa (dy a) ?_;refine aR ?_;refine aa (dy b) ?_;refine aR ?_;refine⟨λd=>aa (dy a) ?_,λd=>?_⟩;refine aR ?_;refine aa (dy b) ?_;refine aR ?_;have d:¬qN a=qN b:=ss d;rw[ac d];have d:qN a=qN b:=ss d;rw[ae d];grind
theorem jY:AC prog 212 [al p] (.im (aU (lM p))):=by refine cA [.tmp 2] func212 λb=>?_;refine aR ?_;simp_all[lM]
theorem gB:AC prog 168 [al p] (.im (aU (lM p))):=by refine cA [.tmp 2] func168 λb=>?_;refine aR ?_;simp_all[lM]
theorem NY{a p:Int}(b:0<p):-p<a.tmod p/\a.tmod p<p:=⟨Int.lt_tmod_of_pos a b,Int.tmod_lt_of_pos a b⟩
theorem tZ(b:lM s=k0):AC prog 307 [al p,al s] (.im (al (p%s))):=by refine cA [.tmp 4] func307 λe=>?_;have b:=jy b;have f:=NY (a:=p) (om:0<s);have c:D0.i64.wrap _=p.tmod s+s:=aF om om;refine ff c (zha p s om) ?_;omega
theorem oS(d:0<s/\s<=5):AC prog 333 [al p,al s] (.im (al (p%s))):=by refine cA [.tmp 4] func333 λe=>?_;have f:=NY (a:=p) (om:0<s);have c:D0.i64.wrap _=p.tmod s+s:=aF om om;have b:=zha p s om;refine cZ c ?_;refine⟨om,λh=>?_,λh=>?_⟩;rw[<- b,mL om,jH om om];rw[<- b,mA om,Int.add_emod_right,jH om om]
theorem Ff{r b:Int}(h:b<x):nP x r b (x-b).toNat=if r*b%x=1 then b else nP x r (b+1) (x-(b+1)).toNat:=by have e:(x-b).toNat=(x-(b+1)).toNat+1:=om;rw[e,nP]
theorem Fg(e:lM s=k0):AC prog 342 [al p,al s] (.im (al (sk s p))):=by
 refine cA [.tmp 4] func342 λq=>?_;have j:=jy e;refine aR<|aa (jY s) ?_;refine cZ e ?_;have k:=jr p (om:s≠0);have l:=ji p (om:0<s);refine az (λb a=>(a.sl 0=al p/\a.sl 1=al s/\a.sl 5=al b)/\(1<=b/\b<=s/\sk s p=nP s _ b (s-b).toNat)) (λb=>(s-b).toNat) 1 ⟨nm,⟨om,om,rfl⟩⟩ ?_;intro b r ⟨f,g⟩;have⟨t,m,i⟩:=g;refine cZ f ?_;refine⟨λh=>aa (tZ p s e) ?_,λh=>?_⟩;have n:0<=p%s*b/\p%s*b<=20:=by refine⟨kH k om,?_⟩;have:=kI (show p%s<=4 by omega) (by omega) om om;omega
 have o:D0.i64.wrap _=p%s*b:=aF om om;have d:D0.i64.wrap _=b+1:=aF om om;simp only[↓gp,gq,simprocAttr,f,o,mL n.1];refine⟨om,λc=>?_,λc=>ah _ ⟨(gE f d),⟨om,om,?_⟩⟩⟩;have c:=beq_iff_eq.1 c;rw[i,Ff h,ae c];rw[i,Ff h,ac (ss c)];have:(s-b).toNat=0:=om;rw[i,this];rfl
theorem Fh(e:lM s=k0):AC prog 332 [al p,al s] (.im (al (sk s p))):=by
 refine cA [.tmp 4] func332 λq=>?_;have j:=jy e;refine aR ?_;refine aa (gB s)<|cZ e ?_;have k:=jr p (om:s≠0);have l:=ji p (om:0<s);refine aa (oS p s<|om) ?_;refine aR ?_;refine az (λb a=>(a.sl 1=al s/\a.sl 5=al _/\a.sl 6=al b)/\(1<=b/\b<=s/\sk s p=nP s _ b (s-b).toNat)) (λb=>(s-b).toNat) (1) ⟨nm,⟨om,om,rfl⟩⟩ ?_;intro b r ⟨i,f⟩;have⟨t,m,g⟩:=f;have n:0<=p%s*b/\p%s*b<=20:=by refine⟨kH k om,?_⟩;have:=kI (show p%s<=4 by omega) (by omega) om om;omega
 have o:D0.i64.wrap _=p%s*b:=aF om om;have d:D0.i64.wrap _=b+1:=aF om om;simp only[↓gp,gq,simprocAttr,i,o,d,mL n.1];refine⟨λh=>⟨om,λc=>?_,λc=>ah _ ⟨(gE i d),⟨om,om,?_⟩⟩⟩,λh=>?_⟩;have c:=beq_iff_eq.1 c;rw[g,Ff h,ae c];rw[g,Ff h,ac (ss c)];have:(s-b).toNat=0:=om;rw[g,this];rfl
theorem za6(h:k<lh r):lg (r.map λx=>x%p) k 0=lg r k 0%p:=by grind
theorem Ud(h:k<lh d):nw p (d.take k)++[(lg d k []).map λx=>x%p]=nw p (d.take (k+1)):=by rw[bj [] h];simp[nw]
theorem BZ(h:k<=lh d):lh (nw p (d.take k))=k:=by simp[nw];omega
theorem uS(D:0<p/\p<=5)(J:lh M<=900)(z:∀i,i<lh M->lh (lg M i [])<=1000):AC prog 300 [hY M,al p] (.tb 29 3 ((nw p M).map iL)):=by
 refine cA [.tmp 4] func300 λK=>?_;refine aR ?_;refine⟨om,om,?_⟩;refine NV (k:=12) (v:=1) (e:=29) (e2:=3) (n:=lh M) gl (λj=>gl) (λ(i:Nat)s=>(s.sl 0=hY M/\s.sl 1=al p/\s.sl 5=.own 12 1/\s.sl 13=hY M/\s.sl 14=al (lh M)/\s.sl 15=al i)/\(i<=lh M/\TabP s.rw 12 1 29 3 (lh M) i (nw p (M.take i)))) (λi=>lh M-i) (0) (λE qw a f=>⟨(gE a f),⟨om,qw⟩⟩) ?_;intro i F ⟨A,B⟩;have⟨G,o⟩:=B;refine iD A @o.top @ik ?_;refine⟨λh=>⟨h,h,by have:=z i h;omega,by have:=z i h;omega,h,om,?_⟩,λh=>?_⟩;have H:=z i h;have b:=BZ p G;generalize u:lg M i []=row at *;refine TZ (k:=12) (v:=1) (e:=29) (e2:=3) (n:=lh M) (i:=i) (d:=24) (vd:=(F.rw 24).ver+1) (M:=nw p (M.take i)) (r:=ld (lh row) 0) (rp @o.top) b (λj q=>by simp only[gr,simprocAttr,o.row j q]) (λj q=>by simp only[gr,simprocAttr,o.rest j q]) gl dc dc h (λ(j:Nat)s=>(s.sl 0=hY M/\s.sl 1=al p/\s.sl 5=.own 12 1/\s.sl 13=hY M/\s.sl 14=al (lh M)/\s.sl 15=al i/\s.sl 6=al i/\s.sl 7=aE row/\s.sl 26=aE row/\s.sl 27=al (lh row)/\s.sl 28=al j)/\(j<=lh row/\TabP s.rw 12 1 29 3 (lh M) (i+1) (nw p (M.take i)++[pz (row.map λx=>x%p) (ld (lh row) 0) j]))) (λj=>lh row-j) (0) (λE qw a f=>⟨(fB a f A),⟨om,by rw[qB];exact qw⟩⟩) ?_;intro j L ⟨g,C⟩;have⟨q,c⟩:=C;have l:=c.row i om;rw[Ua b]at l;have w:∀t,lh (pz (row.map λx=>x%p) (ld (lh row) 0) t)=lh row:=λt=>by rw[mm sp];simp
 refine Cn g @c.top @Fb l w @ik ?_;refine⟨λm=>⟨m,m,kr,h,h,aa (oS _ p D) ?_⟩,λm=>?_⟩;refine Cn g @c.top @Fb l w @ik ?_;refine⟨m,om,kr,ah (j+1) ⟨(gE g (ak m om)),⟨om,?_⟩⟩⟩;have e:nw p (M.take i)++[pz (row.map λx=>x%p) (ld (lh row) 0) (j+1)]=(nw p (M.take i)++[pz (row.map λx=>x%p) (ld (lh row) 0) j]).set i ((pz (row.map λx=>x%p) (ld (lh row) 0) j).set j (lg row j 0%p)):=by rw[za0 b,<- tF sp (ss m),za6 p m]
 rw[e];exact c.set om (rp g) (rp g) (λx I=>by simp only[gr,simprocAttr,g,I]);have:j=lh row:=om;subst this;refine ah (i+1) ⟨(fB A g (ak h om)),⟨om,?_⟩⟩;have e:=by have:=tE (new:=row.map λx=>x%p) (old:=ld (lh row) 0) sp;simpa using this
 have y:=c;rw[e,<- u,Ud p h]at y;exact y.same gl (λx=>gl);have:i=lh M:=om;subst this;rw[av]at o;exact uR o.done dc (λj q=>by have:=List.mem_range.1 q;omega)
theorem AB{b p:Int}(d:0<=x/\x<p)(c:0<=b/\b<=5)(e:p<=5):0<=x*b/\x*b<=25:=by refine⟨kH d.1 c.1,?_⟩;have:=kI (show x<=5 by omega) c.2 c.1 om;omega
theorem zmf:pz a a n=a:=by simp[pz]
theorem Km(hp:lM s=k0)(hM:MatOk s n M)(k:m<lh M)(hc:c<n)(hn:n<=1000):AT prog 308 [.own 1000000 1,al m,al c,al s] 29 3 (M.map iL) ((od s m c M).map iL) .self:=by
 refine AT.goI (rs:=[.tmp 8]) tk mixed func308 rfl rfl rfl kr (gV s m c M) λhl p hs J ht=>?_;have V:=jy hp;have K:=hM.len m k;have L:=hM.res m k;have c0:=L c;have W:=ht.row k;have a:∀i,i<lh M->lg (lc (lh M)) i 0=i:=λi hi=>by simp[lg,hi]
 rw[a m k]at W;refine nN hs J @ht.top W (a m k) ?_;refine⟨k,k,om,om,aa (Fg _ s hp) ?_⟩;generalize hb:sk s (lg (lg M m []) c 0)=b at *;have X:=zg7 hp (lg (lg M m []) c 0);rw[hb]at X;refine ff hs J ?_;generalize N:lg M m []=g at *;refine az (λ(j:Nat)p=>(p.sl 0=.own 1000000 1/\p.sl 1=al m/\p.sl 2=al c/\p.sl 3=al s/\p.sl 9=al b/\p.sl 10=al j)/\(j<=n/\TabI p.rw 1000000 1 29 3 (lc (lh M)) (M.set m (pz (Gy s b g) g j)))) (λj=>n-j) (0) ⟨(jX hs),⟨om,by rw[qB,<- N,lL];exact ht.same gl (λx=>gl)⟩⟩ ?_;intro j sa ⟨U,a5⟩;obtain⟨hj,w⟩:=a5;have O:m<(M.set m (pz (Gy s b g) g j)).length:=ss k;have Y:=w.row O;have a6:lh (pz (Gy s b g) g j)=n:=by rw[mm (jO s b g)];exact K
 rw[eO k,a m k]at Y;have a7:=Fi (jO s b g) (ab j);have a8:=L j;have b0:=AB a8 ⟨X.1,om⟩ V.2;have hw:D0.i64.wrap (lg g j 0*b)=lg g j 0*b:=aF om om;simp -dsimp only[↓gp,gq,simprocAttr,gT,U,w.top,Y,a m k,a6,a7,hw,mL b0.1];refine⟨k,k,λh=>⟨kr,k,k,k,k,h,h,om,h,om,kr,?_⟩,λh=>?_⟩;refine ah (j+1) ⟨(gE U (ak h om)),⟨om,?_⟩⟩;have e:M.set m (pz (Gy s b g) g (j+1))=(M.set m (pz (Gy s b g) g j)).set m ((pz (Gy s b g) g j).set j (lg g j 0*b%s)):=by rw[Lg,<- tF (jO s b g) om,uT s b om]
 rw[e];refine w.set O (rp U) ?_ (λx Z=>?_);rw[a m k];simp -dsimp only[gr,simprocAttr,U];rw[a m k]at Z;simp -dsimp only[gr,simprocAttr,U,Z];have:j=n:=om;subst this;have a0:pz (Gy s b g) g j=Gy s b g:=by rw[<- K];exact tE (jO s b g)
 rw[a0]at w;have a1:M.set m (Gy s b g)=yT s m c M:=by unfold yT;rw[N,hb]
 rw[a1]at w;have z:=Wg (p:=s) (n:=j) (at':=m) (col:=c) om hM k;have b1:lh (yT s m c M)=lh M:=oA s m c M;have Q:od s m c M=mK s m c (yT s m c M) (lh M):=rfl;rw[Q];generalize yT s m c M=l at *;refine az (λ(i:Nat)p=>(p.sl 0=.own 1000000 1/\p.sl 1=al m/\p.sl 2=al c/\p.sl 3=al s/\p.sl 11=al i)/\(i<=lh M/\TabI p.rw 1000000 1 29 3 (lc (lh M)) (mK s m c l i))) (λi=>lh M-i) (0) ⟨(jX U),⟨om,by rw[Ue];exact w.same gl (λx=>gl)⟩⟩ ?_;intro i sb ⟨Hb,b2⟩;obtain⟨hi,y⟩:=b2;have b3:lh (mK s m c l i)=lh M:=by rw[jz,b1]
 refine ff Hb @y.top ?_;refine⟨λh=>?_,λh=>?_⟩;have q:i<lh l:=om;have a2:=y.row (i:=i) om;rw[AD s m c q (ab i),a i h]at a2;have b4:=z.len i q;have A:=z.res i q;generalize r:lg l i []=d at *;refine ox Hb @y.top a2 (a i h) ?_;refine⟨h,h,om,om,?_⟩;have hf:=A c;generalize b5:lg d c 0=f at *;have B:m<lh l:=om;have u:lh (oF s m c l i)=lh d:=by rw[(Lh (p:=s) om z q).1,b4]
 refine az (λ(t:Nat)p=>(p.sl 0=.own 1000000 1/\p.sl 1=al m/\p.sl 2=al c/\p.sl 3=al s/\p.sl 11=al i/\p.sl 12=al f/\p.sl 13=al t)/\(t<=lh d/\TabI p.rw 1000000 1 29 3 (lc (lh M)) ((mK s m c l i).set i (pz (oF s m c l i) d t)))) (λt=>lh d-t) (0) ⟨(jX Hb),⟨om,(y.same gl (λx=>gl)).to (by rw[qB,<- r,<- AD s m c q (ab i),lL])⟩⟩ ?_;intro t sc ⟨F,b6⟩;obtain⟨c3,o⟩:=b6;have c4:lh ((mK s m c l i).set i (pz (oF s m c l i) d t))=lh M:=by rw[de,b3]
 have G:=o.row (i:=i) om;rw[eO om,a i h]at G;have C:lh (pz (oF s m c l i) d t)=lh d:=mm u t;have P:=Fi u (ab t);refine nN F @o.top G (a i h) C ?_;refine⟨h,h,λR=>⟨λb7=>?_,λb8=>?_⟩,λR=>?_⟩;have H:¬i=m:=by intro e;simp[e]at b7
 have S:=o.row (i:=m) om;rw[il H,zg8 s m c i B,a m k]at S;have c5:=z.len m B;have D:=z.res m B;have I:oF s m c l i=Rg s f (lg l m []) d:=by unfold oF;rw[ac H,r,b5]
 generalize b9:lg l m []=piv at *;have c6:=AB hf ⟨(D t).1,by have:=(D t).2;omega⟩ V.2;have c7:=A t;have a3:D0.i64.wrap (f*piv.getD t 0)=f*piv.getD t 0:=aF om om;have a4:D0.i64.wrap (lg d t 0-f*piv.getD t 0)=lg d t 0-f*piv.getD t 0:=aF om om;simp -dsimp only[↓gp,gq,simprocAttr,gT,F,o.top,G,a i h,C,S,a m k,P,a3,a4];refine⟨kr,h,h,h,h,R,R,k,k,om,om,aa (tZ _ s hp) ?_⟩;simp -dsimp only[↓gp,gq,simprocAttr,gT,F,o.top,G,a i h,C,S,a m k,P,a3,a4];refine⟨R,om,kr,ah (t+1) ⟨(gE F (ak R om)),⟨om,?_⟩⟩⟩;have e:(mK s m c l i).set i (pz (oF s m c l i) d (t+1))=((mK s m c l i).set i (pz (oF s m c l i) d t)).set i ((pz (oF s m c l i) d t).set t ((lg d t 0-f*piv.getD t 0)%s)):=by rw[Lg,<- tF u R,<- oT s f (piv:=piv) R,I]
 rw[e];refine o.set om (rp F) ?_ (λx Z=>?_);rw[a i h];simp -dsimp only[gr,simprocAttr,F];rw[a i h]at Z;simp -dsimp only[gr,simprocAttr,F,Z];have H:i=m:=by have h9:(i:Int)=m:=ss b8;omega
 have I:oF s m c l i=d:=by unfold oF;rw[ae H,r]
 have E:=o;rw[I,zmf,<- I,uV s m c q]at E;exact ah (i+1) ⟨(fB Hb F (ak h om)),⟨om,E.same gl (λx=>gl)⟩⟩;have:t=lh d:=om;have E:=o;rw[this,tE u,uV s m c q]at E;exact ah (i+1) ⟨(fB Hb F (ak h om)),⟨om,E.same gl (λx=>gl)⟩⟩;have:i=lh M:=om;rw[this]at y;exact pT (y.same gl (λx=>gl)) (List.Perm.refl _)
theorem zvt(q:O0){a b:Nat}(c:a<lh q)(d:b<lh q):lg ((q.set a (lg q b 0)).set b (lg q a 0)) a 0=lg q b 0:=by grind
theorem zvu{b:Nat}(c:k<lh d):lg (wJ d k b) k []=lg d b []:=by unfold wJ;by_cases h:b=k;subst h;rw[eO (ss c)];rw[il h,eO c]
theorem AA{a m:Nat}(h:a<m):fV d k a (m-a)=if(lg d a []).getD k 0=0 then fV d k (a+1) (m-(a+1))else a:=by have e:m-a=(m-(a+1))+1:=om;rw[e,fV]
theorem za5{n:Nat}(h:k<n)(b:lh l<lh d):oe x d l k (n-k)=oe x (gI x d k l).1 (gI x d k l).2 (k+1) (n-(k+1)):=by have e:n-k=(n-(k+1))+1:=om;rw[e,oe,ae b]
theorem Uc{p:Int}{a c i:Nat}(h:Res p (lg d i []))(M:i=a\/(lg d i []).getD c 0=0):oF p a c d i=lg d i []:=by unfold oF;split;rfl;rename_i b;rw[M.resolve_left b,zmg h]
theorem zp3{p f y:Int}(a:0<x):(p+(x-f)*y)%x=(p-f*y)%x:=by
 have e:p+(x-f)*y=(p-f*y)+x*y:=by grind
 simp_all
theorem Hs(hp:lM p=k0)(hM:MatOk p n M)(hm:lh M<=900)(hn:n<=1000):AT prog 299 [.own 1000000 1,al n,al p] 29 3 (M.map iL) ((oe p M [] 0 n).1.map iL) (.rv (.fr 3 1 (iL (bl (oe p M [] 0 n).2)))):=by
 refine AT.goI (rs:=[.tmp 6]) tk mixed func299 rfl rfl rfl kr (za8 p n M [] 0) λhl s hs X ht=>?_;have a7:=jy hp;refine ff hs X ?_;refine az (λ((g,piv,d,q,v):fG×O0×Nat×O0×Nat) s=>(s.sl 0=.own 1000000 1/\s.sl 1=al n/\s.sl 2=al p/\s.sl 7=.own 7 v/\s.rw 7=⟨v,.sli 3 1 l0 (iL (bl piv))⟩/\s.sl 8=al d)/\(d<=n/\MatOk p n g/\g.length=lh M/\piv.length<=lh M/\TabI s.rw 1000000 1 29 3 q g/\q.Perm (lc (lh M))/\oe p M [] 0 n=oe p g piv d (n-d))) (λ(g,piv,d,q,v)=>n-d) ((M,[],0,lc (lh M),1)) ⟨(gE hs X),⟨om,hM,rfl,sp,ht.same gl (λx=>gl),List.Perm.refl _,rfl⟩⟩ ?_;intro(g,piv,d,q,v) sa ⟨Ha,c5⟩;obtain⟨e7,C,a8,e9,N,z,o⟩:=c5;have F:lh q=lh g:=N.len;refine ox Ha @N.top F @ap ?_;refine⟨λh1=>⟨λy=>?_,λy=>?_⟩,λh1=>?_⟩;have h1:d<n:=om;have y:lh piv<lh g:=om;rw[za5 h1 y]at o;refine az (λ(a:Nat)s=>(s.sl 0=.own 1000000 1/\s.sl 1=al n/\s.sl 2=al p/\s.sl 7=.own 7 v/\s.rw 7=⟨v,.sli 3 1 l0 (iL (bl piv))⟩/\s.sl 8=al d/\s.sl 9=al (lh piv)/\s.sl 10=al a)/\(lh piv<=a/\a<=lh g/\fV g d (lh piv) (lh g-lh piv)=fV g d a (lh g-a)/\TabI s.rw 1000000 1 29 3 q g)) (λa=>lh g-a) (lh piv) ⟨(jX Ha),⟨om,om,rfl,N.same gl (λx=>gl)⟩⟩ ?_;intro a sb ⟨V,c6⟩;obtain⟨f0,f1,G,w⟩:=c6;have stop:(¬a<g.length\/¬(lg g a []).getD d 0=0)->fV g d (lh piv) (lh g-lh piv)=a:=λh=>by rw[G];by_cases c7:a<lh g;rw[AA c7,ac (h.resolve_left om)];rw[show (lh g)-a=0 by omega];rfl
 refine iD V @w.top F ?_;refine⟨λK=>?_,λK=>?_⟩;have a1:=w.row K;have e8:=C.len a K;refine ox V @w.top F a1 ?_;refine⟨K,K,om,om,λL=>?_,λL=>?_⟩;have L:=beq_iff_eq.1 L;rw[AA K,ae L]at G;exact ah (a+1) ⟨(gE V (ak K om)),⟨om,om,G,w.same gl (λx=>gl)⟩⟩;have L:¬(lg g a []).getD d 0=0:=ss L;have a2:=stop (.inr L);have b0:((a:Int)==(lh g:Int))=false:=by simp;omega
 have a3:gI p g d piv=(od p (lh piv) d (wJ g (lh piv) a),piv++[d]):=by unfold gI;rw[a2,ac om]
 rw[a3]at o;have f2:lh (q.set (lh piv) (lg q a 0))=lh q:=sp;have b1:=w.row y;have b2:=zvt q (a:=lh piv) (b:=a) om om;refine xA V @w.top F a1 b0 b1 b2 ?_;refine⟨kr,K,K,y,y,y,om,K,om,kr,y,y,om,om,?_⟩;refine aa (Fh _ p hp) ?_;have b3:=C.len a K;have a4:=C.res a K;generalize c8:lg g a []=k at *;have f3:sk p (lg k d 0)=sk p (lg k d 0):=rfl;have c9:=zg7 hp (lg k d 0);generalize d0:sk p (lg k d 0)=b at *;have Y:lh (wJ g (lh piv) a)=lh g:=jP _ _ _;have Z:lg (wJ g (lh piv) a) (lh piv) []=k:=by rw[zvu y,c8]
 have d3:=Wh C y K;refine xA V @w.top F a1 b0 b1 b2 ?_;refine⟨y,y,?_⟩;have D:lh ((q.set (lh piv) (lg q a 0)).set a (lg q (lh piv) 0))=lh g:=by simp[F]
 have W:((q.set (lh piv) (lg q a 0)).set a (lg q (lh piv) 0)).Perm q:=by
  have e1:lg q (lh piv) 0=q[lh piv]'om:=by simp[lg,(by omega:lh piv<lh q)]
  have e2:lg q a 0=q[a]'om:=by simp[lg,(by omega:a<lh q)]
  rw[e1,e2];exact pj om om
 have a5:(wJ g (lh piv) a).set (lh piv) (Gy p b k)=yT p (lh piv) d (wJ g (lh piv) a):=by unfold yT;rw[Z,d0]
 have d4:od p (lh piv) d (wJ g (lh piv) a)=mK p (lh piv) d (yT p (lh piv) d (wJ g (lh piv) a)) (lh g):=by unfold od;rw[Y]
 refine az (λ(j:Nat)s=>(s.sl 0=.own 1000000 1/\s.sl 1=al n/\s.sl 2=al p/\s.sl 7=.own 7 v/\s.rw 7=⟨v,.sli 3 1 l0 (iL (bl piv))⟩/\s.sl 8=al d/\s.sl 9=al (lh piv)/\s.sl 11=al b/\s.sl 78=al (lh k)/\s.sl 79=al j)/\(j<=n/\TabI s.rw 1000000 1 29 3 ((q.set (lh piv) (lg q a 0)).set a (lg q (lh piv) 0)) ((wJ g (lh piv) a).set (lh piv) (pz (Gy p b k) k j)))) (λj=>n-j) (0) ⟨(jX V),⟨om,by rw[qB,<- Z,lL];exact(w.swap y K (rp V) (λx=>by simp -dsimp only[gr,simprocAttr,V])).1⟩⟩ ?_;intro j sc ⟨Hc,d5⟩;obtain⟨hj,O⟩:=d5;generalize (q.set (lh piv) (lg q a 0)).set a (lg q (lh piv) 0)=q' at *;generalize f4:wJ g (lh piv) a=S at *;have a0:lh piv<(S.set (lh piv) (pz (Gy p b k) k j)).length:=by rw[de];omega
 have b4:=O.row a0;rw[eO om]at b4;have b5:lh (pz (Gy p b k) k j)=n:=by rw[mm (jO p b k)];exact b3
 have d6:=Fi (jO p b k) (ab j);have d7:=a4 j;have d8:=AB d7 ⟨c9.1,om⟩ a7.2;have hw:D0.i64.wrap (lg k j 0*b)=lg k j 0*b:=aF om om;simp -dsimp only[↓gp,gq,simprocAttr,gT,Hc,O.top,b4,b5,d6,hw,mL d8.1,D];refine⟨λh=>⟨kr,y,y,y,y,om,om,om,om,om,kr,?_⟩,λh=>?_⟩;have h:j<n:=om;refine ah (j+1) ⟨(gE Hc (ak h om)),⟨om,?_⟩⟩;have e:S.set (lh piv) (pz (Gy p b k) k (j+1))=(S.set (lh piv) (pz (Gy p b k) k j)).set (lh piv) ((pz (Gy p b k) k j).set j (lg k j 0*b%p)):=by rw[Lg,<- tF (jO p b k) om,uT p b om]
 rw[e];exact O.set a0 (rp Hc) (rp Hc) (λx hx=>by simp -dsimp only[gr,simprocAttr,Hc,hx]);have:j=lh k:=om;rw[this,tE (jO p b k),a5]at O;have H:=Wg (p:=p) (n:=n) (at':=lh piv) (col:=d) om d3 om;have b6:lh (yT p (lh piv) d S)=lh g:=by rw[oA,Y]
 rw[d4]at o;generalize yT p (lh piv) d S=m at *;refine az (λ(i:Nat)s=>(s.sl 0=.own 1000000 1/\s.sl 1=al n/\s.sl 2=al p/\s.sl 7=.own 7 v/\s.rw 7=⟨v,.sli 3 1 l0 (iL (bl piv))⟩/\s.sl 8=al d/\s.sl 9=al (lh piv)/\s.sl 101=al (lh g)/\s.sl 102=al i)/\(i<=lh g/\TabI s.rw 1000000 1 29 3 q' (mK p (lh piv) d m i))) (λi=>lh g-i) (0) ⟨(jX Hc),⟨om,by rw[Ue];exact O.same gl (λx=>gl)⟩⟩ ?_;intro i sd ⟨Hd,d9⟩;obtain⟨hi,A⟩:=d9;have e0:lh (mK p (lh piv) d m i)=lh g:=by rw[jz,b6]
 refine iD Hd @A.top D ?_;refine⟨λh=>⟨λhe=>?_,λhe=>?_⟩,λh=>?_⟩;have hid:¬i=lh piv:=by intro e;simp[e]at he
 have r:i<lh m:=om;have a6:=A.row (i:=i) om;rw[AD p (lh piv) d r (ab i)]at a6;have e3:=H.len i r;have I:=H.res i r;have B:lh (oF p (lh piv) d m i)=(lg m i []).length:=by rw[(Lh (p:=p) om H r).1,e3]
 refine ox Hd @A.top D a6 ?_;refine⟨h,h,om,om,λL=>?_,λL=>?_⟩;have L:lg (lg m i []) d 0=0:=beq_iff_eq.1 L;have E:=A;have P:=Uc (p:=p) (a:=lh piv) (c:=d) I (.inr L);have u:(mK p (lh piv) d m i).set i (lg m i [])=mK p (lh piv) d m i:=by rw[<- AD p (lh piv) d r (ab i),lL]
 rw[<- u,<- P,uV p (lh piv) d r]at E;exact ah (i+1) ⟨(gE Hd (ak h om)),⟨om,E.same gl (λx=>gl)⟩⟩;have L:¬(lg m i []).getD d 0=0:=ss L;have P:oF p (lh piv) d m i=Rg p (lg (lg m i []) d 0) (lg m (lh piv) []) (lg m i []):=by unfold oF;rw[ac hid]
 have f5:=I d;have u:(mK p (lh piv) d m i).set i (lg m i [])=mK p (lh piv) d m i:=by rw[<- AD p (lh piv) d r (ab i),lL]
 generalize m.getD i []=l at *;generalize l.getD d 0=f at *;have b7:D0.i64.wrap (p-f)=p-f:=aF om om;refine nN Hd @A.top D a6 b7 ?_;refine⟨h,h,om,om,h,h,?_⟩;refine az (λ(t:Nat)s=>(s.sl 0=.own 1000000 1/\s.sl 1=al n/\s.sl 2=al p/\s.sl 7=.own 7 v/\s.rw 7=⟨v,.sli 3 1 l0 (iL (bl piv))⟩/\s.sl 8=al d/\s.sl 9=al (lh piv)/\s.sl 101=al (lh g)/\s.sl 102=al i/\s.sl 13=al i/\s.sl 14=al (p-f)/\s.sl 131=al (lh l)/\s.sl 132=al t)/\(t<=lh l/\TabI s.rw 1000000 1 29 3 q' ((mK p (lh piv) d m i).set i (pz (oF p (lh piv) d m i) l t)))) (λt=>lh l-t) (0) ⟨(gE Hd b7),⟨om,by rw[qB,u];exact A.same gl (λx=>gl)⟩⟩ ?_;intro t se ⟨He,e4⟩;obtain⟨f6,Q⟩:=e4;have f7:lh ((mK p (lh piv) d m i).set i (pz (oF p (lh piv) d m i) l t))=lh g:=by rw[de,e0]
 have b8:=Q.row (i:=i) om;rw[eO om]at b8;have b9:lh (pz (oF p (lh piv) d m i) l t)=lh l:=mm B t;have c0:=Fi B (ab t);have R:lh piv<lh m:=om;have c3:=Q.row (i:=lh piv) om;rw[il hid,zg8 p (lh piv) d i R]at c3;have f8:=H.len (lh piv) R;have U:=H.res (lh piv) R;generalize m.getD (lh piv) []=pr at *;have f9:=AB (show 0<=p-f/\p-f<p by omega) ⟨(U t).1,by have:=(U t).2;omega⟩ a7.2;have g0:=I t;have e5:D0.i64.wrap ((p-f)*pr.getD t 0)=(p-f)*pr.getD t 0:=aF om om;have e6:D0.i64.wrap (lg l t 0+(p-f)*pr.getD t 0)=lg l t 0+(p-f)*pr.getD t 0:=aF om om;have c4:(lg l t 0+(p-f)*pr.getD t 0).tmod p=(lg l t 0-f*pr.getD t 0)%p:=by rw[mL om,zp3 om]
 simp -dsimp only[↓gp,gq,simprocAttr,gT,He,Q.top,D,b8,c3,b9,c0,e5,e6,c4];refine⟨λJ=>⟨kr,h,h,h,h,J,J,y,y,om,om,om,J,om,kr,?_⟩,λJ=>?_⟩;refine ah (t+1) ⟨(gE He (ak J om)),⟨om,?_⟩⟩;have e:(mK p (lh piv) d m i).set i (pz (oF p (lh piv) d m i) l (t+1))=((mK p (lh piv) d m i).set i (pz (oF p (lh piv) d m i) l t)).set i ((pz (oF p (lh piv) d m i) l t).set t ((lg l t 0-f*pr.getD t 0)%p)):=by rw[Lg,<- tF B J,<- oT p f (piv:=pr) J,P]
 rw[e];exact Q.set om (rp He) (rp He) (λx hx=>by simp -dsimp only[gr,simprocAttr,He,hx]);have:t=lh l:=om;have E:=Q;rw[this,tE B,uV p (lh piv) d r]at E;exact ah (i+1) ⟨(fB Hd He (ak h om)),⟨om,E.same gl (λx=>gl)⟩⟩;have hid:i=lh piv:=by have h9:(i:Int)=lh piv:=ss he;omega
 have r:i<lh m:=om;have E:=A;have P:=Uc (p:=p) (a:=lh piv) (c:=d) (H.res i r) (.inl hid);have u:(mK p (lh piv) d m i).set i (lg m i [])=mK p (lh piv) d m i:=by rw[<- AD p (lh piv) d r (ab i),lL]
 rw[<- u,<- P,uV p (lh piv) d r]at E;exact ah (i+1) ⟨(gE Hd (ak h om)),⟨om,E.same gl (λx=>gl)⟩⟩;have:i=lh g:=om;rw[this]at A;refine⟨by rw[ap];omega,?_⟩;exact ah ((mK p (lh piv) d m (lh g),piv++[d],d+1,q',v+1)) ⟨(DM Ha Hd (ak h1 om) @cI @jZ),⟨by dsimp only;omega,zg9 om H,by dsimp only;rw[jz,b6,a8],by simp;omega,A.same gl (λx=>gl),W.trans z,o⟩⟩;have a2:=stop (.inl om);have:a=lh g:=om;subst this;have a3:gI p g d piv=(g,piv):=by unfold gI;rw[ae a2]
 rw[a3]at o;refine iD V @w.top F ?_;exact ah ((g,piv,d+1,q,v)) ⟨(fB Ha V (ak h1 om)),⟨by dsimp only;omega,C,a8,by dsimp only;omega,w.same gl (λx=>gl),z,o⟩⟩;have hf:oe p g piv d (n-d)=(g,piv):=Ht p g piv d (n-d) om;rw[hf]at o;rw[o];refine⟨pT (N.same gl (λx=>gl)) z,?_⟩;exact mg Ha;have hf:oe p g piv d (n-d)=(g,piv):=by rw[show n-d=0 by omega];rfl
 rw[hf]at o;rw[o];refine⟨pT (N.same gl (λx=>gl)) z,?_⟩;exact mg Ha
theorem qo(h:-9223372036854775808<p)(b:p<=9223372036854775807):AC prog 334 [al p] (.im (al (p.natAbs:Nat))):=by
 refine cA [.tmp 2] func334 λc=>?_;have a:D0.i64.wrap (0-p)=-p:=by rw[aF om om];omega
 refine cZ a<|aa (DS _ _) ?_;have e:max p (-p)=p.natAbs:=om;exact mg e
def Vr(s:SP):Int:=match s with|none=>-1|some (r,_)=>r
def Vu(s:SP):Int:=match s with|none=>-1|some (_,c)=>c
def Sm2(n m a:Nat)(e:X0):Prop:=∀i j,a<=i->i<n->a<=j->j<m->-1000<=e i j/\e i j<=1000
theorem JZ(V:n<=900)(W:m<=900)(X:c<=n)(G:c<=m)(L:Sm2 n m c e):AC prog 335 [hY (cz n m e),al c] (.tup [.im (al (Vr (th (CM e) c m (n-c)))),.im (al (Vu (th (CM e) c m (n-c))))]):=by
 refine cA [.tmp 4,.tmp 5] func335 λY=>?_;have b:=fw (n:=n) (m:=m) (e:=e);refine aR ?_;refine az (λ(t:Nat)s=>(s.sl 0=hY (cz n m e)/\s.sl 1=al c/\s.sl 6=al (Vr (th (CM e) c m t))/\s.sl 7=al (Vu (th (CM e) c m t))/\s.sl 8=al (c+t:Nat))/\(c+t<=n)) (λt=>n-t) (0) ⟨nm,om⟩ ?_;intro t Z ⟨H,N⟩;refine iD H @bU b ?_;refine⟨λO=>?_,λO=>?_⟩;have d:c+t<n:=om;have h:=cr (m:=m) (e:=e) d;refine az (λ(u:Nat)s=>(s.sl 0=hY (cz n m e)/\s.sl 1=al c/\s.sl 6=al (Vr (XR (CM e) c (c+t) (th (CM e) c m t) u))/\s.sl 7=al (Vu (XR (CM e) c (c+t) (th (CM e) c m t) u))/\s.sl 8=al (c+t:Nat)/\s.sl 9=al (c+u:Nat))/\(c+u<=m)) (λu=>m-u) (0) ⟨(jX H),om⟩ ?_;intro u sb ⟨j,I⟩;have q:=zmx (zdF (e:=e) G t) om u I;have f:XR (CM e) c (c+t) (th (CM e) c m t) (u+1)=CM e (XR (CM e) c (c+t) (th (CM e) c m t) u) (c+t) (c+u):=rfl;rcases bf (c+u) m with p|p
 have i:=dz (e:=e) d p;have P:=L _ _ om d om p;have g:(((c+u:Nat):Int)<(m:Int))=True:=bO om;have z:D0.i64.wrap (((c+u:Nat):Int)+1)=((c+(u+1):Nat):Int):=ak p om;generalize XR (CM e) c (c+t) (th (CM e) c m t) u=Q at *;by_cases B:e (c+t) (c+u)=0;rw[zmv B]at f;refine xA j @bU b h g i B ?_;exact⟨d,d,kr,d,d,p,ah (u+1) ⟨(fB j f z),om⟩⟩;have k:(e (c+t) (c+u) != 0)=true:=bne_iff_ne.2 B
 match Q,q with
 | none,_ =>rw[zmw B]at f;have w:Vr none=-1:=rfl;have x:Vu none=-1:=rfl;have A:Vr (some (c+t,c+u))=((c+t:Nat):Int):=rfl;have J:Vu (some (c+t,c+u))=((c+u:Nat):Int):=rfl;simp -dsimp only[↓gp,gq,simprocAttr,gT,j,bU,b,h,g,i,k,w,x];exact⟨d,d,kr,d,d,p,ah (u+1) ⟨(DM j f z A J),om⟩⟩
 | some (r,a),q =>obtain⟨⟨R,S,F,q4⟩,_⟩:=q;have w:Vr (some (r,a))=(r:Int):=rfl;have x:Vu (some (r,a))=(a:Int):=rfl;have C:r<n:=om;have l:=dz (e:=e) C F;have o:=cr (m:=m) (e:=e) C;have M:=L _ _ R C S F;have A:((r:Int)<0)=False:=aX om;simp -dsimp only[↓gp,gq,simprocAttr,gT,j,bU,b,h,g,i,k,w,x,A];refine⟨d,d,kr,d,d,p,d,d,p,aa (qo _ om om) ?_⟩;simp -dsimp only[↓gp,gq,simprocAttr,gT,j,bU,b,h,g,i,k,w,x,A,o,l];refine⟨C,C,F,F,aa (qo (e r a) om om) ?_⟩;by_cases D:(e (c+t) (c+u)).natAbs<(e r a).natAbs;have J:Vr (some (c+t,c+u))=((c+t:Nat):Int):=rfl;have U:Vu (some (c+t,c+u))=((c+u:Nat):Int):=rfl;rw[zp9 B D]at f;have y:(((e (c+t) (c+u)).natAbs:Int)<((e r a).natAbs:Int))=True:=bO om;simp -dsimp only[↓gp,gq,simprocAttr,gT,j,bU,b,h,g,i,k,w,x,A,o,l,y];exact ah (u+1) ⟨(DM j f z J U),om⟩;rw[ztk D]at f;have y:(((e (c+t) (c+u)).natAbs:Int)<((e r a).natAbs:Int))=False:=aX om;simp -dsimp only[↓gp,gq,simprocAttr,gT,j,bU,b,h,g,i,k,w,x,A,o,l,y];exact ah (u+1) ⟨(DM j f z w x),om⟩
 have g:(((c+u:Nat):Int)<(m:Int))=False:=aX om;have K:u=m-c:=om;have E:th (CM e) c m (t+1)=XR (CM e) c (c+t) (th (CM e) c m t) u:=by rw[K];rfl
 have z:D0.i64.wrap (((c+t:Nat):Int)+1)=((c+(t+1):Nat):Int):=ak d om;refine nN j @bU b h g ?_;exact⟨d,d,ah (t+1) ⟨(rS H j E z),om⟩⟩;have:t=n-c:=om;rw[this];exact⟨rfl,rfl⟩
theorem Ra{q:O0}{a b:Nat}(c:a<lh q)(d:b<lh q):((q.set a (lg q b 0)).set b (lg q a 0)).Perm q:=by
 grind
theorem LO(r a:Nat)(S:n<=900)(U:m<=900)(o:c<n)(k:c<m)(p:r<n)(D:a<m):AT prog 336 [.own 1000000 1,al c,al r,al a] 29 3 ((cz n m e).map iL) ((cz n m λi j=>e (ua c r i) (ua c a j)).map iL) .self:=by
 have d:=λe=>fw (n:=n) (m:=m) (e:=e);refine AT.goI (rs:=[.tmp 8]) tk mixed func336 rfl rfl rfl kr (by rw[d,d]) λV s F w y=>?_;rw[d]at y ⊢;have L:lh (lc n)=n:=sp;have z:=Ra (q:=lc n) (a:=r) (b:=c) om om;have M:=y.row (i:=r) (by rw[d];exact p);have N:=y.row (i:=c) (by rw[d];exact o);refine nN F w @y.top M N ?_;refine⟨p,p,o,o,p,om,o,om,?_⟩;have G:∀rw',rw' 1000000=⟨1,.tab 29 (cy 1000000 (((lc n).set r (lg (lc n) c 0)).set c (lg (lc n) r 0)))⟩->(∀x,rw' (dq 1000000 x)=s.rw (dq 1000000 x))->TabI rw' 1000000 1 29 3 (((lc n).set r (lg (lc n) c 0)).set c (lg (lc n) r 0)) (cz n m λi j=>e (ua c r i) j):=λrw' t O=>by exact(y.swap (rw':=rw') (a:=r) (b:=c) (by rw[d];exact p) (by rw[d];exact o) t O).1.to (by rw[<- zbe o p,za7];rfl)
 refine az (λ(i:Nat)s=>(s.sl 0=.own 1000000 1/\s.sl 1=al c/\s.sl 2=al r/\s.sl 3=al a/\s.sl 10=al i)/\(i<=n/\TabI s.rw 1000000 1 29 3 (((lc n).set r (lg (lc n) c 0)).set c (lg (lc n) r 0)) (cz n m λf j=>if f<i then e (ua c r f) (ua c a j)else e (ua c r f) j))) (λi=>n-i) (0) ⟨(jX F),⟨om,G _ (rp F) (λx=>by simp -dsimp only[gr,simprocAttr,F])⟩⟩ ?_;intro i W ⟨u,H⟩;obtain⟨X,g⟩:=H;generalize ((lc n).set r (lg (lc n) c 0)).set c (lg (lc n) r 0)=q at *;have A:lh q=n:=by rw[g.len,d]
 generalize I:(λf j=>if f<i then e (ua c r f) (ua c a j)else e (ua c r f) j)=E at *;rcases bf i n with h|h
 have B:=g.row (i:=i) (by rw[d];exact h);have C:=cr (m:=m) (e:=E) h;have l:((i:Int)<(n:Int))=True:=bO om;refine Cn u @g.top A l B C ?_;refine⟨h,D,D,kr,h,h,k,k,D,om,kr,h,?_⟩;have J:∀j,E i j=e (ua c r i) j:=λj=>by rw[<- I];simp
 have K:cz n m (λf j=>if f<i+1 then e (ua c r f) (ua c a j)else e (ua c r f) j)=(cz n m E).set i (((lg (cz n m E) i []).set a (lg (lg (cz n m E) i []) c 0)).set c (lg (lg (cz n m E) i []) a 0)):=by refine(zbc h (by rw[de,de,C]) (λj P=>?_) λf j _ _ Q=>?_).symm;rw[zhc om om,dz h (Hw k D P),J,ae (dD i)];rw[<- I];dsimp only;by_cases t:f<i;rw[ae t,ae om];rw[ac t,ac om]
 refine⟨k,om,ah (i+1) ⟨(gE u (ak h om)),⟨om,?_⟩⟩⟩;rw[K];exact g.set (by rw[d];exact h) (rp u) (rp u) (λx R=>by simp -dsimp only[gr,simprocAttr,u,R]);obtain rfl:i=n:=om;have l:((i:Int)<(i:Int))=False:=aX om;refine ox u @g.top A l ?_;refine pT ((g.same gl (λx=>gl)).to ?_) z;rw[<- I];exact dV λf j t _=>ae t
theorem Yd{y:Int}(h:-2<=x/\x<=2)(k:Int)(a:-k<=y/\y<=k):-(2*k)<=x*y/\x*y<=2*k:=by have:x=-2\/x=-1\/x=0\/x=1\/x=2:=om;grind
theorem LN(Q R:U0)(n m a:Nat)(hn:n<=900)(hm:m<=900)(c:a<n)(d:a<m)(hp:e a a≠0)(hQ:∀i,a<i->i<n->e i a=e a a*Q i/\-2<=Q i/\Q i<=2)(hR:∀j,a<j->j<m->e a j=e a a*R j/\-2<=R j/\R j<=2)(P:∀i j,a<=i->i<n->a<=j->j<m->-2<=e i j/\e i j<=2) :
 AT prog 337 [.own 1000000 1,al a] 29 3 ((cz n m e).map iL) ((cz n m (Rz (Us e Q a n) R a m)).map iL) (.selfx (.bool k0)):=by
 have b:=λe=>fw (n:=n) (m:=m) (e:=e)
 refine AT.goI (rs:=[.tmp 4,.tmp 5]) tk mixed func337 rfl rfl rfl kr (by rw[b,b]) λhl s hs S ht=>?_
 rw[b]at ht ⊢
 have o:∀i,i<n->lg (lc n) i 0=i:=λi hi=>by simp[lg,hi]
 have q:lh (lc n)=n:=bp
 have F:D0.i64.wrap ((a:Int)+1)=((a+1:Nat):Int):=ak c om
 have U:(e a a==0)=false:=beq_eq_false_iff_ne.2 hp
 refine iD hs S F ?_
 refine az (λ(i:Nat)s=>(s.sl 0=.own 1000000 1/\s.sl 1=al a/\s.sl 6=.v (.bool k0)/\s.sl 7=al i)/\((a<i/\i<=n)/\TabI s.rw 1000000 1 29 3 (lc n) (cz n m (Us e Q a i)))) (λi=>n-i) (a+1) ⟨(gE hs F),⟨⟨om,om⟩,(ht.same gl (λx=>gl)).to (dV λi j _ _=>(ac om).symm)⟩⟩ ?_
 intro i sa ⟨V,a1⟩
 obtain⟨⟨G,b1⟩,u⟩:=a1
 rcases bf i n with h|h
 have H:((i:Int)<(n:Int))=True:=bO om;have w:=u.row (i:=i) (by rw[b];exact h);have W:=u.row (i:=a) (by rw[b];exact c);rw[o i h]at w;rw[o a c]at W;have C:=cr (m:=m) (e:=Us e Q a i) h;have a2:=cr (m:=m) (e:=Us e Q a i) c;have v1:lg (lg (cz n m (Us e Q a i)) i []) a 0=e i a:=by rw[dz h d,zm1 (ab i)]
 have v2:lg (lg (cz n m (Us e Q a i)) a []) a 0=e a a:=by rw[dz c d,HA (ab a)]
 obtain⟨X,a3⟩:=hQ i G h;have A:(e i a).tdiv (e a a)=Q i:=by rw[X];exact jS _ hp
 have B:D0.i64.wrap (Q i)=Q i:=aF om om;simp -dsimp only[↓gp,gq,simprocAttr,gT,V,u.top,q,H,w,W,o i h,o a c,C,a2,v1,v2,U,A,B];refine⟨kr,h,d,d,c,c,d,d,hp,?_⟩;refine az (λ(j:Nat)s=>(s.sl 0=.own 1000000 1/\s.sl 1=al a/\s.sl 6=.v (.bool k0)/\s.sl 7=al i/\s.sl 8=al (Q i)/\s.sl 9=al j)/\((a<=j/\j<=m)/\TabI s.rw 1000000 1 29 3 (lc n) (cz n m (vw e Q a i j)))) (λj=>m-j) (a) ⟨(fB V A B),⟨⟨om,om⟩,(u.same gl (λx=>gl)).to (dV λl Y _ _=>zjj.symm)⟩⟩ ?_;intro j sb ⟨I,a4⟩;obtain⟨⟨r,a5⟩,g⟩:=a4;have p:=g.row (i:=i) (by rw[b];exact h);have J:=g.row (i:=a) (by rw[b];exact c);rw[o i h]at p;rw[o a c]at J;have y:=cr (m:=m) (e:=vw e Q a i j) h;have Z:=cr (m:=m) (e:=vw e Q a i j) c;rcases bf j m with f|f
 have t:((j:Int)<(m:Int))=True:=bO om;have K:lg (lg (cz n m (vw e Q a i j)) i []) j 0=e i j:=by rw[dz h f,zqB (ab j)]
 have v4:lg (lg (cz n m (vw e Q a i j)) a []) j 0=e a j:=by rw[dz c f,zm3 G]
 have s1:=P i j om h r f;have s2:=P a j (ab a) c r f;have a6:=Yd a3 2 s2;have w1:D0.i64.wrap (Q i*e a j)=Q i*e a j:=aF om om;have w2:D0.i64.wrap (e i j-Q i*e a j)=e i j-Q i*e a j:=aF om om;simp -dsimp only[↓gp,gq,simprocAttr,gT,I,g.top,q,t,p,J,o i h,o a c,y,Z,K,v4,w1,w2];refine⟨h,h,kr,h,h,h,h,f,c,c,f,om,kr,ah (j+1) ⟨(gE I (ak f om)),⟨⟨om,om⟩,?_⟩⟩⟩;have L:cz n m (vw e Q a i (j+1))=(cz n m (vw e Q a i j)).set i ((lg (cz n m (vw e Q a i j)) i []).set j (e i j-Q i*e a j)):=by rw[vc h];exact dV λl Y _ _=>(zm5 r).symm
 rw[L];exact g.set (by rw[b];exact h) (rp I) (by rw[o i h];simp -dsimp only[gr,simprocAttr,I]) (λx hx=>by rw[o i h]at hx;simp -dsimp only[gr,simprocAttr,I,hx])
 have t:((j:Int)<(m:Int))=False:=aX om;obtain rfl:j=m:=om;have K:lg (lg (cz n j (vw e Q a i j)) i []) a 0=0:=by rw[dz h d];unfold vw;rw[ae ⟨rfl,ab a,d⟩,X,kZ];omega
 simp -dsimp only[↓gp,gq,simprocAttr,gT,I,g.top,q,t,p,J,o i h,o a c,y,Z,K];exact⟨h,h,h,h,d,d,ah (i+1) ⟨(fB V I (ak h om)),⟨⟨om,om⟩,(g.same gl (λx=>gl)).to (dV λl Y _ h'=>zm7 G h')⟩⟩⟩
 obtain rfl:i=n:=om;have H:((i:Int)<(i:Int))=False:=aX om;refine nN V @u.top q H F ?_;have eA:∀j,Us e Q a i a j=e a j:=λj=>HA (ab a);have eB:∀l,a<=l->l<i->-2<=Us e Q a i l a/\Us e Q a i l a<=2:=λl h1 f=>by rcases bf a l with D|D;rw[WE D f (ab a),(hQ l D f).1,kZ];omega;rw[HA D];exact P l a h1 f (ab a) d
 have eC:∀l j,a<=l->l<i->a<=j->j<m->-6<=Us e Q a i l j/\Us e Q a i l j<=6:=λl j h1 f D h4=>by
  have s1:=P l j h1 f D h4;rcases bf a l with h5|h5
  have:=Yd (hQ l h5 f).2 2 (P a j (ab a) c D h4);rw[WE h5 f D];omega;rw[HA h5];omega
 generalize Us e Q a i=E at *;refine az (λ(j:Nat)s=>(s.sl 0=.own 1000000 1/\s.sl 1=al a/\s.sl 6=.v (.bool k0)/\s.sl 10=al j)/\((a<j/\j<=m)/\TabI s.rw 1000000 1 29 3 (lc i) (cz i m (Rz E R a j)))) (λj=>m-j) (a+1) ⟨(jX V),⟨⟨om,om⟩,(u.same gl (λx=>gl)).to (dV λi j _ _=>(ac om).symm)⟩⟩ ?_;intro j sc ⟨Hc,a7⟩;obtain⟨⟨r,a5⟩,g⟩:=a7;have w:=g.row (i:=a) (by rw[b];exact c);rw[o a c]at w;have C:=cr (m:=m) (e:=Rz E R a j) c;rcases bf j m with f|f
 have t:((j:Int)<(m:Int))=True:=bO om;have v1:lg (lg (cz i m (Rz E R a j)) a []) j 0=e a j:=by rw[dz c f,zm2 (ab j),eA]
 have v2:lg (lg (cz i m (Rz E R a j)) a []) a 0=e a a:=by rw[dz c d,zdT (ab a),eA]
 obtain⟨a0,a8⟩:=hR j r f;have A:(e a j).tdiv (e a a)=R j:=by rw[a0];exact jS _ hp
 have B:D0.i64.wrap (R j)=R j:=aF om om;simp -dsimp only[↓gp,gq,simprocAttr,gT,Hc,g.top,q,t,w,o a c,C,v1,v2,U,A,B]
 repeat refine⟨by first|omega|assumption|kernel_rfl,?_⟩
 refine az (λ(k:Nat)s=>(s.sl 0=.own 1000000 1/\s.sl 1=al a/\s.sl 6=.v (.bool k0)/\s.sl 10=al j/\s.sl 11=al (R j)/\s.sl 12=al k)/\((a<=k/\k<=i)/\TabI s.rw 1000000 1 29 3 (lc i) (cz i m (vy E R a j k)))) (λk=>i-k) (a) ⟨(fB Hc A B),⟨⟨om,om⟩,(g.same gl (λx=>gl)).to (dV λl Y _ _=>zjk.symm)⟩⟩ ?_;intro k sd ⟨M,b0⟩;obtain⟨⟨N,b2⟩,z⟩:=b0;rcases bf k i with h|h
 have O:((k:Int)<(i:Int))=True:=bO om;have p:=z.row (i:=k) (by rw[b];exact h);rw[o k h]at p;have y:=cr (m:=m) (e:=vy E R a j k) h;have K:lg (lg (cz i m (vy E R a j k)) k []) j 0=E k j:=by rw[dz h f,zqC (ab k)]
 have v4:lg (lg (cz i m (vy E R a j k)) k []) a 0=E k a:=by rw[dz h d,zm4 r]
 have s1:=eC k j N h om f;have s2:=eB k N h;have a6:=Yd a8 2 s2;have w1:D0.i64.wrap (R j*E k a)=R j*E k a:=aF om om;have w2:D0.i64.wrap (E k j-R j*E k a)=E k j-R j*E k a:=aF om om;simp -dsimp only[↓gp,gq,simprocAttr,gT,M,z.top,q,O,p,o k h,y,K,v4,w1,w2];refine⟨kr,h,h,f,f,h,d,d,f,om,kr,ah (k+1) ⟨(gE M (ak h om)),⟨⟨om,om⟩,?_⟩⟩⟩;have L:cz i m (vy E R a j (k+1))=(cz i m (vy E R a j k)).set k ((lg (cz i m (vy E R a j k)) k []).set j (E k j-R j*E k a)):=by rw[vc h];exact dV λl Y _ _=>(zm6 N).symm
 rw[L];exact z.set (by rw[b];exact h) (rp M) (by rw[o k h];simp -dsimp only[gr,simprocAttr,M]) (λx hx=>by rw[o k h]at hx;simp -dsimp only[gr,simprocAttr,M,hx])
 have O:((k:Int)<(i:Int))=False:=aX om;obtain rfl:k=i:=om;have p:=z.row (i:=a) (by rw[b];exact c);rw[o a c]at p;have y:=cr (m:=m) (e:=vy E R a j k) c;have K:lg (lg (cz k m (vy E R a j k)) a []) j 0=0:=by rw[dz c f];unfold vy;rw[ae ⟨rfl,ab a,c⟩,eA,eA,a0,kZ];omega
 refine XO M @z.top q O p (o a c) y K ?_;exact⟨c,c,f,f,ah (j+1) ⟨(fB Hc M (ak f om)),⟨⟨om,om⟩,(z.same gl (λx=>gl)).to (dV λl Y h' _=>zm8 r h')⟩⟩⟩
 have t:((j:Int)<(m:Int))=False:=aX om;obtain rfl:j=m:=om;refine xA Hc @g.top q t w (o a c) C ?_;exact⟨c,c,pT (g.same gl (λx=>gl)) (List.Perm.refl _)⟩
theorem Qa(C:n<=900)(D:m<=900)(k:c<n)(d:c<m)(x:e c c≠0)(y:∀i j,c<i->i<n->c<j->j<m->(e i j).tmod (e c c)=0):AC prog 338 [hY (cz n m e),al c] (.im (al (-1))):=by
 refine cA [.tmp 4] func338 λE=>?_;have b:=fw (n:=n) (m:=m) (e:=e);have a:D0.i64.wrap ((c:Int)+1)=((c+1:Nat):Int):=ak k om;have r:(e c c==0)=false:=beq_eq_false_iff_ne.2 x;have t:=cr (m:=m) (e:=e) k;have z:=dz (e:=e) k d;refine cZ a ?_;refine az (λ(i:Nat)s=>(s.sl 0=hY (cz n m e)/\s.sl 1=al c/\s.sl 5=al i)/\(c<i/\i<=n)) (λi=>n-i) (c+1) ⟨(jX a),om⟩ ?_;intro i F ⟨p,u⟩;rcases bf i n with h|h
 have f:((i:Int)<(n:Int))=True:=bO om;have l:=cr (m:=m) (e:=e) h;refine nN p @bU b f a ?_;refine az (λ(j:Nat)s=>(s.sl 0=hY (cz n m e)/\s.sl 1=al c/\s.sl 5=al i/\s.sl 6=al j)/\(c<j/\j<=m)) (λj=>m-j) (c+1) ⟨(gE p a),om⟩ ?_;intro j G ⟨q,w⟩;rcases bf j m with o|o
 have g:((j:Int)<(m:Int))=True:=bO om;have A:=dz (e:=e) h o;have B:=y i j u.1 h w.1 o;simp -dsimp only[↓gp,gq,simprocAttr,gT,q,bU,b,l,g,A,z,t,B,r];exact⟨h,h,kr,h,h,o,k,k,d,d,x,ah (j+1) ⟨(gE q (ak o om)),om⟩⟩;have g:((j:Int)<(m:Int))=False:=aX om;refine nN q @bU b l g ?_;exact⟨h,h,ah (i+1) ⟨(fB p q (ak h om)),om⟩⟩;have f:((i:Int)<(n:Int))=False:=aX om;exact Rc p @bU b f
theorem ez(a:n<18446744073709551616)(b:m<64):AC prog 166 [dv n,al m] (.im (aU (n.testBit m))):=by refine cA [.tmp 4] func166 λd=>?_;have c:D0.u64.wrap _=m:=dm om;exact DL c<|zmm a b
theorem lP(i:n<18446744073709551616):AC prog 230 [dv n] (.fr 3 1 (iL (bl (co n.testBit)))):=by
 refine cA [.tmp 2] func230 λq=>?_;refine aR ?_;refine az (λ((k,v):Nat×Nat) s=>(s.sl 0=dv n/\s.sl 3=.own 3 v/\s.rw 3=⟨v,.sli 3 1 l0 (iL (bl (oG n.testBit k 0)))⟩/\s.sl 4=al k)/\(k<=7)) (λ(k,v)=>7-k) ((0,1)) ⟨nm,sp⟩ ?_;intro(k,v) r ⟨e,l⟩;refine cZ e ?_;refine⟨λf=>?_,λf=>?_⟩;refine az (λ((m,v):Nat×Nat) s=>(s.sl 0=dv n/\s.sl 3=.own 3 v/\s.rw 3=⟨v,.sli 3 1 l0 (iL (bl (oG n.testBit k m)))⟩/\s.sl 4=al k/\s.sl 5=al m)/\(m<=64)) (λ(m,v)=>64-m) ((0,v)) ⟨(jX e),sp⟩ ?_;intro(m,v) t ⟨a,o⟩;refine cZ a ?_;refine⟨λb=>?_,λb=>?_⟩;have b:m<64:=om;refine aa (ez n m i b) ?_;refine cZ a ?_;have h:=Ob n.testBit k m;have p:qN (m:Int)=(aQ m:Nat):=by rw[qN,ae om];simp
 refine⟨λd=>aa (dy _) ?_,λd=>?_⟩;refine ff a p ?_;refine⟨λg=>?_,λg=>?_⟩;have c:oG n.testBit k (m+1)=oG n.testBit k m++[m]:=za9 (by rw[d];simp at g ⊢;omega);refine⟨by rw[ap];omega,?_⟩;exact ah ((m+1,v+1)) ⟨(DM a (ak b om) c @cI @jZ),om⟩;have c:oG n.testBit k (m+1)=oG n.testBit k m:=Lj (by rw[d];simp at g ⊢;omega);exact ah ((m+1,v)) ⟨(fB a (ak b om) c),om⟩;have c:oG n.testBit k (m+1)=oG n.testBit k m:=Lj (by rw[d];rfl);exact ah ((m+1,v)) ⟨(fB a (ak b om) c),om⟩;have:m=64:=om;subst this;have f:k<7:=om;exact ah ((k+1,v)) ⟨(rS e a (ak f om) @Hv),om⟩;have:k=7:=om;subst this;rw[Oa]
theorem gF(o:n<=6)(g:FuncId)(a:M0)(w:V0)(b:∀rw,a.map (gk rw 3)=a)(p:∀s:Nat,s<2^n->AC prog g (al s::a) (.im (aU (w s)))) :
 AC prog 136 [al n,.clo g a] (.im (dv (bA w (2^n):Nat))):=by
 refine cA [.tmp 4] func136 λx=>?_
 have q:=dx o
 have c:=eh o
 have d:D0.u64.wrap _=n:=dm om
 refine aR ?_
 refine az (λk s=>(s.sl 0=al n/\s.sl 1=.clo g a/\s.sl 5=dv (bA w k:Nat)/\s.sl 6=al k)/\(k<=2^n)) (λk=>2^n-k) (0) ⟨nm,sp⟩ ?_
 intro k y ⟨h,r⟩
 have t:=dj w k
 refine ox h d c b ?_
 refine⟨λi=>aa (p k i) ?_,λi=>?_⟩
 have e:D0.u64.wrap _=k:=dm om;have j:=by have:2^k<2^64:=bN om om;omega
 have f:EX .u64 (bA w k) (jl .u64 1 k)=((bA w k|||2^k:Nat):Int):=by rw[yU om,Ca om j]
 refine nN h d c e f ?_;refine⟨λl=>?_,λl=>?_⟩
 have m:bA w (k+1)=bA w k|||2^k:=by rw[bA,ae l]
 exact ah (k+1) ⟨(DM h (ak i om) e f m),om⟩
 have m:bA w (k+1)=bA w k:=by rw[bA,ac<|by grind]
 exact ah (k+1) ⟨(fB h (ak i om) m),om⟩
 grind
theorem zbz(h:k<lh l):l=l.take k++lg l k 0::l.drop (k+1):=by simp_all
theorem ny(h:k<lh l)(a:f (lg l k 0)=k0):(l.take (k+1)).filter f=(l.take k).filter f++[lg l k 0]:=by rw[bj 0 h,aW];simp only[bF,a,eW,dH]
theorem qv{p:V0}(h:k<lh l)(a:p (lg l k 0)=l0):(l.take (k+1)).filter p=(l.take k).filter p:=by rw[bj 0 h];grind
theorem OB:lh (l.filter f)<=lh l:=aO _ _
theorem HD(I:n<18446744073709551616):AC prog 292 [dv n] (.fr 3 1 (iL (bl (dI n.testBit l0)))):=by
 refine cA [.tmp 2] func292 λO=>?_;refine aR ?_;refine aa (lP n I) ?_;refine aR ?_;have y:=ordN_len n.testBit;have d:∀k,k<lh (co n.testBit)->lg (co n.testBit) k 0<64:=λk b=>(cR.1 (aP 0 b)).1;have c:∀k,k<lh (co n.testBit)->co n.testBit=(co n.testBit).take k++lg (co n.testBit) k 0::(co n.testBit).drop (k+1):=λk b=>zbz b;have o:∀k,k<lh (co n.testBit)->((∃t,t∈((co n.testBit).take k).filter (iF n.testBit l0)/\t&&&(co n.testBit).getD k 0=t)↔iF n.testBit l0 (lg (co n.testBit) k 0)=l0):=λk b=>zdE (c k b);unfold dI;generalize co n.testBit=all at *;refine az (λ((k,v,u):Nat×Nat×Nat) s=>(s.sl 3=.own 3 v/\s.rw 3=⟨v,.sli 3 1 l0 (iL (bl ((all.take k).filter (iF n.testBit l0))))⟩/\s.sl 10=.own 10 u/\s.rw 10=⟨u,.sli 3 1 l0 (iL (bl all))⟩/\s.sl 11=al (lh all)/\s.sl 12=al k)/\(k<=lh all)) (λ(k,v,u)=>lh all-k) ((0,1,1)) ⟨(jX @ap),sp⟩ ?_;intro(k,v,u) P ⟨q,K⟩;refine ff q @ap ?_;refine⟨λb=>⟨b,b,?_⟩,λb=>?_⟩;have Q:=d k b;have z:lg (bl all) k 0=((lg all k 0:Nat):Int):=bX b;generalize a:(all.take k).filter (iF n.testBit l0)=out at *;have L:lh out<=k:=by rw[<- a];exact aJ OB (by simp;omega)
 have A:∀j,j<lh out->lg out j 0<64:=λj H=>by have:lg out j 0∈out:=aP 0 H;generalize out.getD j 0=x at *;rw[<- a]at this;obtain⟨i,F,rfl⟩:=eX 0 (jK (List.mem_filter.1 this).1);exact d i F
 refine az (λ(j:Nat)s=>(s.sl 3=.own 3 v/\s.rw 3=⟨v,.sli 3 1 l0 (iL (bl out))⟩/\s.sl 10=.own 10 u/\s.rw 10=⟨u,.sli 3 1 l0 (iL (bl all))⟩/\s.sl 11=al (lh all)/\s.sl 12=al k/\s.sl 5=al (lg all k 0:Nat)/\s.sl 6=aU l0/\s.sl 16=.own 3 v/\s.sl 17=al (lh out)/\s.sl 18=al j)/\(j<=lh out/\∀i,i<j->lg out i 0&&&all.getD k 0≠out.getD i 0)) (λj=>lh out-j) (0) ⟨(fB q z @ap),sp⟩ ?_;intro j R ⟨r,B⟩;obtain⟨H,f⟩:=B;refine ff r @ap ?_;have C:j<lh out->lg (bl out) j 0=((lg out j 0:Nat):Int):=λh=>bX h;have g:j<lh out->(gU .i64 (lg (bl out) j 0) ((lg all k 0:Nat):Int)=0↔out.getD j 0&&&all.getD k 0=lg out j 0):=λh=>by have:=A j h;rw[C h,fv om om,<- gW];omega
 have l:=o k b;rw[a]at l;refine⟨λm=>⟨m,m,λw=>?_,λw=>ah (j+1) ⟨(gE r (ak m om)),⟨om,λi F=>?_⟩⟩⟩,λm=>⟨om,?_⟩⟩;have D:iF n.testBit l0 (lg all k 0)=false:=l.1 ⟨_,aP 0 m,(g m).1 (beq_iff_eq.1 w)⟩;have E:(all.take (k+1)).filter (iF n.testBit l0)=out:=by rw[qv b D,a]
 exact ah ((k+1,v,u)) ⟨(rS q r (ak b om) E),om⟩;rcases Nat.lt_succ_iff_lt_or_eq.1 F with F|rfl;exact f i F;intro e;rw[(g m).2 e]at w;simp at w;have D:iF n.testBit l0 (lg all k 0)=true:=by
  cases M:iF n.testBit l0 (lg all k 0)with
  | true=>rfl
  | false =>obtain⟨t,N,G⟩:=l.2 M;obtain⟨i,F,rfl⟩:=eX 0 N;exact absurd G (f i om)
 have p:(all.take (k+1)).filter (iF n.testBit l0)=out++[lg all k 0]:=by rw[ny b D,a]
 exact ah ((k+1,v+1,u)) ⟨(MT q r (ak b om) p @cI @jZ),om⟩;have:k=lh all:=om;subst this;rw[av]
noncomputable def hU(a:N0)(s:Nat):Bool:=decide ((s:Int)∈a)
noncomputable def qb(a:N0)(k:Nat):List Bool:=(lc 64).map λs=>hU (a.take k) s
theorem ud:lh (qb a n)=64:=rfl
theorem zbA:ld 64 l0=qb a 0:=rfl
theorem zdW(h:k<lh r)(c:0<=lg r k 0/\r.getD k 0<64):(qb r k).set (lg r k 0).toNat k0=qb r (k+1):=by
 refine bE (by simp[qb]) λj d f=>?_;simp only[qb,fd,aM,bG];have e:hU (r.take<|k+1) j=(hU (r.take k) j||decide ((j:Int)=lg r k 0)):=by unfold hU;rw[bj 0 h,<- Bool.decide_or];exact decide_eq_decide.2<|by simp only[gG,fZ]
 grind
theorem kw(G:∀x∈a,0<=x/\x<64):AC prog 194 [aE a] (.fr 3 1 (iL (bl (co (hU a))))):=by
 refine cA [.tmp 2] func194 λE=>?_;simp only[dt,dT,dF,kQ,ga,cC]at E;simp (maxSteps:=9^7) -dsimp only[↓gp,gq,reduceCtorEq,lj,lm,lp,ll,lu,lr,lw,lz,lA,lB,lC,lk,gT];refine⟨dc,az (λ((k,v):Nat×Nat) s=>s.sl 0=aE a/\s.sl 3=.own 8 v/\s.rw 8=⟨v,.sli 4 1 l0 (bL (qb a k))⟩/\s.sl 4=al k/\(k<=lh a)) (λ(k,v)=>lh a-k) ((0,1)) (by refine⟨?_,?_,?_,?_,sp⟩<;>(first|(simp only[gr,simprocAttr,wv,zbA,lz];first|done|rfl|(simp;done))|assumption|rfl)) ?_⟩;intro(k,v) I ⟨j,l,n,o,J⟩;simp only[↓gp,gq,simprocAttr,gT,j,l,n,o,ud];refine⟨λi=>?_,λi=>?_⟩;have B:=G _ (aP 0 i);exact⟨i,i,om,om,om,ah ((k+1,v)) (by refine⟨?_,?_,?_,?_,om⟩<;>(first|(simp only[gr,simprocAttr,j,l,n,o,ak i E,zdW i B];first|done|rfl|(simp;done))|assumption|rfl)) (by first|omega|(simp only;omega)|(dsimp only;omega)|(show _<_;simp;omega))⟩;have:k=lh a:=om;subst this;have y:∀s,s<64->lg (qb a (lh a)) s l0=hU a s:=λs K=>by rw[fU l0 (by rw[ud];exact K)];simp[qb]
 have C:=ud a (lh a);generalize qb a (lh a)=row at *;refine az (λ((k,v,u):Nat×Nat×Nat) s=>s.sl 3=.own 8 u/\s.rw 8=⟨u,.sli 4 1 l0 (bL row)⟩/\s.sl 5=.own 21 v/\s.rw 21=⟨v,.sli 3 1 l0 (iL (bl (oG (hU a) k 0)))⟩/\s.sl 6=al k/\(k<=7)) (λ(k,v,u)=>7-k) ((0,(I.rw 21).ver+1,v)) (by refine⟨?_,?_,?_,?_,?_,sp⟩<;>(first|(simp only[gr,simprocAttr,j,l,n,o];first|done|rfl|(simp;done))|assumption|rfl)) ?_;intro(k,v,u) P ⟨p,q,r,h,t,M⟩;simp only[↓gp,gq,simprocAttr,gT,p,q,r,h,t];refine⟨λi=>?_,λi=>?_⟩;refine az (λ((m,v):Nat×Nat) s=>s.sl 3=.own 8 u/\s.rw 8=⟨u,.sli 4 1 l0 (bL row)⟩/\s.sl 5=.own 21 v/\s.rw 21=⟨v,.sli 3 1 l0 (iL (bl (oG (hU a) k m)))⟩/\s.sl 6=al k/\s.sl 7=al m/\(m<=64)) (λ(m,v)=>64-m) ((0,v)) (by refine⟨?_,?_,?_,?_,?_,?_,sp⟩<;>(first|(simp only[gr,simprocAttr,p,q,r,h,t];first|done|rfl|(simp;done))|assumption|rfl)) ?_;intro(m,v) Q ⟨c,d,e,b,f,g,O⟩;simp only[↓gp,gq,simprocAttr,gT,c,d,e,b,f,g,C];have F:=Ob (hU a) k m;refine⟨λw=>⟨om,om,?_⟩,λw=>?_⟩;have w:m<64:=om;rw[y m w];refine⟨λA=>aa (mf om om) ?_,λA=>?_⟩;simp only[↓gp,gq,simprocAttr,gT,c,d,e,b,f,g,ar];refine⟨λD=>?_,λD=>?_⟩;have z:oG (hU a) k (m+1)=oG (hU a) k m++[m]:=za9 (by rw[A];simp at D ⊢;omega);refine⟨by rw[ap];omega,?_⟩;exact ah ((m+1,v+1)) (by refine⟨?_,?_,?_,?_,?_,?_,om⟩<;>(first|(simp only[gr,simprocAttr,c,d,e,b,f,g,ak w om,z,cI,jZ];first|done|rfl|(simp;done))|assumption|rfl)) (by first|omega|(simp only;omega)|(dsimp only;omega)|(show _<_;simp;omega));have z:oG (hU a) k (m+1)=oG (hU a) k m:=Lj (by rw[A];simp at D ⊢;omega);exact ah ((m+1,v)) (by refine⟨?_,?_,?_,?_,?_,?_,om⟩<;>(first|(simp only[gr,simprocAttr,c,d,e,b,f,g,ak w om,z];first|done|rfl|(simp;done))|assumption|rfl)) (by first|omega|(simp only;omega)|(dsimp only;omega)|(show _<_;simp;omega));have z:oG (hU a) k (m+1)=oG (hU a) k m:=Lj (by rw[A];rfl);exact ah ((m+1,v)) (by refine⟨?_,?_,?_,?_,?_,?_,om⟩<;>(first|(simp only[gr,simprocAttr,c,d,e,b,f,g,ak w om,z];first|done|rfl|(simp;done))|assumption|rfl)) (by first|omega|(simp only;omega)|(dsimp only;omega)|(show _<_;simp;omega));have:m=64:=om;subst this;have i:k<7:=om;exact ah ((k+1,v,u)) (by refine⟨?_,?_,?_,?_,?_,om⟩<;>(first|(simp only[gr,simprocAttr,p,q,r,h,t,c,d,e,b,f,g,ak i om,Hv];first|done|rfl|(simp;done))|assumption|rfl)) (by first|omega|(simp only;omega)|(dsimp only;omega)|(show _<_;simp;omega));have:k=7:=om;subst this;rw[Oa]
theorem vz(g:Bool)(f:N0)(w:∀x∈f,0<=x/\x<64):AC prog 195 [aE f,aU g] (.fr 3 1 (iL (bl (dI (hU f) g)))):=by
 refine cA [.tmp 4] func195 λM=>?_;simp only[dt,dT,dF,kQ,ga,cC]at M;refine aR ?_;refine aa (kw f w) ?_;refine aR ?_;have H:=ordN_len (hU f);have b:∀t,t∈co (hU f)↔t<64/\hU f t=true:=λt=>cR;unfold dI;have F:∀s,s<64->(iF (hU f) g s=k0↔∀t,t∈co (hU f)->(if g=k0 then s&&&t=s else t&&&s=t)->t=s):=λs L=>by
  cases g with
  | true=>rw[ku];simp only[eW];exact⟨λh t B=>h t ((b t).1 B).1 ((b t).1 B).2,λh t I a=>h t ((b t).2 ⟨I,a⟩)⟩
  | false=>rw[so];simp only[eP,gx];exact⟨λh t B=>h t ((b t).1 B).1 ((b t).1 B).2,λh t I a=>h t ((b t).2 ⟨I,a⟩)⟩
 generalize co (hU f)=all at *;have A:∀k,k<lh all->lg all k 0<64:=λk d=>((b _).1 (aP 0 d)).1;refine az (λ((k,v,u):Nat×Nat×Nat) s=>(s.sl 1=aU g/\s.sl 5=.own 13 u/\s.rw 13=⟨u,.sli 3 1 l0 (iL (bl all))⟩/\s.sl 6=.own 14 v/\s.rw 14=⟨v,.sli 3 1 l0 (iL (bl ((all.take k).filter (iF (hU f) g))))⟩/\s.sl 7=al k)/\(k<=lh all)) (λ(k,v,u)=>lh all-k) ((0,1,1)) ⟨nm,sp⟩ ?_;intro(k,v,u) U ⟨D,O⟩;refine ff D @ap ?_;have P:lh ((all.take k).filter (iF (hU f) g))<=k:=aJ OB (by simp;omega);refine⟨λd=>?_,λd=>?_⟩;have L:=A k d;refine az (λ((j,fine):Nat×Bool) s=>(s.sl 1=aU g/\s.sl 5=.own 13 u/\s.rw 13=⟨u,.sli 3 1 l0 (iL (bl all))⟩/\s.sl 6=.own 14 v/\s.rw 14=⟨v,.sli 3 1 l0 (iL (bl ((all.take k).filter (iF (hU f) g))))⟩/\s.sl 7=al k/\s.sl 8=aU fine/\s.sl 9=al j)/\(j<=lh all/\(fine=k0↔∀i,i<j->(if g=k0 then all.getD k 0&&&all.getD i 0=lg all k 0 else all.getD i 0&&&all.getD k 0=lg all i 0)->lg all i 0=lg all k 0))) (λ(j,fine)=>lh all-j) ((0,k0)) ⟨(jX D),sp⟩ ?_;intro(j,fine) V ⟨n,J⟩;obtain⟨W,o⟩:=J;have y:lg (bl all) k 0=((lg all k 0:Nat):Int):=bX d;have C:j<lh all->lg (bl all) j 0=((lg all j 0:Nat):Int):=λh=>bX h;have l:j<lh all->fu .i64 (lg (bl all) k 0) (lg (bl all) j 0)=((lg all k 0&&&all.getD j 0:Nat):Int):=λh=>by have:=A j h;rw[y,C h,ej om om]
 have p:j=lh all->(fine=k0↔iF (hU f) g (lg all k 0)=k0):=λh=>by rw[o,F _ L];exact⟨λa t B=>by obtain⟨i,E,rfl⟩:=eX 0 B;exact a i om,λa i E=>a _ (aP 0 om)⟩
 have q:j=lh all->fine=l0->iF (hU f) g (lg all k 0)=false:=λh r=>by
  cases R:iF (hU f) g (lg all k 0)with
  | false=>rfl
  | true=>rw[(p h).2 R]at r;cases r
 have G:(if g=k0 then all.getD k 0&&&all.getD j 0=lg all k 0 else all.getD j 0&&&all.getD k 0=lg all j 0)->lg all j 0≠all.getD k 0->(l0=k0↔∀i,i<j+1->(if g=k0 then all.getD k 0&&&all.getD i 0=lg all k 0 else all.getD i 0&&&all.getD k 0=lg all i 0)->lg all i 0=lg all k 0):=λK c =>⟨λh=>(by cases h),λh=>absurd (h j om K) c⟩;have z:(¬(if g=k0 then all.getD k 0&&&all.getD j 0=lg all k 0 else all.getD j 0&&&all.getD k 0=lg all j 0)\/all.getD j 0=lg all k 0)->(fine=k0↔∀i,i<j+1->(if g=k0 then all.getD k 0&&&all.getD i 0=lg all k 0 else all.getD i 0&&&all.getD k 0=lg all i 0)->lg all i 0=lg all k 0):=λK=>by
  rw[o];constructor;intro h i E;rcases Nat.lt_succ_iff_lt_or_eq.1 E with E|rfl
  exact h i E;exact λa=>K.elim (λS=>absurd a S) id;intro h i E;exact h i om
 cases g with
 | true =>refine ff n @ap ?_;refine⟨λa=>⟨d,d,a,a,λc=>⟨λm=>ah ((j+1,fine)) ⟨(gE n (ak a om)),⟨om,z (.inl ?_)⟩⟩,λm=>ah ((j+1,l0)) ⟨(gE n (ak a om)),⟨om,G ?_ ?_⟩⟩⟩,λc=>ah ((j+1,fine)) ⟨(gE n (ak a om)),⟨om,z (.inr ?_)⟩⟩⟩,λa=>?_⟩;rw[l a,y]at m;simp only[eW];intro e;rw[e]at m;simp at m;rw[l a,y]at m;have:=beq_iff_eq.1 m;simp only[eW];omega;rw[y,C a]at c;intro e;rw[e]at c;simp at c;rw[y,C a]at c;have:=bne_eq_false_iff_eq.1 c;omega;refine⟨λr=>⟨d,d,om,?_⟩,λr=>?_⟩;have w:=(p om).1 r;exact ah ((k+1,v+1,u)) ⟨(Sx D n (ak d om) (ny d w) @cI @jZ y),om⟩;have w:=q om r;exact ah ((k+1,v,u)) ⟨(rS D n (ak d om) (qv d w)),om⟩
 | false =>refine ff n @ap ?_;refine⟨λa=>⟨d,d,a,a,λc=>⟨λm=>ah ((j+1,l0)) ⟨(gE n (ak a om)),⟨om,G ?_ ?_⟩⟩,λm=>ah ((j+1,fine)) ⟨(gE n (ak a om)),⟨om,z (.inl ?_)⟩⟩⟩,λc=>ah ((j+1,fine)) ⟨(gE n (ak a om)),⟨om,z (.inr ?_)⟩⟩⟩,λa=>?_⟩;rw[l a,C a]at m;have:=beq_iff_eq.1 m;simp only[eP,gx];rw[cl];omega;rw[y,C a]at c;intro e;rw[e]at c;simp at c;rw[l a,C a]at m;simp only[eP,gx];intro e;rw[cl]at e;rw[e]at m;simp at m;rw[y,C a]at c;have:=bne_eq_false_iff_eq.1 c;omega;refine⟨λr=>⟨d,d,om,?_⟩,λr=>?_⟩;have w:=(p om).1 r;exact ah ((k+1,v+1,u)) ⟨(Sx D n (ak d om) (ny d w) @cI @jZ y),om⟩;have w:=q om r;exact ah ((k+1,v,u)) ⟨(rS D n (ak d om) (qv d w)),om⟩
 have:k=lh all:=om;subst this;rw[av]
theorem pd(b:lh a<=1048576):AC prog 44 [aE a] (.fr 3 1 (iL a)):=by refine cA [.tmp 2] func44 λc=>?_;refine aR ?_;grind
theorem mO:AC prog 258 [aE a,al p] (.im (aU (decide (p∈a)))):=by refine cA [.tmp 4] func258 λf=>?_;simp[dt,dT,ga,kQ]at f;refine aR ?_;refine az (λ(k:Nat)s=>(s.sl 0=aE a/\s.sl 1=al p/\s.sl 5=al k)/\(k<=lh a/\∀i,i<k->lg a i 0≠p)) (λk=>lh a-k) 0 ⟨nm,sp⟩ ?_;intro k l ⟨g,e⟩;have⟨m,n⟩:=e;refine cZ g ?_;refine⟨λh=>⟨h,h,λc=>?_,λc=>ah _ ⟨(gE g<|ak h f),⟨om,λi d=>?_⟩⟩⟩,λh=>?_⟩;grind;grind;intro j;have⟨i,d,c⟩:=eX 0 j;grind
def idxOf(a:N0)(n:Int):Int:=if n∈a then(a.idxOf n:Nat)else -1
theorem znd(h:k<lh r)(c:lg r k 0=x)(b:∀i,i<k->lg r i 0≠x):idxOf r x=k:=by
 have g:=c ▸ aP 0 h;rw[idxOf,ae g];have j:=List.idxOf_lt_length_iff.2 g;have l:lg r (r.idxOf x) 0=x:=by grind
 rcases Nat.lt_trichotomy (r.idxOf x) k with d|e|f;grind;rw[e];have:=List.not_of_lt_findIdx f;grind
theorem OC:AC prog 309 [aE a,al p] (.im (al (idxOf a p))):=by refine cA [.tmp 4] func309 λg=>?_;simp[dt,dT,ga,kQ]at g;refine aR ?_;refine az (λ(k:Nat)s=>(s.sl 0=aE a/\s.sl 1=al p/\s.sl 7=al _/\s.sl 8=al k)/\(k<=lh a/\∀i,i<k->lg a i 0≠p)) (λk=>lh a-k) 0 ⟨nm,sp⟩ ?_;intro k m ⟨j,f⟩;have⟨o,n⟩:=f;refine cZ j ?_;refine⟨λh=>⟨h,h,λc=>znd h (by grind) n,λc=>ah _ ⟨(gE j<|ak h g),⟨om,λi d=>?_⟩⟩⟩,λh=>?_⟩;grind;unfold idxOf;grind
theorem tK:AC prog 275 [aE a,al p] (.im (aU (decide (p∈a)))):=by refine cA [.tmp 4] func275 λc=>?_;refine aR<|aa (OC a p) ?_;refine aR ?_;unfold idxOf;grind
theorem Kr{b:Int}(c:0<=x/\x<64)(d:0<=b/\b<64):AC prog 92 [al x,al b] (.im (aU (rQ x b))):=by refine cA [.tmp 4] func92 λf=>?_;refine aR<|aa (mf c.1 om) ?_;refine aR<|aa (mf d.1 om) ?_;refine aR ?_;unfold rQ qN;grind
def zvH(n:Int)(a:N0)(k:Nat):Prop:=di n (lg a k 0)=k0/\(0<k->rQ (lg a (k-1) 0) (lg a k 0)=k0)/\∀i,i<k->fu .i64 (lg a i 0) (lg a k 0)≠a.getD i 0
def ZU(n:Int)(a:N0):Prop:=1<=n/\n<=6/\∀k,k<lh a->zvH n a k
open Classical in
noncomputable def aS(n:Int)(a:N0):Bool:=decide (ZU n a)
open Classical in
theorem pc(h:¬ZU x r):aS x r=false:=aD h
open Classical in
theorem vA(h:ZU x r):aS x r=true:=ay h
open Classical in
theorem cY:aS x r=k0↔ZU x r:=aq
theorem bw:AC prog 34 [.ag [al p,aE b]] (.im (aU (aS p b))):=by
 refine cA [.tmp 2] func34 λu=>?_;simp only[dt,dT,dF,gb,jt,hZ,cC]at u;refine aR ?_;refine az (λ(k:Nat)s=>(s.sl 1=.ref 1 1 0/\s.rw 1=⟨1,.box 31 [al p,aE b]⟩/\s.sl 3=al k)/\(k<=lh b/\∀i,i<k->zvH p b i)) (λk=>lh b-k) (0) ⟨nm,sp⟩ ?_;intro k D ⟨m,w⟩;obtain⟨z,d⟩:=w;have t:D0.i64.wrap ((k:Int)-1)=(k:Int)-1:=aF om om;refine iD m t @oc ?_;refine⟨λh=>⟨kr,h,h,aa (ro _ _) ?_⟩,λh=>aa (fe _ _ _) ?_⟩;refine iD m t @oc ?_;refine⟨λe=>⟨λA=>⟨om,om,om,h,h,?_⟩,λA=>?_⟩,λe=>?_⟩;have e:di p (lg b k 0)=true:=by rwa [eZ]at e
 have B:=sj e;have x:=sj (d (k-1) om).1;refine aa (Kr x B) ?_;refine iD m t @oc ?_;refine⟨λa=>pc λg=>?_,λa=>?_⟩;have:=(g.2.2 k h).2.1 om;rw[this]at a;cases a;have a:0<k->rQ (lg b (k-1) 0) (lg b k 0)=true:=λ_=>by rwa [eZ]at a
 refine az (λ(i:Nat)s=>(s.sl 1=.ref 1 1 0/\s.rw 1=⟨1,.box 31 [al p,aE b]⟩/\s.sl 3=al k/\s.sl 4=al i)/\(i<=k/\∀j,j<i->fu .i64 (lg b j 0) (lg b k 0)≠b.getD j 0)) (λi=>k-i) (0) ⟨(jX m),sp⟩ ?_;intro i C ⟨o,n⟩;obtain⟨y,f⟩:=n;refine cZ o ?_;refine⟨λl=>⟨kr,om,om,h,h,om,om,λq=>?_,λq=>ah (i+1) ⟨(gE o (ak l om)),⟨om,λj c=>?_⟩⟩⟩,λl=>ah (k+1) ⟨(fB m o (ak h u)),⟨om,λj c=>?_⟩⟩⟩;exact pc λg=>(g.2.2 k h).2.2 i l (ss q);rcases Nat.lt_succ_iff_lt_or_eq.1 c with c|rfl;exact f j c;simpa using q;rcases Nat.lt_succ_iff_lt_or_eq.1 c with c|rfl;exact d j c;exact⟨e,a,λi l=>f i om⟩;have e:di p (lg b k 0)=true:=by rwa [eZ]at e
 have a:0<k->rQ (lg b (k-1) 0) (lg b k 0)=true:=λh=>om;refine az (λ(i:Nat)s=>(s.sl 1=.ref 1 1 0/\s.rw 1=⟨1,.box 31 [al p,aE b]⟩/\s.sl 3=al k/\s.sl 4=al i)/\(i<=k/\∀j,j<i->fu .i64 (lg b j 0) (lg b k 0)≠b.getD j 0)) (λi=>k-i) (0) ⟨(jX m),sp⟩ ?_;intro i C ⟨o,n⟩;obtain⟨y,f⟩:=n;refine cZ o ?_;refine⟨λl=>⟨kr,om,om,h,h,om,om,λq=>?_,λq=>ah (i+1) ⟨(gE o (ak l om)),⟨om,λj c=>?_⟩⟩⟩,λl=>ah (k+1) ⟨(fB m o (ak h u)),⟨om,λj c=>?_⟩⟩⟩;exact pc λg=>(g.2.2 k h).2.2 i l (ss q);rcases Nat.lt_succ_iff_lt_or_eq.1 c with c|rfl;exact f j c;simpa using q;rcases Nat.lt_succ_iff_lt_or_eq.1 c with c|rfl;exact d j c;exact⟨e,a,λi l=>f i om⟩;have e:di p (lg b k 0)=false:=by rwa [bC]at e
 exact pc λg=>by have:=(g.2.2 k h).1;rw[e]at this;cases this
 refine iD m t @oc ?_;by_cases r:1<=p/\p<=6;rw[vA ⟨r.1,r.2,λk z=>d k om⟩];simp[r.1,r.2];rw[pc λg=>r ⟨g.1,g.2.1⟩];symm;rw[er,bJ,bJ];omega
theorem CV:AC prog 139 [al p,aE b] (.im (aU (aS p b))):=by
 refine cA [.tmp 4] func139 λw=>?_;simp only[dt,dT,dF,kQ,ga,cC]at w;refine aR ?_;refine⟨λI=>⟨λJ=>pc λl=>by have:=l.2.1;omega,λJ=>?_⟩,λI=>pc λl=>by have:=l.1;omega⟩;refine az (λ(k:Nat)s=>(s.sl 0=al p/\s.sl 1=aE b/\s.sl 17=aE b/\s.sl 18=al (lh b)/\s.sl 19=al k)/\(k<=lh b/\∀i,i<k->di p (lg b i 0)=k0/\(0<i->rQ (lg b (i-1) 0) (lg b i 0)=k0))) (λk=>lh b-k) (0) ⟨nm,sp⟩ ?_;intro k N ⟨q,B⟩;obtain⟨g,c⟩:=B;have x:D0.i64.wrap ((k:Int)-1)=(k:Int)-1:=aF om om;refine iD q x @oc ?_;refine⟨λh=>⟨h,h,aa (eR _ _) ?_⟩,λh=>?_⟩;refine iD q x @oc ?_;refine⟨λr=>?_,λr=>⟨λK=>⟨om,om,om,aa (ur _ _) ?_⟩,λK=>?_⟩⟩;have r:di p (lg b k 0)=false:=by rwa [bC]at r
 exact pc λl=>by have:=(l.2.2 k h).1;rw[r]at this;cases this
 refine iD q x @oc ?_;refine⟨λy=>pc λl=>?_,λy=>ah (k+1) ⟨(gE q (ak h w)),⟨om,λj f=>?_⟩⟩⟩;have:=(l.2.2 k h).2.1 om;rw[this]at y;cases y;rcases Nat.lt_succ_iff_lt_or_eq.1 f with f|rfl;exact c j f;exact⟨by rwa [eZ]at r,λ_=>by rwa [eZ]at y⟩;refine ah (k+1) ⟨(gE q (ak h w)),⟨om,λj f=>?_⟩⟩;rcases Nat.lt_succ_iff_lt_or_eq.1 f with f|rfl
 exact c j f;exact⟨by rwa [eZ]at r,λ_=>om⟩;have n:∀i,i<lh b->di p (lg b i 0)=k0/\(0<i->rQ (lg b (i-1) 0) (lg b i 0)=k0):=λi C=>c i om;clear x c;have m:∀i j,i<lh b->j<lh b->(gU .i64 (lg b i 0) (lg b j 0)=0↔fu .i64 (lg b i 0) (lg b j 0)=lg b i 0):=λi j C f=>zba (sj (n i C).1) (sj (n j f).1);refine az (λ(i:Nat)s=>(s.sl 1=aE b/\s.sl 41=aE b/\s.sl 42=al (lh b)/\s.sl 43=al i)/\(i<=lh b/\∀j k,j<i->j<k->k<lh b->fu .i64 (lg b j 0) (lg b k 0)≠b.getD j 0)) (λi=>lh b-i) (0) ⟨(jX q),sp⟩ ?_;intro i O ⟨D,E⟩;obtain⟨C,t⟩:=E;have u:i<lh b->D0.i64.wrap ((i:Int)+1)=((i+1:Nat):Int):=λh=>ak h w;refine cZ D ?_;refine⟨λd=>?_,λL=>vA ⟨om,om,λk g=>⟨(n k g).1,(n k g).2,λj f=>t j k om f g⟩⟩⟩;rw[u d];refine⟨d,d,om,om,?_⟩;refine az (λ(j:Nat)s=>(s.sl 1=aE b/\s.sl 41=aE b/\s.sl 42=al (lh b)/\s.sl 43=al i/\s.sl 8=al (lg b i 0)/\s.sl 51=aE (b.drop (i+1))/\s.sl 52=al (lh b-(i+1):Nat)/\s.sl 53=al j)/\(j<=lh b-(i+1)/\∀k,k<j->fu .i64 (lg b i 0) (lg b (i+1+k) 0)≠b.getD i 0)) (λj=>lh b-(i+1)-j) (0) ⟨(jX D),sp⟩ ?_;intro j P ⟨F,G⟩;obtain⟨f,o⟩:=G;have M:∀j,lg (b.drop (i+1)) j 0=lg b (i+1+j) 0:=λj=>by simp[lg]
 simp -dsimp only[↓gp,gq,simprocAttr,gT,F,M,wr];refine⟨λz=>⟨z,z,λA=>?_,λA=>ah (j+1) ⟨(gE F (ak z om)),⟨om,λk g=>?_⟩⟩⟩,λz=>ah (i+1) ⟨(fB D F (u d)),⟨om,λj k a g H=>?_⟩⟩⟩;refine pc λl=>(l.2.2 (i+1+j) om).2.2 i om ((m i (i+1+j) d om).1 (ss A));rcases Nat.lt_succ_iff_lt_or_eq.1 g with g|rfl;exact o k g;intro e;have:=(m i (i+1+k) d om).2 e;rw[this]at A;simp at A;rcases Nat.lt_succ_iff_lt_or_eq.1 a with a|rfl;exact t j k a g H;have:=o (k-(j+1)) om;rwa [show j+1+(k-(j+1))=k by omega]at this
theorem zbC:rQ p p=false:=by simp[rQ]
theorem zdY{b c:Int}(d:rQ x b=k0)(e:rQ b c=k0):rQ x c=true:=by unfold rQ at *;grind
theorem HE(h:ZU x r):∀(j i:Nat),i<j->j<lh r->rQ (lg r i 0) (lg r j 0)=true:=by
 intro j;induction j with
 | zero=>intro i b;omega
 | succ j d =>
   intro i b e;have c:=(h.2.2 (j+1) e).2.1 om;rw[dS]at c;rcases Nat.lt_succ_iff_lt_or_eq.1 b with b|rfl
   exact zdY (d i b om) c;exact c
theorem FA(h:ZU x r):r.Nodup:=by refine List.pairwise_iff_getElem.2 λi j d c a e=>?_;have:=HE h j i a c;rw[fU 0 d,fU 0 c,e,zbC]at this;cases this
def sy(n s:Int):Int:=if di n s=k0 then 2^n.toNat-1-s else -1
theorem AK{s:Int}(h:di x s=k0):∃m t:Nat,x=m/\s=t/\m<=6/\t<2^m:=by unfold di at h;have h:=cH h;obtain⟨m,rfl⟩:=ca h.1;obtain⟨t,rfl⟩:=ca h.2.2.1;refine⟨m,t,rfl,rfl,om,?_⟩;have:=h.2.2.2;rw[iM]at this;omega
theorem Bn:AC prog 174 [al p,al s] (.im (al (sy p s))):=by
 refine cA [.tmp 4] func174 λc=>?_;refine aR<|aa (ro _ _) ?_;refine aR ?_;unfold sy;refine⟨λh=>?_,λh=>?_⟩;grind;have h:=by rwa [eZ]at h
 obtain⟨m,t,rfl,rfl,a,d⟩:=AK h;have b:=dx a;rw[ae h,mJ om,eh om,iM];generalize 2^m=q at *;refine⟨om,?_⟩;rw[aF (n:=q-1) om om,aF om om]
theorem zdX:∀m,m<7->∀t,t<64->t<2^m->((2^m-1) ^^^ ((2^m-1)&&&t))=2^m-1-t:=dc
theorem Bo:AC prog 274 [al p,al s] (.im (al (sy p s))):=by
 refine cA [.tmp 4] func274 λe=>?_;refine aR<|aa (eR _ _) ?_;refine aR ?_;unfold sy;refine⟨λh=>?_,λh=>?_⟩;grind;have h:=by rwa [eZ]at h
 obtain⟨m,t,rfl,rfl,a,b⟩:=AK h;have c:=dx a;rw[ae h,mJ om,eh om,iM];have d:=zdX m om t om b;generalize 2^m=q at *;rw[aF om om,show(q:Int)-1=(q-1:Nat)by omega,fv om om];omega
def Uk(l:N0):Prop:=∀b∈l,0<=b/\b<64
theorem nA(h:0<=x/\x<64):qN x=(aQ x.toNat:Nat):=by rw[qN,ae h]
theorem znc{p:Int->Bool}(h:k<lh r)(a:p (lg r k 0)=l0):r.all p=false:=by grind
theorem zhB{l:N0}{p:Int->Bool}(h:∀k,k<lh l->p (lg l k 0)=k0):l.all p=true:=by rw[aY];intro x a;obtain⟨i,b,rfl⟩:=eX 0 a;grind
theorem Uw(w:V0)(a:k<=6):bA w (2^k)<18446744073709551616:=by have c:=dj w<|2^k;have d:2^(2^k)<=2^64:=aV om<|dx a;omega
theorem znb{s:Nat}:hU (bl ((lc k).filter f)) s=(decide (s<k)&&f s):=by unfold hU bl;rw[aZ];simp only[bT,aj,dX,dG,eJ];constructor;rintro⟨t,⟨a,b⟩,e⟩;have:t=s:=om;subst this;exact⟨a,b⟩;rintro⟨a,b⟩;exact⟨s,⟨a,b⟩,rfl⟩
def Uu(a:N0):Prop:=∀x∈a,0<=x/\x<64
theorem HC(h:Uu r){k:Nat}(b:k<lh r):0<=lg r k 0/\r.getD k 0<64:=h _ (aP 0 b)
theorem dM(h:aS x r=k0):Uu r:=λa b=>by obtain⟨i,c,rfl⟩:=eX 0 b;exact sj ((cY.1 h).2.2 i c).1
theorem Uv(a:0<=x/\x<64)(b:k<64):(fu .i64 x (k:Int)==(k:Int))=(x.toNat&&&k==k):=by
 have e:x=((x.toNat:Nat):Int):=om;rw[e,ej om om];have:((x.toNat:Nat):Int).toNat=x.toNat:=om;rw[this];cases h:(x.toNat&&&k==k)with
 | true=>rw[aK]at h;rw[h];simp
 | false =>have h:=beq_eq_false_iff_ne.1 h;rw[bc];exact λe=>h om
theorem jB(j:Uu b)(l:c<64):AC prog 110 [.ag [al p,aE b],al c] (.im (aU (ao b c))):=by
 refine cA [.tmp 4] func110 λm=>?_;simp only[dt,dT,dF,gb,jt,hZ,kQ,cC]at m;refine aR ?_;refine az (λ(k:Nat)s=>(s.sl 1=al c/\s.sl 2=.ref 2 1 0/\s.rw 2=⟨1,.box 31 [al p,aE b]⟩/\s.sl 5=al k)/\(k<=lh b/\∀i,i<k->((lg b i 0).toNat&&&c==c)=l0)) (λk=>lh b-k) (0) ⟨nm,sp⟩ ?_;intro k q ⟨o,e⟩;obtain⟨r,n⟩:=e;refine cZ o ?_;refine⟨λh=>⟨h,h,λa=>?_,λa=>ah (k+1) ⟨(gE o (ak h m)),⟨om,λi d=>?_⟩⟩⟩,λh=>?_⟩;rw[Uv (HC j h) l]at a;exact eT.2 ⟨_,aP 0 h,ss a⟩;rw[Uv (HC j h) l]at a;rcases Nat.lt_succ_iff_lt_or_eq.1 d with d|rfl
 exact n i d;exact a;cases u:ao b c with
 | false=>rfl
 | true =>obtain⟨x,f,g⟩:=eT.1 u;obtain⟨i,d,rfl⟩:=eX 0 f;have:=n i om;rw[g]at this;simp at this
noncomputable def ci(n:Int)(a:N0)(s:Nat):Bool:=aS n a&&ao a s
theorem pb(l:O0)(s:Nat):hU (bl l) s=decide (s∈l):=by
 unfold hU bl;refine decide_eq_decide.2 ?_;simp only[dX]
 exact⟨λ⟨a,b,c⟩=>by have:a=s:=om
                    exact this ▸ b,λh=>⟨s,h,rfl⟩⟩
theorem CU{l:O0}(h:∀s∈l,s<64):∀x∈bl l,0<=x/\x<64:=λx a=>by obtain⟨s,b,rfl⟩:=List.mem_map.1 a;grind
theorem io:AC prog 88 [.ag [al p,aE b]] (.fr 3 1 (iL (bl (co (ci p b))))):=by
 refine cA [.tmp 2] func88 λr=>?_;refine aR ?_;have i:∀m,m=64->co (hU (bl ((lc m).filter (ci p b))))=co (ci p b):=λm d=>by refine mo λs j=>?_;rw[pb,d];cases h:ci p b s<;>simp[h,j]
 have n:∀m,m<=64->∀s∈(lc m).filter (ci p b),s<64:=λm d s j=>by have:=List.mem_range.1 (List.mem_filter.1 j).1;omega
 refine az (λ((m,v):Nat×Nat) s=>(s.sl 1=.ref 1 1 0/\s.rw 1=⟨1,.box 31 [al p,aE b]⟩/\s.sl 3=.own 5 v/\s.rw 5=⟨v,.sli 3 1 l0 (iL (bl ((lc m).filter (ci p b))))⟩/\s.sl 4=al m)/\(m<=64)) (λ(m,v)=>64-m) ((0,1)) ⟨nm,sp⟩ ?_;intro(m,v) t ⟨c,g⟩;have k:lh ((lc m).filter (ci p b))<=64:=by have:=aO (ci p b) (lc m);rw[bp]at this;omega
 refine cZ c ?_;refine⟨λh=>aa (bw p b) ?_,λh=>?_⟩;refine cZ c ?_;have d:m<64:=om;refine⟨λf=>aa (jB p b m (dM f) d) ?_,λf=>aa (kw _ (CU (n m g))) ?_⟩;refine ff c @ap ?_;refine⟨λl=>?_,λl=>?_⟩;have e:(lc (m+1)).filter (ci p b)=(lc m).filter (ci p b)++[m]:=by rw[bW,aW];simp[ci,f,l]
 refine⟨om,?_⟩;exact ah ((m+1,v+1)) ⟨(DM c (ak d om) e @cI @jZ),by dsimp only;omega⟩;have e:(lc (m+1)).filter (ci p b)=(lc m).filter (ci p b):=by rw[bW,aW];simp[ci,f,l]
 exact ah ((m+1,v)) ⟨(fB c (ak d om) e),by dsimp only;omega⟩;refine cZ c ?_;have a:(lc m).filter (ci p b)=[]:=by rw[iO];intro s _;simp[ci,f]
 have q:co (ci p b)=co (hU (bl [])):=mo λs _=>by rw[pb];simp[ci,f]
 rw[a,q];have:m=64:=om;refine aa (kw _ (CU (n m g))) ?_;refine cZ c ?_;rw[i m this]
theorem OA(h:k<lh (co f)):lg (co f) k 0<64:=(cR.1 (aP 0 h)).1
theorem sx:AC prog 113 [.ag [al p,aE b],al s] (.fr 3 1 (iL (bl ((co (ci p b)).filter λa=>(aQ a:Int)==s)))):=by
 refine cA [.tmp 4] func113 λo=>?_;refine aR ?_;refine aa (io p b) ?_;refine aR ?_;have f:=ordN_len (ci p b);have c:∀i,i<lh (co (ci p b))->lg (co (ci p b)) i 0<64:=λi h=>OA h;generalize co (ci p b)=all at *;refine az (λ((i,v,u):Nat×Nat×Nat) a=>(a.sl 1=al s/\a.sl 5=.own 8 v/\a.rw 8=⟨v,.sli 3 1 l0 (iL (bl ((all.take i).filter λa=>(aQ a:Int)==s)))⟩/\a.sl 6=.own 10 u/\a.rw 10=⟨u,.sli 3 1 l0 (iL (bl all))⟩/\a.sl 7=al i)/\(i<=lh all)) (λ(i,v,u)=>lh all-i) ((0,1,1)) ⟨nm,sp⟩ ?_;intro(i,v,u) k ⟨d,l⟩;have m:lh ((all.take i).filter λa=>(aQ a:Int)==s)<=i:=by have:=aO (λa=>(aQ a:Int)==s) (all.take i);rw[bg]at this;omega
 refine ff d @ap ?_;refine⟨λh=>?_,λh=>?_⟩;have q:=c i h;have n:lg (bl all) i 0=((lg all i 0:Nat):Int):=bX h;rw[n];refine⟨h,h,aa (ey _ om) ?_⟩;refine iD d @ap n ?_;refine⟨λg=>⟨h,h,om,?_⟩,λg=>?_⟩;have e:(all.take (i+1)).filter (λa=>(aQ a:Int)==s)=(all.take i).filter (λa=>(aQ a:Int)==s)++[lg all i 0]:=ny h g;exact ah ((i+1,v+1,u)) ⟨(MT d (ak h om) e @cI @jZ n),by dsimp only;omega⟩;have e:(all.take (i+1)).filter (λa=>(aQ a:Int)==s)=(all.take i).filter (λa=>(aQ a:Int)==s):=qv h g;exact ah ((i+1,v,u)) ⟨(fB d (ak h om) e),by dsimp only;omega⟩;have:i=lh all:=om;rw[this,av]
theorem JB(f:V0)(k:Nat):(co f).filter (λs=>(aQ s:Int)==(k:Int))=cd f k 64:=by
 rw[<- Jx f k];refine eM λs _=>?_;cases h:(aQ s==k)with
 | true=>have:=beq_iff_eq.1 h;simp[this]
 | false=>have:=beq_eq_false_iff_ne.1 h;rw[bc];exact λe=>this om
theorem nj:AC prog 113 [.ag [al p,aE b],al c] (.fr 3 1 (iL (bl (cd (ci p b) c 64)))):=by have:=sx p b c;rwa [JB]at this
end Go.Proofs.YtigjebcjfbhnjaaGreatDoor
