/- DERIVED by an AI agent. -/
import Derived.Test.YtijabbemjaioeaaGreatDoorQ5
set_option linter.all false
namespace Go.Proofs.YtijabbemjaioeaaGreatDoor
open Bool renaming true→k0,false→l0
open Option renaming some→n0,none→o0
open Go renaming IntKind→D0
open List renaming range→lc,replicate→ld,getD→lg,length→lh
open Go.Proofs.Tryz
open Go.Abs
variable (L:O0)(H:O0)(f:V0)(n:Int)(a:N0)(e:X0)(k:Nat)(m:Nat)(t:Nat)(r:Nat){d:Nat}{p:O0}{l:N0}{K:St->Prop}{w:RV->Prop}{b:X0}{P:Program}{s:St}{c:M0}{g:FuncId}{x:Int}{M:fG}
theorem Ra{q:O0}{a b:Nat}(c:a<lh q)(d:b<lh q):((q.set a (lg q b 0)).set b (lg q a 0)).Perm q:=by
 grind
theorem LO(c:Nat)(S:k<=900)(U:m<=900)(o:t<k)(n:t<m)(p:r<k)(D:c<m):AT prog 370 [.own 1000000 1,al t,al r,al c] 24 3 ((cz k m e).map iL) ((cz k m λi j=>e (ua t r i) (ua t c j)).map iL) .self:=by
 have d:=λe=>fw (n:=k) (m:=m) (e:=e);refine AT.goI (rs:=[.tmp 8]) tk mixed func370 rfl rfl rfl kr (by rw[d,d]) λV s F w y=>?_;rw[d]at y ⊢;have L:lh (lc k)=k:=sp;have z:=Ra (q:=lc k) (a:=r) (b:=t) om om;have M:=y.row (i:=r) (by rw[d];exact p);have N:=y.row (i:=t) (by rw[d];exact o);refine nN F w @y.top M N ?_;refine⟨p,p,o,o,p,om,o,om,?_⟩;have G:∀rw',rw' 1000000=⟨1,.tab 24 (cy 1000000 (((lc k).set r (lg (lc k) t 0)).set t (lg (lc k) r 0)))⟩->(∀x,rw' (dq 1000000 x)=s.rw (dq 1000000 x))->TabI rw' 1000000 1 24 3 _ (cz k m _):=λrw' a O=>by exact(y.swap (rw':=rw') (a:=r) (b:=t) (by rw[d];exact p) (by rw[d];exact o) a O).1.to (by rw[<- zbe o p,za7];rfl)
 refine az (λ(i:Nat)s=>(s.sl 0=.own 1000000 1/\s.sl 1=al t/\s.sl 2=al r/\s.sl 3=al c/\s.sl 10=al i)/\(i<=k/\TabI s.rw 1000000 1 24 3 _ (cz k m λf j=>if f<i then e (ua t r f) (ua t c j)else e (ua t r f) j))) (λi=>k-i) (0) ⟨(jX F),⟨om,G _ (rp F) (λx=>by simp only[gr,simprocAttr,F])⟩⟩ ?_;intro i W ⟨u,H⟩;have⟨X,g⟩:=H;generalize ((lc k).set r _).set t _=q at *;have A:lh q=k:=by rw[g.len,d]
 generalize I:(λf j=>if f<i then e (ua t r f) (ua t c j)else e (ua t r f) j)=E at *;rcases bf i k with h|h
 have B:=g.row (i:=i) (by rw[d];exact h);have C:=cr (m:=m) (e:=E) h;have l:((i:Int)<(k:Int))=True:=bO om;refine Cn u @g.top A l B C ?_;refine⟨h,D,D,kr,h,h,n,n,D,om,kr,h,?_⟩;have J:∀j,E i j=e (ua t r i) j:=λj=>by rw[<- I];simp
 have K:cz k m (λf j=>if f<i+1 then e (ua t r f) (ua t c j)else e (ua t r f) j)=(cz k m E).set i (((lg (cz k m E) i []).set c (lg (lg (cz k m E) i []) t 0)).set t (lg (lg (cz k m E) i []) c 0)):=by refine(zbc h (by rw[de,de,C]) (λj P=>?_) λf j _ _ Q=>?_).symm;rw[zhc om om,dz h (Hw n D P),J,ae (dD i)];grind
 refine⟨n,om,ah (i+1) ⟨(gE u (ak h om)),⟨om,?_⟩⟩⟩;rw[K];exact g.set (by rw[d];exact h) (rp u) (rp u) (λx R=>by simp only[gr,simprocAttr,u,R]);obtain rfl:i=k:=om;have l:((i:Int)<(i:Int))=False:=aX om;refine ox u @g.top A l ?_;refine pT ((g.same gl (λx=>gl)).to ?_) z;rw[<- I];exact dV λf j a _=>ae a
theorem Yd{y:Int}(h:-2<=x/\x<=2)(k:Int)(a:-k<=y/\y<=k):-(2*k)<=x*y/\x*y<=2*k:=by have:x=-2\/x=-1\/x=0\/x=1\/x=2:=om;grind
theorem LN(Q R:U0)(n m a:Nat)(hn:n<=900)(hm:m<=900)(c:a<n)(d:a<m)(hp:e a a≠0)(hQ:∀i,a<i->i<n->e i a=e a a*Q i/\-2<=Q i/\Q i<=2)(hR:∀j,a<j->j<m->e a j=e a a*R j/\-2<=R j/\R j<=2)(P:∀i j,a<=i->i<n->a<=j->j<m->-2<=e i j/\e i j<=2) :
 AT prog 371 [.own 1000000 1,al a] 24 3 ((cz n m e).map iL) ((cz n m (reC (Us e Q a n) R a m)).map iL) (.selfx (.bool k0)):=by
 have b:=λe=>fw (n:=n) (m:=m) (e:=e)
 refine AT.goI (rs:=[.tmp 4,.tmp 5]) tk mixed func371 rfl rfl rfl kr (by rw[b,b]) λhl s hs S ht=>?_
 rw[b]at ht ⊢
 have o:∀i,i<n->lg (lc n) i 0=i:=λi hi=>by simp[lg,hi]
 have q:lh (lc n)=n:=bp
 have F:D0.i64.wrap ((a:Int)+1)=((a+1:Nat):Int):=ak c om
 have U:(e a a==0)=false:=beq_eq_false_iff_ne.2 hp
 refine iD hs S F ?_
 refine az (λ(i:Nat)s=>(s.sl 0=.own 1000000 1/\s.sl 1=al a/\s.sl 6=.v (.bool k0)/\s.sl 7=al i)/\((a<i/\i<=n)/\TabI s.rw 1000000 1 24 3 (lc n) (cz n m (Us e Q a i)))) (λi=>n-i) (a+1) ⟨(gE hs F),⟨⟨om,om⟩,(ht.same gl (λx=>gl)).to (dV λi j _ _=>(ac om).symm)⟩⟩ ?_
 intro i sa ⟨V,a1⟩
 have⟨⟨G,b1⟩,u⟩:=a1
 rcases bf i n with h|h
 have H:((i:Int)<(n:Int))=True:=bO om;have w:=u.row (i:=i) (by rw[b];exact h);have W:=u.row (i:=a) (by rw[b];exact c);rw[o i h]at w;rw[o a c]at W;have C:=cr (m:=m) (e:=Us e Q a i) h;have a2:=cr (m:=m) (e:=Us e Q a i) c;have v1:lg (lg (cz n m (Us e Q a i)) i []) a 0=e i a:=by rw[dz h d,zm1 (ab i)]
 have v2:lg (lg (cz n m (Us e Q a i)) a []) a 0=e a a:=by rw[dz c d,HA (ab a)]
 have⟨X,a3⟩:=hQ i G h;have A:(e i a).tdiv (e a a)=Q i:=by rw[X];exact jS _ hp
 have B:D0.i64.wrap (Q i)=Q i:=aF om om;simp only[↓gp,gq,simprocAttr,gT,V,u.top,q,H,w,W,o i h,o a c,C,a2,v1,v2,U,A,B];refine⟨kr,h,d,d,c,c,d,d,hp,?_⟩;refine az (λ(j:Nat)s=>(s.sl 0=.own 1000000 1/\s.sl 1=al a/\s.sl 6=.v (.bool k0)/\s.sl 7=al i/\s.sl 8=al (Q i)/\s.sl 9=al j)/\((a<=j/\j<=m)/\TabI s.rw 1000000 1 24 3 (lc n) (cz n m (vw e Q a i j)))) (λj=>m-j) (a) ⟨(fB V A B),⟨⟨om,om⟩,(u.same gl (λx=>gl)).to (dV λl Y _ _=>zjj.symm)⟩⟩ ?_;intro j sb ⟨I,a4⟩;have⟨⟨r,a5⟩,g⟩:=a4;have p:=g.row (i:=i) (by rw[b];exact h);have J:=g.row (i:=a) (by rw[b];exact c);rw[o i h]at p;rw[o a c]at J;have y:=cr (m:=m) (e:=vw e Q a i j) h;have Z:=cr (m:=m) (e:=vw e Q a i j) c;rcases bf j m with f|f
 have t:((j:Int)<(m:Int))=True:=bO om;have K:lg (lg (cz n m (vw e Q a i j)) i []) j 0=e i j:=by rw[dz h f,zqB (ab j)]
 have v4:lg (lg (cz n m (vw e Q a i j)) a []) j 0=e a j:=by rw[dz c f,zm3 G]
 have s1:=P i j om h r f;have s2:=P a j (ab a) c r f;have a6:=Yd a3 2 s2;have w1:D0.i64.wrap (Q i*e a j)=Q i*e a j:=aF om om;have w2:D0.i64.wrap (e i j-Q i*e a j)=e i j-Q i*e a j:=aF om om;simp only[↓gp,gq,simprocAttr,gT,I,g.top,q,t,p,J,o i h,o a c,y,Z,K,v4,w1,w2];refine⟨h,h,kr,h,h,h,h,f,c,c,f,om,kr,ah (j+1) ⟨(gE I (ak f om)),⟨⟨om,om⟩,?_⟩⟩⟩;have L:cz n m (vw e Q a i (j+1))=(cz n m (vw e Q a i j)).set i ((lg (cz n m (vw e Q a i j)) i []).set j (e i j-Q i*e a j)):=by rw[vc h];exact dV λl Y _ _=>(zm5 r).symm
 rw[L];exact g.set (by rw[b];exact h) (rp I) (by rw[o i h];simp only[gr,simprocAttr,I]) (λx hx=>by rw[o i h]at hx;simp only[gr,simprocAttr,I,hx])
 have t:((j:Int)<(m:Int))=False:=aX om;obtain rfl:j=m:=om;have K:lg (lg (cz n j (vw e Q a i j)) i []) a 0=0:=by rw[dz h d];unfold vw;rw[ae ⟨rfl,ab a,d⟩,X,kZ];omega
 simp only[↓gp,gq,simprocAttr,gT,I,g.top,q,t,p,J,o i h,o a c,y,Z,K];exact⟨h,h,h,h,d,d,ah (i+1) ⟨(fB V I (ak h om)),⟨⟨om,om⟩,(g.same gl (λx=>gl)).to (dV λl Y _ h'=>zm7 G h')⟩⟩⟩
 obtain rfl:i=n:=om;have H:((i:Int)<(i:Int))=False:=aX om;refine nN V @u.top q H F ?_;have eA:∀j,Us e Q a i a j=e a j:=λj=>HA (ab a);have eB:∀l,a<=l->l<i->-2<=Us e Q a i l a/\Us e Q a i l a<=2:=λl h1 f=>by rcases bf a l with D|D;rw[WE D f (ab a),(hQ l D f).1,kZ];omega;rw[HA D];exact P l a h1 f (ab a) d
 have eC:∀l j,a<=l->l<i->a<=j->j<m->-6<=Us e Q a i l j/\Us e Q a i l j<=6:=λl j h1 f D h4=>by
  have s1:=P l j h1 f D h4;rcases bf a l with h5|h5
  have:=Yd (hQ l h5 f).2 2 (P a j (ab a) c D h4);rw[WE h5 f D];omega;rw[HA h5];omega
 generalize Us e Q a i=E at *;refine az (λ(j:Nat)s=>(s.sl 0=.own 1000000 1/\s.sl 1=al a/\s.sl 6=.v (.bool k0)/\s.sl 10=al j)/\((a<j/\j<=m)/\TabI s.rw 1000000 1 24 3 (lc i) (cz i m (reC E R a j)))) (λj=>m-j) (a+1) ⟨(jX V),⟨⟨om,om⟩,(u.same gl (λx=>gl)).to (dV λi j _ _=>(ac om).symm)⟩⟩ ?_;intro j sc ⟨Hc,a7⟩;have⟨⟨r,a5⟩,g⟩:=a7;have w:=g.row (i:=a) (by rw[b];exact c);rw[o a c]at w;have C:=cr (m:=m) (e:=reC E R a j) c;rcases bf j m with f|f
 have t:((j:Int)<(m:Int))=True:=bO om;have v1:lg (lg (cz i m (reC E R a j)) a []) j 0=e a j:=by rw[dz c f,zm2 (ab j),eA]
 have v2:lg (lg (cz i m (reC E R a j)) a []) a 0=e a a:=by rw[dz c d,zdT (ab a),eA]
 have⟨a0,a8⟩:=hR j r f;have A:(e a j).tdiv (e a a)=R j:=by rw[a0];exact jS _ hp
 have B:D0.i64.wrap (R j)=R j:=aF om om;simp only[↓gp,gq,simprocAttr,gT,Hc,g.top,q,t,w,o a c,C,v1,v2,U,A,B]
 repeat refine⟨by first|omega|assumption|kernel_rfl,?_⟩
 refine az (λ(k:Nat)s=>(s.sl 0=.own 1000000 1/\s.sl 1=al a/\s.sl 6=.v (.bool k0)/\s.sl 10=al j/\s.sl 11=al (R j)/\s.sl 12=al k)/\((a<=k/\k<=i)/\TabI s.rw 1000000 1 24 3 (lc i) (cz i m (vy E R a j k)))) (λk=>i-k) (a) ⟨(fB Hc A B),⟨⟨om,om⟩,(g.same gl (λx=>gl)).to (dV λl Y _ _=>zjk.symm)⟩⟩ ?_;intro k sd ⟨M,b0⟩;have⟨⟨N,b2⟩,z⟩:=b0;rcases bf k i with h|h
 have O:((k:Int)<(i:Int))=True:=bO om;have p:=z.row (i:=k) (by rw[b];exact h);rw[o k h]at p;have y:=cr (m:=m) (e:=vy E R a j k) h;have K:lg (lg (cz i m (vy E R a j k)) k []) j 0=E k j:=by rw[dz h f,zqC (ab k)]
 have v4:lg (lg (cz i m (vy E R a j k)) k []) a 0=E k a:=by rw[dz h d,zm4 r]
 have s1:=eC k j N h om f;have s2:=eB k N h;have a6:=Yd a8 2 s2;have w1:D0.i64.wrap (R j*E k a)=R j*E k a:=aF om om;have w2:D0.i64.wrap (E k j-R j*E k a)=E k j-R j*E k a:=aF om om;simp only[↓gp,gq,simprocAttr,gT,M,z.top,q,O,p,o k h,y,K,v4,w1,w2];refine⟨kr,h,h,f,f,h,d,d,f,om,kr,ah (k+1) ⟨(gE M (ak h om)),⟨⟨om,om⟩,?_⟩⟩⟩;have L:cz i m (vy E R a j (k+1))=(cz i m (vy E R a j k)).set k ((lg (cz i m (vy E R a j k)) k []).set j (E k j-R j*E k a)):=by rw[vc h];exact dV λl Y _ _=>(zm6 N).symm
 rw[L];exact z.set (by rw[b];exact h) (rp M) (by rw[o k h];simp only[gr,simprocAttr,M]) (λx hx=>by rw[o k h]at hx;simp only[gr,simprocAttr,M,hx])
 have O:((k:Int)<(i:Int))=False:=aX om;obtain rfl:k=i:=om;have p:=z.row (i:=a) (by rw[b];exact c);rw[o a c]at p;have y:=cr (m:=m) (e:=vy E R a j k) c;have K:lg (lg (cz k m (vy E R a j k)) a []) j 0=0:=by rw[dz c f];unfold vy;rw[ae ⟨rfl,ab a,c⟩,eA,eA,a0,kZ];omega
 refine XO M @z.top q O p (o a c) y K ?_;exact⟨c,c,f,f,ah (j+1) ⟨(fB Hc M (ak f om)),⟨⟨om,om⟩,(z.same gl (λx=>gl)).to (dV λl Y h' _=>zm8 r h')⟩⟩⟩
 have t:((j:Int)<(m:Int))=False:=aX om;obtain rfl:j=m:=om;refine xA Hc @g.top q t w (o a c) C ?_;exact⟨c,c,pT (g.same gl (λx=>gl)) (List.Perm.refl _)⟩
theorem Qa(C:k<=900)(D:m<=900)(n:t<k)(d:t<m)(x:e t t≠0)(y:∀i j,t<i->i<k->t<j->j<m->(e i j).tmod (e t t)=0):AC prog 372 [hY (cz k m e),al t] (.im (al (-1))):=by
 refine cA [.tmp 4] func372 λE=>?_;have b:=fw (n:=k) (m:=m) (e:=e);have c:=ak n om;have a:=cr (m:=m) (e:=e) n;have z:=dz (e:=e) n d;refine cZ c ?_;refine az (λ(i:Nat)s=>(s.sl 0=hY (cz k m e)/\s.sl 1=al t/\s.sl 5=al i)/\(t<i/\i<=k)) (λi=>k-i) (t+1) ⟨(jX c),om⟩ ?_;intro i F ⟨p,u⟩;rcases bf i k with h|h
 have f:((i:Int)<(k:Int))=True:=bO om;have l:=cr (m:=m) (e:=e) h;refine nN p @bU b f c ?_;refine az (λ(j:Nat)s=>(s.sl 0=hY (cz k m e)/\s.sl 1=al t/\s.sl 5=al i/\s.sl 6=al j)/\(t<j/\j<=m)) (λj=>m-j) (t+1) ⟨(gE p c),om⟩ ?_;intro j G ⟨q,w⟩;rcases bf j m with o|o
 have g:((j:Int)<(m:Int))=True:=bO om;have A:=dz (e:=e) h o;have B:=y i j u.1 h w.1 o;simp only[↓gp,gq,simprocAttr,gT,q,bU,b,l,g,A,z,a,B,beq_eq_false_iff_ne.2 x];exact⟨h,h,kr,h,h,o,n,n,d,d,x,ah (j+1) ⟨(gE q<|ak o om),om⟩⟩;have g:((j:Int)<(m:Int))=False:=aX om;refine nN q @bU b l g ?_;exact⟨h,h,ah (i+1) ⟨(fB p q<|ak h om),om⟩⟩;have f:((i:Int)<(k:Int))=False:=aX om;exact xd4 p @bU b f
theorem zcJ{r lent:M0}{e l k v:Nat}{us:Dm s}{u:Dm K}{b:fG}(h:AT P g c e l (M.map iL) (b.map iL) .self)(f:GiveL [(k,v)] r c)(args:TabI s.rw k v e l p M)(x:lh b=lh M)(y:∀(S:St)(q:O0),TabI S.rw k v e l q b->q.Perm p->S.sl d=.own k v->(∀t,t≠d->S.sl t=s.sl t)->(∀j,(j%1000==k%1000)=l0->S.rw j=s.rw j)->K S):nn P g lent w (tS P g lent r (n0 d) (kk s us) (kk K u)):=by
 refine Ec h f args.is args.nd λm a=>?_
 have n:lh m=(b.map iL).length:=by simp[a.length_eq,args.len,x]
 have o:=a.nodup_iff.2 args.nd
 exact y _ m (⟨⟨mj ..,n,λi A=>sh o A⟩,o⟩) a (cF ..) (λt args=>da _ _ _ _ args)<|λj B=>oy _ _ _ _ _ _ _ B
theorem zcK{r lent:M0}{e l k v:Nat}{us:Dm s}{u:Dm K}{b:fG}{x:Value}(h:AT P g c e l (M.map iL) (b.map iL) (.selfx x))(f:GiveL [(k,v)] r c)(args:TabI s.rw k v e l p M)(y:lh b=lh M)(z:∀(S:St)(q:O0),TabI S.rw k v e l q b->q.Perm p->S.sl d=.tup [.own k v,.v x]->(∀t,t≠d->S.sl t=s.sl t)->(∀j,(j%1000==k%1000)=l0->S.rw j=s.rw j)->K S):nn P g lent w (tS P g lent r (n0 d) (kk s us) (kk K u)):=by
 refine Ec h f args.is args.nd λm a=>?_
 have n:lh m=(b.map iL).length:=by simp[a.length_eq,args.len,y]
 have o:=a.nodup_iff.2 args.nd
 exact z _ m (⟨⟨mj ..,n,λi B=>sh o B⟩,o⟩) a (cF ..) (λt args=>da _ _ _ _ args)<|λj C=>oy _ _ _ _ _ _ _ C
def AtS(k n m b c a:Nat)(e:X0)(out:N0):Prop:=(out=ld a 1/\SWq k n m b c a e)\/(out=ld b 1++[2]/\a=b+1/\c=a/\a<=n/\a<=m/\∀i j,a<=i->i<n->a<=j->j<m->e i j=0)
theorem ze5{n m k c a:Nat}(h:AtS d n m k c a b l)(f:k<=m)(g:c<=m)(e:∀i j,a<=i->i<n->a<=j->j<m->b i j=0):l=ld k 1++ld (c-k) 2:=by rcases h with⟨rfl,out⟩|⟨rfl,q,out,_⟩;have⟨o,p⟩:=out.stop f g e;simp_all;simp_all
theorem AtS.le{n m c out a:Nat}(h:AtS d n m c out a b l):a<=n/\a<=m/\l.length=a:=by rcases h with⟨rfl,e⟩|⟨rfl,i,_,f,g,_⟩;exact⟨e.an,e.am,sp⟩;grind
theorem JY(W:Nat)(g:Abs.Good k)(hn:m<=20)(hm:t<=20)(h2:r<=t)(h3:W<=t)(hW:SWq k m t r W 0 e):AC prog 340 [hY (cz m t e)] (.fr 3 1 (iL (ld r 1++ld (W-r) 2))):=by
 refine cA [.tmp 2] func340 λhl=>?_;have b:=λp=>fw (n:=m) (m:=t) (e:=p);refine aR ?_;refine NW gl (λj=>gl) (λ(i:Nat)s=>(s.sl 0=hY _/\s.sl 3=.own 13 (i+1)/\s.sl 4=al i)/\(i<=m/\TabG s.rw 13 (i+1) 24 3 i ((cz m t e).take i))) (λi=>m-i) (0) (λsX qw z N=>⟨(gE z N),⟨om,qw⟩⟩) ?_;intro i sa ⟨Ha,a8⟩;have⟨hi,O⟩:=a8;rcases bf i m with h|h
 have b0:((i:Int)<(m:Int))=True:=bO om;have b1:=cr (m:=t) (e:=e) h;refine Cn Ha @bU b b0 b1 @O.top ?_;refine⟨h,om,zfQ ?_⟩;have b2:(cz m t e).take i++[lg _ i []]=(cz m t e).take (i+1):=(bj [] (by grind)).symm;have b3:lh ((cz m t e).take i)=i:=by grind
 refine ox Ha @O.top @bP @bp ?_;exact⟨om,tD (d:=21) (vd:=(sa.rw 21).ver+1+1) (rp @O.top) b3 (λj hj=>by simp only[gr,simprocAttr,O.row j hj]) (λj hj=>by simp only[gr,simprocAttr,O.rest j hj]) gl dc dc (i+1) (λsX qw z N=>⟨(rS z N Ha (ak h om)),⟨om,(b2 ▸ qw)⟩⟩) (om)⟩;obtain rfl:i=m:=om;rw[bK (by grind)]at O;have a0:=O.done;have a1:((i:Int)<(i:Int))=False:=aX om;refine nN Ha @bU b a1 @a0.top ?_;refine az (λ((a,p,q,v,out):Nat×(X0)×O0×Nat×N0) s=>(s.sl 0=hY (cz i t e)/\s.sl 3=.own 13 (i+1)/\s.sl 5=.own 29 v/\s.rw 29=⟨v,.sli 3 1 l0 (iL out)⟩/\s.sl 6=al a)/\(AtS k i t r W a p out/\TabI s.rw 13 (i+1) 24 3 q (cz i t p))) (λ(a,p,q,v,out)=>i-a) ((0,e,lc i,(sa.rw 29).ver+1,[])) ⟨(jX Ha),⟨.inl ⟨rfl,hW⟩,a0.same gl (λx=>gl)⟩⟩ ?_;intro(a,p,q,v,out) sb ⟨Hb,b4⟩;have⟨hA,I⟩:=b4;have⟨b8,b9,b5⟩:=hA.le;by_cases b6:a<i/\a<t;have⟨l,w⟩:=b6;have o:((a:Int)<(i:Int))=True:=bO om;have A:((a:Int)<(t:Int))=True:=bO om;have P:=I.row (i:=0) (by rw[b];omega);have Q:=cr (m:=t) (e:=p) (show 0<i by omega);have B:lh q=i:=by rw[I.len,b]
 refine xA Hb @I.top B o A P Q ?_;refine⟨om,om,?_⟩;refine az (λn s=>(s.sl 0=hY _/\s.sl 3=.own 13 (i+1)/\s.sl 5=.own 29 v/\s.rw 29=⟨v,.sli 3 1 l0 (iL out)⟩/\s.sl 6=al a)/\(TabI s.rw 13 (i+1) 24 3 q _)) (λn=>0) (0) ⟨(jX Hb),I.same gl (λx=>gl)⟩ ?_;intro n sc ⟨R,b7⟩;have C:=b7;have S:=vG C;have hS:Sm2 i t a p:=λX Y i1 i2 j1 j2=>by rcases hA with⟨_,D⟩|⟨_,_,_,_,_,D⟩;have:=D.small i1 i2 j1 j2;omega;grind
 refine iD R @C.top S<|aa (JZ p i t a om om om om hS) ?_;cases a2:th (CM p) a t (i-a)with
 | none =>have e1:Vr o0=-1:=rfl;have Z:Vu o0=-1:=rfl;exact xd6 R @C.top S e1 Z (ze5 hA h2 h3 (Wn om om a2))
 | some rc =>
   have⟨L,c⟩:=rc;have y:=Wm om om a2;have E:=y.hi;have F:=y.hj;have e1:Vr (n0 (L,c))=(L:Int):=rfl;have Z:Vu (n0 (L,c))=(c:Int):=rfl;have e3:((L:Int)<0)=False:=aX om;refine Cn R @C.top S e1 Z e3 ?_;have U:SWq k i t r W a p/\out=ld a 1:=by rcases hA with⟨h4,D⟩|⟨_,_,_,_,_,D⟩;grind;exact absurd (D L c E.1 E.2 F.1 F.2) y.nz
   have⟨k1,k2,k3,k4,k5⟩:=zd7 g U.1 h2 h3 y;refine zcJ (LO p i t a L c om om om om E.2 F.2) (by repeat (first|exact GiveL.nil|refine GiveL.v ?_|refine GiveL.clo ?_|refine GiveL.own 0 rfl ?_|refine GiveL.own 1 rfl ?_|refine GiveL.ag ?_ ?_)) (C.same gl (λx=>gl)) (by rw[b,b]) λS1 q1 G c0 d1 s1 w1=>?_;have u0:S1.sl 0=hY (cz i t e):=by simp[s1,gr,simprocAttr,R]
   have u5:S1.sl 5=.own 29 v:=by simp[s1,gr,simprocAttr,R]
   have u6:S1.sl 6=al a:=by simp[s1,gr,simprocAttr,R]
   have a3:S1.rw 29=⟨v,.sli 3 1 l0 (iL out)⟩:=by simp[w1,gr,simprocAttr,R]
   have a4:=vG G;simp only[↓gp,gq,simprocAttr,gT,d1,u0,u5,u6,a3,G.top,a4];have V:=LN _ _ _ i t a om om l w (by rw[wS];exact y.nz) (by rwa[wS]) (by rwa[wS]) k3;refine zcK V (by repeat (first|exact GiveL.nil|refine GiveL.v ?_|refine GiveL.clo ?_|refine GiveL.own 0 rfl ?_|refine GiveL.own 1 rfl ?_|refine GiveL.ag ?_ ?_)) (G.same gl (λx=>gl)) (by rw[b,b]) λS2 q2 f c3 d2 s2 w2=>?_;have f:TabI S2.rw 13 (i+1) 24 3 q2 (cz i t (stp p i t a L c)):=f;have y0:S2.sl 0=hY (cz i t e):=by simp[s2,gr,simprocAttr,u0]
   have y5:S2.sl 5=.own 29 v:=by simp[s2,gr,simprocAttr,u5]
   have y6:S2.sl 6=al a:=by simp[s2,gr,simprocAttr,u6]
   have J:S2.rw 29=⟨v,.sli 3 1 l0 (iL out)⟩:=by simp[w2,gr,simprocAttr,a3]
   have H:=vG f;simp only[↓gp,gq,simprocAttr,gT,d2,y0,y5,y6,J,f.top,H];refine aa (Qa _ i t a om om l w (by rw[zd6];exact y.nz) (by rwa[zd6])) ?_;have K:lh q2=i:=by rw[f.len,b]
   have a5:=f.row (i:=a) (by grind);have a6:=cr (m:=t) (e:=stp p i t a L c) l;have va:lg (lg (cz i t (stp p i t a L c)) a []) a 0=p L c:=by rw[dz l w,zd6]
   simp only[↓gp,gq,simprocAttr,gT,d2,y0,y5,y6,J,f.top,H,K,a5,a6,va];refine⟨om,om,w,w,aa (qo (p L c) om om) ?_⟩;simp only[↓gp,gq,simprocAttr,gT,d2,y0,y5,y6,J,f.top,H,K,a5,a6,va,dB,b5];have a7:AtS k i t r W (a+1) (stp p i t a L c) (out++[((p L c).natAbs:Int)]):=by
    rw[U.2];rcases k5 with⟨h4,D⟩|⟨h4,D,h6,h7⟩
    exact .inl ⟨by rw[h4,zW];rfl,D⟩;exact .inr ⟨by grind,om,h7,l,w,λX Y i1 i2 j1 j2=>D X Y i1 i2 j1 j2⟩
   exact⟨om,ah ((a+1,stp p i t a L c,q2,v+1,out++[((p L c).natAbs:Int)])) ⟨(by and_intros<;>(first|(simp only[gr,simprocAttr,Hb,d2,y0,y5,y6,J,ak l om])|assumption|rfl)),⟨a7,f.same gl (λx=>gl)⟩⟩⟩
 have u:=ze5 hA h2 h3 λX Y=>om;by_cases l:a<i;have o:=bO om;have P:=I.row (i:=0) (by rw[b];omega);have Q:=cr (m:=t) (e:=p) (show 0<i by omega);have B:lh q=i:=by rw[I.len,b]
 refine XO Hb @I.top B o (aX om) P Q u ?_;omega;have o:((a:Int)<(i:Int))=False:=aX om;have B:lh q=i:=by rw[I.len,b]
 exact xd5 Hb @I.top B o u
theorem rP(G:k<=900)(H:m<=900)(I:t<=k)(D:t<=m):AC prog 326 [hY (cz k m e),al t] (.tup [.im (al (Vr (th (yV e) t m (k-t)))),.im (al (Vu (th (yV e) t m (k-t))))]):=by
 refine cA [.tmp 4,.tmp 5] func326 λJ=>?_;have b:=fw (n:=k) (m:=m) (e:=e);refine aR ?_;refine az (λa s=>(s.sl 0=hY _/\s.sl 1=al t/\s.sl 6=al (t+a:Nat))/\(t+a<=k/\th (yV e) t m a=o0)) (λa=>k-a) 0 ⟨nm,⟨om,rfl⟩⟩ ?_;intro a K ⟨p,r⟩;have⟨E,j⟩:=r;rcases bf (t+a) k with c|c
 have g:=bO om;have h:=cr (m:=m) (e:=e) c;refine ox p @bU b g ?_;refine az (λu s=>(s.sl 0=hY _/\s.sl 1=al t/\s.sl 6=al _/\s.sl 7=al (t+u:Nat))/\(t+u<=m/\XR (yV e) t (t+a) _ u=o0)) (λu=>m-u) 0 ⟨(jX p),⟨om,j⟩⟩ ?_;intro u L ⟨n,w⟩;have⟨F,i⟩:=w;have d:XR (yV e) t (t+a) (th (yV e) t m a) (u+1)=if e (t+a) (t+u)=0 then o0 else n0 (t+a,t+u):=by rw[XR,i];rfl
 rcases bf (t+u) m with l|l;have A:=dz (e:=e) c l;have f:(((t+u:Nat):Int)<m)=True:=bO om;by_cases q:e (t+a) (t+u)=0;rw[ae q]at d;refine xA n @bU b h f A q ?_;exact⟨c,c,c,c,l,ah _ ⟨(gE n (ak l om)),⟨om,d⟩⟩⟩;rw[ac q]at d;have B:=zmA d<|m-t-(u+1);rw[show u+1+(m-t-(u+1))=m-t by omega]at B;have C:=zmB (t:=a+1) B<|k-t-(a+1);rw[show a+1+(k-t-(a+1))=k-t by omega]at C;rw[C];refine xA n @bU b h f A (bne_iff_ne.2 q) ?_;exact⟨c,c,c,c,l,rfl,rfl⟩;have f:(((t+u:Nat):Int)<m)=False:=aX om;have z:u=m-t:=om;have o:=by rw[z]at i;exact i
 refine nN n @bU b h f ?_;exact⟨c,c,ah (a+1) ⟨(fB p n<|ak c om),⟨om,o⟩⟩⟩;have g:(((t+a:Nat))<k)=False:=aX om;rw[show k-t=a by omega,j];refine ox p @bU b g ?_;decide
theorem zkz:Cu T s [] (.tup []):=fS
theorem BJ(c:Nat)(S:k<=900)(U:m<=900)(o:t<k)(n:t<m)(p:r<k)(F:c<m):AT prog 327 [.own 1000000 1,al t,al r,al c] 24 3 ((cz k m e).map iL) ((cz k m (piv e t r c)).map iL) (.rv (.tup [])):=by
 have d:=λe=>fw (n:=k) (m:=m) (e:=e);refine AT.goI tk mixed func327 rfl rfl rfl kr (by grind) λV s G w y=>?_;rw[d]at y ⊢;have z:lh (lc k)=k:=sp;have A:=Ra (q:=lc k) (a:=t) (b:=r) om om;have N:=y.row (i:=t) (by grind);refine Cn G w @y.top (y.row (i:=r) (by grind)) N z ?_;refine⟨kr,p,p,o,o,o,om,p,om,kr,?_⟩;have H:∀rw',rw' 1000000=⟨1,.tab 24 (cy 1000000 (((lc k).set t (lg (lc k) r 0)).set r (lg (lc k) t 0)))⟩->(∀x,rw' (dq 1000000 x)=s.rw _)->TabI rw' _ 1 24 3 _ (cz k m _):=λrw' a O=>(y.swap (by grind) (by grind) a O).1.to (by rw[<- zbe o p];rfl)
 refine az (λ(i:Nat)s=>(s.sl 0=.own _ 1/\s.sl 1=al t/\s.sl 2=al r/\s.sl 3=al c/\s.sl 24=.own _ 1/\s.sl 25=al k/\s.sl 26=al i)/\(i<=k/\TabI s.rw _ 1 24 3 _ (cz k m λf j=>if f<i then e (ua t r f) (ua t c j)else e (ua t r f) j))) (λi=>k-i) 0 ⟨(gE G z),⟨om,H _ (rp G) (λx=>by simp[gr])⟩⟩ ?_;intro i W ⟨u,I⟩;have⟨X,g⟩:=I;generalize ((lc k).set t _).set r _=q at *;have B:lh q=k:=by rw[g.len,d]
 generalize J:(λf j=>if f<i then e _ (ua t c j)else e _ j)=E at *;rcases bf i k with h|h
 have D:=cr (m:=m) (e:=E) h;have l:(i<(k:Int))=True:=bO om;refine Cn u @g.top B l (g.row (i:=i) (by grind)) D ?_;have K:∀j,E i j=e (ua t r i) j:=λj=>by grind
 have L:cz k m (λf j=>if f<i+1 then e (ua t r f) (ua t c j)else e (ua t r f) j)=(cz k m E).set i (((lg (cz k m E) i []).set t (lg (lg (cz k m E) i []) c 0)).set c (lg (lg (cz k m E) i []) t 0)):=by refine(zbc h (by grind) (λj P=>?_) λf j _ _ Q=>?_).symm;rw[zhc om om,znj,dz h (Hw n F P),K,ae (dD i)];grind
 refine⟨h,kr,F,F,n,n,n,om,F,om,kr,ah _ ⟨(gE u (ak h om)),⟨om,?_⟩⟩⟩;rw[L];exact g.set (by grind) (rp u) (rp u) (λx R=>by simp only[gr,R]);obtain rfl:i=k:=om;have l:(i<i)=False:=aX om;refine ox u @g.top B l ?_;refine⟨pT ((g.same gl (λx=>gl)).to ?_) A,?_⟩;rw[<- J];exact dV λf j a _=>ae a;exact zkz
theorem zky:br s k (.tup [])=s.put (n0 k) (.tup []):=by simp[br,leaves,cM,eu,fL]
theorem LM{args lent:M0}{e l k v:Nat}{us:Dm s}{u:Dm K}{b:fG}(h:AT P g c e l (M.map iL) (b.map iL) (.rv (.tup [])))(x:GiveL [(k,v)] args c)(f:TabI s.rw k v e l p M)(y:lh b=lh M)(n:d%1000≠k%1000)(z:∀(S:St)(q:O0),TabI S.rw k v e l q b->q.Perm p->(∀t,t≠d->S.sl t=s.sl t)->(∀j,(j%1000==k%1000)=l0->S.rw j=s.rw j)->K S):nn P g lent w (tS P g lent args (n0 d) (kk s us) (kk K u)):=by
 refine Ec h x f.is f.nd λm a=>?_
 have o:lh m=(b.map iL).length:=by simp[a.length_eq,f.len,y]
 have r:=a.nodup_iff.2 f.nd
 refine⟨n,?_⟩
 rw[zky]
 exact z _ m (⟨⟨mj ..,o,λi B=>sh r B⟩,r⟩) a (λt f=>da _ _ _ _ f)<|λj C=>oy _ _ _ _ _ _ _ C
set_option maxRecDepth 100000 in
theorem Be(r3:Nat)(g:Abs.Good k)(hn:m<=20)(hm:t<=20)(h2:r<=t)(h3:r3<=t)(hW:IW k m t r r3 1 0 e):AC prog 288 [hY (cz m t e)] (.tup [.im (al r3),.im (al ((HJ m t (m+1) e 0 1).natAbs:Nat))]):=by
 refine cA [.tmp 2,.tmp 3] func288 λhl=>?_;have b:=λn=>fw (n:=m) (m:=t) (e:=n);have K:=b e;refine ff @bU K ?_;refine⟨om,om,?_⟩;refine NV gl (λj=>gl) (λ(i:Nat)s=>(s.sl 0=hY _/\s.sl 4=.own 15 1/\s.sl 16=hY _/\s.sl 17=al m/\s.sl 18=al i)/\(i<=m/\TabP s.rw 15 1 24 3 m i ((cz m t e).take i))) (λi=>m-i) (0) (λsX qw B N=>⟨(gE B N),⟨om,qw⟩⟩) ?_;intro i sa ⟨Ha,a5⟩;have⟨hi,W⟩:=a5;rcases bf i m with h|h
 have a6:((i:Int)<(m:Int))=True:=bO om;have a7:=cr (m:=t) (e:=e) h;have a8:(cz m t e).take i++[lg _ i []]=(cz m t e).take (i+1):=(bj [] (om)).symm;have b0:lh ((cz m t e).take i)=i:=by grind
 refine xA Ha @bU K a6 a7 @W.top @ik ?_;exact⟨h,om,om,zdz (d:=26) (vd:=(sa.rw 26).ver+1) (rp @W.top) b0 (λj A=>by simp only[gr,simprocAttr,W.row j A]) (λj A=>by simp only[gr,simprocAttr,W.rest j A]) gl dc dc h (i+1) (λsX qw B N=>⟨(rS B N Ha (ak h om)),⟨om,(a8 ▸ qw)⟩⟩) (om)⟩;obtain rfl:i=m:=om;rw[bK (om)]at W;have b1:=W.done;have Y:((i:Int)<i)=False:=aX om;refine ox Ha @bU K Y<|az (λ((a,n,q,L):Nat×(X0)×O0×Int) s=>(s.sl 4=.own 15 1/\s.sl 7=al L/\s.sl 8=al a)/\((∃l:Nat,IW k i t r r3 l a n/\(L=(l:Int)\/L=-(l:Int)))/\HJ i t (i+1) e 0 1=HJ i t (i+1-a) n a L/\TabI s.rw 15 1 24 3 q (cz i t n))) (λ(a,n,q,L)=>i+1-a) ((0,e,lc i,1)) ⟨(jX Ha),⟨⟨1,hW,.inl rfl⟩,rfl,b1.same gl (λx=>gl)⟩⟩ ?_;intro(a,n,q,L) sb ⟨O,b2⟩;have⟨⟨l,Z,hL⟩,w,hT⟩:=b2;have b3:=Z.an;have b4:=Z.am;have c4:=Z.l;have P:=vG hT;have hf:i+1-a=(i-a)+1:=om;rw[hf]at w;refine iD O @hT.top P<|aa (rP n i t a om om om om) ?_;cases F:th (yV n) a t (i-a)with
 | none =>
   have e1:Vr o0=-1:=rfl;have X:Vu o0=-1:=rfl;have h4:=(Z.stop h2 h3 (Ll b3 b4 F)).1;rw[UD F]at w;have b5:D0.i64.wrap (0-L)=-L:=by rw[aF om om];omega
   rw[w];refine XO O @hT.top P e1 X b5 om h4 ?_;split<;>omega
 | some rc =>
   have⟨r2,c⟩:=rc;have⟨f1,f2,f3,f4,f5⟩:=zns g Z h2 h3 hL F;rw[UE F]at w;have e1:Vr (n0 (r2,c))=(r2:Int):=rfl;have X:Vu (n0 (r2,c))=(c:Int):=rfl;have e3:((r2:Int)<0)=False:=aX om;refine Cn O @hT.top P e1 X e3 ?_;refine LM (BJ n i t a r2 c om om om om f1.2 f2.2) (by repeat (first|exact GiveL.nil|refine GiveL.v ?_|refine GiveL.clo ?_|refine GiveL.own 0 rfl ?_|refine GiveL.own 1 rfl ?_|refine GiveL.ag ?_ ?_)) (hT.same gl (λx=>gl)) (by rw[b,b]) dc λS1 q1 Q c5 s1 w1=>?_;have u4:S1.sl 4=.own 15 1:=by simp[s1,gr,simprocAttr,O]
   have u7:S1.sl 7=al L:=by simp[s1,gr,simprocAttr,O]
   have u8:S1.sl 8=al a:=by simp[s1,gr,simprocAttr,O]
   have G:D0.i64.wrap _=((a+1:Nat):Int):=ak (n:=i) om om;refine nN u4 u7 u8 @Q.top G ?_;have H:∀x j,a<=x->x<i->a<=j->j<t->-2<=piv n a r2 c x j/\piv n a r2 c x j<=2:=λx j i1 i2 j1 j2=>have t1:=nU f1 i1 i2;have t2:=nU f2 j1 j2;f4 _ _ t1.1 t1.2 t2.1 t2.2
   have b7:piv n a r2 c a a=n r2 c:=wS;have a0:bst n i a r2 c L=bar _ a L i:=rfl;rw[a0]at f5 w;have f:a<i:=om;have o:a<t:=om;generalize piv n a r2 c=E at *;have a1:L≠0:=om;have b8:=beq_eq_false_iff_ne.2 a1;have u:lh q1=i:=by rw[Q.len,b]
   refine az (λ(x:Nat)s=>(s.sl 4=.own 15 1/\s.sl 7=al L/\s.sl 8=al a/\s.sl 11=al x)/\((a<x/\x<=i)/\TabI s.rw 15 1 24 3 q1 (cz i t (bar E a L x)))) (λx=>i-x) (a+1) ⟨(fB u4 u7 u8),⟨⟨om,om⟩,(Q.same gl (λx=>gl)).to (dV λi' j _ _=>(ac om).symm)⟩⟩ ?_;intro x sc ⟨Hc,b9⟩;have⟨⟨R,c6⟩,C⟩:=b9;rcases bf x i with p|p
   have S:=bO om;refine nN Hc @C.top u S G ?_;refine az (λ(j:Nat)s=>(s.sl 4=.own 15 1/\s.sl 7=al L/\s.sl 8=al a/\s.sl 11=al x/\s.sl 12=al j)/\((a<j/\j<=t)/\TabI s.rw 15 1 24 3 q1 (cz i t (rC E a L x j)))) (λj=>t-j) (a+1) ⟨(gE Hc G),⟨⟨om,om⟩,(C.same gl (λx=>gl)).to (dV λi' j _ _=>zjr.symm)⟩⟩ ?_;intro j sd ⟨D,c0⟩;have⟨⟨c3,c7⟩,z⟩:=c0;have I:=z.row (i:=x) (by grind);have a2:=z.row (i:=a) (by grind);have J:=cr (m:=t) (e:=rC E a L x j) p;have a3:=cr (m:=t) (e:=rC E a L x j) f;rcases bf j t with A|A
   have U:((j:Int)<(t:Int))=True:=bO om;have v1:lg (lg (cz i t (rC E a L x j)) x []) j 0=E x j:=by rw[dz p A,zqK (ab j)]
   have v2:lg (lg (cz i t (rC E a L x j)) a []) a 0=E a a:=by rw[dz f o,zbF R]
   have v3:lg (lg (cz i t (rC E a L x j)) x []) a 0=E x a:=by rw[dz p o,znp]
   have v4:lg (lg (cz i t (rC E a L x j)) a []) j 0=E a j:=by rw[dz f A,zbF R]
   have m1:=Yd (H x j om p om A) 2 (H a a (ab a) f (ab a) o);have m2:=Yd (H x a om p (ab a) o) 2 (H a j (ab a) f om A);have w1:D0.i64.wrap _=E x j*E a a:=aF om om;have w2:D0.i64.wrap _=E x a*E a j:=aF om om;have w3:D0.i64.wrap _=E x j*E a a-E x a*E a j:=aF om om;have a4:(E x j*E a a-E x a*E a j).tdiv L=crs E a L x j:=rfl;have w4:D0.i64.wrap (crs E a L x j)=crs E a L x j:=by have:=Int.natAbs_tdiv_le_natAbs (E x j*E a a-E x a*E a j) L;exact aF om om
   simp only[↓gp,gq,simprocAttr,gT,D,z.top,u,U,I,a2,J,a3,v1,v2,v3,v4,w1,w2,w3,b8,a4,w4];refine⟨p,p,kr,p,p,p,p,A,f,f,o,o,p,p,o,o,f,f,A,a1,om,kr,ah (j+1) ⟨(gE D (ak A om)),⟨⟨om,om⟩,?_⟩⟩⟩;have V:cz i t (rC E a L x (j+1))=(cz i t (rC E a L x j)).set x ((lg (cz i t (rC E a L x j)) x []).set j (crs E a L x j)):=by rw[vc p];exact dV λi' j' _ _=>(znq om).symm
   rw[V];exact z.set (by grind) (rp D) (rp D) (λy hy=>by simp only[gr,D,hy]);have U:(j<t)=False:=aX om;obtain rfl:j=t:=om;refine XO D @z.top u U I a2 J a3 ?_;refine⟨p,p,p,p,o,om,ah (x+1) ⟨(fB Hc D (ak p om)),⟨⟨om,om⟩,?_⟩⟩⟩;have V:cz i j (bar E a L (x+1))=(cz i j (rC E a L x j)).set x ((lg (cz i j (rC E a L x j)) x []).set a 0):=by rw[vc p];exact dV λi' j' _ h'=>(znr R h').symm
   rw[V];exact z.set (by grind) (rp D) (rp D) (λy hy=>by simp only[gr,D,hy]);have S:((x:Int)<(i:Int))=False:=aX om;obtain rfl:x=i:=om;have I:=C.row (i:=a) (by grind);have J:=cr (m:=t) (e:=bar E a L x) f;have v1:lg (lg (cz x t (bar E a L x)) a []) a 0=n r2 c:=by rw[dz f o,znn (ab a),b7]
   refine xA Hc @C.top u S I J v1 ?_;exact⟨f,f,o,o,ah ((a+1,bar E a L x,q1,n r2 c)) ⟨(fB O Hc G),⟨⟨(n r2 c).natAbs,f5,Int.natAbs_eq _⟩,by grind,C.same gl (λx=>gl)⟩⟩⟩
theorem vH(b:k<=1000)(l:m<=1000):AC prog 330 [al k,al m] (.im (al (Nat.gcd k m:Nat))):=by
 refine cA [.tmp 4] func330 λq=>?_;refine aR<|az (λ(x,y)s=>(s.sl 0=al x/\s.sl 1=al y)/\(Nat.gcd x y=Nat.gcd k m/\x<=1000/\y<=1000)) (λ(x,y)=>y) ((k,m)) ⟨nm,⟨rfl,b,l⟩⟩ ?_;intro(x,y) r ⟨c,d⟩;have⟨e,t,n⟩:=d;rcases tg y with f|f
 subst f;rw[Nat.gcd_zero_right]at e;have o:(0 != 0)=false:=rfl;exact xd3 c o e;have g:((y:Int) != 0)=true:=bne_iff_ne.2 om;have i:(x:Int).tmod y=x%y:=rfl
 have p:=xq x f;have j:D0.i64.wrap _=x%y:=aF om om;have h:(y==0)=false:=beq_eq_false_iff_ne.2 om;refine nN c g i j h ?_;exact⟨kr,om,ah ((y,x%y)) ⟨(fB c i j),⟨by rw[<- e,Nat.gcd_comm x y,Nat.gcd_rec y x,Nat.gcd_comm],n,om⟩⟩⟩
theorem HK(H:k<=900)(I:m<=900)(A:t<=k)(n:t<=m)(D:∀i j,t<=i->i<k->t<=j->j<m->e i j=0\/e i j=1):AC prog 328 [hY (cz k m e),al t] (.tup [.im (al (Vr (th (yV e) t m (k-t)))),.im (al (Vu (th (yV e) t m (k-t))))]):=by
 refine cA [.tmp 4,.tmp 5] func328 λS=>?_;have d:=fw (n:=k) (m:=m) (e:=e);refine aR (aa (rP e k m t H I A n) ?_);refine aR ?_;refine az (λ(a:Nat)s=>(s.sl 0=hY (cz k m e)/\s.sl 1=al t/\s.sl 6=al (Vr (th (yV e) t m (k-t)))/\s.sl 7=al (Vu (th (yV e) t m (k-t)))/\s.sl 8=al (t+a:Nat))/\(t+a<=k)) (λa=>k-a) (0) ⟨nm,om⟩ ?_;intro a U ⟨y,J⟩;rcases bf (t+a) k with b|b
 have l:(((t+a:Nat):Int)<(k:Int))=True:=bO om;have o:=cr (m:=m) (e:=e) b;refine ox y @bU d l ?_;refine az (λ(u:Nat)s=>(s.sl 0=hY (cz k m e)/\s.sl 1=al t/\s.sl 6=al (Vr (th (yV e) t m (k-t)))/\s.sl 7=al (Vu (th (yV e) t m (k-t)))/\s.sl 8=al (t+a:Nat)/\s.sl 9=al (t+u:Nat))/\(t+u<=m)) (λu=>m-u) (0) ⟨(jX y),om⟩ ?_;intro u V ⟨p,K⟩;rcases bf (t+u) m with h|h
 have E:=dz (e:=e) b h;have f:(((t+u:Nat):Int)<(m:Int))=True:=bO om;have z:D0.i64.wrap (((t+u:Nat):Int)+1)=((t+(u+1):Nat):Int):=ak h om;rcases D _ _ om b om h with B|B
 refine xA p @bU d o f E B ?_;exact⟨b,b,kr,b,b,h,ah (u+1) ⟨(gE p z),om⟩⟩;cases g:th (yV e) t m (k-t)with
 | none =>have:=Ll A n g _ _ (show t<=t+a by omega) b (show t<=t+u by omega) h;omega
 | some L =>
   obtain⟨r,c⟩:=L;obtain⟨q,w,M,_⟩:=zdG A n g;have N:e r c=1:=(D r c q.1 q.2 w.1 w.2).resolve_left M;have F:Vr (th (yV e) t m (k-t))=(r:Int):=by rw[g];rfl
   have G:Vu (th (yV e) t m (k-t))=(c:Int):=by rw[g];rfl
   have O:Vr (n0 (r,c))=(r:Int):=rfl;have P:Vu (n0 (r,c))=(c:Int):=rfl;have C:=dz (e:=e) q.2 w.2;have x:=cr (m:=m) (e:=e) q.2;have Q:((1:Int) != 0)=true:=rfl;have R:((1:Int)<1)=False:=aX om;simp -dsimp only[↓gp,gq,simprocAttr,gT,p,bU,d,o,f,E,B,F,G,O,P,Q,R,C,x,N];exact⟨b,b,kr,b,b,h,b,b,h,q.2,q.2,w.2,w.2,ah (u+1) ⟨(rS p F G z),om⟩⟩
 have f:(((t+u:Nat):Int)<(m:Int))=False:=aX om;have z:D0.i64.wrap (((t+a:Nat):Int)+1)=((t+(a+1):Nat):Int):=ak b om;refine nN p @bU d o f ?_;exact⟨b,b,ah (a+1) ⟨(fB y p z),om⟩⟩;have l:(((t+a:Nat):Int)<(k:Int))=False:=aX om;exact xd4 y @bU d l
set_option maxRecDepth 100000 in
theorem FJ(hn:k<=900)(hm:m<=900)(c:t<k)(l:t<m)(h1:e t t=1)(Q:HL k m e) :
 AT prog 329 [.own 1000000 1,al t,al 2] 24 3 ((cz k m e).map iL) ((cz k m (clq e k m t)).map iL) (.rv (.im (aU k0))):=by
 have b:=λe=>fw (n:=k) (m:=m) (e:=e)
 refine AT.goI (rs:=[.tmp 6]) tk mixed func329 rfl rfl rfl kr (by rw[b,b]) λhl s hs a0 ht=>?_
 rw[b]at ht ⊢
 have f:∀i,i<k->lg (lc k) i 0=i:=λi hi=>by simp[lg,hi]
 have o:lh (lc k)=k:=bp
 have R:=ak c om
 refine iD hs a0 R ?_
 refine az (λ(i:Nat)s=>(s.sl 0=.own 1000000 1/\s.sl 1=al t/\s.sl 2=al 2/\s.sl 7=.v (.bool k0)/\s.sl 8=al i)/\((t<i/\i<=k)/\TabI s.rw 1000000 1 24 3 (lc k) (cz k m (Kv e t i)))) (λi=>k-i) (t+1) ⟨(gE hs R),⟨⟨om,om⟩,(ht.same gl (λx=>gl)).to (dV λi j _ _=>(ac om).symm)⟩⟩ ?_
 intro i sa ⟨Y,a4⟩
 have⟨⟨S,b4⟩,D⟩:=a4
 rcases bf i k with h|h
 have U:((i:Int)<(k:Int))=True:=bO om;have F:=D.row (i:=i) (by rw[b];exact h);have a1:=D.row (i:=t) (by rw[b];exact c);rw[f i h]at F;rw[f t c]at a1;have M:=cr (m:=m) (e:=Kv e t i) h;have a5:=cr (m:=m) (e:=Kv e t i) c;have v1:lg (lg (cz k m (Kv e t i)) i []) t 0=e i t:=by rw[dz h l,znu (ab i)]
 have v2:lg (lg (cz k m (Kv e t i)) t []) t 0=1:=by rw[dz c l,OH (ab t),h1]
 have V:=Q i t h l;have H:(e i t).tdiv 1=e i t:=Int.tdiv_one _;have I:D0.i64.wrap (e i t)=e i t:=aF om om;simp only[↓gp,gq,simprocAttr,gT,Y,D.top,o,U,F,a1,f i h,f t c,M,a5,v1,v2,H,I]
 repeat refine⟨by first|omega|assumption|kernel_rfl,?_⟩
 refine az (λ(j:Nat)s=>(s.sl 0=.own 1000000 1/\s.sl 1=al t/\s.sl 2=al 2/\s.sl 7=.v (.bool k0)/\s.sl 8=al i/\s.sl 9=al (e i t)/\s.sl 10=al j)/\(((t<=j/\j<=m)/\(e i t=0->j=t))/\TabI s.rw 1000000 1 24 3 (lc k) (cz k m (UF e t i j)))) (λj=>m-j) (t) ⟨(fB Y H I),⟨⟨⟨om,om⟩,λ_=>rfl⟩,(D.same gl (λx=>gl)).to (dV λp w _ _=>zbH.symm)⟩⟩ ?_;intro j sb ⟨K,a6⟩;have⟨⟨⟨N,a7⟩,a8⟩,d⟩:=a6;have g:=d.row (i:=i) (by rw[b];exact h);have J:=d.row (i:=t) (by rw[b];exact c);rw[f i h]at g;rw[f t c]at J;have a:=cr (m:=m) (e:=UF e t i j) h;have O:=cr (m:=m) (e:=UF e t i j) c;by_cases P:j<m/\e i t=1
 have⟨q,A⟩:=P;have u:((j:Int)<(m:Int))=True:=bO om;have B:(e i t != 0)=true:=by rw[A];rfl
 have v3:lg (lg (cz k m (UF e t i j)) i []) j 0=e i j:=by rw[dz h q,ztS (ab j)]
 have v4:lg (lg (cz k m (UF e t i j)) t []) j 0=e t j:=by rw[dz c q,ztR S]
 have s1:=Q i j h q;have s2:=Q t j c q;have w1:D0.i64.wrap (e i t*e t j)=e i t*e t j:=by rw[A];exact aF om om
 have w2:D0.i64.wrap (e i j-e i t*e t j)=e i j-e i t*e t j:=by rw[A];exact aF om om
 simp only[↓gp,gq,simprocAttr,gT,K,d.top,o,u,B,g,J,f i h,f t c,a,O,v3,v4,w1,w2]
 repeat refine⟨by first|omega|assumption|kernel_rfl,?_⟩
 refine aa (oS _ 2 om) ?_;simp only[↓gp,gq,simprocAttr,gT,K,d.top,o,u,B,g,J,f i h,f t c,a,O,v3,v4,w1,w2];have e2:(e i j-e i t*e t j)%2=(e i j+e i t*e t j)%2:=om;refine⟨om,kr,ah (j+1) ⟨(gE K (ak q om)),⟨⟨⟨om,om⟩,λC=>om⟩,?_⟩⟩⟩;have W:cz k m (UF e t i (j+1))=(cz k m (UF e t i j)).set i ((lg (cz k m (UF e t i j)) i []).set j ((e i j-e i t*e t j)%2)):=by rw[vc h,e2];exact dV λp w _ _=>(zqO N).symm
 rw[W];exact d.set (by rw[b];exact h) (rp K) (by rw[f i h];simp only[gr,simprocAttr,K]) (λx hx=>by rw[f i h]at hx;simp only[gr,simprocAttr,K,hx])
 have r:∀p w,w<m->UF e t i j p w=Kv e t (i+1) p w:=λp w Z=>by rcases V with C|C;rw[a8 C,zbH];exact znw Q h C Z;obtain rfl:j=m:=om;exact zqP S Z
 have v5:lg (lg (cz k m (UF e t i j)) i []) t 0=0:=by rw[dz h l,r i t l];exact zhE h1 V S (dD i)
 have X:(decide ((j:Int)<(m:Int))=l0\/(decide ((j:Int)<(m:Int))=k0/\(e i t != 0)=l0)):=by grind
 rcases X with q|⟨q,h3⟩
 have u:=aX (of_decide_eq_false q);simp only[↓gp,gq,simprocAttr,gT,K,d.top,o,u,g,J,f i h,f t c,a,O,v5];exact⟨h,h,h,h,l,l,ah (i+1) ⟨(fB Y K (ak h om)),⟨⟨om,om⟩,(d.same gl (λx=>gl)).to (dV λp w _ Z=>r p w Z)⟩⟩⟩
 have u:=bO (cH q);simp only[↓gp,gq,simprocAttr,gT,K,d.top,o,u,h3,g,J,f i h,f t c,a,O,v5];exact⟨h,h,h,h,l,l,ah (i+1) ⟨(fB Y K (ak h om)),⟨⟨om,om⟩,(d.same gl (λx=>gl)).to (dV λp w _ Z=>r p w Z)⟩⟩⟩
 obtain rfl:i=k:=om;have U:((i:Int)<(i:Int))=False:=aX om;refine nN Y @D.top o U R ?_;have eA:∀j,Kv e t i t j=e t j:=λj=>OH (ab t);have eC:=λp b0 a2=>zhE h1 (Q p t a2 l) b0 a2;have eB:HL i m (Kv e t i):=zbI Q;have b1:clq e i m t=FK (Kv e t i) t m:=rfl;rw[b1];generalize Kv e t i=E at *;refine az (λ(j:Nat)s=>(s.sl 0=.own 1000000 1/\s.sl 1=al t/\s.sl 2=al 2/\s.sl 7=.v (.bool k0)/\s.sl 11=al j)/\((t<j/\j<=m)/\TabI s.rw 1000000 1 24 3 (lc i) (cz i m (FK E t j)))) (λj=>m-j) (t+1) ⟨(jX Y),⟨⟨om,om⟩,(D.same gl (λx=>gl)).to (dV λi j _ _=>znA.symm)⟩⟩ ?_;intro j sc ⟨Hc,b2⟩;have⟨⟨N,a7⟩,d⟩:=b2;have F:=d.row (i:=t) (by rw[b];exact c);rw[f t c]at F;have M:=cr (m:=m) (e:=FK E t j) c;rcases bf j m with q|q
 have u:((j:Int)<(m:Int))=True:=bO om;have v1:lg (lg (cz i m (FK E t j)) t []) j 0=e t j:=by rw[dz c q,znz (ab j),eA]
 have v2:lg (lg (cz i m (FK E t j)) t []) t 0=1:=by rw[dz c l,zd9 (ab t),eA,h1]
 have a3:=Q t j c q;have H:(e t j).tdiv 1=e t j:=Int.tdiv_one _;have I:D0.i64.wrap (e t j)=e t j:=aF om om;simp only[↓gp,gq,simprocAttr,gT,Hc,d.top,o,u,F,f t c,M,v1,v2,H,I]
 repeat refine⟨by first|omega|assumption|kernel_rfl,?_⟩
 refine az (λ(n:Nat)s=>(s.sl 0=.own 1000000 1/\s.sl 1=al t/\s.sl 2=al 2/\s.sl 7=.v (.bool k0)/\s.sl 11=al j/\s.sl 12=al (e t j)/\s.sl 13=al n)/\(((t<=n/\n<=i)/\(e t j=0->n=t))/\TabI s.rw 1000000 1 24 3 (lc i) (cz i m (FK E t (if n=t then j else j+1))))) (λn=>i-n) (t) ⟨(fB Hc H I),⟨⟨⟨om,om⟩,λ_=>rfl⟩,by rwa[ae rfl]⟩⟩ ?_;intro n sd ⟨L,b3⟩;have⟨⟨⟨b5,b6⟩,b7⟩,y⟩:=b3;by_cases P:n<i/\e t j=1
 have⟨h,A⟩:=P;have G:((n:Int)<(i:Int))=True:=bO om;have B:(e t j != 0)=true:=by rw[A];rfl
 have g:=y.row (i:=n) (by rw[b];exact h);rw[f n h]at g;have a:=cr (m:=m) (e:=FK E t (if n=t then j else j+1)) h;have v3:lg (lg (cz i m (FK E t (if n=t then j else j+1))) n []) j 0=E n j:=by rw[dz h q];split;rename_i z;rw[z,znz (ab j)];rename_i z;exact WG z
 have v4:lg (lg (cz i m (FK E t (if n=t then j else j+1))) n []) t 0=E n t:=by rw[dz h l,zd9 (ab t)]
 have s1:=eB n j h q;have s2:(n=t/\E n t=1/\E n j=1)\/(t<n/\E n t=0):=by grind
 have w1:D0.i64.wrap (e t j*E n t)=E n t:=by rw[A,jL];exact aF om om
 have w2:D0.i64.wrap (E n j-E n t)=E n j-E n t:=aF om om;simp only[↓gp,gq,simprocAttr,gT,L,y.top,o,G,B,g,f n h,a,v3,v4,w1,w2]
 repeat refine⟨by first|omega|assumption|kernel_rfl,?_⟩
 refine aa (oS _ 2 om) ?_;simp only[↓gp,gq,simprocAttr,gT,L,y.top,o,G,B,g,f n h,a,v3,v4,w1,w2];have e2:(E n j-E n t)%2=if n=t then 0 else E n j:=by split<;>omega
 refine⟨q,om,kr,ah (n+1) ⟨(gE L (ak h om)),⟨⟨⟨om,om⟩,λC=>om⟩,?_⟩⟩⟩;have W:cz i m (FK E t (if n+1=t then j else j+1))=(cz i m (FK E t (if n=t then j else j+1))).set n ((lg (cz i m (FK E t (if n=t then j else j+1))) n []).set j ((E n j-E n t)%2)):=by rw[vc h,e2,ac (show ¬n+1=t by omega)];by_cases z:n=t;subst z;rw[ae rfl,ae rfl];exact dV λp w _ _=>(zqQ N).symm;rw[ac z,ac z];exact dV λp w _ _=>(zjt (WG z)).symm
 rw[W];exact y.set (by rw[b];exact h) (rp L) (by rw[f n h];simp only[gr,simprocAttr,L]) (λx hx=>by rw[f n h]at hx;simp only[gr,simprocAttr,L,hx])
 have r:∀p w,FK E t (if n=t then j else j+1) p w=FK E t (j+1) p w:=λp w=>by
  split;rename_i z;rcases a3 with C|C
  exact znB (by rw[eA,C]);omega;rfl
 have g:=y.row (i:=t) (by rw[b];exact c);rw[f t c]at g;have a:=cr (m:=m) (e:=FK E t (if n=t then j else j+1)) c;have v5:lg (lg (cz i m (FK E t (if n=t then j else j+1))) t []) j 0=0:=by rw[dz c q,r];exact ae ⟨rfl,N,dD j⟩
 rcases bf n i with h|h
 have G:=bO om;have B:(e t j != 0)=false:=by grind
 simp only[↓gp,gq,simprocAttr,gT,L,y.top,o,G,B,g,f t c,a,v5];exact⟨c,c,q,q,ah (j+1) ⟨(fB Hc L (ak q om)),⟨⟨om,om⟩,(y.same gl (λx=>gl)).to (dV λp w _ _=>r p w)⟩⟩⟩
 have G:((n:Int)<(i:Int))=False:=aX om;refine XO L @y.top o G g (f t c) a v5 ?_;exact⟨c,c,q,q,ah (j+1) ⟨(fB Hc L (ak q om)),⟨⟨om,om⟩,(y.same gl (λx=>gl)).to (dV λp w _ _=>r p w)⟩⟩⟩
 have u:((j:Int)<(m:Int))=False:=aX om;obtain rfl:j=m:=om;refine xA Hc @d.top o u F (f t c) M ?_;refine⟨c,c,pT (d.same gl (λx=>gl)) (List.Perm.refl _)⟩
theorem zjs(e:X0):nw n (cz k m e)=cz k m λi j=>e i j%n:=by simp[nw,cz]
theorem ztP(a:d=1\/d=2){b:Bool}(c:x=if b then 1 else 0):((Nat.gcd d x.toNat:Nat):Int)=if b then 1 else(d:Int):=by rcases a with rfl|rfl<;>cases b<;>simp[c]
theorem zqM{b t N i j:Nat}(e:t=1\/t=2)(c:i<=j)(d:j<N):((Nat.gcd (lg (AN b t N) i 0).toNat (lg (AN b t N) j 0).toNat:Nat):Int)=lg (AN b t N) i 0/\(lg (AN b t N) i 0=1\/(AN b t N).getD i 0=2)/\(lg (AN b t N) j 0=1\/(AN b t N).getD j 0=2):=by rw[OI<|om,OI d];by_cases a:i<b;simp[a];omega;grind
theorem zbG:l.set d (lg l d 0)=l:=by refine bE sp λj b a=>?_;grind
theorem ztQ{ T:gg}{rw:S0}{a:PV->Prop}{e:TypeId}(fr:Bool)(c:M0)(x y:Operand)(b:(T e).size=1):tT T rw s.ev (.sli e) 1 (.sl fr 1 c) o0 (n0 x) (n0 y) a=ya (s.ev x) (kk λh=>ya (s.ev y) (kk λm=>0<=h/\h<=m/\m<=(lh c:Int)/\a (.sl fr 1 (c.take h.toNat)))):=by simp[tT,re,rZ,ya,kk];grind
set_option maxRecDepth 100000 in
theorem Db(c:Nat)(hn:k<=20)(hm:m<=20)(G:0<k)(ht:t=1\/t=2)(hr:r<=k/\r<=m)(h2:c<=m)(hK:K2 (λi j=>e i j%(t:Int)) 0 k m c):AC prog 289 [hY (cz k m e),al r,al t] (.im (aE (AN c t r))):=by
 refine cA [.tmp 6] func289 λhl=>?_;have a:=λZ=>fw (n:=k) (m:=m) (e:=Z);have b4:t=1->∀i j,e i j%(t:Int)=0:=λh i j=>by grind
 have E:=uS (cz k m e) t om (by rw[a];omega) (λi hi=>by rw[a]at hi;rw[cr hi];omega);rw[zjs]at E;have H:=MW.start hK ht;generalize hE:(λi j=>e i j%(t:Int))=e1 at *;have a0:=a e1;refine aR ?_;refine HI E (λi hi=>gl) λS f d1 p w1=>?_;rw[a0]at f;have u1:S.sl 1=al r:=by rw[p 1 dc];rfl
 have u2:S.sl 2=al t:=by rw[p 2 dc];rfl
 have b5:=f.row (i:=0) (om);have b6:=cr (m:=m) (e:=e1) G;have b7:lh (lc k)=k:=bp;generalize hN:min k m=N at *;have a1:(if m<k then(m:Int)else(k:Int))=(N:Int):=om
 simp only[↓gp,gq,simprocAttr,gT,d1,u1,u2,f.top,b7,b5,b6,a1];refine⟨om,G,?_⟩;refine az (λ((n,Z,q):Nat×(X0)×O0) s=>(s.sl 1=al r/\s.sl 2=al t/\s.sl 7=.own 19 1/\s.sl 8=al N/\s.sl 9=al n)/\((n<=N/\(∃b,MW k m c b n Z)/\(t=1->∀i j,i<k->j<m->Z i j=0))/\TabI s.rw 19 1 24 3 q (cz k m Z))) (λ(n,Z,q)=>N-n) ((0,e1,lc k)) ⟨(by and_intros<;>(first|(simp only[gr,simprocAttr,d1,u1,u2,a1])|assumption|rfl)),⟨⟨om,⟨0,H⟩,λh i j _ _=>by grind⟩,f.same gl (λx=>gl)⟩⟩ ?_;intro(n,Z,q) sa ⟨U,b8⟩;have⟨⟨d5,⟨b,z⟩,a2⟩,hT⟩:=b8;rcases bf n N with hk|hk
 have I:=bO om;refine ff U I ?_;refine az (λ(x:Nat)s=>(s.sl 1=al r/\s.sl 2=al t/\s.sl 7=.own 19 1/\s.sl 8=al N/\s.sl 9=al n)/\(TabI s.rw 19 1 24 3 q (cz k m Z))) (λx=>0) (0) ⟨(jX U),hT.same gl (λx=>gl)⟩ ?_;intro x sb ⟨A,b9⟩;have d:=b9;have J:=vG d;refine iD A @d.top J ?_;refine aa (HK Z k m n om om om om λi j _ i2 _ j2=>z.bt i j i2 j2) ?_;cases a3:th (yV Z) n m (k-n)with
 | none =>
   have K:Vr o0=-1:=rfl;have L:Vu o0=-1:=rfl;have hz:∀i j,b<=i->i<k->b<=j->j<m->Z i j=0:=by rcases z.zr with V|V;subst V;exact Ll om om a3;exact V
   refine nN A @d.top J K L ?_;exact ah ((n+1,Z,q)) ⟨(fB U A (ak hk om)),⟨⟨om,⟨b,z.skip hz⟩,a2⟩,d.same gl (λx=>gl)⟩⟩
 | some rc =>
   have⟨x,y⟩:=rc;have⟨f1,f2,f3,_⟩:=zdG om om a3;have V:Z x y=1:=(z.bt x y f1.2 f2.2).resolve_left f3;have c0:b=n:=by rcases z.zr with B|B;exact B;have:=z.ba;grind
   subst c0;have c3:t=2:=ht.resolve_left λB=>f3 (a2 B x y f1.2 f2.2);subst c3;have K:Vr (n0 (x,y))=(x:Int):=rfl;have L:Vu (n0 (x,y))=(y:Int):=rfl;have c4:((x:Int)<0)=False:=aX om;refine Cn A @d.top J K L c4 ?_;refine LM (BJ Z k m b x y om om om om f1.2 f2.2) (by repeat (first|exact GiveL.nil|refine GiveL.v ?_|refine GiveL.clo ?_|refine GiveL.own 0 rfl ?_|refine GiveL.own 1 rfl ?_|refine GiveL.ag ?_ ?_)) (d.same gl (λx=>gl)) (by rw[a,a]) dc λS1 q1 a4 M p w1=>?_;have y1:S1.sl 1=al r:=by simp[p,gr,simprocAttr,A]
   have y2:S1.sl 2=al (2:Nat):=by simp[p,gr,simprocAttr,A]
   have y7:S1.sl 7=.own 19 1:=by simp[p,gr,simprocAttr,A]
   have y8:S1.sl 8=al N:=by simp[p,gr,simprocAttr,A]
   have y9:S1.sl 9=al b:=by simp[p,gr,simprocAttr,A]
   clear p w1;refine Cn y1 y2 y7 y8 y9 @a4.top ?_;refine zd4 (FJ _ k m b om om om om (by rw[wS,V]) (zbJ z.bt om om)) (by repeat (first|exact GiveL.nil|refine GiveL.v ?_|refine GiveL.clo ?_|refine GiveL.own 0 rfl ?_|refine GiveL.own 1 rfl ?_|refine GiveL.ag ?_ ?_)) (a4.same gl (λx=>gl)) (by rw[a,a]) dc λS2 q2 a5 d6 d2 W w2=>?_;have z1:S2.sl 1=al r:=by simp[W,gr,simprocAttr,y1]
   have z2:S2.sl 2=al (2:Nat):=by simp[W,gr,simprocAttr,y2]
   have z7:S2.sl 7=.own 19 1:=by simp[W,gr,simprocAttr,y7]
   have z8:S2.sl 8=al N:=by simp[W,gr,simprocAttr,y8]
   have z9:S2.sl 9=al b:=by simp[W,gr,simprocAttr,y9]
   clear W w2;simp only[↓gp,gq,simprocAttr,gT,d2,z1,z2,z7,z8,z9,a5.top];exact ah ((b+1,clq _ k m b,q2)) ⟨(by and_intros<;>(first|(simp only[gr,simprocAttr,U,d2,z1,z2,z7,z8,z9,ak hk om])|assumption|rfl)),⟨⟨om,⟨b+1,z.step f1 f2 V⟩⟩,a5.same gl (λx=>gl)⟩⟩
 obtain rfl:n=N:=om;have I:((n:Int)<(n:Int))=False:=aX om;subst hN;have⟨_,c5⟩:=z.fin h2;generalize min k m=N at *;have hz:ld N 0=pz (AN c t N) (ld N 0) 0:=(qB _ _).symm;have O:lh (AN c t N)=(ld N (0:Int)).length:=by rw[Dc,cX]
 have a6:lh (ld N (0:Int))=N:=cX;have a7:∀n,lh (pz (AN c t N) (ld N 0) n)=N:=λn=>by rw[mm O,cX]
 refine ff U I ?_;refine⟨om,om,?_⟩;refine az (λ((n,v):Nat×Nat) s=>(s.sl 1=al r/\s.sl 2=al t/\s.sl 7=.own 19 1/\s.sl 8=al N/\s.sl 12=.own 50 v/\s.rw 50=⟨v,.sli 3 1 l0 (iL (pz (AN c t N) (ld N 0) n))⟩/\s.sl 52=al N/\s.sl 53=al n)/\(n<=N/\TabI s.rw 19 1 24 3 q (cz k m Z))) (λ(n,v)=>N-n) ((0,(sa.rw 50).ver+1)) ⟨(fB U a6 hz.symm),⟨om,hT.same gl (λx=>gl)⟩⟩ ?_;intro(n,v) sc ⟨X,c6⟩;have⟨d9,d⟩:=c6;rcases bf n N with h|h
 have C:=bO om;have o:=d.row (i:=n) (by rw[a];omega);have a8:=cr (m:=m) (e:=Z) (show n<k by omega);have vk:=dz (n:=k) (m:=m) (e:=Z) (i:=n) (j:=n) om om;have F:lh q=k:=by rw[d.len,a]
 have P:=c5 n h;have c7:Z n n=((Z n n).toNat:Int):=om
 have b0:(Z n n).toNat<=1000:=om
 have g:=vH t _ om b0;rw[<- c7,ztP ht (b:=decide (n<c)) (by rw[P];simp)]at g;have c8:(if(decide (n<c))=k0 then(1:Int)else(t:Int))=lg (AN c t N) n 0:=by rw[OI h];simp
 rw[c8]at g;refine XO X C a7 @d.top o a8 vk F ?_;refine⟨om,om,om,om,aa g ?_⟩;refine XO X C a7 @d.top o a8 vk F ?_;have H:=tF O (by rw[cX];exact h);exact⟨h,ah ((n+1,v)) ⟨(rS X X (ak h om) H),⟨om,d.same gl (λx=>gl)⟩⟩⟩;obtain rfl:n=N:=om;have C:((n:Int)<(n:Int))=False:=aX om;have b1:=by have:=tE O;rwa [cX]at this
 have l:=Dc c t n;refine ox X C b1 l ?_;refine az (λ((i,w):Nat×Nat) s=>(s.sl 1=al r/\s.sl 2=al t/\s.sl 8=al n/\s.sl 12=.own 50 w/\s.rw 50=⟨w,.sli 3 1 l0 (iL (AN c t n))⟩/\s.sl 70=al n/\s.sl 71=al i)/\(i<=n)) (λ(i,w)=>n-i) ((0,v)) ⟨(fB X b1 l),om⟩ ?_;intro(i,w) sd ⟨Hd,e2⟩;rcases bf i n with h3|h3
 have Q:=bO om;have R:=ak h3 om;refine iD Hd Q R ?_;refine az (λ((j,u):Nat×Nat) s=>(s.sl 1=al r/\s.sl 2=al t/\s.sl 8=al n/\s.sl 12=.own 50 u/\s.rw 50=⟨u,.sli 3 1 l0 (iL (AN c t n))⟩/\s.sl 70=al n/\s.sl 71=al i/\s.sl 14=al i/\s.sl 15=al j)/\(i<j/\j<=n)) (λ(j,u)=>n-j) ((i+1,w)) ⟨(gE Hd R),⟨om,om⟩⟩ ?_;intro(j,u) se ⟨Y,c9⟩;have⟨d0,e3⟩:=c9;rcases bf j n with B|B
 have D:((j:Int)<(n:Int))=True:=bO om;have⟨p1,p2,p3⟩:=zqM (b:=c) ht (dY d0) B;have g:=vH (lg (AN c t n) i 0).toNat (lg (AN c t n) j 0).toNat om om;rw[p1,BH om,BH om]at g;refine iD Y D l ?_;have M:(lg (AN c t n) i 0).tdiv _=1:=Int.tdiv_self om;have d3:(lg (AN c t n) i 0==0)=false:=beq_eq_false_iff_ne.2 om;have b2:D0.i64.wrap (1*(AN c t n).getD j 0)=lg (AN c t n) j 0:=by rw[jL];exact aF om om
 have b3:D0.i64.wrap 1=1:=rfl;refine⟨kr,om,om,om,aa g ?_⟩;refine XO Y D l M d3 b2 b3 @zbG ?_;exact⟨kr,om,om,om,om,om,kr,om,om,ah ((j+1,u)) ⟨(xc7 Y Y (ak B om) M b2 b3 @zbG),⟨om,om⟩⟩⟩;have D:((j:Int)<(n:Int))=False:=aX om;refine iD Y D l ?_;exact ah ((i+1,u)) ⟨(fB Hd Y R),om⟩;have Q:((i:Int)<(n:Int))=False:=aX om;have o:r<=n:=om;have d4:=znC (b:=c) (t:=t) o;refine xA Hd Q l @ztQ @dB @Vx d4 ?_;exact⟨o,rfl,⟨_,rfl⟩,fS⟩
theorem HN:∀{i n:Nat},i<=n->zk e k i<=zk e k n:=by
 intro i n h;induction h with
 | refl=>simp
 | step _ a=>exact aJ a<|kF _ _
theorem OK(A:k<=900)(B:m<=900)(c:0<k)(q:∀j,j<m->zk e j k<=6):AC prog 339 [hY (cz k m e)] (.im (aU k0)):=by
 refine cA [.tmp 2] func339 λC=>?_;have a:=fw (n:=k) (m:=m) (e:=e);have g:=cr (m:=m) (e:=e) c;refine aR ?_;refine az (λ(j:Nat)s=>(s.sl 0=hY _/\s.sl 3=al j)/\(j<=m)) (λj=>m-j) 0 ⟨nm,om⟩ ?_;intro j D ⟨o,u⟩;rcases bf j m with d|d
 have f:=bO om;refine nN o @bU a g f ?_;refine⟨om,c,?_⟩;refine az (λi s=>(s.sl 0=hY _/\s.sl 3=al j/\s.sl 4=al (zk e j i)/\s.sl 5=al i)/\(i<=k)) (λi=>k-i) 0 ⟨(jX o),om⟩ ?_;intro i E ⟨h,p⟩;have w:=aJ (HN e j p)<|q j d;rcases bf i k with n|n
 have b:(i<(k:Int))=True:=bO om;have r:=dz (e:=e) n d;have l:=cr (m:=m) (e:=e) n;have x:=aJ (HN e j<|show i+1<=k by omega)<|q j d;have y:zk e j (i+1)=zk e j i+(e i j).natAbs:=rfl;have t:D0.i64.wrap (((zk e j i):Int)+((e i j).natAbs))=((zk e j (i+1):Nat)):=by rw[aF om om];rfl
 refine Cn h @bU a b r l ?_;refine⟨n,d,d,aa (qo _ om om) ?_⟩;refine xA h @bU a b r l t ?_;exact ah _ ⟨(fB h (ak n om) t),om⟩;have b:(i<k)=False:=aX om;have z:(6<((zk e j i):Int))=False:=aX om;refine nN h @bU a b z ?_;exact ah _ ⟨(fB o h<|ak d om),om⟩;have f:(j<m)=False:=aX om;refine nN o @bU a g f ?_;omega
theorem OJ(u:Nat)(g:Abs.Good k)(C:m<=20)(D:t<=20)(y:r<=t)(z:u<=t)(A:SWq k m t r u 0 e)(E:∀i j,i<m->j<t->-1<=e i j/\e i j<=1)(F:∀j,j<t->zk e j m<=6):AC prog 305 [hY (cz m t e)] (.fr 3 1 (iL (ld r 1++ld (u-r) 2))):=by
 refine cA [.tmp 2] func305 λM=>?_;have a:=fw (n:=m) (m:=t) (e:=e);refine aR ?_;refine az (λ(i:Nat)s=>(s.sl 0=hY _/\s.sl 3=al i)/\(i<=m)) (λi=>m-i) 0 ⟨nm,om⟩ ?_;intro i N ⟨h,G⟩;rcases bf i m with b|b
 have f:((i:Int)<m)=True:=bO om;have c:=cr (m:=t) (e:=e) b;have w:=cr (m:=t) (e:=e) (show 0<m by omega);have x:((t:Int) != t)=false:=sp;have o:(20<(t:Int))=False:=aX om;refine XO h @bU a f c w x o ?_;refine⟨kr,b,om,om,b,?_⟩;refine az (λ(j:Nat)s=>(s.sl 0=hY _/\s.sl 3=al i/\s.sl 4=al j)/\(j<=t)) (λj=>t-j) 0 ⟨(jX h),om⟩ ?_;intro j O ⟨p,H⟩;rcases bf j t with q|q
 have d:((j:Int)<t)=True:=bO om;have B:=dz (e:=e) b q;have I:=E i j b q;refine Cn p @bU a c d B ?_;refine⟨b,b,b,b,q,aa (fe _ _ 1) ?_⟩;have J:(decide (-1<=e i j)&&decide (e i j<=1))=true:=by grind
 refine xA p @bU a c d B J ?_;exact ah _ ⟨(gE p (ak q om)),om⟩;have d:(j<t)=False:=aX om;refine nN p @bU a c d ?_;exact⟨b,b,ah _ ⟨(fB h p (ak b om)),om⟩⟩;have f:(i<m)=False:=aX om;have l:(20<(m:Int))=False:=aX om;refine nN h @bU a f l ?_;refine⟨λn=>?_,λn=>?_⟩;have n:=beq_eq_false_iff_ne.1 n;refine aa (OK e m t om om om F)<|cZ h (aa (JY e k m t r u g C D y z A) ?_);exact mg h;have n:=beq_iff_eq.1 n;have⟨K,L⟩:=A.stop y z λP Q _ _ _ _=>om;rw[K,L];rfl
theorem Dd(n:k<=20):AC prog 358 [hY (cz k m e)] (.im (aU k0)):=by
 refine cA [.tmp 2] func358 λl=>?_;have a:=fw (n:=k) (m:=m) (e:=e);refine ff @bU a ?_;refine az (λ(i:Nat)s=>(s.sl 0=hY (cz k m e)/\s.sl 5=hY (cz k m e)/\s.sl 6=al k/\s.sl 7=al i)/\(i<=k)) (λi=>k-i) (0) ⟨nm,om⟩ ?_;intro i o ⟨c,j⟩;rcases bf i k with h|h
 have b:((i:Int)<(k:Int))=True:=bO om;have d:=cr (m:=m) (e:=e) h;have f:=cr (m:=m) (e:=e) (show 0<k by omega);have g:((m:Int) != (m:Int))=false:=sp;refine xA c @bU a b d f g ?_;exact⟨h,om,om,ah (i+1) ⟨(gE c (ak h om)),om⟩⟩;have b:((i:Int)<(k:Int))=False:=aX om;exact xd4 c @bU a b
theorem zl(e:X0)(n m:Nat)(r:n<=20)(B:m<=20)(t:∀i j,i<n->j<m->-1<=e i j/\e i j<=1):AC prog 325 [hY (cz n m e),al 20,al 1] (.im (aU k0)):=by
 refine cA [.tmp 6] func325 λC=>?_;have a:=fw (n:=n) (m:=m) (e:=e);have g:(20<(n:Int))=False:=aX om;refine iD @bU a g (aa (Dd e n m r) ?_);by_cases u:n=0;subst u;refine ff @bU a ?_;refine az (λi s=>(s.sl 0=hY _/\s.sl 2=al 1/\s.sl 31=hY _/\s.sl 32=al 0/\s.sl 33=al i)/\(i=0)) (λi=>0) 0 ⟨nm,rfl⟩ ?_;intro i w ⟨f,k⟩;subst k;exact mg f;have x:(0<(n:Int))=True:=bO om;have q:=cr (m:=m) (e:=e) (show 0<n by omega);have l:(20<(m:Int))=False:=aX om;refine nN @bU a x q l ?_;refine⟨om,?_⟩;refine az (λ(i:Nat)s=>(s.sl 0=hY _/\s.sl 2=al 1/\s.sl 31=hY _/\s.sl 32=al n/\s.sl 33=al i)/\(i<=n)) (λi=>n-i) 0 ⟨nm,om⟩ ?_;intro i w ⟨f,k⟩;rcases bf i n with h|h
 have b:((i:Int)<n)=True:=bO om;have c:=cr (m:=m) (e:=e) h;refine Cn f @bU a b c @dB ?_;refine⟨h,?_⟩;refine az (λ(j:Nat)s=>(s.sl 0=hY _/\s.sl 2=al 1/\s.sl 31=hY _/\s.sl 32=al n/\s.sl 33=al i/\s.sl 37=aE _/\s.sl 38=al m/\s.sl 39=al j)/\(j<=m)) (λj=>m-j) 0 ⟨(gE f c),om⟩ ?_;intro j D ⟨p,y⟩;rcases bf j m with o|o
 have d:(j<(m:Int))=True:=bO om;have E:=t i j h o;have c1:(e i j < -1)=False:=aX om;have c2:(1<e i j)=False:=aX om;have A:D0.i64.wrap (-1)=-1:=rfl;simp only[↓gp,gq,simprocAttr,gT,p,d,dz (e:=e) h o,c,c1,c2,dB,A];exact⟨o,ah (j+1) ⟨(gE p (ak o om)),om⟩⟩;have d:((j:Int)<(m:Int))=False:=aX om;refine ff p d ?_;exact ah (i+1) ⟨(fB f p (ak h om)),om⟩;have b:((i:Int)<(n:Int))=False:=aX om;exact DL f b
def cnz(e:X0)(j:Nat):Nat->Nat|0=>0|i+1=>if e i j=0 then cnz e j i else cnz e j i+1
theorem znF(e:X0)(j:Nat):∀i,cnz e j i<=zk e j i
 | 0=>ab _
 | i+1=>by have:=znF e j i;show(if e i j=0 then _ else _)<=zk e j i+(e i j).natAbs;grind
theorem HM(w:k<=20)(x:m<=20)(y:∀i j,i<k->j<m->-1<=e i j/\e i j<=1)(z:∀j,j<m->zk e j k<=6):AC prog 287 [hY (cz k m e)] (.im (aU k0)):=by
 refine cA [.tmp 2] func287 λE=>?_;have a:=fw (n:=k) (m:=m) (e:=e);refine aR (aa (zl e k m w x y) ?_);refine ff @bU a ?_;intro o;have o:k≠0:=λh=>by grind
 have p:=cr (m:=m) (e:=e) (show 0<k by omega);refine⟨om,om,?_⟩;refine az (λ(j:Nat)s=>(s.sl 0=hY _/\s.sl 15=al m/\s.sl 16=al j)/\(j<=m)) (λj=>m-j) 0 ⟨(jX p),om⟩ ?_;intro j F ⟨n,A⟩;rcases bf j m with c|c
 have d:=bO om;refine ox n d @bU a ?_;refine az (λi s=>(s.sl 0=hY _/\s.sl 3=al j/\s.sl 15=al m/\s.sl 16=al j/\s.sl 4=al (cnz e j i)/\s.sl 20=al k/\s.sl 21=al i)/\(i<=k)) (λi=>k-i) 0 ⟨(jX n),om⟩ ?_;intro i G ⟨f,q⟩;have B:=aJ (znF e j i) (aJ (HN e j q) (z j c));rcases bf i k with h|h
 have b:((i:Int)<k)=True:=bO om;have g:=cr (m:=m) (e:=e) h;have u:=dz (e:=e) h c;by_cases l:e i j=0;have r:cnz e j (i+1)=cnz e j i:=ae l;refine XO f b g @dB u l @bU a ?_;exact⟨h,c,c,ah (i+1) ⟨(fB f r (ak h om)),om⟩⟩;have r:cnz e j (i+1)=cnz e j i+1:=ac l;have C:D0.i64.wrap (((cnz e j i:Nat):Int)+1)=((cnz e j (i+1):Nat):Int):=by rw[r];exact ak (n:=7) om om
 refine XO f b g @dB u (bne_iff_ne.2 l) @bU a ?_;exact⟨h,c,c,ah (i+1) ⟨(fB f C (ak h om)),om⟩⟩;have b:((i:Int)<(k:Int))=False:=aX om;have D:(6<((cnz e j i:Nat):Int))=False:=aX om;refine iD f b D ?_;exact ah (j+1) ⟨(fB n f (ak c om)),om⟩;have d:((j:Int)<(m:Int))=False:=aX om;exact DL n d
theorem zhH:-1<=Of L H k m/\Of L H k m<=1:=by have:=zhG (lg L k 0)<|lg H m 0;unfold Of;grind
theorem zm(c:k<6)(d:∀a b,b<64->f b=k0->a&&&b=a->f a=k0):AC prog 305 [hY (Bm f k)] (.fr 3 1 (iL (smN (Bm f k)))):=by have:=OJ _ k _ _ _ _ (Kw c) (UH f om) (UH f om) (UJ f k) (JC f k) (SWq.start (Kw c) d) (λi j _ _=>zhH _ _ i j)<|λj e=>zbK f k (ab _) e;rwa[<- UI]at this
noncomputable def smV(M:fG):RV:=if iQ 3 M=0 then .fr 3 1 []else .im (aE (smN M))
theorem yp(g:k<6)(h:∀a b,b<64->f b=k0->a&&&b=a->f a=k0):AC prog 219 [hY (Bm f k)] (smV (Bm f k)):=by
 refine cA [.tmp 2] func219 λI=>?_;have s:=UH f (k:=k) om;have u:=UH f (k:=k+1) om;have l:=HM (Of (Lo f k)<|Lo f<|k+1) _ _ s u (λi j _ _=>zhH _ _ i j)<|λj D=>zbK f k (ab _) D;have x:=Be (Of (Lo f k)<|Lo f<|k+1) k _ _ _ _ (Kw g) s u (UJ f k) (JC f k)<|IW.start (Kw g) h;have d:=zhD (Kw g) (UJ f k) (JC f k) (lh (Lo f k)+1) 0 1 _ 1 om (IW.start (Kw g) h)<|.inl rfl;have y:=zvI (Kw g) (UJ f k) (JC f k) (lh (Lo f k)+1) 0 _ om<|SWq.start (Kw g) h;have z:=zsH g h;have E:=UJ f k;have A:=JC f k;have F:=(SWq.start (Kw g) h).k2;unfold smV smN;have G:Bm f k=cz (Lo f k).length (Lo f<|k+1).length (Of (Lo f k)<|Lo f<|k+1):=UI _ _;generalize iQ 2 (Bm f k)=r at *;generalize iQ 3 (Bm f k)=o at *;rw[G];generalize H:(HJ (Lo f k).length (Lo f<|k+1).length (lh (Lo f k)+1) (Of (Lo f k)<|Lo f<|k+1) 0 1).natAbs=t at *;generalize Of (Lo f k) (Lo f<|k+1)=e at *;generalize (Lo f k).length=n at *;generalize (Lo f<|k+1).length=m at *;refine aR<|aa l ?_;refine aR<|aa x ?_;by_cases B:o=0;rw[ae B];exact mg B;rw[ac B];have C:((o:Int)==0)=false:=beq_eq_false_iff_ne.2 om;refine cZ C ?_;have p:=Db e n m t o (if t=1 then 0 else r) s u om d.1 ⟨y,A⟩ (by split<;>omega)<|by
  rcases d.1 with c|c;rw[ae c,c];exact mn _ (aB _) λi j _ _ _ _=>sp
  rw[ac om,c];exact UG (λi j _ _ _ _=>(Int.emod_emod_of_dvd _<|Int.dvd_refl _).symm) F
 have q:AN (if t=1 then 0 else r) t o=ld r 1++ld (o-r) 2:=by rcases d.1 with c|c;have:=d.2 c;rw[ae c,zhF<|aB _,c,this,pi];simp;rw[ac om,zhF z,c];rfl
 rw[q]at p;refine aa p ?_;refine cZ @qe ?_;exact⟨rfl,⟨_,rfl⟩,fS⟩
theorem sQ:AC prog 128 [dv (bA f 64:Nat)] (.fr 3 1 (iL (gc f))):=by
 refine cA [.tmp 2] func128 λr=>?_;have t:=eD f;refine aR<|aa (uc f) ?_;have a:=nx f;have m:=eb f;refine cZ a ?_;refine az (λ(k,v)s=>(s.sl 3=.own 3 v/\s.rw 3=⟨v,.sli 3 1 l0<|iL<|(gc f).take k⟩/\s.sl 7=.own 7 1/\s.rw 7=⟨1,.sli 24 1 l0<|mF<|ms f⟩/\s.sl 8=al (cv f)/\s.sl 9=al k)/\(k<=cv f)) (λ(k,v)=>cv f-k) ((0,1)) ⟨(jX a),sp⟩ ?_;intro(k,v) u ⟨⟨c,b,d,g,i,j⟩,o⟩;refine xA c b d g i j a ?_;refine⟨λh=>⟨h,h,?_⟩,λh=>?_⟩;have l:=kO f h;have p:=fc f k<|ab 64;have e:(gc f).take (k+1)=(gc f).take k++[((cd f k 64).length:Int)]:=by rw[bj 0 om,lN f h]
 have q:lh ((gc f).take k)<=7:=by simp;omega
 simp only[↓gp,gq,gT,c,b,d,g,i,j,a,l,ap];refine⟨om,?_⟩;exact ah ((k+1,v+1)) ⟨(by and_intros<;>(first|(simp only[gr,simprocAttr,c,b,d,g,i,j,l,ap,e,ak h om];first|done|rfl|(simp;done))|assumption|rfl)),om⟩;grind
noncomputable def fcR(n:Int)(a:N0):N0:=if aS n a=k0 then gc (ao a)else []
theorem gw:AC prog 54 [.ag [al n,aE a]] (.fr 3 1 (iL (fcR n a))):=by
 refine cA [.tmp 2] func54 λc=>?_;refine aR<|aa (aH n a) ?_;refine aR ?_;refine⟨λb=>?_,λb=>?_⟩;have:fcR n a=[]:=by simp_all[fcR]
 rw[this];rfl;have b:=ss b;have:fcR n a=gc _:=ae b;rw[this];refine aa (cj n a<|dM b)<|aR<|aa (sQ _) ?_;exact ef
def sg2(k:Nat):Int:=2*((k%2:Nat):Int)-1
def HR(L:O0)(j:Nat):Int:=((L.take j).map λs=>sg2 (aQ s)).sum
def nB(l:N0):Nat->Int|0=>0|k+1=>nB l k+sg2 k*l.getD k 0
theorem OM:-1<=sg2 k/\sg2 k<=1/\(k%2=1->sg2 k=1)/\(k%2=0->sg2 k=-1):=by unfold sg2;omega
theorem UM(h:d<lh p):HR p (d+1)=HR p d+sg2 (aQ (lg p d 0)):=by simp[HR,bj 0 h]
theorem WH:∀j,j<=lh L->-(j:Int)<=HR L j/\HR L j<=j:=by
 intro j;induction j with
 | zero=>simp[HR]
 | succ j a =>intro h;have c:=OM<|aQ<|lg L j 0;rw[UM om];omega
theorem zjx:∀d,nB (rA (L++[k]) d) d=nB (rA L d) d+if aQ k<d then sg2 (aQ k)else 0:=by
 have a:∀n d,d<=n->nB (rA (L++[k]) n) d=nB (rA L n) d+if aQ k<d then sg2 (aQ k)else 0:=by
  intro n d;induction d with
  | zero=>simp[nB]
  | succ d e =>intro h;rw[nB,nB,vn _ om,vn _ om,Un];grind
 grind
theorem znK{d:Nat}:∀(R L:O0),(∀s∈L++R,aQ s<d)->nB (rA (L++R) d) d=nB (rA L d) d+(R.map λs=>sg2 (aQ s)).sum
 | [],L,_=>sp
 | x::R,L,h=>by have e:L++x::R=(L++[x])++R:=sp;rw[e]at h ⊢;rw[znK R _ h,zjx,ae<|h x sp,dR,List.sum_cons];omega
theorem znL:∀n,n<=k->nB (rA [] k) n=0:=by
 intro n;induction n with
 | zero=>intro _;rfl
 | succ n a =>intro h;rw[nB,a om,vn _ om];simp[zf]
theorem mP(h:aS x l=k0):ci x l=ao l:=by funext s;rw[ci,h,au]
theorem zec:nB (gc f) (cv f)=HR (co f) (co f).length:=by
 have:=znK (d:=cv f) _ [] (λs b=>have⟨c,e⟩:=cR.1 (ss b);rz 64 s c e);rw[eg,znL _ _<|ab _,Int.zero_add]at this;rw[gc,HR,this,av]
theorem sE(h:aS n a=k0):AC prog 57 [.ag [al n,aE a]] (.im (al (nB (gc (ao a)) (cv (ao a))))):=by
 refine cA [.tmp 2] func57 λx=>?_;refine aR (aa (aH n a) ?_);refine cZ h (aa (cj n a (dM h)) ?_);refine aR (aa (sQ _) ?_);have f:=eb (ao a);have p:=eD (ao a);have c:∀i,i<lh (gc (ao a))->0<=lg (gc (ao a)) i 0/\(gc (ao a)).getD i 0<=64:=λi y=>by rw[lN _ om];exact UT a i
 have o:∀k,k<=lh (gc (ao a))->-(64*(k:Int))<=nB (gc (ao a)) k/\nB (gc (ao a)) k<=64*(k:Int):=by
  intro k;induction k with
  | zero=>intro _;exact⟨oE _,oE _⟩
  | succ k q =>
    intro z;have b:=q om;have d:=c k om;rw[nB];rcases mD k with g|g
    rw[(OM k).2.2.2 g];omega;rw[(OM k).2.2.1 g];omega
 rw[<- f];generalize gc (ao a)=F at *;refine aR ?_;refine az (λ(k:Nat)s=>(s.sl 1=.ref 1 1 0/\s.rw 1=⟨1,.box 26 [al n,aE a]⟩/\s.sl 3=al (nB F k)/\s.sl 11=.own 11 1/\s.rw 11=⟨1,.sli 3 1 l0 (iL F)⟩/\s.sl 12=al (lh F)/\s.sl 13=al k)/\(k<=lh F)) (λk=>lh F-k) (0) ⟨nm,aB _⟩ ?_;intro k A ⟨j,r⟩;have t:(k:Int).tmod 2=((k%2:Nat):Int):=by rw[mL om];omega
 refine ff j t ?_;refine⟨λb=>⟨b,b,λd=>?_,λd=>?_⟩,λb=>?_⟩;have u:=o k om;have w:=c k b;have l:=(OM k).2.2.1 (by have:=beq_iff_eq.1 d;omega);have e:nB F (k+1)=nB F k+lg F k 0:=by rw[nB,l];omega
 have m:D0.i64.wrap (nB F k+lg F k 0)=nB F (k+1):=by rw[e];exact aF om om
 exact ah (k+1) ⟨(fB j (ak b om) m),om⟩;have u:=o k om;have w:=c k b;have l:=(OM k).2.2.2 (by have:=beq_eq_false_iff_ne.1 d;omega);have e:nB F (k+1)=nB F k-lg F k 0:=by rw[nB,l];omega
 have m:D0.i64.wrap (nB F k-lg F k 0)=nB F (k+1):=by rw[e];exact aF om om
 exact ah (k+1) ⟨(fB j (ak b om) m),om⟩;rw[show k=lh F by omega]
theorem xK:AC prog 12 [.ag [al n,aE a]] (.im (al (nB (gc (ci n a)) (cv (ci n a))))):=by
 refine cA [.tmp 2] func12 λr=>?_;refine aR<|aa (io n a) ?_;rw[zec];have d:=ap<|co<|ci n a;have e:=ordN_len<|ci n a;have c:=λi (g:i<lh (co<|ci n a))=>(cR.1<|aP 0 g).1;generalize co _=L at *;refine aR ?_;refine az (λ(k:Nat)s=>(s.sl 1=.ref 1 1 0/\s.rw 1=⟨1,.box 26 _⟩/\s.sl 3=al (HR L k)/\s.sl 4=.own 7 1/\s.rw 7=⟨1,.sli 3 1 l0<|iL<|bl L⟩/\s.sl 5=al k)/\(k<=lh L)) (λk=>lh L-k) (0) ⟨nm,aB _⟩ ?_;intro k t ⟨f,h⟩;refine ff f d ?_;refine⟨λb=>⟨b,b,?_⟩,λb=>?_⟩;have j:=c k b;rw[bX b];refine aa (ey _ om) ?_;have u:=WH L k om;have l:(aQ (lg L k 0):Int).tmod 2=((aQ _%2:Nat):Int):=rfl
 have o:D0.i64.wrap _=2*((aQ (lg L k 0)%2:Nat):Int):=aF om om;have p:D0.i64.wrap _=HR L k+2*((aQ (lg L k 0)%2:Nat):Int):=aF om om;have q:D0.i64.wrap (HR L k+2*((aQ (lg L k 0)%2:Nat):Int)-1)=HR L (k+1):=by rw[UM b];rw[sg2,aF om om];omega
 refine nN f l o p q ?_;exact ah (k+1) ⟨(gE f<|ak b om),om⟩;grind
theorem zn(h:aS n a=k0):AC prog 12 [.ag [al n,aE a]] (.im (al (nB (gc (ao a)) (cv (ao a))))):=by have:=xK n a;rwa [mP h]at this
noncomputable def hV(a:N0):N0:=(lc (cv (ao a))).map λk=>UR (OZ a) (cv (ao a)-1) (k+1) k
theorem Df:lh (hV a)=cv (ao a):=by simp[hV]
theorem zhK{xs:N0}{k:Nat}(h:k<cv (ao xs)):(hV xs).take (k+1)=(hV xs).take k++[UR (OZ xs) (cv (ao xs)-1) (k+1) k]:=by rw[bj 0<|by rwa[Df]];simp[hV,h]
theorem zwL:∀x∈hV a,-8960<=x/\x<=8960:=λx b=>by obtain⟨k,c,rfl⟩:=List.mem_map.1 b;have c:=List.mem_range.1 c;have d:=eD<|ao a;have:=AU (UT a) (n:=cv (ao a)-1) (t:=k) om om<|k+1;omega
theorem vJ:AC prog 129 [aE (gc (ao a))] (.fr 3 1 (iL (hV a))):=by
 refine cA [.tmp 2] func129 λR=>?_;have A:=eb (ao a);have E:=eD (ao a);have d:∀i,i<cv (ao a)->lg (gc (ao a)) i 0=OZ a i:=λi f=>by rw[lN _ f];rfl
 have g:=Df a;have j:=λk=>zhK (xs:=a) (k:=k);generalize gc (ao a)=F at *;generalize S:cv (ao a)=D at *;generalize hV a=V at *;have l:D0.i64.wrap ((lh F:Int)-1)=(D:Int)-1:=by rw[aF om om];omega
 refine cZ l ?_;refine az (λ((k,v):Nat×Nat) s=>(s.sl 0=aE F/\s.sl 3=al ((D:Int)-1)/\s.sl 4=.own 4 v/\s.rw 4=⟨v,.sli 3 1 l0 (iL (V.take k))⟩/\s.sl 5=al k)/\(k<=D)) (λ(k,v)=>D-k) ((0,1)) ⟨nm,aB _⟩ ?_;intro(k,v) U ⟨m,H⟩;refine cZ m ?_;refine⟨λh=>?_,λh=>?_⟩;refine az (λ(i:Nat)s=>(s.sl 0=aE F/\s.sl 3=al ((D:Int)-1)/\s.sl 4=.own 4 v/\s.rw 4=⟨v,.sli 3 1 l0 (iL (V.take k))⟩/\s.sl 5=al k/\s.sl 6=al (UR (OZ a) (D-1) i k)/\s.sl 7=al i)/\(i<=k+1)) (λi=>k+1-i) (0) ⟨(jX m),aB _⟩ ?_;intro i W ⟨c,I⟩;refine cZ c ?_;refine⟨λw=>?_,λw=>?_⟩;have o:gh ((D:Int)-1-i) ((k:Int)-i)=(rg (D-1-i) (k-i):Nat):=by unfold gh;rw[ae ⟨om,om,om⟩,show((D:Int)-1-i).toNat=D-1-i by omega,show((k:Int)-i).toNat=k-i by omega]
 have J:=OY (n:=D-1-i) (k:=k-i) om om;have p:=UT a i;have⟨X,Y,x,y⟩:=Xb p (b:=(rg (D-1-i) (k-i):Nat)) ⟨om,om⟩ (k-i);have K:=AU (UT a) (n:=D-1) (t:=k) om om i;have z:UR (OZ a) (D-1) (i+1) k=UR (OZ a) (D-1) i k+sgI (k-i) (OZ a i*(rg (D-1-i) (k-i):Nat)):=by rw[OX,ae w]
 have L:D0.i64.wrap ((D:Int)-1-i)=(D:Int)-1-i:=aF om om;have M:D0.i64.wrap ((k:Int)-i)=(k:Int)-i:=aF om om;have N:((k:Int)-i).tmod 2=(((k-i)%2:Nat):Int):=by rw[show(k:Int)-i=((k-i:Nat):Int)by omega,mL om];omega
 have q:=d i om;generalize Z:((rg (D-1-i) (k-i):Nat):Int)=B at *;generalize hC:OZ a i=C at *;have O:D0.i64.wrap (C*B)=C*B:=aF om om;have v4:D0.i64.wrap (0-C*B)=-(C*B):=by rw[aF om om];omega
 refine⟨kr,om,om,aa (Ce _ _ om) ?_⟩;refine XO c L M o q N O v4 ?_;refine⟨λr=>?_,λr=>?_⟩;have e:sgI (k-i) (C*B)=-(C*B):=ac (by have:=beq_iff_eq.1 r;omega);have u:D0.i64.wrap (UR (OZ a) (D-1) i k+-(C*B))=UR (OZ a) (D-1) (i+1) k:=by rw[z,e];rw[e]at x y;exact aF om om
 exact ah (i+1) ⟨(rS c v4 u (ak (show i<7 by omega) om)),om⟩;have e:sgI (k-i) (C*B)=C*B:=ae (by have:=beq_eq_false_iff_ne.1 r;omega);have u:D0.i64.wrap (UR (OZ a) (D-1) i k+C*B)=UR (OZ a) (D-1) (i+1) k:=by rw[z,e];rw[e]at x y;exact aF om om
 exact ah (i+1) ⟨(fB c u (ak (show i<7 by omega) om)),om⟩;have f:i=k+1:=om;subst f;have e:=j k om;have P:lh (V.take k)<=7:=by simp;omega
 exact⟨om,ah ((k+1,v+1)) ⟨(rS m c e (ak (show k<7 by omega) om)),by dsimp only;omega⟩⟩;have Q:k=D:=om;rw[Q,<- g,av]
theorem xL(h:aS n a=k0):AC prog 55 [.ag [al n,aE a]] (.fr 3 1 (iL (hV a))):=by refine cA [.tmp 2] func55 λb=>?_;refine aR<|aa (gw n a) ?_;rw[show fcR n a=gc _ from ae h];refine aR<|aa (vJ a) ?_;exact ef
theorem xM(h:aS n a=k0):AC prog 171 [.ag [al n,aE a]] (.fr 3 1 (iL (hV a))):=by
 refine cA [.tmp 2] func171 λS=>?_;have x:=eb<|ao a;have y:=eD<|ao a;have g:∀i,i<cv (ao a)->lg (gc<|ao a) i 0=OZ a i:=λi j=>by rw[lN _ j];rfl
 have l:=Df a;have m:=λk=>zhK (xs:=a) (k:=k);have c:=gt n a;rw[mP h]at c;generalize gc (ao a)=F at *;generalize U:cv (ao a)=D at *;generalize hV a=V at *;have d:D0.i64.wrap ((lh F:Int)-1)=(D:Int)-1:=by rw[aF om om];omega
 refine cZ d<|aa c ?_;refine cZ d ?_;refine az (λ((k,v):Nat×Nat) s=>(s.sl 1=.ref 1 1 0/\s.rw 1=⟨1,.box 26 [al n,aE a]⟩/\s.sl 3=.own 9 v/\s.rw 9=⟨v,.sli 3 1 l0<|iL<|V.take k⟩/\s.sl 4=.own 11 1/\s.rw 11=⟨1,.sli 3 1 l0<|iL F⟩/\s.sl 5=al ((D:Int)-1)/\s.sl 6=al k)/\(k<=D)) (λ(k,v)=>D-k) ((0,1)) ⟨nm,aB _⟩ ?_;intro(k,v) W ⟨o,A⟩;refine cZ o ?_;refine⟨λh=>?_,λh=>?_⟩;refine az (λ(i:Nat)s=>(s.sl 1=.ref 1 1 0/\s.rw 1=⟨1,.box 26 [al n,aE a]⟩/\s.sl 3=.own 9 v/\s.rw 9=⟨v,.sli 3 1 l0<|iL<|V.take k⟩/\s.sl 4=.own 11 1/\s.rw 11=⟨1,.sli 3 1 l0<|iL F⟩/\s.sl 5=al ((D:Int)-1)/\s.sl 6=al k/\s.sl 7=al (UR (OZ a) (D-1) i k)/\s.sl 8=al i)/\(i<=k+1)) (λi=>k+1-i) (0) ⟨(jX o),aB _⟩ ?_;intro i X ⟨f,E⟩;refine cZ f ?_;refine⟨λu=>?_,λu=>?_⟩;have p:gh ((D:Int)-1-i) ((k:Int)-i)=(rg (D-1-i) (k-i):Nat):=by unfold gh;rw[ae ⟨om,om,om⟩,show((D:Int)-1-i).toNat=D-1-i by omega,show((k:Int)-i).toNat=k-i by omega]
 have G:=OY (n:=D-1-i) (k:=k-i) om om;have q:=UT a i;have⟨Y,Z,t3,t4⟩:=Xb q (b:=(rg (D-1-i) (k-i):Nat)) ⟨om,om⟩ (k-i);have H:=AU (UT a) (n:=D-1) (t:=k) om om i;have I:UR (OZ a) (D-1) (i+1) k=UR (OZ a) (D-1) i k+sgI (k-i) (OZ a i*(rg (D-1-i) (k-i):Nat)):=by rw[OX,ae u]
 have J:D0.i64.wrap ((D:Int)-1-i)=(D:Int)-1-i:=aF om om;have K:D0.i64.wrap ((k:Int)-i)=(k:Int)-i:=aF om om;have L:((k:Int)-i).tmod 2=(((k-i)%2:Nat):Int):=by rw[show(k:Int)-i=((k-i:Nat):Int)by omega,mL om];omega
 have r:=g i om;have M:(k-i)%2<2:=xq _ dc;have N:D0.i64.wrap (2*(((k-i)%2:Nat):Int))=2*(((k-i)%2:Nat):Int):=aF om om;have O:D0.i64.wrap (1-2*(((k-i)%2:Nat):Int))=1-2*(((k-i)%2:Nat):Int):=aF om om;generalize hB:((rg (D-1-i) (k-i):Nat):Int)=B at *;generalize hC:OZ a i=C at *;have P:(1-2*(((k-i)%2:Nat):Int))*C*B=sgI (k-i) (C*B):=by
  unfold sgI;rcases mD (k-i)with h|h
  rw[h,ae rfl];simp;rw[h,ac dc];simp[JQ]
 have v0:D0.i64.wrap ((1-2*(((k-i)%2:Nat):Int))*C)=(1-2*(((k-i)%2:Nat):Int))*C:=by rcases mD (k-i)with h|h<;>rw[h]<;>exact aF (by simp;omega)<|by simp;omega
 have v4:D0.i64.wrap (sgI (k-i)<|C*B)=sgI (k-i) (C*B):=aF om om;have w:D0.i64.wrap (UR (OZ a) (D-1) i k+sgI (k-i) (C*B))=UR (OZ a) (D-1) (i+1) k:=by rw[I];exact aF om om
 refine⟨kr,om,om,aa (Cd _ _ om) ?_⟩;simp only[↓gp,gq,simprocAttr,gT,f,J,K,p,r,L,v0,N,O,P,v4,w];exact ah (i+1) ⟨(fB f w<|ak (show i<7 by omega) om),om⟩;have j:i=k+1:=om;subst j;have e:=m k om;have Q:lh (V.take k)<=7:=by simp;omega
 exact⟨om,ah ((k+1,v+1)) ⟨(rS o f e<|ak (show k<7 by omega) om),by dsimp only;omega⟩⟩;have R:k=D:=om;rw[R,<- l,av]
theorem HS(h:∀s,f s=l0):gc f=[]:=by have e:=funext h;subst e;rfl
theorem HT:AC prog 171 [.ag [al n,aE a]] (.fr 3 1 (iL (if aS n a=k0 then hV a else []))):=by by_cases h:aS n a=k0;exact ae h▸xM n a h;rw[ac h];have b:=gt n a;rw[HS _ λs=>by unfold ci;grind]at b;refine cA [.tmp 2] func171 λf=>?_;refine aR<|aa b ?_;refine aR ?_;have d:D0.i64.wrap (-1)=-1:=dc;refine az (λ(k:Nat)s=>(s.sl 3=.own 9 1/\s.rw 9=⟨1,.sli 3 1 _ []⟩/\s.sl 5=al _/\s.sl 6=al k)/\(k=0)) (λk=>0-k) 0 ⟨(jX d),rfl⟩ ?_;intro k g ⟨e,c⟩;subst c;refine cZ e ?_;rfl
theorem OL:∀e b,b<64->ci n a b=k0->e&&&b=e->ci n a e=true:=λe b _ c d=>by unfold ci at *;rw[aj]at c ⊢;exact⟨c.1,pZ c.2<|by grind⟩
theorem HQ:AC prog 255 [.ag [al n,aE a]] (.fr 3 1 (iL (ed (ci n a) 3))):=by
 refine cA [.tmp 2] func255 λG=>?_;refine aR (aa (gt n a) ?_);refine aR ?_;have y:=eD (ci n a);have e:=eb (ci n a);have m:∀d b,b<64->ci n a b=k0->d&&&b=d->ci n a d=true:=OL n a;generalize z:ci n a=f at *;refine az (λ((k,v,w):Nat×Nat×Nat) s=>(s.sl 1=.ref 1 1 0/\s.rw 1=⟨1,.box 26 [al n,aE a]⟩/\s.sl 3=.own 8 v/\s.rw 8=⟨v,.sli 3 1 l0 (iL ((ed f 3).take k))⟩/\s.sl 4=.own 10 w/\s.rw 10=⟨w,.sli 3 1 l0 (iL (gc f))⟩/\s.sl 5=al (kM f 3 k)/\s.sl 6=al k)/\(k<=cv f)) (λ(k,v,w)=>cv f-k) ((0,1,1)) ⟨(by and_intros<;>(rfl)),sp⟩ ?_;intro(k,v,w) H ⟨j,B⟩;refine ff j e ?_;refine⟨λh=>?_,λh=>?_⟩;have C:=qS f 3 k;have D:=qS f 3 (k+1);have E:=fc f k (ab 64);have u:=lN f h;have c:=ak h om;have g:D0.i64.wrap (((cd f k 64).length:Int)-(kM f 3 k:Int))=((cd f k 64).length:Int)-(kM f 3 k:Int):=aF om om;have i:D0.i64.wrap _=((cd f k 64).length:Int)-(kM f 3 k:Int)-(kM f 3 (k+1):Int):=aF om om;have l:(ed f 3).take (k+1)=(ed f 3).take k++[((cd f k 64).length:Int)-kM f 3 k-kM f 3 (k+1)]:=by rw[bj 0 (by rw[df];exact h),pX f 3 h]
 have F:lh ((ed f 3).take k)<=7:=by rw[bg,df];omega
 refine iD j e c ?_;refine⟨λx=>aa (z ▸ qa n a (k+1) om om) ?_,λx=>?_⟩;have q:=zdV (p:=3) x;rw[dS];refine iD j e c ?_;refine aa (zm f k om m) ?_;have o:=Lv (f:=f) (k:=k) om m;rw[show iQ 3 (Bm f k)=kM f 3 (k+1) from q.symm]at o;refine XO j e c u g i @dB o ?_;refine⟨h,h,om,?_⟩;exact ah ((k+1,v+1,w)) ⟨(DM j c g i l),by dsimp only;omega⟩;have r:=Lu (p:=3) (show cv f<=k+1 by omega);rw[r,iU,jI]at i;rw[r,iU,jI]at l;refine nN j e c u g ?_;refine⟨h,h,om,?_⟩;have t:D0.i64.wrap (((cd f k 64).length:Int)-(kM f 3 k:Int)-0)=((cd f k 64).length:Int)-(kM f 3 k:Int):=by rw[jI];exact i
 exact ah ((k+1,v+1,w)) ⟨(xc7 j c g t l r @iU),by dsimp only;omega⟩;have:k=(ed f 3).length:=by rw[df];omega
 rw[this,av]
end Go.Proofs.YtijabbemjaioeaaGreatDoor
