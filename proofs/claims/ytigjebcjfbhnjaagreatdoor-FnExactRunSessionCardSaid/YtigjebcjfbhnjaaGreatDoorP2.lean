/- DERIVED by an AI agent. -/
import Derived.Test.YtigjebcjfbhnjaaGreatDoorP1
import Derived.Lib.ItoaNum
set_option linter.all false
namespace Go.Abs
open Bool renaming true→k0,false→l0
open List renaming range→lc,getD→lg,length→lh
variable (l:N0)(t:P0)(b:Nat)(i:Nat)(a:List UInt8){f:V0}{s j:Nat}{c:N0}{X:O0}{r:P0}{d:List UInt8}{e:N0->Int->Bool}{x:UInt8}
section
variable {p:Nat}[NeZero p]
end
theorem zhT:∀w,w<64->∀t,t<64->(!(w&&&t==t)||(decide (aQ t<=aQ w)&&(decide (aQ t<aQ w)||t==w)))=true:=by decide +kernel
section
variable {p:Nat}[NeZero p]
end
section
variable {p:Nat}[NeZero p]
def zsO(p:Nat)[NeZero p](f:V0)(n d:Nat):Prop:=∀F,F<2^n->∀k,aQ F+k<d->Ac p (dL f F) k
end
theorem US:∀s,s<64->aQ s=0->s=0:=by decide +kernel
theorem zrb:∀s,s<64->s≠0->((lc 6).any λv=>s&&&2^v==2^v)=true:=dc
section
variable {p:Nat}[NeZero p]
theorem zjN(r:lM (p:Int)=k0)(j:CN f)(t:f 0=k0):zem f p 0=if((lc 6).any λv=>f (2^v))=k0 then 0 else 1:=by
 obtain⟨F,u⟩:=Xa (p:=p) r j 0;by_cases d:((lc 6).any λv=>f (2^v))=k0;rw[ae d];obtain⟨v,d,k⟩:=List.any_eq_true.1 d;have w:v<6:=List.mem_range.1 d;have l:(2:Nat)^v<64:=bD (aV om (show v<=5 by omega)) dc;refine u.2 λx z A=>?_;obtain⟨y,B,e⟩:=zt7 (p:=p) l (Nat.pos_iff_ne_zero.1 (Nat.pow_pos om)) 0 x (z.mono λa i=>by
  have:a=0:=US a i.1 i.2.2;subst this;exact⟨dc,by unfold zn7;simp,kq⟩) A
 exact⟨y,B.mono λa i=>⟨i.1,j _ a k (Ar.1 i.2.1),i.2.2⟩,e⟩;rw[ac d];have C:cd f 0 64=[0]:=by
  unfold cd;have:∀s∈lc 64,(f s&&(aQ s==0))=(s==0):=λs m=>by have m:=List.mem_range.1 m;by_cases e:s=0;subst e;rw[t,kq];rfl;rw[beq_false_of_ne e,beq_false_of_ne λh=>e (US s m h),cT]
  rw[eM this];decide +kernel
 have D:cv f<=1:=Nat.le_of_not_lt λn=>by
  obtain⟨s,a,b,c⟩:=AH (f:=f) 64 (show 0<cv f by omega);have o:s≠0:=λe=>by subst e;rw[kq]at c;unfold cv at n;omega
  obtain⟨v,q,e⟩:=List.any_eq_true.1 (zrb s a o);exact d (List.any_eq_true.2 ⟨v,q,j s _ b (eq_of_beq e)⟩)
 have E:kM f p 1=0:=by unfold kM;rw[ae (.inr D)]
 unfold zem;rw[C,E];unfold kM;rw[ae (.inl rfl)];rfl
end
def UR(c:U0)(n Q t:Nat):Int:=SI (lc Q) λq=>if q<=t then MU (t-q) (c q*(rg (n-q) (t-q):Nat))else 0
theorem zn8(c:U0)(n t:Nat):UR c n 0 t=0:=rfl
theorem OX(c:U0)(n Q t:Nat):UR c n (Q+1) t=UR c n Q t+if Q<=t then MU (t-Q) (c Q*(rg (n-Q) (t-Q):Nat))else 0:=by unfold UR;rw[bW,zjK,WZ,zn5,Int.add_zero]
theorem zjM:((lc 7).all λn=>(lc 8).all λk=>decide (rg n k<=20))=true:=dc
theorem OY{n k:Nat}(a:n<=6)(b:k<=7):rg n k<=20:=by have:=List.all_eq_true.1 (List.all_eq_true.1 zjM n<|List.mem_range.2 om) k<|List.mem_range.2 om;grind
theorem Xb{c b:Int}(h:0<=c/\c<=64)(k:0<=b/\b<=20)(i:Nat):0<=c*b/\c*b<=1280/\-1280<=MU i (c*b)/\MU i (c*b)<=1280:=by have a:0<=c*b:=kH h.1 k.1;have d:c*b<=64*20:=kI h.2 k.2 k.1 dc;refine⟨a,om,?_,?_⟩<;>(unfold MU;split<;>omega)
theorem AU{c:U0}(a:∀q,0<=c q/\c q<=64){n t:Nat}(d:n<=6)(e:t<=n):∀Q:Nat,-(1280*(Q:Int))<=UR c n Q t/\UR c n Q t<=1280*(Q:Int)
 | 0=>by simp[zn8]
 | Q+1=>by have f:=AU a d e Q;rw[OX];by_cases h:Q<=t;have g:=OY (n:=n-Q) (k:=t-Q) om om;have:=Xb (a Q) (b:=(rg (n-Q) (t-Q))) ⟨om,om⟩<|t-Q;grind;omega
section
variable {p:Nat}[NeZero p]
end
theorem AS:dL f s j=k0↔j&&&s=0/\f (j|||s)=true:=by simp[dL]
theorem OW(c:CN f)(F:Nat):CN (dL f F):=λs t a b=>by rw[AS]at a ⊢;refine⟨?_,c _ _ a.2<|bB λi=>?_⟩;grind;grind
theorem zvR(c:s<64)(d:j<64):s|||j<64:=cu (n:=6) c d
section
variable {p:Nat}[NeZero p]
theorem zq7(h:∀k,k<64->f k=k0->aQ k≠s):Ac p f s:=λx c _=>have:x=v0:=funext λa=>c a λb=>h a b.1 b.2.1 b.2.2;⟨v0,λ_ _=>rfl,by grind⟩
theorem zjJ(l:lM (p:Int)=k0)(t:CN f)(u:s<64)(h:f s=k0)(c:∀F,F<64->f F=k0->F&&&s=s->F=s):¬Ac p (dL f s) 0:=λd=>by
 have o:=OW t s;have w:dL f s 0=true:=AS.2 ⟨Nat.zero_and _,by rw[JS];exact h⟩;have g:=zjN (p:=p) l o w;rw[((Xa (p:=p) l o 0).2).2 d]at g;split at g;rename_i i;have⟨v,i,x⟩:=List.any_eq_true.1 i;have j:v<6:=List.mem_range.1 i;have⟨a,b⟩:=AS.1 x;have k:(2:Nat)^v<64:=bN (m:=v) (n:=6) dc j;have e:=c _ (zvR k u) b (by rw[JR];exact tI);have q:(2^v|||s).testBit v=true:=by rw[bq,bR];simp
 have r:(2^v&&&s).testBit v=s.testBit v:=by rw[bQ,bR];simp
 rw[e]at q;rw[a,q,dQ]at r;cases r;cases g
def zsN(p:Nat)[NeZero p](f:V0)(n d:Nat):Prop:=(∃F k,F<2^n/\f F=k0/\¬Ac p (dL f F) k/\aQ F+k=d)/\zsO p f n d
theorem zbX(b:CN f)(h:∀F,F<2^s->f F=k0->∀k,aQ F+k<j->Ac p (dL f F) k):zsO p f s j:=λF c k e=>by
 cases a:f F with
 | true=>exact h F c a k e
 | false =>
   refine zq7 λd _ g=>?_;have:=b _ F (AS.1 g).2 (bB λi=>by
    rw[bQ,bq];cases d.testBit i<;>cases F.testBit i<;>rfl)
   rw[this]at a;cases a
theorem zq8(d:s<64)(h:∀F,F<64->f F=k0->aQ F<=aQ s):∀F,F<64->f F=k0->F&&&s=s->F=s:=λF c a b=>by have:=zhT F c s d;grind
def Sp(f:V0)(k s:Nat):Bool:=f s&&decide (aQ s<=k)
theorem zn4{s t:Nat}(a:s<64)(h:s&&&t=t):aQ t<=aQ s:=by have:=zhT s a t (bD (by rw[<- h];exact bI) a);grind
end
def ix(fits:N0->Int->Bool)(a:N0):Nat->N0->Option N0
 | 0,head=>some head
 | n+1,head=>a.findSome? λg=>if decide (g∈head)||!fits head g then none else ix fits a n (head++[g])
def Do(a:N0)(u:Nat):N0:=((lc (lh a)).filter u.testBit).map λi=>lg a i 0
def zD(a:N0)(u:Nat)(l:N0):Prop:=l.Perm (Do a u)
theorem zes:zD l 0 []:=by
 simp[zD,Do]
theorem zjU{l:N0}(o:c.Nodup)(h:zD c s l)(g:j<lh c):decide (lg c j 0∈l)=s.testBit j:=by
 have k:lg c j 0∈l↔c.getD j 0∈Do c s:=h.mem_iff;cases m:s.testBit j with
 | true =>refine ay (k.2 ?_);unfold Do;exact List.mem_map.2 ⟨j,List.mem_filter.2 ⟨List.mem_range.2 g,m⟩,rfl⟩
 | false =>
   refine aD λp=>?_;have n:=k.1 p;unfold Do at n;obtain⟨i,q,e⟩:=List.mem_map.1 n;obtain⟨d,f⟩:=List.mem_filter.1 q;have d:=List.mem_range.1 d;have r:c[i]=c[j]:=by
    have a:lg c i 0=c[i]:=by simp[lg,d]
    have b:lg c j 0=c[j]:=by simp[lg,g]
    rw[<- a,<- b];exact e
   have:i=j:=(gd (h₀:=d) (h₁:=g) o).1 r;subst this;rw[m]at f;cases f
theorem zet(h:b.testBit i=l0):∀n,i<n->((lc n).filter (b|||2^i).testBit).Perm ((lc n).filter b.testBit++[i]):=by
 have a:∀j,(b|||2^i).testBit j=(b.testBit j||decide (i=j)):=λj=>by rw[bq,bR]
 have u:∀n,n<=i->(lc n).filter (b|||2^i).testBit=(lc n).filter b.testBit:=λn k=>by refine eM λj c=>?_;have:=List.mem_range.1 c;rw[a,aD (show ¬i=j by omega),fT]
 intro n;induction n with
 | zero=>intro h;omega
 | succ n f =>
   intro l;rw[bW,aW,aW];by_cases e:i=n;subst e;rw[u i (ab _)];have d:[i].filter (b|||2^i).testBit=[i]:=by simp[bF,a]
   have g:[i].filter b.testBit=[]:=by simp[bF,h]
   rw[d,g,bh];have d:[n].filter (b|||2^i).testBit=[n].filter b.testBit:=by refine eM λj c=>?_;have:=List.mem_singleton.1 c;rw[a,aD (show ¬i=j by omega),fT]
   rw[d];refine(List.Perm.append_right _ (f om)).trans ?_;rw[cP,cP];exact List.Perm.append_left _ List.perm_append_comm
theorem zeu{l:N0}(h:zD c s l)(b:j<lh c)(i:s.testBit j=l0):zD c (s|||2^j) (l++[lg c j 0]):=by unfold zD Do at *;refine(List.Perm.append_right _ h).trans ?_;have:=(zet s j i (lh c) b).map λj=>lg c j 0;rw[cq]at this;exact this.symm
theorem zev{l b:N0}(h:zD c s l)(u:zD c s b):l.Perm b:=h.trans u.symm
theorem QC{a d:Type}{f g:a->Option d}{l:List a}(h:∀x∈l,f x=none->g x=none)(b:l.findSome? f=none):l.findSome? g=none:=by grind
theorem zew(f:∀l a x,l.Perm a->e l x=e a x):∀(n:Nat)(l a:N0),l.Perm a->ix e c n l=none->ix e c n a=none:=by
 intro n;induction n with
 | zero=>intro l a _ h;simp[ix]at h
 | succ n g =>intro l a fits h;unfold ix at h ⊢;refine QC (λx _ d=>?_) h;have i:decide (x∈l)=decide (x∈a):=decide_eq_decide.2 fits.mem_iff;rw[i,f l a x fits]at d;by_cases b:(decide (x∈a)||!e a x)=k0;rw[ae b];rw[ac b]at d ⊢;exact g _ _ (fits.append_right [x]) d
def zjV(fits:N0->Int->Bool)(a:N0)(failed:V0):Prop:=∀u,failed u=k0->∀n l,zD a u l->lh l+n=lh a->ix fits a n l=none
theorem zof(i:∀l u x,l.Perm u->e l x=e u x)(h:zjV e c f){l:N0}(failed:zD c s l)(o:lh l+j=lh c)(k:ix e c j l=none):zjV e c λv=>if v=s then k0 else f v:=by
 intro v d m u b n
 by_cases a:v=s
 subst a;have g:=zev failed b;have:m=j:=by have:=g.length_eq;omega
 subst this;exact zew i _ _ _ g k
 have d:(if v=s then k0 else f v)=true:=d;rw[ac a]at d;exact h v d m u b n
def swj(l:N0)(j:Nat):N0:=(l.set j (lg l (j-1) 0)).set (j-1) (lg l j 0)
theorem zjS:∀(i:Nat)(l:N0),i+1<lh l->((l.set (i+1) (lg l i 0)).set i (lg l (i+1) 0)).Perm l:=by
 grind
theorem zod(a:0<s)(h:s<lh c):(swj c s).Perm c:=by have:=zjS (s-1) c om;rw[show s-1+1=s by omega]at this;exact this
theorem zb1(d:0<s)(h:s<lh c)(a:Nat):lg (swj c s) a 0=if a=s-1 then c.getD s 0 else if a=s then c.getD (s-1) 0 else c.getD a 0:=by unfold swj;by_cases b:a=s-1;subst b;rw[ae rfl];simp[lg,show s-1<lh c by omega];rw[ac b];by_cases j:a=s;subst j;rw[ae rfl];simp only[lg,cW (Ne.symm b)];simp[h];rw[ac j];simp only[lg,cW (Ne.symm b),cW (Ne.symm j)]
def zhW(l:N0)(i:Nat):Prop:=∀a b,a<b->b<i->lg l a 0<=lg l b 0
def Pc(l:N0)(i j:Nat):Prop:=∀a b,a<b->b<=i->b≠j->lg l a 0<=lg l b 0
theorem zeq(h:zhW c s):Pc c s s:=λa b i d e=>h a b i om
theorem zb2(h:Pc c s j)(g:0<j)(o:j<=s)(p:s<lh c)(k:lg c j 0<lg c (j-1) 0):Pc (swj c j) s (j-1):=by intro a b m f n;rw[zb1 g om,zb1 g om,ac n];by_cases i:b=j;subst i;rw[ae rfl];by_cases d:a=b-1;rw[ae d];omega;rw[ac d,ac om];exact h a (b-1) om om om;rw[ac i];by_cases d:a=j-1;rw[ae d];exact h j b om f i;rw[ac d];by_cases e:a=j;rw[ae e];exact h (j-1) b om f i;rw[ac e];exact h a b m f i
theorem JE(h:Pc c s j)(g:j<=s)(i:j=0\/c.getD (j-1) 0<=lg c j 0):zhW c (s+1):=by
 intro a b e k;by_cases d:b=j;subst d;rcases i with i|i
 omega;by_cases f:a=b-1;rw[f];exact i;exact Int.le_trans (h a (b-1) om om om) i;exact h a b e om d
def vS(l:N0):N0:=l.mergeSort λa b=>decide (a<=b)
theorem xc:(vS l).Perm l:=List.mergeSort_perm _ _
theorem zoe:(vS l).Pairwise (·<=·):=(List.pairwise_mergeSort (λa b c d e=>by grind) (λa b=>by grind) l).imp λh=>ss h
theorem zb3{l:N0}(d:c.Perm l)(e:c.Pairwise (·<=·)):c=vS l :=
 List.Perm.eq_of_pairwise (λa b _ _ f g=>Int.le_antisymm f g) e (zoe l) (d.trans (xc l).symm)
theorem zjT{b:N0}(d:c.Perm b)(h:zhW c (lh c)):c=vS b:=by refine zb3 d (List.pairwise_iff_getElem.2 λi j e l a=>?_);have:=h i j a l;simpa[lg,e,l]using this
theorem If:lh (vS l)=lh l:=(xc l).length_eq
def Xd(s o g:Nat):Nat:=if aQ (s ^^^ (s&&&g))=1 then o|||(s ^^^ (s&&&g))else o
def PQ(a:O0)(s:Nat):Nat:=a.foldl (Xd s) 0
def xb(a:O0)(s:Nat):Nat->Nat
 | 0=>0
 | i+1=>if s.testBit i&&a.any (λg=>g&&&(s-2^i)==s-2^i)then xb a s i|||2^i else xb a s i
theorem Lz:∀(a:O0)(o:Nat),(a.foldl (Xd s) o).testBit j=(o.testBit j||a.any λg=>decide (aQ (s ^^^ (s&&&g))=1)&&(s ^^^ (s&&&g)).testBit j):=by
 intro a;induction a with
 | nil=>intro o;simp
 | cons g a b =>intro o;rw[qY,b,hO,<- nI];congr 1;unfold Xd;by_cases h:aQ (s ^^^ (s&&&g))=1;rw[ae h,bq];simp[h];rw[ac h];simp[h]
theorem zhV:∀k,(xb X s k).testBit b=(decide (b<k)&&(s.testBit b&&X.any λg=>g&&&(s-2^b)==s-2^b)):=by
 intro k;induction k with
 | zero=>simp[xb]
 | succ k j =>rw[xb];grind
theorem zrg:∀s,s<64->∀g,g<64->(s&&&g==s)=k0\/(∀i,i<6->(decide (CJ (s ^^^ (s&&&g))=1)&&(s ^^^ (s&&&g)).testBit i)=(s.testBit i&&(g&&&(s-2^i)==s-2^i))):=by decide +kernel
theorem zjO{a:Type}{l:List a}{p q:a->Bool}(h:∀x∈l,p x=q x):l.any p=l.any q:=by
 grind
theorem zjP{a:Type}{l:List a}{p q:a->Bool}(h:∀x∈l,p x=q x):l.all p=l.all q:=by
 grind
theorem zrh{a:Type}(b:Bool)(l:List a)(p:a->Bool):(b&&l.any p)=l.any λx=>b&&p x:=by
 grind
theorem zoa(a:s<64)(b:¬j<6):s.testBit j=false:=eK (cp a (show 2^6<=2^j from aV om om))
theorem Pb{s g:Nat}(a:s<64):s ^^^ (s&&&g)<64:=gR (n:=6) a (bD bI a)
theorem zvS(c:s<64)(e:∀g∈X,g<64)(f:∀g∈X,(s&&&g==s)=l0):PQ X s=xb X s 6:=by
 refine bB λi=>?_;unfold PQ;rw[Lz,zhV,dQ,gm];by_cases b:i<6;rw[ay b,au,zrh];refine zjO λg d=>?_;rw[yS<|Pb c];rcases zrg s c g (e g d)with h|h
 rw[f g d]at h;cases h;exact h i b;rw[aD b,ce,pk];intro g _;rw[zoa (Pb c) b];simp
theorem zob(h:(PQ X s).testBit j=k0):s.testBit j=true:=by
 unfold PQ at h;rw[Lz,dQ,gm,cS]at h;obtain⟨g,_,h⟩:=h;rw[aj]at h;have h:=h.2;rw[eS,bQ]at h;cases b:s.testBit j with
 | true=>rfl
 | false=>rw[b]at h;simp at h
theorem Xe{k:Nat}(h:(xb X s k).testBit j=k0):s.testBit j=true:=by rw[zhV,aj,aj]at h;exact h.2.1
theorem UU(c:j<64)(h:∀i,s.testBit i=k0->j.testBit i=k0):s<64:=by
 have:s<2^6:=tn _ λi e=>by
  cases d:s.testBit i with
  | false=>rfl
  | true=>have b:=h i d;rw[zoa c (show ¬i<6 by omega)]at b;exact b.symm
 exact this
theorem zsQ{bs:O0}(a:s<64):PQ bs s<64:=UU a λ_=>zob
theorem zsR(b:s<64):xb X s j<64:=UU b λ_=>Xe
def KA(a:O0)(s:Nat):Bool:=a.all λg=>PQ a s ^^^ (PQ a s&&&g) != 0
def zjQ(a:O0)(s:Nat):Bool:=a.all λg=>(g&&&s)&&&xb a s 6 != xb a s 6
theorem vR:s&&&j=s↔∀i,s.testBit i=k0->j.testBit i=true:=by
 constructor;intro h i c;rw[<- h,bQ,aj]at c;exact c.2;intro h;refine bB λi=>?_;rw[bQ];cases d:s.testBit i with
 | false=>rfl
 | true=>rw[h i d];rfl
theorem UV:s ^^^ (s&&&j)=0↔s&&&j=s:=by constructor;intro h;refine vR.2 λi c=>?_;have:=cV (λx=>x.testBit i) h;simp only[eS,bQ,dQ,c,au]at this;simpa using this;intro h;rw[h];simp
theorem zt8(f:s<64)(j:∀g∈X,g<64):KA X s=zjQ X s:=by
 by_cases e:∃g∈X,(s&&&g==s)=k0;have⟨g,d,h⟩:=e;have h:=beq_iff_eq.1 h;have c:=vR.1 h;have k:KA X s=false:=by unfold KA;rw[fo];refine⟨g,d,?_⟩;have:PQ X s ^^^ (PQ X s&&&g)=0:=UV.2<|vR.2 λi b=>c i<|zob b;rw[this];simp
 have l:zjQ X s=false:=by
  unfold zjQ;rw[fo];refine⟨g,d,?_⟩;have:(g&&&s)&&&xb X s 6=xb X s 6:=by rw[cl];refine vR.2 λi b=>?_;rw[bQ,c i<|Xe b,Xe b];rfl
  rw[this];simp
 rw[k,l];have m:∀g∈X,(s&&&g==s)=false:=λg d=>by
  cases h:(s&&&g==s)with
  | false=>rfl
  | true=>exact absurd ⟨g,d,h⟩ e
 unfold KA zjQ;rw[zvS f j m];refine zjP λg _=>?_;have:(xb X s 6 ^^^ (xb X s 6&&&g)=0)↔((g&&&s)&&&xb X s 6=xb X s 6):=by rw[UV,cl<|g&&&s,vR,vR];refine forall_congr' λi=>⟨λh b=>?_,λh b=>?_⟩;rw[bQ,h b,Xe b];rfl;have:=h b;rw[bQ,aj]at this;exact this.1
 grind
theorem zoc{a:O0}(h:X.Perm a):PQ X b=PQ a b:=by refine bB λi=>?_;simp[PQ,Lz,h.any_eq]
theorem zjR{a:O0}(h:X.Perm a):KA X b=KA a b:=by unfold KA;rw[zoc b h,h.all_eq]
def wZ(f:V0)(s:Nat):O0:=(lc 64).filter λt=>f t&&(t&&&s==s)&&t != s
def kx(f:V0)(s:Nat):Bool:=lh (wZ f s)==1
def pB(f:V0)(s:Nat):V0:=λu=>f u&&!(u&&&s==s)
def eN(f:V0):O0:=(co f).filter (kx f)
def pe(l:O0):Nat:=lg l (lh l-1) 0
def lJ(f:V0):Bool:=lh (eN f)==0||pe (eN f)==0
def QB:Nat->(V0)->O0->(V0)×O0
 | 0,f,l=>(f,l)
 | n+1,f,l=>if lJ f=k0 then(f,l)else QB n (pB f (pe (eN f))) (l++[pe (eN f)])
def zbY(f:V0):Nat:=lh ((lc 64).filter f)
theorem vO{f:V0}(h:lJ f=k0)(l:O0):∀n,QB n f l=(f,l):=by
 intro n;cases n with
 | zero=>rfl
 | succ n=>rw[QB,ae h]
theorem vP(h:lJ f=l0):pe (eN f)<64/\f (pe (eN f))=k0/\kx f (pe (eN f))=k0/\0<(eN f).length/\pe (eN f)≠0:=by unfold lJ at h;rw[ir,bc]at h;have a:pe _∈eN f:=aP 0 om;have⟨b,c⟩:=List.mem_filter.1 a;have⟨d,e⟩:=cR.1 b;grind
theorem zen{q:V0}(l:O0)(c:∀x∈l,q x=k0->f x=k0)(e:s∈l)(j:f s=k0)(k:q s=l0):lh (l.filter q)<(l.filter f).length:=by
 induction l with
 | nil=>cases e
 | cons a l p =>
   have g:∀(l:O0),(∀x∈l,q x=k0->f x=k0)->lh (l.filter q)<=(l.filter f).length:=by
    intro l;induction l with
    | nil=>intro _;exact ab _
    | cons b l p =>
      intro h;have r:=p λx d=>h x (dd _ d);have m:=h b (cU ..);rw[bF,bF];cases i:q b with
      | true=>rw[m i];simp only[eW,bH];omega
      | false=>cases n:f b<;>simp<;>omega
   rw[bF,bF];rcases List.mem_cons.1 e with rfl|e
   rw[j,k];have:=g l λx d=>c x (dd _ d);simp;omega;have:=p (λx d=>c x (dd _ d)) e;have o:=c a (cU ..);cases i:q a with
   | true=>rw[o i];simp;omega
   | false=>cases n:f a<;>simp<;>omega
theorem zn9(b:s<64)(a:f s=k0):zbY (pB f s)<zbY f:=by refine zen _ (λx _ h=>?_) (List.mem_range.2 b) a ?_;simp_all[pB];simp[pB]
theorem Ie(h:lJ f=l0)(l:O0)(c:zbY f<=s+1):QB (s+1) f l=QB s (pB f (pe (eN f))) (l++[pe (eN f)])/\zbY (pB f (pe (eN f)))<=s:=have⟨a,b,_⟩:=vP h;have:=zn9 a b;⟨by rw[QB,ac<|by grind],om⟩
theorem Xc(h:lJ f=l0):0<zbY f:=by have⟨a,b,_⟩:=vP h;have:=zn9 a b;omega
theorem zbZ:j∈wZ f s↔j<64/\f j=k0/\j&&&s=s/\j≠s:=by unfold wZ;simp only[dG,eJ,aj,aK,gS];exact⟨λ⟨a,⟨b,c⟩,d⟩=>⟨a,b,c,d⟩,λ⟨a,b,c,d⟩=>⟨a,⟨b,c⟩,d⟩⟩
def xa(f:V0)(s:Nat):Nat:=lg (wZ f s) 0 0
theorem zeo(h:kx f s=k0):wZ f s=[xa f s]:=by
 unfold kx at h;match b:wZ f s,h with
 | [a],_=>simp[xa,b]
theorem zhU(h:kx f s=k0):xa f s<64/\f (xa f s)=k0/\xa f s&&&s=s/\xa f s≠s :=
 zbZ.1<|by simp[zeo h]
theorem zrd(g:s<64)(h:kx f s=k0)(b:j<64):pB f s j=(f j&&!(j==s||j==xa f s)):=by
 unfold pB;cases c:f j with
 | false=>rfl
 | true =>rw[au,au];congr 1;obtain⟨i,k,d,l⟩:=zhU h;rw[aZ,aK,cw,aK,aK];constructor;intro e;by_cases a:j=s;exact .inl a;have:j∈wZ f s:=zbZ.2 ⟨b,c,e,a⟩;rw[zeo h]at this;exact .inr (List.mem_singleton.1 this);rintro(rfl|rfl);exact dp _;exact d
theorem zre(b:s<64)(h:kx f s=k0):bA f 64 ^^^ (bA f 64&&&(2^s|||2^xa f s))=bA (pB f s) 64:=by
 refine bB λi=>?_;rw[eS,bQ,mM,mM];by_cases a:i<64;rw[zrd b h a];grind;grind
def DnF(f:V0):Prop:=∀s t,f s=k0->s&&&t=t->f t=k0
theorem zsP(h:DnF f)(s:Nat):DnF (pB f s):=λu v b a=>by unfold pB at b ⊢;rw[aj,bC,bc]at b ⊢;refine⟨h u v b.1 a,λe=>b.2 ?_⟩;grind
theorem zep(h:DnF f)(b:s<64):((lc 64).any λt=>f t&&(t&&&s==s))=f s:=by rw[aZ,cS];constructor;rintro⟨t,_,a⟩;rw[aj,aK]at a;exact h t s a.1 a.2;grind
theorem tM{g:V0}(h:∀s,s<64->f s=g s):eN f=eN g:=by rw[eN,mo h];refine eM λs b=>?_;unfold kx wZ;congr 2;refine eM λt a=>?_;grind
theorem je{g:V0}(h:∀s,s<64->f s=g s)(b:Bool):dI f b=dI g b:=by unfold dI;rw[mo h];unfold iF;grind
theorem vQ(f:V0):lh (eN f)<=448:=aJ (aO _ _)<|ordN_len f
theorem Pa{g:V0}(h:∀s,s<64->f s=g s)(s:Nat):wZ f s=wZ g s:=by refine eM λt a=>?_;grind
theorem zb0{g:V0}(h:∀s,s<64->f s=g s)(s:Nat):kx f s=kx g s:=by unfold kx;rw[Pa h]
section
variable {p:Nat}[NeZero p]
end
theorem zo4(c:s<64)(h:¬j&&&s=s):∃i,i<6/\s.testBit i=k0/\j.testBit i=false:=by rw[cg]at h;obtain⟨i,b⟩:=Classical.not_forall.1 h;have a:s.testBit i=k0/\¬j.testBit i=true:=⟨aC λh=>b λd=>absurd d h,λh=>b λ_=>h⟩;refine⟨i,aC λe=>?_,a.1,ss a.2⟩;have:=eK (x:=s) (i:=i) (cp c (aV (n:=2) (i:=6) dc om));rw[a.1]at this;cases this
theorem zid{i:Nat}(a:s.testBit i=k0)(b:j.testBit i=l0):¬j&&&s=s:=λh=>by have:=cg.1 h i a;rw[b]at this;cases this
theorem zuv:∀x,x<64->∀i,i<6->x.testBit i=k0->∀t,t<64->((x-2^i)&&&t==t)=(x&&&t==t&&!t.testBit i):=by decide +kernel
theorem XA{t:Nat}(a:s<64)(b:j<6)(c:s.testBit j=k0)(d:t<64):(s-2^j)&&&t=t↔s&&&t=t/\t.testBit j=false:=by have:=zuv s a j b c t d;rw[aZ,aK,aj,aK,bC]at this;exact this
theorem zuw:∀m,m<6->∀y,y<2^m->∀t,t<2^m->((y+2^m)&&&(t+2^m)==t+2^m)=(y&&&t==t)/\((y+2^m)&&&t==t)=(y&&&t==t)/\(y&&&(t+2^m)==t+2^m)=false:=dc
theorem zeN{t:Nat}(c:s<6)(d:j<2^s)(e:t<2^s):((j+2^s)&&&(t+2^s)=t+2^s↔j&&&t=t)/\((j+2^s)&&&t=t↔j&&&t=t)/\¬j&&&(t+2^s)=t+2^s:=by obtain⟨a,b,f⟩:=zuw s c j d t e;rw[aZ,aK,aK]at a b;exact⟨a,b,beq_eq_false_iff_ne.1 f⟩
def sdF(m s:Nat)(f:V0)(t:Nat):Bool:=if t<2^m then pB f s t else decide (t<2^(m+1))&&(f ((t-2^m)|||s)&&!((t-2^m)&&&s==s))
def Vd(m s x i:Nat):O0:=if s.testBit i=k0 then [x-2^i,x-2^i+2^m]else []
def QX(m s x:Nat):O0:=if x&&&s=s then(lc 6).flatMap (Vd m s x)else [x]
theorem zie{t:Nat}:s&&&(t|||j)=t|||j↔s&&&t=t/\s&&&j=j:=by simp only[cg,bq,cw];exact⟨λh=>⟨λi a=>h i (.inl a),λi a=>h i (.inr a)⟩,λh i a=>a.elim (h.1 i) (h.2 i)⟩
theorem Iq{x y:Nat}(_:x<64):y∈QX s j x↔(¬x&&&j=j/\y=x)\/(x&&&j=j/\∃i,i<6/\j.testBit i=k0/\(y=x-2^i\/y=x-2^i+2^s)):=by unfold QX Vd;by_cases h:x&&&j=j;rw[ae h,iV];refine⟨λ⟨i,c,b⟩=>.inr ⟨h,i,List.mem_range.1 c,?_⟩,λa=>?_⟩;split at b;rename_i d;exact⟨d,ss b⟩;cases b;obtain⟨_,i,c,b,f⟩:=a.resolve_left λa=>a.1 h;exact⟨i,List.mem_range.2 c,by rw[ae b];simpa using f⟩;rw[ac h,fZ];exact⟨λe=>.inl ⟨h,e⟩,λa=>(a.resolve_right λa=>h a.1).2⟩
theorem zo5(q:s<6)(I:j<2^s)(p:∀x∈X,x<2^s)(D:∀t,f t=k0↔∃x∈X,x&&&t=t){t:Nat}(E:t<64) :
 sdF s j f t=k0↔∃x∈X,∃y∈QX s j x,y&&&t=t:=by
 have F:2^s<=32:=aV (n:=2) (i:=s) (j:=5) dc om
 have l:∀{x t:Nat},x<2^s->x&&&t=t->t<2^s:=λ{x t}c h=>bD (by rw[<- h];exact bI) c
 unfold sdF
 by_cases r:t<2^s
 ·rw[ae r];unfold pB;rw[aj,D,bC,bc];constructor
  ·rintro⟨⟨x,c,d⟩,w⟩;have:=p x c;refine⟨x,c,?_⟩;by_cases e:x&&&j=j
   ·obtain⟨i,k,g,z⟩:=zo4 om w;exact⟨x-2^i,(Iq om).2 (.inr ⟨e,i,k,g,.inl rfl⟩),(XA om k (cg.1 e i g) E).2 ⟨d,z⟩⟩
   ·exact⟨x,(Iq om).2 (.inl ⟨e,rfl⟩),d⟩
  ·rintro⟨x,c,y,A,d⟩;have:=p x c;rcases(Iq om).1 A with⟨e,rfl⟩|⟨e,i,k,g,o⟩
   ·exact⟨⟨y,c,d⟩,λh=>e (cg.2 λi G=>cg.1 d i (cg.1 h i G))⟩
   ·have B:(x-2^i)&&&t=t:=by
     rcases o with rfl|rfl
     ·exact d
     ·exact(zeN q (bD (mE x (2^i)) this) r).2.1.1 d
    obtain⟨a,b⟩:=(XA om k (cg.1 e i g) E).1 B;exact⟨⟨x,c,a⟩,zid g b⟩
 ·rw[ac r];obtain⟨u,rfl⟩:∃u,t=u+2^s:=⟨t-2^s,om⟩;rw[dS,aj,aq,aj,D,bC,bc];constructor
  ·rintro⟨d,⟨x,c,w⟩,e⟩;rw[fm]at d;have:=p x c;obtain⟨o,C⟩:=zie.1 w;obtain⟨i,k,g,z⟩:=zo4 om e;exact⟨x,c,x-2^i+2^s,(Iq om).2 (.inr ⟨C,i,k,g,.inr rfl⟩),(zeN q (bD (mE x (2^i)) this) om).1.2 ((XA om k (cg.1 C i g) om).2 ⟨o,z⟩)⟩
  ·rintro⟨x,c,y,A,d⟩;have:=p x c;rcases(Iq om).1 A with⟨e,rfl⟩|⟨e,i,k,g,o⟩
   ·exact absurd (l this d) om
   ·rcases o with rfl|rfl
    ·exact absurd (l (x:=x-2^i) (bD (mE x (2^i)) this) d) om
    ·have H:u<2^s:=by
      have C:u+2^s<=x-2^i+2^s:=by
       conv=>lhs;rw[<- d]
       exact bI
      have:=mE x (2^i);omega
     obtain⟨a,b⟩:=(XA om k (cg.1 e i g) om).1 ((zeN q (bD (mE x (2^i)) this) H).1.1 d);exact⟨by rw[fm];omega,⟨x,c,zie.2 ⟨a,e⟩⟩,zid g b⟩
theorem zrR(A:j<2^s)(o:∀t,f t=k0->t<2^s){t:Nat} :
 sdF s j f t=k0↔pB f j t=k0\/∃b a,dL f j b=k0/\j&&&a=a/\a≠j/\t=2^s|||a|||b:=by
 have d:∀{a b:Nat},dL f j b=k0->j&&&a=a->2^s|||a|||b=(a|||b)+2^s/\a|||b<2^s/\((a|||b)|||j=b|||j)/\((a|||b)&&&j=a):=λ{a b}g k=>by
  unfold dL at g;rw[aj,aK]at g;have p:=o _ g.2;have q:a<2^s:=bD (by rw[<- k];exact bI) A;have r:b<2^s:=bD pt p;have n:a|||b<2^s:=cu q r
  have e:=rJ n 1;rw[dh]at e;refine⟨by rw[xt,<- e,xr],n,bB λi=>?_,bB λi=>?_⟩;have:=cV (λx=>x.testBit i) k;simp only[bQ,bq]at this ⊢;revert this;cases a.testBit i<;>cases b.testBit i<;>cases j.testBit i<;>simp;have m:=cV (λx=>x.testBit i) k;have c:=cV (λx=>x.testBit i) g.1;simp only[bQ,bq,dQ]at m c ⊢;revert m c;cases a.testBit i<;>cases b.testBit i<;>cases j.testBit i<;>simp
 unfold sdF
 by_cases m:t<2^s
 rw[ae m];refine⟨.inl,λh=>h.elim id ?_⟩;rintro⟨b,a,c,l,_,rfl⟩;rw[(d c l).1]at m;omega
 rw[ac m];have w:¬pB f j t=true:=λh=>m (o t (by unfold pB at h;rw[aj]at h;exact h.1));obtain⟨u,rfl⟩:∃u,t=u+2^s:=⟨t-2^s,om⟩;rw[dS,aj,aq,aj,bC,bc];constructor
 rintro⟨c,l,y⟩;have B:=o _ l;have C:u<2^s:=bD pt B;have z:u&&&j|||(u ^^^ (u&&&j))=u:=bB λi=>by simp only[bQ,bq,eS];cases u.testBit i<;>cases j.testBit i<;>rfl
 have g:dL f j (u ^^^ (u&&&j))=true:=by
  unfold dL;rw[aj,aK];refine⟨bB λi=>?_,?_⟩;simp only[bQ,eS,dQ];cases u.testBit i<;>cases j.testBit i<;>rfl;rw[show u ^^^ (u&&&j)|||j=u|||j from bB λi=>by
   simp only[bQ,bq,eS];cases u.testBit i<;>cases j.testBit i<;>rfl]
  exact l
 have k:j&&&(u&&&j)=u&&&j:=by rw[cl j,fD,dp]
 exact .inr ⟨_,_,g,k,y,by rw[(d g k).1,z]⟩
 intro h;obtain⟨b,a,c,l,y,D⟩:=h.resolve_left w;obtain⟨E,H,F,G⟩:=d c l;rw[E]at D;have:u=a|||b:=om
 subst this;refine⟨by rw[fm];omega,?_,by rw[G];exact y⟩;rw[F];unfold dL at c;rw[aj]at c;exact c.2
theorem PG(_:s≠0):Go.Lib.decDigits s=(if s/10=0 then []else Go.Lib.decDigits (s/10))++[UInt8.ofNat (48+s%10)]:=by rw[Go.Lib.decDigits];grind
theorem zik{b:Type}{motive:List b->Prop}(nil:motive [])(snoc:∀l a,motive l->motive (l++[a]))(l:List b):motive l:=by
 have h:∀r:List b,motive r.reverse:=λr=>by
  induction r with
  | nil=>grind
  | cons a r c=>grind
 have:=h l.reverse;grind
def oI(l:List UInt8):Nat:=l.foldl (λn c=>10*n+(c.toNat-48)) 0
theorem PH(c:UInt8):oI (a++[c])=10*oI a+(c.toNat-48):=by simp[oI]
def JI(l:List UInt8):Bool:=l.all λc=>decide (48<=c.toNat)&&decide (c.toNat<=57)
theorem zv0(h:48<=x.toNat/\x.toNat<=57):UInt8.ofNat (48+(x.toNat-48))=x:=by simp_all
theorem zpc:∀(l:List UInt8),JI l=k0->oI l<10^l.length:=by
 intro l;induction l using zik with
 | nil=>decide
 | snoc l c a =>intro h;unfold JI at h a;rw[fW,aj]at h;have b:=a h.1;simp at h;rw[PH,aA,cG];omega
theorem zrW:s≠0->∃c l,Go.Lib.decDigits s=c::l/\c.toNat≠48:=by
 induction s using Nat.strongRecOn with
 | _ s b =>intro h;rw[PG h];split;simp;omega;rename_i a;have⟨c,l,e,d⟩:=b _ om a;grind
theorem zux:∀(l:List UInt8),JI l=k0->l≠[]->(l.head?.map UInt8.toNat≠some 48)->oI l≠0/\Go.Lib.decDigits (oI l)=l:=by
 intro l;induction l using zik with
 | nil=>simp
 | snoc l c e =>
   intro h _ f;unfold JI at h e;rw[fW,aj]at h;have g:48<=c.toNat/\c.toNat<=57:=by grind
   rw[PH];by_cases b:l=[];subst b;have i:=ss f;have j:oI []=0:=rfl;rw[j];refine⟨om,?_⟩;rw[PG om,ae om,show(10*0+(c.toNat-48))%10=c.toNat-48 by omega,zv0 g];have d:l.head?.map UInt8.toNat≠some 48:=by
    grind
   have⟨k,m⟩:=e h.1 b d;refine⟨om,?_⟩;rw[PG om,show(10*oI l+(c.toNat-48))/10=oI l by omega,ac k,m,show(10*oI l+(c.toNat-48))%10=c.toNat-48 by omega,zv0 g]
theorem XG:Go.Lib.decDigits 0=[48]:=by simp[Go.Lib.decDigits]
theorem zuy(h:JI d=k0)(i:d≠[]):Go.Lib.decDigits (oI d)=d↔d.length=1\/d.head?.map UInt8.toNat≠some 48:=by
 by_cases a:d.head?.map UInt8.toNat=some 48;by_cases b:lh d=1
 match d,b with
 | [c],_ =>refine⟨λ_=>.inl rfl,λ_=>?_⟩;have l:c.toNat=48:=ss a;have e:c=48:=UInt8.toNat_inj.1 l;subst e;show Go.Lib.decDigits 0=_;rw[XG]
 refine⟨λe=>?_,λj=>absurd a (j.resolve_left b)⟩;by_cases f:oI d=0;rw[f,XG]at e;rw[<- e]at b;exact absurd rfl b;obtain⟨c,k,g,l⟩:=zrW f;rw[e]at g;rw[g]at a;exact absurd (ss a) l;exact⟨λ_=>.inr a,λ_=>(zux d h i a).2⟩
def GB(l:List UInt8)(a:Nat):Bool:=decide (1<=lh l)&&decide (lh l<=a)&&(JI l&&(decide (lh l=1)||!decide ((lg l 0 0).toNat=48)))
def Lb(l:List UInt8):List UInt8:=if(lg l 0 0).toNat=45 then l.drop 1 else l
def pg(l:List UInt8):Bool:=GB (Lb l) 12&&!decide ((lg l 0 0).toNat=45/\oI (Lb l)=0)
def we(l:List UInt8):Int:=if(lg l 0 0).toNat=45 then -(oI (Lb l):Int)else oI (Lb l)
theorem zkb(h:d≠[]):d.head?.map UInt8.toNat=some (lg d 0 0).toNat:=by
 cases d with
 | nil=>exact absurd rfl h
 | cons a d=>rfl
theorem zrX(a:1<=lh d)(k:lh d<=s)(b:JI d=k0):GB d s=k0↔Go.Lib.decDigits (oI d)=d:=by
 have c:d≠[]:=λe=>by rw[e]at a;exact absurd a dc
 rw[zuy b c,zkb c];unfold GB;rw[b,ay a,ay k];simp
theorem PI{l:List UInt8}(f:1<=lh (Lb l))(g:lh (Lb l)<=12)(i:JI (Lb l)=k0):Go.Lib.itoa (we l)=l↔pg l=true:=by
 unfold pg we;rw[aj,zrX f g i,bC,bJ];by_cases b:(lg l 0 0).toNat=45;rw[ae b];have c:l=45::Lb l:=by
  unfold Lb;rw[ae b];cases l with
  | nil=>exact absurd b dc
  | cons a l =>have:a=45:=UInt8.toNat_inj.1 b;rw[this];rfl
 by_cases d:oI (Lb l)=0;rw[d];refine⟨λe=>?_,λh=>absurd ⟨b,rfl⟩ h.2⟩;unfold Go.Lib.itoa at e;rw[ac dc,c]at e;rw[show((-((0:Nat):Int)).toNat)=0 from rfl,XG]at e;exact absurd e sp;unfold Go.Lib.itoa;rw[ae om,show(-(oI (Lb l):Int)).natAbs=oI (Lb l)by omega];constructor;intro e;rw[c]at e;exact⟨(List.cons.inj e).2.trans (cV Lb c).symm.symm,λh=>d h.2⟩;rintro⟨e,_⟩;rw[e];exact c.symm;rw[ac b];have c:Lb l=l:=ac b;unfold Go.Lib.itoa;rw[ac om,ar,c];exact⟨λe=>⟨e,λh=>b h.1⟩,λh=>h.1⟩
def zT(b:Nat):List UInt8->List (List UInt8)
 | []=>[[]]
 | x::l=>if x.toNat=b then []::zT b l else match zT b l with|p::r=>(x::p)::r|[]=>[[x]]
theorem nG(x:UInt8)(l:List UInt8):zT b (x::l)=if x.toNat=b then []::zT b l else match zT b l with|p::r=>(x::p)::r|[]=>[[x]]:=rfl
theorem DH:zT b a≠[]:=by
 cases a with
 | nil=>simp[zT]
 | cons x a=>unfold zT;grind
theorem zcu(b:Nat):∀(l:List UInt8)(x:UInt8),zT b (l++[x])=if x.toNat=b then zT b l++[[]]else(zT b l).dropLast++[(zT b l).getLastD []++[x]]
 | [],x=>by by_cases h:x.toNat=b<;>simp[zT,h]
 | y::l,x=>by
   rw[kE,nG,nG,zcu b l x];have c:=DH b l;by_cases h:x.toNat=b;rw[ae h,ae h];by_cases a:y.toNat=b;rw[ae a,ae a];rfl;rw[ac a,ac a];cases d:zT b l with
   | nil=>exact absurd d c
   | cons p r=>rfl
   rw[ac h,ac h];by_cases a:y.toNat=b;rw[ae a,ae a];cases d:zT b l with
   | nil=>exact absurd d c
   | cons p r=>simp
   rw[ac a,ac a];cases d:zT b l with
   | nil=>exact absurd d c
   | cons p r=>cases r with
     | nil=>simp
     | cons e r=>simp
theorem zuC:fK t b=(lg t.data.toList b 0).toNat:=rfl
theorem PJ:(t.extract b i).data.toList=(t.data.toList.take i).drop b:=by rw[xx,Aa,na,List.drop_take]
theorem zpg:∀i,i<=t.size->zT b (t.data.toList.take i)=(pU t b i).1.map (λp=>p.data.toList)++[(t.data.toList.take i).drop (pU t b i).2]:=by
 intro i;induction i with
 | zero=>simp[zT,pU]
 | succ i a =>intro c;have d:i<lh _:=c;have e:=(Li t b i).1;rw[bj 0 d,zcu,a om,<- zuC];by_cases h:fK t i=b;have f:((t.data.toList.take i)++[lg t.data.toList i 0]).drop (i+1)=[]:=eI (by grind);simp only[ae h,uW h,cq,dR,gy,PJ];rw[f];rw[ac h,Fj h,List.dropLast_concat,List.getLastD_concat,kP (by grind)]
theorem qi:(dO t b).map (λp=>p.data.toList)=zT b t.data.toList:=by have h:=zpg t b _<|ab _;have a:t.data.toList.take t.size=t.data.toList:=bK<|ab _;rw[dO,cq,dR,PJ];grind
theorem XI{b:Nat}:∀{l p:List UInt8},p∈zT b l->lh p<=lh l
 | [],p,h=>by simp[List.mem_singleton.1 h]
 | x::l,p,h=>by
   rw[nG]at h;have c:=DH b l;by_cases d:x.toNat=b;rw[ae d]at h;rcases List.mem_cons.1 h with rfl|h
   simp;exact po<|XI h;rw[ac d]at h;cases a:zT b l with
   | nil=>grind
   | cons q r =>
     rw[a]at h;rcases List.mem_cons.1 h with rfl|h
     exact Nat.succ_le_succ<|XI<|a ▸ cU;exact po<|XI<|a ▸ dd _ h
theorem zU{p:P0}{b:Nat}(h:p∈dO r b):p.size<=r.size:=by have:=XI (by rw[<- qi];exact List.mem_map_of_mem h);simp_all
theorem XJ{b:Nat}{x:UInt8}(d:x.toNat≠b):∀{l:List UInt8},x∈l->∃p∈zT b l,x∈p
 | y::l,h=>by
   have e:=DH b l;rw[nG];by_cases f:y.toNat=b;rcases List.mem_cons.1 h with rfl|h
   grind;have⟨p,a,c⟩:=XJ d h;grind;rw[ac f];cases g:zT b l with
   | nil=>grind
   | cons p r =>
     rcases List.mem_cons.1 h with rfl|h;simp;have⟨q,a,c⟩:=XJ d h;grind
theorem Ab{b:Nat}:∀{l:List UInt8},(∀x∈l,x.toNat≠b)->zT b l=[l]
 | [],_=>rfl
 | x::l,h=>by rw[nG,ac<|h x cU,Ab λy a=>h y<|dd _ a]
theorem zil{b:Nat}:∀{l:List UInt8}{x:UInt8},x∈l->x.toNat=b->2<=lh (zT b l)
 | y::l,x,h,d=>by
   rw[nG];have f:=List.length_pos_iff.2 (DH b l);by_cases c:y.toNat=b;grind;rcases List.mem_cons.1 h with rfl|h
   omega;have:=zil h d;grind
theorem XK{b:Nat}:∀{l a c:List UInt8},zT b l=[a,c]->∃x:UInt8,x.toNat=b/\l=a++x::c/\(∀y∈c,y.toNat≠b)/\∀y∈a,y.toNat≠b
 | [],a,c,h=>by simp[zT]at h
 | x::l,a,c,h=>by
   rw[nG]at h;have g:=DH b l;by_cases f:x.toNat=b;rw[ae f]at h;obtain⟨rfl,d⟩:=List.cons.inj h;have j:∀y∈l,y.toNat≠b:=λy k e=>by have:=zil k e;grind
   rw[Ab j]at d;grind;rw[ac f]at h;cases i:zT b l with
   | nil=>grind
   | cons p r =>rw[i]at h;obtain⟨rfl,d⟩:=List.cons.inj h;obtain⟨z,m,n,o,q⟩:=XK (by rw[i,d]);grind
theorem zpd(h:49<=x.toNat/\x.toNat<=54):pg [x]=k0/\we [x]=((x.toNat-48:Nat):Int):=by
 have b:x=UInt8.ofNat x.toNat:=sp;have:∀m:Fin 6,pg [UInt8.ofNat (49+m.val)]=k0/\we [UInt8.ofNat (49+m.val)]=((m.val+1)):=dc
 have a:=this ⟨x.toNat-49,om⟩;grind
theorem zuz(h:pg d=k0)(l:1<=we d)(f:we d<=6):∃c:UInt8,d=[c]/\(49<=c.toNat/\c.toNat<=54):=by
 have a:=h;unfold pg GB at a;simp only[aj,bT]at a;have e:=(PI a.1.1.1 a.1.1.2 a.1.2.1).2 h;have:∀m:Fin 6,Go.Lib.itoa ((m.val:Int)+1)=[UInt8.ofNat (49+m.val)]:=by decide +kernel
 have b:=this ⟨(we d-1).toNat,om⟩;rw[show(((we d-1).toNat:Nat):Int)+1=we d by omega,e]at b;refine⟨_,b,?_⟩;have:(UInt8.ofNat (49+(we d-1).toNat)).toNat=49+(we d-1).toNat:=by simp;omega
 rw[this];omega
def XH(t:P0):Bool:=decide (2<=t.size/\49<=fK t 0/\fK t 0<=54/\fK t 1=58)
def GC(t:P0):P0:=t.extract 2 t.size
def Iu(r:P0):Q0:=if r.size=0 then []else dO r 44
def ph(a:Q0):N0:=a.map λp=>((Br p:Nat):Int)
theorem Bb{a:Q0}(h:s<lh a):ph (a.take (s+1))=ph (a.take s)++[((Br (lg a s ⟨#[]⟩):Nat):Int)]:=by rw[ph,bj ⟨#[]⟩ h,cq];rfl
theorem zcr(a:Q0):lh (ph a)=lh a:=aG _
theorem zcs:(GC t).data.toList=t.data.toList.drop 2:=by rw[GC,PJ,show t.data.toList.take t.size=t.data.toList from bK (ab<|lh _)]
theorem zrY(h:x∈r.data.toList)(a:x.toNat=58):uq r=false:=by
 have⟨i,b,e⟩:=bV h;have c:fK r i=58:=by unfold fK;grind
 refine(zd3 ?_<|zd2 b om).2;refine aD λe=>?_;simp_all
theorem zpe(h:x∈r.data.toList)(c:x.toNat=58):(Iu r).all uq=false:=by
 rw[Iu,ac (λe=>by simp_all)];obtain⟨p,a,f⟩:=XJ (b:=44) om h;rw[<- qi]at a;obtain⟨q,g,rfl⟩:=List.mem_map.1 a;exact List.all_eq_false.2 ⟨q,g,by simp[zrY f c]⟩
theorem zuA{b:P0}(h:r.data.toList=b.data.toList):r=b:=iR<|Array.toList_inj.1 h
theorem zct(h:XH r=k0):∃c x:UInt8,r.data.toList=c::x::(GC r).data.toList/\fK r 0=c.toNat/\(49<=c.toNat/\c.toNat<=54)/\x.toNat=58:=by
 have h:=cH h;have a:2<=lh _:=h.1;rw[zcs];unfold fK at h ⊢
 match e:r.data.toList,a with
 | c::x::l,_ =>grind
theorem zrZ(h:(dO r 58).length≠2):(XH r&&(Iu (GC r)).all uq)=false:=by rw[er];refine Classical.or_iff_not_imp_left.2 λb=>?_;have⟨c,x,e,_,i,d⟩:=zct (Bool.not_eq_false _ ▸ b);refine aC λf=>h ?_;have a:∀y∈(GC r).data.toList,y.toNat≠58:=λy g e=>f<|zpe g e;have:=cV lh<|qi r 58;rw[aG]at this;rw[this,e,nG,ac om,nG,ae d,Ab a];rfl
theorem zpf{p q:P0}(h:dO r 58=[p,q]):p.size+(q.size+1)=r.size:=by
 have a:=by have:=qi r 58;rw[h]at this;exact this
 have⟨x,_,e,_⟩:=XK a.symm;have:=cV lh e;rw[aA]at this;exact this.symm
theorem zuB{p q:P0}(h:dO r 58=[p,q]):(XH r=k0->q=GC r)/\(XH r=k0↔∃c:UInt8,p.data.toList=[c]/\(49<=c.toNat/\c.toNat<=54))/\∀c:UInt8,p.data.toList=[c]->fK r 0=c.toNat:=by
 have j:[p.data.toList,q.data.toList]=zT 58 r.data.toList:=by have:=qi r 58;grind
 have⟨x,k,e,C,m⟩:=XK j.symm;have g:∀c:UInt8,p.data.toList=[c]->fK r 0=c.toNat:=λc a=>by simp[fK,e,a]
 have i:XH r=k0->∃c:UInt8,p.data.toList=[c]/\(49<=c.toNat/\c.toNat<=54)/\(GC r).data.toList=q.data.toList:=λb=>by
  have⟨c,y,n,o,a,t⟩:=zct b;match s:p.data.toList,e with
  | [],e=>grind
  | [d],e =>grind
  | d::d2::l,e =>grind
 refine⟨λb=>?_,⟨λb=>?_,λ⟨c,a,D⟩=>?_⟩,g⟩;have⟨c,_,_,w⟩:=i b;exact(zuA w).symm;grind;have E:=g c a;have B:r.size=lh _:=rfl;refine ay ⟨?_,om,om,?_⟩;grind;unfold fK;grind
end Go.Abs
