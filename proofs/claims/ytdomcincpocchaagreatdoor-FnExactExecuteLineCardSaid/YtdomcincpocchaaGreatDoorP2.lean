/- DERIVED by an AI agent. -/
import Derived.Test.YtdomcincpocchaaGreatDoorP1
import Derived.Lib.ItoaNum
set_option linter.all false
namespace Go.Abs
open Bool renaming true→n0,false→o0
open List renaming range→lc,getD→lg,length→lh
variable (c:W0)(l:P0)(t:S0)(b:Nat)(a:List UInt8)(d:Q0)(Q:Nat){f:X0}{s i:Nat}{e:P0}{X:Q0}{r:S0}{g:List UInt8}{h:P0->Int->Bool}{x:UInt8}
def zn6(w t:Nat):Nat->Nat|0=>0|v+1=>zn6 w t v+if t.testBit v then aQ (w&&&(2^v-1))else 0
def eB(w t:Nat):Bool:=zn6 w t 6%2==0
section
variable {p:Nat}[NeZero p]
end
def zem(f:X0)(p:Int)(k:Nat):Int:=((cd f k 64).length:Int)-kM f p k-kM f p (k+1)
theorem zq9(f:X0)(p:Int)(k:Nat):lg (ed f p) k 0=zem f p k:=by
 by_cases h:k<cv f;exact pX f p h;have a:lg (ed f p) k 0=0:=by rw[lg,eQ (by rw[df];omega)];rfl
 rw[a];unfold zem kM;rw[st om,ae (.inr om),ae (.inr om)];rfl
section
variable {p:Nat}[NeZero p]
theorem Xa(a:lM (p:Int)=n0)(b:CN f)(k:Nat):0<=zem f p k/\(zem f p k=0↔Ac p f k):=by obtain⟨d,c⟩:=zty (p:=p) a b k;unfold zem;rw[<- c];omega
end
def SI(l:Q0)(G:W0):Int:=l.foldr (λa s=>G a+s) 0
theorem zn5:SI [] c=0:=rfl
theorem WZ(G:W0):SI (b::d) G=G b+SI d G:=rfl
theorem zjK(b:Q0)(G:W0):SI (d++b) G=SI d G+SI b G:=by
 induction d with
 | nil=>simp[zn5]
 | cons x d c=>rw[kE,WZ,WZ,c];omega
section
variable {p:Nat}[NeZero p]
end
theorem zhT:∀w,w<64->∀t,t<64->(!(w&&&t==t)||(decide (aQ t<=aQ w)&&(decide (aQ t<aQ w)||t==w)))=true:=by decide +kernel
section
variable {p:Nat}[NeZero p]
end
section
variable {p:Nat}[NeZero p]
def zsO(p:Nat)[NeZero p](f:X0)(n d:Nat):Prop:=∀F,F<2^n->∀k,aQ F+k<d->Ac p (dL f F) k
end
theorem US:∀s,s<64->aQ s=0->s=0:=by decide +kernel
theorem zrb:∀s,s<64->s≠0->((lc 6).any λv=>s&&&2^v==2^v)=true:=by decide +kernel
section
variable {p:Nat}[NeZero p]
theorem zjN(r:lM (p:Int)=n0)(j:CN f)(t:f 0=n0):zem f p 0=if((lc 6).any λv=>f (2^v))=n0 then 0 else 1:=by
 obtain⟨F,u⟩:=Xa (p:=p) r j 0;by_cases d:((lc 6).any λv=>f (2^v))=n0;rw[ae d];obtain⟨v,d,k⟩:=List.any_eq_true.1 d;have w:v<6:=List.mem_range.1 d;have l:(2:Nat)^v<64:=bD (aV om (show v<=5 by omega)) dc;refine u.2 λx z A=>?_;obtain⟨y,B,e⟩:=zt7 (p:=p) l (Nat.pos_iff_ne_zero.1 (Nat.pow_pos om)) 0 x (z.mono λa i=>by
  have:a=0:=US a i.1 i.2.2;subst this;exact⟨dc,by unfold zn7;simp,kq⟩) A
 exact⟨y,B.mono λa i=>⟨i.1,j _ a k (zFS.1 i.2.1),i.2.2⟩,e⟩;rw[ac d];have C:cd f 0 64=[0]:=by
  unfold cd;have:∀s∈lc 64,(f s&&(aQ s==0))=(s==0):=λs m=>by have m:=List.mem_range.1 m;by_cases e:s=0;subst e;rw[t,kq];rfl;rw[beq_false_of_ne e,beq_false_of_ne λh=>e (US s m h),cT]
  rw[eM this];decide +kernel
 have D:cv f<=1:=Nat.le_of_not_lt λn=>by
  obtain⟨s,a,b,c⟩:=AH (f:=f) 64 (show 0<cv f by omega);have o:s≠0:=λe=>by subst e;rw[kq]at c;unfold cv at n;omega
  obtain⟨v,q,e⟩:=List.any_eq_true.1 (zrb s a o);exact d (List.any_eq_true.2 ⟨v,q,j s _ b (eq_of_beq e)⟩)
 have E:kM f p 1=0:=by unfold kM;rw[ae (.inr D)]
 unfold zem;rw[C,E];unfold kM;rw[ae (.inl rfl)];rfl
end
def UR(c:W0)(n Q t:Nat):Int:=SI (lc Q) λq=>if q<=t then sgI (t-q) (c q*(rg (n-q) (t-q):Nat))else 0
theorem zn8:UR c b 0 Q=0:=rfl
theorem OX(t:Nat):UR c b (Q+1) t=UR c b Q t+if Q<=t then sgI (t-Q) (c Q*(rg (b-Q) (t-Q):Nat))else 0:=by unfold UR;rw[bW,zjK,WZ,zn5,Int.add_zero]
theorem zjM:((lc 7).all λn=>(lc 8).all λk=>decide (rg n k<=20))=true:=by decide +kernel
theorem OY{n k:Nat}(a:n<=6)(b:k<=7):rg n k<=20:=by have:=List.all_eq_true.1 (List.all_eq_true.1 zjM n (List.mem_range.2 om)) k (List.mem_range.2 om);simpa using this
theorem Xb{c b:Int}(h:0<=c/\c<=64)(k:0<=b/\b<=20)(i:Nat):0<=c*b/\c*b<=1280/\-1280<=sgI i (c*b)/\sgI i (c*b)<=1280:=by have a:0<=c*b:=kH h.1 k.1;have d:c*b<=64*20:=kI h.2 k.2 k.1 dc;refine⟨a,om,?_,?_⟩<;>(unfold sgI;split<;>omega)
theorem AU{c:W0}(a:∀q,0<=c q/\c q<=64){n t:Nat}(d:n<=6)(e:t<=n):∀Q:Nat,-(1280*(Q:Int))<=UR c n Q t/\UR c n Q t<=1280*(Q:Int)
 | 0=>by rw[zn8];omega
 | Q+1=>by have f:=AU a d e Q;rw[OX];by_cases h:Q<=t;rw[ae h];have g:=OY (n:=n-Q) (k:=t-Q) om om;have:=Xb (a Q) (b:=(rg (n-Q) (t-Q):Nat)) ⟨om,om⟩ (t-Q);push_cast;omega;rw[ac h];push_cast;omega
section
variable {p:Nat}[NeZero p]
end
theorem AS:dL f s i=n0↔i&&&s=0/\f (i|||s)=true:=by simp[dL]
theorem OW(c:CN f)(F:Nat):CN (dL f F):=λs t a b=>by rw[AS]at a ⊢;refine⟨?_,c _ _ a.2 (bB λi=>?_)⟩;rw[<- b,fD,cl t F,<- fD,a.1,Nat.zero_and];have:=cV (λz=>z.testBit i) b;simp only[bQ,bq]at this ⊢;revert this;cases s.testBit i<;>cases t.testBit i<;>cases F.testBit i<;>decide
theorem zvR(c:s<64)(d:i<64):s|||i<64:=cu (n:=6) c d
section
variable {p:Nat}[NeZero p]
theorem zq7(h:∀k,k<64->f k=n0->aQ k≠s):Ac p f s:=λx c _=>by have:x=v0:=funext λa=>c a λb=>h a b.1 b.2.1 b.2.2;exact⟨v0,λ_ _=>rfl,by rw[this,Wy]⟩
theorem zjJ(l:lM (p:Int)=n0)(t:CN f)(u:s<64)(h:f s=n0)(c:∀F,F<64->f F=n0->F&&&s=s->F=s):¬Ac p (dL f s) 0:=λd=>by
 have o:=OW t s;have w:dL f s 0=true:=AS.2 ⟨Nat.zero_and _,by rw[JS];exact h⟩;have g:=zjN (p:=p) l o w;rw[((Xa (p:=p) l o 0).2).2 d]at g;split at g;rename_i i;obtain⟨v,i,x⟩:=List.any_eq_true.1 i;have j:v<6:=List.mem_range.1 i;obtain⟨a,b⟩:=AS.1 x;have k:(2:Nat)^v<64:=bN (m:=v) (n:=6) dc j;have e:=c _ (zvR k u) b (by rw[JR];exact tI);have q:(2^v|||s).testBit v=true:=by rw[bq,bR];simp
 have r:(2^v&&&s).testBit v=s.testBit v:=by rw[bQ,bR];simp
 rw[e]at q;rw[a,q,dQ]at r;cases r;cases g
def zsN(p:Nat)[NeZero p](f:X0)(n d:Nat):Prop:=(∃F k,F<2^n/\f F=n0/\¬Ac p (dL f F) k/\aQ F+k=d)/\zsO p f n d
theorem zbX(b:CN f)(h:∀F,F<2^s->f F=n0->∀k,aQ F+k<i->Ac p (dL f F) k):zsO p f s i:=λF c k e=>by
 cases a:f F with
 | true=>exact h F c a k e
 | false =>
   refine zq7 λd _ g=>?_;have:=b _ F (AS.1 g).2 (bB λn=>by
    rw[bQ,bq];cases d.testBit n<;>cases F.testBit n<;>rfl)
   rw[this]at a;cases a
theorem zq8(d:s<64)(h:∀F,F<64->f F=n0->aQ F<=aQ s):∀F,F<64->f F=n0->F&&&s=s->F=s:=λF c a b=>by have:=zhT F c s d;rw[b]at this;have e:=h F c a;simp only[du,jU,gm,aj,cw,bT,aK]at this;omega
def skF(f:X0)(k s:Nat):Bool:=f s&&decide (aQ s<=k)
theorem zn4{s t:Nat}(a:s<64)(h:s&&&t=t):aQ t<=aQ s:=by have b:t<64:=bD (by rw[<- h];exact bI) a;have:=zhT s a t b;rw[h]at this;simp only[du,jU,gm,aj,bT]at this;exact this.1
end
def ix(fits:P0->Int->Bool)(a:P0):Nat->P0->Option P0
 | 0,head=>some head
 | n+1,head=>a.findSome? λg=>if decide (g∈head)||!fits head g then none else ix fits a n (head++[g])
def Do(a:P0)(u:Nat):P0:=((lc (lh a)).filter u.testBit).map λi=>lg a i 0
def zD(a:P0)(u:Nat)(l:P0):Prop:=l.Perm (Do a u)
theorem zes:zD l 0 []:=by
 unfold zD Do;have:(lc (lh l)).filter (Nat.testBit 0)=[]:=by rw[iO];intro i _;simp
 rw[this];exact List.Perm.refl _
theorem zjU{l:P0}(o:e.Nodup)(h:zD e s l)(g:i<lh e):decide (lg e i 0∈l)=s.testBit i:=by
 have k:lg e i 0∈l↔e.getD i 0∈Do e s:=h.mem_iff;cases m:s.testBit i with
 | true =>refine ay (k.2 ?_);unfold Do;exact List.mem_map.2 ⟨i,List.mem_filter.2 ⟨List.mem_range.2 g,m⟩,rfl⟩
 | false =>
   refine aD λp=>?_;have n:=k.1 p;unfold Do at n;obtain⟨j,q,u⟩:=List.mem_map.1 n;obtain⟨d,f⟩:=List.mem_filter.1 q;have d:=List.mem_range.1 d;have r:e[j]=e[i]:=by
    have a:lg e j 0=e[j]:=by simp[lg,d]
    have b:lg e i 0=e[i]:=by simp[lg,g]
    rw[<- a,<- b];exact u
   have:j=i:=(gd (h₀:=d) (h₁:=g) o).1 r;subst this;rw[m]at f;cases f
theorem zet(h:b.testBit Q=o0):∀n,Q<n->((lc n).filter (b|||2^Q).testBit).Perm ((lc n).filter b.testBit++[Q]):=by
 have a:∀j,(b|||2^Q).testBit j=(b.testBit j||decide (Q=j)):=λj=>by rw[bq,bR]
 have i:∀n,n<=Q->(lc n).filter (b|||2^Q).testBit=(lc n).filter b.testBit:=λn k=>by refine eM λj c=>?_;have:=List.mem_range.1 c;rw[a,aD (show ¬Q=j by omega),fT]
 intro n;induction n with
 | zero=>intro h;omega
 | succ n f =>
   intro l;rw[bW,aW,aW];by_cases e:Q=n;subst e;rw[i Q (ab _)];have d:[Q].filter (b|||2^Q).testBit=[Q]:=by simp[bF,a]
   have g:[Q].filter b.testBit=[]:=by simp[bF,h]
   rw[d,g,bh];have d:[n].filter (b|||2^Q).testBit=[n].filter b.testBit:=by refine eM λj c=>?_;have:=List.mem_singleton.1 c;rw[a,aD (show ¬Q=j by omega),fT]
   rw[d];refine(List.Perm.append_right _ (f om)).trans ?_;rw[cP,cP];exact List.Perm.append_left _ List.perm_append_comm
theorem zeu{l:P0}(h:zD e s l)(b:i<lh e)(c:s.testBit i=o0):zD e (s|||2^i) (l++[lg e i 0]):=by unfold zD Do at *;refine(List.Perm.append_right _ h).trans ?_;have:=(zet s i c (lh e) b).map λi=>lg e i 0;rw[cq]at this;exact this.symm
theorem zev{l b:P0}(h:zD e s l)(c:zD e s b):l.Perm b:=h.trans c.symm
theorem QC{a d:Type}{f g:a->Option d}{l:List a}(h:∀x∈l,f x=none->g x=none)(b:l.findSome? f=none):l.findSome? g=none:=by rw[List.findSome?_eq_none_iff]at b ⊢;exact λx c=>h x c (b x c)
theorem zew(f:∀l a x,l.Perm a->h l x=h a x):∀(n:Nat)(l a:P0),l.Perm a->ix h e n l=none->ix h e n a=none:=by
 intro n;induction n with
 | zero=>intro l a _ fits;simp[ix]at fits
 | succ n g =>intro l a c fits;unfold ix at fits ⊢;refine QC (λx _ d=>?_) fits;have i:decide (x∈l)=decide (x∈a):=decide_eq_decide.2 c.mem_iff;rw[i,f l a x c]at d;by_cases b:(decide (x∈a)||!h a x)=n0;rw[ae b];rw[ac b]at d ⊢;exact g _ _ (c.append_right [x]) d
def zjV(fits:P0->Int->Bool)(a:P0)(failed:X0):Prop:=∀u,failed u=n0->∀n l,zD a u l->lh l+n=lh a->ix fits a n l=none
theorem zof(failed:∀l c x,l.Perm c->h l x=h c x)(u:zjV h e f){l:P0}(j:zD e s l)(o:lh l+i=lh e)(k:ix h e i l=none):zjV h e λv=>if v=s then n0 else f v:=by
 intro v d m c b n
 by_cases a:v=s
 subst a;have g:=zev j b;have:m=i:=by have:=g.length_eq;omega
 subst this;exact zew failed _ _ _ g k
 have d:(if v=s then n0 else f v)=true:=d;rw[ac a]at d;exact u v d m c b n
def swj(l:P0)(j:Nat):P0:=(l.set j (lg l (j-1) 0)).set (j-1) (lg l j 0)
theorem zjS:∀(i:Nat)(l:P0),i+1<lh l->((l.set (i+1) (lg l i 0)).set i (lg l (i+1) 0)).Perm l:=by
 intro i;induction i with
 | zero =>
   intro l h
   match l,h with
   | x::y::t,_=>exact List.Perm.swap _ _ _
 | succ i a =>
   intro l h
   match l,h with
   | x::t,h=>exact(a t (ss h)).cons x
theorem zod(a:0<s)(h:s<lh e):(swj e s).Perm e:=by have:=zjS (s-1) e om;rw[show s-1+1=s by omega]at this;exact this
theorem zb1(d:0<s)(h:s<lh e)(a:Nat):lg (swj e s) a 0=if a=s-1 then e.getD s 0 else if a=s then e.getD (s-1) 0 else e.getD a 0:=by unfold swj;by_cases b:a=s-1;subst b;rw[ae rfl];simp[lg,show s-1<lh e by omega];rw[ac b];by_cases c:a=s;subst c;rw[ae rfl];simp only[lg,cW (Ne.symm b)];simp[h];rw[ac c];simp only[lg,cW (Ne.symm b),cW (Ne.symm c)]
def zhW(l:P0)(i:Nat):Prop:=∀a b,a<b->b<i->lg l a 0<=lg l b 0
def Pc(l:P0)(i j:Nat):Prop:=∀a b,a<b->b<=i->b≠j->lg l a 0<=lg l b 0
theorem zeq(h:zhW e s):Pc e s s:=λa b c d i=>h a b c om
theorem zb2(h:Pc e s i)(g:0<i)(o:i<=s)(p:s<lh e)(k:lg e i 0<lg e (i-1) 0):Pc (swj e i) s (i-1):=by intro a b m f n;rw[zb1 g om,zb1 g om,ac n];by_cases c:b=i;subst c;rw[ae rfl];by_cases d:a=b-1;rw[ae d];omega;rw[ac d,ac om];exact h a (b-1) om om om;rw[ac c];by_cases d:a=i-1;rw[ae d];exact h i b om f c;rw[ac d];by_cases j:a=i;rw[ae j];exact h (i-1) b om f c;rw[ac j];exact h a b m f c
theorem JE(h:Pc e s i)(g:i<=s)(c:i=0\/e.getD (i-1) 0<=lg e i 0):zhW e (s+1):=by
 intro a b j k;by_cases d:b=i;subst d;rcases c with c|c
 omega;by_cases f:a=b-1;rw[f];exact c;exact Int.le_trans (h a (b-1) om om om) c;exact h a b j om d
def vS(l:P0):P0:=l.mergeSort λa b=>decide (a<=b)
theorem xc:(vS l).Perm l:=List.mergeSort_perm _ _
theorem zoe:(vS l).Pairwise (·<=·):=by have:=List.pairwise_mergeSort (le:=λa b:Int=>decide (a<=b)) (λa b c d e=>by simp only[bT]at *;omega) (λa b=>by simp only[cw,bT];omega) l;exact this.imp λh=>ss h
theorem zb3{c:P0}(d:e.Perm c)(l:e.Pairwise (·<=·)):e=vS c :=
 List.Perm.eq_of_pairwise (λa b _ _ f g=>Int.le_antisymm f g) l (zoe c) (d.trans (xc c).symm)
theorem zjT{b:P0}(d:e.Perm b)(h:zhW e (lh e)):e=vS b:=by refine zb3 d (List.pairwise_iff_getElem.2 λi j l c a=>?_);have:=h i j a c;simpa[lg,l,c]using this
theorem If:lh (vS l)=lh l:=(xc l).length_eq
def Xd(s o g:Nat):Nat:=if aQ (s ^^^ (s&&&g))=1 then o|||(s ^^^ (s&&&g))else o
def PQ(a:Q0)(s:Nat):Nat:=a.foldl (Xd s) 0
def xb(a:Q0)(s:Nat):Nat->Nat
 | 0=>0
 | i+1=>if s.testBit i&&a.any (λg=>g&&&(s-2^i)==s-2^i)then xb a s i|||2^i else xb a s i
theorem Lz:∀(a:Q0)(o:Nat),(a.foldl (Xd s) o).testBit i=(o.testBit i||a.any λg=>decide (aQ (s ^^^ (s&&&g))=1)&&(s ^^^ (s&&&g)).testBit i):=by
 intro a;induction a with
 | nil=>intro o;simp
 | cons g a b =>intro o;rw[qY,b,hO,<- nI];congr 1;unfold Xd;by_cases h:aQ (s ^^^ (s&&&g))=1;rw[ae h,bq];simp[h];rw[ac h];simp[h]
theorem zhV:∀k,(xb X s k).testBit b=(decide (b<k)&&(s.testBit b&&X.any λg=>g&&&(s-2^b)==s-2^b)):=by
 intro k;induction k with
 | zero=>simp[xb]
 | succ k j =>rw[xb];by_cases e:b=k;subst e;by_cases h:(s.testBit b&&X.any λg=>g&&&(s-2^b)==s-2^b)=n0;rw[ae h,bq,bR,h];simp;rw[ac h,j];have h:(s.testBit b&&X.any λg=>g&&&(s-2^b)==s-2^b)=false:=ss h;rw[h];simp;have c:decide (b<k+1)=decide (b<k):=decide_eq_decide.2 om;rw[c,<- j];split;rw[bq,bR,aD (λh=>e h.symm),fT];rfl
theorem zrg:∀s,s<64->∀g,g<64->(s&&&g==s)=n0\/(∀i,i<6->(decide (CJ (s ^^^ (s&&&g))=1)&&(s ^^^ (s&&&g)).testBit i)=(s.testBit i&&(g&&&(s-2^i)==s-2^i))):=by decide +kernel
theorem zjO{a:Type}{l:List a}{p q:a->Bool}(h:∀x∈l,p x=q x):l.any p=l.any q:=by
 induction l with
 | nil=>rfl
 | cons x l b=>rw[hO,hO,h x sp,b λy c=>h y (by simp[c])]
theorem zjP{a:Type}{l:List a}{p q:a->Bool}(h:∀x∈l,p x=q x):l.all p=l.all q:=by
 induction l with
 | nil=>rfl
 | cons x l b=>rw[um,um,h x sp,b λy c=>h y (by simp[c])]
theorem zrh{a:Type}(b:Bool)(l:List a)(p:a->Bool):(b&&l.any p)=l.any λx=>b&&p x:=by
 induction l with
 | nil=>simp
 | cons x l c=>rw[hO,hO,<- c];cases b<;>simp
theorem zoa(a:s<64)(b:¬i<6):s.testBit i=false:=eK (cp a (show 2^6<=2^i from aV om om))
theorem Pb{s g:Nat}(a:s<64):s ^^^ (s&&&g)<64:=by have h:s&&&g<2^6:=bD bI a;exact gR (n:=6) a h
theorem zvS(c:s<64)(e:∀g∈X,g<64)(f:∀g∈X,(s&&&g==s)=o0):PQ X s=xb X s 6:=by
 refine bB λi=>?_;unfold PQ;rw[Lz,zhV,dQ,gm];by_cases b:i<6;rw[ay b,au,zrh];refine zjO λg d=>?_;rw[yS (Pb c)];rcases zrg s c g (e g d)with h|h
 rw[f g d]at h;cases h;exact h i b;rw[aD b,ce,pk];intro g _;rw[zoa (Pb c) b];simp
theorem zob(h:(PQ X s).testBit i=n0):s.testBit i=true:=by
 unfold PQ at h;rw[Lz,dQ,gm,cS]at h;obtain⟨g,_,h⟩:=h;rw[aj]at h;have h:=h.2;rw[eS,bQ]at h;cases b:s.testBit i with
 | true=>rfl
 | false=>rw[b]at h;simp at h
theorem Xe{k:Nat}(h:(xb X s k).testBit i=n0):s.testBit i=true:=by rw[zhV,aj,aj]at h;exact h.2.1
theorem UU(c:i<64)(h:∀a,s.testBit a=n0->i.testBit a=n0):s<64:=by
 have:s<2^6:=tn _ λa e=>by
  cases d:s.testBit a with
  | false=>rfl
  | true=>have b:=h a d;rw[zoa c (show ¬a<6 by omega)]at b;exact b.symm
 exact this
theorem zsQ{bs:Q0}(a:s<64):PQ bs s<64:=UU a λ_=>zob
theorem zsR(b:s<64):xb X s i<64:=UU b λ_=>Xe
def KA(a:Q0)(s:Nat):Bool:=a.all λg=>PQ a s ^^^ (PQ a s&&&g) != 0
def zjQ(a:Q0)(s:Nat):Bool:=a.all λg=>(g&&&s)&&&xb a s 6 != xb a s 6
theorem vR:s&&&i=s↔∀b,s.testBit b=n0->i.testBit b=true:=by
 constructor;intro h b c;rw[<- h,bQ,aj]at c;exact c.2;intro h;refine bB λb=>?_;rw[bQ];cases d:s.testBit b with
 | false=>rfl
 | true=>rw[h b d];rfl
theorem UV:s ^^^ (s&&&i)=0↔s&&&i=s:=by constructor;intro h;refine vR.2 λb c=>?_;have:=cV (λx=>x.testBit b) h;simp only[eS,bQ,dQ,c,au]at this;simpa using this;intro h;rw[h];simp
theorem zt8(f:s<64)(j:∀g∈X,g<64):KA X s=zjQ X s:=by
 by_cases e:∃g∈X,(s&&&g==s)=n0;obtain⟨g,d,h⟩:=e;have h:=beq_iff_eq.1 h;have c:=vR.1 h;have k:KA X s=false:=by unfold KA;rw[fo];refine⟨g,d,?_⟩;have:PQ X s ^^^ (PQ X s&&&g)=0:=UV.2 (vR.2 λi b=>c i (zob b));rw[this];simp
 have l:zjQ X s=false:=by
  unfold zjQ;rw[fo];refine⟨g,d,?_⟩;have:(g&&&s)&&&xb X s 6=xb X s 6:=by rw[cl];refine vR.2 λi b=>?_;rw[bQ,c i (Xe b),Xe b];rfl
  rw[this];simp
 rw[k,l];have m:∀g∈X,(s&&&g==s)=false:=λg d=>by
  cases h:(s&&&g==s)with
  | false=>rfl
  | true=>exact absurd ⟨g,d,h⟩ e
 unfold KA zjQ;rw[zvS f j m];refine zjP λg _=>?_;have:(xb X s 6 ^^^ (xb X s 6&&&g)=0)↔((g&&&s)&&&xb X s 6=xb X s 6):=by rw[UV,cl (g&&&s),vR,vR];refine forall_congr' λi=>⟨λh b=>?_,λh b=>?_⟩;rw[bQ,h b,Xe b];rfl;have:=h b;rw[bQ,aj]at this;exact this.1
 simp only[bne];congr 1;by_cases h:xb X s 6 ^^^ (xb X s 6&&&g)=0;rw[beq_iff_eq.2 h,beq_iff_eq.2 (this.1 h)];rw[beq_eq_false_iff_ne.2 h,beq_eq_false_iff_ne.2 (λn=>h (this.2 n))]
theorem zoc{a:Q0}(h:X.Perm a):PQ X b=PQ a b:=by refine bB λi=>?_;unfold PQ;rw[Lz,Lz,h.any_eq]
theorem zjR{a:Q0}(h:X.Perm a):KA X b=KA a b:=by unfold KA;rw[zoc b h,h.all_eq]
def wZ(f:X0)(s:Nat):Q0:=(lc 64).filter λt=>f t&&(t&&&s==s)&&t != s
def kx(f:X0)(s:Nat):Bool:=lh (wZ f s)==1
def pB(f:X0)(s:Nat):X0:=λu=>f u&&!(u&&&s==s)
def eN(f:X0):Q0:=(co f).filter (kx f)
def pe(l:Q0):Nat:=lg l (lh l-1) 0
def lJ(f:X0):Bool:=lh (eN f)==0||pe (eN f)==0
def QB:Nat->(X0)->Q0->(X0)×Q0
 | 0,f,l=>(f,l)
 | n+1,f,l=>if lJ f=n0 then(f,l)else QB n (pB f (pe (eN f))) (l++[pe (eN f)])
def zbY(f:X0):Nat:=lh ((lc 64).filter f)
theorem vO{f:X0}(h:lJ f=n0)(l:Q0):∀n,QB n f l=(f,l):=by
 intro n;cases n with
 | zero=>rfl
 | succ n=>rw[QB,ae h]
theorem vP(h:lJ f=o0):pe (eN f)<64/\f (pe (eN f))=n0/\kx f (pe (eN f))=n0/\0<(eN f).length/\pe (eN f)≠0:=by unfold lJ at h;rw[ir,bc,bc]at h;have a:pe (eN f)∈eN f:=aP 0 om;obtain⟨b,c⟩:=List.mem_filter.1 a;obtain⟨d,e⟩:=cR.1 b;exact⟨d,e,c,om,h.2⟩
theorem zen{q:X0}(c:∀x∈d,q x=n0->f x=n0)(e:s∈d)(j:f s=n0)(k:q s=o0):lh (d.filter q)<(d.filter f).length:=by
 induction d with
 | nil=>cases e
 | cons a d p =>
   have g:∀(d:Q0),(∀x∈d,q x=n0->f x=n0)->lh (d.filter q)<=(d.filter f).length:=by
    intro d;induction d with
    | nil=>intro _;exact ab _
    | cons b d p =>
      intro h;have r:=p λx l=>h x (dd _ l);have m:=h b (cU ..);rw[bF,bF];cases i:q b with
      | true=>rw[m i];simp only[eW,bH];omega
      | false=>cases n:f b<;>simp<;>omega
   rw[bF,bF];rcases List.mem_cons.1 e with rfl|e
   rw[j,k];have:=g d λx l=>c x (dd _ l);simp;omega;have:=p (λx l=>c x (dd _ l)) e;have o:=c a (cU ..);cases i:q a with
   | true=>rw[o i];simp;omega
   | false=>cases n:f a<;>simp<;>omega
theorem zn9(b:s<64)(a:f s=n0):zbY (pB f s)<zbY f:=by refine zen _ (λx _ h=>?_) (List.mem_range.2 b) a ?_;unfold pB at h;rw[aj]at h;exact h.1;unfold pB;rw[a,dp,du];rfl
theorem Ie(h:lJ f=o0)(l:Q0)(c:zbY f<=s+1):QB (s+1) f l=QB s (pB f (pe (eN f))) (l++[pe (eN f)])/\zbY (pB f (pe (eN f)))<=s:=by obtain⟨a,b,_⟩:=vP h;have:=zn9 a b;exact⟨by rw[QB,ac (by rw[h];decide)],om⟩
theorem Xc(h:lJ f=o0):0<zbY f:=by obtain⟨a,b,_⟩:=vP h;have:=zn9 a b;omega
theorem zbZ:i∈wZ f s↔i<64/\f i=n0/\i&&&s=s/\i≠s:=by unfold wZ;simp only[dG,eJ,aj,aK,gS];exact⟨λ⟨a,⟨b,c⟩,d⟩=>⟨a,b,c,d⟩,λ⟨a,b,c,d⟩=>⟨a,⟨b,c⟩,d⟩⟩
def xa(f:X0)(s:Nat):Nat:=lg (wZ f s) 0 0
theorem zeo(h:kx f s=n0):wZ f s=[xa f s]:=by
 unfold kx at h;rw[aK]at h
 match b:wZ f s,h with
 | [a],_=>unfold xa;rw[b];rfl
theorem zhU(h:kx f s=n0):xa f s<64/\f (xa f s)=n0/\xa f s&&&s=s/\xa f s≠s :=
 zbZ.1 (by rw[zeo h];exact List.mem_singleton.2 rfl)
theorem zrd(g:s<64)(h:kx f s=n0)(b:i<64):pB f s i=(f i&&!(i==s||i==xa f s)):=by
 unfold pB;cases c:f i with
 | false=>rfl
 | true =>rw[au,au];congr 1;obtain⟨j,k,d,l⟩:=zhU h;rw[aZ,aK,cw,aK,aK];constructor;intro e;by_cases a:i=s;exact .inl a;have:i∈wZ f s:=zbZ.2 ⟨b,c,e,a⟩;rw[zeo h]at this;exact .inr (List.mem_singleton.1 this);rintro(rfl|rfl);exact dp _;exact d
theorem zre(b:s<64)(h:kx f s=n0):bA f 64 ^^^ (bA f 64&&&(2^s|||2^xa f s))=bA (pB f s) 64:=by
 refine bB λi=>?_;rw[eS,bQ,bq,bR,bR,mM,mM];by_cases a:i<64;rw[ay a,au,au,zrd b h a];have c:decide (s=i)=(i==s):=by rw[aZ,aq,aK];exact eq_comm
 have d:decide (xa f s=i)=(i==xa f s):=by rw[aZ,aq,aK];exact eq_comm
 rw[c,d];cases f i<;>cases (i==s||i==xa f s)<;>rfl;rw[aD a];rfl
def DnF(f:X0):Prop:=∀s t,f s=n0->s&&&t=t->f t=n0
theorem zsP(h:DnF f)(s:Nat):DnF (pB f s):=by intro u v b a;unfold pB at b ⊢;rw[aj,bC,bc]at b ⊢;refine⟨h u v b.1 a,λe=>b.2 ?_⟩;rw[<- e,<- fD,a,e]
theorem zep(h:DnF f)(b:s<64):((lc 64).any λt=>f t&&(t&&&s==s))=f s:=by rw[aZ,cS];constructor;rintro⟨t,_,a⟩;rw[aj,aK]at a;exact h t s a.1 a.2;intro c;exact⟨s,List.mem_range.2 b,by rw[c,dp,du];rfl⟩
theorem tM{g:X0}(h:∀s,s<64->f s=g s):eN f=eN g:=by unfold eN;rw[mo h];refine eM λs b=>?_;unfold kx wZ;congr 2;refine eM λt a=>?_;rw[h t (List.mem_range.1 a)]
theorem je{g:X0}(h:∀s,s<64->f s=g s)(b:Bool):dI f b=dI g b:=by unfold dI;rw[mo h];refine eM λs d=>?_;unfold iF;rw[aZ,aY,aY];constructor<;>intro c t a;have:=c t a;rwa [h t (List.mem_range.1 a)]at this;have:=c t a;rwa [<- h t (List.mem_range.1 a)]at this
theorem vQ(f:X0):lh (eN f)<=448:=aJ (aO _ _) (ordN_len f)
theorem Pa{g:X0}(h:∀s,s<64->f s=g s)(s:Nat):wZ f s=wZ g s:=by unfold wZ;refine eM λt a=>?_;rw[h t (List.mem_range.1 a)]
theorem zb0{g:X0}(h:∀s,s<64->f s=g s)(s:Nat):kx f s=kx g s:=by unfold kx;rw[Pa h]
section
variable {p:Nat}[NeZero p]
end
theorem zo4(c:s<64)(h:¬i&&&s=s):∃t,t<6/\s.testBit t=n0/\i.testBit t=false:=by rw[cg]at h;obtain⟨t,b⟩:=Classical.not_forall.1 h;have a:s.testBit t=n0/\¬i.testBit t=true:=⟨aC λh=>b λd=>absurd d h,λh=>b λ_=>h⟩;refine⟨t,aC λe=>?_,a.1,ss a.2⟩;have:=eK (x:=s) (i:=t) (cp c (aV (n:=2) (i:=6) dc om));rw[a.1]at this;cases this
theorem zid{t:Nat}(a:s.testBit t=n0)(b:i.testBit t=o0):¬i&&&s=s:=λh=>by have:=cg.1 h t a;rw[b]at this;cases this
theorem zuv:∀x,x<64->∀i,i<6->x.testBit i=n0->∀t,t<64->((x-2^i)&&&t==t)=(x&&&t==t&&!t.testBit i):=by decide +kernel
theorem XA{t:Nat}(a:s<64)(b:i<6)(c:s.testBit i=n0)(d:t<64):(s-2^i)&&&t=t↔s&&&t=t/\t.testBit i=false:=by have:=zuv s a i b c t d;rw[aZ,aK,aj,aK,bC]at this;exact this
theorem zuw:∀m,m<6->∀y,y<2^m->∀t,t<2^m->((y+2^m)&&&(t+2^m)==t+2^m)=(y&&&t==t)/\((y+2^m)&&&t==t)=(y&&&t==t)/\(y&&&(t+2^m)==t+2^m)=false:=by decide +kernel
theorem zeN{t:Nat}(c:s<6)(d:i<2^s)(e:t<2^s):((i+2^s)&&&(t+2^s)=t+2^s↔i&&&t=t)/\((i+2^s)&&&t=t↔i&&&t=t)/\¬i&&&(t+2^s)=t+2^s:=by obtain⟨a,b,f⟩:=zuw s c i d t e;rw[aZ,aK,aK]at a b;exact⟨a,b,beq_eq_false_iff_ne.1 f⟩
def sdF(m s:Nat)(f:X0)(t:Nat):Bool:=if t<2^m then pB f s t else decide (t<2^(m+1))&&(f ((t-2^m)|||s)&&!((t-2^m)&&&s==s))
def Vd(m s x i:Nat):Q0:=if s.testBit i=n0 then [x-2^i,x-2^i+2^m]else []
def QX(m s x:Nat):Q0:=if x&&&s=s then(lc 6).flatMap (Vd m s x)else [x]
theorem zie{t:Nat}:s&&&(t|||i)=t|||i↔s&&&t=t/\s&&&i=i:=by simp only[cg,bq,cw];exact⟨λh=>⟨λx a=>h x (.inl a),λx a=>h x (.inr a)⟩,λh x a=>a.elim (h.1 x) (h.2 x)⟩
theorem Iq{x y:Nat}(_:x<64):y∈QX s i x↔(¬x&&&i=i/\y=x)\/(x&&&i=i/\∃m,m<6/\i.testBit m=n0/\(y=x-2^m\/y=x-2^m+2^s)):=by unfold QX Vd;by_cases h:x&&&i=i;rw[ae h,iV];refine⟨λ⟨m,c,b⟩=>.inr ⟨h,m,List.mem_range.1 c,?_⟩,λa=>?_⟩;split at b;rename_i d;exact⟨d,ss b⟩;cases b;obtain⟨_,m,c,b,f⟩:=a.resolve_left λa=>a.1 h;exact⟨m,List.mem_range.2 c,by rw[ae b];simpa using f⟩;rw[ac h,fZ];exact⟨λe=>.inl ⟨h,e⟩,λa=>(a.resolve_right λa=>h a.1).2⟩
theorem zo5(q:s<6)(I:i<2^s)(p:∀x∈X,x<2^s)(D:∀t,f t=n0↔∃x∈X,x&&&t=t){t:Nat}(E:t<64) :
 sdF s i f t=n0↔∃x∈X,∃y∈QX s i x,y&&&t=t:=by
 have F:2^s<=32:=aV (n:=2) (i:=s) (j:=5) dc om
 have l:∀{x t:Nat},x<2^s->x&&&t=t->t<2^s:=λ{x t}c h=>bD (by rw[<- h];exact bI) c
 unfold sdF
 by_cases r:t<2^s
 ·rw[ae r];unfold pB;rw[aj,D,bC,bc];constructor
  ·rintro⟨⟨x,c,d⟩,w⟩;have:=p x c;refine⟨x,c,?_⟩;by_cases e:x&&&i=i
   ·obtain⟨m,k,g,z⟩:=zo4 om w;exact⟨x-2^m,(Iq om).2 (.inr ⟨e,m,k,g,.inl rfl⟩),(XA om k (cg.1 e m g) E).2 ⟨d,z⟩⟩
   ·exact⟨x,(Iq om).2 (.inl ⟨e,rfl⟩),d⟩
  ·rintro⟨x,c,y,A,d⟩;have:=p x c;rcases(Iq om).1 A with⟨e,rfl⟩|⟨e,m,k,g,o⟩
   ·exact⟨⟨y,c,d⟩,λh=>e (cg.2 λm G=>cg.1 d m (cg.1 h m G))⟩
   ·have B:(x-2^m)&&&t=t:=by
     rcases o with rfl|rfl
     ·exact d
     ·exact(zeN q (bD (mE x (2^m)) this) r).2.1.1 d
    obtain⟨a,b⟩:=(XA om k (cg.1 e m g) E).1 B;exact⟨⟨x,c,a⟩,zid g b⟩
 ·rw[ac r];obtain⟨u,rfl⟩:∃u,t=u+2^s:=⟨t-2^s,om⟩;rw[dS,aj,aq,aj,D,bC,bc];constructor
  ·rintro⟨d,⟨x,c,w⟩,e⟩;rw[fm]at d;have:=p x c;obtain⟨o,C⟩:=zie.1 w;obtain⟨m,k,g,z⟩:=zo4 om e;exact⟨x,c,x-2^m+2^s,(Iq om).2 (.inr ⟨C,m,k,g,.inr rfl⟩),(zeN q (bD (mE x (2^m)) this) om).1.2 ((XA om k (cg.1 C m g) om).2 ⟨o,z⟩)⟩
  ·rintro⟨x,c,y,A,d⟩;have:=p x c;rcases(Iq om).1 A with⟨e,rfl⟩|⟨e,m,k,g,o⟩
   ·exact absurd (l this d) om
   ·rcases o with rfl|rfl
    ·exact absurd (l (x:=x-2^m) (bD (mE x (2^m)) this) d) om
    ·have H:u<2^s:=by
      have C:u+2^s<=x-2^m+2^s:=by
       conv=>lhs;rw[<- d]
       exact bI
      have:=mE x (2^m);omega
     obtain⟨a,b⟩:=(XA om k (cg.1 e m g) om).1 ((zeN q (bD (mE x (2^m)) this) H).1.1 d);exact⟨by rw[fm];omega,⟨x,c,zie.2 ⟨a,e⟩⟩,zid g b⟩
theorem zrR(A:i<2^s)(o:∀t,f t=n0->t<2^s){t:Nat} :
 sdF s i f t=n0↔pB f i t=n0\/∃b a,dL f i b=n0/\i&&&a=a/\a≠i/\t=2^s|||a|||b:=by
 have d:∀{a b:Nat},dL f i b=n0->i&&&a=a->2^s|||a|||b=(a|||b)+2^s/\a|||b<2^s/\((a|||b)|||i=b|||i)/\((a|||b)&&&i=a):=λ{a b}g k=>by
  unfold dL at g;rw[aj,aK]at g;have p:=o _ g.2;have q:a<2^s:=bD (by rw[<- k];exact bI) A;have r:b<2^s:=bD pt p;have n:a|||b<2^s:=cu q r
  have e:=rJ n 1;rw[dh]at e;refine⟨by rw[xt,<- e,xr],n,bB λm=>?_,bB λm=>?_⟩;have:=cV (λx=>x.testBit m) k;simp only[bQ,bq]at this ⊢;revert this;cases a.testBit m<;>cases b.testBit m<;>cases i.testBit m<;>simp;have j:=cV (λx=>x.testBit m) k;have c:=cV (λx=>x.testBit m) g.1;simp only[bQ,bq,dQ]at j c ⊢;revert j c;cases a.testBit m<;>cases b.testBit m<;>cases i.testBit m<;>simp
 unfold sdF
 by_cases j:t<2^s
 rw[ae j];refine⟨.inl,λh=>h.elim id ?_⟩;rintro⟨b,a,c,l,_,rfl⟩;rw[(d c l).1]at j;omega
 rw[ac j];have w:¬pB f i t=true:=λh=>j (o t (by unfold pB at h;rw[aj]at h;exact h.1));obtain⟨u,rfl⟩:∃u,t=u+2^s:=⟨t-2^s,om⟩;rw[dS,aj,aq,aj,bC,bc];constructor
 rintro⟨c,l,y⟩;have B:=o _ l;have C:u<2^s:=bD pt B;have z:u&&&i|||(u ^^^ (u&&&i))=u:=bB λm=>by simp only[bQ,bq,eS];cases u.testBit m<;>cases i.testBit m<;>rfl
 have g:dL f i (u ^^^ (u&&&i))=true:=by
  unfold dL;rw[aj,aK];refine⟨bB λm=>?_,?_⟩;simp only[bQ,eS,dQ];cases u.testBit m<;>cases i.testBit m<;>rfl;rw[show u ^^^ (u&&&i)|||i=u|||i from bB λm=>by
   simp only[bQ,bq,eS];cases u.testBit m<;>cases i.testBit m<;>rfl]
  exact l
 have k:i&&&(u&&&i)=u&&&i:=by rw[cl i,fD,dp]
 exact .inr ⟨_,_,g,k,y,by rw[(d g k).1,z]⟩
 intro h;obtain⟨b,a,c,l,y,D⟩:=h.resolve_left w;obtain⟨E,H,F,G⟩:=d c l;rw[E]at D;have:u=a|||b:=om
 subst this;refine⟨by rw[fm];omega,?_,by rw[G];exact y⟩;rw[F];unfold dL at c;rw[aj]at c;exact c.2
theorem PG(_:s≠0):Go.Lib.decDigits s=(if s/10=0 then []else Go.Lib.decDigits (s/10))++[UInt8.ofNat (48+s%10)]:=by rw[Go.Lib.decDigits];by_cases a:s<10;rw[Gr a,ae om,wn a];rfl;rw[Gq a,ac om]
theorem zik{b:Type}{motive:List b->Prop}(nil:motive [])(snoc:∀l a,motive l->motive (l++[a]))(l:List b):motive l:=by
 have h:∀r:List b,motive r.reverse:=λr=>by
  induction r with
  | nil=>exact nil
  | cons a r c=>rw[List.reverse_cons];exact snoc _ _ c
 have:=h l.reverse;rwa [List.reverse_reverse]at this
def oI(l:List UInt8):Nat:=l.foldl (λn c=>10*n+(c.toNat-48)) 0
theorem PH(c:UInt8):oI (a++[c])=10*oI a+(c.toNat-48):=by simp[oI]
def JI(l:List UInt8):Bool:=l.all λc=>decide (48<=c.toNat)&&decide (c.toNat<=57)
theorem zv0(h:48<=x.toNat/\x.toNat<=57):UInt8.ofNat (48+(x.toNat-48))=x:=by rw[show 48+(x.toNat-48)=x.toNat by omega];simp
theorem zpc:∀(l:List UInt8),JI l=n0->oI l<10^l.length:=by
 intro l;induction l using zik with
 | nil=>intro _;simp[oI]
 | snoc l c a =>intro h;unfold JI at h a;rw[fW,aj]at h;have b:=a h.1;simp at h;rw[PH,aA,cG,fm];omega
theorem zrW:s≠0->∃c l,Go.Lib.decDigits s=c::l/\c.toNat≠48:=by
 induction s using Nat.strongRecOn with
 | _ s b =>intro h;rw[PG h];split;rename_i a;refine⟨_,[],rfl,?_⟩;have:s<10:=om;simp;omega;rename_i a;obtain⟨c,l,e,d⟩:=b (s/10) om a;exact⟨c,l++[UInt8.ofNat (48+s%10)],by rw[e];rfl,d⟩
theorem zux:∀(l:List UInt8),JI l=n0->l≠[]->(l.head?.map UInt8.toNat≠some 48)->oI l≠0/\Go.Lib.decDigits (oI l)=l:=by
 intro l;induction l using zik with
 | nil=>intro _ h;exact absurd rfl h
 | snoc l c e =>
   intro h _ f;unfold JI at h e;rw[fW,aj]at h;have g:48<=c.toNat/\c.toNat<=57:=by have:=h.2;simp at this;exact this
   rw[PH];by_cases b:l=[];subst b;have i:c.toNat≠48:=ss f;have j:oI []=0:=rfl;rw[j];refine⟨om,?_⟩;rw[PG om,ae om,show(10*0+(c.toNat-48))%10=c.toNat-48 by omega,zv0 g];have d:l.head?.map UInt8.toNat≠some 48:=by
    cases l with
    | nil=>exact absurd rfl b
    | cons a l=>simpa using f
   obtain⟨k,m⟩:=e h.1 b d;refine⟨om,?_⟩;rw[PG om,show(10*oI l+(c.toNat-48))/10=oI l by omega,ac k,m,show(10*oI l+(c.toNat-48))%10=c.toNat-48 by omega,zv0 g]
theorem XG:Go.Lib.decDigits 0=[48]:=by rw[Go.Lib.decDigits,Gr om];rfl
theorem zuy(h:JI g=n0)(i:g≠[]):Go.Lib.decDigits (oI g)=g↔g.length=1\/g.head?.map UInt8.toNat≠some 48:=by
 by_cases a:g.head?.map UInt8.toNat=some 48;by_cases b:lh g=1
 match g,b with
 | [c],_ =>refine⟨λ_=>.inl rfl,λ_=>?_⟩;have d:c.toNat=48:=ss a;have e:c=48:=UInt8.toNat_inj.1 d;subst e;show Go.Lib.decDigits 0=_;rw[XG]
 refine⟨λe=>?_,λj=>absurd a (j.resolve_left b)⟩;by_cases f:oI g=0;rw[f,XG]at e;rw[<- e]at b;exact absurd rfl b;obtain⟨c,k,l,d⟩:=zrW f;rw[e]at l;rw[l]at a;exact absurd (ss a) d;exact⟨λ_=>.inr a,λ_=>(zux g h i a).2⟩
def GB(l:List UInt8)(a:Nat):Bool:=decide (1<=lh l)&&decide (lh l<=a)&&(JI l&&(decide (lh l=1)||!decide ((lg l 0 0).toNat=48)))
def niT(l:List UInt8):List UInt8:=if(lg l 0 0).toNat=45 then l.drop 1 else l
def pg(l:List UInt8):Bool:=GB (niT l) 12&&!decide ((lg l 0 0).toNat=45/\oI (niT l)=0)
def we(l:List UInt8):Int:=if(lg l 0 0).toNat=45 then -(oI (niT l):Int)else oI (niT l)
theorem zkb(h:g≠[]):g.head?.map UInt8.toNat=some (lg g 0 0).toNat:=by
 cases g with
 | nil=>exact absurd rfl h
 | cons a g=>rfl
theorem zrX(a:1<=lh g)(d:lh g<=s)(b:JI g=n0):GB g s=n0↔Go.Lib.decDigits (oI g)=g:=by
 have c:g≠[]:=λe=>by rw[e]at a;exact absurd a dc
 rw[zuy b c,zkb c];unfold GB;rw[b,ay a,ay d];simp
theorem PI{l:List UInt8}(f:1<=lh (niT l))(g:lh (niT l)<=12)(i:JI (niT l)=n0):Go.Lib.itoa (we l)=l↔pg l=true:=by
 unfold pg we;rw[aj,zrX f g i,bC,bJ];by_cases b:(lg l 0 0).toNat=45;rw[ae b];have c:l=45::niT l:=by
  unfold niT;rw[ae b];cases l with
  | nil=>exact absurd b dc
  | cons a l =>have:a=45:=UInt8.toNat_inj.1 b;rw[this];rfl
 by_cases d:oI (niT l)=0;rw[d];refine⟨λe=>?_,λh=>absurd ⟨b,rfl⟩ h.2⟩;unfold Go.Lib.itoa at e;rw[ac dc,c]at e;rw[show((-((0:Nat):Int)).toNat)=0 from rfl,XG]at e;exact absurd e sp;unfold Go.Lib.itoa;rw[ae om,show(-(oI (niT l):Int)).natAbs=oI (niT l)by omega];constructor;intro e;rw[c]at e;exact⟨(List.cons.inj e).2.trans (cV niT c).symm.symm,λh=>d h.2⟩;rintro⟨e,_⟩;rw[e];exact c.symm;rw[ac b];have c:niT l=l:=ac b;unfold Go.Lib.itoa;rw[ac om,ar,c];exact⟨λe=>⟨e,λh=>b h.1⟩,λh=>h.1⟩
def zT(b:Nat):List UInt8->List (List UInt8)
 | []=>[[]]
 | x::l=>if x.toNat=b then []::zT b l else match zT b l with|p::r=>(x::p)::r|[]=>[[x]]
theorem nG(x:UInt8)(l:List UInt8):zT b (x::l)=if x.toNat=b then []::zT b l else match zT b l with|p::r=>(x::p)::r|[]=>[[x]]:=rfl
theorem DH:zT b a≠[]:=by
 cases a with
 | nil=>simp[zT]
 | cons x a=>unfold zT;split<;>(try split)<;>simp
theorem zcu(b:Nat):∀(l:List UInt8)(x:UInt8),zT b (l++[x])=if x.toNat=b then zT b l++[[]]else(zT b l).dropLast++[(zT b l).getLastD []++[x]]
 | [],x=>by by_cases h:x.toNat=b<;>simp[zT,h]
 | y::l,x=>by
   rw[kE,nG,nG,zcu b l x];have c:=DH b l;by_cases h:x.toNat=b;rw[ae h,ae h];by_cases a:y.toNat=b;rw[ae a,ae a];rfl;rw[ac a,ac a];cases d:zT b l with
   | nil=>exact absurd d c
   | cons p r=>rfl
   rw[ac h,ac h];by_cases a:y.toNat=b;rw[ae a,ae a];cases d:zT b l with
   | nil=>exact absurd d c
   | cons p r=>simp
   rw[ac a,ac a];cases d:zT b l with
   | nil=>exact absurd d c
   | cons p r=>cases r with
     | nil=>simp
     | cons e r=>simp
theorem zuC:fK t b=(lg t.data.toList b 0).toNat:=rfl
theorem PJ:(t.extract b Q).data.toList=(t.data.toList.take Q).drop b:=by rw[xx,Aa,na,List.drop_take]
theorem zpg:∀i,i<=t.size->zT b (t.data.toList.take i)=(pU t b i).1.map (λp=>p.data.toList)++[(t.data.toList.take i).drop (pU t b i).2]:=by
 intro i;induction i with
 | zero=>intro _;simp[zT,pU]
 | succ i a =>intro c;have d:i<lh t.data.toList:=c;have e:=(Li t b i).1;rw[bj 0 d,zcu,a om,<- zuC];by_cases h:fK t i=b;have f:((t.data.toList.take i)++[lg t.data.toList i 0]).drop (i+1)=[]:=eI (by simp[Nat.min_le_left]);rw[ae h,uW h];simp only[cq,dR,gy,PJ];rw[f];rw[ac h,Fj h,List.dropLast_concat,List.getLastD_concat,kP (by rw[bg];omega)]
theorem qi:(dO t b).map (λp=>p.data.toList)=zT b t.data.toList:=by have h:=zpg t b t.size (ab _);have a:t.data.toList.take t.size=t.data.toList:=bK (ab _);unfold dO;rw[cq,dR,gy,PJ,a];rw[a]at h;exact h.symm
theorem XI{b:Nat}:∀{l p:List UInt8},p∈zT b l->lh p<=lh l
 | [],p,h=>by rw[List.mem_singleton.1 h];exact ab _
 | x::l,p,h=>by
   rw[nG]at h;have c:=DH b l;rw[bH];by_cases d:x.toNat=b;rw[ae d]at h;rcases List.mem_cons.1 h with rfl|h
   exact aB _;exact po (XI h);rw[ac d]at h;cases a:zT b l with
   | nil=>exact absurd a c
   | cons q r =>
     rw[a]at h;rcases List.mem_cons.1 h with rfl|h
     exact Nat.succ_le_succ (XI (a ▸ cU));exact po (XI (a ▸ dd _ h))
theorem zU{p:S0}{b:Nat}(h:p∈dO r b):p.size<=r.size:=by have:=XI (b:=b) (l:=r.data.toList) (by rw[<- qi];exact List.mem_map_of_mem h);exact this
theorem XJ{b:Nat}{x:UInt8}(d:x.toNat≠b):∀{l:List UInt8},x∈l->∃p∈zT b l,x∈p
 | y::l,h=>by
   have e:=DH b l;rw[nG];by_cases f:y.toNat=b;rw[ae f];rcases List.mem_cons.1 h with rfl|h
   exact absurd f d;obtain⟨p,a,c⟩:=XJ d h;exact⟨p,dd _ a,c⟩;rw[ac f];cases g:zT b l with
   | nil=>exact absurd g e
   | cons p r =>
     rcases List.mem_cons.1 h with rfl|h;exact⟨_,cU,cU⟩;obtain⟨q,a,c⟩:=XJ d h;rw[g]at a;rcases List.mem_cons.1 a with rfl|a
     exact⟨_,cU,dd _ c⟩;exact⟨q,dd _ a,c⟩
theorem Ab{b:Nat}:∀{l:List UInt8},(∀x∈l,x.toNat≠b)->zT b l=[l]
 | [],_=>rfl
 | x::l,h=>by rw[nG,ac (h x cU),Ab λy a=>h y (dd _ a)]
theorem zil{b:Nat}:∀{l:List UInt8}{x:UInt8},x∈l->x.toNat=b->2<=lh (zT b l)
 | y::l,x,h,d=>by
   rw[nG];have a:=DH b l;have f:1<=(zT b l).length:=List.length_pos_iff.2 a;by_cases c:y.toNat=b;rw[ae c,bH];omega;rw[ac c];rcases List.mem_cons.1 h with rfl|h
   exact absurd d c;have:=zil h d;cases e:zT b l with
   | nil=>exact absurd e a
   | cons p r=>rw[e]at this;exact this
theorem XK{b:Nat}:∀{l a c:List UInt8},zT b l=[a,c]->∃x:UInt8,x.toNat=b/\l=a++x::c/\(∀y∈c,y.toNat≠b)/\∀y∈a,y.toNat≠b
 | [],a,c,h=>by simp[zT]at h
 | x::l,a,c,h=>by
   rw[nG]at h;have g:=DH b l;by_cases f:x.toNat=b;rw[ae f]at h;obtain⟨rfl,d⟩:=List.cons.inj h;have j:∀y∈l,y.toNat≠b:=λy k e=>by have:=zil k e;rw[d]at this;simp at this
   rw[Ab j]at d;obtain⟨rfl,_⟩:=List.cons.inj d;exact⟨x,f,rfl,j,sp⟩;rw[ac f]at h;cases i:zT b l with
   | nil=>exact absurd i g
   | cons p r =>rw[i]at h;obtain⟨rfl,d⟩:=List.cons.inj h;obtain⟨z,m,n,o,q⟩:=XK (l:=l) (a:=p) (c:=c) (by rw[i,d]);exact⟨z,m,by rw[n];rfl,o,List.forall_mem_cons.2 ⟨f,q⟩⟩
theorem zpd(h:49<=x.toNat/\x.toNat<=54):pg [x]=n0/\we [x]=((x.toNat-48:Nat):Int):=by
 have b:x=UInt8.ofNat x.toNat:=sp;have:∀m:Fin 6,pg [UInt8.ofNat (49+m.val)]=n0/\we [UInt8.ofNat (49+m.val)]=((m.val+1:Nat):Int):=by decide +kernel
 have a:=this ⟨x.toNat-49,om⟩;rw[show 49+(x.toNat-49)=x.toNat by omega,<- b,show x.toNat-49+1=x.toNat-48 by omega]at a;exact a
theorem zuz(h:pg g=n0)(d:1<=we g)(f:we g<=6):∃c:UInt8,g=[c]/\(49<=c.toNat/\c.toNat<=54):=by
 have a:=h;unfold pg GB at a;simp only[aj,bT]at a;have e:=(PI a.1.1.1 a.1.1.2 a.1.2.1).2 h;have:∀m:Fin 6,Go.Lib.itoa ((m.val:Int)+1)=[UInt8.ofNat (49+m.val)]:=by decide +kernel
 have b:=this ⟨(we g-1).toNat,om⟩;rw[show(((we g-1).toNat:Nat):Int)+1=we g by omega,e]at b;refine⟨_,b,?_⟩;have:(UInt8.ofNat (49+(we g-1).toNat)).toNat=49+(we g-1).toNat:=by simp;omega
 rw[this];omega
def XH(t:S0):Bool:=decide (2<=t.size/\49<=fK t 0/\fK t 0<=54/\fK t 1=58)
def GC(t:S0):S0:=t.extract 2 t.size
def Iu(r:S0):T0:=if r.size=0 then []else dO r 44
def ph(a:T0):P0:=a.map λp=>((Br p:Nat):Int)
theorem Bb{a:T0}(h:s<lh a):ph (a.take (s+1))=ph (a.take s)++[((Br (lg a s ⟨#[]⟩):Nat):Int)]:=by unfold ph;rw[bj ⟨#[]⟩ h,cq];rfl
theorem zcr(a:T0):lh (ph a)=lh a:=aG _
theorem zcs:(GC t).data.toList=t.data.toList.drop 2:=by unfold GC;rw[PJ,show t.data.toList.take t.size=t.data.toList from bK (ab (lh t.data.toList))]
theorem zrY(h:x∈r.data.toList)(a:x.toNat=58):uq r=false:=by
 obtain⟨i,b,e⟩:=bV h;have c:fK r i=58:=by unfold fK;rw[eU,aN b,e];exact a
 refine(zd3 ?_ (zd2 (i:=i) b om)).2;refine aD λe=>?_;rw[e]at h;rw[List.mem_singleton.1 (show x∈[(45:UInt8)] from h)]at a;exact absurd a dc
theorem zpe(h:x∈r.data.toList)(c:x.toNat=58):(Iu r).all uq=false:=by
 have d:¬r.size=0:=λe=>by have:lh r.data.toList=0:=e;rw[aL this]at h;cases h
 unfold Iu;rw[ac d];obtain⟨p,a,f⟩:=XJ (b:=44) om h;rw[<- qi]at a;obtain⟨q,g,rfl⟩:=List.mem_map.1 a;exact List.all_eq_false.2 ⟨q,g,by rw[zrY f c];decide⟩
theorem zuA{b:S0}(h:r.data.toList=b.data.toList):r=b:=iR (Array.toList_inj.1 h)
theorem zct(h:XH r=n0):∃c x:UInt8,r.data.toList=c::x::(GC r).data.toList/\fK r 0=c.toNat/\(49<=c.toNat/\c.toNat<=54)/\x.toNat=58:=by
 have h:=cH h;have a:2<=lh r.data.toList:=h.1;rw[zcs];unfold fK at h ⊢
 match e:r.data.toList,a with
 | c::x::l,_ =>rw[e]at h;exact⟨c,x,rfl,rfl,⟨h.2.1,h.2.2.1⟩,h.2.2.2⟩
theorem zrZ(h:(dO r 58).length≠2):(XH r&&(Iu (GC r)).all uq)=false:=by rw[er];refine Classical.or_iff_not_imp_left.2 λb=>?_;obtain⟨c,x,e,_,i,d⟩:=zct (Bool.not_eq_false _ ▸ b);refine aC λf=>h ?_;have a:∀y∈(GC r).data.toList,y.toNat≠58:=λy g e=>f (zpe g e);have:=cV lh (qi r 58);rw[aG]at this;rw[this,e,nG,ac om,nG,ae d,Ab a];rfl
theorem zpf{p q:S0}(h:dO r 58=[p,q]):p.size+(q.size+1)=r.size:=by
 have a:[p.data.toList,q.data.toList]=zT 58 r.data.toList:=by have:=qi r 58;rw[h]at this;exact this
 obtain⟨x,_,e,_⟩:=XK a.symm;have:=cV lh e;rw[aA,bH]at this;exact this.symm
theorem zuB{p q:S0}(h:dO r 58=[p,q]):(XH r=n0->q=GC r)/\(XH r=n0↔∃c:UInt8,p.data.toList=[c]/\(49<=c.toNat/\c.toNat<=54))/\∀c:UInt8,p.data.toList=[c]->fK r 0=c.toNat:=by
 have j:[p.data.toList,q.data.toList]=zT 58 r.data.toList:=by have:=qi r 58;rw[h]at this;exact this
 obtain⟨x,k,e,C,m⟩:=XK j.symm;have g:∀c:UInt8,p.data.toList=[c]->fK r 0=c.toNat:=λc a=>by unfold fK;rw[e,a];rfl
 have i:XH r=n0->∃c:UInt8,p.data.toList=[c]/\(49<=c.toNat/\c.toNat<=54)/\(GC r).data.toList=q.data.toList:=λb=>by
  obtain⟨c,y,n,o,a,t⟩:=zct b;rw[n]at e
  match s:p.data.toList,e with
  | [],e=>exact absurd (List.cons.inj e).1 (λu=>by rw[u]at a;omega)
  | [d],e =>obtain⟨rfl,f⟩:=List.cons.inj e;exact⟨c,rfl,a,(List.cons.inj f).2⟩
  | d::d2::l,e =>obtain⟨rfl,f⟩:=List.cons.inj e;obtain⟨rfl,f⟩:=List.cons.inj f;exact absurd t (m y (by rw[s];simp))
 refine⟨λb=>?_,⟨λb=>?_,λ⟨c,a,D⟩=>?_⟩,g⟩;obtain⟨c,_,_,w⟩:=i b;exact(zuA w).symm;obtain⟨c,z,A,_⟩:=i b;exact⟨c,z,A⟩;have E:=g c a;have B:r.size=lh r.data.toList:=rfl;refine ay ⟨?_,om,om,?_⟩;rw[B,e,a];simp;unfold fK;rw[e,a];exact k
end Go.Abs
