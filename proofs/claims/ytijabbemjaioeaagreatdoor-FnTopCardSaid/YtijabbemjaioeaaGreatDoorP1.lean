/- DERIVED by an AI agent. -/
import Derived.Test.YtijabbemjaioeaaGreatDoorA11
set_option linter.all false
namespace Go.Abs
open Bool renaming true→k0,false→l0
open Go renaming IntKind→D0
open List renaming range→lc,replicate→ld,getD→lg,length→lh
variable (t:P0)(a:N0)(f:V0)(b:Int)(M:fG)(c:O0)(i:Nat)(h:O0)(j:Nat)(x:Int){s y A C D E H:Nat}{d:V0}{o:X0}{q:O0}{r:N0}{u:T0}{w:P0}{z:Int}{B:fG}{P:l1}{F:N0->Int->Bool}{G:Bool}{I:U0}{Q:Prop}
theorem aP{b:Type}{a:List b}(d:b)(h:s<lh a):lg a s d∈a:=by
 grind
theorem fU{b:Type}{a:List b}(d:b)(h:s<lh a):lg a s d=a[s]:=by grind
theorem eX{a:Type}{b:List a}{x:a}(d:a)(h:x∈b):∃i,i<lh b/\b.getD i d=x:=by obtain⟨i,c,rfl⟩:=bV h;exact⟨i,c,fU d c⟩
theorem bj{b:Type}{a:List b}(d:b)(h:s<lh a):a.take (s+1)=a.take s++[lg a s d]:=by simp_all
theorem kp{b:Type}{a:List b}(d:b)(h:s<lh a):a.drop s=lg a s d::a.drop (s+1):=by simp_all
theorem ak{i n:Nat}(h:i<n)(a:n<=9223372036854775807):D0.i64.wrap ((i:Int)+1)=((i+1:Nat):Int):=by rw[aF om om];rfl
theorem oc:((i:Int)-1).toNat=i-1:=om
def aQ(n:Nat):Nat:=if h:n=0 then 0 else n%2+aQ (n/2)
termination_by n
decreasing_by omega
theorem kq:aQ 0=0:=by simp[aQ]
theorem Fe(h:s≠0):aQ s=s%2+aQ (s/2):=by rw[aQ];grind
theorem zp2:aQ i<=i:=by
 induction i using Nat.strongRecOn with
 | ind i a =>by_cases h:i=0;simp_all[kq];rw[Fe h];grind
def CJ(n:Nat):Nat:=n%2+n/2%2+n/4%2+n/8%2+n/16%2+n/32%2
theorem yS(h:s<64):aQ s=CJ s:=by
 have a:∀n,aQ n=n%2+aQ (n/2):=λn=>by by_cases b:n=0;grind;exact Fe b
 rw[a s,a<|s/2,a<|s/2/2,a<|s/2/2/2,a<|s/2/2/2/2,a<|s/2/2/2/2/2];have c:s/2/2/2/2/2/2=0:=om;simp[c,kq,CJ];omega
theorem zme(h:s<9223372036854775808):fu .i64 (s:Int) 1=((s%2:Nat):Int):=by
 have e:(BitVec.ofInt 64 s&&&BitVec.ofInt 64 1).toNat=s%2:=sp
 show D0.i64.wrap (((BitVec.ofInt 64 _&&&BitVec.ofInt 64 1).toNat))=_;rw[e,aF om om]
theorem za4:wH .i64 (i:Int) 1=((i/2:Nat):Int):=by simp[wH,D0.bits];grind
theorem eh(h:s<=6):jl .i64 1 (s:Int)=((2^s:Nat):Int):=have:∀m:Fin 7,jl _ 1 m.val=2^m.val:=dc;this ⟨s,om⟩
theorem mJ(h:s<9223372036854775808):D0.u64.wrap (s:Int)=(s:Int):=by simp[D0.wrap,D0.bits];omega
def di(n s:Int):Bool:=decide (0<=n/\n<=6/\0<=s/\s<2^n.toNat)
theorem iM:(2:Int)^((i:Int)).toNat=((2^i:Nat):Int):=sp
theorem dx{m:Nat}(h:m<=6):2^m<=64:=have:∀k:Fin 7,2^k.val<=64:=dc;this ⟨m,om⟩
theorem sj{s:Int}(h:di z s=k0):0<=s/\s<64:=by simp[di]at h;obtain⟨a,c,d,b⟩:=h;obtain⟨m,rfl⟩:=ca a;rw[iM]at b;have:=dx (m:=m) om;omega
theorem uY(b:s<9223372036854775808):(BitVec.ofInt 64 (s:Int)).toNat=s:=by grind
theorem ej{a b:Nat}(c:a<9223372036854775808)(d:b<9223372036854775808):fu .i64 (a:Int) (b:Int)=((a&&&b:Nat):Int):=by show D0.i64.wrap (((BitVec.ofInt 64 _&&&BitVec.ofInt 64 _).toNat))=_;rw[kG,uY c,uY d];have:a&&&b<=a:=bI;exact aF om om
theorem zmu(c:s<9223372036854775808)(d:y<9223372036854775808):s|||y<9223372036854775808:=cu (n:=63) c d
theorem zi4{a b:Nat}(c:a<9223372036854775808)(d:b<9223372036854775808):a ^^^ b<9223372036854775808:=gR (n:=63) c d
theorem nQ(c:s<9223372036854775808)(d:y<9223372036854775808):EX .i64 (s:Int) (y:Int)=((s|||y:Nat):Int):=by show D0.i64.wrap (((BitVec.ofInt 64 _|||BitVec.ofInt 64 y).toNat))=_;rw[BitVec.toNat_or,uY c,uY d];have:=zmu c d;exact aF om om
theorem fv{a b:Nat}(c:a<9223372036854775808)(d:b<9223372036854775808):gU .i64 (a:Int) (b:Int)=((a ^^^ (a&&&b):Nat):Int):=by
 have h:BitVec.ofInt 64 a&&&~~~ BitVec.ofInt 64 b=BitVec.ofInt 64 a ^^^ (BitVec.ofInt 64 a&&&BitVec.ofInt 64 b):=by grind
 show D0.i64.wrap (((BitVec.ofInt 64 a&&&~~~ BitVec.ofInt 64 b).toNat))=_;rw[h,BitVec.toNat_xor,kG,uY c,uY d];have e:a&&&b<=a:=bI;have:=zi4 (b:=a&&&b) c om;exact aF om om
theorem gW{a b:Nat}:a ^^^ (a&&&b)=0↔a&&&b=a:=by constructor;intro h;have:=cV (· ^^^ (a&&&b)) h;grind;grind
theorem zba{b:Int}(c:0<=z/\z<64)(d:0<=b/\b<64):gU .i64 z b=0↔fu .i64 z b=z:=by obtain⟨z,rfl⟩:=ca c.1;obtain⟨b,rfl⟩:=ca d.1;rw[fv om om,ej om om];have:=@gW z b;omega
theorem zbb{d:Type}[DecidableEq d]:∀{l m:List d},l.Nodup->(∀x∈l,x∈m)->lh m<=lh l->l.Perm m:=by
 intro l;induction l with
 | nil=>intro m _ _ h;have:m=[]:=aL (ss h);subst this;exact .nil
 | cons a l j =>
   intro m k f n;have o:a∈m:=f a sp;have b:=List.nodup_cons.1 k;have g:m.Perm (a::m.erase a):=List.perm_cons_erase o;have p:l.Perm (m.erase a):=by grind
   exact(List.Perm.cons a p).trans g.symm
theorem zhb{b:Int}(c:0<=z/\z<64)(d:0<=b/\b<64):0<=fu .i64 z b/\fu .i64 z b<64:=by obtain⟨z,rfl⟩:=ca c.1;obtain⟨b,rfl⟩:=ca d.1;rw[ej om om];have:z&&&b<=z:=bI;omega
def rg:Nat->Nat->Nat
 | _,0=>1
 | 0,_+1=>0
 | n+1,k+1=>rg n k+rg n (k+1)
theorem oV:rg i 0=1:=by cases i<;>rfl
theorem Wl:∀(n k:Nat),n<k->rg n k=0:=by
 intro n;induction n with
 | zero=>intro k h;cases k with
   | zero=>omega
   | succ k=>rfl
 | succ n a=>intro k h;cases k with
   | zero=>omega
   | succ k=>rw[rg,a k om,a _ om]
theorem zmn:∀(n k:Nat),rg n k*(n-k)=rg n (k+1)*(k+1):=by
 intro n;induction n with
 | zero=>intro k;simp[rg]
 | succ n a =>
   intro k;cases k with
   | zero =>have:=a 0;rw[oV]at this ⊢;rw[rg,oV];simp at this ⊢;omega
   | succ k =>
     by_cases g:n<k+1;rw[Wl (n+1) (k+2) om,show n+1-(k+1)=0 by omega];simp;rw[rg,rg];have e:n-k=(n-(k+1))+1:=om;grind
theorem zmo:∀(n k:Nat),rg n k<=2^n:=by
 intro n;induction n with
 | zero=>intro k;cases k<;>simp[rg]
 | succ n a =>
   intro k;cases k with
   | zero=>rw[oV];grind
   | succ k=>rw[rg];grind
theorem zp7:∀(n k:Nat),k<=n->rg n (n-k)=rg n k:=by
 intro n;induction n with
 | zero=>simp
 | succ n a =>
   intro k h;cases k with
   | zero =>rw[Nat.sub_zero,oV,rg,Wl n (n+1) om];have:=a 0 om;simp_all[oV]
   | succ k =>
     rw[show n+1-(k+1)=n-k by omega];rcases bf k n with b|b
     rw[show n-k=(n-(k+1))+1 by omega,rg,rg,a _ om,show n-(k+1)+1=n-k by omega,a k om];omega;have:k=n:=om;subst this;rw[pi,oV,rg,Wl k (k+1) om];have:=a 0 om;simp_all[oV]
theorem zmp{a n i:Nat}(b:n<=57)(c:a<=2^n):a*(n-i)<9223372036854775808:=by have d:2^n<=2^57:=aV om b;have e:a*(n-i)<=2^57*57:=zX om om;omega
theorem zmq{n k:Nat}(a:n<=57):rg n k<9223372036854775808:=by have b:2^n<=2^57:=aV om a;have:=zmo n k;omega
theorem zmr{n i:Nat}(a:n<=57)(b:i<n):D0.i64.wrap ((n:Int)-(i:Int))=((n-i:Nat):Int):=by rw[aF om om];omega
theorem zms{n i:Nat}(a:n<=57)(b:i<n):D0.i64.wrap (((rg n i:Nat):Int)*((n-i:Nat):Int))=((rg n (i+1)*(i+1):Nat):Int):=by have h:=zmp (i:=i) a<|zmo n i;rw[<- xX,aF om om,zmn]
theorem zmt{n i:Nat}(a:n<=57):D0.i64.wrap (((rg n (i+1)*(i+1):Nat):Int).tdiv ((i+1:Nat):Int))=((rg n (i+1):Nat):Int):=by
 have h:=zmq (k:=i+1) a;have e:((rg n (i+1)*(i+1):Nat):Int).tdiv ((i+1:Nat))=((rg n (i+1))):=by rw[xX];exact Int.mul_tdiv_cancel _ om
 rw[e,aF om om]
def cd(f:V0)(k m:Nat):O0:=(lc m).filter λs=>f s&&aQ s==k
def co(f:V0):O0:=(lc 7).flatMap λj=>cd f j 64
def oG(f:V0)(k m:Nat):O0:=(lc k).flatMap (λj=>cd f j 64)++cd f k m
theorem Hv:oG f i 64=oG f (i+1) 0:=by simp[oG,bW,cd]
theorem Oa:oG f 7 0=co f:=by simp[oG,co,cd]
theorem uX:cd f i (j+1)=cd f i j++(if(f j&&aQ j==i)=k0 then [j]else []):=by unfold cd;rw[bW];grind
theorem za9(h:(d y&&aQ y==s)=k0):oG d s (y+1)=oG d s y++[y]:=by unfold oG;rw[uX,ae h,cP]
theorem Lj(h:(d y&&aQ y==s)=l0):oG d s (y+1)=oG d s y:=by unfold oG;rw[uX,ac<|by grind,bh]
theorem Ob:∀(k m:Nat),lh (oG f k m)<=64*k+m:=by
 intro k;induction k with
 | zero =>intro m;have:=aO (λs=>f s&&aQ s==0)<|lc m;simp_all[oG,cd]
 | succ k b =>intro m;have a:=b 64;have c:=aO (λs=>f s&&aQ s==k+1)<|lc m;rw[Hv]at a;unfold oG at a ⊢;simp[bp]at a c ⊢;unfold cd at *;omega
theorem jA{s:Nat}(h:s<64):aQ s<=6:=by
 have a:∀t,t<64->CJ t<=6:=dc
 rw[yS h];grind
theorem cR:s∈co d↔s<64/\d s=true:=by simp[co,cd];constructor;grind;rintro⟨a,b⟩;exact⟨aQ s,by have:=jA a;omega,a,b,rfl⟩
def rx(s t:Nat):Prop:=aQ s<aQ t\/(aQ s=aQ t/\s<t)
theorem wK:(co f).Pairwise rx:=by rw[co,List.pairwise_flatMap];refine⟨λj _=>?_,?_⟩;unfold cd;refine List.Pairwise.imp_of_mem ?_<|List.Pairwise.filter _ gA;intro a b c d e;simp at c d;exact .inr ⟨om,e⟩;refine List.Pairwise.imp ?_ gA;intro a b i x g y h;have g:=(List.mem_filter.1 g).2;have h:=(List.mem_filter.1 h).2;simp at g h;exact .inl om
theorem qD:¬rx s s:=by simp[rx]
theorem ordN_len:lh (co f)<=448:=by have:=Ob f 7 0;simp_all[Oa]
def bA(w:V0):Nat->Nat|0=>0|k+1=>if w k=k0 then bA w k|||2^k else bA w k
theorem mM:∀(k s:Nat),(bA f k).testBit s=(decide (s<k)&&f s):=by
 intro k;induction k with
 | zero=>simp[bA]
 | succ k a =>unfold bA;grind
theorem dj:∀k,bA f k<2^k:=by
 intro k;induction k with
 | zero=>simp[bA]
 | succ k a =>unfold bA;split;exact cu om<|bN om om;omega
theorem Lk(b:s<18446744073709551616):(BitVec.ofInt 64 (s:Int)).toNat=s:=by grind
theorem dm(b:s<18446744073709551616):D0.u64.wrap (s:Int)=(s:Int):=by simp[D0.wrap,D0.bits,D0.signed];omega
theorem Ca(c:s<18446744073709551616)(d:y<18446744073709551616):EX .u64 (s:Int) (y:Int)=((s|||y:Nat):Int):=by show D0.u64.wrap (((BitVec.ofInt 64 _|||BitVec.ofInt 64 y).toNat))=_;rw[BitVec.toNat_or,Lk c,Lk d];exact dm<|cu (n:=64) c d
theorem zdD(c:s<18446744073709551616)(d:y<18446744073709551616):fu .u64 (s:Int) (y:Int)=((s&&&y:Nat):Int):=by show D0.u64.wrap (((BitVec.ofInt 64 s&&&BitVec.ofInt 64 _).toNat))=_;rw[kG,Lk c,Lk d];have:s&&&y<=s:=bI;exact dm om
theorem yU(a:s<64):jl .u64 1 (s:Int)=((2^s:Nat):Int):=by
 unfold jl;have e:min (s:Int).toNat D0.u64.bits=s:=by simp[D0.bits];omega
 rw[e,jL];have h:2^s<2^64:=bN om a;exact dm om
theorem ztj(c:y<64):wH .u64 (s:Int) (y:Int)=((s >>> y:Nat):Int):=by
 unfold wH;have e:min (y:Int).toNat D0.u64.bits=y:=by simp[D0.bits];omega
 rw[e];have b:2^y=((2^y:Nat):Int):=sp;rw[b,nb,mz _<|lE _,Int.natCast_ediv]
theorem zmm(c:s<18446744073709551616)(b:y<64):(fu .u64 (wH .u64 (s:Int) (y:Int)) 1==1)=s.testBit y:=by
 rw[ztj b];have d:s >>> y<=s:=Nat.shiftRight_le _ _;rw[show(1:Int)=(1:Nat) from rfl,zdD om om,Nat.testBit];grind
def iF(f:V0)(g:Bool)(s:Nat):Bool:=(lc 64).all λt=>!(f t&&((if g=k0 then s&&&t==s else t&&&s==t)&&t != s))
def dI(f:V0)(g:Bool):O0:=(co f).filter (iF f g)
theorem so:iF d l0 s=k0↔∀t,t<64->d t=k0->t&&&s=t->t=s:=by
 unfold iF;grind
theorem ku:iF d k0 s=k0↔∀t,t<64->d t=k0->s&&&t=s->t=s:=by
 unfold iF;grind
theorem ry{s t:Nat}(b:s<64)(c:t<64)(h:t&&&s=t)(a:t≠s):aQ t<aQ s:=by
 have d:∀t,t<64->∀s,s<64->(t&&&s==t&&t != s)=k0->CJ t<CJ s:=dc
 rw[yS b,yS c];grind
theorem pV(d:s&&&y=s)(e:y&&&A=y):s&&&A=s:=by grind
theorem Oc:∀(n s:Nat),aQ s<=n->s<64->iF d l0 s=l0->∃t,t<64/\d t=k0/\t&&&s=t/\t≠s/\iF d l0 t=true:=by
 intro n;induction n with
 | zero =>
   intro s r i c;have:¬ ∀t,t<64->d t=k0->t&&&s=t->t=s:=λh=>by rw[so.2 h]at c;grind
   exact absurd (λt b A f=>aC λj=>by have:=ry i b f j;omega) this
 | succ n w =>
   intro s r i c;have:¬ ∀t,t<64->d t=k0->t&&&s=t->t=s:=λh=>by rw[so.2 h]at c;grind
   have⟨t,b⟩:=Classical.not_forall.1 this;have k:t<64/\d t=k0/\t&&&s=t/\t≠s:=by grind
   have⟨g,a,l,m⟩:=k;cases o:iF d l0 t with
   | true=>grind
   | false =>have B:=ry i g l m;grind
theorem zdE{f:O0}(h:co d=q++s::f):(∃t,t∈q.filter (iF d l0)/\t&&&s=t)↔iF d l0 s=false:=by
 have c:=wK d;rw[h]at c;have m:s<64/\d s=true:=cR.1 (by rw[h];simp);have a:=List.pairwise_append.1 c;constructor;rintro⟨t,r,l⟩;have g:=(List.mem_filter.1 r).1;have i:t<64/\d t=true:=cR.1 (by rw[h];simp[g]);have j:t≠s:=λe=>by have:=a.2.2 t g s sp;rw[e]at this;exact qD this
 cases k:iF d l0 s with
 | false=>rfl
 | true=>exact absurd (so.1 k t i.1 i.2 l) j
 intro k;have⟨t,n,u,o,p,w⟩:=Oc (aQ s) s (ab _) m.1 k;have x:=ry m.1 n o p;have b:t∈co d:=cR.2 ⟨n,u⟩;rw[h]at b;refine⟨t,List.mem_filter.2 ⟨?_,w⟩,o⟩;rcases List.mem_append.1 b with b|b
 exact b;rcases List.mem_cons.1 b with b|b;exact absurd b p;have:=(List.pairwise_cons.1 a.2.1).1 t b;unfold rx at this;omega
def bl(l:O0):N0:=l.map λs:Nat=>(s:Int)
theorem cI:bl (c++h)=bl c++bl h:=by simp[bl]
theorem jZ:[(i:Int)]=bl [i]:=rfl
theorem ap:lh (bl c)=lh c:=by simp[bl]
theorem bX(h:s<lh q):lg (bl q) s 0=((lg q s 0:Nat):Int):=by simp_all[bl]
theorem zmk(c:y<64):wH .i64 (s:Int) (y:Int)=((s >>> y:Nat):Int):=by
 unfold wH;have e:min (y:Int).toNat D0.i64.bits=y:=by simp[D0.bits];omega
 rw[e];have b:2^y=((2^y:Nat):Int):=sp;rw[b,nb,mz _<|lE _,Int.natCast_ediv]
theorem CL(c:s<9223372036854775808)(b:y<64):(fu .i64 (wH .i64 (s:Int) (y:Int)) 1==1)=s.testBit y:=by
 rw[zmk b];have d:s >>> y<=s:=Nat.shiftRight_le _ _;rw[show(1:Int)=(1:Nat) from rfl,ej om om,Nat.testBit];grind
theorem zvv{a n j:Nat}(c:a<2^n)(h:a.testBit j=k0):j<n:=by rcases bf j n with b|b;omega;rw[eK<|cp c<|aV om b]at h;grind
def pts(s:Nat):O0:=(lc 6).filter λi=>s.testBit i
def adj(a:N0)(i j:Nat):Bool:=a.any λe=>e.toNat.testBit i&&(e.toNat.testBit j&&decide (i≠j))
def XQ(a:N0)(i:Nat):Nat:=bA (adj a i) 6
theorem zml:XQ a i<64:=dj _ 6
theorem Wj(b:∀x∈a,x.toNat<64):(XQ a i).testBit j=adj a i j:=by
 rw[XQ,mM];cases h:adj a i j with
 | false=>simp
 | true =>have⟨e,c,h⟩:=List.any_eq_true.1 h;simp[aj]at h;simp[zvv (n:=6) (b e c) h.2.1]
theorem zp6{k i:Nat}(d:k<lh r)(c:∀x∈r,x.toNat<64)(h:(lg r k 0).toNat.testBit i=k0):XQ (r.take (k+1)) i=XQ (r.take k) i|||((lg r k 0).toNat ^^^ ((lg r k 0).toNat&&&2^i)):=by apply bB;intro j;rw[bq,Wj _ _ _<|λx b=>c x<|jK b,Wj _ _ _<|λx b=>c x<|jK b,eS,bQ];unfold adj;rw[bj 0 d];grind
theorem zti(b:s<lh r)(h:(lg r s 0).toNat.testBit y=l0):XQ (r.take (s+1)) y=XQ (r.take s) y:=by unfold XQ;congr 1;funext j;unfold adj;rw[bj 0 b];grind
def fK(t:P0)(i:Nat):Nat:=(lg t.data.toList i 0).toNat
theorem zth:fK t i<256:=UInt8.toNat_lt _
def pU(t:P0)(b:Nat):Nat->Q0×Nat
 | 0=>([],0)
 | i+1=>if fK t i=b then((pU t b i).1++[t.extract (pU t b i).2 i],i+1)else pU t b i
def dO(t:P0)(b:Nat):Q0:=(pU t b t.size).1++[t.extract (pU t b t.size).2 t.size]
theorem uW(h:fK w y=s):pU w s (y+1)=((pU w s y).1++[w.extract (pU w s y).2 y],y+1):=by rw[pU,ae h]
theorem Fj(h:¬fK w y=s):pU w s (y+1)=pU w s y:=by rw[pU,ac h]
theorem Li:∀b,(pU t i b).2<=b/\(pU t i b).1.length<=b:=by
 intro b;induction b with
 | zero=>simp[pU]
 | succ b a =>by_cases h:fK t b=i;simp[uW h];omega;rw[Fj h];omega
def zmi(t:P0):Bool:=decide (1<=t.size)&&decide (t.size<=6)&&!(t.toList==(⟨#[45]⟩:P0).toList)&&!(t.toList==(⟨#[]⟩:P0).toList) &&
 (lc t.size).all (λi=>decide (97<=fK t i)&&decide (fK t i<=102))&&(lc t.size).all (λi=>decide (i=0)||decide (fK t (i-1)<fK t i))
structure OkSet (t:ByteArray):Prop where
 lo:1<=t.size
 hi:t.size<=6
 dash:(t.toList==(⟨#[45]⟩:ByteArray).toList)=false
 empty:(t.toList==(⟨#[]⟩:ByteArray).toList)=false
 letter:∀i,i<t.size->97<=fK t i/\fK t i<=102
 rise:∀i,i<t.size->0<i->fK t (i-1)<fK t i
theorem zmj(h:zmi w=k0):OkSet w:=by unfold zmi at h;simp only[aj,bT,bC,aY,eJ,cw]at h;have⟨⟨⟨⟨⟨a,b⟩,c⟩,d⟩,e⟩,f⟩:=h;exact⟨a,b,c,d,e,λi g j=>(f i g).resolve_left om⟩
def oU(t:P0)(k:Nat):Nat:=(lc k).foldl (λs i=>s|||2^(fK t i-97)) 0
theorem AE:oU t (i+1)=oU t i|||2^(fK t i-97):=by simp[oU,bW]
theorem rN:oU t 0=0:=rfl
def pz(new a:N0)(j:Nat):N0:=new.take j++a.drop j
theorem qB(new:N0):pz a new 0=new:=rfl
theorem tE{new old:N0}(h:lh new=lh old):pz new old (lh old)=new:=by simp[pz,<- h]
theorem mm{a:N0}(h:lh r=lh a)(j:Nat):lh (pz r a j)=lh a:=by simp[pz];omega
theorem Fi{a:N0}(h:lh r=lh a)(c:s<=y):lg (pz r a s) y 0=lg a y 0:=by
 unfold pz;grind
theorem tF{a:N0}(h:lh r=lh a)(b:s<lh a):(pz r a s).set s (lg r s 0)=pz r a (s+1):=by
 unfold pz;have c:lh (r.take s)=s:=by simp;omega
 rw[lW _ _ om,c,pi,List.drop_eq_getElem_cons b,List.set_cons_zero,bj 0 (by omega:s<lh r),cP];rfl
theorem Lg{c:Type}(l:List c)(i:Nat)(a b:c):(l.set i a).set i b=l.set i b:=sp
theorem lL:M.set i (lg M i [])=M:=by
 by_cases h:i<lh M;simp_all;rw[nL om]
theorem eO(h:s<lh B)(r:N0):lg (B.set s r) s []=r:=by grind
theorem il(h:¬s=y)(r:N0):lg (B.set s r) y []=lg B y []:=by grind
def lM(p:Int):Bool:=p==2||p==3||p==5
theorem zg6:lM z=k0↔z=2\/z=3\/z=5:=by simp[lM,or_assoc]
theorem jy(h:lM z=k0):2<=z/\z<=5:=by rcases zg6.1 h with rfl|rfl|rfl<;>omega
def nP(p r:Int):Int->Nat->Int|_,0=>0|b,n+1=>if r*b%p=1 then b else nP p r (b+1) n
def sk(p a:Int):Int:=nP p (a%p) 1 (p-1).toNat
theorem zdB:∀(n:Nat)(r:Int),0<=r->r+n<=b->0<=nP b x r n/\(nP b x r n<b\/nP b x r n=0):=by
 intro n;induction n with
 | zero=>simp[nP]
 | succ n a =>unfold nP;grind
theorem zg7(b:lM z=k0)(a:Int):0<=sk z a/\sk z a<=4:=by have:=jy b;have⟨c,d⟩:=zdB z (a%z) (z-1).toNat 1 om om;unfold sk;omega
def Gy(p b:Int)(r:N0):N0:=r.map λx=>x*b%p
theorem jO(r:N0):lh (Gy b x r)=lh r:=by simp[Gy]
theorem uT(h:s<lh r):lg (Gy b x r) s 0=lg r s 0*x%b:=by simp[Gy,h]
def sbt(p f:Int)(piv r:N0):N0:=(lc (lh r)).map λj=>(lg r j 0-f*piv.getD j 0)%p
theorem CK(piv r:N0):lh (sbt b x piv r)=lh r:=by simp[sbt]
theorem oT{piv r:N0}(h:s<lh r):lg (sbt b x piv r) s 0=(lg r s 0-x*piv.getD s 0)%b:=by simp[sbt,h]
def Res(p:Int)(r:N0):Prop:=∀j,0<=lg r j 0/\r.getD j 0<p
theorem zdC(b:0<z)(h:∀j,j<lh r->0<=lg r j 0/\r.getD j 0<z):Res z r:=λj=>by
 grind
theorem zp4(a:0<z)(b:Int)(r:N0):Res z (Gy z b r):=zdC a λj c=>by rw[jO]at c;rw[uT z b c];exact⟨jr _ om,ji _ a⟩
theorem zp5(a:0<z)(f:Int)(piv r:N0):Res z (sbt z f piv r):=zdC a λj b=>by rw[CK]at b;rw[oT z f b];exact⟨jr _ om,ji _ a⟩
theorem zmg{piv:N0}(h:Res z piv):sbt z 0 r piv=piv:=by
 refine bE (CK _ _ _ _) λj a b=>?_;have c:=oT z 0 (piv:=r) b;have d:=h j;simp_all[jH]
structure MatOk (p:Int) (n:Nat) (M:fG):Prop where
 len:∀i,i<M.length->(M.getD i []).length=n
 res:∀i,i<M.length->Res p (M.getD i [])
def yT(p:Int)(a b:Nat)(M:fG):fG:=M.set a (Gy p (sk p (lg (lg M a []) b 0)) (lg M a []))
def oF(p:Int)(a b:Nat)(M:fG)(i:Nat):N0:=if i=a then M.getD i []else sbt p (lg (lg M i []) b 0) (lg M a []) (lg M i [])
def mK(p:Int)(a b:Nat)(M:fG)(n:Nat):fG:=(lc (lh M)).map λi=>if i<n then oF p a b M i else M.getD i []
def od(p:Int)(a b:Nat)(M:fG):fG:=mK p a b (yT p a b M) (lh M)
theorem oA(M:fG):lh (yT b i j M)=lh M:=by simp[yT]
theorem jz(M:fG)(n:Nat):lh (mK b i j M n)=lh M:=by simp[mK]
theorem uU(h:y<lh B):lg (mK b i j B s) y []=if y<s then oF b i j B y else B.getD y []:=by simp[mK,h]
theorem Ue(M:fG):mK b i j M 0=M:=by refine bE (jz _ _ _ _ _) λc a d=>?_;simp[mK,d]
theorem zg8(n:Nat)(h:i<lh B):lg (mK b i j B n) i []=lg B i []:=by rw[uU b i j h];split;rw[oF,ae rfl];rfl
theorem AD(h:y<lh B)(c:s<=y):lg (mK b i j B s) y []=lg B y []:=by rw[uU b i j h,ac om]
theorem uV(h:s<lh B):(mK b i j B s).set s (oF b i j B s)=mK b i j B (s+1):=by
 refine bE (by simp[jz]) λc a d=>?_;simp[mK];grind
theorem gV(M:fG):lh (od b i j M)=lh M:=by simp[od,jz,oA]
theorem Wg{p:Int}(b:0<p){n at' col:Nat}(h:MatOk p n B)(c:at'<lh B):MatOk p n (yT p at' col B):=by constructor;intro i a;rw[oA]at a;unfold yT;by_cases e:at'=i;subst e;rw[eO a,jO];exact h.len _ a;rw[il e];exact h.len _ a;intro i a;rw[oA]at a;unfold yT;by_cases e:at'=i;subst e;rw[eO a];exact zp4 b _ _;rw[il e];exact h.res _ a
theorem Lh{p:Int}(d:0<p)(h:MatOk p s B)(c:C<lh B):lh (oF p y A B C)=s/\Res p (oF p y A B C):=by unfold oF;split;exact⟨h.len C c,h.res C c⟩;exact⟨by rw[CK];exact h.len C c,zp5 d _ _ _⟩
theorem zg9(d:0<z)(h:MatOk z s B):MatOk z s (mK z y A B C):=by constructor;intro i a;rw[jz]at a;rw[uU z y A a];split;exact(Lh d h a).1;exact h.len i a;intro i a;rw[jz]at a;rw[uU z y A a];split;exact(Lh d h a).2;exact h.res i a
theorem Uf{p:Int}(a:0<p){n at' col:Nat}(h:MatOk p n B)(b:at'<lh B):MatOk p n (od p at' col B):=zg9 a<|Wg a h b
def wJ(M:fG)(a b:Nat):fG:=(M.set a (lg M b [])).set b (lg M a [])
theorem jP:lh (wJ M i j)=lh M:=by simp[wJ]
theorem za7:wJ M i j=wJ M j i:=by unfold wJ;by_cases h:i=j;grind;rw[List.set_comm _ _ h]
theorem Wh(h:MatOk z s B)(j:y<lh B)(k:A<lh B):MatOk z s (wJ B y A):=by
 have d:∀(Q:N0->Prop),(∀i,i<lh B->Q (lg B i []))->∀i,i<lh B->Q (lg (wJ B y A) i []):=by unfold wJ;grind
 exact⟨λi c=>d (λr=>lh r=s) h.len i<|by rwa [jP]at c,λi c=>d _ h.res i<|by rwa [jP]at c⟩
def fV(M:fG)(b:Nat):Nat->Nat->Nat|a,0=>a|a,n+1=>if(lg M a []).getD b 0=0 then fV M b (a+1) n else a
theorem NZ:∀(n a:Nat),a<=fV M i a n/\fV M i a n<=a+n:=by
 intro n;induction n with
 | zero=>simp[fV]
 | succ n c =>unfold fV;grind
def gI(p:Int)(M:fG)(a:Nat)(piv:O0):fG×O0 :=
 if fV M a (lh piv) (lh M-lh piv)=M.length then(M,piv)else(od p (lh piv) a (wJ M (lh piv) (fV M a (lh piv) (lh M-lh piv))),piv++[a])
def oe(p:Int):fG->O0->Nat->Nat->fG×O0
 | M,piv,_,0=>(M,piv)
 | M,piv,a,n+1=>if (lh piv)<M.length then oe p (gI p M a piv).1 (gI p M a piv).2 (a+1) n else(M,piv)
theorem sn:(gI b M i h).1.length=lh M:=by unfold gI;split;rfl;simp[gV,jP]
theorem za8:∀(n:Nat)(M:fG)(piv:O0)(a:Nat),(oe b M piv a n).1.length=lh M:=by
 intro n;induction n with
 | zero=>intro M piv a;rfl
 | succ n p =>intro M piv a;unfold oe;split;rw[p,sn];rfl
theorem zmh:∀(n:Nat)(M:fG)(piv:O0)(a:Nat),lh piv<=lh M->(oe b M piv a n).2.length<=lh M:=by
 intro n;induction n with
 | zero=>exact λM piv a h=>h
 | succ n p =>
   intro M piv a h;unfold oe;split;have:=p (gI b M a piv).1 (gI b M a piv).2 (a+1)<|by
    rw[sn];unfold gI;grind
   rwa [sn]at this;omega
theorem Ht(h:¬c.length<lh M):oe b M c i j=(M,c):=by
 cases j with
 | zero=>rfl
 | succ j=>simp[oe,h]
def nw(p:Int)(M:fG):fG:=M.map λr=>r.map λx=>x%p
def iQ(p:Int)(M:fG):Nat:=(oe p (nw p M) [] 0 (lg M 0 []).length).2.length
theorem qC:lh (nw b M)=lh M:=by simp[nw]
theorem Hu:lg (nw b M) i []=(lg M i []).map λx=>x%b:=by by_cases h:i<lh M;simp[nw,h];simp[nw,h]
theorem Wi{p:Int}(c:0<p)(h:∀i,i<lh B->lh (lg B i [])=s):MatOk p s (nw p B):=by
 constructor;intro i b;rw[qC]at b;rw[Hu];grind;intro i b;rw[Hu];refine zdC c λj d=>?_;have:lg ((lg B i []).map λx=>x%p) j 0=lg (lg B i []) j 0%p:=by grind
 rw[this];exact⟨jr _ om,ji _ c⟩
theorem mL{p:Int}(h:0<=z):z.tmod p=z%p:=mA h
theorem zha(p:0<x):(b.tmod x+x).tmod x=b%x:=by
 have c:0<=b.tmod x+x:=by have:=Int.lt_tmod_of_pos b p;omega
 rw[mL c];simp[Int.tmod_def]
theorem Oo{g:V0}(b:y<=64)(h:∀m,m<64->d m=g m):cd d s y=cd g s y:=by refine eM λm a=>?_;grind
theorem mo{g:V0}(h:∀s,s<64->d s=g s):co d=co g:=by unfold co;rw[funext λj=>Oo (ab _) h]
def ao(a:N0)(s:Nat):Bool:=a.any λx=>x.toNat&&&s==s
theorem eT:ao r s=k0↔∃x∈r,x.toNat&&&s=s:=by simp[ao]
def oY(f:V0):Nat->Nat|0=>0|m+1=>if f m=k0 then max (oY f m) (aQ m+1)else oY f m
def cv(f:V0):Nat:=oY f 64
theorem zqn:∀m,m<=64->oY f m<=7:=by
 intro m;induction m with
 | zero=>simp[oY]
 | succ m a =>intro b;unfold oY;have:=jA (s:=m) om;grind
theorem eD:cv f<=7:=zqn f 64<|ab _
theorem rz{f:V0}:∀(m s:Nat),s<m->f s=k0->aQ s+1<=oY f m:=by
 intro m;induction m with
 | zero=>simp
 | succ m b =>unfold oY;grind
theorem AH{f:V0}:∀(m:Nat),0<oY f m->∃s,s<m/\f s=k0/\aQ s+1=oY f m:=by
 intro m;induction m with
 | zero=>simp[oY]
 | succ m c =>intro h;unfold oY at h ⊢;grind
theorem zdM{g:V0}:∀m,m<=64->(∀s,s<64->d s=g s)->oY d m=oY g m:=by
 intro m;induction m with
 | zero=>intro _ _;rfl
 | succ m a=>unfold oY;grind
theorem st{f:V0}{k:Nat}(h:cv f<=k):cd f k 64=[]:=by rw[cd,iO];intro s a b;simp at b;have:=rz 64 s (List.mem_range.1 a) b.1;unfold cv at h;omega
theorem fI:A∈cd d s y↔A<y/\d A=k0/\aQ A=s:=by simp[cd]
theorem fc(a:s<=64):lh (cd f i s)<=64:=by unfold cd;grind
theorem Jx:(co f).filter (λs=>aQ s==i)=cd f i 64:=by
 unfold co;rw[List.filter_flatMap];have a:∀j,(cd f j 64).filter (λs=>aQ s==i)=if j=i then cd f i 64 else []:=by intro j;unfold cd;rw[ou];by_cases e:j=i;grind;rw[ac e,iO];intro s _ c;simp at c;omega
 simp only[a];by_cases d:i<7;have:∀n,(lc n).flatMap (λj=>if j=i then cd f i 64 else [])=if i<n then cd f i 64 else []:=by
  intro n;induction n with
  | zero=>simp
  | succ n g =>rw[bW,fO,g];by_cases a:i<n;rw[ae a,ae om];simp;intro h;omega;grind
 rw[this 7,ae d];have k:=eD f;rw[st (k:=i) om];simp
def zf(l:O0)(k:Nat):Nat:=lh (l.filter λs=>aQ s==k)
def Jy:O0->Nat|[]=>0|s::l=>max (aQ s+1) (Jy l)
def rA(l:O0)(n:Nat):N0:=(lc n).map λk=>(zf l k:Int)
theorem oB:lh (rA c i)=i:=by simp[rA]
theorem vn(h:y<s):lg (rA c s) y 0=(zf c y:Int):=by simp[rA,h]
theorem zmP:Jy (c++[i])=max (Jy c) (aQ i+1):=by
 induction c with
 | nil=>rfl
 | cons a c b=>simp[Jy,b]
theorem Un:zf (c++[i]) j=zf c j+if aQ i=j then 1 else 0:=by unfold zf;grind
theorem zi9(h:Jy c<=s):zf c s=0:=by
 rw[zf,List.length_eq_zero_iff,iO];intro k l b;have:∀c:O0,k∈c->aQ k+1<=Jy c:=by
  intro c;induction c with
  | nil=>simp
  | cons a c d =>
    unfold Jy;grind
 grind
theorem zja(h:Jy c<=s):rA c s++[0]=rA c (s+1):=by simp_all[rA,bW,zi9]
theorem zmQ(h:aQ i<j):(rA c j).set (aQ i) ((zf c (aQ i):Int)+1)=rA (c++[i]) j:=by refine bE (by simp[oB]) λk a b=>?_;simp[rA,Un];grind
theorem zmR:Jy (co f)=cv f:=by
 have g:∀(l:O0)(n:Nat),(∀s∈l,aQ s+1<=n)->Jy l<=n:=by
  intro l n;induction l with
  | nil=>simp[Jy]
  | cons a l b =>intro h;have:=h a sp;have:=b λs c=>h s (by grind);unfold Jy;omega
 have i:∀(l:O0)(s:Nat),s∈l->aQ s+1<=Jy l:=by
  intro l s;induction l with
  | nil=>simp
  | cons a l b =>
    unfold Jy;grind
 have k:=g _ (cv f) λs c=>have⟨d,e⟩:=cR.1 c;rz 64 s d e
 by_cases j:0<cv f;have⟨s,d,e,m⟩:=AH 64 j;have:=i _ s (cR.2 ⟨d,e⟩);unfold cv at *;omega;omega
theorem zmS{l:O0}{k:Nat}:Jy (l.take k)<=Jy l:=by
 induction l generalizing k with
 | nil=>simp
 | cons a l b =>
   cases k with
   | zero=>simp[Jy]
   | succ k=>simp[Jy];grind
def gc(f:V0):N0:=rA (co f) (cv f)
theorem eb:lh (gc f)=cv f:=oB _ _
theorem lN{k:Nat}(h:k<cv f):lg (gc f) k 0=((cd f k 64).length:Int):=by rw[gc,vn _ h,zf,Jx]
def lI(a b:Nat):Int:=if a&&&b=a then(if aQ (b&&&(b-a-1))%2=0 then 1 else -1)else 0
def fy(l h:O0):fG:=l.map λa=>h.map λb=>lI a b
theorem gX:lh (fy c h)=lh c:=by simp[fy]
theorem lO{h:O0}(a:s<lh q):lg (fy q h) s []=h.map λb=>lI (lg q s 0) b:=by simp[fy,a]
theorem Oq:∀i,i<lh (fy c h)->lh (lg (fy c h) i [])=(lg (fy c h) 0 []).length:=λi a=>by rw[gX]at a;rw[lO a,lO om];simp
theorem Ot:lh (lg (fy c h) 0 [])<=lh h:=by by_cases a:0<lh c;rw[lO a];simp;simp_all[fy]
def kM(f:V0)(p:Int)(k:Nat):Nat:=if k=0\/cv f<=k then 0 else iQ p (fy (cd f (k-1) 64) (cd f k 64))
def ed(f:V0)(p:Int):N0:=(lc (cv f)).map λk=>((cd f k 64).length:Int)-kM f p k-kM f p (k+1)
theorem df:lh (ed f b)=cv f:=by simp[ed]
theorem pX(h:s<cv f):lg (ed f b) s 0=((cd f s 64).length:Int)-kM f b s-kM f b (s+1):=by simp[ed,h]
theorem qS:kM f b i<=64:=by unfold kM;split;omega;have:=zmh b (lg (fy (cd f (i-1) 64)<|cd f i 64) 0 []).length (nw b<|fy (cd f (i-1) 64)<|cd f i 64) [] 0 sp;have a:=fc f (i-1)<|ab 64;rw[qC,gX]at this;unfold iQ;omega
theorem zdN{g:V0}(h:∀s,s<64->d s=g s):cv d=cv g:=zdM 64 (ab _) h
theorem zdO{g:V0}(p:Int)(h:∀s,s<64->d s=g s):ed d p=ed g p:=by have b:∀k,cd d k 64=cd g k 64:=λk=>Oo (ab _) h;simp[ed,kM,zdN h,b]
theorem zmT:∀s,s<64->∀t,t<64->t&&&s=t->t≠0->∀u,u<t->u&&&s=u->u<=(t-1)&&&s:=by
 have h:((lc 64).all λs=>(lc 64).all λt=>(t&&&s != t)||(t==0)||(lc t).all λu=>(u&&&s != u)||decide (u<=(t-1)&&&s))=true:=by decide +kernel
 intro s b t c d e u f g;have:=List.all_eq_true.1 (List.all_eq_true.1 h s<|List.mem_range.2 b) t<|List.mem_range.2 c;grind
theorem zbp:∀a,a<64->∀b,b<64->a&&&b=a->a<=b/\b ^^^ (a&&&b)=b-a:=dc
theorem zbu:∀(n s:Nat),6-aQ s<=n->s<64->d s=k0->∃t,t<64/\d t=k0/\s&&&t=s/\iF d k0 t=true:=by
 intro n;induction n with
 | zero =>intro s o c g;refine⟨s,c,g,dp s,ku.2 λt a _ f=>aC λi=>?_⟩;have:=ry a c f<|Ne.symm i;have:=jA a;omega
 | succ n p =>
   intro s o c g;cases j:iF d k0 s with
   | true=>exact⟨s,c,g,dp s,j⟩
   | false =>
     have:¬ ∀t,t<64->d t=k0->s&&&t=s->t=s:=λh=>by rw[ku.2 h]at j;cases j
     obtain⟨t,a⟩:=Classical.not_forall.1 this;have k:t<64/\d t=k0/\s&&&t=s/\t≠s:=by refine⟨aC λh=>a λb=>absurd b h,aC λh=>a λ_ b=>absurd b h,aC λh=>a λ_ _ b=>absurd b h,λe=>a λ_ _ _=>e⟩
     obtain⟨l,b,m,q⟩:=k;have z:=ry l c m<|Ne.symm q;have:=jA l;obtain⟨u,r,w,x,y⟩:=p t om l b;exact⟨u,r,w,pV m x,y⟩
theorem ja:s∈dI d G↔(s<64/\d s=k0)/\iF d G s=true:=by rw[dI,dG,cR]
theorem Ft(f:V0)(g:Bool):(dI f g).Pairwise rx:=List.Pairwise.filter _<|wK f
theorem vu(f:V0)(g:Bool):lh (dI f g)<=448:=aJ (aO _ _)<|ordN_len f
theorem Hz:ao (bl c) i=c.any λs=>s&&&i==i:=by rw[ao,bl,List.any_map];rfl
theorem vv:ao (bl (dI f k0)) i=(lc 64).any λs=>f s&&(s&&&i==i):=by
 rw[Hz];refine Bool.eq_iff_iff.2 ⟨λh=>?_,λh=>?_⟩;have⟨s,a,b⟩:=List.any_eq_true.1 h;have⟨⟨c,d⟩,_⟩:=ja.1 a;exact List.any_eq_true.2 ⟨s,List.mem_range.2 c,by rw[d,b];rfl⟩;have⟨s,a,b⟩:=List.any_eq_true.1 h;have a:=List.mem_range.1 a;simp only[aj,aK]at b;have⟨u,e,g,t,j⟩:=zbu (6-aQ s) s (ab _) a b.1;refine List.any_eq_true.2 ⟨u,ja.2 ⟨⟨e,g⟩,j⟩,?_⟩;have k:i&&&s=i:=by rw[cl];exact b.2
 have:=pV k t;rw[cl]at this;simpa using this
def JA(M:fG)(a b:Nat)(x:Int):fG:=M.set a ((lg M a []).set b (lg (lg M a []) b 0+x))
theorem WB:lh (JA M i j x)=lh M:=by simp[JA]
structure Sq (n:Nat) (c:Int) (M:fG):Prop where
 len:M.length=n+1
 row:∀i,i<n+1->(M.getD i []).length=n+1
 small:∀i j,-c<=(M.getD i []).getD j 0/\(M.getD i []).getD j 0<=c
theorem Sq.mono{d:Int}(h:Sq s z B)(a:z<=d):Sq s d B:=⟨h.len,h.row,λi j=>by have:=h.small i j;omega⟩
theorem qE(r:N0):lg (M.set i r) j []=if i=j/\j<M.length then r else M.getD j []:=by grind
theorem Fu:lg (a.set i x) j 0=if i=j/\j<a.length then x else a.getD j 0:=by grind
theorem zmZ{d:Int}(h:Sq s z B)(a b:Nat){x:Int}(k:-d<=x/\x<=d):Sq s (z+d) (JA B a b x):=by refine⟨by rw[WB,h.len],λi e=>?_,λi j=>?_⟩;unfold JA;rw[qE];split;rename_i f;rw[de,f.1];exact h.row i e;exact h.row i e;have f:=h.small i j;unfold JA;grind
theorem zm0:Sq i 0 (ld (i+1) (ld (i+1) 0)):=by
 refine⟨sp,λn a=>by grind,λn j=>?_⟩;grind
def qF(M:fG)(j:Nat)(a:N0):Nat->fG|0=>M|k+1=>if k<=j then JA (qF M j a k) (j-k) j (lg a k 0)else qF M j a k
theorem WC{n j:Nat}(h:Sq n z B)(d:∀k,-200<=lg r k 0/\r.getD k 0<=200):∀k:Nat,Sq n (z+200*k) (qF B j r k):=by
 intro k;induction k with
 | zero=>simpa[qF]using h
 | succ k b =>unfold qF;split;refine (zmZ b _ j<|d k).mono om;exact b.mono om
theorem zjh{M:fG}{hs:N0}(h:s<y):∀m,qF M s hs (y+m)=qF M s hs y:=by
 intro m;induction m with
 | zero=>rfl
 | succ m a =>rw[<- jT,qF,ac om,a]
def mZ(f:V0)(w:Nat)(t:Nat):Bool:=f t&&(w&&&t==t)
def qG(f:V0)(p:Int)(n:Nat):Nat->fG|0=>ld (n+1) (ld (n+1) 0)|w+1=>qF (qG f p n w) (aQ w) (ed (mZ f w) p) (cv (mZ f w))
theorem AJ:-200<=lg (ed f b) i 0/\(ed f b).getD i 0<=200:=by
 by_cases h:i<cv f;rw[pX f b h];have a:=fc f i (ab 64);have k:=qS f b i;have c:=qS f b (i+1);omega;have:lg (ed f b) i 0=0:=by have:(ed f b)[i]?=none:=eQ (by rw[df];omega);grind
 omega
theorem WD:∀w:Nat,Sq i (1400*w) (qG f b i w):=by
 intro w;induction w with
 | zero=>simpa[qG]using zm0 i
 | succ w a =>have n:=eD<|mZ f w;exact (WC a (AJ _ b)<|cv<|mZ f w).mono om
def zqz(f:V0)(p:Int)(n:Nat):fG:=qG f p n (2^n)
theorem zqA{n:Nat}(a:n<=6):Sq n 100000 (zqz f b n):=by refine(WD f b n<|2^n).mono ?_;have:2^n<=2^6:=aV om a;omega
theorem zbv{n w:Nat}(a:n<=6)(h:w<2^n):aQ w<=n:=by
 have b:((lc 7).all λn=>(lc (2^n)).all λw=>decide (CJ w<=n))=true:=dc
 have:=List.all_eq_true.1 (List.all_eq_true.1 b n (List.mem_range.2 om)) w (List.mem_range.2 h);rw[yS (cp h (by have:(2:Nat)^n<=2^6:=aV om a;omega))];simpa using this
theorem qd(b:P0):(t.toList==b.toList)=decide (t=b):=by rw[aZ,aK,aq,ByteArray.toList_eq,ByteArray.toList_eq];exact⟨λh=>iR<|Array.toList_inj.1 h,λh=>by rw[h]⟩
def PO(t:P0)(k:Nat):Bool:=(lc k).all λi=>decide (97<=fK t i/\fK t i<=102/\(i=0\/fK t (i-1)<fK t i))
def wQ(t:P0):Bool:=decide (t=⟨#[45]⟩)
def uq(t:P0):Bool:=wQ t||(decide (1<=t.size)&&PO t t.size)
def Br(t:P0):Nat:=if !wQ t&&PO t t.size then oU t t.size else 0
theorem FD:PO t (i+1)=(PO t i&&decide (97<=fK t i/\fK t i<=102/\(i=0\/fK t (i-1)<fK t i))):=by simp[PO,bW]
theorem ue{k i:Nat}(h:PO w k=k0)(a:i<k):97<=fK w i/\fK w i<=102/\(i=0\/fK w (i-1)<fK w i) :=
 cH<|List.all_eq_true.1 h i<|List.mem_range.2 a
theorem zd2{t:P0}{i k:Nat}(a:i<k)(h:¬(97<=fK t i/\fK t i<=102/\(i=0\/fK t (i-1)<fK t i))):PO t k=false:=by
 cases e:PO t k with
 | false=>rfl
 | true=>exact absurd (ue e a) h
theorem zqH(h:PO w s=k0):∀i,i<s->97+i<=fK w i:=by
 intro i;induction i with
 | zero=>intro a;exact(ue h a).1
 | succ i b =>intro a;have c:=(ue h a).2.2;grind
theorem ztM(h:PO w s=k0):s<=6:=by rcases tg s with a|a;omega;have b:=zqH h (s-1) om;have c:=ue h (i:=s-1) om;omega
theorem OE(h:PO w (s+1)=k0):2^(fK w s-97)<=oU w (s+1)/\oU w (s+1)<2^(fK w s-97+1):=by
 induction s with
 | zero=>rw[AE,rN];grind
 | succ s b =>have a:=h;rw[FD,aj]at h;have c:=(b h.1).2;have d:=(ue a (i:=s+1) om).2.2;rw[dS]at d;rw[AE w<|s+1];refine⟨Nat.right_le_or,cu (cp c<|aV om om)<|bN om om⟩
theorem znf(h:PO w (s+1)=k0):oU w s<2^(fK w s-97):=by
 cases s with
 | zero=>exact qZ _
 | succ s =>have a:=(ue h (i:=s+1) om).2.2;have b:=ue h (i:=s) om;rw[dS]at a;rw[FD,aj]at h;exact cp (OE h.1).2<|aV om om
theorem zng(h:PO w (s+1)=k0):oU w s+2^(fK w s-97)=oU w (s+1):=by have e:=rJ (znf h) 1;simp_all[AE,JR,xr]
theorem OF(h:PO w s=k0):oU w s<64:=by
 cases s with
 | zero=>simp[rN]
 | succ s =>have:=ue h (i:=s) om;exact cp (OE h).2<|show 2^(fK w s-97+1)<=2^6 from aV om om
theorem znh(h:PO w s=k0)(b:97<=fK w s):oU w s >>> (fK w s-97)=0↔(s=0\/fK w (s-1)<fK w s):=by
 rw[nb,Nat.div_eq_zero_iff];cases s with
 | zero=>simp[rN,qZ]
 | succ s =>have c:=OE h;have d:=ue h (i:=s) om;rw[dS];have e:=qZ<|fK w (s+1)-97;constructor;intro a;refine Or.inr<|mX λf=>?_;have:2^(fK w (s+1)-97)<=2^(fK w s-97):=aV om om;omega;intro a;have:2^(fK w s-97+1)<=2^(fK w (s+1)-97):=aV om om;omega
theorem FE(h:wQ w=k0):Br w=0/\uq w=true:=by simp[Br,uq,h]
theorem zd3(h:wQ w=l0)(a:PO w w.size=l0):Br w=0/\uq w=false:=by simp[Br,uq,h,a]
theorem FG(h:wQ w=l0)(a:PO w w.size=k0):Br w=oU w w.size/\uq w=decide (1<=w.size):=by simp[Br,uq,h,a]
theorem OkSet.ps(h:OkSet w):Br w=oU w w.size/\uq w=true:=by
 have d:=by have:=h.dash;rwa[qd]at this
 have e:PO w _=true:=List.all_eq_true.2 λi b=>ay<|by
  have b:=List.mem_range.1 b;have a:=h.letter i b;refine⟨a.1,a.2,?_⟩;rcases tg i with c|c
  exact Or.inl c;exact Or.inr<|h.rise i b c
 have a:=FG d e;simp_all[h.lo]
structure SqB (M:fG):Prop where
 len:M.length<=7
 row:∀i,i<M.length->(M.getD i []).length=M.length
 small:∀i j,-100000<=(M.getD i []).getD j 0/\(M.getD i []).getD j 0<=100000
theorem SqB.nil:SqB []:=⟨sp,λi h=>sp,λi j=>sp⟩
theorem SqB.of(h:Sq s 100000 B)(b:s<=6):SqB B:=⟨by rw[h.len];omega,λi a=>by rw[h.len]at a ⊢;exact h.row i a,h.small⟩
def sgI(i:Nat)(x:Int):Int:=if i%2=0 then x else -x
def Cb(m:Nat)(f:V0)(s:Nat):Bool:=decide (s<2^m)&&!f (2^m-1-s)
def dL(g:V0)(s t:Nat):Bool:=(t&&&s==0)&&g (t|||s)
theorem zhx:∀m,m<7->∀u,u<2^m->∀s,s<64->((2^m-1-u)&&&s==s)=(decide (s<2^m)&&(u&&&(2^m-1-s)==u)):=by decide +kernel
theorem zmY:∀x,x<64->∀s,s<64->(x&&&s==s)=k0->x-s=x ^^^ s:=dc
theorem cg:s&&&y=y↔∀i,y.testBit i=k0->s.testBit i=true:=by
 refine⟨λh i c=>?_,λh=>bB λi=>?_⟩;rw[<- h,bQ,aj]at c;exact c.1;grind
theorem zbs{x s t:Nat}(k:x<64)(l:s<64):(x&&&s=s/\(x-s)&&&t=t)↔(t&&&s=0/\x&&&(t|||s)=t|||s):=by
 have d:x&&&s=s->∀i,(x-s).testBit i=(x.testBit i&&!s.testBit i):=λh i=>by rw[zmY x k s l (by rw[h];simp),eS];have:=cg.1 h i;cases e:x.testBit i<;>cases g:s.testBit i<;>simp_all
 refine⟨λ⟨e,g⟩=>⟨bB λi=>?_,cg.2 λi f=>?_⟩,λ⟨e,g⟩=>?_⟩;rw[bQ,dQ];have a:=cg.1 g i;rw[d e i]at a;cases m:t.testBit i<;>cases n:s.testBit i<;>simp_all;have a:=cg.1 g i;have b:=cg.1 e i;rw[d e i]at a;rw[bq]at f;cases m:t.testBit i<;>cases n:s.testBit i<;>simp_all;have c:=cg.1 g;have j:x&&&s=s:=cg.2 λi f=>c i (by rw[bq,f];simp);refine⟨j,cg.2 λi f=>?_⟩;rw[d j i,c i (by rw[bq,f];rfl)];have:(t&&&s).testBit i=false:=by rw[e,dQ]
 rw[bQ,f]at this;simp_all
theorem pZ(h:ao r s=k0)(b:s&&&y=y):ao r y=true:=by obtain⟨x,c,d⟩:=eT.1 h;refine eT.2 ⟨x,c,cg.2 λi e=>cg.1 d i<|cg.1 b i e⟩
theorem zdR(x:s<=6)(f:∀y t,d y=k0->y&&&t=t->d t=k0)(p:∀t:Nat,((t:Int)∈r↔∃u,u<2^s/\d u=l0/\(∀v,v<2^s->d v=l0->v&&&u=v->v=u)/\t=2^s-1-u))(m:y<64) :
 ((lc 64).any λt=>decide ((t:Int)∈r)&&(t&&&y==y))=Cb s d y:=by
 have z:=dx x
 refine Bool.eq_iff_iff.2 ⟨λh=>?_,λh=>?_⟩
 obtain⟨t,H,b⟩:=List.any_eq_true.1 h;rw[aj]at b;obtain⟨u,g,a,_,rfl⟩:=(p t).1 (cH b.1);have:=b.2;rw[zhx s om u g y m,aj,aq,aK]at this;unfold Cb;rw[aj,aq];refine⟨this.1,?_⟩;cases j:d (2^s-1-y)with
 | false=>rfl
 | true=>rw[f _ u j<|by rw[cl];exact this.2]at a;cases a
 unfold Cb at h;rw[aj,aq]at h;have j:d (2^s-1-y)=false:=ss h.2
 obtain⟨u,g,a,c,o⟩:∃u,u<2^s/\d u=l0/\(∀v,v<2^s->d v=l0->v&&&u=v->v=u)/\u&&&(2^s-1-y)=u:=by
  let q:V0:=λv=>decide (v<2^s)&&!d v;have i:∀v,q v=k0↔v<2^s/\d v=false:=λv=>by simp[q]
  have e:∀u,u<64->q u=k0->iF q l0 u=k0->u&&&(2^s-1-y)=u->∃u,u<2^s/\d u=l0/\(∀v,v<2^s->d v=l0->v&&&u=v->v=u)/\u&&&(2^s-1-y)=u :=
   λu I b A B=>⟨u,((i u).1 b).1,((i u).1 b).2,λv C k l=>so.1 A v om ((i v).2 ⟨C,k⟩) l,B⟩
  have n:q (2^s-1-y)=true:=(i _).2 ⟨om,j⟩;cases w:iF q l0 (2^s-1-y)with
  | true=>exact e _ om n w<|dp _
  | false =>obtain⟨t,D,E,F,_,G⟩:=Oc (aQ<|2^s-1-y) (2^s-1-y) (ab _) om w;exact e t D E G F
 refine List.any_eq_true.2 ⟨2^s-1-u,List.mem_range.2 om,?_⟩;rw[aj];refine⟨?_,?_⟩
 exact ay<|(p _).2 ⟨u,g,a,c,rfl⟩
 rw[zhx s om u g y m,o,ay h.1];simp
theorem zdS{g:N0}(i:∀x∈r,0<=x/\x<64)(j:s<64)(k:∀v:Nat,((v:Int)∈g↔∃x∈r,x.toNat&&&s=s/\v=x.toNat-s))(t:Nat) :
 ((lc 64).any λv=>decide ((v:Int)∈g)&&(v&&&t==t))=dL (ao r) s t:=by
 refine Bool.eq_iff_iff.2 ⟨λh=>?_,λh=>?_⟩
 obtain⟨v,l,e⟩:=List.any_eq_true.1 h;rw[aj,aK]at e;obtain⟨x,c,f,rfl⟩:=(k v).1 (cH e.1);have:=i x c;obtain⟨a,b⟩:=(zbs (x:=x.toNat) (s:=s) (t:=t) om j).1 ⟨f,e.2⟩;unfold dL;rw[a,eT.2 ⟨x,c,b⟩];rfl
 unfold dL at h;rw[aj,aK]at h;obtain⟨x,c,f⟩:=eT.1 h.2;have:=i x c;obtain⟨a,b⟩:=(zbs (x:=x.toNat) (s:=s) (t:=t) om j).2 ⟨h.1,f⟩;refine List.any_eq_true.2 ⟨x.toNat-s,List.mem_range.2 om,?_⟩;rw[aj,aK];refine⟨?_,b⟩;exact ay<|(k _).2 ⟨x,c,a,rfl⟩
theorem zbt{h:V0}(e:∀s,s<64->d s=h s)(a:s<64)(b:y<64):dL d s y=dL h s y:=by unfold dL;rw[e _<|cu (n:=6) b a]
def ix(fits:N0->Int->Bool)(a:N0):Nat->N0->Option N0
 | 0,head=>some head
 | n+1,head=>a.findSome? λg=>if decide (g∈head)||!fits head g then none else ix fits a n (head++[g])
def Do(a:N0)(u:Nat):N0:=((lc (lh a)).filter u.testBit).map λi=>lg a i 0
def zD(a:N0)(u:Nat)(l:N0):Prop:=l.Perm (Do a u)
theorem zes:zD a 0 []:=by
 simp[zD,Do]
theorem zjU{l:N0}(o:r.Nodup)(h:zD r s l)(g:y<lh r):decide (lg r y 0∈l)=s.testBit y:=by
 have k:lg r y 0∈l↔r.getD y 0∈Do r s:=h.mem_iff;cases m:s.testBit y with
 | true =>refine ay<|k.2 ?_;unfold Do;grind
 | false =>
   refine aD λp=>?_;have n:=k.1 p;have⟨j,q,e⟩:=List.mem_map.1 n;have⟨d,f⟩:=List.mem_filter.1 q;have d:=List.mem_range.1 d;have i:r[j]=r[y]:=by
    grind
   have:=(gd o).1 i;grind
theorem zet(h:i.testBit j=l0):∀n,j<n->((lc n).filter (i|||2^j).testBit).Perm ((lc n).filter i.testBit++[j]):=by
 have a:∀u,(i|||2^j).testBit u=(i.testBit u||decide (j=u)):=λu=>by rw[bq,bR]
 have b:∀n,n<=j->(lc n).filter (i|||2^j).testBit=(lc n).filter i.testBit:=λn k=>by refine eM λu c=>?_;grind
 intro n;induction n with
 | zero=>intro h;omega
 | succ n f =>
   intro l;rw[bW,aW,aW];grind
theorem zeu{l:N0}(h:zD r s l)(b:y<lh r)(c:s.testBit y=l0):zD r (s|||2^y) (l++[lg r y 0]):=by unfold zD Do at *;refine(List.Perm.append_right _ h).trans ?_;have:=(zet s y c _ b).map λy=>lg r y 0;grind
theorem zev{l b:N0}(h:zD r s l)(c:zD r s b):l.Perm b:=h.trans c.symm
theorem QC{a d:Type}{f g:a->Option d}{l:List a}(h:∀x∈l,f x=none->g x=none)(b:l.findSome? f=none):l.findSome? g=none:=by grind
theorem zew(f:∀l a x,l.Perm a->F l x=F a x):∀(n:Nat)(l a:N0),l.Perm a->ix F r n l=none->ix F r n a=none:=by
 intro n;induction n with
 | zero=>simp[ix]
 | succ n g =>intro l a c h;unfold ix at h ⊢;grind
def zjV(fits:N0->Int->Bool)(a:N0)(failed:V0):Prop:=∀u,failed u=k0->∀n l,zD a u l->lh l+n=lh a->ix fits a n l=none
theorem zof(i:∀l c x,l.Perm c->F l x=F c x)(h:zjV F r d){l:N0}(j:zD r s l)(o:lh l+y=lh r)(k:ix F r y l=none):zjV F r λv=>if v=s then k0 else d v:=by
 intro v n m c b f
 by_cases e:v=s
 subst e;have g:=zev j b;have:m=y:=by have:=g.length_eq;omega
 subst this;exact zew i _ _ _ g k
 have n:(if v=s then k0 else d v)=true:=n;rw[ac e]at n;exact h v n m c b f
def swj(l:N0)(j:Nat):N0:=(l.set j (lg l (j-1) 0)).set (j-1) (lg l j 0)
theorem zjS:∀(i:Nat)(l:N0),i+1<lh l->((l.set (i+1) (lg l i 0)).set i (lg l (i+1) 0)).Perm l:=by
 grind
theorem zod(a:0<s)(h:s<lh r):(swj r s).Perm r:=by have:=zjS (s-1) r om;rwa[show s-1+1=s by omega]at this
theorem zb1(d:0<s)(h:s<lh r)(a:Nat):lg (swj r s) a 0=if a=s-1 then r.getD s 0 else if a=s then r.getD (s-1) 0 else r.getD a 0:=by unfold swj;grind
def zhW(l:N0)(i:Nat):Prop:=∀a b,a<b->b<i->lg l a 0<=lg l b 0
def Pc(l:N0)(i j:Nat):Prop:=∀a b,a<b->b<=i->b≠j->lg l a 0<=lg l b 0
theorem zeq(h:zhW r s):Pc r s s:=λa b c d e=>h a b c om
theorem zb2(h:Pc r s y)(g:0<y)(o:y<=s)(p:s<lh r)(k:lg r y 0<lg r (y-1) 0):Pc (swj r y) s (y-1):=by intro a b m f n;rw[zb1 g om,zb1 g om,ac n];by_cases c:b=y;subst c;rw[ae rfl];by_cases d:a=b-1;omega;rw[ac d,ac om];exact h a (b-1) om om om;rw[ac c];by_cases d:a=y-1;rw[ae d];exact h y b om f c;rw[ac d];by_cases e:a=y;rw[ae e];exact h (y-1) b om f c;rw[ac e];exact h a b m f c
theorem JE(h:Pc r s y)(g:y<=s)(c:y=0\/r.getD (y-1) 0<=lg r y 0):zhW r (s+1):=by
 intro a b e k;by_cases d:b=y;subst d;rcases c with c|c
 omega;by_cases f:a=b-1;grind;exact Int.le_trans (h a _ om om om) c;exact h a b e om d
def vS(l:N0):N0:=l.mergeSort λa b=>decide (a<=b)
theorem xc:(vS a).Perm a:=List.mergeSort_perm _ _
theorem zoe:(vS a).Pairwise (·<=·):=(List.pairwise_mergeSort (λl b c d e=>by grind) (λl b=>by grind) a).imp λh=>ss h
theorem zb3{c:N0}(d:r.Perm c)(e:r.Pairwise (·<=·)):r=vS c :=
 List.Perm.eq_of_pairwise (λa b _ _ f g=>Int.le_antisymm f g) e (zoe c)<|d.trans (xc c).symm
theorem zjT{b:N0}(d:r.Perm b)(h:zhW r (lh r)):r=vS b:=by refine zb3 d<|List.pairwise_iff_getElem.2 λi j e c a=>?_;have:=h i j a c;grind
theorem If:lh (vS a)=lh a:=(xc a).length_eq
def Xd(s o g:Nat):Nat:=if aQ (s ^^^ (s&&&g))=1 then o|||(s ^^^ (s&&&g))else o
def PQ(a:O0)(s:Nat):Nat:=a.foldl (Xd s) 0
def xb(a:O0)(s:Nat):Nat->Nat
 | 0=>0
 | i+1=>if s.testBit i&&a.any (λg=>g&&&(s-2^i)==s-2^i)then xb a s i|||2^i else xb a s i
theorem Lz:∀(a:O0)(o:Nat),(a.foldl (Xd s) o).testBit y=(o.testBit y||a.any λg=>decide (aQ (s ^^^ (s&&&g))=1)&&(s ^^^ (s&&&g)).testBit y):=by
 intro a;induction a with
 | nil=>intro o;simp
 | cons g a b =>intro o;rw[qY,b,hO,<- nI];congr 1;unfold Xd;by_cases h:aQ (s ^^^ (s&&&g))=1;rw[ae h,bq];simp[h];rw[ac h];simp[h]
theorem zhV(j:Nat):∀k,(xb q s k).testBit j=(decide (j<k)&&(s.testBit j&&q.any λg=>g&&&(s-2^j)==s-2^j)):=by
 intro k;induction k with
 | zero=>simp[xb]
 | succ k b =>rw[xb];grind
theorem zrg:∀s,s<64->∀g,g<64->(s&&&g==s)=k0\/(∀i,i<6->(decide (CJ (s ^^^ (s&&&g))=1)&&(s ^^^ (s&&&g)).testBit i)=(s.testBit i&&(g&&&(s-2^i)==s-2^i))):=by decide +kernel
theorem zjO{a:Type}{l:List a}{p q:a->Bool}(h:∀x∈l,p x=q x):l.any p=l.any q:=by
 grind
theorem zjP{a:Type}{l:List a}{p q:a->Bool}(h:∀x∈l,p x=q x):l.all p=l.all q:=by
 grind
theorem zrh{a:Type}(b:Bool)(l:List a)(p:a->Bool):(b&&l.any p)=l.any λx=>b&&p x:=by
 grind
theorem zoa(a:s<64)(b:¬y<6):s.testBit y=false:=eK<|cp a<|show 2^6<=2^y from aV om om
theorem Pb{s g:Nat}(a:s<64):s ^^^ (s&&&g)<64:=gR (n:=6) a (bD bI a)
theorem zvS(c:s<64)(e:∀g∈q,g<64)(f:∀g∈q,(s&&&g==s)=l0):PQ q s=xb q s 6:=by
 refine bB λi=>?_;unfold PQ;rw[Lz,zhV,dQ,gm];by_cases b:i<6;rw[ay b,au,zrh];refine zjO λg d=>?_;rw[yS<|Pb c];rcases zrg s c g (e g d)with h|h
 rw[f g d]at h;cases h;exact h i b;rw[aD b,ce,pk];intro g _;rw[zoa (Pb c) b];simp
theorem zob(h:(PQ q s).testBit y=k0):s.testBit y=true:=by
 unfold PQ at h;rw[Lz,dQ,gm]at h;grind
theorem Xe(h:(xb q s A).testBit y=k0):s.testBit y=true:=by simp_all[zhV]
theorem UU(c:y<64)(h:∀i,s.testBit i=k0->y.testBit i=k0):s<64:=by
 have:s<2^6:=tn _ λi e=>by
  cases d:s.testBit i with
  | false=>rfl
  | true=>have b:=h i d;simp_all[zoa]
 omega
theorem zsQ{bs:O0}(a:s<64):PQ bs s<64:=UU a λ_=>zob
theorem zsR(b:s<64):xb q s y<64:=UU b λ_=>Xe
def KA(a:O0)(s:Nat):Bool:=a.all λg=>PQ a s ^^^ (PQ a s&&&g) != 0
def zjQ(a:O0)(s:Nat):Bool:=a.all λg=>(g&&&s)&&&xb a s 6 != xb a s 6
theorem vR:s&&&y=s↔∀i,s.testBit i=k0->y.testBit i=true:=by
 constructor;grind;intro h;refine bB λi=>?_;grind
theorem UV:s ^^^ (s&&&y)=0↔s&&&y=s:=by constructor;intro h;refine vR.2 λi c=>?_;have:=cV (λx=>x.testBit i) h;grind;grind
theorem zt8(f:s<64)(j:∀g∈q,g<64):KA q s=zjQ q s:=by
 by_cases e:∃g∈q,(s&&&g==s)=k0;have⟨g,d,h⟩:=e;have h:=beq_iff_eq.1 h;have c:=vR.1 h;have k:KA q s=false:=by unfold KA;rw[fo];refine⟨g,d,?_⟩;have:PQ q s ^^^ (PQ q s&&&g)=0:=UV.2<|vR.2 λi b=>c i<|zob b;rw[this];simp
 have l:zjQ q s=false:=by
  unfold zjQ;rw[fo];refine⟨g,d,?_⟩;have:(g&&&s)&&&xb q s 6=xb q s 6:=by rw[cl];refine vR.2 λi b=>?_;rw[bQ,c i<|Xe b,Xe b];rfl
  rw[this];simp
 rw[k,l];have m:∀g∈q,(s&&&g==s)=false:=λg d=>by
  cases h:(s&&&g==s)with
  | false=>rfl
  | true=>exact absurd ⟨g,d,h⟩ e
 unfold KA zjQ;rw[zvS f j m];refine zjP λg _=>?_;have:(xb q s 6 ^^^ (xb q s 6&&&g)=0)↔((g&&&s)&&&xb q s 6=xb q s 6):=by rw[UV,cl<|g&&&s,vR,vR];refine forall_congr' λi=>⟨λh b=>?_,λh b=>?_⟩;rw[bQ,h b,Xe b];rfl;have:=h b;rw[bQ,aj]at this;exact this.1
 grind
theorem zoc{a:O0}(h:q.Perm a):PQ q i=PQ a i:=by refine bB λs=>?_;simp[PQ,Lz,h.any_eq]
theorem zjR{a:O0}(h:q.Perm a):KA q i=KA a i:=by unfold KA;rw[zoc i h,h.all_eq]
def wZ(f:V0)(s:Nat):O0:=(lc 64).filter λt=>f t&&(t&&&s==s)&&t != s
def kx(f:V0)(s:Nat):Bool:=lh (wZ f s)==1
def pB(f:V0)(s:Nat):V0:=λu=>f u&&!(u&&&s==s)
def eN(f:V0):O0:=(co f).filter (kx f)
def pe(l:O0):Nat:=lg l (lh l-1) 0
def lJ(f:V0):Bool:=lh (eN f)==0||pe (eN f)==0
def QB:Nat->(V0)->O0->(V0)×O0
 | 0,f,l=>(f,l)
 | n+1,f,l=>if lJ f=k0 then(f,l)else QB n (pB f (pe (eN f))) (l++[pe (eN f)])
def zbY(f:V0):Nat:=lh ((lc 64).filter f)
theorem vO{f:V0}(h:lJ f=k0)(l:O0):∀n,QB n f l=(f,l):=by
 intro n;cases n with
 | zero=>rfl
 | succ n=>rw[QB,ae h]
theorem vP(h:lJ d=l0):pe (eN d)<64/\d (pe (eN d))=k0/\kx d (pe (eN d))=k0/\0<(eN d).length/\pe (eN d)≠0:=by unfold lJ at h;rw[ir,bc]at h;have a:pe _∈eN d:=aP 0 om;have⟨b,c⟩:=List.mem_filter.1 a;have⟨f,e⟩:=cR.1 b;grind
theorem zen{q:V0}(p:∀x∈c,q x=k0->d x=k0)(e:s∈c)(j:d s=k0)(k:q s=l0):lh (c.filter q)<(c.filter d).length:=by
 induction c with
 | nil=>grind
 | cons a c f =>
   have g:∀(c:O0),(∀x∈c,q x=k0->d x=k0)->lh (c.filter q)<=(c.filter d).length:=by
    intro c;induction c with
    | nil=>simp
    | cons b c f =>
      grind
   grind
theorem zn9(b:s<64)(a:d s=k0):zbY (pB d s)<zbY d:=by refine zen _ (λx _ h=>?_) (List.mem_range.2 b) a ?_;simp_all[pB];simp[pB]
theorem Ie(h:lJ d=l0)(l:O0)(c:zbY d<=s+1):QB (s+1) d l=QB s (pB d (pe (eN d))) (l++[pe (eN d)])/\zbY (pB d (pe (eN d)))<=s:=have⟨a,b,_⟩:=vP h;have:=zn9 a b;⟨by rw[QB,ac<|by grind],om⟩
theorem Xc(h:lJ d=l0):0<zbY d:=by have⟨a,b,_⟩:=vP h;have:=zn9 a b;omega
theorem zbZ:y∈wZ d s↔y<64/\d y=k0/\y&&&s=s/\y≠s:=by unfold wZ;grind
def xa(f:V0)(s:Nat):Nat:=lg (wZ f s) 0 0
theorem zeo(h:kx d s=k0):wZ d s=[xa d s]:=by
 unfold kx at h;match b:wZ d s,h with
 | [a],_=>simp[xa,b]
theorem zhU(h:kx d s=k0):xa d s<64/\d (xa d s)=k0/\xa d s&&&s=s/\xa d s≠s :=
 zbZ.1<|by simp[zeo h]
theorem zrd(g:s<64)(h:kx d s=k0)(b:y<64):pB d s y=(d y&&!(y==s||y==xa d s)):=by
 unfold pB;cases c:d y with
 | false=>rfl
 | true =>rw[au,au];congr 1;have⟨j,k,i,l⟩:=zhU h;rw[aZ,aK,cw,aK];constructor;intro e;by_cases a:y=s;grind;have:=zbZ.2 ⟨b,c,e,a⟩;rw[zeo h]at this;grind;grind
theorem zre(b:s<64)(h:kx d s=k0):bA d 64 ^^^ (bA d 64&&&(2^s|||2^xa d s))=bA (pB d s) 64:=by
 refine bB λi=>?_;rw[eS,bQ,mM,mM];by_cases a:i<64;rw[zrd b h a];grind;grind
def DnF(f:V0):Prop:=∀s t,f s=k0->s&&&t=t->f t=k0
theorem zsP(h:DnF d)(s:Nat):DnF (pB d s):=λu v b a=>by unfold pB at b ⊢;rw[aj,bC,bc]at b ⊢;refine⟨h u v b.1 a,λe=>b.2 ?_⟩;grind
theorem zep(h:DnF d)(b:s<64):((lc 64).any λt=>d t&&(t&&&s==s))=d s:=by rw[aZ,cS];constructor;rintro⟨t,_,a⟩;rw[aj,aK]at a;exact h t s a.1 a.2;grind
theorem tM{g:V0}(h:∀s,s<64->d s=g s):eN d=eN g:=by rw[eN,mo h];refine eM λs b=>?_;unfold kx wZ;congr 2;refine eM λt a=>?_;grind
theorem je{g:V0}(h:∀s,s<64->d s=g s)(b:Bool):dI d b=dI g b:=by unfold dI;rw[mo h];unfold iF;grind
theorem vQ:lh (eN f)<=448:=aJ (aO _ _)<|ordN_len f
theorem Pa{g:V0}(h:∀s,s<64->d s=g s)(s:Nat):wZ d s=wZ g s:=by refine eM λt a=>?_;grind
theorem zb0{g:V0}(h:∀s,s<64->d s=g s)(s:Nat):kx d s=kx g s:=by unfold kx;rw[Pa h]
def kN{α:Type}(S:α->Prop)(n:Nat):Prop:=∃l:List α,l.Nodup/\(∀x,x∈l↔S x)/\l.length=n
section
variable {α β:Type}{S T:α->Prop}{m n k:Nat}
theorem kN.uniq(h:kN S m)(a:kN S n):m=n:=by have⟨l,b,c,f⟩:=h;have⟨g,d,e,i⟩:=a;have:=((dn b d).2 λx=>(c x).trans (e x).symm).length_eq;omega
theorem kN.congr(h:kN S n)(e:∀x,S x↔T x):kN T n:=have⟨l,a,b,c⟩:=h;⟨l,a,λx=>(b x).trans<|e x,c⟩
theorem kN.none(h:∀x,¬S x):kN S 0:=⟨[],fS,λx=>⟨λa=>absurd a sp,λa=>absurd a<|h x⟩,rfl⟩
theorem kN.one(a:α):kN (λx=>x=a) 1:=⟨[a],sp,λx=>sp,rfl⟩
theorem kN.list{l:List α}(h:l.Nodup):kN (λx=>x∈l) (lh l):=⟨l,h,λ_=>mV,rfl⟩
open Classical in
theorem kN.part(h:kN S n)(a:∀x,T x->S x):∃m,m<=n/\kN T m:=by obtain⟨l,b,c,d⟩:=h;refine⟨lh (l.filter λx=>decide (T x)),by rw[<- d];exact aO _ _,_,b.filter _,λx=>?_,rfl⟩;rw[dG,bT,c];exact⟨λh=>h.2,λh=>⟨a x h,h⟩⟩
theorem kN.or(h:kN S m)(c:kN T n)(d:∀x,S x->T x->False):kN (λx=>S x\/T x) (m+n):=by obtain⟨l,f,a,g⟩:=h;obtain⟨i,j,b,k⟩:=c;refine⟨l++i,?_,λx=>by grind,by grind⟩;grind
theorem kN.rest(h:kN S n)(d:kN T m)(e:∀x,T x->S x):m<=n/\kN (λx=>S x/\¬T x) (n-m):=by have⟨k,j,c⟩:=h.part (T:=λx=>S x/\¬T x) λx f=>f.1;have:=h.uniq ((d.or c λx a b=>b.2 a).congr λx=>⟨λa=>a.elim (e x) (·.1),λa=>(Classical.em _).elim .inl λb=>.inr ⟨a,b⟩⟩);grind
theorem kN.sub_eq(h:kN S n)(a:kN T n)(b:∀x,T x->S x)(x:α)(c:S x):T x:=by have⟨l,g,d,i⟩:=(h.rest a b).2;grind
theorem kN.image{U:β->Prop}(f:α->β)(h:kN S n)(d:∀x y,S x->S y->f x=f y->x=y)(g:∀y,U y↔∃x,S x/\f x=y):kN U n:=by obtain⟨l,i,b,j⟩:=h;refine⟨l.map f,?_,λy=>?_,ss j⟩;refine List.pairwise_map.2<|List.Pairwise.imp_of_mem ?_ i;intro x y a k c e;exact c<|d x y ((b x).1 a) ((b y).1 k) e;grind
theorem kN.fib{U:β->Prop}(g:α->β)(i:kN U m)(j:∀x,S x->U (g x))(n:∀y,U y->kN (λx=>S x/\g x=y) k):kN S (m*k):=by
 have⟨l,o,e,p⟩:=i;have c:∀l:List β,l.Nodup->(∀y∈l,U y)->kN (λx=>S x/\g x∈l) (l.length*k):=by
  intro l;induction l with
  | nil=>intro _ _;rw[cJ,Nat.zero_mul];exact kN.none λx h=>absurd h.2 sp
  | cons y l q =>intro d f;rw[xW]at d;have r:=n y (f y sp);have s:=q d.2 λz t=>f z (by simp[t]);have u:=r.or s λx a b=>d.1 (a.2 ▸ b.2);rw[bH,Nat.succ_mul,xr];refine u.congr λx=>?_;rw[jV];constructor;rintro(⟨a,b⟩|⟨a,b⟩);exact⟨a,.inl b⟩;exact⟨a,.inr b⟩;rintro⟨a,b|b⟩;exact .inl ⟨a,b⟩;exact .inr ⟨a,b⟩
 have:=c l o λy w=>(e y).1 w;rw[p]at this;exact this.congr λx=>⟨λh=>h.1,λh=>⟨h,(e _).2 (j x h)⟩⟩
end
section
variable {p:Nat}[NeZero p]
def gY(n:Nat)(f:Nat->Fin p):Fin p:=match n with|0=>0|n+1=>gY n f+f n
theorem fg{f g:Nat->Fin p}:∀n,(∀i,i<n->f i=g i)->gY n f=gY n g
 | 0,_=>rfl
 | n+1,h=>by rw[gY,gY,fg n λi a=>h i om,h n om]
theorem jp{f:Nat->Fin p}:∀n,(∀i,i<n->f i=0)->gY n f=0
 | 0,_=>rfl
 | n+1,h=>by rw[gY,jp n λi a=>h i om];grind
theorem oZ(f g:Nat->Fin p):∀n,gY n (λi=>f i+g i)=gY n f+gY n g
 | 0=>rfl
 | n+1=>by simp[gY];rw[oZ f g n];grind
theorem mq(c:Fin p)(f:Nat->Fin p):∀n,gY n (λi=>c*f i)=c*gY n f
 | 0=>rfl
 | n+1=>by simp[gY];rw[mq c f n];grind
theorem Ov{f:Nat->Fin p}{v:Nat}:∀n,v<n->(∀i,i<n->i≠v->f i=0)->gY n f=f v
 | 0,h,_=>absurd h om
 | n+1,h,a=>by rw[gY];by_cases e:v=n;subst e;rw[jp v λi c=>a i om om];grind;rw[Ov n om λi c b=>a i om b,a n om om];grind
theorem Up{F:Nat->Nat->Fin p}:∀n,(∀i j,i<n->j<n->i≠j->F i j+F j i=0)->(∀i,i<n->F i i=0)->gY n (λi=>gY n λj=>F i j)=0
 | 0,_,_=>rfl
 | n+1,h,a=>by
   have c:=Up n (λi j b e=>h i j om om) λi b=>a i om;have d:gY (n+1) (λi=>gY (n+1) λj=>F i j)=gY n (λi=>gY n λj=>F i j)+(gY n (λi=>F i n+F n i)+F n n):=by have:gY n (λi=>gY (n+1) λj=>F i j)=gY n (λi=>gY n (λj=>F i j)+F i n):=fg n λi _=>rfl;rw[gY,this,oZ,oZ,gY];grind
   rw[d,c,a n om,jp n λi b=>h i n om om om];grind
def evB(a v:Nat):Bool:=aQ (a&&&(2^v-1))%2==0
def sg(p:Nat)[NeZero p](a v:Nat):Fin p:=if evB a v then 1 else -1
theorem zhn:sg p i j*sg p i j=1:=by unfold sg;grind
theorem zqt:∀a,a<64->∀u,u<6->∀v,v<6->(u==v||a.testBit u||a.testBit v||((evB (a|||2^v) u==evB (a|||2^u) v)==!(evB a u==evB a v)))=true:=by decide +kernel
theorem zho(b:s<64)(c:y<6)(d:A<6)(h:y≠A)(e:s.testBit y=l0)(f:s.testBit A=l0) :
 sg p s A*sg p (s|||2^A) y+sg p s y*sg p (s|||2^y) A=0:=by
 have:=zqt s b y c A d
 unfold sg
 grind
theorem ztD{A B C D:Fin p}(h:A*B+C*D=0)(a:A*A=1)(b:D*D=1)(z:Fin p):D*(B*z)=(-C)*(A*z):=by
 grind
def On(P:l1)(x:Nat->Fin p):Prop:=∀a,¬P a->x a=0
def bd(x:Nat->Fin p)(a:Nat):Fin p:=gY 6 λv=>if a.testBit v then 0 else sg p a v*x (a|||2^v)
def vp(x y:Nat->Fin p)(a:Nat):Fin p:=x a+y a
def CO(x y:Nat->Fin p)(a:Nat):Fin p:=x a-y a
def zjd(x:Nat->Fin p)(a:Nat):Fin p:=- x a
def vsm(c:Fin p)(x:Nat->Fin p)(a:Nat):Fin p:=c*x a
def v0(a:Nat):Fin p:=0
theorem zdQ(x y:Nat->Fin p):bd (vp x y)=vp (bd x) (bd y):=by funext a;show bd _ a=bd x a+bd y a;unfold bd;rw[<- oZ];exact fg 6 λv _=>by unfold vp;split<;>grind
theorem zvE(c:Fin p)(x:Nat->Fin p):bd (vsm c x)=vsm c (bd x):=by funext a;show bd _ a=c*bd x a;unfold bd;rw[<- mq];exact fg 6 λv _=>by unfold vsm;grind
theorem zhp(x y:Nat->Fin p):CO x y=vp x (vsm (-1) y):=by unfold CO vp vsm;grind
theorem ztE(x y:Nat->Fin p):bd (CO x y)=CO (bd x) (bd y):=by simp[zhp,zdQ,zvE]
theorem Wy:bd (v0 (p:=p))=v0:=by funext a;exact jp 6 λv _=>by unfold v0;grind
theorem Wz(b:s<64)(c:y<6):s|||2^y<64:=cu b<|bN om c
theorem su(h:s|||2^y<64):s<64:=bD pt h
theorem zvF{x:Nat->Fin p}(i:On (λa=>a<64) x):bd (bd x)=v0:=by
 funext a;show bd (bd x) a=0;by_cases f:a<64;have:bd (bd x) a=gY 6 λv=>gY 6 λu=>if a.testBit v then 0 else sg p a v*(if(a|||2^v).testBit u then 0 else sg p (a|||2^v) u*x (a|||2^v|||2^u)):=by refine fg 6 λv _=>?_;split;exact(jp 6 λu _=>rfl).symm;rw[mq];rfl
 rw[this];refine Up 6 (λv u g j d=>?_) λv g=>?_;by_cases c:a.testBit v=k0;have b:(a|||2^u).testBit v=true:=by rw[bq,c];rfl
 rw[ae c,ae b];split<;>grind;by_cases b:a.testBit u=k0;have e:(a|||2^v).testBit u=true:=by rw[bq,b];rfl
 rw[ac c,ae b,ae e];grind;have e:(a|||2^v).testBit u=false:=by rw[bq,bR];simp[b];omega
 have k:(a|||2^u).testBit v=false:=by rw[bq,bR];simp[c];omega
 have l:a|||2^u|||2^v=a|||2^v|||2^u:=by rw[xt,JR<|2^u,xt]
 rw[ac c,ac b,ac<|by rw[e];decide,ac<|by rw[k];decide,l];have:=zho (p:=p) f j g (Ne.symm d) (ss b)<|ss c;generalize x (a|||2^v|||2^u)=z;grind;split;rfl;have:(a|||2^v).testBit v=true:=by rw[bq,bR];simp
 rw[ae this];grind;have m:∀v,bd x (a|||2^v)=0:=λv=>jp 6 λu _=>by split;rfl;rw[i _<|λh=>f<|su<|su h];grind
 exact jp 6 λv _=>by split;rfl;rw[m];grind
def lkv(f:V0)(v t:Nat):Bool:=!t.testBit v&&f (t|||2^v)
def dlv(f:V0)(v t:Nat):Bool:=!t.testBit v&&f t
def fre(v:Nat)(a:Nat):Prop:=a.testBit v=l0
def vpt(v:Nat)(x:Nat->Fin p)(a:Nat):Fin p:=if a.testBit v then 0 else sg p a v*x (a|||2^v)
def vof(v:Nat)(x:Nat->Fin p)(a:Nat):Fin p:=if a.testBit v then 0 else x a
def cone(v:Nat)(y:Nat->Fin p)(b:Nat):Fin p:=if b.testBit v then sg p (b ^^^ 2^v) v*y (b ^^^ 2^v)else 0
theorem Fq(h:s.testBit y=k0):(s ^^^ 2^y).testBit y=l0/\(s ^^^ 2^y)|||2^y=s:=by simp[h];refine bB λi=>?_;grind
theorem ztF(h:s.testBit y=l0):(s|||2^y) ^^^ 2^y=s:=by refine bB λi=>?_;grind
theorem ztG:(i|||2^j).testBit j=true:=sp
theorem vq{a u v:Nat}(h:u≠v):(a|||2^u).testBit v=a.testBit v:=by grind
theorem Jz(x:Nat->Fin p):x=vp (vof i x) (cone i (vpt i x)):=by funext a;unfold vp vof cone vpt;by_cases h:a.testBit i=k0;obtain⟨b,c⟩:=Fq h;rw[ae h,ae h,ac<|by rw[b];decide,c];have:=zhn (p:=p) (a ^^^ 2^i) i;generalize x a=z;grind;rw[ac h,ac h];grind
theorem zqu(x:Nat->Fin p):On (fre i) (vof i x):=λa h=>by rw[vof,ae<|by simp_all[fre]]
theorem zhq(x:Nat->Fin p):On (fre i) (vpt i x):=λa h=>by rw[vpt,ae<|by simp_all[fre]]
theorem ztH{x:Nat->Fin p}(h:On (fre s) x):On (fre s) (bd x):=λa b=>by
 have b:=by unfold fre at b;simpa using b
 refine jp 6 λu _=>?_;split;rfl;rename_i c;have:u≠s:=λe=>c<|e ▸ b;rw[h _<|by unfold fre;rw[vq this,b];decide];grind
theorem zhr(n:s<6){y:Nat->Fin p}(h:On (fre s) y)(l:On (λa=>a<64) y):bd (cone s y)=CO y (cone s (bd y)):=by
 funext a;show bd (cone s y) a=y a-cone s (bd y) a;by_cases f:a.testBit s=k0;have o:y a=0:=h a (by unfold fre;rw[f];decide);have⟨m,g⟩:=Fq f;have e:cone s (bd y) a=sg p (a ^^^ 2^s) s*bd y (a ^^^ 2^s):=by unfold cone;rw[ae f]
 generalize q:a ^^^ 2^s=c at *;rw[o,e];have v:bd (cone s y) a=gY 6 λu=>(- sg p c s)*(if c.testBit u then 0 else sg p c u*y (c|||2^u)):=by
  refine fg 6 λu r=>?_;by_cases d:a.testBit u=k0;rw[ae d];by_cases e:u=s;subst e;rw[ac (by rw[m];decide),g,o];grind;have:c.testBit u=true:=by rw[<- vq (a:=c) (Ne.symm e),g,d]
  rw[ae this];grind;have b:u≠s:=λe=>d (e ▸ f);have j:c.testBit u=false:=by rw[<- vq (a:=c) (Ne.symm b),g];simpa using d
  rw[ac d,ac (by rw[j];decide)];unfold cone;have t:(a|||2^u).testBit s=true:=by rw[vq b,f]
  rw[ae t];have w:(a|||2^u) ^^^ 2^s=c|||2^u:=by rw[<- g];refine bB λi=>?_;simp only[eS,bq,bR];by_cases e:s=i;subst e;simp[m,b];simp[e]
  rw[w];by_cases k:c<64;have:=zho (p:=p) k n r (Ne.symm b) m j;rw[g]at this;exact ztD this (zhn c u) (zhn a u) _;rw[l _ (λx=>k (su x))];grind
 rw[v,mq];unfold bd;grind;have q:cone s (bd y) a=0:=by unfold cone;rw[ac f]
 rw[q];have:bd (cone s y) a=if a.testBit s then 0 else sg p a s*cone s y (a|||2^s):=Ov 6 n λu r b=>by split;rfl;unfold cone;rw[ac (by rw[vq b];exact f)];grind
 rw[this,ac f];unfold cone;rw[ae (ztG a s),ztF (ss f)];have:=zhn (p:=p) a s;generalize y a=z;grind
end
def CN(f:V0):Prop:=∀s t,f s=k0->s&&&t=t->f t=k0
def Ou(f:V0)(k a:Nat):Prop:=a<64/\f a=k0/\aQ a=k
section
variable {p:Nat}[NeZero p]
def Ac(p:Nat)[NeZero p](f:V0)(k:Nat):Prop:=∀x:Nat->Fin p,On (Ou f k) x->bd x=v0->∃y,On (Ou f (k+1)) y/\bd y=x
theorem On.mono{Q:l1}{x:Nat->Fin p}(h:On P x)(b:∀a,P a->Q a):On Q x:=λa c=>h a λd=>c<|b a d
theorem On.add{x y:Nat->Fin p}(h:On P x)(c:On P y):On P (vp x y):=λa b=>by rw[vp,h a b,c a b];grind
theorem On.sub{x y:Nat->Fin p}(h:On P x)(c:On P y):On P (CO x y):=λa b=>by rw[CO,h a b,c a b];grind
theorem On.lt{x:Nat->Fin p}(h:On (Ou d s) x):On (λa=>a<64) x:=h.mono λa h=>h.1
theorem Hy:∀a,a<64->∀v,v<6->a.testBit v=l0->aQ (a|||2^v)=aQ a+1:=by decide +kernel
theorem tI{a v:Nat}:(a|||2^v)&&&a=a:=by refine bB λi=>?_;grind
theorem zsF(c:CN d){x:Nat->Fin p}(h:On (Ou d (s+1)) x):On (Ou d s) (bd x):=λa k=>by refine jp 6 λv e=>?_;split;rfl;rename_i g;rw[h _ λb=>k ⟨su b.1,c _ _ b.2.1 tI,by have:=Hy a (su b.1) v e<|ss g;have:=b.2.2;omega⟩];grind
theorem ztB{x:Nat->Fin p}(h:On (Ou d 0) x):bd x=v0:=by funext a;refine jp 6 λv c=>?_;split;rfl;rename_i f;rw[h _ λb=>by have:=Hy a (su b.1) v c<|ss f;have:=b.2.2;omega];grind
theorem Ww:dlv d s y=k0↔y.testBit s=l0/\d y=true:=by simp[dlv]
theorem Wx:lkv d s y=k0↔y.testBit s=l0/\d (y|||2^s)=true:=by simp[lkv]
theorem zqr{x:Nat->Fin p}(h:On (Ou (lkv d s) y) x):On (fre s) x:=h.mono λa b=>(Wx.1 b.2.1).1
theorem ztC{x:Nat->Fin p}(h:On (Ou d y) x):On (Ou (dlv d s) y) (vof s x):=λa c=>by unfold vof;split;rfl;rename_i k;exact h a λb=>c ⟨b.1,Ww.2 ⟨ss k,b.2.1⟩,b.2.2⟩
theorem zhm(b:s<64)(c:y<6):s ^^^ 2^y<64:=gR b<|bN om c
theorem zqs(k:s<6){v:Nat->Fin p}(h:On (Ou (lkv d s) y) v):On (Ou d (y+1)) (cone s v):=λa e=>by unfold cone;split;rename_i g;have⟨i,c⟩:=Fq g;rw[h (a ^^^ 2^s) λb=>e ⟨by rw[<- c];exact Wz b.1 k,by have:=(Wx.1 b.2.1).2;rwa [c]at this,by have:=Hy _ b.1 s k i;rw[c]at this;have:=b.2.2;omega⟩];grind;rfl
theorem zmW(c:s<6){x:Nat->Fin p}(b:On (λa=>a<64) x):bd x=vp (vp (bd (vof s x)) (vpt s x)) (cone s (zjd (bd (vpt s x)))):=by
 have d:=zhr c (zhq s x) (y:=vpt s x) λa e=>by
  unfold vpt;split
  ·rfl
  ·rw[b _ λf=>e<|su f];grind
 conv=>lhs;rw[Jz s x,zdQ,d]
 funext a;unfold vp CO cone zjd;split<;>grind
theorem Ac.cone(o:CN d)(g:s<6)(h:∀t,t<64->d t=k0->d (t|||2^s)=k0)(k:Nat):Ac p d k:=by
 intro x j l;have c:=zmW g j.lt;rw[l]at c;have e:bd (vof s x)=zjd (vpt s x):=by funext a;by_cases b:a.testBit s=k0;have m:=ztH (zqu s x) a (by unfold fre;rw[b];decide);have n:=zhq s x a (by unfold fre;rw[b];decide);unfold zjd;rw[m,n];grind;have v:=congrFun c a;unfold vp Go.Abs.cone v0 at v;rw[ac b]at v;unfold zjd;grind
 have i:On (Ou (lkv d s) k) (vof s x):=(ztC j).mono λa b=>⟨b.1,Wx.2 ⟨(Ww.1 b.2.1).1,h a b.1 (Ww.1 b.2.1).2⟩,b.2.2⟩;refine⟨Go.Abs.cone s (vof s x),zqs g i,?_⟩;rw[zhr g (zqr i) i.lt,e];funext a;have v:x a=vof s x a+Go.Abs.cone s (vpt s x) a:=congrFun (Jz s x) a;rw[v];unfold CO Go.Abs.cone zjd;split<;>grind
end
section
variable {p:Nat}[NeZero p]
theorem zbr:0<p:=ov<|NeZero.ne p
def kv(p:Nat)[NeZero p](a:Int):Fin p:=⟨(a%(p:Int)).toNat,by
 have:=zbr (p:=p);have c:=ji a (b:=(p:Int)) om;have d:=jr a (b:=(p:Int)) om;omega⟩
theorem rB:((kv p b).val:Int)=b%(p:Int):=by have:=zbr (p:=p);have c:=jr b (b:=p) om;show((b%p).toNat:Int)=_;omega
theorem WA{b:Int}:kv p z=kv p b↔z%(p:Int)=b%(p:Int):=by rw[<- rB,<- rB b];omega
theorem wN{x:Fin p}(h:(x.val:Int)%(p:Int)=z%(p:Int)):x=kv p z:=by have:=rB (p:=p) z;rw[jH om om]at h;omega
theorem zhu:kv p b+kv p x=kv p (b+x):=by refine wN ?_;rw[Fin.val_add];have c:=rB (p:=p) b;have d:=rB (p:=p) x;rw[wo,Int.natCast_add,c,d];simp[Int.add_emod]
theorem tJ:kv p b*kv p x=kv p (b*x):=by refine wN ?_;rw[Fin.val_mul];have c:=rB (p:=p) b;have d:=rB (p:=p) x;rw[wo,xX,c,d];simp[Int.mul_emod]
theorem zg:kv p 0=0:=rfl
theorem Fr:kv p 1=1:=rfl
theorem Lt:kv p (b%(p:Int))=kv p b:=WA.2 sp
theorem zhv:kv p b-kv p x=kv p (b-x):=by
 have:kv p (b-x)+kv p x=kv p b:=by simp[zhu]
 grind
theorem zqw:- kv p b=kv p (-b):=by
 have:kv p (-b)+kv p b=0:=by rw[zhu,<- zg];grind
 grind
theorem zh:∀l:O0,l.Nodup->kN (λx:Nat->Fin p=>On (λa=>a∈l) x) (p^l.length)
 | [],_=>(kN.one (λ_=>0)).congr λx=>⟨λh a _=>by rw[h],λh=>funext λa=>h a sp⟩
 | b::l,d=>by rw[xW]at d;have i:=zh l d.2;have j:kN (λ_:Fin p=>True) p:=⟨List.finRange p,Ma p,λx=>sp,sp⟩;rw[bH,fm,Gs];refine kN.fib (λx=>x b) j (λ_ _=>trivial) λc _=>i.image (λx a=>if a=b then c else x a) (λx y g k e=>?_) λy=>?_;funext a;by_cases h:a=b;subst h;rw[g a d.1,k a d.1];have:=congrFun e a;simpa[h]using this;constructor;rintro⟨m,n⟩;refine⟨λa=>if a=b then 0 else y a,λa f=>?_,?_⟩;by_cases h:a=b;simp[h];simp[h];exact m a (by simp[h,f]);funext a;by_cases h:a=b;subst h;simp[n];simp[h];rintro⟨x,g,rfl⟩;refine⟨λa f=>?_,sp⟩;have h:¬a=b:=λe=>f (by simp[e]);simp[h];exact g a λo=>f (by simp[o])
def ub(p:Nat)[NeZero p](n:Nat)(r:N0)(x:Nat->Fin p):Fin p:=gY n λj=>kv p (lg r j 0)*x j
def Kq(p:Nat)[NeZero p](n:Nat)(M:fG)(x:Nat->Fin p):Prop:=∀i,i<lh M->ub p n (lg M i []) x=0
theorem zqx{b:Int}(a:lh r=s)(x:Nat->Fin p):ub p s (Gy p b r) x=kv p b*ub p s r x:=by unfold ub;rw[<- mq];refine fg s λj c=>?_;rw[uT _ _ om,Lt,<- tJ];grind
theorem zhw{q:N0}(a:lh r=s)(x:Nat->Fin p):ub p s (sbt p z q r) x=ub p s r x+(- kv p z)*ub p s q x:=by unfold ub;rw[<- mq,<- oZ];refine fg s λj b=>?_;rw[oT _ _ om,Lt,<- zhv,<- tJ];grind
theorem zqy(x:Nat->Fin p):ub p s (r.map λa=>a%(p:Int)) x=ub p s r x:=by refine fg s λj b=>?_;by_cases h:j<lh r;simp[h,Lt];grind
theorem Ow{p:Int}(b:lM p=k0){a:Int}(c:0<=a)(d:a<p)(h:a≠0):a*sk p a%p=1:=by
 rcases zg6.1 b with rfl|rfl|rfl;have:a=1:=om;subst this;decide;have:a=1\/a=2:=om;rcases this with rfl|rfl<;>decide
 have:a=1\/a=2\/a=3\/a=4:=om;rcases this with rfl|rfl|rfl|rfl<;>decide
theorem Fs{M:fG}{b:Nat}:∀(n a:Nat),fV M b a n=a+n->∀i,a<=i->i<a+n->lg (lg M i []) b 0=0
 | 0,a,_,i,c,d=>absurd c om
 | n+1,a,h,i,c,d=>by rw[fV]at h;split at h;rename_i f;by_cases e:i=a;subst e;exact f;exact Fs n (a+1) om i om om;omega
theorem wO{M:fG}{col:Nat}:∀(n a:Nat),fV M col a n≠a+n->fV M col a n<a+n/\(lg M (fV M col a n) []).getD col 0≠0
 | 0,a,h=>absurd rfl h
 | n+1,a,h=>by rw[fV]at h ⊢;split at h;rename_i b;rw[ae b];have:=wO (M:=M) (col:=col) n (a+1) (λe=>h (om));exact⟨om,this.2⟩;grind
structure Ech (p:Int) (n col:Nat) (M:fG) (piv:List Nat):Prop where
 ok:MatOk p n M
 lt:∀c∈piv,c<col
 nd:piv.Nodup
 one:∀k,k<piv.length->(M.getD k []).getD (piv.getD k 0) 0=1
 zer:∀k,k<piv.length->∀i,i<M.length->i≠k->(M.getD i []).getD (piv.getD k 0) 0=0
 low:∀i,piv.length<=i->i<M.length->∀j,j<col->(M.getD i []).getD j 0=0
 len:piv.length<=M.length
theorem vt(d:s<lh B)(f:y<lh B):lg (wJ B s y) A []=if A=y then B.getD s []else if A=s then B.getD y []else B.getD A []:=by unfold wJ;grind
theorem wP{p:Int}{M:fG}{a col i:Nat}(b:a<lh M)(c:i<lh M) :
 (od p a col M).getD i []=if i=a then Gy p (sk p (lg (lg M a []) col 0)) (lg M a [])else sbt p (lg (lg M i []) col 0) (Gy p (sk p (lg (lg M a []) col 0)) (lg M a [])) (lg M i []):=by
 rw[od,uU _ _ _<|by rwa [oA],ae c]
 unfold oF yT
 grind
theorem Ech.step(H:lM z=k0)(h:Ech z s y B q)(I:y<s)(A:lh q<lh B):Ech z s (y+1) (gI z B y q).1 (gI z B y q).2:=by
 have R:0<z:=by have:=jy H;omega
 unfold gI;split;rename_i J;refine⟨h.ok,λc I=>by have:=h.lt c I;omega,h.nd,h.one,h.zer,λi u w j piv=>?_,h.len⟩;have u:lh q<=i:=u;have w:i<lh B:=w;have J:fV B y (lh q) (lh B-lh q)=lh B:=J;by_cases e:j=y;subst e;exact Fs (M:=B) (lh B-lh q) (lh q) om i u om;exact h.low i u w j om;rename_i J;obtain⟨X,U⟩:=wO (M:=B) (col:=y) (lh B-lh q) (lh q) om;have Y:=(NZ B y (lh B-lh q)<|lh q).1;generalize fV B y (lh q) (lh B-lh q)=t at *;have E:t<lh B:=om;have g:=Wh h.ok A E;have p:=jP B (lh q) t;have F:∀i,lg (wJ B (lh q) t) i []=if i=t then B.getD (lh q) []else if i=q.length then B.getD t []else B.getD i []:=λi=>vt A E
 have K:lg (wJ B (lh q) t) (lh q) []=lg B t []:=by rw[F];by_cases e:lh q=t;rw[ae e,e];rw[ac e,ae rfl]
 have G:∀k,k<lh q->∀i,i<lh B->i≠k->lg (lg (wJ B (lh q) t) i []) (lg q k 0) 0=0:=λk m i n M=>by rw[F];split;exact h.zer k m _ A om;split;exact h.zer k m _ E om;exact h.zer k m i n M
 have V:∀k,k<lh q->lg (lg (wJ B (lh q) t) k []) (lg q k 0) 0=1:=λk m=>by rw[F,ac om,ac om];exact h.one k m
 have O:∀i,lh q<=i->i<lh B->∀j,j<y->lg (lg (wJ B (lh q) t) i []) j 0=0:=λi u w j piv=>by rw[F];split;exact h.low _ (ab _) A j piv;split;exact h.low _ om E j piv;exact h.low i u w j piv
 have L:lg (lg (wJ B (lh q) t) (lh q) []) y 0≠0:=by rw[K];exact U
 generalize Z:wJ B (lh q) t=S at *;have P:lh (lg S (lh q) [])=s:=g.len _ om;have x:=g.res (lh q) om;have C:=Ow H (x y).1 (x y).2 L;have N:∀i,i<lh S->lg (od z (lh q) y S) i []=_:=λi n=>wP (p:=z) (M:=S) (a:=lh q) (col:=y) om n;have r:∀j,j<s->lg (lg S (lh q) []) j 0=0->lg (Gy z (sk z<|lg (lg S (lh q) []) y 0)<|lg S (lh q) []) j 0=0:=λj piv e=>by rw[uT _ _ om,e];simp
 have d:lg (Gy z (sk z<|lg (lg S (lh q) []) y 0)<|lg S (lh q) []) y 0=1:=by rw[uT _ _ om];exact C
 have o:∀k,k<lh q->lg q k 0<s:=λk m=>by have:=h.lt _<|my (by rw[aN m]:q[k]?=some q[k]);simp[lg,m];omega
 generalize Gy z (sk z<|lg (lg S (lh q) []) y 0) (lg S (lh q) [])=Q at *;refine⟨Uf R g om,?_,?_,?_,?_,?_,?_⟩;intro c l;rw[gG]at l;rcases l with l|l
 have:=h.lt c l;omega;simp at l;omega;refine List.nodup_append.2 ⟨h.nd,sp,λa L b W e=>?_⟩;simp at W;have:=h.lt a L;omega;intro k m;rw[aA,cG]at m;rw[N k om];by_cases e:k=lh q;subst e;rw[ae rfl];simp[lg]at d ⊢;exact d;have f:k<lh q:=om;have D:lg (q++[y]) k 0=lg q k 0:=by simp[lg,mC,f]
 rw[ac e,D,oT _ _<|by rw[g.len k om];exact o k f,r _ (o k f)<|G k f _ om om,V k f];have:=jy H;rw[ep,jI];exact jH om om;intro k m i n M;rw[gV,p]at n;rw[aA,cG]at m;rw[N i om];by_cases e:k=lh q;subst e;have D:lg (q++[y]) (lh q) 0=y:=by simp[lg]
 rw[D,ac M,oT _ _<|by rw[g.len i om];exact I,d];simp;have f:k<lh q:=om;have D:lg (q++[y]) k 0=lg q k 0:=by simp[lg,mC,f]
 rw[D];split;exact r _ (o k f)<|G k f _ om om;rw[oT _ _<|by rw[g.len i om];exact o k f,r _ (o k f)<|G k f _ om om,G k f i n M];simp;intro i u w j piv;rw[gV,p]at w;rw[aA,cG]at u;rw[N i om,ac om];rw[oT _ _<|by rw[g.len i om];omega];by_cases e:j=y;subst e;rw[d];simp;rw[r j om<|O _ (ab _) A j om,O i om w j om];simp;rw[aA,cG,gV];omega
end
section
variable {p:Nat}[NeZero p]
theorem zqv(c:y<lh B)(d:A<lh B)(x:Nat->Fin p):Kq p s (wJ B y A) x↔Kq p s B x:=by constructor;intro h i f;have k:=jP B y A;by_cases e:i=y;have:=h A om;rw[vt c d,ae rfl]at this;rw[e];exact this;by_cases g:i=A;have:=h y om;rw[vt c d]at this;by_cases j:y=A;omega;rw[ac j,ae rfl]at this;rw[g];exact this;have:=h i om;rw[vt c d,ac g,ac e]at this;exact this;intro h i f;rw[jP]at f;rw[vt c d];split;exact h y c;split;exact h A d;exact h i f
theorem zjf(o:lM (p:Int)=k0)(l:MatOk p s B)(d:y<lh B)(q:lg (lg B y []) A 0≠0)(x:Nat->Fin p):Kq p s (od p y A B) x↔Kq p s B x:=by
 have m:=l.res y d A;have g:=Ow o m.1 m.2 q;have r:kv p (lg (lg B y []) A 0)*kv p (sk p (lg (lg B y []) A 0))=1:=by rw[tJ,<- Lt,g,Fr]
 generalize M:kv p (sk p (lg (lg B y []) A 0))=w at r;have j:=zqx (p:=p) (b:=sk p (lg (lg B y []) A 0)) (l.len y d) x;rw[M]at j;constructor;intro h;have t:=h y (by rwa [gV]);rw[wP d d,ae rfl,j]at t;have k:ub p s (lg B y []) x=0:=by generalize ub p s (lg B y []) x=z at *;grind
 intro i f;by_cases e:i=y;rw[e];exact k;have u:=h i (by rwa [gV]);rw[wP d f,ac e,zhw (l.len i f),j,k]at u;grind;intro h i f;rw[gV]at f;rw[wP d f];have k:=h y d;split;rw[j,k];grind;rw[zhw (l.len i f),j,k,h i f];grind
theorem Ech.ker(d:lM (p:Int)=k0)(h:Ech p s y B q)(b:lh q<lh B)(x:Nat->Fin p):Kq p s (gI p B y q).1 x↔Kq p s B x:=by
 unfold gI;split;exact mV;rename_i g;obtain⟨i,f⟩:=wO (M:=B) (col:=y) (lh B-lh q) (lh q) om;have j:=(NZ B y (lh B-lh q)<|lh q).1;generalize fV B y (lh q) (lh B-lh q)=t at *;have c:t<lh B:=om;have e:lg (wJ B (lh q) t) (lh q) []=lg B t []:=by rw[vt b c];by_cases e:lh q=t;rw[ae e,e];rw[ac e,ae rfl]
 exact(zjf d (Wh h.ok b c) (by rw[jP];exact b) (by rw[e];exact f) x).trans<|zqv b c x
theorem zhs(d:lM (p:Int)=k0){n:Nat}:∀(k a:Nat)(M:fG)(piv:O0),Ech p n a M piv->a+k=n ->
 (∃b,Ech p n b (oe p M piv a k).1 (oe p M piv a k).2/\(b=n\/(oe p M piv a k).2.length=(oe p M piv a k).1.length))/\∀x:Nat->Fin p,Kq p n (oe p M piv a k).1 x↔Kq p n M x
 | 0,a,M,piv,h,e=>⟨⟨a,h,.inl om⟩,λ_=>mV⟩
 | k+1,a,M,piv,h,e=>by rw[oe];by_cases c:lh piv<lh M;rw[ae c];obtain⟨f,g⟩:=zhs d k (a+1) _ _ (h.step d om c) om;exact⟨f,λx=>(g x).trans<|h.ker d c x⟩;rw[ac c];exact⟨⟨a,h,.inr<|by have:=h.len;show (lh piv)=lh M;omega⟩,λ_=>mV⟩
theorem fY(h:s<lh q):lg q s 0=q[s]:=by grind
def Uq(n:Nat)(piv:O0):O0:=(lc n).filter λj=>!piv.contains j
theorem pY:y∈Uq s q↔y<s/\y∉q:=by simp[Uq]
theorem zbq:(Uq i h).Nodup:=List.nodup_range.filter _
theorem Ur(d:q.Nodup)(f:∀c∈q,c<s):lh (Uq s q)+lh q=s:=by
 have g:=(kN.list d).or (kN.list<|zbq s q) λx a b=>(pY.1 b).2 a;have:=g.uniq ((kN.list<|dC (n:=s)).congr λx=>by rw[pY];grind);grind
theorem zht(h:Ech p s y B q)(g:∀c∈q,c<s)(a:A<lh q)(x:Nat->Fin p) :
 ub p s (lg B A []) x=ub p s (lg B A []) (λj=>if j∈q then 0 else x j)+x (lg q A 0):=by
 have o:gY s (λj=>if j=lg q A 0 then x j else 0)=x (lg q A 0):=by rw[Ov (v:=lg q A 0) s (by rw[fY a];exact g _ (bx a)) λi _ l=>ac l];exact ae rfl
 rw[<- o]
 unfold ub
 rw[<- oZ]
 refine fg s λj piv=>?_
 dsimp only
 by_cases b:j∈q
 obtain⟨i,d,rfl⟩:=bV b;rw[ae b];by_cases e:i=A
 subst e;have:=h.one i d;rw[fY d]at this ⊢;rw[this,ae rfl,Fr];grind
 have:=h.zer i d A (by have:=h.len;omega) (λm=>e m.symm);rw[fY d]at this;rw[this,zg,fY a,ac λm=>e ((gd h.nd).1 m)];grind
 have:¬j=lg q A 0:=λe=>b (by rw[e,fY a];exact bx a);rw[ac b,ac this];grind
theorem zjg(h:Ech p s y B q)(t:y<=s)(u:y=s\/q.length=lh B) :
 kN (λx:Nat->Fin p=>On (λa=>a<s) x/\Kq p s B x) (p^(s-lh q)):=by
 have b:∀c∈q,c<s:=λc d=>by have:=h.lt c d;omega
 have w:=Ur h.nd b
 have d:=zh (p:=p) _ (zbq s q)
 rw[show s-lh q=(Uq s q).length by omega]
 refine d.image (λpiv j=>if j∈q then-ub p s (lg B (q.idxOf j) []) piv else piv j) (λx piv n l e=>?_) λx=>?_
 funext j;by_cases m:j∈q
 rw[n j λd=>(pY.1 d).2 m,l j λd=>(pY.1 d).2 m]
 have:=congrFun e j;simpa[m]using this
 constructor
 rintro⟨n,g⟩;refine⟨λj=>if j∈q then 0 else x j,λa o=>?_,?_⟩
 by_cases e:a∈q
 simp[e]
 simp[e];exact n a λb=>o (pY.2 ⟨b,e⟩)
 funext j;by_cases e:j∈q
 have k:=md e;have A:=g (q.idxOf j) (by have:=h.len;omega);rw[zht h b k,fY k,lF k]at A;simp only[e,eW];generalize ub p s (lg B (q.idxOf j) []) (λj=>if j∈q then 0 else x j)=z at *;grind
 simp[e]
 rintro⟨piv,l,rfl⟩;have r:(λj=>if j∈q then 0 else(if j∈q then-ub p s (lg B (q.idxOf j) []) piv else piv j))=piv:=by funext j;by_cases e:j∈q;rw[ae e,l j λd=>(pY.1 d).2 e];rw[ac e,ac e]
 refine⟨λa o=>?_,λi k=>?_⟩
 have e:a∉q:=λe=>o (b a e);show(if a∈q then _ else piv a)=0;rw[ac e];exact l a λd=>o (pY.1 d).1
 by_cases g:i<lh q
 rw[zht h b g,r];have M:lg q i 0∈q:=by rw[fY g];exact bx g
 have:q.idxOf (lg q i 0)=i:=by rw[fY g];exact h.nd.idxOf_getElem i g
 simp only[M,eW,this];grind
 have f:y=s:=u.resolve_right om;refine jp s λj m=>?_;rw[h.low i om k j om,zg];grind
theorem CP(o:lM (p:Int)=k0){M:fG}{n:Nat}(s:lh (lg M 0 [])=n)(t:∀i,i<lh M->lh (lg M i [])=n) :
 iQ p M<=n/\kN (λx:Nat->Fin p=>On (λa=>a<n) x/\Kq p n M x) (p^(n-iQ p M)):=by
 have u:(0:Int)<p:=by have:=jy o;omega
 have w:Ech p n 0 (nw p M) []:=⟨Wi u t,sp,sp,sp,sp,λi _ _ j q=>absurd q om,sp⟩
 obtain⟨⟨l,d,y⟩,z⟩:=zhs o n 0 (nw p M) [] w om
 unfold iQ
 rw[s]
 generalize oe p (nw p M) [] 0 n=R at *
 have h:∀c∈R.2,c<n:=λc g=>by obtain⟨k,r,rfl⟩:=bV g;refine aC λA=>?_;have f:=d.one k r;rw[fY r]at f;have C:=d.ok.len k (by have:=d.len;omega);rw[lg,eQ om]at f;simp at f
 have m:Ech p n (min l n) R.1 R.2:=⟨d.ok,λc g=>by have:=d.lt c g;have:=h c g;omega,d.nd,d.one,d.zer,λi a b j q=>d.low i a b j om,d.len⟩
 have g:=zjg (p:=p) m om (y.elim (λe=>.inl om) .inr)
 have B:=Ur d.nd h
 refine⟨om,g.congr λx=>?_⟩
 rw[z]
 refine nZ λ_=>?_
 unfold Kq
 rw[qC]
 refine forall_congr' λi=>forall_congr' λD=>?_
 rw[Hu,zqy]
end
section
variable {p:Nat}[NeZero p]
def SL(l:O0)(G:Nat->Fin p):Fin p:=l.foldr (λa s=>G a+s) 0
theorem zjc(G:Nat->Fin p):SL (c++h) G=SL c G+SL h G:=by
 induction c with
 | nil=>show SL h G=0+SL h G;grind
 | cons x c b=>show G x+SL (c++h) G=G x+SL c G+SL h G;grind
theorem zhl{b:O0}(G:Nat->Fin p)(h:q.Perm b):SL q G=SL b G:=by
 induction h with
 | nil=>rfl
 | cons x _ c=>show G x+SL _ G=G x+SL _ G;rw[c]
 | swap x y l=>show G y+(G x+SL l G)=G x+(G y+SL l G);grind
 | trans _ _ d e=>omega
theorem vo(G:Nat->Fin p)(q:V0):∀l:O0,(∀a∈l,q a=l0->G a=0)->SL (l.filter q) G=SL l G
 | [],_=>rfl
 | a::l,h=>by have c:=vo G q l λb d=>h b (by simp[d]);by_cases e:q a=k0;rw[List.filter_cons_of_pos e];show G a+SL _ G=G a+SL l G;rw[c];rw[List.filter_cons_of_neg e];show _=G a+SL l G;grind
theorem zvB(G:Nat->Fin p){b:O0}(f:q.Nodup)(c:b.Nodup)(g:∀a∈q,a∉b->G a=0)(h:∀a∈b,a∉q->G a=0):SL q G=SL b G:=by rw[<- vo G (λa=>b.contains a) q λa d e=>g a d<|ss e,<- vo G (λa=>q.contains a) b λa d e=>h a d<|ss e];refine zhl G<|(dn (f.filter _)<|c.filter _).2 λa=>?_;grind
theorem zdP(G:Nat->Fin p):∀l:O0,SL l G=gY (lh l) λj=>G (lg l j 0):=by
 intro l;have a:∀n,n<=lh l->SL (l.take n) G=gY n λj=>G<|lg l j 0:=by
  intro n;induction n with
  | zero=>intro _;simp[SL,gY]
  | succ n b =>
    intro c;rw[gY,<- b om,pq om,zjc];have:SL [l[n]] G=G (lg l n 0):=by show G _+0=_;rw[fY om];grind
    rw[this]
 grind
theorem Fp(f:V0)(k:Nat):∀m,(cd f k m).Nodup
 | 0=>by rw[cd];exact fS
 | m+1=>by have c:=Fp f k m;rw[uX];split;refine List.nodup_append.2 ⟨c,sp,λa d b g e=>?_⟩;simp at g;have:=(fI.1 d).1;omega;rw[bh];exact c
theorem qu:y∈cd d s 64↔Ou d s y:=by rw[fI];rfl
theorem Hx:kN (λx:Nat->Fin p=>On (Ou f i) x) (p^(cd f i 64).length) :=
 (zh _<|Fp f i 64).congr λx=>⟨λh=>h.mono λa=>qu.1,λh=>h.mono λa=>qu.2⟩
theorem zqp:∀b,b<64->∀v,v<6->b.testBit v=l0->lI b (b|||2^v)=if evB b v then 1 else -1:=by decide +kernel
theorem zqq:∀b,b<64->∀a,a<64->aQ a=aQ b+1->lI b a≠0->((lc 6).any λv=>!b.testBit v&&(a==b|||2^v))=true:=by decide +kernel
theorem zwu(a:s<64)(c:y<6)(h:s.testBit y=l0):kv p (lI s (s|||2^y))=sg p s y:=by rw[zqp s a y c h];unfold sg;split;exact Fr;rw[<- zqw,Fr]
theorem ztA(a:s.testBit y=l0)(h:s|||2^y=s|||2^A):y=A:=by have:=cV (λz=>z.testBit y) h;grind
theorem zvC(r:q.Nodup){k b:Nat}(c:∀a∈q,a<64/\aQ a=k+1)(i:b<64)(s:aQ b=k){x:Nat->Fin p}(o:On (λa=>a∈q) x):bd x b=SL q λa=>kv p (lI b a)*x a:=by
 have t:bd x b=SL ((lc 6).map λv=>if b.testBit v then 64+v else b|||2^v) λa=>kv p (lI b a)*x a:=by rw[zdP];unfold bd;rw[show((lc 6).map λv=>if b.testBit v then 64+v else b|||2^v).length=6 by simp];refine fg 6 λv d=>?_;rw[fY<|ss d,aM,bG];by_cases h:b.testBit v=k0;rw[ae h,ae h,o _ λw=>by have:=(c _ w).1;omega];grind;rw[ac h,ac h,zwu i d<|ss h]
 rw[t];refine zvB _ ?_ r (λa _ j=>by rw[o a j];grind) λa j m=>?_;refine List.pairwise_map.2<|List.Pairwise.imp_of_mem ?_ dC;intro u v l d n e;rw[eJ]at l d;by_cases f:b.testBit u=k0;by_cases g:b.testBit v=k0;rw[ae f,ae g]at e;omega;rw[ae f,ac g]at e;have:=Wz i d;omega;by_cases g:b.testBit v=k0;rw[ac f,ae g]at e;have:=Wz i l;omega;rw[ac f,ac g]at e;exact n<|ztA (ss f) e;have y:lI b a=0:=aC λh=>by have:=zqq b i a (c a j).1 (by have:=(c a j).2;omega) h;rw[cS]at this;obtain⟨v,d,e⟩:=this;simp only[aj,bC,aK]at e;exact m<|List.mem_map.2 ⟨v,d,by rw[ac<|by rw[e.1];decide,e.2]⟩
 rw[y,zg];grind
def nul(p:Nat)(f:V0)(k:Nat):Nat:=lh (cd f k 64)-kM f p k
theorem Uo(N:lM (p:Int)=k0)(I:CN d)(k:Nat) :
 kM d p k<=(cd d k 64).length/\kN (λx:Nat->Fin p=>On (Ou d k) x/\bd x=v0) (p^nul p d k):=by
 unfold nul kM
 split
 rename_i h;refine⟨aB _,(Hx d k).congr λx=>⟨λo=>⟨o,?_⟩,λo=>o.1⟩⟩;rcases h with rfl|h
 exact ztB o
 have:x=v0:=funext λa=>o a λc=>by have:=qu.2 c;rw[st h]at this;cases this
 rw[this];exact Wy
 rename_i h;obtain⟨j,rfl⟩:∃j,k=j+1:=⟨k-1,om⟩;rw[dS];have s:=Fp d (j+1) 64;have g:∀a,a∈cd d (j+1) 64↔Ou d (j+1) a:=λa=>qu;have z:cd d j 64=[]->cd d (j+1) 64=[]:=λe=>List.eq_nil_iff_forall_not_mem.2 λa c=>by
  obtain⟨J,O,K⟩:=(g a).1 c;have A:∃v,v<6/\a.testBit v=true:=by
   refine aC λG=>?_;have:a=0:=bB λi=>by rw[dQ];by_cases m:i<6;exact Bool.eq_false_iff.2 λu=>G ⟨i,m,u⟩;exact eK<|cp J<|aV (n:=2) (i:=6) (j:=i) om om
   rw[this,kq]at K;omega
  obtain⟨v,L,w⟩:=A;obtain⟨P,M⟩:=Fq w;have B:=zhm J L;have:=Hy _ B v L P;rw[M,K]at this;have C:a&&&(a ^^^ 2^v)=a ^^^ 2^v:=by have:=tI (a:=a ^^^ 2^v) (v:=v);rwa [M]at this
  have E:a ^^^ 2^v∈cd d j 64:=qu.2 ⟨B,I a _ O C,om⟩;rw[e]at E;cases E
 generalize W:cd d (j+1) 64=f at *;have Q:lh (lg (fy (cd d j 64) f) 0 [])=lh f:=by
  cases R:cd d j 64 with
  | nil=>rw[z R];rfl
  | cons b l=>simp[fy]
 obtain⟨S,U⟩:=CP (p:=p) N Q λi m=>by rw[lO<|by simpa[fy]using m];simp
 refine⟨S,U.image (λy a=>if a∈f then y (f.idxOf a)else 0) (λx y o F e=>?_) λx=>?_⟩
 funext j';by_cases H:j'<lh f
 have:=congrFun e f[j'];simpa[s.idxOf_getElem j' H]using this
 rw[o.1 j' H,F.1 j' H]
 have q:∀(y:Nat->Fin p),On (λa=>a<lh f) y->∀i (m:i<lh (cd d j 64)),bd (λa=>if a∈f then y (f.idxOf a)else 0) ((cd d j 64)[i])=ub p (lh f) (lg (fy (cd d j 64) f) i []) y:=λy F i m=>by have r:=qu.1<|bx m;rw[zvC s (k:=j) (λa c=>⟨((g a).1 c).1,((g a).1 c).2.2⟩) r.1 r.2.2 λa c=>ac c,zdP];unfold ub;refine fg _ λt u=>?_;rw[lO m,fY u,ae<|bx u,s.idxOf_getElem t u,fY m];simp[lg,u]
 constructor
 rintro⟨o,w⟩;refine⟨λt=>if t<f.length then x (lg f t 0)else 0,⟨λa c=>ac c,λi m=>?_⟩,?_⟩
 have m:i<(cd d j 64).length:=by simpa[fy]using m
 have e:(λa=>if a∈f then(if f.idxOf a<f.length then x (lg f (f.idxOf a) 0)else 0)else 0)=x:=by funext a;by_cases c:a∈f;have:=md c;rw[ae c,ae this,fY this,lF this];rw[ac c,o a λr=>c<|(g a).2 r]
 rw[<- q _ (λa c=>ac c) i m,e,w];rfl
 funext a;by_cases c:a∈f
 have:=md c;simp only[c,eW,this];rw[fY this,lF this]
 simp only[c,gx];exact(o a λr=>c<|(g a).2 r).symm
 rintro⟨y,⟨F,V⟩,rfl⟩;have D:On (Ou d<|j+1) λa=>if a∈f then y (f.idxOf a)else 0:=λa c=>ac λE=>c<|(g a).1 E
 refine⟨D,funext λb=>?_⟩;by_cases w:b∈cd d j 64
 obtain⟨i,m,rfl⟩:=bV w;rw[q y F i m];exact V i<|by simpa[fy]using m
 exact zsF I D b λr=>w<|qu.2 r
end
section
variable {p:Nat}[NeZero p]
omit [NeZero p] in
theorem zsE{c:Type}:∀l:List c,∃b:List c,b.Nodup/\∀x,x∈b↔x∈l
 | []=>⟨[],fS,λx=>mV⟩
 | a::l=>by have⟨b,d,f⟩:=zsE l;by_cases h:a∈b;exact⟨b,d,λx=>by grind⟩;exact⟨a::b,List.nodup_cons.2 ⟨h,d⟩,λx=>by grind⟩
structure Sub (S:(Nat->Fin p)->Prop):Prop where
 add:∀x y,S x->S y->S (vp x y)
 sub:∀x y,S x->S y->S (CO x y)
theorem kN.lin{S:(Nat->Fin p)->Prop}{b:(Nat->Fin p)->Nat->Fin p}(g:Sub S)(d:∀x m,b (vp x m)=vp (b x) (b m))(c:∀x m,b (CO x m)=CO (b x) (b m))(l:kN (λx=>S x/\b x=v0) s)(n:kN (λm=>∃x,S x/\b x=m) y):kN S (y*s):=by
 refine kN.fib b n (λx f=>⟨x,f,rfl⟩) λm o=>?_
 have⟨h,i,j⟩:=o
 refine l.image (λx=>vp h x) (λx m _ _ e=>funext λa=>?_) λz=>?_
 have:=congrFun e a;unfold vp at this;grind
 constructor
 rintro⟨q,r⟩;refine⟨CO z h,⟨g.sub _ _ q i,?_⟩,?_⟩
 rw[c,r,j];funext a;unfold CO v0;grind
 funext a;unfold vp CO;grind
 rintro⟨x,⟨f,k⟩,rfl⟩;refine⟨g.add _ _ i f,?_⟩;rw[d,j,k];funext a;unfold vp v0;grind
omit [NeZero p] in
theorem zqo(c:lM (p:Int)=k0)(h:p^s=p^y):s=y:=(tP<|by have:=jy c;omega).1 h
omit [NeZero p] in
theorem zmV(b:lM (p:Int)=k0)(a:Nat):0<p^a:=MU (by have:=jy b;omega)
theorem ztx(P:l1):Sub (p:=p) (On P):=⟨λ_ _ a b=>a.add b,λ_ _ a b=>a.sub b⟩
theorem zjb(c:lM (p:Int)=k0)(h:CN d)(k:Nat) :
 kN (λy:Nat->Fin p=>∃x,On (Ou d k) x/\bd x=y) (p^kM d p k):=by
 obtain⟨t,i⟩:=Uo (p:=p) c h k
 have j:=Hx (p:=p) d k
 obtain⟨l,u,f,w⟩:=j
 have a:∃m,kN (λy:Nat->Fin p=>∃x,On (Ou d k) x/\bd x=y) m:=by obtain⟨n,o,q⟩:=zsE (l.map bd);refine⟨_,n,o,λy=>?_,rfl⟩;rw[q,dX];exact⟨λ⟨x,b,e⟩=>⟨x,(f x).1 b,e⟩,λ⟨x,b,e⟩=>⟨x,(f x).2 b,e⟩⟩
 obtain⟨m,g⟩:=a
 have r:=kN.lin (ztx _) zdQ ztE i g
 have s:=r.uniq (Hx d k)
 have e:m=p^kM d p k:=by refine Nat.eq_of_mul_eq_mul_right (zmV c (nul p d k)) ?_;rw[s,<- Ng];congr 1;unfold nul;omega
 rw[<- e];exact g
theorem zty(f:lM (p:Int)=k0)(j:CN d)(k:Nat):kM d p k+kM d p (k+1)<=(cd d k 64).length/\(kM d p k+kM d p (k+1)=(cd d k 64).length↔Ac p d k):=by
 obtain⟨q,g⟩:=Uo (p:=p) f j k;have l:=zjb (p:=p) f j<|k+1;have c:∀y:Nat->Fin p,(∃x,On (Ou d<|k+1) x/\bd x=y)->On (Ou d k) y/\bd y=v0:=by rintro y ⟨x,i,rfl⟩;exact⟨zsF j i,zvF i.lt⟩
 have n:=(g.rest l c).1;have m:kM d p (k+1)<=nul p d k:=by refine aC λh=>?_;have:=bN (a:=p) (by have:=jy f;omega)<|mX h;omega
 unfold nul at *;refine⟨om,λh=>?_,λh=>?_⟩;have e:lh (cd d k 64)-kM d p k=kM d p (k+1):=om;rw[e]at g;intro x i o;exact g.sub_eq l c x ⟨i,o⟩;have:=g.uniq<|l.congr λy=>⟨c y,λ⟨a,b⟩=>h y a b⟩;have:=zqo f this;omega
theorem ztz(b:cv d<=s):Ac p d s:=λx c _=>by
 have:x=v0:=funext λa=>c a λk=>by have:=qu.2 k;rw[st b]at this;grind
 exact⟨v0,λ_ _=>rfl,by grind⟩
end
section
variable {p:Nat}[NeZero p]
theorem zmU(G:Nat->Fin p):SL [] G=0:=rfl
theorem Ls(G:Nat->Fin p):SL (i::h) G=G i+SL h G:=rfl
theorem ztw(l:O0)(g:T0)(G:Nat->Fin p):SL (l.map g) G=SL l λa=>G (g a):=by
 induction l with
 | nil=>rfl
 | cons a l b=>rw[dR,Ls,Ls,b]
theorem fld(c:lM (p:Int)=k0){a:Fin p}(h:a≠0):∃b:Fin p,a*b=1:=by
 have d:(a.val:Int)≠0:=λe=>h (LF (by have:=Int.ofNat.inj e;simpa using this));have f:=Ow (p:=(p:Int)) c (a:=(a.val:Int)) om (by have:=a.isLt;omega) d;refine⟨kv p (sk p a.val),?_⟩;have g:a=kv p (a.val:Int):=wN rfl;have e:kv p (a.val:Int)*kv p (sk p a.val)=1:=by rw[tJ,<- Fr (p:=p)];refine WA.2 ?_;rw[f];have:=jy c;exact(jH om om).symm
 rw[<- g]at e;exact e
end
def zn7(w t:Nat):Bool:=w&&&t==t
theorem MJ:zn7 s y=k0↔s&&&y=y:=by simp[zn7]
theorem zt6(a:s&&&y=y)(b:y&&&A=A):s&&&A=A:=by grind
theorem zjL:CN (zn7 i):=λs t a b=>MJ.2<|zt6 (MJ.1 a) b
theorem zra:∀w,w<64->∀t,t<64->w&&&t=t->aQ (w ^^^ t)+aQ t=aQ w:=by decide +kernel
theorem zrV(h:kN (Ou d s) y):lh (cd d s 64)=y:=((kN.list (Fp d s 64)).congr λa=>qu).uniq h
theorem zr0:kN (Ou f i) (cd f i 64).length:=(kN.list (Fp f i 64)).congr λa=>qu
section
variable {p:Nat}[NeZero p]
theorem zt7(d:s<64)(f:s≠0)(k:Nat):Ac p (zn7 s) k:=by
 have:∃v,v<6/\s.testBit v=true:=by refine aC λb=>f<|bB λi=>?_;rw[dQ];by_cases a:i<6;exact Bool.eq_false_iff.2 λc=>b ⟨i,a,c⟩;exact eK<|cp d<|aV (n:=2) (i:=6) (j:=i) om om
 obtain⟨v,g,h⟩:=this;refine Ac.cone (zjL s) g (λt _ c=>?_) k;rw[MJ,cg]at *;grind
def res(f:V0)(x:Nat->Fin p)(a:Nat):Fin p:=if f a=k0 then 0 else x a
end
def zn6(w t:Nat):Nat->Nat|0=>0|v+1=>zn6 w t v+if t.testBit v then aQ (w&&&(2^v-1))else 0
def eB(w t:Nat):Bool:=zn6 w t 6%2==0
section
variable {p:Nat}[NeZero p]
end
def zem(f:V0)(p:Int)(k:Nat):Int:=((cd f k 64).length:Int)-kM f p k-kM f p (k+1)
theorem zq9:lg (ed f b) i 0=zem f b i:=by
 by_cases h:i<cv f;exact pX f b h;have a:lg (ed f b) i 0=0:=by rw[lg,eQ<|by rw[df];omega];rfl
 rw[a];unfold zem kM;rw[st om,ae<|.inr om,ae<|.inr om];rfl
section
variable {p:Nat}[NeZero p]
theorem Xa(a:lM (p:Int)=k0)(b:CN d)(k:Nat):0<=zem d p k/\(zem d p k=0↔Ac p d k):=by have⟨f,c⟩:=zty a b k;unfold zem;grind
end
def SI(l:O0)(G:U0):Int:=l.foldr (λa s=>G a+s) 0
theorem zn5(G:U0):SI [] G=0:=rfl
theorem WZ(G:U0):SI (i::h) G=G i+SI h G:=rfl
theorem zjK(G:U0):SI (c++h) G=SI c G+SI h G:=by
 induction c with
 | nil=>simp[zn5]
 | cons x c b=>rw[kE,WZ,WZ];omega
section
variable {p:Nat}[NeZero p]
end
theorem zhT:∀w,w<64->∀t,t<64->(!(w&&&t==t)||(decide (aQ t<=aQ w)&&(decide (aQ t<aQ w)||t==w)))=true:=by decide +kernel
section
variable {p:Nat}[NeZero p]
end
section
variable {p:Nat}[NeZero p]
def zsO(p:Nat)[NeZero p](f:V0)(n d:Nat):Prop:=∀F,F<2^n->∀k,aQ F+k<d->Ac p (dL f F) k
end
theorem US:∀s,s<64->aQ s=0->s=0:=by decide +kernel
theorem zrb:∀s,s<64->s≠0->((lc 6).any λv=>s&&&2^v==2^v)=true:=dc
section
variable {p:Nat}[NeZero p]
theorem zjN(r:lM (p:Int)=k0)(j:CN d)(t:d 0=k0):zem d p 0=if((lc 6).any λv=>d (2^v))=k0 then 0 else 1:=by
 obtain⟨F,u⟩:=Xa (p:=p) r j 0;by_cases g:((lc 6).any λv=>d (2^v))=k0;rw[ae g];obtain⟨v,g,k⟩:=List.any_eq_true.1 g;have w:v<6:=List.mem_range.1 g;have l:(2:Nat)^v<64:=bD (aV om (show v<=5 by omega)) dc;refine u.2 λx z A=>?_;obtain⟨y,B,e⟩:=zt7 (p:=p) l (Nat.pos_iff_ne_zero.1 (MU om)) 0 x (z.mono λa i=>by
  have:a=0:=US a i.1 i.2.2;subst this;exact⟨dc,by unfold zn7;simp,kq⟩) A
 exact⟨y,B.mono λa i=>⟨i.1,j _ a k (MJ.1 i.2.1),i.2.2⟩,e⟩;rw[ac g];have C:cd d 0 64=[0]:=by
  unfold cd;have:∀s∈lc 64,(d s&&(aQ s==0))=(s==0):=λs m=>by have m:=List.mem_range.1 m;by_cases e:s=0;subst e;rw[t,kq];rfl;rw[beq_false_of_ne e,beq_false_of_ne λh=>e (US s m h),cT]
  rw[eM this];decide +kernel
 have D:cv d<=1:=Nat.le_of_not_lt λn=>by
  obtain⟨s,a,b,c⟩:=AH (f:=d) 64 (show 0<cv d by omega);have o:s≠0:=λe=>by subst e;rw[kq]at c;unfold cv at n;omega
  obtain⟨v,q,e⟩:=List.any_eq_true.1 (zrb s a o);exact g (List.any_eq_true.2 ⟨v,q,j s _ b (eq_of_beq e)⟩)
 have E:kM d p 1=0:=by unfold kM;rw[ae (.inr D)]
 unfold zem;rw[C,E];unfold kM;rw[ae (.inl rfl)];rfl
end
def UR(c:U0)(n Q t:Nat):Int:=SI (lc Q) λq=>if q<=t then sgI (t-q) (c q*(rg (n-q) (t-q):Nat))else 0
theorem zn8(c:U0)(n t:Nat):UR c n 0 t=0:=rfl
theorem OX(c:U0)(n Q t:Nat):UR c n (Q+1) t=UR c n Q t+if Q<=t then sgI (t-Q) (c Q*(rg (n-Q) (t-Q):Nat))else 0:=by simp[UR,bW,zjK,WZ,zn5]
theorem zjM:((lc 7).all λn=>(lc 8).all λk=>decide (rg n k<=20))=true:=dc
theorem OY{n k:Nat}(a:n<=6)(b:k<=7):rg n k<=20:=by have:=List.all_eq_true.1 (List.all_eq_true.1 zjM n<|List.mem_range.2 om) k<|List.mem_range.2 om;grind
theorem Xb{c b:Int}(h:0<=c/\c<=64)(k:0<=b/\b<=20)(i:Nat):0<=c*b/\c*b<=1280/\-1280<=sgI i (c*b)/\sgI i (c*b)<=1280:=by have a:=kH h.1 k.1;have d:=kI h.2 k.2 k.1 dc;refine⟨a,om,?_,?_⟩<;>(simp[sgI];omega)
theorem AU{c:U0}(a:∀q,0<=c q/\c q<=64){n t:Nat}(d:n<=6)(e:t<=n):∀Q:Nat,-(1280*(Q:Int))<=UR c n Q t/\UR c n Q t<=1280*(Q:Int)
 | 0=>by simp[zn8]
 | Q+1=>by have f:=AU a d e Q;rw[OX];by_cases h:Q<=t;have g:=OY (n:=n-Q) (k:=t-Q) om om;have:=Xb (a Q) (b:=(rg (n-Q) (t-Q))) ⟨om,om⟩<|t-Q;grind;omega
section
variable {p:Nat}[NeZero p]
end
theorem AS:dL d s y=k0↔y&&&s=0/\d (y|||s)=true:=by simp[dL]
theorem OW(c:CN d)(F:Nat):CN (dL d F):=λs t a b=>by rw[AS]at a ⊢;refine⟨?_,c _ _ a.2<|bB λi=>?_⟩;grind;grind
theorem zvR(c:s<64)(d:y<64):s|||y<64:=cu (n:=6) c d
section
variable {p:Nat}[NeZero p]
theorem zq7(h:∀k,k<64->d k=k0->aQ k≠s):Ac p d s:=λx c _=>have:x=v0:=funext λa=>c a λb=>h a b.1 b.2.1 b.2.2;⟨v0,λ_ _=>rfl,by grind⟩
theorem zjJ(l:lM (p:Int)=k0)(t:CN d)(u:s<64)(h:d s=k0)(c:∀f,f<64->d f=k0->f&&&s=s->f=s):¬Ac p (dL d s) 0:=λF=>by
 have o:=OW t s;have w:dL d s 0=true:=AS.2 ⟨Nat.zero_and _,by rw[JS];exact h⟩;have g:=zjN (p:=p) l o w;rw[((Xa (p:=p) l o 0).2).2 F]at g;split at g;rename_i i;have⟨v,i,x⟩:=List.any_eq_true.1 i;have j:v<6:=List.mem_range.1 i;have⟨a,b⟩:=AS.1 x;have k:(2:Nat)^v<64:=bN (m:=v) (n:=6) dc j;have e:=c _ (zvR k u) b (by rw[JR];exact tI);have q:(2^v|||s).testBit v=true:=by rw[bq,bR];simp
 have r:(2^v&&&s).testBit v=s.testBit v:=by rw[bQ,bR];simp
 rw[e]at q;rw[a,q,dQ]at r;cases r;cases g
def zsN(p:Nat)[NeZero p](f:V0)(n d:Nat):Prop:=(∃F k,F<2^n/\f F=k0/\¬Ac p (dL f F) k/\aQ F+k=d)/\zsO p f n d
theorem zbX(b:CN d)(h:∀F,F<2^s->d F=k0->∀k,aQ F+k<y->Ac p (dL d F) k):zsO p d s y:=λF c k e=>by
 cases a:d F with
 | true=>grind
 | false =>
   refine zq7 λn _ g=>?_;have:=b _ F (AS.1 g).2<|bB λi=>by
    grind
   grind
theorem zq8(F:s<64)(h:∀f,f<64->d f=k0->aQ f<=aQ s):∀f,f<64->d f=k0->f&&&s=s->f=s:=λf c a b=>by have:=zhT f c s F;grind
def skF(f:V0)(k s:Nat):Bool:=f s&&decide (aQ s<=k)
theorem zrQ:skF d s y=k0↔d y=k0/\aQ y<=s:=by simp[skF]
theorem zn4{s t:Nat}(a:s<64)(h:s&&&t=t):aQ t<=aQ s:=by have:=zhT s a t (bD (by rw[<- h];exact bI) a);grind
end
section
variable {p:Nat}[NeZero p]
end
def sD:Nat->(U0)->Int|0,_=>0|n+1,D=>D 0+32*sD n λa=>D (a+1)
def dg(y a:Nat):Nat:=Nat.mod (Nat.div y (Nat.pow 32 a)) 32
theorem Um:dg i j=i/32^j%32:=rfl
def fC(y a:Nat):Int:=(dg y a:Int)-16
def KZ:Nat:=16*((32^20-1)/31)
theorem pW(x y:Int):∀(n:Nat)(f g:U0),sD n (λa=>x*f a+y*g a)=x*sD n f+y*sD n g:=by
 intro n;induction n with
 | zero=>simp[sD]
 | succ n b =>simp[sD];grind
theorem vl:∀(n:Nat){f g:U0},(∀a,a<n->f a=g a)->sD n f=sD n g:=by
 intro n;induction n with
 | zero=>intro f g _;rfl
 | succ n b =>simp[sD];grind
theorem Om:∀(n:Nat){D:U0},(∀a,a<n->0<=D a/\D a<32)->0<=sD n D/\sD n D<32^n:=by
 intro n;induction n with
 | zero=>simp[sD]
 | succ n b =>intro D h;have⟨c,d⟩:=b λa e=>h (a+1) om;have f:=h 0 om;simp[sD];omega
theorem zhh:∀(n:Nat){f g:U0},(∀a,a<n->0<=f a/\f a<32)->(∀a,a<n->0<=g a/\g a<32)->sD n f=sD n g->∀a,a<n->f a=g a:=by
 intro n;induction n with
 | zero=>intro f g _ _ _ a b;omega
 | succ n e =>
   intro f g c d h a b;simp only[sD]at h;have i:=c 0 om;have j:=d 0 om;cases a with
   | zero=>omega
   | succ a =>exact e (f:=λa=>f<|a+1) (g:=λa=>g<|a+1) (λa b=>c (a+1) om) (λa b=>d (a+1) om) om a om
theorem zql:dg i (j+1)=dg (i/32) j:=by simp[Um,fm,Gs,Nat.div_div_eq_div_mul]
theorem zsD:dg i j<32:=xq _ dc
theorem zmK:∀(n y:Nat),y<32^n->sD n (λa=>(dg y a:Int))=(y:Int):=by
 intro n;induction n with
 | zero=>intro y h;simp[sD]at h ⊢;omega
 | succ n b =>
   intro y h;have e:(λa=>((dg y (a+1):Nat):Int))=λa=>((dg (y/32) a:Nat):Int):=by funext a;rw[zql]
   simp only[sD];rw[e,b (y/32)<|by rw[fm]at h;omega];have:dg y 0=y%32:=by simp[Um]
   omega
theorem zvA:sD 20 (λ_=>16)=(KZ:Int):=dc
theorem zmL{n U:Nat}{D:U0}(b:∀a,a<n->0<=D a/\D a<32)(h:(U:Int)=sD n D):U<32^n/\∀a,a<n->(dg U a:Int)=D a:=by
 have d:=Om n b;have c:U<32^n:=by grind
 refine⟨c,zhh n (λa _=>⟨om,by have:=zsD U a;omega⟩) b ?_⟩;rw[zmK n U c,h]
theorem Lr(h:s<32^20):sD 20 (fC s)=(s:Int)-KZ:=by have e:=pW 1 (-1) 20 (λa=>(dg s a))<|λ_=>16;rw[zmK 20 s h,zvA]at e;rw[<- show sD 20 (λa=>1*(dg s a)+-1*16)=sD 20 _ from vl 20 λa _=>by unfold fC;omega];omega
theorem zmM{U:Nat}{D:U0}(c:∀a,a<20->-16<=D a/\D a<16)(h:(U:Int)-KZ=sD 20 D):U<32^20/\∀a,a<20->fC U a=D a:=by
 have e:sD 20 (λa=>1*D a+16*1)=sD 20 (λa=>D a+16):=vl 20 λa _=>om;rw[pW 1 16 20 D<|λ_=>1]at e;have g:16*sD 20 (λ_=>1)=KZ:=dc
 have⟨d,f⟩:=zmL (n:=20) (U:=U) (D:=λa=>D a+16) (λa b=>by grind) om;simp_all[fC]
def RZ:Nat:=(32^20-1)/31
def Bk(y:Nat):Bool:=Nat.ble (Nat.mul 14 RZ) y&&(Nat.ble y (32^20-1)&&(Nat.beq (Nat.land (Nat.sub y (Nat.mul 14 RZ)) (Nat.mul 24 RZ)) 0&&Nat.beq (Nat.land (Nat.add (Nat.sub y (Nat.mul 14 RZ)) (Nat.mul 3 RZ)) (Nat.mul 24 RZ)) 0))
theorem zwt:∀d,d<32->d.testBit 3=l0->d.testBit 4=l0->d<8:=dc
theorem zmN(a:Nat)(b:a<5):(dg i j).testBit a=i.testBit (5*j+a):=by rw[Um,show(32:Nat)^j=2^(5*j)by rw[Nat.pow_mul],show(32:Nat)=2^5 by rfl,Nat.testBit_mod_two_pow,Nat.testBit_div_two_pow,ay b,au,xr]
theorem zbo:∀a,a<20->(24*RZ).testBit (5*a+3)=k0/\(24*RZ).testBit (5*a+4)=true:=dc
theorem zhi(h:Nat.beq (Nat.land s (Nat.mul 24 RZ)) 0=k0):∀a,a<20->dg s a<8:=λa b=>by
 have e:s&&&(24*RZ)=0:=fh h;have c:∀i,(24*RZ).testBit i=k0->s.testBit i=false:=λi d=>by have:=cV (λz=>z.testBit i) e;grind
 refine zwt _ (zsD s a) ?_ ?_;exact zmN s a 3 dc▸c _ (zbo a b).1;exact zmN s a 4 dc▸c _ (zbo a b).2
theorem Fo(h:Bk s=k0):s<32^20/\∀a,a<20->-2<=fC s a/\fC s a<=2:=by
 unfold Bk at h;simp only[aj]at h;have⟨j,d,m,o⟩:=h;have j:14*RZ<=s:=lX j;have d:s<32^20:=by have:=lX d;omega
 have e:=zhi m;have k:=zhi o;have p:Nat.sub s (Nat.mul 14 RZ)=s-14*RZ:=rfl;have f:Nat.add (Nat.sub s<|Nat.mul 14 RZ) (Nat.mul 3 RZ)=s-14*RZ+3*RZ:=rfl;rw[p]at e;rw[f]at k;have g:s-14*RZ<32^20:=om;have q:=zmK 20 _ g;have l:=pW 1 3 20 (λa=>(dg (s-14*RZ) a:Int))<|λ_=>1;have c:=pW 1 14 20 (λa=>(dg (s-14*RZ) a:Int))<|λ_=>1;have r:sD 20 (λ_=>1)=(RZ:Int):=by decide +kernel
 rw[q,r]at l c;have y:=(zmL (n:=20) (U:=s-14*RZ+3*RZ) (D:=λa=>1*(dg (s-14*RZ) a:Int)+3*1) (λa b=>by have:=e a b;omega)<|by rw[l];omega).2;have i:=(zmL (n:=20) (U:=s) (D:=λa=>1*(dg (s-14*RZ) a:Int)+14*1) (λa b=>by have:=e a b;omega)<|by rw[c];omega).2;refine⟨d,λa b=>?_⟩;have t:=k a b;have u:=y a b;have w:=i a b;unfold fC;omega
theorem zqm{y:Int}(a:-2<=z/\z<=2)(b:-2<=y/\y<=2):-4<=z*y/\z*y<=4:=by have:z=-2\/z=-1\/z=0\/z=1\/z=2:=om;grind
def num(w v r:Nat)(l:Nat):Nat:=Nat.sub (Nat.add (Nat.add (Nat.mul (dg v r) w) (Nat.mul 16 v)) (Nat.add (Nat.mul (dg w r) KZ) (Nat.mul l KZ))) (Nat.add (Nat.mul 16 w) (Nat.add (Nat.mul (dg w r) v) (Nat.mul (dg v r) KZ)))
theorem ztu(r l:Nat):num i j r l=(dg j r*i+16*j)+(dg i r*KZ+l*KZ)-(16*i+(dg i r*j+dg j r*KZ)):=rfl
def nrm(y:Nat):Nat:=bif Nat.blt (Nat.sub (Nat.mul 2 KZ) y) y then Nat.sub (Nat.mul 2 KZ) y else y
theorem zmO:nrm i=if 2*KZ-i<i then 2*KZ-i else i:=by
 simp[nrm]
theorem zhj(h:Bk s=k0)(i:Bk y=k0)(b:A<20)(l:Nat)(q:1<=l) :
 ((num s y A l:Nat):Int)-l*KZ=sD 20 λa=>fC y A*fC s a-fC s A*fC y a:=by
 have⟨j,c⟩:=Fo h
 have⟨k,d⟩:=Fo i
 have e:=pW (fC y A) (-(fC s A)) 20 (fC s) (fC y)
 rw[Lr j,Lr k]at e
 have m:sD 20 (λa=>fC y A*fC s a+-(fC s A)*fC y a)=sD 20 λa=>fC y A*fC s a-fC s A*fC y a:=vl 20 λa _=>by grind
 have n:∀a,a<20->0<=(fC y A*fC s a-fC s A*fC y a)+16/\(fC y A*fC s a-fC s A*fC y a)+16<32:=λa f=>by have r:=zqm (d A b) (c a f);have t:=zqm (c A b) (d a f);omega
 have u:=(Om 20 n).1
 have o:=pW 1 16 20 (λa=>fC y A*fC s a-fC s A*fC y a) (λ_=>1)
 have x:16*sD 20 (λ_=>1)=KZ:=dc
 rw[show sD 20 _=sD 20 (λa=>(fC y A*fC s a-fC s A*fC y a)+16) from vl 20 λa _=>om]at o
 have g:fC y A*(s-KZ)+-(fC s A)*(y-KZ)=((dg y A:Int)*s+16*y+dg s A*KZ)-(16*s+dg s A*y+dg y A*KZ):=by unfold fC;grind
 have p:=by have:=Int.mul_le_mul_of_nonneg_right (show(1:Int)<=l by omega) (show(0:Int)<=KZ by omega);omega
 simp[e,g,ztu];omega
theorem zhk{y:Nat}{D:U0}(c:∀a,a<20->-15<=D a/\D a<=15)(h:(y:Int)-KZ=sD 20 D):nrm y<32^20/\∃s:Int,(s=1\/s=-1)/\∀a,a<20->fC (nrm y) a=s*D a:=by
 rw[zmO];have e:=pW (-1) 0 20 D D;rw[show sD 20 _=sD 20 (λa=>-D a) from vl 20 λa _=>om]at e;have⟨g,d⟩:=zmM (λa b=>by grind) h;split
 next i =>
  have k:y<=2*KZ:=by
   have d:=(Om 20 (D:=λa=>-1*D a+16*1) λa b=>by grind).1;have f:=pW (-1) 16 20 D<|λ_=>1;have l:16*sD 20 (λ_=>1)=KZ:=dc
   omega
  have⟨f,j⟩:=zmM (U:=2*KZ-y) (D:=λa=>-D a) (λa b=>by grind) om;simp_all
 simp_all
def qR(w v r l:Nat):Nat:=nrm (Nat.div (num w v r l) l)
theorem zhf(r l:Nat):qR i j r l=nrm (num i j r l/l):=rfl
def okd(w v r l:Nat):Bool:=Nat.beq (Nat.mod (num w v r l) l) 0
theorem lU:∀a,a<20->fC KZ a=0:=dc
theorem Ws:Bk KZ=true:=dc
theorem Uj(b:s<32^20)(h:∀a,a<20->fC s a=0):s=KZ:=by have e:=Lr b;rw[show sD 20 _=sD 20 (λ_=>0*1+0*1) from vl 20 λa c=>by grind,pW 0 0 20 _ _]at e;omega
theorem zto{B:U0}(c:z=1\/z=-1)(d:∀a,a<20->-2<=I a/\I a<=2)(e:∀a,a<20->-8<=B a/\B a<=8)(h:2*(z*sD 20 I)=sD 20 B):∀a,a<20->z*(2*I a)=B a:=by
 intro a b;have f:=pW (2*z) 16 20 I<|λ_=>1;have g:=pW 1 16 20 B<|λ_=>1;have i:sD 20 (λa=>2*z*I a+16*1)=sD 20 (λa=>1*B a+16*1):=by grind
 have j:=zhh 20 (λa b=>by grind) (λa b=>by grind) i a b;grind
theorem zvz(b:∀a,a<20->-8<=I a/\I a<=8):sD 20 I<=KZ:=by
 have d:=(Om 20 (D:=λa=>-1*I a+16*1) λa c=>by grind).1;have e:=pW (-1) 16 20 I<|λ_=>1;have f:16*sD 20 (λ_=>1)=KZ:=dc
 omega
theorem vg(i:Bk s=k0)(j:Bk y=k0)(k:A<20)(q:C=1\/C=2/\okd s y A C=k0/\Bk (qR s y A C)=k0) :
 qR s y A C<32^20/\∃v:Int,(v=1\/v=-1)/\∀a,a<20->v*(C*fC (qR s y A C) a)=fC y A*fC s a-fC s A*fC y a:=by
 have n:∀a,a<20->-8<=fC y A*fC s a-fC s A*fC y a/\fC y A*fC s a-fC s A*fC y a<=8:=λa b=>by have E:=zqm ((Fo j).2 A k)<|(Fo i).2 a b;have o:=zqm ((Fo i).2 A k)<|(Fo j).2 a b;omega
 rcases q with rfl|⟨rfl,o,t⟩
 ·have e:=zhj i j k 1<|ab _;rw[zhf,Nat.div_one];have⟨u,v,c,x⟩:=zhk (D:=λa=>fC y A*fC s a-fC s A*fC y a) (λa b=>by have:=n a b;omega) (show((num s y A 1:Nat):Int)-KZ=_ by rw[<- e];omega);refine⟨u,v,c,λa b=>?_⟩;grind
 ·have e:=zhj i j k 2 om;have⟨p,l⟩:=Fo t;refine⟨p,?_⟩;have F:=by have:num s y A 2%2=0:=fh o;omega
  have G:=Lr p;generalize z:(λa=>fC y A*fC s a-fC s A*fC y a)=B at *;have d:∀a,fC y A*fC s a-fC s A*fC y a=B a:=λa=>by rw[<- z]
  have f:∀a,a<20->-8<=B a/\B a<=8:=λa b=>by rw[<- d];exact n a b
  have w:=zvz f;have m:(if 2*KZ-num s y A 2/2<num s y A 2/2 then 2*KZ-num s y A 2/2 else num s y A 2/2)=qR s y A 2:=by rw[zhf,zmO]
  have g:∀v:Int,(v=1\/v=-1)->2*(v*sD 20 (fC<|qR s y A 2))=sD 20 B->∃v:Int,(v=1\/v=-1)/\∀a,a<20->v*(2*fC (qR s y A 2) a)=fC y A*fC s a-fC s A*fC y a:=λv c h=>⟨v,c,λa b=>by rw[d];exact zto c l f h a b⟩;split at m
  next r=>exact g (-1) (.inr rfl) om
  next r=>exact g 1 (.inl rfl) om
def frc{a:Type}(n:Nat)(f:Nat->a):a:=match n with|0=>f 0|k+1=>f (k+1)
theorem zdJ{a:Type}(n:Nat)(f:Nat->a):frc n f=f n:=by cases n<;>rfl
def frL{a:Type}:O0->(O0->a)->a|[],f=>f []|x::l,f=>frc x λx=>frL l λl=>f (x::l)
theorem sq{a:Type}:∀(l:O0)(f:O0->a),frL l f=f l
 | [],f=>rfl
 | x::l,f=>by rw[frL,zdJ,sq l]
def zmG(x:Nat):O0->O0
 | []=>[x]
 | y::l=>bif Nat.beq x y then y::l else bif Nat.blt x y then x::y::l else y::zmG x l
theorem zbk{x z:Nat}:∀{l:O0},z∈zmG x l↔z=x\/z∈l
 | []=>by simp[zmG]
 | y::l=>by
   unfold zmG;cases h:Nat.beq x y with
   | true =>simp_all
   | false =>
     cases Nat.blt x y with
     | true=>simp
     | false=>simp[zbk];grind
def ztp(u:Nat)(a:O0):O0:=frc u λu=>bif Nat.beq u KZ then a else zmG u a
theorem zmH:y∈ztp s q↔(y=s/\s≠KZ)\/y∈q:=by
 rw[ztp,zdJ];cases h:Nat.beq s KZ with
 | true=>simp_all
 | false=>simp[zbk,Nat.ne_of_beq_eq_false h]
def yY(S:O0)(v r l:Nat):O0:=S.foldr (λw a=>ztp (qR w v r l) a) []
theorem sr{v r l z:Nat}:∀{S:O0},z∈yY S v r l↔z≠KZ/\∃w∈S,z=qR w v r l
 | []=>by simp[yY]
 | x::S=>by
   have d:=sr (v:=v) (r:=r) (l:=l) (z:=z) (S:=S);unfold yY at d ⊢;rw[List.foldr_cons,zmH];grind
def un(v r:Nat):Bool:=Nat.beq (dg v r) 15||Nat.beq (dg v r) 17
def zer(v r:Nat):Bool:=Nat.beq (dg v r) 16
theorem yZ:un s y=k0↔fC s y=1\/fC s y=-1:=by simp[un,fC];omega
theorem tH:zer s y=k0↔fC s y=0:=by rw[zer,fC,Nat.beq_eq];omega
def ztq(y r:Nat):Bool:=Nat.beq (Nat.mod y (Nat.pow 32 r)) (Nat.mod KZ (Nat.pow 32 r))
theorem zmI{y r a:Nat}(h:a<r):dg (y%32^r) a=dg y a:=by rw[Um,Um];obtain⟨c,rfl⟩:∃c,r=a+(c+1):=⟨r-a-1,om⟩;rw[Ng,Nat.mod_mul_right_div_self,fm,Gs,Nat.mod_mul_right_mod]
theorem Ol(h:ztq s y=k0)(c:A<y)(b:A<20):fC s A=0:=by have e:s%32^y=KZ%32^y:=fh h;have f:=zmI (y:=s) c;have d:=lU A b;simp_all[fC,zmI c]
def zi8:O0->O0->Bool
 | [],[]=>k0
 | x::a,y::b=>Nat.beq x y&&zi8 a b
 | _,_=>l0
theorem zhg:∀{a b:O0},zi8 a b=k0->a=b
 | [],[],_=>rfl
 | x::a,y::b,h=>by unfold zi8 at h;rw[aj]at h;rw[fh h.1,zhg h.2]
 | [],_::_,h=>by simp[zi8]at h
 | _::_,[],h=>by simp[zi8]at h
def ztr:O0->Nat->Nat|[],k=>k|y::l,k=>ztr l (Nat.add (Nat.mul k (Nat.pow 32 20)) y)
def inK(k:Nat)(x:O0):List (Nat×O0)->Bool
 | []=>l0
 | p::l=>bif Nat.beq p.1 k then zi8 p.2 x||inK k x l else inK k x l
theorem Wt{k:Nat}{x:O0}:∀{l:List (Nat×O0)},inK k x l=k0->∃p∈l,p.2=x
 | [],h=>by simp[inK]at h
 | p::l,h=>by
   unfold inK at h;cases c:Nat.beq p.1 k with
   | false =>rw[c]at h;have⟨q,a,b⟩:=Wt h;grind
   | true =>
     rw[c,cond_true,cw]at h;rcases h with h|h
     exact⟨p,sp,zhg h⟩;have⟨q,a,b⟩:=Wt h;grind
def ddA:List (Nat×O0)->List O0->List (Nat×O0)
 | a,[]=>a
 | a,x::L=>frL x λx=>frc (ztr x 1) λk=>bif inK k x a then ddA a L else ddA ((k,x)::a) L
theorem Wu{x:O0}:∀{L:List O0}{acc:List (Nat×O0)},(∃p∈acc,p.2=x)\/x∈L->∃p∈ddA acc L,p.2=x
 | [],acc,h=>by simpa[ddA]using h
 | y::L,acc,h=>by
   rw[ddA,sq,zdJ];cases a:inK _ y acc with
   | true =>
     refine Wu ?_;rcases h with h|h
     grind;rcases List.mem_cons.1 h with rfl|h;exact .inl<|Wt a;grind
   | false =>
     refine Wu ?_;simp;grind
def ddl(L:List O0):List O0:=(ddA [] L).map (·.2)
theorem Wv{L:List O0}(h:q∈L):q∈ddl L:=have⟨p,a,b⟩:=Wu<|.inr h;List.mem_map.2 ⟨p,a,b⟩
def nxt(r:Nat)(S:O0):List O0:=frL S λS=>let P:=S.filter λv=>un v r;bif P.isEmpty then [S]else P.map λv=>yY S v r 1
def zsC(r:Nat)(F:O0)(L:List O0):List O0:=ddl (L.flatMap λM=>nxt r (F++M))
def Uk(r:Nat)(F:O0)(L:List O0):Bool:=L.all λM=>(F++M).all λw=>Bk w&&(un w r||zer w r)&&ztq w r
def lev(F:Nat->O0):Nat->List O0|0=>[[]]|r+1=>zsC r (F r) (lev F r)
def zqh(F:Nat->O0)(a:List O0->Bool):Nat->Nat->List O0->Bool
 | 0,_,L=>a L
 | k+1,r,L=>Uk r (F r) L&&zqh F a k (r+1) (zsC r (F r) L)
theorem zqi{F:Nat->O0}{a:List O0->Bool}:∀(k r:Nat),zqh F a k r (lev F r)=k0->(∀i,r<=i->i<r+k->Uk i (F i) (lev F i)=k0)/\a (lev F (r+k))=true:=by
 intro k;induction k with
 | zero=>exact λr h=>⟨λi b c=>om,h⟩
 | succ k d =>intro r h;unfold zqh at h;rw[aj]at h;have⟨b,c⟩:=d _ h.2;grind
def zbl(a:O0):Nat->O0->Bool
 | 0,_=>l0
 | k+1,S=>frL S λS=>S.all Bk&&((bif S.all (λv=>a.all λr=>!un v r)then Nat.ble (lh S) 1 else k0)&&a.all λr=>S.all λv=>!un v r||zbl a k (yY S v r 1))
def twS(a:O0):Nat->O0->Bool
 | 0,_=>k0
 | k+1,S=>frL S λS=>!S.all Bk||match a.find? (λr=>S.any λv=>un v r)with
   | none=>!S.isEmpty
   | some r=>match S.find? (λv=>un v r)with
     | none=>k0
     | some v=>twS a k (yY S v r 1)
def Qp(a:O0)(b:Bool):Nat->O0->Nat->Bool
 | 0,_,_=>l0
 | k+1,S,l=>frL S λS=>S.all Bk&&match a.find? (λr=>S.any λv=>!zer v r)with
   | none=>Nat.beq l 2||!b
   | some r=>(Nat.beq l 2||S.any (λv=>un v r)||zbl a 4 S)&&S.all λv=>zer v r||((Nat.beq l 1||S.all (λw=>okd w v r l))&&Qp a b k (yY S v r l) (bif un v r then 1 else 2))
def Ul:O0->List O0|[]=>[[]]|x::l=>(Ul l).flatMap λs=>[s,x::s]
theorem oW(p:V0):∀l:O0,l.filter p∈Ul l
 | []=>by simp[Ul]
 | x::l=>by have a:=oW p l;unfold Ul;grind
def zqj(q:Nat)(c:O0)(L:List O0):Bool :=
 (ddl (L.flatMap Ul)).all λa=>(Ul c).all λb=>(b++a).all (λw=>ztq w q)&&Qp ((lc 20).drop q) (twS ((lc 20).drop q) 5 (b++a)) 5 (b++a) 1
def YG(k:Nat):O0:=(lc 64).filter λs=>aQ s==k
def cD(k b a:Nat):Int:=if a<(YG k).length then lI (lg (YG k) a 0) b else 0
def cod(k b:Nat):Nat:=nrm ((sD 20 (cD k b)+KZ).toNat)
def frs(y r:Nat):Bool:=!zer y r&&(lc r).all λa=>zer y a
def zbn(k:Nat):O0:=(YG (k+1)).map (cod k)
def FF(C:O0)(r:Nat):O0:=C.filter λy=>frs y r
def qq(k:Nat):Nat:=if k=2 then 7 else 20
def chk(k:Nat):Bool:=(zbn k).all (λy=>Bk y&&(lc 20).any λr=>frs y r)&&zqh (FF (zbn k)) (zqj (qq k) ((lc 20).drop (qq k) |>.flatMap (FF (zbn k)))) (qq k) 0 [[]]
def CS(e:X0)(b:T0)(a n j y:Nat):Prop :=
 (∃s:Int,(s=1\/s=-1)/\∀i,a<=i->i<n->e i j=s*fC y (b i))/\∀c,c<20->(∀i,a<=i->i<n->b i≠c)->fC y c=0
structure Rel (X:Nat->Prop) (e:Nat->Nat->Int) (lam:Nat->Nat) (a n m:Nat):Prop where
 inj:∀i i',a<=i->i<n->a<=i'->i'<n->lam i=lam i'->i=i'
 lt:∀i,a<=i->i<n->lam i<20
 col:∀j,a<=j->j<m->∃y,X y/\Bk y=true/\CS e lam a n j y
def ke(a b i:Nat):Nat:=if i=b then a else i
structure Sst (e e':Nat->Nat->Int) (a n m i0 j0 l:Nat):Prop where
 hi:a<=i0/\i0<n
 hj:a<=j0/\j0<m
 nz:e i0 j0≠0
 eq:∃t:Int,(t=1\/t=-1)/\∀i j,a<i->i<n->a<j->j<m->t*(l*e' i j)=e i0 j0*e (ke a i0 i) (ke a j0 j)-e (ke a i0 i) j0*e i0 (ke a j0 j)
theorem kU(h:s<=A/\A<y)(c:s<C)(d:C<y):s<=ke s A C/\ke s A C<y/\ke s A C≠A:=by unfold ke;grind
theorem zqf(d:s<A)(e:s<C)(h:ke s y A=ke s y C):A=C:=by unfold ke at h;grind
theorem Oh(h:s<=A/\A<y)(g:s<=C)(d:C<y)(e:C≠A):∃i,s<i/\i<y/\ke s A i=C:=by by_cases f:C=s;exact⟨A,om,h.2,by simp_all[ke]⟩;exact⟨C,om,d,by simp[ke,e]⟩
theorem sgm(h:z=1\/z=-1):z*z=1:=by grind
theorem Oi{t:Int}(h:z=1\/z=-1)(a:t=1\/t=-1):z*t=1\/z*t=-1:=by grind
theorem Oj{d:X0}{j v:Nat}(f:Sst o d s y A C D E)(a0:∀i k,s<=i->i<y->s<=k->k<y->u i=u k->i=k)(b:∀i,s<=i->i<y->u i<20)(hv:CS o u s y D v)(bv:Bk v=k0)(P:s<H/\H<A)(hy:CS o u s y (ke s D H) j)(n:Bk j=k0)(Q:E=1\/E=2/\okd j v (u C) E=k0/\Bk (qR j v (u C) E)=k0):CS d (λi=>u (ke s C i)) (s+1) y H (qR j v (u C) E):=by
 have⟨⟨B,I,R⟩,v2⟩:=hv
 have⟨⟨e,J,S⟩,y2⟩:=hy
 have⟨t,U,he⟩:=f.eq
 have hr:=b C f.hi.1 f.hi.2
 have⟨_,j0,V,W⟩:=vg n bv hr Q
 have w:(E:Int)≠0:=by rcases Q with rfl|⟨rfl,_⟩<;>decide
 refine⟨⟨t*j0*(B*e),?_,λi X F=>?_⟩,λc K L=>?_⟩
 exact Oi (Oi U V)<|Oi I J
 show d i H=t*j0*(B*e)*fC (qR j v (u C) E) (u<|ke s C i);have⟨M,N,_⟩:=kU f.hi (show s<i by omega) F;have Y:=he i H om F P.1 P.2;rw[R _ f.hi.1 f.hi.2,S _ M N,R _ M N,S _ f.hi.1 f.hi.2]at Y;have G:=W _<|b _ M N;generalize u (ke s C i)=c at *;generalize d i H=m at *;generalize fC (qR j v (u C) E) c=a at *;generalize fC v (u C)=p at *;generalize fC j c=q at *;generalize fC j (u C)=r at *;generalize fC v c=l at *;have Z:t*(E*m)=(B*e)*(p*q-r*l):=by rw[Y,tQ];congr 1<;>ac_rfl
 rw[<- G]at Z;have e4:(E:Int)*m=E*(t*j0*(B*e)*a):=by
  have e5:t*(t*(E*m))=E*m:=by rw[<- fE,sgm U,jL]
  rw[<- e5,Z];ac_rfl
 exact Int.eq_of_mul_eq_mul_left w e4
 have O:fC v (u C)*fC j c-fC j (u C)*fC v c=0:=by
  by_cases x:u C=c;rw[x];rw[kZ];omega;have g:∀i,s<=i->i<y->u i≠c:=λi X F h3=>by by_cases z:i=C;subst z;exact x h3;have⟨k,h4,h5,h6⟩:=Oh f.hi X F z;exact L k h4 h5<|by show u (ke s C k)=c;rw[h6];exact h3
  rw[v2 c K g,y2 c K g,ep,ep];rfl
 have G:=W c K;rw[O]at G;rcases Int.mul_eq_zero.1 G with h|h
 rcases V with rfl|rfl<;>omega
 rcases Int.mul_eq_zero.1 h with h|h
 exact absurd h w
 exact h
theorem zbj{j:X0}(g:Sst o j s y A C D E)(f:∀i b,s<=i->i<y->s<=b->b<y->u i=u b->i=b) :
 ∀i b,s+1<=i->i<y->s+1<=b->b<y->u (ke s C i)=u (ke s C b)->i=b:=λi b t k l d h=>have⟨p,q,_⟩:=kU g.hi om k;have⟨r,j0,_⟩:=kU g.hi om d;zqf om om<|f _ _ p q r j0 h
def Ord(e:X0)(b:T0)(a n m:Nat):Prop:=∀i c,a<=i->i<c->c<n->(∃j,a<=j/\j<m/\e i j≠0)->(∃j,a<=j/\j<m/\e c j≠0)->b i<b c
theorem Ord.step{r:X0}(h:Ord o u s y A)(c:Sst o r s y A C D E)(b:(E:Int)≠0)(e:∀i j,s<=i->i<C->s<=j->j<A->o i j=0) :
 Ord r (λi=>u (ke s C i)) (s+1) y A:=by
 have⟨t,M,N⟩:=c.eq
 have a:∀i j,s<i->i<y->s<j->j<A->r i j≠0->∃f,s<=f/\f<A/\o (ke s C i) f≠0:=λi j n j0 g F w=>by
  have⟨z,m,_⟩:=kU c.hj g F;by_cases G:o (ke s C i) (ke s D j)=0
  ·by_cases k:o (ke s C i) D=0
   ·have:=N i j n j0 g F;rw[G,k,ep,xp]at this;exfalso;rcases Int.mul_eq_zero.1 this with h|h
    ·rcases M with rfl|rfl<;>omega
    ·rcases Int.mul_eq_zero.1 h with h|h
     ·exact b h
     ·exact w h
   ·exact⟨D,c.hj.1,c.hj.2,k⟩
  ·exact⟨_,z,m,G⟩
 rintro i B n j0 g ⟨j,j1,j2,j3⟩ ⟨f,S,O,P⟩
 have⟨x,H,I,p⟩:=a i j om om om j2 j3
 have⟨l,J,K,q⟩:=a B f om g om O P
 have Q:ke s C i<ke s C B:=by
  unfold ke at p q ⊢;have R:=c.hi;split at p
  next L =>exfalso;exact p<|e s x (ab _) om H I
  next L =>
   rw[ac L];split at q
   next d=>exfalso;exact q<|e s l (ab _) om J K
   next d=>rw[ac d];exact j0
 have⟨z,_,_⟩:=kU c.hi (show s<i by omega) om
 have⟨_,m,_⟩:=kU c.hi (show s<B by omega) g
 exact h _ _ z Q m ⟨x,H,I,p⟩ ⟨l,J,K,q⟩
theorem CS.flip(h:CS o u s y A C)(f:∀i,s<=i->i<y->u i<20)(k:z=1\/z=-1)(l:∀c,c<20->fC C c=z*fC D c):CS o u s y A D:=by have⟨⟨t,p,q⟩,r⟩:=h;refine⟨⟨t*z,Oi p k,λi m d=>?_⟩,λc j g=>?_⟩;grind;grind
theorem CS.two(h:CS o u s y A C)(w:CS o u s y A D):∃j:Int,(j=1\/j=-1)/\∀c,c<20->fC C c=j*fC D c:=by
 have⟨⟨t,a,x⟩,z⟩:=h;have⟨⟨p,k,l⟩,m⟩:=w;refine⟨t*p,Oi a k,λc q=>?_⟩;grind
section
variable {k:Nat}
abbrev Fk(k:Nat):Nat->O0:=FF (zbn k)
def rst(k:Nat):O0:=((lc 20).drop (qq k)).flatMap (Fk k)
def SW(k:Nat):O0:=(lc 20).drop (qq k)
theorem Jw:qq i<=20:=by unfold qq;grind
theorem tG:s∈SW k↔qq k<=s/\s<20:=by rw[SW,List.mem_iff_getElem];constructor;grind;rintro⟨b,d⟩;exact⟨s-qq k,by grind,by grind⟩
structure Good (k:Nat):Prop where
 bn:∀y∈zbn k,Bk y=true
 fr:∀y∈zbn k,∃r,r<20/\frs y r=true
 lv:∀r,r<qq k->Uk r (Fk k r) (lev (Fk k) r)=true
 fn:zqj (qq k) (rst k) (lev (Fk k) (qq k))=true
theorem zqe(h:chk k=k0):Good k:=by unfold chk at h;rw[aj]at h;have⟨a,d⟩:=h;have c:=zqi _ 0 d;refine⟨λy b=>?_,λy b=>?_,λr g=>c.1 r (aB _) om,by have:=c.2;rwa [cm]at this⟩;grind;grind
theorem Lq(h:frs s y=k0)(a:A<y):fC s A=0:=by unfold frs at h;rw[aj,aY]at h;exact tH.1<|h.2 A<|List.mem_range.2 a
theorem yX:s∈Fk k y↔s∈zbn k/\frs s y=true:=by rw[Fk,FF,dG]
def X1(k fr:Nat)(M:O0)(y:Nat):Prop:=y=KZ\/y∈M\/∃r,fr<=r/\y∈Fk k r
def P1(k fr:Nat)(e:X0)(b:T0)(a n m:Nat):Prop:=fr<=qq k/\∃M∈lev (Fk k) fr,Rel (X1 k fr M) e b a n m/\Ord e b a n m
variable (g:Good k)
include g
theorem Good.lv2(n:s<=qq k)(i:q∈lev (Fk k) s)(j:y∈q):Bk y=k0/\∀c,c<s->fC y c=0:=by have o:=Jw k;by_cases h:s<qq k;have:=g.lv s h;unfold Uk at this;rw[aY]at this;have:=this q i;rw[aY]at this;have:=this y (gM _ j);simp only[aj]at this;exact⟨this.1.1,λc a=>Ol this.2 a om⟩;have e:s=qq k:=om;subst e;have b:=g.fn;unfold zqj at b;rw[aY]at b;have l:=b (q.filter λ_=>k0) (Wv (List.mem_flatMap.2 ⟨q,i,oW _ q⟩));rw[aY]at l;have d:=l ((rst k).filter λ_=>l0) (oW _ _);rw[aj,aY]at d;have m:y∈(rst k).filter (λ_=>l0)++q.filter λ_=>true:=gM _ (by simp[j]);refine⟨?_,λc a=>Ol (d.1 y m) a om⟩;have f:=d.2;unfold Qp at f;rw[sq,aj,aY]at f;exact f.1 y m
theorem Good.piv(a:s<qq k)(b:q∈lev (Fk k) s)(c:y∈Fk k s++q)(d:fC y s≠0):un y s=true:=by have:=g.lv s a;unfold Uk at this;rw[aY]at this;have:=this q b;rw[aY]at this;have:=this y c;simp[cw]at this;exact this.1.2.resolve_right λh=>d<|tH.1 h
theorem Good.low1(b:s<=qq k)(d:q∈lev (Fk k) s)(a:X1 k s q y):∀c,c<s->fC y c=0:=λc e=>by
 have h:=Jw k;rcases a with rfl|a|⟨r,i,f⟩
 exact lU c om;exact(g.lv2 b d a).2 c e;exact Lq (yX.1 f).2 om
theorem Ui(a:Bk s=k0)(d:Bk y=k0)(f:A<20)(g:un y A=k0)(h:fC s A=0):∃r:Int,(r=1\/r=-1)/\∀c,c<20->fC (qR s y A 1) c=r*fC s c:=by have⟨_,r,b,i⟩:=vg a d f<|.inl rfl;have j:=yZ.1 g;refine⟨r*fC y A,Oi b j,λc k=>?_⟩;have e:=i c k;rw[h,xp,jI]at e;rw[fE,<- e,<- fE,sgm b];simp
theorem zmE{r:Nat}(h:∀v∈q,un v r=l0):q∈nxt r q:=by
 rw[nxt,sq];have:q.filter (λv=>un v r)=[]:=List.filter_eq_nil_iff.2 λv a=>by grind
 grind
theorem zbi(b:y∈q)(h:un y s=k0):yY q y s 1∈nxt s q:=by
 rw[nxt,sq];have a:y∈q.filter λy=>un y s:=List.mem_filter.2 ⟨b,h⟩;grind
theorem Wr{S:O0}(a:q∈lev (Fk k) s)(b:S∈nxt s (Fk k s++q)):S∈lev (Fk k) (s+1):=Wv<|List.mem_flatMap.2 ⟨q,a,b⟩
theorem zsA(m:yY (Fk k s++q) y s 1∈lev (Fk k) (s+1))(h:Bk y=k0)(a:s<20)(b:Bk A=k0)(d:A=KZ\/A∈Fk k s++q):X1 k (s+1) (yY (Fk k s++q) y s 1) (qR A y s 1):=by
 have⟨i,M,j,l⟩:=vg b h a (.inl rfl);by_cases f:qR A y s 1=KZ;exact .inl f;rcases d with rfl|d;refine absurd (Uj i λc g=>?_) f;have e:=l c g;rw[lU c g,lU s a]at e;grind
 exact .inr<|.inl<|sr.2 ⟨f,A,d,rfl⟩
theorem zmF(b:s<=qq k)(c:q∈lev (Fk k) s)(a:X1 k s q y):Bk y=true:=by rcases a with rfl|a|⟨r,_,d⟩;rfl;exact(g.lv2 b c a).1;exact g.bn _ (yX.1 d).1
theorem Fm(h:X1 k s q y):(y=KZ\/y∈Fk k s++q)\/∃r,s+1<=r/\y∈Fk k r:=by rcases h with h|h|⟨r,b,a⟩;omega;grind;grind
theorem Good.adv(h:P1 k s o u y A C)(S:s<qq k)(K:∀i j,y<=i->i<A->u i=s->y<=j->j<C->o i j=0):P1 k (s+1) o u y A C:=by
 have⟨L,M,x,l,fr⟩:=h;have D:=Jw k;have z:∀j m,y<=j->j<C->CS o u y A j m->fC m s=0:=λj m j1 j2 ⟨⟨a,q,c1⟩,c2⟩=>by
  grind
 by_cases F:∃v∈Fk k s++M,un v s=k0;have⟨v,G,H⟩:=F;have d:=Wr g x<|zbi g G H;have I:Bk v=true:=by rcases List.mem_append.1 G with h|h;exact g.bn _ (yX.1 h).1;exact(g.lv2 L x h).1
 refine⟨om,_,d,⟨l.inj,l.lt,λj j1 j2=>?_⟩,fr⟩;have⟨m,b,f,p⟩:=l.col j j1 j2;have N:=z j m j1 j2 p;rcases Fm g b with e|⟨r,O,P⟩
 have J:=zsA g d I om f e;have⟨a,q,Q⟩:=Ui g f I om H N;refine⟨_,J,zmF g om d J,p.flip l.lt q λc B=>?_⟩;grind;exact⟨m,.inr<|.inr ⟨r,O,P⟩,f,p⟩;have d:=Wr g x<|zmE g λv R=>by
  grind
 refine⟨om,_,d,⟨l.inj,l.lt,λj j1 j2=>?_⟩,fr⟩;have⟨m,b,f,p⟩:=l.col j j1 j2;refine⟨m,?_,f,p⟩;rcases Fm g b with(e|e)|e
 exact .inl e;exact .inr<|.inl e;exact .inr<|.inr e
theorem Good.low(h:P1 k s o u y A C)(d:y<=D)(f:D<A)(l:y<=E)(a:E<C)(c:o D E≠0):s<=u D:=by have⟨p,M,q,r,z⟩:=h;have⟨j,t,i,⟨⟨m,n,w⟩,_⟩⟩:=r.col E l a;by_cases x:u D<s;exact absurd (by rw[w D d f,g.low1 p q t _ x,ep]) c;omega
theorem Good.upto{r:Nat}(q:r<=qq k)(c:∀i j,s<=i->i<y->u i<r->s<=j->j<A->o i j=0):∀d fr,fr+d=r->P1 k fr o u s y A->P1 k r o u s y A:=by
 intro d;induction d with
 | zero=>simp
 | succ d l=>exact λfr f h=>l _ om<|g.adv h om λi j n p m j1 j2=>c i j n p om j1 j2
theorem ahead(h:Ord o u s y A)(k:s<=C/\C<y)(g:s<=D/\D<A)(d:o C D≠0)(l:∀i j,s<=i->i<C->s<=j->j<A->o i j=0) :
 ∀i j,s<=i->i<y->u i<u C->s<=j->j<A->o i j=0:=λi j b p j0 j1 j2=>by
 by_cases f:o i j=0
 grind
 by_cases q:i<C
 grind
 by_cases r:i=C
 grind
 have:=h C i k.1 om p ⟨D,g.1,g.2,d⟩ ⟨j,j1,j2,f⟩;omega
theorem Good.step1{e e':X0}(h:P1 k s e u y A C)(c:Sst e e' y A C D E 1)(F:∀i j,y<=i->i<D->y<=j->j<C->e i j=0)(z:u D<qq k) :
 P1 k (u D+1) e' (λi=>u (ke y D i)) (y+1) A C/\(e D E=1\/e D E=-1):=by
 have N:=g.low h c.hi.1 c.hi.2 c.hj.1 c.hj.2 c.nz
 have O:=g.upto (r:=u D) om (ahead g h.2.choose_spec.2.2 c.hi c.hj c.nz F) (u D-s) s om h
 have⟨V,M,G,p,P⟩:=O
 have H:=Jw k
 have n:∀v,X1 k (u D) M v->CS e u y A E v->v∈Fk k (u D)++M/\un v (u D)=true:=λv B ⟨⟨m,x,c1⟩,_⟩=>by
  have d:=c.nz;rw[c1 _ c.hi.1 c.hi.2]at d;have w:fC v (u D)≠0:=λh=>d (by rw[h,ep]);have I:v∈Fk k (u D)++M:=by rcases Fm g B with(rfl|h)|⟨r,o,f⟩;exact absurd (lU _ om) w;exact h;exact absurd (Lq (yX.1 f).2 om) w
  exact⟨I,g.piv z G I w⟩
 have⟨v,B,fr,b⟩:=p.col E c.hj.1 c.hj.2
 have⟨Q,a⟩:=n v B b
 have q:=Wr g G (zbi g Q a)
 refine⟨⟨om,_,q,⟨zbj c p.inj,λi J t=>?_,λj J t=>?_⟩,Ord.step P c dc F⟩,?_⟩
 have⟨o,f,_⟩:=kU c.hi (show y<i by omega) t;exact p.lt _ o f
 have⟨o,f,_⟩:=kU c.hj (show y<j by omega) t;have⟨j0,R,l,S⟩:=p.col _ o f;have K:=Oj c p.inj p.lt b fr ⟨om,t⟩ S l (.inl rfl);rcases Fm g R with U|⟨r,o,f⟩
 have L:=zsA g q fr om l U;exact⟨_,L,zmF g om q L,K⟩
 have⟨m,x,w⟩:=Ui g l fr om a (Lq (yX.1 f).2 om);refine⟨j0,.inr (.inr ⟨r,o,f⟩),l,K.flip (λi J t=>?_) x w⟩;have⟨o,f,_⟩:=kU c.hi (show y<i by omega) t;exact p.lt _ o f
 have⟨⟨m,x,c1⟩,_⟩:=b;rw[c1 _ c.hi.1 c.hi.2];exact Oi x (yZ.1 a)
end
def zi7(k:Nat)(S:O0):Prop:=∀w∈S,∀c,c<qq k->fC w c=0
def X2(S:O0)(y:Nat):Prop:=y=KZ\/y∈S
def ex2(S:O0)(e:X0)(b:T0)(a n m:Nat):Prop:=∀y∈S,∃j,a<=j/\j<m/\CS e b a n j y
def P2(k f:Nat)(S:O0)(l:Nat)(b:Bool)(e:X0)(c:T0)(a n m:Nat):Prop :=
 (l=1\/l=2)/\Qp (SW k) b f S l=k0/\zi7 k S/\Rel (X2 S) e c a n m/\ex2 S e c a n m/\Ord e c a n m
def PU(k f:Nat)(S:O0)(e:X0)(b:T0)(a n m:Nat):Prop :=
 zbl (SW k) f S=k0/\zi7 k S/\Rel (X2 S) e b a n m/\ex2 S e b a n m
open Classical in
theorem Good.to2(g:Good s)(h:P1 s (qq s) o u y A C):∃S,P2 s 5 S 1 (twS (SW s) 5 S) o u y A C:=by
 obtain⟨I,M,B,f,k⟩:=h;have n:=Jw s;let p:V0:=λm=>decide (∃j,y<=j/\j<C/\CS o u y A j m);have i:=g.fn;unfold zqj at i;rw[aY]at i;have x:=i (M.filter p) (Wv (List.mem_flatMap.2 ⟨M,B,oW _ M⟩));rw[aY]at x;have l:=x ((rst s).filter p) (oW _ _);rw[aj,aY]at l;refine⟨(rst s).filter p++M.filter p,.inl rfl,l.2,λw D c e=>Ol (l.1 w D) e om,⟨f.inj,f.lt,λj j1 j2=>?_⟩,λm d=>?_,k⟩;obtain⟨m,E,q,z⟩:=f.col j j1 j2;have b:p m=true:=ay ⟨j,j1,j2,z⟩;refine⟨m,?_,q,z⟩;rcases E with rfl|d|⟨r,F,a⟩
 exact .inl rfl;exact .inr (gM _ (List.mem_filter.2 ⟨d,b⟩));refine .inr (mB _ (List.mem_filter.2 ⟨?_,b⟩));have G:r<20:=by obtain⟨H,J,t⟩:=g.fr m (yX.1 a).1;by_cases e:H<r;have:=Lq (yX.1 a).2 e;unfold frs at t;rw[tH.2 this]at t;simp at t;omega
 exact List.mem_flatMap.2 ⟨r,tG.2 ⟨F,G⟩,a⟩;rcases List.mem_append.1 d with d|d<;>exact cH (List.mem_filter.1 d).2
theorem ve{S:O0}(h:Qp q G s S y=k0):∃e,s=e+1/\(∀w∈S,Bk w=k0)/\∀r,q.find? (λr=>S.any λv=>!zer v r)=some r ->
 (y=2\/(∃v∈S,un v r=k0)\/zbl q 4 S=k0)/\∀v∈S,zer v r=l0->(∀w∈S,okd w v r y=k0)/\Qp q G e (yY S v r y) (if un v r=k0 then 1 else 2)=true:=by
 cases s with
 | zero=>simp[Qp]at h
 | succ s =>
   unfold Qp at h
   rw[sq,aj,aY]at h
   refine⟨s,rfl,h.1,λr g=>?_⟩
   have c:=h.2
   rw[g]at c
   simp only[aj,cw,cS,aY]at c
   refine⟨?_,λv i j=>?_⟩
   rcases c.1 with(h|h)|h
   exact .inl<|fh h
   exact .inr<|.inl h
   exact .inr<|.inr h
   rcases c.2 v i with h|h
   rw[j]at h;cases h
   refine⟨λw k=>h.1.elim (λd=>?_)<|λd=>d w k,?_⟩
   rw[fh d];show Nat.beq (num w v r 1%1) 0=k0;rw[Nat.mod_one];rfl
   have:=h.2;cases m:un v r<;>rw[m]at this<;>simpa using this
theorem Og(g:zi7 s q)(K:Rel (X2 q) o u y A C)(P:ex2 q o u y A C)(Q:Ord o u y A C)(l:y<=D/\D<A)(m:y<=E/\E<C)(S:o D E≠0)(R:∀i j,y<=i->i<D->y<=j->j<C->o i j=0):(SW s).find? (λr=>q.any λv=>!zer v r)=some (u D):=by
 have L:=Jw s
 have⟨v,U,bv,⟨⟨n,B,c1⟩,c2⟩⟩:=K.col E m.1 m.2
 have k:fC v (u D)≠0:=λh=>S<|by rw[c1 _ l.1 l.2,h,ep]
 have f:=K.lt D l.1 l.2
 have M:v∈q:=U.resolve_left λh=>k<|by rw[h];exact lU _ f
 have p:qq s<=u D:=by by_cases h:u D<qq s;exact absurd (g v M _ h) k;omega
 have N:(q.any λv=>!zer v (u D))=true:=List.any_eq_true.2 ⟨v,M,by cases x:zer v (u D)with|false=>rfl|true=>exact absurd (tH.1 x) k⟩
 cases j0:(SW s).find? (λr=>q.any λv=>!zer v r)with
 | none=>exact absurd N<|List.find?_eq_none.1 j0 _<|tG.2 ⟨p,f⟩
 | some r =>
   congr 1
   have e:=xU j0
   have b:=tG.1<|jo j0
   have⟨w,V,x⟩:=List.any_eq_true.1 e
   have F:fC w r≠0:=λh=>by rw[tH.2 h]at x;simp at x
   have⟨j,j1,j2,⟨⟨t,W,d1⟩,d2⟩⟩:=P w V
   have G:∃i,y<=i/\i<A/\u i=r:=aC λH=>F<|d2 r b.2 λi z a I=>H ⟨i,z,a,I⟩
   have⟨i,z,a,I⟩:=G
   have c:o i j≠0:=by rw[d1 i z a,I];rcases W with rfl|rfl<;>omega
   have X:u D<=r:=by by_cases J:i<D;exact absurd (R i j z J j1 j2) c;by_cases Y:i=D;subst Y;omega;have:=Q D i l.1 om a ⟨E,m.1,m.2,S⟩ ⟨j,j1,j2,c⟩;omega
   have Z:r<=u D:=by
    have⟨_,as,bs,O,h4⟩:=List.find?_eq_some_iff_append.1 j0;by_cases hc:r<=u D;exact hc;exfalso;have d:u D∈SW s:=tG.2 ⟨p,f⟩;rw[O]at d;rcases List.mem_append.1 d with d|d
    have:=h4 _ d;rw[N]at this;simp at this;have B:(SW s).Pairwise (·<·):=List.Pairwise.drop gA;rw[O,zZ]at B;have:=B.2.1;rw[List.pairwise_cons]at this;rcases List.mem_cons.1 d with d|d
    omega;have:=this.1 _ d;omega
   omega
theorem Wq{b:X0}{v:Nat}(g:Sst o b y A C D E H)(j0:zi7 s q)(S:Rel (X2 q) o u y A C)(hE:ex2 q o u y A C)(k:v∈q)(d:∀w∈q,Bk w=k0)(I:CS o u y A E v)(W:H=1\/H=2/\∀w∈q,okd w v (u D) H=k0)(J:∀w∈yY q v (u D) H,Bk w=k0) :
 zi7 s (yY q v (u D) H)/\Rel (X2 (yY q v (u D) H)) b (λi=>u (ke y D i)) (y+1) A C/\ex2 (yY q v (u D) H) b (λi=>u (ke y D i)) (y+1) A C:=by
 have X:=Jw s
 have F:=S.lt D g.hi.1 g.hi.2
 have x:(H:Int)≠0:=by rcases W with rfl|⟨rfl,_⟩<;>decide
 have Y:∀l∈q,Bk (qR l v (u D) H)=true:=λl f=>by by_cases n:qR l v (u D) H=KZ;rw[n];exact Ws;exact J _<|sr.2 ⟨n,l,f,rfl⟩
 have p:∀l∈q,H=1\/H=2/\okd l v (u D) H=k0/\Bk (qR l v (u D) H)=true:=λl f=>W.imp id λz=>⟨z.1,z.2 l f,Y l f⟩
 refine⟨λw hw c B=>?_,⟨zbj g S.inj,λi K e=>?_,λj K e=>?_⟩,λz n=>?_⟩
 obtain⟨_,l,f,rfl⟩:=sr.1 hw;obtain⟨_,m,L,G⟩:=vg (d l f) (d v k) F (p l f);have r:=G c om;rw[j0 l f c B,j0 v k c B,ep,ep]at r;rcases Int.mul_eq_zero.1 r with h|h
 rcases L with rfl|rfl<;>omega
 rcases Int.mul_eq_zero.1 h with h|h
 exact absurd h x
 exact h
 obtain⟨M,N,_⟩:=kU g.hi (show y<i by omega) e;exact S.lt _ M N
 obtain⟨M,N,_⟩:=kU g.hj (show y<j by omega) e;obtain⟨l,xy,O,a⟩:=S.col _ M N;rcases xy with rfl|f
 refine⟨KZ,.inl rfl,Ws,⟨1,.inl rfl,λi i1 Z=>?_⟩,λc B _=>lU c B⟩;obtain⟨t,ht,he⟩:=g.eq;obtain⟨P,Q,_⟩:=kU g.hi (show y<i by omega) Z;obtain⟨⟨m,L,c1⟩,_⟩:=a;have r:=he i j om Z om e;rw[c1 _ P Q,c1 _ g.hi.1 g.hi.2,lU _<|S.lt _ P Q,lU _ F,ep,ep,ep]at r;rw[lU _<|S.lt _ P Q,ep];rcases Int.mul_eq_zero.1 r with h|h
 rcases ht with rfl|rfl<;>omega
 rcases Int.mul_eq_zero.1 h with h|h
 exact absurd h x
 exact h
 refine⟨qR l v (u D) H,?_,Y l f,Oj g S.inj S.lt I (d v k) ⟨om,e⟩ a O<|p l f⟩;by_cases n:qR l v (u D) H=KZ
 exact .inl n
 exact .inr<|sr.2 ⟨n,l,f,rfl⟩
 obtain⟨R,l,f,rfl⟩:=sr.1 n;obtain⟨j,j1,j2,a⟩:=hE l f;by_cases hj:j=E
 exfalso;subst hj;obtain⟨m,L,G⟩:=a.two I;obtain⟨K,s',U,V⟩:=vg (d l f) (d v k) F (p l f);refine R<|Uj K λc B=>?_;have r:=V c B;rw[G c B,G _ F,show fC v (u D)*(m*fC v c)-m*fC v (u D)*fC v c=0 by rw[<- fE,kZ (fC v<|u D) m];omega]at r;rcases Int.mul_eq_zero.1 r with h|h
 rcases U with rfl|rfl<;>omega
 rcases Int.mul_eq_zero.1 h with h|h
 exact absurd h x
 exact h
 obtain⟨j',k1,k2,k3⟩:=Oh g.hj j1 j2 hj;refine⟨j',om,k2,Oj g S.inj S.lt I (d v k) ⟨k1,k2⟩ (by rw[k3];exact a) (d l f)<|p l f⟩
theorem nab(h:z=1\/z=-1):z.natAbs=1:=om
theorem P2.step{k:X0}{j0:Nat}(h:P2 s y q A G o u C D E)(g:Sst o k C D E H j0 A)(S:∀i j,C<=i->i<H->C<=j->j<E->o i j=0) :
 ∃w K,P2 s w K (o H j0).natAbs G k (λi=>u (ke C H i)) (C+1) D E:=by
 obtain⟨b,p,f,t,F,a⟩:=h
 obtain⟨w,rfl,L,M⟩:=ve p
 obtain⟨_,N⟩:=M _ (Og f t F a g.hi g.hj g.nz S)
 obtain⟨v,O,P,Q⟩:=t.col j0 g.hj.1 g.hj.2
 obtain⟨⟨c,x,c1⟩,c2⟩:=Q
 have l:=c1 _ g.hi.1 g.hi.2
 have m:=t.lt H g.hi.1 g.hi.2
 have I:fC v (u H)≠0:=λh=>g.nz<|by rw[l,h,ep]
 have J:v∈q:=O.resolve_left λh=>I<|by rw[h];exact lU _ m
 have d:zer v (u H)=false:=by cases d:zer v (u H)with|false=>rfl|true=>exact absurd (tH.1 d) I
 obtain⟨R,e⟩:=N v J d
 obtain⟨_,_,B,_⟩:=ve e
 obtain⟨U,V,W⟩:=Wq g f t F J L ⟨⟨c,x,c1⟩,c2⟩ (b.imp id λz=>⟨z,R⟩) B
 have r:(if un v (u H)=k0 then 1 else 2)=(o H j0).natAbs:=by have Y:=(Fo P).2 _ m;rw[l];by_cases n:un v (u H)=k0;rw[ae n,nab<|Oi x<|yZ.1 n];rw[ac n];have X:¬(fC v (u H)=1\/fC v (u H)=-1):=λh=>n<|yZ.2 h;rcases x with rfl|rfl<;>omega
 rw[r]at e
 refine⟨w,_,?_,e,U,V,W,Ord.step a g (by rcases b with rfl|rfl<;>decide) S⟩
 rw[<- r];split<;>simp
theorem P2.dvd{j0:Nat}(h:P2 s y q A G o u C D E)(g:C<=H/\H<D)(B:C<=j0/\j0<E)(r:o H j0≠0)(l:∀i j,C<=i->i<H->C<=j->j<E->o i j=0) :
 ∀i j,C<=i->i<D->C<=j->j<E->(A:Int)∣o H j0*o i j-o i j0*o H j:=by
 obtain⟨I,n,w,p,J,K⟩:=h
 obtain⟨f',rfl,bS,L⟩:=ve n
 obtain⟨_,M⟩:=L _ (Og w p J K g B r l)
 obtain⟨v,N,O,⟨⟨c,hs,c1⟩,c2⟩⟩:=p.col j0 B.1 B.2
 have f:=p.lt H g.1 g.2
 have F:fC v (u H)≠0:=λh=>r<|by rw[c1 _ g.1 g.2,h,ep]
 have P:v∈q:=N.resolve_left λh=>F<|by rw[h];exact lU _ f
 have m:zer v (u H)=false:=by cases m:zer v (u H)with|false=>rfl|true=>exact absurd (tH.1 m) F
 obtain⟨Q,R⟩:=M v P m
 obtain⟨_,_,k,_⟩:=ve R
 intro i j x e j1 j2
 obtain⟨d,U,S,⟨⟨t,ht,d1⟩,d2⟩⟩:=p.col j j1 j2
 rw[c1 _ g.1 g.2,c1 i x e,d1 i x e,d1 _ g.1 g.2]
 rcases U with rfl|a
 rw[lU _<|p.lt i x e,lU _ f];simp
 have V:Bk (qR d v (u H) A)=true:=by by_cases m:qR d v (u H) A=KZ;rw[m];exact Ws;exact k _<|sr.2 ⟨m,d,a,rfl⟩
 obtain⟨_,W,X,b⟩:=vg S O f (I.imp id λz=>⟨z,Q d a,V⟩);have Y:=b _<|p.lt i x e;refine⟨c*t*(W*fC (qR d v (u H) A) (u i)),?_⟩;have Z:c*fC v (u H)*(t*fC d (u i))-c*fC v (u i)*(t*fC d (u H))=c*t*(fC v (u H)*fC d (u i)-fC d (u H)*fC v (u i)):=by rw[tQ];congr 1<;>ac_rfl
 rw[Z,<- Y];ac_rfl
theorem Rel.small(h:Rel P o u s y A)(d:s<=C)(f:C<y)(j1:s<=D)(j2:D<A):-2<=o C D/\o C D<=2:=by have⟨j,_,c,⟨⟨i,g,c1⟩,_⟩⟩:=h.col D j1 j2;have:=(Fo c).2 _<|h.lt C d f;grind
theorem zbg:∀(d c j0:Nat),c=s+d->s<=j0->j0<y->o c j0≠0->∃b j1,s<=b/\b<=c/\s<=j1/\j1<y/\o b j1≠0/\∀i j,s<=i->i<b->s<=j->j<y->o i j=0:=by
 intro d;induction d using Nat.strongRecOn with
 | _ d k =>intro c j0 t l n f;by_cases g:∃i j,s<=i/\i<c/\s<=j/\j<y/\o i j≠0;have⟨i,j,c1,c2,a,p,q⟩:=g;have⟨b,j1,d1,d2,r⟩:=k (i-s) om i j om a p q;exact⟨b,j1,d1,om,r⟩;grind
def SIS(k:Nat)(e:X0)(c:T0)(a n m:Nat):Prop:=(∃fr,P1 k fr e c a n m)\/(∃f S b,P2 k f S 1 b e c a n m)\/∃f S,PU k f S e c a n m
def II(k l:Nat)(Q K:Prop)(e:X0)(c:T0)(a n m:Nat):Prop:=(l=1/\(∃fr,P1 k fr e c a n m)/\K)\/∃f S b,P2 k f S l b e c a n m/\(b=l0->Q)
structure Lst (e:Nat->Nat->Int) (a n m i0 j0:Nat):Prop where
 hi:a<=i0/\i0<n
 hj:a<=j0/\j0<m
 nz:e i0 j0≠0
 min:∀i j,a<=i->i<n->a<=j->j<m->e i j≠0->(e i0 j0).natAbs<=(e i j).natAbs
 fst:∀i j,a<=i->i<i0->a<=j->j<m->e i j≠0->(e i0 j0).natAbs<(e i j).natAbs
theorem Lst.unit(h:Lst o s y A C D)(f:s<=E)(j1:E<=C)(g:s<=H)(i:H<A)(j:o E H=1\/o E H=-1):C=E/\(o C D).natAbs=1:=by
 have d:o E H≠0:=om
 have p:=h.nz;have:=h.min E H f (by have:=h.hi.2;omega) g i d;by_cases l:E<C;have:=h.fst E H f l g i d;omega;omega
def Nxt(P:(X0)->(T0)->Nat->Prop)(e:X0)(b:T0)(a n m c j0 l:Nat):Prop:=∀d,Sst e d a n m c j0 l->P d (λi=>b (ke a c i)) (a+1)
def Out(k:Nat)(e:X0)(d:T0)(a n m b j0:Nat):Prop :=
 ((e b j0).natAbs=1/\Nxt (λf c g=>SIS k f c g n m) e d a n m b j0 1) \/
   ((e b j0).natAbs=2/\∀i j,a<=i->i<n->a<=j->j<m->(e i j=0\/(e i j).natAbs=2)/\e b j0*e i j=e i j0*e b j)
theorem PU.out{k f:Nat}(h:PU k f q o u s y A)(c:Lst o s y A C D):Out k o u s y A C D:=by
 have⟨d,x,a,U⟩:=h;have V:=Jw k;cases f with
 | zero=>simp[zbl]at d
 | succ f =>
   unfold zbl at d;rw[sq,aj,aj,aY]at d;have⟨bS,l,e⟩:=d;have⟨v,xv,bv,⟨⟨n,W,c1⟩,c2⟩⟩:=a.col D c.hj.1 c.hj.2;have K:=c1 _ c.hi.1 c.hi.2;have B:=a.lt C c.hi.1 c.hi.2;have X:fC v (u C)≠0:=λh=>c.nz (by rw[K,h,ep]);have S:v∈q:=xv.resolve_left λh=>X (by rw[h];exact lU _ B);by_cases G:(o C D).natAbs=1;refine .inl ⟨G,λe' hS=>.inr (.inr ?_)⟩;have L:un v (u C)=true:=yZ.2 (by rw[K]at G;rcases W with rfl|rfl<;>omega);have M:u C∈SW k:=tG.2 ⟨by
    by_cases h:u C<qq k;exact absurd (x v S _ h) X;omega,B⟩
   rw[aY]at e;have Y:=e _ M;rw[aY]at Y;have E:=Y v S;rw[L,jU,gm]at E;have N:∀w∈yY q v (u C) 1,Bk w=true:=by
    cases f with
    | zero=>simp[zbl]at E
    | succ f=>unfold zbl at E;rw[sq,aj,aY]at E;exact E.1
   have⟨a1,a2,a3⟩:=Wq hS x a U S bS ⟨⟨n,W,c1⟩,c2⟩ (.inl rfl) N;exact⟨f,_,E,a1,a2,a3⟩;have h2:(o C D).natAbs=2:=by have:=a.small c.hi.1 c.hi.2 c.hj.1 c.hj.2;have:=c.nz;omega
   have O:(q.all λv=>(SW k).all λr=>!un v r)=true:=by
    rw[aY];intro w hw;rw[aY];intro r M;cases L:un w r with
    | false=>rfl
    | true =>
      exfalso;have H:=yZ.1 L;have⟨j,j1,j2,⟨⟨t,Z,d1⟩,d2⟩⟩:=U w hw;have P:∃i,s<=i/\i<y/\u i=r:=aC λhn=>by have:=d2 r (tG.1 M).2 λi p m Q=>hn ⟨i,p,m,Q⟩;rw[this]at H;omega
      have⟨i,p,m,Q⟩:=P;have g:=d1 i p m;rw[Q]at g;have I:o i j=1\/o i j=-1:=by rw[g];exact Oi Z H
      have:=c.min i j p m j1 j2 (by rcases I with h|h<;>rw[h]<;>decide);have:=nab I;omega
   rw[O,cond_true]at l;have J:=lX l;have R:∀j0∈q,j0=v:=λj0 F=>by
    match q,J,F,S with
    | [z],_,F,S=>simp at F S;rw[F,S]
   refine .inr ⟨h2,λi j p m j1 j2=>?_⟩;have⟨j0,xy,_,⟨⟨t,Z,d1⟩,d2⟩⟩:=a.col j j1 j2;have g:=d1 i p m;have b:=d1 _ c.hi.1 c.hi.2;refine⟨?_,?_⟩;by_cases hz:o i j=0;exact .inl hz;have:=c.min i j p m j1 j2 hz;have:=a.small p m j1 j2;exact .inr om;rcases xy with rfl|F;rw[g,b,lU _ (a.lt i p m),lU _ B];simp;rw[R j0 F]at g b;rw[g,b,K,c1 i p m];ac_rfl
theorem P2.out{k f:Nat}(h:P2 k f q 1 G o u s y A)(d:Lst o s y A C D):Out k o u s y A C D:=by
 obtain⟨r,j1,a,p,g,B,S,j0⟩:=zbg (C-s) C D (by have:=d.hi.1;omega) d.hj.1 d.hj.2 d.nz;have e:=h;obtain⟨_,i,c,z,m,E⟩:=h;have F:=d.hi;obtain⟨P,rfl,Q,n⟩:=ve i;obtain⟨l,_⟩:=n _ (Og c z m E ⟨a,om⟩ ⟨g,B⟩ S j0);rcases l with l|⟨v,H,I⟩|l
 exact absurd l dc;have w:=yZ.1 I;obtain⟨j,J,K,⟨⟨t,L,d1⟩,d2⟩⟩:=m v H;have x:o r j=1\/o r j=-1:=by rw[d1 r a om];exact Oi L w
 obtain⟨rfl,b⟩:=d.unit a p J K x;refine .inl ⟨b,λR M=>.inr<|.inl ?_⟩;obtain⟨N,O,p⟩:=e.step M j0;rw[b]at p;exact⟨N,O,_,p⟩;exact PU.out (f:=4) ⟨l,c,z,m⟩ d
theorem Good.unit1(g:Good s)(h:P1 s y o u A C D)(l:A<=E/\E<C)(j0:A<=H/\H<D)(d:o E H≠0)(p:∀i j,A<=i->i<E->A<=j->j<D->o i j=0)(f:u E<qq s):o E H=1\/o E H=-1 :=
 (g.step1 h (e':=λi j=>o E H*o (ke A E i) (ke A H j)-o (ke A E i) H*o E (ke A H j)) ⟨l,j0,d,1,.inl rfl,λi j _ _ _ _=>sp⟩ p f).2
theorem Good.later(g:Good s)(h:P1 s y o u A C D)(f:A<=E/\E<C)(l:A<=H/\H<D)(d:o E H≠0)(c:∀i j,A<=i->i<E->A<=j->j<D->o i j=0)(p:qq s<=u E):∃S,P2 s 5 S 1 (twS (SW s) 5 S) o u A C D:=by refine g.to2<|g.upto (ab _) (λi j q j0 t j1 j2=>ahead g h.2.choose_spec.2.2 f l d c i j q j0 om j1 j2) (qq s-y) y (by have:=h.1;omega) h
theorem SIS.out(g:Good s)(h:SIS s o u y A C)(c:Lst o y A C D E):Out s o u y A C D E:=by rcases h with⟨fr,h⟩|⟨f,S,b,h⟩|⟨f,S,h⟩;have⟨t,j1,j,i,l,a,r,p⟩:=zbg (D-y) D E (by have:=c.hi.1;omega) c.hj.1 c.hj.2 c.nz;have w:=c.hi;by_cases m:u t<qq s;have x:=g.unit1 h ⟨j,om⟩ ⟨l,a⟩ r p m;have⟨rfl,q⟩:=c.unit j i l a x;exact .inl ⟨q,λn j0=>.inl ⟨_,(g.step1 h j0 p m).1⟩⟩;have⟨S,z⟩:=g.later h ⟨j,om⟩ ⟨l,a⟩ r p om;exact z.out c;exact h.out c;exact h.out c
theorem SIS.small(h:SIS s o u y A C)(d:y<=D)(g:D<A)(j1:y<=E)(j2:E<C):-2<=o D E/\o D E<=2:=by rcases h with⟨fr,_,M,_,h,_⟩|⟨f,S,b,_,_,_,h,_⟩|⟨f,S,_,_,h,_⟩<;>exact h.small d g j1 j2
theorem II.small{K:Prop}(h:II s y Q K o u A C D)(d:A<=E)(g:E<C)(j1:A<=H)(j2:H<D):-2<=o E H/\o E H<=2:=by rcases h with⟨_,⟨fr,_,M,_,h,_⟩,_⟩|⟨f,S,b,⟨_,_,_,h,_⟩,_⟩<;>exact h.small d g j1 j2
theorem II.l{K:Prop}(h:II s y Q K o u A C D):y=1\/y=2:=by rcases h with⟨h,_⟩|⟨_,_,_,⟨h,_⟩,_⟩;exact .inl h;exact h
theorem II.out{K:Prop}(g:Good s)(h:II s y Q K o u A C D)(l:K->∀S,P2 s 5 S 1 (twS (SW s) 5 S) o u A C D->twS (SW s) 5 S=l0->Q)(j0:A<=E/\E<C)(z:A<=H/\H<D)(q:o E H≠0)(m:∀i j,A<=i->i<E->A<=j->j<D->o i j=0) :
 (∀i j,A<=i->i<C->A<=j->j<D->(y:Int)∣o E H*o i j-o i H*o E j)/\∀e p,(K->y=1->(o E H).natAbs=1->p)->Sst o e A C D E H y->II s (o E H).natAbs Q p e (λi=>u (ke A E i)) (A+1) C D:=by
 have r:∀{f S b},P2 s f S y b o u A C D->(b=l0->Q)->(∀i j,A<=i->i<C->A<=j->j<D->(y:Int)∣o E H*o i j-o i H*o E j)/\∀e p,(K->y=1->(o E H).natAbs=1->p)->Sst o e A C D E H y->II s (o E H).natAbs Q p e (λi=>u (ke A E i)) (A+1) C D :=
  λh c=>⟨h.dvd j0 z q m,λe p _ w=>by
   obtain⟨d,a,t⟩:=h.step w m;exact .inr ⟨d,a,_,t,c⟩⟩
 rcases h with⟨rfl,⟨fr,h⟩,n⟩|⟨f,S,b,h,c⟩
 by_cases F:u E<qq s
 refine⟨λi j _ _ _ _=>⟨_,(jL _).symm⟩,λe p x w=>.inl ?_⟩;obtain⟨G,B⟩:=g.step1 h w m F;exact⟨nab B,⟨_,G⟩,x n rfl (nab B)⟩
 obtain⟨S,t⟩:=g.later h j0 z q m om;exact r t (l n S t)
 exact r h c
theorem P2.fin(h:P2 s y q 1 G o u A C D)(x:∀i j,A<=i->i<C->A<=j->j<D->o i j=0):G=false:=by
 obtain⟨_,d,a,F,z,g⟩:=h;have n:∀m∈q,∀c,c<20->fC m c=0:=λm e c b=>by
  obtain⟨j,j1,j2,⟨⟨t,B,d1⟩,d2⟩⟩:=z m e;by_cases w:∃i,A<=i/\i<C/\u i=c;obtain⟨i,f,p,rfl⟩:=w;have:=d1 i f p;rw[x i j f p j1 j2]at this;rcases B with rfl|rfl<;>omega
  exact d2 c b λi f p k=>w ⟨i,f,p,k⟩
 cases y with
 | zero=>simp[Qp]at d
 | succ y =>
   unfold Qp at d;rw[sq,aj]at d;have S:(SW s).find? (λr=>q.any λv=>!zer v r)=none:=List.find?_eq_none.2 λr E=>by rw[cS];rintro⟨m,e,l⟩;rw[tH.2 (n m e r (tG.1 E).2)]at l;exact absurd l dc
   rw[S]at d;have:=d.2;cases G with
   | false=>rfl
   | true=>simp at this
theorem zwq:∀s,s<64->aQ s<7:=by decide +kernel
theorem zqb:lh (YG i)<=20:=by
 by_cases h:i<7;have:∀i,i<7->lh (YG i)<=20:=by decide +kernel
 exact this i h;have:YG i=[]:=by refine List.filter_eq_nil_iff.2 λs a=>?_;have:=zwq s<|List.mem_range.1 a;simp;omega
 grind
theorem zhe:(YG i).Pairwise (·<·):=List.Pairwise.filter _ gA
theorem Lp:y∈YG s↔y<64/\aQ y=s:=by simp[YG]
theorem ztm(h:q.Pairwise (·<·))(a:s<lh q)(b:y<lh q)(e:q[s]<q[y]):s<y:=by by_cases c:s<y;exact c;by_cases d:s=y;subst d;omega;have:=List.pairwise_iff_getElem.1 h y s b a om;omega
theorem zi6:-1<=lI i j/\lI i j<=1:=by simp[lI];omega
theorem zbf(a:Nat):-1<=cD i j a/\cD i j a<=1:=by unfold cD;split;exact zi6 _ _;omega
theorem zqc:∃s:Int,(s=1\/s=-1)/\∀c,c<20->fC (cod i j) c=s*cD i j c:=by
 have e:=pW 1 16 20 (cD i j)<|λ_=>1;have g:16*sD 20 (λ_=>1)=(KZ:Int):=dc
 have h:=(Om 20 (D:=λa=>1*cD i j a+16*1) λa _=>by have:=zbf i j a;omega).1;obtain⟨_,s,d,f⟩:=zhk (y:=(sD 20 (cD i j)+KZ).toNat) (D:=cD i j) (λa _=>by have:=zbf i j a;omega) om;exact⟨s,d,f⟩
def zdI(k:Nat)(L:O0)(i:Nat):Nat:=(YG k).idxOf (lg L i 0)
def Of(L H:O0)(i j:Nat):Int:=lI (lg L i 0) (lg H j 0)
theorem Good.start(g:Good s)(I:∀a b,b<64->d b=k0->a&&&b=a->d a=k0) :
 P1 s 0 (Of (cd d s 64) (cd d (s+1) 64)) (zdI s (cd d s 64)) 0 (cd d s 64).length (cd d (s+1) 64).length:=by
 have J:∀i,i<lh (cd d s 64)->lg (cd d s 64) i 0∈cd d s 64:=λi f=>by rw[lg,aN f];exact bx f
 have K:∀i,i<lh (cd d s 64)->lg (cd d s 64) i 0∈YG s:=λi f=>by have⟨o,p,L⟩:=fI.1 (J i f);exact Lp.2 ⟨o,L⟩
 have e:∀i,i<lh (cd d s 64)->zdI s (cd d s 64) i<(YG s).length:=λi f=>List.idxOf_lt_length_iff.2 (K i f)
 have m:∀i (f:i<lh (cd d s 64)),(YG s)[zdI s (cd d s 64) i]'(e i f)=lg (cd d s 64) i 0:=λi f=>lF (e i f)
 have t:∀i,i<lh (cd d s 64)->lg (YG s) (zdI s (cd d s 64) i) 0=lg (cd d s 64) i 0:=λi f=>by rw[lg,aN (e i f)];exact m i f
 have B:(cd d s 64).Pairwise (·<·):=List.Pairwise.filter _ gA
 have n:∀i l,i<l->l<lh (cd d s 64)->zdI s (cd d s 64) i<zdI s (cd d s 64) l:=λi l o p=>by refine ztm (zhe s) (e i om) (e l p) ?_;rw[m i om,m l p];have:=List.pairwise_iff_getElem.1 B i l om p o;rw[lg,aN (show i<(cd d s 64).length by omega),lg,aN p];exact this
 have M:=zqb s
 refine⟨aB _,[],by simp[lev],⟨λi l _ o _ p P=>?_,λi _ f=>by have:=e i f;omega,λj _ G=>?_⟩,λi l _ o p _ _=>n i l o p⟩
 ·by_cases h:i<l
  ·have:=n i l h p;omega
  ·by_cases N:l<i
   ·have:=n l i N o;omega
   ·omega
 ·have A:=fI.1 (show(cd d (s+1) 64).getD j 0∈cd d (s+1) 64 by rw[lg,aN G];exact bx G);generalize O:lg (cd d (s+1) 64) j 0=b at *;have u:cod s b∈zbn s:=List.mem_map.2 ⟨b,Lp.2 ⟨A.1,A.2.2⟩,rfl⟩;have⟨r,Q,C⟩:=g.fr _ u;have⟨k,H,w⟩:=zqc s b;refine⟨cod s b,.inr (.inr ⟨r,aB _,yX.2 ⟨u,C⟩⟩),g.bn _ u,⟨k,H,λi _ f=>?_⟩,λc u D=>?_⟩
  ·have o:=e i f;rw[w _ om,<- fE,sgm H,jL];unfold cD Of;rw[ae o,t i f,O]
  ·rw[w c u];have:cD s b c=0:=by
    unfold cD;split
    next q =>
     unfold lI;split
     next x =>
      exfalso;have y:lg (YG s) c 0∈YG s:=by rw[lg,aN q];exact bx q
      have E:=I _ b A.1 A.2.1 x;have z:lg (YG s) c 0∈cd d s 64:=fI.2 ⟨(Lp.1 y).1,E,(Lp.1 y).2⟩;have⟨i,f,F⟩:=bV z;refine D i (aB _) f ?_;unfold zdI;rw[lg,aN f,mW,F];rw[lg,aN q,mW];exact List.Nodup.idxOf_getElem ((zhe s).imp λh=>om) c q
     ·rfl
    ·rfl
   rw[this,ep]
section
variable {p:Nat}[NeZero p]
def jn(a b j:Nat):Nat:=if j=a then b else if j=b then a else j
theorem mN(b:Nat):jn i j (jn i j b)=b:=by unfold jn;grind
theorem zhd(c:s<C)(d:y<C)(e:A<C):jn s y A<C:=by unfold jn;grind
theorem Lm(G:Nat->Fin p):gY i G=SL (lc i) G:=by simp[zdP];exact fg i λj a=>by grind
theorem zqa(c:s<A)(d:y<A)(G:Nat->Fin p):gY A (λj=>G (jn s y j))=gY A G:=by rw[Lm,Lm,<- ztw _ _ G];refine zhl G<|(dn ?_ dC).2 λx=>?_;exact List.pairwise_map.2<|List.nodup_range.imp λ{x m}h e=>h<|(mN s y x).symm.trans<|(cV _ e).trans<|mN s y m;rw[dX,eJ];exact⟨λ⟨m,f,g⟩=>g ▸ zhd c d (List.mem_range.1 f),λh=>⟨jn s y x,List.mem_range.2<|zhd c d h,mN s y x⟩⟩
def Ko(m:Nat)(e:X0)(i:Nat)(x:Nat->Fin p):Fin p:=gY m λj=>kv p (e i j)*x j
def Wp(e:X0)(a n m:Nat)(x:Nat->Fin p):Prop:=On (λj=>a<=j/\j<m) x/\∀i,a<=i->i<n->Ko m e i x=0
theorem Oe(a:lM (p:Int)=k0){c:Int}(h:c%(p:Int)≠0):∃q:Fin p,kv p c*q=1:=by refine fld a λb=>h ?_;have:=cV (λx:Fin p=>(x.val:Int)) b;simp only[rB]at this;simp_all
theorem Fl(I:lM (p:Int)=k0){F:X0}(P:Sst o F s y A C D E)(h0:o C D%(p:Int)≠0)(hl:(E:Int)%(p:Int)≠0)(h:kN (Wp (p:=p) F (s+1) y A) H):kN (Wp (p:=p) o s y A) H:=by
 have⟨t,ht,he⟩:=P.eq
 have⟨q,hq⟩:=Oe I h0
 have Q:=P.hj
 have r:=P.hi
 let l:(Nat->Fin p)->Fin p:=λx=>-q*gY A λj=>kv p (o C (jn s D j))*x j
 let a:(Nat->Fin p)->Nat->Fin p:=λx j=>if j=D then l x else x (jn s D j)
 have u:∀x,On (λj=>s+1<=j/\j<A) x->∀i,Ko A o i (a x)=kv p (o i D)*l x+gY A λj=>kv p (o i (jn s D j))*x j:=λx d i=>by
  unfold Ko;rw[<- zqa (show s<A by omega) Q.2 λj=>kv p (o i j)*a x j];have S:x s=0:=d s om;have e1:∀j,j<A->kv p (o i (jn s D j))*a x (jn s D j)=(if j=s then kv p (o i D)*l x else 0)+kv p (o i (jn s D j))*x j:=λj g=>by
   by_cases f:j=s;subst f;have:jn j D j=D:=by unfold jn;rw[ae rfl]
   rw[this,ae rfl,S];show kv p (o i D)*(if D=D then l x else _)=_;rw[ae rfl];grind;have k:jn s D j≠D:=λh=>f (by have:=mN s D j;rw[h]at this;rw[<- this];unfold jn;split;omega;rw[ae rfl]);show kv p (o i (jn s D j))*(if jn s D j=D then l x else x (jn s D (jn s D j)))=_;rw[ac k,mN,ac f];grind
  rw[fg A e1,oZ];congr 1;rw[Lm,<- vo _ (λj=>j==s) (lc A) (λj _ g=>by rw[ac (ss g)])];have U:(lc A).filter (λj=>j==s)=[s]:=by
   have w:((lc A).filter λj=>j==s).Perm [s]:=(dn (List.nodup_range.filter _) sp).2 λx=>by simp;omega
   exact List.perm_singleton.1 w
  rw[U,Ls,zmU,ae rfl];grind
 have J:∀x,On (λj=>s+1<=j/\j<A) x->Ko A o C (a x)=0:=λx d=>by rw[u x d C];show kv p (o C D)*(-q*_)+_=0;generalize (gY A λj=>kv p (o C (jn s D j))*x j)=j0;grind
 have K:∀x,On (λj=>s+1<=j/\j<A) x->∀i,s<i->i<y->Ko A o (ke s C i) (a x)=q*(kv p t*(kv p E*Ko A F i x)):=λx d i w m=>by
  rw[u x d];show kv p (o (ke s C i) D)*(-q*_)+_=_;have e2:kv p t*(kv p E*Ko A F i x)=kv p (o C D)*(gY A λj=>kv p (o (ke s C i) (jn s D j))*x j)-kv p (o (ke s C i) D)*gY A λj=>kv p (o C (jn s D j))*x j:=by
   unfold Ko;rw[<- mq,<- mq,<- mq,<- mq];have e3:∀j0 B e:Fin p,j0+B=e->j0=e-B:=λj0 B e h=>by rw[<- h];grind
   refine e3 _ _ _ ?_;rw[<- oZ];refine fg A λj g=>?_;by_cases f:s<j;have V:jn s D j=ke s D j:=by unfold jn ke;rw[ac om]
   have:=he i j w m f g;rw[V];have e4:kv p t*(kv p E*kv p (F i j))=kv p (o C D)*kv p (o (ke s C i) (ke s D j))-kv p (o (ke s C i) D)*kv p (o C (ke s D j)):=by rw[tJ,tJ,tJ,tJ,zhv,this]
   generalize kv p (F i j)=b at *;generalize kv p (o (ke s C i) (ke s D j))=B at *;generalize kv p (o C (ke s D j))=e at *;generalize kv p (o (ke s C i) D)=n at *;grind;rw[d j om];grind
  rw[e2];generalize (gY A λj=>kv p (o (ke s C i) (jn s D j))*x j)=j0 at *;generalize (gY A λj=>kv p (o C (jn s D j))*x j)=B at *;generalize kv p (o (ke s C i) D)=n at *;grind
 have⟨tq,a0⟩:=Oe I (c:=t) (by
  have:=jy I;have L:(p:Int)=2\/(p:Int)=3\/(p:Int)=5:=by simpa[lM,or_assoc]using I
  rcases ht with rfl|rfl<;>rcases L with L|L|L<;>rw[L]<;>decide)
 have⟨lq,a1⟩:=Oe I hl
 refine h.image a (λx c d M G=>funext λj=>?_) λc=>⟨λM=>?_,λ⟨x,d,G⟩=>?_⟩
 by_cases f:j=s
 rw[d.1 j om,M.1 j om]
 have:=congrFun G (jn s D j);have k:jn s D j≠D:=λh=>f (by have:=mN s D j;rw[h]at this;rw[<- this];unfold jn;split;omega;rw[ae rfl]);simp only[a]at this;rwa [ac k,ac k,mN]at this
 let x:Nat->Fin p:=λj=>if j=s then 0 else c (jn s D j)
 have d:On (λj=>s+1<=j/\j<A) x:=λj g=>by
  show(if j=s then 0 else c (jn s D j))=0;split;rfl;have:jn s D j=j:=by unfold jn;rw[ac om,ac om]
  rw[this];exact M.1 j om
 have N:∀j,j≠D->a x j=c j:=λj g=>by show(if j=D then l x else(if jn s D j=s then 0 else c (jn s D (jn s D j))))=_;have k:jn s D j≠s:=λh=>g (by have:=mN s D j;rw[h]at this;rw[<- this];unfold jn;rw[ae rfl]);rw[ac g,ac k,mN]
 have z:a x=c:=by
  have W:=J x d;have X:=M.2 C r.1 r.2;unfold Ko at W X;have Y:gY A (λj=>kv p (o C j)*a x j)+-1*gY A (λj=>kv p (o C j)*c j)=kv p (o C D)*(a x D-c D):=by
   rw[<- mq,<- oZ,Lm,<- vo _ (λj=>j==D) (lc A) (λj _ g=>by rw[N j (ss g)];grind)];have U:(lc A).filter (λj=>j==D)=[D]:=by
    have w:((lc A).filter λj=>j==D).Perm [D]:=(dn (List.nodup_range.filter _) sp).2 λx=>by simp;omega
    exact List.perm_singleton.1 w
   rw[U,Ls,zmU];grind
  rw[W,X]at Y;funext j;by_cases g:j=D;subst g;have:q*(kv p (o C j)*(a x j-c j))=0:=by rw[<- Y];grind
  grind;exact N j g
 refine⟨x,⟨d,λi w m=>?_⟩,z⟩;have Z:=K x d i om m;have⟨g1,g2,_⟩:=kU r (show s<i by omega) m;rw[z,M.2 _ g1 g2]at Z;generalize Ko A F i x=R at *;have:R=lq*(tq*(kv p (o C D)*(q*(kv p t*(kv p E*R))))):=by grind
 rw[this,<- Z];grind
 subst G;refine⟨λj g=>?_,λi w m=>?_⟩
 show(if j=D then l x else x (jn s D j))=0;rw[ac om];have:jn s D j=j:=by unfold jn;rw[ac om,ac om]
 rw[this];exact d.1 j om
 by_cases O:i=C
 subst O;exact J x d.1
 have⟨i',k1,k2,k3⟩:=Oh r w m O;rw[<- k3,K x d.1 i' k1 k2,d.2 i' om k2];grind
theorem mn(e:X0)(r:s<=A)(h:∀i j,s<=i->i<y->s<=j->j<A->e i j%(p:Int)=0):kN (Wp (p:=p) e s y A) (p^(A-s)):=by
 have k:=zh (p:=p) ((lc<|A-s).map λj=>s+j)<|List.pairwise_map.2<|List.nodup_range.imp λh m=>h om;rw[aG,bp]at k;refine k.congr λx=>⟨λf=>?_,λf=>?_⟩;have b:On (λj=>s<=j/\j<A) x:=λj d=>f j λl=>d<|by
  obtain⟨c,c1,c2⟩:=List.mem_map.1 l;have:=List.mem_range.1 c1;omega
 refine⟨b,λi o q=>jp A λj d=>?_⟩;by_cases g:s<=j;have:kv p (e i j)=0:=by rw[<- zg,WA,h i j o q g d];rfl
 rw[this];grind;rw[b j om];grind;intro j d;refine f.1 j λt=>d<|List.mem_map.2 ⟨j-s,List.mem_range.2 om,om⟩
theorem Uh(e:X0)(a n m:Nat):∃c,kN (Wp (p:=p) e a n m) c:=have⟨c,_,h⟩:=(zh _ dC).part λx b j d=>b.1 j λh=>d<|List.mem_range.2 h.2;⟨c,h⟩
end
theorem zmC:lM ((2:Nat):Int)=true:=dc
theorem zmD:lM ((3:Nat):Int)=true:=dc
theorem Od(h:z.natAbs=1):z%((2:Nat):Int)≠0:=om
theorem wM(h:z.natAbs=1\/z.natAbs=2):z%((3:Nat):Int)≠0:=om
def K2(e:X0)(a n m r:Nat):Prop:=kN (Wp (p:=2) e a n m) (2^(m-r))
def K3(e:X0)(a n m r:Nat):Prop:=kN (Wp (p:=3) e a n m) (3^(m-r))
theorem pw2(h:2^(A-s)=2^(A-y))(c:s<=A)(d:y<=A):s=y:=by have:=(tP<|om).1 h;omega
theorem pw3(h:3^(A-s)=3^(A-y))(c:s<=A)(d:y<=A):s=y:=by have:=(tP<|om).1 h;omega
theorem zvw:∀(f:Nat)(S:O0)(e:X0)(b:T0)(a:Nat),a<=A->zi7 s S->Rel (X2 S) e b a y A->ex2 S e b a y A->twS (SW s) f S=l0->∃p,p<=A/\K2 e a y A p/\K3 e a y A p:=by
 intro f;induction f with
 | zero=>intro S e b a _ _ _ _ h;simp[twS]at h
 | succ f I =>
   intro S e b a l q x E h;unfold twS at h;rw[sq,ir,eZ,aY]at h;obtain⟨J,h⟩:=h;cases z:(SW s).find? (λr=>S.any λv=>un v r)with
   | none =>
     rw[z]at h;have n:S=[]:=by cases S with|nil=>rfl|cons=>simp at h
     subst n;have F:∀i j,a<=i->i<y->a<=j->j<A->e i j=0:=λi j c d j1 j2=>by
      obtain⟨m,K,_,⟨⟨t,_,d1⟩,_⟩⟩:=x.col j j1 j2;rcases K with rfl|o
      rw[d1 i c d,lU _ (x.lt i c d),ep];simp at o
     exact⟨a,l,mn e l λi j c d j1 j2=>by rw[F i j c d j1 j2];rfl,mn e l λi j c d j1 j2=>by rw[F i j c d j1 j2];rfl⟩
   | some r =>
     rw[z]at h;dsimp only at h;have k:=tG.1 (jo z);cases o:S.find? (λv=>un v r)with
     | none=>rw[o]at h;simp at h
     | some v =>
       rw[o]at h;have G:=jo o;have L:=xU o;have u:=yZ.1 L;obtain⟨j0,j1,j2,H⟩:=E v G;obtain⟨⟨t,M,d1⟩,d2⟩:=id H;have B:∃i,a<=i/\i<y/\b i=r:=aC λN=>by have:=d2 r k.2 λi c d O=>N ⟨i,c,d,O⟩;rw[this]at u;omega
       obtain⟨g,c,d,rfl⟩:=B;have C:e g j0=1\/e g j0=-1:=by rw[d1 g c d];exact Oi M u
       have n:Sst e (λi j=>e g j0*e (ke a g i) (ke a j0 j)-e (ke a g i) j0*e g (ke a j0 j)) a y A g j0 1:=⟨⟨c,d⟩,⟨j1,j2⟩,by rcases C with h|h<;>rw[h]<;>decide,1,.inl rfl,λi j _ _ _ _=>sp⟩;have D:∀w∈yY S v (b g) 1,Bk w=true:=by
        cases f with
        | zero=>simp[twS]at h
        | succ f=>simp only at h;unfold twS at h;rw[sq,ir,eZ,aY]at h;exact h.1
       obtain⟨P,Q,R⟩:=Wq n q x E G J H (.inl rfl) D;obtain⟨p,U,V,W⟩:=I _ _ _ (a+1) om P Q R h;exact⟨p,U,Fl zmC n (Od (nab C)) dc V,Fl zmD n (wM (.inl (nab C))) dc W⟩
theorem kN.uniq2(h:K2 o s y A C)(b:K2 o s y A D)(c:C<=A)(d:D<=A):C=D:=pw2 (kN.uniq h b) c d
theorem kN.uniq3(h:K3 o s y A C)(b:K3 o s y A D)(c:C<=A)(d:D<=A):C=D:=pw3 (kN.uniq h b) c d
structure SWq (k n m r2 r3:Nat) (a:Nat) (e:Nat->Nat->Int):Prop where
 an:a<=n
 am:a<=m
 si:∃lam,SIS k e lam a n m
 k2:K2 e a n m r2
 k3:K3 e a n m r3
theorem SWq.small(h:SWq s y A C D E o){j:Nat}(d:E<=H)(f:H<y)(j1:E<=j)(j2:j<A):-2<=o H j/\o H j<=2:=have⟨g,l⟩:=h.si;l.small d f j1 j2
theorem zdH(am:s<=A)(h:C<=A)(k:D<=A)(l:K2 o s y A C)(c:K3 o s y A D)(g:∀i j,s<=i->i<y->s<=j->j<A->o i j=0):C=s/\D=s :=
 ⟨kN.uniq2 l (mn o am λi j d f j1 j2=>by grind) h am,kN.uniq3 c (mn o am λi j d f j1 j2=>by grind) k am⟩
theorem K2.back{b:X0}(h:K2 o s y A H)(g:Sst o b s y A C D E)(i:o C D%((2:Nat):Int)≠0)(j:(E:Int)%((2:Nat):Int)≠0):K2 b (s+1) y A H:=by have⟨c,f⟩:=Uh (p:=2) b (s+1) y A;have:=(Fl zmC g i j f).uniq h;subst this;exact f
theorem K3.back{b:X0}(h:K3 o s y A H)(g:Sst o b s y A C D E)(i:o C D%((3:Nat):Int)≠0)(j:(E:Int)%((3:Nat):Int)≠0):K3 b (s+1) y A H:=by have⟨c,f⟩:=Uh (p:=3) b (s+1) y A;have:=(Fl zmD g i j f).uniq h;subst this;exact f
theorem SWq.go{j0:Nat}(g:Good s)(h:SWq s y A C D E o)(w:C<=A)(x:D<=A)(p:Lst o E y A H j0) :
 ((o H j0).natAbs=1/\∀q,Sst o q E y A H j0 1->SWq s y A C D (E+1) q) \/
   ((o H j0).natAbs=2/\(∀i j,E<=i->i<y->E<=j->j<A->(o i j=0\/(o i j).natAbs=2)/\o H j0*o i j=o i j0*o H j)/\C=E/\D=E+1):=by
 obtain⟨e,z⟩:=h.si
 have t:=p.hi
 have u:=p.hj
 rcases z.out g p with⟨c,d⟩|⟨c,d⟩
 exact .inl ⟨c,λq f=>⟨om,om,⟨_,d q f⟩,h.k2.back f (Od c) dc,h.k3.back f (wM<|.inl c) dc⟩⟩
 refine .inr ⟨c,d,?_,?_⟩
 exact kN.uniq2 h.k2 (mn o h.am λi j r b j1 j2=>by rcases(d i j r b j1 j2).1 with h|h<;>omega) w h.am
 have f:Sst o (λ_ _=>0) E y A H j0 1:=⟨t,u,p.nz,1,.inl rfl,λi j r b j1 j2=>by
  obtain⟨a,B,_⟩:=kU t r b;obtain⟨m,l,_⟩:=kU u j1 j2;rw[(d _ _ a B m l).2];simp⟩
 exact kN.uniq3 (h.k3.back f (wM<|.inr c) dc) (mn _ om λi j _ _ _ _=>rfl) x om
theorem SWq.stop(h:SWq s y A C D E o)(d:C<=A)(f:D<=A)(g:∀i j,E<=i->i<y->E<=j->j<A->o i j=0):C=E/\D=E:=zdH h.am d f h.k2 h.k3 g
structure IW (k n m r2 r3:Nat) (l a:Nat) (e:Nat->Nat->Int):Prop where
 an:a<=n
 am:a<=m
 ii:∃lam,II k l (r2=r3) (K2 e a n m r2) e lam a n m
 k3:K3 e a n m r3
theorem IW.small(h:IW s y A C D E H o){i j:Nat}(d:H<=i)(f:i<y)(j1:H<=j)(j2:j<A):-2<=o i j/\o i j<=2:=have⟨g,e⟩:=h.ii;e.small d f j1 j2
theorem IW.l(h:IW s y A C D E H o):E=1\/E=2:=have⟨d,f⟩:=h.ii;f.l
theorem zwp(a:z≠0)(h:-2<=z/\z<=2):z.natAbs=1\/z.natAbs=2:=om
theorem l3(h:s=1\/s=2):(s:Int)%((3:Nat):Int)≠0:=om
theorem IW.go{b j0:Nat}(g:Good s)(h:IW s y A C D E H o)(z:C<=A)(l:D<=A)(q:H<=b/\b<y)(r:H<=j0/\j0<A)(c:o b j0≠0)(B:∀i j,H<=i->i<b->H<=j->j<A->o i j=0) :
 (∀i j,H<=i->i<y->H<=j->j<A->(E:Int)∣o b j0*o i j-o i j0*o b j)/\∀f,Sst o f H y A b j0 E->IW s y A C D (o b j0).natAbs (H+1) f:=by
 obtain⟨a,t⟩:=h.ii
 have k:=t.l
 have u:=t.small q.1 q.2 r.1 r.2
 obtain⟨n,p⟩:=t.out g (λw S F G=>by
  obtain⟨_,_,d,m,I,_⟩:=F;obtain⟨N,e,J,K⟩:=zvw 5 S o a H h.am d m I G;rw[kN.uniq2 w J z e,kN.uniq3 h.k3 K l e]) q r c B
 refine⟨n,λf x=>⟨om,om,⟨_,p f _ (λw L M=>?_) x⟩,h.k3.back x (wM<|zwp c u)<|l3 k⟩⟩
 subst L
 exact K2.back w x (Od M) dc
theorem IW.stop(h:IW s y A C D E H o)(r:C<=A)(a:D<=A)(g:∀i j,H<=i->i<y->H<=j->j<A->o i j=0):D=H/\(E=1->C=D):=by
 have q:=kN.uniq3 h.k3 (mn o h.am λi j l p j1 j2=>by grind) a h.am;refine⟨q,λt=>?_⟩;obtain⟨u,w⟩:=h.ii;rcases w with⟨_,_,x⟩|⟨f,S,b,e,z⟩
 rw[q];exact kN.uniq2 x (mn o h.am λi j l p j1 j2=>by grind) r h.am;subst t;exact z<|e.fin g
def cz(n m:Nat)(e:X0):fG:=(lc n).map λi=>(lc m).map λj=>e i j
def Bj(e:X0)(a b:Nat)(x:Int):X0:=λi j=>if i=a/\j=b then x else e i j
def ua(a b i:Nat):Nat:=if i=a then b else if i=b then a else i
theorem Hw(c:s<C)(d:y<C)(h:A<C):ua s y A<C:=by unfold ua;grind
theorem mb(h:s<A):ua s y A=ke s y A:=by simp[ua,ke];omega
section
variable {n m:Nat}{e e':X0}
theorem fw:lh (cz n m e)=n:=by simp[cz]
theorem zbd(h:s<n):lg (cz n m e) s []=(lc m).map (e s):=by simp[cz,h]
theorem cr(h:s<n):lh (lg (cz n m e) s [])=m:=by rw[zbd h];simp
theorem dz{i j:Nat}(h:i<n)(a:j<m):lg (lg (cz n m e) i []) j 0=e i j:=by rw[zbd h];grind
theorem dV(h:∀i j,i<n->j<m->e i j=e' i j):cz n m e=cz n m e' :=
 cO λi a=>cO λj b=>h i j (List.mem_range.1 a)<|List.mem_range.1 b
theorem Wo(c:lh B=n)(a:∀i,i<n->lh (lg B i [])=m)(h:∀i j,i<n->j<m->lg (lg B i []) j 0=e i j):B=cz n m e:=by
 refine bE (by rw[fw,c]) λi d l=>?_;have b:i<n:=om;have f:lg B i []=B[i]:=by simp[lg,d]
 have a:=a i b;have h:=λj g=>h i j b g;rw[f]at a h;simp only[cz,aM,bG];refine bE (by simp[a]) λj k o=>?_;rw[aM,bG,<- h j om,fU 0 k]
theorem vc(f:s<n)(x:Int):(cz n m e).set s ((lg (cz n m e) s []).set y x)=cz n m (Bj e s y x):=by refine Wo (by rw[de,fw]) (λi c=>?_) λi j c g=>?_;rw[qE];split;rw[de,cr f];exact cr c;rw[qE];unfold Bj;split;rename_i h;rw[Fu,cr f,dz f g,<- h.1];by_cases d:y=j;rw[ae ⟨d,g⟩,ae ⟨rfl,d.symm⟩];rw[ac λh=>d h.1,ac λh=>d h.2.symm];rename_i h;rw[dz c g,ac λk=>h ⟨k.1.symm,by rw[fw];exact c⟩]
theorem zbe(k:s<n)(l:y<n):wJ (cz n m e) s y=cz n m λi j=>e (ua s y i) j:=by
 have f:∀i,i<n->lg (wJ (cz n m e) s y) i []=lg (cz n m e) (ua s y i) []:=λi c=>by unfold wJ ua;rw[qE,qE,de,fw];grind
 refine Wo (by rw[jP,fw]) (λi c=>?_) λi j c o=>?_;rw[f i c];exact cr<|Hw k l c;rw[f i c];exact dz (Hw k l c) o
end
end Go.Abs
