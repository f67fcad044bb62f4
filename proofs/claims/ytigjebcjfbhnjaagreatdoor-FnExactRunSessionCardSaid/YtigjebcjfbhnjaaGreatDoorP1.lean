/- DERIVED by an AI agent. -/
import Derived.Test.YtigjebcjfbhnjaaGreatDoorA11
set_option linter.all false
namespace Go.Abs
open Bool renaming true→k0,false→l0
open Option renaming some→n0,none→o0
open Go renaming IntKind→D0
open List renaming range→lc,replicate→ld,getD→lg,length→lh
variable (b:N0)(t:P0)(w:V0)(d:Int)(M:fG)(L:O0)(y:Nat)(h:O0)(o:Nat)(x:Int){u B N H I J O:Nat}{q:X0}{z:V0}{A:O0}{C:T0}{D:Int}{E:N0}{F:P0}{G:fG}{P:l1}{K:Bool}
theorem aP{b:Type}{a:List b}(d:b)(h:u<lh a):lg a u d∈a:=by
 grind
theorem fU{b:Type}{a:List b}(d:b)(h:u<lh a):lg a u d=a[u]:=by grind
theorem eX{a:Type}{b:List a}{x:a}(d:a)(h:x∈b):∃i,i<lh b/\b.getD i d=x:=by obtain⟨i,c,rfl⟩:=bV h;exact⟨i,c,fU d c⟩
theorem bj{b:Type}{a:List b}(d:b)(h:u<lh a):a.take (u+1)=a.take u++[lg a u d]:=by simp_all
theorem kp{b:Type}{a:List b}(d:b)(h:u<lh a):a.drop u=lg a u d::a.drop (u+1):=by simp_all
theorem ak{i n:Nat}(h:i<n)(a:n<=9223372036854775807):D0.i64.wrap ((i:Int)+1)=((i+1:Nat):Int):=by rw[aF om om];rfl
theorem oc:((y:Int)-1).toNat=y-1:=om
def aQ(n:Nat):Nat:=if h:n=0 then 0 else n%2+aQ (n/2)
termination_by n
decreasing_by omega
theorem kq:aQ 0=0:=by simp[aQ]
theorem Fe(h:u≠0):aQ u=u%2+aQ (u/2):=by rw[aQ];grind
theorem zp2:aQ y<=y:=by
 induction y using Nat.strongRecOn with
 | ind y a =>by_cases h:y=0;simp_all[kq];rw[Fe h];grind
def CJ(n:Nat):Nat:=n%2+n/2%2+n/4%2+n/8%2+n/16%2+n/32%2
theorem yS(h:u<64):aQ u=CJ u:=by
 have a:∀s,aQ s=s%2+aQ (s/2):=λs=>by by_cases b:s=0;grind;exact Fe b
 rw[a u,a<|u/2,a<|u/2/2,a<|u/2/2/2,a<|u/2/2/2/2,a<|u/2/2/2/2/2];have c:u/2/2/2/2/2/2=0:=om;simp[c,kq,CJ];omega
theorem zme(h:u<9223372036854775808):fu .i64 (u:Int) 1=((u%2:Nat):Int):=by
 have e:(BitVec.ofInt 64 u&&&BitVec.ofInt 64 1).toNat=u%2:=sp
 show D0.i64.wrap (((BitVec.ofInt 64 _&&&BitVec.ofInt 64 1).toNat))=_;rw[e,aF om om]
theorem za4:wH .i64 (y:Int) 1=((y/2:Nat):Int):=by simp[wH,D0.bits];grind
theorem eh(h:u<=6):jl .i64 1 (u:Int)=((2^u:Nat):Int):=have:∀m:Fin 7,jl _ 1 m.val=2^m.val:=dc;this ⟨u,om⟩
theorem mJ(h:u<9223372036854775808):D0.u64.wrap (u:Int)=(u:Int):=by simp[D0.wrap,D0.bits];omega
def di(n s:Int):Bool:=decide (0<=n/\n<=6/\0<=s/\s<2^n.toNat)
theorem iM:(2:Int)^((y:Int)).toNat=((2^y:Nat):Int):=sp
theorem dx{m:Nat}(h:m<=6):2^m<=64:=have:∀k:Fin 7,2^k.val<=64:=dc;this ⟨m,om⟩
theorem sj{s:Int}(h:di D s=k0):0<=s/\s<64:=by simp[di]at h;obtain⟨a,c,d,b⟩:=h;obtain⟨m,rfl⟩:=ca a;rw[iM]at b;have:=dx (m:=m) om;omega
theorem uY(b:u<9223372036854775808):(BitVec.ofInt 64 (u:Int)).toNat=u:=by grind
theorem ej{a b:Nat}(c:a<9223372036854775808)(d:b<9223372036854775808):fu .i64 (a:Int) (b:Int)=((a&&&b:Nat):Int):=by show D0.i64.wrap (((BitVec.ofInt 64 _&&&BitVec.ofInt 64 _).toNat))=_;rw[kG,uY c,uY d];have:a&&&b<=a:=bI;exact aF om om
theorem zmu(c:u<9223372036854775808)(d:B<9223372036854775808):u|||B<9223372036854775808:=cu (n:=63) c d
theorem zi4{a b:Nat}(c:a<9223372036854775808)(d:b<9223372036854775808):a ^^^ b<9223372036854775808:=gR (n:=63) c d
theorem nQ(c:u<9223372036854775808)(d:B<9223372036854775808):EX .i64 (u:Int) (B:Int)=((u|||B:Nat):Int):=by show D0.i64.wrap (((BitVec.ofInt 64 _|||BitVec.ofInt 64 B).toNat))=_;rw[BitVec.toNat_or,uY c,uY d];have:=zmu c d;exact aF om om
theorem fv{a b:Nat}(c:a<9223372036854775808)(d:b<9223372036854775808):gU .i64 (a:Int) (b:Int)=((a ^^^ (a&&&b):Nat):Int):=by
 have h:BitVec.ofInt 64 a&&&~~~ BitVec.ofInt 64 b=BitVec.ofInt 64 a ^^^ (BitVec.ofInt 64 a&&&BitVec.ofInt 64 b):=by grind
 show D0.i64.wrap (((BitVec.ofInt 64 a&&&~~~ BitVec.ofInt 64 b).toNat))=_;rw[h,BitVec.toNat_xor,kG,uY c,uY d];have e:a&&&b<=a:=bI;have:=zi4 (b:=a&&&b) c om;exact aF om om
theorem gW{a b:Nat}:a ^^^ (a&&&b)=0↔a&&&b=a:=by constructor;intro h;have:=cV (· ^^^ (a&&&b)) h;grind;grind
theorem zba{b:Int}(c:0<=D/\D<64)(d:0<=b/\b<64):gU .i64 D b=0↔fu .i64 D b=D:=by obtain⟨D,rfl⟩:=ca c.1;obtain⟨b,rfl⟩:=ca d.1;rw[fv om om,ej om om];have:=@gW D b;omega
theorem zbb{d:Type}[DecidableEq d]:∀{l m:List d},l.Nodup->(∀x∈l,x∈m)->lh m<=lh l->l.Perm m:=by
 intro l;induction l with
 | nil=>intro m _ _ h;have:m=[]:=aL (ss h);subst this;exact .nil
 | cons a l j =>
   intro m k f n;have o:a∈m:=f a sp;have b:=List.nodup_cons.1 k;have g:m.Perm (a::m.erase a):=List.perm_cons_erase o;have p:l.Perm (m.erase a):=by grind
   exact(List.Perm.cons a p).trans g.symm
theorem zhb{b:Int}(c:0<=D/\D<64)(d:0<=b/\b<64):0<=fu .i64 D b/\fu .i64 D b<64:=by obtain⟨D,rfl⟩:=ca c.1;obtain⟨b,rfl⟩:=ca d.1;rw[ej om om];have:D&&&b<=D:=bI;omega
def rg:Nat->Nat->Nat
 | _,0=>1
 | 0,_+1=>0
 | n+1,k+1=>rg n k+rg n (k+1)
theorem oV:rg y 0=1:=by cases y<;>rfl
theorem Wl:∀(n k:Nat),n<k->rg n k=0:=by
 intro n;induction n with
 | zero=>intro k h;cases k with
   | zero=>omega
   | succ k=>rfl
 | succ n a=>intro k h;cases k with
   | zero=>omega
   | succ k=>rw[rg,a k om,a _ om]
theorem zmn:∀(n k:Nat),rg n k*(n-k)=rg n (k+1)*(k+1):=by
 intro n;induction n with
 | zero=>intro k;simp[rg]
 | succ n a =>
   intro k;cases k with
   | zero =>have:=a 0;rw[oV]at this ⊢;rw[rg,oV];simp at this ⊢;omega
   | succ k =>
     by_cases g:n<k+1;rw[Wl (n+1) (k+2) om,show n+1-(k+1)=0 by omega];simp;rw[rg,rg];have e:n-k=(n-(k+1))+1:=om;grind
theorem zmo:∀(n k:Nat),rg n k<=2^n:=by
 intro n;induction n with
 | zero=>intro k;cases k<;>simp[rg]
 | succ n a =>
   intro k;cases k with
   | zero=>rw[oV];grind
   | succ k=>rw[rg];grind
theorem zp7:∀(n k:Nat),k<=n->rg n (n-k)=rg n k:=by
 intro n;induction n with
 | zero=>simp
 | succ n a =>
   intro k h;cases k with
   | zero =>rw[Nat.sub_zero,oV,rg,Wl n (n+1) om];have:=a 0 om;simp_all[oV]
   | succ k =>
     rw[show n+1-(k+1)=n-k by omega];rcases bf k n with b|b
     rw[show n-k=(n-(k+1))+1 by omega,rg,rg,a _ om,show n-(k+1)+1=n-k by omega,a k om];omega;have:k=n:=om;subst this;rw[pi,oV,rg,Wl k (k+1) om];have:=a 0 om;simp_all[oV]
theorem zmp{a n i:Nat}(b:n<=57)(c:a<=2^n):a*(n-i)<9223372036854775808:=by have d:2^n<=2^57:=aV om b;have e:a*(n-i)<=2^57*57:=zX om om;omega
theorem zmq{n k:Nat}(a:n<=57):rg n k<9223372036854775808:=by have b:2^n<=2^57:=aV om a;have:=zmo n k;omega
theorem zmr{n i:Nat}(a:n<=57)(b:i<n):D0.i64.wrap ((n:Int)-(i:Int))=((n-i:Nat):Int):=by rw[aF om om];omega
theorem zms{n i:Nat}(a:n<=57)(b:i<n):D0.i64.wrap (((rg n i:Nat):Int)*((n-i:Nat):Int))=((rg n (i+1)*(i+1):Nat):Int):=by have h:=zmp (i:=i) a<|zmo n i;rw[<- xX,aF om om,zmn]
theorem zmt{n i:Nat}(a:n<=57):D0.i64.wrap (((rg n (i+1)*(i+1):Nat):Int).tdiv ((i+1:Nat):Int))=((rg n (i+1):Nat):Int):=by
 have h:=zmq (k:=i+1) a;have e:((rg n (i+1)*(i+1):Nat):Int).tdiv ((i+1:Nat))=((rg n (i+1))):=by rw[xX];exact Int.mul_tdiv_cancel _ om
 rw[e,aF om om]
def cd(f:V0)(k m:Nat):O0:=(lc m).filter λs=>f s&&aQ s==k
def co(f:V0):O0:=(lc 7).flatMap λj=>cd f j 64
def oG(f:V0)(k m:Nat):O0:=(lc k).flatMap (λj=>cd f j 64)++cd f k m
theorem Hv:oG w y 64=oG w (y+1) 0:=by simp[oG,bW,cd]
theorem Oa:oG w 7 0=co w:=by simp[oG,co,cd]
theorem uX:cd w y (o+1)=cd w y o++(if(w o&&aQ o==y)=k0 then [o]else []):=by unfold cd;rw[bW];grind
theorem za9(h:(z B&&aQ B==u)=k0):oG z u (B+1)=oG z u B++[B]:=by unfold oG;rw[uX,ae h,cP]
theorem Lj(h:(z B&&aQ B==u)=l0):oG z u (B+1)=oG z u B:=by unfold oG;rw[uX,ac<|by grind,bh]
theorem Ob:∀(k m:Nat),lh (oG w k m)<=64*k+m:=by
 intro k;induction k with
 | zero =>intro m;have:=aO (λs=>w s&&aQ s==0)<|lc m;simp_all[oG,cd]
 | succ k b =>intro m;have a:=b 64;have c:=aO (λs=>w s&&aQ s==k+1)<|lc m;rw[Hv]at a;unfold oG at a ⊢;simp[bp]at a c ⊢;unfold cd at *;omega
theorem jA{s:Nat}(h:s<64):aQ s<=6:=by
 have a:∀t,t<64->CJ t<=6:=dc
 rw[yS h];grind
theorem cR:u∈co z↔u<64/\z u=true:=by simp[co,cd];constructor;grind;rintro⟨a,b⟩;exact⟨aQ u,by have:=jA a;omega,a,b,rfl⟩
def rx(s t:Nat):Prop:=aQ s<aQ t\/(aQ s=aQ t/\s<t)
theorem wK:(co w).Pairwise rx:=by rw[co,List.pairwise_flatMap];refine⟨λj _=>?_,?_⟩;unfold cd;refine List.Pairwise.imp_of_mem ?_<|List.Pairwise.filter _ gA;intro a b c d e;simp at c d;exact .inr ⟨om,e⟩;refine List.Pairwise.imp ?_ gA;intro a b i x g y h;have g:=(List.mem_filter.1 g).2;have h:=(List.mem_filter.1 h).2;simp at g h;exact .inl om
theorem qD:¬rx u u:=by simp[rx]
theorem ordN_len:lh (co w)<=448:=by have:=Ob w 7 0;simp_all[Oa]
def bA(w:V0):Nat->Nat|0=>0|k+1=>if w k=k0 then bA w k|||2^k else bA w k
theorem mM:∀(k s:Nat),(bA w k).testBit s=(decide (s<k)&&w s):=by
 intro k;induction k with
 | zero=>simp[bA]
 | succ k a =>unfold bA;grind
theorem dj:∀k,bA w k<2^k:=by
 intro k;induction k with
 | zero=>simp[bA]
 | succ k a =>unfold bA;split;exact cu om<|bN om om;omega
theorem Lk(b:u<18446744073709551616):(BitVec.ofInt 64 (u:Int)).toNat=u:=by grind
theorem dm(b:u<18446744073709551616):D0.u64.wrap (u:Int)=(u:Int):=by simp[D0.wrap,D0.bits,D0.signed];omega
theorem Ca(c:u<18446744073709551616)(d:B<18446744073709551616):EX .u64 (u:Int) (B:Int)=((u|||B:Nat):Int):=by show D0.u64.wrap (((BitVec.ofInt 64 _|||BitVec.ofInt 64 B).toNat))=_;rw[BitVec.toNat_or,Lk c,Lk d];exact dm<|cu (n:=64) c d
theorem zdD(c:u<18446744073709551616)(d:B<18446744073709551616):fu .u64 (u:Int) (B:Int)=((u&&&B:Nat):Int):=by show D0.u64.wrap (((BitVec.ofInt 64 u&&&BitVec.ofInt 64 _).toNat))=_;rw[kG,Lk c,Lk d];have:u&&&B<=u:=bI;exact dm om
theorem yU(a:u<64):jl .u64 1 (u:Int)=((2^u:Nat):Int):=by
 unfold jl;have e:min (u:Int).toNat D0.u64.bits=u:=by simp[D0.bits];omega
 rw[e,jL];have h:2^u<2^64:=bN om a;exact dm om
theorem ztj(c:B<64):wH .u64 (u:Int) (B:Int)=((u >>> B:Nat):Int):=by
 unfold wH;have e:min (B:Int).toNat D0.u64.bits=B:=by simp[D0.bits];omega
 rw[e];have b:2^B=((2^B:Nat):Int):=sp;rw[b,nb,mz _<|lE _,Int.natCast_ediv]
theorem zmm(c:u<18446744073709551616)(b:B<64):(fu .u64 (wH .u64 (u:Int) (B:Int)) 1==1)=u.testBit B:=by
 rw[ztj b];have d:u >>> B<=u:=Nat.shiftRight_le _ _;rw[show(1:Int)=(1:Nat) from rfl,zdD om om,Nat.testBit];grind
def iF(f:V0)(g:Bool)(s:Nat):Bool:=(lc 64).all λt=>!(f t&&((if g=k0 then s&&&t==s else t&&&s==t)&&t != s))
def dI(f:V0)(g:Bool):O0:=(co f).filter (iF f g)
theorem so:iF z l0 u=k0↔∀t,t<64->z t=k0->t&&&u=t->t=u:=by
 unfold iF;grind
theorem ku:iF z k0 u=k0↔∀t,t<64->z t=k0->u&&&t=u->t=u:=by
 unfold iF;grind
theorem ry{s t:Nat}(b:s<64)(c:t<64)(h:t&&&s=t)(a:t≠s):aQ t<aQ s:=by
 have d:∀t,t<64->∀s,s<64->(t&&&s==t&&t != s)=k0->CJ t<CJ s:=dc
 rw[yS b,yS c];grind
theorem pV(d:u&&&B=u)(e:B&&&N=B):u&&&N=u:=by grind
theorem Oc:∀(n s:Nat),aQ s<=n->s<64->iF z l0 s=l0->∃t,t<64/\z t=k0/\t&&&s=t/\t≠s/\iF z l0 t=true:=by
 intro n;induction n with
 | zero =>
   intro s r i c;have:¬ ∀t,t<64->z t=k0->t&&&s=t->t=s:=λh=>by rw[so.2 h]at c;grind
   exact absurd (λt b A d=>aC λj=>by have:=ry i b d j;omega) this
 | succ n w =>
   intro s r i c;have:¬ ∀t,t<64->z t=k0->t&&&s=t->t=s:=λh=>by rw[so.2 h]at c;grind
   have⟨t,b⟩:=Classical.not_forall.1 this;have k:t<64/\z t=k0/\t&&&s=t/\t≠s:=by grind
   have⟨g,a,l,m⟩:=k;cases o:iF z l0 t with
   | true=>grind
   | false =>have B:=ry i g l m;grind
theorem zdE{q:O0}(h:co z=A++u::q):(∃t,t∈A.filter (iF z l0)/\t&&&u=t)↔iF z l0 u=false:=by
 have c:=wK z;rw[h]at c;have m:u<64/\z u=true:=cR.1 (by rw[h];simp);have a:=List.pairwise_append.1 c;constructor;rintro⟨t,r,d⟩;have g:=(List.mem_filter.1 r).1;have i:t<64/\z t=true:=cR.1 (by rw[h];simp[g]);have j:t≠u:=λe=>by have:=a.2.2 t g u sp;rw[e]at this;exact qD this
 cases k:iF z l0 u with
 | false=>rfl
 | true=>exact absurd (so.1 k t i.1 i.2 d) j
 intro k;have⟨t,n,s,o,p,w⟩:=Oc (aQ u) u (ab _) m.1 k;have x:=ry m.1 n o p;have b:t∈co z:=cR.2 ⟨n,s⟩;rw[h]at b;refine⟨t,List.mem_filter.2 ⟨?_,w⟩,o⟩;rcases List.mem_append.1 b with b|b
 exact b;rcases List.mem_cons.1 b with b|b;exact absurd b p;have:=(List.pairwise_cons.1 a.2.1).1 t b;unfold rx at this;omega
def bl(l:O0):N0:=l.map λs:Nat=>(s:Int)
theorem cI:bl (L++h)=bl L++bl h:=by simp[bl]
theorem jZ:[(y:Int)]=bl [y]:=rfl
theorem ap:lh (bl L)=lh L:=by simp[bl]
theorem bX(h:u<lh A):lg (bl A) u 0=((lg A u 0:Nat):Int):=by simp_all[bl]
theorem zmk(c:B<64):wH .i64 (u:Int) (B:Int)=((u >>> B:Nat):Int):=by
 unfold wH;have e:min (B:Int).toNat D0.i64.bits=B:=by simp[D0.bits];omega
 rw[e];have b:2^B=((2^B:Nat):Int):=sp;rw[b,nb,mz _<|lE _,Int.natCast_ediv]
theorem CL(c:u<9223372036854775808)(b:B<64):(fu .i64 (wH .i64 (u:Int) (B:Int)) 1==1)=u.testBit B:=by
 rw[zmk b];have d:u >>> B<=u:=Nat.shiftRight_le _ _;rw[show(1:Int)=(1:Nat) from rfl,ej om om,Nat.testBit];grind
theorem zvv{a n j:Nat}(c:a<2^n)(h:a.testBit j=k0):j<n:=by rcases bf j n with b|b;omega;rw[eK<|cp c<|aV om b]at h;grind
def pts(s:Nat):O0:=(lc 6).filter λi=>s.testBit i
def adj(a:N0)(i j:Nat):Bool:=a.any λe=>e.toNat.testBit i&&(e.toNat.testBit j&&decide (i≠j))
def XQ(a:N0)(i:Nat):Nat:=bA (adj a i) 6
theorem zml:XQ b y<64:=dj _ 6
theorem Wj(j:∀x∈b,x.toNat<64):(XQ b y).testBit o=adj b y o:=by
 rw[XQ,mM];cases h:adj b y o with
 | false=>simp
 | true =>have⟨e,c,h⟩:=List.any_eq_true.1 h;simp[aj]at h;simp[zvv (n:=6) (j e c) h.2.1]
theorem zp6{k i:Nat}(d:k<lh E)(c:∀x∈E,x.toNat<64)(h:(lg E k 0).toNat.testBit i=k0):XQ (E.take (k+1)) i=XQ (E.take k) i|||((lg E k 0).toNat ^^^ ((lg E k 0).toNat&&&2^i)):=by apply bB;intro j;rw[bq,Wj _ _ _<|λx b=>c x<|jK b,Wj _ _ _<|λx b=>c x<|jK b,eS,bQ];unfold adj;rw[bj 0 d];grind
theorem zti(b:u<lh E)(h:(lg E u 0).toNat.testBit B=l0):XQ (E.take (u+1)) B=XQ (E.take u) B:=by unfold XQ;congr 1;funext j;unfold adj;rw[bj 0 b];grind
def fK(t:P0)(i:Nat):Nat:=(lg t.data.toList i 0).toNat
theorem zth:fK t y<256:=UInt8.toNat_lt _
def pU(t:P0)(b:Nat):Nat->Q0×Nat
 | 0=>([],0)
 | i+1=>if fK t i=b then((pU t b i).1++[t.extract (pU t b i).2 i],i+1)else pU t b i
def dO(t:P0)(b:Nat):Q0:=(pU t b t.size).1++[t.extract (pU t b t.size).2 t.size]
theorem uW(h:fK F B=u):pU F u (B+1)=((pU F u B).1++[F.extract (pU F u B).2 B],B+1):=by rw[pU,ae h]
theorem Fj(h:¬fK F B=u):pU F u (B+1)=pU F u B:=by rw[pU,ac h]
theorem Li:∀i,(pU t y i).2<=i/\(pU t y i).1.length<=i:=by
 intro i;induction i with
 | zero=>simp[pU]
 | succ i a =>by_cases h:fK t i=y;simp[uW h];omega;rw[Fj h];omega
def zmi(t:P0):Bool:=decide (1<=t.size)&&decide (t.size<=6)&&!(t.toList==(⟨#[45]⟩:P0).toList)&&!(t.toList==(⟨#[]⟩:P0).toList) &&
 (lc t.size).all (λi=>decide (97<=fK t i)&&decide (fK t i<=102))&&(lc t.size).all (λi=>decide (i=0)||decide (fK t (i-1)<fK t i))
structure OkSet (t:ByteArray):Prop where
 lo:1<=t.size
 hi:t.size<=6
 dash:(t.toList==(⟨#[45]⟩:ByteArray).toList)=false
 empty:(t.toList==(⟨#[]⟩:ByteArray).toList)=false
 letter:∀i,i<t.size->97<=fK t i/\fK t i<=102
 rise:∀i,i<t.size->0<i->fK t (i-1)<fK t i
theorem zmj(h:zmi F=k0):OkSet F:=by unfold zmi at h;simp only[aj,bT,bC,aY,eJ,cw]at h;have⟨⟨⟨⟨⟨a,b⟩,c⟩,d⟩,e⟩,f⟩:=h;exact⟨a,b,c,d,e,λi g j=>(f i g).resolve_left om⟩
def oU(t:P0)(k:Nat):Nat:=(lc k).foldl (λs i=>s|||2^(fK t i-97)) 0
theorem AE:oU t (y+1)=oU t y|||2^(fK t y-97):=by simp[oU,bW]
theorem rN:oU t 0=0:=rfl
def pz(new a:N0)(j:Nat):N0:=new.take j++a.drop j
theorem qB(a:N0):pz b a 0=a:=rfl
theorem tE{new old:N0}(h:lh new=lh old):pz new old (lh old)=new:=by simp[pz,<- h]
theorem mm{a:N0}(h:lh E=lh a)(j:Nat):lh (pz E a j)=lh a:=by simp[pz];omega
theorem Fi{a:N0}(h:lh E=lh a)(c:u<=B):lg (pz E a u) B 0=lg a B 0:=by
 unfold pz;grind
theorem tF{a:N0}(h:lh E=lh a)(b:u<lh a):(pz E a u).set u (lg E u 0)=pz E a (u+1):=by
 unfold pz;have c:lh (E.take u)=u:=by grind
 rw[lW _ _ om,c,pi,tm b,bj 0<|om,cP];rfl
theorem Lg{c:Type}(l:List c)(i:Nat)(a b:c):(l.set i a).set i b=l.set i b:=sp
theorem lL:M.set y (lg M y [])=M:=by
 by_cases h:y<lh M;simp_all;rw[nL om]
theorem eO(h:u<lh G)(r:N0):lg (G.set u r) u []=r:=by grind
theorem il(h:¬u=B)(r:N0):lg (G.set u r) B []=lg G B []:=by grind
def lM(p:Int):Bool:=p==2||p==3||p==5
theorem zg6:lM D=k0↔D=2\/D=3\/D=5:=by simp[lM,or_assoc]
theorem jy(h:lM D=k0):2<=D/\D<=5:=by rcases zg6.1 h with rfl|rfl|rfl<;>omega
def nP(p r:Int):Int->Nat->Int|_,0=>0|b,n+1=>if r*b%p=1 then b else nP p r (b+1) n
def sk(p a:Int):Int:=nP p (a%p) 1 (p-1).toNat
theorem zdB:∀(n:Nat)(b:Int),0<=b->b+n<=d->0<=nP d x b n/\(nP d x b n<d\/nP d x b n=0):=by
 intro n;induction n with
 | zero=>simp[nP]
 | succ n a =>unfold nP;grind
theorem zg7(b:lM D=k0)(a:Int):0<=sk D a/\sk D a<=4:=by have:=jy b;have⟨c,d⟩:=zdB D (a%D) (D-1).toNat 1 om om;unfold sk;omega
def Gy(p b:Int)(r:N0):N0:=r.map λx=>x*b%p
theorem jO(r:N0):lh (Gy d x r)=lh r:=by simp[Gy]
theorem uT(h:u<lh E):lg (Gy d x E) u 0=lg E u 0*x%d:=by simp[Gy,h]
def Rg(p f:Int)(piv r:N0):N0:=(lc (lh r)).map λj=>(lg r j 0-f*piv.getD j 0)%p
theorem CK(piv r:N0):lh (Rg d x piv r)=lh r:=by simp[Rg]
theorem oT{piv r:N0}(h:u<lh r):lg (Rg d x piv r) u 0=(lg r u 0-x*piv.getD u 0)%d:=by simp[Rg,lg,h]
def Res(p:Int)(r:N0):Prop:=∀j,0<=lg r j 0/\r.getD j 0<p
theorem zdC(b:0<D)(h:∀j,j<lh E->0<=lg E j 0/\E.getD j 0<D):Res D E:=λj=>by
 grind
theorem zp4(a:0<D)(b:Int)(r:N0):Res D (Gy D b r):=zdC a λj c=>by rw[jO]at c;rw[uT D b c];exact⟨jr _ om,ji _ a⟩
theorem zp5(a:0<D)(f:Int)(piv r:N0):Res D (Rg D f piv r):=zdC a λj b=>by rw[CK]at b;rw[oT D f b];exact⟨jr _ om,ji _ a⟩
theorem zmg{r:N0}(h:Res D r):Rg D 0 E r=r:=by
 refine bE (CK _ _ _ _) λj a b=>?_;have c:=oT D 0 (piv:=E) b;have d:=h j;rw[xp,jI,jH d.1 d.2]at c;have e:lg (Rg D 0 E r) j 0=(Rg D 0 E r)[j]:=by simp[lg,a]
 have f:lg r j 0=r[j]:=by simp[lg,b]
 rw[<- e,<- f,c]
structure MatOk (p:Int) (n:Nat) (M:fG):Prop where
 len:∀i,i<M.length->(M.getD i []).length=n
 res:∀i,i<M.length->Res p (M.getD i [])
def yT(p:Int)(a b:Nat)(M:fG):fG:=M.set a (Gy p (sk p (lg (lg M a []) b 0)) (lg M a []))
def oF(p:Int)(a b:Nat)(M:fG)(i:Nat):N0:=if i=a then M.getD i []else Rg p (lg (lg M i []) b 0) (lg M a []) (lg M i [])
def mK(p:Int)(a b:Nat)(M:fG)(n:Nat):fG:=(lc (lh M)).map λi=>if i<n then oF p a b M i else M.getD i []
def od(p:Int)(a b:Nat)(M:fG):fG:=mK p a b (yT p a b M) (lh M)
theorem oA(M:fG):lh (yT d y o M)=lh M:=by simp[yT]
theorem jz(M:fG)(n:Nat):lh (mK d y o M n)=lh M:=by simp[mK]
theorem uU(h:B<lh G):lg (mK d y o G u) B []=if B<u then oF d y o G B else G.getD B []:=by simp[mK,h]
theorem Ue(M:fG):mK d y o M 0=M:=by refine bE (jz _ _ _ _ _) λi a b=>?_;simp[mK,b]
theorem zg8(n:Nat)(h:y<lh G):lg (mK d y o G n) y []=lg G y []:=by rw[uU d y o h];split;rw[oF,ae rfl];rfl
theorem AD(h:B<lh G)(c:u<=B):lg (mK d y o G u) B []=lg G B []:=by rw[uU d y o h,ac om]
theorem uV(h:u<lh G):(mK d y o G u).set u (oF d y o G u)=mK d y o G (u+1):=by
 refine bE (by simp[jz]) λi a b=>?_;simp[mK];grind
theorem gV(M:fG):lh (od d y o M)=lh M:=by simp[od,jz,oA]
theorem Wg{p:Int}(b:0<p){n at' col:Nat}(h:MatOk p n G)(c:at'<lh G):MatOk p n (yT p at' col G):=by constructor;intro i a;rw[oA]at a;unfold yT;by_cases e:at'=i;subst e;rw[eO a,jO];exact h.len _ a;rw[il e];exact h.len _ a;intro i a;rw[oA]at a;unfold yT;by_cases e:at'=i;subst e;rw[eO a];exact zp4 b _ _;rw[il e];exact h.res _ a
theorem Lh{p:Int}(d:0<p)(h:MatOk p u G)(c:H<lh G):lh (oF p B N G H)=u/\Res p (oF p B N G H):=by unfold oF;split;exact⟨h.len H c,h.res H c⟩;exact⟨by rw[CK];exact h.len H c,zp5 d _ _ _⟩
theorem zg9(d:0<D)(h:MatOk D u G):MatOk D u (mK D B N G H):=by constructor;intro i a;rw[jz]at a;rw[uU D B N a];split;exact(Lh d h a).1;exact h.len i a;intro i a;rw[jz]at a;rw[uU D B N a];split;exact(Lh d h a).2;exact h.res i a
theorem Uf{p:Int}(a:0<p){n at' col:Nat}(h:MatOk p n G)(b:at'<lh G):MatOk p n (od p at' col G):=zg9 a<|Wg a h b
def wJ(M:fG)(a b:Nat):fG:=(M.set a (lg M b [])).set b (lg M a [])
theorem jP:lh (wJ M y o)=lh M:=by simp[wJ]
theorem za7:wJ M y o=wJ M o y:=by unfold wJ;by_cases h:y=o;grind;rw[List.set_comm _ _ h]
theorem Wh(h:MatOk D u G)(j:B<lh G)(k:N<lh G):MatOk D u (wJ G B N):=by
 have d:∀(Q:N0->Prop),(∀i,i<lh G->Q (lg G i []))->∀i,i<lh G->Q (lg (wJ G B N) i []):=by unfold wJ;grind
 exact⟨λi c=>d (λr=>lh r=u) h.len i<|by rwa [jP]at c,λi c=>d _ h.res i<|by rwa [jP]at c⟩
def fV(M:fG)(b:Nat):Nat->Nat->Nat|a,0=>a|a,n+1=>if(lg M a []).getD b 0=0 then fV M b (a+1) n else a
theorem NZ:∀(n a:Nat),a<=fV M y a n/\fV M y a n<=a+n:=by
 intro n;induction n with
 | zero=>simp[fV]
 | succ n c =>unfold fV;grind
def gI(p:Int)(M:fG)(a:Nat)(piv:O0):fG×O0 :=
 if fV M a (lh piv) (lh M-lh piv)=M.length then(M,piv)else(od p (lh piv) a (wJ M (lh piv) (fV M a (lh piv) (lh M-lh piv))),piv++[a])
def oe(p:Int):fG->O0->Nat->Nat->fG×O0
 | M,piv,_,0=>(M,piv)
 | M,piv,a,n+1=>if (lh piv)<M.length then oe p (gI p M a piv).1 (gI p M a piv).2 (a+1) n else(M,piv)
theorem sn:(gI d M y h).1.length=lh M:=by unfold gI;split;rfl;simp[gV,jP]
theorem za8:∀(n:Nat)(M:fG)(piv:O0)(a:Nat),(oe d M piv a n).1.length=lh M:=by
 intro n;induction n with
 | zero=>intro M piv a;rfl
 | succ n b =>intro M piv a;unfold oe;split;rw[b,sn];rfl
theorem zmh:∀(n:Nat)(M:fG)(piv:O0)(a:Nat),lh piv<=lh M->(oe d M piv a n).2.length<=lh M:=by
 intro n;induction n with
 | zero=>exact λM piv a h=>h
 | succ n b =>
   intro M piv a h;unfold oe;split;have:=b (gI d M a piv).1 (gI d M a piv).2 (a+1)<|by
    rw[sn];unfold gI;grind
   rwa [sn]at this;omega
theorem Ht(h:¬L.length<lh M):oe d M L y o=(M,L):=by
 cases o with
 | zero=>rfl
 | succ o=>simp[oe,h]
def nw(p:Int)(M:fG):fG:=M.map λr=>r.map λx=>x%p
def iQ(p:Int)(M:fG):Nat:=(oe p (nw p M) [] 0 (lg M 0 []).length).2.length
theorem qC:lh (nw d M)=lh M:=by simp[nw]
theorem Hu:lg (nw d M) y []=(lg M y []).map λx=>x%d:=by by_cases h:y<lh M;simp[nw,h];simp[nw,h]
theorem Wi{p:Int}(c:0<p)(h:∀i,i<lh G->lh (lg G i [])=u):MatOk p u (nw p G):=by
 constructor;intro i b;rw[qC]at b;rw[Hu];grind;intro i b;rw[Hu];refine zdC c λj d=>?_;have:lg ((lg G i []).map λx=>x%p) j 0=lg (lg G i []) j 0%p:=by grind
 rw[this];exact⟨jr _ om,ji _ c⟩
theorem mL{p:Int}(h:0<=D):D.tmod p=D%p:=mA h
theorem zha(b:0<x):(d.tmod x+x).tmod x=d%x:=by
 have c:0<=d.tmod x+x:=by have:=Int.lt_tmod_of_pos d b;omega
 rw[mL c];simp[Int.tmod_def]
theorem Oo{g:V0}(b:B<=64)(h:∀s,s<64->z s=g s):cd z u B=cd g u B:=by refine eM λs a=>?_;grind
theorem mo{g:V0}(h:∀s,s<64->z s=g s):co z=co g:=by unfold co;rw[funext λj=>Oo (ab _) h]
def ao(a:N0)(s:Nat):Bool:=a.any λx=>x.toNat&&&s==s
theorem eT:ao E u=k0↔∃x∈E,x.toNat&&&u=u:=by simp[ao]
def oY(f:V0):Nat->Nat|0=>0|m+1=>if f m=k0 then max (oY f m) (aQ m+1)else oY f m
def cv(f:V0):Nat:=oY f 64
theorem zqn:∀m,m<=64->oY w m<=7:=by
 intro m;induction m with
 | zero=>simp[oY]
 | succ m a =>intro b;unfold oY;have:=jA (s:=m) om;grind
theorem eD:cv w<=7:=zqn w 64<|ab _
theorem rz:∀(m s:Nat),s<m->z s=k0->aQ s+1<=oY z m:=by
 intro m;induction m with
 | zero=>simp
 | succ m b =>unfold oY;grind
theorem AH{f:V0}:∀(m:Nat),0<oY f m->∃s,s<m/\f s=k0/\aQ s+1=oY f m:=by
 intro m;induction m with
 | zero=>simp[oY]
 | succ m c =>intro h;unfold oY at h ⊢;grind
theorem zdM{g:V0}:∀m,m<=64->(∀s,s<64->z s=g s)->oY z m=oY g m:=by
 intro m;induction m with
 | zero=>intro _ _;rfl
 | succ m a=>unfold oY;grind
theorem st{f:V0}{k:Nat}(h:cv f<=k):cd f k 64=[]:=by rw[cd,iO];intro s a b;simp at b;have:=rz 64 s (List.mem_range.1 a) b.1;unfold cv at h;omega
theorem fI:N∈cd z u B↔N<B/\z N=k0/\aQ N=u:=by simp[cd]
theorem fc(a:u<=64):lh (cd w y u)<=64:=by unfold cd;grind
theorem Jx:(co w).filter (λs=>aQ s==y)=cd w y 64:=by
 unfold co;rw[List.filter_flatMap];have a:∀j,(cd w j 64).filter (λs=>aQ s==y)=if j=y then cd w y 64 else []:=by intro j;unfold cd;rw[ou];by_cases e:j=y;grind;rw[ac e,iO];intro s _ c;simp at c;omega
 simp only[a];by_cases d:y<7;have:∀n,(lc n).flatMap (λj=>if j=y then cd w y 64 else [])=if y<n then cd w y 64 else []:=by
  intro n;induction n with
  | zero=>simp
  | succ n g =>rw[bW,fO,g];by_cases a:y<n;rw[ae a,ae om];simp;intro h;omega;grind
 rw[this 7,ae d];have i:=eD w;rw[st (k:=y) om];simp
def zf(l:O0)(k:Nat):Nat:=lh (l.filter λs=>aQ s==k)
def Jy:O0->Nat|[]=>0|s::l=>max (aQ s+1) (Jy l)
def rA(l:O0)(n:Nat):N0:=(lc n).map λk=>(zf l k:Int)
theorem oB:lh (rA L y)=y:=by simp[rA]
theorem vn(h:B<u):lg (rA L u) B 0=(zf L B:Int):=by simp[rA,h]
theorem zmP:Jy (L++[y])=max (Jy L) (aQ y+1):=by
 induction L with
 | nil=>rfl
 | cons a L b=>simp[Jy,b]
theorem Un:zf (L++[y]) o=zf L o+if aQ y=o then 1 else 0:=by unfold zf;grind
theorem zi9(h:Jy L<=u):zf L u=0:=by
 rw[zf,List.length_eq_zero_iff,iO];intro s c b;have:∀L:O0,s∈L->aQ s+1<=Jy L:=by
  intro L;induction L with
  | nil=>simp
  | cons a L d =>
    unfold Jy;grind
 grind
theorem zja(h:Jy L<=u):rA L u++[0]=rA L (u+1):=by simp_all[rA,bW,zi9]
theorem zmQ(h:aQ y<o):(rA L o).set (aQ y) ((zf L (aQ y):Int)+1)=rA (L++[y]) o:=by refine bE (by simp[oB]) λk a b=>?_;simp[rA,Un];grind
theorem zmR:Jy (co w)=cv w:=by
 have g:∀(l:O0)(n:Nat),(∀s∈l,aQ s+1<=n)->Jy l<=n:=by
  intro l n;induction l with
  | nil=>simp[Jy]
  | cons a l b =>intro h;have:=h a sp;have:=b λs c=>h s (by grind);unfold Jy;omega
 have i:∀(l:O0)(s:Nat),s∈l->aQ s+1<=Jy l:=by
  intro l s;induction l with
  | nil=>simp
  | cons a l b =>
    unfold Jy;grind
 have k:=g _ (cv w) λs c=>have⟨d,e⟩:=cR.1 c;rz 64 s d e
 by_cases j:0<cv w;have⟨s,d,e,m⟩:=AH 64 j;have:=i _ s (cR.2 ⟨d,e⟩);unfold cv at *;omega;omega
theorem zmS{l:O0}{k:Nat}:Jy (l.take k)<=Jy l:=by
 induction l generalizing k with
 | nil=>simp
 | cons a l b =>
   cases k with
   | zero=>simp[Jy]
   | succ k=>simp[Jy];grind
def gc(f:V0):N0:=rA (co f) (cv f)
theorem eb:lh (gc w)=cv w:=oB _ _
theorem lN{k:Nat}(h:k<cv w):lg (gc w) k 0=((cd w k 64).length:Int):=by rw[gc,vn _ h,zf,Jx]
def lI(a b:Nat):Int:=if a&&&b=a then(if aQ (b&&&(b-a-1))%2=0 then 1 else -1)else 0
def fy(l h:O0):fG:=l.map λa=>h.map λb=>lI a b
theorem gX:lh (fy L h)=lh L:=by simp[fy]
theorem lO{h:O0}(a:u<lh A):lg (fy A h) u []=h.map λb=>lI (lg A u 0) b:=by simp[fy,a]
theorem Oq:∀i,i<lh (fy L h)->lh (lg (fy L h) i [])=(lg (fy L h) 0 []).length:=λi a=>by rw[gX]at a;rw[lO a,lO om];simp
theorem Ot:lh (lg (fy L h) 0 [])<=lh h:=by by_cases a:0<lh L;rw[lO a];simp;simp_all[fy]
def kM(f:V0)(p:Int)(k:Nat):Nat:=if k=0\/cv f<=k then 0 else iQ p (fy (cd f (k-1) 64) (cd f k 64))
def ed(f:V0)(p:Int):N0:=(lc (cv f)).map λk=>((cd f k 64).length:Int)-kM f p k-kM f p (k+1)
theorem df:lh (ed w d)=cv w:=by simp[ed]
theorem pX(h:u<cv w):lg (ed w d) u 0=((cd w u 64).length:Int)-kM w d u-kM w d (u+1):=by simp[ed,h]
theorem qS:kM w d y<=64:=by unfold kM;split;omega;have:=zmh d (lg (fy (cd w (y-1) 64)<|cd w y 64) 0 []).length (nw d<|fy (cd w (y-1) 64)<|cd w y 64) [] 0 sp;have a:=fc w (y-1)<|ab 64;rw[qC,gX]at this;unfold iQ;omega
theorem zdN{g:V0}(h:∀s,s<64->z s=g s):cv z=cv g:=zdM 64 (ab _) h
theorem zdO{g:V0}(p:Int)(h:∀s,s<64->z s=g s):ed z p=ed g p:=by have b:∀k,cd z k 64=cd g k 64:=λk=>Oo (ab _) h;simp[ed,kM,zdN h,b]
theorem zmT:∀s,s<64->∀t,t<64->t&&&s=t->t≠0->∀u,u<t->u&&&s=u->u<=(t-1)&&&s:=by
 have h:((lc 64).all λs=>(lc 64).all λt=>(t&&&s != t)||(t==0)||(lc t).all λu=>(u&&&s != u)||decide (u<=(t-1)&&&s))=true:=by decide +kernel
 intro s b t c d e u f g;have:=List.all_eq_true.1 (List.all_eq_true.1 h s<|List.mem_range.2 b) t<|List.mem_range.2 c;grind
theorem zbp:∀a,a<64->∀b,b<64->a&&&b=a->a<=b/\b ^^^ (a&&&b)=b-a:=dc
def sD:Nat->(U0)->Int|0,_=>0|n+1,D=>D 0+32*sD n λa=>D (a+1)
def dg(y a:Nat):Nat:=Nat.mod (Nat.div y (Nat.pow 32 a)) 32
theorem Um:dg y o=y/32^o%32:=rfl
def fC(y a:Nat):Int:=(dg y a:Int)-16
def KZ:Nat:=16*((32^20-1)/31)
theorem pW(x y:Int):∀(n:Nat)(f g:U0),sD n (λa=>x*f a+y*g a)=x*sD n f+y*sD n g:=by
 intro n;induction n with
 | zero=>simp[sD]
 | succ n b =>simp[sD];grind
theorem vl:∀(n:Nat){f g:U0},(∀a,a<n->f a=g a)->sD n f=sD n g:=by
 intro n;induction n with
 | zero=>intro f g _;rfl
 | succ n b =>simp[sD];grind
theorem Om:∀(n:Nat){D:U0},(∀a,a<n->0<=D a/\D a<32)->0<=sD n D/\sD n D<32^n:=by
 intro n;induction n with
 | zero=>simp[sD]
 | succ n b =>intro D h;have⟨c,d⟩:=b λa e=>h (a+1) om;have f:=h 0 om;simp[sD];omega
theorem zhh:∀(n:Nat){f g:U0},(∀a,a<n->0<=f a/\f a<32)->(∀a,a<n->0<=g a/\g a<32)->sD n f=sD n g->∀a,a<n->f a=g a:=by
 intro n;induction n with
 | zero=>intro f g _ _ _ a b;omega
 | succ n e =>
   intro f g c d h a b;simp only[sD]at h;have i:=c 0 om;have j:=d 0 om;cases a with
   | zero=>omega
   | succ a =>exact e (f:=λa=>f<|a+1) (g:=λa=>g<|a+1) (λa b=>c (a+1) om) (λa b=>d (a+1) om) om a om
theorem zql:dg y (o+1)=dg (y/32) o:=by simp[Um,fm,Gs,Nat.div_div_eq_div_mul]
theorem zsD:dg y o<32:=xq _ dc
theorem zmK:∀(n y:Nat),y<32^n->sD n (λa=>(dg y a:Int))=(y:Int):=by
 intro n;induction n with
 | zero=>intro y h;simp[sD]at h ⊢;omega
 | succ n b =>
   intro y h;have e:(λa=>((dg y (a+1):Nat):Int))=λa=>((dg (y/32) a:Nat):Int):=by funext a;rw[zql]
   simp only[sD];rw[e,b (y/32)<|by rw[fm]at h;omega];have:dg y 0=y%32:=by simp[Um]
   omega
theorem zvA:sD 20 (λ_=>16)=(KZ:Int):=dc
theorem zmL{n U:Nat}{D:U0}(b:∀a,a<n->0<=D a/\D a<32)(h:(U:Int)=sD n D):U<32^n/\∀a,a<n->(dg U a:Int)=D a:=by
 have d:=Om n b;have c:U<32^n:=by grind
 refine⟨c,zhh n (λa _=>⟨om,by have:=zsD U a;omega⟩) b ?_⟩;rw[zmK n U c,h]
theorem Lr(h:u<32^20):sD 20 (fC u)=(u:Int)-KZ:=by have e:=pW 1 (-1) 20 (λa=>(dg u a))<|λ_=>16;rw[zmK 20 u h,zvA]at e;rw[<- show sD 20 (λa=>1*(dg u a)+-1*16)=sD 20 _ from vl 20 λa _=>by unfold fC;omega];omega
theorem zmM{U:Nat}{D:U0}(c:∀a,a<20->-16<=D a/\D a<16)(h:(U:Int)-KZ=sD 20 D):U<32^20/\∀a,a<20->fC U a=D a:=by
 have e:sD 20 (λa=>1*D a+16*1)=sD 20 (λa=>D a+16):=vl 20 λa _=>om;rw[pW 1 16 20 D<|λ_=>1]at e;have g:16*sD 20 (λ_=>1)=KZ:=dc
 have⟨d,f⟩:=zmL (n:=20) (U:=U) (D:=λa=>D a+16) (λa b=>by grind) om;simp_all[fC]
def RZ:Nat:=(32^20-1)/31
def Bk(y:Nat):Bool:=Nat.ble (Nat.mul 14 RZ) y&&(Nat.ble y (32^20-1)&&(Nat.beq (Nat.land (Nat.sub y (Nat.mul 14 RZ)) (Nat.mul 24 RZ)) 0&&Nat.beq (Nat.land (Nat.add (Nat.sub y (Nat.mul 14 RZ)) (Nat.mul 3 RZ)) (Nat.mul 24 RZ)) 0))
theorem zwt:∀d,d<32->d.testBit 3=l0->d.testBit 4=l0->d<8:=dc
theorem zmN(i:Nat)(b:i<5):(dg y o).testBit i=y.testBit (5*o+i):=by rw[Um,show(32:Nat)^o=2^(5*o)by rw[Nat.pow_mul],show(32:Nat)=2^5 by rfl,Nat.testBit_mod_two_pow,Nat.testBit_div_two_pow,ay b,au,xr]
theorem zbo:∀a,a<20->(24*RZ).testBit (5*a+3)=k0/\(24*RZ).testBit (5*a+4)=true:=dc
theorem zhi(h:Nat.beq (Nat.land u (Nat.mul 24 RZ)) 0=k0):∀a,a<20->dg u a<8:=λa b=>by
 have e:u&&&(24*RZ)=0:=fh h;have c:∀i,(24*RZ).testBit i=k0->u.testBit i=false:=λi d=>by have:=cV (λz=>z.testBit i) e;grind
 refine zwt _ (zsD u a) ?_ ?_;exact zmN u a 3 dc▸c _ (zbo a b).1;exact zmN u a 4 dc▸c _ (zbo a b).2
theorem Fo(h:Bk u=k0):u<32^20/\∀a,a<20->-2<=fC u a/\fC u a<=2:=by
 unfold Bk at h;simp only[aj]at h;have⟨j,d,m,o⟩:=h;have j:14*RZ<=u:=lX j;have d:u<32^20:=by have:=lX d;omega
 have e:=zhi m;have k:=zhi o;have p:Nat.sub u (Nat.mul 14 RZ)=u-14*RZ:=rfl;have f:Nat.add (Nat.sub u<|Nat.mul 14 RZ) (Nat.mul 3 RZ)=u-14*RZ+3*RZ:=rfl;rw[p]at e;rw[f]at k;have g:u-14*RZ<32^20:=om;have q:=zmK 20 _ g;have l:=pW 1 3 20 (λa=>(dg (u-14*RZ) a:Int))<|λ_=>1;have c:=pW 1 14 20 (λa=>(dg (u-14*RZ) a:Int))<|λ_=>1;have r:sD 20 (λ_=>1)=(RZ:Int):=by decide +kernel
 rw[q,r]at l c;have s:=(zmL (n:=20) (U:=u-14*RZ+3*RZ) (D:=λa=>1*(dg (u-14*RZ) a:Int)+3*1) (λa b=>by have:=e a b;omega)<|by rw[l];omega).2;have i:=(zmL (n:=20) (U:=u) (D:=λa=>1*(dg (u-14*RZ) a:Int)+14*1) (λa b=>by have:=e a b;omega)<|by rw[c];omega).2;refine⟨d,λa b=>?_⟩;have t:=k a b;have y:=s a b;have w:=i a b;unfold fC;omega
theorem zqm{y:Int}(a:-2<=D/\D<=2)(b:-2<=y/\y<=2):-4<=D*y/\D*y<=4:=by have:D=-2\/D=-1\/D=0\/D=1\/D=2:=om;grind
def Mb(w v r:Nat)(l:Nat):Nat:=Nat.sub (Nat.add (Nat.add (Nat.mul (dg v r) w) (Nat.mul 16 v)) (Nat.add (Nat.mul (dg w r) KZ) (Nat.mul l KZ))) (Nat.add (Nat.mul 16 w) (Nat.add (Nat.mul (dg w r) v) (Nat.mul (dg v r) KZ)))
theorem ztu(r l:Nat):Mb y o r l=(dg o r*y+16*o)+(dg y r*KZ+l*KZ)-(16*y+(dg y r*o+dg o r*KZ)):=rfl
def nrm(y:Nat):Nat:=bif Nat.blt (Nat.sub (Nat.mul 2 KZ) y) y then Nat.sub (Nat.mul 2 KZ) y else y
theorem zmO:nrm y=if 2*KZ-y<y then 2*KZ-y else y:=by
 simp[nrm]
theorem zhj(h:Bk u=k0)(i:Bk B=k0)(b:N<20)(l:Nat)(q:1<=l) :
 ((Mb u B N l:Nat):Int)-l*KZ=sD 20 λa=>fC B N*fC u a-fC u N*fC B a:=by
 obtain⟨j,c⟩:=Fo h
 obtain⟨k,d⟩:=Fo i
 have e:=pW (fC B N) (-(fC u N)) 20 (fC u) (fC B)
 rw[Lr j,Lr k]at e
 have m:sD 20 (λa=>fC B N*fC u a+-(fC u N)*fC B a)=sD 20 λa=>fC B N*fC u a-fC u N*fC B a:=vl 20 λa _=>by rw[JQ];omega
 rw[m]at e
 have n:∀a,a<20->0<=(fC B N*fC u a-fC u N*fC B a)+16/\(fC B N*fC u a-fC u N*fC B a)+16<32:=λa f=>by have s:=zqm (d N b) (c a f);have t:=zqm (c N b) (d a f);omega
 have v:=(Om 20 n).1
 have o:=pW 1 16 20 (λa=>fC B N*fC u a-fC u N*fC B a) (λ_=>1)
 have x:16*sD 20 (λ_=>1)=(KZ:Int):=by decide +kernel
 rw[show sD 20 (λa=>1*(fC B N*fC u a-fC u N*fC B a)+16*1)=sD 20 (λa=>(fC B N*fC u a-fC u N*fC B a)+16) from vl 20 λa _=>by omega]at o
 have g:fC B N*((u:Int)-KZ)+-(fC u N)*((B:Int)-KZ)=((dg B N:Int)*u+16*B+dg u N*KZ)-(16*u+dg u N*B+dg B N*KZ):=by unfold fC;simp only[Int.sub_mul,tQ,JQ];omega
 have p:(KZ:Int)<=l*KZ:=by have:=Int.mul_le_mul_of_nonneg_right (show(1:Int)<=l by omega) (show(0:Int)<=KZ by omega);omega
 rw[e,g]
 rw[g]at e
 rw[ztu]
 have c1:(((dg B N*u+16*B)+(dg u N*KZ+l*KZ):Nat):Int)=((dg B N:Int)*u+16*B)+(dg u N*KZ+l*KZ):=sp
 have c2:((16*u+(dg u N*B+dg B N*KZ):Nat):Int)=16*(u:Int)+(dg u N*B+dg B N*KZ):=sp
 generalize (dg B N*u+16*B)+(dg u N*KZ+l*KZ)=A at *
 generalize 16*u+(dg u N*B+dg B N*KZ)=r at *
 omega
theorem zhk{y:Nat}{D:U0}(c:∀a,a<20->-15<=D a/\D a<=15)(h:(y:Int)-KZ=sD 20 D):nrm y<32^20/\∃s:Int,(s=1\/s=-1)/\∀a,a<20->fC (nrm y) a=s*D a:=by
 rw[zmO];have e:=pW (-1) 0 20 D D;rw[show sD 20 _=sD 20 (λa=>-D a) from vl 20 λa _=>om]at e;have⟨g,d⟩:=zmM (λa b=>by grind) h;split
 next i =>
  have k:y<=2*KZ:=by
   have d:=(Om 20 (D:=λa=>-1*D a+16*1) λa b=>by grind).1;have f:=pW (-1) 16 20 D<|λ_=>1;have l:16*sD 20 (λ_=>1)=KZ:=dc
   omega
  have⟨f,j⟩:=zmM (U:=2*KZ-y) (D:=λa=>-D a) (λa b=>by grind) om;simp_all
 simp_all
def qR(w v r l:Nat):Nat:=nrm (Nat.div (Mb w v r l) l)
theorem zhf(r l:Nat):qR y o r l=nrm (Mb y o r l/l):=rfl
def okd(w v r l:Nat):Bool:=Nat.beq (Nat.mod (Mb w v r l) l) 0
theorem lU:∀a,a<20->fC KZ a=0:=dc
theorem Ws:Bk KZ=true:=dc
theorem Uj(b:u<32^20)(h:∀a,a<20->fC u a=0):u=KZ:=by have e:=Lr b;rw[show sD 20 _=sD 20 (λ_=>0*1+0*1) from vl 20 λa c=>by grind,pW 0 0 20 _ _]at e;omega
theorem zto{A B:U0}(c:D=1\/D=-1)(d:∀a,a<20->-2<=A a/\A a<=2)(e:∀a,a<20->-8<=B a/\B a<=8)(h:2*(D*sD 20 A)=sD 20 B):∀a,a<20->D*(2*A a)=B a:=by
 intro a b;have f:=pW (2*D) 16 20 A<|λ_=>1;have g:=pW 1 16 20 B<|λ_=>1;have i:sD 20 (λa=>2*D*A a+16*1)=sD 20 (λa=>1*B a+16*1):=by grind
 have j:=zhh 20 (λa b=>by grind) (λa b=>by grind) i a b;grind
theorem zvz{B:U0}(b:∀a,a<20->-8<=B a/\B a<=8):sD 20 B<=KZ:=by
 have d:=(Om 20 (D:=λa=>-1*B a+16*1) λa c=>by grind).1;have e:=pW (-1) 16 20 B<|λ_=>1;have f:16*sD 20 (λ_=>1)=KZ:=dc
 omega
theorem vg(i:Bk u=k0)(j:Bk B=k0)(k:N<20)(q:H=1\/H=2/\okd u B N H=k0/\Bk (qR u B N H)=k0) :
 qR u B N H<32^20/\∃s:Int,(s=1\/s=-1)/\∀a,a<20->s*(H*fC (qR u B N H) a)=fC B N*fC u a-fC u N*fC B a:=by
 have n:∀a,a<20->-8<=fC B N*fC u a-fC u N*fC B a/\fC B N*fC u a-fC u N*fC B a<=8:=λa b=>by have E:=zqm ((Fo j).2 N k) ((Fo i).2 a b);have o:=zqm ((Fo i).2 N k) ((Fo j).2 a b);omega
 rcases q with rfl|⟨rfl,o,t⟩
 ·have e:=zhj i j k 1 (ab _);rw[zhf,Nat.div_one];obtain⟨r,s,c,x⟩:=zhk (D:=λa=>fC B N*fC u a-fC u N*fC B a) (λa b=>by have:=n a b;omega) (show((Mb u B N 1:Nat):Int)-KZ=_ by rw[<- e];omega);refine⟨r,s,c,λa b=>?_⟩;rw[x a b];rcases c with rfl|rfl<;>omega
 ·have e:=zhj i j k 2 om;obtain⟨p,y⟩:=Fo t;refine⟨p,?_⟩;have F:Mb u B N 2=2*(Mb u B N 2/2):=by have:Mb u B N 2%2=0:=fh o;omega
  have G:=Lr p;generalize z:(λa=>fC B N*fC u a-fC u N*fC B a)=l at *;have d:∀a,fC B N*fC u a-fC u N*fC B a=l a:=λa=>by rw[<- z]
  have f:∀a,a<20->-8<=l a/\l a<=8:=λa b=>by rw[<- d];exact n a b
  have A:=zvz f;have m:(if 2*KZ-Mb u B N 2/2<Mb u B N 2/2 then 2*KZ-Mb u B N 2/2 else Mb u B N 2/2)=qR u B N 2:=by rw[zhf,zmO]
  have g:∀s:Int,(s=1\/s=-1)->2*(s*sD 20 (fC (qR u B N 2)))=sD 20 l->∃s:Int,(s=1\/s=-1)/\∀a,a<20->s*(2*fC (qR u B N 2) a)=fC B N*fC u a-fC u N*fC B a:=λs c h=>⟨s,c,λa b=>by rw[d];exact zto c y f h a b⟩;generalize qR u B N 2=U at *;generalize Mb u B N 2=W at *;generalize sD 20 l=Z at *;generalize sD 20 (fC U)=Y at *;split at m
  next C=>exact g (-1) (.inr rfl) om
  next C=>exact g 1 (.inl rfl) om
def frc{a:Type}(n:Nat)(f:Nat->a):a:=match n with|0=>f 0|k+1=>f (k+1)
theorem zdJ{a:Type}(n:Nat)(f:Nat->a):frc n f=f n:=by cases n<;>rfl
def frL{a:Type}:O0->(O0->a)->a|[],f=>f []|x::l,f=>frc x λx=>frL l λl=>f (x::l)
theorem sq{a:Type}:∀(l:O0)(f:O0->a),frL l f=f l
 | [],f=>rfl
 | x::l,f=>by rw[frL,zdJ,sq l]
def zmG(x:Nat):O0->O0
 | []=>[x]
 | y::l=>bif Nat.beq x y then y::l else bif Nat.blt x y then x::y::l else y::zmG x l
theorem zbk{x z:Nat}:∀{l:O0},z∈zmG x l↔z=x\/z∈l
 | []=>by simp[zmG]
 | y::l=>by
   unfold zmG;cases h:Nat.beq x y with
   | true =>simp_all
   | false =>
     cases Nat.blt x y with
     | true=>simp
     | false=>simp[zbk];grind
def ztp(u:Nat)(a:O0):O0:=frc u λu=>bif Nat.beq u KZ then a else zmG u a
theorem zmH:B∈ztp u A↔(B=u/\u≠KZ)\/B∈A:=by
 rw[ztp,zdJ];cases h:Nat.beq u KZ with
 | true=>simp_all
 | false=>simp[zbk,Nat.ne_of_beq_eq_false h]
def yY(S:O0)(v r l:Nat):O0:=S.foldr (λw a=>ztp (qR w v r l) a) []
theorem sr{v r l z:Nat}:∀{S:O0},z∈yY S v r l↔z≠KZ/\∃w∈S,z=qR w v r l
 | []=>by simp[yY]
 | x::S=>by
   have d:=sr (v:=v) (r:=r) (l:=l) (z:=z) (S:=S);unfold yY at d ⊢;rw[List.foldr_cons,zmH];grind
def un(v r:Nat):Bool:=Nat.beq (dg v r) 15||Nat.beq (dg v r) 17
def zer(v r:Nat):Bool:=Nat.beq (dg v r) 16
theorem yZ:un u B=k0↔fC u B=1\/fC u B=-1:=by simp[un,fC];omega
theorem tH:zer u B=k0↔fC u B=0:=by rw[zer,fC,Nat.beq_eq];omega
def ztq(y r:Nat):Bool:=Nat.beq (Nat.mod y (Nat.pow 32 r)) (Nat.mod KZ (Nat.pow 32 r))
theorem zmI{y r a:Nat}(h:a<r):dg (y%32^r) a=dg y a:=by rw[Um,Um];obtain⟨c,rfl⟩:∃c,r=a+(c+1):=⟨r-a-1,om⟩;rw[Nat.pow_add,Nat.mod_mul_right_div_self,fm,Gs,Nat.mod_mul_right_mod]
theorem Ol(h:ztq u B=k0)(c:N<B)(b:N<20):fC u N=0:=by have e:u%32^B=KZ%32^B:=fh h;have f:=zmI (y:=u) c;have d:=lU N b;simp_all[fC,zmI c]
def zi8:O0->O0->Bool
 | [],[]=>k0
 | x::a,y::b=>Nat.beq x y&&zi8 a b
 | _,_=>l0
theorem zhg:∀{a b:O0},zi8 a b=k0->a=b
 | [],[],_=>rfl
 | x::a,y::b,h=>by unfold zi8 at h;rw[aj]at h;rw[fh h.1,zhg h.2]
 | [],_::_,h=>by simp[zi8]at h
 | _::_,[],h=>by simp[zi8]at h
def ztr:O0->Nat->Nat|[],k=>k|y::l,k=>ztr l (Nat.add (Nat.mul k (Nat.pow 32 20)) y)
def inK(k:Nat)(x:O0):List (Nat×O0)->Bool
 | []=>l0
 | p::l=>bif Nat.beq p.1 k then zi8 p.2 x||inK k x l else inK k x l
theorem Wt{k:Nat}{x:O0}:∀{l:List (Nat×O0)},inK k x l=k0->∃p∈l,p.2=x
 | [],h=>by simp[inK]at h
 | p::l,h=>by
   unfold inK at h;cases c:Nat.beq p.1 k with
   | false =>rw[c]at h;have⟨q,a,b⟩:=Wt h;grind
   | true =>
     rw[c,cond_true,cw]at h;rcases h with h|h
     exact⟨p,sp,zhg h⟩;have⟨q,a,b⟩:=Wt h;grind
def ddA:List (Nat×O0)->List O0->List (Nat×O0)
 | a,[]=>a
 | a,x::L=>frL x λx=>frc (ztr x 1) λk=>bif inK k x a then ddA a L else ddA ((k,x)::a) L
theorem Wu{x:O0}:∀{L:List O0}{acc:List (Nat×O0)},(∃p∈acc,p.2=x)\/x∈L->∃p∈ddA acc L,p.2=x
 | [],acc,h=>by simpa[ddA]using h
 | y::L,acc,h=>by
   rw[ddA,sq,zdJ];cases a:inK _ y acc with
   | true =>
     refine Wu ?_;rcases h with h|h
     grind;rcases List.mem_cons.1 h with rfl|h;exact .inl<|Wt a;grind
   | false =>
     refine Wu ?_;simp;grind
def ddl(L:List O0):List O0:=(ddA [] L).map (·.2)
theorem Wv{L:List O0}(h:A∈L):A∈ddl L:=have⟨p,a,b⟩:=Wu<|.inr h;List.mem_map.2 ⟨p,a,b⟩
def nxt(r:Nat)(S:O0):List O0:=frL S λS=>let P:=S.filter λv=>un v r;bif P.isEmpty then [S]else P.map λv=>yY S v r 1
def zsC(r:Nat)(F:O0)(L:List O0):List O0:=ddl (L.flatMap λM=>nxt r (F++M))
def Uk(r:Nat)(F:O0)(L:List O0):Bool:=L.all λM=>(F++M).all λw=>Bk w&&(un w r||zer w r)&&ztq w r
def Ma(F:Nat->O0):Nat->List O0|0=>[[]]|r+1=>zsC r (F r) (Ma F r)
def zqh(F:Nat->O0)(a:List O0->Bool):Nat->Nat->List O0->Bool
 | 0,_,L=>a L
 | k+1,r,L=>Uk r (F r) L&&zqh F a k (r+1) (zsC r (F r) L)
theorem zqi{F:Nat->O0}{a:List O0->Bool}:∀(k r:Nat),zqh F a k r (Ma F r)=k0->(∀i,r<=i->i<r+k->Uk i (F i) (Ma F i)=k0)/\a (Ma F (r+k))=true:=by
 intro k;induction k with
 | zero=>intro r h;exact⟨λi b c=>om,h⟩
 | succ k d =>intro r h;unfold zqh at h;rw[aj]at h;obtain⟨b,c⟩:=d (r+1) h.2;refine⟨λi g f=>?_,by rw[show r+(k+1)=r+1+k by omega];exact c⟩;by_cases e:i=r;subst e;exact h.1;exact b i om om
def zbl(a:O0):Nat->O0->Bool
 | 0,_=>l0
 | k+1,S=>frL S λS=>S.all Bk&&((bif S.all (λv=>a.all λr=>!un v r)then Nat.ble (lh S) 1 else k0)&&a.all λr=>S.all λv=>!un v r||zbl a k (yY S v r 1))
def SQ(a:O0):Nat->O0->Bool
 | 0,_=>k0
 | k+1,S=>frL S λS=>!S.all Bk||match a.find? (λr=>S.any λv=>un v r)with
   | none=>!S.isEmpty
   | some r=>match S.find? (λv=>un v r)with
     | none=>k0
     | some v=>SQ a k (yY S v r 1)
def Qp(a:O0)(b:Bool):Nat->O0->Nat->Bool
 | 0,_,_=>l0
 | k+1,S,l=>frL S λS=>S.all Bk&&match a.find? (λr=>S.any λv=>!zer v r)with
   | none=>Nat.beq l 2||!b
   | some r=>(Nat.beq l 2||S.any (λv=>un v r)||zbl a 4 S)&&S.all λv=>zer v r||((Nat.beq l 1||S.all (λw=>okd w v r l))&&Qp a b k (yY S v r l) (bif un v r then 1 else 2))
def Ul:O0->List O0|[]=>[[]]|x::l=>(Ul l).flatMap λs=>[s,x::s]
theorem oW(p:V0):∀l:O0,l.filter p∈Ul l
 | []=>by simp[Ul]
 | x::l=>by have a:=oW p l;unfold Ul;grind
def zqj(q:Nat)(c:O0)(L:List O0):Bool :=
 (ddl (L.flatMap Ul)).all λa=>(Ul c).all λb=>(b++a).all (λw=>ztq w q)&&Qp ((lc 20).drop q) (SQ ((lc 20).drop q) 5 (b++a)) 5 (b++a) 1
def Eo(k:Nat):O0:=(lc 64).filter λs=>aQ s==k
def cD(k b a:Nat):Int:=if a<(Eo k).length then lI (lg (Eo k) a 0) b else 0
def cod(k b:Nat):Nat:=nrm ((sD 20 (cD k b)+KZ).toNat)
def frs(y r:Nat):Bool:=!zer y r&&(lc r).all λa=>zer y a
def zbn(k:Nat):O0:=(Eo (k+1)).map (cod k)
def FF(C:O0)(r:Nat):O0:=C.filter λy=>frs y r
def qq(k:Nat):Nat:=if k=2 then 7 else 20
def ZT(k:Nat):Bool:=(zbn k).all (λy=>Bk y&&(lc 20).any λr=>frs y r)&&zqh (FF (zbn k)) (zqj (qq k) ((lc 20).drop (qq k) |>.flatMap (FF (zbn k)))) (qq k) 0 [[]]
def CS(e:X0)(b:T0)(a n j y:Nat):Prop :=
 (∃s:Int,(s=1\/s=-1)/\∀i,a<=i->i<n->e i j=s*fC y (b i))/\∀c,c<20->(∀i,a<=i->i<n->b i≠c)->fC y c=0
structure Rel (X:Nat->Prop) (e:Nat->Nat->Int) (lam:Nat->Nat) (a n m:Nat):Prop where
 inj:∀i i',a<=i->i<n->a<=i'->i'<n->lam i=lam i'->i=i'
 lt:∀i,a<=i->i<n->lam i<20
 col:∀j,a<=j->j<m->∃y,X y/\Bk y=true/\CS e lam a n j y
def ke(a b i:Nat):Nat:=if i=b then a else i
structure Sst (e e':Nat->Nat->Int) (a n m i0 j0 l:Nat):Prop where
 hi:a<=i0/\i0<n
 hj:a<=j0/\j0<m
 nz:e i0 j0≠0
 eq:∃t:Int,(t=1\/t=-1)/\∀i j,a<i->i<n->a<j->j<m->t*(l*e' i j)=e i0 j0*e (ke a i0 i) (ke a j0 j)-e (ke a i0 i) j0*e i0 (ke a j0 j)
theorem kU(h:u<=N/\N<B)(c:u<H)(d:H<B):u<=ke u N H/\ke u N H<B/\ke u N H≠N:=by unfold ke;grind
theorem zqf(d:u<N)(e:u<H)(h:ke u B N=ke u B H):N=H:=by unfold ke at h;grind
theorem Oh(h:u<=N/\N<B)(g:u<=H)(d:H<B)(e:H≠N):∃i,u<i/\i<B/\ke u N i=H:=by by_cases f:H=u;exact⟨N,om,h.2,by simp_all[ke]⟩;exact⟨H,om,d,by simp[ke,e]⟩
theorem sgm(h:D=1\/D=-1):D*D=1:=by grind
theorem Oi{t:Int}(h:D=1\/D=-1)(a:t=1\/t=-1):D*t=1\/D*t=-1:=by grind
theorem Oj{A:X0}{y v:Nat}(f:Sst q A u B N H I J)(a0:∀i k,u<=i->i<B->u<=k->k<B->C i=C k->i=k)(o:∀i,u<=i->i<B->C i<20)(hv:CS q C u B I v)(bv:Bk v=k0)(P:u<O/\O<N)(hy:CS q C u B (ke u I O) y)(m:Bk y=k0)(Q:J=1\/J=2/\okd y v (C H) J=k0/\Bk (qR y v (C H) J)=k0):CS A (λi=>C (ke u H i)) (u+1) B O (qR y v (C H) J):=by
 have⟨⟨n,a,R⟩,v2⟩:=hv
 have⟨⟨e,j0,S⟩,y2⟩:=hy
 have⟨t,U,he⟩:=f.eq
 have hr:=o H f.hi.1 f.hi.2
 have⟨_,s,V,W⟩:=vg m bv hr Q
 have w:(J:Int)≠0:=by rcases Q with rfl|⟨rfl,_⟩<;>decide
 refine⟨⟨t*s*(n*e),?_,λi X F=>?_⟩,λc K L=>?_⟩
 exact Oi (Oi U V)<|Oi a j0
 show A i O=t*s*(n*e)*fC (qR y v (C H) J) (C<|ke u H i);have⟨M,d,_⟩:=kU f.hi (show u<i by omega) F;have Y:=he i O om F P.1 P.2;rw[R _ f.hi.1 f.hi.2,S _ M d,R _ M d,S _ f.hi.1 f.hi.2]at Y;have G:=W _<|o _ M d;generalize C (ke u H i)=c at *;generalize A i O=E at *;generalize fC (qR y v (C H) J) c=D at *;generalize fC v (C H)=p at *;generalize fC y c=j at *;generalize fC y (C H)=r at *;generalize fC v c=l at *;have Z:t*(J*E)=(n*e)*(p*j-r*l):=by rw[Y,tQ];congr 1<;>ac_rfl
 rw[<- G]at Z;have e4:(J:Int)*E=J*(t*s*(n*e)*D):=by
  have e5:t*(t*(J*E))=J*E:=by rw[<- fE,sgm U,jL]
  rw[<- e5,Z];ac_rfl
 exact Int.eq_of_mul_eq_mul_left w e4
 have b:fC v (C H)*fC y c-fC y (C H)*fC v c=0:=by
  by_cases x:C H=c;rw[x];rw[kZ];omega;have g:∀i,u<=i->i<B->C i≠c:=λi X F h3=>by by_cases z:i=H;subst z;exact x h3;have⟨k,h4,h5,h6⟩:=Oh f.hi X F z;exact L k h4 h5<|by show C (ke u H k)=c;rw[h6];exact h3
  rw[v2 c K g,y2 c K g,ep,ep];rfl
 have G:=W c K;rw[b]at G;rcases Int.mul_eq_zero.1 G with h|h
 rcases V with rfl|rfl<;>omega
 rcases Int.mul_eq_zero.1 h with h|h
 exact absurd h w
 exact h
theorem zbj{j:X0}(g:Sst q j u B N H I J)(f:∀i b,u<=i->i<B->u<=b->b<B->C i=C b->i=b) :
 ∀i b,u+1<=i->i<B->u+1<=b->b<B->C (ke u H i)=C (ke u H b)->i=b:=λi b t k j0 o h=>have⟨p,l,_⟩:=kU g.hi om k;have⟨r,s,_⟩:=kU g.hi om o;zqf om om<|f _ _ p l r s h
def ZP(e:X0)(b:T0)(a n m:Nat):Prop:=∀i c,a<=i->i<c->c<n->(∃j,a<=j/\j<m/\e i j≠0)->(∃j,a<=j/\j<m/\e c j≠0)->b i<b c
theorem ZP.step{r:X0}(h:ZP q C u B N)(c:Sst q r u B N H I J)(s:(J:Int)≠0)(e:∀i j,u<=i->i<H->u<=j->j<N->q i j=0) :
 ZP r (λi=>C (ke u H i)) (u+1) B N:=by
 obtain⟨t,M,m⟩:=c.eq
 have D:∀i j,u<i->i<B->u<j->j<N->r i j≠0->∃f,u<=f/\f<N/\q (ke u H i) f≠0:=λi j E j0 g F w=>by
  obtain⟨z,A,_⟩:=kU c.hj g F;by_cases G:q (ke u H i) (ke u I j)=0
  ·by_cases k:q (ke u H i) I=0
   ·have:=m i j E j0 g F;rw[G,k,ep,xp]at this;exfalso;rcases Int.mul_eq_zero.1 this with h|h
    ·rcases M with rfl|rfl<;>omega
    ·rcases Int.mul_eq_zero.1 h with h|h
     ·exact s h
     ·exact w h
   ·exact⟨I,c.hj.1,c.hj.2,k⟩
  ·exact⟨_,z,A,G⟩
 rintro i a E j0 g ⟨j,j1,j2,j3⟩ ⟨f,S,O,P⟩
 obtain⟨x,n,d,p⟩:=D i j om om om j2 j3
 obtain⟨y,b,K,l⟩:=D a f om g om O P
 have Q:ke u H i<ke u H a:=by
  unfold ke at p l ⊢;have R:=c.hi;split at p
  next L =>exfalso;exact p (e u x (ab _) om n d)
  next L =>
   rw[ac L];split at l
   next o=>exfalso;exact l (e u y (ab _) om b K)
   next o=>rw[ac o];exact j0
 obtain⟨z,_,_⟩:=kU c.hi (show u<i by omega) om
 obtain⟨_,A,_⟩:=kU c.hi (show u<a by omega) g
 exact h _ _ z Q A ⟨x,n,d,p⟩ ⟨y,b,K,l⟩
theorem CS.flip(h:CS q C u B N H)(f:∀i,u<=i->i<B->C i<20)(k:D=1\/D=-1)(l:∀c,c<20->fC H c=D*fC I c):CS q C u B N I:=by have⟨⟨t,p,s⟩,r⟩:=h;refine⟨⟨t*D,Oi p k,λi m d=>?_⟩,λc o g=>?_⟩;grind;grind
theorem CS.two(h:CS q C u B N H)(w:CS q C u B N I):∃s:Int,(s=1\/s=-1)/\∀c,c<20->fC H c=s*fC I c:=by
 have⟨⟨t,o,x⟩,y⟩:=h;have⟨⟨p,k,l⟩,m⟩:=w;refine⟨t*p,Oi o k,λc z=>?_⟩;grind
section
variable {k:Nat}
abbrev Fk(k:Nat):Nat->O0:=FF (zbn k)
def rst(k:Nat):O0:=((lc 20).drop (qq k)).flatMap (Fk k)
def SW(k:Nat):O0:=(lc 20).drop (qq k)
theorem Jw:qq y<=20:=by unfold qq;grind
theorem tG:u∈SW k↔qq k<=u/\u<20:=by rw[SW,List.mem_iff_getElem];constructor;grind;rintro⟨b,d⟩;exact⟨u-qq k,by grind,by grind⟩
structure Good (k:Nat):Prop where
 bn:∀y∈zbn k,Bk y=true
 fr:∀y∈zbn k,∃r,r<20/\frs y r=true
 lv:∀r,r<qq k->Uk r (Fk k r) (Ma (Fk k) r)=true
 fn:zqj (qq k) (rst k) (Ma (Fk k) (qq k))=true
theorem zqe(h:ZT k=k0):Good k:=by unfold ZT at h;rw[aj]at h;obtain⟨a,d⟩:=h;have c:=zqi (F:=Fk k) (qq k) 0 d;rw[aY]at a;refine⟨λy b=>?_,λy b=>?_,λr g=>c.1 r (aB _) om,by have:=c.2;rwa [cm]at this⟩;have:=a y b;rw[aj]at this;exact this.1;have:=a y b;rw[aj,cS]at this;obtain⟨r,e,f⟩:=this.2;exact⟨r,List.mem_range.1 e,f⟩
theorem Lq(h:frs u B=k0)(a:N<B):fC u N=0:=by unfold frs at h;rw[aj,aY]at h;exact tH.1<|h.2 N<|List.mem_range.2 a
theorem yX:u∈Fk k B↔u∈zbn k/\frs u B=true:=by rw[Fk,FF,dG]
def X1(k fr:Nat)(M:O0)(y:Nat):Prop:=y=KZ\/y∈M\/∃r,fr<=r/\y∈Fk k r
def P1(k fr:Nat)(e:X0)(b:T0)(a n m:Nat):Prop:=fr<=qq k/\∃M∈Ma (Fk k) fr,Rel (X1 k fr M) e b a n m/\ZP e b a n m
variable (g:Good k)
include g
theorem Good.lv2(n:u<=qq k)(i:A∈Ma (Fk k) u)(j:B∈A):Bk B=k0/\∀c,c<u->fC B c=0:=by have o:=Jw k;by_cases h:u<qq k;have:=g.lv u h;unfold Uk at this;rw[aY]at this;have:=this A i;rw[aY]at this;have:=this B (gM _ j);simp only[aj]at this;exact⟨this.1.1,λc a=>Ol this.2 a om⟩;have e:u=qq k:=om;subst e;have b:=g.fn;unfold zqj at b;rw[aY]at b;have l:=b (A.filter λ_=>k0) (Wv (List.mem_flatMap.2 ⟨A,i,oW _ A⟩));rw[aY]at l;have d:=l ((rst k).filter λ_=>l0) (oW _ _);rw[aj,aY]at d;have m:B∈(rst k).filter (λ_=>l0)++A.filter λ_=>true:=gM _ (by simp[j]);refine⟨?_,λc a=>Ol (d.1 B m) a om⟩;have f:=d.2;unfold Qp at f;rw[sq,aj,aY]at f;exact f.1 B m
theorem Good.piv(a:u<qq k)(b:A∈Ma (Fk k) u)(c:B∈Fk k u++A)(d:fC B u≠0):un B u=true:=by have:=g.lv u a;unfold Uk at this;rw[aY]at this;have:=this A b;rw[aY]at this;have:=this B c;simp only[aj,cw]at this;exact this.1.2.resolve_right λh=>d (tH.1 h)
theorem Good.low1(b:u<=qq k)(d:A∈Ma (Fk k) u)(a:X1 k u A B):∀c,c<u->fC B c=0:=λc e=>by
 have h:=Jw k;rcases a with rfl|a|⟨r,i,f⟩
 exact lU c om;exact(g.lv2 b d a).2 c e;exact Lq (yX.1 f).2 om
theorem Ui(a:Bk u=k0)(d:Bk B=k0)(f:N<20)(g:un B N=k0)(h:fC u N=0):∃s:Int,(s=1\/s=-1)/\∀c,c<20->fC (qR u B N 1) c=s*fC u c:=by have⟨_,s,b,i⟩:=vg a d f<|.inl rfl;have j:=yZ.1 g;refine⟨s*fC B N,Oi b j,λc k=>?_⟩;have e:=i c k;rw[h,xp,jI]at e;rw[fE,<- e,<- fE,sgm b];simp
theorem zmE{r:Nat}(h:∀v∈A,un v r=l0):A∈nxt r A:=by
 rw[nxt,sq];have:A.filter (λv=>un v r)=[]:=List.filter_eq_nil_iff.2 λv a=>by grind
 grind
theorem zbi(b:B∈A)(h:un B u=k0):yY A B u 1∈nxt u A:=by
 rw[nxt,sq];have a:B∈A.filter λB=>un B u:=List.mem_filter.2 ⟨b,h⟩;grind
theorem Wr{S:O0}(a:A∈Ma (Fk k) u)(b:S∈nxt u (Fk k u++A)):S∈Ma (Fk k) (u+1):=Wv (List.mem_flatMap.2 ⟨A,a,b⟩)
theorem zsA(m:yY (Fk k u++A) B u 1∈Ma (Fk k) (u+1))(h:Bk B=k0)(a:u<20)(b:Bk N=k0)(d:N=KZ\/N∈Fk k u++A):X1 k (u+1) (yY (Fk k u++A) B u 1) (qR N B u 1):=by
 obtain⟨i,s,j,l⟩:=vg b h a (.inl rfl);by_cases f:qR N B u 1=KZ;exact .inl f;rcases d with rfl|d;refine absurd (Uj i λc g=>?_) f;have e:=l c g;rw[lU c g,lU u a]at e;rcases j with rfl|rfl<;>omega
 exact .inr (.inl (sr.2 ⟨f,N,d,rfl⟩))
theorem zmF(b:u<=qq k)(c:A∈Ma (Fk k) u)(a:X1 k u A B):Bk B=true:=by rcases a with rfl|a|⟨r,_,d⟩;exact Ws;exact(g.lv2 b c a).1;exact g.bn _ (yX.1 d).1
theorem Fm(h:X1 k u A B):(B=KZ\/B∈Fk k u++A)\/∃r,u+1<=r/\B∈Fk k r:=by rcases h with h|h|⟨r,b,a⟩;omega;grind;grind
theorem Good.adv(h:P1 k u q C B N H)(S:u<qq k)(K:∀i j,B<=i->i<N->C i=u->B<=j->j<H->q i j=0):P1 k (u+1) q C B N H:=by
 have⟨L,M,x,l,fr⟩:=h;have D:=Jw k;have z:∀j y,B<=j->j<H->CS q C B N j y->fC y u=0:=λj y j1 j2 ⟨⟨s,m,c1⟩,c2⟩=>by
  grind
 by_cases F:∃v∈Fk k u++M,un v u=k0;have⟨v,G,b⟩:=F;have d:=Wr g x<|zbi g G b;have I:Bk v=true:=by rcases List.mem_append.1 G with h|h;exact g.bn _ (yX.1 h).1;exact(g.lv2 L x h).1
 refine⟨om,_,d,⟨l.inj,l.lt,λj j1 j2=>?_⟩,fr⟩;have⟨y,A,f,p⟩:=l.col j j1 j2;have a:=z j y j1 j2 p;rcases Fm g A with o|⟨r,O,P⟩
 have J:=zsA g d I om f o;have⟨s,m,Q⟩:=Ui g f I om b a;refine⟨_,J,zmF g om d J,p.flip l.lt m λc e=>?_⟩;grind;exact⟨y,.inr<|.inr ⟨r,O,P⟩,f,p⟩;have d:=Wr g x<|zmE g λv R=>by
  grind
 refine⟨om,_,d,⟨l.inj,l.lt,λj j1 j2=>?_⟩,fr⟩;have⟨y,A,f,p⟩:=l.col j j1 j2;refine⟨y,?_,f,p⟩;rcases Fm g A with(o|o)|o
 exact .inl o;exact .inr<|.inl o;exact .inr<|.inr o
theorem Good.low(h:P1 k u q C B N H)(d:B<=I)(f:I<N)(l:B<=J)(o:J<H)(c:q I J≠0):u<=C I:=by have⟨p,M,j,r,z⟩:=h;have⟨y,t,i,⟨⟨s,A,w⟩,_⟩⟩:=r.col J l o;by_cases x:C I<u;exact absurd (by rw[w I d f,g.low1 p j t _ x,ep]) c;omega
theorem Good.upto{r:Nat}(m:r<=qq k)(c:∀i j,u<=i->i<B->C i<r->u<=j->j<N->q i j=0):∀d fr,fr+d=r->P1 k fr q C u B N->P1 k r q C u B N:=by
 intro d;induction d with
 | zero=>simp
 | succ d l=>exact λfr f h=>l _ om<|g.adv h om λi j o p s j1 j2=>c i j o p om j1 j2
theorem ahead(h:ZP q C u B N)(k:u<=H/\H<B)(g:u<=I/\I<N)(d:q H I≠0)(l:∀i j,u<=i->i<H->u<=j->j<N->q i j=0) :
 ∀i j,u<=i->i<B->C i<C H->u<=j->j<N->q i j=0:=λi j o p s j1 j2=>by
 by_cases f:q i j=0
 exact f
 by_cases j0:i<H
 exact absurd (l i j o j0 j1 j2) f
 by_cases r:i=H
 subst r;omega
 have:=h H i k.1 om p ⟨I,g.1,g.2,d⟩ ⟨j,j1,j2,f⟩;omega
theorem Good.step1{e e':X0}(h:P1 k u e C B N H)(c:Sst e e' B N H I J 1)(F:∀i j,B<=i->i<I->B<=j->j<H->e i j=0)(z:C I<qq k) :
 P1 k (C I+1) e' (λi=>C (ke B I i)) (B+1) N H/\(e I J=1\/e I J=-1):=by
 have n:=g.low h c.hi.1 c.hi.2 c.hj.1 c.hj.2 c.nz
 have O:=g.upto (r:=C I) om (ahead g h.2.choose_spec.2.2 c.hi c.hj c.nz F) (C I-u) u om h
 obtain⟨V,M,G,p,P⟩:=O
 have m:=Jw k
 have A:∀v,X1 k (C I) M v->CS e C B N J v->v∈Fk k (C I)++M/\un v (C I)=true:=λv a ⟨⟨s,x,c1⟩,_⟩=>by
  have d:=c.nz;rw[c1 _ c.hi.1 c.hi.2]at d;have w:fC v (C I)≠0:=λh=>d (by rw[h,ep]);have b:v∈Fk k (C I)++M:=by rcases Fm g a with(rfl|h)|⟨r,o,f⟩;exact absurd (lU _ om) w;exact h;exact absurd (Lq (yX.1 f).2 om) w
  exact⟨b,g.piv z G b w⟩
 obtain⟨v,a,fr,D⟩:=p.col J c.hj.1 c.hj.2
 obtain⟨Q,E⟩:=A v a D
 have q:=Wr g G (zbi g Q E)
 refine⟨⟨om,_,q,⟨zbj c p.inj,λi j0 t=>?_,λj j0 t=>?_⟩,ZP.step P c dc F⟩,?_⟩
 obtain⟨o,f,_⟩:=kU c.hi (show B<i by omega) t;exact p.lt _ o f
 obtain⟨o,f,_⟩:=kU c.hj (show B<j by omega) t;obtain⟨y,R,l,S⟩:=p.col _ o f;have K:=Oj c p.inj p.lt D fr ⟨om,t⟩ S l (.inl rfl);rcases Fm g R with U|⟨r,o,f⟩
 have L:=zsA g q fr om l U;exact⟨_,L,zmF g om q L,K⟩
 obtain⟨s,x,w⟩:=Ui g l fr om E (Lq (yX.1 f).2 om);refine⟨y,.inr (.inr ⟨r,o,f⟩),l,K.flip (λi j0 t=>?_) x w⟩;obtain⟨o,f,_⟩:=kU c.hi (show B<i by omega) t;exact p.lt _ o f
 obtain⟨⟨s,x,c1⟩,_⟩:=D;rw[c1 _ c.hi.1 c.hi.2];exact Oi x (yZ.1 E)
end
def zi7(k:Nat)(S:O0):Prop:=∀w∈S,∀c,c<qq k->fC w c=0
def X2(S:O0)(y:Nat):Prop:=y=KZ\/y∈S
def ZO(S:O0)(e:X0)(b:T0)(a n m:Nat):Prop:=∀y∈S,∃j,a<=j/\j<m/\CS e b a n j y
def P2(k f:Nat)(S:O0)(l:Nat)(b:Bool)(e:X0)(c:T0)(a n m:Nat):Prop :=
 (l=1\/l=2)/\Qp (SW k) b f S l=k0/\zi7 k S/\Rel (X2 S) e c a n m/\ZO S e c a n m/\ZP e c a n m
def PU(k f:Nat)(S:O0)(e:X0)(b:T0)(a n m:Nat):Prop :=
 zbl (SW k) f S=k0/\zi7 k S/\Rel (X2 S) e b a n m/\ZO S e b a n m
open Classical in
theorem Good.to2(g:Good u)(h:P1 u (qq u) q C B N H):∃S,P2 u 5 S 1 (SQ (SW u) 5 S) q C B N H:=by
 obtain⟨I,M,b,f,e⟩:=h;have n:=Jw u;let p:V0:=λy=>decide (∃j,B<=j/\j<H/\CS q C B N j y);have i:=g.fn;unfold zqj at i;rw[aY]at i;have x:=i (M.filter p) (Wv (List.mem_flatMap.2 ⟨M,b,oW _ M⟩));rw[aY]at x;have l:=x ((rst u).filter p) (oW _ _);rw[aj,aY]at l;refine⟨(rst u).filter p++M.filter p,.inl rfl,l.2,λw D c o=>Ol (l.1 w D) o om,⟨f.inj,f.lt,λj j1 j2=>?_⟩,λy d=>?_,e⟩;obtain⟨y,E,m,z⟩:=f.col j j1 j2;have A:p y=true:=ay ⟨j,j1,j2,z⟩;refine⟨y,?_,m,z⟩;rcases E with rfl|d|⟨r,F,s⟩
 exact .inl rfl;exact .inr (gM _ (List.mem_filter.2 ⟨d,A⟩));refine .inr (mB _ (List.mem_filter.2 ⟨?_,A⟩));have G:r<20:=by obtain⟨a,J,t⟩:=g.fr y (yX.1 s).1;by_cases o:a<r;have:=Lq (yX.1 s).2 o;unfold frs at t;rw[tH.2 this]at t;simp at t;omega
 exact List.mem_flatMap.2 ⟨r,tG.2 ⟨F,G⟩,s⟩;rcases List.mem_append.1 d with d|d<;>exact cH (List.mem_filter.1 d).2
theorem ve{S:O0}(h:Qp A K u S B=k0):∃e,u=e+1/\(∀w∈S,Bk w=k0)/\∀r,A.find? (λr=>S.any λv=>!zer v r)=n0 r ->
 (B=2\/(∃v∈S,un v r=k0)\/zbl A 4 S=k0)/\∀v∈S,zer v r=l0->(∀w∈S,okd w v r B=k0)/\Qp A K e (yY S v r B) (if un v r=k0 then 1 else 2)=true:=by
 cases u with
 | zero=>simp[Qp]at h
 | succ u =>
   unfold Qp at h
   rw[sq,aj,aY]at h
   refine⟨u,rfl,h.1,λr g=>?_⟩
   have c:=h.2
   rw[g]at c
   simp only[aj,cw,cS,aY]at c
   refine⟨?_,λv i j=>?_⟩
   rcases c.1 with(h|h)|h
   exact .inl (fh h)
   exact .inr (.inl h)
   exact .inr (.inr h)
   rcases c.2 v i with h|h
   rw[j]at h;cases h
   refine⟨λw k=>h.1.elim (λd=>?_) (λd=>d w k),?_⟩
   rw[fh d];show Nat.beq (Mb w v r 1%1) 0=k0;rw[Nat.mod_one];rfl
   have:=h.2;cases m:un v r<;>rw[m]at this<;>simpa using this
theorem Og(g:zi7 u A)(K:Rel (X2 A) q C B N H)(P:ZO A q C B N H)(Q:ZP q C B N H)(l:B<=I/\I<N)(c:B<=J/\J<H)(o:q I J≠0)(R:∀i j,B<=i->i<I->B<=j->j<H->q i j=0):(SW u).find? (λr=>A.any λv=>!zer v r)=n0 (C I):=by
 have L:=Jw u
 obtain⟨v,U,bv,⟨⟨s,e,c1⟩,c2⟩⟩:=K.col J c.1 c.2
 have k:fC v (C I)≠0:=λh=>o (by rw[c1 _ l.1 l.2,h,ep])
 have f:=K.lt I l.1 l.2
 have M:v∈A:=U.resolve_left λh=>k (by rw[h];exact lU _ f)
 have p:qq u<=C I:=by by_cases h:C I<qq u;exact absurd (g v M _ h) k;omega
 have a:(A.any λv=>!zer v (C I))=true:=List.any_eq_true.2 ⟨v,M,by cases x:zer v (C I)with|false=>rfl|true=>exact absurd (tH.1 x) k⟩
 cases y:(SW u).find? (λr=>A.any λv=>!zer v r)with
 | none=>exact absurd a (List.find?_eq_none.1 y _ (tG.2 ⟨p,f⟩))
 | some r =>
   congr 1
   have D:=xU y
   have E:=tG.1 (jo y)
   obtain⟨w,V,x⟩:=List.any_eq_true.1 D
   have F:fC w r≠0:=λh=>by rw[tH.2 h]at x;simp at x
   obtain⟨j,j1,j2,⟨⟨t,W,d1⟩,d2⟩⟩:=P w V
   have G:∃i,B<=i/\i<N/\C i=r:=aC λb=>F (d2 r E.2 λi z n S=>b ⟨i,z,n,S⟩)
   obtain⟨i,z,n,S⟩:=G
   have j0:q i j≠0:=by rw[d1 i z n,S];rcases W with rfl|rfl<;>omega
   have X:C I<=r:=by by_cases m:i<I;exact absurd (R i j z m j1 j2) j0;by_cases Y:i=I;subst Y;omega;have:=Q I i l.1 om n ⟨J,c.1,c.2,o⟩ ⟨j,j1,j2,j0⟩;omega
   have Z:r<=C I:=by
    obtain⟨_,as,bs,O,h4⟩:=List.find?_eq_some_iff_append.1 y;by_cases hc:r<=C I;exact hc;exfalso;have d:C I∈SW u:=tG.2 ⟨p,f⟩;rw[O]at d;rcases List.mem_append.1 d with d|d
    have:=h4 _ d;rw[a]at this;simp at this;have e:(SW u).Pairwise (·<·):=List.Pairwise.drop gA;rw[O,zZ]at e;have:=e.2.1;rw[List.pairwise_cons]at this;rcases List.mem_cons.1 d with d|d
    omega;have:=this.1 _ d;omega
   omega
theorem Wq{a:X0}{v:Nat}(g:Sst q a B N H I J O)(l:zi7 u A)(o:Rel (X2 A) q C B N H)(hE:ZO A q C B N H)(k:v∈A)(j0:∀w∈A,Bk w=k0)(e:CS q C B N J v)(W:O=1\/O=2/\∀w∈A,okd w v (C I) O=k0)(d:∀w∈yY A v (C I) O,Bk w=k0) :
 zi7 u (yY A v (C I) O)/\Rel (X2 (yY A v (C I) O)) a (λi=>C (ke B I i)) (B+1) N H/\ZO (yY A v (C I) O) a (λi=>C (ke B I i)) (B+1) N H:=by
 have X:=Jw u
 have F:=o.lt I g.hi.1 g.hi.2
 have x:(O:Int)≠0:=by rcases W with rfl|⟨rfl,_⟩<;>decide
 have Y:∀y∈A,Bk (qR y v (C I) O)=true:=λy f=>by by_cases m:qR y v (C I) O=KZ;rw[m];exact Ws;exact d _ (sr.2 ⟨m,y,f,rfl⟩)
 have p:∀y∈A,O=1\/O=2/\okd y v (C I) O=k0/\Bk (qR y v (C I) O)=true:=λy f=>W.imp id λz=>⟨z.1,z.2 y f,Y y f⟩
 refine⟨λw hw c b=>?_,⟨zbj g o.inj,λi K D=>?_,λj K D=>?_⟩,λz m=>?_⟩
 obtain⟨_,y,f,rfl⟩:=sr.1 hw;obtain⟨_,s,L,G⟩:=vg (j0 y f) (j0 v k) F (p y f);have r:=G c om;rw[l y f c b,l v k c b,ep,ep]at r;rcases Int.mul_eq_zero.1 r with h|h
 rcases L with rfl|rfl<;>omega
 rcases Int.mul_eq_zero.1 h with h|h
 exact absurd h x
 exact h
 obtain⟨M,n,_⟩:=kU g.hi (show B<i by omega) D;exact o.lt _ M n
 obtain⟨M,n,_⟩:=kU g.hj (show B<j by omega) D;obtain⟨y,xy,S,E⟩:=o.col _ M n;rcases xy with rfl|f
 refine⟨KZ,.inl rfl,Ws,⟨1,.inl rfl,λi i1 Z=>?_⟩,λc b _=>lU c b⟩;obtain⟨t,ht,he⟩:=g.eq;obtain⟨P,Q,_⟩:=kU g.hi (show B<i by omega) Z;obtain⟨⟨s,L,c1⟩,_⟩:=E;have r:=he i j om Z om D;rw[c1 _ P Q,c1 _ g.hi.1 g.hi.2,lU _ (o.lt _ P Q),lU _ F,ep,ep,ep]at r;rw[lU _ (o.lt _ P Q),ep];rcases Int.mul_eq_zero.1 r with h|h
 rcases ht with rfl|rfl<;>omega
 rcases Int.mul_eq_zero.1 h with h|h
 exact absurd h x
 exact h
 refine⟨qR y v (C I) O,?_,Y y f,Oj g o.inj o.lt e (j0 v k) ⟨om,D⟩ E S (p y f)⟩;by_cases m:qR y v (C I) O=KZ
 exact .inl m
 exact .inr (sr.2 ⟨m,y,f,rfl⟩)
 obtain⟨R,y,f,rfl⟩:=sr.1 m;obtain⟨j,j1,j2,E⟩:=hE y f;by_cases hj:j=J
 exfalso;subst hj;obtain⟨s,L,G⟩:=E.two e;obtain⟨K,s',U,V⟩:=vg (j0 y f) (j0 v k) F (p y f);refine R (Uj K λc b=>?_);have r:=V c b;rw[G c b,G _ F,show fC v (C I)*(s*fC v c)-s*fC v (C I)*fC v c=0 by rw[<- fE,kZ (fC v (C I)) s];omega]at r;rcases Int.mul_eq_zero.1 r with h|h
 rcases U with rfl|rfl<;>omega
 rcases Int.mul_eq_zero.1 h with h|h
 exact absurd h x
 exact h
 obtain⟨j',k1,k2,k3⟩:=Oh g.hj j1 j2 hj;refine⟨j',om,k2,Oj g o.inj o.lt e (j0 v k) ⟨k1,k2⟩ (by rw[k3];exact E) (j0 y f) (p y f)⟩
theorem nab(h:D=1\/D=-1):D.natAbs=1:=om
theorem P2.step{k:X0}{j0:Nat}(h:P2 u B A N K q C H I J)(g:Sst q k H I J O j0 N)(D:∀i j,H<=i->i<O->H<=j->j<J->q i j=0) :
 ∃w c,P2 u w c (q O j0).natAbs K k (λi=>C (ke H O i)) (H+1) I J:=by
 obtain⟨E,p,o,t,F,G⟩:=h
 obtain⟨w,rfl,L,M⟩:=ve p
 obtain⟨_,e⟩:=M _ (Og o t F G g.hi g.hj g.nz D)
 obtain⟨v,f,P,Q⟩:=t.col j0 g.hj.1 g.hj.2
 obtain⟨⟨s,x,c1⟩,c2⟩:=Q
 have b:=c1 _ g.hi.1 g.hi.2
 have d:=t.lt O g.hi.1 g.hi.2
 have S:fC v (C O)≠0:=λh=>g.nz (by rw[b,h,ep])
 have n:v∈A:=f.resolve_left λh=>S (by rw[h];exact lU _ d)
 have y:zer v (C O)=false:=by cases y:zer v (C O)with|false=>rfl|true=>exact absurd (tH.1 y) S
 obtain⟨R,a⟩:=e v n y
 obtain⟨_,_,l,_⟩:=ve a
 obtain⟨U,V,W⟩:=Wq g o t F n L ⟨⟨s,x,c1⟩,c2⟩ (E.imp id λz=>⟨z,R⟩) l
 have r:(if un v (C O)=k0 then 1 else 2)=(q O j0).natAbs:=by have Y:=(Fo P).2 _ d;rw[b];by_cases m:un v (C O)=k0;rw[ae m,nab (Oi x (yZ.1 m))];rw[ac m];have X:¬(fC v (C O)=1\/fC v (C O)=-1):=λh=>m (yZ.2 h);rcases x with rfl|rfl<;>omega
 rw[r]at a
 refine⟨w,_,?_,a,U,V,W,ZP.step G g (by rcases E with rfl|rfl<;>decide) D⟩
 rw[<- r];split<;>simp
theorem P2.dvd{j0:Nat}(h:P2 u B A N K q C H I J)(g:H<=O/\O<I)(l:H<=j0/\j0<J)(r:q O j0≠0)(b:∀i j,H<=i->i<O->H<=j->j<J->q i j=0) :
 ∀i j,H<=i->i<I->H<=j->j<J->(N:Int)∣q O j0*q i j-q i j0*q O j:=by
 obtain⟨S,m,w,p,n,c⟩:=h
 obtain⟨f',rfl,bS,L⟩:=ve m
 obtain⟨_,M⟩:=L _ (Og w p n c g l r b)
 obtain⟨v,e,f,⟨⟨s,hs,c1⟩,c2⟩⟩:=p.col j0 l.1 l.2
 have o:=p.lt O g.1 g.2
 have F:fC v (C O)≠0:=λh=>r<|by rw[c1 _ g.1 g.2,h,ep]
 have P:v∈A:=e.resolve_left λh=>F<|by rw[h];exact lU _ o
 have d:zer v (C O)=false:=by cases d:zer v (C O)with|false=>rfl|true=>exact absurd (tH.1 d) F
 obtain⟨Q,R⟩:=M v P d
 obtain⟨_,_,k,_⟩:=ve R
 intro i j x a j1 j2
 obtain⟨y,U,D,⟨⟨t,ht,d1⟩,d2⟩⟩:=p.col j j1 j2
 rw[c1 _ g.1 g.2,c1 i x a,d1 i x a,d1 _ g.1 g.2]
 rcases U with rfl|G
 rw[lU _<|p.lt i x a,lU _ o];simp
 have V:Bk (qR y v (C O) N)=true:=by by_cases d:qR y v (C O) N=KZ;rw[d];exact Ws;exact k _<|sr.2 ⟨d,y,G,rfl⟩
 obtain⟨_,W,X,E⟩:=vg D f o (S.imp id λz=>⟨z,Q y G,V⟩);have Y:=E _<|p.lt i x a;refine⟨s*t*(W*fC (qR y v (C O) N) (C i)),?_⟩;have Z:s*fC v (C O)*(t*fC y (C i))-s*fC v (C i)*(t*fC y (C O))=s*t*(fC v (C O)*fC y (C i)-fC y (C O)*fC v (C i)):=by rw[tQ];congr 1<;>ac_rfl
 rw[Z,<- Y];ac_rfl
theorem Rel.small(h:Rel P q C u B N)(d:u<=H)(f:H<B)(j1:u<=I)(j2:I<N):-2<=q H I/\q H I<=2:=by have⟨y,_,c,⟨⟨s,g,c1⟩,_⟩⟩:=h.col I j1 j2;have:=(Fo c).2 _<|h.lt H d f;grind
theorem zbg:∀(d c j0:Nat),c=u+d->u<=j0->j0<B->q c j0≠0->∃b j1,u<=b/\b<=c/\u<=j1/\j1<B/\q b j1≠0/\∀i j,u<=i->i<b->u<=j->j<B->q i j=0:=by
 intro d;induction d using Nat.strongRecOn with
 | _ d k =>intro c j0 t l n f;by_cases g:∃i j,u<=i/\i<c/\u<=j/\j<B/\q i j≠0;have⟨i,j,c1,c2,o,p,m⟩:=g;have⟨b,j1,d1,d2,r⟩:=k (i-u) om i j om o p m;exact⟨b,j1,d1,om,r⟩;grind
def SIS(k:Nat)(e:X0)(c:T0)(a n m:Nat):Prop:=(∃fr,P1 k fr e c a n m)\/(∃f S b,P2 k f S 1 b e c a n m)\/∃f S,PU k f S e c a n m
def II(k l:Nat)(Q K:Prop)(e:X0)(c:T0)(a n m:Nat):Prop:=(l=1/\(∃fr,P1 k fr e c a n m)/\K)\/∃f S b,P2 k f S l b e c a n m/\(b=l0->Q)
structure Lst (e:Nat->Nat->Int) (a n m i0 j0:Nat):Prop where
 hi:a<=i0/\i0<n
 hj:a<=j0/\j0<m
 nz:e i0 j0≠0
 min:∀i j,a<=i->i<n->a<=j->j<m->e i j≠0->(e i0 j0).natAbs<=(e i j).natAbs
 fst:∀i j,a<=i->i<i0->a<=j->j<m->e i j≠0->(e i0 j0).natAbs<(e i j).natAbs
theorem Lst.unit(h:Lst q u B N H I)(f:u<=J)(o:J<=H)(g:u<=O)(i:O<N)(j:q J O=1\/q J O=-1):H=J/\(q H I).natAbs=1:=by
 have d:q J O≠0:=om
 have p:=h.nz;have:=h.min J O f (by have:=h.hi.2;omega) g i d;by_cases l:J<H;have:=h.fst J O f l g i d;omega;omega
def Nxt(P:(X0)->(T0)->Nat->Prop)(e:X0)(b:T0)(a n m c j0 l:Nat):Prop:=∀d,Sst e d a n m c j0 l->P d (λi=>b (ke a c i)) (a+1)
def Out(k:Nat)(e:X0)(d:T0)(a n m b j0:Nat):Prop :=
 ((e b j0).natAbs=1/\Nxt (λf c g=>SIS k f c g n m) e d a n m b j0 1) \/
   ((e b j0).natAbs=2/\∀i j,a<=i->i<n->a<=j->j<m->(e i j=0\/(e i j).natAbs=2)/\e b j0*e i j=e i j0*e b j)
theorem PU.out{k f:Nat}(h:PU k f A q C u B N)(c:Lst q u B N H I):Out k q C u B N H I:=by
 have⟨d,x,m,U⟩:=h;have V:=Jw k;cases f with
 | zero=>simp[zbl]at d
 | succ f =>
   unfold zbl at d;rw[sq,aj,aj,aY]at d;have⟨bS,l,o⟩:=d;have⟨v,xv,bv,⟨⟨s,W,c1⟩,c2⟩⟩:=m.col I c.hj.1 c.hj.2;have K:=c1 _ c.hi.1 c.hi.2;have b:=m.lt H c.hi.1 c.hi.2;have X:fC v (C H)≠0:=λh=>c.nz (by rw[K,h,ep]);have S:v∈A:=xv.resolve_left λh=>X (by rw[h];exact lU _ b);by_cases G:(q H I).natAbs=1;refine .inl ⟨G,λe' hS=>.inr (.inr ?_)⟩;have L:un v (C H)=true:=yZ.2 (by rw[K]at G;rcases W with rfl|rfl<;>omega);have M:C H∈SW k:=tG.2 ⟨by
    by_cases h:C H<qq k;exact absurd (x v S _ h) X;omega,b⟩
   rw[aY]at o;have Y:=o _ M;rw[aY]at Y;have E:=Y v S;rw[L,jU,gm]at E;have n:∀w∈yY A v (C H) 1,Bk w=true:=by
    cases f with
    | zero=>simp[zbl]at E
    | succ f=>unfold zbl at E;rw[sq,aj,aY]at E;exact E.1
   have⟨a1,a2,a3⟩:=Wq hS x m U S bS ⟨⟨s,W,c1⟩,c2⟩ (.inl rfl) n;exact⟨f,_,E,a1,a2,a3⟩;have h2:(q H I).natAbs=2:=by have:=m.small c.hi.1 c.hi.2 c.hj.1 c.hj.2;have:=c.nz;omega
   have O:(A.all λv=>(SW k).all λr=>!un v r)=true:=by
    rw[aY];intro w hw;rw[aY];intro r M;cases L:un w r with
    | false=>rfl
    | true =>
      exfalso;have a:=yZ.1 L;have⟨j,j1,j2,⟨⟨t,Z,d1⟩,d2⟩⟩:=U w hw;have P:∃i,u<=i/\i<B/\C i=r:=aC λhn=>by have:=d2 r (tG.1 M).2 λi j0 p Q=>hn ⟨i,j0,p,Q⟩;rw[this]at a;omega
      have⟨i,j0,p,Q⟩:=P;have g:=d1 i j0 p;rw[Q]at g;have e:q i j=1\/q i j=-1:=by rw[g];exact Oi Z a
      have:=c.min i j j0 p j1 j2 (by rcases e with h|h<;>rw[h]<;>decide);have:=nab e;omega
   rw[O,cond_true]at l;have J:=lX l;have R:∀y∈A,y=v:=λy F=>by
    match A,J,F,S with
    | [z],_,F,S=>simp at F S;rw[F,S]
   refine .inr ⟨h2,λi j j0 p j1 j2=>?_⟩;have⟨y,xy,_,⟨⟨t,Z,d1⟩,d2⟩⟩:=m.col j j1 j2;have g:=d1 i j0 p;have D:=d1 _ c.hi.1 c.hi.2;refine⟨?_,?_⟩;by_cases hz:q i j=0;exact .inl hz;have:=c.min i j j0 p j1 j2 hz;have:=m.small j0 p j1 j2;exact .inr om;rcases xy with rfl|F;rw[g,D,lU _ (m.lt i j0 p),lU _ b];simp;rw[R y F]at g D;rw[g,D,K,c1 i j0 p];ac_rfl
theorem P2.out{k f:Nat}(h:P2 k f A 1 K q C u B N)(d:Lst q u B N H I):Out k q C u B N H I:=by
 obtain⟨r,j1,s,j0,n,e,S,y⟩:=zbg (H-u) H I (by have:=d.hi.1;omega) d.hj.1 d.hj.2 d.nz;have D:=h;obtain⟨_,i,c,z,p,E⟩:=h;have F:=d.hi;obtain⟨P,rfl,Q,G⟩:=ve i;obtain⟨l,_⟩:=G _ (Og c z p E ⟨s,om⟩ ⟨n,e⟩ S y);rcases l with l|⟨v,g,b⟩|l
 exact absurd l dc;have w:=yZ.1 b;obtain⟨j,J,m,⟨⟨t,L,d1⟩,d2⟩⟩:=p v g;have x:q r j=1\/q r j=-1:=by rw[d1 r s om];exact Oi L w
 obtain⟨rfl,o⟩:=d.unit s j0 J m x;refine .inl ⟨o,λR M=>.inr<|.inl ?_⟩;obtain⟨a,O,j0⟩:=D.step M y;rw[o]at j0;exact⟨a,O,_,j0⟩;exact PU.out (f:=4) ⟨l,c,z,p⟩ d
theorem Good.unit1(g:Good u)(h:P1 u B q C N H I)(l:N<=J/\J<H)(o:N<=O/\O<I)(d:q J O≠0)(p:∀i j,N<=i->i<J->N<=j->j<I->q i j=0)(f:C J<qq u):q J O=1\/q J O=-1 :=
 (g.step1 h (e':=λi j=>q J O*q (ke N J i) (ke N O j)-q (ke N J i) O*q J (ke N O j)) ⟨l,o,d,1,.inl rfl,λi j _ _ _ _=>sp⟩ p f).2
theorem Good.later(g:Good u)(h:P1 u B q C N H I)(f:N<=J/\J<H)(l:N<=O/\O<I)(d:q J O≠0)(o:∀i j,N<=i->i<J->N<=j->j<I->q i j=0)(p:qq u<=C J):∃S,P2 u 5 S 1 (SQ (SW u) 5 S) q C N H I:=by refine g.to2 (g.upto (r:=qq u) (ab _) (λi j j0 s t j1 j2=>ahead g h.2.choose_spec.2.2 f l d o i j j0 s om j1 j2) (qq u-B) B (by have:=h.1;omega) h)
theorem SIS.out(g:Good u)(h:SIS u q C B N H)(c:Lst q B N H I J):Out u q C B N H I J:=by rcases h with⟨fr,h⟩|⟨f,S,b,h⟩|⟨f,S,h⟩;have⟨t,j1,j,i,l,o,r,p⟩:=zbg (I-B) I J (by have:=c.hi.1;omega) c.hj.1 c.hj.2 c.nz;have w:=c.hi;by_cases s:C t<qq u;have x:=g.unit1 h ⟨j,om⟩ ⟨l,o⟩ r p s;have⟨rfl,j0⟩:=c.unit j i l o x;exact .inl ⟨j0,λA y=>.inl ⟨_,(g.step1 h y p s).1⟩⟩;have⟨S,z⟩:=g.later h ⟨j,om⟩ ⟨l,o⟩ r p om;exact z.out c;exact h.out c;exact h.out c
theorem SIS.small(h:SIS u q C B N H)(d:B<=I)(g:I<N)(j1:B<=J)(j2:J<H):-2<=q I J/\q I J<=2:=by rcases h with⟨fr,_,M,_,h,_⟩|⟨f,S,b,_,_,_,h,_⟩|⟨f,S,_,_,h,_⟩<;>exact h.small d g j1 j2
theorem II.small{Q K:Prop}(h:II u B Q K q C N H I)(d:N<=J)(g:J<H)(j1:N<=O)(j2:O<I):-2<=q J O/\q J O<=2:=by rcases h with⟨_,⟨fr,_,M,_,h,_⟩,_⟩|⟨f,S,b,⟨_,_,_,h,_⟩,_⟩<;>exact h.small d g j1 j2
theorem II.l{Q K:Prop}(h:II u B Q K q C N H I):B=1\/B=2:=by rcases h with⟨h,_⟩|⟨_,_,_,⟨h,_⟩,_⟩;exact .inl h;exact h
theorem II.out{Q K:Prop}(g:Good u)(h:II u B Q K q C N H I)(n:K->∀S,P2 u 5 S 1 (SQ (SW u) 5 S) q C N H I->SQ (SW u) 5 S=l0->Q)(y:N<=J/\J<H)(z:N<=O/\O<I)(j0:q J O≠0)(s:∀i j,N<=i->i<J->N<=j->j<I->q i j=0) :
 (∀i j,N<=i->i<H->N<=j->j<I->(B:Int)∣q J O*q i j-q i O*q J j)/\∀o p,(K->B=1->(q J O).natAbs=1->p)->Sst q o N H I J O B->II u (q J O).natAbs Q p o (λi=>C (ke N J i)) (N+1) H I:=by
 have r:∀{f S b},P2 u f S B b q C N H I->(b=l0->Q)->(∀i j,N<=i->i<H->N<=j->j<I->(B:Int)∣q J O*q i j-q i O*q J j)/\∀o p,(K->B=1->(q J O).natAbs=1->p)->Sst q o N H I J O B->II u (q J O).natAbs Q p o (λi=>C (ke N J i)) (N+1) H I :=
  λh c=>⟨h.dvd y z j0 s,λo p _ w=>by
   obtain⟨D,E,t⟩:=h.step w s;exact .inr ⟨D,E,_,t,c⟩⟩
 rcases h with⟨rfl,⟨fr,h⟩,A⟩|⟨f,S,b,h,c⟩
 by_cases F:C J<qq u
 refine⟨λi j _ _ _ _=>⟨_,(jL _).symm⟩,λo p x w=>.inl ?_⟩;obtain⟨G,m⟩:=g.step1 h w s F;exact⟨nab m,⟨_,G⟩,x A rfl (nab m)⟩
 obtain⟨S,t⟩:=g.later h y z j0 s om;exact r t (n A S t)
 exact r h c
theorem P2.fin(h:P2 u B A 1 K q C N H I)(x:∀i j,N<=i->i<H->N<=j->j<I->q i j=0):K=false:=by
 obtain⟨_,d,n,F,z,G⟩:=h;have m:∀y∈A,∀c,c<20->fC y c=0:=λy s c a=>by
  obtain⟨j,j1,j2,⟨⟨t,g,d1⟩,d2⟩⟩:=z y s;by_cases w:∃i,N<=i/\i<H/\C i=c;obtain⟨i,o,p,rfl⟩:=w;have:=d1 i o p;rw[x i j o p j1 j2]at this;rcases g with rfl|rfl<;>omega
  exact d2 c a λi o p e=>w ⟨i,o,p,e⟩
 cases B with
 | zero=>simp[Qp]at d
 | succ B =>
   unfold Qp at d;rw[sq,aj]at d;have D:(SW u).find? (λr=>A.any λv=>!zer v r)=none:=List.find?_eq_none.2 λr E=>by rw[cS];rintro⟨y,s,l⟩;rw[tH.2 (m y s r (tG.1 E).2)]at l;exact absurd l dc
   rw[D]at d;have:=d.2;cases K with
   | false=>rfl
   | true=>simp at this
theorem zwq:∀s,s<64->aQ s<7:=by decide +kernel
theorem zqb:lh (Eo y)<=20:=by
 by_cases h:y<7;have:∀y,y<7->lh (Eo y)<=20:=by decide +kernel
 exact this y h;have:Eo y=[]:=by refine List.filter_eq_nil_iff.2 λs a=>?_;have:=zwq s (List.mem_range.1 a);simp;omega
 rw[this];exact aB _
theorem zhe:(Eo y).Pairwise (·<·):=List.Pairwise.filter _ gA
theorem Lp:B∈Eo u↔B<64/\aQ B=u:=by simp[Eo]
theorem ztm(h:A.Pairwise (·<·))(a:u<lh A)(b:B<lh A)(e:A[u]<A[B]):u<B:=by by_cases c:u<B;exact c;by_cases d:u=B;subst d;omega;have:=List.pairwise_iff_getElem.1 h B u b a om;omega
theorem zi6:-1<=lI y o/\lI y o<=1:=by simp[lI];omega
theorem zbf(a:Nat):-1<=cD y o a/\cD y o a<=1:=by unfold cD;split;exact zi6 _ _;omega
theorem zqc:∃s:Int,(s=1\/s=-1)/\∀c,c<20->fC (cod y o) c=s*cD y o c:=by
 have e:=pW 1 16 20 (cD y o)<|λ_=>1;have g:16*sD 20 (λ_=>1)=(KZ:Int):=dc
 have h:=(Om 20 (D:=λa=>1*cD y o a+16*1) λa _=>by have:=zbf y o a;omega).1;obtain⟨_,s,d,f⟩:=zhk (y:=(sD 20 (cD y o)+KZ).toNat) (D:=cD y o) (λa _=>by have:=zbf y o a;omega) om;exact⟨s,d,f⟩
def zdI(k:Nat)(L:O0)(i:Nat):Nat:=(Eo k).idxOf (lg L i 0)
def Of(L H:O0)(i j:Nat):Int:=lI (lg L i 0) (lg H j 0)
theorem Good.start(g:Good u)(I:∀a b,b<64->z b=k0->a&&&b=a->z a=k0) :
 P1 u 0 (Of (cd z u 64) (cd z (u+1) 64)) (zdI u (cd z u 64)) 0 (cd z u 64).length (cd z (u+1) 64).length:=by
 have J:∀i,i<lh (cd z u 64)->lg (cd z u 64) i 0∈cd z u 64:=λi d=>by rw[lg,aN d];exact bx d
 have K:∀i,i<lh (cd z u 64)->lg (cd z u 64) i 0∈Eo u:=λi d=>by obtain⟨o,p,L⟩:=fI.1 (J i d);exact Lp.2 ⟨o,L⟩
 have e:∀i,i<lh (cd z u 64)->zdI u (cd z u 64) i<(Eo u).length:=λi d=>List.idxOf_lt_length_iff.2 (K i d)
 have m:∀i (d:i<lh (cd z u 64)),(Eo u)[zdI u (cd z u 64) i]'(e i d)=lg (cd z u 64) i 0:=λi d=>lF (e i d)
 have t:∀i,i<lh (cd z u 64)->lg (Eo u) (zdI u (cd z u 64) i) 0=lg (cd z u 64) i 0:=λi d=>by rw[lg,aN (e i d)];exact m i d
 have B:(cd z u 64).Pairwise (·<·):=List.Pairwise.filter _ gA
 have n:∀i l,i<l->l<lh (cd z u 64)->zdI u (cd z u 64) i<zdI u (cd z u 64) l:=λi l o p=>by refine ztm (zhe u) (e i om) (e l p) ?_;rw[m i om,m l p];have:=List.pairwise_iff_getElem.1 B i l om p o;rw[lg,aN (show i<(cd z u 64).length by omega),lg,aN p];exact this
 have M:=zqb u
 refine⟨aB _,[],by simp[Ma],⟨λi l _ o _ p P=>?_,λi _ d=>by have:=e i d;omega,λj _ G=>?_⟩,λi l _ o p _ _=>n i l o p⟩
 ·by_cases h:i<l
  ·have:=n i l h p;omega
  ·by_cases N:l<i
   ·have:=n l i N o;omega
   ·omega
 ·have A:=fI.1 (show(cd z (u+1) 64).getD j 0∈cd z (u+1) 64 by rw[lg,aN G];exact bx G);generalize O:lg (cd z (u+1) 64) j 0=b at *;have f:cod u b∈zbn u:=List.mem_map.2 ⟨b,Lp.2 ⟨A.1,A.2.2⟩,rfl⟩;obtain⟨r,Q,C⟩:=g.fr _ f;obtain⟨s,H,w⟩:=zqc u b;refine⟨cod u b,.inr (.inr ⟨r,aB _,yX.2 ⟨f,C⟩⟩),g.bn _ f,⟨s,H,λi _ d=>?_⟩,λc f D=>?_⟩
  ·have o:=e i d;rw[w _ om,<- fE,sgm H,jL];unfold cD Of;rw[ae o,t i d,O]
  ·rw[w c f];have:cD u b c=0:=by
    unfold cD;split
    next q =>
     unfold lI;split
     next x =>
      exfalso;have y:lg (Eo u) c 0∈Eo u:=by rw[lg,aN q];exact bx q
      have E:=I _ b A.1 A.2.1 x;have k:lg (Eo u) c 0∈cd z u 64:=fI.2 ⟨(Lp.1 y).1,E,(Lp.1 y).2⟩;obtain⟨i,d,F⟩:=bV k;refine D i (aB _) d ?_;unfold zdI;rw[lg,aN d,mW,F];rw[lg,aN q,mW];exact List.Nodup.idxOf_getElem ((zhe u).imp λh=>om) c q
     ·rfl
    ·rfl
   rw[this,ep]
def kN{α:Type}(S:α->Prop)(n:Nat):Prop:=∃l:List α,l.Nodup/\(∀x,x∈l↔S x)/\l.length=n
section
variable {α β:Type}{S T:α->Prop}{m n k:Nat}
theorem kN.uniq(h:kN S m)(a:kN S n):m=n:=by have⟨l,b,c,f⟩:=h;have⟨g,d,e,i⟩:=a;have:=((dn b d).2 λx=>(c x).trans (e x).symm).length_eq;omega
theorem kN.congr(h:kN S n)(e:∀x,S x↔T x):kN T n:=have⟨l,a,b,c⟩:=h;⟨l,a,λx=>(b x).trans<|e x,c⟩
theorem kN.none(h:∀x,¬S x):kN S 0:=⟨[],fS,λx=>⟨λa=>absurd a sp,λa=>absurd a<|h x⟩,rfl⟩
theorem kN.one(a:α):kN (λx=>x=a) 1:=⟨[a],sp,λx=>sp,rfl⟩
theorem kN.list{l:List α}(h:l.Nodup):kN (λx=>x∈l) (lh l):=⟨l,h,λ_=>mV,rfl⟩
open Classical in
theorem kN.part(h:kN S n)(a:∀x,T x->S x):∃m,m<=n/\kN T m:=by obtain⟨l,b,c,d⟩:=h;refine⟨lh (l.filter λx=>decide (T x)),by rw[<- d];exact aO _ _,_,b.filter _,λx=>?_,rfl⟩;rw[dG,bT,c];exact⟨λh=>h.2,λh=>⟨a x h,h⟩⟩
theorem kN.or(h:kN S m)(c:kN T n)(d:∀x,S x->T x->False):kN (λx=>S x\/T x) (m+n):=by obtain⟨l,f,a,g⟩:=h;obtain⟨i,j,b,k⟩:=c;refine⟨l++i,?_,λx=>by grind,by grind⟩;grind
theorem kN.rest(h:kN S n)(d:kN T m)(e:∀x,T x->S x):m<=n/\kN (λx=>S x/\¬T x) (n-m):=by have⟨k,j,c⟩:=h.part (T:=λx=>S x/\¬T x) λx f=>f.1;have:=h.uniq ((d.or c λx a b=>b.2 a).congr λx=>⟨λa=>a.elim (e x) (·.1),λa=>(Classical.em _).elim .inl λb=>.inr ⟨a,b⟩⟩);grind
theorem kN.sub_eq(h:kN S n)(a:kN T n)(b:∀x,T x->S x)(x:α)(c:S x):T x:=by have⟨l,g,d,i⟩:=(h.rest a b).2;grind
theorem kN.image{U:β->Prop}(f:α->β)(h:kN S n)(d:∀x y,S x->S y->f x=f y->x=y)(g:∀y,U y↔∃x,S x/\f x=y):kN U n:=by obtain⟨l,i,b,j⟩:=h;refine⟨l.map f,?_,λy=>?_,ss j⟩;refine List.pairwise_map.2<|List.Pairwise.imp_of_mem ?_ i;intro x y a k c e;exact c<|d x y ((b x).1 a) ((b y).1 k) e;grind
theorem kN.fib{U:β->Prop}(g:α->β)(i:kN U m)(j:∀x,S x->U (g x))(n:∀y,U y->kN (λx=>S x/\g x=y) k):kN S (m*k):=by
 have⟨l,o,e,p⟩:=i;have c:∀l:List β,l.Nodup->(∀y∈l,U y)->kN (λx=>S x/\g x∈l) (l.length*k):=by
  intro l;induction l with
  | nil=>intro _ _;rw[cJ,Nat.zero_mul];exact kN.none λx h=>absurd h.2 sp
  | cons y l q =>intro d f;rw[xW]at d;have r:=n y (f y sp);have s:=q d.2 λz t=>f z (by simp[t]);have u:=r.or s λx a b=>d.1 (a.2 ▸ b.2);rw[bH,Nat.succ_mul,xr];refine u.congr λx=>?_;rw[jV];constructor;rintro(⟨a,b⟩|⟨a,b⟩);exact⟨a,.inl b⟩;exact⟨a,.inr b⟩;rintro⟨a,b|b⟩;exact .inl ⟨a,b⟩;exact .inr ⟨a,b⟩
 have:=c l o λy w=>(e y).1 w;rw[p]at this;exact this.congr λx=>⟨λh=>h.1,λh=>⟨h,(e _).2 (j x h)⟩⟩
end
section
variable {p:Nat}[NeZero p]
def gY(n:Nat)(f:Nat->Fin p):Fin p:=match n with|0=>0|n+1=>gY n f+f n
theorem fg{f g:Nat->Fin p}:∀n,(∀i,i<n->f i=g i)->gY n f=gY n g
 | 0,_=>rfl
 | n+1,h=>by rw[gY,gY,fg n λi a=>h i om,h n om]
theorem jp{f:Nat->Fin p}:∀n,(∀i,i<n->f i=0)->gY n f=0
 | 0,_=>rfl
 | n+1,h=>by rw[gY,jp n λi a=>h i om];grind
theorem oZ(f g:Nat->Fin p):∀n,gY n (λi=>f i+g i)=gY n f+gY n g
 | 0=>rfl
 | n+1=>by simp[gY];rw[oZ f g n];grind
theorem mq(c:Fin p)(f:Nat->Fin p):∀n,gY n (λi=>c*f i)=c*gY n f
 | 0=>rfl
 | n+1=>by simp[gY];rw[mq c f n];grind
theorem Ov{f:Nat->Fin p}{v:Nat}:∀n,v<n->(∀i,i<n->i≠v->f i=0)->gY n f=f v
 | 0,h,_=>absurd h om
 | n+1,h,a=>by rw[gY];by_cases e:v=n;subst e;rw[jp v λi c=>a i om om];grind;rw[Ov n om λi c b=>a i om b,a n om om];grind
theorem Up{F:Nat->Nat->Fin p}:∀n,(∀i j,i<n->j<n->i≠j->F i j+F j i=0)->(∀i,i<n->F i i=0)->gY n (λi=>gY n λj=>F i j)=0
 | 0,_,_=>rfl
 | n+1,h,a=>by
   have c:=Up n (λi j b e=>h i j om om) λi b=>a i om;have d:gY (n+1) (λi=>gY (n+1) λj=>F i j)=gY n (λi=>gY n λj=>F i j)+(gY n (λi=>F i n+F n i)+F n n):=by have:gY n (λi=>gY (n+1) λj=>F i j)=gY n (λi=>gY n (λj=>F i j)+F i n):=fg n λi _=>rfl;rw[gY,this,oZ,oZ,gY];grind
   rw[d,c,a n om,jp n λi b=>h i n om om om];grind
def YI(a v:Nat):Bool:=aQ (a&&&(2^v-1))%2==0
def sg(p:Nat)[NeZero p](a v:Nat):Fin p:=if YI a v then 1 else -1
theorem zhn:sg p y o*sg p y o=1:=by unfold sg;grind
theorem zqt:∀a,a<64->∀u,u<6->∀v,v<6->(u==v||a.testBit u||a.testBit v||((YI (a|||2^v) u==YI (a|||2^u) v)==!(YI a u==YI a v)))=true:=by decide +kernel
theorem zho(b:u<64)(c:B<6)(d:N<6)(h:B≠N)(e:u.testBit B=l0)(f:u.testBit N=l0) :
 sg p u N*sg p (u|||2^N) B+sg p u B*sg p (u|||2^B) N=0:=by
 have:=zqt u b B c N d
 rw[e,f,show(B==N)=l0 by simpa using h]at this
 simp only[gm,aK]at this
 unfold sg
 generalize YI (u|||2^N) B=x at *
 generalize YI (u|||2^B) N=y at *
 generalize YI u B=z at *
 generalize YI u N=w at *
 revert this
 cases x<;>cases y<;>cases z<;>cases w<;>simp<;>grind
theorem ztD{A B C D:Fin p}(h:A*B+C*D=0)(a:A*A=1)(b:D*D=1)(z:Fin p):D*(B*z)=(-C)*(A*z):=by
 grind
def On(P:l1)(x:Nat->Fin p):Prop:=∀a,¬P a->x a=0
def bd(x:Nat->Fin p)(a:Nat):Fin p:=gY 6 λv=>if a.testBit v then 0 else sg p a v*x (a|||2^v)
def vp(x y:Nat->Fin p)(a:Nat):Fin p:=x a+y a
def CO(x y:Nat->Fin p)(a:Nat):Fin p:=x a-y a
def zjd(x:Nat->Fin p)(a:Nat):Fin p:=- x a
def vsm(c:Fin p)(x:Nat->Fin p)(a:Nat):Fin p:=c*x a
def v0(a:Nat):Fin p:=0
theorem zdQ(x y:Nat->Fin p):bd (vp x y)=vp (bd x) (bd y):=by funext a;show bd _ a=bd x a+bd y a;unfold bd;rw[<- oZ];exact fg 6 λv _=>by unfold vp;split<;>grind
theorem zvE(c:Fin p)(x:Nat->Fin p):bd (vsm c x)=vsm c (bd x):=by funext a;show bd _ a=c*bd x a;unfold bd;rw[<- mq];exact fg 6 λv _=>by unfold vsm;grind
theorem zhp(x y:Nat->Fin p):CO x y=vp x (vsm (-1) y):=by unfold CO vp vsm;grind
theorem ztE(x y:Nat->Fin p):bd (CO x y)=CO (bd x) (bd y):=by simp[zhp,zdQ,zvE]
theorem Wy:bd (v0 (p:=p))=v0:=by funext a;exact jp 6 λv _=>by unfold v0;grind
theorem Wz(b:u<64)(c:B<6):u|||2^B<64:=cu b<|bN om c
theorem su(h:u|||2^B<64):u<64:=bD pt h
theorem zvF{x:Nat->Fin p}(i:On (λa=>a<64) x):bd (bd x)=v0:=by
 funext a;show bd (bd x) a=0;by_cases f:a<64;have:bd (bd x) a=gY 6 λv=>gY 6 λu=>if a.testBit v then 0 else sg p a v*(if(a|||2^v).testBit u then 0 else sg p (a|||2^v) u*x (a|||2^v|||2^u)):=by refine fg 6 λv _=>?_;split;exact(jp 6 λu _=>rfl).symm;rw[mq];rfl
 rw[this];refine Up 6 (λv u g j d=>?_) λv g=>?_;by_cases c:a.testBit v=k0;have b:(a|||2^u).testBit v=true:=by rw[bq,c];rfl
 rw[ae c,ae b];split<;>grind;by_cases b:a.testBit u=k0;have e:(a|||2^v).testBit u=true:=by rw[bq,b];rfl
 rw[ac c,ae b,ae e];grind;have e:(a|||2^v).testBit u=false:=by rw[bq,bR];simp[b];omega
 have k:(a|||2^u).testBit v=false:=by rw[bq,bR];simp[c];omega
 have l:a|||2^u|||2^v=a|||2^v|||2^u:=by rw[xt,JR<|2^u,xt]
 rw[ac c,ac b,ac<|by rw[e];decide,ac<|by rw[k];decide,l];have:=zho (p:=p) f j g (Ne.symm d) (ss b)<|ss c;generalize x (a|||2^v|||2^u)=z;grind;split;rfl;have:(a|||2^v).testBit v=true:=by rw[bq,bR];simp
 rw[ae this];grind;have m:∀v,bd x (a|||2^v)=0:=λv=>jp 6 λu _=>by split;rfl;rw[i _<|λh=>f<|su<|su h];grind
 exact jp 6 λv _=>by split;rfl;rw[m];grind
def lkv(f:V0)(v t:Nat):Bool:=!t.testBit v&&f (t|||2^v)
def dlv(f:V0)(v t:Nat):Bool:=!t.testBit v&&f t
def Rn(v:Nat)(a:Nat):Prop:=a.testBit v=l0
def YM(v:Nat)(x:Nat->Fin p)(a:Nat):Fin p:=if a.testBit v then 0 else sg p a v*x (a|||2^v)
def SV(v:Nat)(x:Nat->Fin p)(a:Nat):Fin p:=if a.testBit v then 0 else x a
def cone(v:Nat)(y:Nat->Fin p)(b:Nat):Fin p:=if b.testBit v then sg p (b ^^^ 2^v) v*y (b ^^^ 2^v)else 0
theorem Fq(h:u.testBit B=k0):(u ^^^ 2^B).testBit B=l0/\(u ^^^ 2^B)|||2^B=u:=by simp[h];refine bB λi=>?_;grind
theorem ztF(h:u.testBit B=l0):(u|||2^B) ^^^ 2^B=u:=by refine bB λi=>?_;grind
theorem ztG:(y|||2^o).testBit o=true:=sp
theorem vq{a u v:Nat}(h:u≠v):(a|||2^u).testBit v=a.testBit v:=by grind
theorem Jz(x:Nat->Fin p):x=vp (SV y x) (cone y (YM y x)):=by funext a;unfold vp SV cone YM;by_cases h:a.testBit y=k0;obtain⟨b,c⟩:=Fq h;rw[ae h,ae h,ac (by rw[b];decide),c];have:=zhn (p:=p) (a ^^^ 2^y) y;generalize x a=z;grind;rw[ac h,ac h];grind
theorem zqu(x:Nat->Fin p):On (Rn y) (SV y x):=λa h=>by unfold SV;rw[ae (by unfold Rn at h;simpa using h)]
theorem zhq(x:Nat->Fin p):On (Rn y) (YM y x):=λa h=>by unfold YM;rw[ae (by unfold Rn at h;simpa using h)]
theorem ztH{x:Nat->Fin p}(h:On (Rn u) x):On (Rn u) (bd x):=λa b=>by
 have b:a.testBit u=true:=by unfold Rn at b;simpa using b
 refine jp 6 λv _=>?_;split;rfl;rename_i c;have:v≠u:=λe=>c (e ▸ b);rw[h _ (by unfold Rn;rw[vq this,b];decide)];grind
theorem zhr(n:u<6){y:Nat->Fin p}(h:On (Rn u) y)(l:On (λa=>a<64) y):bd (cone u y)=CO y (cone u (bd y)):=by
 funext a;show bd (cone u y) a=y a-cone u (bd y) a;by_cases f:a.testBit u=k0;have o:y a=0:=h a (by unfold Rn;rw[f];decide);obtain⟨m,g⟩:=Fq f;have e:cone u (bd y) a=sg p (a ^^^ 2^u) u*bd y (a ^^^ 2^u):=by unfold cone;rw[ae f]
 generalize q:a ^^^ 2^u=c at *;rw[o,e];have s:bd (cone u y) a=gY 6 λv=>(- sg p c u)*(if c.testBit v then 0 else sg p c v*y (c|||2^v)):=by
  refine fg 6 λv r=>?_;by_cases d:a.testBit v=k0;rw[ae d];by_cases e:v=u;subst e;rw[ac (by rw[m];decide),g,o];grind;have:c.testBit v=true:=by rw[<- vq (a:=c) (Ne.symm e),g,d]
  rw[ae this];grind;have b:v≠u:=λe=>d (e ▸ f);have j:c.testBit v=false:=by rw[<- vq (a:=c) (Ne.symm b),g];simpa using d
  rw[ac d,ac (by rw[j];decide)];unfold cone;have t:(a|||2^v).testBit u=true:=by rw[vq b,f]
  rw[ae t];have w:(a|||2^v) ^^^ 2^u=c|||2^v:=by rw[<- g];refine bB λi=>?_;simp only[eS,bq,bR];by_cases e:u=i;subst e;simp[m,b];simp[e]
  rw[w];by_cases k:c<64;have:=zho (p:=p) k n r (Ne.symm b) m j;rw[g]at this;exact ztD this (zhn c v) (zhn a v) _;rw[l _ (λx=>k (su x))];grind
 rw[s,mq];unfold bd;grind;have q:cone u (bd y) a=0:=by unfold cone;rw[ac f]
 rw[q];have:bd (cone u y) a=if a.testBit u then 0 else sg p a u*cone u y (a|||2^u):=Ov 6 n λv r b=>by split;rfl;unfold cone;rw[ac (by rw[vq b];exact f)];grind
 rw[this,ac f];unfold cone;rw[ae (ztG a u),ztF (ss f)];have:=zhn (p:=p) a u;generalize y a=z;grind
end
def CN(f:V0):Prop:=∀s t,f s=k0->s&&&t=t->f t=k0
def Ou(f:V0)(k a:Nat):Prop:=a<64/\f a=k0/\aQ a=k
section
variable {p:Nat}[NeZero p]
def Ac(p:Nat)[NeZero p](f:V0)(k:Nat):Prop:=∀x:Nat->Fin p,On (Ou f k) x->bd x=v0->∃y,On (Ou f (k+1)) y/\bd y=x
theorem On.mono{Q:l1}{x:Nat->Fin p}(h:On P x)(b:∀a,P a->Q a):On Q x:=λa c=>h a λd=>c<|b a d
theorem On.add{x y:Nat->Fin p}(h:On P x)(c:On P y):On P (vp x y):=λa b=>by rw[vp,h a b,c a b];grind
theorem On.sub{x y:Nat->Fin p}(h:On P x)(c:On P y):On P (CO x y):=λa b=>by rw[CO,h a b,c a b];grind
theorem On.lt{x:Nat->Fin p}(h:On (Ou z u) x):On (λa=>a<64) x:=h.mono λa h=>h.1
theorem Hy:∀a,a<64->∀v,v<6->a.testBit v=l0->aQ (a|||2^v)=aQ a+1:=by decide +kernel
theorem tI{a v:Nat}:(a|||2^v)&&&a=a:=by refine bB λi=>?_;grind
theorem zsF(c:CN z){x:Nat->Fin p}(h:On (Ou z (u+1)) x):On (Ou z u) (bd x):=λa d=>by refine jp 6 λv e=>?_;split;rfl;rename_i g;rw[h _ λb=>d ⟨su b.1,c _ _ b.2.1 tI,by have:=Hy a (su b.1) v e<|ss g;have:=b.2.2;omega⟩];grind
theorem ztB{x:Nat->Fin p}(h:On (Ou z 0) x):bd x=v0:=by funext a;refine jp 6 λv c=>?_;split;rfl;rename_i d;rw[h _ λb=>by have:=Hy a (su b.1) v c<|ss d;have:=b.2.2;omega];grind
theorem Ww:dlv z u B=k0↔B.testBit u=l0/\z B=true:=by simp[dlv]
theorem Wx:lkv z u B=k0↔B.testBit u=l0/\z (B|||2^u)=true:=by simp[lkv]
theorem zqr{x:Nat->Fin p}(h:On (Ou (lkv z u) B) x):On (Rn u) x:=h.mono λa b=>(Wx.1 b.2.1).1
theorem ztC{x:Nat->Fin p}(h:On (Ou z B) x):On (Ou (dlv z u) B) (SV u x):=λa c=>by unfold SV;split;rfl;rename_i d;exact h a λb=>c ⟨b.1,Ww.2 ⟨ss d,b.2.1⟩,b.2.2⟩
theorem zhm(b:u<64)(c:B<6):u ^^^ 2^B<64:=gR b<|bN om c
theorem zqs(d:u<6){y:Nat->Fin p}(h:On (Ou (lkv z u) B) y):On (Ou z (B+1)) (cone u y):=λa e=>by unfold cone;split;rename_i g;have⟨i,c⟩:=Fq g;rw[h (a ^^^ 2^u) λb=>e ⟨by rw[<- c];exact Wz b.1 d,by have:=(Wx.1 b.2.1).2;rwa [c]at this,by have:=Hy _ b.1 u d i;rw[c]at this;have:=b.2.2;omega⟩];grind;rfl
theorem zmW(c:u<6){x:Nat->Fin p}(b:On (λa=>a<64) x):bd x=vp (vp (bd (SV u x)) (YM u x)) (cone u (zjd (bd (YM u x)))):=by
 have d:=zhr c (zhq u x) (y:=YM u x) λa e=>by
  unfold YM;split
  ·rfl
  ·rw[b _ λf=>e (su f)];grind
 conv=>lhs;rw[Jz u x,zdQ,d]
 funext a;unfold vp CO cone zjd;split<;>grind
theorem Ac.cone(o:CN z)(g:u<6)(h:∀t,t<64->z t=k0->z (t|||2^u)=k0)(k:Nat):Ac p z k:=by
 intro x j l;have c:=zmW g j.lt;rw[l]at c;have e:bd (SV u x)=zjd (YM u x):=by funext a;by_cases b:a.testBit u=k0;have m:=ztH (zqu u x) a (by unfold Rn;rw[b];decide);have n:=zhq u x a (by unfold Rn;rw[b];decide);unfold zjd;rw[m,n];grind;have d:=congrFun c a;unfold vp Go.Abs.cone v0 at d;rw[ac b]at d;unfold zjd;grind
 have i:On (Ou (lkv z u) k) (SV u x):=(ztC j).mono λa b=>⟨b.1,Wx.2 ⟨(Ww.1 b.2.1).1,h a b.1 (Ww.1 b.2.1).2⟩,b.2.2⟩;refine⟨Go.Abs.cone u (SV u x),zqs g i,?_⟩;rw[zhr g (zqr i) i.lt,e];funext a;have d:x a=SV u x a+Go.Abs.cone u (YM u x) a:=congrFun (Jz u x) a;rw[d];unfold CO Go.Abs.cone zjd;split<;>grind
end
section
variable {p:Nat}[NeZero p]
theorem zbr:0<p:=ov<|NeZero.ne p
def kv(p:Nat)[NeZero p](a:Int):Fin p:=⟨(a%(p:Int)).toNat,by
 have:=zbr (p:=p);have c:=ji a (b:=(p:Int)) om;have d:=jr a (b:=(p:Int)) om;omega⟩
theorem rB:((kv p d).val:Int)=d%(p:Int):=by have:=zbr (p:=p);have c:=jr d (b:=p) om;show((d%p).toNat:Int)=_;omega
theorem WA{b:Int}:kv p D=kv p b↔D%(p:Int)=b%(p:Int):=by rw[<- rB,<- rB b];omega
theorem wN{x:Fin p}(h:(x.val:Int)%(p:Int)=D%(p:Int)):x=kv p D:=by have:=rB (p:=p) D;rw[jH om om]at h;omega
theorem zhu:kv p d+kv p x=kv p (d+x):=by refine wN ?_;rw[Fin.val_add];have c:=rB (p:=p) d;have b:=rB (p:=p) x;rw[wo,Int.natCast_add,c,b];simp[Int.add_emod]
theorem tJ:kv p d*kv p x=kv p (d*x):=by refine wN ?_;rw[Fin.val_mul];have c:=rB (p:=p) d;have b:=rB (p:=p) x;rw[wo,xX,c,b];simp[Int.mul_emod]
theorem zg:kv p 0=0:=rfl
theorem Fr:kv p 1=1:=rfl
theorem Lt:kv p (d%(p:Int))=kv p d:=WA.2 sp
theorem zhv:kv p d-kv p x=kv p (d-x):=by
 have:kv p (d-x)+kv p x=kv p d:=by simp[zhu]
 grind
theorem zqw:- kv p d=kv p (-d):=by
 have:kv p (-d)+kv p d=0:=by rw[zhu,<- zg];grind
 grind
theorem zh:∀l:O0,l.Nodup->kN (λx:Nat->Fin p=>On (λa=>a∈l) x) (p^l.length)
 | [],_=>(kN.one (λ_=>0)).congr λx=>⟨λh a _=>by rw[h],λh=>funext λa=>h a sp⟩
 | b::l,d=>by rw[xW]at d;have i:=zh l d.2;have j:kN (λ_:Fin p=>True) p:=⟨List.finRange p,List.nodup_finRange p,λx=>sp,sp⟩;rw[bH,fm,Gs];refine kN.fib (λx=>x b) j (λ_ _=>trivial) λc _=>i.image (λx a=>if a=b then c else x a) (λx y g k e=>?_) λy=>?_;funext a;by_cases h:a=b;subst h;rw[g a d.1,k a d.1];have:=congrFun e a;simpa[h]using this;constructor;rintro⟨m,n⟩;refine⟨λa=>if a=b then 0 else y a,λa f=>?_,?_⟩;by_cases h:a=b;simp[h];simp[h];exact m a (by simp[h,f]);funext a;by_cases h:a=b;subst h;simp[n];simp[h];rintro⟨x,g,rfl⟩;refine⟨λa f=>?_,sp⟩;have h:¬a=b:=λe=>f (by simp[e]);simp[h];exact g a λo=>f (by simp[o])
def ub(p:Nat)[NeZero p](n:Nat)(r:N0)(x:Nat->Fin p):Fin p:=gY n λj=>kv p (lg r j 0)*x j
def Kq(p:Nat)[NeZero p](n:Nat)(M:fG)(x:Nat->Fin p):Prop:=∀i,i<lh M->ub p n (lg M i []) x=0
theorem zqx{b:Int}(a:lh E=u)(x:Nat->Fin p):ub p u (Gy p b E) x=kv p b*ub p u E x:=by unfold ub;rw[<- mq];refine fg u λj c=>?_;rw[uT _ _ om,Lt,<- tJ];grind
theorem zhw{q:N0}(a:lh E=u)(x:Nat->Fin p):ub p u (Rg p D q E) x=ub p u E x+(- kv p D)*ub p u q x:=by unfold ub;rw[<- mq,<- oZ];refine fg u λj b=>?_;rw[oT _ _ om,Lt,<- zhv,<- tJ];grind
theorem zqy(x:Nat->Fin p):ub p u (E.map λa=>a%(p:Int)) x=ub p u E x:=by refine fg u λj b=>?_;by_cases h:j<lh E;simp[h,Lt];grind
theorem Ow{p:Int}(b:lM p=k0){a:Int}(c:0<=a)(d:a<p)(h:a≠0):a*sk p a%p=1:=by
 rcases zg6.1 b with rfl|rfl|rfl;have:a=1:=om;subst this;decide;have:a=1\/a=2:=om;rcases this with rfl|rfl<;>decide
 have:a=1\/a=2\/a=3\/a=4:=om;rcases this with rfl|rfl|rfl|rfl<;>decide
theorem Fs{M:fG}{b:Nat}:∀(n a:Nat),fV M b a n=a+n->∀i,a<=i->i<a+n->lg (lg M i []) b 0=0
 | 0,a,_,i,c,d=>absurd c om
 | n+1,a,h,i,c,d=>by rw[fV]at h;split at h;rename_i f;by_cases e:i=a;subst e;exact f;exact Fs n (a+1) om i om om;omega
theorem wO{M:fG}{col:Nat}:∀(n a:Nat),fV M col a n≠a+n->fV M col a n<a+n/\(lg M (fV M col a n) []).getD col 0≠0
 | 0,a,h=>absurd rfl h
 | n+1,a,h=>by rw[fV]at h ⊢;split at h;rename_i b;rw[ae b];have:=wO (M:=M) (col:=col) n (a+1) (λe=>h (om));exact⟨om,this.2⟩;grind
structure Ech (p:Int) (n col:Nat) (M:fG) (piv:List Nat):Prop where
 ok:MatOk p n M
 lt:∀c∈piv,c<col
 nd:piv.Nodup
 one:∀k,k<piv.length->(M.getD k []).getD (piv.getD k 0) 0=1
 zer:∀k,k<piv.length->∀i,i<M.length->i≠k->(M.getD i []).getD (piv.getD k 0) 0=0
 low:∀i,piv.length<=i->i<M.length->∀j,j<col->(M.getD i []).getD j 0=0
 len:piv.length<=M.length
theorem vt(d:u<lh G)(f:B<lh G):lg (wJ G u B) N []=if N=B then G.getD u []else if N=u then G.getD B []else G.getD N []:=by unfold wJ;grind
theorem wP{p:Int}{M:fG}{a col i:Nat}(b:a<lh M)(c:i<lh M) :
 (od p a col M).getD i []=if i=a then Gy p (sk p (lg (lg M a []) col 0)) (lg M a [])else Rg p (lg (lg M i []) col 0) (Gy p (sk p (lg (lg M a []) col 0)) (lg M a [])) (lg M i []):=by
 unfold od
 rw[uU _ _ _ (by rwa [oA]),ae c]
 unfold oF yT
 rw[eO b]
 by_cases h:i=a
 subst h;rw[ae rfl,ae rfl,eO b]
 rw[ac h,ac h,il (λe=>h e.symm)]
theorem Ech.step(H:lM D=k0)(h:Ech D u B G A)(I:B<u)(d:lh A<lh G):Ech D u (B+1) (gI D G B A).1 (gI D G B A).2:=by
 have R:0<D:=by have:=jy H;omega
 unfold gI;split;rename_i J;refine⟨h.ok,λc I=>by have:=h.lt c I;omega,h.nd,h.one,h.zer,λi piv w j y=>?_,h.len⟩;have piv:lh A<=i:=piv;have w:i<lh G:=w;have J:fV G B (lh A) (lh G-lh A)=lh G:=J;by_cases e:j=B;subst e;exact Fs (M:=G) (lh G-lh A) (lh A) om i piv om;exact h.low i piv w j om;rename_i J;obtain⟨X,U⟩:=wO (M:=G) (col:=B) (lh G-lh A) (lh A) om;have Y:=(NZ G B (lh G-lh A)<|lh A).1;generalize fV G B (lh A) (lh G-lh A)=t at *;have E:t<lh G:=om;have g:=Wh h.ok d E;have n:=jP G (lh A) t;have F:∀i,lg (wJ G (lh A) t) i []=if i=t then G.getD (lh A) []else if i=A.length then G.getD t []else G.getD i []:=λi=>vt d E
 have K:lg (wJ G (lh A) t) (lh A) []=lg G t []:=by rw[F];by_cases e:lh A=t;rw[ae e,e];rw[ac e,ae rfl]
 have M:∀k,k<lh A->∀i,i<lh G->i≠k->lg (lg (wJ G (lh A) t) i []) (lg A k 0) 0=0:=λk m i z q=>by rw[F];split;exact h.zer k m _ d om;split;exact h.zer k m _ E om;exact h.zer k m i z q
 have V:∀k,k<lh A->lg (lg (wJ G (lh A) t) k []) (lg A k 0) 0=1:=λk m=>by rw[F,ac om,ac om];exact h.one k m
 have O:∀i,lh A<=i->i<lh G->∀j,j<B->lg (lg (wJ G (lh A) t) i []) j 0=0:=λi piv w j y=>by rw[F];split;exact h.low _ (ab _) d j y;split;exact h.low _ om E j y;exact h.low i piv w j y
 have L:lg (lg (wJ G (lh A) t) (lh A) []) B 0≠0:=by rw[K];exact U
 generalize Z:wJ G (lh A) t=S at *;have P:lh (lg S (lh A) [])=u:=g.len _ om;have x:=g.res (lh A) om;have C:=Ow H (x B).1 (x B).2 L;have N:∀i,i<lh S->lg (od D (lh A) B S) i []=_:=λi z=>wP (p:=D) (M:=S) (a:=lh A) (col:=B) om z;have r:∀j,j<u->lg (lg S (lh A) []) j 0=0->lg (Gy D (sk D<|lg (lg S (lh A) []) B 0)<|lg S (lh A) []) j 0=0:=λj y e=>by rw[uT _ _ om,e];simp
 have s:lg (Gy D (sk D<|lg (lg S (lh A) []) B 0)<|lg S (lh A) []) B 0=1:=by rw[uT _ _ om];exact C
 have o:∀k,k<lh A->lg A k 0<u:=λk m=>by have:=h.lt _<|my (by rw[aN m]:A[k]?=n0 A[k]);simp[lg,m];omega
 generalize Gy D (sk D<|lg (lg S (lh A) []) B 0) (lg S (lh A) [])=Q at *;refine⟨Uf R g om,?_,?_,?_,?_,?_,?_⟩;intro c l;rw[gG]at l;rcases l with l|l
 have:=h.lt c l;omega;simp at l;omega;refine List.nodup_append.2 ⟨h.nd,sp,λa L b W e=>?_⟩;simp at W;have:=h.lt a L;omega;intro k m;rw[aA,cG]at m;rw[N k om];by_cases e:k=lh A;subst e;rw[ae rfl];simp[lg]at s ⊢;exact s;have f:k<lh A:=om;have p:lg (A++[B]) k 0=lg A k 0:=by simp[lg,mC,f]
 rw[ac e,p,oT _ _<|by rw[g.len k om];exact o k f,r _ (o k f)<|M k f _ om om,V k f];have:=jy H;rw[ep,jI];exact jH om om;intro k m i z q;rw[gV,n]at z;rw[aA,cG]at m;rw[N i om];by_cases e:k=lh A;subst e;have p:lg (A++[B]) (lh A) 0=B:=by simp[lg]
 rw[p,ac q,oT _ _<|by rw[g.len i om];exact I,s];simp;have f:k<lh A:=om;have p:lg (A++[B]) k 0=lg A k 0:=by simp[lg,mC,f]
 rw[p];split;exact r _ (o k f)<|M k f _ om om;rw[oT _ _<|by rw[g.len i om];exact o k f,r _ (o k f)<|M k f _ om om,M k f i z q];simp;intro i piv w j y;rw[gV,n]at w;rw[aA,cG]at piv;rw[N i om,ac om];rw[oT _ _<|by rw[g.len i om];omega];by_cases e:j=B;subst e;rw[s];simp;rw[r j om<|O _ (ab _) d j om,O i om w j om];simp;rw[aA,cG,gV];omega
end
section
variable {p:Nat}[NeZero p]
theorem zqv(c:B<lh G)(d:N<lh G)(x:Nat->Fin p):Kq p u (wJ G B N) x↔Kq p u G x:=by constructor;intro h i f;have k:=jP G B N;by_cases e:i=B;have:=h N om;rw[vt c d,ae rfl]at this;rw[e];exact this;by_cases g:i=N;have:=h B om;rw[vt c d]at this;by_cases j:B=N;omega;rw[ac j,ae rfl]at this;rw[g];exact this;have:=h i om;rw[vt c d,ac g,ac e]at this;exact this;intro h i f;rw[jP]at f;rw[vt c d];split;exact h B c;split;exact h N d;exact h i f
theorem zjf(o:lM (p:Int)=k0)(l:MatOk p u G)(d:B<lh G)(q:lg (lg G B []) N 0≠0)(x:Nat->Fin p):Kq p u (od p B N G) x↔Kq p u G x:=by
 have m:=l.res B d N;have g:=Ow o m.1 m.2 q;have r:kv p (lg (lg G B []) N 0)*kv p (sk p (lg (lg G B []) N 0))=1:=by rw[tJ,<- Lt,g,Fr]
 generalize s:kv p (sk p (lg (lg G B []) N 0))=w at r;have j:=zqx (p:=p) (b:=sk p (lg (lg G B []) N 0)) (l.len B d) x;rw[s]at j;constructor;intro h;have t:=h B (by rwa [gV]);rw[wP d d,ae rfl,j]at t;have k:ub p u (lg G B []) x=0:=by generalize ub p u (lg G B []) x=z at *;grind
 intro i f;by_cases e:i=B;rw[e];exact k;have M:=h i (by rwa [gV]);rw[wP d f,ac e,zhw (l.len i f),j,k]at M;grind;intro h i f;rw[gV]at f;rw[wP d f];have k:=h B d;split;rw[j,k];grind;rw[zhw (l.len i f),j,k,h i f];grind
theorem Ech.ker(d:lM (p:Int)=k0)(h:Ech p u B G A)(b:lh A<lh G)(x:Nat->Fin p):Kq p u (gI p G B A).1 x↔Kq p u G x:=by
 unfold gI;split;exact mV;rename_i g;obtain⟨i,f⟩:=wO (M:=G) (col:=B) (lh G-lh A) (lh A) om;have j:=(NZ G B (lh G-lh A)<|lh A).1;generalize fV G B (lh A) (lh G-lh A)=t at *;have c:t<lh G:=om;have e:lg (wJ G (lh A) t) (lh A) []=lg G t []:=by rw[vt b c];by_cases e:lh A=t;rw[ae e,e];rw[ac e,ae rfl]
 exact(zjf d (Wh h.ok b c) (by rw[jP];exact b) (by rw[e];exact f) x).trans<|zqv b c x
theorem zhs(d:lM (p:Int)=k0){n:Nat}:∀(k a:Nat)(M:fG)(piv:O0),Ech p n a M piv->a+k=n ->
 (∃b,Ech p n b (oe p M piv a k).1 (oe p M piv a k).2/\(b=n\/(oe p M piv a k).2.length=(oe p M piv a k).1.length))/\∀x:Nat->Fin p,Kq p n (oe p M piv a k).1 x↔Kq p n M x
 | 0,a,M,piv,h,e=>⟨⟨a,h,.inl om⟩,λ_=>mV⟩
 | k+1,a,M,piv,h,e=>by rw[oe];by_cases c:lh piv<lh M;rw[ae c];obtain⟨f,g⟩:=zhs d k (a+1) _ _ (h.step d om c) om;exact⟨f,λx=>(g x).trans<|h.ker d c x⟩;rw[ac c];exact⟨⟨a,h,.inr<|by have:=h.len;show (lh piv)=lh M;omega⟩,λ_=>mV⟩
theorem fY(h:u<lh A):lg A u 0=A[u]:=by grind
def Uq(n:Nat)(piv:O0):O0:=(lc n).filter λj=>!piv.contains j
theorem pY:B∈Uq u A↔B<u/\B∉A:=by simp[Uq]
theorem zbq:(Uq y h).Nodup:=List.nodup_range.filter _
theorem Ur(d:A.Nodup)(f:∀c∈A,c<u):lh (Uq u A)+lh A=u:=by
 have g:=(kN.list d).or (kN.list<|zbq u A) λx a b=>(pY.1 b).2 a;have:=g.uniq ((kN.list<|dC (n:=u)).congr λx=>by rw[pY];grind);grind
theorem zht(h:Ech p u B G A)(g:∀c∈A,c<u)(a:N<lh A)(x:Nat->Fin p) :
 ub p u (lg G N []) x=ub p u (lg G N []) (λj=>if j∈A then 0 else x j)+x (lg A N 0):=by
 have o:gY u (λj=>if j=lg A N 0 then x j else 0)=x (lg A N 0):=by rw[Ov (v:=lg A N 0) u (by rw[fY a];exact g _ (bx a)) λi _ l=>ac l];exact ae rfl
 rw[<- o]
 unfold ub
 rw[<- oZ]
 refine fg u λj q=>?_
 dsimp only
 by_cases b:j∈A
 obtain⟨i,d,rfl⟩:=bV b;rw[ae b];by_cases e:i=N
 subst e;have:=h.one i d;rw[fY d]at this ⊢;rw[this,ae rfl,Fr];grind
 have:=h.zer i d N (by have:=h.len;omega) (λm=>e m.symm);rw[fY d]at this;rw[this,zg,fY a,ac λm=>e ((gd h.nd).1 m)];grind
 have:¬j=lg A N 0:=λe=>b (by rw[e,fY a];exact bx a);rw[ac b,ac this];grind
theorem zjg(h:Ech p u B G A)(t:B<=u)(M:B=u\/A.length=lh G) :
 kN (λx:Nat->Fin p=>On (λa=>a<u) x/\Kq p u G x) (p^(u-lh A)):=by
 have b:∀c∈A,c<u:=λc d=>by have:=h.lt c d;omega
 have w:=Ur h.nd b
 have d:=zh (p:=p) _ (zbq u A)
 rw[show u-lh A=(Uq u A).length by omega]
 refine d.image (λy j=>if j∈A then-ub p u (lg G (A.idxOf j) []) y else y j) (λx y q l e=>?_) λx=>?_
 funext j;by_cases m:j∈A
 rw[q j λd=>(pY.1 d).2 m,l j λd=>(pY.1 d).2 m]
 have:=congrFun e j;simpa[m]using this
 constructor
 rintro⟨q,g⟩;refine⟨λj=>if j∈A then 0 else x j,λa o=>?_,?_⟩
 by_cases e:a∈A
 simp[e]
 simp[e];exact q a λb=>o (pY.2 ⟨b,e⟩)
 funext j;by_cases e:j∈A
 have k:=md e;have f:=g (A.idxOf j) (by have:=h.len;omega);rw[zht h b k,fY k,lF k]at f;simp only[e,eW];generalize ub p u (lg G (A.idxOf j) []) (λj=>if j∈A then 0 else x j)=z at *;grind
 simp[e]
 rintro⟨y,l,rfl⟩;have r:(λj=>if j∈A then 0 else(if j∈A then-ub p u (lg G (A.idxOf j) []) y else y j))=y:=by funext j;by_cases e:j∈A;rw[ae e,l j λd=>(pY.1 d).2 e];rw[ac e,ac e]
 refine⟨λa o=>?_,λi k=>?_⟩
 have e:a∉A:=λe=>o (b a e);show(if a∈A then _ else y a)=0;rw[ac e];exact l a λd=>o (pY.1 d).1
 by_cases g:i<lh A
 rw[zht h b g,r];have piv:lg A i 0∈A:=by rw[fY g];exact bx g
 have:A.idxOf (lg A i 0)=i:=by rw[fY g];exact h.nd.idxOf_getElem i g
 simp only[piv,eW,this];grind
 have s:B=u:=M.resolve_right om;refine jp u λj m=>?_;rw[h.low i om k j om,zg];grind
theorem CP(o:lM (p:Int)=k0){M:fG}{n:Nat}(s:lh (lg M 0 [])=n)(t:∀i,i<lh M->lh (lg M i [])=n) :
 iQ p M<=n/\kN (λx:Nat->Fin p=>On (λa=>a<n) x/\Kq p n M x) (p^(n-iQ p M)):=by
 have u:(0:Int)<p:=by have:=jy o;omega
 have w:Ech p n 0 (nw p M) []:=⟨Wi u t,sp,sp,sp,sp,λi _ _ j q=>absurd q om,sp⟩
 obtain⟨⟨l,d,y⟩,z⟩:=zhs o n 0 (nw p M) [] w om
 unfold iQ
 rw[s]
 generalize oe p (nw p M) [] 0 n=R at *
 have h:∀c∈R.2,c<n:=λc g=>by obtain⟨k,r,rfl⟩:=bV g;refine aC λA=>?_;have f:=d.one k r;rw[fY r]at f;have C:=d.ok.len k (by have:=d.len;omega);rw[lg,eQ om]at f;simp at f
 have m:Ech p n (min l n) R.1 R.2:=⟨d.ok,λc g=>by have:=d.lt c g;have:=h c g;omega,d.nd,d.one,d.zer,λi a b j q=>d.low i a b j om,d.len⟩
 have g:=zjg (p:=p) m om (y.elim (λe=>.inl om) .inr)
 have B:=Ur d.nd h
 refine⟨om,g.congr λx=>?_⟩
 rw[z]
 refine nZ λ_=>?_
 unfold Kq
 rw[qC]
 refine forall_congr' λi=>forall_congr' λD=>?_
 rw[Hu,zqy]
end
theorem zbu:∀(n s:Nat),6-aQ s<=n->s<64->z s=k0->∃t,t<64/\z t=k0/\s&&&t=s/\iF z k0 t=true:=by
 intro n;induction n with
 | zero =>intro s o c g;refine⟨s,c,g,dp s,ku.2 λt a _ d=>aC λi=>?_⟩;have:=ry a c d<|Ne.symm i;have:=jA a;omega
 | succ n p =>
   intro s o c g;cases j:iF z k0 s with
   | true=>exact⟨s,c,g,dp s,j⟩
   | false =>
     have:¬ ∀t,t<64->z t=k0->s&&&t=s->t=s:=λh=>by rw[ku.2 h]at j;cases j
     obtain⟨t,a⟩:=Classical.not_forall.1 this;have k:t<64/\z t=k0/\s&&&t=s/\t≠s:=by refine⟨aC λh=>a λb=>absurd b h,aC λh=>a λ_ b=>absurd b h,aC λh=>a λ_ _ b=>absurd b h,λe=>a λ_ _ _=>e⟩
     obtain⟨l,b,m,q⟩:=k;have f:=ry l c m<|Ne.symm q;have:=jA l;obtain⟨u,r,w,x,y⟩:=p t om l b;exact⟨u,r,w,pV m x,y⟩
theorem ja:u∈dI z K↔(u<64/\z u=k0)/\iF z K u=true:=by rw[dI,dG,cR]
theorem Ft(f:V0)(g:Bool):(dI f g).Pairwise rx:=List.Pairwise.filter _<|wK f
theorem vu(f:V0)(g:Bool):lh (dI f g)<=448:=aJ (aO _ _)<|ordN_len f
theorem Hz:ao (bl L) y=L.any λs=>s&&&y==y:=by rw[ao,bl,List.any_map];rfl
theorem vv:ao (bl (dI w k0)) y=(lc 64).any λs=>w s&&(s&&&y==y):=by
 rw[Hz];refine Bool.eq_iff_iff.2 ⟨λh=>?_,λh=>?_⟩;have⟨s,a,b⟩:=List.any_eq_true.1 h;have⟨⟨c,d⟩,_⟩:=ja.1 a;exact List.any_eq_true.2 ⟨s,List.mem_range.2 c,by rw[d,b];rfl⟩;have⟨s,a,b⟩:=List.any_eq_true.1 h;have a:=List.mem_range.1 a;simp only[aj,aK]at b;have⟨u,e,g,i,j⟩:=zbu (6-aQ s) s (ab _) a b.1;refine List.any_eq_true.2 ⟨u,ja.2 ⟨⟨e,g⟩,j⟩,?_⟩;have k:y&&&s=y:=by rw[cl];exact b.2
 have:=pV k i;rw[cl]at this;simpa using this
def JA(M:fG)(a b:Nat)(x:Int):fG:=M.set a ((lg M a []).set b (lg (lg M a []) b 0+x))
theorem WB:lh (JA M y o x)=lh M:=by simp[JA]
structure Sq (n:Nat) (c:Int) (M:fG):Prop where
 len:M.length=n+1
 row:∀i,i<n+1->(M.getD i []).length=n+1
 small:∀i j,-c<=(M.getD i []).getD j 0/\(M.getD i []).getD j 0<=c
theorem Sq.mono{d:Int}(h:Sq u D G)(a:D<=d):Sq u d G:=⟨h.len,h.row,λi j=>by have:=h.small i j;omega⟩
theorem qE(r:N0):lg (M.set y r) o []=if y=o/\o<M.length then r else M.getD o []:=by grind
theorem Fu:lg (b.set y x) o 0=if y=o/\o<b.length then x else b.getD o 0:=by grind
theorem zmZ{d:Int}(h:Sq u D G)(a b:Nat){x:Int}(k:-d<=x/\x<=d):Sq u (D+d) (JA G a b x):=by refine⟨by rw[WB,h.len],λi e=>?_,λi j=>?_⟩;unfold JA;rw[qE];split;rename_i f;rw[de,f.1];exact h.row i e;exact h.row i e;have f:=h.small i j;unfold JA;grind
theorem zm0:Sq y 0 (ld (y+1) (ld (y+1) 0)):=by
 refine⟨sp,λi a=>by grind,λi j=>?_⟩;grind
def qF(M:fG)(j:Nat)(a:N0):Nat->fG|0=>M|k+1=>if k<=j then JA (qF M j a k) (j-k) j (lg a k 0)else qF M j a k
theorem WC{n j:Nat}(h:Sq n D G)(d:∀k,-200<=lg E k 0/\E.getD k 0<=200):∀k:Nat,Sq n (D+200*k) (qF G j E k):=by
 intro k;induction k with
 | zero=>simpa[qF]using h
 | succ k b =>unfold qF;split;refine (zmZ b _ j<|d k).mono om;exact b.mono om
theorem zjh{M:fG}{hs:N0}(h:u<B):∀m,qF M u hs (B+m)=qF M u hs B:=by
 intro m;induction m with
 | zero=>rfl
 | succ m a =>rw[<- jT,qF,ac om,a]
def mZ(f:V0)(w:Nat)(t:Nat):Bool:=f t&&(w&&&t==t)
def qG(f:V0)(p:Int)(n:Nat):Nat->fG|0=>ld (n+1) (ld (n+1) 0)|w+1=>qF (qG f p n w) (aQ w) (ed (mZ f w) p) (cv (mZ f w))
theorem AJ:-200<=lg (ed w d) y 0/\(ed w d).getD y 0<=200:=by
 by_cases h:y<cv w;rw[pX w d h];have a:=fc w y (ab 64);have b:=qS w d y;have c:=qS w d (y+1);omega;have:lg (ed w d) y 0=0:=by have:(ed w d)[y]?=none:=eQ (by rw[df];omega);grind
 omega
theorem WD:∀n:Nat,Sq y (1400*n) (qG w d y n):=by
 intro n;induction n with
 | zero=>simpa[qG]using zm0 y
 | succ n a =>have b:=eD<|mZ w n;exact (WC a (AJ _ d)<|cv<|mZ w n).mono om
def zqz(f:V0)(p:Int)(n:Nat):fG:=qG f p n (2^n)
theorem zqA{n:Nat}(a:n<=6):Sq n 100000 (zqz w d n):=by refine(WD w d n<|2^n).mono ?_;have:2^n<=2^6:=aV om a;omega
theorem zbv{n w:Nat}(a:n<=6)(h:w<2^n):aQ w<=n:=by
 have b:((lc 7).all λn=>(lc (2^n)).all λw=>decide (CJ w<=n))=true:=dc
 have:=List.all_eq_true.1 (List.all_eq_true.1 b n (List.mem_range.2 om)) w (List.mem_range.2 h);rw[yS (cp h (by have:(2:Nat)^n<=2^6:=aV om a;omega))];simpa using this
def Cb(m:Nat)(f:V0)(s:Nat):Bool:=decide (s<2^m)&&!f (2^m-1-s)
def dL(g:V0)(s t:Nat):Bool:=(t&&&s==0)&&g (t|||s)
theorem zhx:∀m,m<7->∀u,u<2^m->∀s,s<64->((2^m-1-u)&&&s==s)=(decide (s<2^m)&&(u&&&(2^m-1-s)==u)):=by decide +kernel
theorem zmY:∀x,x<64->∀s,s<64->(x&&&s==s)=k0->x-s=x ^^^ s:=dc
theorem cg:u&&&B=B↔∀i,B.testBit i=k0->u.testBit i=true:=by
 refine⟨λh i c=>?_,λh=>bB λi=>?_⟩;rw[<- h,bQ,aj]at c;exact c.1;grind
theorem zbs{x s t:Nat}(k:x<64)(l:s<64):(x&&&s=s/\(x-s)&&&t=t)↔(t&&&s=0/\x&&&(t|||s)=t|||s):=by
 have d:x&&&s=s->∀i,(x-s).testBit i=(x.testBit i&&!s.testBit i):=λh i=>by rw[zmY x k s l (by rw[h];simp),eS];have:=cg.1 h i;cases e:x.testBit i<;>cases g:s.testBit i<;>simp_all
 refine⟨λ⟨e,g⟩=>⟨bB λi=>?_,cg.2 λi f=>?_⟩,λ⟨e,g⟩=>?_⟩;rw[bQ,dQ];have a:=cg.1 g i;rw[d e i]at a;cases m:t.testBit i<;>cases n:s.testBit i<;>simp_all;have a:=cg.1 g i;have b:=cg.1 e i;rw[d e i]at a;rw[bq]at f;cases m:t.testBit i<;>cases n:s.testBit i<;>simp_all;have c:=cg.1 g;have j:x&&&s=s:=cg.2 λi f=>c i (by rw[bq,f];simp);refine⟨j,cg.2 λi f=>?_⟩;rw[d j i,c i (by rw[bq,f];rfl)];have:(t&&&s).testBit i=false:=by rw[e,dQ]
 rw[bQ,f]at this;simp_all
theorem pZ(h:ao E u=k0)(b:u&&&B=B):ao E B=true:=by obtain⟨x,c,d⟩:=eT.1 h;refine eT.2 ⟨x,c,cg.2 λi e=>cg.1 d i<|cg.1 b i e⟩
theorem zdR(x:u<=6)(y:∀B t,z B=k0->B&&&t=t->z t=k0)(p:∀t:Nat,((t:Int)∈E↔∃f,f<2^u/\z f=l0/\(∀v,v<2^u->z v=l0->v&&&f=v->v=f)/\t=2^u-1-f))(r:B<64) :
 ((lc 64).any λt=>decide ((t:Int)∈E)&&(t&&&B==B))=Cb u z B:=by
 have m:=dx x
 refine Bool.eq_iff_iff.2 ⟨λh=>?_,λh=>?_⟩
 obtain⟨t,H,b⟩:=List.any_eq_true.1 h;rw[aj]at b;obtain⟨f,g,a,_,rfl⟩:=(p t).1 (cH b.1);have:=b.2;rw[zhx u om f g B r,aj,aq,aK]at this;unfold Cb;rw[aj,aq];refine⟨this.1,?_⟩;cases j:z (2^u-1-B)with
 | false=>rfl
 | true=>rw[y _ f j<|by rw[cl];exact this.2]at a;cases a
 unfold Cb at h;rw[aj,aq]at h;have j:z (2^u-1-B)=false:=ss h.2
 obtain⟨f,g,a,c,d⟩:∃f,f<2^u/\z f=l0/\(∀v,v<2^u->z v=l0->v&&&f=v->v=f)/\f&&&(2^u-1-B)=f:=by
  let q:V0:=λv=>decide (v<2^u)&&!z v;have i:∀v,q v=k0↔v<2^u/\z v=false:=λv=>by simp[q]
  have e:∀f,f<64->q f=k0->iF q l0 f=k0->f&&&(2^u-1-B)=f->∃f,f<2^u/\z f=l0/\(∀v,v<2^u->z v=l0->v&&&f=v->v=f)/\f&&&(2^u-1-B)=f :=
   λf I b A s=>⟨f,((i f).1 b).1,((i f).1 b).2,λv C k l=>so.1 A v om ((i v).2 ⟨C,k⟩) l,s⟩
  have n:q (2^u-1-B)=true:=(i _).2 ⟨om,j⟩;cases w:iF q l0 (2^u-1-B)with
  | true=>exact e _ om n w<|dp _
  | false =>obtain⟨t,D,o,F,_,G⟩:=Oc (aQ<|2^u-1-B) (2^u-1-B) (ab _) om w;exact e t D o G F
 refine List.any_eq_true.2 ⟨2^u-1-f,List.mem_range.2 om,?_⟩;rw[aj];refine⟨?_,?_⟩
 exact ay<|(p _).2 ⟨f,g,a,c,rfl⟩
 rw[zhx u om f g B r,d,ay h.1];simp
theorem zdS{g:N0}(i:∀x∈E,0<=x/\x<64)(j:u<64)(k:∀v:Nat,((v:Int)∈g↔∃x∈E,x.toNat&&&u=u/\v=x.toNat-u))(t:Nat) :
 ((lc 64).any λv=>decide ((v:Int)∈g)&&(v&&&t==t))=dL (ao E) u t:=by
 refine Bool.eq_iff_iff.2 ⟨λh=>?_,λh=>?_⟩
 obtain⟨v,l,e⟩:=List.any_eq_true.1 h;rw[aj,aK]at e;obtain⟨x,c,f,rfl⟩:=(k v).1 (cH e.1);have:=i x c;obtain⟨a,b⟩:=(zbs (x:=x.toNat) (s:=u) (t:=t) om j).1 ⟨f,e.2⟩;unfold dL;rw[a,eT.2 ⟨x,c,b⟩];rfl
 unfold dL at h;rw[aj,aK]at h;obtain⟨x,c,f⟩:=eT.1 h.2;have:=i x c;obtain⟨a,b⟩:=(zbs (x:=x.toNat) (s:=u) (t:=t) om j).2 ⟨h.1,f⟩;refine List.any_eq_true.2 ⟨x.toNat-u,List.mem_range.2 om,?_⟩;rw[aj,aK];refine⟨?_,b⟩;exact ay<|(k _).2 ⟨x,c,a,rfl⟩
theorem zbt{h:V0}(e:∀u,u<64->z u=h u)(a:u<64)(b:B<64):dL z u B=dL h u B:=by unfold dL;rw[e _<|cu (n:=6) b a]
section
variable {p:Nat}[NeZero p]
def SL(l:O0)(G:Nat->Fin p):Fin p:=l.foldr (λa s=>G a+s) 0
theorem zjc(G:Nat->Fin p):SL (L++h) G=SL L G+SL h G:=by
 induction L with
 | nil=>show SL h G=0+SL h G;grind
 | cons x L c=>show G x+SL (L++h) G=G x+SL L G+SL h G;grind
theorem zhl{b:O0}(G:Nat->Fin p)(h:A.Perm b):SL A G=SL b G:=by
 induction h with
 | nil=>rfl
 | cons x _ c=>show G x+SL _ G=G x+SL _ G;rw[c]
 | swap x y l=>show G y+(G x+SL l G)=G x+(G y+SL l G);grind
 | trans _ _ d e=>omega
theorem vo(G:Nat->Fin p)(q:V0):∀l:O0,(∀a∈l,q a=l0->G a=0)->SL (l.filter q) G=SL l G
 | [],_=>rfl
 | a::l,h=>by have c:=vo G q l λb d=>h b (by simp[d]);by_cases e:q a=k0;rw[List.filter_cons_of_pos e];show G a+SL _ G=G a+SL l G;rw[c];rw[List.filter_cons_of_neg e];show _=G a+SL l G;grind
theorem zvB(G:Nat->Fin p){b:O0}(f:A.Nodup)(c:b.Nodup)(g:∀a∈A,a∉b->G a=0)(h:∀a∈b,a∉A->G a=0):SL A G=SL b G:=by rw[<- vo G (λa=>b.contains a) A λa d e=>g a d<|ss e,<- vo G (λa=>A.contains a) b λa d e=>h a d<|ss e];refine zhl G<|(dn (f.filter _)<|c.filter _).2 λa=>?_;grind
theorem zdP(G:Nat->Fin p):∀l:O0,SL l G=gY (lh l) λj=>G (lg l j 0):=by
 intro l;have a:∀n,n<=lh l->SL (l.take n) G=gY n λj=>G<|lg l j 0:=by
  intro n;induction n with
  | zero=>intro _;simp[SL,gY]
  | succ n b =>
    intro c;rw[gY,<- b om,pq om,zjc];have:SL [l[n]] G=G (lg l n 0):=by show G _+0=_;rw[fY om];grind
    rw[this]
 grind
theorem Fp(f:V0)(k:Nat):∀m,(cd f k m).Nodup
 | 0=>by rw[cd];exact fS
 | m+1=>by have c:=Fp f k m;rw[uX];split;refine List.nodup_append.2 ⟨c,sp,λa d b g e=>?_⟩;simp at g;have:=(fI.1 d).1;omega;rw[bh];exact c
theorem qu:B∈cd z u 64↔Ou z u B:=by rw[fI];rfl
theorem Hx:kN (λx:Nat->Fin p=>On (Ou w y) x) (p^(cd w y 64).length) :=
 (zh _<|Fp w y 64).congr λx=>⟨λh=>h.mono λa=>qu.1,λh=>h.mono λa=>qu.2⟩
theorem zqp:∀b,b<64->∀v,v<6->b.testBit v=l0->lI b (b|||2^v)=if YI b v then 1 else -1:=by decide +kernel
theorem zqq:∀b,b<64->∀a,a<64->aQ a=aQ b+1->lI b a≠0->((lc 6).any λv=>!b.testBit v&&(a==b|||2^v))=true:=by decide +kernel
theorem zwu(a:u<64)(c:B<6)(h:u.testBit B=l0):kv p (lI u (u|||2^B))=sg p u B:=by rw[zqp u a B c h];unfold sg;split;exact Fr;rw[<- zqw,Fr]
theorem ztA(a:u.testBit B=l0)(h:u|||2^B=u|||2^N):B=N:=by have:=cV (λz=>z.testBit B) h;grind
theorem zvC(r:A.Nodup){k b:Nat}(c:∀a∈A,a<64/\aQ a=k+1)(i:b<64)(s:aQ b=k){x:Nat->Fin p}(o:On (λa=>a∈A) x):bd x b=SL A λa=>kv p (lI b a)*x a:=by
 have t:bd x b=SL ((lc 6).map λv=>if b.testBit v then 64+v else b|||2^v) λa=>kv p (lI b a)*x a:=by rw[zdP];unfold bd;rw[show((lc 6).map λv=>if b.testBit v then 64+v else b|||2^v).length=6 by simp];refine fg 6 λv d=>?_;rw[fY<|ss d,aM,bG];by_cases h:b.testBit v=k0;rw[ae h,ae h,o _ λw=>by have:=(c _ w).1;omega];grind;rw[ac h,ac h,zwu i d<|ss h]
 rw[t];refine zvB _ ?_ r (λa _ j=>by rw[o a j];grind) λa j m=>?_;refine List.pairwise_map.2<|List.Pairwise.imp_of_mem ?_ dC;intro u v q d n e;rw[eJ]at q d;by_cases f:b.testBit u=k0;by_cases g:b.testBit v=k0;rw[ae f,ae g]at e;omega;rw[ae f,ac g]at e;have:=Wz i d;omega;by_cases g:b.testBit v=k0;rw[ac f,ae g]at e;have:=Wz i q;omega;rw[ac f,ac g]at e;exact n<|ztA (ss f) e;have y:lI b a=0:=aC λh=>by have:=zqq b i a (c a j).1 (by have:=(c a j).2;omega) h;rw[cS]at this;obtain⟨v,d,e⟩:=this;simp only[aj,bC,aK]at e;exact m<|List.mem_map.2 ⟨v,d,by rw[ac<|by rw[e.1];decide,e.2]⟩
 rw[y,zg];grind
def nul(p:Nat)(f:V0)(k:Nat):Nat:=lh (cd f k 64)-kM f p k
theorem Uo(N:lM (p:Int)=k0)(I:CN z)(k:Nat) :
 kM z p k<=(cd z k 64).length/\kN (λx:Nat->Fin p=>On (Ou z k) x/\bd x=v0) (p^nul p z k):=by
 unfold nul kM
 split
 rename_i h;refine⟨aB _,(Hx z k).congr λx=>⟨λo=>⟨o,?_⟩,λo=>o.1⟩⟩;rcases h with rfl|h
 exact ztB o
 have:x=v0:=funext λa=>o a λc=>by have:=qu.2 c;rw[st h]at this;cases this
 rw[this];exact Wy
 rename_i h;obtain⟨j,rfl⟩:∃j,k=j+1:=⟨k-1,om⟩;rw[dS];have s:=Fp z (j+1) 64;have g:∀a,a∈cd z (j+1) 64↔Ou z (j+1) a:=λa=>qu;have f:cd z j 64=[]->cd z (j+1) 64=[]:=λe=>List.eq_nil_iff_forall_not_mem.2 λa c=>by
  obtain⟨J,O,K⟩:=(g a).1 c;have A:∃v,v<6/\a.testBit v=true:=by
   refine aC λG=>?_;have:a=0:=bB λi=>by rw[dQ];by_cases m:i<6;exact Bool.eq_false_iff.2 λu=>G ⟨i,m,u⟩;exact eK<|cp J<|aV (n:=2) (i:=6) (j:=i) om om
   rw[this,kq]at K;omega
  obtain⟨v,L,w⟩:=A;obtain⟨P,M⟩:=Fq w;have B:=zhm J L;have:=Hy _ B v L P;rw[M,K]at this;have C:a&&&(a ^^^ 2^v)=a ^^^ 2^v:=by have:=tI (a:=a ^^^ 2^v) (v:=v);rwa [M]at this
  have E:a ^^^ 2^v∈cd z j 64:=qu.2 ⟨B,I a _ O C,om⟩;rw[e]at E;cases E
 generalize W:cd z (j+1) 64=d at *;have Q:lh (lg (fy (cd z j 64) d) 0 [])=lh d:=by
  cases R:cd z j 64 with
  | nil=>rw[f R];rfl
  | cons b l=>simp[fy]
 obtain⟨S,U⟩:=CP (p:=p) N Q λi m=>by rw[lO<|by simpa[fy]using m];simp
 refine⟨S,U.image (λy a=>if a∈d then y (d.idxOf a)else 0) (λx y o F e=>?_) λx=>?_⟩
 funext j';by_cases H:j'<lh d
 have:=congrFun e d[j'];simpa[s.idxOf_getElem j' H]using this
 rw[o.1 j' H,F.1 j' H]
 have q:∀(y:Nat->Fin p),On (λa=>a<lh d) y->∀i (m:i<lh (cd z j 64)),bd (λa=>if a∈d then y (d.idxOf a)else 0) ((cd z j 64)[i])=ub p (lh d) (lg (fy (cd z j 64) d) i []) y:=λy F i m=>by have r:=qu.1<|bx m;rw[zvC s (k:=j) (λa c=>⟨((g a).1 c).1,((g a).1 c).2.2⟩) r.1 r.2.2 λa c=>ac c,zdP];unfold ub;refine fg _ λt u=>?_;rw[lO m,fY u,ae<|bx u,s.idxOf_getElem t u,fY m];simp[lg,u]
 constructor
 rintro⟨o,w⟩;refine⟨λt=>if t<d.length then x (lg d t 0)else 0,⟨λa c=>ac c,λi m=>?_⟩,?_⟩
 have m:i<(cd z j 64).length:=by simpa[fy]using m
 have e:(λa=>if a∈d then(if d.idxOf a<d.length then x (lg d (d.idxOf a) 0)else 0)else 0)=x:=by funext a;by_cases c:a∈d;have:=md c;rw[ae c,ae this,fY this,lF this];rw[ac c,o a λr=>c<|(g a).2 r]
 rw[<- q _ (λa c=>ac c) i m,e,w];rfl
 funext a;by_cases c:a∈d
 have:=md c;simp only[c,eW,this];rw[fY this,lF this]
 simp only[c,gx];exact(o a λr=>c<|(g a).2 r).symm
 rintro⟨y,⟨F,V⟩,rfl⟩;have D:On (Ou z<|j+1) λa=>if a∈d then y (d.idxOf a)else 0:=λa c=>ac λE=>c<|(g a).1 E
 refine⟨D,funext λb=>?_⟩;by_cases w:b∈cd z j 64
 obtain⟨i,m,rfl⟩:=bV w;rw[q y F i m];exact V i<|by simpa[fy]using m
 exact zsF I D b λr=>w<|qu.2 r
end
section
variable {p:Nat}[NeZero p]
omit [NeZero p] in
theorem zsE{c:Type}:∀l:List c,∃b:List c,b.Nodup/\∀x,x∈b↔x∈l
 | []=>⟨[],fS,λx=>mV⟩
 | a::l=>by have⟨b,d,f⟩:=zsE l;by_cases h:a∈b;exact⟨b,d,λx=>by grind⟩;exact⟨a::b,List.nodup_cons.2 ⟨h,d⟩,λx=>by grind⟩
structure Sub (S:(Nat->Fin p)->Prop):Prop where
 add:∀x y,S x->S y->S (vp x y)
 sub:∀x y,S x->S y->S (CO x y)
theorem kN.lin{S:(Nat->Fin p)->Prop}{b:(Nat->Fin p)->Nat->Fin p}(g:Sub S)(d:∀x y,b (vp x y)=vp (b x) (b y))(c:∀x y,b (CO x y)=CO (b x) (b y))(l:kN (λx=>S x/\b x=v0) u)(n:kN (λy=>∃x,S x/\b x=y) B):kN S (B*u):=by
 refine kN.fib b n (λx f=>⟨x,f,rfl⟩) λy o=>?_
 have⟨h,i,j⟩:=o
 refine l.image (λx=>vp h x) (λx y _ _ e=>funext λa=>?_) λz=>?_
 have:=congrFun e a;unfold vp at this;grind
 constructor
 rintro⟨q,r⟩;refine⟨CO z h,⟨g.sub _ _ q i,?_⟩,?_⟩
 rw[c,r,j];funext a;unfold CO v0;grind
 funext a;unfold vp CO;grind
 rintro⟨x,⟨f,s⟩,rfl⟩;refine⟨g.add _ _ i f,?_⟩;rw[d,j,s];funext a;unfold vp v0;grind
omit [NeZero p] in
theorem zqo(c:lM (p:Int)=k0)(h:p^u=p^B):u=B:=(tP<|by have:=jy c;omega).1 h
omit [NeZero p] in
theorem zmV(b:lM (p:Int)=k0)(a:Nat):0<p^a:=Nat.pow_pos<|by have:=jy b;omega
theorem ztx(P:l1):Sub (p:=p) (On P):=⟨λ_ _ a b=>a.add b,λ_ _ a b=>a.sub b⟩
theorem zjb(c:lM (p:Int)=k0)(h:CN z)(k:Nat) :
 kN (λy:Nat->Fin p=>∃x,On (Ou z k) x/\bd x=y) (p^kM z p k):=by
 obtain⟨t,i⟩:=Uo (p:=p) c h k
 have j:=Hx (p:=p) z k
 obtain⟨l,u,d,w⟩:=j
 have a:∃m,kN (λy:Nat->Fin p=>∃x,On (Ou z k) x/\bd x=y) m:=by obtain⟨n,o,q⟩:=zsE (l.map bd);refine⟨_,n,o,λy=>?_,rfl⟩;rw[q,dX];exact⟨λ⟨x,b,e⟩=>⟨x,(d x).1 b,e⟩,λ⟨x,b,e⟩=>⟨x,(d x).2 b,e⟩⟩
 obtain⟨m,g⟩:=a
 have r:=kN.lin (ztx _) zdQ ztE i g
 have s:=r.uniq<|Hx z k
 have e:m=p^kM z p k:=by refine Nat.eq_of_mul_eq_mul_right (zmV c<|nul p z k) ?_;rw[s,<- Nat.pow_add];congr 1;unfold nul;omega
 rw[<- e];exact g
theorem zty(d:lM (p:Int)=k0)(j:CN z)(k:Nat):kM z p k+kM z p (k+1)<=(cd z k 64).length/\(kM z p k+kM z p (k+1)=(cd z k 64).length↔Ac p z k):=by
 obtain⟨q,g⟩:=Uo (p:=p) d j k;have l:=zjb (p:=p) d j<|k+1;have c:∀y:Nat->Fin p,(∃x,On (Ou z<|k+1) x/\bd x=y)->On (Ou z k) y/\bd y=v0:=by rintro y ⟨x,i,rfl⟩;exact⟨zsF j i,zvF i.lt⟩
 have n:=(g.rest l c).1;have m:kM z p (k+1)<=nul p z k:=by refine aC λh=>?_;have:=bN (a:=p) (by have:=jy d;omega)<|mX h;omega
 unfold nul at *;refine⟨om,λh=>?_,λh=>?_⟩;have e:lh (cd z k 64)-kM z p k=kM z p (k+1):=om;rw[e]at g;intro x i o;exact g.sub_eq l c x ⟨i,o⟩;have:=g.uniq<|l.congr λy=>⟨c y,λ⟨a,b⟩=>h y a b⟩;have:=zqo d this;omega
theorem ztz(b:cv z<=u):Ac p z u:=λx c _=>by
 have:x=v0:=funext λa=>c a λd=>by have:=qu.2 d;rw[st b]at this;grind
 exact⟨v0,λ_ _=>rfl,by grind⟩
end
section
variable {p:Nat}[NeZero p]
theorem zmU(G:Nat->Fin p):SL [] G=0:=rfl
theorem Ls(G:Nat->Fin p):SL (y::h) G=G y+SL h G:=rfl
theorem ztw(l:O0)(g:T0)(G:Nat->Fin p):SL (l.map g) G=SL l λa=>G (g a):=by
 induction l with
 | nil=>rfl
 | cons a l b=>rw[dR,Ls,Ls,b]
theorem fld(c:lM (p:Int)=k0){a:Fin p}(h:a≠0):∃b:Fin p,a*b=1:=by
 have d:(a.val:Int)≠0:=λe=>h (LF (by have:=Int.ofNat.inj e;simpa using this));have f:=Ow (p:=(p:Int)) c (a:=(a.val:Int)) om (by have:=a.isLt;omega) d;refine⟨kv p (sk p a.val),?_⟩;have g:a=kv p (a.val:Int):=wN rfl;have e:kv p (a.val:Int)*kv p (sk p a.val)=1:=by rw[tJ,<- Fr (p:=p)];refine WA.2 ?_;rw[f];have:=jy c;exact(jH om om).symm
 rw[<- g]at e;exact e
end
section
variable {p:Nat}[NeZero p]
def jn(a b j:Nat):Nat:=if j=a then b else if j=b then a else j
theorem mN(j:Nat):jn y o (jn y o j)=j:=by unfold jn;grind
theorem zhd(c:u<H)(d:B<H)(e:N<H):jn u B N<H:=by unfold jn;grind
theorem Lm(G:Nat->Fin p):gY y G=SL (lc y) G:=by simp[zdP];exact fg y λj a=>by grind
theorem zqa(c:u<N)(d:B<N)(G:Nat->Fin p):gY N (λj=>G (jn u B j))=gY N G:=by rw[Lm,Lm,<- ztw _ _ G];refine zhl G<|(dn ?_ dC).2 λx=>?_;exact List.pairwise_map.2<|List.nodup_range.imp λ{x y}h e=>h<|(mN u B x).symm.trans<|(cV _ e).trans<|mN u B y;rw[dX,eJ];exact⟨λ⟨y,f,g⟩=>g ▸ zhd c d (List.mem_range.1 f),λh=>⟨jn u B x,List.mem_range.2<|zhd c d h,mN u B x⟩⟩
def Ko(m:Nat)(e:X0)(i:Nat)(x:Nat->Fin p):Fin p:=gY m λj=>kv p (e i j)*x j
def Wp(e:X0)(a n m:Nat)(x:Nat->Fin p):Prop:=On (λj=>a<=j/\j<m) x/\∀i,a<=i->i<n->Ko m e i x=0
theorem Oe(a:lM (p:Int)=k0){c:Int}(h:c%(p:Int)≠0):∃q:Fin p,kv p c*q=1:=by refine fld a λb=>h ?_;have:=cV (λx:Fin p=>(x.val:Int)) b;simp only[rB]at this;simp_all
theorem Fl(a:lM (p:Int)=k0){F:X0}(P:Sst q F u B N H I J)(h0:q H I%(p:Int)≠0)(hl:(J:Int)%(p:Int)≠0)(h:kN (Wp (p:=p) F (u+1) B N) O):kN (Wp (p:=p) q u B N) O:=by
 have⟨t,ht,he⟩:=P.eq
 have⟨c,hq⟩:=Oe a h0
 have Q:=P.hj
 have r:=P.hi
 let s:(Nat->Fin p)->Fin p:=λx=>-c*gY N λj=>kv p (q H (jn u I j))*x j
 let o:(Nat->Fin p)->Nat->Fin p:=λx j=>if j=I then s x else x (jn u I j)
 have l:∀x,On (λj=>u+1<=j/\j<N) x->∀i,Ko N q i (o x)=kv p (q i I)*s x+gY N λj=>kv p (q i (jn u I j))*x j:=λx d i=>by
  unfold Ko;rw[<- zqa (show u<N by omega) Q.2 λj=>kv p (q i j)*o x j];have S:x u=0:=d u om;have e1:∀j,j<N->kv p (q i (jn u I j))*o x (jn u I j)=(if j=u then kv p (q i I)*s x else 0)+kv p (q i (jn u I j))*x j:=λj g=>by
   by_cases f:j=u;subst f;have:jn j I j=I:=by unfold jn;rw[ae rfl]
   rw[this,ae rfl,S];show kv p (q i I)*(if I=I then s x else _)=_;rw[ae rfl];grind;have k:jn u I j≠I:=λh=>f (by have:=mN u I j;rw[h]at this;rw[<- this];unfold jn;split;omega;rw[ae rfl]);show kv p (q i (jn u I j))*(if jn u I j=I then s x else x (jn u I (jn u I j)))=_;rw[ac k,mN,ac f];grind
  rw[fg N e1,oZ];congr 1;rw[Lm,<- vo _ (λj=>j==u) (lc N) (λj _ g=>by rw[ac (ss g)])];have U:(lc N).filter (λj=>j==u)=[u]:=by
   have w:((lc N).filter λj=>j==u).Perm [u]:=(dn (List.nodup_range.filter _) sp).2 λx=>by simp;omega
   exact List.perm_singleton.1 w
  rw[U,Ls,zmU,ae rfl];grind
 have j0:∀x,On (λj=>u+1<=j/\j<N) x->Ko N q H (o x)=0:=λx d=>by rw[l x d H];show kv p (q H I)*(-c*_)+_=0;generalize (gY N λj=>kv p (q H (jn u I j))*x j)=A;grind
 have K:∀x,On (λj=>u+1<=j/\j<N) x->∀i,u<i->i<B->Ko N q (ke u H i) (o x)=c*(kv p t*(kv p J*Ko N F i x)):=λx d i w b=>by
  rw[l x d];show kv p (q (ke u H i) I)*(-c*_)+_=_;have e2:kv p t*(kv p J*Ko N F i x)=kv p (q H I)*(gY N λj=>kv p (q (ke u H i) (jn u I j))*x j)-kv p (q (ke u H i) I)*gY N λj=>kv p (q H (jn u I j))*x j:=by
   unfold Ko;rw[<- mq,<- mq,<- mq,<- mq];have e3:∀A n C:Fin p,A+n=C->A=C-n:=λA n C h=>by rw[<- h];grind
   refine e3 _ _ _ ?_;rw[<- oZ];refine fg N λj g=>?_;by_cases f:u<j;have V:jn u I j=ke u I j:=by unfold jn ke;rw[ac om]
   have:=he i j w b f g;rw[V];have e4:kv p t*(kv p J*kv p (F i j))=kv p (q H I)*kv p (q (ke u H i) (ke u I j))-kv p (q (ke u H i) I)*kv p (q H (ke u I j)):=by rw[tJ,tJ,tJ,tJ,zhv,this]
   generalize kv p (F i j)=E at *;generalize kv p (q (ke u H i) (ke u I j))=n at *;generalize kv p (q H (ke u I j))=C at *;generalize kv p (q (ke u H i) I)=D at *;grind;rw[d j om];grind
  rw[e2];generalize (gY N λj=>kv p (q (ke u H i) (jn u I j))*x j)=A at *;generalize (gY N λj=>kv p (q H (jn u I j))*x j)=n at *;generalize kv p (q (ke u H i) I)=D at *;grind
 have⟨tq,a0⟩:=Oe a (c:=t) (by
  have:=jy a;have L:(p:Int)=2\/(p:Int)=3\/(p:Int)=5:=by simpa[lM,or_assoc]using a
  rcases ht with rfl|rfl<;>rcases L with L|L|L<;>rw[L]<;>decide)
 have⟨lq,a1⟩:=Oe a hl
 refine h.image o (λx y d M G=>funext λj=>?_) λy=>⟨λM=>?_,λ⟨x,d,G⟩=>?_⟩
 by_cases f:j=u
 rw[d.1 j om,M.1 j om]
 have:=congrFun G (jn u I j);have k:jn u I j≠I:=λh=>f (by have:=mN u I j;rw[h]at this;rw[<- this];unfold jn;split;omega;rw[ae rfl]);simp only[o]at this;rwa [ac k,ac k,mN]at this
 let x:Nat->Fin p:=λj=>if j=u then 0 else y (jn u I j)
 have d:On (λj=>u+1<=j/\j<N) x:=λj g=>by
  show(if j=u then 0 else y (jn u I j))=0;split;rfl;have:jn u I j=j:=by unfold jn;rw[ac om,ac om]
  rw[this];exact M.1 j om
 have m:∀j,j≠I->o x j=y j:=λj g=>by show(if j=I then s x else(if jn u I j=u then 0 else y (jn u I (jn u I j))))=_;have k:jn u I j≠u:=λh=>g (by have:=mN u I j;rw[h]at this;rw[<- this];unfold jn;rw[ae rfl]);rw[ac g,ac k,mN]
 have z:o x=y:=by
  have W:=j0 x d;have X:=M.2 H r.1 r.2;unfold Ko at W X;have Y:gY N (λj=>kv p (q H j)*o x j)+-1*gY N (λj=>kv p (q H j)*y j)=kv p (q H I)*(o x I-y I):=by
   rw[<- mq,<- oZ,Lm,<- vo _ (λj=>j==I) (lc N) (λj _ g=>by rw[m j (ss g)];grind)];have U:(lc N).filter (λj=>j==I)=[I]:=by
    have w:((lc N).filter λj=>j==I).Perm [I]:=(dn (List.nodup_range.filter _) sp).2 λx=>by simp;omega
    exact List.perm_singleton.1 w
   rw[U,Ls,zmU];grind
  rw[W,X]at Y;funext j;by_cases g:j=I;subst g;have:c*(kv p (q H j)*(o x j-y j))=0:=by rw[<- Y];grind
  grind;exact m j g
 refine⟨x,⟨d,λi w b=>?_⟩,z⟩;have Z:=K x d i om b;have⟨g1,g2,_⟩:=kU r (show u<i by omega) b;rw[z,M.2 _ g1 g2]at Z;generalize Ko N F i x=R at *;have:R=lq*(tq*(kv p (q H I)*(c*(kv p t*(kv p J*R))))):=by grind
 rw[this,<- Z];grind
 subst G;refine⟨λj g=>?_,λi w b=>?_⟩
 show(if j=I then s x else x (jn u I j))=0;rw[ac om];have:jn u I j=j:=by unfold jn;rw[ac om,ac om]
 rw[this];exact d.1 j om
 by_cases e:i=H
 subst e;exact j0 x d.1
 have⟨i',k1,k2,k3⟩:=Oh r w b e;rw[<- k3,K x d.1 i' k1 k2,d.2 i' om k2];grind
theorem mn(e:X0)(r:u<=N)(h:∀i j,u<=i->i<B->u<=j->j<N->e i j%(p:Int)=0):kN (Wp (p:=p) e u B N) (p^(N-u)):=by
 have k:=zh (p:=p) ((lc<|N-u).map λj=>u+j)<|List.pairwise_map.2<|List.nodup_range.imp λh s=>h om;rw[aG,bp]at k;refine k.congr λx=>⟨λf=>?_,λf=>?_⟩;have b:On (λj=>u<=j/\j<N) x:=λj d=>f j λl=>d<|by
  obtain⟨c,c1,c2⟩:=List.mem_map.1 l;have:=List.mem_range.1 c1;omega
 refine⟨b,λi o q=>jp N λj d=>?_⟩;by_cases g:u<=j;have:kv p (e i j)=0:=by rw[<- zg,WA,h i j o q g d];rfl
 rw[this];grind;rw[b j om];grind;intro j d;refine f.1 j λt=>d<|List.mem_map.2 ⟨j-u,List.mem_range.2 om,om⟩
theorem Uh(e:X0)(a n m:Nat):∃c,kN (Wp (p:=p) e a n m) c:=have⟨c,_,h⟩:=(zh _ dC).part λx b j d=>b.1 j λh=>d<|List.mem_range.2 h.2;⟨c,h⟩
end
theorem zmC:lM ((2:Nat):Int)=true:=dc
theorem zmD:lM ((3:Nat):Int)=true:=dc
theorem Od(h:D.natAbs=1):D%((2:Nat):Int)≠0:=om
theorem wM(h:D.natAbs=1\/D.natAbs=2):D%((3:Nat):Int)≠0:=om
def K2(e:X0)(a n m r:Nat):Prop:=kN (Wp (p:=2) e a n m) (2^(m-r))
def K3(e:X0)(a n m r:Nat):Prop:=kN (Wp (p:=3) e a n m) (3^(m-r))
theorem pw2(h:2^(N-u)=2^(N-B))(c:u<=N)(d:B<=N):u=B:=by have:=(tP<|om).1 h;omega
theorem pw3(h:3^(N-u)=3^(N-B))(c:u<=N)(d:B<=N):u=B:=by have:=(tP<|om).1 h;omega
theorem zvw:∀(f:Nat)(S:O0)(e:X0)(b:T0)(a:Nat),a<=N->zi7 u S->Rel (X2 S) e b a B N->ZO S e b a B N->SQ (SW u) f S=l0->∃p,p<=N/\K2 e a B N p/\K3 e a B N p:=by
 intro f;induction f with
 | zero=>intro S e b a _ _ _ _ h;simp[SQ]at h
 | succ f I =>
   intro S e b a l q x E h;unfold SQ at h;rw[sq,ir,eZ,aY]at h;obtain⟨J,h⟩:=h;cases z:(SW u).find? (λr=>S.any λv=>un v r)with
   | none =>
     rw[z]at h;have s:S=[]:=by cases S with|nil=>rfl|cons=>simp at h
     subst s;have F:∀i j,a<=i->i<B->a<=j->j<N->e i j=0:=λi j c d j1 j2=>by
      obtain⟨y,K,_,⟨⟨t,_,d1⟩,_⟩⟩:=x.col j j1 j2;rcases K with rfl|o
      rw[d1 i c d,lU _ (x.lt i c d),ep];simp at o
     exact⟨a,l,mn e l λi j c d j1 j2=>by rw[F i j c d j1 j2];rfl,mn e l λi j c d j1 j2=>by rw[F i j c d j1 j2];rfl⟩
   | some r =>
     rw[z]at h;dsimp only at h;have A:=tG.1 (jo z);cases o:S.find? (λv=>un v r)with
     | none=>rw[o]at h;simp at h
     | some v =>
       rw[o]at h;have G:=jo o;have L:=xU o;have n:=yZ.1 L;obtain⟨j0,j1,j2,H⟩:=E v G;obtain⟨⟨t,M,d1⟩,d2⟩:=id H;have m:∃i,a<=i/\i<B/\b i=r:=aC λk=>by have:=d2 r A.2 λi c d O=>k ⟨i,c,d,O⟩;rw[this]at n;omega
       obtain⟨g,c,d,rfl⟩:=m;have C:e g j0=1\/e g j0=-1:=by rw[d1 g c d];exact Oi M n
       have s:Sst e (λi j=>e g j0*e (ke a g i) (ke a j0 j)-e (ke a g i) j0*e g (ke a j0 j)) a B N g j0 1:=⟨⟨c,d⟩,⟨j1,j2⟩,by rcases C with h|h<;>rw[h]<;>decide,1,.inl rfl,λi j _ _ _ _=>sp⟩;have D:∀w∈yY S v (b g) 1,Bk w=true:=by
        cases f with
        | zero=>simp[SQ]at h
        | succ f=>simp only at h;unfold SQ at h;rw[sq,ir,eZ,aY]at h;exact h.1
       obtain⟨P,Q,R⟩:=Wq s q x E G J H (.inl rfl) D;obtain⟨p,U,V,W⟩:=I _ _ _ (a+1) om P Q R h;exact⟨p,U,Fl zmC s (Od (nab C)) dc V,Fl zmD s (wM (.inl (nab C))) dc W⟩
theorem kN.uniq2(h:K2 q u B N H)(b:K2 q u B N I)(c:H<=N)(d:I<=N):H=I:=pw2 (kN.uniq h b) c d
theorem kN.uniq3(h:K3 q u B N H)(b:K3 q u B N I)(c:H<=N)(d:I<=N):H=I:=pw3 (kN.uniq h b) c d
structure SWq (k n m r2 r3:Nat) (a:Nat) (e:Nat->Nat->Int):Prop where
 an:a<=n
 am:a<=m
 si:∃lam,SIS k e lam a n m
 k2:K2 e a n m r2
 k3:K3 e a n m r3
theorem SWq.small(h:SWq u B N H I J q){j:Nat}(d:J<=O)(f:O<B)(j1:J<=j)(j2:j<N):-2<=q O j/\q O j<=2:=have⟨g,l⟩:=h.si;l.small d f j1 j2
theorem zdH(am:u<=N)(h:H<=N)(k:I<=N)(l:K2 q u B N H)(o:K3 q u B N I)(g:∀i j,u<=i->i<B->u<=j->j<N->q i j=0):H=u/\I=u :=
 ⟨kN.uniq2 l (mn q am λi j d f j1 j2=>by grind) h am,kN.uniq3 o (mn q am λi j d f j1 j2=>by grind) k am⟩
theorem K2.back{b:X0}(h:K2 q u B N O)(g:Sst q b u B N H I J)(i:q H I%((2:Nat):Int)≠0)(j:(J:Int)%((2:Nat):Int)≠0):K2 b (u+1) B N O:=by have⟨c,f⟩:=Uh (p:=2) b (u+1) B N;have:=(Fl zmC g i j f).uniq h;subst this;exact f
theorem K3.back{b:X0}(h:K3 q u B N O)(g:Sst q b u B N H I J)(i:q H I%((3:Nat):Int)≠0)(j:(J:Int)%((3:Nat):Int)≠0):K3 b (u+1) B N O:=by have⟨c,f⟩:=Uh (p:=3) b (u+1) B N;have:=(Fl zmD g i j f).uniq h;subst this;exact f
theorem SWq.go{j0:Nat}(g:Good u)(h:SWq u B N H I J q)(w:H<=N)(x:I<=N)(p:Lst q J B N O j0) :
 ((q O j0).natAbs=1/\∀b,Sst q b J B N O j0 1->SWq u B N H I (J+1) b) \/
   ((q O j0).natAbs=2/\(∀i j,J<=i->i<B->J<=j->j<N->(q i j=0\/(q i j).natAbs=2)/\q O j0*q i j=q i j0*q O j)/\H=J/\I=J+1):=by
 obtain⟨y,z⟩:=h.si
 have t:=p.hi
 have e:=p.hj
 rcases z.out g p with⟨c,d⟩|⟨c,d⟩
 exact .inl ⟨c,λb f=>⟨om,om,⟨_,d b f⟩,h.k2.back f (Od c) dc,h.k3.back f (wM<|.inl c) dc⟩⟩
 refine .inr ⟨c,d,?_,?_⟩
 exact kN.uniq2 h.k2 (mn q h.am λi j r s j1 j2=>by rcases(d i j r s j1 j2).1 with h|h<;>omega) w h.am
 have f:Sst q (λ_ _=>0) J B N O j0 1:=⟨t,e,p.nz,1,.inl rfl,λi j r s j1 j2=>by
  obtain⟨A,a,_⟩:=kU t r s;obtain⟨C,D,_⟩:=kU e j1 j2;rw[(d _ _ A a C D).2];simp⟩
 exact kN.uniq3 (h.k3.back f (wM<|.inr c) dc) (mn _ om λi j _ _ _ _=>rfl) x om
theorem SWq.stop(h:SWq u B N H I J q)(d:H<=N)(f:I<=N)(g:∀i j,J<=i->i<B->J<=j->j<N->q i j=0):H=J/\I=J:=zdH h.am d f h.k2 h.k3 g
structure IW (k n m r2 r3:Nat) (l a:Nat) (e:Nat->Nat->Int):Prop where
 an:a<=n
 am:a<=m
 ii:∃lam,II k l (r2=r3) (K2 e a n m r2) e lam a n m
 k3:K3 e a n m r3
theorem IW.small(h:IW u B N H I J O q){i j:Nat}(d:O<=i)(f:i<B)(j1:O<=j)(j2:j<N):-2<=q i j/\q i j<=2:=have⟨g,o⟩:=h.ii;o.small d f j1 j2
theorem IW.l(h:IW u B N H I J O q):J=1\/J=2:=have⟨d,f⟩:=h.ii;f.l
theorem zwp(a:D≠0)(h:-2<=D/\D<=2):D.natAbs=1\/D.natAbs=2:=om
theorem l3(h:u=1\/u=2):(u:Int)%((3:Nat):Int)≠0:=om
theorem IW.go{b j0:Nat}(g:Good u)(h:IW u B N H I J O q)(z:H<=N)(A:I<=N)(l:O<=b/\b<B)(r:O<=j0/\j0<N)(c:q b j0≠0)(m:∀i j,O<=i->i<b->O<=j->j<N->q i j=0) :
 (∀i j,O<=i->i<B->O<=j->j<N->(J:Int)∣q b j0*q i j-q i j0*q b j)/\∀f,Sst q f O B N b j0 J->IW u B N H I (q b j0).natAbs (O+1) f:=by
 obtain⟨s,t⟩:=h.ii
 have C:=t.l
 have a:=t.small l.1 l.2 r.1 r.2
 obtain⟨D,E⟩:=t.out g (λw S F G=>by
  obtain⟨_,_,d,p,n,_⟩:=F;obtain⟨o,y,e,K⟩:=zvw 5 S q s O h.am d p n G;rw[kN.uniq2 w e z y,kN.uniq3 h.k3 K A y]) l r c m
 refine⟨D,λf x=>⟨om,om,⟨_,E f _ (λw L M=>?_) x⟩,h.k3.back x (wM<|zwp c a)<|l3 C⟩⟩
 subst L
 exact K2.back w x (Od M) dc
theorem IW.stop(h:IW u B N H I J O q)(r:H<=N)(s:I<=N)(g:∀i j,O<=i->i<B->O<=j->j<N->q i j=0):I=O/\(J=1->H=I):=by
 have a:=kN.uniq3 h.k3 (mn q h.am λi j o p j1 j2=>by grind) s h.am;refine⟨a,λt=>?_⟩;obtain⟨e,w⟩:=h.ii;rcases w with⟨_,_,x⟩|⟨f,S,b,y,z⟩
 rw[a];exact kN.uniq2 x (mn q h.am λi j o p j1 j2=>by grind) r h.am;subst t;exact z<|y.fin g
def cz(n m:Nat)(e:X0):fG:=(lc n).map λi=>(lc m).map λj=>e i j
def Bj(e:X0)(a b:Nat)(x:Int):X0:=λi j=>if i=a/\j=b then x else e i j
def ua(a b i:Nat):Nat:=if i=a then b else if i=b then a else i
theorem Hw(c:u<H)(d:B<H)(h:N<H):ua u B N<H:=by unfold ua;grind
theorem mb(h:u<N):ua u B N=ke u B N:=by simp[ua,ke];omega
section
variable {n m:Nat}{e e':X0}
theorem fw:lh (cz n m e)=n:=by simp[cz]
theorem zbd(h:u<n):lg (cz n m e) u []=(lc m).map (e u):=by simp[cz,h]
theorem cr(h:u<n):lh (lg (cz n m e) u [])=m:=by rw[zbd h];simp
theorem dz{i j:Nat}(h:i<n)(a:j<m):lg (lg (cz n m e) i []) j 0=e i j:=by rw[zbd h];grind
theorem dV(h:∀i j,i<n->j<m->e i j=e' i j):cz n m e=cz n m e' :=
 cO λi a=>cO λj b=>h i j (List.mem_range.1 a)<|List.mem_range.1 b
theorem Wo(c:lh G=n)(a:∀i,i<n->lh (lg G i [])=m)(h:∀i j,i<n->j<m->lg (lg G i []) j 0=e i j):G=cz n m e:=by
 refine bE (by rw[fw,c]) λi d l=>?_;have b:i<n:=om;have f:lg G i []=G[i]:=by simp[lg,d]
 have a:=a i b;have h:=λj g=>h i j b g;rw[f]at a h;simp only[cz,aM,bG];refine bE (by simp[a]) λj k o=>?_;rw[aM,bG,<- h j om,fU 0 k]
theorem vc(f:u<n)(x:Int):(cz n m e).set u ((lg (cz n m e) u []).set B x)=cz n m (Bj e u B x):=by refine Wo (by rw[de,fw]) (λi c=>?_) λi j c g=>?_;rw[qE];split;rw[de,cr f];exact cr c;rw[qE];unfold Bj;split;rename_i h;rw[Fu,cr f,dz f g,<- h.1];by_cases d:B=j;rw[ae ⟨d,g⟩,ae ⟨rfl,d.symm⟩];rw[ac λh=>d h.1,ac λh=>d h.2.symm];rename_i h;rw[dz c g,ac λk=>h ⟨k.1.symm,by rw[fw];exact c⟩]
theorem zbe(k:u<n)(l:B<n):wJ (cz n m e) u B=cz n m λi j=>e (ua u B i) j:=by
 have f:∀i,i<n->lg (wJ (cz n m e) u B) i []=lg (cz n m e) (ua u B i) []:=λi c=>by unfold wJ ua;rw[qE,qE,de,fw];grind
 refine Wo (by rw[jP,fw]) (λi c=>?_) λi j c o=>?_;rw[f i c];exact cr<|Hw k l c;rw[f i c];exact dz (Hw k l c) o
end
abbrev SP:=Option (Nat×Nat)
def XR(b:SP->Nat->Nat->SP)(a i:Nat)(s:SP):Nat->SP
 | 0=>s
 | t+1=>b (XR b a i s t) i (a+t)
def th(b:SP->Nat->Nat->SP)(a m:Nat):Nat->SP
 | 0=>o0
 | t+1=>XR b a (a+t) (th b a m t) (m-a)
def CM(e:X0)(s:SP)(i j:Nat):SP:=match s with
 | none=>if e i j=0 then o0 else n0 (i,j)
 | some (r,c)=>if e i j≠0/\(e i j).natAbs<(e r c).natAbs then n0 (i,j)else n0 (r,c)
def yV(e:X0)(s:SP)(i j:Nat):SP:=match s with
 | none=>if e i j=0 then o0 else n0 (i,j)
 | some x=>n0 x
def wL(a m i j b c:Nat):Prop:=a<=b/\a<=c/\c<m/\(b<i\/b=i/\c<j)
def Rm(e:X0)(a m i j:Nat)(s:SP):Prop:=match s with
 | none=>∀b d,wL a m i j b d->e b d=0
 | some (r,c)=>wL a m i j r c/\e r c≠0/\(∀b d,wL a m i j b d->e b d≠0->(e r c).natAbs<=(e b d).natAbs)/\∀b d,a<=b->b<r->a<=d->d<m->e b d≠0->(e r c).natAbs<(e b d).natAbs
def ZK(e:X0)(a m i j:Nat)(s:SP):Prop:=match s with
 | none=>∀b d,wL a m i j b d->e b d=0
 | some (r,c)=>wL a m i j r c/\e r c≠0/\∀b d,a<=b->b<r->a<=d->d<m->e b d=0
section
variable {e:X0}{a m i j n:Nat}{s:SP}
theorem zmv(h:e i j=0):CM e s i j=s:=by
 match s with
 | none=>exact ae h
 | some _=>exact ac λa=>a.1 h
theorem zmw(h:e i j≠0):CM e o0 i j=n0 (i,j):=ac h
theorem zp9(h:e i j≠0)(a:(e i j).natAbs<(e u B).natAbs):CM e (n0 (u,B)) i j=n0 (i,j):=ae ⟨h,a⟩
theorem ztk(a:¬(e i j).natAbs<(e u B).natAbs):CM e (n0 (u,B)) i j=n0 (u,B):=ac λb=>a b.2
theorem uZ(h:wL a m i (j+1) u B):wL a m i j u B\/(u=i/\B=j):=by unfold wL at *;omega
theorem Ug(h:wL a m i j u B):wL a m i (j+1) u B:=by unfold wL at *;omega
theorem yW:wL a m (i+1) a u B↔wL a m i m u B:=by unfold wL;omega
theorem Rm.step(h:Rm e a m i j s)(u:a<=i)(w:a<=j)(x:j<m):Rm e a m i (j+1) (CM e s i j):=by
 have f:wL a m i (j+1) i j:=⟨u,w,x,.inr ⟨rfl,dD j⟩⟩
 match s,h with
 | none,h =>
   unfold CM;by_cases l:e i j=0;simp only[l,eW];intro g k d;rcases uZ d with d|⟨rfl,rfl⟩
   exact h g k d;exact l;simp only[l,gx];refine⟨f,l,λg k d b=>?_,λg k o p n q b=>?_⟩;rcases uZ d with d|⟨rfl,rfl⟩;exact absurd (h g k d) b;exact ab _;exact absurd (h g k ⟨o,n,q,.inl p⟩) b
 | some (r,c),⟨o,p,n,q⟩ =>
   show Rm e a m i (j+1) (if e i j≠0/\(e i j).natAbs<(e r c).natAbs then n0 (i,j)else n0 (r,c));by_cases l:e i j≠0/\(e i j).natAbs<(e r c).natAbs;rw[ae l];refine⟨f,l.1,λg k d b=>?_,λg k y z A B b=>?_⟩;rcases uZ d with d|⟨rfl,rfl⟩;have:=n g k d b;omega;exact ab _;have:=n g k ⟨y,A,B,.inl z⟩ b;omega;rw[ac l];refine⟨Ug o,p,λg k d b=>?_,q⟩;rcases uZ d with d|⟨rfl,rfl⟩
   exact n g k d b;exact Nat.le_of_not_lt λt=>l ⟨b,t⟩
theorem Rm.row(h:Rm e a m i m s):Rm e a m (i+1) a s:=by
 match s,h with
 | none,h=>exact λb d f=>h b d (yW.1 f)
 | some (r,c),⟨g,j,k,l⟩=>exact⟨yW.2 g,j,λb d f=>k b d (yW.1 f),l⟩
theorem Rm.init:Rm e a m a a none:=λb c h=>by unfold wL at h;omega
theorem zmx(h:Rm e a m i a s)(b:a<=i):∀t,a+t<=m->Rm e a m i (a+t) (XR (CM e) a i s t):=by
 intro t;induction t with
 | zero=>intro _;exact h
 | succ t c=>intro d;exact(c om).step b om om
theorem zdF(b:a<=m):∀t,Rm e a m (a+t) a (th (CM e) a m t):=by
 intro t;induction t with
 | zero=>exact Rm.init
 | succ t c =>have:=zmx c om (m-a) om;rw[show a+(m-a)=m by omega]at this;exact this.row
theorem Wm(k:a<=n)(d:a<=m)(h:th (CM e) a m (n-a)=n0 (u,B)):Lst e a n m u B:=by have:=zdF (e:=e) d<|n-a;rw[h,show a+(n-a)=n by omega]at this;obtain⟨⟨l,o,p,c⟩,q,s,t⟩:=this;exact⟨⟨l,om⟩,⟨o,p⟩,q,λi j f g j1 j2 b=>s i j ⟨f,j1,j2,.inl g⟩ b,λi j f g j1 j2 b=>t i j f g j1 j2 b⟩
theorem Wn(c:a<=n)(b:a<=m)(h:th (CM e) a m (n-a)=o0):∀i j,a<=i->i<n->a<=j->j<m->e i j=0:=by have:=zdF (e:=e) b<|n-a;rw[h,show a+(n-a)=n by omega]at this;exact λi j d f j1 j2=>this i j ⟨d,j1,j2,.inl f⟩
theorem ZK.step(h:ZK e a m i j s)(o:a<=i)(p:a<=j)(q:j<m):ZK e a m i (j+1) (yV e s i j):=by
 match s,h with
 | none,h =>
   unfold yV;by_cases b:e i j=0;simp only[b,eW];intro d f g;rcases uZ g with g|⟨rfl,rfl⟩
   exact h d f g;exact b;simp only[b,gx];exact⟨⟨o,p,q,.inr ⟨rfl,dD j⟩⟩,b,λd f k l n t=>h d f ⟨k,n,t,.inl l⟩⟩
 | some (r,c),⟨k,l,n⟩=>exact⟨Ug k,l,n⟩
theorem ZK.row(h:ZK e a m i m s):ZK e a m (i+1) a s:=by
 match s,h with
 | none,h=>exact λb d f=>h b d (yW.1 f)
 | some (r,c),⟨g,j,k⟩=>exact⟨yW.2 g,j,k⟩
theorem ztl(h:ZK e a m i a s)(b:a<=i):∀t,a+t<=m->ZK e a m i (a+t) (XR (yV e) a i s t):=by
 intro t;induction t with
 | zero=>intro _;exact h
 | succ t c=>intro d;exact(c om).step b om om
theorem zmy(b:a<=m):∀t,ZK e a m (a+t) a (th (yV e) a m t):=by
 intro t;induction t with
 | zero=>exact λd f h=>by unfold wL at h;omega
 | succ t c =>have:=ztl c om (m-a) om;rw[show a+(m-a)=m by omega]at this;exact this.row
theorem zdG(d:a<=n)(b:a<=m)(h:th (yV e) a m (n-a)=n0 (u,B)):(a<=u/\u<n)/\(a<=B/\B<m)/\e u B≠0/\∀i j,a<=i->i<u->a<=j->j<m->e i j=0:=by have:=zmy (e:=e) b<|n-a;rw[h]at this;obtain⟨⟨f,g,k,p⟩,l,o⟩:=this;grind
theorem Ll(c:a<=n)(b:a<=m)(h:th (yV e) a m (n-a)=o0):∀i j,a<=i->i<n->a<=j->j<m->e i j=0:=by have:=zmy (e:=e) b<|n-a;rw[h,show a+(n-a)=n by omega]at this;exact λi j d f j1 j2=>this i j ⟨d,j1,j2,.inl f⟩
theorem zmz(x:Nat×Nat)(a i:Nat):∀t,XR (yV e) a i (n0 x) t=n0 x:=by
 intro t;induction t with
 | zero=>rfl
 | succ t b=>rw[XR,b];rfl
theorem zmA{x:Nat×Nat}(h:XR (yV e) a i s u=n0 x):∀t,XR (yV e) a i s (u+t)=n0 x:=by
 intro t;induction t with
 | zero=>exact h
 | succ t b=>rw[<- jT,XR,b];rfl
theorem zmB{x:Nat×Nat}{t:Nat}(h:th (yV e) a m t=n0 x):∀u,th (yV e) a m (t+u)=n0 x:=by
 intro u;induction u with
 | zero=>exact h
 | succ u b=>rw[<- jT,th,b,zmz]
end
theorem zbc{b:X0}(l:N<u)(f:lh E=B)(g:∀j,j<B->lg E j 0=b N j)(k:∀a j,a<u->j<B->a≠N->b a j=q a j):(cz u B q).set N E=cz u B b:=by refine Wo (by rw[de,fw]) (λa h=>?_) λa j h c=>?_;rw[qE];split;exact f;exact cr h;rw[qE];split;rename_i d;rw[<- d.1];exact g j c;rename_i d;rw[dz h c,k a j h c λq=>d ⟨q.symm,by rw[fw];exact h⟩]
theorem zhc(e:u<lh E)(f:B<lh E):lg ((E.set B (lg E u 0)).set u (lg E B 0)) N 0=lg E (ua u B N) 0:=by unfold ua;grind
def Us(e:X0)(Q:U0)(a i0:Nat):X0:=λi j=>if a<i/\i<i0/\a<=j then e i j-Q i*e a j else e i j
def Rz(e:X0)(R:U0)(a j0:Nat):X0:=λi j=>if a<=i/\a<j/\j<j0 then e i j-R j*e i a else e i j
def vw(e:X0)(Q:U0)(a i0 j0:Nat):X0:=λi j=>if i=i0/\a<=j/\j<j0 then e i j-Q i*e a j else Us e Q a i0 i j
def vy(e:X0)(R:U0)(a j0 i0:Nat):X0:=λi j=>if j=j0/\a<=i/\i<i0 then e i j-R j*e i a else Rz e R a j0 i j
section
variable {e:X0}{Q R:U0}{a i j i0 j0 n m:Nat}
theorem HA(h:i<=a):Us e Q a i0 i j=e i j:=ac λb=>om
theorem zm1(h:i0<=i):Us e Q a i0 i j=e i j:=ac λb=>om
theorem WE(h:a<i)(b:i<i0)(c:a<=j):Us e Q a i0 i j=e i j-Q i*e a j:=ae ⟨h,b,c⟩
theorem zdT(h:j<=a):Rz e R a j0 i j=e i j:=ac λb=>om
theorem zm2(h:j0<=j):Rz e R a j0 i j=e i j:=ac λb=>om
theorem ztI(h:a<=i)(b:a<j)(c:j<j0):Rz e R a j0 i j=e i j-R j*e i a:=ae ⟨h,b,c⟩
theorem zjj:vw e Q a i0 a i j=Us e Q a i0 i j:=ac λb=>om
theorem zjk:vy e R a j0 a i j=Rz e R a j0 i j:=ac λb=>om
theorem zm3(h:a<i0):vw e Q a i0 j0 a j=e a j:=by rw[vw,ac λb=>om,HA<|ab a]
theorem zqB(h:j0<=j):vw e Q a i0 j0 i0 j=e i0 j:=by rw[vw,ac λb=>om,zm1<|ab _]
theorem zm4(h:a<j0):vy e R a j0 i0 i a=e i a:=by rw[vy,ac λb=>om,zdT<|ab a]
theorem zqC(h:i0<=i):vy e R a j0 i0 i j0=e i j0:=by rw[vy,ac λb=>om,zm2<|ab _]
theorem zm5(h:a<=j0):Bj (vw e Q a i0 j0) i0 j0 (e i0 j0-Q i0*e a j0) i j=vw e Q a i0 (j0+1) i j:=by unfold Bj vw;grind
theorem zm6(h:a<=i0):Bj (vy e R a j0 i0) i0 j0 (e i0 j0-R j0*e i0 a) i j=vy e R a j0 (i0+1) i j:=by unfold Bj vy;grind
theorem zm7(h:a<i0)(f:j<m):vw e Q a i0 m i j=Us e Q a (i0+1) i j:=by unfold vw Us;omega
theorem zm8(h:a<j0)(f:i<n):vy e R a j0 n i j=Rz e R a (j0+1) i j:=by unfold vy Rz;by_cases d:j=j0;subst d;by_cases b:a<=i;rw[ae ⟨rfl,b,f⟩,ae ⟨b,h,om⟩];rw[ac λc=>b c.2.1,ac λc=>b c.1,ac λc=>b c.1];rw[ac λc=>d c.1];by_cases b:a<=i/\a<j/\j<j0;rw[ae b,ae om];rw[ac b,ac om]
end
theorem qd(b:P0):(t.toList==b.toList)=decide (t=b):=by rw[aZ,aK,aq,ByteArray.toList_eq,ByteArray.toList_eq];exact⟨λh=>iR<|Array.toList_inj.1 h,λh=>by rw[h]⟩
def PO(t:P0)(k:Nat):Bool:=(lc k).all λi=>decide (97<=fK t i/\fK t i<=102/\(i=0\/fK t (i-1)<fK t i))
def wQ(t:P0):Bool:=decide (t=⟨#[45]⟩)
def uq(t:P0):Bool:=wQ t||(decide (1<=t.size)&&PO t t.size)
def Br(t:P0):Nat:=if !wQ t&&PO t t.size then oU t t.size else 0
theorem FD:PO t (y+1)=(PO t y&&decide (97<=fK t y/\fK t y<=102/\(y=0\/fK t (y-1)<fK t y))):=by simp[PO,bW]
theorem ue{k i:Nat}(h:PO F k=k0)(a:i<k):97<=fK F i/\fK F i<=102/\(i=0\/fK F (i-1)<fK F i) :=
 cH<|List.all_eq_true.1 h i<|List.mem_range.2 a
theorem zd2{t:P0}{i k:Nat}(a:i<k)(h:¬(97<=fK t i/\fK t i<=102/\(i=0\/fK t (i-1)<fK t i))):PO t k=false:=by
 cases e:PO t k with
 | false=>rfl
 | true=>exact absurd (ue e a) h
theorem zqH(h:PO F u=k0):∀i,i<u->97+i<=fK F i:=by
 intro i;induction i with
 | zero=>intro a;exact(ue h a).1
 | succ i b =>intro a;have c:=(ue h a).2.2;grind
theorem ztM(h:PO F u=k0):u<=6:=by rcases tg u with a|a;omega;have b:=zqH h (u-1) om;have c:=ue h (i:=u-1) om;omega
theorem OE(h:PO F (u+1)=k0):2^(fK F u-97)<=oU F (u+1)/\oU F (u+1)<2^(fK F u-97+1):=by
 induction u with
 | zero=>rw[AE,rN];grind
 | succ u b =>have a:=h;rw[FD,aj]at h;have c:=(b h.1).2;have d:=(ue a (i:=u+1) om).2.2;rw[dS]at d;rw[AE F<|u+1];refine⟨Nat.right_le_or,cu (cp c<|aV om om)<|bN om om⟩
theorem znf(h:PO F (u+1)=k0):oU F u<2^(fK F u-97):=by
 cases u with
 | zero=>exact qZ _
 | succ u =>have a:=(ue h (i:=u+1) om).2.2;have b:=ue h (i:=u) om;rw[dS]at a;rw[FD,aj]at h;exact cp (OE h.1).2<|aV om om
theorem zng(h:PO F (u+1)=k0):oU F u+2^(fK F u-97)=oU F (u+1):=by have e:=rJ (znf h) 1;simp_all[AE,JR,xr]
theorem OF(h:PO F u=k0):oU F u<64:=by
 cases u with
 | zero=>simp[rN]
 | succ u =>have:=ue h (i:=u) om;exact cp (OE h).2<|show 2^(fK F u-97+1)<=2^6 from aV om om
theorem znh(h:PO F u=k0)(b:97<=fK F u):oU F u >>> (fK F u-97)=0↔(u=0\/fK F (u-1)<fK F u):=by
 rw[nb,Nat.div_eq_zero_iff];cases u with
 | zero=>simp[rN,qZ]
 | succ u =>have c:=OE h;have d:=ue h (i:=u) om;rw[dS];have e:=qZ<|fK F (u+1)-97;constructor;intro a;refine Or.inr<|mX λf=>?_;have:2^(fK F (u+1)-97)<=2^(fK F u-97):=aV om om;omega;intro a;have:2^(fK F u-97+1)<=2^(fK F (u+1)-97):=aV om om;omega
theorem FE(h:wQ F=k0):Br F=0/\uq F=true:=by simp[Br,uq,h]
theorem zd3(h:wQ F=l0)(a:PO F F.size=l0):Br F=0/\uq F=false:=by simp[Br,uq,h,a]
theorem FG(h:wQ F=l0)(a:PO F F.size=k0):Br F=oU F F.size/\uq F=decide (1<=F.size):=by simp[Br,uq,h,a]
theorem OkSet.ps(h:OkSet F):Br F=oU F F.size/\uq F=true:=by
 have d:=by have:=h.dash;rwa[qd]at this
 have e:PO F _=true:=List.all_eq_true.2 λi b=>ay<|by
  have b:=List.mem_range.1 b;have a:=h.letter i b;refine⟨a.1,a.2,?_⟩;rcases tg i with c|c
  exact Or.inl c;exact Or.inr<|h.rise i b c
 have a:=FG d e;simp_all[h.lo]
structure SqB (M:fG):Prop where
 len:M.length<=7
 row:∀i,i<M.length->(M.getD i []).length=M.length
 small:∀i j,-100000<=(M.getD i []).getD j 0/\(M.getD i []).getD j 0<=100000
theorem SqB.nil:SqB []:=⟨sp,λi h=>sp,λi j=>sp⟩
theorem SqB.of(h:Sq u 100000 G)(b:u<=6):SqB G:=⟨by rw[h.len];omega,λi a=>by rw[h.len]at a ⊢;exact h.row i a,h.small⟩
def MU(i:Nat)(x:Int):Int:=if i%2=0 then x else -x
def piv(e:X0)(a r c:Nat):X0:=λi j=>e (ua a r i) (ua a c j)
def Mz(e:X0)(n m a r c:Nat):Nat->Nat->Int :=
 Rz (Us (piv e a r c) (λi=>piv e a r c i a/e r c) a n) (λj=>piv e a r c a j/e r c) a m
section
variable {e:X0}{k n m r2 r3 a r c i j:Nat}
theorem znj(i:Nat):ua y o i=ua o y i:=by unfold ua;grind
theorem mv:ua y o y=o:=ae rfl
theorem nU(h:u<=N/\N<B)(c:u<=H)(d:H<B):u<=ua u N H/\ua u N H<B:=by unfold ua;grind
theorem wS:piv e a r c a a=e r c:=by simp[piv,mv]
theorem znk{x p:Int}(a:p.natAbs=1\/(p.natAbs=2/\(x=0\/x.natAbs=2)))(b:-2<=x/\x<=2):x=p*(x/p)/\-2<=x/p/\x/p<=2:=by have:p=1\/p=-1\/p=2\/p=-2:=om;rcases this with h|h|h|h<;>subst h<;>omega
theorem znl(b:a<i)(d:i<n)(f:a<j)(g:j<m)(h:piv e a r c i a=e r c*(piv e a r c i a/e r c)):Mz e n m a r c i j=piv e a r c i j-piv e a r c i a/e r c*piv e a r c a j:=by
 unfold Mz;rw[ztI om f g,WE b d om,WE b d (ab a),wS];have:piv e a r c i a-piv e a r c i a/e r c*e r c=0:=by rw[kZ,<- h];omega
 rw[this];omega
theorem zd6:Mz e n m a r c a a=e r c:=by unfold Mz;rw[zdT (ab a),HA (ab a),wS]
theorem zqI(f:a<=r/\r<n)(b:a<=c/\c<m)(l:(e r c).natAbs=1)(o:∀i j,a<=i->i<n->a<=j->j<m->-2<=e i j/\e i j<=2):Sst e (Mz e n m a r c) a n m r c 1:=by
 refine⟨f,b,om,e r c,om,λi j d g j1 j2=>?_⟩;have h:=nU f (dY d) g;have t:=nU b (dY j1) j2;have q:=(znk (x:=piv e a r c i a) (.inl l) (by unfold piv;rw[mv];exact o _ _ h.1 h.2 b.1 b.2)).1;rw[znl d g j1 j2 q];have p:piv e a r c i j=e (ke a r i) (ke a c j):=by unfold piv;rw[mb d,mb j1]
 have s:piv e a r c a j=e r (ke a c j):=by unfold piv;rw[mv,mb j1]
 have k:piv e a r c i a=e (ke a r i) c:=by unfold piv;rw[mv,mb d]
 rw[k]at q;rw[p,s,k,Int.natCast_one,jL,tQ,<- fE,<- q]
theorem znm{x y z:Int}(d:D.natAbs=2)(h:D*x=y*z)(b:y=D*(y/D)):x-y/D*z=0:=by
 grind
theorem zd7(g:Good k)(h:SWq k n m r2 r3 a e)(B:r2<=m)(C:r3<=m)(x:Lst e a n m r c) :
 (∀i,a<i->i<n->piv e a r c i a=e r c*(piv e a r c i a/e r c)/\-2<=piv e a r c i a/e r c/\piv e a r c i a/e r c<=2) /\
 (∀j,a<j->j<m->piv e a r c a j=e r c*(piv e a r c a j/e r c)/\-2<=piv e a r c a j/e r c/\piv e a r c a j/e r c<=2) /\
 (∀i j,a<=i->i<n->a<=j->j<m->-2<=piv e a r c i j/\piv e a r c i j<=2) /\
 (∀i j,a<i->i<n->a<j->j<m->(Mz e n m a r c i j).tmod (e r c)=0) /\
 (((e r c).natAbs=1/\SWq k n m r2 r3 (a+1) (Mz e n m a r c))\/((e r c).natAbs=2/\(∀i j,a<i->i<n->a<j->j<m->Mz e n m a r c i j=0)/\r2=a/\r3=a+1)):=by
 have u:=x.hi
 have w:=x.hj
 have z:∀i j,a<=i->i<n->a<=j->j<m->-2<=e i j/\e i j<=2:=λi j d b j1 j2=>h.small d b j1 j2
 have p:∀i j,a<=i->i<n->a<=j->j<m->-2<=piv e a r c i j/\piv e a r c i j<=2:=λi j d b j1 j2=>by have l:=nU u d b;have o:=nU w j1 j2;exact z _ _ l.1 l.2 o.1 o.2
 have s:=h.go g B C x
 have y:∀i j,a<=i->i<n->a<=j->j<m->piv e a r c i j=e r c*(piv e a r c i j/e r c)/\-2<=piv e a r c i j/e r c/\piv e a r c i j/e r c<=2:=λi j d b j1 j2=>by
  refine znk ?_ (p i j d b j1 j2);rcases s with⟨f,_⟩|⟨f,t,_⟩
  exact .inl f;have l:=nU u d b;have o:=nU w j1 j2;exact .inr ⟨f,(t _ _ l.1 l.2 o.1 o.2).1⟩
 refine⟨λi d b=>y i a om b (ab a) om,λj j1 j2=>y a j (ab a) om om j2,p,?_⟩
 rcases s with⟨f,t⟩|⟨f,t,D,E⟩
 refine⟨λi j _ _ _ _=>?_,.inl ⟨f,t _ (zqI u w f z)⟩⟩;have:e r c=1\/e r c=-1:=om;rcases this with h|h<;>rw[h]<;>simp
 have A:∀i j,a<i->i<n->a<j->j<m->Mz e n m a r c i j=0:=λi j d b j1 j2=>by have q:=(y i a om b (ab a) om).1;rw[znl d b j1 j2 q];have l:=nU u (dY d) b;have o:=nU w (dY j1) j2;have:=(t _ _ l.1 l.2 o.1 o.2).2;refine znm f ?_ q;unfold piv;rw[mv,mv];exact this
 exact⟨λi j d b j1 j2=>by rw[A i j d b j1 j2];exact Int.zero_tmod _,.inr ⟨f,A,D,E⟩⟩
end
def crs(e:X0)(a:Nat)(l:Int)(i j:Nat):Int:=(e i j*e a a-e i a*e a j).tdiv l
def MD(e:X0)(a:Nat)(l:Int)(i0:Nat):X0:=λi j=>if a<i/\i<i0/\a<=j then(if j=a then 0 else crs e a l i j)else e i j
def rC(e:X0)(a:Nat)(l:Int)(i0 j0:Nat):X0:=λi j=>if i=i0/\a<j/\j<j0 then crs e a l i j else MD e a l i0 i j
section
variable {e:X0}{a i j i0 j0 n m:Nat}{l:Int}
theorem znn(h:i<=a):MD e a l i0 i j=e i j:=ac λb=>om
theorem zno(h:i0<=i):MD e a l i0 i j=e i j:=ac λb=>om
theorem ztO(h:a<i)(b:i<i0)(c:a<j):MD e a l i0 i j=crs e a l i j:=by unfold MD;rw[ae om,ac om]
theorem zjr:rC e a l i0 (a+1) i j=MD e a l i0 i j:=ac λb=>om
theorem zbF(h:a<i0):rC e a l i0 j0 a j=e a j:=by rw[rC,ac λb=>om,znn<|ab a]
theorem zqK(h:j0<=j):rC e a l i0 j0 i0 j=e i0 j:=by rw[rC,ac λb=>om,zno<|ab _]
theorem znp:rC e a l i0 j0 i0 a=e i0 a:=by rw[rC,ac λb=>om,zno<|ab _]
theorem znq(h:a<j0):Bj (rC e a l i0 j0) i0 j0 (crs e a l i0 j0) i j=rC e a l i0 (j0+1) i j:=by unfold Bj rC;grind
theorem znr(h:a<i0)(g:j<m):Bj (rC e a l i0 m) i0 a 0 i j=MD e a l (i0+1) i j:=by unfold Bj rC MD;by_cases d:i=i0;subst d;by_cases c:j=a;rw[ae ⟨rfl,c⟩,ae (show a<i/\i<i+1/\a<=j from ⟨h,dD i,om⟩),ae c];rw[ac λb=>c b.2];by_cases f:a<j;rw[ae ⟨rfl,f,g⟩,ae (show a<i/\i<i+1/\a<=j from ⟨h,dD i,om⟩),ac c];rw[ac λb=>f b.2.1,ac λb=>om,ac λb=>by omega];rw[ac λb=>d b.1,ac λb=>d b.1];by_cases c:a<i/\i<i0/\a<=j;rw[ae c,ae (show a<i/\i<i0+1/\a<=j by omega)];rw[ac c,ac om]
def bst(e:X0)(n a r c:Nat)(l:Int):X0:=MD (piv e a r c) a l n
theorem zqL(k:N=1\/N=2)(t:l=(N:Int)\/l=-(N:Int))(f:a<=u/\u<n)(g:a<=B/\B<m)(d:e u B≠0)(c:∀i j,a<=i->i<n->a<=j->j<m->(N:Int)∣e u B*e i j-e i B*e u j):Sst e (bst e n a u B l) a n m u B N:=by
 refine⟨f,g,d,if l=(N:Int)then 1 else -1,by split<;>simp,λi j b o j1 j2=>?_⟩;have p:=nU f (dY b) o;have q:=nU g (dY j1) j2;have w:piv e a u B i j=e (ke a u i) (ke a B j):=by unfold piv;rw[mb b,mb j1]
 have z:piv e a u B a j=e u (ke a B j):=by unfold piv;rw[mv,mb j1]
 have A:piv e a u B i a=e (ke a u i) B:=by unfold piv;rw[mv,mb b]
 have s:=c _ _ p.1 p.2 q.1 q.2;rw[mb b,mb j1]at s;unfold bst;rw[ztO b o j1];unfold crs;rw[w,z,A,wS,kZ<|e (ke a u i)<|ke a B j];generalize e u B*e (ke a u i) (ke a B j)-e (ke a u i) B*e u (ke a B j)=x at *;obtain⟨y,rfl⟩:=s;rcases t with h|h
 rw[ae h,h,jS _ om];omega;rw[ac om,h,Int.tdiv_neg,jS _ om,Int.mul_neg,Int.neg_mul_neg,jL]
end
def HJ(n m:Nat):Nat->(X0)->Nat->Int->Int
 | 0,_,_,l=>l
 | f+1,e,a,l=>match th (yV e) a m (n-a)with
   | none=>l
   | some (r,c)=>HJ n m f (bst e n a r c l) (a+1) (e r c)
theorem UD(h:th (yV q) H B (u-H)=o0):HJ u B (N+1) q H D=D:=by rw[HJ,h]
theorem UE(h:th (yV q) H B (u-H)=n0 (I,J)):HJ u B (N+1) q H D=HJ u B N (bst q u H I J D) (H+1) (q I J):=by rw[HJ,h]
theorem zns{c l:Nat}(g:Good u)(h:IW u B N H I l J q)(e:H<=N)(s:I<=N)(t:D=(l:Int)\/D=-(l:Int))(L:th (yV q) J N (B-J)=n0 (O,c)) :
 (J<=O/\O<B)/\(J<=c/\c<N)/\q O c≠0/\(∀i j,J<=i->i<B->J<=j->j<N->-2<=q i j/\q i j<=2)/\IW u B N H I (q O c).natAbs (J+1) (bst q B J O c D):=have⟨f,o,p,w⟩:=zdG h.an h.am L;have⟨x,y⟩:=h.go g e s f o p w;⟨f,o,p,λi j z A j1 j2=>h.small z A j1 j2,y _<|zqL h.l t f o p x⟩
theorem zhD{k n m d i:Nat}(g:Good k)(j:d<=m)(o:i<=m):∀(f a l:Nat)(e:X0)(L:Int),n+1<=a+f->IW k n m d i l a e->(L=(l:Int)\/L=-(l:Int))->((HJ n m f e a L).natAbs=1\/(HJ n m f e a L).natAbs=2)/\((HJ n m f e a L).natAbs=1->d=i)
 | 0,a,l,e,L,q,h,_=>by have:=h.an;omega
 | f+1,a,l,e,L,q,h,s=>by
   cases b:th (yV e) a m (n-a)with
   | none =>rw[UD b];have t:=(h.stop j o<|Ll h.an h.am b).2;have w:=h.l;exact⟨om,λp=>t om⟩
   | some u =>obtain⟨r,c⟩:=u;rw[UE b];obtain⟨_,_,_,_,p⟩:=zns g h j o s b;exact zhD g j o f (a+1) _ _ _ om p om
theorem vI{p:Nat}[NeZero p](g:lM (p:Int)=k0)(L H:O0):iQ p (fy L H)<=lh H/\kN (Wp (p:=p) (Of L H) 0 (lh L) (lh H)) (p^(lh H-iQ p (fy L H))):=by
 by_cases k:L=[];subst k;have l:=(CP (p:=p) g (M:=fy [] H) (n:=0) (by simp[fy])<|λi b=>by simp[fy]at b).1;rw[show iQ (p:Int) (fy [] H)=0 by omega];exact⟨aB _,mn _ (aB _) λi j _ h=>absurd h sp⟩;have d:0<lh L:=List.length_pos_iff.2 k;have c:∀i,i<lh L->lh (lg (fy L H) i [])=lh H:=λi b=>by rw[lO b];simp
 obtain⟨l,m⟩:=CP (p:=p) g (M:=fy L H) (n:=lh H) (c 0 d) (λi b=>c i<|by rwa [gX]at b);refine⟨l,m.congr λx=>?_⟩;unfold Wp Kq;have f:On (λj=>0<=j/\j<lh H) x↔On (λa=>a<lh H) x:=⟨λh j e=>h j om,λh j e=>h j om⟩;rw[f,gX];refine nZ λ_=>⟨λh i _ b=>?_,λh i b=>?_⟩;rw[<- h i b];refine fg _ λj e=>?_;rw[lO b];unfold Of;simp[lg,e];rw[<- h i (aB _) b];refine fg _ λj e=>?_;rw[lO b];unfold Of;simp[lg,e]
def Th(M:fG):N0:=ld (iQ 2 M) 1++ld (iQ 3 M-iQ 2 M) 2
section
variable {k:Nat}{f:V0}
abbrev Lo(f:V0)(k:Nat):O0:=cd f k 64
abbrev Bm(f:V0)(k:Nat):fG:=fy (cd f k 64) (cd f (k+1) 64)
theorem UJ:iQ 2 (Bm w y)<=(Lo w (y+1)).length:=(vI zmC _ _).1
theorem JC:iQ 3 (Bm w y)<=(Lo w (y+1)).length:=(vI zmD _ _).1
theorem SWq.start(g:Good k)(c:∀a b,b<64->f b=k0->a&&&b=a->f a=k0):SWq k (Lo f k).length (Lo f (k+1)).length (iQ 2 (Bm f k)) (iQ 3 (Bm f k)) 0 (Of (Lo f k) (Lo f (k+1))) :=
 ⟨aB _,aB _,⟨_,.inl ⟨0,g.start c⟩⟩,(vI zmC _ _).2,(vI zmD _ _).2⟩
theorem IW.start(g:Good k)(c:∀a b,b<64->f b=k0->a&&&b=a->f a=k0):IW k (Lo f k).length (Lo f (k+1)).length (iQ 2 (Bm f k)) (iQ 3 (Bm f k)) 1 0 (Of (Lo f k) (Lo f (k+1))) :=
 ⟨aB _,aB _,⟨_,.inl ⟨rfl,⟨0,g.start c⟩,(vI zmC _ _).2⟩⟩,(vI zmD _ _).2⟩
end
theorem UI:fy L h=cz (lh L) (lh h) (Of L h):=by refine Wo (gX L h) (λi a=>by rw[lO a,aG]) λi j a b=>?_;rw[lO a];simp[Of,b]
def zk(e:X0)(j:Nat):Nat->Nat
 | 0=>0
 | i+1=>zk e j i+(e i j).natAbs
theorem zhG:(lI y o).natAbs=if y&&&o=y then 1 else 0:=by unfold lI;grind
theorem zqR:∀i,i<=lh L->zk (Of L h) o i=((L.take i).filter λa=>a&&&h.getD o 0==a).length:=by
 intro i;induction i with
 | zero=>intro _;rfl
 | succ i b =>intro c;rw[zk,bj 0<|by omega,aW,aA];rw[Of,zhG];grind
theorem zju:∀b,b<64->lh ((lc 64).filter λa=>(aQ a+1==aQ b)&&(a&&&b==a))<=6:=by decide +kernel
theorem zbK(f:V0)(k:Nat)(h:u<=lh (Lo f k))(g:B<lh (Lo f (k+1))):zk (Of (Lo f k) (Lo f (k+1))) B u<=6:=by
 rw[zqR _ _ _ _ h];have l:lg (Lo f<|k+1) B 0∈Lo f (k+1):=by rw[lg,aN g];exact bx g
 obtain⟨d,c⟩:=List.mem_filter.1 l;rw[aj,aK]at c;have m:=zju _<|List.mem_range.1 d;generalize (Lo f<|k+1).getD B 0=b at *;refine aJ (((List.take_sublist u<|Lo f k).filter _).length_le)<|aJ ?_ m;unfold Lo cd;rw[ou];rw[<- iG,<- iG];refine yj λa _ e=>?_;grind
theorem zwF:ZT 0=true:=by decide +kernel
theorem zwG:ZT 1=true:=by decide +kernel
theorem zwH:ZT 2=true:=by decide +kernel
theorem zwI:ZT 3=true:=by decide +kernel
theorem zwJ:ZT 4=true:=by decide +kernel
theorem zwK:ZT 5=true:=by decide +kernel
theorem zqS:∀k,k<6->ZT k=k0
 | 0,_=>zwF|1,_=>zwG|2,_=>zwH|3,_=>zwI|4,_=>zwJ|5,_=>zwK
 | k+6,h=>absurd h om
theorem Kw(h:u<6):Good u:=zqe<|zqS u h
theorem zsG{k n m b d:Nat}(g:Good k)(i:b<=m)(j:d<=m):∀(f a:Nat)(e:X0),n+1<=a+f->SWq k n m b d a e->b<=d
 | 0,a,e,p,h=>by have:=h.an;omega
 | f+1,a,e,p,h=>by
   cases l:th _ a m (n-a)with
   | none =>have:=h.stop i j<|Wn h.an h.am l;omega
   | some q =>
     obtain⟨_,_,_,_,s⟩:=zd7 g h i j (Wm h.an h.am l);rcases s with⟨_,o⟩|⟨_,_,o,t⟩
     exact zsG g i j f _ _ om o;omega
theorem zsH(c:u<6)(d:∀a b,b<64->z b=k0->a&&&b=a->z a=k0):iQ 2 (Bm z u)<=iQ 3 (Bm z u) :=
 zsG (Kw c) (UJ z u) (JC z u) (lh (Lo z u)+1) 0 _ om<|SWq.start (Kw c) d
theorem Lv{f:V0}{k:Nat}(c:k<6)(d:∀a b,b<64->f b=k0->a&&&b=a->f a=k0):lh (Th (Bm f k))=iQ 3 (Bm f k):=by have:=zsH c d;unfold Th;rw[aA,cX,cX];omega
theorem ztX:∀k,k<7->lh ((lc 64).filter λa=>aQ a==k)<=20:=by decide +kernel
theorem UH{k:Nat}(b:k<7):lh (Lo w k)<=20:=by refine aJ ?_<|ztX k b;rw[Lo,cd,<- iG,<- iG];exact yj λa _ c=>((aj _ _).mp c).2
def Kv(e:X0)(a i0:Nat):X0:=λi j=>if a<i/\i<i0/\a<=j then(e i j+e i a*e a j)%2 else e i j
def UF(e:X0)(a i0 j0:Nat):X0:=λi j=>if i=i0/\a<=j/\j<j0 then(e i j+e i a*e a j)%2 else Kv e a i0 i j
def FK(e:X0)(a j0:Nat):X0:=λi j=>if i=a/\a<j/\j<j0 then 0 else e i j
def Tb(e:X0)(n m a:Nat):X0:=FK (Kv e a n) a m
def HL(n m:Nat)(e:X0):Prop:=∀i j,i<n->j<m->e i j=0\/e i j=1
section
variable {e e':X0}{a i j i0 j0 n m r c:Nat}
theorem zqN{y z:Int}(a:D=0\/D=1):(D+y*z)%2=0\/(D+y*z)%2=1:=om
theorem OH(h:i<=a):Kv e a i0 i j=e i j:=ac λb=>om
theorem znu(h:i0<=i):Kv e a i0 i j=e i j:=ac λb=>om
theorem znv(h:a<i)(b:i<i0)(c:a<=j):Kv e a i0 i j=(e i j+e i a*e a j)%2:=ae ⟨h,b,c⟩
theorem zbH:UF e a i0 a i j=Kv e a i0 i j:=ac λb=>om
theorem ztR(h:a<i0):UF e a i0 j0 a j=e a j:=by rw[UF,ac λb=>om,OH<|ab a]
theorem ztS(h:j0<=j):UF e a i0 j0 i0 j=e i0 j:=by rw[UF,ac λb=>om,znu<|ab _]
theorem zqO(h:a<=j0):Bj (UF e a i0 j0) i0 j0 ((e i0 j0+e i0 a*e a j0)%2) i j=UF e a i0 (j0+1) i j:=by unfold Bj UF;grind
theorem zqP(h:a<i0)(g:j<m):UF e a i0 m i j=Kv e a (i0+1) i j:=by unfold UF Kv;grind
theorem znw(d:HL n m e)(b:i0<n)(h:e i0 a=0)(f:j<m):Kv e a i0 i j=Kv e a (i0+1) i j:=by unfold Kv;by_cases g:i=i0;subst g;rw[ac λk=>om];split;have:=d i j b f;rw[h];omega;rfl;grind
theorem zbI(b:HL n m e):HL n m (Kv e a i0):=λi j c d=>by unfold Kv;split;exact zqN<|b i j c d;exact b i j c d
theorem znx(b:HL n m e):HL n m (FK e a j0):=λi j c d=>by unfold FK;split;exact .inl rfl;exact b i j c d
theorem zny(b:HL n m e):HL n m (Tb e n m a):=znx (zbI b)
theorem zhE(b:e a a=1)(d:e i a=0\/e i a=1)(h:a<i)(c:i<i0):Kv e a i0 i a=0:=by rw[znv h c<|ab a,b];omega
theorem WG(h:i≠a):FK e a j0 i j=e i j:=ac λb=>h b.1
theorem zd9(h:j<=a):FK e a j0 i j=e i j:=ac λb=>om
theorem znz(h:j0<=j):FK e a j0 a j=e a j:=ac λb=>om
theorem znA:FK e a (a+1) i j=e i j:=ac λb=>om
theorem zqQ(h:a<j0):Bj (FK e a j0) a j0 0 i j=FK e a (j0+1) i j:=by unfold Bj FK;omega
theorem znB(h:e a j0=0):FK e a j0 i j=FK e a (j0+1) i j:=by unfold FK;grind
theorem zjt(h:e a u=D):Bj e a u D i j=e i j:=by simp_all[Bj]
theorem ztT:Tb e n m a a a=e a a:=by unfold Tb;rw[zd9 (ab a),OH (ab a)]
theorem ztU(h:i<a):Tb e n m a i j=e i j:=by unfold Tb;rw[WG om,OH om]
theorem UG(h:∀i j,a<=i->i<n->a<=j->j<m->e i j%2=e' i j%2)(g:K2 e a n m u):K2 e' a n m u:=by
 refine g.congr λx=>nZ λk=>?_;have d:∀i,a<=i->i<n->Ko m e i x=Ko m e' i x:=λi b c=>by
  refine fg m λj l=>?_;by_cases f:a<=j;have:kv 2 (e i j)=kv 2 (e' i j):=by rw[WA];exact h i j b c f l
  rw[this];rw[k j om];grind
 grind
theorem ztV(t:HL n m e)(g:a<=r/\r<n)(h:a<=c/\c<m)(f:e r c=1)(k:K2 e a n m u):K2 (Tb (piv e a r c) n m a) (a+1) n m u:=by
 have l:Sst e (λi j=>e r c*e (ke a r i) (ke a c j)-e (ke a r i) c*e r (ke a c j)) a n m r c 1:=⟨g,h,om,1,.inl rfl,λi j _ _ _ _=>sp⟩;refine UG (λi j b o j1 j2=>?_) (k.back l (by rw[f];decide) dc);unfold Tb;rw[WG om,znv b o om];have p:piv e a r c i j=e (ke a r i) (ke a c j):=by unfold piv;rw[mb b,mb j1]
 have q:piv e a r c a j=e r (ke a c j):=by unfold piv;rw[mv,mb j1]
 have s:piv e a r c i a=e (ke a r i) c:=by unfold piv;rw[mv,mb b]
 rw[p,q,s,f];omega
theorem zbJ(f:HL n m e)(b:a<n/\r<n)(d:a<m/\c<m):HL n m (piv e a r c):=λ_ _ g h=>f _ _ (Hw b.1 b.2 g)<|Hw d.1 d.2 h
theorem ztW(b:a<=r)(d:a<=c)(f:i<a)(g:j<a):piv e a r c i j=e i j:=by unfold piv ua;grind
structure MW (n m r2 b a:Nat) (e:Nat->Nat->Int):Prop where
 ba:b<=a
 bn:b<=n
 bm:b<=m
 bt:HL n m e
 on:∀i,i<b->e i i=1
 k2:K2 e b n m r2
 zr:b=a\/∀i j,b<=i->i<n->b<=j->j<m->e i j=0
theorem MW.step(h:MW n m u a a e)(f:a<=r/\r<n)(g:a<=c/\c<m)(j:e r c=1):MW n m u (a+1) (a+1) (Tb (piv e a r c) n m a):=by refine⟨ab _,om,om,zny (zbJ h.bt om om),λi k=>?_,ztV h.bt f g j h.k2,.inl rfl⟩;by_cases b:i=a;subst b;rw[ztT,wS,j];rw[ztU om,ztW f.1 g.1 om om];exact h.on i om
theorem MW.skip(h:MW n m u B a e)(d:∀i j,B<=i->i<n->B<=j->j<m->e i j=0):MW n m u B (a+1) e:=⟨by have:=h.ba;omega,h.bn,h.bm,h.bt,h.on,h.k2,.inr d⟩
theorem MW.fin(h:MW n m u B (min n m) e)(k:u<=m):u=B/\∀i,i<min n m->e i i=if i<u then 1 else 0:=by
 have c:∀i j,B<=i->i<n->B<=j->j<m->e i j=0:=by rcases h.zr with d|d;exact λi j f g j1 j2=>om;exact d
 have l:=kN.uniq2 h.k2 (mn e h.bm λi j f g j1 j2=>by grind) k h.bm;refine⟨l,λi o=>?_⟩;split;exact h.on i om;grind
theorem MW.start(b:K2 (λi j=>e i j%(B:Int)) 0 n m u)(c:B=1\/B=2):MW n m u 0 0 (λi j=>e i j%(B:Int)) :=
 ⟨ab _,aB _,aB _,λi j _ _=>by grind,λi h=>om,b,.inl rfl⟩
end
def AN(b t N:Nat):N0:=(lc N).map λi=>if i<b then 1 else(t:Int)
theorem Dc(N:Nat):lh (AN y o N)=N:=by simp[AN]
theorem OI(h:H<N):lg (AN u B N) H 0=if H<u then 1 else(B:Int):=by simp[AN,h]
theorem znC{b t N k:Nat}(h:k<=N):(AN b t N).take k=AN b t k:=by unfold AN;rw[<- List.map_take,List.take_range,ra h]
theorem zhF(h:u<=N):AN u B N=ld u 1++ld (N-u) (B:Int):=by refine bE (by rw[Dc];grind) λi a c=>?_;simp[AN,List.getElem_append]
theorem zvI{k n m l b:Nat}(g:Good k)(d:l<=m)(i:b<=m):∀(f a:Nat)(e:X0),n+1<=a+f->SWq k n m l b a e->b<=n
 | 0,a,e,p,h=>by have:=h.an;omega
 | f+1,a,e,p,h=>by
   cases j:th (CM e) a m (n-a)with
   | none =>have:=h.stop d i<|Wn h.an h.am j;have:=h.an;omega
   | some q =>
     obtain⟨_,_,_,_,s⟩:=zd7 g h d i (Wm h.an h.am j);rcases s with⟨_,o⟩|⟨_,_,o,t⟩
     exact zvI g d i f (a+1) _ om o;have:=(Wm h.an h.am j).hi;omega
def zn7(w t:Nat):Bool:=w&&&t==t
theorem Ar:zn7 u B=k0↔u&&&B=B:=by simp[zn7]
theorem zt6(a:u&&&B=B)(b:B&&&N=N):u&&&N=N:=by grind
theorem zjL:CN (zn7 y):=λs t a b=>Ar.2 (zt6 (Ar.1 a) b)
theorem zra:∀w,w<64->∀t,t<64->w&&&t=t->aQ (w ^^^ t)+aQ t=aQ w:=by decide +kernel
section
variable {p:Nat}[NeZero p]
theorem zt7(d:u<64)(f:u≠0)(k:Nat):Ac p (zn7 u) k:=by
 have:∃v,v<6/\u.testBit v=true:=by refine aC λb=>f (bB λi=>?_);rw[dQ];by_cases a:i<6;exact Bool.eq_false_iff.2 λc=>b ⟨i,a,c⟩;exact eK (cp d (aV (n:=2) (i:=6) (j:=i) om om))
 obtain⟨v,g,h⟩:=this;refine Ac.cone (zjL u) g (λt _ c=>?_) k;rw[Ar,cg]at *;intro i a;rw[bq,bR]at a;by_cases e:v=i;exact e ▸ h;exact c i (by simpa[e]using a)
def res(f:V0)(x:Nat->Fin p)(a:Nat):Fin p:=if f a=k0 then 0 else x a
end
def zn6(w t:Nat):Nat->Nat|0=>0|v+1=>zn6 w t v+if t.testBit v then aQ (w&&&(2^v-1))else 0
def eB(w t:Nat):Bool:=zn6 w t 6%2==0
section
variable {p:Nat}[NeZero p]
end
def zem(f:V0)(p:Int)(k:Nat):Int:=((cd f k 64).length:Int)-kM f p k-kM f p (k+1)
theorem zq9:lg (ed w d) y 0=zem w d y:=by
 by_cases h:y<cv w;exact pX w d h;have a:lg (ed w d) y 0=0:=by rw[lg,eQ (by rw[df];omega)];rfl
 rw[a];unfold zem kM;rw[st om,ae (.inr om),ae (.inr om)];rfl
section
variable {p:Nat}[NeZero p]
theorem Xa(a:lM (p:Int)=k0)(b:CN z)(k:Nat):0<=zem z p k/\(zem z p k=0↔Ac p z k):=by obtain⟨d,c⟩:=zty (p:=p) a b k;unfold zem;rw[<- c];omega
end
def SI(l:O0)(G:U0):Int:=l.foldr (λa s=>G a+s) 0
theorem zn5(G:U0):SI [] G=0:=rfl
theorem WZ(G:U0):SI (y::h) G=G y+SI h G:=rfl
theorem zjK(G:U0):SI (L++h) G=SI L G+SI h G:=by
 induction L with
 | nil=>simp[zn5]
 | cons x L c=>rw[kE,WZ,WZ,c];omega
end Go.Abs
