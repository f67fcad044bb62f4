/- DERIVED by an AI agent. -/
import Derived.Test.YtpnknaaehcljoaaA11
import Derived.Test.YtpnknaaehcljoaaA12
/- DERIVED by an AI agent. Plain facts of lists. No program in sight. -/
namespace Go.Abs
theorem zaC {α:Type} {xs:List α} {i:Nat} (d:α) (h:i < xs.length):xs.getD i d ∈ xs:=by
 have:xs.getD i d = xs[i]:=by simp [List.getD,h]
 rw [this];exact List.getElem_mem h
theorem zd4 {α:Type} {xs:List α} {i:Nat} (d:α) (h:i < xs.length):xs.getD i d = xs[i]:=by simp [List.getD,h]
theorem zbz {α:Type} {xs:List α} {x:α} (d:α) (h:x ∈ xs):∃ i,i < xs.length∧xs.getD i d = x:=by
 obtain ⟨i,hi,rfl⟩:=List.getElem_of_mem h
 exact ⟨i,hi,zd4 d hi⟩
theorem zaF {α:Type} {xs:List α} {i:Nat} (d:α) (h:i < xs.length):xs.take (i + 1) = xs.take i ++ [xs.getD i d]:=by
 rw [zd4 d h];simp
theorem zbF {α:Type} {xs:List α} {i:Nat} (d:α) (h:i < xs.length):xs.drop i = xs.getD i d :: xs.drop (i + 1):=by
 rw [zd4 d h];simp
theorem zaf {i n:Nat} (h:i < n) (hn:n ≤ 9223372036854775807):IntKind.i64.wrap ((i:Int) + 1) = ((i + 1:Nat):Int):=by
 rw [zaq (by omega) (by omega)];rfl
theorem zbi (k:Nat):((k:Int) - 1).toNat = k - 1:=by omega
end Go.Abs

/- DERIVED by an AI agent. Plain facts of small numbers as sets. No program in sight. -/
namespace Go.Abs
def zaX (n:Nat):Nat:=if h:n = 0 then 0 else n % 2 + zaX (n / 2)
termination_by n
decreasing_by omega
theorem zfx:zaX 0 = 0:=by rw [zaX];simp
theorem zlp {n:Nat} (h:n ≠ 0):zaX n = n % 2 + zaX (n / 2):=by rw [zaX];simp [h]
theorem zz5 (n:Nat):zaX n ≤ n:=by
 induction n using Nat.strongRecOn with
 | ind n ih =>
   by_cases h:n = 0
   ·subst h;simp [zfx]
   ·rw [zlp h]
    have:=ih (n / 2) (by omega)
    omega
def zBO (n:Nat):Nat:=n % 2 + n / 2 % 2 + n / 4 % 2 + n / 8 % 2 + n / 16 % 2 + n / 32 % 2
theorem zoh {n:Nat} (h:n < 64):zaX n = zBO n:=by
 have st:∀ s,zaX s = s % 2 + zaX (s / 2):=by
  intro s
  by_cases h0:s = 0
  ·subst h0;simp [zfx]
  ·exact zlp h0
 rw [st n,st (n / 2),st (n / 2 / 2),st (n / 2 / 2 / 2),st (n / 2 / 2 / 2 / 2),st (n / 2 / 2 / 2 / 2 / 2)]
 have h6:n / 2 / 2 / 2 / 2 / 2 / 2 = 0:=by omega
 rw [h6,zfx]
 unfold zBO
 omega
theorem zxF {n:Nat} (h:n < 9223372036854775808):zet .i64 (n:Int) 1 = ((n % 2:Nat):Int):=by
 have e:(BitVec.ofInt 64 (n:Int) &&& BitVec.ofInt 64 1).toNat = n % 2:=by
  have h1:BitVec.ofInt 64 (n:Int) = BitVec.ofNat 64 n:=by simp
  have h2:BitVec.ofInt 64 (1:Int) = 1#64:=by decide
  rw [h1,h2,BitVec.toNat_and,BitVec.toNat_ofNat,Nat.mod_eq_of_lt (by omega)]
  simp
 show IntKind.i64.wrap (((BitVec.ofInt 64 (n:Int) &&& BitVec.ofInt 64 1).toNat:Nat):Int) = _
 rw [e,zaq (by omega) (by omega)]
theorem zxG (n:Nat):zkG .i64 (n:Int) 1 = ((n / 2:Nat):Int):=by
 simp [zkG,IntKind.bits]
 exact Int.fdiv_eq_ediv_of_nonneg _ (by omega)
theorem zcC {n:Nat} (h:n ≤ 6):zoE .i64 1 (n:Int) = ((2 ^ n:Nat):Int):=by
 have:∀ m:Fin 7,zoE .i64 1 ((m.val:Nat):Int) = ((2 ^ m.val:Nat):Int):=by decide +kernel
 exact this ⟨n,by omega⟩
theorem ziS {n:Nat} (h:n < 9223372036854775808):IntKind.u64.wrap (n:Int) = (n:Int):=by
 simp [IntKind.wrap,IntKind.bits,IntKind.signed]
 omega
def zcx (n s:Int):Bool:=decide (0 ≤ n∧n ≤ 6∧0 ≤ s∧s < 2 ^ n.toNat)
theorem ziT (m:Nat):(2:Int) ^ ((m:Int)).toNat = ((2 ^ m:Nat):Int):=by simp
theorem zce {m:Nat} (h:m ≤ 6):2 ^ m ≤ 64:=by
 have:∀ k:Fin 7,2 ^ k.val ≤ 64:=by decide
 exact this ⟨m,by omega⟩
theorem zeh {n s:Int} (h:zcx n s = true):0 ≤ s∧s < 64:=by
 simp only [zcx,decide_eq_true_eq] at h
 obtain ⟨h0,h6,hs,hl⟩:=h
 obtain ⟨m,rfl⟩:=Int.eq_ofNat_of_zero_le h0
 rw [ziT] at hl
 have:=zce (m:=m) (by omega)
 omega
end Go.Abs

/- DERIVED by an AI agent. Plain facts of sets as numbers, of lists that are rearranged. No program in sight. -/
namespace Go.Abs
theorem zhw {a:Nat} (ha:a < 9223372036854775808):(BitVec.ofInt 64 (a:Int)).toNat = a:=by
 simp
 omega
theorem zdA {a b:Nat} (ha:a < 9223372036854775808) (hb:b < 9223372036854775808):zet .i64 (a:Int) (b:Int) = ((a &&& b:Nat):Int):=by
 show IntKind.i64.wrap (((BitVec.ofInt 64 (a:Int) &&& BitVec.ofInt 64 (b:Int)).toNat:Nat):Int) = _
 rw [BitVec.toNat_and,zhw ha,zhw hb]
 have:a &&& b ≤ a:=Nat.and_le_left
 exact zaq (by omega) (by omega)
theorem zwc {a b:Nat} (ha:a < 9223372036854775808) (hb:b < 9223372036854775808):a ^^^ b < 9223372036854775808:=Nat.xor_lt_two_pow (n:=63) ha hb
theorem ziY {a b:Nat} (ha:a < 9223372036854775808) (hb:b < 9223372036854775808):zd2 .i64 (a:Int) (b:Int) = ((a ^^^ (a &&& b):Nat):Int):=by
 have h:BitVec.ofInt 64 (a:Int) &&& ~~~ BitVec.ofInt 64 (b:Int) = BitVec.ofInt 64 (a:Int) ^^^ (BitVec.ofInt 64 (a:Int) &&& BitVec.ofInt 64 (b:Int)):=by
  ext i hi
  simp only [BitVec.getElem_and,BitVec.getElem_not,BitVec.getElem_xor]
  cases (BitVec.ofInt 64 (a:Int))[i] <;> cases (BitVec.ofInt 64 (b:Int))[i] <;> rfl
 show IntKind.i64.wrap (((BitVec.ofInt 64 (a:Int) &&& ~~~ BitVec.ofInt 64 (b:Int)).toNat:Nat):Int) = _
 rw [h,BitVec.toNat_xor,BitVec.toNat_and,zhw ha,zhw hb]
 have h1:a &&& b ≤ a:=Nat.and_le_left
 have:=zwc (a:=a) (b:=a &&& b) ha (by omega)
 exact zaq (by omega) (by omega)
theorem zgK {a b:Nat}:a ^^^ (a &&& b) = 0 ↔ a &&& b = a:=by
 constructor
 ·intro h
  have:=congrArg (· ^^^ (a &&& b)) h
  simp only [Nat.xor_assoc,Nat.xor_self,Nat.xor_zero,Nat.zero_xor] at this
  exact this.symm
 ·intro h;rw [h,Nat.xor_self]
theorem zpm {a b:Int} (ha:0 ≤ a∧a < 64) (hb:0 ≤ b∧b < 64):zd2 .i64 a b = 0 ↔ zet .i64 a b = a:=by
 obtain ⟨a,rfl⟩:=Int.eq_ofNat_of_zero_le ha.1
 obtain ⟨b,rfl⟩:=Int.eq_ofNat_of_zero_le hb.1
 rw [ziY (by omega) (by omega),zdA (by omega) (by omega)]
 have:=@zgK a b
 omega
theorem zpn {α:Type} [DecidableEq α]:∀ {l m:List α},l.Nodup→(∀ x ∈ l,x ∈ m)→m.length ≤ l.length→l.Perm m:=by
 intro l
 induction l with
 | nil=>intro m _ _ h;have:m = []:=List.eq_nil_of_length_eq_zero (by simpa using h);subst this;exact .nil
 | cons a l ih =>
   intro m hn hs hl
   have ha:a ∈ m:=hs a (by simp)
   have hn':=List.nodup_cons.1 hn
   have hp:m.Perm (a :: m.erase a):=List.perm_cons_erase ha
   have h2:l.Perm (m.erase a):=by
    refine ih hn'.2 (fun x hx=>?_) ?_
    ·have hxa:x ≠ a:=fun e=>hn'.1 (e ▸ hx)
     exact (List.mem_erase_of_ne hxa).2 (hs x (by simp [hx]))
    ·have:=hp.length_eq
     simp at this hl
     omega
   exact (List.Perm.cons a h2).trans hp.symm
theorem zb6 (xs:List Int):decide (xs = xs) = true:=by simp
theorem zbG (xs:List (List Int)):decide (xs = xs) = true:=by simp
theorem zbR:decide True = true:=by simp
theorem zaR (b:Bool):(!(b == b)) = false:=by simp
end Go.Abs

/- DERIVED by an AI agent. Plain facts: folds over lists, sets without others, binomials. No program in sight. -/
namespace Go.Abs
def bin:Nat→Nat→Nat
 | _,0=>1
 | 0,_ + 1=>0
 | n + 1,k + 1=>bin n k + bin n (k + 1)
theorem zfA (n:Nat):bin n 0 = 1:=by cases n <;> rfl
theorem zAc:∀ (n k:Nat),n < k→bin n k = 0:=by
 intro n
 induction n with
 | zero=>intro k h;cases k with
   | zero=>omega
   | succ k=>rfl
 | succ n ih=>intro k h;cases k with
   | zero=>omega
   | succ k=>rw [bin,ih k (by omega),ih (k + 1) (by omega)]
theorem zxK:∀ (n k:Nat),bin n k * (n - k) = bin n (k + 1) * (k + 1):=by
 intro n
 induction n with
 | zero=>intro k;simp [bin]
 | succ n ih =>
   intro k
   cases k with
   | zero =>
     have:=ih 0
     rw [zfA] at this ⊢
     rw [bin,zfA]
     simp at this ⊢
     omega
   | succ k =>
     by_cases hk:n < k + 1
     ·rw [zAc (n + 1) (k + 2) (by omega),show n + 1 - (k + 1) = 0 by omega];simp
     ·have h1:=ih k
      have h2:=ih (k + 1)
      rw [bin,bin]
      have e1:n + 1 - (k + 1) = n - k:=by omega
      have e2:n - k = (n - (k + 1)) + 1:=by omega
      rw [e1]
      have h3:bin n (k + 1) * (n - k) = bin n (k + 1) * (n - (k + 1)) + bin n (k + 1):=by rw [e2,Nat.mul_add,Nat.mul_one]
      rw [Nat.add_mul,h1,h3,h2,Nat.add_mul,Nat.mul_add (bin n (k + 1)) (k + 1) 1]
      omega
theorem zzs:∀ (n k:Nat),bin n k ≤ 2 ^ n:=by
 intro n
 induction n with
 | zero=>intro k;cases k <;> simp [bin]
 | succ n ih =>
   intro k
   cases k with
   | zero=>rw [zfA];exact Nat.one_le_two_pow
   | succ k=>rw [bin,Nat.pow_succ];have:=ih k;have:=ih (k + 1);omega
theorem zxL {a n i:Nat} (hn:n ≤ 57) (ha:a ≤ 2 ^ n):a * (n - i) < 9223372036854775808:=by
 have h1:(2:Nat) ^ n ≤ 2 ^ 57:=Nat.pow_le_pow_right (by omega) hn
 have h2:a * (n - i) ≤ 2 ^ 57 * 57:=Nat.mul_le_mul (by omega) (by omega)
 omega
theorem zxM {n k:Nat} (hn:n ≤ 57):bin n k < 9223372036854775808:=by
 have h1:(2:Nat) ^ n ≤ 2 ^ 57:=Nat.pow_le_pow_right (by omega) hn
 have:=zzs n k
 omega
theorem zzt {n i:Nat} (hn:n ≤ 57) (hi:i < n):IntKind.i64.wrap ((n:Int) - (i:Int)) = ((n - i:Nat):Int):=by
 rw [zaq (by omega) (by omega)];omega
theorem zzu {n i:Nat} (hn:n ≤ 57) (hi:i < n):IntKind.i64.wrap (((bin n i:Nat):Int) * ((n - i:Nat):Int)) = ((bin n (i + 1) * (i + 1):Nat):Int):=by
 have h:=zxL (i:=i) hn (zzs n i)
 rw [← Int.natCast_mul,zaq (by omega) (by omega),zxK]
theorem zzv {n i:Nat} (hn:n ≤ 57):IntKind.i64.wrap (((bin n (i + 1) * (i + 1):Nat):Int).tdiv ((i + 1:Nat):Int)) = ((bin n (i + 1):Nat):Int):=by
 have h:=zxM (k:=i + 1) hn
 have e:((bin n (i + 1) * (i + 1):Nat):Int).tdiv ((i + 1:Nat):Int) = ((bin n (i + 1):Nat):Int):=by
  rw [Int.natCast_mul];exact Int.mul_tdiv_cancel _ (by omega)
 rw [e,zaq (by omega) (by omega)]
end Go.Abs

/- DERIVED by an AI agent. Plain facts: families of sets as predicates, their order, their least and greatest members. No program in sight. -/
namespace Go.Abs
def zeS (f:Nat→Bool) (k m:Nat):List Nat:=(List.range m).filter fun s=>f s && zaX s == k
def zcM (f:Nat→Bool):List Nat:=(List.range 7).flatMap fun j=>zeS f j 64
def zeW (f:Nat→Bool) (k m:Nat):List Nat:=(List.range k).flatMap (fun j=>zeS f j 64) ++ zeS f k m
theorem ziW (f:Nat→Bool) (k:Nat):zeW f k 64 = zeW f (k + 1) 0:=by
 unfold zeW
 rw [List.range_succ,List.flatMap_append]
 simp [zeS]
theorem zlr (f:Nat→Bool):zeW f 7 0 = zcM f:=by unfold zeW zcM;simp [zeS]
theorem zoi (f:Nat→Bool) (k m:Nat):zeS f k (m + 1) = zeS f k m ++ (if (f m && zaX m == k) = true then [m] else []):=by
 unfold zeS
 rw [List.range_succ,List.filter_append]
 congr 1
 cases h:(f m && zaX m == k) <;> simp [h]
theorem zrY {f:Nat→Bool} {k m:Nat} (h:(f m && zaX m == k) = true):zeW f k (m + 1) = zeW f k m ++ [m]:=by
 unfold zeW
 rw [zoi,if_pos h,List.append_assoc]
theorem zls {f:Nat→Bool} {k m:Nat} (h:(f m && zaX m == k) = false):zeW f k (m + 1) = zeW f k m:=by
 unfold zeW
 rw [zoi,if_neg (by rw [h];decide),List.append_nil]
theorem zlt (f:Nat→Bool):∀ (k m:Nat),(zeW f k m).length ≤ 64 * k + m:=by
 intro k
 induction k with
 | zero =>
   intro m
   have:=List.length_filter_le (fun s=>f s && zaX s == 0) (List.range m)
   simp [zeW,zeS] at this ⊢
   omega
 | succ k ih =>
   intro m
   have h1:=ih 64
   have h2:=List.length_filter_le (fun s=>f s && zaX s == k + 1) (List.range m)
   rw [ziW] at h1
   unfold zeW at h1 ⊢
   simp only [List.length_append,List.length_range] at h1 h2 ⊢
   unfold zeS at *
   simp only [List.range_zero,List.filter_nil,List.length_nil] at h1
   omega
theorem zf9 {s:Nat} (h:s < 64):zaX s ≤ 6:=by
 have h6:∀ t,t < 64→zBO t ≤ 6:=by decide +kernel
 rw [zoh h];exact h6 s h
theorem zcy {f:Nat→Bool} {s:Nat}:s ∈ zcM f ↔ s < 64∧f s = true:=by
 unfold zcM zeS
 simp only [List.mem_flatMap,List.mem_range,List.mem_filter,Bool.and_eq_true,beq_iff_eq]
 constructor
 ·rintro ⟨j,hj,hs,hf,_⟩;exact ⟨hs,hf⟩
 ·rintro ⟨hs,hf⟩;exact ⟨zaX s,by have:=zf9 hs;omega,hs,hf,rfl⟩
def zxH (s t:Nat):Prop:=zaX s < zaX t ∨ (zaX s = zaX t∧s < t)
theorem zwb (f:Nat→Bool):(zcM f).Pairwise zxH:=by
 unfold zcM
 rw [List.pairwise_flatMap]
 refine ⟨fun j _=>?_,?_⟩
 ·unfold zeS
  refine List.Pairwise.imp_of_mem ?_ (List.Pairwise.filter _ List.pairwise_lt_range)
  intro a b ha hb hlt
  have ha:=(List.mem_filter.1 ha).2
  have hb:=(List.mem_filter.1 hb).2
  simp at ha hb
  exact .inr ⟨by omega,hlt⟩
 ·refine List.Pairwise.imp ?_ List.pairwise_lt_range
  intro a b hab x hx y hy
  have hx:=(List.mem_filter.1 hx).2
  have hy:=(List.mem_filter.1 hy).2
  simp at hx hy
  exact .inl (by omega)
theorem zeT {s:Nat}:¬ zxH s s:=by unfold zxH;omega
theorem zhv (f:Nat→Bool):(zcM f).length ≤ 448:=by
 have:=zlt f 7 0
 rw [zlr] at this;omega
theorem zlu {a:Nat} (ha:a < 18446744073709551616):(BitVec.ofInt 64 (a:Int)).toNat = a:=by
 simp
 omega
theorem zba {a:Nat} (ha:a < 18446744073709551616):IntKind.u64.wrap (a:Int) = (a:Int):=by
 simp [IntKind.wrap,IntKind.bits,IntKind.signed]
 omega
theorem zDW {a b:Nat} (ha:a < 18446744073709551616) (hb:b < 18446744073709551616):ior .u64 (a:Int) (b:Int) = ((a ||| b:Nat):Int):=by
 show IntKind.u64.wrap (((BitVec.ofInt 64 (a:Int) ||| BitVec.ofInt 64 (b:Int)).toNat:Nat):Int) = _
 rw [BitVec.toNat_or,zlu ha,zlu hb]
 exact zba (Nat.or_lt_two_pow (n:=64) ha hb)
theorem zC6 {a b:Nat} (ha:a < 18446744073709551616) (hb:b < 18446744073709551616):zet .u64 (a:Int) (b:Int) = ((a &&& b:Nat):Int):=by
 show IntKind.u64.wrap (((BitVec.ofInt 64 (a:Int) &&& BitVec.ofInt 64 (b:Int)).toNat:Nat):Int) = _
 rw [BitVec.toNat_and,zlu ha,zlu hb]
 have:a &&& b ≤ a:=Nat.and_le_left
 exact zba (by omega)
theorem zC7 {s:Nat} (hs:s < 64):zoE .u64 1 (s:Int) = ((2 ^ s:Nat):Int):=by
 unfold zoE
 have e:min (s:Int).toNat IntKind.u64.bits = s:=by simp [IntKind.bits];omega
 rw [e,Int.one_mul]
 have h:(2:Nat) ^ s < 2 ^ 64:=Nat.pow_lt_pow_right (by omega) hs
 have e2:(2:Int) ^ s = ((2 ^ s:Nat):Int):=by simp
 rw [e2]
 exact zba (by omega)
theorem zC8 {a s:Nat} (hs:s < 64):zkG .u64 (a:Int) (s:Int) = ((a >>> s:Nat):Int):=by
 unfold zkG
 have e:min (s:Int).toNat IntKind.u64.bits = s:=by simp [IntKind.bits];omega
 rw [e]
 have e2:(2:Int) ^ s = ((2 ^ s:Nat):Int):=by simp
 rw [e2,Nat.shiftRight_eq_div_pow,Int.fdiv_eq_ediv_of_nonneg _ (Int.natCast_nonneg _),Int.natCast_ediv]
theorem zxI {a s:Nat} (ha:a < 18446744073709551616) (hs:s < 64):(zet .u64 (zkG .u64 (a:Int) (s:Int)) 1 == 1) = a.testBit s:=by
 rw [zC8 hs]
 have h1:a >>> s ≤ a:=Nat.shiftRight_le _ _
 rw [show (1:Int) = ((1:Nat):Int) from rfl,zC6 (by omega) (by omega),Nat.testBit,Nat.and_comm]
 have h2:1 &&& a >>> s ≤ 1:=Nat.and_le_left
 generalize 1 &&& a >>> s = q at *
 rcases Nat.lt_or_ge 0 q with h | h
 ·have:q = 1:=by omega
  subst this;rfl
 ·have:q = 0:=by omega
  subst this;rfl
def zeX (f:Nat→Bool) (g:Bool) (s:Nat):Bool:=(List.range 64).all fun t=>!(f t && ((if g = true then s &&& t == s else t &&& s == t) && t != s))
def zga (f:Nat→Bool) (g:Bool):List Nat:=(zcM f).filter (zeX f g)
theorem zei {f:Nat→Bool} {s:Nat}:zeX f false s = true ↔ ∀ t,t < 64→f t = true→t &&& s = t→t = s:=by
 unfold zeX
 rw [List.all_eq_true]
 constructor
 ·intro h t ht hf hsub
  have:=h t (by simpa using ht)
  simp [hf,hsub] at this
  exact this
 ·intro h t ht
  have ht:=List.mem_range.1 ht
  cases hf:f t with
  | false=>simp
  | true =>
    by_cases hsub:t &&& s = t
    ·simp [h t ht hf hsub]
    ·simp [hsub]
theorem zfz {f:Nat→Bool} {s:Nat}:zeX f true s = true ↔ ∀ t,t < 64→f t = true→s &&& t = s→t = s:=by
 unfold zeX
 rw [List.all_eq_true]
 constructor
 ·intro h t ht hf hsub
  have:=h t (by simpa using ht)
  simp [hf,hsub] at this
  exact this
 ·intro h t ht
  have ht:=List.mem_range.1 ht
  cases hf:f t with
  | false=>simp
  | true =>
    by_cases hsub:s &&& t = s
    ·simp [h t ht hf hsub]
    ·simp [hsub]
theorem zgb {s t:Nat} (hs:s < 64) (ht:t < 64) (h:t &&& s = t) (hne:t ≠ s):zaX t < zaX s:=by
 have h6:∀ t,t < 64→∀ s,s < 64→(t &&& s == t && t != s) = true→zBO t < zBO s:=by decide +kernel
 rw [zoh hs,zoh ht]
 exact h6 t ht s hs (by simp [h,hne])
theorem ziX {a b c:Nat} (h1:a &&& b = a) (h2:b &&& c = b):a &&& c = a:=by
 rw [← h1,Nat.and_assoc,h2]
theorem zxJ {f:Nat→Bool}:∀ (n s:Nat),zaX s ≤ n→s < 64→zeX f false s = false→∃ t,t < 64∧f t = true∧t &&& s = t∧t ≠ s∧zeX f false t = true:=by
 intro n
 induction n with
 | zero =>
   intro s hn hs he
   have:¬ ∀ t,t < 64→f t = true→t &&& s = t→t = s:=fun h=>by rw [zei.2 h] at he;cases he
   exact absurd (fun t ht hf hsub=>Classical.byContradiction fun hne=>by have:=zgb hs ht hsub hne;omega) this
 | succ n ih =>
   intro s hn hs he
   have:¬ ∀ t,t < 64→f t = true→t &&& s = t→t = s:=fun h=>by rw [zei.2 h] at he;cases he
   obtain ⟨t,ht⟩:=Classical.not_forall.1 this
   have ht':t < 64∧f t = true∧t &&& s = t∧t ≠ s:=by
    refine ⟨Classical.byContradiction fun h=>ht fun h2=>absurd h2 h,Classical.byContradiction fun h=>ht fun _ h2=>absurd h2 h,Classical.byContradiction fun h=>ht fun _ _ h2=>absurd h2 h,fun e=>ht fun _ _ _=>e⟩
   obtain ⟨h1,h2,h3,h4⟩:=ht'
   cases hx:zeX f false t with
   | true=>exact ⟨t,h1,h2,h3,h4,hx⟩
   | false =>
     have hp:=zgb hs h1 h3 h4
     obtain ⟨u,u1,u2,u3,u4,u5⟩:=ih t (by omega) h1 hx
     refine ⟨u,u1,u2,ziX u3 h3,fun e=>?_,u5⟩
     have:=zgb h1 u1 u3 u4
     rw [e] at this;omega
theorem zs0 {f:Nat→Bool} {l1 l2:List Nat} {s:Nat} (h:zcM f = l1 ++ s :: l2):(∃ t,t ∈ l1.filter (zeX f false)∧t &&& s = t) ↔ zeX f false s = false:=by
 have hpw:=zwb f
 rw [h] at hpw
 have hs:s < 64∧f s = true:=zcy.1 (by rw [h];simp)
 have hsplit:=List.pairwise_append.1 hpw
 constructor
 ·rintro ⟨t,ht,hsub⟩
  have ht1:=(List.mem_filter.1 ht).1
  have htf:t < 64∧f t = true:=zcy.1 (by rw [h];simp [ht1])
  have hne:t ≠ s:=fun e=>by
   have:=hsplit.2.2 t ht1 s (by simp)
   rw [e] at this;exact zeT this
  cases he:zeX f false s with
  | false=>rfl
  | true=>exact absurd (zei.1 he t htf.1 htf.2 hsub) hne
 ·intro he
  obtain ⟨t,h1,h2,h3,h4,h5⟩:=zxJ (zaX s) s (Nat.le_refl _) hs.1 he
  have hlt:=zgb hs.1 h1 h3 h4
  have hm:t ∈ zcM f:=zcy.2 ⟨h1,h2⟩
  rw [h] at hm
  refine ⟨t,List.mem_filter.2 ⟨?_,h5⟩,h3⟩
  rcases List.mem_append.1 hm with hm | hm
  ·exact hm
  ·rcases List.mem_cons.1 hm with hm | hm
   ·exact absurd hm h4
   ·have:=(List.pairwise_cons.1 hsplit.2.1).1 t hm
    unfold zxH at this
    omega
def ofN (l:List Nat):List Int:=l.map fun s:Nat=>(s:Int)
theorem za4 (a b:List Nat):ofN (a ++ b) = ofN a ++ ofN b:=by simp [ofN]
theorem zdz (a:Nat):[(a:Int)] = ofN [a]:=rfl
theorem zav (l:List Nat):(ofN l).length = l.length:=by simp [ofN]
theorem zbb {l:List Nat} {k:Nat} (h:k < l.length):(ofN l).getD k 0 = ((l.getD k 0:Nat):Int):=by
 rw [zd4 0 (by rw [zav];exact h),zd4 0 h];simp [ofN]
end Go.Abs

/- DERIVED by an AI agent. Plain facts: neighbours in a graph on few points. No program in sight. -/
namespace Go.Abs
theorem zC5 {a s:Nat} (hs:s < 64):zkG .i64 (a:Int) (s:Int) = ((a >>> s:Nat):Int):=by
 unfold zkG
 have e:min (s:Int).toNat IntKind.i64.bits = s:=by simp [IntKind.bits];omega
 rw [e]
 have e2:(2:Int) ^ s = ((2 ^ s:Nat):Int):=by simp
 rw [e2,Nat.shiftRight_eq_div_pow,Int.fdiv_eq_ediv_of_nonneg _ (Int.natCast_nonneg _),Int.natCast_ediv]
theorem zsZ {a s:Nat} (ha:a < 9223372036854775808) (hs:s < 64):(zet .i64 (zkG .i64 (a:Int) (s:Int)) 1 == 1) = a.testBit s:=by
 rw [zC5 hs]
 have h1:a >>> s ≤ a:=Nat.shiftRight_le _ _
 rw [show (1:Int) = ((1:Nat):Int) from rfl,zdA (by omega) (by omega),Nat.testBit,Nat.and_comm]
 have h2:1 &&& a >>> s ≤ 1:=Nat.and_le_left
 generalize 1 &&& a >>> s = q at *
 rcases Nat.lt_or_ge 0 q with h | h
 ·have:q = 1:=by omega
  subst this;rfl
 ·have:q = 0:=by omega
  subst this;rfl
def pts (s:Nat):List Nat:=(List.range 6).filter fun i=>s.testBit i
def zaw (nr:Int→Int):List Int→Int→Int
 | [],_=>0
 | e :: xs,u=>if zet .i64 e u = 0∧zet .i64 (zd2 .i64 (nr e) e) u = 0 then max (zaw nr xs u) (1 + zaw nr xs (ior .i64 u e)) else zaw nr xs u
end Go.Abs

/- DERIVED by an AI agent. Plain facts: texts cut at a byte, sets read from letters. No program in sight. -/
namespace Go.Abs
def byt (t:ByteArray) (i:Nat):Nat:=(t.data.toList.getD i 0).toNat
def zC4 (t:ByteArray) (b:Nat):Nat→List ByteArray × Nat
 | 0=>([],0)
 | i + 1=>if byt t i = b then ((zC4 t b i).1 ++ [t.extract (zC4 t b i).2 i],i + 1) else zC4 t b i
def zzr (t:ByteArray) (b:Nat):List ByteArray:=(zC4 t b t.size).1 ++ [t.extract (zC4 t b t.size).2 t.size]
structure OkSet (t:ByteArray):Prop where
 lo:1 ≤ t.size
 hi:t.size ≤ 6
 dash:(t.toList == (⟨#[45]⟩:ByteArray).toList) = false
 empty:(t.toList == (⟨#[]⟩:ByteArray).toList) = false
 letter:∀ i,i < t.size→97 ≤ byt t i∧byt t i ≤ 102
 rise:∀ i,i < t.size→0 < i→byt t (i - 1) < byt t i
def zKv (t:ByteArray) (k:Nat):Nat:=(List.range k).foldl (fun s i=>s ||| 2 ^ (byt t i - 97)) 0
end Go.Abs

/- DERIVED by an AI agent. Plain facts: matrices modulo a prime, their reduced form. No program in sight. -/
namespace Go.Abs
set_option linter.unusedSimpArgs false
set_option linter.unusedVariables false
theorem za7 {M:Mat} {i:Nat} (h:i < M.length) (r:List Int):(M.set i r).getD i [] = r:=by simp [List.getD,h]
theorem zbT {M:Mat} {i j:Nat} (h:¬ i = j) (r:List Int):(M.set i r).getD j [] = M.getD j []:=by simp [List.getD,List.getElem?_set_ne h]
def isP (p:Int):Bool:=p == 2 || p == 3 || p == 5
theorem zv5 {p:Int}:isP p = true ↔ p = 2 ∨ p = 3 ∨ p = 5:=by simp [isP,or_assoc]
theorem zv6 {p:Int} (h:isP p = true):2 ≤ p∧p ≤ 5:=by rcases zv5.1 h with rfl | rfl | rfl <;> omega
def zv7 (p r:Int):Int→Nat→Int | _,0=>0 | b,n + 1=>if r * b % p = 1 then b else zv7 p r (b + 1) n
def zz6 (p a:Int):Int:=zv7 p (a % p) 1 (p - 1).toNat
def scl (p b:Int) (r:List Int):List Int:=r.map fun x=>x * b % p
theorem zkJ (p b:Int) (r:List Int):(scl p b r).length = r.length:=by simp [scl]
theorem zlq (p b:Int) {r:List Int} {j:Nat} (h:j < r.length):(scl p b r).getD j 0 = r.getD j 0 * b % p:=by simp [scl,List.getD,h]
def sbt (p f:Int) (piv r:List Int):List Int:=(List.range r.length).map fun j=>(r.getD j 0 - f * piv.getD j 0) % p
theorem zkK (p f:Int) (piv r:List Int):(sbt p f piv r).length = r.length:=by simp [sbt]
theorem zfy (p f:Int) {piv r:List Int} {j:Nat} (h:j < r.length):(sbt p f piv r).getD j 0 = (r.getD j 0 - f * piv.getD j 0) % p:=by simp [sbt,List.getD,h]
def Res (p:Int) (r:List Int):Prop:=∀ j,0 ≤ r.getD j 0∧r.getD j 0 < p
theorem Res.nil {p:Int} (hp:0 < p):Res p []:=fun j=>by simp;exact hp
theorem zzq {p:Int} (hp:0 < p) {r:List Int} (h:∀ j,j < r.length→0 ≤ r.getD j 0∧r.getD j 0 < p):Res p r:=fun j=>by
 by_cases hj:j < r.length
 ·exact h j hj
 ·have:r.getD j 0 = 0:=by simp [List.getD,hj]
  rw [this];exact ⟨Int.le_refl _,hp⟩
theorem zz7 {p:Int} (hp:0 < p) (b:Int) (r:List Int):Res p (scl p b r):=zzq hp fun j hj=>by
 rw [zkJ] at hj
 rw [zlq p b hj]
 exact ⟨Int.emod_nonneg _ (by omega),Int.emod_lt_of_pos _ hp⟩
theorem zz8 {p:Int} (hp:0 < p) (f:Int) (piv r:List Int):Res p (sbt p f piv r):=zzq hp fun j hj=>by
 rw [zkK] at hj
 rw [zfy p f hj]
 exact ⟨Int.emod_nonneg _ (by omega),Int.emod_lt_of_pos _ hp⟩
structure MatOk (p:Int) (n:Nat) (M:Mat):Prop where
 len:∀ i,i < M.length→(M.getD i []).length = n
 res:∀ i,i < M.length→Res p (M.getD i [])
def zz9 (p:Int) (at' col:Nat) (M:Mat):Mat:=M.set at' (scl p (zz6 p ((M.getD at' []).getD col 0)) (M.getD at' []))
def zBP (p:Int) (at' col:Nat) (M:Mat) (i:Nat):List Int:=if i = at' then M.getD i [] else sbt p ((M.getD i []).getD col 0) (M.getD at' []) (M.getD i [])
def zBQ (p:Int) (at' col:Nat) (M:Mat) (n:Nat):Mat:=(List.range M.length).map fun i=>if i < n then zBP p at' col M i else M.getD i []
def ziU (p:Int) (at' col:Nat) (M:Mat):Mat:=zBQ p at' col (zz9 p at' col M) M.length
theorem zdx (p:Int) (at' col:Nat) (M:Mat):(zz9 p at' col M).length = M.length:=by simp [zz9]
theorem zeR (p:Int) (at' col:Nat) (M:Mat) (n:Nat):(zBQ p at' col M n).length = M.length:=by simp [zBQ]
theorem ziV (p:Int) (at' col:Nat) {M:Mat} {n i:Nat} (h:i < M.length):(zBQ p at' col M n).getD i [] = if i < n then zBP p at' col M i else M.getD i []:=by simp [zBQ,List.getD,h]
theorem zdy (p:Int) (at' col:Nat) (M:Mat):(ziU p at' col M).length = M.length:=by simp [ziU,zeR,zdx]
theorem zAa {p:Int} (hp:0 < p) {n at' col:Nat} {M:Mat} (h:MatOk p n M) (ha:at' < M.length):MatOk p n (zz9 p at' col M):=by
 constructor
 ·intro i hi
  rw [zdx] at hi
  unfold zz9
  by_cases e:at' = i
  ·subst e;rw [za7 hi,zkJ];exact h.len _ hi
  ·rw [zbT e];exact h.len _ hi
 ·intro i hi
  rw [zdx] at hi
  unfold zz9
  by_cases e:at' = i
  ·subst e;rw [za7 hi];exact zz7 hp _ _
  ·rw [zbT e];exact h.res _ hi
theorem zv8 {p:Int} (hp:0 < p) {n at' col i:Nat} {M:Mat} (h:MatOk p n M) (hi:i < M.length):(zBP p at' col M i).length = n∧Res p (zBP p at' col M i):=by
 unfold zBP
 split
 ·exact ⟨h.len i hi,h.res i hi⟩
 ·exact ⟨by rw [zkK];exact h.len i hi,zz8 hp _ _ _⟩
theorem zAb {p:Int} (hp:0 < p) {n at' col k:Nat} {M:Mat} (h:MatOk p n M):MatOk p n (zBQ p at' col M k):=by
 constructor
 ·intro i hi
  rw [zeR] at hi
  rw [ziV p at' col hi]
  split
  ·exact (zv8 hp h hi).1
  ·exact h.len i hi
 ·intro i hi
  rw [zeR] at hi
  rw [ziV p at' col hi]
  split
  ·exact (zv8 hp h hi).2
  ·exact h.res i hi
theorem zv9 {p:Int} (hp:0 < p) {n at' col:Nat} {M:Mat} (h:MatOk p n M) (ha:at' < M.length):MatOk p n (ziU p at' col M):=zAb hp (zAa hp h ha)
def swp (M:Mat) (a b:Nat):Mat:=(M.set a (M.getD b [])).set b (M.getD a [])
theorem zf8 (M:Mat) (a b:Nat):(swp M a b).length = M.length:=by simp [swp]
theorem zC3 {p:Int} {n a b:Nat} {M:Mat} (h:MatOk p n M) (ha:a < M.length) (hb:b < M.length):MatOk p n (swp M a b):=by
 have key:∀ (Q:List Int→Prop),(∀ i,i < M.length→Q (M.getD i []))→∀ i,i < M.length→Q ((swp M a b).getD i []):=by
  intro Q hQ i hi
  unfold swp
  by_cases eb:b = i
  ·subst eb;rw [za7 (by simpa using hi)];exact hQ a ha
  ·rw [zbT eb]
   by_cases ea:a = i
   ·subst ea;rw [za7 hi];exact hQ b hb
   ·rw [zbT ea];exact hQ i hi
 exact ⟨fun i hi=>key (fun r=>r.length = n) h.len i (by rwa [zf8] at hi),fun i hi=>key (Res p) h.res i (by rwa [zf8] at hi)⟩
def zbU (M:Mat) (col:Nat):Nat→Nat→Nat | a,0=>a | a,n + 1=>if (M.getD a []).getD col 0 = 0 then zbU M col (a + 1) n else a
theorem zsY (M:Mat) (col:Nat):∀ (n a:Nat),a ≤ zbU M col a n∧zbU M col a n ≤ a + n:=by
 intro n
 induction n with
 | zero=>intro a;simp [zbU]
 | succ n ih =>
   intro a
   unfold zbU
   split
   ·have:=ih (a + 1);omega
   ·omega
def zpl (p:Int) (M:Mat) (col:Nat) (piv:List Nat):Mat × List Nat :=
 if zbU M col piv.length (M.length - piv.length) = M.length then (M,piv) else (ziU p piv.length col (swp M piv.length (zbU M col piv.length (M.length - piv.length))),piv ++ [col])
theorem zwa {a p:Int} (h:0 ≤ a):a.tmod p = a % p:=Int.tmod_eq_emod_of_nonneg h
end Go.Abs

/- DERIVED by an AI agent. Plain facts: faces of a complex, their counts, borders and holes. No program in sight. -/
namespace Go.Abs
set_option linter.unusedSimpArgs false
set_option linter.unusedVariables false
theorem zta {f g:Nat→Bool} {k m:Nat} (hm:m ≤ 64) (h:∀ s,s < 64→f s = g s):zeS f k m = zeS g k m:=by
 unfold zeS
 refine List.filter_congr fun s hs=>?_
 have:=List.mem_range.1 hs
 rw [h s (by omega)]
theorem zkN {f g:Nat→Bool} (h:∀ s,s < 64→f s = g s):zcM f = zcM g:=by
 unfold zcM
 have e:(fun j=>zeS f j 64) = fun j=>zeS g j 64:=funext fun j=>zta (Nat.le_refl _) h
 rw [e]
def zcr (xs:List Int) (s:Nat):Bool:=xs.any fun x=>x.toNat &&& s == s
theorem zop {xs:List Int} {s:Nat}:zcr xs s = true ↔ ∃ x ∈ xs,x.toNat &&& s = s:=by simp [zcr]
def ztb (f:Nat→Bool):Nat→Nat | 0=>0 | m + 1=>if f m = true then max (ztb f m) (zaX m + 1) else ztb f m
def ztc (f:Nat→Bool):Nat:=ztb f 64
theorem zAi (f:Nat→Bool):∀ m,m ≤ 64→ztb f m ≤ 7:=by
 intro m
 induction m with
 | zero=>intro _;simp [ztb]
 | succ m ih =>
   intro hm
   unfold ztb
   have:=zf9 (s:=m) (by omega)
   have:=ih (by omega)
   split <;> omega
theorem zlI (f:Nat→Bool):ztc f ≤ 7:=zAi f 64 (Nat.le_refl _)
theorem zwm {f:Nat→Bool}:∀ (m s:Nat),s < m→f s = true→zaX s + 1 ≤ ztb f m:=by
 intro m
 induction m with
 | zero=>intro s h;omega
 | succ m ih =>
   intro s hs hf
   unfold ztb
   by_cases e:s = m
   ·subst e;rw [if_pos hf];omega
   ·have:=ih s (by omega) hf
    split <;> omega
theorem zAj {f:Nat→Bool}:∀ (m:Nat),0 < ztb f m→∃ s,s < m∧f s = true∧zaX s + 1 = ztb f m:=by
 intro m
 induction m with
 | zero=>intro h;simp [ztb] at h
 | succ m ih =>
   intro h
   unfold ztb at h ⊢
   split
   ·rename_i hf
    rw [if_pos hf] at h
    by_cases hle:zaX m + 1 ≤ ztb f m
    ·obtain ⟨s,h1,h2,h3⟩:=ih (by omega)
     exact ⟨s,by omega,h2,by omega⟩
    ·exact ⟨m,by omega,hf,by omega⟩
   ·rename_i hf
    rw [if_neg hf] at h
    obtain ⟨s,h1,h2,h3⟩:=ih h
    exact ⟨s,by omega,h2,h3⟩
theorem zkO {f:Nat→Bool} {k:Nat} (h:ztc f ≤ k):zeS f k 64 = []:=by
 unfold zeS
 rw [List.filter_eq_nil_iff]
 intro s hs
 have hs:=List.mem_range.1 hs
 intro hc
 simp at hc
 have:=zwm 64 s hs hc.1
 unfold ztc at h
 omega
theorem zxW (f:Nat→Bool) (k:Nat) {m:Nat} (hm:m ≤ 64):(zeS f k m).length ≤ 64:=by
 have:=List.length_filter_le (fun s=>f s && zaX s == k) (List.range m)
 unfold zeS
 rw [List.length_range] at this
 omega
theorem zps (f:Nat→Bool) (k:Nat):(zcM f).filter (fun s=>zaX s == k) = zeS f k 64:=by
 unfold zcM
 rw [List.filter_flatMap]
 have h1:∀ j,(zeS f j 64).filter (fun s=>zaX s == k) = if j = k then zeS f k 64 else []:=by
  intro j
  unfold zeS
  rw [List.filter_filter]
  by_cases e:j = k
  ·subst e
   rw [if_pos rfl]
   refine List.filter_congr fun s _=>?_
   cases f s <;> cases zaX s == j <;> rfl
  ·rw [if_neg e,List.filter_eq_nil_iff]
   intro s _ hc
   simp at hc
   omega
 simp only [h1]
 by_cases hk:k < 7
 ·have:∀ n,(List.range n).flatMap (fun j=>if j = k then zeS f k 64 else []) = if k < n then zeS f k 64 else []:=by
   intro n
   induction n with
   | zero=>simp
   | succ n ih =>
     rw [List.range_succ,List.flatMap_append,ih]
     by_cases h1:k < n
     ·rw [if_pos h1,if_pos (by omega)];simp;intro h;omega
     ·rw [if_neg h1]
      by_cases h2:n = k
      ·subst h2;simp
      ·rw [if_neg (by omega)];simp [h2]
  rw [this 7,if_pos hk]
 ·have hd:=zlI f
  rw [zkO (k:=k) (by omega)]
  simp
def zr0 (l:List Nat) (k:Nat):Nat:=(l.filter fun s=>zaX s == k).length
def mxL:List Nat→Nat | []=>0 | s :: l=>max (zaX s + 1) (mxL l)
def zoq (l:List Nat) (n:Nat):List Int:=(List.range n).map fun k=>(zr0 l k:Int)
theorem zcf (l:List Nat) (n:Nat):(zoq l n).length = n:=by simp [zoq]
theorem zor (l:List Nat) {n k:Nat} (h:k < n):(zoq l n).getD k 0 = (zr0 l k:Int):=by simp [zoq,List.getD,h]
theorem zxX (l:List Nat) (s:Nat):mxL (l ++ [s]) = max (mxL l) (zaX s + 1):=by
 induction l with
 | nil=>simp [mxL]
 | cons a l ih=>simp only [List.cons_append,mxL,ih];omega
theorem zwn (l:List Nat) (s k:Nat):zr0 (l ++ [s]) k = zr0 l k + if zaX s = k then 1 else 0:=by
 unfold zr0
 rw [List.filter_append,List.length_append]
 congr 1
 by_cases h:zaX s = k <;> simp [h]
theorem zwo (l:List Nat) {k:Nat} (h:mxL l ≤ k):zr0 l k = 0:=by
 unfold zr0
 rw [List.length_eq_zero_iff,List.filter_eq_nil_iff]
 intro s hs hc
 have hc:zaX s = k:=by simpa using hc
 have:∀ l:List Nat,s ∈ l→zaX s + 1 ≤ mxL l:=by
  intro l
  induction l with
  | nil=>intro h;cases h
  | cons a l ih =>
    intro h
    unfold mxL
    rcases List.mem_cons.1 h with rfl | h
    ·omega
    ·have:=ih h;omega
 have:=this l hs
 omega
theorem zwp (l:List Nat) {n:Nat} (h:mxL l ≤ n):zoq l n ++ [0] = zoq l (n + 1):=by
 unfold zoq
 rw [List.range_succ,List.map_append]
 simp [zwo l h]
theorem zxY (l:List Nat) (s n:Nat) (h:zaX s < n):(zoq l n).set (zaX s) ((zr0 l (zaX s):Int) + 1) = zoq (l ++ [s]) n:=by
 refine List.ext_getElem (by simp [zcf]) fun k a b=>?_
 rw [List.getElem_set]
 simp only [zoq,List.getElem_map,List.getElem_range,zwn]
 by_cases e:zaX s = k
 ·subst e;simp
 ·simp [e]
theorem zxZ (f:Nat→Bool):mxL (zcM f) = ztc f:=by
 have h1:∀ (l:List Nat) (n:Nat),(∀ s ∈ l,zaX s + 1 ≤ n)→mxL l ≤ n:=by
  intro l n
  induction l with
  | nil=>intro _;simp [mxL]
  | cons a l ih =>
    intro h
    have:=h a (by simp)
    have:=ih fun s hs=>h s (by simp [hs])
    unfold mxL;omega
 have h2:∀ (l:List Nat) (s:Nat),s ∈ l→zaX s + 1 ≤ mxL l:=by
  intro l s
  induction l with
  | nil=>intro h;cases h
  | cons a l ih =>
    intro h
    unfold mxL
    rcases List.mem_cons.1 h with rfl | h
    ·omega
    ·have:=ih h;omega
 have a1:=h1 (zcM f) (ztc f) fun s hs=>by
  obtain ⟨q1,q2⟩:=zcy.1 hs
  exact zwm 64 s q1 q2
 by_cases h0:0 < ztc f
 ·obtain ⟨s,q1,q2,q3⟩:=zAj 64 h0
  have:=h2 (zcM f) s (zcy.2 ⟨q1,q2⟩)
  unfold ztc at *
  omega
 ·omega
theorem zx0 {l:List Nat} {k:Nat}:mxL (l.take k) ≤ mxL l:=by
 induction l generalizing k with
 | nil=>simp
 | cons a l ih =>
   cases k with
   | zero=>simp [mxL]
   | succ k=>simp only [List.take_succ_cons,mxL];have:=ih (k:=k);omega
def zzx (f:Nat→Bool):List Int:=zoq (zcM f) (ztc f)
theorem zpt (f:Nat→Bool):(zzx f).length = ztc f:=zcf _ _
theorem zwq (f:Nat→Bool) {k:Nat} (h:k < ztc f):(zzx f).getD k 0 = ((zeS f k 64).length:Int):=by
 unfold zzx
 rw [zor _ h]
 unfold zr0
 rw [zps]
def zfF (a b:Nat):Int:=if a &&& b = a then (if zaX (b &&& (b - a - 1)) % 2 = 0 then 1 else -1) else 0
end Go.Abs

/- DERIVED by an AI agent. Plain facts: the complex within a set of points; tables of relations. No program in sight. -/
namespace Go.Abs
set_option linter.unusedSimpArgs false
set_option linter.unusedVariables false
theorem zpu {f:Nat→Bool}:∀ (n s:Nat),6 - zaX s ≤ n→s < 64→f s = true→∃ t,t < 64∧f t = true∧s &&& t = s∧zeX f true t = true:=by
 intro n
 induction n with
 | zero =>
   intro s hn hs hf
   refine ⟨s,hs,hf,Nat.and_self s,zfz.2 fun t ht _ hsub=>Classical.byContradiction fun hne=>?_⟩
   have:=zgb ht hs hsub (Ne.symm hne)
   have:=zf9 ht
   omega
 | succ n ih =>
   intro s hn hs hf
   cases hx:zeX f true s with
   | true=>exact ⟨s,hs,hf,Nat.and_self s,hx⟩
   | false =>
     have:¬ ∀ t,t < 64→f t = true→s &&& t = s→t = s:=fun h=>by rw [zfz.2 h] at hx;cases hx
     obtain ⟨t,ht⟩:=Classical.not_forall.1 this
     have ht':t < 64∧f t = true∧s &&& t = s∧t ≠ s:=by
      refine ⟨Classical.byContradiction fun h=>ht fun h2=>absurd h2 h,Classical.byContradiction fun h=>ht fun _ h2=>absurd h2 h,Classical.byContradiction fun h=>ht fun _ _ h2=>absurd h2 h,fun e=>ht fun _ _ _=>e⟩
     obtain ⟨h1,h2,h3,h4⟩:=ht'
     have hp:=zgb h1 hs h3 (Ne.symm h4)
     have:=zf9 h1
     obtain ⟨u,u1,u2,u3,u4⟩:=ih t (by omega) h1 h2
     exact ⟨u,u1,u2,ziX h3 u3,u4⟩
theorem zfG {f:Nat→Bool} {g:Bool} {s:Nat}:s ∈ zga f g ↔ (s < 64∧f s = true)∧zeX f g s = true:=by
 unfold zga;rw [List.mem_filter,zcy]
theorem zwr (f:Nat→Bool) (g:Bool):(zga f g).Pairwise zxH:=List.Pairwise.filter _ (zwb f)
theorem zr1 (f:Nat→Bool) (g:Bool):(zga f g).length ≤ 448:=Nat.le_trans (List.length_filter_le _ _) (zhv f)
theorem zws (l:List Nat) (t:Nat):zcr (ofN l) t = l.any fun s=>s &&& t == t:=by
 unfold zcr ofN
 rw [List.any_map]
 congr 1
theorem zwt (f:Nat→Bool) (t:Nat):zcr (ofN (zga f true)) t = (List.range 64).any fun s=>f s && (s &&& t == t):=by
 rw [zws]
 refine Bool.eq_iff_iff.2 ⟨fun h=>?_,fun h=>?_⟩
 ·obtain ⟨s,hs,h2⟩:=List.any_eq_true.1 h
  obtain ⟨⟨q1,q2⟩,_⟩:=zfG.1 hs
  exact List.any_eq_true.2 ⟨s,List.mem_range.2 q1,by rw [q2,h2];rfl⟩
 ·obtain ⟨s,hs,h2⟩:=List.any_eq_true.1 h
  have hs:=List.mem_range.1 hs
  simp only [Bool.and_eq_true,beq_iff_eq] at h2
  obtain ⟨u,u1,u2,u3,u4⟩:=zpu (6 - zaX s) s (Nat.le_refl _) hs h2.1
  refine List.any_eq_true.2 ⟨u,zfG.2 ⟨⟨u1,u2⟩,u4⟩,?_⟩
  have h5:t &&& s = t:=by rw [Nat.and_comm];exact h2.2
  have:=ziX h5 u3
  rw [Nat.and_comm] at this
  simpa using this
structure Sq (n:Nat) (c:Int) (M:Mat):Prop where
 len:M.length = n + 1
 row:∀ i,i < n + 1→(M.getD i []).length = n + 1
 small:∀ i j,-c ≤ (M.getD i []).getD j 0∧(M.getD i []).getD j 0 ≤ c
theorem Sq.mono {n:Nat} {c d:Int} {M:Mat} (h:Sq n c M) (hcd:c ≤ d):Sq n d M:=⟨h.len,h.row,fun i j=>by have:=h.small i j;omega⟩
theorem zx1 (r:List Int) (b j:Nat) (x:Int):(r.set b x).getD j 0 = if b = j∧j < r.length then x else r.getD j 0:=by
 by_cases h:b = j
 ·subst h
  by_cases h2:b < r.length
  ·rw [if_pos ⟨rfl,h2⟩];simp [List.getD,h2]
  ·rw [if_neg (fun h=>h2 h.2),List.set_eq_of_length_le (by omega)]
 ·rw [if_neg (fun h'=>h h'.1)];simp [List.getD,List.getElem?_set_ne h]
end Go.Abs

/- DERIVED by an AI agent. Plain facts: what is read off a table of relations. No program in sight. -/
namespace Go.Abs
set_option linter.unusedSimpArgs false
set_option linter.unusedVariables false
structure SqB (M:Mat):Prop where
 len:M.length ≤ 7
 row:∀ i,i < M.length→(M.getD i []).length = M.length
 small:∀ i j,-100000 ≤ (M.getD i []).getD j 0∧(M.getD i []).getD j 0 ≤ 100000
theorem SqB.nil:SqB []:=⟨by simp,fun i h=>by simp at h,fun i j=>by simp [List.getD]⟩
theorem SqB.of {n:Nat} {M:Mat} (h:Sq n 100000 M) (hn:n ≤ 6):SqB M:=⟨by rw [h.len];omega,fun i hi=>by rw [h.len] at hi ⊢;exact h.row i hi,h.small⟩
def sgI (i:Nat) (x:Int):Int:=if i % 2 = 0 then x else -x
end Go.Abs

/- DERIVED by an AI agent. Plain facts: the dual, the link, the table of the dual. No program in sight. -/
namespace Go.Abs
set_option linter.unusedSimpArgs false
set_option linter.unusedVariables false
end Go.Abs

/- DERIVED by an AI agent. Plain facts: how many there are of a kind; maps that keep sums. No program in sight. -/
namespace Go.Abs
set_option linter.unusedVariables false
def Has {α:Type} (S:α→Prop) (n:Nat):Prop:=∃ l:List α,l.Nodup∧(∀ x,x ∈ l ↔ S x)∧l.length = n
section
variable {α β:Type} {S T:α→Prop} {m n k:Nat}
theorem Has.uniq (h:Has S m) (h':Has S n):m = n:=by
 obtain ⟨l,a1,a2,a3⟩:=h
 obtain ⟨l',b1,b2,b3⟩:=h'
 have:=((List.perm_ext_iff_of_nodup a1 b1).2 fun x=>(a2 x).trans (b2 x).symm).length_eq
 omega
theorem Has.congr (h:Has S n) (e:∀ x,S x ↔ T x):Has T n:=by
 obtain ⟨l,a1,a2,a3⟩:=h
 exact ⟨l,a1,fun x=>(a2 x).trans (e x),a3⟩
theorem Has.none (h:∀ x,¬ S x):Has S 0:=⟨[],List.nodup_nil,fun x=>⟨fun h'=>absurd h' (by simp),fun h'=>absurd h' (h x)⟩,rfl⟩
theorem Has.one (a:α):Has (fun x=>x = a) 1:=⟨[a],by simp,fun x=>by simp,rfl⟩
theorem Has.list {l:List α} (h:l.Nodup):Has (fun x=>x ∈ l) l.length:=⟨l,h,fun _=>Iff.rfl,rfl⟩
open Classical in
theorem Has.part (h:Has S n) (hT:∀ x,T x→S x):∃ m,m ≤ n∧Has T m:=by
 obtain ⟨l,a1,a2,a3⟩:=h
 refine ⟨(l.filter fun x=>decide (T x)).length,by rw [← a3];exact List.length_filter_le _ _,_,a1.filter _,fun x=>?_,rfl⟩
 rw [List.mem_filter,decide_eq_true_eq,a2]
 exact ⟨fun h=>h.2,fun h=>⟨hT x h,h⟩⟩
theorem Has.or (h:Has S m) (h':Has T n) (hd:∀ x,S x→T x→False):Has (fun x=>S x ∨ T x) (m + n):=by
 obtain ⟨l,a1,a2,a3⟩:=h
 obtain ⟨l',b1,b2,b3⟩:=h'
 refine ⟨l ++ l',?_,fun x=>by rw [List.mem_append,a2,b2],by rw [List.length_append,a3,b3]⟩
 refine List.nodup_append.2 ⟨a1,b1,fun x hx y hy e=>?_⟩
 subst e
 exact hd x ((a2 x).1 hx) ((b2 x).1 hy)
theorem Has.rest (h:Has S n) (h':Has T m) (hT:∀ x,T x→S x):m ≤ n∧Has (fun x=>S x∧¬ T x) (n - m):=by
 obtain ⟨k,hk,hr⟩:=h.part (T:=fun x=>S x∧¬ T x) fun x hx=>hx.1
 have h2:=h'.or hr fun x a b=>b.2 a
 have h3:=h2.congr (T:=S) fun x=>⟨fun a=>a.elim (hT x) (·.1),fun a=>(Classical.em (T x)).elim .inl fun b=>.inr ⟨a,b⟩⟩
 have:=h.uniq h3
 exact ⟨by omega,by rw [show n - m = k by omega];exact hr⟩
end
end Go.Abs

/- DERIVED by an AI agent. Plain facts: chains on the sets of six points, their borders; a point's link and what lies beside it. No program in sight. -/
namespace Go.Abs
set_option linter.unusedVariables false
set_option linter.unusedSimpArgs false
section
variable {p:Nat} [NeZero p]
def zkT (n:Nat) (f:Nat→Fin p):Fin p:=match n with | 0=>0 | n + 1=>zkT n f + f n
theorem zep {f g:Nat→Fin p}:∀ n,(∀ i,i < n→f i = g i)→zkT n f = zkT n g
 | 0,_=>rfl
 | n + 1,h=>by rw [zkT,zkT,zep n fun i hi=>h i (by omega),h n (by omega)]
theorem zjb {f:Nat→Fin p}:∀ n,(∀ i,i < n→f i = 0)→zkT n f = 0
 | 0,_=>rfl
 | n + 1,h=>by rw [zkT,zjb n fun i hi=>h i (by omega),h n (by omega)];grind
theorem zsf (f g:Nat→Fin p):∀ n,zkT n (fun i=>f i + g i) = zkT n f + zkT n g
 | 0=>by simp only [zkT];grind
 | n + 1=>by simp only [zkT];rw [zsf f g n];grind
theorem zlS (c:Fin p) (f:Nat→Fin p):∀ n,zkT n (fun i=>c * f i) = c * zkT n f
 | 0=>by simp only [zkT];grind
 | n + 1=>by simp only [zkT];rw [zlS c f n];grind
theorem zsg {f:Nat→Fin p} {v:Nat}:∀ n,v < n→(∀ i,i < n→i ≠ v→f i = 0)→zkT n f = f v
 | 0,h,_=>absurd h (by omega)
 | n + 1,h,h0=>by
   rw [zkT]
   by_cases e:v = n
   ·subst e
    rw [zjb v fun i hi=>h0 i (by omega) (by omega)];grind
   ·rw [zsg n (by omega) fun i hi hne=>h0 i (by omega) hne,h0 n (by omega) (by omega)];grind
def evB (a v:Nat):Bool:=zaX (a &&& (2 ^ v - 1)) % 2 == 0
def sg (p:Nat) [NeZero p] (a v:Nat):Fin p:=if evB a v then 1 else -1
theorem zwN (a v:Nat):sg p a v * sg p a v = 1:=by unfold sg;split <;> grind
theorem zAC:∀ a,a < 64→∀ u,u < 6→∀ v,v < 6→(u == v || a.testBit u || a.testBit v || ((evB (a ||| 2 ^ v) u == evB (a ||| 2 ^ u) v) == !(evB a u == evB a v))) = true:=by decide +kernel
theorem zAD {a u v:Nat} (ha:a < 64) (hu:u < 6) (hv:v < 6) (h:u ≠ v) (h1:a.testBit u = false) (h2:a.testBit v = false) :
 sg p a v * sg p (a ||| 2 ^ v) u + sg p a u * sg p (a ||| 2 ^ u) v = 0:=by
 have:=zAC a ha u hu v hv
 rw [h1,h2,show (u == v) = false by simpa using h] at this
 simp only [Bool.false_or,beq_iff_eq] at this
 unfold sg
 generalize evB (a ||| 2 ^ v) u = x at *
 generalize evB (a ||| 2 ^ u) v = y at *
 generalize evB a u = z at *
 generalize evB a v = w at *
 revert this
 cases x <;> cases y <;> cases z <;> cases w <;> simp <;> grind
theorem zDu {A B C D:Fin p} (h:A * B + C * D = 0) (h1:A * A = 1) (h2:D * D = 1) (z:Fin p):D * (B * z) = (-C) * (A * z):=by
 have e:D * B + C * A = A * D * (A * B + C * D):=by grind
 have e2:D * B + C * A = 0:=by rw [e,h];grind
 have e3:D * B = - (C * A):=by grind
 grind
def On (P:Nat→Prop) (x:Nat→Fin p):Prop:=∀ a,¬ P a→x a = 0
def bd (x:Nat→Fin p) (a:Nat):Fin p:=zkT 6 fun v=>if a.testBit v then 0 else sg p a v * x (a ||| 2 ^ v)
def zpE (x y:Nat→Fin p) (a:Nat):Fin p:=x a + y a
def zl1 (x y:Nat→Fin p) (a:Nat):Fin p:=x a - y a
def zsh (x:Nat→Fin p) (a:Nat):Fin p:=- x a
def vsm (c:Fin p) (x:Nat→Fin p) (a:Nat):Fin p:=c * x a
def v0 (a:Nat):Fin p:=0
theorem zzC (x y:Nat→Fin p):bd (zpE x y) = zpE (bd x) (bd y):=by
 funext a
 show bd _ a = bd x a + bd y a
 unfold bd
 rw [← zsf]
 exact zep 6 fun v _=>by unfold zpE;split <;> grind
theorem zDv (c:Fin p) (x:Nat→Fin p):bd (vsm c x) = vsm c (bd x):=by
 funext a
 show bd _ a = c * bd x a
 unfold bd
 rw [← zlS]
 exact zep 6 fun v _=>by unfold vsm;split <;> grind
theorem zwO (x:Nat→Fin p):zsh x = vsm (-1) x:=by funext a;unfold zsh vsm;grind
theorem zwP (x y:Nat→Fin p):zl1 x y = zpE x (vsm (-1) y):=by funext a;unfold zl1 zpE vsm;grind
theorem zDw (x:Nat→Fin p):bd (zsh x) = zsh (bd x):=by rw [zwO,zDv,← zwO]
theorem zDx (x y:Nat→Fin p):bd (zl1 x y) = zl1 (bd x) (bd y):=by rw [zwP,zzC,zDv,← zwP]
theorem zAE {a v:Nat} (ha:a < 64) (hv:v < 6):a ||| 2 ^ v < 64:=Nat.or_lt_two_pow (n:=6) ha (Nat.pow_lt_pow_right (by omega) hv)
theorem zhE {a v:Nat} (h:a ||| 2 ^ v < 64):a < 64:=Nat.lt_of_le_of_lt Nat.left_le_or h
def lkv (f:Nat→Bool) (v t:Nat):Bool:=!t.testBit v && f (t ||| 2 ^ v)
def dlv (f:Nat→Bool) (v t:Nat):Bool:=!t.testBit v && f t
def fre (v:Nat) (a:Nat):Prop:=a.testBit v = false
def vpt (v:Nat) (x:Nat→Fin p) (a:Nat):Fin p:=if a.testBit v then 0 else sg p a v * x (a ||| 2 ^ v)
def vof (v:Nat) (x:Nat→Fin p) (a:Nat):Fin p:=if a.testBit v then 0 else x a
def cone (v:Nat) (y:Nat→Fin p) (b:Nat):Fin p:=if b.testBit v then sg p (b ^^^ 2 ^ v) v * y (b ^^^ 2 ^ v) else 0
theorem zpF {b v:Nat} (h:b.testBit v = true):(b ^^^ 2 ^ v).testBit v = false∧(b ^^^ 2 ^ v) ||| 2 ^ v = b:=by
 constructor
 ·rw [Nat.testBit_xor,h,Nat.testBit_two_pow];simp
 ·refine Nat.eq_of_testBit_eq fun i=>?_
  rw [Nat.testBit_or,Nat.testBit_xor,Nat.testBit_two_pow]
  by_cases e:v = i
  ·subst e;simp [h]
  ·simp [e]
theorem zzD {a v:Nat} (h:a.testBit v = false):(a ||| 2 ^ v) ^^^ 2 ^ v = a:=by
 refine Nat.eq_of_testBit_eq fun i=>?_
 rw [Nat.testBit_xor,Nat.testBit_or,Nat.testBit_two_pow]
 by_cases e:v = i
 ·subst e;simp [h]
 ·simp [e]
theorem zwQ (a v:Nat):(a ||| 2 ^ v).testBit v = true:=by rw [Nat.testBit_or,Nat.testBit_two_pow];simp
theorem zd8 {a u v:Nat} (h:u ≠ v):(a ||| 2 ^ u).testBit v = a.testBit v:=by rw [Nat.testBit_or,Nat.testBit_two_pow];simp [h]
theorem zjc (v:Nat) (x:Nat→Fin p):x = zpE (vof v x) (cone v (vpt v x)):=by
 funext a
 unfold zpE vof cone vpt
 by_cases h:a.testBit v = true
 ·obtain ⟨h1,h2⟩:=zpF h
  rw [if_pos h,if_pos h,if_neg (by rw [h1];decide),h2]
  have:=zwN (p:=p) (a ^^^ 2 ^ v) v
  generalize x a = z
  grind
 ·rw [if_neg h,if_neg h];grind
theorem zwR (v:Nat) (x:Nat→Fin p):On (fre v) (vof v x):=fun a h=>by unfold vof;rw [if_pos (by unfold fre at h;simpa using h)]
theorem zlT (v:Nat) (x:Nat→Fin p):On (fre v) (vpt v x):=fun a h=>by unfold vpt;rw [if_pos (by unfold fre at h;simpa using h)]
theorem zwS {v:Nat} {x:Nat→Fin p} (h:On (fre v) x):On (fre v) (bd x):=fun a ha=>by
 have ha:a.testBit v = true:=by unfold fre at ha;simpa using ha
 refine zjb 6 fun u _=>?_
 split
 ·rfl
 ·rename_i hu
  have:u ≠ v:=fun e=>hu (e ▸ ha)
  rw [h _ (by unfold fre;rw [zd8 this,ha];decide)];grind
theorem zpG {v:Nat} (hv:v < 6) {y:Nat→Fin p} (h:On (fre v) y) (h64:On (fun a=>a < 64) y):bd (cone v y) = zl1 y (cone v (bd y)):=by
 funext a
 show bd (cone v y) a = y a - cone v (bd y) a
 by_cases ha:a.testBit v = true
 ·have hy:y a = 0:=h a (by unfold fre;rw [ha];decide)
  obtain ⟨h1,h2⟩:=zpF ha
  have e:cone v (bd y) a = sg p (a ^^^ 2 ^ v) v * bd y (a ^^^ 2 ^ v):=by unfold cone;rw [if_pos ha]
  generalize hc:a ^^^ 2 ^ v = c at *
  rw [hy,e]
  have e2:bd (cone v y) a = zkT 6 fun u=>(- sg p c v) * (if c.testBit u then 0 else sg p c u * y (c ||| 2 ^ u)):=by
   refine zep 6 fun u hu=>?_
   by_cases hau:a.testBit u = true
   ·rw [if_pos hau]
    by_cases e:u = v
    ·subst e
     rw [if_neg (by rw [h1];decide),h2,hy];grind
    ·have:c.testBit u = true:=by rw [← zd8 (a:=c) (Ne.symm e),h2,hau]
     rw [if_pos this];grind
   ·have hne:u ≠ v:=fun e=>hau (e ▸ ha)
    have hcu:c.testBit u = false:=by rw [← zd8 (a:=c) (Ne.symm hne),h2];simpa using hau
    rw [if_neg hau,if_neg (by rw [hcu];decide)]
    unfold cone
    have hb:(a ||| 2 ^ u).testBit v = true:=by rw [zd8 hne,ha]
    rw [if_pos hb]
    have hx:(a ||| 2 ^ u) ^^^ 2 ^ v = c ||| 2 ^ u:=by
     rw [← h2]
     refine Nat.eq_of_testBit_eq fun i=>?_
     simp only [Nat.testBit_xor,Nat.testBit_or,Nat.testBit_two_pow]
     by_cases e:v = i
     ·subst e;simp [h1,hne]
     ·simp [e]
    rw [hx]
    by_cases hlt:c < 64
    ·have:=zAD (p:=p) hlt hv hu (Ne.symm hne) h1 hcu
     rw [h2] at this
     exact zDu this (zwN c u) (zwN a u) _
    ·rw [h64 _ (fun hh=>hlt (zhE hh))];grind
  rw [e2,zlS]
  unfold bd
  grind
 ·have hc:cone v (bd y) a = 0:=by unfold cone;rw [if_neg ha]
  rw [hc]
  have:bd (cone v y) a = if a.testBit v then 0 else sg p a v * cone v y (a ||| 2 ^ v):=zsg 6 hv fun u hu hne=>by
   split
   ·rfl
   ·unfold cone
    rw [if_neg (by rw [zd8 hne];exact ha)];grind
  rw [this,if_neg ha]
  unfold cone
  rw [if_pos (zwQ a v),zzD (by simpa using ha)]
  have:=zwN (p:=p) a v
  generalize y a = z
  grind
theorem zwT {v:Nat} {y:Nat→Fin p} (h:On (fre v) y) (h0:∀ b,b.testBit v = true→cone v y b = 0):y = v0:=by
 funext a
 by_cases ha:a.testBit v = true
 ·exact h a (by unfold fre;rw [ha];decide)
 ·have:=h0 (a ||| 2 ^ v) (zwQ a v)
  unfold cone at this
  rw [if_pos (zwQ a v),zzD (by simpa using ha)] at this
  have h2:=zwN (p:=p) a v
  show y a = 0
  generalize y a = z at *
  grind
end
end Go.Abs

/- DERIVED by an AI agent. Plain facts: complexes without holes of a size; a point taken away, a point's link, cones. No program in sight. -/
namespace Go.Abs
set_option linter.unusedVariables false
set_option linter.unusedSimpArgs false
def zyl (f:Nat→Bool):Prop:=∀ s t,f s = true→s &&& t = t→f t = true
def cel (f:Nat→Bool) (k a:Nat):Prop:=a < 64∧f a = true∧zaX a = k
section
variable {p:Nat} [NeZero p]
def Ac (p:Nat) [NeZero p] (f:Nat→Bool) (k:Nat):Prop:=∀ x:Nat→Fin p,On (cel f k) x→bd x = v0→∃ y,On (cel f (k + 1)) y∧bd y = x
theorem On.mono {P Q:Nat→Prop} {x:Nat→Fin p} (h:On P x) (hi:∀ a,P a→Q a):On Q x:=fun a ha=>h a fun hp=>ha (hi a hp)
theorem On.add {P:Nat→Prop} {x y:Nat→Fin p} (h:On P x) (h':On P y):On P (zpE x y):=fun a ha=>by unfold zpE;rw [h a ha,h' a ha];grind
theorem On.sub {P:Nat→Prop} {x y:Nat→Fin p} (h:On P x) (h':On P y):On P (zl1 x y):=fun a ha=>by unfold zl1;rw [h a ha,h' a ha];grind
theorem On.neg {P:Nat→Prop} {x:Nat→Fin p} (h:On P x):On P (zsh x):=fun a ha=>by unfold zsh;rw [h a ha];grind
theorem On.lt {f:Nat→Bool} {k:Nat} {x:Nat→Fin p} (h:On (cel f k) x):On (fun a=>a < 64) x:=h.mono fun a h=>h.1
theorem zzB:∀ a,a < 64→∀ v,v < 6→a.testBit v = false→zaX (a ||| 2 ^ v) = zaX a + 1:=by decide +kernel
theorem zpC {a v:Nat}:(a ||| 2 ^ v) &&& a = a:=by
 refine Nat.eq_of_testBit_eq fun i=>?_
 rw [Nat.testBit_and,Nat.testBit_or];cases a.testBit i <;> simp
theorem zeV {f:Nat→Bool} {v t:Nat}:dlv f v t = true ↔ t.testBit v = false∧f t = true:=by simp [dlv]
theorem zgf {f:Nat→Bool} {v t:Nat}:lkv f v t = true ↔ t.testBit v = false∧f (t ||| 2 ^ v) = true:=by simp [lkv]
theorem zyl.dlv {f:Nat→Bool} (h:zyl f) (v:Nat):zyl (dlv f v):=fun s t hs ht=>by
 rw [zeV] at *
 refine ⟨?_,h s t hs.2 ht⟩
 rw [← ht,Nat.testBit_and,hs.1];rfl
theorem zyl.lkv {f:Nat→Bool} (h:zyl f) (v:Nat):zyl (lkv f v):=fun s t hs ht=>by
 rw [zgf] at *
 refine ⟨by rw [← ht,Nat.testBit_and,hs.1];rfl,h _ _ hs.2 ?_⟩
 refine Nat.eq_of_testBit_eq fun i=>?_
 have:=congrArg (fun z=>z.testBit i) ht
 simp only [Nat.testBit_and] at this
 rw [Nat.testBit_and,Nat.testBit_or,Nat.testBit_or]
 cases h1:s.testBit i <;> cases h2:t.testBit i <;> simp_all
theorem zAz {f:Nat→Bool} (h:zyl f) {v k a:Nat} (ha:cel (lkv f v) k a):cel (dlv f v) k a:=by
 refine ⟨ha.1,?_,ha.2.2⟩
 rw [zeV]
 have:=zgf.1 ha.2.1
 exact ⟨this.1,h _ _ this.2 zpC⟩
theorem zAA {f:Nat→Bool} {v k a:Nat} (ha:cel (dlv f v) k a):cel f k a:=⟨ha.1,(zeV.1 ha.2.1).2,ha.2.2⟩
theorem zAB {f:Nat→Bool} {v k:Nat} {x:Nat→Fin p} (h:On (cel (dlv f v) k) x):On (fre v) x:=h.mono fun a ha=>(zeV.1 ha.2.1).1
theorem zpD {f:Nat→Bool} {v k:Nat} {x:Nat→Fin p} (h:On (cel (lkv f v) k) x):On (fre v) x:=h.mono fun a ha=>(zgf.1 ha.2.1).1
theorem zDs {f:Nat→Bool} {v k:Nat} {x:Nat→Fin p} (h:On (cel f k) x):On (cel (dlv f v) k) (vof v x):=fun a ha=>by
 unfold vof
 split
 ·rfl
 ·rename_i hb
  exact h a fun hc=>ha ⟨hc.1,zeV.2 ⟨by simpa using hb,hc.2.1⟩,hc.2.2⟩
theorem zDt {f:Nat→Bool} {v k:Nat} (hv:v < 6) {x:Nat→Fin p} (h:On (cel f (k + 1)) x):On (cel (lkv f v) k) (vpt v x):=fun a ha=>by
 unfold vpt
 split
 ·rfl
 ·rename_i hb
  have hb:a.testBit v = false:=by simpa using hb
  rw [h (a ||| 2 ^ v) fun hc=>ha ⟨zhE hc.1,zgf.2 ⟨hb,hc.2.1⟩,by have:=zzB a (zhE hc.1) v hv hb;have:=hc.2.2;omega⟩]
  grind
theorem zwM {f:Nat→Bool} {v k:Nat} (hv:v < 6) {y:Nat→Fin p} (h:On (cel (lkv f v) k) y):On (cel f (k + 1)) (cone v y):=fun a ha=>by
 unfold cone
 split
 ·rename_i hb
  obtain ⟨h1,h2⟩:=zpF hb
  rw [h (a ^^^ 2 ^ v) fun hc=>ha ⟨by rw [← h2];exact zAE hc.1 hv,by have:=(zgf.1 hc.2.1).2;rwa [h2] at this,by have:=zzB _ hc.1 v hv h1;rw [h2] at this;have:=hc.2.2;omega⟩]
  grind
 ·rfl
theorem zse {v:Nat} (hv:v < 6) {x:Nat→Fin p} (h64:On (fun a=>a < 64) x):bd x = zpE (zpE (bd (vof v x)) (vpt v x)) (cone v (zsh (bd (vpt v x)))):=by
 have h1:=zpG hv (zlT v x) (y:=vpt v x) fun a ha=>by
  unfold vpt
  split
  ·rfl
  ·rw [h64 _ fun hc=>ha (zhE hc)];grind
 conv=>lhs;rw [zjc v x,zzC,h1]
 funext a
 unfold zpE zl1 cone zsh
 split <;> grind
theorem Ac.link {f:Nat→Bool} (hf:zyl f) {v k:Nat} (hv:v < 6) (h1:Ac p f (k + 1)) (h2:Ac p (dlv f v) k):Ac p (lkv f v) k:=by
 intro y hy hb
 obtain ⟨w,hw,ew⟩:=h2 y (hy.mono fun a ha=>zAz hf ha) hb
 have hc:=zpG hv (zpD hy) hy.lt
 rw [hb] at hc
 have hz0:zl1 y (cone v (v0 (p:=p))) = y:=by
  funext a;unfold zl1 cone v0;split <;> grind
 rw [hz0] at hc
 obtain ⟨z,hz,ez⟩:=h1 (zl1 (cone v y) w) ((zwM hv hy).sub (hw.mono fun a ha=>zAA ha)) (by rw [zDx,hc,ew];funext a;unfold zl1 v0;grind)
 refine ⟨zsh (vpt v z),(zDt hv hz).neg,?_⟩
 have hsp:=zse hv hz.lt
 rw [ez] at hsp
 have:zl1 (zsh (bd (vpt v z))) y = v0:=by
  refine zwT (v:=v) ((zwS (zlT v z)).neg.sub (zpD hy)) fun b hbv=>?_
  have hq:=congrFun hsp b
  unfold zpE zl1 at hq
  rw [zAB hw b (by unfold fre;rw [hbv];decide),zwS (zwR v z) b (by unfold fre;rw [hbv];decide),zlT v z b (by unfold fre;rw [hbv];decide)] at hq
  unfold cone at *
  rw [if_pos hbv] at *
  rw [if_pos hbv] at hq
  unfold zl1
  grind
 rw [zDw]
 funext a
 have:=congrFun this a
 unfold zl1 v0 at this
 grind
theorem Ac.cone {f:Nat→Bool} (hf:zyl f) {v:Nat} (hv:v < 6) (h:∀ t,t < 64→f t = true→f (t ||| 2 ^ v) = true) (k:Nat):Ac p f k:=by
 intro x hx hb
 have hsp:=zse hv hx.lt
 rw [hb] at hsp
 have e:bd (vof v x) = zsh (vpt v x):=by
  funext a
  by_cases ha:a.testBit v = true
  ·have h1:=zwS (zwR v x) a (by unfold fre;rw [ha];decide)
   have h2:=zlT v x a (by unfold fre;rw [ha];decide)
   unfold zsh;rw [h1,h2];grind
  ·have hq:=congrFun hsp a
   unfold zpE Go.Abs.cone v0 at hq
   rw [if_neg ha] at hq
   unfold zsh;grind
 have hl:On (cel (lkv f v) k) (vof v x):=(zDs hx).mono fun a ha=>⟨ha.1,zgf.2 ⟨(zeV.1 ha.2.1).1,h a ha.1 (zeV.1 ha.2.1).2⟩,ha.2.2⟩
 refine ⟨Go.Abs.cone v (vof v x),zwM hv hl,?_⟩
 rw [zpG hv (zpD hl) hl.lt,e]
 funext a
 have hq:x a = vof v x a + Go.Abs.cone v (vpt v x) a:=congrFun (zjc v x) a
 rw [hq]
 unfold zl1 Go.Abs.cone zsh
 split <;> grind
theorem Ac.congr {f g:Nat→Bool} {k:Nat} (h:Ac p f k) (e:∀ s,s < 64→f s = g s):Ac p g k:=by
 have hc:∀ k a,cel f k a ↔ cel g k a:=fun k a=>⟨fun h=>⟨h.1,by rw [← e a h.1];exact h.2.1,h.2.2⟩,fun h=>⟨h.1,by rw [e a h.1];exact h.2.1,h.2.2⟩⟩
 intro x hx hb
 obtain ⟨y,hy,ey⟩:=h x (hx.mono fun a ha=>(hc k a).2 ha) hb
 exact ⟨y,hy.mono fun a ha=>(hc _ a).1 ha,ey⟩
end
end Go.Abs

/- DERIVED by an AI agent. Plain facts: how many vectors a matrix takes to nothing modulo a prime; its rank. No program in sight. -/
namespace Go.Abs
set_option linter.unusedVariables false
set_option linter.unusedSimpArgs false
section
variable {p:Nat} [NeZero p]
theorem zym {p:Int} (hp:isP p = true) {a:Int} (h0:0 ≤ a) (h1:a < p) (h:a ≠ 0):a * zz6 p a % p = 1:=by
 rcases zv5.1 hp with rfl | rfl | rfl
 ·have:a = 1:=by omega
  subst this;decide
 ·have:a = 1 ∨ a = 2:=by omega
  rcases this with rfl | rfl <;> decide
 ·have:a = 1 ∨ a = 2 ∨ a = 3 ∨ a = 4:=by omega
  rcases this with rfl | rfl | rfl | rfl <;> decide
theorem zgM {M:Mat} {col:Nat}:∀ (n a:Nat),zbU M col a n = a + n→∀ i,a ≤ i→i < a + n→(M.getD i []).getD col 0 = 0
 | 0,a,_,i,h1,h2=>absurd h1 (by omega)
 | n + 1,a,h,i,h1,h2=>by
   rw [zbU] at h
   split at h
   ·rename_i h0
    by_cases e:i = a
    ·subst e;exact h0
    ·exact zgM n (a + 1) (by omega) i (by omega) (by omega)
   ·omega
theorem zgN {M:Mat} {col:Nat}:∀ (n a:Nat),zbU M col a n ≠ a + n→zbU M col a n < a + n∧(M.getD (zbU M col a n) []).getD col 0 ≠ 0
 | 0,a,h=>absurd rfl h
 | n + 1,a,h=>by
   rw [zbU] at h ⊢
   split at h
   ·rename_i h0
    rw [if_pos h0]
    have:=zgN (M:=M) (col:=col) n (a + 1) (fun e=>h (by rw [e];omega))
    exact ⟨by have:=this.1;omega,this.2⟩
   ·rename_i h0
    rw [if_neg h0]
    exact ⟨by omega,h0⟩
structure Ech (p:Int) (n col:Nat) (M:Mat) (piv:List Nat):Prop where
 ok:MatOk p n M
 lt:∀ c ∈ piv,c < col
 nd:piv.Nodup
 one:∀ k,k < piv.length→(M.getD k []).getD (piv.getD k 0) 0 = 1
 zer:∀ k,k < piv.length→∀ i,i < M.length→i ≠ k→(M.getD i []).getD (piv.getD k 0) 0 = 0
 low:∀ i,piv.length ≤ i→i < M.length→∀ j,j < col→(M.getD i []).getD j 0 = 0
 len:piv.length ≤ M.length
theorem zyn {M:Mat} {a b i:Nat} (ha:a < M.length) (hb:b < M.length):(swp M a b).getD i [] = if i = b then M.getD a [] else if i = a then M.getD b [] else M.getD i []:=by
 unfold swp
 by_cases h:i = b
 ·subst h;rw [if_pos rfl,za7 (by simpa using hb)]
 ·rw [if_neg h,zbT (fun e=>h e.symm)]
  by_cases h2:i = a
  ·subst h2;rw [if_pos rfl,za7 ha]
  ·rw [if_neg h2,zbT (fun e=>h2 e.symm)]
theorem ztg {p:Int} {M:Mat} {a col i:Nat} (ha:a < M.length) (hi:i < M.length) :
 (ziU p a col M).getD i [] = if i = a then scl p (zz6 p ((M.getD a []).getD col 0)) (M.getD a []) else sbt p ((M.getD i []).getD col 0) (scl p (zz6 p ((M.getD a []).getD col 0)) (M.getD a [])) (M.getD i []):=by
 unfold ziU
 rw [ziV _ _ _ (by rwa [zdx]),if_pos hi]
 unfold zBP zz9
 rw [za7 ha]
 by_cases h:i = a
 ·subst h;rw [if_pos rfl,if_pos rfl,za7 ha]
 ·rw [if_neg h,if_neg h,zbT (fun e=>h e.symm)]
theorem Ech.step {p:Int} (hp:isP p = true) {n col:Nat} {M:Mat} {piv:List Nat} (h:Ech p n col M piv) (hc:col < n) (hl:piv.length < M.length):Ech p n (col + 1) (zpl p M col piv).1 (zpl p M col piv).2:=by
 have h0:0 < p:=by have:=zv6 hp;omega
 unfold zpl
 split
 ·rename_i hf
  refine ⟨h.ok,fun c hc=>by have:=h.lt c hc;omega,h.nd,h.one,h.zer,fun i h1 h2 j hj=>?_,h.len⟩
  have h1:piv.length ≤ i:=h1
  have h2:i < M.length:=h2
  have hf:zbU M col piv.length (M.length - piv.length) = M.length:=hf
  by_cases e:j = col
  ·subst e;exact zgM (M:=M) (M.length - piv.length) piv.length (by omega) i h1 (by omega)
  ·exact h.low i h1 h2 j (by omega)
 ·rename_i hf
  obtain ⟨f1,f2⟩:=zgN (M:=M) (col:=col) (M.length - piv.length) piv.length (by omega)
  have f3:=(zsY M col (M.length - piv.length) piv.length).1
  generalize zbU M col piv.length (M.length - piv.length) = t at *
  have ht:t < M.length:=by omega
  have hsok:=zC3 h.ok hl ht
  have hsl:=zf8 M piv.length t
  have hs:∀ i,(swp M piv.length t).getD i [] = if i = t then M.getD piv.length [] else if i = piv.length then M.getD t [] else M.getD i []:=fun i=>zyn hl ht
  have hsr:(swp M piv.length t).getD piv.length [] = M.getD t []:=by
   rw [hs]
   by_cases e:piv.length = t
   ·rw [if_pos e,e]
   ·rw [if_neg e,if_pos rfl]
  have hz:∀ k,k < piv.length→∀ i,i < M.length→i ≠ k→((swp M piv.length t).getD i []).getD (piv.getD k 0) 0 = 0:=fun k hk i hi hne=>by
   rw [hs]
   split
   ·exact h.zer k hk _ hl (by omega)
   ·split
    ·exact h.zer k hk _ ht (by omega)
    ·exact h.zer k hk i hi hne
  have ho:∀ k,k < piv.length→((swp M piv.length t).getD k []).getD (piv.getD k 0) 0 = 1:=fun k hk=>by
   rw [hs,if_neg (by omega),if_neg (by omega)];exact h.one k hk
  have hw:∀ i,piv.length ≤ i→i < M.length→∀ j,j < col→((swp M piv.length t).getD i []).getD j 0 = 0:=fun i h1 h2 j hj=>by
   rw [hs]
   split
   ·exact h.low _ (Nat.le_refl _) hl j hj
   ·split
    ·exact h.low _ (by omega) ht j hj
    ·exact h.low i h1 h2 j hj
  have ha:((swp M piv.length t).getD piv.length []).getD col 0 ≠ 0:=by rw [hsr];exact f2
  generalize hS:swp M piv.length t = S at *
  have hrow:(S.getD piv.length []).length = n:=hsok.len _ (by omega)
  have hres:=hsok.res piv.length (by omega)
  have hinv:=zym hp (hres col).1 (hres col).2 ha
  have hg:∀ i,i < S.length→(ziU p piv.length col S).getD i [] = _:=fun i hi=>ztg (p:=p) (M:=S) (a:=piv.length) (col:=col) (by omega) hi
  have hq1:∀ j,j < n→(S.getD piv.length []).getD j 0 = 0→(scl p (zz6 p ((S.getD piv.length []).getD col 0)) (S.getD piv.length [])).getD j 0 = 0:=fun j hj e=>by
   rw [zlq _ _ (by omega),e];simp
  have hq2:(scl p (zz6 p ((S.getD piv.length []).getD col 0)) (S.getD piv.length [])).getD col 0 = 1:=by
   rw [zlq _ _ (by omega)];exact hinv
  have hpn:∀ k,k < piv.length→piv.getD k 0 < n:=fun k hk=>by have:=h.lt _ (List.mem_of_getElem? (by rw [List.getElem?_eq_getElem hk]:piv[k]? = some piv[k]));simp [List.getD,hk];omega
  generalize scl p (zz6 p ((S.getD piv.length []).getD col 0)) (S.getD piv.length []) = Q at *
  refine ⟨zv9 h0 hsok (by omega),?_,?_,?_,?_,?_,?_⟩
  ·intro c hc'
   rw [List.mem_append] at hc'
   rcases hc' with hc' | hc'
   ·have:=h.lt c hc';omega
   ·simp at hc';omega
  ·refine List.nodup_append.2 ⟨h.nd,by simp,fun a ha b hb e=>?_⟩
   simp at hb
   have:=h.lt a ha
   omega
  ·intro k hk
   rw [List.length_append,List.length_singleton] at hk
   rw [hg k (by omega)]
   by_cases e:k = piv.length
   ·subst e
    rw [if_pos rfl]
    simp [List.getD] at hq2 ⊢
    exact hq2
   ·have hk':k < piv.length:=by omega
    have e2:(piv ++ [col]).getD k 0 = piv.getD k 0:=by simp [List.getD,List.getElem?_append,hk']
    rw [if_neg e,e2,zfy _ _ (by rw [hsok.len k (by omega)];exact hpn k hk'),hq1 _ (hpn k hk') (hz k hk' _ (by omega) (by omega)),ho k hk']
    have:=zv6 hp
    rw [Int.mul_zero,Int.sub_zero]
    exact Int.emod_eq_of_lt (by omega) (by omega)
  ·intro k hk i hi hne
   rw [zdy,hsl] at hi
   rw [List.length_append,List.length_singleton] at hk
   rw [hg i (by omega)]
   by_cases e:k = piv.length
   ·subst e
    have e2:(piv ++ [col]).getD piv.length 0 = col:=by simp [List.getD]
    rw [e2,if_neg hne,zfy _ _ (by rw [hsok.len i (by omega)];exact hc),hq2]
    simp
   ·have hk':k < piv.length:=by omega
    have e2:(piv ++ [col]).getD k 0 = piv.getD k 0:=by simp [List.getD,List.getElem?_append,hk']
    rw [e2]
    split
    ·exact hq1 _ (hpn k hk') (hz k hk' _ (by omega) (by omega))
    ·rw [zfy _ _ (by rw [hsok.len i (by omega)];exact hpn k hk'),hq1 _ (hpn k hk') (hz k hk' _ (by omega) (by omega)),hz k hk' i hi hne]
     simp
  ·intro i h1 h2 j hj
   rw [zdy,hsl] at h2
   rw [List.length_append,List.length_singleton] at h1
   rw [hg i (by omega),if_neg (by omega)]
   rw [zfy _ _ (by rw [hsok.len i (by omega)];omega)]
   by_cases e:j = col
   ·subst e;rw [hq2];simp
   ·rw [hq1 j (by omega) (hw _ (Nat.le_refl _) hl j (by omega)),hw i (by omega) h2 j (by omega)];simp
  ·rw [List.length_append,List.length_singleton,zdy];omega
end
end Go.Abs

/- DERIVED by an AI agent. Plain facts: the rank of a matrix modulo a prime tells how many vectors it takes to nothing. No program in sight. -/
namespace Go.Abs
set_option linter.unusedVariables false
set_option linter.unusedSimpArgs false
section
variable {p:Nat} [NeZero p]
end
end Go.Abs

/- DERIVED by an AI agent. Plain facts: holes as they are counted, and cycles that are borders. No program in sight. -/
namespace Go.Abs
set_option linter.unusedVariables false
set_option linter.unusedSimpArgs false
section
variable {p:Nat} [NeZero p]
end
end Go.Abs

/- DERIVED by an AI agent. Plain facts: no holes of a size are counted exactly if each cycle is a border. No program in sight. -/
namespace Go.Abs
set_option linter.unusedVariables false
set_option linter.unusedSimpArgs false
section
variable {p:Nat} [NeZero p]
structure Sub (S:(Nat→Fin p)→Prop):Prop where
 add:∀ x y,S x→S y→S (zpE x y)
 sub:∀ x y,S x→S y→S (zl1 x y)
end
end Go.Abs

/- DERIVED by an AI agent. Plain facts: as many vectors go to nothing one way as the other way round. No program in sight. -/
namespace Go.Abs
set_option linter.unusedVariables false
set_option linter.unusedSimpArgs false
section
variable {p:Nat} [NeZero p]
end
end Go.Abs

/- DERIVED by an AI agent. Plain facts: holes of a part of a complex and holes of its dual. No program in sight. -/
namespace Go.Abs
set_option linter.unusedVariables false
set_option linter.unusedSimpArgs false
section
variable {p:Nat} [NeZero p]
def res (f:Nat→Bool) (x:Nat→Fin p) (a:Nat):Fin p:=if f a = true then 0 else x a
end
end Go.Abs

/- DERIVED by an AI agent. Plain facts: the dual's cycles are chains taken the other way round; as many holes in the dual. No program in sight. -/
namespace Go.Abs
set_option linter.unusedVariables false
set_option linter.unusedSimpArgs false
section
variable {p:Nat} [NeZero p]
end
section
variable {p:Nat} [NeZero p]
end
end Go.Abs

/- DERIVED by an AI agent. The two tables of relations are one: by induced complexes and by links of the dual. No program in sight. -/
namespace Go.Abs
set_option linter.unusedSimpArgs false
set_option linter.unusedVariables false
def SI (l:List Nat) (G:Nat→Int):Int:=l.foldr (fun a s=>G a + s) 0
theorem zkS (G:Nat→Int):SI [] G = 0:=rfl
theorem zbp (a:Nat) (l:List Nat) (G:Nat→Int):SI (a :: l) G = G a + SI l G:=rfl
theorem zfO (a b:List Nat) (G:Nat→Int):SI (a ++ b) G = SI a G + SI b G:=by
 induction a with
 | nil=>simp [zkS]
 | cons x a ih=>rw [List.cons_append,zbp,zbp,ih];omega
theorem za0 {l:List Nat} {G H:Nat→Int} (h:∀ a ∈ l,G a = H a):SI l G = SI l H:=by
 induction l with
 | nil=>rfl
 | cons x l ih=>rw [zbp,zbp,h x (by simp),ih fun a ha=>h a (by simp [ha])]
theorem zzA (G H:Nat→Int) (l:List Nat):SI l (fun a=>G a + H a) = SI l G + SI l H:=by
 induction l with
 | nil=>rfl
 | cons x l ih=>rw [zbp,zbp,zbp,ih];omega
theorem zDq (φ:Nat→Nat) (G:Nat→Int) (l:List Nat):SI (l.map φ) G = SI l fun a=>G (φ a):=by
 induction l with
 | nil=>rfl
 | cons x l ih=>rw [List.map_cons,zbp,zbp,ih]
theorem zge {l:List Nat} {G:Nat→Int} (h:∀ a ∈ l,G a = 0):SI l G = 0:=by
 rw [za0 (H:=fun _=>0) h]
 induction l with
 | nil=>rfl
 | cons x l ih=>rw [zbp,ih fun a ha=>h a (by simp [ha])];rfl
theorem zDr {l:List Nat} (hl:l.Nodup) {a:Nat} (ha:a ∈ l) (x:Int):SI l (fun w=>if w = a then x else 0) = x:=by
 induction l with
 | nil=>cases ha
 | cons y l ih =>
   rw [zbp]
   rw [List.nodup_cons] at hl
   rcases List.mem_cons.1 ha with rfl | h
   ·rw [if_pos rfl,zge fun b hb=>if_neg fun (e:b = a)=>hl.1 (e ▸ hb)];omega
   ·have hne:y ≠ a:=fun e=>hl.1 (e ▸ h)
    rw [if_neg hne,ih hl.2 h];omega
end Go.Abs

/- DERIVED by an AI agent. The two tables of relations are one: by induced complexes and by links of the dual. No program in sight. -/
namespace Go.Abs
set_option linter.unusedSimpArgs false
set_option linter.unusedVariables false
section
variable {p:Nat} [NeZero p]
end
section
variable {p:Nat} [NeZero p]
end
end Go.Abs

/- DERIVED by an AI agent. Rows and columns of the table of relations. No program in sight. -/
namespace Go.Abs
set_option linter.unusedSimpArgs false
set_option linter.unusedVariables false
section
variable {p:Nat} [NeZero p]
end
end Go.Abs

/- DERIVED by an AI agent. The signed sums of the table of relations are told by the numbers of faces. No program in sight. -/
namespace Go.Abs
set_option linter.unusedSimpArgs false
set_option linter.unusedVariables false
theorem zpB (a b:List Nat) (G:Nat→Nat→Int):SI a (fun i=>SI b fun w=>G i w) = SI b fun w=>SI a fun i=>G i w:=by
 induction a with
 | nil=>rw [zkS];exact (zge fun _ _=>rfl).symm
 | cons x a ih =>
   rw [zbp,ih,← zzA]
   exact za0 fun w _=>by rw [zbp]
theorem zAy (f:Nat→Bool) (q:Nat) (x:Int):SI (List.range 64) (fun s=>if (f s && zaX s == q) = true then x else 0) = ((zeS f q 64).length:Int) * x:=by
 unfold zeS
 induction List.range 64 with
 | nil=>rw [zkS];simp
 | cons a l ih =>
   rw [zbp,ih,List.filter_cons]
   by_cases h:(f a && zaX a == q) = true
   ·rw [if_pos h,if_pos h,List.length_cons];push_cast;rw [Int.add_mul];omega
   ·rw [if_neg h,if_neg h];omega
end Go.Abs

/- DERIVED by an AI agent. The long numbers, sum by sum; the table's first row. No program in sight. -/
namespace Go.Abs
set_option linter.unusedSimpArgs false
set_option linter.unusedVariables false
def lnA (c:Nat→Int) (n Q t:Nat):Int:=SI (List.range Q) fun q=>if q ≤ t then sgI (t - q) (c q * (bin (n - q) (t - q):Nat)) else 0
theorem zsc (c:Nat→Int) (n t:Nat):lnA c n 0 t = 0:=rfl
theorem zlR (c:Nat→Int) (n Q t:Nat):lnA c n (Q + 1) t = lnA c n Q t + if Q ≤ t then sgI (t - Q) (c Q * (bin (n - Q) (t - Q):Nat)) else 0:=by
 unfold lnA;rw [List.range_succ,zfO,zbp,zkS,Int.add_zero]
theorem zDp {m n:Nat} (h:m ≤ n) {F:Nat→Int} (h0:∀ q,m ≤ q→F q = 0):SI (List.range n) F = SI (List.range m) F:=by
 have e:List.range n = List.range m ++ (List.range (n - m)).map (m + ·):=by rw [← List.range_add];congr 1;omega
 rw [e,zfO,zDq,zge (l:=List.range (n - m)) fun a _=>h0 _ (by omega),Int.add_zero]
theorem zwK:((List.range 7).all fun n=>(List.range 8).all fun k=>decide (bin n k ≤ 20)) = true:=by decide +kernel
theorem zsd {n k:Nat} (hn:n ≤ 6) (hk:k ≤ 7):bin n k ≤ 20:=by
 have:=List.all_eq_true.1 (List.all_eq_true.1 zwK n (List.mem_range.2 (by omega))) k (List.mem_range.2 (by omega))
 simpa using this
theorem zwL {c b:Int} (h:0 ≤ c∧c ≤ 64) (k:0 ≤ b∧b ≤ 20) (i:Nat):0 ≤ c * b∧c * b ≤ 1280∧-1280 ≤ sgI i (c * b)∧sgI i (c * b) ≤ 1280:=by
 have h1:0 ≤ c * b:=Int.mul_nonneg h.1 k.1
 have h2:c * b ≤ 64 * 20:=Int.mul_le_mul h.2 k.2 k.1 (by decide)
 refine ⟨h1,by omega,?_,?_⟩ <;> (unfold sgI;split <;> omega)
theorem zoz {c:Nat→Int} (hc:∀ q,0 ≤ c q∧c q ≤ 64) {n t:Nat} (hn:n ≤ 6) (ht:t ≤ n):∀ Q:Nat,-(1280 * (Q:Int)) ≤ lnA c n Q t∧lnA c n Q t ≤ 1280 * (Q:Int)
 | 0=>by rw [zsc];omega
 | Q + 1=>by
   have ih:=zoz hc hn ht Q
   rw [zlR]
   by_cases h:Q ≤ t
   ·rw [if_pos h]
    have hb:=zsd (n:=n - Q) (k:=t - Q) (by omega) (by omega)
    have:=zwL (hc Q) (b:=(bin (n - Q) (t - Q):Nat)) ⟨by omega,by omega⟩ (t - Q)
    push_cast
    omega
   ·rw [if_neg h];push_cast;omega
section
variable {p:Nat} [NeZero p]
end
end Go.Abs
