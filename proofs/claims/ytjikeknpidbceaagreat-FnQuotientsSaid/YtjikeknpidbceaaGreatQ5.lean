/- DERIVED by an AI agent. -/
import Derived.Test.YtjikeknpidbceaaGreatQ4
import Derived.Test.YtjikeknpidbceaaGreatP1
import Derived.Test.YtjikeknpidbceaaGreatQ3
import Derived.Test.YtjikeknpidbceaaGreatQ2
import Derived.Test.YtjikeknpidbceaaGreatA13
import Derived.Test.YtjikeknpidbceaaGreatQ1
namespace Go.Proofs.YtjikeknpidbceaaGreat
open Go.Abs
set_option linter.unusedSimpArgs false
set_option linter.unusedVariables false
open Nat (reduceEqDiff reduceMod reduceAdd reduceLT reduceLeDiff reduceSub reduceMul)
theorem zj8 (xs:List Int) (k:Nat):AC Tryz.prog 24 [zaI xs,int k] (.im (int (xs.getD k 0))):=by
 refine AC.go (rs:=[.tmp 4]) zaQ zar Tryz.func24 rfl rfl rfl (by kernel_rfl) fun hl=>?_
 simp (maxSteps:=5000000) -dsimp only [↓gp,gq,reduceCtorEq,reduceEqDiff,reduceLT,reduceLeDiff,reduceAdd,reduceMul,reduceSub,Nat.reduceBEq,Int.reduceToNat,Int.reduceLE,Int.reduceLT,Int.reduceNeg,reduceMod,zac,zad,zab,zaa,gT,TK.isInt,TK.agg,Array.toList]
 refine ⟨fun _=>⟨fun h=>?_,fun h=>by omega⟩,fun h=>absurd h (by omega)⟩
 ·rw [List.getD_eq_getElem?_getD,List.getElem?_eq_none (by omega)];rfl
noncomputable def zfX (n:Int) (xs:List Int):List Int:=if zdj n xs = true then ofN (zg9 (apF n xs) true) else []
noncomputable def zFR (n:Int) (xs:List Int):Int:=if zdj n xs = true then n else 0
theorem zel (n:Int) (xs:List Int):AC Tryz.prog 20 [.ag [int n,zaI xs]] (.tup [.ag [.im (int (zFR n xs)),.fr 3 1 (iL (zfX n xs))],.im (bool (zdj n xs))]):=by
 refine AC.go (rs:=[.cell 2 36,.tmp 3]) zaQ zar Tryz.func20 rfl rfl rfl (by kernel_rfl) fun hl=>?_
 simp (maxSteps:=5000000) -dsimp only [↓gp,gq,reduceCtorEq,reduceEqDiff,reduceLT,reduceLeDiff,reduceAdd,reduceMul,reduceSub,Nat.reduceBEq,Int.reduceToNat,Int.reduceLE,Int.reduceLT,Int.reduceNeg,reduceMod,zac,zad,zab,zaa,gT,TK.isInt,TK.agg,Array.toList]
 refine zaf (zfI n xs) ?_
 simp (maxSteps:=5000000) -dsimp only [↓gp,gq,reduceCtorEq,reduceEqDiff,reduceLT,reduceLeDiff,reduceAdd,reduceMul,reduceSub,Nat.reduceBEq,Int.reduceToNat,Int.reduceLE,Int.reduceLT,Int.reduceNeg,reduceMod,zac,zad,zab,zaa,gT,TK.isInt,TK.agg,Array.toList]
 unfold zFR zfX
 refine ⟨fun hg=>?_,fun hg=>?_⟩
 ·have hg:zdj n xs = false:=by simpa using hg
  rw [hg];exact ⟨rfl,rfl,rfl⟩
 ·have hg:zdj n xs = true:=by simpa using hg
  obtain ⟨h1,h6,_⟩:=zaS.1 hg
  have hx:=zDB hg
  obtain ⟨m,rfl⟩:∃ m:Nat,n = m:=⟨n.toNat,by omega⟩
  refine zaf (znl m xs (by omega) hx) ?_
  rw [if_pos hg,if_pos hg,hg]
  simp (maxSteps:=5000000) -dsimp only [↓gp,gq,reduceCtorEq,reduceEqDiff,reduceLT,reduceLeDiff,reduceAdd,reduceMul,reduceSub,Nat.reduceBEq,Int.reduceToNat,Int.reduceLE,Int.reduceLT,Int.reduceNeg,reduceMod,zac,zad,zab,zaa,gT,TK.isInt,TK.agg,Array.toList]
def cN (m s:Nat):Nat:=2 ^ m - 1 - s
theorem zCL:∀ m,m < 7→∀ g,g < 2 ^ m→∀ b,b < 2 ^ m→cN m g ^^^ (cN m g &&& cN m b) = b ^^^ (b &&& g):=by decide +kernel
theorem zCM:∀ m,m < 7→∀ P,P < 2 ^ m→∀ b,b < 2 ^ m→P ^^^ (P &&& cN m b) = b &&& P:=by decide +kernel
def ptN (g o b:Nat):Nat:=if zaw (b ^^^ (b &&& g)) = 1 then o ||| (b ^^^ (b &&& g)) else o
theorem zrN {m g:Nat}:∀ (bs:List Nat) (o:Nat),o < 2 ^ m→(∀ b ∈ bs,b < 2 ^ m)→bs.foldl (ptN g) o < 2 ^ m
 | [],o,ho,_=>ho
 | b :: bs,o,ho,hb=>by
   refine zrN bs _ ?_ fun x hx=>hb x (by simp [hx])
   unfold ptN
   split
   ·exact Nat.or_lt_two_pow ho (Nat.xor_lt_two_pow (hb b (by simp)) (Nat.lt_of_le_of_lt Nat.and_le_left (hb b (by simp))))
   ·exact ho
theorem zCN {m g:Nat} (h6:m ≤ 6) (hg:g < 2 ^ m):∀ (bs:List Nat) (o:Nat),o < 2 ^ m→(∀ b ∈ bs,b < 2 ^ m)→(ofN bs).foldl (zbx (g:Int)) (o:Int) = ((bs.foldl (ptN g) o:Nat):Int)
 | [],o,_,_=>rfl
 | b :: bs,o,ho,hb=>by
   have h64:=zaO h6
   have hbl:=hb b (by simp)
   have hx:zb7 .i64 (b:Int) (g:Int) = ((b ^^^ (b &&& g):Nat):Int):=zd6 (by omega) (by omega)
   have hxl:b ^^^ (b &&& g) < 2 ^ m:=Nat.xor_lt_two_pow hbl (Nat.lt_of_le_of_lt Nat.and_le_left hbl)
   have hor:ior .i64 (o:Int) ((b ^^^ (b &&& g):Nat):Int) = ((o ||| (b ^^^ (b &&& g)):Nat):Int):=zrb (by omega) (by omega)
   have hst:zbx (g:Int) (o:Int) (b:Int) = ((ptN g o b:Nat):Int):=by
    unfold zbx ptN
    rw [hx,zgG (by omega),hor]
    by_cases h:zaw (b ^^^ (b &&& g)) = 1
    ·rw [if_pos h,if_pos (by omega)]
    ·rw [if_neg h,if_neg (by omega)]
   have ho2:ptN g o b < 2 ^ m:=zrN [b] o ho fun x hx=>by rw [List.mem_singleton.1 hx];exact hbl
   show (ofN bs).foldl _ (zbx (g:Int) (o:Int) (b:Int)) = _
   rw [hst,zCN h6 hg bs _ ho2 fun x hx=>hb x (by simp [hx])]
   rfl
theorem zEl {m g:Nat} (h6:m ≤ 6) (hg:g < 2 ^ m):∀ (bs:List Nat) (o:Nat),(∀ b ∈ bs,b < 2 ^ m)→(bs.map (cN m)).foldl (npS (cN m g)) o = bs.foldl (ptN g) o
 | [],o,_=>rfl
 | b :: bs,o,hb=>by
   have e:npS (cN m g) o (cN m b) = ptN g o b:=by
    unfold npS ptN
    rw [zCL m (by omega) g hg b (hb b (by simp))]
   show (bs.map (cN m)).foldl _ (npS (cN m g) o (cN m b)) = _
   rw [e,zEl h6 hg bs _ fun x hx=>hb x (by simp [hx])]
   rfl
theorem zEm {m g:Nat} (h6:m ≤ 6) (hg:g < 2 ^ m) (bs:List Nat) (hb:∀ b ∈ bs,b < 2 ^ m):zb9 (ofN bs) (g:Int) = zA5 (bs.map (cN m)) (cN m g):=by
 have h64:=zaO h6
 have hP:=zrN (g:=g) bs 0 (Nat.two_pow_pos m) hb
 have h1:zdN (ofN bs) (g:Int) = ((bs.foldl (ptN g) 0:Nat):Int):=zCN h6 hg bs 0 (Nat.two_pow_pos m) hb
 have h2:npN (bs.map (cN m)) (cN m g) = bs.foldl (ptN g) 0:=zEl h6 hg bs 0 hb
 unfold zb9 zA5
 rw [h1,h2]
 generalize bs.foldl (ptN g) 0 = P at *
 rw [Bool.eq_iff_iff,List.all_eq_true,List.all_eq_true]
 have hb2:∀ b ∈ bs,(zcS .i64 (b:Int) (P:Int) != 0) = (P ^^^ (P &&& cN m b) != 0):=fun b hbm=>by
  have:=hb b hbm
  rw [zCM m (by omega) P hP b this,za8 (by omega) (by omega)]
  cases hz:(b &&& P != 0) with
  | true=>rw [bne_iff_ne] at hz ⊢;omega
  | false=>rw [bne_eq_false_iff_eq] at hz ⊢;omega
 constructor
 ·intro h x hx
  obtain ⟨b,hbm,rfl⟩:=List.mem_map.1 hx
  rw [← hb2 b hbm]
  exact h _ (List.mem_map.2 ⟨b,hbm,rfl⟩)
 ·intro h x hx
  obtain ⟨b,hbm,rfl⟩:=List.mem_map.1 hx
  rw [hb2 b hbm]
  exact h _ (List.mem_map.2 ⟨b,hbm,rfl⟩)
theorem zEn {m:Nat} {xs list:List Int} (ho:zcb m xs list = true):(List.range list.length).all (zkG list) = (List.range (zcU m xs list).length).all (zCv (zcU m xs list)):=by
 obtain ⟨hc,hp⟩:=zdi.1 ho
 have h6:m ≤ 6:=by have:=hc.2.1;omega
 have hok:=zjY ho
 have e:zcU m xs list = list.map (zca m):=if_pos ho
 have hin:∀ x ∈ list,0 ≤ x∧x.toNat < 2 ^ m∧zca m x = ((cN m x.toNat:Nat):Int):=fun x hx=>by
  obtain ⟨i,hi,rfl⟩:=zaY 0 (hp.mem_iff.1 hx)
  have h1:=(hc.2.2 i hi).1
  have h2:=h1
  unfold zbS at h2
  rw [decide_eq_true_iff,zbW] at h2
  refine ⟨h2.2.2.1,by omega,?_⟩
  unfold zca
  rw [if_pos h1,zbW]
  unfold cN
  have:=Nat.two_pow_pos m
  omega
 rw [e,List.length_map]
 have key:∀ k,k < list.length→zkG list k = zCv (list.map (zca m)) k:=fun k hk=>by
  unfold zkG zCv
  have hb:∀ b ∈ (list.take k).map Int.toNat,b < 2 ^ m:=fun b hb=>by
   obtain ⟨x,hx,rfl⟩:=List.mem_map.1 hb
   exact (hin x (List.mem_of_mem_take hx)).2.1
  have hg:=hin _ (zaz 0 hk)
  have h1:=zEm h6 hg.2.1 _ hb
  rw [zuj (ze7 hok k),Int.toNat_of_nonneg hg.1] at h1
  rw [h1]
  congr 1
  ·rw [← List.map_take,List.map_map,List.map_map]
   refine List.map_congr_left fun x hx=>?_
   have:=(hin x (List.mem_of_mem_take hx)).2.2
   show cN m x.toNat = (zca m x).toNat
   rw [this,Int.toNat_natCast]
  ·have e2:(list.map (zca m)).getD k 0 = zca m (list.getD k 0):=by
    simp [List.getD,hk]
   rw [e2,hg.2.2,Int.toNat_natCast]
 rw [Bool.eq_iff_iff,List.all_eq_true,List.all_eq_true]
 constructor
 ·intro h k hk
  rw [← key k (List.mem_range.1 hk)];exact h k hk
 ·intro h k hk
  rw [key k (List.mem_range.1 hk)];exact h k hk
section
variable {m:Nat} {xs:List Int}
theorem zvV (h:zdj (m:Int) xs = true):∀ x ∈ xs,∀ y ∈ xs,x.toNat &&& y.toNat = x.toNat→x = y:=fun x hx y hy hxy=>by
 have hp:=zaS.1 h
 have hok:=zkF h
 obtain ⟨i,hi,rfl⟩:=zaY 0 hx
 obtain ⟨j,hj,rfl⟩:=zaY 0 hy
 rcases Nat.lt_trichotomy i j with hij | hij | hij
 ·have:=(hp.2.2 j hj).2.2 i hij
  have a:=hok _ (zaz 0 hi)
  have b:=hok _ (zaz 0 hj)
  refine absurd ?_ this
  have e1:xs.getD i 0 = (((xs.getD i 0).toNat:Nat):Int):=by omega
  have e2:xs.getD j 0 = (((xs.getD j 0).toNat:Nat):Int):=by omega
  rw [e1,e2,za8 (by omega) (by omega),hxy]
 ·rw [hij]
 ·have hs:=zgI hp i j hij hi
  have a:=hok _ (zaz 0 hi)
  have b:=hok _ (zaz 0 hj)
  by_cases hne:xs.getD i 0 = xs.getD j 0
  ·exact hne
  ·have:=zmR (s:=(xs.getD j 0).toNat) (t:=(xs.getD i 0).toNat) (by omega) (by omega) hxy (by omega)
   unfold zkw at hs
   rw [zbZ a,zbZ b] at hs
   simp only [Bool.and_eq_true,decide_eq_true_iff] at hs
   obtain ⟨_,_,hs⟩:=hs
   split at hs
   ·rw [decide_eq_true_iff] at hs;omega
   ·rw [decide_eq_true_iff] at hs;omega
theorem zqu (h:zdj (m:Int) xs = true):∀ x ∈ xs,0 ≤ x∧x.toNat < 2 ^ m∧zca m x = ((cN m x.toNat:Nat):Int):=fun x hx=>by
 obtain ⟨i,hi,rfl⟩:=zaY 0 hx
 have h1:=((zaS.1 h).2.2 i hi).1
 have h2:=h1
 unfold zbS at h2
 rw [decide_eq_true_iff,zbW] at h2
 refine ⟨h2.2.2.1,by omega,?_⟩
 unfold zca
 rw [if_pos h1,zbW]
 unfold cN
 have:=Nat.two_pow_pos m
 omega
theorem ziA (s:Nat):apF m xs s = true ↔ s < 2 ^ m∧∀ x ∈ xs,¬ s &&& x.toNat = x.toNat:=by
 unfold apF zcr
 rw [Int.toNat_natCast,Bool.and_eq_true,decide_eq_true_eq,List.all_eq_true]
 refine and_congr Iff.rfl ⟨fun h x hx=>?_,fun h x hx=>?_⟩
 ·have:=h x hx
  rw [Nat.and_comm];simpa using this
 ·have:=h x hx
  rw [Nat.and_comm] at this;simpa using this
theorem znu (h:zdj (m:Int) xs = true):zdj (m:Int) (zfX m xs) = true:=by
 obtain ⟨h1,h6,_⟩:=zaS.1 h
 have e:zfX (m:Int) xs = ofN (zg9 (apF m xs) true):=if_pos h
 rw [e]
 exact zCx (by omega) (by omega) fun s _ hs=>((ziA s).1 hs).1
theorem zmi (h:zdj (m:Int) xs = true) {s:Nat} (hs:s < 64):zbe (zfX m xs) s = apF m xs s:=by
 have e:zfX (m:Int) xs = ofN (zg9 (apF m xs) true):=if_pos h
 rw [e,zpZ,Bool.eq_iff_iff,List.any_eq_true]
 constructor
 ·rintro ⟨t,ht,hh⟩
  rw [Bool.and_eq_true,beq_iff_eq,ziA] at hh
  obtain ⟨⟨h1,h2⟩,h3⟩:=hh
  rw [ziA]
  exact ⟨Nat.lt_of_le_of_lt (by rw [← h3];exact Nat.and_le_left) h1,fun x hx hc=>h2 x hx (zmd h3 hc)⟩
 ·intro hh
  exact ⟨s,List.mem_range.2 hs,by rw [hh,Nat.and_self];simp⟩
theorem zvW (h:zdj (m:Int) xs = true) (u:Nat) (hu:u < 2 ^ m):(zbe (zfX m xs) u = false∧∀ v,v < 2 ^ m→zbe (zfX m xs) v = false→v &&& u = v→v = u) ↔ (u:Int) ∈ xs:=by
 obtain ⟨h1,h6,_⟩:=zaS.1 h
 have h64:=zaO (m:=m) (by omega)
 have hnf:∀ v,v < 2 ^ m→(zbe (zfX m xs) v = false ↔ ∃ x ∈ xs,v &&& x.toNat = x.toNat):=fun v hv=>by
  rw [zmi h (by omega)]
  constructor
  ·intro hf
   refine Classical.byContradiction fun hn=>?_
   rw [(ziA v).2 ⟨hv,fun x hx hc=>hn ⟨x,hx,hc⟩⟩] at hf;cases hf
  ·rintro ⟨x,hx,hc⟩
   cases hf:apF m xs v with
   | false=>rfl
   | true=>exact absurd hc (((ziA v).1 hf).2 x hx)
 constructor
 ·rintro ⟨a,b⟩
  obtain ⟨x,hx,hc⟩:=(hnf u hu).1 a
  have hi:=zqu h x hx
  have:=b x.toNat hi.2.1 ((hnf _ hi.2.1).2 ⟨x,hx,Nat.and_self _⟩) (by rw [Nat.and_comm];exact hc)
  rw [← this,Int.toNat_of_nonneg hi.1];exact hx
 ·intro hx
  refine ⟨(hnf u hu).2 ⟨_,hx,by rw [Int.toNat_natCast,Nat.and_self]⟩,fun v hv hf hvu=>?_⟩
  obtain ⟨y,hy,hc⟩:=(hnf v hv).1 hf
  have hyu:y.toNat &&& u = y.toNat:=by
   have:=zmd (w:=u) (s:=v) (t:=y.toNat) (by rw [Nat.and_comm];exact hvu) hc
   rw [Nat.and_comm];exact this
  have:=zvV h y hy _ hx (by rw [Int.toNat_natCast];exact hyu)
  rw [this,Int.toNat_natCast] at hc
  rw [← hvu];exact hc
theorem zCK:∀ m,m < 7→∀ a,a < 2 ^ m→∀ b,b < 2 ^ m→(!(cN m a &&& cN m b == cN m a) || (b &&& a == b)) = true:=by decide +kernel
theorem zrM (h:zdj (m:Int) xs = true) (t:Nat):(t:Int) ∈ zz3 m (zfX m xs) ↔ ∃ u:Nat,u < 2 ^ m∧(u:Int) ∈ xs∧t = cN m u:=by
 obtain ⟨h1,h6,_⟩:=zaS.1 h
 have h64:=zaO (m:=m) (by omega)
 have hmem:∀ t:Nat,(t:Int) ∈ zEi m (zfX m xs) ↔ ∃ u:Nat,u < 2 ^ m∧(u:Int) ∈ xs∧t = cN m u:=fun t=>by
  rw [zzf (znu h)]
  constructor
  ·rintro ⟨u,hu,a,b,e⟩
   exact ⟨u,hu,(zvW h u hu).1 ⟨a,b⟩,e⟩
  ·rintro ⟨u,hu,a,e⟩
   obtain ⟨b,c⟩:=(zvW h u hu).2 a
   exact ⟨u,hu,b,c,e⟩
 have hex:(t:Int) ∈ zz3 m (zfX m xs) ↔ t ∈ zg9 (inF (zEi m (zfX m xs))) true:=by
  unfold zz3 ofN
  rw [List.mem_map]
  exact ⟨fun ⟨s,a,b⟩=>by have:=Int.ofNat.inj b;subst this;exact a,fun a=>⟨t,a,rfl⟩⟩
 rw [hex,zc1,zcJ,zp4,decide_eq_true_eq,hmem]
 constructor
 ·exact fun h=>h.1.2
 ·rintro ⟨u,hu,a,e⟩
  refine ⟨⟨by rw [e];unfold cN;omega,u,hu,a,e⟩,fun v hv hf hvt=>?_⟩
  rw [zp4,decide_eq_true_eq,hmem] at hf
  obtain ⟨w,hw,b,e2⟩:=hf
  rw [e,e2] at hvt
  have h2:=zCK m (by omega) u hu w hw
  rw [hvt] at h2
  simp only [beq_self_eq_true,Bool.not_true,Bool.false_or,beq_iff_eq] at h2
  have:=zvV h _ b _ a (by rw [Int.toNat_natCast,Int.toNat_natCast];exact h2)
  have:=Int.ofNat.inj this
  rw [e,e2,this]
theorem zvX {list:List Int} (ho:zcb m xs list = true):zcb m (zz3 m (zfX m xs)) (zcU m xs list) = true:=by
 obtain ⟨hc,hp⟩:=zdi.1 ho
 have h:=zdx hc
 have e:zcU m xs list = list.map (zca m):=if_pos ho
 have hd:=zaS.1 (zCy (znu h))
 refine zgJ ⟨hd,?_⟩
 rw [e]
 have hinj:∀ x ∈ list,∀ y ∈ list,zca m x = zca m y→x = y:=fun x hx y hy hxy=>by
  have a:=zqu h x (hp.mem_iff.1 hx)
  have b:=zqu h y (hp.mem_iff.1 hy)
  rw [a.2.2,b.2.2] at hxy
  have:=Int.ofNat.inj hxy
  unfold cN at this
  omega
 have hnl:list.Nodup:=hp.nodup_iff.2 (zdv hc)
 have hnm:(list.map (zca m)).Nodup:=by
  unfold List.Nodup
  rw [List.pairwise_map]
  exact List.Pairwise.imp_of_mem (fun {a b} ha hb hab e=>hab (hinj a ha b hb e)) hnl
 refine (List.perm_ext_iff_of_nodup hnm (zdv hd)).2 fun x=>?_
 rw [List.mem_map]
 constructor
 ·rintro ⟨y,hy,rfl⟩
  have a:=zqu h y (hp.mem_iff.1 hy)
  rw [a.2.2]
  exact (zrM h _).2 ⟨y.toNat,a.2.1,by rw [Int.toNat_of_nonneg a.1];exact hp.mem_iff.1 hy,rfl⟩
 ·intro hx
  have hx0:=zkF (zCy (znu h)) x hx
  obtain ⟨t,rfl⟩:=Int.eq_ofNat_of_zero_le (show 0 ≤ x by omega)
  obtain ⟨u,hu,a,e⟩:=(zrM h t).1 hx
  refine ⟨(u:Int),hp.mem_iff.2 a,?_⟩
  have b:=zqu h _ a
  rw [b.2.2,Int.toNat_natCast,e]
theorem zvY {list:List Int} (ho:zcb m xs list = true):zhS m xs list = zFQ m (zz3 m (zfX m xs)) (zcU m xs list):=by
 unfold zhS zFQ
 rw [ho,zvX ho,Bool.true_and,Bool.true_and]
 exact zEn ho
end
end Go.Proofs.YtjikeknpidbceaaGreat
/- DERIVED by an AI agent. Plain facts: the holes of the parts of a complex whose least nonfaces come in an order that divides by points. No program in sight. -/
namespace Go.Abs
set_option linter.unusedVariables false
set_option linter.unusedSimpArgs false
def avN (gs:List Nat) (s:Nat):Bool:=gs.all fun g=>!(s &&& g == g)
theorem zrB {gs:List Nat} {s:Nat}:avN gs s = true ↔ ∀ g ∈ gs,¬ s &&& g = g:=by simp [avN]
theorem znn (gs:List Nat):zqr (avN gs):=fun s t hs ht=>by
 rw [zrB] at *
 exact fun g hg h=>hs g hg (zmd ht h)
theorem zkh {gs:List Nat} {w s:Nat}:zbv (avN gs) w s = true ↔ (∀ g ∈ gs,¬ s &&& g = g)∧w &&& s = s:=by rw [zp5,zrB]
structure Bef (bs:List Nat) (g P:Nat):Prop where
 g64:g < 64
 g0:g ≠ 0
 P64:P < 64
 dis:∀ v,P.testBit v = true→g.testBit v = false
 one:∀ v,P.testBit v = true→∃ b ∈ bs,∀ i,b.testBit i = true→g.testBit i = true ∨ i = v
 meet:∀ b ∈ bs,∃ v,b.testBit v = true∧P.testBit v = true
def inB (g P w:Nat):Bool:=(w &&& g == g) && ((g ||| P) &&& w == w)
theorem zrC {g P w:Nat}:inB g P w = true ↔ w &&& g = g∧∀ i,w.testBit i = true→g.testBit i = true ∨ P.testBit i = true:=by
 unfold inB
 rw [Bool.and_eq_true,beq_iff_eq,beq_iff_eq,zaH (a:=g ||| P)]
 simp [Nat.testBit_or]
theorem zrD {a v:Nat} (ha:a < 64) (h:a.testBit v = true):v < 6:=by
 have:=Nat.ge_two_pow_of_testBit h
 refine Classical.byContradiction fun hc=>?_
 have:(2:Nat) ^ 6 ≤ 2 ^ v:=Nat.pow_le_pow_right (by omega) (by omega)
 omega
theorem Bef.no {bs:List Nat} {g P:Nat} (h:Bef bs g P) {a:Nat} (ha:∀ b ∈ bs,¬ a &&& b = b) (hg:a &&& g = g) {v:Nat} (hv:P.testBit v = true):a.testBit v = false:=by
 cases hb:a.testBit v with
 | false=>rfl
 | true =>
   obtain ⟨b,hbm,hb2⟩:=h.one v hv
   refine absurd (zaH.2 fun i hi=>?_) (ha b hbm)
   rcases hb2 i hi with h1 | rfl
   ·exact zaH.1 hg i h1
   ·exact hb
section
variable {p:Nat} [NeZero p]
theorem zzO (hp:isP (p:Int) = true) {bs:List Nat} {g P:Nat} (h:Bef bs g P) {w:Nat} (hw:w < 64) (h0:Ac p (zbv (avN bs) w) (zaw g)) (k:Nat) :
 zka (zbv (avN (bs ++ [g])) w) p k = zka (zbv (avN bs) w) p k + if inB g P w = true∧k + 1 = zaw g then 1 else 0:=by
 have hd1:=zhh (znn bs) w
 have hd2:=zhh (znn (bs ++ [g])) w
 have hiff:∀ s,zbv (avN (bs ++ [g])) w s = true ↔ zbv (avN bs) w s = true∧¬ s &&& g = g:=fun s=>by
  rw [zkh,zkh]
  constructor
  ·rintro ⟨a,b⟩
   exact ⟨⟨fun x hx=>a x (by simp [hx]),b⟩,a g (by simp)⟩
  ·rintro ⟨⟨a,b⟩,c⟩
   refine ⟨fun x hx=>?_,b⟩
   rcases List.mem_append.1 hx with hx | hx
   ·exact a x hx
   ·rw [List.mem_singleton.1 hx];exact c
 have hgf:∀ a,a < 64→zbv (avN (bs ++ [g])) w a = true→zbv (avN bs) w a = true:=fun a _ h=>((hiff a).1 h).1
 by_cases hgw:w &&& g = g
 ·by_cases hx:∃ v,w.testBit v = true∧g.testBit v = false∧P.testBit v = false
  ·obtain ⟨v,hv1,hv2,hv3⟩:=hx
   have hv6:=zrD hw hv1
   rw [if_neg fun hc=>by rcases (zrC.1 hc.1).2 v hv1 with h1 | h1 <;> simp_all]
   rw [Int.add_zero]
   refine (zD1 hp hd1 hd2 hgf (fun k y hy=>zFy hd1 hv6 (fun a ha hfa hga=>?_) hy) k).symm
   have hag:a &&& g = g:=Classical.byContradiction fun hc=>by rw [(hiff a).2 ⟨hfa,hc⟩] at hga;cases hga
   obtain ⟨f1,f2⟩:=zkh.1 hfa
   have ho:(a ||| 2 ^ v) &&& g = g:=zaH.2 fun i hi=>by rw [Nat.testBit_or,zaH.1 hag i hi];rfl
   refine ⟨zkh.2 ⟨fun b hb hc=>?_,zaH.2 fun i hi=>?_⟩,?_,fun hav=>?_⟩
   ·obtain ⟨u,hu1,hu2⟩:=h.meet b hb
    have h1:=zaH.1 hc u hu1
    rw [Nat.testBit_or,Nat.testBit_two_pow,h.no f1 hag hu2,Bool.false_or,decide_eq_true_iff] at h1
    rw [h1,hu2] at hv3
    cases hv3
   ·rw [Nat.testBit_or,Nat.testBit_two_pow,Bool.or_eq_true,decide_eq_true_iff] at hi
    rcases hi with hi | rfl
    ·exact zaH.1 f2 i hi
    ·exact hv1
   ·exact Bool.eq_false_iff.2 fun hc=>((hiff _).1 hc).2 ho
   ·refine Bool.eq_false_iff.2 fun hc=>((hiff _).1 hc).2 (zaH.2 fun i hi=>?_)
    rw [Nat.testBit_xor,zaH.1 hag i hi,Nat.testBit_two_pow]
    have:v ≠ i:=fun e=>by rw [e,hi] at hv2;cases hv2
    simp [this]
  ·have hx:∀ i,w.testBit i = true→g.testBit i = true ∨ P.testBit i = true:=fun i hi=>by
    refine Classical.byContradiction fun hc=>hx ⟨i,hi,?_,?_⟩
    ·cases e:g.testBit i with
     | false=>rfl
     | true=>exact absurd (.inl e) hc
    ·cases e:P.testBit i with
     | false=>rfl
     | true=>exact absurd (.inr e) hc
   have hin:inB g P w = true:=zrC.2 ⟨hgw,hx⟩
   have hfg:zbv (avN bs) w g = true:=by
    refine zkh.2 ⟨fun b hb hc=>?_,hgw⟩
    obtain ⟨u,hu1,hu2⟩:=h.meet b hb
    have h1:=zaH.1 hc u hu1
    rw [h.dis u hu2] at h1
    cases h1
   have hmax:∀ a,a < 64→zbv (avN bs) w a = true→a &&& g = g→a = g:=fun a ha hfa hag=>by
    obtain ⟨f1,f2⟩:=zkh.1 hfa
    refine Nat.eq_of_testBit_eq fun i=>?_
    cases hgi:g.testBit i with
    | true=>exact zaH.1 hag i hgi
    | false =>
      cases hai:a.testBit i with
      | false=>rfl
      | true =>
        rcases hx i (zaH.1 f2 i hai) with h1 | h1
        ·rw [hgi] at h1;cases h1
        ·rw [h.no f1 hag h1] at hai;cases hai
   rw [zD2 hp hd1 hd2 h.g64 hfg (fun a ha=>?_) hmax h0 k]
   ·by_cases e:k + 1 = zaw g
    ·rw [if_pos e,if_pos ⟨hin,e⟩]
    ·rw [if_neg e,if_neg fun hc=>e hc.2]
   ·rw [Bool.eq_iff_iff,hiff,Bool.and_eq_true,bne_iff_ne]
    refine and_congr_right fun hfa=>⟨fun hc e=>hc (by rw [e,Nat.and_self]),fun hc e=>hc (hmax a ha hfa e)⟩
 ·rw [if_neg fun hc=>hgw (zrC.1 hc.1).1,Int.add_zero]
  refine zhf _ (fun s hs=>?_) k
  rw [Bool.eq_iff_iff,hiff]
  exact ⟨fun h=>h.1,fun h=>⟨h,fun hc=>hgw (zmd (zkh.1 h).2 hc)⟩⟩
theorem zuv (hp:isP (p:Int) = true) {gs:List Nat} {Ps:Nat→Nat} (h:∀ k,k < gs.length→Bef (gs.take k) (gs.getD k 0) (Ps k))
 (hr:∀ k l,l ≤ k→k < gs.length→zaw (gs.getD l 0) ≤ zaw (gs.getD k 0)) {w:Nat} (hw:w < 64) (hw0:w ≠ 0) :
 ∀ k,k ≤ gs.length→∀ q,zka (zbv (avN (gs.take k)) w) p q = SI (List.range k) fun l=>if inB (gs.getD l 0) (Ps l) w = true∧q + 1 = zaw (gs.getD l 0) then 1 else 0
 | 0,_,q=>by
   rw [List.range_zero,zj9,List.take_zero,zhf (f:=zbv (avN []) w) (g:=zEj w) p fun s _=>by unfold zbv avN zEj;simp]
   exact ((zzm (p:=p) hp (zp6 w) q).2).2 (zFl hw hw0 q)
 | k + 1,hk,q=>by
   have ih:=zuv hp h hr hw hw0 k (by omega)
   have hb:=h k (by omega)
   rw [zaK 0 (by omega),zzO hp hb hw ?_ q,ih,List.range_succ,zeT,zbP,zj9,Int.add_zero]
   refine (zzm (p:=p) hp (zhh (znn _) w) _).2.1 ?_
   rw [ih]
   exact zhg fun l hl=>if_neg fun hc=>by have:=hr k l (by have:=List.mem_range.1 hl;omega) (by omega);omega
end
theorem zzP:((List.range 64).all fun g=>(List.range 64).all fun P=>!(g &&& P == 0) || (List.range 7).all fun e=>((((List.range 64).filter fun w=>inB g P w).filter fun w=>zaw w == zaw g + e).length == bin (zaw P) e)) = true:=by decide +kernel
theorem zFx (q:Nat→Bool) (l:List Nat):SI l (fun w=>if q w = true then 1 else 0) = ((l.filter q).length:Int):=by
 induction l with
 | nil=>rfl
 | cons a l ih =>
   rw [zbP,ih,List.filter_cons]
   by_cases h:q a = true
   ·rw [if_pos h,if_pos h,List.length_cons];push_cast;omega
   ·rw [if_neg h,if_neg h];omega
theorem zBh {g P e:Nat} (hg:g < 64) (hP:P < 64) (hd:g &&& P = 0) (he:e < 7):SI (List.range 64) (fun w=>if inB g P w = true∧zaw w = zaw g + e then 1 else 0) = (bin (zaw P) e:Nat):=by
 have h:=List.all_eq_true.1 (List.all_eq_true.1 zzP g (List.mem_range.2 hg)) P (List.mem_range.2 hP)
 rw [hd,beq_self_eq_true,Bool.not_true,Bool.false_or] at h
 have h:=eq_of_beq (List.all_eq_true.1 h e (List.mem_range.2 he))
 rw [← h,List.filter_filter,← zFx]
 refine zb5 fun w _=>?_
 congr 1
 rw [Bool.and_eq_true,beq_iff_eq]
 exact propext and_comm
end Go.Abs
/- DERIVED by an AI agent. Plain facts: the row sums of the table of relations of a complex whose least nonfaces come in an order that divides by points. No program in sight. -/
namespace Go.Abs
set_option linter.unusedVariables false
set_option linter.unusedSimpArgs false
theorem zrA (r:List Int):∀ k,zqc r k = SI (List.range k) fun j=>r.getD j 0
 | 0=>rfl
 | k + 1=>by rw [List.range_succ,zeT,zbP,zj9,Int.add_zero,zqc,zrA r k]
theorem zDZ {n a:Nat} (h:a < n) (G:Nat→Int):SI (List.range n) (fun j=>if a = j then G j else 0) = G a:=by
 rw [zb5 (H:=fun w=>if w = a then G a else 0) fun j _=>?_]
 ·exact zFk List.nodup_range (List.mem_range.2 h) _
 ·by_cases e:a = j
  ·subst e;rfl
  ·rw [if_neg e,if_neg fun h=>e h.symm]
section
variable {p:Nat} [NeZero p]
theorem zD0 (f:Nat→Bool) (p:Int) {n:Nat} (hn:n ≤ 6) (i:Nat):zqc ((zA2 f p n).getD i []) (zA2 f p n).length = SI (List.range (2 ^ n)) fun w=>if i ≤ zaw w then zka (zbv f w) p (zaw w - i) else 0:=by
 rw [(zy2 f p hn).len,zrA]
 have e:SI (List.range (n + 1)) (fun j=>((zA2 f p n).getD i []).getD j 0) = SI (List.range (n + 1)) fun j=>SI (List.range (2 ^ n)) fun w=>if zaw w = j∧i ≤ j then zka (zbv f w) p (j - i) else 0 :=
  zb5 fun j _=>zuo f p hn i j (2 ^ n) (Nat.le_refl _)
 rw [e,zzk]
 refine zb5 fun w hw=>?_
 have hpw:=zm4 hn (List.mem_range.1 hw)
 rw [← zDZ (n:=n + 1) (a:=zaw w) (by omega) fun j=>if i ≤ j then zka (zbv f w) p (j - i) else 0]
 refine zb5 fun j _=>?_
 by_cases h1:zaw w = j
 ·rw [if_pos h1]
  by_cases h2:i ≤ j
  ·rw [if_pos ⟨h1,h2⟩,if_pos h2]
  ·rw [if_neg fun h=>h2 h.2,if_neg h2]
 ·rw [if_neg fun h=>h1 h.1,if_neg h1]
theorem zzN (hp:isP (p:Int) = true) {n:Nat} (hn:n ≤ 6) {gs:List Nat} {Ps:Nat→Nat} (h:∀ k,k < gs.length→Bef (gs.take k) (gs.getD k 0) (Ps k)) (hlt:∀ k,k < gs.length→gs.getD k 0 < 2 ^ n∧Ps k < 2 ^ n)
 (hr:∀ k l,l ≤ k→k < gs.length→zaw (gs.getD l 0) ≤ zaw (gs.getD k 0)) {f:Nat→Bool} (hf:∀ s,s < 2 ^ n→f s = avN gs s) {i:Nat} (hi:1 ≤ i) (hi7:i ≤ 7) :
 zqc ((zA2 f p n).getD i []) (zA2 f p n).length = SI (List.range gs.length) fun l=>((bin (zaw (Ps l)) (i - 1):Nat):Int):=by
 have h64:=zaO hn
 rw [zD0 f p hn i]
 have e:SI (List.range (2 ^ n)) (fun w=>if i ≤ zaw w then zka (zbv f w) p (zaw w - i) else 0) = SI (List.range (2 ^ n)) fun w=>SI (List.range gs.length) fun l=>if inB (gs.getD l 0) (Ps l) w = true∧zaw w = zaw (gs.getD l 0) + (i - 1) then 1 else 0:=by
  refine zb5 fun w hw=>?_
  have hw:=List.mem_range.1 hw
  have hg0:∀ l,l < gs.length→1 ≤ zaw (gs.getD l 0):=fun l hl=>by
   refine Nat.pos_of_ne_zero fun e=>(h l hl).g0 ?_
   have:∀ g,g < 64→zaw g = 0→g = 0:=by decide +kernel
   exact this _ (h l hl).g64 e
  by_cases h1:i ≤ zaw w
  ·have hw0:w ≠ 0:=fun e=>by subst e;have:zaw 0 = 0:=by decide +kernel
                             omega
   rw [if_pos h1]
   have e2:zka (zbv f w) p (zaw w - i) = zka (zbv (avN (gs.take gs.length)) w) p (zaw w - i):=zhf _ (fun s hs=>by
    unfold zbv
    rw [List.take_length]
    by_cases hws:w &&& s = s
    ·rw [hf s (Nat.lt_of_le_of_lt (by rw [← hws];exact Nat.and_le_left) hw)]
    ·have:(w &&& s == s) = false:=by simpa using hws
     rw [this,Bool.and_false,Bool.and_false]) _
   rw [e2,zuv hp h hr (by omega) hw0 gs.length (Nat.le_refl _)]
   refine zb5 fun l hl=>?_
   have:=hg0 l (List.mem_range.1 hl)
   have e3:zaw w - i + 1 = zaw (gs.getD l 0) ↔ zaw w = zaw (gs.getD l 0) + (i - 1):=by omega
   by_cases hc:inB (gs.getD l 0) (Ps l) w = true∧zaw w = zaw (gs.getD l 0) + (i - 1)
   ·rw [if_pos hc,if_pos ⟨hc.1,e3.2 hc.2⟩]
   ·rw [if_neg hc,if_neg fun h=>hc ⟨h.1,e3.1 h.2⟩]
  ·rw [if_neg h1]
   refine (zhg fun l hl=>if_neg fun hc=>?_).symm
   have:=hg0 l (List.mem_range.1 hl)
   omega
 rw [e,zzk]
 refine zb5 fun l hl=>?_
 have hl:=List.mem_range.1 hl
 have hb:=h l hl
 obtain ⟨hl1,hl2⟩:=hlt l hl
 have hd:gs.getD l 0 &&& Ps l = 0:=Nat.eq_of_testBit_eq fun v=>by
  rw [Nat.testBit_and,Nat.zero_testBit]
  cases hv:(Ps l).testBit v with
  | false=>simp
  | true=>rw [hb.dis v hv];rfl
 rw [← zBh hb.g64 hb.P64 hd (e:=i - 1) (by omega),← zDI h64]
 refine zb5 fun w hw=>?_
 by_cases hwn:w < 2 ^ n
 ·rw [if_pos hwn]
 ·rw [if_neg hwn]
  refine (if_neg fun hc=>hwn ?_).symm
  have h1:=hc.1
  unfold inB at h1
  rw [Bool.and_eq_true,beq_iff_eq,beq_iff_eq] at h1
  rw [← h1.2]
  exact Nat.lt_of_le_of_lt Nat.and_le_left (Nat.or_lt_two_pow hl1 hl2)
end
end Go.Abs
namespace Go.Proofs.YtjikeknpidbceaaGreat
open Go.Abs
set_option linter.unusedSimpArgs false
set_option linter.unusedVariables false
theorem zns {M:Mat}:∀ (m i:Nat),zvz M m < i→i < m→nzR (M.getD i []) = false
 | 0,i,_,h=>absurd h (by omega)
 | m + 1,i,h,hi=>by
   rw [zvz] at h
   split at h
   ·omega
   ·rename_i hz
    by_cases e:i = m
    ·rw [e];simpa using hz
    ·exact zns m i h (by omega)
theorem zrH {r:List Int} (h:nzR r = false) (k:Nat):zqc r k = 0:=by
 unfold nzR at h
 rw [zrA]
 refine zhg fun j _=>?_
 by_cases hj:j < r.length
 ·have:=List.any_eq_false.1 h (r.getD j 0) (zaz 0 hj)
  simpa using this
 ·rw [List.getD,List.getElem?_eq_none (by omega)];rfl
theorem zCI (n:Int) (xs:List Int) (p:Int) (j:Nat):(zzJ n xs p).getD j 0 = zqc ((znm n xs p).getD j []) (znm n xs p).length:=by
 unfold zzJ zee
 have hlt:=zzF (znm n xs p) (znm n xs p).length
 by_cases h:j < (zDY n xs p + 1).toNat
 ·rw [zbL 0 (by simpa using h),List.getElem_map,List.getElem_range]
 ·rw [List.getD,List.getElem?_eq_none (by simp;omega)]
  symm
  by_cases h2:j < (znm n xs p).length
  ·exact zrH (zns _ j (by unfold zDY at h;omega) h2) _
  ·rw [List.getD_eq_getElem?_getD,List.getElem?_eq_none (by omega)]
   exact zrH rfl _
theorem zvU {g:Nat}:∀ (bs:List Nat) (o v:Nat),(bs.foldl (ptN g) o).testBit v = true→o.testBit v = true ∨ ∃ b ∈ bs,zaw (b ^^^ (b &&& g)) = 1∧(b ^^^ (b &&& g)).testBit v = true
 | [],o,v,h=>.inl h
 | b :: bs,o,v,h=>by
   rcases zvU bs _ v h with h | ⟨c,hc,h⟩
   ·unfold ptN at h
    split at h
    ·rename_i h1
     rw [Nat.testBit_or,Bool.or_eq_true] at h
     exact h.imp id fun h=>⟨b,by simp,h1,h⟩
    ·exact .inl h
   ·exact .inr ⟨c,by simp [hc],h⟩
theorem zCJ:∀ x,x < 64→∀ i,i < 6→∀ v,v < 6→(!(zaw x == 1) || !x.testBit i || !x.testBit v || i == v) = true:=by decide +kernel
theorem zrI (b g v:Nat):(b ^^^ (b &&& g)).testBit v = (b.testBit v && !g.testBit v):=by
 rw [Nat.testBit_xor,Nat.testBit_and]
 cases b.testBit v <;> cases g.testBit v <;> rfl
theorem zEk {m g:Nat} (h6:m ≤ 6) (hg:g < 2 ^ m) (h0:g ≠ 0) {bs:List Nat} (hb:∀ b ∈ bs,b < 2 ^ m) (hf:zb9 (ofN bs) (g:Int) = true):Bef bs g (bs.foldl (ptN g) 0)∧zdN (ofN bs) (g:Int) = ((bs.foldl (ptN g) 0:Nat):Int)∧bs.foldl (ptN g) 0 < 2 ^ m:=by
 have h64:=zaO h6
 have hP:=zrN (g:=g) bs 0 (Nat.two_pow_pos m) hb
 have h1:zdN (ofN bs) (g:Int) = ((bs.foldl (ptN g) 0:Nat):Int):=zCN h6 hg bs 0 (Nat.two_pow_pos m) hb
 refine ⟨⟨by omega,h0,by omega,fun v hv=>?_,fun v hv=>?_,fun b hbm=>?_⟩,h1,hP⟩
 ·rcases zvU bs 0 v hv with h | ⟨b,hb,_,h⟩
  ·rw [Nat.zero_testBit] at h;cases h
  ·rw [zrI,Bool.and_eq_true,Bool.not_eq_true'] at h
   exact h.2
 ·rcases zvU bs 0 v hv with h | ⟨b,hbm,hp,h⟩
  ·rw [Nat.zero_testBit] at h;cases h
  ·refine ⟨b,hbm,fun i hi=>?_⟩
   cases hgi:g.testBit i with
   | true=>exact .inl rfl
   | false =>
     right
     have hbl:b ^^^ (b &&& g) < 64:=Nat.xor_lt_two_pow (n:=6) (by have:=hb b hbm;omega) (Nat.lt_of_le_of_lt Nat.and_le_left (by have:=hb b hbm;omega))
     have hi2:(b ^^^ (b &&& g)).testBit i = true:=by rw [zrI,hi,hgi];rfl
     have:=zCJ _ hbl i (zrD hbl hi2) v (zrD hbl h)
     rw [hp,hi2,h] at this
     simpa using this
 ·unfold zb9 at hf
  have:=List.all_eq_true.1 hf (b:Int) (by unfold ofN;exact List.mem_map.2 ⟨b,hbm,rfl⟩)
  rw [h1,za8 (by have:=hb b hbm;omega) (by omega)] at this
  have hne:b &&& bs.foldl (ptN g) 0 ≠ 0:=fun e=>by rw [e] at this;exact absurd this (by decide)
  refine Classical.byContradiction fun hc=>hne (Nat.eq_of_testBit_eq fun v=>?_)
  rw [Nat.testBit_and,Nat.zero_testBit]
  cases h1:b.testBit v with
  | false=>rfl
  | true =>
    cases h2:(bs.foldl (ptN g) 0).testBit v with
    | false=>rfl
    | true=>exact absurd ⟨v,h1,h2⟩ hc
theorem zrJ {α:Type} (f:α→Int) (l:List α) (g:Nat→Int) (hg:∀ i (h:i < l.length),f l[i] = g i):∀ k,k ≤ l.length→(l.take k).foldl (fun o s=>o + f s) 0 = SI (List.range k) g
 | 0,_=>by rw [List.take_zero];rfl
 | k + 1,h=>by
   have ih:=zrJ f l g hg k (by omega)
   rw [List.take_succ_eq_append_getElem (by omega),List.foldl_append,ih,List.range_succ,zeT,zbP,zj9,Int.add_zero,← hg k (by omega)]
   rfl
theorem zqt {P i:Nat} (hP:P < 64):zaG (zcQ (P:Int)) i = (bin (zaw P) i:Nat):=by
 rw [zbZ (by omega),Int.toNat_natCast]
 unfold zaG
 by_cases h:i ≤ zaw P
 ·rw [if_pos (by omega),Int.toNat_natCast,Int.toNat_natCast]
 ·rw [if_neg (by omega),zmS _ _ (by omega)];rfl
theorem znt {m:Nat} {xs list:List Int} (hd:zhS m xs list = true) (hr:znh list = true) (hF:zvT m (zfX m xs) = true) {i:Nat} (hi:i ≤ m) :
 (zdQ m xs list).getD i 0 = (zzJ m (zfX m xs) 2).getD (i + 1) 0:=by
 have ho:=zea hd
 obtain ⟨hc,hp⟩:=zdi.1 ho
 have hcx:=zdx hc
 have h6:m ≤ 6:=by have:=hc.2.1;omega
 have h64:=zaO h6
 have hin:∀ x ∈ list,0 ≤ x∧x.toNat < 2 ^ m:=fun x hx=>by
  obtain ⟨h1,h2,_⟩:=zqu hcx x (hp.mem_iff.1 hx)
  exact ⟨h1,h2⟩
 generalize hgs:list.map Int.toNat = gs
 have hl:list = ofN gs:=by
  rw [← hgs];unfold ofN;rw [List.map_map]
  refine (List.map_id list).symm.trans (List.map_congr_left fun x hx=>?_)
  have:=(hin x hx).1
  simp;omega
 have hgl:gs.length = list.length:=by rw [← hgs,List.length_map]
 have hgk:∀ k,k < gs.length→gs.getD k 0 < 2 ^ m∧list.getD k 0 = ((gs.getD k 0:Nat):Int):=fun k hk=>by
  have e:list.getD k 0 = ((gs.getD k 0:Nat):Int):=by
   rw [hl,zbL 0 (by simpa [ofN] using hk),zbL 0 hk];simp [ofN]
  have:=hin _ (zaz 0 (xs:=list) (i:=k) (by omega))
  rw [e] at this
  exact ⟨by simpa using this.2,e⟩
 have hmem:∀ g ∈ gs,g < 2 ^ m:=fun g hg=>by
  obtain ⟨k,hk,rfl⟩:=zaY 0 hg
  exact (hgk k hk).1
 have h0:∀ k,k < gs.length→gs.getD k 0 ≠ 0:=fun k hk e=>by
  have hx:(0:Int) ∈ xs:=by
   have:=zaz 0 (xs:=list) (i:=k) (by omega)
   rw [(hgk k hk).2,e] at this
   exact hp.mem_iff.1 this
  have hz:=zmi hcx (s:=0) (by omega)
  have h1:zbe (zfX m xs) 0 = true:=by
   unfold zbe
   obtain ⟨a,b⟩:=zgF.1 hF
   refine List.any_eq_true.2 ⟨_,zaz 0 b,by simp⟩
  rw [h1] at hz
  have:=((ziA 0).1 hz.symm).2 0 hx
  exact this (by simp)
 have hall:∀ k,k < gs.length→zkG list k = true:=fun k hk=>by
  unfold zhS at hd
  rw [Bool.and_eq_true] at hd
  exact List.all_eq_true.1 hd.2 k (List.mem_range.2 (by omega))
 have hbef:∀ k,k < gs.length→Bef (gs.take k) (gs.getD k 0) ((gs.take k).foldl (ptN (gs.getD k 0)) 0)∧znk list k = (((gs.take k).foldl (ptN (gs.getD k 0)) 0:Nat):Int)∧(gs.take k).foldl (ptN (gs.getD k 0)) 0 < 2 ^ m:=fun k hk=>by
  have e:list.take k = ofN (gs.take k):=by rw [hl];unfold ofN;rw [List.map_take]
  have h1:=hall k hk
  unfold zkG at h1
  unfold znk
  rw [(hgk k hk).2,e] at h1 ⊢
  exact zEk h6 (hgk k hk).1 (h0 k hk) (fun b hb=>hmem b (List.mem_of_mem_take hb)) h1
 have hris:∀ k l,l ≤ k→k < gs.length→zaw (gs.getD l 0) ≤ zaw (gs.getD k 0):=fun k=>by
  have hrp:zuu list:=Classical.byContradiction fun h=>by rw [zni h] at hr;cases hr
  induction k with
  | zero=>intro l h1 h2;rw [show l = 0 by omega];exact Nat.le_refl _
  | succ k ih =>
    intro l h1 h2
    by_cases e:l = k + 1
    ·rw [e];exact Nat.le_refl _
    ·have h3:=ih l (by omega) (by omega)
     have h4:=hrp (k + 1) (by omega) (by omega)
     rw [(hgk (k + 1) h2).2,Nat.add_sub_cancel,(hgk k (by omega)).2,zbZ (by have:=(hgk (k + 1) h2).1;omega),zbZ (by have:=(hgk k (by omega)).1;omega),Int.toNat_natCast,Int.toNat_natCast] at h4
     omega
 rw [zCI]
 have hbr:znm m (zfX m xs) 2 = zA2 (zbe (zfX m xs)) ((2:Nat):Int) m:=by unfold znm;rw [if_pos ⟨hF,by decide⟩,Int.toNat_natCast];rfl
 rw [hbr,zzN (p:=2) (by decide) h6 (fun k hk=>(hbef k hk).1) (fun k hk=>⟨(hgk k hk).1,(hbef k hk).2.2⟩) hris (fun s hs=>?_) (by omega) (by omega)]
 ·have e:zdQ m xs list = (List.range (m + 1)).map (zkf (zqg m xs list)):=by unfold zdQ;rw [if_pos ⟨hd,hr⟩,Int.toNat_natCast]
  have e2:zqg m xs list = (List.range list.length).map (znk list):=if_pos hd
  rw [e,zbL 0 (by simp;omega),List.getElem_map,List.getElem_range,e2]
  unfold zkf
  have:=zrJ (fun s=>zaG (zcQ s) i) ((List.range list.length).map (znk list)) (fun l=>((bin (zaw ((gs.take l).foldl (ptN (gs.getD l 0)) 0)) (i + 1 - 1):Nat):Int)) (fun l hl=>by
   rw [List.getElem_map,List.getElem_range]
   have hl:l < gs.length:=by simp at hl;omega
   rw [(hbef l hl).2.1,zqt (by have:=(hbef l hl).2.2;omega),Nat.add_sub_cancel]) _ (Nat.le_refl _)
  rw [List.take_length] at this
  rw [this,List.length_map,List.length_range,hgl]
 ·rw [zmi hcx (by omega),Bool.eq_iff_iff,ziA,zrB]
  constructor
  ·rintro ⟨_,h⟩ g hg
   obtain ⟨k,hk,rfl⟩:=zaY 0 hg
   have hx:((gs.getD k 0:Nat):Int) ∈ xs:=by rw [← (hgk k hk).2];exact hp.mem_iff.1 (zaz 0 (by omega))
   simpa using h _ hx
  ·intro h
   refine ⟨hs,fun x hx=>?_⟩
   obtain ⟨k,hk,rfl⟩:=zaY 0 (hp.mem_iff.2 hx)
   rw [(hgk k (by omega)).2,Int.toNat_natCast]
   exact h _ (zaz 0 (by omega))
theorem zrK {m:Nat} {xs list:List Int} (h:(zdQ m xs list).length ≠ 0):zhS m xs list = true∧znh list = true∧(zdQ m xs list).length = m + 1:=by
 unfold zdQ at *
 split at h
 ·rename_i hc
  rw [if_pos hc]
  exact ⟨hc.1,hc.2,by simp⟩
 ·exact absurd rfl h
theorem zrL {n:Int} {xs:List Int} {p:Int} (h:(zzJ n xs p).length ≠ 0):zvT n xs = true:=by
 refine Classical.byContradiction fun hc=>h ?_
 unfold zzJ zDY
 rw [zrz fun h=>hc h.1]
 rfl
open Nat (reduceEqDiff reduceMod reduceAdd reduceLT reduceLeDiff reduceSub reduceMul)
theorem zef {α β:Type} (f:α→Option β) {l:List α} {k:Nat} (d:α) (h:k < l.length):(l.take (k + 1)).findSome? f = ((l.take k).findSome? f).or (f (l.getD k d)):=by
 rw [zaK d h,List.findSome?_append]
 simp
theorem zhV {α β:Type} (f:α→Option β) {l:List α} {k:Nat} (d:α) (h:k < l.length) (h0:(l.take k).findSome? f = none) {x:β} (h1:f (l.getD k d) = some x):l.findSome? f = some x:=by
 rw [← List.take_append_drop (k + 1) l,List.findSome?_append,zef f d h,h0,h1];rfl
theorem zkN (gens:List Int) (hg:okL gens) (hgl:gens.length ≤ 1000):∀ (n:Nat) (head:List Int),okL head→head.length + n = gens.length →
 AF Tryz.prog 33 (iL gens) (iL head) 3 (iL ((zbX zb9 gens n head).getD [])) (zbX zb9 gens n head).isSome:=by
 intro n
 induction n with
 | zero =>
   intro head hh hn
   unfold AF
   refine AG.go (rs:=[.tmp 4,.tmp 5]) zaQ zar Tryz.func33 rfl rfl rfl (by kernel_rfl) fun hl hrl z hz hr=>?_
   have z0:z.sl 0 = zaI gens:=by rw [hz];rfl
   have z1:z.sl 1 = .own 1000000 1:=by rw [hz];rfl
   have y0:z.rw 1000000 = ⟨1,.sli 3 1 false (iL head)⟩:=by rw [hr,zjs]
   clear hz hr
   simp (maxSteps:=5000000) -dsimp only [↓gp,gq,reduceCtorEq,reduceEqDiff,reduceLT,reduceLeDiff,reduceAdd,reduceMul,reduceSub,Nat.reduceBEq,Int.reduceToNat,Int.reduceLE,Int.reduceLT,Int.reduceNeg,reduceMod,zac,zad,zab,zaa,gT,TK.isInt,TK.agg,Array.toList,z0,z1,y0]
   refine ⟨fun _=>⟨1000000,1,.inl rfl,rfl,by simp (maxSteps:=5000000) -dsimp only [gr,reduceEqDiff,reduceLT,reduceAdd,reduceMod,Nat.reduceBEq,zaa,zac,zad,zab,y0];rfl⟩,fun h=>?_⟩
   rw [beq_eq_false_iff_ne] at h
   exact absurd (by omega) h
 | succ n ih =>
   intro head hh hn
   unfold AF
   refine AG.go (rs:=[.tmp 4,.tmp 5]) zaQ zar Tryz.func33 rfl rfl rfl (by kernel_rfl) fun hl hrl z hz hr=>?_
   have z0:z.sl 0 = zaI gens:=by rw [hz];rfl
   have z1:z.sl 1 = .own 1000000 1:=by rw [hz];rfl
   have y0:z.rw 1000000 = ⟨1,.sli 3 1 false (iL head)⟩:=by rw [hr,zjs]
   clear hz hr
   simp (maxSteps:=5000000) -dsimp only [↓gp,gq,reduceCtorEq,reduceEqDiff,reduceLT,reduceLeDiff,reduceAdd,reduceMul,reduceSub,Nat.reduceBEq,Int.reduceToNat,Int.reduceLE,Int.reduceLT,Int.reduceNeg,reduceMod,zac,zad,zab,zaa,gT,TK.isInt,TK.agg,Array.toList,z0,z1,y0]
   have hne:((head.length:Int) == (gens.length:Int)) = false:=by rw [beq_eq_false_iff_ne];omega
   refine ⟨fun h=>absurd (hne.symm.trans h) (by decide),fun _=>?_⟩
   have hF:∀ g,(if decide (g ∈ head) || !zb9 head g then none else zbX zb9 gens n (head ++ [g])) = (fun g=>if decide (g ∈ head) || !zb9 head g then none else zbX zb9 gens n (head ++ [g])) g:=fun _=>rfl
   have hdef:zbX zb9 gens (n + 1) head = gens.findSome? (fun g=>if decide (g ∈ head) || !zb9 head g then none else zbX zb9 gens n (head ++ [g])):=rfl
   rw [hdef]
   generalize hf:(fun g=>if decide (g ∈ head) || !zb9 head g then none else zbX zb9 gens n (head ++ [g])) = f at *
   refine zam (fun (k:Nat) s=>s.sl 0 = zaI gens∧s.sl 1 = .own 1000000 1∧s.rw 1000000 = ⟨1,.sli 3 1 false (iL head)⟩∧s.sl 6 = int k∧(k ≤ gens.length∧(gens.take k).findSome? f = none)) (fun k=>gens.length - k) (0) (by refine ⟨?_,?_,?_,?_,⟨Nat.zero_le _,rfl⟩⟩ <;> (first | (simp (maxSteps:=5000000) -dsimp only [gr,reduceEqDiff,reduceLT,reduceAdd,reduceMod,Nat.reduceBEq,zaa,zac,zad,zab,z0,z1,y0];first | done | rfl | (simp;done)) | assumption | rfl)) ?_
   intro k sa ⟨h0a,h1a,r1000000a,h6a,hIa⟩
   obtain ⟨hk,hnone⟩:=hIa
   simp (maxSteps:=5000000) -dsimp only [↓gp,gq,reduceCtorEq,reduceEqDiff,reduceLT,reduceLeDiff,reduceAdd,reduceMul,reduceSub,Nat.reduceBEq,Int.reduceToNat,Int.reduceLE,Int.reduceLT,Int.reduceNeg,reduceMod,zac,zad,zab,zaa,gT,TK.isInt,TK.agg,Array.toList,h0a,h1a,r1000000a,h6a]
   refine ⟨fun h=>?_,fun h=>?_⟩
   ·have hgk:=hg _ (zaz 0 h)
    refine ⟨h,h,zaf (zdw head _) ?_⟩
    simp (maxSteps:=5000000) -dsimp only [↓gp,gq,reduceCtorEq,reduceEqDiff,reduceLT,reduceLeDiff,reduceAdd,reduceMul,reduceSub,Nat.reduceBEq,Int.reduceToNat,Int.reduceLE,Int.reduceLT,Int.reduceNeg,reduceMod,zac,zad,zab,zaa,gT,TK.isInt,TK.agg,Array.toList,h0a,h1a,r1000000a,h6a]
    have hgo:f (gens.getD k 0) = if decide (gens.getD k 0 ∈ head) || !zb9 head (gens.getD k 0) then none else zbX zb9 gens n (head ++ [gens.getD k 0]):=by rw [← hf]
    have hskip:f (gens.getD k 0) = none→(gens.take (k + 1)).findSome? f = none:=fun e=>by rw [zef f 0 h,hnone,e];rfl
    refine ⟨fun hm=>⟨h,h,zaf (zfD head _ hh hgk) ?_⟩,fun hm=>?_⟩
    ·simp (maxSteps:=5000000) -dsimp only [↓gp,gq,reduceCtorEq,reduceEqDiff,reduceLT,reduceLeDiff,reduceAdd,reduceMul,reduceSub,Nat.reduceBEq,Int.reduceToNat,Int.reduceLE,Int.reduceLT,Int.reduceNeg,reduceMod,zac,zad,zab,zaa,gT,TK.isInt,TK.agg,Array.toList,h0a,h1a,r1000000a,h6a]
     refine ⟨fun hb=>?_,fun hb=>?_⟩
     ·have e:f (gens.getD k 0) = none:=by rw [hgo,if_pos (by rw [show zb9 head (gens.getD k 0) = false by simpa using hb];simp)]
      exact zah (k + 1) (by refine ⟨?_,?_,?_,?_,⟨by omega,hskip e⟩⟩ <;> (first | (simp (maxSteps:=5000000) -dsimp only [gr,reduceEqDiff,reduceLT,reduceAdd,reduceMod,Nat.reduceBEq,zaa,zac,zad,zab,h0a,h1a,r1000000a,h6a,zae h (by omega)];first | done | rfl | (simp;done)) | assumption | rfl)) (by first | omega | (simp only;omega) | (dsimp only;omega) | (show _ < _;simp;omega))
     ·have hb:zb9 head (gens.getD k 0) = true:=by simpa using hb
      have e:f (gens.getD k 0) = zbX zb9 gens n (head ++ [gens.getD k 0]):=by
       rw [hgo,if_neg (by rw [hb];simpa using hm)]
      have hIH:=ih (head ++ [gens.getD k 0]) (fun b hb'=>by
       rcases List.mem_append.1 hb' with h' | h'
       ·exact hh b h'
       ·rw [List.mem_singleton.1 h'];exact hgk) (by simp;omega)
      rw [← e] at hIH
      refine ⟨by kernel_rfl,by omega,h,h,by omega,zAc hIH (by simp (maxSteps:=5000000) -dsimp only [gr,reduceEqDiff,reduceLT,reduceAdd,reduceMod,Nat.reduceBEq,zaa,zac,zad,zab];rw [show iL (head ++ [gens.getD k 0]) = iL head ++ iL [gens.getD k 0] from by simp [iL]]) (zbo _) (by decide) (by decide) ?_⟩
      simp (maxSteps:=5000000) -dsimp only [↓gp,gq,reduceCtorEq,reduceEqDiff,reduceLT,reduceLeDiff,reduceAdd,reduceMul,reduceSub,Nat.reduceBEq,Int.reduceToNat,Int.reduceLE,Int.reduceLT,Int.reduceNeg,reduceMod,zac,zad,zab,zaa,gT,TK.isInt,TK.agg,Array.toList,h0a,h1a,r1000000a,h6a]
      refine ⟨by kernel_rfl,fun hs=>?_,fun hs=>?_⟩
      ·obtain ⟨x,hx⟩:=Option.isSome_iff_exists.1 hs
       rw [zhV f 0 h hnone hx]
       rw [hx]
       exact ⟨47,_,.inr (by decide),rfl,by simp (maxSteps:=5000000) -dsimp only [gr,reduceEqDiff,reduceLT,reduceAdd,reduceMod,Nat.reduceBEq,zaa,zac,zad,zab]⟩
      ·have e0:f (gens.getD k 0) = none:=by
        cases hx:f (gens.getD k 0) with
        | none=>rfl
        | some x=>rw [hx] at hs;cases hs
       exact zah (k + 1) (by refine ⟨?_,?_,?_,?_,⟨by omega,hskip e0⟩⟩ <;> (first | (simp (maxSteps:=5000000) -dsimp only [gr,reduceEqDiff,reduceLT,reduceAdd,reduceMod,Nat.reduceBEq,zaa,zac,zad,zab,h0a,h1a,r1000000a,h6a,zae h (by omega)];first | done | rfl | (simp;done)) | assumption | rfl)) (by first | omega | (simp only;omega) | (dsimp only;omega) | (show _ < _;simp;omega))
    ·have e:f (gens.getD k 0) = none:=by rw [hgo,if_pos (by simpa using Or.inl hm)]
     exact zah (k + 1) (by refine ⟨?_,?_,?_,?_,⟨by omega,hskip e⟩⟩ <;> (first | (simp (maxSteps:=5000000) -dsimp only [gr,reduceEqDiff,reduceLT,reduceAdd,reduceMod,Nat.reduceBEq,zaa,zac,zad,zab,h0a,h1a,r1000000a,h6a,zae h (by omega)];first | done | rfl | (simp;done)) | assumption | rfl)) (by first | omega | (simp only;omega) | (dsimp only;omega) | (show _ < _;simp;omega))
   ·have e:k = gens.length:=by omega
    rw [e,List.take_length] at hnone
    rw [hnone]
    exact ⟨52,_,.inr (by decide),rfl,by simp (maxSteps:=5000000) -dsimp only [gr,reduceEqDiff,reduceLT,reduceAdd,reduceMod,Nat.reduceBEq,zaa,zac,zad,zab];rfl⟩
noncomputable def zFD (xs:List Int):List Nat:=(List.range 64).filter (inF xs)
noncomputable def zks (xs:List Int):List Int:=ofN (zFD xs)
theorem zFE (xs:List Int):okL (zks xs):=fun b hb=>by
 unfold zks ofN at hb
 obtain ⟨s,hs,rfl⟩:=List.mem_map.1 hb
 have:=List.mem_range.1 (List.mem_filter.1 hs).1
 omega
theorem zzQ (xs:List Int):(zks xs).length ≤ 64:=by
 unfold zks zFD
 rw [zaq]
 have:=List.length_filter_le (inF xs) (List.range 64)
 rw [List.length_range] at this
 exact this
noncomputable def zh8 (n:Int) (xs:List Int):Option (List Int):=if zdj n xs = true∧xs.length ≤ 8 then zbX zb9 (zks xs) (zks xs).length [] else none
theorem zen (n:Int) (xs:List Int):AC Tryz.prog 8 [.ag [int n,zaI xs]] (.tup [.fr 3 1 (iL ((zh8 n xs).getD [])),.im (bool (zh8 n xs).isSome)]):=by
 refine AC.go (rs:=[.tmp 2,.tmp 3]) zaQ zar Tryz.func8 rfl rfl rfl (by kernel_rfl) fun hl=>?_
 simp (maxSteps:=5000000) -dsimp only [↓gp,gq,reduceCtorEq,reduceEqDiff,reduceLT,reduceLeDiff,reduceAdd,reduceMul,reduceSub,Nat.reduceBEq,Int.reduceToNat,Int.reduceLE,Int.reduceLT,Int.reduceNeg,reduceMod,zac,zad,zab,zaa,gT,TK.isInt,TK.agg,Array.toList]
 refine zaf (zfI n xs) ?_
 simp (maxSteps:=5000000) -dsimp only [↓gp,gq,reduceCtorEq,reduceEqDiff,reduceLT,reduceLeDiff,reduceAdd,reduceMul,reduceSub,Nat.reduceBEq,Int.reduceToNat,Int.reduceLE,Int.reduceLT,Int.reduceNeg,reduceMod,zac,zad,zab,zaa,gT,TK.isInt,TK.agg,Array.toList]
 unfold zh8
 refine ⟨fun hc=>?_,fun hc=>?_⟩
 ·have hc:zdj n xs = true:=by simpa using hc
  refine ⟨fun h8=>?_,fun h8=>?_⟩
  ·rw [if_neg (by omega)];exact ⟨rfl,rfl⟩
  ·rw [if_pos ⟨hc,by omega⟩]
   refine zam (fun (za:Nat × Nat) s=>match za with | (m,v)=>s.sl 1 = .ref 1 1 0∧s.rw 1 = ⟨1,.box 26 [int n,zaI xs]⟩∧s.sl 4 = .own 18 v∧s.rw 18 = ⟨v,.sli 3 1 false (iL (ofN ((List.range m).filter (inF xs))))⟩∧s.sl 5 = int m∧(m ≤ 64)) (fun (m,v)=>64 - m) ((0,1)) (by refine ⟨?_,?_,?_,?_,?_,by simp⟩ <;> (first | (simp (maxSteps:=5000000) -dsimp only [gr,reduceEqDiff,reduceLT,reduceAdd,reduceMod,Nat.reduceBEq,zaa,zac,zad,zab];first | done | rfl | (simp;done)) | assumption | rfl)) ?_
   intro (m,v) sa ⟨h1a,r1a,h4a,r18a,h5a,hIa⟩
   have hfl:((List.range m).filter (inF xs)).length ≤ 64:=by
    have:=List.length_filter_le (inF xs) (List.range m)
    rw [List.length_range] at this
    omega
   simp (maxSteps:=5000000) -dsimp only [↓gp,gq,reduceCtorEq,reduceEqDiff,reduceLT,reduceLeDiff,reduceAdd,reduceMul,reduceSub,Nat.reduceBEq,Int.reduceToNat,Int.reduceLE,Int.reduceLT,Int.reduceNeg,reduceMod,zac,zad,zab,zaa,gT,TK.isInt,TK.agg,Array.toList,h1a,r1a,h4a,r18a,h5a]
   refine ⟨fun h=>zaf (zdw xs _) ?_,fun h=>?_⟩
   ·simp (maxSteps:=5000000) -dsimp only [↓gp,gq,reduceCtorEq,reduceEqDiff,reduceLT,reduceLeDiff,reduceAdd,reduceMul,reduceSub,Nat.reduceBEq,Int.reduceToNat,Int.reduceLE,Int.reduceLT,Int.reduceNeg,reduceMod,zac,zad,zab,zaa,gT,TK.isInt,TK.agg,Array.toList,h1a,r1a,h4a,r18a,h5a]
    have hyes:(m:Int) ∈ xs→ofN ((List.range (m + 1)).filter (inF xs)) = ofN ((List.range m).filter (inF xs)) ++ [(m:Int)]:=fun h=>by
     rw [List.range_succ,List.filter_append,za2]
     simp [inF,h,ofN]
    have hno:¬ (m:Int) ∈ xs→ofN ((List.range (m + 1)).filter (inF xs)) = ofN ((List.range m).filter (inF xs)):=fun h=>by
     rw [List.range_succ,List.filter_append,za2]
     simp [inF,h,ofN]
    refine ⟨fun hm=>⟨by rw [zaq];omega,zah ((m + 1,v + 1)) (by refine ⟨?_,?_,?_,?_,?_,by dsimp only;omega⟩ <;> (first | (simp (maxSteps:=5000000) -dsimp only [gr,reduceEqDiff,reduceLT,reduceAdd,reduceMod,Nat.reduceBEq,zaa,zac,zad,zab,h1a,r1a,h4a,r18a,h5a,zae (show m < 64 by omega) (by omega),hyes hm];first | done | rfl | (simp;done)) | assumption | rfl)) (by first | omega | (simp only;omega) | (dsimp only;omega) | (show _ < _;simp;omega))⟩,fun hm=>zah ((m + 1,v)) (by refine ⟨?_,?_,?_,?_,?_,by dsimp only;omega⟩ <;> (first | (simp (maxSteps:=5000000) -dsimp only [gr,reduceEqDiff,reduceLT,reduceAdd,reduceMod,Nat.reduceBEq,zaa,zac,zad,zab,h1a,r1a,h4a,r18a,h5a,zae (show m < 64 by omega) (by omega),hno hm];first | done | rfl | (simp;done)) | assumption | rfl)) (by first | omega | (simp only;omega) | (dsimp only;omega) | (show _ < _;simp;omega))⟩
   ·have e64:m = 64:=by omega
    subst e64
    have hF:=zkN (zks xs) (zFE xs) (by have:=zzQ xs;omega) (zks xs).length [] (fun b hb=>by cases hb) (by simp)
    generalize zbX zb9 (zks xs) (zks xs).length [] = o at *
    refine zDv hF (.inr ⟨18,v,3,false,rfl,by decide,by simp (maxSteps:=5000000) -dsimp only [gr,reduceEqDiff,reduceLT,reduceAdd,reduceMod,Nat.reduceBEq,zaa,zac,zad,zab,h1a,r1a,h4a,r18a,h5a];rfl⟩) (by simp (maxSteps:=5000000) -dsimp only [gr,reduceEqDiff,reduceLT,reduceAdd,reduceMod,Nat.reduceBEq,zaa,zac,zad,zab];rfl) (zbo _) (by decide) fun S v2 r hr hSd hSr hSs hSrw=>?_
    rcases hr with rfl | rfl
    ·simp (maxSteps:=5000000) -dsimp only [↓gp,gq,reduceCtorEq,reduceEqDiff,reduceLT,reduceLeDiff,reduceAdd,reduceMul,reduceSub,Nat.reduceBEq,Int.reduceToNat,Int.reduceLE,Int.reduceLT,Int.reduceNeg,reduceMod,zac,zad,zab,zaa,gT,TK.isInt,TK.agg,Array.toList,hSd,hSr]
    ·simp (maxSteps:=5000000) -dsimp only [↓gp,gq,reduceCtorEq,reduceEqDiff,reduceLT,reduceLeDiff,reduceAdd,reduceMul,reduceSub,Nat.reduceBEq,Int.reduceToNat,Int.reduceLE,Int.reduceLT,Int.reduceNeg,reduceMod,zac,zad,zab,zaa,gT,TK.isInt,TK.agg,Array.toList,hSd,hSr]
 ·rw [if_neg (fun h=>by rw [h.1] at hc;cases hc)];exact ⟨rfl,rfl⟩
theorem zD9 (v:BitVec 64):BitVec.ofInt 64 (IntKind.i64.wrap (v.toNat:Int)) = v:=by
 have hv:=v.isLt
 refine BitVec.eq_of_toNat_eq ?_
 rw [BitVec.toNat_ofInt]
 simp only [IntKind.wrap,IntKind.bits,IntKind.signed]
 simp only [Bool.true_and,decide_eq_true_eq]
 split <;> omega
theorem zzR (z x y:Int):ior .i64 (ior .i64 z x) y = ior .i64 (ior .i64 z y) x:=by
 have e:∀ a b c:Int,ior .i64 (ior .i64 a b) c = IntKind.i64.wrap ((BitVec.ofInt 64 a ||| BitVec.ofInt 64 b) ||| BitVec.ofInt 64 c).toNat:=fun a b c=>by
  show IntKind.i64.wrap (BitVec.ofInt 64 (IntKind.i64.wrap ((BitVec.ofInt 64 a ||| BitVec.ofInt 64 b).toNat:Int)) ||| BitVec.ofInt 64 c).toNat = _
  rw [zD9]
 rw [e,e,BitVec.or_assoc,BitVec.or_comm (BitVec.ofInt 64 x),← BitVec.or_assoc]
theorem zvH {l l':List Int} (g:Int) (h:l.Perm l'):zdN l g = zdN l' g:=by
 unfold zdN
 refine h.foldl_eq' (fun x _ y _ z=>?_) 0
 unfold zbx
 split <;> split <;> first | rfl | exact zzR _ _ _ | simp_all
theorem zvI (l l':List Int) (x:Int) (h:l.Perm l'):zb9 l x = zb9 l' x:=by
 unfold zb9
 rw [zvH x h]
 exact h.all_eq
theorem zBk {xs:List Int} (hn:xs.Nodup) (hx:okL xs):zhe xs = zks xs:=by
 symm
 have hmem:∀ x:Int,x ∈ zks xs ↔ x ∈ xs:=fun x=>by
  unfold zks zFD ofN
  rw [List.mem_map]
  refine ⟨fun ⟨s,hs,e⟩=>?_,fun h=>⟨x.toNat,List.mem_filter.2 ⟨List.mem_range.2 (by have:=hx x h;omega),?_⟩,by have:=hx x h;omega⟩⟩
  ·have h2:=(List.mem_filter.1 hs).2
   unfold inF at h2
   rw [← e];exact of_decide_eq_true h2
  ·unfold inF
   have:=hx x h
   exact decide_eq_true (by rw [show ((x.toNat:Nat):Int) = x by omega];exact h)
 have hpw:(zks xs).Pairwise (· < ·):=by
  unfold zks zFD ofN
  refine List.Pairwise.map _ (fun a b h=>?_) (List.Pairwise.filter _ List.pairwise_lt_range)
  ·exact Int.ofNat_lt.2 h
 refine zun ?_ (hpw.imp fun h=>Int.le_of_lt h)
 exact (List.perm_ext_iff_of_nodup (hpw.imp fun h=>Int.ne_of_lt h) hn).2 hmem
theorem zvJ (x y:Int):AC Tryz.prog 92 [int x,int y] (.im (bool (decide (x < y)))):=by
 refine AC.go (rs:=[.tmp 4]) zaQ zar Tryz.func92 rfl rfl rfl (by kernel_rfl) fun hl=>?_
 simp (maxSteps:=5000000) -dsimp only [↓gp,gq,reduceCtorEq,reduceEqDiff,reduceLT,reduceLeDiff,reduceAdd,reduceMul,reduceSub,Nat.reduceBEq,Int.reduceToNat,Int.reduceLE,Int.reduceLT,Int.reduceNeg,reduceMod,zac,zad,zab,zaa,gT,TK.isInt,TK.agg,Array.toList]
 refine zaf (zqw x) ?_
 simp (maxSteps:=5000000) -dsimp only [↓gp,gq,reduceCtorEq,reduceEqDiff,reduceLT,reduceLeDiff,reduceAdd,reduceMul,reduceSub,Nat.reduceBEq,Int.reduceToNat,Int.reduceLE,Int.reduceLT,Int.reduceNeg,reduceMod,zac,zad,zab,zaa,gT,TK.isInt,TK.agg,Array.toList]
theorem zqk (n:Nat) (hn:n < 9):∃ k:Int,AC Tryz.prog 96 [u64 n] (.im (int k)):=by
 refine ⟨if n = 0 then 0 else if n < 2 then 1 else if n < 4 then 2 else if n < 8 then 3 else 4,?_⟩
 refine AC.go (rs:=[.tmp 2]) zaQ zar Tryz.func96 rfl rfl rfl (by kernel_rfl) fun hl=>?_
 simp (maxSteps:=5000000) -dsimp only [↓gp,gq,reduceCtorEq,reduceEqDiff,reduceLT,reduceLeDiff,reduceAdd,reduceMul,reduceSub,Nat.reduceBEq,Int.reduceToNat,Int.reduceLE,Int.reduceLT,Int.reduceNeg,reduceMod,zac,zad,zab,zaa,gT,TK.isInt,TK.agg,Array.toList]
 refine ⟨fun h=>absurd h (by omega),fun _=>⟨fun h=>absurd h (by omega),fun _=>⟨fun h=>absurd h (by omega),fun _=>?_⟩⟩⟩
 have h9:n = 0 ∨ n = 1 ∨ n = 2 ∨ n = 3 ∨ n = 4 ∨ n = 5 ∨ n = 6 ∨ n = 7 ∨ n = 8:=by omega
 rcases h9 with rfl | rfl | rfl | rfl | rfl | rfl | rfl | rfl | rfl <;> exact ⟨by decide +kernel,by decide +kernel,by decide +kernel⟩
theorem zvK (n:Nat) (hn:n < 9):∃ k:Int,AC Tryz.prog 78 [.v (.int .u64 n)] (.im (int k)):=by
 obtain ⟨k,hk⟩:=zqk n hn
 refine ⟨k,?_⟩
 refine AC.go (rs:=[.tmp 2]) zaQ zar Tryz.func78 rfl rfl rfl (by kernel_rfl) fun hl=>?_
 simp (maxSteps:=5000000) -dsimp only [↓gp,gq,reduceCtorEq,reduceEqDiff,reduceLT,reduceLeDiff,reduceAdd,reduceMul,reduceSub,Nat.reduceBEq,Int.reduceToNat,Int.reduceLE,Int.reduceLT,Int.reduceNeg,reduceMod,zac,zad,zab,zaa,gT,TK.isInt,TK.agg,Array.toList]
 refine zaf hk ?_
 simp (maxSteps:=5000000) -dsimp only [↓gp,gq,reduceCtorEq,reduceEqDiff,reduceLT,reduceLeDiff,reduceAdd,reduceMul,reduceSub,Nat.reduceBEq,Int.reduceToNat,Int.reduceLE,Int.reduceLT,Int.reduceNeg,reduceMod,zac,zad,zab,zaa,gT,TK.isInt,TK.agg,Array.toList]
theorem zkl (xs:List Int) (hx:xs.length ≤ 1000):AM Tryz.prog 86 [.own 1000000 1,int 0,int xs.length] [⟨3,1,iL xs⟩] [iL (zhe xs)] (.tuple #[]):=by
 refine AM.go (rs:=[]) zaQ zar Tryz.func86 rfl rfl rfl (by kernel_rfl) (zfN (zbo _) zgX) (zfM (zbo _) zgW) rfl fun hl=>?_
 simp (maxSteps:=5000000) -dsimp only [↓gp,gq,reduceCtorEq,reduceEqDiff,reduceLT,reduceLeDiff,reduceAdd,reduceMul,reduceSub,Nat.reduceBEq,Int.reduceToNat,Int.reduceLE,Int.reduceLT,Int.reduceNeg,reduceMod,zac,zad,zab,zaa,gT,TK.isInt,TK.agg,Array.toList]
 refine zam (fun ((i,l):Nat × List Int) s=>s.sl 0 = .own 1000000 1∧s.rw 1000000 = ⟨1,.sli 3 1 false (iL l)⟩∧s.sl 1 = int 0∧s.sl 2 = int xs.length∧s.sl 6 = int i∧1 ≤ i∧l.Perm xs∧zA7 l i∧(i ≤ xs.length ∨ xs.length = 0)) (fun (i,_)=>xs.length - i) (1,xs) ⟨by simp (maxSteps:=5000000) -dsimp only [gr,reduceEqDiff,reduceLT,reduceAdd,reduceMod,Nat.reduceBEq,zaa,zac,zad,zab],by simp (maxSteps:=5000000) -dsimp only [gr,reduceEqDiff,reduceLT,reduceAdd,reduceMod,Nat.reduceBEq,zaa,zac,zad,zab],by simp (maxSteps:=5000000) -dsimp only [gr,reduceEqDiff,reduceLT,reduceAdd,reduceMod,Nat.reduceBEq,zaa,zac,zad,zab],by simp (maxSteps:=5000000) -dsimp only [gr,reduceEqDiff,reduceLT,reduceAdd,reduceMod,Nat.reduceBEq,zaa,zac,zad,zab],by simp (maxSteps:=5000000) -dsimp only [gr,reduceEqDiff,reduceLT,reduceAdd,reduceMod,Nat.reduceBEq,zaa,zac,zad,zab];rfl,by omega,List.Perm.refl _,fun a b h1 h2=>by omega,by omega⟩ ?_
 intro (i,l) s1 ⟨h0,r0,h1,h2,h6,hi,hp,hs,hb⟩
 have hlen:=hp.length_eq
 simp (maxSteps:=5000000) -dsimp only [↓gp,gq,reduceCtorEq,reduceEqDiff,reduceLT,reduceLeDiff,reduceAdd,reduceMul,reduceSub,Nat.reduceBEq,Int.reduceToNat,Int.reduceLE,Int.reduceLT,Int.reduceNeg,reduceMod,zac,zad,zab,zaa,gT,TK.isInt,TK.agg,Array.toList,h0,r0,h1,h2,h6]
 refine ⟨fun hin=>?_,fun hin=>?_⟩
 rotate_left
 ·have e:l = zhe xs:=by
   refine zzd hp fun a b q1 q2=>?_
   rcases hb with hb | hb
   ·exact hs a b q1 (by omega)
   ·omega
  rw [← e]
 ·refine zam (fun ((j,m):Nat × List Int) s=>s.sl 0 = .own 1000000 1∧s.rw 1000000 = ⟨1,.sli 3 1 false (iL m)⟩∧s.sl 1 = int 0∧s.sl 2 = int xs.length∧s.sl 6 = int i∧s.sl 7 = int j∧j ≤ i∧m.Perm xs∧zp3 m i j) (fun (j,_)=>j) (i,l) ⟨by simp (maxSteps:=5000000) -dsimp only [gr,reduceEqDiff,reduceLT,reduceAdd,reduceMod,Nat.reduceBEq,zaa,zac,zad,zab,h0],by simp (maxSteps:=5000000) -dsimp only [gr,reduceEqDiff,reduceLT,reduceAdd,reduceMod,Nat.reduceBEq,zaa,zac,zad,zab,r0],by simp (maxSteps:=5000000) -dsimp only [gr,reduceEqDiff,reduceLT,reduceAdd,reduceMod,Nat.reduceBEq,zaa,zac,zad,zab,h1],by simp (maxSteps:=5000000) -dsimp only [gr,reduceEqDiff,reduceLT,reduceAdd,reduceMod,Nat.reduceBEq,zaa,zac,zad,zab,h2],by simp (maxSteps:=5000000) -dsimp only [gr,reduceEqDiff,reduceLT,reduceAdd,reduceMod,Nat.reduceBEq,zaa,zac,zad,zab,h6],by simp (maxSteps:=5000000) -dsimp only [gr,reduceEqDiff,reduceLT,reduceAdd,reduceMod,Nat.reduceBEq,zaa,zac,zad,zab],Nat.le_refl _,hp,zvr hs⟩ ?_
  intro (j,m) s2 ⟨g0,k0,g1,g2,g6,g7,hj,hpm,hsm⟩
  have hlm:=hpm.length_eq
  have hjl:j < m.length:=by omega
  by_cases hj0:0 < j
  ·have hw:IntKind.i64.wrap ((j:Int) - 1) = ((j - 1:Nat):Int):=by rw [zap (by omega) (by omega)];omega
   simp (maxSteps:=5000000) -dsimp only [↓gp,gq,reduceCtorEq,reduceEqDiff,reduceLT,reduceLeDiff,reduceAdd,reduceMul,reduceSub,Nat.reduceBEq,Int.reduceToNat,Int.reduceLE,Int.reduceLT,Int.reduceNeg,reduceMod,zac,zad,zab,zaa,gT,TK.isInt,TK.agg,Array.toList,g0,k0,g1,g2,g6,g7,hw]
   refine ⟨by kernel_rfl,fun _=>⟨hjl,hjl,by omega,by omega,zaf (zvJ _ _) ?_⟩,fun h=>?_⟩
   ·simp (maxSteps:=5000000) -dsimp only [↓gp,gq,reduceCtorEq,reduceEqDiff,reduceLT,reduceLeDiff,reduceAdd,reduceMul,reduceSub,Nat.reduceBEq,Int.reduceToNat,Int.reduceLE,Int.reduceLT,Int.reduceNeg,reduceMod,zac,zad,zab,zaa,gT,TK.isInt,TK.agg,Array.toList,g0,k0,g1,g2,g6,g7,hw]
    refine ⟨fun hlt=>⟨by kernel_rfl,by omega,by omega,by omega,by omega,by omega,by omega,by omega,by omega,by kernel_rfl,?_⟩,fun hge=>?_⟩
    ·exact zah (j - 1,swj m j) ⟨by simp (maxSteps:=5000000) -dsimp only [gr,reduceEqDiff,reduceLT,reduceAdd,reduceMod,Nat.reduceBEq,zaa,zac,zad,zab,g0],by simp (maxSteps:=5000000) -dsimp only [gr,reduceEqDiff,reduceLT,reduceAdd,reduceMod,Nat.reduceBEq,zaa,zac,zad,zab,k0];rfl,by simp (maxSteps:=5000000) -dsimp only [gr,reduceEqDiff,reduceLT,reduceAdd,reduceMod,Nat.reduceBEq,zaa,zac,zad,zab,g1],by simp (maxSteps:=5000000) -dsimp only [gr,reduceEqDiff,reduceLT,reduceAdd,reduceMod,Nat.reduceBEq,zaa,zac,zad,zab,g2],by simp (maxSteps:=5000000) -dsimp only [gr,reduceEqDiff,reduceLT,reduceAdd,reduceMod,Nat.reduceBEq,zaa,zac,zad,zab,g6],by simp (maxSteps:=5000000) -dsimp only [gr,reduceEqDiff,reduceLT,reduceAdd,reduceMod,Nat.reduceBEq,zaa,zac,zad,zab,hw],by omega,(zA6 hj0 hjl).trans hpm,zro hsm hj0 hj (by omega) hlt⟩ (by show j - 1 < j;omega)
    ·exact zah (i + 1,m) ⟨by simp (maxSteps:=5000000) -dsimp only [gr,reduceEqDiff,reduceLT,reduceAdd,reduceMod,Nat.reduceBEq,zaa,zac,zad,zab,g0],by simp (maxSteps:=5000000) -dsimp only [gr,reduceEqDiff,reduceLT,reduceAdd,reduceMod,Nat.reduceBEq,zaa,zac,zad,zab,k0],by simp (maxSteps:=5000000) -dsimp only [gr,reduceEqDiff,reduceLT,reduceAdd,reduceMod,Nat.reduceBEq,zaa,zac,zad,zab,g1],by simp (maxSteps:=5000000) -dsimp only [gr,reduceEqDiff,reduceLT,reduceAdd,reduceMod,Nat.reduceBEq,zaa,zac,zad,zab,g2],by simp (maxSteps:=5000000) -dsimp only [gr,reduceEqDiff,reduceLT,reduceAdd,reduceMod,Nat.reduceBEq,zaa,zac,zad,zab];rw [zap (by omega) (by omega)];rfl,by omega,hpm,zj5 hsm hj (.inr (Int.not_lt.1 hge)),by omega⟩ (by show xs.length - (i + 1) < xs.length - i;omega)
   ·exact absurd (show (0:Int) < (j:Int) by omega) h
  ·simp (maxSteps:=5000000) -dsimp only [↓gp,gq,reduceCtorEq,reduceEqDiff,reduceLT,reduceLeDiff,reduceAdd,reduceMul,reduceSub,Nat.reduceBEq,Int.reduceToNat,Int.reduceLE,Int.reduceLT,Int.reduceNeg,reduceMod,zac,zad,zab,zaa,gT,TK.isInt,TK.agg,Array.toList,g0,k0,g1,g2,g6,g7]
   refine ⟨by kernel_rfl,fun h=>absurd (show (0:Int) < (j:Int) from h) (by omega),fun h=>?_⟩
   exact zah (i + 1,m) ⟨by simp (maxSteps:=5000000) -dsimp only [gr,reduceEqDiff,reduceLT,reduceAdd,reduceMod,Nat.reduceBEq,zaa,zac,zad,zab,g0],by simp (maxSteps:=5000000) -dsimp only [gr,reduceEqDiff,reduceLT,reduceAdd,reduceMod,Nat.reduceBEq,zaa,zac,zad,zab,k0],by simp (maxSteps:=5000000) -dsimp only [gr,reduceEqDiff,reduceLT,reduceAdd,reduceMod,Nat.reduceBEq,zaa,zac,zad,zab,g1],by simp (maxSteps:=5000000) -dsimp only [gr,reduceEqDiff,reduceLT,reduceAdd,reduceMod,Nat.reduceBEq,zaa,zac,zad,zab,g2],by simp (maxSteps:=5000000) -dsimp only [gr,reduceEqDiff,reduceLT,reduceAdd,reduceMod,Nat.reduceBEq,zaa,zac,zad,zab];rw [zap (by omega) (by omega)];rfl,by omega,hpm,zj5 hsm hj (.inl (by omega)),by omega⟩ (by show xs.length - (i + 1) < xs.length - i;omega)
theorem zzS (xs:List Int) (hx:xs.length ≤ 12) (k:Int):AM Tryz.prog 77 [.own 1000000 1,int 0,int xs.length,int k] [⟨3,1,iL xs⟩] [iL (zhe xs)] (.tuple #[]):=by
 refine AM.go (rs:=[]) zaQ zar Tryz.func77 rfl rfl rfl (by kernel_rfl) (zfN (zbo _) zgX) (zfM (zbo _) zgW) rfl fun hl=>?_
 simp (maxSteps:=5000000) -dsimp only [↓gp,gq,reduceCtorEq,reduceEqDiff,reduceLT,reduceLeDiff,reduceAdd,reduceMul,reduceSub,Nat.reduceBEq,Int.reduceToNat,Int.reduceLE,Int.reduceLT,Int.reduceNeg,reduceMod,zac,zad,zab,zaa,gT,TK.isInt,TK.agg,Array.toList]
 refine zam (fun (_:Unit) s=>s.sl 0 = .own 1000000 1∧s.rw 1000000 = ⟨1,.sli 3 1 false (iL xs)⟩∧s.sl 1 = int 0∧s.sl 2 = int xs.length) (fun _=>0) () ⟨by simp (maxSteps:=5000000) -dsimp only [gr,reduceEqDiff,reduceLT,reduceAdd,reduceMod,Nat.reduceBEq,zaa,zac,zad,zab],by simp (maxSteps:=5000000) -dsimp only [gr,reduceEqDiff,reduceLT,reduceAdd,reduceMod,Nat.reduceBEq,zaa,zac,zad,zab],by simp (maxSteps:=5000000) -dsimp only [gr,reduceEqDiff,reduceLT,reduceAdd,reduceMod,Nat.reduceBEq,zaa,zac,zad,zab],by simp (maxSteps:=5000000) -dsimp only [gr,reduceEqDiff,reduceLT,reduceAdd,reduceMod,Nat.reduceBEq,zaa,zac,zad,zab]⟩ ?_
 intro _ s1 ⟨h0,r0,h1,h2⟩
 have hw:IntKind.i64.wrap ((xs.length:Int) - 0) = (xs.length:Int):=by rw [zap (by omega) (by omega)];omega
 simp (maxSteps:=5000000) -dsimp only [↓gp,gq,reduceCtorEq,reduceEqDiff,reduceLT,reduceLeDiff,reduceAdd,reduceMul,reduceSub,Nat.reduceBEq,Int.reduceToNat,Int.reduceLE,Int.reduceLT,Int.reduceNeg,reduceMod,zac,zad,zab,zaa,gT,TK.isInt,TK.agg,Array.toList,h0,r0,h1,h2,hw]
 refine ⟨fun h=>?_,fun h=>absurd (show (xs.length:Int) ≤ 12 by omega) h⟩
 refine zqz (zkl xs (by omega)) [(1000000,1)] (by repeat (first | exact GiveL.nil | refine GiveL.v ?_ | refine GiveL.clo ?_ | refine GiveL.own 0 rfl ?_ | refine GiveL.own 1 rfl ?_ | refine GiveL.ag ?_ ?_)) ⟨by simp (maxSteps:=5000000) -dsimp only [gr,reduceEqDiff,reduceLT,reduceAdd,reduceMod,Nat.reduceBEq,zaa,zac,zad,zab,r0],trivial⟩ (by decide) ?_
 simp (maxSteps:=5000000) -dsimp only [↓gp,gq,reduceCtorEq,reduceEqDiff,reduceLT,reduceLeDiff,reduceAdd,reduceMul,reduceSub,Nat.reduceBEq,Int.reduceToNat,Int.reduceLE,Int.reduceLT,Int.reduceNeg,reduceMod,zac,zad,zab,zaa,gT,TK.isInt,TK.agg,Array.toList,r0]
theorem zno (xs:List Int) (hx:xs.length ≤ 8):AM Tryz.prog 58 [.own 1000000 1] [⟨3,1,iL xs⟩] [iL (zhe xs)] (.tuple #[]):=by
 refine AM.go (rs:=[]) zaQ zar Tryz.func58 rfl rfl rfl (by kernel_rfl) (zfN (zbo _) zgX) (zfM (zbo _) zgW) rfl fun hl=>?_
 obtain ⟨k,hk⟩:=zvK xs.length (by omega)
 have hu:IntKind.u64.wrap (xs.length:Int) = (xs.length:Int):=ze5 (by omega)
 simp (maxSteps:=5000000) -dsimp only [↓gp,gq,reduceCtorEq,reduceEqDiff,reduceLT,reduceLeDiff,reduceAdd,reduceMul,reduceSub,Nat.reduceBEq,Int.reduceToNat,Int.reduceLE,Int.reduceLT,Int.reduceNeg,reduceMod,zac,zad,zab,zaa,gT,TK.isInt,TK.agg,Array.toList,hu]
 refine zaf hk ?_
 simp (maxSteps:=5000000) -dsimp only [↓gp,gq,reduceCtorEq,reduceEqDiff,reduceLT,reduceLeDiff,reduceAdd,reduceMul,reduceSub,Nat.reduceBEq,Int.reduceToNat,Int.reduceLE,Int.reduceLT,Int.reduceNeg,reduceMod,zac,zad,zab,zaa,gT,TK.isInt,TK.agg,Array.toList,hu]
 refine zqz (zzS xs (by omega) k) [(1000000,1)] (by repeat (first | exact GiveL.nil | refine GiveL.v ?_ | refine GiveL.clo ?_ | refine GiveL.own 0 rfl ?_ | refine GiveL.own 1 rfl ?_ | refine GiveL.ag ?_ ?_)) ⟨by simp (maxSteps:=5000000) -dsimp only [gr,reduceEqDiff,reduceLT,reduceAdd,reduceMod,Nat.reduceBEq,zaa,zac,zad,zab],trivial⟩ (by decide) ?_
 simp (maxSteps:=5000000) -dsimp only [↓gp,gq,reduceCtorEq,reduceEqDiff,reduceLT,reduceLeDiff,reduceAdd,reduceMul,reduceSub,Nat.reduceBEq,Int.reduceToNat,Int.reduceLE,Int.reduceLT,Int.reduceNeg,reduceMod,zac,zad,zab,zaa,gT,TK.isInt,TK.agg,Array.toList]
def oC (items:List Int) (f:FuncId) (fl:List Bool) (p:PV):List PV:=.sl false 1 (iL items) :: .clo f [] :: (bL fl ++ [p])
section
variable {items:List Int} {f:FuncId} {fl:List Bool} {p:PV} {Kp:PV→Prop}
theorem zqj (h:fl.length = 256):(oC items f fl p).length = 259:=by simp [oC,bL,h]
theorem zki {t:TypeId} (h0:(T t).k.agg = false) (h1:0 < (T t).size):ldK T t .asis (oC items f fl p) 0 Kp = Kp (.sl false 1 (iL items)):=by simp [ldK,h0,h1,oC,Md.fix]
theorem zkj {t:TypeId} (h0:(T t).k.agg = false) (h1:0 < (T t).size):ldK T t .asis (oC items f fl p) 1 Kp = Kp (.clo f []):=by simp [ldK,h0,h1,oC,Md.fix]
theorem zFA {t:TypeId} (n:Nat) (h:fl.length = 256) (hn:n < 256) (h0:(T t).k.agg = false) (h1:0 < (T t).size):ldK T t .asis (oC items f fl p) (2 + n) Kp = Kp (.v (.bool (fl.getD n false))):=by
 have e:(oC items f fl p).getD (2 + n) .junk = .v (.bool (fl.getD n false)):=by
  have h2:n < (bL fl).length:=by simp [bL,h,hn]
  simp only [oC,List.getD,show 2 + n = n + 1 + 1 by omega,List.getElem?_cons_succ]
  rw [List.getElem?_append_left h2]
  simp [bL,h,hn]
 have hl:=zqj (items:=items) (f:=f) (p:=p) h
 simp only [ldK,h0,h1,hl,true_and]
 rw [e]
 simp [Md.fix];omega
theorem zkk {t:TypeId} (h:fl.length = 256) (h0:(T t).k.agg = false) (h1:0 < (T t).size):ldK T t .asis (oC items f fl p) 258 Kp = Kp p:=by
 have e:(oC items f fl p).getD 258 .junk = p:=by
  have h2:(bL fl).length = 256:=by simp [bL,h]
  simp only [oC,List.getD,show 258 = 256 + 1 + 1 by omega,List.getElem?_cons_succ]
  rw [List.getElem?_append_right (by omega),h2]
  simp
 have hl:=zqj (items:=items) (f:=f) (p:=p) h
 simp only [ldK,h0,h1,hl,true_and]
 rw [e]
 simp [Md.fix]
theorem zrE (h:fl.length = 256) (q:PV):spl (oC items f fl p) 258 [q] = oC items f fl q:=by
 have h2:(bL fl).length = 256:=by simp [bL,h]
 show (oC items f fl p).set 258 q = _
 simp only [oC,show 258 = 256 + 1 + 1 by omega,List.set_cons_succ]
 rw [List.set_append_right _ _ (by omega),h2]
 simp
theorem zD6 (n:Nat) (h:fl.length = 256) (hn:n < 256) (b:Bool):spl (oC items f fl p) (2 + n) [.v (.bool b)] = oC items f (fl.set n b) p:=by
 have h2:n < (bL fl).length:=by simp [bL,h,hn]
 show (oC items f fl p).set (2 + n) (.v (.bool b)) = _
 simp only [oC,show 2 + n = n + 1 + 1 by omega,List.set_cons_succ]
 rw [List.set_append_left _ _ h2]
 simp [bL,List.map_set]
end
def oR (b:Bool) (items:List Int) (f:FuncId) (fl:List Bool) (list:List Int) (k:Nat):Row :=
 if k = 1000000 then ⟨1,.box 69 (oC items f fl (if b = true then .v (.slice none 0 0) else .own 1000001 1))⟩ else if k = 1000001∧b = false then ⟨1,.sli 3 1 false (iL list)⟩ else ⟨0,.dead⟩
def zvF (ft:List Int→Int→Bool) (items:List Int) (f:FuncId) (n:Nat) (list:List Int) (R1:Nat→Row) (p:PV):Prop :=
 ∃ fl v,fl.length = 256∧zEh ft items (fun u=>fl.getD u false)∧p = bool (zbX ft items n list).isSome∧R1 1000000 = ⟨1,.box 69 (oC items f fl (.own 1000001 v))⟩∧R1 1000001 = ⟨v,.sli 3 1 false (iL ((zbX ft items n list).getD list))⟩
theorem zhm:(T 48).size = 1:=by decide +kernel
theorem zhn:(T 48).k = .other:=by first | rfl | decide +kernel
theorem zFB:∀ u,u < 256→∀ k,k < 8→(zcS .i64 (zz2 .i64 (u:Nat) (k:Nat)) 1 == 1) = Nat.testBit u k:=by decide +kernel
theorem zFC:∀ u,u < 256→∀ k,k < 8→ior .i64 (u:Nat) (zz1 .i64 1 (k:Nat)) = ((u ||| 2 ^ k:Nat):Int):=by decide +kernel
theorem zfK {items:List Int} {f:FuncId} {fl:List Bool} {list:List Int} (b:Bool) (hf:fl.length = 256) (hb:b = true→list = []) {s:St} (hr:∀ k,s.rw k = oR b items f fl list k) :
 ∃ s',Wk s s'∧s'.sl = s.sl∧s'.rw 1000000 = ⟨1,.box 69 (oC items f fl (.own 1000001 1))⟩∧s'.rw 1000001 = ⟨1,.sli 3 1 false (iL list)⟩∧∀ k,k < 1000000→s'.rw k = ⟨0,.dead⟩:=by
 cases b with
 | false=>exact ⟨s,Wk.refl s,rfl,by rw [hr];rfl,by rw [hr];rfl,fun k hk=>by rw [hr];unfold oR;rw [if_neg (by omega),if_neg (by omega)]⟩
 | true =>
   have hl:=hb rfl
   subst hl
   have h0:s.rw 1000000 = ⟨1,.box 69 (oC items f fl (.v (.slice none 0 0)))⟩:=by rw [hr];rfl
   have h1:s.rw 1000001 = ⟨0,.dead⟩:=by rw [hr];rfl
   have ho:(oC items f fl (.v (.slice none 0 0)))[258]? = some (.v (.slice none 0 0)):=by
    have h2:(bL fl).length = 256:=by simp [bL,hf]
    simp only [oC,show 258 = 256 + 1 + 1 by omega,List.getElem?_cons_succ]
    rw [List.getElem?_append_right (by omega),h2];rfl
   have hw:=Wk.nilBox 1000001 3 h0 ho (by decide)
   rw [h1] at hw
   have e:(oC items f fl (.v (.slice none 0 0))).set 258 (.own 1000001 (0 + 1)) = oC items f fl (.own 1000001 1):=zrE hf _
   rw [e] at hw
   refine ⟨_,hw,rfl,by rw [zaE],by rw [zao _ _ _ _ (by decide),zaE];rfl,fun k hk=>?_⟩
   rw [zao _ _ _ _ (by omega),zao _ _ _ _ (by omega),hr];unfold oR;rw [if_neg (by omega),if_neg (by omega)]
theorem zCG {rho:Nat→Option Nat} {Ln:Nat→Prop} {R0 R:Nat→Row} {l l':List PV} (h:GvL rho Ln R0 R l l'):∀ fl:List Bool,GvL rho Ln R0 R (bL fl ++ l) (bL fl ++ l'):=by
 intro fl
 induction fl with
 | nil=>exact h
 | cons b fl ih=>exact .one (.v _) ih
theorem zCH {rho:Nat→Option Nat} {R1:Nat→Row} {nv:Nat→Nat} {items:List Int} {f:FuncId} {fl:List Bool} {j v:Nat} {nl:Bool} (h1:rho 1000001 = some j) (h2:(R1 1000001).ver = v) :
 (oC items f fl (.own 1000001 v)).map (ren1 rho R1 nv nl) = (match nl with | true=>oC items f fl (.own j (nv 1000001)) | false=>.junk :: (oC items f fl (.own j (nv 1000001))).tail):=by
 have hb:(bL fl).map (ren1 rho R1 nv nl) = bL fl:=by
  unfold bL;rw [List.map_map];exact List.map_congr_left fun x _=>rfl
 have hp:ren1 rho R1 nv nl (.own 1000001 v) = .own j (nv 1000001):=by
  show ztX rho R1 nv nl (.own 1000001 v) = _
  rw [zgA,h1,h2,beq_self_eq_true]
 unfold oC
 rw [List.map_cons,List.map_cons,List.map_append,hb,List.map_singleton,hp]
 cases nl <;> rfl
def zD7 (k:Nat):Option Nat:=if k = 1000000 ∨ k = 1000001 then some k else none
theorem zdn {k j:Nat} (h:zD7 k = some j):k = j∧(k = 1000000 ∨ k = 1000001):=by
 unfold zD7 at h
 by_cases hk:k = 1000000 ∨ k = 1000001
 ·rw [if_pos hk] at h;exact ⟨Option.some.inj h,hk⟩
 ·rw [if_neg hk] at h;cases h
theorem zGd {items:List Int} {f:FuncId} {fl:List Bool} {list:List Int} {k:Nat} (h:(oR false items f fl list k).kind.nd = true):k = 1000000 ∨ k = 1000001:=by
 unfold oR at h
 by_cases h0:k = 1000000
 ·exact .inl h0
 ·rw [if_neg h0] at h
  by_cases h1:k = 1000001∧false = false
  ·exact .inr h1.1
  ·rw [if_neg h1] at h;cases h
theorem zD8 {s:St} {K:St→Prop} {g f:FuncId} {ft:List Int→Int→Bool} {items list:List Int} {fl:List Bool} {n d v:Nat} {u:Int} {lent:List PV} {Ka:RV→Prop} {us:Dm s} {uu:Dm K}
 (h:AG Tryz.prog g [.ref 1000000 1 0,int u] (oR false items f fl list) (zvF ft items f n list)) (hb:s.rw 1000000 = ⟨1,.box 69 (oC items f fl (.own 1000001 v))⟩) (hl:s.rw 1000001 = ⟨v,.sli 3 1 false (iL list)⟩)
 (hk:∀ (S:St) (fl':List Bool) (v':Nat),fl'.length = 256→zEh ft items (fun u=>fl'.getD u false)→S.sl d = bool (zbX ft items n list).isSome→(∀ t,t ≠ d→S.sl t = s.sl t) →
  S.rw 1000000 = ⟨1,.box 69 (oC items f fl' (.own 1000001 v'))⟩→S.rw 1000001 = ⟨v',.sli 3 1 false (iL ((zbX ft items n list).getD list))⟩→(∀ i,i ≠ 1000000→i ≠ 1000001→S.rw i = s.rw i)→K S) :
 zhY Tryz.prog g lent Ka (zqy Tryz.prog g lent [.ref 1000000 1 0,int u] (some d) (kk s us) (kk K uu)):=by
 have r0:zD7 1000000 = some 1000000:=rfl
 have r1:zD7 1000001 = some 1000001:=rfl
 have R00:oR false items f fl list 1000000 = ⟨1,.box 69 (oC items f fl (.own 1000001 1))⟩:=rfl
 have R01:oR false items f fl list 1000001 = ⟨1,.sli 3 1 false (iL list)⟩:=rfl
 refine zqA h zD7 (fun _=>False) (.one (.ref r0 (by rw [R00]) (by rw [hb]) (by rw [R00];rfl)) (.one (.v _) .nil)) ⟨fun k hk=>?_,fun k k' j _ _ h1 h2=>?_,fun k j _ _ h=>h⟩ fun R1 p hp=>?_
 ·rcases zGd hk with rfl | rfl
  ·refine ⟨Nat.le_refl _,by rw [R00];exact Nat.one_pos,1000000,r0,?_⟩
   rw [R00,hb]
   exact ⟨rfl,.one (.sl _ _ _) (.clo .nil (zCG (.one (.own r1 (by rw [R01]) (by rw [hl]) (by rw [R01];rfl)) .nil) fl))⟩
  ·refine ⟨by decide,by rw [R01];exact Nat.one_pos,1000001,r1,?_⟩
   rw [R01,hl]
   exact ⟨rfl,rfl,rfl,zbo _⟩
 ·rw [(zdn h1).1,(zdn h2).1]
 ·obtain ⟨fl',v',hfl,hI,rfl,hb1,hl1⟩:=hp
  refine ⟨zD7,fun k=>if k = 1000001 then (if v' = 1 then v else v + 1) else 1,true,⟨fun _ _=>rfl,fun a b i h1 h2=>?_,fun a i h1 h2 h3=>?_,fun a i h1 h2=>?_,fun _ _ h=>h⟩,fun S hS=>?_⟩
  ·rw [(zdn h1).1,(zdn h2).1]
  ·obtain ⟨rfl,rfl | rfl⟩:=zdn h1
   ·rw [hb];rfl
   ·rw [hl1,R01] at h3
    have h3:v' = 1:=h3
    rw [hl]
    simp [h3]
  ·obtain ⟨rfl,rfl | rfl⟩:=zdn h1
   ·have:=h2 (by rw [R00];rfl)
    rw [hb1,R00] at this
    exact absurd rfl this
   ·have:=h2 (by rw [R01];rfl)
    rw [hl1,R01] at this
    have h3:¬ v' = 1:=this
    rw [hl]
    simp [h3]
  ·have e0:=hS.row 1000000 1000000 r0
   have e1:=hS.row 1000001 1000001 r1
   rw [hb1] at e0
   rw [hl1] at e1
   have e0:S.rw 1000000 = ⟨1,.box 69 ((oC items f fl' (.own 1000001 v')).map (ren1 zD7 R1 _ true))⟩:=e0
   rw [zCH r1 (by rw [hl1])] at e0
   refine hk S fl' _ hfl hI ?_ (fun t ht=>?_) e0 e1 fun i h1 h2=>hS.off i fun k hk=>?_
   ·rw [hS.sl,zaA];rfl
   ·rw [hS.sl,zaU _ _ _ _ ht]
   ·obtain ⟨rfl,h | h⟩:=zdn hk
    ·exact h1 h
    ·exact h2 h
theorem zvG (f:FuncId) (ft:List Int→Int→Bool) (hF:∀ l x,okL l→(0 ≤ x∧x < 64)→AC Tryz.prog f [zaI l,int x] (.im (bool (ft l x)))) (hP:∀ l l' x,l.Perm l'→ft l x = ft l' x) (items:List Int) (hn:items.Nodup) (hok:okL items) (h8:items.length ≤ 8) :
 ∀ (n:Nat) (b:Bool) (fl:List Bool) (u:Nat) (list:List Int),(b = true→list = [])→fl.length = 256→zEh ft items (fun u=>fl.getD u false)→zj7 items u list→list.length + n = items.length→okL list→u < 256 →
  AG Tryz.prog 59 [.ref 1000000 1 0,int u] (oR b items f fl list) (zvF ft items f n list):=by
 intro n
 induction n with
 | zero =>
   intro b fl u list hb hfl hI hc hll hol hu
   refine AG.goW (rs:=[.tmp 4]) zaQ zar Tryz.func59 rfl rfl rfl (by kernel_rfl) fun hl hrl z hz hr=>?_
   obtain ⟨s,hw,hsl,y0,y1,hlow⟩:=zfK b hfl hb hr
   refine ⟨s,hw,?_⟩
   have z0:s.sl 0 = .ref 1000000 1 0:=by rw [hsl,hz];rfl
   have z1:s.sl 1 = int u:=by rw [hsl,hz];rfl
   clear hz hr hw hsl z
   simp (maxSteps:=5000000) -dsimp only [↓gp,gq,reduceCtorEq,reduceEqDiff,reduceLT,reduceLeDiff,reduceAdd,reduceMul,reduceSub,Nat.reduceBEq,Int.reduceToNat,Int.reduceLE,Int.reduceLT,Int.reduceNeg,reduceMod,zac,zad,zab,zaa,gT,TK.isInt,TK.agg,Array.toList,z0,z1,y0,y1,zkk hfl,zki,zkj]
   have e:((list.length:Int) == (items.length:Int)) = true:=by rw [beq_iff_eq];omega
   exact ⟨by kernel_rfl,fun _=>⟨fl,1,hfl,hI,rfl,y0,y1⟩,fun h=>absurd (e.symm.trans h) (by decide)⟩
 | succ n ih =>
   intro b fl u list hb hfl hI hc hll hol hu
   refine AG.goW (rs:=[.tmp 4]) zaQ zar Tryz.func59 rfl rfl rfl (by kernel_rfl) fun hl hrl z hz hr=>?_
   obtain ⟨s,hw,hsl,y0,y1,hlow⟩:=zfK b hfl hb hr
   refine ⟨s,hw,?_⟩
   have z0:s.sl 0 = .ref 1000000 1 0:=by rw [hsl,hz];rfl
   have z1:s.sl 1 = int u:=by rw [hsl,hz];rfl
   clear hz hr hw hsl z
   simp (maxSteps:=5000000) -dsimp only [↓gp,gq,reduceCtorEq,reduceEqDiff,reduceLT,reduceLeDiff,reduceAdd,reduceMul,reduceSub,Nat.reduceBEq,Int.reduceToNat,Int.reduceLE,Int.reduceLT,Int.reduceNeg,reduceMod,zac,zad,zab,zaa,gT,TK.isInt,TK.agg,Array.toList,z0,z1,y0,y1,zkk hfl,zki,zkj]
   have e:((list.length:Int) == (items.length:Int)) = false:=by rw [beq_eq_false_iff_ne];omega
   refine ⟨by kernel_rfl,fun h=>absurd (e.symm.trans h) (by decide),fun _=>⟨hu,?_⟩⟩
   simp (maxSteps:=5000000) -dsimp only [↓gp,gq,reduceCtorEq,reduceEqDiff,reduceLT,reduceLeDiff,reduceAdd,reduceMul,reduceSub,Nat.reduceBEq,Int.reduceToNat,Int.reduceLE,Int.reduceLT,Int.reduceNeg,reduceMod,zac,zad,zab,zaa,gT,TK.isInt,TK.agg,Array.toList,zFA u hfl hu,zki,zkj,zkk hfl,z0,z1,y0,y1]
   refine ⟨fun h=>?_,fun h=>?_⟩
   ·unfold zvF
    rw [show zbX ft items (n + 1) list = none from hI u h (n + 1) list hc hll]
    exact ⟨fl,1,hfl,hI,rfl,y0,y1⟩
   ·have hdef:zbX ft items (n + 1) list = items.findSome? (fun g=>if decide (g ∈ list) || !ft list g then none else zbX ft items n (list ++ [g])):=rfl
    generalize hff:(fun g=>if decide (g ∈ list) || !ft list g then none else zbX ft items n (list ++ [g])) = F at *
    refine zam (fun (za:Nat × Nat × List Bool) s=>match za with | (k,v,g)=>s.sl 0 = .ref 1000000 1 0∧s.sl 1 = int u∧s.sl 27 = zaI items∧s.sl 28 = int items.length∧s.sl 29 = int k∧s.rw 1000000 = ⟨1,.box 69 (oC items f g (.own 1000001 v))⟩∧s.rw 1000001 = ⟨v,.sli 3 1 false (iL list)⟩∧(k ≤ items.length∧g.length = 256∧zEh ft items (fun u=>g.getD u false)∧(items.take k).findSome? F = none)) (fun (k,v,g)=>items.length - k) ((0,1,fl)) (by refine ⟨?_,?_,?_,?_,?_,?_,?_,⟨Nat.zero_le _,hfl,hI,rfl⟩⟩ <;> (first | (simp (maxSteps:=5000000) -dsimp only [gr,reduceEqDiff,reduceLT,reduceAdd,reduceMod,Nat.reduceBEq,zaa,zac,zad,zab,z0,z1,y0,y1];first | done | rfl | (simp;done)) | assumption | rfl)) ?_
    intro (k,v,g) sa ⟨h0a,h1a,h27a,h28a,h29a,r1000000a,r1000001a,hIa⟩
    obtain ⟨hk,hgl,hgI,hnone⟩:=hIa
    by_cases h:k < items.length
    ·have hk8:k < 8:=by omega
     have hu8:IntKind.u64.wrap (k:Int) = (k:Int):=ze5 (by omega)
     have hb1:=zFB u hu k hk8
     have hb2:=zFC u hu k hk8
     simp (maxSteps:=5000000) -dsimp only [↓gp,gq,reduceCtorEq,reduceEqDiff,reduceLT,reduceLeDiff,reduceAdd,reduceMul,reduceSub,Nat.reduceBEq,Int.reduceToNat,Int.reduceLE,Int.reduceLT,Int.reduceNeg,reduceMod,zac,zad,zab,zaa,gT,TK.isInt,TK.agg,Array.toList,h0a,h1a,h27a,h28a,h29a,r1000000a,r1000001a,zki,zkj,zkk hgl,zhm,zhn,hu8,hb1]
     have hgk:=hok _ (zaz 0 h)
     have hgo:F (items.getD k 0) = if decide (items.getD k 0 ∈ list) || !ft list (items.getD k 0) then none else zbX ft items n (list ++ [items.getD k 0]):=by rw [← hff]
     have hmem:=zze hn hc h
     have hskip:F (items.getD k 0) = none→(items.take (k + 1)).findSome? F = none:=fun e=>by rw [zef F 0 h,hnone,e];rfl
     refine ⟨fun _=>⟨h,h,by kernel_rfl,fun hbit=>zaf (hF list _ hol hgk) ?_,fun hbit=>?_⟩,fun h'=>absurd h h'⟩
     ·simp (maxSteps:=5000000) -dsimp only [↓gp,gq,reduceCtorEq,reduceEqDiff,reduceLT,reduceLeDiff,reduceAdd,reduceMul,reduceSub,Nat.reduceBEq,Int.reduceToNat,Int.reduceLE,Int.reduceLT,Int.reduceNeg,reduceMod,zac,zad,zab,zaa,gT,TK.isInt,TK.agg,Array.toList,h0a,h1a,h27a,h28a,h29a,r1000000a,r1000001a,zki,zkj,zkk hgl,zrE hgl,zhm,zhn,hu8,hb1]
      refine ⟨fun hb=>?_,fun hb=>?_⟩
      ·have e0:F (items.getD k 0) = none:=by rw [hgo,if_pos (by rw [show ft list (items.getD k 0) = false by simpa using hb];simp)]
       exact zah ((k + 1,v,g)) (by refine ⟨?_,?_,?_,?_,?_,?_,?_,⟨by omega,hgl,hgI,hskip e0⟩⟩ <;> (first | (simp (maxSteps:=5000000) -dsimp only [gr,reduceEqDiff,reduceLT,reduceAdd,reduceMod,Nat.reduceBEq,zaa,zac,zad,zab,h0a,h1a,h27a,h28a,h29a,r1000000a,r1000001a,zae h (by omega)];first | done | rfl | (simp;done)) | assumption | rfl)) (by first | omega | (simp only;omega) | (dsimp only;omega) | (show _ < _;simp;omega))
      ·have hft:ft list (items.getD k 0) = true:=by simpa using hb
       have e0:F (items.getD k 0) = zbX ft items n (list ++ [items.getD k 0]):=by rw [hgo,if_neg (by rw [hmem,hbit,hft];decide)]
       have hu2:u ||| 2 ^ k < 256:=by
        have:u ||| 2 ^ k < 2 ^ 8:=Nat.or_lt_two_pow hu (Nat.pow_lt_pow_right (by omega) hk8)
        exact this
       have hIH:=ih false g (u ||| 2 ^ k) (list ++ [items.getD k 0]) (fun h=>by cases h) hgl hgI (zvu hc h hbit) (by simp;omega) (fun b hb'=>by
        rcases List.mem_append.1 hb' with h' | h'
        ·exact hol b h'
        ·rw [List.mem_singleton.1 h'];exact hgk) hu2
       rw [← hb2] at hIH
       refine ⟨by omega,by rw [zqj hgl];exact Nat.le_refl _,zD8 (v:=v + 1) hIH (by simp (maxSteps:=5000000) -dsimp only [gr,reduceEqDiff,reduceLT,reduceAdd,reduceMod,Nat.reduceBEq,zaa,zac,zad,zab,h0a,h1a,h27a,h28a,h29a,r1000000a,r1000001a]) (by simp (maxSteps:=5000000) -dsimp only [gr,reduceEqDiff,reduceLT,reduceAdd,reduceMod,Nat.reduceBEq,zaa,zac,zad,zab,h0a,h1a,h27a,h28a,h29a,r1000000a,r1000001a]) fun S g' v' hgl' hgI' hSd hSs w0 w1 hoff=>?_⟩
       rw [← e0] at hSd w1
       have u0:S.sl 0 = .ref 1000000 1 0:=by rw [hSs 0 (by decide)];simp (maxSteps:=5000000) -dsimp only [gr,reduceEqDiff,reduceLT,reduceAdd,reduceMod,Nat.reduceBEq,zaa,zac,zad,zab,h0a,h1a,h27a,h28a,h29a,r1000000a,r1000001a]
       have u1:S.sl 1 = int u:=by rw [hSs 1 (by decide)];simp (maxSteps:=5000000) -dsimp only [gr,reduceEqDiff,reduceLT,reduceAdd,reduceMod,Nat.reduceBEq,zaa,zac,zad,zab,h0a,h1a,h27a,h28a,h29a,r1000000a,r1000001a]
       have u27:S.sl 27 = zaI items:=by rw [hSs 27 (by decide)];simp (maxSteps:=5000000) -dsimp only [gr,reduceEqDiff,reduceLT,reduceAdd,reduceMod,Nat.reduceBEq,zaa,zac,zad,zab,h0a,h1a,h27a,h28a,h29a,r1000000a,r1000001a]
       have u28:S.sl 28 = int items.length:=by rw [hSs 28 (by decide)];simp (maxSteps:=5000000) -dsimp only [gr,reduceEqDiff,reduceLT,reduceAdd,reduceMod,Nat.reduceBEq,zaa,zac,zad,zab,h0a,h1a,h27a,h28a,h29a,r1000000a,r1000001a]
       have u29:S.sl 29 = int k:=by rw [hSs 29 (by decide)];simp (maxSteps:=5000000) -dsimp only [gr,reduceEqDiff,reduceLT,reduceAdd,reduceMod,Nat.reduceBEq,zaa,zac,zad,zab,h0a,h1a,h27a,h28a,h29a,r1000000a,r1000001a]
       clear hSs hoff
       simp (maxSteps:=5000000) -dsimp only [↓gp,gq,reduceCtorEq,reduceEqDiff,reduceLT,reduceLeDiff,reduceAdd,reduceMul,reduceSub,Nat.reduceBEq,Int.reduceToNat,Int.reduceLE,Int.reduceLT,Int.reduceNeg,reduceMod,zac,zad,zab,zaa,gT,TK.isInt,TK.agg,Array.toList,hSd,u0,u1,u27,u28,u29,w0,w1,zki,zkj,zkk hgl',zrE hgl']
       refine ⟨fun hs=>?_,fun hs=>?_⟩
       ·obtain ⟨x,hx⟩:=Option.isSome_iff_exists.1 hs
        unfold zvF
        rw [hdef,zhV F 0 h hnone hx]
        rw [hx] at w1
        exact ⟨g',v',hgl',hgI',rfl,w0,w1⟩
       ·have e1:F (items.getD k 0) = none:=by
         cases hx:F (items.getD k 0) with
         | none=>rfl
         | some x=>rw [hx] at hs;cases hs
        have el:((F (items.getD k 0)).getD (list ++ [items.getD k 0])).length = list.length + 1:=by rw [e1];simp
        have ew:IntKind.i64.wrap (((F (items.getD k 0)).getD (list ++ [items.getD k 0])).length - 1:Int) = (list.length:Int):=by rw [el,zap (by omega) (by omega)];omega
        have et:((F (items.getD k 0)).getD (list ++ [items.getD k 0])).take ((list.length:Nat):Int).toNat = list:=by rw [e1];simp
        rw [ew,el]
        refine ⟨by kernel_rfl,⟨by decide +kernel,by kernel_rfl,by decide +kernel,by kernel_rfl⟩,by omega,by omega,by rw [zqj hgl'];exact Nat.le_refl _,by kernel_rfl,?_⟩
        exact zah ((k + 1,v' + 1,g')) (by refine ⟨?_,?_,?_,?_,?_,?_,?_,⟨by omega,hgl',hgI',hskip e1⟩⟩ <;> (first | (simp (maxSteps:=5000000) -dsimp only [gr,reduceEqDiff,reduceLT,reduceAdd,reduceMod,Nat.reduceBEq,zaa,zac,zad,zab,h0a,h1a,h27a,h28a,h29a,r1000000a,r1000001a,u0,u1,u27,u28,u29,et,zae h (show items.length ≤ 9223372036854775807 by omega)];first | done | rfl | (simp;done)) | assumption | rfl)) (by first | omega | (simp only;omega) | (dsimp only;omega) | (show _ < _;simp;omega))
     ·have e0:F (items.getD k 0) = none:=by rw [hgo,if_pos (by rw [hmem,hbit];rfl)]
      exact zah ((k + 1,v,g)) (by refine ⟨?_,?_,?_,?_,?_,?_,?_,⟨by omega,hgl,hgI,hskip e0⟩⟩ <;> (first | (simp (maxSteps:=5000000) -dsimp only [gr,reduceEqDiff,reduceLT,reduceAdd,reduceMod,Nat.reduceBEq,zaa,zac,zad,zab,h0a,h1a,h27a,h28a,h29a,r1000000a,r1000001a,zae h (by omega)];first | done | rfl | (simp;done)) | assumption | rfl)) (by first | omega | (simp only;omega) | (dsimp only;omega) | (show _ < _;simp;omega))
    ·have hke:k = items.length:=by omega
     simp (maxSteps:=5000000) -dsimp only [↓gp,gq,reduceCtorEq,reduceEqDiff,reduceLT,reduceLeDiff,reduceAdd,reduceMul,reduceSub,Nat.reduceBEq,Int.reduceToNat,Int.reduceLE,Int.reduceLT,Int.reduceNeg,reduceMod,zac,zad,zab,zaa,gT,TK.isInt,TK.agg,Array.toList,h0a,h1a,h27a,h28a,h29a,r1000000a,r1000001a,zki,zkj,zkk hgl,zD6 u hgl hu]
     refine ⟨fun h'=>absurd h' h,fun _=>⟨hu,by rw [zqj hgl];omega,?_⟩⟩
     rw [hke,List.take_length] at hnone
     unfold zvF
     rw [hdef,hnone]
     refine ⟨g.set u true,v,by rw [List.length_set];exact hgl,?_,rfl,by simp (maxSteps:=5000000) -dsimp only [gr,reduceEqDiff,reduceLT,reduceAdd,reduceMod,Nat.reduceBEq,zaa,zac,zad,zab],by simp (maxSteps:=5000000) -dsimp only [gr,reduceEqDiff,reduceLT,reduceAdd,reduceMod,Nat.reduceBEq,zaa,zac,zad,zab,h0a,h1a,h27a,h28a,h29a,r1000000a,r1000001a];rfl⟩
     have:=zA9 hP hgI hc hll (by rw [hdef,hnone])
     intro w hw
     refine this w ?_
     show (if w = u then true else g.getD w false) = true
     by_cases e:w = u
     ·rw [if_pos e]
     ·rw [if_neg e]
      have hw:(g.set u true).getD w false = true:=hw
      simpa [List.getD,List.getElem?_set_ne (Ne.symm e)] using hw
end Go.Proofs.YtjikeknpidbceaaGreat
