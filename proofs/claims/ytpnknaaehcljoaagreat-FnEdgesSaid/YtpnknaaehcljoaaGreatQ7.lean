/- DERIVED by an AI agent. -/
import Derived.Test.YtpnknaaehcljoaaGreatQ3
import Derived.Test.YtpnknaaehcljoaaGreatQ6
import Derived.Test.YtpnknaaehcljoaaGreatQ2
import Derived.Test.YtpnknaaehcljoaaGreatQ1
namespace Go.Proofs.YtpnknaaehcljoaaGreat
open Go.Abs
set_option linter.unusedSimpArgs false
set_option linter.unusedVariables false
theorem zon:∀ s,s < 64→zat s = 2→((List.range 6).any fun u=>(List.range u).any fun v=>s == 2 ^ u ||| 2 ^ v) = true:=by decide +kernel
theorem zAg:∀ u,u < 6→∀ v,v < 6→∀ x,x < 64→(!(zat x == 2) || u == v || !((2 ^ u ||| 2 ^ v) &&& x == x) || x == 2 ^ u ||| 2 ^ v) = true:=by decide +kernel
theorem zsn:∀ i,i < 6→∀ k,k < i→2 ^ i + 2 ^ k = 2 ^ i ||| 2 ^ k:=by decide
theorem zso:∀ i,i < 6→∀ k,k < 6→(i == k || zat (2 ^ i ||| 2 ^ k) == 2) = true:=by decide +kernel
noncomputable def grF (m:Nat) (xs:List Int):Nat→Bool:=zaI (apL m xs)
section
variable {m:Nat} {xs:List Int}
theorem zhp (hg:zar (m:Int) xs = true) {x:Int} (hx:x ∈ xs):∃ u v,u < m∧v < u∧x = ((2 ^ u ||| 2 ^ v:Nat):Int):=by
 obtain ⟨m',e,h1,h6,h⟩:=zcM (zaC.1 hg)
 have e:=Int.ofNat.inj e
 subst e
 obtain ⟨a,b,c⟩:=h x hx
 have h64:=zao h6
 have hp:=zon x.toNat (by omega) c
 simp only [List.any_eq_true,List.mem_range,beq_iff_eq] at hp
 obtain ⟨u,hu,v,hv,e⟩:=hp
 have hxn:x.toNat < 2 ^ m:=by omega
 refine ⟨u,v,zaW hxn (by rw [e,zaM];simp),hv,by omega⟩
theorem znf (hg:zar (m:Int) xs = true) { F:Nat} (hF:F < 64):grF m xs F = true ↔ F < 2 ^ m∧∀ x ∈ xs,¬ F &&& x.toNat = x.toNat:=by
 obtain ⟨_,h6,_⟩:=zaC.1 hg
 have h64:=zao (m:=m) (by omega)
 have hav:∀ s:Nat,apF m xs s = true ↔ s < 2 ^ m∧∀ x ∈ xs,¬ s &&& x.toNat = x.toNat:=fun s=>by
  unfold apF zbM
  rw [Int.toNat_natCast,Bool.and_eq_true,decide_eq_true_eq,List.all_eq_true]
  refine and_congr Iff.rfl ⟨fun h x hx=>?_,fun h x hx=>?_⟩
  ·have:=h x hx
   rw [Nat.and_comm];simpa using this
  ·have:=h x hx
   rw [Nat.and_comm] at this;simpa using this
 have e:apL (m:Int) xs = ofN (ziq (apF m xs) true):=if_pos hg
 unfold grF
 rw [e,zqN,List.any_eq_true]
 constructor
 ·rintro ⟨s,hs,h⟩
  rw [Bool.and_eq_true,beq_iff_eq,hav] at h
  obtain ⟨⟨h1,h2⟩,h3⟩:=h
  exact ⟨Nat.lt_of_le_of_lt (by rw [← h3];exact Nat.and_le_left) h1,fun x hx hc=>h2 x hx (zu1 h3 hc)⟩
 ·intro h
  exact ⟨F,List.mem_range.2 hF,by rw [(hav F).2 h,Nat.and_self];simp⟩
theorem zju (hg:zar (m:Int) xs = true) {i j:Nat} (hi:i < m) (hj:j < m) (hij:i ≠ j):grF m xs (2 ^ i ||| 2 ^ j) = true ↔ ¬ ((2 ^ i ||| 2 ^ j:Nat):Int) ∈ xs:=by
 obtain ⟨_,h6,_⟩:=zaC.1 hg
 have h6:m ≤ 6:=by omega
 have h64:=zao h6
 have hlt:2 ^ i ||| 2 ^ j < 2 ^ m:=Nat.or_lt_two_pow (Nat.pow_lt_pow_right (by decide) hi) (Nat.pow_lt_pow_right (by decide) hj)
 rw [znf hg (by omega)]
 refine ⟨fun h hm=>h.2 _ hm (by rw [Int.toNat_natCast,Nat.and_self]),fun h=>⟨hlt,fun x hx hc=>h ?_⟩⟩
 obtain ⟨u,v,hu,hv,rfl⟩:=zhp hg hx
 rw [Int.toNat_natCast] at hc
 have h1:=zso u (by omega) v (by omega)
 have h2:=zAg i (by omega) j (by omega) (2 ^ u ||| 2 ^ v) (Nat.lt_of_lt_of_le (Nat.or_lt_two_pow (Nat.pow_lt_pow_right (by decide) hu) (Nat.pow_lt_pow_right (by decide) (show v < m by omega))) h64)
 rw [beq_false_of_ne (show u ≠ v by omega),Bool.false_or] at h1
 rw [h1,beq_false_of_ne hij,hc] at h2
 simp only [beq_self_eq_true,Bool.not_true,Bool.false_or,beq_iff_eq] at h2
 rw [← h2];exact hx
theorem zgh (hg:zar (m:Int) xs = true):Flg (grF m xs) m:=by
 obtain ⟨_,h6,_⟩:=zaC.1 hg
 have h6:m ≤ 6:=by omega
 have h64:=zao h6
 refine ⟨fun s t hs ht=>zv4 hs ht,fun s hs hp=>?_,fun s hs hf=>((znf hg hs).1 hf).1,fun v hv=>?_,h6⟩
 ·rw [znf hg (by omega)]
  refine ⟨hs,fun x hx hc=>?_⟩
  obtain ⟨u,v,hu,hv,rfl⟩:=zhp hg hx
  rw [Int.toNat_natCast] at hc
  have hb:=zaR.1 hc
  have:=hp u v (hb u (by rw [zaM];simp)) (hb v (by rw [zaM];simp))
  exact (zju hg hu (by omega) (by omega)).1 this hx
 ·have h2:(2:Nat) ^ v < 2 ^ m:=Nat.pow_lt_pow_right (by decide) hv
  rw [znf hg (by omega)]
  refine ⟨h2,fun x hx hc=>?_⟩
  obtain ⟨u,w,hu,hw,rfl⟩:=zhp hg hx
  rw [Int.toNat_natCast] at hc
  have hb:=zaR.1 hc
  have a:=hb u (by rw [zaM];simp)
  have b:=hb w (by rw [zaM];simp)
  rw [zdo,decide_eq_true_eq] at a b
  omega
theorem zGz (hg:zar (m:Int) xs = true):zwq m (apL m xs) = true:=by
 obtain ⟨h1,h6,_⟩:=zaC.1 hg
 have h64:=zao (m:=m) (by omega)
 have e:apL (m:Int) xs = ofN (ziq (apF m xs) true):=if_pos hg
 refine zdO.2 ⟨?_,?_⟩
 ·rw [e]
  refine zGl (by omega) (by omega) fun s hs h=>?_
  unfold apF at h
  rw [Int.toNat_natCast,Bool.and_eq_true,decide_eq_true_eq] at h
  exact h.1
 ·have h0:=(zgh hg).face0
  unfold grF at h0
  cases hx:apL (m:Int) xs with
  | nil=>rw [hx] at h0;cases h0
  | cons a l=>simp
theorem zoo (e:Int) (xs:List Int) (c:Int):zew xs c ≤ zew (e :: xs) c:=by
 show _ ≤ ite _ _ _
 split
 ·exact Int.le_max_left _ _
 ·exact Int.le_refl _
def ptd (M:List Int) (c:Nat):Prop:=M.Pairwise (fun a b=>a.toNat &&& b.toNat = 0)∧∀ x ∈ M,x.toNat &&& c = 0
theorem zrh:∀ (xs:List Int) (c:Nat),(∀ x ∈ xs,0 ≤ x∧x < 64)→c < 64→∀ M:List Int,M.Sublist xs→ptd M c→(M.length:Int) ≤ zew xs c
 | [],c,_,_,M,hs,_=>by rw [List.sublist_nil.1 hs];exact Int.le_refl _
 | e :: xs,c,hx,hc,M,hs,hd=>by
   have hx':∀ x ∈ xs,0 ≤ x∧x < 64:=fun x h=>hx x (by simp [h])
   cases hs with
   | cons _ hs=>exact Int.le_trans (zrh xs c hx' hc M hs hd) (zoo e xs c)
   | @cons_cons M' _ _ hs =>
     obtain ⟨h1,h2⟩:=hd
     obtain ⟨h3,h4⟩:=List.pairwise_cons.1 h1
     have he:=hx e (by simp)
     obtain ⟨e',rfl⟩:∃ e':Nat,e = e':=⟨e.toNat,by omega⟩
     have hec:zb4 .i64 (e':Int) (c:Int) = 0:=by
      rw [zaQ (by omega) (by omega)]
      have:=h2 _ (List.mem_cons_self ..)
      rw [Int.toNat_natCast] at this
      rw [this];rfl
     have hor:ior .i64 (c:Int) (e':Int) = ((c ||| e':Nat):Int):=zdk (by omega) (by omega)
     have ih:=zrh xs (c ||| e') hx' (zDI hc (by omega)) M' hs ⟨h4,fun x hxm=>by
      rw [Nat.and_or_distrib_left,h2 x (by simp [hxm]),Nat.zero_or]
      have:=h3 x hxm
      rw [Int.toNat_natCast] at this
      rw [Nat.and_comm];exact this⟩
     show _ ≤ ite _ _ _
     rw [if_pos hec,hor,List.length_cons]
     have:=Int.le_max_right (zew xs c) (1 + zew xs ((c ||| e':Nat):Int))
     omega
theorem zri:∀ (xs:List Int) (c:Nat),(∀ x ∈ xs,0 ≤ x∧x < 64)→c < 64→∃ M:List Int,M.Sublist xs∧ptd M c∧(M.length:Int) = zew xs c
 | [],c,_,_=>⟨[],List.Sublist.slnil,⟨.nil,fun x hx=>by simp at hx⟩,rfl⟩
 | e :: xs,c,hx,hc=>by
   have hx':∀ x ∈ xs,0 ≤ x∧x < 64:=fun x h=>hx x (by simp [h])
   have he:=hx e (by simp)
   obtain ⟨e',rfl⟩:∃ e':Nat,e = e':=⟨e.toNat,by omega⟩
   have hor:ior .i64 (c:Int) (e':Int) = ((c ||| e':Nat):Int):=zdk (by omega) (by omega)
   obtain ⟨M,a,b,d⟩:=zri xs c hx' hc
   obtain ⟨M2,a2,b2,d2⟩:=zri xs (c ||| e') hx' (zDI hc (by omega))
   have hun:zew ((e':Int) :: xs) c = if zb4 .i64 (e':Int) (c:Int) = 0 then max (zew xs c) (1 + zew xs (ior .i64 (c:Int) (e':Int))) else zew xs c:=rfl
   rw [hun,hor]
   by_cases hec:zb4 .i64 (e':Int) (c:Int) = 0
   ·rw [if_pos hec]
    rw [zaQ (by omega) (by omega)] at hec
    have hec:e' &&& c = 0:=by omega
    by_cases hm:zew xs c ≤ 1 + zew xs ((c ||| e':Nat):Int)
    ·have hz:∀ x ∈ M2,x.toNat &&& c = 0∧x.toNat &&& e' = 0:=fun x hxm=>by
      have:=b2.2 x hxm
      rw [Nat.and_or_distrib_left,Nat.or_eq_zero_iff] at this
      exact this
     refine ⟨(e':Int) :: M2,a2.cons_cons _,⟨List.pairwise_cons.2 ⟨fun b hb=>by rw [Int.toNat_natCast,Nat.and_comm];exact (hz b hb).2,b2.1⟩,fun x hxm=>?_⟩,by rw [List.length_cons,Int.max_eq_right hm];omega⟩
     rcases List.mem_cons.1 hxm with rfl | hxm
     ·rw [Int.toNat_natCast];exact hec
     ·exact (hz x hxm).1
    ·exact ⟨M,a.cons _,b,by rw [Int.max_eq_left (by omega)];exact d⟩
   ·rw [if_neg hec];exact ⟨M,a.cons _,b,d⟩
theorem zws:∀ s,s < 64→∀ e,e < 64→(s &&& e == 0 || decide (zat (s ^^^ (s &&& e)) < zat s)) = true:=by decide +kernel
theorem zsp:∀ (M:List Int) (s:Nat),s < 64→M.Pairwise (fun a b=>a.toNat &&& b.toNat = 0)→(∀ x ∈ M,x.toNat < 64∧s &&& x.toNat ≠ 0)→M.length ≤ zat s
 | [],s,_,_,_=>Nat.zero_le _
 | e :: M,s,hs,hp,hm=>by
   obtain ⟨h1,h2⟩:=List.pairwise_cons.1 hp
   obtain ⟨he,hse⟩:=hm e (by simp)
   have hl:=zws s hs _ he
   rw [beq_false_of_ne hse,Bool.false_or,decide_eq_true_eq] at hl
   have ih:=zsp M (s ^^^ (s &&& e.toNat)) (zu7 hs) h2 fun x hx=>by
    obtain ⟨a,b⟩:=hm x (by simp [hx])
    refine ⟨a,fun hz=>b (Nat.eq_of_testBit_eq fun i=>?_)⟩
    have q1:=congrArg (fun z=>z.testBit i) hz
    have q2:=congrArg (fun z=>z.testBit i) (h1 x hx)
    simp only [Nat.testBit_and,Nat.testBit_xor,Nat.zero_testBit] at q1 q2 ⊢
    revert q1 q2
    cases s.testBit i <;> cases e.toNat.testBit i <;> cases x.toNat.testBit i <;> decide
   rw [List.length_cons];omega
end
theorem zBx {α:Type} {R:α→α→Prop} (hs:∀ a b,R a b→R b a):∀ {l:List α},l.Pairwise R→∀ a ∈ l,∀ b ∈ l,a ≠ b→R a b
 | [],_,a,ha,_,_,_=>by simp at ha
 | x :: l,h,a,ha,b,hb,hab=>by
   obtain ⟨h1,h2⟩:=List.pairwise_cons.1 h
   rcases List.mem_cons.1 ha with e1 | e1 <;> rcases List.mem_cons.1 hb with e2 | e2
   ·exact absurd (e1.trans e2.symm) hab
   ·rw [e1];exact h1 b e2
   ·rw [e2];exact hs _ _ (h1 a e1)
   ·exact zBx hs h2 a e1 b e2 hab
section
variable {m:Nat} {xs:List Int} {p:Nat} [NeZero p]
theorem zAe (hg:zar (m:Int) xs = true):xs.Nodup:=by
 obtain ⟨_,_,h⟩:=zaC.1 hg
 have hlt:∀ j,j < xs.length→∀ i,i < j→xs.getD i 0 < xs.getD j 0:=by
  intro j
  induction j with
  | zero=>intro _ i hi;omega
  | succ j ih =>
    intro hj i hi
    have h1:=(h (j + 1) hj).2.2 (by omega)
    rw [Nat.add_sub_cancel] at h1
    by_cases e:i = j
    ·rw [e];exact h1
    ·have:=ih (by omega) i (by omega);omega
 refine List.pairwise_iff_getElem.2 fun i j hi hj hij=>?_
 have:=hlt j hj i hij
 have a:xs.getD i 0 = xs[i]:=by simp [List.getD,hi]
 have b:xs.getD j 0 = xs[j]:=by simp [List.getD,hj]
 rw [a,b] at this
 omega
theorem zom (hg:zar (m:Int) xs = true):∀ x ∈ xs,0 ≤ x∧x < 64:=zgi (zaC.1 hg)
theorem zAf (hg:zar (m:Int) xs = true) {W:Nat} (hW:W < 2 ^ m) {L:List Nat} (hL:zIf (grF m xs) W L):(L.length:Int) ≤ zew xs 0:=by
 obtain ⟨h1,h2⟩:=hL
 have hmem:∀ e ∈ L,(e:Int) ∈ xs:=fun e he=>by
  obtain ⟨a,u,v,hu,hv,huv,rfl,hf⟩:=h1 e he
  have hb:=zaR.1 a
  have hu':=zaW hW (hb u (by rw [zaM];simp))
  have hv':=zaW hW (hb v (by rw [zaM];simp))
  refine Classical.byContradiction fun hn=>?_
  rw [(zju hg hu' hv' huv).2 hn] at hf;cases hf
 have hne:∀ e ∈ L,e ≠ 0:=fun e he=>by
  obtain ⟨a,u,v,hu,hv,huv,rfl,hf⟩:=h1 e he
  intro hz
  have:(2 ^ u ||| 2 ^ v).testBit u = true:=by rw [zaM];simp
  rw [hz,Nat.zero_testBit] at this;cases this
 have hnd:L.Nodup:=List.Pairwise.imp_of_mem (fun {a b} ha _ hab e=>hne a ha (by subst e;rwa [Nat.and_self] at hab)) h2
 have hall:=zBx (fun a b h=>by rw [Nat.and_comm];exact h) h2
 let M:=xs.filter fun x=>decide (x.toNat ∈ L)
 have hM:∀ x,x ∈ M ↔ x ∈ xs∧x.toNat ∈ L:=fun x=>by simp [M,List.mem_filter]
 have hMn:M.Nodup:=(zAe hg).filter _
 have hperm:M.Perm (L.map fun (e:Nat)=>(e:Int)):=(List.perm_ext_iff_of_nodup hMn (hnd.map _ fun a b hab e=>hab (Int.ofNat.inj e))).2 fun x=>by
  rw [hM,List.mem_map]
  refine ⟨fun ⟨a,b⟩=>⟨_,b,Int.toNat_of_nonneg (zom hg x a).1⟩,fun ⟨e,he,hx⟩=>?_⟩
  subst hx
  exact ⟨hmem e he,he⟩
 have hlen:=hperm.length_eq
 rw [List.length_map] at hlen
 have:=zrh xs 0 (zom hg) (by decide) M List.filter_sublist ⟨List.Pairwise.imp_of_mem (fun {a b} ha hb hab=>hall _ ((hM a).1 ha).2 _ ((hM b).1 hb).2 (fun e=>hab (by
  have q1:=zom hg a ((hM a).1 ha).1
  have q2:=zom hg b ((hM b).1 hb).1
  omega))) hMn,fun x _=>Nat.and_zero _⟩
 rw [hlen] at this
 exact this
theorem zne (gs:List Int) (hgs:∀ x ∈ gs,x.toNat < 64):∀ (xs:List Int) (c:Nat),(∀ x ∈ xs,0 ≤ x∧x < 64)→c < 64→∃ M:List Int,M.Sublist xs ∧
 M.Pairwise (fun a b=>b.toNat &&& a.toNat = 0∧(nrK gs b.toNat m ^^^ (nrK gs b.toNat m &&& b.toNat)) &&& a.toNat = 0)∧(∀ x ∈ M,x.toNat &&& c = 0∧(nrK gs x.toNat m ^^^ (nrK gs x.toNat m &&& x.toNat)) &&& c = 0)∧(M.length:Int) = Go.Abs.mostP (nrI gs m) xs c
 | [],c,_,_=>⟨[],List.Sublist.slnil,.nil,fun x hx=>by simp at hx,rfl⟩
 | e :: xs,c,hx,hc=>by
   have hx':∀ x ∈ xs,0 ≤ x∧x < 64:=fun x h=>hx x (by simp [h])
   have he:=hx e (by simp)
   obtain ⟨e',rfl⟩:∃ e':Nat,e = e':=⟨e.toNat,by omega⟩
   have hor:ior .i64 (c:Int) (e':Int) = ((c ||| e':Nat):Int):=zdk (by omega) (by omega)
   have hnl:=zqF gs e' m
   have hnr:zbP .i64 (nrI gs m (e':Int)) (e':Int) = ((nrK gs e' m ^^^ (nrK gs e' m &&& e'):Nat):Int):=zbr (a:=nrK gs e' m) (b:=e') (by omega) (by omega)
   have hxl:=zu7 hnl (g:=e')
   obtain ⟨M,a,b1,b2,d⟩:=zne gs hgs xs c hx' hc
   obtain ⟨M2,a2,c1,c2,d2⟩:=zne gs hgs xs (c ||| e') hx' (zDI hc (by omega))
   have hun:Go.Abs.mostP (nrI gs m) ((e':Int) :: xs) c = if zb4 .i64 (e':Int) (c:Int) = 0∧zb4 .i64 (zbP .i64 (nrI gs m (e':Int)) (e':Int)) (c:Int) = 0 then max (Go.Abs.mostP (nrI gs m) xs c) (1 + Go.Abs.mostP (nrI gs m) xs (ior .i64 (c:Int) (e':Int))) else Go.Abs.mostP (nrI gs m) xs c:=rfl
   rw [hun,hor,hnr,zaQ (by omega) (by omega),zaQ (by omega) (by omega)]
   by_cases hec:((e' &&& c:Nat):Int) = 0∧(((nrK gs e' m ^^^ (nrK gs e' m &&& e')) &&& c:Nat):Int) = 0
   ·rw [if_pos hec]
    by_cases hm:Go.Abs.mostP (nrI gs m) xs c ≤ 1 + Go.Abs.mostP (nrI gs m) xs ((c ||| e':Nat):Int)
    ·have hz:∀ {s:Nat},s &&& (c ||| e') = 0→s &&& c = 0∧s &&& e' = 0:=fun h=>by
      rw [Nat.and_or_distrib_left,Nat.or_eq_zero_iff] at h;exact h
     refine ⟨(e':Int) :: M2,a2.cons_cons _,List.pairwise_cons.2 ⟨fun b hb=>?_,c1⟩,fun x hxm=>?_,by rw [List.length_cons,Int.max_eq_right hm];omega⟩
     ·rw [Int.toNat_natCast]
      exact ⟨(hz (c2 b hb).1).2,(hz (c2 b hb).2).2⟩
     ·rcases List.mem_cons.1 hxm with rfl | hxm
      ·rw [Int.toNat_natCast];exact ⟨by omega,by omega⟩
      ·exact ⟨(hz (c2 x hxm).1).1,(hz (c2 x hxm).2).1⟩
    ·exact ⟨M,a.cons _,b1,b2,by rw [Int.max_eq_left (by omega)];exact d⟩
   ·rw [if_neg hec];exact ⟨M,a.cons _,b1,b2,d⟩
theorem zvf (hp:isP (p:Int) = true) (hg:zar (m:Int) xs = true):∃ W k,W < 2 ^ m∧¬ Ac p (za1 (grF m xs) W) k∧(k:Int) = Go.Abs.mostP (nrI xs m) xs 0:=by
 have h64:∀ x ∈ xs,x.toNat < 64:=fun x hx=>by have:=zom hg x hx;omega
 obtain ⟨M,a,b,_,d⟩:=zne (m:=m) xs h64 xs 0 (zom hg) (by decide)
 have hsub:∀ x ∈ M,x ∈ xs:=fun x hx=>a.subset hx
 have h6:=(zgh hg).n6
 have hap:ApL (grF m xs) m (M.map Int.toNat):=by
  refine ⟨fun e he=>?_,?_⟩
  ·obtain ⟨x,hx,rfl⟩:=List.mem_map.1 he
   obtain ⟨u,v,hu,hv,hxe⟩:=zhp hg (hsub x hx)
   have hxe2:x.toNat = 2 ^ u ||| 2 ^ v:=by omega
   refine ⟨by rw [hxe2];exact Nat.or_lt_two_pow (Nat.pow_lt_pow_right (by decide) hu) (Nat.pow_lt_pow_right (by decide) (by omega)),u,v,by omega,hxe2,?_⟩
   cases hc:grF m xs x.toNat with
   | false=>rfl
   | true =>
     rw [hxe2] at hc
     have:=(zju hg hu (by omega) (by omega)).1 hc
     rw [← hxe] at this
     exact absurd (hsub x hx) this
  ·rw [List.pairwise_map]
   refine List.Pairwise.imp_of_mem (fun {x y} hx hy ⟨q1,q2⟩=>⟨by rw [Nat.and_comm];exact q1,fun i j hi hj=>?_⟩) b
   obtain ⟨u,v,hu,hv,hxe⟩:=zhp hg (hsub x hx)
   obtain ⟨u',v',hu',hv',hye⟩:=zhp hg (hsub y hy)
   have hxe2:x.toNat = 2 ^ u ||| 2 ^ v:=by omega
   have hye2:y.toNat = 2 ^ u' ||| 2 ^ v':=by omega
   have him:i < m:=by
    rw [hxe2,zaM,Bool.or_eq_true,decide_eq_true_eq,decide_eq_true_eq] at hi;omega
   have hjm:j < m:=by
    rw [hye2,zaM,Bool.or_eq_true,decide_eq_true_eq,decide_eq_true_eq] at hj;omega
   have hyi:y.toNat.testBit i = false:=by
    have:=congrArg (fun z=>z.testBit i) q1
    simp only [Nat.testBit_and,hi,Bool.and_true,Nat.zero_testBit] at this
    exact this
   have hij:i ≠ j:=fun e=>by subst e;rw [hj] at hyi;cases hyi
   rw [zju hg him hjm hij]
   intro hm
   have hadj:adj xs j i = true:=by
    unfold adj
    refine List.any_eq_true.2 ⟨_,hm,?_⟩
    rw [Int.toNat_natCast,zaM,zaM]
    simp [Ne.symm hij]
   have hN:(nrK xs y.toNat m).testBit i = true:=(zcv xs y.toNat m i h64).2 ⟨j,hjm,hj,hadj⟩
   have:=congrArg (fun z=>z.testBit i) q2
   simp only [Nat.testBit_and,Nat.testBit_xor,hN,hyi,hi,Nat.zero_testBit] at this
   cases this
 refine ⟨_,_,zzc fun e he=>(hap.1 e he).1,zr0 hp (zgh hg) _ hap,?_⟩
 rw [List.length_map];exact d
omit [NeZero p] in
theorem zBy (hp:isP (p:Int) = true) (hg:zar (m:Int) xs = true):znb m (apL m xs) p = zr4 (grF m xs) p m:=if_pos ⟨zGz hg,hp⟩
theorem zBz (hp:isP (p:Int) = true) (hg:zar (m:Int) xs = true):Go.Abs.mostP (nrI xs m) xs 0 ≤ zhR m xs p∧zhR m xs p ≤ zew xs 0:=by
 have hf:=zgh hg
 have e:zhR (m:Int) xs p = zgg (zr4 (grF m xs) p m) (m + 1):=by
  unfold zhR
  rw [if_pos hg]
  unfold zCO
  rw [zBy hp hg,(znW (grF m xs) p hf.n6).len]
 rw [e]
 constructor
 ·obtain ⟨W,k,hW,hac,hk⟩:=zvf (p:=p) hp hg
  rw [← hk]
  have hW6:=Nat.lt_of_lt_of_le hW (zao hf.n6)
  have hkW:k ≤ zat W:=Nat.le_of_not_lt fun hlt=>hac (zkY fun s hs2 h3 h4=>by
   have:=zjp hW6 (zbj.1 h3).2
   omega)
  have hWm:=zhc hf.n6 hW
  have:=zuQ (zr4 (grF m xs) p m) (m + 1) (zat W - k) (zat W) (by omega) (by rw [(znW (grF m xs) p hf.n6).row _ (by omega)];omega)
   ((zjo hp hf.down hf.n6).2 ⟨W,hW,rfl,by omega,by rw [show zat W - (zat W - k) = k by omega];exact hac⟩)
  omega
 ·refine zuR _ (by have:=(zex xs 0).1;omega) _ fun i j hi hne=>?_
  obtain ⟨w,hw,hj,hij,hac⟩:=(zjo hp hf.down hf.n6).1 hne
  obtain ⟨L,hL,hl⟩:=zzb hf _ w _ (Nat.le_refl _) hw hac
  have:=zAf hg hw hL
  rw [hl] at this
  omega
theorem zEx (hp:isP (p:Int) = true) (hg:zar (m:Int) xs = true):zAb m (apL m xs) p 2 = true ↔ zrZ p (grF m xs) (2 ^ m - 1):=by
 have hf:=zgh hg
 have hsq:=znW (grF m xs) p hf.n6
 have hlen:=hsq.len
 unfold zAb
 rw [zBy hp hg,hlen,decide_eq_true (by omega),Bool.true_and]
 have hfull:∀ W,W < 2 ^ m→(2 ^ m - 1) &&& W = W:=fun W hW=>by
  rw [Nat.and_comm,Nat.and_two_pow_sub_one_of_lt_two_pow hW]
 have hlt:∀ W,(2 ^ m - 1) &&& W = W→W < 2 ^ m:=fun W hW=>by
  have:W ≤ 2 ^ m - 1:=by rw [← hW];exact Nat.and_le_left
  have:=Nat.two_pow_pos m
  omega
 have hlm:zBl (zr4 (grF m xs) p m) 2 = true ↔ zGx (zr4 (grF m xs) p m) 2:=by
  constructor
  ·intro h
   refine Classical.byContradiction fun hn=>?_
   rw [zse hn] at h;cases h
  ·exact zoa
 rw [hlm]
 constructor
 ·intro h W hW k hk
  have hWm:=hlt W hW
  have hW6:=Nat.lt_of_lt_of_le hWm (zao hf.n6)
  refine Classical.byContradiction fun hac=>?_
  have hkW:k ≤ zat W:=Nat.le_of_not_lt fun hlt=>hac (zkY fun s hs2 h3 h4=>by
   have:=zjp hW6 (zbj.1 h3).2
   omega)
  have hpl:=zhc hf.n6 hWm
  by_cases hi:zat W = k
  ·refine hac ?_
   cases hfW:grF m xs W with
   | true=>exact zdp hf hW6 hfW (.inr (by omega))
   | false =>
     refine zkY fun s hs h3 h4=>?_
     obtain ⟨q1,q2⟩:=zbj.1 h3
     have hsW:=zr2 W hW6 s hs
     rw [q2] at hsW
     simp only [beq_self_eq_true,Bool.not_true,Bool.false_or,Bool.and_eq_true,Bool.or_eq_true,decide_eq_true_eq,beq_iff_eq] at hsW
     have:s = W:=by omega
     rw [this,hfW] at q1;cases q1
  ·have hne:ent (zr4 (grF m xs) p m) (zat W - k) (zat W) ≠ 0:=(zjo hp hf.down hf.n6).2 ⟨W,hWm,rfl,by omega,by rw [show zat W - (zat W - k) = k by omega];exact hac⟩
   rcases h (zat W - k) (by omega) (by omega) (zat W) (by omega) with h | h
   ·exact hne h
   ·omega
 ·intro h i hi hil j hjl
  by_cases hz:ent (zr4 (grF m xs) p m) i j = 0
  ·exact .inl hz
  ·obtain ⟨w,hw,hj,hij,hac⟩:=(zjo hp hf.down hf.n6).1 hz
   refine .inr ?_
   have h2:¬ 2 ≤ j - i:=fun h2=>hac (h w (hfull w hw) _ h2)
   have h0:j - i ≠ 0:=fun h0=>by
    rw [h0] at hac
    by_cases hw0:w = 0
    ·subst hw0;rw [zca] at hj;omega
    ·obtain ⟨c,hc⟩:=Nat.exists_testBit_of_ne_zero hw0
     exact hac (ac0 hp hf hw hc)
   omega
end
open Nat (reduceEqDiff reduceMod reduceAdd reduceLT reduceLeDiff reduceSub reduceMul)
theorem ziX (n m:Int) (xs ys:List Int):AC Tryz.prog 53 [.ag [int n,zaN xs],.ag [int m,zaN ys]] (.im (bool (decide (n = m∧xs = ys)))):=by
 refine AC.go (rs:=[.tmp 4]) za3 zav Tryz.func53 rfl rfl rfl (by kernel_rfl) fun hl=>?_
 simp (maxSteps:=5000000) -dsimp only [↓gp,gq,reduceCtorEq,reduceEqDiff,reduceLT,reduceLeDiff,reduceAdd,reduceMul,reduceSub,Nat.reduceBEq,Int.reduceToNat,Int.reduceLE,Int.reduceLT,Int.reduceNeg,reduceMod,zac,zad,zab,zaa,gT,TK.isInt,TK.agg,Array.toList]
 refine ⟨fun h=>zaf (zdy xs ys) ?_,fun h=>?_⟩
 ·have h:n = m:=by simpa using h
  subst h
  simp (maxSteps:=5000000) -dsimp only [↓gp,gq,reduceCtorEq,reduceEqDiff,reduceLT,reduceLeDiff,reduceAdd,reduceMul,reduceSub,Nat.reduceBEq,Int.reduceToNat,Int.reduceLE,Int.reduceLT,Int.reduceNeg,reduceMod,zac,zad,zab,zaa,gT,TK.isInt,TK.agg,Array.toList]
 ·have h:n ≠ m:=by simpa using h
  exact fun e=>h e.1
section
variable {m:Nat} {xs:List Int}
theorem zrg (s:Nat):(s:Int) ∈ ofN (zix xs (2 ^ m)) ↔ s < 2 ^ m∧zat s = 2∧¬ (s:Int) ∈ xs:=by
 unfold ofN
 rw [List.mem_map]
 constructor
 ·rintro ⟨t,ht,e⟩
  have e:t = s:=Int.ofNat.inj e
  subst e
  unfold zix at ht
  obtain ⟨a,b⟩:=List.mem_filter.1 ht
  rw [Bool.and_eq_true,beq_iff_eq] at b
  exact ⟨List.mem_range.1 a,b.1,by simpa using b.2⟩
 ·rintro ⟨a,b,c⟩
  refine ⟨s,List.mem_filter.2 ⟨List.mem_range.2 a,?_⟩,rfl⟩
  rw [b,decide_eq_false c];rfl
theorem zEw (h6:m ≤ 6):∀ x ∈ ofN (zix xs (2 ^ m)),x.toNat < 64:=fun x hx=>by
 obtain ⟨t,ht,rfl⟩:=List.mem_map.1 hx
 have:=List.mem_range.1 (List.mem_filter.1 ht).1
 have:=zao h6
 exact Nat.lt_of_lt_of_le ‹t < 2 ^ m› this
theorem zwr (h1:1 ≤ m) (h6:m ≤ 6):zar (m:Int) (ofN (zix xs (2 ^ m))) = true:=by
 refine zec ⟨by omega,by omega,fun k hk=>?_⟩
 rw [zak] at hk
 have hpw:(zix xs (2 ^ m)).Pairwise (· < ·):=List.Pairwise.filter _ List.pairwise_lt_range
 have hm:=zaD 0 hk
 have hmi:=(zrg (m:=m) (xs:=xs) ((zix xs (2 ^ m)).getD k 0)).1 (List.mem_map.2 ⟨_,hm,rfl⟩)
 refine ⟨?_,by rw [zaJ hk,Int.toNat_natCast];exact hmi.2.1,fun h0=>?_⟩
 ·rw [zaJ hk]
  unfold zcA
  rw [decide_eq_true_iff,zhH]
  exact ⟨by omega,by omega,by omega,by exact_mod_cast hmi.1⟩
 ·rw [zaJ hk,zaJ (by omega)]
  have:=List.pairwise_iff_getElem.1 hpw (k - 1) k (by omega) hk (by omega)
  have a:(zix xs (2 ^ m)).getD (k - 1) 0 = (zix xs (2 ^ m))[k - 1]'(by omega):=by simp [List.getD,show k - 1 < (zix xs (2 ^ m)).length by omega]
  have b:(zix xs (2 ^ m)).getD k 0 = (zix xs (2 ^ m))[k]:=by simp [List.getD,hk]
  rw [a,b];omega
theorem ziY (hg:zar (m:Int) xs = true) {i j:Nat} (hi:i < m) (hj:j < m) (hij:i ≠ j):((2 ^ i ||| 2 ^ j:Nat):Int) ∈ ofN (zix xs (2 ^ m)) ↔ grF m xs (2 ^ i ||| 2 ^ j) = true:=by
 have h6:=(zgh hg).n6
 rw [zrg,zju hg hi hj hij]
 have hp:=zso i (by omega) j (by omega)
 rw [beq_false_of_ne hij,Bool.false_or,beq_iff_eq] at hp
 exact ⟨fun h=>h.2.2,fun h=>⟨Nat.or_lt_two_pow (Nat.pow_lt_pow_right (by decide) hi) (Nat.pow_lt_pow_right (by decide) hj),hp,h⟩⟩
theorem zCT (hg:zar (m:Int) xs = true) {v:Nat} (hv:v < m):nbr (ofN (zix xs (2 ^ m))) v = zfP (grF m xs) v:=by
 have hf:=zgh hg
 have h6:=hf.n6
 have h64:=zao h6
 refine Nat.eq_of_testBit_eq fun j=>?_
 rw [zfY _ _ _ (zEw h6),Bool.eq_iff_iff,zcy]
 unfold adj
 rw [List.any_eq_true]
 constructor
 ·rintro ⟨e,he,h⟩
  obtain ⟨s,hs,rfl⟩:=List.mem_map.1 he
  have hm:=(zrg (m:=m) (xs:=xs) s).1 he
  rw [Bool.and_eq_true,Bool.and_eq_true,decide_eq_true_eq] at h
  have h:s.testBit v = true∧s.testBit j = true∧v ≠ j:=h
  have hjm:=zaW hm.1 h.2.1
  have hsp:s = 2 ^ j ||| 2 ^ v:=by
   have h2:=zon s (by omega) hm.2.1
   simp only [List.any_eq_true,List.mem_range,beq_iff_eq] at h2
   obtain ⟨a,ha,b,hb,e⟩:=h2
   rw [e] at h ⊢
   obtain ⟨q1,q2,q3⟩:=h
   rw [zaM,Bool.or_eq_true,decide_eq_true_eq,decide_eq_true_eq] at q1 q2
   rcases q1 with rfl | rfl <;> rcases q2 with rfl | rfl
   ·exact absurd rfl q3
   ·exact zbL _ _
   ·rfl
   ·exact absurd rfl q3
  refine ⟨by omega,Ne.symm h.2.2,?_⟩
  rw [hsp] at he
  exact (ziY hg hjm hv (Ne.symm h.2.2)).1 he
 ·rintro ⟨a,b,c⟩
  have hjm:j < m:=by
   have hlt:=hf.sup _ (Nat.or_lt_two_pow (n:=6) (Nat.pow_lt_pow_right (by decide) a) (Nat.pow_lt_pow_right (by decide) (by omega))) c
   exact zaW hlt (by rw [zaM];simp)
  refine ⟨_,(ziY hg hjm hv b).2 c,?_⟩
  rw [Int.toNat_natCast,zaM,zaM]
  simp [Ne.symm b]
theorem zAc (hg:zar (m:Int) xs = true) { T:Nat} (hT:T < 2 ^ m):zjw (ofN (zix xs (2 ^ m))) T m = grF m xs T:=by
 have hf:=zgh hg
 have h6:=hf.n6
 rw [Bool.eq_iff_iff]
 have hj:zjw (ofN (zix xs (2 ^ m))) T m = true ↔ ∀ i,i < m→∀ k,k < i→T.testBit i = true→T.testBit k = true→grF m xs (2 ^ i ||| 2 ^ k) = true:=by
  unfold zjw zrj
  simp only [List.all_eq_true,List.mem_range,Bool.or_eq_true,Bool.not_eq_true',Bool.and_eq_false_iff,decide_eq_true_eq]
  refine ⟨fun h i hi k hk a b=>?_,fun h i hi k hk=>?_⟩
  ·rcases h i hi k hk with (q | q) | q
   ·rw [a] at q;cases q
   ·rw [b] at q;cases q
   ·rw [zsn i (by omega) k hk] at q
    exact (ziY hg hi (by omega) (by omega)).1 q
  ·cases a:T.testBit i with
   | false=>exact .inl (.inl rfl)
   | true =>
     cases b:T.testBit k with
     | false=>exact .inl (.inr rfl)
     | true =>
       refine .inr ?_
       rw [zsn i (by omega) k hk]
       exact (ziY hg hi (by omega) (by omega)).2 (h i hi k hk a b)
 rw [hj]
 constructor
 ·intro h
  refine hf.flag T hT fun i j hi hj=>?_
  have him:=zaW hT hi
  have hjm:=zaW hT hj
  rcases Nat.lt_trichotomy i j with q | q | q
  ·rw [zbL];exact h j hjm i q hj hi
  ·subst q;rw [Nat.or_self];exact hf.pts _ him
  ·exact h i him j q hi hj
 ·intro h i hi k hk a b
  exact zuS hf.down h a b
theorem zve {p:Nat} [NeZero p] (hp:isP (p:Int) = true) (hg:zar (m:Int) xs = true):chR (zEz m xs) (zEy m xs) = zAb m (apL m xs) p 2:=by
 have hf:=zgh hg
 have h6:=hf.n6
 obtain ⟨h1,_,_⟩:=zaC.1 hg
 have e1:zEz (m:Int) xs = m:=if_pos hg
 have e2:zEy (m:Int) xs = ofN (zix xs (2 ^ m)):=if_pos hg
 have hpos:=Nat.two_pow_pos m
 rw [Bool.eq_iff_iff,zEx hp hg,e1,e2,chR,zwr (by omega) h6,Bool.true_and,Int.toNat_natCast,
  zqL (q':=fun S v=>grF m xs (S &&& zfP (grF m xs) v)) (fun S v hS hv _=>by
   unfold chQ
   rw [zCT hg hv,zAc hg (Nat.lt_of_le_of_lt Nat.and_le_right hS),Nat.and_comm]) 6 _ (by omega)]
 exact zy9 hp hf 6 _ (zcw (Nat.lt_of_lt_of_le (by omega) (zao h6))) (by omega)
theorem zCU (hg:zar (m:Int) xs = true):zjA (m:Int) xs = true:=by
 obtain ⟨h1,h6,h⟩:=zaC.1 hg
 have hlt:∀ j,j < xs.length→∀ i,i < j→xs.getD i 0 < xs.getD j 0:=by
  intro j
  induction j with
  | zero=>intro _ i hi;omega
  | succ j ih =>
    intro hj i hi
    have h1:=(h (j + 1) hj).2.2 (by omega)
    rw [Nat.add_sub_cancel] at h1
    by_cases e:i = j
    ·rw [e];exact h1
    ·have:=ih (by omega) i (by omega);omega
 have hp:∀ k,k < xs.length→∃ s:Nat,xs.getD k 0 = s∧s < 64∧zat s = 2:=fun k hk=>by
  have q1:=zcd (h k hk).1
  have q2:=(h k hk).2.1
  exact ⟨(xs.getD k 0).toNat,by omega,by omega,q2⟩
 refine zgn ⟨h1,h6,fun k hk=>⟨(h k hk).1,fun h0=>?_,fun i hi=>?_⟩⟩
 ·obtain ⟨s,e1,e2,e3⟩:=hp k hk
  obtain ⟨t,f1,f2,f3⟩:=hp (k - 1) (by omega)
  have:=hlt k hk (k - 1) (by omega)
  rw [e1,f1] at this ⊢
  unfold zln
  rw [zce (by omega),zce (by omega),e3,f3]
  simp
  omega
 ·obtain ⟨s,e1,e2,e3⟩:=hp k hk
  obtain ⟨t,f1,f2,f3⟩:=hp i (by omega)
  have:=hlt k hk i hi
  rw [e1,f1] at this ⊢
  rw [zaQ (by omega) (by omega)]
  intro e
  have e:t &&& s = t:=by omega
  have h2:=zr2 s e2 t f2
  rw [Nat.and_comm,e] at h2
  simp [e3,f3] at h2
  omega
theorem zAd (hg:zar (m:Int) xs = true):∀ x ∈ zAW m xs,∃ s:Nat,x = s∧s < 64∧zew xs 0 ≤ (zat s:Int):=fun x hx=>by
 unfold zAW at hx
 obtain ⟨s,hs,rfl⟩:=List.mem_map.1 hx
 obtain ⟨⟨h1,h2⟩,_⟩:=zg8.1 hs
 unfold zGM zc6 at h2
 rw [Bool.and_eq_true,List.all_eq_true] at h2
 obtain ⟨M,a,b,d⟩:=zri xs 0 (zom hg) (by decide)
 refine ⟨s,rfl,h1,?_⟩
 have:=zsp M s h1 b.1 fun x hx=>by
  have q:=zom hg x (a.subset hx)
  refine ⟨by omega,fun hz=>?_⟩
  have:=h2.2 x (a.subset hx)
  obtain ⟨x',rfl⟩:∃ x':Nat,x = x':=⟨x.toNat,by omega⟩
  rw [zaQ (by omega) (by omega)] at this
  rw [Int.toNat_natCast] at hz
  rw [hz] at this
  simp at this
 have d:(M.length:Int) = zew xs 0:=d
 omega
end
theorem zlG (bs:List Int) (hbs:bs.length ≤ 9223372036854775806):zCS Tryz.prog 175 TC bs ⟨0,.dead⟩ [] (kcx cxQ):=by
 intro i h
 refine AG.go (rs:=[.cell 2 36]) za3 zav Tryz.func175 rfl rfl rfl (by kernel_rfl) fun hl _ s hs hR=>?_
 have e0:s.rw 1000000 = ⟨1,.box TC [.sl false 1 (kL .u8 bs),int i,int h]⟩:=by rw [hR];rfl
 have e1:s.rw 1000500 = ⟨0,.dead⟩:=by rw [hR];rfl
 have elo:∀ k,k < 1000000→s.rw k = ⟨0,.dead⟩:=fun k hk=>by rw [hR];exact zz1 hk
 simp (maxSteps:=5000000) -dsimp only [↓gp,gq,reduceCtorEq,reduceEqDiff,reduceLT,reduceLeDiff,reduceAdd,reduceMul,reduceSub,Nat.reduceBEq,Int.reduceToNat,Int.reduceLE,Int.reduceLT,Int.reduceNeg,reduceMod,zac,zad,zab,zaa,gT,TK.isInt,TK.agg,Array.toList,hs,e0,elo]
 refine zdz (zeE bs hbs [1,2,3,4,4,5,5,6] (by decide) (by decide)) (.some (j:=8) (by simp (maxSteps:=5000000) -dsimp only [gr,reduceEqDiff,reduceLT,reduceAdd,reduceMod,Nat.reduceBEq,zaa,zac,zad,zab,elo] <;> rfl) (zed _)) (by simp (maxSteps:=5000000) -dsimp only [gr,reduceEqDiff,reduceLT,reduceAdd,reduceMod,Nat.reduceBEq,zaa,zac,zad,zab,e0] <;> rfl) (.one (zhm (by simp (maxSteps:=5000000) -dsimp only [gr,reduceEqDiff,reduceLT,reduceAdd,reduceMod,Nat.reduceBEq,zaa,zac,zad,zab,e0] <;> rfl)) (.one (zsl (by simp (maxSteps:=5000000) -dsimp only [gr,reduceEqDiff,reduceLT,reduceAdd,reduceMod,Nat.reduceBEq,zaa,zac,zad,zab,elo])) .nil)) rfl (fun j hj=>by cases hj;exact ⟨rfl,rfl⟩) fun rv i1 g1 ⟨n0,hrv,hc⟩=>?_
 subst hrv
 obtain ⟨n,rfl,hn1,hn⟩:∃ n:Nat,n0 = n∧1 ≤ n∧n ≤ 6:=by
  have hc:n0 ∈ [1,2,3,4,4,5,5,6]:=hc
  simp at hc
  exact ⟨n0.toNat,by omega,by omega,by omega⟩
 simp (maxSteps:=5000000) -dsimp only [↓gp,gq,reduceCtorEq,reduceEqDiff,reduceLT,reduceLeDiff,reduceAdd,reduceMul,reduceSub,Nat.reduceBEq,Int.reduceToNat,Int.reduceLE,Int.reduceLT,Int.reduceNeg,reduceMod,zac,zad,zab,zaa,gT,TK.isInt,TK.agg,Array.toList,hs,e0,elo]
 refine zdz (zfS bs hbs 3 (by decide)) .none (by simp (maxSteps:=5000000) -dsimp only [gr,reduceEqDiff,reduceLT,reduceAdd,reduceMod,Nat.reduceBEq,zaa,zac,zad,zab,e0,elo] <;> rfl) (GvL.one (zhm (by simp (maxSteps:=5000000) -dsimp only [gr,reduceEqDiff,reduceLT,reduceAdd,reduceMod,Nat.reduceBEq,zaa,zac,zad,zab,e0,elo] <;> rfl)) (by repeat (first | exact GvL.nil | refine GvL.one (GvA.v _) ?_ | refine GvL.one (GvA.sl _ _ _) ?_))) rfl (fun _ h=>by cases h) fun rv i2 g2 ⟨x,hrv,hx⟩=>?_
 subst hrv
 obtain ⟨y,rfl,hy⟩:=zsj (n:=3) (by decide) hx
 have hw1:IntKind.i64.wrap (2 + (y:Int)) = ((y + 2:Nat):Int):=by rw [zap (by omega) (by omega)];omega
 have h64:=zao hn
 have hsh:zkH .i64 1 (n:Int) = ((2 ^ n:Nat):Int):=za5 (by omega)
 have hun:IntKind.u64.wrap (n:Int) = (n:Int):=za2 (by omega)
 simp (maxSteps:=5000000) -dsimp only [↓gp,gq,reduceCtorEq,reduceEqDiff,reduceLT,reduceLeDiff,reduceAdd,reduceMul,reduceSub,Nat.reduceBEq,Int.reduceToNat,Int.reduceLE,Int.reduceLT,Int.reduceNeg,reduceMod,zac,zad,zab,zaa,gT,TK.isInt,TK.agg,Array.toList,hs,e0,elo,hw1]
 refine znP (fun (za:Nat × Nat × Nat × Int × List Int) s=>match za with | (m,v,j,g,L)=>s.sl 0 = .ref 1000000 1 0∧s.rw 1000000 = ⟨1,.box TC [.sl false 1 (kL .u8 bs),int j,int g]⟩∧s.rw 1000500 = ⟨0,.dead⟩∧s.sl 2 = .ref 2 1 0∧s.rw 2 = ⟨1,.box 36 [int 0,.v (.slice none 0 0)]⟩∧s.sl 3 = int n∧s.sl 4 = .ref 4 1 0∧s.rw 4 = ⟨1,.box 36 [int n,.own 90 v]⟩∧s.rw 90 = ⟨v,.sli 3 1 false (iL L)⟩∧s.sl 5 = int (y + 2:Nat)∧s.sl 6 = int m∧(m ≤ 2 ^ n∧L.length ≤ m)) (fun (m,v,j,g,L)=>2 ^ n - m) ((0,1,i2,g2,[])) (Wk.nilBox (j:=4) (v:=1) (t:=36) (o:=1) (c:=[int n,.v (.slice none 0 0)]) 90 3 (by simp (maxSteps:=5000000) -dsimp only [gr,reduceEqDiff,reduceLT,reduceAdd,reduceMod,Nat.reduceBEq,zaa,zac,zad,zab]) rfl (by decide)) (by refine ⟨?_,?_,?_,?_,?_,?_,?_,?_,?_,?_,?_,⟨Nat.zero_le _,Nat.le_refl _⟩⟩ <;> (first | (simp (maxSteps:=5000000) -dsimp only [gr,reduceEqDiff,reduceLT,reduceAdd,reduceMod,Nat.reduceBEq,zaa,zac,zad,zab,hs,e0,e1,elo];first | done | rfl | (simp;done)) | assumption | rfl)) ?_
 intro (m,v,j,g,L) sa ⟨h0a,r1000000a,r1000500a,h2a,r2a,h3a,h4a,r4a,r90a,h5a,h6a,hIa⟩
 obtain ⟨hm,hLm⟩:=hIa
 simp (maxSteps:=5000000) -dsimp only [↓gp,gq,reduceCtorEq,reduceEqDiff,reduceLT,reduceLeDiff,reduceAdd,reduceMul,reduceSub,Nat.reduceBEq,Int.reduceToNat,Int.reduceLE,Int.reduceLT,Int.reduceNeg,reduceMod,zac,zad,zab,zaa,gT,TK.isInt,TK.agg,Array.toList,h0a,r1000000a,r1000500a,h2a,r2a,h3a,h4a,r4a,r90a,h5a,h6a,hsh,hun]
 refine ⟨fun hlt=>zaf (zaL m (by omega)) ?_,fun hlt=>?_⟩
 ·simp (maxSteps:=5000000) -dsimp only [↓gp,gq,reduceCtorEq,reduceEqDiff,reduceLT,reduceLeDiff,reduceAdd,reduceMul,reduceSub,Nat.reduceBEq,Int.reduceToNat,Int.reduceLE,Int.reduceLT,Int.reduceNeg,reduceMod,zac,zad,zab,zaa,gT,TK.isInt,TK.agg,Array.toList,h0a,r1000000a,r1000500a,h2a,r2a,h3a,h4a,r4a,r90a,h5a,h6a,hsh,hun]
  refine ⟨fun he=>zdz (zoi bs hbs (y + 2:Nat) (by omega)) .none (by simp (maxSteps:=5000000) -dsimp only [gr,reduceEqDiff,reduceLT,reduceAdd,reduceMod,Nat.reduceBEq,zaa,zac,zad,zab,h0a,r1000000a,r1000500a,h2a,r2a,h3a,h4a,r4a,r90a,h5a,h6a] <;> rfl) (GvL.one (zhm (by simp (maxSteps:=5000000) -dsimp only [gr,reduceEqDiff,reduceLT,reduceAdd,reduceMod,Nat.reduceBEq,zaa,zac,zad,zab,h0a,r1000000a,r1000500a,h2a,r2a,h3a,h4a,r4a,r90a,h5a,h6a] <;> rfl)) (by repeat (first | exact GvL.nil | refine GvL.one (GvA.v _) ?_ | refine GvL.one (GvA.sl _ _ _) ?_))) rfl (fun _ h=>by cases h) fun rv i3 g3 ⟨b,hrv⟩=>?_,fun he=>?_⟩
  ·subst hrv
   simp (maxSteps:=5000000) -dsimp only [↓gp,gq,reduceCtorEq,reduceEqDiff,reduceLT,reduceLeDiff,reduceAdd,reduceMul,reduceSub,Nat.reduceBEq,Int.reduceToNat,Int.reduceLE,Int.reduceLT,Int.reduceNeg,reduceMod,zac,zad,zab,zaa,gT,TK.isInt,TK.agg,Array.toList,h0a,r1000000a,r1000500a,h2a,r2a,h3a,h4a,r4a,r90a,h5a,h6a,hsh,hun]
   refine ⟨fun hb=>⟨by omega,?_⟩,fun hb=>?_⟩
   ·exact zag ((m + 1,v + 1,i3,g3,L ++ [(m:Int)])) (by refine ⟨?_,?_,?_,?_,?_,?_,?_,?_,?_,?_,?_,⟨by dsimp only;omega,by simp;omega⟩⟩ <;> (first | (simp (maxSteps:=5000000) -dsimp only [gr,reduceEqDiff,reduceLT,reduceAdd,reduceMod,Nat.reduceBEq,zaa,zac,zad,zab,h0a,r1000000a,r1000500a,h2a,r2a,h3a,h4a,r4a,r90a,h5a,h6a,h0a,r1000000a,r1000500a,h2a,r2a,h3a,h4a,r4a,r90a,h5a,h6a,zae hlt (by omega)];first | done | rfl | (simp;done)) | assumption | rfl)) (by first | omega | (simp only;omega) | (dsimp only;omega) | (show _ < _;simp;omega))
   ·exact zag ((m + 1,v,i3,g3,L)) (by refine ⟨?_,?_,?_,?_,?_,?_,?_,?_,?_,?_,?_,⟨by dsimp only;omega,by dsimp only;omega⟩⟩ <;> (first | (simp (maxSteps:=5000000) -dsimp only [gr,reduceEqDiff,reduceLT,reduceAdd,reduceMod,Nat.reduceBEq,zaa,zac,zad,zab,h0a,r1000000a,r1000500a,h2a,r2a,h3a,h4a,r4a,r90a,h5a,h6a,h0a,r1000000a,r1000500a,h2a,r2a,h3a,h4a,r4a,r90a,h5a,h6a,zae hlt (by omega)];first | done | rfl | (simp;done)) | assumption | rfl)) (by first | omega | (simp only;omega) | (dsimp only;omega) | (show _ < _;simp;omega))
  ·exact zag ((m + 1,v,j,g,L)) (by refine ⟨?_,?_,?_,?_,?_,?_,?_,?_,?_,?_,?_,⟨by dsimp only;omega,by dsimp only;omega⟩⟩ <;> (first | (simp (maxSteps:=5000000) -dsimp only [gr,reduceEqDiff,reduceLT,reduceAdd,reduceMod,Nat.reduceBEq,zaa,zac,zad,zab,h0a,r1000000a,r1000500a,h2a,r2a,h3a,h4a,r4a,r90a,h5a,h6a,h0a,r1000000a,r1000500a,h2a,r2a,h3a,h4a,r4a,r90a,h5a,h6a,zae hlt (by omega)];first | done | rfl | (simp;done)) | assumption | rfl)) (by first | omega | (simp only;omega) | (dsimp only;omega) | (show _ < _;simp;omega))
 ·exact ⟨_,j,g,_,⟨n,L,rfl,by omega,by omega,by omega⟩,.one (.ag (.cons (.im _) (.cons (.fr (by simp (maxSteps:=5000000) -dsimp only [gr,reduceEqDiff,reduceLT,reduceAdd,reduceMod,Nat.reduceBEq,zaa,zac,zad,zab,h0a,r1000000a,r1000500a,h2a,r2a,h3a,h4a,r4a,r90a,h5a,h6a] <;> rfl) (by decide)) .nil))),by simp,by simp (maxSteps:=5000000) -dsimp only [gr,reduceEqDiff,reduceLT,reduceAdd,reduceMod,Nat.reduceBEq,zaa,zac,zad,zab,h0a,r1000000a,r1000500a,h2a,r2a,h3a,h4a,r4a,r90a,h5a,h6a] <;> rfl,by simp (maxSteps:=5000000) -dsimp only [gr,reduceEqDiff,reduceLT,reduceAdd,reduceMod,Nat.reduceBEq,zaa,zac,zad,zab,h0a,r1000000a,r1000500a,h2a,r2a,h3a,h4a,r4a,r90a,h5a,h6a]⟩
theorem zlH (bs:List Int) (hbs:bs.length ≤ 9223372036854775806):zCS Tryz.prog 93 TC bs ⟨0,.dead⟩ [] (kcx fun n xs=>0 ≤ n∧n ≤ 7∧xs.length ≤ 450):=by
 intro i h
 refine AG.go (rs:=[.cell 2 36]) za3 zav Tryz.func93 rfl rfl rfl (by kernel_rfl) fun hl _ s hs hR=>?_
 have e0:s.rw 1000000 = ⟨1,.box TC [.sl false 1 (kL .u8 bs),int i,int h]⟩:=by rw [hR];rfl
 have e1:s.rw 1000500 = ⟨0,.dead⟩:=by rw [hR];rfl
 have elo:∀ k,k < 1000000→s.rw k = ⟨0,.dead⟩:=fun k hk=>by rw [hR];exact zz1 hk
 simp (maxSteps:=5000000) -dsimp only [↓gp,gq,reduceCtorEq,reduceEqDiff,reduceLT,reduceLeDiff,reduceAdd,reduceMul,reduceSub,Nat.reduceBEq,Int.reduceToNat,Int.reduceLE,Int.reduceLT,Int.reduceNeg,reduceMod,zac,zad,zab,zaa,gT,TK.isInt,TK.agg,Array.toList,hs,e0,elo]
 refine zdz (zlG bs hbs) .none (by simp (maxSteps:=5000000) -dsimp only [gr,reduceEqDiff,reduceLT,reduceAdd,reduceMod,Nat.reduceBEq,zaa,zac,zad,zab,e0,elo] <;> rfl) (GvL.one (zhm (by simp (maxSteps:=5000000) -dsimp only [gr,reduceEqDiff,reduceLT,reduceAdd,reduceMod,Nat.reduceBEq,zaa,zac,zad,zab,e0,elo] <;> rfl)) (by repeat (first | exact GvL.nil | refine GvL.one (GvA.v _) ?_ | refine GvL.one (GvA.sl _ _ _) ?_))) rfl (fun _ h=>by cases h) fun rv i1 g1 ⟨n,xs,hrv,hq⟩=>?_
 subst hrv
 obtain ⟨hn0,hn7,hxl⟩:=hq
 simp (maxSteps:=5000000) -dsimp only [↓gp,gq,reduceCtorEq,reduceEqDiff,reduceLT,reduceLeDiff,reduceAdd,reduceMul,reduceSub,Nat.reduceBEq,Int.reduceToNat,Int.reduceLE,Int.reduceLT,Int.reduceNeg,reduceMod,zac,zad,zab,zaa,gT,TK.isInt,TK.agg,Array.toList,hs,e0,elo]
 refine zdz (zfS bs hbs 14 (by decide)) .none (by simp (maxSteps:=5000000) -dsimp only [gr,reduceEqDiff,reduceLT,reduceAdd,reduceMod,Nat.reduceBEq,zaa,zac,zad,zab,e0,elo] <;> rfl) (GvL.one (zhm (by simp (maxSteps:=5000000) -dsimp only [gr,reduceEqDiff,reduceLT,reduceAdd,reduceMod,Nat.reduceBEq,zaa,zac,zad,zab,e0,elo] <;> rfl)) (by repeat (first | exact GvL.nil | refine GvL.one (GvA.v _) ?_ | refine GvL.one (GvA.sl _ _ _) ?_))) rfl (fun _ h=>by cases h) fun rv i2 g2 ⟨x,hrv,hx⟩=>?_
 subst hrv
 simp (maxSteps:=5000000) -dsimp only [↓gp,gq,reduceCtorEq,reduceEqDiff,reduceLT,reduceLeDiff,reduceAdd,reduceMul,reduceSub,Nat.reduceBEq,Int.reduceToNat,Int.reduceLE,Int.reduceLT,Int.reduceNeg,reduceMod,zac,zad,zab,zaa,gT,TK.isInt,TK.agg,Array.toList,hs,e0,elo]
 refine ⟨fun h0=>?_,fun h0=>⟨fun h1=>?_,fun h1=>?_⟩⟩
 ·refine zdz (zeE bs hbs [0,7,2] (by decide) (by decide)) (.some (j:=11) (by simp (maxSteps:=5000000) -dsimp only [gr,reduceEqDiff,reduceLT,reduceAdd,reduceMod,Nat.reduceBEq,zaa,zac,zad,zab,elo] <;> rfl) (zed _)) (by simp (maxSteps:=5000000) -dsimp only [gr,reduceEqDiff,reduceLT,reduceAdd,reduceMod,Nat.reduceBEq,zaa,zac,zad,zab,e0] <;> rfl) (.one (zhm (by simp (maxSteps:=5000000) -dsimp only [gr,reduceEqDiff,reduceLT,reduceAdd,reduceMod,Nat.reduceBEq,zaa,zac,zad,zab,e0] <;> rfl)) (.one (zsl (by simp (maxSteps:=5000000) -dsimp only [gr,reduceEqDiff,reduceLT,reduceAdd,reduceMod,Nat.reduceBEq,zaa,zac,zad,zab,elo])) .nil)) rfl (fun j hj=>by cases hj;exact ⟨rfl,rfl⟩) fun rv i3 g3 ⟨m,hrv,hc⟩=>?_
  subst hrv
  have hm:0 ≤ m∧m ≤ 7:=by
   have hc:m ∈ [0,7,2]:=hc
   simp at hc;omega
  simp (maxSteps:=5000000) -dsimp only [↓gp,gq,reduceCtorEq,reduceEqDiff,reduceLT,reduceLeDiff,reduceAdd,reduceMul,reduceSub,Nat.reduceBEq,Int.reduceToNat,Int.reduceLE,Int.reduceLT,Int.reduceNeg,reduceMod,zac,zad,zab,zaa,gT,TK.isInt,TK.agg,Array.toList,e0,elo]
  exact ⟨_,i3,g3,_,⟨m,xs,rfl,hm.1,hm.2,by omega⟩,.one (.ag (.cons (.im _) (.cons (.fr (by simp (maxSteps:=5000000) -dsimp only [gr,reduceEqDiff,reduceLT,reduceAdd,reduceMod,Nat.reduceBEq,zaa,zac,zad,zab] <;> rfl) (by decide)) .nil))),by simp,by simp (maxSteps:=5000000) -dsimp only [gr,reduceEqDiff,reduceLT,reduceAdd,reduceMod,Nat.reduceBEq,zaa,zac,zad,zab] <;> rfl,by simp (maxSteps:=5000000) -dsimp only [gr,reduceEqDiff,reduceLT,reduceAdd,reduceMod,Nat.reduceBEq,zaa,zac,zad,zab,e1]⟩
 ·refine ⟨by kernel_rfl,zwi (zcz bs hbs 66 (by decide)) (zld _) (i:=i2) (h:=g2) (by simp (maxSteps:=5000000) -dsimp only [gr,reduceEqDiff,reduceLT,reduceAdd,reduceMod,Nat.reduceBEq,zaa,zac,zad,zab] <;> rfl) rfl ?_⟩
  obtain ⟨y,j3,g3,hr,hy⟩:=zq9 bs 66 i2 g2
  rw [hr]
  have hy66:0 ≤ y∧y < 66:=by obtain ⟨a,b⟩:=hy;omega
  have hw:IntKind.i64.wrap (y - 1) = y - 1:=zap (by omega) (by omega)
  simp (maxSteps:=5000000) -dsimp only [↓gp,gq,reduceCtorEq,reduceEqDiff,reduceLT,reduceLeDiff,reduceAdd,reduceMul,reduceSub,Nat.reduceBEq,Int.reduceToNat,Int.reduceLE,Int.reduceLT,Int.reduceNeg,reduceMod,zac,zad,zab,zaa,gT,TK.isInt,TK.agg,Array.toList,e0,elo,hw]
  refine ⟨by omega,by kernel_rfl,?_⟩
  exact ⟨_,j3,g3,_,⟨n,xs ++ [y - 1],rfl,hn0,hn7,by simp;omega⟩,.one (.ag (.cons (.im _) (.cons (.fr (by simp (maxSteps:=5000000) -dsimp only [gr,reduceEqDiff,reduceLT,reduceAdd,reduceMod,Nat.reduceBEq,zaa,zac,zad,zab] <;> rfl) (by decide)) .nil))),by simp,by simp (maxSteps:=5000000) -dsimp only [gr,reduceEqDiff,reduceLT,reduceAdd,reduceMod,Nat.reduceBEq,zaa,zac,zad,zab] <;> rfl,by simp (maxSteps:=5000000) -dsimp only [gr,reduceEqDiff,reduceLT,reduceAdd,reduceMod,Nat.reduceBEq,zaa,zac,zad,zab,e1]⟩
 ·exact ⟨_,i2,g2,_,⟨n,xs,rfl,hn0,hn7,by omega⟩,.one (.ag (.cons (.im _) (.cons (.fr (by simp (maxSteps:=5000000) -dsimp only [gr,reduceEqDiff,reduceLT,reduceAdd,reduceMod,Nat.reduceBEq,zaa,zac,zad,zab] <;> rfl) (by decide)) .nil))),by simp,by simp (maxSteps:=5000000) -dsimp only [gr,reduceEqDiff,reduceLT,reduceAdd,reduceMod,Nat.reduceBEq,zaa,zac,zad,zab] <;> rfl,by simp (maxSteps:=5000000) -dsimp only [gr,reduceEqDiff,reduceLT,reduceAdd,reduceMod,Nat.reduceBEq,zaa,zac,zad,zab,e1]⟩
theorem zdA (bs:List Int) (hbs:bs.length ≤ 9223372036854775806):ADr Tryz.prog 45 [.sl false 1 (kL .u8 bs)] (fun rv=>∃ n xs p,rv = .tup [.ag [.im (int n),.fr 3 1 (iL xs)],.im (int p)]∧xs.length ≤ 450):=by
 refine AG.go (rs:=[.cell 2 36,.tmp 3]) za3 zav Tryz.func45 rfl rfl rfl (by kernel_rfl) fun hl _ s hs hR=>?_
 simp (maxSteps:=5000000) -dsimp only [↓gp,gq,reduceCtorEq,reduceEqDiff,reduceLT,reduceLeDiff,reduceAdd,reduceMul,reduceSub,Nat.reduceBEq,Int.reduceToNat,Int.reduceLE,Int.reduceLT,Int.reduceNeg,reduceMod,zac,zad,zab,zaa,gT,TK.isInt,TK.agg,Array.toList,hs,hR]
 refine zrb (zq8 bs) (.one (.sl _ _ _) .nil) fun h0=>?_
 simp (maxSteps:=5000000) -dsimp only [↓gp,gq,reduceCtorEq,reduceEqDiff,reduceLT,reduceLeDiff,reduceAdd,reduceMul,reduceSub,Nat.reduceBEq,Int.reduceToNat,Int.reduceLE,Int.reduceLT,Int.reduceNeg,reduceMod,zac,zad,zab,zaa,gT,TK.isInt,TK.agg,Array.toList,hs,hR]
 refine zdz (zlH bs hbs) .none (by simp (maxSteps:=5000000) -dsimp only [gr,reduceEqDiff,reduceLT,reduceAdd,reduceMod,Nat.reduceBEq,zaa,zac,zad,zab,hR] <;> rfl) (GvL.one (zhm (by simp (maxSteps:=5000000) -dsimp only [gr,reduceEqDiff,reduceLT,reduceAdd,reduceMod,Nat.reduceBEq,zaa,zac,zad,zab,hR] <;> rfl)) (by repeat (first | exact GvL.nil | refine GvL.one (GvA.v _) ?_ | refine GvL.one (GvA.sl _ _ _) ?_))) rfl (fun _ h=>by cases h) fun rv i1 g1 ⟨n,xs,hrv,hq⟩=>?_
 subst hrv
 simp (maxSteps:=5000000) -dsimp only [↓gp,gq,reduceCtorEq,reduceEqDiff,reduceLT,reduceLeDiff,reduceAdd,reduceMul,reduceSub,Nat.reduceBEq,Int.reduceToNat,Int.reduceLE,Int.reduceLT,Int.reduceNeg,reduceMod,zac,zad,zab,zaa,gT,TK.isInt,TK.agg,Array.toList,hs,hR]
 refine ⟨by kernel_rfl,zsm (zd9 bs hbs [2,3,5,2,3,4] (by decide) (by decide)) (zed _) (i:=i1) (h:=g1) (by simp (maxSteps:=5000000) -dsimp only [gr,reduceEqDiff,reduceLT,reduceAdd,reduceMod,Nat.reduceBEq,zaa,zac,zad,zab] <;> rfl) (by simp (maxSteps:=5000000) -dsimp only [gr,reduceEqDiff,reduceLT,reduceAdd,reduceMod,Nat.reduceBEq,zaa,zac,zad,zab,hR] <;> rfl) rfl rfl rfl ?_⟩
 obtain ⟨x,j2,g2,hr,hx⟩:=zCR bs (l:=[2,3,5,2,3,4]) (by decide) i1 g1
 rw [hr]
 simp (maxSteps:=5000000) -dsimp only [↓gp,gq,reduceCtorEq,reduceEqDiff,reduceLT,reduceLeDiff,reduceAdd,reduceMul,reduceSub,Nat.reduceBEq,Int.reduceToNat,Int.reduceLE,Int.reduceLT,Int.reduceNeg,reduceMod,zac,zad,zab,zaa,gT,TK.isInt,TK.agg,Array.toList,hs,hR,zEf]
 exact ⟨by kernel_rfl,_,_,⟨n,xs,x,rfl,hq.2.2⟩,.tup (.cons (.ag (.cons (.im _) (.cons (.fr (by simp (maxSteps:=5000000) -dsimp only [gr,reduceEqDiff,reduceLT,reduceAdd,reduceMod,Nat.reduceBEq,zaa,zac,zad,zab] <;> rfl) (by decide)) .nil))) (.cons (.lf (.im _)) .nil)),by simp⟩
theorem zbA {α:Type} [DecidableEq α] (a:α):decide (a = a) = true:=decide_eq_true rfl
set_option maxRecDepth 100000 in
theorem zlk (bs:List Int):AC Tryz.prog 5 [.sl false 1 (kL .u8 bs)] (.im (bool true)):=by
 refine AC.go (rs:=[.tmp 2]) za3 zav Tryz.func5 rfl rfl rfl (by kernel_rfl) fun hl=>?_
 simp (maxSteps:=5000000) -dsimp only [↓gp,gq,reduceCtorEq,reduceEqDiff,reduceLT,reduceLeDiff,reduceAdd,reduceMul,reduceSub,Nat.reduceBEq,Int.reduceToNat,Int.reduceLE,Int.reduceLT,Int.reduceNeg,reduceMod,zac,zad,zab,zaa,gT,TK.isInt,TK.agg,Array.toList]
 refine zaf (zwf bs) ?_
 simp (maxSteps:=5000000) -dsimp only [↓gp,gq,reduceCtorEq,reduceEqDiff,reduceLT,reduceLeDiff,reduceAdd,reduceMul,reduceSub,Nat.reduceBEq,Int.reduceToNat,Int.reduceLE,Int.reduceLT,Int.reduceNeg,reduceMod,zac,zad,zab,zaa,gT,TK.isInt,TK.agg,Array.toList]
 intro hbs
 refine zBs (zdA bs (by omega)) (.one (.sl _ _ _) .nil) fun rv ⟨n,xs,p,hrv,hx⟩=>?_
 subst hrv
 simp (maxSteps:=5000000) -dsimp only [↓gp,gq,reduceCtorEq,reduceEqDiff,reduceLT,reduceLeDiff,reduceAdd,reduceMul,reduceSub,Nat.reduceBEq,Int.reduceToNat,Int.reduceLE,Int.reduceLT,Int.reduceNeg,reduceMod,zac,zad,zab,zaa,gT,TK.isInt,TK.agg,Array.toList]
 refine zaf (zeK n xs p) ?_
 simp (maxSteps:=5000000) -dsimp only [↓gp,gq,reduceCtorEq,reduceEqDiff,reduceLT,reduceLeDiff,reduceAdd,reduceMul,reduceSub,Nat.reduceBEq,Int.reduceToNat,Int.reduceLE,Int.reduceLT,Int.reduceNeg,reduceMod,zac,zad,zab,zaa,gT,TK.isInt,TK.agg,Array.toList]
 refine zaf (ziB n xs (by omega)) ?_
 unfold zhr
 simp (maxSteps:=5000000) -dsimp only [↓gp,gq,reduceCtorEq,reduceEqDiff,reduceLT,reduceLeDiff,reduceAdd,reduceMul,reduceSub,Nat.reduceBEq,Int.reduceToNat,Int.reduceLE,Int.reduceLT,Int.reduceNeg,reduceMod,zac,zad,zab,zaa,gT,TK.isInt,TK.agg,Array.toList]
 refine zaf (ziA n xs (by omega)) ?_
 unfold zhr
 simp (maxSteps:=5000000) -dsimp only [↓gp,gq,reduceCtorEq,reduceEqDiff,reduceLT,reduceLeDiff,reduceAdd,reduceMul,reduceSub,Nat.reduceBEq,Int.reduceToNat,Int.reduceLE,Int.reduceLT,Int.reduceNeg,reduceMod,zac,zad,zab,zaa,gT,TK.isInt,TK.agg,Array.toList]
 refine zaf (zf1 n xs) ?_
 simp (maxSteps:=5000000) -dsimp only [↓gp,gq,reduceCtorEq,reduceEqDiff,reduceLT,reduceLeDiff,reduceAdd,reduceMul,reduceSub,Nat.reduceBEq,Int.reduceToNat,Int.reduceLE,Int.reduceLT,Int.reduceNeg,reduceMod,zac,zad,zab,zaa,gT,TK.isInt,TK.agg,Array.toList]
 refine zaf (zhl n xs (by omega)) ?_
 simp (maxSteps:=5000000) -dsimp only [↓gp,gq,reduceCtorEq,reduceEqDiff,reduceLT,reduceLeDiff,reduceAdd,reduceMul,reduceSub,Nat.reduceBEq,Int.reduceToNat,Int.reduceLE,Int.reduceLT,Int.reduceNeg,reduceMod,zac,zad,zab,zaa,gT,TK.isInt,TK.agg,Array.toList]
 refine zaf (zgm n xs (by omega)) ?_
 simp (maxSteps:=5000000) -dsimp only [↓gp,gq,reduceCtorEq,reduceEqDiff,reduceLT,reduceLeDiff,reduceAdd,reduceMul,reduceSub,Nat.reduceBEq,Int.reduceToNat,Int.reduceLE,Int.reduceLT,Int.reduceNeg,reduceMod,zac,zad,zab,zaa,gT,TK.isInt,TK.agg,Array.toList]
 refine ⟨by kernel_rfl,zaf (zeJ n xs p) ?_⟩
 simp (maxSteps:=5000000) -dsimp only [↓gp,gq,reduceCtorEq,reduceEqDiff,reduceLT,reduceLeDiff,reduceAdd,reduceMul,reduceSub,Nat.reduceBEq,Int.reduceToNat,Int.reduceLE,Int.reduceLT,Int.reduceNeg,reduceMod,zac,zad,zab,zaa,gT,TK.isInt,TK.agg,Array.toList,zbA,zcT,bne_self_eq_false,beq_self_eq_true,zbz,zdJ,zcR,zdK]
 refine zaf (ziX _ _ _ _) ?_
 simp (maxSteps:=5000000) -dsimp only [↓gp,gq,reduceCtorEq,reduceEqDiff,reduceLT,reduceLeDiff,reduceAdd,reduceMul,reduceSub,Nat.reduceBEq,Int.reduceToNat,Int.reduceLE,Int.reduceLT,Int.reduceNeg,reduceMod,zac,zad,zab,zaa,gT,TK.isInt,TK.agg,Array.toList,zbA,zcT,bne_self_eq_false,beq_self_eq_true,zbz,zdJ,zcR,zdK]
 refine zaf (zf0 n xs) ?_
 simp (maxSteps:=5000000) -dsimp only [↓gp,gq,reduceCtorEq,reduceEqDiff,reduceLT,reduceLeDiff,reduceAdd,reduceMul,reduceSub,Nat.reduceBEq,Int.reduceToNat,Int.reduceLE,Int.reduceLT,Int.reduceNeg,reduceMod,zac,zad,zab,zaa,gT,TK.isInt,TK.agg,Array.toList,zbA,zcT,bne_self_eq_false,beq_self_eq_true,zbz,zdJ,zcR,zdK]
 refine zaf (zdy _ _) ?_
 simp (maxSteps:=5000000) -dsimp only [↓gp,gq,reduceCtorEq,reduceEqDiff,reduceLT,reduceLeDiff,reduceAdd,reduceMul,reduceSub,Nat.reduceBEq,Int.reduceToNat,Int.reduceLE,Int.reduceLT,Int.reduceNeg,reduceMod,zac,zad,zab,zaa,gT,TK.isInt,TK.agg,Array.toList,zbA,zcT,bne_self_eq_false,beq_self_eq_true,zbz,zdJ,zcR,zdK]
 refine zaf (zhk n xs (by omega)) ?_
 simp (maxSteps:=5000000) -dsimp only [↓gp,gq,reduceCtorEq,reduceEqDiff,reduceLT,reduceLeDiff,reduceAdd,reduceMul,reduceSub,Nat.reduceBEq,Int.reduceToNat,Int.reduceLE,Int.reduceLT,Int.reduceNeg,reduceMod,zac,zad,zab,zaa,gT,TK.isInt,TK.agg,Array.toList,zbA,zcT,bne_self_eq_false,beq_self_eq_true,zbz,zdJ,zcR,zdK]
 refine zaf (zgl n xs (by omega)) ?_
 simp (maxSteps:=5000000) -dsimp only [↓gp,gq,reduceCtorEq,reduceEqDiff,reduceLT,reduceLeDiff,reduceAdd,reduceMul,reduceSub,Nat.reduceBEq,Int.reduceToNat,Int.reduceLE,Int.reduceLT,Int.reduceNeg,reduceMod,zac,zad,zab,zaa,gT,TK.isInt,TK.agg,Array.toList,zbA,zcT,bne_self_eq_false,beq_self_eq_true,zbz,zdJ,zcR,zdK]
 refine zaf (zb6 n xs p) ?_
 simp (maxSteps:=5000000) -dsimp only [↓gp,gq,reduceCtorEq,reduceEqDiff,reduceLT,reduceLeDiff,reduceAdd,reduceMul,reduceSub,Nat.reduceBEq,Int.reduceToNat,Int.reduceLE,Int.reduceLT,Int.reduceNeg,reduceMod,zac,zad,zab,zaa,gT,TK.isInt,TK.agg,Array.toList,zbA,zcT,bne_self_eq_false,beq_self_eq_true,zbz,zdJ,zcR,zdK]
 refine zaf (zfz n xs p) ?_
 simp (maxSteps:=5000000) -dsimp only [↓gp,gq,reduceCtorEq,reduceEqDiff,reduceLT,reduceLeDiff,reduceAdd,reduceMul,reduceSub,Nat.reduceBEq,Int.reduceToNat,Int.reduceLE,Int.reduceLT,Int.reduceNeg,reduceMod,zac,zad,zab,zaa,gT,TK.isInt,TK.agg,Array.toList,zbA,zcT,bne_self_eq_false,beq_self_eq_true,zbz,zdJ,zcR,zdK]
 refine ⟨by kernel_rfl,fun h0=>?_,fun h0=>?_⟩
 ·have hg:¬ zar n xs = true:=fun h=>by rw [h] at h0;cases h0
  have e1:zhj n xs = -1:=if_neg hg
  have e2:zgk n xs = -1:=if_neg hg
  have e3:zg1 n xs = []:=if_neg hg
  rw [e1,e2,e3]
  simp
 ·have hg:zar n xs = true:=by simpa using h0
  obtain ⟨m,rfl,h1,h6,_⟩:=zcM (zaC.1 hg)
  have hcx:=zCU hg
  have hv:zg1 (m:Int) xs = zAW m xs:=if_pos hg
  have hma:zhj (m:Int) xs = zew xs 0:=if_pos hg
  have hap:zgk (m:Int) xs = Go.Abs.mostP (nrI xs m) xs 0:=if_pos hg
  have hle:=zBz (p:=2) rfl hg
  rw [if_pos hg,if_pos hg]
  refine zaf (zjv _ _) ?_
  rw [if_pos hcx,Int.toNat_natCast,← hv]
  simp (maxSteps:=5000000) -dsimp only [↓gp,gq,reduceCtorEq,reduceEqDiff,reduceLT,reduceLeDiff,reduceAdd,reduceMul,reduceSub,Nat.reduceBEq,Int.reduceToNat,Int.reduceLE,Int.reduceLT,Int.reduceNeg,reduceMod,zac,zad,zab,zaa,gT,TK.isInt,TK.agg,Array.toList]
  have hse:=zdy (zg1 (m:Int) xs) (zg1 (m:Int) xs)
  rw [zbA] at hse
  refine zaf hse ?_
  have hnm:(zhj (m:Int) xs < zgk (m:Int) xs) = False:=eq_false (by omega)
  simp (maxSteps:=5000000) -dsimp only [↓gp,gq,reduceCtorEq,reduceEqDiff,reduceLT,reduceLeDiff,reduceAdd,reduceMul,reduceSub,Nat.reduceBEq,Int.reduceToNat,Int.reduceLE,Int.reduceLT,Int.reduceNeg,reduceMod,zac,zad,zab,zaa,gT,TK.isInt,TK.agg,Array.toList,hnm]
  have hvl:=zAZ (m:Int) xs
  have hcs:=zAd hg
  rw [← hv,← hma] at hcs
  refine zan (fun (k:Nat) s=>s.sl 3 = .ref 3 1 0∧s.rw 3 = ⟨1,.box 36 [int m,.own 20 1]⟩∧s.rw 20 = ⟨1,.sli 3 1 false (iL xs)⟩∧s.sl 4 = int p∧s.sl 5 = int (zhR m xs p)∧s.sl 10 = .own 37 1∧s.rw 37 = ⟨1,.sli 3 1 false (iL (zg1 m xs))⟩∧s.sl 11 = int (zhj m xs)∧s.sl 12 = int (zgk m xs)∧s.sl 13 = int k∧(k ≤ (zg1 (m:Int) xs).length)) (fun k=>(zg1 (m:Int) xs).length - k) (0) (by refine ⟨?_,?_,?_,?_,?_,?_,?_,?_,?_,?_,Nat.zero_le _⟩ <;> (first | (simp (maxSteps:=5000000) -dsimp only [gr,reduceEqDiff,reduceLT,reduceAdd,reduceMod,Nat.reduceBEq,zaa,zac,zad,zab];first | done | rfl | (simp;done)) | assumption | rfl)) ?_
  intro k sa ⟨h3a,r3a,r20a,h4a,h5a,h10a,r37a,h11a,h12a,h13a,hIa⟩
  simp (maxSteps:=5000000) -dsimp only [↓gp,gq,reduceCtorEq,reduceEqDiff,reduceLT,reduceLeDiff,reduceAdd,reduceMul,reduceSub,Nat.reduceBEq,Int.reduceToNat,Int.reduceLE,Int.reduceLT,Int.reduceNeg,reduceMod,zac,zad,zab,zaa,gT,TK.isInt,TK.agg,Array.toList,h3a,r3a,r20a,h4a,h5a,h10a,r37a,h11a,h12a,h13a]
  refine ⟨fun hk=>?_,fun hk=>?_⟩
  ·obtain ⟨s,e1,e2,e3⟩:=hcs _ (zaD 0 hk)
   refine ⟨hk,hk,?_⟩
   rw [e1]
   refine zaf (zog s e2) ?_
   simp (maxSteps:=5000000) -dsimp only [↓gp,gq,reduceCtorEq,reduceEqDiff,reduceLT,reduceLeDiff,reduceAdd,reduceMul,reduceSub,Nat.reduceBEq,Int.reduceToNat,Int.reduceLE,Int.reduceLT,Int.reduceNeg,reduceMod,zac,zad,zab,zaa,gT,TK.isInt,TK.agg,Array.toList,h3a,r3a,r20a,h4a,h5a,h10a,r37a,h11a,h12a,h13a]
   refine ⟨fun h=>absurd h (by omega),fun _=>?_⟩
   exact zag (k + 1) (by refine ⟨?_,?_,?_,?_,?_,?_,?_,?_,?_,?_,by omega⟩ <;> (first | (simp (maxSteps:=5000000) -dsimp only [gr,reduceEqDiff,reduceLT,reduceAdd,reduceMod,Nat.reduceBEq,zaa,zac,zad,zab,h3a,r3a,r20a,h4a,h5a,h10a,r37a,h11a,h12a,h13a,zae hk (show (zg1 (m:Int) xs).length ≤ 9223372036854775807 by omega)];first | done | rfl | (simp;done)) | assumption | rfl)) (by first | omega | (simp only;omega) | (dsimp only;omega) | (show _ < _;simp;omega))
  ·refine zaf (zbH p) ?_
   simp (maxSteps:=5000000) -dsimp only [↓gp,gq,reduceCtorEq,reduceEqDiff,reduceLT,reduceLeDiff,reduceAdd,reduceMul,reduceSub,Nat.reduceBEq,Int.reduceToNat,Int.reduceLE,Int.reduceLT,Int.reduceNeg,reduceMod,zac,zad,zab,zaa,gT,TK.isInt,TK.agg,Array.toList,h3a,r3a,r20a,h4a,h5a,h10a,r37a,h11a,h12a,h13a]
   refine ⟨fun hp=>?_,fun hp=>?_⟩
   ·have hp:isP p = false:=by simpa using hp
    have:zhR (m:Int) xs p = -1:=by
     unfold zhR
     rw [if_pos hg]
     unfold zCO
     rw [zfe (fun h=>by rw [h.2] at hp;cases hp)];rfl
    rw [this];rfl
   ·have hp:isP p = true:=by simpa using hp
    obtain ⟨q,rfl,hq⟩:=zEb hp
    haveI:NeZero q:=⟨hq⟩
    have hrq:=zBz (p:=q) hp hg
    have hch:=zve (p:=q) hp hg
    refine zaf (zhq _ _) ?_
    rw [hg]
    have n1:(zhR (m:Int) xs q < zgk (m:Int) xs) = False:=eq_false (by omega)
    have n2:(zhj (m:Int) xs < zhR (m:Int) xs q) = False:=eq_false (by omega)
    simp (maxSteps:=5000000) -dsimp only [↓gp,gq,reduceCtorEq,reduceEqDiff,reduceLT,reduceLeDiff,reduceAdd,reduceMul,reduceSub,Nat.reduceBEq,Int.reduceToNat,Int.reduceLE,Int.reduceLT,Int.reduceNeg,reduceMod,zac,zad,zab,zaa,gT,TK.isInt,TK.agg,Array.toList,h3a,r3a,r20a,h4a,h5a,h10a,r37a,h11a,h12a,h13a,n1,n2]
    refine ⟨by kernel_rfl,fun h=>?_,fun h=>⟨fun h'=>?_,fun h'=>?_⟩⟩
    ·have hx0:zCN (m:Int) xs q = false:=by
      have:¬ 0 < xs.length:=by
       have:=eq_of_beq h
       omega
      unfold zCN
      rw [decide_eq_false this];simp
     refine zaf (zb6 _ _ _) ?_
     rw [hx0]
     simp (maxSteps:=5000000) -dsimp only [↓gp,gq,reduceCtorEq,reduceEqDiff,reduceLT,reduceLeDiff,reduceAdd,reduceMul,reduceSub,Nat.reduceBEq,Int.reduceToNat,Int.reduceLE,Int.reduceLT,Int.reduceNeg,reduceMod,zac,zad,zab,zaa,gT,TK.isInt,TK.agg,Array.toList,h3a,r3a,r20a,h4a,h5a,h10a,r37a,h11a,h12a,h13a]
    ·have hlc:zCN (m:Int) xs q = chR (zEz (m:Int) xs) (zEy (m:Int) xs):=by
      unfold zCN
      rw [hg,hch,decide_eq_true (by omega)];rfl
     refine zaf (zb6 _ _ _) ?_
     simp (maxSteps:=5000000) -dsimp only [↓gp,gq,reduceCtorEq,reduceEqDiff,reduceLT,reduceLeDiff,reduceAdd,reduceMul,reduceSub,Nat.reduceBEq,Int.reduceToNat,Int.reduceLE,Int.reduceLT,Int.reduceNeg,reduceMod,zac,zad,zab,zaa,gT,TK.isInt,TK.agg,Array.toList,h3a,r3a,r20a,h4a,h5a,h10a,r37a,h11a,h12a,h13a]
     refine zaf (ziw _ _) ?_
     rw [hlc]
     simp (maxSteps:=5000000) -dsimp only [↓gp,gq,reduceCtorEq,reduceEqDiff,reduceLT,reduceLeDiff,reduceAdd,reduceMul,reduceSub,Nat.reduceBEq,Int.reduceToNat,Int.reduceLE,Int.reduceLT,Int.reduceNeg,reduceMod,zac,zad,zab,zaa,gT,TK.isInt,TK.agg,Array.toList,h3a,r3a,r20a,h4a,h5a,h10a,r37a,h11a,h12a,h13a]
    ·have:xs.length ≠ 0:=fun e=>by rw [e] at h;cases h
     omega
end Go.Proofs.YtpnknaaehcljoaaGreat
