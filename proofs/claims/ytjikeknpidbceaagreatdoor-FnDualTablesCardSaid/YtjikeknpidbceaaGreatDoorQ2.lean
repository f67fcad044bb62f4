/- DERIVED by an AI agent. -/
import Derived.Test.YtjikeknpidbceaaGreatDoorQ1
import Derived.Test.YtjikeknpidbceaaGreatDoorP1
namespace Go.Proofs.YtjikeknpidbceaaGreatDoor
open Go.Abs
open Nat (reduceEqDiff reduceMod reduceAdd reduceLT reduceLeDiff reduceSub reduceMul)
set_option linter.unusedSimpArgs false
set_option linter.unusedVariables false
def okS (xs:List Int):Prop:=∀ x ∈ xs,0 ≤ x∧x < 64
theorem zo2 {xs:List Int} (h:okS xs) {k:Nat} (hk:k < xs.length):0 ≤ xs.getD k 0∧xs.getD k 0 < 64:=h _ (zax 0 hk)
theorem zdZ {n:Int} {xs:List Int} (h:zcV n xs = true):okS xs:=fun x hx=>by
 obtain ⟨i,hi,rfl⟩:=zcN 0 hx
 exact zfz ((za7.1 h).2.2 i hi).1
theorem zo3 {x:Int} (hx:0 ≤ x∧x < 64) {s:Nat} (hs:s < 64):(zdI .i64 x (s:Int) == (s:Int)) = (x.toNat &&& s == s):=by
 have e:x = ((x.toNat:Nat):Int):=by omega
 rw [e,zbF (by omega) (by omega)]
 have:((x.toNat:Nat):Int).toNat = x.toNat:=by omega
 rw [this]
 cases h:(x.toNat &&& s == s) with
 | true=>rw [beq_iff_eq] at h;rw [h];simp
 | false =>
   have h:=beq_eq_false_iff_ne.1 h
   rw [beq_eq_false_iff_ne]
   exact fun e=>h (by omega)
theorem zia (n:Int) (xs:List Int) (u:Nat) (hx:okS xs) (hs:u < 64):AC Tryz.prog 50 [.ag [int n,zbr xs],int u] (.im (bool (zag xs u))):=by
 refine AC.go (rs:=[.tmp 4]) za0 mixed Tryz.func50 rfl rfl rfl (by kernel_rfl) fun hl=>?_
 simp only [zaT,zbg,and_true,zbK,zcZ,zb2,zhI,true_and] at hl
 simp (maxSteps:=9^7) -dsimp only [↓gp,gq,reduceCtorEq,reduceEqDiff,reduceLT,reduceLeDiff,reduceAdd,reduceMul,reduceSub,Nat.reduceBEq,Int.reduceToNat,Int.reduceLE,Int.reduceLT,Int.reduceNeg,reduceMod,gT]
 refine zan (fun (k:Nat) s=>s.sl 1 = int u∧s.sl 2 = .ref 2 1 0∧s.rw 2 = ⟨1,.box 26 [int n,zbr xs]⟩∧s.sl 5 = int k∧(k ≤ xs.length∧∀ i,i < k→((xs.getD i 0).toNat &&& u == u) = false)) (fun k=>xs.length - k) (0) (by refine ⟨?_,?_,?_,?_,by simp⟩ <;> (first | (simp (maxSteps:=9^7) -dsimp only [gr,reduceEqDiff,reduceLT,reduceAdd,reduceMod,Nat.reduceBEq];first | done | rfl | (simp;done)) | assumption | rfl)) ?_
 intro k sa ⟨h1a,h2a,r2a,h5a,hIa⟩
 obtain ⟨hk,hall⟩:=hIa
 simp (maxSteps:=9^7) -dsimp only [↓gp,gq,reduceCtorEq,reduceEqDiff,reduceLT,reduceLeDiff,reduceAdd,reduceMul,reduceSub,Nat.reduceBEq,Int.reduceToNat,Int.reduceLE,Int.reduceLT,Int.reduceNeg,reduceMod,gT,h1a,h2a,r2a,h5a]
 refine ⟨fun h=>⟨h,h,fun he=>?_,fun he=>zac (k + 1) ⟨(by (first | (simp (maxSteps:=9^7) -dsimp only [gr,reduceEqDiff,reduceLT,reduceAdd,reduceMod,Nat.reduceBEq,h1a,h2a,r2a,h5a,zaa h hl];first | done | rfl | (simp;done)) | assumption | rfl)),(by (first | (simp (maxSteps:=9^7) -dsimp only [gr,reduceEqDiff,reduceLT,reduceAdd,reduceMod,Nat.reduceBEq,h1a,h2a,r2a,h5a,zaa h hl];first | done | rfl | (simp;done)) | assumption | rfl)),(by (first | (simp (maxSteps:=9^7) -dsimp only [gr,reduceEqDiff,reduceLT,reduceAdd,reduceMod,Nat.reduceBEq,h1a,h2a,r2a,h5a,zaa h hl];first | done | rfl | (simp;done)) | assumption | rfl)),(by (first | (simp (maxSteps:=9^7) -dsimp only [gr,reduceEqDiff,reduceLT,reduceAdd,reduceMod,Nat.reduceBEq,h1a,h2a,r2a,h5a,zaa h hl];first | done | rfl | (simp;done)) | assumption | rfl)),⟨by omega,fun i hi=>?_⟩⟩ (by first | omega | (simp only;omega) | (dsimp only;omega) | (show _ < _;simp;omega))⟩,fun h=>?_⟩
 ·rw [zo3 (zo2 hx h) hs] at he
  exact zbz.2 ⟨_,zax 0 h,by simpa using he⟩
 ·rw [zo3 (zo2 hx h) hs] at he
  rcases Nat.lt_succ_iff_lt_or_eq.1 hi with hi | rfl
  ·exact hall i hi
  ·exact he
 ·cases hf:zag xs u with
  | false=>rfl
  | true =>
    obtain ⟨x,hx',hx2⟩:=zbz.1 hf
    obtain ⟨i,hi,rfl⟩:=zcN 0 hx'
    have:=hall i (by omega)
    rw [hx2] at this
    simp at this
noncomputable def zbT (n:Int) (xs:List Int) (s:Nat):Bool:=zcV n xs && zag xs s
theorem znG (l:List Nat) (s:Nat):inF (ofN l) s = decide (s ∈ l):=by
 unfold inF ofN
 refine decide_eq_decide.2 ?_
 simp only [List.mem_map]
 exact ⟨fun ⟨a,h1,h2⟩=>by have:a = s:=by omega
                          exact this ▸ h1,fun h=>⟨s,h,rfl⟩⟩
theorem zxp {l:List Nat} (h:∀ s ∈ l,s < 64):∀ x ∈ ofN l,0 ≤ x∧x < 64:=fun x hx=>by
 obtain ⟨s,hs,rfl⟩:=List.mem_map.1 hx
 have:=h s hs
 omega
theorem zcJ (n:Int) (xs:List Int):AC Tryz.prog 40 [.ag [int n,zbr xs]] (.fr 3 1 (iL (ofN (za2 (zbT n xs))))):=by
 refine AC.go (rs:=[.tmp 2]) za0 mixed Tryz.func40 rfl rfl rfl (by kernel_rfl) fun hl=>?_
 simp (maxSteps:=9^7) -dsimp only [↓gp,gq,reduceCtorEq,reduceEqDiff,reduceLT,reduceLeDiff,reduceAdd,reduceMul,reduceSub,Nat.reduceBEq,Int.reduceToNat,Int.reduceLE,Int.reduceLT,Int.reduceNeg,reduceMod,gT]
 have fin:∀ m,m = 64→za2 (inF (ofN ((List.range m).filter (zbT n xs)))) = za2 (zbT n xs):=fun m hm=>by
  refine zd9 fun s hs=>?_
  rw [znG,hm]
  cases h:zbT n xs s <;> simp [h,hs]
 have hmem:∀ m,m ≤ 64→∀ s ∈ (List.range m).filter (zbT n xs),s < 64:=fun m hm s hs=>by
  have:=List.mem_range.1 (List.mem_filter.1 hs).1;omega
 refine zan (fun (za:Nat × Nat) s=>match za with | (m,v)=>s.sl 1 = .ref 1 1 0∧s.rw 1 = ⟨1,.box 26 [int n,zbr xs]⟩∧s.sl 3 = .own 5 v∧s.rw 5 = ⟨v,.sli 3 1 false (iL (ofN ((List.range m).filter (zbT n xs))))⟩∧s.sl 4 = int m∧(m ≤ 64)) (fun (m,v)=>64 - m) ((0,1)) (by refine ⟨?_,?_,?_,?_,?_,by simp⟩ <;> (first | (simp (maxSteps:=9^7) -dsimp only [gr,reduceEqDiff,reduceLT,reduceAdd,reduceMod,Nat.reduceBEq];first | done | rfl | (simp;done)) | assumption | rfl)) ?_
 intro (m,v) sa ⟨h1a,r1a,h3a,r5a,h4a,hIa⟩
 have hflen:((List.range m).filter (zbT n xs)).length ≤ 64:=by
  have:=List.length_filter_le (zbT n xs) (List.range m);rw [List.length_range] at this;omega
 simp (maxSteps:=9^7) -dsimp only [↓gp,gq,reduceCtorEq,reduceEqDiff,reduceLT,reduceLeDiff,reduceAdd,reduceMul,reduceSub,Nat.reduceBEq,Int.reduceToNat,Int.reduceLE,Int.reduceLT,Int.reduceNeg,reduceMod,gT,h1a,r1a,h3a,r5a,h4a]
 refine ⟨fun h=>zab (zbM n xs) ?_,fun h=>?_⟩
 ·simp (maxSteps:=9^7) -dsimp only [↓gp,gq,reduceCtorEq,reduceEqDiff,reduceLT,reduceLeDiff,reduceAdd,reduceMul,reduceSub,Nat.reduceBEq,Int.reduceToNat,Int.reduceLE,Int.reduceLT,Int.reduceNeg,reduceMod,gT,h1a,r1a,h3a,r5a,h4a]
  have hm:m < 64:=by omega
  refine ⟨fun hc=>zab (zia n xs m (zdZ hc) hm) ?_,fun hc=>zab (zdU _ (zxp (hmem m hIa))) ?_⟩
  ·simp (maxSteps:=9^7) -dsimp only [↓gp,gq,reduceCtorEq,reduceEqDiff,reduceLT,reduceLeDiff,reduceAdd,reduceMul,reduceSub,Nat.reduceBEq,Int.reduceToNat,Int.reduceLE,Int.reduceLT,Int.reduceNeg,reduceMod,gT,h1a,r1a,h3a,r5a,h4a,zae]
   refine ⟨fun hf=>?_,fun hf=>?_⟩
   ·have e:(List.range (m + 1)).filter (zbT n xs) = (List.range m).filter (zbT n xs) ++ [m]:=by
     rw [List.range_succ,List.filter_append]
     simp [zbT,hc,hf]
    refine ⟨by omega,?_⟩
    exact zac ((m + 1,v + 1)) (by refine ⟨?_,?_,?_,?_,?_,by dsimp only;omega⟩ <;> (first | (simp (maxSteps:=9^7) -dsimp only [gr,reduceEqDiff,reduceLT,reduceAdd,reduceMod,Nat.reduceBEq,h1a,r1a,h3a,r5a,h4a,zaa hm (by omega),e,za1,zdx];first | done | rfl | (simp;done)) | assumption | rfl)) (by first | omega | (simp only;omega) | (dsimp only;omega) | (show _ < _;simp;omega))
   ·have e:(List.range (m + 1)).filter (zbT n xs) = (List.range m).filter (zbT n xs):=by
     rw [List.range_succ,List.filter_append]
     simp [zbT,hc,hf]
    exact zac ((m + 1,v)) (by refine ⟨?_,?_,?_,?_,?_,by dsimp only;omega⟩ <;> (first | (simp (maxSteps:=9^7) -dsimp only [gr,reduceEqDiff,reduceLT,reduceAdd,reduceMod,Nat.reduceBEq,h1a,r1a,h3a,r5a,h4a,zaa hm (by omega),e];first | done | rfl | (simp;done)) | assumption | rfl)) (by first | omega | (simp only;omega) | (dsimp only;omega) | (show _ < _;simp;omega))
  ·simp (maxSteps:=9^7) -dsimp only [↓gp,gq,reduceCtorEq,reduceEqDiff,reduceLT,reduceLeDiff,reduceAdd,reduceMul,reduceSub,Nat.reduceBEq,Int.reduceToNat,Int.reduceLE,Int.reduceLT,Int.reduceNeg,reduceMod,gT,h1a,r1a,h3a,r5a,h4a]
   have e1:(List.range m).filter (zbT n xs) = []:=by
    rw [List.filter_eq_nil_iff];intro s _;simp [zbT,hc]
   have e2:za2 (zbT n xs) = za2 (inF (ofN [])):=zd9 fun s _=>by rw [znG];simp [zbT,hc]
   rw [e1,e2]
 ·have:m = 64:=by omega
  refine zab (zdU _ (zxp (hmem m hIa))) ?_
  simp (maxSteps:=9^7) -dsimp only [↓gp,gq,reduceCtorEq,reduceEqDiff,reduceLT,reduceLeDiff,reduceAdd,reduceMul,reduceSub,Nat.reduceBEq,Int.reduceToNat,Int.reduceLE,Int.reduceLT,Int.reduceNeg,reduceMod,gT,h1a,r1a,h3a,r5a,h4a]
  rw [fin m this]
theorem zl3 {f:Nat→Bool} {k:Nat} (h:k < (za2 f).length):(za2 f).getD k 0 < 64:=(za6.1 (zax 0 h)).1
theorem zgG (n:Int) (xs:List Int) (k:Int):AC Tryz.prog 98 [.ag [int n,zbr xs],int k] (.fr 3 1 (iL (ofN ((za2 (zbT n xs)).filter fun s=>(zak s:Int) == k)))):=by
 refine AC.go (rs:=[.tmp 4]) za0 mixed Tryz.func98 rfl rfl rfl (by kernel_rfl) fun hl=>?_
 simp (maxSteps:=9^7) -dsimp only [↓gp,gq,reduceCtorEq,reduceEqDiff,reduceLT,reduceLeDiff,reduceAdd,reduceMul,reduceSub,Nat.reduceBEq,Int.reduceToNat,Int.reduceLE,Int.reduceLT,Int.reduceNeg,reduceMod,gT]
 refine zab (zcJ n xs) ?_
 simp (maxSteps:=9^7) -dsimp only [↓gp,gq,reduceCtorEq,reduceEqDiff,reduceLT,reduceLeDiff,reduceAdd,reduceMul,reduceSub,Nat.reduceBEq,Int.reduceToNat,Int.reduceLE,Int.reduceLT,Int.reduceNeg,reduceMod,gT]
 have hfull:=zdd (zbT n xs)
 have hmem:∀ i,i < (za2 (zbT n xs)).length→(za2 (zbT n xs)).getD i 0 < 64:=fun i h=>zl3 h
 generalize za2 (zbT n xs) = all at *
 refine zan (fun (za:Nat × Nat × Nat) s=>match za with | (i,v,u)=>s.sl 1 = int k∧s.sl 5 = .own 8 v∧s.rw 8 = ⟨v,.sli 3 1 false (iL (ofN ((all.take i).filter fun s=>(zak s:Int) == k)))⟩∧s.sl 6 = .own 10 u∧s.rw 10 = ⟨u,.sli 3 1 false (iL (ofN all))⟩∧s.sl 7 = int i∧(i ≤ all.length)) (fun (i,v,u)=>all.length - i) ((0,1,1)) (by refine ⟨?_,?_,?_,?_,?_,?_,by simp⟩ <;> (first | (simp (maxSteps:=9^7) -dsimp only [gr,reduceEqDiff,reduceLT,reduceAdd,reduceMod,Nat.reduceBEq];first | done | rfl | (simp;done)) | assumption | rfl)) ?_
 intro (i,v,u) sa ⟨h1a,h5a,r8a,h6a,r10a,h7a,hIa⟩
 have hfl:((all.take i).filter fun s=>(zak s:Int) == k).length ≤ i:=by
  have:=List.length_filter_le (fun s=>(zak s:Int) == k) (all.take i);rw [List.length_take] at this;omega
 simp (maxSteps:=9^7) -dsimp only [↓gp,gq,reduceCtorEq,reduceEqDiff,reduceLT,reduceLeDiff,reduceAdd,reduceMul,reduceSub,Nat.reduceBEq,Int.reduceToNat,Int.reduceLE,Int.reduceLT,Int.reduceNeg,reduceMod,gT,h1a,h5a,r8a,h6a,r10a,h7a,zae]
 refine ⟨fun h=>?_,fun h=>?_⟩
 ·have hi:=hmem i h
  have hge:(ofN all).getD i 0 = ((all.getD i 0:Nat):Int):=zaK h
  rw [hge]
  refine ⟨h,h,zab (zaE _ (by omega)) ?_⟩
  simp (maxSteps:=9^7) -dsimp only [↓gp,gq,reduceCtorEq,reduceEqDiff,reduceLT,reduceLeDiff,reduceAdd,reduceMul,reduceSub,Nat.reduceBEq,Int.reduceToNat,Int.reduceLE,Int.reduceLT,Int.reduceNeg,reduceMod,gT,h1a,h5a,r8a,h6a,r10a,h7a,zae,hge]
  refine ⟨fun hp=>⟨h,h,by omega,?_⟩,fun hp=>?_⟩
  ·have e:(all.take (i + 1)).filter (fun s=>(zak s:Int) == k) = (all.take i).filter (fun s=>(zak s:Int) == k) ++ [all.getD i 0]:=zi3 h hp
   exact zac ((i + 1,v + 1,u)) (by refine ⟨?_,?_,?_,?_,?_,?_,by dsimp only;omega⟩ <;> (first | (simp (maxSteps:=9^7) -dsimp only [gr,reduceEqDiff,reduceLT,reduceAdd,reduceMod,Nat.reduceBEq,h1a,h5a,r8a,h6a,r10a,h7a,zaa h (by omega),e,za1,zdx,hge];first | done | rfl | (simp;done)) | assumption | rfl)) (by first | omega | (simp only;omega) | (dsimp only;omega) | (show _ < _;simp;omega))
  ·have e:(all.take (i + 1)).filter (fun s=>(zak s:Int) == k) = (all.take i).filter (fun s=>(zak s:Int) == k):=znH h hp
   exact zac ((i + 1,v,u)) (by refine ⟨?_,?_,?_,?_,?_,?_,by dsimp only;omega⟩ <;> (first | (simp (maxSteps:=9^7) -dsimp only [gr,reduceEqDiff,reduceLT,reduceAdd,reduceMod,Nat.reduceBEq,h1a,h5a,r8a,h6a,r10a,h7a,zaa h (by omega),e];first | done | rfl | (simp;done)) | assumption | rfl)) (by first | omega | (simp only;omega) | (dsimp only;omega) | (show _ < _;simp;omega))
 ·have:i = all.length:=by omega
  rw [this,List.take_length]
theorem zrX (f:Nat→Bool) (k:Nat):(za2 f).filter (fun s=>(zak s:Int) == (k:Int)) = zaC f k 64:=by
 rw [← zk3 f k]
 refine List.filter_congr fun s _=>?_
 cases h:(zak s == k) with
 | true=>have:=beq_iff_eq.1 h;simp [this]
 | false=>have:=beq_eq_false_iff_ne.1 h;rw [beq_eq_false_iff_ne];exact fun e=>this (by omega)
theorem zdm (n:Int) (xs:List Int) (k:Nat):AC Tryz.prog 98 [.ag [int n,zbr xs],int k] (.fr 3 1 (iL (ofN (zaC (zbT n xs) k 64)))):=by
 have:=zgG n xs k
 rwa [zrX] at this
theorem zdh (w:Nat→Bool) {G:Nat} (hF:G < 2 ^ 64) (h:∀ s,s < 64→G.testBit s = w s):G = zaB w 64:=by
 refine Nat.eq_of_testBit_eq fun s=>?_
 rw [zfb]
 by_cases hs:s < 64
 ·rw [h s hs];simp [hs]
 ·have:G.testBit s = false:=Nat.testBit_lt_two_pow (Nat.lt_of_lt_of_le hF (Nat.pow_le_pow_right (by omega) (by omega)))
  simp [this,hs]
theorem zbm (w:Nat→Bool) {s:Nat} (h:s < 64):(zaB w 64).testBit s = w s:=by rw [zfb];simp [h]
theorem zfr {w w':Nat→Bool} (h:∀ s,s < 64→w s = w' s):zaB w 64 = zaB w' 64 :=
 zdh w' (zbh w 64) fun s hs=>by rw [zbm w hs,h s hs]
theorem zD9 (w w':Nat→Bool):zaB w 64 ||| zaB w' 64 = zaB (fun s=>w s || w' s) 64 :=
 zdh _ (Nat.or_lt_two_pow (zbh w 64) (zbh w' 64)) fun s hs=>by rw [Nat.testBit_or,zbm w hs,zbm w' hs]
theorem zBr (w w':Nat→Bool):zaB w 64 &&& zaB w' 64 = zaB (fun s=>w s && w' s) 64 :=
 zdh _ (Nat.lt_of_le_of_lt Nat.and_le_left (zbh w 64)) fun s hs=>by rw [Nat.testBit_and,zbm w hs,zbm w' hs]
theorem zvW (w:Nat→Bool) {t:Nat} (ht:t < 64):zaB w 64 ||| 2 ^ t = zaB (fun s=>w s || s == t) 64 :=
 zdh _ (Nat.or_lt_two_pow (zbh w 64) (Nat.pow_lt_pow_right (by omega) ht)) fun s hs=>by
  rw [Nat.testBit_or,zbm w hs,Nat.testBit_two_pow]
  congr 1
  by_cases e:t = s
  ·simp [e]
  ·simp [e];exact fun h=>e h.symm
theorem zo1:zaB (fun _=>false) 64 = 0:=(zdh (G:=0) (fun _=>false) (by omega) (fun s _=>by simp)).symm
def zly (u:Nat) (t:Nat):Bool:=u &&& t == t
theorem zdl (u:Nat) (hu:u < 64):AC Tryz.prog 69 [int u] (.im (u64 (zaB (zly u) 64:Nat))):=by
 refine AC.go (rs:=[.tmp 2]) za0 mixed Tryz.func69 rfl rfl rfl (by kernel_rfl) fun hl=>?_
 simp (maxSteps:=9^7) -dsimp only [↓gp,gq,reduceCtorEq,reduceEqDiff,reduceLT,reduceLeDiff,reduceAdd,reduceMul,reduceSub,Nat.reduceBEq,Int.reduceToNat,Int.reduceLE,Int.reduceLT,Int.reduceNeg,reduceMod,gT]
 have hinit:zaB (fun v=>zly u v && decide (u < v)) 64 = 0:=by
  rw [← zo1]
  refine zfr fun v hv=>?_
  cases h:(zly u v && decide (u < v)) with
  | false=>rfl
  | true =>
    simp [zly] at h
    have:u &&& v ≤ u:=Nat.and_le_left
    omega
 refine zan (fun (t:Nat) s=>s.sl 0 = int u∧s.sl 3 = u64 (zaB (fun v=>zly u v && decide (t < v)) 64:Nat)∧s.sl 4 = int t∧(t ≤ u∧u &&& t = t)) (fun t=>t) (u) (by refine ⟨?_,?_,?_,⟨Nat.le_refl _,Nat.and_self u⟩⟩ <;> (first | (simp (maxSteps:=9^7) -dsimp only [gr,reduceEqDiff,reduceLT,reduceAdd,reduceMod,Nat.reduceBEq,hinit];first | done | rfl | (simp;done)) | assumption | rfl)) ?_
 intro t sa ⟨h0a,h3a,h4a,hIa⟩
 obtain ⟨htu,hts⟩:=hIa
 have hlt:=zbh (fun v=>zly u v && decide (t < v)) 64
 have hcv:IntKind.u64.wrap (t:Int) = (t:Int):=zb3 (by omega)
 have h2t:(2:Nat) ^ t < 18446744073709551616:=by
  have:(2:Nat) ^ t < 2 ^ 64:=Nat.pow_lt_pow_right (by omega) (by omega)
  omega
 have hor:ior .u64 (zaB (fun v=>zly u v && decide (t < v)) 64:Nat) (zrU .u64 1 (t:Int)) = ((zaB (fun v=>zly u v && decide (t ≤ v)) 64:Nat):Int):=by
  rw [zDL (by omega),zEH (by omega) h2t,zvW _ (by omega)]
  congr 1
  refine zfr fun v hv=>?_
  by_cases e:v = t
  ·subst e;simp [zly,hts]
  ·have e1:decide (t < v) = decide (t ≤ v):=decide_eq_decide.2 (by omega)
   simp [e,e1]
 simp (maxSteps:=9^7) -dsimp only [↓gp,gq,reduceCtorEq,reduceEqDiff,reduceLT,reduceLeDiff,reduceAdd,reduceMul,reduceSub,Nat.reduceBEq,Int.reduceToNat,Int.reduceLE,Int.reduceLT,Int.reduceNeg,reduceMod,gT,h0a,h3a,h4a,hcv,hor]
 refine ⟨fun h0=>?_,fun h0=>?_⟩
 ·have:t = 0:=by simp at h0;omega
  subst this
  simp
 ·have h0:¬ t = 0:=by
   intro e;subst e;simp at h0
  have hw:IntKind.i64.wrap ((t:Int) - 1) = ((t - 1:Nat):Int):=by rw [zam (by omega) (by omega)];omega
  have hand:=zbF (a:=t - 1) (b:=u) (by omega) (by omega)
  have hle:(t - 1) &&& u ≤ t - 1:=Nat.and_le_left
  have hnext:zaB (fun v=>zly u v && decide ((t - 1) &&& u < v)) 64 = zaB (fun v=>zly u v && decide (t ≤ v)) 64:=by
   refine zfr fun v hv=>?_
   cases hs:zly u v with
   | false=>rfl
   | true =>
     simp only [Bool.true_and]
     refine decide_eq_decide.2 ⟨fun h=>?_,fun h=>by omega⟩
     rcases Nat.lt_or_ge v t with h2 | h2
     ·have:=zB7 u hu t (by omega) (by rw [Nat.and_comm];exact hts) h0 v h2 (by rw [Nat.and_comm];simpa [zly] using hs)
      omega
     ·exact h2
  simp (maxSteps:=9^7) -dsimp only [↓gp,gq,reduceCtorEq,reduceEqDiff,reduceLT,reduceLeDiff,reduceAdd,reduceMul,reduceSub,Nat.reduceBEq,Int.reduceToNat,Int.reduceLE,Int.reduceLT,Int.reduceNeg,reduceMod,gT,h0a,h3a,h4a,hcv,hor,hw,hand]
  exact zac ((t - 1) &&& u) (by refine ⟨?_,?_,?_,⟨by omega,by rw [Nat.and_comm,Nat.and_assoc,Nat.and_self]⟩⟩ <;> (first | (simp (maxSteps:=9^7) -dsimp only [gr,reduceEqDiff,reduceLT,reduceAdd,reduceMod,Nat.reduceBEq,h0a,h3a,h4a,hcv,hor,hw,hand,hnext];first | done | rfl | (simp;done)) | assumption | rfl)) (by first | omega | (simp only;omega) | (dsimp only;omega) | (show _ < _;simp;omega))
theorem zvX {xs:List Int} {k t:Nat} (h:k < xs.length):zag (xs.take (k + 1)) t = (zag (xs.take k) t || zly (xs.getD k 0).toNat t):=by
 rw [zaF 0 h]
 unfold zag zly
 rw [List.any_append]
 simp
theorem zdT (n:Int) (xs:List Int) (hx:okS xs):AC Tryz.prog 31 [.ag [int n,zbr xs]] (.im (u64 (zaB (zag xs) 64:Nat))):=by
 refine AC.go (rs:=[.tmp 2]) za0 mixed Tryz.func31 rfl rfl rfl (by kernel_rfl) fun hl=>?_
 simp only [zaT,zbg,and_true,zbK,zcZ,zb2,zhI,true_and] at hl
 simp (maxSteps:=9^7) -dsimp only [↓gp,gq,reduceCtorEq,reduceEqDiff,reduceLT,reduceLeDiff,reduceAdd,reduceMul,reduceSub,Nat.reduceBEq,Int.reduceToNat,Int.reduceLE,Int.reduceLT,Int.reduceNeg,reduceMod,gT]
 have hinit:zaB (zag (xs.take 0)) 64 = 0:=zo1
 refine zan (fun (k:Nat) s=>s.sl 3 = u64 (zaB (zag (xs.take k)) 64:Nat)∧s.sl 7 = zbr xs∧s.sl 8 = int xs.length∧s.sl 9 = int k∧(k ≤ xs.length)) (fun k=>xs.length - k) (0) (by refine ⟨?_,?_,?_,?_,by omega⟩ <;> (first | (simp (maxSteps:=9^7) -dsimp only [gr,reduceEqDiff,reduceLT,reduceAdd,reduceMod,Nat.reduceBEq,hinit];first | done | rfl | (simp;done)) | assumption | rfl)) ?_
 intro k sa ⟨h3a,h7a,h8a,h9a,hIa⟩
 simp (maxSteps:=9^7) -dsimp only [↓gp,gq,reduceCtorEq,reduceEqDiff,reduceLT,reduceLeDiff,reduceAdd,reduceMul,reduceSub,Nat.reduceBEq,Int.reduceToNat,Int.reduceLE,Int.reduceLT,Int.reduceNeg,reduceMod,gT,h3a,h7a,h8a,h9a]
 refine ⟨fun h=>⟨h,h,?_⟩,fun h=>?_⟩
 ·have h6:=zo2 hx h
  have hn:xs.getD k 0 = ((xs.getD k 0).toNat:Int):=by omega
  have hc:=zdl (xs.getD k 0).toNat (by omega)
  rw [← hn] at hc
  refine zab hc ?_
  have hm1:=zbh (zag (xs.take k)) 64
  have hm2:=zbh (zly (xs.getD k 0).toNat) 64
  have hor:ior .u64 (zaB (zag (xs.take k)) 64:Nat) (zaB (zly (xs.getD k 0).toNat) 64:Nat) = ((zaB (zag (xs.take (k + 1))) 64:Nat):Int):=by
   rw [zEH (by omega) (by omega),zD9]
   congr 1
   exact zfr fun t _=>(zvX h).symm
  simp (maxSteps:=9^7) -dsimp only [↓gp,gq,reduceCtorEq,reduceEqDiff,reduceLT,reduceLeDiff,reduceAdd,reduceMul,reduceSub,Nat.reduceBEq,Int.reduceToNat,Int.reduceLE,Int.reduceLT,Int.reduceNeg,reduceMod,gT,h3a,h7a,h8a,h9a,hor]
  exact zac (k + 1) (by refine ⟨?_,?_,?_,?_,by omega⟩ <;> (first | (simp (maxSteps:=9^7) -dsimp only [gr,reduceEqDiff,reduceLT,reduceAdd,reduceMod,Nat.reduceBEq,h3a,h7a,h8a,h9a,zaa h hl,hor];first | done | rfl | (simp;done)) | assumption | rfl)) (by first | omega | (simp only;omega) | (dsimp only;omega) | (show _ < _;simp;omega))
 ·have:k = xs.length:=by omega
  rw [this,List.take_length]
theorem ziJ (f:Nat→Bool) (w:Nat) (hw:w < 64):AC Tryz.prog 61 [u64 (zaB f 64:Nat),int w] (.im (u64 (zaB (fun t=>f t && zly w t) 64:Nat))):=by
 refine AC.go (rs:=[.tmp 4]) za0 mixed Tryz.func61 rfl rfl rfl (by kernel_rfl) fun hl=>?_
 simp (maxSteps:=9^7) -dsimp only [↓gp,gq,reduceCtorEq,reduceEqDiff,reduceLT,reduceLeDiff,reduceAdd,reduceMul,reduceSub,Nat.reduceBEq,Int.reduceToNat,Int.reduceLE,Int.reduceLT,Int.reduceNeg,reduceMod,gT]
 refine zab (zdl w hw) ?_
 have hm1:=zbh f 64
 have hm2:=zbh (zly w) 64
 have hand:zdI .u64 (zaB f 64:Nat) (zaB (zly w) 64:Nat) = ((zaB (fun t=>f t && zly w t) 64:Nat):Int):=by
  rw [zDK (by omega) (by omega),zBr]
 simp (maxSteps:=9^7) -dsimp only [↓gp,gq,reduceCtorEq,reduceEqDiff,reduceLT,reduceLeDiff,reduceAdd,reduceMul,reduceSub,Nat.reduceBEq,Int.reduceToNat,Int.reduceLE,Int.reduceLT,Int.reduceNeg,reduceMod,gT,hand]
theorem zc2 (n:Int) (xs:List Int):AC Tryz.prog 27 [.ag [int n,zbr xs]] (.im (bool (zcV n xs))):=by
 refine AC.go (rs:=[.tmp 2]) za0 mixed Tryz.func27 rfl rfl rfl (by kernel_rfl) fun hl=>?_
 simp (maxSteps:=9^7) -dsimp only [↓gp,gq,reduceCtorEq,reduceEqDiff,reduceLT,reduceLeDiff,reduceAdd,reduceMul,reduceSub,Nat.reduceBEq,Int.reduceToNat,Int.reduceLE,Int.reduceLT,Int.reduceNeg,reduceMod,gT]
 refine zab (zhk n xs) ?_
 simp (maxSteps:=9^7) -dsimp only [↓gp,gq,reduceCtorEq,reduceEqDiff,reduceLT,reduceLeDiff,reduceAdd,reduceMul,reduceSub,Nat.reduceBEq,Int.reduceToNat,Int.reduceLE,Int.reduceLT,Int.reduceNeg,reduceMod,gT]
theorem zeE (t:ByteArray) (b:Nat) (ht:t.size ≤ 1000):AC Tryz.prog 114 [str t,.v (.int .u8 b)] (.fr 9 1 (sL (ziy t b))):=by
 refine AC.go (rs:=[.tmp 4]) za0 mixed Tryz.func114 rfl rfl rfl (by kernel_rfl) fun hl=>?_
 simp (maxSteps:=9^7) -dsimp only [↓gp,gq,reduceCtorEq,reduceEqDiff,reduceLT,reduceLeDiff,reduceAdd,reduceMul,reduceSub,Nat.reduceBEq,Int.reduceToNat,Int.reduceLE,Int.reduceLT,Int.reduceNeg,reduceMod,gT]
 refine zan (fun (za:Nat × Nat × List ByteArray × Nat) s=>match za with | (i,v,out,st)=>s.sl 0 = str t∧s.sl 1 = .v (.int .u8 b)∧s.sl 5 = .own 8 v∧s.rw 8 = ⟨v,.sli 9 1 false (sL out)⟩∧s.sl 6 = int st∧s.sl 7 = int i∧(i ≤ t.size + 1∧(i ≤ t.size→out = (zlC t b i).1∧st = (zlC t b i).2)∧(t.size < i→out = ziy t b))) (fun (i,v,out,st)=>t.size + 1 - i) ((0,1,[],0)) (by refine ⟨?_,?_,?_,?_,?_,?_,⟨by simp,by simp [zlC],by simp⟩⟩ <;> (first | (simp (maxSteps:=9^7) -dsimp only [gr,reduceEqDiff,reduceLT,reduceAdd,reduceMod,Nat.reduceBEq];first | done | rfl | (simp;done)) | assumption | rfl)) ?_
 intro (i,v,out,st) sa ⟨h0a,h1a,h5a,r8a,h6a,h7a,hIa⟩
 obtain ⟨hi,h1,h2⟩:=hIa
 have hle:=zEM t b i
 simp (maxSteps:=9^7) -dsimp only [↓gp,gq,reduceCtorEq,reduceEqDiff,reduceLT,reduceLeDiff,reduceAdd,reduceMul,reduceSub,Nat.reduceBEq,Int.reduceToNat,Int.reduceLE,Int.reduceLT,Int.reduceNeg,reduceMod,gT,h0a,h1a,h5a,r8a,h6a,h7a,zb8]
 refine ⟨fun h=>?_,fun h=>by rw [h2 (by omega)]⟩
 obtain ⟨rfl,rfl⟩:=h1 h
 refine ⟨fun hne=>?_,fun he=>?_⟩
 ·have hne:=beq_eq_false_iff_ne.1 hne
  have hlt:i < t.size:=by omega
  refine ⟨hlt,fun he=>⟨hle.1,by omega,by omega,?_⟩,fun he=>?_⟩
  ·have he:byt t i = b:=by have:=beq_iff_eq.1 he;unfold byt;omega
   exact zac ((i + 1,v + 1,(zlC t b (i + 1)).1,(zlC t b (i + 1)).2)) (by refine ⟨?_,?_,?_,?_,?_,?_,⟨by omega,fun _=>⟨by rw [zju he],by rw [zju he]⟩,by omega⟩⟩ <;> (first | (simp (maxSteps:=9^7) -dsimp only [gr,reduceEqDiff,reduceLT,reduceAdd,reduceMod,Nat.reduceBEq,h0a,h1a,h5a,r8a,h6a,h7a,zaa hlt (by omega),zju he,znI];first | done | rfl | (simp;done)) | assumption | rfl)) (by first | omega | (simp only;omega) | (dsimp only;omega) | (show _ < _;simp;omega))
  ·have he:¬ byt t i = b:=by have:=beq_eq_false_iff_ne.1 he;unfold byt;omega
   exact zac ((i + 1,v,(zlC t b i).1,(zlC t b i).2)) (by refine ⟨?_,?_,?_,?_,?_,?_,⟨by omega,fun _=>⟨by rw [zsE he],by rw [zsE he]⟩,by omega⟩⟩ <;> (first | (simp (maxSteps:=9^7) -dsimp only [gr,reduceEqDiff,reduceLT,reduceAdd,reduceMod,Nat.reduceBEq,h0a,h1a,h5a,r8a,h6a,h7a,zaa hlt (by omega)];first | done | rfl | (simp;done)) | assumption | rfl)) (by first | omega | (simp only;omega) | (dsimp only;omega) | (show _ < _;simp;omega))
 ·have he:=beq_iff_eq.1 he
  obtain rfl:i = t.size:=by omega
  refine ⟨hle.1,by omega,by omega,?_⟩
  have hw:IntKind.i64.wrap ((t.size:Int) + 1) = ((t.size + 1:Nat):Int):=zaa (n:=t.size + 1) (by omega) (by omega)
  exact zac ((t.size + 1,v + 1,ziy t b,t.size + 1)) (by refine ⟨?_,?_,?_,?_,?_,?_,⟨by omega,by omega,fun _=>rfl⟩⟩ <;> (first | (simp (maxSteps:=9^7) -dsimp only [gr,reduceEqDiff,reduceLT,reduceAdd,reduceMod,Nat.reduceBEq,h0a,h1a,h5a,r8a,h6a,h7a,hw,znI,ziy];first | done | rfl | (simp;done)) | assumption | rfl)) (by first | omega | (simp only;omega) | (dsimp only;omega) | (show _ < _;simp;omega))
theorem zfi (t:ByteArray) (h:OkSet t):AC Tryz.prog 116 [str t] (.tup [.im (int (zoX t t.size:Nat)),.im (bool true)]):=by
 refine AC.go (rs:=[.tmp 2,.tmp 3]) za0 mixed Tryz.func116 rfl rfl rfl (by kernel_rfl) fun hl=>?_
 simp (maxSteps:=9^7) -dsimp only [↓gp,gq,reduceCtorEq,reduceEqDiff,reduceLT,reduceLeDiff,reduceAdd,reduceMul,reduceSub,Nat.reduceBEq,Int.reduceToNat,Int.reduceLE,Int.reduceLT,Int.reduceNeg,reduceMod,gT]
 refine zan (fun (i:Nat) s=>s.sl 0 = str t∧s.sl 4 = int (zoX t i:Nat)∧s.sl 5 = int i∧(i ≤ t.size)) (fun i=>t.size - i) (0) (by refine ⟨?_,?_,?_,by simp⟩ <;> (first | (simp (maxSteps:=9^7) -dsimp only [gr,reduceEqDiff,reduceLT,reduceAdd,reduceMod,Nat.reduceBEq,zk8];first | done | rfl | (simp;done)) | assumption | rfl)) ?_
 intro i sa ⟨h0a,h4a,h5a,hIa⟩
 rcases Nat.lt_or_ge i t.size with hi | hi
 ·have hlt:((i:Int) < (t.size:Int)) = True:=eq_true (by omega)
  have hb:byt t i = (t.data.toList.getD i 0).toNat:=rfl
  have hl1:=h.letter i hi
  have hhi:=h.hi
  have hv:=zEO h i (by omega)
  have hvl:=zAl h i hi
  have hw1:IntKind.i64.wrap (IntKind.i64.wrap (((t.data.toList.getD i 0).toNat:Nat):Int) - 97) = ((byt t i - 97:Nat):Int):=by
   have e1:IntKind.i64.wrap ((byt t i:Nat):Int) = ((byt t i:Nat):Int):=zam (by omega) (by omega)
   rw [← hb,e1,zam (by omega) (by omega)];omega
  simp (maxSteps:=9^7) -dsimp only [↓gp,gq,reduceCtorEq,reduceEqDiff,reduceLT,reduceLeDiff,reduceAdd,reduceMul,reduceSub,Nat.reduceBEq,Int.reduceToNat,Int.reduceLE,Int.reduceLT,Int.reduceNeg,reduceMod,gT,h0a,h4a,h5a,h.dash,h.empty,hlt,hw1]
  refine ⟨hi,zab (zcy _ _ _) ?_⟩
  have hd:(decide ((0:Int) ≤ ((byt t i - 97:Nat):Int)) && decide (((byt t i - 97:Nat):Int) ≤ 5)) = true:=by simp;omega
  have hw64:IntKind.u64.wrap ((byt t i - 97:Nat):Int) = ((byt t i - 97:Nat):Int):=zb3 (by omega)
  have hsh:zso .i64 ((zoX t i:Nat):Int) ((byt t i - 97:Nat):Int) = 0:=by
   rw [zGK (by omega),Nat.shiftRight_eq_div_pow,Nat.div_eq_of_lt hvl];rfl
  have h2k:2 ^ (byt t i - 97) < 64:=by have:2 ^ (byt t i - 97) < 2 ^ 6:=Nat.pow_lt_pow_right (by omega) (by omega);omega
  have hadd:IntKind.i64.wrap (((zoX t i:Nat):Int) + zrU .i64 1 ((byt t i - 97:Nat):Int)) = ((zoX t (i + 1):Nat):Int):=by
   rw [zbx (by omega),zam (by omega) (by omega),← zCc h hi];rfl
  simp (maxSteps:=9^7) -dsimp only [↓gp,gq,reduceCtorEq,reduceEqDiff,reduceLT,reduceLeDiff,reduceAdd,reduceMul,reduceSub,Nat.reduceBEq,Int.reduceToNat,Int.reduceLE,Int.reduceLT,Int.reduceNeg,reduceMod,gT,h0a,h4a,h5a,hlt,hw1,hd,hw64,hsh,hadd]
  have hd2:(!(decide True && decide (((byt t i - 97:Nat):Int) ≤ 5))) = false:=by simp;omega
  refine ⟨fun _=>⟨fun hc=>(by simp at hc),fun _=>zac (i + 1) (by refine ⟨?_,?_,?_,by omega⟩ <;> (first | (simp (maxSteps:=9^7) -dsimp only [gr,reduceEqDiff,reduceLT,reduceAdd,reduceMod,Nat.reduceBEq,h0a,h4a,h5a,hw1,hw64,hadd,zaa hi (by omega)];first | done | rfl | (simp;done)) | assumption | rfl)) (by first | omega | (simp only;omega) | (dsimp only;omega) | (show _ < _;simp;omega))⟩,fun hc=>by rw [hd2] at hc;cases hc⟩
 ·obtain rfl:i = t.size:=by omega
  have hlt:((t.size:Int) < (t.size:Int)) = False:=eq_false (by omega)
  simp (maxSteps:=9^7) -dsimp only [↓gp,gq,reduceCtorEq,reduceEqDiff,reduceLT,reduceLeDiff,reduceAdd,reduceMul,reduceSub,Nat.reduceBEq,Int.reduceToNat,Int.reduceLE,Int.reduceLT,Int.reduceNeg,reduceMod,gT,h0a,h4a,h5a,h.dash,h.empty,hlt]
def zsH (ps:List ByteArray):List Int:=ps.map fun p=>((zoX p p.size:Nat):Int)
theorem zrs {ps:List ByteArray} {k:Nat} (h:k < ps.length):zsH (ps.take (k + 1)) = zsH (ps.take k) ++ [((zoX (ps.getD k ⟨#[]⟩) (ps.getD k ⟨#[]⟩).size:Nat):Int)]:=by
 unfold zsH
 rw [zaF ⟨#[]⟩ h,List.map_append];rfl
def chr (n:Nat):ByteArray:=⟨#[UInt8.ofNat (48 + n)]⟩
structure OkText (t:ByteArray) (n:Nat) (rest:ByteArray) (ps:List ByteArray):Prop where
 size:2 ≤ t.size∧t.size ≤ 1000
 pts:1 ≤ n∧n ≤ 6
 b0:byt t 0 = 48 + n
 b1:byt t 1 = 58
 tail:t.extract 2 t.size = rest
 rsize:rest.size ≤ 1000
 full:(rest.toList == (⟨#[]⟩:ByteArray).toList) = false
 parts:ziy rest 44 = ps
 plen:ps.length ≤ 1000
 pne:0 < ps.length
 sets:∀ p ∈ ps,OkSet p
 head:ziy t 58 = [chr n,rest]
 cx:cxP n (zsH ps)
def zwN (r:Row) (ver:Nat) (Kp:PV→Prop):Prop:=r.ver = ver∧match r.kind with
 | .nil=>∃ bs:List Int,[] = bs.map (fun n=>PV.v (.int .u8 n))∧Kp (.v (.string (bs.foldl (fun r n=>r.push (UInt8.ofNat n.toNat)) ByteArray.empty)))
 | .sli _ sz _ c=>sz = 1∧∃ bs:List Int,c = bs.map (fun n=>PV.v (.int .u8 n))∧Kp (.v (.string (bs.foldl (fun r n=>r.push (UInt8.ofNat n.toNat)) ByteArray.empty)))
 | _=>False
theorem zop (rw:Nat→Row) (j ver:Nat) {Kp:PV→Prop}:zfP T rw 22 9 (.own j ver) Kp = zwN (rw j) ver Kp:=by
 have ha:(T 22).k = .sli 5:=zHo
 have hb:(T 9).k = .str:=T9k
 have he:(T 5).k = .int .u8:=T5k
 have s1:(T 22).size = 1:=zHp
 have s2:(T 9).size = 1:=T9s
 have s3:(T 5).size = 1:=T5s
 unfold zfP zwN
 simp only [ha,hb,he,s1,s2,s3,slK]
 cases h:(rw j).kind <;> simp
theorem zrt (ver e:Nat) (fz:Bool) (n:Int) {Kp:PV→Prop}:zwN ⟨ver,.sli e 1 fz [.v (.int .u8 n)]⟩ ver Kp = Kp (.v (.string ([n].foldl (fun r n=>r.push (UInt8.ofNat n.toNat)) ByteArray.empty))):=by
 unfold zwN
 simp only [true_and]
 refine propext ⟨fun ⟨bs,hb,h⟩=>?_,fun h=>⟨[n],rfl,h⟩⟩
 match bs,hb with
 | [m],hb=>simp at hb;subst hb;exact h
theorem zDM (n:Int):lit [.v (.int .u8 n)] = [.v (.int .u8 n)]:=rfl
theorem zjv (n:Nat):(chr n).size = 1:=rfl
theorem zGL {n:Nat} (h:n ≤ 9):((chr n).data.toList.getD 0 0).toNat = 48 + n:=by
 show (UInt8.ofNat (48 + n)).toNat = 48 + n
 simp
 omega
theorem zGM {n:Nat} (h:n ≤ 9):([(48 + n:Int)].foldl (fun r n=>r.push (UInt8.ofNat n.toNat)) ByteArray.empty) ++ ⟨#[]⟩ = chr n:=by
 have:∀ m:Fin 10,([(48 + (m.val:Nat):Int)].foldl (fun r n=>r.push (UInt8.ofNat n.toNat)) ByteArray.empty) ++ ⟨#[]⟩ = chr m.val:=by decide +kernel
 exact this ⟨n,by omega⟩
theorem ziU {n:Nat} (h1:1 ≤ n) (h9:n ≤ 9):AC Tryz.prog 46 [int n] (.im (str (chr n))):=by
 refine AC.go (rs:=[.tmp 2]) za0 mixed Tryz.func46 rfl rfl rfl (by kernel_rfl) fun hl=>?_
 have e0:((n:Int) == 0) = false:=beq_eq_false_iff_ne.2 (by omega)
 simp (maxSteps:=9^7) -dsimp only [↓gp,gq,reduceCtorEq,reduceEqDiff,reduceLT,reduceLeDiff,reduceAdd,reduceMul,reduceSub,Nat.reduceBEq,Int.reduceToNat,Int.reduceLE,Int.reduceLT,Int.reduceNeg,reduceMod,gT,e0]
 refine zan (fun (za:Nat × ByteArray) s=>match za with | (m,o)=>s.sl 0 = int m∧s.sl 3 = bool false∧s.sl 4 = str o∧((m = n∧o = ⟨#[]⟩) ∨ (m = 0∧o = chr n))) (fun (m,o)=>m) ((n,⟨#[]⟩)) (by refine ⟨?_,?_,?_,Or.inl ⟨rfl,rfl⟩⟩ <;> (first | (simp (maxSteps:=9^7) -dsimp only [gr,reduceEqDiff,reduceLT,reduceAdd,reduceMod,Nat.reduceBEq,decide_eq_false (show ¬ ((n:Int) < 0) by omega)];first | done | rfl | (simp;done)) | assumption | rfl)) ?_
 intro (m,o) sa ⟨h0a,h3a,h4a,hIa⟩
 rcases hIa with ⟨rfl,rfl⟩ | ⟨rfl,rfl⟩
 ·have ht:((m:Int)).tmod 10 = (m:Int):=Int.tmod_eq_of_lt (by omega) (by omega)
  have hw:IntKind.i64.wrap (48 + (m:Int)) = 48 + (m:Int):=zam (by omega) (by omega)
  have hw8:IntKind.u8.wrap (48 + (m:Int)) = 48 + (m:Int):=by
   simp [IntKind.wrap,IntKind.bits,IntKind.signed]
   omega
  have hq:((m:Int)).tdiv 10 = 0:=Int.tdiv_eq_zero_of_lt (by omega) (by omega)
  have hc:=zGM h9
  simp (maxSteps:=9^7) -dsimp only [↓gp,gq,reduceCtorEq,reduceEqDiff,reduceLT,reduceLeDiff,reduceAdd,reduceMul,reduceSub,Nat.reduceBEq,Int.reduceToNat,Int.reduceLE,Int.reduceLT,Int.reduceNeg,reduceMod,gT,h0a,h3a,h4a,zop,zrt,zDM,ht,hw,hw8,hq,hc]
  refine ⟨fun _=>⟨by decide,fun h=>absurd h (by omega),fun _=>⟨?_,by decide,zac ((0,chr m)) (by refine ⟨?_,?_,?_,Or.inr ⟨rfl,rfl⟩⟩ <;> (first | (simp (maxSteps:=9^7) -dsimp only [gr,reduceEqDiff,reduceLT,reduceAdd,reduceMod,Nat.reduceBEq,h0a,h3a,h4a,ht,hw,hw8,hq,hc];first | done | rfl | (simp;done)) | assumption | rfl)) (by first | omega | (simp only;omega) | (dsimp only;omega) | (show _ < _;simp;omega))⟩⟩,fun h=>?_⟩
  ·show 1 + 0 ≤ 9223372036854775807
   omega
  ·simp at h
   omega
 ·simp (maxSteps:=9^7) -dsimp only [↓gp,gq,reduceCtorEq,reduceEqDiff,reduceLT,reduceLeDiff,reduceAdd,reduceMul,reduceSub,Nat.reduceBEq,Int.reduceToNat,Int.reduceLE,Int.reduceLT,Int.reduceNeg,reduceMod,gT,h0a,h3a,h4a,show (((0:Nat):Int) != 0) = false from rfl]
theorem zoq {n:Nat} (h1:1 ≤ n) (h9:n ≤ 9):AC Tryz.prog 122 [str (chr n),int 12] (.tup [.im (int n),.im (bool true)]):=by
 refine AC.go (rs:=[.tmp 4,.tmp 5]) za0 mixed Tryz.func122 rfl rfl rfl (by kernel_rfl) fun hl=>?_
 have hc:=zGL h9
 have e45:(((48 + n:Nat):Int) == 45) = false:=beq_eq_false_iff_ne.2 (by omega)
 have hz1:((1:Nat):Int) = 1:=rfl
 simp (maxSteps:=9^7) -dsimp only [↓gp,gq,reduceCtorEq,reduceEqDiff,reduceLT,reduceLeDiff,reduceAdd,reduceMul,reduceSub,Nat.reduceBEq,Int.reduceToNat,Int.reduceLE,Int.reduceLT,Int.reduceNeg,reduceMod,gT,zjv,hc,e45,hz1]
 refine zan (fun (i:Nat) s=>s.sl 0 = str (chr n)∧s.sl 6 = bool false∧s.sl 7 = str (chr n)∧s.sl 8 = int (if i = 0 then 0 else n:Nat)∧s.sl 9 = int i∧(i ≤ 1)) (fun i=>1 - i) (0) (by refine ⟨?_,?_,?_,?_,?_,by simp⟩ <;> (first | (simp (maxSteps:=9^7) -dsimp only [gr,reduceEqDiff,reduceLT,reduceAdd,reduceMod,Nat.reduceBEq];first | done | rfl | (simp;done)) | assumption | rfl)) ?_
 intro i sa ⟨h0a,h6a,h7a,h8a,h9a,hIa⟩
 have hi:i = 0 ∨ i = 1:=by omega
 rcases hi with rfl | rfl
 ·have z0:((0:Nat):Int) = 0:=rfl
  have hw8:IntKind.u8.wrap (((48 + n:Nat):Int) - 48) = (n:Int):=by
   simp [IntKind.wrap,IntKind.bits,IntKind.signed]
   omega
  have hw:IntKind.i64.wrap (n:Int) = (n:Int):=zam (by omega) (by omega)
  have hm:IntKind.i64.wrap (10 * 0) = 0:=by decide
  have ha:IntKind.i64.wrap (0 + (n:Int)) = (n:Int):=by rw [Int.zero_add];exact hw
  have h01:IntKind.i64.wrap (0 + 1) = 1:=by decide
  simp (maxSteps:=9^7) -dsimp only [↓gp,gq,reduceCtorEq,reduceEqDiff,reduceLT,reduceLeDiff,reduceAdd,reduceMul,reduceSub,Nat.reduceBEq,Int.reduceToNat,Int.reduceLE,Int.reduceLT,Int.reduceNeg,reduceMod,gT,h0a,h6a,h7a,h8a,h9a,zjv,hc,hz1,z0]
  refine ⟨fun _=>⟨fun hx=>absurd hx (by omega),fun _=>zac (1) (by refine ⟨?_,?_,?_,?_,?_,by omega⟩ <;> (first | (simp (maxSteps:=9^7) -dsimp only [gr,reduceEqDiff,reduceLT,reduceAdd,reduceMod,Nat.reduceBEq,h0a,h6a,h7a,h8a,h9a,hw8,hw,hm,ha,h01];first | done | rfl | (simp;done)) | assumption | rfl)) (by first | omega | (simp only;omega) | (dsimp only;omega) | (show _ < _;simp;omega))⟩,fun hx=>absurd hx (by omega)⟩
 ·simp (maxSteps:=9^7) -dsimp only [↓gp,gq,reduceCtorEq,reduceEqDiff,reduceLT,reduceLeDiff,reduceAdd,reduceMul,reduceSub,Nat.reduceBEq,Int.reduceToNat,Int.reduceLE,Int.reduceLT,Int.reduceNeg,reduceMod,gT,h0a,h6a,h7a,h8a,h9a,zjv,hc,hz1]
  refine zab (ziU h1 h9) ?_
  simp (maxSteps:=9^7) -dsimp only [↓gp,gq,reduceCtorEq,reduceEqDiff,reduceLT,reduceLeDiff,reduceAdd,reduceMul,reduceSub,Nat.reduceBEq,Int.reduceToNat,Int.reduceLE,Int.reduceLT,Int.reduceNeg,reduceMod,gT,h0a,h6a,h7a,h8a,h9a,zjv,beq_self_eq_true]
theorem zlb {n:Nat} (h1:1 ≤ n) (h9:n ≤ 9):AC Tryz.prog 115 [str (chr n)] (.tup [.im (int n),.im (bool true)]):=by
 refine AC.go (rs:=[.tmp 2,.tmp 3]) za0 mixed Tryz.func115 rfl rfl rfl (by kernel_rfl) fun hl=>?_
 simp (maxSteps:=9^7) -dsimp only [↓gp,gq,reduceCtorEq,reduceEqDiff,reduceLT,reduceLeDiff,reduceAdd,reduceMul,reduceSub,Nat.reduceBEq,Int.reduceToNat,Int.reduceLE,Int.reduceLT,Int.reduceNeg,reduceMod,gT]
 refine zab (zoq h1 h9) ?_
 simp (maxSteps:=9^7) -dsimp only [↓gp,gq,reduceCtorEq,reduceEqDiff,reduceLT,reduceLeDiff,reduceAdd,reduceMul,reduceSub,Nat.reduceBEq,Int.reduceToNat,Int.reduceLE,Int.reduceLT,Int.reduceNeg,reduceMod,gT]
theorem zgo {t rest:ByteArray} {n:Nat} {ps:List ByteArray} (h:OkText t n rest ps):AC Tryz.prog 104 [str t] (.tup [.ag [.im (int n),.fr 3 1 (iL (zsH ps))],.im (bool true)]):=by
 refine AC.go (rs:=[.cell 2 26,.tmp 3]) za0 mixed Tryz.func104 rfl rfl rfl (by kernel_rfl) fun hl=>?_
 simp (maxSteps:=9^7) -dsimp only [↓gp,gq,reduceCtorEq,reduceEqDiff,reduceLT,reduceLeDiff,reduceAdd,reduceMul,reduceSub,Nat.reduceBEq,Int.reduceToNat,Int.reduceLE,Int.reduceLT,Int.reduceNeg,reduceMod,gT]
 refine zab (zeE t 58 h.size.2) ?_
 rw [h.head]
 have hz2:(((2:Nat):Int) != 2) = false:=rfl
 simp (maxSteps:=9^7) -dsimp only [↓gp,gq,reduceCtorEq,reduceEqDiff,reduceLT,reduceLeDiff,reduceAdd,reduceMul,reduceSub,Nat.reduceBEq,Int.reduceToNat,Int.reduceLE,Int.reduceLT,Int.reduceNeg,reduceMod,gT,zb8,hz2]
 refine ⟨by omega,zab (zlb h.pts.1 (by have:=h.pts;omega)) ?_⟩
 simp (maxSteps:=9^7) -dsimp only [↓gp,gq,reduceCtorEq,reduceEqDiff,reduceLT,reduceLeDiff,reduceAdd,reduceMul,reduceSub,Nat.reduceBEq,Int.reduceToNat,Int.reduceLE,Int.reduceLT,Int.reduceNeg,reduceMod,gT]
 refine ⟨by omega,zab (zeE rest 44 h.rsize) ?_⟩
 rw [h.parts]
 simp (maxSteps:=9^7) -dsimp only [↓gp,gq,reduceCtorEq,reduceEqDiff,reduceLT,reduceLeDiff,reduceAdd,reduceMul,reduceSub,Nat.reduceBEq,Int.reduceToNat,Int.reduceLE,Int.reduceLT,Int.reduceNeg,reduceMod,gT,zb8]
 refine zan (fun (za:Nat × Nat × PV × RK × Nat × Nat × Nat) s=>match za with | (k,u,fc,kd,v,y,z)=>s.sl 2 = .ref 2 1 0∧s.rw 2 = ⟨1,.box 26 [int 0,.v (.slice none 0 0)]⟩∧s.sl 7 = .ref 7 y 0∧s.rw 7 = ⟨y,.box 26 [int n,fc]⟩∧s.rw 58 = ⟨u,kd⟩∧s.sl 4 = .own 13 z∧s.rw 13 = ⟨z,.sli 9 1 false (sL [chr n,rest])⟩∧s.sl 6 = bool true∧s.sl 8 = .own 30 v∧s.rw 30 = ⟨v,.sli 9 1 false (sL ps)⟩∧s.sl 9 = int k∧(k ≤ ps.length∧((k = 0∧fc = .v (.slice none 0 0)) ∨ (0 < k∧fc = .own 58 u∧kd = .sli 3 1 false (iL (zsH (ps.take k))))))) (fun (k,u,fc,kd,v,y,z)=>ps.length - k) ((0,0,.v (.slice none 0 0),.dead,1,1,1)) (by refine ⟨?_,?_,?_,?_,?_,?_,?_,?_,?_,?_,?_,by simp⟩ <;> (first | (simp (maxSteps:=9^7) -dsimp only [gr,reduceEqDiff,reduceLT,reduceAdd,reduceMod,Nat.reduceBEq,zb8];first | done | rfl | (simp;done)) | assumption | rfl)) ?_
 intro (k,u,fc,kd,v,y,z) sa ⟨h2a,r2a,h7a,r7a,r58a,h4a,r13a,h6a,h8a,r30a,h9a,hIa⟩
 obtain ⟨hk,hfc⟩:=hIa
 have hfl:(zsH (ps.take k)).length = k:=by unfold zsH;simp;omega
 have hr1:[chr n,rest].getD 1 ⟨#[]⟩ = rest:=rfl
 rcases hfc with ⟨rfl,rfl⟩ | ⟨h0,rfl,rfl⟩
 ·simp (maxSteps:=9^7) -dsimp only [↓gp,gq,reduceCtorEq,reduceEqDiff,reduceLT,reduceLeDiff,reduceAdd,reduceMul,reduceSub,Nat.reduceBEq,Int.reduceToNat,Int.reduceLE,Int.reduceLT,Int.reduceNeg,reduceMod,gT,h2a,r2a,h7a,r7a,r58a,h4a,r13a,h6a,h8a,r30a,h9a,zb8,hr1,h.full]
  refine ⟨fun hlt=>⟨by omega,hlt,hlt,zab (zfi _ (h.sets _ (zax ⟨#[]⟩ hlt))) ?_⟩,fun hge=>absurd h.pne hge⟩
  simp (maxSteps:=9^7) -dsimp only [↓gp,gq,reduceCtorEq,reduceEqDiff,reduceLT,reduceLeDiff,reduceAdd,reduceMul,reduceSub,Nat.reduceBEq,Int.reduceToNat,Int.reduceLE,Int.reduceLT,Int.reduceNeg,reduceMod,gT,h2a,r2a,h7a,r7a,r58a,h4a,r13a,h6a,h8a,r30a,h9a,zb8]
  have hf1:zsH (ps.take 1) = [((zoX (ps.getD 0 ⟨#[]⟩) (ps.getD 0 ⟨#[]⟩).size:Nat):Int)]:=zrs hlt
  exact zac ((1,u + 1,.own 58 (u + 1),.sli 3 1 false (iL (zsH (ps.take 1))),v,y,z)) (by refine ⟨?_,?_,?_,?_,?_,?_,?_,?_,?_,?_,?_,⟨by omega,Or.inr ⟨by omega,rfl,rfl⟩⟩⟩ <;> (first | (simp (maxSteps:=9^7) -dsimp only [gr,reduceEqDiff,reduceLT,reduceAdd,reduceMod,Nat.reduceBEq,h2a,r2a,h7a,r7a,r58a,h4a,r13a,h6a,h8a,r30a,h9a,hf1];first | done | rfl | (simp;done)) | assumption | rfl)) (by first | omega | (simp only;omega) | (dsimp only;omega) | (show _ < _;simp;omega))
 ·simp (maxSteps:=9^7) -dsimp only [↓gp,gq,reduceCtorEq,reduceEqDiff,reduceLT,reduceLeDiff,reduceAdd,reduceMul,reduceSub,Nat.reduceBEq,Int.reduceToNat,Int.reduceLE,Int.reduceLT,Int.reduceNeg,reduceMod,gT,h2a,r2a,h7a,r7a,r58a,h4a,r13a,h6a,h8a,r30a,h9a,zb8,zjE,hfl,hr1,h.full]
  refine ⟨fun hlt=>⟨by omega,hlt,hlt,zab (zfi _ (h.sets _ (zax ⟨#[]⟩ hlt))) ?_⟩,fun hge=>?_⟩
  ·simp (maxSteps:=9^7) -dsimp only [↓gp,gq,reduceCtorEq,reduceEqDiff,reduceLT,reduceLeDiff,reduceAdd,reduceMul,reduceSub,Nat.reduceBEq,Int.reduceToNat,Int.reduceLE,Int.reduceLT,Int.reduceNeg,reduceMod,gT,h2a,r2a,h7a,r7a,r58a,h4a,r13a,h6a,h8a,r30a,h9a,zb8,hfl]
   have hpl:=h.plen
   refine ⟨by omega,?_⟩
   exact zac ((k + 1,u + 1,.own 58 (u + 1),.sli 3 1 false (iL (zsH (ps.take (k + 1)))),v,y,z)) (by refine ⟨?_,?_,?_,?_,?_,?_,?_,?_,?_,?_,?_,⟨by omega,Or.inr ⟨by omega,rfl,rfl⟩⟩⟩ <;> (first | (simp (maxSteps:=9^7) -dsimp only [gr,reduceEqDiff,reduceLT,reduceAdd,reduceMod,Nat.reduceBEq,h2a,r2a,h7a,r7a,r58a,h4a,r13a,h6a,h8a,r30a,h9a,zrs hlt,zaa hlt (by omega)];first | done | rfl | (simp;done)) | assumption | rfl)) (by first | omega | (simp only;omega) | (dsimp only;omega) | (show _ < _;simp;omega))
  ·obtain rfl:k = ps.length:=by omega
   rw [List.take_length]
   have hcx:=zhj h.cx
   refine zab (zbM n (zsH ps)) ?_
   simp (maxSteps:=9^7) -dsimp only [↓gp,gq,reduceCtorEq,reduceEqDiff,reduceLT,reduceLeDiff,reduceAdd,reduceMul,reduceSub,Nat.reduceBEq,Int.reduceToNat,Int.reduceLE,Int.reduceLT,Int.reduceNeg,reduceMod,gT,h2a,r2a,h7a,r7a,r58a,h4a,r13a,h6a,h8a,r30a,h9a,hcx,hfl,List.take_length]
noncomputable def zf9 (n:Int) (xs:List Int) (s:Nat):Bool:=zcV n xs && (zby n s && !zag xs s)
noncomputable def zfq (n:Int) (xs:List Int):List Nat:=zfB (zf9 n xs) false
theorem zxn {n:Int} {xs:List Int} {s:Nat} (h:zf9 n xs s = true):s < 64:=by
 unfold zf9 at h
 simp only [Bool.and_eq_true] at h
 have:=zfz h.2.1
 omega
theorem zBq (n:Int) (xs:List Int):inF (ofN ((List.range 64).filter (zf9 n xs))) = zf9 n xs:=by
 funext s
 rw [znG]
 refine Bool.eq_iff_iff.2 ?_
 rw [decide_eq_true_iff,List.mem_filter,List.mem_range]
 exact ⟨fun h=>h.2,fun h=>⟨zxn h,h⟩⟩
theorem zrW {n:Int} {xs:List Int} (h:zcV n xs = false) (s:Nat):zf9 n xs s = false:=by unfold zf9;rw [h];rfl
theorem zxo {n:Int} {xs:List Int} (h:zcV n xs = false):zfq n xs = []:=by
 unfold zfq zfB za2 zaC
 have:zf9 n xs = fun _=>false:=funext (zrW h)
 rw [this];simp
theorem zi2 (n:Int) (xs:List Int):(zfq n xs).length ≤ 448:=zvr _ _
theorem zcl (n:Int) (xs:List Int):AC Tryz.prog 16 [.ag [int n,zbr xs]] (.fr 3 1 (iL (ofN (zfq n xs)))):=by
 refine AC.go (rs:=[.tmp 2]) za0 mixed Tryz.func16 rfl rfl rfl (by kernel_rfl) fun hl=>?_
 simp (maxSteps:=9^7) -dsimp only [↓gp,gq,reduceCtorEq,reduceEqDiff,reduceLT,reduceLeDiff,reduceAdd,reduceMul,reduceSub,Nat.reduceBEq,Int.reduceToNat,Int.reduceLE,Int.reduceLT,Int.reduceNeg,reduceMod,gT]
 refine zan (fun (za:Nat × Nat) s=>match za with | (t,v)=>s.sl 1 = .ref 1 1 0∧s.rw 1 = ⟨1,.box 26 [int n,zbr xs]⟩∧s.sl 3 = .own 5 v∧s.rw 5 = ⟨v,.sli 3 1 false (iL (ofN ((List.range t).filter (zf9 n xs))))⟩∧s.sl 4 = int t∧(t ≤ 64)) (fun (t,v)=>64 - t) ((0,1)) (by refine ⟨?_,?_,?_,?_,?_,by simp⟩ <;> (first | (simp (maxSteps:=9^7) -dsimp only [gr,reduceEqDiff,reduceLT,reduceAdd,reduceMod,Nat.reduceBEq];first | done | rfl | (simp;done)) | assumption | rfl)) ?_
 intro (t,v) sa ⟨h1a,r1a,h3a,r5a,h4a,hIa⟩
 have hfl:((List.range t).filter (zf9 n xs)).length ≤ 64:=by
  have:=List.length_filter_le (zf9 n xs) (List.range t)
  rw [List.length_range] at this
  omega
 have hend:(t = 64 ∨ zcV n xs = false)→inF (ofN ((List.range t).filter (zf9 n xs))) = zf9 n xs:=fun h=>by
  rcases h with rfl | h
  ·exact zBq n xs
  ·funext i
   rw [znG,zrW h]
   exact decide_eq_false fun hm=>by rw [List.mem_filter,zrW h] at hm;cases hm.2
 have hext:(t = 64 ∨ zcV n xs = false)→AC Tryz.prog 51 [zbr (ofN ((List.range t).filter (zf9 n xs))),bool false] (.fr 3 1 (iL (ofN (zfq n xs)))):=fun h=>by
  have:=zeB false _ (zxp (l:=(List.range t).filter (zf9 n xs)) fun i hi=>zxn (List.mem_filter.1 hi).2)
  rwa [hend h] at this
 simp (maxSteps:=9^7) -dsimp only [↓gp,gq,reduceCtorEq,reduceEqDiff,reduceLT,reduceLeDiff,reduceAdd,reduceMul,reduceSub,Nat.reduceBEq,Int.reduceToNat,Int.reduceLE,Int.reduceLT,Int.reduceNeg,reduceMod,gT,h1a,r1a,h3a,r5a,h4a]
 refine ⟨fun h=>zab (zbM n xs) ?_,fun h=>zab (hext (.inl (by omega))) ?_⟩
 ·simp (maxSteps:=9^7) -dsimp only [↓gp,gq,reduceCtorEq,reduceEqDiff,reduceLT,reduceLeDiff,reduceAdd,reduceMul,reduceSub,Nat.reduceBEq,Int.reduceToNat,Int.reduceLE,Int.reduceLT,Int.reduceNeg,reduceMod,gT,h1a,r1a,h3a,r5a,h4a]
  refine ⟨fun hc=>zab (zeN _ _) ?_,fun hc=>zab (hext (.inr hc)) ?_⟩
  ·have hx:=zdZ hc
   have h:t < 64:=by omega
   have hms:zf9 n xs t = (zby n t && !zag xs t):=by unfold zf9;rw [hc];rfl
   have hyes:zf9 n xs t = true→ofN ((List.range (t + 1)).filter (zf9 n xs)) = ofN ((List.range t).filter (zf9 n xs)) ++ [(t:Int)]:=fun h=>by
    rw [List.range_succ,List.filter_append,za1]
    simp [h,ofN]
   have hno:zf9 n xs t = false→ofN ((List.range (t + 1)).filter (zf9 n xs)) = ofN ((List.range t).filter (zf9 n xs)):=fun h=>by
    rw [List.range_succ,List.filter_append,za1]
    simp [h,ofN]
   simp (maxSteps:=9^7) -dsimp only [↓gp,gq,reduceCtorEq,reduceEqDiff,reduceLT,reduceLeDiff,reduceAdd,reduceMul,reduceSub,Nat.reduceBEq,Int.reduceToNat,Int.reduceLE,Int.reduceLT,Int.reduceNeg,reduceMod,gT,h1a,r1a,h3a,r5a,h4a]
   refine ⟨fun hs=>zab (zia n xs t hx h) ?_,fun hs=>?_⟩
   ·simp (maxSteps:=9^7) -dsimp only [↓gp,gq,reduceCtorEq,reduceEqDiff,reduceLT,reduceLeDiff,reduceAdd,reduceMul,reduceSub,Nat.reduceBEq,Int.reduceToNat,Int.reduceLE,Int.reduceLT,Int.reduceNeg,reduceMod,gT,h1a,r1a,h3a,r5a,h4a]
    refine ⟨fun hf=>?_,fun hf=>?_⟩
    ·have e:=hyes (by rw [hms,hs,hf];rfl)
     refine ⟨by rw [zae];omega,zac ((t + 1,v + 1)) (by refine ⟨?_,?_,?_,?_,?_,by dsimp only;omega⟩ <;> (first | (simp (maxSteps:=9^7) -dsimp only [gr,reduceEqDiff,reduceLT,reduceAdd,reduceMod,Nat.reduceBEq,h1a,r1a,h3a,r5a,h4a,zaa h (by omega),e];first | done | rfl | (simp;done)) | assumption | rfl)) (by first | omega | (simp only;omega) | (dsimp only;omega) | (show _ < _;simp;omega))⟩
    ·have e:=hno (by rw [hms,hf];simp)
     exact zac ((t + 1,v)) (by refine ⟨?_,?_,?_,?_,?_,by dsimp only;omega⟩ <;> (first | (simp (maxSteps:=9^7) -dsimp only [gr,reduceEqDiff,reduceLT,reduceAdd,reduceMod,Nat.reduceBEq,h1a,r1a,h3a,r5a,h4a,zaa h (by omega),e];first | done | rfl | (simp;done)) | assumption | rfl)) (by first | omega | (simp only;omega) | (dsimp only;omega) | (show _ < _;simp;omega))
   ·have e:=hno (by rw [hms,hs];rfl)
    exact zac ((t + 1,v)) (by refine ⟨?_,?_,?_,?_,?_,by dsimp only;omega⟩ <;> (first | (simp (maxSteps:=9^7) -dsimp only [gr,reduceEqDiff,reduceLT,reduceAdd,reduceMod,Nat.reduceBEq,h1a,r1a,h3a,r5a,h4a,zaa h (by omega),e];first | done | rfl | (simp;done)) | assumption | rfl)) (by first | omega | (simp only;omega) | (dsimp only;omega) | (show _ < _;simp;omega))
  ·simp (maxSteps:=9^7) -dsimp only [↓gp,gq,reduceCtorEq,reduceEqDiff,reduceLT,reduceLeDiff,reduceAdd,reduceMul,reduceSub,Nat.reduceBEq,Int.reduceToNat,Int.reduceLE,Int.reduceLT,Int.reduceNeg,reduceMod,gT,h1a,r1a,h3a,r5a,h4a]
 ·simp (maxSteps:=9^7) -dsimp only [↓gp,gq,reduceCtorEq,reduceEqDiff,reduceLT,reduceLeDiff,reduceAdd,reduceMul,reduceSub,Nat.reduceBEq,Int.reduceToNat,Int.reduceLE,Int.reduceLT,Int.reduceNeg,reduceMod,gT,h1a,r1a,h3a,r5a,h4a]
theorem zgE (G t:Nat) (hG:G < 18446744073709551616) (ht:t < 64):AC Tryz.prog 89 [int t,.eref false [u64 G] 0] (.im (bool (!G.testBit t))):=by
 refine AC.go (rs:=[.tmp 3]) za0 mixed Tryz.func89 rfl rfl rfl (by kernel_rfl) fun hl=>?_
 simp (maxSteps:=9^7) -dsimp only [↓gp,gq,reduceCtorEq,reduceEqDiff,reduceLT,reduceLeDiff,reduceAdd,reduceMul,reduceSub,Nat.reduceBEq,Int.reduceToNat,Int.reduceLE,Int.reduceLT,Int.reduceNeg,reduceMod,gT]
 refine zab (zb1 G t hG ht) ?_
 simp (maxSteps:=9^7) -dsimp only [↓gp,gq,reduceCtorEq,reduceEqDiff,reduceLT,reduceLeDiff,reduceAdd,reduceMul,reduceSub,Nat.reduceBEq,Int.reduceToNat,Int.reduceLE,Int.reduceLT,Int.reduceNeg,reduceMod,gT]
theorem ziI (n G:Nat) (hn:n ≤ 6) (hG:G < 18446744073709551616):AC Tryz.prog 62 [int n,u64 G] (.fr 3 1 (iL (ofN (zfB (fun s=>decide (s < 2 ^ n) && !G.testBit s) false)))):=by
 refine AC.go (rs:=[.tmp 4]) za0 mixed Tryz.func62 rfl rfl rfl (by kernel_rfl) fun hl=>?_
 have h64:=zar hn
 simp (maxSteps:=9^7) -dsimp only [↓gp,gq,reduceCtorEq,reduceEqDiff,reduceLT,reduceLeDiff,reduceAdd,reduceMul,reduceSub,Nat.reduceBEq,Int.reduceToNat,Int.reduceLE,Int.reduceLT,Int.reduceNeg,reduceMod,gT]
 refine zab (zdn n hn _ [.eref false [u64 G] 0] (fun s=>!G.testBit s) (fun rw=>rfl) fun s hs=>zgE G s hG (by omega)) ?_
 simp (maxSteps:=9^7) -dsimp only [↓gp,gq,reduceCtorEq,reduceEqDiff,reduceLT,reduceLeDiff,reduceAdd,reduceMul,reduceSub,Nat.reduceBEq,Int.reduceToNat,Int.reduceLE,Int.reduceLT,Int.reduceNeg,reduceMod,gT]
 refine zab (ziK _ (zo4 _ hn)) ?_
 have e:(zaB (fun s=>!G.testBit s) (2 ^ n)).testBit = fun s=>decide (s < 2 ^ n) && !G.testBit s:=funext fun s=>zfb _ _ _
 rw [e]
 simp (maxSteps:=9^7) -dsimp only [↓gp,gq,reduceCtorEq,reduceEqDiff,reduceLT,reduceLeDiff,reduceAdd,reduceMul,reduceSub,Nat.reduceBEq,Int.reduceToNat,Int.reduceLE,Int.reduceLT,Int.reduceNeg,reduceMod,gT]
theorem zgF (n:Int) (xs:List Int):AC Tryz.prog 23 [.ag [int n,zbr xs]] (.fr 3 1 (iL (ofN (zfq n xs)))):=by
 refine AC.go (rs:=[.tmp 2]) za0 mixed Tryz.func23 rfl rfl rfl (by kernel_rfl) fun hl=>?_
 simp (maxSteps:=9^7) -dsimp only [↓gp,gq,reduceCtorEq,reduceEqDiff,reduceLT,reduceLeDiff,reduceAdd,reduceMul,reduceSub,Nat.reduceBEq,Int.reduceToNat,Int.reduceLE,Int.reduceLT,Int.reduceNeg,reduceMod,gT]
 refine zab (zc2 n xs) ?_
 simp (maxSteps:=9^7) -dsimp only [↓gp,gq,reduceCtorEq,reduceEqDiff,reduceLT,reduceLeDiff,reduceAdd,reduceMul,reduceSub,Nat.reduceBEq,Int.reduceToNat,Int.reduceLE,Int.reduceLT,Int.reduceNeg,reduceMod,gT]
 refine ⟨fun hc=>?_,fun hc=>?_⟩
 ·rw [zxo (by simpa using hc)];rfl
 ·have hc:zcV n xs = true:=by simpa using hc
  obtain ⟨h1,h6,_⟩:=za7.1 hc
  have hx:=zdZ hc
  obtain ⟨m,rfl⟩:∃ m:Nat,n = m:=⟨n.toNat,by omega⟩
  have h64:=zar (m:=m) (by omega)
  refine ⟨by kernel_rfl,zab (zdT _ xs hx) ?_⟩
  simp (maxSteps:=9^7) -dsimp only [↓gp,gq,reduceCtorEq,reduceEqDiff,reduceLT,reduceLeDiff,reduceAdd,reduceMul,reduceSub,Nat.reduceBEq,Int.reduceToNat,Int.reduceLE,Int.reduceLT,Int.reduceNeg,reduceMod,gT]
  have hm:=zbh (zag xs) 64
  refine zab (ziI m _ (by omega) (by omega)) ?_
  have e:(fun s=>decide (s < 2 ^ m) && !(zaB (zag xs) 64).testBit s) = zf9 m xs:=funext fun s=>by
   unfold zf9
   rw [hc,zfb,Bool.true_and]
   unfold zby
   by_cases hs:s < 2 ^ m
   ·have h2:s < 64:=by omega
    have h3:decide (0 ≤ (m:Int)∧(m:Int) ≤ 6∧0 ≤ (s:Int)∧(s:Int) < 2 ^ (m:Int).toNat) = true:=decide_eq_true ⟨by omega,by omega,by omega,by rw [Int.toNat_natCast];exact_mod_cast hs⟩
    rw [h3];simp [hs,h2]
   ·have h3:decide (0 ≤ (m:Int)∧(m:Int) ≤ 6∧0 ≤ (s:Int)∧(s:Int) < 2 ^ (m:Int).toNat) = false:=decide_eq_false fun h=>hs (by have:=h.2.2.2;rw [Int.toNat_natCast] at this;exact_mod_cast this)
    rw [h3];simp [hs]
  rw [e]
  simp (maxSteps:=9^7) -dsimp only [↓gp,gq,reduceCtorEq,reduceEqDiff,reduceLT,reduceLeDiff,reduceAdd,reduceMul,reduceSub,Nat.reduceBEq,Int.reduceToNat,Int.reduceLE,Int.reduceLT,Int.reduceNeg,reduceMod,gT]
  rfl
theorem zbd (p:Int):AC Tryz.prog 39 [int p] (.im (bool (isP p))):=by
 refine AC.go (rs:=[.tmp 2]) za0 mixed Tryz.func39 rfl rfl rfl (by kernel_rfl) fun hl=>?_
 simp (maxSteps:=9^7) -dsimp only [↓gp,gq,reduceCtorEq,reduceEqDiff,reduceLT,reduceLeDiff,reduceAdd,reduceMul,reduceSub,Nat.reduceBEq,Int.reduceToNat,Int.reduceLE,Int.reduceLT,Int.reduceNeg,reduceMod,gT]
 unfold isP
 exact ⟨fun h=>⟨fun h2=>by simp [h,h2],fun h2=>by simp [h,h2]⟩,fun h=>by simp [h]⟩
theorem zcg (p:Int):AC Tryz.prog 28 [int p] (.im (bool (isP p))):=by
 refine AC.go (rs:=[.tmp 2]) za0 mixed Tryz.func28 rfl rfl rfl (by kernel_rfl) fun hl=>?_
 simp (maxSteps:=9^7) -dsimp only [↓gp,gq,reduceCtorEq,reduceEqDiff,reduceLT,reduceLeDiff,reduceAdd,reduceMul,reduceSub,Nat.reduceBEq,Int.reduceToNat,Int.reduceLE,Int.reduceLT,Int.reduceNeg,reduceMod,gT]
 unfold isP
 exact ⟨fun h=>⟨fun h2=>by simp [h,h2],fun h2=>by simp [h,h2]⟩,fun h=>by simp [h]⟩
theorem znu {a p:Int} (hp:0 < p):-p < a.tmod p∧a.tmod p < p:=⟨Int.lt_tmod_of_pos a hp,Int.tmod_lt_of_pos a hp⟩
theorem zet (a p:Int) (hp:isP p = true):AC Tryz.prog 109 [int a,int p] (.im (int (a % p))):=by
 refine AC.go (rs:=[.tmp 4]) za0 mixed Tryz.func109 rfl rfl rfl (by kernel_rfl) fun hl=>?_
 have hp:=zbY hp
 have h1:=znu (a:=a) (by omega:0 < p)
 have hw:IntKind.i64.wrap (a.tmod p + p) = a.tmod p + p:=zam (by omega) (by omega)
 have hm:=zAk a p (by omega)
 simp (maxSteps:=9^7) -dsimp only [↓gp,gq,reduceCtorEq,reduceEqDiff,reduceLT,reduceLeDiff,reduceAdd,reduceMul,reduceSub,Nat.reduceBEq,Int.reduceToNat,Int.reduceLE,Int.reduceLT,Int.reduceNeg,reduceMod,gT,hw,hm]
 omega
theorem zf6 (a p:Int) (hp:isP p = true):AC Tryz.prog 108 [int a,int p] (.im (int (a % p))):=by
 refine AC.go (rs:=[.tmp 4]) za0 mixed Tryz.func108 rfl rfl rfl (by kernel_rfl) fun hl=>?_
 have hp:=zbY hp
 have h1:=znu (a:=a) (by omega:0 < p)
 have hw:IntKind.i64.wrap (a.tmod p + p) = a.tmod p + p:=zam (by omega) (by omega)
 have hm:=zAk a p (by omega)
 simp (maxSteps:=9^7) -dsimp only [↓gp,gq,reduceCtorEq,reduceEqDiff,reduceLT,reduceLeDiff,reduceAdd,reduceMul,reduceSub,Nat.reduceBEq,Int.reduceToNat,Int.reduceLE,Int.reduceLT,Int.reduceNeg,reduceMod,gT,hw]
 refine ⟨by omega,fun h=>?_,fun h=>?_⟩
 ·rw [← hm,zdY (by omega),Int.emod_eq_of_lt (by omega) (by omega)]
 ·rw [← hm,Int.tmod_eq_emod_of_nonneg (by omega),Int.add_emod_right,Int.emod_eq_of_lt (by omega) (by omega)]
theorem zjw {p r b:Int} (h:b < p):zc1 p r b (p - b).toNat = if r * b % p = 1 then b else zc1 p r (b + 1) (p - (b + 1)).toNat:=by
 have e:(p - b).toNat = (p - (b + 1)).toNat + 1:=by omega
 rw [e,zc1]
theorem zh0 (a p:Int) (hp:isP p = true):AC Tryz.prog 117 [int a,int p] (.im (int (zk4 p a))):=by
 refine AC.go (rs:=[.tmp 4]) za0 mixed Tryz.func117 rfl rfl rfl (by kernel_rfl) fun hl=>?_
 have hp2:=zbY hp
 simp (maxSteps:=9^7) -dsimp only [↓gp,gq,reduceCtorEq,reduceEqDiff,reduceLT,reduceLeDiff,reduceAdd,reduceMul,reduceSub,Nat.reduceBEq,Int.reduceToNat,Int.reduceLE,Int.reduceLT,Int.reduceNeg,reduceMod,gT]
 refine zab (zbd p) ?_
 simp (maxSteps:=9^7) -dsimp only [↓gp,gq,reduceCtorEq,reduceEqDiff,reduceLT,reduceLeDiff,reduceAdd,reduceMul,reduceSub,Nat.reduceBEq,Int.reduceToNat,Int.reduceLE,Int.reduceLT,Int.reduceNeg,reduceMod,gT,hp]
 have hr:=Int.emod_nonneg a (by omega:p ≠ 0)
 have hr2:=Int.emod_lt_of_pos a (by omega:0 < p)
 refine zan (fun (b:Int) s=>s.sl 0 = int a∧s.sl 1 = int p∧s.sl 5 = int b∧(1 ≤ b∧b ≤ p∧zk4 p a = zc1 p (a % p) b (p - b).toNat)) (fun b=>(p - b).toNat) (1) (by refine ⟨?_,?_,?_,⟨by omega,by omega,rfl⟩⟩ <;> (first | (simp (maxSteps:=9^7) -dsimp only [gr,reduceEqDiff,reduceLT,reduceAdd,reduceMod,Nat.reduceBEq];first | done | rfl | (simp;done)) | assumption | rfl)) ?_
 intro b sa ⟨h0a,h1a,h5a,hIa⟩
 obtain ⟨hb,hb2,hv⟩:=hIa
 simp (maxSteps:=9^7) -dsimp only [↓gp,gq,reduceCtorEq,reduceEqDiff,reduceLT,reduceLeDiff,reduceAdd,reduceMul,reduceSub,Nat.reduceBEq,Int.reduceToNat,Int.reduceLE,Int.reduceLT,Int.reduceNeg,reduceMod,gT,h0a,h1a,h5a]
 refine ⟨fun h=>zab (zet a p hp) ?_,fun h=>?_⟩
 ·have hm:0 ≤ a % p * b∧a % p * b ≤ 20:=by
   refine ⟨Int.mul_nonneg hr (by omega),?_⟩
   have:=Int.mul_le_mul (show a % p ≤ 4 by omega) (show b ≤ 5 by omega) (by omega) (by omega)
   omega
  have hw:IntKind.i64.wrap (a % p * b) = a % p * b:=zam (by omega) (by omega)
  have hw2:IntKind.i64.wrap (b + 1) = b + 1:=zam (by omega) (by omega)
  simp (maxSteps:=9^7) -dsimp only [↓gp,gq,reduceCtorEq,reduceEqDiff,reduceLT,reduceLeDiff,reduceAdd,reduceMul,reduceSub,Nat.reduceBEq,Int.reduceToNat,Int.reduceLE,Int.reduceLT,Int.reduceNeg,reduceMod,gT,h0a,h1a,h5a,hw,hw2,zdY hm.1]
  refine ⟨by omega,fun h1=>?_,fun h1=>zac (b + 1) ⟨(by (first | (simp (maxSteps:=9^7) -dsimp only [gr,reduceEqDiff,reduceLT,reduceAdd,reduceMod,Nat.reduceBEq,h0a,h1a,h5a,hw2];first | done | rfl | (simp;done)) | assumption | rfl)),(by (first | (simp (maxSteps:=9^7) -dsimp only [gr,reduceEqDiff,reduceLT,reduceAdd,reduceMod,Nat.reduceBEq,h0a,h1a,h5a,hw2];first | done | rfl | (simp;done)) | assumption | rfl)),(by (first | (simp (maxSteps:=9^7) -dsimp only [gr,reduceEqDiff,reduceLT,reduceAdd,reduceMod,Nat.reduceBEq,h0a,h1a,h5a,hw2];first | done | rfl | (simp;done)) | assumption | rfl)),⟨by omega,by omega,?_⟩⟩ (by first | omega | (simp only;omega) | (dsimp only;omega) | (show _ < _;simp;omega))⟩
  ·have h1:=beq_iff_eq.1 h1
   rw [hv,zjw h,if_pos h1]
  ·have h1:¬ a % p * b % p = 1:=by simpa using h1
   rw [hv,zjw h,if_neg h1]
 ·have:(p - b).toNat = 0:=by omega
  rw [hv,this];rfl
theorem zh1 (a p:Int) (hp:isP p = true):AC Tryz.prog 107 [int a,int p] (.im (int (zk4 p a))):=by
 refine AC.go (rs:=[.tmp 4]) za0 mixed Tryz.func107 rfl rfl rfl (by kernel_rfl) fun hl=>?_
 have hp2:=zbY hp
 simp (maxSteps:=9^7) -dsimp only [↓gp,gq,reduceCtorEq,reduceEqDiff,reduceLT,reduceLeDiff,reduceAdd,reduceMul,reduceSub,Nat.reduceBEq,Int.reduceToNat,Int.reduceLE,Int.reduceLT,Int.reduceNeg,reduceMod,gT]
 refine zab (zcg p) ?_
 simp (maxSteps:=9^7) -dsimp only [↓gp,gq,reduceCtorEq,reduceEqDiff,reduceLT,reduceLeDiff,reduceAdd,reduceMul,reduceSub,Nat.reduceBEq,Int.reduceToNat,Int.reduceLE,Int.reduceLT,Int.reduceNeg,reduceMod,gT,hp]
 have hr:=Int.emod_nonneg a (by omega:p ≠ 0)
 have hr2:=Int.emod_lt_of_pos a (by omega:0 < p)
 refine zab (zf6 a p hp) ?_
 simp (maxSteps:=9^7) -dsimp only [↓gp,gq,reduceCtorEq,reduceEqDiff,reduceLT,reduceLeDiff,reduceAdd,reduceMul,reduceSub,Nat.reduceBEq,Int.reduceToNat,Int.reduceLE,Int.reduceLT,Int.reduceNeg,reduceMod,gT]
 refine zan (fun (b:Int) s=>s.sl 1 = int p∧s.sl 5 = int (a % p)∧s.sl 6 = int b∧(1 ≤ b∧b ≤ p∧zk4 p a = zc1 p (a % p) b (p - b).toNat)) (fun b=>(p - b).toNat) (1) (by refine ⟨?_,?_,?_,⟨by omega,by omega,rfl⟩⟩ <;> (first | (simp (maxSteps:=9^7) -dsimp only [gr,reduceEqDiff,reduceLT,reduceAdd,reduceMod,Nat.reduceBEq];first | done | rfl | (simp;done)) | assumption | rfl)) ?_
 intro b sa ⟨h1a,h5a,h6a,hIa⟩
 obtain ⟨hb,hb2,hv⟩:=hIa
 have hm:0 ≤ a % p * b∧a % p * b ≤ 20:=by
  refine ⟨Int.mul_nonneg hr (by omega),?_⟩
  have:=Int.mul_le_mul (show a % p ≤ 4 by omega) (show b ≤ 5 by omega) (by omega) (by omega)
  omega
 have hw:IntKind.i64.wrap (a % p * b) = a % p * b:=zam (by omega) (by omega)
 have hw2:IntKind.i64.wrap (b + 1) = b + 1:=zam (by omega) (by omega)
 simp (maxSteps:=9^7) -dsimp only [↓gp,gq,reduceCtorEq,reduceEqDiff,reduceLT,reduceLeDiff,reduceAdd,reduceMul,reduceSub,Nat.reduceBEq,Int.reduceToNat,Int.reduceLE,Int.reduceLT,Int.reduceNeg,reduceMod,gT,h1a,h5a,h6a,hw,hw2,zdY hm.1]
 refine ⟨fun h=>⟨by omega,fun h1=>?_,fun h1=>zac (b + 1) ⟨(by (first | (simp (maxSteps:=9^7) -dsimp only [gr,reduceEqDiff,reduceLT,reduceAdd,reduceMod,Nat.reduceBEq,h1a,h5a,h6a,hw2];first | done | rfl | (simp;done)) | assumption | rfl)),(by (first | (simp (maxSteps:=9^7) -dsimp only [gr,reduceEqDiff,reduceLT,reduceAdd,reduceMod,Nat.reduceBEq,h1a,h5a,h6a,hw2];first | done | rfl | (simp;done)) | assumption | rfl)),(by (first | (simp (maxSteps:=9^7) -dsimp only [gr,reduceEqDiff,reduceLT,reduceAdd,reduceMod,Nat.reduceBEq,h1a,h5a,h6a,hw2];first | done | rfl | (simp;done)) | assumption | rfl)),⟨by omega,by omega,?_⟩⟩ (by first | omega | (simp only;omega) | (dsimp only;omega) | (show _ < _;simp;omega))⟩,fun h=>?_⟩
 ·have h1:=beq_iff_eq.1 h1
  rw [hv,zjw h,if_pos h1]
 ·have h1:¬ a % p * b % p = 1:=by simpa using h1
  rw [hv,zjw h,if_neg h1]
 ·have:(p - b).toNat = 0:=by omega
  rw [hv,this];rfl
theorem zvu (p:Int) {r:List Int} {j:Nat} (h:j < r.length):(r.map fun x=>x % p).getD j 0 = r.getD j 0 % p:=by simp [List.getD,h]
theorem zrx (p:Int) {M:Mat} {i:Nat} (h:i < M.length):zgB p (M.take i) ++ [(M.getD i []).map fun x=>x % p] = zgB p (M.take (i + 1)):=by
 rw [zaF [] h];simp [zgB]
theorem zhs (p:Int) {M:Mat} {i:Nat} (h:i ≤ M.length):(zgB p (M.take i)).length = i:=by simp [zgB];omega
theorem ziY (M:Mat) (p:Int) (hp:isP p = true) (hM:M.length ≤ 900) (hr:∀ i,i < M.length→(M.getD i []).length ≤ 1000):AC Tryz.prog 95 [zo6 M,int p] (.tb 24 3 ((zgB p M).map iL)):=by
 refine AC.go (rs:=[.tmp 4]) za0 mixed Tryz.func95 rfl rfl rfl (by kernel_rfl) fun hl=>?_
 simp (maxSteps:=9^7) -dsimp only [↓gp,gq,reduceCtorEq,reduceEqDiff,reduceLT,reduceLeDiff,reduceAdd,reduceMul,reduceSub,Nat.reduceBEq,Int.reduceToNat,Int.reduceLE,Int.reduceLT,Int.reduceNeg,reduceMod,gT]
 refine ⟨by omega,by omega,?_⟩
 refine zvg (k:=12) (v:=1) (e:=24) (e2:=3) (n:=M.length) (by simp (maxSteps:=9^7) -dsimp only [gr,reduceEqDiff,reduceLT,reduceAdd,reduceMod,Nat.reduceBEq]) (fun j=>by simp (maxSteps:=9^7) -dsimp only [gr,reduceEqDiff,reduceLT,reduceAdd,reduceMod,Nat.reduceBEq]) (fun (i:Nat) s=>s.sl 0 = zo6 M∧s.sl 1 = int p∧s.sl 5 = .own 12 1∧s.sl 13 = zo6 M∧s.sl 14 = int M.length∧s.sl 15 = int i∧(i ≤ M.length∧TabP s.rw 12 1 24 3 M.length i (zgB p (M.take i)))) (fun i=>M.length - i) (0) (fun sX htX hslX hoX=>(by refine ⟨?_,?_,?_,?_,?_,?_,⟨by omega,htX⟩⟩ <;> (first | (simp (maxSteps:=9^7) -dsimp only [gr,reduceEqDiff,reduceLT,reduceAdd,reduceMod,Nat.reduceBEq,hslX,hoX];first | done | rfl | (simp;done)) | assumption | rfl))) ?_
 intro i sa ⟨h0a,h1a,h5a,h13a,h14a,h15a,hIa⟩
 obtain ⟨hi,ht⟩:=hIa
 simp (maxSteps:=9^7) -dsimp only [↓gp,gq,reduceCtorEq,reduceEqDiff,reduceLT,reduceLeDiff,reduceAdd,reduceMul,reduceSub,Nat.reduceBEq,Int.reduceToNat,Int.reduceLE,Int.reduceLT,Int.reduceNeg,reduceMod,gT,h0a,h1a,h5a,h13a,h14a,h15a,ht.top,zbp]
 refine ⟨fun h=>⟨h,h,by have:=hr i h;omega,by have:=hr i h;omega,h,by omega,?_⟩,fun h=>?_⟩
 ·have hri:=hr i h
  have hlen:=zhs p hi
  generalize hrow:M.getD i [] = row at *
  refine zrj (k:=12) (v:=1) (e:=24) (e2:=3) (n:=M.length) (i:=i) (d:=24) (vd:=(sa.rw 24).ver + 1) (M:=zgB p (M.take i)) (r:=List.replicate row.length 0) (by simp (maxSteps:=9^7) -dsimp only [gr,reduceEqDiff,reduceLT,reduceAdd,reduceMod,Nat.reduceBEq,ht.top]) hlen (fun j hj=>by simp (maxSteps:=9^7) -dsimp only [gr,reduceEqDiff,reduceLT,reduceAdd,reduceMod,Nat.reduceBEq,ht.row j hj]) (fun j hj=>by simp (maxSteps:=9^7) -dsimp only [gr,reduceEqDiff,reduceLT,reduceAdd,reduceMod,Nat.reduceBEq,ht.rest j hj]) (by simp (maxSteps:=9^7) -dsimp only [gr,reduceEqDiff,reduceLT,reduceAdd,reduceMod,Nat.reduceBEq]) (by decide) (by decide) h (fun (j:Nat) s=>s.sl 0 = zo6 M∧s.sl 1 = int p∧s.sl 5 = .own 12 1∧s.sl 13 = zo6 M∧s.sl 14 = int M.length∧s.sl 15 = int i∧s.sl 6 = int i∧s.sl 7 = zbr row∧s.sl 26 = zbr row∧s.sl 27 = int row.length∧s.sl 28 = int j∧(j ≤ row.length∧TabP s.rw 12 1 24 3 M.length (i + 1) (zgB p (M.take i) ++ [prt (row.map fun x=>x % p) (List.replicate row.length 0) j]))) (fun j=>row.length - j) (0) (fun sX htX hslX hoX=>(by refine ⟨?_,?_,?_,?_,?_,?_,?_,?_,?_,?_,?_,⟨by omega,by rw [zes];exact htX⟩⟩ <;> (first | (simp (maxSteps:=9^7) -dsimp only [gr,reduceEqDiff,reduceLT,reduceAdd,reduceMod,Nat.reduceBEq,hslX,hoX,h0a,h1a,h5a,h13a,h14a,h15a];first | done | rfl | (simp;done)) | assumption | rfl))) ?_
  intro j sb ⟨h0b,h1b,h5b,h13b,h14b,h15b,h6b,h7b,h26b,h27b,h28b,hIb⟩
  obtain ⟨hj,ht2⟩:=hIb
  have hrr:=ht2.row i (by omega)
  rw [zrk hlen] at hrr
  have hpl:∀ t,(prt (row.map fun x=>x % p) (List.replicate row.length 0) t).length = row.length:=fun t=>by rw [zcF (by simp)];simp
  simp (maxSteps:=9^7) -dsimp only [↓gp,gq,reduceCtorEq,reduceEqDiff,reduceLT,reduceLeDiff,reduceAdd,reduceMul,reduceSub,Nat.reduceBEq,Int.reduceToNat,Int.reduceLE,Int.reduceLT,Int.reduceNeg,reduceMod,gT,h0b,h1b,h5b,h13b,h14b,h15b,h6b,h7b,h26b,h27b,h28b,ht2.top,zkU,hrr,hpl,zbp]
  refine ⟨fun h2=>⟨h2,h2,by kernel_rfl,h,h,zab (zf6 _ p hp) ?_⟩,fun h2=>?_⟩
  ·simp (maxSteps:=9^7) -dsimp only [↓gp,gq,reduceCtorEq,reduceEqDiff,reduceLT,reduceLeDiff,reduceAdd,reduceMul,reduceSub,Nat.reduceBEq,Int.reduceToNat,Int.reduceLE,Int.reduceLT,Int.reduceNeg,reduceMod,gT,h0b,h1b,h5b,h13b,h14b,h15b,h6b,h7b,h26b,h27b,h28b,ht2.top,zkU,hrr,hpl,zbp]
   refine ⟨h2,by omega,by kernel_rfl,zac (j + 1) ⟨(by (first | (simp (maxSteps:=9^7) -dsimp only [gr,reduceEqDiff,reduceLT,reduceAdd,reduceMod,Nat.reduceBEq,h0b,h1b,h5b,h13b,h14b,h15b,h6b,h7b,h26b,h27b,h28b,zaa h2 (by omega)];first | done | rfl | (simp;done)) | assumption | rfl)),(by (first | (simp (maxSteps:=9^7) -dsimp only [gr,reduceEqDiff,reduceLT,reduceAdd,reduceMod,Nat.reduceBEq,h0b,h1b,h5b,h13b,h14b,h15b,h6b,h7b,h26b,h27b,h28b,zaa h2 (by omega)];first | done | rfl | (simp;done)) | assumption | rfl)),(by (first | (simp (maxSteps:=9^7) -dsimp only [gr,reduceEqDiff,reduceLT,reduceAdd,reduceMod,Nat.reduceBEq,h0b,h1b,h5b,h13b,h14b,h15b,h6b,h7b,h26b,h27b,h28b,zaa h2 (by omega)];first | done | rfl | (simp;done)) | assumption | rfl)),(by (first | (simp (maxSteps:=9^7) -dsimp only [gr,reduceEqDiff,reduceLT,reduceAdd,reduceMod,Nat.reduceBEq,h0b,h1b,h5b,h13b,h14b,h15b,h6b,h7b,h26b,h27b,h28b,zaa h2 (by omega)];first | done | rfl | (simp;done)) | assumption | rfl)),(by (first | (simp (maxSteps:=9^7) -dsimp only [gr,reduceEqDiff,reduceLT,reduceAdd,reduceMod,Nat.reduceBEq,h0b,h1b,h5b,h13b,h14b,h15b,h6b,h7b,h26b,h27b,h28b,zaa h2 (by omega)];first | done | rfl | (simp;done)) | assumption | rfl)),(by (first | (simp (maxSteps:=9^7) -dsimp only [gr,reduceEqDiff,reduceLT,reduceAdd,reduceMod,Nat.reduceBEq,h0b,h1b,h5b,h13b,h14b,h15b,h6b,h7b,h26b,h27b,h28b,zaa h2 (by omega)];first | done | rfl | (simp;done)) | assumption | rfl)),(by (first | (simp (maxSteps:=9^7) -dsimp only [gr,reduceEqDiff,reduceLT,reduceAdd,reduceMod,Nat.reduceBEq,h0b,h1b,h5b,h13b,h14b,h15b,h6b,h7b,h26b,h27b,h28b,zaa h2 (by omega)];first | done | rfl | (simp;done)) | assumption | rfl)),(by (first | (simp (maxSteps:=9^7) -dsimp only [gr,reduceEqDiff,reduceLT,reduceAdd,reduceMod,Nat.reduceBEq,h0b,h1b,h5b,h13b,h14b,h15b,h6b,h7b,h26b,h27b,h28b,zaa h2 (by omega)];first | done | rfl | (simp;done)) | assumption | rfl)),(by (first | (simp (maxSteps:=9^7) -dsimp only [gr,reduceEqDiff,reduceLT,reduceAdd,reduceMod,Nat.reduceBEq,h0b,h1b,h5b,h13b,h14b,h15b,h6b,h7b,h26b,h27b,h28b,zaa h2 (by omega)];first | done | rfl | (simp;done)) | assumption | rfl)),(by (first | (simp (maxSteps:=9^7) -dsimp only [gr,reduceEqDiff,reduceLT,reduceAdd,reduceMod,Nat.reduceBEq,h0b,h1b,h5b,h13b,h14b,h15b,h6b,h7b,h26b,h27b,h28b,zaa h2 (by omega)];first | done | rfl | (simp;done)) | assumption | rfl)),(by (first | (simp (maxSteps:=9^7) -dsimp only [gr,reduceEqDiff,reduceLT,reduceAdd,reduceMod,Nat.reduceBEq,h0b,h1b,h5b,h13b,h14b,h15b,h6b,h7b,h26b,h27b,h28b,zaa h2 (by omega)];first | done | rfl | (simp;done)) | assumption | rfl)),⟨by omega,?_⟩⟩ (by first | omega | (simp only;omega) | (dsimp only;omega) | (show _ < _;simp;omega))⟩
   have e:zgB p (M.take i) ++ [prt (row.map fun x=>x % p) (List.replicate row.length 0) (j + 1)] = (zgB p (M.take i) ++ [prt (row.map fun x=>x % p) (List.replicate row.length 0) j]).set i ((prt (row.map fun x=>x % p) (List.replicate row.length 0) j).set j (row.getD j 0 % p)):=by
    rw [zvh hlen,← zgm (by simp) (by simpa using h2),zvu p h2]
   rw [e]
   exact ht2.set (by omega) (by simp (maxSteps:=9^7) -dsimp only [gr,reduceEqDiff,reduceLT,reduceAdd,reduceMod,Nat.reduceBEq,h0b,h1b,h5b,h13b,h14b,h15b,h6b,h7b,h26b,h27b,h28b]) (by simp (maxSteps:=9^7) -dsimp only [gr,reduceEqDiff,reduceLT,reduceAdd,reduceMod,Nat.reduceBEq,h0b,h1b,h5b,h13b,h14b,h15b,h6b,h7b,h26b,h27b,h28b]) (fun x hx=>by simp (maxSteps:=9^7) -dsimp only [gr,reduceEqDiff,reduceLT,reduceAdd,reduceMod,Nat.reduceBEq,h0b,h1b,h5b,h13b,h14b,h15b,h6b,h7b,h26b,h27b,h28b,hx])
  ·have:j = row.length:=by omega
   subst this
   refine zac (i + 1) ⟨(by (first | (simp (maxSteps:=9^7) -dsimp only [gr,reduceEqDiff,reduceLT,reduceAdd,reduceMod,Nat.reduceBEq,h0a,h1a,h5a,h13a,h14a,h15a,h0b,h1b,h5b,h13b,h14b,h15b,h6b,h7b,h26b,h27b,h28b,zaa h (by omega)];first | done | rfl | (simp;done)) | assumption | rfl)),(by (first | (simp (maxSteps:=9^7) -dsimp only [gr,reduceEqDiff,reduceLT,reduceAdd,reduceMod,Nat.reduceBEq,h0a,h1a,h5a,h13a,h14a,h15a,h0b,h1b,h5b,h13b,h14b,h15b,h6b,h7b,h26b,h27b,h28b,zaa h (by omega)];first | done | rfl | (simp;done)) | assumption | rfl)),(by (first | (simp (maxSteps:=9^7) -dsimp only [gr,reduceEqDiff,reduceLT,reduceAdd,reduceMod,Nat.reduceBEq,h0a,h1a,h5a,h13a,h14a,h15a,h0b,h1b,h5b,h13b,h14b,h15b,h6b,h7b,h26b,h27b,h28b,zaa h (by omega)];first | done | rfl | (simp;done)) | assumption | rfl)),(by (first | (simp (maxSteps:=9^7) -dsimp only [gr,reduceEqDiff,reduceLT,reduceAdd,reduceMod,Nat.reduceBEq,h0a,h1a,h5a,h13a,h14a,h15a,h0b,h1b,h5b,h13b,h14b,h15b,h6b,h7b,h26b,h27b,h28b,zaa h (by omega)];first | done | rfl | (simp;done)) | assumption | rfl)),(by (first | (simp (maxSteps:=9^7) -dsimp only [gr,reduceEqDiff,reduceLT,reduceAdd,reduceMod,Nat.reduceBEq,h0a,h1a,h5a,h13a,h14a,h15a,h0b,h1b,h5b,h13b,h14b,h15b,h6b,h7b,h26b,h27b,h28b,zaa h (by omega)];first | done | rfl | (simp;done)) | assumption | rfl)),(by (first | (simp (maxSteps:=9^7) -dsimp only [gr,reduceEqDiff,reduceLT,reduceAdd,reduceMod,Nat.reduceBEq,h0a,h1a,h5a,h13a,h14a,h15a,h0b,h1b,h5b,h13b,h14b,h15b,h6b,h7b,h26b,h27b,h28b,zaa h (by omega)];first | done | rfl | (simp;done)) | assumption | rfl)),⟨by omega,?_⟩⟩ (by first | omega | (simp only;omega) | (dsimp only;omega) | (show _ < _;simp;omega))
   have e:prt (row.map fun x=>x % p) (List.replicate row.length 0) row.length = row.map fun x=>x % p:=by
    have:=zgl (new:=row.map fun x=>x % p) (old:=List.replicate row.length 0) (by simp)
    simpa using this
   have ht3:=ht2
   rw [e,← hrow,zrx p h] at ht3
   exact ht3.same (by simp (maxSteps:=9^7) -dsimp only [gr,reduceEqDiff,reduceLT,reduceAdd,reduceMod,Nat.reduceBEq]) (fun x=>by simp (maxSteps:=9^7) -dsimp only [gr,reduceEqDiff,reduceLT,reduceAdd,reduceMod,Nat.reduceBEq])
 ·have:i = M.length:=by omega
  subst this
  rw [List.take_length] at ht
  exact zd8 ht.done (by decide) (fun j hj=>by have:=List.mem_range.1 hj;omega)
theorem zhr {a b p:Int} (h1:0 ≤ a∧a < p) (h2:0 ≤ b∧b ≤ 5) (hp:p ≤ 5):0 ≤ a * b∧a * b ≤ 25:=by
 refine ⟨Int.mul_nonneg h1.1 h2.1,?_⟩
 have:=Int.mul_le_mul (show a ≤ 5 by omega) h2.2 h2.1 (by omega)
 omega
theorem zCf (l:List Int) (j:Nat):prt l l j = l:=by simp [prt]
theorem zlf (M:Mat) (n a c:Nat) (p:Int) (hp:isP p = true) (hM:MatOk p n M) (ha:a < M.length) (hc:c < n) (hn:n ≤ 1000):AT Tryz.prog 110 [.own 1000000 1,int a,int c,int p] 24 3 (M.map iL) ((zdz p a c M).map iL) .self:=by
 refine AT.goI (rs:=[.tmp 8]) za0 mixed Tryz.func110 rfl rfl rfl (by kernel_rfl) (za8 p a c M) fun hl s hs hlow ht=>?_
 have hp2:=zbY hp
 have hlen:=hM.len a ha
 have hres:=hM.res a ha
 have hac:=hres c
 have hra:=ht.row ha
 have hq:∀ i,i < M.length→(List.range M.length).getD i 0 = i:=fun i hi=>by simp [List.getD,hi]
 rw [hq a ha] at hra
 simp (maxSteps:=9^7) -dsimp only [↓gp,gq,reduceCtorEq,reduceEqDiff,reduceLT,reduceLeDiff,reduceAdd,reduceMul,reduceSub,Nat.reduceBEq,Int.reduceToNat,Int.reduceLE,Int.reduceLT,Int.reduceNeg,reduceMod,gT,hs,hlow,ht.top,hra,hq a ha]
 refine ⟨ha,ha,by omega,by omega,zab (zh0 _ p hp) ?_⟩
 generalize hb:zk4 p ((M.getD a []).getD c 0) = b at *
 have hbb:=zAg hp ((M.getD a []).getD c 0)
 rw [hb] at hbb
 simp (maxSteps:=9^7) -dsimp only [↓gp,gq,reduceCtorEq,reduceEqDiff,reduceLT,reduceLeDiff,reduceAdd,reduceMul,reduceSub,Nat.reduceBEq,Int.reduceToNat,Int.reduceLE,Int.reduceLT,Int.reduceNeg,reduceMod,gT,hs,hlow]
 generalize hold:M.getD a [] = old at *
 refine zan (fun (j:Nat) s=>s.sl 0 = .own 1000000 1∧s.sl 1 = int a∧s.sl 2 = int c∧s.sl 3 = int p∧s.sl 9 = int b∧s.sl 10 = int j∧(j ≤ n∧TabI s.rw 1000000 1 24 3 (List.range M.length) (M.set a (prt (scl p b old) old j)))) (fun j=>n - j) (0) (by refine ⟨?_,?_,?_,?_,?_,?_,⟨by omega,by rw [zes,← hold,zb4];exact ht.same (by simp (maxSteps:=9^7) -dsimp only [gr,reduceEqDiff,reduceLT,reduceAdd,reduceMod,Nat.reduceBEq]) (fun x=>by simp (maxSteps:=9^7) -dsimp only [gr,reduceEqDiff,reduceLT,reduceAdd,reduceMod,Nat.reduceBEq])⟩⟩ <;> (first | (simp (maxSteps:=9^7) -dsimp only [gr,reduceEqDiff,reduceLT,reduceAdd,reduceMod,Nat.reduceBEq,hs];first | done | rfl | (simp;done)) | assumption | rfl)) ?_
 intro j sa ⟨h0a,h1a,h2a,h3a,h9a,h10a,hIa⟩
 obtain ⟨hj,ht1⟩:=hIa
 have hset:a < (M.set a (prt (scl p b old) old j)).length:=by simpa using ha
 have hr1:=ht1.row hset
 have hpl:(prt (scl p b old) old j).length = n:=by rw [zcF (zbN p b old)];exact hlen
 rw [zaA ha,hq a ha] at hr1
 have hpj:=zjt (zbN p b old) (Nat.le_refl j)
 have hoj:=hres j
 have hmb:=zhr hoj ⟨hbb.1,by omega⟩ hp2.2
 have hw:IntKind.i64.wrap (old.getD j 0 * b) = old.getD j 0 * b:=zam (by omega) (by omega)
 simp (maxSteps:=9^7) -dsimp only [↓gp,gq,reduceCtorEq,reduceEqDiff,reduceLT,reduceLeDiff,reduceAdd,reduceMul,reduceSub,Nat.reduceBEq,Int.reduceToNat,Int.reduceLE,Int.reduceLT,Int.reduceNeg,reduceMod,gT,h0a,h1a,h2a,h3a,h9a,h10a,ht1.top,hr1,hq a ha,hpl,hpj,hw,zdY hmb.1]
 refine ⟨ha,ha,fun h=>⟨by kernel_rfl,ha,ha,ha,ha,h,h,by omega,h,by omega,by kernel_rfl,?_⟩,fun h=>?_⟩
 ·refine zac (j + 1) ⟨(by (first | (simp (maxSteps:=9^7) -dsimp only [gr,reduceEqDiff,reduceLT,reduceAdd,reduceMod,Nat.reduceBEq,h0a,h1a,h2a,h3a,h9a,h10a,zaa h (by omega)];first | done | rfl | (simp;done)) | assumption | rfl)),(by (first | (simp (maxSteps:=9^7) -dsimp only [gr,reduceEqDiff,reduceLT,reduceAdd,reduceMod,Nat.reduceBEq,h0a,h1a,h2a,h3a,h9a,h10a,zaa h (by omega)];first | done | rfl | (simp;done)) | assumption | rfl)),(by (first | (simp (maxSteps:=9^7) -dsimp only [gr,reduceEqDiff,reduceLT,reduceAdd,reduceMod,Nat.reduceBEq,h0a,h1a,h2a,h3a,h9a,h10a,zaa h (by omega)];first | done | rfl | (simp;done)) | assumption | rfl)),(by (first | (simp (maxSteps:=9^7) -dsimp only [gr,reduceEqDiff,reduceLT,reduceAdd,reduceMod,Nat.reduceBEq,h0a,h1a,h2a,h3a,h9a,h10a,zaa h (by omega)];first | done | rfl | (simp;done)) | assumption | rfl)),(by (first | (simp (maxSteps:=9^7) -dsimp only [gr,reduceEqDiff,reduceLT,reduceAdd,reduceMod,Nat.reduceBEq,h0a,h1a,h2a,h3a,h9a,h10a,zaa h (by omega)];first | done | rfl | (simp;done)) | assumption | rfl)),(by (first | (simp (maxSteps:=9^7) -dsimp only [gr,reduceEqDiff,reduceLT,reduceAdd,reduceMod,Nat.reduceBEq,h0a,h1a,h2a,h3a,h9a,h10a,zaa h (by omega)];first | done | rfl | (simp;done)) | assumption | rfl)),⟨by omega,?_⟩⟩ (by first | omega | (simp only;omega) | (dsimp only;omega) | (show _ < _;simp;omega))
  have e:M.set a (prt (scl p b old) old (j + 1)) = (M.set a (prt (scl p b old) old j)).set a ((prt (scl p b old) old j).set j (old.getD j 0 * b % p)):=by
   rw [zoi,← zgm (zbN p b old) (by omega),zfE p b (by omega)]
  rw [e]
  refine ht1.set hset (by simp (maxSteps:=9^7) -dsimp only [gr,reduceEqDiff,reduceLT,reduceAdd,reduceMod,Nat.reduceBEq,h0a,h1a,h2a,h3a,h9a,h10a]) ?_ (fun x hx=>?_)
  ·rw [hq a ha];simp (maxSteps:=9^7) -dsimp only [gr,reduceEqDiff,reduceLT,reduceAdd,reduceMod,Nat.reduceBEq,h0a,h1a,h2a,h3a,h9a,h10a]
  ·rw [hq a ha] at hx
   simp (maxSteps:=9^7) -dsimp only [gr,reduceEqDiff,reduceLT,reduceAdd,reduceMod,Nat.reduceBEq,h0a,h1a,h2a,h3a,h9a,h10a,hx]
 have:j = n:=by omega
 subst this
 have hend:prt (scl p b old) old j = scl p b old:=by rw [← hlen];exact zgl (zbN p b old)
 rw [hend] at ht1
 have hclr:M.set a (scl p b old) = zro p a c M:=by unfold zro;rw [hold,hb]
 rw [hclr] at ht1
 have hM1:=zsB (p:=p) (n:=j) (at':=a) (col:=c) (by omega) hM ha
 have hl1:(zro p a c M).length = M.length:=zcG p a c M
 have hgoal:zdz p a c M = zfF p a c (zro p a c M) M.length:=rfl
 rw [hgoal]
 generalize zro p a c M = M1 at *
 refine zan (fun (i:Nat) s=>s.sl 0 = .own 1000000 1∧s.sl 1 = int a∧s.sl 2 = int c∧s.sl 3 = int p∧s.sl 11 = int i∧(i ≤ M.length∧TabI s.rw 1000000 1 24 3 (List.range M.length) (zfF p a c M1 i))) (fun i=>M.length - i) (0) (by refine ⟨?_,?_,?_,?_,?_,⟨by omega,by rw [zrp];exact ht1.same (by simp (maxSteps:=9^7) -dsimp only [gr,reduceEqDiff,reduceLT,reduceAdd,reduceMod,Nat.reduceBEq]) (fun x=>by simp (maxSteps:=9^7) -dsimp only [gr,reduceEqDiff,reduceLT,reduceAdd,reduceMod,Nat.reduceBEq])⟩⟩ <;> (first | (simp (maxSteps:=9^7) -dsimp only [gr,reduceEqDiff,reduceLT,reduceAdd,reduceMod,Nat.reduceBEq,h0a,h1a,h2a,h3a,h9a,h10a];first | done | rfl | (simp;done)) | assumption | rfl)) ?_
 intro i sb ⟨h0b,h1b,h2b,h3b,h11b,hIb⟩
 obtain ⟨hi,ht2⟩:=hIb
 have hlN:(zfF p a c M1 i).length = M.length:=by rw [zbG,hl1]
 simp (maxSteps:=9^7) -dsimp only [↓gp,gq,reduceCtorEq,reduceEqDiff,reduceLT,reduceLeDiff,reduceAdd,reduceMul,reduceSub,Nat.reduceBEq,Int.reduceToNat,Int.reduceLE,Int.reduceLT,Int.reduceNeg,reduceMod,gT,h0b,h1b,h2b,h3b,h11b,ht2.top]
 refine ⟨fun h=>?_,fun h=>?_⟩
 ·have hi1:i < M1.length:=by omega
  have hr2:=ht2.row (i:=i) (by omega)
  rw [zhX p a c hi1 (Nat.le_refl i),hq i h] at hr2
  have hl2:=hM1.len i hi1
  have hres2:=hM1.res i hi1
  generalize hold2:M1.getD i [] = old2 at *
  simp (maxSteps:=9^7) -dsimp only [↓gp,gq,reduceCtorEq,reduceEqDiff,reduceLT,reduceLeDiff,reduceAdd,reduceMul,reduceSub,Nat.reduceBEq,Int.reduceToNat,Int.reduceLE,Int.reduceLT,Int.reduceNeg,reduceMod,gT,h0b,h1b,h2b,h3b,h11b,ht2.top,hr2,hq i h]
  refine ⟨h,h,by omega,by omega,?_⟩
  have hf:=hres2 c
  generalize hfe:old2.getD c 0 = f at *
  have hra1:a < M1.length:=by omega
  have hnew:(zgA p a c M1 i).length = old2.length:=by
   rw [(zoj (p:=p) (by omega) hM1 hi1).1,hl2]
  refine zan (fun (t:Nat) s=>s.sl 0 = .own 1000000 1∧s.sl 1 = int a∧s.sl 2 = int c∧s.sl 3 = int p∧s.sl 11 = int i∧s.sl 12 = int f∧s.sl 13 = int t∧(t ≤ old2.length∧TabI s.rw 1000000 1 24 3 (List.range M.length) ((zfF p a c M1 i).set i (prt (zgA p a c M1 i) old2 t)))) (fun t=>old2.length - t) (0) (by refine ⟨?_,?_,?_,?_,?_,?_,?_,⟨by omega,(ht2.same (by simp (maxSteps:=9^7) -dsimp only [gr,reduceEqDiff,reduceLT,reduceAdd,reduceMod,Nat.reduceBEq]) (fun x=>by simp (maxSteps:=9^7) -dsimp only [gr,reduceEqDiff,reduceLT,reduceAdd,reduceMod,Nat.reduceBEq])).to (by rw [zes,← hold2,← zhX p a c hi1 (Nat.le_refl i),zb4])⟩⟩ <;> (first | (simp (maxSteps:=9^7) -dsimp only [gr,reduceEqDiff,reduceLT,reduceAdd,reduceMod,Nat.reduceBEq,h0b,h1b,h2b,h3b,h11b];first | done | rfl | (simp;done)) | assumption | rfl)) ?_
  intro t sc ⟨h0c,h1c,h2c,h3c,h11c,h12c,h13c,hIc⟩
  obtain ⟨ht',ht3⟩:=hIc
  have hls:((zfF p a c M1 i).set i (prt (zgA p a c M1 i) old2 t)).length = M.length:=by rw [List.length_set,hlN]
  have hr3:=ht3.row (i:=i) (by omega)
  rw [zaA (by omega),hq i h] at hr3
  have hpl3:(prt (zgA p a c M1 i) old2 t).length = old2.length:=zcF hnew t
  have hpj3:=zjt hnew (Nat.le_refl t)
  simp (maxSteps:=9^7) -dsimp only [↓gp,gq,reduceCtorEq,reduceEqDiff,reduceLT,reduceLeDiff,reduceAdd,reduceMul,reduceSub,Nat.reduceBEq,Int.reduceToNat,Int.reduceLE,Int.reduceLT,Int.reduceNeg,reduceMod,gT,h0c,h1c,h2c,h3c,h11c,h12c,h13c,ht3.top,hr3,hq i h,hpl3]
  refine ⟨h,h,fun h2=>⟨fun hne=>?_,fun heq=>?_⟩,fun h2=>?_⟩
  ·have hia:¬ i = a:=by
    intro e
    simp [e] at hne
   have hr4:=ht3.row (i:=a) (by omega)
   rw [zbc hia,zAi p a c i hra1,hq a ha] at hr4
   have hla:=hM1.len a hra1
   have hresa:=hM1.res a hra1
   have hcI:zgA p a c M1 i = sbt p f (M1.getD a []) old2:=by unfold zgA;rw [if_neg hia,hold2,hfe]
   generalize hpiv:M1.getD a [] = piv at *
   have hft:=zhr hf ⟨(hresa t).1,by have:=(hresa t).2;omega⟩ hp2.2
   have hot:=hres2 t
   have hw3:IntKind.i64.wrap (f * piv.getD t 0) = f * piv.getD t 0:=zam (by omega) (by omega)
   have hw4:IntKind.i64.wrap (old2.getD t 0 - f * piv.getD t 0) = old2.getD t 0 - f * piv.getD t 0:=zam (by omega) (by omega)
   simp (maxSteps:=9^7) -dsimp only [↓gp,gq,reduceCtorEq,reduceEqDiff,reduceLT,reduceLeDiff,reduceAdd,reduceMul,reduceSub,Nat.reduceBEq,Int.reduceToNat,Int.reduceLE,Int.reduceLT,Int.reduceNeg,reduceMod,gT,h0c,h1c,h2c,h3c,h11c,h12c,h13c,ht3.top,hr3,hq i h,hpl3,hr4,hq a ha,hpj3,hw3,hw4]
   refine ⟨by kernel_rfl,h,h,h,h,h2,h2,ha,ha,by omega,by omega,zab (zet _ p hp) ?_⟩
   simp (maxSteps:=9^7) -dsimp only [↓gp,gq,reduceCtorEq,reduceEqDiff,reduceLT,reduceLeDiff,reduceAdd,reduceMul,reduceSub,Nat.reduceBEq,Int.reduceToNat,Int.reduceLE,Int.reduceLT,Int.reduceNeg,reduceMod,gT,h0c,h1c,h2c,h3c,h11c,h12c,h13c,ht3.top,hr3,hq i h,hpl3,hr4,hq a ha,hpj3,hw3,hw4]
   refine ⟨h2,by omega,by kernel_rfl,zac (t + 1) ⟨(by (first | (simp (maxSteps:=9^7) -dsimp only [gr,reduceEqDiff,reduceLT,reduceAdd,reduceMod,Nat.reduceBEq,h0c,h1c,h2c,h3c,h11c,h12c,h13c,zaa h2 (by omega)];first | done | rfl | (simp;done)) | assumption | rfl)),(by (first | (simp (maxSteps:=9^7) -dsimp only [gr,reduceEqDiff,reduceLT,reduceAdd,reduceMod,Nat.reduceBEq,h0c,h1c,h2c,h3c,h11c,h12c,h13c,zaa h2 (by omega)];first | done | rfl | (simp;done)) | assumption | rfl)),(by (first | (simp (maxSteps:=9^7) -dsimp only [gr,reduceEqDiff,reduceLT,reduceAdd,reduceMod,Nat.reduceBEq,h0c,h1c,h2c,h3c,h11c,h12c,h13c,zaa h2 (by omega)];first | done | rfl | (simp;done)) | assumption | rfl)),(by (first | (simp (maxSteps:=9^7) -dsimp only [gr,reduceEqDiff,reduceLT,reduceAdd,reduceMod,Nat.reduceBEq,h0c,h1c,h2c,h3c,h11c,h12c,h13c,zaa h2 (by omega)];first | done | rfl | (simp;done)) | assumption | rfl)),(by (first | (simp (maxSteps:=9^7) -dsimp only [gr,reduceEqDiff,reduceLT,reduceAdd,reduceMod,Nat.reduceBEq,h0c,h1c,h2c,h3c,h11c,h12c,h13c,zaa h2 (by omega)];first | done | rfl | (simp;done)) | assumption | rfl)),(by (first | (simp (maxSteps:=9^7) -dsimp only [gr,reduceEqDiff,reduceLT,reduceAdd,reduceMod,Nat.reduceBEq,h0c,h1c,h2c,h3c,h11c,h12c,h13c,zaa h2 (by omega)];first | done | rfl | (simp;done)) | assumption | rfl)),(by (first | (simp (maxSteps:=9^7) -dsimp only [gr,reduceEqDiff,reduceLT,reduceAdd,reduceMod,Nat.reduceBEq,h0c,h1c,h2c,h3c,h11c,h12c,h13c,zaa h2 (by omega)];first | done | rfl | (simp;done)) | assumption | rfl)),⟨by omega,?_⟩⟩ (by first | omega | (simp only;omega) | (dsimp only;omega) | (show _ < _;simp;omega))⟩
   have e:(zfF p a c M1 i).set i (prt (zgA p a c M1 i) old2 (t + 1)) = ((zfF p a c M1 i).set i (prt (zgA p a c M1 i) old2 t)).set i ((prt (zgA p a c M1 i) old2 t).set t ((old2.getD t 0 - f * piv.getD t 0) % p)):=by
    rw [zoi,← zgm hnew h2,← zdg p f (piv:=piv) h2,hcI]
   rw [e]
   refine ht3.set (by omega) (by simp (maxSteps:=9^7) -dsimp only [gr,reduceEqDiff,reduceLT,reduceAdd,reduceMod,Nat.reduceBEq,h0c,h1c,h2c,h3c,h11c,h12c,h13c]) ?_ (fun x hx=>?_)
   ·rw [hq i h];simp (maxSteps:=9^7) -dsimp only [gr,reduceEqDiff,reduceLT,reduceAdd,reduceMod,Nat.reduceBEq,h0c,h1c,h2c,h3c,h11c,h12c,h13c]
   ·rw [hq i h] at hx
    simp (maxSteps:=9^7) -dsimp only [gr,reduceEqDiff,reduceLT,reduceAdd,reduceMod,Nat.reduceBEq,h0c,h1c,h2c,h3c,h11c,h12c,h13c,hx]
  ·have hia:i = a:=by
    have h9:(i:Int) = a:=by simpa using heq
    omega
   have hcI:zgA p a c M1 i = old2:=by unfold zgA;rw [if_pos hia,hold2]
   have ht4:=ht3
   rw [hcI,zCf,← hcI,zfh p a c hi1] at ht4
   exact zac (i + 1) (by refine ⟨?_,?_,?_,?_,?_,⟨by omega,ht4.same (by simp (maxSteps:=9^7) -dsimp only [gr,reduceEqDiff,reduceLT,reduceAdd,reduceMod,Nat.reduceBEq]) (fun x=>by simp (maxSteps:=9^7) -dsimp only [gr,reduceEqDiff,reduceLT,reduceAdd,reduceMod,Nat.reduceBEq])⟩⟩ <;> (first | (simp (maxSteps:=9^7) -dsimp only [gr,reduceEqDiff,reduceLT,reduceAdd,reduceMod,Nat.reduceBEq,h0b,h1b,h2b,h3b,h11b,h0c,h1c,h2c,h3c,h11c,h12c,h13c,zaa h (by omega)];first | done | rfl | (simp;done)) | assumption | rfl)) (by first | omega | (simp only;omega) | (dsimp only;omega) | (show _ < _;simp;omega))
  ·have:t = old2.length:=by omega
   have ht4:=ht3
   rw [this,zgl hnew,zfh p a c hi1] at ht4
   exact zac (i + 1) (by refine ⟨?_,?_,?_,?_,?_,⟨by omega,ht4.same (by simp (maxSteps:=9^7) -dsimp only [gr,reduceEqDiff,reduceLT,reduceAdd,reduceMod,Nat.reduceBEq]) (fun x=>by simp (maxSteps:=9^7) -dsimp only [gr,reduceEqDiff,reduceLT,reduceAdd,reduceMod,Nat.reduceBEq])⟩⟩ <;> (first | (simp (maxSteps:=9^7) -dsimp only [gr,reduceEqDiff,reduceLT,reduceAdd,reduceMod,Nat.reduceBEq,h0b,h1b,h2b,h3b,h11b,h0c,h1c,h2c,h3c,h11c,h12c,h13c,zaa h (by omega)];first | done | rfl | (simp;done)) | assumption | rfl)) (by first | omega | (simp only;omega) | (dsimp only;omega) | (show _ < _;simp;omega))
 ·have:i = M.length:=by omega
  rw [this] at ht2
  exact zkS (ht2.same (by simp (maxSteps:=9^7) -dsimp only [gr,reduceEqDiff,reduceLT,reduceAdd,reduceMod,Nat.reduceBEq]) (fun x=>by simp (maxSteps:=9^7) -dsimp only [gr,reduceEqDiff,reduceLT,reduceAdd,reduceMod,Nat.reduceBEq])) (List.Perm.refl _)
end Go.Proofs.YtjikeknpidbceaaGreatDoor
