/- DERIVED by an AI agent. -/
import Derived.Test.YtpnknaaehcljoaaQ1
import Derived.Test.YtpnknaaehcljoaaP1
namespace Go.Proofs.Ytpnknaaehcljoaa
open Go.Abs
open Nat (reduceEqDiff reduceMod reduceAdd reduceLT reduceLeDiff reduceSub reduceMul)
set_option linter.unusedSimpArgs false
set_option linter.unusedVariables false
def okS (xs:List Int):Prop:=∀ x ∈ xs,0 ≤ x∧x < 64
theorem znW {xs:List Int} (h:okS xs) {k:Nat} (hk:k < xs.length):0 ≤ xs.getD k 0∧xs.getD k 0 < 64:=h _ (zat 0 hk)
theorem zcw {n:Int} {xs:List Int} (h:zcN n xs = true):okS xs:=fun x hx=>by
 obtain ⟨i,hi,rfl⟩:=zbq 0 hx
 exact zgG ((zbH.1 h).2.2 i hi).1
theorem znX {x:Int} (hx:0 ≤ x∧x < 64) {s:Nat} (hs:s < 64):(zcZ .i64 x (s:Int) == (s:Int)) = (x.toNat &&& s == s):=by
 have e:x = ((x.toNat:Nat):Int):=by omega
 rw [e,za4 (by omega) (by omega)]
 have:((x.toNat:Nat):Int).toNat = x.toNat:=by omega
 rw [this]
 cases h:(x.toNat &&& s == s) with
 | true=>rw [beq_iff_eq] at h;rw [h];simp
 | false =>
   have h:=beq_eq_false_iff_ne.1 h
   rw [beq_eq_false_iff_ne]
   exact fun e=>h (by omega)
theorem zht (n:Int) (xs:List Int) (u:Nat) (hx:okS xs) (hs:u < 64):AC Try.prog 118 [.ag [int n,zbv xs],int u] (.im (bool (zak xs u))):=by
 refine AC.go (rs:=[.tmp 4]) zbe zax Try.func118 rfl rfl rfl (by kernel_rfl) fun hl=>?_
 simp only [za6,zbt,and_true,zcn,zd4,zc5,zeA,true_and] at hl
 simp (maxSteps:=5000000) -dsimp only [↓gp,gq,reduceCtorEq,reduceEqDiff,reduceLT,reduceLeDiff,reduceAdd,reduceMul,reduceSub,Nat.reduceBEq,Int.reduceToNat,Int.reduceLE,Int.reduceLT,Int.reduceNeg,reduceMod,zac,zad,zab,zaa,gT,TK.isInt,TK.agg,Array.toList]
 refine zao (fun (k:Nat) s=>s.sl 1 = int u∧s.sl 2 = .ref 2 1 0∧s.rw 2 = ⟨1,.box 27 [int n,zbv xs]⟩∧s.sl 5 = int k∧(k ≤ xs.length∧∀ i,i < k→((xs.getD i 0).toNat &&& u == u) = false)) (fun k=>xs.length - k) (0) (by refine ⟨?_,?_,?_,?_,by simp⟩ <;> (first | (simp (maxSteps:=5000000) -dsimp only [gr,reduceEqDiff,reduceLT,reduceAdd,reduceMod,Nat.reduceBEq,zaa,zac,zad,zab];first | done | rfl | (simp;done)) | assumption | rfl)) ?_
 intro k sa ⟨h1a,h2a,r2a,h5a,hIa⟩
 obtain ⟨hk,hall⟩:=hIa
 simp (maxSteps:=5000000) -dsimp only [↓gp,gq,reduceCtorEq,reduceEqDiff,reduceLT,reduceLeDiff,reduceAdd,reduceMul,reduceSub,Nat.reduceBEq,Int.reduceToNat,Int.reduceLE,Int.reduceLT,Int.reduceNeg,reduceMod,zac,zad,zab,zaa,gT,TK.isInt,TK.agg,Array.toList,h1a,h2a,r2a,h5a]
 refine ⟨fun h=>⟨h,h,fun he=>?_,fun he=>zag (k + 1) ⟨(by (first | (simp (maxSteps:=5000000) -dsimp only [gr,reduceEqDiff,reduceLT,reduceAdd,reduceMod,Nat.reduceBEq,zaa,zac,zad,zab,h1a,h2a,r2a,h5a,zae h hl];first | done | rfl | (simp;done)) | assumption | rfl)),(by (first | (simp (maxSteps:=5000000) -dsimp only [gr,reduceEqDiff,reduceLT,reduceAdd,reduceMod,Nat.reduceBEq,zaa,zac,zad,zab,h1a,h2a,r2a,h5a,zae h hl];first | done | rfl | (simp;done)) | assumption | rfl)),(by (first | (simp (maxSteps:=5000000) -dsimp only [gr,reduceEqDiff,reduceLT,reduceAdd,reduceMod,Nat.reduceBEq,zaa,zac,zad,zab,h1a,h2a,r2a,h5a,zae h hl];first | done | rfl | (simp;done)) | assumption | rfl)),(by (first | (simp (maxSteps:=5000000) -dsimp only [gr,reduceEqDiff,reduceLT,reduceAdd,reduceMod,Nat.reduceBEq,zaa,zac,zad,zab,h1a,h2a,r2a,h5a,zae h hl];first | done | rfl | (simp;done)) | assumption | rfl)),⟨by omega,fun i hi=>?_⟩⟩ (by first | omega | (simp only;omega) | (dsimp only;omega) | (show _ < _;simp;omega))⟩,fun h=>?_⟩
 ·rw [znX (znW hx h) hs] at he
  exact za8.2 ⟨_,zat 0 h,by simpa using he⟩
 ·rw [znX (znW hx h) hs] at he
  rcases Nat.lt_succ_iff_lt_or_eq.1 hi with hi | rfl
  ·exact hall i hi
  ·exact he
 ·cases hf:zak xs u with
  | false=>rfl
  | true =>
    obtain ⟨x,hx',hx2⟩:=za8.1 hf
    obtain ⟨i,hi,rfl⟩:=zbq 0 hx'
    have:=hall i (by omega)
    rw [hx2] at this
    simp at this
noncomputable def zbM (n:Int) (xs:List Int) (s:Nat):Bool:=zcN n xs && zak xs s
theorem zv6 (l:List Nat) (s:Nat):inF (ofN l) s = decide (s ∈ l):=by
 unfold inF ofN
 refine decide_eq_decide.2 ?_
 simp only [List.mem_map]
 exact ⟨fun ⟨a,h1,h2⟩=>by have:a = s:=by omega
                          exact this ▸ h1,fun h=>⟨s,h,rfl⟩⟩
theorem zA5 {l:List Nat} (h:∀ s ∈ l,s < 64):∀ x ∈ ofN l,0 ≤ x∧x < 64:=fun x hx=>by
 obtain ⟨s,hs,rfl⟩:=List.mem_map.1 hx
 have:=h s hs
 omega
theorem zcH (n:Int) (xs:List Int):AC Try.prog 121 [.ag [int n,zbv xs]] (.fr 3 1 (iL (ofN (zbL (zbM n xs))))):=by
 refine AC.go (rs:=[.tmp 2]) zbe zax Try.func121 rfl rfl rfl (by kernel_rfl) fun hl=>?_
 simp (maxSteps:=5000000) -dsimp only [↓gp,gq,reduceCtorEq,reduceEqDiff,reduceLT,reduceLeDiff,reduceAdd,reduceMul,reduceSub,Nat.reduceBEq,Int.reduceToNat,Int.reduceLE,Int.reduceLT,Int.reduceNeg,reduceMod,zac,zad,zab,zaa,gT,TK.isInt,TK.agg,Array.toList]
 have fin:∀ m,m = 64→zbL (inF (ofN ((List.range m).filter (zbM n xs)))) = zbL (zbM n xs):=fun m hm=>by
  refine ze7 fun s hs=>?_
  rw [zv6,hm]
  cases h:zbM n xs s <;> simp [h,hs]
 have hmem:∀ m,m ≤ 64→∀ s ∈ (List.range m).filter (zbM n xs),s < 64:=fun m hm s hs=>by
  have:=List.mem_range.1 (List.mem_filter.1 hs).1;omega
 refine zao (fun (za:Nat × Nat) s=>match za with | (m,v)=>s.sl 1 = .ref 1 1 0∧s.rw 1 = ⟨1,.box 27 [int n,zbv xs]⟩∧s.sl 3 = .own 5 v∧s.rw 5 = ⟨v,.sli 3 1 false (iL (ofN ((List.range m).filter (zbM n xs))))⟩∧s.sl 4 = int m∧(m ≤ 64)) (fun (m,v)=>64 - m) ((0,1)) (by refine ⟨?_,?_,?_,?_,?_,by simp⟩ <;> (first | (simp (maxSteps:=5000000) -dsimp only [gr,reduceEqDiff,reduceLT,reduceAdd,reduceMod,Nat.reduceBEq,zaa,zac,zad,zab];first | done | rfl | (simp;done)) | assumption | rfl)) ?_
 intro (m,v) sa ⟨h1a,r1a,h3a,r5a,h4a,hIa⟩
 have hflen:((List.range m).filter (zbM n xs)).length ≤ 64:=by
  have:=List.length_filter_le (zbM n xs) (List.range m);rw [List.length_range] at this;omega
 simp (maxSteps:=5000000) -dsimp only [↓gp,gq,reduceCtorEq,reduceEqDiff,reduceLT,reduceLeDiff,reduceAdd,reduceMul,reduceSub,Nat.reduceBEq,Int.reduceToNat,Int.reduceLE,Int.reduceLT,Int.reduceNeg,reduceMod,zac,zad,zab,zaa,gT,TK.isInt,TK.agg,Array.toList,h1a,r1a,h3a,r5a,h4a]
 refine ⟨fun h=>zaf (zbO n xs) ?_,fun h=>?_⟩
 ·simp (maxSteps:=5000000) -dsimp only [↓gp,gq,reduceCtorEq,reduceEqDiff,reduceLT,reduceLeDiff,reduceAdd,reduceMul,reduceSub,Nat.reduceBEq,Int.reduceToNat,Int.reduceLE,Int.reduceLT,Int.reduceNeg,reduceMod,zac,zad,zab,zaa,gT,TK.isInt,TK.agg,Array.toList,h1a,r1a,h3a,r5a,h4a]
  have hm:m < 64:=by omega
  refine ⟨fun hc=>zaf (zht n xs m (zcw hc) hm) ?_,fun hc=>zaf (zdH _ (zA5 (hmem m hIa))) ?_⟩
  ·simp (maxSteps:=5000000) -dsimp only [↓gp,gq,reduceCtorEq,reduceEqDiff,reduceLT,reduceLeDiff,reduceAdd,reduceMul,reduceSub,Nat.reduceBEq,Int.reduceToNat,Int.reduceLE,Int.reduceLT,Int.reduceNeg,reduceMod,zac,zad,zab,zaa,gT,TK.isInt,TK.agg,Array.toList,h1a,r1a,h3a,r5a,h4a,zah]
   refine ⟨fun hf=>?_,fun hf=>?_⟩
   ·have e:(List.range (m + 1)).filter (zbM n xs) = (List.range m).filter (zbM n xs) ++ [m]:=by
     rw [List.range_succ,List.filter_append]
     simp [zbM,hc,hf]
    refine ⟨by omega,?_⟩
    exact zag ((m + 1,v + 1)) (by refine ⟨?_,?_,?_,?_,?_,by dsimp only;omega⟩ <;> (first | (simp (maxSteps:=5000000) -dsimp only [gr,reduceEqDiff,reduceLT,reduceAdd,reduceMod,Nat.reduceBEq,zaa,zac,zad,zab,h1a,r1a,h3a,r5a,h4a,zae hm (by omega),e,zbf,zdK];first | done | rfl | (simp;done)) | assumption | rfl)) (by first | omega | (simp only;omega) | (dsimp only;omega) | (show _ < _;simp;omega))
   ·have e:(List.range (m + 1)).filter (zbM n xs) = (List.range m).filter (zbM n xs):=by
     rw [List.range_succ,List.filter_append]
     simp [zbM,hc,hf]
    exact zag ((m + 1,v)) (by refine ⟨?_,?_,?_,?_,?_,by dsimp only;omega⟩ <;> (first | (simp (maxSteps:=5000000) -dsimp only [gr,reduceEqDiff,reduceLT,reduceAdd,reduceMod,Nat.reduceBEq,zaa,zac,zad,zab,h1a,r1a,h3a,r5a,h4a,zae hm (by omega),e];first | done | rfl | (simp;done)) | assumption | rfl)) (by first | omega | (simp only;omega) | (dsimp only;omega) | (show _ < _;simp;omega))
  ·simp (maxSteps:=5000000) -dsimp only [↓gp,gq,reduceCtorEq,reduceEqDiff,reduceLT,reduceLeDiff,reduceAdd,reduceMul,reduceSub,Nat.reduceBEq,Int.reduceToNat,Int.reduceLE,Int.reduceLT,Int.reduceNeg,reduceMod,zac,zad,zab,zaa,gT,TK.isInt,TK.agg,Array.toList,h1a,r1a,h3a,r5a,h4a]
   have e1:(List.range m).filter (zbM n xs) = []:=by
    rw [List.filter_eq_nil_iff];intro s _;simp [zbM,hc]
   have e2:zbL (zbM n xs) = zbL (inF (ofN [])):=ze7 fun s _=>by rw [zv6];simp [zbM,hc]
   rw [e1,e2]
 ·have:m = 64:=by omega
  refine zaf (zdH _ (zA5 (hmem m hIa))) ?_
  simp (maxSteps:=5000000) -dsimp only [↓gp,gq,reduceCtorEq,reduceEqDiff,reduceLT,reduceLeDiff,reduceAdd,reduceMul,reduceSub,Nat.reduceBEq,Int.reduceToNat,Int.reduceLE,Int.reduceLT,Int.reduceNeg,reduceMod,zac,zad,zab,zaa,gT,TK.isInt,TK.agg,Array.toList,h1a,r1a,h3a,r5a,h4a]
  rw [fin m this]
theorem zk7 {f:Nat→Bool} {k:Nat} (h:k < (zbL f).length):(zbL f).getD k 0 < 64:=(zbF.1 (zat 0 h)).1
theorem zf5 (n:Int) (xs:List Int) (k:Int):AC Try.prog 194 [.ag [int n,zbv xs],int k] (.fr 3 1 (iL (ofN ((zbL (zbM n xs)).filter fun s=>(zap s:Int) == k)))):=by
 refine AC.go (rs:=[.tmp 4]) zbe zax Try.func194 rfl rfl rfl (by kernel_rfl) fun hl=>?_
 simp (maxSteps:=5000000) -dsimp only [↓gp,gq,reduceCtorEq,reduceEqDiff,reduceLT,reduceLeDiff,reduceAdd,reduceMul,reduceSub,Nat.reduceBEq,Int.reduceToNat,Int.reduceLE,Int.reduceLT,Int.reduceNeg,reduceMod,zac,zad,zab,zaa,gT,TK.isInt,TK.agg,Array.toList]
 refine zaf (zcH n xs) ?_
 simp (maxSteps:=5000000) -dsimp only [↓gp,gq,reduceCtorEq,reduceEqDiff,reduceLT,reduceLeDiff,reduceAdd,reduceMul,reduceSub,Nat.reduceBEq,Int.reduceToNat,Int.reduceLE,Int.reduceLT,Int.reduceNeg,reduceMod,zac,zad,zab,zaa,gT,TK.isInt,TK.agg,Array.toList]
 have hfull:=zdF (zbM n xs)
 have hmem:∀ i,i < (zbL (zbM n xs)).length→(zbL (zbM n xs)).getD i 0 < 64:=fun i h=>zk7 h
 generalize zbL (zbM n xs) = all at *
 refine zao (fun (za:Nat × Nat × Nat) s=>match za with | (i,v,u)=>s.sl 1 = int k∧s.sl 5 = .own 8 v∧s.rw 8 = ⟨v,.sli 3 1 false (iL (ofN ((all.take i).filter fun s=>(zap s:Int) == k)))⟩∧s.sl 6 = .own 10 u∧s.rw 10 = ⟨u,.sli 3 1 false (iL (ofN all))⟩∧s.sl 7 = int i∧(i ≤ all.length)) (fun (i,v,u)=>all.length - i) ((0,1,1)) (by refine ⟨?_,?_,?_,?_,?_,?_,by simp⟩ <;> (first | (simp (maxSteps:=5000000) -dsimp only [gr,reduceEqDiff,reduceLT,reduceAdd,reduceMod,Nat.reduceBEq,zaa,zac,zad,zab];first | done | rfl | (simp;done)) | assumption | rfl)) ?_
 intro (i,v,u) sa ⟨h1a,h5a,r8a,h6a,r10a,h7a,hIa⟩
 have hfl:((all.take i).filter fun s=>(zap s:Int) == k).length ≤ i:=by
  have:=List.length_filter_le (fun s=>(zap s:Int) == k) (all.take i);rw [List.length_take] at this;omega
 simp (maxSteps:=5000000) -dsimp only [↓gp,gq,reduceCtorEq,reduceEqDiff,reduceLT,reduceLeDiff,reduceAdd,reduceMul,reduceSub,Nat.reduceBEq,Int.reduceToNat,Int.reduceLE,Int.reduceLT,Int.reduceNeg,reduceMod,zac,zad,zab,zaa,gT,TK.isInt,TK.agg,Array.toList,h1a,h5a,r8a,h6a,r10a,h7a,zah]
 refine ⟨fun h=>?_,fun h=>?_⟩
 ·have hi:=hmem i h
  have hge:(ofN all).getD i 0 = ((all.getD i 0:Nat):Int):=zaL h
  rw [hge]
  refine ⟨h,h,zaf (zaK _ (by omega)) ?_⟩
  simp (maxSteps:=5000000) -dsimp only [↓gp,gq,reduceCtorEq,reduceEqDiff,reduceLT,reduceLeDiff,reduceAdd,reduceMul,reduceSub,Nat.reduceBEq,Int.reduceToNat,Int.reduceLE,Int.reduceLT,Int.reduceNeg,reduceMod,zac,zad,zab,zaa,gT,TK.isInt,TK.agg,Array.toList,h1a,h5a,r8a,h6a,r10a,h7a,zah,hge]
  refine ⟨fun hp=>⟨h,h,by omega,?_⟩,fun hp=>?_⟩
  ·have e:(all.take (i + 1)).filter (fun s=>(zap s:Int) == k) = (all.take i).filter (fun s=>(zap s:Int) == k) ++ [all.getD i 0]:=zmB h hp
   exact zag ((i + 1,v + 1,u)) (by refine ⟨?_,?_,?_,?_,?_,?_,by dsimp only;omega⟩ <;> (first | (simp (maxSteps:=5000000) -dsimp only [gr,reduceEqDiff,reduceLT,reduceAdd,reduceMod,Nat.reduceBEq,zaa,zac,zad,zab,h1a,h5a,r8a,h6a,r10a,h7a,zae h (by omega),e,zbf,zdK,hge];first | done | rfl | (simp;done)) | assumption | rfl)) (by first | omega | (simp only;omega) | (dsimp only;omega) | (show _ < _;simp;omega))
  ·have e:(all.take (i + 1)).filter (fun s=>(zap s:Int) == k) = (all.take i).filter (fun s=>(zap s:Int) == k):=zqS h hp
   exact zag ((i + 1,v,u)) (by refine ⟨?_,?_,?_,?_,?_,?_,by dsimp only;omega⟩ <;> (first | (simp (maxSteps:=5000000) -dsimp only [gr,reduceEqDiff,reduceLT,reduceAdd,reduceMod,Nat.reduceBEq,zaa,zac,zad,zab,h1a,h5a,r8a,h6a,r10a,h7a,zae h (by omega),e];first | done | rfl | (simp;done)) | assumption | rfl)) (by first | omega | (simp only;omega) | (dsimp only;omega) | (show _ < _;simp;omega))
 ·have:i = all.length:=by omega
  rw [this,List.take_length]
theorem zqR (f:Nat→Bool) (k:Nat):(zbL f).filter (fun s=>(zap s:Int) == (k:Int)) = zaS f k 64:=by
 rw [← zkd f k]
 refine List.filter_congr fun s _=>?_
 cases h:(zap s == k) with
 | true=>have:=beq_iff_eq.1 h;simp [this]
 | false=>have:=beq_eq_false_iff_ne.1 h;rw [beq_eq_false_iff_ne];exact fun e=>this (by omega)
theorem zdf (n:Int) (xs:List Int) (k:Nat):AC Try.prog 194 [.ag [int n,zbv xs],int k] (.fr 3 1 (iL (ofN (zaS (zbM n xs) k 64)))):=by
 have:=zf5 n xs k
 rwa [zqR] at this
theorem zdQ (w:Nat→Bool) {G:Nat} (hF:G < 2 ^ 64) (h:∀ s,s < 64→G.testBit s = w s):G = zaE w 64:=by
 refine Nat.eq_of_testBit_eq fun s=>?_
 rw [zj9]
 by_cases hs:s < 64
 ·rw [h s hs];simp [hs]
 ·have:G.testBit s = false:=Nat.testBit_lt_two_pow (Nat.lt_of_lt_of_le hF (Nat.pow_le_pow_right (by omega) (by omega)))
  simp [this,hs]
theorem za3 (w:Nat→Bool) {s:Nat} (h:s < 64):(zaE w 64).testBit s = w s:=by rw [zj9];simp [h]
theorem zeX {w w':Nat→Bool} (h:∀ s,s < 64→w s = w' s):zaE w 64 = zaE w' 64 :=
 zdQ w' (zbu w 64) fun s hs=>by rw [za3 w hs,h s hs]
theorem zCD (w w':Nat→Bool):zaE w 64 ||| zaE w' 64 = zaE (fun s=>w s || w' s) 64 :=
 zdQ _ (Nat.or_lt_two_pow (zbu w 64) (zbu w' 64)) fun s hs=>by rw [Nat.testBit_or,za3 w hs,za3 w' hs]
theorem zuI (w:Nat→Bool) {t:Nat} (ht:t < 64):zaE w 64 ||| 2 ^ t = zaE (fun s=>w s || s == t) 64 :=
 zdQ _ (Nat.or_lt_two_pow (zbu w 64) (Nat.pow_lt_pow_right (by omega) ht)) fun s hs=>by
  rw [Nat.testBit_or,za3 w hs,Nat.testBit_two_pow]
  congr 1
  by_cases e:t = s
  ·simp [e]
  ·simp [e];exact fun h=>e h.symm
theorem znU:zaE (fun _=>false) 64 = 0:=(zdQ (G:=0) (fun _=>false) (by omega) (fun s _=>by simp)).symm
def znV (u:Nat) (t:Nat):Bool:=u &&& t == t
theorem zfG (u:Nat) (hu:u < 64):AC Try.prog 154 [int u] (.im (u64 (zaE (znV u) 64:Nat))):=by
 refine AC.go (rs:=[.tmp 2]) zbe zax Try.func154 rfl rfl rfl (by kernel_rfl) fun hl=>?_
 simp (maxSteps:=5000000) -dsimp only [↓gp,gq,reduceCtorEq,reduceEqDiff,reduceLT,reduceLeDiff,reduceAdd,reduceMul,reduceSub,Nat.reduceBEq,Int.reduceToNat,Int.reduceLE,Int.reduceLT,Int.reduceNeg,reduceMod,zac,zad,zab,zaa,gT,TK.isInt,TK.agg,Array.toList]
 have hinit:zaE (fun v=>znV u v && decide (u < v)) 64 = 0:=by
  rw [← znU]
  refine zeX fun v hv=>?_
  cases h:(znV u v && decide (u < v)) with
  | false=>rfl
  | true =>
    simp [znV] at h
    have:u &&& v ≤ u:=Nat.and_le_left
    omega
 refine zao (fun (t:Nat) s=>s.sl 0 = int u∧s.sl 3 = u64 (zaE (fun v=>znV u v && decide (t < v)) 64:Nat)∧s.sl 4 = int t∧(t ≤ u∧u &&& t = t)) (fun t=>t) (u) (by refine ⟨?_,?_,?_,⟨Nat.le_refl _,Nat.and_self u⟩⟩ <;> (first | (simp (maxSteps:=5000000) -dsimp only [gr,reduceEqDiff,reduceLT,reduceAdd,reduceMod,Nat.reduceBEq,zaa,zac,zad,zab,hinit];first | done | rfl | (simp;done)) | assumption | rfl)) ?_
 intro t sa ⟨h0a,h3a,h4a,hIa⟩
 obtain ⟨htu,hts⟩:=hIa
 have hlt:=zbu (fun v=>znV u v && decide (t < v)) 64
 have hcv:IntKind.u64.wrap (t:Int) = (t:Int):=zbG (by omega)
 have h2t:(2:Nat) ^ t < 18446744073709551616:=by
  have:(2:Nat) ^ t < 2 ^ 64:=Nat.pow_lt_pow_right (by omega) (by omega)
  omega
 have hor:ior .u64 (zaE (fun v=>znV u v && decide (t < v)) 64:Nat) (znN .u64 1 (t:Int)) = ((zaE (fun v=>znV u v && decide (t ≤ v)) 64:Nat):Int):=by
  rw [zCa (by omega),zDa (by omega) h2t,zuI _ (by omega)]
  congr 1
  refine zeX fun v hv=>?_
  by_cases e:v = t
  ·subst e;simp [znV,hts]
  ·have e1:decide (t < v) = decide (t ≤ v):=decide_eq_decide.2 (by omega)
   simp [e,e1]
 simp (maxSteps:=5000000) -dsimp only [↓gp,gq,reduceCtorEq,reduceEqDiff,reduceLT,reduceLeDiff,reduceAdd,reduceMul,reduceSub,Nat.reduceBEq,Int.reduceToNat,Int.reduceLE,Int.reduceLT,Int.reduceNeg,reduceMod,zac,zad,zab,zaa,gT,TK.isInt,TK.agg,Array.toList,h0a,h3a,h4a,hcv,hor]
 refine ⟨fun h0=>?_,fun h0=>?_⟩
 ·have:t = 0:=by simp at h0;omega
  subst this
  simp
 ·have h0:¬ t = 0:=by
   intro e;subst e;simp at h0
  have hw:IntKind.i64.wrap ((t:Int) - 1) = ((t - 1:Nat):Int):=by rw [zaq (by omega) (by omega)];omega
  have hand:=za4 (a:=t - 1) (b:=u) (by omega) (by omega)
  have hle:(t - 1) &&& u ≤ t - 1:=Nat.and_le_left
  have hnext:zaE (fun v=>znV u v && decide ((t - 1) &&& u < v)) 64 = zaE (fun v=>znV u v && decide (t ≤ v)) 64:=by
   refine zeX fun v hv=>?_
   cases hs:znV u v with
   | false=>rfl
   | true =>
     simp only [Bool.true_and]
     refine decide_eq_decide.2 ⟨fun h=>?_,fun h=>by omega⟩
     rcases Nat.lt_or_ge v t with h2 | h2
     ·have:=zAt u hu t (by omega) (by rw [Nat.and_comm];exact hts) h0 v h2 (by rw [Nat.and_comm];simpa [znV] using hs)
      omega
     ·exact h2
  simp (maxSteps:=5000000) -dsimp only [↓gp,gq,reduceCtorEq,reduceEqDiff,reduceLT,reduceLeDiff,reduceAdd,reduceMul,reduceSub,Nat.reduceBEq,Int.reduceToNat,Int.reduceLE,Int.reduceLT,Int.reduceNeg,reduceMod,zac,zad,zab,zaa,gT,TK.isInt,TK.agg,Array.toList,h0a,h3a,h4a,hcv,hor,hw,hand]
  exact zag ((t - 1) &&& u) (by refine ⟨?_,?_,?_,⟨by omega,by rw [Nat.and_comm,Nat.and_assoc,Nat.and_self]⟩⟩ <;> (first | (simp (maxSteps:=5000000) -dsimp only [gr,reduceEqDiff,reduceLT,reduceAdd,reduceMod,Nat.reduceBEq,zaa,zac,zad,zab,h0a,h3a,h4a,hcv,hor,hw,hand,hnext];first | done | rfl | (simp;done)) | assumption | rfl)) (by first | omega | (simp only;omega) | (dsimp only;omega) | (show _ < _;simp;omega))
theorem zuJ {xs:List Int} {k t:Nat} (h:k < xs.length):zak (xs.take (k + 1)) t = (zak (xs.take k) t || znV (xs.getD k 0).toNat t):=by
 rw [zaR 0 h]
 unfold zak znV
 rw [List.any_append]
 simp
theorem zb7 (n:Int) (xs:List Int) (hx:okS xs):AC Try.prog 109 [.ag [int n,zbv xs]] (.im (u64 (zaE (zak xs) 64:Nat))):=by
 refine AC.go (rs:=[.tmp 2]) zbe zax Try.func109 rfl rfl rfl (by kernel_rfl) fun hl=>?_
 simp only [za6,zbt,and_true,zcn,zd4,zc5,zeA,true_and] at hl
 simp (maxSteps:=5000000) -dsimp only [↓gp,gq,reduceCtorEq,reduceEqDiff,reduceLT,reduceLeDiff,reduceAdd,reduceMul,reduceSub,Nat.reduceBEq,Int.reduceToNat,Int.reduceLE,Int.reduceLT,Int.reduceNeg,reduceMod,zac,zad,zab,zaa,gT,TK.isInt,TK.agg,Array.toList]
 have hinit:zaE (zak (xs.take 0)) 64 = 0:=znU
 refine zao (fun (k:Nat) s=>s.sl 3 = u64 (zaE (zak (xs.take k)) 64:Nat)∧s.sl 7 = zbv xs∧s.sl 8 = int xs.length∧s.sl 9 = int k∧(k ≤ xs.length)) (fun k=>xs.length - k) (0) (by refine ⟨?_,?_,?_,?_,by omega⟩ <;> (first | (simp (maxSteps:=5000000) -dsimp only [gr,reduceEqDiff,reduceLT,reduceAdd,reduceMod,Nat.reduceBEq,zaa,zac,zad,zab,hinit];first | done | rfl | (simp;done)) | assumption | rfl)) ?_
 intro k sa ⟨h3a,h7a,h8a,h9a,hIa⟩
 simp (maxSteps:=5000000) -dsimp only [↓gp,gq,reduceCtorEq,reduceEqDiff,reduceLT,reduceLeDiff,reduceAdd,reduceMul,reduceSub,Nat.reduceBEq,Int.reduceToNat,Int.reduceLE,Int.reduceLT,Int.reduceNeg,reduceMod,zac,zad,zab,zaa,gT,TK.isInt,TK.agg,Array.toList,h3a,h7a,h8a,h9a]
 refine ⟨fun h=>⟨h,h,?_⟩,fun h=>?_⟩
 ·have h6:=znW hx h
  have hn:xs.getD k 0 = ((xs.getD k 0).toNat:Int):=by omega
  have hc:=zfG (xs.getD k 0).toNat (by omega)
  rw [← hn] at hc
  refine zaf hc ?_
  have hm1:=zbu (zak (xs.take k)) 64
  have hm2:=zbu (znV (xs.getD k 0).toNat) 64
  have hor:ior .u64 (zaE (zak (xs.take k)) 64:Nat) (zaE (znV (xs.getD k 0).toNat) 64:Nat) = ((zaE (zak (xs.take (k + 1))) 64:Nat):Int):=by
   rw [zDa (by omega) (by omega),zCD]
   congr 1
   exact zeX fun t _=>(zuJ h).symm
  simp (maxSteps:=5000000) -dsimp only [↓gp,gq,reduceCtorEq,reduceEqDiff,reduceLT,reduceLeDiff,reduceAdd,reduceMul,reduceSub,Nat.reduceBEq,Int.reduceToNat,Int.reduceLE,Int.reduceLT,Int.reduceNeg,reduceMod,zac,zad,zab,zaa,gT,TK.isInt,TK.agg,Array.toList,h3a,h7a,h8a,h9a,hor]
  exact zag (k + 1) (by refine ⟨?_,?_,?_,?_,by omega⟩ <;> (first | (simp (maxSteps:=5000000) -dsimp only [gr,reduceEqDiff,reduceLT,reduceAdd,reduceMod,Nat.reduceBEq,zaa,zac,zad,zab,h3a,h7a,h8a,h9a,zae h hl,hor];first | done | rfl | (simp;done)) | assumption | rfl)) (by first | omega | (simp only;omega) | (dsimp only;omega) | (show _ < _;simp;omega))
 ·have:k = xs.length:=by omega
  rw [this,List.take_length]
theorem zbP (n:Int) (xs:List Int):AC Try.prog 106 [.ag [int n,zbv xs]] (.im (bool (zcN n xs))):=by
 refine AC.go (rs:=[.tmp 2]) zbe zax Try.func106 rfl rfl rfl (by kernel_rfl) fun hl=>?_
 simp (maxSteps:=5000000) -dsimp only [↓gp,gq,reduceCtorEq,reduceEqDiff,reduceLT,reduceLeDiff,reduceAdd,reduceMul,reduceSub,Nat.reduceBEq,Int.reduceToNat,Int.reduceLE,Int.reduceLT,Int.reduceNeg,reduceMod,zac,zad,zab,zaa,gT,TK.isInt,TK.agg,Array.toList]
 refine zaf (zgJ n xs) ?_
 simp (maxSteps:=5000000) -dsimp only [↓gp,gq,reduceCtorEq,reduceEqDiff,reduceLT,reduceLeDiff,reduceAdd,reduceMul,reduceSub,Nat.reduceBEq,Int.reduceToNat,Int.reduceLE,Int.reduceLT,Int.reduceNeg,reduceMod,zac,zad,zab,zaa,gT,TK.isInt,TK.agg,Array.toList]
theorem zem (t:ByteArray) (b:Nat) (ht:t.size ≤ 1000):AC Try.prog 169 [str t,.v (.int .u8 b)] (.fr 9 1 (sL (zhU t b))):=by
 refine AC.go (rs:=[.tmp 4]) zbe zax Try.func169 rfl rfl rfl (by kernel_rfl) fun hl=>?_
 simp (maxSteps:=5000000) -dsimp only [↓gp,gq,reduceCtorEq,reduceEqDiff,reduceLT,reduceLeDiff,reduceAdd,reduceMul,reduceSub,Nat.reduceBEq,Int.reduceToNat,Int.reduceLE,Int.reduceLT,Int.reduceNeg,reduceMod,zac,zad,zab,zaa,gT,TK.isInt,TK.agg,Array.toList]
 refine zao (fun (za:Nat × Nat × List ByteArray × Nat) s=>match za with | (i,v,out,st)=>s.sl 0 = str t∧s.sl 1 = .v (.int .u8 b)∧s.sl 5 = .own 8 v∧s.rw 8 = ⟨v,.sli 9 1 false (sL out)⟩∧s.sl 6 = int st∧s.sl 7 = int i∧(i ≤ t.size + 1∧(i ≤ t.size→out = (zkK t b i).1∧st = (zkK t b i).2)∧(t.size < i→out = zhU t b))) (fun (i,v,out,st)=>t.size + 1 - i) ((0,1,[],0)) (by refine ⟨?_,?_,?_,?_,?_,?_,⟨by simp,by simp [zkK],by simp⟩⟩ <;> (first | (simp (maxSteps:=5000000) -dsimp only [gr,reduceEqDiff,reduceLT,reduceAdd,reduceMod,Nat.reduceBEq,zaa,zac,zad,zab];first | done | rfl | (simp;done)) | assumption | rfl)) ?_
 intro (i,v,out,st) sa ⟨h0a,h1a,h5a,r8a,h6a,h7a,hIa⟩
 obtain ⟨hi,h1,h2⟩:=hIa
 have hle:=zDe t b i
 simp (maxSteps:=5000000) -dsimp only [↓gp,gq,reduceCtorEq,reduceEqDiff,reduceLT,reduceLeDiff,reduceAdd,reduceMul,reduceSub,Nat.reduceBEq,Int.reduceToNat,Int.reduceLE,Int.reduceLT,Int.reduceNeg,reduceMod,zac,zad,zab,zaa,gT,TK.isInt,TK.agg,Array.toList,h0a,h1a,h5a,r8a,h6a,h7a,zb8]
 refine ⟨fun h=>?_,fun h=>by rw [h2 (by omega)]⟩
 obtain ⟨rfl,rfl⟩:=h1 h
 refine ⟨fun hne=>?_,fun he=>?_⟩
 ·have hne:=beq_eq_false_iff_ne.1 hne
  have hlt:i < t.size:=by omega
  refine ⟨hlt,fun he=>⟨hle.1,by omega,by omega,?_⟩,fun he=>?_⟩
  ·have he:byt t i = b:=by have:=beq_iff_eq.1 he;unfold byt;omega
   exact zag ((i + 1,v + 1,(zkK t b (i + 1)).1,(zkK t b (i + 1)).2)) (by refine ⟨?_,?_,?_,?_,?_,?_,⟨by omega,fun _=>⟨by rw [ziH he],by rw [ziH he]⟩,by omega⟩⟩ <;> (first | (simp (maxSteps:=5000000) -dsimp only [gr,reduceEqDiff,reduceLT,reduceAdd,reduceMod,Nat.reduceBEq,zaa,zac,zad,zab,h0a,h1a,h5a,r8a,h6a,h7a,zae hlt (by omega),ziH he,zmC];first | done | rfl | (simp;done)) | assumption | rfl)) (by first | omega | (simp only;omega) | (dsimp only;omega) | (show _ < _;simp;omega))
  ·have he:¬ byt t i = b:=by have:=beq_eq_false_iff_ne.1 he;unfold byt;omega
   exact zag ((i + 1,v,(zkK t b i).1,(zkK t b i).2)) (by refine ⟨?_,?_,?_,?_,?_,?_,⟨by omega,fun _=>⟨by rw [zrA he],by rw [zrA he]⟩,by omega⟩⟩ <;> (first | (simp (maxSteps:=5000000) -dsimp only [gr,reduceEqDiff,reduceLT,reduceAdd,reduceMod,Nat.reduceBEq,zaa,zac,zad,zab,h0a,h1a,h5a,r8a,h6a,h7a,zae hlt (by omega)];first | done | rfl | (simp;done)) | assumption | rfl)) (by first | omega | (simp only;omega) | (dsimp only;omega) | (show _ < _;simp;omega))
 ·have he:=beq_iff_eq.1 he
  obtain rfl:i = t.size:=by omega
  refine ⟨hle.1,by omega,by omega,?_⟩
  have hw:IntKind.i64.wrap ((t.size:Int) + 1) = ((t.size + 1:Nat):Int):=zae (n:=t.size + 1) (by omega) (by omega)
  exact zag ((t.size + 1,v + 1,zhU t b,t.size + 1)) (by refine ⟨?_,?_,?_,?_,?_,?_,⟨by omega,by omega,fun _=>rfl⟩⟩ <;> (first | (simp (maxSteps:=5000000) -dsimp only [gr,reduceEqDiff,reduceLT,reduceAdd,reduceMod,Nat.reduceBEq,zaa,zac,zad,zab,h0a,h1a,h5a,r8a,h6a,h7a,hw,zmC,zhU];first | done | rfl | (simp;done)) | assumption | rfl)) (by first | omega | (simp only;omega) | (dsimp only;omega) | (show _ < _;simp;omega))
theorem zeR (t:ByteArray) (h:OkSet t):AC Try.prog 171 [str t] (.tup [.im (int (znO t t.size:Nat)),.im (bool true)]):=by
 refine AC.go (rs:=[.tmp 2,.tmp 3]) zbe zax Try.func171 rfl rfl rfl (by kernel_rfl) fun hl=>?_
 simp (maxSteps:=5000000) -dsimp only [↓gp,gq,reduceCtorEq,reduceEqDiff,reduceLT,reduceLeDiff,reduceAdd,reduceMul,reduceSub,Nat.reduceBEq,Int.reduceToNat,Int.reduceLE,Int.reduceLT,Int.reduceNeg,reduceMod,zac,zad,zab,zaa,gT,TK.isInt,TK.agg,Array.toList]
 refine zao (fun (i:Nat) s=>s.sl 0 = str t∧s.sl 4 = int (znO t i:Nat)∧s.sl 5 = int i∧(i ≤ t.size)) (fun i=>t.size - i) (0) (by refine ⟨?_,?_,?_,by simp⟩ <;> (first | (simp (maxSteps:=5000000) -dsimp only [gr,reduceEqDiff,reduceLT,reduceAdd,reduceMod,Nat.reduceBEq,zaa,zac,zad,zab,zkh];first | done | rfl | (simp;done)) | assumption | rfl)) ?_
 intro i sa ⟨h0a,h4a,h5a,hIa⟩
 rcases Nat.lt_or_ge i t.size with hi | hi
 ·have hlt:((i:Int) < (t.size:Int)) = True:=eq_true (by omega)
  have hb:byt t i = (t.data.toList.getD i 0).toNat:=rfl
  have hl1:=h.letter i hi
  have hhi:=h.hi
  have hv:=zDg h i (by omega)
  have hvl:=zyN h i hi
  have hw1:IntKind.i64.wrap (IntKind.i64.wrap (((t.data.toList.getD i 0).toNat:Nat):Int) - 97) = ((byt t i - 97:Nat):Int):=by
   have e1:IntKind.i64.wrap ((byt t i:Nat):Int) = ((byt t i:Nat):Int):=zaq (by omega) (by omega)
   rw [← hb,e1,zaq (by omega) (by omega)];omega
  simp (maxSteps:=5000000) -dsimp only [↓gp,gq,reduceCtorEq,reduceEqDiff,reduceLT,reduceLeDiff,reduceAdd,reduceMul,reduceSub,Nat.reduceBEq,Int.reduceToNat,Int.reduceLE,Int.reduceLT,Int.reduceNeg,reduceMod,zac,zad,zab,zaa,gT,TK.isInt,TK.agg,Array.toList,h0a,h4a,h5a,h.dash,h.empty,hlt,hw1]
  refine ⟨hi,zaf (zdg _ _ _) ?_⟩
  have hd:(decide ((0:Int) ≤ ((byt t i - 97:Nat):Int)) && decide (((byt t i - 97:Nat):Int) ≤ 5)) = true:=by simp;omega
  have hw64:IntKind.u64.wrap ((byt t i - 97:Nat):Int) = ((byt t i - 97:Nat):Int):=zbG (by omega)
  have hsh:zrj .i64 ((znO t i:Nat):Int) ((byt t i - 97:Nat):Int) = 0:=by
   rw [zFn (by omega),Nat.shiftRight_eq_div_pow,Nat.div_eq_of_lt hvl];rfl
  have h2k:2 ^ (byt t i - 97) < 64:=by have:2 ^ (byt t i - 97) < 2 ^ 6:=Nat.pow_lt_pow_right (by omega) (by omega);omega
  have hadd:IntKind.i64.wrap (((znO t i:Nat):Int) + znN .i64 1 ((byt t i - 97:Nat):Int)) = ((znO t (i + 1):Nat):Int):=by
   rw [zbB (by omega),zaq (by omega) (by omega),← zAy h hi];rfl
  simp (maxSteps:=5000000) -dsimp only [↓gp,gq,reduceCtorEq,reduceEqDiff,reduceLT,reduceLeDiff,reduceAdd,reduceMul,reduceSub,Nat.reduceBEq,Int.reduceToNat,Int.reduceLE,Int.reduceLT,Int.reduceNeg,reduceMod,zac,zad,zab,zaa,gT,TK.isInt,TK.agg,Array.toList,h0a,h4a,h5a,hlt,hw1,hd,hw64,hsh,hadd]
  have hd2:(!(decide True && decide (((byt t i - 97:Nat):Int) ≤ 5))) = false:=by simp;omega
  refine ⟨fun _=>⟨fun hc=>(by simp at hc),fun _=>zag (i + 1) (by refine ⟨?_,?_,?_,by omega⟩ <;> (first | (simp (maxSteps:=5000000) -dsimp only [gr,reduceEqDiff,reduceLT,reduceAdd,reduceMod,Nat.reduceBEq,zaa,zac,zad,zab,h0a,h4a,h5a,hw1,hw64,hadd,zae hi (by omega)];first | done | rfl | (simp;done)) | assumption | rfl)) (by first | omega | (simp only;omega) | (dsimp only;omega) | (show _ < _;simp;omega))⟩,fun hc=>by rw [hd2] at hc;cases hc⟩
 ·obtain rfl:i = t.size:=by omega
  have hlt:((t.size:Int) < (t.size:Int)) = False:=eq_false (by omega)
  simp (maxSteps:=5000000) -dsimp only [↓gp,gq,reduceCtorEq,reduceEqDiff,reduceLT,reduceLeDiff,reduceAdd,reduceMul,reduceSub,Nat.reduceBEq,Int.reduceToNat,Int.reduceLE,Int.reduceLT,Int.reduceNeg,reduceMod,zac,zad,zab,zaa,gT,TK.isInt,TK.agg,Array.toList,h0a,h4a,h5a,h.dash,h.empty,hlt]
def zrH (ps:List ByteArray):List Int:=ps.map fun p=>((znO p p.size:Nat):Int)
theorem zqm {ps:List ByteArray} {k:Nat} (h:k < ps.length):zrH (ps.take (k + 1)) = zrH (ps.take k) ++ [((znO (ps.getD k ⟨#[]⟩) (ps.getD k ⟨#[]⟩).size:Nat):Int)]:=by
 unfold zrH
 rw [zaR ⟨#[]⟩ h,List.map_append];rfl
def chr (n:Nat):ByteArray:=⟨#[UInt8.ofNat (48 + n)]⟩
structure OkText (t:ByteArray) (n:Nat) (rest:ByteArray) (ps:List ByteArray):Prop where
 size:2 ≤ t.size∧t.size ≤ 1000
 pts:1 ≤ n∧n ≤ 6
 b0:byt t 0 = 48 + n
 b1:byt t 1 = 58
 tail:t.extract 2 t.size = rest
 rsize:rest.size ≤ 1000
 full:(rest.toList == (⟨#[]⟩:ByteArray).toList) = false
 parts:zhU rest 44 = ps
 plen:ps.length ≤ 1000
 pne:0 < ps.length
 sets:∀ p ∈ ps,OkSet p
 head:zhU t 58 = [chr n,rest]
 cx:cxP n (zrH ps)
def zAE (r:Row) (ver:Nat) (Kp:PV→Prop):Prop:=r.ver = ver∧match r.kind with
 | .nil=>∃ bs:List Int,[] = bs.map (fun n=>PV.v (.int .u8 n))∧Kp (.v (.string (bs.foldl (fun r n=>r.push (UInt8.ofNat n.toNat)) ByteArray.empty)))
 | .sli _ sz _ c=>sz = 1∧∃ bs:List Int,c = bs.map (fun n=>PV.v (.int .u8 n))∧Kp (.v (.string (bs.foldl (fun r n=>r.push (UInt8.ofNat n.toNat)) ByteArray.empty)))
 | _=>False
theorem zAF (rw:Nat→Row) (j ver:Nat) {Kp:PV→Prop}:zfj T rw 31 9 (.own j ver) Kp = zAE (rw j) ver Kp:=by
 have ha:(T 31).k = .sli 5:=zF5
 have hb:(T 9).k = .str:=T9k
 have he:(T 5).k = .int .u8:=T5k
 have s1:(T 31).size = 1:=zF6
 have s2:(T 9).size = 1:=T9s
 have s3:(T 5).size = 1:=T5s
 unfold zfj zAE
 simp only [ha,hb,he,s1,s2,s3,slK]
 cases h:(rw j).kind <;> simp
theorem zyR (ver e:Nat) (fz:Bool) (n:Int) {Kp:PV→Prop}:zAE ⟨ver,.sli e 1 fz [.v (.int .u8 n)]⟩ ver Kp = Kp (.v (.string ([n].foldl (fun r n=>r.push (UInt8.ofNat n.toNat)) ByteArray.empty))):=by
 unfold zAE
 simp only [true_and]
 refine propext ⟨fun ⟨bs,hb,h⟩=>?_,fun h=>⟨[n],rfl,h⟩⟩
 match bs,hb with
 | [m],hb=>simp at hb;subst hb;exact h
theorem zFo (n:Int):lit [.v (.int .u8 n)] = [.v (.int .u8 n)]:=rfl
theorem ziI (n:Nat):(chr n).size = 1:=rfl
theorem zFp {n:Nat} (h:n ≤ 9):((chr n).data.toList.getD 0 0).toNat = 48 + n:=by
 show (UInt8.ofNat (48 + n)).toNat = 48 + n
 simp
 omega
theorem zFq {n:Nat} (h:n ≤ 9):([(48 + n:Int)].foldl (fun r n=>r.push (UInt8.ofNat n.toNat)) ByteArray.empty) ++ ⟨#[]⟩ = chr n:=by
 have:∀ m:Fin 10,([(48 + (m.val:Nat):Int)].foldl (fun r n=>r.push (UInt8.ofNat n.toNat)) ByteArray.empty) ++ ⟨#[]⟩ = chr m.val:=by decide +kernel
 exact this ⟨n,by omega⟩
theorem zia {n:Nat} (h1:1 ≤ n) (h9:n ≤ 9):AC Try.prog 211 [int n] (.im (str (chr n))):=by
 refine AC.go (rs:=[.tmp 2]) zbe zax Try.func211 rfl rfl rfl (by kernel_rfl) fun hl=>?_
 have e0:((n:Int) == 0) = false:=beq_eq_false_iff_ne.2 (by omega)
 simp (maxSteps:=5000000) -dsimp only [↓gp,gq,reduceCtorEq,reduceEqDiff,reduceLT,reduceLeDiff,reduceAdd,reduceMul,reduceSub,Nat.reduceBEq,Int.reduceToNat,Int.reduceLE,Int.reduceLT,Int.reduceNeg,reduceMod,zac,zad,zab,zaa,gT,TK.isInt,TK.agg,Array.toList,e0]
 refine zao (fun (za:Nat × ByteArray) s=>match za with | (m,o)=>s.sl 0 = int m∧s.sl 3 = bool false∧s.sl 4 = str o∧((m = n∧o = ⟨#[]⟩) ∨ (m = 0∧o = chr n))) (fun (m,o)=>m) ((n,⟨#[]⟩)) (by refine ⟨?_,?_,?_,Or.inl ⟨rfl,rfl⟩⟩ <;> (first | (simp (maxSteps:=5000000) -dsimp only [gr,reduceEqDiff,reduceLT,reduceAdd,reduceMod,Nat.reduceBEq,zaa,zac,zad,zab,decide_eq_false (show ¬ ((n:Int) < 0) by omega)];first | done | rfl | (simp;done)) | assumption | rfl)) ?_
 intro (m,o) sa ⟨h0a,h3a,h4a,hIa⟩
 rcases hIa with ⟨rfl,rfl⟩ | ⟨rfl,rfl⟩
 ·have ht:((m:Int)).tmod 10 = (m:Int):=Int.tmod_eq_of_lt (by omega) (by omega)
  have hw:IntKind.i64.wrap (48 + (m:Int)) = 48 + (m:Int):=zaq (by omega) (by omega)
  have hw8:IntKind.u8.wrap (48 + (m:Int)) = 48 + (m:Int):=by
   simp [IntKind.wrap,IntKind.bits,IntKind.signed]
   omega
  have hq:((m:Int)).tdiv 10 = 0:=Int.tdiv_eq_zero_of_lt (by omega) (by omega)
  have hc:=zFq h9
  simp (maxSteps:=5000000) -dsimp only [↓gp,gq,reduceCtorEq,reduceEqDiff,reduceLT,reduceLeDiff,reduceAdd,reduceMul,reduceSub,Nat.reduceBEq,Int.reduceToNat,Int.reduceLE,Int.reduceLT,Int.reduceNeg,reduceMod,zac,zad,zab,zaa,gT,TK.isInt,TK.agg,Array.toList,h0a,h3a,h4a,zAF,zyR,zFo,ht,hw,hw8,hq,hc]
  refine ⟨fun _=>⟨by decide,fun h=>absurd h (by omega),fun _=>⟨?_,by decide,zag ((0,chr m)) (by refine ⟨?_,?_,?_,Or.inr ⟨rfl,rfl⟩⟩ <;> (first | (simp (maxSteps:=5000000) -dsimp only [gr,reduceEqDiff,reduceLT,reduceAdd,reduceMod,Nat.reduceBEq,zaa,zac,zad,zab,h0a,h3a,h4a,ht,hw,hw8,hq,hc];first | done | rfl | (simp;done)) | assumption | rfl)) (by first | omega | (simp only;omega) | (dsimp only;omega) | (show _ < _;simp;omega))⟩⟩,fun h=>?_⟩
  ·show 1 + 0 ≤ 9223372036854775807
   omega
  ·simp at h
   omega
 ·simp (maxSteps:=5000000) -dsimp only [↓gp,gq,reduceCtorEq,reduceEqDiff,reduceLT,reduceLeDiff,reduceAdd,reduceMul,reduceSub,Nat.reduceBEq,Int.reduceToNat,Int.reduceLE,Int.reduceLT,Int.reduceNeg,reduceMod,zac,zad,zab,zaa,gT,TK.isInt,TK.agg,Array.toList,h0a,h3a,h4a,show (((0:Nat):Int) != 0) = false from rfl]
theorem znf {n:Nat} (h1:1 ≤ n) (h9:n ≤ 9):AC Try.prog 197 [str (chr n),int 12] (.tup [.im (int n),.im (bool true)]):=by
 refine AC.go (rs:=[.tmp 4,.tmp 5]) zbe zax Try.func197 rfl rfl rfl (by kernel_rfl) fun hl=>?_
 have hc:=zFp h9
 have e45:(((48 + n:Nat):Int) == 45) = false:=beq_eq_false_iff_ne.2 (by omega)
 have hz1:((1:Nat):Int) = 1:=rfl
 simp (maxSteps:=5000000) -dsimp only [↓gp,gq,reduceCtorEq,reduceEqDiff,reduceLT,reduceLeDiff,reduceAdd,reduceMul,reduceSub,Nat.reduceBEq,Int.reduceToNat,Int.reduceLE,Int.reduceLT,Int.reduceNeg,reduceMod,zac,zad,zab,zaa,gT,TK.isInt,TK.agg,Array.toList,ziI,hc,e45,hz1]
 refine zao (fun (i:Nat) s=>s.sl 0 = str (chr n)∧s.sl 6 = bool false∧s.sl 7 = str (chr n)∧s.sl 8 = int (if i = 0 then 0 else n:Nat)∧s.sl 9 = int i∧(i ≤ 1)) (fun i=>1 - i) (0) (by refine ⟨?_,?_,?_,?_,?_,by simp⟩ <;> (first | (simp (maxSteps:=5000000) -dsimp only [gr,reduceEqDiff,reduceLT,reduceAdd,reduceMod,Nat.reduceBEq,zaa,zac,zad,zab];first | done | rfl | (simp;done)) | assumption | rfl)) ?_
 intro i sa ⟨h0a,h6a,h7a,h8a,h9a,hIa⟩
 have hi:i = 0 ∨ i = 1:=by omega
 rcases hi with rfl | rfl
 ·have z0:((0:Nat):Int) = 0:=rfl
  have hw8:IntKind.u8.wrap (((48 + n:Nat):Int) - 48) = (n:Int):=by
   simp [IntKind.wrap,IntKind.bits,IntKind.signed]
   omega
  have hw:IntKind.i64.wrap (n:Int) = (n:Int):=zaq (by omega) (by omega)
  have hm:IntKind.i64.wrap (10 * 0) = 0:=by decide
  have ha:IntKind.i64.wrap (0 + (n:Int)) = (n:Int):=by rw [Int.zero_add];exact hw
  have h01:IntKind.i64.wrap (0 + 1) = 1:=by decide
  simp (maxSteps:=5000000) -dsimp only [↓gp,gq,reduceCtorEq,reduceEqDiff,reduceLT,reduceLeDiff,reduceAdd,reduceMul,reduceSub,Nat.reduceBEq,Int.reduceToNat,Int.reduceLE,Int.reduceLT,Int.reduceNeg,reduceMod,zac,zad,zab,zaa,gT,TK.isInt,TK.agg,Array.toList,h0a,h6a,h7a,h8a,h9a,ziI,hc,hz1,z0]
  refine ⟨fun _=>⟨fun hx=>absurd hx (by omega),fun _=>zag (1) (by refine ⟨?_,?_,?_,?_,?_,by omega⟩ <;> (first | (simp (maxSteps:=5000000) -dsimp only [gr,reduceEqDiff,reduceLT,reduceAdd,reduceMod,Nat.reduceBEq,zaa,zac,zad,zab,h0a,h6a,h7a,h8a,h9a,hw8,hw,hm,ha,h01];first | done | rfl | (simp;done)) | assumption | rfl)) (by first | omega | (simp only;omega) | (dsimp only;omega) | (show _ < _;simp;omega))⟩,fun hx=>absurd hx (by omega)⟩
 ·simp (maxSteps:=5000000) -dsimp only [↓gp,gq,reduceCtorEq,reduceEqDiff,reduceLT,reduceLeDiff,reduceAdd,reduceMul,reduceSub,Nat.reduceBEq,Int.reduceToNat,Int.reduceLE,Int.reduceLT,Int.reduceNeg,reduceMod,zac,zad,zab,zaa,gT,TK.isInt,TK.agg,Array.toList,h0a,h6a,h7a,h8a,h9a,ziI,hc,hz1]
  refine zaf (zia h1 h9) ?_
  simp (maxSteps:=5000000) -dsimp only [↓gp,gq,reduceCtorEq,reduceEqDiff,reduceLT,reduceLeDiff,reduceAdd,reduceMul,reduceSub,Nat.reduceBEq,Int.reduceToNat,Int.reduceLE,Int.reduceLT,Int.reduceNeg,reduceMod,zac,zad,zab,zaa,gT,TK.isInt,TK.agg,Array.toList,h0a,h6a,h7a,h8a,h9a,ziI,beq_self_eq_true]
theorem zkp {n:Nat} (h1:1 ≤ n) (h9:n ≤ 9):AC Try.prog 170 [str (chr n)] (.tup [.im (int n),.im (bool true)]):=by
 refine AC.go (rs:=[.tmp 2,.tmp 3]) zbe zax Try.func170 rfl rfl rfl (by kernel_rfl) fun hl=>?_
 simp (maxSteps:=5000000) -dsimp only [↓gp,gq,reduceCtorEq,reduceEqDiff,reduceLT,reduceLeDiff,reduceAdd,reduceMul,reduceSub,Nat.reduceBEq,Int.reduceToNat,Int.reduceLE,Int.reduceLT,Int.reduceNeg,reduceMod,zac,zad,zab,zaa,gT,TK.isInt,TK.agg,Array.toList]
 refine zaf (znf h1 h9) ?_
 simp (maxSteps:=5000000) -dsimp only [↓gp,gq,reduceCtorEq,reduceEqDiff,reduceLT,reduceLeDiff,reduceAdd,reduceMul,reduceSub,Nat.reduceBEq,Int.reduceToNat,Int.reduceLE,Int.reduceLT,Int.reduceNeg,reduceMod,zac,zad,zab,zaa,gT,TK.isInt,TK.agg,Array.toList]
theorem zfU {t rest:ByteArray} {n:Nat} {ps:List ByteArray} (h:OkText t n rest ps):AC Try.prog 133 [str t] (.tup [.ag [.im (int n),.fr 3 1 (iL (zrH ps))],.im (bool true)]):=by
 refine AC.go (rs:=[.cell 2 27,.tmp 3]) zbe zax Try.func133 rfl rfl rfl (by kernel_rfl) fun hl=>?_
 simp (maxSteps:=5000000) -dsimp only [↓gp,gq,reduceCtorEq,reduceEqDiff,reduceLT,reduceLeDiff,reduceAdd,reduceMul,reduceSub,Nat.reduceBEq,Int.reduceToNat,Int.reduceLE,Int.reduceLT,Int.reduceNeg,reduceMod,zac,zad,zab,zaa,gT,TK.isInt,TK.agg,Array.toList]
 refine zaf (zem t 58 h.size.2) ?_
 rw [h.head]
 have hz2:(((2:Nat):Int) != 2) = false:=rfl
 simp (maxSteps:=5000000) -dsimp only [↓gp,gq,reduceCtorEq,reduceEqDiff,reduceLT,reduceLeDiff,reduceAdd,reduceMul,reduceSub,Nat.reduceBEq,Int.reduceToNat,Int.reduceLE,Int.reduceLT,Int.reduceNeg,reduceMod,zac,zad,zab,zaa,gT,TK.isInt,TK.agg,Array.toList,zb8,hz2]
 refine ⟨by omega,zaf (zkp h.pts.1 (by have:=h.pts;omega)) ?_⟩
 simp (maxSteps:=5000000) -dsimp only [↓gp,gq,reduceCtorEq,reduceEqDiff,reduceLT,reduceLeDiff,reduceAdd,reduceMul,reduceSub,Nat.reduceBEq,Int.reduceToNat,Int.reduceLE,Int.reduceLT,Int.reduceNeg,reduceMod,zac,zad,zab,zaa,gT,TK.isInt,TK.agg,Array.toList]
 refine ⟨by omega,zaf (zem rest 44 h.rsize) ?_⟩
 rw [h.parts]
 simp (maxSteps:=5000000) -dsimp only [↓gp,gq,reduceCtorEq,reduceEqDiff,reduceLT,reduceLeDiff,reduceAdd,reduceMul,reduceSub,Nat.reduceBEq,Int.reduceToNat,Int.reduceLE,Int.reduceLT,Int.reduceNeg,reduceMod,zac,zad,zab,zaa,gT,TK.isInt,TK.agg,Array.toList,zb8]
 refine zao (fun (za:Nat × Nat × PV × RK × Nat × Nat × Nat) s=>match za with | (k,u,fc,kd,v,y,z)=>s.sl 2 = .ref 2 1 0∧s.rw 2 = ⟨1,.box 27 [int 0,.v (.slice none 0 0)]⟩∧s.sl 7 = .ref 7 y 0∧s.rw 7 = ⟨y,.box 27 [int n,fc]⟩∧s.rw 58 = ⟨u,kd⟩∧s.sl 4 = .own 13 z∧s.rw 13 = ⟨z,.sli 9 1 false (sL [chr n,rest])⟩∧s.sl 6 = bool true∧s.sl 8 = .own 30 v∧s.rw 30 = ⟨v,.sli 9 1 false (sL ps)⟩∧s.sl 9 = int k∧(k ≤ ps.length∧((k = 0∧fc = .v (.slice none 0 0)) ∨ (0 < k∧fc = .own 58 u∧kd = .sli 3 1 false (iL (zrH (ps.take k))))))) (fun (k,u,fc,kd,v,y,z)=>ps.length - k) ((0,0,.v (.slice none 0 0),.dead,1,1,1)) (by refine ⟨?_,?_,?_,?_,?_,?_,?_,?_,?_,?_,?_,by simp⟩ <;> (first | (simp (maxSteps:=5000000) -dsimp only [gr,reduceEqDiff,reduceLT,reduceAdd,reduceMod,Nat.reduceBEq,zaa,zac,zad,zab,zb8];first | done | rfl | (simp;done)) | assumption | rfl)) ?_
 intro (k,u,fc,kd,v,y,z) sa ⟨h2a,r2a,h7a,r7a,r58a,h4a,r13a,h6a,h8a,r30a,h9a,hIa⟩
 obtain ⟨hk,hfc⟩:=hIa
 have hfl:(zrH (ps.take k)).length = k:=by unfold zrH;simp;omega
 have hr1:[chr n,rest].getD 1 ⟨#[]⟩ = rest:=rfl
 rcases hfc with ⟨rfl,rfl⟩ | ⟨h0,rfl,rfl⟩
 ·simp (maxSteps:=5000000) -dsimp only [↓gp,gq,reduceCtorEq,reduceEqDiff,reduceLT,reduceLeDiff,reduceAdd,reduceMul,reduceSub,Nat.reduceBEq,Int.reduceToNat,Int.reduceLE,Int.reduceLT,Int.reduceNeg,reduceMod,zac,zad,zab,zaa,gT,TK.isInt,TK.agg,Array.toList,h2a,r2a,h7a,r7a,r58a,h4a,r13a,h6a,h8a,r30a,h9a,zb8,hr1,h.full]
  refine ⟨fun hlt=>⟨by omega,hlt,hlt,zaf (zeR _ (h.sets _ (zat ⟨#[]⟩ hlt))) ?_⟩,fun hge=>absurd h.pne hge⟩
  simp (maxSteps:=5000000) -dsimp only [↓gp,gq,reduceCtorEq,reduceEqDiff,reduceLT,reduceLeDiff,reduceAdd,reduceMul,reduceSub,Nat.reduceBEq,Int.reduceToNat,Int.reduceLE,Int.reduceLT,Int.reduceNeg,reduceMod,zac,zad,zab,zaa,gT,TK.isInt,TK.agg,Array.toList,h2a,r2a,h7a,r7a,r58a,h4a,r13a,h6a,h8a,r30a,h9a,zb8]
  have hf1:zrH (ps.take 1) = [((znO (ps.getD 0 ⟨#[]⟩) (ps.getD 0 ⟨#[]⟩).size:Nat):Int)]:=zqm hlt
  exact zag ((1,u + 1,.own 58 (u + 1),.sli 3 1 false (iL (zrH (ps.take 1))),v,y,z)) (by refine ⟨?_,?_,?_,?_,?_,?_,?_,?_,?_,?_,?_,⟨by omega,Or.inr ⟨by omega,rfl,rfl⟩⟩⟩ <;> (first | (simp (maxSteps:=5000000) -dsimp only [gr,reduceEqDiff,reduceLT,reduceAdd,reduceMod,Nat.reduceBEq,zaa,zac,zad,zab,h2a,r2a,h7a,r7a,r58a,h4a,r13a,h6a,h8a,r30a,h9a,hf1];first | done | rfl | (simp;done)) | assumption | rfl)) (by first | omega | (simp only;omega) | (dsimp only;omega) | (show _ < _;simp;omega))
 ·simp (maxSteps:=5000000) -dsimp only [↓gp,gq,reduceCtorEq,reduceEqDiff,reduceLT,reduceLeDiff,reduceAdd,reduceMul,reduceSub,Nat.reduceBEq,Int.reduceToNat,Int.reduceLE,Int.reduceLT,Int.reduceNeg,reduceMod,zac,zad,zab,zaa,gT,TK.isInt,TK.agg,Array.toList,h2a,r2a,h7a,r7a,r58a,h4a,r13a,h6a,h8a,r30a,h9a,zb8,ziT,hfl,hr1,h.full]
  refine ⟨fun hlt=>⟨by omega,hlt,hlt,zaf (zeR _ (h.sets _ (zat ⟨#[]⟩ hlt))) ?_⟩,fun hge=>?_⟩
  ·simp (maxSteps:=5000000) -dsimp only [↓gp,gq,reduceCtorEq,reduceEqDiff,reduceLT,reduceLeDiff,reduceAdd,reduceMul,reduceSub,Nat.reduceBEq,Int.reduceToNat,Int.reduceLE,Int.reduceLT,Int.reduceNeg,reduceMod,zac,zad,zab,zaa,gT,TK.isInt,TK.agg,Array.toList,h2a,r2a,h7a,r7a,r58a,h4a,r13a,h6a,h8a,r30a,h9a,zb8,hfl]
   have hpl:=h.plen
   refine ⟨by omega,?_⟩
   exact zag ((k + 1,u + 1,.own 58 (u + 1),.sli 3 1 false (iL (zrH (ps.take (k + 1)))),v,y,z)) (by refine ⟨?_,?_,?_,?_,?_,?_,?_,?_,?_,?_,?_,⟨by omega,Or.inr ⟨by omega,rfl,rfl⟩⟩⟩ <;> (first | (simp (maxSteps:=5000000) -dsimp only [gr,reduceEqDiff,reduceLT,reduceAdd,reduceMod,Nat.reduceBEq,zaa,zac,zad,zab,h2a,r2a,h7a,r7a,r58a,h4a,r13a,h6a,h8a,r30a,h9a,zqm hlt,zae hlt (by omega)];first | done | rfl | (simp;done)) | assumption | rfl)) (by first | omega | (simp only;omega) | (dsimp only;omega) | (show _ < _;simp;omega))
  ·obtain rfl:k = ps.length:=by omega
   rw [List.take_length]
   have hcx:=zgI h.cx
   refine zaf (zbO n (zrH ps)) ?_
   simp (maxSteps:=5000000) -dsimp only [↓gp,gq,reduceCtorEq,reduceEqDiff,reduceLT,reduceLeDiff,reduceAdd,reduceMul,reduceSub,Nat.reduceBEq,Int.reduceToNat,Int.reduceLE,Int.reduceLT,Int.reduceNeg,reduceMod,zac,zad,zab,zaa,gT,TK.isInt,TK.agg,Array.toList,h2a,r2a,h7a,r7a,r58a,h4a,r13a,h6a,h8a,r30a,h9a,hcx,hfl,List.take_length]
theorem zaY (p:Int):AC Try.prog 114 [int p] (.im (bool (isP p))):=by
 refine AC.go (rs:=[.tmp 2]) zbe zax Try.func114 rfl rfl rfl (by kernel_rfl) fun hl=>?_
 simp (maxSteps:=5000000) -dsimp only [↓gp,gq,reduceCtorEq,reduceEqDiff,reduceLT,reduceLeDiff,reduceAdd,reduceMul,reduceSub,Nat.reduceBEq,Int.reduceToNat,Int.reduceLE,Int.reduceLT,Int.reduceNeg,reduceMod,zac,zad,zab,zaa,gT,TK.isInt,TK.agg,Array.toList]
 unfold isP
 exact ⟨fun h=>⟨fun h2=>by simp [h,h2],fun h2=>by simp [h,h2]⟩,fun h=>by simp [h]⟩
theorem zaZ (p:Int):AC Try.prog 107 [int p] (.im (bool (isP p))):=by
 refine AC.go (rs:=[.tmp 2]) zbe zax Try.func107 rfl rfl rfl (by kernel_rfl) fun hl=>?_
 simp (maxSteps:=5000000) -dsimp only [↓gp,gq,reduceCtorEq,reduceEqDiff,reduceLT,reduceLeDiff,reduceAdd,reduceMul,reduceSub,Nat.reduceBEq,Int.reduceToNat,Int.reduceLE,Int.reduceLT,Int.reduceNeg,reduceMod,zac,zad,zab,zaa,gT,TK.isInt,TK.agg,Array.toList]
 unfold isP
 exact ⟨fun h=>⟨fun h2=>by simp [h,h2],fun h2=>by simp [h,h2]⟩,fun h=>by simp [h]⟩
theorem zmu {a p:Int} (hp:0 < p):-p < a.tmod p∧a.tmod p < p:=⟨Int.lt_tmod_of_pos a hp,Int.tmod_lt_of_pos a hp⟩
theorem zeh (a p:Int) (hp:isP p = true):AC Try.prog 208 [int a,int p] (.im (int (a % p))):=by
 refine AC.go (rs:=[.tmp 4]) zbe zax Try.func208 rfl rfl rfl (by kernel_rfl) fun hl=>?_
 have hp:=zch hp
 have h1:=zmu (a:=a) (by omega:0 < p)
 have hw:IntKind.i64.wrap (a.tmod p + p) = a.tmod p + p:=zaq (by omega) (by omega)
 have hm:=zyM a p (by omega)
 simp (maxSteps:=5000000) -dsimp only [↓gp,gq,reduceCtorEq,reduceEqDiff,reduceLT,reduceLeDiff,reduceAdd,reduceMul,reduceSub,Nat.reduceBEq,Int.reduceToNat,Int.reduceLE,Int.reduceLT,Int.reduceNeg,reduceMod,zac,zad,zab,zaa,gT,TK.isInt,TK.agg,Array.toList,hw,hm]
 omega
theorem zfE (a p:Int) (hp:isP p = true):AC Try.prog 207 [int a,int p] (.im (int (a % p))):=by
 refine AC.go (rs:=[.tmp 4]) zbe zax Try.func207 rfl rfl rfl (by kernel_rfl) fun hl=>?_
 have hp:=zch hp
 have h1:=zmu (a:=a) (by omega:0 < p)
 have hw:IntKind.i64.wrap (a.tmod p + p) = a.tmod p + p:=zaq (by omega) (by omega)
 have hm:=zyM a p (by omega)
 simp (maxSteps:=5000000) -dsimp only [↓gp,gq,reduceCtorEq,reduceEqDiff,reduceLT,reduceLeDiff,reduceAdd,reduceMul,reduceSub,Nat.reduceBEq,Int.reduceToNat,Int.reduceLE,Int.reduceLT,Int.reduceNeg,reduceMod,zac,zad,zab,zaa,gT,TK.isInt,TK.agg,Array.toList,hw]
 refine ⟨by omega,fun h=>?_,fun h=>?_⟩
 ·rw [← hm,zdN (by omega),Int.emod_eq_of_lt (by omega) (by omega)]
 ·rw [← hm,Int.tmod_eq_emod_of_nonneg (by omega),Int.add_emod_right,Int.emod_eq_of_lt (by omega) (by omega)]
theorem ziJ {p r b:Int} (h:b < p):zc0 p r b (p - b).toNat = if r * b % p = 1 then b else zc0 p r (b + 1) (p - (b + 1)).toNat:=by
 have e:(p - b).toNat = (p - (b + 1)).toNat + 1:=by omega
 rw [e,zc0]
theorem zhm (a p:Int) (hp:isP p = true):AC Try.prog 215 [int a,int p] (.im (int (zkT p a))):=by
 refine AC.go (rs:=[.tmp 4]) zbe zax Try.func215 rfl rfl rfl (by kernel_rfl) fun hl=>?_
 have hp2:=zch hp
 simp (maxSteps:=5000000) -dsimp only [↓gp,gq,reduceCtorEq,reduceEqDiff,reduceLT,reduceLeDiff,reduceAdd,reduceMul,reduceSub,Nat.reduceBEq,Int.reduceToNat,Int.reduceLE,Int.reduceLT,Int.reduceNeg,reduceMod,zac,zad,zab,zaa,gT,TK.isInt,TK.agg,Array.toList]
 refine zaf (zaY p) ?_
 simp (maxSteps:=5000000) -dsimp only [↓gp,gq,reduceCtorEq,reduceEqDiff,reduceLT,reduceLeDiff,reduceAdd,reduceMul,reduceSub,Nat.reduceBEq,Int.reduceToNat,Int.reduceLE,Int.reduceLT,Int.reduceNeg,reduceMod,zac,zad,zab,zaa,gT,TK.isInt,TK.agg,Array.toList,hp]
 have hr:=Int.emod_nonneg a (by omega:p ≠ 0)
 have hr2:=Int.emod_lt_of_pos a (by omega:0 < p)
 refine zao (fun (b:Int) s=>s.sl 0 = int a∧s.sl 1 = int p∧s.sl 5 = int b∧(1 ≤ b∧b ≤ p∧zkT p a = zc0 p (a % p) b (p - b).toNat)) (fun b=>(p - b).toNat) (1) (by refine ⟨?_,?_,?_,⟨by omega,by omega,rfl⟩⟩ <;> (first | (simp (maxSteps:=5000000) -dsimp only [gr,reduceEqDiff,reduceLT,reduceAdd,reduceMod,Nat.reduceBEq,zaa,zac,zad,zab];first | done | rfl | (simp;done)) | assumption | rfl)) ?_
 intro b sa ⟨h0a,h1a,h5a,hIa⟩
 obtain ⟨hb,hb2,hv⟩:=hIa
 simp (maxSteps:=5000000) -dsimp only [↓gp,gq,reduceCtorEq,reduceEqDiff,reduceLT,reduceLeDiff,reduceAdd,reduceMul,reduceSub,Nat.reduceBEq,Int.reduceToNat,Int.reduceLE,Int.reduceLT,Int.reduceNeg,reduceMod,zac,zad,zab,zaa,gT,TK.isInt,TK.agg,Array.toList,h0a,h1a,h5a]
 refine ⟨fun h=>zaf (zeh a p hp) ?_,fun h=>?_⟩
 ·have hm:0 ≤ a % p * b∧a % p * b ≤ 20:=by
   refine ⟨Int.mul_nonneg hr (by omega),?_⟩
   have:=Int.mul_le_mul (show a % p ≤ 4 by omega) (show b ≤ 5 by omega) (by omega) (by omega)
   omega
  have hw:IntKind.i64.wrap (a % p * b) = a % p * b:=zaq (by omega) (by omega)
  have hw2:IntKind.i64.wrap (b + 1) = b + 1:=zaq (by omega) (by omega)
  simp (maxSteps:=5000000) -dsimp only [↓gp,gq,reduceCtorEq,reduceEqDiff,reduceLT,reduceLeDiff,reduceAdd,reduceMul,reduceSub,Nat.reduceBEq,Int.reduceToNat,Int.reduceLE,Int.reduceLT,Int.reduceNeg,reduceMod,zac,zad,zab,zaa,gT,TK.isInt,TK.agg,Array.toList,h0a,h1a,h5a,hw,hw2,zdN hm.1]
  refine ⟨by omega,fun h1=>?_,fun h1=>zag (b + 1) ⟨(by (first | (simp (maxSteps:=5000000) -dsimp only [gr,reduceEqDiff,reduceLT,reduceAdd,reduceMod,Nat.reduceBEq,zaa,zac,zad,zab,h0a,h1a,h5a,hw2];first | done | rfl | (simp;done)) | assumption | rfl)),(by (first | (simp (maxSteps:=5000000) -dsimp only [gr,reduceEqDiff,reduceLT,reduceAdd,reduceMod,Nat.reduceBEq,zaa,zac,zad,zab,h0a,h1a,h5a,hw2];first | done | rfl | (simp;done)) | assumption | rfl)),(by (first | (simp (maxSteps:=5000000) -dsimp only [gr,reduceEqDiff,reduceLT,reduceAdd,reduceMod,Nat.reduceBEq,zaa,zac,zad,zab,h0a,h1a,h5a,hw2];first | done | rfl | (simp;done)) | assumption | rfl)),⟨by omega,by omega,?_⟩⟩ (by first | omega | (simp only;omega) | (dsimp only;omega) | (show _ < _;simp;omega))⟩
  ·have h1:=beq_iff_eq.1 h1
   rw [hv,ziJ h,if_pos h1]
  ·have h1:¬ a % p * b % p = 1:=by simpa using h1
   rw [hv,ziJ h,if_neg h1]
 ·have:(p - b).toNat = 0:=by omega
  rw [hv,this];rfl
theorem zhn (a p:Int) (hp:isP p = true):AC Try.prog 206 [int a,int p] (.im (int (zkT p a))):=by
 refine AC.go (rs:=[.tmp 4]) zbe zax Try.func206 rfl rfl rfl (by kernel_rfl) fun hl=>?_
 have hp2:=zch hp
 simp (maxSteps:=5000000) -dsimp only [↓gp,gq,reduceCtorEq,reduceEqDiff,reduceLT,reduceLeDiff,reduceAdd,reduceMul,reduceSub,Nat.reduceBEq,Int.reduceToNat,Int.reduceLE,Int.reduceLT,Int.reduceNeg,reduceMod,zac,zad,zab,zaa,gT,TK.isInt,TK.agg,Array.toList]
 refine zaf (zaZ p) ?_
 simp (maxSteps:=5000000) -dsimp only [↓gp,gq,reduceCtorEq,reduceEqDiff,reduceLT,reduceLeDiff,reduceAdd,reduceMul,reduceSub,Nat.reduceBEq,Int.reduceToNat,Int.reduceLE,Int.reduceLT,Int.reduceNeg,reduceMod,zac,zad,zab,zaa,gT,TK.isInt,TK.agg,Array.toList,hp]
 have hr:=Int.emod_nonneg a (by omega:p ≠ 0)
 have hr2:=Int.emod_lt_of_pos a (by omega:0 < p)
 refine zaf (zfE a p hp) ?_
 simp (maxSteps:=5000000) -dsimp only [↓gp,gq,reduceCtorEq,reduceEqDiff,reduceLT,reduceLeDiff,reduceAdd,reduceMul,reduceSub,Nat.reduceBEq,Int.reduceToNat,Int.reduceLE,Int.reduceLT,Int.reduceNeg,reduceMod,zac,zad,zab,zaa,gT,TK.isInt,TK.agg,Array.toList]
 refine zao (fun (b:Int) s=>s.sl 1 = int p∧s.sl 5 = int (a % p)∧s.sl 6 = int b∧(1 ≤ b∧b ≤ p∧zkT p a = zc0 p (a % p) b (p - b).toNat)) (fun b=>(p - b).toNat) (1) (by refine ⟨?_,?_,?_,⟨by omega,by omega,rfl⟩⟩ <;> (first | (simp (maxSteps:=5000000) -dsimp only [gr,reduceEqDiff,reduceLT,reduceAdd,reduceMod,Nat.reduceBEq,zaa,zac,zad,zab];first | done | rfl | (simp;done)) | assumption | rfl)) ?_
 intro b sa ⟨h1a,h5a,h6a,hIa⟩
 obtain ⟨hb,hb2,hv⟩:=hIa
 have hm:0 ≤ a % p * b∧a % p * b ≤ 20:=by
  refine ⟨Int.mul_nonneg hr (by omega),?_⟩
  have:=Int.mul_le_mul (show a % p ≤ 4 by omega) (show b ≤ 5 by omega) (by omega) (by omega)
  omega
 have hw:IntKind.i64.wrap (a % p * b) = a % p * b:=zaq (by omega) (by omega)
 have hw2:IntKind.i64.wrap (b + 1) = b + 1:=zaq (by omega) (by omega)
 simp (maxSteps:=5000000) -dsimp only [↓gp,gq,reduceCtorEq,reduceEqDiff,reduceLT,reduceLeDiff,reduceAdd,reduceMul,reduceSub,Nat.reduceBEq,Int.reduceToNat,Int.reduceLE,Int.reduceLT,Int.reduceNeg,reduceMod,zac,zad,zab,zaa,gT,TK.isInt,TK.agg,Array.toList,h1a,h5a,h6a,hw,hw2,zdN hm.1]
 refine ⟨fun h=>⟨by omega,fun h1=>?_,fun h1=>zag (b + 1) ⟨(by (first | (simp (maxSteps:=5000000) -dsimp only [gr,reduceEqDiff,reduceLT,reduceAdd,reduceMod,Nat.reduceBEq,zaa,zac,zad,zab,h1a,h5a,h6a,hw2];first | done | rfl | (simp;done)) | assumption | rfl)),(by (first | (simp (maxSteps:=5000000) -dsimp only [gr,reduceEqDiff,reduceLT,reduceAdd,reduceMod,Nat.reduceBEq,zaa,zac,zad,zab,h1a,h5a,h6a,hw2];first | done | rfl | (simp;done)) | assumption | rfl)),(by (first | (simp (maxSteps:=5000000) -dsimp only [gr,reduceEqDiff,reduceLT,reduceAdd,reduceMod,Nat.reduceBEq,zaa,zac,zad,zab,h1a,h5a,h6a,hw2];first | done | rfl | (simp;done)) | assumption | rfl)),⟨by omega,by omega,?_⟩⟩ (by first | omega | (simp only;omega) | (dsimp only;omega) | (show _ < _;simp;omega))⟩,fun h=>?_⟩
 ·have h1:=beq_iff_eq.1 h1
  rw [hv,ziJ h,if_pos h1]
 ·have h1:¬ a % p * b % p = 1:=by simpa using h1
  rw [hv,ziJ h,if_neg h1]
 ·have:(p - b).toNat = 0:=by omega
  rw [hv,this];rfl
theorem zut (p:Int) {r:List Int} {j:Nat} (h:j < r.length):(r.map fun x=>x % p).getD j 0 = r.getD j 0 % p:=by simp [List.getD,h]
theorem zqp (p:Int) {M:Mat} {i:Nat} (h:i < M.length):zf4 p (M.take i) ++ [(M.getD i []).map fun x=>x % p] = zf4 p (M.take (i + 1)):=by
 rw [zaR [] h];simp [zf4]
theorem zgO (p:Int) {M:Mat} {i:Nat} (h:i ≤ M.length):(zf4 p (M.take i)).length = i:=by simp [zf4];omega
theorem zie (M:Mat) (p:Int) (hp:isP p = true) (hM:M.length ≤ 900) (hr:∀ i,i < M.length→(M.getD i []).length ≤ 1000):AC Try.prog 191 [zzL M,int p] (.tb 22 3 ((zf4 p M).map iL)):=by
 refine AC.go (rs:=[.tmp 4]) zbe zax Try.func191 rfl rfl rfl (by kernel_rfl) fun hl=>?_
 simp (maxSteps:=5000000) -dsimp only [↓gp,gq,reduceCtorEq,reduceEqDiff,reduceLT,reduceLeDiff,reduceAdd,reduceMul,reduceSub,Nat.reduceBEq,Int.reduceToNat,Int.reduceLE,Int.reduceLT,Int.reduceNeg,reduceMod,zac,zad,zab,zaa,gT,TK.isInt,TK.agg,Array.toList]
 refine ⟨by omega,by omega,?_⟩
 refine zum (k:=12) (v:=1) (e:=22) (e2:=3) (n:=M.length) (by simp (maxSteps:=5000000) -dsimp only [gr,reduceEqDiff,reduceLT,reduceAdd,reduceMod,Nat.reduceBEq,zaa,zac,zad,zab]) (fun j=>by simp (maxSteps:=5000000) -dsimp only [gr,reduceEqDiff,reduceLT,reduceAdd,reduceMod,Nat.reduceBEq,zaa,zac,zad,zab]) (fun (i:Nat) s=>s.sl 0 = zzL M∧s.sl 1 = int p∧s.sl 5 = .own 12 1∧s.sl 13 = zzL M∧s.sl 14 = int M.length∧s.sl 15 = int i∧(i ≤ M.length∧TabP s.rw 12 1 22 3 M.length i (zf4 p (M.take i)))) (fun i=>M.length - i) (0) (fun sX htX hslX hoX=>(by refine ⟨?_,?_,?_,?_,?_,?_,⟨by omega,htX⟩⟩ <;> (first | (simp (maxSteps:=5000000) -dsimp only [gr,reduceEqDiff,reduceLT,reduceAdd,reduceMod,Nat.reduceBEq,zaa,zac,zad,zab,hslX,hoX];first | done | rfl | (simp;done)) | assumption | rfl))) ?_
 intro i sa ⟨h0a,h1a,h5a,h13a,h14a,h15a,hIa⟩
 obtain ⟨hi,ht⟩:=hIa
 simp (maxSteps:=5000000) -dsimp only [↓gp,gq,reduceCtorEq,reduceEqDiff,reduceLT,reduceLeDiff,reduceAdd,reduceMul,reduceSub,Nat.reduceBEq,Int.reduceToNat,Int.reduceLE,Int.reduceLT,Int.reduceNeg,reduceMod,zac,zad,zab,zaa,gT,TK.isInt,TK.agg,Array.toList,h0a,h1a,h5a,h13a,h14a,h15a,ht.top,zbJ]
 refine ⟨fun h=>⟨h,h,by have:=hr i h;omega,by have:=hr i h;omega,h,by omega,?_⟩,fun h=>?_⟩
 ·have hri:=hr i h
  have hlen:=zgO p hi
  generalize hrow:M.getD i [] = row at *
  refine zqh (k:=12) (v:=1) (e:=22) (e2:=3) (n:=M.length) (i:=i) (d:=24) (vd:=(sa.rw 24).ver + 1) (M:=zf4 p (M.take i)) (r:=List.replicate row.length 0) (by simp (maxSteps:=5000000) -dsimp only [gr,reduceEqDiff,reduceLT,reduceAdd,reduceMod,Nat.reduceBEq,zaa,zac,zad,zab,ht.top]) hlen (fun j hj=>by simp (maxSteps:=5000000) -dsimp only [gr,reduceEqDiff,reduceLT,reduceAdd,reduceMod,Nat.reduceBEq,zaa,zac,zad,zab,ht.row j hj]) (fun j hj=>by simp (maxSteps:=5000000) -dsimp only [gr,reduceEqDiff,reduceLT,reduceAdd,reduceMod,Nat.reduceBEq,zaa,zac,zad,zab,ht.rest j hj]) (by simp (maxSteps:=5000000) -dsimp only [gr,reduceEqDiff,reduceLT,reduceAdd,reduceMod,Nat.reduceBEq,zaa,zac,zad,zab]) (by decide) (by decide) h (fun (j:Nat) s=>s.sl 0 = zzL M∧s.sl 1 = int p∧s.sl 5 = .own 12 1∧s.sl 13 = zzL M∧s.sl 14 = int M.length∧s.sl 15 = int i∧s.sl 6 = int i∧s.sl 7 = zbv row∧s.sl 26 = zbv row∧s.sl 27 = int row.length∧s.sl 28 = int j∧(j ≤ row.length∧TabP s.rw 12 1 22 3 M.length (i + 1) (zf4 p (M.take i) ++ [prt (row.map fun x=>x % p) (List.replicate row.length 0) j]))) (fun j=>row.length - j) (0) (fun sX htX hslX hoX=>(by refine ⟨?_,?_,?_,?_,?_,?_,?_,?_,?_,?_,?_,⟨by omega,by rw [zeg];exact htX⟩⟩ <;> (first | (simp (maxSteps:=5000000) -dsimp only [gr,reduceEqDiff,reduceLT,reduceAdd,reduceMod,Nat.reduceBEq,zaa,zac,zad,zab,hslX,hoX,h0a,h1a,h5a,h13a,h14a,h15a];first | done | rfl | (simp;done)) | assumption | rfl))) ?_
  intro j sb ⟨h0b,h1b,h5b,h13b,h14b,h15b,h6b,h7b,h26b,h27b,h28b,hIb⟩
  obtain ⟨hj,ht2⟩:=hIb
  have hrr:=ht2.row i (by omega)
  rw [zqi hlen] at hrr
  have hpl:∀ t,(prt (row.map fun x=>x % p) (List.replicate row.length 0) t).length = row.length:=fun t=>by rw [zcF (by simp)];simp
  simp (maxSteps:=5000000) -dsimp only [↓gp,gq,reduceCtorEq,reduceEqDiff,reduceLT,reduceLeDiff,reduceAdd,reduceMul,reduceSub,Nat.reduceBEq,Int.reduceToNat,Int.reduceLE,Int.reduceLT,Int.reduceNeg,reduceMod,zac,zad,zab,zaa,gT,TK.isInt,TK.agg,Array.toList,h0b,h1b,h5b,h13b,h14b,h15b,h6b,h7b,h26b,h27b,h28b,ht2.top,zkk,hrr,hpl,zbJ]
  refine ⟨fun h2=>⟨h2,h2,by kernel_rfl,h,h,zaf (zfE _ p hp) ?_⟩,fun h2=>?_⟩
  ·simp (maxSteps:=5000000) -dsimp only [↓gp,gq,reduceCtorEq,reduceEqDiff,reduceLT,reduceLeDiff,reduceAdd,reduceMul,reduceSub,Nat.reduceBEq,Int.reduceToNat,Int.reduceLE,Int.reduceLT,Int.reduceNeg,reduceMod,zac,zad,zab,zaa,gT,TK.isInt,TK.agg,Array.toList,h0b,h1b,h5b,h13b,h14b,h15b,h6b,h7b,h26b,h27b,h28b,ht2.top,zkk,hrr,hpl,zbJ]
   refine ⟨h2,by omega,by kernel_rfl,zag (j + 1) ⟨(by (first | (simp (maxSteps:=5000000) -dsimp only [gr,reduceEqDiff,reduceLT,reduceAdd,reduceMod,Nat.reduceBEq,zaa,zac,zad,zab,h0b,h1b,h5b,h13b,h14b,h15b,h6b,h7b,h26b,h27b,h28b,zae h2 (by omega)];first | done | rfl | (simp;done)) | assumption | rfl)),(by (first | (simp (maxSteps:=5000000) -dsimp only [gr,reduceEqDiff,reduceLT,reduceAdd,reduceMod,Nat.reduceBEq,zaa,zac,zad,zab,h0b,h1b,h5b,h13b,h14b,h15b,h6b,h7b,h26b,h27b,h28b,zae h2 (by omega)];first | done | rfl | (simp;done)) | assumption | rfl)),(by (first | (simp (maxSteps:=5000000) -dsimp only [gr,reduceEqDiff,reduceLT,reduceAdd,reduceMod,Nat.reduceBEq,zaa,zac,zad,zab,h0b,h1b,h5b,h13b,h14b,h15b,h6b,h7b,h26b,h27b,h28b,zae h2 (by omega)];first | done | rfl | (simp;done)) | assumption | rfl)),(by (first | (simp (maxSteps:=5000000) -dsimp only [gr,reduceEqDiff,reduceLT,reduceAdd,reduceMod,Nat.reduceBEq,zaa,zac,zad,zab,h0b,h1b,h5b,h13b,h14b,h15b,h6b,h7b,h26b,h27b,h28b,zae h2 (by omega)];first | done | rfl | (simp;done)) | assumption | rfl)),(by (first | (simp (maxSteps:=5000000) -dsimp only [gr,reduceEqDiff,reduceLT,reduceAdd,reduceMod,Nat.reduceBEq,zaa,zac,zad,zab,h0b,h1b,h5b,h13b,h14b,h15b,h6b,h7b,h26b,h27b,h28b,zae h2 (by omega)];first | done | rfl | (simp;done)) | assumption | rfl)),(by (first | (simp (maxSteps:=5000000) -dsimp only [gr,reduceEqDiff,reduceLT,reduceAdd,reduceMod,Nat.reduceBEq,zaa,zac,zad,zab,h0b,h1b,h5b,h13b,h14b,h15b,h6b,h7b,h26b,h27b,h28b,zae h2 (by omega)];first | done | rfl | (simp;done)) | assumption | rfl)),(by (first | (simp (maxSteps:=5000000) -dsimp only [gr,reduceEqDiff,reduceLT,reduceAdd,reduceMod,Nat.reduceBEq,zaa,zac,zad,zab,h0b,h1b,h5b,h13b,h14b,h15b,h6b,h7b,h26b,h27b,h28b,zae h2 (by omega)];first | done | rfl | (simp;done)) | assumption | rfl)),(by (first | (simp (maxSteps:=5000000) -dsimp only [gr,reduceEqDiff,reduceLT,reduceAdd,reduceMod,Nat.reduceBEq,zaa,zac,zad,zab,h0b,h1b,h5b,h13b,h14b,h15b,h6b,h7b,h26b,h27b,h28b,zae h2 (by omega)];first | done | rfl | (simp;done)) | assumption | rfl)),(by (first | (simp (maxSteps:=5000000) -dsimp only [gr,reduceEqDiff,reduceLT,reduceAdd,reduceMod,Nat.reduceBEq,zaa,zac,zad,zab,h0b,h1b,h5b,h13b,h14b,h15b,h6b,h7b,h26b,h27b,h28b,zae h2 (by omega)];first | done | rfl | (simp;done)) | assumption | rfl)),(by (first | (simp (maxSteps:=5000000) -dsimp only [gr,reduceEqDiff,reduceLT,reduceAdd,reduceMod,Nat.reduceBEq,zaa,zac,zad,zab,h0b,h1b,h5b,h13b,h14b,h15b,h6b,h7b,h26b,h27b,h28b,zae h2 (by omega)];first | done | rfl | (simp;done)) | assumption | rfl)),(by (first | (simp (maxSteps:=5000000) -dsimp only [gr,reduceEqDiff,reduceLT,reduceAdd,reduceMod,Nat.reduceBEq,zaa,zac,zad,zab,h0b,h1b,h5b,h13b,h14b,h15b,h6b,h7b,h26b,h27b,h28b,zae h2 (by omega)];first | done | rfl | (simp;done)) | assumption | rfl)),⟨by omega,?_⟩⟩ (by first | omega | (simp only;omega) | (dsimp only;omega) | (show _ < _;simp;omega))⟩
   have e:zf4 p (M.take i) ++ [prt (row.map fun x=>x % p) (List.replicate row.length 0) (j + 1)] = (zf4 p (M.take i) ++ [prt (row.map fun x=>x % p) (List.replicate row.length 0) j]).set i ((prt (row.map fun x=>x % p) (List.replicate row.length 0) j).set j (row.getD j 0 % p)):=by
    rw [zun hlen,← zfS (by simp) (by simpa using h2),zut p h2]
   rw [e]
   exact ht2.set (by omega) (by simp (maxSteps:=5000000) -dsimp only [gr,reduceEqDiff,reduceLT,reduceAdd,reduceMod,Nat.reduceBEq,zaa,zac,zad,zab,h0b,h1b,h5b,h13b,h14b,h15b,h6b,h7b,h26b,h27b,h28b]) (by simp (maxSteps:=5000000) -dsimp only [gr,reduceEqDiff,reduceLT,reduceAdd,reduceMod,Nat.reduceBEq,zaa,zac,zad,zab,h0b,h1b,h5b,h13b,h14b,h15b,h6b,h7b,h26b,h27b,h28b]) (fun x hx=>by simp (maxSteps:=5000000) -dsimp only [gr,reduceEqDiff,reduceLT,reduceAdd,reduceMod,Nat.reduceBEq,zaa,zac,zad,zab,h0b,h1b,h5b,h13b,h14b,h15b,h6b,h7b,h26b,h27b,h28b,hx])
  ·have:j = row.length:=by omega
   subst this
   refine zag (i + 1) ⟨(by (first | (simp (maxSteps:=5000000) -dsimp only [gr,reduceEqDiff,reduceLT,reduceAdd,reduceMod,Nat.reduceBEq,zaa,zac,zad,zab,h0a,h1a,h5a,h13a,h14a,h15a,h0b,h1b,h5b,h13b,h14b,h15b,h6b,h7b,h26b,h27b,h28b,zae h (by omega)];first | done | rfl | (simp;done)) | assumption | rfl)),(by (first | (simp (maxSteps:=5000000) -dsimp only [gr,reduceEqDiff,reduceLT,reduceAdd,reduceMod,Nat.reduceBEq,zaa,zac,zad,zab,h0a,h1a,h5a,h13a,h14a,h15a,h0b,h1b,h5b,h13b,h14b,h15b,h6b,h7b,h26b,h27b,h28b,zae h (by omega)];first | done | rfl | (simp;done)) | assumption | rfl)),(by (first | (simp (maxSteps:=5000000) -dsimp only [gr,reduceEqDiff,reduceLT,reduceAdd,reduceMod,Nat.reduceBEq,zaa,zac,zad,zab,h0a,h1a,h5a,h13a,h14a,h15a,h0b,h1b,h5b,h13b,h14b,h15b,h6b,h7b,h26b,h27b,h28b,zae h (by omega)];first | done | rfl | (simp;done)) | assumption | rfl)),(by (first | (simp (maxSteps:=5000000) -dsimp only [gr,reduceEqDiff,reduceLT,reduceAdd,reduceMod,Nat.reduceBEq,zaa,zac,zad,zab,h0a,h1a,h5a,h13a,h14a,h15a,h0b,h1b,h5b,h13b,h14b,h15b,h6b,h7b,h26b,h27b,h28b,zae h (by omega)];first | done | rfl | (simp;done)) | assumption | rfl)),(by (first | (simp (maxSteps:=5000000) -dsimp only [gr,reduceEqDiff,reduceLT,reduceAdd,reduceMod,Nat.reduceBEq,zaa,zac,zad,zab,h0a,h1a,h5a,h13a,h14a,h15a,h0b,h1b,h5b,h13b,h14b,h15b,h6b,h7b,h26b,h27b,h28b,zae h (by omega)];first | done | rfl | (simp;done)) | assumption | rfl)),(by (first | (simp (maxSteps:=5000000) -dsimp only [gr,reduceEqDiff,reduceLT,reduceAdd,reduceMod,Nat.reduceBEq,zaa,zac,zad,zab,h0a,h1a,h5a,h13a,h14a,h15a,h0b,h1b,h5b,h13b,h14b,h15b,h6b,h7b,h26b,h27b,h28b,zae h (by omega)];first | done | rfl | (simp;done)) | assumption | rfl)),⟨by omega,?_⟩⟩ (by first | omega | (simp only;omega) | (dsimp only;omega) | (show _ < _;simp;omega))
   have e:prt (row.map fun x=>x % p) (List.replicate row.length 0) row.length = row.map fun x=>x % p:=by
    have:=zfR (new:=row.map fun x=>x % p) (old:=List.replicate row.length 0) (by simp)
    simpa using this
   have ht3:=ht2
   rw [e,← hrow,zqp p h] at ht3
   exact ht3.same (by simp (maxSteps:=5000000) -dsimp only [gr,reduceEqDiff,reduceLT,reduceAdd,reduceMod,Nat.reduceBEq,zaa,zac,zad,zab]) (fun x=>by simp (maxSteps:=5000000) -dsimp only [gr,reduceEqDiff,reduceLT,reduceAdd,reduceMod,Nat.reduceBEq,zaa,zac,zad,zab])
 ·have:i = M.length:=by omega
  subst this
  rw [List.take_length] at ht
  exact zkl ht.done (by decide) (fun j hj=>by have:=List.mem_range.1 hj;omega)
theorem zgN {a b p:Int} (h1:0 ≤ a∧a < p) (h2:0 ≤ b∧b ≤ 5) (hp:p ≤ 5):0 ≤ a * b∧a * b ≤ 25:=by
 refine ⟨Int.mul_nonneg h1.1 h2.1,?_⟩
 have:=Int.mul_le_mul (show a ≤ 5 by omega) h2.2 h2.1 (by omega)
 omega
theorem zAI (l:List Int) (j:Nat):prt l l j = l:=by simp [prt]
theorem zkt (M:Mat) (n a c:Nat) (p:Int) (hp:isP p = true) (hM:MatOk p n M) (ha:a < M.length) (hc:c < n) (hn:n ≤ 1000):AT Try.prog 209 [.own 1000000 1,int a,int c,int p] 22 3 (M.map iL) ((zdo p a c M).map iL) .self:=by
 refine AT.goI (rs:=[.tmp 8]) zbe zax Try.func209 rfl rfl rfl (by kernel_rfl) (zbb p a c M) fun hl s hs hlow ht=>?_
 have hp2:=zch hp
 have hlen:=hM.len a ha
 have hres:=hM.res a ha
 have hac:=hres c
 have hra:=ht.row ha
 have hq:∀ i,i < M.length→(List.range M.length).getD i 0 = i:=fun i hi=>by simp [List.getD,hi]
 rw [hq a ha] at hra
 simp (maxSteps:=5000000) -dsimp only [↓gp,gq,reduceCtorEq,reduceEqDiff,reduceLT,reduceLeDiff,reduceAdd,reduceMul,reduceSub,Nat.reduceBEq,Int.reduceToNat,Int.reduceLE,Int.reduceLT,Int.reduceNeg,reduceMod,zac,zad,zab,zaa,gT,TK.isInt,TK.agg,Array.toList,hs,hlow,ht.top,hra,hq a ha]
 refine ⟨ha,ha,by omega,by omega,zaf (zhm _ p hp) ?_⟩
 generalize hb:zkT p ((M.getD a []).getD c 0) = b at *
 have hbb:=zyI hp ((M.getD a []).getD c 0)
 rw [hb] at hbb
 simp (maxSteps:=5000000) -dsimp only [↓gp,gq,reduceCtorEq,reduceEqDiff,reduceLT,reduceLeDiff,reduceAdd,reduceMul,reduceSub,Nat.reduceBEq,Int.reduceToNat,Int.reduceLE,Int.reduceLT,Int.reduceNeg,reduceMod,zac,zad,zab,zaa,gT,TK.isInt,TK.agg,Array.toList,hs,hlow]
 generalize hold:M.getD a [] = old at *
 refine zao (fun (j:Nat) s=>s.sl 0 = .own 1000000 1∧s.sl 1 = int a∧s.sl 2 = int c∧s.sl 3 = int p∧s.sl 9 = int b∧s.sl 10 = int j∧(j ≤ n∧TabI s.rw 1000000 1 22 3 (List.range M.length) (M.set a (prt (scl p b old) old j)))) (fun j=>n - j) (0) (by refine ⟨?_,?_,?_,?_,?_,?_,⟨by omega,by rw [zeg,← hold,zb4];exact ht.same (by simp (maxSteps:=5000000) -dsimp only [gr,reduceEqDiff,reduceLT,reduceAdd,reduceMod,Nat.reduceBEq,zaa,zac,zad,zab]) (fun x=>by simp (maxSteps:=5000000) -dsimp only [gr,reduceEqDiff,reduceLT,reduceAdd,reduceMod,Nat.reduceBEq,zaa,zac,zad,zab])⟩⟩ <;> (first | (simp (maxSteps:=5000000) -dsimp only [gr,reduceEqDiff,reduceLT,reduceAdd,reduceMod,Nat.reduceBEq,zaa,zac,zad,zab,hs];first | done | rfl | (simp;done)) | assumption | rfl)) ?_
 intro j sa ⟨h0a,h1a,h2a,h3a,h9a,h10a,hIa⟩
 obtain ⟨hj,ht1⟩:=hIa
 have hset:a < (M.set a (prt (scl p b old) old j)).length:=by simpa using ha
 have hr1:=ht1.row hset
 have hpl:(prt (scl p b old) old j).length = n:=by rw [zcF (zbR p b old)];exact hlen
 rw [zaF ha,hq a ha] at hr1
 have hpj:=ziG (zbR p b old) (Nat.le_refl j)
 have hoj:=hres j
 have hmb:=zgN hoj ⟨hbb.1,by omega⟩ hp2.2
 have hw:IntKind.i64.wrap (old.getD j 0 * b) = old.getD j 0 * b:=zaq (by omega) (by omega)
 simp (maxSteps:=5000000) -dsimp only [↓gp,gq,reduceCtorEq,reduceEqDiff,reduceLT,reduceLeDiff,reduceAdd,reduceMul,reduceSub,Nat.reduceBEq,Int.reduceToNat,Int.reduceLE,Int.reduceLT,Int.reduceNeg,reduceMod,zac,zad,zab,zaa,gT,TK.isInt,TK.agg,Array.toList,h0a,h1a,h2a,h3a,h9a,h10a,ht1.top,hr1,hq a ha,hpl,hpj,hw,zdN hmb.1]
 refine ⟨ha,ha,fun h=>⟨by kernel_rfl,ha,ha,ha,ha,h,h,by omega,h,by omega,by kernel_rfl,?_⟩,fun h=>?_⟩
 ·refine zag (j + 1) ⟨(by (first | (simp (maxSteps:=5000000) -dsimp only [gr,reduceEqDiff,reduceLT,reduceAdd,reduceMod,Nat.reduceBEq,zaa,zac,zad,zab,h0a,h1a,h2a,h3a,h9a,h10a,zae h (by omega)];first | done | rfl | (simp;done)) | assumption | rfl)),(by (first | (simp (maxSteps:=5000000) -dsimp only [gr,reduceEqDiff,reduceLT,reduceAdd,reduceMod,Nat.reduceBEq,zaa,zac,zad,zab,h0a,h1a,h2a,h3a,h9a,h10a,zae h (by omega)];first | done | rfl | (simp;done)) | assumption | rfl)),(by (first | (simp (maxSteps:=5000000) -dsimp only [gr,reduceEqDiff,reduceLT,reduceAdd,reduceMod,Nat.reduceBEq,zaa,zac,zad,zab,h0a,h1a,h2a,h3a,h9a,h10a,zae h (by omega)];first | done | rfl | (simp;done)) | assumption | rfl)),(by (first | (simp (maxSteps:=5000000) -dsimp only [gr,reduceEqDiff,reduceLT,reduceAdd,reduceMod,Nat.reduceBEq,zaa,zac,zad,zab,h0a,h1a,h2a,h3a,h9a,h10a,zae h (by omega)];first | done | rfl | (simp;done)) | assumption | rfl)),(by (first | (simp (maxSteps:=5000000) -dsimp only [gr,reduceEqDiff,reduceLT,reduceAdd,reduceMod,Nat.reduceBEq,zaa,zac,zad,zab,h0a,h1a,h2a,h3a,h9a,h10a,zae h (by omega)];first | done | rfl | (simp;done)) | assumption | rfl)),(by (first | (simp (maxSteps:=5000000) -dsimp only [gr,reduceEqDiff,reduceLT,reduceAdd,reduceMod,Nat.reduceBEq,zaa,zac,zad,zab,h0a,h1a,h2a,h3a,h9a,h10a,zae h (by omega)];first | done | rfl | (simp;done)) | assumption | rfl)),⟨by omega,?_⟩⟩ (by first | omega | (simp only;omega) | (dsimp only;omega) | (show _ < _;simp;omega))
  have e:M.set a (prt (scl p b old) old (j + 1)) = (M.set a (prt (scl p b old) old j)).set a ((prt (scl p b old) old j).set j (old.getD j 0 * b % p)):=by
   rw [zm9,← zfS (zbR p b old) (by omega),zfa p b (by omega)]
  rw [e]
  refine ht1.set hset (by simp (maxSteps:=5000000) -dsimp only [gr,reduceEqDiff,reduceLT,reduceAdd,reduceMod,Nat.reduceBEq,zaa,zac,zad,zab,h0a,h1a,h2a,h3a,h9a,h10a]) ?_ (fun x hx=>?_)
  ·rw [hq a ha];simp (maxSteps:=5000000) -dsimp only [gr,reduceEqDiff,reduceLT,reduceAdd,reduceMod,Nat.reduceBEq,zaa,zac,zad,zab,h0a,h1a,h2a,h3a,h9a,h10a]
  ·rw [hq a ha] at hx
   simp (maxSteps:=5000000) -dsimp only [gr,reduceEqDiff,reduceLT,reduceAdd,reduceMod,Nat.reduceBEq,zaa,zac,zad,zab,h0a,h1a,h2a,h3a,h9a,h10a,hx]
 have:j = n:=by omega
 subst this
 have hend:prt (scl p b old) old j = scl p b old:=by rw [← hlen];exact zfR (zbR p b old)
 rw [hend] at ht1
 have hclr:M.set a (scl p b old) = zqe p a c M:=by unfold zqe;rw [hold,hb]
 rw [hclr] at ht1
 have hM1:=zrx (p:=p) (n:=j) (at':=a) (col:=c) (by omega) hM ha
 have hl1:(zqe p a c M).length = M.length:=zcG p a c M
 have hgoal:zdo p a c M = zfb p a c (zqe p a c M) M.length:=rfl
 rw [hgoal]
 generalize zqe p a c M = M1 at *
 refine zao (fun (i:Nat) s=>s.sl 0 = .own 1000000 1∧s.sl 1 = int a∧s.sl 2 = int c∧s.sl 3 = int p∧s.sl 11 = int i∧(i ≤ M.length∧TabI s.rw 1000000 1 22 3 (List.range M.length) (zfb p a c M1 i))) (fun i=>M.length - i) (0) (by refine ⟨?_,?_,?_,?_,?_,⟨by omega,by rw [zqf];exact ht1.same (by simp (maxSteps:=5000000) -dsimp only [gr,reduceEqDiff,reduceLT,reduceAdd,reduceMod,Nat.reduceBEq,zaa,zac,zad,zab]) (fun x=>by simp (maxSteps:=5000000) -dsimp only [gr,reduceEqDiff,reduceLT,reduceAdd,reduceMod,Nat.reduceBEq,zaa,zac,zad,zab])⟩⟩ <;> (first | (simp (maxSteps:=5000000) -dsimp only [gr,reduceEqDiff,reduceLT,reduceAdd,reduceMod,Nat.reduceBEq,zaa,zac,zad,zab,h0a,h1a,h2a,h3a,h9a,h10a];first | done | rfl | (simp;done)) | assumption | rfl)) ?_
 intro i sb ⟨h0b,h1b,h2b,h3b,h11b,hIb⟩
 obtain ⟨hi,ht2⟩:=hIb
 have hlN:(zfb p a c M1 i).length = M.length:=by rw [zbI,hl1]
 simp (maxSteps:=5000000) -dsimp only [↓gp,gq,reduceCtorEq,reduceEqDiff,reduceLT,reduceLeDiff,reduceAdd,reduceMul,reduceSub,Nat.reduceBEq,Int.reduceToNat,Int.reduceLE,Int.reduceLT,Int.reduceNeg,reduceMod,zac,zad,zab,zaa,gT,TK.isInt,TK.agg,Array.toList,h0b,h1b,h2b,h3b,h11b,ht2.top]
 refine ⟨fun h=>?_,fun h=>?_⟩
 ·have hi1:i < M1.length:=by omega
  have hr2:=ht2.row (i:=i) (by omega)
  rw [zhj p a c hi1 (Nat.le_refl i),hq i h] at hr2
  have hl2:=hM1.len i hi1
  have hres2:=hM1.res i hi1
  generalize hold2:M1.getD i [] = old2 at *
  simp (maxSteps:=5000000) -dsimp only [↓gp,gq,reduceCtorEq,reduceEqDiff,reduceLT,reduceLeDiff,reduceAdd,reduceMul,reduceSub,Nat.reduceBEq,Int.reduceToNat,Int.reduceLE,Int.reduceLT,Int.reduceNeg,reduceMod,zac,zad,zab,zaa,gT,TK.isInt,TK.agg,Array.toList,h0b,h1b,h2b,h3b,h11b,ht2.top,hr2,hq i h]
  refine ⟨h,h,by omega,by omega,?_⟩
  have hf:=hres2 c
  generalize hfe:old2.getD c 0 = f at *
  have hra1:a < M1.length:=by omega
  have hnew:(zf3 p a c M1 i).length = old2.length:=by
   rw [(zna (p:=p) (by omega) hM1 hi1).1,hl2]
  refine zao (fun (t:Nat) s=>s.sl 0 = .own 1000000 1∧s.sl 1 = int a∧s.sl 2 = int c∧s.sl 3 = int p∧s.sl 11 = int i∧s.sl 12 = int f∧s.sl 13 = int t∧(t ≤ old2.length∧TabI s.rw 1000000 1 22 3 (List.range M.length) ((zfb p a c M1 i).set i (prt (zf3 p a c M1 i) old2 t)))) (fun t=>old2.length - t) (0) (by refine ⟨?_,?_,?_,?_,?_,?_,?_,⟨by omega,(ht2.same (by simp (maxSteps:=5000000) -dsimp only [gr,reduceEqDiff,reduceLT,reduceAdd,reduceMod,Nat.reduceBEq,zaa,zac,zad,zab]) (fun x=>by simp (maxSteps:=5000000) -dsimp only [gr,reduceEqDiff,reduceLT,reduceAdd,reduceMod,Nat.reduceBEq,zaa,zac,zad,zab])).to (by rw [zeg,← hold2,← zhj p a c hi1 (Nat.le_refl i),zb4])⟩⟩ <;> (first | (simp (maxSteps:=5000000) -dsimp only [gr,reduceEqDiff,reduceLT,reduceAdd,reduceMod,Nat.reduceBEq,zaa,zac,zad,zab,h0b,h1b,h2b,h3b,h11b];first | done | rfl | (simp;done)) | assumption | rfl)) ?_
  intro t sc ⟨h0c,h1c,h2c,h3c,h11c,h12c,h13c,hIc⟩
  obtain ⟨ht',ht3⟩:=hIc
  have hls:((zfb p a c M1 i).set i (prt (zf3 p a c M1 i) old2 t)).length = M.length:=by rw [List.length_set,hlN]
  have hr3:=ht3.row (i:=i) (by omega)
  rw [zaF (by omega),hq i h] at hr3
  have hpl3:(prt (zf3 p a c M1 i) old2 t).length = old2.length:=zcF hnew t
  have hpj3:=ziG hnew (Nat.le_refl t)
  simp (maxSteps:=5000000) -dsimp only [↓gp,gq,reduceCtorEq,reduceEqDiff,reduceLT,reduceLeDiff,reduceAdd,reduceMul,reduceSub,Nat.reduceBEq,Int.reduceToNat,Int.reduceLE,Int.reduceLT,Int.reduceNeg,reduceMod,zac,zad,zab,zaa,gT,TK.isInt,TK.agg,Array.toList,h0c,h1c,h2c,h3c,h11c,h12c,h13c,ht3.top,hr3,hq i h,hpl3]
  refine ⟨h,h,fun h2=>⟨fun hne=>?_,fun heq=>?_⟩,fun h2=>?_⟩
  ·have hia:¬ i = a:=by
    intro e
    simp [e] at hne
   have hr4:=ht3.row (i:=a) (by omega)
   rw [zbh hia,zyK p a c i hra1,hq a ha] at hr4
   have hla:=hM1.len a hra1
   have hresa:=hM1.res a hra1
   have hcI:zf3 p a c M1 i = sbt p f (M1.getD a []) old2:=by unfold zf3;rw [if_neg hia,hold2,hfe]
   generalize hpiv:M1.getD a [] = piv at *
   have hft:=zgN hf ⟨(hresa t).1,by have:=(hresa t).2;omega⟩ hp2.2
   have hot:=hres2 t
   have hw3:IntKind.i64.wrap (f * piv.getD t 0) = f * piv.getD t 0:=zaq (by omega) (by omega)
   have hw4:IntKind.i64.wrap (old2.getD t 0 - f * piv.getD t 0) = old2.getD t 0 - f * piv.getD t 0:=zaq (by omega) (by omega)
   simp (maxSteps:=5000000) -dsimp only [↓gp,gq,reduceCtorEq,reduceEqDiff,reduceLT,reduceLeDiff,reduceAdd,reduceMul,reduceSub,Nat.reduceBEq,Int.reduceToNat,Int.reduceLE,Int.reduceLT,Int.reduceNeg,reduceMod,zac,zad,zab,zaa,gT,TK.isInt,TK.agg,Array.toList,h0c,h1c,h2c,h3c,h11c,h12c,h13c,ht3.top,hr3,hq i h,hpl3,hr4,hq a ha,hpj3,hw3,hw4]
   refine ⟨by kernel_rfl,h,h,h,h,h2,h2,ha,ha,by omega,by omega,zaf (zeh _ p hp) ?_⟩
   simp (maxSteps:=5000000) -dsimp only [↓gp,gq,reduceCtorEq,reduceEqDiff,reduceLT,reduceLeDiff,reduceAdd,reduceMul,reduceSub,Nat.reduceBEq,Int.reduceToNat,Int.reduceLE,Int.reduceLT,Int.reduceNeg,reduceMod,zac,zad,zab,zaa,gT,TK.isInt,TK.agg,Array.toList,h0c,h1c,h2c,h3c,h11c,h12c,h13c,ht3.top,hr3,hq i h,hpl3,hr4,hq a ha,hpj3,hw3,hw4]
   refine ⟨h2,by omega,by kernel_rfl,zag (t + 1) ⟨(by (first | (simp (maxSteps:=5000000) -dsimp only [gr,reduceEqDiff,reduceLT,reduceAdd,reduceMod,Nat.reduceBEq,zaa,zac,zad,zab,h0c,h1c,h2c,h3c,h11c,h12c,h13c,zae h2 (by omega)];first | done | rfl | (simp;done)) | assumption | rfl)),(by (first | (simp (maxSteps:=5000000) -dsimp only [gr,reduceEqDiff,reduceLT,reduceAdd,reduceMod,Nat.reduceBEq,zaa,zac,zad,zab,h0c,h1c,h2c,h3c,h11c,h12c,h13c,zae h2 (by omega)];first | done | rfl | (simp;done)) | assumption | rfl)),(by (first | (simp (maxSteps:=5000000) -dsimp only [gr,reduceEqDiff,reduceLT,reduceAdd,reduceMod,Nat.reduceBEq,zaa,zac,zad,zab,h0c,h1c,h2c,h3c,h11c,h12c,h13c,zae h2 (by omega)];first | done | rfl | (simp;done)) | assumption | rfl)),(by (first | (simp (maxSteps:=5000000) -dsimp only [gr,reduceEqDiff,reduceLT,reduceAdd,reduceMod,Nat.reduceBEq,zaa,zac,zad,zab,h0c,h1c,h2c,h3c,h11c,h12c,h13c,zae h2 (by omega)];first | done | rfl | (simp;done)) | assumption | rfl)),(by (first | (simp (maxSteps:=5000000) -dsimp only [gr,reduceEqDiff,reduceLT,reduceAdd,reduceMod,Nat.reduceBEq,zaa,zac,zad,zab,h0c,h1c,h2c,h3c,h11c,h12c,h13c,zae h2 (by omega)];first | done | rfl | (simp;done)) | assumption | rfl)),(by (first | (simp (maxSteps:=5000000) -dsimp only [gr,reduceEqDiff,reduceLT,reduceAdd,reduceMod,Nat.reduceBEq,zaa,zac,zad,zab,h0c,h1c,h2c,h3c,h11c,h12c,h13c,zae h2 (by omega)];first | done | rfl | (simp;done)) | assumption | rfl)),(by (first | (simp (maxSteps:=5000000) -dsimp only [gr,reduceEqDiff,reduceLT,reduceAdd,reduceMod,Nat.reduceBEq,zaa,zac,zad,zab,h0c,h1c,h2c,h3c,h11c,h12c,h13c,zae h2 (by omega)];first | done | rfl | (simp;done)) | assumption | rfl)),⟨by omega,?_⟩⟩ (by first | omega | (simp only;omega) | (dsimp only;omega) | (show _ < _;simp;omega))⟩
   have e:(zfb p a c M1 i).set i (prt (zf3 p a c M1 i) old2 (t + 1)) = ((zfb p a c M1 i).set i (prt (zf3 p a c M1 i) old2 t)).set i ((prt (zf3 p a c M1 i) old2 t).set t ((old2.getD t 0 - f * piv.getD t 0) % p)):=by
    rw [zm9,← zfS hnew h2,← zda p f (piv:=piv) h2,hcI]
   rw [e]
   refine ht3.set (by omega) (by simp (maxSteps:=5000000) -dsimp only [gr,reduceEqDiff,reduceLT,reduceAdd,reduceMod,Nat.reduceBEq,zaa,zac,zad,zab,h0c,h1c,h2c,h3c,h11c,h12c,h13c]) ?_ (fun x hx=>?_)
   ·rw [hq i h];simp (maxSteps:=5000000) -dsimp only [gr,reduceEqDiff,reduceLT,reduceAdd,reduceMod,Nat.reduceBEq,zaa,zac,zad,zab,h0c,h1c,h2c,h3c,h11c,h12c,h13c]
   ·rw [hq i h] at hx
    simp (maxSteps:=5000000) -dsimp only [gr,reduceEqDiff,reduceLT,reduceAdd,reduceMod,Nat.reduceBEq,zaa,zac,zad,zab,h0c,h1c,h2c,h3c,h11c,h12c,h13c,hx]
  ·have hia:i = a:=by
    have h9:(i:Int) = a:=by simpa using heq
    omega
   have hcI:zf3 p a c M1 i = old2:=by unfold zf3;rw [if_pos hia,hold2]
   have ht4:=ht3
   rw [hcI,zAI,← hcI,zeQ p a c hi1] at ht4
   exact zag (i + 1) (by refine ⟨?_,?_,?_,?_,?_,⟨by omega,ht4.same (by simp (maxSteps:=5000000) -dsimp only [gr,reduceEqDiff,reduceLT,reduceAdd,reduceMod,Nat.reduceBEq,zaa,zac,zad,zab]) (fun x=>by simp (maxSteps:=5000000) -dsimp only [gr,reduceEqDiff,reduceLT,reduceAdd,reduceMod,Nat.reduceBEq,zaa,zac,zad,zab])⟩⟩ <;> (first | (simp (maxSteps:=5000000) -dsimp only [gr,reduceEqDiff,reduceLT,reduceAdd,reduceMod,Nat.reduceBEq,zaa,zac,zad,zab,h0b,h1b,h2b,h3b,h11b,h0c,h1c,h2c,h3c,h11c,h12c,h13c,zae h (by omega)];first | done | rfl | (simp;done)) | assumption | rfl)) (by first | omega | (simp only;omega) | (dsimp only;omega) | (show _ < _;simp;omega))
  ·have:t = old2.length:=by omega
   have ht4:=ht3
   rw [this,zfR hnew,zeQ p a c hi1] at ht4
   exact zag (i + 1) (by refine ⟨?_,?_,?_,?_,?_,⟨by omega,ht4.same (by simp (maxSteps:=5000000) -dsimp only [gr,reduceEqDiff,reduceLT,reduceAdd,reduceMod,Nat.reduceBEq,zaa,zac,zad,zab]) (fun x=>by simp (maxSteps:=5000000) -dsimp only [gr,reduceEqDiff,reduceLT,reduceAdd,reduceMod,Nat.reduceBEq,zaa,zac,zad,zab])⟩⟩ <;> (first | (simp (maxSteps:=5000000) -dsimp only [gr,reduceEqDiff,reduceLT,reduceAdd,reduceMod,Nat.reduceBEq,zaa,zac,zad,zab,h0b,h1b,h2b,h3b,h11b,h0c,h1c,h2c,h3c,h11c,h12c,h13c,zae h (by omega)];first | done | rfl | (simp;done)) | assumption | rfl)) (by first | omega | (simp only;omega) | (dsimp only;omega) | (show _ < _;simp;omega))
 ·have:i = M.length:=by omega
  rw [this] at ht2
  exact zki (ht2.same (by simp (maxSteps:=5000000) -dsimp only [gr,reduceEqDiff,reduceLT,reduceAdd,reduceMod,Nat.reduceBEq,zaa,zac,zad,zab]) (fun x=>by simp (maxSteps:=5000000) -dsimp only [gr,reduceEqDiff,reduceLT,reduceAdd,reduceMod,Nat.reduceBEq,zaa,zac,zad,zab])) (List.Perm.refl _)
end Go.Proofs.Ytpnknaaehcljoaa
