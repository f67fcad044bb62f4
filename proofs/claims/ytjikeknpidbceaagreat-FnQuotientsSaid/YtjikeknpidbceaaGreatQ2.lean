/- DERIVED by an AI agent. -/
import Derived.Test.YtjikeknpidbceaaGreatQ1
import Derived.Test.YtjikeknpidbceaaGreatP1
namespace Go.Proofs.YtjikeknpidbceaaGreat
open Go.Abs
open Nat (reduceEqDiff reduceMod reduceAdd reduceLT reduceLeDiff reduceSub reduceMul)
set_option linter.unusedSimpArgs false
set_option linter.unusedVariables false
theorem zri (a:Int):zkw a a = false:=by unfold zkw;simp
theorem zvk {a b c:Int} (h1:zkw a b = true) (h2:zkw b c = true):zkw a c = true:=by
 unfold zkw at *
 simp only [Bool.and_eq_true,decide_eq_true_eq] at *
 obtain ⟨ha,hb,h1⟩:=h1
 obtain ⟨_,hc,h2⟩:=h2
 refine ⟨ha,hc,?_⟩
 split at h1 <;> split at h2 <;> simp only [decide_eq_true_eq] at h1 h2
 ·rw [if_pos (by omega)];exact decide_eq_true (by omega)
 ·rw [if_neg (by omega)];exact decide_eq_true (by omega)
 ·rw [if_neg (by omega)];exact decide_eq_true (by omega)
 ·rw [if_neg (by omega)];exact decide_eq_true (by omega)
theorem zgI {n:Int} {xs:List Int} (h:cxP n xs):∀ (j i:Nat),i < j→j < xs.length→zkw (xs.getD i 0) (xs.getD j 0) = true:=by
 intro j
 induction j with
 | zero=>intro i hi;omega
 | succ j ih =>
   intro i hi hj
   have h1:=(h.2.2 (j + 1) hj).2.1 (by omega)
   rw [Nat.add_sub_cancel] at h1
   rcases Nat.lt_succ_iff_lt_or_eq.1 hi with hi | rfl
   ·exact zvk (ih i hi (by omega)) h1
   ·exact h1
theorem zdv {n:Int} {xs:List Int} (h:cxP n xs):xs.Nodup:=by
 refine List.pairwise_iff_getElem.2 fun i j hi hj hij e=>?_
 have:=zgI h j i hij hj
 rw [zbL 0 hi,zbL 0 hj,e,zri] at this
 cases this
theorem zvl {xs:List Int} (h:∀ k,k < xs.length→xs.getD k 0 ∉ xs.take k):xs.Nodup:=by
 refine List.pairwise_iff_getElem.2 fun i j hi hj hij e=>?_
 refine h j hj ?_
 rw [zbL 0 hj,← e]
 exact List.mem_take_iff_getElem.2 ⟨i,by omega,rfl⟩
open Classical in
noncomputable def zcb (n:Int) (xs list:List Int):Bool:=decide (cxP n xs∧list.Perm xs)
open Classical in
theorem ze8 {n:Int} {xs list:List Int} (h:¬ (cxP n xs∧list.Perm xs)):zcb n xs list = false:=decide_eq_false h
open Classical in
theorem zgJ {n:Int} {xs list:List Int} (h:cxP n xs∧list.Perm xs):zcb n xs list = true:=decide_eq_true h
open Classical in
theorem zdi {n:Int} {xs list:List Int}:zcb n xs list = true ↔ (cxP n xs∧list.Perm xs):=decide_eq_true_iff
theorem zfF (n:Int) (xs list:List Int):AC Tryz.prog 39 [.ag [int n,zaI xs],zaI list] (.im (bool (zcb n xs list))):=by
 refine AC.go (rs:=[.tmp 4]) zaQ zar Tryz.func39 rfl rfl rfl (by kernel_rfl) fun hl=>?_
 simp only [zav,zaC,and_true,zaT,zby,za5,zaL,true_and] at hl
 simp (maxSteps:=5000000) -dsimp only [↓gp,gq,reduceCtorEq,reduceEqDiff,reduceLT,reduceLeDiff,reduceAdd,reduceMul,reduceSub,Nat.reduceBEq,Int.reduceToNat,Int.reduceLE,Int.reduceLT,Int.reduceNeg,reduceMod,zac,zad,zab,zaa,gT,TK.isInt,TK.agg,Array.toList]
 refine zam (fun (k:Nat) s=>s.sl 1 = zaI list∧s.sl 2 = .ref 2 1 0∧s.rw 2 = ⟨1,.box 36 [int n,zaI xs]⟩∧s.sl 5 = int k∧(k ≤ list.length∧∀ i,i < k→list.getD i 0 ∈ xs∧list.getD i 0 ∉ list.take i)) (fun k=>list.length - k) (0) (by refine ⟨?_,?_,?_,?_,by simp⟩ <;> (first | (simp (maxSteps:=5000000) -dsimp only [gr,reduceEqDiff,reduceLT,reduceAdd,reduceMod,Nat.reduceBEq,zaa,zac,zad,zab];first | done | rfl | (simp;done)) | assumption | rfl)) ?_
 intro k sa ⟨h1a,h2a,r2a,h5a,hIa⟩
 obtain ⟨hk,hall⟩:=hIa
 simp (maxSteps:=5000000) -dsimp only [↓gp,gq,reduceCtorEq,reduceEqDiff,reduceLT,reduceLeDiff,reduceAdd,reduceMul,reduceSub,Nat.reduceBEq,Int.reduceToNat,Int.reduceLE,Int.reduceLT,Int.reduceNeg,reduceMod,zac,zad,zab,zaa,gT,TK.isInt,TK.agg,Array.toList,h1a,h2a,r2a,h5a]
 refine ⟨fun h=>⟨by kernel_rfl,h,h,zaf (zdw _ _) ?_⟩,fun h=>zaf (zbl n xs) ?_⟩
 ·simp (maxSteps:=5000000) -dsimp only [↓gp,gq,reduceCtorEq,reduceEqDiff,reduceLT,reduceLeDiff,reduceAdd,reduceMul,reduceSub,Nat.reduceBEq,Int.reduceToNat,Int.reduceLE,Int.reduceLT,Int.reduceNeg,reduceMod,zac,zad,zab,zaa,gT,TK.isInt,TK.agg,Array.toList,h1a,h2a,r2a,h5a]
  have hp:∀ p:list.Perm xs,list.getD k 0 ∈ xs:=fun p=>p.mem_iff.1 (zaz 0 h)
  refine ⟨fun hm=>⟨by omega,h,h,zaf (zdw _ _) ?_⟩,fun hm=>?_⟩
  ·simp (maxSteps:=5000000) -dsimp only [↓gp,gq,reduceCtorEq,reduceEqDiff,reduceLT,reduceLeDiff,reduceAdd,reduceMul,reduceSub,Nat.reduceBEq,Int.reduceToNat,Int.reduceLE,Int.reduceLT,Int.reduceNeg,reduceMod,zac,zad,zab,zaa,gT,TK.isInt,TK.agg,Array.toList,h1a,h2a,r2a,h5a]
   refine ⟨fun hm2=>ze8 fun hg=>?_,fun hm2=>zah (k + 1) ⟨(by (first | (simp (maxSteps:=5000000) -dsimp only [gr,reduceEqDiff,reduceLT,reduceAdd,reduceMod,Nat.reduceBEq,zaa,zac,zad,zab,h1a,h2a,r2a,h5a,zae h hl.2];first | done | rfl | (simp;done)) | assumption | rfl)),(by (first | (simp (maxSteps:=5000000) -dsimp only [gr,reduceEqDiff,reduceLT,reduceAdd,reduceMod,Nat.reduceBEq,zaa,zac,zad,zab,h1a,h2a,r2a,h5a,zae h hl.2];first | done | rfl | (simp;done)) | assumption | rfl)),(by (first | (simp (maxSteps:=5000000) -dsimp only [gr,reduceEqDiff,reduceLT,reduceAdd,reduceMod,Nat.reduceBEq,zaa,zac,zad,zab,h1a,h2a,r2a,h5a,zae h hl.2];first | done | rfl | (simp;done)) | assumption | rfl)),(by (first | (simp (maxSteps:=5000000) -dsimp only [gr,reduceEqDiff,reduceLT,reduceAdd,reduceMod,Nat.reduceBEq,zaa,zac,zad,zab,h1a,h2a,r2a,h5a,zae h hl.2];first | done | rfl | (simp;done)) | assumption | rfl)),⟨by omega,fun j hj=>?_⟩⟩ (by first | omega | (simp only;omega) | (dsimp only;omega) | (show _ < _;simp;omega))⟩
   ·have hn:list.Nodup:=hg.2.nodup_iff.2 (zdv hg.1)
    have h1:list.getD k 0 ∈ list.take k:=by simpa using hm2
    obtain ⟨i,hi,e⟩:=List.mem_take_iff_getElem.1 h1
    rw [zbL 0 h] at e
    exact List.pairwise_iff_getElem.1 hn i k (by omega) h (by omega) e
   ·rcases Nat.lt_succ_iff_lt_or_eq.1 hj with hj | rfl
    ·exact hall j hj
    ·exact ⟨by simpa using hm,by simpa using hm2⟩
  ·exact ze8 fun hg=>of_decide_eq_false (by rwa [Bool.not_eq_true'] at hm) (hp hg.2)
 ·simp (maxSteps:=5000000) -dsimp only [↓gp,gq,reduceCtorEq,reduceEqDiff,reduceLT,reduceLeDiff,reduceAdd,reduceMul,reduceSub,Nat.reduceBEq,Int.reduceToNat,Int.reduceLE,Int.reduceLT,Int.reduceNeg,reduceMod,zac,zad,zab,zaa,gT,TK.isInt,TK.agg,Array.toList,h1a,h2a,r2a,h5a]
  have key:cxP n xs→list.length = xs.length→list.Perm xs:=fun hc he =>
   zfT (zvl fun j hj=>(hall j (by omega)).2) (fun x hx=>by
    obtain ⟨i,hi,rfl⟩:=zaY 0 hx
    exact (hall i (by omega)).1) (by omega)
  refine ⟨fun hc=>?_,fun hc=>ze8 fun hg=>by rw [zaS.2 hg.1] at hc;cases hc⟩
  have hc:=zaS.1 hc
  by_cases he:list.length = xs.length
  ·rw [zgJ ⟨hc,key hc he⟩]
   simp [he]
  ·rw [ze8 fun hg=>he hg.2.length_eq]
   symm;simp;omega
theorem zfV (xs list:List Int):AC Tryz.prog 38 [zaI xs,zaI list] (.im (bool (decide (xs.length = list.length∧∀ x ∈ xs,x ∈ list)))):=by
 refine AC.go (rs:=[.tmp 4]) zaQ zar Tryz.func38 rfl rfl rfl (by kernel_rfl) fun hl=>?_
 simp only [zav,zaC,and_true,zaT,zby,za5,zaL,true_and] at hl
 simp (maxSteps:=5000000) -dsimp only [↓gp,gq,reduceCtorEq,reduceEqDiff,reduceLT,reduceLeDiff,reduceAdd,reduceMul,reduceSub,Nat.reduceBEq,Int.reduceToNat,Int.reduceLE,Int.reduceLT,Int.reduceNeg,reduceMod,zac,zad,zab,zaa,gT,TK.isInt,TK.agg,Array.toList]
 refine ⟨fun h=>fun hg=>by simp [hg.1] at h,fun h=>?_⟩
 have hle:xs.length = list.length:=by
  have:=bne_eq_false_iff_eq.1 h
  omega
 refine zam (fun (k:Nat) s=>s.sl 0 = zaI xs∧s.sl 1 = zaI list∧s.sl 12 = zaI xs∧s.sl 13 = int xs.length∧s.sl 14 = int k∧(k ≤ xs.length∧∀ i,i < k→xs.getD i 0 ∈ list)) (fun k=>xs.length - k) (0) (by refine ⟨?_,?_,?_,?_,?_,by simp⟩ <;> (first | (simp (maxSteps:=5000000) -dsimp only [gr,reduceEqDiff,reduceLT,reduceAdd,reduceMod,Nat.reduceBEq,zaa,zac,zad,zab];first | done | rfl | (simp;done)) | assumption | rfl)) ?_
 intro k sa ⟨h0a,h1a,h12a,h13a,h14a,hIa⟩
 obtain ⟨hk,hall⟩:=hIa
 simp (maxSteps:=5000000) -dsimp only [↓gp,gq,reduceCtorEq,reduceEqDiff,reduceLT,reduceLeDiff,reduceAdd,reduceMul,reduceSub,Nat.reduceBEq,Int.reduceToNat,Int.reduceLE,Int.reduceLT,Int.reduceNeg,reduceMod,zac,zad,zab,zaa,gT,TK.isInt,TK.agg,Array.toList,h0a,h1a,h12a,h13a,h14a]
 refine ⟨fun h=>⟨h,h,zaf (zhb _ _) ?_⟩,fun h=>⟨hle,fun x hx=>?_⟩⟩
 ·simp (maxSteps:=5000000) -dsimp only [↓gp,gq,reduceCtorEq,reduceEqDiff,reduceLT,reduceLeDiff,reduceAdd,reduceMul,reduceSub,Nat.reduceBEq,Int.reduceToNat,Int.reduceLE,Int.reduceLT,Int.reduceNeg,reduceMod,zac,zad,zab,zaa,gT,TK.isInt,TK.agg,Array.toList,h0a,h1a,h12a,h13a,h14a]
  refine ⟨fun hm=>fun hg=>?_,fun hm=>zah (k + 1) ⟨(by (first | (simp (maxSteps:=5000000) -dsimp only [gr,reduceEqDiff,reduceLT,reduceAdd,reduceMod,Nat.reduceBEq,zaa,zac,zad,zab,h0a,h1a,h12a,h13a,h14a,zae h hl.1];first | done | rfl | (simp;done)) | assumption | rfl)),(by (first | (simp (maxSteps:=5000000) -dsimp only [gr,reduceEqDiff,reduceLT,reduceAdd,reduceMod,Nat.reduceBEq,zaa,zac,zad,zab,h0a,h1a,h12a,h13a,h14a,zae h hl.1];first | done | rfl | (simp;done)) | assumption | rfl)),(by (first | (simp (maxSteps:=5000000) -dsimp only [gr,reduceEqDiff,reduceLT,reduceAdd,reduceMod,Nat.reduceBEq,zaa,zac,zad,zab,h0a,h1a,h12a,h13a,h14a,zae h hl.1];first | done | rfl | (simp;done)) | assumption | rfl)),(by (first | (simp (maxSteps:=5000000) -dsimp only [gr,reduceEqDiff,reduceLT,reduceAdd,reduceMod,Nat.reduceBEq,zaa,zac,zad,zab,h0a,h1a,h12a,h13a,h14a,zae h hl.1];first | done | rfl | (simp;done)) | assumption | rfl)),(by (first | (simp (maxSteps:=5000000) -dsimp only [gr,reduceEqDiff,reduceLT,reduceAdd,reduceMod,Nat.reduceBEq,zaa,zac,zad,zab,h0a,h1a,h12a,h13a,h14a,zae h hl.1];first | done | rfl | (simp;done)) | assumption | rfl)),⟨by omega,fun j hj=>?_⟩⟩ (by first | omega | (simp only;omega) | (dsimp only;omega) | (show _ < _;simp;omega))⟩
  ·exact of_decide_eq_false (by rwa [Bool.not_eq_true'] at hm) (hg.2 _ (zaz 0 h))
  ·rcases Nat.lt_succ_iff_lt_or_eq.1 hj with hj | rfl
   ·exact hall j hj
   ·exact of_decide_eq_true (by rwa [Bool.not_eq_false'] at hm)
 ·obtain ⟨i,hi,rfl⟩:=zaY 0 hx
  exact hall i (by omega)
theorem zfG (n:Int) (xs:List Int):AC Tryz.prog 28 [.ag [int n,zaI xs]] (.im (bool (zdj n xs))):=by
 refine AC.go (rs:=[.tmp 2]) zaQ zar Tryz.func28 rfl rfl rfl (by kernel_rfl) fun hl=>?_
 simp (maxSteps:=5000000) -dsimp only [↓gp,gq,reduceCtorEq,reduceEqDiff,reduceLT,reduceLeDiff,reduceAdd,reduceMul,reduceSub,Nat.reduceBEq,Int.reduceToNat,Int.reduceLE,Int.reduceLT,Int.reduceNeg,reduceMod,zac,zad,zab,zaa,gT,TK.isInt,TK.agg,Array.toList]
 refine zaf (zgK n xs) ?_
 simp (maxSteps:=5000000) -dsimp only [↓gp,gq,reduceCtorEq,reduceEqDiff,reduceLT,reduceLeDiff,reduceAdd,reduceMul,reduceSub,Nat.reduceBEq,Int.reduceToNat,Int.reduceLE,Int.reduceLT,Int.reduceNeg,reduceMod,zac,zad,zab,zaa,gT,TK.isInt,TK.agg,Array.toList]
theorem zAQ (n:Int) (xs list:List Int) (h:zdj n xs = true):decide (xs.length = list.length∧∀ x ∈ xs,x ∈ list) = zcb n xs list:=by
 have hc:=zaS.1 h
 by_cases hp:xs.length = list.length∧∀ x ∈ xs,x ∈ list
 ·rw [decide_eq_true hp,zgJ ⟨hc,(zfT (zdv hc) hp.2 (by omega)).symm⟩]
 ·rw [decide_eq_false hp,ze8 fun hg=>hp ⟨hg.2.length_eq.symm,fun x hx=>hg.2.mem_iff.2 hx⟩]
theorem zbu (n:Int) (xs list:List Int):AC Tryz.prog 12 [.ag [int n,zaI xs],zaI list] (.im (bool (zcb n xs list))):=by
 refine AC.go (rs:=[.tmp 4]) zaQ zar Tryz.func12 rfl rfl rfl (by kernel_rfl) fun hl=>?_
 simp (maxSteps:=5000000) -dsimp only [↓gp,gq,reduceCtorEq,reduceEqDiff,reduceLT,reduceLeDiff,reduceAdd,reduceMul,reduceSub,Nat.reduceBEq,Int.reduceToNat,Int.reduceLE,Int.reduceLT,Int.reduceNeg,reduceMod,zac,zad,zab,zaa,gT,TK.isInt,TK.agg,Array.toList]
 refine zaf (zfG n xs) ?_
 simp (maxSteps:=5000000) -dsimp only [↓gp,gq,reduceCtorEq,reduceEqDiff,reduceLT,reduceLeDiff,reduceAdd,reduceMul,reduceSub,Nat.reduceBEq,Int.reduceToNat,Int.reduceLE,Int.reduceLT,Int.reduceNeg,reduceMod,zac,zad,zab,zaa,gT,TK.isInt,TK.agg,Array.toList]
 refine ⟨fun h=>zaf (zfV xs list) ?_,fun h=>ze8 fun hg=>by rw [zaS.2 hg.1] at h;cases h⟩
 simp (maxSteps:=5000000) -dsimp only [↓gp,gq,reduceCtorEq,reduceEqDiff,reduceLT,reduceLeDiff,reduceAdd,reduceMul,reduceSub,Nat.reduceBEq,Int.reduceToNat,Int.reduceLE,Int.reduceLT,Int.reduceNeg,reduceMod,zac,zad,zab,zaa,gT,TK.isInt,TK.agg,Array.toList,zAQ n xs list h]
theorem zcy (n:Int) (xs list:List Int):AC Tryz.prog 13 [.ag [int n,zaI xs],zaI list] (.im (bool (zcb n xs list))):=by
 refine AC.go (rs:=[.tmp 4]) zaQ zar Tryz.func13 rfl rfl rfl (by kernel_rfl) fun hl=>?_
 simp (maxSteps:=5000000) -dsimp only [↓gp,gq,reduceCtorEq,reduceEqDiff,reduceLT,reduceLeDiff,reduceAdd,reduceMul,reduceSub,Nat.reduceBEq,Int.reduceToNat,Int.reduceLE,Int.reduceLT,Int.reduceNeg,reduceMod,zac,zad,zab,zaa,gT,TK.isInt,TK.agg,Array.toList]
 refine zaf (zfF n xs list) ?_
 simp (maxSteps:=5000000) -dsimp only [↓gp,gq,reduceCtorEq,reduceEqDiff,reduceLT,reduceLeDiff,reduceAdd,reduceMul,reduceSub,Nat.reduceBEq,Int.reduceToNat,Int.reduceLE,Int.reduceLT,Int.reduceNeg,reduceMod,zac,zad,zab,zaa,gT,TK.isInt,TK.agg,Array.toList]
def zca (n s:Int):Int:=if zbS n s = true then 2 ^ n.toNat - 1 - s else -1
theorem zpU {n s:Int} (h:zbS n s = true):∃ m t:Nat,n = m∧s = t∧m ≤ 6∧t < 2 ^ m:=by
 unfold zbS at h
 have h:=of_decide_eq_true h
 obtain ⟨m,rfl⟩:=Int.eq_ofNat_of_zero_le h.1
 obtain ⟨t,rfl⟩:=Int.eq_ofNat_of_zero_le h.2.2.1
 refine ⟨m,t,rfl,rfl,by omega,?_⟩
 have:=h.2.2.2
 rw [zbW] at this
 omega
theorem zdh (n s:Int):AC Tryz.prog 44 [int n,int s] (.im (int (zca n s))):=by
 refine AC.go (rs:=[.tmp 4]) zaQ zar Tryz.func44 rfl rfl rfl (by kernel_rfl) fun hl=>?_
 simp (maxSteps:=5000000) -dsimp only [↓gp,gq,reduceCtorEq,reduceEqDiff,reduceLT,reduceLeDiff,reduceAdd,reduceMul,reduceSub,Nat.reduceBEq,Int.reduceToNat,Int.reduceLE,Int.reduceLT,Int.reduceNeg,reduceMod,zac,zad,zab,zaa,gT,TK.isInt,TK.agg,Array.toList]
 refine zaf (zet _ _) ?_
 simp (maxSteps:=5000000) -dsimp only [↓gp,gq,reduceCtorEq,reduceEqDiff,reduceLT,reduceLeDiff,reduceAdd,reduceMul,reduceSub,Nat.reduceBEq,Int.reduceToNat,Int.reduceLE,Int.reduceLT,Int.reduceNeg,reduceMod,zac,zad,zab,zaa,gT,TK.isInt,TK.agg,Array.toList]
 unfold zca
 refine ⟨fun h=>?_,fun h=>?_⟩
 ·have h:zbS n s = false:=by rwa [Bool.not_eq_true'] at h
  simp [h]
 ·have h:zbS n s = true:=by rwa [Bool.not_eq_false'] at h
  obtain ⟨m,t,rfl,rfl,hm,ht⟩:=zpU h
  have h64:=zaO hm
  rw [if_pos h]
  rw [zeO (by omega),zcg (by omega),zbW]
  generalize (2 ^ m:Nat) = q at *
  refine ⟨by omega,?_⟩
  rw [zap (n:=(q:Int) - 1) (by omega) (by omega),zap (by omega) (by omega)]
theorem zvj:∀ m,m < 7→∀ t,t < 64→t < 2 ^ m→((2 ^ m - 1) ^^^ ((2 ^ m - 1) &&& t)) = 2 ^ m - 1 - t:=by decide +kernel
theorem zfU (n s:Int):AC Tryz.prog 37 [int n,int s] (.im (int (zca n s))):=by
 refine AC.go (rs:=[.tmp 4]) zaQ zar Tryz.func37 rfl rfl rfl (by kernel_rfl) fun hl=>?_
 simp (maxSteps:=5000000) -dsimp only [↓gp,gq,reduceCtorEq,reduceEqDiff,reduceLT,reduceLeDiff,reduceAdd,reduceMul,reduceSub,Nat.reduceBEq,Int.reduceToNat,Int.reduceLE,Int.reduceLT,Int.reduceNeg,reduceMod,zac,zad,zab,zaa,gT,TK.isInt,TK.agg,Array.toList]
 refine zaf (zcE _ _) ?_
 simp (maxSteps:=5000000) -dsimp only [↓gp,gq,reduceCtorEq,reduceEqDiff,reduceLT,reduceLeDiff,reduceAdd,reduceMul,reduceSub,Nat.reduceBEq,Int.reduceToNat,Int.reduceLE,Int.reduceLT,Int.reduceNeg,reduceMod,zac,zad,zab,zaa,gT,TK.isInt,TK.agg,Array.toList]
 unfold zca
 refine ⟨fun h=>?_,fun h=>?_⟩
 ·have h:zbS n s = false:=by rwa [Bool.not_eq_true'] at h
  simp [h]
 ·have h:zbS n s = true:=by rwa [Bool.not_eq_false'] at h
  obtain ⟨m,t,rfl,rfl,hm,ht⟩:=zpU h
  have h64:=zaO hm
  rw [if_pos h]
  rw [zeO (by omega),zcg (by omega),zbW]
  have hb:=zvj m (by omega) t (by omega) ht
  have h1:=Nat.one_le_two_pow (n:=m)
  generalize (2 ^ m:Nat) = q at *
  refine ⟨by omega,?_⟩
  rw [zap (n:=(q:Int) - 1) (by omega) (by omega),show (q:Int) - 1 = ((q - 1:Nat):Int) by omega,zd6 (by omega) (by omega),hb]
  congr 2
  omega
noncomputable def zcU (n:Int) (xs list:List Int):List Int:=if zcb n xs list = true then list.map (zca n) else []
theorem zuc {f:Int→Int} {l:List Int} {k:Nat} (h:k < l.length):(l.take k).map f ++ [f (l.getD k 0)] = (l.take (k + 1)).map f:=by
 rw [zaK 0 h];simp
theorem zfj (n:Int) (xs list:List Int) (hx:list.length ≤ 1048576):AC Tryz.prog 19 [.ag [int n,zaI xs],zaI list] (.fr 3 1 (iL (zcU n xs list))):=by
 refine AC.go (rs:=[.tmp 4]) zaQ zar Tryz.func19 rfl rfl rfl (by kernel_rfl) fun hl=>?_
 simp only [zav,zaC,and_true,zaT,zby,za5,zaL,true_and] at hl
 simp (maxSteps:=5000000) -dsimp only [↓gp,gq,reduceCtorEq,reduceEqDiff,reduceLT,reduceLeDiff,reduceAdd,reduceMul,reduceSub,Nat.reduceBEq,Int.reduceToNat,Int.reduceLE,Int.reduceLT,Int.reduceNeg,reduceMod,zac,zad,zab,zaa,gT,TK.isInt,TK.agg,Array.toList]
 refine zam (fun (za:Nat × Nat) s=>match za with | (k,v)=>s.sl 1 = zaI list∧s.sl 2 = .ref 2 1 0∧s.rw 2 = ⟨1,.box 26 [int n,zaI xs]⟩∧s.sl 5 = .own 7 v∧s.rw 7 = ⟨v,.sli 3 1 false (iL ((list.take k).map (zca n)))⟩∧s.sl 6 = int k∧(k ≤ list.length∧(0 < k→zcb n xs list = true))) (fun (k,v)=>list.length - k) ((0,1)) (by refine ⟨?_,?_,?_,?_,?_,?_,by simp⟩ <;> (first | (simp (maxSteps:=5000000) -dsimp only [gr,reduceEqDiff,reduceLT,reduceAdd,reduceMod,Nat.reduceBEq,zaa,zac,zad,zab];first | done | rfl | (simp;done)) | assumption | rfl)) ?_
 intro (k,v) sa ⟨h1a,h2a,r2a,h5a,r7a,h6a,hIa⟩
 obtain ⟨hk,hall⟩:=hIa
 simp (maxSteps:=5000000) -dsimp only [↓gp,gq,reduceCtorEq,reduceEqDiff,reduceLT,reduceLeDiff,reduceAdd,reduceMul,reduceSub,Nat.reduceBEq,Int.reduceToNat,Int.reduceLE,Int.reduceLT,Int.reduceNeg,reduceMod,zac,zad,zab,zaa,gT,TK.isInt,TK.agg,Array.toList,h1a,h2a,r2a,h5a,r7a,h6a]
 refine ⟨fun h=>zaf (zcy n xs list) ?_,fun h=>?_⟩
 ·simp (maxSteps:=5000000) -dsimp only [↓gp,gq,reduceCtorEq,reduceEqDiff,reduceLT,reduceLeDiff,reduceAdd,reduceMul,reduceSub,Nat.reduceBEq,Int.reduceToNat,Int.reduceLE,Int.reduceLT,Int.reduceNeg,reduceMod,zac,zad,zab,zaa,gT,TK.isInt,TK.agg,Array.toList,h1a,h2a,r2a,h5a,r7a,h6a]
  refine ⟨fun ho=>⟨by kernel_rfl,by omega,by omega,zaf (zdh _ _) ?_⟩,fun ho=>?_⟩
  ·simp (maxSteps:=5000000) -dsimp only [↓gp,gq,reduceCtorEq,reduceEqDiff,reduceLT,reduceLeDiff,reduceAdd,reduceMul,reduceSub,Nat.reduceBEq,Int.reduceToNat,Int.reduceLE,Int.reduceLT,Int.reduceNeg,reduceMod,zac,zad,zab,zaa,gT,TK.isInt,TK.agg,Array.toList,h1a,h2a,r2a,h5a,r7a,h6a]
   refine ⟨by simp [List.length_take];omega,by kernel_rfl,?_⟩
   exact zah ((k + 1,v + 1)) (by refine ⟨?_,?_,?_,?_,?_,?_,⟨by omega,fun _=>ho⟩⟩ <;> (first | (simp (maxSteps:=5000000) -dsimp only [gr,reduceEqDiff,reduceLT,reduceAdd,reduceMod,Nat.reduceBEq,zaa,zac,zad,zab,h1a,h2a,r2a,h5a,r7a,h6a,zae h hl.2,zuc h];first | done | rfl | (simp;done)) | assumption | rfl)) (by first | omega | (simp only;omega) | (dsimp only;omega) | (show _ < _;simp;omega))
  ·have:k = 0:=by
    rcases Nat.eq_zero_or_pos k with h | h
    ·exact h
    ·rw [hall h] at ho;cases ho
   subst this
   simp [zcU,ho]
 ·obtain rfl:k = list.length:=by omega
  congr 1
  unfold zcU
  rcases Nat.eq_zero_or_pos list.length with h0 | h0
  ·have:list = []:=List.eq_nil_of_length_eq_zero h0
   subst this
   split <;> simp
  ·rw [if_pos (hall h0),List.take_length]
theorem zfk (n:Int) (xs list:List Int) (hx:list.length ≤ 1048576):AC Tryz.prog 11 [.ag [int n,zaI xs],zaI list] (.fr 3 1 (iL (zcU n xs list))):=by
 refine AC.go (rs:=[.tmp 4]) zaQ zar Tryz.func11 rfl rfl rfl (by kernel_rfl) fun hl=>?_
 simp only [zav,zaC,and_true,zaT,zby,za5,zaL,true_and] at hl
 simp (maxSteps:=5000000) -dsimp only [↓gp,gq,reduceCtorEq,reduceEqDiff,reduceLT,reduceLeDiff,reduceAdd,reduceMul,reduceSub,Nat.reduceBEq,Int.reduceToNat,Int.reduceLE,Int.reduceLT,Int.reduceNeg,reduceMod,zac,zad,zab,zaa,gT,TK.isInt,TK.agg,Array.toList]
 refine zaf (zbu n xs list) ?_
 simp (maxSteps:=5000000) -dsimp only [↓gp,gq,reduceCtorEq,reduceEqDiff,reduceLT,reduceLeDiff,reduceAdd,reduceMul,reduceSub,Nat.reduceBEq,Int.reduceToNat,Int.reduceLE,Int.reduceLT,Int.reduceNeg,reduceMod,zac,zad,zab,zaa,gT,TK.isInt,TK.agg,Array.toList]
 refine ⟨fun ho=>?_,fun ho=>?_⟩
 ·have ho:zcb n xs list = false:=by rwa [Bool.not_eq_true'] at ho
  simp [zcU,ho,iL]
 ·have ho:zcb n xs list = true:=by rwa [Bool.not_eq_false'] at ho
  refine zam (fun (za:Nat × Nat) s=>match za with | (k,v)=>s.sl 2 = .ref 2 1 0∧s.rw 2 = ⟨1,.box 26 [int n,zaI xs]⟩∧s.sl 5 = .own 5 v∧s.rw 5 = ⟨v,.sli 3 1 false (iL ((list.take k).map (zca n)))⟩∧s.sl 12 = zaI list∧s.sl 13 = int list.length∧s.sl 14 = int k∧(k ≤ list.length)) (fun (k,v)=>list.length - k) ((0,1)) (by refine ⟨?_,?_,?_,?_,?_,?_,?_,by simp⟩ <;> (first | (simp (maxSteps:=5000000) -dsimp only [gr,reduceEqDiff,reduceLT,reduceAdd,reduceMod,Nat.reduceBEq,zaa,zac,zad,zab];first | done | rfl | (simp;done)) | assumption | rfl)) ?_
  intro (k,v) sa ⟨h2a,r2a,h5a,r5a,h12a,h13a,h14a,hIa⟩
  simp (maxSteps:=5000000) -dsimp only [↓gp,gq,reduceCtorEq,reduceEqDiff,reduceLT,reduceLeDiff,reduceAdd,reduceMul,reduceSub,Nat.reduceBEq,Int.reduceToNat,Int.reduceLE,Int.reduceLT,Int.reduceNeg,reduceMod,zac,zad,zab,zaa,gT,TK.isInt,TK.agg,Array.toList,h2a,r2a,h5a,r5a,h12a,h13a,h14a]
  refine ⟨fun h=>⟨h,h,zaf (zfU _ _) ?_⟩,fun h=>?_⟩
  ·simp (maxSteps:=5000000) -dsimp only [↓gp,gq,reduceCtorEq,reduceEqDiff,reduceLT,reduceLeDiff,reduceAdd,reduceMul,reduceSub,Nat.reduceBEq,Int.reduceToNat,Int.reduceLE,Int.reduceLT,Int.reduceNeg,reduceMod,zac,zad,zab,zaa,gT,TK.isInt,TK.agg,Array.toList,h2a,r2a,h5a,r5a,h12a,h13a,h14a]
   refine ⟨by simp [List.length_take];omega,?_⟩
   exact zah ((k + 1,v + 1)) (by refine ⟨?_,?_,?_,?_,?_,?_,?_,by omega⟩ <;> (first | (simp (maxSteps:=5000000) -dsimp only [gr,reduceEqDiff,reduceLT,reduceAdd,reduceMod,Nat.reduceBEq,zaa,zac,zad,zab,h2a,r2a,h5a,r5a,h12a,h13a,h14a,zae h hl.2,zuc h];first | done | rfl | (simp;done)) | assumption | rfl)) (by first | omega | (simp only;omega) | (dsimp only;omega) | (show _ < _;simp;omega))
  ·obtain rfl:k = list.length:=by omega
   congr 1
   unfold zcU
   rw [if_pos ho,List.take_length]
def zbx (g o b:Int):Int:=if zcQ (zb7 .i64 b g) = 1 then ior .i64 o (zb7 .i64 b g) else o
def zdN (before:List Int) (g:Int):Int:=before.foldl (zbx g) 0
def okL (l:List Int):Prop:=∀ b ∈ l,0 ≤ b∧b < 64
theorem zdg {l:List Int} (h:okL l) {k:Nat} (hk:k < l.length):0 ≤ l.getD k 0∧l.getD k 0 < 64:=h _ (zaz 0 hk)
theorem ze7 {l:List Int} (h:okL l) (k:Nat):okL (l.take k):=fun b hb=>h b (List.mem_of_mem_take hb)
theorem zyQ {g o b:Int} (hg:0 ≤ g∧g < 64) (ho:0 ≤ o∧o < 64) (hb:0 ≤ b∧b < 64):0 ≤ zbx g o b∧zbx g o b < 64:=by
 unfold zbx
 split
 ·exact zE7 ho (zl8 hb hg).2
 ·exact ho
theorem zAP {l:List Int} {g:Int} (hl:okL l) (hg:0 ≤ g∧g < 64):0 ≤ zdN l g∧zdN l g < 64:=by
 unfold zdN
 have:∀ (l:List Int) (o:Int),okL l→(0 ≤ o∧o < 64)→0 ≤ l.foldl (zbx g) o∧l.foldl (zbx g) o < 64:=by
  intro l
  induction l with
  | nil=>intro o _ h;exact h
  | cons b l ih=>intro o hl h;exact ih _ (fun x hx=>hl x (by simp [hx])) (zyQ hg h (hl b (by simp)))
 exact this l 0 hl (by omega)
theorem zbZ {s:Int} (h:0 ≤ s∧s < 64):zcQ s = (zaw s.toNat:Nat):=by rw [zcQ,if_pos h]
theorem zek (before:List Int) (g:Int) (hb:okL before) (hg:0 ≤ g∧g < 64):AC Tryz.prog 41 [zaI before,int g] (.im (int (zdN before g))):=by
 refine AC.go (rs:=[.tmp 4]) zaQ zar Tryz.func41 rfl rfl rfl (by kernel_rfl) fun hl=>?_
 simp only [zav,zaC,and_true,zcl,zaL,true_and] at hl
 simp (maxSteps:=5000000) -dsimp only [↓gp,gq,reduceCtorEq,reduceEqDiff,reduceLT,reduceLeDiff,reduceAdd,reduceMul,reduceSub,Nat.reduceBEq,Int.reduceToNat,Int.reduceLE,Int.reduceLT,Int.reduceNeg,reduceMod,zac,zad,zab,zaa,gT,TK.isInt,TK.agg,Array.toList]
 refine zam (fun (k:Nat) s=>s.sl 0 = zaI before∧s.sl 1 = int g∧s.sl 5 = int ((before.take k).foldl (zbx g) 0)∧s.sl 6 = int k∧(k ≤ before.length)) (fun k=>before.length - k) (0) (by refine ⟨?_,?_,?_,?_,by simp⟩ <;> (first | (simp (maxSteps:=5000000) -dsimp only [gr,reduceEqDiff,reduceLT,reduceAdd,reduceMod,Nat.reduceBEq,zaa,zac,zad,zab];first | done | rfl | (simp;done)) | assumption | rfl)) ?_
 intro k sa ⟨h0a,h1a,h5a,h6a,hIa⟩
 simp (maxSteps:=5000000) -dsimp only [↓gp,gq,reduceCtorEq,reduceEqDiff,reduceLT,reduceLeDiff,reduceAdd,reduceMul,reduceSub,Nat.reduceBEq,Int.reduceToNat,Int.reduceLE,Int.reduceLT,Int.reduceNeg,reduceMod,zac,zad,zab,zaa,gT,TK.isInt,TK.agg,Array.toList,h0a,h1a,h5a,h6a]
 refine ⟨fun h=>⟨by kernel_rfl,h,h,h,h,?_⟩,fun h=>?_⟩
 ·have hk:=zdg hb h
  obtain ⟨e,h0,h1⟩:=zl8 hk hg
  have hw:IntKind.i64.wrap (before.getD k 0 - zcS .i64 (before.getD k 0) g) = zb7 .i64 (before.getD k 0) g:=by rw [e];exact zap (by omega) (by omega)
  rw [hw]
  refine zaf (za9 h0 (by omega)) ?_
  simp (maxSteps:=5000000) -dsimp only [↓gp,gq,reduceCtorEq,reduceEqDiff,reduceLT,reduceLeDiff,reduceAdd,reduceMul,reduceSub,Nat.reduceBEq,Int.reduceToNat,Int.reduceLE,Int.reduceLT,Int.reduceNeg,reduceMod,zac,zad,zab,zaa,gT,TK.isInt,TK.agg,Array.toList,h0a,h1a,h5a,h6a,hw,zae h hl,zc5 (zbx g) 0 h]
  have e2:=zbZ ⟨h0,h1⟩
  refine ⟨fun hs=>?_,fun hs=>?_⟩
  ·have hp:∀ o,zbx g o (before.getD k 0) = ior .i64 o (zb7 .i64 (before.getD k 0) g):=fun o=>by unfold zbx;rw [if_pos (by rw [e2];exact beq_iff_eq.1 hs)]
   exact zah (k + 1) (by refine ⟨?_,?_,?_,?_,by omega⟩ <;> (first | (simp (maxSteps:=5000000) -dsimp only [gr,reduceEqDiff,reduceLT,reduceAdd,reduceMod,Nat.reduceBEq,zaa,zac,zad,zab,h0a,h1a,h5a,h6a,zae h hl,zc5 (zbx g) 0 h,hp,hw];first | done | rfl | (simp;done)) | assumption | rfl)) (by first | omega | (simp only;omega) | (dsimp only;omega) | (show _ < _;simp;omega))
  ·have hp:∀ o,zbx g o (before.getD k 0) = o:=fun o=>by unfold zbx;rw [if_neg (by rw [e2];exact beq_eq_false_iff_ne.1 hs)]
   exact zah (k + 1) (by refine ⟨?_,?_,?_,?_,by omega⟩ <;> (first | (simp (maxSteps:=5000000) -dsimp only [gr,reduceEqDiff,reduceLT,reduceAdd,reduceMod,Nat.reduceBEq,zaa,zac,zad,zab,h0a,h1a,h5a,h6a,zae h hl,zc5 (zbx g) 0 h,hp,hw];first | done | rfl | (simp;done)) | assumption | rfl)) (by first | omega | (simp only;omega) | (dsimp only;omega) | (show _ < _;simp;omega))
 ·obtain rfl:k = before.length:=by omega
  unfold zdN
  rw [List.take_length]
theorem zeR (before:List Int) (g:Int):AC Tryz.prog 34 [zaI before,int g] (.im (int (zdN before g))):=by
 refine AC.go (rs:=[.tmp 4]) zaQ zar Tryz.func34 rfl rfl rfl (by kernel_rfl) fun hl=>?_
 simp only [zav,zaC,and_true,zcl,zaL,true_and] at hl
 simp (maxSteps:=5000000) -dsimp only [↓gp,gq,reduceCtorEq,reduceEqDiff,reduceLT,reduceLeDiff,reduceAdd,reduceMul,reduceSub,Nat.reduceBEq,Int.reduceToNat,Int.reduceLE,Int.reduceLT,Int.reduceNeg,reduceMod,zac,zad,zab,zaa,gT,TK.isInt,TK.agg,Array.toList]
 refine zam (fun (k:Nat) s=>s.sl 1 = int g∧s.sl 5 = int ((before.take k).foldl (zbx g) 0)∧s.sl 9 = zaI before∧s.sl 10 = int before.length∧s.sl 11 = int k∧(k ≤ before.length)) (fun k=>before.length - k) (0) (by refine ⟨?_,?_,?_,?_,?_,by simp⟩ <;> (first | (simp (maxSteps:=5000000) -dsimp only [gr,reduceEqDiff,reduceLT,reduceAdd,reduceMod,Nat.reduceBEq,zaa,zac,zad,zab];first | done | rfl | (simp;done)) | assumption | rfl)) ?_
 intro k sa ⟨h1a,h5a,h9a,h10a,h11a,hIa⟩
 simp (maxSteps:=5000000) -dsimp only [↓gp,gq,reduceCtorEq,reduceEqDiff,reduceLT,reduceLeDiff,reduceAdd,reduceMul,reduceSub,Nat.reduceBEq,Int.reduceToNat,Int.reduceLE,Int.reduceLT,Int.reduceNeg,reduceMod,zac,zad,zab,zaa,gT,TK.isInt,TK.agg,Array.toList,h1a,h5a,h9a,h10a,h11a]
 refine ⟨fun h=>⟨h,h,zaf (zbn _) ?_⟩,fun h=>?_⟩
 ·simp (maxSteps:=5000000) -dsimp only [↓gp,gq,reduceCtorEq,reduceEqDiff,reduceLT,reduceLeDiff,reduceAdd,reduceMul,reduceSub,Nat.reduceBEq,Int.reduceToNat,Int.reduceLE,Int.reduceLT,Int.reduceNeg,reduceMod,zac,zad,zab,zaa,gT,TK.isInt,TK.agg,Array.toList,h1a,h5a,h9a,h10a,h11a]
  refine ⟨fun hs=>?_,fun hs=>?_⟩
  ·have hp:∀ o,zbx g o (before.getD k 0) = ior .i64 o (zb7 .i64 (before.getD k 0) g):=fun o=>by unfold zbx;rw [if_pos (beq_iff_eq.1 hs)]
   exact zah (k + 1) (by refine ⟨?_,?_,?_,?_,?_,by omega⟩ <;> (first | (simp (maxSteps:=5000000) -dsimp only [gr,reduceEqDiff,reduceLT,reduceAdd,reduceMod,Nat.reduceBEq,zaa,zac,zad,zab,h1a,h5a,h9a,h10a,h11a,zae h hl,zc5 (zbx g) 0 h,hp];first | done | rfl | (simp;done)) | assumption | rfl)) (by first | omega | (simp only;omega) | (dsimp only;omega) | (show _ < _;simp;omega))
  ·have hp:∀ o,zbx g o (before.getD k 0) = o:=fun o=>by unfold zbx;rw [if_neg (beq_eq_false_iff_ne.1 hs)]
   exact zah (k + 1) (by refine ⟨?_,?_,?_,?_,?_,by omega⟩ <;> (first | (simp (maxSteps:=5000000) -dsimp only [gr,reduceEqDiff,reduceLT,reduceAdd,reduceMod,Nat.reduceBEq,zaa,zac,zad,zab,h1a,h5a,h9a,h10a,h11a,zae h hl,zc5 (zbx g) 0 h,hp];first | done | rfl | (simp;done)) | assumption | rfl)) (by first | omega | (simp only;omega) | (dsimp only;omega) | (show _ < _;simp;omega))
 ·obtain rfl:k = before.length:=by omega
  unfold zdN
  rw [List.take_length]
def zb9 (before:List Int) (g:Int):Bool:=before.all fun b=>zcS .i64 b (zdN before g) != 0
theorem zCu {l:List Int} {p:Int→Bool} {k:Nat} (h:k < l.length) (hp:p (l.getD k 0) = false):l.all p = false:=by
 rw [List.all_eq_false];exact ⟨_,zaz 0 h,fun e=>by rw [hp] at e;cases e⟩
theorem zyR {l:List Int} {p:Int→Bool} (h:∀ k,k < l.length→p (l.getD k 0) = true):l.all p = true:=by
 rw [List.all_eq_true];intro x hx
 obtain ⟨i,hi,rfl⟩:=zaY 0 hx
 exact h i hi
theorem zfD (before:List Int) (g:Int) (hb:okL before) (hg:0 ≤ g∧g < 64):AC Tryz.prog 40 [zaI before,int g] (.im (bool (zb9 before g))):=by
 refine AC.go (rs:=[.tmp 4]) zaQ zar Tryz.func40 rfl rfl rfl (by kernel_rfl) fun hl=>?_
 simp only [zav,zaC,and_true,zcl,zaL,true_and] at hl
 simp (maxSteps:=5000000) -dsimp only [↓gp,gq,reduceCtorEq,reduceEqDiff,reduceLT,reduceLeDiff,reduceAdd,reduceMul,reduceSub,Nat.reduceBEq,Int.reduceToNat,Int.reduceLE,Int.reduceLT,Int.reduceNeg,reduceMod,zac,zad,zab,zaa,gT,TK.isInt,TK.agg,Array.toList]
 refine zaf (zek before g hb hg) ?_
 simp (maxSteps:=5000000) -dsimp only [↓gp,gq,reduceCtorEq,reduceEqDiff,reduceLT,reduceLeDiff,reduceAdd,reduceMul,reduceSub,Nat.reduceBEq,Int.reduceToNat,Int.reduceLE,Int.reduceLT,Int.reduceNeg,reduceMod,zac,zad,zab,zaa,gT,TK.isInt,TK.agg,Array.toList]
 refine zam (fun (k:Nat) s=>s.sl 0 = zaI before∧s.sl 5 = int (zdN before g)∧s.sl 6 = int k∧(k ≤ before.length∧∀ i,i < k→(zcS .i64 (before.getD i 0) (zdN before g) != 0) = true)) (fun k=>before.length - k) (0) (by refine ⟨?_,?_,?_,by simp⟩ <;> (first | (simp (maxSteps:=5000000) -dsimp only [gr,reduceEqDiff,reduceLT,reduceAdd,reduceMod,Nat.reduceBEq,zaa,zac,zad,zab];first | done | rfl | (simp;done)) | assumption | rfl)) ?_
 intro k sa ⟨h0a,h5a,h6a,hIa⟩
 obtain ⟨hk,hall⟩:=hIa
 simp (maxSteps:=5000000) -dsimp only [↓gp,gq,reduceCtorEq,reduceEqDiff,reduceLT,reduceLeDiff,reduceAdd,reduceMul,reduceSub,Nat.reduceBEq,Int.reduceToNat,Int.reduceLE,Int.reduceLT,Int.reduceNeg,reduceMod,zac,zad,zab,zaa,gT,TK.isInt,TK.agg,Array.toList,h0a,h5a,h6a]
 refine ⟨fun h=>⟨h,h,fun he=>zCu h (by simpa using he),fun he=>zah (k + 1) ⟨(by (first | (simp (maxSteps:=5000000) -dsimp only [gr,reduceEqDiff,reduceLT,reduceAdd,reduceMod,Nat.reduceBEq,zaa,zac,zad,zab,h0a,h5a,h6a,zae h hl];first | done | rfl | (simp;done)) | assumption | rfl)),(by (first | (simp (maxSteps:=5000000) -dsimp only [gr,reduceEqDiff,reduceLT,reduceAdd,reduceMod,Nat.reduceBEq,zaa,zac,zad,zab,h0a,h5a,h6a,zae h hl];first | done | rfl | (simp;done)) | assumption | rfl)),(by (first | (simp (maxSteps:=5000000) -dsimp only [gr,reduceEqDiff,reduceLT,reduceAdd,reduceMod,Nat.reduceBEq,zaa,zac,zad,zab,h0a,h5a,h6a,zae h hl];first | done | rfl | (simp;done)) | assumption | rfl)),⟨by omega,fun i hi=>?_⟩⟩ (by first | omega | (simp only;omega) | (dsimp only;omega) | (show _ < _;simp;omega))⟩,fun h=>zyR fun i hi=>hall i (by omega)⟩
 rcases Nat.lt_succ_iff_lt_or_eq.1 hi with hi | rfl
 ·exact hall i hi
 ·simpa using he
theorem zfE (before:List Int) (g:Int):AC Tryz.prog 30 [zaI before,int g] (.im (bool (zb9 before g))):=by
 refine AC.go (rs:=[.tmp 4]) zaQ zar Tryz.func30 rfl rfl rfl (by kernel_rfl) fun hl=>?_
 simp only [zav,zaC,and_true,zcl,zaL,true_and] at hl
 simp (maxSteps:=5000000) -dsimp only [↓gp,gq,reduceCtorEq,reduceEqDiff,reduceLT,reduceLeDiff,reduceAdd,reduceMul,reduceSub,Nat.reduceBEq,Int.reduceToNat,Int.reduceLE,Int.reduceLT,Int.reduceNeg,reduceMod,zac,zad,zab,zaa,gT,TK.isInt,TK.agg,Array.toList]
 refine zaf (zeR before g) ?_
 simp (maxSteps:=5000000) -dsimp only [↓gp,gq,reduceCtorEq,reduceEqDiff,reduceLT,reduceLeDiff,reduceAdd,reduceMul,reduceSub,Nat.reduceBEq,Int.reduceToNat,Int.reduceLE,Int.reduceLT,Int.reduceNeg,reduceMod,zac,zad,zab,zaa,gT,TK.isInt,TK.agg,Array.toList]
 refine zam (fun (k:Nat) s=>s.sl 5 = int (zdN before g)∧s.sl 11 = zaI before∧s.sl 12 = int before.length∧s.sl 13 = int k∧(k ≤ before.length∧∀ i,i < k→(zcS .i64 (before.getD i 0) (zdN before g) != 0) = true)) (fun k=>before.length - k) (0) (by refine ⟨?_,?_,?_,?_,by simp⟩ <;> (first | (simp (maxSteps:=5000000) -dsimp only [gr,reduceEqDiff,reduceLT,reduceAdd,reduceMod,Nat.reduceBEq,zaa,zac,zad,zab];first | done | rfl | (simp;done)) | assumption | rfl)) ?_
 intro k sa ⟨h5a,h11a,h12a,h13a,hIa⟩
 obtain ⟨hk,hall⟩:=hIa
 have hc:=zyF (zdN before g) (before.getD k 0)
 simp (maxSteps:=5000000) -dsimp only [↓gp,gq,reduceCtorEq,reduceEqDiff,reduceLT,reduceLeDiff,reduceAdd,reduceMul,reduceSub,Nat.reduceBEq,Int.reduceToNat,Int.reduceLE,Int.reduceLT,Int.reduceNeg,reduceMod,zac,zad,zab,zaa,gT,TK.isInt,TK.agg,Array.toList,h5a,h11a,h12a,h13a,hc]
 refine ⟨fun h=>⟨h,h,fun he=>zCu h (by simpa using he),fun he=>zah (k + 1) ⟨(by (first | (simp (maxSteps:=5000000) -dsimp only [gr,reduceEqDiff,reduceLT,reduceAdd,reduceMod,Nat.reduceBEq,zaa,zac,zad,zab,h5a,h11a,h12a,h13a,zae h hl];first | done | rfl | (simp;done)) | assumption | rfl)),(by (first | (simp (maxSteps:=5000000) -dsimp only [gr,reduceEqDiff,reduceLT,reduceAdd,reduceMod,Nat.reduceBEq,zaa,zac,zad,zab,h5a,h11a,h12a,h13a,zae h hl];first | done | rfl | (simp;done)) | assumption | rfl)),(by (first | (simp (maxSteps:=5000000) -dsimp only [gr,reduceEqDiff,reduceLT,reduceAdd,reduceMod,Nat.reduceBEq,zaa,zac,zad,zab,h5a,h11a,h12a,h13a,zae h hl];first | done | rfl | (simp;done)) | assumption | rfl)),(by (first | (simp (maxSteps:=5000000) -dsimp only [gr,reduceEqDiff,reduceLT,reduceAdd,reduceMod,Nat.reduceBEq,zaa,zac,zad,zab,h5a,h11a,h12a,h13a,zae h hl];first | done | rfl | (simp;done)) | assumption | rfl)),⟨by omega,fun i hi=>?_⟩⟩ (by first | omega | (simp only;omega) | (dsimp only;omega) | (show _ < _;simp;omega))⟩,fun h=>zyR fun i hi=>hall i (by omega)⟩
 rcases Nat.lt_succ_iff_lt_or_eq.1 hi with hi | rfl
 ·exact hall i hi
 ·simpa using he
def zkG (list:List Int) (k:Nat):Bool:=zb9 (list.take k) (list.getD k 0)
noncomputable def zhS (n:Int) (xs list:List Int):Bool:=zcb n xs list && (List.range list.length).all (zkG list)
theorem zjY {n:Int} {xs list:List Int} (h:zcb n xs list = true):okL list:=fun b hb=>by
 obtain ⟨hc,hp⟩:=zdi.1 h
 obtain ⟨i,hi,rfl⟩:=zaY 0 (hp.mem_iff.1 hb)
 exact zcZ (hc.2.2 i hi).1
theorem zyS {n:Int} {xs list:List Int} {k:Nat} (h:k < list.length) (hd:zkG list k = false):zhS n xs list = false:=by
 unfold zhS
 rw [Bool.and_eq_false_iff]
 right
 rw [List.all_eq_false]
 exact ⟨k,by simpa using h,by simp [hd]⟩
theorem zmZ {n:Int} {xs list:List Int} (ho:zcb n xs list = true) (h:∀ k,k < list.length→zkG list k = true):zhS n xs list = true:=by
 unfold zhS
 rw [ho,Bool.true_and,List.all_eq_true]
 exact fun k hk=>h k (by simpa using hk)
theorem zea {n:Int} {xs list:List Int} (h:zhS n xs list = true):zcb n xs list = true:=by
 unfold zhS at h;rw [Bool.and_eq_true] at h;exact h.1
theorem zbO (n:Int) (xs list:List Int):AC Tryz.prog 15 [.ag [int n,zaI xs],zaI list] (.im (bool (zhS n xs list))):=by
 refine AC.go (rs:=[.tmp 4]) zaQ zar Tryz.func15 rfl rfl rfl (by kernel_rfl) fun hl=>?_
 simp only [zav,zaC,and_true,zaT,zby,za5,zaL,true_and] at hl
 simp (maxSteps:=5000000) -dsimp only [↓gp,gq,reduceCtorEq,reduceEqDiff,reduceLT,reduceLeDiff,reduceAdd,reduceMul,reduceSub,Nat.reduceBEq,Int.reduceToNat,Int.reduceLE,Int.reduceLT,Int.reduceNeg,reduceMod,zac,zad,zab,zaa,gT,TK.isInt,TK.agg,Array.toList]
 refine zaf (zcy n xs list) ?_
 simp (maxSteps:=5000000) -dsimp only [↓gp,gq,reduceCtorEq,reduceEqDiff,reduceLT,reduceLeDiff,reduceAdd,reduceMul,reduceSub,Nat.reduceBEq,Int.reduceToNat,Int.reduceLE,Int.reduceLT,Int.reduceNeg,reduceMod,zac,zad,zab,zaa,gT,TK.isInt,TK.agg,Array.toList]
 refine ⟨fun ho=>?_,fun ho=>?_⟩
 ·have ho:zcb n xs list = false:=by rwa [Bool.not_eq_true'] at ho
  unfold zhS;rw [ho];rfl
 ·have ho:zcb n xs list = true:=by rwa [Bool.not_eq_false'] at ho
  have hok:=zjY ho
  refine zam (fun (k:Nat) s=>s.sl 1 = zaI list∧s.sl 5 = int k∧(k ≤ list.length∧∀ i,i < k→zkG list i = true)) (fun k=>list.length - k) (0) (by refine ⟨?_,?_,by simp⟩ <;> (first | (simp (maxSteps:=5000000) -dsimp only [gr,reduceEqDiff,reduceLT,reduceAdd,reduceMod,Nat.reduceBEq,zaa,zac,zad,zab];first | done | rfl | (simp;done)) | assumption | rfl)) ?_
  intro k sa ⟨h1a,h5a,hIa⟩
  obtain ⟨hk,hall⟩:=hIa
  simp (maxSteps:=5000000) -dsimp only [↓gp,gq,reduceCtorEq,reduceEqDiff,reduceLT,reduceLeDiff,reduceAdd,reduceMul,reduceSub,Nat.reduceBEq,Int.reduceToNat,Int.reduceLE,Int.reduceLT,Int.reduceNeg,reduceMod,zac,zad,zab,zaa,gT,TK.isInt,TK.agg,Array.toList,h1a,h5a]
  refine ⟨fun h=>⟨by kernel_rfl,by omega,h,h,zaf (zfD _ _ (ze7 hok k) (zdg hok h)) ?_⟩,fun h=>zmZ ho fun i hi=>hall i (by omega)⟩
  simp (maxSteps:=5000000) -dsimp only [↓gp,gq,reduceCtorEq,reduceEqDiff,reduceLT,reduceLeDiff,reduceAdd,reduceMul,reduceSub,Nat.reduceBEq,Int.reduceToNat,Int.reduceLE,Int.reduceLT,Int.reduceNeg,reduceMod,zac,zad,zab,zaa,gT,TK.isInt,TK.agg,Array.toList,h1a,h5a]
  refine ⟨fun he=>zyS h (by rwa [Bool.not_eq_true'] at he),fun he=>zah (k + 1) ⟨(by (first | (simp (maxSteps:=5000000) -dsimp only [gr,reduceEqDiff,reduceLT,reduceAdd,reduceMod,Nat.reduceBEq,zaa,zac,zad,zab,h1a,h5a,zae h hl.2];first | done | rfl | (simp;done)) | assumption | rfl)),(by (first | (simp (maxSteps:=5000000) -dsimp only [gr,reduceEqDiff,reduceLT,reduceAdd,reduceMod,Nat.reduceBEq,zaa,zac,zad,zab,h1a,h5a,zae h hl.2];first | done | rfl | (simp;done)) | assumption | rfl)),⟨by omega,fun i hi=>?_⟩⟩ (by first | omega | (simp only;omega) | (dsimp only;omega) | (show _ < _;simp;omega))⟩
  rcases Nat.lt_succ_iff_lt_or_eq.1 hi with hi | rfl
  ·exact hall i hi
  ·rwa [Bool.not_eq_false'] at he
theorem zaJ (n:Int) (xs list:List Int):AC Tryz.prog 14 [.ag [int n,zaI xs],zaI list] (.im (bool (zhS n xs list))):=by
 refine AC.go (rs:=[.tmp 4]) zaQ zar Tryz.func14 rfl rfl rfl (by kernel_rfl) fun hl=>?_
 simp only [zav,zaC,and_true,zaT,zby,za5,zaL,true_and] at hl
 simp (maxSteps:=5000000) -dsimp only [↓gp,gq,reduceCtorEq,reduceEqDiff,reduceLT,reduceLeDiff,reduceAdd,reduceMul,reduceSub,Nat.reduceBEq,Int.reduceToNat,Int.reduceLE,Int.reduceLT,Int.reduceNeg,reduceMod,zac,zad,zab,zaa,gT,TK.isInt,TK.agg,Array.toList]
 refine zaf (zbu n xs list) ?_
 simp (maxSteps:=5000000) -dsimp only [↓gp,gq,reduceCtorEq,reduceEqDiff,reduceLT,reduceLeDiff,reduceAdd,reduceMul,reduceSub,Nat.reduceBEq,Int.reduceToNat,Int.reduceLE,Int.reduceLT,Int.reduceNeg,reduceMod,zac,zad,zab,zaa,gT,TK.isInt,TK.agg,Array.toList]
 refine ⟨fun ho=>?_,fun ho=>?_⟩
 ·have ho:zcb n xs list = false:=by rwa [Bool.not_eq_true'] at ho
  unfold zhS;rw [ho];rfl
 ·have ho:zcb n xs list = true:=by rwa [Bool.not_eq_false'] at ho
  refine zam (fun (k:Nat) s=>s.sl 1 = zaI list∧s.sl 11 = zaI list∧s.sl 12 = int list.length∧s.sl 13 = int k∧(k ≤ list.length∧∀ i,i < k→zkG list i = true)) (fun k=>list.length - k) (0) (by refine ⟨?_,?_,?_,?_,by simp⟩ <;> (first | (simp (maxSteps:=5000000) -dsimp only [gr,reduceEqDiff,reduceLT,reduceAdd,reduceMod,Nat.reduceBEq,zaa,zac,zad,zab];first | done | rfl | (simp;done)) | assumption | rfl)) ?_
  intro k sa ⟨h1a,h11a,h12a,h13a,hIa⟩
  obtain ⟨hk,hall⟩:=hIa
  simp (maxSteps:=5000000) -dsimp only [↓gp,gq,reduceCtorEq,reduceEqDiff,reduceLT,reduceLeDiff,reduceAdd,reduceMul,reduceSub,Nat.reduceBEq,Int.reduceToNat,Int.reduceLE,Int.reduceLT,Int.reduceNeg,reduceMod,zac,zad,zab,zaa,gT,TK.isInt,TK.agg,Array.toList,h1a,h11a,h12a,h13a]
  refine ⟨fun h=>⟨h,h,by omega,zaf (zfE _ _) ?_⟩,fun h=>zmZ ho fun i hi=>hall i (by omega)⟩
  simp (maxSteps:=5000000) -dsimp only [↓gp,gq,reduceCtorEq,reduceEqDiff,reduceLT,reduceLeDiff,reduceAdd,reduceMul,reduceSub,Nat.reduceBEq,Int.reduceToNat,Int.reduceLE,Int.reduceLT,Int.reduceNeg,reduceMod,zac,zad,zab,zaa,gT,TK.isInt,TK.agg,Array.toList,h1a,h11a,h12a,h13a]
  refine ⟨fun he=>zyS h (by rwa [Bool.not_eq_true'] at he),fun he=>zah (k + 1) ⟨(by (first | (simp (maxSteps:=5000000) -dsimp only [gr,reduceEqDiff,reduceLT,reduceAdd,reduceMod,Nat.reduceBEq,zaa,zac,zad,zab,h1a,h11a,h12a,h13a,zae h hl.2];first | done | rfl | (simp;done)) | assumption | rfl)),(by (first | (simp (maxSteps:=5000000) -dsimp only [gr,reduceEqDiff,reduceLT,reduceAdd,reduceMod,Nat.reduceBEq,zaa,zac,zad,zab,h1a,h11a,h12a,h13a,zae h hl.2];first | done | rfl | (simp;done)) | assumption | rfl)),(by (first | (simp (maxSteps:=5000000) -dsimp only [gr,reduceEqDiff,reduceLT,reduceAdd,reduceMod,Nat.reduceBEq,zaa,zac,zad,zab,h1a,h11a,h12a,h13a,zae h hl.2];first | done | rfl | (simp;done)) | assumption | rfl)),(by (first | (simp (maxSteps:=5000000) -dsimp only [gr,reduceEqDiff,reduceLT,reduceAdd,reduceMod,Nat.reduceBEq,zaa,zac,zad,zab,h1a,h11a,h12a,h13a,zae h hl.2];first | done | rfl | (simp;done)) | assumption | rfl)),⟨by omega,fun i hi=>?_⟩⟩ (by first | omega | (simp only;omega) | (dsimp only;omega) | (show _ < _;simp;omega))⟩
  rcases Nat.lt_succ_iff_lt_or_eq.1 hi with hi | rfl
  ·exact hall i hi
  ·rwa [Bool.not_eq_false'] at he
theorem zAN {n:Nat} {p:Nat→Bool} {s:Nat}:inF (ofN ((List.range n).filter p)) s = (decide (s < n) && p s):=by
 unfold inF ofN
 rw [Bool.eq_iff_iff]
 simp only [decide_eq_true_eq,Bool.and_eq_true,List.mem_map,List.mem_filter,List.mem_range]
 constructor
 ·rintro ⟨t,⟨h1,h2⟩,e⟩
  have:t = s:=by omega
  subst this
  exact ⟨h1,h2⟩
 ·rintro ⟨h1,h2⟩;exact ⟨s,⟨h1,h2⟩,rfl⟩
def okS (xs:List Int):Prop:=∀ x ∈ xs,0 ≤ x∧x < 64
theorem zua {xs:List Int} (h:okS xs) {k:Nat} (hk:k < xs.length):0 ≤ xs.getD k 0∧xs.getD k 0 < 64:=h _ (zaz 0 hk)
theorem zkF {n:Int} {xs:List Int} (h:zdj n xs = true):okS xs:=fun x hx=>by
 obtain ⟨i,hi,rfl⟩:=zaY 0 hx
 exact zcZ ((zaS.1 h).2.2 i hi).1
theorem zpT {x:Int} (hx:0 ≤ x∧x < 64) {s:Nat} (hs:s < 64):(zcS .i64 x (s:Int) == (s:Int)) = (x.toNat &&& s == s):=by
 have e:x = ((x.toNat:Nat):Int):=by omega
 rw [e,za8 (by omega) (by omega)]
 have:((x.toNat:Nat):Int).toNat = x.toNat:=by omega
 rw [this]
 cases h:(x.toNat &&& s == s) with
 | true=>rw [beq_iff_eq] at h;rw [h];simp
 | false =>
   have h:=beq_eq_false_iff_ne.1 h
   rw [beq_eq_false_iff_ne]
   exact fun e=>h (by omega)
theorem zhR (n:Int) (xs:List Int) (u:Nat) (hx:okS xs) (hs:u < 64):AC Tryz.prog 67 [.ag [int n,zaI xs],int u] (.im (bool (zbe xs u))):=by
 refine AC.go (rs:=[.tmp 4]) zaQ zar Tryz.func67 rfl rfl rfl (by kernel_rfl) fun hl=>?_
 simp only [zav,zaC,and_true,zaT,zby,za5,zcl,true_and] at hl
 simp (maxSteps:=5000000) -dsimp only [↓gp,gq,reduceCtorEq,reduceEqDiff,reduceLT,reduceLeDiff,reduceAdd,reduceMul,reduceSub,Nat.reduceBEq,Int.reduceToNat,Int.reduceLE,Int.reduceLT,Int.reduceNeg,reduceMod,zac,zad,zab,zaa,gT,TK.isInt,TK.agg,Array.toList]
 refine zam (fun (k:Nat) s=>s.sl 1 = int u∧s.sl 2 = .ref 2 1 0∧s.rw 2 = ⟨1,.box 36 [int n,zaI xs]⟩∧s.sl 5 = int k∧(k ≤ xs.length∧∀ i,i < k→((xs.getD i 0).toNat &&& u == u) = false)) (fun k=>xs.length - k) (0) (by refine ⟨?_,?_,?_,?_,by simp⟩ <;> (first | (simp (maxSteps:=5000000) -dsimp only [gr,reduceEqDiff,reduceLT,reduceAdd,reduceMod,Nat.reduceBEq,zaa,zac,zad,zab];first | done | rfl | (simp;done)) | assumption | rfl)) ?_
 intro k sa ⟨h1a,h2a,r2a,h5a,hIa⟩
 obtain ⟨hk,hall⟩:=hIa
 simp (maxSteps:=5000000) -dsimp only [↓gp,gq,reduceCtorEq,reduceEqDiff,reduceLT,reduceLeDiff,reduceAdd,reduceMul,reduceSub,Nat.reduceBEq,Int.reduceToNat,Int.reduceLE,Int.reduceLT,Int.reduceNeg,reduceMod,zac,zad,zab,zaa,gT,TK.isInt,TK.agg,Array.toList,h1a,h2a,r2a,h5a]
 refine ⟨fun h=>⟨h,h,fun he=>?_,fun he=>zah (k + 1) ⟨(by (first | (simp (maxSteps:=5000000) -dsimp only [gr,reduceEqDiff,reduceLT,reduceAdd,reduceMod,Nat.reduceBEq,zaa,zac,zad,zab,h1a,h2a,r2a,h5a,zae h hl];first | done | rfl | (simp;done)) | assumption | rfl)),(by (first | (simp (maxSteps:=5000000) -dsimp only [gr,reduceEqDiff,reduceLT,reduceAdd,reduceMod,Nat.reduceBEq,zaa,zac,zad,zab,h1a,h2a,r2a,h5a,zae h hl];first | done | rfl | (simp;done)) | assumption | rfl)),(by (first | (simp (maxSteps:=5000000) -dsimp only [gr,reduceEqDiff,reduceLT,reduceAdd,reduceMod,Nat.reduceBEq,zaa,zac,zad,zab,h1a,h2a,r2a,h5a,zae h hl];first | done | rfl | (simp;done)) | assumption | rfl)),(by (first | (simp (maxSteps:=5000000) -dsimp only [gr,reduceEqDiff,reduceLT,reduceAdd,reduceMod,Nat.reduceBEq,zaa,zac,zad,zab,h1a,h2a,r2a,h5a,zae h hl];first | done | rfl | (simp;done)) | assumption | rfl)),⟨by omega,fun i hi=>?_⟩⟩ (by first | omega | (simp only;omega) | (dsimp only;omega) | (show _ < _;simp;omega))⟩,fun h=>?_⟩
 ·rw [zpT (zua hx h) hs] at he
  exact zgL.2 ⟨_,zaz 0 h,by simpa using he⟩
 ·rw [zpT (zua hx h) hs] at he
  rcases Nat.lt_succ_iff_lt_or_eq.1 hi with hi | rfl
  ·exact hall i hi
  ·exact he
 ·cases hf:zbe xs u with
  | false=>rfl
  | true =>
    obtain ⟨x,hx',hx2⟩:=zgL.1 hf
    obtain ⟨i,hi,rfl⟩:=zaY 0 hx'
    have:=hall i (by omega)
    rw [hx2] at this
    simp at this
noncomputable def zcT (n:Int) (xs:List Int) (s:Nat):Bool:=zdj n xs && zbe xs s
theorem zmX (l:List Nat) (s:Nat):inF (ofN l) s = decide (s ∈ l):=by
 unfold inF ofN
 refine decide_eq_decide.2 ?_
 simp only [List.mem_map]
 exact ⟨fun ⟨a,h1,h2⟩=>by have:a = s:=by omega
                          exact this ▸ h1,fun h=>⟨s,h,rfl⟩⟩
theorem zub {l:List Nat} (h:∀ s ∈ l,s < 64):∀ x ∈ ofN l,0 ≤ x∧x < 64:=fun x hx=>by
 obtain ⟨s,hs,rfl⟩:=List.mem_map.1 hx
 have:=h s hs
 omega
theorem zfC (n:Int) (xs:List Int):AC Tryz.prog 97 [.ag [int n,zaI xs]] (.fr 3 1 (iL (ofN (zes (zcT n xs))))):=by
 refine AC.go (rs:=[.tmp 2]) zaQ zar Tryz.func97 rfl rfl rfl (by kernel_rfl) fun hl=>?_
 simp (maxSteps:=5000000) -dsimp only [↓gp,gq,reduceCtorEq,reduceEqDiff,reduceLT,reduceLeDiff,reduceAdd,reduceMul,reduceSub,Nat.reduceBEq,Int.reduceToNat,Int.reduceLE,Int.reduceLT,Int.reduceNeg,reduceMod,zac,zad,zab,zaa,gT,TK.isInt,TK.agg,Array.toList]
 have fin:∀ m,m = 64→zes (inF (ofN ((List.range m).filter (zcT n xs)))) = zes (zcT n xs):=fun m hm=>by
  refine zmb fun s hs=>?_
  rw [zmX,hm]
  cases h:zcT n xs s <;> simp [h,hs]
 have hmem:∀ m,m ≤ 64→∀ s ∈ (List.range m).filter (zcT n xs),s < 64:=fun m hm s hs=>by
  have:=List.mem_range.1 (List.mem_filter.1 hs).1;omega
 refine zam (fun (za:Nat × Nat) s=>match za with | (m,v)=>s.sl 1 = .ref 1 1 0∧s.rw 1 = ⟨1,.box 36 [int n,zaI xs]⟩∧s.sl 3 = .own 5 v∧s.rw 5 = ⟨v,.sli 3 1 false (iL (ofN ((List.range m).filter (zcT n xs))))⟩∧s.sl 4 = int m∧(m ≤ 64)) (fun (m,v)=>64 - m) ((0,1)) (by refine ⟨?_,?_,?_,?_,?_,by simp⟩ <;> (first | (simp (maxSteps:=5000000) -dsimp only [gr,reduceEqDiff,reduceLT,reduceAdd,reduceMod,Nat.reduceBEq,zaa,zac,zad,zab];first | done | rfl | (simp;done)) | assumption | rfl)) ?_
 intro (m,v) sa ⟨h1a,r1a,h3a,r5a,h4a,hIa⟩
 have hflen:((List.range m).filter (zcT n xs)).length ≤ 64:=by
  have:=List.length_filter_le (zcT n xs) (List.range m);rw [List.length_range] at this;omega
 simp (maxSteps:=5000000) -dsimp only [↓gp,gq,reduceCtorEq,reduceEqDiff,reduceLT,reduceLeDiff,reduceAdd,reduceMul,reduceSub,Nat.reduceBEq,Int.reduceToNat,Int.reduceLE,Int.reduceLT,Int.reduceNeg,reduceMod,zac,zad,zab,zaa,gT,TK.isInt,TK.agg,Array.toList,h1a,r1a,h3a,r5a,h4a]
 refine ⟨fun h=>zaf (zbl n xs) ?_,fun h=>?_⟩
 ·simp (maxSteps:=5000000) -dsimp only [↓gp,gq,reduceCtorEq,reduceEqDiff,reduceLT,reduceLeDiff,reduceAdd,reduceMul,reduceSub,Nat.reduceBEq,Int.reduceToNat,Int.reduceLE,Int.reduceLT,Int.reduceNeg,reduceMod,zac,zad,zab,zaa,gT,TK.isInt,TK.agg,Array.toList,h1a,r1a,h3a,r5a,h4a]
  have hm:m < 64:=by omega
  refine ⟨fun hc=>zaf (zhR n xs m (zkF hc) hm) ?_,fun hc=>zaf (zdB _ (zub (hmem m hIa))) ?_⟩
  ·simp (maxSteps:=5000000) -dsimp only [↓gp,gq,reduceCtorEq,reduceEqDiff,reduceLT,reduceLeDiff,reduceAdd,reduceMul,reduceSub,Nat.reduceBEq,Int.reduceToNat,Int.reduceLE,Int.reduceLT,Int.reduceNeg,reduceMod,zac,zad,zab,zaa,gT,TK.isInt,TK.agg,Array.toList,h1a,r1a,h3a,r5a,h4a,zaq]
   refine ⟨fun hf=>?_,fun hf=>?_⟩
   ·have e:(List.range (m + 1)).filter (zcT n xs) = (List.range m).filter (zcT n xs) ++ [m]:=by
     rw [List.range_succ,List.filter_append]
     simp [zcT,hc,hf]
    refine ⟨by omega,?_⟩
    exact zah ((m + 1,v + 1)) (by refine ⟨?_,?_,?_,?_,?_,by dsimp only;omega⟩ <;> (first | (simp (maxSteps:=5000000) -dsimp only [gr,reduceEqDiff,reduceLT,reduceAdd,reduceMod,Nat.reduceBEq,zaa,zac,zad,zab,h1a,r1a,h3a,r5a,h4a,zae hm (by omega),e,za2,zfS];first | done | rfl | (simp;done)) | assumption | rfl)) (by first | omega | (simp only;omega) | (dsimp only;omega) | (show _ < _;simp;omega))
   ·have e:(List.range (m + 1)).filter (zcT n xs) = (List.range m).filter (zcT n xs):=by
     rw [List.range_succ,List.filter_append]
     simp [zcT,hc,hf]
    exact zah ((m + 1,v)) (by refine ⟨?_,?_,?_,?_,?_,by dsimp only;omega⟩ <;> (first | (simp (maxSteps:=5000000) -dsimp only [gr,reduceEqDiff,reduceLT,reduceAdd,reduceMod,Nat.reduceBEq,zaa,zac,zad,zab,h1a,r1a,h3a,r5a,h4a,zae hm (by omega),e];first | done | rfl | (simp;done)) | assumption | rfl)) (by first | omega | (simp only;omega) | (dsimp only;omega) | (show _ < _;simp;omega))
  ·simp (maxSteps:=5000000) -dsimp only [↓gp,gq,reduceCtorEq,reduceEqDiff,reduceLT,reduceLeDiff,reduceAdd,reduceMul,reduceSub,Nat.reduceBEq,Int.reduceToNat,Int.reduceLE,Int.reduceLT,Int.reduceNeg,reduceMod,zac,zad,zab,zaa,gT,TK.isInt,TK.agg,Array.toList,h1a,r1a,h3a,r5a,h4a]
   have e1:(List.range m).filter (zcT n xs) = []:=by
    rw [List.filter_eq_nil_iff];intro s _;simp [zcT,hc]
   have e2:zes (zcT n xs) = zes (inF (ofN [])):=zmb fun s _=>by rw [zmX];simp [zcT,hc]
   rw [e1,e2]
 ·have:m = 64:=by omega
  refine zaf (zdB _ (zub (hmem m hIa))) ?_
  simp (maxSteps:=5000000) -dsimp only [↓gp,gq,reduceCtorEq,reduceEqDiff,reduceLT,reduceLeDiff,reduceAdd,reduceMul,reduceSub,Nat.reduceBEq,Int.reduceToNat,Int.reduceLE,Int.reduceLT,Int.reduceNeg,reduceMod,zac,zad,zab,zaa,gT,TK.isInt,TK.agg,Array.toList,h1a,r1a,h3a,r5a,h4a]
  rw [fin m this]
theorem zl9 {f:Nat→Bool} {k:Nat} (h:k < (zes f).length):(zes f).getD k 0 < 64:=(zgD.1 (zaz 0 h)).1
theorem zgH (n:Int) (xs:List Int) (k:Int):AC Tryz.prog 99 [.ag [int n,zaI xs],int k] (.fr 3 1 (iL (ofN ((zes (zcT n xs)).filter fun s=>(zaw s:Int) == k)))):=by
 refine AC.go (rs:=[.tmp 4]) zaQ zar Tryz.func99 rfl rfl rfl (by kernel_rfl) fun hl=>?_
 simp (maxSteps:=5000000) -dsimp only [↓gp,gq,reduceCtorEq,reduceEqDiff,reduceLT,reduceLeDiff,reduceAdd,reduceMul,reduceSub,Nat.reduceBEq,Int.reduceToNat,Int.reduceLE,Int.reduceLT,Int.reduceNeg,reduceMod,zac,zad,zab,zaa,gT,TK.isInt,TK.agg,Array.toList]
 refine zaf (zfC n xs) ?_
 simp (maxSteps:=5000000) -dsimp only [↓gp,gq,reduceCtorEq,reduceEqDiff,reduceLT,reduceLeDiff,reduceAdd,reduceMul,reduceSub,Nat.reduceBEq,Int.reduceToNat,Int.reduceLE,Int.reduceLT,Int.reduceNeg,reduceMod,zac,zad,zab,zaa,gT,TK.isInt,TK.agg,Array.toList]
 have hfull:=ziv (zcT n xs)
 have hmem:∀ i,i < (zes (zcT n xs)).length→(zes (zcT n xs)).getD i 0 < 64:=fun i h=>zl9 h
 generalize zes (zcT n xs) = all at *
 refine zam (fun (za:Nat × Nat × Nat) s=>match za with | (i,v,u)=>s.sl 1 = int k∧s.sl 5 = .own 8 v∧s.rw 8 = ⟨v,.sli 3 1 false (iL (ofN ((all.take i).filter fun s=>(zaw s:Int) == k)))⟩∧s.sl 6 = .own 10 u∧s.rw 10 = ⟨u,.sli 3 1 false (iL (ofN all))⟩∧s.sl 7 = int i∧(i ≤ all.length)) (fun (i,v,u)=>all.length - i) ((0,1,1)) (by refine ⟨?_,?_,?_,?_,?_,?_,by simp⟩ <;> (first | (simp (maxSteps:=5000000) -dsimp only [gr,reduceEqDiff,reduceLT,reduceAdd,reduceMod,Nat.reduceBEq,zaa,zac,zad,zab];first | done | rfl | (simp;done)) | assumption | rfl)) ?_
 intro (i,v,u) sa ⟨h1a,h5a,r8a,h6a,r10a,h7a,hIa⟩
 have hfl:((all.take i).filter fun s=>(zaw s:Int) == k).length ≤ i:=by
  have:=List.length_filter_le (fun s=>(zaw s:Int) == k) (all.take i);rw [List.length_take] at this;omega
 simp (maxSteps:=5000000) -dsimp only [↓gp,gq,reduceCtorEq,reduceEqDiff,reduceLT,reduceLeDiff,reduceAdd,reduceMul,reduceSub,Nat.reduceBEq,Int.reduceToNat,Int.reduceLE,Int.reduceLT,Int.reduceNeg,reduceMod,zac,zad,zab,zaa,gT,TK.isInt,TK.agg,Array.toList,h1a,h5a,r8a,h6a,r10a,h7a,zaq]
 refine ⟨fun h=>?_,fun h=>?_⟩
 ·have hi:=hmem i h
  have hge:(ofN all).getD i 0 = ((all.getD i 0:Nat):Int):=zbg h
  rw [hge]
  refine ⟨h,h,zaf (za4 _ (by omega)) ?_⟩
  simp (maxSteps:=5000000) -dsimp only [↓gp,gq,reduceCtorEq,reduceEqDiff,reduceLT,reduceLeDiff,reduceAdd,reduceMul,reduceSub,Nat.reduceBEq,Int.reduceToNat,Int.reduceLE,Int.reduceLT,Int.reduceNeg,reduceMod,zac,zad,zab,zaa,gT,TK.isInt,TK.agg,Array.toList,h1a,h5a,r8a,h6a,r10a,h7a,zaq,hge]
  refine ⟨fun hp=>⟨h,h,by omega,?_⟩,fun hp=>?_⟩
  ·have e:(all.take (i + 1)).filter (fun s=>(zaw s:Int) == k) = (all.take i).filter (fun s=>(zaw s:Int) == k) ++ [all.getD i 0]:=zmY h hp
   exact zah ((i + 1,v + 1,u)) (by refine ⟨?_,?_,?_,?_,?_,?_,by dsimp only;omega⟩ <;> (first | (simp (maxSteps:=5000000) -dsimp only [gr,reduceEqDiff,reduceLT,reduceAdd,reduceMod,Nat.reduceBEq,zaa,zac,zad,zab,h1a,h5a,r8a,h6a,r10a,h7a,zae h (by omega),e,za2,zfS,hge];first | done | rfl | (simp;done)) | assumption | rfl)) (by first | omega | (simp only;omega) | (dsimp only;omega) | (show _ < _;simp;omega))
  ·have e:(all.take (i + 1)).filter (fun s=>(zaw s:Int) == k) = (all.take i).filter (fun s=>(zaw s:Int) == k):=zrg h hp
   exact zah ((i + 1,v,u)) (by refine ⟨?_,?_,?_,?_,?_,?_,by dsimp only;omega⟩ <;> (first | (simp (maxSteps:=5000000) -dsimp only [gr,reduceEqDiff,reduceLT,reduceAdd,reduceMod,Nat.reduceBEq,zaa,zac,zad,zab,h1a,h5a,r8a,h6a,r10a,h7a,zae h (by omega),e];first | done | rfl | (simp;done)) | assumption | rfl)) (by first | omega | (simp only;omega) | (dsimp only;omega) | (show _ < _;simp;omega))
 ·have:i = all.length:=by omega
  rw [this,List.take_length]
theorem zrf (f:Nat→Bool) (k:Nat):(zes f).filter (fun s=>(zaw s:Int) == (k:Int)) = zbb f k 64:=by
 rw [← zj1 f k]
 refine List.filter_congr fun s _=>?_
 cases h:(zaw s == k) with
 | true=>have:=beq_iff_eq.1 h;simp [this]
 | false=>have:=beq_eq_false_iff_ne.1 h;rw [beq_eq_false_iff_ne];exact fun e=>this (by omega)
theorem zdf (n:Int) (xs:List Int) (k:Nat):AC Tryz.prog 99 [.ag [int n,zaI xs],int k] (.fr 3 1 (iL (ofN (zbb (zcT n xs) k 64)))):=by
 have:=zgH n xs k
 rwa [zrf] at this
theorem zcd (p:Int):AC Tryz.prog 71 [int p] (.im (bool (isP p))):=by
 refine AC.go (rs:=[.tmp 2]) zaQ zar Tryz.func71 rfl rfl rfl (by kernel_rfl) fun hl=>?_
 simp (maxSteps:=5000000) -dsimp only [↓gp,gq,reduceCtorEq,reduceEqDiff,reduceLT,reduceLeDiff,reduceAdd,reduceMul,reduceSub,Nat.reduceBEq,Int.reduceToNat,Int.reduceLE,Int.reduceLT,Int.reduceNeg,reduceMod,zac,zad,zab,zaa,gT,TK.isInt,TK.agg,Array.toList]
 unfold isP
 exact ⟨fun h=>⟨fun h2=>by simp [h,h2],fun h2=>by simp [h,h2]⟩,fun h=>by simp [h]⟩
theorem zvq {a p:Int} (hp:0 < p):-p < a.tmod p∧a.tmod p < p:=⟨Int.lt_tmod_of_pos a hp,Int.tmod_lt_of_pos a hp⟩
theorem zeb (a p:Int) (hp:isP p = true):AC Tryz.prog 107 [int a,int p] (.im (int (a % p))):=by
 refine AC.go (rs:=[.tmp 4]) zaQ zar Tryz.func107 rfl rfl rfl (by kernel_rfl) fun hl=>?_
 have hp:=zdc hp
 have h1:=zvq (a:=a) (by omega:0 < p)
 have hw:IntKind.i64.wrap (a.tmod p + p) = a.tmod p + p:=zap (by omega) (by omega)
 have hm:=zDm a p (by omega)
 simp (maxSteps:=5000000) -dsimp only [↓gp,gq,reduceCtorEq,reduceEqDiff,reduceLT,reduceLeDiff,reduceAdd,reduceMul,reduceSub,Nat.reduceBEq,Int.reduceToNat,Int.reduceLE,Int.reduceLT,Int.reduceNeg,reduceMod,zac,zad,zab,zaa,gT,TK.isInt,TK.agg,Array.toList,hw,hm]
 omega
theorem zuf {p r b:Int} (h:b < p):zdd p r b (p - b).toNat = if r * b % p = 1 then b else zdd p r (b + 1) (p - (b + 1)).toNat:=by
 have e:(p - b).toNat = (p - (b + 1)).toNat + 1:=by omega
 rw [e,zdd]
theorem zhd (a p:Int) (hp:isP p = true):AC Tryz.prog 110 [int a,int p] (.im (int (zqo p a))):=by
 refine AC.go (rs:=[.tmp 4]) zaQ zar Tryz.func110 rfl rfl rfl (by kernel_rfl) fun hl=>?_
 have hp2:=zdc hp
 simp (maxSteps:=5000000) -dsimp only [↓gp,gq,reduceCtorEq,reduceEqDiff,reduceLT,reduceLeDiff,reduceAdd,reduceMul,reduceSub,Nat.reduceBEq,Int.reduceToNat,Int.reduceLE,Int.reduceLT,Int.reduceNeg,reduceMod,zac,zad,zab,zaa,gT,TK.isInt,TK.agg,Array.toList]
 refine zaf (zcd p) ?_
 simp (maxSteps:=5000000) -dsimp only [↓gp,gq,reduceCtorEq,reduceEqDiff,reduceLT,reduceLeDiff,reduceAdd,reduceMul,reduceSub,Nat.reduceBEq,Int.reduceToNat,Int.reduceLE,Int.reduceLT,Int.reduceNeg,reduceMod,zac,zad,zab,zaa,gT,TK.isInt,TK.agg,Array.toList,hp]
 have hr:=Int.emod_nonneg a (by omega:p ≠ 0)
 have hr2:=Int.emod_lt_of_pos a (by omega:0 < p)
 refine zam (fun (b:Int) s=>s.sl 0 = int a∧s.sl 1 = int p∧s.sl 5 = int b∧(1 ≤ b∧b ≤ p∧zqo p a = zdd p (a % p) b (p - b).toNat)) (fun b=>(p - b).toNat) (1) (by refine ⟨?_,?_,?_,⟨by omega,by omega,rfl⟩⟩ <;> (first | (simp (maxSteps:=5000000) -dsimp only [gr,reduceEqDiff,reduceLT,reduceAdd,reduceMod,Nat.reduceBEq,zaa,zac,zad,zab];first | done | rfl | (simp;done)) | assumption | rfl)) ?_
 intro b sa ⟨h0a,h1a,h5a,hIa⟩
 obtain ⟨hb,hb2,hv⟩:=hIa
 simp (maxSteps:=5000000) -dsimp only [↓gp,gq,reduceCtorEq,reduceEqDiff,reduceLT,reduceLeDiff,reduceAdd,reduceMul,reduceSub,Nat.reduceBEq,Int.reduceToNat,Int.reduceLE,Int.reduceLT,Int.reduceNeg,reduceMod,zac,zad,zab,zaa,gT,TK.isInt,TK.agg,Array.toList,h0a,h1a,h5a]
 refine ⟨fun h=>zaf (zeb a p hp) ?_,fun h=>?_⟩
 ·have hm:0 ≤ a % p * b∧a % p * b ≤ 20:=by
   refine ⟨Int.mul_nonneg hr (by omega),?_⟩
   have:=Int.mul_le_mul (show a % p ≤ 4 by omega) (show b ≤ 5 by omega) (by omega) (by omega)
   omega
  have hw:IntKind.i64.wrap (a % p * b) = a % p * b:=zap (by omega) (by omega)
  have hw2:IntKind.i64.wrap (b + 1) = b + 1:=zap (by omega) (by omega)
  simp (maxSteps:=5000000) -dsimp only [↓gp,gq,reduceCtorEq,reduceEqDiff,reduceLT,reduceLeDiff,reduceAdd,reduceMul,reduceSub,Nat.reduceBEq,Int.reduceToNat,Int.reduceLE,Int.reduceLT,Int.reduceNeg,reduceMod,zac,zad,zab,zaa,gT,TK.isInt,TK.agg,Array.toList,h0a,h1a,h5a,hw,hw2,zjP hm.1]
  refine ⟨by omega,fun h1=>?_,fun h1=>zah (b + 1) ⟨(by (first | (simp (maxSteps:=5000000) -dsimp only [gr,reduceEqDiff,reduceLT,reduceAdd,reduceMod,Nat.reduceBEq,zaa,zac,zad,zab,h0a,h1a,h5a,hw2];first | done | rfl | (simp;done)) | assumption | rfl)),(by (first | (simp (maxSteps:=5000000) -dsimp only [gr,reduceEqDiff,reduceLT,reduceAdd,reduceMod,Nat.reduceBEq,zaa,zac,zad,zab,h0a,h1a,h5a,hw2];first | done | rfl | (simp;done)) | assumption | rfl)),(by (first | (simp (maxSteps:=5000000) -dsimp only [gr,reduceEqDiff,reduceLT,reduceAdd,reduceMod,Nat.reduceBEq,zaa,zac,zad,zab,h0a,h1a,h5a,hw2];first | done | rfl | (simp;done)) | assumption | rfl)),⟨by omega,by omega,?_⟩⟩ (by first | omega | (simp only;omega) | (dsimp only;omega) | (show _ < _;simp;omega))⟩
  ·have h1:=beq_iff_eq.1 h1
   rw [hv,zuf h,if_pos h1]
  ·have h1:¬ a % p * b % p = 1:=by simpa using h1
   rw [hv,zuf h,if_neg h1]
 ·have:(p - b).toNat = 0:=by omega
  rw [hv,this];rfl
theorem zAZ (p:Int) {r:List Int} {j:Nat} (h:j < r.length):(r.map fun x=>x % p).getD j 0 = r.getD j 0 % p:=by simp [List.getD,h]
theorem zyZ (p:Int) {M:Mat} {i:Nat} (h:i < M.length):zkp p (M.take i) ++ [(M.getD i []).map fun x=>x % p] = zkp p (M.take (i + 1)):=by
 rw [zaK [] h];simp [zkp]
theorem zm0 (p:Int) {M:Mat} {i:Nat} (h:i ≤ M.length):(zkp p (M.take i)).length = i:=by simp [zkp];omega
theorem zpY {a b p:Int} (h1:0 ≤ a∧a < p) (h2:0 ≤ b∧b ≤ 5) (hp:p ≤ 5):0 ≤ a * b∧a * b ≤ 25:=by
 refine ⟨Int.mul_nonneg h1.1 h2.1,?_⟩
 have:=Int.mul_le_mul (show a ≤ 5 by omega) h2.2 h2.1 (by omega)
 omega
theorem zAY (l:List Int) (j:Nat):prt l l j = l:=by simp [prt]
theorem zj3 (M:Mat) (n a c:Nat) (p:Int) (hp:isP p = true) (hM:MatOk p n M) (ha:a < M.length) (hc:c < n) (hn:n ≤ 1000):AT Tryz.prog 108 [.own 1000000 1,int a,int c,int p] 24 3 (M.map iL) ((zej p a c M).map iL) .self:=by
 refine AT.goI (rs:=[.tmp 8]) zaQ zar Tryz.func108 rfl rfl rfl (by kernel_rfl) (za7 p a c M) fun hl s hs hlow ht=>?_
 have hp2:=zdc hp
 have hlen:=hM.len a ha
 have hres:=hM.res a ha
 have hac:=hres c
 have hra:=ht.row ha
 have hq:∀ i,i < M.length→(List.range M.length).getD i 0 = i:=fun i hi=>by simp [List.getD,hi]
 rw [hq a ha] at hra
 simp (maxSteps:=5000000) -dsimp only [↓gp,gq,reduceCtorEq,reduceEqDiff,reduceLT,reduceLeDiff,reduceAdd,reduceMul,reduceSub,Nat.reduceBEq,Int.reduceToNat,Int.reduceLE,Int.reduceLT,Int.reduceNeg,reduceMod,zac,zad,zab,zaa,gT,TK.isInt,TK.agg,Array.toList,hs,hlow,ht.top,hra,hq a ha]
 refine ⟨ha,ha,by omega,by omega,zaf (zhd _ p hp) ?_⟩
 generalize hb:zqo p ((M.getD a []).getD c 0) = b at *
 have hbb:=zDh hp ((M.getD a []).getD c 0)
 rw [hb] at hbb
 simp (maxSteps:=5000000) -dsimp only [↓gp,gq,reduceCtorEq,reduceEqDiff,reduceLT,reduceLeDiff,reduceAdd,reduceMul,reduceSub,Nat.reduceBEq,Int.reduceToNat,Int.reduceLE,Int.reduceLT,Int.reduceNeg,reduceMod,zac,zad,zab,zaa,gT,TK.isInt,TK.agg,Array.toList,hs,hlow]
 generalize hold:M.getD a [] = old at *
 refine zam (fun (j:Nat) s=>s.sl 0 = .own 1000000 1∧s.sl 1 = int a∧s.sl 2 = int c∧s.sl 3 = int p∧s.sl 9 = int b∧s.sl 10 = int j∧(j ≤ n∧TabI s.rw 1000000 1 24 3 (List.range M.length) (M.set a (prt (scl p b old) old j)))) (fun j=>n - j) (0) (by refine ⟨?_,?_,?_,?_,?_,?_,⟨by omega,by rw [zt0,← hold,zgB];exact ht.same (by simp (maxSteps:=5000000) -dsimp only [gr,reduceEqDiff,reduceLT,reduceAdd,reduceMod,Nat.reduceBEq,zaa,zac,zad,zab]) (fun x=>by simp (maxSteps:=5000000) -dsimp only [gr,reduceEqDiff,reduceLT,reduceAdd,reduceMod,Nat.reduceBEq,zaa,zac,zad,zab])⟩⟩ <;> (first | (simp (maxSteps:=5000000) -dsimp only [gr,reduceEqDiff,reduceLT,reduceAdd,reduceMod,Nat.reduceBEq,zaa,zac,zad,zab,hs];first | done | rfl | (simp;done)) | assumption | rfl)) ?_
 intro j sa ⟨h0a,h1a,h2a,h3a,h9a,h10a,hIa⟩
 obtain ⟨hj,ht1⟩:=hIa
 have hset:a < (M.set a (prt (scl p b old) old j)).length:=by simpa using ha
 have hr1:=ht1.row hset
 have hpl:(prt (scl p b old) old j).length = n:=by rw [zl4 (zc4 p b old)];exact hlen
 rw [zaW ha,hq a ha] at hr1
 have hpj:=zt1 (zc4 p b old) (Nat.le_refl j)
 have hoj:=hres j
 have hmb:=zpY hoj ⟨hbb.1,by omega⟩ hp2.2
 have hw:IntKind.i64.wrap (old.getD j 0 * b) = old.getD j 0 * b:=zap (by omega) (by omega)
 simp (maxSteps:=5000000) -dsimp only [↓gp,gq,reduceCtorEq,reduceEqDiff,reduceLT,reduceLeDiff,reduceAdd,reduceMul,reduceSub,Nat.reduceBEq,Int.reduceToNat,Int.reduceLE,Int.reduceLT,Int.reduceNeg,reduceMod,zac,zad,zab,zaa,gT,TK.isInt,TK.agg,Array.toList,h0a,h1a,h2a,h3a,h9a,h10a,ht1.top,hr1,hq a ha,hpl,hpj,hw,zjP hmb.1]
 refine ⟨ha,ha,fun h=>⟨by kernel_rfl,ha,ha,ha,ha,h,h,by omega,h,by omega,by kernel_rfl,?_⟩,fun h=>?_⟩
 ·refine zah (j + 1) ⟨(by (first | (simp (maxSteps:=5000000) -dsimp only [gr,reduceEqDiff,reduceLT,reduceAdd,reduceMod,Nat.reduceBEq,zaa,zac,zad,zab,h0a,h1a,h2a,h3a,h9a,h10a,zae h (by omega)];first | done | rfl | (simp;done)) | assumption | rfl)),(by (first | (simp (maxSteps:=5000000) -dsimp only [gr,reduceEqDiff,reduceLT,reduceAdd,reduceMod,Nat.reduceBEq,zaa,zac,zad,zab,h0a,h1a,h2a,h3a,h9a,h10a,zae h (by omega)];first | done | rfl | (simp;done)) | assumption | rfl)),(by (first | (simp (maxSteps:=5000000) -dsimp only [gr,reduceEqDiff,reduceLT,reduceAdd,reduceMod,Nat.reduceBEq,zaa,zac,zad,zab,h0a,h1a,h2a,h3a,h9a,h10a,zae h (by omega)];first | done | rfl | (simp;done)) | assumption | rfl)),(by (first | (simp (maxSteps:=5000000) -dsimp only [gr,reduceEqDiff,reduceLT,reduceAdd,reduceMod,Nat.reduceBEq,zaa,zac,zad,zab,h0a,h1a,h2a,h3a,h9a,h10a,zae h (by omega)];first | done | rfl | (simp;done)) | assumption | rfl)),(by (first | (simp (maxSteps:=5000000) -dsimp only [gr,reduceEqDiff,reduceLT,reduceAdd,reduceMod,Nat.reduceBEq,zaa,zac,zad,zab,h0a,h1a,h2a,h3a,h9a,h10a,zae h (by omega)];first | done | rfl | (simp;done)) | assumption | rfl)),(by (first | (simp (maxSteps:=5000000) -dsimp only [gr,reduceEqDiff,reduceLT,reduceAdd,reduceMod,Nat.reduceBEq,zaa,zac,zad,zab,h0a,h1a,h2a,h3a,h9a,h10a,zae h (by omega)];first | done | rfl | (simp;done)) | assumption | rfl)),⟨by omega,?_⟩⟩ (by first | omega | (simp only;omega) | (dsimp only;omega) | (show _ < _;simp;omega))
  have e:M.set a (prt (scl p b old) old (j + 1)) = (M.set a (prt (scl p b old) old j)).set a ((prt (scl p b old) old j).set j (old.getD j 0 * b % p)):=by
   rw [zyw,← zyv (zc4 p b old) (by omega),zgC p b (by omega)]
  rw [e]
  refine ht1.set hset (by simp (maxSteps:=5000000) -dsimp only [gr,reduceEqDiff,reduceLT,reduceAdd,reduceMod,Nat.reduceBEq,zaa,zac,zad,zab,h0a,h1a,h2a,h3a,h9a,h10a]) ?_ (fun x hx=>?_)
  ·rw [hq a ha];simp (maxSteps:=5000000) -dsimp only [gr,reduceEqDiff,reduceLT,reduceAdd,reduceMod,Nat.reduceBEq,zaa,zac,zad,zab,h0a,h1a,h2a,h3a,h9a,h10a]
  ·rw [hq a ha] at hx
   simp (maxSteps:=5000000) -dsimp only [gr,reduceEqDiff,reduceLT,reduceAdd,reduceMod,Nat.reduceBEq,zaa,zac,zad,zab,h0a,h1a,h2a,h3a,h9a,h10a,hx]
 have:j = n:=by omega
 subst this
 have hend:prt (scl p b old) old j = scl p b old:=by rw [← hlen];exact zyu (zc4 p b old)
 rw [hend] at ht1
 have hclr:M.set a (scl p b old) = zvS p a c M:=by unfold zvS;rw [hold,hb]
 rw [hclr] at ht1
 have hM1:=zyB (p:=p) (n:=j) (at':=a) (col:=c) (by omega) hM ha
 have hl1:(zvS p a c M).length = M.length:=zde p a c M
 have hgoal:zej p a c M = zl6 p a c (zvS p a c M) M.length:=rfl
 rw [hgoal]
 generalize zvS p a c M = M1 at *
 refine zam (fun (i:Nat) s=>s.sl 0 = .own 1000000 1∧s.sl 1 = int a∧s.sl 2 = int c∧s.sl 3 = int p∧s.sl 11 = int i∧(i ≤ M.length∧TabI s.rw 1000000 1 24 3 (List.range M.length) (zl6 p a c M1 i))) (fun i=>M.length - i) (0) (by refine ⟨?_,?_,?_,?_,?_,⟨by omega,by rw [zyz];exact ht1.same (by simp (maxSteps:=5000000) -dsimp only [gr,reduceEqDiff,reduceLT,reduceAdd,reduceMod,Nat.reduceBEq,zaa,zac,zad,zab]) (fun x=>by simp (maxSteps:=5000000) -dsimp only [gr,reduceEqDiff,reduceLT,reduceAdd,reduceMod,Nat.reduceBEq,zaa,zac,zad,zab])⟩⟩ <;> (first | (simp (maxSteps:=5000000) -dsimp only [gr,reduceEqDiff,reduceLT,reduceAdd,reduceMod,Nat.reduceBEq,zaa,zac,zad,zab,h0a,h1a,h2a,h3a,h9a,h10a];first | done | rfl | (simp;done)) | assumption | rfl)) ?_
 intro i sb ⟨h0b,h1b,h2b,h3b,h11b,hIb⟩
 obtain ⟨hi,ht2⟩:=hIb
 have hlN:(zl6 p a c M1 i).length = M.length:=by rw [zb8,hl1]
 simp (maxSteps:=5000000) -dsimp only [↓gp,gq,reduceCtorEq,reduceEqDiff,reduceLT,reduceLeDiff,reduceAdd,reduceMul,reduceSub,Nat.reduceBEq,Int.reduceToNat,Int.reduceLE,Int.reduceLT,Int.reduceNeg,reduceMod,zac,zad,zab,zaa,gT,TK.isInt,TK.agg,Array.toList,h0b,h1b,h2b,h3b,h11b,ht2.top]
 refine ⟨fun h=>?_,fun h=>?_⟩
 ·have hi1:i < M1.length:=by omega
  have hr2:=ht2.row (i:=i) (by omega)
  rw [zyA p a c hi1 (Nat.le_refl i),hq i h] at hr2
  have hl2:=hM1.len i hi1
  have hres2:=hM1.res i hi1
  generalize hold2:M1.getD i [] = old2 at *
  simp (maxSteps:=5000000) -dsimp only [↓gp,gq,reduceCtorEq,reduceEqDiff,reduceLT,reduceLeDiff,reduceAdd,reduceMul,reduceSub,Nat.reduceBEq,Int.reduceToNat,Int.reduceLE,Int.reduceLT,Int.reduceNeg,reduceMod,zac,zad,zab,zaa,gT,TK.isInt,TK.agg,Array.toList,h0b,h1b,h2b,h3b,h11b,ht2.top,hr2,hq i h]
  refine ⟨h,h,by omega,by omega,?_⟩
  have hf:=hres2 c
  generalize hfe:old2.getD c 0 = f at *
  have hra1:a < M1.length:=by omega
  have hnew:(zmP p a c M1 i).length = old2.length:=by
   rw [(zq8 (p:=p) (by omega) hM1 hi1).1,hl2]
  refine zam (fun (t:Nat) s=>s.sl 0 = .own 1000000 1∧s.sl 1 = int a∧s.sl 2 = int c∧s.sl 3 = int p∧s.sl 11 = int i∧s.sl 12 = int f∧s.sl 13 = int t∧(t ≤ old2.length∧TabI s.rw 1000000 1 24 3 (List.range M.length) ((zl6 p a c M1 i).set i (prt (zmP p a c M1 i) old2 t)))) (fun t=>old2.length - t) (0) (by refine ⟨?_,?_,?_,?_,?_,?_,?_,⟨by omega,(ht2.same (by simp (maxSteps:=5000000) -dsimp only [gr,reduceEqDiff,reduceLT,reduceAdd,reduceMod,Nat.reduceBEq,zaa,zac,zad,zab]) (fun x=>by simp (maxSteps:=5000000) -dsimp only [gr,reduceEqDiff,reduceLT,reduceAdd,reduceMod,Nat.reduceBEq,zaa,zac,zad,zab])).to (by rw [zt0,← hold2,← zyA p a c hi1 (Nat.le_refl i),zgB])⟩⟩ <;> (first | (simp (maxSteps:=5000000) -dsimp only [gr,reduceEqDiff,reduceLT,reduceAdd,reduceMod,Nat.reduceBEq,zaa,zac,zad,zab,h0b,h1b,h2b,h3b,h11b];first | done | rfl | (simp;done)) | assumption | rfl)) ?_
  intro t sc ⟨h0c,h1c,h2c,h3c,h11c,h12c,h13c,hIc⟩
  obtain ⟨ht',ht3⟩:=hIc
  have hls:((zl6 p a c M1 i).set i (prt (zmP p a c M1 i) old2 t)).length = M.length:=by rw [List.length_set,hlN]
  have hr3:=ht3.row (i:=i) (by omega)
  rw [zaW (by omega),hq i h] at hr3
  have hpl3:(prt (zmP p a c M1 i) old2 t).length = old2.length:=zl4 hnew t
  have hpj3:=zt1 hnew (Nat.le_refl t)
  simp (maxSteps:=5000000) -dsimp only [↓gp,gq,reduceCtorEq,reduceEqDiff,reduceLT,reduceLeDiff,reduceAdd,reduceMul,reduceSub,Nat.reduceBEq,Int.reduceToNat,Int.reduceLE,Int.reduceLT,Int.reduceNeg,reduceMod,zac,zad,zab,zaa,gT,TK.isInt,TK.agg,Array.toList,h0c,h1c,h2c,h3c,h11c,h12c,h13c,ht3.top,hr3,hq i h,hpl3]
  refine ⟨h,h,fun h2=>⟨fun hne=>?_,fun heq=>?_⟩,fun h2=>?_⟩
  ·have hia:¬ i = a:=by
    intro e
    simp [e] at hne
   have hr4:=ht3.row (i:=a) (by omega)
   rw [zbD hia,zDk p a c i hra1,hq a ha] at hr4
   have hla:=hM1.len a hra1
   have hresa:=hM1.res a hra1
   have hcI:zmP p a c M1 i = sbt p f (M1.getD a []) old2:=by unfold zmP;rw [if_neg hia,hold2,hfe]
   generalize hpiv:M1.getD a [] = piv at *
   have hft:=zpY hf ⟨(hresa t).1,by have:=(hresa t).2;omega⟩ hp2.2
   have hot:=hres2 t
   have hw3:IntKind.i64.wrap (f * piv.getD t 0) = f * piv.getD t 0:=zap (by omega) (by omega)
   have hw4:IntKind.i64.wrap (old2.getD t 0 - f * piv.getD t 0) = old2.getD t 0 - f * piv.getD t 0:=zap (by omega) (by omega)
   simp (maxSteps:=5000000) -dsimp only [↓gp,gq,reduceCtorEq,reduceEqDiff,reduceLT,reduceLeDiff,reduceAdd,reduceMul,reduceSub,Nat.reduceBEq,Int.reduceToNat,Int.reduceLE,Int.reduceLT,Int.reduceNeg,reduceMod,zac,zad,zab,zaa,gT,TK.isInt,TK.agg,Array.toList,h0c,h1c,h2c,h3c,h11c,h12c,h13c,ht3.top,hr3,hq i h,hpl3,hr4,hq a ha,hpj3,hw3,hw4]
   refine ⟨by kernel_rfl,h,h,h,h,h2,h2,ha,ha,by omega,by omega,zaf (zeb _ p hp) ?_⟩
   simp (maxSteps:=5000000) -dsimp only [↓gp,gq,reduceCtorEq,reduceEqDiff,reduceLT,reduceLeDiff,reduceAdd,reduceMul,reduceSub,Nat.reduceBEq,Int.reduceToNat,Int.reduceLE,Int.reduceLT,Int.reduceNeg,reduceMod,zac,zad,zab,zaa,gT,TK.isInt,TK.agg,Array.toList,h0c,h1c,h2c,h3c,h11c,h12c,h13c,ht3.top,hr3,hq i h,hpl3,hr4,hq a ha,hpj3,hw3,hw4]
   refine ⟨h2,by omega,by kernel_rfl,zah (t + 1) ⟨(by (first | (simp (maxSteps:=5000000) -dsimp only [gr,reduceEqDiff,reduceLT,reduceAdd,reduceMod,Nat.reduceBEq,zaa,zac,zad,zab,h0c,h1c,h2c,h3c,h11c,h12c,h13c,zae h2 (by omega)];first | done | rfl | (simp;done)) | assumption | rfl)),(by (first | (simp (maxSteps:=5000000) -dsimp only [gr,reduceEqDiff,reduceLT,reduceAdd,reduceMod,Nat.reduceBEq,zaa,zac,zad,zab,h0c,h1c,h2c,h3c,h11c,h12c,h13c,zae h2 (by omega)];first | done | rfl | (simp;done)) | assumption | rfl)),(by (first | (simp (maxSteps:=5000000) -dsimp only [gr,reduceEqDiff,reduceLT,reduceAdd,reduceMod,Nat.reduceBEq,zaa,zac,zad,zab,h0c,h1c,h2c,h3c,h11c,h12c,h13c,zae h2 (by omega)];first | done | rfl | (simp;done)) | assumption | rfl)),(by (first | (simp (maxSteps:=5000000) -dsimp only [gr,reduceEqDiff,reduceLT,reduceAdd,reduceMod,Nat.reduceBEq,zaa,zac,zad,zab,h0c,h1c,h2c,h3c,h11c,h12c,h13c,zae h2 (by omega)];first | done | rfl | (simp;done)) | assumption | rfl)),(by (first | (simp (maxSteps:=5000000) -dsimp only [gr,reduceEqDiff,reduceLT,reduceAdd,reduceMod,Nat.reduceBEq,zaa,zac,zad,zab,h0c,h1c,h2c,h3c,h11c,h12c,h13c,zae h2 (by omega)];first | done | rfl | (simp;done)) | assumption | rfl)),(by (first | (simp (maxSteps:=5000000) -dsimp only [gr,reduceEqDiff,reduceLT,reduceAdd,reduceMod,Nat.reduceBEq,zaa,zac,zad,zab,h0c,h1c,h2c,h3c,h11c,h12c,h13c,zae h2 (by omega)];first | done | rfl | (simp;done)) | assumption | rfl)),(by (first | (simp (maxSteps:=5000000) -dsimp only [gr,reduceEqDiff,reduceLT,reduceAdd,reduceMod,Nat.reduceBEq,zaa,zac,zad,zab,h0c,h1c,h2c,h3c,h11c,h12c,h13c,zae h2 (by omega)];first | done | rfl | (simp;done)) | assumption | rfl)),⟨by omega,?_⟩⟩ (by first | omega | (simp only;omega) | (dsimp only;omega) | (show _ < _;simp;omega))⟩
   have e:(zl6 p a c M1 i).set i (prt (zmP p a c M1 i) old2 (t + 1)) = ((zl6 p a c M1 i).set i (prt (zmP p a c M1 i) old2 t)).set i ((prt (zmP p a c M1 i) old2 t).set t ((old2.getD t 0 - f * piv.getD t 0) % p)):=by
    rw [zyw,← zyv hnew h2,← zd3 p f (piv:=piv) h2,hcI]
   rw [e]
   refine ht3.set (by omega) (by simp (maxSteps:=5000000) -dsimp only [gr,reduceEqDiff,reduceLT,reduceAdd,reduceMod,Nat.reduceBEq,zaa,zac,zad,zab,h0c,h1c,h2c,h3c,h11c,h12c,h13c]) ?_ (fun x hx=>?_)
   ·rw [hq i h];simp (maxSteps:=5000000) -dsimp only [gr,reduceEqDiff,reduceLT,reduceAdd,reduceMod,Nat.reduceBEq,zaa,zac,zad,zab,h0c,h1c,h2c,h3c,h11c,h12c,h13c]
   ·rw [hq i h] at hx
    simp (maxSteps:=5000000) -dsimp only [gr,reduceEqDiff,reduceLT,reduceAdd,reduceMod,Nat.reduceBEq,zaa,zac,zad,zab,h0c,h1c,h2c,h3c,h11c,h12c,h13c,hx]
  ·have hia:i = a:=by
    have h9:(i:Int) = a:=by simpa using heq
    omega
   have hcI:zmP p a c M1 i = old2:=by unfold zmP;rw [if_pos hia,hold2]
   have ht4:=ht3
   rw [hcI,zAY,← hcI,zpJ p a c hi1] at ht4
   exact zah (i + 1) (by refine ⟨?_,?_,?_,?_,?_,⟨by omega,ht4.same (by simp (maxSteps:=5000000) -dsimp only [gr,reduceEqDiff,reduceLT,reduceAdd,reduceMod,Nat.reduceBEq,zaa,zac,zad,zab]) (fun x=>by simp (maxSteps:=5000000) -dsimp only [gr,reduceEqDiff,reduceLT,reduceAdd,reduceMod,Nat.reduceBEq,zaa,zac,zad,zab])⟩⟩ <;> (first | (simp (maxSteps:=5000000) -dsimp only [gr,reduceEqDiff,reduceLT,reduceAdd,reduceMod,Nat.reduceBEq,zaa,zac,zad,zab,h0b,h1b,h2b,h3b,h11b,h0c,h1c,h2c,h3c,h11c,h12c,h13c,zae h (by omega)];first | done | rfl | (simp;done)) | assumption | rfl)) (by first | omega | (simp only;omega) | (dsimp only;omega) | (show _ < _;simp;omega))
  ·have:t = old2.length:=by omega
   have ht4:=ht3
   rw [this,zyu hnew,zpJ p a c hi1] at ht4
   exact zah (i + 1) (by refine ⟨?_,?_,?_,?_,?_,⟨by omega,ht4.same (by simp (maxSteps:=5000000) -dsimp only [gr,reduceEqDiff,reduceLT,reduceAdd,reduceMod,Nat.reduceBEq,zaa,zac,zad,zab]) (fun x=>by simp (maxSteps:=5000000) -dsimp only [gr,reduceEqDiff,reduceLT,reduceAdd,reduceMod,Nat.reduceBEq,zaa,zac,zad,zab])⟩⟩ <;> (first | (simp (maxSteps:=5000000) -dsimp only [gr,reduceEqDiff,reduceLT,reduceAdd,reduceMod,Nat.reduceBEq,zaa,zac,zad,zab,h0b,h1b,h2b,h3b,h11b,h0c,h1c,h2c,h3c,h11c,h12c,h13c,zae h (by omega)];first | done | rfl | (simp;done)) | assumption | rfl)) (by first | omega | (simp only;omega) | (dsimp only;omega) | (show _ < _;simp;omega))
 ·have:i = M.length:=by omega
  rw [this] at ht2
  exact zyI (ht2.same (by simp (maxSteps:=5000000) -dsimp only [gr,reduceEqDiff,reduceLT,reduceAdd,reduceMod,Nat.reduceBEq,zaa,zac,zad,zab]) (fun x=>by simp (maxSteps:=5000000) -dsimp only [gr,reduceEqDiff,reduceLT,reduceAdd,reduceMod,Nat.reduceBEq,zaa,zac,zad,zab])) (List.Perm.refl _)
theorem zpX {M:Mat} {col a m:Nat} (h:a < m):zbj M col a (m - a) = if (M.getD a []).getD col 0 = 0 then zbj M col (a + 1) (m - (a + 1)) else a:=by
 have e:m - a = (m - (a + 1)) + 1:=by omega
 rw [e,zbj]
theorem zAX {p:Int} {M:Mat} {piv:List Nat} {col n:Nat} (h:col < n) (h2:piv.length < M.length):zjN p M piv col (n - col) = zjN p (zbM p M col piv).1 (zbM p M col piv).2 (col + 1) (n - (col + 1)):=by
 have e:n - col = (n - (col + 1)) + 1:=by omega
 rw [e,zjN,if_pos h2]
end Go.Proofs.YtjikeknpidbceaaGreat
