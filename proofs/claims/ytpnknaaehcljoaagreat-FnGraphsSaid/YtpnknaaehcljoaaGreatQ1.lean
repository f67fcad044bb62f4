/- DERIVED by an AI agent. -/
import Derived.Test.YtpnknaaehcljoaaGreatB1
import Derived.Test.YtpnknaaehcljoaaGreatP1
namespace Go.Proofs.YtpnknaaehcljoaaGreat
open Go.Abs
open Nat (reduceEqDiff reduceMod reduceAdd reduceLT reduceLeDiff reduceSub reduceMul)
set_option linter.unusedSimpArgs false
set_option linter.unusedVariables false
theorem zbo (a b c:Int):AC Tryz.prog 111 [int a,int b,int c] (.im (bool (decide (b ≤ a) && decide (a ≤ c)))):=by
 refine AC.go (rs:=[.tmp 6]) zbg zay Tryz.func111 rfl rfl rfl (by kernel_rfl) fun _=>?_
 simp (maxSteps:=5000000) -dsimp only [↓gp,gq,reduceCtorEq,reduceEqDiff,reduceLT,reduceLeDiff,reduceAdd,reduceMul,reduceSub,Nat.reduceBEq,Int.reduceToNat,Int.reduceLE,Int.reduceLT,Int.reduceNeg,reduceMod,zac,zad,zab,zaa,gT,TK.isInt,TK.agg,Array.toList]
 exact ⟨fun h=>by simp [h],fun h=>by simp [h]⟩
theorem zhQ (a b:Int):AC Tryz.prog 185 [int a,int b] (.im (int (max a b))):=by
 refine AC.go (rs:=[.tmp 4]) zbg zay Tryz.func185 rfl rfl rfl (by kernel_rfl) fun hl=>?_
 simp (maxSteps:=5000000) -dsimp only [↓gp,gq,reduceCtorEq,reduceEqDiff,reduceLT,reduceLeDiff,reduceAdd,reduceMul,reduceSub,Nat.reduceBEq,Int.reduceToNat,Int.reduceLE,Int.reduceLT,Int.reduceNeg,reduceMod,zac,zad,zab,zaa,gT,TK.isInt,TK.agg,Array.toList]
 exact ⟨fun h=>by omega,fun h=>by omega⟩
theorem zaP (n:Nat) (h:n < 9223372036854775808):AC Tryz.prog 100 [int n] (.im (int (zaD n:Nat))):=by
 refine AC.go (rs:=[.tmp 2]) zbg zay Tryz.func100 rfl rfl rfl (by kernel_rfl) fun hl=>?_
 simp (maxSteps:=5000000) -dsimp only [↓gp,gq,reduceCtorEq,reduceEqDiff,reduceLT,reduceLeDiff,reduceAdd,reduceMul,reduceSub,Nat.reduceBEq,Int.reduceToNat,Int.reduceLE,Int.reduceLT,Int.reduceNeg,reduceMod,zac,zad,zab,zaa,gT,TK.isInt,TK.agg,Array.toList]
 refine zaq (fun (x:Nat × Nat) s=>s.sl 0 = int x.1∧s.sl 3 = int x.2∧x.1 ≤ n∧x.2 + zaD x.1 = zaD n) (fun x=>x.1) (n,0) ⟨by simp (maxSteps:=5000000) -dsimp only [gr,reduceEqDiff,reduceLT,reduceAdd,reduceMod,Nat.reduceBEq,zaa,zac,zad,zab],by simp (maxSteps:=5000000) -dsimp only [gr,reduceEqDiff,reduceLT,reduceAdd,reduceMod,Nat.reduceBEq,zaa,zac,zad,zab];rfl,by simp,by simp⟩ ?_
 intro ⟨m,a⟩ s1 ⟨h0,h3,hm,hp⟩
 simp only at h0 h3 hm hp
 have hpl:=zDe n
 simp (maxSteps:=5000000) -dsimp only [↓gp,gq,reduceCtorEq,reduceEqDiff,reduceLT,reduceLeDiff,reduceAdd,reduceMul,reduceSub,Nat.reduceBEq,Int.reduceToNat,Int.reduceLE,Int.reduceLT,Int.reduceNeg,reduceMod,zac,zad,zab,zaa,gT,TK.isInt,TK.agg,Array.toList,h0,h3,zAt (show m < 9223372036854775808 by omega),zAu]
 refine ⟨fun h1=>?_,fun h1=>?_⟩
 ·have hm0:m ≠ 0:=by omega
  rw [znh hm0] at hp
  refine zag (m / 2,a + m % 2) ⟨by simp (maxSteps:=5000000) -dsimp only [gr,reduceEqDiff,reduceLT,reduceAdd,reduceMod,Nat.reduceBEq,zaa,zac,zad,zab],?_,by simp only;omega,by simp only;omega⟩ (by simp only;omega)
  simp (maxSteps:=5000000) -dsimp only [gr,reduceEqDiff,reduceLT,reduceAdd,reduceMod,Nat.reduceBEq,zaa,zac,zad,zab]
  rw [zat (by omega) (by omega)]
  rfl
 ·have:m = 0:=by omega
  subst this
  rw [zcC] at hp
  omega
theorem zcd {s:Int} (h0:0 ≤ s) (h:s < 9223372036854775808):AC Tryz.prog 100 [int s] (.im (int (zaD s.toNat:Nat))):=by
 obtain ⟨m,rfl⟩:=Int.eq_ofNat_of_zero_le h0
 exact zaP m (by omega)
theorem zgx (n:Nat) (h:n < 64):AC Tryz.prog 210 [u64 n] (.im (int (zaD n:Nat))):=by
 refine AC.go (rs:=[.tmp 2]) zbg zay Tryz.func210 rfl rfl rfl (by kernel_rfl) fun hl=>?_
 simp (maxSteps:=5000000) -dsimp only [↓gp,gq,reduceCtorEq,reduceEqDiff,reduceLT,reduceLeDiff,reduceAdd,reduceMul,reduceSub,Nat.reduceBEq,Int.reduceToNat,Int.reduceLE,Int.reduceLT,Int.reduceNeg,reduceMod,zac,zad,zab,zaa,gT,TK.isInt,TK.agg,Array.toList]
 rw [zmu h]
 clear hl
 obtain ⟨m,rfl⟩:∃ m:Fin 64,m.val = n:=⟨⟨n,h⟩,rfl⟩
 clear h
 revert m
 decide +kernel
theorem zip (n:Nat) (h:n < 64):AC Tryz.prog 176 [u64 n] (.im (int (zaD n:Nat))):=by
 refine AC.go (rs:=[.tmp 2]) zbg zay Tryz.func176 rfl rfl rfl (by kernel_rfl) fun hl=>?_
 simp (maxSteps:=5000000) -dsimp only [↓gp,gq,reduceCtorEq,reduceEqDiff,reduceLT,reduceLeDiff,reduceAdd,reduceMul,reduceSub,Nat.reduceBEq,Int.reduceToNat,Int.reduceLE,Int.reduceLT,Int.reduceNeg,reduceMod,zac,zad,zab,zaa,gT,TK.isInt,TK.agg,Array.toList]
 refine zaf (zgx n h) ?_
 simp (maxSteps:=5000000) -dsimp only [↓gp,gq,reduceCtorEq,reduceEqDiff,reduceLT,reduceLeDiff,reduceAdd,reduceMul,reduceSub,Nat.reduceBEq,Int.reduceToNat,Int.reduceLE,Int.reduceLT,Int.reduceNeg,reduceMod,zac,zad,zab,zaa,gT,TK.isInt,TK.agg,Array.toList]
theorem zb4 (n s:Int):AC Tryz.prog 117 [int n,int s] (.im (bool (zch n s))):=by
 refine AC.go (rs:=[.tmp 4]) zbg zay Tryz.func117 rfl rfl rfl (by kernel_rfl) fun hl=>?_
 simp (maxSteps:=5000000) -dsimp only [↓gp,gq,reduceCtorEq,reduceEqDiff,reduceLT,reduceLeDiff,reduceAdd,reduceMul,reduceSub,Nat.reduceBEq,Int.reduceToNat,Int.reduceLE,Int.reduceLT,Int.reduceNeg,reduceMod,zac,zad,zab,zaa,gT,TK.isInt,TK.agg,Array.toList,zch]
 refine ⟨fun h0=>⟨fun h6=>⟨fun hs=>?_,fun hs=>by omega⟩,fun h6=>by omega⟩,fun h0=>by omega⟩
 obtain ⟨m,rfl⟩:=Int.eq_ofNat_of_zero_le h0
 rw [zks (by omega),zaJ (by omega),zdZ]
 exact ⟨by omega,by simp only [h0,h6,hs,true_and]⟩
theorem zeS (n s:Int):AC Tryz.prog 119 [int n,int s] (.im (bool (zch n s))):=by
 refine AC.go (rs:=[.tmp 4]) zbg zay Tryz.func119 rfl rfl rfl (by kernel_rfl) fun hl=>?_
 simp (maxSteps:=5000000) -dsimp only [↓gp,gq,reduceCtorEq,reduceEqDiff,reduceLT,reduceLeDiff,reduceAdd,reduceMul,reduceSub,Nat.reduceBEq,Int.reduceToNat,Int.reduceLE,Int.reduceLT,Int.reduceNeg,reduceMod,zac,zad,zab,zaa,gT,TK.isInt,TK.agg,Array.toList]
 refine zaf (zbo _ _ _) ?_
 simp (maxSteps:=5000000) -dsimp only [↓gp,gq,reduceCtorEq,reduceEqDiff,reduceLT,reduceLeDiff,reduceAdd,reduceMul,reduceSub,Nat.reduceBEq,Int.reduceToNat,Int.reduceLE,Int.reduceLT,Int.reduceNeg,reduceMod,zac,zad,zab,zaa,gT,TK.isInt,TK.agg,Array.toList]
 refine ⟨fun h=>?_,fun h=>?_⟩
 ·simp only [Bool.and_eq_true,decide_eq_true_eq] at h
  obtain ⟨h0,h6⟩:=h
  obtain ⟨m,rfl⟩:=Int.eq_ofNat_of_zero_le h0
  have hp:=zam (m:=m) (by omega)
  have e:zch (m:Int) s = decide (0 ≤ s∧s < ((2 ^ m:Nat):Int)):=by
   rw [zch,zdZ]
   simp only [h0,h6,true_and]
  rw [e,zks (by omega),zaJ (by omega)]
  generalize (2 ^ m:Nat) = q at hp
  rw [zat (by omega) (by omega)]
  refine ⟨by omega,zaf (zbo _ _ _) ?_⟩
  simp (maxSteps:=5000000) -dsimp only [↓gp,gq,reduceCtorEq,reduceEqDiff,reduceLT,reduceLeDiff,reduceAdd,reduceMul,reduceSub,Nat.reduceBEq,Int.reduceToNat,Int.reduceLE,Int.reduceLT,Int.reduceNeg,reduceMod,zac,zad,zab,zaa,gT,TK.isInt,TK.agg,Array.toList]
  rw [← Bool.decide_and]
  exact decide_eq_decide.2 (by omega)
 ·refine decide_eq_false fun hh=>?_
  simp [hh.1,hh.2.1] at h
def zhR (s:Int):Int:=if 0 ≤ s∧s < 64 then (zaD s.toNat:Nat) else -1
theorem zmM (s:Int):zch 6 s = decide (0 ≤ s∧s < 64):=by
 simp [zch]
theorem zbb (s:Int):AC Tryz.prog 97 [int s] (.im (int (zhR s))):=by
 refine AC.go (rs:=[.tmp 2]) zbg zay Tryz.func97 rfl rfl rfl (by kernel_rfl) fun hl=>?_
 simp (maxSteps:=5000000) -dsimp only [↓gp,gq,reduceCtorEq,reduceEqDiff,reduceLT,reduceLeDiff,reduceAdd,reduceMul,reduceSub,Nat.reduceBEq,Int.reduceToNat,Int.reduceLE,Int.reduceLT,Int.reduceNeg,reduceMod,zac,zad,zab,zaa,gT,TK.isInt,TK.agg,Array.toList]
 refine zaf (zb4 _ _) ?_
 simp (maxSteps:=5000000) -dsimp only [↓gp,gq,reduceCtorEq,reduceEqDiff,reduceLT,reduceLeDiff,reduceAdd,reduceMul,reduceSub,Nat.reduceBEq,Int.reduceToNat,Int.reduceLE,Int.reduceLT,Int.reduceNeg,reduceMod,zac,zad,zab,zaa,gT,TK.isInt,TK.agg,Array.toList,zmM]
 refine ⟨fun h=>?_,fun h=>?_⟩
 ·have h:¬ (0 ≤ s∧s < 64):=by simp at h;omega
  rw [zhR,if_neg h]
 ·have h:0 ≤ s∧s < 64:=by simpa using h
  obtain ⟨m,rfl⟩:=Int.eq_ofNat_of_zero_le h.1
  rw [zks (by omega)]
  refine zaf (zip m (by omega)) ?_
  simp (maxSteps:=5000000) -dsimp only [↓gp,gq,reduceCtorEq,reduceEqDiff,reduceLT,reduceLeDiff,reduceAdd,reduceMul,reduceSub,Nat.reduceBEq,Int.reduceToNat,Int.reduceLE,Int.reduceLT,Int.reduceNeg,reduceMod,zac,zad,zab,zaa,gT,TK.isInt,TK.agg,Array.toList]
  rw [zhR,if_pos h];rfl
def zk0 (a b:Int):Bool:=decide (0 ≤ a∧a < 64) && (decide (0 ≤ b∧b < 64) && (if zhR a = zhR b then decide (a < b) else decide (zhR a < zhR b)))
theorem zeC (a b:Int):AC Tryz.prog 118 [int a,int b] (.im (bool (zk0 a b))):=by
 refine AC.go (rs:=[.tmp 4]) zbg zay Tryz.func118 rfl rfl rfl (by kernel_rfl) fun hl=>?_
 simp (maxSteps:=5000000) -dsimp only [↓gp,gq,reduceCtorEq,reduceEqDiff,reduceLT,reduceLeDiff,reduceAdd,reduceMul,reduceSub,Nat.reduceBEq,Int.reduceToNat,Int.reduceLE,Int.reduceLT,Int.reduceNeg,reduceMod,zac,zad,zab,zaa,gT,TK.isInt,TK.agg,Array.toList]
 refine zaf (zb4 _ _) ?_
 simp (maxSteps:=5000000) -dsimp only [↓gp,gq,reduceCtorEq,reduceEqDiff,reduceLT,reduceLeDiff,reduceAdd,reduceMul,reduceSub,Nat.reduceBEq,Int.reduceToNat,Int.reduceLE,Int.reduceLT,Int.reduceNeg,reduceMod,zac,zad,zab,zaa,gT,TK.isInt,TK.agg,Array.toList,zmM]
 unfold zk0
 refine ⟨fun h=>zaf (zb4 _ _) ?_,fun h=>?_⟩
 ·have ha:decide (0 ≤ a∧a < 64) = true:=by simpa using h
  simp (maxSteps:=5000000) -dsimp only [↓gp,gq,reduceCtorEq,reduceEqDiff,reduceLT,reduceLeDiff,reduceAdd,reduceMul,reduceSub,Nat.reduceBEq,Int.reduceToNat,Int.reduceLE,Int.reduceLT,Int.reduceNeg,reduceMod,zac,zad,zab,zaa,gT,TK.isInt,TK.agg,Array.toList,zmM]
  rw [ha]
  refine ⟨fun hb=>?_,fun hb=>?_⟩
  ·have hb:decide (0 ≤ b∧b < 64) = false:=by rwa [Bool.not_eq_true'] at hb
   rw [hb];rfl
  ·have hb:decide (0 ≤ b∧b < 64) = true:=by simpa using hb
   rw [hb]
   refine zaf (zbb a) ?_
   simp (maxSteps:=5000000) -dsimp only [↓gp,gq,reduceCtorEq,reduceEqDiff,reduceLT,reduceLeDiff,reduceAdd,reduceMul,reduceSub,Nat.reduceBEq,Int.reduceToNat,Int.reduceLE,Int.reduceLT,Int.reduceNeg,reduceMod,zac,zad,zab,zaa,gT,TK.isInt,TK.agg,Array.toList]
   refine zaf (zbb b) ?_
   simp (maxSteps:=5000000) -dsimp only [↓gp,gq,reduceCtorEq,reduceEqDiff,reduceLT,reduceLeDiff,reduceAdd,reduceMul,reduceSub,Nat.reduceBEq,Int.reduceToNat,Int.reduceLE,Int.reduceLT,Int.reduceNeg,reduceMod,zac,zad,zab,zaa,gT,TK.isInt,TK.agg,Array.toList]
   refine ⟨fun hs=>zaf (zbb a) ?_,fun hs=>?_⟩
   ·simp (maxSteps:=5000000) -dsimp only [↓gp,gq,reduceCtorEq,reduceEqDiff,reduceLT,reduceLeDiff,reduceAdd,reduceMul,reduceSub,Nat.reduceBEq,Int.reduceToNat,Int.reduceLE,Int.reduceLT,Int.reduceNeg,reduceMod,zac,zad,zab,zaa,gT,TK.isInt,TK.agg,Array.toList]
    refine zaf (zbb b) ?_
    simp (maxSteps:=5000000) -dsimp only [↓gp,gq,reduceCtorEq,reduceEqDiff,reduceLT,reduceLeDiff,reduceAdd,reduceMul,reduceSub,Nat.reduceBEq,Int.reduceToNat,Int.reduceLE,Int.reduceLT,Int.reduceNeg,reduceMod,zac,zad,zab,zaa,gT,TK.isInt,TK.agg,Array.toList]
    have hs:¬ zhR a = zhR b:=by simpa using hs
    rw [if_neg hs]
   ·have hs:zhR a = zhR b:=by simpa using hs
    rw [if_pos hs]
 ·have ha:decide (0 ≤ a∧a < 64) = false:=by rwa [Bool.not_eq_true'] at h
  rw [ha];rfl
def zCK (n:Int) (xs:List Int) (k:Nat):Prop:=zch n (xs.getD k 0) = true∧zaD (xs.getD k 0).toNat = 2∧(0 < k→xs.getD (k - 1) 0 < xs.getD k 0)
def zhP (n:Int) (xs:List Int):Prop:=1 ≤ n∧n ≤ 6∧∀ k,k < xs.length→zCK n xs k
open Classical in
noncomputable def zap (n:Int) (xs:List Int):Bool:=decide (zhP n xs)
open Classical in
theorem zbV {n:Int} {xs:List Int} (h:¬ zhP n xs):zap n xs = false:=decide_eq_false h
open Classical in
theorem zdk {n:Int} {xs:List Int} (h:zhP n xs):zap n xs = true:=decide_eq_true h
theorem zbn (n:Int) (xs:List Int):AC Tryz.prog 38 [.ag [int n,zbj xs]] (.im (bool (zap n xs))):=by
 refine AC.go (rs:=[.tmp 2]) zbg zay Tryz.func38 rfl rfl rfl (by kernel_rfl) fun hl=>?_
 simp only [zbk,zbD,and_true,zcf,zdW,zcO,true_and] at hl
 simp (maxSteps:=5000000) -dsimp only [↓gp,gq,reduceCtorEq,reduceEqDiff,reduceLT,reduceLeDiff,reduceAdd,reduceMul,reduceSub,Nat.reduceBEq,Int.reduceToNat,Int.reduceLE,Int.reduceLT,Int.reduceNeg,reduceMod,zac,zad,zab,zaa,gT,TK.isInt,TK.agg,Array.toList]
 refine zaq (fun (k:Nat) s=>s.sl 1 = .ref 1 1 0∧s.rw 1 = ⟨1,.box 36 [int n,zbj xs]⟩∧s.sl 3 = int k∧k ≤ xs.length∧∀ i,i < k→zCK n xs i) (fun k=>xs.length - k) 0 ⟨by simp (maxSteps:=5000000) -dsimp only [gr,reduceEqDiff,reduceLT,reduceAdd,reduceMod,Nat.reduceBEq,zaa,zac,zad,zab],by simp (maxSteps:=5000000) -dsimp only [gr,reduceEqDiff,reduceLT,reduceAdd,reduceMod,Nat.reduceBEq,zaa,zac,zad,zab],by simp (maxSteps:=5000000) -dsimp only [gr,reduceEqDiff,reduceLT,reduceAdd,reduceMod,Nat.reduceBEq,zaa,zac,zad,zab];rfl,by simp,by simp⟩ ?_
 intro k s1 ⟨h1,r1,h3,hk,hall⟩
 have hw:IntKind.i64.wrap ((k:Int) - 1) = (k:Int) - 1:=zat (by omega) (by omega)
 simp (maxSteps:=5000000) -dsimp only [↓gp,gq,reduceCtorEq,reduceEqDiff,reduceLT,reduceLeDiff,reduceAdd,reduceMul,reduceSub,Nat.reduceBEq,Int.reduceToNat,Int.reduceLE,Int.reduceLT,Int.reduceNeg,reduceMod,zac,zad,zab,zaa,gT,TK.isInt,TK.agg,Array.toList,h1,r1,h3,hw,za9]
 refine ⟨fun h=>⟨by kernel_rfl,h,h,zaf (zeS _ _) ?_⟩,fun h=>zaf (zbo _ _ _) ?_⟩
 ·simp (maxSteps:=5000000) -dsimp only [↓gp,gq,reduceCtorEq,reduceEqDiff,reduceLT,reduceLeDiff,reduceAdd,reduceMul,reduceSub,Nat.reduceBEq,Int.reduceToNat,Int.reduceLE,Int.reduceLT,Int.reduceNeg,reduceMod,zac,zad,zab,zaa,gT,TK.isInt,TK.agg,Array.toList,h1,r1,h3,hw,za9]
  refine ⟨fun hs=>⟨h,h,?_⟩,fun hs=>?_⟩
  ·have hs:zch n (xs.getD k 0) = true:=by rwa [Bool.not_eq_false'] at hs
   have hb:=zcm hs
   refine zaf (zcd hb.1 (by omega)) ?_
   simp (maxSteps:=5000000) -dsimp only [↓gp,gq,reduceCtorEq,reduceEqDiff,reduceLT,reduceLeDiff,reduceAdd,reduceMul,reduceSub,Nat.reduceBEq,Int.reduceToNat,Int.reduceLE,Int.reduceLT,Int.reduceNeg,reduceMod,zac,zad,zab,zaa,gT,TK.isInt,TK.agg,Array.toList,h1,r1,h3,hw,za9]
   refine ⟨fun hq=>?_,fun hq=>?_⟩
   ·have hq2:zaD (xs.getD k 0).toNat = 2:=by
     have:=hq
     simp only [bne_eq_false_iff_eq] at this
     omega
    refine ⟨fun h0=>⟨h,h,by omega,by omega,by omega,fun hle=>?_,fun hle=>?_⟩,fun h0=>?_⟩
    ·exact zbV fun hg=>by have:=(hg.2.2 k h).2.2 (by omega);omega
    ·refine zag (k + 1) ⟨by simp (maxSteps:=5000000) -dsimp only [gr,reduceEqDiff,reduceLT,reduceAdd,reduceMod,Nat.reduceBEq,zaa,zac,zad,zab,h1],by simp (maxSteps:=5000000) -dsimp only [gr,reduceEqDiff,reduceLT,reduceAdd,reduceMod,Nat.reduceBEq,zaa,zac,zad,zab,r1],by simp (maxSteps:=5000000) -dsimp only [gr,reduceEqDiff,reduceLT,reduceAdd,reduceMod,Nat.reduceBEq,zaa,zac,zad,zab];rw [zae h hl],h,fun j hj=>?_⟩ (by omega)
     rcases Nat.lt_succ_iff_lt_or_eq.1 hj with hj | rfl
     ·exact hall j hj
     ·exact ⟨hs,hq2,fun _=>by omega⟩
    ·refine zag (k + 1) ⟨by simp (maxSteps:=5000000) -dsimp only [gr,reduceEqDiff,reduceLT,reduceAdd,reduceMod,Nat.reduceBEq,zaa,zac,zad,zab,h1],by simp (maxSteps:=5000000) -dsimp only [gr,reduceEqDiff,reduceLT,reduceAdd,reduceMod,Nat.reduceBEq,zaa,zac,zad,zab,r1],by simp (maxSteps:=5000000) -dsimp only [gr,reduceEqDiff,reduceLT,reduceAdd,reduceMod,Nat.reduceBEq,zaa,zac,zad,zab];rw [zae h hl],h,fun j hj=>?_⟩ (by omega)
     rcases Nat.lt_succ_iff_lt_or_eq.1 hj with hj | rfl
     ·exact hall j hj
     ·exact ⟨hs,hq2,fun _=>by omega⟩
   ·refine zbV fun hg=>?_
    have:=(hg.2.2 k h).2.1
    rw [this] at hq
    simp at hq
  ·have hs:zch n (xs.getD k 0) = false:=by rwa [Bool.not_eq_true'] at hs
   exact zbV fun hg=>by have:=(hg.2.2 k h).1;rw [hs] at this;cases this
 ·simp (maxSteps:=5000000) -dsimp only [↓gp,gq,reduceCtorEq,reduceEqDiff,reduceLT,reduceLeDiff,reduceAdd,reduceMul,reduceSub,Nat.reduceBEq,Int.reduceToNat,Int.reduceLE,Int.reduceLT,Int.reduceNeg,reduceMod,zac,zad,zab,zaa,gT,TK.isInt,TK.agg,Array.toList,h1,r1,h3,hw,za9]
  by_cases hn:1 ≤ n∧n ≤ 6
  ·rw [zdk ⟨hn.1,hn.2,fun k hk=>hall k (by omega)⟩]
   simp [hn.1,hn.2]
  ·rw [zbV fun hg=>hn ⟨hg.1,hg.2.1⟩]
   symm
   rw [Bool.and_eq_false_iff,decide_eq_false_iff_not,decide_eq_false_iff_not]
   omega
theorem zbC (n:Int) (xs:List Int):AC Tryz.prog 37 [.ag [int n,zbj xs]] (.im (bool (zap n xs))):=by
 refine AC.go (rs:=[.tmp 2]) zbg zay Tryz.func37 rfl rfl rfl (by kernel_rfl) fun hl=>?_
 simp only [zbk,zbD,and_true,zcf,zdW,zcO,true_and] at hl
 simp (maxSteps:=5000000) -dsimp only [↓gp,gq,reduceCtorEq,reduceEqDiff,reduceLT,reduceLeDiff,reduceAdd,reduceMul,reduceSub,Nat.reduceBEq,Int.reduceToNat,Int.reduceLE,Int.reduceLT,Int.reduceNeg,reduceMod,zac,zad,zab,zaa,gT,TK.isInt,TK.agg,Array.toList]
 refine ⟨fun hn=>⟨fun h6=>zbV fun hg=>by have:=hg.2.1;omega,fun h6=>?_⟩,fun hn=>zbV fun hg=>by have:=hg.1;omega⟩
 refine zaq (fun (k:Nat) s=>s.sl 1 = .ref 1 1 0∧s.rw 1 = ⟨1,.box 36 [int n,zbj xs]⟩∧s.sl 14 = zbj xs∧s.sl 15 = int xs.length∧s.sl 16 = int k∧k ≤ xs.length∧∀ i,i < k→zCK n xs i) (fun k=>xs.length - k) 0 ⟨by simp (maxSteps:=5000000) -dsimp only [gr,reduceEqDiff,reduceLT,reduceAdd,reduceMod,Nat.reduceBEq,zaa,zac,zad,zab],by simp (maxSteps:=5000000) -dsimp only [gr,reduceEqDiff,reduceLT,reduceAdd,reduceMod,Nat.reduceBEq,zaa,zac,zad,zab],by simp (maxSteps:=5000000) -dsimp only [gr,reduceEqDiff,reduceLT,reduceAdd,reduceMod,Nat.reduceBEq,zaa,zac,zad,zab],by simp (maxSteps:=5000000) -dsimp only [gr,reduceEqDiff,reduceLT,reduceAdd,reduceMod,Nat.reduceBEq,zaa,zac,zad,zab],by simp (maxSteps:=5000000) -dsimp only [gr,reduceEqDiff,reduceLT,reduceAdd,reduceMod,Nat.reduceBEq,zaa,zac,zad,zab];rfl,by simp,by simp⟩ ?_
 intro k s1 ⟨h1,r1,h14,h15,h16,hk,hall⟩
 have hw:IntKind.i64.wrap ((k:Int) - 1) = (k:Int) - 1:=zat (by omega) (by omega)
 simp (maxSteps:=5000000) -dsimp only [↓gp,gq,reduceCtorEq,reduceEqDiff,reduceLT,reduceLeDiff,reduceAdd,reduceMul,reduceSub,Nat.reduceBEq,Int.reduceToNat,Int.reduceLE,Int.reduceLT,Int.reduceNeg,reduceMod,zac,zad,zab,zaa,gT,TK.isInt,TK.agg,Array.toList,h1,r1,h14,h15,h16,hw,za9]
 refine ⟨fun h=>⟨h,h,zaf (zb4 _ _) ?_⟩,fun h=>zdk ⟨by omega,by omega,fun j hj=>hall j (by omega)⟩⟩
 simp (maxSteps:=5000000) -dsimp only [↓gp,gq,reduceCtorEq,reduceEqDiff,reduceLT,reduceLeDiff,reduceAdd,reduceMul,reduceSub,Nat.reduceBEq,Int.reduceToNat,Int.reduceLE,Int.reduceLT,Int.reduceNeg,reduceMod,zac,zad,zab,zaa,gT,TK.isInt,TK.agg,Array.toList,h1,r1,h14,h15,h16,hw,za9]
 refine ⟨fun hs=>zaf (zbb _) ?_,fun hs=>?_⟩
 ·have hs:zch n (xs.getD k 0) = true:=by rwa [Bool.not_eq_false'] at hs
  have hb:=zcm hs
  simp (maxSteps:=5000000) -dsimp only [↓gp,gq,reduceCtorEq,reduceEqDiff,reduceLT,reduceLeDiff,reduceAdd,reduceMul,reduceSub,Nat.reduceBEq,Int.reduceToNat,Int.reduceLE,Int.reduceLT,Int.reduceNeg,reduceMod,zac,zad,zab,zaa,gT,TK.isInt,TK.agg,Array.toList,h1,r1,h14,h15,h16,hw,za9]
  have hz:zhR (xs.getD k 0) = (zaD (xs.getD k 0).toNat:Nat):=by rw [zhR,if_pos hb]
  rw [hz]
  refine ⟨fun hq=>?_,fun hq=>?_⟩
  ·refine zbV fun hg=>?_
   have:=(hg.2.2 k h).2.1
   rw [this] at hq
   simp at hq
  ·have hq2:zaD (xs.getD k 0).toNat = 2:=by
    have:=hq
    simp only [bne_eq_false_iff_eq] at this
    omega
   refine ⟨fun h0=>⟨by omega,by omega,by omega,zaf (zeC _ _) ?_⟩,fun h0=>?_⟩
   ·have hp:=hall (k - 1) (by omega)
    have hb':=zcm hp.1
    have e:zk0 (xs.getD (k - 1) 0) (xs.getD k 0) = decide (xs.getD (k - 1) 0 < xs.getD k 0):=by
     unfold zk0
     rw [decide_eq_true hb',decide_eq_true hb,if_pos (by rw [zhR,zhR,if_pos hb',if_pos hb,hp.2.1,hq2])]
     rfl
    simp (maxSteps:=5000000) -dsimp only [↓gp,gq,reduceCtorEq,reduceEqDiff,reduceLT,reduceLeDiff,reduceAdd,reduceMul,reduceSub,Nat.reduceBEq,Int.reduceToNat,Int.reduceLE,Int.reduceLT,Int.reduceNeg,reduceMod,zac,zad,zab,zaa,gT,TK.isInt,TK.agg,Array.toList,h1,r1,h14,h15,h16,hw,za9,e]
    refine ⟨fun hlt=>?_,fun hlt=>?_⟩
    ·have hlt:¬ xs.getD (k - 1) 0 < xs.getD k 0:=by simpa using hlt
     exact zbV fun hg=>hlt ((hg.2.2 k h).2.2 (by omega))
    ·have hlt:xs.getD (k - 1) 0 < xs.getD k 0:=by
      rw [Bool.not_eq_false'] at hlt
      exact of_decide_eq_true hlt
     refine zag (k + 1) ⟨by simp (maxSteps:=5000000) -dsimp only [gr,reduceEqDiff,reduceLT,reduceAdd,reduceMod,Nat.reduceBEq,zaa,zac,zad,zab,h1],by simp (maxSteps:=5000000) -dsimp only [gr,reduceEqDiff,reduceLT,reduceAdd,reduceMod,Nat.reduceBEq,zaa,zac,zad,zab,r1],by simp (maxSteps:=5000000) -dsimp only [gr,reduceEqDiff,reduceLT,reduceAdd,reduceMod,Nat.reduceBEq,zaa,zac,zad,zab,h14],by simp (maxSteps:=5000000) -dsimp only [gr,reduceEqDiff,reduceLT,reduceAdd,reduceMod,Nat.reduceBEq,zaa,zac,zad,zab,h15],by simp (maxSteps:=5000000) -dsimp only [gr,reduceEqDiff,reduceLT,reduceAdd,reduceMod,Nat.reduceBEq,zaa,zac,zad,zab];rw [zae h hl],h,fun j hj=>?_⟩ (by omega)
     rcases Nat.lt_succ_iff_lt_or_eq.1 hj with hj | rfl
     ·exact hall j hj
     ·exact ⟨hs,hq2,fun _=>hlt⟩
   ·refine zag (k + 1) ⟨by simp (maxSteps:=5000000) -dsimp only [gr,reduceEqDiff,reduceLT,reduceAdd,reduceMod,Nat.reduceBEq,zaa,zac,zad,zab,h1],by simp (maxSteps:=5000000) -dsimp only [gr,reduceEqDiff,reduceLT,reduceAdd,reduceMod,Nat.reduceBEq,zaa,zac,zad,zab,r1],by simp (maxSteps:=5000000) -dsimp only [gr,reduceEqDiff,reduceLT,reduceAdd,reduceMod,Nat.reduceBEq,zaa,zac,zad,zab,h14],by simp (maxSteps:=5000000) -dsimp only [gr,reduceEqDiff,reduceLT,reduceAdd,reduceMod,Nat.reduceBEq,zaa,zac,zad,zab,h15],by simp (maxSteps:=5000000) -dsimp only [gr,reduceEqDiff,reduceLT,reduceAdd,reduceMod,Nat.reduceBEq,zaa,zac,zad,zab];rw [zae h hl],h,fun j hj=>?_⟩ (by omega)
    rcases Nat.lt_succ_iff_lt_or_eq.1 hj with hj | rfl
    ·exact hall j hj
    ·exact ⟨hs,hq2,fun _=>by omega⟩
 ·have hs:zch n (xs.getD k 0) = false:=by rwa [Bool.not_eq_true'] at hs
  exact zbV fun hg=>by have:=(hg.2.2 k h).1;rw [hs] at this;cases this
theorem zhO (xs:List Int) (n:Int):AC Tryz.prog 101 [zbj xs,int n] (.im (bool (decide (n ∈ xs)))):=by
 refine AC.go (rs:=[.tmp 4]) zbg zay Tryz.func101 rfl rfl rfl (by kernel_rfl) fun hl=>?_
 simp only [zbk,zbD,and_true,zc5,zeh] at hl
 simp (maxSteps:=5000000) -dsimp only [↓gp,gq,reduceCtorEq,reduceEqDiff,reduceLT,reduceLeDiff,reduceAdd,reduceMul,reduceSub,Nat.reduceBEq,Int.reduceToNat,Int.reduceLE,Int.reduceLT,Int.reduceNeg,reduceMod,zac,zad,zab,zaa,gT,TK.isInt,TK.agg,Array.toList]
 refine zaq (fun (k:Nat) s=>s.sl 0 = zbj xs∧s.sl 1 = int n∧s.sl 5 = int k∧(k ≤ xs.length∧∀ i,i < k→xs.getD i 0 ≠ n)) (fun k=>xs.length - k) (0) (by refine ⟨?_,?_,?_,by simp⟩ <;> (first | (simp (maxSteps:=5000000) -dsimp only [gr,reduceEqDiff,reduceLT,reduceAdd,reduceMod,Nat.reduceBEq,zaa,zac,zad,zab];first | done | rfl | (simp;done)) | assumption | rfl)) ?_
 intro k sa ⟨h0a,h1a,h5a,hIa⟩
 obtain ⟨hk,hall⟩:=hIa
 simp (maxSteps:=5000000) -dsimp only [↓gp,gq,reduceCtorEq,reduceEqDiff,reduceLT,reduceLeDiff,reduceAdd,reduceMul,reduceSub,Nat.reduceBEq,Int.reduceToNat,Int.reduceLE,Int.reduceLT,Int.reduceNeg,reduceMod,zac,zad,zab,zaa,gT,TK.isInt,TK.agg,Array.toList,h0a,h1a,h5a]
 refine ⟨fun h=>⟨h,h,fun he=>?_,fun he=>zag (k + 1) ⟨(by (first | (simp (maxSteps:=5000000) -dsimp only [gr,reduceEqDiff,reduceLT,reduceAdd,reduceMod,Nat.reduceBEq,zaa,zac,zad,zab,h0a,h1a,h5a,zae h hl];first | done | rfl | (simp;done)) | assumption | rfl)),(by (first | (simp (maxSteps:=5000000) -dsimp only [gr,reduceEqDiff,reduceLT,reduceAdd,reduceMod,Nat.reduceBEq,zaa,zac,zad,zab,h0a,h1a,h5a,zae h hl];first | done | rfl | (simp;done)) | assumption | rfl)),(by (first | (simp (maxSteps:=5000000) -dsimp only [gr,reduceEqDiff,reduceLT,reduceAdd,reduceMod,Nat.reduceBEq,zaa,zac,zad,zab,h0a,h1a,h5a,zae h hl];first | done | rfl | (simp;done)) | assumption | rfl)),⟨by omega,fun i hi=>?_⟩⟩ (by first | omega | (simp only;omega) | (dsimp only;omega) | (show _ < _;simp;omega))⟩,fun h=>?_⟩
 ·have he:xs.getD k 0 = n:=by simpa using he
  rw [← he]
  exact zax 0 h
 ·rcases Nat.lt_succ_iff_lt_or_eq.1 hi with hi | rfl
  ·exact hall i hi
  ·simpa using he
 ·intro hm
  obtain ⟨i,hi,he⟩:=zbB 0 hm
  exact hall i (by omega) he
theorem zjf {a b:Int} (ha:0 ≤ a∧a < 64) (hb:0 ≤ b∧b < 64):AC Tryz.prog 181 [int a,int b] (.im (bool (zk0 a b))):=by
 refine AC.go (rs:=[.tmp 4]) zbg zay Tryz.func181 rfl rfl rfl (by kernel_rfl) fun hl=>?_
 simp (maxSteps:=5000000) -dsimp only [↓gp,gq,reduceCtorEq,reduceEqDiff,reduceLT,reduceLeDiff,reduceAdd,reduceMul,reduceSub,Nat.reduceBEq,Int.reduceToNat,Int.reduceLE,Int.reduceLT,Int.reduceNeg,reduceMod,zac,zad,zab,zaa,gT,TK.isInt,TK.agg,Array.toList]
 refine zaf (zcd ha.1 (by omega)) ?_
 simp (maxSteps:=5000000) -dsimp only [↓gp,gq,reduceCtorEq,reduceEqDiff,reduceLT,reduceLeDiff,reduceAdd,reduceMul,reduceSub,Nat.reduceBEq,Int.reduceToNat,Int.reduceLE,Int.reduceLT,Int.reduceNeg,reduceMod,zac,zad,zab,zaa,gT,TK.isInt,TK.agg,Array.toList]
 refine zaf (zcd hb.1 (by omega)) ?_
 simp (maxSteps:=5000000) -dsimp only [↓gp,gq,reduceCtorEq,reduceEqDiff,reduceLT,reduceLeDiff,reduceAdd,reduceMul,reduceSub,Nat.reduceBEq,Int.reduceToNat,Int.reduceLE,Int.reduceLT,Int.reduceNeg,reduceMod,zac,zad,zab,zaa,gT,TK.isInt,TK.agg,Array.toList]
 unfold zk0 zhR
 rw [if_pos ha,if_pos hb,decide_eq_true ha,decide_eq_true hb]
 simp only [Bool.true_and]
 refine ⟨fun h=>⟨fun h2=>?_,fun h2=>?_⟩,fun h=>?_⟩
 ·rw [if_pos (by simpa using h2)]
 ·rw [if_neg (by simpa using h2)]
  exact decide_eq_false (by omega)
 ·rw [if_neg (by omega)]
  exact decide_eq_true (by omega)
def zGG (n:Int) (xs:List Int) (k:Nat):Prop:=zch n (xs.getD k 0) = true∧(0 < k→zk0 (xs.getD (k - 1) 0) (xs.getD k 0) = true)∧∀ i,i < k→zdL .i64 (xs.getD i 0) (xs.getD k 0) ≠ xs.getD i 0
def cxP (n:Int) (xs:List Int):Prop:=1 ≤ n∧n ≤ 6∧∀ k,k < xs.length→zGG n xs k
open Classical in
noncomputable def zef (n:Int) (xs:List Int):Bool:=decide (cxP n xs)
open Classical in
theorem zdV {n:Int} {xs:List Int} (h:¬ cxP n xs):zef n xs = false:=decide_eq_false h
open Classical in
theorem ziE {n:Int} {xs:List Int} (h:cxP n xs):zef n xs = true:=decide_eq_true h
open Classical in
theorem zdE {n:Int} {xs:List Int}:zef n xs = true ↔ cxP n xs:=decide_eq_true_iff
theorem zbi (n:Int) (xs:List Int):AC Tryz.prog 114 [.ag [int n,zbj xs]] (.im (bool (zef n xs))):=by
 refine AC.go (rs:=[.tmp 2]) zbg zay Tryz.func114 rfl rfl rfl (by kernel_rfl) fun hl=>?_
 simp only [zbk,zbD,and_true,zcf,zdW,zcO,true_and] at hl
 simp (maxSteps:=5000000) -dsimp only [↓gp,gq,reduceCtorEq,reduceEqDiff,reduceLT,reduceLeDiff,reduceAdd,reduceMul,reduceSub,Nat.reduceBEq,Int.reduceToNat,Int.reduceLE,Int.reduceLT,Int.reduceNeg,reduceMod,zac,zad,zab,zaa,gT,TK.isInt,TK.agg,Array.toList]
 refine zaq (fun (k:Nat) s=>s.sl 1 = .ref 1 1 0∧s.rw 1 = ⟨1,.box 27 [int n,zbj xs]⟩∧s.sl 3 = int k∧(k ≤ xs.length∧∀ i,i < k→zGG n xs i)) (fun k=>xs.length - k) (0) (by refine ⟨?_,?_,?_,by simp⟩ <;> (first | (simp (maxSteps:=5000000) -dsimp only [gr,reduceEqDiff,reduceLT,reduceAdd,reduceMod,Nat.reduceBEq,zaa,zac,zad,zab];first | done | rfl | (simp;done)) | assumption | rfl)) ?_
 intro k sa ⟨h1a,r1a,h3a,hIa⟩
 obtain ⟨hk,hall⟩:=hIa
 have hw:IntKind.i64.wrap ((k:Int) - 1) = (k:Int) - 1:=zat (by omega) (by omega)
 simp (maxSteps:=5000000) -dsimp only [↓gp,gq,reduceCtorEq,reduceEqDiff,reduceLT,reduceLeDiff,reduceAdd,reduceMul,reduceSub,Nat.reduceBEq,Int.reduceToNat,Int.reduceLE,Int.reduceLT,Int.reduceNeg,reduceMod,zac,zad,zab,zaa,gT,TK.isInt,TK.agg,Array.toList,h1a,r1a,h3a,hw,za9]
 refine ⟨fun h=>⟨by kernel_rfl,h,h,zaf (zeS _ _) ?_⟩,fun h=>zaf (zbo _ _ _) ?_⟩
 ·simp (maxSteps:=5000000) -dsimp only [↓gp,gq,reduceCtorEq,reduceEqDiff,reduceLT,reduceLeDiff,reduceAdd,reduceMul,reduceSub,Nat.reduceBEq,Int.reduceToNat,Int.reduceLE,Int.reduceLT,Int.reduceNeg,reduceMod,zac,zad,zab,zaa,gT,TK.isInt,TK.agg,Array.toList,h1a,r1a,h3a,hw,za9]
  refine ⟨fun hs=>⟨fun h0=>⟨by omega,by omega,by omega,h,h,?_⟩,fun h0=>?_⟩,fun hs=>?_⟩
  ·have hs:zch n (xs.getD k 0) = true:=by rwa [Bool.not_eq_false'] at hs
   have hb:=zcm hs
   have hb':=zcm (hall (k - 1) (by omega)).1
   refine zaf (zjf hb' hb) ?_
   simp (maxSteps:=5000000) -dsimp only [↓gp,gq,reduceCtorEq,reduceEqDiff,reduceLT,reduceLeDiff,reduceAdd,reduceMul,reduceSub,Nat.reduceBEq,Int.reduceToNat,Int.reduceLE,Int.reduceLT,Int.reduceNeg,reduceMod,zac,zad,zab,zaa,gT,TK.isInt,TK.agg,Array.toList,h1a,r1a,h3a,hw,za9]
   refine ⟨fun hbef=>zdV fun hg=>?_,fun hbef=>?_⟩
   ·have:=(hg.2.2 k h).2.1 (by omega)
    rw [this] at hbef;cases hbef
   ·have hbef:0 < k→zk0 (xs.getD (k - 1) 0) (xs.getD k 0) = true:=fun _=>by rwa [Bool.not_eq_false'] at hbef
    refine zaq (fun (i:Nat) s=>s.sl 1 = .ref 1 1 0∧s.rw 1 = ⟨1,.box 27 [int n,zbj xs]⟩∧s.sl 3 = int k∧s.sl 4 = int i∧(i ≤ k∧∀ j,j < i→zdL .i64 (xs.getD j 0) (xs.getD k 0) ≠ xs.getD j 0)) (fun i=>k - i) (0) (by refine ⟨?_,?_,?_,?_,by simp⟩ <;> (first | (simp (maxSteps:=5000000) -dsimp only [gr,reduceEqDiff,reduceLT,reduceAdd,reduceMod,Nat.reduceBEq,zaa,zac,zad,zab,h1a,r1a,h3a];first | done | rfl | (simp;done)) | assumption | rfl)) ?_
    intro i sb ⟨h1b,r1b,h3b,h4b,hIb⟩
    obtain ⟨hik,hin⟩:=hIb
    simp (maxSteps:=5000000) -dsimp only [↓gp,gq,reduceCtorEq,reduceEqDiff,reduceLT,reduceLeDiff,reduceAdd,reduceMul,reduceSub,Nat.reduceBEq,Int.reduceToNat,Int.reduceLE,Int.reduceLT,Int.reduceNeg,reduceMod,zac,zad,zab,zaa,gT,TK.isInt,TK.agg,Array.toList,h1b,r1b,h3b,h4b]
    refine ⟨fun hi=>⟨by kernel_rfl,by omega,by omega,h,h,by omega,by omega,fun he=>?_,fun he=>zag (i + 1) ⟨(by (first | (simp (maxSteps:=5000000) -dsimp only [gr,reduceEqDiff,reduceLT,reduceAdd,reduceMod,Nat.reduceBEq,zaa,zac,zad,zab,h1b,r1b,h3b,h4b,zae hi (by omega)];first | done | rfl | (simp;done)) | assumption | rfl)),(by (first | (simp (maxSteps:=5000000) -dsimp only [gr,reduceEqDiff,reduceLT,reduceAdd,reduceMod,Nat.reduceBEq,zaa,zac,zad,zab,h1b,r1b,h3b,h4b,zae hi (by omega)];first | done | rfl | (simp;done)) | assumption | rfl)),(by (first | (simp (maxSteps:=5000000) -dsimp only [gr,reduceEqDiff,reduceLT,reduceAdd,reduceMod,Nat.reduceBEq,zaa,zac,zad,zab,h1b,r1b,h3b,h4b,zae hi (by omega)];first | done | rfl | (simp;done)) | assumption | rfl)),(by (first | (simp (maxSteps:=5000000) -dsimp only [gr,reduceEqDiff,reduceLT,reduceAdd,reduceMod,Nat.reduceBEq,zaa,zac,zad,zab,h1b,r1b,h3b,h4b,zae hi (by omega)];first | done | rfl | (simp;done)) | assumption | rfl)),⟨by omega,fun j hj=>?_⟩⟩ (by first | omega | (simp only;omega) | (dsimp only;omega) | (show _ < _;simp;omega))⟩,fun hi=>zag (k + 1) ⟨(by (first | (simp (maxSteps:=5000000) -dsimp only [gr,reduceEqDiff,reduceLT,reduceAdd,reduceMod,Nat.reduceBEq,zaa,zac,zad,zab,h1a,r1a,h3a,h1b,r1b,h3b,h4b,zae h hl];first | done | rfl | (simp;done)) | assumption | rfl)),(by (first | (simp (maxSteps:=5000000) -dsimp only [gr,reduceEqDiff,reduceLT,reduceAdd,reduceMod,Nat.reduceBEq,zaa,zac,zad,zab,h1a,r1a,h3a,h1b,r1b,h3b,h4b,zae h hl];first | done | rfl | (simp;done)) | assumption | rfl)),(by (first | (simp (maxSteps:=5000000) -dsimp only [gr,reduceEqDiff,reduceLT,reduceAdd,reduceMod,Nat.reduceBEq,zaa,zac,zad,zab,h1a,r1a,h3a,h1b,r1b,h3b,h4b,zae h hl];first | done | rfl | (simp;done)) | assumption | rfl)),⟨by omega,fun j hj=>?_⟩⟩ (by first | omega | (simp only;omega) | (dsimp only;omega) | (show _ < _;simp;omega))⟩
    ·exact zdV fun hg=>(hg.2.2 k h).2.2 i hi (by simpa using he)
    ·rcases Nat.lt_succ_iff_lt_or_eq.1 hj with hj | rfl
     ·exact hin j hj
     ·simpa using he
    ·rcases Nat.lt_succ_iff_lt_or_eq.1 hj with hj | rfl
     ·exact hall j hj
     ·exact ⟨hs,hbef,fun i hi=>hin i (by omega)⟩
  ·have hs:zch n (xs.getD k 0) = true:=by rwa [Bool.not_eq_false'] at hs
   have hbef:0 < k→zk0 (xs.getD (k - 1) 0) (xs.getD k 0) = true:=fun h=>by omega
   refine zaq (fun (i:Nat) s=>s.sl 1 = .ref 1 1 0∧s.rw 1 = ⟨1,.box 27 [int n,zbj xs]⟩∧s.sl 3 = int k∧s.sl 4 = int i∧(i ≤ k∧∀ j,j < i→zdL .i64 (xs.getD j 0) (xs.getD k 0) ≠ xs.getD j 0)) (fun i=>k - i) (0) (by refine ⟨?_,?_,?_,?_,by simp⟩ <;> (first | (simp (maxSteps:=5000000) -dsimp only [gr,reduceEqDiff,reduceLT,reduceAdd,reduceMod,Nat.reduceBEq,zaa,zac,zad,zab,h1a,r1a,h3a];first | done | rfl | (simp;done)) | assumption | rfl)) ?_
   intro i sb ⟨h1b,r1b,h3b,h4b,hIb⟩
   obtain ⟨hik,hin⟩:=hIb
   simp (maxSteps:=5000000) -dsimp only [↓gp,gq,reduceCtorEq,reduceEqDiff,reduceLT,reduceLeDiff,reduceAdd,reduceMul,reduceSub,Nat.reduceBEq,Int.reduceToNat,Int.reduceLE,Int.reduceLT,Int.reduceNeg,reduceMod,zac,zad,zab,zaa,gT,TK.isInt,TK.agg,Array.toList,h1b,r1b,h3b,h4b]
   refine ⟨fun hi=>⟨by kernel_rfl,by omega,by omega,h,h,by omega,by omega,fun he=>?_,fun he=>zag (i + 1) ⟨(by (first | (simp (maxSteps:=5000000) -dsimp only [gr,reduceEqDiff,reduceLT,reduceAdd,reduceMod,Nat.reduceBEq,zaa,zac,zad,zab,h1b,r1b,h3b,h4b,zae hi (by omega)];first | done | rfl | (simp;done)) | assumption | rfl)),(by (first | (simp (maxSteps:=5000000) -dsimp only [gr,reduceEqDiff,reduceLT,reduceAdd,reduceMod,Nat.reduceBEq,zaa,zac,zad,zab,h1b,r1b,h3b,h4b,zae hi (by omega)];first | done | rfl | (simp;done)) | assumption | rfl)),(by (first | (simp (maxSteps:=5000000) -dsimp only [gr,reduceEqDiff,reduceLT,reduceAdd,reduceMod,Nat.reduceBEq,zaa,zac,zad,zab,h1b,r1b,h3b,h4b,zae hi (by omega)];first | done | rfl | (simp;done)) | assumption | rfl)),(by (first | (simp (maxSteps:=5000000) -dsimp only [gr,reduceEqDiff,reduceLT,reduceAdd,reduceMod,Nat.reduceBEq,zaa,zac,zad,zab,h1b,r1b,h3b,h4b,zae hi (by omega)];first | done | rfl | (simp;done)) | assumption | rfl)),⟨by omega,fun j hj=>?_⟩⟩ (by first | omega | (simp only;omega) | (dsimp only;omega) | (show _ < _;simp;omega))⟩,fun hi=>zag (k + 1) ⟨(by (first | (simp (maxSteps:=5000000) -dsimp only [gr,reduceEqDiff,reduceLT,reduceAdd,reduceMod,Nat.reduceBEq,zaa,zac,zad,zab,h1a,r1a,h3a,h1b,r1b,h3b,h4b,zae h hl];first | done | rfl | (simp;done)) | assumption | rfl)),(by (first | (simp (maxSteps:=5000000) -dsimp only [gr,reduceEqDiff,reduceLT,reduceAdd,reduceMod,Nat.reduceBEq,zaa,zac,zad,zab,h1a,r1a,h3a,h1b,r1b,h3b,h4b,zae h hl];first | done | rfl | (simp;done)) | assumption | rfl)),(by (first | (simp (maxSteps:=5000000) -dsimp only [gr,reduceEqDiff,reduceLT,reduceAdd,reduceMod,Nat.reduceBEq,zaa,zac,zad,zab,h1a,r1a,h3a,h1b,r1b,h3b,h4b,zae h hl];first | done | rfl | (simp;done)) | assumption | rfl)),⟨by omega,fun j hj=>?_⟩⟩ (by first | omega | (simp only;omega) | (dsimp only;omega) | (show _ < _;simp;omega))⟩
   ·exact zdV fun hg=>(hg.2.2 k h).2.2 i hi (by simpa using he)
   ·rcases Nat.lt_succ_iff_lt_or_eq.1 hj with hj | rfl
    ·exact hin j hj
    ·simpa using he
   ·rcases Nat.lt_succ_iff_lt_or_eq.1 hj with hj | rfl
    ·exact hall j hj
    ·exact ⟨hs,hbef,fun i hi=>hin i (by omega)⟩
  ·have hs:zch n (xs.getD k 0) = false:=by rwa [Bool.not_eq_true'] at hs
   exact zdV fun hg=>by have:=(hg.2.2 k h).1;rw [hs] at this;cases this
 ·simp (maxSteps:=5000000) -dsimp only [↓gp,gq,reduceCtorEq,reduceEqDiff,reduceLT,reduceLeDiff,reduceAdd,reduceMul,reduceSub,Nat.reduceBEq,Int.reduceToNat,Int.reduceLE,Int.reduceLT,Int.reduceNeg,reduceMod,zac,zad,zab,zaa,gT,TK.isInt,TK.agg,Array.toList,h1a,r1a,h3a,hw,za9]
  by_cases hn:1 ≤ n∧n ≤ 6
  ·rw [ziE ⟨hn.1,hn.2,fun k hk=>hall k (by omega)⟩]
   simp [hn.1,hn.2]
  ·rw [zdV fun hg=>hn ⟨hg.1,hg.2.1⟩]
   symm
   rw [Bool.and_eq_false_iff,decide_eq_false_iff_not,decide_eq_false_iff_not]
   omega
theorem zgw (n:Int) (xs:List Int):AC Tryz.prog 178 [int n,zbj xs] (.im (bool (zef n xs))):=by
 refine AC.go (rs:=[.tmp 4]) zbg zay Tryz.func178 rfl rfl rfl (by kernel_rfl) fun hl=>?_
 simp only [zbk,zbD,and_true,zeh,zc5,true_and] at hl
 simp (maxSteps:=5000000) -dsimp only [↓gp,gq,reduceCtorEq,reduceEqDiff,reduceLT,reduceLeDiff,reduceAdd,reduceMul,reduceSub,Nat.reduceBEq,Int.reduceToNat,Int.reduceLE,Int.reduceLT,Int.reduceNeg,reduceMod,zac,zad,zab,zaa,gT,TK.isInt,TK.agg,Array.toList]
 refine ⟨fun hn=>⟨fun h6=>zdV fun hg=>by have:=hg.2.1;omega,fun h6=>?_⟩,fun hn=>zdV fun hg=>by have:=hg.1;omega⟩
 refine zaq (fun (k:Nat) s=>s.sl 0 = int n∧s.sl 1 = zbj xs∧s.sl 17 = zbj xs∧s.sl 18 = int xs.length∧s.sl 19 = int k∧(k ≤ xs.length∧∀ i,i < k→zch n (xs.getD i 0) = true∧(0 < i→zk0 (xs.getD (i - 1) 0) (xs.getD i 0) = true))) (fun k=>xs.length - k) (0) (by refine ⟨?_,?_,?_,?_,?_,by simp⟩ <;> (first | (simp (maxSteps:=5000000) -dsimp only [gr,reduceEqDiff,reduceLT,reduceAdd,reduceMod,Nat.reduceBEq,zaa,zac,zad,zab];first | done | rfl | (simp;done)) | assumption | rfl)) ?_
 intro k sa ⟨h0a,h1a,h17a,h18a,h19a,hIa⟩
 obtain ⟨hk,hall⟩:=hIa
 have hw:IntKind.i64.wrap ((k:Int) - 1) = (k:Int) - 1:=zat (by omega) (by omega)
 simp (maxSteps:=5000000) -dsimp only [↓gp,gq,reduceCtorEq,reduceEqDiff,reduceLT,reduceLeDiff,reduceAdd,reduceMul,reduceSub,Nat.reduceBEq,Int.reduceToNat,Int.reduceLE,Int.reduceLT,Int.reduceNeg,reduceMod,zac,zad,zab,zaa,gT,TK.isInt,TK.agg,Array.toList,h0a,h1a,h17a,h18a,h19a,hw,za9]
 refine ⟨fun h=>⟨h,h,zaf (zb4 _ _) ?_⟩,fun h=>?_⟩
 ·simp (maxSteps:=5000000) -dsimp only [↓gp,gq,reduceCtorEq,reduceEqDiff,reduceLT,reduceLeDiff,reduceAdd,reduceMul,reduceSub,Nat.reduceBEq,Int.reduceToNat,Int.reduceLE,Int.reduceLT,Int.reduceNeg,reduceMod,zac,zad,zab,zaa,gT,TK.isInt,TK.agg,Array.toList,h0a,h1a,h17a,h18a,h19a,hw,za9]
  refine ⟨fun hs=>?_,fun hs=>⟨fun h0=>⟨by omega,by omega,by omega,zaf (zeC _ _) ?_⟩,fun h0=>?_⟩⟩
  ·have hs:zch n (xs.getD k 0) = false:=by rwa [Bool.not_eq_true'] at hs
   exact zdV fun hg=>by have:=(hg.2.2 k h).1;rw [hs] at this;cases this
  ·simp (maxSteps:=5000000) -dsimp only [↓gp,gq,reduceCtorEq,reduceEqDiff,reduceLT,reduceLeDiff,reduceAdd,reduceMul,reduceSub,Nat.reduceBEq,Int.reduceToNat,Int.reduceLE,Int.reduceLT,Int.reduceNeg,reduceMod,zac,zad,zab,zaa,gT,TK.isInt,TK.agg,Array.toList,h0a,h1a,h17a,h18a,h19a,hw,za9]
   refine ⟨fun hb=>zdV fun hg=>?_,fun hb=>zag (k + 1) ⟨(by (first | (simp (maxSteps:=5000000) -dsimp only [gr,reduceEqDiff,reduceLT,reduceAdd,reduceMod,Nat.reduceBEq,zaa,zac,zad,zab,h0a,h1a,h17a,h18a,h19a,zae h hl];first | done | rfl | (simp;done)) | assumption | rfl)),(by (first | (simp (maxSteps:=5000000) -dsimp only [gr,reduceEqDiff,reduceLT,reduceAdd,reduceMod,Nat.reduceBEq,zaa,zac,zad,zab,h0a,h1a,h17a,h18a,h19a,zae h hl];first | done | rfl | (simp;done)) | assumption | rfl)),(by (first | (simp (maxSteps:=5000000) -dsimp only [gr,reduceEqDiff,reduceLT,reduceAdd,reduceMod,Nat.reduceBEq,zaa,zac,zad,zab,h0a,h1a,h17a,h18a,h19a,zae h hl];first | done | rfl | (simp;done)) | assumption | rfl)),(by (first | (simp (maxSteps:=5000000) -dsimp only [gr,reduceEqDiff,reduceLT,reduceAdd,reduceMod,Nat.reduceBEq,zaa,zac,zad,zab,h0a,h1a,h17a,h18a,h19a,zae h hl];first | done | rfl | (simp;done)) | assumption | rfl)),(by (first | (simp (maxSteps:=5000000) -dsimp only [gr,reduceEqDiff,reduceLT,reduceAdd,reduceMod,Nat.reduceBEq,zaa,zac,zad,zab,h0a,h1a,h17a,h18a,h19a,zae h hl];first | done | rfl | (simp;done)) | assumption | rfl)),⟨by omega,fun j hj=>?_⟩⟩ (by first | omega | (simp only;omega) | (dsimp only;omega) | (show _ < _;simp;omega))⟩
   ·have:=(hg.2.2 k h).2.1 (by omega)
    rw [this] at hb;cases hb
   ·rcases Nat.lt_succ_iff_lt_or_eq.1 hj with hj | rfl
    ·exact hall j hj
    ·exact ⟨by rwa [Bool.not_eq_false'] at hs,fun _=>by rwa [Bool.not_eq_false'] at hb⟩
  ·refine zag (k + 1) ⟨(by (first | (simp (maxSteps:=5000000) -dsimp only [gr,reduceEqDiff,reduceLT,reduceAdd,reduceMod,Nat.reduceBEq,zaa,zac,zad,zab,h0a,h1a,h17a,h18a,h19a,zae h hl];first | done | rfl | (simp;done)) | assumption | rfl)),(by (first | (simp (maxSteps:=5000000) -dsimp only [gr,reduceEqDiff,reduceLT,reduceAdd,reduceMod,Nat.reduceBEq,zaa,zac,zad,zab,h0a,h1a,h17a,h18a,h19a,zae h hl];first | done | rfl | (simp;done)) | assumption | rfl)),(by (first | (simp (maxSteps:=5000000) -dsimp only [gr,reduceEqDiff,reduceLT,reduceAdd,reduceMod,Nat.reduceBEq,zaa,zac,zad,zab,h0a,h1a,h17a,h18a,h19a,zae h hl];first | done | rfl | (simp;done)) | assumption | rfl)),(by (first | (simp (maxSteps:=5000000) -dsimp only [gr,reduceEqDiff,reduceLT,reduceAdd,reduceMod,Nat.reduceBEq,zaa,zac,zad,zab,h0a,h1a,h17a,h18a,h19a,zae h hl];first | done | rfl | (simp;done)) | assumption | rfl)),(by (first | (simp (maxSteps:=5000000) -dsimp only [gr,reduceEqDiff,reduceLT,reduceAdd,reduceMod,Nat.reduceBEq,zaa,zac,zad,zab,h0a,h1a,h17a,h18a,h19a,zae h hl];first | done | rfl | (simp;done)) | assumption | rfl)),⟨by omega,fun j hj=>?_⟩⟩ (by first | omega | (simp only;omega) | (dsimp only;omega) | (show _ < _;simp;omega))
   rcases Nat.lt_succ_iff_lt_or_eq.1 hj with hj | rfl
   ·exact hall j hj
   ·exact ⟨by rwa [Bool.not_eq_false'] at hs,fun _=>by omega⟩
 ·have hall':∀ i,i < xs.length→zch n (xs.getD i 0) = true∧(0 < i→zk0 (xs.getD (i - 1) 0) (xs.getD i 0) = true):=fun i hi=>hall i (by omega)
  clear hw hall
  have hsub:∀ i j,i < xs.length→j < xs.length→(zdr .i64 (xs.getD i 0) (xs.getD j 0) = 0 ↔ zdL .i64 (xs.getD i 0) (xs.getD j 0) = xs.getD i 0):=fun i j hi hj=>zrw (zcm (hall' i hi).1) (zcm (hall' j hj).1)
  refine zaq (fun (i:Nat) s=>s.sl 1 = zbj xs∧s.sl 41 = zbj xs∧s.sl 42 = int xs.length∧s.sl 43 = int i∧(i ≤ xs.length∧∀ j k,j < i→j < k→k < xs.length→zdL .i64 (xs.getD j 0) (xs.getD k 0) ≠ xs.getD j 0)) (fun i=>xs.length - i) (0) (by refine ⟨?_,?_,?_,?_,by simp⟩ <;> (first | (simp (maxSteps:=5000000) -dsimp only [gr,reduceEqDiff,reduceLT,reduceAdd,reduceMod,Nat.reduceBEq,zaa,zac,zad,zab,h0a,h1a,h17a,h18a,h19a];first | done | rfl | (simp;done)) | assumption | rfl)) ?_
  intro i sb ⟨h1b,h41b,h42b,h43b,hIb⟩
  obtain ⟨hi,hin⟩:=hIb
  have hwi:i < xs.length→IntKind.i64.wrap ((i:Int) + 1) = ((i + 1:Nat):Int):=fun h=>zae h hl
  simp (maxSteps:=5000000) -dsimp only [↓gp,gq,reduceCtorEq,reduceEqDiff,reduceLT,reduceLeDiff,reduceAdd,reduceMul,reduceSub,Nat.reduceBEq,Int.reduceToNat,Int.reduceLE,Int.reduceLT,Int.reduceNeg,reduceMod,zac,zad,zab,zaa,gT,TK.isInt,TK.agg,Array.toList,h1b,h41b,h42b,h43b]
  refine ⟨fun hlt=>?_,fun hge=>ziE ⟨by omega,by omega,fun k hk=>⟨(hall' k hk).1,(hall' k hk).2,fun j hj=>hin j k (by omega) hj hk⟩⟩⟩
  rw [hwi hlt]
  refine ⟨hlt,hlt,by omega,by omega,?_⟩
  refine zaq (fun (j:Nat) s=>s.sl 1 = zbj xs∧s.sl 41 = zbj xs∧s.sl 42 = int xs.length∧s.sl 43 = int i∧s.sl 8 = int (xs.getD i 0)∧s.sl 51 = zbj (xs.drop (i + 1))∧s.sl 52 = int (xs.length - (i + 1):Nat)∧s.sl 53 = int j∧(j ≤ xs.length - (i + 1)∧∀ k,k < j→zdL .i64 (xs.getD i 0) (xs.getD (i + 1 + k) 0) ≠ xs.getD i 0)) (fun j=>xs.length - (i + 1) - j) (0) (by refine ⟨?_,?_,?_,?_,?_,?_,?_,?_,by simp⟩ <;> (first | (simp (maxSteps:=5000000) -dsimp only [gr,reduceEqDiff,reduceLT,reduceAdd,reduceMod,Nat.reduceBEq,zaa,zac,zad,zab,h1b,h41b,h42b,h43b];first | done | rfl | (simp;done)) | assumption | rfl)) ?_
  intro j sc ⟨h1c,h41c,h42c,h43c,h8c,h51c,h52c,h53c,hIc⟩
  obtain ⟨hj,hinn⟩:=hIc
  have hd:∀ j,(xs.drop (i + 1)).getD j 0 = xs.getD (i + 1 + j) 0:=fun j=>by simp [List.getD]
  simp (maxSteps:=5000000) -dsimp only [↓gp,gq,reduceCtorEq,reduceEqDiff,reduceLT,reduceLeDiff,reduceAdd,reduceMul,reduceSub,Nat.reduceBEq,Int.reduceToNat,Int.reduceLE,Int.reduceLT,Int.reduceNeg,reduceMod,zac,zad,zab,zaa,gT,TK.isInt,TK.agg,Array.toList,h1c,h41c,h42c,h43c,h8c,h51c,h52c,h53c,hd,List.length_drop]
  refine ⟨fun h2=>⟨h2,h2,fun he=>?_,fun he=>zag (j + 1) ⟨(by (first | (simp (maxSteps:=5000000) -dsimp only [gr,reduceEqDiff,reduceLT,reduceAdd,reduceMod,Nat.reduceBEq,zaa,zac,zad,zab,h1c,h41c,h42c,h43c,h8c,h51c,h52c,h53c,zae h2 (by omega)];first | done | rfl | (simp;done)) | assumption | rfl)),(by (first | (simp (maxSteps:=5000000) -dsimp only [gr,reduceEqDiff,reduceLT,reduceAdd,reduceMod,Nat.reduceBEq,zaa,zac,zad,zab,h1c,h41c,h42c,h43c,h8c,h51c,h52c,h53c,zae h2 (by omega)];first | done | rfl | (simp;done)) | assumption | rfl)),(by (first | (simp (maxSteps:=5000000) -dsimp only [gr,reduceEqDiff,reduceLT,reduceAdd,reduceMod,Nat.reduceBEq,zaa,zac,zad,zab,h1c,h41c,h42c,h43c,h8c,h51c,h52c,h53c,zae h2 (by omega)];first | done | rfl | (simp;done)) | assumption | rfl)),(by (first | (simp (maxSteps:=5000000) -dsimp only [gr,reduceEqDiff,reduceLT,reduceAdd,reduceMod,Nat.reduceBEq,zaa,zac,zad,zab,h1c,h41c,h42c,h43c,h8c,h51c,h52c,h53c,zae h2 (by omega)];first | done | rfl | (simp;done)) | assumption | rfl)),(by (first | (simp (maxSteps:=5000000) -dsimp only [gr,reduceEqDiff,reduceLT,reduceAdd,reduceMod,Nat.reduceBEq,zaa,zac,zad,zab,h1c,h41c,h42c,h43c,h8c,h51c,h52c,h53c,zae h2 (by omega)];first | done | rfl | (simp;done)) | assumption | rfl)),(by (first | (simp (maxSteps:=5000000) -dsimp only [gr,reduceEqDiff,reduceLT,reduceAdd,reduceMod,Nat.reduceBEq,zaa,zac,zad,zab,h1c,h41c,h42c,h43c,h8c,h51c,h52c,h53c,zae h2 (by omega)];first | done | rfl | (simp;done)) | assumption | rfl)),(by (first | (simp (maxSteps:=5000000) -dsimp only [gr,reduceEqDiff,reduceLT,reduceAdd,reduceMod,Nat.reduceBEq,zaa,zac,zad,zab,h1c,h41c,h42c,h43c,h8c,h51c,h52c,h53c,zae h2 (by omega)];first | done | rfl | (simp;done)) | assumption | rfl)),(by (first | (simp (maxSteps:=5000000) -dsimp only [gr,reduceEqDiff,reduceLT,reduceAdd,reduceMod,Nat.reduceBEq,zaa,zac,zad,zab,h1c,h41c,h42c,h43c,h8c,h51c,h52c,h53c,zae h2 (by omega)];first | done | rfl | (simp;done)) | assumption | rfl)),⟨by omega,fun k hk=>?_⟩⟩ (by first | omega | (simp only;omega) | (dsimp only;omega) | (show _ < _;simp;omega))⟩,fun h2=>zag (i + 1) ⟨(by (first | (simp (maxSteps:=5000000) -dsimp only [gr,reduceEqDiff,reduceLT,reduceAdd,reduceMod,Nat.reduceBEq,zaa,zac,zad,zab,h1b,h41b,h42b,h43b,h1c,h41c,h42c,h43c,h8c,h51c,h52c,h53c,hwi hlt];first | done | rfl | (simp;done)) | assumption | rfl)),(by (first | (simp (maxSteps:=5000000) -dsimp only [gr,reduceEqDiff,reduceLT,reduceAdd,reduceMod,Nat.reduceBEq,zaa,zac,zad,zab,h1b,h41b,h42b,h43b,h1c,h41c,h42c,h43c,h8c,h51c,h52c,h53c,hwi hlt];first | done | rfl | (simp;done)) | assumption | rfl)),(by (first | (simp (maxSteps:=5000000) -dsimp only [gr,reduceEqDiff,reduceLT,reduceAdd,reduceMod,Nat.reduceBEq,zaa,zac,zad,zab,h1b,h41b,h42b,h43b,h1c,h41c,h42c,h43c,h8c,h51c,h52c,h53c,hwi hlt];first | done | rfl | (simp;done)) | assumption | rfl)),(by (first | (simp (maxSteps:=5000000) -dsimp only [gr,reduceEqDiff,reduceLT,reduceAdd,reduceMod,Nat.reduceBEq,zaa,zac,zad,zab,h1b,h41b,h42b,h43b,h1c,h41c,h42c,h43c,h8c,h51c,h52c,h53c,hwi hlt];first | done | rfl | (simp;done)) | assumption | rfl)),⟨by omega,fun j k hj' hk hk'=>?_⟩⟩ (by first | omega | (simp only;omega) | (dsimp only;omega) | (show _ < _;simp;omega))⟩
  ·refine zdV fun hg=>(hg.2.2 (i + 1 + j) (by omega)).2.2 i (by omega) ((hsub i (i + 1 + j) hlt (by omega)).1 (by simpa using he))
  ·rcases Nat.lt_succ_iff_lt_or_eq.1 hk with hk | rfl
   ·exact hinn k hk
   ·intro e
    have:=(hsub i (i + 1 + k) hlt (by omega)).2 e
    rw [this] at he
    simp at he
  ·rcases Nat.lt_succ_iff_lt_or_eq.1 hj' with hj' | rfl
   ·exact hin j k hj' hk hk'
   ·have:=hinn (k - (j + 1)) (by omega)
    rwa [show j + 1 + (k - (j + 1)) = k by omega] at this
theorem zuN {a b c:Int} (h1:zk0 a b = true) (h2:zk0 b c = true):zk0 a c = true:=by
 unfold zk0 at *
 simp only [Bool.and_eq_true,decide_eq_true_eq] at *
 obtain ⟨ha,hb,h1⟩:=h1
 obtain ⟨_,hc,h2⟩:=h2
 refine ⟨ha,hc,?_⟩
 split at h1 <;> split at h2 <;> simp only [decide_eq_true_eq] at h1 h2
 ·rw [if_pos (by omega)];exact decide_eq_true (by omega)
 ·rw [if_neg (by omega)];exact decide_eq_true (by omega)
 ·rw [if_neg (by omega)];exact decide_eq_true (by omega)
 ·rw [if_neg (by omega)];exact decide_eq_true (by omega)
theorem zn0 {n:Int} {xs:List Int} (h:cxP n xs):∀ (j i:Nat),i < j→j < xs.length→zk0 (xs.getD i 0) (xs.getD j 0) = true:=by
 intro j
 induction j with
 | zero=>intro i hi;omega
 | succ j ih =>
   intro i hi hj
   have h1:=(h.2.2 (j + 1) hj).2.1 (by omega)
   rw [Nat.add_sub_cancel] at h1
   rcases Nat.lt_succ_iff_lt_or_eq.1 hi with hi | rfl
   ·exact zuN (ih i hi (by omega)) h1
   ·exact h1
theorem zfp {s:Int} (h:0 ≤ s∧s < 64):zhR s = (zaD s.toNat:Nat):=by rw [zhR,if_pos h]
theorem zz0 {s k:Nat} (h:s.testBit k = true):zAz s (k + 1) = zAz s k ++ [k]:=by
 unfold zAz;rw [List.range_succ,List.filter_append];simp [h]
theorem zCJ {s k:Nat} (h:s.testBit k = false):zAz s (k + 1) = zAz s k:=by
 unfold zAz;rw [List.range_succ,List.filter_append];simp [h]
theorem ziD (s k:Nat):(zAz s k).length ≤ k:=by
 unfold zAz;exact Nat.le_trans (List.length_filter_le _ _) (by simp)
def zBk (s:Int):List Int:=if 0 ≤ s∧s < 64 then ofN (pts s.toNat) else []
theorem zdj (s:Int):AC Tryz.prog 110 [int s] (.fr 3 1 (iL (zBk s))):=by
 refine AC.go (rs:=[.tmp 2]) zbg zay Tryz.func110 rfl rfl rfl (by kernel_rfl) fun hl=>?_
 simp (maxSteps:=5000000) -dsimp only [↓gp,gq,reduceCtorEq,reduceEqDiff,reduceLT,reduceLeDiff,reduceAdd,reduceMul,reduceSub,Nat.reduceBEq,Int.reduceToNat,Int.reduceLE,Int.reduceLT,Int.reduceNeg,reduceMod,zac,zad,zab,zaa,gT,TK.isInt,TK.agg,Array.toList]
 refine zaf (zb4 _ _) ?_
 simp (maxSteps:=5000000) -dsimp only [↓gp,gq,reduceCtorEq,reduceEqDiff,reduceLT,reduceLeDiff,reduceAdd,reduceMul,reduceSub,Nat.reduceBEq,Int.reduceToNat,Int.reduceLE,Int.reduceLT,Int.reduceNeg,reduceMod,zac,zad,zab,zaa,gT,TK.isInt,TK.agg,Array.toList,zmM]
 unfold zBk
 refine ⟨fun h=>?_,fun h=>?_⟩
 ·have h:¬ (0 ≤ s∧s < 64):=by simp at h;omega
  rw [if_neg h]
  simp [iL]
 ·have h:0 ≤ s∧s < 64:=by simpa using h
  rw [if_pos h]
  obtain ⟨m,rfl⟩:=Int.eq_ofNat_of_zero_le h.1
  rw [Int.toNat_natCast]
  refine zaq (fun (za:Nat × Nat) s=>match za with | (k,v)=>s.sl 0 = int m∧s.sl 3 = .own 3 v∧s.rw 3 = ⟨v,.sli 3 1 false (iL (ofN (zAz m k)))⟩∧s.sl 4 = int k∧(k ≤ 6)) (fun (k,v)=>6 - k) ((0,1)) (by refine ⟨?_,?_,?_,?_,by simp⟩ <;> (first | (simp (maxSteps:=5000000) -dsimp only [gr,reduceEqDiff,reduceLT,reduceAdd,reduceMod,Nat.reduceBEq,zaa,zac,zad,zab];first | done | rfl | (simp;done)) | assumption | rfl)) ?_
  intro (k,v) sa ⟨h0a,h3a,r3a,h4a,hIa⟩
  have hb:k < 6→(zdL .i64 (zne .i64 (m:Int) (k:Int)) 1 == 1) = m.testBit k:=fun hk=>zfy (by omega) (by omega)
  have hun:IntKind.u64.wrap (k:Int) = (k:Int):=zaL (by omega)
  have hlen:=ziD m k
  simp (maxSteps:=5000000) -dsimp only [↓gp,gq,reduceCtorEq,reduceEqDiff,reduceLT,reduceLeDiff,reduceAdd,reduceMul,reduceSub,Nat.reduceBEq,Int.reduceToNat,Int.reduceLE,Int.reduceLT,Int.reduceNeg,reduceMod,zac,zad,zab,zaa,gT,TK.isInt,TK.agg,Array.toList,h0a,h3a,r3a,h4a,hun,zaj]
  refine ⟨fun hk=>?_,fun hk=>?_⟩
  ·have hk:k < 6:=by omega
   rw [hb hk]
   refine ⟨fun hf=>⟨by omega,?_⟩,fun hf=>?_⟩
   ·exact zag ((k + 1,v + 1)) (by refine ⟨?_,?_,?_,?_,by omega⟩ <;> (first | (simp (maxSteps:=5000000) -dsimp only [gr,reduceEqDiff,reduceLT,reduceAdd,reduceMod,Nat.reduceBEq,zaa,zac,zad,zab,h0a,h3a,r3a,h4a,zae hk (by omega),zz0 hf,zaR,zcK];first | done | rfl | (simp;done)) | assumption | rfl)) (by first | omega | (simp only;omega) | (dsimp only;omega) | (show _ < _;simp;omega))
   ·exact zag ((k + 1,v)) (by refine ⟨?_,?_,?_,?_,by omega⟩ <;> (first | (simp (maxSteps:=5000000) -dsimp only [gr,reduceEqDiff,reduceLT,reduceAdd,reduceMod,Nat.reduceBEq,zaa,zac,zad,zab,h0a,h3a,r3a,h4a,zae hk (by omega),zCJ hf];first | done | rfl | (simp;done)) | assumption | rfl)) (by first | omega | (simp only;omega) | (dsimp only;omega) | (show _ < _;simp;omega))
  ·obtain rfl:k = 6:=by omega
   rfl
theorem zaS {n:Int} {xs:List Int} (h:zhP n xs):∃ m:Nat,n = m∧1 ≤ m∧m ≤ 6∧∀ x ∈ xs,0 ≤ x∧x < ((2 ^ m:Nat):Int)∧zaD x.toNat = 2:=by
 obtain ⟨m,rfl⟩:∃ m:Nat,n = (m:Int):=⟨n.toNat,by have:=h.1;omega⟩
 refine ⟨m,rfl,by have:=h.1;omega,by have:=h.2.1;omega,fun x hx=>?_⟩
 obtain ⟨i,hi,rfl⟩:=zbB 0 hx
 obtain ⟨h1,h2,h3⟩:=h.2.2 i hi
 have h1:=of_decide_eq_true h1
 rw [zdZ] at h1
 exact ⟨h1.2.2.1,h1.2.2.2,h2⟩
open Classical in
theorem zao {n:Int} {xs:List Int}:zap n xs = true ↔ zhP n xs:=decide_eq_true_iff
theorem zgv {n:Int} {xs:List Int} (h:zhP n xs):∀ x ∈ xs,0 ≤ x∧x < 64:=fun x hx=>by
 obtain ⟨i,hi,rfl⟩:=zbB 0 hx
 exact zcm (h.2.2 i hi).1
def za7 (gs:List Int) (n i k:Nat):List Int:=(List.range n).map fun t=>((nbr (gs.take (if t < i then gs.length else if t = i then k else 0)) t:Nat):Int)
theorem zdT (gs:List Int) (n i k:Nat):(za7 gs n i k).length = n:=by simp [za7]
theorem znY (gs:List Int) (n:Nat):List.replicate n (0:Int) = za7 gs n 0 0:=by
 refine List.ext_getElem (by simp [za7]) fun j h1 h2=>?_
 simp only [za7,List.getElem_replicate,List.getElem_map,List.getElem_range]
 have:(if j < 0 then gs.length else if j = 0 then 0 else 0) = 0:=by rw [if_neg (by omega)];split <;> rfl
 rw [this]
 rfl
theorem zuM {gs:List Int} {n i k:Nat} (h:i < n):(za7 gs n i k).getD i 0 = ((nbr (gs.take k) i:Nat):Int):=by
 rw [zdY 0 (by rw [zdT];exact h)]
 simp [za7]
theorem zqY {gs:List Int} {n i k:Nat} (h:i < n):(za7 gs n i k).set i ((nbr (gs.take (k + 1)) i:Nat):Int) = za7 gs n i (k + 1):=by
 refine List.ext_getElem (by simp [za7]) fun j h1 h2=>?_
 simp only [za7,List.getElem_set,List.getElem_map,List.getElem_range]
 by_cases e:i = j
 ·subst e;simp
 ·rw [if_neg e,if_neg (fun q:j = i=>e q.symm),if_neg (fun q:j = i=>e q.symm)]
theorem znZ {gs:List Int} {n i k:Nat} (h:nbr (gs.take (k + 1)) i = nbr (gs.take k) i):za7 gs n i (k + 1) = za7 gs n i k:=by
 refine List.ext_getElem (by simp [za7]) fun j h1 h2=>?_
 simp only [za7,List.getElem_map,List.getElem_range]
 by_cases h3:j < i
 ·rw [if_pos h3,if_pos h3]
 ·rw [if_neg h3,if_neg h3]
  by_cases e:j = i
  ·subst e;rw [if_pos rfl,if_pos rfl,h]
  ·rw [if_neg e,if_neg e]
theorem zqZ {gs:List Int} {n i:Nat}:za7 gs n i gs.length = za7 gs n (i + 1) 0:=by
 refine List.ext_getElem (by simp [za7]) fun j h1 h2=>?_
 simp only [za7,List.getElem_map,List.getElem_range]
 by_cases h3:j < i
 ·rw [if_pos h3,if_pos (by omega)]
 ·rw [if_neg h3]
  by_cases e:j = i
  ·rw [if_pos e,if_pos (by omega)]
  ·rw [if_neg e,if_neg (by omega)]
   split <;> rfl
def zdU (gs:List Int) (n:Nat):List Int:=(List.range n).map fun t=>((nbr gs t:Nat):Int)
theorem zq0 (gs:List Int) (n:Nat):za7 gs n n 0 = zdU gs n:=by
 refine List.ext_getElem (by simp [za7,zdU]) fun j h1 h2=>?_
 have:j < n:=by simpa [za7] using h1
 simp [za7,zdU,this]
theorem zmL {gs:List Int} {n i:Nat} (h:i < n):(zdU gs n).getD i 0 = ((nbr gs i:Nat):Int):=by
 rw [zdY 0 (by simp [zdU];exact h)]
 simp [zdU]
theorem zcy (n:Nat) (hn:n ≤ 6) (gs:List Int) (hg:∀ x ∈ gs,0 ≤ x∧x < 64):AC Tryz.prog 102 [.ag [int n,zbj gs]] (.fr 3 1 (iL (zdU gs n))):=by
 refine AC.go (rs:=[.tmp 2]) zbg zay Tryz.func102 rfl rfl rfl (by kernel_rfl) fun hl=>?_
 simp only [zbk,zbD,and_true,zcf,zdW,zcO,zc5,true_and] at hl
 simp (maxSteps:=5000000) -dsimp only [↓gp,gq,reduceCtorEq,reduceEqDiff,reduceLT,reduceLeDiff,reduceAdd,reduceMul,reduceSub,Nat.reduceBEq,Int.reduceToNat,Int.reduceLE,Int.reduceLT,Int.reduceNeg,reduceMod,zac,zad,zab,zaa,gT,TK.isInt,TK.agg,Array.toList]
 refine ⟨by omega,by omega,?_⟩
 refine zaq (fun (za:Nat × Nat × Nat) s=>match za with | (k,v,u)=>s.sl 1 = .ref 1 u 0∧s.rw 1 = ⟨u,.box 36 [int n,zbj gs]⟩∧s.sl 3 = .own 9 v∧s.rw 9 = ⟨v,.sli 3 1 false (iL (za7 gs n k 0))⟩∧s.sl 11 = int n∧s.sl 12 = int k∧(k ≤ n)) (fun (k,v,u)=>n - k) ((0,1,1)) (by refine ⟨?_,?_,?_,?_,?_,?_,by simp⟩ <;> (first | (simp (maxSteps:=5000000) -dsimp only [gr,reduceEqDiff,reduceLT,reduceAdd,reduceMod,Nat.reduceBEq,zaa,zac,zad,zab,zeT,Int.toNat_natCast,← znY];first | done | rfl | (simp;done)) | assumption | rfl)) ?_
 intro (k,v,u) sa ⟨h1a,r1a,h3a,r9a,h11a,h12a,hIa⟩
 simp (maxSteps:=5000000) -dsimp only [↓gp,gq,reduceCtorEq,reduceEqDiff,reduceLT,reduceLeDiff,reduceAdd,reduceMul,reduceSub,Nat.reduceBEq,Int.reduceToNat,Int.reduceLE,Int.reduceLT,Int.reduceNeg,reduceMod,zac,zad,zab,zaa,gT,TK.isInt,TK.agg,Array.toList,h1a,r1a,h3a,r9a,h11a,h12a,zdT]
 refine ⟨fun hk=>?_,fun hk=>?_⟩
 ·refine zaq (fun (zb:Nat × Nat) s=>match zb with | (j,v)=>s.sl 1 = .ref 1 u 0∧s.rw 1 = ⟨u,.box 36 [int n,zbj gs]⟩∧s.sl 3 = .own 9 v∧s.rw 9 = ⟨v,.sli 3 1 false (iL (za7 gs n k j))⟩∧s.sl 11 = int n∧s.sl 12 = int k∧s.sl 4 = int k∧s.sl 16 = zbj gs∧s.sl 17 = int gs.length∧s.sl 18 = int j∧(j ≤ gs.length)) (fun (j,v)=>gs.length - j) ((0,v)) (by refine ⟨?_,?_,?_,?_,?_,?_,?_,?_,?_,?_,by simp⟩ <;> (first | (simp (maxSteps:=5000000) -dsimp only [gr,reduceEqDiff,reduceLT,reduceAdd,reduceMod,Nat.reduceBEq,zaa,zac,zad,zab,h1a,r1a,h3a,r9a,h11a,h12a];first | done | rfl | (simp;done)) | assumption | rfl)) ?_
  intro (j,v) sb ⟨h1b,r1b,h3b,r9b,h11b,h12b,h4b,h16b,h17b,h18b,hIb⟩
  have hun:IntKind.u64.wrap (k:Int) = (k:Int):=zaL (by omega)
  simp (maxSteps:=5000000) -dsimp only [↓gp,gq,reduceCtorEq,reduceEqDiff,reduceLT,reduceLeDiff,reduceAdd,reduceMul,reduceSub,Nat.reduceBEq,Int.reduceToNat,Int.reduceLE,Int.reduceLT,Int.reduceNeg,reduceMod,zac,zad,zab,zaa,gT,TK.isInt,TK.agg,Array.toList,h1b,r1b,h3b,r9b,h11b,h12b,h4b,h16b,h17b,h18b,zdT,hun]
  refine ⟨fun hj=>⟨hj,hj,?_⟩,fun hj=>?_⟩
  ·have hx:=hg _ (zax 0 hj)
   obtain ⟨e,he⟩:=Int.eq_ofNat_of_zero_le hx.1
   rw [he,zfy (by omega) (by omega)]
   have hg':∀ x ∈ gs,x.toNat < 64:=fun x hx=>by have:=hg x hx;omega
   refine ⟨fun hf=>?_,fun hf=>?_⟩
   ·have hy:=zyA (i:=k) hj hg' (by rw [he,Int.toNat_natCast];exact hf)
    have h2k:2 ^ k < 64:=by have:2 ^ k < 2 ^ 6:=Nat.pow_lt_pow_right (by omega) (by omega);omega
    have hnl:=zqd (gs.take j) k
    have hxl:e ^^^ (e &&& 2 ^ k) < 64:=Nat.xor_lt_two_pow (n:=6) (by omega) (Nat.lt_of_le_of_lt Nat.and_le_left (by omega))
    have hor:ior .i64 ((za7 gs n k j).getD k 0) (zdr .i64 (e:Int) (zgs .i64 1 (k:Int))) = ((nbr (gs.take (j + 1)) k:Nat):Int):=by
     rw [zuM hk,zaJ (by omega),zcJ (by omega) (by omega),zhz (by omega) (by omega),hy,he,Int.toNat_natCast]
    exact ⟨hk,hk,hk,by omega,zag ((j + 1,v)) (by refine ⟨?_,?_,?_,?_,?_,?_,?_,?_,?_,?_,by omega⟩ <;> (first | (simp (maxSteps:=5000000) -dsimp only [gr,reduceEqDiff,reduceLT,reduceAdd,reduceMod,Nat.reduceBEq,zaa,zac,zad,zab,h1b,r1b,h3b,r9b,h11b,h12b,h4b,h16b,h17b,h18b,he,hor,zqY hk,zae hj (by omega)];first | done | rfl | (simp;done)) | assumption | rfl)) (by first | omega | (simp only;omega) | (dsimp only;omega) | (show _ < _;simp;omega))⟩
   ·have hy:za7 gs n k (j + 1) = za7 gs n k j:=znZ (zCo hj (by rw [he,Int.toNat_natCast];exact hf))
    exact zag ((j + 1,v)) (by refine ⟨?_,?_,?_,?_,?_,?_,?_,?_,?_,?_,by omega⟩ <;> (first | (simp (maxSteps:=5000000) -dsimp only [gr,reduceEqDiff,reduceLT,reduceAdd,reduceMod,Nat.reduceBEq,zaa,zac,zad,zab,h1b,r1b,h3b,r9b,h11b,h12b,h4b,h16b,h17b,h18b,zae hj (by omega),hy];first | done | rfl | (simp;done)) | assumption | rfl)) (by first | omega | (simp only;omega) | (dsimp only;omega) | (show _ < _;simp;omega))
  ·obtain rfl:j = gs.length:=by omega
   exact zag ((k + 1,v,u)) (by refine ⟨?_,?_,?_,?_,?_,?_,by omega⟩ <;> (first | (simp (maxSteps:=5000000) -dsimp only [gr,reduceEqDiff,reduceLT,reduceAdd,reduceMod,Nat.reduceBEq,zaa,zac,zad,zab,h1a,r1a,h3a,r9a,h11a,h12a,h1b,r1b,h3b,r9b,h11b,h12b,h4b,h16b,h17b,h18b,zae hk (by omega),← zqZ];first | done | rfl | (simp;done)) | assumption | rfl)) (by first | omega | (simp only;omega) | (dsimp only;omega) | (show _ < _;simp;omega))
 ·obtain rfl:k = n:=by omega
  rw [zq0]
theorem zdD (n:Nat) (gs:List Int) (hg:zhP n gs) (i:Nat) (hi:i < n):AC Tryz.prog 34 [.ag [int n,zbj gs],int i] (.im (int (nbr gs i:Nat))):=by
 refine AC.go (rs:=[.tmp 4]) zbg zay Tryz.func34 rfl rfl rfl (by kernel_rfl) fun hl=>?_
 simp only [zbk,zbD,and_true,zcf,zdW,zcO,zc5,zeh,true_and] at hl
 have hn:n ≤ 6:=by have:=hg.2.1;omega
 have hgt:zap n gs = true:=zdk hg
 have hin:∀ x ∈ gs,0 ≤ x∧x < 64:=zgv hg
 have hg':∀ x ∈ gs,x.toNat < 64:=fun x hx=>by have:=hin x hx;omega
 have hun:IntKind.u64.wrap (i:Int) = (i:Int):=zaL (by omega)
 simp (maxSteps:=5000000) -dsimp only [↓gp,gq,reduceCtorEq,reduceEqDiff,reduceLT,reduceLeDiff,reduceAdd,reduceMul,reduceSub,Nat.reduceBEq,Int.reduceToNat,Int.reduceLE,Int.reduceLT,Int.reduceNeg,reduceMod,zac,zad,zab,zaa,gT,TK.isInt,TK.agg,Array.toList]
 refine zaq (fun (k:Nat) s=>s.sl 1 = int i∧s.sl 2 = .ref 2 1 0∧s.rw 2 = ⟨1,.box 36 [int n,zbj gs]⟩∧s.sl 5 = int (nbr (gs.take k) i:Nat)∧s.sl 6 = int k∧(k ≤ gs.length)) (fun k=>gs.length - k) (0) (by refine ⟨?_,?_,?_,?_,?_,by simp⟩ <;> (first | (simp (maxSteps:=5000000) -dsimp only [gr,reduceEqDiff,reduceLT,reduceAdd,reduceMod,Nat.reduceBEq,zaa,zac,zad,zab];first | done | rfl | (simp;done)) | assumption | rfl)) ?_
 intro k sa ⟨h1a,h2a,r2a,h5a,h6a,hIa⟩
 simp (maxSteps:=5000000) -dsimp only [↓gp,gq,reduceCtorEq,reduceEqDiff,reduceLT,reduceLeDiff,reduceAdd,reduceMul,reduceSub,Nat.reduceBEq,Int.reduceToNat,Int.reduceLE,Int.reduceLT,Int.reduceNeg,reduceMod,zac,zad,zab,zaa,gT,TK.isInt,TK.agg,Array.toList,h1a,h2a,r2a,h5a,h6a,hun]
 refine ⟨fun h=>?_,fun h=>?_⟩
 ·refine zaf (zbn n gs) ?_
  simp (maxSteps:=5000000) -dsimp only [↓gp,gq,reduceCtorEq,reduceEqDiff,reduceLT,reduceLeDiff,reduceAdd,reduceMul,reduceSub,Nat.reduceBEq,Int.reduceToNat,Int.reduceLE,Int.reduceLT,Int.reduceNeg,reduceMod,zac,zad,zab,zaa,gT,TK.isInt,TK.agg,Array.toList,h1a,h2a,r2a,h5a,h6a,hun,hgt]
  refine zaf (zbo _ _ _) ?_
  have hd:(decide ((0:Int) ≤ i) && decide ((i:Int) ≤ IntKind.i64.wrap ((n:Int) - 1))) = true:=by
   rw [zat (by omega) (by omega)]
   simp
   omega
  have hx:=hin _ (zax 0 h)
  obtain ⟨e,he⟩:=Int.eq_ofNat_of_zero_le hx.1
  have hbt:(zdL .i64 (zne .i64 (e:Int) (i:Int)) 1 == 1) = e.testBit i:=zfy (by omega) (by omega)
  simp (maxSteps:=5000000) -dsimp only [↓gp,gq,reduceCtorEq,reduceEqDiff,reduceLT,reduceLeDiff,reduceAdd,reduceMul,reduceSub,Nat.reduceBEq,Int.reduceToNat,Int.reduceLE,Int.reduceLT,Int.reduceNeg,reduceMod,zac,zad,zab,zaa,gT,TK.isInt,TK.agg,Array.toList,h1a,h2a,r2a,h5a,h6a,hun,hd,he,hbt]
  have hd2:(decide True && decide ((i:Int) ≤ IntKind.i64.wrap ((n:Int) - 1))) = true:=by
   rw [zat (by omega) (by omega)]
   simp
   omega
  refine ⟨fun _=>⟨h,h,fun hf=>⟨h,h,?_⟩,fun hf=>?_⟩,fun hh=>by rw [hd2] at hh;cases hh⟩
  ·have hy:=zyA (i:=i) h hg' (by rw [he,Int.toNat_natCast];exact hf)
   have h2k:2 ^ i < 64:=by have:2 ^ i < 2 ^ 6:=Nat.pow_lt_pow_right (by omega) (by omega);omega
   have h2e:2 ^ i ≤ e:=Nat.ge_two_pow_of_testBit hf
   have hnl:=zqd (gs.take k) i
   have hxl:e ^^^ (e &&& 2 ^ i) < 64:=Nat.xor_lt_two_pow (n:=6) (by omega) (Nat.lt_of_le_of_lt Nat.and_le_left (by omega))
   have hst:=zDh e (by omega) i (by omega) hf
   have hor:ior .i64 ((nbr (gs.take k) i:Nat):Int) (IntKind.i64.wrap ((e:Int) - zgs .i64 1 (i:Int))) = ((nbr (gs.take (k + 1)) i:Nat):Int):=by
    have e3:(e:Int) - ((2 ^ i:Nat):Int) = ((e - 2 ^ i:Nat):Int):=by omega
    rw [zaJ (by omega),e3,zat (by omega) (by omega),hst,zhz (by omega) (by omega),hy,he,Int.toNat_natCast]
   exact zag (k + 1) (by refine ⟨?_,?_,?_,?_,?_,by omega⟩ <;> (first | (simp (maxSteps:=5000000) -dsimp only [gr,reduceEqDiff,reduceLT,reduceAdd,reduceMod,Nat.reduceBEq,zaa,zac,zad,zab,h1a,h2a,r2a,h5a,h6a,he,hun,hor,zae h (by omega)];first | done | rfl | (simp;done)) | assumption | rfl)) (by first | omega | (simp only;omega) | (dsimp only;omega) | (show _ < _;simp;omega))
  ·have hy:=zCo h (by rw [he,Int.toNat_natCast];exact hf)
   exact zag (k + 1) (by refine ⟨?_,?_,?_,?_,?_,by omega⟩ <;> (first | (simp (maxSteps:=5000000) -dsimp only [gr,reduceEqDiff,reduceLT,reduceAdd,reduceMod,Nat.reduceBEq,zaa,zac,zad,zab,h1a,h2a,r2a,h5a,h6a,hy,zae h (by omega)];first | done | rfl | (simp;done)) | assumption | rfl)) (by first | omega | (simp only;omega) | (dsimp only;omega) | (show _ < _;simp;omega))
 ·obtain rfl:k = gs.length:=by omega
  rw [List.take_length]
end Go.Proofs.YtpnknaaehcljoaaGreat
