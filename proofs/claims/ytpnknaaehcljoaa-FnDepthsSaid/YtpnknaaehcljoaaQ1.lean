/- DERIVED by an AI agent. -/
import Derived.Test.YtpnknaaehcljoaaB1
import Derived.Test.YtpnknaaehcljoaaP1
namespace Go.Proofs.Ytpnknaaehcljoaa
open Go.Abs
open Nat (reduceEqDiff reduceMod reduceAdd reduceLT reduceLeDiff reduceSub reduceMul)
set_option linter.unusedSimpArgs false
set_option linter.unusedVariables false
theorem zdg (a b c:Int):AC Try.prog 94 [int a,int b,int c] (.im (bool (decide (b ≤ a) && decide (a ≤ c)))):=by
 refine AC.go (rs:=[.tmp 6]) zbe zax Try.func94 rfl rfl rfl (by kernel_rfl) fun _=>?_
 simp (maxSteps:=5000000) -dsimp only [↓gp,gq,reduceCtorEq,reduceEqDiff,reduceLT,reduceLeDiff,reduceAdd,reduceMul,reduceSub,Nat.reduceBEq,Int.reduceToNat,Int.reduceLE,Int.reduceLT,Int.reduceNeg,reduceMod,zac,zad,zab,zaa,gT,TK.isInt,TK.agg,Array.toList]
 exact ⟨fun h=>by simp [h],fun h=>by simp [h]⟩
theorem zaK (n:Nat) (h:n < 9223372036854775808):AC Try.prog 92 [int n] (.im (int (zap n:Nat))):=by
 refine AC.go (rs:=[.tmp 2]) zbe zax Try.func92 rfl rfl rfl (by kernel_rfl) fun hl=>?_
 simp (maxSteps:=5000000) -dsimp only [↓gp,gq,reduceCtorEq,reduceEqDiff,reduceLT,reduceLeDiff,reduceAdd,reduceMul,reduceSub,Nat.reduceBEq,Int.reduceToNat,Int.reduceLE,Int.reduceLT,Int.reduceNeg,reduceMod,zac,zad,zab,zaa,gT,TK.isInt,TK.agg,Array.toList]
 refine zao (fun (x:Nat × Nat) s=>s.sl 0 = int x.1∧s.sl 3 = int x.2∧x.1 ≤ n∧x.2 + zap x.1 = zap n) (fun x=>x.1) (n,0) ⟨by simp (maxSteps:=5000000) -dsimp only [gr,reduceEqDiff,reduceLT,reduceAdd,reduceMod,Nat.reduceBEq,zaa,zac,zad,zab],by simp (maxSteps:=5000000) -dsimp only [gr,reduceEqDiff,reduceLT,reduceAdd,reduceMod,Nat.reduceBEq,zaa,zac,zad,zab];rfl,by simp,by simp⟩ ?_
 intro ⟨m,a⟩ s1 ⟨h0,h3,hm,hp⟩
 simp only at h0 h3 hm hp
 have hpl:=zC8 n
 simp (maxSteps:=5000000) -dsimp only [↓gp,gq,reduceCtorEq,reduceEqDiff,reduceLT,reduceLeDiff,reduceAdd,reduceMul,reduceSub,Nat.reduceBEq,Int.reduceToNat,Int.reduceLE,Int.reduceLT,Int.reduceNeg,reduceMod,zac,zad,zab,zaa,gT,TK.isInt,TK.agg,Array.toList,h0,h3,zAl (show m < 9223372036854775808 by omega),zuf]
 refine ⟨fun h1=>?_,fun h1=>?_⟩
 ·have hm0:m ≠ 0:=by omega
  rw [ziF hm0] at hp
  refine zag (m / 2,a + m % 2) ⟨by simp (maxSteps:=5000000) -dsimp only [gr,reduceEqDiff,reduceLT,reduceAdd,reduceMod,Nat.reduceBEq,zaa,zac,zad,zab],?_,by simp only;omega,by simp only;omega⟩ (by simp only;omega)
  simp (maxSteps:=5000000) -dsimp only [gr,reduceEqDiff,reduceLT,reduceAdd,reduceMod,Nat.reduceBEq,zaa,zac,zad,zab]
  rw [zaq (by omega) (by omega)]
  rfl
 ·have:m = 0:=by omega
  subst this
  rw [zbA] at hp
  omega
theorem zcI {s:Int} (h0:0 ≤ s) (h:s < 9223372036854775808):AC Try.prog 92 [int s] (.im (int (zap s.toNat:Nat))):=by
 obtain ⟨m,rfl⟩:=Int.eq_ofNat_of_zero_le h0
 exact zaK m (by omega)
theorem zf7 (n:Nat) (h:n < 64):AC Try.prog 186 [u64 n] (.im (int (zap n:Nat))):=by
 refine AC.go (rs:=[.tmp 2]) zbe zax Try.func186 rfl rfl rfl (by kernel_rfl) fun hl=>?_
 simp (maxSteps:=5000000) -dsimp only [↓gp,gq,reduceCtorEq,reduceEqDiff,reduceLT,reduceLeDiff,reduceAdd,reduceMul,reduceSub,Nat.reduceBEq,Int.reduceToNat,Int.reduceLE,Int.reduceLT,Int.reduceNeg,reduceMod,zac,zad,zab,zaa,gT,TK.isInt,TK.agg,Array.toList]
 rw [zhR h]
 clear hl
 obtain ⟨m,rfl⟩:∃ m:Fin 64,m.val = n:=⟨⟨n,h⟩,rfl⟩
 clear h
 revert m
 decide +kernel
theorem zh2 (n:Nat) (h:n < 64):AC Try.prog 148 [u64 n] (.im (int (zap n:Nat))):=by
 refine AC.go (rs:=[.tmp 2]) zbe zax Try.func148 rfl rfl rfl (by kernel_rfl) fun hl=>?_
 simp (maxSteps:=5000000) -dsimp only [↓gp,gq,reduceCtorEq,reduceEqDiff,reduceLT,reduceLeDiff,reduceAdd,reduceMul,reduceSub,Nat.reduceBEq,Int.reduceToNat,Int.reduceLE,Int.reduceLT,Int.reduceNeg,reduceMod,zac,zad,zab,zaa,gT,TK.isInt,TK.agg,Array.toList]
 refine zaf (zf7 n h) ?_
 simp (maxSteps:=5000000) -dsimp only [↓gp,gq,reduceCtorEq,reduceEqDiff,reduceLT,reduceLeDiff,reduceAdd,reduceMul,reduceSub,Nat.reduceBEq,Int.reduceToNat,Int.reduceLE,Int.reduceLT,Int.reduceNeg,reduceMod,zac,zad,zab,zaa,gT,TK.isInt,TK.agg,Array.toList]
theorem zdx (n s:Int):AC Try.prog 147 [int n,int s] (.im (bool (zdv n s))):=by
 refine AC.go (rs:=[.tmp 4]) zbe zax Try.func147 rfl rfl rfl (by kernel_rfl) fun hl=>?_
 simp (maxSteps:=5000000) -dsimp only [↓gp,gq,reduceCtorEq,reduceEqDiff,reduceLT,reduceLeDiff,reduceAdd,reduceMul,reduceSub,Nat.reduceBEq,Int.reduceToNat,Int.reduceLE,Int.reduceLT,Int.reduceNeg,reduceMod,zac,zad,zab,zaa,gT,TK.isInt,TK.agg,Array.toList,zdv]
 refine ⟨fun h0=>⟨fun h6=>⟨fun hs=>?_,fun hs=>by omega⟩,fun h6=>by omega⟩,fun h0=>by omega⟩
 obtain ⟨m,rfl⟩:=Int.eq_ofNat_of_zero_le h0
 rw [zj7 (by omega),zbB (by omega),zfM]
 exact ⟨by omega,by simp only [h0,h6,hs,true_and]⟩
theorem znY (n s:Int):AC Try.prog 117 [int n,int s] (.im (bool (zdv n s))):=by
 refine AC.go (rs:=[.tmp 4]) zbe zax Try.func117 rfl rfl rfl (by kernel_rfl) fun hl=>?_
 simp (maxSteps:=5000000) -dsimp only [↓gp,gq,reduceCtorEq,reduceEqDiff,reduceLT,reduceLeDiff,reduceAdd,reduceMul,reduceSub,Nat.reduceBEq,Int.reduceToNat,Int.reduceLE,Int.reduceLT,Int.reduceNeg,reduceMod,zac,zad,zab,zaa,gT,TK.isInt,TK.agg,Array.toList]
 refine zaf (zdg _ _ _) ?_
 simp (maxSteps:=5000000) -dsimp only [↓gp,gq,reduceCtorEq,reduceEqDiff,reduceLT,reduceLeDiff,reduceAdd,reduceMul,reduceSub,Nat.reduceBEq,Int.reduceToNat,Int.reduceLE,Int.reduceLT,Int.reduceNeg,reduceMod,zac,zad,zab,zaa,gT,TK.isInt,TK.agg,Array.toList]
 refine ⟨fun h=>?_,fun h=>?_⟩
 ·simp only [Bool.and_eq_true,decide_eq_true_eq] at h
  obtain ⟨h0,h6⟩:=h
  obtain ⟨m,rfl⟩:=Int.eq_ofNat_of_zero_le h0
  have hp:=zaz (m:=m) (by omega)
  have e:zdv (m:Int) s = decide (0 ≤ s∧s < ((2 ^ m:Nat):Int)):=by
   rw [zdv,zfM]
   simp only [h0,h6,true_and]
  rw [e,zj7 (by omega),zbB (by omega)]
  generalize (2 ^ m:Nat) = q at hp
  rw [zaq (by omega) (by omega)]
  refine ⟨by omega,zaf (zdg _ _ _) ?_⟩
  simp (maxSteps:=5000000) -dsimp only [↓gp,gq,reduceCtorEq,reduceEqDiff,reduceLT,reduceLeDiff,reduceAdd,reduceMul,reduceSub,Nat.reduceBEq,Int.reduceToNat,Int.reduceLE,Int.reduceLT,Int.reduceNeg,reduceMod,zac,zad,zab,zaa,gT,TK.isInt,TK.agg,Array.toList]
  rw [← Bool.decide_and]
  exact decide_eq_decide.2 (by omega)
 ·refine decide_eq_false fun hh=>?_
  simp [hh.1,hh.2.1] at h
def zkG (s:Int):Int:=if 0 ≤ s∧s < 64 then (zap s.toNat:Nat) else -1
theorem zqU (s:Int):zdv 6 s = decide (0 ≤ s∧s < 64):=by
 simp [zdv]
theorem zaG (s:Int):AC Try.prog 90 [int s] (.im (int (zkG s))):=by
 refine AC.go (rs:=[.tmp 2]) zbe zax Try.func90 rfl rfl rfl (by kernel_rfl) fun hl=>?_
 simp (maxSteps:=5000000) -dsimp only [↓gp,gq,reduceCtorEq,reduceEqDiff,reduceLT,reduceLeDiff,reduceAdd,reduceMul,reduceSub,Nat.reduceBEq,Int.reduceToNat,Int.reduceLE,Int.reduceLT,Int.reduceNeg,reduceMod,zac,zad,zab,zaa,gT,TK.isInt,TK.agg,Array.toList]
 refine zaf (zdx _ _) ?_
 simp (maxSteps:=5000000) -dsimp only [↓gp,gq,reduceCtorEq,reduceEqDiff,reduceLT,reduceLeDiff,reduceAdd,reduceMul,reduceSub,Nat.reduceBEq,Int.reduceToNat,Int.reduceLE,Int.reduceLT,Int.reduceNeg,reduceMod,zac,zad,zab,zaa,gT,TK.isInt,TK.agg,Array.toList,zqU]
 refine ⟨fun h=>?_,fun h=>?_⟩
 ·have h:¬ (0 ≤ s∧s < 64):=by simp at h;omega
  rw [zkG,if_neg h]
 ·have h:0 ≤ s∧s < 64:=by simpa using h
  obtain ⟨m,rfl⟩:=Int.eq_ofNat_of_zero_le h.1
  rw [zj7 (by omega)]
  refine zaf (zh2 m (by omega)) ?_
  simp (maxSteps:=5000000) -dsimp only [↓gp,gq,reduceCtorEq,reduceEqDiff,reduceLT,reduceLeDiff,reduceAdd,reduceMul,reduceSub,Nat.reduceBEq,Int.reduceToNat,Int.reduceLE,Int.reduceLT,Int.reduceNeg,reduceMod,zac,zad,zab,zaa,gT,TK.isInt,TK.agg,Array.toList]
  rw [zkG,if_pos h];rfl
def zkH (a b:Int):Bool:=decide (0 ≤ a∧a < 64) && (decide (0 ≤ b∧b < 64) && (if zkG a = zkG b then decide (a < b) else decide (zkG a < zkG b)))
theorem zh3 (a b:Int):AC Try.prog 184 [int a,int b] (.im (bool (zkH a b))):=by
 refine AC.go (rs:=[.tmp 4]) zbe zax Try.func184 rfl rfl rfl (by kernel_rfl) fun hl=>?_
 simp (maxSteps:=5000000) -dsimp only [↓gp,gq,reduceCtorEq,reduceEqDiff,reduceLT,reduceLeDiff,reduceAdd,reduceMul,reduceSub,Nat.reduceBEq,Int.reduceToNat,Int.reduceLE,Int.reduceLT,Int.reduceNeg,reduceMod,zac,zad,zab,zaa,gT,TK.isInt,TK.agg,Array.toList]
 refine zaf (zdx _ _) ?_
 simp (maxSteps:=5000000) -dsimp only [↓gp,gq,reduceCtorEq,reduceEqDiff,reduceLT,reduceLeDiff,reduceAdd,reduceMul,reduceSub,Nat.reduceBEq,Int.reduceToNat,Int.reduceLE,Int.reduceLT,Int.reduceNeg,reduceMod,zac,zad,zab,zaa,gT,TK.isInt,TK.agg,Array.toList,zqU]
 unfold zkH
 refine ⟨fun h=>zaf (zdx _ _) ?_,fun h=>?_⟩
 ·have ha:decide (0 ≤ a∧a < 64) = true:=by simpa using h
  simp (maxSteps:=5000000) -dsimp only [↓gp,gq,reduceCtorEq,reduceEqDiff,reduceLT,reduceLeDiff,reduceAdd,reduceMul,reduceSub,Nat.reduceBEq,Int.reduceToNat,Int.reduceLE,Int.reduceLT,Int.reduceNeg,reduceMod,zac,zad,zab,zaa,gT,TK.isInt,TK.agg,Array.toList,zqU]
  rw [ha]
  refine ⟨fun hb=>?_,fun hb=>?_⟩
  ·have hb:decide (0 ≤ b∧b < 64) = false:=by rwa [Bool.not_eq_true'] at hb
   rw [hb];rfl
  ·have hb:decide (0 ≤ b∧b < 64) = true:=by simpa using hb
   rw [hb]
   refine zaf (zaG a) ?_
   simp (maxSteps:=5000000) -dsimp only [↓gp,gq,reduceCtorEq,reduceEqDiff,reduceLT,reduceLeDiff,reduceAdd,reduceMul,reduceSub,Nat.reduceBEq,Int.reduceToNat,Int.reduceLE,Int.reduceLT,Int.reduceNeg,reduceMod,zac,zad,zab,zaa,gT,TK.isInt,TK.agg,Array.toList]
   refine zaf (zaG b) ?_
   simp (maxSteps:=5000000) -dsimp only [↓gp,gq,reduceCtorEq,reduceEqDiff,reduceLT,reduceLeDiff,reduceAdd,reduceMul,reduceSub,Nat.reduceBEq,Int.reduceToNat,Int.reduceLE,Int.reduceLT,Int.reduceNeg,reduceMod,zac,zad,zab,zaa,gT,TK.isInt,TK.agg,Array.toList]
   refine ⟨fun hs=>zaf (zaG a) ?_,fun hs=>?_⟩
   ·simp (maxSteps:=5000000) -dsimp only [↓gp,gq,reduceCtorEq,reduceEqDiff,reduceLT,reduceLeDiff,reduceAdd,reduceMul,reduceSub,Nat.reduceBEq,Int.reduceToNat,Int.reduceLE,Int.reduceLT,Int.reduceNeg,reduceMod,zac,zad,zab,zaa,gT,TK.isInt,TK.agg,Array.toList]
    refine zaf (zaG b) ?_
    simp (maxSteps:=5000000) -dsimp only [↓gp,gq,reduceCtorEq,reduceEqDiff,reduceLT,reduceLeDiff,reduceAdd,reduceMul,reduceSub,Nat.reduceBEq,Int.reduceToNat,Int.reduceLE,Int.reduceLT,Int.reduceNeg,reduceMod,zac,zad,zab,zaa,gT,TK.isInt,TK.agg,Array.toList]
    have hs:¬ zkG a = zkG b:=by simpa using hs
    rw [if_neg hs]
   ·have hs:zkG a = zkG b:=by simpa using hs
    rw [if_pos hs]
 ·have ha:decide (0 ≤ a∧a < 64) = false:=by rwa [Bool.not_eq_true'] at h
  rw [ha];rfl
theorem zb2 (F s:Nat) (hF:F < 18446744073709551616) (hs:s < 64):AC Try.prog 130 [u64 F,int s] (.im (bool (F.testBit s))):=by
 refine AC.go (rs:=[.tmp 4]) zbe zax Try.func130 rfl rfl rfl (by kernel_rfl) fun hl=>?_
 have hw:IntKind.u64.wrap (s:Int) = (s:Int):=zbG (by omega)
 simp (maxSteps:=5000000) -dsimp only [↓gp,gq,reduceCtorEq,reduceEqDiff,reduceLT,reduceLeDiff,reduceAdd,reduceMul,reduceSub,Nat.reduceBEq,Int.reduceToNat,Int.reduceLE,Int.reduceLT,Int.reduceNeg,reduceMod,zac,zad,zab,zaa,gT,TK.isInt,TK.agg,Array.toList,hw,zAm hF hs]
theorem zf6 (F:Nat) (hF:F < 18446744073709551616):AC Try.prog 126 [u64 F] (.fr 3 1 (iL (ofN (zbL F.testBit)))):=by
 refine AC.go (rs:=[.tmp 2]) zbe zax Try.func126 rfl rfl rfl (by kernel_rfl) fun hl=>?_
 simp (maxSteps:=5000000) -dsimp only [↓gp,gq,reduceCtorEq,reduceEqDiff,reduceLT,reduceLeDiff,reduceAdd,reduceMul,reduceSub,Nat.reduceBEq,Int.reduceToNat,Int.reduceLE,Int.reduceLT,Int.reduceNeg,reduceMod,zac,zad,zab,zaa,gT,TK.isInt,TK.agg,Array.toList]
 refine zao (fun (za:Nat × Nat) s=>match za with | (k,v)=>s.sl 0 = u64 F∧s.sl 3 = .own 3 v∧s.rw 3 = ⟨v,.sli 3 1 false (iL (ofN (zf1 F.testBit k 0)))⟩∧s.sl 4 = int k∧(k ≤ 7)) (fun (k,v)=>7 - k) ((0,1)) (by refine ⟨?_,?_,?_,?_,by simp⟩ <;> (first | (simp (maxSteps:=5000000) -dsimp only [gr,reduceEqDiff,reduceLT,reduceAdd,reduceMod,Nat.reduceBEq,zaa,zac,zad,zab];first | done | rfl | (simp;done)) | assumption | rfl)) ?_
 intro (k,v) sa ⟨h0a,h3a,r3a,h4a,hIa⟩
 simp (maxSteps:=5000000) -dsimp only [↓gp,gq,reduceCtorEq,reduceEqDiff,reduceLT,reduceLeDiff,reduceAdd,reduceMul,reduceSub,Nat.reduceBEq,Int.reduceToNat,Int.reduceLE,Int.reduceLT,Int.reduceNeg,reduceMod,zac,zad,zab,zaa,gT,TK.isInt,TK.agg,Array.toList,h0a,h3a,r3a,h4a]
 refine ⟨fun hk=>?_,fun hk=>?_⟩
 ·refine zao (fun (zb:Nat × Nat) s=>match zb with | (m,v)=>s.sl 0 = u64 F∧s.sl 3 = .own 3 v∧s.rw 3 = ⟨v,.sli 3 1 false (iL (ofN (zf1 F.testBit k m)))⟩∧s.sl 4 = int k∧s.sl 5 = int m∧(m ≤ 64)) (fun (m,v)=>64 - m) ((0,v)) (by refine ⟨?_,?_,?_,?_,?_,by simp⟩ <;> (first | (simp (maxSteps:=5000000) -dsimp only [gr,reduceEqDiff,reduceLT,reduceAdd,reduceMod,Nat.reduceBEq,zaa,zac,zad,zab,h0a,h3a,r3a,h4a];first | done | rfl | (simp;done)) | assumption | rfl)) ?_
  intro (m,v) sb ⟨h0b,h3b,r3b,h4b,h5b,hIb⟩
  simp (maxSteps:=5000000) -dsimp only [↓gp,gq,reduceCtorEq,reduceEqDiff,reduceLT,reduceLeDiff,reduceAdd,reduceMul,reduceSub,Nat.reduceBEq,Int.reduceToNat,Int.reduceLE,Int.reduceLT,Int.reduceNeg,reduceMod,zac,zad,zab,zaa,gT,TK.isInt,TK.agg,Array.toList,h0b,h3b,r3b,h4b,h5b]
  refine ⟨fun hm=>?_,fun hm=>?_⟩
  ·have hm:m < 64:=by omega
   refine zaf (zb2 F m hF hm) ?_
   simp (maxSteps:=5000000) -dsimp only [↓gp,gq,reduceCtorEq,reduceEqDiff,reduceLT,reduceLeDiff,reduceAdd,reduceMul,reduceSub,Nat.reduceBEq,Int.reduceToNat,Int.reduceLE,Int.reduceLT,Int.reduceNeg,reduceMod,zac,zad,zab,zaa,gT,TK.isInt,TK.agg,Array.toList,h0b,h3b,r3b,h4b,h5b]
   have hlen:=zm7 F.testBit k m
   have hz:zkG (m:Int) = (zap m:Nat):=by rw [zkG,if_pos (by omega)];simp
   refine ⟨fun hf=>zaf (zaG _) ?_,fun hf=>?_⟩
   ·simp (maxSteps:=5000000) -dsimp only [↓gp,gq,reduceCtorEq,reduceEqDiff,reduceLT,reduceLeDiff,reduceAdd,reduceMul,reduceSub,Nat.reduceBEq,Int.reduceToNat,Int.reduceLE,Int.reduceLT,Int.reduceNeg,reduceMod,zac,zad,zab,zaa,gT,TK.isInt,TK.agg,Array.toList,h0b,h3b,r3b,h4b,h5b,hz]
    refine ⟨fun hp=>?_,fun hp=>?_⟩
    ·have hy:zf1 F.testBit k (m + 1) = zf1 F.testBit k m ++ [m]:=zug (by rw [hf];simp at hp ⊢;omega)
     refine ⟨by rw [zah];omega,?_⟩
     exact zag ((m + 1,v + 1)) (by refine ⟨?_,?_,?_,?_,?_,by omega⟩ <;> (first | (simp (maxSteps:=5000000) -dsimp only [gr,reduceEqDiff,reduceLT,reduceAdd,reduceMod,Nat.reduceBEq,zaa,zac,zad,zab,h0b,h3b,r3b,h4b,h5b,zae hm (by omega),hy,zbf,zdK];first | done | rfl | (simp;done)) | assumption | rfl)) (by first | omega | (simp only;omega) | (dsimp only;omega) | (show _ < _;simp;omega))
    ·have hy:zf1 F.testBit k (m + 1) = zf1 F.testBit k m:=zm6 (by rw [hf];simp at hp ⊢;omega)
     exact zag ((m + 1,v)) (by refine ⟨?_,?_,?_,?_,?_,by omega⟩ <;> (first | (simp (maxSteps:=5000000) -dsimp only [gr,reduceEqDiff,reduceLT,reduceAdd,reduceMod,Nat.reduceBEq,zaa,zac,zad,zab,h0b,h3b,r3b,h4b,h5b,zae hm (by omega),hy];first | done | rfl | (simp;done)) | assumption | rfl)) (by first | omega | (simp only;omega) | (dsimp only;omega) | (show _ < _;simp;omega))
   ·have hy:zf1 F.testBit k (m + 1) = zf1 F.testBit k m:=zm6 (by rw [hf];rfl)
    exact zag ((m + 1,v)) (by refine ⟨?_,?_,?_,?_,?_,by omega⟩ <;> (first | (simp (maxSteps:=5000000) -dsimp only [gr,reduceEqDiff,reduceLT,reduceAdd,reduceMod,Nat.reduceBEq,zaa,zac,zad,zab,h0b,h3b,r3b,h4b,h5b,zae hm (by omega),hy];first | done | rfl | (simp;done)) | assumption | rfl)) (by first | omega | (simp only;omega) | (dsimp only;omega) | (show _ < _;simp;omega))
  ·have:m = 64:=by omega
   subst this
   have hk:k < 7:=by omega
   exact zag ((k + 1,v)) (by refine ⟨?_,?_,?_,?_,by omega⟩ <;> (first | (simp (maxSteps:=5000000) -dsimp only [gr,reduceEqDiff,reduceLT,reduceAdd,reduceMod,Nat.reduceBEq,zaa,zac,zad,zab,h0a,h3a,r3a,h4a,h0b,h3b,r3b,h4b,h5b,zae hk (by omega),zj8];first | done | rfl | (simp;done)) | assumption | rfl)) (by first | omega | (simp only;omega) | (dsimp only;omega) | (show _ < _;simp;omega))
 ·have:k = 7:=by omega
  subst this
  rw [zm5]
theorem zeu (n:Nat) (hn:n ≤ 6) (g:FuncId) (caps:List PV) (w:Nat→Bool) (hcap:∀ rw,caps.map (zcl rw 3) = caps) (hw:∀ s:Nat,s < 2 ^ n→AC Try.prog g (int s :: caps) (.im (bool (w s)))) :
 AC Try.prog 164 [int n,.clo g caps] (.im (u64 (zaE w (2 ^ n):Nat))):=by
 refine AC.go (rs:=[.tmp 4]) zbe zax Try.func164 rfl rfl rfl (by kernel_rfl) fun hl=>?_
 have h64:=zaz hn
 have hsh:znN .i64 1 (n:Int) = ((2 ^ n:Nat):Int):=zbB hn
 have hun:IntKind.u64.wrap (n:Int) = (n:Int):=zbG (by omega)
 simp (maxSteps:=5000000) -dsimp only [↓gp,gq,reduceCtorEq,reduceEqDiff,reduceLT,reduceLeDiff,reduceAdd,reduceMul,reduceSub,Nat.reduceBEq,Int.reduceToNat,Int.reduceLE,Int.reduceLT,Int.reduceNeg,reduceMod,zac,zad,zab,zaa,gT,TK.isInt,TK.agg,Array.toList]
 refine zao (fun (k:Nat) s=>s.sl 0 = int n∧s.sl 1 = .clo g caps∧s.sl 5 = u64 (zaE w k:Nat)∧s.sl 6 = int k∧(k ≤ 2 ^ n)) (fun k=>2 ^ n - k) (0) (by refine ⟨?_,?_,?_,?_,by simp⟩ <;> (first | (simp (maxSteps:=5000000) -dsimp only [gr,reduceEqDiff,reduceLT,reduceAdd,reduceMod,Nat.reduceBEq,zaa,zac,zad,zab];first | done | rfl | (simp;done)) | assumption | rfl)) ?_
 intro k sa ⟨h0a,h1a,h5a,h6a,hIa⟩
 have hlt:=zbu w k
 have h2k:(2:Nat) ^ k ≤ 2 ^ 64:=Nat.pow_le_pow_right (by omega) (by omega)
 simp (maxSteps:=5000000) -dsimp only [↓gp,gq,reduceCtorEq,reduceEqDiff,reduceLT,reduceLeDiff,reduceAdd,reduceMul,reduceSub,Nat.reduceBEq,Int.reduceToNat,Int.reduceLE,Int.reduceLT,Int.reduceNeg,reduceMod,zac,zad,zab,zaa,gT,TK.isInt,TK.agg,Array.toList,h0a,h1a,h5a,h6a,hun,hsh,hcap]
 refine ⟨fun hk=>zaf (hw k hk) ?_,fun hk=>?_⟩
 ·have huk:IntKind.u64.wrap (k:Int) = (k:Int):=zbG (by omega)
  have h2s:(2:Nat) ^ k < 18446744073709551616:=by
   have:(2:Nat) ^ k < 2 ^ 64:=Nat.pow_lt_pow_right (by omega) (by omega)
   omega
  have hor:ior .u64 (zaE w k:Nat) (znN .u64 1 (k:Int)) = ((zaE w k ||| 2 ^ k:Nat):Int):=by
   rw [zCa (by omega),zDa (by omega) h2s]
  simp (maxSteps:=5000000) -dsimp only [↓gp,gq,reduceCtorEq,reduceEqDiff,reduceLT,reduceLeDiff,reduceAdd,reduceMul,reduceSub,Nat.reduceBEq,Int.reduceToNat,Int.reduceLE,Int.reduceLT,Int.reduceNeg,reduceMod,zac,zad,zab,zaa,gT,TK.isInt,TK.agg,Array.toList,h0a,h1a,h5a,h6a,hun,hsh,huk,hor]
  refine ⟨fun hf=>?_,fun hf=>?_⟩
  ·have hm:zaE w (k + 1) = zaE w k ||| 2 ^ k:=by rw [zaE,if_pos hf]
   exact zag (k + 1) (by refine ⟨?_,?_,?_,?_,by omega⟩ <;> (first | (simp (maxSteps:=5000000) -dsimp only [gr,reduceEqDiff,reduceLT,reduceAdd,reduceMod,Nat.reduceBEq,zaa,zac,zad,zab,h0a,h1a,h5a,h6a,zae hk (by omega),huk,hor,hm];first | done | rfl | (simp;done)) | assumption | rfl)) (by first | omega | (simp only;omega) | (dsimp only;omega) | (show _ < _;simp;omega))
  ·have hm:zaE w (k + 1) = zaE w k:=by rw [zaE,if_neg (by rw [hf];decide)]
   exact zag (k + 1) (by refine ⟨?_,?_,?_,?_,by omega⟩ <;> (first | (simp (maxSteps:=5000000) -dsimp only [gr,reduceEqDiff,reduceLT,reduceAdd,reduceMod,Nat.reduceBEq,zaa,zac,zad,zab,h0a,h1a,h5a,h6a,zae hk (by omega),hm];first | done | rfl | (simp;done)) | assumption | rfl)) (by first | omega | (simp only;omega) | (dsimp only;omega) | (show _ < _;simp;omega))
 ·have:k = 2 ^ n:=by omega
  rw [this]
theorem zmB {l:List Nat} {p:Nat→Bool} {k:Nat} (h:k < l.length) (hp:p (l.getD k 0) = true):(l.take (k + 1)).filter p = (l.take k).filter p ++ [l.getD k 0]:=by
 rw [zaR 0 h,List.filter_append];simp only [List.filter_cons,hp,if_true,List.filter_nil]
theorem zqS {l:List Nat} {p:Nat→Bool} {k:Nat} (h:k < l.length) (hp:p (l.getD k 0) = false):(l.take (k + 1)).filter p = (l.take k).filter p:=by
 rw [zaR 0 h,List.filter_append];simp only [List.filter_cons,hp,Bool.false_eq_true,if_false,List.filter_nil,List.append_nil]
theorem zzT {l:List Nat} {p:Nat→Bool}:(l.filter p).length ≤ l.length:=List.length_filter_le _ _
noncomputable def inF (xs:List Int) (s:Nat):Bool:=decide ((s:Int) ∈ xs)
noncomputable def zdR (xs:List Int) (k:Nat):List Bool:=(List.range 64).map fun s=>inF (xs.take k) s
theorem zd3 (xs:List Int) (k:Nat):(zdR xs k).length = 64:=by simp [zdR]
theorem zqT (xs:List Int):List.replicate 64 false = zdR xs 0:=by
 refine List.ext_getElem (by simp [zdR]) fun j h1 h2=>?_
 rw [List.getElem_replicate]
 simp [zdR,inF]
theorem zuK {xs:List Int} {k:Nat} (h:k < xs.length) (hx:0 ≤ xs.getD k 0∧xs.getD k 0 < 64):(zdR xs k).set (xs.getD k 0).toNat true = zdR xs (k + 1):=by
 refine List.ext_getElem (by simp [zdR]) fun j h1 h2=>?_
 simp only [zdR,List.getElem_set,List.getElem_map,List.getElem_range]
 have e:inF (xs.take (k + 1)) j = (inF (xs.take k) j || decide ((j:Int) = xs.getD k 0)):=by
  unfold inF
  rw [zaR 0 h,← Bool.decide_or]
  exact decide_eq_decide.2 (by simp only [List.mem_append,List.mem_singleton])
 rw [e]
 by_cases hj:(xs.getD k 0).toNat = j
 ·rw [if_pos hj]
  have:(j:Int) = xs.getD k 0:=by omega
  simp only [this,decide_true,Bool.or_true]
 ·rw [if_neg hj]
  have:¬ (j:Int) = xs.getD k 0:=by omega
  simp only [this,decide_false,Bool.or_false]
theorem zdH (xs:List Int) (hx:∀ x ∈ xs,0 ≤ x∧x < 64):AC Try.prog 162 [zbv xs] (.fr 3 1 (iL (ofN (zbL (inF xs))))):=by
 refine AC.go (rs:=[.tmp 2]) zbe zax Try.func162 rfl rfl rfl (by kernel_rfl) fun hl=>?_
 simp only [za6,zbt,and_true,zeA,zeY,true_and] at hl
 simp (maxSteps:=5000000) -dsimp only [↓gp,gq,reduceCtorEq,reduceEqDiff,reduceLT,reduceLeDiff,reduceAdd,reduceMul,reduceSub,Nat.reduceBEq,Int.reduceToNat,Int.reduceLE,Int.reduceLT,Int.reduceNeg,reduceMod,zac,zad,zab,zaa,gT,TK.isInt,TK.agg,Array.toList]
 refine ⟨by decide,?_⟩
 refine zao (fun (za:Nat × Nat) s=>match za with | (k,v)=>s.sl 0 = zbv xs∧s.sl 3 = .own 8 v∧s.rw 8 = ⟨v,.sli 4 1 false (bL (zdR xs k))⟩∧s.sl 4 = int k∧(k ≤ xs.length)) (fun (k,v)=>xs.length - k) ((0,1)) (by refine ⟨?_,?_,?_,?_,by simp⟩ <;> (first | (simp (maxSteps:=5000000) -dsimp only [gr,reduceEqDiff,reduceLT,reduceAdd,reduceMod,Nat.reduceBEq,zaa,zac,zad,zab,zev,zqT,Int.reduceToNat];first | done | rfl | (simp;done)) | assumption | rfl)) ?_
 intro (k,v) sa ⟨h0a,h3a,r8a,h4a,hIa⟩
 simp (maxSteps:=5000000) -dsimp only [↓gp,gq,reduceCtorEq,reduceEqDiff,reduceLT,reduceLeDiff,reduceAdd,reduceMul,reduceSub,Nat.reduceBEq,Int.reduceToNat,Int.reduceLE,Int.reduceLT,Int.reduceNeg,reduceMod,zac,zad,zab,zaa,gT,TK.isInt,TK.agg,Array.toList,h0a,h3a,r8a,h4a,zd3]
 refine ⟨fun hk=>?_,fun hk=>?_⟩
 ·have hx1:=hx _ (zat 0 hk)
  refine ⟨hk,hk,by omega,by omega,by omega,?_⟩
  exact zag ((k + 1,v)) (by refine ⟨?_,?_,?_,?_,by omega⟩ <;> (first | (simp (maxSteps:=5000000) -dsimp only [gr,reduceEqDiff,reduceLT,reduceAdd,reduceMod,Nat.reduceBEq,zaa,zac,zad,zab,h0a,h3a,r8a,h4a,zae hk hl,zuK hk hx1];first | done | rfl | (simp;done)) | assumption | rfl)) (by first | omega | (simp only;omega) | (dsimp only;omega) | (show _ < _;simp;omega))
 ·have:k = xs.length:=by omega
  subst this
  have hall:∀ s,s < 64→(zdR xs xs.length).getD s false = inF xs s:=fun s hs=>by
   rw [zdJ false (by rw [zd3];exact hs)]
   simp [zdR]
  have hrl:=zd3 xs xs.length
  generalize zdR xs xs.length = row at *
  refine zao (fun (zb:Nat × Nat × Nat) s=>match zb with | (k,v,u)=>s.sl 3 = .own 8 u∧s.rw 8 = ⟨u,.sli 4 1 false (bL row)⟩∧s.sl 5 = .own 21 v∧s.rw 21 = ⟨v,.sli 3 1 false (iL (ofN (zf1 (inF xs) k 0)))⟩∧s.sl 6 = int k∧(k ≤ 7)) (fun (k,v,u)=>7 - k) ((0,(sa.rw 21).ver + 1,v)) (by refine ⟨?_,?_,?_,?_,?_,by simp⟩ <;> (first | (simp (maxSteps:=5000000) -dsimp only [gr,reduceEqDiff,reduceLT,reduceAdd,reduceMod,Nat.reduceBEq,zaa,zac,zad,zab,h0a,h3a,r8a,h4a];first | done | rfl | (simp;done)) | assumption | rfl)) ?_
  intro (k,v,u) sb ⟨h3b,r8b,h5b,r21b,h6b,hIb⟩
  simp (maxSteps:=5000000) -dsimp only [↓gp,gq,reduceCtorEq,reduceEqDiff,reduceLT,reduceLeDiff,reduceAdd,reduceMul,reduceSub,Nat.reduceBEq,Int.reduceToNat,Int.reduceLE,Int.reduceLT,Int.reduceNeg,reduceMod,zac,zad,zab,zaa,gT,TK.isInt,TK.agg,Array.toList,h3b,r8b,h5b,r21b,h6b]
  refine ⟨fun hk=>?_,fun hk=>?_⟩
  ·refine zao (fun (zc:Nat × Nat) s=>match zc with | (m,v)=>s.sl 3 = .own 8 u∧s.rw 8 = ⟨u,.sli 4 1 false (bL row)⟩∧s.sl 5 = .own 21 v∧s.rw 21 = ⟨v,.sli 3 1 false (iL (ofN (zf1 (inF xs) k m)))⟩∧s.sl 6 = int k∧s.sl 7 = int m∧(m ≤ 64)) (fun (m,v)=>64 - m) ((0,v)) (by refine ⟨?_,?_,?_,?_,?_,?_,by simp⟩ <;> (first | (simp (maxSteps:=5000000) -dsimp only [gr,reduceEqDiff,reduceLT,reduceAdd,reduceMod,Nat.reduceBEq,zaa,zac,zad,zab,h3b,r8b,h5b,r21b,h6b];first | done | rfl | (simp;done)) | assumption | rfl)) ?_
   intro (m,v) sc ⟨h3c,r8c,h5c,r21c,h6c,h7c,hIc⟩
   simp (maxSteps:=5000000) -dsimp only [↓gp,gq,reduceCtorEq,reduceEqDiff,reduceLT,reduceLeDiff,reduceAdd,reduceMul,reduceSub,Nat.reduceBEq,Int.reduceToNat,Int.reduceLE,Int.reduceLT,Int.reduceNeg,reduceMod,zac,zad,zab,zaa,gT,TK.isInt,TK.agg,Array.toList,h3c,r8c,h5c,r21c,h6c,h7c,hrl]
   have hlen:=zm7 (inF xs) k m
   refine ⟨fun hm=>⟨by omega,by omega,?_⟩,fun hm=>?_⟩
   ·have hm:m < 64:=by omega
    rw [hall m hm]
    refine ⟨fun hf=>zaf (zcI (by omega) (by omega)) ?_,fun hf=>?_⟩
    ·simp (maxSteps:=5000000) -dsimp only [↓gp,gq,reduceCtorEq,reduceEqDiff,reduceLT,reduceLeDiff,reduceAdd,reduceMul,reduceSub,Nat.reduceBEq,Int.reduceToNat,Int.reduceLE,Int.reduceLT,Int.reduceNeg,reduceMod,zac,zad,zab,zaa,gT,TK.isInt,TK.agg,Array.toList,h3c,r8c,h5c,r21c,h6c,h7c,Int.toNat_natCast]
     refine ⟨fun hp=>?_,fun hp=>?_⟩
     ·have hy:zf1 (inF xs) k (m + 1) = zf1 (inF xs) k m ++ [m]:=zug (by rw [hf];simp at hp ⊢;omega)
      refine ⟨by rw [zah];omega,?_⟩
      exact zag ((m + 1,v + 1)) (by refine ⟨?_,?_,?_,?_,?_,?_,by omega⟩ <;> (first | (simp (maxSteps:=5000000) -dsimp only [gr,reduceEqDiff,reduceLT,reduceAdd,reduceMod,Nat.reduceBEq,zaa,zac,zad,zab,h3c,r8c,h5c,r21c,h6c,h7c,zae hm (by omega),hy,zbf,zdK];first | done | rfl | (simp;done)) | assumption | rfl)) (by first | omega | (simp only;omega) | (dsimp only;omega) | (show _ < _;simp;omega))
     ·have hy:zf1 (inF xs) k (m + 1) = zf1 (inF xs) k m:=zm6 (by rw [hf];simp at hp ⊢;omega)
      exact zag ((m + 1,v)) (by refine ⟨?_,?_,?_,?_,?_,?_,by omega⟩ <;> (first | (simp (maxSteps:=5000000) -dsimp only [gr,reduceEqDiff,reduceLT,reduceAdd,reduceMod,Nat.reduceBEq,zaa,zac,zad,zab,h3c,r8c,h5c,r21c,h6c,h7c,zae hm (by omega),hy];first | done | rfl | (simp;done)) | assumption | rfl)) (by first | omega | (simp only;omega) | (dsimp only;omega) | (show _ < _;simp;omega))
    ·have hy:zf1 (inF xs) k (m + 1) = zf1 (inF xs) k m:=zm6 (by rw [hf];rfl)
     exact zag ((m + 1,v)) (by refine ⟨?_,?_,?_,?_,?_,?_,by omega⟩ <;> (first | (simp (maxSteps:=5000000) -dsimp only [gr,reduceEqDiff,reduceLT,reduceAdd,reduceMod,Nat.reduceBEq,zaa,zac,zad,zab,h3c,r8c,h5c,r21c,h6c,h7c,zae hm (by omega),hy];first | done | rfl | (simp;done)) | assumption | rfl)) (by first | omega | (simp only;omega) | (dsimp only;omega) | (show _ < _;simp;omega))
   ·have:m = 64:=by omega
    subst this
    have hk:k < 7:=by omega
    exact zag ((k + 1,v,u)) (by refine ⟨?_,?_,?_,?_,?_,by omega⟩ <;> (first | (simp (maxSteps:=5000000) -dsimp only [gr,reduceEqDiff,reduceLT,reduceAdd,reduceMod,Nat.reduceBEq,zaa,zac,zad,zab,h3b,r8b,h5b,r21b,h6b,h3c,r8c,h5c,r21c,h6c,h7c,zae hk (by omega),zj8];first | done | rfl | (simp;done)) | assumption | rfl)) (by first | omega | (simp only;omega) | (dsimp only;omega) | (show _ < _;simp;omega))
  ·have:k = 7:=by omega
   subst this
   rw [zm5]
theorem zh1 (g:Bool) (xs:List Int) (hx:∀ x ∈ xs,0 ≤ x∧x < 64):AC Try.prog 119 [zbv xs,bool g] (.fr 3 1 (iL (ofN (zhS (inF xs) g)))):=by
 refine AC.go (rs:=[.tmp 4]) zbe zax Try.func119 rfl rfl rfl (by kernel_rfl) fun hl=>?_
 simp only [za6,zbt,and_true,zeA,zeY,true_and] at hl
 simp (maxSteps:=5000000) -dsimp only [↓gp,gq,reduceCtorEq,reduceEqDiff,reduceLT,reduceLeDiff,reduceAdd,reduceMul,reduceSub,Nat.reduceBEq,Int.reduceToNat,Int.reduceLE,Int.reduceLT,Int.reduceNeg,reduceMod,zac,zad,zab,zaa,gT,TK.isInt,TK.agg,Array.toList]
 refine zaf (zdH xs hx) ?_
 simp (maxSteps:=5000000) -dsimp only [↓gp,gq,reduceCtorEq,reduceEqDiff,reduceLT,reduceLeDiff,reduceAdd,reduceMul,reduceSub,Nat.reduceBEq,Int.reduceToNat,Int.reduceLE,Int.reduceLT,Int.reduceNeg,reduceMod,zac,zad,zab,zaa,gT,TK.isInt,TK.agg,Array.toList]
 have hfull:=zdF (inF xs)
 have hmemf:∀ t,t ∈ zbL (inF xs) ↔ t < 64∧inF xs t = true:=fun t=>zbF
 unfold zhS
 have hext:∀ s,s < 64→(zrs (inF xs) g s = true ↔ ∀ t,t ∈ zbL (inF xs)→(if g = true then s &&& t = s else t &&& s = t)→t = s):=fun s hs=>by
  cases g with
  | true=>rw [zcS];simp only [if_true];exact ⟨fun h t ht=>h t ((hmemf t).1 ht).1 ((hmemf t).1 ht).2,fun h t h1 h2=>h t ((hmemf t).2 ⟨h1,h2⟩)⟩
  | false=>rw [zAn];simp only [Bool.false_eq_true,if_false];exact ⟨fun h t ht=>h t ((hmemf t).1 ht).1 ((hmemf t).1 ht).2,fun h t h1 h2=>h t ((hmemf t).2 ⟨h1,h2⟩)⟩
 generalize zbL (inF xs) = all at *
 have hmem:∀ k,k < all.length→all.getD k 0 < 64:=fun k hk=>((hmemf _).1 (zat 0 hk)).1
 refine zao (fun (za:Nat × Nat × Nat) s=>match za with | (k,v,u)=>s.sl 1 = bool g∧s.sl 5 = .own 13 u∧s.rw 13 = ⟨u,.sli 3 1 false (iL (ofN all))⟩∧s.sl 6 = .own 14 v∧s.rw 14 = ⟨v,.sli 3 1 false (iL (ofN ((all.take k).filter (zrs (inF xs) g))))⟩∧s.sl 7 = int k∧(k ≤ all.length)) (fun (k,v,u)=>all.length - k) ((0,1,1)) (by refine ⟨?_,?_,?_,?_,?_,?_,by simp⟩ <;> (first | (simp (maxSteps:=5000000) -dsimp only [gr,reduceEqDiff,reduceLT,reduceAdd,reduceMod,Nat.reduceBEq,zaa,zac,zad,zab];first | done | rfl | (simp;done)) | assumption | rfl)) ?_
 intro (k,v,u) sa ⟨h1a,h5a,r13a,h6a,r14a,h7a,hIa⟩
 simp (maxSteps:=5000000) -dsimp only [↓gp,gq,reduceCtorEq,reduceEqDiff,reduceLT,reduceLeDiff,reduceAdd,reduceMul,reduceSub,Nat.reduceBEq,Int.reduceToNat,Int.reduceLE,Int.reduceLT,Int.reduceNeg,reduceMod,zac,zad,zab,zaa,gT,TK.isInt,TK.agg,Array.toList,h1a,h5a,r13a,h6a,r14a,h7a,zah]
 have hol:((all.take k).filter (zrs (inF xs) g)).length ≤ k:=Nat.le_trans zzT (by simp;omega)
 refine ⟨fun hk=>?_,fun hk=>?_⟩
 ·have hs:=hmem k hk
  refine zao (fun (zb:Nat × Bool) s=>match zb with | (j,fine)=>s.sl 1 = bool g∧s.sl 5 = .own 13 u∧s.rw 13 = ⟨u,.sli 3 1 false (iL (ofN all))⟩∧s.sl 6 = .own 14 v∧s.rw 14 = ⟨v,.sli 3 1 false (iL (ofN ((all.take k).filter (zrs (inF xs) g))))⟩∧s.sl 7 = int k∧s.sl 8 = bool fine∧s.sl 9 = int j∧(j ≤ all.length∧(fine = true ↔ ∀ i,i < j→(if g = true then all.getD k 0 &&& all.getD i 0 = all.getD k 0 else all.getD i 0 &&& all.getD k 0 = all.getD i 0)→all.getD i 0 = all.getD k 0))) (fun (j,fine)=>all.length - j) ((0,true)) (by refine ⟨?_,?_,?_,?_,?_,?_,?_,?_,by simp⟩ <;> (first | (simp (maxSteps:=5000000) -dsimp only [gr,reduceEqDiff,reduceLT,reduceAdd,reduceMod,Nat.reduceBEq,zaa,zac,zad,zab,h1a,h5a,r13a,h6a,r14a,h7a];first | done | rfl | (simp;done)) | assumption | rfl)) ?_
  intro (j,fine) sb ⟨h1b,h5b,r13b,h6b,r14b,h7b,h8b,h9b,hIb⟩
  obtain ⟨hj,hfine⟩:=hIb
  have ek:(ofN all).getD k 0 = ((all.getD k 0:Nat):Int):=zaL hk
  have ej:j < all.length→(ofN all).getD j 0 = ((all.getD j 0:Nat):Int):=fun h=>zaL h
  have eand:j < all.length→zcZ .i64 ((ofN all).getD k 0) ((ofN all).getD j 0) = ((all.getD k 0 &&& all.getD j 0:Nat):Int):=fun h=>by
   have:=hmem j h
   rw [ek,ej h,za4 (by omega) (by omega)]
  have hend:j = all.length→(fine = true ↔ zrs (inF xs) g (all.getD k 0) = true):=fun h=>by
   rw [hfine,hext _ hs]
   exact ⟨fun h2 t ht=>by obtain ⟨i,hi,rfl⟩:=zbq 0 ht;exact h2 i (by omega),fun h2 i hi=>h2 _ (zat 0 (by omega))⟩
  have hend2:j = all.length→fine = false→zrs (inF xs) g (all.getD k 0) = false:=fun h hf=>by
   cases hb:zrs (inF xs) g (all.getD k 0) with
   | false=>rfl
   | true=>rw [(hend h).2 hb] at hf;cases hf
  have pfT:(if g = true then all.getD k 0 &&& all.getD j 0 = all.getD k 0 else all.getD j 0 &&& all.getD k 0 = all.getD j 0)→all.getD j 0 ≠ all.getD k 0→(false = true ↔ ∀ i,i < j + 1→(if g = true then all.getD k 0 &&& all.getD i 0 = all.getD k 0 else all.getD i 0 &&& all.getD k 0 = all.getD i 0)→all.getD i 0 = all.getD k 0):=fun hr hne =>
   ⟨fun h=>(by cases h),fun h=>absurd (h j (by omega) hr) hne⟩
  have pfF:(¬ (if g = true then all.getD k 0 &&& all.getD j 0 = all.getD k 0 else all.getD j 0 &&& all.getD k 0 = all.getD j 0) ∨ all.getD j 0 = all.getD k 0)→(fine = true ↔ ∀ i,i < j + 1→(if g = true then all.getD k 0 &&& all.getD i 0 = all.getD k 0 else all.getD i 0 &&& all.getD k 0 = all.getD i 0)→all.getD i 0 = all.getD k 0):=fun hr=>by
   rw [hfine]
   constructor
   ·intro h i hi
    rcases Nat.lt_succ_iff_lt_or_eq.1 hi with hi | rfl
    ·exact h i hi
    ·exact fun h2=>hr.elim (fun h3=>absurd h2 h3) id
   ·intro h i hi;exact h i (by omega)
  cases g with
  | true =>
    simp (maxSteps:=5000000) -dsimp only [↓gp,gq,reduceCtorEq,reduceEqDiff,reduceLT,reduceLeDiff,reduceAdd,reduceMul,reduceSub,Nat.reduceBEq,Int.reduceToNat,Int.reduceLE,Int.reduceLT,Int.reduceNeg,reduceMod,zac,zad,zab,zaa,gT,TK.isInt,TK.agg,Array.toList,h1b,h5b,r13b,h6b,r14b,h7b,h8b,h9b,zah]
    refine ⟨fun h2=>⟨hk,hk,h2,h2,fun hne=>⟨fun he=>zag ((j + 1,fine)) ⟨(by (first | (simp (maxSteps:=5000000) -dsimp only [gr,reduceEqDiff,reduceLT,reduceAdd,reduceMod,Nat.reduceBEq,zaa,zac,zad,zab,h1b,h5b,r13b,h6b,r14b,h7b,h8b,h9b,zae h2 (by omega)];first | done | rfl | (simp;done)) | assumption | rfl)),(by (first | (simp (maxSteps:=5000000) -dsimp only [gr,reduceEqDiff,reduceLT,reduceAdd,reduceMod,Nat.reduceBEq,zaa,zac,zad,zab,h1b,h5b,r13b,h6b,r14b,h7b,h8b,h9b,zae h2 (by omega)];first | done | rfl | (simp;done)) | assumption | rfl)),(by (first | (simp (maxSteps:=5000000) -dsimp only [gr,reduceEqDiff,reduceLT,reduceAdd,reduceMod,Nat.reduceBEq,zaa,zac,zad,zab,h1b,h5b,r13b,h6b,r14b,h7b,h8b,h9b,zae h2 (by omega)];first | done | rfl | (simp;done)) | assumption | rfl)),(by (first | (simp (maxSteps:=5000000) -dsimp only [gr,reduceEqDiff,reduceLT,reduceAdd,reduceMod,Nat.reduceBEq,zaa,zac,zad,zab,h1b,h5b,r13b,h6b,r14b,h7b,h8b,h9b,zae h2 (by omega)];first | done | rfl | (simp;done)) | assumption | rfl)),(by (first | (simp (maxSteps:=5000000) -dsimp only [gr,reduceEqDiff,reduceLT,reduceAdd,reduceMod,Nat.reduceBEq,zaa,zac,zad,zab,h1b,h5b,r13b,h6b,r14b,h7b,h8b,h9b,zae h2 (by omega)];first | done | rfl | (simp;done)) | assumption | rfl)),(by (first | (simp (maxSteps:=5000000) -dsimp only [gr,reduceEqDiff,reduceLT,reduceAdd,reduceMod,Nat.reduceBEq,zaa,zac,zad,zab,h1b,h5b,r13b,h6b,r14b,h7b,h8b,h9b,zae h2 (by omega)];first | done | rfl | (simp;done)) | assumption | rfl)),(by (first | (simp (maxSteps:=5000000) -dsimp only [gr,reduceEqDiff,reduceLT,reduceAdd,reduceMod,Nat.reduceBEq,zaa,zac,zad,zab,h1b,h5b,r13b,h6b,r14b,h7b,h8b,h9b,zae h2 (by omega)];first | done | rfl | (simp;done)) | assumption | rfl)),(by (first | (simp (maxSteps:=5000000) -dsimp only [gr,reduceEqDiff,reduceLT,reduceAdd,reduceMod,Nat.reduceBEq,zaa,zac,zad,zab,h1b,h5b,r13b,h6b,r14b,h7b,h8b,h9b,zae h2 (by omega)];first | done | rfl | (simp;done)) | assumption | rfl)),⟨by omega,pfF (.inl ?_)⟩⟩ (by first | omega | (simp only;omega) | (dsimp only;omega) | (show _ < _;simp;omega)),fun he=>zag ((j + 1,false)) ⟨(by (first | (simp (maxSteps:=5000000) -dsimp only [gr,reduceEqDiff,reduceLT,reduceAdd,reduceMod,Nat.reduceBEq,zaa,zac,zad,zab,h1b,h5b,r13b,h6b,r14b,h7b,h8b,h9b,zae h2 (by omega)];first | done | rfl | (simp;done)) | assumption | rfl)),(by (first | (simp (maxSteps:=5000000) -dsimp only [gr,reduceEqDiff,reduceLT,reduceAdd,reduceMod,Nat.reduceBEq,zaa,zac,zad,zab,h1b,h5b,r13b,h6b,r14b,h7b,h8b,h9b,zae h2 (by omega)];first | done | rfl | (simp;done)) | assumption | rfl)),(by (first | (simp (maxSteps:=5000000) -dsimp only [gr,reduceEqDiff,reduceLT,reduceAdd,reduceMod,Nat.reduceBEq,zaa,zac,zad,zab,h1b,h5b,r13b,h6b,r14b,h7b,h8b,h9b,zae h2 (by omega)];first | done | rfl | (simp;done)) | assumption | rfl)),(by (first | (simp (maxSteps:=5000000) -dsimp only [gr,reduceEqDiff,reduceLT,reduceAdd,reduceMod,Nat.reduceBEq,zaa,zac,zad,zab,h1b,h5b,r13b,h6b,r14b,h7b,h8b,h9b,zae h2 (by omega)];first | done | rfl | (simp;done)) | assumption | rfl)),(by (first | (simp (maxSteps:=5000000) -dsimp only [gr,reduceEqDiff,reduceLT,reduceAdd,reduceMod,Nat.reduceBEq,zaa,zac,zad,zab,h1b,h5b,r13b,h6b,r14b,h7b,h8b,h9b,zae h2 (by omega)];first | done | rfl | (simp;done)) | assumption | rfl)),(by (first | (simp (maxSteps:=5000000) -dsimp only [gr,reduceEqDiff,reduceLT,reduceAdd,reduceMod,Nat.reduceBEq,zaa,zac,zad,zab,h1b,h5b,r13b,h6b,r14b,h7b,h8b,h9b,zae h2 (by omega)];first | done | rfl | (simp;done)) | assumption | rfl)),(by (first | (simp (maxSteps:=5000000) -dsimp only [gr,reduceEqDiff,reduceLT,reduceAdd,reduceMod,Nat.reduceBEq,zaa,zac,zad,zab,h1b,h5b,r13b,h6b,r14b,h7b,h8b,h9b,zae h2 (by omega)];first | done | rfl | (simp;done)) | assumption | rfl)),(by (first | (simp (maxSteps:=5000000) -dsimp only [gr,reduceEqDiff,reduceLT,reduceAdd,reduceMod,Nat.reduceBEq,zaa,zac,zad,zab,h1b,h5b,r13b,h6b,r14b,h7b,h8b,h9b,zae h2 (by omega)];first | done | rfl | (simp;done)) | assumption | rfl)),⟨by omega,pfT ?_ ?_⟩⟩ (by first | omega | (simp only;omega) | (dsimp only;omega) | (show _ < _;simp;omega))⟩,fun hne=>zag ((j + 1,fine)) ⟨(by (first | (simp (maxSteps:=5000000) -dsimp only [gr,reduceEqDiff,reduceLT,reduceAdd,reduceMod,Nat.reduceBEq,zaa,zac,zad,zab,h1b,h5b,r13b,h6b,r14b,h7b,h8b,h9b,zae h2 (by omega)];first | done | rfl | (simp;done)) | assumption | rfl)),(by (first | (simp (maxSteps:=5000000) -dsimp only [gr,reduceEqDiff,reduceLT,reduceAdd,reduceMod,Nat.reduceBEq,zaa,zac,zad,zab,h1b,h5b,r13b,h6b,r14b,h7b,h8b,h9b,zae h2 (by omega)];first | done | rfl | (simp;done)) | assumption | rfl)),(by (first | (simp (maxSteps:=5000000) -dsimp only [gr,reduceEqDiff,reduceLT,reduceAdd,reduceMod,Nat.reduceBEq,zaa,zac,zad,zab,h1b,h5b,r13b,h6b,r14b,h7b,h8b,h9b,zae h2 (by omega)];first | done | rfl | (simp;done)) | assumption | rfl)),(by (first | (simp (maxSteps:=5000000) -dsimp only [gr,reduceEqDiff,reduceLT,reduceAdd,reduceMod,Nat.reduceBEq,zaa,zac,zad,zab,h1b,h5b,r13b,h6b,r14b,h7b,h8b,h9b,zae h2 (by omega)];first | done | rfl | (simp;done)) | assumption | rfl)),(by (first | (simp (maxSteps:=5000000) -dsimp only [gr,reduceEqDiff,reduceLT,reduceAdd,reduceMod,Nat.reduceBEq,zaa,zac,zad,zab,h1b,h5b,r13b,h6b,r14b,h7b,h8b,h9b,zae h2 (by omega)];first | done | rfl | (simp;done)) | assumption | rfl)),(by (first | (simp (maxSteps:=5000000) -dsimp only [gr,reduceEqDiff,reduceLT,reduceAdd,reduceMod,Nat.reduceBEq,zaa,zac,zad,zab,h1b,h5b,r13b,h6b,r14b,h7b,h8b,h9b,zae h2 (by omega)];first | done | rfl | (simp;done)) | assumption | rfl)),(by (first | (simp (maxSteps:=5000000) -dsimp only [gr,reduceEqDiff,reduceLT,reduceAdd,reduceMod,Nat.reduceBEq,zaa,zac,zad,zab,h1b,h5b,r13b,h6b,r14b,h7b,h8b,h9b,zae h2 (by omega)];first | done | rfl | (simp;done)) | assumption | rfl)),(by (first | (simp (maxSteps:=5000000) -dsimp only [gr,reduceEqDiff,reduceLT,reduceAdd,reduceMod,Nat.reduceBEq,zaa,zac,zad,zab,h1b,h5b,r13b,h6b,r14b,h7b,h8b,h9b,zae h2 (by omega)];first | done | rfl | (simp;done)) | assumption | rfl)),⟨by omega,pfF (.inr ?_)⟩⟩ (by first | omega | (simp only;omega) | (dsimp only;omega) | (show _ < _;simp;omega))⟩,fun h2=>?_⟩
    ·rw [eand h2,ek] at he
     simp only [if_true]
     intro e;rw [e] at he;simp at he
    ·rw [eand h2,ek] at he
     have:=beq_iff_eq.1 he
     simp only [if_true];omega
    ·rw [ek,ej h2] at hne
     intro e;rw [e] at hne;simp at hne
    ·rw [ek,ej h2] at hne
     have:=bne_eq_false_iff_eq.1 hne
     omega
    ·refine ⟨fun hf=>⟨hk,hk,by omega,?_⟩,fun hf=>?_⟩
     ·have hx:=(hend (by omega)).1 hf
      exact zag ((k + 1,v + 1,u)) (by refine ⟨?_,?_,?_,?_,?_,?_,by omega⟩ <;> (first | (simp (maxSteps:=5000000) -dsimp only [gr,reduceEqDiff,reduceLT,reduceAdd,reduceMod,Nat.reduceBEq,zaa,zac,zad,zab,h1a,h5a,r13a,h6a,r14a,h7a,h1b,h5b,r13b,h6b,r14b,h7b,h8b,h9b,zae hk (by omega),zmB hk hx,zbf,zdK,ek];first | done | rfl | (simp;done)) | assumption | rfl)) (by first | omega | (simp only;omega) | (dsimp only;omega) | (show _ < _;simp;omega))
     ·have hx:=hend2 (by omega) hf
      exact zag ((k + 1,v,u)) (by refine ⟨?_,?_,?_,?_,?_,?_,by omega⟩ <;> (first | (simp (maxSteps:=5000000) -dsimp only [gr,reduceEqDiff,reduceLT,reduceAdd,reduceMod,Nat.reduceBEq,zaa,zac,zad,zab,h1a,h5a,r13a,h6a,r14a,h7a,h1b,h5b,r13b,h6b,r14b,h7b,h8b,h9b,zae hk (by omega),zqS hk hx];first | done | rfl | (simp;done)) | assumption | rfl)) (by first | omega | (simp only;omega) | (dsimp only;omega) | (show _ < _;simp;omega))
  | false =>
    simp (maxSteps:=5000000) -dsimp only [↓gp,gq,reduceCtorEq,reduceEqDiff,reduceLT,reduceLeDiff,reduceAdd,reduceMul,reduceSub,Nat.reduceBEq,Int.reduceToNat,Int.reduceLE,Int.reduceLT,Int.reduceNeg,reduceMod,zac,zad,zab,zaa,gT,TK.isInt,TK.agg,Array.toList,h1b,h5b,r13b,h6b,r14b,h7b,h8b,h9b,zah]
    refine ⟨fun h2=>⟨hk,hk,h2,h2,fun hne=>⟨fun he=>zag ((j + 1,false)) ⟨(by (first | (simp (maxSteps:=5000000) -dsimp only [gr,reduceEqDiff,reduceLT,reduceAdd,reduceMod,Nat.reduceBEq,zaa,zac,zad,zab,h1b,h5b,r13b,h6b,r14b,h7b,h8b,h9b,zae h2 (by omega)];first | done | rfl | (simp;done)) | assumption | rfl)),(by (first | (simp (maxSteps:=5000000) -dsimp only [gr,reduceEqDiff,reduceLT,reduceAdd,reduceMod,Nat.reduceBEq,zaa,zac,zad,zab,h1b,h5b,r13b,h6b,r14b,h7b,h8b,h9b,zae h2 (by omega)];first | done | rfl | (simp;done)) | assumption | rfl)),(by (first | (simp (maxSteps:=5000000) -dsimp only [gr,reduceEqDiff,reduceLT,reduceAdd,reduceMod,Nat.reduceBEq,zaa,zac,zad,zab,h1b,h5b,r13b,h6b,r14b,h7b,h8b,h9b,zae h2 (by omega)];first | done | rfl | (simp;done)) | assumption | rfl)),(by (first | (simp (maxSteps:=5000000) -dsimp only [gr,reduceEqDiff,reduceLT,reduceAdd,reduceMod,Nat.reduceBEq,zaa,zac,zad,zab,h1b,h5b,r13b,h6b,r14b,h7b,h8b,h9b,zae h2 (by omega)];first | done | rfl | (simp;done)) | assumption | rfl)),(by (first | (simp (maxSteps:=5000000) -dsimp only [gr,reduceEqDiff,reduceLT,reduceAdd,reduceMod,Nat.reduceBEq,zaa,zac,zad,zab,h1b,h5b,r13b,h6b,r14b,h7b,h8b,h9b,zae h2 (by omega)];first | done | rfl | (simp;done)) | assumption | rfl)),(by (first | (simp (maxSteps:=5000000) -dsimp only [gr,reduceEqDiff,reduceLT,reduceAdd,reduceMod,Nat.reduceBEq,zaa,zac,zad,zab,h1b,h5b,r13b,h6b,r14b,h7b,h8b,h9b,zae h2 (by omega)];first | done | rfl | (simp;done)) | assumption | rfl)),(by (first | (simp (maxSteps:=5000000) -dsimp only [gr,reduceEqDiff,reduceLT,reduceAdd,reduceMod,Nat.reduceBEq,zaa,zac,zad,zab,h1b,h5b,r13b,h6b,r14b,h7b,h8b,h9b,zae h2 (by omega)];first | done | rfl | (simp;done)) | assumption | rfl)),(by (first | (simp (maxSteps:=5000000) -dsimp only [gr,reduceEqDiff,reduceLT,reduceAdd,reduceMod,Nat.reduceBEq,zaa,zac,zad,zab,h1b,h5b,r13b,h6b,r14b,h7b,h8b,h9b,zae h2 (by omega)];first | done | rfl | (simp;done)) | assumption | rfl)),⟨by omega,pfT ?_ ?_⟩⟩ (by first | omega | (simp only;omega) | (dsimp only;omega) | (show _ < _;simp;omega)),fun he=>zag ((j + 1,fine)) ⟨(by (first | (simp (maxSteps:=5000000) -dsimp only [gr,reduceEqDiff,reduceLT,reduceAdd,reduceMod,Nat.reduceBEq,zaa,zac,zad,zab,h1b,h5b,r13b,h6b,r14b,h7b,h8b,h9b,zae h2 (by omega)];first | done | rfl | (simp;done)) | assumption | rfl)),(by (first | (simp (maxSteps:=5000000) -dsimp only [gr,reduceEqDiff,reduceLT,reduceAdd,reduceMod,Nat.reduceBEq,zaa,zac,zad,zab,h1b,h5b,r13b,h6b,r14b,h7b,h8b,h9b,zae h2 (by omega)];first | done | rfl | (simp;done)) | assumption | rfl)),(by (first | (simp (maxSteps:=5000000) -dsimp only [gr,reduceEqDiff,reduceLT,reduceAdd,reduceMod,Nat.reduceBEq,zaa,zac,zad,zab,h1b,h5b,r13b,h6b,r14b,h7b,h8b,h9b,zae h2 (by omega)];first | done | rfl | (simp;done)) | assumption | rfl)),(by (first | (simp (maxSteps:=5000000) -dsimp only [gr,reduceEqDiff,reduceLT,reduceAdd,reduceMod,Nat.reduceBEq,zaa,zac,zad,zab,h1b,h5b,r13b,h6b,r14b,h7b,h8b,h9b,zae h2 (by omega)];first | done | rfl | (simp;done)) | assumption | rfl)),(by (first | (simp (maxSteps:=5000000) -dsimp only [gr,reduceEqDiff,reduceLT,reduceAdd,reduceMod,Nat.reduceBEq,zaa,zac,zad,zab,h1b,h5b,r13b,h6b,r14b,h7b,h8b,h9b,zae h2 (by omega)];first | done | rfl | (simp;done)) | assumption | rfl)),(by (first | (simp (maxSteps:=5000000) -dsimp only [gr,reduceEqDiff,reduceLT,reduceAdd,reduceMod,Nat.reduceBEq,zaa,zac,zad,zab,h1b,h5b,r13b,h6b,r14b,h7b,h8b,h9b,zae h2 (by omega)];first | done | rfl | (simp;done)) | assumption | rfl)),(by (first | (simp (maxSteps:=5000000) -dsimp only [gr,reduceEqDiff,reduceLT,reduceAdd,reduceMod,Nat.reduceBEq,zaa,zac,zad,zab,h1b,h5b,r13b,h6b,r14b,h7b,h8b,h9b,zae h2 (by omega)];first | done | rfl | (simp;done)) | assumption | rfl)),(by (first | (simp (maxSteps:=5000000) -dsimp only [gr,reduceEqDiff,reduceLT,reduceAdd,reduceMod,Nat.reduceBEq,zaa,zac,zad,zab,h1b,h5b,r13b,h6b,r14b,h7b,h8b,h9b,zae h2 (by omega)];first | done | rfl | (simp;done)) | assumption | rfl)),⟨by omega,pfF (.inl ?_)⟩⟩ (by first | omega | (simp only;omega) | (dsimp only;omega) | (show _ < _;simp;omega))⟩,fun hne=>zag ((j + 1,fine)) ⟨(by (first | (simp (maxSteps:=5000000) -dsimp only [gr,reduceEqDiff,reduceLT,reduceAdd,reduceMod,Nat.reduceBEq,zaa,zac,zad,zab,h1b,h5b,r13b,h6b,r14b,h7b,h8b,h9b,zae h2 (by omega)];first | done | rfl | (simp;done)) | assumption | rfl)),(by (first | (simp (maxSteps:=5000000) -dsimp only [gr,reduceEqDiff,reduceLT,reduceAdd,reduceMod,Nat.reduceBEq,zaa,zac,zad,zab,h1b,h5b,r13b,h6b,r14b,h7b,h8b,h9b,zae h2 (by omega)];first | done | rfl | (simp;done)) | assumption | rfl)),(by (first | (simp (maxSteps:=5000000) -dsimp only [gr,reduceEqDiff,reduceLT,reduceAdd,reduceMod,Nat.reduceBEq,zaa,zac,zad,zab,h1b,h5b,r13b,h6b,r14b,h7b,h8b,h9b,zae h2 (by omega)];first | done | rfl | (simp;done)) | assumption | rfl)),(by (first | (simp (maxSteps:=5000000) -dsimp only [gr,reduceEqDiff,reduceLT,reduceAdd,reduceMod,Nat.reduceBEq,zaa,zac,zad,zab,h1b,h5b,r13b,h6b,r14b,h7b,h8b,h9b,zae h2 (by omega)];first | done | rfl | (simp;done)) | assumption | rfl)),(by (first | (simp (maxSteps:=5000000) -dsimp only [gr,reduceEqDiff,reduceLT,reduceAdd,reduceMod,Nat.reduceBEq,zaa,zac,zad,zab,h1b,h5b,r13b,h6b,r14b,h7b,h8b,h9b,zae h2 (by omega)];first | done | rfl | (simp;done)) | assumption | rfl)),(by (first | (simp (maxSteps:=5000000) -dsimp only [gr,reduceEqDiff,reduceLT,reduceAdd,reduceMod,Nat.reduceBEq,zaa,zac,zad,zab,h1b,h5b,r13b,h6b,r14b,h7b,h8b,h9b,zae h2 (by omega)];first | done | rfl | (simp;done)) | assumption | rfl)),(by (first | (simp (maxSteps:=5000000) -dsimp only [gr,reduceEqDiff,reduceLT,reduceAdd,reduceMod,Nat.reduceBEq,zaa,zac,zad,zab,h1b,h5b,r13b,h6b,r14b,h7b,h8b,h9b,zae h2 (by omega)];first | done | rfl | (simp;done)) | assumption | rfl)),(by (first | (simp (maxSteps:=5000000) -dsimp only [gr,reduceEqDiff,reduceLT,reduceAdd,reduceMod,Nat.reduceBEq,zaa,zac,zad,zab,h1b,h5b,r13b,h6b,r14b,h7b,h8b,h9b,zae h2 (by omega)];first | done | rfl | (simp;done)) | assumption | rfl)),⟨by omega,pfF (.inr ?_)⟩⟩ (by first | omega | (simp only;omega) | (dsimp only;omega) | (show _ < _;simp;omega))⟩,fun h2=>?_⟩
    ·rw [eand h2,ej h2] at he
     have:=beq_iff_eq.1 he
     simp only [Bool.false_eq_true,if_false];rw [Nat.and_comm];omega
    ·rw [ek,ej h2] at hne
     intro e;rw [e] at hne;simp at hne
    ·rw [eand h2,ej h2] at he
     simp only [Bool.false_eq_true,if_false]
     intro e;rw [Nat.and_comm] at e;rw [e] at he;simp at he
    ·rw [ek,ej h2] at hne
     have:=bne_eq_false_iff_eq.1 hne
     omega
    ·refine ⟨fun hf=>⟨hk,hk,by omega,?_⟩,fun hf=>?_⟩
     ·have hx:=(hend (by omega)).1 hf
      exact zag ((k + 1,v + 1,u)) (by refine ⟨?_,?_,?_,?_,?_,?_,by omega⟩ <;> (first | (simp (maxSteps:=5000000) -dsimp only [gr,reduceEqDiff,reduceLT,reduceAdd,reduceMod,Nat.reduceBEq,zaa,zac,zad,zab,h1a,h5a,r13a,h6a,r14a,h7a,h1b,h5b,r13b,h6b,r14b,h7b,h8b,h9b,zae hk (by omega),zmB hk hx,zbf,zdK,ek];first | done | rfl | (simp;done)) | assumption | rfl)) (by first | omega | (simp only;omega) | (dsimp only;omega) | (show _ < _;simp;omega))
     ·have hx:=hend2 (by omega) hf
      exact zag ((k + 1,v,u)) (by refine ⟨?_,?_,?_,?_,?_,?_,by omega⟩ <;> (first | (simp (maxSteps:=5000000) -dsimp only [gr,reduceEqDiff,reduceLT,reduceAdd,reduceMod,Nat.reduceBEq,zaa,zac,zad,zab,h1a,h5a,r13a,h6a,r14a,h7a,h1b,h5b,r13b,h6b,r14b,h7b,h8b,h9b,zae hk (by omega),zqS hk hx];first | done | rfl | (simp;done)) | assumption | rfl)) (by first | omega | (simp only;omega) | (dsimp only;omega) | (show _ < _;simp;omega))
 ·have:k = all.length:=by omega
  subst this
  rw [List.take_length]
theorem zhT (xs:List Int) (n:Int):AC Try.prog 167 [zbv xs,int n] (.im (bool (decide (n ∈ xs)))):=by
 refine AC.go (rs:=[.tmp 4]) zbe zax Try.func167 rfl rfl rfl (by kernel_rfl) fun hl=>?_
 simp only [za6,zbt,and_true,zeY,zeA] at hl
 simp (maxSteps:=5000000) -dsimp only [↓gp,gq,reduceCtorEq,reduceEqDiff,reduceLT,reduceLeDiff,reduceAdd,reduceMul,reduceSub,Nat.reduceBEq,Int.reduceToNat,Int.reduceLE,Int.reduceLT,Int.reduceNeg,reduceMod,zac,zad,zab,zaa,gT,TK.isInt,TK.agg,Array.toList]
 refine zao (fun (k:Nat) s=>s.sl 0 = zbv xs∧s.sl 1 = int n∧s.sl 5 = int k∧(k ≤ xs.length∧∀ i,i < k→xs.getD i 0 ≠ n)) (fun k=>xs.length - k) (0) (by refine ⟨?_,?_,?_,by simp⟩ <;> (first | (simp (maxSteps:=5000000) -dsimp only [gr,reduceEqDiff,reduceLT,reduceAdd,reduceMod,Nat.reduceBEq,zaa,zac,zad,zab];first | done | rfl | (simp;done)) | assumption | rfl)) ?_
 intro k sa ⟨h0a,h1a,h5a,hIa⟩
 obtain ⟨hk,hall⟩:=hIa
 simp (maxSteps:=5000000) -dsimp only [↓gp,gq,reduceCtorEq,reduceEqDiff,reduceLT,reduceLeDiff,reduceAdd,reduceMul,reduceSub,Nat.reduceBEq,Int.reduceToNat,Int.reduceLE,Int.reduceLT,Int.reduceNeg,reduceMod,zac,zad,zab,zaa,gT,TK.isInt,TK.agg,Array.toList,h0a,h1a,h5a]
 refine ⟨fun h=>⟨h,h,fun he=>?_,fun he=>zag (k + 1) ⟨(by (first | (simp (maxSteps:=5000000) -dsimp only [gr,reduceEqDiff,reduceLT,reduceAdd,reduceMod,Nat.reduceBEq,zaa,zac,zad,zab,h0a,h1a,h5a,zae h hl];first | done | rfl | (simp;done)) | assumption | rfl)),(by (first | (simp (maxSteps:=5000000) -dsimp only [gr,reduceEqDiff,reduceLT,reduceAdd,reduceMod,Nat.reduceBEq,zaa,zac,zad,zab,h0a,h1a,h5a,zae h hl];first | done | rfl | (simp;done)) | assumption | rfl)),(by (first | (simp (maxSteps:=5000000) -dsimp only [gr,reduceEqDiff,reduceLT,reduceAdd,reduceMod,Nat.reduceBEq,zaa,zac,zad,zab,h0a,h1a,h5a,zae h hl];first | done | rfl | (simp;done)) | assumption | rfl)),⟨by omega,fun i hi=>?_⟩⟩ (by first | omega | (simp only;omega) | (dsimp only;omega) | (show _ < _;simp;omega))⟩,fun h=>?_⟩
 ·have he:xs.getD k 0 = n:=by simpa using he
  rw [← he]
  exact zat 0 h
 ·rcases Nat.lt_succ_iff_lt_or_eq.1 hi with hi | rfl
  ·exact hall i hi
  ·simpa using he
 ·intro hm
  obtain ⟨i,hi,he⟩:=zbq 0 hm
  exact hall i (by omega) he
theorem zkc {a b:Int} (ha:0 ≤ a∧a < 64) (hb:0 ≤ b∧b < 64):AC Try.prog 151 [int a,int b] (.im (bool (zkH a b))):=by
 refine AC.go (rs:=[.tmp 4]) zbe zax Try.func151 rfl rfl rfl (by kernel_rfl) fun hl=>?_
 simp (maxSteps:=5000000) -dsimp only [↓gp,gq,reduceCtorEq,reduceEqDiff,reduceLT,reduceLeDiff,reduceAdd,reduceMul,reduceSub,Nat.reduceBEq,Int.reduceToNat,Int.reduceLE,Int.reduceLT,Int.reduceNeg,reduceMod,zac,zad,zab,zaa,gT,TK.isInt,TK.agg,Array.toList]
 refine zaf (zcI ha.1 (by omega)) ?_
 simp (maxSteps:=5000000) -dsimp only [↓gp,gq,reduceCtorEq,reduceEqDiff,reduceLT,reduceLeDiff,reduceAdd,reduceMul,reduceSub,Nat.reduceBEq,Int.reduceToNat,Int.reduceLE,Int.reduceLT,Int.reduceNeg,reduceMod,zac,zad,zab,zaa,gT,TK.isInt,TK.agg,Array.toList]
 refine zaf (zcI hb.1 (by omega)) ?_
 simp (maxSteps:=5000000) -dsimp only [↓gp,gq,reduceCtorEq,reduceEqDiff,reduceLT,reduceLeDiff,reduceAdd,reduceMul,reduceSub,Nat.reduceBEq,Int.reduceToNat,Int.reduceLE,Int.reduceLT,Int.reduceNeg,reduceMod,zac,zad,zab,zaa,gT,TK.isInt,TK.agg,Array.toList]
 unfold zkH zkG
 rw [if_pos ha,if_pos hb,decide_eq_true ha,decide_eq_true hb]
 simp only [Bool.true_and]
 refine ⟨fun h=>⟨fun h2=>?_,fun h2=>?_⟩,fun h=>?_⟩
 ·rw [if_pos (by simpa using h2)]
 ·rw [if_neg (by simpa using h2)]
  exact decide_eq_false (by omega)
 ·rw [if_neg (by omega)]
  exact decide_eq_true (by omega)
def zHV (n:Int) (xs:List Int) (k:Nat):Prop:=zdv n (xs.getD k 0) = true∧(0 < k→zkH (xs.getD (k - 1) 0) (xs.getD k 0) = true)∧∀ i,i < k→zcZ .i64 (xs.getD i 0) (xs.getD k 0) ≠ xs.getD i 0
def cxP (n:Int) (xs:List Int):Prop:=1 ≤ n∧n ≤ 6∧∀ k,k < xs.length→zHV n xs k
open Classical in
noncomputable def zcN (n:Int) (xs:List Int):Bool:=decide (cxP n xs)
open Classical in
theorem zdL {n:Int} {xs:List Int} (h:¬ cxP n xs):zcN n xs = false:=decide_eq_false h
open Classical in
theorem zgI {n:Int} {xs:List Int} (h:cxP n xs):zcN n xs = true:=decide_eq_true h
open Classical in
theorem zbH {n:Int} {xs:List Int}:zcN n xs = true ↔ cxP n xs:=decide_eq_true_iff
theorem zbO (n:Int) (xs:List Int):AC Try.prog 101 [.ag [int n,zbv xs]] (.im (bool (zcN n xs))):=by
 refine AC.go (rs:=[.tmp 2]) zbe zax Try.func101 rfl rfl rfl (by kernel_rfl) fun hl=>?_
 simp only [za6,zbt,and_true,zcn,zd4,zc5,true_and] at hl
 simp (maxSteps:=5000000) -dsimp only [↓gp,gq,reduceCtorEq,reduceEqDiff,reduceLT,reduceLeDiff,reduceAdd,reduceMul,reduceSub,Nat.reduceBEq,Int.reduceToNat,Int.reduceLE,Int.reduceLT,Int.reduceNeg,reduceMod,zac,zad,zab,zaa,gT,TK.isInt,TK.agg,Array.toList]
 refine zao (fun (k:Nat) s=>s.sl 1 = .ref 1 1 0∧s.rw 1 = ⟨1,.box 27 [int n,zbv xs]⟩∧s.sl 3 = int k∧(k ≤ xs.length∧∀ i,i < k→zHV n xs i)) (fun k=>xs.length - k) (0) (by refine ⟨?_,?_,?_,by simp⟩ <;> (first | (simp (maxSteps:=5000000) -dsimp only [gr,reduceEqDiff,reduceLT,reduceAdd,reduceMod,Nat.reduceBEq,zaa,zac,zad,zab];first | done | rfl | (simp;done)) | assumption | rfl)) ?_
 intro k sa ⟨h1a,r1a,h3a,hIa⟩
 obtain ⟨hk,hall⟩:=hIa
 have hw:IntKind.i64.wrap ((k:Int) - 1) = (k:Int) - 1:=zaq (by omega) (by omega)
 simp (maxSteps:=5000000) -dsimp only [↓gp,gq,reduceCtorEq,reduceEqDiff,reduceLT,reduceLeDiff,reduceAdd,reduceMul,reduceSub,Nat.reduceBEq,Int.reduceToNat,Int.reduceLE,Int.reduceLT,Int.reduceNeg,reduceMod,zac,zad,zab,zaa,gT,TK.isInt,TK.agg,Array.toList,h1a,r1a,h3a,hw,zcD]
 refine ⟨fun h=>⟨by kernel_rfl,h,h,zaf (znY _ _) ?_⟩,fun h=>zaf (zdg _ _ _) ?_⟩
 ·simp (maxSteps:=5000000) -dsimp only [↓gp,gq,reduceCtorEq,reduceEqDiff,reduceLT,reduceLeDiff,reduceAdd,reduceMul,reduceSub,Nat.reduceBEq,Int.reduceToNat,Int.reduceLE,Int.reduceLT,Int.reduceNeg,reduceMod,zac,zad,zab,zaa,gT,TK.isInt,TK.agg,Array.toList,h1a,r1a,h3a,hw,zcD]
  refine ⟨fun hs=>⟨fun h0=>⟨by omega,by omega,by omega,h,h,?_⟩,fun h0=>?_⟩,fun hs=>?_⟩
  ·have hs:zdv n (xs.getD k 0) = true:=by rwa [Bool.not_eq_false'] at hs
   have hb:=zgG hs
   have hb':=zgG (hall (k - 1) (by omega)).1
   refine zaf (zkc hb' hb) ?_
   simp (maxSteps:=5000000) -dsimp only [↓gp,gq,reduceCtorEq,reduceEqDiff,reduceLT,reduceLeDiff,reduceAdd,reduceMul,reduceSub,Nat.reduceBEq,Int.reduceToNat,Int.reduceLE,Int.reduceLT,Int.reduceNeg,reduceMod,zac,zad,zab,zaa,gT,TK.isInt,TK.agg,Array.toList,h1a,r1a,h3a,hw,zcD]
   refine ⟨fun hbef=>zdL fun hg=>?_,fun hbef=>?_⟩
   ·have:=(hg.2.2 k h).2.1 (by omega)
    rw [this] at hbef;cases hbef
   ·have hbef:0 < k→zkH (xs.getD (k - 1) 0) (xs.getD k 0) = true:=fun _=>by rwa [Bool.not_eq_false'] at hbef
    refine zao (fun (i:Nat) s=>s.sl 1 = .ref 1 1 0∧s.rw 1 = ⟨1,.box 27 [int n,zbv xs]⟩∧s.sl 3 = int k∧s.sl 4 = int i∧(i ≤ k∧∀ j,j < i→zcZ .i64 (xs.getD j 0) (xs.getD k 0) ≠ xs.getD j 0)) (fun i=>k - i) (0) (by refine ⟨?_,?_,?_,?_,by simp⟩ <;> (first | (simp (maxSteps:=5000000) -dsimp only [gr,reduceEqDiff,reduceLT,reduceAdd,reduceMod,Nat.reduceBEq,zaa,zac,zad,zab,h1a,r1a,h3a];first | done | rfl | (simp;done)) | assumption | rfl)) ?_
    intro i sb ⟨h1b,r1b,h3b,h4b,hIb⟩
    obtain ⟨hik,hin⟩:=hIb
    simp (maxSteps:=5000000) -dsimp only [↓gp,gq,reduceCtorEq,reduceEqDiff,reduceLT,reduceLeDiff,reduceAdd,reduceMul,reduceSub,Nat.reduceBEq,Int.reduceToNat,Int.reduceLE,Int.reduceLT,Int.reduceNeg,reduceMod,zac,zad,zab,zaa,gT,TK.isInt,TK.agg,Array.toList,h1b,r1b,h3b,h4b]
    refine ⟨fun hi=>⟨by kernel_rfl,by omega,by omega,h,h,by omega,by omega,fun he=>?_,fun he=>zag (i + 1) ⟨(by (first | (simp (maxSteps:=5000000) -dsimp only [gr,reduceEqDiff,reduceLT,reduceAdd,reduceMod,Nat.reduceBEq,zaa,zac,zad,zab,h1b,r1b,h3b,h4b,zae hi (by omega)];first | done | rfl | (simp;done)) | assumption | rfl)),(by (first | (simp (maxSteps:=5000000) -dsimp only [gr,reduceEqDiff,reduceLT,reduceAdd,reduceMod,Nat.reduceBEq,zaa,zac,zad,zab,h1b,r1b,h3b,h4b,zae hi (by omega)];first | done | rfl | (simp;done)) | assumption | rfl)),(by (first | (simp (maxSteps:=5000000) -dsimp only [gr,reduceEqDiff,reduceLT,reduceAdd,reduceMod,Nat.reduceBEq,zaa,zac,zad,zab,h1b,r1b,h3b,h4b,zae hi (by omega)];first | done | rfl | (simp;done)) | assumption | rfl)),(by (first | (simp (maxSteps:=5000000) -dsimp only [gr,reduceEqDiff,reduceLT,reduceAdd,reduceMod,Nat.reduceBEq,zaa,zac,zad,zab,h1b,r1b,h3b,h4b,zae hi (by omega)];first | done | rfl | (simp;done)) | assumption | rfl)),⟨by omega,fun j hj=>?_⟩⟩ (by first | omega | (simp only;omega) | (dsimp only;omega) | (show _ < _;simp;omega))⟩,fun hi=>zag (k + 1) ⟨(by (first | (simp (maxSteps:=5000000) -dsimp only [gr,reduceEqDiff,reduceLT,reduceAdd,reduceMod,Nat.reduceBEq,zaa,zac,zad,zab,h1a,r1a,h3a,h1b,r1b,h3b,h4b,zae h hl];first | done | rfl | (simp;done)) | assumption | rfl)),(by (first | (simp (maxSteps:=5000000) -dsimp only [gr,reduceEqDiff,reduceLT,reduceAdd,reduceMod,Nat.reduceBEq,zaa,zac,zad,zab,h1a,r1a,h3a,h1b,r1b,h3b,h4b,zae h hl];first | done | rfl | (simp;done)) | assumption | rfl)),(by (first | (simp (maxSteps:=5000000) -dsimp only [gr,reduceEqDiff,reduceLT,reduceAdd,reduceMod,Nat.reduceBEq,zaa,zac,zad,zab,h1a,r1a,h3a,h1b,r1b,h3b,h4b,zae h hl];first | done | rfl | (simp;done)) | assumption | rfl)),⟨by omega,fun j hj=>?_⟩⟩ (by first | omega | (simp only;omega) | (dsimp only;omega) | (show _ < _;simp;omega))⟩
    ·exact zdL fun hg=>(hg.2.2 k h).2.2 i hi (by simpa using he)
    ·rcases Nat.lt_succ_iff_lt_or_eq.1 hj with hj | rfl
     ·exact hin j hj
     ·simpa using he
    ·rcases Nat.lt_succ_iff_lt_or_eq.1 hj with hj | rfl
     ·exact hall j hj
     ·exact ⟨hs,hbef,fun i hi=>hin i (by omega)⟩
  ·have hs:zdv n (xs.getD k 0) = true:=by rwa [Bool.not_eq_false'] at hs
   have hbef:0 < k→zkH (xs.getD (k - 1) 0) (xs.getD k 0) = true:=fun h=>by omega
   refine zao (fun (i:Nat) s=>s.sl 1 = .ref 1 1 0∧s.rw 1 = ⟨1,.box 27 [int n,zbv xs]⟩∧s.sl 3 = int k∧s.sl 4 = int i∧(i ≤ k∧∀ j,j < i→zcZ .i64 (xs.getD j 0) (xs.getD k 0) ≠ xs.getD j 0)) (fun i=>k - i) (0) (by refine ⟨?_,?_,?_,?_,by simp⟩ <;> (first | (simp (maxSteps:=5000000) -dsimp only [gr,reduceEqDiff,reduceLT,reduceAdd,reduceMod,Nat.reduceBEq,zaa,zac,zad,zab,h1a,r1a,h3a];first | done | rfl | (simp;done)) | assumption | rfl)) ?_
   intro i sb ⟨h1b,r1b,h3b,h4b,hIb⟩
   obtain ⟨hik,hin⟩:=hIb
   simp (maxSteps:=5000000) -dsimp only [↓gp,gq,reduceCtorEq,reduceEqDiff,reduceLT,reduceLeDiff,reduceAdd,reduceMul,reduceSub,Nat.reduceBEq,Int.reduceToNat,Int.reduceLE,Int.reduceLT,Int.reduceNeg,reduceMod,zac,zad,zab,zaa,gT,TK.isInt,TK.agg,Array.toList,h1b,r1b,h3b,h4b]
   refine ⟨fun hi=>⟨by kernel_rfl,by omega,by omega,h,h,by omega,by omega,fun he=>?_,fun he=>zag (i + 1) ⟨(by (first | (simp (maxSteps:=5000000) -dsimp only [gr,reduceEqDiff,reduceLT,reduceAdd,reduceMod,Nat.reduceBEq,zaa,zac,zad,zab,h1b,r1b,h3b,h4b,zae hi (by omega)];first | done | rfl | (simp;done)) | assumption | rfl)),(by (first | (simp (maxSteps:=5000000) -dsimp only [gr,reduceEqDiff,reduceLT,reduceAdd,reduceMod,Nat.reduceBEq,zaa,zac,zad,zab,h1b,r1b,h3b,h4b,zae hi (by omega)];first | done | rfl | (simp;done)) | assumption | rfl)),(by (first | (simp (maxSteps:=5000000) -dsimp only [gr,reduceEqDiff,reduceLT,reduceAdd,reduceMod,Nat.reduceBEq,zaa,zac,zad,zab,h1b,r1b,h3b,h4b,zae hi (by omega)];first | done | rfl | (simp;done)) | assumption | rfl)),(by (first | (simp (maxSteps:=5000000) -dsimp only [gr,reduceEqDiff,reduceLT,reduceAdd,reduceMod,Nat.reduceBEq,zaa,zac,zad,zab,h1b,r1b,h3b,h4b,zae hi (by omega)];first | done | rfl | (simp;done)) | assumption | rfl)),⟨by omega,fun j hj=>?_⟩⟩ (by first | omega | (simp only;omega) | (dsimp only;omega) | (show _ < _;simp;omega))⟩,fun hi=>zag (k + 1) ⟨(by (first | (simp (maxSteps:=5000000) -dsimp only [gr,reduceEqDiff,reduceLT,reduceAdd,reduceMod,Nat.reduceBEq,zaa,zac,zad,zab,h1a,r1a,h3a,h1b,r1b,h3b,h4b,zae h hl];first | done | rfl | (simp;done)) | assumption | rfl)),(by (first | (simp (maxSteps:=5000000) -dsimp only [gr,reduceEqDiff,reduceLT,reduceAdd,reduceMod,Nat.reduceBEq,zaa,zac,zad,zab,h1a,r1a,h3a,h1b,r1b,h3b,h4b,zae h hl];first | done | rfl | (simp;done)) | assumption | rfl)),(by (first | (simp (maxSteps:=5000000) -dsimp only [gr,reduceEqDiff,reduceLT,reduceAdd,reduceMod,Nat.reduceBEq,zaa,zac,zad,zab,h1a,r1a,h3a,h1b,r1b,h3b,h4b,zae h hl];first | done | rfl | (simp;done)) | assumption | rfl)),⟨by omega,fun j hj=>?_⟩⟩ (by first | omega | (simp only;omega) | (dsimp only;omega) | (show _ < _;simp;omega))⟩
   ·exact zdL fun hg=>(hg.2.2 k h).2.2 i hi (by simpa using he)
   ·rcases Nat.lt_succ_iff_lt_or_eq.1 hj with hj | rfl
    ·exact hin j hj
    ·simpa using he
   ·rcases Nat.lt_succ_iff_lt_or_eq.1 hj with hj | rfl
    ·exact hall j hj
    ·exact ⟨hs,hbef,fun i hi=>hin i (by omega)⟩
  ·have hs:zdv n (xs.getD k 0) = false:=by rwa [Bool.not_eq_true'] at hs
   exact zdL fun hg=>by have:=(hg.2.2 k h).1;rw [hs] at this;cases this
 ·simp (maxSteps:=5000000) -dsimp only [↓gp,gq,reduceCtorEq,reduceEqDiff,reduceLT,reduceLeDiff,reduceAdd,reduceMul,reduceSub,Nat.reduceBEq,Int.reduceToNat,Int.reduceLE,Int.reduceLT,Int.reduceNeg,reduceMod,zac,zad,zab,zaa,gT,TK.isInt,TK.agg,Array.toList,h1a,r1a,h3a,hw,zcD]
  by_cases hn:1 ≤ n∧n ≤ 6
  ·rw [zgI ⟨hn.1,hn.2,fun k hk=>hall k (by omega)⟩]
   simp [hn.1,hn.2]
  ·rw [zdL fun hg=>hn ⟨hg.1,hg.2.1⟩]
   symm
   rw [Bool.and_eq_false_iff,decide_eq_false_iff_not,decide_eq_false_iff_not]
   omega
theorem zgJ (n:Int) (xs:List Int):AC Try.prog 146 [int n,zbv xs] (.im (bool (zcN n xs))):=by
 refine AC.go (rs:=[.tmp 4]) zbe zax Try.func146 rfl rfl rfl (by kernel_rfl) fun hl=>?_
 simp only [za6,zbt,and_true,zeA,zeY,true_and] at hl
 simp (maxSteps:=5000000) -dsimp only [↓gp,gq,reduceCtorEq,reduceEqDiff,reduceLT,reduceLeDiff,reduceAdd,reduceMul,reduceSub,Nat.reduceBEq,Int.reduceToNat,Int.reduceLE,Int.reduceLT,Int.reduceNeg,reduceMod,zac,zad,zab,zaa,gT,TK.isInt,TK.agg,Array.toList]
 refine ⟨fun hn=>⟨fun h6=>zdL fun hg=>by have:=hg.2.1;omega,fun h6=>?_⟩,fun hn=>zdL fun hg=>by have:=hg.1;omega⟩
 refine zao (fun (k:Nat) s=>s.sl 0 = int n∧s.sl 1 = zbv xs∧s.sl 17 = zbv xs∧s.sl 18 = int xs.length∧s.sl 19 = int k∧(k ≤ xs.length∧∀ i,i < k→zdv n (xs.getD i 0) = true∧(0 < i→zkH (xs.getD (i - 1) 0) (xs.getD i 0) = true))) (fun k=>xs.length - k) (0) (by refine ⟨?_,?_,?_,?_,?_,by simp⟩ <;> (first | (simp (maxSteps:=5000000) -dsimp only [gr,reduceEqDiff,reduceLT,reduceAdd,reduceMod,Nat.reduceBEq,zaa,zac,zad,zab];first | done | rfl | (simp;done)) | assumption | rfl)) ?_
 intro k sa ⟨h0a,h1a,h17a,h18a,h19a,hIa⟩
 obtain ⟨hk,hall⟩:=hIa
 have hw:IntKind.i64.wrap ((k:Int) - 1) = (k:Int) - 1:=zaq (by omega) (by omega)
 simp (maxSteps:=5000000) -dsimp only [↓gp,gq,reduceCtorEq,reduceEqDiff,reduceLT,reduceLeDiff,reduceAdd,reduceMul,reduceSub,Nat.reduceBEq,Int.reduceToNat,Int.reduceLE,Int.reduceLT,Int.reduceNeg,reduceMod,zac,zad,zab,zaa,gT,TK.isInt,TK.agg,Array.toList,h0a,h1a,h17a,h18a,h19a,hw,zcD]
 refine ⟨fun h=>⟨h,h,zaf (zdx _ _) ?_⟩,fun h=>?_⟩
 ·simp (maxSteps:=5000000) -dsimp only [↓gp,gq,reduceCtorEq,reduceEqDiff,reduceLT,reduceLeDiff,reduceAdd,reduceMul,reduceSub,Nat.reduceBEq,Int.reduceToNat,Int.reduceLE,Int.reduceLT,Int.reduceNeg,reduceMod,zac,zad,zab,zaa,gT,TK.isInt,TK.agg,Array.toList,h0a,h1a,h17a,h18a,h19a,hw,zcD]
  refine ⟨fun hs=>?_,fun hs=>⟨fun h0=>⟨by omega,by omega,by omega,zaf (zh3 _ _) ?_⟩,fun h0=>?_⟩⟩
  ·have hs:zdv n (xs.getD k 0) = false:=by rwa [Bool.not_eq_true'] at hs
   exact zdL fun hg=>by have:=(hg.2.2 k h).1;rw [hs] at this;cases this
  ·simp (maxSteps:=5000000) -dsimp only [↓gp,gq,reduceCtorEq,reduceEqDiff,reduceLT,reduceLeDiff,reduceAdd,reduceMul,reduceSub,Nat.reduceBEq,Int.reduceToNat,Int.reduceLE,Int.reduceLT,Int.reduceNeg,reduceMod,zac,zad,zab,zaa,gT,TK.isInt,TK.agg,Array.toList,h0a,h1a,h17a,h18a,h19a,hw,zcD]
   refine ⟨fun hb=>zdL fun hg=>?_,fun hb=>zag (k + 1) ⟨(by (first | (simp (maxSteps:=5000000) -dsimp only [gr,reduceEqDiff,reduceLT,reduceAdd,reduceMod,Nat.reduceBEq,zaa,zac,zad,zab,h0a,h1a,h17a,h18a,h19a,zae h hl];first | done | rfl | (simp;done)) | assumption | rfl)),(by (first | (simp (maxSteps:=5000000) -dsimp only [gr,reduceEqDiff,reduceLT,reduceAdd,reduceMod,Nat.reduceBEq,zaa,zac,zad,zab,h0a,h1a,h17a,h18a,h19a,zae h hl];first | done | rfl | (simp;done)) | assumption | rfl)),(by (first | (simp (maxSteps:=5000000) -dsimp only [gr,reduceEqDiff,reduceLT,reduceAdd,reduceMod,Nat.reduceBEq,zaa,zac,zad,zab,h0a,h1a,h17a,h18a,h19a,zae h hl];first | done | rfl | (simp;done)) | assumption | rfl)),(by (first | (simp (maxSteps:=5000000) -dsimp only [gr,reduceEqDiff,reduceLT,reduceAdd,reduceMod,Nat.reduceBEq,zaa,zac,zad,zab,h0a,h1a,h17a,h18a,h19a,zae h hl];first | done | rfl | (simp;done)) | assumption | rfl)),(by (first | (simp (maxSteps:=5000000) -dsimp only [gr,reduceEqDiff,reduceLT,reduceAdd,reduceMod,Nat.reduceBEq,zaa,zac,zad,zab,h0a,h1a,h17a,h18a,h19a,zae h hl];first | done | rfl | (simp;done)) | assumption | rfl)),⟨by omega,fun j hj=>?_⟩⟩ (by first | omega | (simp only;omega) | (dsimp only;omega) | (show _ < _;simp;omega))⟩
   ·have:=(hg.2.2 k h).2.1 (by omega)
    rw [this] at hb;cases hb
   ·rcases Nat.lt_succ_iff_lt_or_eq.1 hj with hj | rfl
    ·exact hall j hj
    ·exact ⟨by rwa [Bool.not_eq_false'] at hs,fun _=>by rwa [Bool.not_eq_false'] at hb⟩
  ·refine zag (k + 1) ⟨(by (first | (simp (maxSteps:=5000000) -dsimp only [gr,reduceEqDiff,reduceLT,reduceAdd,reduceMod,Nat.reduceBEq,zaa,zac,zad,zab,h0a,h1a,h17a,h18a,h19a,zae h hl];first | done | rfl | (simp;done)) | assumption | rfl)),(by (first | (simp (maxSteps:=5000000) -dsimp only [gr,reduceEqDiff,reduceLT,reduceAdd,reduceMod,Nat.reduceBEq,zaa,zac,zad,zab,h0a,h1a,h17a,h18a,h19a,zae h hl];first | done | rfl | (simp;done)) | assumption | rfl)),(by (first | (simp (maxSteps:=5000000) -dsimp only [gr,reduceEqDiff,reduceLT,reduceAdd,reduceMod,Nat.reduceBEq,zaa,zac,zad,zab,h0a,h1a,h17a,h18a,h19a,zae h hl];first | done | rfl | (simp;done)) | assumption | rfl)),(by (first | (simp (maxSteps:=5000000) -dsimp only [gr,reduceEqDiff,reduceLT,reduceAdd,reduceMod,Nat.reduceBEq,zaa,zac,zad,zab,h0a,h1a,h17a,h18a,h19a,zae h hl];first | done | rfl | (simp;done)) | assumption | rfl)),(by (first | (simp (maxSteps:=5000000) -dsimp only [gr,reduceEqDiff,reduceLT,reduceAdd,reduceMod,Nat.reduceBEq,zaa,zac,zad,zab,h0a,h1a,h17a,h18a,h19a,zae h hl];first | done | rfl | (simp;done)) | assumption | rfl)),⟨by omega,fun j hj=>?_⟩⟩ (by first | omega | (simp only;omega) | (dsimp only;omega) | (show _ < _;simp;omega))
   rcases Nat.lt_succ_iff_lt_or_eq.1 hj with hj | rfl
   ·exact hall j hj
   ·exact ⟨by rwa [Bool.not_eq_false'] at hs,fun _=>by omega⟩
 ·have hall':∀ i,i < xs.length→zdv n (xs.getD i 0) = true∧(0 < i→zkH (xs.getD (i - 1) 0) (xs.getD i 0) = true):=fun i hi=>hall i (by omega)
  clear hw hall
  have hsub:∀ i j,i < xs.length→j < xs.length→(zhg .i64 (xs.getD i 0) (xs.getD j 0) = 0 ↔ zcZ .i64 (xs.getD i 0) (xs.getD j 0) = xs.getD i 0):=fun i j hi hj=>zru (zgG (hall' i hi).1) (zgG (hall' j hj).1)
  refine zao (fun (i:Nat) s=>s.sl 1 = zbv xs∧s.sl 41 = zbv xs∧s.sl 42 = int xs.length∧s.sl 43 = int i∧(i ≤ xs.length∧∀ j k,j < i→j < k→k < xs.length→zcZ .i64 (xs.getD j 0) (xs.getD k 0) ≠ xs.getD j 0)) (fun i=>xs.length - i) (0) (by refine ⟨?_,?_,?_,?_,by simp⟩ <;> (first | (simp (maxSteps:=5000000) -dsimp only [gr,reduceEqDiff,reduceLT,reduceAdd,reduceMod,Nat.reduceBEq,zaa,zac,zad,zab,h0a,h1a,h17a,h18a,h19a];first | done | rfl | (simp;done)) | assumption | rfl)) ?_
  intro i sb ⟨h1b,h41b,h42b,h43b,hIb⟩
  obtain ⟨hi,hin⟩:=hIb
  have hwi:i < xs.length→IntKind.i64.wrap ((i:Int) + 1) = ((i + 1:Nat):Int):=fun h=>zae h hl
  simp (maxSteps:=5000000) -dsimp only [↓gp,gq,reduceCtorEq,reduceEqDiff,reduceLT,reduceLeDiff,reduceAdd,reduceMul,reduceSub,Nat.reduceBEq,Int.reduceToNat,Int.reduceLE,Int.reduceLT,Int.reduceNeg,reduceMod,zac,zad,zab,zaa,gT,TK.isInt,TK.agg,Array.toList,h1b,h41b,h42b,h43b]
  refine ⟨fun hlt=>?_,fun hge=>zgI ⟨by omega,by omega,fun k hk=>⟨(hall' k hk).1,(hall' k hk).2,fun j hj=>hin j k (by omega) hj hk⟩⟩⟩
  rw [hwi hlt]
  refine ⟨hlt,hlt,by omega,by omega,?_⟩
  refine zao (fun (j:Nat) s=>s.sl 1 = zbv xs∧s.sl 41 = zbv xs∧s.sl 42 = int xs.length∧s.sl 43 = int i∧s.sl 8 = int (xs.getD i 0)∧s.sl 51 = zbv (xs.drop (i + 1))∧s.sl 52 = int (xs.length - (i + 1):Nat)∧s.sl 53 = int j∧(j ≤ xs.length - (i + 1)∧∀ k,k < j→zcZ .i64 (xs.getD i 0) (xs.getD (i + 1 + k) 0) ≠ xs.getD i 0)) (fun j=>xs.length - (i + 1) - j) (0) (by refine ⟨?_,?_,?_,?_,?_,?_,?_,?_,by simp⟩ <;> (first | (simp (maxSteps:=5000000) -dsimp only [gr,reduceEqDiff,reduceLT,reduceAdd,reduceMod,Nat.reduceBEq,zaa,zac,zad,zab,h1b,h41b,h42b,h43b];first | done | rfl | (simp;done)) | assumption | rfl)) ?_
  intro j sc ⟨h1c,h41c,h42c,h43c,h8c,h51c,h52c,h53c,hIc⟩
  obtain ⟨hj,hinn⟩:=hIc
  have hd:∀ j,(xs.drop (i + 1)).getD j 0 = xs.getD (i + 1 + j) 0:=fun j=>by simp [List.getD]
  simp (maxSteps:=5000000) -dsimp only [↓gp,gq,reduceCtorEq,reduceEqDiff,reduceLT,reduceLeDiff,reduceAdd,reduceMul,reduceSub,Nat.reduceBEq,Int.reduceToNat,Int.reduceLE,Int.reduceLT,Int.reduceNeg,reduceMod,zac,zad,zab,zaa,gT,TK.isInt,TK.agg,Array.toList,h1c,h41c,h42c,h43c,h8c,h51c,h52c,h53c,hd,List.length_drop]
  refine ⟨fun h2=>⟨h2,h2,fun he=>?_,fun he=>zag (j + 1) ⟨(by (first | (simp (maxSteps:=5000000) -dsimp only [gr,reduceEqDiff,reduceLT,reduceAdd,reduceMod,Nat.reduceBEq,zaa,zac,zad,zab,h1c,h41c,h42c,h43c,h8c,h51c,h52c,h53c,zae h2 (by omega)];first | done | rfl | (simp;done)) | assumption | rfl)),(by (first | (simp (maxSteps:=5000000) -dsimp only [gr,reduceEqDiff,reduceLT,reduceAdd,reduceMod,Nat.reduceBEq,zaa,zac,zad,zab,h1c,h41c,h42c,h43c,h8c,h51c,h52c,h53c,zae h2 (by omega)];first | done | rfl | (simp;done)) | assumption | rfl)),(by (first | (simp (maxSteps:=5000000) -dsimp only [gr,reduceEqDiff,reduceLT,reduceAdd,reduceMod,Nat.reduceBEq,zaa,zac,zad,zab,h1c,h41c,h42c,h43c,h8c,h51c,h52c,h53c,zae h2 (by omega)];first | done | rfl | (simp;done)) | assumption | rfl)),(by (first | (simp (maxSteps:=5000000) -dsimp only [gr,reduceEqDiff,reduceLT,reduceAdd,reduceMod,Nat.reduceBEq,zaa,zac,zad,zab,h1c,h41c,h42c,h43c,h8c,h51c,h52c,h53c,zae h2 (by omega)];first | done | rfl | (simp;done)) | assumption | rfl)),(by (first | (simp (maxSteps:=5000000) -dsimp only [gr,reduceEqDiff,reduceLT,reduceAdd,reduceMod,Nat.reduceBEq,zaa,zac,zad,zab,h1c,h41c,h42c,h43c,h8c,h51c,h52c,h53c,zae h2 (by omega)];first | done | rfl | (simp;done)) | assumption | rfl)),(by (first | (simp (maxSteps:=5000000) -dsimp only [gr,reduceEqDiff,reduceLT,reduceAdd,reduceMod,Nat.reduceBEq,zaa,zac,zad,zab,h1c,h41c,h42c,h43c,h8c,h51c,h52c,h53c,zae h2 (by omega)];first | done | rfl | (simp;done)) | assumption | rfl)),(by (first | (simp (maxSteps:=5000000) -dsimp only [gr,reduceEqDiff,reduceLT,reduceAdd,reduceMod,Nat.reduceBEq,zaa,zac,zad,zab,h1c,h41c,h42c,h43c,h8c,h51c,h52c,h53c,zae h2 (by omega)];first | done | rfl | (simp;done)) | assumption | rfl)),(by (first | (simp (maxSteps:=5000000) -dsimp only [gr,reduceEqDiff,reduceLT,reduceAdd,reduceMod,Nat.reduceBEq,zaa,zac,zad,zab,h1c,h41c,h42c,h43c,h8c,h51c,h52c,h53c,zae h2 (by omega)];first | done | rfl | (simp;done)) | assumption | rfl)),⟨by omega,fun k hk=>?_⟩⟩ (by first | omega | (simp only;omega) | (dsimp only;omega) | (show _ < _;simp;omega))⟩,fun h2=>zag (i + 1) ⟨(by (first | (simp (maxSteps:=5000000) -dsimp only [gr,reduceEqDiff,reduceLT,reduceAdd,reduceMod,Nat.reduceBEq,zaa,zac,zad,zab,h1b,h41b,h42b,h43b,h1c,h41c,h42c,h43c,h8c,h51c,h52c,h53c,hwi hlt];first | done | rfl | (simp;done)) | assumption | rfl)),(by (first | (simp (maxSteps:=5000000) -dsimp only [gr,reduceEqDiff,reduceLT,reduceAdd,reduceMod,Nat.reduceBEq,zaa,zac,zad,zab,h1b,h41b,h42b,h43b,h1c,h41c,h42c,h43c,h8c,h51c,h52c,h53c,hwi hlt];first | done | rfl | (simp;done)) | assumption | rfl)),(by (first | (simp (maxSteps:=5000000) -dsimp only [gr,reduceEqDiff,reduceLT,reduceAdd,reduceMod,Nat.reduceBEq,zaa,zac,zad,zab,h1b,h41b,h42b,h43b,h1c,h41c,h42c,h43c,h8c,h51c,h52c,h53c,hwi hlt];first | done | rfl | (simp;done)) | assumption | rfl)),(by (first | (simp (maxSteps:=5000000) -dsimp only [gr,reduceEqDiff,reduceLT,reduceAdd,reduceMod,Nat.reduceBEq,zaa,zac,zad,zab,h1b,h41b,h42b,h43b,h1c,h41c,h42c,h43c,h8c,h51c,h52c,h53c,hwi hlt];first | done | rfl | (simp;done)) | assumption | rfl)),⟨by omega,fun j k hj' hk hk'=>?_⟩⟩ (by first | omega | (simp only;omega) | (dsimp only;omega) | (show _ < _;simp;omega))⟩
  ·refine zdL fun hg=>(hg.2.2 (i + 1 + j) (by omega)).2.2 i (by omega) ((hsub i (i + 1 + j) hlt (by omega)).1 (by simpa using he))
  ·rcases Nat.lt_succ_iff_lt_or_eq.1 hk with hk | rfl
   ·exact hinn k hk
   ·intro e
    have:=(hsub i (i + 1 + k) hlt (by omega)).2 e
    rw [this] at he
    simp at he
  ·rcases Nat.lt_succ_iff_lt_or_eq.1 hj' with hj' | rfl
   ·exact hin j k hj' hk hk'
   ·have:=hinn (k - (j + 1)) (by omega)
    rwa [show j + 1 + (k - (j + 1)) = k by omega] at this
theorem zrv (a:Int):zkH a a = false:=by unfold zkH;simp
theorem zvp {a b c:Int} (h1:zkH a b = true) (h2:zkH b c = true):zkH a c = true:=by
 unfold zkH at *
 simp only [Bool.and_eq_true,decide_eq_true_eq] at *
 obtain ⟨ha,hb,h1⟩:=h1
 obtain ⟨_,hc,h2⟩:=h2
 refine ⟨ha,hc,?_⟩
 split at h1 <;> split at h2 <;> simp only [decide_eq_true_eq] at h1 h2
 ·rw [if_pos (by omega)];exact decide_eq_true (by omega)
 ·rw [if_neg (by omega)];exact decide_eq_true (by omega)
 ·rw [if_neg (by omega)];exact decide_eq_true (by omega)
 ·rw [if_neg (by omega)];exact decide_eq_true (by omega)
theorem zkb {n:Int} {xs:List Int} (h:cxP n xs):∀ (j i:Nat),i < j→j < xs.length→zkH (xs.getD i 0) (xs.getD j 0) = true:=by
 intro j
 induction j with
 | zero=>intro i hi;omega
 | succ j ih =>
   intro i hi hj
   have h1:=(h.2.2 (j + 1) hj).2.1 (by omega)
   rw [Nat.add_sub_cancel] at h1
   rcases Nat.lt_succ_iff_lt_or_eq.1 hi with hi | rfl
   ·exact zvp (ih i hi (by omega)) h1
   ·exact h1
theorem zui {n:Int} {xs:List Int} (h:cxP n xs):xs.Nodup:=by
 refine List.pairwise_iff_getElem.2 fun i j hi hj hij e=>?_
 have:=zkb h j i hij hj
 rw [zdJ 0 hi,zdJ 0 hj,e,zrv] at this
 cases this
theorem zqb {n s:Int} (h:zdv n s = true):∃ m t:Nat,n = m∧s = t∧m ≤ 6∧t < 2 ^ m:=by
 unfold zdv at h
 have h:=of_decide_eq_true h
 obtain ⟨m,rfl⟩:=Int.eq_ofNat_of_zero_le h.1
 obtain ⟨t,rfl⟩:=Int.eq_ofNat_of_zero_le h.2.2.1
 refine ⟨m,t,rfl,rfl,by omega,?_⟩
 have:=h.2.2.2
 rw [zfM] at this
 omega
def okL (l:List Int):Prop:=∀ b ∈ l,0 ≤ b∧b < 64
theorem zdG {s:Int} (h:0 ≤ s∧s < 64):zkG s = (zap s.toNat:Nat):=by rw [zkG,if_pos h]
theorem zv7 (w:Nat→Bool) {n:Nat} (hn:n ≤ 6):zaE w (2 ^ n) < 18446744073709551616:=by
 have h1:=zbu w (2 ^ n)
 have h2:=zaz hn
 have h3:2 ^ (2 ^ n) ≤ 2 ^ 64:=Nat.pow_le_pow_right (by omega) h2
 omega
end Go.Proofs.Ytpnknaaehcljoaa
