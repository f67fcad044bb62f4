/- DERIVED by an AI agent. -/
import Derived.Test.YtpnknaaehcljoaaQ6
import Derived.Test.YtpnknaaehcljoaaP1
import Derived.Test.YtpnknaaehcljoaaQ2
import Derived.Test.YtpnknaaehcljoaaQ4
import Derived.Test.YtpnknaaehcljoaaQ5
namespace Go.Proofs.Ytpnknaaehcljoaa
open Go.Abs
open Nat (reduceEqDiff reduceMod reduceAdd reduceLT reduceLeDiff reduceSub reduceMul)
set_option linter.unusedSimpArgs false
set_option linter.unusedVariables false
def nsQ (xs:List Int) (p:Int) (i:Nat):Bool:=!zak xs (2 ^ i) || znR (zay (zak xs) (2 ^ i)) p
noncomputable def nsB (n:Int) (xs:List Int) (p:Int):Bool:=isP p && (puB n xs && (decide (0 < xs.length) && (List.range n.toNat).all (nsQ xs p)))
theorem zrW {q:Nat→Bool} {i:Nat}:(List.range (i + 1)).all q = ((List.range i).all q && q i):=by rw [List.range_succ,List.all_append];simp
theorem zvW {q:Nat→Bool} {i n:Nat} (hi:i < n) (h:q i = false):(List.range n).all q = false:=by
 rw [List.all_eq_false];exact ⟨i,List.mem_range.2 hi,by rw [h];decide⟩
theorem zdP (n:Int) (xs:List Int) (p:Int):AC Try.prog 62 [.ag [int n,zbv xs],int p] (.im (bool (nsB n xs p))):=by
 refine AC.go (rs:=[.tmp 4]) zbe zax Try.func62 rfl rfl rfl (by kernel_rfl) fun hl=>?_
 simp (maxSteps:=5000000) -dsimp only [↓gp,gq,reduceCtorEq,reduceEqDiff,reduceLT,reduceLeDiff,reduceAdd,reduceMul,reduceSub,Nat.reduceBEq,Int.reduceToNat,Int.reduceLE,Int.reduceLT,Int.reduceNeg,reduceMod,zac,zad,zab,zaa,gT,TK.isInt,TK.agg,Array.toList]
 refine zaf (zaZ p) ?_
 simp (maxSteps:=5000000) -dsimp only [↓gp,gq,reduceCtorEq,reduceEqDiff,reduceLT,reduceLeDiff,reduceAdd,reduceMul,reduceSub,Nat.reduceBEq,Int.reduceToNat,Int.reduceLE,Int.reduceLT,Int.reduceNeg,reduceMod,zac,zad,zab,zaa,gT,TK.isInt,TK.agg,Array.toList]
 unfold nsB
 refine ⟨fun hp=>zaf (zmy n xs) ?_,fun hp=>?_⟩
 ·have hp:isP p = true:=by simpa using hp
  rw [hp]
  simp (maxSteps:=5000000) -dsimp only [↓gp,gq,reduceCtorEq,reduceEqDiff,reduceLT,reduceLeDiff,reduceAdd,reduceMul,reduceSub,Nat.reduceBEq,Int.reduceToNat,Int.reduceLE,Int.reduceLT,Int.reduceNeg,reduceMod,zac,zad,zab,zaa,gT,TK.isInt,TK.agg,Array.toList]
  refine ⟨fun hu=>⟨fun h0=>?_,fun h0=>?_⟩,fun hu=>?_⟩
  ·have:¬ 0 < xs.length:=by simp at h0;simp [h0]
   rw [decide_eq_false this];simp
  ·have hu:puB n xs = true:=by simpa using hu
   have hpos:0 < xs.length:=by simp at h0;exact List.length_pos_iff.2 h0
   have hcx:zcN n xs = true:=by unfold puB at hu;rw [Bool.and_eq_true] at hu;exact hu.1
   obtain ⟨h1,h6,_⟩:=zbH.1 hcx
   obtain ⟨m,rfl⟩:∃ m:Nat,n = m:=⟨n.toNat,by omega⟩
   rw [hu,decide_eq_true hpos,Int.toNat_natCast]
   refine zaf (zb7 m xs (zcw hcx)) ?_
   have hmd:=zbu (zak xs) 64
   simp (maxSteps:=5000000) -dsimp only [↓gp,gq,reduceCtorEq,reduceEqDiff,reduceLT,reduceLeDiff,reduceAdd,reduceMul,reduceSub,Nat.reduceBEq,Int.reduceToNat,Int.reduceLE,Int.reduceLT,Int.reduceNeg,reduceMod,zac,zad,zab,zaa,gT,TK.isInt,TK.agg,Array.toList]
   refine zao (fun (i:Nat) s=>s.sl 1 = int p∧s.sl 2 = .ref 2 1 0∧s.rw 2 = ⟨1,.box 27 [int (m:Nat),zbv xs]⟩∧s.sl 5 = u64 (zaE (zak xs) 64:Nat)∧s.sl 6 = int i∧(i ≤ m∧(List.range i).all (nsQ xs p) = true)) (fun i=>m - i) (0) (by refine ⟨?_,?_,?_,?_,?_,⟨Nat.zero_le _,rfl⟩⟩ <;> (first | (simp (maxSteps:=5000000) -dsimp only [gr,reduceEqDiff,reduceLT,reduceAdd,reduceMod,Nat.reduceBEq,zaa,zac,zad,zab];first | done | rfl | (simp;done)) | assumption | rfl)) ?_
   intro i sa ⟨h1a,h2a,r2a,h5a,h6a,hIa⟩
   obtain ⟨hi,hall⟩:=hIa
   by_cases hlt:i < m
   ·have hun:IntKind.u64.wrap (i:Int) = (i:Int):=zbG (by omega)
    have hb64:2 ^ i < 64:=Nat.pow_lt_pow_right (n:=6) (by decide) (by omega)
    have hsh:znN .i64 1 (i:Int) = ((2 ^ i:Nat):Int):=zbB (by omega)
    have hno:=fun h=>zvW (q:=nsQ xs p) hlt h
    have hst:=zrW (q:=nsQ xs p) (i:=i)
    rw [hall,Bool.true_and] at hst
    have hqd:nsQ xs p i = (!zak xs (2 ^ i) || znR (zay (zak xs) (2 ^ i)) p):=rfl
    generalize hbit:2 ^ i = b at *
    have hmb:=za3 (zak xs) (s:=b) hb64
    simp (maxSteps:=5000000) -dsimp only [↓gp,gq,reduceCtorEq,reduceEqDiff,reduceLT,reduceLeDiff,reduceAdd,reduceMul,reduceSub,Nat.reduceBEq,Int.reduceToNat,Int.reduceLE,Int.reduceLT,Int.reduceNeg,reduceMod,zac,zad,zab,zaa,gT,TK.isInt,TK.agg,Array.toList,h1a,h2a,r2a,h5a,h6a,hun,hsh]
    refine ⟨fun _=>zaf (zb2 _ b (by omega) hb64) ?_,fun h=>absurd hlt h⟩
    rw [hmb]
    simp (maxSteps:=5000000) -dsimp only [↓gp,gq,reduceCtorEq,reduceEqDiff,reduceLT,reduceLeDiff,reduceAdd,reduceMul,reduceSub,Nat.reduceBEq,Int.reduceToNat,Int.reduceLE,Int.reduceLT,Int.reduceNeg,reduceMod,zac,zad,zab,zaa,gT,TK.isInt,TK.agg,Array.toList,h1a,h2a,r2a,h5a,h6a,hun,hsh]
    refine ⟨fun hf=>zaf (zd2 _ b hb64) ?_,fun hf=>?_⟩
    ·simp (maxSteps:=5000000) -dsimp only [↓gp,gq,reduceCtorEq,reduceEqDiff,reduceLT,reduceLeDiff,reduceAdd,reduceMul,reduceSub,Nat.reduceBEq,Int.reduceToNat,Int.reduceLE,Int.reduceLT,Int.reduceNeg,reduceMod,zac,zad,zab,zaa,gT,TK.isInt,TK.agg,Array.toList,h1a,h2a,r2a,h5a,h6a,hun,hsh]
     refine zaf (zcm _ p hp) ?_
     rw [hf] at hqd
     simp (maxSteps:=5000000) -dsimp only [↓gp,gq,reduceCtorEq,reduceEqDiff,reduceLT,reduceLeDiff,reduceAdd,reduceMul,reduceSub,Nat.reduceBEq,Int.reduceToNat,Int.reduceLE,Int.reduceLT,Int.reduceNeg,reduceMod,zac,zad,zab,zaa,gT,TK.isInt,TK.agg,Array.toList,h1a,h2a,r2a,h5a,h6a,hun,hsh]
     refine ⟨fun hx=>?_,fun hx=>?_⟩
     ·have hx:znR (zay (zak xs) b) p = false:=by simpa using hx
      rw [hno (by rw [hqd,hx];rfl)]
     ·have hx:znR (zay (zak xs) b) p = true:=by simpa using hx
      exact zag (i + 1) (by refine ⟨?_,?_,?_,?_,?_,⟨by omega,by rw [hst,hqd,hx];rfl⟩⟩ <;> (first | (simp (maxSteps:=5000000) -dsimp only [gr,reduceEqDiff,reduceLT,reduceAdd,reduceMod,Nat.reduceBEq,zaa,zac,zad,zab,h1a,h2a,r2a,h5a,h6a,zae hlt (by omega)];first | done | rfl | (simp;done)) | assumption | rfl)) (by first | omega | (simp only;omega) | (dsimp only;omega) | (show _ < _;simp;omega))
    ·rw [hf] at hqd
     exact zag (i + 1) (by refine ⟨?_,?_,?_,?_,?_,⟨by omega,by rw [hst,hqd];rfl⟩⟩ <;> (first | (simp (maxSteps:=5000000) -dsimp only [gr,reduceEqDiff,reduceLT,reduceAdd,reduceMod,Nat.reduceBEq,zaa,zac,zad,zab,h1a,h2a,r2a,h5a,h6a,zae hlt (by omega)];first | done | rfl | (simp;done)) | assumption | rfl)) (by first | omega | (simp only;omega) | (dsimp only;omega) | (show _ < _;simp;omega))
   ·have him:i = m:=by omega
    subst him
    rw [hall]
    simp (maxSteps:=5000000) -dsimp only [↓gp,gq,reduceCtorEq,reduceEqDiff,reduceLT,reduceLeDiff,reduceAdd,reduceMul,reduceSub,Nat.reduceBEq,Int.reduceToNat,Int.reduceLE,Int.reduceLT,Int.reduceNeg,reduceMod,zac,zad,zab,zaa,gT,TK.isInt,TK.agg,Array.toList,h1a,h2a,r2a,h5a,h6a]
    exact fun h=>absurd h (by omega)
  ·have hu:puB n xs = false:=by simpa using hu
   rw [hu];rfl
 ·have hp:isP p = false:=by simpa using hp
  rw [hp];rfl
theorem zzQ {m:Nat} {xs:List Int} (h:zcN (m:Int) xs = true) {s:Nat} (hs:s < 64):zak (ofN (zhS (inF (zk6 xs s)) true)) = zay (zak xs) s:=by
 funext t
 rw [← zv5 h hs t]
 unfold zbM
 rw [zv4 h hs,Bool.true_and]
theorem zg0 (n:Int) (xs:List Int) (p:Int):AC Try.prog 63 [.ag [int n,zbv xs],int p] (.im (bool (nsB n xs p))):=by
 refine AC.go (rs:=[.tmp 4]) zbe zax Try.func63 rfl rfl rfl (by kernel_rfl) fun hl=>?_
 simp (maxSteps:=5000000) -dsimp only [↓gp,gq,reduceCtorEq,reduceEqDiff,reduceLT,reduceLeDiff,reduceAdd,reduceMul,reduceSub,Nat.reduceBEq,Int.reduceToNat,Int.reduceLE,Int.reduceLT,Int.reduceNeg,reduceMod,zac,zad,zab,zaa,gT,TK.isInt,TK.agg,Array.toList]
 refine zaf (zc3 n xs) ?_
 simp (maxSteps:=5000000) -dsimp only [↓gp,gq,reduceCtorEq,reduceEqDiff,reduceLT,reduceLeDiff,reduceAdd,reduceMul,reduceSub,Nat.reduceBEq,Int.reduceToNat,Int.reduceLE,Int.reduceLT,Int.reduceNeg,reduceMod,zac,zad,zab,zaa,gT,TK.isInt,TK.agg,Array.toList]
 unfold nsB
 refine ⟨fun hu=>⟨fun h0=>zaf (zaY p) ?_,fun h0=>?_⟩,fun hu=>?_⟩
 ·have hu:puB n xs = true:=by simpa using hu
  have hpos:0 < xs.length:=by simp at h0;exact List.length_pos_iff.2 h0
  have hcx:zcN n xs = true:=by unfold puB at hu;rw [Bool.and_eq_true] at hu;exact hu.1
  obtain ⟨h1,h6,_⟩:=zbH.1 hcx
  obtain ⟨m,rfl⟩:∃ m:Nat,n = m:=⟨n.toNat,by omega⟩
  rw [hu,decide_eq_true hpos,Int.toNat_natCast]
  simp (maxSteps:=5000000) -dsimp only [↓gp,gq,reduceCtorEq,reduceEqDiff,reduceLT,reduceLeDiff,reduceAdd,reduceMul,reduceSub,Nat.reduceBEq,Int.reduceToNat,Int.reduceLE,Int.reduceLT,Int.reduceNeg,reduceMod,zac,zad,zab,zaa,gT,TK.isInt,TK.agg,Array.toList]
  refine ⟨fun hp=>?_,fun hp=>?_⟩
  ·have hp:isP p = false:=by simpa using hp
   rw [hp];rfl
  ·have hp:isP p = true:=by simpa using hp
   rw [hp,Bool.true_and]
   refine zao (fun (i:Nat) s=>s.sl 1 = int p∧s.sl 2 = .ref 2 1 0∧s.rw 2 = ⟨1,.box 27 [int (m:Nat),zbv xs]⟩∧s.sl 5 = int i∧(i ≤ m∧(List.range i).all (nsQ xs p) = true)) (fun i=>m - i) (0) (by refine ⟨?_,?_,?_,?_,⟨Nat.zero_le _,rfl⟩⟩ <;> (first | (simp (maxSteps:=5000000) -dsimp only [gr,reduceEqDiff,reduceLT,reduceAdd,reduceMod,Nat.reduceBEq,zaa,zac,zad,zab];first | done | rfl | (simp;done)) | assumption | rfl)) ?_
   intro i sa ⟨h1a,h2a,r2a,h5a,hIa⟩
   obtain ⟨hi,hall⟩:=hIa
   by_cases hlt:i < m
   ·have hun:IntKind.u64.wrap (i:Int) = (i:Int):=zbG (by omega)
    have hb64:2 ^ i < 64:=Nat.pow_lt_pow_right (n:=6) (by decide) (by omega)
    have hsh:znN .i64 1 (i:Int) = ((2 ^ i:Nat):Int):=zbB (by omega)
    have hno:=fun h=>zvW (q:=nsQ xs p) hlt h
    have hst:=zrW (q:=nsQ xs p) (i:=i)
    rw [hall,Bool.true_and] at hst
    have hqd:nsQ xs p i = (!zak xs (2 ^ i) || znR (zay (zak xs) (2 ^ i)) p):=rfl
    generalize hbit:2 ^ i = b at *
    have hcm:cmO m (ofN (zhS (inF (zk6 xs b)) true)) p = znR (zay (zak xs) b) p:=by
     unfold cmO
     rw [zv4 hcx hb64,hp,zzQ hcx hb64];rfl
    simp (maxSteps:=5000000) -dsimp only [↓gp,gq,reduceCtorEq,reduceEqDiff,reduceLT,reduceLeDiff,reduceAdd,reduceMul,reduceSub,Nat.reduceBEq,Int.reduceToNat,Int.reduceLE,Int.reduceLT,Int.reduceNeg,reduceMod,zac,zad,zab,zaa,gT,TK.isInt,TK.agg,Array.toList,h1a,h2a,r2a,h5a,hun,hsh]
    refine ⟨fun _=>zaf (zht m xs b (zcw hcx) hb64) ?_,fun h=>absurd hlt h⟩
    simp (maxSteps:=5000000) -dsimp only [↓gp,gq,reduceCtorEq,reduceEqDiff,reduceLT,reduceLeDiff,reduceAdd,reduceMul,reduceSub,Nat.reduceBEq,Int.reduceToNat,Int.reduceLE,Int.reduceLT,Int.reduceNeg,reduceMod,zac,zad,zab,zaa,gT,TK.isInt,TK.agg,Array.toList,h1a,h2a,r2a,h5a,hun,hsh]
    refine ⟨fun hf=>zaf (zei _ xs b hb64 (zcw hcx) (by have:=zur hcx;omega)) ?_,fun hf=>?_⟩
    ·simp (maxSteps:=5000000) -dsimp only [↓gp,gq,reduceCtorEq,reduceEqDiff,reduceLT,reduceLeDiff,reduceAdd,reduceMul,reduceSub,Nat.reduceBEq,Int.reduceToNat,Int.reduceLE,Int.reduceLT,Int.reduceNeg,reduceMod,zac,zad,zab,zaa,gT,TK.isInt,TK.agg,Array.toList,h1a,h2a,r2a,h5a,hun,hsh]
     refine zaf (zcy _ _ p) ?_
     rw [hcm]
     rw [hf] at hqd
     simp (maxSteps:=5000000) -dsimp only [↓gp,gq,reduceCtorEq,reduceEqDiff,reduceLT,reduceLeDiff,reduceAdd,reduceMul,reduceSub,Nat.reduceBEq,Int.reduceToNat,Int.reduceLE,Int.reduceLT,Int.reduceNeg,reduceMod,zac,zad,zab,zaa,gT,TK.isInt,TK.agg,Array.toList,h1a,h2a,r2a,h5a,hun,hsh]
     refine ⟨fun hx=>?_,fun hx=>?_⟩
     ·have hx:znR (zay (zak xs) b) p = false:=by simpa using hx
      rw [hno (by rw [hqd,hx];rfl)]
     ·have hx:znR (zay (zak xs) b) p = true:=by simpa using hx
      exact zag (i + 1) (by refine ⟨?_,?_,?_,?_,⟨by omega,by rw [hst,hqd,hx];rfl⟩⟩ <;> (first | (simp (maxSteps:=5000000) -dsimp only [gr,reduceEqDiff,reduceLT,reduceAdd,reduceMod,Nat.reduceBEq,zaa,zac,zad,zab,h1a,h2a,r2a,h5a,zae hlt (by omega)];first | done | rfl | (simp;done)) | assumption | rfl)) (by first | omega | (simp only;omega) | (dsimp only;omega) | (show _ < _;simp;omega))
    ·rw [hf] at hqd
     exact zag (i + 1) (by refine ⟨?_,?_,?_,?_,⟨by omega,by rw [hst,hqd];rfl⟩⟩ <;> (first | (simp (maxSteps:=5000000) -dsimp only [gr,reduceEqDiff,reduceLT,reduceAdd,reduceMod,Nat.reduceBEq,zaa,zac,zad,zab,h1a,h2a,r2a,h5a,zae hlt (by omega)];first | done | rfl | (simp;done)) | assumption | rfl)) (by first | omega | (simp only;omega) | (dsimp only;omega) | (show _ < _;simp;omega))
   ·have him:i = m:=by omega
    subst him
    rw [hall]
    simp (maxSteps:=5000000) -dsimp only [↓gp,gq,reduceCtorEq,reduceEqDiff,reduceLT,reduceLeDiff,reduceAdd,reduceMul,reduceSub,Nat.reduceBEq,Int.reduceToNat,Int.reduceLE,Int.reduceLT,Int.reduceNeg,reduceMod,zac,zad,zab,zaa,gT,TK.isInt,TK.agg,Array.toList,h1a,h2a,r2a,h5a]
    exact fun h=>absurd h (by omega)
 ·have:¬ 0 < xs.length:=by simp at h0;simp [h0]
  rw [decide_eq_false this];simp
 ·have hu:puB n xs = false:=by simpa using hu
  rw [hu];simp
theorem zfF (G t k:Nat) (hG:G < 18446744073709551616) (ht:t < 64):AC Try.prog 166 [int t,.eref false [u64 G] 0,.eref false [int k] 0] (.im (bool (skF G.testBit k t))):=by
 refine AC.go (rs:=[.tmp 4]) zbe zax Try.func166 rfl rfl rfl (by kernel_rfl) fun hl=>?_
 simp (maxSteps:=5000000) -dsimp only [↓gp,gq,reduceCtorEq,reduceEqDiff,reduceLT,reduceLeDiff,reduceAdd,reduceMul,reduceSub,Nat.reduceBEq,Int.reduceToNat,Int.reduceLE,Int.reduceLT,Int.reduceNeg,reduceMod,zac,zad,zab,zaa,gT,TK.isInt,TK.agg,Array.toList]
 unfold skF
 refine ⟨by kernel_rfl,zaf (zb2 G _ hG ht) ?_⟩
 simp (maxSteps:=5000000) -dsimp only [↓gp,gq,reduceCtorEq,reduceEqDiff,reduceLT,reduceLeDiff,reduceAdd,reduceMul,reduceSub,Nat.reduceBEq,Int.reduceToNat,Int.reduceLE,Int.reduceLT,Int.reduceNeg,reduceMod,zac,zad,zab,zaa,gT,TK.isInt,TK.agg,Array.toList]
 refine ⟨fun h=>zaf (zaG _) ?_,fun h=>?_⟩
 ·rw [zce ht,h]
  simp (maxSteps:=5000000) -dsimp only [↓gp,gq,reduceCtorEq,reduceEqDiff,reduceLT,reduceLeDiff,reduceAdd,reduceMul,reduceSub,Nat.reduceBEq,Int.reduceToNat,Int.reduceLE,Int.reduceLT,Int.reduceNeg,reduceMod,zac,zad,zab,zaa,gT,TK.isInt,TK.agg,Array.toList]
 ·rw [h];rfl
theorem zgZ (f:Nat→Bool) (k:Nat):AC Try.prog 131 [u64 (zaE f 64:Nat),int k] (.im (u64 (zaE (skF f k) 64:Nat))):=by
 refine AC.go (rs:=[.tmp 4]) zbe zax Try.func131 rfl rfl rfl (by kernel_rfl) fun hl=>?_
 have hlt:=zbu f 64
 simp (maxSteps:=5000000) -dsimp only [↓gp,gq,reduceCtorEq,reduceEqDiff,reduceLT,reduceLeDiff,reduceAdd,reduceMul,reduceSub,Nat.reduceBEq,Int.reduceToNat,Int.reduceLE,Int.reduceLT,Int.reduceNeg,reduceMod,zac,zad,zab,zaa,gT,TK.isInt,TK.agg,Array.toList]
 refine zaf (zeu 6 (by omega) _ [.eref false [u64 (zaE f 64:Nat)] 0,.eref false [int k] 0] (skF (zaE f 64).testBit k) (fun rw=>rfl) fun t ht=>zfF _ t k (by omega) (by omega)) ?_
 rw [zk5 (w':=skF f k) (by omega) fun t ht=>by rw [decide_eq_true (show t < 2 ^ 6 by omega),Bool.true_and];unfold skF;rw [za3 f (by omega)]]
 simp (maxSteps:=5000000) -dsimp only [↓gp,gq,reduceCtorEq,reduceEqDiff,reduceLT,reduceLeDiff,reduceAdd,reduceMul,reduceSub,Nat.reduceBEq,Int.reduceToNat,Int.reduceLE,Int.reduceLT,Int.reduceNeg,reduceMod,zac,zad,zab,zaa,gT,TK.isInt,TK.agg,Array.toList]
def dsJ (f:Nat→Bool) (p:Int):Nat→Int | 0=>-1 | j + 1=>if znR (skF f j) p = true then (j:Int) else dsJ f p j
theorem zen (n:Int) (xs:List Int) (p:Int):AC Try.prog 64 [.ag [int n,zbv xs],int p] (.im (int (if zet n xs = true∧isP p = true then dsJ (zak xs) p (zaV (zak xs)) else -1))):=by
 refine AC.go (rs:=[.tmp 4]) zbe zax Try.func64 rfl rfl rfl (by kernel_rfl) fun hl=>?_
 simp (maxSteps:=5000000) -dsimp only [↓gp,gq,reduceCtorEq,reduceEqDiff,reduceLT,reduceLeDiff,reduceAdd,reduceMul,reduceSub,Nat.reduceBEq,Int.reduceToNat,Int.reduceLE,Int.reduceLT,Int.reduceNeg,reduceMod,zac,zad,zab,zaa,gT,TK.isInt,TK.agg,Array.toList]
 refine zaf (zbP n xs) ?_
 simp (maxSteps:=5000000) -dsimp only [↓gp,gq,reduceCtorEq,reduceEqDiff,reduceLT,reduceLeDiff,reduceAdd,reduceMul,reduceSub,Nat.reduceBEq,Int.reduceToNat,Int.reduceLE,Int.reduceLT,Int.reduceNeg,reduceMod,zac,zad,zab,zaa,gT,TK.isInt,TK.agg,Array.toList]
 refine ⟨fun hc=>⟨fun h0=>zaf (zaZ p) ?_,fun h0=>?_⟩,fun hc=>?_⟩
 ·have hcx:zcN n xs = true:=by simpa using hc
  have hh:zet n xs = true:=zaJ.2 ⟨hcx,by simp at h0;exact List.length_pos_iff.2 h0⟩
  simp (maxSteps:=5000000) -dsimp only [↓gp,gq,reduceCtorEq,reduceEqDiff,reduceLT,reduceLeDiff,reduceAdd,reduceMul,reduceSub,Nat.reduceBEq,Int.reduceToNat,Int.reduceLE,Int.reduceLT,Int.reduceNeg,reduceMod,zac,zad,zab,zaa,gT,TK.isInt,TK.agg,Array.toList]
  refine ⟨fun hp=>?_,fun hp=>?_⟩
  ·rw [if_neg (fun h=>by rw [h.2] at hp;cases hp)]
  ·have hp:isP p = true:=by simpa using hp
   rw [if_pos ⟨hh,hp⟩]
   refine zaf (zb7 n xs (zcw hcx)) ?_
   simp (maxSteps:=5000000) -dsimp only [↓gp,gq,reduceCtorEq,reduceEqDiff,reduceLT,reduceLeDiff,reduceAdd,reduceMul,reduceSub,Nat.reduceBEq,Int.reduceToNat,Int.reduceLE,Int.reduceLT,Int.reduceNeg,reduceMod,zac,zad,zab,zaa,gT,TK.isInt,TK.agg,Array.toList]
   refine zaf (zcb _) ?_
   simp (maxSteps:=5000000) -dsimp only [↓gp,gq,reduceCtorEq,reduceEqDiff,reduceLT,reduceLeDiff,reduceAdd,reduceMul,reduceSub,Nat.reduceBEq,Int.reduceToNat,Int.reduceLE,Int.reduceLT,Int.reduceNeg,reduceMod,zac,zad,zab,zaa,gT,TK.isInt,TK.agg,Array.toList]
   have hdm:=zcg (zak xs)
   have hres:dsJ (zak xs) p (zaV (zak xs)) = dsJ (zak xs) p (zaV (zak xs)):=rfl
   generalize hR:dsJ (zak xs) p (zaV (zak xs)) = R at hres ⊢
   refine zao (fun (j:Nat) s=>s.sl 1 = int p∧s.sl 5 = u64 (zaE (zak xs) 64:Nat)∧s.sl 6 = int ((j:Int) - 1)∧(j ≤ 7∧dsJ (zak xs) p j = R)) (fun j=>j) (zaV (zak xs)) (by refine ⟨?_,?_,?_,⟨hdm,hR⟩⟩ <;> (first | (simp (maxSteps:=5000000) -dsimp only [gr,reduceEqDiff,reduceLT,reduceAdd,reduceMod,Nat.reduceBEq,zaa,zac,zad,zab];first | done | rfl | (simp;done)) | assumption | rfl)) ?_
   intro j sa ⟨h1a,h5a,h6a,hIa⟩
   obtain ⟨hj,hd⟩:=hIa
   by_cases hz:j = 0
   ·subst hz
    simp (maxSteps:=5000000) -dsimp only [↓gp,gq,reduceCtorEq,reduceEqDiff,reduceLT,reduceLeDiff,reduceAdd,reduceMul,reduceSub,Nat.reduceBEq,Int.reduceToNat,Int.reduceLE,Int.reduceLT,Int.reduceNeg,reduceMod,zac,zad,zab,zaa,gT,TK.isInt,TK.agg,Array.toList,h1a,h5a,h6a]
    exact ⟨fun h=>absurd h (by omega),fun _=>hd.symm⟩
   ·obtain ⟨i,rfl⟩:∃ i,j = i + 1:=⟨j - 1,by omega⟩
    have he:((i + 1:Nat):Int) - 1 = (i:Int):=by omega
    have hw:IntKind.i64.wrap ((i:Int) - 1) = (i:Int) - 1:=zaq (by omega) (by omega)
    unfold dsJ at hd
    simp (maxSteps:=5000000) -dsimp only [↓gp,gq,reduceCtorEq,reduceEqDiff,reduceLT,reduceLeDiff,reduceAdd,reduceMul,reduceSub,Nat.reduceBEq,Int.reduceToNat,Int.reduceLE,Int.reduceLT,Int.reduceNeg,reduceMod,zac,zad,zab,zaa,gT,TK.isInt,TK.agg,Array.toList,h1a,h5a,h6a,he]
    refine zaf (zgZ _ i) ?_
    simp (maxSteps:=5000000) -dsimp only [↓gp,gq,reduceCtorEq,reduceEqDiff,reduceLT,reduceLeDiff,reduceAdd,reduceMul,reduceSub,Nat.reduceBEq,Int.reduceToNat,Int.reduceLE,Int.reduceLT,Int.reduceNeg,reduceMod,zac,zad,zab,zaa,gT,TK.isInt,TK.agg,Array.toList,h1a,h5a,h6a,he]
    refine zaf (zcm _ p hp) ?_
    simp (maxSteps:=5000000) -dsimp only [↓gp,gq,reduceCtorEq,reduceEqDiff,reduceLT,reduceLeDiff,reduceAdd,reduceMul,reduceSub,Nat.reduceBEq,Int.reduceToNat,Int.reduceLE,Int.reduceLT,Int.reduceNeg,reduceMod,zac,zad,zab,zaa,gT,TK.isInt,TK.agg,Array.toList,h1a,h5a,h6a,he,hw]
    refine ⟨fun hf=>?_,fun hf=>?_⟩
    ·rw [if_pos hf] at hd
     exact hd.symm
    ·rw [if_neg (by rw [hf];decide)] at hd
     exact zag (i) (by refine ⟨?_,?_,?_,⟨by omega,hd⟩⟩ <;> (first | (simp (maxSteps:=5000000) -dsimp only [gr,reduceEqDiff,reduceLT,reduceAdd,reduceMod,Nat.reduceBEq,zaa,zac,zad,zab,h1a,h5a,h6a,h1a,h5a,h6a,he,hw];first | done | rfl | (simp;done)) | assumption | rfl)) (by first | omega | (simp only;omega) | (dsimp only;omega) | (show _ < _;simp;omega))
 ·rw [if_neg (fun h=>by have:=(zaJ.1 h.1).2;simp at h0;simp [h0] at this)]
 ·rw [if_neg (fun h=>by have:=(zaJ.1 h.1).1;rw [this] at hc;cases hc)]
theorem zdw (n:Int) (xs:List Int):AC Try.prog 67 [.ag [int n,zbv xs]] (.im (bool (zDQ n xs).isSome)):=by
 refine AC.go (rs:=[.tmp 2]) zbe zax Try.func67 rfl rfl rfl (by kernel_rfl) fun hl=>?_
 simp (maxSteps:=5000000) -dsimp only [↓gp,gq,reduceCtorEq,reduceEqDiff,reduceLT,reduceLeDiff,reduceAdd,reduceMul,reduceSub,Nat.reduceBEq,Int.reduceToNat,Int.reduceLE,Int.reduceLT,Int.reduceNeg,reduceMod,zac,zad,zab,zaa,gT,TK.isInt,TK.agg,Array.toList]
 refine zaf (zf0 n xs) ?_
 simp (maxSteps:=5000000) -dsimp only [↓gp,gq,reduceCtorEq,reduceEqDiff,reduceLT,reduceLeDiff,reduceAdd,reduceMul,reduceSub,Nat.reduceBEq,Int.reduceToNat,Int.reduceLE,Int.reduceLT,Int.reduceNeg,reduceMod,zac,zad,zab,zaa,gT,TK.isInt,TK.agg,Array.toList]
theorem ziP {fits:List Int→Int→Bool} {gens:List Int}:∀ (n:Nat) (head l:List Int),zfZ fits gens n head = some l→head.Nodup→(∀ x ∈ head,x ∈ gens)→(∀ i,i < head.length→fits (head.take i) (head.getD i 0) = true) →
 l.length = head.length + n∧l.Nodup∧(∀ x ∈ l,x ∈ gens)∧∀ i,i < l.length→fits (l.take i) (l.getD i 0) = true
 | 0,head,l,h,h1,h2,h3=>by
   have h:some head = some l:=h
   cases h
   exact ⟨rfl,h1,h2,h3⟩
 | n + 1,head,l,h,h1,h2,h3=>by
   unfold zfZ at h
   obtain ⟨g,hg,h⟩:=List.exists_of_findSome?_eq_some h
   split at h
   ·cases h
   ·rename_i hc
    simp only [Bool.or_eq_true,decide_eq_true_eq,Bool.not_eq_true',not_or,Bool.not_eq_false] at hc
    obtain ⟨a,b,c,d⟩:=ziP n (head ++ [g]) l h (List.nodup_append.2 ⟨h1,by simp,fun x hx y hy e=>by rw [List.mem_singleton] at hy;subst hy;subst e;exact hc.1 hx⟩) (fun x hx=>by
     rw [List.mem_append,List.mem_singleton] at hx
     exact hx.elim (h2 x) (fun e=>e ▸ hg)) fun i hi=>by
      rw [List.length_append,List.length_singleton] at hi
      by_cases e:i < head.length
      ·rw [List.take_append_of_le_length (by omega)]
       have:(head ++ [g]).getD i 0 = head.getD i 0:=by rw [List.getD_eq_getElem?_getD,List.getElem?_append_left e,← List.getD_eq_getElem?_getD]
       rw [this];exact h3 i e
      ·have e:i = head.length:=by omega
       subst e
       have:(head ++ [g]).getD head.length 0 = g:=by rw [List.getD_eq_getElem?_getD,List.getElem?_append_right (Nat.le_refl _)];simp
       rw [this,List.take_append_of_le_length (Nat.le_refl _),List.take_length]
       exact hc.2
    rw [List.length_append,List.length_singleton] at a
    exact ⟨by omega,b,c,d⟩
theorem zF3 {n:Int} {xs:List Int} (h:zcN n xs = true):xs.Nodup:=zui (zbH.1 h)
theorem zuH {m q d:Nat} [NeZero q] {xs:List Int} (hh:zet m xs = true) (hp:isP (q:Int) = true) (hsh:(zDQ m xs).isSome = true) (hpu:puB m xs = true) (hd:zhp q (zak xs) m d):(d:Int) = (zaV (zak xs):Int) - 1:=by
 obtain ⟨hcx,hpos⟩:=zaJ.1 hh
 obtain ⟨h1,h6,h3⟩:=zbH.1 hcx
 have h6:m ≤ 6:=by omega
 have h64:=zaz h6
 have hok:=zcw hcx
 obtain ⟨l,hl⟩:=Option.isSome_iff_exists.1 hsh
 have hperm:(zk2 xs).Perm xs:=by rw [← zA2 (zF3 hcx) hok];exact zmx xs
 have hsrt:∀ x,x ∈ zk2 xs ↔ x ∈ xs:=fun x=>hperm.mem_iff
 have hfind:zfZ shB (zk2 xs) (zk2 xs).length [] = some l:=by
  unfold zDQ at hl
  split at hl
  ·exact hl
  ·cases hl
 obtain ⟨a,b,c,e⟩:=ziP _ _ _ hfind .nil (fun x hx=>by simp at hx) (fun i hi=>by simp at hi)
 have hmem:∀ x,x ∈ l ↔ x ∈ xs:=by
  have hlen:l.length = (zk2 xs).length:=by simpa using a
  have hp:=zka (m:=zk2 xs) b (fun x hx=>c x hx) (by omega)
  intro x
  rw [hp.mem_iff,hsrt]
 have hpop:∀ x ∈ xs,zap x.toNat = zap (xs.getD 0 0).toNat:=by
  unfold puB at hpu
  rw [Bool.and_eq_true,List.all_eq_true] at hpu
  exact fun x hx=>of_decide_eq_true (hpu.2 x hx)
 have hlt:∀ x ∈ xs,x.toNat < 2 ^ m:=fun x hx=>by
  obtain ⟨i,hi,rfl⟩:=zbq 0 hx
  obtain ⟨m2,t,e1,e2,h2,h3⟩:=zqb (h3 i hi).1
  have:m = m2:=by omega
  subst this
  rw [e2,Int.toNat_natCast];exact h3
 have hsd:=zzF (p:=q) (l:=l.map Int.toNat) (n:=m) (d:=zap (xs.getD 0 0).toNat) h6 (fun g hg=>by
  obtain ⟨x,hx,rfl⟩:=List.mem_map.1 hg
  exact ⟨hlt x ((hmem x).1 hx),hpop x ((hmem x).1 hx)⟩) fun i hi=>by
   rw [List.length_map] at hi
   have:=e i hi
   unfold shB at this
   rw [← List.map_take]
   have e2:(l.map Int.toNat).getD i 0 = (l.getD i 0).toNat:=by simp [List.getD,hi]
   rw [e2];exact this
 have hpre:zh0 (l.map Int.toNat) = zak xs:=by
  funext s
  unfold zh0 zak
  rw [List.any_map,Bool.eq_iff_iff,List.any_eq_true,List.any_eq_true]
  exact ⟨fun ⟨x,hx,h⟩=>⟨x,(hmem x).1 hx,h⟩,fun ⟨x,hx,h⟩=>⟨x,(hmem x).2 hx,h⟩⟩
 rw [hpre] at hsd
 have h2:=zrY hcx
 have hge:zap (xs.getD 0 0).toNat ≤ d:=by
  obtain ⟨⟨F,k,hF,_,hac,hk⟩,_⟩:=hd
  exact Nat.le_of_not_lt fun hlt=>hac (hsd F hF k (by omega))
 have hdim:(zaV (zak xs):Int) - 1 = (zap (xs.getD 0 0).toNat:Int):=by
  have e1:=zrZ hh
  have e2:zkU (m:Int) xs = (zap (xs.getD (xs.length - 1) 0).toNat:Int) - 1:=if_pos hh
  rw [hpop _ (zat 0 (by omega))] at e2
  omega
 obtain ⟨d',hd',_,_,hle⟩:=zmA (q:=q) (f:=zak xs) (m:=m) hp (fun s t hs ht=>zmv hs ht) (zgR hh).choose_spec.2.2.2.2.1 h6 fun t ht hft=>by
  obtain ⟨x,hx,e⟩:=za8.1 hft
  exact Nat.lt_of_le_of_lt (by rw [← e];exact Nat.and_le_left) (hlt x hx)
 have:=hd.uniq hd'
 omega
theorem zCu {l:List Nat} (h:l.Pairwise zuh):l.Nodup:=h.imp fun {a b} hab e=>by subst e;exact zfN hab
theorem zFR {a b:List Nat} (ha:a.Pairwise zuh) (hb:b.Pairwise zuh) (h:∀ s,s ∈ a ↔ s ∈ b):a = b :=
 List.Perm.eq_of_pairwise (fun x y _ _ h1 h2=>by unfold zuh at h1 h2;omega) ha hb ((List.perm_ext_iff_of_nodup (zCu ha) (zCu hb)).2 h)
theorem zFS {n:Int} {xs:List Int} (h:zcN n xs = true):xs = ofN (zhS (zak xs) true):=by
 have hp:=zbH.1 h
 have hok:=zcw h
 have e0:ofN (xs.map Int.toNat) = xs:=by
  unfold ofN
  rw [List.map_map]
  have:∀ x ∈ xs,((fun s:Nat=>(s:Int)) ∘ Int.toNat) x = id x:=fun x hx=>by
   have:=hok x hx
   show ((x.toNat:Nat):Int) = x
   omega
  rw [List.map_congr_left this,List.map_id]
 have hpw:(xs.map Int.toNat).Pairwise zuh:=by
  refine List.pairwise_iff_getElem.2 fun i j hi hj hij=>?_
  have hi':i < xs.length:=by simpa using hi
  have hj':j < xs.length:=by simpa using hj
  have hs:=zkb hp j i hij hj'
  rw [zdJ 0 hi',zdJ 0 hj'] at hs
  have a:=hok _ (List.getElem_mem hi')
  have b:=hok _ (List.getElem_mem hj')
  rw [List.getElem_map,List.getElem_map]
  generalize xs[i] = x at *
  generalize xs[j] = y at *
  unfold zkH at hs
  rw [zdG a,zdG b] at hs
  simp only [Bool.and_eq_true,decide_eq_true_iff] at hs
  obtain ⟨_,_,hs⟩:=hs
  unfold zuh
  split at hs
  ·rw [decide_eq_true_iff] at hs;omega
  ·rw [decide_eq_true_iff] at hs;omega
 have key:xs.map Int.toNat = zhS (zak xs) true:=by
  refine zFR hpw (zrD _ _) fun s=>?_
  rw [zfc]
  have hfb:∀ t,zak xs t = true ↔ ∃ x ∈ xs,x.toNat &&& t = t:=fun t=>by
   unfold zak;rw [List.any_eq_true]
   exact ⟨fun ⟨x,h1,h2⟩=>⟨x,h1,by simpa using h2⟩,fun ⟨x,h1,h2⟩=>⟨x,h1,by simpa using h2⟩⟩
  have hinc:∀ x ∈ xs,∀ y ∈ xs,x.toNat &&& y.toNat = x.toNat→x = y:=fun x hx y hy hxy=>by
   obtain ⟨i,hi,rfl⟩:=zbq 0 hx
   obtain ⟨j,hj,rfl⟩:=zbq 0 hy
   rcases Nat.lt_trichotomy i j with hij | hij | hij
   ·have:=(hp.2.2 j hj).2.2 i hij
    have a:=hok _ (zat 0 hi)
    have b:=hok _ (zat 0 hj)
    refine absurd ?_ this
    have e1:xs.getD i 0 = (((xs.getD i 0).toNat:Nat):Int):=by omega
    have e2:xs.getD j 0 = (((xs.getD j 0).toNat:Nat):Int):=by omega
    rw [e1,e2,za4 (by omega) (by omega),hxy]
   ·rw [hij]
   ·have hs:=zkb hp i j hij hi
    have a:=hok _ (zat 0 hi)
    have b:=hok _ (zat 0 hj)
    by_cases hne:xs.getD i 0 = xs.getD j 0
    ·exact hne
    ·have:=zrt (s:=(xs.getD j 0).toNat) (t:=(xs.getD i 0).toNat) (by omega) (by omega) hxy (by omega)
     unfold zkH at hs
     rw [zdG a,zdG b] at hs
     simp only [Bool.and_eq_true,decide_eq_true_iff] at hs
     obtain ⟨_,_,hs⟩:=hs
     split at hs
     ·rw [decide_eq_true_iff] at hs;omega
     ·rw [decide_eq_true_iff] at hs;omega
  constructor
  ·intro hs
   obtain ⟨x,hx,rfl⟩:=List.mem_map.1 hs
   have a:=hok x hx
   refine ⟨⟨by omega,(hfb _).2 ⟨x,hx,Nat.and_self _⟩⟩,zcS.2 fun t ht hft hxt=>?_⟩
   obtain ⟨y,hy,hyt⟩:=(hfb t).1 hft
   have hxy:x.toNat &&& y.toNat = x.toNat:=by
    rw [← hxt,Nat.and_assoc,Nat.and_comm t,hyt]
   have:=hinc x hx y hy hxy
   subst this
   exact hyt.symm.trans hxt
  ·rintro ⟨⟨h64,hf⟩,he⟩
   obtain ⟨y,hy,hys⟩:=(hfb s).1 hf
   have b:=hok y hy
   have:=zcS.1 he y.toNat (by omega) ((hfb _).2 ⟨y,hy,Nat.and_self _⟩) (by rw [Nat.and_comm];exact hys)
   rw [← this];exact List.mem_map.2 ⟨y,hy,rfl⟩
 rw [← key,e0]
section
variable {m q d:Nat} [NeZero q] {xs:List Int}
theorem zzP (T:Nat) (hT:T < 64) (j:Nat) (hj:j ≤ zap T):∃ U,T &&& U = U∧U < 64∧zap U = j:=by
 have h:((List.range 64).all fun T=>(List.range 8).all fun j=>!(decide (j ≤ zap T)) || (List.range 64).any fun U=>(T &&& U == U) && (zap U == j)) = true:=by decide +kernel
 have hj8:j < 8:=by
  have h:((List.range 64).all fun T=>decide (zap T ≤ 6)) = true:=by decide +kernel
  have:=of_decide_eq_true (List.all_eq_true.1 h T (List.mem_range.2 hT))
  omega
 have:=List.all_eq_true.1 (List.all_eq_true.1 h T (List.mem_range.2 hT)) j (List.mem_range.2 hj8)
 rw [decide_eq_true hj] at this
 obtain ⟨U,hU,e⟩:=List.any_eq_true.1 (by simpa only [Bool.not_true,Bool.false_or] using this)
 rw [Bool.and_eq_true,beq_iff_eq,beq_iff_eq] at e
 exact ⟨U,e.1,List.mem_range.1 hU,e.2⟩
theorem zCw (h:zcN (m:Int) xs = true) {x:Int} (hx:x ∈ xs):∀ s,s < 64→zak xs s = true→s &&& x.toNat = x.toNat→s = x.toNat:=by
 have e:=zFS h
 rw [e] at hx
 obtain ⟨t,ht,rfl⟩:=List.mem_map.1 hx
 intro s hs hf hst
 exact zcS.1 (zfc.1 ht).2 s hs hf (by rw [Nat.and_comm];exact hst)
omit [NeZero q] in
theorem zD7 (hh:zet m xs = true) (hp:isP (q:Int) = true) (hd:zzK (zak xs) q = d):cmO m xs q = decide ((d:Int) = (zaV (zak xs):Int) - 1):=by
 unfold cmO znR
 rw [(zaJ.1 hh).1,hp,hd,decide_eq_true (zr0 (zgR hh).choose_spec.2.2.2.2.1)];rfl
theorem zrV (hh:zet m xs = true):zej (zak xs)∧zak xs 0 = true∧m ≤ 6∧∀ s,s < 64→zak xs s = true→s < 2 ^ m:=by
 obtain ⟨m',e,_,h6,hd,h0,hs⟩:=zgR hh
 have e:=Int.ofNat.inj e
 subst e
 exact ⟨hd,h0,h6,hs⟩
theorem zif (f:Nat→Bool) {s:Nat} (hs:s < 64) (h:f s = true):zap s + 1 ≤ zaV f:=zfP 64 s hs h
theorem zD8 (hh:zet m xs = true) (hp:isP (q:Int) = true) (hd:zhp q (zak xs) m d) (hdt:(d:Int) ≤ (zaV (zak xs):Int) - 1):dsJ (zak xs) q (zaV (zak xs)) = d:=by
 obtain ⟨hdn,h0,h6,hs⟩:=zrV hh
 have h64:=zaz h6
 have hfu:∀ j,j + 1 ≤ zaV (zak xs)→znR (skF (zak xs) j) q = decide (j ≤ d):=fun j hj=>by
  have hsd:zej (skF (zak xs) j):=fun s t hst ht=>by
   obtain ⟨a,b⟩:=zeS.1 hst
   by_cases hs64:s < 64
   ·exact zeS.2 ⟨hdn s t a ht,by have:=znk hs64 ht;omega⟩
   ·obtain ⟨x,hx,e⟩:=za8.1 a
    have hx64:=zcw (zaJ.1 hh).1 x hx
    have:s ≤ x.toNat:=by rw [← e];exact Nat.and_le_left
    omega
  have hs0:skF (zak xs) j 0 = true:=zeS.2 ⟨h0,by rw [zbA];omega⟩
  obtain ⟨d',hd',_,e2,e3⟩:=zmA (q:=q) (m:=m) hp hsd hs0 h6 fun t ht h=>hs t ht (zeS.1 h).1
  have hdim:zaV (skF (zak xs) j) = j + 1:=by
   obtain ⟨T,a,b,c⟩:=zfQ (f:=zak xs) 64 (by show 0 < zaV (zak xs);omega)
   have c:zap T + 1 = zaV (zak xs):=c
   obtain ⟨U,u1,u2,u3⟩:=zzP T a j (by omega)
   have g1:=zif (skF (zak xs) j) u2 (zeS.2 ⟨hdn T U b u1,by omega⟩)
   obtain ⟨V,v1,v2,v3⟩:=zfQ (f:=skF (zak xs) j) 64 (by show 0 < zaV (skF (zak xs) j);omega)
   have v3:zap V + 1 = zaV (skF (zak xs) j):=v3
   have:=(zeS.1 v2).2
   omega
  have hmask:zaE (skF (zak xs) j) 64 ≠ 0:=fun e=>by
   have:=za3 (skF (zak xs) j) (s:=0) (by decide)
   rw [e,hs0,Nat.zero_testBit] at this;cases this
  unfold znR
  rw [decide_eq_true hmask,Bool.true_and,e2,hdim]
  refine decide_eq_decide.2 ⟨fun e=>?_,fun e=>?_⟩
  ·have hj':d' = j:=by omega
   subst hj'
   have hge:=(zCe (p:=q) (f:=zak xs) (n:=m) h6).1 hd'.2
   obtain ⟨⟨F,k,hF,_,hac,hk⟩,_⟩:=hd
   exact Nat.le_of_not_lt fun hlt=>hac (hge F hF k (by omega))
  ·have hge:=(zCe (p:=q) (f:=zak xs) (n:=m) h6).2 (hd.2.mono e)
   obtain ⟨⟨F,k,hF,_,hac,hk⟩,_⟩:=hd'
   have:j ≤ d':=Nat.le_of_not_lt fun hlt=>hac (hge F hF k (by omega))
   omega
 have:∀ j,d + 1 ≤ j→j ≤ zaV (zak xs)→dsJ (zak xs) q j = d:=fun j=>by
  induction j with
  | zero=>intro h _;omega
  | succ j ih =>
    intro h1 h2
    unfold dsJ
    rw [hfu j h2]
    by_cases e:j ≤ d
    ·rw [if_pos (by rw [decide_eq_true e]),show j = d by omega]
    ·rw [if_neg (by rw [decide_eq_false e];decide)]
     exact ih (by omega) (by omega)
 exact this _ (by omega) (Nat.le_refl _)
theorem zCx (hh:zet m xs = true) (hp:isP (q:Int) = true) (hd:zhp q (zak xs) m d):(blO m xs q).isSome = decide ((d:Int) < (zaV (zak xs):Int) - 1):=by
 obtain ⟨hdn,h0,h6,hs⟩:=zrV hh
 have h64:=zaz h6
 have e:blO (m:Int) xs q = (zbL (zak xs)).find? (bdQ (zak xs) q ((zaV (zak xs):Int) - 1)):=if_pos ⟨hh,hp⟩
 have hz:∀ F k,((zcT (zay (zak xs) F) q).getD k 0 != 0) = true ↔ ¬ Ac q (zay (zak xs) F) k:=fun F k=>by
  rw [bne_iff_ne,znn,Ne,(zkw (p:=q) hp (zde hdn F) k).2]
 rw [e,Bool.eq_iff_iff,decide_eq_true_eq,List.find?_isSome]
 constructor
 ·rintro ⟨F,hF,hb⟩
  obtain ⟨f1,f2⟩:=zbF.1 hF
  unfold bdQ bdK at hb
  obtain ⟨k,_,h⟩:=List.any_eq_true.1 hb
  rw [Bool.and_eq_true,decide_eq_true_eq,hz] at h
  have:d ≤ zap F + k:=Nat.le_of_not_lt fun hlt=>h.1 (hd.2 F (hs F f1 f2) k hlt)
  omega
 ·intro hlt
  obtain ⟨⟨F,k,hF,hfF,hac,hk⟩,_⟩:=hd
  refine ⟨F,zbF.2 ⟨Nat.lt_of_lt_of_le hF h64,hfF⟩,?_⟩
  unfold bdQ bdK
  refine List.any_eq_true.2 ⟨k,List.mem_range.2 (Nat.lt_of_not_le fun hle=>hac (zCk (by rw [zaM] at hle;exact hle))),?_⟩
  rw [Bool.and_eq_true,decide_eq_true_eq,hz]
  exact ⟨hac,by omega⟩
theorem zCy (hh:zet m xs = true) (hp:isP (q:Int) = true) (hd:zhp q (zak xs) m d) (ht:(d:Int) = (zaV (zak xs):Int) - 1):puB m xs = true∧nsB m xs q = true:=by
 obtain ⟨hdn,h0,h6,hs⟩:=zrV hh
 have h64:=zaz h6
 obtain ⟨hcx,hpos⟩:=zaJ.1 hh
 have hok:=zcw hcx
 have hfx:∀ x ∈ xs,zak xs x.toNat = true:=fun x hx=>za8.2 ⟨x,hx,Nat.and_self _⟩
 have hall:∀ x ∈ xs,zap x.toNat = d:=fun x hx=>by
  have hx64:=hok x hx
  have h1:=zhp.le_facet hp hdn h6 hd.2 (hs _ (by omega) (hfx x hx)) (hfx x hx) (zCw hcx hx)
  have h2:=zif (zak xs) (s:=x.toNat) (by omega) (hfx x hx)
  omega
 have hpu:puB (m:Int) xs = true:=by
  unfold puB
  rw [hcx,Bool.true_and,List.all_eq_true]
  intro x hx
  exact decide_eq_true (by rw [hall x hx,hall _ (zat 0 hpos)])
 refine ⟨hpu,?_⟩
 unfold nsB
 rw [hp,hpu,decide_eq_true hpos,Int.toNat_natCast,Bool.true_and,Bool.true_and,Bool.true_and,List.all_eq_true]
 intro i hi
 have hi:=List.mem_range.1 hi
 have hi64:2 ^ i < 64:=Nat.pow_lt_pow_right (n:=6) (by decide) (by omega)
 unfold nsQ
 cases hf:zak xs (2 ^ i) with
 | false=>rfl
 | true =>
   have hv0:zay (zak xs) (2 ^ i) 0 = true:=zaX.2 ⟨Nat.zero_and _,by rw [Nat.zero_or];exact hf⟩
   have hvd:=zde hdn (2 ^ i)
   have hvs:∀ t,t < 64→zay (zak xs) (2 ^ i) t = true→t < 2 ^ m:=fun t ht h=>Nat.lt_of_le_of_lt Nat.left_le_or (hs _ (zAN ht hi64) (zaX.1 h).2)
   obtain ⟨d',hd',_,e2,e3⟩:=zmA (q:=q) (m:=m) hp hvd hv0 h6 hvs
   have hge:=hd.2.link h6 (A:=2 ^ i) (Nat.pow_lt_pow_right (by decide) hi)
   rw [zuC i (by omega)] at hge
   have h1:d - 1 ≤ d':=by
    obtain ⟨⟨F,k,hF,_,hac,hk⟩,_⟩:=hd'
    exact Nat.le_of_not_lt fun hlt=>hac (hge F hF k (by omega))
   have h2:zaV (zay (zak xs) (2 ^ i)) + 1 ≤ zaV (zak xs):=by
    have hpos2:=zif _ (show (0:Nat) < 64 by decide) hv0
    obtain ⟨V,v1,v2,v3⟩:=zfQ (f:=zay (zak xs) (2 ^ i)) 64 (by show 0 < zaV (zay (zak xs) (2 ^ i));omega)
    have v3:zap V + 1 = zaV (zay (zak xs) (2 ^ i)):=v3
    obtain ⟨w1,w2⟩:=zaX.1 v2
    have:=zif (zak xs) (zAN v1 hi64) w2
    rw [ziK v1 hi64 w1,zuC i (by omega)] at this
    omega
   unfold znR
   have hmask:zaE (zay (zak xs) (2 ^ i)) 64 ≠ 0:=fun e=>by
    have:=za3 (zay (zak xs) (2 ^ i)) (s:=0) (by decide)
    rw [e,hv0,Nat.zero_testBit] at this;cases this
   rw [decide_eq_true hmask,e2,decide_eq_true (by omega)];rfl
theorem zCz (hh:zet m xs = true) (hp:isP (q:Int) = true) (hd:zhp q (zak xs) m d):(m:Int) - zCr m xs q = d:=by
 obtain ⟨hdn,h0,h6,hs⟩:=zrV hh
 obtain ⟨h1,h2⟩:=zDp hp hdn h6 hs hd
 have e:zvA (m:Int) xs q = zvx (zak xs) q m:=if_pos ⟨hh,hp⟩
 unfold zCr
 rw [e,(zrG (zak xs) q h6).len,h2]
 omega
end
noncomputable def dO (n:Int) (xs:List Int) (p:Int):Int:=if zet n xs = true∧isP p = true then zzK (zak xs) p else -1
noncomputable def dK (n:Int) (xs:List Int) (p:Int):Int:=if zet n xs = true∧isP p = true then dsJ (zak xs) p (zaV (zak xs)) else -1
theorem zCv (n:Int) (xs:List Int) (p:Int):znJ n xs p = dO n xs p∧dK n xs p = dO n xs p∧(dO n xs p < 0→cmO n xs p = false)∧(0 ≤ dO n xs p→(blO n xs p).isSome = (!cmO n xs p)∧dO n xs p ≤ zkU n xs + 1∧(cmO n xs p = true→puB n xs = true∧nsB n xs p = true)∧(puB n xs = true→(zDQ n xs).isSome = true→cmO n xs p = true)∧n - zCr n xs p = dO n xs p∧1 ≤ n∧n ≤ 6∧dO n xs p ≤ 10):=by
 by_cases h:zet n xs = true∧isP p = true
 ·obtain ⟨hh,hp⟩:=h
  obtain ⟨m,q,d,_,rfl,rfl,h1,h6,hd,e1,e2,e3⟩:=zvZ hh hp
  have e4:dO (m:Int) xs (q:Int) = d:=by rw [dO,if_pos ⟨hh,hp⟩];exact e2
  have e5:dK (m:Int) xs (q:Int) = d:=by rw [dK,if_pos ⟨hh,hp⟩];exact zD8 hh hp hd e3
  have e6:=zD7 hh hp e2
  have e7:=zCx hh hp hd
  have e8:=zrZ hh
  have e9:=zCz hh hp hd
  have hlo:-1 ≤ zCr (m:Int) xs (q:Int):=by
   unfold zCr
   have:=(zDE (zvA (m:Int) xs (q:Int)) (zvA (m:Int) xs (q:Int)).length).1
   omega
  rw [e1,e4,e5]
  refine ⟨rfl,rfl,fun h=>by omega,fun _=>⟨?_,by omega,fun h=>?_,fun ha hb=>?_,e9,by omega,by omega,by omega⟩⟩
  ·rw [e6,e7,Bool.eq_iff_iff,decide_eq_true_eq,Bool.not_eq_true',decide_eq_false_iff_not];omega
  ·exact zCy hh hp hd (by rw [e6] at h;exact of_decide_eq_true h)
  ·rw [e6];exact decide_eq_true (zuH hh hp hb ha hd)
 ·have e4:dO n xs p = -1:=if_neg h
  have e5:dK n xs p = -1:=if_neg h
  have e1:znJ n xs p = -1:=by
   by_cases hp:isP p = true
   ·cases hc:zcN n xs with
    | false=>exact if_neg fun h=>by rw [h.1] at hc;cases hc
    | true =>
      have hx:=znS hc fun hh=>h ⟨hh,hp⟩
      subst hx
      rw [znJ,if_pos ⟨hc,hp⟩];rfl
   ·exact if_neg fun h=>hp h.2
  have e6:=zEb n xs p
  rw [e1] at e6
  rw [e1,e4,e5]
  exact ⟨rfl,rfl,fun _=>e6.symm,fun h=>absurd h (by decide)⟩
theorem zbs {α:Type} [DecidableEq α] (a:α):decide (a = a) = true:=decide_eq_true rfl
set_option maxRecDepth 100000 in
theorem ziO (bs:List Int):AC Try.prog 6 [.sl false 1 (kL .u8 bs)] (.im (bool true)):=by
 refine AC.go (rs:=[.tmp 2]) zbe zax Try.func6 rfl rfl rfl (by kernel_rfl) fun hl=>?_
 simp (maxSteps:=5000000) -dsimp only [↓gp,gq,reduceCtorEq,reduceEqDiff,reduceLT,reduceLeDiff,reduceAdd,reduceMul,reduceSub,Nat.reduceBEq,Int.reduceToNat,Int.reduceLE,Int.reduceLT,Int.reduceNeg,reduceMod,zac,zad,zab,zaa,gT,TK.isInt,TK.agg,Array.toList]
 refine zaf (zvG bs) ?_
 simp (maxSteps:=5000000) -dsimp only [↓gp,gq,reduceCtorEq,reduceEqDiff,reduceLT,reduceLeDiff,reduceAdd,reduceMul,reduceSub,Nat.reduceBEq,Int.reduceToNat,Int.reduceLE,Int.reduceLT,Int.reduceNeg,reduceMod,zac,zad,zab,zaa,gT,TK.isInt,TK.agg,Array.toList]
 intro hbs
 refine zfh (zgS bs (by omega)) (.one (.sl _ _ _) .nil) fun rv ⟨n,xs,p,hrv,hq⟩=>?_
 subst hrv
 simp (maxSteps:=5000000) -dsimp only [↓gp,gq,reduceCtorEq,reduceEqDiff,reduceLT,reduceLeDiff,reduceAdd,reduceMul,reduceSub,Nat.reduceBEq,Int.reduceToNat,Int.reduceLE,Int.reduceLT,Int.reduceNeg,reduceMod,zac,zad,zab,zaa,gT,TK.isInt,TK.agg,Array.toList]
 refine zaf (zkM n xs p) ?_
 simp (maxSteps:=5000000) -dsimp only [↓gp,gq,reduceCtorEq,reduceEqDiff,reduceLT,reduceLeDiff,reduceAdd,reduceMul,reduceSub,Nat.reduceBEq,Int.reduceToNat,Int.reduceLE,Int.reduceLT,Int.reduceNeg,reduceMod,zac,zad,zab,zaa,gT,TK.isInt,TK.agg,Array.toList]
 refine zfh (zgT bs (by omega)) (.one (.sl _ _ _) .nil) fun rv ⟨m,ys,q,hrv,_⟩=>?_
 subst hrv
 simp (maxSteps:=5000000) -dsimp only [↓gp,gq,reduceCtorEq,reduceEqDiff,reduceLT,reduceLeDiff,reduceAdd,reduceMul,reduceSub,Nat.reduceBEq,Int.reduceToNat,Int.reduceLE,Int.reduceLT,Int.reduceNeg,reduceMod,zac,zad,zab,zaa,gT,TK.isInt,TK.agg,Array.toList]
 refine zaf (zfm m ys q) ?_
 simp (maxSteps:=5000000) -dsimp only [↓gp,gq,reduceCtorEq,reduceEqDiff,reduceLT,reduceLeDiff,reduceAdd,reduceMul,reduceSub,Nat.reduceBEq,Int.reduceToNat,Int.reduceLE,Int.reduceLT,Int.reduceNeg,reduceMod,zac,zad,zab,zaa,gT,TK.isInt,TK.agg,Array.toList]
 refine zaf (zkL m ys q) ?_
 simp (maxSteps:=5000000) -dsimp only [↓gp,gq,reduceCtorEq,reduceEqDiff,reduceLT,reduceLeDiff,reduceAdd,reduceMul,reduceSub,Nat.reduceBEq,Int.reduceToNat,Int.reduceLE,Int.reduceLT,Int.reduceNeg,reduceMod,zac,zad,zab,zaa,gT,TK.isInt,TK.agg,Array.toList]
 refine zfh (zeW bs (by omega)) (.one (.sl _ _ _) .nil) fun rv ⟨k,zs,r,hrv,_⟩=>?_
 subst hrv
 simp (maxSteps:=5000000) -dsimp only [↓gp,gq,reduceCtorEq,reduceEqDiff,reduceLT,reduceLeDiff,reduceAdd,reduceMul,reduceSub,Nat.reduceBEq,Int.reduceToNat,Int.reduceLE,Int.reduceLT,Int.reduceNeg,reduceMod,zac,zad,zab,zaa,gT,TK.isInt,TK.agg,Array.toList]
 obtain ⟨e1,e2,e3,e4⟩:=zCv n xs p
 unfold dK at e2
 have e0:(if zet n xs = true∧isP p = true then zzK (zak xs) p else -1) = dO n xs p:=rfl
 rw [e0]
 refine ⟨by kernel_rfl,zaf (zfo n xs p) ?_⟩
 rw [e1]
 simp (maxSteps:=5000000) -dsimp only [↓gp,gq,reduceCtorEq,reduceEqDiff,reduceLT,reduceLeDiff,reduceAdd,reduceMul,reduceSub,Nat.reduceBEq,Int.reduceToNat,Int.reduceLE,Int.reduceLT,Int.reduceNeg,reduceMod,zac,zad,zab,zaa,gT,TK.isInt,TK.agg,Array.toList,zbs,zcc,bne_self_eq_false,beq_self_eq_true,zbc,zcL,zca,zcM]
 refine zaf (zbj n xs p) ?_
 simp (maxSteps:=5000000) -dsimp only [↓gp,gq,reduceCtorEq,reduceEqDiff,reduceLT,reduceLeDiff,reduceAdd,reduceMul,reduceSub,Nat.reduceBEq,Int.reduceToNat,Int.reduceLE,Int.reduceLT,Int.reduceNeg,reduceMod,zac,zad,zab,zaa,gT,TK.isInt,TK.agg,Array.toList,zbs,zcc,bne_self_eq_false,beq_self_eq_true,zbc,zcL,zca,zcM]
 refine zaf (zcy n xs p) ?_
 simp (maxSteps:=5000000) -dsimp only [↓gp,gq,reduceCtorEq,reduceEqDiff,reduceLT,reduceLeDiff,reduceAdd,reduceMul,reduceSub,Nat.reduceBEq,Int.reduceToNat,Int.reduceLE,Int.reduceLT,Int.reduceNeg,reduceMod,zac,zad,zab,zaa,gT,TK.isInt,TK.agg,Array.toList,zbs,zcc,bne_self_eq_false,beq_self_eq_true,zbc,zcL,zca,zcM]
 refine zaf (zdP k zs r) ?_
 simp (maxSteps:=5000000) -dsimp only [↓gp,gq,reduceCtorEq,reduceEqDiff,reduceLT,reduceLeDiff,reduceAdd,reduceMul,reduceSub,Nat.reduceBEq,Int.reduceToNat,Int.reduceLE,Int.reduceLT,Int.reduceNeg,reduceMod,zac,zad,zab,zaa,gT,TK.isInt,TK.agg,Array.toList,zbs,zcc,bne_self_eq_false,beq_self_eq_true,zbc,zcL,zca,zcM]
 refine zaf (zg0 k zs r) ?_
 simp (maxSteps:=5000000) -dsimp only [↓gp,gq,reduceCtorEq,reduceEqDiff,reduceLT,reduceLeDiff,reduceAdd,reduceMul,reduceSub,Nat.reduceBEq,Int.reduceToNat,Int.reduceLE,Int.reduceLT,Int.reduceNeg,reduceMod,zac,zad,zab,zaa,gT,TK.isInt,TK.agg,Array.toList,zbs,zcc,bne_self_eq_false,beq_self_eq_true,zbc,zcL,zca,zcM]
 refine zaf (zen n xs p) ?_
 rw [e2]
 simp (maxSteps:=5000000) -dsimp only [↓gp,gq,reduceCtorEq,reduceEqDiff,reduceLT,reduceLeDiff,reduceAdd,reduceMul,reduceSub,Nat.reduceBEq,Int.reduceToNat,Int.reduceLE,Int.reduceLT,Int.reduceNeg,reduceMod,zac,zad,zab,zaa,gT,TK.isInt,TK.agg,Array.toList,zbs,zcc,bne_self_eq_false,beq_self_eq_true,zbc,zcL,zca,zcM]
 refine ⟨fun h=>zaf (zbj n xs p) ?_,fun h=>?_⟩
 ·rw [e3 (by simpa using h)]
  simp (maxSteps:=5000000) -dsimp only [↓gp,gq,reduceCtorEq,reduceEqDiff,reduceLT,reduceLeDiff,reduceAdd,reduceMul,reduceSub,Nat.reduceBEq,Int.reduceToNat,Int.reduceLE,Int.reduceLT,Int.reduceNeg,reduceMod,zac,zad,zab,zaa,gT,TK.isInt,TK.agg,Array.toList]
 ·obtain ⟨f1,f2,f3,f4,f5,f6,f7,f8⟩:=e4 (by simp at h;omega)
  refine zaf (zfm n xs p) ?_
  simp (maxSteps:=5000000) -dsimp only [↓gp,gq,reduceCtorEq,reduceEqDiff,reduceLT,reduceLeDiff,reduceAdd,reduceMul,reduceSub,Nat.reduceBEq,Int.reduceToNat,Int.reduceLE,Int.reduceLT,Int.reduceNeg,reduceMod,zac,zad,zab,zaa,gT,TK.isInt,TK.agg,Array.toList]
  refine zaf (zbj n xs p) ?_
  rw [f1]
  simp (maxSteps:=5000000) -dsimp only [↓gp,gq,reduceCtorEq,reduceEqDiff,reduceLT,reduceLeDiff,reduceAdd,reduceMul,reduceSub,Nat.reduceBEq,Int.reduceToNat,Int.reduceLE,Int.reduceLT,Int.reduceNeg,reduceMod,zac,zad,zab,zaa,gT,TK.isInt,TK.agg,Array.toList]
  have hdb:=zqQ n xs
  have hw:IntKind.i64.wrap (zkU n xs + 1) = zkU n xs + 1:=zaq (by omega) (by omega)
  have hw2:IntKind.i64.wrap (n - zCr n xs p) = dO n xs p:=by rw [f5];exact zaq (by omega) (by omega)
  have hcI:=zbj n xs p
  generalize hC:cmO n xs p = C at *
  cases C
  ·refine ⟨fun _=>zaf (zcU n xs) ?_,fun h=>by simp at h⟩
   simp (maxSteps:=5000000) -dsimp only [↓gp,gq,reduceCtorEq,reduceEqDiff,reduceLT,reduceLeDiff,reduceAdd,reduceMul,reduceSub,Nat.reduceBEq,Int.reduceToNat,Int.reduceLE,Int.reduceLT,Int.reduceNeg,reduceMod,zac,zad,zab,zaa,gT,TK.isInt,TK.agg,Array.toList,hw]
   refine ⟨fun h=>by omega,fun _=>zaf hcI ?_⟩
   simp (maxSteps:=5000000) -dsimp only [↓gp,gq,reduceCtorEq,reduceEqDiff,reduceLT,reduceLeDiff,reduceAdd,reduceMul,reduceSub,Nat.reduceBEq,Int.reduceToNat,Int.reduceLE,Int.reduceLT,Int.reduceNeg,reduceMod,zac,zad,zab,zaa,gT,TK.isInt,TK.agg,Array.toList]
   refine zaf (zc3 n xs) ?_
   simp (maxSteps:=5000000) -dsimp only [↓gp,gq,reduceCtorEq,reduceEqDiff,reduceLT,reduceLeDiff,reduceAdd,reduceMul,reduceSub,Nat.reduceBEq,Int.reduceToNat,Int.reduceLE,Int.reduceLT,Int.reduceNeg,reduceMod,zac,zad,zab,zaa,gT,TK.isInt,TK.agg,Array.toList]
   refine ⟨fun hp=>zaf (zdw n xs) ?_,fun hp=>⟨by kernel_rfl,fun _=>zaf (zcu n xs p) ?_⟩⟩
   ·simp (maxSteps:=5000000) -dsimp only [↓gp,gq,reduceCtorEq,reduceEqDiff,reduceLT,reduceLeDiff,reduceAdd,reduceMul,reduceSub,Nat.reduceBEq,Int.reduceToNat,Int.reduceLE,Int.reduceLT,Int.reduceNeg,reduceMod,zac,zad,zab,zaa,gT,TK.isInt,TK.agg,Array.toList]
    refine ⟨fun hs=>absurd (f4 hp hs) (by decide),fun _=>⟨by kernel_rfl,fun _=>zaf (zcu n xs p) ?_⟩⟩
    simp (maxSteps:=5000000) -dsimp only [↓gp,gq,reduceCtorEq,reduceEqDiff,reduceLT,reduceLeDiff,reduceAdd,reduceMul,reduceSub,Nat.reduceBEq,Int.reduceToNat,Int.reduceLE,Int.reduceLT,Int.reduceNeg,reduceMod,zac,zad,zab,zaa,gT,TK.isInt,TK.agg,Array.toList,hw2,zbs,zcc,bne_self_eq_false,beq_self_eq_true,zbc,zcL,zca,zcM]
   ·simp (maxSteps:=5000000) -dsimp only [↓gp,gq,reduceCtorEq,reduceEqDiff,reduceLT,reduceLeDiff,reduceAdd,reduceMul,reduceSub,Nat.reduceBEq,Int.reduceToNat,Int.reduceLE,Int.reduceLT,Int.reduceNeg,reduceMod,zac,zad,zab,zaa,gT,TK.isInt,TK.agg,Array.toList,hw2,zbs,zcc,bne_self_eq_false,beq_self_eq_true,zbc,zcL,zca,zcM]
  ·refine ⟨fun _=>zaf (zcU n xs) ?_,fun h=>by simp at h⟩
   simp (maxSteps:=5000000) -dsimp only [↓gp,gq,reduceCtorEq,reduceEqDiff,reduceLT,reduceLeDiff,reduceAdd,reduceMul,reduceSub,Nat.reduceBEq,Int.reduceToNat,Int.reduceLE,Int.reduceLT,Int.reduceNeg,reduceMod,zac,zad,zab,zaa,gT,TK.isInt,TK.agg,Array.toList,hw]
   obtain ⟨g1,g2⟩:=f3 rfl
   refine ⟨fun h=>by omega,fun _=>zaf hcI ?_⟩
   simp (maxSteps:=5000000) -dsimp only [↓gp,gq,reduceCtorEq,reduceEqDiff,reduceLT,reduceLeDiff,reduceAdd,reduceMul,reduceSub,Nat.reduceBEq,Int.reduceToNat,Int.reduceLE,Int.reduceLT,Int.reduceNeg,reduceMod,zac,zad,zab,zaa,gT,TK.isInt,TK.agg,Array.toList]
   refine zaf (zc3 n xs) ?_
   rw [g1]
   simp (maxSteps:=5000000) -dsimp only [↓gp,gq,reduceCtorEq,reduceEqDiff,reduceLT,reduceLeDiff,reduceAdd,reduceMul,reduceSub,Nat.reduceBEq,Int.reduceToNat,Int.reduceLE,Int.reduceLT,Int.reduceNeg,reduceMod,zac,zad,zab,zaa,gT,TK.isInt,TK.agg,Array.toList]
   refine zaf (zdP n xs p) ?_
   rw [g2]
   simp (maxSteps:=5000000) -dsimp only [↓gp,gq,reduceCtorEq,reduceEqDiff,reduceLT,reduceLeDiff,reduceAdd,reduceMul,reduceSub,Nat.reduceBEq,Int.reduceToNat,Int.reduceLE,Int.reduceLT,Int.reduceNeg,reduceMod,zac,zad,zab,zaa,gT,TK.isInt,TK.agg,Array.toList]
   refine zaf (zc3 n xs) ?_
   rw [g1]
   simp (maxSteps:=5000000) -dsimp only [↓gp,gq,reduceCtorEq,reduceEqDiff,reduceLT,reduceLeDiff,reduceAdd,reduceMul,reduceSub,Nat.reduceBEq,Int.reduceToNat,Int.reduceLE,Int.reduceLT,Int.reduceNeg,reduceMod,zac,zad,zab,zaa,gT,TK.isInt,TK.agg,Array.toList]
   refine zaf (zdw n xs) ?_
   simp (maxSteps:=5000000) -dsimp only [↓gp,gq,reduceCtorEq,reduceEqDiff,reduceLT,reduceLeDiff,reduceAdd,reduceMul,reduceSub,Nat.reduceBEq,Int.reduceToNat,Int.reduceLE,Int.reduceLT,Int.reduceNeg,reduceMod,zac,zad,zab,zaa,gT,TK.isInt,TK.agg,Array.toList]
   refine ⟨fun hs=>zaf hcI ?_,fun hs=>⟨by kernel_rfl,fun _=>zaf (zcu n xs p) ?_⟩⟩
   ·simp (maxSteps:=5000000) -dsimp only [↓gp,gq,reduceCtorEq,reduceEqDiff,reduceLT,reduceLeDiff,reduceAdd,reduceMul,reduceSub,Nat.reduceBEq,Int.reduceToNat,Int.reduceLE,Int.reduceLT,Int.reduceNeg,reduceMod,zac,zad,zab,zaa,gT,TK.isInt,TK.agg,Array.toList]
    refine ⟨by kernel_rfl,fun _=>zaf (zcu n xs p) ?_⟩
    simp (maxSteps:=5000000) -dsimp only [↓gp,gq,reduceCtorEq,reduceEqDiff,reduceLT,reduceLeDiff,reduceAdd,reduceMul,reduceSub,Nat.reduceBEq,Int.reduceToNat,Int.reduceLE,Int.reduceLT,Int.reduceNeg,reduceMod,zac,zad,zab,zaa,gT,TK.isInt,TK.agg,Array.toList,hw2,zbs,zcc,bne_self_eq_false,beq_self_eq_true,zbc,zcL,zca,zcM]
   ·simp (maxSteps:=5000000) -dsimp only [↓gp,gq,reduceCtorEq,reduceEqDiff,reduceLT,reduceLeDiff,reduceAdd,reduceMul,reduceSub,Nat.reduceBEq,Int.reduceToNat,Int.reduceLE,Int.reduceLT,Int.reduceNeg,reduceMod,zac,zad,zab,zaa,gT,TK.isInt,TK.agg,Array.toList,hw2,zbs,zcc,bne_self_eq_false,beq_self_eq_true,zbc,zcL,zca,zcM]
end Go.Proofs.Ytpnknaaehcljoaa
