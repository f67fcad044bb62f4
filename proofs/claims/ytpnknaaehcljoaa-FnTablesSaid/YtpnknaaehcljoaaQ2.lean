/- DERIVED by an AI agent. -/
import Derived.Test.YtpnknaaehcljoaaQ1
import Derived.Test.YtpnknaaehcljoaaP1
namespace Go.Proofs.Ytpnknaaehcljoaa
open Go.Abs
open Nat (reduceEqDiff reduceMod reduceAdd reduceLT reduceLeDiff reduceSub reduceMul)
set_option linter.unusedSimpArgs false
set_option linter.unusedVariables false
theorem zbF (p:Int):AC Try.prog 114 [int p] (.im (bool (isP p))):=by
 refine AC.go (rs:=[.tmp 2]) zbc zax Try.func114 rfl rfl rfl (by kernel_rfl) fun hl=>?_
 simp (maxSteps:=5000000) -dsimp only [↓gp,gq,reduceCtorEq,reduceEqDiff,reduceLT,reduceLeDiff,reduceAdd,reduceMul,reduceSub,Nat.reduceBEq,Int.reduceToNat,Int.reduceLE,Int.reduceLT,Int.reduceNeg,reduceMod,zac,zad,zab,zaa,gT,TK.isInt,TK.agg,Array.toList]
 unfold isP
 exact ⟨fun h=>⟨fun h2=>by simp [h,h2],fun h2=>by simp [h,h2]⟩,fun h=>by simp [h]⟩
theorem zdr (p:Int):AC Try.prog 107 [int p] (.im (bool (isP p))):=by
 refine AC.go (rs:=[.tmp 2]) zbc zax Try.func107 rfl rfl rfl (by kernel_rfl) fun hl=>?_
 simp (maxSteps:=5000000) -dsimp only [↓gp,gq,reduceCtorEq,reduceEqDiff,reduceLT,reduceLeDiff,reduceAdd,reduceMul,reduceSub,Nat.reduceBEq,Int.reduceToNat,Int.reduceLE,Int.reduceLT,Int.reduceNeg,reduceMod,zac,zad,zab,zaa,gT,TK.isInt,TK.agg,Array.toList]
 unfold isP
 exact ⟨fun h=>⟨fun h2=>by simp [h,h2],fun h2=>by simp [h,h2]⟩,fun h=>by simp [h]⟩
theorem zmY {a p:Int} (hp:0 < p):-p < a.tmod p∧a.tmod p < p:=⟨Int.lt_tmod_of_pos a hp,Int.tmod_lt_of_pos a hp⟩
theorem zem (a p:Int) (hp:isP p = true):AC Try.prog 208 [int a,int p] (.im (int (a % p))):=by
 refine AC.go (rs:=[.tmp 4]) zbc zax Try.func208 rfl rfl rfl (by kernel_rfl) fun hl=>?_
 have hp:=zbU hp
 have h1:=zmY (a:=a) (by omega:0 < p)
 have hw:IntKind.i64.wrap (a.tmod p + p) = a.tmod p + p:=zan (by omega) (by omega)
 have hm:=zwP a p (by omega)
 simp (maxSteps:=5000000) -dsimp only [↓gp,gq,reduceCtorEq,reduceEqDiff,reduceLT,reduceLeDiff,reduceAdd,reduceMul,reduceSub,Nat.reduceBEq,Int.reduceToNat,Int.reduceLE,Int.reduceLT,Int.reduceNeg,reduceMod,zac,zad,zab,zaa,gT,TK.isInt,TK.agg,Array.toList,hw,hm]
 omega
theorem zfM (a p:Int) (hp:isP p = true):AC Try.prog 207 [int a,int p] (.im (int (a % p))):=by
 refine AC.go (rs:=[.tmp 4]) zbc zax Try.func207 rfl rfl rfl (by kernel_rfl) fun hl=>?_
 have hp:=zbU hp
 have h1:=zmY (a:=a) (by omega:0 < p)
 have hw:IntKind.i64.wrap (a.tmod p + p) = a.tmod p + p:=zan (by omega) (by omega)
 have hm:=zwP a p (by omega)
 simp (maxSteps:=5000000) -dsimp only [↓gp,gq,reduceCtorEq,reduceEqDiff,reduceLT,reduceLeDiff,reduceAdd,reduceMul,reduceSub,Nat.reduceBEq,Int.reduceToNat,Int.reduceLE,Int.reduceLT,Int.reduceNeg,reduceMod,zac,zad,zab,zaa,gT,TK.isInt,TK.agg,Array.toList,hw]
 refine ⟨by omega,fun h=>?_,fun h=>?_⟩
 ·rw [← hm,zcz (by omega),Int.emod_eq_of_lt (by omega) (by omega)]
 ·rw [← hm,Int.tmod_eq_emod_of_nonneg (by omega),Int.add_emod_right,Int.emod_eq_of_lt (by omega) (by omega)]
theorem zja {p r b:Int} (h:b < p):zcT p r b (p - b).toNat = if r * b % p = 1 then b else zcT p r (b + 1) (p - (b + 1)).toNat:=by
 have e:(p - b).toNat = (p - (b + 1)).toNat + 1:=by omega
 rw [e,zcT]
theorem zhA (a p:Int) (hp:isP p = true):AC Try.prog 215 [int a,int p] (.im (int (zjm p a))):=by
 refine AC.go (rs:=[.tmp 4]) zbc zax Try.func215 rfl rfl rfl (by kernel_rfl) fun hl=>?_
 have hp2:=zbU hp
 simp (maxSteps:=5000000) -dsimp only [↓gp,gq,reduceCtorEq,reduceEqDiff,reduceLT,reduceLeDiff,reduceAdd,reduceMul,reduceSub,Nat.reduceBEq,Int.reduceToNat,Int.reduceLE,Int.reduceLT,Int.reduceNeg,reduceMod,zac,zad,zab,zaa,gT,TK.isInt,TK.agg,Array.toList]
 refine zag (zbF p) ?_
 simp (maxSteps:=5000000) -dsimp only [↓gp,gq,reduceCtorEq,reduceEqDiff,reduceLT,reduceLeDiff,reduceAdd,reduceMul,reduceSub,Nat.reduceBEq,Int.reduceToNat,Int.reduceLE,Int.reduceLT,Int.reduceNeg,reduceMod,zac,zad,zab,zaa,gT,TK.isInt,TK.agg,Array.toList,hp]
 have hr:=Int.emod_nonneg a (by omega:p ≠ 0)
 have hr2:=Int.emod_lt_of_pos a (by omega:0 < p)
 refine zar (fun (b:Int) s=>s.sl 0 = int a∧s.sl 1 = int p∧s.sl 5 = int b∧(1 ≤ b∧b ≤ p∧zjm p a = zcT p (a % p) b (p - b).toNat)) (fun b=>(p - b).toNat) (1) (by refine ⟨?_,?_,?_,⟨by omega,by omega,rfl⟩⟩ <;> (first | (simp (maxSteps:=5000000) -dsimp only [gr,reduceEqDiff,reduceLT,reduceAdd,reduceMod,Nat.reduceBEq,zaa,zac,zad,zab];first | done | rfl | (simp;done)) | assumption | rfl)) ?_
 intro b sa ⟨h0a,h1a,h5a,hIa⟩
 obtain ⟨hb,hb2,hv⟩:=hIa
 simp (maxSteps:=5000000) -dsimp only [↓gp,gq,reduceCtorEq,reduceEqDiff,reduceLT,reduceLeDiff,reduceAdd,reduceMul,reduceSub,Nat.reduceBEq,Int.reduceToNat,Int.reduceLE,Int.reduceLT,Int.reduceNeg,reduceMod,zac,zad,zab,zaa,gT,TK.isInt,TK.agg,Array.toList,h0a,h1a,h5a]
 refine ⟨fun h=>zag (zem a p hp) ?_,fun h=>?_⟩
 ·have hm:0 ≤ a % p * b∧a % p * b ≤ 20:=by
   refine ⟨Int.mul_nonneg hr (by omega),?_⟩
   have:=Int.mul_le_mul (show a % p ≤ 4 by omega) (show b ≤ 5 by omega) (by omega) (by omega)
   omega
  have hw:IntKind.i64.wrap (a % p * b) = a % p * b:=zan (by omega) (by omega)
  have hw2:IntKind.i64.wrap (b + 1) = b + 1:=zan (by omega) (by omega)
  simp (maxSteps:=5000000) -dsimp only [↓gp,gq,reduceCtorEq,reduceEqDiff,reduceLT,reduceLeDiff,reduceAdd,reduceMul,reduceSub,Nat.reduceBEq,Int.reduceToNat,Int.reduceLE,Int.reduceLT,Int.reduceNeg,reduceMod,zac,zad,zab,zaa,gT,TK.isInt,TK.agg,Array.toList,h0a,h1a,h5a,hw,hw2,zcz hm.1]
  refine ⟨by omega,fun h1=>?_,fun h1=>zah (b + 1) ⟨(by (first | (simp (maxSteps:=5000000) -dsimp only [gr,reduceEqDiff,reduceLT,reduceAdd,reduceMod,Nat.reduceBEq,zaa,zac,zad,zab,h0a,h1a,h5a,hw2];first | done | rfl | (simp;done)) | assumption | rfl)),(by (first | (simp (maxSteps:=5000000) -dsimp only [gr,reduceEqDiff,reduceLT,reduceAdd,reduceMod,Nat.reduceBEq,zaa,zac,zad,zab,h0a,h1a,h5a,hw2];first | done | rfl | (simp;done)) | assumption | rfl)),(by (first | (simp (maxSteps:=5000000) -dsimp only [gr,reduceEqDiff,reduceLT,reduceAdd,reduceMod,Nat.reduceBEq,zaa,zac,zad,zab,h0a,h1a,h5a,hw2];first | done | rfl | (simp;done)) | assumption | rfl)),⟨by omega,by omega,?_⟩⟩ (by first | omega | (simp only;omega) | (dsimp only;omega) | (show _ < _;simp;omega))⟩
  ·have h1:=beq_iff_eq.1 h1
   rw [hv,zja h,if_pos h1]
  ·have h1:¬ a % p * b % p = 1:=by simpa using h1
   rw [hv,zja h,if_neg h1]
 ·have:(p - b).toNat = 0:=by omega
  rw [hv,this];rfl
theorem zhB (a p:Int) (hp:isP p = true):AC Try.prog 206 [int a,int p] (.im (int (zjm p a))):=by
 refine AC.go (rs:=[.tmp 4]) zbc zax Try.func206 rfl rfl rfl (by kernel_rfl) fun hl=>?_
 have hp2:=zbU hp
 simp (maxSteps:=5000000) -dsimp only [↓gp,gq,reduceCtorEq,reduceEqDiff,reduceLT,reduceLeDiff,reduceAdd,reduceMul,reduceSub,Nat.reduceBEq,Int.reduceToNat,Int.reduceLE,Int.reduceLT,Int.reduceNeg,reduceMod,zac,zad,zab,zaa,gT,TK.isInt,TK.agg,Array.toList]
 refine zag (zdr p) ?_
 simp (maxSteps:=5000000) -dsimp only [↓gp,gq,reduceCtorEq,reduceEqDiff,reduceLT,reduceLeDiff,reduceAdd,reduceMul,reduceSub,Nat.reduceBEq,Int.reduceToNat,Int.reduceLE,Int.reduceLT,Int.reduceNeg,reduceMod,zac,zad,zab,zaa,gT,TK.isInt,TK.agg,Array.toList,hp]
 have hr:=Int.emod_nonneg a (by omega:p ≠ 0)
 have hr2:=Int.emod_lt_of_pos a (by omega:0 < p)
 refine zag (zfM a p hp) ?_
 simp (maxSteps:=5000000) -dsimp only [↓gp,gq,reduceCtorEq,reduceEqDiff,reduceLT,reduceLeDiff,reduceAdd,reduceMul,reduceSub,Nat.reduceBEq,Int.reduceToNat,Int.reduceLE,Int.reduceLT,Int.reduceNeg,reduceMod,zac,zad,zab,zaa,gT,TK.isInt,TK.agg,Array.toList]
 refine zar (fun (b:Int) s=>s.sl 1 = int p∧s.sl 5 = int (a % p)∧s.sl 6 = int b∧(1 ≤ b∧b ≤ p∧zjm p a = zcT p (a % p) b (p - b).toNat)) (fun b=>(p - b).toNat) (1) (by refine ⟨?_,?_,?_,⟨by omega,by omega,rfl⟩⟩ <;> (first | (simp (maxSteps:=5000000) -dsimp only [gr,reduceEqDiff,reduceLT,reduceAdd,reduceMod,Nat.reduceBEq,zaa,zac,zad,zab];first | done | rfl | (simp;done)) | assumption | rfl)) ?_
 intro b sa ⟨h1a,h5a,h6a,hIa⟩
 obtain ⟨hb,hb2,hv⟩:=hIa
 have hm:0 ≤ a % p * b∧a % p * b ≤ 20:=by
  refine ⟨Int.mul_nonneg hr (by omega),?_⟩
  have:=Int.mul_le_mul (show a % p ≤ 4 by omega) (show b ≤ 5 by omega) (by omega) (by omega)
  omega
 have hw:IntKind.i64.wrap (a % p * b) = a % p * b:=zan (by omega) (by omega)
 have hw2:IntKind.i64.wrap (b + 1) = b + 1:=zan (by omega) (by omega)
 simp (maxSteps:=5000000) -dsimp only [↓gp,gq,reduceCtorEq,reduceEqDiff,reduceLT,reduceLeDiff,reduceAdd,reduceMul,reduceSub,Nat.reduceBEq,Int.reduceToNat,Int.reduceLE,Int.reduceLT,Int.reduceNeg,reduceMod,zac,zad,zab,zaa,gT,TK.isInt,TK.agg,Array.toList,h1a,h5a,h6a,hw,hw2,zcz hm.1]
 refine ⟨fun h=>⟨by omega,fun h1=>?_,fun h1=>zah (b + 1) ⟨(by (first | (simp (maxSteps:=5000000) -dsimp only [gr,reduceEqDiff,reduceLT,reduceAdd,reduceMod,Nat.reduceBEq,zaa,zac,zad,zab,h1a,h5a,h6a,hw2];first | done | rfl | (simp;done)) | assumption | rfl)),(by (first | (simp (maxSteps:=5000000) -dsimp only [gr,reduceEqDiff,reduceLT,reduceAdd,reduceMod,Nat.reduceBEq,zaa,zac,zad,zab,h1a,h5a,h6a,hw2];first | done | rfl | (simp;done)) | assumption | rfl)),(by (first | (simp (maxSteps:=5000000) -dsimp only [gr,reduceEqDiff,reduceLT,reduceAdd,reduceMod,Nat.reduceBEq,zaa,zac,zad,zab,h1a,h5a,h6a,hw2];first | done | rfl | (simp;done)) | assumption | rfl)),⟨by omega,by omega,?_⟩⟩ (by first | omega | (simp only;omega) | (dsimp only;omega) | (show _ < _;simp;omega))⟩,fun h=>?_⟩
 ·have h1:=beq_iff_eq.1 h1
  rw [hv,zja h,if_pos h1]
 ·have h1:¬ a % p * b % p = 1:=by simpa using h1
  rw [hv,zja h,if_neg h1]
 ·have:(p - b).toNat = 0:=by omega
  rw [hv,this];rfl
theorem zuX (p:Int) {r:List Int} {j:Nat} (h:j < r.length):(r.map fun x=>x % p).getD j 0 = r.getD j 0 % p:=by simp [List.getD,h]
theorem zqS (p:Int) {M:Mat} {i:Nat} (h:i < M.length):zf9 p (M.take i) ++ [(M.getD i []).map fun x=>x % p] = zf9 p (M.take (i + 1)):=by
 rw [zaF [] h];simp [zf9]
theorem zg4 (p:Int) {M:Mat} {i:Nat} (h:i ≤ M.length):(zf9 p (M.take i)).length = i:=by simp [zf9];omega
theorem ziz (M:Mat) (p:Int) (hp:isP p = true) (hM:M.length ≤ 900) (hr:∀ i,i < M.length→(M.getD i []).length ≤ 1000):AC Try.prog 191 [zq5 M,int p] (.tb 22 3 ((zf9 p M).map iL)):=by
 refine AC.go (rs:=[.tmp 4]) zbc zax Try.func191 rfl rfl rfl (by kernel_rfl) fun hl=>?_
 simp (maxSteps:=5000000) -dsimp only [↓gp,gq,reduceCtorEq,reduceEqDiff,reduceLT,reduceLeDiff,reduceAdd,reduceMul,reduceSub,Nat.reduceBEq,Int.reduceToNat,Int.reduceLE,Int.reduceLT,Int.reduceNeg,reduceMod,zac,zad,zab,zaa,gT,TK.isInt,TK.agg,Array.toList]
 refine ⟨by omega,by omega,?_⟩
 refine zuK (k:=12) (v:=1) (e:=22) (e2:=3) (n:=M.length) (by simp (maxSteps:=5000000) -dsimp only [gr,reduceEqDiff,reduceLT,reduceAdd,reduceMod,Nat.reduceBEq,zaa,zac,zad,zab]) (fun j=>by simp (maxSteps:=5000000) -dsimp only [gr,reduceEqDiff,reduceLT,reduceAdd,reduceMod,Nat.reduceBEq,zaa,zac,zad,zab]) (fun (i:Nat) s=>s.sl 0 = zq5 M∧s.sl 1 = int p∧s.sl 5 = .own 12 1∧s.sl 13 = zq5 M∧s.sl 14 = int M.length∧s.sl 15 = int i∧(i ≤ M.length∧TabP s.rw 12 1 22 3 M.length i (zf9 p (M.take i)))) (fun i=>M.length - i) (0) (fun sX htX hslX hoX=>(by refine ⟨?_,?_,?_,?_,?_,?_,⟨by omega,htX⟩⟩ <;> (first | (simp (maxSteps:=5000000) -dsimp only [gr,reduceEqDiff,reduceLT,reduceAdd,reduceMod,Nat.reduceBEq,zaa,zac,zad,zab,hslX,hoX];first | done | rfl | (simp;done)) | assumption | rfl))) ?_
 intro i sa ⟨h0a,h1a,h5a,h13a,h14a,h15a,hIa⟩
 obtain ⟨hi,ht⟩:=hIa
 simp (maxSteps:=5000000) -dsimp only [↓gp,gq,reduceCtorEq,reduceEqDiff,reduceLT,reduceLeDiff,reduceAdd,reduceMul,reduceSub,Nat.reduceBEq,Int.reduceToNat,Int.reduceLE,Int.reduceLT,Int.reduceNeg,reduceMod,zac,zad,zab,zaa,gT,TK.isInt,TK.agg,Array.toList,h0a,h1a,h5a,h13a,h14a,h15a,ht.top,zbn]
 refine ⟨fun h=>⟨h,h,by have:=hr i h;omega,by have:=hr i h;omega,h,by omega,?_⟩,fun h=>?_⟩
 ·have hri:=hr i h
  have hlen:=zg4 p hi
  generalize hrow:M.getD i [] = row at *
  refine zqz (k:=12) (v:=1) (e:=22) (e2:=3) (n:=M.length) (i:=i) (d:=24) (vd:=(sa.rw 24).ver + 1) (M:=zf9 p (M.take i)) (r:=List.replicate row.length 0) (by simp (maxSteps:=5000000) -dsimp only [gr,reduceEqDiff,reduceLT,reduceAdd,reduceMod,Nat.reduceBEq,zaa,zac,zad,zab,ht.top]) hlen (fun j hj=>by simp (maxSteps:=5000000) -dsimp only [gr,reduceEqDiff,reduceLT,reduceAdd,reduceMod,Nat.reduceBEq,zaa,zac,zad,zab,ht.row j hj]) (fun j hj=>by simp (maxSteps:=5000000) -dsimp only [gr,reduceEqDiff,reduceLT,reduceAdd,reduceMod,Nat.reduceBEq,zaa,zac,zad,zab,ht.rest j hj]) (by simp (maxSteps:=5000000) -dsimp only [gr,reduceEqDiff,reduceLT,reduceAdd,reduceMod,Nat.reduceBEq,zaa,zac,zad,zab]) (by decide) (by decide) h (fun (j:Nat) s=>s.sl 0 = zq5 M∧s.sl 1 = int p∧s.sl 5 = .own 12 1∧s.sl 13 = zq5 M∧s.sl 14 = int M.length∧s.sl 15 = int i∧s.sl 6 = int i∧s.sl 7 = zbx row∧s.sl 26 = zbx row∧s.sl 27 = int row.length∧s.sl 28 = int j∧(j ≤ row.length∧TabP s.rw 12 1 22 3 M.length (i + 1) (zf9 p (M.take i) ++ [prt (row.map fun x=>x % p) (List.replicate row.length 0) j]))) (fun j=>row.length - j) (0) (fun sX htX hslX hoX=>(by refine ⟨?_,?_,?_,?_,?_,?_,?_,?_,?_,?_,?_,⟨by omega,by rw [zd4];exact htX⟩⟩ <;> (first | (simp (maxSteps:=5000000) -dsimp only [gr,reduceEqDiff,reduceLT,reduceAdd,reduceMod,Nat.reduceBEq,zaa,zac,zad,zab,hslX,hoX,h0a,h1a,h5a,h13a,h14a,h15a];first | done | rfl | (simp;done)) | assumption | rfl))) ?_
  intro j sb ⟨h0b,h1b,h5b,h13b,h14b,h15b,h6b,h7b,h26b,h27b,h28b,hIb⟩
  obtain ⟨hj,ht2⟩:=hIb
  have hrr:=ht2.row i (by omega)
  rw [zqA hlen] at hrr
  have hpl:∀ t,(prt (row.map fun x=>x % p) (List.replicate row.length 0) t).length = row.length:=fun t=>by rw [zcx (by simp)];simp
  simp (maxSteps:=5000000) -dsimp only [↓gp,gq,reduceCtorEq,reduceEqDiff,reduceLT,reduceLeDiff,reduceAdd,reduceMul,reduceSub,Nat.reduceBEq,Int.reduceToNat,Int.reduceLE,Int.reduceLT,Int.reduceNeg,reduceMod,zac,zad,zab,zaa,gT,TK.isInt,TK.agg,Array.toList,h0b,h1b,h5b,h13b,h14b,h15b,h6b,h7b,h26b,h27b,h28b,ht2.top,zkI,hrr,hpl,zbn]
  refine ⟨fun h2=>⟨h2,h2,by kernel_rfl,h,h,zag (zfM _ p hp) ?_⟩,fun h2=>?_⟩
  ·simp (maxSteps:=5000000) -dsimp only [↓gp,gq,reduceCtorEq,reduceEqDiff,reduceLT,reduceLeDiff,reduceAdd,reduceMul,reduceSub,Nat.reduceBEq,Int.reduceToNat,Int.reduceLE,Int.reduceLT,Int.reduceNeg,reduceMod,zac,zad,zab,zaa,gT,TK.isInt,TK.agg,Array.toList,h0b,h1b,h5b,h13b,h14b,h15b,h6b,h7b,h26b,h27b,h28b,ht2.top,zkI,hrr,hpl,zbn]
   refine ⟨h2,by omega,by kernel_rfl,zah (j + 1) ⟨(by (first | (simp (maxSteps:=5000000) -dsimp only [gr,reduceEqDiff,reduceLT,reduceAdd,reduceMod,Nat.reduceBEq,zaa,zac,zad,zab,h0b,h1b,h5b,h13b,h14b,h15b,h6b,h7b,h26b,h27b,h28b,zae h2 (by omega)];first | done | rfl | (simp;done)) | assumption | rfl)),(by (first | (simp (maxSteps:=5000000) -dsimp only [gr,reduceEqDiff,reduceLT,reduceAdd,reduceMod,Nat.reduceBEq,zaa,zac,zad,zab,h0b,h1b,h5b,h13b,h14b,h15b,h6b,h7b,h26b,h27b,h28b,zae h2 (by omega)];first | done | rfl | (simp;done)) | assumption | rfl)),(by (first | (simp (maxSteps:=5000000) -dsimp only [gr,reduceEqDiff,reduceLT,reduceAdd,reduceMod,Nat.reduceBEq,zaa,zac,zad,zab,h0b,h1b,h5b,h13b,h14b,h15b,h6b,h7b,h26b,h27b,h28b,zae h2 (by omega)];first | done | rfl | (simp;done)) | assumption | rfl)),(by (first | (simp (maxSteps:=5000000) -dsimp only [gr,reduceEqDiff,reduceLT,reduceAdd,reduceMod,Nat.reduceBEq,zaa,zac,zad,zab,h0b,h1b,h5b,h13b,h14b,h15b,h6b,h7b,h26b,h27b,h28b,zae h2 (by omega)];first | done | rfl | (simp;done)) | assumption | rfl)),(by (first | (simp (maxSteps:=5000000) -dsimp only [gr,reduceEqDiff,reduceLT,reduceAdd,reduceMod,Nat.reduceBEq,zaa,zac,zad,zab,h0b,h1b,h5b,h13b,h14b,h15b,h6b,h7b,h26b,h27b,h28b,zae h2 (by omega)];first | done | rfl | (simp;done)) | assumption | rfl)),(by (first | (simp (maxSteps:=5000000) -dsimp only [gr,reduceEqDiff,reduceLT,reduceAdd,reduceMod,Nat.reduceBEq,zaa,zac,zad,zab,h0b,h1b,h5b,h13b,h14b,h15b,h6b,h7b,h26b,h27b,h28b,zae h2 (by omega)];first | done | rfl | (simp;done)) | assumption | rfl)),(by (first | (simp (maxSteps:=5000000) -dsimp only [gr,reduceEqDiff,reduceLT,reduceAdd,reduceMod,Nat.reduceBEq,zaa,zac,zad,zab,h0b,h1b,h5b,h13b,h14b,h15b,h6b,h7b,h26b,h27b,h28b,zae h2 (by omega)];first | done | rfl | (simp;done)) | assumption | rfl)),(by (first | (simp (maxSteps:=5000000) -dsimp only [gr,reduceEqDiff,reduceLT,reduceAdd,reduceMod,Nat.reduceBEq,zaa,zac,zad,zab,h0b,h1b,h5b,h13b,h14b,h15b,h6b,h7b,h26b,h27b,h28b,zae h2 (by omega)];first | done | rfl | (simp;done)) | assumption | rfl)),(by (first | (simp (maxSteps:=5000000) -dsimp only [gr,reduceEqDiff,reduceLT,reduceAdd,reduceMod,Nat.reduceBEq,zaa,zac,zad,zab,h0b,h1b,h5b,h13b,h14b,h15b,h6b,h7b,h26b,h27b,h28b,zae h2 (by omega)];first | done | rfl | (simp;done)) | assumption | rfl)),(by (first | (simp (maxSteps:=5000000) -dsimp only [gr,reduceEqDiff,reduceLT,reduceAdd,reduceMod,Nat.reduceBEq,zaa,zac,zad,zab,h0b,h1b,h5b,h13b,h14b,h15b,h6b,h7b,h26b,h27b,h28b,zae h2 (by omega)];first | done | rfl | (simp;done)) | assumption | rfl)),(by (first | (simp (maxSteps:=5000000) -dsimp only [gr,reduceEqDiff,reduceLT,reduceAdd,reduceMod,Nat.reduceBEq,zaa,zac,zad,zab,h0b,h1b,h5b,h13b,h14b,h15b,h6b,h7b,h26b,h27b,h28b,zae h2 (by omega)];first | done | rfl | (simp;done)) | assumption | rfl)),⟨by omega,?_⟩⟩ (by first | omega | (simp only;omega) | (dsimp only;omega) | (show _ < _;simp;omega))⟩
   have e:zf9 p (M.take i) ++ [prt (row.map fun x=>x % p) (List.replicate row.length 0) (j + 1)] = (zf9 p (M.take i) ++ [prt (row.map fun x=>x % p) (List.replicate row.length 0) j]).set i ((prt (row.map fun x=>x % p) (List.replicate row.length 0) j).set j (row.getD j 0 % p)):=by
    rw [zuL hlen,← zfQ (by simp) (by simpa using h2),zuX p h2]
   rw [e]
   exact ht2.set (by omega) (by simp (maxSteps:=5000000) -dsimp only [gr,reduceEqDiff,reduceLT,reduceAdd,reduceMod,Nat.reduceBEq,zaa,zac,zad,zab,h0b,h1b,h5b,h13b,h14b,h15b,h6b,h7b,h26b,h27b,h28b]) (by simp (maxSteps:=5000000) -dsimp only [gr,reduceEqDiff,reduceLT,reduceAdd,reduceMod,Nat.reduceBEq,zaa,zac,zad,zab,h0b,h1b,h5b,h13b,h14b,h15b,h6b,h7b,h26b,h27b,h28b]) (fun x hx=>by simp (maxSteps:=5000000) -dsimp only [gr,reduceEqDiff,reduceLT,reduceAdd,reduceMod,Nat.reduceBEq,zaa,zac,zad,zab,h0b,h1b,h5b,h13b,h14b,h15b,h6b,h7b,h26b,h27b,h28b,hx])
  ·have:j = row.length:=by omega
   subst this
   refine zah (i + 1) ⟨(by (first | (simp (maxSteps:=5000000) -dsimp only [gr,reduceEqDiff,reduceLT,reduceAdd,reduceMod,Nat.reduceBEq,zaa,zac,zad,zab,h0a,h1a,h5a,h13a,h14a,h15a,h0b,h1b,h5b,h13b,h14b,h15b,h6b,h7b,h26b,h27b,h28b,zae h (by omega)];first | done | rfl | (simp;done)) | assumption | rfl)),(by (first | (simp (maxSteps:=5000000) -dsimp only [gr,reduceEqDiff,reduceLT,reduceAdd,reduceMod,Nat.reduceBEq,zaa,zac,zad,zab,h0a,h1a,h5a,h13a,h14a,h15a,h0b,h1b,h5b,h13b,h14b,h15b,h6b,h7b,h26b,h27b,h28b,zae h (by omega)];first | done | rfl | (simp;done)) | assumption | rfl)),(by (first | (simp (maxSteps:=5000000) -dsimp only [gr,reduceEqDiff,reduceLT,reduceAdd,reduceMod,Nat.reduceBEq,zaa,zac,zad,zab,h0a,h1a,h5a,h13a,h14a,h15a,h0b,h1b,h5b,h13b,h14b,h15b,h6b,h7b,h26b,h27b,h28b,zae h (by omega)];first | done | rfl | (simp;done)) | assumption | rfl)),(by (first | (simp (maxSteps:=5000000) -dsimp only [gr,reduceEqDiff,reduceLT,reduceAdd,reduceMod,Nat.reduceBEq,zaa,zac,zad,zab,h0a,h1a,h5a,h13a,h14a,h15a,h0b,h1b,h5b,h13b,h14b,h15b,h6b,h7b,h26b,h27b,h28b,zae h (by omega)];first | done | rfl | (simp;done)) | assumption | rfl)),(by (first | (simp (maxSteps:=5000000) -dsimp only [gr,reduceEqDiff,reduceLT,reduceAdd,reduceMod,Nat.reduceBEq,zaa,zac,zad,zab,h0a,h1a,h5a,h13a,h14a,h15a,h0b,h1b,h5b,h13b,h14b,h15b,h6b,h7b,h26b,h27b,h28b,zae h (by omega)];first | done | rfl | (simp;done)) | assumption | rfl)),(by (first | (simp (maxSteps:=5000000) -dsimp only [gr,reduceEqDiff,reduceLT,reduceAdd,reduceMod,Nat.reduceBEq,zaa,zac,zad,zab,h0a,h1a,h5a,h13a,h14a,h15a,h0b,h1b,h5b,h13b,h14b,h15b,h6b,h7b,h26b,h27b,h28b,zae h (by omega)];first | done | rfl | (simp;done)) | assumption | rfl)),⟨by omega,?_⟩⟩ (by first | omega | (simp only;omega) | (dsimp only;omega) | (show _ < _;simp;omega))
   have e:prt (row.map fun x=>x % p) (List.replicate row.length 0) row.length = row.map fun x=>x % p:=by
    have:=zfP (new:=row.map fun x=>x % p) (old:=List.replicate row.length 0) (by simp)
    simpa using this
   have ht3:=ht2
   rw [e,← hrow,zqS p h] at ht3
   exact ht3.same (by simp (maxSteps:=5000000) -dsimp only [gr,reduceEqDiff,reduceLT,reduceAdd,reduceMod,Nat.reduceBEq,zaa,zac,zad,zab]) (fun x=>by simp (maxSteps:=5000000) -dsimp only [gr,reduceEqDiff,reduceLT,reduceAdd,reduceMod,Nat.reduceBEq,zaa,zac,zad,zab])
 ·have:i = M.length:=by omega
  subst this
  rw [List.take_length] at ht
  exact zeY ht.done (by decide) (fun j hj=>by have:=List.mem_range.1 hj;omega)
theorem zg3 {a b p:Int} (h1:0 ≤ a∧a < p) (h2:0 ≤ b∧b ≤ 5) (hp:p ≤ 5):0 ≤ a * b∧a * b ≤ 25:=by
 refine ⟨Int.mul_nonneg h1.1 h2.1,?_⟩
 have:=Int.mul_le_mul (show a ≤ 5 by omega) h2.2 h2.1 (by omega)
 omega
theorem zBr (l:List Int) (j:Nat):prt l l j = l:=by simp [prt]
theorem zkV (M:Mat) (n a c:Nat) (p:Int) (hp:isP p = true) (hM:MatOk p n M) (ha:a < M.length) (hc:c < n) (hn:n ≤ 1000):AT Try.prog 209 [.own 1000000 1,int a,int c,int p] 22 3 (M.map iL) ((zdb p a c M).map iL) .self:=by
 refine AT.goI (rs:=[.tmp 8]) zbc zax Try.func209 rfl rfl rfl (by kernel_rfl) (za4 p a c M) fun hl s hs hlow ht=>?_
 have hp2:=zbU hp
 have hlen:=hM.len a ha
 have hres:=hM.res a ha
 have hac:=hres c
 have hra:=ht.row ha
 have hq:∀ i,i < M.length→(List.range M.length).getD i 0 = i:=fun i hi=>by simp [List.getD,hi]
 rw [hq a ha] at hra
 simp (maxSteps:=5000000) -dsimp only [↓gp,gq,reduceCtorEq,reduceEqDiff,reduceLT,reduceLeDiff,reduceAdd,reduceMul,reduceSub,Nat.reduceBEq,Int.reduceToNat,Int.reduceLE,Int.reduceLT,Int.reduceNeg,reduceMod,zac,zad,zab,zaa,gT,TK.isInt,TK.agg,Array.toList,hs,hlow,ht.top,hra,hq a ha]
 refine ⟨ha,ha,by omega,by omega,zag (zhA _ p hp) ?_⟩
 generalize hb:zjm p ((M.getD a []).getD c 0) = b at *
 have hbb:=zwL hp ((M.getD a []).getD c 0)
 rw [hb] at hbb
 simp (maxSteps:=5000000) -dsimp only [↓gp,gq,reduceCtorEq,reduceEqDiff,reduceLT,reduceLeDiff,reduceAdd,reduceMul,reduceSub,Nat.reduceBEq,Int.reduceToNat,Int.reduceLE,Int.reduceLT,Int.reduceNeg,reduceMod,zac,zad,zab,zaa,gT,TK.isInt,TK.agg,Array.toList,hs,hlow]
 generalize hold:M.getD a [] = old at *
 refine zar (fun (j:Nat) s=>s.sl 0 = .own 1000000 1∧s.sl 1 = int a∧s.sl 2 = int c∧s.sl 3 = int p∧s.sl 9 = int b∧s.sl 10 = int j∧(j ≤ n∧TabI s.rw 1000000 1 22 3 (List.range M.length) (M.set a (prt (scl p b old) old j)))) (fun j=>n - j) (0) (by refine ⟨?_,?_,?_,?_,?_,?_,⟨by omega,by rw [zd4,← hold,zbZ];exact ht.same (by simp (maxSteps:=5000000) -dsimp only [gr,reduceEqDiff,reduceLT,reduceAdd,reduceMod,Nat.reduceBEq,zaa,zac,zad,zab]) (fun x=>by simp (maxSteps:=5000000) -dsimp only [gr,reduceEqDiff,reduceLT,reduceAdd,reduceMod,Nat.reduceBEq,zaa,zac,zad,zab])⟩⟩ <;> (first | (simp (maxSteps:=5000000) -dsimp only [gr,reduceEqDiff,reduceLT,reduceAdd,reduceMod,Nat.reduceBEq,zaa,zac,zad,zab,hs];first | done | rfl | (simp;done)) | assumption | rfl)) ?_
 intro j sa ⟨h0a,h1a,h2a,h3a,h9a,h10a,hIa⟩
 obtain ⟨hj,ht1⟩:=hIa
 have hset:a < (M.set a (prt (scl p b old) old j)).length:=by simpa using ha
 have hr1:=ht1.row hset
 have hpl:(prt (scl p b old) old j).length = n:=by rw [zcx (zbK p b old)];exact hlen
 rw [zaD ha,hq a ha] at hr1
 have hpj:=ziH (zbK p b old) (Nat.le_refl j)
 have hoj:=hres j
 have hmb:=zg3 hoj ⟨hbb.1,by omega⟩ hp2.2
 have hw:IntKind.i64.wrap (old.getD j 0 * b) = old.getD j 0 * b:=zan (by omega) (by omega)
 simp (maxSteps:=5000000) -dsimp only [↓gp,gq,reduceCtorEq,reduceEqDiff,reduceLT,reduceLeDiff,reduceAdd,reduceMul,reduceSub,Nat.reduceBEq,Int.reduceToNat,Int.reduceLE,Int.reduceLT,Int.reduceNeg,reduceMod,zac,zad,zab,zaa,gT,TK.isInt,TK.agg,Array.toList,h0a,h1a,h2a,h3a,h9a,h10a,ht1.top,hr1,hq a ha,hpl,hpj,hw,zcz hmb.1]
 refine ⟨ha,ha,fun h=>⟨by kernel_rfl,ha,ha,ha,ha,h,h,by omega,h,by omega,by kernel_rfl,?_⟩,fun h=>?_⟩
 ·refine zah (j + 1) ⟨(by (first | (simp (maxSteps:=5000000) -dsimp only [gr,reduceEqDiff,reduceLT,reduceAdd,reduceMod,Nat.reduceBEq,zaa,zac,zad,zab,h0a,h1a,h2a,h3a,h9a,h10a,zae h (by omega)];first | done | rfl | (simp;done)) | assumption | rfl)),(by (first | (simp (maxSteps:=5000000) -dsimp only [gr,reduceEqDiff,reduceLT,reduceAdd,reduceMod,Nat.reduceBEq,zaa,zac,zad,zab,h0a,h1a,h2a,h3a,h9a,h10a,zae h (by omega)];first | done | rfl | (simp;done)) | assumption | rfl)),(by (first | (simp (maxSteps:=5000000) -dsimp only [gr,reduceEqDiff,reduceLT,reduceAdd,reduceMod,Nat.reduceBEq,zaa,zac,zad,zab,h0a,h1a,h2a,h3a,h9a,h10a,zae h (by omega)];first | done | rfl | (simp;done)) | assumption | rfl)),(by (first | (simp (maxSteps:=5000000) -dsimp only [gr,reduceEqDiff,reduceLT,reduceAdd,reduceMod,Nat.reduceBEq,zaa,zac,zad,zab,h0a,h1a,h2a,h3a,h9a,h10a,zae h (by omega)];first | done | rfl | (simp;done)) | assumption | rfl)),(by (first | (simp (maxSteps:=5000000) -dsimp only [gr,reduceEqDiff,reduceLT,reduceAdd,reduceMod,Nat.reduceBEq,zaa,zac,zad,zab,h0a,h1a,h2a,h3a,h9a,h10a,zae h (by omega)];first | done | rfl | (simp;done)) | assumption | rfl)),(by (first | (simp (maxSteps:=5000000) -dsimp only [gr,reduceEqDiff,reduceLT,reduceAdd,reduceMod,Nat.reduceBEq,zaa,zac,zad,zab,h0a,h1a,h2a,h3a,h9a,h10a,zae h (by omega)];first | done | rfl | (simp;done)) | assumption | rfl)),⟨by omega,?_⟩⟩ (by first | omega | (simp only;omega) | (dsimp only;omega) | (show _ < _;simp;omega))
  have e:M.set a (prt (scl p b old) old (j + 1)) = (M.set a (prt (scl p b old) old j)).set a ((prt (scl p b old) old j).set j (old.getD j 0 * b % p)):=by
   rw [zm5,← zfQ (zbK p b old) (by omega),zfc p b (by omega)]
  rw [e]
  refine ht1.set hset (by simp (maxSteps:=5000000) -dsimp only [gr,reduceEqDiff,reduceLT,reduceAdd,reduceMod,Nat.reduceBEq,zaa,zac,zad,zab,h0a,h1a,h2a,h3a,h9a,h10a]) ?_ (fun x hx=>?_)
  ·rw [hq a ha];simp (maxSteps:=5000000) -dsimp only [gr,reduceEqDiff,reduceLT,reduceAdd,reduceMod,Nat.reduceBEq,zaa,zac,zad,zab,h0a,h1a,h2a,h3a,h9a,h10a]
  ·rw [hq a ha] at hx
   simp (maxSteps:=5000000) -dsimp only [gr,reduceEqDiff,reduceLT,reduceAdd,reduceMod,Nat.reduceBEq,zaa,zac,zad,zab,h0a,h1a,h2a,h3a,h9a,h10a,hx]
 have:j = n:=by omega
 subst this
 have hend:prt (scl p b old) old j = scl p b old:=by rw [← hlen];exact zfP (zbK p b old)
 rw [hend] at ht1
 have hclr:M.set a (scl p b old) = zoi p a c M:=by unfold zoi;rw [hold,hb]
 rw [hclr] at ht1
 have hM1:=zrl (p:=p) (n:=j) (at':=a) (col:=c) (by omega) hM ha
 have hl1:(zoi p a c M).length = M.length:=zcy p a c M
 have hgoal:zdb p a c M = zfd p a c (zoi p a c M) M.length:=rfl
 rw [hgoal]
 generalize zoi p a c M = M1 at *
 refine zar (fun (i:Nat) s=>s.sl 0 = .own 1000000 1∧s.sl 1 = int a∧s.sl 2 = int c∧s.sl 3 = int p∧s.sl 11 = int i∧(i ≤ M.length∧TabI s.rw 1000000 1 22 3 (List.range M.length) (zfd p a c M1 i))) (fun i=>M.length - i) (0) (by refine ⟨?_,?_,?_,?_,?_,⟨by omega,by rw [zoj];exact ht1.same (by simp (maxSteps:=5000000) -dsimp only [gr,reduceEqDiff,reduceLT,reduceAdd,reduceMod,Nat.reduceBEq,zaa,zac,zad,zab]) (fun x=>by simp (maxSteps:=5000000) -dsimp only [gr,reduceEqDiff,reduceLT,reduceAdd,reduceMod,Nat.reduceBEq,zaa,zac,zad,zab])⟩⟩ <;> (first | (simp (maxSteps:=5000000) -dsimp only [gr,reduceEqDiff,reduceLT,reduceAdd,reduceMod,Nat.reduceBEq,zaa,zac,zad,zab,h0a,h1a,h2a,h3a,h9a,h10a];first | done | rfl | (simp;done)) | assumption | rfl)) ?_
 intro i sb ⟨h0b,h1b,h2b,h3b,h11b,hIb⟩
 obtain ⟨hi,ht2⟩:=hIb
 have hlN:(zfd p a c M1 i).length = M.length:=by rw [zbA,hl1]
 simp (maxSteps:=5000000) -dsimp only [↓gp,gq,reduceCtorEq,reduceEqDiff,reduceLT,reduceLeDiff,reduceAdd,reduceMul,reduceSub,Nat.reduceBEq,Int.reduceToNat,Int.reduceLE,Int.reduceLT,Int.reduceNeg,reduceMod,zac,zad,zab,zaa,gT,TK.isInt,TK.agg,Array.toList,h0b,h1b,h2b,h3b,h11b,ht2.top]
 refine ⟨fun h=>?_,fun h=>?_⟩
 ·have hi1:i < M1.length:=by omega
  have hr2:=ht2.row (i:=i) (by omega)
  rw [zhd p a c hi1 (Nat.le_refl i),hq i h] at hr2
  have hl2:=hM1.len i hi1
  have hres2:=hM1.res i hi1
  generalize hold2:M1.getD i [] = old2 at *
  simp (maxSteps:=5000000) -dsimp only [↓gp,gq,reduceCtorEq,reduceEqDiff,reduceLT,reduceLeDiff,reduceAdd,reduceMul,reduceSub,Nat.reduceBEq,Int.reduceToNat,Int.reduceLE,Int.reduceLT,Int.reduceNeg,reduceMod,zac,zad,zab,zaa,gT,TK.isInt,TK.agg,Array.toList,h0b,h1b,h2b,h3b,h11b,ht2.top,hr2,hq i h]
  refine ⟨h,h,by omega,by omega,?_⟩
  have hf:=hres2 c
  generalize hfe:old2.getD c 0 = f at *
  have hra1:a < M1.length:=by omega
  have hnew:(zf8 p a c M1 i).length = old2.length:=by
   rw [(zm6 (p:=p) (by omega) hM1 hi1).1,hl2]
  refine zar (fun (t:Nat) s=>s.sl 0 = .own 1000000 1∧s.sl 1 = int a∧s.sl 2 = int c∧s.sl 3 = int p∧s.sl 11 = int i∧s.sl 12 = int f∧s.sl 13 = int t∧(t ≤ old2.length∧TabI s.rw 1000000 1 22 3 (List.range M.length) ((zfd p a c M1 i).set i (prt (zf8 p a c M1 i) old2 t)))) (fun t=>old2.length - t) (0) (by refine ⟨?_,?_,?_,?_,?_,?_,?_,⟨by omega,(ht2.same (by simp (maxSteps:=5000000) -dsimp only [gr,reduceEqDiff,reduceLT,reduceAdd,reduceMod,Nat.reduceBEq,zaa,zac,zad,zab]) (fun x=>by simp (maxSteps:=5000000) -dsimp only [gr,reduceEqDiff,reduceLT,reduceAdd,reduceMod,Nat.reduceBEq,zaa,zac,zad,zab])).to (by rw [zd4,← hold2,← zhd p a c hi1 (Nat.le_refl i),zbZ])⟩⟩ <;> (first | (simp (maxSteps:=5000000) -dsimp only [gr,reduceEqDiff,reduceLT,reduceAdd,reduceMod,Nat.reduceBEq,zaa,zac,zad,zab,h0b,h1b,h2b,h3b,h11b];first | done | rfl | (simp;done)) | assumption | rfl)) ?_
  intro t sc ⟨h0c,h1c,h2c,h3c,h11c,h12c,h13c,hIc⟩
  obtain ⟨ht',ht3⟩:=hIc
  have hls:((zfd p a c M1 i).set i (prt (zf8 p a c M1 i) old2 t)).length = M.length:=by rw [List.length_set,hlN]
  have hr3:=ht3.row (i:=i) (by omega)
  rw [zaD (by omega),hq i h] at hr3
  have hpl3:(prt (zf8 p a c M1 i) old2 t).length = old2.length:=zcx hnew t
  have hpj3:=ziH hnew (Nat.le_refl t)
  simp (maxSteps:=5000000) -dsimp only [↓gp,gq,reduceCtorEq,reduceEqDiff,reduceLT,reduceLeDiff,reduceAdd,reduceMul,reduceSub,Nat.reduceBEq,Int.reduceToNat,Int.reduceLE,Int.reduceLT,Int.reduceNeg,reduceMod,zac,zad,zab,zaa,gT,TK.isInt,TK.agg,Array.toList,h0c,h1c,h2c,h3c,h11c,h12c,h13c,ht3.top,hr3,hq i h,hpl3]
  refine ⟨h,h,fun h2=>⟨fun hne=>?_,fun heq=>?_⟩,fun h2=>?_⟩
  ·have hia:¬ i = a:=by
    intro e
    simp [e] at hne
   have hr4:=ht3.row (i:=a) (by omega)
   rw [zba hia,zwN p a c i hra1,hq a ha] at hr4
   have hla:=hM1.len a hra1
   have hresa:=hM1.res a hra1
   have hcI:zf8 p a c M1 i = sbt p f (M1.getD a []) old2:=by unfold zf8;rw [if_neg hia,hold2,hfe]
   generalize hpiv:M1.getD a [] = piv at *
   have hft:=zg3 hf ⟨(hresa t).1,by have:=(hresa t).2;omega⟩ hp2.2
   have hot:=hres2 t
   have hw3:IntKind.i64.wrap (f * piv.getD t 0) = f * piv.getD t 0:=zan (by omega) (by omega)
   have hw4:IntKind.i64.wrap (old2.getD t 0 - f * piv.getD t 0) = old2.getD t 0 - f * piv.getD t 0:=zan (by omega) (by omega)
   simp (maxSteps:=5000000) -dsimp only [↓gp,gq,reduceCtorEq,reduceEqDiff,reduceLT,reduceLeDiff,reduceAdd,reduceMul,reduceSub,Nat.reduceBEq,Int.reduceToNat,Int.reduceLE,Int.reduceLT,Int.reduceNeg,reduceMod,zac,zad,zab,zaa,gT,TK.isInt,TK.agg,Array.toList,h0c,h1c,h2c,h3c,h11c,h12c,h13c,ht3.top,hr3,hq i h,hpl3,hr4,hq a ha,hpj3,hw3,hw4]
   refine ⟨by kernel_rfl,h,h,h,h,h2,h2,ha,ha,by omega,by omega,zag (zem _ p hp) ?_⟩
   simp (maxSteps:=5000000) -dsimp only [↓gp,gq,reduceCtorEq,reduceEqDiff,reduceLT,reduceLeDiff,reduceAdd,reduceMul,reduceSub,Nat.reduceBEq,Int.reduceToNat,Int.reduceLE,Int.reduceLT,Int.reduceNeg,reduceMod,zac,zad,zab,zaa,gT,TK.isInt,TK.agg,Array.toList,h0c,h1c,h2c,h3c,h11c,h12c,h13c,ht3.top,hr3,hq i h,hpl3,hr4,hq a ha,hpj3,hw3,hw4]
   refine ⟨h2,by omega,by kernel_rfl,zah (t + 1) ⟨(by (first | (simp (maxSteps:=5000000) -dsimp only [gr,reduceEqDiff,reduceLT,reduceAdd,reduceMod,Nat.reduceBEq,zaa,zac,zad,zab,h0c,h1c,h2c,h3c,h11c,h12c,h13c,zae h2 (by omega)];first | done | rfl | (simp;done)) | assumption | rfl)),(by (first | (simp (maxSteps:=5000000) -dsimp only [gr,reduceEqDiff,reduceLT,reduceAdd,reduceMod,Nat.reduceBEq,zaa,zac,zad,zab,h0c,h1c,h2c,h3c,h11c,h12c,h13c,zae h2 (by omega)];first | done | rfl | (simp;done)) | assumption | rfl)),(by (first | (simp (maxSteps:=5000000) -dsimp only [gr,reduceEqDiff,reduceLT,reduceAdd,reduceMod,Nat.reduceBEq,zaa,zac,zad,zab,h0c,h1c,h2c,h3c,h11c,h12c,h13c,zae h2 (by omega)];first | done | rfl | (simp;done)) | assumption | rfl)),(by (first | (simp (maxSteps:=5000000) -dsimp only [gr,reduceEqDiff,reduceLT,reduceAdd,reduceMod,Nat.reduceBEq,zaa,zac,zad,zab,h0c,h1c,h2c,h3c,h11c,h12c,h13c,zae h2 (by omega)];first | done | rfl | (simp;done)) | assumption | rfl)),(by (first | (simp (maxSteps:=5000000) -dsimp only [gr,reduceEqDiff,reduceLT,reduceAdd,reduceMod,Nat.reduceBEq,zaa,zac,zad,zab,h0c,h1c,h2c,h3c,h11c,h12c,h13c,zae h2 (by omega)];first | done | rfl | (simp;done)) | assumption | rfl)),(by (first | (simp (maxSteps:=5000000) -dsimp only [gr,reduceEqDiff,reduceLT,reduceAdd,reduceMod,Nat.reduceBEq,zaa,zac,zad,zab,h0c,h1c,h2c,h3c,h11c,h12c,h13c,zae h2 (by omega)];first | done | rfl | (simp;done)) | assumption | rfl)),(by (first | (simp (maxSteps:=5000000) -dsimp only [gr,reduceEqDiff,reduceLT,reduceAdd,reduceMod,Nat.reduceBEq,zaa,zac,zad,zab,h0c,h1c,h2c,h3c,h11c,h12c,h13c,zae h2 (by omega)];first | done | rfl | (simp;done)) | assumption | rfl)),⟨by omega,?_⟩⟩ (by first | omega | (simp only;omega) | (dsimp only;omega) | (show _ < _;simp;omega))⟩
   have e:(zfd p a c M1 i).set i (prt (zf8 p a c M1 i) old2 (t + 1)) = ((zfd p a c M1 i).set i (prt (zf8 p a c M1 i) old2 t)).set i ((prt (zf8 p a c M1 i) old2 t).set t ((old2.getD t 0 - f * piv.getD t 0) % p)):=by
    rw [zm5,← zfQ hnew h2,← zc0 p f (piv:=piv) h2,hcI]
   rw [e]
   refine ht3.set (by omega) (by simp (maxSteps:=5000000) -dsimp only [gr,reduceEqDiff,reduceLT,reduceAdd,reduceMod,Nat.reduceBEq,zaa,zac,zad,zab,h0c,h1c,h2c,h3c,h11c,h12c,h13c]) ?_ (fun x hx=>?_)
   ·rw [hq i h];simp (maxSteps:=5000000) -dsimp only [gr,reduceEqDiff,reduceLT,reduceAdd,reduceMod,Nat.reduceBEq,zaa,zac,zad,zab,h0c,h1c,h2c,h3c,h11c,h12c,h13c]
   ·rw [hq i h] at hx
    simp (maxSteps:=5000000) -dsimp only [gr,reduceEqDiff,reduceLT,reduceAdd,reduceMod,Nat.reduceBEq,zaa,zac,zad,zab,h0c,h1c,h2c,h3c,h11c,h12c,h13c,hx]
  ·have hia:i = a:=by
    have h9:(i:Int) = a:=by simpa using heq
    omega
   have hcI:zf8 p a c M1 i = old2:=by unfold zf8;rw [if_pos hia,hold2]
   have ht4:=ht3
   rw [hcI,zBr,← hcI,zeD p a c hi1] at ht4
   exact zah (i + 1) (by refine ⟨?_,?_,?_,?_,?_,⟨by omega,ht4.same (by simp (maxSteps:=5000000) -dsimp only [gr,reduceEqDiff,reduceLT,reduceAdd,reduceMod,Nat.reduceBEq,zaa,zac,zad,zab]) (fun x=>by simp (maxSteps:=5000000) -dsimp only [gr,reduceEqDiff,reduceLT,reduceAdd,reduceMod,Nat.reduceBEq,zaa,zac,zad,zab])⟩⟩ <;> (first | (simp (maxSteps:=5000000) -dsimp only [gr,reduceEqDiff,reduceLT,reduceAdd,reduceMod,Nat.reduceBEq,zaa,zac,zad,zab,h0b,h1b,h2b,h3b,h11b,h0c,h1c,h2c,h3c,h11c,h12c,h13c,zae h (by omega)];first | done | rfl | (simp;done)) | assumption | rfl)) (by first | omega | (simp only;omega) | (dsimp only;omega) | (show _ < _;simp;omega))
  ·have:t = old2.length:=by omega
   have ht4:=ht3
   rw [this,zfP hnew,zeD p a c hi1] at ht4
   exact zah (i + 1) (by refine ⟨?_,?_,?_,?_,?_,⟨by omega,ht4.same (by simp (maxSteps:=5000000) -dsimp only [gr,reduceEqDiff,reduceLT,reduceAdd,reduceMod,Nat.reduceBEq,zaa,zac,zad,zab]) (fun x=>by simp (maxSteps:=5000000) -dsimp only [gr,reduceEqDiff,reduceLT,reduceAdd,reduceMod,Nat.reduceBEq,zaa,zac,zad,zab])⟩⟩ <;> (first | (simp (maxSteps:=5000000) -dsimp only [gr,reduceEqDiff,reduceLT,reduceAdd,reduceMod,Nat.reduceBEq,zaa,zac,zad,zab,h0b,h1b,h2b,h3b,h11b,h0c,h1c,h2c,h3c,h11c,h12c,h13c,zae h (by omega)];first | done | rfl | (simp;done)) | assumption | rfl)) (by first | omega | (simp only;omega) | (dsimp only;omega) | (show _ < _;simp;omega))
 ·have:i = M.length:=by omega
  rw [this] at ht2
  exact zkG (ht2.same (by simp (maxSteps:=5000000) -dsimp only [gr,reduceEqDiff,reduceLT,reduceAdd,reduceMod,Nat.reduceBEq,zaa,zac,zad,zab]) (fun x=>by simp (maxSteps:=5000000) -dsimp only [gr,reduceEqDiff,reduceLT,reduceAdd,reduceMod,Nat.reduceBEq,zaa,zac,zad,zab])) (List.Perm.refl _)
theorem zHM (q:List Nat) {a b:Nat} (ha:a < q.length) (hb:b < q.length):((q.set a (q.getD b 0)).set b (q.getD a 0)).getD a 0 = q.getD b 0:=by
 by_cases h:b = a
 ·subst h;simp [List.getD,ha]
 ·simp only [List.getD]
  rw [List.getElem?_set_ne h,List.getElem?_set_self ha];rfl
theorem zHN {M:Mat} {a b:Nat} (ha:a < M.length):(swp M a b).getD a [] = M.getD b []:=by
 unfold swp
 by_cases h:b = a
 ·subst h;rw [zaD (by simpa using ha)]
 ·rw [zba h,zaD ha]
theorem zg2 {M:Mat} {col a m:Nat} (h:a < m):za3 M col a (m - a) = if (M.getD a []).getD col 0 = 0 then za3 M col (a + 1) (m - (a + 1)) else a:=by
 have e:m - a = (m - (a + 1)) + 1:=by omega
 rw [e,za3]
theorem zuW {p:Int} {M:Mat} {piv:List Nat} {col n:Nat} (h:col < n) (h2:piv.length < M.length):zfR p M piv col (n - col) = zfR p (zbg p M col piv).1 (zbg p M col piv).2 (col + 1) (n - (col + 1)):=by
 have e:n - col = (n - (col + 1)) + 1:=by omega
 rw [e,zfR,if_pos h2]
theorem zqR {p:Int} {a c i:Nat} {M:Mat} (h:Res p (M.getD i [])) (hz:i = a ∨ (M.getD i []).getD c 0 = 0):zf8 p a c M i = M.getD i []:=by
 unfold zf8
 split
 ·rfl
 ·rename_i hne
  rw [hz.resolve_left hne,zAD h]
theorem zD7 {p x f y:Int} (hp:0 < p):(x + (p - f) * y) % p = (x - f * y) % p:=by
 have e:x + (p - f) * y = (x - f * y) + p * y:=by rw [Int.sub_mul];omega
 rw [e,Int.add_mul_emod_self_left]
theorem ziy (M:Mat) (n:Nat) (p:Int) (hp:isP p = true) (hM:MatOk p n M) (hm:M.length ≤ 900) (hn:n ≤ 1000):AT Try.prog 190 [.own 1000000 1,int n,int p] 22 3 (M.map iL) ((zfR p M [] 0 n).1.map iL) (.rv (.fr 3 1 (iL (ofN (zfR p M [] 0 n).2)))):=by
 refine AT.goI (rs:=[.tmp 6]) zbc zax Try.func190 rfl rfl rfl (by kernel_rfl) (zrm p n M [] 0) fun hl s hs hlow ht=>?_
 have hp2:=zbU hp
 simp (maxSteps:=5000000) -dsimp only [↓gp,gq,reduceCtorEq,reduceEqDiff,reduceLT,reduceLeDiff,reduceAdd,reduceMul,reduceSub,Nat.reduceBEq,Int.reduceToNat,Int.reduceLE,Int.reduceLT,Int.reduceNeg,reduceMod,zac,zad,zab,zaa,gT,TK.isInt,TK.agg,Array.toList,hs,hlow]
 refine zar (fun (za:Mat × List Nat × Nat × List Nat × Nat) s=>match za with | (cur,piv,col,q,v)=>s.sl 0 = .own 1000000 1∧s.sl 1 = int n∧s.sl 2 = int p∧s.sl 7 = .own 7 v∧s.rw 7 = ⟨v,.sli 3 1 false (iL (ofN piv))⟩∧s.sl 8 = int col∧(col ≤ n∧MatOk p n cur∧cur.length = M.length∧piv.length ≤ M.length∧TabI s.rw 1000000 1 22 3 q cur∧q.Perm (List.range M.length)∧zfR p M [] 0 n = zfR p cur piv col (n - col))) (fun (cur,piv,col,q,v)=>n - col) ((M,[],0,List.range M.length,1)) (by refine ⟨?_,?_,?_,?_,?_,?_,⟨by omega,hM,rfl,by simp,ht.same (by simp (maxSteps:=5000000) -dsimp only [gr,reduceEqDiff,reduceLT,reduceAdd,reduceMod,Nat.reduceBEq,zaa,zac,zad,zab]) (fun x=>by simp (maxSteps:=5000000) -dsimp only [gr,reduceEqDiff,reduceLT,reduceAdd,reduceMod,Nat.reduceBEq,zaa,zac,zad,zab]),List.Perm.refl _,rfl⟩⟩ <;> (first | (simp (maxSteps:=5000000) -dsimp only [gr,reduceEqDiff,reduceLT,reduceAdd,reduceMod,Nat.reduceBEq,zaa,zac,zad,zab,hs,hlow];first | done | rfl | (simp;done)) | assumption | rfl)) ?_
 intro (cur,piv,col,q,v) sa ⟨h0a,h1a,h2a,h7a,r7a,h8a,hIa⟩
 obtain ⟨hcol,hcur,hlc,hpl,htc,hperm,hred⟩:=hIa
 have hlq:q.length = cur.length:=htc.len
 simp (maxSteps:=5000000) -dsimp only [↓gp,gq,reduceCtorEq,reduceEqDiff,reduceLT,reduceLeDiff,reduceAdd,reduceMul,reduceSub,Nat.reduceBEq,Int.reduceToNat,Int.reduceLE,Int.reduceLT,Int.reduceNeg,reduceMod,zac,zad,zab,zaa,gT,TK.isInt,TK.agg,Array.toList,h0a,h1a,h2a,h7a,r7a,h8a,htc.top,hlq,zao]
 refine ⟨fun h1=>⟨fun h2=>?_,fun h2=>?_⟩,fun h1=>?_⟩
 ·have h1:col < n:=by omega
  have h2:piv.length < cur.length:=by omega
  rw [zuW h1 h2] at hred
  refine zar (fun (a:Nat) s=>s.sl 0 = .own 1000000 1∧s.sl 1 = int n∧s.sl 2 = int p∧s.sl 7 = .own 7 v∧s.rw 7 = ⟨v,.sli 3 1 false (iL (ofN piv))⟩∧s.sl 8 = int col∧s.sl 9 = int piv.length∧s.sl 10 = int a∧(piv.length ≤ a∧a ≤ cur.length∧za3 cur col piv.length (cur.length - piv.length) = za3 cur col a (cur.length - a)∧TabI s.rw 1000000 1 22 3 q cur)) (fun a=>cur.length - a) (piv.length) (by refine ⟨?_,?_,?_,?_,?_,?_,?_,?_,⟨by omega,by omega,rfl,htc.same (by simp (maxSteps:=5000000) -dsimp only [gr,reduceEqDiff,reduceLT,reduceAdd,reduceMod,Nat.reduceBEq,zaa,zac,zad,zab]) (fun x=>by simp (maxSteps:=5000000) -dsimp only [gr,reduceEqDiff,reduceLT,reduceAdd,reduceMod,Nat.reduceBEq,zaa,zac,zad,zab])⟩⟩ <;> (first | (simp (maxSteps:=5000000) -dsimp only [gr,reduceEqDiff,reduceLT,reduceAdd,reduceMod,Nat.reduceBEq,zaa,zac,zad,zab,h0a,h1a,h2a,h7a,r7a,h8a];first | done | rfl | (simp;done)) | assumption | rfl)) ?_
  intro a sb ⟨h0b,h1b,h2b,h7b,r7b,h8b,h9b,h10b,hIb⟩
  obtain ⟨ha1,ha2,hfind,htb⟩:=hIb
  have stop:(¬ a < cur.length ∨ ¬ (cur.getD a []).getD col 0 = 0)→za3 cur col piv.length (cur.length - piv.length) = a:=fun h=>by
   rw [hfind]
   by_cases hlt:a < cur.length
   ·rw [zg2 hlt,if_neg (h.resolve_left (by omega))]
   ·rw [show cur.length - a = 0 by omega];rfl
  simp (maxSteps:=5000000) -dsimp only [↓gp,gq,reduceCtorEq,reduceEqDiff,reduceLT,reduceLeDiff,reduceAdd,reduceMul,reduceSub,Nat.reduceBEq,Int.reduceToNat,Int.reduceLE,Int.reduceLT,Int.reduceNeg,reduceMod,zac,zad,zab,zaa,gT,TK.isInt,TK.agg,Array.toList,h0b,h1b,h2b,h7b,r7b,h8b,h9b,h10b,htb.top,hlq]
  refine ⟨fun h3=>?_,fun h3=>?_⟩
  ·have hra:=htb.row h3
   have hlen:=hcur.len a h3
   simp (maxSteps:=5000000) -dsimp only [↓gp,gq,reduceCtorEq,reduceEqDiff,reduceLT,reduceLeDiff,reduceAdd,reduceMul,reduceSub,Nat.reduceBEq,Int.reduceToNat,Int.reduceLE,Int.reduceLT,Int.reduceNeg,reduceMod,zac,zad,zab,zaa,gT,TK.isInt,TK.agg,Array.toList,h0b,h1b,h2b,h7b,r7b,h8b,h9b,h10b,htb.top,hlq,hra]
   refine ⟨h3,h3,by omega,by omega,fun hz=>?_,fun hz=>?_⟩
   ·have hz:=beq_iff_eq.1 hz
    rw [zg2 h3,if_pos hz] at hfind
    exact zah (a + 1) (by refine ⟨?_,?_,?_,?_,?_,?_,?_,?_,⟨by omega,by omega,hfind,htb.same (by simp (maxSteps:=5000000) -dsimp only [gr,reduceEqDiff,reduceLT,reduceAdd,reduceMod,Nat.reduceBEq,zaa,zac,zad,zab]) (fun x=>by simp (maxSteps:=5000000) -dsimp only [gr,reduceEqDiff,reduceLT,reduceAdd,reduceMod,Nat.reduceBEq,zaa,zac,zad,zab])⟩⟩ <;> (first | (simp (maxSteps:=5000000) -dsimp only [gr,reduceEqDiff,reduceLT,reduceAdd,reduceMod,Nat.reduceBEq,zaa,zac,zad,zab,h0b,h1b,h2b,h7b,r7b,h8b,h9b,h10b,zae h3 (by omega)];first | done | rfl | (simp;done)) | assumption | rfl)) (by first | omega | (simp only;omega) | (dsimp only;omega) | (show _ < _;simp;omega))
   ·have hz:¬ (cur.getD a []).getD col 0 = 0:=by simpa using hz
    have hfa:=stop (.inr hz)
    have hne:((a:Int) == (cur.length:Int)) = false:=by simp;omega
    have hst:zbg p cur col piv = (zdb p piv.length col (swp cur piv.length a),piv ++ [col]):=by unfold zbg;rw [hfa,if_neg (by omega)]
    rw [hst] at hred
    have hda:(q.set piv.length (q.getD a 0)).length = q.length:=by simp
    have hrd:=htb.row h2
    have hsa:=zHM q (a:=piv.length) (b:=a) (by omega) (by omega)
    simp (maxSteps:=5000000) -dsimp only [↓gp,gq,reduceCtorEq,reduceEqDiff,reduceLT,reduceLeDiff,reduceAdd,reduceMul,reduceSub,Nat.reduceBEq,Int.reduceToNat,Int.reduceLE,Int.reduceLT,Int.reduceNeg,reduceMod,zac,zad,zab,zaa,gT,TK.isInt,TK.agg,Array.toList,h0b,h1b,h2b,h7b,r7b,h8b,h9b,h10b,htb.top,hlq,hra,hne,hrd,hsa]
    refine ⟨by kernel_rfl,h3,h3,h2,h2,h2,by omega,h3,by omega,by kernel_rfl,h2,h2,by omega,by omega,?_⟩
    refine zag (zhB _ p hp) ?_
    have hold:=hcur.len a h3
    have hrold:=hcur.res a h3
    generalize hoe:cur.getD a [] = old at *
    have hiv:zjm p (old.getD col 0) = zjm p (old.getD col 0):=rfl
    have hbb:=zwL hp (old.getD col 0)
    generalize hbe:zjm p (old.getD col 0) = b at *
    have hswl:(swp cur piv.length a).length = cur.length:=zb0 _ _ _
    have hswa:(swp cur piv.length a).getD piv.length [] = old:=by rw [zHN h2,hoe]
    have hsw:=zst hcur h2 h3
    simp (maxSteps:=5000000) -dsimp only [↓gp,gq,reduceCtorEq,reduceEqDiff,reduceLT,reduceLeDiff,reduceAdd,reduceMul,reduceSub,Nat.reduceBEq,Int.reduceToNat,Int.reduceLE,Int.reduceLT,Int.reduceNeg,reduceMod,zac,zad,zab,zaa,gT,TK.isInt,TK.agg,Array.toList,h0b,h1b,h2b,h7b,r7b,h8b,h9b,h10b,htb.top,hlq,hra,hne,hrd,hsa]
    refine ⟨h2,h2,?_⟩
    have hlq':((q.set piv.length (q.getD a 0)).set a (q.getD piv.length 0)).length = cur.length:=by simp [hlq]
    have hperm':((q.set piv.length (q.getD a 0)).set a (q.getD piv.length 0)).Perm q:=by
     have e1:q.getD piv.length 0 = q[piv.length]'(by omega):=by simp [List.getD,(by omega:piv.length < q.length)]
     have e2:q.getD a 0 = q[a]'(by omega):=by simp [List.getD,(by omega:a < q.length)]
     rw [e1,e2];exact List.set_set_perm (by omega) (by omega)
    have hclr1:(swp cur piv.length a).set piv.length (scl p b old) = zoi p piv.length col (swp cur piv.length a):=by unfold zoi;rw [hswa,hbe]
    have hcl:zdb p piv.length col (swp cur piv.length a) = zfd p piv.length col (zoi p piv.length col (swp cur piv.length a)) cur.length:=by unfold zdb;rw [hswl]
    refine zar (fun (j:Nat) s=>s.sl 0 = .own 1000000 1∧s.sl 1 = int n∧s.sl 2 = int p∧s.sl 7 = .own 7 v∧s.rw 7 = ⟨v,.sli 3 1 false (iL (ofN piv))⟩∧s.sl 8 = int col∧s.sl 9 = int piv.length∧s.sl 11 = int b∧s.sl 78 = int old.length∧s.sl 79 = int j∧(j ≤ n∧TabI s.rw 1000000 1 22 3 ((q.set piv.length (q.getD a 0)).set a (q.getD piv.length 0)) ((swp cur piv.length a).set piv.length (prt (scl p b old) old j)))) (fun j=>n - j) (0) (by refine ⟨?_,?_,?_,?_,?_,?_,?_,?_,?_,?_,⟨by omega,by rw [zd4,← hswa,zbZ];exact (htb.swap h2 h3 (by simp (maxSteps:=5000000) -dsimp only [gr,reduceEqDiff,reduceLT,reduceAdd,reduceMod,Nat.reduceBEq,zaa,zac,zad,zab,h0b,h1b,h2b,h7b,r7b,h8b,h9b,h10b]) (fun x=>by simp (maxSteps:=5000000) -dsimp only [gr,reduceEqDiff,reduceLT,reduceAdd,reduceMod,Nat.reduceBEq,zaa,zac,zad,zab,h0b,h1b,h2b,h7b,r7b,h8b,h9b,h10b])).1⟩⟩ <;> (first | (simp (maxSteps:=5000000) -dsimp only [gr,reduceEqDiff,reduceLT,reduceAdd,reduceMod,Nat.reduceBEq,zaa,zac,zad,zab,h0b,h1b,h2b,h7b,r7b,h8b,h9b,h10b];first | done | rfl | (simp;done)) | assumption | rfl)) ?_
    intro j sc ⟨h0c,h1c,h2c,h7c,r7c,h8c,h9c,h11c,h78c,h79c,hIc⟩
    obtain ⟨hj,ht1⟩:=hIc
    generalize (q.set piv.length (q.getD a 0)).set a (q.getD piv.length 0) = q' at *
    generalize hSe:swp cur piv.length a = S at *
    have hset:piv.length < (S.set piv.length (prt (scl p b old) old j)).length:=by rw [List.length_set];omega
    have hr1:=ht1.row hset
    rw [zaD (by omega)] at hr1
    have hpl1:(prt (scl p b old) old j).length = n:=by rw [zcx (zbK p b old)];exact hold
    have hpj:=ziH (zbK p b old) (Nat.le_refl j)
    have hoj:=hrold j
    have hmb:=zg3 hoj ⟨hbb.1,by omega⟩ hp2.2
    have hw:IntKind.i64.wrap (old.getD j 0 * b) = old.getD j 0 * b:=zan (by omega) (by omega)
    simp (maxSteps:=5000000) -dsimp only [↓gp,gq,reduceCtorEq,reduceEqDiff,reduceLT,reduceLeDiff,reduceAdd,reduceMul,reduceSub,Nat.reduceBEq,Int.reduceToNat,Int.reduceLE,Int.reduceLT,Int.reduceNeg,reduceMod,zac,zad,zab,zaa,gT,TK.isInt,TK.agg,Array.toList,h0c,h1c,h2c,h7c,r7c,h8c,h9c,h11c,h78c,h79c,ht1.top,hr1,hpl1,hpj,hw,zcz hmb.1,hlq']
    refine ⟨fun h=>⟨by kernel_rfl,h2,h2,h2,h2,by omega,by omega,by omega,by omega,by omega,by kernel_rfl,?_⟩,fun h=>?_⟩
    ·have h:j < n:=by omega
     refine zah (j + 1) ⟨(by (first | (simp (maxSteps:=5000000) -dsimp only [gr,reduceEqDiff,reduceLT,reduceAdd,reduceMod,Nat.reduceBEq,zaa,zac,zad,zab,h0c,h1c,h2c,h7c,r7c,h8c,h9c,h11c,h78c,h79c,zae h (by omega)];first | done | rfl | (simp;done)) | assumption | rfl)),(by (first | (simp (maxSteps:=5000000) -dsimp only [gr,reduceEqDiff,reduceLT,reduceAdd,reduceMod,Nat.reduceBEq,zaa,zac,zad,zab,h0c,h1c,h2c,h7c,r7c,h8c,h9c,h11c,h78c,h79c,zae h (by omega)];first | done | rfl | (simp;done)) | assumption | rfl)),(by (first | (simp (maxSteps:=5000000) -dsimp only [gr,reduceEqDiff,reduceLT,reduceAdd,reduceMod,Nat.reduceBEq,zaa,zac,zad,zab,h0c,h1c,h2c,h7c,r7c,h8c,h9c,h11c,h78c,h79c,zae h (by omega)];first | done | rfl | (simp;done)) | assumption | rfl)),(by (first | (simp (maxSteps:=5000000) -dsimp only [gr,reduceEqDiff,reduceLT,reduceAdd,reduceMod,Nat.reduceBEq,zaa,zac,zad,zab,h0c,h1c,h2c,h7c,r7c,h8c,h9c,h11c,h78c,h79c,zae h (by omega)];first | done | rfl | (simp;done)) | assumption | rfl)),(by (first | (simp (maxSteps:=5000000) -dsimp only [gr,reduceEqDiff,reduceLT,reduceAdd,reduceMod,Nat.reduceBEq,zaa,zac,zad,zab,h0c,h1c,h2c,h7c,r7c,h8c,h9c,h11c,h78c,h79c,zae h (by omega)];first | done | rfl | (simp;done)) | assumption | rfl)),(by (first | (simp (maxSteps:=5000000) -dsimp only [gr,reduceEqDiff,reduceLT,reduceAdd,reduceMod,Nat.reduceBEq,zaa,zac,zad,zab,h0c,h1c,h2c,h7c,r7c,h8c,h9c,h11c,h78c,h79c,zae h (by omega)];first | done | rfl | (simp;done)) | assumption | rfl)),(by (first | (simp (maxSteps:=5000000) -dsimp only [gr,reduceEqDiff,reduceLT,reduceAdd,reduceMod,Nat.reduceBEq,zaa,zac,zad,zab,h0c,h1c,h2c,h7c,r7c,h8c,h9c,h11c,h78c,h79c,zae h (by omega)];first | done | rfl | (simp;done)) | assumption | rfl)),(by (first | (simp (maxSteps:=5000000) -dsimp only [gr,reduceEqDiff,reduceLT,reduceAdd,reduceMod,Nat.reduceBEq,zaa,zac,zad,zab,h0c,h1c,h2c,h7c,r7c,h8c,h9c,h11c,h78c,h79c,zae h (by omega)];first | done | rfl | (simp;done)) | assumption | rfl)),(by (first | (simp (maxSteps:=5000000) -dsimp only [gr,reduceEqDiff,reduceLT,reduceAdd,reduceMod,Nat.reduceBEq,zaa,zac,zad,zab,h0c,h1c,h2c,h7c,r7c,h8c,h9c,h11c,h78c,h79c,zae h (by omega)];first | done | rfl | (simp;done)) | assumption | rfl)),(by (first | (simp (maxSteps:=5000000) -dsimp only [gr,reduceEqDiff,reduceLT,reduceAdd,reduceMod,Nat.reduceBEq,zaa,zac,zad,zab,h0c,h1c,h2c,h7c,r7c,h8c,h9c,h11c,h78c,h79c,zae h (by omega)];first | done | rfl | (simp;done)) | assumption | rfl)),⟨by omega,?_⟩⟩ (by first | omega | (simp only;omega) | (dsimp only;omega) | (show _ < _;simp;omega))
     have e:S.set piv.length (prt (scl p b old) old (j + 1)) = (S.set piv.length (prt (scl p b old) old j)).set piv.length ((prt (scl p b old) old j).set j (old.getD j 0 * b % p)):=by
      rw [zm5,← zfQ (zbK p b old) (by omega),zfc p b (by omega)]
     rw [e]
     exact ht1.set hset (by simp (maxSteps:=5000000) -dsimp only [gr,reduceEqDiff,reduceLT,reduceAdd,reduceMod,Nat.reduceBEq,zaa,zac,zad,zab,h0c,h1c,h2c,h7c,r7c,h8c,h9c,h11c,h78c,h79c]) (by simp (maxSteps:=5000000) -dsimp only [gr,reduceEqDiff,reduceLT,reduceAdd,reduceMod,Nat.reduceBEq,zaa,zac,zad,zab,h0c,h1c,h2c,h7c,r7c,h8c,h9c,h11c,h78c,h79c]) (fun x hx=>by simp (maxSteps:=5000000) -dsimp only [gr,reduceEqDiff,reduceLT,reduceAdd,reduceMod,Nat.reduceBEq,zaa,zac,zad,zab,h0c,h1c,h2c,h7c,r7c,h8c,h9c,h11c,h78c,h79c,hx])
    have:j = old.length:=by omega
    rw [this,zfP (zbK p b old),hclr1] at ht1
    have hM1:=zrl (p:=p) (n:=n) (at':=piv.length) (col:=col) (by omega) hsw (by omega)
    have hl1:(zoi p piv.length col S).length = cur.length:=by rw [zcy,hswl]
    rw [hcl] at hred
    generalize zoi p piv.length col S = M1 at *
    refine zar (fun (i:Nat) s=>s.sl 0 = .own 1000000 1∧s.sl 1 = int n∧s.sl 2 = int p∧s.sl 7 = .own 7 v∧s.rw 7 = ⟨v,.sli 3 1 false (iL (ofN piv))⟩∧s.sl 8 = int col∧s.sl 9 = int piv.length∧s.sl 101 = int cur.length∧s.sl 102 = int i∧(i ≤ cur.length∧TabI s.rw 1000000 1 22 3 q' (zfd p piv.length col M1 i))) (fun i=>cur.length - i) (0) (by refine ⟨?_,?_,?_,?_,?_,?_,?_,?_,?_,⟨by omega,by rw [zoj];exact ht1.same (by simp (maxSteps:=5000000) -dsimp only [gr,reduceEqDiff,reduceLT,reduceAdd,reduceMod,Nat.reduceBEq,zaa,zac,zad,zab]) (fun x=>by simp (maxSteps:=5000000) -dsimp only [gr,reduceEqDiff,reduceLT,reduceAdd,reduceMod,Nat.reduceBEq,zaa,zac,zad,zab])⟩⟩ <;> (first | (simp (maxSteps:=5000000) -dsimp only [gr,reduceEqDiff,reduceLT,reduceAdd,reduceMod,Nat.reduceBEq,zaa,zac,zad,zab,h0c,h1c,h2c,h7c,r7c,h8c,h9c,h11c,h78c,h79c];first | done | rfl | (simp;done)) | assumption | rfl)) ?_
    intro i sd ⟨h0d,h1d,h2d,h7d,r7d,h8d,h9d,h101d,h102d,hId⟩
    obtain ⟨hi,ht2⟩:=hId
    have hlN:(zfd p piv.length col M1 i).length = cur.length:=by rw [zbA,hl1]
    simp (maxSteps:=5000000) -dsimp only [↓gp,gq,reduceCtorEq,reduceEqDiff,reduceLT,reduceLeDiff,reduceAdd,reduceMul,reduceSub,Nat.reduceBEq,Int.reduceToNat,Int.reduceLE,Int.reduceLT,Int.reduceNeg,reduceMod,zac,zad,zab,zaa,gT,TK.isInt,TK.agg,Array.toList,h0d,h1d,h2d,h7d,r7d,h8d,h9d,h101d,h102d,ht2.top,hlq']
    refine ⟨fun h=>⟨fun he=>?_,fun he=>?_⟩,fun h=>?_⟩
    ·have hid:¬ i = piv.length:=by
      intro e
      simp [e] at he
     have hi1:i < M1.length:=by omega
     have hr2:=ht2.row (i:=i) (by omega)
     rw [zhd p piv.length col hi1 (Nat.le_refl i)] at hr2
     have hl2:=hM1.len i hi1
     have hres2:=hM1.res i hi1
     have hnewl:(zf8 p piv.length col M1 i).length = (M1.getD i []).length:=by rw [(zm6 (p:=p) (by omega) hM1 hi1).1,hl2]
     simp (maxSteps:=5000000) -dsimp only [↓gp,gq,reduceCtorEq,reduceEqDiff,reduceLT,reduceLeDiff,reduceAdd,reduceMul,reduceSub,Nat.reduceBEq,Int.reduceToNat,Int.reduceLE,Int.reduceLT,Int.reduceNeg,reduceMod,zac,zad,zab,zaa,gT,TK.isInt,TK.agg,Array.toList,h0d,h1d,h2d,h7d,r7d,h8d,h9d,h101d,h102d,ht2.top,hlq',hr2]
     refine ⟨h,h,by omega,by omega,fun hz=>?_,fun hz=>?_⟩
     ·have hz:(M1.getD i []).getD col 0 = 0:=beq_iff_eq.1 hz
      have ht4:=ht2
      have hcI:=zqR (p:=p) (a:=piv.length) (c:=col) hres2 (.inr hz)
      have hset2:(zfd p piv.length col M1 i).set i (M1.getD i []) = zfd p piv.length col M1 i:=by rw [← zhd p piv.length col hi1 (Nat.le_refl i),zbZ]
      rw [← hset2,← hcI,zeD p piv.length col hi1] at ht4
      exact zah (i + 1) (by refine ⟨?_,?_,?_,?_,?_,?_,?_,?_,?_,⟨by omega,ht4.same (by simp (maxSteps:=5000000) -dsimp only [gr,reduceEqDiff,reduceLT,reduceAdd,reduceMod,Nat.reduceBEq,zaa,zac,zad,zab]) (fun x=>by simp (maxSteps:=5000000) -dsimp only [gr,reduceEqDiff,reduceLT,reduceAdd,reduceMod,Nat.reduceBEq,zaa,zac,zad,zab])⟩⟩ <;> (first | (simp (maxSteps:=5000000) -dsimp only [gr,reduceEqDiff,reduceLT,reduceAdd,reduceMod,Nat.reduceBEq,zaa,zac,zad,zab,h0d,h1d,h2d,h7d,r7d,h8d,h9d,h101d,h102d,zae h (by omega)];first | done | rfl | (simp;done)) | assumption | rfl)) (by first | omega | (simp only;omega) | (dsimp only;omega) | (show _ < _;simp;omega))
     ·have hz:¬ (M1.getD i []).getD col 0 = 0:=by simpa using hz
      have hcI:zf8 p piv.length col M1 i = sbt p ((M1.getD i []).getD col 0) (M1.getD piv.length []) (M1.getD i []):=by unfold zf8;rw [if_neg hid]
      have hfb:=hres2 col
      have hset2:(zfd p piv.length col M1 i).set i (M1.getD i []) = zfd p piv.length col M1 i:=by rw [← zhd p piv.length col hi1 (Nat.le_refl i),zbZ]
      generalize M1.getD i [] = old2 at *
      generalize old2.getD col 0 = f at *
      have hwg:IntKind.i64.wrap (p - f) = p - f:=zan (by omega) (by omega)
      simp (maxSteps:=5000000) -dsimp only [↓gp,gq,reduceCtorEq,reduceEqDiff,reduceLT,reduceLeDiff,reduceAdd,reduceMul,reduceSub,Nat.reduceBEq,Int.reduceToNat,Int.reduceLE,Int.reduceLT,Int.reduceNeg,reduceMod,zac,zad,zab,zaa,gT,TK.isInt,TK.agg,Array.toList,h0d,h1d,h2d,h7d,r7d,h8d,h9d,h101d,h102d,ht2.top,hlq',hr2,hwg]
      refine ⟨h,h,by omega,by omega,h,h,?_⟩
      refine zar (fun (t:Nat) s=>s.sl 0 = .own 1000000 1∧s.sl 1 = int n∧s.sl 2 = int p∧s.sl 7 = .own 7 v∧s.rw 7 = ⟨v,.sli 3 1 false (iL (ofN piv))⟩∧s.sl 8 = int col∧s.sl 9 = int piv.length∧s.sl 101 = int cur.length∧s.sl 102 = int i∧s.sl 13 = int i∧s.sl 14 = int (p - f)∧s.sl 131 = int old2.length∧s.sl 132 = int t∧(t ≤ old2.length∧TabI s.rw 1000000 1 22 3 q' ((zfd p piv.length col M1 i).set i (prt (zf8 p piv.length col M1 i) old2 t)))) (fun t=>old2.length - t) (0) (by refine ⟨?_,?_,?_,?_,?_,?_,?_,?_,?_,?_,?_,?_,?_,⟨by omega,by rw [zd4,hset2];exact ht2.same (by simp (maxSteps:=5000000) -dsimp only [gr,reduceEqDiff,reduceLT,reduceAdd,reduceMod,Nat.reduceBEq,zaa,zac,zad,zab]) (fun x=>by simp (maxSteps:=5000000) -dsimp only [gr,reduceEqDiff,reduceLT,reduceAdd,reduceMod,Nat.reduceBEq,zaa,zac,zad,zab])⟩⟩ <;> (first | (simp (maxSteps:=5000000) -dsimp only [gr,reduceEqDiff,reduceLT,reduceAdd,reduceMod,Nat.reduceBEq,zaa,zac,zad,zab,h0d,h1d,h2d,h7d,r7d,h8d,h9d,h101d,h102d,hwg];first | done | rfl | (simp;done)) | assumption | rfl)) ?_
      intro t se ⟨h0e,h1e,h2e,h7e,r7e,h8e,h9e,h101e,h102e,h13e,h14e,h131e,h132e,hIe⟩
      obtain ⟨ht',ht3⟩:=hIe
      have hls:((zfd p piv.length col M1 i).set i (prt (zf8 p piv.length col M1 i) old2 t)).length = cur.length:=by rw [List.length_set,hlN]
      have hr3:=ht3.row (i:=i) (by omega)
      rw [zaD (by omega)] at hr3
      have hpl3:(prt (zf8 p piv.length col M1 i) old2 t).length = old2.length:=zcx hnewl t
      have hpj3:=ziH hnewl (Nat.le_refl t)
      have hra1:piv.length < M1.length:=by omega
      have hr4:=ht3.row (i:=piv.length) (by omega)
      rw [zba hid,zwN p piv.length col i hra1] at hr4
      have hla:=hM1.len piv.length hra1
      have hresa:=hM1.res piv.length hra1
      generalize M1.getD piv.length [] = pr at *
      have hft:=zg3 (show 0 ≤ p - f∧p - f < p by omega) ⟨(hresa t).1,by have:=(hresa t).2;omega⟩ hp2.2
      have hot:=hres2 t
      have hw3:IntKind.i64.wrap ((p - f) * pr.getD t 0) = (p - f) * pr.getD t 0:=zan (by omega) (by omega)
      have hw4:IntKind.i64.wrap (old2.getD t 0 + (p - f) * pr.getD t 0) = old2.getD t 0 + (p - f) * pr.getD t 0:=zan (by omega) (by omega)
      have hmod:(old2.getD t 0 + (p - f) * pr.getD t 0).tmod p = (old2.getD t 0 - f * pr.getD t 0) % p:=by rw [zcz (by omega),zD7 (by omega)]
      simp (maxSteps:=5000000) -dsimp only [↓gp,gq,reduceCtorEq,reduceEqDiff,reduceLT,reduceLeDiff,reduceAdd,reduceMul,reduceSub,Nat.reduceBEq,Int.reduceToNat,Int.reduceLE,Int.reduceLT,Int.reduceNeg,reduceMod,zac,zad,zab,zaa,gT,TK.isInt,TK.agg,Array.toList,h0e,h1e,h2e,h7e,r7e,h8e,h9e,h101e,h102e,h13e,h14e,h131e,h132e,ht3.top,hlq',hr3,hr4,hpl3,hpj3,hw3,hw4,hmod]
      refine ⟨fun h2'=>⟨by kernel_rfl,h,h,h,h,h2',h2',h2,h2,by omega,by omega,by omega,h2',by omega,by kernel_rfl,?_⟩,fun h2'=>?_⟩
      ·refine zah (t + 1) ⟨(by (first | (simp (maxSteps:=5000000) -dsimp only [gr,reduceEqDiff,reduceLT,reduceAdd,reduceMod,Nat.reduceBEq,zaa,zac,zad,zab,h0e,h1e,h2e,h7e,r7e,h8e,h9e,h101e,h102e,h13e,h14e,h131e,h132e,zae h2' (by omega)];first | done | rfl | (simp;done)) | assumption | rfl)),(by (first | (simp (maxSteps:=5000000) -dsimp only [gr,reduceEqDiff,reduceLT,reduceAdd,reduceMod,Nat.reduceBEq,zaa,zac,zad,zab,h0e,h1e,h2e,h7e,r7e,h8e,h9e,h101e,h102e,h13e,h14e,h131e,h132e,zae h2' (by omega)];first | done | rfl | (simp;done)) | assumption | rfl)),(by (first | (simp (maxSteps:=5000000) -dsimp only [gr,reduceEqDiff,reduceLT,reduceAdd,reduceMod,Nat.reduceBEq,zaa,zac,zad,zab,h0e,h1e,h2e,h7e,r7e,h8e,h9e,h101e,h102e,h13e,h14e,h131e,h132e,zae h2' (by omega)];first | done | rfl | (simp;done)) | assumption | rfl)),(by (first | (simp (maxSteps:=5000000) -dsimp only [gr,reduceEqDiff,reduceLT,reduceAdd,reduceMod,Nat.reduceBEq,zaa,zac,zad,zab,h0e,h1e,h2e,h7e,r7e,h8e,h9e,h101e,h102e,h13e,h14e,h131e,h132e,zae h2' (by omega)];first | done | rfl | (simp;done)) | assumption | rfl)),(by (first | (simp (maxSteps:=5000000) -dsimp only [gr,reduceEqDiff,reduceLT,reduceAdd,reduceMod,Nat.reduceBEq,zaa,zac,zad,zab,h0e,h1e,h2e,h7e,r7e,h8e,h9e,h101e,h102e,h13e,h14e,h131e,h132e,zae h2' (by omega)];first | done | rfl | (simp;done)) | assumption | rfl)),(by (first | (simp (maxSteps:=5000000) -dsimp only [gr,reduceEqDiff,reduceLT,reduceAdd,reduceMod,Nat.reduceBEq,zaa,zac,zad,zab,h0e,h1e,h2e,h7e,r7e,h8e,h9e,h101e,h102e,h13e,h14e,h131e,h132e,zae h2' (by omega)];first | done | rfl | (simp;done)) | assumption | rfl)),(by (first | (simp (maxSteps:=5000000) -dsimp only [gr,reduceEqDiff,reduceLT,reduceAdd,reduceMod,Nat.reduceBEq,zaa,zac,zad,zab,h0e,h1e,h2e,h7e,r7e,h8e,h9e,h101e,h102e,h13e,h14e,h131e,h132e,zae h2' (by omega)];first | done | rfl | (simp;done)) | assumption | rfl)),(by (first | (simp (maxSteps:=5000000) -dsimp only [gr,reduceEqDiff,reduceLT,reduceAdd,reduceMod,Nat.reduceBEq,zaa,zac,zad,zab,h0e,h1e,h2e,h7e,r7e,h8e,h9e,h101e,h102e,h13e,h14e,h131e,h132e,zae h2' (by omega)];first | done | rfl | (simp;done)) | assumption | rfl)),(by (first | (simp (maxSteps:=5000000) -dsimp only [gr,reduceEqDiff,reduceLT,reduceAdd,reduceMod,Nat.reduceBEq,zaa,zac,zad,zab,h0e,h1e,h2e,h7e,r7e,h8e,h9e,h101e,h102e,h13e,h14e,h131e,h132e,zae h2' (by omega)];first | done | rfl | (simp;done)) | assumption | rfl)),(by (first | (simp (maxSteps:=5000000) -dsimp only [gr,reduceEqDiff,reduceLT,reduceAdd,reduceMod,Nat.reduceBEq,zaa,zac,zad,zab,h0e,h1e,h2e,h7e,r7e,h8e,h9e,h101e,h102e,h13e,h14e,h131e,h132e,zae h2' (by omega)];first | done | rfl | (simp;done)) | assumption | rfl)),(by (first | (simp (maxSteps:=5000000) -dsimp only [gr,reduceEqDiff,reduceLT,reduceAdd,reduceMod,Nat.reduceBEq,zaa,zac,zad,zab,h0e,h1e,h2e,h7e,r7e,h8e,h9e,h101e,h102e,h13e,h14e,h131e,h132e,zae h2' (by omega)];first | done | rfl | (simp;done)) | assumption | rfl)),(by (first | (simp (maxSteps:=5000000) -dsimp only [gr,reduceEqDiff,reduceLT,reduceAdd,reduceMod,Nat.reduceBEq,zaa,zac,zad,zab,h0e,h1e,h2e,h7e,r7e,h8e,h9e,h101e,h102e,h13e,h14e,h131e,h132e,zae h2' (by omega)];first | done | rfl | (simp;done)) | assumption | rfl)),(by (first | (simp (maxSteps:=5000000) -dsimp only [gr,reduceEqDiff,reduceLT,reduceAdd,reduceMod,Nat.reduceBEq,zaa,zac,zad,zab,h0e,h1e,h2e,h7e,r7e,h8e,h9e,h101e,h102e,h13e,h14e,h131e,h132e,zae h2' (by omega)];first | done | rfl | (simp;done)) | assumption | rfl)),⟨by omega,?_⟩⟩ (by first | omega | (simp only;omega) | (dsimp only;omega) | (show _ < _;simp;omega))
       have e:(zfd p piv.length col M1 i).set i (prt (zf8 p piv.length col M1 i) old2 (t + 1)) = ((zfd p piv.length col M1 i).set i (prt (zf8 p piv.length col M1 i) old2 t)).set i ((prt (zf8 p piv.length col M1 i) old2 t).set t ((old2.getD t 0 - f * pr.getD t 0) % p)):=by
        rw [zm5,← zfQ hnewl h2',← zc0 p f (piv:=pr) h2',hcI]
       rw [e]
       exact ht3.set (by omega) (by simp (maxSteps:=5000000) -dsimp only [gr,reduceEqDiff,reduceLT,reduceAdd,reduceMod,Nat.reduceBEq,zaa,zac,zad,zab,h0e,h1e,h2e,h7e,r7e,h8e,h9e,h101e,h102e,h13e,h14e,h131e,h132e]) (by simp (maxSteps:=5000000) -dsimp only [gr,reduceEqDiff,reduceLT,reduceAdd,reduceMod,Nat.reduceBEq,zaa,zac,zad,zab,h0e,h1e,h2e,h7e,r7e,h8e,h9e,h101e,h102e,h13e,h14e,h131e,h132e]) (fun x hx=>by simp (maxSteps:=5000000) -dsimp only [gr,reduceEqDiff,reduceLT,reduceAdd,reduceMod,Nat.reduceBEq,zaa,zac,zad,zab,h0e,h1e,h2e,h7e,r7e,h8e,h9e,h101e,h102e,h13e,h14e,h131e,h132e,hx])
      ·have:t = old2.length:=by omega
       have ht4:=ht3
       rw [this,zfP hnewl,zeD p piv.length col hi1] at ht4
       exact zah (i + 1) (by refine ⟨?_,?_,?_,?_,?_,?_,?_,?_,?_,⟨by omega,ht4.same (by simp (maxSteps:=5000000) -dsimp only [gr,reduceEqDiff,reduceLT,reduceAdd,reduceMod,Nat.reduceBEq,zaa,zac,zad,zab]) (fun x=>by simp (maxSteps:=5000000) -dsimp only [gr,reduceEqDiff,reduceLT,reduceAdd,reduceMod,Nat.reduceBEq,zaa,zac,zad,zab])⟩⟩ <;> (first | (simp (maxSteps:=5000000) -dsimp only [gr,reduceEqDiff,reduceLT,reduceAdd,reduceMod,Nat.reduceBEq,zaa,zac,zad,zab,h0d,h1d,h2d,h7d,r7d,h8d,h9d,h101d,h102d,h0e,h1e,h2e,h7e,r7e,h8e,h9e,h101e,h102e,h13e,h14e,h131e,h132e,zae h (by omega)];first | done | rfl | (simp;done)) | assumption | rfl)) (by first | omega | (simp only;omega) | (dsimp only;omega) | (show _ < _;simp;omega))
    ·have hid:i = piv.length:=by
      have h9:(i:Int) = piv.length:=by simpa using he
      omega
     have hi1:i < M1.length:=by omega
     have ht4:=ht2
     have hcI:=zqR (p:=p) (a:=piv.length) (c:=col) (hM1.res i hi1) (.inl hid)
     have hset2:(zfd p piv.length col M1 i).set i (M1.getD i []) = zfd p piv.length col M1 i:=by rw [← zhd p piv.length col hi1 (Nat.le_refl i),zbZ]
     rw [← hset2,← hcI,zeD p piv.length col hi1] at ht4
     exact zah (i + 1) (by refine ⟨?_,?_,?_,?_,?_,?_,?_,?_,?_,⟨by omega,ht4.same (by simp (maxSteps:=5000000) -dsimp only [gr,reduceEqDiff,reduceLT,reduceAdd,reduceMod,Nat.reduceBEq,zaa,zac,zad,zab]) (fun x=>by simp (maxSteps:=5000000) -dsimp only [gr,reduceEqDiff,reduceLT,reduceAdd,reduceMod,Nat.reduceBEq,zaa,zac,zad,zab])⟩⟩ <;> (first | (simp (maxSteps:=5000000) -dsimp only [gr,reduceEqDiff,reduceLT,reduceAdd,reduceMod,Nat.reduceBEq,zaa,zac,zad,zab,h0d,h1d,h2d,h7d,r7d,h8d,h9d,h101d,h102d,zae h (by omega)];first | done | rfl | (simp;done)) | assumption | rfl)) (by first | omega | (simp only;omega) | (dsimp only;omega) | (show _ < _;simp;omega))
    ·have:i = cur.length:=by omega
     rw [this] at ht2
     refine ⟨by rw [zao];omega,?_⟩
     exact zah ((zfd p piv.length col M1 cur.length,piv ++ [col],col + 1,q',v + 1)) (by refine ⟨?_,?_,?_,?_,?_,?_,⟨by dsimp only;omega,zwO (by omega) hM1,by dsimp only;rw [zbA,hl1,hlc],by simp;omega,ht2.same (by simp (maxSteps:=5000000) -dsimp only [gr,reduceEqDiff,reduceLT,reduceAdd,reduceMod,Nat.reduceBEq,zaa,zac,zad,zab]) (fun x=>by simp (maxSteps:=5000000) -dsimp only [gr,reduceEqDiff,reduceLT,reduceAdd,reduceMod,Nat.reduceBEq,zaa,zac,zad,zab]),hperm'.trans hperm,hred⟩⟩ <;> (first | (simp (maxSteps:=5000000) -dsimp only [gr,reduceEqDiff,reduceLT,reduceAdd,reduceMod,Nat.reduceBEq,zaa,zac,zad,zab,h0a,h1a,h2a,h7a,r7a,h8a,h0d,h1d,h2d,h7d,r7d,h8d,h9d,h101d,h102d,zae h1 (by omega),zbi,zd6];first | done | rfl | (simp;done)) | assumption | rfl)) (by first | omega | (simp only;omega) | (dsimp only;omega) | (show _ < _;simp;omega))
  ·have hfa:=stop (.inl (by omega))
   have:a = cur.length:=by omega
   subst this
   have hst:zbg p cur col piv = (cur,piv):=by unfold zbg;rw [if_pos hfa]
   rw [hst] at hred
   simp (maxSteps:=5000000) -dsimp only [↓gp,gq,reduceCtorEq,reduceEqDiff,reduceLT,reduceLeDiff,reduceAdd,reduceMul,reduceSub,Nat.reduceBEq,Int.reduceToNat,Int.reduceLE,Int.reduceLT,Int.reduceNeg,reduceMod,zac,zad,zab,zaa,gT,TK.isInt,TK.agg,Array.toList,h0b,h1b,h2b,h7b,r7b,h8b,h9b,h10b,htb.top,hlq]
   exact zah ((cur,piv,col + 1,q,v)) (by refine ⟨?_,?_,?_,?_,?_,?_,⟨by dsimp only;omega,hcur,hlc,by dsimp only;omega,htb.same (by simp (maxSteps:=5000000) -dsimp only [gr,reduceEqDiff,reduceLT,reduceAdd,reduceMod,Nat.reduceBEq,zaa,zac,zad,zab]) (fun x=>by simp (maxSteps:=5000000) -dsimp only [gr,reduceEqDiff,reduceLT,reduceAdd,reduceMod,Nat.reduceBEq,zaa,zac,zad,zab]),hperm,hred⟩⟩ <;> (first | (simp (maxSteps:=5000000) -dsimp only [gr,reduceEqDiff,reduceLT,reduceAdd,reduceMod,Nat.reduceBEq,zaa,zac,zad,zab,h0a,h1a,h2a,h7a,r7a,h8a,h0b,h1b,h2b,h7b,r7b,h8b,h9b,h10b,zae h1 (by omega)];first | done | rfl | (simp;done)) | assumption | rfl)) (by first | omega | (simp only;omega) | (dsimp only;omega) | (show _ < _;simp;omega))
 ·have hf:zfR p cur piv col (n - col) = (cur,piv):=zjn p cur piv col (n - col) (by omega)
  rw [hf] at hred
  rw [hred]
  refine ⟨zkG (htc.same (by simp (maxSteps:=5000000) -dsimp only [gr,reduceEqDiff,reduceLT,reduceAdd,reduceMod,Nat.reduceBEq,zaa,zac,zad,zab]) (fun x=>by simp (maxSteps:=5000000) -dsimp only [gr,reduceEqDiff,reduceLT,reduceAdd,reduceMod,Nat.reduceBEq,zaa,zac,zad,zab])) hperm,?_⟩
  simp (maxSteps:=5000000) -dsimp only [↓gp,gq,reduceCtorEq,reduceEqDiff,reduceLT,reduceLeDiff,reduceAdd,reduceMul,reduceSub,Nat.reduceBEq,Int.reduceToNat,Int.reduceLE,Int.reduceLT,Int.reduceNeg,reduceMod,zac,zad,zab,zaa,gT,TK.isInt,TK.agg,Array.toList,h0a,h1a,h2a,h7a,r7a,h8a]
 ·have hf:zfR p cur piv col (n - col) = (cur,piv):=by rw [show n - col = 0 by omega];rfl
  rw [hf] at hred
  rw [hred]
  refine ⟨zkG (htc.same (by simp (maxSteps:=5000000) -dsimp only [gr,reduceEqDiff,reduceLT,reduceAdd,reduceMod,Nat.reduceBEq,zaa,zac,zad,zab]) (fun x=>by simp (maxSteps:=5000000) -dsimp only [gr,reduceEqDiff,reduceLT,reduceAdd,reduceMod,Nat.reduceBEq,zaa,zac,zad,zab])) hperm,?_⟩
  simp (maxSteps:=5000000) -dsimp only [↓gp,gq,reduceCtorEq,reduceEqDiff,reduceLT,reduceLeDiff,reduceAdd,reduceMul,reduceSub,Nat.reduceBEq,Int.reduceToNat,Int.reduceLE,Int.reduceLT,Int.reduceNeg,reduceMod,zac,zad,zab,zaa,gT,TK.isInt,TK.agg,Array.toList,h0a,h1a,h2a,h7a,r7a,h8a]
end Go.Proofs.Ytpnknaaehcljoaa
