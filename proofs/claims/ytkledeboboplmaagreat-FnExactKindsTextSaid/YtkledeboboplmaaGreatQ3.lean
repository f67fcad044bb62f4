/- DERIVED by an AI agent. -/
import Derived.Test.YtkledeboboplmaaGreatQ2
namespace Go.Proofs.YtkledeboboplmaaGreat
open Go.Abs
open Nat (reduceEqDiff reduceMod reduceAdd reduceLT reduceLeDiff reduceSub reduceMul)
set_option linter.unusedSimpArgs false
set_option linter.unusedVariables false
theorem zg4 {a b p:Int} (h1:0 ≤ a∧a < p) (h2:0 ≤ b∧b ≤ 5) (hp:p ≤ 5):0 ≤ a * b∧a * b ≤ 25:=by
 refine ⟨Int.mul_nonneg h1.1 h2.1,?_⟩
 have:=Int.mul_le_mul (show a ≤ 5 by omega) h2.2 h2.1 (by omega)
 omega
theorem zBP (l:List Int) (j:Nat):prt l l j = l:=by simp [prt]
theorem zkN (M:Mat) (n a c:Nat) (p:Int) (hp:isP p = true) (hM:MatOk p n M) (ha:a < M.length) (hc:c < n) (hn:n ≤ 1000):AT Tryz.prog 131 [.own 1000000 1,int a,int c,int p] 22 3 (M.map iL) ((zdc p a c M).map iL) .self:=by
 refine AT.goI (rs:=[.tmp 8]) zaL mixed Tryz.func131 rfl rfl rfl (by kernel_rfl) (za8 p a c M) fun hl s hs hlow ht=>?_
 have hp2:=zca hp
 have hlen:=hM.len a ha
 have hres:=hM.res a ha
 have hac:=hres c
 have hra:=ht.row ha
 have hq:∀ i,i < M.length→(List.range M.length).getD i 0 = i:=fun i hi=>by simp [List.getD,hi]
 rw [hq a ha] at hra
 simp (maxSteps:=9^7) -dsimp only [↓gp,gq,reduceCtorEq,reduceEqDiff,reduceLT,reduceLeDiff,reduceAdd,reduceMul,reduceSub,Nat.reduceBEq,Int.reduceToNat,Int.reduceLE,Int.reduceLT,Int.reduceNeg,reduceMod,gT,hs,hlow,ht.top,hra,hq a ha]
 refine ⟨ha,ha,by omega,by omega,zab (zhJ _ p hp) ?_⟩
 generalize hb:zlm p ((M.getD a []).getD c 0) = b at *
 have hbb:=zzE hp ((M.getD a []).getD c 0)
 rw [hb] at hbb
 simp (maxSteps:=9^7) -dsimp only [↓gp,gq,reduceCtorEq,reduceEqDiff,reduceLT,reduceLeDiff,reduceAdd,reduceMul,reduceSub,Nat.reduceBEq,Int.reduceToNat,Int.reduceLE,Int.reduceLT,Int.reduceNeg,reduceMod,gT,hs,hlow]
 generalize hold:M.getD a [] = old at *
 refine zah (fun (j:Nat) s=>s.sl 0 = .own 1000000 1∧s.sl 1 = int a∧s.sl 2 = int c∧s.sl 3 = int p∧s.sl 9 = int b∧s.sl 10 = int j∧(j ≤ n∧TabI s.rw 1000000 1 22 3 (List.range M.length) (M.set a (prt (scl p b old) old j)))) (fun j=>n - j) (0) (by refine ⟨?_,?_,?_,?_,?_,?_,⟨by omega,by rw [zed,← hold,zbT];exact ht.same (by simp (maxSteps:=9^7) -dsimp only [gr,reduceEqDiff,reduceLT,reduceAdd,reduceMod,Nat.reduceBEq]) (fun x=>by simp (maxSteps:=9^7) -dsimp only [gr,reduceEqDiff,reduceLT,reduceAdd,reduceMod,Nat.reduceBEq])⟩⟩ <;> (first | (simp (maxSteps:=9^7) -dsimp only [gr,reduceEqDiff,reduceLT,reduceAdd,reduceMod,Nat.reduceBEq,hs];first | done | rfl | (simp;done)) | assumption | rfl)) ?_
 intro j sa ⟨h0a,h1a,h2a,h3a,h9a,h10a,hIa⟩
 obtain ⟨hj,ht1⟩:=hIa
 have hset:a < (M.set a (prt (scl p b old) old j)).length:=by simpa using ha
 have hr1:=ht1.row hset
 have hpl:(prt (scl p b old) old j).length = n:=by rw [zcy (zbI p b old)];exact hlen
 rw [zaG ha,hq a ha] at hr1
 have hpj:=zi5 (zbI p b old) (Nat.le_refl j)
 have hoj:=hres j
 have hmb:=zg4 hoj ⟨hbb.1,by omega⟩ hp2.2
 have hw:IntKind.i64.wrap (old.getD j 0 * b) = old.getD j 0 * b:=zap (by omega) (by omega)
 simp (maxSteps:=9^7) -dsimp only [↓gp,gq,reduceCtorEq,reduceEqDiff,reduceLT,reduceLeDiff,reduceAdd,reduceMul,reduceSub,Nat.reduceBEq,Int.reduceToNat,Int.reduceLE,Int.reduceLT,Int.reduceNeg,reduceMod,gT,h0a,h1a,h2a,h3a,h9a,h10a,ht1.top,hr1,hq a ha,hpl,hpj,hw,zee hmb.1]
 refine ⟨ha,ha,fun h=>⟨by kernel_rfl,ha,ha,ha,ha,h,h,by omega,h,by omega,by kernel_rfl,?_⟩,fun h=>?_⟩
 ·refine zac (j + 1) ⟨(by (first | (simp (maxSteps:=9^7) -dsimp only [gr,reduceEqDiff,reduceLT,reduceAdd,reduceMod,Nat.reduceBEq,h0a,h1a,h2a,h3a,h9a,h10a,zaa h (by omega)];first | done | rfl | (simp;done)) | assumption | rfl)),(by (first | (simp (maxSteps:=9^7) -dsimp only [gr,reduceEqDiff,reduceLT,reduceAdd,reduceMod,Nat.reduceBEq,h0a,h1a,h2a,h3a,h9a,h10a,zaa h (by omega)];first | done | rfl | (simp;done)) | assumption | rfl)),(by (first | (simp (maxSteps:=9^7) -dsimp only [gr,reduceEqDiff,reduceLT,reduceAdd,reduceMod,Nat.reduceBEq,h0a,h1a,h2a,h3a,h9a,h10a,zaa h (by omega)];first | done | rfl | (simp;done)) | assumption | rfl)),(by (first | (simp (maxSteps:=9^7) -dsimp only [gr,reduceEqDiff,reduceLT,reduceAdd,reduceMod,Nat.reduceBEq,h0a,h1a,h2a,h3a,h9a,h10a,zaa h (by omega)];first | done | rfl | (simp;done)) | assumption | rfl)),(by (first | (simp (maxSteps:=9^7) -dsimp only [gr,reduceEqDiff,reduceLT,reduceAdd,reduceMod,Nat.reduceBEq,h0a,h1a,h2a,h3a,h9a,h10a,zaa h (by omega)];first | done | rfl | (simp;done)) | assumption | rfl)),(by (first | (simp (maxSteps:=9^7) -dsimp only [gr,reduceEqDiff,reduceLT,reduceAdd,reduceMod,Nat.reduceBEq,h0a,h1a,h2a,h3a,h9a,h10a,zaa h (by omega)];first | done | rfl | (simp;done)) | assumption | rfl)),⟨by omega,?_⟩⟩ (by first | omega | (simp only;omega) | (dsimp only;omega) | (show _ < _;simp;omega))
  have e:M.set a (prt (scl p b old) old (j + 1)) = (M.set a (prt (scl p b old) old j)).set a ((prt (scl p b old) old j).set j (old.getD j 0 * b % p)):=by
   rw [znZ,← zf3 (zbI p b old) (by omega),zfo p b (by omega)]
  rw [e]
  refine ht1.set hset (by simp (maxSteps:=9^7) -dsimp only [gr,reduceEqDiff,reduceLT,reduceAdd,reduceMod,Nat.reduceBEq,h0a,h1a,h2a,h3a,h9a,h10a]) ?_ (fun x hx=>?_)
  ·rw [hq a ha];simp (maxSteps:=9^7) -dsimp only [gr,reduceEqDiff,reduceLT,reduceAdd,reduceMod,Nat.reduceBEq,h0a,h1a,h2a,h3a,h9a,h10a]
  ·rw [hq a ha] at hx
   simp (maxSteps:=9^7) -dsimp only [gr,reduceEqDiff,reduceLT,reduceAdd,reduceMod,Nat.reduceBEq,h0a,h1a,h2a,h3a,h9a,h10a,hx]
 have:j = n:=by omega
 subst this
 have hend:prt (scl p b old) old j = scl p b old:=by rw [← hlen];exact zf2 (zbI p b old)
 rw [hend] at ht1
 have hclr:M.set a (scl p b old) = zqK p a c M:=by unfold zqK;rw [hold,hb]
 rw [hclr] at ht1
 have hM1:=zsa (p:=p) (n:=j) (at':=a) (col:=c) (by omega) hM ha
 have hl1:(zqK p a c M).length = M.length:=zcz p a c M
 have hgoal:zdc p a c M = zfp p a c (zqK p a c M) M.length:=rfl
 rw [hgoal]
 generalize zqK p a c M = M1 at *
 refine zah (fun (i:Nat) s=>s.sl 0 = .own 1000000 1∧s.sl 1 = int a∧s.sl 2 = int c∧s.sl 3 = int p∧s.sl 11 = int i∧(i ≤ M.length∧TabI s.rw 1000000 1 22 3 (List.range M.length) (zfp p a c M1 i))) (fun i=>M.length - i) (0) (by refine ⟨?_,?_,?_,?_,?_,⟨by omega,by rw [zqL];exact ht1.same (by simp (maxSteps:=9^7) -dsimp only [gr,reduceEqDiff,reduceLT,reduceAdd,reduceMod,Nat.reduceBEq]) (fun x=>by simp (maxSteps:=9^7) -dsimp only [gr,reduceEqDiff,reduceLT,reduceAdd,reduceMod,Nat.reduceBEq])⟩⟩ <;> (first | (simp (maxSteps:=9^7) -dsimp only [gr,reduceEqDiff,reduceLT,reduceAdd,reduceMod,Nat.reduceBEq,h0a,h1a,h2a,h3a,h9a,h10a];first | done | rfl | (simp;done)) | assumption | rfl)) ?_
 intro i sb ⟨h0b,h1b,h2b,h3b,h11b,hIb⟩
 obtain ⟨hi,ht2⟩:=hIb
 have hlN:(zfp p a c M1 i).length = M.length:=by rw [zbD,hl1]
 simp (maxSteps:=9^7) -dsimp only [↓gp,gq,reduceCtorEq,reduceEqDiff,reduceLT,reduceLeDiff,reduceAdd,reduceMul,reduceSub,Nat.reduceBEq,Int.reduceToNat,Int.reduceLE,Int.reduceLT,Int.reduceNeg,reduceMod,gT,h0b,h1b,h2b,h3b,h11b,ht2.top]
 refine ⟨fun h=>?_,fun h=>?_⟩
 ·have hi1:i < M1.length:=by omega
  have hr2:=ht2.row (i:=i) (by omega)
  rw [zhF p a c hi1 (Nat.le_refl i),hq i h] at hr2
  have hl2:=hM1.len i hi1
  have hres2:=hM1.res i hi1
  generalize hold2:M1.getD i [] = old2 at *
  simp (maxSteps:=9^7) -dsimp only [↓gp,gq,reduceCtorEq,reduceEqDiff,reduceLT,reduceLeDiff,reduceAdd,reduceMul,reduceSub,Nat.reduceBEq,Int.reduceToNat,Int.reduceLE,Int.reduceLT,Int.reduceNeg,reduceMod,gT,h0b,h1b,h2b,h3b,h11b,ht2.top,hr2,hq i h]
  refine ⟨h,h,by omega,by omega,?_⟩
  have hf:=hres2 c
  generalize hfe:old2.getD c 0 = f at *
  have hra1:a < M1.length:=by omega
  have hnew:(zgc p a c M1 i).length = old2.length:=by
   rw [(zn0 (p:=p) (by omega) hM1 hi1).1,hl2]
  refine zah (fun (t:Nat) s=>s.sl 0 = .own 1000000 1∧s.sl 1 = int a∧s.sl 2 = int c∧s.sl 3 = int p∧s.sl 11 = int i∧s.sl 12 = int f∧s.sl 13 = int t∧(t ≤ old2.length∧TabI s.rw 1000000 1 22 3 (List.range M.length) ((zfp p a c M1 i).set i (prt (zgc p a c M1 i) old2 t)))) (fun t=>old2.length - t) (0) (by refine ⟨?_,?_,?_,?_,?_,?_,?_,⟨by omega,(ht2.same (by simp (maxSteps:=9^7) -dsimp only [gr,reduceEqDiff,reduceLT,reduceAdd,reduceMod,Nat.reduceBEq]) (fun x=>by simp (maxSteps:=9^7) -dsimp only [gr,reduceEqDiff,reduceLT,reduceAdd,reduceMod,Nat.reduceBEq])).to (by rw [zed,← hold2,← zhF p a c hi1 (Nat.le_refl i),zbT])⟩⟩ <;> (first | (simp (maxSteps:=9^7) -dsimp only [gr,reduceEqDiff,reduceLT,reduceAdd,reduceMod,Nat.reduceBEq,h0b,h1b,h2b,h3b,h11b];first | done | rfl | (simp;done)) | assumption | rfl)) ?_
  intro t sc ⟨h0c,h1c,h2c,h3c,h11c,h12c,h13c,hIc⟩
  obtain ⟨ht',ht3⟩:=hIc
  have hls:((zfp p a c M1 i).set i (prt (zgc p a c M1 i) old2 t)).length = M.length:=by rw [List.length_set,hlN]
  have hr3:=ht3.row (i:=i) (by omega)
  rw [zaG (by omega),hq i h] at hr3
  have hpl3:(prt (zgc p a c M1 i) old2 t).length = old2.length:=zcy hnew t
  have hpj3:=zi5 hnew (Nat.le_refl t)
  simp (maxSteps:=9^7) -dsimp only [↓gp,gq,reduceCtorEq,reduceEqDiff,reduceLT,reduceLeDiff,reduceAdd,reduceMul,reduceSub,Nat.reduceBEq,Int.reduceToNat,Int.reduceLE,Int.reduceLT,Int.reduceNeg,reduceMod,gT,h0c,h1c,h2c,h3c,h11c,h12c,h13c,ht3.top,hr3,hq i h,hpl3]
  refine ⟨h,h,fun h2=>⟨fun hne=>?_,fun heq=>?_⟩,fun h2=>?_⟩
  ·have hia:¬ i = a:=by
    intro e
    simp [e] at hne
   have hr4:=ht3.row (i:=a) (by omega)
   rw [zbo hia,zzG p a c i hra1,hq a ha] at hr4
   have hla:=hM1.len a hra1
   have hresa:=hM1.res a hra1
   have hcI:zgc p a c M1 i = sbt p f (M1.getD a []) old2:=by unfold zgc;rw [if_neg hia,hold2,hfe]
   generalize hpiv:M1.getD a [] = piv at *
   have hft:=zg4 hf ⟨(hresa t).1,by have:=(hresa t).2;omega⟩ hp2.2
   have hot:=hres2 t
   have hw3:IntKind.i64.wrap (f * piv.getD t 0) = f * piv.getD t 0:=zap (by omega) (by omega)
   have hw4:IntKind.i64.wrap (old2.getD t 0 - f * piv.getD t 0) = old2.getD t 0 - f * piv.getD t 0:=zap (by omega) (by omega)
   simp (maxSteps:=9^7) -dsimp only [↓gp,gq,reduceCtorEq,reduceEqDiff,reduceLT,reduceLeDiff,reduceAdd,reduceMul,reduceSub,Nat.reduceBEq,Int.reduceToNat,Int.reduceLE,Int.reduceLT,Int.reduceNeg,reduceMod,gT,h0c,h1c,h2c,h3c,h11c,h12c,h13c,ht3.top,hr3,hq i h,hpl3,hr4,hq a ha,hpj3,hw3,hw4]
   refine ⟨by kernel_rfl,h,h,h,h,h2,h2,ha,ha,by omega,by omega,zab (zei _ p hp) ?_⟩
   simp (maxSteps:=9^7) -dsimp only [↓gp,gq,reduceCtorEq,reduceEqDiff,reduceLT,reduceLeDiff,reduceAdd,reduceMul,reduceSub,Nat.reduceBEq,Int.reduceToNat,Int.reduceLE,Int.reduceLT,Int.reduceNeg,reduceMod,gT,h0c,h1c,h2c,h3c,h11c,h12c,h13c,ht3.top,hr3,hq i h,hpl3,hr4,hq a ha,hpj3,hw3,hw4]
   refine ⟨h2,by omega,by kernel_rfl,zac (t + 1) ⟨(by (first | (simp (maxSteps:=9^7) -dsimp only [gr,reduceEqDiff,reduceLT,reduceAdd,reduceMod,Nat.reduceBEq,h0c,h1c,h2c,h3c,h11c,h12c,h13c,zaa h2 (by omega)];first | done | rfl | (simp;done)) | assumption | rfl)),(by (first | (simp (maxSteps:=9^7) -dsimp only [gr,reduceEqDiff,reduceLT,reduceAdd,reduceMod,Nat.reduceBEq,h0c,h1c,h2c,h3c,h11c,h12c,h13c,zaa h2 (by omega)];first | done | rfl | (simp;done)) | assumption | rfl)),(by (first | (simp (maxSteps:=9^7) -dsimp only [gr,reduceEqDiff,reduceLT,reduceAdd,reduceMod,Nat.reduceBEq,h0c,h1c,h2c,h3c,h11c,h12c,h13c,zaa h2 (by omega)];first | done | rfl | (simp;done)) | assumption | rfl)),(by (first | (simp (maxSteps:=9^7) -dsimp only [gr,reduceEqDiff,reduceLT,reduceAdd,reduceMod,Nat.reduceBEq,h0c,h1c,h2c,h3c,h11c,h12c,h13c,zaa h2 (by omega)];first | done | rfl | (simp;done)) | assumption | rfl)),(by (first | (simp (maxSteps:=9^7) -dsimp only [gr,reduceEqDiff,reduceLT,reduceAdd,reduceMod,Nat.reduceBEq,h0c,h1c,h2c,h3c,h11c,h12c,h13c,zaa h2 (by omega)];first | done | rfl | (simp;done)) | assumption | rfl)),(by (first | (simp (maxSteps:=9^7) -dsimp only [gr,reduceEqDiff,reduceLT,reduceAdd,reduceMod,Nat.reduceBEq,h0c,h1c,h2c,h3c,h11c,h12c,h13c,zaa h2 (by omega)];first | done | rfl | (simp;done)) | assumption | rfl)),(by (first | (simp (maxSteps:=9^7) -dsimp only [gr,reduceEqDiff,reduceLT,reduceAdd,reduceMod,Nat.reduceBEq,h0c,h1c,h2c,h3c,h11c,h12c,h13c,zaa h2 (by omega)];first | done | rfl | (simp;done)) | assumption | rfl)),⟨by omega,?_⟩⟩ (by first | omega | (simp only;omega) | (dsimp only;omega) | (show _ < _;simp;omega))⟩
   have e:(zfp p a c M1 i).set i (prt (zgc p a c M1 i) old2 (t + 1)) = ((zfp p a c M1 i).set i (prt (zgc p a c M1 i) old2 t)).set i ((prt (zgc p a c M1 i) old2 t).set t ((old2.getD t 0 - f * piv.getD t 0) % p)):=by
    rw [znZ,← zf3 hnew h2,← zcZ p f (piv:=piv) h2,hcI]
   rw [e]
   refine ht3.set (by omega) (by simp (maxSteps:=9^7) -dsimp only [gr,reduceEqDiff,reduceLT,reduceAdd,reduceMod,Nat.reduceBEq,h0c,h1c,h2c,h3c,h11c,h12c,h13c]) ?_ (fun x hx=>?_)
   ·rw [hq i h];simp (maxSteps:=9^7) -dsimp only [gr,reduceEqDiff,reduceLT,reduceAdd,reduceMod,Nat.reduceBEq,h0c,h1c,h2c,h3c,h11c,h12c,h13c]
   ·rw [hq i h] at hx
    simp (maxSteps:=9^7) -dsimp only [gr,reduceEqDiff,reduceLT,reduceAdd,reduceMod,Nat.reduceBEq,h0c,h1c,h2c,h3c,h11c,h12c,h13c,hx]
  ·have hia:i = a:=by
    have h9:(i:Int) = a:=by simpa using heq
    omega
   have hcI:zgc p a c M1 i = old2:=by unfold zgc;rw [if_pos hia,hold2]
   have ht4:=ht3
   rw [hcI,zBP,← hcI,ze8 p a c hi1] at ht4
   exact zac (i + 1) (by refine ⟨?_,?_,?_,?_,?_,⟨by omega,ht4.same (by simp (maxSteps:=9^7) -dsimp only [gr,reduceEqDiff,reduceLT,reduceAdd,reduceMod,Nat.reduceBEq]) (fun x=>by simp (maxSteps:=9^7) -dsimp only [gr,reduceEqDiff,reduceLT,reduceAdd,reduceMod,Nat.reduceBEq])⟩⟩ <;> (first | (simp (maxSteps:=9^7) -dsimp only [gr,reduceEqDiff,reduceLT,reduceAdd,reduceMod,Nat.reduceBEq,h0b,h1b,h2b,h3b,h11b,h0c,h1c,h2c,h3c,h11c,h12c,h13c,zaa h (by omega)];first | done | rfl | (simp;done)) | assumption | rfl)) (by first | omega | (simp only;omega) | (dsimp only;omega) | (show _ < _;simp;omega))
  ·have:t = old2.length:=by omega
   have ht4:=ht3
   rw [this,zf2 hnew,ze8 p a c hi1] at ht4
   exact zac (i + 1) (by refine ⟨?_,?_,?_,?_,?_,⟨by omega,ht4.same (by simp (maxSteps:=9^7) -dsimp only [gr,reduceEqDiff,reduceLT,reduceAdd,reduceMod,Nat.reduceBEq]) (fun x=>by simp (maxSteps:=9^7) -dsimp only [gr,reduceEqDiff,reduceLT,reduceAdd,reduceMod,Nat.reduceBEq])⟩⟩ <;> (first | (simp (maxSteps:=9^7) -dsimp only [gr,reduceEqDiff,reduceLT,reduceAdd,reduceMod,Nat.reduceBEq,h0b,h1b,h2b,h3b,h11b,h0c,h1c,h2c,h3c,h11c,h12c,h13c,zaa h (by omega)];first | done | rfl | (simp;done)) | assumption | rfl)) (by first | omega | (simp only;omega) | (dsimp only;omega) | (show _ < _;simp;omega))
 ·have:i = M.length:=by omega
  rw [this] at ht2
  exact zkA (ht2.same (by simp (maxSteps:=9^7) -dsimp only [gr,reduceEqDiff,reduceLT,reduceAdd,reduceMod,Nat.reduceBEq]) (fun x=>by simp (maxSteps:=9^7) -dsimp only [gr,reduceEqDiff,reduceLT,reduceAdd,reduceMod,Nat.reduceBEq])) (List.Perm.refl _)
theorem zHQ (q:List Nat) {a b:Nat} (ha:a < q.length) (hb:b < q.length):((q.set a (q.getD b 0)).set b (q.getD a 0)).getD a 0 = q.getD b 0:=by
 by_cases h:b = a
 ·subst h;simp [List.getD,ha]
 ·simp only [List.getD]
  rw [List.getElem?_set_ne h,List.getElem?_set_self ha];rfl
theorem zHR {M:Mat} {a b:Nat} (ha:a < M.length):(swp M a b).getD a [] = M.getD b []:=by
 unfold swp
 by_cases h:b = a
 ·subst h;rw [zaG (by simpa using ha)]
 ·rw [zbo h,zaG ha]
theorem zg3 {M:Mat} {col a m:Nat} (h:a < m):za6 M col a (m - a) = if (M.getD a []).getD col 0 = 0 then za6 M col (a + 1) (m - (a + 1)) else a:=by
 have e:m - a = (m - (a + 1)) + 1:=by omega
 rw [e,za6]
theorem zu8 {p:Int} {M:Mat} {piv:List Nat} {col n:Nat} (h:col < n) (h2:piv.length < M.length):zf4 p M piv col (n - col) = zf4 p (zbe p M col piv).1 (zbe p M col piv).2 (col + 1) (n - (col + 1)):=by
 have e:n - col = (n - (col + 1)) + 1:=by omega
 rw [e,zf4,if_pos h2]
theorem zqX {p:Int} {a c i:Nat} {M:Mat} (h:Res p (M.getD i [])) (hz:i = a ∨ (M.getD i []).getD c 0 = 0):zgc p a c M i = M.getD i []:=by
 unfold zgc
 split
 ·rfl
 ·rename_i hne
  rw [hz.resolve_left hne,zBC h]
theorem zEt {p x f y:Int} (hp:0 < p):(x + (p - f) * y) % p = (x - f * y) % p:=by
 have e:x + (p - f) * y = (x - f * y) + p * y:=by rw [Int.sub_mul];omega
 rw [e,Int.add_mul_emod_self_left]
theorem ziB (M:Mat) (n:Nat) (p:Int) (hp:isP p = true) (hM:MatOk p n M) (hm:M.length ≤ 900) (hn:n ≤ 1000):AT Tryz.prog 144 [.own 1000000 1,int n,int p] 22 3 (M.map iL) ((zf4 p M [] 0 n).1.map iL) (.rv (.fr 3 1 (iL (ofN (zf4 p M [] 0 n).2)))):=by
 refine AT.goI (rs:=[.tmp 6]) zaL mixed Tryz.func144 rfl rfl rfl (by kernel_rfl) (zsb p n M [] 0) fun hl s hs hlow ht=>?_
 have hp2:=zca hp
 simp (maxSteps:=9^7) -dsimp only [↓gp,gq,reduceCtorEq,reduceEqDiff,reduceLT,reduceLeDiff,reduceAdd,reduceMul,reduceSub,Nat.reduceBEq,Int.reduceToNat,Int.reduceLE,Int.reduceLT,Int.reduceNeg,reduceMod,gT,hs,hlow]
 refine zah (fun (za:Mat × List Nat × Nat × List Nat × Nat) s=>match za with | (cur,piv,col,q,v)=>s.sl 0 = .own 1000000 1∧s.sl 1 = int n∧s.sl 2 = int p∧s.sl 7 = .own 7 v∧s.rw 7 = ⟨v,.sli 3 1 false (iL (ofN piv))⟩∧s.sl 8 = int col∧(col ≤ n∧MatOk p n cur∧cur.length = M.length∧piv.length ≤ M.length∧TabI s.rw 1000000 1 22 3 q cur∧q.Perm (List.range M.length)∧zf4 p M [] 0 n = zf4 p cur piv col (n - col))) (fun (cur,piv,col,q,v)=>n - col) ((M,[],0,List.range M.length,1)) (by refine ⟨?_,?_,?_,?_,?_,?_,⟨by omega,hM,rfl,by simp,ht.same (by simp (maxSteps:=9^7) -dsimp only [gr,reduceEqDiff,reduceLT,reduceAdd,reduceMod,Nat.reduceBEq]) (fun x=>by simp (maxSteps:=9^7) -dsimp only [gr,reduceEqDiff,reduceLT,reduceAdd,reduceMod,Nat.reduceBEq]),List.Perm.refl _,rfl⟩⟩ <;> (first | (simp (maxSteps:=9^7) -dsimp only [gr,reduceEqDiff,reduceLT,reduceAdd,reduceMod,Nat.reduceBEq,hs,hlow];first | done | rfl | (simp;done)) | assumption | rfl)) ?_
 intro (cur,piv,col,q,v) sa ⟨h0a,h1a,h2a,h7a,r7a,h8a,hIa⟩
 obtain ⟨hcol,hcur,hlc,hpl,htc,hperm,hred⟩:=hIa
 have hlq:q.length = cur.length:=htc.len
 simp (maxSteps:=9^7) -dsimp only [↓gp,gq,reduceCtorEq,reduceEqDiff,reduceLT,reduceLeDiff,reduceAdd,reduceMul,reduceSub,Nat.reduceBEq,Int.reduceToNat,Int.reduceLE,Int.reduceLT,Int.reduceNeg,reduceMod,gT,h0a,h1a,h2a,h7a,r7a,h8a,htc.top,hlq,zad]
 refine ⟨fun h1=>⟨fun h2=>?_,fun h2=>?_⟩,fun h1=>?_⟩
 ·have h1:col < n:=by omega
  have h2:piv.length < cur.length:=by omega
  rw [zu8 h1 h2] at hred
  refine zah (fun (a:Nat) s=>s.sl 0 = .own 1000000 1∧s.sl 1 = int n∧s.sl 2 = int p∧s.sl 7 = .own 7 v∧s.rw 7 = ⟨v,.sli 3 1 false (iL (ofN piv))⟩∧s.sl 8 = int col∧s.sl 9 = int piv.length∧s.sl 10 = int a∧(piv.length ≤ a∧a ≤ cur.length∧za6 cur col piv.length (cur.length - piv.length) = za6 cur col a (cur.length - a)∧TabI s.rw 1000000 1 22 3 q cur)) (fun a=>cur.length - a) (piv.length) (by refine ⟨?_,?_,?_,?_,?_,?_,?_,?_,⟨by omega,by omega,rfl,htc.same (by simp (maxSteps:=9^7) -dsimp only [gr,reduceEqDiff,reduceLT,reduceAdd,reduceMod,Nat.reduceBEq]) (fun x=>by simp (maxSteps:=9^7) -dsimp only [gr,reduceEqDiff,reduceLT,reduceAdd,reduceMod,Nat.reduceBEq])⟩⟩ <;> (first | (simp (maxSteps:=9^7) -dsimp only [gr,reduceEqDiff,reduceLT,reduceAdd,reduceMod,Nat.reduceBEq,h0a,h1a,h2a,h7a,r7a,h8a];first | done | rfl | (simp;done)) | assumption | rfl)) ?_
  intro a sb ⟨h0b,h1b,h2b,h7b,r7b,h8b,h9b,h10b,hIb⟩
  obtain ⟨ha1,ha2,hfind,htb⟩:=hIb
  have stop:(¬ a < cur.length ∨ ¬ (cur.getD a []).getD col 0 = 0)→za6 cur col piv.length (cur.length - piv.length) = a:=fun h=>by
   rw [hfind]
   by_cases hlt:a < cur.length
   ·rw [zg3 hlt,if_neg (h.resolve_left (by omega))]
   ·rw [show cur.length - a = 0 by omega];rfl
  simp (maxSteps:=9^7) -dsimp only [↓gp,gq,reduceCtorEq,reduceEqDiff,reduceLT,reduceLeDiff,reduceAdd,reduceMul,reduceSub,Nat.reduceBEq,Int.reduceToNat,Int.reduceLE,Int.reduceLT,Int.reduceNeg,reduceMod,gT,h0b,h1b,h2b,h7b,r7b,h8b,h9b,h10b,htb.top,hlq]
  refine ⟨fun h3=>?_,fun h3=>?_⟩
  ·have hra:=htb.row h3
   have hlen:=hcur.len a h3
   simp (maxSteps:=9^7) -dsimp only [↓gp,gq,reduceCtorEq,reduceEqDiff,reduceLT,reduceLeDiff,reduceAdd,reduceMul,reduceSub,Nat.reduceBEq,Int.reduceToNat,Int.reduceLE,Int.reduceLT,Int.reduceNeg,reduceMod,gT,h0b,h1b,h2b,h7b,r7b,h8b,h9b,h10b,htb.top,hlq,hra]
   refine ⟨h3,h3,by omega,by omega,fun hz=>?_,fun hz=>?_⟩
   ·have hz:=beq_iff_eq.1 hz
    rw [zg3 h3,if_pos hz] at hfind
    exact zac (a + 1) (by refine ⟨?_,?_,?_,?_,?_,?_,?_,?_,⟨by omega,by omega,hfind,htb.same (by simp (maxSteps:=9^7) -dsimp only [gr,reduceEqDiff,reduceLT,reduceAdd,reduceMod,Nat.reduceBEq]) (fun x=>by simp (maxSteps:=9^7) -dsimp only [gr,reduceEqDiff,reduceLT,reduceAdd,reduceMod,Nat.reduceBEq])⟩⟩ <;> (first | (simp (maxSteps:=9^7) -dsimp only [gr,reduceEqDiff,reduceLT,reduceAdd,reduceMod,Nat.reduceBEq,h0b,h1b,h2b,h7b,r7b,h8b,h9b,h10b,zaa h3 (by omega)];first | done | rfl | (simp;done)) | assumption | rfl)) (by first | omega | (simp only;omega) | (dsimp only;omega) | (show _ < _;simp;omega))
   ·have hz:¬ (cur.getD a []).getD col 0 = 0:=by simpa using hz
    have hfa:=stop (.inr hz)
    have hne:((a:Int) == (cur.length:Int)) = false:=by simp;omega
    have hst:zbe p cur col piv = (zdc p piv.length col (swp cur piv.length a),piv ++ [col]):=by unfold zbe;rw [hfa,if_neg (by omega)]
    rw [hst] at hred
    have hda:(q.set piv.length (q.getD a 0)).length = q.length:=by simp
    have hrd:=htb.row h2
    have hsa:=zHQ q (a:=piv.length) (b:=a) (by omega) (by omega)
    simp (maxSteps:=9^7) -dsimp only [↓gp,gq,reduceCtorEq,reduceEqDiff,reduceLT,reduceLeDiff,reduceAdd,reduceMul,reduceSub,Nat.reduceBEq,Int.reduceToNat,Int.reduceLE,Int.reduceLT,Int.reduceNeg,reduceMod,gT,h0b,h1b,h2b,h7b,r7b,h8b,h9b,h10b,htb.top,hlq,hra,hne,hrd,hsa]
    refine ⟨by kernel_rfl,h3,h3,h2,h2,h2,by omega,h3,by omega,by kernel_rfl,h2,h2,by omega,by omega,?_⟩
    refine zab (zhK _ p hp) ?_
    have hold:=hcur.len a h3
    have hrold:=hcur.res a h3
    generalize hoe:cur.getD a [] = old at *
    have hiv:zlm p (old.getD col 0) = zlm p (old.getD col 0):=rfl
    have hbb:=zzE hp (old.getD col 0)
    generalize hbe:zlm p (old.getD col 0) = b at *
    have hswl:(swp cur piv.length a).length = cur.length:=zbU _ _ _
    have hswa:(swp cur piv.length a).getD piv.length [] = old:=by rw [zHR h2,hoe]
    have hsw:=zu1 hcur h2 h3
    simp (maxSteps:=9^7) -dsimp only [↓gp,gq,reduceCtorEq,reduceEqDiff,reduceLT,reduceLeDiff,reduceAdd,reduceMul,reduceSub,Nat.reduceBEq,Int.reduceToNat,Int.reduceLE,Int.reduceLT,Int.reduceNeg,reduceMod,gT,h0b,h1b,h2b,h7b,r7b,h8b,h9b,h10b,htb.top,hlq,hra,hne,hrd,hsa]
    refine ⟨h2,h2,?_⟩
    have hlq':((q.set piv.length (q.getD a 0)).set a (q.getD piv.length 0)).length = cur.length:=by simp [hlq]
    have hperm':((q.set piv.length (q.getD a 0)).set a (q.getD piv.length 0)).Perm q:=by
     have e1:q.getD piv.length 0 = q[piv.length]'(by omega):=by simp [List.getD,(by omega:piv.length < q.length)]
     have e2:q.getD a 0 = q[a]'(by omega):=by simp [List.getD,(by omega:a < q.length)]
     rw [e1,e2];exact List.set_set_perm (by omega) (by omega)
    have hclr1:(swp cur piv.length a).set piv.length (scl p b old) = zqK p piv.length col (swp cur piv.length a):=by unfold zqK;rw [hswa,hbe]
    have hcl:zdc p piv.length col (swp cur piv.length a) = zfp p piv.length col (zqK p piv.length col (swp cur piv.length a)) cur.length:=by unfold zdc;rw [hswl]
    refine zah (fun (j:Nat) s=>s.sl 0 = .own 1000000 1∧s.sl 1 = int n∧s.sl 2 = int p∧s.sl 7 = .own 7 v∧s.rw 7 = ⟨v,.sli 3 1 false (iL (ofN piv))⟩∧s.sl 8 = int col∧s.sl 9 = int piv.length∧s.sl 11 = int b∧s.sl 78 = int old.length∧s.sl 79 = int j∧(j ≤ n∧TabI s.rw 1000000 1 22 3 ((q.set piv.length (q.getD a 0)).set a (q.getD piv.length 0)) ((swp cur piv.length a).set piv.length (prt (scl p b old) old j)))) (fun j=>n - j) (0) (by refine ⟨?_,?_,?_,?_,?_,?_,?_,?_,?_,?_,⟨by omega,by rw [zed,← hswa,zbT];exact (htb.swap h2 h3 (by simp (maxSteps:=9^7) -dsimp only [gr,reduceEqDiff,reduceLT,reduceAdd,reduceMod,Nat.reduceBEq,h0b,h1b,h2b,h7b,r7b,h8b,h9b,h10b]) (fun x=>by simp (maxSteps:=9^7) -dsimp only [gr,reduceEqDiff,reduceLT,reduceAdd,reduceMod,Nat.reduceBEq,h0b,h1b,h2b,h7b,r7b,h8b,h9b,h10b])).1⟩⟩ <;> (first | (simp (maxSteps:=9^7) -dsimp only [gr,reduceEqDiff,reduceLT,reduceAdd,reduceMod,Nat.reduceBEq,h0b,h1b,h2b,h7b,r7b,h8b,h9b,h10b];first | done | rfl | (simp;done)) | assumption | rfl)) ?_
    intro j sc ⟨h0c,h1c,h2c,h7c,r7c,h8c,h9c,h11c,h78c,h79c,hIc⟩
    obtain ⟨hj,ht1⟩:=hIc
    generalize (q.set piv.length (q.getD a 0)).set a (q.getD piv.length 0) = q' at *
    generalize hSe:swp cur piv.length a = S at *
    have hset:piv.length < (S.set piv.length (prt (scl p b old) old j)).length:=by rw [List.length_set];omega
    have hr1:=ht1.row hset
    rw [zaG (by omega)] at hr1
    have hpl1:(prt (scl p b old) old j).length = n:=by rw [zcy (zbI p b old)];exact hold
    have hpj:=zi5 (zbI p b old) (Nat.le_refl j)
    have hoj:=hrold j
    have hmb:=zg4 hoj ⟨hbb.1,by omega⟩ hp2.2
    have hw:IntKind.i64.wrap (old.getD j 0 * b) = old.getD j 0 * b:=zap (by omega) (by omega)
    simp (maxSteps:=9^7) -dsimp only [↓gp,gq,reduceCtorEq,reduceEqDiff,reduceLT,reduceLeDiff,reduceAdd,reduceMul,reduceSub,Nat.reduceBEq,Int.reduceToNat,Int.reduceLE,Int.reduceLT,Int.reduceNeg,reduceMod,gT,h0c,h1c,h2c,h7c,r7c,h8c,h9c,h11c,h78c,h79c,ht1.top,hr1,hpl1,hpj,hw,zee hmb.1,hlq']
    refine ⟨fun h=>⟨by kernel_rfl,h2,h2,h2,h2,by omega,by omega,by omega,by omega,by omega,by kernel_rfl,?_⟩,fun h=>?_⟩
    ·have h:j < n:=by omega
     refine zac (j + 1) ⟨(by (first | (simp (maxSteps:=9^7) -dsimp only [gr,reduceEqDiff,reduceLT,reduceAdd,reduceMod,Nat.reduceBEq,h0c,h1c,h2c,h7c,r7c,h8c,h9c,h11c,h78c,h79c,zaa h (by omega)];first | done | rfl | (simp;done)) | assumption | rfl)),(by (first | (simp (maxSteps:=9^7) -dsimp only [gr,reduceEqDiff,reduceLT,reduceAdd,reduceMod,Nat.reduceBEq,h0c,h1c,h2c,h7c,r7c,h8c,h9c,h11c,h78c,h79c,zaa h (by omega)];first | done | rfl | (simp;done)) | assumption | rfl)),(by (first | (simp (maxSteps:=9^7) -dsimp only [gr,reduceEqDiff,reduceLT,reduceAdd,reduceMod,Nat.reduceBEq,h0c,h1c,h2c,h7c,r7c,h8c,h9c,h11c,h78c,h79c,zaa h (by omega)];first | done | rfl | (simp;done)) | assumption | rfl)),(by (first | (simp (maxSteps:=9^7) -dsimp only [gr,reduceEqDiff,reduceLT,reduceAdd,reduceMod,Nat.reduceBEq,h0c,h1c,h2c,h7c,r7c,h8c,h9c,h11c,h78c,h79c,zaa h (by omega)];first | done | rfl | (simp;done)) | assumption | rfl)),(by (first | (simp (maxSteps:=9^7) -dsimp only [gr,reduceEqDiff,reduceLT,reduceAdd,reduceMod,Nat.reduceBEq,h0c,h1c,h2c,h7c,r7c,h8c,h9c,h11c,h78c,h79c,zaa h (by omega)];first | done | rfl | (simp;done)) | assumption | rfl)),(by (first | (simp (maxSteps:=9^7) -dsimp only [gr,reduceEqDiff,reduceLT,reduceAdd,reduceMod,Nat.reduceBEq,h0c,h1c,h2c,h7c,r7c,h8c,h9c,h11c,h78c,h79c,zaa h (by omega)];first | done | rfl | (simp;done)) | assumption | rfl)),(by (first | (simp (maxSteps:=9^7) -dsimp only [gr,reduceEqDiff,reduceLT,reduceAdd,reduceMod,Nat.reduceBEq,h0c,h1c,h2c,h7c,r7c,h8c,h9c,h11c,h78c,h79c,zaa h (by omega)];first | done | rfl | (simp;done)) | assumption | rfl)),(by (first | (simp (maxSteps:=9^7) -dsimp only [gr,reduceEqDiff,reduceLT,reduceAdd,reduceMod,Nat.reduceBEq,h0c,h1c,h2c,h7c,r7c,h8c,h9c,h11c,h78c,h79c,zaa h (by omega)];first | done | rfl | (simp;done)) | assumption | rfl)),(by (first | (simp (maxSteps:=9^7) -dsimp only [gr,reduceEqDiff,reduceLT,reduceAdd,reduceMod,Nat.reduceBEq,h0c,h1c,h2c,h7c,r7c,h8c,h9c,h11c,h78c,h79c,zaa h (by omega)];first | done | rfl | (simp;done)) | assumption | rfl)),(by (first | (simp (maxSteps:=9^7) -dsimp only [gr,reduceEqDiff,reduceLT,reduceAdd,reduceMod,Nat.reduceBEq,h0c,h1c,h2c,h7c,r7c,h8c,h9c,h11c,h78c,h79c,zaa h (by omega)];first | done | rfl | (simp;done)) | assumption | rfl)),⟨by omega,?_⟩⟩ (by first | omega | (simp only;omega) | (dsimp only;omega) | (show _ < _;simp;omega))
     have e:S.set piv.length (prt (scl p b old) old (j + 1)) = (S.set piv.length (prt (scl p b old) old j)).set piv.length ((prt (scl p b old) old j).set j (old.getD j 0 * b % p)):=by
      rw [znZ,← zf3 (zbI p b old) (by omega),zfo p b (by omega)]
     rw [e]
     exact ht1.set hset (by simp (maxSteps:=9^7) -dsimp only [gr,reduceEqDiff,reduceLT,reduceAdd,reduceMod,Nat.reduceBEq,h0c,h1c,h2c,h7c,r7c,h8c,h9c,h11c,h78c,h79c]) (by simp (maxSteps:=9^7) -dsimp only [gr,reduceEqDiff,reduceLT,reduceAdd,reduceMod,Nat.reduceBEq,h0c,h1c,h2c,h7c,r7c,h8c,h9c,h11c,h78c,h79c]) (fun x hx=>by simp (maxSteps:=9^7) -dsimp only [gr,reduceEqDiff,reduceLT,reduceAdd,reduceMod,Nat.reduceBEq,h0c,h1c,h2c,h7c,r7c,h8c,h9c,h11c,h78c,h79c,hx])
    have:j = old.length:=by omega
    rw [this,zf2 (zbI p b old),hclr1] at ht1
    have hM1:=zsa (p:=p) (n:=n) (at':=piv.length) (col:=col) (by omega) hsw (by omega)
    have hl1:(zqK p piv.length col S).length = cur.length:=by rw [zcz,hswl]
    rw [hcl] at hred
    generalize zqK p piv.length col S = M1 at *
    refine zah (fun (i:Nat) s=>s.sl 0 = .own 1000000 1∧s.sl 1 = int n∧s.sl 2 = int p∧s.sl 7 = .own 7 v∧s.rw 7 = ⟨v,.sli 3 1 false (iL (ofN piv))⟩∧s.sl 8 = int col∧s.sl 9 = int piv.length∧s.sl 101 = int cur.length∧s.sl 102 = int i∧(i ≤ cur.length∧TabI s.rw 1000000 1 22 3 q' (zfp p piv.length col M1 i))) (fun i=>cur.length - i) (0) (by refine ⟨?_,?_,?_,?_,?_,?_,?_,?_,?_,⟨by omega,by rw [zqL];exact ht1.same (by simp (maxSteps:=9^7) -dsimp only [gr,reduceEqDiff,reduceLT,reduceAdd,reduceMod,Nat.reduceBEq]) (fun x=>by simp (maxSteps:=9^7) -dsimp only [gr,reduceEqDiff,reduceLT,reduceAdd,reduceMod,Nat.reduceBEq])⟩⟩ <;> (first | (simp (maxSteps:=9^7) -dsimp only [gr,reduceEqDiff,reduceLT,reduceAdd,reduceMod,Nat.reduceBEq,h0c,h1c,h2c,h7c,r7c,h8c,h9c,h11c,h78c,h79c];first | done | rfl | (simp;done)) | assumption | rfl)) ?_
    intro i sd ⟨h0d,h1d,h2d,h7d,r7d,h8d,h9d,h101d,h102d,hId⟩
    obtain ⟨hi,ht2⟩:=hId
    have hlN:(zfp p piv.length col M1 i).length = cur.length:=by rw [zbD,hl1]
    simp (maxSteps:=9^7) -dsimp only [↓gp,gq,reduceCtorEq,reduceEqDiff,reduceLT,reduceLeDiff,reduceAdd,reduceMul,reduceSub,Nat.reduceBEq,Int.reduceToNat,Int.reduceLE,Int.reduceLT,Int.reduceNeg,reduceMod,gT,h0d,h1d,h2d,h7d,r7d,h8d,h9d,h101d,h102d,ht2.top,hlq']
    refine ⟨fun h=>⟨fun he=>?_,fun he=>?_⟩,fun h=>?_⟩
    ·have hid:¬ i = piv.length:=by
      intro e
      simp [e] at he
     have hi1:i < M1.length:=by omega
     have hr2:=ht2.row (i:=i) (by omega)
     rw [zhF p piv.length col hi1 (Nat.le_refl i)] at hr2
     have hl2:=hM1.len i hi1
     have hres2:=hM1.res i hi1
     have hnewl:(zgc p piv.length col M1 i).length = (M1.getD i []).length:=by rw [(zn0 (p:=p) (by omega) hM1 hi1).1,hl2]
     simp (maxSteps:=9^7) -dsimp only [↓gp,gq,reduceCtorEq,reduceEqDiff,reduceLT,reduceLeDiff,reduceAdd,reduceMul,reduceSub,Nat.reduceBEq,Int.reduceToNat,Int.reduceLE,Int.reduceLT,Int.reduceNeg,reduceMod,gT,h0d,h1d,h2d,h7d,r7d,h8d,h9d,h101d,h102d,ht2.top,hlq',hr2]
     refine ⟨h,h,by omega,by omega,fun hz=>?_,fun hz=>?_⟩
     ·have hz:(M1.getD i []).getD col 0 = 0:=beq_iff_eq.1 hz
      have ht4:=ht2
      have hcI:=zqX (p:=p) (a:=piv.length) (c:=col) hres2 (.inr hz)
      have hset2:(zfp p piv.length col M1 i).set i (M1.getD i []) = zfp p piv.length col M1 i:=by rw [← zhF p piv.length col hi1 (Nat.le_refl i),zbT]
      rw [← hset2,← hcI,ze8 p piv.length col hi1] at ht4
      exact zac (i + 1) (by refine ⟨?_,?_,?_,?_,?_,?_,?_,?_,?_,⟨by omega,ht4.same (by simp (maxSteps:=9^7) -dsimp only [gr,reduceEqDiff,reduceLT,reduceAdd,reduceMod,Nat.reduceBEq]) (fun x=>by simp (maxSteps:=9^7) -dsimp only [gr,reduceEqDiff,reduceLT,reduceAdd,reduceMod,Nat.reduceBEq])⟩⟩ <;> (first | (simp (maxSteps:=9^7) -dsimp only [gr,reduceEqDiff,reduceLT,reduceAdd,reduceMod,Nat.reduceBEq,h0d,h1d,h2d,h7d,r7d,h8d,h9d,h101d,h102d,zaa h (by omega)];first | done | rfl | (simp;done)) | assumption | rfl)) (by first | omega | (simp only;omega) | (dsimp only;omega) | (show _ < _;simp;omega))
     ·have hz:¬ (M1.getD i []).getD col 0 = 0:=by simpa using hz
      have hcI:zgc p piv.length col M1 i = sbt p ((M1.getD i []).getD col 0) (M1.getD piv.length []) (M1.getD i []):=by unfold zgc;rw [if_neg hid]
      have hfb:=hres2 col
      have hset2:(zfp p piv.length col M1 i).set i (M1.getD i []) = zfp p piv.length col M1 i:=by rw [← zhF p piv.length col hi1 (Nat.le_refl i),zbT]
      generalize M1.getD i [] = old2 at *
      generalize old2.getD col 0 = f at *
      have hwg:IntKind.i64.wrap (p - f) = p - f:=zap (by omega) (by omega)
      simp (maxSteps:=9^7) -dsimp only [↓gp,gq,reduceCtorEq,reduceEqDiff,reduceLT,reduceLeDiff,reduceAdd,reduceMul,reduceSub,Nat.reduceBEq,Int.reduceToNat,Int.reduceLE,Int.reduceLT,Int.reduceNeg,reduceMod,gT,h0d,h1d,h2d,h7d,r7d,h8d,h9d,h101d,h102d,ht2.top,hlq',hr2,hwg]
      refine ⟨h,h,by omega,by omega,h,h,?_⟩
      refine zah (fun (t:Nat) s=>s.sl 0 = .own 1000000 1∧s.sl 1 = int n∧s.sl 2 = int p∧s.sl 7 = .own 7 v∧s.rw 7 = ⟨v,.sli 3 1 false (iL (ofN piv))⟩∧s.sl 8 = int col∧s.sl 9 = int piv.length∧s.sl 101 = int cur.length∧s.sl 102 = int i∧s.sl 13 = int i∧s.sl 14 = int (p - f)∧s.sl 131 = int old2.length∧s.sl 132 = int t∧(t ≤ old2.length∧TabI s.rw 1000000 1 22 3 q' ((zfp p piv.length col M1 i).set i (prt (zgc p piv.length col M1 i) old2 t)))) (fun t=>old2.length - t) (0) (by refine ⟨?_,?_,?_,?_,?_,?_,?_,?_,?_,?_,?_,?_,?_,⟨by omega,by rw [zed,hset2];exact ht2.same (by simp (maxSteps:=9^7) -dsimp only [gr,reduceEqDiff,reduceLT,reduceAdd,reduceMod,Nat.reduceBEq]) (fun x=>by simp (maxSteps:=9^7) -dsimp only [gr,reduceEqDiff,reduceLT,reduceAdd,reduceMod,Nat.reduceBEq])⟩⟩ <;> (first | (simp (maxSteps:=9^7) -dsimp only [gr,reduceEqDiff,reduceLT,reduceAdd,reduceMod,Nat.reduceBEq,h0d,h1d,h2d,h7d,r7d,h8d,h9d,h101d,h102d,hwg];first | done | rfl | (simp;done)) | assumption | rfl)) ?_
      intro t se ⟨h0e,h1e,h2e,h7e,r7e,h8e,h9e,h101e,h102e,h13e,h14e,h131e,h132e,hIe⟩
      obtain ⟨ht',ht3⟩:=hIe
      have hls:((zfp p piv.length col M1 i).set i (prt (zgc p piv.length col M1 i) old2 t)).length = cur.length:=by rw [List.length_set,hlN]
      have hr3:=ht3.row (i:=i) (by omega)
      rw [zaG (by omega)] at hr3
      have hpl3:(prt (zgc p piv.length col M1 i) old2 t).length = old2.length:=zcy hnewl t
      have hpj3:=zi5 hnewl (Nat.le_refl t)
      have hra1:piv.length < M1.length:=by omega
      have hr4:=ht3.row (i:=piv.length) (by omega)
      rw [zbo hid,zzG p piv.length col i hra1] at hr4
      have hla:=hM1.len piv.length hra1
      have hresa:=hM1.res piv.length hra1
      generalize M1.getD piv.length [] = pr at *
      have hft:=zg4 (show 0 ≤ p - f∧p - f < p by omega) ⟨(hresa t).1,by have:=(hresa t).2;omega⟩ hp2.2
      have hot:=hres2 t
      have hw3:IntKind.i64.wrap ((p - f) * pr.getD t 0) = (p - f) * pr.getD t 0:=zap (by omega) (by omega)
      have hw4:IntKind.i64.wrap (old2.getD t 0 + (p - f) * pr.getD t 0) = old2.getD t 0 + (p - f) * pr.getD t 0:=zap (by omega) (by omega)
      have hmod:(old2.getD t 0 + (p - f) * pr.getD t 0).tmod p = (old2.getD t 0 - f * pr.getD t 0) % p:=by rw [zee (by omega),zEt (by omega)]
      simp (maxSteps:=9^7) -dsimp only [↓gp,gq,reduceCtorEq,reduceEqDiff,reduceLT,reduceLeDiff,reduceAdd,reduceMul,reduceSub,Nat.reduceBEq,Int.reduceToNat,Int.reduceLE,Int.reduceLT,Int.reduceNeg,reduceMod,gT,h0e,h1e,h2e,h7e,r7e,h8e,h9e,h101e,h102e,h13e,h14e,h131e,h132e,ht3.top,hlq',hr3,hr4,hpl3,hpj3,hw3,hw4,hmod]
      refine ⟨fun h2'=>⟨by kernel_rfl,h,h,h,h,h2',h2',h2,h2,by omega,by omega,by omega,h2',by omega,by kernel_rfl,?_⟩,fun h2'=>?_⟩
      ·refine zac (t + 1) ⟨(by (first | (simp (maxSteps:=9^7) -dsimp only [gr,reduceEqDiff,reduceLT,reduceAdd,reduceMod,Nat.reduceBEq,h0e,h1e,h2e,h7e,r7e,h8e,h9e,h101e,h102e,h13e,h14e,h131e,h132e,zaa h2' (by omega)];first | done | rfl | (simp;done)) | assumption | rfl)),(by (first | (simp (maxSteps:=9^7) -dsimp only [gr,reduceEqDiff,reduceLT,reduceAdd,reduceMod,Nat.reduceBEq,h0e,h1e,h2e,h7e,r7e,h8e,h9e,h101e,h102e,h13e,h14e,h131e,h132e,zaa h2' (by omega)];first | done | rfl | (simp;done)) | assumption | rfl)),(by (first | (simp (maxSteps:=9^7) -dsimp only [gr,reduceEqDiff,reduceLT,reduceAdd,reduceMod,Nat.reduceBEq,h0e,h1e,h2e,h7e,r7e,h8e,h9e,h101e,h102e,h13e,h14e,h131e,h132e,zaa h2' (by omega)];first | done | rfl | (simp;done)) | assumption | rfl)),(by (first | (simp (maxSteps:=9^7) -dsimp only [gr,reduceEqDiff,reduceLT,reduceAdd,reduceMod,Nat.reduceBEq,h0e,h1e,h2e,h7e,r7e,h8e,h9e,h101e,h102e,h13e,h14e,h131e,h132e,zaa h2' (by omega)];first | done | rfl | (simp;done)) | assumption | rfl)),(by (first | (simp (maxSteps:=9^7) -dsimp only [gr,reduceEqDiff,reduceLT,reduceAdd,reduceMod,Nat.reduceBEq,h0e,h1e,h2e,h7e,r7e,h8e,h9e,h101e,h102e,h13e,h14e,h131e,h132e,zaa h2' (by omega)];first | done | rfl | (simp;done)) | assumption | rfl)),(by (first | (simp (maxSteps:=9^7) -dsimp only [gr,reduceEqDiff,reduceLT,reduceAdd,reduceMod,Nat.reduceBEq,h0e,h1e,h2e,h7e,r7e,h8e,h9e,h101e,h102e,h13e,h14e,h131e,h132e,zaa h2' (by omega)];first | done | rfl | (simp;done)) | assumption | rfl)),(by (first | (simp (maxSteps:=9^7) -dsimp only [gr,reduceEqDiff,reduceLT,reduceAdd,reduceMod,Nat.reduceBEq,h0e,h1e,h2e,h7e,r7e,h8e,h9e,h101e,h102e,h13e,h14e,h131e,h132e,zaa h2' (by omega)];first | done | rfl | (simp;done)) | assumption | rfl)),(by (first | (simp (maxSteps:=9^7) -dsimp only [gr,reduceEqDiff,reduceLT,reduceAdd,reduceMod,Nat.reduceBEq,h0e,h1e,h2e,h7e,r7e,h8e,h9e,h101e,h102e,h13e,h14e,h131e,h132e,zaa h2' (by omega)];first | done | rfl | (simp;done)) | assumption | rfl)),(by (first | (simp (maxSteps:=9^7) -dsimp only [gr,reduceEqDiff,reduceLT,reduceAdd,reduceMod,Nat.reduceBEq,h0e,h1e,h2e,h7e,r7e,h8e,h9e,h101e,h102e,h13e,h14e,h131e,h132e,zaa h2' (by omega)];first | done | rfl | (simp;done)) | assumption | rfl)),(by (first | (simp (maxSteps:=9^7) -dsimp only [gr,reduceEqDiff,reduceLT,reduceAdd,reduceMod,Nat.reduceBEq,h0e,h1e,h2e,h7e,r7e,h8e,h9e,h101e,h102e,h13e,h14e,h131e,h132e,zaa h2' (by omega)];first | done | rfl | (simp;done)) | assumption | rfl)),(by (first | (simp (maxSteps:=9^7) -dsimp only [gr,reduceEqDiff,reduceLT,reduceAdd,reduceMod,Nat.reduceBEq,h0e,h1e,h2e,h7e,r7e,h8e,h9e,h101e,h102e,h13e,h14e,h131e,h132e,zaa h2' (by omega)];first | done | rfl | (simp;done)) | assumption | rfl)),(by (first | (simp (maxSteps:=9^7) -dsimp only [gr,reduceEqDiff,reduceLT,reduceAdd,reduceMod,Nat.reduceBEq,h0e,h1e,h2e,h7e,r7e,h8e,h9e,h101e,h102e,h13e,h14e,h131e,h132e,zaa h2' (by omega)];first | done | rfl | (simp;done)) | assumption | rfl)),(by (first | (simp (maxSteps:=9^7) -dsimp only [gr,reduceEqDiff,reduceLT,reduceAdd,reduceMod,Nat.reduceBEq,h0e,h1e,h2e,h7e,r7e,h8e,h9e,h101e,h102e,h13e,h14e,h131e,h132e,zaa h2' (by omega)];first | done | rfl | (simp;done)) | assumption | rfl)),⟨by omega,?_⟩⟩ (by first | omega | (simp only;omega) | (dsimp only;omega) | (show _ < _;simp;omega))
       have e:(zfp p piv.length col M1 i).set i (prt (zgc p piv.length col M1 i) old2 (t + 1)) = ((zfp p piv.length col M1 i).set i (prt (zgc p piv.length col M1 i) old2 t)).set i ((prt (zgc p piv.length col M1 i) old2 t).set t ((old2.getD t 0 - f * pr.getD t 0) % p)):=by
        rw [znZ,← zf3 hnewl h2',← zcZ p f (piv:=pr) h2',hcI]
       rw [e]
       exact ht3.set (by omega) (by simp (maxSteps:=9^7) -dsimp only [gr,reduceEqDiff,reduceLT,reduceAdd,reduceMod,Nat.reduceBEq,h0e,h1e,h2e,h7e,r7e,h8e,h9e,h101e,h102e,h13e,h14e,h131e,h132e]) (by simp (maxSteps:=9^7) -dsimp only [gr,reduceEqDiff,reduceLT,reduceAdd,reduceMod,Nat.reduceBEq,h0e,h1e,h2e,h7e,r7e,h8e,h9e,h101e,h102e,h13e,h14e,h131e,h132e]) (fun x hx=>by simp (maxSteps:=9^7) -dsimp only [gr,reduceEqDiff,reduceLT,reduceAdd,reduceMod,Nat.reduceBEq,h0e,h1e,h2e,h7e,r7e,h8e,h9e,h101e,h102e,h13e,h14e,h131e,h132e,hx])
      ·have:t = old2.length:=by omega
       have ht4:=ht3
       rw [this,zf2 hnewl,ze8 p piv.length col hi1] at ht4
       exact zac (i + 1) (by refine ⟨?_,?_,?_,?_,?_,?_,?_,?_,?_,⟨by omega,ht4.same (by simp (maxSteps:=9^7) -dsimp only [gr,reduceEqDiff,reduceLT,reduceAdd,reduceMod,Nat.reduceBEq]) (fun x=>by simp (maxSteps:=9^7) -dsimp only [gr,reduceEqDiff,reduceLT,reduceAdd,reduceMod,Nat.reduceBEq])⟩⟩ <;> (first | (simp (maxSteps:=9^7) -dsimp only [gr,reduceEqDiff,reduceLT,reduceAdd,reduceMod,Nat.reduceBEq,h0d,h1d,h2d,h7d,r7d,h8d,h9d,h101d,h102d,h0e,h1e,h2e,h7e,r7e,h8e,h9e,h101e,h102e,h13e,h14e,h131e,h132e,zaa h (by omega)];first | done | rfl | (simp;done)) | assumption | rfl)) (by first | omega | (simp only;omega) | (dsimp only;omega) | (show _ < _;simp;omega))
    ·have hid:i = piv.length:=by
      have h9:(i:Int) = piv.length:=by simpa using he
      omega
     have hi1:i < M1.length:=by omega
     have ht4:=ht2
     have hcI:=zqX (p:=p) (a:=piv.length) (c:=col) (hM1.res i hi1) (.inl hid)
     have hset2:(zfp p piv.length col M1 i).set i (M1.getD i []) = zfp p piv.length col M1 i:=by rw [← zhF p piv.length col hi1 (Nat.le_refl i),zbT]
     rw [← hset2,← hcI,ze8 p piv.length col hi1] at ht4
     exact zac (i + 1) (by refine ⟨?_,?_,?_,?_,?_,?_,?_,?_,?_,⟨by omega,ht4.same (by simp (maxSteps:=9^7) -dsimp only [gr,reduceEqDiff,reduceLT,reduceAdd,reduceMod,Nat.reduceBEq]) (fun x=>by simp (maxSteps:=9^7) -dsimp only [gr,reduceEqDiff,reduceLT,reduceAdd,reduceMod,Nat.reduceBEq])⟩⟩ <;> (first | (simp (maxSteps:=9^7) -dsimp only [gr,reduceEqDiff,reduceLT,reduceAdd,reduceMod,Nat.reduceBEq,h0d,h1d,h2d,h7d,r7d,h8d,h9d,h101d,h102d,zaa h (by omega)];first | done | rfl | (simp;done)) | assumption | rfl)) (by first | omega | (simp only;omega) | (dsimp only;omega) | (show _ < _;simp;omega))
    ·have:i = cur.length:=by omega
     rw [this] at ht2
     refine ⟨by rw [zad];omega,?_⟩
     exact zac ((zfp p piv.length col M1 cur.length,piv ++ [col],col + 1,q',v + 1)) (by refine ⟨?_,?_,?_,?_,?_,?_,⟨by dsimp only;omega,zzH (by omega) hM1,by dsimp only;rw [zbD,hl1,hlc],by simp;omega,ht2.same (by simp (maxSteps:=9^7) -dsimp only [gr,reduceEqDiff,reduceLT,reduceAdd,reduceMod,Nat.reduceBEq]) (fun x=>by simp (maxSteps:=9^7) -dsimp only [gr,reduceEqDiff,reduceLT,reduceAdd,reduceMod,Nat.reduceBEq]),hperm'.trans hperm,hred⟩⟩ <;> (first | (simp (maxSteps:=9^7) -dsimp only [gr,reduceEqDiff,reduceLT,reduceAdd,reduceMod,Nat.reduceBEq,h0a,h1a,h2a,h7a,r7a,h8a,h0d,h1d,h2d,h7d,r7d,h8d,h9d,h101d,h102d,zaa h1 (by omega),zaR,zdA];first | done | rfl | (simp;done)) | assumption | rfl)) (by first | omega | (simp only;omega) | (dsimp only;omega) | (show _ < _;simp;omega))
  ·have hfa:=stop (.inl (by omega))
   have:a = cur.length:=by omega
   subst this
   have hst:zbe p cur col piv = (cur,piv):=by unfold zbe;rw [if_pos hfa]
   rw [hst] at hred
   simp (maxSteps:=9^7) -dsimp only [↓gp,gq,reduceCtorEq,reduceEqDiff,reduceLT,reduceLeDiff,reduceAdd,reduceMul,reduceSub,Nat.reduceBEq,Int.reduceToNat,Int.reduceLE,Int.reduceLT,Int.reduceNeg,reduceMod,gT,h0b,h1b,h2b,h7b,r7b,h8b,h9b,h10b,htb.top,hlq]
   exact zac ((cur,piv,col + 1,q,v)) (by refine ⟨?_,?_,?_,?_,?_,?_,⟨by dsimp only;omega,hcur,hlc,by dsimp only;omega,htb.same (by simp (maxSteps:=9^7) -dsimp only [gr,reduceEqDiff,reduceLT,reduceAdd,reduceMod,Nat.reduceBEq]) (fun x=>by simp (maxSteps:=9^7) -dsimp only [gr,reduceEqDiff,reduceLT,reduceAdd,reduceMod,Nat.reduceBEq]),hperm,hred⟩⟩ <;> (first | (simp (maxSteps:=9^7) -dsimp only [gr,reduceEqDiff,reduceLT,reduceAdd,reduceMod,Nat.reduceBEq,h0a,h1a,h2a,h7a,r7a,h8a,h0b,h1b,h2b,h7b,r7b,h8b,h9b,h10b,zaa h1 (by omega)];first | done | rfl | (simp;done)) | assumption | rfl)) (by first | omega | (simp only;omega) | (dsimp only;omega) | (show _ < _;simp;omega))
 ·have hf:zf4 p cur piv col (n - col) = (cur,piv):=zky p cur piv col (n - col) (by omega)
  rw [hf] at hred
  rw [hred]
  refine ⟨zkA (htc.same (by simp (maxSteps:=9^7) -dsimp only [gr,reduceEqDiff,reduceLT,reduceAdd,reduceMod,Nat.reduceBEq]) (fun x=>by simp (maxSteps:=9^7) -dsimp only [gr,reduceEqDiff,reduceLT,reduceAdd,reduceMod,Nat.reduceBEq])) hperm,?_⟩
  simp (maxSteps:=9^7) -dsimp only [↓gp,gq,reduceCtorEq,reduceEqDiff,reduceLT,reduceLeDiff,reduceAdd,reduceMul,reduceSub,Nat.reduceBEq,Int.reduceToNat,Int.reduceLE,Int.reduceLT,Int.reduceNeg,reduceMod,gT,h0a,h1a,h2a,h7a,r7a,h8a]
 ·have hf:zf4 p cur piv col (n - col) = (cur,piv):=by rw [show n - col = 0 by omega];rfl
  rw [hf] at hred
  rw [hred]
  refine ⟨zkA (htc.same (by simp (maxSteps:=9^7) -dsimp only [gr,reduceEqDiff,reduceLT,reduceAdd,reduceMod,Nat.reduceBEq]) (fun x=>by simp (maxSteps:=9^7) -dsimp only [gr,reduceEqDiff,reduceLT,reduceAdd,reduceMod,Nat.reduceBEq])) hperm,?_⟩
  simp (maxSteps:=9^7) -dsimp only [↓gp,gq,reduceCtorEq,reduceEqDiff,reduceLT,reduceLeDiff,reduceAdd,reduceMul,reduceSub,Nat.reduceBEq,Int.reduceToNat,Int.reduceLE,Int.reduceLT,Int.reduceNeg,reduceMod,gT,h0a,h1a,h2a,h7a,r7a,h8a]
theorem zn4 (M:Mat) (p:Int) (hp:isP p = true) (hM:M.length ≤ 900) (hr:∀ i,i < M.length→(M.getD i []).length = (M.getD 0 []).length) (hn:(M.getD 0 []).length ≤ 1000):AC Tryz.prog 126 [zAL M,int p] (.im (int (zn1 p M))):=by
 refine AC.go (rs:=[.tmp 4]) zaL mixed Tryz.func126 rfl rfl rfl (by kernel_rfl) fun hl=>?_
 have hp2:=zca hp
 simp (maxSteps:=9^7) -dsimp only [↓gp,gq,reduceCtorEq,reduceEqDiff,reduceLT,reduceLeDiff,reduceAdd,reduceMul,reduceSub,Nat.reduceBEq,Int.reduceToNat,Int.reduceLE,Int.reduceLT,Int.reduceNeg,reduceMod,gT]
 refine ⟨fun h0=>?_,fun h0=>?_⟩
 ·have hM0:M = []:=List.eq_nil_of_length_eq_zero (by simpa using h0)
  subst hM0
  rfl
 ·have hM0:¬ M.length = 0:=by simpa using h0
  refine ⟨by kernel_rfl,zab (ziC M p hp hM (fun i hi=>by rw [hr i hi];exact hn)) ?_⟩
  simp (maxSteps:=9^7) -dsimp only [↓gp,gq,reduceCtorEq,reduceEqDiff,reduceLT,reduceLeDiff,reduceAdd,reduceMul,reduceSub,Nat.reduceBEq,Int.reduceToNat,Int.reduceLE,Int.reduceLT,Int.reduceNeg,reduceMod,gT]
  refine ⟨by omega,by omega,?_⟩
  have hok:=zsc (p:=p) (by omega) hr
  have hred:=ziB (zgd p M) (M.getD 0 []).length p hp hok (by rw [zdd];exact hM) hn
  refine zDQ (v:=1) hred (by repeat (first | exact GiveL.nil | refine GiveL.v ?_ | refine GiveL.clo ?_ | refine GiveL.own 0 rfl ?_ | refine GiveL.own 1 rfl ?_ | refine GiveL.ag ?_ ?_)) (zp7 10 22 3 ((zgd p M).map iL) (fun i hi=>by simp (maxSteps:=9^7) -dsimp only [gr,reduceEqDiff,reduceLT,reduceAdd,reduceMod,Nat.reduceBEq])) List.nodup_range (by decide) ?_
  simp (maxSteps:=9^7) -dsimp only [↓gp,gq,reduceCtorEq,reduceEqDiff,reduceLT,reduceLeDiff,reduceAdd,reduceMul,reduceSub,Nat.reduceBEq,Int.reduceToNat,Int.reduceLE,Int.reduceLT,Int.reduceNeg,reduceMod,gT]
  exact ⟨by kernel_rfl,by rw [zad];rfl⟩
theorem ziA (M:Mat) (p:Int) (hp:isP p = true) (hM:M.length ≤ 900) (hr:∀ i,i < M.length→(M.getD i []).length = (M.getD 0 []).length) (hn:(M.getD 0 []).length ≤ 1000) :
 AC Tryz.prog 117 [zAL M,int p] (.tup [.tb 22 3 ((zf4 p (zgd p M) [] 0 (M.getD 0 []).length).1.map iL),.fr 3 1 (iL (ofN (zf4 p (zgd p M) [] 0 (M.getD 0 []).length).2))]):=by
 refine AC.go (rs:=[.tmp 4,.tmp 5]) zaL mixed Tryz.func117 rfl rfl rfl (by kernel_rfl) fun hl=>?_
 have hp2:=zca hp
 generalize hne:(M.getD 0 []).length = n at *
 simp (maxSteps:=9^7) -dsimp only [↓gp,gq,reduceCtorEq,reduceEqDiff,reduceLT,reduceLeDiff,reduceAdd,reduceMul,reduceSub,Nat.reduceBEq,Int.reduceToNat,Int.reduceLE,Int.reduceLT,Int.reduceNeg,reduceMod,gT]
 refine zBF (k:=15) (v:=1) (e:=22) (e2:=3) (by simp (maxSteps:=9^7) -dsimp only [gr,reduceEqDiff,reduceLT,reduceAdd,reduceMod,Nat.reduceBEq]) (fun j=>by simp (maxSteps:=9^7) -dsimp only [gr,reduceEqDiff,reduceLT,reduceAdd,reduceMod,Nat.reduceBEq]) (fun (i:Nat) s=>s.sl 0 = zAL M∧s.sl 1 = int p∧s.sl 6 = .own 15 (i + 1)∧s.sl 7 = int i∧(i ≤ M.length∧TabG s.rw 15 (i + 1) 22 3 i (zgd p (M.take i)))) (fun i=>M.length - i) (0) (fun sX htX hslX hoX=>(by refine ⟨?_,?_,?_,?_,⟨by omega,htX⟩⟩ <;> (first | (simp (maxSteps:=9^7) -dsimp only [gr,reduceEqDiff,reduceLT,reduceAdd,reduceMod,Nat.reduceBEq,hslX,hoX];first | done | rfl | (simp;done)) | assumption | rfl))) ?_
 intro i sa ⟨h0a,h1a,h6a,h7a,hIa⟩
 obtain ⟨hi,ht⟩:=hIa
 simp (maxSteps:=9^7) -dsimp only [↓gp,gq,reduceCtorEq,reduceEqDiff,reduceLT,reduceLeDiff,reduceAdd,reduceMul,reduceSub,Nat.reduceBEq,Int.reduceToNat,Int.reduceLE,Int.reduceLT,Int.reduceNeg,reduceMod,gT,h0a,h1a,h6a,h7a]
 refine ⟨fun h=>?_,fun h=>?_⟩
 ·have hri:=hr i h
  have hlen:=zg5 p hi
  refine zEo (fun (zb:Nat × Nat) s=>match zb with | (j,u)=>s.sl 0 = zAL M∧s.sl 1 = int p∧s.sl 6 = .own 15 (i + 1)∧s.sl 7 = int i∧s.sl 8 = .own 22 u∧s.rw 22 = ⟨u,.tab 3 (iL (((M.getD i []).map fun x=>x % p).take j))⟩∧s.sl 9 = int j∧(j ≤ n∧TabG s.rw 15 (i + 1) 22 3 i (zgd p (M.take i)))) (fun (j,u)=>n - j) ((0,(sa.rw 22).ver + 1)) (Wk.tab (k:=22) (v:=(sa.rw 22).ver + 1) (e:=3) (c:=[]) (by simp (maxSteps:=9^7) -dsimp only [gr,reduceEqDiff,reduceLT,reduceAdd,reduceMod,Nat.reduceBEq]) (fun p hp=>by cases hp)) (by refine ⟨?_,?_,?_,?_,?_,?_,?_,⟨by omega,ht.same (by simp (maxSteps:=9^7) -dsimp only [gr,reduceEqDiff,reduceLT,reduceAdd,reduceMod,Nat.reduceBEq]) (fun x=>by simp (maxSteps:=9^7) -dsimp only [gr,reduceEqDiff,reduceLT,reduceAdd,reduceMod,Nat.reduceBEq])⟩⟩ <;> (first | (simp (maxSteps:=9^7) -dsimp only [gr,reduceEqDiff,reduceLT,reduceAdd,reduceMod,Nat.reduceBEq,h0a,h1a,h6a,h7a];first | done | rfl | (simp;done)) | assumption | rfl)) ?_
  intro (j,u) sb ⟨h0b,h1b,h6b,h7b,h8b,r22b,h9b,hIb⟩
  obtain ⟨hj,ht2⟩:=hIb
  simp (maxSteps:=9^7) -dsimp only [↓gp,gq,reduceCtorEq,reduceEqDiff,reduceLT,reduceLeDiff,reduceAdd,reduceMul,reduceSub,Nat.reduceBEq,Int.reduceToNat,Int.reduceLE,Int.reduceLT,Int.reduceNeg,reduceMod,gT,h0b,h1b,h6b,h7b,h8b,r22b,h9b]
  refine ⟨h,h,fun h2=>⟨h,h,by omega,by omega,zab (zei _ p hp) ?_⟩,fun h2=>?_⟩
  ·simp (maxSteps:=9^7) -dsimp only [↓gp,gq,reduceCtorEq,reduceEqDiff,reduceLT,reduceLeDiff,reduceAdd,reduceMul,reduceSub,Nat.reduceBEq,Int.reduceToNat,Int.reduceLE,Int.reduceLT,Int.reduceNeg,reduceMod,gT,h0b,h1b,h6b,h7b,h8b,r22b,h9b]
   have h2':j < n:=by omega
   have hts:((M.getD i []).map fun x=>x % p).take (j + 1) = ((M.getD i []).map fun x=>x % p).take j ++ [(M.getD i []).getD j 0 % p]:=by
    rw [zay 0 (by simpa using h2),zu9 p h2]
   have htl:(((M.getD i []).map fun x=>x % p).take j).length ≤ 1000:=by simp;omega
   refine ⟨by omega,zac ((j + 1,u + 1)) (by refine ⟨?_,?_,?_,?_,?_,?_,?_,⟨by dsimp only;omega,ht2.same (by simp (maxSteps:=9^7) -dsimp only [gr,reduceEqDiff,reduceLT,reduceAdd,reduceMod,Nat.reduceBEq]) (fun x=>by simp (maxSteps:=9^7) -dsimp only [gr,reduceEqDiff,reduceLT,reduceAdd,reduceMod,Nat.reduceBEq])⟩⟩ <;> (first | (simp (maxSteps:=9^7) -dsimp only [gr,reduceEqDiff,reduceLT,reduceAdd,reduceMod,Nat.reduceBEq,h0b,h1b,h6b,h7b,h8b,r22b,h9b,zaa h2' (by omega),hts];first | done | rfl | (simp;done)) | assumption | rfl)) (by first | omega | (simp only;omega) | (dsimp only;omega) | (show _ < _;simp;omega))⟩
  ·have hjn:((M.getD i []).map fun x=>x % p).take j = (M.getD i []).map fun x=>x % p:=List.take_of_length_le (by rw [List.length_map,hri];omega)
   rw [hjn] at r22b
   simp (maxSteps:=9^7) -dsimp only [↓gp,gq,reduceCtorEq,reduceEqDiff,reduceLT,reduceLeDiff,reduceAdd,reduceMul,reduceSub,Nat.reduceBEq,Int.reduceToNat,Int.reduceLE,Int.reduceLT,Int.reduceNeg,reduceMod,gT,h0b,h1b,h6b,h7b,h8b,r22b,h9b,ht2.top]
   refine ⟨by omega,zwa (k:=15) (v:=i + 1 + 1) (e:=22) (e2:=3) (n:=i) (d:=22) (vd:=u) (M:=zgd p (M.take i)) (r:=(M.getD i []).map fun x=>x % p) (by simp (maxSteps:=9^7) -dsimp only [gr,reduceEqDiff,reduceLT,reduceAdd,reduceMod,Nat.reduceBEq,ht2.top]) hlen (fun j hj=>by simp (maxSteps:=9^7) -dsimp only [gr,reduceEqDiff,reduceLT,reduceAdd,reduceMod,Nat.reduceBEq,ht2.row j hj]) (fun j hj=>by simp (maxSteps:=9^7) -dsimp only [gr,reduceEqDiff,reduceLT,reduceAdd,reduceMod,Nat.reduceBEq,ht2.rest j hj]) (by simp (maxSteps:=9^7) -dsimp only [gr,reduceEqDiff,reduceLT,reduceAdd,reduceMod,Nat.reduceBEq,h0b,h1b,h6b,h7b,h8b,r22b,h9b]) (by decide) (by decide) (i + 1) (fun sX htX hslX hoX=>(by refine ⟨?_,?_,?_,?_,⟨by omega,(zqY p h ▸ htX:TabG _ _ _ _ _ _ _)⟩⟩ <;> (first | (simp (maxSteps:=9^7) -dsimp only [gr,reduceEqDiff,reduceLT,reduceAdd,reduceMod,Nat.reduceBEq,hslX,hoX,h0a,h1a,h6a,h7a,h0b,h1b,h6b,h7b,h8b,r22b,h9b,zaa h (by omega)];first | done | rfl | (simp;done)) | assumption | rfl))) (by first | omega | (simp only;omega) | (dsimp only;omega) | (show _ < _;simp;omega))⟩
 ·have:i = M.length:=by omega
  subst this
  rw [List.take_length] at ht
  have htI:=ht.done
  have hmok:=zsc (p:=p) (by omega) hr
  have hml:=zdd p M
  generalize zgd p M = R at *
  refine zah (fun (zc:Mat × List Nat × Nat × List Nat × Nat) s=>match zc with | (cur,piv,col,q,v)=>s.sl 1 = int p∧s.sl 6 = .own 15 (M.length + 1)∧s.sl 10 = .own 48 v∧s.rw 48 = ⟨v,.sli 3 1 false (iL (ofN piv))⟩∧s.sl 11 = int col∧(col ≤ n∧MatOk p n cur∧cur.length = M.length∧piv.length ≤ M.length∧TabI s.rw 15 (M.length + 1) 22 3 q cur∧q.Perm (List.range M.length)∧zf4 p R [] 0 n = zf4 p cur piv col (n - col))) (fun (cur,piv,col,q,v)=>n - col) ((R,[],0,List.range M.length,(sa.rw 48).ver + 1)) (by refine ⟨?_,?_,?_,?_,?_,⟨by omega,hmok,hml,by simp,htI.same (by simp (maxSteps:=9^7) -dsimp only [gr,reduceEqDiff,reduceLT,reduceAdd,reduceMod,Nat.reduceBEq]) (fun x=>by simp (maxSteps:=9^7) -dsimp only [gr,reduceEqDiff,reduceLT,reduceAdd,reduceMod,Nat.reduceBEq]),List.Perm.refl _,rfl⟩⟩ <;> (first | (simp (maxSteps:=9^7) -dsimp only [gr,reduceEqDiff,reduceLT,reduceAdd,reduceMod,Nat.reduceBEq,h0a,h1a,h6a,h7a];first | done | rfl | (simp;done)) | assumption | rfl)) ?_
  intro (cur,piv,col,q,v) sc ⟨h1c,h6c,h10c,r48c,h11c,hIc⟩
  obtain ⟨hcol,hcur,hlc,hpl,htc,hperm,hred⟩:=hIc
  have hlq:q.length = cur.length:=htc.len
  simp (maxSteps:=9^7) -dsimp only [↓gp,gq,reduceCtorEq,reduceEqDiff,reduceLT,reduceLeDiff,reduceAdd,reduceMul,reduceSub,Nat.reduceBEq,Int.reduceToNat,Int.reduceLE,Int.reduceLT,Int.reduceNeg,reduceMod,gT,h1c,h6c,h10c,r48c,h11c,htc.top,hlq,zad]
  refine ⟨fun h0=>?_,fun h0=>?_⟩
  ·have h0:0 < cur.length:=by omega
   have hr0:=htc.row h0
   have hl0:=hcur.len 0 h0
   simp (maxSteps:=9^7) -dsimp only [↓gp,gq,reduceCtorEq,reduceEqDiff,reduceLT,reduceLeDiff,reduceAdd,reduceMul,reduceSub,Nat.reduceBEq,Int.reduceToNat,Int.reduceLE,Int.reduceLT,Int.reduceNeg,reduceMod,gT,h1c,h6c,h10c,r48c,h11c,htc.top,hlq,zad,hr0,hl0]
   refine ⟨by omega,h0,fun h1=>⟨fun h2=>?_,fun h2=>?_⟩,fun h1=>?_⟩
   ·rw [zu8 h1 h2] at hred
    refine zah (fun (a:Nat) s=>s.sl 1 = int p∧s.sl 6 = .own 15 (M.length + 1)∧s.sl 10 = .own 48 v∧s.rw 48 = ⟨v,.sli 3 1 false (iL (ofN piv))⟩∧s.sl 11 = int col∧s.sl 12 = int piv.length∧s.sl 13 = int a∧(piv.length ≤ a∧a ≤ cur.length∧za6 cur col piv.length (cur.length - piv.length) = za6 cur col a (cur.length - a)∧TabI s.rw 15 (M.length + 1) 22 3 q cur)) (fun a=>cur.length - a) (piv.length) (by refine ⟨?_,?_,?_,?_,?_,?_,?_,⟨by omega,by omega,rfl,htc.same (by simp (maxSteps:=9^7) -dsimp only [gr,reduceEqDiff,reduceLT,reduceAdd,reduceMod,Nat.reduceBEq]) (fun x=>by simp (maxSteps:=9^7) -dsimp only [gr,reduceEqDiff,reduceLT,reduceAdd,reduceMod,Nat.reduceBEq])⟩⟩ <;> (first | (simp (maxSteps:=9^7) -dsimp only [gr,reduceEqDiff,reduceLT,reduceAdd,reduceMod,Nat.reduceBEq,h1c,h6c,h10c,r48c,h11c];first | done | rfl | (simp;done)) | assumption | rfl)) ?_
    intro a sd ⟨h1d,h6d,h10d,r48d,h11d,h12d,h13d,hId⟩
    obtain ⟨ha1,ha2,hfind,htb⟩:=hId
    have stop:(¬ a < cur.length ∨ ¬ (cur.getD a []).getD col 0 = 0)→za6 cur col piv.length (cur.length - piv.length) = a:=fun h=>by
     rw [hfind]
     by_cases hlt:a < cur.length
     ·rw [zg3 hlt,if_neg (h.resolve_left (by omega))]
     ·rw [show cur.length - a = 0 by omega];rfl
    simp (maxSteps:=9^7) -dsimp only [↓gp,gq,reduceCtorEq,reduceEqDiff,reduceLT,reduceLeDiff,reduceAdd,reduceMul,reduceSub,Nat.reduceBEq,Int.reduceToNat,Int.reduceLE,Int.reduceLT,Int.reduceNeg,reduceMod,gT,h1d,h6d,h10d,r48d,h11d,h12d,h13d,htb.top,hlq]
    refine ⟨fun h3=>?_,fun h3=>?_⟩
    ·have hra:=htb.row h3
     have hlen:=hcur.len a h3
     simp (maxSteps:=9^7) -dsimp only [↓gp,gq,reduceCtorEq,reduceEqDiff,reduceLT,reduceLeDiff,reduceAdd,reduceMul,reduceSub,Nat.reduceBEq,Int.reduceToNat,Int.reduceLE,Int.reduceLT,Int.reduceNeg,reduceMod,gT,h1d,h6d,h10d,r48d,h11d,h12d,h13d,htb.top,hlq,hra]
     refine ⟨h3,h3,by omega,by omega,fun hz=>?_,fun hz=>?_⟩
     ·have hz:=beq_iff_eq.1 hz
      rw [zg3 h3,if_pos hz] at hfind
      exact zac (a + 1) (by refine ⟨?_,?_,?_,?_,?_,?_,?_,⟨by omega,by omega,hfind,htb.same (by simp (maxSteps:=9^7) -dsimp only [gr,reduceEqDiff,reduceLT,reduceAdd,reduceMod,Nat.reduceBEq]) (fun x=>by simp (maxSteps:=9^7) -dsimp only [gr,reduceEqDiff,reduceLT,reduceAdd,reduceMod,Nat.reduceBEq])⟩⟩ <;> (first | (simp (maxSteps:=9^7) -dsimp only [gr,reduceEqDiff,reduceLT,reduceAdd,reduceMod,Nat.reduceBEq,h1d,h6d,h10d,r48d,h11d,h12d,h13d,zaa h3 (by omega)];first | done | rfl | (simp;done)) | assumption | rfl)) (by first | omega | (simp only;omega) | (dsimp only;omega) | (show _ < _;simp;omega))
     ·have hz:¬ (cur.getD a []).getD col 0 = 0:=by simpa using hz
      have hfa:=stop (.inr hz)
      have hne':((a:Int) == (cur.length:Int)) = false:=by simp;omega
      have hst:zbe p cur col piv = (zdc p piv.length col (swp cur piv.length a),piv ++ [col]):=by unfold zbe;rw [hfa,if_neg (by omega)]
      rw [hst] at hred
      have hrd:=htb.row h2
      simp (maxSteps:=9^7) -dsimp only [↓gp,gq,reduceCtorEq,reduceEqDiff,reduceLT,reduceLeDiff,reduceAdd,reduceMul,reduceSub,Nat.reduceBEq,Int.reduceToNat,Int.reduceLE,Int.reduceLT,Int.reduceNeg,reduceMod,gT,h1d,h6d,h10d,r48d,h11d,h12d,h13d,htb.top,hlq,hra,hne',hrd]
      have hsw:=zu1 hcur h2 h3
      have hswl:(swp cur piv.length a).length = cur.length:=zbU _ _ _
      have hqp:((q.set a (q.getD piv.length 0)).set piv.length (q.getD a 0)).Perm q:=by
       have e1:q.getD piv.length 0 = q[piv.length]'(by omega):=by simp [List.getD,(by omega:piv.length < q.length)]
       have e2:q.getD a 0 = q[a]'(by omega):=by simp [List.getD,(by omega:a < q.length)]
       rw [e1,e2];exact List.set_set_perm (by omega) (by omega)
      have hclr:=zkN (swp cur piv.length a) n piv.length col p hp hsw (by omega) h1 hn
      refine ⟨h3,h3,h2,h2,h3,by omega,h2,by omega,zDK hclr (by repeat (first | exact GiveL.nil | refine GiveL.v ?_ | refine GiveL.clo ?_ | refine GiveL.own 0 rfl ?_ | refine GiveL.own 1 rfl ?_ | refine GiveL.ag ?_ ?_)) ((htb.swap h3 h2 (by simp (maxSteps:=9^7) -dsimp only [gr,reduceEqDiff,reduceLT,reduceAdd,reduceMod,Nat.reduceBEq,h1d,h6d,h10d,r48d,h11d,h12d,h13d]) (fun x=>by simp (maxSteps:=9^7) -dsimp only [gr,reduceEqDiff,reduceLT,reduceAdd,reduceMod,Nat.reduceBEq,h1d,h6d,h10d,r48d,h11d,h12d,h13d])).1.to (zBD cur a piv.length)).is (hqp.nodup_iff.2 htb.nd) (fun p' hp'=>?_)⟩
      simp (maxSteps:=9^7) -dsimp only [↓gp,gq,reduceCtorEq,reduceEqDiff,reduceLT,reduceLeDiff,reduceAdd,reduceMul,reduceSub,Nat.reduceBEq,Int.reduceToNat,Int.reduceLE,Int.reduceLT,Int.reduceNeg,reduceMod,gT,h1d,h6d,h10d,r48d,h11d,h12d,h13d,zad]
      refine ⟨by omega,?_⟩
      have hnd':p'.Nodup:=hp'.nodup_iff.2 (hqp.nodup_iff.2 htb.nd)
      have hcl:=zqM (p:=p) (at':=piv.length) (col:=col) (by omega) hsw (by omega)
      have hcll:=za8 p piv.length col (swp cur piv.length a)
      have hp'l:p'.length = cur.length:=by rw [hp'.length_eq,hqp.length_eq,hlq]
      exact zac ((zdc p piv.length col (swp cur piv.length a),piv ++ [col],col + 1,p',v + 1)) (by refine ⟨?_,?_,?_,?_,?_,⟨by dsimp only;omega,hcl,by dsimp only;rw [hcll,hswl,hlc],by simp;omega,⟨⟨by simp (maxSteps:=9^7) -dsimp only [gr,reduceEqDiff,reduceLT,reduceAdd,reduceMod,Nat.reduceBEq],by simp [hp'l,hcll,hswl],fun i hi=>by simp (maxSteps:=9^7) -dsimp only [gr,reduceEqDiff,reduceLT,reduceAdd,reduceMod,Nat.reduceBEq,zwb hnd' hi,zcM]⟩,hnd'⟩,hp'.trans (hqp.trans hperm),hred⟩⟩ <;> (first | (simp (maxSteps:=9^7) -dsimp only [gr,reduceEqDiff,reduceLT,reduceAdd,reduceMod,Nat.reduceBEq,h1c,h6c,h10c,r48c,h11c,h1d,h6d,h10d,r48d,h11d,h12d,h13d,zaa h1 (by omega),zaR,zdA];first | done | rfl | (simp;done)) | assumption | rfl)) (by first | omega | (simp only;omega) | (dsimp only;omega) | (show _ < _;simp;omega))
    ·have hfa:=stop (.inl (by omega))
     have:a = cur.length:=by omega
     subst this
     have hst:zbe p cur col piv = (cur,piv):=by unfold zbe;rw [if_pos hfa]
     rw [hst] at hred
     simp (maxSteps:=9^7) -dsimp only [↓gp,gq,reduceCtorEq,reduceEqDiff,reduceLT,reduceLeDiff,reduceAdd,reduceMul,reduceSub,Nat.reduceBEq,Int.reduceToNat,Int.reduceLE,Int.reduceLT,Int.reduceNeg,reduceMod,gT,h1d,h6d,h10d,r48d,h11d,h12d,h13d,htb.top,hlq]
     exact zac ((cur,piv,col + 1,q,v)) (by refine ⟨?_,?_,?_,?_,?_,⟨by dsimp only;omega,hcur,hlc,by dsimp only;omega,htb.same (by simp (maxSteps:=9^7) -dsimp only [gr,reduceEqDiff,reduceLT,reduceAdd,reduceMod,Nat.reduceBEq]) (fun x=>by simp (maxSteps:=9^7) -dsimp only [gr,reduceEqDiff,reduceLT,reduceAdd,reduceMod,Nat.reduceBEq]),hperm,hred⟩⟩ <;> (first | (simp (maxSteps:=9^7) -dsimp only [gr,reduceEqDiff,reduceLT,reduceAdd,reduceMod,Nat.reduceBEq,h1c,h6c,h10c,r48c,h11c,h1d,h6d,h10d,r48d,h11d,h12d,h13d,zaa h1 (by omega)];first | done | rfl | (simp;done)) | assumption | rfl)) (by first | omega | (simp only;omega) | (dsimp only;omega) | (show _ < _;simp;omega))
   ·have hf:zf4 p cur piv col (n - col) = (cur,piv):=zky p cur piv col (n - col) h2
    rw [hf] at hred
    rw [hred]
    simp (maxSteps:=9^7) -dsimp only [↓gp,gq,reduceCtorEq,reduceEqDiff,reduceLT,reduceLeDiff,reduceAdd,reduceMul,reduceSub,Nat.reduceBEq,Int.reduceToNat,Int.reduceLE,Int.reduceLT,Int.reduceNeg,reduceMod,gT,h1c,h6c,h10c,r48c,h11c]
    have hq9:∀ j ∈ q,j < 998:=fun j hj=>by have:=List.mem_range.1 (hperm.mem_iff.1 hj);omega
    refine zkD htc (by decide) hq9 ?_
    simp (maxSteps:=9^7) -dsimp only [↓gp,gq,reduceCtorEq,reduceEqDiff,reduceLT,reduceLeDiff,reduceAdd,reduceMul,reduceSub,Nat.reduceBEq,Int.reduceToNat,Int.reduceLE,Int.reduceLT,Int.reduceNeg,reduceMod,gT,h1c,h6c,h10c,r48c,h11c]
    exact zkE htc.nd (fun j hj=>by rw [zbu];omega) (by decide)
   ·have hf:zf4 p cur piv col (n - col) = (cur,piv):=by rw [show n - col = 0 by omega];rfl
    rw [hf] at hred
    rw [hred]
    simp (maxSteps:=9^7) -dsimp only [↓gp,gq,reduceCtorEq,reduceEqDiff,reduceLT,reduceLeDiff,reduceAdd,reduceMul,reduceSub,Nat.reduceBEq,Int.reduceToNat,Int.reduceLE,Int.reduceLT,Int.reduceNeg,reduceMod,gT,h1c,h6c,h10c,r48c,h11c]
    have hq9:∀ j ∈ q,j < 998:=fun j hj=>by have:=List.mem_range.1 (hperm.mem_iff.1 hj);omega
    refine zkD htc (by decide) hq9 ?_
    simp (maxSteps:=9^7) -dsimp only [↓gp,gq,reduceCtorEq,reduceEqDiff,reduceLT,reduceLeDiff,reduceAdd,reduceMul,reduceSub,Nat.reduceBEq,Int.reduceToNat,Int.reduceLE,Int.reduceLT,Int.reduceNeg,reduceMod,gT,h1c,h6c,h10c,r48c,h11c]
    exact zkE htc.nd (fun j hj=>by rw [zbu];omega) (by decide)
  ·have hf:zf4 p cur piv col (n - col) = (cur,piv):=zky p cur piv col (n - col) (by omega)
   rw [hf] at hred
   rw [hred]
   simp (maxSteps:=9^7) -dsimp only [↓gp,gq,reduceCtorEq,reduceEqDiff,reduceLT,reduceLeDiff,reduceAdd,reduceMul,reduceSub,Nat.reduceBEq,Int.reduceToNat,Int.reduceLE,Int.reduceLT,Int.reduceNeg,reduceMod,gT,h1c,h6c,h10c,r48c,h11c]
   have hq9:∀ j ∈ q,j < 998:=fun j hj=>by have:=List.mem_range.1 (hperm.mem_iff.1 hj);omega
   refine zkD htc (by decide) hq9 ?_
   simp (maxSteps:=9^7) -dsimp only [↓gp,gq,reduceCtorEq,reduceEqDiff,reduceLT,reduceLeDiff,reduceAdd,reduceMul,reduceSub,Nat.reduceBEq,Int.reduceToNat,Int.reduceLE,Int.reduceLT,Int.reduceNeg,reduceMod,gT,h1c,h6c,h10c,r48c,h11c]
   exact zkE htc.nd (fun j hj=>by rw [zbu];omega) (by decide)
theorem zzV (s:St) (d e e2 e' sz:Nat) (rows:List (List PV)) (c:List PV):(zak s d (.tup [.tb e e2 rows,.fr e' sz c])).sl d = .tup [.own d ((s.rw d).ver + 1),.own (sid d rows.length) ((s.rw (sid d rows.length)).ver + 1)] ∧
 (zak s d (.tup [.tb e e2 rows,.fr e' sz c])).rw (sid d rows.length) = ⟨(s.rw (sid d rows.length)).ver + 1,.sli e' sz false c⟩:=by
 have hl:(zag (.tb e e2 rows)).length = rows.length + 1:=by rw [zag];simp
 have hd:zaj d 0 = d:=by unfold zaj;omega
 have hs:zaj d (0 + (rows.length + 1)) = sid d rows.length:=by rw [Nat.zero_add];rfl
 constructor
 ·unfold zak
  rw [zav]
  simp only [zaS,zce,zbv,zbK,hl,hd,hs]
 ·have hrw:(zak s d (.tup [.tb e e2 rows,.fr e' sz c])).rw = zhu s.rw d (zbj s.rw d (zag (.tup [.tb e e2 rows,.fr e' sz c])) 0) 0:=by
   unfold zak;rw [zeq];exact zc2 _ _ _ _
  have hlv:zag (.tup [.tb e e2 rows,.fr e' sz c]) = zag (.tb e e2 rows) ++ [(e',some sz,c)]:=by rw [zbH];simp [zag]
  have h2:rows.length + 1 < (zag (.tup [.tb e e2 rows,.fr e' sz c])).length:=by rw [hlv];simp [hl]
  have h1:rows.length + 1 < (zbj s.rw d (zag (.tup [.tb e e2 rows,.fr e' sz c])) 0).length:=by rw [zbk];exact h2
  have:=zdx s.rw d (zbj s.rw d (zag (.tup [.tb e e2 rows,.fr e' sz c])) 0) 0 (rows.length + 1) h1
  rw [hs] at this
  rw [hrw,this,zdN _ _ _ _ _ h2,hs]
  have h3:(zag (.tup [.tb e e2 rows,.fr e' sz c]))[rows.length + 1] = (e',some sz,c):=by
   simp only [hlv]
   rw [List.getElem_append_right (by omega)]
   simp [hl]
  rw [h3]
  rfl
theorem zlp (M:Mat) (p:Int) (hp:isP p = true) (hM:M.length ≤ 900) (hr:∀ i,i < M.length→(M.getD i []).length = (M.getD 0 []).length) (hn:(M.getD 0 []).length ≤ 1000):AC Tryz.prog 91 [zAL M,int p] (.im (int (zn1 p M))):=by
 refine AC.go (rs:=[.tmp 4]) zaL mixed Tryz.func91 rfl rfl rfl (by kernel_rfl) fun hl=>?_
 simp (maxSteps:=9^7) -dsimp only [↓gp,gq,reduceCtorEq,reduceEqDiff,reduceLT,reduceLeDiff,reduceAdd,reduceMul,reduceSub,Nat.reduceBEq,Int.reduceToNat,Int.reduceLE,Int.reduceLT,Int.reduceNeg,reduceMod,gT]
 refine zab (ziA M p hp hM hr hn) ?_
 simp (maxSteps:=9^7) -dsimp only [↓gp,gq,reduceCtorEq,reduceEqDiff,reduceLT,reduceLeDiff,reduceAdd,reduceMul,reduceSub,Nat.reduceBEq,Int.reduceToNat,Int.reduceLE,Int.reduceLT,Int.reduceNeg,reduceMod,gT,zzV,zad]
 rfl
theorem zhI (n:Int) (xs:List Int):AC Tryz.prog 90 [.ag [int n,zaH xs]] (.fr 3 1 (iL (zFm (zbb n xs)))):=by
 refine AC.go (rs:=[.tmp 2]) zaL mixed Tryz.func90 rfl rfl rfl (by kernel_rfl) fun hl=>?_
 simp (maxSteps:=9^7) -dsimp only [↓gp,gq,reduceCtorEq,reduceEqDiff,reduceLT,reduceLeDiff,reduceAdd,reduceMul,reduceSub,Nat.reduceBEq,Int.reduceToNat,Int.reduceLE,Int.reduceLT,Int.reduceNeg,reduceMod,gT]
 refine zab (zcG n xs) ?_
 simp (maxSteps:=9^7) -dsimp only [↓gp,gq,reduceCtorEq,reduceEqDiff,reduceLT,reduceLeDiff,reduceAdd,reduceMul,reduceSub,Nat.reduceBEq,Int.reduceToNat,Int.reduceLE,Int.reduceLT,Int.reduceNeg,reduceMod,gT]
 have hfull:=zcY (zbb n xs)
 have hmem:∀ i,i < (za9 (zbb n xs)).length→(za9 (zbb n xs)).getD i 0 < 64:=fun i h=>zm0 h
 have hmx:=zBM (zbb n xs)
 have hd7:=zcA (zbb n xs)
 unfold zFm
 generalize za9 (zbb n xs) = all at *
 refine zah (fun (za:Nat × Nat × Nat) s=>match za with | (i,v,u)=>s.sl 3 = .own 6 v∧s.rw 6 = ⟨v,.sli 3 1 false (iL (zqV (all.take i) (mxL (all.take i))))⟩∧s.sl 4 = .own 8 u∧s.rw 8 = ⟨u,.sli 3 1 false (iL (ofN all))⟩∧s.sl 5 = int i∧(i ≤ all.length)) (fun (i,v,u)=>all.length - i) ((0,1,1)) (by refine ⟨?_,?_,?_,?_,?_,by simp⟩ <;> (first | (simp (maxSteps:=9^7) -dsimp only [gr,reduceEqDiff,reduceLT,reduceAdd,reduceMod,Nat.reduceBEq,mxL,zqV];first | done | rfl | (simp;done)) | assumption | rfl)) ?_
 intro (i,v,u) sa ⟨h3a,r6a,h4a,r8a,h5a,hIa⟩
 simp (maxSteps:=9^7) -dsimp only [↓gp,gq,reduceCtorEq,reduceEqDiff,reduceLT,reduceLeDiff,reduceAdd,reduceMul,reduceSub,Nat.reduceBEq,Int.reduceToNat,Int.reduceLE,Int.reduceLT,Int.reduceNeg,reduceMod,gT,h3a,r6a,h4a,r8a,h5a,zad]
 refine ⟨fun h=>?_,fun h=>?_⟩
 ·have hi:=hmem i h
  have hge:(ofN all).getD i 0 = ((all.getD i 0:Nat):Int):=zaF h
  have hsn:=zay 0 h
  have hmi:=zBK (all.take i) (all.getD i 0)
  rw [← hsn] at hmi
  have hmle:=zBN (l:=all) (k:=i + 1)
  have hp6:=zbY hi
  refine zah (fun (zb:Nat × Nat) s=>match zb with | (w,m)=>s.sl 3 = .own 6 w∧s.rw 6 = ⟨w,.sli 3 1 false (iL (zqV (all.take i) m))⟩∧s.sl 4 = .own 8 u∧s.rw 8 = ⟨u,.sli 3 1 false (iL (ofN all))⟩∧s.sl 5 = int i∧(mxL (all.take i) ≤ m∧m ≤ mxL (all.take (i + 1)))) (fun (w,m)=>mxL (all.take (i + 1)) - m) ((v,mxL (all.take i))) (by refine ⟨?_,?_,?_,?_,?_,⟨by omega,by omega⟩⟩ <;> (first | (simp (maxSteps:=9^7) -dsimp only [gr,reduceEqDiff,reduceLT,reduceAdd,reduceMod,Nat.reduceBEq,h3a,r6a,h4a,r8a,h5a];first | done | rfl | (simp;done)) | assumption | rfl)) ?_
  intro (w,m) sb ⟨h3b,r6b,h4b,r8b,h5b,hIb⟩
  obtain ⟨hm1,hm2⟩:=hIb
  simp (maxSteps:=9^7) -dsimp only [↓gp,gq,reduceCtorEq,reduceEqDiff,reduceLT,reduceLeDiff,reduceAdd,reduceMul,reduceSub,Nat.reduceBEq,Int.reduceToNat,Int.reduceLE,Int.reduceLT,Int.reduceNeg,reduceMod,gT,h3b,r6b,h4b,r8b,h5b,zad,zcB,hge]
  refine ⟨h,h,zab (zaP _ (by omega)) ?_⟩
  simp (maxSteps:=9^7) -dsimp only [↓gp,gq,reduceCtorEq,reduceEqDiff,reduceLT,reduceLeDiff,reduceAdd,reduceMul,reduceSub,Nat.reduceBEq,Int.reduceToNat,Int.reduceLE,Int.reduceLT,Int.reduceNeg,reduceMod,gT,h3b,r6b,h4b,r8b,h5b,zad,zcB,hge]
  refine ⟨fun h2=>⟨by omega,?_⟩,fun h2=>?_⟩
  ·have e:zqV (all.take i) m ++ [0] = zqV (all.take i) (m + 1):=zzT _ hm1
   exact zac ((w + 1,m + 1)) (by refine ⟨?_,?_,?_,?_,?_,⟨by dsimp only;omega,by dsimp only;omega⟩⟩ <;> (first | (simp (maxSteps:=9^7) -dsimp only [gr,reduceEqDiff,reduceLT,reduceAdd,reduceMod,Nat.reduceBEq,h3b,r6b,h4b,r8b,h5b,e];first | done | rfl | (simp;done)) | assumption | rfl)) (by first | omega | (simp only;omega) | (dsimp only;omega) | (show _ < _;simp;omega))
  ·have hgm:(zqV (all.take i) m).getD (zat (all.getD i 0)) 0 = (zu5 (all.take i) (zat (all.getD i 0)):Int):=zqW _ (by omega)
   have hcl:zu5 (all.take i) (zat (all.getD i 0)) ≤ 448:=by
    have:=List.length_filter_le (fun s=>zat s == zat (all.getD i 0)) (all.take i)
    rw [List.length_take] at this
    unfold zu5;omega
   have hw:IntKind.i64.wrap ((zu5 (all.take i) (zat (all.getD i 0)):Int) + 1) = (zu5 (all.take i) (zat (all.getD i 0)):Int) + 1:=zap (by omega) (by omega)
   have hme:m = mxL (all.take (i + 1)):=by omega
   have hadd:=zBL (all.take i) (all.getD i 0) m (by omega)
   rw [← hsn] at hadd
   refine ⟨by kernel_rfl,h,h,zab (zaP _ (by omega)) ?_⟩
   simp (maxSteps:=9^7) -dsimp only [↓gp,gq,reduceCtorEq,reduceEqDiff,reduceLT,reduceLeDiff,reduceAdd,reduceMul,reduceSub,Nat.reduceBEq,Int.reduceToNat,Int.reduceLE,Int.reduceLT,Int.reduceNeg,reduceMod,gT,h3b,r6b,h4b,r8b,h5b,zad,zcB,hge]
   refine ⟨h,h,zab (zaP _ (by omega)) ?_⟩
   simp (maxSteps:=9^7) -dsimp only [↓gp,gq,reduceCtorEq,reduceEqDiff,reduceLT,reduceLeDiff,reduceAdd,reduceMul,reduceSub,Nat.reduceBEq,Int.reduceToNat,Int.reduceLE,Int.reduceLT,Int.reduceNeg,reduceMod,gT,h3b,r6b,h4b,r8b,h5b,zad,zcB,hge,hgm,hw,hadd]
   refine ⟨by omega,by omega,by omega,by omega,by kernel_rfl,?_⟩
   subst hme
   exact zac ((i + 1,w,u)) (by refine ⟨?_,?_,?_,?_,?_,by dsimp only;omega⟩ <;> (first | (simp (maxSteps:=9^7) -dsimp only [gr,reduceEqDiff,reduceLT,reduceAdd,reduceMod,Nat.reduceBEq,h3a,r6a,h4a,r8a,h5a,h3b,r6b,h4b,r8b,h5b,zaa h (by omega)];first | done | rfl | (simp;done)) | assumption | rfl)) (by first | omega | (simp only;omega) | (dsimp only;omega) | (show _ < _;simp;omega))
 ·have:i = all.length:=by omega
  rw [this,List.take_length,hmx]
theorem zlo (a b:Nat) (ha:a < 64) (hb:b < 64) (hp:zat b = zat a + 1):AC Tryz.prog 118 [int a,int b] (.im (int (zge a b))):=by
 refine AC.go (rs:=[.tmp 4]) zaL mixed Tryz.func118 rfl rfl rfl (by kernel_rfl) fun hl=>?_
 have hpa:=zbY ha
 have hpb:=zbY hb
 have hand:=za7 (a:=a) (b:=b) (by omega) (by omega)
 have hw1:IntKind.i64.wrap ((zat b:Int) - (zat a:Int)) = 1:=by rw [zap (by omega) (by omega)];omega
 simp (maxSteps:=9^7) -dsimp only [↓gp,gq,reduceCtorEq,reduceEqDiff,reduceLT,reduceLeDiff,reduceAdd,reduceMul,reduceSub,Nat.reduceBEq,Int.reduceToNat,Int.reduceLE,Int.reduceLT,Int.reduceNeg,reduceMod,gT,hand]
 refine ⟨fun h=>zab (zaP b (by omega)) ?_,fun h=>?_⟩
 ·have hs:a &&& b = a:=by
   have h9:((a &&& b:Nat):Int) = a:=by simpa using h
   omega
  obtain ⟨hle,hx⟩:=zu7 a ha b hb hs
  simp (maxSteps:=9^7) -dsimp only [↓gp,gq,reduceCtorEq,reduceEqDiff,reduceLT,reduceLeDiff,reduceAdd,reduceMul,reduceSub,Nat.reduceBEq,Int.reduceToNat,Int.reduceLE,Int.reduceLT,Int.reduceNeg,reduceMod,gT]
  refine zab (zaP a (by omega)) ?_
  have hne:a ≠ b:=fun e=>by rw [e] at hp;omega
  have hw2:IntKind.i64.wrap ((b:Int) - (a:Int)) = ((b - a:Nat):Int):=by rw [zap (by omega) (by omega)];omega
  have hw3:IntKind.i64.wrap (((b - a:Nat):Int) - 1) = ((b - a - 1:Nat):Int):=by rw [zap (by omega) (by omega)];omega
  have hand2:=za7 (a:=b) (b:=b - a - 1) (by omega) (by omega)
  have hlt:b &&& (b - a - 1) < 64:=by have:b &&& (b - a - 1) ≤ b:=Nat.and_le_left;omega
  have hp6:=zbY hlt
  have h11:((1:Int) != 1) = false:=rfl
  simp (maxSteps:=9^7) -dsimp only [↓gp,gq,reduceCtorEq,reduceEqDiff,reduceLT,reduceLeDiff,reduceAdd,reduceMul,reduceSub,Nat.reduceBEq,Int.reduceToNat,Int.reduceLE,Int.reduceLT,Int.reduceNeg,reduceMod,gT,hw1,hw2,hw3,hand2,h11]
  refine zab (zaP _ (by omega)) ?_
  have hmod:((zat (b &&& (b - a - 1)):Nat):Int).tmod 2 = ((zat (b &&& (b - a - 1)) % 2:Nat):Int):=by rw [zee (by omega)];omega
  have hw4:IntKind.i64.wrap (2 * ((zat (b &&& (b - a - 1)) % 2:Nat):Int)) = 2 * ((zat (b &&& (b - a - 1)) % 2:Nat):Int):=zap (by omega) (by omega)
  have hw5:IntKind.i64.wrap (1 - 2 * ((zat (b &&& (b - a - 1)) % 2:Nat):Int)) = 1 - 2 * ((zat (b &&& (b - a - 1)) % 2:Nat):Int):=zap (by omega) (by omega)
  simp (maxSteps:=9^7) -dsimp only [↓gp,gq,reduceCtorEq,reduceEqDiff,reduceLT,reduceLeDiff,reduceAdd,reduceMul,reduceSub,Nat.reduceBEq,Int.reduceToNat,Int.reduceLE,Int.reduceLT,Int.reduceNeg,reduceMod,gT,hmod,hw4,hw5]
  unfold zge
  rw [if_pos hs]
  split <;> omega
 ·have hs:¬ a &&& b = a:=by
   intro e
   rw [e] at h
   simp at h
  unfold zge
  rw [if_neg hs]
theorem zmZ {l h:List Nat} {i:Nat} (hi:i < l.length):zbQ (l.take i) h ++ [h.map fun b=>zge (l.getD i 0) b] = zbQ (l.take (i + 1)) h:=by
 rw [zay 0 hi];simp [zbQ]
theorem ziy (n:Int) (xs:List Int) (k:Nat) (hk:1 ≤ k) (hk7:k ≤ 7):AC Tryz.prog 92 [.ag [int n,zaH xs],int k] (.fr 22 1 (iLL (zbQ (zaN (zbb n xs) (k - 1) 64) (zaN (zbb n xs) k 64)))):=by
 refine AC.go (rs:=[.tmp 4]) zaL mixed Tryz.func92 rfl rfl rfl (by kernel_rfl) fun hl=>?_
 have hw1:IntKind.i64.wrap ((k:Int) - 1) = ((k - 1:Nat):Int):=by rw [zap (by omega) (by omega)];omega
 simp (maxSteps:=9^7) -dsimp only [↓gp,gq,reduceCtorEq,reduceEqDiff,reduceLT,reduceLeDiff,reduceAdd,reduceMul,reduceSub,Nat.reduceBEq,Int.reduceToNat,Int.reduceLE,Int.reduceLT,Int.reduceNeg,reduceMod,gT,hw1]
 refine zab (zcb n xs (k - 1)) ?_
 simp (maxSteps:=9^7) -dsimp only [↓gp,gq,reduceCtorEq,reduceEqDiff,reduceLT,reduceLeDiff,reduceAdd,reduceMul,reduceSub,Nat.reduceBEq,Int.reduceToNat,Int.reduceLE,Int.reduceLT,Int.reduceNeg,reduceMod,gT]
 refine zab (zcb n xs k) ?_
 simp (maxSteps:=9^7) -dsimp only [↓gp,gq,reduceCtorEq,reduceEqDiff,reduceLT,reduceLeDiff,reduceAdd,reduceMul,reduceSub,Nat.reduceBEq,Int.reduceToNat,Int.reduceLE,Int.reduceLT,Int.reduceNeg,reduceMod,gT]
 have hl1:=zb5 (zbb n xs) (k - 1) (Nat.le_refl 64)
 have hl2:=zb5 (zbb n xs) k (Nat.le_refl 64)
 have hm1:∀ i,i < (zaN (zbb n xs) (k - 1) 64).length→(zaN (zbb n xs) (k - 1) 64).getD i 0 < 64∧zat ((zaN (zbb n xs) (k - 1) 64).getD i 0) = k - 1:=fun i hi=>by
  have:=zbW.1 (zan 0 hi);exact ⟨this.1,this.2.2⟩
 have hm2:∀ i,i < (zaN (zbb n xs) k 64).length→(zaN (zbb n xs) k 64).getD i 0 < 64∧zat ((zaN (zbb n xs) k 64).getD i 0) = k:=fun i hi=>by
  have:=zbW.1 (zan 0 hi);exact ⟨this.1,this.2.2⟩
 generalize zaN (zbb n xs) (k - 1) 64 = lo at *
 generalize zaN (zbb n xs) k 64 = hi at *
 refine zah (fun (za:Nat × Nat × Nat × Nat) s=>match za with | (i,v,a,b)=>s.sl 5 = .own 11 v∧s.rw 11 = ⟨v,.sli 22 1 false (iLL (zbQ (lo.take i) hi))⟩∧s.sl 6 = .own 15 a∧s.rw 15 = ⟨a,.sli 3 1 false (iL (ofN lo))⟩∧s.sl 7 = .own 18 b∧s.rw 18 = ⟨b,.sli 3 1 false (iL (ofN hi))⟩∧s.sl 8 = int i∧(i ≤ lo.length)) (fun (i,v,a,b)=>lo.length - i) ((0,1,1,1)) (by refine ⟨?_,?_,?_,?_,?_,?_,?_,by simp⟩ <;> (first | (simp (maxSteps:=9^7) -dsimp only [gr,reduceEqDiff,reduceLT,reduceAdd,reduceMod,Nat.reduceBEq,zbQ,iLL];first | done | rfl | (simp;done)) | assumption | rfl)) ?_
 intro (i,v,a,b) sa ⟨h5a,r11a,h6a,r15a,h7a,r18a,h8a,hIa⟩
 have hbl:(zbQ (lo.take i) hi).length = min i lo.length:=by rw [zci,List.length_take]
 simp (maxSteps:=9^7) -dsimp only [↓gp,gq,reduceCtorEq,reduceEqDiff,reduceLT,reduceLeDiff,reduceAdd,reduceMul,reduceSub,Nat.reduceBEq,Int.reduceToNat,Int.reduceLE,Int.reduceLT,Int.reduceNeg,reduceMod,gT,h5a,r11a,h6a,r15a,h7a,r18a,h8a,zad]
 refine ⟨fun h=>?_,fun h=>?_⟩
 ·have hge:(ofN lo).getD i 0 = ((lo.getD i 0:Nat):Int):=zaF h
  refine zah (fun (zb:Nat × Nat) s=>match zb with | (j,u)=>s.sl 5 = .own 11 v∧s.rw 11 = ⟨v,.sli 22 1 false (iLL (zbQ (lo.take i) hi))⟩∧s.sl 6 = .own 15 a∧s.rw 15 = ⟨a,.sli 3 1 false (iL (ofN lo))⟩∧s.sl 7 = .own 18 b∧s.rw 18 = ⟨b,.sli 3 1 false (iL (ofN hi))⟩∧s.sl 8 = int i∧s.sl 9 = .own 25 u∧s.rw 25 = ⟨u,.sli 3 1 false (iL ((hi.take j).map fun b=>zge (lo.getD i 0) b))⟩∧s.sl 10 = int j∧(j ≤ hi.length)) (fun (j,u)=>hi.length - j) ((0,(sa.rw 25).ver + 1)) (by refine ⟨?_,?_,?_,?_,?_,?_,?_,?_,?_,?_,by omega⟩ <;> (first | (simp (maxSteps:=9^7) -dsimp only [gr,reduceEqDiff,reduceLT,reduceAdd,reduceMod,Nat.reduceBEq,h5a,r11a,h6a,r15a,h7a,r18a,h8a];first | done | rfl | (simp;done)) | assumption | rfl)) ?_
  intro (j,u) sb ⟨h5b,r11b,h6b,r15b,h7b,r18b,h8b,h9b,r25b,h10b,hIb⟩
  simp (maxSteps:=9^7) -dsimp only [↓gp,gq,reduceCtorEq,reduceEqDiff,reduceLT,reduceLeDiff,reduceAdd,reduceMul,reduceSub,Nat.reduceBEq,Int.reduceToNat,Int.reduceLE,Int.reduceLT,Int.reduceNeg,reduceMod,gT,h5b,r11b,h6b,r15b,h7b,r18b,h8b,h9b,r25b,h10b,zad]
  refine ⟨fun h2=>?_,fun h2=>?_⟩
  ·have hge2:(ofN hi).getD j 0 = ((hi.getD j 0:Nat):Int):=zaF h2
   have ha:=hm1 i h
   have hb:=hm2 j h2
   simp (maxSteps:=9^7) -dsimp only [↓gp,gq,reduceCtorEq,reduceEqDiff,reduceLT,reduceLeDiff,reduceAdd,reduceMul,reduceSub,Nat.reduceBEq,Int.reduceToNat,Int.reduceLE,Int.reduceLT,Int.reduceNeg,reduceMod,gT,h5b,r11b,h6b,r15b,h7b,r18b,h8b,h9b,r25b,h10b,zad,hge,hge2]
   refine ⟨by kernel_rfl,h,h,h2,h2,zab (zlo _ _ ha.1 hb.1 (by omega)) ?_⟩
   simp (maxSteps:=9^7) -dsimp only [↓gp,gq,reduceCtorEq,reduceEqDiff,reduceLT,reduceLeDiff,reduceAdd,reduceMul,reduceSub,Nat.reduceBEq,Int.reduceToNat,Int.reduceLE,Int.reduceLT,Int.reduceNeg,reduceMod,gT,h5b,r11b,h6b,r15b,h7b,r18b,h8b,h9b,r25b,h10b,zad,hge,hge2]
   have e:(hi.take (j + 1)).map (fun b=>zge (lo.getD i 0) b) = (hi.take j).map (fun b=>zge (lo.getD i 0) b) ++ [zge (lo.getD i 0) (hi.getD j 0)]:=by rw [zay 0 h2];simp
   refine ⟨by rw [List.length_map,List.length_take];omega,by kernel_rfl,?_⟩
   exact zac ((j + 1,u + 1)) (by refine ⟨?_,?_,?_,?_,?_,?_,?_,?_,?_,?_,by dsimp only;omega⟩ <;> (first | (simp (maxSteps:=9^7) -dsimp only [gr,reduceEqDiff,reduceLT,reduceAdd,reduceMod,Nat.reduceBEq,h5b,r11b,h6b,r15b,h7b,r18b,h8b,h9b,r25b,h10b,zaa h2 (by omega),e];first | done | rfl | (simp;done)) | assumption | rfl)) (by first | omega | (simp only;omega) | (dsimp only;omega) | (show _ < _;simp;omega))
  ·have hj:j = hi.length:=by omega
   subst hj
   rw [List.take_length] at r25b
   refine zHB ?_
   simp (maxSteps:=9^7) -dsimp only [↓gp,gq,reduceCtorEq,reduceEqDiff,reduceLT,reduceLeDiff,reduceAdd,reduceMul,reduceSub,Nat.reduceBEq,Int.reduceToNat,Int.reduceLE,Int.reduceLT,Int.reduceNeg,reduceMod,gT,h5b,r11b,h6b,r15b,h7b,r18b,h8b,h9b,r25b,h10b,hbl,zhk]
   have e:=zmZ (h:=hi) h
   refine ⟨by omega,?_⟩
   exact zac ((i + 1,v + 1,a,b)) (by refine ⟨?_,?_,?_,?_,?_,?_,?_,by dsimp only;omega⟩ <;> (first | (simp (maxSteps:=9^7) -dsimp only [gr,reduceEqDiff,reduceLT,reduceAdd,reduceMod,Nat.reduceBEq,h5a,r11a,h6a,r15a,h7a,r18a,h8a,h5b,r11b,h6b,r15b,h7b,r18b,h8b,h9b,r25b,h10b,zaa h (by omega),zng,e];first | done | rfl | (simp;done)) | assumption | rfl)) (by first | omega | (simp only;omega) | (dsimp only;omega) | (show _ < _;simp;omega))
 ·have:i = lo.length:=by omega
  rw [this,List.take_length]
theorem zGI {f:Nat→Bool} {p:Int} {k:Nat} (h:k + 1 < zbh f):rkF f p (k + 1) = zn1 p (zbQ (zaN f k 64) (zaN f (k + 1) 64)):=by
 unfold rkF
 rw [if_neg (by omega)];rfl
theorem zzP {f:Nat→Bool} {p:Int} {k:Nat} (h:zbh f ≤ k):rkF f p k = 0:=by
 unfold rkF
 rw [if_pos (.inr h)]
def zHq (f:Nat→Bool) (p:Int):List Int:=if isP p = true then zf5 f p else []
theorem zkH (n:Int) (xs:List Int) (p:Int):AC Tryz.prog 64 [.ag [int n,zaH xs],int p] (.fr 3 1 (iL (zHq (zbb n xs) p))):=by
 refine AC.go (rs:=[.tmp 4]) zaL mixed Tryz.func64 rfl rfl rfl (by kernel_rfl) fun hl=>?_
 simp (maxSteps:=9^7) -dsimp only [↓gp,gq,reduceCtorEq,reduceEqDiff,reduceLT,reduceLeDiff,reduceAdd,reduceMul,reduceSub,Nat.reduceBEq,Int.reduceToNat,Int.reduceLE,Int.reduceLT,Int.reduceNeg,reduceMod,gT]
 refine zab (zhI n xs) ?_
 simp (maxSteps:=9^7) -dsimp only [↓gp,gq,reduceCtorEq,reduceEqDiff,reduceLT,reduceLeDiff,reduceAdd,reduceMul,reduceSub,Nat.reduceBEq,Int.reduceToNat,Int.reduceLE,Int.reduceLT,Int.reduceNeg,reduceMod,gT]
 refine zab (zcc p) ?_
 simp (maxSteps:=9^7) -dsimp only [↓gp,gq,reduceCtorEq,reduceEqDiff,reduceLT,reduceLeDiff,reduceAdd,reduceMul,reduceSub,Nat.reduceBEq,Int.reduceToNat,Int.reduceLE,Int.reduceLT,Int.reduceNeg,reduceMod,gT]
 unfold zHq
 refine ⟨fun hp=>?_,fun hp=>?_⟩
 ·have hp:isP p = false:=by simpa using hp
  rw [hp];rfl
 ·have hp:isP p = true:=by simpa using hp
  rw [if_pos hp]
  have hd7:=zcA (zbb n xs)
  have hfl:=zsf (zbb n xs)
  generalize hf:zbb n xs = f at *
  refine zah (fun (za:Nat × Nat × Nat) s=>match za with | (k,v,w)=>s.sl 1 = int p∧s.sl 2 = .ref 2 1 0∧s.rw 2 = ⟨1,.box 27 [int n,zaH xs]⟩∧s.sl 5 = .own 10 v∧s.rw 10 = ⟨v,.sli 3 1 false (iL ((zf5 f p).take k))⟩∧s.sl 6 = .own 12 w∧s.rw 12 = ⟨w,.sli 3 1 false (iL (zFm f))⟩∧s.sl 7 = int (rkF f p k)∧s.sl 8 = int k∧(k ≤ zbh f)) (fun (k,v,w)=>zbh f - k) ((0,1,1)) (by refine ⟨?_,?_,?_,?_,?_,?_,?_,?_,?_,by simp⟩ <;> (first | (simp (maxSteps:=9^7) -dsimp only [gr,reduceEqDiff,reduceLT,reduceAdd,reduceMod,Nat.reduceBEq,rkF];first | done | rfl | (simp;done)) | assumption | rfl)) ?_
  intro (k,v,w) sa ⟨h1a,h2a,r2a,h5a,r10a,h6a,r12a,h7a,h8a,hIa⟩
  simp (maxSteps:=9^7) -dsimp only [↓gp,gq,reduceCtorEq,reduceEqDiff,reduceLT,reduceLeDiff,reduceAdd,reduceMul,reduceSub,Nat.reduceBEq,Int.reduceToNat,Int.reduceLE,Int.reduceLT,Int.reduceNeg,reduceMod,gT,h1a,h2a,r2a,h5a,r10a,h6a,r12a,h7a,h8a,hfl]
  refine ⟨fun h=>?_,fun h=>?_⟩
  ·have hr1:=zu6 f p k
   have hr2:=zu6 f p (k + 1)
   have hol:=zb5 f k (Nat.le_refl 64)
   have hg:=zzU f h
   have hwk:=zaa h (by omega)
   have hw1:IntKind.i64.wrap (((zaN f k 64).length:Int) - (rkF f p k:Int)) = ((zaN f k 64).length:Int) - (rkF f p k:Int):=zap (by omega) (by omega)
   have hw2:IntKind.i64.wrap (((zaN f k 64).length:Int) - (rkF f p k:Int) - (rkF f p (k + 1):Int)) = ((zaN f k 64).length:Int) - (rkF f p k:Int) - (rkF f p (k + 1):Int):=zap (by omega) (by omega)
   have hts:(zf5 f p).take (k + 1) = (zf5 f p).take k ++ [((zaN f k 64).length:Int) - rkF f p k - rkF f p (k + 1)]:=by rw [zay 0 (by rw [zbG];exact h),zkM f p h]
   have htl:((zf5 f p).take k).length ≤ 7:=by rw [List.length_take,zbG];omega
   simp (maxSteps:=9^7) -dsimp only [↓gp,gq,reduceCtorEq,reduceEqDiff,reduceLT,reduceLeDiff,reduceAdd,reduceMul,reduceSub,Nat.reduceBEq,Int.reduceToNat,Int.reduceLE,Int.reduceLT,Int.reduceNeg,reduceMod,gT,h1a,h2a,r2a,h5a,r10a,h6a,r12a,h7a,h8a,hfl,hwk]
   refine ⟨fun h2=>zab (hf ▸ ziy n xs (k + 1) (by omega) (by omega)) ?_,fun h2=>?_⟩
   ·have hin:=zGI (p:=p) h2
    rw [Nat.add_sub_cancel]
    have hb1:=zci (zaN f k 64) (zaN f (k + 1) 64)
    have hb2:=zm1 (zaN f k 64) (zaN f (k + 1) 64)
    have hb3:=zm2 (zaN f k 64) (zaN f (k + 1) 64)
    have hol2:=zb5 f (k + 1) (Nat.le_refl 64)
    simp (maxSteps:=9^7) -dsimp only [↓gp,gq,reduceCtorEq,reduceEqDiff,reduceLT,reduceLeDiff,reduceAdd,reduceMul,reduceSub,Nat.reduceBEq,Int.reduceToNat,Int.reduceLE,Int.reduceLT,Int.reduceNeg,reduceMod,gT,h1a,h2a,r2a,h5a,r10a,h6a,r12a,h7a,h8a,hfl,hwk]
    refine zab (zlp _ p hp (by omega) hb2 (by omega)) ?_
    rw [← hin]
    simp (maxSteps:=9^7) -dsimp only [↓gp,gq,reduceCtorEq,reduceEqDiff,reduceLT,reduceLeDiff,reduceAdd,reduceMul,reduceSub,Nat.reduceBEq,Int.reduceToNat,Int.reduceLE,Int.reduceLT,Int.reduceNeg,reduceMod,gT,h1a,h2a,r2a,h5a,r10a,h6a,r12a,h7a,h8a,hfl,hwk,hg,hw1,hw2]
    refine ⟨h,h,by omega,?_⟩
    exact zac ((k + 1,v + 1,w)) (by refine ⟨?_,?_,?_,?_,?_,?_,?_,?_,?_,by dsimp only;omega⟩ <;> (first | (simp (maxSteps:=9^7) -dsimp only [gr,reduceEqDiff,reduceLT,reduceAdd,reduceMod,Nat.reduceBEq,h1a,h2a,r2a,h5a,r10a,h6a,r12a,h7a,h8a,hwk,hw1,hw2,hts];first | done | rfl | (simp;done)) | assumption | rfl)) (by first | omega | (simp only;omega) | (dsimp only;omega) | (show _ < _;simp;omega))
   ·have hz:=zzP (p:=p) (show zbh f ≤ k + 1 by omega)
    rw [hz,Int.natCast_zero,Int.sub_zero] at hw2
    rw [hz,Int.natCast_zero,Int.sub_zero] at hts
    simp (maxSteps:=9^7) -dsimp only [↓gp,gq,reduceCtorEq,reduceEqDiff,reduceLT,reduceLeDiff,reduceAdd,reduceMul,reduceSub,Nat.reduceBEq,Int.reduceToNat,Int.reduceLE,Int.reduceLT,Int.reduceNeg,reduceMod,gT,h1a,h2a,r2a,h5a,r10a,h6a,r12a,h7a,h8a,hfl,hwk,hg,hw1]
    refine ⟨h,h,by omega,?_⟩
    have hw3:IntKind.i64.wrap (((zaN f k 64).length:Int) - (rkF f p k:Int) - 0) = ((zaN f k 64).length:Int) - (rkF f p k:Int):=by rw [Int.sub_zero];exact hw2
    exact zac ((k + 1,v + 1,w)) (by refine ⟨?_,?_,?_,?_,?_,?_,?_,?_,?_,by dsimp only;omega⟩ <;> (first | (simp (maxSteps:=9^7) -dsimp only [gr,reduceEqDiff,reduceLT,reduceAdd,reduceMod,Nat.reduceBEq,h1a,h2a,r2a,h5a,r10a,h6a,r12a,h7a,h8a,hwk,hw1,hw3,hts,hz,Int.natCast_zero];first | done | rfl | (simp;done)) | assumption | rfl)) (by first | omega | (simp only;omega) | (dsimp only;omega) | (show _ < _;simp;omega))
  ·have:k = (zf5 f p).length:=by rw [zbG];omega
   rw [this,List.take_length]
end Go.Proofs.YtkledeboboplmaaGreat
