/- DERIVED by an AI agent. -/
import Derived.Test.YtpnknaaehcljoaaQ3
import Derived.Test.YtpnknaaehcljoaaQ2
import Derived.Test.YtpnknaaehcljoaaA13
import Derived.Test.YtpnknaaehcljoaaP1
import Derived.Test.YtpnknaaehcljoaaQ1
import Derived.Test.YtpnknaaehcljoaaA12
namespace Go.Proofs.Ytpnknaaehcljoaa
open Go.Abs
open Nat (reduceEqDiff reduceMod reduceAdd reduceLT reduceLeDiff reduceSub reduceMul)
set_option linter.unusedSimpArgs false
set_option linter.unusedVariables false
theorem zce {t:Nat} (h:t < 64):zkG (t:Int) = (zap t:Nat):=by rw [zkG,if_pos (by omega)];simp
theorem zkr (f:Nat→Bool) (m:Nat):zgX f (m + 1) = if f m = true then max (zgX f m) (zap m + 1) else zgX f m:=rfl
theorem zcb (f:Nat→Bool):AC Try.prog 125 [u64 (zaE f 64:Nat)] (.im (int ((zaV f:Int) - 1))):=by
 refine AC.go (rs:=[.tmp 2]) zbe zax Try.func125 rfl rfl rfl (by kernel_rfl) fun hl=>?_
 simp (maxSteps:=5000000) -dsimp only [↓gp,gq,reduceCtorEq,reduceEqDiff,reduceLT,reduceLeDiff,reduceAdd,reduceMul,reduceSub,Nat.reduceBEq,Int.reduceToNat,Int.reduceLE,Int.reduceLT,Int.reduceNeg,reduceMod,zac,zad,zab,zaa,gT,TK.isInt,TK.agg,Array.toList]
 have hm1:=zbu f 64
 refine zao (fun (m:Nat) s=>s.sl 0 = u64 (zaE f 64:Nat)∧s.sl 3 = int ((zgX f m:Int) - 1)∧s.sl 4 = int m∧(m ≤ 64)) (fun m=>64 - m) (0) (by refine ⟨?_,?_,?_,by omega⟩ <;> (first | (simp (maxSteps:=5000000) -dsimp only [gr,reduceEqDiff,reduceLT,reduceAdd,reduceMod,Nat.reduceBEq,zaa,zac,zad,zab,zgX];first | done | rfl | (simp;done)) | assumption | rfl)) ?_
 intro m sa ⟨h0a,h3a,h4a,hIa⟩
 simp (maxSteps:=5000000) -dsimp only [↓gp,gq,reduceCtorEq,reduceEqDiff,reduceLT,reduceLeDiff,reduceAdd,reduceMul,reduceSub,Nat.reduceBEq,Int.reduceToNat,Int.reduceLE,Int.reduceLT,Int.reduceNeg,reduceMod,zac,zad,zab,zaa,gT,TK.isInt,TK.agg,Array.toList,h0a,h3a,h4a]
 refine ⟨fun h=>zaf (zb2 (zaE f 64) m (by omega) (by omega)) ?_,fun h=>?_⟩
 ·have h:m < 64:=by omega
  rw [za3 f h]
  simp (maxSteps:=5000000) -dsimp only [↓gp,gq,reduceCtorEq,reduceEqDiff,reduceLT,reduceLeDiff,reduceAdd,reduceMul,reduceSub,Nat.reduceBEq,Int.reduceToNat,Int.reduceLE,Int.reduceLT,Int.reduceNeg,reduceMod,zac,zad,zab,zaa,gT,TK.isInt,TK.agg,Array.toList,h0a,h3a,h4a]
  refine ⟨fun hf=>zaf (zaG _) ?_,fun hf=>?_⟩
  ·simp (maxSteps:=5000000) -dsimp only [↓gp,gq,reduceCtorEq,reduceEqDiff,reduceLT,reduceLeDiff,reduceAdd,reduceMul,reduceSub,Nat.reduceBEq,Int.reduceToNat,Int.reduceLE,Int.reduceLT,Int.reduceNeg,reduceMod,zac,zad,zab,zaa,gT,TK.isInt,TK.agg,Array.toList,h0a,h3a,h4a,zce h]
   refine ⟨fun hg=>zaf (zaG _) ?_,fun hg=>?_⟩
   ·simp (maxSteps:=5000000) -dsimp only [↓gp,gq,reduceCtorEq,reduceEqDiff,reduceLT,reduceLeDiff,reduceAdd,reduceMul,reduceSub,Nat.reduceBEq,Int.reduceToNat,Int.reduceLE,Int.reduceLT,Int.reduceNeg,reduceMod,zac,zad,zab,zaa,gT,TK.isInt,TK.agg,Array.toList,h0a,h3a,h4a,zce h]
    have e:(zgX f (m + 1):Int) - 1 = (zap m:Int):=by rw [zkr,if_pos hf];omega
    exact zag (m + 1) (by refine ⟨?_,?_,?_,by omega⟩ <;> (first | (simp (maxSteps:=5000000) -dsimp only [gr,reduceEqDiff,reduceLT,reduceAdd,reduceMod,Nat.reduceBEq,zaa,zac,zad,zab,h0a,h3a,h4a,zae h (by omega),zce h,e];first | done | rfl | (simp;done)) | assumption | rfl)) (by first | omega | (simp only;omega) | (dsimp only;omega) | (show _ < _;simp;omega))
   ·have e:zgX f (m + 1) = zgX f m:=by rw [zkr,if_pos hf];omega
    exact zag (m + 1) (by refine ⟨?_,?_,?_,by omega⟩ <;> (first | (simp (maxSteps:=5000000) -dsimp only [gr,reduceEqDiff,reduceLT,reduceAdd,reduceMod,Nat.reduceBEq,zaa,zac,zad,zab,h0a,h3a,h4a,zae h (by omega),e];first | done | rfl | (simp;done)) | assumption | rfl)) (by first | omega | (simp only;omega) | (dsimp only;omega) | (show _ < _;simp;omega))
  ·have e:zgX f (m + 1) = zgX f m:=by rw [zkr,if_neg (by rw [hf];decide)]
   exact zag (m + 1) (by refine ⟨?_,?_,?_,by omega⟩ <;> (first | (simp (maxSteps:=5000000) -dsimp only [gr,reduceEqDiff,reduceLT,reduceAdd,reduceMod,Nat.reduceBEq,zaa,zac,zad,zab,h0a,h3a,h4a,zae h (by omega),e];first | done | rfl | (simp;done)) | assumption | rfl)) (by first | omega | (simp only;omega) | (dsimp only;omega) | (show _ < _;simp;omega))
 ·have:m = 64:=by omega
  subst this;rfl
theorem zqn {f:Nat→Bool} {m j:Nat} (hf:f m = true):zaS f j (m + 1) = if j = zap m then zaS f j m ++ [m] else zaS f j m:=by
 rw [zeM,hf]
 by_cases e:j = zap m
 ·subst e;simp
 ·have:¬ zap m = j:=fun h=>e h.symm
  simp [e,this]
theorem zyU {f:Nat→Bool} {m j:Nat} (hf:f m = false):zaS f j (m + 1) = zaS f j m:=by rw [zeM,hf];simp
def zhV (f:Nat→Bool):Mat:=(List.range (zaV f)).map fun k=>ofN (zaS f k 64)
theorem zng (f:Nat→Bool):(zhV f).length = zaV f:=by simp [zhV]
theorem zfV (f:Nat→Bool) {k:Nat} (h:k < zaV f):(zhV f).getD k [] = ofN (zaS f k 64):=by simp [zhV,List.getD,h]
theorem zkV (f:Nat→Bool):AC Try.prog 155 [u64 (zaE f 64:Nat)] (.tb 22 3 ((List.range (zaV f)).map fun j=>iL (ofN (zaS f j 64)))):=by
 refine AC.go (rs:=[.tmp 2]) zbe zax Try.func155 rfl rfl rfl (by kernel_rfl) fun hl=>?_
 have hm1:=zbu f 64
 have hd:=zcg f
 simp (maxSteps:=5000000) -dsimp only [↓gp,gq,reduceCtorEq,reduceEqDiff,reduceLT,reduceLeDiff,reduceAdd,reduceMul,reduceSub,Nat.reduceBEq,Int.reduceToNat,Int.reduceLE,Int.reduceLT,Int.reduceNeg,reduceMod,zac,zad,zab,zaa,gT,TK.isInt,TK.agg,Array.toList]
 refine zaf (zcb f) ?_
 have hw:IntKind.i64.wrap ((zaV f:Int) - 1 + 1) = (zaV f:Int):=by rw [zaq (by omega) (by omega)];omega
 simp (maxSteps:=5000000) -dsimp only [↓gp,gq,reduceCtorEq,reduceEqDiff,reduceLT,reduceLeDiff,reduceAdd,reduceMul,reduceSub,Nat.reduceBEq,Int.reduceToNat,Int.reduceLE,Int.reduceLT,Int.reduceNeg,reduceMod,zac,zad,zab,zaa,gT,TK.isInt,TK.agg,Array.toList,hw]
 refine ⟨by omega,by omega,?_⟩
 refine zyY (k:=9) (v:=1) (e:=22) (e2:=3) (n:=zaV f) (by simp (maxSteps:=5000000) -dsimp only [gr,reduceEqDiff,reduceLT,reduceAdd,reduceMod,Nat.reduceBEq,zaa,zac,zad,zab,hw]) (fun j=>by simp (maxSteps:=5000000) -dsimp only [gr,reduceEqDiff,reduceLT,reduceAdd,reduceMod,Nat.reduceBEq,zaa,zac,zad,zab]) (fun (m:Nat) s=>s.sl 0 = u64 (zaE f 64:Nat)∧s.sl 3 = .own 9 1∧s.sl 4 = int m∧(m ≤ 64∧TabF s.rw 9 1 22 3 (zaV f) (fun j=>1 + (zaS f j m).length) (fun j=>ofN (zaS f j m)))) (fun m=>64 - m) (0) (fun sX htX hslX hoX=>(by refine ⟨?_,?_,?_,⟨by omega,htX⟩⟩ <;> (first | (simp (maxSteps:=5000000) -dsimp only [gr,reduceEqDiff,reduceLT,reduceAdd,reduceMod,Nat.reduceBEq,zaa,zac,zad,zab,hslX,hoX];first | done | rfl | (simp;done)) | assumption | rfl))) ?_
 intro m sa ⟨h0a,h3a,h4a,hIa⟩
 obtain ⟨hm,ht⟩:=hIa
 simp (maxSteps:=5000000) -dsimp only [↓gp,gq,reduceCtorEq,reduceEqDiff,reduceLT,reduceLeDiff,reduceAdd,reduceMul,reduceSub,Nat.reduceBEq,Int.reduceToNat,Int.reduceLE,Int.reduceLT,Int.reduceNeg,reduceMod,zac,zad,zab,zaa,gT,TK.isInt,TK.agg,Array.toList,h0a,h3a,h4a]
 refine ⟨fun h=>zaf (zb2 (zaE f 64) m (by omega) (by omega)) ?_,fun h=>?_⟩
 ·have h:m < 64:=by omega
  rw [za3 f h]
  simp (maxSteps:=5000000) -dsimp only [↓gp,gq,reduceCtorEq,reduceEqDiff,reduceLT,reduceLeDiff,reduceAdd,reduceMul,reduceSub,Nat.reduceBEq,Int.reduceToNat,Int.reduceLE,Int.reduceLT,Int.reduceNeg,reduceMod,zac,zad,zab,zaa,gT,TK.isInt,TK.agg,Array.toList,h0a,h3a,h4a]
  refine ⟨fun hf=>zaf (zaG _) ?_,fun hf=>?_⟩
  ·have hk:zap m < zaV f:=zfP 64 m h hf
   have hr:=ht.row (zap m) hk
   have hol:=zcO f (zap m) hm
   simp (maxSteps:=5000000) -dsimp only [↓gp,gq,reduceCtorEq,reduceEqDiff,reduceLT,reduceLeDiff,reduceAdd,reduceMul,reduceSub,Nat.reduceBEq,Int.reduceToNat,Int.reduceLE,Int.reduceLT,Int.reduceNeg,reduceMod,zac,zad,zab,zaa,gT,TK.isInt,TK.agg,Array.toList,h0a,h3a,h4a,zce h,ht.top,zgP,zyX,hr,zah]
   refine ⟨hk,hk,by omega,hk,by omega,zag (m + 1) ⟨(by (first | (simp (maxSteps:=5000000) -dsimp only [gr,reduceEqDiff,reduceLT,reduceAdd,reduceMod,Nat.reduceBEq,zaa,zac,zad,zab,h0a,h3a,h4a,zae h (by omega)];first | done | rfl | (simp;done)) | assumption | rfl)),(by (first | (simp (maxSteps:=5000000) -dsimp only [gr,reduceEqDiff,reduceLT,reduceAdd,reduceMod,Nat.reduceBEq,zaa,zac,zad,zab,h0a,h3a,h4a,zae h (by omega)];first | done | rfl | (simp;done)) | assumption | rfl)),(by (first | (simp (maxSteps:=5000000) -dsimp only [gr,reduceEqDiff,reduceLT,reduceAdd,reduceMod,Nat.reduceBEq,zaa,zac,zad,zab,h0a,h3a,h4a,zae h (by omega)];first | done | rfl | (simp;done)) | assumption | rfl)),⟨by omega,ht.add hk (r:=ofN (zaS f (zap m) m) ++ [(m:Int)]) (by simp (maxSteps:=5000000) -dsimp only [gr,reduceEqDiff,reduceLT,reduceAdd,reduceMod,Nat.reduceBEq,zaa,zac,zad,zab,h0a,h3a,h4a]) (by simp (maxSteps:=5000000) -dsimp only [gr,reduceEqDiff,reduceLT,reduceAdd,reduceMod,Nat.reduceBEq,zaa,zac,zad,zab,h0a,h3a,h4a]) (fun x hx=>by simp (maxSteps:=5000000) -dsimp only [gr,reduceEqDiff,reduceLT,reduceAdd,reduceMod,Nat.reduceBEq,zaa,zac,zad,zab,h0a,h3a,h4a,hx]) (fun j _=>?_) (fun j _=>?_)⟩⟩ (by first | omega | (simp only;omega) | (dsimp only;omega) | (show _ < _;simp;omega))⟩
   ·rw [zqn hf]
    split
    ·rename_i e;subst e;simp;omega
    ·rfl
   ·rw [zqn hf]
    split
    ·rename_i e;subst e;rw [zbf];rfl
    ·rfl
  ·have e:∀ j,zaS f j (m + 1) = zaS f j m:=fun j=>zyU hf
   refine zag (m + 1) ⟨(by (first | (simp (maxSteps:=5000000) -dsimp only [gr,reduceEqDiff,reduceLT,reduceAdd,reduceMod,Nat.reduceBEq,zaa,zac,zad,zab,h0a,h3a,h4a,zae h (by omega)];first | done | rfl | (simp;done)) | assumption | rfl)),(by (first | (simp (maxSteps:=5000000) -dsimp only [gr,reduceEqDiff,reduceLT,reduceAdd,reduceMod,Nat.reduceBEq,zaa,zac,zad,zab,h0a,h3a,h4a,zae h (by omega)];first | done | rfl | (simp;done)) | assumption | rfl)),(by (first | (simp (maxSteps:=5000000) -dsimp only [gr,reduceEqDiff,reduceLT,reduceAdd,reduceMod,Nat.reduceBEq,zaa,zac,zad,zab,h0a,h3a,h4a,zae h (by omega)];first | done | rfl | (simp;done)) | assumption | rfl)),⟨by omega,?_⟩⟩ (by first | omega | (simp only;omega) | (dsimp only;omega) | (show _ < _;simp;omega))
   simp only [e]
   exact ht.same (by simp (maxSteps:=5000000) -dsimp only [gr,reduceEqDiff,reduceLT,reduceAdd,reduceMod,Nat.reduceBEq,zaa,zac,zad,zab]) (fun x=>by simp (maxSteps:=5000000) -dsimp only [gr,reduceEqDiff,reduceLT,reduceAdd,reduceMod,Nat.reduceBEq,zaa,zac,zad,zab])
 ·have:m = 64:=by omega
  subst this
  exact zyZ ht (by decide) (by omega)
theorem znh (f:Nat→Bool):AC Try.prog 155 [u64 (zaE f 64:Nat)] (.fr 22 1 (iLL (zhV f))):=by
 have:=(zkV f).flat
 unfold zhV iLL
 rw [List.map_map] at this ⊢
 exact this
theorem zhk (a b:Nat) (ha:a < 64) (hb:b < 64) (hp:zap b = zap a + 1):AC Try.prog 192 [int a,int b] (.im (int (zf2 a b))):=by
 refine AC.go (rs:=[.tmp 4]) zbe zax Try.func192 rfl rfl rfl (by kernel_rfl) fun hl=>?_
 have hpa:=zbT ha
 have hand:=zfO (a:=a) (b:=b) (by omega) (by omega)
 simp (maxSteps:=5000000) -dsimp only [↓gp,gq,reduceCtorEq,reduceEqDiff,reduceLT,reduceLeDiff,reduceAdd,reduceMul,reduceSub,Nat.reduceBEq,Int.reduceToNat,Int.reduceLE,Int.reduceLT,Int.reduceNeg,reduceMod,zac,zad,zab,zaa,gT,TK.isInt,TK.agg,Array.toList,hand]
 refine ⟨fun h=>?_,fun h=>?_⟩
 ·have hs:¬ a &&& b = a:=by
   intro e
   rw [zeN.2 e] at h
   simp at h
  unfold zf2;rw [if_neg hs]
 ·have hs:a &&& b = a:=zeN.1 (by
   have h9:((a ^^^ (a &&& b):Nat):Int) = 0:=by simpa using h
   omega)
  obtain ⟨hle,hx⟩:=zuk a ha b hb hs
  have hne:a ≠ b:=fun e=>by rw [e] at hp;omega
  have hand2:=zfO (a:=b) (b:=a) (by omega) (by omega)
  rw [Nat.and_comm b a,hx] at hand2
  have hw3:IntKind.i64.wrap (((b - a:Nat):Int) - 1) = ((b - a - 1:Nat):Int):=by rw [zaq (by omega) (by omega)];omega
  have hand3:=za4 (a:=b) (b:=b - a - 1) (by omega) (by omega)
  have hlt:b &&& (b - a - 1) < 64:=by have:b &&& (b - a - 1) ≤ b:=Nat.and_le_left;omega
  have hp6:=zbT hlt
  have hmod:((zap (b &&& (b - a - 1)):Nat):Int).tmod 2 = ((zap (b &&& (b - a - 1)) % 2:Nat):Int):=by rw [zdN (by omega)];omega
  simp (maxSteps:=5000000) -dsimp only [↓gp,gq,reduceCtorEq,reduceEqDiff,reduceLT,reduceLeDiff,reduceAdd,reduceMul,reduceSub,Nat.reduceBEq,Int.reduceToNat,Int.reduceLE,Int.reduceLT,Int.reduceNeg,reduceMod,zac,zad,zab,zaa,gT,TK.isInt,TK.agg,Array.toList,hand2,hw3,hand3]
  refine zaf (zaG _) ?_
  simp (maxSteps:=5000000) -dsimp only [↓gp,gq,reduceCtorEq,reduceEqDiff,reduceLT,reduceLeDiff,reduceAdd,reduceMul,reduceSub,Nat.reduceBEq,Int.reduceToNat,Int.reduceLE,Int.reduceLT,Int.reduceNeg,reduceMod,zac,zad,zab,zaa,gT,TK.isInt,TK.agg,Array.toList,zce hlt,hmod]
  unfold zf2
  rw [if_pos hs]
  refine ⟨by decide,fun h0=>?_,fun h0=>?_⟩
  ·rw [if_pos (by have h9:((zap (b &&& (b - a - 1)) % 2:Nat):Int) = 0:=by simpa using h0
                  omega)]
  ·rw [if_neg (by intro e;rw [e] at h0;simp at h0)]
theorem zDm {lo hi:List Nat} {i j:Nat} (hi':i < lo.length) (hj:j < hi.length):(hi.map fun b=>zf2 (lo.getD i 0) b).getD j 0 = zf2 (lo.getD i 0) (hi.getD j 0):=by
 simp [List.getD,hj]
theorem zks (lo hi:List Nat) (k:Nat) (hl1:lo.length ≤ 64) (hl2:hi.length ≤ 64) (hm1:∀ i,i < lo.length→lo.getD i 0 < 64∧zap (lo.getD i 0) = k) (hm2:∀ i,i < hi.length→hi.getD i 0 < 64∧zap (hi.getD i 0) = k + 1) :
 AC Try.prog 157 [zbv (ofN lo),zbv (ofN hi)] (.tb 22 3 ((zb0 lo hi).map iL)):=by
 refine AC.go (rs:=[.tmp 4]) zbe zax Try.func157 rfl rfl rfl (by kernel_rfl) fun hl=>?_
 simp (maxSteps:=5000000) -dsimp only [↓gp,gq,reduceCtorEq,reduceEqDiff,reduceLT,reduceLeDiff,reduceAdd,reduceMul,reduceSub,Nat.reduceBEq,Int.reduceToNat,Int.reduceLE,Int.reduceLT,Int.reduceNeg,reduceMod,zac,zad,zab,zaa,gT,TK.isInt,TK.agg,Array.toList,zah]
 refine ⟨by omega,by omega,?_⟩
 refine zum (k:=12) (v:=1) (e:=22) (e2:=3) (n:=lo.length) (by simp (maxSteps:=5000000) -dsimp only [gr,reduceEqDiff,reduceLT,reduceAdd,reduceMod,Nat.reduceBEq,zaa,zac,zad,zab,zah]) (fun j=>by simp (maxSteps:=5000000) -dsimp only [gr,reduceEqDiff,reduceLT,reduceAdd,reduceMod,Nat.reduceBEq,zaa,zac,zad,zab]) (fun (i:Nat) s=>s.sl 1 = zbv (ofN hi)∧s.sl 5 = .own 12 1∧s.sl 13 = zbv (ofN lo)∧s.sl 14 = int lo.length∧s.sl 15 = int i∧(i ≤ lo.length∧TabP s.rw 12 1 22 3 lo.length i (zb0 (lo.take i) hi))) (fun i=>lo.length - i) (0) (fun sX htX hslX hoX=>(by refine ⟨?_,?_,?_,?_,?_,⟨by omega,htX⟩⟩ <;> (first | (simp (maxSteps:=5000000) -dsimp only [gr,reduceEqDiff,reduceLT,reduceAdd,reduceMod,Nat.reduceBEq,zaa,zac,zad,zab,hslX,hoX,zah];first | done | rfl | (simp;done)) | assumption | rfl))) ?_
 intro i sa ⟨h1a,h5a,h13a,h14a,h15a,hIa⟩
 obtain ⟨hi',ht⟩:=hIa
 simp (maxSteps:=5000000) -dsimp only [↓gp,gq,reduceCtorEq,reduceEqDiff,reduceLT,reduceLeDiff,reduceAdd,reduceMul,reduceSub,Nat.reduceBEq,Int.reduceToNat,Int.reduceLE,Int.reduceLT,Int.reduceNeg,reduceMod,zac,zad,zab,zaa,gT,TK.isInt,TK.agg,Array.toList,h1a,h5a,h13a,h14a,h15a,ht.top,zbJ,zah]
 refine ⟨fun h=>?_,fun h=>?_⟩
 ·have hge:(ofN lo).getD i 0 = ((lo.getD i 0:Nat):Int):=zaL h
  have hlen:(zb0 (lo.take i) hi).length = i:=by rw [zck,List.length_take];omega
  refine ⟨h,h,by omega,by omega,h,by omega,?_⟩
  refine zqh (k:=12) (v:=1) (e:=22) (e2:=3) (n:=lo.length) (i:=i) (d:=24) (vd:=(sa.rw 24).ver + 1) (M:=zb0 (lo.take i) hi) (r:=List.replicate hi.length 0) (by simp (maxSteps:=5000000) -dsimp only [gr,reduceEqDiff,reduceLT,reduceAdd,reduceMod,Nat.reduceBEq,zaa,zac,zad,zab,ht.top]) hlen (fun j hj=>by simp (maxSteps:=5000000) -dsimp only [gr,reduceEqDiff,reduceLT,reduceAdd,reduceMod,Nat.reduceBEq,zaa,zac,zad,zab,ht.row j hj]) (fun j hj=>by simp (maxSteps:=5000000) -dsimp only [gr,reduceEqDiff,reduceLT,reduceAdd,reduceMod,Nat.reduceBEq,zaa,zac,zad,zab,ht.rest j hj]) (by simp (maxSteps:=5000000) -dsimp only [gr,reduceEqDiff,reduceLT,reduceAdd,reduceMod,Nat.reduceBEq,zaa,zac,zad,zab]) (by decide) (by decide) h (fun (j:Nat) s=>s.sl 1 = zbv (ofN hi)∧s.sl 5 = .own 12 1∧s.sl 13 = zbv (ofN lo)∧s.sl 14 = int lo.length∧s.sl 15 = int i∧s.sl 6 = int i∧s.sl 7 = int (lo.getD i 0:Nat)∧s.sl 26 = zbv (ofN hi)∧s.sl 27 = int hi.length∧s.sl 28 = int j∧(j ≤ hi.length∧TabP s.rw 12 1 22 3 lo.length (i + 1) (zb0 (lo.take i) hi ++ [prt (hi.map fun b=>zf2 (lo.getD i 0) b) (List.replicate hi.length 0) j]))) (fun j=>hi.length - j) (0) (fun sX htX hslX hoX=>(by refine ⟨?_,?_,?_,?_,?_,?_,?_,?_,?_,?_,⟨by omega,by rw [zeg];exact htX⟩⟩ <;> (first | (simp (maxSteps:=5000000) -dsimp only [gr,reduceEqDiff,reduceLT,reduceAdd,reduceMod,Nat.reduceBEq,zaa,zac,zad,zab,hslX,hoX,h1a,h5a,h13a,h14a,h15a,zah,hge];first | done | rfl | (simp;done)) | assumption | rfl))) ?_
  intro j sb ⟨h1b,h5b,h13b,h14b,h15b,h6b,h7b,h26b,h27b,h28b,hIb⟩
  obtain ⟨hj,ht2⟩:=hIb
  have hnl:(hi.map fun b=>zf2 (lo.getD i 0) b).length = (List.replicate hi.length (0:Int)).length:=by simp
  have hrr:=ht2.row i (by omega)
  rw [zqi hlen] at hrr
  have hpl:∀ t,(prt (hi.map fun b=>zf2 (lo.getD i 0) b) (List.replicate hi.length 0) t).length = hi.length:=fun t=>by rw [zcF hnl];simp
  simp (maxSteps:=5000000) -dsimp only [↓gp,gq,reduceCtorEq,reduceEqDiff,reduceLT,reduceLeDiff,reduceAdd,reduceMul,reduceSub,Nat.reduceBEq,Int.reduceToNat,Int.reduceLE,Int.reduceLT,Int.reduceNeg,reduceMod,zac,zad,zab,zaa,gT,TK.isInt,TK.agg,Array.toList,h1b,h5b,h13b,h14b,h15b,h6b,h7b,h26b,h27b,h28b,ht2.top,zkk,hrr,hpl,zbJ,zah]
  refine ⟨fun h2=>?_,fun h2=>?_⟩
  ·have hge2:(ofN hi).getD j 0 = ((hi.getD j 0:Nat):Int):=zaL h2
   have ha:=hm1 i h
   have hb:=hm2 j h2
   refine ⟨h2,h2,?_⟩
   simp (maxSteps:=5000000) -dsimp only [↓gp,gq,reduceCtorEq,reduceEqDiff,reduceLT,reduceLeDiff,reduceAdd,reduceMul,reduceSub,Nat.reduceBEq,Int.reduceToNat,Int.reduceLE,Int.reduceLT,Int.reduceNeg,reduceMod,zac,zad,zab,zaa,gT,TK.isInt,TK.agg,Array.toList,h1b,h5b,h13b,h14b,h15b,h6b,h7b,h26b,h27b,h28b,ht2.top,zkk,hrr,hpl,zbJ,hge2]
   refine ⟨by kernel_rfl,h,h,zaf (zhk _ _ ha.1 hb.1 (by omega)) ?_⟩
   simp (maxSteps:=5000000) -dsimp only [↓gp,gq,reduceCtorEq,reduceEqDiff,reduceLT,reduceLeDiff,reduceAdd,reduceMul,reduceSub,Nat.reduceBEq,Int.reduceToNat,Int.reduceLE,Int.reduceLT,Int.reduceNeg,reduceMod,zac,zad,zab,zaa,gT,TK.isInt,TK.agg,Array.toList,h1b,h5b,h13b,h14b,h15b,h6b,h7b,h26b,h27b,h28b,ht2.top,zkk,hrr,hpl,zbJ,hge2]
   refine ⟨h2,by omega,by kernel_rfl,zag (j + 1) ⟨(by (first | (simp (maxSteps:=5000000) -dsimp only [gr,reduceEqDiff,reduceLT,reduceAdd,reduceMod,Nat.reduceBEq,zaa,zac,zad,zab,h1b,h5b,h13b,h14b,h15b,h6b,h7b,h26b,h27b,h28b,zae h2 (by omega)];first | done | rfl | (simp;done)) | assumption | rfl)),(by (first | (simp (maxSteps:=5000000) -dsimp only [gr,reduceEqDiff,reduceLT,reduceAdd,reduceMod,Nat.reduceBEq,zaa,zac,zad,zab,h1b,h5b,h13b,h14b,h15b,h6b,h7b,h26b,h27b,h28b,zae h2 (by omega)];first | done | rfl | (simp;done)) | assumption | rfl)),(by (first | (simp (maxSteps:=5000000) -dsimp only [gr,reduceEqDiff,reduceLT,reduceAdd,reduceMod,Nat.reduceBEq,zaa,zac,zad,zab,h1b,h5b,h13b,h14b,h15b,h6b,h7b,h26b,h27b,h28b,zae h2 (by omega)];first | done | rfl | (simp;done)) | assumption | rfl)),(by (first | (simp (maxSteps:=5000000) -dsimp only [gr,reduceEqDiff,reduceLT,reduceAdd,reduceMod,Nat.reduceBEq,zaa,zac,zad,zab,h1b,h5b,h13b,h14b,h15b,h6b,h7b,h26b,h27b,h28b,zae h2 (by omega)];first | done | rfl | (simp;done)) | assumption | rfl)),(by (first | (simp (maxSteps:=5000000) -dsimp only [gr,reduceEqDiff,reduceLT,reduceAdd,reduceMod,Nat.reduceBEq,zaa,zac,zad,zab,h1b,h5b,h13b,h14b,h15b,h6b,h7b,h26b,h27b,h28b,zae h2 (by omega)];first | done | rfl | (simp;done)) | assumption | rfl)),(by (first | (simp (maxSteps:=5000000) -dsimp only [gr,reduceEqDiff,reduceLT,reduceAdd,reduceMod,Nat.reduceBEq,zaa,zac,zad,zab,h1b,h5b,h13b,h14b,h15b,h6b,h7b,h26b,h27b,h28b,zae h2 (by omega)];first | done | rfl | (simp;done)) | assumption | rfl)),(by (first | (simp (maxSteps:=5000000) -dsimp only [gr,reduceEqDiff,reduceLT,reduceAdd,reduceMod,Nat.reduceBEq,zaa,zac,zad,zab,h1b,h5b,h13b,h14b,h15b,h6b,h7b,h26b,h27b,h28b,zae h2 (by omega)];first | done | rfl | (simp;done)) | assumption | rfl)),(by (first | (simp (maxSteps:=5000000) -dsimp only [gr,reduceEqDiff,reduceLT,reduceAdd,reduceMod,Nat.reduceBEq,zaa,zac,zad,zab,h1b,h5b,h13b,h14b,h15b,h6b,h7b,h26b,h27b,h28b,zae h2 (by omega)];first | done | rfl | (simp;done)) | assumption | rfl)),(by (first | (simp (maxSteps:=5000000) -dsimp only [gr,reduceEqDiff,reduceLT,reduceAdd,reduceMod,Nat.reduceBEq,zaa,zac,zad,zab,h1b,h5b,h13b,h14b,h15b,h6b,h7b,h26b,h27b,h28b,zae h2 (by omega)];first | done | rfl | (simp;done)) | assumption | rfl)),(by (first | (simp (maxSteps:=5000000) -dsimp only [gr,reduceEqDiff,reduceLT,reduceAdd,reduceMod,Nat.reduceBEq,zaa,zac,zad,zab,h1b,h5b,h13b,h14b,h15b,h6b,h7b,h26b,h27b,h28b,zae h2 (by omega)];first | done | rfl | (simp;done)) | assumption | rfl)),⟨by omega,?_⟩⟩ (by first | omega | (simp only;omega) | (dsimp only;omega) | (show _ < _;simp;omega))⟩
   have e:zb0 (lo.take i) hi ++ [prt (hi.map fun b=>zf2 (lo.getD i 0) b) (List.replicate hi.length 0) (j + 1)] = (zb0 (lo.take i) hi ++ [prt (hi.map fun b=>zf2 (lo.getD i 0) b) (List.replicate hi.length 0) j]).set i ((prt (hi.map fun b=>zf2 (lo.getD i 0) b) (List.replicate hi.length 0) j).set j (zf2 (lo.getD i 0) (hi.getD j 0))):=by
    rw [zun hlen,← zDm h h2,zfS hnl (by simpa using h2)]
   rw [e]
   exact ht2.set (by omega) (by simp (maxSteps:=5000000) -dsimp only [gr,reduceEqDiff,reduceLT,reduceAdd,reduceMod,Nat.reduceBEq,zaa,zac,zad,zab,h1b,h5b,h13b,h14b,h15b,h6b,h7b,h26b,h27b,h28b]) (by simp (maxSteps:=5000000) -dsimp only [gr,reduceEqDiff,reduceLT,reduceAdd,reduceMod,Nat.reduceBEq,zaa,zac,zad,zab,h1b,h5b,h13b,h14b,h15b,h6b,h7b,h26b,h27b,h28b]) (fun x hx=>by simp (maxSteps:=5000000) -dsimp only [gr,reduceEqDiff,reduceLT,reduceAdd,reduceMod,Nat.reduceBEq,zaa,zac,zad,zab,h1b,h5b,h13b,h14b,h15b,h6b,h7b,h26b,h27b,h28b,hx])
  ·have:j = hi.length:=by omega
   subst this
   refine zag (i + 1) ⟨(by (first | (simp (maxSteps:=5000000) -dsimp only [gr,reduceEqDiff,reduceLT,reduceAdd,reduceMod,Nat.reduceBEq,zaa,zac,zad,zab,h1a,h5a,h13a,h14a,h15a,h1b,h5b,h13b,h14b,h15b,h6b,h7b,h26b,h27b,h28b,zae h (by omega)];first | done | rfl | (simp;done)) | assumption | rfl)),(by (first | (simp (maxSteps:=5000000) -dsimp only [gr,reduceEqDiff,reduceLT,reduceAdd,reduceMod,Nat.reduceBEq,zaa,zac,zad,zab,h1a,h5a,h13a,h14a,h15a,h1b,h5b,h13b,h14b,h15b,h6b,h7b,h26b,h27b,h28b,zae h (by omega)];first | done | rfl | (simp;done)) | assumption | rfl)),(by (first | (simp (maxSteps:=5000000) -dsimp only [gr,reduceEqDiff,reduceLT,reduceAdd,reduceMod,Nat.reduceBEq,zaa,zac,zad,zab,h1a,h5a,h13a,h14a,h15a,h1b,h5b,h13b,h14b,h15b,h6b,h7b,h26b,h27b,h28b,zae h (by omega)];first | done | rfl | (simp;done)) | assumption | rfl)),(by (first | (simp (maxSteps:=5000000) -dsimp only [gr,reduceEqDiff,reduceLT,reduceAdd,reduceMod,Nat.reduceBEq,zaa,zac,zad,zab,h1a,h5a,h13a,h14a,h15a,h1b,h5b,h13b,h14b,h15b,h6b,h7b,h26b,h27b,h28b,zae h (by omega)];first | done | rfl | (simp;done)) | assumption | rfl)),(by (first | (simp (maxSteps:=5000000) -dsimp only [gr,reduceEqDiff,reduceLT,reduceAdd,reduceMod,Nat.reduceBEq,zaa,zac,zad,zab,h1a,h5a,h13a,h14a,h15a,h1b,h5b,h13b,h14b,h15b,h6b,h7b,h26b,h27b,h28b,zae h (by omega)];first | done | rfl | (simp;done)) | assumption | rfl)),⟨by omega,?_⟩⟩ (by first | omega | (simp only;omega) | (dsimp only;omega) | (show _ < _;simp;omega))
   have e:prt (hi.map fun b=>zf2 (lo.getD i 0) b) (List.replicate hi.length 0) hi.length = hi.map fun b=>zf2 (lo.getD i 0) b:=by
    have:=zfR hnl
    simpa using this
   have ht3:=ht2
   rw [e,zmt h] at ht3
   exact ht3.same (by simp (maxSteps:=5000000) -dsimp only [gr,reduceEqDiff,reduceLT,reduceAdd,reduceMod,Nat.reduceBEq,zaa,zac,zad,zab]) (fun x=>by simp (maxSteps:=5000000) -dsimp only [gr,reduceEqDiff,reduceLT,reduceAdd,reduceMod,Nat.reduceBEq,zaa,zac,zad,zab])
 ·have:i = lo.length:=by omega
  subst this
  rw [List.take_length] at ht
  exact zkl ht.done (by decide) (fun j hj=>by have:=List.mem_range.1 hj;omega)
noncomputable def rkL (f:Nat→Bool) (p:Int) (k:Nat):List Int:=(List.range (zaV f + 1)).map fun j=>if j < k then (rkF f p j:Int) else 0
theorem zvy (f:Nat→Bool) (p:Int) (k:Nat):(rkL f p k).length = zaV f + 1:=by simp [rkL]
theorem zAH (f:Nat→Bool) (p:Int) {k j:Nat} (h:j < zaV f + 1):(rkL f p k).getD j 0 = if j < k then (rkF f p j:Int) else 0:=by simp [rkL,List.getD,h]
theorem zDk (f:Nat→Bool) (p:Int):List.replicate (zaV f + 1) 0 = rkL f p 1:=by
 refine List.ext_getElem (by simp [rkL]) fun j a b=>?_
 simp only [List.getElem_replicate,rkL,List.getElem_map,List.getElem_range]
 split
 ·have:j = 0:=by omega
  subst this;simp [rkF]
 ·rfl
theorem zDl (f:Nat→Bool) (p:Int) {k:Nat} (h:k < zaV f):(rkL f p k).set k (rkF f p k) = rkL f p (k + 1):=by
 refine List.ext_getElem (by simp [rkL]) fun j a b=>?_
 rw [List.getElem_set]
 simp only [rkL,List.getElem_map,List.getElem_range]
 by_cases e:k = j
 ·subst e;simp
 ·rw [if_neg e]
  by_cases h1:j < k
  ·rw [if_pos h1,if_pos (by omega)]
  ·rw [if_neg h1,if_neg (by omega)]
theorem zfD (f:Nat→Bool) (p:Int) (hp:isP p = true):AC Try.prog 110 [u64 (zaE f 64:Nat),int p] (.fr 3 1 (iL (zcT f p))):=by
 refine AC.go (rs:=[.tmp 4]) zbe zax Try.func110 rfl rfl rfl (by kernel_rfl) fun hl=>?_
 have hd:=zcg f
 have hsl:=zng f
 simp (maxSteps:=5000000) -dsimp only [↓gp,gq,reduceCtorEq,reduceEqDiff,reduceLT,reduceLeDiff,reduceAdd,reduceMul,reduceSub,Nat.reduceBEq,Int.reduceToNat,Int.reduceLE,Int.reduceLT,Int.reduceNeg,reduceMod,zac,zad,zab,zaa,gT,TK.isInt,TK.agg,Array.toList]
 refine zaf (znh f) ?_
 have hw:IntKind.i64.wrap ((zaV f:Int) + 1) = ((zaV f + 1:Nat):Int):=by rw [zaq (by omega) (by omega)];rfl
 simp (maxSteps:=5000000) -dsimp only [↓gp,gq,reduceCtorEq,reduceEqDiff,reduceLT,reduceLeDiff,reduceAdd,reduceMul,reduceSub,Nat.reduceBEq,Int.reduceToNat,Int.reduceLE,Int.reduceLT,Int.reduceNeg,reduceMod,zac,zad,zab,zaa,gT,TK.isInt,TK.agg,Array.toList,hsl,hw]
 refine ⟨by omega,by omega,?_⟩
 refine zao (fun (za:Nat × Nat × Nat) s=>match za with | (k,v,w)=>s.sl 1 = int p∧s.sl 5 = .own 11 v∧s.rw 11 = ⟨v,.sli 22 1 false (iLL (zhV f))⟩∧s.sl 6 = .own 15 w∧s.rw 15 = ⟨w,.sli 3 1 false (iL (rkL f p k))⟩∧s.sl 7 = int k∧(1 ≤ k∧k ≤ zaV f + 1∧(k ≤ zaV f ∨ zaV f = 0))) (fun (k,v,w)=>zaV f + 1 - k) ((1,1,1)) (by refine ⟨?_,?_,?_,?_,?_,?_,by simp;omega⟩ <;> (first | (simp (maxSteps:=5000000) -dsimp only [gr,reduceEqDiff,reduceLT,reduceAdd,reduceMod,Nat.reduceBEq,zaa,zac,zad,zab,hsl,hw,zDk f p,zdy];first | done | rfl | (simp;done)) | assumption | rfl)) ?_
 intro (k,v,w) sa ⟨h1a,h5a,r11a,h6a,r15a,h7a,hIa⟩
 obtain ⟨hk1,hk2,hk3⟩:=hIa
 have hrl:=zvy f p k
 simp (maxSteps:=5000000) -dsimp only [↓gp,gq,reduceCtorEq,reduceEqDiff,reduceLT,reduceLeDiff,reduceAdd,reduceMul,reduceSub,Nat.reduceBEq,Int.reduceToNat,Int.reduceLE,Int.reduceLT,Int.reduceNeg,reduceMod,zac,zad,zab,zaa,gT,TK.isInt,TK.agg,Array.toList,h1a,h5a,r11a,h6a,r15a,h7a,hsl,hrl]
 refine ⟨fun h=>?_,fun h=>?_⟩
 ·have hwk:IntKind.i64.wrap ((k:Int) - 1) = ((k - 1:Nat):Int):=by rw [zaq (by omega) (by omega)];omega
  have hg1:=zfV f (k:=k - 1) (by omega)
  have hg2:=zfV f h
  have ho1:=zcO f (k - 1) (Nat.le_refl 64)
  have ho2:=zcO f k (Nat.le_refl 64)
  simp (maxSteps:=5000000) -dsimp only [↓gp,gq,reduceCtorEq,reduceEqDiff,reduceLT,reduceLeDiff,reduceAdd,reduceMul,reduceSub,Nat.reduceBEq,Int.reduceToNat,Int.reduceLE,Int.reduceLT,Int.reduceNeg,reduceMod,zac,zad,zab,zaa,gT,TK.isInt,TK.agg,Array.toList,h1a,h5a,r11a,h6a,r15a,h7a,hsl,hrl,hwk,hg1,hg2]
  refine ⟨by kernel_rfl,by omega,by omega,h,h,zaf (zks (zaS f (k - 1) 64) (zaS f k 64) (k - 1) ho1 ho2 (fun i hi=>?_) (fun i hi=>?_)) ?_⟩
  ·have:=ze9.1 (zat 0 hi);exact ⟨this.1,this.2.2⟩
  ·have:=ze9.1 (zat 0 hi);exact ⟨this.1,by omega⟩
  ·simp (maxSteps:=5000000) -dsimp only [↓gp,gq,reduceCtorEq,reduceEqDiff,reduceLT,reduceLeDiff,reduceAdd,reduceMul,reduceSub,Nat.reduceBEq,Int.reduceToNat,Int.reduceLE,Int.reduceLT,Int.reduceNeg,reduceMod,zac,zad,zab,zaa,gT,TK.isInt,TK.agg,Array.toList,h1a,h5a,r11a,h6a,r15a,h7a,hsl,hrl,hwk,hg1,hg2]
   have hrk:znb p (zb0 (zaS f (k - 1) 64) (zaS f k 64)) = rkF f p k:=by unfold rkF;rw [if_neg (by omega)]
   have hb1:=zck (zaS f (k - 1) 64) (zaS f k 64)
   have hb3:=zmq (zaS f (k - 1) 64) (zaS f k 64)
   refine zaf (zni _ p hp (by omega) (zmp _ _) (by omega)) ?_
   rw [hrk]
   have hset:=zDl f p h
   simp (maxSteps:=5000000) -dsimp only [↓gp,gq,reduceCtorEq,reduceEqDiff,reduceLT,reduceLeDiff,reduceAdd,reduceMul,reduceSub,Nat.reduceBEq,Int.reduceToNat,Int.reduceLE,Int.reduceLT,Int.reduceNeg,reduceMod,zac,zad,zab,zaa,gT,TK.isInt,TK.agg,Array.toList,h1a,h5a,r11a,h6a,r15a,h7a,hsl,hrl,hwk,hg1,hg2,hset]
   refine ⟨by omega,by omega,by kernel_rfl,?_⟩
   exact zag ((k + 1,v,w)) (by refine ⟨?_,?_,?_,?_,?_,?_,⟨by dsimp only;omega,by dsimp only;omega,by dsimp only;omega⟩⟩ <;> (first | (simp (maxSteps:=5000000) -dsimp only [gr,reduceEqDiff,reduceLT,reduceAdd,reduceMod,Nat.reduceBEq,zaa,zac,zad,zab,h1a,h5a,r11a,h6a,r15a,h7a,zae h (by omega),hwk,hg1,hg2,hset];first | done | rfl | (simp;done)) | assumption | rfl)) (by first | omega | (simp only;omega) | (dsimp only;omega) | (show _ < _;simp;omega))
 ·have hrk:∀ j,j < zaV f + 1→(rkL f p k).getD j 0 = (rkF f p j:Int):=fun j hj=>by
   rw [zAH f p hj]
   split
   ·rfl
   ·rw [zyV (by omega)];rfl
  generalize rkL f p k = rk at *
  refine ⟨by omega,by omega,?_⟩
  refine zao (fun (zb:Nat × Nat × Nat × Nat) s=>match zb with | (k,v,w,u)=>s.sl 5 = .own 11 v∧s.rw 11 = ⟨v,.sli 22 1 false (iLL (zhV f))⟩∧s.sl 6 = .own 15 w∧s.rw 15 = ⟨w,.sli 3 1 false (iL rk)⟩∧s.sl 8 = .own 39 u∧s.rw 39 = ⟨u,.sli 3 1 false (iL (prt (zcT f p) (List.replicate (zaV f) 0) k))⟩∧s.sl 41 = int (zaV f:Nat)∧s.sl 42 = int k∧(k ≤ zaV f)) (fun (k,v,w,u)=>zaV f - k) ((0,v,w,(sa.rw 39).ver + 1)) (by refine ⟨?_,?_,?_,?_,?_,?_,?_,?_,by omega⟩ <;> (first | (simp (maxSteps:=5000000) -dsimp only [gr,reduceEqDiff,reduceLT,reduceAdd,reduceMod,Nat.reduceBEq,zaa,zac,zad,zab,h1a,h5a,r11a,h6a,r15a,h7a,hsl,zeg,zdy];first | done | rfl | (simp;done)) | assumption | rfl)) ?_
  intro (k,v,w,u) sb ⟨h5b,r11b,h6b,r15b,h8b,r39b,h41b,h42b,hIb⟩
  have hnl:(zcT f p).length = (List.replicate (zaV f) (0:Int)).length:=by simp [zaM]
  have hpl:(prt (zcT f p) (List.replicate (zaV f) 0) k).length = zaV f:=by rw [zcF hnl];simp
  by_cases h2:k < zaV f
  ·have hwk:=zae h2 (by omega)
   have hg1:=zfV f h2
   have ho1:=zcO f k (Nat.le_refl 64)
   have hr1:=zmr f p k
   have hr2:=zmr f p (k + 1)
   have hw1:IntKind.i64.wrap (((zaS f k 64).length:Int) - (rkF f p k:Int)) = ((zaS f k 64).length:Int) - (rkF f p k:Int):=zaq (by omega) (by omega)
   have hw2:IntKind.i64.wrap (((zaS f k 64).length:Int) - (rkF f p k:Int) - (rkF f p (k + 1):Int)) = ((zaS f k 64).length:Int) - (rkF f p k:Int) - (rkF f p (k + 1):Int):=zaq (by omega) (by omega)
   have hk1:=hrk k (by omega)
   have hk2:=hrk (k + 1) (by omega)
   have hset:(prt (zcT f p) (List.replicate (zaV f) 0) k).set k (((zaS f k 64).length:Int) - rkF f p k - rkF f p (k + 1)) = prt (zcT f p) (List.replicate (zaV f) 0) (k + 1):=by
    rw [← zgK f p h2,zfS hnl (by simpa using h2)]
   simp (maxSteps:=5000000) -dsimp only [↓gp,gq,reduceCtorEq,reduceEqDiff,reduceLT,reduceLeDiff,reduceAdd,reduceMul,reduceSub,Nat.reduceBEq,Int.reduceToNat,Int.reduceLE,Int.reduceLT,Int.reduceNeg,reduceMod,zac,zad,zab,zaa,gT,TK.isInt,TK.agg,Array.toList,h5b,r11b,h6b,r15b,h8b,r39b,h41b,h42b,hsl,hrl,hpl,hwk,hg1,zah,hk1,hk2,hw1,hw2,hset]
   refine ⟨fun _=>⟨by kernel_rfl,h2,h2,by omega,by omega,by omega,by omega,h2,by omega,by kernel_rfl,?_⟩,fun h3=>absurd h2 h3⟩
   exact zag ((k + 1,v,w,u)) (by refine ⟨?_,?_,?_,?_,?_,?_,?_,?_,by dsimp only;omega⟩ <;> (first | (simp (maxSteps:=5000000) -dsimp only [gr,reduceEqDiff,reduceLT,reduceAdd,reduceMod,Nat.reduceBEq,zaa,zac,zad,zab,h5b,r11b,h6b,r15b,h8b,r39b,h41b,h42b,hwk,hg1,hk1,hk2,hw1,hw2,hset];first | done | rfl | (simp;done)) | assumption | rfl)) (by first | omega | (simp only;omega) | (dsimp only;omega) | (show _ < _;simp;omega))
  ·simp (maxSteps:=5000000) -dsimp only [↓gp,gq,reduceCtorEq,reduceEqDiff,reduceLT,reduceLeDiff,reduceAdd,reduceMul,reduceSub,Nat.reduceBEq,Int.reduceToNat,Int.reduceLE,Int.reduceLT,Int.reduceNeg,reduceMod,zac,zad,zab,zaa,gT,TK.isInt,TK.agg,Array.toList,h5b,r11b,h6b,r15b,h8b,r39b,h41b,h42b,hsl,hrl,hpl]
   refine ⟨fun h3=>absurd h3 h2,fun _=>?_⟩
   have e:k = (List.replicate (zaV f) (0:Int)).length:=by simp;omega
   have:=zfR hnl
   rw [← e] at this
   rw [this]
noncomputable def zet (n:Int) (xs:List Int):Bool:=zcN n xs && !(xs.length == 0)
theorem zaJ {n:Int} {xs:List Int}:zet n xs = true ↔ zcN n xs = true∧0 < xs.length:=by
 unfold zet
 cases zcN n xs <;> simp [Nat.pos_iff_ne_zero]
noncomputable def zkU (n:Int) (xs:List Int):Int:=if zet n xs = true then (zap (xs.getD (xs.length - 1) 0).toNat:Int) - 1 else -2
theorem zyT (n:Int) (xs:List Int):decide (zkU n xs < -1) = !zet n xs:=by
 unfold zkU
 cases zet n xs <;> simp;omega
theorem zcU (n:Int) (xs:List Int):AC Try.prog 65 [.ag [int n,zbv xs]] (.im (int (zkU n xs))):=by
 refine AC.go (rs:=[.tmp 2]) zbe zax Try.func65 rfl rfl rfl (by kernel_rfl) fun hl=>?_
 simp only [za6,zbt,and_true,zcn,zd4,zc5,true_and] at hl
 simp (maxSteps:=5000000) -dsimp only [↓gp,gq,reduceCtorEq,reduceEqDiff,reduceLT,reduceLeDiff,reduceAdd,reduceMul,reduceSub,Nat.reduceBEq,Int.reduceToNat,Int.reduceLE,Int.reduceLT,Int.reduceNeg,reduceMod,zac,zad,zab,zaa,gT,TK.isInt,TK.agg,Array.toList]
 refine zaf (zbO n xs) ?_
 have hw:0 < xs.length→IntKind.i64.wrap ((xs.length:Int) - 1) = ((xs.length - 1:Nat):Int):=fun h=>by rw [zaq (by omega) (by omega)];omega
 by_cases hh:zet n xs = true
 ·obtain ⟨h1,h2⟩:=zaJ.1 hh
  have hs:=znW (zcw h1) (k:=xs.length - 1) (by omega)
  have hc:=zcI (s:=xs.getD (xs.length - 1) 0) hs.1 (by omega)
  have hz:((xs.length:Int) == 0) = false:=by rw [beq_eq_false_iff_ne];omega
  have hp:=zbT (s:=(xs.getD (xs.length - 1) 0).toNat) (by omega)
  simp (maxSteps:=5000000) -dsimp only [↓gp,gq,reduceCtorEq,reduceEqDiff,reduceLT,reduceLeDiff,reduceAdd,reduceMul,reduceSub,Nat.reduceBEq,Int.reduceToNat,Int.reduceLE,Int.reduceLT,Int.reduceNeg,reduceMod,zac,zad,zab,zaa,gT,TK.isInt,TK.agg,Array.toList,h1,hz,hw h2,Int.toNat_natCast]
  refine ⟨by omega,by omega,zaf hc ?_⟩
  have hw2:IntKind.i64.wrap ((zap (xs.getD (xs.length - 1) 0).toNat:Int) - 1) = (zap (xs.getD (xs.length - 1) 0).toNat:Int) - 1:=zaq (by omega) (by omega)
  have hd:zkU n xs = (zap (xs.getD (xs.length - 1) 0).toNat:Int) - 1:=if_pos hh
  simp (maxSteps:=5000000) -dsimp only [↓gp,gq,reduceCtorEq,reduceEqDiff,reduceLT,reduceLeDiff,reduceAdd,reduceMul,reduceSub,Nat.reduceBEq,Int.reduceToNat,Int.reduceLE,Int.reduceLT,Int.reduceNeg,reduceMod,zac,zad,zab,zaa,gT,TK.isInt,TK.agg,Array.toList,hw2,hd]
 ·have hd:zkU n xs = -2:=if_neg hh
  rw [hd]
  simp (maxSteps:=5000000) -dsimp only [↓gp,gq,reduceCtorEq,reduceEqDiff,reduceLT,reduceLeDiff,reduceAdd,reduceMul,reduceSub,Nat.reduceBEq,Int.reduceToNat,Int.reduceLE,Int.reduceLT,Int.reduceNeg,reduceMod,zac,zad,zab,zaa,gT,TK.isInt,TK.agg,Array.toList]
  exact fun hc h0=>absurd (zaJ.2 ⟨by simpa using hc,by simp at h0;exact List.length_pos_iff.2 h0⟩) hh
theorem zcs (n:Int) (xs:List Int) (hx:okS xs):AC Try.prog 150 [int n,zbv xs] (.ag [.im (int n),.fr 3 1 (iL (ofN (zhS (inF xs) true)))]):=by
 refine AC.go (rs:=[.cell 4 27]) zbe zax Try.func150 rfl rfl rfl (by kernel_rfl) fun hl=>?_
 simp (maxSteps:=5000000) -dsimp only [↓gp,gq,reduceCtorEq,reduceEqDiff,reduceLT,reduceLeDiff,reduceAdd,reduceMul,reduceSub,Nat.reduceBEq,Int.reduceToNat,Int.reduceLE,Int.reduceLT,Int.reduceNeg,reduceMod,zac,zad,zab,zaa,gT,TK.isInt,TK.agg,Array.toList]
 refine zaf (zh1 true xs hx) ?_
 simp (maxSteps:=5000000) -dsimp only [↓gp,gq,reduceCtorEq,reduceEqDiff,reduceLT,reduceLeDiff,reduceAdd,reduceMul,reduceSub,Nat.reduceBEq,Int.reduceToNat,Int.reduceLE,Int.reduceLT,Int.reduceNeg,reduceMod,zac,zad,zab,zaa,gT,TK.isInt,TK.agg,Array.toList]
theorem zkq (n:Int) (xs:List Int) (w:Nat) (hw:w < 64) (hx:okS xs) (hlen:xs.length ≤ 1000):AC Try.prog 116 [.ag [int n,zbv xs],int w] (.ag [.im (int n),.fr 3 1 (iL (ofN (zhS (inF (xs.map fun x=>zcZ .i64 x w)) true)))]):=by
 refine AC.go (rs:=[.cell 4 27]) zbe zax Try.func116 rfl rfl rfl (by kernel_rfl) fun hl=>?_
 simp only [za6,zbt,and_true,zcn,zd4,zc5,true_and] at hl
 simp (maxSteps:=5000000) -dsimp only [↓gp,gq,reduceCtorEq,reduceEqDiff,reduceLT,reduceLeDiff,reduceAdd,reduceMul,reduceSub,Nat.reduceBEq,Int.reduceToNat,Int.reduceLE,Int.reduceLT,Int.reduceNeg,reduceMod,zac,zad,zab,zaa,gT,TK.isInt,TK.agg,Array.toList]
 have hmap:∀ k,k < xs.length→(xs.take (k + 1)).map (fun x=>zcZ .i64 x w) = (xs.take k).map (fun x=>zcZ .i64 x w) ++ [zcZ .i64 (xs.getD k 0) w]:=fun k h=>by rw [zaR 0 h];simp
 refine zao (fun (za:Nat × Nat) s=>match za with | (k,v)=>s.sl 1 = int w∧s.sl 2 = .ref 2 1 0∧s.rw 2 = ⟨1,.box 27 [int n,zbv xs]⟩∧s.sl 4 = .ref 4 1 0∧s.rw 4 = ⟨1,.box 27 [int 0,.v (.slice none 0 0)]⟩∧s.sl 5 = .own 7 v∧s.rw 7 = ⟨v,.sli 3 1 false (iL ((xs.take k).map fun x=>zcZ .i64 x w))⟩∧s.sl 6 = int k∧(k ≤ xs.length)) (fun (k,v)=>xs.length - k) ((0,1)) (by refine ⟨?_,?_,?_,?_,?_,?_,?_,?_,by simp⟩ <;> (first | (simp (maxSteps:=5000000) -dsimp only [gr,reduceEqDiff,reduceLT,reduceAdd,reduceMod,Nat.reduceBEq,zaa,zac,zad,zab];first | done | rfl | (simp;done)) | assumption | rfl)) ?_
 intro (k,v) sa ⟨h1a,h2a,r2a,h4a,r4a,h5a,r7a,h6a,hIa⟩
 simp (maxSteps:=5000000) -dsimp only [↓gp,gq,reduceCtorEq,reduceEqDiff,reduceLT,reduceLeDiff,reduceAdd,reduceMul,reduceSub,Nat.reduceBEq,Int.reduceToNat,Int.reduceLE,Int.reduceLT,Int.reduceNeg,reduceMod,zac,zad,zab,zaa,gT,TK.isInt,TK.agg,Array.toList,h1a,h2a,r2a,h4a,r4a,h5a,r7a,h6a]
 refine ⟨fun h=>⟨h,h,by rw [List.length_map,List.length_take];omega,zag ((k + 1,v + 1)) (by refine ⟨?_,?_,?_,?_,?_,?_,?_,?_,by omega⟩ <;> (first | (simp (maxSteps:=5000000) -dsimp only [gr,reduceEqDiff,reduceLT,reduceAdd,reduceMod,Nat.reduceBEq,zaa,zac,zad,zab,h1a,h2a,r2a,h4a,r4a,h5a,r7a,h6a,zae h (by omega),hmap k h];first | done | rfl | (simp;done)) | assumption | rfl)) (by first | omega | (simp only;omega) | (dsimp only;omega) | (show _ < _;simp;omega))⟩,fun h=>?_⟩
 have:k = xs.length:=by omega
 subst this
 have ht:xs.take xs.length = xs:=List.take_length
 rw [ht] at r7a
 refine zaf (zcs n _ ?_) ?_
 ·intro x hx'
  obtain ⟨y,hy,rfl⟩:=List.mem_map.1 hx'
  exact zyA (hx y (by rwa [ht] at hy)) (by omega)
 ·simp (maxSteps:=5000000) -dsimp only [↓gp,gq,reduceCtorEq,reduceEqDiff,reduceLT,reduceLeDiff,reduceAdd,reduceMul,reduceSub,Nat.reduceBEq,Int.reduceToNat,Int.reduceLE,Int.reduceLT,Int.reduceNeg,reduceMod,zac,zad,zab,zaa,gT,TK.isInt,TK.agg,Array.toList,h1a,h2a,r2a,h4a,r4a,h5a,r7a,h6a,ht]
theorem zrI {xs:List Int} (hx:okS xs) {w:Nat} (hw:w < 64) (s:Nat):inF (xs.map fun x=>zcZ .i64 x (w:Int)) s = true ↔ ∃ x ∈ xs,x.toNat &&& w = s:=by
 unfold inF
 rw [decide_eq_true_iff,List.mem_map]
 have key:∀ x ∈ xs,zcZ .i64 x (w:Int) = ((x.toNat &&& w:Nat):Int):=fun x h=>by
  have:=hx x h
  rw [← za4 (by omega) (by omega)]
  congr 1;omega
 exact ⟨fun ⟨x,h1,h2⟩=>⟨x,h1,by rw [key x h1] at h2;omega⟩,fun ⟨x,h1,h2⟩=>⟨x,h1,by rw [key x h1,h2]⟩⟩
noncomputable def zDi (xs:List Int) (w:Nat):List Int:=ofN (zhS (inF (xs.map fun x=>zcZ .i64 x (w:Int))) true)
theorem zyS {xs:List Int} (hx:okS xs) {w:Nat} (hw:w < 64) {t:Nat} (ht:t < 64):zak (zDi xs w) t = zcx (zak xs) w t:=by
 unfold zDi zcx
 rw [zqk]
 refine Bool.eq_iff_iff.2 ⟨fun h=>?_,fun h=>?_⟩
 ·obtain ⟨s,hs,h2⟩:=List.any_eq_true.1 h
  simp only [Bool.and_eq_true,beq_iff_eq] at h2
  obtain ⟨x,hx1,hx2⟩:=(zrI hx hw s).1 h2.1
  have e1:t &&& s = t:=by rw [Nat.and_comm];exact h2.2
  have e2:s &&& x.toNat = s:=by rw [← hx2,Nat.and_comm,← Nat.and_assoc,Nat.and_self]
  have e3:s &&& w = s:=by rw [← hx2,Nat.and_assoc,Nat.and_self]
  rw [Bool.and_eq_true]
  refine ⟨za8.2 ⟨x,hx1,by rw [Nat.and_comm];exact zgH e1 e2⟩,?_⟩
  rw [beq_iff_eq,Nat.and_comm];exact zgH e1 e3
 ·rw [Bool.and_eq_true,beq_iff_eq] at h
  obtain ⟨x,hx1,hx2⟩:=za8.1 h.1
  have hlt:x.toNat &&& w < 64:=by
   have:x.toNat &&& w ≤ w:=Nat.and_le_right
   omega
  refine List.any_eq_true.2 ⟨x.toNat &&& w,List.mem_range.2 hlt,?_⟩
  rw [Bool.and_eq_true,beq_iff_eq]
  exact ⟨(zrI hx hw _).2 ⟨x,hx1,rfl⟩,by rw [Nat.and_assoc,h.2,hx2]⟩
theorem zFr {n:Int} {xs:List Int} (h:zcN n xs = true) {w:Nat} (hw:w < 64):zcN n (zDi xs w) = true:=by
 have hx:=zcw h
 obtain ⟨h1,h6,hk⟩:=zbH.1 h
 refine zgI ⟨h1,h6,fun k hk2=>?_⟩
 unfold zDi at hk2 ⊢
 rw [zah] at hk2
 have hpw:=zrD (inF (xs.map fun x=>zcZ .i64 x (w:Int))) true
 have hmem:=fun i (hi:i < (zhS (inF (xs.map fun x=>zcZ .i64 x (w:Int))) true).length)=>zfc.1 (zat 0 hi)
 have hin:=fun i (hi:i < (zhS (inF (xs.map fun x=>zcZ .i64 x (w:Int))) true).length)=>(zrI hx hw _).1 (hmem i hi).1.2
 generalize zhS (inF (xs.map fun x=>zcZ .i64 x (w:Int))) true = ys at *
 have hbef:∀ i j,i < j→j < ys.length→zuh (ys.getD i 0) (ys.getD j 0):=fun i j hij hj=>by
  have:=List.pairwise_iff_getElem.1 hpw i j (by omega) hj hij
  have a:ys.getD i 0 = ys[i]'(by omega):=by simp [List.getD,show i < ys.length by omega]
  have b:ys.getD j 0 = ys[j]:=by simp [List.getD,hj]
  rw [a,b];exact this
 refine ⟨?_,fun h0=>?_,fun i hi=>?_⟩
 ·obtain ⟨x,hx1,hx2⟩:=hin k hk2
  rw [zaL hk2]
  obtain ⟨i,hi,rfl⟩:=zbq 0 hx1
  have:=(hk i hi).1
  unfold zdv at this ⊢
  rw [decide_eq_true_iff] at this ⊢
  have hle:ys.getD k 0 ≤ (xs.getD i 0).toNat:=by rw [← hx2];exact Nat.and_le_left
  refine ⟨by omega,by omega,by omega,?_⟩
  omega
 ·rw [zaL hk2,zaL (by omega)]
  have hb:=hbef (k - 1) k (by omega) hk2
  have:=(hmem k hk2).1.1
  have:=(hmem (k - 1) (by omega)).1.1
  unfold zkH
  unfold zuh at hb
  rw [zce (by omega),zce (by omega)]
  simp only [Bool.and_eq_true,decide_eq_true_iff]
  refine ⟨by omega,by omega,?_⟩
  split
  ·rw [decide_eq_true_iff];omega
  ·rw [decide_eq_true_iff];omega
 ·have hlti:=(hmem i (by omega)).1.1
  have hltk:=(hmem k hk2).1
  rw [zaL hk2,zaL (by omega),za4 (by omega) (by omega)]
  intro e
  have:=zcS.1 (hmem i (by omega)).2 (ys.getD k 0) hltk.1 hltk.2 (by omega)
  have hb:=hbef i k hi hk2
  rw [this] at hb
  exact zfN hb
theorem zur {n:Int} {xs:List Int} (h:zcN n xs = true):xs.length ≤ 64:=by
 have hn:=zui (zbH.1 h)
 have hx:=zcw h
 have h2:(xs.map Int.toNat).Nodup:=by
  refine List.Pairwise.map _ (fun a b=>?_) (List.Pairwise.imp_of_mem (S:=fun a b=>0 ≤ a∧0 ≤ b∧a ≠ b) (fun ha hb hab=>⟨(hx _ ha).1,(hx _ hb).1,hab⟩) hn)
  intro ⟨q1,q2,q3⟩ e
  omega
 refine Classical.byContradiction fun hc=>?_
 have:=(zka (m:=List.range 64) h2 (fun x hx'=>?_) (by simp;omega)).length_eq
 ·simp at this;omega
 ·obtain ⟨y,hy,rfl⟩:=List.mem_map.1 hx'
  have:=hx y hy
  exact List.mem_range.2 (by omega)
theorem zAG {n:Int} {xs:List Int} (h:zcN n xs = true) {w:Nat} (hw:w < 64) (t:Nat) (ht:t < 64):zbM n (zDi xs w) t = zcx (zak xs) w t:=by
 unfold zbM
 rw [zFr h hw,zyS (zcw h) hw ht];rfl
theorem zDj {n:Int} {xs:List Int} (h:zcN n xs = true) {w:Nat} (hw:w < 64) {p:Int} (hp:isP p = true):zD4 (zbM n (zDi xs w)) p = zcT (zcx (zak xs) w) p:=by
 unfold zD4
 rw [if_pos hp]
 exact zvs p fun s hs=>zAG h hw s hs
theorem zEc {m:Nat} (h1:1 ≤ m) (hm:m ≤ 6) {f:Nat→Bool} (hf:∀ s,s < 64→f s = true→s < 2 ^ m):zcN (m:Int) (ofN (zhS f true)) = true:=by
 refine zgI ⟨(by omega:(1:Int) ≤ (m:Int)),(by omega:(m:Int) ≤ 6),fun k hk2=>?_⟩
 rw [zah] at hk2
 have hpw:=zrD f true
 have hmem:=fun i (hi:i < (zhS f true).length)=>zfc.1 (zat 0 hi)
 generalize zhS f true = ys at *
 have hbef:∀ i j,i < j→j < ys.length→zuh (ys.getD i 0) (ys.getD j 0):=fun i j hij hj=>by
  have:=List.pairwise_iff_getElem.1 hpw i j (by omega) hj hij
  have a:ys.getD i 0 = ys[i]'(by omega):=by simp [List.getD,show i < ys.length by omega]
  have b:ys.getD j 0 = ys[j]:=by simp [List.getD,hj]
  rw [a,b];exact this
 refine ⟨?_,fun h0=>?_,fun i hi=>?_⟩
 ·have h1:=hmem k hk2
  have h2:=hf _ h1.1.1 h1.1.2
  rw [zaL hk2]
  unfold zdv
  rw [decide_eq_true_iff]
  refine ⟨by omega,by omega,by omega,?_⟩
  rw [zfM];exact_mod_cast h2
 ·rw [zaL hk2,zaL (by omega)]
  have hb:=hbef (k - 1) k (by omega) hk2
  have:=(hmem k hk2).1.1
  have:=(hmem (k - 1) (by omega)).1.1
  unfold zkH
  unfold zuh at hb
  rw [zce (by omega),zce (by omega)]
  simp only [Bool.and_eq_true,decide_eq_true_iff]
  refine ⟨by omega,by omega,?_⟩
  split
  ·rw [decide_eq_true_iff];omega
  ·rw [decide_eq_true_iff];omega
 ·have hlti:=(hmem i (by omega)).1.1
  have hltk:=(hmem k hk2).1
  rw [zaL hk2,zaL (by omega),za4 (by omega) (by omega)]
  intro e
  have:=zcS.1 (hmem i (by omega)).2 (ys.getD k 0) hltk.1 hltk.2 (by omega)
  have hb:=hbef i k hi hk2
  rw [this] at hb
  exact zfN hb
theorem zEd (xs:List Int) (t:Nat):inF xs t = decide ((t:Int) ∈ xs):=rfl
def zk6 (xs:List Int) (s:Nat):List Int:=(xs.filter fun x=>zcZ .i64 x s == (s:Int)).map fun x=>x - s
theorem zv3 {xs:List Int} (hx:okS xs) {s:Nat} (hs:s < 64) (v:Nat):(v:Int) ∈ zk6 xs s ↔ ∃ x ∈ xs,x.toNat &&& s = s∧v = x.toNat - s:=by
 have key:∀ x ∈ xs,zcZ .i64 x (s:Int) = ((x.toNat &&& s:Nat):Int):=fun x h=>by
  have:=hx x h
  rw [← za4 (by omega) (by omega)]
  congr 1;omega
 unfold zk6
 rw [List.mem_map]
 refine ⟨fun ⟨x,h1,e⟩=>?_,fun ⟨x,h1,h2,e⟩=>?_⟩
 ·obtain ⟨a,b⟩:=List.mem_filter.1 h1
  rw [beq_iff_eq,key x a] at b
  exact ⟨x,a,by omega,by have:=hx x a;omega⟩
 ·refine ⟨x,List.mem_filter.2 ⟨h1,by rw [beq_iff_eq,key x h1,h2]⟩,?_⟩
  have:=hx x h1
  have:s ≤ x.toNat:=by rw [← h2];exact Nat.and_le_left
  omega
theorem zv4 {m:Nat} {xs:List Int} (h:zcN (m:Int) xs = true) {s:Nat} (hs:s < 64):zcN (m:Int) (ofN (zhS (inF (zk6 xs s)) true)) = true:=by
 obtain ⟨h1,h6,hk⟩:=zbH.1 h
 refine zEc (by omega) (by omega) fun t ht hf=>?_
 rw [zEd,decide_eq_true_iff] at hf
 obtain ⟨x,hx,_,rfl⟩:=(zv3 (zcw h) hs t).1 hf
 obtain ⟨i,hi,rfl⟩:=zbq 0 hx
 have:=(hk i hi).1
 unfold zdv at this
 rw [decide_eq_true_iff,zfM] at this
 omega
theorem zv5 {m:Nat} {xs:List Int} (h:zcN (m:Int) xs = true) {s:Nat} (hs:s < 64) (t:Nat):zbM m (ofN (zhS (inF (zk6 xs s)) true)) t = zay (zak xs) s t:=by
 unfold zbM
 rw [zv4 h hs,Bool.true_and,zqk]
 exact zvz (fun x hx=>by have:=zcw h x hx;omega) hs (fun v=>zv3 (zcw h) hs v) t
noncomputable def zvA (n:Int) (xs:List Int) (p:Int):Mat:=if zet n xs = true∧isP p = true then zvx (zak xs) p n.toNat else []
theorem zy0 {n:Int} {xs:List Int} {p:Int} (h:¬ (zet n xs = true∧isP p = true)):zvA n xs p = []:=if_neg h
theorem zFt {n i:Nat} (h:i < n):(List.range n).getD i 0 = i:=by simp [List.getD,h]
theorem zy1 {α:Type} (n:Nat) (a:α):List.replicate n a ++ [a] = List.replicate (n + 1) a:=by rw [List.replicate_succ']
theorem zho (n:Int) (xs:List Int) (p:Int):AC Try.prog 41 [.ag [int n,zbv xs],int p] (.tb 22 3 ((zvA n xs p).map iL)):=by
 refine AC.go (rs:=[.tmp 4]) zbe zax Try.func41 rfl rfl rfl (by kernel_rfl) fun hl=>?_
 simp only [za6,zbt,and_true,zcn,zd4,zc5,true_and] at hl
 simp (maxSteps:=5000000) -dsimp only [↓gp,gq,reduceCtorEq,reduceEqDiff,reduceLT,reduceLeDiff,reduceAdd,reduceMul,reduceSub,Nat.reduceBEq,Int.reduceToNat,Int.reduceLE,Int.reduceLT,Int.reduceNeg,reduceMod,zac,zad,zab,zaa,gT,TK.isInt,TK.agg,Array.toList]
 refine zaf (zcU n xs) ?_
 have hdt:=zyT n xs
 simp (maxSteps:=5000000) -dsimp only [↓gp,gq,reduceCtorEq,reduceEqDiff,reduceLT,reduceLeDiff,reduceAdd,reduceMul,reduceSub,Nat.reduceBEq,Int.reduceToNat,Int.reduceLE,Int.reduceLT,Int.reduceNeg,reduceMod,zac,zad,zab,zaa,gT,TK.isInt,TK.agg,Array.toList,hdt]
 refine ⟨fun hh=>zaf (zaY p) ?_,fun hh=>?_⟩
 ·have hh:zet n xs = true:=by simpa using hh
  simp (maxSteps:=5000000) -dsimp only [↓gp,gq,reduceCtorEq,reduceEqDiff,reduceLT,reduceLeDiff,reduceAdd,reduceMul,reduceSub,Nat.reduceBEq,Int.reduceToNat,Int.reduceLE,Int.reduceLT,Int.reduceNeg,reduceMod,zac,zad,zab,zaa,gT,TK.isInt,TK.agg,Array.toList]
  refine ⟨fun hp=>?_,fun hp=>?_⟩
  ·rw [zy0 (fun h=>by rw [h.2] at hp;cases hp)]
   exact zup (by simp (maxSteps:=5000000) -dsimp only [gr,reduceEqDiff,reduceLT,reduceAdd,reduceMod,Nat.reduceBEq,zaa,zac,zad,zab]) (by decide)
  ·have hp:isP p = true:=by simpa using hp
   have hcx:=(zaJ.1 hh).1
   obtain ⟨h1,h6,_⟩:=zbH.1 hcx
   have hb:zvA n xs p = zvx (zak xs) p n.toNat:=if_pos ⟨hh,hp⟩
   rw [hb]
   have hxo:=zcw hcx
   have hxl:=zur hcx
   obtain ⟨m,rfl⟩:∃ m:Nat,n = m:=⟨n.toNat,by omega⟩
   rw [Int.toNat_natCast]
   have h64:=zaz (m:=m) (by omega)
   have hsh:znN .i64 1 (m:Int) = ((2 ^ m:Nat):Int):=zbB (by omega)
   have hun:IntKind.u64.wrap (m:Int) = (m:Int):=zbG (by omega)
   have hm1:IntKind.i64.wrap ((m:Int) + 1) = ((m + 1:Nat):Int):=by rw [zaq (by omega) (by omega)];rfl
   refine zuo (k:=11) (v:=1) (e:=22) (e2:=3) (by simp (maxSteps:=5000000) -dsimp only [gr,reduceEqDiff,reduceLT,reduceAdd,reduceMod,Nat.reduceBEq,zaa,zac,zad,zab]) (fun j=>by simp (maxSteps:=5000000) -dsimp only [gr,reduceEqDiff,reduceLT,reduceAdd,reduceMod,Nat.reduceBEq,zaa,zac,zad,zab]) (fun (i:Nat) s=>s.sl 1 = int p∧s.sl 2 = .ref 2 1 0∧s.rw 2 = ⟨1,.box 27 [int (m:Nat),zbv xs]⟩∧s.sl 5 = .own 11 (i + 1)∧s.sl 6 = int i∧(i ≤ m + 1∧TabG s.rw 11 (i + 1) 22 3 i (List.replicate i (List.replicate (m + 1) 0)))) (fun i=>m + 1 - i) (0) (fun sX htX hslX hoX=>(by refine ⟨?_,?_,?_,?_,?_,⟨by omega,htX⟩⟩ <;> (first | (simp (maxSteps:=5000000) -dsimp only [gr,reduceEqDiff,reduceLT,reduceAdd,reduceMod,Nat.reduceBEq,zaa,zac,zad,zab,hslX,hoX];first | done | rfl | (simp;done)) | assumption | rfl))) ?_
   intro i sa ⟨h1a,h2a,r2a,h5a,h6a,hIa⟩
   obtain ⟨hi,ht⟩:=hIa
   simp (maxSteps:=5000000) -dsimp only [↓gp,gq,reduceCtorEq,reduceEqDiff,reduceLT,reduceLeDiff,reduceAdd,reduceMul,reduceSub,Nat.reduceBEq,Int.reduceToNat,Int.reduceLE,Int.reduceLT,Int.reduceNeg,reduceMod,zac,zad,zab,zaa,gT,TK.isInt,TK.agg,Array.toList,h1a,h2a,r2a,h5a,h6a,hm1,Int.toNat_natCast]
   refine ⟨fun h=>⟨by omega,by omega,?_⟩,fun h=>?_⟩
   ·refine zGa ?_
    simp (maxSteps:=5000000) -dsimp only [↓gp,gq,reduceCtorEq,reduceEqDiff,reduceLT,reduceLeDiff,reduceAdd,reduceMul,reduceSub,Nat.reduceBEq,Int.reduceToNat,Int.reduceLE,Int.reduceLT,Int.reduceNeg,reduceMod,zac,zad,zab,zaa,gT,TK.isInt,TK.agg,Array.toList,h1a,h2a,r2a,h5a,h6a,ht.top]
    refine ⟨by omega,?_⟩
    exact zrB (k:=11) (v:=i + 1 + 1) (e:=22) (e2:=3) (n:=i) (d:=31) (vd:=(sa.rw 31).ver + 1) (M:=List.replicate i (List.replicate (m + 1) 0)) (r:=List.replicate (m + 1) 0) (by simp (maxSteps:=5000000) -dsimp only [gr,reduceEqDiff,reduceLT,reduceAdd,reduceMod,Nat.reduceBEq,zaa,zac,zad,zab,ht.top]) (by simp) (fun j hj=>by simp (maxSteps:=5000000) -dsimp only [gr,reduceEqDiff,reduceLT,reduceAdd,reduceMod,Nat.reduceBEq,zaa,zac,zad,zab,ht.row j hj]) (fun j hj=>by simp (maxSteps:=5000000) -dsimp only [gr,reduceEqDiff,reduceLT,reduceAdd,reduceMod,Nat.reduceBEq,zaa,zac,zad,zab,ht.rest j hj]) (by simp (maxSteps:=5000000) -dsimp only [gr,reduceEqDiff,reduceLT,reduceAdd,reduceMod,Nat.reduceBEq,zaa,zac,zad,zab,hm1]) (by decide) (by decide) (i + 1) (fun sX htX hslX hoX=>(by refine ⟨?_,?_,?_,?_,?_,⟨by omega,(zy1 i _ ▸ htX:TabG _ _ _ _ _ _ _)⟩⟩ <;> (first | (simp (maxSteps:=5000000) -dsimp only [gr,reduceEqDiff,reduceLT,reduceAdd,reduceMod,Nat.reduceBEq,zaa,zac,zad,zab,hslX,hoX,h1a,h2a,r2a,h5a,h6a,h1a,h2a,r2a,h5a,h6a,zae (show i < m + 1 by omega) (by omega)];first | done | rfl | (simp;done)) | assumption | rfl))) (by first | omega | (simp only;omega) | (dsimp only;omega) | (show _ < _;simp;omega))
   ·have:i = m + 1:=by omega
    subst this
    have htI:=ht.done
    refine zao (fun (w:Nat) s=>s.sl 1 = int p∧s.sl 2 = .ref 2 1 0∧s.rw 2 = ⟨1,.box 27 [int (m:Nat),zbv xs]⟩∧s.sl 5 = .own 11 (m + 1 + 1)∧s.sl 7 = int w∧(w ≤ 2 ^ m∧TabI s.rw 11 (m + 1 + 1) 22 3 (List.range (m + 1)) (znP (zak xs) p m w))) (fun w=>2 ^ m - w) (0) (by refine ⟨?_,?_,?_,?_,?_,⟨Nat.zero_le _,htI.same (by simp (maxSteps:=5000000) -dsimp only [gr,reduceEqDiff,reduceLT,reduceAdd,reduceMod,Nat.reduceBEq,zaa,zac,zad,zab]) (fun x=>by simp (maxSteps:=5000000) -dsimp only [gr,reduceEqDiff,reduceLT,reduceAdd,reduceMod,Nat.reduceBEq,zaa,zac,zad,zab])⟩⟩ <;> (first | (simp (maxSteps:=5000000) -dsimp only [gr,reduceEqDiff,reduceLT,reduceAdd,reduceMod,Nat.reduceBEq,zaa,zac,zad,zab,h1a,h2a,r2a,h5a,h6a];first | done | rfl | (simp;done)) | assumption | rfl)) ?_
    intro w sb ⟨h1b,h2b,r2b,h5b,h7b,hIb⟩
    obtain ⟨hw,hb2⟩:=hIb
    simp (maxSteps:=5000000) -dsimp only [↓gp,gq,reduceCtorEq,reduceEqDiff,reduceLT,reduceLeDiff,reduceAdd,reduceMul,reduceSub,Nat.reduceBEq,Int.reduceToNat,Int.reduceLE,Int.reduceLT,Int.reduceNeg,reduceMod,zac,zad,zab,zaa,gT,TK.isInt,TK.agg,Array.toList,h1b,h2b,r2b,h5b,h7b,hsh,hun]
    refine ⟨fun h2=>zaf (zaK w (by omega)) ?_,fun h2=>?_⟩
    ·simp (maxSteps:=5000000) -dsimp only [↓gp,gq,reduceCtorEq,reduceEqDiff,reduceLT,reduceLeDiff,reduceAdd,reduceMul,reduceSub,Nat.reduceBEq,Int.reduceToNat,Int.reduceLE,Int.reduceLT,Int.reduceNeg,reduceMod,zac,zad,zab,zaa,gT,TK.isInt,TK.agg,Array.toList,h1b,h2b,r2b,h5b,h7b,hsh,hun]
     refine zaf (zkq _ xs w (by omega) hxo (by omega)) ?_
     simp (maxSteps:=5000000) -dsimp only [↓gp,gq,reduceCtorEq,reduceEqDiff,reduceLT,reduceLeDiff,reduceAdd,reduceMul,reduceSub,Nat.reduceBEq,Int.reduceToNat,Int.reduceLE,Int.reduceLT,Int.reduceNeg,reduceMod,zac,zad,zab,zaa,gT,TK.isInt,TK.agg,Array.toList,h1b,h2b,r2b,h5b,h7b,hsh,hun]
     refine zaf (zdq _ _ p) ?_
     have hins:=zDj hcx (w:=w) (by omega) hp
     unfold zDi at hins
     rw [hins]
     have hpn:=zgL (n:=m) (by omega) h2
     have hsm:=zko (zcx (zak xs) w) p
     have hdl:=zcg (zcx (zak xs) w)
     have hhl:=zaM (zcx (zak xs) w) p
     generalize hhs:zcT (zcx (zak xs) w) p = hs at *
     have hsq:=fun k=>zrE (j:=zap w) (zrF (zak xs) p m w) hsm k
     simp (maxSteps:=5000000) -dsimp only [↓gp,gq,reduceCtorEq,reduceEqDiff,reduceLT,reduceLeDiff,reduceAdd,reduceMul,reduceSub,Nat.reduceBEq,Int.reduceToNat,Int.reduceLE,Int.reduceLT,Int.reduceNeg,reduceMod,zac,zad,zab,zaa,gT,TK.isInt,TK.agg,Array.toList,h1b,h2b,r2b,h5b,h7b,hsh,hun]
     refine zao (fun (zc:Nat × Nat) s=>match zc with | (k,u)=>s.sl 1 = int p∧s.sl 2 = .ref 2 1 0∧s.rw 2 = ⟨1,.box 27 [int (m:Nat),zbv xs]⟩∧s.sl 5 = .own 11 (m + 1 + 1)∧s.sl 7 = int w∧s.sl 8 = int (zap w:Nat)∧s.sl 9 = .own 48 u∧s.rw 48 = ⟨u,.sli 3 1 false (iL hs)⟩∧s.sl 10 = int k∧(k ≤ hs.length∧TabI s.rw 11 (m + 1 + 1) 22 3 (List.range (m + 1)) (zne (znP (zak xs) p m w) (zap w) hs k))) (fun (k,u)=>hs.length - k) ((0,(sb.rw 48).ver + 1)) (by refine ⟨?_,?_,?_,?_,?_,?_,?_,?_,?_,⟨by omega,hb2.same (by simp (maxSteps:=5000000) -dsimp only [gr,reduceEqDiff,reduceLT,reduceAdd,reduceMod,Nat.reduceBEq,zaa,zac,zad,zab]) (fun x=>by simp (maxSteps:=5000000) -dsimp only [gr,reduceEqDiff,reduceLT,reduceAdd,reduceMod,Nat.reduceBEq,zaa,zac,zad,zab])⟩⟩ <;> (first | (simp (maxSteps:=5000000) -dsimp only [gr,reduceEqDiff,reduceLT,reduceAdd,reduceMod,Nat.reduceBEq,zaa,zac,zad,zab,h1b,h2b,r2b,h5b,h7b];first | done | rfl | (simp;done)) | assumption | rfl)) ?_
     intro (k,u) sc ⟨h1c,h2c,r2c,h5c,h7c,h8c,h9c,r48c,h10c,hIc⟩
     obtain ⟨hk,hb3⟩:=hIc
     have hend:(k = hs.length ∨ zap w < k)→zne (znP (zak xs) p m w) (zap w) hs k = znP (zak xs) p m (w + 1):=fun h=>by
      have e0:znP (zak xs) p m (w + 1) = zne (znP (zak xs) p m w) (zap w) (zcT (zcx (zak xs) w) p) (zaV (zcx (zak xs) w)):=rfl
      rw [e0,← hhl,hhs]
      rcases h with h | h
      ·rw [h]
      ·have:=zyQ (M:=znP (zak xs) p m w) (hs:=hs) h (hs.length - k)
       rw [show k + (hs.length - k) = hs.length by omega] at this
       exact this.symm
     by_cases h3:k < hs.length
     ·by_cases h4:k ≤ zap w
      ·have hsq:=hsq k
       have hs1:=hsq.small (zap w - k) (zap w)
       have hs2:=hsm k
       have hml:=hsq.len
       have hrl:=hsq.row (zap w - k) (by omega)
       have hadd:zne (znP (zak xs) p m w) (zap w) hs (k + 1) = znc (zne (znP (zak xs) p m w) (zap w) hs k) (zap w - k) (zap w) (hs.getD k 0):=by rw [zne,if_pos h4]
       generalize zne (znP (zak xs) p m w) (zap w) hs k = M at *
       have e1:(List.range (m + 1)).getD (zap w - k) 0 = zap w - k:=zFt (by omega)
       have hrow:=hb3.row (i:=zap w - k) (by omega)
       rw [e1] at hrow
       have hw1:IntKind.i64.wrap ((zap w:Int) - (k:Int)) = ((zap w - k:Nat):Int):=by rw [zaq (by omega) (by omega)];omega
       have hw2:IntKind.i64.wrap ((M.getD (zap w - k) []).getD (zap w) 0 + hs.getD k 0) = (M.getD (zap w - k) []).getD (zap w) 0 + hs.getD k 0:=zaq (by omega) (by omega)
       simp (maxSteps:=5000000) -dsimp only [↓gp,gq,reduceCtorEq,reduceEqDiff,reduceLT,reduceLeDiff,reduceAdd,reduceMul,reduceSub,Nat.reduceBEq,Int.reduceToNat,Int.reduceLE,Int.reduceLT,Int.reduceNeg,reduceMod,zac,zad,zab,zaa,gT,TK.isInt,TK.agg,Array.toList,h1c,h2c,r2c,h5c,h7c,h8c,h9c,r48c,h10c,hw1,hb3.top,zjC,e1,hrow,hrl,zar,List.length_range,hw2]
       refine ⟨fun _=>⟨fun _=>⟨by kernel_rfl,by omega,by omega,by omega,by omega,by omega,by omega,h3,h3,by omega,by omega,by kernel_rfl,?_⟩,fun h=>absurd h4 h⟩,fun h=>absurd h3 h⟩
       exact zag ((k + 1,u)) (by refine ⟨?_,?_,?_,?_,?_,?_,?_,?_,?_,⟨by dsimp only;omega,by
        dsimp only
        rw [hadd]
        exact hb3.set (i:=zap w - k) (by omega) (by simp (maxSteps:=5000000) -dsimp only [gr,reduceEqDiff,reduceLT,reduceAdd,reduceMod,Nat.reduceBEq,zaa,zac,zad,zab]) (by simp (maxSteps:=5000000) -dsimp only [gr,reduceEqDiff,reduceLT,reduceAdd,reduceMod,Nat.reduceBEq,zaa,zac,zad,zab,e1,h1c,h2c,r2c,h5c,h7c,h8c,h9c,r48c,h10c,hb3.top,hrow]) (fun x hx=>by simp (maxSteps:=5000000) -dsimp only [gr,reduceEqDiff,reduceLT,reduceAdd,reduceMod,Nat.reduceBEq,zaa,zac,zad,zab,e1 ▸ hx])⟩⟩ <;> (first | (simp (maxSteps:=5000000) -dsimp only [gr,reduceEqDiff,reduceLT,reduceAdd,reduceMod,Nat.reduceBEq,zaa,zac,zad,zab,h1c,h2c,r2c,h5c,h7c,h8c,h9c,r48c,h10c,zae h3 (by omega)];first | done | rfl | (simp;done)) | assumption | rfl)) (by first | omega | (simp only;omega) | (dsimp only;omega) | (show _ < _;simp;omega))
      ·have e:=hend (.inr (by omega))
       rw [e] at hb3
       simp (maxSteps:=5000000) -dsimp only [↓gp,gq,reduceCtorEq,reduceEqDiff,reduceLT,reduceLeDiff,reduceAdd,reduceMul,reduceSub,Nat.reduceBEq,Int.reduceToNat,Int.reduceLE,Int.reduceLT,Int.reduceNeg,reduceMod,zac,zad,zab,zaa,gT,TK.isInt,TK.agg,Array.toList,h1c,h2c,r2c,h5c,h7c,h8c,h9c,r48c,h10c]
       refine ⟨fun _=>⟨fun h=>absurd h h4,fun _=>?_⟩,fun h=>absurd h3 h⟩
       exact zag (w + 1) (by refine ⟨?_,?_,?_,?_,?_,⟨by omega,hb3.same (by simp (maxSteps:=5000000) -dsimp only [gr,reduceEqDiff,reduceLT,reduceAdd,reduceMod,Nat.reduceBEq,zaa,zac,zad,zab]) (fun x=>by simp (maxSteps:=5000000) -dsimp only [gr,reduceEqDiff,reduceLT,reduceAdd,reduceMod,Nat.reduceBEq,zaa,zac,zad,zab])⟩⟩ <;> (first | (simp (maxSteps:=5000000) -dsimp only [gr,reduceEqDiff,reduceLT,reduceAdd,reduceMod,Nat.reduceBEq,zaa,zac,zad,zab,h1b,h2b,r2b,h5b,h7b,h1c,h2c,r2c,h5c,h7c,h8c,h9c,r48c,h10c,zae h2 (by omega)];first | done | rfl | (simp;done)) | assumption | rfl)) (by first | omega | (simp only;omega) | (dsimp only;omega) | (show _ < _;simp;omega))
     ·have e:=hend (.inl (by omega))
      rw [e] at hb3
      simp (maxSteps:=5000000) -dsimp only [↓gp,gq,reduceCtorEq,reduceEqDiff,reduceLT,reduceLeDiff,reduceAdd,reduceMul,reduceSub,Nat.reduceBEq,Int.reduceToNat,Int.reduceLE,Int.reduceLT,Int.reduceNeg,reduceMod,zac,zad,zab,zaa,gT,TK.isInt,TK.agg,Array.toList,h1c,h2c,r2c,h5c,h7c,h8c,h9c,r48c,h10c]
      refine ⟨fun h=>absurd h h3,fun _=>?_⟩
      exact zag (w + 1) (by refine ⟨?_,?_,?_,?_,?_,⟨by omega,hb3.same (by simp (maxSteps:=5000000) -dsimp only [gr,reduceEqDiff,reduceLT,reduceAdd,reduceMod,Nat.reduceBEq,zaa,zac,zad,zab]) (fun x=>by simp (maxSteps:=5000000) -dsimp only [gr,reduceEqDiff,reduceLT,reduceAdd,reduceMod,Nat.reduceBEq,zaa,zac,zad,zab])⟩⟩ <;> (first | (simp (maxSteps:=5000000) -dsimp only [gr,reduceEqDiff,reduceLT,reduceAdd,reduceMod,Nat.reduceBEq,zaa,zac,zad,zab,h1b,h2b,r2b,h5b,h7b,h1c,h2c,r2c,h5c,h7c,h8c,h9c,r48c,h10c,zae h2 (by omega)];first | done | rfl | (simp;done)) | assumption | rfl)) (by first | omega | (simp only;omega) | (dsimp only;omega) | (show _ < _;simp;omega))
    ·have:w = 2 ^ m:=by omega
     subst this
     exact zkl hb2 (by decide) (fun j hj=>by have:=List.mem_range.1 hj;omega)
 ·have hh:zet n xs = false:=by simpa using hh
  rw [zy0 (fun h=>by rw [h.1] at hh;cases hh)]
  exact zup (by simp (maxSteps:=5000000) -dsimp only [gr,reduceEqDiff,reduceLT,reduceAdd,reduceMod,Nat.reduceBEq,zaa,zac,zad,zab]) (by decide)
theorem zk5 {w w':Nat→Bool} {m:Nat} (hm:m ≤ 6) (h:∀ s,s < 64→(decide (s < 2 ^ m) && w s) = w' s):zaE w (2 ^ m) = zaE w' 64 :=
 zdQ w' (zv7 w hm) fun s hs=>by rw [zj9,h s hs]
theorem ziS (G s t:Nat) (hG:G < 18446744073709551616) (hs:s < 64) (ht:t < 64):AC Try.prog 165 [int t,.eref false [int s] 0,.eref false [u64 G] 0] (.im (bool (zay G.testBit s t))):=by
 refine AC.go (rs:=[.tmp 4]) zbe zax Try.func165 rfl rfl rfl (by kernel_rfl) fun hl=>?_
 have e1:zcZ .i64 (t:Int) (s:Int) = ((t &&& s:Nat):Int):=za4 (by omega) (by omega)
 have e2:ior .i64 (t:Int) (s:Int) = ((t ||| s:Nat):Int):=zyC (by omega) (by omega)
 have h3:t ||| s < 64:=Nat.or_lt_two_pow (n:=6) ht hs
 simp (maxSteps:=5000000) -dsimp only [↓gp,gq,reduceCtorEq,reduceEqDiff,reduceLT,reduceLeDiff,reduceAdd,reduceMul,reduceSub,Nat.reduceBEq,Int.reduceToNat,Int.reduceLE,Int.reduceLT,Int.reduceNeg,reduceMod,zac,zad,zab,zaa,gT,TK.isInt,TK.agg,Array.toList,e1,e2]
 unfold zay
 refine ⟨fun h=>zaf (zb2 G _ hG h3) ?_,fun h=>?_⟩
 ·have h:t &&& s = 0:=by simpa using h
  rw [h]
  simp (maxSteps:=5000000) -dsimp only [↓gp,gq,reduceCtorEq,reduceEqDiff,reduceLT,reduceLeDiff,reduceAdd,reduceMul,reduceSub,Nat.reduceBEq,Int.reduceToNat,Int.reduceLE,Int.reduceLT,Int.reduceNeg,reduceMod,zac,zad,zab,zaa,gT,TK.isInt,TK.agg,Array.toList]
 ·have h:(t &&& s == 0) = false:=by rw [beq_eq_false_iff_ne];intro e;simp [e] at h
  rw [h];rfl
theorem zd2 (f:Nat→Bool) (s:Nat) (hs:s < 64):AC Try.prog 127 [u64 (zaE f 64:Nat),int s] (.im (u64 (zaE (zay f s) 64:Nat))):=by
 refine AC.go (rs:=[.tmp 4]) zbe zax Try.func127 rfl rfl rfl (by kernel_rfl) fun hl=>?_
 have hlt:=zbu f 64
 simp (maxSteps:=5000000) -dsimp only [↓gp,gq,reduceCtorEq,reduceEqDiff,reduceLT,reduceLeDiff,reduceAdd,reduceMul,reduceSub,Nat.reduceBEq,Int.reduceToNat,Int.reduceLE,Int.reduceLT,Int.reduceNeg,reduceMod,zac,zad,zab,zaa,gT,TK.isInt,TK.agg,Array.toList]
 refine zaf (zeu 6 (by omega) _ [.eref false [int s] 0,.eref false [u64 (zaE f 64:Nat)] 0] (zay (zaE f 64).testBit s) (fun rw=>rfl) fun t ht=>ziS _ s t (by omega) hs (by omega)) ?_
 rw [zk5 (w':=zay f s) (by omega) fun t ht=>by rw [decide_eq_true (show t < 2 ^ 6 by omega),Bool.true_and];exact zrJ (fun u hu=>za3 f hu) hs ht]
 simp (maxSteps:=5000000) -dsimp only [↓gp,gq,reduceCtorEq,reduceEqDiff,reduceLT,reduceLeDiff,reduceAdd,reduceMul,reduceSub,Nat.reduceBEq,Int.reduceToNat,Int.reduceLE,Int.reduceLT,Int.reduceNeg,reduceMod,zac,zad,zab,zaa,gT,TK.isInt,TK.agg,Array.toList]
theorem zei (n:Int) (xs:List Int) (w:Nat) (hs:w < 64) (hx:okS xs) (hlen:xs.length ≤ 1000):AC Try.prog 122 [.ag [int n,zbv xs],int w] (.ag [.im (int n),.fr 3 1 (iL (ofN (zhS (inF (zk6 xs w)) true)))]):=by
 refine AC.go (rs:=[.cell 4 27]) zbe zax Try.func122 rfl rfl rfl (by kernel_rfl) fun hl=>?_
 simp only [za6,zbt,and_true,zcn,zd4,zc5,true_and] at hl
 simp (maxSteps:=5000000) -dsimp only [↓gp,gq,reduceCtorEq,reduceEqDiff,reduceLT,reduceLeDiff,reduceAdd,reduceMul,reduceSub,Nat.reduceBEq,Int.reduceToNat,Int.reduceLE,Int.reduceLT,Int.reduceNeg,reduceMod,zac,zad,zab,zaa,gT,TK.isInt,TK.agg,Array.toList]
 have hlk:zk6 xs w = zk6 (xs.take xs.length) w:=by rw [List.take_length]
 refine zao (fun (za:Nat × Nat) s=>match za with | (k,v)=>s.sl 1 = int w∧s.sl 2 = .ref 2 1 0∧s.rw 2 = ⟨1,.box 27 [int n,zbv xs]⟩∧s.sl 4 = .ref 4 1 0∧s.rw 4 = ⟨1,.box 27 [int 0,.v (.slice none 0 0)]⟩∧s.sl 5 = .own 7 v∧s.rw 7 = ⟨v,.sli 3 1 false (iL (zk6 (xs.take k) w))⟩∧s.sl 6 = int k∧(k ≤ xs.length)) (fun (k,v)=>xs.length - k) ((0,1)) (by refine ⟨?_,?_,?_,?_,?_,?_,?_,?_,by simp⟩ <;> (first | (simp (maxSteps:=5000000) -dsimp only [gr,reduceEqDiff,reduceLT,reduceAdd,reduceMod,Nat.reduceBEq,zaa,zac,zad,zab];first | done | rfl | (simp;done)) | assumption | rfl)) ?_
 intro (k,v) sa ⟨h1a,h2a,r2a,h4a,r4a,h5a,r7a,h6a,hIa⟩
 have hll:(zk6 (xs.take k) w).length ≤ 1000:=by
  unfold zk6
  rw [List.length_map]
  have:=List.length_filter_le (fun x=>zcZ .i64 x (w:Int) == (w:Int)) (xs.take k)
  rw [List.length_take] at this
  omega
 simp (maxSteps:=5000000) -dsimp only [↓gp,gq,reduceCtorEq,reduceEqDiff,reduceLT,reduceLeDiff,reduceAdd,reduceMul,reduceSub,Nat.reduceBEq,Int.reduceToNat,Int.reduceLE,Int.reduceLT,Int.reduceNeg,reduceMod,zac,zad,zab,zaa,gT,TK.isInt,TK.agg,Array.toList,h1a,h2a,r2a,h4a,r4a,h5a,r7a,h6a]
 refine ⟨fun h=>⟨h,h,?_⟩,fun h=>?_⟩
 ·have hxk:=znW hx h
  have hwx:IntKind.i64.wrap (xs.getD k 0 - (w:Int)) = xs.getD k 0 - (w:Int):=zaq (by omega) (by omega)
  refine ⟨fun hy=>?_,fun hy=>?_⟩
  ·have e:zk6 (xs.take (k + 1)) w = zk6 (xs.take k) w ++ [xs.getD k 0 - (w:Int)]:=by
    unfold zk6
    rw [zaR 0 h,List.filter_append,List.map_append,List.filter_cons,if_pos hy];rfl
   exact ⟨h,h,by omega,zag ((k + 1,v + 1)) (by refine ⟨?_,?_,?_,?_,?_,?_,?_,?_,by dsimp only;omega⟩ <;> (first | (simp (maxSteps:=5000000) -dsimp only [gr,reduceEqDiff,reduceLT,reduceAdd,reduceMod,Nat.reduceBEq,zaa,zac,zad,zab,h1a,h2a,r2a,h4a,r4a,h5a,r7a,h6a,zae h (by omega),hwx,e];first | done | rfl | (simp;done)) | assumption | rfl)) (by first | omega | (simp only;omega) | (dsimp only;omega) | (show _ < _;simp;omega))⟩
  ·have e:zk6 (xs.take (k + 1)) w = zk6 (xs.take k) w:=by
    unfold zk6
    rw [zaR 0 h,List.filter_append,List.map_append,List.filter_cons,if_neg (by rw [hy];decide)];simp
   exact zag ((k + 1,v)) (by refine ⟨?_,?_,?_,?_,?_,?_,?_,?_,by dsimp only;omega⟩ <;> (first | (simp (maxSteps:=5000000) -dsimp only [gr,reduceEqDiff,reduceLT,reduceAdd,reduceMod,Nat.reduceBEq,zaa,zac,zad,zab,h1a,h2a,r2a,h4a,r4a,h5a,r7a,h6a,zae h (by omega),e];first | done | rfl | (simp;done)) | assumption | rfl)) (by first | omega | (simp only;omega) | (dsimp only;omega) | (show _ < _;simp;omega))
 ·have:k = xs.length:=by omega
  subst this
  rw [hlk]
  refine zaf (zcs n _ ?_) ?_
  ·intro x hx'
   unfold zk6 at hx'
   obtain ⟨y,hy,rfl⟩:=List.mem_map.1 hx'
   obtain ⟨a,b⟩:=List.mem_filter.1 hy
   rw [List.take_length] at a
   have:=hx y a
   rw [beq_iff_eq] at b
   have h2:zcZ .i64 y (w:Int) = ((y.toNat &&& w:Nat):Int):=by
    rw [← za4 (by omega) (by omega)];congr 1;omega
   have h3:y.toNat &&& w ≤ y.toNat:=Nat.and_le_left
   omega
  ·simp (maxSteps:=5000000) -dsimp only [↓gp,gq,reduceCtorEq,reduceEqDiff,reduceLT,reduceLeDiff,reduceAdd,reduceMul,reduceSub,Nat.reduceBEq,Int.reduceToNat,Int.reduceLE,Int.reduceLT,Int.reduceNeg,reduceMod,zac,zad,zab,zaa,gT,TK.isInt,TK.agg,Array.toList,h1a,h2a,r2a,h4a,r4a,h5a,r7a,h6a]
def zcv (h:List Int) (s k:Nat):List Nat:=((List.range k).filter fun j=>h.getD j 0 != 0).map (s + ·)
theorem zk4 (h:List Int) (s k:Nat):zcv h s (k + 1) = if (h.getD k 0 != 0) = true then zcv h s k ++ [s + k] else zcv h s k:=by
 unfold zcv
 rw [List.range_succ,List.filter_append]
 by_cases hz:(h.getD k 0 != 0) = true
 ·have e:List.filter (fun j=>h.getD j 0 != 0) [k] = [k]:=by
   show (match h.getD k 0 != 0 with | true=>[k] | false=>[]) = [k]
   rw [hz]
  rw [if_pos hz,e,List.map_append];rfl
 ·have e:List.filter (fun j=>h.getD j 0 != 0) [k] = []:=by
   show (match h.getD k 0 != 0 with | true=>[k] | false=>[]) = []
   rw [show (h.getD k 0 != 0) = false by simpa using hz]
  rw [if_neg hz,e,List.append_nil]
def zbS (f:Nat→Bool) (p:Int):Nat→List Nat
 | 0=>[]
 | i + 1=>zbS f p i ++ zcv (zcT (zay f ((zbL f).getD i 0)) p) (zap ((zbL f).getD i 0)) (zcT (zay f ((zbL f).getD i 0)) p).length
def znT:List Nat→Int | []=>-1 | a :: l=>((l.foldl min a:Nat):Int)
theorem zv2 (l:List Nat) (n:Nat):znT (l ++ [n]) = if znT l < 0 ∨ (n:Int) < znT l then (n:Int) else znT l:=by
 cases l with
 | nil=>rfl
 | cons a l =>
   show (((l ++ [n]).foldl min a:Nat):Int) = ite (((l.foldl min a:Nat):Int) < 0 ∨ (n:Int) < ((l.foldl min a:Nat):Int)) _ ((l.foldl min a:Nat):Int)
   rw [List.foldl_append]
   show ((min (l.foldl min a) n:Nat):Int) = _
   split <;> omega
theorem ziQ {h:List Int} {s k x:Nat}:x ∈ zcv h s k ↔ ∃ j,j < k∧h.getD j 0 ≠ 0∧x = s + j:=by
 unfold zcv
 rw [List.mem_map]
 constructor
 ·rintro ⟨j,hj,rfl⟩
  obtain ⟨a,b⟩:=List.mem_filter.1 hj
  exact ⟨j,List.mem_range.1 a,by simpa using b,rfl⟩
 ·rintro ⟨j,a,b,rfl⟩
  exact ⟨j,List.mem_filter.2 ⟨List.mem_range.2 a,by simpa using b⟩,rfl⟩
theorem ziR {f:Nat→Bool} {p:Int} {x:Nat}:∀ {i:Nat},x ∈ zbS f p i ↔ ∃ t,t < i∧x ∈ zcv (zcT (zay f ((zbL f).getD t 0)) p) (zap ((zbL f).getD t 0)) (zcT (zay f ((zbL f).getD t 0)) p).length
 | 0=>by simp [zbS]
 | i + 1=>by
   rw [zbS,List.mem_append,ziR]
   constructor
   ·rintro (⟨t,a,b⟩ | h)
    ·exact ⟨t,by omega,b⟩
    ·exact ⟨i,by omega,h⟩
   ·rintro ⟨t,a,b⟩
    by_cases e:t = i
    ·subst e;exact .inr b
    ·exact .inl ⟨t,by omega,b⟩
theorem zzS {h:List Int} {s k:Nat} (hs:s < 64) (hk:k ≤ 7):∀ x ∈ zcv h (zap s) k,x ≤ 100:=fun x hx=>by
 obtain ⟨j,a,_,rfl⟩:=ziQ.1 hx
 have:=zbT hs
 omega
theorem zCC {f:Nat→Bool} {p:Int} {i:Nat} (hi:i ≤ (zbL f).length):∀ x ∈ zbS f p i,x ≤ 100:=fun x hx=>by
 obtain ⟨t,ht,h⟩:=ziR.1 hx
 have hs:=(zbF.1 (zat 0 (show t < (zbL f).length by omega))).1
 exact zzS hs (by rw [zaM];exact zcg _) x h
def zkN (f:Nat→Bool) (p:Int):List Nat:=zbS f p (zbL f).length
noncomputable def znJ (n:Int) (xs:List Int) (p:Int):Int:=if zcN n xs = true∧isP p = true then znT (zkN (zak xs) p) else -1
theorem zr2 {m:Nat} {xs:List Int} {p:Int} (h:zcN (m:Int) xs = true) {s:Nat} (hs:s < 64) (hp:isP p = true):zD4 (zbM m (ofN (zhS (inF (zk6 xs s)) true))) p = zcT (zay (zak xs) s) p:=by
 unfold zD4
 rw [if_pos hp]
 exact congrArg (fun f=>zcT f p) (funext fun t=>zv5 h hs t)
theorem zfo (n:Int) (xs:List Int) (p:Int):AC Try.prog 59 [.ag [int n,zbv xs],int p] (.im (int (znJ n xs p))):=by
 refine AC.go (rs:=[.tmp 4]) zbe zax Try.func59 rfl rfl rfl (by kernel_rfl) fun hl=>?_
 simp (maxSteps:=5000000) -dsimp only [↓gp,gq,reduceCtorEq,reduceEqDiff,reduceLT,reduceLeDiff,reduceAdd,reduceMul,reduceSub,Nat.reduceBEq,Int.reduceToNat,Int.reduceLE,Int.reduceLT,Int.reduceNeg,reduceMod,zac,zad,zab,zaa,gT,TK.isInt,TK.agg,Array.toList]
 refine zaf (zcH n xs) ?_
 have hLl:=zdF (zbM n xs)
 have hno:¬ zcN n xs = true→zbL (zbM n xs) = []:=fun h=>by
  have h:zcN n xs = false:=by simpa using h
  refine List.eq_nil_iff_forall_not_mem.2 fun s hs=>?_
  have:=(zbF.1 hs).2
  unfold zbM at this
  rw [h] at this;cases this
 have hyes:zcN n xs = true→zbM n xs = zak xs:=fun h=>by funext s;unfold zbM;rw [h,Bool.true_and]
 have hLm:=fun k (hk:k < (zbL (zbM n xs)).length)=>zbF.1 (zat 0 hk)
 have hres:(isP p = true∧znJ n xs p = znT (zbS (zak xs) p (zbL (zbM n xs)).length)) ∨ znJ n xs p = -1:=by
  by_cases hc:zcN n xs = true∧isP p = true
  ·refine .inl ⟨hc.2,?_⟩
   rw [znJ,if_pos hc,hyes hc.1];rfl
  ·exact .inr (if_neg hc)
 have hres2:isP p = false→znJ n xs p = -1:=fun h=>if_neg fun hc=>by rw [hc.2] at h;cases h
 have hres3:¬ zcN n xs = true→znJ n xs p = -1:=fun h=>if_neg fun hc=>h hc.1
 have hin:∀ k,k < (zbL (zbM n xs)).length→zcN n xs = true:=fun k hk=>Classical.byContradiction fun h=>by rw [hno h] at hk;simp at hk
 have hcl:zcN n xs = true→∀ i,zbS (zak xs) p (i + 1) = zbS (zak xs) p i ++ zcv (zcT (zay (zak xs) ((zbL (zbM n xs)).getD i 0)) p) (zap ((zbL (zbM n xs)).getD i 0)) (zcT (zay (zak xs) ((zbL (zbM n xs)).getD i 0)) p).length:=fun h i=>by
  have:zbL (zak xs) = zbL (zbM n xs):=by rw [hyes h]
  rw [← this];rfl
 have hbd:zcN n xs = true→∀ i,i ≤ (zbL (zbM n xs)).length→∀ x ∈ zbS (zak xs) p i,x ≤ 100:=fun h i hi=>by
  have:zbL (zak xs) = zbL (zbM n xs):=by rw [hyes h]
  exact zCC (by rw [this];exact hi)
 generalize hL:zbL (zbM n xs) = L at *
 have hoL:=zah L
 have hm1:int (-1) = int (znT (zbS (zak xs) p 0)):=rfl
 simp (maxSteps:=5000000) -dsimp only [↓gp,gq,reduceCtorEq,reduceEqDiff,reduceLT,reduceLeDiff,reduceAdd,reduceMul,reduceSub,Nat.reduceBEq,Int.reduceToNat,Int.reduceLE,Int.reduceLT,Int.reduceNeg,reduceMod,zac,zad,zab,zaa,gT,TK.isInt,TK.agg,Array.toList,zah]
 refine zao (fun (i:Nat) s=>s.sl 1 = int p∧s.sl 2 = .ref 2 1 0∧s.rw 2 = ⟨1,.box 27 [int n,zbv xs]⟩∧s.sl 5 = int (znT (zbS (zak xs) p i))∧s.sl 6 = .own 12 1∧s.rw 12 = ⟨1,.sli 3 1 false (iL (ofN L))⟩∧s.sl 7 = int i∧(i ≤ L.length∧(i = 0 ∨ isP p = true))) (fun i=>L.length - i) (0) (by refine ⟨?_,?_,?_,?_,?_,?_,?_,⟨Nat.zero_le _,.inl rfl⟩⟩ <;> (first | (simp (maxSteps:=5000000) -dsimp only [gr,reduceEqDiff,reduceLT,reduceAdd,reduceMod,Nat.reduceBEq,zaa,zac,zad,zab,hm1];first | done | rfl | (simp;done)) | assumption | rfl)) ?_
 intro i sa ⟨h1a,h2a,r2a,h5a,h6a,r12a,h7a,hIa⟩
 obtain ⟨hi,hpi⟩:=hIa
 simp (maxSteps:=5000000) -dsimp only [↓gp,gq,reduceCtorEq,reduceEqDiff,reduceLT,reduceLeDiff,reduceAdd,reduceMul,reduceSub,Nat.reduceBEq,Int.reduceToNat,Int.reduceLE,Int.reduceLT,Int.reduceNeg,reduceMod,zac,zad,zab,zaa,gT,TK.isInt,TK.agg,Array.toList,h1a,h2a,r2a,h5a,h6a,r12a,h7a,zah]
 refine ⟨fun hlt=>zaf (zaY p) ?_,fun hlt=>?_⟩
 ·simp (maxSteps:=5000000) -dsimp only [↓gp,gq,reduceCtorEq,reduceEqDiff,reduceLT,reduceLeDiff,reduceAdd,reduceMul,reduceSub,Nat.reduceBEq,Int.reduceToNat,Int.reduceLE,Int.reduceLT,Int.reduceNeg,reduceMod,zac,zad,zab,zaa,gT,TK.isInt,TK.agg,Array.toList,h1a,h2a,r2a,h5a,h6a,r12a,h7a,zah]
  have hlt:i < L.length:=by omega
  have hcx:=hin i hlt
  obtain ⟨h1,h6,_⟩:=zbH.1 hcx
  obtain ⟨m,rfl⟩:∃ m:Nat,n = m:=⟨n.toNat,by omega⟩
  refine ⟨fun hp=>?_,fun hp=>?_⟩
  ·have hs64:=(hLm i hlt).1
   have hg:=zaL hlt
   have hhol:=zr2 (p:=p) hcx hs64 hp
   have hcs:=hcl hcx i
   have hb0:=hbd hcx i (by omega)
   have hdl:=zcg (zay (zak xs) (L.getD i 0))
   have hhl:=zaM (zay (zak xs) (L.getD i 0)) p
   generalize hs0:L.getD i 0 = s0 at *
   have hpl:=zbT hs64
   simp (maxSteps:=5000000) -dsimp only [↓gp,gq,reduceCtorEq,reduceEqDiff,reduceLT,reduceLeDiff,reduceAdd,reduceMul,reduceSub,Nat.reduceBEq,Int.reduceToNat,Int.reduceLE,Int.reduceLT,Int.reduceNeg,reduceMod,zac,zad,zab,zaa,gT,TK.isInt,TK.agg,Array.toList,h1a,h2a,r2a,h5a,h6a,r12a,h7a,zah,hg]
   refine ⟨by kernel_rfl,hlt,hlt,zaf (zei _ xs s0 hs64 (zcw hcx) (by have:=zur hcx;omega)) ?_⟩
   simp (maxSteps:=5000000) -dsimp only [↓gp,gq,reduceCtorEq,reduceEqDiff,reduceLT,reduceLeDiff,reduceAdd,reduceMul,reduceSub,Nat.reduceBEq,Int.reduceToNat,Int.reduceLE,Int.reduceLT,Int.reduceNeg,reduceMod,zac,zad,zab,zaa,gT,TK.isInt,TK.agg,Array.toList,h1a,h2a,r2a,h5a,h6a,r12a,h7a,zah,hg]
   refine zaf (zdq _ _ p) ?_
   rw [hhol]
   generalize zcT (zay (zak xs) s0) p = hs at *
   simp (maxSteps:=5000000) -dsimp only [↓gp,gq,reduceCtorEq,reduceEqDiff,reduceLT,reduceLeDiff,reduceAdd,reduceMul,reduceSub,Nat.reduceBEq,Int.reduceToNat,Int.reduceLE,Int.reduceLT,Int.reduceNeg,reduceMod,zac,zad,zab,zaa,gT,TK.isInt,TK.agg,Array.toList,h1a,h2a,r2a,h5a,h6a,r12a,h7a,zah,hg]
   have hz0:zbS (zak xs) p i = zbS (zak xs) p i ++ zcv hs (zap s0) 0:=(List.append_nil _).symm
   refine ⟨by kernel_rfl,?_⟩
   refine zao (fun (k:Nat) s=>s.sl 1 = int p∧s.sl 2 = .ref 2 1 0∧s.rw 2 = ⟨1,.box 27 [int (m:Nat),zbv xs]⟩∧s.sl 5 = int (znT (zbS (zak xs) p i ++ zcv hs (zap s0) k))∧s.sl 6 = .own 12 1∧s.rw 12 = ⟨1,.sli 3 1 false (iL (ofN L))⟩∧s.sl 7 = int i∧s.sl 8 = .own 30 ((sa.rw 30).ver + 1)∧s.rw 30 = ⟨(sa.rw 30).ver + 1,.sli 3 1 false (iL hs)⟩∧s.sl 9 = int k∧(k ≤ hs.length)) (fun k=>hs.length - k) (0) (by refine ⟨?_,?_,?_,?_,?_,?_,?_,?_,?_,?_,Nat.zero_le _⟩ <;> (first | (simp (maxSteps:=5000000) -dsimp only [gr,reduceEqDiff,reduceLT,reduceAdd,reduceMod,Nat.reduceBEq,zaa,zac,zad,zab,h1a,h2a,r2a,h5a,h6a,r12a,h7a,← hz0];first | done | rfl | (simp;done)) | assumption | rfl)) ?_
   intro k sb ⟨h1b,h2b,r2b,h5b,h6b,r12b,h7b,h8b,r30b,h9b,hIb⟩
   simp (maxSteps:=5000000) -dsimp only [↓gp,gq,reduceCtorEq,reduceEqDiff,reduceLT,reduceLeDiff,reduceAdd,reduceMul,reduceSub,Nat.reduceBEq,Int.reduceToNat,Int.reduceLE,Int.reduceLT,Int.reduceNeg,reduceMod,zac,zad,zab,zaa,gT,TK.isInt,TK.agg,Array.toList,h1b,h2b,r2b,h5b,h6b,r12b,h7b,h8b,r30b,h9b,zah,hg]
   refine ⟨fun hk=>⟨hlt,hlt,zaf (zaK s0 (by omega)) ?_⟩,fun hk=>?_⟩
   ·have hw:IntKind.i64.wrap ((zap s0:Int) + (k:Int)) = ((zap s0 + k:Nat):Int):=by rw [zaq (by omega) (by omega)];omega
    have hks:=zk4 hs (zap s0) k
    have hsn:znT (zbS (zak xs) p i ++ zcv hs (zap s0) (k + 1)) = if (hs.getD k 0 != 0) = true then (if znT (zbS (zak xs) p i ++ zcv hs (zap s0) k) < 0 ∨ ((zap s0 + k:Nat):Int) < znT (zbS (zak xs) p i ++ zcv hs (zap s0) k) then ((zap s0 + k:Nat):Int) else znT (zbS (zak xs) p i ++ zcv hs (zap s0) k)) else znT (zbS (zak xs) p i ++ zcv hs (zap s0) k):=by
     rw [hks]
     split
     ·rw [← List.append_assoc,zv2]
     ·rfl
    simp (maxSteps:=5000000) -dsimp only [↓gp,gq,reduceCtorEq,reduceEqDiff,reduceLT,reduceLeDiff,reduceAdd,reduceMul,reduceSub,Nat.reduceBEq,Int.reduceToNat,Int.reduceLE,Int.reduceLT,Int.reduceNeg,reduceMod,zac,zad,zab,zaa,gT,TK.isInt,TK.agg,Array.toList,h1b,h2b,r2b,h5b,h6b,r12b,h7b,h8b,r30b,h9b,zah,hg,hw]
    generalize znT (zbS (zak xs) p i ++ zcv hs (zap s0) k) = A at *
    refine ⟨hk,hk,fun hz=>⟨fun ha=>⟨fun hb=>?_,fun hb=>?_⟩,fun ha=>?_⟩,fun hz=>?_⟩
    ·rw [if_pos hz,if_pos (.inr hb)] at hsn
     exact zag (k + 1) (by refine ⟨?_,?_,?_,?_,?_,?_,?_,?_,?_,?_,by omega⟩ <;> (first | (simp (maxSteps:=5000000) -dsimp only [gr,reduceEqDiff,reduceLT,reduceAdd,reduceMod,Nat.reduceBEq,zaa,zac,zad,zab,h1b,h2b,r2b,h5b,h6b,r12b,h7b,h8b,r30b,h9b,hsn,zae (show k < 8 by omega) (by omega)];first | done | rfl | (simp;done)) | assumption | rfl)) (by first | omega | (simp only;omega) | (dsimp only;omega) | (show _ < _;simp;omega))
    ·rw [if_pos hz,if_neg (fun h=>h.elim ha hb)] at hsn
     exact zag (k + 1) (by refine ⟨?_,?_,?_,?_,?_,?_,?_,?_,?_,?_,by omega⟩ <;> (first | (simp (maxSteps:=5000000) -dsimp only [gr,reduceEqDiff,reduceLT,reduceAdd,reduceMod,Nat.reduceBEq,zaa,zac,zad,zab,h1b,h2b,r2b,h5b,h6b,r12b,h7b,h8b,r30b,h9b,hsn,zae (show k < 8 by omega) (by omega)];first | done | rfl | (simp;done)) | assumption | rfl)) (by first | omega | (simp only;omega) | (dsimp only;omega) | (show _ < _;simp;omega))
    ·rw [if_pos hz,if_pos (.inl ha)] at hsn
     exact zag (k + 1) (by refine ⟨?_,?_,?_,?_,?_,?_,?_,?_,?_,?_,by omega⟩ <;> (first | (simp (maxSteps:=5000000) -dsimp only [gr,reduceEqDiff,reduceLT,reduceAdd,reduceMod,Nat.reduceBEq,zaa,zac,zad,zab,h1b,h2b,r2b,h5b,h6b,r12b,h7b,h8b,r30b,h9b,hsn,zae (show k < 8 by omega) (by omega)];first | done | rfl | (simp;done)) | assumption | rfl)) (by first | omega | (simp only;omega) | (dsimp only;omega) | (show _ < _;simp;omega))
    ·rw [if_neg (by rw [hz];decide)] at hsn
     exact zag (k + 1) (by refine ⟨?_,?_,?_,?_,?_,?_,?_,?_,?_,?_,by omega⟩ <;> (first | (simp (maxSteps:=5000000) -dsimp only [gr,reduceEqDiff,reduceLT,reduceAdd,reduceMod,Nat.reduceBEq,zaa,zac,zad,zab,h1b,h2b,r2b,h5b,h6b,r12b,h7b,h8b,r30b,h9b,hsn,zae (show k < 8 by omega) (by omega)];first | done | rfl | (simp;done)) | assumption | rfl)) (by first | omega | (simp only;omega) | (dsimp only;omega) | (show _ < _;simp;omega))
   ·have hke:k = hs.length:=by omega
    subst hke
    rw [← hcs] at h5b
    exact zag (i + 1) (by refine ⟨?_,?_,?_,?_,?_,?_,?_,⟨by omega,.inr hp⟩⟩ <;> (first | (simp (maxSteps:=5000000) -dsimp only [gr,reduceEqDiff,reduceLT,reduceAdd,reduceMod,Nat.reduceBEq,zaa,zac,zad,zab,h1a,h2a,r2a,h5a,h6a,r12a,h7a,h1b,h2b,r2b,h5b,h6b,r12b,h7b,h8b,r30b,h9b,zae hlt (by omega)];first | done | rfl | (simp;done)) | assumption | rfl)) (by first | omega | (simp only;omega) | (dsimp only;omega) | (show _ < _;simp;omega))
  ·rw [hres2 hp]
   rcases hpi with rfl | h
   ·rfl
   ·rw [h] at hp;cases hp
 ·have hil:i = L.length:=by omega
  rcases hres with ⟨_,h⟩ | h
  ·rw [h,hil]
  ·rw [h]
   by_cases hc:zcN n xs = true
   ·rcases hpi with rfl | hp
    ·rfl
    ·have hd:znJ n xs p = znT (zkN (zak xs) p):=if_pos ⟨hc,hp⟩
     rw [hd] at h
     have:zkN (zak xs) p = zbS (zak xs) p i:=by
      unfold zkN
      have:zbL (zak xs) = L:=by rw [← hL,hyes hc]
      rw [this,hil]
     rw [← this,h]
   ·have:L = []:=hno hc
    rw [hil,this];rfl
end Go.Proofs.Ytpnknaaehcljoaa
