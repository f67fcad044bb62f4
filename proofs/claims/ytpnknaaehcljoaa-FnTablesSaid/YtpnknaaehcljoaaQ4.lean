/- DERIVED by an AI agent. -/
import Derived.Test.YtpnknaaehcljoaaQ3
import Derived.Test.YtpnknaaehcljoaaA13
import Derived.Test.YtpnknaaehcljoaaP1
import Derived.Test.YtpnknaaehcljoaaQ1
namespace Go.Proofs.Ytpnknaaehcljoaa
open Go.Abs
open Nat (reduceEqDiff reduceMod reduceAdd reduceLT reduceLeDiff reduceSub reduceMul)
set_option linter.unusedSimpArgs false
set_option linter.unusedVariables false
theorem zcJ {t:Nat} (h:t < 64):zn8 (t:Int) = (zas t:Nat):=by rw [zn8,if_pos (by omega)];simp
theorem zk3 (f:Nat→Bool) (m:Nat):zhK f (m + 1) = if f m = true then max (zhK f m) (zas m + 1) else zhK f m:=rfl
theorem zlq (f:Nat→Bool):AC Try.prog 125 [u64 (za5 f 64:Nat)] (.im (int ((zbJ f:Int) - 1))):=by
 refine AC.go (rs:=[.tmp 2]) zbc zax Try.func125 rfl rfl rfl (by kernel_rfl) fun hl=>?_
 simp (maxSteps:=5000000) -dsimp only [↓gp,gq,reduceCtorEq,reduceEqDiff,reduceLT,reduceLeDiff,reduceAdd,reduceMul,reduceSub,Nat.reduceBEq,Int.reduceToNat,Int.reduceLE,Int.reduceLT,Int.reduceNeg,reduceMod,zac,zad,zab,zaa,gT,TK.isInt,TK.agg,Array.toList]
 have hm1:=zca f 64
 refine zar (fun (m:Nat) s=>s.sl 0 = u64 (za5 f 64:Nat)∧s.sl 3 = int ((zhK f m:Int) - 1)∧s.sl 4 = int m∧(m ≤ 64)) (fun m=>64 - m) (0) (by refine ⟨?_,?_,?_,by omega⟩ <;> (first | (simp (maxSteps:=5000000) -dsimp only [gr,reduceEqDiff,reduceLT,reduceAdd,reduceMod,Nat.reduceBEq,zaa,zac,zad,zab,zhK];first | done | rfl | (simp;done)) | assumption | rfl)) ?_
 intro m sa ⟨h0a,h3a,h4a,hIa⟩
 simp (maxSteps:=5000000) -dsimp only [↓gp,gq,reduceCtorEq,reduceEqDiff,reduceLT,reduceLeDiff,reduceAdd,reduceMul,reduceSub,Nat.reduceBEq,Int.reduceToNat,Int.reduceLE,Int.reduceLT,Int.reduceNeg,reduceMod,zac,zad,zab,zaa,gT,TK.isInt,TK.agg,Array.toList,h0a,h3a,h4a]
 refine ⟨fun h=>zag (zg1 (za5 f 64) m (by omega) (by omega)) ?_,fun h=>?_⟩
 ·have h:m < 64:=by omega
  rw [zcl f h]
  simp (maxSteps:=5000000) -dsimp only [↓gp,gq,reduceCtorEq,reduceEqDiff,reduceLT,reduceLeDiff,reduceAdd,reduceMul,reduceSub,Nat.reduceBEq,Int.reduceToNat,Int.reduceLE,Int.reduceLT,Int.reduceNeg,reduceMod,zac,zad,zab,zaa,gT,TK.isInt,TK.agg,Array.toList,h0a,h3a,h4a]
  refine ⟨fun hf=>zag (za7 _) ?_,fun hf=>?_⟩
  ·simp (maxSteps:=5000000) -dsimp only [↓gp,gq,reduceCtorEq,reduceEqDiff,reduceLT,reduceLeDiff,reduceAdd,reduceMul,reduceSub,Nat.reduceBEq,Int.reduceToNat,Int.reduceLE,Int.reduceLT,Int.reduceNeg,reduceMod,zac,zad,zab,zaa,gT,TK.isInt,TK.agg,Array.toList,h0a,h3a,h4a,zcJ h]
   refine ⟨fun hg=>zag (za7 _) ?_,fun hg=>?_⟩
   ·simp (maxSteps:=5000000) -dsimp only [↓gp,gq,reduceCtorEq,reduceEqDiff,reduceLT,reduceLeDiff,reduceAdd,reduceMul,reduceSub,Nat.reduceBEq,Int.reduceToNat,Int.reduceLE,Int.reduceLT,Int.reduceNeg,reduceMod,zac,zad,zab,zaa,gT,TK.isInt,TK.agg,Array.toList,h0a,h3a,h4a,zcJ h]
    have e:(zhK f (m + 1):Int) - 1 = (zas m:Int):=by rw [zk3,if_pos hf];omega
    exact zah (m + 1) (by refine ⟨?_,?_,?_,by omega⟩ <;> (first | (simp (maxSteps:=5000000) -dsimp only [gr,reduceEqDiff,reduceLT,reduceAdd,reduceMod,Nat.reduceBEq,zaa,zac,zad,zab,h0a,h3a,h4a,zae h (by omega),zcJ h,e];first | done | rfl | (simp;done)) | assumption | rfl)) (by first | omega | (simp only;omega) | (dsimp only;omega) | (show _ < _;simp;omega))
   ·have e:zhK f (m + 1) = zhK f m:=by rw [zk3,if_pos hf];omega
    exact zah (m + 1) (by refine ⟨?_,?_,?_,by omega⟩ <;> (first | (simp (maxSteps:=5000000) -dsimp only [gr,reduceEqDiff,reduceLT,reduceAdd,reduceMod,Nat.reduceBEq,zaa,zac,zad,zab,h0a,h3a,h4a,zae h (by omega),e];first | done | rfl | (simp;done)) | assumption | rfl)) (by first | omega | (simp only;omega) | (dsimp only;omega) | (show _ < _;simp;omega))
  ·have e:zhK f (m + 1) = zhK f m:=by rw [zk3,if_neg (by rw [hf];decide)]
   exact zah (m + 1) (by refine ⟨?_,?_,?_,by omega⟩ <;> (first | (simp (maxSteps:=5000000) -dsimp only [gr,reduceEqDiff,reduceLT,reduceAdd,reduceMod,Nat.reduceBEq,zaa,zac,zad,zab,h0a,h3a,h4a,zae h (by omega),e];first | done | rfl | (simp;done)) | assumption | rfl)) (by first | omega | (simp only;omega) | (dsimp only;omega) | (show _ < _;simp;omega))
 ·have:m = 64:=by omega
  subst this;rfl
theorem zqX {f:Nat→Bool} {m j:Nat} (hf:f m = true):zaB f j (m + 1) = if j = zas m then zaB f j m ++ [m] else zaB f j m:=by
 rw [zeE,hf]
 by_cases e:j = zas m
 ·subst e;simp
 ·have:¬ zas m = j:=fun h=>e h.symm
  simp [e,this]
theorem zz5 {f:Nat→Bool} {m j:Nat} (hf:f m = false):zaB f j (m + 1) = zaB f j m:=by rw [zeE,hf];simp
def zii (f:Nat→Bool):Mat:=(List.range (zbJ f)).map fun k=>ofN (zaB f k 64)
theorem znZ (f:Nat→Bool):(zii f).length = zbJ f:=by simp [zii]
theorem zf3 (f:Nat→Bool) {k:Nat} (h:k < zbJ f):(zii f).getD k [] = ofN (zaB f k 64):=by simp [zii,List.getD,h]
theorem zlr (f:Nat→Bool):AC Try.prog 155 [u64 (za5 f 64:Nat)] (.tb 22 3 ((List.range (zbJ f)).map fun j=>iL (ofN (zaB f j 64)))):=by
 refine AC.go (rs:=[.tmp 2]) zbc zax Try.func155 rfl rfl rfl (by kernel_rfl) fun hl=>?_
 have hm1:=zca f 64
 have hd:=zda f
 simp (maxSteps:=5000000) -dsimp only [↓gp,gq,reduceCtorEq,reduceEqDiff,reduceLT,reduceLeDiff,reduceAdd,reduceMul,reduceSub,Nat.reduceBEq,Int.reduceToNat,Int.reduceLE,Int.reduceLT,Int.reduceNeg,reduceMod,zac,zad,zab,zaa,gT,TK.isInt,TK.agg,Array.toList]
 refine zag (zlq f) ?_
 have hw:IntKind.i64.wrap ((zbJ f:Int) - 1 + 1) = (zbJ f:Int):=by rw [zan (by omega) (by omega)];omega
 simp (maxSteps:=5000000) -dsimp only [↓gp,gq,reduceCtorEq,reduceEqDiff,reduceLT,reduceLeDiff,reduceAdd,reduceMul,reduceSub,Nat.reduceBEq,Int.reduceToNat,Int.reduceLE,Int.reduceLT,Int.reduceNeg,reduceMod,zac,zad,zab,zaa,gT,TK.isInt,TK.agg,Array.toList,hw]
 refine ⟨by omega,by omega,?_⟩
 refine zz2 (k:=9) (v:=1) (e:=22) (e2:=3) (n:=zbJ f) (by simp (maxSteps:=5000000) -dsimp only [gr,reduceEqDiff,reduceLT,reduceAdd,reduceMod,Nat.reduceBEq,zaa,zac,zad,zab,hw]) (fun j=>by simp (maxSteps:=5000000) -dsimp only [gr,reduceEqDiff,reduceLT,reduceAdd,reduceMod,Nat.reduceBEq,zaa,zac,zad,zab]) (fun (m:Nat) s=>s.sl 0 = u64 (za5 f 64:Nat)∧s.sl 3 = .own 9 1∧s.sl 4 = int m∧(m ≤ 64∧TabF s.rw 9 1 22 3 (zbJ f) (fun j=>1 + (zaB f j m).length) (fun j=>ofN (zaB f j m)))) (fun m=>64 - m) (0) (fun sX htX hslX hoX=>(by refine ⟨?_,?_,?_,⟨by omega,htX⟩⟩ <;> (first | (simp (maxSteps:=5000000) -dsimp only [gr,reduceEqDiff,reduceLT,reduceAdd,reduceMod,Nat.reduceBEq,zaa,zac,zad,zab,hslX,hoX];first | done | rfl | (simp;done)) | assumption | rfl))) ?_
 intro m sa ⟨h0a,h3a,h4a,hIa⟩
 obtain ⟨hm,ht⟩:=hIa
 simp (maxSteps:=5000000) -dsimp only [↓gp,gq,reduceCtorEq,reduceEqDiff,reduceLT,reduceLeDiff,reduceAdd,reduceMul,reduceSub,Nat.reduceBEq,Int.reduceToNat,Int.reduceLE,Int.reduceLT,Int.reduceNeg,reduceMod,zac,zad,zab,zaa,gT,TK.isInt,TK.agg,Array.toList,h0a,h3a,h4a]
 refine ⟨fun h=>zag (zg1 (za5 f 64) m (by omega) (by omega)) ?_,fun h=>?_⟩
 ·have h:m < 64:=by omega
  rw [zcl f h]
  simp (maxSteps:=5000000) -dsimp only [↓gp,gq,reduceCtorEq,reduceEqDiff,reduceLT,reduceLeDiff,reduceAdd,reduceMul,reduceSub,Nat.reduceBEq,Int.reduceToNat,Int.reduceLE,Int.reduceLT,Int.reduceNeg,reduceMod,zac,zad,zab,zaa,gT,TK.isInt,TK.agg,Array.toList,h0a,h3a,h4a]
  refine ⟨fun hf=>zag (za7 _) ?_,fun hf=>?_⟩
  ·have hk:zas m < zbJ f:=zrj 64 m h hf
   have hr:=ht.row (zas m) hk
   have hol:=zcn f (zas m) hm
   simp (maxSteps:=5000000) -dsimp only [↓gp,gq,reduceCtorEq,reduceEqDiff,reduceLT,reduceLeDiff,reduceAdd,reduceMul,reduceSub,Nat.reduceBEq,Int.reduceToNat,Int.reduceLE,Int.reduceLT,Int.reduceNeg,reduceMod,zac,zad,zab,zaa,gT,TK.isInt,TK.agg,Array.toList,h0a,h3a,h4a,zcJ h,ht.top,zg5,zz1,hr,zao]
   refine ⟨hk,hk,by omega,hk,by omega,zah (m + 1) ⟨(by (first | (simp (maxSteps:=5000000) -dsimp only [gr,reduceEqDiff,reduceLT,reduceAdd,reduceMod,Nat.reduceBEq,zaa,zac,zad,zab,h0a,h3a,h4a,zae h (by omega)];first | done | rfl | (simp;done)) | assumption | rfl)),(by (first | (simp (maxSteps:=5000000) -dsimp only [gr,reduceEqDiff,reduceLT,reduceAdd,reduceMod,Nat.reduceBEq,zaa,zac,zad,zab,h0a,h3a,h4a,zae h (by omega)];first | done | rfl | (simp;done)) | assumption | rfl)),(by (first | (simp (maxSteps:=5000000) -dsimp only [gr,reduceEqDiff,reduceLT,reduceAdd,reduceMod,Nat.reduceBEq,zaa,zac,zad,zab,h0a,h3a,h4a,zae h (by omega)];first | done | rfl | (simp;done)) | assumption | rfl)),⟨by omega,ht.add hk (r:=ofN (zaB f (zas m) m) ++ [(m:Int)]) (by simp (maxSteps:=5000000) -dsimp only [gr,reduceEqDiff,reduceLT,reduceAdd,reduceMod,Nat.reduceBEq,zaa,zac,zad,zab,h0a,h3a,h4a]) (by simp (maxSteps:=5000000) -dsimp only [gr,reduceEqDiff,reduceLT,reduceAdd,reduceMod,Nat.reduceBEq,zaa,zac,zad,zab,h0a,h3a,h4a]) (fun x hx=>by simp (maxSteps:=5000000) -dsimp only [gr,reduceEqDiff,reduceLT,reduceAdd,reduceMod,Nat.reduceBEq,zaa,zac,zad,zab,h0a,h3a,h4a,hx]) (fun j _=>?_) (fun j _=>?_)⟩⟩ (by first | omega | (simp only;omega) | (dsimp only;omega) | (show _ < _;simp;omega))⟩
   ·rw [zqX hf]
    split
    ·rename_i e;subst e;simp;omega
    ·rfl
   ·rw [zqX hf]
    split
    ·rename_i e;subst e;rw [zbi];rfl
    ·rfl
  ·have e:∀ j,zaB f j (m + 1) = zaB f j m:=fun j=>zz5 hf
   refine zah (m + 1) ⟨(by (first | (simp (maxSteps:=5000000) -dsimp only [gr,reduceEqDiff,reduceLT,reduceAdd,reduceMod,Nat.reduceBEq,zaa,zac,zad,zab,h0a,h3a,h4a,zae h (by omega)];first | done | rfl | (simp;done)) | assumption | rfl)),(by (first | (simp (maxSteps:=5000000) -dsimp only [gr,reduceEqDiff,reduceLT,reduceAdd,reduceMod,Nat.reduceBEq,zaa,zac,zad,zab,h0a,h3a,h4a,zae h (by omega)];first | done | rfl | (simp;done)) | assumption | rfl)),(by (first | (simp (maxSteps:=5000000) -dsimp only [gr,reduceEqDiff,reduceLT,reduceAdd,reduceMod,Nat.reduceBEq,zaa,zac,zad,zab,h0a,h3a,h4a,zae h (by omega)];first | done | rfl | (simp;done)) | assumption | rfl)),⟨by omega,?_⟩⟩ (by first | omega | (simp only;omega) | (dsimp only;omega) | (show _ < _;simp;omega))
   simp only [e]
   exact ht.same (by simp (maxSteps:=5000000) -dsimp only [gr,reduceEqDiff,reduceLT,reduceAdd,reduceMod,Nat.reduceBEq,zaa,zac,zad,zab]) (fun x=>by simp (maxSteps:=5000000) -dsimp only [gr,reduceEqDiff,reduceLT,reduceAdd,reduceMod,Nat.reduceBEq,zaa,zac,zad,zab])
 ·have:m = 64:=by omega
  subst this
  exact zz3 ht (by decide) (by omega)
theorem zn0 (f:Nat→Bool):AC Try.prog 155 [u64 (za5 f 64:Nat)] (.fr 22 1 (iLL (zii f))):=by
 have:=(zlr f).flat
 unfold zii iLL
 rw [List.map_map] at this ⊢
 exact this
theorem zhC (a b:Nat) (ha:a < 64) (hb:b < 64) (hp:zas b = zas a + 1):AC Try.prog 192 [int a,int b] (.im (int (zdw a b))):=by
 refine AC.go (rs:=[.tmp 4]) zbc zax Try.func192 rfl rfl rfl (by kernel_rfl) fun hl=>?_
 have hpa:=zdd ha
 have hand:=zfS (a:=a) (b:=b) (by omega) (by omega)
 simp (maxSteps:=5000000) -dsimp only [↓gp,gq,reduceCtorEq,reduceEqDiff,reduceLT,reduceLeDiff,reduceAdd,reduceMul,reduceSub,Nat.reduceBEq,Int.reduceToNat,Int.reduceLE,Int.reduceLT,Int.reduceNeg,reduceMod,zac,zad,zab,zaa,gT,TK.isInt,TK.agg,Array.toList,hand]
 refine ⟨fun h=>?_,fun h=>?_⟩
 ·have hs:¬ a &&& b = a:=by
   intro e
   rw [zeH.2 e] at h
   simp at h
  unfold zdw;rw [if_neg hs]
 ·have hs:a &&& b = a:=zeH.1 (by
   have h9:((a ^^^ (a &&& b):Nat):Int) = 0:=by simpa using h
   omega)
  obtain ⟨hle,hx⟩:=zss a ha b hb hs
  have hne:a ≠ b:=fun e=>by rw [e] at hp;omega
  have hand2:=zfS (a:=b) (b:=a) (by omega) (by omega)
  rw [Nat.and_comm b a,hx] at hand2
  have hw3:IntKind.i64.wrap (((b - a:Nat):Int) - 1) = ((b - a - 1:Nat):Int):=by rw [zan (by omega) (by omega)];omega
  have hand3:=zbN (a:=b) (b:=b - a - 1) (by omega) (by omega)
  have hlt:b &&& (b - a - 1) < 64:=by have:b &&& (b - a - 1) ≤ b:=Nat.and_le_left;omega
  have hp6:=zdd hlt
  have hmod:((zas (b &&& (b - a - 1)):Nat):Int).tmod 2 = ((zas (b &&& (b - a - 1)) % 2:Nat):Int):=by rw [zcz (by omega)];omega
  simp (maxSteps:=5000000) -dsimp only [↓gp,gq,reduceCtorEq,reduceEqDiff,reduceLT,reduceLeDiff,reduceAdd,reduceMul,reduceSub,Nat.reduceBEq,Int.reduceToNat,Int.reduceLE,Int.reduceLT,Int.reduceNeg,reduceMod,zac,zad,zab,zaa,gT,TK.isInt,TK.agg,Array.toList,hand2,hw3,hand3]
  refine zag (za7 _) ?_
  simp (maxSteps:=5000000) -dsimp only [↓gp,gq,reduceCtorEq,reduceEqDiff,reduceLT,reduceLeDiff,reduceAdd,reduceMul,reduceSub,Nat.reduceBEq,Int.reduceToNat,Int.reduceLE,Int.reduceLT,Int.reduceNeg,reduceMod,zac,zad,zab,zaa,gT,TK.isInt,TK.agg,Array.toList,zcJ hlt,hmod]
  unfold zdw
  rw [if_pos hs]
  refine ⟨by decide,fun h0=>?_,fun h0=>?_⟩
  ·rw [if_pos (by have h9:((zas (b &&& (b - a - 1)) % 2:Nat):Int) = 0:=by simpa using h0
                  omega)]
  ·rw [if_neg (by intro e;rw [e] at h0;simp at h0)]
theorem zEh {lo hi:List Nat} {i j:Nat} (hi':i < lo.length) (hj:j < hi.length):(hi.map fun b=>zdw (lo.getD i 0) b).getD j 0 = zdw (lo.getD i 0) (hi.getD j 0):=by
 simp [List.getD,hj]
theorem zk4 (lo hi:List Nat) (k:Nat) (hl1:lo.length ≤ 64) (hl2:hi.length ≤ 64) (hm1:∀ i,i < lo.length→lo.getD i 0 < 64∧zas (lo.getD i 0) = k) (hm2:∀ i,i < hi.length→hi.getD i 0 < 64∧zas (hi.getD i 0) = k + 1) :
 AC Try.prog 157 [zbx (ofN lo),zbx (ofN hi)] (.tb 22 3 ((zbT lo hi).map iL)):=by
 refine AC.go (rs:=[.tmp 4]) zbc zax Try.func157 rfl rfl rfl (by kernel_rfl) fun hl=>?_
 simp (maxSteps:=5000000) -dsimp only [↓gp,gq,reduceCtorEq,reduceEqDiff,reduceLT,reduceLeDiff,reduceAdd,reduceMul,reduceSub,Nat.reduceBEq,Int.reduceToNat,Int.reduceLE,Int.reduceLT,Int.reduceNeg,reduceMod,zac,zad,zab,zaa,gT,TK.isInt,TK.agg,Array.toList,zao]
 refine ⟨by omega,by omega,?_⟩
 refine zuK (k:=12) (v:=1) (e:=22) (e2:=3) (n:=lo.length) (by simp (maxSteps:=5000000) -dsimp only [gr,reduceEqDiff,reduceLT,reduceAdd,reduceMod,Nat.reduceBEq,zaa,zac,zad,zab,zao]) (fun j=>by simp (maxSteps:=5000000) -dsimp only [gr,reduceEqDiff,reduceLT,reduceAdd,reduceMod,Nat.reduceBEq,zaa,zac,zad,zab]) (fun (i:Nat) s=>s.sl 1 = zbx (ofN hi)∧s.sl 5 = .own 12 1∧s.sl 13 = zbx (ofN lo)∧s.sl 14 = int lo.length∧s.sl 15 = int i∧(i ≤ lo.length∧TabP s.rw 12 1 22 3 lo.length i (zbT (lo.take i) hi))) (fun i=>lo.length - i) (0) (fun sX htX hslX hoX=>(by refine ⟨?_,?_,?_,?_,?_,⟨by omega,htX⟩⟩ <;> (first | (simp (maxSteps:=5000000) -dsimp only [gr,reduceEqDiff,reduceLT,reduceAdd,reduceMod,Nat.reduceBEq,zaa,zac,zad,zab,hslX,hoX,zao];first | done | rfl | (simp;done)) | assumption | rfl))) ?_
 intro i sa ⟨h1a,h5a,h13a,h14a,h15a,hIa⟩
 obtain ⟨hi',ht⟩:=hIa
 simp (maxSteps:=5000000) -dsimp only [↓gp,gq,reduceCtorEq,reduceEqDiff,reduceLT,reduceLeDiff,reduceAdd,reduceMul,reduceSub,Nat.reduceBEq,Int.reduceToNat,Int.reduceLE,Int.reduceLT,Int.reduceNeg,reduceMod,zac,zad,zab,zaa,gT,TK.isInt,TK.agg,Array.toList,h1a,h5a,h13a,h14a,h15a,ht.top,zbn,zao]
 refine ⟨fun h=>?_,fun h=>?_⟩
 ·have hge:(ofN lo).getD i 0 = ((lo.getD i 0:Nat):Int):=zaV h
  have hlen:(zbT (lo.take i) hi).length = i:=by rw [zci,List.length_take];omega
  refine ⟨h,h,by omega,by omega,h,by omega,?_⟩
  refine zqz (k:=12) (v:=1) (e:=22) (e2:=3) (n:=lo.length) (i:=i) (d:=24) (vd:=(sa.rw 24).ver + 1) (M:=zbT (lo.take i) hi) (r:=List.replicate hi.length 0) (by simp (maxSteps:=5000000) -dsimp only [gr,reduceEqDiff,reduceLT,reduceAdd,reduceMod,Nat.reduceBEq,zaa,zac,zad,zab,ht.top]) hlen (fun j hj=>by simp (maxSteps:=5000000) -dsimp only [gr,reduceEqDiff,reduceLT,reduceAdd,reduceMod,Nat.reduceBEq,zaa,zac,zad,zab,ht.row j hj]) (fun j hj=>by simp (maxSteps:=5000000) -dsimp only [gr,reduceEqDiff,reduceLT,reduceAdd,reduceMod,Nat.reduceBEq,zaa,zac,zad,zab,ht.rest j hj]) (by simp (maxSteps:=5000000) -dsimp only [gr,reduceEqDiff,reduceLT,reduceAdd,reduceMod,Nat.reduceBEq,zaa,zac,zad,zab]) (by decide) (by decide) h (fun (j:Nat) s=>s.sl 1 = zbx (ofN hi)∧s.sl 5 = .own 12 1∧s.sl 13 = zbx (ofN lo)∧s.sl 14 = int lo.length∧s.sl 15 = int i∧s.sl 6 = int i∧s.sl 7 = int (lo.getD i 0:Nat)∧s.sl 26 = zbx (ofN hi)∧s.sl 27 = int hi.length∧s.sl 28 = int j∧(j ≤ hi.length∧TabP s.rw 12 1 22 3 lo.length (i + 1) (zbT (lo.take i) hi ++ [prt (hi.map fun b=>zdw (lo.getD i 0) b) (List.replicate hi.length 0) j]))) (fun j=>hi.length - j) (0) (fun sX htX hslX hoX=>(by refine ⟨?_,?_,?_,?_,?_,?_,?_,?_,?_,?_,⟨by omega,by rw [zd4];exact htX⟩⟩ <;> (first | (simp (maxSteps:=5000000) -dsimp only [gr,reduceEqDiff,reduceLT,reduceAdd,reduceMod,Nat.reduceBEq,zaa,zac,zad,zab,hslX,hoX,h1a,h5a,h13a,h14a,h15a,zao,hge];first | done | rfl | (simp;done)) | assumption | rfl))) ?_
  intro j sb ⟨h1b,h5b,h13b,h14b,h15b,h6b,h7b,h26b,h27b,h28b,hIb⟩
  obtain ⟨hj,ht2⟩:=hIb
  have hnl:(hi.map fun b=>zdw (lo.getD i 0) b).length = (List.replicate hi.length (0:Int)).length:=by simp
  have hrr:=ht2.row i (by omega)
  rw [zqA hlen] at hrr
  have hpl:∀ t,(prt (hi.map fun b=>zdw (lo.getD i 0) b) (List.replicate hi.length 0) t).length = hi.length:=fun t=>by rw [zcx hnl];simp
  simp (maxSteps:=5000000) -dsimp only [↓gp,gq,reduceCtorEq,reduceEqDiff,reduceLT,reduceLeDiff,reduceAdd,reduceMul,reduceSub,Nat.reduceBEq,Int.reduceToNat,Int.reduceLE,Int.reduceLT,Int.reduceNeg,reduceMod,zac,zad,zab,zaa,gT,TK.isInt,TK.agg,Array.toList,h1b,h5b,h13b,h14b,h15b,h6b,h7b,h26b,h27b,h28b,ht2.top,zkI,hrr,hpl,zbn,zao]
  refine ⟨fun h2=>?_,fun h2=>?_⟩
  ·have hge2:(ofN hi).getD j 0 = ((hi.getD j 0:Nat):Int):=zaV h2
   have ha:=hm1 i h
   have hb:=hm2 j h2
   refine ⟨h2,h2,?_⟩
   simp (maxSteps:=5000000) -dsimp only [↓gp,gq,reduceCtorEq,reduceEqDiff,reduceLT,reduceLeDiff,reduceAdd,reduceMul,reduceSub,Nat.reduceBEq,Int.reduceToNat,Int.reduceLE,Int.reduceLT,Int.reduceNeg,reduceMod,zac,zad,zab,zaa,gT,TK.isInt,TK.agg,Array.toList,h1b,h5b,h13b,h14b,h15b,h6b,h7b,h26b,h27b,h28b,ht2.top,zkI,hrr,hpl,zbn,hge2]
   refine ⟨by kernel_rfl,h,h,zag (zhC _ _ ha.1 hb.1 (by omega)) ?_⟩
   simp (maxSteps:=5000000) -dsimp only [↓gp,gq,reduceCtorEq,reduceEqDiff,reduceLT,reduceLeDiff,reduceAdd,reduceMul,reduceSub,Nat.reduceBEq,Int.reduceToNat,Int.reduceLE,Int.reduceLT,Int.reduceNeg,reduceMod,zac,zad,zab,zaa,gT,TK.isInt,TK.agg,Array.toList,h1b,h5b,h13b,h14b,h15b,h6b,h7b,h26b,h27b,h28b,ht2.top,zkI,hrr,hpl,zbn,hge2]
   refine ⟨h2,by omega,by kernel_rfl,zah (j + 1) ⟨(by (first | (simp (maxSteps:=5000000) -dsimp only [gr,reduceEqDiff,reduceLT,reduceAdd,reduceMod,Nat.reduceBEq,zaa,zac,zad,zab,h1b,h5b,h13b,h14b,h15b,h6b,h7b,h26b,h27b,h28b,zae h2 (by omega)];first | done | rfl | (simp;done)) | assumption | rfl)),(by (first | (simp (maxSteps:=5000000) -dsimp only [gr,reduceEqDiff,reduceLT,reduceAdd,reduceMod,Nat.reduceBEq,zaa,zac,zad,zab,h1b,h5b,h13b,h14b,h15b,h6b,h7b,h26b,h27b,h28b,zae h2 (by omega)];first | done | rfl | (simp;done)) | assumption | rfl)),(by (first | (simp (maxSteps:=5000000) -dsimp only [gr,reduceEqDiff,reduceLT,reduceAdd,reduceMod,Nat.reduceBEq,zaa,zac,zad,zab,h1b,h5b,h13b,h14b,h15b,h6b,h7b,h26b,h27b,h28b,zae h2 (by omega)];first | done | rfl | (simp;done)) | assumption | rfl)),(by (first | (simp (maxSteps:=5000000) -dsimp only [gr,reduceEqDiff,reduceLT,reduceAdd,reduceMod,Nat.reduceBEq,zaa,zac,zad,zab,h1b,h5b,h13b,h14b,h15b,h6b,h7b,h26b,h27b,h28b,zae h2 (by omega)];first | done | rfl | (simp;done)) | assumption | rfl)),(by (first | (simp (maxSteps:=5000000) -dsimp only [gr,reduceEqDiff,reduceLT,reduceAdd,reduceMod,Nat.reduceBEq,zaa,zac,zad,zab,h1b,h5b,h13b,h14b,h15b,h6b,h7b,h26b,h27b,h28b,zae h2 (by omega)];first | done | rfl | (simp;done)) | assumption | rfl)),(by (first | (simp (maxSteps:=5000000) -dsimp only [gr,reduceEqDiff,reduceLT,reduceAdd,reduceMod,Nat.reduceBEq,zaa,zac,zad,zab,h1b,h5b,h13b,h14b,h15b,h6b,h7b,h26b,h27b,h28b,zae h2 (by omega)];first | done | rfl | (simp;done)) | assumption | rfl)),(by (first | (simp (maxSteps:=5000000) -dsimp only [gr,reduceEqDiff,reduceLT,reduceAdd,reduceMod,Nat.reduceBEq,zaa,zac,zad,zab,h1b,h5b,h13b,h14b,h15b,h6b,h7b,h26b,h27b,h28b,zae h2 (by omega)];first | done | rfl | (simp;done)) | assumption | rfl)),(by (first | (simp (maxSteps:=5000000) -dsimp only [gr,reduceEqDiff,reduceLT,reduceAdd,reduceMod,Nat.reduceBEq,zaa,zac,zad,zab,h1b,h5b,h13b,h14b,h15b,h6b,h7b,h26b,h27b,h28b,zae h2 (by omega)];first | done | rfl | (simp;done)) | assumption | rfl)),(by (first | (simp (maxSteps:=5000000) -dsimp only [gr,reduceEqDiff,reduceLT,reduceAdd,reduceMod,Nat.reduceBEq,zaa,zac,zad,zab,h1b,h5b,h13b,h14b,h15b,h6b,h7b,h26b,h27b,h28b,zae h2 (by omega)];first | done | rfl | (simp;done)) | assumption | rfl)),(by (first | (simp (maxSteps:=5000000) -dsimp only [gr,reduceEqDiff,reduceLT,reduceAdd,reduceMod,Nat.reduceBEq,zaa,zac,zad,zab,h1b,h5b,h13b,h14b,h15b,h6b,h7b,h26b,h27b,h28b,zae h2 (by omega)];first | done | rfl | (simp;done)) | assumption | rfl)),⟨by omega,?_⟩⟩ (by first | omega | (simp only;omega) | (dsimp only;omega) | (show _ < _;simp;omega))⟩
   have e:zbT (lo.take i) hi ++ [prt (hi.map fun b=>zdw (lo.getD i 0) b) (List.replicate hi.length 0) (j + 1)] = (zbT (lo.take i) hi ++ [prt (hi.map fun b=>zdw (lo.getD i 0) b) (List.replicate hi.length 0) j]).set i ((prt (hi.map fun b=>zdw (lo.getD i 0) b) (List.replicate hi.length 0) j).set j (zdw (lo.getD i 0) (hi.getD j 0))):=by
    rw [zuL hlen,← zEh h h2,zfQ hnl (by simpa using h2)]
   rw [e]
   exact ht2.set (by omega) (by simp (maxSteps:=5000000) -dsimp only [gr,reduceEqDiff,reduceLT,reduceAdd,reduceMod,Nat.reduceBEq,zaa,zac,zad,zab,h1b,h5b,h13b,h14b,h15b,h6b,h7b,h26b,h27b,h28b]) (by simp (maxSteps:=5000000) -dsimp only [gr,reduceEqDiff,reduceLT,reduceAdd,reduceMod,Nat.reduceBEq,zaa,zac,zad,zab,h1b,h5b,h13b,h14b,h15b,h6b,h7b,h26b,h27b,h28b]) (fun x hx=>by simp (maxSteps:=5000000) -dsimp only [gr,reduceEqDiff,reduceLT,reduceAdd,reduceMod,Nat.reduceBEq,zaa,zac,zad,zab,h1b,h5b,h13b,h14b,h15b,h6b,h7b,h26b,h27b,h28b,hx])
  ·have:j = hi.length:=by omega
   subst this
   refine zah (i + 1) ⟨(by (first | (simp (maxSteps:=5000000) -dsimp only [gr,reduceEqDiff,reduceLT,reduceAdd,reduceMod,Nat.reduceBEq,zaa,zac,zad,zab,h1a,h5a,h13a,h14a,h15a,h1b,h5b,h13b,h14b,h15b,h6b,h7b,h26b,h27b,h28b,zae h (by omega)];first | done | rfl | (simp;done)) | assumption | rfl)),(by (first | (simp (maxSteps:=5000000) -dsimp only [gr,reduceEqDiff,reduceLT,reduceAdd,reduceMod,Nat.reduceBEq,zaa,zac,zad,zab,h1a,h5a,h13a,h14a,h15a,h1b,h5b,h13b,h14b,h15b,h6b,h7b,h26b,h27b,h28b,zae h (by omega)];first | done | rfl | (simp;done)) | assumption | rfl)),(by (first | (simp (maxSteps:=5000000) -dsimp only [gr,reduceEqDiff,reduceLT,reduceAdd,reduceMod,Nat.reduceBEq,zaa,zac,zad,zab,h1a,h5a,h13a,h14a,h15a,h1b,h5b,h13b,h14b,h15b,h6b,h7b,h26b,h27b,h28b,zae h (by omega)];first | done | rfl | (simp;done)) | assumption | rfl)),(by (first | (simp (maxSteps:=5000000) -dsimp only [gr,reduceEqDiff,reduceLT,reduceAdd,reduceMod,Nat.reduceBEq,zaa,zac,zad,zab,h1a,h5a,h13a,h14a,h15a,h1b,h5b,h13b,h14b,h15b,h6b,h7b,h26b,h27b,h28b,zae h (by omega)];first | done | rfl | (simp;done)) | assumption | rfl)),(by (first | (simp (maxSteps:=5000000) -dsimp only [gr,reduceEqDiff,reduceLT,reduceAdd,reduceMod,Nat.reduceBEq,zaa,zac,zad,zab,h1a,h5a,h13a,h14a,h15a,h1b,h5b,h13b,h14b,h15b,h6b,h7b,h26b,h27b,h28b,zae h (by omega)];first | done | rfl | (simp;done)) | assumption | rfl)),⟨by omega,?_⟩⟩ (by first | omega | (simp only;omega) | (dsimp only;omega) | (show _ < _;simp;omega))
   have e:prt (hi.map fun b=>zdw (lo.getD i 0) b) (List.replicate hi.length 0) hi.length = hi.map fun b=>zdw (lo.getD i 0) b:=by
    have:=zfP hnl
    simpa using this
   have ht3:=ht2
   rw [e,zmW h] at ht3
   exact ht3.same (by simp (maxSteps:=5000000) -dsimp only [gr,reduceEqDiff,reduceLT,reduceAdd,reduceMod,Nat.reduceBEq,zaa,zac,zad,zab]) (fun x=>by simp (maxSteps:=5000000) -dsimp only [gr,reduceEqDiff,reduceLT,reduceAdd,reduceMod,Nat.reduceBEq,zaa,zac,zad,zab])
 ·have:i = lo.length:=by omega
  subst this
  rw [List.take_length] at ht
  exact zeY ht.done (by decide) (fun j hj=>by have:=List.mem_range.1 hj;omega)
noncomputable def rkL (f:Nat→Bool) (p:Int) (k:Nat):List Int:=(List.range (zbJ f + 1)).map fun j=>if j < k then (rkF f p j:Int) else 0
theorem zwb (f:Nat→Bool) (p:Int) (k:Nat):(rkL f p k).length = zbJ f + 1:=by simp [rkL]
theorem zBz (f:Nat→Bool) (p:Int) {k j:Nat} (h:j < zbJ f + 1):(rkL f p k).getD j 0 = if j < k then (rkF f p j:Int) else 0:=by simp [rkL,List.getD,h]
theorem zEf (f:Nat→Bool) (p:Int):List.replicate (zbJ f + 1) 0 = rkL f p 1:=by
 refine List.ext_getElem (by simp [rkL]) fun j a b=>?_
 simp only [List.getElem_replicate,rkL,List.getElem_map,List.getElem_range]
 split
 ·have:j = 0:=by omega
  subst this;simp [rkF]
 ·rfl
theorem zEg (f:Nat→Bool) (p:Int) {k:Nat} (h:k < zbJ f):(rkL f p k).set k (rkF f p k) = rkL f p (k + 1):=by
 refine List.ext_getElem (by simp [rkL]) fun j a b=>?_
 rw [List.getElem_set]
 simp only [rkL,List.getElem_map,List.getElem_range]
 by_cases e:k = j
 ·subst e;simp
 ·rw [if_neg e]
  by_cases h1:j < k
  ·rw [if_pos h1,if_pos (by omega)]
  ·rw [if_neg h1,if_neg (by omega)]
theorem zlp (f:Nat→Bool) (p:Int) (hp:isP p = true):AC Try.prog 110 [u64 (za5 f 64:Nat),int p] (.fr 3 1 (iL (zev f p))):=by
 refine AC.go (rs:=[.tmp 4]) zbc zax Try.func110 rfl rfl rfl (by kernel_rfl) fun hl=>?_
 have hd:=zda f
 have hsl:=znZ f
 simp (maxSteps:=5000000) -dsimp only [↓gp,gq,reduceCtorEq,reduceEqDiff,reduceLT,reduceLeDiff,reduceAdd,reduceMul,reduceSub,Nat.reduceBEq,Int.reduceToNat,Int.reduceLE,Int.reduceLT,Int.reduceNeg,reduceMod,zac,zad,zab,zaa,gT,TK.isInt,TK.agg,Array.toList]
 refine zag (zn0 f) ?_
 have hw:IntKind.i64.wrap ((zbJ f:Int) + 1) = ((zbJ f + 1:Nat):Int):=by rw [zan (by omega) (by omega)];rfl
 simp (maxSteps:=5000000) -dsimp only [↓gp,gq,reduceCtorEq,reduceEqDiff,reduceLT,reduceLeDiff,reduceAdd,reduceMul,reduceSub,Nat.reduceBEq,Int.reduceToNat,Int.reduceLE,Int.reduceLT,Int.reduceNeg,reduceMod,zac,zad,zab,zaa,gT,TK.isInt,TK.agg,Array.toList,hsl,hw]
 refine ⟨by omega,by omega,?_⟩
 refine zar (fun (za:Nat × Nat × Nat) s=>match za with | (k,v,w)=>s.sl 1 = int p∧s.sl 5 = .own 11 v∧s.rw 11 = ⟨v,.sli 22 1 false (iLL (zii f))⟩∧s.sl 6 = .own 15 w∧s.rw 15 = ⟨w,.sli 3 1 false (iL (rkL f p k))⟩∧s.sl 7 = int k∧(1 ≤ k∧k ≤ zbJ f + 1∧(k ≤ zbJ f ∨ zbJ f = 0))) (fun (k,v,w)=>zbJ f + 1 - k) ((1,1,1)) (by refine ⟨?_,?_,?_,?_,?_,?_,by simp;omega⟩ <;> (first | (simp (maxSteps:=5000000) -dsimp only [gr,reduceEqDiff,reduceLT,reduceAdd,reduceMod,Nat.reduceBEq,zaa,zac,zad,zab,hsl,hw,zEf f p,zcL];first | done | rfl | (simp;done)) | assumption | rfl)) ?_
 intro (k,v,w) sa ⟨h1a,h5a,r11a,h6a,r15a,h7a,hIa⟩
 obtain ⟨hk1,hk2,hk3⟩:=hIa
 have hrl:=zwb f p k
 simp (maxSteps:=5000000) -dsimp only [↓gp,gq,reduceCtorEq,reduceEqDiff,reduceLT,reduceLeDiff,reduceAdd,reduceMul,reduceSub,Nat.reduceBEq,Int.reduceToNat,Int.reduceLE,Int.reduceLT,Int.reduceNeg,reduceMod,zac,zad,zab,zaa,gT,TK.isInt,TK.agg,Array.toList,h1a,h5a,r11a,h6a,r15a,h7a,hsl,hrl]
 refine ⟨fun h=>?_,fun h=>?_⟩
 ·have hwk:IntKind.i64.wrap ((k:Int) - 1) = ((k - 1:Nat):Int):=by rw [zan (by omega) (by omega)];omega
  have hg1:=zf3 f (k:=k - 1) (by omega)
  have hg2:=zf3 f h
  have ho1:=zcn f (k - 1) (Nat.le_refl 64)
  have ho2:=zcn f k (Nat.le_refl 64)
  simp (maxSteps:=5000000) -dsimp only [↓gp,gq,reduceCtorEq,reduceEqDiff,reduceLT,reduceLeDiff,reduceAdd,reduceMul,reduceSub,Nat.reduceBEq,Int.reduceToNat,Int.reduceLE,Int.reduceLT,Int.reduceNeg,reduceMod,zac,zad,zab,zaa,gT,TK.isInt,TK.agg,Array.toList,h1a,h5a,r11a,h6a,r15a,h7a,hsl,hrl,hwk,hg1,hg2]
  refine ⟨by kernel_rfl,by omega,by omega,h,h,zag (zk4 (zaB f (k - 1) 64) (zaB f k 64) (k - 1) ho1 ho2 (fun i hi=>?_) (fun i hi=>?_)) ?_⟩
  ·have:=zd3.1 (za0 0 hi);exact ⟨this.1,this.2.2⟩
  ·have:=zd3.1 (za0 0 hi);exact ⟨this.1,by omega⟩
  ·simp (maxSteps:=5000000) -dsimp only [↓gp,gq,reduceCtorEq,reduceEqDiff,reduceLT,reduceLeDiff,reduceAdd,reduceMul,reduceSub,Nat.reduceBEq,Int.reduceToNat,Int.reduceLE,Int.reduceLT,Int.reduceNeg,reduceMod,zac,zad,zab,zaa,gT,TK.isInt,TK.agg,Array.toList,h1a,h5a,r11a,h6a,r15a,h7a,hsl,hrl,hwk,hg1,hg2]
   have hrk:zm7 p (zbT (zaB f (k - 1) 64) (zaB f k 64)) = rkF f p k:=by unfold rkF;rw [if_neg (by omega)]
   have hb1:=zci (zaB f (k - 1) 64) (zaB f k 64)
   have hb3:=zlB (zaB f (k - 1) 64) (zaB f k 64)
   refine zag (znR _ p hp (by omega) (zlA _ _) (by omega)) ?_
   rw [hrk]
   have hset:=zEg f p h
   simp (maxSteps:=5000000) -dsimp only [↓gp,gq,reduceCtorEq,reduceEqDiff,reduceLT,reduceLeDiff,reduceAdd,reduceMul,reduceSub,Nat.reduceBEq,Int.reduceToNat,Int.reduceLE,Int.reduceLT,Int.reduceNeg,reduceMod,zac,zad,zab,zaa,gT,TK.isInt,TK.agg,Array.toList,h1a,h5a,r11a,h6a,r15a,h7a,hsl,hrl,hwk,hg1,hg2,hset]
   refine ⟨by omega,by omega,by kernel_rfl,?_⟩
   exact zah ((k + 1,v,w)) (by refine ⟨?_,?_,?_,?_,?_,?_,⟨by dsimp only;omega,by dsimp only;omega,by dsimp only;omega⟩⟩ <;> (first | (simp (maxSteps:=5000000) -dsimp only [gr,reduceEqDiff,reduceLT,reduceAdd,reduceMod,Nat.reduceBEq,zaa,zac,zad,zab,h1a,h5a,r11a,h6a,r15a,h7a,zae h (by omega),hwk,hg1,hg2,hset];first | done | rfl | (simp;done)) | assumption | rfl)) (by first | omega | (simp only;omega) | (dsimp only;omega) | (show _ < _;simp;omega))
 ·have hrk:∀ j,j < zbJ f + 1→(rkL f p k).getD j 0 = (rkF f p j:Int):=fun j hj=>by
   rw [zBz f p hj]
   split
   ·rfl
   ·rw [zzT (by omega)];rfl
  generalize rkL f p k = rk at *
  refine ⟨by omega,by omega,?_⟩
  refine zar (fun (zb:Nat × Nat × Nat × Nat) s=>match zb with | (k,v,w,u)=>s.sl 5 = .own 11 v∧s.rw 11 = ⟨v,.sli 22 1 false (iLL (zii f))⟩∧s.sl 6 = .own 15 w∧s.rw 15 = ⟨w,.sli 3 1 false (iL rk)⟩∧s.sl 8 = .own 39 u∧s.rw 39 = ⟨u,.sli 3 1 false (iL (prt (zev f p) (List.replicate (zbJ f) 0) k))⟩∧s.sl 41 = int (zbJ f:Nat)∧s.sl 42 = int k∧(k ≤ zbJ f)) (fun (k,v,w,u)=>zbJ f - k) ((0,v,w,(sa.rw 39).ver + 1)) (by refine ⟨?_,?_,?_,?_,?_,?_,?_,?_,by omega⟩ <;> (first | (simp (maxSteps:=5000000) -dsimp only [gr,reduceEqDiff,reduceLT,reduceAdd,reduceMod,Nat.reduceBEq,zaa,zac,zad,zab,h1a,h5a,r11a,h6a,r15a,h7a,hsl,zd4,zcL];first | done | rfl | (simp;done)) | assumption | rfl)) ?_
  intro (k,v,w,u) sb ⟨h5b,r11b,h6b,r15b,h8b,r39b,h41b,h42b,hIb⟩
  have hnl:(zev f p).length = (List.replicate (zbJ f) (0:Int)).length:=by simp [za9]
  have hpl:(prt (zev f p) (List.replicate (zbJ f) 0) k).length = zbJ f:=by rw [zcx hnl];simp
  by_cases h2:k < zbJ f
  ·have hwk:=zae h2 (by omega)
   have hg1:=zf3 f h2
   have ho1:=zcn f k (Nat.le_refl 64)
   have hr1:=zlC f p k
   have hr2:=zlC f p (k + 1)
   have hw1:IntKind.i64.wrap (((zaB f k 64).length:Int) - (rkF f p k:Int)) = ((zaB f k 64).length:Int) - (rkF f p k:Int):=zan (by omega) (by omega)
   have hw2:IntKind.i64.wrap (((zaB f k 64).length:Int) - (rkF f p k:Int) - (rkF f p (k + 1):Int)) = ((zaB f k 64).length:Int) - (rkF f p k:Int) - (rkF f p (k + 1):Int):=zan (by omega) (by omega)
   have hk1:=hrk k (by omega)
   have hk2:=hrk (k + 1) (by omega)
   have hset:(prt (zev f p) (List.replicate (zbJ f) 0) k).set k (((zaB f k 64).length:Int) - rkF f p k - rkF f p (k + 1)) = prt (zev f p) (List.replicate (zbJ f) 0) (k + 1):=by
    rw [← zgi f p h2,zfQ hnl (by simpa using h2)]
   simp (maxSteps:=5000000) -dsimp only [↓gp,gq,reduceCtorEq,reduceEqDiff,reduceLT,reduceLeDiff,reduceAdd,reduceMul,reduceSub,Nat.reduceBEq,Int.reduceToNat,Int.reduceLE,Int.reduceLT,Int.reduceNeg,reduceMod,zac,zad,zab,zaa,gT,TK.isInt,TK.agg,Array.toList,h5b,r11b,h6b,r15b,h8b,r39b,h41b,h42b,hsl,hrl,hpl,hwk,hg1,zao,hk1,hk2,hw1,hw2,hset]
   refine ⟨fun _=>⟨by kernel_rfl,h2,h2,by omega,by omega,by omega,by omega,h2,by omega,by kernel_rfl,?_⟩,fun h3=>absurd h2 h3⟩
   exact zah ((k + 1,v,w,u)) (by refine ⟨?_,?_,?_,?_,?_,?_,?_,?_,by dsimp only;omega⟩ <;> (first | (simp (maxSteps:=5000000) -dsimp only [gr,reduceEqDiff,reduceLT,reduceAdd,reduceMod,Nat.reduceBEq,zaa,zac,zad,zab,h5b,r11b,h6b,r15b,h8b,r39b,h41b,h42b,hwk,hg1,hk1,hk2,hw1,hw2,hset];first | done | rfl | (simp;done)) | assumption | rfl)) (by first | omega | (simp only;omega) | (dsimp only;omega) | (show _ < _;simp;omega))
  ·simp (maxSteps:=5000000) -dsimp only [↓gp,gq,reduceCtorEq,reduceEqDiff,reduceLT,reduceLeDiff,reduceAdd,reduceMul,reduceSub,Nat.reduceBEq,Int.reduceToNat,Int.reduceLE,Int.reduceLT,Int.reduceNeg,reduceMod,zac,zad,zab,zaa,gT,TK.isInt,TK.agg,Array.toList,h5b,r11b,h6b,r15b,h8b,r39b,h41b,h42b,hsl,hrl,hpl]
   refine ⟨fun h3=>absurd h3 h2,fun _=>?_⟩
   have e:k = (List.replicate (zbJ f) (0:Int)).length:=by simp;omega
   have:=zfP hnl
   rw [← e] at this
   rw [this]
noncomputable def zjc (n:Int) (xs:List Int):Bool:=zez n xs && !(xs.length == 0)
theorem zcv {n:Int} {xs:List Int}:zjc n xs = true ↔ zez n xs = true∧0 < xs.length:=by
 unfold zjc
 cases zez n xs <;> simp [Nat.pos_iff_ne_zero]
noncomputable def zHd (n:Int) (xs:List Int):Int:=if zjc n xs = true then (zas (xs.getD (xs.length - 1) 0).toNat:Int) - 1 else -2
theorem zqW (n:Int) (xs:List Int):decide (zHd n xs < -1) = !zjc n xs:=by
 unfold zHd
 cases zjc n xs <;> simp;omega
theorem zih (n:Int) (xs:List Int):AC Try.prog 65 [.ag [int n,zbx xs]] (.im (int (zHd n xs))):=by
 refine AC.go (rs:=[.tmp 2]) zbc zax Try.func65 rfl rfl rfl (by kernel_rfl) fun hl=>?_
 simp only [zaZ,zbm,and_true,zbV,zde,zcd,true_and] at hl
 simp (maxSteps:=5000000) -dsimp only [↓gp,gq,reduceCtorEq,reduceEqDiff,reduceLT,reduceLeDiff,reduceAdd,reduceMul,reduceSub,Nat.reduceBEq,Int.reduceToNat,Int.reduceLE,Int.reduceLT,Int.reduceNeg,reduceMod,zac,zad,zab,zaa,gT,TK.isInt,TK.agg,Array.toList]
 refine zag (zbl n xs) ?_
 have hw:0 < xs.length→IntKind.i64.wrap ((xs.length:Int) - 1) = ((xs.length - 1:Nat):Int):=fun h=>by rw [zan (by omega) (by omega)];omega
 by_cases hh:zjc n xs = true
 ·obtain ⟨h1,h2⟩:=zcv.1 hh
  have hs:=zqP (zhz h1) (k:=xs.length - 1) (by omega)
  have hc:=zcI (s:=xs.getD (xs.length - 1) 0) hs.1 (by omega)
  have hz:((xs.length:Int) == 0) = false:=by rw [beq_eq_false_iff_ne];omega
  have hp:=zdd (s:=(xs.getD (xs.length - 1) 0).toNat) (by omega)
  simp (maxSteps:=5000000) -dsimp only [↓gp,gq,reduceCtorEq,reduceEqDiff,reduceLT,reduceLeDiff,reduceAdd,reduceMul,reduceSub,Nat.reduceBEq,Int.reduceToNat,Int.reduceLE,Int.reduceLT,Int.reduceNeg,reduceMod,zac,zad,zab,zaa,gT,TK.isInt,TK.agg,Array.toList,h1,hz,hw h2,Int.toNat_natCast]
  refine ⟨by omega,by omega,zag hc ?_⟩
  have hw2:IntKind.i64.wrap ((zas (xs.getD (xs.length - 1) 0).toNat:Int) - 1) = (zas (xs.getD (xs.length - 1) 0).toNat:Int) - 1:=zan (by omega) (by omega)
  have hd:zHd n xs = (zas (xs.getD (xs.length - 1) 0).toNat:Int) - 1:=if_pos hh
  simp (maxSteps:=5000000) -dsimp only [↓gp,gq,reduceCtorEq,reduceEqDiff,reduceLT,reduceLeDiff,reduceAdd,reduceMul,reduceSub,Nat.reduceBEq,Int.reduceToNat,Int.reduceLE,Int.reduceLT,Int.reduceNeg,reduceMod,zac,zad,zab,zaa,gT,TK.isInt,TK.agg,Array.toList,hw2,hd]
 ·have hd:zHd n xs = -2:=if_neg hh
  rw [hd]
  simp (maxSteps:=5000000) -dsimp only [↓gp,gq,reduceCtorEq,reduceEqDiff,reduceLT,reduceLeDiff,reduceAdd,reduceMul,reduceSub,Nat.reduceBEq,Int.reduceToNat,Int.reduceLE,Int.reduceLT,Int.reduceNeg,reduceMod,zac,zad,zab,zaa,gT,TK.isInt,TK.agg,Array.toList]
  exact fun hc h0=>absurd (zcv.2 ⟨by simpa using hc,by simp at h0;exact List.length_pos_iff.2 h0⟩) hh
theorem zb2 (n:Int) (xs:List Int) (hx:okS xs):AC Try.prog 150 [int n,zbx xs] (.ag [.im (int n),.fr 3 1 (iL (ofN (zgj (inF xs) true)))]):=by
 refine AC.go (rs:=[.cell 4 27]) zbc zax Try.func150 rfl rfl rfl (by kernel_rfl) fun hl=>?_
 simp (maxSteps:=5000000) -dsimp only [↓gp,gq,reduceCtorEq,reduceEqDiff,reduceLT,reduceLeDiff,reduceAdd,reduceMul,reduceSub,Nat.reduceBEq,Int.reduceToNat,Int.reduceLE,Int.reduceLT,Int.reduceNeg,reduceMod,zac,zad,zab,zaa,gT,TK.isInt,TK.agg,Array.toList]
 refine zag (zes true xs hx) ?_
 simp (maxSteps:=5000000) -dsimp only [↓gp,gq,reduceCtorEq,reduceEqDiff,reduceLT,reduceLeDiff,reduceAdd,reduceMul,reduceSub,Nat.reduceBEq,Int.reduceToNat,Int.reduceLE,Int.reduceLT,Int.reduceNeg,reduceMod,zac,zad,zab,zaa,gT,TK.isInt,TK.agg,Array.toList]
theorem zk2 (n:Int) (xs:List Int) (w:Nat) (hw:w < 64) (hx:okS xs) (hlen:xs.length ≤ 1000):AC Try.prog 116 [.ag [int n,zbx xs],int w] (.ag [.im (int n),.fr 3 1 (iL (ofN (zgj (inF (xs.map fun x=>zdv .i64 x w)) true)))]):=by
 refine AC.go (rs:=[.cell 4 27]) zbc zax Try.func116 rfl rfl rfl (by kernel_rfl) fun hl=>?_
 simp only [zaZ,zbm,and_true,zbV,zde,zcd,true_and] at hl
 simp (maxSteps:=5000000) -dsimp only [↓gp,gq,reduceCtorEq,reduceEqDiff,reduceLT,reduceLeDiff,reduceAdd,reduceMul,reduceSub,Nat.reduceBEq,Int.reduceToNat,Int.reduceLE,Int.reduceLT,Int.reduceNeg,reduceMod,zac,zad,zab,zaa,gT,TK.isInt,TK.agg,Array.toList]
 have hmap:∀ k,k < xs.length→(xs.take (k + 1)).map (fun x=>zdv .i64 x w) = (xs.take k).map (fun x=>zdv .i64 x w) ++ [zdv .i64 (xs.getD k 0) w]:=fun k h=>by rw [zaF 0 h];simp
 refine zar (fun (za:Nat × Nat) s=>match za with | (k,v)=>s.sl 1 = int w∧s.sl 2 = .ref 2 1 0∧s.rw 2 = ⟨1,.box 27 [int n,zbx xs]⟩∧s.sl 4 = .ref 4 1 0∧s.rw 4 = ⟨1,.box 27 [int 0,.v (.slice none 0 0)]⟩∧s.sl 5 = .own 7 v∧s.rw 7 = ⟨v,.sli 3 1 false (iL ((xs.take k).map fun x=>zdv .i64 x w))⟩∧s.sl 6 = int k∧(k ≤ xs.length)) (fun (k,v)=>xs.length - k) ((0,1)) (by refine ⟨?_,?_,?_,?_,?_,?_,?_,?_,by simp⟩ <;> (first | (simp (maxSteps:=5000000) -dsimp only [gr,reduceEqDiff,reduceLT,reduceAdd,reduceMod,Nat.reduceBEq,zaa,zac,zad,zab];first | done | rfl | (simp;done)) | assumption | rfl)) ?_
 intro (k,v) sa ⟨h1a,h2a,r2a,h4a,r4a,h5a,r7a,h6a,hIa⟩
 simp (maxSteps:=5000000) -dsimp only [↓gp,gq,reduceCtorEq,reduceEqDiff,reduceLT,reduceLeDiff,reduceAdd,reduceMul,reduceSub,Nat.reduceBEq,Int.reduceToNat,Int.reduceLE,Int.reduceLT,Int.reduceNeg,reduceMod,zac,zad,zab,zaa,gT,TK.isInt,TK.agg,Array.toList,h1a,h2a,r2a,h4a,r4a,h5a,r7a,h6a]
 refine ⟨fun h=>⟨h,h,by rw [List.length_map,List.length_take];omega,zah ((k + 1,v + 1)) (by refine ⟨?_,?_,?_,?_,?_,?_,?_,?_,by omega⟩ <;> (first | (simp (maxSteps:=5000000) -dsimp only [gr,reduceEqDiff,reduceLT,reduceAdd,reduceMod,Nat.reduceBEq,zaa,zac,zad,zab,h1a,h2a,r2a,h4a,r4a,h5a,r7a,h6a,zae h (by omega),hmap k h];first | done | rfl | (simp;done)) | assumption | rfl)) (by first | omega | (simp only;omega) | (dsimp only;omega) | (show _ < _;simp;omega))⟩,fun h=>?_⟩
 have:k = xs.length:=by omega
 subst this
 have ht:xs.take xs.length = xs:=List.take_length
 rw [ht] at r7a
 refine zag (zb2 n _ ?_) ?_
 ·intro x hx'
  obtain ⟨y,hy,rfl⟩:=List.mem_map.1 hx'
  exact zwT (hx y (by rwa [ht] at hy)) (by omega)
 ·simp (maxSteps:=5000000) -dsimp only [↓gp,gq,reduceCtorEq,reduceEqDiff,reduceLT,reduceLeDiff,reduceAdd,reduceMul,reduceSub,Nat.reduceBEq,Int.reduceToNat,Int.reduceLE,Int.reduceLT,Int.reduceNeg,reduceMod,zac,zad,zab,zaa,gT,TK.isInt,TK.agg,Array.toList,h1a,h2a,r2a,h4a,r4a,h5a,r7a,h6a,ht]
def kcx (P:Int→List Int→Prop) (rv:RV):Prop:=∃ n xs,rv = .ag [.im (int n),.fr 3 1 (iL xs)]∧P n xs
def cxQ (n:Int) (xs:List Int):Prop:=0 ≤ n∧n ≤ 7∧xs.length ≤ 449
theorem zsb {n:Nat} (hn:n ≤ 6) (f:Nat→Bool) (g:Bool):kcx cxQ (.ag [.im (int n),.fr 3 1 (iL (ofN (zgj f g)))]) :=
 ⟨_,_,rfl,by omega,by omega,by rw [zao];exact Nat.le_succ_of_le (zsp f g)⟩
theorem zEe {a b:Int} (ha:0 ≤ a∧a < 64) (hb:0 ≤ b∧b < 64):0 ≤ zdv .i64 a b∧zdv .i64 a b < 64:=zwT ha hb
theorem znY {L:List Int} {x:Int} (h:okS L) (hx:0 ≤ x∧x < 64):okS (L ++ [x]):=fun y hy=>by
 rw [List.mem_append,List.mem_singleton] at hy
 exact hy.elim (h y) (fun e=>e ▸ hx)
theorem zCV {n:Nat} (hn:n ≤ 6) {x:Int} (h:zFz ((2 ^ n:Nat):Int) x):0 ≤ x∧x < 64:=by
 have h64:=zaN hn
 have hp:0 < 2 ^ n:=Nat.pow_pos (by omega)
 obtain ⟨m,rfl,hm⟩:=zf2 hp h
 omega
theorem zg8 (bs:List Int) (hbs:bs.length ≤ 9223372036854775806) (n:Nat) (hn1:1 ≤ n) (hn:n ≤ 6):zv8 Try.prog 188 TC bs ⟨0,.dead⟩ [int n] (kcx cxQ):=by
 intro i h
 refine AG.go (rs:=[.cell 4 27]) zbc zax Try.func188 rfl rfl rfl (by kernel_rfl) fun hl _ s hs hR=>?_
 have e0:s.rw 1000000 = ⟨1,.box TC [.sl false 1 (kL .u8 bs),int i,int h]⟩:=by rw [hR];rfl
 have e1:s.rw 1000500 = ⟨0,.dead⟩:=by rw [hR];rfl
 have elo:∀ k,k < 1000000→s.rw k = ⟨0,.dead⟩:=fun k hk=>by rw [hR];exact zkY hk
 simp (maxSteps:=5000000) -dsimp only [↓gp,gq,reduceCtorEq,reduceEqDiff,reduceLT,reduceLeDiff,reduceAdd,reduceMul,reduceSub,Nat.reduceBEq,Int.reduceToNat,Int.reduceLE,Int.reduceLT,Int.reduceNeg,reduceMod,zac,zad,zab,zaa,gT,TK.isInt,TK.agg,Array.toList,hs,e0,elo]
 refine zaG (zcW bs hbs [0,1,2,3,4,4,5,6] (by decide) (by decide)) (.some (j:=11) (by simp (maxSteps:=5000000) -dsimp only [gr,reduceEqDiff,reduceLT,reduceAdd,reduceMod,Nat.reduceBEq,zaa,zac,zad,zab,elo] <;> rfl) (zc2 _)) (by simp (maxSteps:=5000000) -dsimp only [gr,reduceEqDiff,reduceLT,reduceAdd,reduceMod,Nat.reduceBEq,zaa,zac,zad,zab,e0] <;> rfl) (.one (zbR (by simp (maxSteps:=5000000) -dsimp only [gr,reduceEqDiff,reduceLT,reduceAdd,reduceMod,Nat.reduceBEq,zaa,zac,zad,zab,e0] <;> rfl)) (.one (zkZ (by simp (maxSteps:=5000000) -dsimp only [gr,reduceEqDiff,reduceLT,reduceAdd,reduceMod,Nat.reduceBEq,zaa,zac,zad,zab,elo])) .nil)) rfl (fun j hj=>by cases hj;exact ⟨rfl,rfl⟩) fun rv i1 g1 ⟨cnt,hrv,hc⟩=>?_
 subst hrv
 simp (maxSteps:=5000000) -dsimp only [↓gp,gq,reduceCtorEq,reduceEqDiff,reduceLT,reduceLeDiff,reduceAdd,reduceMul,reduceSub,Nat.reduceBEq,Int.reduceToNat,Int.reduceLE,Int.reduceLT,Int.reduceNeg,reduceMod,zac,zad,zab,zaa,gT,TK.isInt,TK.agg,Array.toList,hs,e0,elo]
 have hcn:0 ≤ cnt∧cnt ≤ 6:=by
  have hc:cnt ∈ [0,1,2,3,4,4,5,6]:=hc
  simp at hc;omega
 have h64:=zaN hn
 have hsh:zuG .i64 1 (n:Int) = ((2 ^ n:Nat):Int):=zb1 (by omega)
 have hun:IntKind.u64.wrap (n:Int) = (n:Int):=zco (by omega)
 refine zar (fun (za:Nat × Nat × Nat × Int × List Int) s=>match za with | (k,v,j,g,L)=>s.sl 0 = .ref 1000000 1 0∧s.rw 1000000 = ⟨1,.box TC [.sl false 1 (kL .u8 bs),int j,int g]⟩∧s.rw 1000500 = ⟨0,.dead⟩∧s.sl 1 = int n∧s.sl 4 = .ref 4 1 0∧s.rw 4 = ⟨1,.box 27 [int 0,.v (.slice none 0 0)]⟩∧s.sl 5 = .own 9 v∧s.rw 9 = ⟨v,.sli 3 1 false (iL L)⟩∧s.sl 6 = int cnt∧s.sl 7 = int k∧(k ≤ 6∧L.length = k∧okS L)) (fun (k,v,j,g,L)=>6 - k) ((0,1,i1,g1,[])) (by refine ⟨?_,?_,?_,?_,?_,?_,?_,?_,?_,?_,⟨by decide,rfl,fun x hx=>absurd hx (by simp)⟩⟩ <;> (first | (simp (maxSteps:=5000000) -dsimp only [gr,reduceEqDiff,reduceLT,reduceAdd,reduceMod,Nat.reduceBEq,zaa,zac,zad,zab,hs,e0,e1,elo];first | done | rfl | (simp;done)) | assumption | rfl)) ?_
 intro (k,v,j,g,L) sa ⟨h0a,r1000000a,r1000500a,h1a,h4a,r4a,h5a,r9a,h6a,h7a,hIa⟩
 obtain ⟨hk,hL,hok⟩:=hIa
 simp (maxSteps:=5000000) -dsimp only [↓gp,gq,reduceCtorEq,reduceEqDiff,reduceLT,reduceLeDiff,reduceAdd,reduceMul,reduceSub,Nat.reduceBEq,Int.reduceToNat,Int.reduceLE,Int.reduceLT,Int.reduceNeg,reduceMod,zac,zad,zab,zaa,gT,TK.isInt,TK.agg,Array.toList,h0a,r1000000a,r1000500a,h1a,h4a,r4a,h5a,r9a,h6a,h7a,hsh,hun]
 refine ⟨fun hlt=>?_,fun hlt=>?_⟩
 ·refine zaG (zaY bs hbs ((2 ^ n:Nat):Int) (by omega)) .none (by simp (maxSteps:=5000000) -dsimp only [gr,reduceEqDiff,reduceLT,reduceAdd,reduceMod,Nat.reduceBEq,zaa,zac,zad,zab,h0a,r1000000a,r1000500a,h1a,h4a,r4a,h5a,r9a,h6a,h7a] <;> rfl) (GvL.one (zbR (by simp (maxSteps:=5000000) -dsimp only [gr,reduceEqDiff,reduceLT,reduceAdd,reduceMod,Nat.reduceBEq,zaa,zac,zad,zab,h0a,r1000000a,r1000500a,h1a,h4a,r4a,h5a,r9a,h6a,h7a] <;> rfl)) (by repeat (first | exact GvL.nil | refine GvL.one (GvA.v _) ?_ | refine GvL.one (GvA.sl _ _ _) ?_))) rfl (fun _ h=>by cases h) fun rv i2 g2 ⟨x,hrv,hx⟩=>?_
  subst hrv
  have hx6:=zCV hn hx
  simp (maxSteps:=5000000) -dsimp only [↓gp,gq,reduceCtorEq,reduceEqDiff,reduceLT,reduceLeDiff,reduceAdd,reduceMul,reduceSub,Nat.reduceBEq,Int.reduceToNat,Int.reduceLE,Int.reduceLT,Int.reduceNeg,reduceMod,zac,zad,zab,zaa,gT,TK.isInt,TK.agg,Array.toList,h0a,r1000000a,r1000500a,h1a,h4a,r4a,h5a,r9a,h6a,h7a,hsh,hun]
  refine zaG (zen bs hbs 2 (by decide)) .none (by simp (maxSteps:=5000000) -dsimp only [gr,reduceEqDiff,reduceLT,reduceAdd,reduceMod,Nat.reduceBEq,zaa,zac,zad,zab,h0a,r1000000a,r1000500a,h1a,h4a,r4a,h5a,r9a,h6a,h7a] <;> rfl) (GvL.one (zbR (by simp (maxSteps:=5000000) -dsimp only [gr,reduceEqDiff,reduceLT,reduceAdd,reduceMod,Nat.reduceBEq,zaa,zac,zad,zab,h0a,r1000000a,r1000500a,h1a,h4a,r4a,h5a,r9a,h6a,h7a] <;> rfl)) (by repeat (first | exact GvL.nil | refine GvL.one (GvA.v _) ?_ | refine GvL.one (GvA.sl _ _ _) ?_))) rfl (fun _ h=>by cases h) fun rv i3 g3 ⟨b,hrv⟩=>?_
  subst hrv
  simp (maxSteps:=5000000) -dsimp only [↓gp,gq,reduceCtorEq,reduceEqDiff,reduceLT,reduceLeDiff,reduceAdd,reduceMul,reduceSub,Nat.reduceBEq,Int.reduceToNat,Int.reduceLE,Int.reduceLT,Int.reduceNeg,reduceMod,zac,zad,zab,zaa,gT,TK.isInt,TK.agg,Array.toList,h0a,r1000000a,r1000500a,h1a,h4a,r4a,h5a,r9a,h6a,h7a,hsh,hun]
  refine ⟨fun hb=>?_,fun hb=>?_⟩
  ·refine zaG (zaY bs hbs ((2 ^ n:Nat):Int) (by omega)) .none (by simp (maxSteps:=5000000) -dsimp only [gr,reduceEqDiff,reduceLT,reduceAdd,reduceMod,Nat.reduceBEq,zaa,zac,zad,zab,h0a,r1000000a,r1000500a,h1a,h4a,r4a,h5a,r9a,h6a,h7a] <;> rfl) (GvL.one (zbR (by simp (maxSteps:=5000000) -dsimp only [gr,reduceEqDiff,reduceLT,reduceAdd,reduceMod,Nat.reduceBEq,zaa,zac,zad,zab,h0a,r1000000a,r1000500a,h1a,h4a,r4a,h5a,r9a,h6a,h7a] <;> rfl)) (by repeat (first | exact GvL.nil | refine GvL.one (GvA.v _) ?_ | refine GvL.one (GvA.sl _ _ _) ?_))) rfl (fun _ h=>by cases h) fun rv i4 g4 ⟨y,hrv,hy⟩=>?_
   subst hrv
   have hy6:=zCV hn hy
   simp (maxSteps:=5000000) -dsimp only [↓gp,gq,reduceCtorEq,reduceEqDiff,reduceLT,reduceLeDiff,reduceAdd,reduceMul,reduceSub,Nat.reduceBEq,Int.reduceToNat,Int.reduceLE,Int.reduceLT,Int.reduceNeg,reduceMod,zac,zad,zab,zaa,gT,TK.isInt,TK.agg,Array.toList,h0a,r1000000a,r1000500a,h1a,h4a,r4a,h5a,r9a,h6a,h7a,hsh,hun]
   refine ⟨by omega,?_⟩
   exact zah ((k + 1,v + 1,i4,g4,L ++ [zdv .i64 x y])) (by refine ⟨?_,?_,?_,?_,?_,?_,?_,?_,?_,?_,⟨by dsimp only;omega,by simp [hL],znY hok (zEe hx6 hy6)⟩⟩ <;> (first | (simp (maxSteps:=5000000) -dsimp only [gr,reduceEqDiff,reduceLT,reduceAdd,reduceMod,Nat.reduceBEq,zaa,zac,zad,zab,h0a,r1000000a,r1000500a,h1a,h4a,r4a,h5a,r9a,h6a,h7a,zae (show k < 6 by omega) (by omega)];first | done | rfl | (simp;done)) | assumption | rfl)) (by first | omega | (simp only;omega) | (dsimp only;omega) | (show _ < _;simp;omega))
  ·refine ⟨by omega,?_⟩
   exact zah ((k + 1,v + 1,i3,g3,L ++ [x])) (by refine ⟨?_,?_,?_,?_,?_,?_,?_,?_,?_,?_,⟨by dsimp only;omega,by simp [hL],znY hok hx6⟩⟩ <;> (first | (simp (maxSteps:=5000000) -dsimp only [gr,reduceEqDiff,reduceLT,reduceAdd,reduceMod,Nat.reduceBEq,zaa,zac,zad,zab,h0a,r1000000a,r1000500a,h1a,h4a,r4a,h5a,r9a,h6a,h7a,zae (show k < 6 by omega) (by omega)];first | done | rfl | (simp;done)) | assumption | rfl)) (by first | omega | (simp only;omega) | (dsimp only;omega) | (show _ < _;simp;omega))
 ·refine zag (zb2 n L hok) ?_
  simp (maxSteps:=5000000) -dsimp only [↓gp,gq,reduceCtorEq,reduceEqDiff,reduceLT,reduceLeDiff,reduceAdd,reduceMul,reduceSub,Nat.reduceBEq,Int.reduceToNat,Int.reduceLE,Int.reduceLT,Int.reduceNeg,reduceMod,zac,zad,zab,zaa,gT,TK.isInt,TK.agg,Array.toList,h0a,r1000000a,r1000500a,h1a,h4a,r4a,h5a,r9a,h6a,h7a]
  exact ⟨_,j,g,_,zsb hn _ _,.one (.ag (.cons (.im _) (.cons (.fr (by simp (maxSteps:=5000000) -dsimp only [gr,reduceEqDiff,reduceLT,reduceAdd,reduceMod,Nat.reduceBEq,zaa,zac,zad,zab,h0a,r1000000a,r1000500a,h1a,h4a,r4a,h5a,r9a,h6a,h7a] <;> rfl) (by decide)) .nil))),by simp,by simp (maxSteps:=5000000) -dsimp only [gr,reduceEqDiff,reduceLT,reduceAdd,reduceMod,Nat.reduceBEq,zaa,zac,zad,zab,h0a,r1000000a,r1000500a,h1a,h4a,r4a,h5a,r9a,h6a,h7a] <;> rfl,by simp (maxSteps:=5000000) -dsimp only [gr,reduceEqDiff,reduceLT,reduceAdd,reduceMod,Nat.reduceBEq,zaa,zac,zad,zab,h0a,r1000000a,r1000500a,h1a,h4a,r4a,h5a,r9a,h6a,h7a]⟩
def szQ (z m:Nat):List Nat:=(List.range m).filter fun s=>zas s == z
theorem zBy (z m:Nat):szQ z (m + 1) = if zas m = z then szQ z m ++ [m] else szQ z m:=by
 unfold szQ
 rw [List.range_succ,List.filter_append]
 by_cases h:zas m = z <;> simp [h]
theorem zEc (z m:Nat):(szQ z m).length ≤ m:=by
 unfold szQ
 exact Nat.le_trans (List.length_filter_le _ _) (by simp)
theorem zEd:∀ n,n < 7→∀ z,z < n + 1→0 < (szQ z (2 ^ n)).length:=by decide +kernel
theorem zHc (z m:Nat) (hm:m ≤ 64):okS (ofN (szQ z m)):=fun x hx=>by
 obtain ⟨s,hs,rfl⟩:=List.mem_map.1 hx
 have:=List.mem_range.1 (List.mem_filter.1 hs).1
 omega
theorem znX (bs:List Int) (hbs:bs.length ≤ 9223372036854775806) (n:Nat) (hn1:1 ≤ n) (hn:n ≤ 6):zv8 Try.prog 205 TC bs ⟨0,.dead⟩ [int n] (kcx cxQ):=by
 intro i h
 refine AG.go (rs:=[.cell 4 27]) zbc zax Try.func205 rfl rfl rfl (by kernel_rfl) fun hl _ s hs hR=>?_
 have e0:s.rw 1000000 = ⟨1,.box TC [.sl false 1 (kL .u8 bs),int i,int h]⟩:=by rw [hR];rfl
 have e1:s.rw 1000500 = ⟨0,.dead⟩:=by rw [hR];rfl
 have elo:∀ k,k < 1000000→s.rw k = ⟨0,.dead⟩:=fun k hk=>by rw [hR];exact zkY hk
 have h64:=zaN hn
 have hsh:zuG .i64 1 (n:Int) = ((2 ^ n:Nat):Int):=zb1 (by omega)
 have hun:IntKind.u64.wrap (n:Int) = (n:Int):=zco (by omega)
 simp (maxSteps:=5000000) -dsimp only [↓gp,gq,reduceCtorEq,reduceEqDiff,reduceLT,reduceLeDiff,reduceAdd,reduceMul,reduceSub,Nat.reduceBEq,Int.reduceToNat,Int.reduceLE,Int.reduceLT,Int.reduceNeg,reduceMod,zac,zad,zab,zaa,gT,TK.isInt,TK.agg,Array.toList,hs,e0,elo]
 refine zaG (zaY bs hbs n (by omega)) .none (by simp (maxSteps:=5000000) -dsimp only [gr,reduceEqDiff,reduceLT,reduceAdd,reduceMod,Nat.reduceBEq,zaa,zac,zad,zab,e0,elo] <;> rfl) (GvL.one (zbR (by simp (maxSteps:=5000000) -dsimp only [gr,reduceEqDiff,reduceLT,reduceAdd,reduceMod,Nat.reduceBEq,zaa,zac,zad,zab,e0,elo] <;> rfl)) (by repeat (first | exact GvL.nil | refine GvL.one (GvA.v _) ?_ | refine GvL.one (GvA.sl _ _ _) ?_))) rfl (fun _ h=>by cases h) fun rv i1 g1 ⟨x,hrv,hx⟩=>?_
 subst hrv
 obtain ⟨z0,rfl,hz0⟩:=zf2 hn1 hx
 have hw1:IntKind.i64.wrap (1 + (z0:Int)) = ((z0 + 1:Nat):Int):=by rw [zan (by omega) (by omega)];omega
 generalize hz:z0 + 1 = z at *
 simp (maxSteps:=5000000) -dsimp only [↓gp,gq,reduceCtorEq,reduceEqDiff,reduceLT,reduceLeDiff,reduceAdd,reduceMul,reduceSub,Nat.reduceBEq,Int.reduceToNat,Int.reduceLE,Int.reduceLT,Int.reduceNeg,reduceMod,zac,zad,zab,zaa,gT,TK.isInt,TK.agg,Array.toList,hs,e0,elo,hw1]
 refine zar (fun (za:Nat × Nat) s=>match za with | (m,v)=>s.sl 0 = .ref 1000000 1 0∧s.rw 1000000 = ⟨1,.box TC [.sl false 1 (kL .u8 bs),int i1,int g1]⟩∧s.rw 1000500 = ⟨0,.dead⟩∧s.sl 1 = int n∧s.sl 4 = .ref 4 1 0∧s.rw 4 = ⟨1,.box 27 [int 0,.v (.slice none 0 0)]⟩∧s.sl 5 = int z∧s.sl 6 = .own 15 v∧s.rw 15 = ⟨v,.sli 3 1 false (iL (ofN (szQ z m)))⟩∧s.rw 31 = ⟨0,.dead⟩∧s.sl 7 = int m∧(m ≤ 2 ^ n)) (fun (m,v)=>2 ^ n - m) ((0,1)) (by refine ⟨?_,?_,?_,?_,?_,?_,?_,?_,?_,?_,?_,Nat.zero_le _⟩ <;> (first | (simp (maxSteps:=5000000) -dsimp only [gr,reduceEqDiff,reduceLT,reduceAdd,reduceMod,Nat.reduceBEq,zaa,zac,zad,zab,hs,e0,e1,elo];first | done | rfl | (simp;done)) | assumption | rfl)) ?_
 intro (m,v) sa ⟨h0a,r1000000a,r1000500a,h1a,h4a,r4a,h5a,h6a,r15a,r31a,h7a,hIa⟩
 simp (maxSteps:=5000000) -dsimp only [↓gp,gq,reduceCtorEq,reduceEqDiff,reduceLT,reduceLeDiff,reduceAdd,reduceMul,reduceSub,Nat.reduceBEq,Int.reduceToNat,Int.reduceLE,Int.reduceLT,Int.reduceNeg,reduceMod,zac,zad,zab,zaa,gT,TK.isInt,TK.agg,Array.toList,h0a,r1000000a,r1000500a,h1a,h4a,r4a,h5a,h6a,r15a,r31a,h7a,hsh,hun]
 have hzl:=zEc z m
 refine ⟨fun hlt=>zag (zaK m (by omega)) ?_,fun hlt=>?_⟩
 ·simp (maxSteps:=5000000) -dsimp only [↓gp,gq,reduceCtorEq,reduceEqDiff,reduceLT,reduceLeDiff,reduceAdd,reduceMul,reduceSub,Nat.reduceBEq,Int.reduceToNat,Int.reduceLE,Int.reduceLT,Int.reduceNeg,reduceMod,zac,zad,zab,zaa,gT,TK.isInt,TK.agg,Array.toList,h0a,r1000000a,r1000500a,h1a,h4a,r4a,h5a,h6a,r15a,r31a,h7a,hsh,hun]
  have hsu:=zBy z m
  refine ⟨fun he=>?_,fun he=>?_⟩
  ·have he:zas m = z:=by
    have:((zas m:Nat):Int) = z:=by simpa using he
    omega
   rw [if_pos he] at hsu
   simp (maxSteps:=5000000) -dsimp only [↓gp,gq,reduceCtorEq,reduceEqDiff,reduceLT,reduceLeDiff,reduceAdd,reduceMul,reduceSub,Nat.reduceBEq,Int.reduceToNat,Int.reduceLE,Int.reduceLT,Int.reduceNeg,reduceMod,zac,zad,zab,zaa,gT,TK.isInt,TK.agg,Array.toList,h0a,r1000000a,r1000500a,h1a,h4a,r4a,h5a,h6a,r15a,r31a,h7a,hsh,hun,zao]
   refine ⟨by omega,?_⟩
   exact zah ((m + 1,v + 1)) (by refine ⟨?_,?_,?_,?_,?_,?_,?_,?_,?_,?_,?_,by dsimp only;omega⟩ <;> (first | (simp (maxSteps:=5000000) -dsimp only [gr,reduceEqDiff,reduceLT,reduceAdd,reduceMod,Nat.reduceBEq,zaa,zac,zad,zab,h0a,r1000000a,r1000500a,h1a,h4a,r4a,h5a,h6a,r15a,r31a,h7a,hsu,zbi,zd6,zae hlt (by omega)];first | done | rfl | (simp;done)) | assumption | rfl)) (by first | omega | (simp only;omega) | (dsimp only;omega) | (show _ < _;simp;omega))
  ·have he:¬ zas m = z:=fun e=>by rw [e] at he;simp at he
   rw [if_neg he] at hsu
   exact zah ((m + 1,v)) (by refine ⟨?_,?_,?_,?_,?_,?_,?_,?_,?_,?_,?_,by dsimp only;omega⟩ <;> (first | (simp (maxSteps:=5000000) -dsimp only [gr,reduceEqDiff,reduceLT,reduceAdd,reduceMod,Nat.reduceBEq,zaa,zac,zad,zab,h0a,r1000000a,r1000500a,h1a,h4a,r4a,h5a,h6a,r15a,r31a,h7a,hsu,zae hlt (by omega)];first | done | rfl | (simp;done)) | assumption | rfl)) (by first | omega | (simp only;omega) | (dsimp only;omega) | (show _ < _;simp;omega))
 ·have hm:m = 2 ^ n:=by omega
  subst hm
  have hpos:=zEd n (by omega) z (by omega)
  have hAok:=zHc z (2 ^ n) h64
  generalize hA:szQ z (2 ^ n) = A at *
  have hAl:(ofN A).length = A.length:=zao A
  refine zaG (zaY bs hbs 7 (by decide)) .none (by simp (maxSteps:=5000000) -dsimp only [gr,reduceEqDiff,reduceLT,reduceAdd,reduceMod,Nat.reduceBEq,zaa,zac,zad,zab,h0a,r1000000a,r1000500a,h1a,h4a,r4a,h5a,h6a,r15a,r31a,h7a] <;> rfl) (GvL.one (zbR (by simp (maxSteps:=5000000) -dsimp only [gr,reduceEqDiff,reduceLT,reduceAdd,reduceMod,Nat.reduceBEq,zaa,zac,zad,zab,h0a,r1000000a,r1000500a,h1a,h4a,r4a,h5a,h6a,r15a,r31a,h7a] <;> rfl)) (by repeat (first | exact GvL.nil | refine GvL.one (GvA.v _) ?_ | refine GvL.one (GvA.sl _ _ _) ?_))) rfl (fun _ h=>by cases h) fun rv i2 g2 ⟨x,hrv,hx⟩=>?_
  subst hrv
  have hx7:0 ≤ x∧x < 7:=by obtain ⟨a,b⟩:=hx;omega
  have hw2:IntKind.i64.wrap (1 + x) = 1 + x:=zan (by omega) (by omega)
  simp (maxSteps:=5000000) -dsimp only [↓gp,gq,reduceCtorEq,reduceEqDiff,reduceLT,reduceLeDiff,reduceAdd,reduceMul,reduceSub,Nat.reduceBEq,Int.reduceToNat,Int.reduceLE,Int.reduceLT,Int.reduceNeg,reduceMod,zac,zad,zab,zaa,gT,TK.isInt,TK.agg,Array.toList,h0a,r1000000a,r1000500a,h1a,h4a,r4a,h5a,h6a,r15a,r31a,h7a,hw2]
  refine zar (fun (zb:Nat × Nat × Nat × Int × List Int) s=>match zb with | (k,u,j,g,L)=>s.sl 0 = .ref 1000000 1 0∧s.rw 1000000 = ⟨1,.box TC [.sl false 1 (kL .u8 bs),int j,int g]⟩∧s.rw 1000500 = ⟨0,.dead⟩∧s.sl 1 = int n∧s.sl 4 = .ref 4 1 0∧s.rw 4 = ⟨1,.box 27 [int 0,.v (.slice none 0 0)]⟩∧s.sl 6 = .own 15 v∧s.rw 15 = ⟨v,.sli 3 1 false (iL (ofN A))⟩∧s.sl 8 = .own 31 u∧s.rw 31 = ⟨u,.sli 3 1 false (iL L)⟩∧s.sl 9 = int (1 + x)∧s.sl 10 = int k∧(k ≤ 7∧L.length = k∧okS L)) (fun (k,u,j,g,L)=>7 - k) ((0,1,i2,g2,[])) (by refine ⟨?_,?_,?_,?_,?_,?_,?_,?_,?_,?_,?_,?_,⟨by decide,rfl,fun x hx=>absurd hx (by simp)⟩⟩ <;> (first | (simp (maxSteps:=5000000) -dsimp only [gr,reduceEqDiff,reduceLT,reduceAdd,reduceMod,Nat.reduceBEq,zaa,zac,zad,zab,h0a,r1000000a,r1000500a,h1a,h4a,r4a,h5a,h6a,r15a,r31a,h7a];first | done | rfl | (simp;done)) | assumption | rfl)) ?_
  intro (k,u,j,g,L) sb ⟨h0b,r1000000b,r1000500b,h1b,h4b,r4b,h6b,r15b,h8b,r31b,h9b,h10b,hIb⟩
  obtain ⟨hk,hL,hok⟩:=hIb
  simp (maxSteps:=5000000) -dsimp only [↓gp,gq,reduceCtorEq,reduceEqDiff,reduceLT,reduceLeDiff,reduceAdd,reduceMul,reduceSub,Nat.reduceBEq,Int.reduceToNat,Int.reduceLE,Int.reduceLT,Int.reduceNeg,reduceMod,zac,zad,zab,zaa,gT,TK.isInt,TK.agg,Array.toList,h0b,r1000000b,r1000500b,h1b,h4b,r4b,h6b,r15b,h8b,r31b,h9b,h10b,hAl]
  refine ⟨fun hlt2=>?_,fun hlt2=>?_⟩
  ·refine zaG (zaY bs hbs (A.length:Int) (by omega)) .none (by simp (maxSteps:=5000000) -dsimp only [gr,reduceEqDiff,reduceLT,reduceAdd,reduceMod,Nat.reduceBEq,zaa,zac,zad,zab,h0b,r1000000b,r1000500b,h1b,h4b,r4b,h6b,r15b,h8b,r31b,h9b,h10b] <;> rfl) (GvL.one (zbR (by simp (maxSteps:=5000000) -dsimp only [gr,reduceEqDiff,reduceLT,reduceAdd,reduceMod,Nat.reduceBEq,zaa,zac,zad,zab,h0b,r1000000b,r1000500b,h1b,h4b,r4b,h6b,r15b,h8b,r31b,h9b,h10b] <;> rfl)) (by repeat (first | exact GvL.nil | refine GvL.one (GvA.v _) ?_ | refine GvL.one (GvA.sl _ _ _) ?_))) rfl (fun _ h=>by cases h) fun rv i3 g3 ⟨y,hrv,hy⟩=>?_
   subst hrv
   obtain ⟨t,rfl,ht⟩:=zf2 hpos hy
   have hgt:=hAok _ (za0 0 (show t < (ofN A).length by omega))
   simp (maxSteps:=5000000) -dsimp only [↓gp,gq,reduceCtorEq,reduceEqDiff,reduceLT,reduceLeDiff,reduceAdd,reduceMul,reduceSub,Nat.reduceBEq,Int.reduceToNat,Int.reduceLE,Int.reduceLT,Int.reduceNeg,reduceMod,zac,zad,zab,zaa,gT,TK.isInt,TK.agg,Array.toList,h0b,r1000000b,r1000500b,h1b,h4b,r4b,h6b,r15b,h8b,r31b,h9b,h10b,hAl]
   refine ⟨by omega,by omega,by omega,?_⟩
   exact zah ((k + 1,u + 1,i3,g3,L ++ [(ofN A).getD t 0])) (by refine ⟨?_,?_,?_,?_,?_,?_,?_,?_,?_,?_,?_,?_,⟨by dsimp only;omega,by simp [hL],znY hok hgt⟩⟩ <;> (first | (simp (maxSteps:=5000000) -dsimp only [gr,reduceEqDiff,reduceLT,reduceAdd,reduceMod,Nat.reduceBEq,zaa,zac,zad,zab,h0b,r1000000b,r1000500b,h1b,h4b,r4b,h6b,r15b,h8b,r31b,h9b,h10b,zae (show k < 7 by omega) (by omega)];first | done | rfl | (simp;done)) | assumption | rfl)) (by first | omega | (simp only;omega) | (dsimp only;omega) | (show _ < _;simp;omega))
  ·refine zag (zb2 n L hok) ?_
   simp (maxSteps:=5000000) -dsimp only [↓gp,gq,reduceCtorEq,reduceEqDiff,reduceLT,reduceLeDiff,reduceAdd,reduceMul,reduceSub,Nat.reduceBEq,Int.reduceToNat,Int.reduceLE,Int.reduceLT,Int.reduceNeg,reduceMod,zac,zad,zab,zaa,gT,TK.isInt,TK.agg,Array.toList,h0b,r1000000b,r1000500b,h1b,h4b,r4b,h6b,r15b,h8b,r31b,h9b,h10b]
   exact ⟨_,j,g,_,zsb hn _ _,.one (.ag (.cons (.im _) (.cons (.fr (by simp (maxSteps:=5000000) -dsimp only [gr,reduceEqDiff,reduceLT,reduceAdd,reduceMod,Nat.reduceBEq,zaa,zac,zad,zab,h0b,r1000000b,r1000500b,h1b,h4b,r4b,h6b,r15b,h8b,r31b,h9b,h10b] <;> rfl) (by decide)) .nil))),by simp,by simp (maxSteps:=5000000) -dsimp only [gr,reduceEqDiff,reduceLT,reduceAdd,reduceMod,Nat.reduceBEq,zaa,zac,zad,zab,h0b,r1000000b,r1000500b,h1b,h4b,r4b,h6b,r15b,h8b,r31b,h9b,h10b] <;> rfl,by simp (maxSteps:=5000000) -dsimp only [gr,reduceEqDiff,reduceLT,reduceAdd,reduceMod,Nat.reduceBEq,zaa,zac,zad,zab,h0b,r1000000b,r1000500b,h1b,h4b,r4b,h6b,r15b,h8b,r31b,h9b,h10b]⟩
theorem ziB (n:Int) (xs:List Int):AC Try.prog 106 [.ag [int n,zbx xs]] (.im (bool (zez n xs))):=by
 refine AC.go (rs:=[.tmp 2]) zbc zax Try.func106 rfl rfl rfl (by kernel_rfl) fun hl=>?_
 simp (maxSteps:=5000000) -dsimp only [↓gp,gq,reduceCtorEq,reduceEqDiff,reduceLT,reduceLeDiff,reduceAdd,reduceMul,reduceSub,Nat.reduceBEq,Int.reduceToNat,Int.reduceLE,Int.reduceLT,Int.reduceNeg,reduceMod,zac,zad,zab,zaa,gT,TK.isInt,TK.agg,Array.toList]
 refine zag (zgY n xs) ?_
 simp (maxSteps:=5000000) -dsimp only [↓gp,gq,reduceCtorEq,reduceEqDiff,reduceLT,reduceLeDiff,reduceAdd,reduceMul,reduceSub,Nat.reduceBEq,Int.reduceToNat,Int.reduceLE,Int.reduceLT,Int.reduceNeg,reduceMod,zac,zad,zab,zaa,gT,TK.isInt,TK.agg,Array.toList]
theorem zeu (t:ByteArray) (b:Nat) (ht:t.size ≤ 1000):AC Try.prog 169 [str t,.v (.int .u8 b)] (.fr 9 1 (sL (zhL t b))):=by
 refine AC.go (rs:=[.tmp 4]) zbc zax Try.func169 rfl rfl rfl (by kernel_rfl) fun hl=>?_
 simp (maxSteps:=5000000) -dsimp only [↓gp,gq,reduceCtorEq,reduceEqDiff,reduceLT,reduceLeDiff,reduceAdd,reduceMul,reduceSub,Nat.reduceBEq,Int.reduceToNat,Int.reduceLE,Int.reduceLT,Int.reduceNeg,reduceMod,zac,zad,zab,zaa,gT,TK.isInt,TK.agg,Array.toList]
 refine zar (fun (za:Nat × Nat × List ByteArray × Nat) s=>match za with | (i,v,out,st)=>s.sl 0 = str t∧s.sl 1 = .v (.int .u8 b)∧s.sl 5 = .own 8 v∧s.rw 8 = ⟨v,.sli 9 1 false (sL out)⟩∧s.sl 6 = int st∧s.sl 7 = int i∧(i ≤ t.size + 1∧(i ≤ t.size→out = (zk7 t b i).1∧st = (zk7 t b i).2)∧(t.size < i→out = zhL t b))) (fun (i,v,out,st)=>t.size + 1 - i) ((0,1,[],0)) (by refine ⟨?_,?_,?_,?_,?_,?_,⟨by simp,by simp [zk7],by simp⟩⟩ <;> (first | (simp (maxSteps:=5000000) -dsimp only [gr,reduceEqDiff,reduceLT,reduceAdd,reduceMod,Nat.reduceBEq,zaa,zac,zad,zab];first | done | rfl | (simp;done)) | assumption | rfl)) ?_
 intro (i,v,out,st) sa ⟨h0a,h1a,h5a,r8a,h6a,h7a,hIa⟩
 obtain ⟨hi,h1,h2⟩:=hIa
 have hle:=zDc t b i
 simp (maxSteps:=5000000) -dsimp only [↓gp,gq,reduceCtorEq,reduceEqDiff,reduceLT,reduceLeDiff,reduceAdd,reduceMul,reduceSub,Nat.reduceBEq,Int.reduceToNat,Int.reduceLE,Int.reduceLT,Int.reduceNeg,reduceMod,zac,zad,zab,zaa,gT,TK.isInt,TK.agg,Array.toList,h0a,h1a,h5a,r8a,h6a,h7a,zb6]
 refine ⟨fun h=>?_,fun h=>by rw [h2 (by omega)]⟩
 obtain ⟨rfl,rfl⟩:=h1 h
 refine ⟨fun hne=>?_,fun he=>?_⟩
 ·have hne:=beq_eq_false_iff_ne.1 hne
  have hlt:i < t.size:=by omega
  refine ⟨hlt,fun he=>⟨hle.1,by omega,by omega,?_⟩,fun he=>?_⟩
  ·have he:byt t i = b:=by have:=beq_iff_eq.1 he;unfold byt;omega
   exact zah ((i + 1,v + 1,(zk7 t b (i + 1)).1,(zk7 t b (i + 1)).2)) (by refine ⟨?_,?_,?_,?_,?_,?_,⟨by omega,fun _=>⟨by rw [ziI he],by rw [ziI he]⟩,by omega⟩⟩ <;> (first | (simp (maxSteps:=5000000) -dsimp only [gr,reduceEqDiff,reduceLT,reduceAdd,reduceMod,Nat.reduceBEq,zaa,zac,zad,zab,h0a,h1a,h5a,r8a,h6a,h7a,zae hlt (by omega),ziI he,zna];first | done | rfl | (simp;done)) | assumption | rfl)) (by first | omega | (simp only;omega) | (dsimp only;omega) | (show _ < _;simp;omega))
  ·have he:¬ byt t i = b:=by have:=beq_eq_false_iff_ne.1 he;unfold byt;omega
   exact zah ((i + 1,v,(zk7 t b i).1,(zk7 t b i).2)) (by refine ⟨?_,?_,?_,?_,?_,?_,⟨by omega,fun _=>⟨by rw [zro he],by rw [zro he]⟩,by omega⟩⟩ <;> (first | (simp (maxSteps:=5000000) -dsimp only [gr,reduceEqDiff,reduceLT,reduceAdd,reduceMod,Nat.reduceBEq,zaa,zac,zad,zab,h0a,h1a,h5a,r8a,h6a,h7a,zae hlt (by omega)];first | done | rfl | (simp;done)) | assumption | rfl)) (by first | omega | (simp only;omega) | (dsimp only;omega) | (show _ < _;simp;omega))
 ·have he:=beq_iff_eq.1 he
  obtain rfl:i = t.size:=by omega
  refine ⟨hle.1,by omega,by omega,?_⟩
  have hw:IntKind.i64.wrap ((t.size:Int) + 1) = ((t.size + 1:Nat):Int):=zae (n:=t.size + 1) (by omega) (by omega)
  exact zah ((t.size + 1,v + 1,zhL t b,t.size + 1)) (by refine ⟨?_,?_,?_,?_,?_,?_,⟨by omega,by omega,fun _=>rfl⟩⟩ <;> (first | (simp (maxSteps:=5000000) -dsimp only [gr,reduceEqDiff,reduceLT,reduceAdd,reduceMod,Nat.reduceBEq,zaa,zac,zad,zab,h0a,h1a,h5a,r8a,h6a,h7a,hw,zna,zhL];first | done | rfl | (simp;done)) | assumption | rfl)) (by first | omega | (simp only;omega) | (dsimp only;omega) | (show _ < _;simp;omega))
theorem ze7 (t:ByteArray) (h:OkSet t):AC Try.prog 171 [str t] (.tup [.im (int (zn5 t t.size:Nat)),.im (bool true)]):=by
 refine AC.go (rs:=[.tmp 2,.tmp 3]) zbc zax Try.func171 rfl rfl rfl (by kernel_rfl) fun hl=>?_
 simp (maxSteps:=5000000) -dsimp only [↓gp,gq,reduceCtorEq,reduceEqDiff,reduceLT,reduceLeDiff,reduceAdd,reduceMul,reduceSub,Nat.reduceBEq,Int.reduceToNat,Int.reduceLE,Int.reduceLT,Int.reduceNeg,reduceMod,zac,zad,zab,zaa,gT,TK.isInt,TK.agg,Array.toList]
 refine zar (fun (i:Nat) s=>s.sl 0 = str t∧s.sl 4 = int (zn5 t i:Nat)∧s.sl 5 = int i∧(i ≤ t.size)) (fun i=>t.size - i) (0) (by refine ⟨?_,?_,?_,by simp⟩ <;> (first | (simp (maxSteps:=5000000) -dsimp only [gr,reduceEqDiff,reduceLT,reduceAdd,reduceMod,Nat.reduceBEq,zaa,zac,zad,zab,zjq];first | done | rfl | (simp;done)) | assumption | rfl)) ?_
 intro i sa ⟨h0a,h4a,h5a,hIa⟩
 rcases Nat.lt_or_ge i t.size with hi | hi
 ·have hlt:((i:Int) < (t.size:Int)) = True:=eq_true (by omega)
  have hb:byt t i = (t.data.toList.getD i 0).toNat:=rfl
  have hl1:=h.letter i hi
  have hhi:=h.hi
  have hv:=zDe h i (by omega)
  have hvl:=zwQ h i hi
  have hw1:IntKind.i64.wrap (IntKind.i64.wrap (((t.data.toList.getD i 0).toNat:Nat):Int) - 97) = ((byt t i - 97:Nat):Int):=by
   have e1:IntKind.i64.wrap ((byt t i:Nat):Int) = ((byt t i:Nat):Int):=zan (by omega) (by omega)
   rw [← hb,e1,zan (by omega) (by omega)];omega
  simp (maxSteps:=5000000) -dsimp only [↓gp,gq,reduceCtorEq,reduceEqDiff,reduceLT,reduceLeDiff,reduceAdd,reduceMul,reduceSub,Nat.reduceBEq,Int.reduceToNat,Int.reduceLE,Int.reduceLT,Int.reduceNeg,reduceMod,zac,zad,zab,zaa,gT,TK.isInt,TK.agg,Array.toList,h0a,h4a,h5a,h.dash,h.empty,hlt,hw1]
  refine ⟨hi,zag (zbo _ _ _) ?_⟩
  have hd:(decide ((0:Int) ≤ ((byt t i - 97:Nat):Int)) && decide (((byt t i - 97:Nat):Int) ≤ 5)) = true:=by simp;omega
  have hw64:IntKind.u64.wrap ((byt t i - 97:Nat):Int) = ((byt t i - 97:Nat):Int):=zco (by omega)
  have hsh:zrP .i64 ((zn5 t i:Nat):Int) ((byt t i - 97:Nat):Int) = 0:=by
   rw [zFF (by omega),Nat.shiftRight_eq_div_pow,Nat.div_eq_of_lt hvl];rfl
  have h2k:2 ^ (byt t i - 97) < 64:=by have:2 ^ (byt t i - 97) < 2 ^ 6:=Nat.pow_lt_pow_right (by omega) (by omega);omega
  have hadd:IntKind.i64.wrap (((zn5 t i:Nat):Int) + zuG .i64 1 ((byt t i - 97:Nat):Int)) = ((zn5 t (i + 1):Nat):Int):=by
   rw [zb1 (by omega),zan (by omega) (by omega),← zAH h hi];rfl
  simp (maxSteps:=5000000) -dsimp only [↓gp,gq,reduceCtorEq,reduceEqDiff,reduceLT,reduceLeDiff,reduceAdd,reduceMul,reduceSub,Nat.reduceBEq,Int.reduceToNat,Int.reduceLE,Int.reduceLT,Int.reduceNeg,reduceMod,zac,zad,zab,zaa,gT,TK.isInt,TK.agg,Array.toList,h0a,h4a,h5a,hlt,hw1,hd,hw64,hsh,hadd]
  have hd2:(!(decide True && decide (((byt t i - 97:Nat):Int) ≤ 5))) = false:=by simp;omega
  refine ⟨fun _=>⟨fun hc=>(by simp at hc),fun _=>zah (i + 1) (by refine ⟨?_,?_,?_,by omega⟩ <;> (first | (simp (maxSteps:=5000000) -dsimp only [gr,reduceEqDiff,reduceLT,reduceAdd,reduceMod,Nat.reduceBEq,zaa,zac,zad,zab,h0a,h4a,h5a,hw1,hw64,hadd,zae hi (by omega)];first | done | rfl | (simp;done)) | assumption | rfl)) (by first | omega | (simp only;omega) | (dsimp only;omega) | (show _ < _;simp;omega))⟩,fun hc=>by rw [hd2] at hc;cases hc⟩
 ·obtain rfl:i = t.size:=by omega
  have hlt:((t.size:Int) < (t.size:Int)) = False:=eq_false (by omega)
  simp (maxSteps:=5000000) -dsimp only [↓gp,gq,reduceCtorEq,reduceEqDiff,reduceLT,reduceLeDiff,reduceAdd,reduceMul,reduceSub,Nat.reduceBEq,Int.reduceToNat,Int.reduceLE,Int.reduceLT,Int.reduceNeg,reduceMod,zac,zad,zab,zaa,gT,TK.isInt,TK.agg,Array.toList,h0a,h4a,h5a,h.dash,h.empty,hlt]
def zsc (ps:List ByteArray):List Int:=ps.map fun p=>((zn5 p p.size:Nat):Int)
theorem zq0 {ps:List ByteArray} {k:Nat} (h:k < ps.length):zsc (ps.take (k + 1)) = zsc (ps.take k) ++ [((zn5 (ps.getD k ⟨#[]⟩) (ps.getD k ⟨#[]⟩).size:Nat):Int)]:=by
 unfold zsc
 rw [zaF ⟨#[]⟩ h,List.map_append];rfl
def chr (n:Nat):ByteArray:=⟨#[UInt8.ofNat (48 + n)]⟩
structure OkText (t:ByteArray) (n:Nat) (rest:ByteArray) (ps:List ByteArray):Prop where
 size:2 ≤ t.size∧t.size ≤ 1000
 pts:1 ≤ n∧n ≤ 6
 b0:byt t 0 = 48 + n
 b1:byt t 1 = 58
 tail:t.extract 2 t.size = rest
 rsize:rest.size ≤ 1000
 full:(rest.toList == (⟨#[]⟩:ByteArray).toList) = false
 parts:zhL rest 44 = ps
 plen:ps.length ≤ 1000
 pne:0 < ps.length
 sets:∀ p ∈ ps,OkSet p
 head:zhL t 58 = [chr n,rest]
 cx:cxP n (zsc ps)
def zBB (r:Row) (ver:Nat) (Kp:PV→Prop):Prop:=r.ver = ver∧match r.kind with
 | .nil=>∃ bs:List Int,[] = bs.map (fun n=>PV.v (.int .u8 n))∧Kp (.v (.string (bs.foldl (fun r n=>r.push (UInt8.ofNat n.toNat)) ByteArray.empty)))
 | .sli _ sz _ c=>sz = 1∧∃ bs:List Int,c = bs.map (fun n=>PV.v (.int .u8 n))∧Kp (.v (.string (bs.foldl (fun r n=>r.push (UInt8.ofNat n.toNat)) ByteArray.empty)))
 | _=>False
theorem zBC (rw:Nat→Row) (j ver:Nat) {Kp:PV→Prop}:zfw T rw 31 9 (.own j ver) Kp = zBB (rw j) ver Kp:=by
 have ha:(T 31).k = .sli 5:=zHK
 have hb:(T 9).k = .str:=T9k
 have he:(T 5).k = .int .u8:=T5k
 have s1:(T 31).size = 1:=zHL
 have s2:(T 9).size = 1:=T9s
 have s3:(T 5).size = 1:=T5s
 unfold zfw zBB
 simp only [ha,hb,he,s1,s2,s3,slK]
 cases h:(rw j).kind <;> simp
theorem zz6 (ver e:Nat) (fz:Bool) (n:Int) {Kp:PV→Prop}:zBB ⟨ver,.sli e 1 fz [.v (.int .u8 n)]⟩ ver Kp = Kp (.v (.string ([n].foldl (fun r n=>r.push (UInt8.ofNat n.toNat)) ByteArray.empty))):=by
 unfold zBB
 simp only [true_and]
 refine propext ⟨fun ⟨bs,hb,h⟩=>?_,fun h=>⟨[n],rfl,h⟩⟩
 match bs,hb with
 | [m],hb=>simp at hb;subst hb;exact h
theorem zHf (n:Int):lit [.v (.int .u8 n)] = [.v (.int .u8 n)]:=rfl
theorem zjd (n:Nat):(chr n).size = 1:=rfl
theorem zHg {n:Nat} (h:n ≤ 9):((chr n).data.toList.getD 0 0).toNat = 48 + n:=by
 show (UInt8.ofNat (48 + n)).toNat = 48 + n
 simp
 omega
theorem zHh {n:Nat} (h:n ≤ 9):([(48 + n:Int)].foldl (fun r n=>r.push (UInt8.ofNat n.toNat)) ByteArray.empty) ++ ⟨#[]⟩ = chr n:=by
 have:∀ m:Fin 10,([(48 + (m.val:Nat):Int)].foldl (fun r n=>r.push (UInt8.ofNat n.toNat)) ByteArray.empty) ++ ⟨#[]⟩ = chr m.val:=by decide +kernel
 exact this ⟨n,by omega⟩
theorem ziC {n:Nat} (h1:1 ≤ n) (h9:n ≤ 9):AC Try.prog 211 [int n] (.im (str (chr n))):=by
 refine AC.go (rs:=[.tmp 2]) zbc zax Try.func211 rfl rfl rfl (by kernel_rfl) fun hl=>?_
 have e0:((n:Int) == 0) = false:=beq_eq_false_iff_ne.2 (by omega)
 simp (maxSteps:=5000000) -dsimp only [↓gp,gq,reduceCtorEq,reduceEqDiff,reduceLT,reduceLeDiff,reduceAdd,reduceMul,reduceSub,Nat.reduceBEq,Int.reduceToNat,Int.reduceLE,Int.reduceLT,Int.reduceNeg,reduceMod,zac,zad,zab,zaa,gT,TK.isInt,TK.agg,Array.toList,e0]
 refine zar (fun (za:Nat × ByteArray) s=>match za with | (m,o)=>s.sl 0 = int m∧s.sl 3 = bool false∧s.sl 4 = str o∧((m = n∧o = ⟨#[]⟩) ∨ (m = 0∧o = chr n))) (fun (m,o)=>m) ((n,⟨#[]⟩)) (by refine ⟨?_,?_,?_,Or.inl ⟨rfl,rfl⟩⟩ <;> (first | (simp (maxSteps:=5000000) -dsimp only [gr,reduceEqDiff,reduceLT,reduceAdd,reduceMod,Nat.reduceBEq,zaa,zac,zad,zab,decide_eq_false (show ¬ ((n:Int) < 0) by omega)];first | done | rfl | (simp;done)) | assumption | rfl)) ?_
 intro (m,o) sa ⟨h0a,h3a,h4a,hIa⟩
 rcases hIa with ⟨rfl,rfl⟩ | ⟨rfl,rfl⟩
 ·have ht:((m:Int)).tmod 10 = (m:Int):=Int.tmod_eq_of_lt (by omega) (by omega)
  have hw:IntKind.i64.wrap (48 + (m:Int)) = 48 + (m:Int):=zan (by omega) (by omega)
  have hw8:IntKind.u8.wrap (48 + (m:Int)) = 48 + (m:Int):=by
   simp [IntKind.wrap,IntKind.bits,IntKind.signed]
   omega
  have hq:((m:Int)).tdiv 10 = 0:=Int.tdiv_eq_zero_of_lt (by omega) (by omega)
  have hc:=zHh h9
  simp (maxSteps:=5000000) -dsimp only [↓gp,gq,reduceCtorEq,reduceEqDiff,reduceLT,reduceLeDiff,reduceAdd,reduceMul,reduceSub,Nat.reduceBEq,Int.reduceToNat,Int.reduceLE,Int.reduceLT,Int.reduceNeg,reduceMod,zac,zad,zab,zaa,gT,TK.isInt,TK.agg,Array.toList,h0a,h3a,h4a,zBC,zz6,zHf,ht,hw,hw8,hq,hc]
  refine ⟨fun _=>⟨by decide,fun h=>absurd h (by omega),fun _=>⟨?_,by decide,zah ((0,chr m)) (by refine ⟨?_,?_,?_,Or.inr ⟨rfl,rfl⟩⟩ <;> (first | (simp (maxSteps:=5000000) -dsimp only [gr,reduceEqDiff,reduceLT,reduceAdd,reduceMod,Nat.reduceBEq,zaa,zac,zad,zab,h0a,h3a,h4a,ht,hw,hw8,hq,hc];first | done | rfl | (simp;done)) | assumption | rfl)) (by first | omega | (simp only;omega) | (dsimp only;omega) | (show _ < _;simp;omega))⟩⟩,fun h=>?_⟩
  ·show 1 + 0 ≤ 9223372036854775807
   omega
  ·simp at h
   omega
 ·simp (maxSteps:=5000000) -dsimp only [↓gp,gq,reduceCtorEq,reduceEqDiff,reduceLT,reduceLeDiff,reduceAdd,reduceMul,reduceSub,Nat.reduceBEq,Int.reduceToNat,Int.reduceLE,Int.reduceLT,Int.reduceNeg,reduceMod,zac,zad,zab,zaa,gT,TK.isInt,TK.agg,Array.toList,h0a,h3a,h4a,show (((0:Nat):Int) != 0) = false from rfl]
theorem zn1 {n:Nat} (h1:1 ≤ n) (h9:n ≤ 9):AC Try.prog 197 [str (chr n),int 12] (.tup [.im (int n),.im (bool true)]):=by
 refine AC.go (rs:=[.tmp 4,.tmp 5]) zbc zax Try.func197 rfl rfl rfl (by kernel_rfl) fun hl=>?_
 have hc:=zHg h9
 have e45:(((48 + n:Nat):Int) == 45) = false:=beq_eq_false_iff_ne.2 (by omega)
 have hz1:((1:Nat):Int) = 1:=rfl
 simp (maxSteps:=5000000) -dsimp only [↓gp,gq,reduceCtorEq,reduceEqDiff,reduceLT,reduceLeDiff,reduceAdd,reduceMul,reduceSub,Nat.reduceBEq,Int.reduceToNat,Int.reduceLE,Int.reduceLT,Int.reduceNeg,reduceMod,zac,zad,zab,zaa,gT,TK.isInt,TK.agg,Array.toList,zjd,hc,e45,hz1]
 refine zar (fun (i:Nat) s=>s.sl 0 = str (chr n)∧s.sl 6 = bool false∧s.sl 7 = str (chr n)∧s.sl 8 = int (if i = 0 then 0 else n:Nat)∧s.sl 9 = int i∧(i ≤ 1)) (fun i=>1 - i) (0) (by refine ⟨?_,?_,?_,?_,?_,by simp⟩ <;> (first | (simp (maxSteps:=5000000) -dsimp only [gr,reduceEqDiff,reduceLT,reduceAdd,reduceMod,Nat.reduceBEq,zaa,zac,zad,zab];first | done | rfl | (simp;done)) | assumption | rfl)) ?_
 intro i sa ⟨h0a,h6a,h7a,h8a,h9a,hIa⟩
 have hi:i = 0 ∨ i = 1:=by omega
 rcases hi with rfl | rfl
 ·have z0:((0:Nat):Int) = 0:=rfl
  have hw8:IntKind.u8.wrap (((48 + n:Nat):Int) - 48) = (n:Int):=by
   simp [IntKind.wrap,IntKind.bits,IntKind.signed]
   omega
  have hw:IntKind.i64.wrap (n:Int) = (n:Int):=zan (by omega) (by omega)
  have hm:IntKind.i64.wrap (10 * 0) = 0:=by decide
  have ha:IntKind.i64.wrap (0 + (n:Int)) = (n:Int):=by rw [Int.zero_add];exact hw
  have h01:IntKind.i64.wrap (0 + 1) = 1:=by decide
  simp (maxSteps:=5000000) -dsimp only [↓gp,gq,reduceCtorEq,reduceEqDiff,reduceLT,reduceLeDiff,reduceAdd,reduceMul,reduceSub,Nat.reduceBEq,Int.reduceToNat,Int.reduceLE,Int.reduceLT,Int.reduceNeg,reduceMod,zac,zad,zab,zaa,gT,TK.isInt,TK.agg,Array.toList,h0a,h6a,h7a,h8a,h9a,zjd,hc,hz1,z0]
  refine ⟨fun _=>⟨fun hx=>absurd hx (by omega),fun _=>zah (1) (by refine ⟨?_,?_,?_,?_,?_,by omega⟩ <;> (first | (simp (maxSteps:=5000000) -dsimp only [gr,reduceEqDiff,reduceLT,reduceAdd,reduceMod,Nat.reduceBEq,zaa,zac,zad,zab,h0a,h6a,h7a,h8a,h9a,hw8,hw,hm,ha,h01];first | done | rfl | (simp;done)) | assumption | rfl)) (by first | omega | (simp only;omega) | (dsimp only;omega) | (show _ < _;simp;omega))⟩,fun hx=>absurd hx (by omega)⟩
 ·simp (maxSteps:=5000000) -dsimp only [↓gp,gq,reduceCtorEq,reduceEqDiff,reduceLT,reduceLeDiff,reduceAdd,reduceMul,reduceSub,Nat.reduceBEq,Int.reduceToNat,Int.reduceLE,Int.reduceLT,Int.reduceNeg,reduceMod,zac,zad,zab,zaa,gT,TK.isInt,TK.agg,Array.toList,h0a,h6a,h7a,h8a,h9a,zjd,hc,hz1]
  refine zag (ziC h1 h9) ?_
  simp (maxSteps:=5000000) -dsimp only [↓gp,gq,reduceCtorEq,reduceEqDiff,reduceLT,reduceLeDiff,reduceAdd,reduceMul,reduceSub,Nat.reduceBEq,Int.reduceToNat,Int.reduceLE,Int.reduceLT,Int.reduceNeg,reduceMod,zac,zad,zab,zaa,gT,TK.isInt,TK.agg,Array.toList,h0a,h6a,h7a,h8a,h9a,zjd,beq_self_eq_true]
theorem zk5 {n:Nat} (h1:1 ≤ n) (h9:n ≤ 9):AC Try.prog 170 [str (chr n)] (.tup [.im (int n),.im (bool true)]):=by
 refine AC.go (rs:=[.tmp 2,.tmp 3]) zbc zax Try.func170 rfl rfl rfl (by kernel_rfl) fun hl=>?_
 simp (maxSteps:=5000000) -dsimp only [↓gp,gq,reduceCtorEq,reduceEqDiff,reduceLT,reduceLeDiff,reduceAdd,reduceMul,reduceSub,Nat.reduceBEq,Int.reduceToNat,Int.reduceLE,Int.reduceLT,Int.reduceNeg,reduceMod,zac,zad,zab,zaa,gT,TK.isInt,TK.agg,Array.toList]
 refine zag (zn1 h1 h9) ?_
 simp (maxSteps:=5000000) -dsimp only [↓gp,gq,reduceCtorEq,reduceEqDiff,reduceLT,reduceLeDiff,reduceAdd,reduceMul,reduceSub,Nat.reduceBEq,Int.reduceToNat,Int.reduceLE,Int.reduceLT,Int.reduceNeg,reduceMod,zac,zad,zab,zaa,gT,TK.isInt,TK.agg,Array.toList]
theorem zf4 {t rest:ByteArray} {n:Nat} {ps:List ByteArray} (h:OkText t n rest ps):AC Try.prog 133 [str t] (.tup [.ag [.im (int n),.fr 3 1 (iL (zsc ps))],.im (bool true)]):=by
 refine AC.go (rs:=[.cell 2 27,.tmp 3]) zbc zax Try.func133 rfl rfl rfl (by kernel_rfl) fun hl=>?_
 simp (maxSteps:=5000000) -dsimp only [↓gp,gq,reduceCtorEq,reduceEqDiff,reduceLT,reduceLeDiff,reduceAdd,reduceMul,reduceSub,Nat.reduceBEq,Int.reduceToNat,Int.reduceLE,Int.reduceLT,Int.reduceNeg,reduceMod,zac,zad,zab,zaa,gT,TK.isInt,TK.agg,Array.toList]
 refine zag (zeu t 58 h.size.2) ?_
 rw [h.head]
 have hz2:(((2:Nat):Int) != 2) = false:=rfl
 simp (maxSteps:=5000000) -dsimp only [↓gp,gq,reduceCtorEq,reduceEqDiff,reduceLT,reduceLeDiff,reduceAdd,reduceMul,reduceSub,Nat.reduceBEq,Int.reduceToNat,Int.reduceLE,Int.reduceLT,Int.reduceNeg,reduceMod,zac,zad,zab,zaa,gT,TK.isInt,TK.agg,Array.toList,zb6,hz2]
 refine ⟨by omega,zag (zk5 h.pts.1 (by have:=h.pts;omega)) ?_⟩
 simp (maxSteps:=5000000) -dsimp only [↓gp,gq,reduceCtorEq,reduceEqDiff,reduceLT,reduceLeDiff,reduceAdd,reduceMul,reduceSub,Nat.reduceBEq,Int.reduceToNat,Int.reduceLE,Int.reduceLT,Int.reduceNeg,reduceMod,zac,zad,zab,zaa,gT,TK.isInt,TK.agg,Array.toList]
 refine ⟨by omega,zag (zeu rest 44 h.rsize) ?_⟩
 rw [h.parts]
 simp (maxSteps:=5000000) -dsimp only [↓gp,gq,reduceCtorEq,reduceEqDiff,reduceLT,reduceLeDiff,reduceAdd,reduceMul,reduceSub,Nat.reduceBEq,Int.reduceToNat,Int.reduceLE,Int.reduceLT,Int.reduceNeg,reduceMod,zac,zad,zab,zaa,gT,TK.isInt,TK.agg,Array.toList,zb6]
 refine zar (fun (za:Nat × Nat × PV × RK × Nat × Nat × Nat) s=>match za with | (k,u,fc,kd,v,y,z)=>s.sl 2 = .ref 2 1 0∧s.rw 2 = ⟨1,.box 27 [int 0,.v (.slice none 0 0)]⟩∧s.sl 7 = .ref 7 y 0∧s.rw 7 = ⟨y,.box 27 [int n,fc]⟩∧s.rw 58 = ⟨u,kd⟩∧s.sl 4 = .own 13 z∧s.rw 13 = ⟨z,.sli 9 1 false (sL [chr n,rest])⟩∧s.sl 6 = bool true∧s.sl 8 = .own 30 v∧s.rw 30 = ⟨v,.sli 9 1 false (sL ps)⟩∧s.sl 9 = int k∧(k ≤ ps.length∧((k = 0∧fc = .v (.slice none 0 0)) ∨ (0 < k∧fc = .own 58 u∧kd = .sli 3 1 false (iL (zsc (ps.take k))))))) (fun (k,u,fc,kd,v,y,z)=>ps.length - k) ((0,0,.v (.slice none 0 0),.dead,1,1,1)) (by refine ⟨?_,?_,?_,?_,?_,?_,?_,?_,?_,?_,?_,by simp⟩ <;> (first | (simp (maxSteps:=5000000) -dsimp only [gr,reduceEqDiff,reduceLT,reduceAdd,reduceMod,Nat.reduceBEq,zaa,zac,zad,zab,zb6];first | done | rfl | (simp;done)) | assumption | rfl)) ?_
 intro (k,u,fc,kd,v,y,z) sa ⟨h2a,r2a,h7a,r7a,r58a,h4a,r13a,h6a,h8a,r30a,h9a,hIa⟩
 obtain ⟨hk,hfc⟩:=hIa
 have hfl:(zsc (ps.take k)).length = k:=by unfold zsc;simp;omega
 have hr1:[chr n,rest].getD 1 ⟨#[]⟩ = rest:=rfl
 rcases hfc with ⟨rfl,rfl⟩ | ⟨h0,rfl,rfl⟩
 ·simp (maxSteps:=5000000) -dsimp only [↓gp,gq,reduceCtorEq,reduceEqDiff,reduceLT,reduceLeDiff,reduceAdd,reduceMul,reduceSub,Nat.reduceBEq,Int.reduceToNat,Int.reduceLE,Int.reduceLT,Int.reduceNeg,reduceMod,zac,zad,zab,zaa,gT,TK.isInt,TK.agg,Array.toList,h2a,r2a,h7a,r7a,r58a,h4a,r13a,h6a,h8a,r30a,h9a,zb6,hr1,h.full]
  refine ⟨fun hlt=>⟨by omega,hlt,hlt,zag (ze7 _ (h.sets _ (za0 ⟨#[]⟩ hlt))) ?_⟩,fun hge=>absurd h.pne hge⟩
  simp (maxSteps:=5000000) -dsimp only [↓gp,gq,reduceCtorEq,reduceEqDiff,reduceLT,reduceLeDiff,reduceAdd,reduceMul,reduceSub,Nat.reduceBEq,Int.reduceToNat,Int.reduceLE,Int.reduceLT,Int.reduceNeg,reduceMod,zac,zad,zab,zaa,gT,TK.isInt,TK.agg,Array.toList,h2a,r2a,h7a,r7a,r58a,h4a,r13a,h6a,h8a,r30a,h9a,zb6]
  have hf1:zsc (ps.take 1) = [((zn5 (ps.getD 0 ⟨#[]⟩) (ps.getD 0 ⟨#[]⟩).size:Nat):Int)]:=zq0 hlt
  exact zah ((1,u + 1,.own 58 (u + 1),.sli 3 1 false (iL (zsc (ps.take 1))),v,y,z)) (by refine ⟨?_,?_,?_,?_,?_,?_,?_,?_,?_,?_,?_,⟨by omega,Or.inr ⟨by omega,rfl,rfl⟩⟩⟩ <;> (first | (simp (maxSteps:=5000000) -dsimp only [gr,reduceEqDiff,reduceLT,reduceAdd,reduceMod,Nat.reduceBEq,zaa,zac,zad,zab,h2a,r2a,h7a,r7a,r58a,h4a,r13a,h6a,h8a,r30a,h9a,hf1];first | done | rfl | (simp;done)) | assumption | rfl)) (by first | omega | (simp only;omega) | (dsimp only;omega) | (show _ < _;simp;omega))
 ·simp (maxSteps:=5000000) -dsimp only [↓gp,gq,reduceCtorEq,reduceEqDiff,reduceLT,reduceLeDiff,reduceAdd,reduceMul,reduceSub,Nat.reduceBEq,Int.reduceToNat,Int.reduceLE,Int.reduceLT,Int.reduceNeg,reduceMod,zac,zad,zab,zaa,gT,TK.isInt,TK.agg,Array.toList,h2a,r2a,h7a,r7a,r58a,h4a,r13a,h6a,h8a,r30a,h9a,zb6,zju,hfl,hr1,h.full]
  refine ⟨fun hlt=>⟨by omega,hlt,hlt,zag (ze7 _ (h.sets _ (za0 ⟨#[]⟩ hlt))) ?_⟩,fun hge=>?_⟩
  ·simp (maxSteps:=5000000) -dsimp only [↓gp,gq,reduceCtorEq,reduceEqDiff,reduceLT,reduceLeDiff,reduceAdd,reduceMul,reduceSub,Nat.reduceBEq,Int.reduceToNat,Int.reduceLE,Int.reduceLT,Int.reduceNeg,reduceMod,zac,zad,zab,zaa,gT,TK.isInt,TK.agg,Array.toList,h2a,r2a,h7a,r7a,r58a,h4a,r13a,h6a,h8a,r30a,h9a,zb6,hfl]
   have hpl:=h.plen
   refine ⟨by omega,?_⟩
   exact zah ((k + 1,u + 1,.own 58 (u + 1),.sli 3 1 false (iL (zsc (ps.take (k + 1)))),v,y,z)) (by refine ⟨?_,?_,?_,?_,?_,?_,?_,?_,?_,?_,?_,⟨by omega,Or.inr ⟨by omega,rfl,rfl⟩⟩⟩ <;> (first | (simp (maxSteps:=5000000) -dsimp only [gr,reduceEqDiff,reduceLT,reduceAdd,reduceMod,Nat.reduceBEq,zaa,zac,zad,zab,h2a,r2a,h7a,r7a,r58a,h4a,r13a,h6a,h8a,r30a,h9a,zq0 hlt,zae hlt (by omega)];first | done | rfl | (simp;done)) | assumption | rfl)) (by first | omega | (simp only;omega) | (dsimp only;omega) | (show _ < _;simp;omega))
  ·obtain rfl:k = ps.length:=by omega
   rw [List.take_length]
   have hcx:=zgX h.cx
   refine zag (zbl n (zsc ps)) ?_
   simp (maxSteps:=5000000) -dsimp only [↓gp,gq,reduceCtorEq,reduceEqDiff,reduceLT,reduceLeDiff,reduceAdd,reduceMul,reduceSub,Nat.reduceBEq,Int.reduceToNat,Int.reduceLE,Int.reduceLT,Int.reduceNeg,reduceMod,zac,zad,zab,zaa,gT,TK.isInt,TK.agg,Array.toList,h2a,r2a,h7a,r7a,r58a,h4a,r13a,h6a,h8a,r30a,h9a,hcx,hfl,List.take_length]
def cx6 (n:Nat) (l:List Nat):Bool:=decide (1 ≤ n) && decide (n ≤ 6) && (List.range l.length).all fun k =>
 decide (l.getD k 0 < 2 ^ n) && (decide (k = 0) || (if zsw (l.getD (k - 1) 0) = zsw (l.getD k 0) then decide (l.getD (k - 1) 0 < l.getD k 0) else decide (zsw (l.getD (k - 1) 0) < zsw (l.getD k 0)))) &&
 (List.range k).all fun i=>!(l.getD i 0 &&& l.getD k 0 == l.getD i 0)
theorem zqZ {l:List Nat} {k:Nat} (h:k < l.length):(ofN l).getD k 0 = ((l.getD k 0:Nat):Int):=zaV h
theorem zHe {n:Nat} {l:List Nat} (h:cx6 n l = true):cxP n (ofN l):=by
 unfold cx6 at h
 simp only [Bool.and_eq_true,decide_eq_true_eq,List.all_eq_true,List.mem_range,Bool.or_eq_true,Bool.not_eq_true'] at h
 obtain ⟨⟨h1,h6⟩,hall⟩:=h
 refine ⟨by omega,by omega,fun k hk=>?_⟩
 rw [zao] at hk
 obtain ⟨⟨ha,hb⟩,hc⟩:=hall k hk
 have hp:=zaN h6
 have hk64:l.getD k 0 < 64:=by omega
 have at64:∀ i,i < l.length→l.getD i 0 < 64:=fun i hi=>by have:=(hall i hi).1.1;omega
 refine ⟨?_,fun h0=>?_,fun i hi=>?_⟩
 ·rw [zqZ hk]
  unfold zbS
  refine decide_eq_true ⟨by omega,by omega,by omega,?_⟩
  rw [zcg]
  omega
 ·have hb:=hb.resolve_left (by omega)
  have hj64:=at64 (k - 1) (by omega)
  rw [zqZ hk,zqZ (show k - 1 < l.length by omega)]
  generalize l.getD (k - 1) 0 = a at *
  generalize l.getD k 0 = b at *
  have ea:zn8 (a:Int) = (zsw a:Nat):=by rw [zn8,if_pos (by omega),Int.toNat_natCast,zjt hj64]
  have eb:zn8 (b:Int) = (zsw b:Nat):=by rw [zn8,if_pos (by omega),Int.toNat_natCast,zjt hk64]
  unfold znO
  rw [ea,eb,decide_eq_true (show (0:Int) ≤ a∧(a:Int) < 64 by omega),decide_eq_true (show (0:Int) ≤ b∧(b:Int) < 64 by omega)]
  simp only [Bool.true_and]
  by_cases he:zsw a = zsw b
  ·rw [if_pos he] at hb
   rw [if_pos (by omega)]
   exact decide_eq_true (by have:=of_decide_eq_true hb;omega)
  ·rw [if_neg he] at hb
   rw [if_neg (by omega)]
   exact decide_eq_true (by have:=of_decide_eq_true hb;omega)
 ·have hq:=hc i hi
  have hi64:=at64 i (by omega)
  rw [zqZ hk,zqZ (show i < l.length by omega),zbN (by omega) (by omega)]
  intro e
  have e:l.getD i 0 &&& l.getD k 0 = l.getD i 0:=Int.ofNat.inj e
  rw [e] at hq
  simp at hq
theorem zu1 (ps:List ByteArray):zsc ps = ofN (ps.map fun p=>zn5 p p.size):=by
 unfold zsc ofN
 rw [List.map_map];rfl
theorem zij {t rest:ByteArray} {n:Nat} {ps:List ByteArray} (size:decide (2 ≤ t.size∧t.size ≤ 1000) = true) (pts:decide (1 ≤ n∧n ≤ 6) = true) (b0:byt t 0 = 48 + n) (b1:byt t 1 = 58) (tail:t.extract 2 t.size = rest)
 (rsize:decide (rest.size ≤ 1000) = true) (full:(rest.toList == (⟨#[]⟩:ByteArray).toList) = false) (parts:zhL rest 44 = ps) (plen:decide (0 < ps.length∧ps.length ≤ 1000) = true) (sets:ps.all zDd = true)
 (head:zhL t 58 = [chr n,rest]) (cx:cx6 n (ps.map fun p=>zn5 p p.size) = true):OkText t n rest ps :=
 ⟨of_decide_eq_true size,of_decide_eq_true pts,b0,b1,tail,of_decide_eq_true rsize,full,parts,(of_decide_eq_true plen).2,(of_decide_eq_true plen).1,fun p hp=>zAG (List.all_eq_true.1 sets p hp),head,by rw [zu1];exact zHe cx⟩
def ex2:ByteArray:=⟨#[54,58,97,99,100,44,98,99,100,44,97,98,101,44,97,99,101,44,98,100,101,44,97,98,102,44,98,99,102,44,97,100,102,44,99,101,102,44,100,101,102]⟩
def ps2:List ByteArray:=[⟨#[97,99,100]⟩,⟨#[98,99,100]⟩,⟨#[97,98,101]⟩,⟨#[97,99,101]⟩,⟨#[98,100,101]⟩,⟨#[97,98,102]⟩,⟨#[98,99,102]⟩,⟨#[97,100,102]⟩,⟨#[99,101,102]⟩,⟨#[100,101,102]⟩]
theorem zOf:OkText ex2 6 ⟨#[97,99,100,44,98,99,100,44,97,98,101,44,97,99,101,44,98,100,101,44,97,98,102,44,98,99,102,44,97,100,102,44,99,101,102,44,100,101,102]⟩ ps2:=zij (by kernel_rfl) (by kernel_rfl) (by kernel_rfl) (by kernel_rfl) (by kernel_rfl) (by kernel_rfl) (by kernel_rfl) (by kernel_rfl) (by kernel_rfl) (by kernel_rfl) (by kernel_rfl) (by kernel_rfl)
def ex3:ByteArray:=⟨#[53,58,97,98,44,98,99,44,99,100,44,97,101,44,100,101]⟩
def ps3:List ByteArray:=[⟨#[97,98]⟩,⟨#[98,99]⟩,⟨#[99,100]⟩,⟨#[97,101]⟩,⟨#[100,101]⟩]
theorem zOg:OkText ex3 5 ⟨#[97,98,44,98,99,44,99,100,44,97,101,44,100,101]⟩ ps3:=zij (by kernel_rfl) (by kernel_rfl) (by kernel_rfl) (by kernel_rfl) (by kernel_rfl) (by kernel_rfl) (by kernel_rfl) (by kernel_rfl) (by kernel_rfl) (by kernel_rfl) (by kernel_rfl) (by kernel_rfl)
def ex4:ByteArray:=⟨#[53,58,97,98,99,44,99,100,101]⟩
def ps4:List ByteArray:=[⟨#[97,98,99]⟩,⟨#[99,100,101]⟩]
theorem zOh:OkText ex4 5 ⟨#[97,98,99,44,99,100,101]⟩ ps4:=zij (by kernel_rfl) (by kernel_rfl) (by kernel_rfl) (by kernel_rfl) (by kernel_rfl) (by kernel_rfl) (by kernel_rfl) (by kernel_rfl) (by kernel_rfl) (by kernel_rfl) (by kernel_rfl) (by kernel_rfl)
def ex5:ByteArray:=⟨#[54,58,97,98,99,44,97,99,100,44,97,98,101,44,97,100,101,44,98,99,102,44,99,100,102,44,98,101,102,44,100,101,102]⟩
def ps5:List ByteArray:=[⟨#[97,98,99]⟩,⟨#[97,99,100]⟩,⟨#[97,98,101]⟩,⟨#[97,100,101]⟩,⟨#[98,99,102]⟩,⟨#[99,100,102]⟩,⟨#[98,101,102]⟩,⟨#[100,101,102]⟩]
theorem zOi:OkText ex5 6 ⟨#[97,98,99,44,97,99,100,44,97,98,101,44,97,100,101,44,98,99,102,44,99,100,102,44,98,101,102,44,100,101,102]⟩ ps5:=zij (by kernel_rfl) (by kernel_rfl) (by kernel_rfl) (by kernel_rfl) (by kernel_rfl) (by kernel_rfl) (by kernel_rfl) (by kernel_rfl) (by kernel_rfl) (by kernel_rfl) (by kernel_rfl) (by kernel_rfl)
def ex6:ByteArray:=⟨#[54,58,97,98,44,99,100,44,101,102]⟩
def ps6:List ByteArray:=[⟨#[97,98]⟩,⟨#[99,100]⟩,⟨#[101,102]⟩]
theorem zOj:OkText ex6 6 ⟨#[97,98,44,99,100,44,101,102]⟩ ps6:=zij (by kernel_rfl) (by kernel_rfl) (by kernel_rfl) (by kernel_rfl) (by kernel_rfl) (by kernel_rfl) (by kernel_rfl) (by kernel_rfl) (by kernel_rfl) (by kernel_rfl) (by kernel_rfl) (by kernel_rfl)
def ex7:ByteArray:=⟨#[52,58,97,98,44,98,99,44,99,100]⟩
def ps7:List ByteArray:=[⟨#[97,98]⟩,⟨#[98,99]⟩,⟨#[99,100]⟩]
theorem zOk:OkText ex7 4 ⟨#[97,98,44,98,99,44,99,100]⟩ ps7:=zij (by kernel_rfl) (by kernel_rfl) (by kernel_rfl) (by kernel_rfl) (by kernel_rfl) (by kernel_rfl) (by kernel_rfl) (by kernel_rfl) (by kernel_rfl) (by kernel_rfl) (by kernel_rfl) (by kernel_rfl)
end Go.Proofs.Ytpnknaaehcljoaa
