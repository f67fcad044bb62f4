/- DERIVED by an AI agent. -/
import Derived.Test.YtpnknaaehcljoaaGreatQ4
import Derived.Test.YtpnknaaehcljoaaGreatQ3
import Derived.Test.YtpnknaaehcljoaaGreatA13
import Derived.Test.YtpnknaaehcljoaaGreatP1
import Derived.Test.YtpnknaaehcljoaaGreatQ1
import Derived.Test.YtpnknaaehcljoaaGreatA12
namespace Go.Proofs.YtpnknaaehcljoaaGreat
open Go.Abs
open Nat (reduceEqDiff reduceMod reduceAdd reduceLT reduceLeDiff reduceSub reduceMul)
set_option linter.unusedSimpArgs false
set_option linter.unusedVariables false
theorem zce {t:Nat} (h:t < 64):zlI (t:Int) = (zat t:Nat):=by rw [zlI,if_pos (by omega)];simp
theorem zk9 (f:Nat→Bool) (m:Nat):zir f (m + 1) = if f m = true then max (zir f m) (zat m + 1) else zir f m:=rfl
theorem zlz (f:Nat→Bool):AC Tryz.prog 211 [u64 (zaH f 64:Nat)] (.im (int ((zcb f:Int) - 1))):=by
 refine AC.go (rs:=[.tmp 2]) za3 zav Tryz.func211 rfl rfl rfl (by kernel_rfl) fun hl=>?_
 simp (maxSteps:=5000000) -dsimp only [↓gp,gq,reduceCtorEq,reduceEqDiff,reduceLT,reduceLeDiff,reduceAdd,reduceMul,reduceSub,Nat.reduceBEq,Int.reduceToNat,Int.reduceLE,Int.reduceLT,Int.reduceNeg,reduceMod,zac,zad,zab,zaa,gT,TK.isInt,TK.agg,Array.toList]
 have hm1:=zbu f 64
 refine zan (fun (m:Nat) s=>s.sl 0 = u64 (zaH f 64:Nat)∧s.sl 3 = int ((zir f m:Int) - 1)∧s.sl 4 = int m∧(m ≤ 64)) (fun m=>64 - m) (0) (by refine ⟨?_,?_,?_,by omega⟩ <;> (first | (simp (maxSteps:=5000000) -dsimp only [gr,reduceEqDiff,reduceLT,reduceAdd,reduceMod,Nat.reduceBEq,zaa,zac,zad,zab,zir];first | done | rfl | (simp;done)) | assumption | rfl)) ?_
 intro m sa ⟨h0a,h3a,h4a,hIa⟩
 simp (maxSteps:=5000000) -dsimp only [↓gp,gq,reduceCtorEq,reduceEqDiff,reduceLT,reduceLeDiff,reduceAdd,reduceMul,reduceSub,Nat.reduceBEq,Int.reduceToNat,Int.reduceLE,Int.reduceLT,Int.reduceNeg,reduceMod,zac,zad,zab,zaa,gT,TK.isInt,TK.agg,Array.toList,h0a,h3a,h4a]
 refine ⟨fun h=>zaf (zeq (zaH f 64) m (by omega) (by omega)) ?_,fun h=>?_⟩
 ·have h:m < 64:=by omega
  rw [zcm f h]
  simp (maxSteps:=5000000) -dsimp only [↓gp,gq,reduceCtorEq,reduceEqDiff,reduceLT,reduceLeDiff,reduceAdd,reduceMul,reduceSub,Nat.reduceBEq,Int.reduceToNat,Int.reduceLE,Int.reduceLT,Int.reduceNeg,reduceMod,zac,zad,zab,zaa,gT,TK.isInt,TK.agg,Array.toList,h0a,h3a,h4a]
  refine ⟨fun hf=>zaf (zaS _) ?_,fun hf=>?_⟩
  ·simp (maxSteps:=5000000) -dsimp only [↓gp,gq,reduceCtorEq,reduceEqDiff,reduceLT,reduceLeDiff,reduceAdd,reduceMul,reduceSub,Nat.reduceBEq,Int.reduceToNat,Int.reduceLE,Int.reduceLT,Int.reduceNeg,reduceMod,zac,zad,zab,zaa,gT,TK.isInt,TK.agg,Array.toList,h0a,h3a,h4a,zce h]
   refine ⟨fun hg=>zaf (zaS _) ?_,fun hg=>?_⟩
   ·simp (maxSteps:=5000000) -dsimp only [↓gp,gq,reduceCtorEq,reduceEqDiff,reduceLT,reduceLeDiff,reduceAdd,reduceMul,reduceSub,Nat.reduceBEq,Int.reduceToNat,Int.reduceLE,Int.reduceLT,Int.reduceNeg,reduceMod,zac,zad,zab,zaa,gT,TK.isInt,TK.agg,Array.toList,h0a,h3a,h4a,zce h]
    have e:(zir f (m + 1):Int) - 1 = (zat m:Int):=by rw [zk9,if_pos hf];omega
    exact zag (m + 1) (by refine ⟨?_,?_,?_,by omega⟩ <;> (first | (simp (maxSteps:=5000000) -dsimp only [gr,reduceEqDiff,reduceLT,reduceAdd,reduceMod,Nat.reduceBEq,zaa,zac,zad,zab,h0a,h3a,h4a,zae h (by omega),zce h,e];first | done | rfl | (simp;done)) | assumption | rfl)) (by first | omega | (simp only;omega) | (dsimp only;omega) | (show _ < _;simp;omega))
   ·have e:zir f (m + 1) = zir f m:=by rw [zk9,if_pos hf];omega
    exact zag (m + 1) (by refine ⟨?_,?_,?_,by omega⟩ <;> (first | (simp (maxSteps:=5000000) -dsimp only [gr,reduceEqDiff,reduceLT,reduceAdd,reduceMod,Nat.reduceBEq,zaa,zac,zad,zab,h0a,h3a,h4a,zae h (by omega),e];first | done | rfl | (simp;done)) | assumption | rfl)) (by first | omega | (simp only;omega) | (dsimp only;omega) | (show _ < _;simp;omega))
  ·have e:zir f (m + 1) = zir f m:=by rw [zk9,if_neg (by rw [hf];decide)]
   exact zag (m + 1) (by refine ⟨?_,?_,?_,by omega⟩ <;> (first | (simp (maxSteps:=5000000) -dsimp only [gr,reduceEqDiff,reduceLT,reduceAdd,reduceMod,Nat.reduceBEq,zaa,zac,zad,zab,h0a,h3a,h4a,zae h (by omega),e];first | done | rfl | (simp;done)) | assumption | rfl)) (by first | omega | (simp only;omega) | (dsimp only;omega) | (show _ < _;simp;omega))
 ·have:m = 64:=by omega
  subst this;rfl
theorem zq5 {f:Nat→Bool} {m j:Nat} (hf:f m = true):zaX f j (m + 1) = if j = zat m then zaX f j m ++ [m] else zaX f j m:=by
 rw [ze2,hf]
 by_cases e:j = zat m
 ·subst e;simp
 ·have:¬ zat m = j:=fun h=>e h.symm
  simp [e,this]
theorem zzW {f:Nat→Bool} {m j:Nat} (hf:f m = false):zaX f j (m + 1) = zaX f j m:=by rw [ze2,hf];simp
def zit (f:Nat→Bool):Mat:=(List.range (zcb f)).map fun k=>ofN (zaX f k 64)
theorem zod (f:Nat→Bool):(zit f).length = zcb f:=by simp [zit]
theorem zga (f:Nat→Bool) {k:Nat} (h:k < zcb f):(zit f).getD k [] = ofN (zaX f k 64):=by simp [zit,List.getD,h]
theorem zlA (f:Nat→Bool):AC Tryz.prog 179 [u64 (zaH f 64:Nat)] (.tb 25 3 ((List.range (zcb f)).map fun j=>iL (ofN (zaX f j 64)))):=by
 refine AC.go (rs:=[.tmp 2]) za3 zav Tryz.func179 rfl rfl rfl (by kernel_rfl) fun hl=>?_
 have hm1:=zbu f 64
 have hd:=ze6 f
 simp (maxSteps:=5000000) -dsimp only [↓gp,gq,reduceCtorEq,reduceEqDiff,reduceLT,reduceLeDiff,reduceAdd,reduceMul,reduceSub,Nat.reduceBEq,Int.reduceToNat,Int.reduceLE,Int.reduceLT,Int.reduceNeg,reduceMod,zac,zad,zab,zaa,gT,TK.isInt,TK.agg,Array.toList]
 refine zaf (zlz f) ?_
 have hw:IntKind.i64.wrap ((zcb f:Int) - 1 + 1) = (zcb f:Int):=by rw [zap (by omega) (by omega)];omega
 simp (maxSteps:=5000000) -dsimp only [↓gp,gq,reduceCtorEq,reduceEqDiff,reduceLT,reduceLeDiff,reduceAdd,reduceMul,reduceSub,Nat.reduceBEq,Int.reduceToNat,Int.reduceLE,Int.reduceLT,Int.reduceNeg,reduceMod,zac,zad,zab,zaa,gT,TK.isInt,TK.agg,Array.toList,hw]
 refine ⟨by omega,by omega,?_⟩
 refine zy7 (k:=9) (v:=1) (e:=25) (e2:=3) (n:=zcb f) (by simp (maxSteps:=5000000) -dsimp only [gr,reduceEqDiff,reduceLT,reduceAdd,reduceMod,Nat.reduceBEq,zaa,zac,zad,zab,hw]) (fun j=>by simp (maxSteps:=5000000) -dsimp only [gr,reduceEqDiff,reduceLT,reduceAdd,reduceMod,Nat.reduceBEq,zaa,zac,zad,zab]) (fun (m:Nat) s=>s.sl 0 = u64 (zaH f 64:Nat)∧s.sl 3 = .own 9 1∧s.sl 4 = int m∧(m ≤ 64∧TabF s.rw 9 1 25 3 (zcb f) (fun j=>1 + (zaX f j m).length) (fun j=>ofN (zaX f j m)))) (fun m=>64 - m) (0) (fun sX htX hslX hoX=>(by refine ⟨?_,?_,?_,⟨by omega,htX⟩⟩ <;> (first | (simp (maxSteps:=5000000) -dsimp only [gr,reduceEqDiff,reduceLT,reduceAdd,reduceMod,Nat.reduceBEq,zaa,zac,zad,zab,hslX,hoX];first | done | rfl | (simp;done)) | assumption | rfl))) ?_
 intro m sa ⟨h0a,h3a,h4a,hIa⟩
 obtain ⟨hm,ht⟩:=hIa
 simp (maxSteps:=5000000) -dsimp only [↓gp,gq,reduceCtorEq,reduceEqDiff,reduceLT,reduceLeDiff,reduceAdd,reduceMul,reduceSub,Nat.reduceBEq,Int.reduceToNat,Int.reduceLE,Int.reduceLT,Int.reduceNeg,reduceMod,zac,zad,zab,zaa,gT,TK.isInt,TK.agg,Array.toList,h0a,h3a,h4a]
 refine ⟨fun h=>zaf (zeq (zaH f 64) m (by omega) (by omega)) ?_,fun h=>?_⟩
 ·have h:m < 64:=by omega
  rw [zcm f h]
  simp (maxSteps:=5000000) -dsimp only [↓gp,gq,reduceCtorEq,reduceEqDiff,reduceLT,reduceLeDiff,reduceAdd,reduceMul,reduceSub,Nat.reduceBEq,Int.reduceToNat,Int.reduceLE,Int.reduceLT,Int.reduceNeg,reduceMod,zac,zad,zab,zaa,gT,TK.isInt,TK.agg,Array.toList,h0a,h3a,h4a]
  refine ⟨fun hf=>zaf (zaS _) ?_,fun hf=>?_⟩
  ·have hk:zat m < zcb f:=zr5 64 m h hf
   have hr:=ht.row (zat m) hk
   have hol:=zcL f (zat m) hm
   simp (maxSteps:=5000000) -dsimp only [↓gp,gq,reduceCtorEq,reduceEqDiff,reduceLT,reduceLeDiff,reduceAdd,reduceMul,reduceSub,Nat.reduceBEq,Int.reduceToNat,Int.reduceLE,Int.reduceLT,Int.reduceNeg,reduceMod,zac,zad,zab,zaa,gT,TK.isInt,TK.agg,Array.toList,h0a,h3a,h4a,zce h,ht.top,zg5,zy6,hr,zak]
   refine ⟨hk,hk,by omega,hk,by omega,zag (m + 1) ⟨(by (first | (simp (maxSteps:=5000000) -dsimp only [gr,reduceEqDiff,reduceLT,reduceAdd,reduceMod,Nat.reduceBEq,zaa,zac,zad,zab,h0a,h3a,h4a,zae h (by omega)];first | done | rfl | (simp;done)) | assumption | rfl)),(by (first | (simp (maxSteps:=5000000) -dsimp only [gr,reduceEqDiff,reduceLT,reduceAdd,reduceMod,Nat.reduceBEq,zaa,zac,zad,zab,h0a,h3a,h4a,zae h (by omega)];first | done | rfl | (simp;done)) | assumption | rfl)),(by (first | (simp (maxSteps:=5000000) -dsimp only [gr,reduceEqDiff,reduceLT,reduceAdd,reduceMod,Nat.reduceBEq,zaa,zac,zad,zab,h0a,h3a,h4a,zae h (by omega)];first | done | rfl | (simp;done)) | assumption | rfl)),⟨by omega,ht.add hk (r:=ofN (zaX f (zat m) m) ++ [(m:Int)]) (by simp (maxSteps:=5000000) -dsimp only [gr,reduceEqDiff,reduceLT,reduceAdd,reduceMod,Nat.reduceBEq,zaa,zac,zad,zab,h0a,h3a,h4a]) (by simp (maxSteps:=5000000) -dsimp only [gr,reduceEqDiff,reduceLT,reduceAdd,reduceMod,Nat.reduceBEq,zaa,zac,zad,zab,h0a,h3a,h4a]) (fun x hx=>by simp (maxSteps:=5000000) -dsimp only [gr,reduceEqDiff,reduceLT,reduceAdd,reduceMod,Nat.reduceBEq,zaa,zac,zad,zab,h0a,h3a,h4a,hx]) (fun j _=>?_) (fun j _=>?_)⟩⟩ (by first | omega | (simp only;omega) | (dsimp only;omega) | (show _ < _;simp;omega))⟩
   ·rw [zq5 hf]
    split
    ·rename_i e;subst e;simp;omega
    ·rfl
   ·rw [zq5 hf]
    split
    ·rename_i e;subst e;rw [zaV];rfl
    ·rfl
  ·have e:∀ j,zaX f j (m + 1) = zaX f j m:=fun j=>zzW hf
   refine zag (m + 1) ⟨(by (first | (simp (maxSteps:=5000000) -dsimp only [gr,reduceEqDiff,reduceLT,reduceAdd,reduceMod,Nat.reduceBEq,zaa,zac,zad,zab,h0a,h3a,h4a,zae h (by omega)];first | done | rfl | (simp;done)) | assumption | rfl)),(by (first | (simp (maxSteps:=5000000) -dsimp only [gr,reduceEqDiff,reduceLT,reduceAdd,reduceMod,Nat.reduceBEq,zaa,zac,zad,zab,h0a,h3a,h4a,zae h (by omega)];first | done | rfl | (simp;done)) | assumption | rfl)),(by (first | (simp (maxSteps:=5000000) -dsimp only [gr,reduceEqDiff,reduceLT,reduceAdd,reduceMod,Nat.reduceBEq,zaa,zac,zad,zab,h0a,h3a,h4a,zae h (by omega)];first | done | rfl | (simp;done)) | assumption | rfl)),⟨by omega,?_⟩⟩ (by first | omega | (simp only;omega) | (dsimp only;omega) | (show _ < _;simp;omega))
   simp only [e]
   exact ht.same (by simp (maxSteps:=5000000) -dsimp only [gr,reduceEqDiff,reduceLT,reduceAdd,reduceMod,Nat.reduceBEq,zaa,zac,zad,zab]) (fun x=>by simp (maxSteps:=5000000) -dsimp only [gr,reduceEqDiff,reduceLT,reduceAdd,reduceMod,Nat.reduceBEq,zaa,zac,zad,zab])
 ·have:m = 64:=by omega
  subst this
  exact zy8 ht (by decide) (by omega)
theorem zoe (f:Nat→Bool):AC Tryz.prog 179 [u64 (zaH f 64:Nat)] (.fr 25 1 (iLL (zit f))):=by
 have:=(zlA f).flat
 unfold zit iLL
 rw [List.map_map] at this ⊢
 exact this
theorem zhU (a b:Nat) (ha:a < 64) (hb:b < 64) (hp:zat b = zat a + 1):AC Tryz.prog 245 [int a,int b] (.im (int (zgc a b))):=by
 refine AC.go (rs:=[.tmp 4]) za3 zav Tryz.func245 rfl rfl rfl (by kernel_rfl) fun hl=>?_
 have hpa:=zcw ha
 have hand:=zbr (a:=a) (b:=b) (by omega) (by omega)
 simp (maxSteps:=5000000) -dsimp only [↓gp,gq,reduceCtorEq,reduceEqDiff,reduceLT,reduceLeDiff,reduceAdd,reduceMul,reduceSub,Nat.reduceBEq,Int.reduceToNat,Int.reduceLE,Int.reduceLT,Int.reduceNeg,reduceMod,zac,zad,zab,zaa,gT,TK.isInt,TK.agg,Array.toList,hand]
 refine ⟨fun h=>?_,fun h=>?_⟩
 ·have hs:¬ a &&& b = a:=by
   intro e
   rw [zcj.2 e] at h
   simp at h
  unfold zgc;rw [if_neg hs]
 ·have hs:a &&& b = a:=zcj.1 (by
   have h9:((a ^^^ (a &&& b):Nat):Int) = 0:=by simpa using h
   omega)
  obtain ⟨hle,hx⟩:=zuZ a ha b hb hs
  have hne:a ≠ b:=fun e=>by rw [e] at hp;omega
  have hand2:=zbr (a:=b) (b:=a) (by omega) (by omega)
  rw [Nat.and_comm b a,hx] at hand2
  have hw3:IntKind.i64.wrap (((b - a:Nat):Int) - 1) = ((b - a - 1:Nat):Int):=by rw [zap (by omega) (by omega)];omega
  have hand3:=zaQ (a:=b) (b:=b - a - 1) (by omega) (by omega)
  have hlt:b &&& (b - a - 1) < 64:=by have:b &&& (b - a - 1) ≤ b:=Nat.and_le_left;omega
  have hp6:=zcw hlt
  have hmod:((zat (b &&& (b - a - 1)):Nat):Int).tmod 2 = ((zat (b &&& (b - a - 1)) % 2:Nat):Int):=by rw [zdV (by omega)];omega
  simp (maxSteps:=5000000) -dsimp only [↓gp,gq,reduceCtorEq,reduceEqDiff,reduceLT,reduceLeDiff,reduceAdd,reduceMul,reduceSub,Nat.reduceBEq,Int.reduceToNat,Int.reduceLE,Int.reduceLT,Int.reduceNeg,reduceMod,zac,zad,zab,zaa,gT,TK.isInt,TK.agg,Array.toList,hand2,hw3,hand3]
  refine zaf (zaS _) ?_
  simp (maxSteps:=5000000) -dsimp only [↓gp,gq,reduceCtorEq,reduceEqDiff,reduceLT,reduceLeDiff,reduceAdd,reduceMul,reduceSub,Nat.reduceBEq,Int.reduceToNat,Int.reduceLE,Int.reduceLT,Int.reduceNeg,reduceMod,zac,zad,zab,zaa,gT,TK.isInt,TK.agg,Array.toList,zce hlt,hmod]
  unfold zgc
  rw [if_pos hs]
  refine ⟨by decide,fun h0=>?_,fun h0=>?_⟩
  ·rw [if_pos (by have h9:((zat (b &&& (b - a - 1)) % 2:Nat):Int) = 0:=by simpa using h0
                  omega)]
  ·rw [if_neg (by intro e;rw [e] at h0;simp at h0)]
theorem zD9 {lo hi:List Nat} {i j:Nat} (hi':i < lo.length) (hj:j < hi.length):(hi.map fun b=>zgc (lo.getD i 0) b).getD j 0 = zgc (lo.getD i 0) (hi.getD j 0):=by
 simp [List.getD,hj]
theorem zla (lo hi:List Nat) (k:Nat) (hl1:lo.length ≤ 64) (hl2:hi.length ≤ 64) (hm1:∀ i,i < lo.length→lo.getD i 0 < 64∧zat (lo.getD i 0) = k) (hm2:∀ i,i < hi.length→hi.getD i 0 < 64∧zat (hi.getD i 0) = k + 1) :
 AC Tryz.prog 229 [zaN (ofN lo),zaN (ofN hi)] (.tb 25 3 ((zbY lo hi).map iL)):=by
 refine AC.go (rs:=[.tmp 4]) za3 zav Tryz.func229 rfl rfl rfl (by kernel_rfl) fun hl=>?_
 simp (maxSteps:=5000000) -dsimp only [↓gp,gq,reduceCtorEq,reduceEqDiff,reduceLT,reduceLeDiff,reduceAdd,reduceMul,reduceSub,Nat.reduceBEq,Int.reduceToNat,Int.reduceLE,Int.reduceLT,Int.reduceNeg,reduceMod,zac,zad,zab,zaa,gT,TK.isInt,TK.agg,Array.toList,zak]
 refine ⟨by omega,by omega,?_⟩
 refine zuJ (k:=12) (v:=1) (e:=25) (e2:=3) (n:=lo.length) (by simp (maxSteps:=5000000) -dsimp only [gr,reduceEqDiff,reduceLT,reduceAdd,reduceMod,Nat.reduceBEq,zaa,zac,zad,zab,zak]) (fun j=>by simp (maxSteps:=5000000) -dsimp only [gr,reduceEqDiff,reduceLT,reduceAdd,reduceMod,Nat.reduceBEq,zaa,zac,zad,zab]) (fun (i:Nat) s=>s.sl 1 = zaN (ofN hi)∧s.sl 5 = .own 12 1∧s.sl 13 = zaN (ofN lo)∧s.sl 14 = int lo.length∧s.sl 15 = int i∧(i ≤ lo.length∧TabP s.rw 12 1 25 3 lo.length i (zbY (lo.take i) hi))) (fun i=>lo.length - i) (0) (fun sX htX hslX hoX=>(by refine ⟨?_,?_,?_,?_,?_,⟨by omega,htX⟩⟩ <;> (first | (simp (maxSteps:=5000000) -dsimp only [gr,reduceEqDiff,reduceLT,reduceAdd,reduceMod,Nat.reduceBEq,zaa,zac,zad,zab,hslX,hoX,zak];first | done | rfl | (simp;done)) | assumption | rfl))) ?_
 intro i sa ⟨h1a,h5a,h13a,h14a,h15a,hIa⟩
 obtain ⟨hi',ht⟩:=hIa
 simp (maxSteps:=5000000) -dsimp only [↓gp,gq,reduceCtorEq,reduceEqDiff,reduceLT,reduceLeDiff,reduceAdd,reduceMul,reduceSub,Nat.reduceBEq,Int.reduceToNat,Int.reduceLE,Int.reduceLT,Int.reduceNeg,reduceMod,zac,zad,zab,zaa,gT,TK.isInt,TK.agg,Array.toList,h1a,h5a,h13a,h14a,h15a,ht.top,zbs,zak]
 refine ⟨fun h=>?_,fun h=>?_⟩
 ·have hge:(ofN lo).getD i 0 = ((lo.getD i 0:Nat):Int):=zaJ h
  have hlen:(zbY (lo.take i) hi).length = i:=by rw [zck,List.length_take];omega
  refine ⟨h,h,by omega,by omega,h,by omega,?_⟩
  refine zqI (k:=12) (v:=1) (e:=25) (e2:=3) (n:=lo.length) (i:=i) (d:=24) (vd:=(sa.rw 24).ver + 1) (M:=zbY (lo.take i) hi) (r:=List.replicate hi.length 0) (by simp (maxSteps:=5000000) -dsimp only [gr,reduceEqDiff,reduceLT,reduceAdd,reduceMod,Nat.reduceBEq,zaa,zac,zad,zab,ht.top]) hlen (fun j hj=>by simp (maxSteps:=5000000) -dsimp only [gr,reduceEqDiff,reduceLT,reduceAdd,reduceMod,Nat.reduceBEq,zaa,zac,zad,zab,ht.row j hj]) (fun j hj=>by simp (maxSteps:=5000000) -dsimp only [gr,reduceEqDiff,reduceLT,reduceAdd,reduceMod,Nat.reduceBEq,zaa,zac,zad,zab,ht.rest j hj]) (by simp (maxSteps:=5000000) -dsimp only [gr,reduceEqDiff,reduceLT,reduceAdd,reduceMod,Nat.reduceBEq,zaa,zac,zad,zab]) (by decide) (by decide) h (fun (j:Nat) s=>s.sl 1 = zaN (ofN hi)∧s.sl 5 = .own 12 1∧s.sl 13 = zaN (ofN lo)∧s.sl 14 = int lo.length∧s.sl 15 = int i∧s.sl 6 = int i∧s.sl 7 = int (lo.getD i 0:Nat)∧s.sl 26 = zaN (ofN hi)∧s.sl 27 = int hi.length∧s.sl 28 = int j∧(j ≤ hi.length∧TabP s.rw 12 1 25 3 lo.length (i + 1) (zbY (lo.take i) hi ++ [prt (hi.map fun b=>zgc (lo.getD i 0) b) (List.replicate hi.length 0) j]))) (fun j=>hi.length - j) (0) (fun sX htX hslX hoX=>(by refine ⟨?_,?_,?_,?_,?_,?_,?_,?_,?_,?_,⟨by omega,by rw [zet];exact htX⟩⟩ <;> (first | (simp (maxSteps:=5000000) -dsimp only [gr,reduceEqDiff,reduceLT,reduceAdd,reduceMod,Nat.reduceBEq,zaa,zac,zad,zab,hslX,hoX,h1a,h5a,h13a,h14a,h15a,zak,hge];first | done | rfl | (simp;done)) | assumption | rfl))) ?_
  intro j sb ⟨h1b,h5b,h13b,h14b,h15b,h6b,h7b,h26b,h27b,h28b,hIb⟩
  obtain ⟨hj,ht2⟩:=hIb
  have hnl:(hi.map fun b=>zgc (lo.getD i 0) b).length = (List.replicate hi.length (0:Int)).length:=by simp
  have hrr:=ht2.row i (by omega)
  rw [zqJ hlen] at hrr
  have hpl:∀ t,(prt (hi.map fun b=>zgc (lo.getD i 0) b) (List.replicate hi.length 0) t).length = hi.length:=fun t=>by rw [zcI hnl];simp
  simp (maxSteps:=5000000) -dsimp only [↓gp,gq,reduceCtorEq,reduceEqDiff,reduceLT,reduceLeDiff,reduceAdd,reduceMul,reduceSub,Nat.reduceBEq,Int.reduceToNat,Int.reduceLE,Int.reduceLT,Int.reduceNeg,reduceMod,zac,zad,zab,zaa,gT,TK.isInt,TK.agg,Array.toList,h1b,h5b,h13b,h14b,h15b,h6b,h7b,h26b,h27b,h28b,ht2.top,zkT,hrr,hpl,zbs,zak]
  refine ⟨fun h2=>?_,fun h2=>?_⟩
  ·have hge2:(ofN hi).getD j 0 = ((hi.getD j 0:Nat):Int):=zaJ h2
   have ha:=hm1 i h
   have hb:=hm2 j h2
   refine ⟨h2,h2,?_⟩
   simp (maxSteps:=5000000) -dsimp only [↓gp,gq,reduceCtorEq,reduceEqDiff,reduceLT,reduceLeDiff,reduceAdd,reduceMul,reduceSub,Nat.reduceBEq,Int.reduceToNat,Int.reduceLE,Int.reduceLT,Int.reduceNeg,reduceMod,zac,zad,zab,zaa,gT,TK.isInt,TK.agg,Array.toList,h1b,h5b,h13b,h14b,h15b,h6b,h7b,h26b,h27b,h28b,ht2.top,zkT,hrr,hpl,zbs,hge2]
   refine ⟨by kernel_rfl,h,h,zaf (zhU _ _ ha.1 hb.1 (by omega)) ?_⟩
   simp (maxSteps:=5000000) -dsimp only [↓gp,gq,reduceCtorEq,reduceEqDiff,reduceLT,reduceLeDiff,reduceAdd,reduceMul,reduceSub,Nat.reduceBEq,Int.reduceToNat,Int.reduceLE,Int.reduceLT,Int.reduceNeg,reduceMod,zac,zad,zab,zaa,gT,TK.isInt,TK.agg,Array.toList,h1b,h5b,h13b,h14b,h15b,h6b,h7b,h26b,h27b,h28b,ht2.top,zkT,hrr,hpl,zbs,hge2]
   refine ⟨h2,by omega,by kernel_rfl,zag (j + 1) ⟨(by (first | (simp (maxSteps:=5000000) -dsimp only [gr,reduceEqDiff,reduceLT,reduceAdd,reduceMod,Nat.reduceBEq,zaa,zac,zad,zab,h1b,h5b,h13b,h14b,h15b,h6b,h7b,h26b,h27b,h28b,zae h2 (by omega)];first | done | rfl | (simp;done)) | assumption | rfl)),(by (first | (simp (maxSteps:=5000000) -dsimp only [gr,reduceEqDiff,reduceLT,reduceAdd,reduceMod,Nat.reduceBEq,zaa,zac,zad,zab,h1b,h5b,h13b,h14b,h15b,h6b,h7b,h26b,h27b,h28b,zae h2 (by omega)];first | done | rfl | (simp;done)) | assumption | rfl)),(by (first | (simp (maxSteps:=5000000) -dsimp only [gr,reduceEqDiff,reduceLT,reduceAdd,reduceMod,Nat.reduceBEq,zaa,zac,zad,zab,h1b,h5b,h13b,h14b,h15b,h6b,h7b,h26b,h27b,h28b,zae h2 (by omega)];first | done | rfl | (simp;done)) | assumption | rfl)),(by (first | (simp (maxSteps:=5000000) -dsimp only [gr,reduceEqDiff,reduceLT,reduceAdd,reduceMod,Nat.reduceBEq,zaa,zac,zad,zab,h1b,h5b,h13b,h14b,h15b,h6b,h7b,h26b,h27b,h28b,zae h2 (by omega)];first | done | rfl | (simp;done)) | assumption | rfl)),(by (first | (simp (maxSteps:=5000000) -dsimp only [gr,reduceEqDiff,reduceLT,reduceAdd,reduceMod,Nat.reduceBEq,zaa,zac,zad,zab,h1b,h5b,h13b,h14b,h15b,h6b,h7b,h26b,h27b,h28b,zae h2 (by omega)];first | done | rfl | (simp;done)) | assumption | rfl)),(by (first | (simp (maxSteps:=5000000) -dsimp only [gr,reduceEqDiff,reduceLT,reduceAdd,reduceMod,Nat.reduceBEq,zaa,zac,zad,zab,h1b,h5b,h13b,h14b,h15b,h6b,h7b,h26b,h27b,h28b,zae h2 (by omega)];first | done | rfl | (simp;done)) | assumption | rfl)),(by (first | (simp (maxSteps:=5000000) -dsimp only [gr,reduceEqDiff,reduceLT,reduceAdd,reduceMod,Nat.reduceBEq,zaa,zac,zad,zab,h1b,h5b,h13b,h14b,h15b,h6b,h7b,h26b,h27b,h28b,zae h2 (by omega)];first | done | rfl | (simp;done)) | assumption | rfl)),(by (first | (simp (maxSteps:=5000000) -dsimp only [gr,reduceEqDiff,reduceLT,reduceAdd,reduceMod,Nat.reduceBEq,zaa,zac,zad,zab,h1b,h5b,h13b,h14b,h15b,h6b,h7b,h26b,h27b,h28b,zae h2 (by omega)];first | done | rfl | (simp;done)) | assumption | rfl)),(by (first | (simp (maxSteps:=5000000) -dsimp only [gr,reduceEqDiff,reduceLT,reduceAdd,reduceMod,Nat.reduceBEq,zaa,zac,zad,zab,h1b,h5b,h13b,h14b,h15b,h6b,h7b,h26b,h27b,h28b,zae h2 (by omega)];first | done | rfl | (simp;done)) | assumption | rfl)),(by (first | (simp (maxSteps:=5000000) -dsimp only [gr,reduceEqDiff,reduceLT,reduceAdd,reduceMod,Nat.reduceBEq,zaa,zac,zad,zab,h1b,h5b,h13b,h14b,h15b,h6b,h7b,h26b,h27b,h28b,zae h2 (by omega)];first | done | rfl | (simp;done)) | assumption | rfl)),⟨by omega,?_⟩⟩ (by first | omega | (simp only;omega) | (dsimp only;omega) | (show _ < _;simp;omega))⟩
   have e:zbY (lo.take i) hi ++ [prt (hi.map fun b=>zgc (lo.getD i 0) b) (List.replicate hi.length 0) (j + 1)] = (zbY (lo.take i) hi ++ [prt (hi.map fun b=>zgc (lo.getD i 0) b) (List.replicate hi.length 0) j]).set i ((prt (hi.map fun b=>zgc (lo.getD i 0) b) (List.replicate hi.length 0) j).set j (zgc (lo.getD i 0) (hi.getD j 0))):=by
    rw [zuK hlen,← zD9 h h2,zf3 hnl (by simpa using h2)]
   rw [e]
   exact ht2.set (by omega) (by simp (maxSteps:=5000000) -dsimp only [gr,reduceEqDiff,reduceLT,reduceAdd,reduceMod,Nat.reduceBEq,zaa,zac,zad,zab,h1b,h5b,h13b,h14b,h15b,h6b,h7b,h26b,h27b,h28b]) (by simp (maxSteps:=5000000) -dsimp only [gr,reduceEqDiff,reduceLT,reduceAdd,reduceMod,Nat.reduceBEq,zaa,zac,zad,zab,h1b,h5b,h13b,h14b,h15b,h6b,h7b,h26b,h27b,h28b]) (fun x hx=>by simp (maxSteps:=5000000) -dsimp only [gr,reduceEqDiff,reduceLT,reduceAdd,reduceMod,Nat.reduceBEq,zaa,zac,zad,zab,h1b,h5b,h13b,h14b,h15b,h6b,h7b,h26b,h27b,h28b,hx])
  ·have:j = hi.length:=by omega
   subst this
   refine zag (i + 1) ⟨(by (first | (simp (maxSteps:=5000000) -dsimp only [gr,reduceEqDiff,reduceLT,reduceAdd,reduceMod,Nat.reduceBEq,zaa,zac,zad,zab,h1a,h5a,h13a,h14a,h15a,h1b,h5b,h13b,h14b,h15b,h6b,h7b,h26b,h27b,h28b,zae h (by omega)];first | done | rfl | (simp;done)) | assumption | rfl)),(by (first | (simp (maxSteps:=5000000) -dsimp only [gr,reduceEqDiff,reduceLT,reduceAdd,reduceMod,Nat.reduceBEq,zaa,zac,zad,zab,h1a,h5a,h13a,h14a,h15a,h1b,h5b,h13b,h14b,h15b,h6b,h7b,h26b,h27b,h28b,zae h (by omega)];first | done | rfl | (simp;done)) | assumption | rfl)),(by (first | (simp (maxSteps:=5000000) -dsimp only [gr,reduceEqDiff,reduceLT,reduceAdd,reduceMod,Nat.reduceBEq,zaa,zac,zad,zab,h1a,h5a,h13a,h14a,h15a,h1b,h5b,h13b,h14b,h15b,h6b,h7b,h26b,h27b,h28b,zae h (by omega)];first | done | rfl | (simp;done)) | assumption | rfl)),(by (first | (simp (maxSteps:=5000000) -dsimp only [gr,reduceEqDiff,reduceLT,reduceAdd,reduceMod,Nat.reduceBEq,zaa,zac,zad,zab,h1a,h5a,h13a,h14a,h15a,h1b,h5b,h13b,h14b,h15b,h6b,h7b,h26b,h27b,h28b,zae h (by omega)];first | done | rfl | (simp;done)) | assumption | rfl)),(by (first | (simp (maxSteps:=5000000) -dsimp only [gr,reduceEqDiff,reduceLT,reduceAdd,reduceMod,Nat.reduceBEq,zaa,zac,zad,zab,h1a,h5a,h13a,h14a,h15a,h1b,h5b,h13b,h14b,h15b,h6b,h7b,h26b,h27b,h28b,zae h (by omega)];first | done | rfl | (simp;done)) | assumption | rfl)),⟨by omega,?_⟩⟩ (by first | omega | (simp only;omega) | (dsimp only;omega) | (show _ < _;simp;omega))
   have e:prt (hi.map fun b=>zgc (lo.getD i 0) b) (List.replicate hi.length 0) hi.length = hi.map fun b=>zgc (lo.getD i 0) b:=by
    have:=zf2 hnl
    simpa using this
   have ht3:=ht2
   rw [e,znc h] at ht3
   exact ht3.same (by simp (maxSteps:=5000000) -dsimp only [gr,reduceEqDiff,reduceLT,reduceAdd,reduceMod,Nat.reduceBEq,zaa,zac,zad,zab]) (fun x=>by simp (maxSteps:=5000000) -dsimp only [gr,reduceEqDiff,reduceLT,reduceAdd,reduceMod,Nat.reduceBEq,zaa,zac,zad,zab])
 ·have:i = lo.length:=by omega
  subst this
  rw [List.take_length] at ht
  exact zg6 ht.done (by decide) (fun j hj=>by have:=List.mem_range.1 hj;omega)
noncomputable def rkL (f:Nat→Bool) (p:Int) (k:Nat):List Int:=(List.range (zcb f + 1)).map fun j=>if j < k then (rkF f p j:Int) else 0
theorem zwd (f:Nat→Bool) (p:Int) (k:Nat):(rkL f p k).length = zcb f + 1:=by simp [rkL]
theorem zBp (f:Nat→Bool) (p:Int) {k j:Nat} (h:j < zcb f + 1):(rkL f p k).getD j 0 = if j < k then (rkF f p j:Int) else 0:=by simp [rkL,List.getD,h]
theorem zD7 (f:Nat→Bool) (p:Int):List.replicate (zcb f + 1) 0 = rkL f p 1:=by
 refine List.ext_getElem (by simp [rkL]) fun j a b=>?_
 simp only [List.getElem_replicate,rkL,List.getElem_map,List.getElem_range]
 split
 ·have:j = 0:=by omega
  subst this;simp [rkF]
 ·rfl
theorem zD8 (f:Nat→Bool) (p:Int) {k:Nat} (h:k < zcb f):(rkL f p k).set k (rkF f p k) = rkL f p (k + 1):=by
 refine List.ext_getElem (by simp [rkL]) fun j a b=>?_
 rw [List.getElem_set]
 simp only [rkL,List.getElem_map,List.getElem_range]
 by_cases e:k = j
 ·subst e;simp
 ·rw [if_neg e]
  by_cases h1:j < k
  ·rw [if_pos h1,if_pos (by omega)]
  ·rw [if_neg h1,if_neg (by omega)]
theorem zly (f:Nat→Bool) (p:Int) (hp:isP p = true):AC Tryz.prog 216 [u64 (zaH f 64:Nat),int p] (.fr 3 1 (iL (zfy f p))):=by
 refine AC.go (rs:=[.tmp 4]) za3 zav Tryz.func216 rfl rfl rfl (by kernel_rfl) fun hl=>?_
 have hd:=ze6 f
 have hsl:=zod f
 simp (maxSteps:=5000000) -dsimp only [↓gp,gq,reduceCtorEq,reduceEqDiff,reduceLT,reduceLeDiff,reduceAdd,reduceMul,reduceSub,Nat.reduceBEq,Int.reduceToNat,Int.reduceLE,Int.reduceLT,Int.reduceNeg,reduceMod,zac,zad,zab,zaa,gT,TK.isInt,TK.agg,Array.toList]
 refine zaf (zoe f) ?_
 have hw:IntKind.i64.wrap ((zcb f:Int) + 1) = ((zcb f + 1:Nat):Int):=by rw [zap (by omega) (by omega)];rfl
 simp (maxSteps:=5000000) -dsimp only [↓gp,gq,reduceCtorEq,reduceEqDiff,reduceLT,reduceLeDiff,reduceAdd,reduceMul,reduceSub,Nat.reduceBEq,Int.reduceToNat,Int.reduceLE,Int.reduceLT,Int.reduceNeg,reduceMod,zac,zad,zab,zaa,gT,TK.isInt,TK.agg,Array.toList,hsl,hw]
 refine ⟨by omega,by omega,?_⟩
 refine zan (fun (za:Nat × Nat × Nat) s=>match za with | (k,v,w)=>s.sl 1 = int p∧s.sl 5 = .own 11 v∧s.rw 11 = ⟨v,.sli 25 1 false (iLL (zit f))⟩∧s.sl 6 = .own 15 w∧s.rw 15 = ⟨w,.sli 3 1 false (iL (rkL f p k))⟩∧s.sl 7 = int k∧(1 ≤ k∧k ≤ zcb f + 1∧(k ≤ zcb f ∨ zcb f = 0))) (fun (k,v,w)=>zcb f + 1 - k) ((1,1,1)) (by refine ⟨?_,?_,?_,?_,?_,?_,by simp;omega⟩ <;> (first | (simp (maxSteps:=5000000) -dsimp only [gr,reduceEqDiff,reduceLT,reduceAdd,reduceMod,Nat.reduceBEq,zaa,zac,zad,zab,hsl,hw,zD7 f p,zcN];first | done | rfl | (simp;done)) | assumption | rfl)) ?_
 intro (k,v,w) sa ⟨h1a,h5a,r11a,h6a,r15a,h7a,hIa⟩
 obtain ⟨hk1,hk2,hk3⟩:=hIa
 have hrl:=zwd f p k
 simp (maxSteps:=5000000) -dsimp only [↓gp,gq,reduceCtorEq,reduceEqDiff,reduceLT,reduceLeDiff,reduceAdd,reduceMul,reduceSub,Nat.reduceBEq,Int.reduceToNat,Int.reduceLE,Int.reduceLT,Int.reduceNeg,reduceMod,zac,zad,zab,zaa,gT,TK.isInt,TK.agg,Array.toList,h1a,h5a,r11a,h6a,r15a,h7a,hsl,hrl]
 refine ⟨fun h=>?_,fun h=>?_⟩
 ·have hwk:IntKind.i64.wrap ((k:Int) - 1) = ((k - 1:Nat):Int):=by rw [zap (by omega) (by omega)];omega
  have hg1:=zga f (k:=k - 1) (by omega)
  have hg2:=zga f h
  have ho1:=zcL f (k - 1) (Nat.le_refl 64)
  have ho2:=zcL f k (Nat.le_refl 64)
  simp (maxSteps:=5000000) -dsimp only [↓gp,gq,reduceCtorEq,reduceEqDiff,reduceLT,reduceLeDiff,reduceAdd,reduceMul,reduceSub,Nat.reduceBEq,Int.reduceToNat,Int.reduceLE,Int.reduceLT,Int.reduceNeg,reduceMod,zac,zad,zab,zaa,gT,TK.isInt,TK.agg,Array.toList,h1a,h5a,r11a,h6a,r15a,h7a,hsl,hrl,hwk,hg1,hg2]
  refine ⟨by kernel_rfl,by omega,by omega,h,h,zaf (zla (zaX f (k - 1) 64) (zaX f k 64) (k - 1) ho1 ho2 (fun i hi=>?_) (fun i hi=>?_)) ?_⟩
  ·have:=zfo.1 (zaD 0 hi);exact ⟨this.1,this.2.2⟩
  ·have:=zfo.1 (zaD 0 hi);exact ⟨this.1,by omega⟩
  ·simp (maxSteps:=5000000) -dsimp only [↓gp,gq,reduceCtorEq,reduceEqDiff,reduceLT,reduceLeDiff,reduceAdd,reduceMul,reduceSub,Nat.reduceBEq,Int.reduceToNat,Int.reduceLE,Int.reduceLT,Int.reduceNeg,reduceMod,zac,zad,zab,zaa,gT,TK.isInt,TK.agg,Array.toList,h1a,h5a,r11a,h6a,r15a,h7a,hsl,hrl,hwk,hg1,hg2]
   have hrk:znZ p (zbY (zaX f (k - 1) 64) (zaX f k 64)) = rkF f p k:=by unfold rkF;rw [if_neg (by omega)]
   have hb1:=zck (zaX f (k - 1) 64) (zaX f k 64)
   have hb3:=zm5 (zaX f (k - 1) 64) (zaX f k 64)
   refine zaf (zof _ p hp (by omega) (zm4 _ _) (by omega)) ?_
   rw [hrk]
   have hset:=zD8 f p h
   simp (maxSteps:=5000000) -dsimp only [↓gp,gq,reduceCtorEq,reduceEqDiff,reduceLT,reduceLeDiff,reduceAdd,reduceMul,reduceSub,Nat.reduceBEq,Int.reduceToNat,Int.reduceLE,Int.reduceLT,Int.reduceNeg,reduceMod,zac,zad,zab,zaa,gT,TK.isInt,TK.agg,Array.toList,h1a,h5a,r11a,h6a,r15a,h7a,hsl,hrl,hwk,hg1,hg2,hset]
   refine ⟨by omega,by omega,by kernel_rfl,?_⟩
   exact zag ((k + 1,v,w)) (by refine ⟨?_,?_,?_,?_,?_,?_,⟨by dsimp only;omega,by dsimp only;omega,by dsimp only;omega⟩⟩ <;> (first | (simp (maxSteps:=5000000) -dsimp only [gr,reduceEqDiff,reduceLT,reduceAdd,reduceMod,Nat.reduceBEq,zaa,zac,zad,zab,h1a,h5a,r11a,h6a,r15a,h7a,zae h (by omega),hwk,hg1,hg2,hset];first | done | rfl | (simp;done)) | assumption | rfl)) (by first | omega | (simp only;omega) | (dsimp only;omega) | (show _ < _;simp;omega))
 ·have hrk:∀ j,j < zcb f + 1→(rkL f p k).getD j 0 = (rkF f p j:Int):=fun j hj=>by
   rw [zBp f p hj]
   split
   ·rfl
   ·rw [zzX (by omega)];rfl
  generalize rkL f p k = rk at *
  refine ⟨by omega,by omega,?_⟩
  refine zan (fun (zb:Nat × Nat × Nat × Nat) s=>match zb with | (k,v,w,u)=>s.sl 5 = .own 11 v∧s.rw 11 = ⟨v,.sli 25 1 false (iLL (zit f))⟩∧s.sl 6 = .own 15 w∧s.rw 15 = ⟨w,.sli 3 1 false (iL rk)⟩∧s.sl 8 = .own 39 u∧s.rw 39 = ⟨u,.sli 3 1 false (iL (prt (zfy f p) (List.replicate (zcb f) 0) k))⟩∧s.sl 41 = int (zcb f:Nat)∧s.sl 42 = int k∧(k ≤ zcb f)) (fun (k,v,w,u)=>zcb f - k) ((0,v,w,(sa.rw 39).ver + 1)) (by refine ⟨?_,?_,?_,?_,?_,?_,?_,?_,by omega⟩ <;> (first | (simp (maxSteps:=5000000) -dsimp only [gr,reduceEqDiff,reduceLT,reduceAdd,reduceMod,Nat.reduceBEq,zaa,zac,zad,zab,h1a,h5a,r11a,h6a,r15a,h7a,hsl,zet,zcN];first | done | rfl | (simp;done)) | assumption | rfl)) ?_
  intro (k,v,w,u) sb ⟨h5b,r11b,h6b,r15b,h8b,r39b,h41b,h42b,hIb⟩
  have hnl:(zfy f p).length = (List.replicate (zcb f) (0:Int)).length:=by simp [zbF]
  have hpl:(prt (zfy f p) (List.replicate (zcb f) 0) k).length = zcb f:=by rw [zcI hnl];simp
  by_cases h2:k < zcb f
  ·have hwk:=zae h2 (by omega)
   have hg1:=zga f h2
   have ho1:=zcL f k (Nat.le_refl 64)
   have hr1:=zm6 f p k
   have hr2:=zm6 f p (k + 1)
   have hw1:IntKind.i64.wrap (((zaX f k 64).length:Int) - (rkF f p k:Int)) = ((zaX f k 64).length:Int) - (rkF f p k:Int):=zap (by omega) (by omega)
   have hw2:IntKind.i64.wrap (((zaX f k 64).length:Int) - (rkF f p k:Int) - (rkF f p (k + 1):Int)) = ((zaX f k 64).length:Int) - (rkF f p k:Int) - (rkF f p (k + 1):Int):=zap (by omega) (by omega)
   have hk1:=hrk k (by omega)
   have hk2:=hrk (k + 1) (by omega)
   have hset:(prt (zfy f p) (List.replicate (zcb f) 0) k).set k (((zaX f k 64).length:Int) - rkF f p k - rkF f p (k + 1)) = prt (zfy f p) (List.replicate (zcb f) 0) (k + 1):=by
    rw [← zhd f p h2,zf3 hnl (by simpa using h2)]
   simp (maxSteps:=5000000) -dsimp only [↓gp,gq,reduceCtorEq,reduceEqDiff,reduceLT,reduceLeDiff,reduceAdd,reduceMul,reduceSub,Nat.reduceBEq,Int.reduceToNat,Int.reduceLE,Int.reduceLT,Int.reduceNeg,reduceMod,zac,zad,zab,zaa,gT,TK.isInt,TK.agg,Array.toList,h5b,r11b,h6b,r15b,h8b,r39b,h41b,h42b,hsl,hrl,hpl,hwk,hg1,zak,hk1,hk2,hw1,hw2,hset]
   refine ⟨fun _=>⟨by kernel_rfl,h2,h2,by omega,by omega,by omega,by omega,h2,by omega,by kernel_rfl,?_⟩,fun h3=>absurd h2 h3⟩
   exact zag ((k + 1,v,w,u)) (by refine ⟨?_,?_,?_,?_,?_,?_,?_,?_,by dsimp only;omega⟩ <;> (first | (simp (maxSteps:=5000000) -dsimp only [gr,reduceEqDiff,reduceLT,reduceAdd,reduceMod,Nat.reduceBEq,zaa,zac,zad,zab,h5b,r11b,h6b,r15b,h8b,r39b,h41b,h42b,hwk,hg1,hk1,hk2,hw1,hw2,hset];first | done | rfl | (simp;done)) | assumption | rfl)) (by first | omega | (simp only;omega) | (dsimp only;omega) | (show _ < _;simp;omega))
  ·simp (maxSteps:=5000000) -dsimp only [↓gp,gq,reduceCtorEq,reduceEqDiff,reduceLT,reduceLeDiff,reduceAdd,reduceMul,reduceSub,Nat.reduceBEq,Int.reduceToNat,Int.reduceLE,Int.reduceLT,Int.reduceNeg,reduceMod,zac,zad,zab,zaa,gT,TK.isInt,TK.agg,Array.toList,h5b,r11b,h6b,r15b,h8b,r39b,h41b,h42b,hsl,hrl,hpl]
   refine ⟨fun h3=>absurd h3 h2,fun _=>?_⟩
   have e:k = (List.replicate (zcb f) (0:Int)).length:=by simp;omega
   have:=zf2 hnl
   rw [← e] at this
   rw [this]
noncomputable def zwq (n:Int) (xs:List Int):Bool:=zjA n xs && !(xs.length == 0)
theorem zdO {n:Int} {xs:List Int}:zwq n xs = true ↔ zjA n xs = true∧0 < xs.length:=by
 unfold zwq
 cases zjA n xs <;> simp [Nat.pos_iff_ne_zero]
noncomputable def zGj (n:Int) (xs:List Int):Int:=if zwq n xs = true then (zat (xs.getD (xs.length - 1) 0).toNat:Int) - 1 else -2
theorem zzV (n:Int) (xs:List Int):decide (zGj n xs < -1) = !zwq n xs:=by
 unfold zGj
 cases zwq n xs <;> simp;omega
theorem zq4 (n:Int) (xs:List Int):AC Tryz.prog 42 [.ag [int n,zaN xs]] (.im (int (zGj n xs))):=by
 refine AC.go (rs:=[.tmp 2]) za3 zav Tryz.func42 rfl rfl rfl (by kernel_rfl) fun hl=>?_
 simp only [zaK,za7,and_true,zbv,zcC,zbR,true_and] at hl
 simp (maxSteps:=5000000) -dsimp only [↓gp,gq,reduceCtorEq,reduceEqDiff,reduceLT,reduceLeDiff,reduceAdd,reduceMul,reduceSub,Nat.reduceBEq,Int.reduceToNat,Int.reduceLE,Int.reduceLT,Int.reduceNeg,reduceMod,zac,zad,zab,zaa,gT,TK.isInt,TK.agg,Array.toList]
 refine zaf (zcW n xs) ?_
 have hw:0 < xs.length→IntKind.i64.wrap ((xs.length:Int) - 1) = ((xs.length - 1:Nat):Int):=fun h=>by rw [zap (by omega) (by omega)];omega
 by_cases hh:zwq n xs = true
 ·obtain ⟨h1,h2⟩:=zdO.1 hh
  have hs:=zk7 (zsg h1) (k:=xs.length - 1) (by omega)
  have hc:=zb8 (s:=xs.getD (xs.length - 1) 0) hs.1 (by omega)
  have hz:((xs.length:Int) == 0) = false:=by rw [beq_eq_false_iff_ne];omega
  have hp:=zcw (s:=(xs.getD (xs.length - 1) 0).toNat) (by omega)
  simp (maxSteps:=5000000) -dsimp only [↓gp,gq,reduceCtorEq,reduceEqDiff,reduceLT,reduceLeDiff,reduceAdd,reduceMul,reduceSub,Nat.reduceBEq,Int.reduceToNat,Int.reduceLE,Int.reduceLT,Int.reduceNeg,reduceMod,zac,zad,zab,zaa,gT,TK.isInt,TK.agg,Array.toList,h1,hz,hw h2,Int.toNat_natCast]
  refine ⟨by omega,by omega,zaf hc ?_⟩
  have hw2:IntKind.i64.wrap ((zat (xs.getD (xs.length - 1) 0).toNat:Int) - 1) = (zat (xs.getD (xs.length - 1) 0).toNat:Int) - 1:=zap (by omega) (by omega)
  have hd:zGj n xs = (zat (xs.getD (xs.length - 1) 0).toNat:Int) - 1:=if_pos hh
  simp (maxSteps:=5000000) -dsimp only [↓gp,gq,reduceCtorEq,reduceEqDiff,reduceLT,reduceLeDiff,reduceAdd,reduceMul,reduceSub,Nat.reduceBEq,Int.reduceToNat,Int.reduceLE,Int.reduceLT,Int.reduceNeg,reduceMod,zac,zad,zab,zaa,gT,TK.isInt,TK.agg,Array.toList,hw2,hd]
 ·have hd:zGj n xs = -2:=if_neg hh
  rw [hd]
  simp (maxSteps:=5000000) -dsimp only [↓gp,gq,reduceCtorEq,reduceEqDiff,reduceLT,reduceLeDiff,reduceAdd,reduceMul,reduceSub,Nat.reduceBEq,Int.reduceToNat,Int.reduceLE,Int.reduceLT,Int.reduceNeg,reduceMod,zac,zad,zab,zaa,gT,TK.isInt,TK.agg,Array.toList]
  exact fun hc h0=>absurd (zdO.2 ⟨by simpa using hc,by simp at h0;exact List.length_pos_iff.2 h0⟩) hh
theorem zhf (n:Int) (xs:List Int) (hx:okS xs):AC Tryz.prog 153 [int n,zaN xs] (.ag [.im (int n),.fr 3 1 (iL (ofN (ziq (inF xs) true)))]):=by
 refine AC.go (rs:=[.cell 4 27]) za3 zav Tryz.func153 rfl rfl rfl (by kernel_rfl) fun hl=>?_
 simp (maxSteps:=5000000) -dsimp only [↓gp,gq,reduceCtorEq,reduceEqDiff,reduceLT,reduceLeDiff,reduceAdd,reduceMul,reduceSub,Nat.reduceBEq,Int.reduceToNat,Int.reduceLE,Int.reduceLT,Int.reduceNeg,reduceMod,zac,zad,zab,zaa,gT,TK.isInt,TK.agg,Array.toList]
 refine zaf (zeD true xs hx) ?_
 simp (maxSteps:=5000000) -dsimp only [↓gp,gq,reduceCtorEq,reduceEqDiff,reduceLT,reduceLeDiff,reduceAdd,reduceMul,reduceSub,Nat.reduceBEq,Int.reduceToNat,Int.reduceLE,Int.reduceLT,Int.reduceNeg,reduceMod,zac,zad,zab,zaa,gT,TK.isInt,TK.agg,Array.toList]
theorem zk8 (n:Int) (xs:List Int) (w:Nat) (hw:w < 64) (hx:okS xs) (hlen:xs.length ≤ 1000):AC Tryz.prog 199 [.ag [int n,zaN xs],int w] (.ag [.im (int n),.fr 3 1 (iL (ofN (ziq (inF (xs.map fun x=>zb4 .i64 x w)) true)))]):=by
 refine AC.go (rs:=[.cell 4 27]) za3 zav Tryz.func199 rfl rfl rfl (by kernel_rfl) fun hl=>?_
 simp only [zaK,za7,and_true,zbv,zcC,zbR,true_and] at hl
 simp (maxSteps:=5000000) -dsimp only [↓gp,gq,reduceCtorEq,reduceEqDiff,reduceLT,reduceLeDiff,reduceAdd,reduceMul,reduceSub,Nat.reduceBEq,Int.reduceToNat,Int.reduceLE,Int.reduceLT,Int.reduceNeg,reduceMod,zac,zad,zab,zaa,gT,TK.isInt,TK.agg,Array.toList]
 have hmap:∀ k,k < xs.length→(xs.take (k + 1)).map (fun x=>zb4 .i64 x w) = (xs.take k).map (fun x=>zb4 .i64 x w) ++ [zb4 .i64 (xs.getD k 0) w]:=fun k h=>by rw [zba 0 h];simp
 refine zan (fun (za:Nat × Nat) s=>match za with | (k,v)=>s.sl 1 = int w∧s.sl 2 = .ref 2 1 0∧s.rw 2 = ⟨1,.box 27 [int n,zaN xs]⟩∧s.sl 4 = .ref 4 1 0∧s.rw 4 = ⟨1,.box 27 [int 0,.v (.slice none 0 0)]⟩∧s.sl 5 = .own 7 v∧s.rw 7 = ⟨v,.sli 3 1 false (iL ((xs.take k).map fun x=>zb4 .i64 x w))⟩∧s.sl 6 = int k∧(k ≤ xs.length)) (fun (k,v)=>xs.length - k) ((0,1)) (by refine ⟨?_,?_,?_,?_,?_,?_,?_,?_,by simp⟩ <;> (first | (simp (maxSteps:=5000000) -dsimp only [gr,reduceEqDiff,reduceLT,reduceAdd,reduceMod,Nat.reduceBEq,zaa,zac,zad,zab];first | done | rfl | (simp;done)) | assumption | rfl)) ?_
 intro (k,v) sa ⟨h1a,h2a,r2a,h4a,r4a,h5a,r7a,h6a,hIa⟩
 simp (maxSteps:=5000000) -dsimp only [↓gp,gq,reduceCtorEq,reduceEqDiff,reduceLT,reduceLeDiff,reduceAdd,reduceMul,reduceSub,Nat.reduceBEq,Int.reduceToNat,Int.reduceLE,Int.reduceLT,Int.reduceNeg,reduceMod,zac,zad,zab,zaa,gT,TK.isInt,TK.agg,Array.toList,h1a,h2a,r2a,h4a,r4a,h5a,r7a,h6a]
 refine ⟨fun h=>⟨h,h,by rw [List.length_map,List.length_take];omega,zag ((k + 1,v + 1)) (by refine ⟨?_,?_,?_,?_,?_,?_,?_,?_,by omega⟩ <;> (first | (simp (maxSteps:=5000000) -dsimp only [gr,reduceEqDiff,reduceLT,reduceAdd,reduceMod,Nat.reduceBEq,zaa,zac,zad,zab,h1a,h2a,r2a,h4a,r4a,h5a,r7a,h6a,zae h (by omega),hmap k h];first | done | rfl | (simp;done)) | assumption | rfl)) (by first | omega | (simp only;omega) | (dsimp only;omega) | (show _ < _;simp;omega))⟩,fun h=>?_⟩
 have:k = xs.length:=by omega
 subst this
 have ht:xs.take xs.length = xs:=List.take_length
 rw [ht] at r7a
 refine zaf (zhf n _ ?_) ?_
 ·intro x hx'
  obtain ⟨y,hy,rfl⟩:=List.mem_map.1 hx'
  exact zDw (hx y (by rwa [ht] at hy)) (by omega)
 ·simp (maxSteps:=5000000) -dsimp only [↓gp,gq,reduceCtorEq,reduceEqDiff,reduceLT,reduceLeDiff,reduceAdd,reduceMul,reduceSub,Nat.reduceBEq,Int.reduceToNat,Int.reduceLE,Int.reduceLT,Int.reduceNeg,reduceMod,zac,zad,zab,zaa,gT,TK.isInt,TK.agg,Array.toList,h1a,h2a,r2a,h4a,r4a,h5a,r7a,h6a,ht]
theorem zsi {xs:List Int} (hx:okS xs) {w:Nat} (hw:w < 64) (s:Nat):inF (xs.map fun x=>zb4 .i64 x (w:Int)) s = true ↔ ∃ x ∈ xs,x.toNat &&& w = s:=by
 unfold inF
 rw [decide_eq_true_iff,List.mem_map]
 have key:∀ x ∈ xs,zb4 .i64 x (w:Int) = ((x.toNat &&& w:Nat):Int):=fun x h=>by
  have:=hx x h
  rw [← zaQ (by omega) (by omega)]
  congr 1;omega
 exact ⟨fun ⟨x,h1,h2⟩=>⟨x,h1,by rw [key x h1] at h2;omega⟩,fun ⟨x,h1,h2⟩=>⟨x,h1,by rw [key x h1,h2]⟩⟩
noncomputable def zD5 (xs:List Int) (w:Nat):List Int:=ofN (ziq (inF (xs.map fun x=>zb4 .i64 x (w:Int))) true)
theorem zzU {xs:List Int} (hx:okS xs) {w:Nat} (hw:w < 64) {t:Nat} (ht:t < 64):zaI (zD5 xs w) t = za1 (zaI xs) w t:=by
 unfold zD5 za1
 rw [zqN]
 refine Bool.eq_iff_iff.2 ⟨fun h=>?_,fun h=>?_⟩
 ·obtain ⟨s,hs,h2⟩:=List.any_eq_true.1 h
  simp only [Bool.and_eq_true,beq_iff_eq] at h2
  obtain ⟨x,hx1,hx2⟩:=(zsi hx hw s).1 h2.1
  have e1:t &&& s = t:=by rw [Nat.and_comm];exact h2.2
  have e2:s &&& x.toNat = s:=by rw [← hx2,Nat.and_comm,← Nat.and_assoc,Nat.and_self]
  have e3:s &&& w = s:=by rw [← hx2,Nat.and_assoc,Nat.and_self]
  rw [Bool.and_eq_true]
  refine ⟨zd5.2 ⟨x,hx1,by rw [Nat.and_comm];exact ze3 e1 e2⟩,?_⟩
  rw [beq_iff_eq,Nat.and_comm];exact ze3 e1 e3
 ·rw [Bool.and_eq_true,beq_iff_eq] at h
  obtain ⟨x,hx1,hx2⟩:=zd5.1 h.1
  have hlt:x.toNat &&& w < 64:=by
   have:x.toNat &&& w ≤ w:=Nat.and_le_right
   omega
  refine List.any_eq_true.2 ⟨x.toNat &&& w,List.mem_range.2 hlt,?_⟩
  rw [Bool.and_eq_true,beq_iff_eq]
  exact ⟨(zsi hx hw _).2 ⟨x,hx1,rfl⟩,by rw [Nat.and_assoc,h.2,hx2]⟩
theorem zGi {n:Int} {xs:List Int} (h:zjA n xs = true) {w:Nat} (hw:w < 64):zjA n (zD5 xs w) = true:=by
 have hx:=zsg h
 obtain ⟨h1,h6,hk⟩:=zeb.1 h
 refine zgn ⟨h1,h6,fun k hk2=>?_⟩
 unfold zD5 at hk2 ⊢
 rw [zak] at hk2
 have hpw:=zzg (inF (xs.map fun x=>zb4 .i64 x (w:Int))) true
 have hmem:=fun i (hi:i < (ziq (inF (xs.map fun x=>zb4 .i64 x (w:Int))) true).length)=>zg8.1 (zaD 0 hi)
 have hin:=fun i (hi:i < (ziq (inF (xs.map fun x=>zb4 .i64 x (w:Int))) true).length)=>(zsi hx hw _).1 (hmem i hi).1.2
 generalize ziq (inF (xs.map fun x=>zb4 .i64 x (w:Int))) true = ys at *
 have hbef:∀ i j,i < j→j < ys.length→zz9 (ys.getD i 0) (ys.getD j 0):=fun i j hij hj=>by
  have:=List.pairwise_iff_getElem.1 hpw i j (by omega) hj hij
  have a:ys.getD i 0 = ys[i]'(by omega):=by simp [List.getD,show i < ys.length by omega]
  have b:ys.getD j 0 = ys[j]:=by simp [List.getD,hj]
  rw [a,b];exact this
 refine ⟨?_,fun h0=>?_,fun i hi=>?_⟩
 ·obtain ⟨x,hx1,hx2⟩:=hin k hk2
  rw [zaJ hk2]
  obtain ⟨i,hi,rfl⟩:=zbE 0 hx1
  have:=(hk i hi).1
  unfold zcA at this ⊢
  rw [decide_eq_true_iff] at this ⊢
  have hle:ys.getD k 0 ≤ (xs.getD i 0).toNat:=by rw [← hx2];exact Nat.and_le_left
  refine ⟨by omega,by omega,by omega,?_⟩
  omega
 ·rw [zaJ hk2,zaJ (by omega)]
  have hb:=hbef (k - 1) k (by omega) hk2
  have:=(hmem k hk2).1.1
  have:=(hmem (k - 1) (by omega)).1.1
  unfold zln
  unfold zz9 at hb
  rw [zce (by omega),zce (by omega)]
  simp only [Bool.and_eq_true,decide_eq_true_iff]
  refine ⟨by omega,by omega,?_⟩
  split
  ·rw [decide_eq_true_iff];omega
  ·rw [decide_eq_true_iff];omega
 ·have hlti:=(hmem i (by omega)).1.1
  have hltk:=(hmem k hk2).1
  rw [zaJ hk2,zaJ (by omega),zaQ (by omega) (by omega)]
  intro e
  have:=zdm.1 (hmem i (by omega)).2 (ys.getD k 0) hltk.1 hltk.2 (by omega)
  have hb:=hbef i k hi hk2
  rw [this] at hb
  exact zep hb
theorem zCQ {n:Int} {xs:List Int} (h:zjA n xs = true):xs.length ≤ 64:=by
 have hn:=zAp (zeb.1 h)
 have hx:=zsg h
 have h2:(xs.map Int.toNat).Nodup:=by
  refine List.Pairwise.map _ (fun a b=>?_) (List.Pairwise.imp_of_mem (S:=fun a b=>0 ≤ a∧0 ≤ b∧a ≠ b) (fun ha hb hab=>⟨(hx _ ha).1,(hx _ hb).1,hab⟩) hn)
  intro ⟨q1,q2,q3⟩ e
  omega
 refine Classical.byContradiction fun hc=>?_
 have:=(zrU (m:=List.range 64) h2 (fun x hx'=>?_) (by simp;omega)).length_eq
 ·simp at this;omega
 ·obtain ⟨y,hy,rfl⟩:=List.mem_map.1 hx'
  have:=hx y hy
  exact List.mem_range.2 (by omega)
theorem zBo {n:Int} {xs:List Int} (h:zjA n xs = true) {w:Nat} (hw:w < 64) (t:Nat) (ht:t < 64):zc0 n (zD5 xs w) t = za1 (zaI xs) w t:=by
 unfold zc0
 rw [zGi h hw,zzU (zsg h) hw ht];rfl
theorem zD6 {n:Int} {xs:List Int} (h:zjA n xs = true) {w:Nat} (hw:w < 64) {p:Int} (hp:isP p = true):zGy (zc0 n (zD5 xs w)) p = zfy (za1 (zaI xs) w) p:=by
 unfold zGy
 rw [if_pos hp]
 exact zv7 p fun s hs=>zBo h hw s hs
noncomputable def znb (n:Int) (xs:List Int) (p:Int):Mat:=if zwq n xs = true∧isP p = true then zr4 (zaI xs) p n.toNat else []
theorem zfe {n:Int} {xs:List Int} {p:Int} (h:¬ (zwq n xs = true∧isP p = true)):znb n xs p = []:=if_neg h
theorem zCP {n i:Nat} (h:i < n):(List.range n).getD i 0 = i:=by simp [List.getD,h]
theorem zzT {α:Type} (n:Nat) (a:α):List.replicate n a ++ [a] = List.replicate (n + 1) a:=by rw [List.replicate_succ']
theorem zhT (n:Int) (xs:List Int) (p:Int):AC Tryz.prog 155 [.ag [int n,zaN xs],int p] (.tb 25 3 ((znb n xs p).map iL)):=by
 refine AC.go (rs:=[.tmp 4]) za3 zav Tryz.func155 rfl rfl rfl (by kernel_rfl) fun hl=>?_
 simp only [zaK,za7,and_true,zbv,zcC,zbR,true_and] at hl
 simp (maxSteps:=5000000) -dsimp only [↓gp,gq,reduceCtorEq,reduceEqDiff,reduceLT,reduceLeDiff,reduceAdd,reduceMul,reduceSub,Nat.reduceBEq,Int.reduceToNat,Int.reduceLE,Int.reduceLT,Int.reduceNeg,reduceMod,zac,zad,zab,zaa,gT,TK.isInt,TK.agg,Array.toList]
 refine zaf (zq4 n xs) ?_
 have hdt:=zzV n xs
 simp (maxSteps:=5000000) -dsimp only [↓gp,gq,reduceCtorEq,reduceEqDiff,reduceLT,reduceLeDiff,reduceAdd,reduceMul,reduceSub,Nat.reduceBEq,Int.reduceToNat,Int.reduceLE,Int.reduceLT,Int.reduceNeg,reduceMod,zac,zad,zab,zaa,gT,TK.isInt,TK.agg,Array.toList,hdt]
 refine ⟨fun hh=>zaf (zbH p) ?_,fun hh=>?_⟩
 ·have hh:zwq n xs = true:=by simpa using hh
  simp (maxSteps:=5000000) -dsimp only [↓gp,gq,reduceCtorEq,reduceEqDiff,reduceLT,reduceLeDiff,reduceAdd,reduceMul,reduceSub,Nat.reduceBEq,Int.reduceToNat,Int.reduceLE,Int.reduceLT,Int.reduceNeg,reduceMod,zac,zad,zab,zaa,gT,TK.isInt,TK.agg,Array.toList]
  refine ⟨fun hp=>?_,fun hp=>?_⟩
  ·rw [zfe (fun h=>by rw [h.2] at hp;cases hp)]
   exact zg7 (by simp (maxSteps:=5000000) -dsimp only [gr,reduceEqDiff,reduceLT,reduceAdd,reduceMod,Nat.reduceBEq,zaa,zac,zad,zab]) (by decide)
  ·have hp:isP p = true:=by simpa using hp
   have hcx:=(zdO.1 hh).1
   obtain ⟨h1,h6,_⟩:=zeb.1 hcx
   have hb:znb n xs p = zr4 (zaI xs) p n.toNat:=if_pos ⟨hh,hp⟩
   rw [hb]
   have hxo:=zsg hcx
   have hxl:=zCQ hcx
   obtain ⟨m,rfl⟩:∃ m:Nat,n = m:=⟨n.toNat,by omega⟩
   rw [Int.toNat_natCast]
   have h64:=zao (m:=m) (by omega)
   have hsh:zkH .i64 1 (m:Int) = ((2 ^ m:Nat):Int):=za5 (by omega)
   have hun:IntKind.u64.wrap (m:Int) = (m:Int):=za2 (by omega)
   have hm1:IntKind.i64.wrap ((m:Int) + 1) = ((m + 1:Nat):Int):=by rw [zap (by omega) (by omega)];rfl
   refine zuL (k:=11) (v:=1) (e:=25) (e2:=3) (by simp (maxSteps:=5000000) -dsimp only [gr,reduceEqDiff,reduceLT,reduceAdd,reduceMod,Nat.reduceBEq,zaa,zac,zad,zab]) (fun j=>by simp (maxSteps:=5000000) -dsimp only [gr,reduceEqDiff,reduceLT,reduceAdd,reduceMod,Nat.reduceBEq,zaa,zac,zad,zab]) (fun (i:Nat) s=>s.sl 1 = int p∧s.sl 2 = .ref 2 1 0∧s.rw 2 = ⟨1,.box 27 [int (m:Nat),zaN xs]⟩∧s.sl 5 = .own 11 (i + 1)∧s.sl 6 = int i∧(i ≤ m + 1∧TabG s.rw 11 (i + 1) 25 3 i (List.replicate i (List.replicate (m + 1) 0)))) (fun i=>m + 1 - i) (0) (fun sX htX hslX hoX=>(by refine ⟨?_,?_,?_,?_,?_,⟨by omega,htX⟩⟩ <;> (first | (simp (maxSteps:=5000000) -dsimp only [gr,reduceEqDiff,reduceLT,reduceAdd,reduceMod,Nat.reduceBEq,zaa,zac,zad,zab,hslX,hoX];first | done | rfl | (simp;done)) | assumption | rfl))) ?_
   intro i sa ⟨h1a,h2a,r2a,h5a,h6a,hIa⟩
   obtain ⟨hi,ht⟩:=hIa
   simp (maxSteps:=5000000) -dsimp only [↓gp,gq,reduceCtorEq,reduceEqDiff,reduceLT,reduceLeDiff,reduceAdd,reduceMul,reduceSub,Nat.reduceBEq,Int.reduceToNat,Int.reduceLE,Int.reduceLT,Int.reduceNeg,reduceMod,zac,zad,zab,zaa,gT,TK.isInt,TK.agg,Array.toList,h1a,h2a,r2a,h5a,h6a,hm1,Int.toNat_natCast]
   refine ⟨fun h=>⟨by omega,by omega,?_⟩,fun h=>?_⟩
   ·refine zGE ?_
    simp (maxSteps:=5000000) -dsimp only [↓gp,gq,reduceCtorEq,reduceEqDiff,reduceLT,reduceLeDiff,reduceAdd,reduceMul,reduceSub,Nat.reduceBEq,Int.reduceToNat,Int.reduceLE,Int.reduceLT,Int.reduceNeg,reduceMod,zac,zad,zab,zaa,gT,TK.isInt,TK.agg,Array.toList,h1a,h2a,r2a,h5a,h6a,ht.top]
    refine ⟨by omega,?_⟩
    exact zrY (k:=11) (v:=i + 1 + 1) (e:=25) (e2:=3) (n:=i) (d:=31) (vd:=(sa.rw 31).ver + 1) (M:=List.replicate i (List.replicate (m + 1) 0)) (r:=List.replicate (m + 1) 0) (by simp (maxSteps:=5000000) -dsimp only [gr,reduceEqDiff,reduceLT,reduceAdd,reduceMod,Nat.reduceBEq,zaa,zac,zad,zab,ht.top]) (by simp) (fun j hj=>by simp (maxSteps:=5000000) -dsimp only [gr,reduceEqDiff,reduceLT,reduceAdd,reduceMod,Nat.reduceBEq,zaa,zac,zad,zab,ht.row j hj]) (fun j hj=>by simp (maxSteps:=5000000) -dsimp only [gr,reduceEqDiff,reduceLT,reduceAdd,reduceMod,Nat.reduceBEq,zaa,zac,zad,zab,ht.rest j hj]) (by simp (maxSteps:=5000000) -dsimp only [gr,reduceEqDiff,reduceLT,reduceAdd,reduceMod,Nat.reduceBEq,zaa,zac,zad,zab,hm1]) (by decide) (by decide) (i + 1) (fun sX htX hslX hoX=>(by refine ⟨?_,?_,?_,?_,?_,⟨by omega,(zzT i _ ▸ htX:TabG _ _ _ _ _ _ _)⟩⟩ <;> (first | (simp (maxSteps:=5000000) -dsimp only [gr,reduceEqDiff,reduceLT,reduceAdd,reduceMod,Nat.reduceBEq,zaa,zac,zad,zab,hslX,hoX,h1a,h2a,r2a,h5a,h6a,h1a,h2a,r2a,h5a,h6a,zae (show i < m + 1 by omega) (by omega)];first | done | rfl | (simp;done)) | assumption | rfl))) (by first | omega | (simp only;omega) | (dsimp only;omega) | (show _ < _;simp;omega))
   ·have:i = m + 1:=by omega
    subst this
    have htI:=ht.done
    refine zan (fun (w:Nat) s=>s.sl 1 = int p∧s.sl 2 = .ref 2 1 0∧s.rw 2 = ⟨1,.box 27 [int (m:Nat),zaN xs]⟩∧s.sl 5 = .own 11 (m + 1 + 1)∧s.sl 7 = int w∧(w ≤ 2 ^ m∧TabI s.rw 11 (m + 1 + 1) 25 3 (List.range (m + 1)) (zha (zaI xs) p m w))) (fun w=>2 ^ m - w) (0) (by refine ⟨?_,?_,?_,?_,?_,⟨Nat.zero_le _,htI.same (by simp (maxSteps:=5000000) -dsimp only [gr,reduceEqDiff,reduceLT,reduceAdd,reduceMod,Nat.reduceBEq,zaa,zac,zad,zab]) (fun x=>by simp (maxSteps:=5000000) -dsimp only [gr,reduceEqDiff,reduceLT,reduceAdd,reduceMod,Nat.reduceBEq,zaa,zac,zad,zab])⟩⟩ <;> (first | (simp (maxSteps:=5000000) -dsimp only [gr,reduceEqDiff,reduceLT,reduceAdd,reduceMod,Nat.reduceBEq,zaa,zac,zad,zab,h1a,h2a,r2a,h5a,h6a];first | done | rfl | (simp;done)) | assumption | rfl)) ?_
    intro w sb ⟨h1b,h2b,r2b,h5b,h7b,hIb⟩
    obtain ⟨hw,hb2⟩:=hIb
    simp (maxSteps:=5000000) -dsimp only [↓gp,gq,reduceCtorEq,reduceEqDiff,reduceLT,reduceLeDiff,reduceAdd,reduceMul,reduceSub,Nat.reduceBEq,Int.reduceToNat,Int.reduceLE,Int.reduceLT,Int.reduceNeg,reduceMod,zac,zad,zab,zaa,gT,TK.isInt,TK.agg,Array.toList,h1b,h2b,r2b,h5b,h7b,hsh,hun]
    refine ⟨fun h2=>zaf (zaL w (by omega)) ?_,fun h2=>?_⟩
    ·simp (maxSteps:=5000000) -dsimp only [↓gp,gq,reduceCtorEq,reduceEqDiff,reduceLT,reduceLeDiff,reduceAdd,reduceMul,reduceSub,Nat.reduceBEq,Int.reduceToNat,Int.reduceLE,Int.reduceLT,Int.reduceNeg,reduceMod,zac,zad,zab,zaa,gT,TK.isInt,TK.agg,Array.toList,h1b,h2b,r2b,h5b,h7b,hsh,hun]
     refine zaf (zk8 _ xs w (by omega) hxo (by omega)) ?_
     simp (maxSteps:=5000000) -dsimp only [↓gp,gq,reduceCtorEq,reduceEqDiff,reduceLT,reduceLeDiff,reduceAdd,reduceMul,reduceSub,Nat.reduceBEq,Int.reduceToNat,Int.reduceLE,Int.reduceLT,Int.reduceNeg,reduceMod,zac,zad,zab,zaa,gT,TK.isInt,TK.agg,Array.toList,h1b,h2b,r2b,h5b,h7b,hsh,hun]
     refine zaf (zlb _ _ p) ?_
     have hins:=zD6 hcx (w:=w) (by omega) hp
     unfold zD5 at hins
     rw [hins]
     have hpn:=zhc (n:=m) (by omega) h2
     have hsm:=zhb (za1 (zaI xs) w) p
     have hdl:=ze6 (za1 (zaI xs) w)
     have hhl:=zbF (za1 (zaI xs) w) p
     generalize hhs:zfy (za1 (zaI xs) w) p = hs at *
     have hsq:=fun k=>znU (j:=zat w) (znV (zaI xs) p m w) hsm k
     simp (maxSteps:=5000000) -dsimp only [↓gp,gq,reduceCtorEq,reduceEqDiff,reduceLT,reduceLeDiff,reduceAdd,reduceMul,reduceSub,Nat.reduceBEq,Int.reduceToNat,Int.reduceLE,Int.reduceLT,Int.reduceNeg,reduceMod,zac,zad,zab,zaa,gT,TK.isInt,TK.agg,Array.toList,h1b,h2b,r2b,h5b,h7b,hsh,hun]
     refine zan (fun (zc:Nat × Nat) s=>match zc with | (k,u)=>s.sl 1 = int p∧s.sl 2 = .ref 2 1 0∧s.rw 2 = ⟨1,.box 27 [int (m:Nat),zaN xs]⟩∧s.sl 5 = .own 11 (m + 1 + 1)∧s.sl 7 = int w∧s.sl 8 = int (zat w:Nat)∧s.sl 9 = .own 48 u∧s.rw 48 = ⟨u,.sli 3 1 false (iL hs)⟩∧s.sl 10 = int k∧(k ≤ hs.length∧TabI s.rw 11 (m + 1 + 1) 25 3 (List.range (m + 1)) (zg9 (zha (zaI xs) p m w) (zat w) hs k))) (fun (k,u)=>hs.length - k) ((0,(sb.rw 48).ver + 1)) (by refine ⟨?_,?_,?_,?_,?_,?_,?_,?_,?_,⟨by omega,hb2.same (by simp (maxSteps:=5000000) -dsimp only [gr,reduceEqDiff,reduceLT,reduceAdd,reduceMod,Nat.reduceBEq,zaa,zac,zad,zab]) (fun x=>by simp (maxSteps:=5000000) -dsimp only [gr,reduceEqDiff,reduceLT,reduceAdd,reduceMod,Nat.reduceBEq,zaa,zac,zad,zab])⟩⟩ <;> (first | (simp (maxSteps:=5000000) -dsimp only [gr,reduceEqDiff,reduceLT,reduceAdd,reduceMod,Nat.reduceBEq,zaa,zac,zad,zab,h1b,h2b,r2b,h5b,h7b];first | done | rfl | (simp;done)) | assumption | rfl)) ?_
     intro (k,u) sc ⟨h1c,h2c,r2c,h5c,h7c,h8c,h9c,r48c,h10c,hIc⟩
     obtain ⟨hk,hb3⟩:=hIc
     have hend:(k = hs.length ∨ zat w < k)→zg9 (zha (zaI xs) p m w) (zat w) hs k = zha (zaI xs) p m (w + 1):=fun h=>by
      have e0:zha (zaI xs) p m (w + 1) = zg9 (zha (zaI xs) p m w) (zat w) (zfy (za1 (zaI xs) w) p) (zcb (za1 (zaI xs) w)):=rfl
      rw [e0,← hhl,hhs]
      rcases h with h | h
      ·rw [h]
      ·have:=zzi (M:=zha (zaI xs) p m w) (hs:=hs) h (hs.length - k)
       rw [show k + (hs.length - k) = hs.length by omega] at this
       exact this.symm
     by_cases h3:k < hs.length
     ·by_cases h4:k ≤ zat w
      ·have hsq:=hsq k
       have hs1:=hsq.small (zat w - k) (zat w)
       have hs2:=hsm k
       have hml:=hsq.len
       have hrl:=hsq.row (zat w - k) (by omega)
       have hadd:zg9 (zha (zaI xs) p m w) (zat w) hs (k + 1) = zlu (zg9 (zha (zaI xs) p m w) (zat w) hs k) (zat w - k) (zat w) (hs.getD k 0):=by rw [zg9,if_pos h4]
       generalize zg9 (zha (zaI xs) p m w) (zat w) hs k = M at *
       have e1:(List.range (m + 1)).getD (zat w - k) 0 = zat w - k:=zCP (by omega)
       have hrow:=hb3.row (i:=zat w - k) (by omega)
       rw [e1] at hrow
       have hw1:IntKind.i64.wrap ((zat w:Int) - (k:Int)) = ((zat w - k:Nat):Int):=by rw [zap (by omega) (by omega)];omega
       have hw2:IntKind.i64.wrap ((M.getD (zat w - k) []).getD (zat w) 0 + hs.getD k 0) = (M.getD (zat w - k) []).getD (zat w) 0 + hs.getD k 0:=zap (by omega) (by omega)
       simp (maxSteps:=5000000) -dsimp only [↓gp,gq,reduceCtorEq,reduceEqDiff,reduceLT,reduceLeDiff,reduceAdd,reduceMul,reduceSub,Nat.reduceBEq,Int.reduceToNat,Int.reduceLE,Int.reduceLT,Int.reduceNeg,reduceMod,zac,zad,zab,zaa,gT,TK.isInt,TK.agg,Array.toList,h1c,h2c,r2c,h5c,h7c,h8c,h9c,r48c,h10c,hw1,hb3.top,zgJ,e1,hrow,hrl,zaq,List.length_range,hw2]
       refine ⟨fun _=>⟨fun _=>⟨by kernel_rfl,by omega,by omega,by omega,by omega,by omega,by omega,h3,h3,by omega,by omega,by kernel_rfl,?_⟩,fun h=>absurd h4 h⟩,fun h=>absurd h3 h⟩
       exact zag ((k + 1,u)) (by refine ⟨?_,?_,?_,?_,?_,?_,?_,?_,?_,⟨by dsimp only;omega,by
        dsimp only
        rw [hadd]
        exact hb3.set (i:=zat w - k) (by omega) (by simp (maxSteps:=5000000) -dsimp only [gr,reduceEqDiff,reduceLT,reduceAdd,reduceMod,Nat.reduceBEq,zaa,zac,zad,zab]) (by simp (maxSteps:=5000000) -dsimp only [gr,reduceEqDiff,reduceLT,reduceAdd,reduceMod,Nat.reduceBEq,zaa,zac,zad,zab,e1,h1c,h2c,r2c,h5c,h7c,h8c,h9c,r48c,h10c,hb3.top,hrow]) (fun x hx=>by simp (maxSteps:=5000000) -dsimp only [gr,reduceEqDiff,reduceLT,reduceAdd,reduceMod,Nat.reduceBEq,zaa,zac,zad,zab,e1 ▸ hx])⟩⟩ <;> (first | (simp (maxSteps:=5000000) -dsimp only [gr,reduceEqDiff,reduceLT,reduceAdd,reduceMod,Nat.reduceBEq,zaa,zac,zad,zab,h1c,h2c,r2c,h5c,h7c,h8c,h9c,r48c,h10c,zae h3 (by omega)];first | done | rfl | (simp;done)) | assumption | rfl)) (by first | omega | (simp only;omega) | (dsimp only;omega) | (show _ < _;simp;omega))
      ·have e:=hend (.inr (by omega))
       rw [e] at hb3
       simp (maxSteps:=5000000) -dsimp only [↓gp,gq,reduceCtorEq,reduceEqDiff,reduceLT,reduceLeDiff,reduceAdd,reduceMul,reduceSub,Nat.reduceBEq,Int.reduceToNat,Int.reduceLE,Int.reduceLT,Int.reduceNeg,reduceMod,zac,zad,zab,zaa,gT,TK.isInt,TK.agg,Array.toList,h1c,h2c,r2c,h5c,h7c,h8c,h9c,r48c,h10c]
       refine ⟨fun _=>⟨fun h=>absurd h h4,fun _=>?_⟩,fun h=>absurd h3 h⟩
       exact zag (w + 1) (by refine ⟨?_,?_,?_,?_,?_,⟨by omega,hb3.same (by simp (maxSteps:=5000000) -dsimp only [gr,reduceEqDiff,reduceLT,reduceAdd,reduceMod,Nat.reduceBEq,zaa,zac,zad,zab]) (fun x=>by simp (maxSteps:=5000000) -dsimp only [gr,reduceEqDiff,reduceLT,reduceAdd,reduceMod,Nat.reduceBEq,zaa,zac,zad,zab])⟩⟩ <;> (first | (simp (maxSteps:=5000000) -dsimp only [gr,reduceEqDiff,reduceLT,reduceAdd,reduceMod,Nat.reduceBEq,zaa,zac,zad,zab,h1b,h2b,r2b,h5b,h7b,h1c,h2c,r2c,h5c,h7c,h8c,h9c,r48c,h10c,zae h2 (by omega)];first | done | rfl | (simp;done)) | assumption | rfl)) (by first | omega | (simp only;omega) | (dsimp only;omega) | (show _ < _;simp;omega))
     ·have e:=hend (.inl (by omega))
      rw [e] at hb3
      simp (maxSteps:=5000000) -dsimp only [↓gp,gq,reduceCtorEq,reduceEqDiff,reduceLT,reduceLeDiff,reduceAdd,reduceMul,reduceSub,Nat.reduceBEq,Int.reduceToNat,Int.reduceLE,Int.reduceLT,Int.reduceNeg,reduceMod,zac,zad,zab,zaa,gT,TK.isInt,TK.agg,Array.toList,h1c,h2c,r2c,h5c,h7c,h8c,h9c,r48c,h10c]
      refine ⟨fun h=>absurd h h3,fun _=>?_⟩
      exact zag (w + 1) (by refine ⟨?_,?_,?_,?_,?_,⟨by omega,hb3.same (by simp (maxSteps:=5000000) -dsimp only [gr,reduceEqDiff,reduceLT,reduceAdd,reduceMod,Nat.reduceBEq,zaa,zac,zad,zab]) (fun x=>by simp (maxSteps:=5000000) -dsimp only [gr,reduceEqDiff,reduceLT,reduceAdd,reduceMod,Nat.reduceBEq,zaa,zac,zad,zab])⟩⟩ <;> (first | (simp (maxSteps:=5000000) -dsimp only [gr,reduceEqDiff,reduceLT,reduceAdd,reduceMod,Nat.reduceBEq,zaa,zac,zad,zab,h1b,h2b,r2b,h5b,h7b,h1c,h2c,r2c,h5c,h7c,h8c,h9c,r48c,h10c,zae h2 (by omega)];first | done | rfl | (simp;done)) | assumption | rfl)) (by first | omega | (simp only;omega) | (dsimp only;omega) | (show _ < _;simp;omega))
    ·have:w = 2 ^ m:=by omega
     subst this
     exact zg6 hb2 (by decide) (fun j hj=>by have:=List.mem_range.1 hj;omega)
 ·have hh:zwq n xs = false:=by simpa using hh
  rw [zfe (fun h=>by rw [h.1] at hh;cases hh)]
  exact zg7 (by simp (maxSteps:=5000000) -dsimp only [gr,reduceEqDiff,reduceLT,reduceAdd,reduceMod,Nat.reduceBEq,zaa,zac,zad,zab]) (by decide)
def zwe (n:Nat):List Int:=List.replicate n 0
theorem zhY (n:Nat) (hn:n ≤ 100):AC Tryz.prog 215 [int n] (.tb 25 3 (List.replicate (n + 1) (iL (zwe (n + 1))))):=by
 refine AC.go (rs:=[.tmp 2]) za3 zav Tryz.func215 rfl rfl rfl (by kernel_rfl) fun hl=>?_
 have hw:IntKind.i64.wrap ((n:Int) + 1) = ((n + 1:Nat):Int):=by rw [zap (by omega) (by omega)];rfl
 simp (maxSteps:=5000000) -dsimp only [↓gp,gq,reduceCtorEq,reduceEqDiff,reduceLT,reduceLeDiff,reduceAdd,reduceMul,reduceSub,Nat.reduceBEq,Int.reduceToNat,Int.reduceLE,Int.reduceLT,Int.reduceNeg,reduceMod,zac,zad,zab,zaa,gT,TK.isInt,TK.agg,Array.toList,hw,Int.toNat_natCast]
 refine ⟨by omega,by omega,?_⟩
 refine znP (fun (i:Nat) s=>s.sl 0 = int n∧s.sl 3 = .own 7 1∧s.rw 7 = ⟨1,.tab 25 (zho 7 (n + 1) i)⟩∧s.sl 9 = int (n + 1:Nat)∧s.sl 10 = int i∧(i ≤ n + 1∧(∀ j,j < i→s.rw (sid 7 j) = ⟨1,.sli 3 1 false (iL (zwe (n + 1)))⟩)∧∀ j,i ≤ j→s.rw (sid 7 j) = ⟨0,.dead⟩)) (fun i=>n + 1 - i) (0) (Wk.tab (k:=7) (v:=1) (e:=25) (c:=List.replicate (n + 1) (.v (.slice none 0 0))) (by simp (maxSteps:=5000000) -dsimp only [gr,reduceEqDiff,reduceLT,reduceAdd,reduceMod,Nat.reduceBEq,zaa,zac,zad,zab]) (zm0 _)) (by refine ⟨?_,?_,?_,?_,?_,⟨by simp,fun j h=>absurd h (by omega),fun j _=>by simp (maxSteps:=5000000) -dsimp only [gr,reduceEqDiff,reduceLT,reduceAdd,reduceMod,Nat.reduceBEq,zaa,zac,zad,zab]⟩⟩ <;> (first | (simp (maxSteps:=5000000) -dsimp only [gr,reduceEqDiff,reduceLT,reduceAdd,reduceMod,Nat.reduceBEq,zaa,zac,zad,zab,← zqK];first | done | rfl | (simp;done)) | assumption | rfl)) ?_
 intro i sa ⟨h0a,h3a,r7a,h9a,h10a,hIa⟩
 obtain ⟨hi,hlo,hhi⟩:=hIa
 simp (maxSteps:=5000000) -dsimp only [↓gp,gq,reduceCtorEq,reduceEqDiff,reduceLT,reduceLeDiff,reduceAdd,reduceMul,reduceSub,Nat.reduceBEq,Int.reduceToNat,Int.reduceLE,Int.reduceLT,Int.reduceNeg,reduceMod,zac,zad,zab,zaa,gT,TK.isInt,TK.agg,Array.toList,h0a,h3a,r7a,h9a,h10a,hw,zbs,Int.toNat_natCast]
 refine ⟨fun h=>⟨by omega,by omega,h,by omega,?_⟩,fun h=>?_⟩
 ·exact zA2 (i + 1) (Wk.ren (d:=17) (k:=7) (k':=sid 7 i) (v:=(sa.rw 17).ver + 1) (vk:=1) (e:=3) (et:=25) (sz:=1) (c:=iL (zwe (n + 1))) (cs:=spl (zho 7 (n + 1) i) i [.own 17 ((sa.rw 17).ver + 1)]) (cs':=zho 7 (n + 1) (i + 1)) (by simp (maxSteps:=5000000) -dsimp only [gr,reduceEqDiff,reduceLT,reduceAdd,reduceMod,Nat.reduceBEq,zaa,zac,zad,zab,zwe]) (by simp (maxSteps:=5000000) -dsimp only [gr,reduceEqDiff,reduceLT,reduceAdd,reduceMod,Nat.reduceBEq,zaa,zac,zad,zab,h0a,h3a,r7a,h9a,h10a]) (by simp (maxSteps:=5000000) -dsimp only [gr,reduceEqDiff,reduceLT,reduceAdd,reduceMod,Nat.reduceBEq,zaa,zac,zad,zab,hhi i (Nat.le_refl _)]) (by decide) (zuN h)) (by refine ⟨?_,?_,?_,?_,?_,⟨by omega,fun j hj=>(by
   by_cases e:j = i
   ·subst e;simp (maxSteps:=5000000) -dsimp only [gr,reduceEqDiff,reduceLT,reduceAdd,reduceMod,Nat.reduceBEq,zaa,zac,zad,zab]
   ·simp (maxSteps:=5000000) -dsimp only [gr,reduceEqDiff,reduceLT,reduceAdd,reduceMod,Nat.reduceBEq,zaa,zac,zad,zab,e,hlo j (by omega)]),fun j hj=>(by
   have e:¬ j = i:=by omega
   simp (maxSteps:=5000000) -dsimp only [gr,reduceEqDiff,reduceLT,reduceAdd,reduceMod,Nat.reduceBEq,zaa,zac,zad,zab,e,hhi j (by omega)])⟩⟩ <;> (first | (simp (maxSteps:=5000000) -dsimp only [gr,reduceEqDiff,reduceLT,reduceAdd,reduceMod,Nat.reduceBEq,zaa,zac,zad,zab,h0a,h3a,r7a,h9a,h10a,zae h (by omega)];first | done | rfl | (simp;done)) | assumption | rfl)) (by first | omega | (simp only;omega) | (dsimp only;omega) | (show _ < _;simp;omega))
 ·obtain rfl:i = n + 1:=by omega
  refine zA3 (n:=n + 1) (by decide) (by omega) (by rw [r7a,zuM]) (by simp) fun j hj=>?_
  rw [hlo j hj]
  simp [List.getD,hj]
theorem zzS (m:Nat):List.replicate (m + 1) (iL (zwe (m + 1))) = (List.replicate (m + 1) (List.replicate (m + 1) (0:Int))).map iL:=by simp [zwe]
theorem zhS (n:Int) (xs:List Int) (p:Int):AC Tryz.prog 188 [.ag [int n,zaN xs],int p] (.tb 25 3 ((znb n xs p).map iL)):=by
 refine AC.go (rs:=[.tmp 4]) za3 zav Tryz.func188 rfl rfl rfl (by kernel_rfl) fun hl=>?_
 simp only [zaK,za7,and_true,zbv,zcC,zbR,true_and] at hl
 simp (maxSteps:=5000000) -dsimp only [↓gp,gq,reduceCtorEq,reduceEqDiff,reduceLT,reduceLeDiff,reduceAdd,reduceMul,reduceSub,Nat.reduceBEq,Int.reduceToNat,Int.reduceLE,Int.reduceLT,Int.reduceNeg,reduceMod,zac,zad,zab,zaa,gT,TK.isInt,TK.agg,Array.toList]
 refine zaf (ziQ n xs) ?_
 simp (maxSteps:=5000000) -dsimp only [↓gp,gq,reduceCtorEq,reduceEqDiff,reduceLT,reduceLeDiff,reduceAdd,reduceMul,reduceSub,Nat.reduceBEq,Int.reduceToNat,Int.reduceLE,Int.reduceLT,Int.reduceNeg,reduceMod,zac,zad,zab,zaa,gT,TK.isInt,TK.agg,Array.toList]
 refine ⟨fun hc=>⟨fun h0=>zaf (zbI p) ?_,fun h0=>?_⟩,fun hc=>?_⟩
 ·have hcx:zjA n xs = true:=by simpa using hc
  have hh:zwq n xs = true:=zdO.2 ⟨hcx,by simp at h0;exact List.length_pos_iff.2 h0⟩
  simp (maxSteps:=5000000) -dsimp only [↓gp,gq,reduceCtorEq,reduceEqDiff,reduceLT,reduceLeDiff,reduceAdd,reduceMul,reduceSub,Nat.reduceBEq,Int.reduceToNat,Int.reduceLE,Int.reduceLT,Int.reduceNeg,reduceMod,zac,zad,zab,zaa,gT,TK.isInt,TK.agg,Array.toList]
  refine ⟨fun hp=>?_,fun hp=>?_⟩
  ·rw [zfe (fun h=>by rw [h.2] at hp;cases hp)]
   exact zg7 (by simp (maxSteps:=5000000) -dsimp only [gr,reduceEqDiff,reduceLT,reduceAdd,reduceMod,Nat.reduceBEq,zaa,zac,zad,zab]) (by decide)
  ·have hp:isP p = true:=by simpa using hp
   obtain ⟨h1,h6,_⟩:=zeb.1 hcx
   have hb:znb n xs p = zr4 (zaI xs) p n.toNat:=if_pos ⟨hh,hp⟩
   rw [hb]
   have hxo:=zsg hcx
   have hxl:=zCQ hcx
   obtain ⟨m,rfl⟩:∃ m:Nat,n = m:=⟨n.toNat,by omega⟩
   rw [Int.toNat_natCast]
   have h64:=zao (m:=m) (by omega)
   have hsh:zkH .i64 1 (m:Int) = ((2 ^ m:Nat):Int):=za5 (by omega)
   have hun:IntKind.u64.wrap (m:Int) = (m:Int):=za2 (by omega)
   refine zaf (zhY m (by omega)) ?_
   rw [zzS]
   simp (maxSteps:=5000000) -dsimp only [↓gp,gq,reduceCtorEq,reduceEqDiff,reduceLT,reduceLeDiff,reduceAdd,reduceMul,reduceSub,Nat.reduceBEq,Int.reduceToNat,Int.reduceLE,Int.reduceLT,Int.reduceNeg,reduceMod,zac,zad,zab,zaa,gT,TK.isInt,TK.agg,Array.toList]
   refine zaf (zlx _ xs hxo) ?_
   simp (maxSteps:=5000000) -dsimp only [↓gp,gq,reduceCtorEq,reduceEqDiff,reduceLT,reduceLeDiff,reduceAdd,reduceMul,reduceSub,Nat.reduceBEq,Int.reduceToNat,Int.reduceLE,Int.reduceLT,Int.reduceNeg,reduceMod,zac,zad,zab,zaa,gT,TK.isInt,TK.agg,Array.toList]
   refine zan (fun (w:Nat) s=>s.sl 1 = int p∧s.sl 2 = .ref 2 1 0∧s.rw 2 = ⟨1,.box 27 [int (m:Nat),zaN xs]⟩∧s.sl 5 = .own 27 1∧s.sl 6 = u64 (zaH (zaI xs) 64:Nat)∧s.sl 7 = int w∧(w ≤ 2 ^ m∧TabI s.rw 27 1 25 3 (List.range (m + 1)) (zha (zaI xs) p m w))) (fun w=>2 ^ m - w) (0) (by refine ⟨?_,?_,?_,?_,?_,?_,⟨Nat.zero_le _,TabI.adopt (d:=27) (by simp only [zeB];rfl) (fun x=>by simp only [zeB];rfl) (fun i hi=>by simp (maxSteps:=5000000) -dsimp only [gr,reduceEqDiff,reduceLT,reduceAdd,reduceMod,Nat.reduceBEq,zaa,zac,zad,zab]) (by simp (maxSteps:=5000000) -dsimp only [gr,reduceEqDiff,reduceLT,reduceAdd,reduceMod,Nat.reduceBEq,zaa,zac,zad,zab]) List.length_replicate⟩⟩ <;> (first | (simp (maxSteps:=5000000) -dsimp only [gr,reduceEqDiff,reduceLT,reduceAdd,reduceMod,Nat.reduceBEq,zaa,zac,zad,zab];first | done | rfl | (simp;done)) | assumption | rfl)) ?_
   intro w sb ⟨h1b,h2b,r2b,h5b,h6b,h7b,hIb⟩
   obtain ⟨hw,hb2⟩:=hIb
   simp (maxSteps:=5000000) -dsimp only [↓gp,gq,reduceCtorEq,reduceEqDiff,reduceLT,reduceLeDiff,reduceAdd,reduceMul,reduceSub,Nat.reduceBEq,Int.reduceToNat,Int.reduceLE,Int.reduceLT,Int.reduceNeg,reduceMod,zac,zad,zab,zaa,gT,TK.isInt,TK.agg,Array.toList,h1b,h2b,r2b,h5b,h6b,h7b,hsh,hun]
   refine ⟨fun h2=>zaf (zaS _) ?_,fun h2=>?_⟩
   ·have hw64:w < 64:=by omega
    have hz:=zce hw64
    simp (maxSteps:=5000000) -dsimp only [↓gp,gq,reduceCtorEq,reduceEqDiff,reduceLT,reduceLeDiff,reduceAdd,reduceMul,reduceSub,Nat.reduceBEq,Int.reduceToNat,Int.reduceLE,Int.reduceLT,Int.reduceNeg,reduceMod,zac,zad,zab,zaa,gT,TK.isInt,TK.agg,Array.toList,h1b,h2b,r2b,h5b,h6b,h7b,hsh,hun,hz]
    refine zaf (ziP (zaI xs) w hw64) ?_
    simp (maxSteps:=5000000) -dsimp only [↓gp,gq,reduceCtorEq,reduceEqDiff,reduceLT,reduceLeDiff,reduceAdd,reduceMul,reduceSub,Nat.reduceBEq,Int.reduceToNat,Int.reduceLE,Int.reduceLT,Int.reduceNeg,reduceMod,zac,zad,zab,zaa,gT,TK.isInt,TK.agg,Array.toList,h1b,h2b,r2b,h5b,h6b,h7b,hsh,hun,hz]
    refine zaf (zly _ p hp) ?_
    have epart:(fun t=>zaI xs t && zlj w t) = za1 (zaI xs) w:=rfl
    rw [epart]
    have hpn:=zhc (n:=m) (by omega) h2
    have hsm:=zhb (za1 (zaI xs) w) p
    have hdl:=ze6 (za1 (zaI xs) w)
    have hhl:=zbF (za1 (zaI xs) w) p
    generalize hhs:zfy (za1 (zaI xs) w) p = hs at *
    have hsq:=fun k=>znU (j:=zat w) (znV (zaI xs) p m w) hsm k
    simp (maxSteps:=5000000) -dsimp only [↓gp,gq,reduceCtorEq,reduceEqDiff,reduceLT,reduceLeDiff,reduceAdd,reduceMul,reduceSub,Nat.reduceBEq,Int.reduceToNat,Int.reduceLE,Int.reduceLT,Int.reduceNeg,reduceMod,zac,zad,zab,zaa,gT,TK.isInt,TK.agg,Array.toList,h1b,h2b,r2b,h5b,h6b,h7b,hsh,hun]
    refine zan (fun (zc:Nat × Nat) s=>match zc with | (k,u)=>s.sl 1 = int p∧s.sl 2 = .ref 2 1 0∧s.rw 2 = ⟨1,.box 27 [int (m:Nat),zaN xs]⟩∧s.sl 5 = .own 27 1∧s.sl 6 = u64 (zaH (zaI xs) 64:Nat)∧s.sl 7 = int w∧s.sl 8 = int (zat w:Nat)∧s.sl 44 = .own 44 u∧s.rw 44 = ⟨u,.sli 3 1 false (iL hs)⟩∧s.sl 45 = int hs.length∧s.sl 46 = int k∧(k ≤ hs.length∧TabI s.rw 27 1 25 3 (List.range (m + 1)) (zg9 (zha (zaI xs) p m w) (zat w) hs k))) (fun (k,u)=>hs.length - k) ((0,(sb.rw 44).ver + 1)) (by refine ⟨?_,?_,?_,?_,?_,?_,?_,?_,?_,?_,?_,⟨by omega,hb2.same (by simp (maxSteps:=5000000) -dsimp only [gr,reduceEqDiff,reduceLT,reduceAdd,reduceMod,Nat.reduceBEq,zaa,zac,zad,zab]) (fun x=>by simp (maxSteps:=5000000) -dsimp only [gr,reduceEqDiff,reduceLT,reduceAdd,reduceMod,Nat.reduceBEq,zaa,zac,zad,zab])⟩⟩ <;> (first | (simp (maxSteps:=5000000) -dsimp only [gr,reduceEqDiff,reduceLT,reduceAdd,reduceMod,Nat.reduceBEq,zaa,zac,zad,zab,h1b,h2b,r2b,h5b,h6b,h7b];first | done | rfl | (simp;done)) | assumption | rfl)) ?_
    intro (k,u) sc ⟨h1c,h2c,r2c,h5c,h6c,h7c,h8c,h44c,r44c,h45c,h46c,hIc⟩
    obtain ⟨hk,hb3⟩:=hIc
    by_cases h3:k < hs.length
    ·by_cases h4:k ≤ zat w
     ·have hsq:=hsq k
      have hs1:=hsq.small (zat w - k) (zat w)
      have hs2:=hsm k
      have hml:=hsq.len
      have hrl:=hsq.row (zat w - k) (by omega)
      have hadd:zg9 (zha (zaI xs) p m w) (zat w) hs (k + 1) = zlu (zg9 (zha (zaI xs) p m w) (zat w) hs k) (zat w - k) (zat w) (hs.getD k 0):=by rw [zg9,if_pos h4]
      generalize zg9 (zha (zaI xs) p m w) (zat w) hs k = M at *
      have e1:(List.range (m + 1)).getD (zat w - k) 0 = zat w - k:=zCP (by omega)
      have hrow:=hb3.row (i:=zat w - k) (by omega)
      rw [e1] at hrow
      have hw1:IntKind.i64.wrap ((zat w:Int) - (k:Int)) = ((zat w - k:Nat):Int):=by rw [zap (by omega) (by omega)];omega
      have hw2:IntKind.i64.wrap ((M.getD (zat w - k) []).getD (zat w) 0 + hs.getD k 0) = (M.getD (zat w - k) []).getD (zat w) 0 + hs.getD k 0:=zap (by omega) (by omega)
      simp (maxSteps:=5000000) -dsimp only [↓gp,gq,reduceCtorEq,reduceEqDiff,reduceLT,reduceLeDiff,reduceAdd,reduceMul,reduceSub,Nat.reduceBEq,Int.reduceToNat,Int.reduceLE,Int.reduceLT,Int.reduceNeg,reduceMod,zac,zad,zab,zaa,gT,TK.isInt,TK.agg,Array.toList,h1c,h2c,r2c,h5c,h6c,h7c,h8c,h44c,r44c,h45c,h46c,hw1,hb3.top,zgJ,e1,hrow,hrl,zaq,List.length_range,hw2]
      refine ⟨fun _=>⟨h3,h3,fun _=>⟨by omega,by omega,by omega,by omega,by omega,by omega,?_⟩,fun h=>absurd h4 h⟩,fun h=>absurd h3 h⟩
      exact zag ((k + 1,u)) (by refine ⟨?_,?_,?_,?_,?_,?_,?_,?_,?_,?_,?_,⟨by dsimp only;omega,by
       dsimp only
       rw [hadd]
       exact hb3.set (i:=zat w - k) (by omega) (by simp (maxSteps:=5000000) -dsimp only [gr,reduceEqDiff,reduceLT,reduceAdd,reduceMod,Nat.reduceBEq,zaa,zac,zad,zab]) (by simp (maxSteps:=5000000) -dsimp only [gr,reduceEqDiff,reduceLT,reduceAdd,reduceMod,Nat.reduceBEq,zaa,zac,zad,zab,e1,h1c,h2c,r2c,h5c,h6c,h7c,h8c,h44c,r44c,h45c,h46c,hb3.top,hrow]) (fun x hx=>by simp (maxSteps:=5000000) -dsimp only [gr,reduceEqDiff,reduceLT,reduceAdd,reduceMod,Nat.reduceBEq,zaa,zac,zad,zab,e1 ▸ hx])⟩⟩ <;> (first | (simp (maxSteps:=5000000) -dsimp only [gr,reduceEqDiff,reduceLT,reduceAdd,reduceMod,Nat.reduceBEq,zaa,zac,zad,zab,h1c,h2c,r2c,h5c,h6c,h7c,h8c,h44c,r44c,h45c,h46c,zae h3 (by omega)];first | done | rfl | (simp;done)) | assumption | rfl)) (by first | omega | (simp only;omega) | (dsimp only;omega) | (show _ < _;simp;omega))
     ·have hadd:zg9 (zha (zaI xs) p m w) (zat w) hs (k + 1) = zg9 (zha (zaI xs) p m w) (zat w) hs k:=by rw [zg9,if_neg h4]
      simp (maxSteps:=5000000) -dsimp only [↓gp,gq,reduceCtorEq,reduceEqDiff,reduceLT,reduceLeDiff,reduceAdd,reduceMul,reduceSub,Nat.reduceBEq,Int.reduceToNat,Int.reduceLE,Int.reduceLT,Int.reduceNeg,reduceMod,zac,zad,zab,zaa,gT,TK.isInt,TK.agg,Array.toList,h1c,h2c,r2c,h5c,h6c,h7c,h8c,h44c,r44c,h45c,h46c]
      refine ⟨fun _=>⟨h3,h3,fun h=>absurd h h4,fun _=>?_⟩,fun h=>absurd h3 h⟩
      exact zag ((k + 1,u)) (by refine ⟨?_,?_,?_,?_,?_,?_,?_,?_,?_,?_,?_,⟨by dsimp only;omega,by
       dsimp only
       rw [hadd]
       exact hb3.same (by simp (maxSteps:=5000000) -dsimp only [gr,reduceEqDiff,reduceLT,reduceAdd,reduceMod,Nat.reduceBEq,zaa,zac,zad,zab]) (fun x=>by simp (maxSteps:=5000000) -dsimp only [gr,reduceEqDiff,reduceLT,reduceAdd,reduceMod,Nat.reduceBEq,zaa,zac,zad,zab])⟩⟩ <;> (first | (simp (maxSteps:=5000000) -dsimp only [gr,reduceEqDiff,reduceLT,reduceAdd,reduceMod,Nat.reduceBEq,zaa,zac,zad,zab,h1c,h2c,r2c,h5c,h6c,h7c,h8c,h44c,r44c,h45c,h46c,zae h3 (by omega)];first | done | rfl | (simp;done)) | assumption | rfl)) (by first | omega | (simp only;omega) | (dsimp only;omega) | (show _ < _;simp;omega))
    ·have e:zg9 (zha (zaI xs) p m w) (zat w) hs k = zha (zaI xs) p m (w + 1):=by
      have e0:zha (zaI xs) p m (w + 1) = zg9 (zha (zaI xs) p m w) (zat w) (zfy (za1 (zaI xs) w) p) (zcb (za1 (zaI xs) w)):=rfl
      rw [e0,← hhl,hhs,show k = hs.length by omega]
     rw [e] at hb3
     simp (maxSteps:=5000000) -dsimp only [↓gp,gq,reduceCtorEq,reduceEqDiff,reduceLT,reduceLeDiff,reduceAdd,reduceMul,reduceSub,Nat.reduceBEq,Int.reduceToNat,Int.reduceLE,Int.reduceLT,Int.reduceNeg,reduceMod,zac,zad,zab,zaa,gT,TK.isInt,TK.agg,Array.toList,h1c,h2c,r2c,h5c,h6c,h7c,h8c,h44c,r44c,h45c,h46c]
     refine ⟨fun h=>absurd h h3,fun _=>?_⟩
     exact zag (w + 1) (by refine ⟨?_,?_,?_,?_,?_,?_,⟨by omega,hb3.same (by simp (maxSteps:=5000000) -dsimp only [gr,reduceEqDiff,reduceLT,reduceAdd,reduceMod,Nat.reduceBEq,zaa,zac,zad,zab]) (fun x=>by simp (maxSteps:=5000000) -dsimp only [gr,reduceEqDiff,reduceLT,reduceAdd,reduceMod,Nat.reduceBEq,zaa,zac,zad,zab])⟩⟩ <;> (first | (simp (maxSteps:=5000000) -dsimp only [gr,reduceEqDiff,reduceLT,reduceAdd,reduceMod,Nat.reduceBEq,zaa,zac,zad,zab,h1b,h2b,r2b,h5b,h6b,h7b,h1c,h2c,r2c,h5c,h6c,h7c,h8c,h44c,r44c,h45c,h46c,zae h2 (by omega)];first | done | rfl | (simp;done)) | assumption | rfl)) (by first | omega | (simp only;omega) | (dsimp only;omega) | (show _ < _;simp;omega))
   ·have:w = 2 ^ m:=by omega
    subst this
    exact zg6 hb2 (by decide) (fun j hj=>by have:=List.mem_range.1 hj;omega)
 ·rw [zfe (fun h=>by have:=(zdO.1 h.1).2;simp at h0;rw [h0] at this;simp at this)]
  exact zg7 (by simp (maxSteps:=5000000) -dsimp only [gr,reduceEqDiff,reduceLT,reduceAdd,reduceMod,Nat.reduceBEq,zaa,zac,zad,zab]) (by decide)
 ·rw [zfe (fun h=>by have:=(zdO.1 h.1).1;rw [this] at hc;cases hc)]
  exact zg7 (by simp (maxSteps:=5000000) -dsimp only [gr,reduceEqDiff,reduceLT,reduceAdd,reduceMod,Nat.reduceBEq,zaa,zac,zad,zab]) (by decide)
theorem zoc (n:Int) (xs:List Int) (p:Int):SqB (znb n xs p):=by
 unfold znb
 split
 ·rename_i h
  obtain ⟨h1,h6,_⟩:=zeb.1 (zdO.1 h.1).1
  exact .of (znW _ p (n:=n.toNat) (by omega)) (by omega)
 ·exact .nil
theorem zu9 (M:Mat):(M.map iL).map (fun r=>PV.sl false 1 r) = iLL M:=by unfold iLL;rw [List.map_map];rfl
theorem zdM (n:Int) (xs:List Int) (p:Int):AC Tryz.prog 155 [.ag [int n,zaN xs],int p] (.fr 25 1 (iLL (znb n xs p))):=zu9 (znb n xs p) ▸ (zhT n xs p).flat
theorem zdN (n:Int) (xs:List Int) (p:Int):AC Tryz.prog 188 [.ag [int n,zaN xs],int p] (.fr 25 1 (iLL (znb n xs p))):=zu9 (znb n xs p) ▸ (zhS n xs p).flat
noncomputable def zCO (n:Int) (xs:List Int) (p:Int):Int:=zgg (znb n xs p) (znb n xs p).length
theorem zf8 (n:Int) (xs:List Int) (p:Int):AC Tryz.prog 134 [.ag [int n,zaN xs],int p] (.im (int (zCO n xs p))):=by
 refine AC.go (rs:=[.tmp 4]) za3 zav Tryz.func134 rfl rfl rfl (by kernel_rfl) fun hl=>?_
 simp (maxSteps:=5000000) -dsimp only [↓gp,gq,reduceCtorEq,reduceEqDiff,reduceLT,reduceLeDiff,reduceAdd,reduceMul,reduceSub,Nat.reduceBEq,Int.reduceToNat,Int.reduceLE,Int.reduceLT,Int.reduceNeg,reduceMod,zac,zad,zab,zaa,gT,TK.isInt,TK.agg,Array.toList]
 refine zaf (zdM n xs p) ?_
 have hsq:=zoc n xs p
 unfold zCO
 generalize znb n xs p = M at *
 have hl7:=hsq.len
 simp (maxSteps:=5000000) -dsimp only [↓gp,gq,reduceCtorEq,reduceEqDiff,reduceLT,reduceLeDiff,reduceAdd,reduceMul,reduceSub,Nat.reduceBEq,Int.reduceToNat,Int.reduceLE,Int.reduceLT,Int.reduceNeg,reduceMod,zac,zad,zab,zaa,gT,TK.isInt,TK.agg,Array.toList]
 refine zan (fun (i:Nat) s=>s.sl 5 = int (zgg M i)∧s.sl 6 = .own 11 1∧s.rw 11 = ⟨1,.sli 25 1 false (iLL M)⟩∧s.sl 7 = int i∧(i ≤ M.length)) (fun i=>M.length - i) (0) (by refine ⟨?_,?_,?_,?_,by omega⟩ <;> (first | (simp (maxSteps:=5000000) -dsimp only [gr,reduceEqDiff,reduceLT,reduceAdd,reduceMod,Nat.reduceBEq,zaa,zac,zad,zab,zgg];first | done | rfl | (simp;done)) | assumption | rfl)) ?_
 intro i sa ⟨h5a,h6a,r11a,h7a,hIa⟩
 have hge:=zD1 M i
 have hle:=zD2 hsq i
 simp (maxSteps:=5000000) -dsimp only [↓gp,gq,reduceCtorEq,reduceEqDiff,reduceLT,reduceLeDiff,reduceAdd,reduceMul,reduceSub,Nat.reduceBEq,Int.reduceToNat,Int.reduceLE,Int.reduceLT,Int.reduceNeg,reduceMod,zac,zad,zab,zaa,gT,TK.isInt,TK.agg,Array.toList,h5a,h6a,r11a,h7a]
 refine ⟨fun h=>?_,fun h=>?_⟩
 ·have hr:=hsq.row i h
  have hlow:=zBk (M.getD i []) hge i (Nat.le_refl _)
  refine zan (fun (j:Nat) s=>s.sl 5 = int (zgf i (M.getD i []) (zgg M i) j)∧s.sl 6 = .own 11 1∧s.rw 11 = ⟨1,.sli 25 1 false (iLL M)⟩∧s.sl 7 = int i∧s.sl 8 = int j∧(i ≤ j∧j ≤ M.length)) (fun j=>M.length - j) (i) (by refine ⟨?_,?_,?_,?_,?_,by omega⟩ <;> (first | (simp (maxSteps:=5000000) -dsimp only [gr,reduceEqDiff,reduceLT,reduceAdd,reduceMod,Nat.reduceBEq,zaa,zac,zad,zab,h5a,h6a,r11a,h7a,hlow];first | done | rfl | (simp;done)) | assumption | rfl)) ?_
  intro j sb ⟨h5b,h6b,r11b,h7b,h8b,hIb⟩
  simp (maxSteps:=5000000) -dsimp only [↓gp,gq,reduceCtorEq,reduceEqDiff,reduceLT,reduceLeDiff,reduceAdd,reduceMul,reduceSub,Nat.reduceBEq,Int.reduceToNat,Int.reduceLE,Int.reduceLT,Int.reduceNeg,reduceMod,zac,zad,zab,zaa,gT,TK.isInt,TK.agg,Array.toList,h5b,h6b,r11b,h7b,h8b]
  refine ⟨fun h2=>?_,fun h2=>?_⟩
  ·have hw:IntKind.i64.wrap ((j:Int) - (i:Int)) = (j:Int) - i:=zap (by omega) (by omega)
   simp (maxSteps:=5000000) -dsimp only [↓gp,gq,reduceCtorEq,reduceEqDiff,reduceLT,reduceLeDiff,reduceAdd,reduceMul,reduceSub,Nat.reduceBEq,Int.reduceToNat,Int.reduceLE,Int.reduceLT,Int.reduceNeg,reduceMod,zac,zad,zab,zaa,gT,TK.isInt,TK.agg,Array.toList,h5b,h6b,r11b,h7b,h8b,hr,hw]
   refine ⟨h,h,h2,h2,fun h0=>zaf (zdC _ _) ?_,fun h0=>?_⟩
   ·have e:zgf i (M.getD i []) (zgg M i) (j + 1) = max (zgf i (M.getD i []) (zgg M i) j) ((j:Int) - i):=by rw [zgf,if_neg (by simpa using h0)]
    simp (maxSteps:=5000000) -dsimp only [↓gp,gq,reduceCtorEq,reduceEqDiff,reduceLT,reduceLeDiff,reduceAdd,reduceMul,reduceSub,Nat.reduceBEq,Int.reduceToNat,Int.reduceLE,Int.reduceLT,Int.reduceNeg,reduceMod,zac,zad,zab,zaa,gT,TK.isInt,TK.agg,Array.toList,h5b,h6b,r11b,h7b,h8b,hr,hw]
    exact zag (j + 1) (by refine ⟨?_,?_,?_,?_,?_,by omega⟩ <;> (first | (simp (maxSteps:=5000000) -dsimp only [gr,reduceEqDiff,reduceLT,reduceAdd,reduceMod,Nat.reduceBEq,zaa,zac,zad,zab,h5b,h6b,r11b,h7b,h8b,zae h2 (by omega),e];first | done | rfl | (simp;done)) | assumption | rfl)) (by first | omega | (simp only;omega) | (dsimp only;omega) | (show _ < _;simp;omega))
   ·have e:zgf i (M.getD i []) (zgg M i) (j + 1) = zgf i (M.getD i []) (zgg M i) j:=by rw [zgf,if_pos (by simpa using h0)]
    exact zag (j + 1) (by refine ⟨?_,?_,?_,?_,?_,by omega⟩ <;> (first | (simp (maxSteps:=5000000) -dsimp only [gr,reduceEqDiff,reduceLT,reduceAdd,reduceMod,Nat.reduceBEq,zaa,zac,zad,zab,h5b,h6b,r11b,h7b,h8b,zae h2 (by omega),e];first | done | rfl | (simp;done)) | assumption | rfl)) (by first | omega | (simp only;omega) | (dsimp only;omega) | (show _ < _;simp;omega))
  ·have:j = (M.getD i []).length:=by omega
   subst this
   exact zag (i + 1) (by refine ⟨?_,?_,?_,?_,by omega⟩ <;> (first | (simp (maxSteps:=5000000) -dsimp only [gr,reduceEqDiff,reduceLT,reduceAdd,reduceMod,Nat.reduceBEq,zaa,zac,zad,zab,h5a,h6a,r11a,h7a,h5b,h6b,r11b,h7b,h8b,zae h (by omega),zgg];first | done | rfl | (simp;done)) | assumption | rfl)) (by first | omega | (simp only;omega) | (dsimp only;omega) | (show _ < _;simp;omega))
 ·have:i = M.length:=by omega
  rw [this]
theorem zf9 (n:Int) (xs:List Int) (p:Int):AC Tryz.prog 128 [.ag [int n,zaN xs],int p] (.im (int (zCO n xs p))):=by
 refine AC.go (rs:=[.tmp 4]) za3 zav Tryz.func128 rfl rfl rfl (by kernel_rfl) fun hl=>?_
 simp (maxSteps:=5000000) -dsimp only [↓gp,gq,reduceCtorEq,reduceEqDiff,reduceLT,reduceLeDiff,reduceAdd,reduceMul,reduceSub,Nat.reduceBEq,Int.reduceToNat,Int.reduceLE,Int.reduceLT,Int.reduceNeg,reduceMod,zac,zad,zab,zaa,gT,TK.isInt,TK.agg,Array.toList]
 refine zaf (zdN n xs p) ?_
 have hsq:=zoc n xs p
 unfold zCO
 generalize znb n xs p = M at *
 have hl7:=hsq.len
 simp (maxSteps:=5000000) -dsimp only [↓gp,gq,reduceCtorEq,reduceEqDiff,reduceLT,reduceLeDiff,reduceAdd,reduceMul,reduceSub,Nat.reduceBEq,Int.reduceToNat,Int.reduceLE,Int.reduceLT,Int.reduceNeg,reduceMod,zac,zad,zab,zaa,gT,TK.isInt,TK.agg,Array.toList]
 refine zan (fun (i:Nat) s=>s.sl 5 = int (zgg M i)∧s.sl 12 = .own 12 1∧s.rw 12 = ⟨1,.sli 25 1 false (iLL M)⟩∧s.sl 13 = int M.length∧s.sl 14 = int i∧(i ≤ M.length)) (fun i=>M.length - i) (0) (by refine ⟨?_,?_,?_,?_,?_,by omega⟩ <;> (first | (simp (maxSteps:=5000000) -dsimp only [gr,reduceEqDiff,reduceLT,reduceAdd,reduceMod,Nat.reduceBEq,zaa,zac,zad,zab,zgg];first | done | rfl | (simp;done)) | assumption | rfl)) ?_
 intro i sa ⟨h5a,h12a,r12a,h13a,h14a,hIa⟩
 simp (maxSteps:=5000000) -dsimp only [↓gp,gq,reduceCtorEq,reduceEqDiff,reduceLT,reduceLeDiff,reduceAdd,reduceMul,reduceSub,Nat.reduceBEq,Int.reduceToNat,Int.reduceLE,Int.reduceLT,Int.reduceNeg,reduceMod,zac,zad,zab,zaa,gT,TK.isInt,TK.agg,Array.toList,h5a,h12a,r12a,h13a,h14a]
 refine ⟨fun h=>⟨h,h,?_⟩,fun h=>?_⟩
 ·have hr:=hsq.row i h
  refine zan (fun (j:Nat) s=>s.sl 5 = int (zgf i (M.getD i []) (zgg M i) j)∧s.sl 6 = int i∧s.sl 12 = .own 12 1∧s.rw 12 = ⟨1,.sli 25 1 false (iLL M)⟩∧s.sl 13 = int M.length∧s.sl 14 = int i∧s.sl 19 = .sl true 1 (iL (M.getD i []))∧s.sl 20 = int M.length∧s.sl 21 = int j∧(j ≤ M.length)) (fun j=>M.length - j) (0) (by refine ⟨?_,?_,?_,?_,?_,?_,?_,?_,?_,by omega⟩ <;> (first | (simp (maxSteps:=5000000) -dsimp only [gr,reduceEqDiff,reduceLT,reduceAdd,reduceMod,Nat.reduceBEq,zaa,zac,zad,zab,h5a,h12a,r12a,h13a,h14a,hr,zgf];first | done | rfl | (simp;done)) | assumption | rfl)) ?_
  intro j sb ⟨h5b,h6b,h12b,r12b,h13b,h14b,h19b,h20b,h21b,hIb⟩
  simp (maxSteps:=5000000) -dsimp only [↓gp,gq,reduceCtorEq,reduceEqDiff,reduceLT,reduceLeDiff,reduceAdd,reduceMul,reduceSub,Nat.reduceBEq,Int.reduceToNat,Int.reduceLE,Int.reduceLT,Int.reduceNeg,reduceMod,zac,zad,zab,zaa,gT,TK.isInt,TK.agg,Array.toList,h5b,h6b,h12b,r12b,h13b,h14b,h19b,h20b,h21b,hr]
  refine ⟨fun h2=>⟨h2,h2,?_⟩,fun h2=>?_⟩
  ·have hw:IntKind.i64.wrap ((j:Int) - (i:Int)) = (j:Int) - i:=zap (by omega) (by omega)
   simp (maxSteps:=5000000) -dsimp only [↓gp,gq,reduceCtorEq,reduceEqDiff,reduceLT,reduceLeDiff,reduceAdd,reduceMul,reduceSub,Nat.reduceBEq,Int.reduceToNat,Int.reduceLE,Int.reduceLT,Int.reduceNeg,reduceMod,zac,zad,zab,zaa,gT,TK.isInt,TK.agg,Array.toList,h5b,h6b,h12b,r12b,h13b,h14b,h19b,h20b,h21b,hr,hw]
   refine ⟨fun h0=>?_,fun h0=>?_⟩
   ·have e:zgf i (M.getD i []) (zgg M i) (j + 1) = if (j:Int) - i > zgf i (M.getD i []) (zgg M i) j then (j:Int) - i else zgf i (M.getD i []) (zgg M i) j:=by
     rw [zgf,if_neg (by simpa using h0)]
     split <;> omega
    exact zag (j + 1) (by refine ⟨?_,?_,?_,?_,?_,?_,?_,?_,?_,by omega⟩ <;> (first | (simp (maxSteps:=5000000) -dsimp only [gr,reduceEqDiff,reduceLT,reduceAdd,reduceMod,Nat.reduceBEq,zaa,zac,zad,zab,h5b,h6b,h12b,r12b,h13b,h14b,h19b,h20b,h21b,zae h2 (by omega),e];first | done | rfl | (simp;done)) | assumption | rfl)) (by first | omega | (simp only;omega) | (dsimp only;omega) | (show _ < _;simp;omega))
   ·have e:zgf i (M.getD i []) (zgg M i) (j + 1) = zgf i (M.getD i []) (zgg M i) j:=by rw [zgf,if_pos (by simpa using h0)]
    exact zag (j + 1) (by refine ⟨?_,?_,?_,?_,?_,?_,?_,?_,?_,by omega⟩ <;> (first | (simp (maxSteps:=5000000) -dsimp only [gr,reduceEqDiff,reduceLT,reduceAdd,reduceMod,Nat.reduceBEq,zaa,zac,zad,zab,h5b,h6b,h12b,r12b,h13b,h14b,h19b,h20b,h21b,zae h2 (by omega),e];first | done | rfl | (simp;done)) | assumption | rfl)) (by first | omega | (simp only;omega) | (dsimp only;omega) | (show _ < _;simp;omega))
  ·have:j = (M.getD i []).length:=by omega
   subst this
   exact zag (i + 1) (by refine ⟨?_,?_,?_,?_,?_,by omega⟩ <;> (first | (simp (maxSteps:=5000000) -dsimp only [gr,reduceEqDiff,reduceLT,reduceAdd,reduceMod,Nat.reduceBEq,zaa,zac,zad,zab,h5a,h12a,r12a,h13a,h14a,h5b,h6b,h12b,r12b,h13b,h14b,h19b,h20b,h21b,zae h (by omega),zgg];first | done | rfl | (simp;done)) | assumption | rfl)) (by first | omega | (simp only;omega) | (dsimp only;omega) | (show _ < _;simp;omega))
 ·have:i = M.length:=by omega
  rw [this]
end Go.Proofs.YtpnknaaehcljoaaGreat
