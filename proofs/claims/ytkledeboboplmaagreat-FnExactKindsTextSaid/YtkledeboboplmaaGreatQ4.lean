/- DERIVED by an AI agent. -/
import Derived.Test.YtkledeboboplmaaGreatQ2
import Derived.Test.YtkledeboboplmaaGreatQ3
import Derived.Test.YtkledeboboplmaaGreatA13
import Derived.Test.YtkledeboboplmaaGreatP1
import Derived.Test.YtkledeboboplmaaGreatQ1
import Derived.Test.YtkledeboboplmaaGreatA12
namespace Go.Proofs.YtkledeboboplmaaGreat
open Go.Abs
open Nat (reduceEqDiff reduceMod reduceAdd reduceLT reduceLeDiff reduceSub reduceMul)
set_option linter.unusedSimpArgs false
set_option linter.unusedVariables false
theorem zdU (w:Nat→Bool) {G:Nat} (hF:G < 2 ^ 64) (h:∀ s,s < 64→G.testBit s = w s):G = zaB w 64:=by
 refine Nat.eq_of_testBit_eq fun s=>?_
 rw [zdQ]
 by_cases hs:s < 64
 ·rw [h s hs];simp [hs]
 ·have:G.testBit s = false:=Nat.testBit_lt_two_pow (Nat.lt_of_lt_of_le hF (Nat.pow_le_pow_right (by omega) (by omega)))
  simp [this,hs]
theorem za5 (w:Nat→Bool) {s:Nat} (h:s < 64):(zaB w 64).testBit s = w s:=by rw [zdQ];simp [h]
theorem zc4 {w w':Nat→Bool} (h:∀ s,s < 64→w s = w' s):zaB w 64 = zaB w' 64 :=
 zdU w' (zbl w 64) fun s hs=>by rw [za5 w hs,h s hs]
theorem zEu (w w':Nat→Bool):zaB w 64 ||| zaB w' 64 = zaB (fun s=>w s || w' s) 64 :=
 zdU _ (Nat.or_lt_two_pow (zbl w 64) (zbl w' 64)) fun s hs=>by rw [Nat.testBit_or,za5 w hs,za5 w' hs]
theorem zwg (w:Nat→Bool) {t:Nat} (ht:t < 64):zaB w 64 ||| 2 ^ t = zaB (fun s=>w s || s == t) 64 :=
 zdU _ (Nat.or_lt_two_pow (zbl w 64) (Nat.pow_lt_pow_right (by omega) ht)) fun s hs=>by
  rw [Nat.testBit_or,za5 w hs,Nat.testBit_two_pow]
  congr 1
  by_cases e:t = s
  ·simp [e]
  ·simp [e];exact fun h=>e h.symm
theorem zqZ:zaB (fun _=>false) 64 = 0:=(zdU (G:=0) (fun _=>false) (by omega) (fun s _=>by simp)).symm
def zq0 (u:Nat) (t:Nat):Bool:=u &&& t == t
theorem zf6 (u:Nat) (hu:u < 64):AC Tryz.prog 77 [int u] (.im (u64 (zaB (zq0 u) 64:Nat))):=by
 refine AC.go (rs:=[.tmp 2]) zaL mixed Tryz.func77 rfl rfl rfl (by kernel_rfl) fun hl=>?_
 simp (maxSteps:=9^7) -dsimp only [↓gp,gq,reduceCtorEq,reduceEqDiff,reduceLT,reduceLeDiff,reduceAdd,reduceMul,reduceSub,Nat.reduceBEq,Int.reduceToNat,Int.reduceLE,Int.reduceLT,Int.reduceNeg,reduceMod,gT]
 have hinit:zaB (fun v=>zq0 u v && decide (u < v)) 64 = 0:=by
  rw [← zqZ]
  refine zc4 fun v hv=>?_
  cases h:(zq0 u v && decide (u < v)) with
  | false=>rfl
  | true =>
    simp [zq0] at h
    have:u &&& v ≤ u:=Nat.and_le_left
    omega
 refine zah (fun (t:Nat) s=>s.sl 0 = int u∧s.sl 3 = u64 (zaB (fun v=>zq0 u v && decide (t < v)) 64:Nat)∧s.sl 4 = int t∧(t ≤ u∧u &&& t = t)) (fun t=>t) (u) (by refine ⟨?_,?_,?_,⟨Nat.le_refl _,Nat.and_self u⟩⟩ <;> (first | (simp (maxSteps:=9^7) -dsimp only [gr,reduceEqDiff,reduceLT,reduceAdd,reduceMod,Nat.reduceBEq,hinit];first | done | rfl | (simp;done)) | assumption | rfl)) ?_
 intro t sa ⟨h0a,h3a,h4a,hIa⟩
 obtain ⟨htu,hts⟩:=hIa
 have hlt:=zbl (fun v=>zq0 u v && decide (t < v)) 64
 have hcv:IntKind.u64.wrap (t:Int) = (t:Int):=zba (by omega)
 have h2t:(2:Nat) ^ t < 18446744073709551616:=by
  have:(2:Nat) ^ t < 2 ^ 64:=Nat.pow_lt_pow_right (by omega) (by omega)
  omega
 have hor:ior .u64 (zaB (fun v=>zq0 u v && decide (t < v)) 64:Nat) (znL .u64 1 (t:Int)) = ((zaB (fun v=>zq0 u v && decide (t ≤ v)) 64:Nat):Int):=by
  rw [zDr (by omega),zEh (by omega) h2t,zwg _ (by omega)]
  congr 1
  refine zc4 fun v hv=>?_
  by_cases e:v = t
  ·subst e;simp [zq0,hts]
  ·have e1:decide (t < v) = decide (t ≤ v):=decide_eq_decide.2 (by omega)
   simp [e,e1]
 simp (maxSteps:=9^7) -dsimp only [↓gp,gq,reduceCtorEq,reduceEqDiff,reduceLT,reduceLeDiff,reduceAdd,reduceMul,reduceSub,Nat.reduceBEq,Int.reduceToNat,Int.reduceLE,Int.reduceLT,Int.reduceNeg,reduceMod,gT,h0a,h3a,h4a,hcv,hor]
 refine ⟨fun h0=>?_,fun h0=>?_⟩
 ·have:t = 0:=by simp at h0;omega
  subst this
  simp
 ·have h0:¬ t = 0:=by
   intro e;subst e;simp at h0
  have hw:IntKind.i64.wrap ((t:Int) - 1) = ((t - 1:Nat):Int):=by rw [zap (by omega) (by omega)];omega
  have hand:=za7 (a:=t - 1) (b:=u) (by omega) (by omega)
  have hle:(t - 1) &&& u ≤ t - 1:=Nat.and_le_left
  have hnext:zaB (fun v=>zq0 u v && decide ((t - 1) &&& u < v)) 64 = zaB (fun v=>zq0 u v && decide (t ≤ v)) 64:=by
   refine zc4 fun v hv=>?_
   cases hs:zq0 u v with
   | false=>rfl
   | true =>
     simp only [Bool.true_and]
     refine decide_eq_decide.2 ⟨fun h=>?_,fun h=>by omega⟩
     rcases Nat.lt_or_ge v t with h2 | h2
     ·have:=zBO u hu t (by omega) (by rw [Nat.and_comm];exact hts) h0 v h2 (by rw [Nat.and_comm];simpa [zq0] using hs)
      omega
     ·exact h2
  simp (maxSteps:=9^7) -dsimp only [↓gp,gq,reduceCtorEq,reduceEqDiff,reduceLT,reduceLeDiff,reduceAdd,reduceMul,reduceSub,Nat.reduceBEq,Int.reduceToNat,Int.reduceLE,Int.reduceLT,Int.reduceNeg,reduceMod,gT,h0a,h3a,h4a,hcv,hor,hw,hand]
  exact zac ((t - 1) &&& u) (by refine ⟨?_,?_,?_,⟨by omega,by rw [Nat.and_comm,Nat.and_assoc,Nat.and_self]⟩⟩ <;> (first | (simp (maxSteps:=9^7) -dsimp only [gr,reduceEqDiff,reduceLT,reduceAdd,reduceMod,Nat.reduceBEq,h0a,h3a,h4a,hcv,hor,hw,hand,hnext];first | done | rfl | (simp;done)) | assumption | rfl)) (by first | omega | (simp only;omega) | (dsimp only;omega) | (show _ < _;simp;omega))
theorem zwh {xs:List Int} {k t:Nat} (h:k < xs.length):zal (xs.take (k + 1)) t = (zal (xs.take k) t || zq0 (xs.getD k 0).toNat t):=by
 rw [zay 0 h]
 unfold zal zq0
 rw [List.any_append]
 simp
theorem zb2 (n:Int) (xs:List Int) (hx:okS xs):AC Tryz.prog 49 [.ag [int n,zaH xs]] (.im (u64 (zaB (zal xs) 64:Nat))):=by
 refine AC.go (rs:=[.tmp 2]) zaL mixed Tryz.func49 rfl rfl rfl (by kernel_rfl) fun hl=>?_
 simp only [zaJ,zaX,and_true,zbM,zc6,zcm,zcl,true_and] at hl
 simp (maxSteps:=9^7) -dsimp only [↓gp,gq,reduceCtorEq,reduceEqDiff,reduceLT,reduceLeDiff,reduceAdd,reduceMul,reduceSub,Nat.reduceBEq,Int.reduceToNat,Int.reduceLE,Int.reduceLT,Int.reduceNeg,reduceMod,gT]
 have hinit:zaB (zal (xs.take 0)) 64 = 0:=zqZ
 refine zah (fun (k:Nat) s=>s.sl 3 = u64 (zaB (zal (xs.take k)) 64:Nat)∧s.sl 7 = zaH xs∧s.sl 8 = int xs.length∧s.sl 9 = int k∧(k ≤ xs.length)) (fun k=>xs.length - k) (0) (by refine ⟨?_,?_,?_,?_,by omega⟩ <;> (first | (simp (maxSteps:=9^7) -dsimp only [gr,reduceEqDiff,reduceLT,reduceAdd,reduceMod,Nat.reduceBEq,hinit];first | done | rfl | (simp;done)) | assumption | rfl)) ?_
 intro k sa ⟨h3a,h7a,h8a,h9a,hIa⟩
 simp (maxSteps:=9^7) -dsimp only [↓gp,gq,reduceCtorEq,reduceEqDiff,reduceLT,reduceLeDiff,reduceAdd,reduceMul,reduceSub,Nat.reduceBEq,Int.reduceToNat,Int.reduceLE,Int.reduceLT,Int.reduceNeg,reduceMod,gT,h3a,h7a,h8a,h9a]
 refine ⟨fun h=>⟨h,h,?_⟩,fun h=>?_⟩
 ·have h6:=zqS hx h
  have hn:xs.getD k 0 = ((xs.getD k 0).toNat:Int):=by omega
  have hc:=zf6 (xs.getD k 0).toNat (by omega)
  rw [← hn] at hc
  refine zab hc ?_
  have hm1:=zbl (zal (xs.take k)) 64
  have hm2:=zbl (zq0 (xs.getD k 0).toNat) 64
  have hor:ior .u64 (zaB (zal (xs.take k)) 64:Nat) (zaB (zq0 (xs.getD k 0).toNat) 64:Nat) = ((zaB (zal (xs.take (k + 1))) 64:Nat):Int):=by
   rw [zEh (by omega) (by omega),zEu]
   congr 1
   exact zc4 fun t _=>(zwh h).symm
  simp (maxSteps:=9^7) -dsimp only [↓gp,gq,reduceCtorEq,reduceEqDiff,reduceLT,reduceLeDiff,reduceAdd,reduceMul,reduceSub,Nat.reduceBEq,Int.reduceToNat,Int.reduceLE,Int.reduceLT,Int.reduceNeg,reduceMod,gT,h3a,h7a,h8a,h9a,hor]
  exact zac (k + 1) (by refine ⟨?_,?_,?_,?_,by omega⟩ <;> (first | (simp (maxSteps:=9^7) -dsimp only [gr,reduceEqDiff,reduceLT,reduceAdd,reduceMod,Nat.reduceBEq,h3a,h7a,h8a,h9a,zaa h hl,hor];first | done | rfl | (simp;done)) | assumption | rfl)) (by first | omega | (simp only;omega) | (dsimp only;omega) | (show _ < _;simp;omega))
 ·have:k = xs.length:=by omega
  rw [this,List.take_length]
theorem zc0 {t:Nat} (h:t < 64):zlz (t:Int) = (zat t:Nat):=by rw [zlz,if_pos (by omega)];simp
theorem zkF (f:Nat→Bool) (m:Nat):zil f (m + 1) = if f m = true then max (zil f m) (zat m + 1) else zil f m:=rfl
theorem zcF (f:Nat→Bool):AC Tryz.prog 79 [u64 (zaB f 64:Nat)] (.im (int ((zbh f:Int) - 1))):=by
 refine AC.go (rs:=[.tmp 2]) zaL mixed Tryz.func79 rfl rfl rfl (by kernel_rfl) fun hl=>?_
 simp (maxSteps:=9^7) -dsimp only [↓gp,gq,reduceCtorEq,reduceEqDiff,reduceLT,reduceLeDiff,reduceAdd,reduceMul,reduceSub,Nat.reduceBEq,Int.reduceToNat,Int.reduceLE,Int.reduceLT,Int.reduceNeg,reduceMod,gT]
 have hm1:=zbl f 64
 refine zah (fun (m:Nat) s=>s.sl 0 = u64 (zaB f 64:Nat)∧s.sl 3 = int ((zil f m:Int) - 1)∧s.sl 4 = int m∧(m ≤ 64)) (fun m=>64 - m) (0) (by refine ⟨?_,?_,?_,by omega⟩ <;> (first | (simp (maxSteps:=9^7) -dsimp only [gr,reduceEqDiff,reduceLT,reduceAdd,reduceMod,Nat.reduceBEq,zil];first | done | rfl | (simp;done)) | assumption | rfl)) ?_
 intro m sa ⟨h0a,h3a,h4a,hIa⟩
 simp (maxSteps:=9^7) -dsimp only [↓gp,gq,reduceCtorEq,reduceEqDiff,reduceLT,reduceLeDiff,reduceAdd,reduceMul,reduceSub,Nat.reduceBEq,Int.reduceToNat,Int.reduceLE,Int.reduceLT,Int.reduceNeg,reduceMod,gT,h0a,h3a,h4a]
 refine ⟨fun h=>zab (zbF (zaB f 64) m (by omega) (by omega)) ?_,fun h=>?_⟩
 ·have h:m < 64:=by omega
  rw [za5 f h]
  simp (maxSteps:=9^7) -dsimp only [↓gp,gq,reduceCtorEq,reduceEqDiff,reduceLT,reduceLeDiff,reduceAdd,reduceMul,reduceSub,Nat.reduceBEq,Int.reduceToNat,Int.reduceLE,Int.reduceLT,Int.reduceNeg,reduceMod,gT,h0a,h3a,h4a]
  refine ⟨fun hf=>zab (zaz _) ?_,fun hf=>?_⟩
  ·simp (maxSteps:=9^7) -dsimp only [↓gp,gq,reduceCtorEq,reduceEqDiff,reduceLT,reduceLeDiff,reduceAdd,reduceMul,reduceSub,Nat.reduceBEq,Int.reduceToNat,Int.reduceLE,Int.reduceLT,Int.reduceNeg,reduceMod,gT,h0a,h3a,h4a,zc0 h]
   refine ⟨fun hg=>zab (zaz _) ?_,fun hg=>?_⟩
   ·simp (maxSteps:=9^7) -dsimp only [↓gp,gq,reduceCtorEq,reduceEqDiff,reduceLT,reduceLeDiff,reduceAdd,reduceMul,reduceSub,Nat.reduceBEq,Int.reduceToNat,Int.reduceLE,Int.reduceLT,Int.reduceNeg,reduceMod,gT,h0a,h3a,h4a,zc0 h]
    have e:(zil f (m + 1):Int) - 1 = (zat m:Int):=by rw [zkF,if_pos hf];omega
    exact zac (m + 1) (by refine ⟨?_,?_,?_,by omega⟩ <;> (first | (simp (maxSteps:=9^7) -dsimp only [gr,reduceEqDiff,reduceLT,reduceAdd,reduceMod,Nat.reduceBEq,h0a,h3a,h4a,zaa h (by omega),zc0 h,e];first | done | rfl | (simp;done)) | assumption | rfl)) (by first | omega | (simp only;omega) | (dsimp only;omega) | (show _ < _;simp;omega))
   ·have e:zil f (m + 1) = zil f m:=by rw [zkF,if_pos hf];omega
    exact zac (m + 1) (by refine ⟨?_,?_,?_,by omega⟩ <;> (first | (simp (maxSteps:=9^7) -dsimp only [gr,reduceEqDiff,reduceLT,reduceAdd,reduceMod,Nat.reduceBEq,h0a,h3a,h4a,zaa h (by omega),e];first | done | rfl | (simp;done)) | assumption | rfl)) (by first | omega | (simp only;omega) | (dsimp only;omega) | (show _ < _;simp;omega))
  ·have e:zil f (m + 1) = zil f m:=by rw [zkF,if_neg (by rw [hf];decide)]
   exact zac (m + 1) (by refine ⟨?_,?_,?_,by omega⟩ <;> (first | (simp (maxSteps:=9^7) -dsimp only [gr,reduceEqDiff,reduceLT,reduceAdd,reduceMod,Nat.reduceBEq,h0a,h3a,h4a,zaa h (by omega),e];first | done | rfl | (simp;done)) | assumption | rfl)) (by first | omega | (simp only;omega) | (dsimp only;omega) | (show _ < _;simp;omega))
 ·have:m = 64:=by omega
  subst this;rfl
theorem zqR {f:Nat→Bool} {m j:Nat} (hf:f m = true):zaN f j (m + 1) = if j = zat m then zaN f j m ++ [m] else zaN f j m:=by
 rw [ze2,hf]
 by_cases e:j = zat m
 ·subst e;simp
 ·have:¬ zat m = j:=fun h=>e h.symm
  simp [e,this]
theorem zzO {f:Nat→Bool} {m j:Nat} (hf:f m = false):zaN f j (m + 1) = zaN f j m:=by rw [ze2,hf];simp
def zex (f:Nat→Bool):Mat:=(List.range (zbh f)).map fun k=>ofN (zaN f k 64)
theorem zg0 (f:Nat→Bool):(zex f).length = zbh f:=by simp [zex]
theorem zef (f:Nat→Bool) {k:Nat} (h:k < zbh f):(zex f).getD k [] = ofN (zaN f k 64):=by simp [zex,List.getD,h]
theorem zfQ (f:Nat→Bool):AC Tryz.prog 125 [u64 (zaB f 64:Nat)] (.tb 22 3 ((List.range (zbh f)).map fun j=>iL (ofN (zaN f j 64)))):=by
 refine AC.go (rs:=[.tmp 2]) zaL mixed Tryz.func125 rfl rfl rfl (by kernel_rfl) fun hl=>?_
 have hm1:=zbl f 64
 have hd:=zcA f
 simp (maxSteps:=9^7) -dsimp only [↓gp,gq,reduceCtorEq,reduceEqDiff,reduceLT,reduceLeDiff,reduceAdd,reduceMul,reduceSub,Nat.reduceBEq,Int.reduceToNat,Int.reduceLE,Int.reduceLT,Int.reduceNeg,reduceMod,gT]
 refine zab (zcF f) ?_
 have hw:IntKind.i64.wrap ((zbh f:Int) - 1 + 1) = (zbh f:Int):=by rw [zap (by omega) (by omega)];omega
 simp (maxSteps:=9^7) -dsimp only [↓gp,gq,reduceCtorEq,reduceEqDiff,reduceLT,reduceLeDiff,reduceAdd,reduceMul,reduceSub,Nat.reduceBEq,Int.reduceToNat,Int.reduceLE,Int.reduceLT,Int.reduceNeg,reduceMod,gT,hw]
 refine ⟨by omega,by omega,?_⟩
 refine zzM (k:=9) (v:=1) (e:=22) (e2:=3) (n:=zbh f) (by simp (maxSteps:=9^7) -dsimp only [gr,reduceEqDiff,reduceLT,reduceAdd,reduceMod,Nat.reduceBEq,hw]) (fun j=>by simp (maxSteps:=9^7) -dsimp only [gr,reduceEqDiff,reduceLT,reduceAdd,reduceMod,Nat.reduceBEq]) (fun (m:Nat) s=>s.sl 0 = u64 (zaB f 64:Nat)∧s.sl 3 = .own 9 1∧s.sl 4 = int m∧(m ≤ 64∧TabF s.rw 9 1 22 3 (zbh f) (fun j=>1 + (zaN f j m).length) (fun j=>ofN (zaN f j m)))) (fun m=>64 - m) (0) (fun sX htX hslX hoX=>(by refine ⟨?_,?_,?_,⟨by omega,htX⟩⟩ <;> (first | (simp (maxSteps:=9^7) -dsimp only [gr,reduceEqDiff,reduceLT,reduceAdd,reduceMod,Nat.reduceBEq,hslX,hoX];first | done | rfl | (simp;done)) | assumption | rfl))) ?_
 intro m sa ⟨h0a,h3a,h4a,hIa⟩
 obtain ⟨hm,ht⟩:=hIa
 simp (maxSteps:=9^7) -dsimp only [↓gp,gq,reduceCtorEq,reduceEqDiff,reduceLT,reduceLeDiff,reduceAdd,reduceMul,reduceSub,Nat.reduceBEq,Int.reduceToNat,Int.reduceLE,Int.reduceLT,Int.reduceNeg,reduceMod,gT,h0a,h3a,h4a]
 refine ⟨fun h=>zab (zbF (zaB f 64) m (by omega) (by omega)) ?_,fun h=>?_⟩
 ·have h:m < 64:=by omega
  rw [za5 f h]
  simp (maxSteps:=9^7) -dsimp only [↓gp,gq,reduceCtorEq,reduceEqDiff,reduceLT,reduceLeDiff,reduceAdd,reduceMul,reduceSub,Nat.reduceBEq,Int.reduceToNat,Int.reduceLE,Int.reduceLT,Int.reduceNeg,reduceMod,gT,h0a,h3a,h4a]
  refine ⟨fun hf=>zab (zaz _) ?_,fun hf=>?_⟩
  ·have hk:zat m < zbh f:=ze9 64 m h hf
   have hr:=ht.row (zat m) hk
   have hol:=zb5 f (zat m) hm
   simp (maxSteps:=9^7) -dsimp only [↓gp,gq,reduceCtorEq,reduceEqDiff,reduceLT,reduceLeDiff,reduceAdd,reduceMul,reduceSub,Nat.reduceBEq,Int.reduceToNat,Int.reduceLE,Int.reduceLT,Int.reduceNeg,reduceMod,gT,h0a,h3a,h4a,zc0 h,ht.top,zgY,zzL,hr,zad]
   refine ⟨hk,hk,by omega,hk,by omega,zac (m + 1) ⟨(by (first | (simp (maxSteps:=9^7) -dsimp only [gr,reduceEqDiff,reduceLT,reduceAdd,reduceMod,Nat.reduceBEq,h0a,h3a,h4a,zaa h (by omega)];first | done | rfl | (simp;done)) | assumption | rfl)),(by (first | (simp (maxSteps:=9^7) -dsimp only [gr,reduceEqDiff,reduceLT,reduceAdd,reduceMod,Nat.reduceBEq,h0a,h3a,h4a,zaa h (by omega)];first | done | rfl | (simp;done)) | assumption | rfl)),(by (first | (simp (maxSteps:=9^7) -dsimp only [gr,reduceEqDiff,reduceLT,reduceAdd,reduceMod,Nat.reduceBEq,h0a,h3a,h4a,zaa h (by omega)];first | done | rfl | (simp;done)) | assumption | rfl)),⟨by omega,ht.add hk (r:=ofN (zaN f (zat m) m) ++ [(m:Int)]) (by simp (maxSteps:=9^7) -dsimp only [gr,reduceEqDiff,reduceLT,reduceAdd,reduceMod,Nat.reduceBEq,h0a,h3a,h4a]) (by simp (maxSteps:=9^7) -dsimp only [gr,reduceEqDiff,reduceLT,reduceAdd,reduceMod,Nat.reduceBEq,h0a,h3a,h4a]) (fun x hx=>by simp (maxSteps:=9^7) -dsimp only [gr,reduceEqDiff,reduceLT,reduceAdd,reduceMod,Nat.reduceBEq,h0a,h3a,h4a,hx]) (fun j _=>?_) (fun j _=>?_)⟩⟩ (by first | omega | (simp only;omega) | (dsimp only;omega) | (show _ < _;simp;omega))⟩
   ·rw [zqR hf]
    split
    ·rename_i e;subst e;simp;omega
    ·rfl
   ·rw [zqR hf]
    split
    ·rename_i e;subst e;rw [zaR];rfl
    ·rfl
  ·have e:∀ j,zaN f j (m + 1) = zaN f j m:=fun j=>zzO hf
   refine zac (m + 1) ⟨(by (first | (simp (maxSteps:=9^7) -dsimp only [gr,reduceEqDiff,reduceLT,reduceAdd,reduceMod,Nat.reduceBEq,h0a,h3a,h4a,zaa h (by omega)];first | done | rfl | (simp;done)) | assumption | rfl)),(by (first | (simp (maxSteps:=9^7) -dsimp only [gr,reduceEqDiff,reduceLT,reduceAdd,reduceMod,Nat.reduceBEq,h0a,h3a,h4a,zaa h (by omega)];first | done | rfl | (simp;done)) | assumption | rfl)),(by (first | (simp (maxSteps:=9^7) -dsimp only [gr,reduceEqDiff,reduceLT,reduceAdd,reduceMod,Nat.reduceBEq,h0a,h3a,h4a,zaa h (by omega)];first | done | rfl | (simp;done)) | assumption | rfl)),⟨by omega,?_⟩⟩ (by first | omega | (simp only;omega) | (dsimp only;omega) | (show _ < _;simp;omega))
   simp only [e]
   exact ht.same (by simp (maxSteps:=9^7) -dsimp only [gr,reduceEqDiff,reduceLT,reduceAdd,reduceMod,Nat.reduceBEq]) (fun x=>by simp (maxSteps:=9^7) -dsimp only [gr,reduceEqDiff,reduceLT,reduceAdd,reduceMod,Nat.reduceBEq])
 ·have:m = 64:=by omega
  subst this
  exact zzN ht (by decide) (by omega)
theorem zn2 (f:Nat→Bool):AC Tryz.prog 125 [u64 (zaB f 64:Nat)] (.fr 22 1 (iLL (zex f))):=by
 have:=(zfQ f).flat
 unfold zex iLL
 rw [List.map_map] at this ⊢
 exact this
theorem zhH (a b:Nat) (ha:a < 64) (hb:b < 64) (hp:zat b = zat a + 1):AC Tryz.prog 146 [int a,int b] (.im (int (zge a b))):=by
 refine AC.go (rs:=[.tmp 4]) zaL mixed Tryz.func146 rfl rfl rfl (by kernel_rfl) fun hl=>?_
 have hpa:=zbY ha
 have hand:=zbm (a:=a) (b:=b) (by omega) (by omega)
 simp (maxSteps:=9^7) -dsimp only [↓gp,gq,reduceCtorEq,reduceEqDiff,reduceLT,reduceLeDiff,reduceAdd,reduceMul,reduceSub,Nat.reduceBEq,Int.reduceToNat,Int.reduceLE,Int.reduceLT,Int.reduceNeg,reduceMod,gT,hand]
 refine ⟨fun h=>?_,fun h=>?_⟩
 ·have hs:¬ a &&& b = a:=by
   intro e
   rw [zbP.2 e] at h
   simp at h
  unfold zge;rw [if_neg hs]
 ·have hs:a &&& b = a:=zbP.1 (by
   have h9:((a ^^^ (a &&& b):Nat):Int) = 0:=by simpa using h
   omega)
  obtain ⟨hle,hx⟩:=zu7 a ha b hb hs
  have hne:a ≠ b:=fun e=>by rw [e] at hp;omega
  have hand2:=zbm (a:=b) (b:=a) (by omega) (by omega)
  rw [Nat.and_comm b a,hx] at hand2
  have hw3:IntKind.i64.wrap (((b - a:Nat):Int) - 1) = ((b - a - 1:Nat):Int):=by rw [zap (by omega) (by omega)];omega
  have hand3:=za7 (a:=b) (b:=b - a - 1) (by omega) (by omega)
  have hlt:b &&& (b - a - 1) < 64:=by have:b &&& (b - a - 1) ≤ b:=Nat.and_le_left;omega
  have hp6:=zbY hlt
  have hmod:((zat (b &&& (b - a - 1)):Nat):Int).tmod 2 = ((zat (b &&& (b - a - 1)) % 2:Nat):Int):=by rw [zee (by omega)];omega
  simp (maxSteps:=9^7) -dsimp only [↓gp,gq,reduceCtorEq,reduceEqDiff,reduceLT,reduceLeDiff,reduceAdd,reduceMul,reduceSub,Nat.reduceBEq,Int.reduceToNat,Int.reduceLE,Int.reduceLT,Int.reduceNeg,reduceMod,gT,hand2,hw3,hand3]
  refine zab (zaz _) ?_
  simp (maxSteps:=9^7) -dsimp only [↓gp,gq,reduceCtorEq,reduceEqDiff,reduceLT,reduceLeDiff,reduceAdd,reduceMul,reduceSub,Nat.reduceBEq,Int.reduceToNat,Int.reduceLE,Int.reduceLT,Int.reduceNeg,reduceMod,gT,zc0 hlt,hmod]
  unfold zge
  rw [if_pos hs]
  refine ⟨by decide,fun h0=>?_,fun h0=>?_⟩
  ·rw [if_pos (by have h9:((zat (b &&& (b - a - 1)) % 2:Nat):Int) = 0:=by simpa using h0
                  omega)]
  ·rw [if_neg (by intro e;rw [e] at h0;simp at h0)]
theorem zEr {lo hi:List Nat} {i j:Nat} (hi':i < lo.length) (hj:j < hi.length):(hi.map fun b=>zge (lo.getD i 0) b).getD j 0 = zge (lo.getD i 0) (hi.getD j 0):=by
 simp [List.getD,hj]
theorem zkG (lo hi:List Nat) (k:Nat) (hl1:lo.length ≤ 64) (hl2:hi.length ≤ 64) (hm1:∀ i,i < lo.length→lo.getD i 0 < 64∧zat (lo.getD i 0) = k) (hm2:∀ i,i < hi.length→hi.getD i 0 < 64∧zat (hi.getD i 0) = k + 1) :
 AC Tryz.prog 127 [zaH (ofN lo),zaH (ofN hi)] (.tb 22 3 ((zbQ lo hi).map iL)):=by
 refine AC.go (rs:=[.tmp 4]) zaL mixed Tryz.func127 rfl rfl rfl (by kernel_rfl) fun hl=>?_
 simp (maxSteps:=9^7) -dsimp only [↓gp,gq,reduceCtorEq,reduceEqDiff,reduceLT,reduceLeDiff,reduceAdd,reduceMul,reduceSub,Nat.reduceBEq,Int.reduceToNat,Int.reduceLE,Int.reduceLT,Int.reduceNeg,reduceMod,gT,zad]
 refine ⟨by omega,by omega,?_⟩
 refine zu2 (k:=12) (v:=1) (e:=22) (e2:=3) (n:=lo.length) (by simp (maxSteps:=9^7) -dsimp only [gr,reduceEqDiff,reduceLT,reduceAdd,reduceMod,Nat.reduceBEq,zad]) (fun j=>by simp (maxSteps:=9^7) -dsimp only [gr,reduceEqDiff,reduceLT,reduceAdd,reduceMod,Nat.reduceBEq]) (fun (i:Nat) s=>s.sl 1 = zaH (ofN hi)∧s.sl 5 = .own 12 1∧s.sl 13 = zaH (ofN lo)∧s.sl 14 = int lo.length∧s.sl 15 = int i∧(i ≤ lo.length∧TabP s.rw 12 1 22 3 lo.length i (zbQ (lo.take i) hi))) (fun i=>lo.length - i) (0) (fun sX htX hslX hoX=>(by refine ⟨?_,?_,?_,?_,?_,⟨by omega,htX⟩⟩ <;> (first | (simp (maxSteps:=9^7) -dsimp only [gr,reduceEqDiff,reduceLT,reduceAdd,reduceMod,Nat.reduceBEq,hslX,hoX,zad];first | done | rfl | (simp;done)) | assumption | rfl))) ?_
 intro i sa ⟨h1a,h5a,h13a,h14a,h15a,hIa⟩
 obtain ⟨hi',ht⟩:=hIa
 simp (maxSteps:=9^7) -dsimp only [↓gp,gq,reduceCtorEq,reduceEqDiff,reduceLT,reduceLeDiff,reduceAdd,reduceMul,reduceSub,Nat.reduceBEq,Int.reduceToNat,Int.reduceLE,Int.reduceLT,Int.reduceNeg,reduceMod,gT,h1a,h5a,h13a,h14a,h15a,ht.top,zbE,zad]
 refine ⟨fun h=>?_,fun h=>?_⟩
 ·have hge:(ofN lo).getD i 0 = ((lo.getD i 0:Nat):Int):=zaF h
  have hlen:(zbQ (lo.take i) hi).length = i:=by rw [zci,List.length_take];omega
  refine ⟨h,h,by omega,by omega,h,by omega,?_⟩
  refine zqO (k:=12) (v:=1) (e:=22) (e2:=3) (n:=lo.length) (i:=i) (d:=24) (vd:=(sa.rw 24).ver + 1) (M:=zbQ (lo.take i) hi) (r:=List.replicate hi.length 0) (by simp (maxSteps:=9^7) -dsimp only [gr,reduceEqDiff,reduceLT,reduceAdd,reduceMod,Nat.reduceBEq,ht.top]) hlen (fun j hj=>by simp (maxSteps:=9^7) -dsimp only [gr,reduceEqDiff,reduceLT,reduceAdd,reduceMod,Nat.reduceBEq,ht.row j hj]) (fun j hj=>by simp (maxSteps:=9^7) -dsimp only [gr,reduceEqDiff,reduceLT,reduceAdd,reduceMod,Nat.reduceBEq,ht.rest j hj]) (by simp (maxSteps:=9^7) -dsimp only [gr,reduceEqDiff,reduceLT,reduceAdd,reduceMod,Nat.reduceBEq]) (by decide) (by decide) h (fun (j:Nat) s=>s.sl 1 = zaH (ofN hi)∧s.sl 5 = .own 12 1∧s.sl 13 = zaH (ofN lo)∧s.sl 14 = int lo.length∧s.sl 15 = int i∧s.sl 6 = int i∧s.sl 7 = int (lo.getD i 0:Nat)∧s.sl 26 = zaH (ofN hi)∧s.sl 27 = int hi.length∧s.sl 28 = int j∧(j ≤ hi.length∧TabP s.rw 12 1 22 3 lo.length (i + 1) (zbQ (lo.take i) hi ++ [prt (hi.map fun b=>zge (lo.getD i 0) b) (List.replicate hi.length 0) j]))) (fun j=>hi.length - j) (0) (fun sX htX hslX hoX=>(by refine ⟨?_,?_,?_,?_,?_,?_,?_,?_,?_,?_,⟨by omega,by rw [zed];exact htX⟩⟩ <;> (first | (simp (maxSteps:=9^7) -dsimp only [gr,reduceEqDiff,reduceLT,reduceAdd,reduceMod,Nat.reduceBEq,hslX,hoX,h1a,h5a,h13a,h14a,h15a,zad,hge];first | done | rfl | (simp;done)) | assumption | rfl))) ?_
  intro j sb ⟨h1b,h5b,h13b,h14b,h15b,h6b,h7b,h26b,h27b,h28b,hIb⟩
  obtain ⟨hj,ht2⟩:=hIb
  have hnl:(hi.map fun b=>zge (lo.getD i 0) b).length = (List.replicate hi.length (0:Int)).length:=by simp
  have hrr:=ht2.row i (by omega)
  rw [zqP hlen] at hrr
  have hpl:∀ t,(prt (hi.map fun b=>zge (lo.getD i 0) b) (List.replicate hi.length 0) t).length = hi.length:=fun t=>by rw [zcy hnl];simp
  simp (maxSteps:=9^7) -dsimp only [↓gp,gq,reduceCtorEq,reduceEqDiff,reduceLT,reduceLeDiff,reduceAdd,reduceMul,reduceSub,Nat.reduceBEq,Int.reduceToNat,Int.reduceLE,Int.reduceLT,Int.reduceNeg,reduceMod,gT,h1b,h5b,h13b,h14b,h15b,h6b,h7b,h26b,h27b,h28b,ht2.top,zkC,hrr,hpl,zbE,zad]
  refine ⟨fun h2=>?_,fun h2=>?_⟩
  ·have hge2:(ofN hi).getD j 0 = ((hi.getD j 0:Nat):Int):=zaF h2
   have ha:=hm1 i h
   have hb:=hm2 j h2
   refine ⟨h2,h2,?_⟩
   simp (maxSteps:=9^7) -dsimp only [↓gp,gq,reduceCtorEq,reduceEqDiff,reduceLT,reduceLeDiff,reduceAdd,reduceMul,reduceSub,Nat.reduceBEq,Int.reduceToNat,Int.reduceLE,Int.reduceLT,Int.reduceNeg,reduceMod,gT,h1b,h5b,h13b,h14b,h15b,h6b,h7b,h26b,h27b,h28b,ht2.top,zkC,hrr,hpl,zbE,hge2]
   refine ⟨by kernel_rfl,h,h,zab (zhH _ _ ha.1 hb.1 (by omega)) ?_⟩
   simp (maxSteps:=9^7) -dsimp only [↓gp,gq,reduceCtorEq,reduceEqDiff,reduceLT,reduceLeDiff,reduceAdd,reduceMul,reduceSub,Nat.reduceBEq,Int.reduceToNat,Int.reduceLE,Int.reduceLT,Int.reduceNeg,reduceMod,gT,h1b,h5b,h13b,h14b,h15b,h6b,h7b,h26b,h27b,h28b,ht2.top,zkC,hrr,hpl,zbE,hge2]
   refine ⟨h2,by omega,by kernel_rfl,zac (j + 1) ⟨(by (first | (simp (maxSteps:=9^7) -dsimp only [gr,reduceEqDiff,reduceLT,reduceAdd,reduceMod,Nat.reduceBEq,h1b,h5b,h13b,h14b,h15b,h6b,h7b,h26b,h27b,h28b,zaa h2 (by omega)];first | done | rfl | (simp;done)) | assumption | rfl)),(by (first | (simp (maxSteps:=9^7) -dsimp only [gr,reduceEqDiff,reduceLT,reduceAdd,reduceMod,Nat.reduceBEq,h1b,h5b,h13b,h14b,h15b,h6b,h7b,h26b,h27b,h28b,zaa h2 (by omega)];first | done | rfl | (simp;done)) | assumption | rfl)),(by (first | (simp (maxSteps:=9^7) -dsimp only [gr,reduceEqDiff,reduceLT,reduceAdd,reduceMod,Nat.reduceBEq,h1b,h5b,h13b,h14b,h15b,h6b,h7b,h26b,h27b,h28b,zaa h2 (by omega)];first | done | rfl | (simp;done)) | assumption | rfl)),(by (first | (simp (maxSteps:=9^7) -dsimp only [gr,reduceEqDiff,reduceLT,reduceAdd,reduceMod,Nat.reduceBEq,h1b,h5b,h13b,h14b,h15b,h6b,h7b,h26b,h27b,h28b,zaa h2 (by omega)];first | done | rfl | (simp;done)) | assumption | rfl)),(by (first | (simp (maxSteps:=9^7) -dsimp only [gr,reduceEqDiff,reduceLT,reduceAdd,reduceMod,Nat.reduceBEq,h1b,h5b,h13b,h14b,h15b,h6b,h7b,h26b,h27b,h28b,zaa h2 (by omega)];first | done | rfl | (simp;done)) | assumption | rfl)),(by (first | (simp (maxSteps:=9^7) -dsimp only [gr,reduceEqDiff,reduceLT,reduceAdd,reduceMod,Nat.reduceBEq,h1b,h5b,h13b,h14b,h15b,h6b,h7b,h26b,h27b,h28b,zaa h2 (by omega)];first | done | rfl | (simp;done)) | assumption | rfl)),(by (first | (simp (maxSteps:=9^7) -dsimp only [gr,reduceEqDiff,reduceLT,reduceAdd,reduceMod,Nat.reduceBEq,h1b,h5b,h13b,h14b,h15b,h6b,h7b,h26b,h27b,h28b,zaa h2 (by omega)];first | done | rfl | (simp;done)) | assumption | rfl)),(by (first | (simp (maxSteps:=9^7) -dsimp only [gr,reduceEqDiff,reduceLT,reduceAdd,reduceMod,Nat.reduceBEq,h1b,h5b,h13b,h14b,h15b,h6b,h7b,h26b,h27b,h28b,zaa h2 (by omega)];first | done | rfl | (simp;done)) | assumption | rfl)),(by (first | (simp (maxSteps:=9^7) -dsimp only [gr,reduceEqDiff,reduceLT,reduceAdd,reduceMod,Nat.reduceBEq,h1b,h5b,h13b,h14b,h15b,h6b,h7b,h26b,h27b,h28b,zaa h2 (by omega)];first | done | rfl | (simp;done)) | assumption | rfl)),(by (first | (simp (maxSteps:=9^7) -dsimp only [gr,reduceEqDiff,reduceLT,reduceAdd,reduceMod,Nat.reduceBEq,h1b,h5b,h13b,h14b,h15b,h6b,h7b,h26b,h27b,h28b,zaa h2 (by omega)];first | done | rfl | (simp;done)) | assumption | rfl)),⟨by omega,?_⟩⟩ (by first | omega | (simp only;omega) | (dsimp only;omega) | (show _ < _;simp;omega))⟩
   have e:zbQ (lo.take i) hi ++ [prt (hi.map fun b=>zge (lo.getD i 0) b) (List.replicate hi.length 0) (j + 1)] = (zbQ (lo.take i) hi ++ [prt (hi.map fun b=>zge (lo.getD i 0) b) (List.replicate hi.length 0) j]).set i ((prt (hi.map fun b=>zge (lo.getD i 0) b) (List.replicate hi.length 0) j).set j (zge (lo.getD i 0) (hi.getD j 0))):=by
    rw [zu3 hlen,← zEr h h2,zf3 hnl (by simpa using h2)]
   rw [e]
   exact ht2.set (by omega) (by simp (maxSteps:=9^7) -dsimp only [gr,reduceEqDiff,reduceLT,reduceAdd,reduceMod,Nat.reduceBEq,h1b,h5b,h13b,h14b,h15b,h6b,h7b,h26b,h27b,h28b]) (by simp (maxSteps:=9^7) -dsimp only [gr,reduceEqDiff,reduceLT,reduceAdd,reduceMod,Nat.reduceBEq,h1b,h5b,h13b,h14b,h15b,h6b,h7b,h26b,h27b,h28b]) (fun x hx=>by simp (maxSteps:=9^7) -dsimp only [gr,reduceEqDiff,reduceLT,reduceAdd,reduceMod,Nat.reduceBEq,h1b,h5b,h13b,h14b,h15b,h6b,h7b,h26b,h27b,h28b,hx])
  ·have:j = hi.length:=by omega
   subst this
   refine zac (i + 1) ⟨(by (first | (simp (maxSteps:=9^7) -dsimp only [gr,reduceEqDiff,reduceLT,reduceAdd,reduceMod,Nat.reduceBEq,h1a,h5a,h13a,h14a,h15a,h1b,h5b,h13b,h14b,h15b,h6b,h7b,h26b,h27b,h28b,zaa h (by omega)];first | done | rfl | (simp;done)) | assumption | rfl)),(by (first | (simp (maxSteps:=9^7) -dsimp only [gr,reduceEqDiff,reduceLT,reduceAdd,reduceMod,Nat.reduceBEq,h1a,h5a,h13a,h14a,h15a,h1b,h5b,h13b,h14b,h15b,h6b,h7b,h26b,h27b,h28b,zaa h (by omega)];first | done | rfl | (simp;done)) | assumption | rfl)),(by (first | (simp (maxSteps:=9^7) -dsimp only [gr,reduceEqDiff,reduceLT,reduceAdd,reduceMod,Nat.reduceBEq,h1a,h5a,h13a,h14a,h15a,h1b,h5b,h13b,h14b,h15b,h6b,h7b,h26b,h27b,h28b,zaa h (by omega)];first | done | rfl | (simp;done)) | assumption | rfl)),(by (first | (simp (maxSteps:=9^7) -dsimp only [gr,reduceEqDiff,reduceLT,reduceAdd,reduceMod,Nat.reduceBEq,h1a,h5a,h13a,h14a,h15a,h1b,h5b,h13b,h14b,h15b,h6b,h7b,h26b,h27b,h28b,zaa h (by omega)];first | done | rfl | (simp;done)) | assumption | rfl)),(by (first | (simp (maxSteps:=9^7) -dsimp only [gr,reduceEqDiff,reduceLT,reduceAdd,reduceMod,Nat.reduceBEq,h1a,h5a,h13a,h14a,h15a,h1b,h5b,h13b,h14b,h15b,h6b,h7b,h26b,h27b,h28b,zaa h (by omega)];first | done | rfl | (simp;done)) | assumption | rfl)),⟨by omega,?_⟩⟩ (by first | omega | (simp only;omega) | (dsimp only;omega) | (show _ < _;simp;omega))
   have e:prt (hi.map fun b=>zge (lo.getD i 0) b) (List.replicate hi.length 0) hi.length = hi.map fun b=>zge (lo.getD i 0) b:=by
    have:=zf2 hnl
    simpa using this
   have ht3:=ht2
   rw [e,zmZ h] at ht3
   exact ht3.same (by simp (maxSteps:=9^7) -dsimp only [gr,reduceEqDiff,reduceLT,reduceAdd,reduceMod,Nat.reduceBEq]) (fun x=>by simp (maxSteps:=9^7) -dsimp only [gr,reduceEqDiff,reduceLT,reduceAdd,reduceMod,Nat.reduceBEq])
 ·have:i = lo.length:=by omega
  subst this
  rw [List.take_length] at ht
  exact zqN ht.done (by decide) (fun j hj=>by have:=List.mem_range.1 hj;omega)
noncomputable def rkL (f:Nat→Bool) (p:Int) (k:Nat):List Int:=(List.range (zbh f + 1)).map fun j=>if j < k then (rkF f p j:Int) else 0
theorem zwd (f:Nat→Bool) (p:Int) (k:Nat):(rkL f p k).length = zbh f + 1:=by simp [rkL]
theorem zBJ (f:Nat→Bool) (p:Int) {k j:Nat} (h:j < zbh f + 1):(rkL f p k).getD j 0 = if j < k then (rkF f p j:Int) else 0:=by simp [rkL,List.getD,h]
theorem zEp (f:Nat→Bool) (p:Int):List.replicate (zbh f + 1) 0 = rkL f p 1:=by
 refine List.ext_getElem (by simp [rkL]) fun j a b=>?_
 simp only [List.getElem_replicate,rkL,List.getElem_map,List.getElem_range]
 split
 ·have:j = 0:=by omega
  subst this;simp [rkF]
 ·rfl
theorem zEq (f:Nat→Bool) (p:Int) {k:Nat} (h:k < zbh f):(rkL f p k).set k (rkF f p k) = rkL f p (k + 1):=by
 refine List.ext_getElem (by simp [rkL]) fun j a b=>?_
 rw [List.getElem_set]
 simp only [rkL,List.getElem_map,List.getElem_range]
 by_cases e:k = j
 ·subst e;simp
 ·rw [if_neg e]
  by_cases h1:j < k
  ·rw [if_pos h1,if_pos (by omega)]
  ·rw [if_neg h1,if_neg (by omega)]
theorem zln (f:Nat→Bool) (p:Int) (hp:isP p = true):AC Tryz.prog 107 [u64 (zaB f 64:Nat),int p] (.fr 3 1 (iL (zf5 f p))):=by
 refine AC.go (rs:=[.tmp 4]) zaL mixed Tryz.func107 rfl rfl rfl (by kernel_rfl) fun hl=>?_
 have hd:=zcA f
 have hsl:=zg0 f
 simp (maxSteps:=9^7) -dsimp only [↓gp,gq,reduceCtorEq,reduceEqDiff,reduceLT,reduceLeDiff,reduceAdd,reduceMul,reduceSub,Nat.reduceBEq,Int.reduceToNat,Int.reduceLE,Int.reduceLT,Int.reduceNeg,reduceMod,gT]
 refine zab (zn2 f) ?_
 have hw:IntKind.i64.wrap ((zbh f:Int) + 1) = ((zbh f + 1:Nat):Int):=by rw [zap (by omega) (by omega)];rfl
 simp (maxSteps:=9^7) -dsimp only [↓gp,gq,reduceCtorEq,reduceEqDiff,reduceLT,reduceLeDiff,reduceAdd,reduceMul,reduceSub,Nat.reduceBEq,Int.reduceToNat,Int.reduceLE,Int.reduceLT,Int.reduceNeg,reduceMod,gT,hsl,hw]
 refine ⟨by omega,by omega,?_⟩
 refine zah (fun (za:Nat × Nat × Nat) s=>match za with | (k,v,w)=>s.sl 1 = int p∧s.sl 5 = .own 11 v∧s.rw 11 = ⟨v,.sli 22 1 false (iLL (zex f))⟩∧s.sl 6 = .own 15 w∧s.rw 15 = ⟨w,.sli 3 1 false (iL (rkL f p k))⟩∧s.sl 7 = int k∧(1 ≤ k∧k ≤ zbh f + 1∧(k ≤ zbh f ∨ zbh f = 0))) (fun (k,v,w)=>zbh f + 1 - k) ((1,1,1)) (by refine ⟨?_,?_,?_,?_,?_,?_,by simp;omega⟩ <;> (first | (simp (maxSteps:=9^7) -dsimp only [gr,reduceEqDiff,reduceLT,reduceAdd,reduceMod,Nat.reduceBEq,hsl,hw,zEp f p,zcH];first | done | rfl | (simp;done)) | assumption | rfl)) ?_
 intro (k,v,w) sa ⟨h1a,h5a,r11a,h6a,r15a,h7a,hIa⟩
 obtain ⟨hk1,hk2,hk3⟩:=hIa
 have hrl:=zwd f p k
 simp (maxSteps:=9^7) -dsimp only [↓gp,gq,reduceCtorEq,reduceEqDiff,reduceLT,reduceLeDiff,reduceAdd,reduceMul,reduceSub,Nat.reduceBEq,Int.reduceToNat,Int.reduceLE,Int.reduceLT,Int.reduceNeg,reduceMod,gT,h1a,h5a,r11a,h6a,r15a,h7a,hsl,hrl]
 refine ⟨fun h=>?_,fun h=>?_⟩
 ·have hwk:IntKind.i64.wrap ((k:Int) - 1) = ((k - 1:Nat):Int):=by rw [zap (by omega) (by omega)];omega
  have hg1:=zef f (k:=k - 1) (by omega)
  have hg2:=zef f h
  have ho1:=zb5 f (k - 1) (Nat.le_refl 64)
  have ho2:=zb5 f k (Nat.le_refl 64)
  simp (maxSteps:=9^7) -dsimp only [↓gp,gq,reduceCtorEq,reduceEqDiff,reduceLT,reduceLeDiff,reduceAdd,reduceMul,reduceSub,Nat.reduceBEq,Int.reduceToNat,Int.reduceLE,Int.reduceLT,Int.reduceNeg,reduceMod,gT,h1a,h5a,r11a,h6a,r15a,h7a,hsl,hrl,hwk,hg1,hg2]
  refine ⟨by kernel_rfl,by omega,by omega,h,h,zab (zkG (zaN f (k - 1) 64) (zaN f k 64) (k - 1) ho1 ho2 (fun i hi=>?_) (fun i hi=>?_)) ?_⟩
  ·have:=zbW.1 (zan 0 hi);exact ⟨this.1,this.2.2⟩
  ·have:=zbW.1 (zan 0 hi);exact ⟨this.1,by omega⟩
  ·simp (maxSteps:=9^7) -dsimp only [↓gp,gq,reduceCtorEq,reduceEqDiff,reduceLT,reduceLeDiff,reduceAdd,reduceMul,reduceSub,Nat.reduceBEq,Int.reduceToNat,Int.reduceLE,Int.reduceLT,Int.reduceNeg,reduceMod,gT,h1a,h5a,r11a,h6a,r15a,h7a,hsl,hrl,hwk,hg1,hg2]
   have hrk:zn1 p (zbQ (zaN f (k - 1) 64) (zaN f k 64)) = rkF f p k:=by unfold rkF;rw [if_neg (by omega)]
   have hb1:=zci (zaN f (k - 1) 64) (zaN f k 64)
   have hb3:=zm2 (zaN f (k - 1) 64) (zaN f k 64)
   refine zab (zn4 _ p hp (by omega) (zm1 _ _) (by omega)) ?_
   rw [hrk]
   have hset:=zEq f p h
   simp (maxSteps:=9^7) -dsimp only [↓gp,gq,reduceCtorEq,reduceEqDiff,reduceLT,reduceLeDiff,reduceAdd,reduceMul,reduceSub,Nat.reduceBEq,Int.reduceToNat,Int.reduceLE,Int.reduceLT,Int.reduceNeg,reduceMod,gT,h1a,h5a,r11a,h6a,r15a,h7a,hsl,hrl,hwk,hg1,hg2,hset]
   refine ⟨by omega,by omega,by kernel_rfl,?_⟩
   exact zac ((k + 1,v,w)) (by refine ⟨?_,?_,?_,?_,?_,?_,⟨by dsimp only;omega,by dsimp only;omega,by dsimp only;omega⟩⟩ <;> (first | (simp (maxSteps:=9^7) -dsimp only [gr,reduceEqDiff,reduceLT,reduceAdd,reduceMod,Nat.reduceBEq,h1a,h5a,r11a,h6a,r15a,h7a,zaa h (by omega),hwk,hg1,hg2,hset];first | done | rfl | (simp;done)) | assumption | rfl)) (by first | omega | (simp only;omega) | (dsimp only;omega) | (show _ < _;simp;omega))
 ·have hrk:∀ j,j < zbh f + 1→(rkL f p k).getD j 0 = (rkF f p j:Int):=fun j hj=>by
   rw [zBJ f p hj]
   split
   ·rfl
   ·rw [zzP (by omega)];rfl
  generalize rkL f p k = rk at *
  refine ⟨by omega,by omega,?_⟩
  refine zah (fun (zb:Nat × Nat × Nat × Nat) s=>match zb with | (k,v,w,u)=>s.sl 5 = .own 11 v∧s.rw 11 = ⟨v,.sli 22 1 false (iLL (zex f))⟩∧s.sl 6 = .own 15 w∧s.rw 15 = ⟨w,.sli 3 1 false (iL rk)⟩∧s.sl 8 = .own 39 u∧s.rw 39 = ⟨u,.sli 3 1 false (iL (prt (zf5 f p) (List.replicate (zbh f) 0) k))⟩∧s.sl 41 = int (zbh f:Nat)∧s.sl 42 = int k∧(k ≤ zbh f)) (fun (k,v,w,u)=>zbh f - k) ((0,v,w,(sa.rw 39).ver + 1)) (by refine ⟨?_,?_,?_,?_,?_,?_,?_,?_,by omega⟩ <;> (first | (simp (maxSteps:=9^7) -dsimp only [gr,reduceEqDiff,reduceLT,reduceAdd,reduceMod,Nat.reduceBEq,h1a,h5a,r11a,h6a,r15a,h7a,hsl,zed,zcH];first | done | rfl | (simp;done)) | assumption | rfl)) ?_
  intro (k,v,w,u) sb ⟨h5b,r11b,h6b,r15b,h8b,r39b,h41b,h42b,hIb⟩
  have hnl:(zf5 f p).length = (List.replicate (zbh f) (0:Int)).length:=by simp [zbG]
  have hpl:(prt (zf5 f p) (List.replicate (zbh f) 0) k).length = zbh f:=by rw [zcy hnl];simp
  by_cases h2:k < zbh f
  ·have hwk:=zaa h2 (by omega)
   have hg1:=zef f h2
   have ho1:=zb5 f k (Nat.le_refl 64)
   have hr1:=zu6 f p k
   have hr2:=zu6 f p (k + 1)
   have hw1:IntKind.i64.wrap (((zaN f k 64).length:Int) - (rkF f p k:Int)) = ((zaN f k 64).length:Int) - (rkF f p k:Int):=zap (by omega) (by omega)
   have hw2:IntKind.i64.wrap (((zaN f k 64).length:Int) - (rkF f p k:Int) - (rkF f p (k + 1):Int)) = ((zaN f k 64).length:Int) - (rkF f p k:Int) - (rkF f p (k + 1):Int):=zap (by omega) (by omega)
   have hk1:=hrk k (by omega)
   have hk2:=hrk (k + 1) (by omega)
   have hset:(prt (zf5 f p) (List.replicate (zbh f) 0) k).set k (((zaN f k 64).length:Int) - rkF f p k - rkF f p (k + 1)) = prt (zf5 f p) (List.replicate (zbh f) 0) (k + 1):=by
    rw [← zkM f p h2,zf3 hnl (by simpa using h2)]
   simp (maxSteps:=9^7) -dsimp only [↓gp,gq,reduceCtorEq,reduceEqDiff,reduceLT,reduceLeDiff,reduceAdd,reduceMul,reduceSub,Nat.reduceBEq,Int.reduceToNat,Int.reduceLE,Int.reduceLT,Int.reduceNeg,reduceMod,gT,h5b,r11b,h6b,r15b,h8b,r39b,h41b,h42b,hsl,hrl,hpl,hwk,hg1,zad,hk1,hk2,hw1,hw2,hset]
   refine ⟨fun _=>⟨by kernel_rfl,h2,h2,by omega,by omega,by omega,by omega,h2,by omega,by kernel_rfl,?_⟩,fun h3=>absurd h2 h3⟩
   exact zac ((k + 1,v,w,u)) (by refine ⟨?_,?_,?_,?_,?_,?_,?_,?_,by dsimp only;omega⟩ <;> (first | (simp (maxSteps:=9^7) -dsimp only [gr,reduceEqDiff,reduceLT,reduceAdd,reduceMod,Nat.reduceBEq,h5b,r11b,h6b,r15b,h8b,r39b,h41b,h42b,hwk,hg1,hk1,hk2,hw1,hw2,hset];first | done | rfl | (simp;done)) | assumption | rfl)) (by first | omega | (simp only;omega) | (dsimp only;omega) | (show _ < _;simp;omega))
  ·simp (maxSteps:=9^7) -dsimp only [↓gp,gq,reduceCtorEq,reduceEqDiff,reduceLT,reduceLeDiff,reduceAdd,reduceMul,reduceSub,Nat.reduceBEq,Int.reduceToNat,Int.reduceLE,Int.reduceLT,Int.reduceNeg,reduceMod,gT,h5b,r11b,h6b,r15b,h8b,r39b,h41b,h42b,hsl,hrl,hpl]
   refine ⟨fun h3=>absurd h3 h2,fun _=>?_⟩
   have e:k = (List.replicate (zbh f) (0:Int)).length:=by simp;omega
   have:=zf2 hnl
   rw [← e] at this
   rw [this]
noncomputable def zmY (n:Int) (xs:List Int):Bool:=zaV n xs && !(xs.length == 0)
theorem zbV {n:Int} {xs:List Int}:zmY n xs = true ↔ zaV n xs = true∧0 < xs.length:=by
 unfold zmY
 cases zaV n xs <;> simp [Nat.pos_iff_ne_zero]
noncomputable def zdE (n:Int) (xs:List Int):Int:=if zmY n xs = true then (zat (xs.getD (xs.length - 1) 0).toNat:Int) - 1 else -2
theorem zch (n:Int) (xs:List Int):AC Tryz.prog 39 [.ag [int n,zaH xs]] (.im (int (zdE n xs))):=by
 refine AC.go (rs:=[.tmp 2]) zaL mixed Tryz.func39 rfl rfl rfl (by kernel_rfl) fun hl=>?_
 simp only [zaJ,zaX,and_true,zbM,zc6,zcm,true_and] at hl
 simp (maxSteps:=9^7) -dsimp only [↓gp,gq,reduceCtorEq,reduceEqDiff,reduceLT,reduceLeDiff,reduceAdd,reduceMul,reduceSub,Nat.reduceBEq,Int.reduceToNat,Int.reduceLE,Int.reduceLT,Int.reduceNeg,reduceMod,gT]
 refine zab (zaI n xs) ?_
 have hw:0 < xs.length→IntKind.i64.wrap ((xs.length:Int) - 1) = ((xs.length - 1:Nat):Int):=fun h=>by rw [zap (by omega) (by omega)];omega
 by_cases hh:zmY n xs = true
 ·obtain ⟨h1,h2⟩:=zbV.1 hh
  have hs:=zqS (zcQ h1) (k:=xs.length - 1) (by omega)
  have hc:=zcD (s:=xs.getD (xs.length - 1) 0) hs.1 (by omega)
  have hz:((xs.length:Int) == 0) = false:=by rw [beq_eq_false_iff_ne];omega
  have hp:=zbY (s:=(xs.getD (xs.length - 1) 0).toNat) (by omega)
  simp (maxSteps:=9^7) -dsimp only [↓gp,gq,reduceCtorEq,reduceEqDiff,reduceLT,reduceLeDiff,reduceAdd,reduceMul,reduceSub,Nat.reduceBEq,Int.reduceToNat,Int.reduceLE,Int.reduceLT,Int.reduceNeg,reduceMod,gT,h1,hz,hw h2,Int.toNat_natCast]
  refine ⟨by omega,by omega,zab hc ?_⟩
  have hw2:IntKind.i64.wrap ((zat (xs.getD (xs.length - 1) 0).toNat:Int) - 1) = (zat (xs.getD (xs.length - 1) 0).toNat:Int) - 1:=zap (by omega) (by omega)
  have hd:zdE n xs = (zat (xs.getD (xs.length - 1) 0).toNat:Int) - 1:=if_pos hh
  simp (maxSteps:=9^7) -dsimp only [↓gp,gq,reduceCtorEq,reduceEqDiff,reduceLT,reduceLeDiff,reduceAdd,reduceMul,reduceSub,Nat.reduceBEq,Int.reduceToNat,Int.reduceLE,Int.reduceLT,Int.reduceNeg,reduceMod,gT,hw2,hd]
 ·have hd:zdE n xs = -2:=if_neg hh
  rw [hd]
  simp (maxSteps:=9^7) -dsimp only [↓gp,gq,reduceCtorEq,reduceEqDiff,reduceLT,reduceLeDiff,reduceAdd,reduceMul,reduceSub,Nat.reduceBEq,Int.reduceToNat,Int.reduceLE,Int.reduceLT,Int.reduceNeg,reduceMod,gT]
  exact fun hc h0=>absurd (zbV.2 ⟨by simpa using hc,by simp at h0;exact List.length_pos_iff.2 h0⟩) hh
theorem zgZ (n:Int) (xs:List Int) (hx:okS xs):AC Tryz.prog 93 [int n,zaH xs] (.ag [.im (int n),.fr 3 1 (iL (ofN (zdW (inF xs) true)))]):=by
 refine AC.go (rs:=[.cell 4 27]) zaL mixed Tryz.func93 rfl rfl rfl (by kernel_rfl) fun hl=>?_
 simp (maxSteps:=9^7) -dsimp only [↓gp,gq,reduceCtorEq,reduceEqDiff,reduceLT,reduceLeDiff,reduceAdd,reduceMul,reduceSub,Nat.reduceBEq,Int.reduceToNat,Int.reduceLE,Int.reduceLT,Int.reduceNeg,reduceMod,gT]
 refine zab (zey true xs hx) ?_
 simp (maxSteps:=9^7) -dsimp only [↓gp,gq,reduceCtorEq,reduceEqDiff,reduceLT,reduceLeDiff,reduceAdd,reduceMul,reduceSub,Nat.reduceBEq,Int.reduceToNat,Int.reduceLE,Int.reduceLT,Int.reduceNeg,reduceMod,gT]
noncomputable def ziD (n:Int) (xs:List Int) (s:Nat):Bool:=zaV n xs && (zcX n s && !zal xs s)
noncomputable def zq2 (n:Int) (xs:List Int):List Nat:=zdW (ziD n xs) false
theorem zzY {n:Int} {xs:List Int} {s:Nat} (h:ziD n xs s = true):s < 64:=by
 unfold ziD at h
 simp only [Bool.and_eq_true] at h
 have:=zd9 h.2.1
 omega
theorem zBR (n:Int) (xs:List Int):inF (ofN ((List.range 64).filter (ziD n xs))) = ziD n xs:=by
 funext s
 rw [zkI]
 refine Bool.eq_iff_iff.2 ?_
 rw [decide_eq_true_iff,List.mem_filter,List.mem_range]
 exact ⟨fun h=>h.2,fun h=>⟨zzY h,h⟩⟩
theorem zsh {n:Int} {xs:List Int} (h:zaV n xs = false) (s:Nat):ziD n xs s = false:=by unfold ziD;rw [h];rfl
theorem zEv {n:Int} {xs:List Int} (h:zaV n xs = false):zq2 n xs = []:=by
 unfold zq2 zdW za9 zaN
 have:ziD n xs = fun _=>false:=funext (zsh h)
 rw [this];simp
theorem zva (n:Int) (xs:List Int):(zq2 n xs).length ≤ 448:=zBQ _ _
theorem zg7 (n:Int) (xs:List Int):AC Tryz.prog 66 [.ag [int n,zaH xs]] (.fr 3 1 (iL (ofN (zq2 n xs)))):=by
 refine AC.go (rs:=[.tmp 2]) zaL mixed Tryz.func66 rfl rfl rfl (by kernel_rfl) fun hl=>?_
 simp (maxSteps:=9^7) -dsimp only [↓gp,gq,reduceCtorEq,reduceEqDiff,reduceLT,reduceLeDiff,reduceAdd,reduceMul,reduceSub,Nat.reduceBEq,Int.reduceToNat,Int.reduceLE,Int.reduceLT,Int.reduceNeg,reduceMod,gT]
 refine zah (fun (za:Nat × Nat) s=>match za with | (t,v)=>s.sl 1 = .ref 1 1 0∧s.rw 1 = ⟨1,.box 27 [int n,zaH xs]⟩∧s.sl 3 = .own 5 v∧s.rw 5 = ⟨v,.sli 3 1 false (iL (ofN ((List.range t).filter (ziD n xs))))⟩∧s.sl 4 = int t∧(t ≤ 64)) (fun (t,v)=>64 - t) ((0,1)) (by refine ⟨?_,?_,?_,?_,?_,by simp⟩ <;> (first | (simp (maxSteps:=9^7) -dsimp only [gr,reduceEqDiff,reduceLT,reduceAdd,reduceMod,Nat.reduceBEq];first | done | rfl | (simp;done)) | assumption | rfl)) ?_
 intro (t,v) sa ⟨h1a,r1a,h3a,r5a,h4a,hIa⟩
 have hfl:((List.range t).filter (ziD n xs)).length ≤ 64:=by
  have:=List.length_filter_le (ziD n xs) (List.range t)
  rw [List.length_range] at this
  omega
 have hend:(t = 64 ∨ zaV n xs = false)→inF (ofN ((List.range t).filter (ziD n xs))) = ziD n xs:=fun h=>by
  rcases h with rfl | h
  ·exact zBR n xs
  ·funext i
   rw [zkI,zsh h]
   exact decide_eq_false fun hm=>by rw [List.mem_filter,zsh h] at hm;cases hm.2
 have hext:(t = 64 ∨ zaV n xs = false)→AC Tryz.prog 94 [zaH (ofN ((List.range t).filter (ziD n xs))),bool false] (.fr 3 1 (iL (ofN (zq2 n xs)))):=fun h=>by
  have:=zey false _ (zzQ (l:=(List.range t).filter (ziD n xs)) fun i hi=>zzY (List.mem_filter.1 hi).2)
  rwa [hend h] at this
 simp (maxSteps:=9^7) -dsimp only [↓gp,gq,reduceCtorEq,reduceEqDiff,reduceLT,reduceLeDiff,reduceAdd,reduceMul,reduceSub,Nat.reduceBEq,Int.reduceToNat,Int.reduceLE,Int.reduceLT,Int.reduceNeg,reduceMod,gT,h1a,r1a,h3a,r5a,h4a]
 refine ⟨fun h=>zab (zaI n xs) ?_,fun h=>zab (hext (.inl (by omega))) ?_⟩
 ·simp (maxSteps:=9^7) -dsimp only [↓gp,gq,reduceCtorEq,reduceEqDiff,reduceLT,reduceLeDiff,reduceAdd,reduceMul,reduceSub,Nat.reduceBEq,Int.reduceToNat,Int.reduceLE,Int.reduceLT,Int.reduceNeg,reduceMod,gT,h1a,r1a,h3a,r5a,h4a]
  refine ⟨fun hc=>zab (zhT _ _) ?_,fun hc=>zab (hext (.inr hc)) ?_⟩
  ·have hx:=zcQ hc
   have h:t < 64:=by omega
   have hms:ziD n xs t = (zcX n t && !zal xs t):=by unfold ziD;rw [hc];rfl
   have hyes:ziD n xs t = true→ofN ((List.range (t + 1)).filter (ziD n xs)) = ofN ((List.range t).filter (ziD n xs)) ++ [(t:Int)]:=fun h=>by
    rw [List.range_succ,List.filter_append,zaR]
    simp [h,ofN]
   have hno:ziD n xs t = false→ofN ((List.range (t + 1)).filter (ziD n xs)) = ofN ((List.range t).filter (ziD n xs)):=fun h=>by
    rw [List.range_succ,List.filter_append,zaR]
    simp [h,ofN]
   simp (maxSteps:=9^7) -dsimp only [↓gp,gq,reduceCtorEq,reduceEqDiff,reduceLT,reduceLeDiff,reduceAdd,reduceMul,reduceSub,Nat.reduceBEq,Int.reduceToNat,Int.reduceLE,Int.reduceLT,Int.reduceNeg,reduceMod,gT,h1a,r1a,h3a,r5a,h4a]
   refine ⟨fun hs=>zab (zdu n xs t hx h) ?_,fun hs=>?_⟩
   ·simp (maxSteps:=9^7) -dsimp only [↓gp,gq,reduceCtorEq,reduceEqDiff,reduceLT,reduceLeDiff,reduceAdd,reduceMul,reduceSub,Nat.reduceBEq,Int.reduceToNat,Int.reduceLE,Int.reduceLT,Int.reduceNeg,reduceMod,gT,h1a,r1a,h3a,r5a,h4a]
    refine ⟨fun hf=>?_,fun hf=>?_⟩
    ·have e:=hyes (by rw [hms,hs,hf];rfl)
     refine ⟨by rw [zad];omega,zac ((t + 1,v + 1)) (by refine ⟨?_,?_,?_,?_,?_,by dsimp only;omega⟩ <;> (first | (simp (maxSteps:=9^7) -dsimp only [gr,reduceEqDiff,reduceLT,reduceAdd,reduceMod,Nat.reduceBEq,h1a,r1a,h3a,r5a,h4a,zaa h (by omega),e];first | done | rfl | (simp;done)) | assumption | rfl)) (by first | omega | (simp only;omega) | (dsimp only;omega) | (show _ < _;simp;omega))⟩
    ·have e:=hno (by rw [hms,hf];simp)
     exact zac ((t + 1,v)) (by refine ⟨?_,?_,?_,?_,?_,by dsimp only;omega⟩ <;> (first | (simp (maxSteps:=9^7) -dsimp only [gr,reduceEqDiff,reduceLT,reduceAdd,reduceMod,Nat.reduceBEq,h1a,r1a,h3a,r5a,h4a,zaa h (by omega),e];first | done | rfl | (simp;done)) | assumption | rfl)) (by first | omega | (simp only;omega) | (dsimp only;omega) | (show _ < _;simp;omega))
   ·have e:=hno (by rw [hms,hs];rfl)
    exact zac ((t + 1,v)) (by refine ⟨?_,?_,?_,?_,?_,by dsimp only;omega⟩ <;> (first | (simp (maxSteps:=9^7) -dsimp only [gr,reduceEqDiff,reduceLT,reduceAdd,reduceMod,Nat.reduceBEq,h1a,r1a,h3a,r5a,h4a,zaa h (by omega),e];first | done | rfl | (simp;done)) | assumption | rfl)) (by first | omega | (simp only;omega) | (dsimp only;omega) | (show _ < _;simp;omega))
  ·simp (maxSteps:=9^7) -dsimp only [↓gp,gq,reduceCtorEq,reduceEqDiff,reduceLT,reduceLeDiff,reduceAdd,reduceMul,reduceSub,Nat.reduceBEq,Int.reduceToNat,Int.reduceLE,Int.reduceLT,Int.reduceNeg,reduceMod,gT,h1a,r1a,h3a,r5a,h4a]
 ·simp (maxSteps:=9^7) -dsimp only [↓gp,gq,reduceCtorEq,reduceEqDiff,reduceLT,reduceLeDiff,reduceAdd,reduceMul,reduceSub,Nat.reduceBEq,Int.reduceToNat,Int.reduceLE,Int.reduceLT,Int.reduceNeg,reduceMod,gT,h1a,r1a,h3a,r5a,h4a]
theorem zg8 (G t:Nat) (hG:G < 18446744073709551616) (ht:t < 64):AC Tryz.prog 129 [int t,.eref false [u64 G] 0] (.im (bool (!G.testBit t))):=by
 refine AC.go (rs:=[.tmp 3]) zaL mixed Tryz.func129 rfl rfl rfl (by kernel_rfl) fun hl=>?_
 simp (maxSteps:=9^7) -dsimp only [↓gp,gq,reduceCtorEq,reduceEqDiff,reduceLT,reduceLeDiff,reduceAdd,reduceMul,reduceSub,Nat.reduceBEq,Int.reduceToNat,Int.reduceLE,Int.reduceLT,Int.reduceNeg,reduceMod,gT]
 refine zab (zbF G t hG ht) ?_
 simp (maxSteps:=9^7) -dsimp only [↓gp,gq,reduceCtorEq,reduceEqDiff,reduceLT,reduceLeDiff,reduceAdd,reduceMul,reduceSub,Nat.reduceBEq,Int.reduceToNat,Int.reduceLE,Int.reduceLT,Int.reduceNeg,reduceMod,gT]
theorem ziE (n G:Nat) (hn:n ≤ 6) (hG:G < 18446744073709551616):AC Tryz.prog 109 [int n,u64 G] (.fr 3 1 (iL (ofN (zdW (fun s=>decide (s < 2 ^ n) && !G.testBit s) false)))):=by
 refine AC.go (rs:=[.tmp 4]) zaL mixed Tryz.func109 rfl rfl rfl (by kernel_rfl) fun hl=>?_
 have h64:=zcg hn
 simp (maxSteps:=9^7) -dsimp only [↓gp,gq,reduceCtorEq,reduceEqDiff,reduceLT,reduceLeDiff,reduceAdd,reduceMul,reduceSub,Nat.reduceBEq,Int.reduceToNat,Int.reduceLE,Int.reduceLT,Int.reduceNeg,reduceMod,gT]
 refine zab (zdf n hn _ [.eref false [u64 G] 0] (fun s=>!G.testBit s) (fun rw=>rfl) fun s hs=>zg8 G s hG (by omega)) ?_
 simp (maxSteps:=9^7) -dsimp only [↓gp,gq,reduceCtorEq,reduceEqDiff,reduceLT,reduceLeDiff,reduceAdd,reduceMul,reduceSub,Nat.reduceBEq,Int.reduceToNat,Int.reduceLE,Int.reduceLT,Int.reduceNeg,reduceMod,gT]
 refine zab (ziz _ (zqU _ hn)) ?_
 have e:(zaB (fun s=>!G.testBit s) (2 ^ n)).testBit = fun s=>decide (s < 2 ^ n) && !G.testBit s:=funext fun s=>zdQ _ _ _
 rw [e]
 simp (maxSteps:=9^7) -dsimp only [↓gp,gq,reduceCtorEq,reduceEqDiff,reduceLT,reduceLeDiff,reduceAdd,reduceMul,reduceSub,Nat.reduceBEq,Int.reduceToNat,Int.reduceLE,Int.reduceLT,Int.reduceNeg,reduceMod,gT]
theorem zg9 (n:Int) (xs:List Int):AC Tryz.prog 80 [.ag [int n,zaH xs]] (.fr 3 1 (iL (ofN (zq2 n xs)))):=by
 refine AC.go (rs:=[.tmp 2]) zaL mixed Tryz.func80 rfl rfl rfl (by kernel_rfl) fun hl=>?_
 simp (maxSteps:=9^7) -dsimp only [↓gp,gq,reduceCtorEq,reduceEqDiff,reduceLT,reduceLeDiff,reduceAdd,reduceMul,reduceSub,Nat.reduceBEq,Int.reduceToNat,Int.reduceLE,Int.reduceLT,Int.reduceNeg,reduceMod,gT]
 refine zab (zaC n xs) ?_
 simp (maxSteps:=9^7) -dsimp only [↓gp,gq,reduceCtorEq,reduceEqDiff,reduceLT,reduceLeDiff,reduceAdd,reduceMul,reduceSub,Nat.reduceBEq,Int.reduceToNat,Int.reduceLE,Int.reduceLT,Int.reduceNeg,reduceMod,gT]
 refine ⟨fun hc=>?_,fun hc=>?_⟩
 ·rw [zEv (by simpa using hc)];rfl
 ·have hc:zaV n xs = true:=by simpa using hc
  obtain ⟨h1,h6,_⟩:=za2.1 hc
  have hx:=zcQ hc
  obtain ⟨m,rfl⟩:∃ m:Nat,n = m:=⟨n.toNat,by omega⟩
  have h64:=zcg (m:=m) (by omega)
  refine ⟨by kernel_rfl,zab (zb2 _ xs hx) ?_⟩
  simp (maxSteps:=9^7) -dsimp only [↓gp,gq,reduceCtorEq,reduceEqDiff,reduceLT,reduceLeDiff,reduceAdd,reduceMul,reduceSub,Nat.reduceBEq,Int.reduceToNat,Int.reduceLE,Int.reduceLT,Int.reduceNeg,reduceMod,gT]
  have hm:=zbl (zal xs) 64
  refine zab (ziE m _ (by omega) (by omega)) ?_
  have e:(fun s=>decide (s < 2 ^ m) && !(zaB (zal xs) 64).testBit s) = ziD m xs:=funext fun s=>by
   unfold ziD
   rw [hc,zdQ,Bool.true_and]
   unfold zcX
   by_cases hs:s < 2 ^ m
   ·have h2:s < 64:=by omega
    have h3:decide (0 ≤ (m:Int)∧(m:Int) ≤ 6∧0 ≤ (s:Int)∧(s:Int) < 2 ^ (m:Int).toNat) = true:=decide_eq_true ⟨by omega,by omega,by omega,by rw [Int.toNat_natCast];exact_mod_cast hs⟩
    rw [h3];simp [hs,h2]
   ·have h3:decide (0 ≤ (m:Int)∧(m:Int) ≤ 6∧0 ≤ (s:Int)∧(s:Int) < 2 ^ (m:Int).toNat) = false:=decide_eq_false fun h=>hs (by have:=h.2.2.2;rw [Int.toNat_natCast] at this;exact_mod_cast this)
    rw [h3];simp [hs]
  rw [e]
  simp (maxSteps:=9^7) -dsimp only [↓gp,gq,reduceCtorEq,reduceEqDiff,reduceLT,reduceLeDiff,reduceAdd,reduceMul,reduceSub,Nat.reduceBEq,Int.reduceToNat,Int.reduceLE,Int.reduceLT,Int.reduceNeg,reduceMod,gT]
  rfl
noncomputable def gmO (n:Int) (xs:List Int):Int:=if zq2 n xs = [] then -1 else (zat ((zq2 n xs).getD ((zq2 n xs).length - 1) 0):Int)
noncomputable def zBB (n:Int) (xs:List Int):Bool:=zaV n xs && decide (gmO n xs ≤ 2)
theorem zzC {n:Int} {xs:List Int} {i:Nat} (h:i < (zq2 n xs).length):(zq2 n xs).getD i 0 < 64:=(zg6.1 (zan 0 h)).1.1
theorem zeE (n:Int) (xs:List Int):AC Tryz.prog 40 [.ag [int n,zaH xs]] (.im (int (gmO n xs))):=by
 refine AC.go (rs:=[.tmp 2]) zaL mixed Tryz.func40 rfl rfl rfl (by kernel_rfl) fun hl=>?_
 simp (maxSteps:=9^7) -dsimp only [↓gp,gq,reduceCtorEq,reduceEqDiff,reduceLT,reduceLeDiff,reduceAdd,reduceMul,reduceSub,Nat.reduceBEq,Int.reduceToNat,Int.reduceLE,Int.reduceLT,Int.reduceNeg,reduceMod,gT]
 refine zab (zg7 n xs) ?_
 unfold gmO
 have h64:=fun i=>zzC (n:=n) (xs:=xs) (i:=i)
 have hml:=zva n xs
 generalize zq2 n xs = L at *
 simp (maxSteps:=9^7) -dsimp only [↓gp,gq,reduceCtorEq,reduceEqDiff,reduceLT,reduceLeDiff,reduceAdd,reduceMul,reduceSub,Nat.reduceBEq,Int.reduceToNat,Int.reduceLE,Int.reduceLT,Int.reduceNeg,reduceMod,gT,zad]
 refine ⟨fun h0=>?_,fun h0=>?_⟩
 ·rw [if_pos (by cases L with
   | nil=>rfl
   | cons a l=>simp at h0;omega)]
 ·have hp:0 < L.length:=by cases L with
   | nil=>simp at h0
   | cons a l=>simp
  have hk:L.length - 1 < L.length:=by omega
  have h64:=h64 _ hk
  have hw:IntKind.i64.wrap ((L.length:Int) - 1) = ((L.length - 1:Nat):Int):=by rw [zap (by omega) (by omega)];omega
  have hge:(ofN L).getD (L.length - 1) 0 = ((L.getD (L.length - 1) 0:Nat):Int):=zaF hk
  rw [if_neg (fun e=>by rw [e] at hp;simp at hp)]
  rw [hw]
  refine ⟨by omega,by omega,by omega,?_⟩
  rw [Int.toNat_natCast,hge]
  refine zab (zaP _ (by omega)) ?_
  simp (maxSteps:=9^7) -dsimp only [↓gp,gq,reduceCtorEq,reduceEqDiff,reduceLT,reduceLeDiff,reduceAdd,reduceMul,reduceSub,Nat.reduceBEq,Int.reduceToNat,Int.reduceLE,Int.reduceLT,Int.reduceNeg,reduceMod,gT,hw]
theorem znY (n:Int) (xs:List Int):AC Tryz.prog 16 [.ag [int n,zaH xs]] (.im (bool (zBB n xs))):=by
 refine AC.go (rs:=[.tmp 2]) zaL mixed Tryz.func16 rfl rfl rfl (by kernel_rfl) fun hl=>?_
 simp (maxSteps:=9^7) -dsimp only [↓gp,gq,reduceCtorEq,reduceEqDiff,reduceLT,reduceLeDiff,reduceAdd,reduceMul,reduceSub,Nat.reduceBEq,Int.reduceToNat,Int.reduceLE,Int.reduceLT,Int.reduceNeg,reduceMod,gT]
 refine zab (zaI n xs) ?_
 simp (maxSteps:=9^7) -dsimp only [↓gp,gq,reduceCtorEq,reduceEqDiff,reduceLT,reduceLeDiff,reduceAdd,reduceMul,reduceSub,Nat.reduceBEq,Int.reduceToNat,Int.reduceLE,Int.reduceLT,Int.reduceNeg,reduceMod,gT]
 unfold zBB
 refine ⟨fun h=>zab (zeE n xs) ?_,fun h=>?_⟩
 ·rw [h];simp (maxSteps:=9^7) -dsimp only [↓gp,gq,reduceCtorEq,reduceEqDiff,reduceLT,reduceLeDiff,reduceAdd,reduceMul,reduceSub,Nat.reduceBEq,Int.reduceToNat,Int.reduceLE,Int.reduceLT,Int.reduceNeg,reduceMod,gT]
 ·rw [h];rfl
theorem zkR {n:Int} {xs:List Int} (h:zaV n xs = true):xs.length ≤ 64:=by
 have hn:=znb (za2.1 h)
 have hx:=zcQ h
 have h2:(xs.map Int.toNat).Nodup:=by
  refine List.Pairwise.map _ (fun a b=>?_) (List.Pairwise.imp_of_mem (S:=fun a b=>0 ≤ a∧0 ≤ b∧a ≠ b) (fun ha hb hab=>⟨(hx _ ha).1,(hx _ hb).1,hab⟩) hn)
  intro ⟨q1,q2,q3⟩ e
  omega
 refine Classical.byContradiction fun hc=>?_
 have:=(zr0 (m:=List.range 64) h2 (fun x hx'=>?_) (by simp;omega)).length_eq
 ·simp at this;omega
 ·obtain ⟨y,hy,rfl⟩:=List.mem_map.1 hx'
  have:=hx y hy
  exact List.mem_range.2 (by omega)
theorem zDx {m:Nat} (h1:1 ≤ m) (hm:m ≤ 6) {f:Nat→Bool} (hf:∀ s,s < 64→f s = true→s < 2 ^ m):zaV (m:Int) (ofN (zdW f true)) = true:=by
 refine znc ⟨(by omega:(1:Int) ≤ (m:Int)),(by omega:(m:Int) ≤ 6),fun k hk2=>?_⟩
 rw [zad] at hk2
 have hpw:=zzW f true
 have hmem:=fun i (hi:i < (zdW f true).length)=>zg6.1 (zan 0 hi)
 generalize zdW f true = ys at *
 have hbef:∀ i j,i < j→j < ys.length→zrm (ys.getD i 0) (ys.getD j 0):=fun i j hij hj=>by
  have:=List.pairwise_iff_getElem.1 hpw i j (by omega) hj hij
  have a:ys.getD i 0 = ys[i]'(by omega):=by simp [List.getD,show i < ys.length by omega]
  have b:ys.getD j 0 = ys[j]:=by simp [List.getD,hj]
  rw [a,b];exact this
 refine ⟨?_,fun h0=>?_,fun i hi=>?_⟩
 ·have h1:=hmem k hk2
  have h2:=hf _ h1.1.1 h1.1.2
  rw [zaF hk2]
  unfold zcX
  rw [decide_eq_true_iff]
  refine ⟨by omega,by omega,by omega,?_⟩
  rw [zhA];exact_mod_cast h2
 ·rw [zaF hk2,zaF (by omega)]
  have hb:=hbef (k - 1) k (by omega) hk2
  have:=(hmem k hk2).1.1
  have:=(hmem (k - 1) (by omega)).1.1
  unfold zlA
  unfold zrm at hb
  rw [zc0 (by omega),zc0 (by omega)]
  simp only [Bool.and_eq_true,decide_eq_true_iff]
  refine ⟨by omega,by omega,?_⟩
  split
  ·rw [decide_eq_true_iff];omega
  ·rw [decide_eq_true_iff];omega
 ·have hlti:=(hmem i (by omega)).1.1
  have hltk:=(hmem k hk2).1
  rw [zaF hk2,zaF (by omega),za7 (by omega) (by omega)]
  intro e
  have:=zcL.1 (hmem i (by omega)).2 (ys.getD k 0) hltk.1 hltk.2 (by omega)
  have hb:=hbef i k hi hk2
  rw [this] at hb
  exact zea hb
theorem zGL (xs:List Int) (t:Nat):inF xs t = decide ((t:Int) ∈ xs):=rfl
def zk8 (xs:List Int) (s:Nat):List Int:=(xs.filter fun x=>zfO .i64 x s == (s:Int)).map fun x=>x - s
theorem zz3 {xs:List Int} (hx:okS xs) {s:Nat} (hs:s < 64) (v:Nat):(v:Int) ∈ zk8 xs s ↔ ∃ x ∈ xs,x.toNat &&& s = s∧v = x.toNat - s:=by
 have key:∀ x ∈ xs,zfO .i64 x (s:Int) = ((x.toNat &&& s:Nat):Int):=fun x h=>by
  have:=hx x h
  rw [← za7 (by omega) (by omega)]
  congr 1;omega
 unfold zk8
 rw [List.mem_map]
 refine ⟨fun ⟨x,h1,e⟩=>?_,fun ⟨x,h1,h2,e⟩=>?_⟩
 ·obtain ⟨a,b⟩:=List.mem_filter.1 h1
  rw [beq_iff_eq,key x a] at b
  exact ⟨x,a,by omega,by have:=hx x a;omega⟩
 ·refine ⟨x,List.mem_filter.2 ⟨h1,by rw [beq_iff_eq,key x h1,h2]⟩,?_⟩
  have:=hx x h1
  have:s ≤ x.toNat:=by rw [← h2];exact Nat.and_le_left
  omega
theorem zz4 {m:Nat} {xs:List Int} (h:zaV (m:Int) xs = true) {s:Nat} (hs:s < 64):zaV (m:Int) (ofN (zdW (inF (zk8 xs s)) true)) = true:=by
 obtain ⟨h1,h6,hk⟩:=za2.1 h
 refine zDx (by omega) (by omega) fun t ht hf=>?_
 rw [zGL,decide_eq_true_iff] at hf
 obtain ⟨x,hx,_,rfl⟩:=(zz3 (zcQ h) hs t).1 hf
 obtain ⟨i,hi,rfl⟩:=zaY 0 hx
 have:=(hk i hi).1
 unfold zcX at this
 rw [decide_eq_true_iff,zhA] at this
 omega
theorem zz5 {m:Nat} {xs:List Int} (h:zaV (m:Int) xs = true) {s:Nat} (hs:s < 64) (t:Nat):zbb m (ofN (zdW (inF (zk8 xs s)) true)) t = zbp (zal xs) s t:=by
 unfold zbb
 rw [zz4 h hs,Bool.true_and,zq1]
 exact zwi (fun x hx=>by have:=zcQ h x hx;omega) hs (fun v=>zz3 (zcQ h) hs v) t
theorem zz6 {P:Program} {s:St} {K:St→Prop} {f:FuncId} {args raw:List PV} {Ka:RV→Prop} {d e e2:Nat} {us:Dm s} {u:Dm K} {M:Mat} (h:AC P f args (.tb e e2 (M.map iL))) (hd:∀ i,i < M.length→(s.rw (sid d i)).ver = 0)
 (hk:∀ S:St,TabI S.rw d ((s.rw d).ver + 1) e e2 (List.range M.length) M→S.sl d = .own d ((s.rw d).ver + 1)→(∀ t,t ≠ d→S.sl t = s.sl t)→(∀ j,(j % 1000 == d % 1000) = false→S.rw j = s.rw j)→K S):zhY P f args Ka (zrr P f args raw (some d) (kk s us) (kk K u)) :=
 zA0 _ h (Wk.refl _) (hk _ ⟨by
  have:=zp7 (s:=s) d e e2 (M.map iL) (fun i hi=>hd i (by simpa using hi))
  rwa [List.length_map] at this,List.nodup_range⟩ (zeN d e e2 _) (fun t ht=>zc7 d e e2 t _ ht) (fun j hj=>zeO d e e2 j _ hj))
theorem zm6 {w w':Nat→Bool} {m:Nat} (hm:m ≤ 6) (h:∀ s,s < 64→(decide (s < 2 ^ m) && w s) = w' s):zaB w (2 ^ m) = zaB w' 64 :=
 zdU w' (zqU w hm) fun s hs=>by rw [zdQ,h s hs]
theorem zkQ (G s t:Nat) (hG:G < 18446744073709551616) (hs:s < 64) (ht:t < 64):AC Tryz.prog 123 [int t,.eref false [int s] 0,.eref false [u64 G] 0] (.im (bool (zbp G.testBit s t))):=by
 refine AC.go (rs:=[.tmp 4]) zaL mixed Tryz.func123 rfl rfl rfl (by kernel_rfl) fun hl=>?_
 have e1:zfO .i64 (t:Int) (s:Int) = ((t &&& s:Nat):Int):=za7 (by omega) (by omega)
 have e2:ior .i64 (t:Int) (s:Int) = ((t ||| s:Nat):Int):=znP (by omega) (by omega)
 have h3:t ||| s < 64:=Nat.or_lt_two_pow (n:=6) ht hs
 simp (maxSteps:=9^7) -dsimp only [↓gp,gq,reduceCtorEq,reduceEqDiff,reduceLT,reduceLeDiff,reduceAdd,reduceMul,reduceSub,Nat.reduceBEq,Int.reduceToNat,Int.reduceLE,Int.reduceLT,Int.reduceNeg,reduceMod,gT,e1,e2]
 unfold zbp
 refine ⟨fun h=>zab (zbF G _ hG h3) ?_,fun h=>?_⟩
 ·have h:t &&& s = 0:=by simpa using h
  rw [h]
  simp (maxSteps:=9^7) -dsimp only [↓gp,gq,reduceCtorEq,reduceEqDiff,reduceLT,reduceLeDiff,reduceAdd,reduceMul,reduceSub,Nat.reduceBEq,Int.reduceToNat,Int.reduceLE,Int.reduceLT,Int.reduceNeg,reduceMod,gT]
 ·have h:(t &&& s == 0) = false:=by rw [beq_eq_false_iff_ne];intro e;simp [e] at h
  rw [h];rfl
theorem zej (f:Nat→Bool) (s:Nat) (hs:s < 64):AC Tryz.prog 105 [u64 (zaB f 64:Nat),int s] (.im (u64 (zaB (zbp f s) 64:Nat))):=by
 refine AC.go (rs:=[.tmp 4]) zaL mixed Tryz.func105 rfl rfl rfl (by kernel_rfl) fun hl=>?_
 have hlt:=zbl f 64
 simp (maxSteps:=9^7) -dsimp only [↓gp,gq,reduceCtorEq,reduceEqDiff,reduceLT,reduceLeDiff,reduceAdd,reduceMul,reduceSub,Nat.reduceBEq,Int.reduceToNat,Int.reduceLE,Int.reduceLT,Int.reduceNeg,reduceMod,gT]
 refine zab (zdf 6 (by omega) _ [.eref false [int s] 0,.eref false [u64 (zaB f 64:Nat)] 0] (zbp (zaB f 64).testBit s) (fun rw=>rfl) fun t ht=>zkQ _ s t (by omega) hs (by omega)) ?_
 rw [zm6 (w':=zbp f s) (by omega) fun t ht=>by rw [decide_eq_true (show t < 2 ^ 6 by omega),Bool.true_and];exact zsj (fun u hu=>za5 f hu) hs ht]
 simp (maxSteps:=9^7) -dsimp only [↓gp,gq,reduceCtorEq,reduceEqDiff,reduceLT,reduceLeDiff,reduceAdd,reduceMul,reduceSub,Nat.reduceBEq,Int.reduceToNat,Int.reduceLE,Int.reduceLT,Int.reduceNeg,reduceMod,gT]
theorem zek (n:Int) (xs:List Int) (w:Nat) (hs:w < 64) (hx:okS xs) (hlen:xs.length ≤ 1000):AC Tryz.prog 65 [.ag [int n,zaH xs],int w] (.ag [.im (int n),.fr 3 1 (iL (ofN (zdW (inF (zk8 xs w)) true)))]):=by
 refine AC.go (rs:=[.cell 4 27]) zaL mixed Tryz.func65 rfl rfl rfl (by kernel_rfl) fun hl=>?_
 simp only [zaJ,zaX,and_true,zbM,zc6,zcm,true_and] at hl
 simp (maxSteps:=9^7) -dsimp only [↓gp,gq,reduceCtorEq,reduceEqDiff,reduceLT,reduceLeDiff,reduceAdd,reduceMul,reduceSub,Nat.reduceBEq,Int.reduceToNat,Int.reduceLE,Int.reduceLT,Int.reduceNeg,reduceMod,gT]
 have hlk:zk8 xs w = zk8 (xs.take xs.length) w:=by rw [List.take_length]
 refine zah (fun (za:Nat × Nat) s=>match za with | (k,v)=>s.sl 1 = int w∧s.sl 2 = .ref 2 1 0∧s.rw 2 = ⟨1,.box 27 [int n,zaH xs]⟩∧s.sl 4 = .ref 4 1 0∧s.rw 4 = ⟨1,.box 27 [int 0,.v (.slice none 0 0)]⟩∧s.sl 5 = .own 7 v∧s.rw 7 = ⟨v,.sli 3 1 false (iL (zk8 (xs.take k) w))⟩∧s.sl 6 = int k∧(k ≤ xs.length)) (fun (k,v)=>xs.length - k) ((0,1)) (by refine ⟨?_,?_,?_,?_,?_,?_,?_,?_,by simp⟩ <;> (first | (simp (maxSteps:=9^7) -dsimp only [gr,reduceEqDiff,reduceLT,reduceAdd,reduceMod,Nat.reduceBEq];first | done | rfl | (simp;done)) | assumption | rfl)) ?_
 intro (k,v) sa ⟨h1a,h2a,r2a,h4a,r4a,h5a,r7a,h6a,hIa⟩
 have hll:(zk8 (xs.take k) w).length ≤ 1000:=by
  unfold zk8
  rw [List.length_map]
  have:=List.length_filter_le (fun x=>zfO .i64 x (w:Int) == (w:Int)) (xs.take k)
  rw [List.length_take] at this
  omega
 simp (maxSteps:=9^7) -dsimp only [↓gp,gq,reduceCtorEq,reduceEqDiff,reduceLT,reduceLeDiff,reduceAdd,reduceMul,reduceSub,Nat.reduceBEq,Int.reduceToNat,Int.reduceLE,Int.reduceLT,Int.reduceNeg,reduceMod,gT,h1a,h2a,r2a,h4a,r4a,h5a,r7a,h6a]
 refine ⟨fun h=>⟨h,h,?_⟩,fun h=>?_⟩
 ·have hxk:=zqS hx h
  have hwx:IntKind.i64.wrap (xs.getD k 0 - (w:Int)) = xs.getD k 0 - (w:Int):=zap (by omega) (by omega)
  refine ⟨fun hy=>?_,fun hy=>?_⟩
  ·have e:zk8 (xs.take (k + 1)) w = zk8 (xs.take k) w ++ [xs.getD k 0 - (w:Int)]:=by
    unfold zk8
    rw [zay 0 h,List.filter_append,List.map_append,List.filter_cons,if_pos hy];rfl
   exact ⟨h,h,by omega,zac ((k + 1,v + 1)) (by refine ⟨?_,?_,?_,?_,?_,?_,?_,?_,by dsimp only;omega⟩ <;> (first | (simp (maxSteps:=9^7) -dsimp only [gr,reduceEqDiff,reduceLT,reduceAdd,reduceMod,Nat.reduceBEq,h1a,h2a,r2a,h4a,r4a,h5a,r7a,h6a,zaa h (by omega),hwx,e];first | done | rfl | (simp;done)) | assumption | rfl)) (by first | omega | (simp only;omega) | (dsimp only;omega) | (show _ < _;simp;omega))⟩
  ·have e:zk8 (xs.take (k + 1)) w = zk8 (xs.take k) w:=by
    unfold zk8
    rw [zay 0 h,List.filter_append,List.map_append,List.filter_cons,if_neg (by rw [hy];decide)];simp
   exact zac ((k + 1,v)) (by refine ⟨?_,?_,?_,?_,?_,?_,?_,?_,by dsimp only;omega⟩ <;> (first | (simp (maxSteps:=9^7) -dsimp only [gr,reduceEqDiff,reduceLT,reduceAdd,reduceMod,Nat.reduceBEq,h1a,h2a,r2a,h4a,r4a,h5a,r7a,h6a,zaa h (by omega),e];first | done | rfl | (simp;done)) | assumption | rfl)) (by first | omega | (simp only;omega) | (dsimp only;omega) | (show _ < _;simp;omega))
 ·have:k = xs.length:=by omega
  subst this
  rw [hlk]
  refine zab (zgZ n _ ?_) ?_
  ·intro x hx'
   unfold zk8 at hx'
   obtain ⟨y,hy,rfl⟩:=List.mem_map.1 hx'
   obtain ⟨a,b⟩:=List.mem_filter.1 hy
   rw [List.take_length] at a
   have:=hx y a
   rw [beq_iff_eq] at b
   have h2:zfO .i64 y (w:Int) = ((y.toNat &&& w:Nat):Int):=by
    rw [← za7 (by omega) (by omega)];congr 1;omega
   have h3:y.toNat &&& w ≤ y.toNat:=Nat.and_le_left
   omega
  ·simp (maxSteps:=9^7) -dsimp only [↓gp,gq,reduceCtorEq,reduceEqDiff,reduceLT,reduceLeDiff,reduceAdd,reduceMul,reduceSub,Nat.reduceBEq,Int.reduceToNat,Int.reduceLE,Int.reduceLT,Int.reduceNeg,reduceMod,gT,h1a,h2a,r2a,h4a,r4a,h5a,r7a,h6a]
def zcr (h:List Int) (s k:Nat):List Nat:=((List.range k).filter fun j=>h.getD j 0 != 0).map (s + ·)
theorem zm5 (h:List Int) (s k:Nat):zcr h s (k + 1) = if (h.getD k 0 != 0) = true then zcr h s k ++ [s + k] else zcr h s k:=by
 unfold zcr
 rw [List.range_succ,List.filter_append]
 by_cases hz:(h.getD k 0 != 0) = true
 ·have e:List.filter (fun j=>h.getD j 0 != 0) [k] = [k]:=by
   show (match h.getD k 0 != 0 with | true=>[k] | false=>[]) = [k]
   rw [hz]
  rw [if_pos hz,e,List.map_append];rfl
 ·have e:List.filter (fun j=>h.getD j 0 != 0) [k] = []:=by
   show (match h.getD k 0 != 0 with | true=>[k] | false=>[]) = []
   rw [show (h.getD k 0 != 0) = false by simpa using hz]
  rw [if_neg hz,e,List.append_nil]
def zbJ (f:Nat→Bool) (p:Int):Nat→List Nat
 | 0=>[]
 | i + 1=>zbJ f p i ++ zcr (zf5 (zbp f ((za9 f).getD i 0)) p) (zat ((za9 f).getD i 0)) (zf5 (zbp f ((za9 f).getD i 0)) p).length
def zq4:List Nat→Int | []=>-1 | a :: l=>((l.foldl min a:Nat):Int)
theorem zz2 (l:List Nat) (n:Nat):zq4 (l ++ [n]) = if zq4 l < 0 ∨ (n:Int) < zq4 l then (n:Int) else zq4 l:=by
 cases l with
 | nil=>rfl
 | cons a l =>
   show (((l ++ [n]).foldl min a:Nat):Int) = ite (((l.foldl min a:Nat):Int) < 0 ∨ (n:Int) < ((l.foldl min a:Nat):Int)) _ ((l.foldl min a:Nat):Int)
   rw [List.foldl_append]
   show ((min (l.foldl min a) n:Nat):Int) = _
   split <;> omega
theorem zkO {h:List Int} {s k x:Nat}:x ∈ zcr h s k ↔ ∃ j,j < k∧h.getD j 0 ≠ 0∧x = s + j:=by
 unfold zcr
 rw [List.mem_map]
 constructor
 ·rintro ⟨j,hj,rfl⟩
  obtain ⟨a,b⟩:=List.mem_filter.1 hj
  exact ⟨j,List.mem_range.1 a,by simpa using b,rfl⟩
 ·rintro ⟨j,a,b,rfl⟩
  exact ⟨j,List.mem_filter.2 ⟨List.mem_range.2 a,by simpa using b⟩,rfl⟩
theorem zkP {f:Nat→Bool} {p:Int} {x:Nat}:∀ {i:Nat},x ∈ zbJ f p i ↔ ∃ t,t < i∧x ∈ zcr (zf5 (zbp f ((za9 f).getD t 0)) p) (zat ((za9 f).getD t 0)) (zf5 (zbp f ((za9 f).getD t 0)) p).length
 | 0=>by simp [zbJ]
 | i + 1=>by
   rw [zbJ,List.mem_append,zkP]
   constructor
   ·rintro (⟨t,a,b⟩ | h)
    ·exact ⟨t,by omega,b⟩
    ·exact ⟨i,by omega,h⟩
   ·rintro ⟨t,a,b⟩
    by_cases e:t = i
    ·subst e;exact .inr b
    ·exact .inl ⟨t,by omega,b⟩
theorem zBW {h:List Int} {s k:Nat} (hs:s < 64) (hk:k ≤ 7):∀ x ∈ zcr h (zat s) k,x ≤ 100:=fun x hx=>by
 obtain ⟨j,a,_,rfl⟩:=zkO.1 hx
 have:=zbY hs
 omega
theorem zEB {f:Nat→Bool} {p:Int} {i:Nat} (hi:i ≤ (za9 f).length):∀ x ∈ zbJ f p i,x ≤ 100:=fun x hx=>by
 obtain ⟨t,ht,h⟩:=zkP.1 hx
 have hs:=(zaZ.1 (zan 0 (show t < (za9 f).length by omega))).1
 exact zBW hs (by rw [zbG];exact zcA _) x h
def zlr (f:Nat→Bool) (p:Int):List Nat:=zbJ f p (za9 f).length
noncomputable def zsi (n:Int) (xs:List Int) (p:Int):Int:=if zaV n xs = true∧isP p = true then zq4 (zlr (zal xs) p) else -1
theorem zBX {m:Nat} {xs:List Int} {p:Int} (h:zaV (m:Int) xs = true) {s:Nat} (hs:s < 64) (hp:isP p = true):zHq (zbb m (ofN (zdW (inF (zk8 xs s)) true))) p = zf5 (zbp (zal xs) s) p:=by
 unfold zHq
 rw [if_pos hp]
 exact congrArg (fun f=>zf5 f p) (funext fun t=>zz5 h hs t)
theorem zls (n:Int) (xs:List Int) (p:Int):AC Tryz.prog 38 [.ag [int n,zaH xs],int p] (.im (int (zsi n xs p))):=by
 refine AC.go (rs:=[.tmp 4]) zaL mixed Tryz.func38 rfl rfl rfl (by kernel_rfl) fun hl=>?_
 simp (maxSteps:=9^7) -dsimp only [↓gp,gq,reduceCtorEq,reduceEqDiff,reduceLT,reduceLeDiff,reduceAdd,reduceMul,reduceSub,Nat.reduceBEq,Int.reduceToNat,Int.reduceLE,Int.reduceLT,Int.reduceNeg,reduceMod,gT]
 refine zab (zcG n xs) ?_
 have hLl:=zcY (zbb n xs)
 have hno:¬ zaV n xs = true→za9 (zbb n xs) = []:=fun h=>by
  have h:zaV n xs = false:=by simpa using h
  refine List.eq_nil_iff_forall_not_mem.2 fun s hs=>?_
  have:=(zaZ.1 hs).2
  unfold zbb at this
  rw [h] at this;cases this
 have hyes:zaV n xs = true→zbb n xs = zal xs:=fun h=>by funext s;unfold zbb;rw [h,Bool.true_and]
 have hLm:=fun k (hk:k < (za9 (zbb n xs)).length)=>zaZ.1 (zan 0 hk)
 have hres:(isP p = true∧zsi n xs p = zq4 (zbJ (zal xs) p (za9 (zbb n xs)).length)) ∨ zsi n xs p = -1:=by
  by_cases hc:zaV n xs = true∧isP p = true
  ·refine .inl ⟨hc.2,?_⟩
   rw [zsi,if_pos hc,hyes hc.1];rfl
  ·exact .inr (if_neg hc)
 have hres2:isP p = false→zsi n xs p = -1:=fun h=>if_neg fun hc=>by rw [hc.2] at h;cases h
 have hres3:¬ zaV n xs = true→zsi n xs p = -1:=fun h=>if_neg fun hc=>h hc.1
 have hin:∀ k,k < (za9 (zbb n xs)).length→zaV n xs = true:=fun k hk=>Classical.byContradiction fun h=>by rw [hno h] at hk;simp at hk
 have hcl:zaV n xs = true→∀ i,zbJ (zal xs) p (i + 1) = zbJ (zal xs) p i ++ zcr (zf5 (zbp (zal xs) ((za9 (zbb n xs)).getD i 0)) p) (zat ((za9 (zbb n xs)).getD i 0)) (zf5 (zbp (zal xs) ((za9 (zbb n xs)).getD i 0)) p).length:=fun h i=>by
  have:za9 (zal xs) = za9 (zbb n xs):=by rw [hyes h]
  rw [← this];rfl
 have hbd:zaV n xs = true→∀ i,i ≤ (za9 (zbb n xs)).length→∀ x ∈ zbJ (zal xs) p i,x ≤ 100:=fun h i hi=>by
  have:za9 (zal xs) = za9 (zbb n xs):=by rw [hyes h]
  exact zEB (by rw [this];exact hi)
 generalize hL:za9 (zbb n xs) = L at *
 have hoL:=zad L
 have hm1:int (-1) = int (zq4 (zbJ (zal xs) p 0)):=rfl
 simp (maxSteps:=9^7) -dsimp only [↓gp,gq,reduceCtorEq,reduceEqDiff,reduceLT,reduceLeDiff,reduceAdd,reduceMul,reduceSub,Nat.reduceBEq,Int.reduceToNat,Int.reduceLE,Int.reduceLT,Int.reduceNeg,reduceMod,gT,zad]
 refine zah (fun (i:Nat) s=>s.sl 1 = int p∧s.sl 2 = .ref 2 1 0∧s.rw 2 = ⟨1,.box 27 [int n,zaH xs]⟩∧s.sl 5 = int (zq4 (zbJ (zal xs) p i))∧s.sl 6 = .own 12 1∧s.rw 12 = ⟨1,.sli 3 1 false (iL (ofN L))⟩∧s.sl 7 = int i∧(i ≤ L.length∧(i = 0 ∨ isP p = true))) (fun i=>L.length - i) (0) (by refine ⟨?_,?_,?_,?_,?_,?_,?_,⟨Nat.zero_le _,.inl rfl⟩⟩ <;> (first | (simp (maxSteps:=9^7) -dsimp only [gr,reduceEqDiff,reduceLT,reduceAdd,reduceMod,Nat.reduceBEq,hm1];first | done | rfl | (simp;done)) | assumption | rfl)) ?_
 intro i sa ⟨h1a,h2a,r2a,h5a,h6a,r12a,h7a,hIa⟩
 obtain ⟨hi,hpi⟩:=hIa
 simp (maxSteps:=9^7) -dsimp only [↓gp,gq,reduceCtorEq,reduceEqDiff,reduceLT,reduceLeDiff,reduceAdd,reduceMul,reduceSub,Nat.reduceBEq,Int.reduceToNat,Int.reduceLE,Int.reduceLT,Int.reduceNeg,reduceMod,gT,h1a,h2a,r2a,h5a,h6a,r12a,h7a,zad]
 refine ⟨fun hlt=>zab (zcc p) ?_,fun hlt=>?_⟩
 ·simp (maxSteps:=9^7) -dsimp only [↓gp,gq,reduceCtorEq,reduceEqDiff,reduceLT,reduceLeDiff,reduceAdd,reduceMul,reduceSub,Nat.reduceBEq,Int.reduceToNat,Int.reduceLE,Int.reduceLT,Int.reduceNeg,reduceMod,gT,h1a,h2a,r2a,h5a,h6a,r12a,h7a,zad]
  have hlt:i < L.length:=by omega
  have hcx:=hin i hlt
  obtain ⟨h1,h6,_⟩:=za2.1 hcx
  obtain ⟨m,rfl⟩:∃ m:Nat,n = m:=⟨n.toNat,by omega⟩
  refine ⟨fun hp=>?_,fun hp=>?_⟩
  ·have hs64:=(hLm i hlt).1
   have hg:=zaF hlt
   have hhol:=zBX (p:=p) hcx hs64 hp
   have hcs:=hcl hcx i
   have hb0:=hbd hcx i (by omega)
   have hdl:=zcA (zbp (zal xs) (L.getD i 0))
   have hhl:=zbG (zbp (zal xs) (L.getD i 0)) p
   generalize hs0:L.getD i 0 = s0 at *
   have hpl:=zbY hs64
   simp (maxSteps:=9^7) -dsimp only [↓gp,gq,reduceCtorEq,reduceEqDiff,reduceLT,reduceLeDiff,reduceAdd,reduceMul,reduceSub,Nat.reduceBEq,Int.reduceToNat,Int.reduceLE,Int.reduceLT,Int.reduceNeg,reduceMod,gT,h1a,h2a,r2a,h5a,h6a,r12a,h7a,zad,hg]
   refine ⟨by kernel_rfl,hlt,hlt,zab (zek _ xs s0 hs64 (zcQ hcx) (by have:=zkR hcx;omega)) ?_⟩
   simp (maxSteps:=9^7) -dsimp only [↓gp,gq,reduceCtorEq,reduceEqDiff,reduceLT,reduceLeDiff,reduceAdd,reduceMul,reduceSub,Nat.reduceBEq,Int.reduceToNat,Int.reduceLE,Int.reduceLT,Int.reduceNeg,reduceMod,gT,h1a,h2a,r2a,h5a,h6a,r12a,h7a,zad,hg]
   refine zab (zkH _ _ p) ?_
   rw [hhol]
   generalize zf5 (zbp (zal xs) s0) p = hs at *
   simp (maxSteps:=9^7) -dsimp only [↓gp,gq,reduceCtorEq,reduceEqDiff,reduceLT,reduceLeDiff,reduceAdd,reduceMul,reduceSub,Nat.reduceBEq,Int.reduceToNat,Int.reduceLE,Int.reduceLT,Int.reduceNeg,reduceMod,gT,h1a,h2a,r2a,h5a,h6a,r12a,h7a,zad,hg]
   have hz0:zbJ (zal xs) p i = zbJ (zal xs) p i ++ zcr hs (zat s0) 0:=(List.append_nil _).symm
   refine ⟨by kernel_rfl,?_⟩
   refine zah (fun (k:Nat) s=>s.sl 1 = int p∧s.sl 2 = .ref 2 1 0∧s.rw 2 = ⟨1,.box 27 [int (m:Nat),zaH xs]⟩∧s.sl 5 = int (zq4 (zbJ (zal xs) p i ++ zcr hs (zat s0) k))∧s.sl 6 = .own 12 1∧s.rw 12 = ⟨1,.sli 3 1 false (iL (ofN L))⟩∧s.sl 7 = int i∧s.sl 8 = .own 30 ((sa.rw 30).ver + 1)∧s.rw 30 = ⟨(sa.rw 30).ver + 1,.sli 3 1 false (iL hs)⟩∧s.sl 9 = int k∧(k ≤ hs.length)) (fun k=>hs.length - k) (0) (by refine ⟨?_,?_,?_,?_,?_,?_,?_,?_,?_,?_,Nat.zero_le _⟩ <;> (first | (simp (maxSteps:=9^7) -dsimp only [gr,reduceEqDiff,reduceLT,reduceAdd,reduceMod,Nat.reduceBEq,h1a,h2a,r2a,h5a,h6a,r12a,h7a,← hz0];first | done | rfl | (simp;done)) | assumption | rfl)) ?_
   intro k sb ⟨h1b,h2b,r2b,h5b,h6b,r12b,h7b,h8b,r30b,h9b,hIb⟩
   simp (maxSteps:=9^7) -dsimp only [↓gp,gq,reduceCtorEq,reduceEqDiff,reduceLT,reduceLeDiff,reduceAdd,reduceMul,reduceSub,Nat.reduceBEq,Int.reduceToNat,Int.reduceLE,Int.reduceLT,Int.reduceNeg,reduceMod,gT,h1b,h2b,r2b,h5b,h6b,r12b,h7b,h8b,r30b,h9b,zad,hg]
   refine ⟨fun hk=>⟨hlt,hlt,zab (zaP s0 (by omega)) ?_⟩,fun hk=>?_⟩
   ·have hw:IntKind.i64.wrap ((zat s0:Int) + (k:Int)) = ((zat s0 + k:Nat):Int):=by rw [zap (by omega) (by omega)];omega
    have hks:=zm5 hs (zat s0) k
    have hsn:zq4 (zbJ (zal xs) p i ++ zcr hs (zat s0) (k + 1)) = if (hs.getD k 0 != 0) = true then (if zq4 (zbJ (zal xs) p i ++ zcr hs (zat s0) k) < 0 ∨ ((zat s0 + k:Nat):Int) < zq4 (zbJ (zal xs) p i ++ zcr hs (zat s0) k) then ((zat s0 + k:Nat):Int) else zq4 (zbJ (zal xs) p i ++ zcr hs (zat s0) k)) else zq4 (zbJ (zal xs) p i ++ zcr hs (zat s0) k):=by
     rw [hks]
     split
     ·rw [← List.append_assoc,zz2]
     ·rfl
    simp (maxSteps:=9^7) -dsimp only [↓gp,gq,reduceCtorEq,reduceEqDiff,reduceLT,reduceLeDiff,reduceAdd,reduceMul,reduceSub,Nat.reduceBEq,Int.reduceToNat,Int.reduceLE,Int.reduceLT,Int.reduceNeg,reduceMod,gT,h1b,h2b,r2b,h5b,h6b,r12b,h7b,h8b,r30b,h9b,zad,hg,hw]
    generalize zq4 (zbJ (zal xs) p i ++ zcr hs (zat s0) k) = A at *
    refine ⟨hk,hk,fun hz=>⟨fun ha=>⟨fun hb=>?_,fun hb=>?_⟩,fun ha=>?_⟩,fun hz=>?_⟩
    ·rw [if_pos hz,if_pos (.inr hb)] at hsn
     exact zac (k + 1) (by refine ⟨?_,?_,?_,?_,?_,?_,?_,?_,?_,?_,by omega⟩ <;> (first | (simp (maxSteps:=9^7) -dsimp only [gr,reduceEqDiff,reduceLT,reduceAdd,reduceMod,Nat.reduceBEq,h1b,h2b,r2b,h5b,h6b,r12b,h7b,h8b,r30b,h9b,hsn,zaa (show k < 8 by omega) (by omega)];first | done | rfl | (simp;done)) | assumption | rfl)) (by first | omega | (simp only;omega) | (dsimp only;omega) | (show _ < _;simp;omega))
    ·rw [if_pos hz,if_neg (fun h=>h.elim ha hb)] at hsn
     exact zac (k + 1) (by refine ⟨?_,?_,?_,?_,?_,?_,?_,?_,?_,?_,by omega⟩ <;> (first | (simp (maxSteps:=9^7) -dsimp only [gr,reduceEqDiff,reduceLT,reduceAdd,reduceMod,Nat.reduceBEq,h1b,h2b,r2b,h5b,h6b,r12b,h7b,h8b,r30b,h9b,hsn,zaa (show k < 8 by omega) (by omega)];first | done | rfl | (simp;done)) | assumption | rfl)) (by first | omega | (simp only;omega) | (dsimp only;omega) | (show _ < _;simp;omega))
    ·rw [if_pos hz,if_pos (.inl ha)] at hsn
     exact zac (k + 1) (by refine ⟨?_,?_,?_,?_,?_,?_,?_,?_,?_,?_,by omega⟩ <;> (first | (simp (maxSteps:=9^7) -dsimp only [gr,reduceEqDiff,reduceLT,reduceAdd,reduceMod,Nat.reduceBEq,h1b,h2b,r2b,h5b,h6b,r12b,h7b,h8b,r30b,h9b,hsn,zaa (show k < 8 by omega) (by omega)];first | done | rfl | (simp;done)) | assumption | rfl)) (by first | omega | (simp only;omega) | (dsimp only;omega) | (show _ < _;simp;omega))
    ·rw [if_neg (by rw [hz];decide)] at hsn
     exact zac (k + 1) (by refine ⟨?_,?_,?_,?_,?_,?_,?_,?_,?_,?_,by omega⟩ <;> (first | (simp (maxSteps:=9^7) -dsimp only [gr,reduceEqDiff,reduceLT,reduceAdd,reduceMod,Nat.reduceBEq,h1b,h2b,r2b,h5b,h6b,r12b,h7b,h8b,r30b,h9b,hsn,zaa (show k < 8 by omega) (by omega)];first | done | rfl | (simp;done)) | assumption | rfl)) (by first | omega | (simp only;omega) | (dsimp only;omega) | (show _ < _;simp;omega))
   ·have hke:k = hs.length:=by omega
    subst hke
    rw [← hcs] at h5b
    exact zac (i + 1) (by refine ⟨?_,?_,?_,?_,?_,?_,?_,⟨by omega,.inr hp⟩⟩ <;> (first | (simp (maxSteps:=9^7) -dsimp only [gr,reduceEqDiff,reduceLT,reduceAdd,reduceMod,Nat.reduceBEq,h1a,h2a,r2a,h5a,h6a,r12a,h7a,h1b,h2b,r2b,h5b,h6b,r12b,h7b,h8b,r30b,h9b,zaa hlt (by omega)];first | done | rfl | (simp;done)) | assumption | rfl)) (by first | omega | (simp only;omega) | (dsimp only;omega) | (show _ < _;simp;omega))
  ·rw [hres2 hp]
   rcases hpi with rfl | h
   ·rfl
   ·rw [h] at hp;cases hp
 ·have hil:i = L.length:=by omega
  rcases hres with ⟨_,h⟩ | h
  ·rw [h,hil]
  ·rw [h]
   by_cases hc:zaV n xs = true
   ·rcases hpi with rfl | hp
    ·rfl
    ·have hd:zsi n xs p = zq4 (zlr (zal xs) p):=if_pos ⟨hc,hp⟩
     rw [hd] at h
     have:zlr (zal xs) p = zbJ (zal xs) p i:=by
      unfold zlr
      have:za9 (zal xs) = L:=by rw [← hL,hyes hc]
      rw [this,hil]
     rw [← this,h]
   ·have:L = []:=hno hc
    rw [hil,this];rfl
end Go.Proofs.YtkledeboboplmaaGreat
