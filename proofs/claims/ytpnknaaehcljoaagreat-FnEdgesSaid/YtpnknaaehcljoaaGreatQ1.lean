/- DERIVED by an AI agent. -/
import Derived.Test.YtpnknaaehcljoaaGreatB1
import Derived.Test.YtpnknaaehcljoaaGreatP1
namespace Go.Proofs.YtpnknaaehcljoaaGreat
open Go.Abs
open Nat (reduceEqDiff reduceMod reduceAdd reduceLT reduceLeDiff reduceSub reduceMul)
set_option linter.unusedSimpArgs false
set_option linter.unusedVariables false
theorem zcB (a b c:Int):AC Tryz.prog 111 [int a,int b,int c] (.im (bool (decide (b ≤ a) && decide (a ≤ c)))):=by
 refine AC.go (rs:=[.tmp 6]) za3 zav Tryz.func111 rfl rfl rfl (by kernel_rfl) fun _=>?_
 simp (maxSteps:=5000000) -dsimp only [↓gp,gq,reduceCtorEq,reduceEqDiff,reduceLT,reduceLeDiff,reduceAdd,reduceMul,reduceSub,Nat.reduceBEq,Int.reduceToNat,Int.reduceLE,Int.reduceLT,Int.reduceNeg,reduceMod,zac,zad,zab,zaa,gT,TK.isInt,TK.agg,Array.toList]
 exact ⟨fun h=>by simp [h],fun h=>by simp [h]⟩
theorem zdC (a b:Int):AC Tryz.prog 185 [int a,int b] (.im (int (max a b))):=by
 refine AC.go (rs:=[.tmp 4]) za3 zav Tryz.func185 rfl rfl rfl (by kernel_rfl) fun hl=>?_
 simp (maxSteps:=5000000) -dsimp only [↓gp,gq,reduceCtorEq,reduceEqDiff,reduceLT,reduceLeDiff,reduceAdd,reduceMul,reduceSub,Nat.reduceBEq,Int.reduceToNat,Int.reduceLE,Int.reduceLT,Int.reduceNeg,reduceMod,zac,zad,zab,zaa,gT,TK.isInt,TK.agg,Array.toList]
 exact ⟨fun h=>by omega,fun h=>by omega⟩
theorem zaL (n:Nat) (h:n < 9223372036854775808):AC Tryz.prog 100 [int n] (.im (int (zat n:Nat))):=by
 refine AC.go (rs:=[.tmp 2]) za3 zav Tryz.func100 rfl rfl rfl (by kernel_rfl) fun hl=>?_
 simp (maxSteps:=5000000) -dsimp only [↓gp,gq,reduceCtorEq,reduceEqDiff,reduceLT,reduceLeDiff,reduceAdd,reduceMul,reduceSub,Nat.reduceBEq,Int.reduceToNat,Int.reduceLE,Int.reduceLT,Int.reduceNeg,reduceMod,zac,zad,zab,zaa,gT,TK.isInt,TK.agg,Array.toList]
 refine zan (fun (x:Nat × Nat) s=>s.sl 0 = int x.1∧s.sl 3 = int x.2∧x.1 ≤ n∧x.2 + zat x.1 = zat n) (fun x=>x.1) (n,0) ⟨by simp (maxSteps:=5000000) -dsimp only [gr,reduceEqDiff,reduceLT,reduceAdd,reduceMod,Nat.reduceBEq,zaa,zac,zad,zab],by simp (maxSteps:=5000000) -dsimp only [gr,reduceEqDiff,reduceLT,reduceAdd,reduceMod,Nat.reduceBEq,zaa,zac,zad,zab];rfl,by simp,by simp⟩ ?_
 intro ⟨m,a⟩ s1 ⟨h0,h3,hm,hp⟩
 simp only at h0 h3 hm hp
 have hpl:=zDt n
 simp (maxSteps:=5000000) -dsimp only [↓gp,gq,reduceCtorEq,reduceEqDiff,reduceLT,reduceLeDiff,reduceAdd,reduceMul,reduceSub,Nat.reduceBEq,Int.reduceToNat,Int.reduceLE,Int.reduceLT,Int.reduceNeg,reduceMod,zac,zad,zab,zaa,gT,TK.isInt,TK.agg,Array.toList,h0,h3,zAP (show m < 9223372036854775808 by omega),zAQ]
 refine ⟨fun h1=>?_,fun h1=>?_⟩
 ·have hm0:m ≠ 0:=by omega
  rw [znK hm0] at hp
  refine zag (m / 2,a + m % 2) ⟨by simp (maxSteps:=5000000) -dsimp only [gr,reduceEqDiff,reduceLT,reduceAdd,reduceMod,Nat.reduceBEq,zaa,zac,zad,zab],?_,by simp only;omega,by simp only;omega⟩ (by simp only;omega)
  simp (maxSteps:=5000000) -dsimp only [gr,reduceEqDiff,reduceLT,reduceAdd,reduceMod,Nat.reduceBEq,zaa,zac,zad,zab]
  rw [zap (by omega) (by omega)]
  rfl
 ·have:m = 0:=by omega
  subst this
  rw [zca] at hp
  omega
theorem zb8 {s:Int} (h0:0 ≤ s) (h:s < 9223372036854775808):AC Tryz.prog 100 [int s] (.im (int (zat s.toNat:Nat))):=by
 obtain ⟨m,rfl⟩:=Int.eq_ofNat_of_zero_le h0
 exact zaL m (by omega)
theorem zgp (n:Nat) (h:n < 64):AC Tryz.prog 210 [u64 n] (.im (int (zat n:Nat))):=by
 refine AC.go (rs:=[.tmp 2]) za3 zav Tryz.func210 rfl rfl rfl (by kernel_rfl) fun hl=>?_
 simp (maxSteps:=5000000) -dsimp only [↓gp,gq,reduceCtorEq,reduceEqDiff,reduceLT,reduceLeDiff,reduceAdd,reduceMul,reduceSub,Nat.reduceBEq,Int.reduceToNat,Int.reduceLE,Int.reduceLT,Int.reduceNeg,reduceMod,zac,zad,zab,zaa,gT,TK.isInt,TK.agg,Array.toList]
 rw [zmY h]
 clear hl
 obtain ⟨m,rfl⟩:∃ m:Fin 64,m.val = n:=⟨⟨n,h⟩,rfl⟩
 clear h
 revert m
 decide +kernel
theorem ziC (n:Nat) (h:n < 64):AC Tryz.prog 176 [u64 n] (.im (int (zat n:Nat))):=by
 refine AC.go (rs:=[.tmp 2]) za3 zav Tryz.func176 rfl rfl rfl (by kernel_rfl) fun hl=>?_
 simp (maxSteps:=5000000) -dsimp only [↓gp,gq,reduceCtorEq,reduceEqDiff,reduceLT,reduceLeDiff,reduceAdd,reduceMul,reduceSub,Nat.reduceBEq,Int.reduceToNat,Int.reduceLE,Int.reduceLT,Int.reduceNeg,reduceMod,zac,zad,zab,zaa,gT,TK.isInt,TK.agg,Array.toList]
 refine zaf (zgp n h) ?_
 simp (maxSteps:=5000000) -dsimp only [↓gp,gq,reduceCtorEq,reduceEqDiff,reduceLT,reduceLeDiff,reduceAdd,reduceMul,reduceSub,Nat.reduceBEq,Int.reduceToNat,Int.reduceLE,Int.reduceLT,Int.reduceNeg,reduceMod,zac,zad,zab,zaa,gT,TK.isInt,TK.agg,Array.toList]
theorem zbV (n s:Int):AC Tryz.prog 117 [int n,int s] (.im (bool (zcA n s))):=by
 refine AC.go (rs:=[.tmp 4]) za3 zav Tryz.func117 rfl rfl rfl (by kernel_rfl) fun hl=>?_
 simp (maxSteps:=5000000) -dsimp only [↓gp,gq,reduceCtorEq,reduceEqDiff,reduceLT,reduceLeDiff,reduceAdd,reduceMul,reduceSub,Nat.reduceBEq,Int.reduceToNat,Int.reduceLE,Int.reduceLT,Int.reduceNeg,reduceMod,zac,zad,zab,zaa,gT,TK.isInt,TK.agg,Array.toList,zcA]
 refine ⟨fun h0=>⟨fun h6=>⟨fun hs=>?_,fun hs=>by omega⟩,fun h6=>by omega⟩,fun h0=>by omega⟩
 obtain ⟨m,rfl⟩:=Int.eq_ofNat_of_zero_le h0
 rw [zkL (by omega),za5 (by omega),zhH]
 exact ⟨by omega,by simp only [h0,h6,hs,true_and]⟩
theorem zh1 (n s:Int):AC Tryz.prog 119 [int n,int s] (.im (bool (zcA n s))):=by
 refine AC.go (rs:=[.tmp 4]) za3 zav Tryz.func119 rfl rfl rfl (by kernel_rfl) fun hl=>?_
 simp (maxSteps:=5000000) -dsimp only [↓gp,gq,reduceCtorEq,reduceEqDiff,reduceLT,reduceLeDiff,reduceAdd,reduceMul,reduceSub,Nat.reduceBEq,Int.reduceToNat,Int.reduceLE,Int.reduceLT,Int.reduceNeg,reduceMod,zac,zad,zab,zaa,gT,TK.isInt,TK.agg,Array.toList]
 refine zaf (zcB _ _ _) ?_
 simp (maxSteps:=5000000) -dsimp only [↓gp,gq,reduceCtorEq,reduceEqDiff,reduceLT,reduceLeDiff,reduceAdd,reduceMul,reduceSub,Nat.reduceBEq,Int.reduceToNat,Int.reduceLE,Int.reduceLT,Int.reduceNeg,reduceMod,zac,zad,zab,zaa,gT,TK.isInt,TK.agg,Array.toList]
 refine ⟨fun h=>?_,fun h=>?_⟩
 ·simp only [Bool.and_eq_true,decide_eq_true_eq] at h
  obtain ⟨h0,h6⟩:=h
  obtain ⟨m,rfl⟩:=Int.eq_ofNat_of_zero_le h0
  have hp:=zao (m:=m) (by omega)
  have e:zcA (m:Int) s = decide (0 ≤ s∧s < ((2 ^ m:Nat):Int)):=by
   rw [zcA,zhH]
   simp only [h0,h6,true_and]
  rw [e,zkL (by omega),za5 (by omega)]
  generalize (2 ^ m:Nat) = q at hp
  rw [zap (by omega) (by omega)]
  refine ⟨by omega,zaf (zcB _ _ _) ?_⟩
  simp (maxSteps:=5000000) -dsimp only [↓gp,gq,reduceCtorEq,reduceEqDiff,reduceLT,reduceLeDiff,reduceAdd,reduceMul,reduceSub,Nat.reduceBEq,Int.reduceToNat,Int.reduceLE,Int.reduceLT,Int.reduceNeg,reduceMod,zac,zad,zab,zaa,gT,TK.isInt,TK.agg,Array.toList]
  rw [← Bool.decide_and]
  exact decide_eq_decide.2 (by omega)
 ·refine decide_eq_false fun hh=>?_
  simp [hh.1,hh.2.1] at h
def zlI (s:Int):Int:=if 0 ≤ s∧s < 64 then (zat s.toNat:Nat) else -1
theorem zng (s:Int):zcA 6 s = decide (0 ≤ s∧s < 64):=by
 simp [zcA]
theorem zaS (s:Int):AC Tryz.prog 97 [int s] (.im (int (zlI s))):=by
 refine AC.go (rs:=[.tmp 2]) za3 zav Tryz.func97 rfl rfl rfl (by kernel_rfl) fun hl=>?_
 simp (maxSteps:=5000000) -dsimp only [↓gp,gq,reduceCtorEq,reduceEqDiff,reduceLT,reduceLeDiff,reduceAdd,reduceMul,reduceSub,Nat.reduceBEq,Int.reduceToNat,Int.reduceLE,Int.reduceLT,Int.reduceNeg,reduceMod,zac,zad,zab,zaa,gT,TK.isInt,TK.agg,Array.toList]
 refine zaf (zbV _ _) ?_
 simp (maxSteps:=5000000) -dsimp only [↓gp,gq,reduceCtorEq,reduceEqDiff,reduceLT,reduceLeDiff,reduceAdd,reduceMul,reduceSub,Nat.reduceBEq,Int.reduceToNat,Int.reduceLE,Int.reduceLT,Int.reduceNeg,reduceMod,zac,zad,zab,zaa,gT,TK.isInt,TK.agg,Array.toList,zng]
 refine ⟨fun h=>?_,fun h=>?_⟩
 ·have h:¬ (0 ≤ s∧s < 64):=by simp at h;omega
  rw [zlI,if_neg h]
 ·have h:0 ≤ s∧s < 64:=by simpa using h
  obtain ⟨m,rfl⟩:=Int.eq_ofNat_of_zero_le h.1
  rw [zkL (by omega)]
  refine zaf (ziC m (by omega)) ?_
  simp (maxSteps:=5000000) -dsimp only [↓gp,gq,reduceCtorEq,reduceEqDiff,reduceLT,reduceLeDiff,reduceAdd,reduceMul,reduceSub,Nat.reduceBEq,Int.reduceToNat,Int.reduceLE,Int.reduceLT,Int.reduceNeg,reduceMod,zac,zad,zab,zaa,gT,TK.isInt,TK.agg,Array.toList]
  rw [zlI,if_pos h];rfl
def zln (a b:Int):Bool:=decide (0 ≤ a∧a < 64) && (decide (0 ≤ b∧b < 64) && (if zlI a = zlI b then decide (a < b) else decide (zlI a < zlI b)))
theorem zeA (a b:Int):AC Tryz.prog 118 [int a,int b] (.im (bool (zln a b))):=by
 refine AC.go (rs:=[.tmp 4]) za3 zav Tryz.func118 rfl rfl rfl (by kernel_rfl) fun hl=>?_
 simp (maxSteps:=5000000) -dsimp only [↓gp,gq,reduceCtorEq,reduceEqDiff,reduceLT,reduceLeDiff,reduceAdd,reduceMul,reduceSub,Nat.reduceBEq,Int.reduceToNat,Int.reduceLE,Int.reduceLT,Int.reduceNeg,reduceMod,zac,zad,zab,zaa,gT,TK.isInt,TK.agg,Array.toList]
 refine zaf (zbV _ _) ?_
 simp (maxSteps:=5000000) -dsimp only [↓gp,gq,reduceCtorEq,reduceEqDiff,reduceLT,reduceLeDiff,reduceAdd,reduceMul,reduceSub,Nat.reduceBEq,Int.reduceToNat,Int.reduceLE,Int.reduceLT,Int.reduceNeg,reduceMod,zac,zad,zab,zaa,gT,TK.isInt,TK.agg,Array.toList,zng]
 unfold zln
 refine ⟨fun h=>zaf (zbV _ _) ?_,fun h=>?_⟩
 ·have ha:decide (0 ≤ a∧a < 64) = true:=by simpa using h
  simp (maxSteps:=5000000) -dsimp only [↓gp,gq,reduceCtorEq,reduceEqDiff,reduceLT,reduceLeDiff,reduceAdd,reduceMul,reduceSub,Nat.reduceBEq,Int.reduceToNat,Int.reduceLE,Int.reduceLT,Int.reduceNeg,reduceMod,zac,zad,zab,zaa,gT,TK.isInt,TK.agg,Array.toList,zng]
  rw [ha]
  refine ⟨fun hb=>?_,fun hb=>?_⟩
  ·have hb:decide (0 ≤ b∧b < 64) = false:=by rwa [Bool.not_eq_true'] at hb
   rw [hb];rfl
  ·have hb:decide (0 ≤ b∧b < 64) = true:=by simpa using hb
   rw [hb]
   refine zaf (zaS a) ?_
   simp (maxSteps:=5000000) -dsimp only [↓gp,gq,reduceCtorEq,reduceEqDiff,reduceLT,reduceLeDiff,reduceAdd,reduceMul,reduceSub,Nat.reduceBEq,Int.reduceToNat,Int.reduceLE,Int.reduceLT,Int.reduceNeg,reduceMod,zac,zad,zab,zaa,gT,TK.isInt,TK.agg,Array.toList]
   refine zaf (zaS b) ?_
   simp (maxSteps:=5000000) -dsimp only [↓gp,gq,reduceCtorEq,reduceEqDiff,reduceLT,reduceLeDiff,reduceAdd,reduceMul,reduceSub,Nat.reduceBEq,Int.reduceToNat,Int.reduceLE,Int.reduceLT,Int.reduceNeg,reduceMod,zac,zad,zab,zaa,gT,TK.isInt,TK.agg,Array.toList]
   refine ⟨fun hs=>zaf (zaS a) ?_,fun hs=>?_⟩
   ·simp (maxSteps:=5000000) -dsimp only [↓gp,gq,reduceCtorEq,reduceEqDiff,reduceLT,reduceLeDiff,reduceAdd,reduceMul,reduceSub,Nat.reduceBEq,Int.reduceToNat,Int.reduceLE,Int.reduceLT,Int.reduceNeg,reduceMod,zac,zad,zab,zaa,gT,TK.isInt,TK.agg,Array.toList]
    refine zaf (zaS b) ?_
    simp (maxSteps:=5000000) -dsimp only [↓gp,gq,reduceCtorEq,reduceEqDiff,reduceLT,reduceLeDiff,reduceAdd,reduceMul,reduceSub,Nat.reduceBEq,Int.reduceToNat,Int.reduceLE,Int.reduceLT,Int.reduceNeg,reduceMod,zac,zad,zab,zaa,gT,TK.isInt,TK.agg,Array.toList]
    have hs:¬ zlI a = zlI b:=by simpa using hs
    rw [if_neg hs]
   ·have hs:zlI a = zlI b:=by simpa using hs
    rw [if_pos hs]
 ·have ha:decide (0 ≤ a∧a < 64) = false:=by rwa [Bool.not_eq_true'] at h
  rw [ha];rfl
def zCX (n:Int) (xs:List Int) (k:Nat):Prop:=zcA n (xs.getD k 0) = true∧zat (xs.getD k 0).toNat = 2∧(0 < k→xs.getD (k - 1) 0 < xs.getD k 0)
def zez (n:Int) (xs:List Int):Prop:=1 ≤ n∧n ≤ 6∧∀ k,k < xs.length→zCX n xs k
open Classical in
noncomputable def zar (n:Int) (xs:List Int):Bool:=decide (zez n xs)
open Classical in
theorem zb0 {n:Int} {xs:List Int} (h:¬ zez n xs):zar n xs = false:=decide_eq_false h
open Classical in
theorem zec {n:Int} {xs:List Int} (h:zez n xs):zar n xs = true:=decide_eq_true h
theorem zbe (n:Int) (xs:List Int):AC Tryz.prog 38 [.ag [int n,zaN xs]] (.im (bool (zar n xs))):=by
 refine AC.go (rs:=[.tmp 2]) za3 zav Tryz.func38 rfl rfl rfl (by kernel_rfl) fun hl=>?_
 simp only [zaK,za7,and_true,zbv,zcC,zbR,true_and] at hl
 simp (maxSteps:=5000000) -dsimp only [↓gp,gq,reduceCtorEq,reduceEqDiff,reduceLT,reduceLeDiff,reduceAdd,reduceMul,reduceSub,Nat.reduceBEq,Int.reduceToNat,Int.reduceLE,Int.reduceLT,Int.reduceNeg,reduceMod,zac,zad,zab,zaa,gT,TK.isInt,TK.agg,Array.toList]
 refine zan (fun (k:Nat) s=>s.sl 1 = .ref 1 1 0∧s.rw 1 = ⟨1,.box 36 [int n,zaN xs]⟩∧s.sl 3 = int k∧k ≤ xs.length∧∀ i,i < k→zCX n xs i) (fun k=>xs.length - k) 0 ⟨by simp (maxSteps:=5000000) -dsimp only [gr,reduceEqDiff,reduceLT,reduceAdd,reduceMod,Nat.reduceBEq,zaa,zac,zad,zab],by simp (maxSteps:=5000000) -dsimp only [gr,reduceEqDiff,reduceLT,reduceAdd,reduceMod,Nat.reduceBEq,zaa,zac,zad,zab],by simp (maxSteps:=5000000) -dsimp only [gr,reduceEqDiff,reduceLT,reduceAdd,reduceMod,Nat.reduceBEq,zaa,zac,zad,zab];rfl,by simp,by simp⟩ ?_
 intro k s1 ⟨h1,r1,h3,hk,hall⟩
 have hw:IntKind.i64.wrap ((k:Int) - 1) = (k:Int) - 1:=zap (by omega) (by omega)
 simp (maxSteps:=5000000) -dsimp only [↓gp,gq,reduceCtorEq,reduceEqDiff,reduceLT,reduceLeDiff,reduceAdd,reduceMul,reduceSub,Nat.reduceBEq,Int.reduceToNat,Int.reduceLE,Int.reduceLT,Int.reduceNeg,reduceMod,zac,zad,zab,zaa,gT,TK.isInt,TK.agg,Array.toList,h1,r1,h3,hw,za4]
 refine ⟨fun h=>⟨by kernel_rfl,h,h,zaf (zh1 _ _) ?_⟩,fun h=>zaf (zcB _ _ _) ?_⟩
 ·simp (maxSteps:=5000000) -dsimp only [↓gp,gq,reduceCtorEq,reduceEqDiff,reduceLT,reduceLeDiff,reduceAdd,reduceMul,reduceSub,Nat.reduceBEq,Int.reduceToNat,Int.reduceLE,Int.reduceLT,Int.reduceNeg,reduceMod,zac,zad,zab,zaa,gT,TK.isInt,TK.agg,Array.toList,h1,r1,h3,hw,za4]
  refine ⟨fun hs=>⟨h,h,?_⟩,fun hs=>?_⟩
  ·have hs:zcA n (xs.getD k 0) = true:=by rwa [Bool.not_eq_false'] at hs
   have hb:=zcd hs
   refine zaf (zb8 hb.1 (by omega)) ?_
   simp (maxSteps:=5000000) -dsimp only [↓gp,gq,reduceCtorEq,reduceEqDiff,reduceLT,reduceLeDiff,reduceAdd,reduceMul,reduceSub,Nat.reduceBEq,Int.reduceToNat,Int.reduceLE,Int.reduceLT,Int.reduceNeg,reduceMod,zac,zad,zab,zaa,gT,TK.isInt,TK.agg,Array.toList,h1,r1,h3,hw,za4]
   refine ⟨fun hq=>?_,fun hq=>?_⟩
   ·have hq2:zat (xs.getD k 0).toNat = 2:=by
     have:=hq
     simp only [bne_eq_false_iff_eq] at this
     omega
    refine ⟨fun h0=>⟨h,h,by omega,by omega,by omega,fun hle=>?_,fun hle=>?_⟩,fun h0=>?_⟩
    ·exact zb0 fun hg=>by have:=(hg.2.2 k h).2.2 (by omega);omega
    ·refine zag (k + 1) ⟨by simp (maxSteps:=5000000) -dsimp only [gr,reduceEqDiff,reduceLT,reduceAdd,reduceMod,Nat.reduceBEq,zaa,zac,zad,zab,h1],by simp (maxSteps:=5000000) -dsimp only [gr,reduceEqDiff,reduceLT,reduceAdd,reduceMod,Nat.reduceBEq,zaa,zac,zad,zab,r1],by simp (maxSteps:=5000000) -dsimp only [gr,reduceEqDiff,reduceLT,reduceAdd,reduceMod,Nat.reduceBEq,zaa,zac,zad,zab];rw [zae h hl],h,fun j hj=>?_⟩ (by omega)
     rcases Nat.lt_succ_iff_lt_or_eq.1 hj with hj | rfl
     ·exact hall j hj
     ·exact ⟨hs,hq2,fun _=>by omega⟩
    ·refine zag (k + 1) ⟨by simp (maxSteps:=5000000) -dsimp only [gr,reduceEqDiff,reduceLT,reduceAdd,reduceMod,Nat.reduceBEq,zaa,zac,zad,zab,h1],by simp (maxSteps:=5000000) -dsimp only [gr,reduceEqDiff,reduceLT,reduceAdd,reduceMod,Nat.reduceBEq,zaa,zac,zad,zab,r1],by simp (maxSteps:=5000000) -dsimp only [gr,reduceEqDiff,reduceLT,reduceAdd,reduceMod,Nat.reduceBEq,zaa,zac,zad,zab];rw [zae h hl],h,fun j hj=>?_⟩ (by omega)
     rcases Nat.lt_succ_iff_lt_or_eq.1 hj with hj | rfl
     ·exact hall j hj
     ·exact ⟨hs,hq2,fun _=>by omega⟩
   ·refine zb0 fun hg=>?_
    have:=(hg.2.2 k h).2.1
    rw [this] at hq
    simp at hq
  ·have hs:zcA n (xs.getD k 0) = false:=by rwa [Bool.not_eq_true'] at hs
   exact zb0 fun hg=>by have:=(hg.2.2 k h).1;rw [hs] at this;cases this
 ·simp (maxSteps:=5000000) -dsimp only [↓gp,gq,reduceCtorEq,reduceEqDiff,reduceLT,reduceLeDiff,reduceAdd,reduceMul,reduceSub,Nat.reduceBEq,Int.reduceToNat,Int.reduceLE,Int.reduceLT,Int.reduceNeg,reduceMod,zac,zad,zab,zaa,gT,TK.isInt,TK.agg,Array.toList,h1,r1,h3,hw,za4]
  by_cases hn:1 ≤ n∧n ≤ 6
  ·rw [zec ⟨hn.1,hn.2,fun k hk=>hall k (by omega)⟩]
   simp [hn.1,hn.2]
  ·rw [zb0 fun hg=>hn ⟨hg.1,hg.2.1⟩]
   symm
   rw [Bool.and_eq_false_iff,decide_eq_false_iff_not,decide_eq_false_iff_not]
   omega
theorem zb7 (n:Int) (xs:List Int):AC Tryz.prog 37 [.ag [int n,zaN xs]] (.im (bool (zar n xs))):=by
 refine AC.go (rs:=[.tmp 2]) za3 zav Tryz.func37 rfl rfl rfl (by kernel_rfl) fun hl=>?_
 simp only [zaK,za7,and_true,zbv,zcC,zbR,true_and] at hl
 simp (maxSteps:=5000000) -dsimp only [↓gp,gq,reduceCtorEq,reduceEqDiff,reduceLT,reduceLeDiff,reduceAdd,reduceMul,reduceSub,Nat.reduceBEq,Int.reduceToNat,Int.reduceLE,Int.reduceLT,Int.reduceNeg,reduceMod,zac,zad,zab,zaa,gT,TK.isInt,TK.agg,Array.toList]
 refine ⟨fun hn=>⟨fun h6=>zb0 fun hg=>by have:=hg.2.1;omega,fun h6=>?_⟩,fun hn=>zb0 fun hg=>by have:=hg.1;omega⟩
 refine zan (fun (k:Nat) s=>s.sl 1 = .ref 1 1 0∧s.rw 1 = ⟨1,.box 36 [int n,zaN xs]⟩∧s.sl 14 = zaN xs∧s.sl 15 = int xs.length∧s.sl 16 = int k∧k ≤ xs.length∧∀ i,i < k→zCX n xs i) (fun k=>xs.length - k) 0 ⟨by simp (maxSteps:=5000000) -dsimp only [gr,reduceEqDiff,reduceLT,reduceAdd,reduceMod,Nat.reduceBEq,zaa,zac,zad,zab],by simp (maxSteps:=5000000) -dsimp only [gr,reduceEqDiff,reduceLT,reduceAdd,reduceMod,Nat.reduceBEq,zaa,zac,zad,zab],by simp (maxSteps:=5000000) -dsimp only [gr,reduceEqDiff,reduceLT,reduceAdd,reduceMod,Nat.reduceBEq,zaa,zac,zad,zab],by simp (maxSteps:=5000000) -dsimp only [gr,reduceEqDiff,reduceLT,reduceAdd,reduceMod,Nat.reduceBEq,zaa,zac,zad,zab],by simp (maxSteps:=5000000) -dsimp only [gr,reduceEqDiff,reduceLT,reduceAdd,reduceMod,Nat.reduceBEq,zaa,zac,zad,zab];rfl,by simp,by simp⟩ ?_
 intro k s1 ⟨h1,r1,h14,h15,h16,hk,hall⟩
 have hw:IntKind.i64.wrap ((k:Int) - 1) = (k:Int) - 1:=zap (by omega) (by omega)
 simp (maxSteps:=5000000) -dsimp only [↓gp,gq,reduceCtorEq,reduceEqDiff,reduceLT,reduceLeDiff,reduceAdd,reduceMul,reduceSub,Nat.reduceBEq,Int.reduceToNat,Int.reduceLE,Int.reduceLT,Int.reduceNeg,reduceMod,zac,zad,zab,zaa,gT,TK.isInt,TK.agg,Array.toList,h1,r1,h14,h15,h16,hw,za4]
 refine ⟨fun h=>⟨h,h,zaf (zbV _ _) ?_⟩,fun h=>zec ⟨by omega,by omega,fun j hj=>hall j (by omega)⟩⟩
 simp (maxSteps:=5000000) -dsimp only [↓gp,gq,reduceCtorEq,reduceEqDiff,reduceLT,reduceLeDiff,reduceAdd,reduceMul,reduceSub,Nat.reduceBEq,Int.reduceToNat,Int.reduceLE,Int.reduceLT,Int.reduceNeg,reduceMod,zac,zad,zab,zaa,gT,TK.isInt,TK.agg,Array.toList,h1,r1,h14,h15,h16,hw,za4]
 refine ⟨fun hs=>zaf (zaS _) ?_,fun hs=>?_⟩
 ·have hs:zcA n (xs.getD k 0) = true:=by rwa [Bool.not_eq_false'] at hs
  have hb:=zcd hs
  simp (maxSteps:=5000000) -dsimp only [↓gp,gq,reduceCtorEq,reduceEqDiff,reduceLT,reduceLeDiff,reduceAdd,reduceMul,reduceSub,Nat.reduceBEq,Int.reduceToNat,Int.reduceLE,Int.reduceLT,Int.reduceNeg,reduceMod,zac,zad,zab,zaa,gT,TK.isInt,TK.agg,Array.toList,h1,r1,h14,h15,h16,hw,za4]
  have hz:zlI (xs.getD k 0) = (zat (xs.getD k 0).toNat:Nat):=by rw [zlI,if_pos hb]
  rw [hz]
  refine ⟨fun hq=>?_,fun hq=>?_⟩
  ·refine zb0 fun hg=>?_
   have:=(hg.2.2 k h).2.1
   rw [this] at hq
   simp at hq
  ·have hq2:zat (xs.getD k 0).toNat = 2:=by
    have:=hq
    simp only [bne_eq_false_iff_eq] at this
    omega
   refine ⟨fun h0=>⟨by omega,by omega,by omega,zaf (zeA _ _) ?_⟩,fun h0=>?_⟩
   ·have hp:=hall (k - 1) (by omega)
    have hb':=zcd hp.1
    have e:zln (xs.getD (k - 1) 0) (xs.getD k 0) = decide (xs.getD (k - 1) 0 < xs.getD k 0):=by
     unfold zln
     rw [decide_eq_true hb',decide_eq_true hb,if_pos (by rw [zlI,zlI,if_pos hb',if_pos hb,hp.2.1,hq2])]
     rfl
    simp (maxSteps:=5000000) -dsimp only [↓gp,gq,reduceCtorEq,reduceEqDiff,reduceLT,reduceLeDiff,reduceAdd,reduceMul,reduceSub,Nat.reduceBEq,Int.reduceToNat,Int.reduceLE,Int.reduceLT,Int.reduceNeg,reduceMod,zac,zad,zab,zaa,gT,TK.isInt,TK.agg,Array.toList,h1,r1,h14,h15,h16,hw,za4,e]
    refine ⟨fun hlt=>?_,fun hlt=>?_⟩
    ·have hlt:¬ xs.getD (k - 1) 0 < xs.getD k 0:=by simpa using hlt
     exact zb0 fun hg=>hlt ((hg.2.2 k h).2.2 (by omega))
    ·have hlt:xs.getD (k - 1) 0 < xs.getD k 0:=by
      rw [Bool.not_eq_false'] at hlt
      exact of_decide_eq_true hlt
     refine zag (k + 1) ⟨by simp (maxSteps:=5000000) -dsimp only [gr,reduceEqDiff,reduceLT,reduceAdd,reduceMod,Nat.reduceBEq,zaa,zac,zad,zab,h1],by simp (maxSteps:=5000000) -dsimp only [gr,reduceEqDiff,reduceLT,reduceAdd,reduceMod,Nat.reduceBEq,zaa,zac,zad,zab,r1],by simp (maxSteps:=5000000) -dsimp only [gr,reduceEqDiff,reduceLT,reduceAdd,reduceMod,Nat.reduceBEq,zaa,zac,zad,zab,h14],by simp (maxSteps:=5000000) -dsimp only [gr,reduceEqDiff,reduceLT,reduceAdd,reduceMod,Nat.reduceBEq,zaa,zac,zad,zab,h15],by simp (maxSteps:=5000000) -dsimp only [gr,reduceEqDiff,reduceLT,reduceAdd,reduceMod,Nat.reduceBEq,zaa,zac,zad,zab];rw [zae h hl],h,fun j hj=>?_⟩ (by omega)
     rcases Nat.lt_succ_iff_lt_or_eq.1 hj with hj | rfl
     ·exact hall j hj
     ·exact ⟨hs,hq2,fun _=>hlt⟩
   ·refine zag (k + 1) ⟨by simp (maxSteps:=5000000) -dsimp only [gr,reduceEqDiff,reduceLT,reduceAdd,reduceMod,Nat.reduceBEq,zaa,zac,zad,zab,h1],by simp (maxSteps:=5000000) -dsimp only [gr,reduceEqDiff,reduceLT,reduceAdd,reduceMod,Nat.reduceBEq,zaa,zac,zad,zab,r1],by simp (maxSteps:=5000000) -dsimp only [gr,reduceEqDiff,reduceLT,reduceAdd,reduceMod,Nat.reduceBEq,zaa,zac,zad,zab,h14],by simp (maxSteps:=5000000) -dsimp only [gr,reduceEqDiff,reduceLT,reduceAdd,reduceMod,Nat.reduceBEq,zaa,zac,zad,zab,h15],by simp (maxSteps:=5000000) -dsimp only [gr,reduceEqDiff,reduceLT,reduceAdd,reduceMod,Nat.reduceBEq,zaa,zac,zad,zab];rw [zae h hl],h,fun j hj=>?_⟩ (by omega)
    rcases Nat.lt_succ_iff_lt_or_eq.1 hj with hj | rfl
    ·exact hall j hj
    ·exact ⟨hs,hq2,fun _=>by omega⟩
 ·have hs:zcA n (xs.getD k 0) = false:=by rwa [Bool.not_eq_true'] at hs
  exact zb0 fun hg=>by have:=(hg.2.2 k h).1;rw [hs] at this;cases this
theorem zlm (xs:List Int) (hx:xs.length ≤ 1048576):AC Tryz.prog 129 [zaN xs] (.fr 3 1 (iL xs)):=by
 refine AC.go (rs:=[.tmp 2]) za3 zav Tryz.func129 rfl rfl rfl (by kernel_rfl) fun hl=>?_
 simp (maxSteps:=5000000) -dsimp only [↓gp,gq,reduceCtorEq,reduceEqDiff,reduceLT,reduceLeDiff,reduceAdd,reduceMul,reduceSub,Nat.reduceBEq,Int.reduceToNat,Int.reduceLE,Int.reduceLT,Int.reduceNeg,reduceMod,zac,zad,zab,zaa,gT,TK.isInt,TK.agg,Array.toList]
 exact ⟨by omega,fun h=>h.symm⟩
noncomputable def zhr (n:Int) (xs:List Int):RV:=.tup [.ag [.im (int (if zar n xs = true then n else 0)),.fr 3 1 (iL (if zar n xs = true then xs else []))],.im (bool (zar n xs))]
theorem ziA (n:Int) (xs:List Int) (hx:xs.length ≤ 1048576):AC Tryz.prog 48 [.ag [int n,zaN xs]] (zhr n xs):=by
 refine AC.go (rs:=[.cell 2 52,.tmp 3]) za3 zav Tryz.func48 rfl rfl rfl (by kernel_rfl) fun hl=>?_
 unfold zhr
 simp (maxSteps:=5000000) -dsimp only [↓gp,gq,reduceCtorEq,reduceEqDiff,reduceLT,reduceLeDiff,reduceAdd,reduceMul,reduceSub,Nat.reduceBEq,Int.reduceToNat,Int.reduceLE,Int.reduceLT,Int.reduceNeg,reduceMod,zac,zad,zab,zaa,gT,TK.isInt,TK.agg,Array.toList]
 refine zaf (zbe n xs) ?_
 simp (maxSteps:=5000000) -dsimp only [↓gp,gq,reduceCtorEq,reduceEqDiff,reduceLT,reduceLeDiff,reduceAdd,reduceMul,reduceSub,Nat.reduceBEq,Int.reduceToNat,Int.reduceLE,Int.reduceLT,Int.reduceNeg,reduceMod,zac,zad,zab,zaa,gT,TK.isInt,TK.agg,Array.toList]
 refine ⟨fun h=>?_,fun h=>⟨by kernel_rfl,by omega,by kernel_rfl,?_⟩⟩
 ·have h:zar n xs = false:=by simpa using h
  simp [h,iL]
 ·have h:zar n xs = true:=by simpa using h
  simp [h]
theorem ziB (n:Int) (xs:List Int) (hx:xs.length ≤ 1048576):AC Tryz.prog 47 [.ag [int n,zaN xs]] (zhr n xs):=by
 refine AC.go (rs:=[.cell 2 52,.tmp 3]) za3 zav Tryz.func47 rfl rfl rfl (by kernel_rfl) fun hl=>?_
 unfold zhr
 simp (maxSteps:=5000000) -dsimp only [↓gp,gq,reduceCtorEq,reduceEqDiff,reduceLT,reduceLeDiff,reduceAdd,reduceMul,reduceSub,Nat.reduceBEq,Int.reduceToNat,Int.reduceLE,Int.reduceLT,Int.reduceNeg,reduceMod,zac,zad,zab,zaa,gT,TK.isInt,TK.agg,Array.toList]
 refine zaf (zb7 n xs) ?_
 simp (maxSteps:=5000000) -dsimp only [↓gp,gq,reduceCtorEq,reduceEqDiff,reduceLT,reduceLeDiff,reduceAdd,reduceMul,reduceSub,Nat.reduceBEq,Int.reduceToNat,Int.reduceLE,Int.reduceLT,Int.reduceNeg,reduceMod,zac,zad,zab,zaa,gT,TK.isInt,TK.agg,Array.toList]
 refine ⟨fun h=>?_,fun h=>⟨by kernel_rfl,zaf (zlm xs hx) ?_⟩⟩
 ·have h:zar n xs = false:=by simpa using h
  simp [h,iL]
 ·simp (maxSteps:=5000000) -dsimp only [↓gp,gq,reduceCtorEq,reduceEqDiff,reduceLT,reduceLeDiff,reduceAdd,reduceMul,reduceSub,Nat.reduceBEq,Int.reduceToNat,Int.reduceLE,Int.reduceLT,Int.reduceNeg,reduceMod,zac,zad,zab,zaa,gT,TK.isInt,TK.agg,Array.toList]
  have h:zar n xs = true:=by simpa using h
  refine ⟨by kernel_rfl,?_⟩
  simp [h]
theorem zh0 (xs:List Int) (n:Int):AC Tryz.prog 101 [zaN xs,int n] (.im (bool (decide (n ∈ xs)))):=by
 refine AC.go (rs:=[.tmp 4]) za3 zav Tryz.func101 rfl rfl rfl (by kernel_rfl) fun hl=>?_
 simp only [zaK,za7,and_true,zcr,zdb] at hl
 simp (maxSteps:=5000000) -dsimp only [↓gp,gq,reduceCtorEq,reduceEqDiff,reduceLT,reduceLeDiff,reduceAdd,reduceMul,reduceSub,Nat.reduceBEq,Int.reduceToNat,Int.reduceLE,Int.reduceLT,Int.reduceNeg,reduceMod,zac,zad,zab,zaa,gT,TK.isInt,TK.agg,Array.toList]
 refine zan (fun (k:Nat) s=>s.sl 0 = zaN xs∧s.sl 1 = int n∧s.sl 5 = int k∧(k ≤ xs.length∧∀ i,i < k→xs.getD i 0 ≠ n)) (fun k=>xs.length - k) (0) (by refine ⟨?_,?_,?_,by simp⟩ <;> (first | (simp (maxSteps:=5000000) -dsimp only [gr,reduceEqDiff,reduceLT,reduceAdd,reduceMod,Nat.reduceBEq,zaa,zac,zad,zab];first | done | rfl | (simp;done)) | assumption | rfl)) ?_
 intro k sa ⟨h0a,h1a,h5a,hIa⟩
 obtain ⟨hk,hall⟩:=hIa
 simp (maxSteps:=5000000) -dsimp only [↓gp,gq,reduceCtorEq,reduceEqDiff,reduceLT,reduceLeDiff,reduceAdd,reduceMul,reduceSub,Nat.reduceBEq,Int.reduceToNat,Int.reduceLE,Int.reduceLT,Int.reduceNeg,reduceMod,zac,zad,zab,zaa,gT,TK.isInt,TK.agg,Array.toList,h0a,h1a,h5a]
 refine ⟨fun h=>⟨h,h,fun he=>?_,fun he=>zag (k + 1) ⟨(by (first | (simp (maxSteps:=5000000) -dsimp only [gr,reduceEqDiff,reduceLT,reduceAdd,reduceMod,Nat.reduceBEq,zaa,zac,zad,zab,h0a,h1a,h5a,zae h hl];first | done | rfl | (simp;done)) | assumption | rfl)),(by (first | (simp (maxSteps:=5000000) -dsimp only [gr,reduceEqDiff,reduceLT,reduceAdd,reduceMod,Nat.reduceBEq,zaa,zac,zad,zab,h0a,h1a,h5a,zae h hl];first | done | rfl | (simp;done)) | assumption | rfl)),(by (first | (simp (maxSteps:=5000000) -dsimp only [gr,reduceEqDiff,reduceLT,reduceAdd,reduceMod,Nat.reduceBEq,zaa,zac,zad,zab,h0a,h1a,h5a,zae h hl];first | done | rfl | (simp;done)) | assumption | rfl)),⟨by omega,fun i hi=>?_⟩⟩ (by first | omega | (simp only;omega) | (dsimp only;omega) | (show _ < _;simp;omega))⟩,fun h=>?_⟩
 ·have he:xs.getD k 0 = n:=by simpa using he
  rw [← he]
  exact zaD 0 h
 ·rcases Nat.lt_succ_iff_lt_or_eq.1 hi with hi | rfl
  ·exact hall i hi
  ·simpa using he
 ·intro hm
  obtain ⟨i,hi,he⟩:=zbE 0 hm
  exact hall i (by omega) he
theorem zjz {a b:Int} (ha:0 ≤ a∧a < 64) (hb:0 ≤ b∧b < 64):AC Tryz.prog 181 [int a,int b] (.im (bool (zln a b))):=by
 refine AC.go (rs:=[.tmp 4]) za3 zav Tryz.func181 rfl rfl rfl (by kernel_rfl) fun hl=>?_
 simp (maxSteps:=5000000) -dsimp only [↓gp,gq,reduceCtorEq,reduceEqDiff,reduceLT,reduceLeDiff,reduceAdd,reduceMul,reduceSub,Nat.reduceBEq,Int.reduceToNat,Int.reduceLE,Int.reduceLT,Int.reduceNeg,reduceMod,zac,zad,zab,zaa,gT,TK.isInt,TK.agg,Array.toList]
 refine zaf (zb8 ha.1 (by omega)) ?_
 simp (maxSteps:=5000000) -dsimp only [↓gp,gq,reduceCtorEq,reduceEqDiff,reduceLT,reduceLeDiff,reduceAdd,reduceMul,reduceSub,Nat.reduceBEq,Int.reduceToNat,Int.reduceLE,Int.reduceLT,Int.reduceNeg,reduceMod,zac,zad,zab,zaa,gT,TK.isInt,TK.agg,Array.toList]
 refine zaf (zb8 hb.1 (by omega)) ?_
 simp (maxSteps:=5000000) -dsimp only [↓gp,gq,reduceCtorEq,reduceEqDiff,reduceLT,reduceLeDiff,reduceAdd,reduceMul,reduceSub,Nat.reduceBEq,Int.reduceToNat,Int.reduceLE,Int.reduceLT,Int.reduceNeg,reduceMod,zac,zad,zab,zaa,gT,TK.isInt,TK.agg,Array.toList]
 unfold zln zlI
 rw [if_pos ha,if_pos hb,decide_eq_true ha,decide_eq_true hb]
 simp only [Bool.true_and]
 refine ⟨fun h=>⟨fun h2=>?_,fun h2=>?_⟩,fun h=>?_⟩
 ·rw [if_pos (by simpa using h2)]
 ·rw [if_neg (by simpa using h2)]
  exact decide_eq_false (by omega)
 ·rw [if_neg (by omega)]
  exact decide_eq_true (by omega)
def zGV (n:Int) (xs:List Int) (k:Nat):Prop:=zcA n (xs.getD k 0) = true∧(0 < k→zln (xs.getD (k - 1) 0) (xs.getD k 0) = true)∧∀ i,i < k→zb4 .i64 (xs.getD i 0) (xs.getD k 0) ≠ xs.getD i 0
def cxP (n:Int) (xs:List Int):Prop:=1 ≤ n∧n ≤ 6∧∀ k,k < xs.length→zGV n xs k
open Classical in
noncomputable def zjA (n:Int) (xs:List Int):Bool:=decide (cxP n xs)
open Classical in
theorem zdQ {n:Int} {xs:List Int} (h:¬ cxP n xs):zjA n xs = false:=decide_eq_false h
open Classical in
theorem zgn {n:Int} {xs:List Int} (h:cxP n xs):zjA n xs = true:=decide_eq_true h
open Classical in
theorem zeb {n:Int} {xs:List Int}:zjA n xs = true ↔ cxP n xs:=decide_eq_true_iff
theorem zcW (n:Int) (xs:List Int):AC Tryz.prog 114 [.ag [int n,zaN xs]] (.im (bool (zjA n xs))):=by
 refine AC.go (rs:=[.tmp 2]) za3 zav Tryz.func114 rfl rfl rfl (by kernel_rfl) fun hl=>?_
 simp only [zaK,za7,and_true,zbv,zcC,zbR,true_and] at hl
 simp (maxSteps:=5000000) -dsimp only [↓gp,gq,reduceCtorEq,reduceEqDiff,reduceLT,reduceLeDiff,reduceAdd,reduceMul,reduceSub,Nat.reduceBEq,Int.reduceToNat,Int.reduceLE,Int.reduceLT,Int.reduceNeg,reduceMod,zac,zad,zab,zaa,gT,TK.isInt,TK.agg,Array.toList]
 refine zan (fun (k:Nat) s=>s.sl 1 = .ref 1 1 0∧s.rw 1 = ⟨1,.box 27 [int n,zaN xs]⟩∧s.sl 3 = int k∧(k ≤ xs.length∧∀ i,i < k→zGV n xs i)) (fun k=>xs.length - k) (0) (by refine ⟨?_,?_,?_,by simp⟩ <;> (first | (simp (maxSteps:=5000000) -dsimp only [gr,reduceEqDiff,reduceLT,reduceAdd,reduceMod,Nat.reduceBEq,zaa,zac,zad,zab];first | done | rfl | (simp;done)) | assumption | rfl)) ?_
 intro k sa ⟨h1a,r1a,h3a,hIa⟩
 obtain ⟨hk,hall⟩:=hIa
 have hw:IntKind.i64.wrap ((k:Int) - 1) = (k:Int) - 1:=zap (by omega) (by omega)
 simp (maxSteps:=5000000) -dsimp only [↓gp,gq,reduceCtorEq,reduceEqDiff,reduceLT,reduceLeDiff,reduceAdd,reduceMul,reduceSub,Nat.reduceBEq,Int.reduceToNat,Int.reduceLE,Int.reduceLT,Int.reduceNeg,reduceMod,zac,zad,zab,zaa,gT,TK.isInt,TK.agg,Array.toList,h1a,r1a,h3a,hw,za4]
 refine ⟨fun h=>⟨by kernel_rfl,h,h,zaf (zh1 _ _) ?_⟩,fun h=>zaf (zcB _ _ _) ?_⟩
 ·simp (maxSteps:=5000000) -dsimp only [↓gp,gq,reduceCtorEq,reduceEqDiff,reduceLT,reduceLeDiff,reduceAdd,reduceMul,reduceSub,Nat.reduceBEq,Int.reduceToNat,Int.reduceLE,Int.reduceLT,Int.reduceNeg,reduceMod,zac,zad,zab,zaa,gT,TK.isInt,TK.agg,Array.toList,h1a,r1a,h3a,hw,za4]
  refine ⟨fun hs=>⟨fun h0=>⟨by omega,by omega,by omega,h,h,?_⟩,fun h0=>?_⟩,fun hs=>?_⟩
  ·have hs:zcA n (xs.getD k 0) = true:=by rwa [Bool.not_eq_false'] at hs
   have hb:=zcd hs
   have hb':=zcd (hall (k - 1) (by omega)).1
   refine zaf (zjz hb' hb) ?_
   simp (maxSteps:=5000000) -dsimp only [↓gp,gq,reduceCtorEq,reduceEqDiff,reduceLT,reduceLeDiff,reduceAdd,reduceMul,reduceSub,Nat.reduceBEq,Int.reduceToNat,Int.reduceLE,Int.reduceLT,Int.reduceNeg,reduceMod,zac,zad,zab,zaa,gT,TK.isInt,TK.agg,Array.toList,h1a,r1a,h3a,hw,za4]
   refine ⟨fun hbef=>zdQ fun hg=>?_,fun hbef=>?_⟩
   ·have:=(hg.2.2 k h).2.1 (by omega)
    rw [this] at hbef;cases hbef
   ·have hbef:0 < k→zln (xs.getD (k - 1) 0) (xs.getD k 0) = true:=fun _=>by rwa [Bool.not_eq_false'] at hbef
    refine zan (fun (i:Nat) s=>s.sl 1 = .ref 1 1 0∧s.rw 1 = ⟨1,.box 27 [int n,zaN xs]⟩∧s.sl 3 = int k∧s.sl 4 = int i∧(i ≤ k∧∀ j,j < i→zb4 .i64 (xs.getD j 0) (xs.getD k 0) ≠ xs.getD j 0)) (fun i=>k - i) (0) (by refine ⟨?_,?_,?_,?_,by simp⟩ <;> (first | (simp (maxSteps:=5000000) -dsimp only [gr,reduceEqDiff,reduceLT,reduceAdd,reduceMod,Nat.reduceBEq,zaa,zac,zad,zab,h1a,r1a,h3a];first | done | rfl | (simp;done)) | assumption | rfl)) ?_
    intro i sb ⟨h1b,r1b,h3b,h4b,hIb⟩
    obtain ⟨hik,hin⟩:=hIb
    simp (maxSteps:=5000000) -dsimp only [↓gp,gq,reduceCtorEq,reduceEqDiff,reduceLT,reduceLeDiff,reduceAdd,reduceMul,reduceSub,Nat.reduceBEq,Int.reduceToNat,Int.reduceLE,Int.reduceLT,Int.reduceNeg,reduceMod,zac,zad,zab,zaa,gT,TK.isInt,TK.agg,Array.toList,h1b,r1b,h3b,h4b]
    refine ⟨fun hi=>⟨by kernel_rfl,by omega,by omega,h,h,by omega,by omega,fun he=>?_,fun he=>zag (i + 1) ⟨(by (first | (simp (maxSteps:=5000000) -dsimp only [gr,reduceEqDiff,reduceLT,reduceAdd,reduceMod,Nat.reduceBEq,zaa,zac,zad,zab,h1b,r1b,h3b,h4b,zae hi (by omega)];first | done | rfl | (simp;done)) | assumption | rfl)),(by (first | (simp (maxSteps:=5000000) -dsimp only [gr,reduceEqDiff,reduceLT,reduceAdd,reduceMod,Nat.reduceBEq,zaa,zac,zad,zab,h1b,r1b,h3b,h4b,zae hi (by omega)];first | done | rfl | (simp;done)) | assumption | rfl)),(by (first | (simp (maxSteps:=5000000) -dsimp only [gr,reduceEqDiff,reduceLT,reduceAdd,reduceMod,Nat.reduceBEq,zaa,zac,zad,zab,h1b,r1b,h3b,h4b,zae hi (by omega)];first | done | rfl | (simp;done)) | assumption | rfl)),(by (first | (simp (maxSteps:=5000000) -dsimp only [gr,reduceEqDiff,reduceLT,reduceAdd,reduceMod,Nat.reduceBEq,zaa,zac,zad,zab,h1b,r1b,h3b,h4b,zae hi (by omega)];first | done | rfl | (simp;done)) | assumption | rfl)),⟨by omega,fun j hj=>?_⟩⟩ (by first | omega | (simp only;omega) | (dsimp only;omega) | (show _ < _;simp;omega))⟩,fun hi=>zag (k + 1) ⟨(by (first | (simp (maxSteps:=5000000) -dsimp only [gr,reduceEqDiff,reduceLT,reduceAdd,reduceMod,Nat.reduceBEq,zaa,zac,zad,zab,h1a,r1a,h3a,h1b,r1b,h3b,h4b,zae h hl];first | done | rfl | (simp;done)) | assumption | rfl)),(by (first | (simp (maxSteps:=5000000) -dsimp only [gr,reduceEqDiff,reduceLT,reduceAdd,reduceMod,Nat.reduceBEq,zaa,zac,zad,zab,h1a,r1a,h3a,h1b,r1b,h3b,h4b,zae h hl];first | done | rfl | (simp;done)) | assumption | rfl)),(by (first | (simp (maxSteps:=5000000) -dsimp only [gr,reduceEqDiff,reduceLT,reduceAdd,reduceMod,Nat.reduceBEq,zaa,zac,zad,zab,h1a,r1a,h3a,h1b,r1b,h3b,h4b,zae h hl];first | done | rfl | (simp;done)) | assumption | rfl)),⟨by omega,fun j hj=>?_⟩⟩ (by first | omega | (simp only;omega) | (dsimp only;omega) | (show _ < _;simp;omega))⟩
    ·exact zdQ fun hg=>(hg.2.2 k h).2.2 i hi (by simpa using he)
    ·rcases Nat.lt_succ_iff_lt_or_eq.1 hj with hj | rfl
     ·exact hin j hj
     ·simpa using he
    ·rcases Nat.lt_succ_iff_lt_or_eq.1 hj with hj | rfl
     ·exact hall j hj
     ·exact ⟨hs,hbef,fun i hi=>hin i (by omega)⟩
  ·have hs:zcA n (xs.getD k 0) = true:=by rwa [Bool.not_eq_false'] at hs
   have hbef:0 < k→zln (xs.getD (k - 1) 0) (xs.getD k 0) = true:=fun h=>by omega
   refine zan (fun (i:Nat) s=>s.sl 1 = .ref 1 1 0∧s.rw 1 = ⟨1,.box 27 [int n,zaN xs]⟩∧s.sl 3 = int k∧s.sl 4 = int i∧(i ≤ k∧∀ j,j < i→zb4 .i64 (xs.getD j 0) (xs.getD k 0) ≠ xs.getD j 0)) (fun i=>k - i) (0) (by refine ⟨?_,?_,?_,?_,by simp⟩ <;> (first | (simp (maxSteps:=5000000) -dsimp only [gr,reduceEqDiff,reduceLT,reduceAdd,reduceMod,Nat.reduceBEq,zaa,zac,zad,zab,h1a,r1a,h3a];first | done | rfl | (simp;done)) | assumption | rfl)) ?_
   intro i sb ⟨h1b,r1b,h3b,h4b,hIb⟩
   obtain ⟨hik,hin⟩:=hIb
   simp (maxSteps:=5000000) -dsimp only [↓gp,gq,reduceCtorEq,reduceEqDiff,reduceLT,reduceLeDiff,reduceAdd,reduceMul,reduceSub,Nat.reduceBEq,Int.reduceToNat,Int.reduceLE,Int.reduceLT,Int.reduceNeg,reduceMod,zac,zad,zab,zaa,gT,TK.isInt,TK.agg,Array.toList,h1b,r1b,h3b,h4b]
   refine ⟨fun hi=>⟨by kernel_rfl,by omega,by omega,h,h,by omega,by omega,fun he=>?_,fun he=>zag (i + 1) ⟨(by (first | (simp (maxSteps:=5000000) -dsimp only [gr,reduceEqDiff,reduceLT,reduceAdd,reduceMod,Nat.reduceBEq,zaa,zac,zad,zab,h1b,r1b,h3b,h4b,zae hi (by omega)];first | done | rfl | (simp;done)) | assumption | rfl)),(by (first | (simp (maxSteps:=5000000) -dsimp only [gr,reduceEqDiff,reduceLT,reduceAdd,reduceMod,Nat.reduceBEq,zaa,zac,zad,zab,h1b,r1b,h3b,h4b,zae hi (by omega)];first | done | rfl | (simp;done)) | assumption | rfl)),(by (first | (simp (maxSteps:=5000000) -dsimp only [gr,reduceEqDiff,reduceLT,reduceAdd,reduceMod,Nat.reduceBEq,zaa,zac,zad,zab,h1b,r1b,h3b,h4b,zae hi (by omega)];first | done | rfl | (simp;done)) | assumption | rfl)),(by (first | (simp (maxSteps:=5000000) -dsimp only [gr,reduceEqDiff,reduceLT,reduceAdd,reduceMod,Nat.reduceBEq,zaa,zac,zad,zab,h1b,r1b,h3b,h4b,zae hi (by omega)];first | done | rfl | (simp;done)) | assumption | rfl)),⟨by omega,fun j hj=>?_⟩⟩ (by first | omega | (simp only;omega) | (dsimp only;omega) | (show _ < _;simp;omega))⟩,fun hi=>zag (k + 1) ⟨(by (first | (simp (maxSteps:=5000000) -dsimp only [gr,reduceEqDiff,reduceLT,reduceAdd,reduceMod,Nat.reduceBEq,zaa,zac,zad,zab,h1a,r1a,h3a,h1b,r1b,h3b,h4b,zae h hl];first | done | rfl | (simp;done)) | assumption | rfl)),(by (first | (simp (maxSteps:=5000000) -dsimp only [gr,reduceEqDiff,reduceLT,reduceAdd,reduceMod,Nat.reduceBEq,zaa,zac,zad,zab,h1a,r1a,h3a,h1b,r1b,h3b,h4b,zae h hl];first | done | rfl | (simp;done)) | assumption | rfl)),(by (first | (simp (maxSteps:=5000000) -dsimp only [gr,reduceEqDiff,reduceLT,reduceAdd,reduceMod,Nat.reduceBEq,zaa,zac,zad,zab,h1a,r1a,h3a,h1b,r1b,h3b,h4b,zae h hl];first | done | rfl | (simp;done)) | assumption | rfl)),⟨by omega,fun j hj=>?_⟩⟩ (by first | omega | (simp only;omega) | (dsimp only;omega) | (show _ < _;simp;omega))⟩
   ·exact zdQ fun hg=>(hg.2.2 k h).2.2 i hi (by simpa using he)
   ·rcases Nat.lt_succ_iff_lt_or_eq.1 hj with hj | rfl
    ·exact hin j hj
    ·simpa using he
   ·rcases Nat.lt_succ_iff_lt_or_eq.1 hj with hj | rfl
    ·exact hall j hj
    ·exact ⟨hs,hbef,fun i hi=>hin i (by omega)⟩
  ·have hs:zcA n (xs.getD k 0) = false:=by rwa [Bool.not_eq_true'] at hs
   exact zdQ fun hg=>by have:=(hg.2.2 k h).1;rw [hs] at this;cases this
 ·simp (maxSteps:=5000000) -dsimp only [↓gp,gq,reduceCtorEq,reduceEqDiff,reduceLT,reduceLeDiff,reduceAdd,reduceMul,reduceSub,Nat.reduceBEq,Int.reduceToNat,Int.reduceLE,Int.reduceLT,Int.reduceNeg,reduceMod,zac,zad,zab,zaa,gT,TK.isInt,TK.agg,Array.toList,h1a,r1a,h3a,hw,za4]
  by_cases hn:1 ≤ n∧n ≤ 6
  ·rw [zgn ⟨hn.1,hn.2,fun k hk=>hall k (by omega)⟩]
   simp [hn.1,hn.2]
  ·rw [zdQ fun hg=>hn ⟨hg.1,hg.2.1⟩]
   symm
   rw [Bool.and_eq_false_iff,decide_eq_false_iff_not,decide_eq_false_iff_not]
   omega
theorem zgo (n:Int) (xs:List Int):AC Tryz.prog 178 [int n,zaN xs] (.im (bool (zjA n xs))):=by
 refine AC.go (rs:=[.tmp 4]) za3 zav Tryz.func178 rfl rfl rfl (by kernel_rfl) fun hl=>?_
 simp only [zaK,za7,and_true,zdb,zcr,true_and] at hl
 simp (maxSteps:=5000000) -dsimp only [↓gp,gq,reduceCtorEq,reduceEqDiff,reduceLT,reduceLeDiff,reduceAdd,reduceMul,reduceSub,Nat.reduceBEq,Int.reduceToNat,Int.reduceLE,Int.reduceLT,Int.reduceNeg,reduceMod,zac,zad,zab,zaa,gT,TK.isInt,TK.agg,Array.toList]
 refine ⟨fun hn=>⟨fun h6=>zdQ fun hg=>by have:=hg.2.1;omega,fun h6=>?_⟩,fun hn=>zdQ fun hg=>by have:=hg.1;omega⟩
 refine zan (fun (k:Nat) s=>s.sl 0 = int n∧s.sl 1 = zaN xs∧s.sl 17 = zaN xs∧s.sl 18 = int xs.length∧s.sl 19 = int k∧(k ≤ xs.length∧∀ i,i < k→zcA n (xs.getD i 0) = true∧(0 < i→zln (xs.getD (i - 1) 0) (xs.getD i 0) = true))) (fun k=>xs.length - k) (0) (by refine ⟨?_,?_,?_,?_,?_,by simp⟩ <;> (first | (simp (maxSteps:=5000000) -dsimp only [gr,reduceEqDiff,reduceLT,reduceAdd,reduceMod,Nat.reduceBEq,zaa,zac,zad,zab];first | done | rfl | (simp;done)) | assumption | rfl)) ?_
 intro k sa ⟨h0a,h1a,h17a,h18a,h19a,hIa⟩
 obtain ⟨hk,hall⟩:=hIa
 have hw:IntKind.i64.wrap ((k:Int) - 1) = (k:Int) - 1:=zap (by omega) (by omega)
 simp (maxSteps:=5000000) -dsimp only [↓gp,gq,reduceCtorEq,reduceEqDiff,reduceLT,reduceLeDiff,reduceAdd,reduceMul,reduceSub,Nat.reduceBEq,Int.reduceToNat,Int.reduceLE,Int.reduceLT,Int.reduceNeg,reduceMod,zac,zad,zab,zaa,gT,TK.isInt,TK.agg,Array.toList,h0a,h1a,h17a,h18a,h19a,hw,za4]
 refine ⟨fun h=>⟨h,h,zaf (zbV _ _) ?_⟩,fun h=>?_⟩
 ·simp (maxSteps:=5000000) -dsimp only [↓gp,gq,reduceCtorEq,reduceEqDiff,reduceLT,reduceLeDiff,reduceAdd,reduceMul,reduceSub,Nat.reduceBEq,Int.reduceToNat,Int.reduceLE,Int.reduceLT,Int.reduceNeg,reduceMod,zac,zad,zab,zaa,gT,TK.isInt,TK.agg,Array.toList,h0a,h1a,h17a,h18a,h19a,hw,za4]
  refine ⟨fun hs=>?_,fun hs=>⟨fun h0=>⟨by omega,by omega,by omega,zaf (zeA _ _) ?_⟩,fun h0=>?_⟩⟩
  ·have hs:zcA n (xs.getD k 0) = false:=by rwa [Bool.not_eq_true'] at hs
   exact zdQ fun hg=>by have:=(hg.2.2 k h).1;rw [hs] at this;cases this
  ·simp (maxSteps:=5000000) -dsimp only [↓gp,gq,reduceCtorEq,reduceEqDiff,reduceLT,reduceLeDiff,reduceAdd,reduceMul,reduceSub,Nat.reduceBEq,Int.reduceToNat,Int.reduceLE,Int.reduceLT,Int.reduceNeg,reduceMod,zac,zad,zab,zaa,gT,TK.isInt,TK.agg,Array.toList,h0a,h1a,h17a,h18a,h19a,hw,za4]
   refine ⟨fun hb=>zdQ fun hg=>?_,fun hb=>zag (k + 1) ⟨(by (first | (simp (maxSteps:=5000000) -dsimp only [gr,reduceEqDiff,reduceLT,reduceAdd,reduceMod,Nat.reduceBEq,zaa,zac,zad,zab,h0a,h1a,h17a,h18a,h19a,zae h hl];first | done | rfl | (simp;done)) | assumption | rfl)),(by (first | (simp (maxSteps:=5000000) -dsimp only [gr,reduceEqDiff,reduceLT,reduceAdd,reduceMod,Nat.reduceBEq,zaa,zac,zad,zab,h0a,h1a,h17a,h18a,h19a,zae h hl];first | done | rfl | (simp;done)) | assumption | rfl)),(by (first | (simp (maxSteps:=5000000) -dsimp only [gr,reduceEqDiff,reduceLT,reduceAdd,reduceMod,Nat.reduceBEq,zaa,zac,zad,zab,h0a,h1a,h17a,h18a,h19a,zae h hl];first | done | rfl | (simp;done)) | assumption | rfl)),(by (first | (simp (maxSteps:=5000000) -dsimp only [gr,reduceEqDiff,reduceLT,reduceAdd,reduceMod,Nat.reduceBEq,zaa,zac,zad,zab,h0a,h1a,h17a,h18a,h19a,zae h hl];first | done | rfl | (simp;done)) | assumption | rfl)),(by (first | (simp (maxSteps:=5000000) -dsimp only [gr,reduceEqDiff,reduceLT,reduceAdd,reduceMod,Nat.reduceBEq,zaa,zac,zad,zab,h0a,h1a,h17a,h18a,h19a,zae h hl];first | done | rfl | (simp;done)) | assumption | rfl)),⟨by omega,fun j hj=>?_⟩⟩ (by first | omega | (simp only;omega) | (dsimp only;omega) | (show _ < _;simp;omega))⟩
   ·have:=(hg.2.2 k h).2.1 (by omega)
    rw [this] at hb;cases hb
   ·rcases Nat.lt_succ_iff_lt_or_eq.1 hj with hj | rfl
    ·exact hall j hj
    ·exact ⟨by rwa [Bool.not_eq_false'] at hs,fun _=>by rwa [Bool.not_eq_false'] at hb⟩
  ·refine zag (k + 1) ⟨(by (first | (simp (maxSteps:=5000000) -dsimp only [gr,reduceEqDiff,reduceLT,reduceAdd,reduceMod,Nat.reduceBEq,zaa,zac,zad,zab,h0a,h1a,h17a,h18a,h19a,zae h hl];first | done | rfl | (simp;done)) | assumption | rfl)),(by (first | (simp (maxSteps:=5000000) -dsimp only [gr,reduceEqDiff,reduceLT,reduceAdd,reduceMod,Nat.reduceBEq,zaa,zac,zad,zab,h0a,h1a,h17a,h18a,h19a,zae h hl];first | done | rfl | (simp;done)) | assumption | rfl)),(by (first | (simp (maxSteps:=5000000) -dsimp only [gr,reduceEqDiff,reduceLT,reduceAdd,reduceMod,Nat.reduceBEq,zaa,zac,zad,zab,h0a,h1a,h17a,h18a,h19a,zae h hl];first | done | rfl | (simp;done)) | assumption | rfl)),(by (first | (simp (maxSteps:=5000000) -dsimp only [gr,reduceEqDiff,reduceLT,reduceAdd,reduceMod,Nat.reduceBEq,zaa,zac,zad,zab,h0a,h1a,h17a,h18a,h19a,zae h hl];first | done | rfl | (simp;done)) | assumption | rfl)),(by (first | (simp (maxSteps:=5000000) -dsimp only [gr,reduceEqDiff,reduceLT,reduceAdd,reduceMod,Nat.reduceBEq,zaa,zac,zad,zab,h0a,h1a,h17a,h18a,h19a,zae h hl];first | done | rfl | (simp;done)) | assumption | rfl)),⟨by omega,fun j hj=>?_⟩⟩ (by first | omega | (simp only;omega) | (dsimp only;omega) | (show _ < _;simp;omega))
   rcases Nat.lt_succ_iff_lt_or_eq.1 hj with hj | rfl
   ·exact hall j hj
   ·exact ⟨by rwa [Bool.not_eq_false'] at hs,fun _=>by omega⟩
 ·have hall':∀ i,i < xs.length→zcA n (xs.getD i 0) = true∧(0 < i→zln (xs.getD (i - 1) 0) (xs.getD i 0) = true):=fun i hi=>hall i (by omega)
  clear hw hall
  have hsub:∀ i j,i < xs.length→j < xs.length→(zbP .i64 (xs.getD i 0) (xs.getD j 0) = 0 ↔ zb4 .i64 (xs.getD i 0) (xs.getD j 0) = xs.getD i 0):=fun i j hi hj=>zrT (zcd (hall' i hi).1) (zcd (hall' j hj).1)
  refine zan (fun (i:Nat) s=>s.sl 1 = zaN xs∧s.sl 41 = zaN xs∧s.sl 42 = int xs.length∧s.sl 43 = int i∧(i ≤ xs.length∧∀ j k,j < i→j < k→k < xs.length→zb4 .i64 (xs.getD j 0) (xs.getD k 0) ≠ xs.getD j 0)) (fun i=>xs.length - i) (0) (by refine ⟨?_,?_,?_,?_,by simp⟩ <;> (first | (simp (maxSteps:=5000000) -dsimp only [gr,reduceEqDiff,reduceLT,reduceAdd,reduceMod,Nat.reduceBEq,zaa,zac,zad,zab,h0a,h1a,h17a,h18a,h19a];first | done | rfl | (simp;done)) | assumption | rfl)) ?_
  intro i sb ⟨h1b,h41b,h42b,h43b,hIb⟩
  obtain ⟨hi,hin⟩:=hIb
  have hwi:i < xs.length→IntKind.i64.wrap ((i:Int) + 1) = ((i + 1:Nat):Int):=fun h=>zae h hl
  simp (maxSteps:=5000000) -dsimp only [↓gp,gq,reduceCtorEq,reduceEqDiff,reduceLT,reduceLeDiff,reduceAdd,reduceMul,reduceSub,Nat.reduceBEq,Int.reduceToNat,Int.reduceLE,Int.reduceLT,Int.reduceNeg,reduceMod,zac,zad,zab,zaa,gT,TK.isInt,TK.agg,Array.toList,h1b,h41b,h42b,h43b]
  refine ⟨fun hlt=>?_,fun hge=>zgn ⟨by omega,by omega,fun k hk=>⟨(hall' k hk).1,(hall' k hk).2,fun j hj=>hin j k (by omega) hj hk⟩⟩⟩
  rw [hwi hlt]
  refine ⟨hlt,hlt,by omega,by omega,?_⟩
  refine zan (fun (j:Nat) s=>s.sl 1 = zaN xs∧s.sl 41 = zaN xs∧s.sl 42 = int xs.length∧s.sl 43 = int i∧s.sl 8 = int (xs.getD i 0)∧s.sl 51 = zaN (xs.drop (i + 1))∧s.sl 52 = int (xs.length - (i + 1):Nat)∧s.sl 53 = int j∧(j ≤ xs.length - (i + 1)∧∀ k,k < j→zb4 .i64 (xs.getD i 0) (xs.getD (i + 1 + k) 0) ≠ xs.getD i 0)) (fun j=>xs.length - (i + 1) - j) (0) (by refine ⟨?_,?_,?_,?_,?_,?_,?_,?_,by simp⟩ <;> (first | (simp (maxSteps:=5000000) -dsimp only [gr,reduceEqDiff,reduceLT,reduceAdd,reduceMod,Nat.reduceBEq,zaa,zac,zad,zab,h1b,h41b,h42b,h43b];first | done | rfl | (simp;done)) | assumption | rfl)) ?_
  intro j sc ⟨h1c,h41c,h42c,h43c,h8c,h51c,h52c,h53c,hIc⟩
  obtain ⟨hj,hinn⟩:=hIc
  have hd:∀ j,(xs.drop (i + 1)).getD j 0 = xs.getD (i + 1 + j) 0:=fun j=>by simp [List.getD]
  simp (maxSteps:=5000000) -dsimp only [↓gp,gq,reduceCtorEq,reduceEqDiff,reduceLT,reduceLeDiff,reduceAdd,reduceMul,reduceSub,Nat.reduceBEq,Int.reduceToNat,Int.reduceLE,Int.reduceLT,Int.reduceNeg,reduceMod,zac,zad,zab,zaa,gT,TK.isInt,TK.agg,Array.toList,h1c,h41c,h42c,h43c,h8c,h51c,h52c,h53c,hd,List.length_drop]
  refine ⟨fun h2=>⟨h2,h2,fun he=>?_,fun he=>zag (j + 1) ⟨(by (first | (simp (maxSteps:=5000000) -dsimp only [gr,reduceEqDiff,reduceLT,reduceAdd,reduceMod,Nat.reduceBEq,zaa,zac,zad,zab,h1c,h41c,h42c,h43c,h8c,h51c,h52c,h53c,zae h2 (by omega)];first | done | rfl | (simp;done)) | assumption | rfl)),(by (first | (simp (maxSteps:=5000000) -dsimp only [gr,reduceEqDiff,reduceLT,reduceAdd,reduceMod,Nat.reduceBEq,zaa,zac,zad,zab,h1c,h41c,h42c,h43c,h8c,h51c,h52c,h53c,zae h2 (by omega)];first | done | rfl | (simp;done)) | assumption | rfl)),(by (first | (simp (maxSteps:=5000000) -dsimp only [gr,reduceEqDiff,reduceLT,reduceAdd,reduceMod,Nat.reduceBEq,zaa,zac,zad,zab,h1c,h41c,h42c,h43c,h8c,h51c,h52c,h53c,zae h2 (by omega)];first | done | rfl | (simp;done)) | assumption | rfl)),(by (first | (simp (maxSteps:=5000000) -dsimp only [gr,reduceEqDiff,reduceLT,reduceAdd,reduceMod,Nat.reduceBEq,zaa,zac,zad,zab,h1c,h41c,h42c,h43c,h8c,h51c,h52c,h53c,zae h2 (by omega)];first | done | rfl | (simp;done)) | assumption | rfl)),(by (first | (simp (maxSteps:=5000000) -dsimp only [gr,reduceEqDiff,reduceLT,reduceAdd,reduceMod,Nat.reduceBEq,zaa,zac,zad,zab,h1c,h41c,h42c,h43c,h8c,h51c,h52c,h53c,zae h2 (by omega)];first | done | rfl | (simp;done)) | assumption | rfl)),(by (first | (simp (maxSteps:=5000000) -dsimp only [gr,reduceEqDiff,reduceLT,reduceAdd,reduceMod,Nat.reduceBEq,zaa,zac,zad,zab,h1c,h41c,h42c,h43c,h8c,h51c,h52c,h53c,zae h2 (by omega)];first | done | rfl | (simp;done)) | assumption | rfl)),(by (first | (simp (maxSteps:=5000000) -dsimp only [gr,reduceEqDiff,reduceLT,reduceAdd,reduceMod,Nat.reduceBEq,zaa,zac,zad,zab,h1c,h41c,h42c,h43c,h8c,h51c,h52c,h53c,zae h2 (by omega)];first | done | rfl | (simp;done)) | assumption | rfl)),(by (first | (simp (maxSteps:=5000000) -dsimp only [gr,reduceEqDiff,reduceLT,reduceAdd,reduceMod,Nat.reduceBEq,zaa,zac,zad,zab,h1c,h41c,h42c,h43c,h8c,h51c,h52c,h53c,zae h2 (by omega)];first | done | rfl | (simp;done)) | assumption | rfl)),⟨by omega,fun k hk=>?_⟩⟩ (by first | omega | (simp only;omega) | (dsimp only;omega) | (show _ < _;simp;omega))⟩,fun h2=>zag (i + 1) ⟨(by (first | (simp (maxSteps:=5000000) -dsimp only [gr,reduceEqDiff,reduceLT,reduceAdd,reduceMod,Nat.reduceBEq,zaa,zac,zad,zab,h1b,h41b,h42b,h43b,h1c,h41c,h42c,h43c,h8c,h51c,h52c,h53c,hwi hlt];first | done | rfl | (simp;done)) | assumption | rfl)),(by (first | (simp (maxSteps:=5000000) -dsimp only [gr,reduceEqDiff,reduceLT,reduceAdd,reduceMod,Nat.reduceBEq,zaa,zac,zad,zab,h1b,h41b,h42b,h43b,h1c,h41c,h42c,h43c,h8c,h51c,h52c,h53c,hwi hlt];first | done | rfl | (simp;done)) | assumption | rfl)),(by (first | (simp (maxSteps:=5000000) -dsimp only [gr,reduceEqDiff,reduceLT,reduceAdd,reduceMod,Nat.reduceBEq,zaa,zac,zad,zab,h1b,h41b,h42b,h43b,h1c,h41c,h42c,h43c,h8c,h51c,h52c,h53c,hwi hlt];first | done | rfl | (simp;done)) | assumption | rfl)),(by (first | (simp (maxSteps:=5000000) -dsimp only [gr,reduceEqDiff,reduceLT,reduceAdd,reduceMod,Nat.reduceBEq,zaa,zac,zad,zab,h1b,h41b,h42b,h43b,h1c,h41c,h42c,h43c,h8c,h51c,h52c,h53c,hwi hlt];first | done | rfl | (simp;done)) | assumption | rfl)),⟨by omega,fun j k hj' hk hk'=>?_⟩⟩ (by first | omega | (simp only;omega) | (dsimp only;omega) | (show _ < _;simp;omega))⟩
  ·refine zdQ fun hg=>(hg.2.2 (i + 1 + j) (by omega)).2.2 i (by omega) ((hsub i (i + 1 + j) hlt (by omega)).1 (by simpa using he))
  ·rcases Nat.lt_succ_iff_lt_or_eq.1 hk with hk | rfl
   ·exact hinn k hk
   ·intro e
    have:=(hsub i (i + 1 + k) hlt (by omega)).2 e
    rw [this] at he
    simp at he
  ·rcases Nat.lt_succ_iff_lt_or_eq.1 hj' with hj' | rfl
   ·exact hin j k hj' hk hk'
   ·have:=hinn (k - (j + 1)) (by omega)
    rwa [show j + 1 + (k - (j + 1)) = k by omega] at this
theorem zrn (a:Int):zln a a = false:=by unfold zln;simp
theorem zvi {a b c:Int} (h1:zln a b = true) (h2:zln b c = true):zln a c = true:=by
 unfold zln at *
 simp only [Bool.and_eq_true,decide_eq_true_eq] at *
 obtain ⟨ha,hb,h1⟩:=h1
 obtain ⟨_,hc,h2⟩:=h2
 refine ⟨ha,hc,?_⟩
 split at h1 <;> split at h2 <;> simp only [decide_eq_true_eq] at h1 h2
 ·rw [if_pos (by omega)];exact decide_eq_true (by omega)
 ·rw [if_neg (by omega)];exact decide_eq_true (by omega)
 ·rw [if_neg (by omega)];exact decide_eq_true (by omega)
 ·rw [if_neg (by omega)];exact decide_eq_true (by omega)
theorem zwv {n:Int} {xs:List Int} (h:cxP n xs):∀ (j i:Nat),i < j→j < xs.length→zln (xs.getD i 0) (xs.getD j 0) = true:=by
 intro j
 induction j with
 | zero=>intro i hi;omega
 | succ j ih =>
   intro i hi hj
   have h1:=(h.2.2 (j + 1) hj).2.1 (by omega)
   rw [Nat.add_sub_cancel] at h1
   rcases Nat.lt_succ_iff_lt_or_eq.1 hi with hi | rfl
   ·exact zvi (ih i hi (by omega)) h1
   ·exact h1
theorem zAp {n:Int} {xs:List Int} (h:cxP n xs):xs.Nodup:=by
 refine List.pairwise_iff_getElem.2 fun i j hi hj hij e=>?_
 have:=zwv h j i hij hj
 rw [zdS 0 hi,zdS 0 hj,e,zrn] at this
 cases this
theorem zEB {l:List Int} {p:Int→Bool} {k:Nat} (h:k < l.length) (hp:p (l.getD k 0) = false):l.all p = false:=by
 rw [List.all_eq_false];exact ⟨_,zaD 0 h,fun e=>by rw [hp] at e;cases e⟩
theorem zwu {l:List Int} {p:Int→Bool} (h:∀ k,k < l.length→p (l.getD k 0) = true):l.all p = true:=by
 rw [List.all_eq_true];intro x hx
 obtain ⟨i,hi,rfl⟩:=zbE 0 hx
 exact h i hi
theorem zAn {s k:Nat} (h:s.testBit k = true):zAS s (k + 1) = zAS s k ++ [k]:=by
 unfold zAS;rw [List.range_succ,List.filter_append];simp [h]
theorem zCW {s k:Nat} (h:s.testBit k = false):zAS s (k + 1) = zAS s k:=by
 unfold zAS;rw [List.range_succ,List.filter_append];simp [h]
theorem zAo (s k:Nat):(zAS s k).length ≤ k:=by
 unfold zAS;exact Nat.le_trans (List.length_filter_le _ _) (by simp)
def zGo (s:Int):List Int:=if 0 ≤ s∧s < 64 then ofN (pts s.toNat) else []
theorem zjx (s:Int):AC Tryz.prog 110 [int s] (.fr 3 1 (iL (zGo s))):=by
 refine AC.go (rs:=[.tmp 2]) za3 zav Tryz.func110 rfl rfl rfl (by kernel_rfl) fun hl=>?_
 simp (maxSteps:=5000000) -dsimp only [↓gp,gq,reduceCtorEq,reduceEqDiff,reduceLT,reduceLeDiff,reduceAdd,reduceMul,reduceSub,Nat.reduceBEq,Int.reduceToNat,Int.reduceLE,Int.reduceLT,Int.reduceNeg,reduceMod,zac,zad,zab,zaa,gT,TK.isInt,TK.agg,Array.toList]
 refine zaf (zbV _ _) ?_
 simp (maxSteps:=5000000) -dsimp only [↓gp,gq,reduceCtorEq,reduceEqDiff,reduceLT,reduceLeDiff,reduceAdd,reduceMul,reduceSub,Nat.reduceBEq,Int.reduceToNat,Int.reduceLE,Int.reduceLT,Int.reduceNeg,reduceMod,zac,zad,zab,zaa,gT,TK.isInt,TK.agg,Array.toList,zng]
 unfold zGo
 refine ⟨fun h=>?_,fun h=>?_⟩
 ·have h:¬ (0 ≤ s∧s < 64):=by simp at h;omega
  rw [if_neg h]
  simp [iL]
 ·have h:0 ≤ s∧s < 64:=by simpa using h
  rw [if_pos h]
  obtain ⟨m,rfl⟩:=Int.eq_ofNat_of_zero_le h.1
  rw [Int.toNat_natCast]
  refine zan (fun (za:Nat × Nat) s=>match za with | (k,v)=>s.sl 0 = int m∧s.sl 3 = .own 3 v∧s.rw 3 = ⟨v,.sli 3 1 false (iL (ofN (zAS m k)))⟩∧s.sl 4 = int k∧(k ≤ 6)) (fun (k,v)=>6 - k) ((0,1)) (by refine ⟨?_,?_,?_,?_,by simp⟩ <;> (first | (simp (maxSteps:=5000000) -dsimp only [gr,reduceEqDiff,reduceLT,reduceAdd,reduceMod,Nat.reduceBEq,zaa,zac,zad,zab];first | done | rfl | (simp;done)) | assumption | rfl)) ?_
  intro (k,v) sa ⟨h0a,h3a,r3a,h4a,hIa⟩
  have hb:k < 6→(zb4 .i64 (znH .i64 (m:Int) (k:Int)) 1 == 1) = m.testBit k:=fun hk=>zd3 (by omega) (by omega)
  have hun:IntKind.u64.wrap (k:Int) = (k:Int):=za2 (by omega)
  have hlen:=zAo m k
  simp (maxSteps:=5000000) -dsimp only [↓gp,gq,reduceCtorEq,reduceEqDiff,reduceLT,reduceLeDiff,reduceAdd,reduceMul,reduceSub,Nat.reduceBEq,Int.reduceToNat,Int.reduceLE,Int.reduceLT,Int.reduceNeg,reduceMod,zac,zad,zab,zaa,gT,TK.isInt,TK.agg,Array.toList,h0a,h3a,r3a,h4a,hun,zak]
  refine ⟨fun hk=>?_,fun hk=>?_⟩
  ·have hk:k < 6:=by omega
   rw [hb hk]
   refine ⟨fun hf=>⟨by omega,?_⟩,fun hf=>?_⟩
   ·exact zag ((k + 1,v + 1)) (by refine ⟨?_,?_,?_,?_,by omega⟩ <;> (first | (simp (maxSteps:=5000000) -dsimp only [gr,reduceEqDiff,reduceLT,reduceAdd,reduceMod,Nat.reduceBEq,zaa,zac,zad,zab,h0a,h3a,r3a,h4a,zae hk (by omega),zAn hf,zaV,zcG];first | done | rfl | (simp;done)) | assumption | rfl)) (by first | omega | (simp only;omega) | (dsimp only;omega) | (show _ < _;simp;omega))
   ·exact zag ((k + 1,v)) (by refine ⟨?_,?_,?_,?_,by omega⟩ <;> (first | (simp (maxSteps:=5000000) -dsimp only [gr,reduceEqDiff,reduceLT,reduceAdd,reduceMod,Nat.reduceBEq,zaa,zac,zad,zab,h0a,h3a,r3a,h4a,zae hk (by omega),zCW hf];first | done | rfl | (simp;done)) | assumption | rfl)) (by first | omega | (simp only;omega) | (dsimp only;omega) | (show _ < _;simp;omega))
  ·obtain rfl:k = 6:=by omega
   rfl
theorem zcM {n:Int} {xs:List Int} (h:zez n xs):∃ m:Nat,n = m∧1 ≤ m∧m ≤ 6∧∀ x ∈ xs,0 ≤ x∧x < ((2 ^ m:Nat):Int)∧zat x.toNat = 2:=by
 obtain ⟨m,rfl⟩:∃ m:Nat,n = (m:Int):=⟨n.toNat,by have:=h.1;omega⟩
 refine ⟨m,rfl,by have:=h.1;omega,by have:=h.2.1;omega,fun x hx=>?_⟩
 obtain ⟨i,hi,rfl⟩:=zbE 0 hx
 obtain ⟨h1,h2,h3⟩:=h.2.2 i hi
 have h1:=of_decide_eq_true h1
 rw [zhH] at h1
 exact ⟨h1.2.2.1,h1.2.2.2,h2⟩
open Classical in
theorem zaC {n:Int} {xs:List Int}:zar n xs = true ↔ zez n xs:=decide_eq_true_iff
theorem zgi {n:Int} {xs:List Int} (h:zez n xs):∀ x ∈ xs,0 ≤ x∧x < 64:=fun x hx=>by
 obtain ⟨i,hi,rfl⟩:=zbE 0 hx
 exact zcd (h.2.2 i hi).1
def za0 (gs:List Int) (n i k:Nat):List Int:=(List.range n).map fun t=>((nbr (gs.take (if t < i then gs.length else if t = i then k else 0)) t:Nat):Int)
theorem zdP (gs:List Int) (n i k:Nat):(za0 gs n i k).length = n:=by simp [za0]
theorem zop (gs:List Int) (n:Nat):List.replicate n (0:Int) = za0 gs n 0 0:=by
 refine List.ext_getElem (by simp [za0]) fun j h1 h2=>?_
 simp only [za0,List.getElem_replicate,List.getElem_map,List.getElem_range]
 have:(if j < 0 then gs.length else if j = 0 then 0 else 0) = 0:=by rw [if_neg (by omega)];split <;> rfl
 rw [this]
 rfl
theorem zvh {gs:List Int} {n i k:Nat} (h:i < n):(za0 gs n i k).getD i 0 = ((nbr (gs.take k) i:Nat):Int):=by
 rw [zdS 0 (by rw [zdP];exact h)]
 simp [za0]
theorem zrk {gs:List Int} {n i k:Nat} (h:i < n):(za0 gs n i k).set i ((nbr (gs.take (k + 1)) i:Nat):Int) = za0 gs n i (k + 1):=by
 refine List.ext_getElem (by simp [za0]) fun j h1 h2=>?_
 simp only [za0,List.getElem_set,List.getElem_map,List.getElem_range]
 by_cases e:i = j
 ·subst e;simp
 ·rw [if_neg e,if_neg (fun q:j = i=>e q.symm),if_neg (fun q:j = i=>e q.symm)]
theorem zoq {gs:List Int} {n i k:Nat} (h:nbr (gs.take (k + 1)) i = nbr (gs.take k) i):za0 gs n i (k + 1) = za0 gs n i k:=by
 refine List.ext_getElem (by simp [za0]) fun j h1 h2=>?_
 simp only [za0,List.getElem_map,List.getElem_range]
 by_cases h3:j < i
 ·rw [if_pos h3,if_pos h3]
 ·rw [if_neg h3,if_neg h3]
  by_cases e:j = i
  ·subst e;rw [if_pos rfl,if_pos rfl,h]
  ·rw [if_neg e,if_neg e]
theorem zrl {gs:List Int} {n i:Nat}:za0 gs n i gs.length = za0 gs n (i + 1) 0:=by
 refine List.ext_getElem (by simp [za0]) fun j h1 h2=>?_
 simp only [za0,List.getElem_map,List.getElem_range]
 by_cases h3:j < i
 ·rw [if_pos h3,if_pos (by omega)]
 ·rw [if_neg h3]
  by_cases e:j = i
  ·rw [if_pos e,if_pos (by omega)]
  ·rw [if_neg e,if_neg (by omega)]
   split <;> rfl
def zll (gs:List Int) (n:Nat):List Int:=(List.range n).map fun t=>((nbr gs t:Nat):Int)
theorem zrm (gs:List Int) (n:Nat):za0 gs n n 0 = zll gs n:=by
 refine List.ext_getElem (by simp [za0,zll]) fun j h1 h2=>?_
 have:j < n:=by simpa [za0] using h1
 simp [za0,zll,this]
theorem zsq {gs:List Int} {n i:Nat} (h:i < n):(zll gs n).getD i 0 = ((nbr gs i:Nat):Int):=by
 rw [zdS 0 (by simp [zll];exact h)]
 simp [zll]
theorem zgj (n:Nat) (hn:n ≤ 6) (gs:List Int) (hg:∀ x ∈ gs,0 ≤ x∧x < 64):AC Tryz.prog 102 [.ag [int n,zaN gs]] (.fr 3 1 (iL (zll gs n))):=by
 refine AC.go (rs:=[.tmp 2]) za3 zav Tryz.func102 rfl rfl rfl (by kernel_rfl) fun hl=>?_
 simp only [zaK,za7,and_true,zbv,zcC,zbR,zcr,true_and] at hl
 simp (maxSteps:=5000000) -dsimp only [↓gp,gq,reduceCtorEq,reduceEqDiff,reduceLT,reduceLeDiff,reduceAdd,reduceMul,reduceSub,Nat.reduceBEq,Int.reduceToNat,Int.reduceLE,Int.reduceLT,Int.reduceNeg,reduceMod,zac,zad,zab,zaa,gT,TK.isInt,TK.agg,Array.toList]
 refine ⟨by omega,by omega,?_⟩
 refine zan (fun (za:Nat × Nat × Nat) s=>match za with | (k,v,u)=>s.sl 1 = .ref 1 u 0∧s.rw 1 = ⟨u,.box 36 [int n,zaN gs]⟩∧s.sl 3 = .own 9 v∧s.rw 9 = ⟨v,.sli 3 1 false (iL (za0 gs n k 0))⟩∧s.sl 11 = int n∧s.sl 12 = int k∧(k ≤ n)) (fun (k,v,u)=>n - k) ((0,1,1)) (by refine ⟨?_,?_,?_,?_,?_,?_,by simp⟩ <;> (first | (simp (maxSteps:=5000000) -dsimp only [gr,reduceEqDiff,reduceLT,reduceAdd,reduceMod,Nat.reduceBEq,zaa,zac,zad,zab,zcN,Int.toNat_natCast,← zop];first | done | rfl | (simp;done)) | assumption | rfl)) ?_
 intro (k,v,u) sa ⟨h1a,r1a,h3a,r9a,h11a,h12a,hIa⟩
 simp (maxSteps:=5000000) -dsimp only [↓gp,gq,reduceCtorEq,reduceEqDiff,reduceLT,reduceLeDiff,reduceAdd,reduceMul,reduceSub,Nat.reduceBEq,Int.reduceToNat,Int.reduceLE,Int.reduceLT,Int.reduceNeg,reduceMod,zac,zad,zab,zaa,gT,TK.isInt,TK.agg,Array.toList,h1a,r1a,h3a,r9a,h11a,h12a,zdP]
 refine ⟨fun hk=>?_,fun hk=>?_⟩
 ·refine zan (fun (zb:Nat × Nat) s=>match zb with | (j,v)=>s.sl 1 = .ref 1 u 0∧s.rw 1 = ⟨u,.box 36 [int n,zaN gs]⟩∧s.sl 3 = .own 9 v∧s.rw 9 = ⟨v,.sli 3 1 false (iL (za0 gs n k j))⟩∧s.sl 11 = int n∧s.sl 12 = int k∧s.sl 4 = int k∧s.sl 16 = zaN gs∧s.sl 17 = int gs.length∧s.sl 18 = int j∧(j ≤ gs.length)) (fun (j,v)=>gs.length - j) ((0,v)) (by refine ⟨?_,?_,?_,?_,?_,?_,?_,?_,?_,?_,by simp⟩ <;> (first | (simp (maxSteps:=5000000) -dsimp only [gr,reduceEqDiff,reduceLT,reduceAdd,reduceMod,Nat.reduceBEq,zaa,zac,zad,zab,h1a,r1a,h3a,r9a,h11a,h12a];first | done | rfl | (simp;done)) | assumption | rfl)) ?_
  intro (j,v) sb ⟨h1b,r1b,h3b,r9b,h11b,h12b,h4b,h16b,h17b,h18b,hIb⟩
  have hun:IntKind.u64.wrap (k:Int) = (k:Int):=za2 (by omega)
  simp (maxSteps:=5000000) -dsimp only [↓gp,gq,reduceCtorEq,reduceEqDiff,reduceLT,reduceLeDiff,reduceAdd,reduceMul,reduceSub,Nat.reduceBEq,Int.reduceToNat,Int.reduceLE,Int.reduceLT,Int.reduceNeg,reduceMod,zac,zad,zab,zaa,gT,TK.isInt,TK.agg,Array.toList,h1b,r1b,h3b,r9b,h11b,h12b,h4b,h16b,h17b,h18b,zdP,hun]
  refine ⟨fun hj=>⟨hj,hj,?_⟩,fun hj=>?_⟩
  ·have hx:=hg _ (zaD 0 hj)
   obtain ⟨e,he⟩:=Int.eq_ofNat_of_zero_le hx.1
   rw [he,zd3 (by omega) (by omega)]
   have hg':∀ x ∈ gs,x.toNat < 64:=fun x hx=>by have:=hg x hx;omega
   refine ⟨fun hf=>?_,fun hf=>?_⟩
   ·have hy:=zy2 (i:=k) hj hg' (by rw [he,Int.toNat_natCast];exact hf)
    have h2k:2 ^ k < 64:=by have:2 ^ k < 2 ^ 6:=Nat.pow_lt_pow_right (by omega) (by omega);omega
    have hnl:=zkM (gs.take j) k
    have hxl:e ^^^ (e &&& 2 ^ k) < 64:=Nat.xor_lt_two_pow (n:=6) (by omega) (Nat.lt_of_le_of_lt Nat.and_le_left (by omega))
    have hor:ior .i64 ((za0 gs n k j).getD k 0) (zbP .i64 (e:Int) (zkH .i64 1 (k:Int))) = ((nbr (gs.take (j + 1)) k:Nat):Int):=by
     rw [zvh hk,za5 (by omega),zbr (by omega) (by omega),zdk (by omega) (by omega),hy,he,Int.toNat_natCast]
    exact ⟨hk,hk,hk,by omega,zag ((j + 1,v)) (by refine ⟨?_,?_,?_,?_,?_,?_,?_,?_,?_,?_,by omega⟩ <;> (first | (simp (maxSteps:=5000000) -dsimp only [gr,reduceEqDiff,reduceLT,reduceAdd,reduceMod,Nat.reduceBEq,zaa,zac,zad,zab,h1b,r1b,h3b,r9b,h11b,h12b,h4b,h16b,h17b,h18b,he,hor,zrk hk,zae hj (by omega)];first | done | rfl | (simp;done)) | assumption | rfl)) (by first | omega | (simp only;omega) | (dsimp only;omega) | (show _ < _;simp;omega))⟩
   ·have hy:za0 gs n k (j + 1) = za0 gs n k j:=zoq (zCA hj (by rw [he,Int.toNat_natCast];exact hf))
    exact zag ((j + 1,v)) (by refine ⟨?_,?_,?_,?_,?_,?_,?_,?_,?_,?_,by omega⟩ <;> (first | (simp (maxSteps:=5000000) -dsimp only [gr,reduceEqDiff,reduceLT,reduceAdd,reduceMod,Nat.reduceBEq,zaa,zac,zad,zab,h1b,r1b,h3b,r9b,h11b,h12b,h4b,h16b,h17b,h18b,zae hj (by omega),hy];first | done | rfl | (simp;done)) | assumption | rfl)) (by first | omega | (simp only;omega) | (dsimp only;omega) | (show _ < _;simp;omega))
  ·obtain rfl:j = gs.length:=by omega
   exact zag ((k + 1,v,u)) (by refine ⟨?_,?_,?_,?_,?_,?_,by omega⟩ <;> (first | (simp (maxSteps:=5000000) -dsimp only [gr,reduceEqDiff,reduceLT,reduceAdd,reduceMod,Nat.reduceBEq,zaa,zac,zad,zab,h1a,r1a,h3a,r9a,h11a,h12a,h1b,r1b,h3b,r9b,h11b,h12b,h4b,h16b,h17b,h18b,zae hk (by omega),← zrl];first | done | rfl | (simp;done)) | assumption | rfl)) (by first | omega | (simp only;omega) | (dsimp only;omega) | (show _ < _;simp;omega))
 ·obtain rfl:k = n:=by omega
  rw [zrm]
theorem zdB (n:Nat) (gs:List Int) (hg:zez n gs) (i:Nat) (hi:i < n):AC Tryz.prog 34 [.ag [int n,zaN gs],int i] (.im (int (nbr gs i:Nat))):=by
 refine AC.go (rs:=[.tmp 4]) za3 zav Tryz.func34 rfl rfl rfl (by kernel_rfl) fun hl=>?_
 simp only [zaK,za7,and_true,zbv,zcC,zbR,zcr,zdb,true_and] at hl
 have hn:n ≤ 6:=by have:=hg.2.1;omega
 have hgt:zar n gs = true:=zec hg
 have hin:∀ x ∈ gs,0 ≤ x∧x < 64:=zgi hg
 have hg':∀ x ∈ gs,x.toNat < 64:=fun x hx=>by have:=hin x hx;omega
 have hun:IntKind.u64.wrap (i:Int) = (i:Int):=za2 (by omega)
 simp (maxSteps:=5000000) -dsimp only [↓gp,gq,reduceCtorEq,reduceEqDiff,reduceLT,reduceLeDiff,reduceAdd,reduceMul,reduceSub,Nat.reduceBEq,Int.reduceToNat,Int.reduceLE,Int.reduceLT,Int.reduceNeg,reduceMod,zac,zad,zab,zaa,gT,TK.isInt,TK.agg,Array.toList]
 refine zan (fun (k:Nat) s=>s.sl 1 = int i∧s.sl 2 = .ref 2 1 0∧s.rw 2 = ⟨1,.box 36 [int n,zaN gs]⟩∧s.sl 5 = int (nbr (gs.take k) i:Nat)∧s.sl 6 = int k∧(k ≤ gs.length)) (fun k=>gs.length - k) (0) (by refine ⟨?_,?_,?_,?_,?_,by simp⟩ <;> (first | (simp (maxSteps:=5000000) -dsimp only [gr,reduceEqDiff,reduceLT,reduceAdd,reduceMod,Nat.reduceBEq,zaa,zac,zad,zab];first | done | rfl | (simp;done)) | assumption | rfl)) ?_
 intro k sa ⟨h1a,h2a,r2a,h5a,h6a,hIa⟩
 simp (maxSteps:=5000000) -dsimp only [↓gp,gq,reduceCtorEq,reduceEqDiff,reduceLT,reduceLeDiff,reduceAdd,reduceMul,reduceSub,Nat.reduceBEq,Int.reduceToNat,Int.reduceLE,Int.reduceLT,Int.reduceNeg,reduceMod,zac,zad,zab,zaa,gT,TK.isInt,TK.agg,Array.toList,h1a,h2a,r2a,h5a,h6a,hun]
 refine ⟨fun h=>?_,fun h=>?_⟩
 ·refine zaf (zbe n gs) ?_
  simp (maxSteps:=5000000) -dsimp only [↓gp,gq,reduceCtorEq,reduceEqDiff,reduceLT,reduceLeDiff,reduceAdd,reduceMul,reduceSub,Nat.reduceBEq,Int.reduceToNat,Int.reduceLE,Int.reduceLT,Int.reduceNeg,reduceMod,zac,zad,zab,zaa,gT,TK.isInt,TK.agg,Array.toList,h1a,h2a,r2a,h5a,h6a,hun,hgt]
  refine zaf (zcB _ _ _) ?_
  have hd:(decide ((0:Int) ≤ i) && decide ((i:Int) ≤ IntKind.i64.wrap ((n:Int) - 1))) = true:=by
   rw [zap (by omega) (by omega)]
   simp
   omega
  have hx:=hin _ (zaD 0 h)
  obtain ⟨e,he⟩:=Int.eq_ofNat_of_zero_le hx.1
  have hbt:(zb4 .i64 (znH .i64 (e:Int) (i:Int)) 1 == 1) = e.testBit i:=zd3 (by omega) (by omega)
  simp (maxSteps:=5000000) -dsimp only [↓gp,gq,reduceCtorEq,reduceEqDiff,reduceLT,reduceLeDiff,reduceAdd,reduceMul,reduceSub,Nat.reduceBEq,Int.reduceToNat,Int.reduceLE,Int.reduceLT,Int.reduceNeg,reduceMod,zac,zad,zab,zaa,gT,TK.isInt,TK.agg,Array.toList,h1a,h2a,r2a,h5a,h6a,hun,hd,he,hbt]
  have hd2:(decide True && decide ((i:Int) ≤ IntKind.i64.wrap ((n:Int) - 1))) = true:=by
   rw [zap (by omega) (by omega)]
   simp
   omega
  refine ⟨fun _=>⟨h,h,fun hf=>⟨h,h,?_⟩,fun hf=>?_⟩,fun hh=>by rw [hd2] at hh;cases hh⟩
  ·have hy:=zy2 (i:=i) h hg' (by rw [he,Int.toNat_natCast];exact hf)
   have h2k:2 ^ i < 64:=by have:2 ^ i < 2 ^ 6:=Nat.pow_lt_pow_right (by omega) (by omega);omega
   have h2e:2 ^ i ≤ e:=Nat.ge_two_pow_of_testBit hf
   have hnl:=zkM (gs.take k) i
   have hxl:e ^^^ (e &&& 2 ^ i) < 64:=Nat.xor_lt_two_pow (n:=6) (by omega) (Nat.lt_of_le_of_lt Nat.and_le_left (by omega))
   have hst:=zDz e (by omega) i (by omega) hf
   have hor:ior .i64 ((nbr (gs.take k) i:Nat):Int) (IntKind.i64.wrap ((e:Int) - zkH .i64 1 (i:Int))) = ((nbr (gs.take (k + 1)) i:Nat):Int):=by
    have e3:(e:Int) - ((2 ^ i:Nat):Int) = ((e - 2 ^ i:Nat):Int):=by omega
    rw [za5 (by omega),e3,zap (by omega) (by omega),hst,zdk (by omega) (by omega),hy,he,Int.toNat_natCast]
   exact zag (k + 1) (by refine ⟨?_,?_,?_,?_,?_,by omega⟩ <;> (first | (simp (maxSteps:=5000000) -dsimp only [gr,reduceEqDiff,reduceLT,reduceAdd,reduceMod,Nat.reduceBEq,zaa,zac,zad,zab,h1a,h2a,r2a,h5a,h6a,he,hun,hor,zae h (by omega)];first | done | rfl | (simp;done)) | assumption | rfl)) (by first | omega | (simp only;omega) | (dsimp only;omega) | (show _ < _;simp;omega))
  ·have hy:=zCA h (by rw [he,Int.toNat_natCast];exact hf)
   exact zag (k + 1) (by refine ⟨?_,?_,?_,?_,?_,by omega⟩ <;> (first | (simp (maxSteps:=5000000) -dsimp only [gr,reduceEqDiff,reduceLT,reduceAdd,reduceMod,Nat.reduceBEq,zaa,zac,zad,zab,h1a,h2a,r2a,h5a,h6a,hy,zae h (by omega)];first | done | rfl | (simp;done)) | assumption | rfl)) (by first | omega | (simp only;omega) | (dsimp only;omega) | (show _ < _;simp;omega))
 ·obtain rfl:k = gs.length:=by omega
  rw [List.take_length]
theorem ziz (g:FuncId) (cs:List PV) (sh:Int→Int) (P:Int→Prop) (hw:∀ e:Int,P e→AC Tryz.prog g [int e,.eref false cs 0] (.im (int (sh e)))) :
 ∀ (len:Nat) (xs:List Int) (c:Int),xs.length = len→xs.length ≤ 1048576→(∀ x ∈ xs,P x)→AC Tryz.prog 131 [zaN xs,int c,.clo g [.eref false cs 0]] (.im (int (zeI sh xs c))):=by
 intro len
 induction len using Nat.strongRecOn with
 | ind len ih =>
   intro xs c hlen hx hP
   refine AC.go (rs:=[.tmp 6]) za3 zav Tryz.func131 rfl rfl rfl (by kernel_rfl) fun hl=>?_
   simp (maxSteps:=5000000) -dsimp only [↓gp,gq,reduceCtorEq,reduceEqDiff,reduceLT,reduceLeDiff,reduceAdd,reduceMul,reduceSub,Nat.reduceBEq,Int.reduceToNat,Int.reduceLE,Int.reduceLT,Int.reduceNeg,reduceMod,zac,zad,zab,zaa,gT,TK.isInt,TK.agg,Array.toList]
   refine zan (fun (za:Nat × Int) s=>match za with | (i,m)=>s.sl 0 = zaN xs∧s.sl 1 = int c∧s.sl 2 = .clo g [.eref false cs 0]∧s.sl 10 = zaN xs∧s.sl 11 = int xs.length∧s.sl 12 = int i∧s.sl 7 = int m∧(i ≤ xs.length∧0 ≤ m∧m ≤ xs.length∧zeI sh xs c = max m (zeI sh (xs.drop i) c))) (fun (i,m)=>xs.length - i) ((0,0)) (by refine ⟨?_,?_,?_,?_,?_,?_,?_,⟨by simp,by simp,by simp,by have:=zip sh xs c;simp;omega⟩⟩ <;> (first | (simp (maxSteps:=5000000) -dsimp only [gr,reduceEqDiff,reduceLT,reduceAdd,reduceMod,Nat.reduceBEq,zaa,zac,zad,zab];first | done | rfl | (simp;done)) | assumption | rfl)) ?_
   intro (i,m) sa ⟨h0a,h1a,h2a,h10a,h11a,h12a,h7a,hIa⟩
   obtain ⟨hi,hm0,hm1,hall⟩:=hIa
   simp (maxSteps:=5000000) -dsimp only [↓gp,gq,reduceCtorEq,reduceEqDiff,reduceLT,reduceLeDiff,reduceAdd,reduceMul,reduceSub,Nat.reduceBEq,Int.reduceToNat,Int.reduceLE,Int.reduceLT,Int.reduceNeg,reduceMod,zac,zad,zab,zaa,gT,TK.isInt,TK.agg,Array.toList,h0a,h1a,h2a,h10a,h11a,h12a,h7a]
   have hw1:i < xs.length→IntKind.i64.wrap ((i:Int) + 1) = ((i + 1:Nat):Int):=fun h=>zae h (by omega)
   refine ⟨fun h=>⟨h,h,fun he=>⟨by kernel_rfl,?_⟩,fun he=>?_⟩,fun h=>?_⟩
   ·rw [hw1 h]
    have hm:=zip sh (xs.drop (i + 1)) (ior .i64 c (sh (xs.getD i 0)))
    have hdl:(xs.drop (i + 1)).length = xs.length - (i + 1):=by simp
    have he:zb4 .i64 (xs.getD i 0) c = 0:=by simpa using he
    refine ⟨by omega,by omega,zaf (hw _ (hP _ (zaD 0 h))) ?_⟩
    simp (maxSteps:=5000000) -dsimp only [↓gp,gq,reduceCtorEq,reduceEqDiff,reduceLT,reduceLeDiff,reduceAdd,reduceMul,reduceSub,Nat.reduceBEq,Int.reduceToNat,Int.reduceLE,Int.reduceLT,Int.reduceNeg,reduceMod,zac,zad,zab,zaa,gT,TK.isInt,TK.agg,Array.toList,h0a,h1a,h2a,h10a,h11a,h12a,h7a,hw1 h]
    refine zaf (ih (xs.drop (i + 1)).length (by omega) _ _ rfl (by omega) fun x hx=>hP x (List.mem_of_mem_drop hx)) ?_
    have hw2:IntKind.i64.wrap (1 + zeI sh (xs.drop (i + 1)) (ior .i64 c (sh (xs.getD i 0)))) = 1 + zeI sh (xs.drop (i + 1)) (ior .i64 c (sh (xs.getD i 0))):=zap (by omega) (by omega)
    simp (maxSteps:=5000000) -dsimp only [↓gp,gq,reduceCtorEq,reduceEqDiff,reduceLT,reduceLeDiff,reduceAdd,reduceMul,reduceSub,Nat.reduceBEq,Int.reduceToNat,Int.reduceLE,Int.reduceLT,Int.reduceNeg,reduceMod,zac,zad,zab,zaa,gT,TK.isInt,TK.agg,Array.toList,h0a,h1a,h2a,h10a,h11a,h12a,h7a,hw1 h,hw2]
    refine zag (i + 1,max m (1 + zeI sh (xs.drop (i + 1)) (ior .i64 c (sh (xs.getD i 0))))) ⟨by simp (maxSteps:=5000000) -dsimp only [gr,reduceEqDiff,reduceLT,reduceAdd,reduceMod,Nat.reduceBEq,zaa,zac,zad,zab,h0a,h1a,h2a,h10a,h11a,h12a,h7a],by simp (maxSteps:=5000000) -dsimp only [gr,reduceEqDiff,reduceLT,reduceAdd,reduceMod,Nat.reduceBEq,zaa,zac,zad,zab,h0a,h1a,h2a,h10a,h11a,h12a,h7a],by simp (maxSteps:=5000000) -dsimp only [gr,reduceEqDiff,reduceLT,reduceAdd,reduceMod,Nat.reduceBEq,zaa,zac,zad,zab,h0a,h1a,h2a,h10a,h11a,h12a,h7a],by simp (maxSteps:=5000000) -dsimp only [gr,reduceEqDiff,reduceLT,reduceAdd,reduceMod,Nat.reduceBEq,zaa,zac,zad,zab,h0a,h1a,h2a,h10a,h11a,h12a,h7a],by simp (maxSteps:=5000000) -dsimp only [gr,reduceEqDiff,reduceLT,reduceAdd,reduceMod,Nat.reduceBEq,zaa,zac,zad,zab,h0a,h1a,h2a,h10a,h11a,h12a,h7a],by simp (maxSteps:=5000000) -dsimp only [gr,reduceEqDiff,reduceLT,reduceAdd,reduceMod,Nat.reduceBEq,zaa,zac,zad,zab],?_,h,by simp only;omega,by simp only;omega,?_⟩ (by simp only;omega)
    ·simp (maxSteps:=5000000) -dsimp only [gr,reduceEqDiff,reduceLT,reduceAdd,reduceMod,Nat.reduceBEq,zaa,zac,zad,zab]
     congr 2 <;> omega
    ·rw [hall,zdj 0 h]
     simp only [zeI]
     rw [if_pos he]
     omega
   ·have he:¬ zb4 .i64 (xs.getD i 0) c = 0:=by simpa using he
    refine zag ((i + 1,m)) ⟨(by (first | (simp (maxSteps:=5000000) -dsimp only [gr,reduceEqDiff,reduceLT,reduceAdd,reduceMod,Nat.reduceBEq,zaa,zac,zad,zab,h0a,h1a,h2a,h10a,h11a,h12a,h7a,hw1 h];first | done | rfl | (simp;done)) | assumption | rfl)),(by (first | (simp (maxSteps:=5000000) -dsimp only [gr,reduceEqDiff,reduceLT,reduceAdd,reduceMod,Nat.reduceBEq,zaa,zac,zad,zab,h0a,h1a,h2a,h10a,h11a,h12a,h7a,hw1 h];first | done | rfl | (simp;done)) | assumption | rfl)),(by (first | (simp (maxSteps:=5000000) -dsimp only [gr,reduceEqDiff,reduceLT,reduceAdd,reduceMod,Nat.reduceBEq,zaa,zac,zad,zab,h0a,h1a,h2a,h10a,h11a,h12a,h7a,hw1 h];first | done | rfl | (simp;done)) | assumption | rfl)),(by (first | (simp (maxSteps:=5000000) -dsimp only [gr,reduceEqDiff,reduceLT,reduceAdd,reduceMod,Nat.reduceBEq,zaa,zac,zad,zab,h0a,h1a,h2a,h10a,h11a,h12a,h7a,hw1 h];first | done | rfl | (simp;done)) | assumption | rfl)),(by (first | (simp (maxSteps:=5000000) -dsimp only [gr,reduceEqDiff,reduceLT,reduceAdd,reduceMod,Nat.reduceBEq,zaa,zac,zad,zab,h0a,h1a,h2a,h10a,h11a,h12a,h7a,hw1 h];first | done | rfl | (simp;done)) | assumption | rfl)),(by (first | (simp (maxSteps:=5000000) -dsimp only [gr,reduceEqDiff,reduceLT,reduceAdd,reduceMod,Nat.reduceBEq,zaa,zac,zad,zab,h0a,h1a,h2a,h10a,h11a,h12a,h7a,hw1 h];first | done | rfl | (simp;done)) | assumption | rfl)),(by (first | (simp (maxSteps:=5000000) -dsimp only [gr,reduceEqDiff,reduceLT,reduceAdd,reduceMod,Nat.reduceBEq,zaa,zac,zad,zab,h0a,h1a,h2a,h10a,h11a,h12a,h7a,hw1 h];first | done | rfl | (simp;done)) | assumption | rfl)),⟨h,hm0,hm1,?_⟩⟩ (by first | omega | (simp only;omega) | (dsimp only;omega) | (show _ < _;simp;omega))
    rw [hall,zdj 0 h]
    simp only [zeI]
    rw [if_neg he]
   ·rw [hall,List.drop_of_length_le (by omega)]
    simp only [zeI]
    omega
theorem zjy (n:Nat) (xs:List Int) (hg:zez n xs) (hx:xs.length ≤ 1048576):∀ (len at0:Nat) (u:Nat),u < 2 ^ n→at0 + len = xs.length→AC Tryz.prog 122 [.ag [int n,zaN xs],int at0,int u,bool true] (.im (int (mostP (nrI xs n) (xs.drop at0) u))):=by
 intro len
 have hn:n ≤ 6:=by have:=hg.2.1;omega
 have h64:=zao hn
 have hin:=zgi hg
 obtain ⟨_,e0,_,_,hnat⟩:=zcM hg
 have e0:=Int.ofNat.inj e0
 subst e0
 have hg':∀ x ∈ xs,x.toNat < 64:=fun x hx=>by have:=hin x hx;omega
 induction len with
 | zero =>
   intro at0 u hu hat
   refine AC.go (rs:=[.tmp 8]) za3 zav Tryz.func122 rfl rfl rfl (by kernel_rfl) fun hl=>?_
   simp (maxSteps:=5000000) -dsimp only [↓gp,gq,reduceCtorEq,reduceEqDiff,reduceLT,reduceLeDiff,reduceAdd,reduceMul,reduceSub,Nat.reduceBEq,Int.reduceToNat,Int.reduceLE,Int.reduceLT,Int.reduceNeg,reduceMod,zac,zad,zab,zaa,gT,TK.isInt,TK.agg,Array.toList]
   refine ⟨fun h=>?_,fun h=>?_⟩
   ·rw [List.drop_of_length_le (by omega)];rfl
   ·exfalso
    simp at h
    omega
 | succ len ih =>
   intro at0 u hu hat
   refine AC.go (rs:=[.tmp 8]) za3 zav Tryz.func122 rfl rfl rfl (by kernel_rfl) fun hl=>?_
   have hw:IntKind.i64.wrap ((at0:Int) + 1) = ((at0 + 1:Nat):Int):=zae (n:=xs.length) (by omega) (by omega)
   simp (maxSteps:=5000000) -dsimp only [↓gp,gq,reduceCtorEq,reduceEqDiff,reduceLT,reduceLeDiff,reduceAdd,reduceMul,reduceSub,Nat.reduceBEq,Int.reduceToNat,Int.reduceLE,Int.reduceLT,Int.reduceNeg,reduceMod,zac,zad,zab,zaa,gT,TK.isInt,TK.agg,Array.toList,hw]
   refine ⟨fun h=>?_,fun h=>zaf (ih (at0 + 1) u hu (by omega)) ?_⟩
   ·exfalso
    simp at h
    omega
   ·simp (maxSteps:=5000000) -dsimp only [↓gp,gq,reduceCtorEq,reduceEqDiff,reduceLT,reduceLeDiff,reduceAdd,reduceMul,reduceSub,Nat.reduceBEq,Int.reduceToNat,Int.reduceLE,Int.reduceLT,Int.reduceNeg,reduceMod,zac,zad,zab,zaa,gT,TK.isInt,TK.agg,Array.toList,hw]
    have hlt:at0 < xs.length:=by omega
    refine ⟨hlt,hlt,?_⟩
    have hxe:=hnat _ (zaD 0 hlt)
    obtain ⟨e,he⟩:=Int.eq_ofNat_of_zero_le hxe.1
    have hel:e < 2 ^ n:=by have:=hxe.2.1;omega
    rw [he]
    refine zan (fun (k:Nat) s=>s.sl 4 = .ref 4 1 0∧s.rw 4 = ⟨1,.box 36 [int n,zaN xs]⟩∧s.sl 1 = int at0∧s.sl 2 = int u∧s.sl 3 = bool true∧s.sl 9 = int (mostP (nrI xs n) (xs.drop (at0 + 1)) u)∧s.sl 10 = int e∧s.sl 11 = int (nrK xs e k:Nat)∧s.sl 12 = int k∧(k ≤ n)) (fun k=>n - k) (0) (by refine ⟨?_,?_,?_,?_,?_,?_,?_,?_,?_,by simp⟩ <;> (first | (simp (maxSteps:=5000000) -dsimp only [gr,reduceEqDiff,reduceLT,reduceAdd,reduceMod,Nat.reduceBEq,zaa,zac,zad,zab];first | done | rfl | (simp;done)) | assumption | rfl)) ?_
    intro k sa ⟨h4a,r4a,h1a,h2a,h3a,h9a,h10a,h11a,h12a,hIa⟩
    have hun:IntKind.u64.wrap (k:Int) = (k:Int):=za2 (by omega)
    have hb:k < n→(zb4 .i64 (znH .i64 (e:Int) (k:Int)) 1 == 1) = e.testBit k:=fun hk=>zd3 (by omega) (by omega)
    simp (maxSteps:=5000000) -dsimp only [↓gp,gq,reduceCtorEq,reduceEqDiff,reduceLT,reduceLeDiff,reduceAdd,reduceMul,reduceSub,Nat.reduceBEq,Int.reduceToNat,Int.reduceLE,Int.reduceLT,Int.reduceNeg,reduceMod,zac,zad,zab,zaa,gT,TK.isInt,TK.agg,Array.toList,h4a,r4a,h1a,h2a,h3a,h9a,h10a,h11a,h12a,hun]
    refine ⟨fun hk=>⟨fun hf=>?_,fun hf=>?_⟩,fun hk=>?_⟩
    ·refine zaf (zdB n xs hg k hk) ?_
     have hor:ior .i64 ((nrK xs e k:Nat):Int) ((nbr xs k:Nat):Int) = ((nrK xs e (k + 1):Nat):Int):=by
      have h1:=zqF xs e k
      have h2:=zkM xs k
      rw [zdk (by omega) (by omega),zDA hg' (by rw [← hb hk];exact hf)]
     simp (maxSteps:=5000000) -dsimp only [↓gp,gq,reduceCtorEq,reduceEqDiff,reduceLT,reduceLeDiff,reduceAdd,reduceMul,reduceSub,Nat.reduceBEq,Int.reduceToNat,Int.reduceLE,Int.reduceLT,Int.reduceNeg,reduceMod,zac,zad,zab,zaa,gT,TK.isInt,TK.agg,Array.toList,h4a,r4a,h1a,h2a,h3a,h9a,h10a,h11a,h12a,hun,hor]
     exact zag (k + 1) (by refine ⟨?_,?_,?_,?_,?_,?_,?_,?_,?_,by omega⟩ <;> (first | (simp (maxSteps:=5000000) -dsimp only [gr,reduceEqDiff,reduceLT,reduceAdd,reduceMod,Nat.reduceBEq,zaa,zac,zad,zab,h4a,r4a,h1a,h2a,h3a,h9a,h10a,h11a,h12a,hor,zae hk (by omega)];first | done | rfl | (simp;done)) | assumption | rfl)) (by first | omega | (simp only;omega) | (dsimp only;omega) | (show _ < _;simp;omega))
    ·have hno:nrK xs e (k + 1) = nrK xs e k:=zFY hg' (by rw [← hb hk];exact hf)
     exact zag (k + 1) (by refine ⟨?_,?_,?_,?_,?_,?_,?_,?_,?_,by omega⟩ <;> (first | (simp (maxSteps:=5000000) -dsimp only [gr,reduceEqDiff,reduceLT,reduceAdd,reduceMod,Nat.reduceBEq,zaa,zac,zad,zab,h4a,r4a,h1a,h2a,h3a,h9a,h10a,h11a,h12a,hno,zae hk (by omega)];first | done | rfl | (simp;done)) | assumption | rfl)) (by first | omega | (simp only;omega) | (dsimp only;omega) | (show _ < _;simp;omega))
    ·obtain rfl:k = n:=by omega
     have hnl:=zqF xs e k
     obtain ⟨hs1,hs2,hs3⟩:=zvY (b:=((nrK xs e k:Nat):Int)) (g:=(e:Int)) (by omega) (by omega)
     have hs:IntKind.i64.wrap (((nrK xs e k:Nat):Int) - zb4 .i64 ((nrK xs e k:Nat):Int) (e:Int)) = zbP .i64 ((nrK xs e k:Nat):Int) (e:Int):=by rw [hs1];exact zap (by omega) (by omega)
     have hor:ior .i64 (u:Int) (e:Int) = ((u ||| e:Nat):Int):=zdk (by omega) (by omega)
     have huel:u ||| e < 2 ^ k:=Nat.or_lt_two_pow hu hel
     have hnri:nrI xs k (e:Int) = ((nrK xs e k:Nat):Int):=rfl
     rw [hs,hw,hor,zdj 0 hlt,he]
     have hm:=zqG (nrI xs k) (xs.drop (at0 + 1)) ((u ||| e:Nat):Int)
     have hdl:(xs.drop (at0 + 1)).length = xs.length - (at0 + 1):=by simp
     simp only [mostP,hnri,hor]
     have hw2:IntKind.i64.wrap (1 + mostP (nrI xs k) (xs.drop (at0 + 1)) ((u ||| e:Nat):Int)) = 1 + mostP (nrI xs k) (xs.drop (at0 + 1)) ((u ||| e:Nat):Int):=zap (by omega) (by omega)
     refine ⟨fun hA=>⟨fun hB=>zaf (ih (at0 + 1) _ huel (by omega)) ?_,fun hB=>?_⟩,fun hA=>?_⟩
     ·simp (maxSteps:=5000000) -dsimp only [↓gp,gq,reduceCtorEq,reduceEqDiff,reduceLT,reduceLeDiff,reduceAdd,reduceMul,reduceSub,Nat.reduceBEq,Int.reduceToNat,Int.reduceLE,Int.reduceLT,Int.reduceNeg,reduceMod,zac,zad,zab,zaa,gT,TK.isInt,TK.agg,Array.toList,h4a,r4a,h1a,h2a,h3a,h9a,h10a,h11a,h12a,hs,hw,hor,hw2]
      refine zaf (zdC _ _) ?_
      simp (maxSteps:=5000000) -dsimp only [↓gp,gq,reduceCtorEq,reduceEqDiff,reduceLT,reduceLeDiff,reduceAdd,reduceMul,reduceSub,Nat.reduceBEq,Int.reduceToNat,Int.reduceLE,Int.reduceLT,Int.reduceNeg,reduceMod,zac,zad,zab,zaa,gT,TK.isInt,TK.agg,Array.toList,h4a,r4a,h1a,h2a,h3a,h9a,h10a,h11a,h12a,hs,hw,hor,hw2]
      rw [if_pos ⟨by simpa using hA,by rw [hnri];simpa using hB⟩]
     ·rw [if_neg (by intro hh;simp [hh.2] at hB)]
     ·rw [if_neg (by intro hh;simp [hh.1] at hA)]
noncomputable def zgk (n:Int) (xs:List Int):Int:=if zar n xs = true then mostP (nrI xs n.toNat) xs 0 else -1
theorem zgl (n:Int) (xs:List Int) (hx:xs.length ≤ 1048576):AC Tryz.prog 56 [.ag [int n,zaN xs]] (.im (int (zgk n xs))):=by
 refine AC.go (rs:=[.tmp 2]) za3 zav Tryz.func56 rfl rfl rfl (by kernel_rfl) fun hl=>?_
 simp (maxSteps:=5000000) -dsimp only [↓gp,gq,reduceCtorEq,reduceEqDiff,reduceLT,reduceLeDiff,reduceAdd,reduceMul,reduceSub,Nat.reduceBEq,Int.reduceToNat,Int.reduceLE,Int.reduceLT,Int.reduceNeg,reduceMod,zac,zad,zab,zaa,gT,TK.isInt,TK.agg,Array.toList]
 refine zaf (zbe n xs) ?_
 simp (maxSteps:=5000000) -dsimp only [↓gp,gq,reduceCtorEq,reduceEqDiff,reduceLT,reduceLeDiff,reduceAdd,reduceMul,reduceSub,Nat.reduceBEq,Int.reduceToNat,Int.reduceLE,Int.reduceLT,Int.reduceNeg,reduceMod,zac,zad,zab,zaa,gT,TK.isInt,TK.agg,Array.toList]
 unfold zgk
 refine ⟨fun h=>?_,fun h=>?_⟩
 ·rw [Bool.not_eq_true'] at h
  rw [h];rfl
 ·rw [Bool.not_eq_false'] at h
  have hg:zez n xs:=zaC.1 h
  obtain ⟨m,rfl,h1,h6,_⟩:=zcM hg
  refine zaf (zjy m xs hg hx xs.length 0 0 (Nat.two_pow_pos m) (by omega)) ?_
  simp (maxSteps:=5000000) -dsimp only [↓gp,gq,reduceCtorEq,reduceEqDiff,reduceLT,reduceLeDiff,reduceAdd,reduceMul,reduceSub,Nat.reduceBEq,Int.reduceToNat,Int.reduceLE,Int.reduceLT,Int.reduceNeg,reduceMod,zac,zad,zab,zaa,gT,TK.isInt,TK.agg,Array.toList]
  rw [h];rfl
theorem zfw (n:Nat) (xs:List Int) (hg:zez n xs) (e:Int) (he:e ∈ xs):AC Tryz.prog 133 [int e,.eref false [zaN (zll xs n)] 0] (.im (int (shI xs n e))):=by
 refine AC.go (rs:=[.tmp 3]) za3 zav Tryz.func133 rfl rfl rfl (by kernel_rfl) fun hl=>?_
 have hn:n ≤ 6:=by have:=hg.2.1;omega
 have h64:=zao hn
 have hin:=zgi hg
 obtain ⟨_,e',_,_,hnat⟩:=zcM hg
 have e':=Int.ofNat.inj e'
 subst e'
 have hg':∀ x ∈ xs,x.toNat < 64:=fun x hx=>by have:=hin x hx;omega
 have hxe:=hnat _ he
 obtain ⟨m,rfl⟩:=Int.eq_ofNat_of_zero_le hxe.1
 have hml:m < 2 ^ n:=by have:=hxe.2.1;omega
 obtain ⟨a,b,hab,ha,hb,hbit⟩:=zDy hml hn (by simpa using hxe.2.2)
 have hpi:zGo (m:Int) = [(a:Int),(b:Int)]:=by
  unfold zGo
  rw [if_pos (by omega),Int.toNat_natCast,hab]
  rfl
 have hnl:(zll xs n).length = n:=by simp [zll]
 simp (maxSteps:=5000000) -dsimp only [↓gp,gq,reduceCtorEq,reduceEqDiff,reduceLT,reduceLeDiff,reduceAdd,reduceMul,reduceSub,Nat.reduceBEq,Int.reduceToNat,Int.reduceLE,Int.reduceLT,Int.reduceNeg,reduceMod,zac,zad,zab,zaa,gT,TK.isInt,TK.agg,Array.toList]
 refine zaf (zjx _) ?_
 simp (maxSteps:=5000000) -dsimp only [↓gp,gq,reduceCtorEq,reduceEqDiff,reduceLT,reduceLeDiff,reduceAdd,reduceMul,reduceSub,Nat.reduceBEq,Int.reduceToNat,Int.reduceLE,Int.reduceLT,Int.reduceNeg,reduceMod,zac,zad,zab,zaa,gT,TK.isInt,TK.agg,Array.toList,hpi,hnl]
 refine ⟨by kernel_rfl,by omega,ha,ha,by omega,hb,hb,?_⟩
 have l1:=zkM xs a
 have l2:=zkM xs b
 have l3:m ||| nbr xs a < 64:=Nat.or_lt_two_pow (n:=6) (by omega) l1
 unfold shI
 rw [zsq ha,zsq hb,zdk (by omega) (by omega),zdk (by omega) (by omega),Int.toNat_natCast,zDB hg' ha hb hbit,Nat.or_assoc]
theorem zgm (n:Int) (xs:List Int) (hx:xs.length ≤ 1048576):AC Tryz.prog 51 [.ag [int n,zaN xs]] (.im (int (zgk n xs))):=by
 refine AC.go (rs:=[.tmp 2]) za3 zav Tryz.func51 rfl rfl rfl (by kernel_rfl) fun hl=>?_
 simp (maxSteps:=5000000) -dsimp only [↓gp,gq,reduceCtorEq,reduceEqDiff,reduceLT,reduceLeDiff,reduceAdd,reduceMul,reduceSub,Nat.reduceBEq,Int.reduceToNat,Int.reduceLE,Int.reduceLT,Int.reduceNeg,reduceMod,zac,zad,zab,zaa,gT,TK.isInt,TK.agg,Array.toList]
 refine zaf (zb7 n xs) ?_
 simp (maxSteps:=5000000) -dsimp only [↓gp,gq,reduceCtorEq,reduceEqDiff,reduceLT,reduceLeDiff,reduceAdd,reduceMul,reduceSub,Nat.reduceBEq,Int.reduceToNat,Int.reduceLE,Int.reduceLT,Int.reduceNeg,reduceMod,zac,zad,zab,zaa,gT,TK.isInt,TK.agg,Array.toList]
 unfold zgk
 refine ⟨fun h=>?_,fun h=>?_⟩
 ·rw [Bool.not_eq_true'] at h
  rw [h];rfl
 ·rw [Bool.not_eq_false'] at h
  have hg:zez n xs:=zaC.1 h
  obtain ⟨m,rfl,h1,h6,hnat⟩:=zcM hg
  have hin:=zgi hg
  have hg':∀ x ∈ xs,x.toNat < 64:=fun x hx=>by have:=hin x hx;omega
  have e0:=zy3 h6 hg' xs (fun x hx=>⟨(hnat x hx).1,(hnat x hx).2.1⟩) 0 (Nat.two_pow_pos m)
  have e1:nrK xs 0 m = 0:=by
   apply Nat.eq_of_testBit_eq
   intro j
   rw [Nat.zero_testBit,Bool.eq_false_iff]
   intro hc
   obtain ⟨i,_,h,_⟩:=(zcv xs 0 m j hg').1 hc
   simp at h
  rw [e1] at e0
  refine zaf (zgj m h6 xs hin) ?_
  simp (maxSteps:=5000000) -dsimp only [↓gp,gq,reduceCtorEq,reduceEqDiff,reduceLT,reduceLeDiff,reduceAdd,reduceMul,reduceSub,Nat.reduceBEq,Int.reduceToNat,Int.reduceLE,Int.reduceLT,Int.reduceNeg,reduceMod,zac,zad,zab,zaa,gT,TK.isInt,TK.agg,Array.toList]
  refine zaf (ziz _ _ (shI xs m) (fun e=>e ∈ xs) (fun e he=>zfw m xs hg e he) xs.length xs 0 rfl hx fun x h=>h) ?_
  simp (maxSteps:=5000000) -dsimp only [↓gp,gq,reduceCtorEq,reduceEqDiff,reduceLT,reduceLeDiff,reduceAdd,reduceMul,reduceSub,Nat.reduceBEq,Int.reduceToNat,Int.reduceLE,Int.reduceLT,Int.reduceNeg,reduceMod,zac,zad,zab,zaa,gT,TK.isInt,TK.agg,Array.toList]
  rw [if_pos h]
  exact e0.symm
end Go.Proofs.YtpnknaaehcljoaaGreat
