/- DERIVED by an AI agent. -/
import Derived.Test.YtkledeboboplmaaGreatB1
import Derived.Test.YtkledeboboplmaaGreatP1
import Derived.Test.YtkledeboboplmaaGreatA13
namespace Go.Proofs.YtkledeboboplmaaGreat
open Go.Abs
open Nat (reduceEqDiff reduceMod reduceAdd reduceLT reduceLeDiff reduceSub reduceMul)
set_option linter.unusedSimpArgs false
set_option linter.unusedVariables false
theorem zrp (a:Int):AC Tryz.prog 153 [int a] (.im (bool false)):=by
 refine AC.go (rs:=[.tmp 2]) zaL mixed Tryz.func153 rfl rfl rfl (by kernel_rfl) fun _=>?_
 simp (maxSteps:=9^7) -dsimp only [↓gp,gq,reduceCtorEq,reduceEqDiff,reduceLT,reduceLeDiff,reduceAdd,reduceMul,reduceSub,Nat.reduceBEq,Int.reduceToNat,Int.reduceLE,Int.reduceLT,Int.reduceNeg,reduceMod,gT]
 simp
theorem zc5 (a b c:Int):AC Tryz.prog 34 [int a,int b,int c] (.im (bool (decide (b ≤ a) && decide (a ≤ c)))):=by
 refine AC.go (rs:=[.tmp 6]) zaL mixed Tryz.func34 rfl rfl rfl (by kernel_rfl) fun _=>?_
 simp (maxSteps:=9^7) -dsimp only [↓gp,gq,reduceCtorEq,reduceEqDiff,reduceLT,reduceLeDiff,reduceAdd,reduceMul,reduceSub,Nat.reduceBEq,Int.reduceToNat,Int.reduceLE,Int.reduceLT,Int.reduceNeg,reduceMod,gT]
 exact ⟨fun h=>by simp [h],fun h=>by simp [h]⟩
theorem znd (xs ys:List Int):AC Tryz.prog 31 [zaH xs,zaH ys] (.im (bool (decide (xs = ys)))):=by
 refine AC.go (rs:=[.tmp 4]) zaL mixed Tryz.func31 rfl rfl rfl (by kernel_rfl) fun hl=>?_
 simp only [zaJ,zbx,zaX,and_true] at hl
 simp (maxSteps:=9^7) -dsimp only [↓gp,gq,reduceCtorEq,reduceEqDiff,reduceLT,reduceLeDiff,reduceAdd,reduceMul,reduceSub,Nat.reduceBEq,Int.reduceToNat,Int.reduceLE,Int.reduceLT,Int.reduceNeg,reduceMod,gT]
 refine ⟨fun h=>?_,fun h=>?_⟩
 ·intro e
  simp [e] at h
 ·have hn:xs.length = ys.length:=by simp at h;omega
  refine zah (fun (i:Nat) s=>s.sl 0 = zaH xs∧s.sl 1 = zaH ys∧s.sl 5 = int i∧i ≤ xs.length∧xs.take i = ys.take i) (fun i=>xs.length - i) 0 ⟨by simp (maxSteps:=9^7) -dsimp only [gr,reduceEqDiff,reduceLT,reduceAdd,reduceMod,Nat.reduceBEq],by simp (maxSteps:=9^7) -dsimp only [gr,reduceEqDiff,reduceLT,reduceAdd,reduceMod,Nat.reduceBEq],by simp (maxSteps:=9^7) -dsimp only [gr,reduceEqDiff,reduceLT,reduceAdd,reduceMod,Nat.reduceBEq];rfl,by simp,by simp⟩ ?_
  intro i s1 ⟨h0,h1,h5,hi,hall⟩
  simp (maxSteps:=9^7) -dsimp only [↓gp,gq,reduceCtorEq,reduceEqDiff,reduceLT,reduceLeDiff,reduceAdd,reduceMul,reduceSub,Nat.reduceBEq,Int.reduceToNat,Int.reduceLE,Int.reduceLT,Int.reduceNeg,reduceMod,gT,h0,h1,h5]
  refine ⟨fun h=>⟨by kernel_rfl,h,h,by omega,by omega,fun ha=>?_,fun ha=>?_⟩,fun h=>?_⟩
  ·intro e
   simp [e] at ha
  ·refine zac (i + 1) ⟨by simp (maxSteps:=9^7) -dsimp only [gr,reduceEqDiff,reduceLT,reduceAdd,reduceMod,Nat.reduceBEq,h0],by simp (maxSteps:=9^7) -dsimp only [gr,reduceEqDiff,reduceLT,reduceAdd,reduceMod,Nat.reduceBEq,h1],by simp (maxSteps:=9^7) -dsimp only [gr,reduceEqDiff,reduceLT,reduceAdd,reduceMod,Nat.reduceBEq];rw [zaa h hl.1],h,?_⟩ (by omega)
   rw [zay 0 h,zay 0 (show i < ys.length by omega),hall]
   simp at ha
   simpa using ha
  ·rw [List.take_of_length_le (by omega),List.take_of_length_le (by omega)] at hall
   exact hall
theorem zne (xs:List Int) (hx:xs.length ≤ 1048576):AC Tryz.prog 20 [zaH xs] (.fr 3 1 (iL xs)):=by
 refine AC.go (rs:=[.tmp 2]) zaL mixed Tryz.func20 rfl rfl rfl (by kernel_rfl) fun hl=>?_
 simp (maxSteps:=9^7) -dsimp only [↓gp,gq,reduceCtorEq,reduceEqDiff,reduceLT,reduceLeDiff,reduceAdd,reduceMul,reduceSub,Nat.reduceBEq,Int.reduceToNat,Int.reduceLE,Int.reduceLT,Int.reduceNeg,reduceMod,gT]
 refine ⟨by omega,by omega,?_⟩
 refine zah (fun (i:Nat) s=>∃ v,s.sl 0 = zaH xs∧s.sl 3 = .own 7 v∧s.rw 7 = ⟨v,.sli 3 1 false (iL (xs.take i ++ List.replicate (xs.length - i) 0))⟩∧s.sl 4 = int i∧i ≤ xs.length) (fun i=>xs.length - i) 0 ⟨1,by simp (maxSteps:=9^7) -dsimp only [gr,reduceEqDiff,reduceLT,reduceAdd,reduceMod,Nat.reduceBEq],by simp (maxSteps:=9^7) -dsimp only [gr,reduceEqDiff,reduceLT,reduceAdd,reduceMod,Nat.reduceBEq],by simp (maxSteps:=9^7) -dsimp only [gr,reduceEqDiff,reduceLT,reduceAdd,reduceMod,Nat.reduceBEq];simp,by simp (maxSteps:=9^7) -dsimp only [gr,reduceEqDiff,reduceLT,reduceAdd,reduceMod,Nat.reduceBEq];rfl,by simp⟩ ?_
 intro i s1 ⟨v,h0,h3,h7,h4,hi⟩
 simp (maxSteps:=9^7) -dsimp only [↓gp,gq,reduceCtorEq,reduceEqDiff,reduceLT,reduceLeDiff,reduceAdd,reduceMul,reduceSub,Nat.reduceBEq,Int.reduceToNat,Int.reduceLE,Int.reduceLT,Int.reduceNeg,reduceMod,gT,h0,h3,h7,h4]
 have hf:=zrY (xs:=xs) (z:=(0:Int)) hi
 refine ⟨fun h=>⟨h,h,by omega,by omega,?_⟩,fun h=>?_⟩
 ·refine zac (i + 1) ⟨v,by simp (maxSteps:=9^7) -dsimp only [gr,reduceEqDiff,reduceLT,reduceAdd,reduceMod,Nat.reduceBEq,h0],by simp (maxSteps:=9^7) -dsimp only [gr,reduceEqDiff,reduceLT,reduceAdd,reduceMod,Nat.reduceBEq,h3],by simp (maxSteps:=9^7) -dsimp only [gr,reduceEqDiff,reduceLT,reduceAdd,reduceMod,Nat.reduceBEq];rw [zBm 0 0 h],by simp (maxSteps:=9^7) -dsimp only [gr,reduceEqDiff,reduceLT,reduceAdd,reduceMod,Nat.reduceBEq];rw [zaa h (by omega)],h⟩ (by omega)
 ·rw [List.take_of_length_le (by omega),show xs.length - i = 0 by omega];simp
theorem znf (xs:List Int) (n:Int) (h0:0 ≤ n) (h1:n ≤ 1048576):AC Tryz.prog 9 [zaH xs,int n] (.im (int (if n - xs.length < 0 then -1 else n - xs.length))):=by
 refine AC.go (rs:=[.tmp 4]) zaL mixed Tryz.func9 rfl rfl rfl (by kernel_rfl) fun hl=>?_
 simp only [zaJ,zbx,zaX,and_true] at hl
 have hw:IntKind.i64.wrap (n - xs.length) = n - xs.length:=zap (by omega) (by have:=hl.1;omega)
 simp (maxSteps:=9^7) -dsimp only [↓gp,gq,reduceCtorEq,reduceEqDiff,reduceLT,reduceLeDiff,reduceAdd,reduceMul,reduceSub,Nat.reduceBEq,Int.reduceToNat,Int.reduceLE,Int.reduceLT,Int.reduceNeg,reduceMod,gT,hw]
 exact ⟨fun h=>by simp [h],fun h=>by simp [h]⟩
def szI (n:Int) (k:Nat):Int:=if n - k < 0 then -1 else n - k
theorem zoj (a b:Int):AC Tryz.prog 43 [int a,int b] (.im (int (max a b))):=by
 refine AC.go (rs:=[.tmp 4]) zaL mixed Tryz.func43 rfl rfl rfl (by kernel_rfl) fun hl=>?_
 simp (maxSteps:=9^7) -dsimp only [↓gp,gq,reduceCtorEq,reduceEqDiff,reduceLT,reduceLeDiff,reduceAdd,reduceMul,reduceSub,Nat.reduceBEq,Int.reduceToNat,Int.reduceLE,Int.reduceLT,Int.reduceNeg,reduceMod,gT]
 exact ⟨fun h=>by omega,fun h=>by omega⟩
theorem zaP (n:Nat) (h:n < 9223372036854775808):AC Tryz.prog 35 [int n] (.im (int (zat n:Nat))):=by
 refine AC.go (rs:=[.tmp 2]) zaL mixed Tryz.func35 rfl rfl rfl (by kernel_rfl) fun hl=>?_
 simp (maxSteps:=9^7) -dsimp only [↓gp,gq,reduceCtorEq,reduceEqDiff,reduceLT,reduceLeDiff,reduceAdd,reduceMul,reduceSub,Nat.reduceBEq,Int.reduceToNat,Int.reduceLE,Int.reduceLT,Int.reduceNeg,reduceMod,gT]
 refine zah (fun (x:Nat × Nat) s=>s.sl 0 = int x.1∧s.sl 3 = int x.2∧x.1 ≤ n∧x.2 + zat x.1 = zat n) (fun x=>x.1) (n,0) ⟨by simp (maxSteps:=9^7) -dsimp only [gr,reduceEqDiff,reduceLT,reduceAdd,reduceMod,Nat.reduceBEq],by simp (maxSteps:=9^7) -dsimp only [gr,reduceEqDiff,reduceLT,reduceAdd,reduceMod,Nat.reduceBEq];rfl,by simp,by simp⟩ ?_
 intro ⟨m,a⟩ s1 ⟨h0,h3,hm,hp⟩
 simp only at h0 h3 hm hp
 have hpl:=zEf n
 simp (maxSteps:=9^7) -dsimp only [↓gp,gq,reduceCtorEq,reduceEqDiff,reduceLT,reduceLeDiff,reduceAdd,reduceMul,reduceSub,Nat.reduceBEq,Int.reduceToNat,Int.reduceLE,Int.reduceLT,Int.reduceNeg,reduceMod,gT,h0,h3,zBn (show m < 9223372036854775808 by omega),zuS]
 refine ⟨fun h1=>?_,fun h1=>?_⟩
 ·have hm0:m ≠ 0:=by omega
  rw [zi3 hm0] at hp
  refine zac (m / 2,a + m % 2) ⟨by simp (maxSteps:=9^7) -dsimp only [gr,reduceEqDiff,reduceLT,reduceAdd,reduceMod,Nat.reduceBEq],?_,by simp only;omega,by simp only;omega⟩ (by simp only;omega)
  simp (maxSteps:=9^7) -dsimp only [gr,reduceEqDiff,reduceLT,reduceAdd,reduceMod,Nat.reduceBEq]
  rw [zap (by omega) (by omega)]
  rfl
 ·have:m = 0:=by omega
  subst this
  rw [zb0] at hp
  omega
theorem zcD {s:Int} (h0:0 ≤ s) (h:s < 9223372036854775808):AC Tryz.prog 35 [int s] (.im (int (zat s.toNat:Nat))):=by
 obtain ⟨m,rfl⟩:=Int.eq_ofNat_of_zero_le h0
 exact zaP m (by omega)
theorem zgg (n:Nat) (h:n < 64):AC Tryz.prog 98 [u64 n] (.im (int (zat n:Nat))):=by
 refine AC.go (rs:=[.tmp 2]) zaL mixed Tryz.func98 rfl rfl rfl (by kernel_rfl) fun hl=>?_
 simp (maxSteps:=9^7) -dsimp only [↓gp,gq,reduceCtorEq,reduceEqDiff,reduceLT,reduceLeDiff,reduceAdd,reduceMul,reduceSub,Nat.reduceBEq,Int.reduceToNat,Int.reduceLE,Int.reduceLT,Int.reduceNeg,reduceMod,gT]
 rw [zqD h]
 clear hl
 obtain ⟨m,rfl⟩:∃ m:Fin 64,m.val = n:=⟨⟨n,h⟩,rfl⟩
 clear h
 revert m
 decide +kernel
theorem zip (n:Nat) (h:n < 64):AC Tryz.prog 72 [u64 n] (.im (int (zat n:Nat))):=by
 refine AC.go (rs:=[.tmp 2]) zaL mixed Tryz.func72 rfl rfl rfl (by kernel_rfl) fun hl=>?_
 simp (maxSteps:=9^7) -dsimp only [↓gp,gq,reduceCtorEq,reduceEqDiff,reduceLT,reduceLeDiff,reduceAdd,reduceMul,reduceSub,Nat.reduceBEq,Int.reduceToNat,Int.reduceLE,Int.reduceLT,Int.reduceNeg,reduceMod,gT]
 refine zab (zgg n h) ?_
 simp (maxSteps:=9^7) -dsimp only [↓gp,gq,reduceCtorEq,reduceEqDiff,reduceLT,reduceLeDiff,reduceAdd,reduceMul,reduceSub,Nat.reduceBEq,Int.reduceToNat,Int.reduceLE,Int.reduceLT,Int.reduceNeg,reduceMod,gT]
theorem zdk (n s:Int):AC Tryz.prog 70 [int n,int s] (.im (bool (zcX n s))):=by
 refine AC.go (rs:=[.tmp 4]) zaL mixed Tryz.func70 rfl rfl rfl (by kernel_rfl) fun hl=>?_
 simp (maxSteps:=9^7) -dsimp only [↓gp,gq,reduceCtorEq,reduceEqDiff,reduceLT,reduceLeDiff,reduceAdd,reduceMul,reduceSub,Nat.reduceBEq,Int.reduceToNat,Int.reduceLE,Int.reduceLT,Int.reduceNeg,reduceMod,gT,zcX]
 refine ⟨fun h0=>⟨fun h6=>⟨fun hs=>?_,fun hs=>by omega⟩,fun h6=>by omega⟩,fun h0=>by omega⟩
 obtain ⟨m,rfl⟩:=Int.eq_ofNat_of_zero_le h0
 rw [zks (by omega),zbt (by omega),zhA]
 exact ⟨by omega,by simp only [h0,h6,hs,true_and]⟩
theorem zhT (n s:Int):AC Tryz.prog 32 [int n,int s] (.im (bool (zcX n s))):=by
 refine AC.go (rs:=[.tmp 4]) zaL mixed Tryz.func32 rfl rfl rfl (by kernel_rfl) fun hl=>?_
 simp (maxSteps:=9^7) -dsimp only [↓gp,gq,reduceCtorEq,reduceEqDiff,reduceLT,reduceLeDiff,reduceAdd,reduceMul,reduceSub,Nat.reduceBEq,Int.reduceToNat,Int.reduceLE,Int.reduceLT,Int.reduceNeg,reduceMod,gT]
 refine zab (zc5 _ _ _) ?_
 simp (maxSteps:=9^7) -dsimp only [↓gp,gq,reduceCtorEq,reduceEqDiff,reduceLT,reduceLeDiff,reduceAdd,reduceMul,reduceSub,Nat.reduceBEq,Int.reduceToNat,Int.reduceLE,Int.reduceLT,Int.reduceNeg,reduceMod,gT]
 refine ⟨fun h=>?_,fun h=>?_⟩
 ·simp only [Bool.and_eq_true,decide_eq_true_eq] at h
  obtain ⟨h0,h6⟩:=h
  obtain ⟨m,rfl⟩:=Int.eq_ofNat_of_zero_le h0
  have hp:=zcg (m:=m) (by omega)
  have e:zcX (m:Int) s = decide (0 ≤ s∧s < ((2 ^ m:Nat):Int)):=by
   rw [zcX,zhA]
   simp only [h0,h6,true_and]
  rw [e,zks (by omega),zbt (by omega)]
  generalize (2 ^ m:Nat) = q at hp
  rw [zap (by omega) (by omega)]
  refine ⟨by omega,zab (zc5 _ _ _) ?_⟩
  simp (maxSteps:=9^7) -dsimp only [↓gp,gq,reduceCtorEq,reduceEqDiff,reduceLT,reduceLeDiff,reduceAdd,reduceMul,reduceSub,Nat.reduceBEq,Int.reduceToNat,Int.reduceLE,Int.reduceLT,Int.reduceNeg,reduceMod,gT]
  rw [← Bool.decide_and]
  exact decide_eq_decide.2 (by omega)
 ·refine decide_eq_false fun hh=>?_
  simp [hh.1,hh.2.1] at h
def zlz (s:Int):Int:=if 0 ≤ s∧s < 64 then (zat s.toNat:Nat) else -1
theorem zro (s:Int):zcX 6 s = decide (0 ≤ s∧s < 64):=by
 simp [zcX]
theorem zaz (s:Int):AC Tryz.prog 45 [int s] (.im (int (zlz s))):=by
 refine AC.go (rs:=[.tmp 2]) zaL mixed Tryz.func45 rfl rfl rfl (by kernel_rfl) fun hl=>?_
 simp (maxSteps:=9^7) -dsimp only [↓gp,gq,reduceCtorEq,reduceEqDiff,reduceLT,reduceLeDiff,reduceAdd,reduceMul,reduceSub,Nat.reduceBEq,Int.reduceToNat,Int.reduceLE,Int.reduceLT,Int.reduceNeg,reduceMod,gT]
 refine zab (zdk _ _) ?_
 simp (maxSteps:=9^7) -dsimp only [↓gp,gq,reduceCtorEq,reduceEqDiff,reduceLT,reduceLeDiff,reduceAdd,reduceMul,reduceSub,Nat.reduceBEq,Int.reduceToNat,Int.reduceLE,Int.reduceLT,Int.reduceNeg,reduceMod,gT,zro]
 refine ⟨fun h=>?_,fun h=>?_⟩
 ·have h:¬ (0 ≤ s∧s < 64):=by simp at h;omega
  rw [zlz,if_neg h]
 ·have h:0 ≤ s∧s < 64:=by simpa using h
  obtain ⟨m,rfl⟩:=Int.eq_ofNat_of_zero_le h.1
  rw [zks (by omega)]
  refine zab (zip m (by omega)) ?_
  simp (maxSteps:=9^7) -dsimp only [↓gp,gq,reduceCtorEq,reduceEqDiff,reduceLT,reduceLeDiff,reduceAdd,reduceMul,reduceSub,Nat.reduceBEq,Int.reduceToNat,Int.reduceLE,Int.reduceLT,Int.reduceNeg,reduceMod,gT]
  rw [zlz,if_pos h];rfl
def zlA (a b:Int):Bool:=decide (0 ≤ a∧a < 64) && (decide (0 ≤ b∧b < 64) && (if zlz a = zlz b then decide (a < b) else decide (zlz a < zlz b)))
theorem ziq (a b:Int):AC Tryz.prog 71 [int a,int b] (.im (bool (zlA a b))):=by
 refine AC.go (rs:=[.tmp 4]) zaL mixed Tryz.func71 rfl rfl rfl (by kernel_rfl) fun hl=>?_
 simp (maxSteps:=9^7) -dsimp only [↓gp,gq,reduceCtorEq,reduceEqDiff,reduceLT,reduceLeDiff,reduceAdd,reduceMul,reduceSub,Nat.reduceBEq,Int.reduceToNat,Int.reduceLE,Int.reduceLT,Int.reduceNeg,reduceMod,gT]
 refine zab (zdk _ _) ?_
 simp (maxSteps:=9^7) -dsimp only [↓gp,gq,reduceCtorEq,reduceEqDiff,reduceLT,reduceLeDiff,reduceAdd,reduceMul,reduceSub,Nat.reduceBEq,Int.reduceToNat,Int.reduceLE,Int.reduceLT,Int.reduceNeg,reduceMod,gT,zro]
 unfold zlA
 refine ⟨fun h=>zab (zdk _ _) ?_,fun h=>?_⟩
 ·have ha:decide (0 ≤ a∧a < 64) = true:=by simpa using h
  simp (maxSteps:=9^7) -dsimp only [↓gp,gq,reduceCtorEq,reduceEqDiff,reduceLT,reduceLeDiff,reduceAdd,reduceMul,reduceSub,Nat.reduceBEq,Int.reduceToNat,Int.reduceLE,Int.reduceLT,Int.reduceNeg,reduceMod,gT,zro]
  rw [ha]
  refine ⟨fun hb=>?_,fun hb=>?_⟩
  ·have hb:decide (0 ≤ b∧b < 64) = false:=by rwa [Bool.not_eq_true'] at hb
   rw [hb];rfl
  ·have hb:decide (0 ≤ b∧b < 64) = true:=by simpa using hb
   rw [hb]
   refine zab (zaz a) ?_
   simp (maxSteps:=9^7) -dsimp only [↓gp,gq,reduceCtorEq,reduceEqDiff,reduceLT,reduceLeDiff,reduceAdd,reduceMul,reduceSub,Nat.reduceBEq,Int.reduceToNat,Int.reduceLE,Int.reduceLT,Int.reduceNeg,reduceMod,gT]
   refine zab (zaz b) ?_
   simp (maxSteps:=9^7) -dsimp only [↓gp,gq,reduceCtorEq,reduceEqDiff,reduceLT,reduceLeDiff,reduceAdd,reduceMul,reduceSub,Nat.reduceBEq,Int.reduceToNat,Int.reduceLE,Int.reduceLT,Int.reduceNeg,reduceMod,gT]
   refine ⟨fun hs=>zab (zaz a) ?_,fun hs=>?_⟩
   ·simp (maxSteps:=9^7) -dsimp only [↓gp,gq,reduceCtorEq,reduceEqDiff,reduceLT,reduceLeDiff,reduceAdd,reduceMul,reduceSub,Nat.reduceBEq,Int.reduceToNat,Int.reduceLE,Int.reduceLT,Int.reduceNeg,reduceMod,gT]
    refine zab (zaz b) ?_
    simp (maxSteps:=9^7) -dsimp only [↓gp,gq,reduceCtorEq,reduceEqDiff,reduceLT,reduceLeDiff,reduceAdd,reduceMul,reduceSub,Nat.reduceBEq,Int.reduceToNat,Int.reduceLE,Int.reduceLT,Int.reduceNeg,reduceMod,gT]
    have hs:¬ zlz a = zlz b:=by simpa using hs
    rw [if_neg hs]
   ·have hs:zlz a = zlz b:=by simpa using hs
    rw [if_pos hs]
 ·have ha:decide (0 ≤ a∧a < 64) = false:=by rwa [Bool.not_eq_true'] at h
  rw [ha];rfl
theorem zFt {n:Int} {k:Nat} (h1:n ≤ 1048576) (h:¬ szI n k < 0):0 ≤ szI n k∧szI n k ≤ 1048576∧k ≤ 1048576:=by
 unfold szI at h ⊢
 split at h
 ·simp at h
 ·rename_i h2
  rw [if_neg h2]
  omega
def zAV (n:Int) (xs:List Int) (m:Int) (ys:List Int):Bool:=n == m && decide (xs = ys)
theorem zcd (n:Int) (xs:List Int):zAV n xs n xs = true:=by simp [zAV]
theorem zlb (xs:List Int) (hx:xs.length ≤ 1048576):AC Tryz.prog 99 [zaH xs] (.fr 3 1 (iL xs)):=by
 refine AC.go (rs:=[.tmp 2]) zaL mixed Tryz.func99 rfl rfl rfl (by kernel_rfl) fun hl=>?_
 simp (maxSteps:=9^7) -dsimp only [↓gp,gq,reduceCtorEq,reduceEqDiff,reduceLT,reduceLeDiff,reduceAdd,reduceMul,reduceSub,Nat.reduceBEq,Int.reduceToNat,Int.reduceLE,Int.reduceLT,Int.reduceNeg,reduceMod,gT]
 exact ⟨by omega,fun h=>h.symm⟩
theorem zeH (xs:List Int) (n:Int):AC Tryz.prog 59 [zaH xs,int n] (.im (bool (decide (n ∈ xs)))):=by
 refine AC.go (rs:=[.tmp 4]) zaL mixed Tryz.func59 rfl rfl rfl (by kernel_rfl) fun hl=>?_
 simp only [zaJ,zaX,and_true,zbx,zcl] at hl
 simp (maxSteps:=9^7) -dsimp only [↓gp,gq,reduceCtorEq,reduceEqDiff,reduceLT,reduceLeDiff,reduceAdd,reduceMul,reduceSub,Nat.reduceBEq,Int.reduceToNat,Int.reduceLE,Int.reduceLT,Int.reduceNeg,reduceMod,gT]
 refine zah (fun (k:Nat) s=>s.sl 0 = zaH xs∧s.sl 1 = int n∧s.sl 5 = int k∧(k ≤ xs.length∧∀ i,i < k→xs.getD i 0 ≠ n)) (fun k=>xs.length - k) (0) (by refine ⟨?_,?_,?_,by simp⟩ <;> (first | (simp (maxSteps:=9^7) -dsimp only [gr,reduceEqDiff,reduceLT,reduceAdd,reduceMod,Nat.reduceBEq];first | done | rfl | (simp;done)) | assumption | rfl)) ?_
 intro k sa ⟨h0a,h1a,h5a,hIa⟩
 obtain ⟨hk,hall⟩:=hIa
 simp (maxSteps:=9^7) -dsimp only [↓gp,gq,reduceCtorEq,reduceEqDiff,reduceLT,reduceLeDiff,reduceAdd,reduceMul,reduceSub,Nat.reduceBEq,Int.reduceToNat,Int.reduceLE,Int.reduceLT,Int.reduceNeg,reduceMod,gT,h0a,h1a,h5a]
 refine ⟨fun h=>⟨h,h,fun he=>?_,fun he=>zac (k + 1) ⟨(by (first | (simp (maxSteps:=9^7) -dsimp only [gr,reduceEqDiff,reduceLT,reduceAdd,reduceMod,Nat.reduceBEq,h0a,h1a,h5a,zaa h hl];first | done | rfl | (simp;done)) | assumption | rfl)),(by (first | (simp (maxSteps:=9^7) -dsimp only [gr,reduceEqDiff,reduceLT,reduceAdd,reduceMod,Nat.reduceBEq,h0a,h1a,h5a,zaa h hl];first | done | rfl | (simp;done)) | assumption | rfl)),(by (first | (simp (maxSteps:=9^7) -dsimp only [gr,reduceEqDiff,reduceLT,reduceAdd,reduceMod,Nat.reduceBEq,h0a,h1a,h5a,zaa h hl];first | done | rfl | (simp;done)) | assumption | rfl)),⟨by omega,fun i hi=>?_⟩⟩ (by first | omega | (simp only;omega) | (dsimp only;omega) | (show _ < _;simp;omega))⟩,fun h=>?_⟩
 ·have he:xs.getD k 0 = n:=by simpa using he
  rw [← he]
  exact zan 0 h
 ·rcases Nat.lt_succ_iff_lt_or_eq.1 hi with hi | rfl
  ·exact hall i hi
  ·simpa using he
 ·intro hm
  obtain ⟨i,hi,he⟩:=zaY 0 hm
  exact hall i (by omega) he
def idxOf (xs:List Int) (n:Int):Int:=if n ∈ xs then (xs.idxOf n:Nat) else -1
theorem zAU {xs:List Int} {n:Int} {k:Nat} (h:k < xs.length) (he:xs.getD k 0 = n) (hall:∀ i,i < k→xs.getD i 0 ≠ n):idxOf xs n = k:=by
 have hm:n ∈ xs:=he ▸ zan 0 h
 unfold idxOf
 rw [if_pos hm]
 have h1:xs.idxOf n < xs.length:=List.idxOf_lt_length_iff.2 hm
 have h2:xs.getD (xs.idxOf n) 0 = n:=by rw [zb9 0 h1];exact List.getElem_idxOf h1
 rcases Nat.lt_trichotomy (xs.idxOf n) k with hlt | heq | hgt
 ·exact absurd h2 (hall _ hlt)
 ·rw [heq]
 ·have:=List.not_of_lt_findIdx (p:=(· == n)) (xs:=xs) (i:=k) hgt
  rw [zb9 0 h] at he
  simp [he] at this
theorem zla (xs:List Int) (n:Int):AC Tryz.prog 143 [zaH xs,int n] (.im (int (idxOf xs n))):=by
 refine AC.go (rs:=[.tmp 4]) zaL mixed Tryz.func143 rfl rfl rfl (by kernel_rfl) fun hl=>?_
 simp only [zaJ,zaX,and_true,zbx,zcl] at hl
 simp (maxSteps:=9^7) -dsimp only [↓gp,gq,reduceCtorEq,reduceEqDiff,reduceLT,reduceLeDiff,reduceAdd,reduceMul,reduceSub,Nat.reduceBEq,Int.reduceToNat,Int.reduceLE,Int.reduceLT,Int.reduceNeg,reduceMod,gT]
 refine zah (fun (k:Nat) s=>s.sl 0 = zaH xs∧s.sl 1 = int n∧s.sl 7 = int xs.length∧s.sl 8 = int k∧(k ≤ xs.length∧∀ i,i < k→xs.getD i 0 ≠ n)) (fun k=>xs.length - k) (0) (by refine ⟨?_,?_,?_,?_,by simp⟩ <;> (first | (simp (maxSteps:=9^7) -dsimp only [gr,reduceEqDiff,reduceLT,reduceAdd,reduceMod,Nat.reduceBEq];first | done | rfl | (simp;done)) | assumption | rfl)) ?_
 intro k sa ⟨h0a,h1a,h7a,h8a,hIa⟩
 obtain ⟨hk,hall⟩:=hIa
 simp (maxSteps:=9^7) -dsimp only [↓gp,gq,reduceCtorEq,reduceEqDiff,reduceLT,reduceLeDiff,reduceAdd,reduceMul,reduceSub,Nat.reduceBEq,Int.reduceToNat,Int.reduceLE,Int.reduceLT,Int.reduceNeg,reduceMod,gT,h0a,h1a,h7a,h8a]
 refine ⟨fun h=>⟨h,h,fun he=>zAU h (by simpa using (beq_iff_eq.1 he).symm) hall,fun he=>zac (k + 1) ⟨(by (first | (simp (maxSteps:=9^7) -dsimp only [gr,reduceEqDiff,reduceLT,reduceAdd,reduceMod,Nat.reduceBEq,h0a,h1a,h7a,h8a,zaa h hl];first | done | rfl | (simp;done)) | assumption | rfl)),(by (first | (simp (maxSteps:=9^7) -dsimp only [gr,reduceEqDiff,reduceLT,reduceAdd,reduceMod,Nat.reduceBEq,h0a,h1a,h7a,h8a,zaa h hl];first | done | rfl | (simp;done)) | assumption | rfl)),(by (first | (simp (maxSteps:=9^7) -dsimp only [gr,reduceEqDiff,reduceLT,reduceAdd,reduceMod,Nat.reduceBEq,h0a,h1a,h7a,h8a,zaa h hl];first | done | rfl | (simp;done)) | assumption | rfl)),(by (first | (simp (maxSteps:=9^7) -dsimp only [gr,reduceEqDiff,reduceLT,reduceAdd,reduceMod,Nat.reduceBEq,h0a,h1a,h7a,h8a,zaa h hl];first | done | rfl | (simp;done)) | assumption | rfl)),⟨by omega,fun i hi=>?_⟩⟩ (by first | omega | (simp only;omega) | (dsimp only;omega) | (show _ < _;simp;omega))⟩,fun h=>?_⟩
 ·rcases Nat.lt_succ_iff_lt_or_eq.1 hi with hi | rfl
  ·exact hall i hi
  ·intro e;rw [e] at he;simp at he
 ·unfold idxOf
  rw [if_neg fun hm=>?_]
  obtain ⟨i,hi,he⟩:=zaY 0 hm
  exact hall i (by omega) he
theorem zhj (xs:List Int) (n:Int):AC Tryz.prog 121 [zaH xs,int n] (.im (bool (decide (n ∈ xs)))):=by
 refine AC.go (rs:=[.tmp 4]) zaL mixed Tryz.func121 rfl rfl rfl (by kernel_rfl) fun hl=>?_
 simp (maxSteps:=9^7) -dsimp only [↓gp,gq,reduceCtorEq,reduceEqDiff,reduceLT,reduceLeDiff,reduceAdd,reduceMul,reduceSub,Nat.reduceBEq,Int.reduceToNat,Int.reduceLE,Int.reduceLT,Int.reduceNeg,reduceMod,gT]
 refine zab (zla xs n) ?_
 simp (maxSteps:=9^7) -dsimp only [↓gp,gq,reduceCtorEq,reduceEqDiff,reduceLT,reduceLeDiff,reduceAdd,reduceMul,reduceSub,Nat.reduceBEq,Int.reduceToNat,Int.reduceLE,Int.reduceLT,Int.reduceNeg,reduceMod,gT]
 unfold idxOf
 by_cases hm:n ∈ xs
 ·simp [hm]
 ·simp [hm]
theorem zjd {a b:Int} (ha:0 ≤ a∧a < 64) (hb:0 ≤ b∧b < 64):AC Tryz.prog 33 [int a,int b] (.im (bool (zlA a b))):=by
 refine AC.go (rs:=[.tmp 4]) zaL mixed Tryz.func33 rfl rfl rfl (by kernel_rfl) fun hl=>?_
 simp (maxSteps:=9^7) -dsimp only [↓gp,gq,reduceCtorEq,reduceEqDiff,reduceLT,reduceLeDiff,reduceAdd,reduceMul,reduceSub,Nat.reduceBEq,Int.reduceToNat,Int.reduceLE,Int.reduceLT,Int.reduceNeg,reduceMod,gT]
 refine zab (zcD ha.1 (by omega)) ?_
 simp (maxSteps:=9^7) -dsimp only [↓gp,gq,reduceCtorEq,reduceEqDiff,reduceLT,reduceLeDiff,reduceAdd,reduceMul,reduceSub,Nat.reduceBEq,Int.reduceToNat,Int.reduceLE,Int.reduceLT,Int.reduceNeg,reduceMod,gT]
 refine zab (zcD hb.1 (by omega)) ?_
 simp (maxSteps:=9^7) -dsimp only [↓gp,gq,reduceCtorEq,reduceEqDiff,reduceLT,reduceLeDiff,reduceAdd,reduceMul,reduceSub,Nat.reduceBEq,Int.reduceToNat,Int.reduceLE,Int.reduceLT,Int.reduceNeg,reduceMod,gT]
 unfold zlA zlz
 rw [if_pos ha,if_pos hb,decide_eq_true ha,decide_eq_true hb]
 simp only [Bool.true_and]
 refine ⟨fun h=>⟨fun h2=>?_,fun h2=>?_⟩,fun h=>?_⟩
 ·rw [if_pos (by simpa using h2)]
 ·rw [if_neg (by simpa using h2)]
  exact decide_eq_false (by omega)
 ·rw [if_neg (by omega)]
  exact decide_eq_true (by omega)
def zH1 (n:Int) (xs:List Int) (k:Nat):Prop:=zcX n (xs.getD k 0) = true∧(0 < k→zlA (xs.getD (k - 1) 0) (xs.getD k 0) = true)∧∀ i,i < k→zfO .i64 (xs.getD i 0) (xs.getD k 0) ≠ xs.getD i 0
def cxP (n:Int) (xs:List Int):Prop:=1 ≤ n∧n ≤ 6∧∀ k,k < xs.length→zH1 n xs k
open Classical in
noncomputable def zaV (n:Int) (xs:List Int):Bool:=decide (cxP n xs)
open Classical in
theorem zdv {n:Int} {xs:List Int} (h:¬ cxP n xs):zaV n xs = false:=decide_eq_false h
open Classical in
theorem znc {n:Int} {xs:List Int} (h:cxP n xs):zaV n xs = true:=decide_eq_true h
open Classical in
theorem za2 {n:Int} {xs:List Int}:zaV n xs = true ↔ cxP n xs:=decide_eq_true_iff
theorem zaI (n:Int) (xs:List Int):AC Tryz.prog 10 [.ag [int n,zaH xs]] (.im (bool (zaV n xs))):=by
 refine AC.go (rs:=[.tmp 2]) zaL mixed Tryz.func10 rfl rfl rfl (by kernel_rfl) fun hl=>?_
 simp only [zaJ,zaX,and_true,zbM,zc6,zcm,true_and] at hl
 simp (maxSteps:=9^7) -dsimp only [↓gp,gq,reduceCtorEq,reduceEqDiff,reduceLT,reduceLeDiff,reduceAdd,reduceMul,reduceSub,Nat.reduceBEq,Int.reduceToNat,Int.reduceLE,Int.reduceLT,Int.reduceNeg,reduceMod,gT]
 refine zah (fun (k:Nat) s=>s.sl 1 = .ref 1 1 0∧s.rw 1 = ⟨1,.box 27 [int n,zaH xs]⟩∧s.sl 3 = int k∧(k ≤ xs.length∧∀ i,i < k→zH1 n xs i)) (fun k=>xs.length - k) (0) (by refine ⟨?_,?_,?_,by simp⟩ <;> (first | (simp (maxSteps:=9^7) -dsimp only [gr,reduceEqDiff,reduceLT,reduceAdd,reduceMod,Nat.reduceBEq];first | done | rfl | (simp;done)) | assumption | rfl)) ?_
 intro k sa ⟨h1a,r1a,h3a,hIa⟩
 obtain ⟨hk,hall⟩:=hIa
 have hw:IntKind.i64.wrap ((k:Int) - 1) = (k:Int) - 1:=zap (by omega) (by omega)
 simp (maxSteps:=9^7) -dsimp only [↓gp,gq,reduceCtorEq,reduceEqDiff,reduceLT,reduceLeDiff,reduceAdd,reduceMul,reduceSub,Nat.reduceBEq,Int.reduceToNat,Int.reduceLE,Int.reduceLT,Int.reduceNeg,reduceMod,gT,h1a,r1a,h3a,hw,zcw]
 refine ⟨fun h=>⟨by kernel_rfl,h,h,zab (zhT _ _) ?_⟩,fun h=>zab (zc5 _ _ _) ?_⟩
 ·simp (maxSteps:=9^7) -dsimp only [↓gp,gq,reduceCtorEq,reduceEqDiff,reduceLT,reduceLeDiff,reduceAdd,reduceMul,reduceSub,Nat.reduceBEq,Int.reduceToNat,Int.reduceLE,Int.reduceLT,Int.reduceNeg,reduceMod,gT,h1a,r1a,h3a,hw,zcw]
  refine ⟨fun hs=>⟨fun h0=>⟨by omega,by omega,by omega,h,h,?_⟩,fun h0=>?_⟩,fun hs=>?_⟩
  ·have hs:zcX n (xs.getD k 0) = true:=by rwa [Bool.not_eq_false'] at hs
   have hb:=zd9 hs
   have hb':=zd9 (hall (k - 1) (by omega)).1
   refine zab (zjd hb' hb) ?_
   simp (maxSteps:=9^7) -dsimp only [↓gp,gq,reduceCtorEq,reduceEqDiff,reduceLT,reduceLeDiff,reduceAdd,reduceMul,reduceSub,Nat.reduceBEq,Int.reduceToNat,Int.reduceLE,Int.reduceLT,Int.reduceNeg,reduceMod,gT,h1a,r1a,h3a,hw,zcw]
   refine ⟨fun hbef=>zdv fun hg=>?_,fun hbef=>?_⟩
   ·have:=(hg.2.2 k h).2.1 (by omega)
    rw [this] at hbef;cases hbef
   ·have hbef:0 < k→zlA (xs.getD (k - 1) 0) (xs.getD k 0) = true:=fun _=>by rwa [Bool.not_eq_false'] at hbef
    refine zah (fun (i:Nat) s=>s.sl 1 = .ref 1 1 0∧s.rw 1 = ⟨1,.box 27 [int n,zaH xs]⟩∧s.sl 3 = int k∧s.sl 4 = int i∧(i ≤ k∧∀ j,j < i→zfO .i64 (xs.getD j 0) (xs.getD k 0) ≠ xs.getD j 0)) (fun i=>k - i) (0) (by refine ⟨?_,?_,?_,?_,by simp⟩ <;> (first | (simp (maxSteps:=9^7) -dsimp only [gr,reduceEqDiff,reduceLT,reduceAdd,reduceMod,Nat.reduceBEq,h1a,r1a,h3a];first | done | rfl | (simp;done)) | assumption | rfl)) ?_
    intro i sb ⟨h1b,r1b,h3b,h4b,hIb⟩
    obtain ⟨hik,hin⟩:=hIb
    simp (maxSteps:=9^7) -dsimp only [↓gp,gq,reduceCtorEq,reduceEqDiff,reduceLT,reduceLeDiff,reduceAdd,reduceMul,reduceSub,Nat.reduceBEq,Int.reduceToNat,Int.reduceLE,Int.reduceLT,Int.reduceNeg,reduceMod,gT,h1b,r1b,h3b,h4b]
    refine ⟨fun hi=>⟨by kernel_rfl,by omega,by omega,h,h,by omega,by omega,fun he=>?_,fun he=>zac (i + 1) ⟨(by (first | (simp (maxSteps:=9^7) -dsimp only [gr,reduceEqDiff,reduceLT,reduceAdd,reduceMod,Nat.reduceBEq,h1b,r1b,h3b,h4b,zaa hi (by omega)];first | done | rfl | (simp;done)) | assumption | rfl)),(by (first | (simp (maxSteps:=9^7) -dsimp only [gr,reduceEqDiff,reduceLT,reduceAdd,reduceMod,Nat.reduceBEq,h1b,r1b,h3b,h4b,zaa hi (by omega)];first | done | rfl | (simp;done)) | assumption | rfl)),(by (first | (simp (maxSteps:=9^7) -dsimp only [gr,reduceEqDiff,reduceLT,reduceAdd,reduceMod,Nat.reduceBEq,h1b,r1b,h3b,h4b,zaa hi (by omega)];first | done | rfl | (simp;done)) | assumption | rfl)),(by (first | (simp (maxSteps:=9^7) -dsimp only [gr,reduceEqDiff,reduceLT,reduceAdd,reduceMod,Nat.reduceBEq,h1b,r1b,h3b,h4b,zaa hi (by omega)];first | done | rfl | (simp;done)) | assumption | rfl)),⟨by omega,fun j hj=>?_⟩⟩ (by first | omega | (simp only;omega) | (dsimp only;omega) | (show _ < _;simp;omega))⟩,fun hi=>zac (k + 1) ⟨(by (first | (simp (maxSteps:=9^7) -dsimp only [gr,reduceEqDiff,reduceLT,reduceAdd,reduceMod,Nat.reduceBEq,h1a,r1a,h3a,h1b,r1b,h3b,h4b,zaa h hl];first | done | rfl | (simp;done)) | assumption | rfl)),(by (first | (simp (maxSteps:=9^7) -dsimp only [gr,reduceEqDiff,reduceLT,reduceAdd,reduceMod,Nat.reduceBEq,h1a,r1a,h3a,h1b,r1b,h3b,h4b,zaa h hl];first | done | rfl | (simp;done)) | assumption | rfl)),(by (first | (simp (maxSteps:=9^7) -dsimp only [gr,reduceEqDiff,reduceLT,reduceAdd,reduceMod,Nat.reduceBEq,h1a,r1a,h3a,h1b,r1b,h3b,h4b,zaa h hl];first | done | rfl | (simp;done)) | assumption | rfl)),⟨by omega,fun j hj=>?_⟩⟩ (by first | omega | (simp only;omega) | (dsimp only;omega) | (show _ < _;simp;omega))⟩
    ·exact zdv fun hg=>(hg.2.2 k h).2.2 i hi (by simpa using he)
    ·rcases Nat.lt_succ_iff_lt_or_eq.1 hj with hj | rfl
     ·exact hin j hj
     ·simpa using he
    ·rcases Nat.lt_succ_iff_lt_or_eq.1 hj with hj | rfl
     ·exact hall j hj
     ·exact ⟨hs,hbef,fun i hi=>hin i (by omega)⟩
  ·have hs:zcX n (xs.getD k 0) = true:=by rwa [Bool.not_eq_false'] at hs
   have hbef:0 < k→zlA (xs.getD (k - 1) 0) (xs.getD k 0) = true:=fun h=>by omega
   refine zah (fun (i:Nat) s=>s.sl 1 = .ref 1 1 0∧s.rw 1 = ⟨1,.box 27 [int n,zaH xs]⟩∧s.sl 3 = int k∧s.sl 4 = int i∧(i ≤ k∧∀ j,j < i→zfO .i64 (xs.getD j 0) (xs.getD k 0) ≠ xs.getD j 0)) (fun i=>k - i) (0) (by refine ⟨?_,?_,?_,?_,by simp⟩ <;> (first | (simp (maxSteps:=9^7) -dsimp only [gr,reduceEqDiff,reduceLT,reduceAdd,reduceMod,Nat.reduceBEq,h1a,r1a,h3a];first | done | rfl | (simp;done)) | assumption | rfl)) ?_
   intro i sb ⟨h1b,r1b,h3b,h4b,hIb⟩
   obtain ⟨hik,hin⟩:=hIb
   simp (maxSteps:=9^7) -dsimp only [↓gp,gq,reduceCtorEq,reduceEqDiff,reduceLT,reduceLeDiff,reduceAdd,reduceMul,reduceSub,Nat.reduceBEq,Int.reduceToNat,Int.reduceLE,Int.reduceLT,Int.reduceNeg,reduceMod,gT,h1b,r1b,h3b,h4b]
   refine ⟨fun hi=>⟨by kernel_rfl,by omega,by omega,h,h,by omega,by omega,fun he=>?_,fun he=>zac (i + 1) ⟨(by (first | (simp (maxSteps:=9^7) -dsimp only [gr,reduceEqDiff,reduceLT,reduceAdd,reduceMod,Nat.reduceBEq,h1b,r1b,h3b,h4b,zaa hi (by omega)];first | done | rfl | (simp;done)) | assumption | rfl)),(by (first | (simp (maxSteps:=9^7) -dsimp only [gr,reduceEqDiff,reduceLT,reduceAdd,reduceMod,Nat.reduceBEq,h1b,r1b,h3b,h4b,zaa hi (by omega)];first | done | rfl | (simp;done)) | assumption | rfl)),(by (first | (simp (maxSteps:=9^7) -dsimp only [gr,reduceEqDiff,reduceLT,reduceAdd,reduceMod,Nat.reduceBEq,h1b,r1b,h3b,h4b,zaa hi (by omega)];first | done | rfl | (simp;done)) | assumption | rfl)),(by (first | (simp (maxSteps:=9^7) -dsimp only [gr,reduceEqDiff,reduceLT,reduceAdd,reduceMod,Nat.reduceBEq,h1b,r1b,h3b,h4b,zaa hi (by omega)];first | done | rfl | (simp;done)) | assumption | rfl)),⟨by omega,fun j hj=>?_⟩⟩ (by first | omega | (simp only;omega) | (dsimp only;omega) | (show _ < _;simp;omega))⟩,fun hi=>zac (k + 1) ⟨(by (first | (simp (maxSteps:=9^7) -dsimp only [gr,reduceEqDiff,reduceLT,reduceAdd,reduceMod,Nat.reduceBEq,h1a,r1a,h3a,h1b,r1b,h3b,h4b,zaa h hl];first | done | rfl | (simp;done)) | assumption | rfl)),(by (first | (simp (maxSteps:=9^7) -dsimp only [gr,reduceEqDiff,reduceLT,reduceAdd,reduceMod,Nat.reduceBEq,h1a,r1a,h3a,h1b,r1b,h3b,h4b,zaa h hl];first | done | rfl | (simp;done)) | assumption | rfl)),(by (first | (simp (maxSteps:=9^7) -dsimp only [gr,reduceEqDiff,reduceLT,reduceAdd,reduceMod,Nat.reduceBEq,h1a,r1a,h3a,h1b,r1b,h3b,h4b,zaa h hl];first | done | rfl | (simp;done)) | assumption | rfl)),⟨by omega,fun j hj=>?_⟩⟩ (by first | omega | (simp only;omega) | (dsimp only;omega) | (show _ < _;simp;omega))⟩
   ·exact zdv fun hg=>(hg.2.2 k h).2.2 i hi (by simpa using he)
   ·rcases Nat.lt_succ_iff_lt_or_eq.1 hj with hj | rfl
    ·exact hin j hj
    ·simpa using he
   ·rcases Nat.lt_succ_iff_lt_or_eq.1 hj with hj | rfl
    ·exact hall j hj
    ·exact ⟨hs,hbef,fun i hi=>hin i (by omega)⟩
  ·have hs:zcX n (xs.getD k 0) = false:=by rwa [Bool.not_eq_true'] at hs
   exact zdv fun hg=>by have:=(hg.2.2 k h).1;rw [hs] at this;cases this
 ·simp (maxSteps:=9^7) -dsimp only [↓gp,gq,reduceCtorEq,reduceEqDiff,reduceLT,reduceLeDiff,reduceAdd,reduceMul,reduceSub,Nat.reduceBEq,Int.reduceToNat,Int.reduceLE,Int.reduceLT,Int.reduceNeg,reduceMod,gT,h1a,r1a,h3a,hw,zcw]
  by_cases hn:1 ≤ n∧n ≤ 6
  ·rw [znc ⟨hn.1,hn.2,fun k hk=>hall k (by omega)⟩]
   simp [hn.1,hn.2]
  ·rw [zdv fun hg=>hn ⟨hg.1,hg.2.1⟩]
   symm
   rw [Bool.and_eq_false_iff,decide_eq_false_iff_not,decide_eq_false_iff_not]
   omega
theorem zgf (n:Int) (xs:List Int):AC Tryz.prog 44 [int n,zaH xs] (.im (bool (zaV n xs))):=by
 refine AC.go (rs:=[.tmp 4]) zaL mixed Tryz.func44 rfl rfl rfl (by kernel_rfl) fun hl=>?_
 simp only [zaJ,zaX,and_true,zcl,zbx,true_and] at hl
 simp (maxSteps:=9^7) -dsimp only [↓gp,gq,reduceCtorEq,reduceEqDiff,reduceLT,reduceLeDiff,reduceAdd,reduceMul,reduceSub,Nat.reduceBEq,Int.reduceToNat,Int.reduceLE,Int.reduceLT,Int.reduceNeg,reduceMod,gT]
 refine ⟨fun hn=>⟨fun h6=>zdv fun hg=>by have:=hg.2.1;omega,fun h6=>?_⟩,fun hn=>zdv fun hg=>by have:=hg.1;omega⟩
 refine zah (fun (k:Nat) s=>s.sl 0 = int n∧s.sl 1 = zaH xs∧s.sl 17 = zaH xs∧s.sl 18 = int xs.length∧s.sl 19 = int k∧(k ≤ xs.length∧∀ i,i < k→zcX n (xs.getD i 0) = true∧(0 < i→zlA (xs.getD (i - 1) 0) (xs.getD i 0) = true))) (fun k=>xs.length - k) (0) (by refine ⟨?_,?_,?_,?_,?_,by simp⟩ <;> (first | (simp (maxSteps:=9^7) -dsimp only [gr,reduceEqDiff,reduceLT,reduceAdd,reduceMod,Nat.reduceBEq];first | done | rfl | (simp;done)) | assumption | rfl)) ?_
 intro k sa ⟨h0a,h1a,h17a,h18a,h19a,hIa⟩
 obtain ⟨hk,hall⟩:=hIa
 have hw:IntKind.i64.wrap ((k:Int) - 1) = (k:Int) - 1:=zap (by omega) (by omega)
 simp (maxSteps:=9^7) -dsimp only [↓gp,gq,reduceCtorEq,reduceEqDiff,reduceLT,reduceLeDiff,reduceAdd,reduceMul,reduceSub,Nat.reduceBEq,Int.reduceToNat,Int.reduceLE,Int.reduceLT,Int.reduceNeg,reduceMod,gT,h0a,h1a,h17a,h18a,h19a,hw,zcw]
 refine ⟨fun h=>⟨h,h,zab (zdk _ _) ?_⟩,fun h=>?_⟩
 ·simp (maxSteps:=9^7) -dsimp only [↓gp,gq,reduceCtorEq,reduceEqDiff,reduceLT,reduceLeDiff,reduceAdd,reduceMul,reduceSub,Nat.reduceBEq,Int.reduceToNat,Int.reduceLE,Int.reduceLT,Int.reduceNeg,reduceMod,gT,h0a,h1a,h17a,h18a,h19a,hw,zcw]
  refine ⟨fun hs=>?_,fun hs=>⟨fun h0=>⟨by omega,by omega,by omega,zab (ziq _ _) ?_⟩,fun h0=>?_⟩⟩
  ·have hs:zcX n (xs.getD k 0) = false:=by rwa [Bool.not_eq_true'] at hs
   exact zdv fun hg=>by have:=(hg.2.2 k h).1;rw [hs] at this;cases this
  ·simp (maxSteps:=9^7) -dsimp only [↓gp,gq,reduceCtorEq,reduceEqDiff,reduceLT,reduceLeDiff,reduceAdd,reduceMul,reduceSub,Nat.reduceBEq,Int.reduceToNat,Int.reduceLE,Int.reduceLT,Int.reduceNeg,reduceMod,gT,h0a,h1a,h17a,h18a,h19a,hw,zcw]
   refine ⟨fun hb=>zdv fun hg=>?_,fun hb=>zac (k + 1) ⟨(by (first | (simp (maxSteps:=9^7) -dsimp only [gr,reduceEqDiff,reduceLT,reduceAdd,reduceMod,Nat.reduceBEq,h0a,h1a,h17a,h18a,h19a,zaa h hl];first | done | rfl | (simp;done)) | assumption | rfl)),(by (first | (simp (maxSteps:=9^7) -dsimp only [gr,reduceEqDiff,reduceLT,reduceAdd,reduceMod,Nat.reduceBEq,h0a,h1a,h17a,h18a,h19a,zaa h hl];first | done | rfl | (simp;done)) | assumption | rfl)),(by (first | (simp (maxSteps:=9^7) -dsimp only [gr,reduceEqDiff,reduceLT,reduceAdd,reduceMod,Nat.reduceBEq,h0a,h1a,h17a,h18a,h19a,zaa h hl];first | done | rfl | (simp;done)) | assumption | rfl)),(by (first | (simp (maxSteps:=9^7) -dsimp only [gr,reduceEqDiff,reduceLT,reduceAdd,reduceMod,Nat.reduceBEq,h0a,h1a,h17a,h18a,h19a,zaa h hl];first | done | rfl | (simp;done)) | assumption | rfl)),(by (first | (simp (maxSteps:=9^7) -dsimp only [gr,reduceEqDiff,reduceLT,reduceAdd,reduceMod,Nat.reduceBEq,h0a,h1a,h17a,h18a,h19a,zaa h hl];first | done | rfl | (simp;done)) | assumption | rfl)),⟨by omega,fun j hj=>?_⟩⟩ (by first | omega | (simp only;omega) | (dsimp only;omega) | (show _ < _;simp;omega))⟩
   ·have:=(hg.2.2 k h).2.1 (by omega)
    rw [this] at hb;cases hb
   ·rcases Nat.lt_succ_iff_lt_or_eq.1 hj with hj | rfl
    ·exact hall j hj
    ·exact ⟨by rwa [Bool.not_eq_false'] at hs,fun _=>by rwa [Bool.not_eq_false'] at hb⟩
  ·refine zac (k + 1) ⟨(by (first | (simp (maxSteps:=9^7) -dsimp only [gr,reduceEqDiff,reduceLT,reduceAdd,reduceMod,Nat.reduceBEq,h0a,h1a,h17a,h18a,h19a,zaa h hl];first | done | rfl | (simp;done)) | assumption | rfl)),(by (first | (simp (maxSteps:=9^7) -dsimp only [gr,reduceEqDiff,reduceLT,reduceAdd,reduceMod,Nat.reduceBEq,h0a,h1a,h17a,h18a,h19a,zaa h hl];first | done | rfl | (simp;done)) | assumption | rfl)),(by (first | (simp (maxSteps:=9^7) -dsimp only [gr,reduceEqDiff,reduceLT,reduceAdd,reduceMod,Nat.reduceBEq,h0a,h1a,h17a,h18a,h19a,zaa h hl];first | done | rfl | (simp;done)) | assumption | rfl)),(by (first | (simp (maxSteps:=9^7) -dsimp only [gr,reduceEqDiff,reduceLT,reduceAdd,reduceMod,Nat.reduceBEq,h0a,h1a,h17a,h18a,h19a,zaa h hl];first | done | rfl | (simp;done)) | assumption | rfl)),(by (first | (simp (maxSteps:=9^7) -dsimp only [gr,reduceEqDiff,reduceLT,reduceAdd,reduceMod,Nat.reduceBEq,h0a,h1a,h17a,h18a,h19a,zaa h hl];first | done | rfl | (simp;done)) | assumption | rfl)),⟨by omega,fun j hj=>?_⟩⟩ (by first | omega | (simp only;omega) | (dsimp only;omega) | (show _ < _;simp;omega))
   rcases Nat.lt_succ_iff_lt_or_eq.1 hj with hj | rfl
   ·exact hall j hj
   ·exact ⟨by rwa [Bool.not_eq_false'] at hs,fun _=>by omega⟩
 ·have hall':∀ i,i < xs.length→zcX n (xs.getD i 0) = true∧(0 < i→zlA (xs.getD (i - 1) 0) (xs.getD i 0) = true):=fun i hi=>hall i (by omega)
  clear hw hall
  have hsub:∀ i j,i < xs.length→j < xs.length→(zcv .i64 (xs.getD i 0) (xs.getD j 0) = 0 ↔ zfO .i64 (xs.getD i 0) (xs.getD j 0) = xs.getD i 0):=fun i j hi hj=>zrZ (zd9 (hall' i hi).1) (zd9 (hall' j hj).1)
  refine zah (fun (i:Nat) s=>s.sl 1 = zaH xs∧s.sl 41 = zaH xs∧s.sl 42 = int xs.length∧s.sl 43 = int i∧(i ≤ xs.length∧∀ j k,j < i→j < k→k < xs.length→zfO .i64 (xs.getD j 0) (xs.getD k 0) ≠ xs.getD j 0)) (fun i=>xs.length - i) (0) (by refine ⟨?_,?_,?_,?_,by simp⟩ <;> (first | (simp (maxSteps:=9^7) -dsimp only [gr,reduceEqDiff,reduceLT,reduceAdd,reduceMod,Nat.reduceBEq,h0a,h1a,h17a,h18a,h19a];first | done | rfl | (simp;done)) | assumption | rfl)) ?_
  intro i sb ⟨h1b,h41b,h42b,h43b,hIb⟩
  obtain ⟨hi,hin⟩:=hIb
  have hwi:i < xs.length→IntKind.i64.wrap ((i:Int) + 1) = ((i + 1:Nat):Int):=fun h=>zaa h hl
  simp (maxSteps:=9^7) -dsimp only [↓gp,gq,reduceCtorEq,reduceEqDiff,reduceLT,reduceLeDiff,reduceAdd,reduceMul,reduceSub,Nat.reduceBEq,Int.reduceToNat,Int.reduceLE,Int.reduceLT,Int.reduceNeg,reduceMod,gT,h1b,h41b,h42b,h43b]
  refine ⟨fun hlt=>?_,fun hge=>znc ⟨by omega,by omega,fun k hk=>⟨(hall' k hk).1,(hall' k hk).2,fun j hj=>hin j k (by omega) hj hk⟩⟩⟩
  rw [hwi hlt]
  refine ⟨hlt,hlt,by omega,by omega,?_⟩
  refine zah (fun (j:Nat) s=>s.sl 1 = zaH xs∧s.sl 41 = zaH xs∧s.sl 42 = int xs.length∧s.sl 43 = int i∧s.sl 8 = int (xs.getD i 0)∧s.sl 51 = zaH (xs.drop (i + 1))∧s.sl 52 = int (xs.length - (i + 1):Nat)∧s.sl 53 = int j∧(j ≤ xs.length - (i + 1)∧∀ k,k < j→zfO .i64 (xs.getD i 0) (xs.getD (i + 1 + k) 0) ≠ xs.getD i 0)) (fun j=>xs.length - (i + 1) - j) (0) (by refine ⟨?_,?_,?_,?_,?_,?_,?_,?_,by simp⟩ <;> (first | (simp (maxSteps:=9^7) -dsimp only [gr,reduceEqDiff,reduceLT,reduceAdd,reduceMod,Nat.reduceBEq,h1b,h41b,h42b,h43b];first | done | rfl | (simp;done)) | assumption | rfl)) ?_
  intro j sc ⟨h1c,h41c,h42c,h43c,h8c,h51c,h52c,h53c,hIc⟩
  obtain ⟨hj,hinn⟩:=hIc
  have hd:∀ j,(xs.drop (i + 1)).getD j 0 = xs.getD (i + 1 + j) 0:=fun j=>by simp [List.getD]
  simp (maxSteps:=9^7) -dsimp only [↓gp,gq,reduceCtorEq,reduceEqDiff,reduceLT,reduceLeDiff,reduceAdd,reduceMul,reduceSub,Nat.reduceBEq,Int.reduceToNat,Int.reduceLE,Int.reduceLT,Int.reduceNeg,reduceMod,gT,h1c,h41c,h42c,h43c,h8c,h51c,h52c,h53c,hd,List.length_drop]
  refine ⟨fun h2=>⟨h2,h2,fun he=>?_,fun he=>zac (j + 1) ⟨(by (first | (simp (maxSteps:=9^7) -dsimp only [gr,reduceEqDiff,reduceLT,reduceAdd,reduceMod,Nat.reduceBEq,h1c,h41c,h42c,h43c,h8c,h51c,h52c,h53c,zaa h2 (by omega)];first | done | rfl | (simp;done)) | assumption | rfl)),(by (first | (simp (maxSteps:=9^7) -dsimp only [gr,reduceEqDiff,reduceLT,reduceAdd,reduceMod,Nat.reduceBEq,h1c,h41c,h42c,h43c,h8c,h51c,h52c,h53c,zaa h2 (by omega)];first | done | rfl | (simp;done)) | assumption | rfl)),(by (first | (simp (maxSteps:=9^7) -dsimp only [gr,reduceEqDiff,reduceLT,reduceAdd,reduceMod,Nat.reduceBEq,h1c,h41c,h42c,h43c,h8c,h51c,h52c,h53c,zaa h2 (by omega)];first | done | rfl | (simp;done)) | assumption | rfl)),(by (first | (simp (maxSteps:=9^7) -dsimp only [gr,reduceEqDiff,reduceLT,reduceAdd,reduceMod,Nat.reduceBEq,h1c,h41c,h42c,h43c,h8c,h51c,h52c,h53c,zaa h2 (by omega)];first | done | rfl | (simp;done)) | assumption | rfl)),(by (first | (simp (maxSteps:=9^7) -dsimp only [gr,reduceEqDiff,reduceLT,reduceAdd,reduceMod,Nat.reduceBEq,h1c,h41c,h42c,h43c,h8c,h51c,h52c,h53c,zaa h2 (by omega)];first | done | rfl | (simp;done)) | assumption | rfl)),(by (first | (simp (maxSteps:=9^7) -dsimp only [gr,reduceEqDiff,reduceLT,reduceAdd,reduceMod,Nat.reduceBEq,h1c,h41c,h42c,h43c,h8c,h51c,h52c,h53c,zaa h2 (by omega)];first | done | rfl | (simp;done)) | assumption | rfl)),(by (first | (simp (maxSteps:=9^7) -dsimp only [gr,reduceEqDiff,reduceLT,reduceAdd,reduceMod,Nat.reduceBEq,h1c,h41c,h42c,h43c,h8c,h51c,h52c,h53c,zaa h2 (by omega)];first | done | rfl | (simp;done)) | assumption | rfl)),(by (first | (simp (maxSteps:=9^7) -dsimp only [gr,reduceEqDiff,reduceLT,reduceAdd,reduceMod,Nat.reduceBEq,h1c,h41c,h42c,h43c,h8c,h51c,h52c,h53c,zaa h2 (by omega)];first | done | rfl | (simp;done)) | assumption | rfl)),⟨by omega,fun k hk=>?_⟩⟩ (by first | omega | (simp only;omega) | (dsimp only;omega) | (show _ < _;simp;omega))⟩,fun h2=>zac (i + 1) ⟨(by (first | (simp (maxSteps:=9^7) -dsimp only [gr,reduceEqDiff,reduceLT,reduceAdd,reduceMod,Nat.reduceBEq,h1b,h41b,h42b,h43b,h1c,h41c,h42c,h43c,h8c,h51c,h52c,h53c,hwi hlt];first | done | rfl | (simp;done)) | assumption | rfl)),(by (first | (simp (maxSteps:=9^7) -dsimp only [gr,reduceEqDiff,reduceLT,reduceAdd,reduceMod,Nat.reduceBEq,h1b,h41b,h42b,h43b,h1c,h41c,h42c,h43c,h8c,h51c,h52c,h53c,hwi hlt];first | done | rfl | (simp;done)) | assumption | rfl)),(by (first | (simp (maxSteps:=9^7) -dsimp only [gr,reduceEqDiff,reduceLT,reduceAdd,reduceMod,Nat.reduceBEq,h1b,h41b,h42b,h43b,h1c,h41c,h42c,h43c,h8c,h51c,h52c,h53c,hwi hlt];first | done | rfl | (simp;done)) | assumption | rfl)),(by (first | (simp (maxSteps:=9^7) -dsimp only [gr,reduceEqDiff,reduceLT,reduceAdd,reduceMod,Nat.reduceBEq,h1b,h41b,h42b,h43b,h1c,h41c,h42c,h43c,h8c,h51c,h52c,h53c,hwi hlt];first | done | rfl | (simp;done)) | assumption | rfl)),⟨by omega,fun j k hj' hk hk'=>?_⟩⟩ (by first | omega | (simp only;omega) | (dsimp only;omega) | (show _ < _;simp;omega))⟩
  ·refine zdv fun hg=>(hg.2.2 (i + 1 + j) (by omega)).2.2 i (by omega) ((hsub i (i + 1 + j) hlt (by omega)).1 (by simpa using he))
  ·rcases Nat.lt_succ_iff_lt_or_eq.1 hk with hk | rfl
   ·exact hinn k hk
   ·intro e
    have:=(hsub i (i + 1 + k) hlt (by omega)).2 e
    rw [this] at he
    simp at he
  ·rcases Nat.lt_succ_iff_lt_or_eq.1 hj' with hj' | rfl
   ·exact hin j k hj' hk hk'
   ·have:=hinn (k - (j + 1)) (by omega)
    rwa [show j + 1 + (k - (j + 1)) = k by omega] at this
theorem zrn (a:Int):zlA a a = false:=by unfold zlA;simp
theorem zvo {a b c:Int} (h1:zlA a b = true) (h2:zlA b c = true):zlA a c = true:=by
 unfold zlA at *
 simp only [Bool.and_eq_true,decide_eq_true_eq] at *
 obtain ⟨ha,hb,h1⟩:=h1
 obtain ⟨_,hc,h2⟩:=h2
 refine ⟨ha,hc,?_⟩
 split at h1 <;> split at h2 <;> simp only [decide_eq_true_eq] at h1 h2
 ·rw [if_pos (by omega)];exact decide_eq_true (by omega)
 ·rw [if_neg (by omega)];exact decide_eq_true (by omega)
 ·rw [if_neg (by omega)];exact decide_eq_true (by omega)
 ·rw [if_neg (by omega)];exact decide_eq_true (by omega)
theorem zjc {n:Int} {xs:List Int} (h:cxP n xs):∀ (j i:Nat),i < j→j < xs.length→zlA (xs.getD i 0) (xs.getD j 0) = true:=by
 intro j
 induction j with
 | zero=>intro i hi;omega
 | succ j ih =>
   intro i hi hj
   have h1:=(h.2.2 (j + 1) hj).2.1 (by omega)
   rw [Nat.add_sub_cancel] at h1
   rcases Nat.lt_succ_iff_lt_or_eq.1 hi with hi | rfl
   ·exact zvo (ih i hi (by omega)) h1
   ·exact h1
theorem znb {n:Int} {xs:List Int} (h:cxP n xs):xs.Nodup:=by
 refine List.pairwise_iff_getElem.2 fun i j hi hj hij e=>?_
 have:=zjc h j i hij hj
 rw [zb9 0 hi,zb9 0 hj,e,zrn] at this
 cases this
theorem zwF {n s:Int} (h:zcX n s = true):∃ m t:Nat,n = m∧s = t∧m ≤ 6∧t < 2 ^ m:=by
 unfold zcX at h
 have h:=of_decide_eq_true h
 obtain ⟨m,rfl⟩:=Int.eq_ofNat_of_zero_le h.1
 obtain ⟨t,rfl⟩:=Int.eq_ofNat_of_zero_le h.2.2.1
 refine ⟨m,t,rfl,rfl,by omega,?_⟩
 have:=h.2.2.2
 rw [zhA] at this
 omega
def okL (l:List Int):Prop:=∀ b ∈ l,0 ≤ b∧b < 64
theorem zcC {s:Int} (h:0 ≤ s∧s < 64):zlz s = (zat s.toNat:Nat):=by rw [zlz,if_pos h]
theorem zCi {l:List Int} {p:Int→Bool} {k:Nat} (h:k < l.length) (hp:p (l.getD k 0) = false):l.all p = false:=by
 rw [List.all_eq_false];exact ⟨_,zan 0 h,fun e=>by rw [hp] at e;cases e⟩
theorem zwE {l:List Int} {p:Int→Bool} (h:∀ k,k < l.length→p (l.getD k 0) = true):l.all p = true:=by
 rw [List.all_eq_true];intro x hx
 obtain ⟨i,hi,rfl⟩:=zaY 0 hx
 exact h i hi
theorem zaC (n:Int) (xs:List Int):AC Tryz.prog 21 [.ag [int n,zaH xs]] (.im (bool (zaV n xs))):=by
 refine AC.go (rs:=[.tmp 2]) zaL mixed Tryz.func21 rfl rfl rfl (by kernel_rfl) fun hl=>?_
 simp (maxSteps:=9^7) -dsimp only [↓gp,gq,reduceCtorEq,reduceEqDiff,reduceLT,reduceLeDiff,reduceAdd,reduceMul,reduceSub,Nat.reduceBEq,Int.reduceToNat,Int.reduceLE,Int.reduceLT,Int.reduceNeg,reduceMod,gT]
 refine zab (zgf n xs) ?_
 simp (maxSteps:=9^7) -dsimp only [↓gp,gq,reduceCtorEq,reduceEqDiff,reduceLT,reduceLeDiff,reduceAdd,reduceMul,reduceSub,Nat.reduceBEq,Int.reduceToNat,Int.reduceLE,Int.reduceLT,Int.reduceNeg,reduceMod,gT]
def zJK (ps:List ByteArray):List Int:=ps.map fun p=>((zJQ p p.size:Nat):Int)
def chr (n:Nat):ByteArray:=⟨#[UInt8.ofNat (48 + n)]⟩
structure OkText (t:ByteArray) (n:Nat) (rest:ByteArray) (ps:List ByteArray):Prop where
 size:2 ≤ t.size∧t.size ≤ 1000
 pts:1 ≤ n∧n ≤ 6
 b0:byt t 0 = 48 + n
 b1:byt t 1 = 58
 tail:t.extract 2 t.size = rest
 rsize:rest.size ≤ 1000
 full:(rest.toList == (⟨#[]⟩:ByteArray).toList) = false
 parts:zDp rest 44 = ps
 plen:ps.length ≤ 1000
 pne:0 < ps.length
 sets:∀ p ∈ ps,OkSet p
 head:zDp t 58 = [chr n,rest]
 cx:cxP n (zJK ps)
def zAS (r:Row) (ver:Nat) (Kp:PV→Prop):Prop:=r.ver = ver∧match r.kind with
 | .nil=>∃ bs:List Int,[] = bs.map (fun n=>PV.v (.int .u8 n))∧Kp (.v (.string (bs.foldl (fun r n=>r.push (UInt8.ofNat n.toNat)) ByteArray.empty)))
 | .sli _ sz _ c=>sz = 1∧∃ bs:List Int,c = bs.map (fun n=>PV.v (.int .u8 n))∧Kp (.v (.string (bs.foldl (fun r n=>r.push (UInt8.ofNat n.toNat)) ByteArray.empty)))
 | _=>False
theorem zAT (rw:Nat→Row) (j ver:Nat) {Kp:PV→Prop}:zfz T rw 49 9 (.own j ver) Kp = zAS (rw j) ver Kp:=by
 have ha:(T 49).k = .sli 5:=zHu
 have hb:(T 9).k = .str:=T9k
 have he:(T 5).k = .int .u8:=T5k
 have s1:(T 49).size = 1:=zHv
 have s2:(T 9).size = 1:=T9s
 have s3:(T 5).size = 1:=T5s
 unfold zfz zAS
 simp only [ha,hb,he,s1,s2,s3,slK]
 cases h:(rw j).kind <;> simp
theorem zep (n m:Int) (xs ys:List Int):AC Tryz.prog 8 [.ag [int n,zaH xs],.ag [int m,zaH ys]] (.im (bool (zAV n xs m ys))):=by
 refine AC.go (rs:=[.tmp 4]) zaL mixed Tryz.func8 rfl rfl rfl (by kernel_rfl) fun hl=>?_
 simp (maxSteps:=9^7) -dsimp only [↓gp,gq,reduceCtorEq,reduceEqDiff,reduceLT,reduceLeDiff,reduceAdd,reduceMul,reduceSub,Nat.reduceBEq,Int.reduceToNat,Int.reduceLE,Int.reduceLT,Int.reduceNeg,reduceMod,gT]
 unfold zAV
 refine ⟨fun h=>?_,fun h=>zab (znd xs ys) ?_⟩
 ·simp at h
  simp [h]
 ·simp (maxSteps:=9^7) -dsimp only [↓gp,gq,reduceCtorEq,reduceEqDiff,reduceLT,reduceLeDiff,reduceAdd,reduceMul,reduceSub,Nat.reduceBEq,Int.reduceToNat,Int.reduceLE,Int.reduceLT,Int.reduceNeg,reduceMod,gT]
  simp at h
  exact ⟨fun h2=>by simpa [h] using h2,fun h2=>by simpa [h] using h2⟩
theorem zeo (k:Int) (xs:List Int) (n:Int) (h0:0 ≤ n) (h1:n ≤ 1048576):AC Tryz.prog 4 [.ag [int k,zaH xs],int n] (.im (int (szI n xs.length))):=by
 refine AC.go (rs:=[.tmp 4]) zaL mixed Tryz.func4 rfl rfl rfl (by kernel_rfl) fun hl=>?_
 simp (maxSteps:=9^7) -dsimp only [↓gp,gq,reduceCtorEq,reduceEqDiff,reduceLT,reduceLeDiff,reduceAdd,reduceMul,reduceSub,Nat.reduceBEq,Int.reduceToNat,Int.reduceLE,Int.reduceLT,Int.reduceNeg,reduceMod,gT]
 refine zab (znf xs n h0 h1) ?_
 simp (maxSteps:=9^7) -dsimp only [↓gp,gq,reduceCtorEq,reduceEqDiff,reduceLT,reduceLeDiff,reduceAdd,reduceMul,reduceSub,Nat.reduceBEq,Int.reduceToNat,Int.reduceLE,Int.reduceLT,Int.reduceNeg,reduceMod,gT]
 have e:(if n - ↑xs.length < 0 then (-1:Int) else n - ↑xs.length) = szI n xs.length:=rfl
 simp only [e]
 refine ⟨fun h=>?_,fun _=>trivial⟩
 unfold szI at h ⊢
 split <;> omega
theorem zbf (n:Int) (xs:List Int) (hx:xs.length ≤ 1048576):AC Tryz.prog 6 [.ag [int n,zaH xs]] (.ag [.im (int n),.fr 3 1 (iL xs)]):=by
 refine AC.go (rs:=[.cell 2 27]) zaL mixed Tryz.func6 rfl rfl rfl (by kernel_rfl) fun hl=>?_
 simp (maxSteps:=9^7) -dsimp only [↓gp,gq,reduceCtorEq,reduceEqDiff,reduceLT,reduceLeDiff,reduceAdd,reduceMul,reduceSub,Nat.reduceBEq,Int.reduceToNat,Int.reduceLE,Int.reduceLT,Int.reduceNeg,reduceMod,gT]
 refine zab (zne xs hx) ?_
 simp (maxSteps:=9^7) -dsimp only [↓gp,gq,reduceCtorEq,reduceEqDiff,reduceLT,reduceLeDiff,reduceAdd,reduceMul,reduceSub,Nat.reduceBEq,Int.reduceToNat,Int.reduceLE,Int.reduceLT,Int.reduceNeg,reduceMod,gT]
end Go.Proofs.YtkledeboboplmaaGreat
