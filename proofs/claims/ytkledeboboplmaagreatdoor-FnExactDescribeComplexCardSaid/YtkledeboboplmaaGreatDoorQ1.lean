/- DERIVED by an AI agent. -/
import Derived.Test.YtkledeboboplmaaGreatDoorB1
import Derived.Test.YtkledeboboplmaaGreatDoorP1
import Derived.Test.YtkledeboboplmaaGreatDoorA13
namespace Go.Proofs.YtkledeboboplmaaGreatDoor
open Go.Abs
open Nat (reduceEqDiff reduceMod reduceAdd reduceLT reduceLeDiff reduceSub reduceMul)
set_option linter.unusedSimpArgs false
set_option linter.unusedVariables false
theorem zsM (a:Int):AC Tryz.prog 237 [int a] (.im (bool false)):=by
 refine AC.go (rs:=[.tmp 2]) zaD mixed Tryz.func237 rfl rfl rfl (by kernel_rfl) fun _=>?_
 simp -dsimp only [↓gp,gq,simprocAttr,gT]
 simp
theorem zbY (a b c:Int):AC Tryz.prog 81 [int a,int b,int c] (.im (bool (decide (b ≤ a) && decide (a ≤ c)))):=by
 refine AC.go (rs:=[.tmp 6]) zaD mixed Tryz.func81 rfl rfl rfl (by kernel_rfl) fun _=>?_
 simp -dsimp only [↓gp,gq,simprocAttr,gT]
 exact ⟨fun h=>by simp [h],fun h=>by simp [h]⟩
theorem zot (xs ys:List Int):AC Tryz.prog 45 [zax xs,zax ys] (.im (bool (decide (xs = ys)))):=by
 refine AC.go (rs:=[.tmp 4]) zaD mixed Tryz.func45 rfl rfl rfl (by kernel_rfl) fun hl=>?_
 simp only [zaN,zbI,za4,and_true] at hl
 simp (maxSteps:=9^7) -dsimp only [↓gp,gq,reduceCtorEq,reduceEqDiff,reduceLT,reduceLeDiff,reduceAdd,reduceMul,reduceSub,Nat.reduceBEq,Int.reduceToNat,Int.reduceLE,Int.reduceLT,Int.reduceNeg,reduceMod,gT]
 refine ⟨fun h=>?_,fun h=>?_⟩
 ·intro e
  simp [e] at h
 ·have hn:xs.length = ys.length:=by simp at h;omega
  refine zah (fun (i:Nat) s=>s.sl 0 = zax xs∧s.sl 1 = zax ys∧s.sl 5 = int i∧i ≤ xs.length∧xs.take i = ys.take i) (fun i=>xs.length - i) 0 ⟨by simp (maxSteps:=9^7) -dsimp only [gr,reduceEqDiff,reduceLT,reduceAdd,reduceMod,Nat.reduceBEq],by simp (maxSteps:=9^7) -dsimp only [gr,reduceEqDiff,reduceLT,reduceAdd,reduceMod,Nat.reduceBEq],by simp (maxSteps:=9^7) -dsimp only [gr,reduceEqDiff,reduceLT,reduceAdd,reduceMod,Nat.reduceBEq];rfl,by simp,by simp⟩ ?_
  intro i s1 ⟨h0,h1,h5,hi,hall⟩
  simp (maxSteps:=9^7) -dsimp only [↓gp,gq,reduceCtorEq,reduceEqDiff,reduceLT,reduceLeDiff,reduceAdd,reduceMul,reduceSub,Nat.reduceBEq,Int.reduceToNat,Int.reduceLE,Int.reduceLT,Int.reduceNeg,reduceMod,gT,h0,h1,h5]
  refine ⟨fun h=>⟨by kernel_rfl,h,h,by omega,by omega,fun ha=>?_,fun ha=>?_⟩,fun h=>?_⟩
  ·intro e
   simp [e] at ha
  ·refine zac (i + 1) ⟨by simp (maxSteps:=9^7) -dsimp only [gr,reduceEqDiff,reduceLT,reduceAdd,reduceMod,Nat.reduceBEq,h0],by simp (maxSteps:=9^7) -dsimp only [gr,reduceEqDiff,reduceLT,reduceAdd,reduceMod,Nat.reduceBEq,h1],by simp (maxSteps:=9^7) -dsimp only [gr,reduceEqDiff,reduceLT,reduceAdd,reduceMod,Nat.reduceBEq];rw [zaa h hl.1],h,?_⟩ (by omega)
   rw [zau 0 h,zau 0 (show i < ys.length by omega),hall]
   simp at ha
   simpa using ha
  ·rw [List.take_of_length_le (by omega),List.take_of_length_le (by omega)] at hall
   exact hall
theorem zou (xs:List Int) (hx:xs.length ≤ 1048576):AC Tryz.prog 34 [zax xs] (.fr 3 1 (iL xs)):=by
 refine AC.go (rs:=[.tmp 2]) zaD mixed Tryz.func34 rfl rfl rfl (by kernel_rfl) fun hl=>?_
 simp (maxSteps:=9^7) -dsimp only [↓gp,gq,reduceCtorEq,reduceEqDiff,reduceLT,reduceLeDiff,reduceAdd,reduceMul,reduceSub,Nat.reduceBEq,Int.reduceToNat,Int.reduceLE,Int.reduceLT,Int.reduceNeg,reduceMod,gT]
 refine ⟨by omega,by omega,?_⟩
 refine zah (fun (i:Nat) s=>∃ v,s.sl 0 = zax xs∧s.sl 3 = .own 7 v∧s.rw 7 = ⟨v,.sli 3 1 false (iL (xs.take i ++ List.replicate (xs.length - i) 0))⟩∧s.sl 4 = int i∧i ≤ xs.length) (fun i=>xs.length - i) 0 ⟨1,by simp (maxSteps:=9^7) -dsimp only [gr,reduceEqDiff,reduceLT,reduceAdd,reduceMod,Nat.reduceBEq],by simp (maxSteps:=9^7) -dsimp only [gr,reduceEqDiff,reduceLT,reduceAdd,reduceMod,Nat.reduceBEq],by simp (maxSteps:=9^7) -dsimp only [gr,reduceEqDiff,reduceLT,reduceAdd,reduceMod,Nat.reduceBEq];simp,by simp (maxSteps:=9^7) -dsimp only [gr,reduceEqDiff,reduceLT,reduceAdd,reduceMod,Nat.reduceBEq];rfl,by simp⟩ ?_
 intro i s1 ⟨v,h0,h3,h7,h4,hi⟩
 simp (maxSteps:=9^7) -dsimp only [↓gp,gq,reduceCtorEq,reduceEqDiff,reduceLT,reduceLeDiff,reduceAdd,reduceMul,reduceSub,Nat.reduceBEq,Int.reduceToNat,Int.reduceLE,Int.reduceLT,Int.reduceNeg,reduceMod,gT,h0,h3,h7,h4]
 have hf:=ztn (xs:=xs) (z:=(0:Int)) hi
 refine ⟨fun h=>⟨h,h,by omega,by omega,?_⟩,fun h=>?_⟩
 ·refine zac (i + 1) ⟨v,by simp (maxSteps:=9^7) -dsimp only [gr,reduceEqDiff,reduceLT,reduceAdd,reduceMod,Nat.reduceBEq,h0],by simp (maxSteps:=9^7) -dsimp only [gr,reduceEqDiff,reduceLT,reduceAdd,reduceMod,Nat.reduceBEq,h3],by simp (maxSteps:=9^7) -dsimp only [gr,reduceEqDiff,reduceLT,reduceAdd,reduceMod,Nat.reduceBEq];rw [zDa 0 0 h],by simp (maxSteps:=9^7) -dsimp only [gr,reduceEqDiff,reduceLT,reduceAdd,reduceMod,Nat.reduceBEq];rw [zaa h (by omega)],h⟩ (by omega)
 ·rw [List.take_of_length_le (by omega),show xs.length - i = 0 by omega];simp
theorem zov (xs:List Int) (n:Int) (h0:0 ≤ n) (h1:n ≤ 1048576):AC Tryz.prog 25 [zax xs,int n] (.im (int (if n - xs.length < 0 then -1 else n - xs.length))):=by
 refine AC.go (rs:=[.tmp 4]) zaD mixed Tryz.func25 rfl rfl rfl (by kernel_rfl) fun hl=>?_
 simp only [zaN,zbI,za4,and_true] at hl
 have hw:IntKind.i64.wrap (n - xs.length) = n - xs.length:=zai (by omega) (by have:=hl.1;omega)
 simp -dsimp only [↓gp,gq,simprocAttr,gT,hw]
 exact ⟨fun h=>by simp [h],fun h=>by simp [h]⟩
def szI (n:Int) (k:Nat):Int:=if n - k < 0 then -1 else n - k
theorem zpH (a b:Int):AC Tryz.prog 138 [int a,int b] (.im (int (max a b))):=by
 refine AC.go (rs:=[.tmp 4]) zaD mixed Tryz.func138 rfl rfl rfl (by kernel_rfl) fun hl=>?_
 simp -dsimp only [↓gp,gq,simprocAttr,gT]
 exact ⟨fun h=>by omega,fun h=>by omega⟩
theorem zaM (n:Nat) (h:n < 9223372036854775808):AC Tryz.prog 82 [int n] (.im (int (zat n:Nat))):=by
 refine AC.go (rs:=[.tmp 2]) zaD mixed Tryz.func82 rfl rfl rfl (by kernel_rfl) fun hl=>?_
 simp (maxSteps:=9^7) -dsimp only [↓gp,gq,reduceCtorEq,reduceEqDiff,reduceLT,reduceLeDiff,reduceAdd,reduceMul,reduceSub,Nat.reduceBEq,Int.reduceToNat,Int.reduceLE,Int.reduceLT,Int.reduceNeg,reduceMod,gT]
 refine zah (fun (x:Nat × Nat) s=>s.sl 0 = int x.1∧s.sl 3 = int x.2∧x.1 ≤ n∧x.2 + zat x.1 = zat n) (fun x=>x.1) (n,0) ⟨by simp (maxSteps:=9^7) -dsimp only [gr,reduceEqDiff,reduceLT,reduceAdd,reduceMod,Nat.reduceBEq],by simp (maxSteps:=9^7) -dsimp only [gr,reduceEqDiff,reduceLT,reduceAdd,reduceMod,Nat.reduceBEq];rfl,by simp,by simp⟩ ?_
 intro ⟨m,a⟩ s1 ⟨h0,h3,hm,hp⟩
 simp only at h0 h3 hm hp
 have hpl:=zGt n
 simp (maxSteps:=9^7) -dsimp only [↓gp,gq,reduceCtorEq,reduceEqDiff,reduceLT,reduceLeDiff,reduceAdd,reduceMul,reduceSub,Nat.reduceBEq,Int.reduceToNat,Int.reduceLE,Int.reduceLT,Int.reduceNeg,reduceMod,gT,h0,h3,zDb (show m < 9223372036854775808 by omega),zwj]
 refine ⟨fun h1=>?_,fun h1=>?_⟩
 ·have hm0:m ≠ 0:=by omega
  rw [zj3 hm0] at hp
  refine zac (m / 2,a + m % 2) ⟨by simp (maxSteps:=9^7) -dsimp only [gr,reduceEqDiff,reduceLT,reduceAdd,reduceMod,Nat.reduceBEq],?_,by simp only;omega,by simp only;omega⟩ (by simp only;omega)
  simp (maxSteps:=9^7) -dsimp only [gr,reduceEqDiff,reduceLT,reduceAdd,reduceMod,Nat.reduceBEq]
  rw [zai (by omega) (by omega)]
  rfl
 ·have:m = 0:=by omega
  subst this
  rw [zce] at hp
  omega
theorem zcc {s:Int} (h0:0 ≤ s) (h:s < 9223372036854775808):AC Tryz.prog 82 [int s] (.im (int (zat s.toNat:Nat))):=by
 obtain ⟨m,rfl⟩:=Int.eq_ofNat_of_zero_le h0
 exact zaM m (by omega)
theorem zg2 (n:Nat) (h:n < 64):AC Tryz.prog 199 [u64 n] (.im (int (zat n:Nat))):=by
 refine AC.go (rs:=[.tmp 2]) zaD mixed Tryz.func199 rfl rfl rfl (by kernel_rfl) fun hl=>?_
 simp -dsimp only [↓gp,gq,simprocAttr,gT]
 rw [zr5 h]
 clear hl
 obtain ⟨m,rfl⟩:∃ m:Fin 64,m.val = n:=⟨⟨n,h⟩,rfl⟩
 clear h
 revert m
 decide +kernel
theorem zjk (n:Nat) (h:n < 64):AC Tryz.prog 176 [u64 n] (.im (int (zat n:Nat))):=by
 refine AC.go (rs:=[.tmp 2]) zaD mixed Tryz.func176 rfl rfl rfl (by kernel_rfl) fun hl=>?_
 simp -dsimp only [↓gp,gq,simprocAttr,gT]
 refine zab (zg2 n h) ?_
 simp -dsimp only [↓gp,gq,simprocAttr,gT]
theorem zbX (n s:Int):AC Tryz.prog 145 [int n,int s] (.im (bool (zcA n s))):=by
 refine AC.go (rs:=[.tmp 4]) zaD mixed Tryz.func145 rfl rfl rfl (by kernel_rfl) fun hl=>?_
 simp -dsimp only [↓gp,gq,simprocAttr,gT,zcA]
 refine ⟨fun h0=>⟨fun h6=>⟨fun hs=>?_,fun hs=>by omega⟩,fun h6=>by omega⟩,fun h0=>by omega⟩
 obtain ⟨m,rfl⟩:=Int.eq_ofNat_of_zero_le h0
 rw [zlD (by omega),zbf (by omega),zgI]
 exact ⟨by omega,by simp only [h0,h6,hs,true_and]⟩
theorem ziN (n s:Int):AC Tryz.prog 79 [int n,int s] (.im (bool (zcA n s))):=by
 refine AC.go (rs:=[.tmp 4]) zaD mixed Tryz.func79 rfl rfl rfl (by kernel_rfl) fun hl=>?_
 simp -dsimp only [↓gp,gq,simprocAttr,gT]
 refine zab (zbY _ _ _) ?_
 simp -dsimp only [↓gp,gq,simprocAttr,gT]
 refine ⟨fun h=>?_,fun h=>?_⟩
 ·simp only [Bool.and_eq_true,decide_eq_true_eq] at h
  obtain ⟨h0,h6⟩:=h
  obtain ⟨m,rfl⟩:=Int.eq_ofNat_of_zero_le h0
  have hp:=zcx (m:=m) (by omega)
  have e:zcA (m:Int) s = decide (0 ≤ s∧s < ((2 ^ m:Nat):Int)):=by
   rw [zcA,zgI]
   simp only [h0,h6,true_and]
  rw [e,zlD (by omega),zbf (by omega)]
  generalize (2 ^ m:Nat) = q at hp
  rw [zai (by omega) (by omega)]
  refine ⟨by omega,zab (zbY _ _ _) ?_⟩
  simp -dsimp only [↓gp,gq,simprocAttr,gT]
  rw [← Bool.decide_and]
  exact decide_eq_decide.2 (by omega)
 ·refine decide_eq_false fun hh=>?_
  simp [hh.1,hh.2.1] at h
def zms (s:Int):Int:=if 0 ≤ s∧s < 64 then (zat s.toNat:Nat) else -1
theorem zsL (s:Int):zcA 6 s = decide (0 ≤ s∧s < 64):=by
 simp [zcA]
theorem zaA (s:Int):AC Tryz.prog 127 [int s] (.im (int (zms s))):=by
 refine AC.go (rs:=[.tmp 2]) zaD mixed Tryz.func127 rfl rfl rfl (by kernel_rfl) fun hl=>?_
 simp -dsimp only [↓gp,gq,simprocAttr,gT]
 refine zab (zbX _ _) ?_
 simp -dsimp only [↓gp,gq,simprocAttr,gT,zsL]
 refine ⟨fun h=>?_,fun h=>?_⟩
 ·have h:¬ (0 ≤ s∧s < 64):=by simp at h;omega
  rw [zms,if_neg h]
 ·have h:0 ≤ s∧s < 64:=by simpa using h
  obtain ⟨m,rfl⟩:=Int.eq_ofNat_of_zero_le h.1
  rw [zlD (by omega)]
  refine zab (zjk m (by omega)) ?_
  simp -dsimp only [↓gp,gq,simprocAttr,gT]
  rw [zms,if_pos h];rfl
def zmQ (a b:Int):Bool:=decide (0 ≤ a∧a < 64) && (decide (0 ≤ b∧b < 64) && (if zms a = zms b then decide (a < b) else decide (zms a < zms b)))
theorem zjl (a b:Int):AC Tryz.prog 146 [int a,int b] (.im (bool (zmQ a b))):=by
 refine AC.go (rs:=[.tmp 4]) zaD mixed Tryz.func146 rfl rfl rfl (by kernel_rfl) fun hl=>?_
 simp -dsimp only [↓gp,gq,simprocAttr,gT]
 refine zab (zbX _ _) ?_
 simp -dsimp only [↓gp,gq,simprocAttr,gT,zsL]
 unfold zmQ
 refine ⟨fun h=>zab (zbX _ _) ?_,fun h=>?_⟩
 ·have ha:decide (0 ≤ a∧a < 64) = true:=by simpa using h
  simp -dsimp only [↓gp,gq,simprocAttr,gT,zsL]
  rw [ha]
  refine ⟨fun hb=>?_,fun hb=>?_⟩
  ·have hb:decide (0 ≤ b∧b < 64) = false:=by rwa [Bool.not_eq_true'] at hb
   rw [hb];rfl
  ·have hb:decide (0 ≤ b∧b < 64) = true:=by simpa using hb
   rw [hb]
   refine zab (zaA a) ?_
   simp -dsimp only [↓gp,gq,simprocAttr,gT]
   refine zab (zaA b) ?_
   simp -dsimp only [↓gp,gq,simprocAttr,gT]
   refine ⟨fun hs=>zab (zaA a) ?_,fun hs=>?_⟩
   ·simp -dsimp only [↓gp,gq,simprocAttr,gT]
    refine zab (zaA b) ?_
    simp -dsimp only [↓gp,gq,simprocAttr,gT]
    have hs:¬ zms a = zms b:=by simpa using hs
    rw [if_neg hs]
   ·have hs:zms a = zms b:=by simpa using hs
    rw [if_pos hs]
 ·have ha:decide (0 ≤ a∧a < 64) = false:=by rwa [Bool.not_eq_true'] at h
  rw [ha];rfl
theorem zH1 {n:Int} {k:Nat} (h1:n ≤ 1048576) (h:¬ szI n k < 0):0 ≤ szI n k∧szI n k ≤ 1048576∧k ≤ 1048576:=by
 unfold szI at h ⊢
 split at h
 ·simp at h
 ·rename_i h2
  rw [if_neg h2]
  omega
def zCF (n:Int) (xs:List Int) (m:Int) (ys:List Int):Bool:=n == m && decide (xs = ys)
theorem zcu (n:Int) (xs:List Int):zCF n xs n xs = true:=by simp [zCF]
theorem zmr (xs:List Int) (hx:xs.length ≤ 1048576):AC Tryz.prog 171 [zax xs] (.fr 3 1 (iL xs)):=by
 refine AC.go (rs:=[.tmp 2]) zaD mixed Tryz.func171 rfl rfl rfl (by kernel_rfl) fun hl=>?_
 simp -dsimp only [↓gp,gq,simprocAttr,gT]
 exact ⟨by omega,fun h=>h.symm⟩
theorem zdN (xs:List Int) (n:Int):AC Tryz.prog 125 [zax xs,int n] (.im (bool (decide (n ∈ xs)))):=by
 refine AC.go (rs:=[.tmp 4]) zaD mixed Tryz.func125 rfl rfl rfl (by kernel_rfl) fun hl=>?_
 simp only [zaN,za4,and_true,zbI,zcD] at hl
 simp -dsimp only [↓gp,gq,simprocAttr,gT]
 refine zah (fun (k:Nat) s=>s.sl 0 = zax xs∧s.sl 1 = int n∧s.sl 5 = int k∧(k ≤ xs.length∧∀ i,i < k→xs.getD i 0 ≠ n)) (fun k=>xs.length - k) (0) (by refine ⟨?_,?_,?_,by simp⟩ <;> (first | (simp -dsimp only [gr,simprocAttr];first | done | rfl | (simp;done)) | assumption | rfl)) ?_
 intro k sa ⟨h0a,h1a,h5a,hIa⟩
 obtain ⟨hk,hall⟩:=hIa
 simp -dsimp only [↓gp,gq,simprocAttr,gT,h0a,h1a,h5a]
 refine ⟨fun h=>⟨h,h,fun he=>?_,fun he=>zac (k + 1) ⟨(by (first | (simp -dsimp only [gr,simprocAttr,h0a,h1a,h5a,zaa h hl];first | done | rfl | (simp;done)) | assumption | rfl)),(by (first | (simp -dsimp only [gr,simprocAttr,h0a,h1a,h5a,zaa h hl];first | done | rfl | (simp;done)) | assumption | rfl)),(by (first | (simp -dsimp only [gr,simprocAttr,h0a,h1a,h5a,zaa h hl];first | done | rfl | (simp;done)) | assumption | rfl)),⟨by omega,fun i hi=>?_⟩⟩ (by first | omega | (simp only;omega) | (dsimp only;omega) | (show _ < _;simp;omega))⟩,fun h=>?_⟩
 ·have he:xs.getD k 0 = n:=by simpa using he
  rw [← he]
  exact zaj 0 h
 ·rcases Nat.lt_succ_iff_lt_or_eq.1 hi with hi | rfl
  ·exact hall i hi
  ·simpa using he
 ·intro hm
  obtain ⟨i,hi,he⟩:=zaR 0 hm
  exact hall i (by omega) he
def idxOf (xs:List Int) (n:Int):Int:=if n ∈ xs then (xs.idxOf n:Nat) else -1
theorem zCE {xs:List Int} {n:Int} {k:Nat} (h:k < xs.length) (he:xs.getD k 0 = n) (hall:∀ i,i < k→xs.getD i 0 ≠ n):idxOf xs n = k:=by
 have hm:n ∈ xs:=he ▸ zaj 0 h
 unfold idxOf
 rw [if_pos hm]
 have h1:xs.idxOf n < xs.length:=List.idxOf_lt_length_iff.2 hm
 have h2:xs.getD (xs.idxOf n) 0 = n:=by rw [zcp 0 h1];exact List.getElem_idxOf h1
 rcases Nat.lt_trichotomy (xs.idxOf n) k with hlt | heq | hgt
 ·exact absurd h2 (hall _ hlt)
 ·rw [heq]
 ·have:=List.not_of_lt_findIdx (p:=(· == n)) (xs:=xs) (i:=k) hgt
  rw [zcp 0 h] at he
  simp [he] at this
theorem zmq (xs:List Int) (n:Int):AC Tryz.prog 238 [zax xs,int n] (.im (int (idxOf xs n))):=by
 refine AC.go (rs:=[.tmp 4]) zaD mixed Tryz.func238 rfl rfl rfl (by kernel_rfl) fun hl=>?_
 simp only [zaN,za4,and_true,zbI,zcD] at hl
 simp -dsimp only [↓gp,gq,simprocAttr,gT]
 refine zah (fun (k:Nat) s=>s.sl 0 = zax xs∧s.sl 1 = int n∧s.sl 7 = int xs.length∧s.sl 8 = int k∧(k ≤ xs.length∧∀ i,i < k→xs.getD i 0 ≠ n)) (fun k=>xs.length - k) (0) (by refine ⟨?_,?_,?_,?_,by simp⟩ <;> (first | (simp -dsimp only [gr,simprocAttr];first | done | rfl | (simp;done)) | assumption | rfl)) ?_
 intro k sa ⟨h0a,h1a,h7a,h8a,hIa⟩
 obtain ⟨hk,hall⟩:=hIa
 simp -dsimp only [↓gp,gq,simprocAttr,gT,h0a,h1a,h7a,h8a]
 refine ⟨fun h=>⟨h,h,fun he=>zCE h (by simpa using (beq_iff_eq.1 he).symm) hall,fun he=>zac (k + 1) ⟨(by (first | (simp -dsimp only [gr,simprocAttr,h0a,h1a,h7a,h8a,zaa h hl];first | done | rfl | (simp;done)) | assumption | rfl)),(by (first | (simp -dsimp only [gr,simprocAttr,h0a,h1a,h7a,h8a,zaa h hl];first | done | rfl | (simp;done)) | assumption | rfl)),(by (first | (simp -dsimp only [gr,simprocAttr,h0a,h1a,h7a,h8a,zaa h hl];first | done | rfl | (simp;done)) | assumption | rfl)),(by (first | (simp -dsimp only [gr,simprocAttr,h0a,h1a,h7a,h8a,zaa h hl];first | done | rfl | (simp;done)) | assumption | rfl)),⟨by omega,fun i hi=>?_⟩⟩ (by first | omega | (simp only;omega) | (dsimp only;omega) | (show _ < _;simp;omega))⟩,fun h=>?_⟩
 ·rcases Nat.lt_succ_iff_lt_or_eq.1 hi with hi | rfl
  ·exact hall i hi
  ·intro e;rw [e] at he;simp at he
 ·unfold idxOf
  rw [if_neg fun hm=>?_]
  obtain ⟨i,hi,he⟩:=zaR 0 hm
  exact hall i (by omega) he
theorem zh9 (xs:List Int) (n:Int):AC Tryz.prog 226 [zax xs,int n] (.im (bool (decide (n ∈ xs)))):=by
 refine AC.go (rs:=[.tmp 4]) zaD mixed Tryz.func226 rfl rfl rfl (by kernel_rfl) fun hl=>?_
 simp -dsimp only [↓gp,gq,simprocAttr,gT]
 refine zab (zmq xs n) ?_
 simp -dsimp only [↓gp,gq,simprocAttr,gT]
 unfold idxOf
 by_cases hm:n ∈ xs
 ·simp [hm]
 ·simp [hm]
theorem zki {a b:Int} (ha:0 ≤ a∧a < 64) (hb:0 ≤ b∧b < 64):AC Tryz.prog 80 [int a,int b] (.im (bool (zmQ a b))):=by
 refine AC.go (rs:=[.tmp 4]) zaD mixed Tryz.func80 rfl rfl rfl (by kernel_rfl) fun hl=>?_
 simp -dsimp only [↓gp,gq,simprocAttr,gT]
 refine zab (zcc ha.1 (by omega)) ?_
 simp -dsimp only [↓gp,gq,simprocAttr,gT]
 refine zab (zcc hb.1 (by omega)) ?_
 simp -dsimp only [↓gp,gq,simprocAttr,gT]
 unfold zmQ zms
 rw [if_pos ha,if_pos hb,decide_eq_true ha,decide_eq_true hb]
 simp only [Bool.true_and]
 refine ⟨fun h=>⟨fun h2=>?_,fun h2=>?_⟩,fun h=>?_⟩
 ·rw [if_pos (by simpa using h2)]
 ·rw [if_neg (by simpa using h2)]
  exact decide_eq_false (by omega)
 ·rw [if_neg (by omega)]
  exact decide_eq_true (by omega)
def zLk (n:Int) (xs:List Int) (k:Nat):Prop:=zcA n (xs.getD k 0) = true∧(0 < k→zmQ (xs.getD (k - 1) 0) (xs.getD k 0) = true)∧∀ i,i < k→zfE .i64 (xs.getD i 0) (xs.getD k 0) ≠ xs.getD i 0
def cxP (n:Int) (xs:List Int):Prop:=1 ≤ n∧n ≤ 6∧∀ k,k < xs.length→zLk n xs k
open Classical in
noncomputable def zaL (n:Int) (xs:List Int):Bool:=decide (cxP n xs)
open Classical in
theorem zd1 {n:Int} {xs:List Int} (h:¬ cxP n xs):zaL n xs = false:=decide_eq_false h
open Classical in
theorem zos {n:Int} {xs:List Int} (h:cxP n xs):zaL n xs = true:=decide_eq_true h
open Classical in
theorem zaP {n:Int} {xs:List Int}:zaL n xs = true ↔ cxP n xs:=decide_eq_true_iff
theorem zaE (n:Int) (xs:List Int):AC Tryz.prog 24 [.ag [int n,zax xs]] (.im (bool (zaL n xs))):=by
 refine AC.go (rs:=[.tmp 2]) zaD mixed Tryz.func24 rfl rfl rfl (by kernel_rfl) fun hl=>?_
 simp only [zaN,za4,and_true,zbZ,zdx,zcE,true_and] at hl
 simp -dsimp only [↓gp,gq,simprocAttr,gT]
 refine zah (fun (k:Nat) s=>s.sl 1 = .ref 1 1 0∧s.rw 1 = ⟨1,.box 27 [int n,zax xs]⟩∧s.sl 3 = int k∧(k ≤ xs.length∧∀ i,i < k→zLk n xs i)) (fun k=>xs.length - k) (0) (by refine ⟨?_,?_,?_,by simp⟩ <;> (first | (simp -dsimp only [gr,simprocAttr];first | done | rfl | (simp;done)) | assumption | rfl)) ?_
 intro k sa ⟨h1a,r1a,h3a,hIa⟩
 obtain ⟨hk,hall⟩:=hIa
 have hw:IntKind.i64.wrap ((k:Int) - 1) = (k:Int) - 1:=zai (by omega) (by omega)
 simp -dsimp only [↓gp,gq,simprocAttr,gT,h1a,r1a,h3a,hw,zcR]
 refine ⟨fun h=>⟨by kernel_rfl,h,h,zab (ziN _ _) ?_⟩,fun h=>zab (zbY _ _ _) ?_⟩
 ·simp -dsimp only [↓gp,gq,simprocAttr,gT,h1a,r1a,h3a,hw,zcR]
  refine ⟨fun hs=>⟨fun h0=>⟨by omega,by omega,by omega,h,h,?_⟩,fun h0=>?_⟩,fun hs=>?_⟩
  ·have hs:zcA n (xs.getD k 0) = true:=by rwa [Bool.not_eq_false'] at hs
   have hb:=zeH hs
   have hb':=zeH (hall (k - 1) (by omega)).1
   refine zab (zki hb' hb) ?_
   simp -dsimp only [↓gp,gq,simprocAttr,gT,h1a,r1a,h3a,hw,zcR]
   refine ⟨fun hbef=>zd1 fun hg=>?_,fun hbef=>?_⟩
   ·have:=(hg.2.2 k h).2.1 (by omega)
    rw [this] at hbef;cases hbef
   ·have hbef:0 < k→zmQ (xs.getD (k - 1) 0) (xs.getD k 0) = true:=fun _=>by rwa [Bool.not_eq_false'] at hbef
    refine zah (fun (i:Nat) s=>s.sl 1 = .ref 1 1 0∧s.rw 1 = ⟨1,.box 27 [int n,zax xs]⟩∧s.sl 3 = int k∧s.sl 4 = int i∧(i ≤ k∧∀ j,j < i→zfE .i64 (xs.getD j 0) (xs.getD k 0) ≠ xs.getD j 0)) (fun i=>k - i) (0) (by refine ⟨?_,?_,?_,?_,by simp⟩ <;> (first | (simp -dsimp only [gr,simprocAttr,h1a,r1a,h3a];first | done | rfl | (simp;done)) | assumption | rfl)) ?_
    intro i sb ⟨h1b,r1b,h3b,h4b,hIb⟩
    obtain ⟨hik,hin⟩:=hIb
    simp -dsimp only [↓gp,gq,simprocAttr,gT,h1b,r1b,h3b,h4b]
    refine ⟨fun hi=>⟨by kernel_rfl,by omega,by omega,h,h,by omega,by omega,fun he=>?_,fun he=>zac (i + 1) ⟨(by (first | (simp -dsimp only [gr,simprocAttr,h1b,r1b,h3b,h4b,zaa hi (by omega)];first | done | rfl | (simp;done)) | assumption | rfl)),(by (first | (simp -dsimp only [gr,simprocAttr,h1b,r1b,h3b,h4b,zaa hi (by omega)];first | done | rfl | (simp;done)) | assumption | rfl)),(by (first | (simp -dsimp only [gr,simprocAttr,h1b,r1b,h3b,h4b,zaa hi (by omega)];first | done | rfl | (simp;done)) | assumption | rfl)),(by (first | (simp -dsimp only [gr,simprocAttr,h1b,r1b,h3b,h4b,zaa hi (by omega)];first | done | rfl | (simp;done)) | assumption | rfl)),⟨by omega,fun j hj=>?_⟩⟩ (by first | omega | (simp only;omega) | (dsimp only;omega) | (show _ < _;simp;omega))⟩,fun hi=>zac (k + 1) ⟨(by (first | (simp -dsimp only [gr,simprocAttr,h1a,r1a,h3a,h1b,r1b,h3b,h4b,zaa h hl];first | done | rfl | (simp;done)) | assumption | rfl)),(by (first | (simp -dsimp only [gr,simprocAttr,h1a,r1a,h3a,h1b,r1b,h3b,h4b,zaa h hl];first | done | rfl | (simp;done)) | assumption | rfl)),(by (first | (simp -dsimp only [gr,simprocAttr,h1a,r1a,h3a,h1b,r1b,h3b,h4b,zaa h hl];first | done | rfl | (simp;done)) | assumption | rfl)),⟨by omega,fun j hj=>?_⟩⟩ (by first | omega | (simp only;omega) | (dsimp only;omega) | (show _ < _;simp;omega))⟩
    ·exact zd1 fun hg=>(hg.2.2 k h).2.2 i hi (by simpa using he)
    ·rcases Nat.lt_succ_iff_lt_or_eq.1 hj with hj | rfl
     ·exact hin j hj
     ·simpa using he
    ·rcases Nat.lt_succ_iff_lt_or_eq.1 hj with hj | rfl
     ·exact hall j hj
     ·exact ⟨hs,hbef,fun i hi=>hin i (by omega)⟩
  ·have hs:zcA n (xs.getD k 0) = true:=by rwa [Bool.not_eq_false'] at hs
   have hbef:0 < k→zmQ (xs.getD (k - 1) 0) (xs.getD k 0) = true:=fun h=>by omega
   refine zah (fun (i:Nat) s=>s.sl 1 = .ref 1 1 0∧s.rw 1 = ⟨1,.box 27 [int n,zax xs]⟩∧s.sl 3 = int k∧s.sl 4 = int i∧(i ≤ k∧∀ j,j < i→zfE .i64 (xs.getD j 0) (xs.getD k 0) ≠ xs.getD j 0)) (fun i=>k - i) (0) (by refine ⟨?_,?_,?_,?_,by simp⟩ <;> (first | (simp -dsimp only [gr,simprocAttr,h1a,r1a,h3a];first | done | rfl | (simp;done)) | assumption | rfl)) ?_
   intro i sb ⟨h1b,r1b,h3b,h4b,hIb⟩
   obtain ⟨hik,hin⟩:=hIb
   simp -dsimp only [↓gp,gq,simprocAttr,gT,h1b,r1b,h3b,h4b]
   refine ⟨fun hi=>⟨by kernel_rfl,by omega,by omega,h,h,by omega,by omega,fun he=>?_,fun he=>zac (i + 1) ⟨(by (first | (simp -dsimp only [gr,simprocAttr,h1b,r1b,h3b,h4b,zaa hi (by omega)];first | done | rfl | (simp;done)) | assumption | rfl)),(by (first | (simp -dsimp only [gr,simprocAttr,h1b,r1b,h3b,h4b,zaa hi (by omega)];first | done | rfl | (simp;done)) | assumption | rfl)),(by (first | (simp -dsimp only [gr,simprocAttr,h1b,r1b,h3b,h4b,zaa hi (by omega)];first | done | rfl | (simp;done)) | assumption | rfl)),(by (first | (simp -dsimp only [gr,simprocAttr,h1b,r1b,h3b,h4b,zaa hi (by omega)];first | done | rfl | (simp;done)) | assumption | rfl)),⟨by omega,fun j hj=>?_⟩⟩ (by first | omega | (simp only;omega) | (dsimp only;omega) | (show _ < _;simp;omega))⟩,fun hi=>zac (k + 1) ⟨(by (first | (simp -dsimp only [gr,simprocAttr,h1a,r1a,h3a,h1b,r1b,h3b,h4b,zaa h hl];first | done | rfl | (simp;done)) | assumption | rfl)),(by (first | (simp -dsimp only [gr,simprocAttr,h1a,r1a,h3a,h1b,r1b,h3b,h4b,zaa h hl];first | done | rfl | (simp;done)) | assumption | rfl)),(by (first | (simp -dsimp only [gr,simprocAttr,h1a,r1a,h3a,h1b,r1b,h3b,h4b,zaa h hl];first | done | rfl | (simp;done)) | assumption | rfl)),⟨by omega,fun j hj=>?_⟩⟩ (by first | omega | (simp only;omega) | (dsimp only;omega) | (show _ < _;simp;omega))⟩
   ·exact zd1 fun hg=>(hg.2.2 k h).2.2 i hi (by simpa using he)
   ·rcases Nat.lt_succ_iff_lt_or_eq.1 hj with hj | rfl
    ·exact hin j hj
    ·simpa using he
   ·rcases Nat.lt_succ_iff_lt_or_eq.1 hj with hj | rfl
    ·exact hall j hj
    ·exact ⟨hs,hbef,fun i hi=>hin i (by omega)⟩
  ·have hs:zcA n (xs.getD k 0) = false:=by rwa [Bool.not_eq_true'] at hs
   exact zd1 fun hg=>by have:=(hg.2.2 k h).1;rw [hs] at this;cases this
 ·simp -dsimp only [↓gp,gq,simprocAttr,gT,h1a,r1a,h3a,hw,zcR]
  by_cases hn:1 ≤ n∧n ≤ 6
  ·rw [zos ⟨hn.1,hn.2,fun k hk=>hall k (by omega)⟩]
   simp [hn.1,hn.2]
  ·rw [zd1 fun hg=>hn ⟨hg.1,hg.2.1⟩]
   symm
   rw [Bool.and_eq_false_iff,decide_eq_false_iff_not,decide_eq_false_iff_not]
   omega
theorem zg1 (n:Int) (xs:List Int):AC Tryz.prog 91 [int n,zax xs] (.im (bool (zaL n xs))):=by
 refine AC.go (rs:=[.tmp 4]) zaD mixed Tryz.func91 rfl rfl rfl (by kernel_rfl) fun hl=>?_
 simp only [zaN,za4,and_true,zcD,zbI,true_and] at hl
 simp -dsimp only [↓gp,gq,simprocAttr,gT]
 refine ⟨fun hn=>⟨fun h6=>zd1 fun hg=>by have:=hg.2.1;omega,fun h6=>?_⟩,fun hn=>zd1 fun hg=>by have:=hg.1;omega⟩
 refine zah (fun (k:Nat) s=>s.sl 0 = int n∧s.sl 1 = zax xs∧s.sl 17 = zax xs∧s.sl 18 = int xs.length∧s.sl 19 = int k∧(k ≤ xs.length∧∀ i,i < k→zcA n (xs.getD i 0) = true∧(0 < i→zmQ (xs.getD (i - 1) 0) (xs.getD i 0) = true))) (fun k=>xs.length - k) (0) (by refine ⟨?_,?_,?_,?_,?_,by simp⟩ <;> (first | (simp -dsimp only [gr,simprocAttr];first | done | rfl | (simp;done)) | assumption | rfl)) ?_
 intro k sa ⟨h0a,h1a,h17a,h18a,h19a,hIa⟩
 obtain ⟨hk,hall⟩:=hIa
 have hw:IntKind.i64.wrap ((k:Int) - 1) = (k:Int) - 1:=zai (by omega) (by omega)
 simp -dsimp only [↓gp,gq,simprocAttr,gT,h0a,h1a,h17a,h18a,h19a,hw,zcR]
 refine ⟨fun h=>⟨h,h,zab (zbX _ _) ?_⟩,fun h=>?_⟩
 ·simp -dsimp only [↓gp,gq,simprocAttr,gT,h0a,h1a,h17a,h18a,h19a,hw,zcR]
  refine ⟨fun hs=>?_,fun hs=>⟨fun h0=>⟨by omega,by omega,by omega,zab (zjl _ _) ?_⟩,fun h0=>?_⟩⟩
  ·have hs:zcA n (xs.getD k 0) = false:=by rwa [Bool.not_eq_true'] at hs
   exact zd1 fun hg=>by have:=(hg.2.2 k h).1;rw [hs] at this;cases this
  ·simp -dsimp only [↓gp,gq,simprocAttr,gT,h0a,h1a,h17a,h18a,h19a,hw,zcR]
   refine ⟨fun hb=>zd1 fun hg=>?_,fun hb=>zac (k + 1) ⟨(by (first | (simp -dsimp only [gr,simprocAttr,h0a,h1a,h17a,h18a,h19a,zaa h hl];first | done | rfl | (simp;done)) | assumption | rfl)),(by (first | (simp -dsimp only [gr,simprocAttr,h0a,h1a,h17a,h18a,h19a,zaa h hl];first | done | rfl | (simp;done)) | assumption | rfl)),(by (first | (simp -dsimp only [gr,simprocAttr,h0a,h1a,h17a,h18a,h19a,zaa h hl];first | done | rfl | (simp;done)) | assumption | rfl)),(by (first | (simp -dsimp only [gr,simprocAttr,h0a,h1a,h17a,h18a,h19a,zaa h hl];first | done | rfl | (simp;done)) | assumption | rfl)),(by (first | (simp -dsimp only [gr,simprocAttr,h0a,h1a,h17a,h18a,h19a,zaa h hl];first | done | rfl | (simp;done)) | assumption | rfl)),⟨by omega,fun j hj=>?_⟩⟩ (by first | omega | (simp only;omega) | (dsimp only;omega) | (show _ < _;simp;omega))⟩
   ·have:=(hg.2.2 k h).2.1 (by omega)
    rw [this] at hb;cases hb
   ·rcases Nat.lt_succ_iff_lt_or_eq.1 hj with hj | rfl
    ·exact hall j hj
    ·exact ⟨by rwa [Bool.not_eq_false'] at hs,fun _=>by rwa [Bool.not_eq_false'] at hb⟩
  ·refine zac (k + 1) ⟨(by (first | (simp -dsimp only [gr,simprocAttr,h0a,h1a,h17a,h18a,h19a,zaa h hl];first | done | rfl | (simp;done)) | assumption | rfl)),(by (first | (simp -dsimp only [gr,simprocAttr,h0a,h1a,h17a,h18a,h19a,zaa h hl];first | done | rfl | (simp;done)) | assumption | rfl)),(by (first | (simp -dsimp only [gr,simprocAttr,h0a,h1a,h17a,h18a,h19a,zaa h hl];first | done | rfl | (simp;done)) | assumption | rfl)),(by (first | (simp -dsimp only [gr,simprocAttr,h0a,h1a,h17a,h18a,h19a,zaa h hl];first | done | rfl | (simp;done)) | assumption | rfl)),(by (first | (simp -dsimp only [gr,simprocAttr,h0a,h1a,h17a,h18a,h19a,zaa h hl];first | done | rfl | (simp;done)) | assumption | rfl)),⟨by omega,fun j hj=>?_⟩⟩ (by first | omega | (simp only;omega) | (dsimp only;omega) | (show _ < _;simp;omega))
   rcases Nat.lt_succ_iff_lt_or_eq.1 hj with hj | rfl
   ·exact hall j hj
   ·exact ⟨by rwa [Bool.not_eq_false'] at hs,fun _=>by omega⟩
 ·have hall':∀ i,i < xs.length→zcA n (xs.getD i 0) = true∧(0 < i→zmQ (xs.getD (i - 1) 0) (xs.getD i 0) = true):=fun i hi=>hall i (by omega)
  clear hw hall
  have hsub:∀ i j,i < xs.length→j < xs.length→(zco .i64 (xs.getD i 0) (xs.getD j 0) = 0 ↔ zfE .i64 (xs.getD i 0) (xs.getD j 0) = xs.getD i 0):=fun i j hi hj=>zto (zeH (hall' i hi).1) (zeH (hall' j hj).1)
  refine zah (fun (i:Nat) s=>s.sl 1 = zax xs∧s.sl 41 = zax xs∧s.sl 42 = int xs.length∧s.sl 43 = int i∧(i ≤ xs.length∧∀ j k,j < i→j < k→k < xs.length→zfE .i64 (xs.getD j 0) (xs.getD k 0) ≠ xs.getD j 0)) (fun i=>xs.length - i) (0) (by refine ⟨?_,?_,?_,?_,by simp⟩ <;> (first | (simp -dsimp only [gr,simprocAttr,h0a,h1a,h17a,h18a,h19a];first | done | rfl | (simp;done)) | assumption | rfl)) ?_
  intro i sb ⟨h1b,h41b,h42b,h43b,hIb⟩
  obtain ⟨hi,hin⟩:=hIb
  have hwi:i < xs.length→IntKind.i64.wrap ((i:Int) + 1) = ((i + 1:Nat):Int):=fun h=>zaa h hl
  simp -dsimp only [↓gp,gq,simprocAttr,gT,h1b,h41b,h42b,h43b]
  refine ⟨fun hlt=>?_,fun hge=>zos ⟨by omega,by omega,fun k hk=>⟨(hall' k hk).1,(hall' k hk).2,fun j hj=>hin j k (by omega) hj hk⟩⟩⟩
  rw [hwi hlt]
  refine ⟨hlt,hlt,by omega,by omega,?_⟩
  refine zah (fun (j:Nat) s=>s.sl 1 = zax xs∧s.sl 41 = zax xs∧s.sl 42 = int xs.length∧s.sl 43 = int i∧s.sl 8 = int (xs.getD i 0)∧s.sl 51 = zax (xs.drop (i + 1))∧s.sl 52 = int (xs.length - (i + 1):Nat)∧s.sl 53 = int j∧(j ≤ xs.length - (i + 1)∧∀ k,k < j→zfE .i64 (xs.getD i 0) (xs.getD (i + 1 + k) 0) ≠ xs.getD i 0)) (fun j=>xs.length - (i + 1) - j) (0) (by refine ⟨?_,?_,?_,?_,?_,?_,?_,?_,by simp⟩ <;> (first | (simp -dsimp only [gr,simprocAttr,h1b,h41b,h42b,h43b];first | done | rfl | (simp;done)) | assumption | rfl)) ?_
  intro j sc ⟨h1c,h41c,h42c,h43c,h8c,h51c,h52c,h53c,hIc⟩
  obtain ⟨hj,hinn⟩:=hIc
  have hd:∀ j,(xs.drop (i + 1)).getD j 0 = xs.getD (i + 1 + j) 0:=fun j=>by simp [List.getD]
  simp -dsimp only [↓gp,gq,simprocAttr,gT,h1c,h41c,h42c,h43c,h8c,h51c,h52c,h53c,hd,List.length_drop]
  refine ⟨fun h2=>⟨h2,h2,fun he=>?_,fun he=>zac (j + 1) ⟨(by (first | (simp -dsimp only [gr,simprocAttr,h1c,h41c,h42c,h43c,h8c,h51c,h52c,h53c,zaa h2 (by omega)];first | done | rfl | (simp;done)) | assumption | rfl)),(by (first | (simp -dsimp only [gr,simprocAttr,h1c,h41c,h42c,h43c,h8c,h51c,h52c,h53c,zaa h2 (by omega)];first | done | rfl | (simp;done)) | assumption | rfl)),(by (first | (simp -dsimp only [gr,simprocAttr,h1c,h41c,h42c,h43c,h8c,h51c,h52c,h53c,zaa h2 (by omega)];first | done | rfl | (simp;done)) | assumption | rfl)),(by (first | (simp -dsimp only [gr,simprocAttr,h1c,h41c,h42c,h43c,h8c,h51c,h52c,h53c,zaa h2 (by omega)];first | done | rfl | (simp;done)) | assumption | rfl)),(by (first | (simp -dsimp only [gr,simprocAttr,h1c,h41c,h42c,h43c,h8c,h51c,h52c,h53c,zaa h2 (by omega)];first | done | rfl | (simp;done)) | assumption | rfl)),(by (first | (simp -dsimp only [gr,simprocAttr,h1c,h41c,h42c,h43c,h8c,h51c,h52c,h53c,zaa h2 (by omega)];first | done | rfl | (simp;done)) | assumption | rfl)),(by (first | (simp -dsimp only [gr,simprocAttr,h1c,h41c,h42c,h43c,h8c,h51c,h52c,h53c,zaa h2 (by omega)];first | done | rfl | (simp;done)) | assumption | rfl)),(by (first | (simp -dsimp only [gr,simprocAttr,h1c,h41c,h42c,h43c,h8c,h51c,h52c,h53c,zaa h2 (by omega)];first | done | rfl | (simp;done)) | assumption | rfl)),⟨by omega,fun k hk=>?_⟩⟩ (by first | omega | (simp only;omega) | (dsimp only;omega) | (show _ < _;simp;omega))⟩,fun h2=>zac (i + 1) ⟨(by (first | (simp -dsimp only [gr,simprocAttr,h1b,h41b,h42b,h43b,h1c,h41c,h42c,h43c,h8c,h51c,h52c,h53c,hwi hlt];first | done | rfl | (simp;done)) | assumption | rfl)),(by (first | (simp -dsimp only [gr,simprocAttr,h1b,h41b,h42b,h43b,h1c,h41c,h42c,h43c,h8c,h51c,h52c,h53c,hwi hlt];first | done | rfl | (simp;done)) | assumption | rfl)),(by (first | (simp -dsimp only [gr,simprocAttr,h1b,h41b,h42b,h43b,h1c,h41c,h42c,h43c,h8c,h51c,h52c,h53c,hwi hlt];first | done | rfl | (simp;done)) | assumption | rfl)),(by (first | (simp -dsimp only [gr,simprocAttr,h1b,h41b,h42b,h43b,h1c,h41c,h42c,h43c,h8c,h51c,h52c,h53c,hwi hlt];first | done | rfl | (simp;done)) | assumption | rfl)),⟨by omega,fun j k hj' hk hk'=>?_⟩⟩ (by first | omega | (simp only;omega) | (dsimp only;omega) | (show _ < _;simp;omega))⟩
  ·refine zd1 fun hg=>(hg.2.2 (i + 1 + j) (by omega)).2.2 i (by omega) ((hsub i (i + 1 + j) hlt (by omega)).1 (by simpa using he))
  ·rcases Nat.lt_succ_iff_lt_or_eq.1 hk with hk | rfl
   ·exact hinn k hk
   ·intro e
    have:=(hsub i (i + 1 + k) hlt (by omega)).2 e
    rw [this] at he
    simp at he
  ·rcases Nat.lt_succ_iff_lt_or_eq.1 hj' with hj' | rfl
   ·exact hin j k hj' hk hk'
   ·have:=hinn (k - (j + 1)) (by omega)
    rwa [show j + 1 + (k - (j + 1)) = k by omega] at this
theorem zsK (a:Int):zmQ a a = false:=by unfold zmQ;simp
theorem zwR {a b c:Int} (h1:zmQ a b = true) (h2:zmQ b c = true):zmQ a c = true:=by
 unfold zmQ at *
 simp only [Bool.and_eq_true,decide_eq_true_eq] at *
 obtain ⟨ha,hb,h1⟩:=h1
 obtain ⟨_,hc,h2⟩:=h2
 refine ⟨ha,hc,?_⟩
 split at h1 <;> split at h2 <;> simp only [decide_eq_true_eq] at h1 h2
 ·rw [if_pos (by omega)];exact decide_eq_true (by omega)
 ·rw [if_neg (by omega)];exact decide_eq_true (by omega)
 ·rw [if_neg (by omega)];exact decide_eq_true (by omega)
 ·rw [if_neg (by omega)];exact decide_eq_true (by omega)
theorem zkh {n:Int} {xs:List Int} (h:cxP n xs):∀ (j i:Nat),i < j→j < xs.length→zmQ (xs.getD i 0) (xs.getD j 0) = true:=by
 intro j
 induction j with
 | zero=>intro i hi;omega
 | succ j ih =>
   intro i hi hj
   have h1:=(h.2.2 (j + 1) hj).2.1 (by omega)
   rw [Nat.add_sub_cancel] at h1
   rcases Nat.lt_succ_iff_lt_or_eq.1 hi with hi | rfl
   ·exact zwR (ih i hi (by omega)) h1
   ·exact h1
theorem zor {n:Int} {xs:List Int} (h:cxP n xs):xs.Nodup:=by
 refine List.pairwise_iff_getElem.2 fun i j hi hj hij e=>?_
 have:=zkh h j i hij hj
 rw [zcp 0 hi,zcp 0 hj,e,zsK] at this
 cases this
theorem zyb {n s:Int} (h:zcA n s = true):∃ m t:Nat,n = m∧s = t∧m ≤ 6∧t < 2 ^ m:=by
 unfold zcA at h
 have h:=of_decide_eq_true h
 obtain ⟨m,rfl⟩:=Int.eq_ofNat_of_zero_le h.1
 obtain ⟨t,rfl⟩:=Int.eq_ofNat_of_zero_le h.2.2.1
 refine ⟨m,t,rfl,rfl,by omega,?_⟩
 have:=h.2.2.2
 rw [zgI] at this
 omega
def okL (l:List Int):Prop:=∀ b ∈ l,0 ≤ b∧b < 64
theorem zc1 {s:Int} (h:0 ≤ s∧s < 64):zms s = (zat s.toNat:Nat):=by rw [zms,if_pos h]
theorem zEf {l:List Int} {p:Int→Bool} {k:Nat} (h:k < l.length) (hp:p (l.getD k 0) = false):l.all p = false:=by
 rw [List.all_eq_false];exact ⟨_,zaj 0 h,fun e=>by rw [hp] at e;cases e⟩
theorem zya {l:List Int} {p:Int→Bool} (h:∀ k,k < l.length→p (l.getD k 0) = true):l.all p = true:=by
 rw [List.all_eq_true];intro x hx
 obtain ⟨i,hi,rfl⟩:=zaR 0 hx
 exact h i hi
theorem zaq (n:Int) (xs:List Int):AC Tryz.prog 35 [.ag [int n,zax xs]] (.im (bool (zaL n xs))):=by
 refine AC.go (rs:=[.tmp 2]) zaD mixed Tryz.func35 rfl rfl rfl (by kernel_rfl) fun hl=>?_
 simp -dsimp only [↓gp,gq,simprocAttr,gT]
 refine zab (zg1 n xs) ?_
 simp -dsimp only [↓gp,gq,simprocAttr,gT]
def zMK (ps:List ByteArray):List Int:=ps.map fun p=>((zM7 p p.size:Nat):Int)
def chr (n:Nat):ByteArray:=⟨#[UInt8.ofNat (48 + n)]⟩
structure OkText (t:ByteArray) (n:Nat) (rest:ByteArray) (ps:List ByteArray):Prop where
 size:2 ≤ t.size∧t.size ≤ 1000
 pts:1 ≤ n∧n ≤ 6
 b0:byt t 0 = 48 + n
 b1:byt t 1 = 58
 tail:t.extract 2 t.size = rest
 rsize:rest.size ≤ 1000
 full:(rest.toList == (⟨#[]⟩:ByteArray).toList) = false
 parts:zFr rest 44 = ps
 plen:ps.length ≤ 1000
 pne:0 < ps.length
 sets:∀ p ∈ ps,OkSet p
 head:zFr t 58 = [chr n,rest]
 cx:cxP n (zMK ps)
def zwQ (r:Row) (ver:Nat) (Kp:PV→Prop):Prop:=r.ver = ver∧match r.kind with
 | .nil=>∃ bs:List Int,[] = bs.map (fun n=>PV.v (.int .u8 n))∧Kp (.v (.string (bs.foldl (fun r n=>r.push (UInt8.ofNat n.toNat)) ByteArray.empty)))
 | .sli _ sz _ c=>sz = 1∧∃ bs:List Int,c = bs.map (fun n=>PV.v (.int .u8 n))∧Kp (.v (.string (bs.foldl (fun r n=>r.push (UInt8.ofNat n.toNat)) ByteArray.empty)))
 | _=>False
theorem zjG (rw:Nat→Row) (j ver:Nat) {Kp:PV→Prop}:zgd T rw 31 9 (.own j ver) Kp = zwQ (rw j) ver Kp:=by
 have ha:(T 31).k = .sli 5:=zKM
 have hb:(T 9).k = .str:=T9k
 have he:(T 5).k = .int .u8:=T5k
 have s1:(T 31).size = 1:=zKN
 have s2:(T 9).size = 1:=T9s
 have s3:(T 5).size = 1:=T5s
 unfold zgd zwQ
 simp only [ha,hb,he,s1,s2,s3,slK]
 cases h:(rw j).kind <;> simp
theorem zx9 (ver e:Nat) (fz:Bool) (n:Int) {Kp:PV→Prop}:zwQ ⟨ver,.sli e 1 fz [.v (.int .u8 n)]⟩ ver Kp = Kp (.v (.string ([n].foldl (fun r n=>r.push (UInt8.ofNat n.toNat)) ByteArray.empty))):=by
 unfold zwQ
 simp only [true_and]
 refine propext ⟨fun ⟨bs,hb,h⟩=>?_,fun h=>⟨[n],rfl,h⟩⟩
 match bs,hb with
 | [m],hb=>simp at hb;subst hb;exact h
theorem zEe (n:Int):lit [.v (.int .u8 n)] = [.v (.int .u8 n)]:=rfl
theorem zeX (n m:Int) (xs ys:List Int):AC Tryz.prog 9 [.ag [int n,zax xs],.ag [int m,zax ys]] (.im (bool (zCF n xs m ys))):=by
 refine AC.go (rs:=[.tmp 4]) zaD mixed Tryz.func9 rfl rfl rfl (by kernel_rfl) fun hl=>?_
 simp -dsimp only [↓gp,gq,simprocAttr,gT]
 unfold zCF
 refine ⟨fun h=>?_,fun h=>zab (zot xs ys) ?_⟩
 ·simp at h
  simp [h]
 ·simp -dsimp only [↓gp,gq,simprocAttr,gT]
  simp at h
  exact ⟨fun h2=>by simpa [h] using h2,fun h2=>by simpa [h] using h2⟩
theorem zeW (k:Int) (xs:List Int) (n:Int) (h0:0 ≤ n) (h1:n ≤ 1048576):AC Tryz.prog 5 [.ag [int k,zax xs],int n] (.im (int (szI n xs.length))):=by
 refine AC.go (rs:=[.tmp 4]) zaD mixed Tryz.func5 rfl rfl rfl (by kernel_rfl) fun hl=>?_
 simp -dsimp only [↓gp,gq,simprocAttr,gT]
 refine zab (zov xs n h0 h1) ?_
 simp -dsimp only [↓gp,gq,simprocAttr,gT]
 have e:(if n - ↑xs.length < 0 then (-1:Int) else n - ↑xs.length) = szI n xs.length:=rfl
 simp only [e]
 refine ⟨fun h=>?_,fun _=>trivial⟩
 unfold szI at h ⊢
 split <;> omega
theorem zbo (n:Int) (xs:List Int) (hx:xs.length ≤ 1048576):AC Tryz.prog 7 [.ag [int n,zax xs]] (.ag [.im (int n),.fr 3 1 (iL xs)]):=by
 refine AC.go (rs:=[.cell 2 27]) zaD mixed Tryz.func7 rfl rfl rfl (by kernel_rfl) fun hl=>?_
 simp -dsimp only [↓gp,gq,simprocAttr,gT]
 refine zab (zou xs hx) ?_
 simp -dsimp only [↓gp,gq,simprocAttr,gT]
abbrev TC:TypeId:=87
theorem zbu (F s:Nat) (hF:F < 18446744073709551616) (hs:s < 64):AC Tryz.prog 148 [u64 F,int s] (.im (bool (F.testBit s))):=by
 refine AC.go (rs:=[.tmp 4]) zaD mixed Tryz.func148 rfl rfl rfl (by kernel_rfl) fun hl=>?_
 have hw:IntKind.u64.wrap (s:Int) = (s:Int):=zaV (by omega)
 simp -dsimp only [↓gp,gq,simprocAttr,gT,hw,zDh hF hs]
theorem zeN (F:Nat) (hF:F < 18446744073709551616):AC Tryz.prog 154 [u64 F] (.fr 3 1 (iL (ofN (zbb F.testBit)))):=by
 refine AC.go (rs:=[.tmp 2]) zaD mixed Tryz.func154 rfl rfl rfl (by kernel_rfl) fun hl=>?_
 simp -dsimp only [↓gp,gq,simprocAttr,gT]
 refine zah (fun (za:Nat × Nat) s=>match za with | (k,v)=>s.sl 0 = u64 F∧s.sl 3 = .own 3 v∧s.rw 3 = ⟨v,.sli 3 1 false (iL (ofN (zgW F.testBit k 0)))⟩∧s.sl 4 = int k∧(k ≤ 7)) (fun (k,v)=>7 - k) ((0,1)) (by refine ⟨?_,?_,?_,?_,by simp⟩ <;> (first | (simp -dsimp only [gr,simprocAttr];first | done | rfl | (simp;done)) | assumption | rfl)) ?_
 intro (k,v) sa ⟨h0a,h3a,r3a,h4a,hIa⟩
 simp -dsimp only [↓gp,gq,simprocAttr,gT,h0a,h3a,r3a,h4a]
 refine ⟨fun hk=>?_,fun hk=>?_⟩
 ·refine zah (fun (zb:Nat × Nat) s=>match zb with | (m,v)=>s.sl 0 = u64 F∧s.sl 3 = .own 3 v∧s.rw 3 = ⟨v,.sli 3 1 false (iL (ofN (zgW F.testBit k m)))⟩∧s.sl 4 = int k∧s.sl 5 = int m∧(m ≤ 64)) (fun (m,v)=>64 - m) ((0,v)) (by refine ⟨?_,?_,?_,?_,?_,by simp⟩ <;> (first | (simp -dsimp only [gr,simprocAttr,h0a,h3a,r3a,h4a];first | done | rfl | (simp;done)) | assumption | rfl)) ?_
  intro (m,v) sb ⟨h0b,h3b,r3b,h4b,h5b,hIb⟩
  simp -dsimp only [↓gp,gq,simprocAttr,gT,h0b,h3b,r3b,h4b,h5b]
  refine ⟨fun hm=>?_,fun hm=>?_⟩
  ·have hm:m < 64:=by omega
   refine zab (zbu F m hF hm) ?_
   simp -dsimp only [↓gp,gq,simprocAttr,gT,h0b,h3b,r3b,h4b,h5b]
   have hlen:=zo6 F.testBit k m
   have hz:zms (m:Int) = (zat m:Nat):=by rw [zms,if_pos (by omega)];simp
   refine ⟨fun hf=>zab (zaA _) ?_,fun hf=>?_⟩
   ·simp -dsimp only [↓gp,gq,simprocAttr,gT,h0b,h3b,r3b,h4b,h5b,hz]
    refine ⟨fun hp=>?_,fun hp=>?_⟩
    ·have hy:zgW F.testBit k (m + 1) = zgW F.testBit k m ++ [m]:=zwk (by rw [hf];simp at hp ⊢;omega)
     refine ⟨by rw [zad];omega,?_⟩
     exact zac ((m + 1,v + 1)) (by refine ⟨?_,?_,?_,?_,?_,by omega⟩ <;> (first | (simp -dsimp only [gr,simprocAttr,h0b,h3b,r3b,h4b,h5b,zaa hm (by omega),hy,zaS,zdE];first | done | rfl | (simp;done)) | assumption | rfl)) (by first | omega | (simp only;omega) | (dsimp only;omega) | (show _ < _;simp;omega))
    ·have hy:zgW F.testBit k (m + 1) = zgW F.testBit k m:=zo5 (by rw [hf];simp at hp ⊢;omega)
     exact zac ((m + 1,v)) (by refine ⟨?_,?_,?_,?_,?_,by omega⟩ <;> (first | (simp -dsimp only [gr,simprocAttr,h0b,h3b,r3b,h4b,h5b,zaa hm (by omega),hy];first | done | rfl | (simp;done)) | assumption | rfl)) (by first | omega | (simp only;omega) | (dsimp only;omega) | (show _ < _;simp;omega))
   ·have hy:zgW F.testBit k (m + 1) = zgW F.testBit k m:=zo5 (by rw [hf];rfl)
    exact zac ((m + 1,v)) (by refine ⟨?_,?_,?_,?_,?_,by omega⟩ <;> (first | (simp -dsimp only [gr,simprocAttr,h0b,h3b,r3b,h4b,h5b,zaa hm (by omega),hy];first | done | rfl | (simp;done)) | assumption | rfl)) (by first | omega | (simp only;omega) | (dsimp only;omega) | (show _ < _;simp;omega))
  ·have:m = 64:=by omega
   subst this
   have hk:k < 7:=by omega
   exact zac ((k + 1,v)) (by refine ⟨?_,?_,?_,?_,by omega⟩ <;> (first | (simp -dsimp only [gr,simprocAttr,h0a,h3a,r3a,h4a,h0b,h3b,r3b,h4b,h5b,zaa hk (by omega),zlF];first | done | rfl | (simp;done)) | assumption | rfl)) (by first | omega | (simp only;omega) | (dsimp only;omega) | (show _ < _;simp;omega))
 ·have:k = 7:=by omega
  subst this
  rw [zo4]
theorem zdI (n:Nat) (hn:n ≤ 6) (g:FuncId) (caps:List PV) (w:Nat→Bool) (hcap:∀ rw,caps.map (zcC rw 3) = caps) (hw:∀ s:Nat,s < 2 ^ n→AC Tryz.prog g (int s :: caps) (.im (bool (w s)))) :
 AC Tryz.prog 169 [int n,.clo g caps] (.im (u64 (zaB w (2 ^ n):Nat))):=by
 refine AC.go (rs:=[.tmp 4]) zaD mixed Tryz.func169 rfl rfl rfl (by kernel_rfl) fun hl=>?_
 have h64:=zcx hn
 have hsh:zip .i64 1 (n:Int) = ((2 ^ n:Nat):Int):=zbf hn
 have hun:IntKind.u64.wrap (n:Int) = (n:Int):=zaV (by omega)
 simp -dsimp only [↓gp,gq,simprocAttr,gT]
 refine zah (fun (k:Nat) s=>s.sl 0 = int n∧s.sl 1 = .clo g caps∧s.sl 5 = u64 (zaB w k:Nat)∧s.sl 6 = int k∧(k ≤ 2 ^ n)) (fun k=>2 ^ n - k) (0) (by refine ⟨?_,?_,?_,?_,by simp⟩ <;> (first | (simp -dsimp only [gr,simprocAttr];first | done | rfl | (simp;done)) | assumption | rfl)) ?_
 intro k sa ⟨h0a,h1a,h5a,h6a,hIa⟩
 have hlt:=zbk w k
 have h2k:(2:Nat) ^ k ≤ 2 ^ 64:=Nat.pow_le_pow_right (by omega) (by omega)
 simp -dsimp only [↓gp,gq,simprocAttr,gT,h0a,h1a,h5a,h6a,hun,hsh,hcap]
 refine ⟨fun hk=>zab (hw k hk) ?_,fun hk=>?_⟩
 ·have huk:IntKind.u64.wrap (k:Int) = (k:Int):=zaV (by omega)
  have h2s:(2:Nat) ^ k < 18446744073709551616:=by
   have:(2:Nat) ^ k < 2 ^ 64:=Nat.pow_lt_pow_right (by omega) (by omega)
   omega
  have hor:ior .u64 (zaB w k:Nat) (zip .u64 1 (k:Int)) = ((zaB w k ||| 2 ^ k:Nat):Int):=by
   rw [zwl (by omega),zDg (by omega) h2s]
  simp -dsimp only [↓gp,gq,simprocAttr,gT,h0a,h1a,h5a,h6a,hun,hsh,huk,hor]
  refine ⟨fun hf=>?_,fun hf=>?_⟩
  ·have hm:zaB w (k + 1) = zaB w k ||| 2 ^ k:=by rw [zaB,if_pos hf]
   exact zac (k + 1) (by refine ⟨?_,?_,?_,?_,by omega⟩ <;> (first | (simp -dsimp only [gr,simprocAttr,h0a,h1a,h5a,h6a,zaa hk (by omega),huk,hor,hm];first | done | rfl | (simp;done)) | assumption | rfl)) (by first | omega | (simp only;omega) | (dsimp only;omega) | (show _ < _;simp;omega))
  ·have hm:zaB w (k + 1) = zaB w k:=by rw [zaB,if_neg (by rw [hf];decide)]
   exact zac (k + 1) (by refine ⟨?_,?_,?_,?_,by omega⟩ <;> (first | (simp -dsimp only [gr,simprocAttr,h0a,h1a,h5a,h6a,zaa hk (by omega),hm];first | done | rfl | (simp;done)) | assumption | rfl)) (by first | omega | (simp only;omega) | (dsimp only;omega) | (show _ < _;simp;omega))
 ·have:k = 2 ^ n:=by omega
  rw [this]
theorem zwv {l:List Nat} {k:Nat} (h:k < l.length):l = l.take k ++ l.getD k 0 :: l.drop (k + 1):=by
 rw [← zAW 0 h,List.take_append_drop]
theorem zhR {l:List Nat} {p:Nat→Bool} {k:Nat} (h:k < l.length) (hp:p (l.getD k 0) = true):(l.take (k + 1)).filter p = (l.take k).filter p ++ [l.getD k 0]:=by
 rw [zau 0 h,List.filter_append];simp only [List.filter_cons,hp,if_true,List.filter_nil]
theorem zlU {l:List Nat} {p:Nat→Bool} {k:Nat} (h:k < l.length) (hp:p (l.getD k 0) = false):(l.take (k + 1)).filter p = (l.take k).filter p:=by
 rw [zau 0 h,List.filter_append];simp only [List.filter_cons,hp,Bool.false_eq_true,if_false,List.filter_nil,List.append_nil]
theorem zpm {l:List Nat} {p:Nat→Bool}:(l.filter p).length ≤ l.length:=List.length_filter_le _ _
theorem zjx (F:Nat) (hF:F < 18446744073709551616):AC Tryz.prog 168 [u64 F] (.fr 3 1 (iL (ofN (zd9 F.testBit false)))):=by
 refine AC.go (rs:=[.tmp 2]) zaD mixed Tryz.func168 rfl rfl rfl (by kernel_rfl) fun hl=>?_
 simp -dsimp only [↓gp,gq,simprocAttr,gT]
 refine zab (zeN F hF) ?_
 simp -dsimp only [↓gp,gq,simprocAttr,gT]
 have hfull:=zcJ F.testBit
 have hmem:∀ k,k < (zbb F.testBit).length→(zbb F.testBit).getD k 0 < 64:=fun k hk=>(zaU.1 (zaj 0 hk)).1
 have hsplit:∀ k,k < (zbb F.testBit).length→zbb F.testBit = (zbb F.testBit).take k ++ (zbb F.testBit).getD k 0 :: (zbb F.testBit).drop (k + 1):=fun k hk=>zwv hk
 have hmin:∀ k,k < (zbb F.testBit).length→((∃ t,t ∈ ((zbb F.testBit).take k).filter (zdw F.testBit false)∧t &&& (zbb F.testBit).getD k 0 = t) ↔ zdw F.testBit false ((zbb F.testBit).getD k 0) = false):=fun k hk=>zxD (hsplit k hk)
 unfold zd9
 generalize zbb F.testBit = all at *
 refine zah (fun (za:Nat × Nat × Nat) s=>match za with | (k,v,u)=>s.sl 3 = .own 3 v∧s.rw 3 = ⟨v,.sli 3 1 false (iL (ofN ((all.take k).filter (zdw F.testBit false))))⟩∧s.sl 10 = .own 10 u∧s.rw 10 = ⟨u,.sli 3 1 false (iL (ofN all))⟩∧s.sl 11 = int all.length∧s.sl 12 = int k∧(k ≤ all.length)) (fun (k,v,u)=>all.length - k) ((0,1,1)) (by refine ⟨?_,?_,?_,?_,?_,?_,by simp⟩ <;> (first | (simp -dsimp only [gr,simprocAttr,zad];first | done | rfl | (simp;done)) | assumption | rfl)) ?_
 intro (k,v,u) sa ⟨h3a,r3a,h10a,r10a,h11a,h12a,hIa⟩
 simp -dsimp only [↓gp,gq,simprocAttr,gT,h3a,r3a,h10a,r10a,h11a,h12a,zad]
 refine ⟨fun hk=>⟨hk,hk,?_⟩,fun hk=>?_⟩
 ·have hs:=hmem k hk
  have hge:(ofN all).getD k 0 = ((all.getD k 0:Nat):Int):=zaG hk
  generalize hout:(all.take k).filter (zdw F.testBit false) = out at *
  have hol:out.length ≤ k:=by rw [← hout];exact Nat.le_trans zpm (by simp;omega)
  have hom:∀ j,j < out.length→out.getD j 0 < 64:=fun j hj=>by
   have:out.getD j 0 ∈ out:=zaj 0 hj
   generalize out.getD j 0 = x at *
   rw [← hout] at this
   obtain ⟨i,hi,rfl⟩:=zaR 0 (List.mem_of_mem_take (List.mem_filter.1 this).1)
   exact hmem i hi
  refine zah (fun (j:Nat) s=>s.sl 3 = .own 3 v∧s.rw 3 = ⟨v,.sli 3 1 false (iL (ofN out))⟩∧s.sl 10 = .own 10 u∧s.rw 10 = ⟨u,.sli 3 1 false (iL (ofN all))⟩∧s.sl 11 = int all.length∧s.sl 12 = int k∧s.sl 5 = int (all.getD k 0:Nat)∧s.sl 6 = bool false∧s.sl 16 = .own 3 v∧s.sl 17 = int out.length∧s.sl 18 = int j∧(j ≤ out.length∧∀ i,i < j→out.getD i 0 &&& all.getD k 0 ≠ out.getD i 0)) (fun j=>out.length - j) (0) (by refine ⟨?_,?_,?_,?_,?_,?_,?_,?_,?_,?_,?_,by simp⟩ <;> (first | (simp -dsimp only [gr,simprocAttr,h3a,r3a,h10a,r10a,h11a,h12a,hge,zad];first | done | rfl | (simp;done)) | assumption | rfl)) ?_
  intro j sb ⟨h3b,r3b,h10b,r10b,h11b,h12b,h5b,h6b,h16b,h17b,h18b,hIb⟩
  obtain ⟨hj,hall⟩:=hIb
  simp -dsimp only [↓gp,gq,simprocAttr,gT,h3b,r3b,h10b,r10b,h11b,h12b,h5b,h6b,h16b,h17b,h18b,zad]
  have hoj:j < out.length→(ofN out).getD j 0 = ((out.getD j 0:Nat):Int):=fun h=>zaG h
  have hsub:j < out.length→(zco .i64 ((ofN out).getD j 0) ((all.getD k 0:Nat):Int) = 0 ↔ out.getD j 0 &&& all.getD k 0 = out.getD j 0):=fun h=>by
   have:=hom j h
   rw [hoj h,zbi (by omega) (by omega),← zb2]
   omega
  have hmk:=hmin k hk
  rw [hout] at hmk
  refine ⟨fun h2=>⟨h2,h2,fun he=>?_,fun he=>zac (j + 1) ⟨(by (first | (simp -dsimp only [gr,simprocAttr,h3b,r3b,h10b,r10b,h11b,h12b,h5b,h6b,h16b,h17b,h18b,zaa h2 (by omega)];first | done | rfl | (simp;done)) | assumption | rfl)),(by (first | (simp -dsimp only [gr,simprocAttr,h3b,r3b,h10b,r10b,h11b,h12b,h5b,h6b,h16b,h17b,h18b,zaa h2 (by omega)];first | done | rfl | (simp;done)) | assumption | rfl)),(by (first | (simp -dsimp only [gr,simprocAttr,h3b,r3b,h10b,r10b,h11b,h12b,h5b,h6b,h16b,h17b,h18b,zaa h2 (by omega)];first | done | rfl | (simp;done)) | assumption | rfl)),(by (first | (simp -dsimp only [gr,simprocAttr,h3b,r3b,h10b,r10b,h11b,h12b,h5b,h6b,h16b,h17b,h18b,zaa h2 (by omega)];first | done | rfl | (simp;done)) | assumption | rfl)),(by (first | (simp -dsimp only [gr,simprocAttr,h3b,r3b,h10b,r10b,h11b,h12b,h5b,h6b,h16b,h17b,h18b,zaa h2 (by omega)];first | done | rfl | (simp;done)) | assumption | rfl)),(by (first | (simp -dsimp only [gr,simprocAttr,h3b,r3b,h10b,r10b,h11b,h12b,h5b,h6b,h16b,h17b,h18b,zaa h2 (by omega)];first | done | rfl | (simp;done)) | assumption | rfl)),(by (first | (simp -dsimp only [gr,simprocAttr,h3b,r3b,h10b,r10b,h11b,h12b,h5b,h6b,h16b,h17b,h18b,zaa h2 (by omega)];first | done | rfl | (simp;done)) | assumption | rfl)),(by (first | (simp -dsimp only [gr,simprocAttr,h3b,r3b,h10b,r10b,h11b,h12b,h5b,h6b,h16b,h17b,h18b,zaa h2 (by omega)];first | done | rfl | (simp;done)) | assumption | rfl)),(by (first | (simp -dsimp only [gr,simprocAttr,h3b,r3b,h10b,r10b,h11b,h12b,h5b,h6b,h16b,h17b,h18b,zaa h2 (by omega)];first | done | rfl | (simp;done)) | assumption | rfl)),(by (first | (simp -dsimp only [gr,simprocAttr,h3b,r3b,h10b,r10b,h11b,h12b,h5b,h6b,h16b,h17b,h18b,zaa h2 (by omega)];first | done | rfl | (simp;done)) | assumption | rfl)),(by (first | (simp -dsimp only [gr,simprocAttr,h3b,r3b,h10b,r10b,h11b,h12b,h5b,h6b,h16b,h17b,h18b,zaa h2 (by omega)];first | done | rfl | (simp;done)) | assumption | rfl)),⟨by omega,fun i hi=>?_⟩⟩ (by first | omega | (simp only;omega) | (dsimp only;omega) | (show _ < _;simp;omega))⟩,fun h2=>⟨by omega,?_⟩⟩
  ·have hx:zdw F.testBit false (all.getD k 0) = false:=hmk.1 ⟨_,zaj 0 h2,(hsub h2).1 (beq_iff_eq.1 he)⟩
   have hno:(all.take (k + 1)).filter (zdw F.testBit false) = out:=by rw [zlU hk hx,hout]
   exact zac ((k + 1,v,u)) (by refine ⟨?_,?_,?_,?_,?_,?_,by omega⟩ <;> (first | (simp -dsimp only [gr,simprocAttr,h3a,r3a,h10a,r10a,h11a,h12a,h3b,r3b,h10b,r10b,h11b,h12b,h5b,h6b,h16b,h17b,h18b,zaa hk (by omega),hno];first | done | rfl | (simp;done)) | assumption | rfl)) (by first | omega | (simp only;omega) | (dsimp only;omega) | (show _ < _;simp;omega))
  ·rcases Nat.lt_succ_iff_lt_or_eq.1 hi with hi | rfl
   ·exact hall i hi
   ·intro e
    rw [(hsub h2).2 e] at he
    simp at he
  ·have hx:zdw F.testBit false (all.getD k 0) = true:=by
    cases hb:zdw F.testBit false (all.getD k 0) with
    | true=>rfl
    | false =>
      obtain ⟨t,ht,hts⟩:=hmk.2 hb
      obtain ⟨i,hi,rfl⟩:=zaR 0 ht
      exact absurd hts (hall i (by omega))
   have hyes:(all.take (k + 1)).filter (zdw F.testBit false) = out ++ [all.getD k 0]:=by rw [zhR hk hx,hout]
   exact zac ((k + 1,v + 1,u)) (by refine ⟨?_,?_,?_,?_,?_,?_,by omega⟩ <;> (first | (simp -dsimp only [gr,simprocAttr,h3a,r3a,h10a,r10a,h11a,h12a,h3b,r3b,h10b,r10b,h11b,h12b,h5b,h6b,h16b,h17b,h18b,zaa hk (by omega),hyes,zaS,zdE];first | done | rfl | (simp;done)) | assumption | rfl)) (by first | omega | (simp only;omega) | (dsimp only;omega) | (show _ < _;simp;omega))
 ·have:k = all.length:=by omega
  subst this
  rw [List.take_length]
noncomputable def inF (xs:List Int) (s:Nat):Bool:=decide ((s:Int) ∈ xs)
noncomputable def zep (xs:List Int) (k:Nat):List Bool:=(List.range 64).map fun s=>inF (xs.take k) s
theorem zeO (xs:List Int) (k:Nat):(zep xs k).length = 64:=by simp [zep]
theorem ztE (xs:List Int):List.replicate 64 false = zep xs 0:=by
 refine List.ext_getElem (by simp [zep]) fun j h1 h2=>?_
 rw [List.getElem_replicate]
 simp [zep,inF]
theorem zxK {xs:List Int} {k:Nat} (h:k < xs.length) (hx:0 ≤ xs.getD k 0∧xs.getD k 0 < 64):(zep xs k).set (xs.getD k 0).toNat true = zep xs (k + 1):=by
 refine List.ext_getElem (by simp [zep]) fun j h1 h2=>?_
 simp only [zep,List.getElem_set,List.getElem_map,List.getElem_range]
 have e:inF (xs.take (k + 1)) j = (inF (xs.take k) j || decide ((j:Int) = xs.getD k 0)):=by
  unfold inF
  rw [zau 0 h,← Bool.decide_or]
  exact decide_eq_decide.2 (by simp only [List.mem_append,List.mem_singleton])
 rw [e]
 by_cases hj:(xs.getD k 0).toNat = j
 ·rw [if_pos hj]
  have:(j:Int) = xs.getD k 0:=by omega
  simp only [this,decide_true,Bool.or_true]
 ·rw [if_neg hj]
  have:¬ (j:Int) = xs.getD k 0:=by omega
  simp only [this,decide_false,Bool.or_false]
theorem zd7 (xs:List Int) (hx:∀ x ∈ xs,0 ≤ x∧x < 64):AC Tryz.prog 139 [zax xs] (.fr 3 1 (iL (ofN (zbb (inF xs))))):=by
 refine AC.go (rs:=[.tmp 2]) zaD mixed Tryz.func139 rfl rfl rfl (by kernel_rfl) fun hl=>?_
 simp only [zaN,za4,and_true,zcD,zbI,true_and] at hl
 simp (maxSteps:=9^7) -dsimp only [↓gp,gq,reduceCtorEq,reduceEqDiff,reduceLT,reduceLeDiff,reduceAdd,reduceMul,reduceSub,Nat.reduceBEq,Int.reduceToNat,Int.reduceLE,Int.reduceLT,Int.reduceNeg,reduceMod,gT]
 refine ⟨by decide,?_⟩
 refine zah (fun (za:Nat × Nat) s=>match za with | (k,v)=>s.sl 0 = zax xs∧s.sl 3 = .own 8 v∧s.rw 8 = ⟨v,.sli 4 1 false (bL (zep xs k))⟩∧s.sl 4 = int k∧(k ≤ xs.length)) (fun (k,v)=>xs.length - k) ((0,1)) (by refine ⟨?_,?_,?_,?_,by simp⟩ <;> (first | (simp (maxSteps:=9^7) -dsimp only [gr,reduceEqDiff,reduceLT,reduceAdd,reduceMod,Nat.reduceBEq,zfm,ztE,Int.reduceToNat];first | done | rfl | (simp;done)) | assumption | rfl)) ?_
 intro (k,v) sa ⟨h0a,h3a,r8a,h4a,hIa⟩
 simp (maxSteps:=9^7) -dsimp only [↓gp,gq,reduceCtorEq,reduceEqDiff,reduceLT,reduceLeDiff,reduceAdd,reduceMul,reduceSub,Nat.reduceBEq,Int.reduceToNat,Int.reduceLE,Int.reduceLT,Int.reduceNeg,reduceMod,gT,h0a,h3a,r8a,h4a,zeO]
 refine ⟨fun hk=>?_,fun hk=>?_⟩
 ·have hx1:=hx _ (zaj 0 hk)
  refine ⟨hk,hk,by omega,by omega,by omega,?_⟩
  exact zac ((k + 1,v)) (by refine ⟨?_,?_,?_,?_,by omega⟩ <;> (first | (simp (maxSteps:=9^7) -dsimp only [gr,reduceEqDiff,reduceLT,reduceAdd,reduceMod,Nat.reduceBEq,h0a,h3a,r8a,h4a,zaa hk hl,zxK hk hx1];first | done | rfl | (simp;done)) | assumption | rfl)) (by first | omega | (simp only;omega) | (dsimp only;omega) | (show _ < _;simp;omega))
 ·have:k = xs.length:=by omega
  subst this
  have hall:∀ s,s < 64→(zep xs xs.length).getD s false = inF xs s:=fun s hs=>by
   rw [zcp false (by rw [zeO];exact hs)]
   simp [zep]
  have hrl:=zeO xs xs.length
  generalize zep xs xs.length = row at *
  refine zah (fun (zb:Nat × Nat × Nat) s=>match zb with | (k,v,u)=>s.sl 3 = .own 8 u∧s.rw 8 = ⟨u,.sli 4 1 false (bL row)⟩∧s.sl 5 = .own 21 v∧s.rw 21 = ⟨v,.sli 3 1 false (iL (ofN (zgW (inF xs) k 0)))⟩∧s.sl 6 = int k∧(k ≤ 7)) (fun (k,v,u)=>7 - k) ((0,(sa.rw 21).ver + 1,v)) (by refine ⟨?_,?_,?_,?_,?_,by simp⟩ <;> (first | (simp (maxSteps:=9^7) -dsimp only [gr,reduceEqDiff,reduceLT,reduceAdd,reduceMod,Nat.reduceBEq,h0a,h3a,r8a,h4a];first | done | rfl | (simp;done)) | assumption | rfl)) ?_
  intro (k,v,u) sb ⟨h3b,r8b,h5b,r21b,h6b,hIb⟩
  simp (maxSteps:=9^7) -dsimp only [↓gp,gq,reduceCtorEq,reduceEqDiff,reduceLT,reduceLeDiff,reduceAdd,reduceMul,reduceSub,Nat.reduceBEq,Int.reduceToNat,Int.reduceLE,Int.reduceLT,Int.reduceNeg,reduceMod,gT,h3b,r8b,h5b,r21b,h6b]
  refine ⟨fun hk=>?_,fun hk=>?_⟩
  ·refine zah (fun (zc:Nat × Nat) s=>match zc with | (m,v)=>s.sl 3 = .own 8 u∧s.rw 8 = ⟨u,.sli 4 1 false (bL row)⟩∧s.sl 5 = .own 21 v∧s.rw 21 = ⟨v,.sli 3 1 false (iL (ofN (zgW (inF xs) k m)))⟩∧s.sl 6 = int k∧s.sl 7 = int m∧(m ≤ 64)) (fun (m,v)=>64 - m) ((0,v)) (by refine ⟨?_,?_,?_,?_,?_,?_,by simp⟩ <;> (first | (simp (maxSteps:=9^7) -dsimp only [gr,reduceEqDiff,reduceLT,reduceAdd,reduceMod,Nat.reduceBEq,h3b,r8b,h5b,r21b,h6b];first | done | rfl | (simp;done)) | assumption | rfl)) ?_
   intro (m,v) sc ⟨h3c,r8c,h5c,r21c,h6c,h7c,hIc⟩
   simp (maxSteps:=9^7) -dsimp only [↓gp,gq,reduceCtorEq,reduceEqDiff,reduceLT,reduceLeDiff,reduceAdd,reduceMul,reduceSub,Nat.reduceBEq,Int.reduceToNat,Int.reduceLE,Int.reduceLT,Int.reduceNeg,reduceMod,gT,h3c,r8c,h5c,r21c,h6c,h7c,hrl]
   have hlen:=zo6 (inF xs) k m
   refine ⟨fun hm=>⟨by omega,by omega,?_⟩,fun hm=>?_⟩
   ·have hm:m < 64:=by omega
    rw [hall m hm]
    refine ⟨fun hf=>zab (zcc (by omega) (by omega)) ?_,fun hf=>?_⟩
    ·simp (maxSteps:=9^7) -dsimp only [↓gp,gq,reduceCtorEq,reduceEqDiff,reduceLT,reduceLeDiff,reduceAdd,reduceMul,reduceSub,Nat.reduceBEq,Int.reduceToNat,Int.reduceLE,Int.reduceLT,Int.reduceNeg,reduceMod,gT,h3c,r8c,h5c,r21c,h6c,h7c,Int.toNat_natCast]
     refine ⟨fun hp=>?_,fun hp=>?_⟩
     ·have hy:zgW (inF xs) k (m + 1) = zgW (inF xs) k m ++ [m]:=zwk (by rw [hf];simp at hp ⊢;omega)
      refine ⟨by rw [zad];omega,?_⟩
      exact zac ((m + 1,v + 1)) (by refine ⟨?_,?_,?_,?_,?_,?_,by omega⟩ <;> (first | (simp (maxSteps:=9^7) -dsimp only [gr,reduceEqDiff,reduceLT,reduceAdd,reduceMod,Nat.reduceBEq,h3c,r8c,h5c,r21c,h6c,h7c,zaa hm (by omega),hy,zaS,zdE];first | done | rfl | (simp;done)) | assumption | rfl)) (by first | omega | (simp only;omega) | (dsimp only;omega) | (show _ < _;simp;omega))
     ·have hy:zgW (inF xs) k (m + 1) = zgW (inF xs) k m:=zo5 (by rw [hf];simp at hp ⊢;omega)
      exact zac ((m + 1,v)) (by refine ⟨?_,?_,?_,?_,?_,?_,by omega⟩ <;> (first | (simp (maxSteps:=9^7) -dsimp only [gr,reduceEqDiff,reduceLT,reduceAdd,reduceMod,Nat.reduceBEq,h3c,r8c,h5c,r21c,h6c,h7c,zaa hm (by omega),hy];first | done | rfl | (simp;done)) | assumption | rfl)) (by first | omega | (simp only;omega) | (dsimp only;omega) | (show _ < _;simp;omega))
    ·have hy:zgW (inF xs) k (m + 1) = zgW (inF xs) k m:=zo5 (by rw [hf];rfl)
     exact zac ((m + 1,v)) (by refine ⟨?_,?_,?_,?_,?_,?_,by omega⟩ <;> (first | (simp (maxSteps:=9^7) -dsimp only [gr,reduceEqDiff,reduceLT,reduceAdd,reduceMod,Nat.reduceBEq,h3c,r8c,h5c,r21c,h6c,h7c,zaa hm (by omega),hy];first | done | rfl | (simp;done)) | assumption | rfl)) (by first | omega | (simp only;omega) | (dsimp only;omega) | (show _ < _;simp;omega))
   ·have:m = 64:=by omega
    subst this
    have hk:k < 7:=by omega
    exact zac ((k + 1,v,u)) (by refine ⟨?_,?_,?_,?_,?_,by omega⟩ <;> (first | (simp (maxSteps:=9^7) -dsimp only [gr,reduceEqDiff,reduceLT,reduceAdd,reduceMod,Nat.reduceBEq,h3b,r8b,h5b,r21b,h6b,h3c,r8c,h5c,r21c,h6c,h7c,zaa hk (by omega),zlF];first | done | rfl | (simp;done)) | assumption | rfl)) (by first | omega | (simp only;omega) | (dsimp only;omega) | (show _ < _;simp;omega))
  ·have:k = 7:=by omega
   subst this
   rw [zo4]
theorem ze9 (g:Bool) (xs:List Int) (hx:∀ x ∈ xs,0 ≤ x∧x < 64):AC Tryz.prog 122 [zax xs,bool g] (.fr 3 1 (iL (ofN (zd9 (inF xs) g)))):=by
 refine AC.go (rs:=[.tmp 4]) zaD mixed Tryz.func122 rfl rfl rfl (by kernel_rfl) fun hl=>?_
 simp only [zaN,za4,and_true,zcD,zbI,true_and] at hl
 simp -dsimp only [↓gp,gq,simprocAttr,gT]
 refine zab (zd7 xs hx) ?_
 simp -dsimp only [↓gp,gq,simprocAttr,gT]
 have hfull:=zcJ (inF xs)
 have hmemf:∀ t,t ∈ zbb (inF xs) ↔ t < 64∧inF xs t = true:=fun t=>zaU
 unfold zd9
 have hext:∀ s,s < 64→(zdw (inF xs) g s = true ↔ ∀ t,t ∈ zbb (inF xs)→(if g = true then s &&& t = s else t &&& s = t)→t = s):=fun s hs=>by
  cases g with
  | true=>rw [zdb];simp only [if_true];exact ⟨fun h t ht=>h t ((hmemf t).1 ht).1 ((hmemf t).1 ht).2,fun h t h1 h2=>h t ((hmemf t).2 ⟨h1,h2⟩)⟩
  | false=>rw [zj4];simp only [Bool.false_eq_true,if_false];exact ⟨fun h t ht=>h t ((hmemf t).1 ht).1 ((hmemf t).1 ht).2,fun h t h1 h2=>h t ((hmemf t).2 ⟨h1,h2⟩)⟩
 generalize zbb (inF xs) = all at *
 have hmem:∀ k,k < all.length→all.getD k 0 < 64:=fun k hk=>((hmemf _).1 (zaj 0 hk)).1
 refine zah (fun (za:Nat × Nat × Nat) s=>match za with | (k,v,u)=>s.sl 1 = bool g∧s.sl 5 = .own 13 u∧s.rw 13 = ⟨u,.sli 3 1 false (iL (ofN all))⟩∧s.sl 6 = .own 14 v∧s.rw 14 = ⟨v,.sli 3 1 false (iL (ofN ((all.take k).filter (zdw (inF xs) g))))⟩∧s.sl 7 = int k∧(k ≤ all.length)) (fun (k,v,u)=>all.length - k) ((0,1,1)) (by refine ⟨?_,?_,?_,?_,?_,?_,by simp⟩ <;> (first | (simp -dsimp only [gr,simprocAttr];first | done | rfl | (simp;done)) | assumption | rfl)) ?_
 intro (k,v,u) sa ⟨h1a,h5a,r13a,h6a,r14a,h7a,hIa⟩
 simp -dsimp only [↓gp,gq,simprocAttr,gT,h1a,h5a,r13a,h6a,r14a,h7a,zad]
 have hol:((all.take k).filter (zdw (inF xs) g)).length ≤ k:=Nat.le_trans zpm (by simp;omega)
 refine ⟨fun hk=>?_,fun hk=>?_⟩
 ·have hs:=hmem k hk
  refine zah (fun (zb:Nat × Bool) s=>match zb with | (j,fine)=>s.sl 1 = bool g∧s.sl 5 = .own 13 u∧s.rw 13 = ⟨u,.sli 3 1 false (iL (ofN all))⟩∧s.sl 6 = .own 14 v∧s.rw 14 = ⟨v,.sli 3 1 false (iL (ofN ((all.take k).filter (zdw (inF xs) g))))⟩∧s.sl 7 = int k∧s.sl 8 = bool fine∧s.sl 9 = int j∧(j ≤ all.length∧(fine = true ↔ ∀ i,i < j→(if g = true then all.getD k 0 &&& all.getD i 0 = all.getD k 0 else all.getD i 0 &&& all.getD k 0 = all.getD i 0)→all.getD i 0 = all.getD k 0))) (fun (j,fine)=>all.length - j) ((0,true)) (by refine ⟨?_,?_,?_,?_,?_,?_,?_,?_,by simp⟩ <;> (first | (simp -dsimp only [gr,simprocAttr,h1a,h5a,r13a,h6a,r14a,h7a];first | done | rfl | (simp;done)) | assumption | rfl)) ?_
  intro (j,fine) sb ⟨h1b,h5b,r13b,h6b,r14b,h7b,h8b,h9b,hIb⟩
  obtain ⟨hj,hfine⟩:=hIb
  have ek:(ofN all).getD k 0 = ((all.getD k 0:Nat):Int):=zaG hk
  have ej:j < all.length→(ofN all).getD j 0 = ((all.getD j 0:Nat):Int):=fun h=>zaG h
  have eand:j < all.length→zfE .i64 ((ofN all).getD k 0) ((ofN all).getD j 0) = ((all.getD k 0 &&& all.getD j 0:Nat):Int):=fun h=>by
   have:=hmem j h
   rw [ek,ej h,zbc (by omega) (by omega)]
  have hend:j = all.length→(fine = true ↔ zdw (inF xs) g (all.getD k 0) = true):=fun h=>by
   rw [hfine,hext _ hs]
   exact ⟨fun h2 t ht=>by obtain ⟨i,hi,rfl⟩:=zaR 0 ht;exact h2 i (by omega),fun h2 i hi=>h2 _ (zaj 0 (by omega))⟩
  have hend2:j = all.length→fine = false→zdw (inF xs) g (all.getD k 0) = false:=fun h hf=>by
   cases hb:zdw (inF xs) g (all.getD k 0) with
   | false=>rfl
   | true=>rw [(hend h).2 hb] at hf;cases hf
  have pfT:(if g = true then all.getD k 0 &&& all.getD j 0 = all.getD k 0 else all.getD j 0 &&& all.getD k 0 = all.getD j 0)→all.getD j 0 ≠ all.getD k 0→(false = true ↔ ∀ i,i < j + 1→(if g = true then all.getD k 0 &&& all.getD i 0 = all.getD k 0 else all.getD i 0 &&& all.getD k 0 = all.getD i 0)→all.getD i 0 = all.getD k 0):=fun hr hne =>
   ⟨fun h=>(by cases h),fun h=>absurd (h j (by omega) hr) hne⟩
  have pfF:(¬ (if g = true then all.getD k 0 &&& all.getD j 0 = all.getD k 0 else all.getD j 0 &&& all.getD k 0 = all.getD j 0) ∨ all.getD j 0 = all.getD k 0)→(fine = true ↔ ∀ i,i < j + 1→(if g = true then all.getD k 0 &&& all.getD i 0 = all.getD k 0 else all.getD i 0 &&& all.getD k 0 = all.getD i 0)→all.getD i 0 = all.getD k 0):=fun hr=>by
   rw [hfine]
   constructor
   ·intro h i hi
    rcases Nat.lt_succ_iff_lt_or_eq.1 hi with hi | rfl
    ·exact h i hi
    ·exact fun h2=>hr.elim (fun h3=>absurd h2 h3) id
   ·intro h i hi;exact h i (by omega)
  cases g with
  | true =>
    simp -dsimp only [↓gp,gq,simprocAttr,gT,h1b,h5b,r13b,h6b,r14b,h7b,h8b,h9b,zad]
    refine ⟨fun h2=>⟨hk,hk,h2,h2,fun hne=>⟨fun he=>zac ((j + 1,fine)) ⟨(by (first | (simp -dsimp only [gr,simprocAttr,h1b,h5b,r13b,h6b,r14b,h7b,h8b,h9b,zaa h2 (by omega)];first | done | rfl | (simp;done)) | assumption | rfl)),(by (first | (simp -dsimp only [gr,simprocAttr,h1b,h5b,r13b,h6b,r14b,h7b,h8b,h9b,zaa h2 (by omega)];first | done | rfl | (simp;done)) | assumption | rfl)),(by (first | (simp -dsimp only [gr,simprocAttr,h1b,h5b,r13b,h6b,r14b,h7b,h8b,h9b,zaa h2 (by omega)];first | done | rfl | (simp;done)) | assumption | rfl)),(by (first | (simp -dsimp only [gr,simprocAttr,h1b,h5b,r13b,h6b,r14b,h7b,h8b,h9b,zaa h2 (by omega)];first | done | rfl | (simp;done)) | assumption | rfl)),(by (first | (simp -dsimp only [gr,simprocAttr,h1b,h5b,r13b,h6b,r14b,h7b,h8b,h9b,zaa h2 (by omega)];first | done | rfl | (simp;done)) | assumption | rfl)),(by (first | (simp -dsimp only [gr,simprocAttr,h1b,h5b,r13b,h6b,r14b,h7b,h8b,h9b,zaa h2 (by omega)];first | done | rfl | (simp;done)) | assumption | rfl)),(by (first | (simp -dsimp only [gr,simprocAttr,h1b,h5b,r13b,h6b,r14b,h7b,h8b,h9b,zaa h2 (by omega)];first | done | rfl | (simp;done)) | assumption | rfl)),(by (first | (simp -dsimp only [gr,simprocAttr,h1b,h5b,r13b,h6b,r14b,h7b,h8b,h9b,zaa h2 (by omega)];first | done | rfl | (simp;done)) | assumption | rfl)),⟨by omega,pfF (.inl ?_)⟩⟩ (by first | omega | (simp only;omega) | (dsimp only;omega) | (show _ < _;simp;omega)),fun he=>zac ((j + 1,false)) ⟨(by (first | (simp -dsimp only [gr,simprocAttr,h1b,h5b,r13b,h6b,r14b,h7b,h8b,h9b,zaa h2 (by omega)];first | done | rfl | (simp;done)) | assumption | rfl)),(by (first | (simp -dsimp only [gr,simprocAttr,h1b,h5b,r13b,h6b,r14b,h7b,h8b,h9b,zaa h2 (by omega)];first | done | rfl | (simp;done)) | assumption | rfl)),(by (first | (simp -dsimp only [gr,simprocAttr,h1b,h5b,r13b,h6b,r14b,h7b,h8b,h9b,zaa h2 (by omega)];first | done | rfl | (simp;done)) | assumption | rfl)),(by (first | (simp -dsimp only [gr,simprocAttr,h1b,h5b,r13b,h6b,r14b,h7b,h8b,h9b,zaa h2 (by omega)];first | done | rfl | (simp;done)) | assumption | rfl)),(by (first | (simp -dsimp only [gr,simprocAttr,h1b,h5b,r13b,h6b,r14b,h7b,h8b,h9b,zaa h2 (by omega)];first | done | rfl | (simp;done)) | assumption | rfl)),(by (first | (simp -dsimp only [gr,simprocAttr,h1b,h5b,r13b,h6b,r14b,h7b,h8b,h9b,zaa h2 (by omega)];first | done | rfl | (simp;done)) | assumption | rfl)),(by (first | (simp -dsimp only [gr,simprocAttr,h1b,h5b,r13b,h6b,r14b,h7b,h8b,h9b,zaa h2 (by omega)];first | done | rfl | (simp;done)) | assumption | rfl)),(by (first | (simp -dsimp only [gr,simprocAttr,h1b,h5b,r13b,h6b,r14b,h7b,h8b,h9b,zaa h2 (by omega)];first | done | rfl | (simp;done)) | assumption | rfl)),⟨by omega,pfT ?_ ?_⟩⟩ (by first | omega | (simp only;omega) | (dsimp only;omega) | (show _ < _;simp;omega))⟩,fun hne=>zac ((j + 1,fine)) ⟨(by (first | (simp -dsimp only [gr,simprocAttr,h1b,h5b,r13b,h6b,r14b,h7b,h8b,h9b,zaa h2 (by omega)];first | done | rfl | (simp;done)) | assumption | rfl)),(by (first | (simp -dsimp only [gr,simprocAttr,h1b,h5b,r13b,h6b,r14b,h7b,h8b,h9b,zaa h2 (by omega)];first | done | rfl | (simp;done)) | assumption | rfl)),(by (first | (simp -dsimp only [gr,simprocAttr,h1b,h5b,r13b,h6b,r14b,h7b,h8b,h9b,zaa h2 (by omega)];first | done | rfl | (simp;done)) | assumption | rfl)),(by (first | (simp -dsimp only [gr,simprocAttr,h1b,h5b,r13b,h6b,r14b,h7b,h8b,h9b,zaa h2 (by omega)];first | done | rfl | (simp;done)) | assumption | rfl)),(by (first | (simp -dsimp only [gr,simprocAttr,h1b,h5b,r13b,h6b,r14b,h7b,h8b,h9b,zaa h2 (by omega)];first | done | rfl | (simp;done)) | assumption | rfl)),(by (first | (simp -dsimp only [gr,simprocAttr,h1b,h5b,r13b,h6b,r14b,h7b,h8b,h9b,zaa h2 (by omega)];first | done | rfl | (simp;done)) | assumption | rfl)),(by (first | (simp -dsimp only [gr,simprocAttr,h1b,h5b,r13b,h6b,r14b,h7b,h8b,h9b,zaa h2 (by omega)];first | done | rfl | (simp;done)) | assumption | rfl)),(by (first | (simp -dsimp only [gr,simprocAttr,h1b,h5b,r13b,h6b,r14b,h7b,h8b,h9b,zaa h2 (by omega)];first | done | rfl | (simp;done)) | assumption | rfl)),⟨by omega,pfF (.inr ?_)⟩⟩ (by first | omega | (simp only;omega) | (dsimp only;omega) | (show _ < _;simp;omega))⟩,fun h2=>?_⟩
    ·rw [eand h2,ek] at he
     simp only [if_true]
     intro e;rw [e] at he;simp at he
    ·rw [eand h2,ek] at he
     have:=beq_iff_eq.1 he
     simp only [if_true];omega
    ·rw [ek,ej h2] at hne
     intro e;rw [e] at hne;simp at hne
    ·rw [ek,ej h2] at hne
     have:=bne_eq_false_iff_eq.1 hne
     omega
    ·refine ⟨fun hf=>⟨hk,hk,by omega,?_⟩,fun hf=>?_⟩
     ·have hx:=(hend (by omega)).1 hf
      exact zac ((k + 1,v + 1,u)) (by refine ⟨?_,?_,?_,?_,?_,?_,by omega⟩ <;> (first | (simp -dsimp only [gr,simprocAttr,h1a,h5a,r13a,h6a,r14a,h7a,h1b,h5b,r13b,h6b,r14b,h7b,h8b,h9b,zaa hk (by omega),zhR hk hx,zaS,zdE,ek];first | done | rfl | (simp;done)) | assumption | rfl)) (by first | omega | (simp only;omega) | (dsimp only;omega) | (show _ < _;simp;omega))
     ·have hx:=hend2 (by omega) hf
      exact zac ((k + 1,v,u)) (by refine ⟨?_,?_,?_,?_,?_,?_,by omega⟩ <;> (first | (simp -dsimp only [gr,simprocAttr,h1a,h5a,r13a,h6a,r14a,h7a,h1b,h5b,r13b,h6b,r14b,h7b,h8b,h9b,zaa hk (by omega),zlU hk hx];first | done | rfl | (simp;done)) | assumption | rfl)) (by first | omega | (simp only;omega) | (dsimp only;omega) | (show _ < _;simp;omega))
  | false =>
    simp -dsimp only [↓gp,gq,simprocAttr,gT,h1b,h5b,r13b,h6b,r14b,h7b,h8b,h9b,zad]
    refine ⟨fun h2=>⟨hk,hk,h2,h2,fun hne=>⟨fun he=>zac ((j + 1,false)) ⟨(by (first | (simp -dsimp only [gr,simprocAttr,h1b,h5b,r13b,h6b,r14b,h7b,h8b,h9b,zaa h2 (by omega)];first | done | rfl | (simp;done)) | assumption | rfl)),(by (first | (simp -dsimp only [gr,simprocAttr,h1b,h5b,r13b,h6b,r14b,h7b,h8b,h9b,zaa h2 (by omega)];first | done | rfl | (simp;done)) | assumption | rfl)),(by (first | (simp -dsimp only [gr,simprocAttr,h1b,h5b,r13b,h6b,r14b,h7b,h8b,h9b,zaa h2 (by omega)];first | done | rfl | (simp;done)) | assumption | rfl)),(by (first | (simp -dsimp only [gr,simprocAttr,h1b,h5b,r13b,h6b,r14b,h7b,h8b,h9b,zaa h2 (by omega)];first | done | rfl | (simp;done)) | assumption | rfl)),(by (first | (simp -dsimp only [gr,simprocAttr,h1b,h5b,r13b,h6b,r14b,h7b,h8b,h9b,zaa h2 (by omega)];first | done | rfl | (simp;done)) | assumption | rfl)),(by (first | (simp -dsimp only [gr,simprocAttr,h1b,h5b,r13b,h6b,r14b,h7b,h8b,h9b,zaa h2 (by omega)];first | done | rfl | (simp;done)) | assumption | rfl)),(by (first | (simp -dsimp only [gr,simprocAttr,h1b,h5b,r13b,h6b,r14b,h7b,h8b,h9b,zaa h2 (by omega)];first | done | rfl | (simp;done)) | assumption | rfl)),(by (first | (simp -dsimp only [gr,simprocAttr,h1b,h5b,r13b,h6b,r14b,h7b,h8b,h9b,zaa h2 (by omega)];first | done | rfl | (simp;done)) | assumption | rfl)),⟨by omega,pfT ?_ ?_⟩⟩ (by first | omega | (simp only;omega) | (dsimp only;omega) | (show _ < _;simp;omega)),fun he=>zac ((j + 1,fine)) ⟨(by (first | (simp -dsimp only [gr,simprocAttr,h1b,h5b,r13b,h6b,r14b,h7b,h8b,h9b,zaa h2 (by omega)];first | done | rfl | (simp;done)) | assumption | rfl)),(by (first | (simp -dsimp only [gr,simprocAttr,h1b,h5b,r13b,h6b,r14b,h7b,h8b,h9b,zaa h2 (by omega)];first | done | rfl | (simp;done)) | assumption | rfl)),(by (first | (simp -dsimp only [gr,simprocAttr,h1b,h5b,r13b,h6b,r14b,h7b,h8b,h9b,zaa h2 (by omega)];first | done | rfl | (simp;done)) | assumption | rfl)),(by (first | (simp -dsimp only [gr,simprocAttr,h1b,h5b,r13b,h6b,r14b,h7b,h8b,h9b,zaa h2 (by omega)];first | done | rfl | (simp;done)) | assumption | rfl)),(by (first | (simp -dsimp only [gr,simprocAttr,h1b,h5b,r13b,h6b,r14b,h7b,h8b,h9b,zaa h2 (by omega)];first | done | rfl | (simp;done)) | assumption | rfl)),(by (first | (simp -dsimp only [gr,simprocAttr,h1b,h5b,r13b,h6b,r14b,h7b,h8b,h9b,zaa h2 (by omega)];first | done | rfl | (simp;done)) | assumption | rfl)),(by (first | (simp -dsimp only [gr,simprocAttr,h1b,h5b,r13b,h6b,r14b,h7b,h8b,h9b,zaa h2 (by omega)];first | done | rfl | (simp;done)) | assumption | rfl)),(by (first | (simp -dsimp only [gr,simprocAttr,h1b,h5b,r13b,h6b,r14b,h7b,h8b,h9b,zaa h2 (by omega)];first | done | rfl | (simp;done)) | assumption | rfl)),⟨by omega,pfF (.inl ?_)⟩⟩ (by first | omega | (simp only;omega) | (dsimp only;omega) | (show _ < _;simp;omega))⟩,fun hne=>zac ((j + 1,fine)) ⟨(by (first | (simp -dsimp only [gr,simprocAttr,h1b,h5b,r13b,h6b,r14b,h7b,h8b,h9b,zaa h2 (by omega)];first | done | rfl | (simp;done)) | assumption | rfl)),(by (first | (simp -dsimp only [gr,simprocAttr,h1b,h5b,r13b,h6b,r14b,h7b,h8b,h9b,zaa h2 (by omega)];first | done | rfl | (simp;done)) | assumption | rfl)),(by (first | (simp -dsimp only [gr,simprocAttr,h1b,h5b,r13b,h6b,r14b,h7b,h8b,h9b,zaa h2 (by omega)];first | done | rfl | (simp;done)) | assumption | rfl)),(by (first | (simp -dsimp only [gr,simprocAttr,h1b,h5b,r13b,h6b,r14b,h7b,h8b,h9b,zaa h2 (by omega)];first | done | rfl | (simp;done)) | assumption | rfl)),(by (first | (simp -dsimp only [gr,simprocAttr,h1b,h5b,r13b,h6b,r14b,h7b,h8b,h9b,zaa h2 (by omega)];first | done | rfl | (simp;done)) | assumption | rfl)),(by (first | (simp -dsimp only [gr,simprocAttr,h1b,h5b,r13b,h6b,r14b,h7b,h8b,h9b,zaa h2 (by omega)];first | done | rfl | (simp;done)) | assumption | rfl)),(by (first | (simp -dsimp only [gr,simprocAttr,h1b,h5b,r13b,h6b,r14b,h7b,h8b,h9b,zaa h2 (by omega)];first | done | rfl | (simp;done)) | assumption | rfl)),(by (first | (simp -dsimp only [gr,simprocAttr,h1b,h5b,r13b,h6b,r14b,h7b,h8b,h9b,zaa h2 (by omega)];first | done | rfl | (simp;done)) | assumption | rfl)),⟨by omega,pfF (.inr ?_)⟩⟩ (by first | omega | (simp only;omega) | (dsimp only;omega) | (show _ < _;simp;omega))⟩,fun h2=>?_⟩
    ·rw [eand h2,ej h2] at he
     have:=beq_iff_eq.1 he
     simp only [Bool.false_eq_true,if_false];rw [Nat.and_comm];omega
    ·rw [ek,ej h2] at hne
     intro e;rw [e] at hne;simp at hne
    ·rw [eand h2,ej h2] at he
     simp only [Bool.false_eq_true,if_false]
     intro e;rw [Nat.and_comm] at e;rw [e] at he;simp at he
    ·rw [ek,ej h2] at hne
     have:=bne_eq_false_iff_eq.1 hne
     omega
    ·refine ⟨fun hf=>⟨hk,hk,by omega,?_⟩,fun hf=>?_⟩
     ·have hx:=(hend (by omega)).1 hf
      exact zac ((k + 1,v + 1,u)) (by refine ⟨?_,?_,?_,?_,?_,?_,by omega⟩ <;> (first | (simp -dsimp only [gr,simprocAttr,h1a,h5a,r13a,h6a,r14a,h7a,h1b,h5b,r13b,h6b,r14b,h7b,h8b,h9b,zaa hk (by omega),zhR hk hx,zaS,zdE,ek];first | done | rfl | (simp;done)) | assumption | rfl)) (by first | omega | (simp only;omega) | (dsimp only;omega) | (show _ < _;simp;omega))
     ·have hx:=hend2 (by omega) hf
      exact zac ((k + 1,v,u)) (by refine ⟨?_,?_,?_,?_,?_,?_,by omega⟩ <;> (first | (simp -dsimp only [gr,simprocAttr,h1a,h5a,r13a,h6a,r14a,h7a,h1b,h5b,r13b,h6b,r14b,h7b,h8b,h9b,zaa hk (by omega),zlU hk hx];first | done | rfl | (simp;done)) | assumption | rfl)) (by first | omega | (simp only;omega) | (dsimp only;omega) | (show _ < _;simp;omega))
 ·have:k = all.length:=by omega
  subst this
  rw [List.take_length]
theorem zsj (w:Nat→Bool) {n:Nat} (hn:n ≤ 6):zaB w (2 ^ n) < 18446744073709551616:=by
 have h1:=zbk w (2 ^ n)
 have h2:=zcx hn
 have h3:2 ^ (2 ^ n) ≤ 2 ^ 64:=Nat.pow_le_pow_right (by omega) h2
 omega
def okS (xs:List Int):Prop:=∀ x ∈ xs,0 ≤ x∧x < 64
theorem zsh {xs:List Int} (h:okS xs) {k:Nat} (hk:k < xs.length):0 ≤ xs.getD k 0∧xs.getD k 0 < 64:=h _ (zaj 0 hk)
theorem zb4 {n:Int} {xs:List Int} (h:zaL n xs = true):okS xs:=fun x hx=>by
 obtain ⟨i,hi,rfl⟩:=zaR 0 hx
 exact zeH ((zaP.1 h).2.2 i hi).1
theorem zsi {x:Int} (hx:0 ≤ x∧x < 64) {s:Nat} (hs:s < 64):(zfE .i64 x (s:Int) == (s:Int)) = (x.toNat &&& s == s):=by
 have e:x = ((x.toNat:Nat):Int):=by omega
 rw [e,zbc (by omega) (by omega)]
 have:((x.toNat:Nat):Int).toNat = x.toNat:=by omega
 rw [this]
 cases h:(x.toNat &&& s == s) with
 | true=>rw [beq_iff_eq] at h;rw [h];simp
 | false =>
   have h:=beq_eq_false_iff_ne.1 h
   rw [beq_eq_false_iff_ne]
   exact fun e=>h (by omega)
theorem zdd (n:Int) (xs:List Int) (u:Nat) (hx:okS xs) (hs:u < 64):AC Tryz.prog 121 [.ag [int n,zax xs],int u] (.im (bool (zag xs u))):=by
 refine AC.go (rs:=[.tmp 4]) zaD mixed Tryz.func121 rfl rfl rfl (by kernel_rfl) fun hl=>?_
 simp only [zaN,za4,and_true,zbZ,zdx,zcE,zcD,true_and] at hl
 simp -dsimp only [↓gp,gq,simprocAttr,gT]
 refine zah (fun (k:Nat) s=>s.sl 1 = int u∧s.sl 2 = .ref 2 1 0∧s.rw 2 = ⟨1,.box 27 [int n,zax xs]⟩∧s.sl 5 = int k∧(k ≤ xs.length∧∀ i,i < k→((xs.getD i 0).toNat &&& u == u) = false)) (fun k=>xs.length - k) (0) (by refine ⟨?_,?_,?_,?_,by simp⟩ <;> (first | (simp -dsimp only [gr,simprocAttr];first | done | rfl | (simp;done)) | assumption | rfl)) ?_
 intro k sa ⟨h1a,h2a,r2a,h5a,hIa⟩
 obtain ⟨hk,hall⟩:=hIa
 simp -dsimp only [↓gp,gq,simprocAttr,gT,h1a,h2a,r2a,h5a]
 refine ⟨fun h=>⟨h,h,fun he=>?_,fun he=>zac (k + 1) ⟨(by (first | (simp -dsimp only [gr,simprocAttr,h1a,h2a,r2a,h5a,zaa h hl];first | done | rfl | (simp;done)) | assumption | rfl)),(by (first | (simp -dsimp only [gr,simprocAttr,h1a,h2a,r2a,h5a,zaa h hl];first | done | rfl | (simp;done)) | assumption | rfl)),(by (first | (simp -dsimp only [gr,simprocAttr,h1a,h2a,r2a,h5a,zaa h hl];first | done | rfl | (simp;done)) | assumption | rfl)),(by (first | (simp -dsimp only [gr,simprocAttr,h1a,h2a,r2a,h5a,zaa h hl];first | done | rfl | (simp;done)) | assumption | rfl)),⟨by omega,fun i hi=>?_⟩⟩ (by first | omega | (simp only;omega) | (dsimp only;omega) | (show _ < _;simp;omega))⟩,fun h=>?_⟩
 ·rw [zsi (zsh hx h) hs] at he
  exact zcg.2 ⟨_,zaj 0 h,by simpa using he⟩
 ·rw [zsi (zsh hx h) hs] at he
  rcases Nat.lt_succ_iff_lt_or_eq.1 hi with hi | rfl
  ·exact hall i hi
  ·exact he
 ·cases hf:zag xs u with
  | false=>rfl
  | true =>
    obtain ⟨x,hx',hx2⟩:=zcg.1 hf
    obtain ⟨i,hi,rfl⟩:=zaR 0 hx'
    have:=hall i (by omega)
    rw [hx2] at this
    simp at this
noncomputable def zbh (n:Int) (xs:List Int) (s:Nat):Bool:=zaL n xs && zag xs s
theorem zlT (l:List Nat) (s:Nat):inF (ofN l) s = decide (s ∈ l):=by
 unfold inF ofN
 refine decide_eq_decide.2 ?_
 simp only [List.mem_map]
 exact ⟨fun ⟨a,h1,h2⟩=>by have:a = s:=by omega
                          exact this ▸ h1,fun h=>⟨s,h,rfl⟩⟩
theorem zBx {l:List Nat} (h:∀ s ∈ l,s < 64):∀ x ∈ ofN l,0 ≤ x∧x < 64:=fun x hx=>by
 obtain ⟨s,hs,rfl⟩:=List.mem_map.1 hx
 have:=h s hs
 omega
theorem zcf (n:Int) (xs:List Int):AC Tryz.prog 83 [.ag [int n,zax xs]] (.fr 3 1 (iL (ofN (zbb (zbh n xs))))):=by
 refine AC.go (rs:=[.tmp 2]) zaD mixed Tryz.func83 rfl rfl rfl (by kernel_rfl) fun hl=>?_
 simp -dsimp only [↓gp,gq,simprocAttr,gT]
 have fin:∀ m,m = 64→zbb (inF (ofN ((List.range m).filter (zbh n xs)))) = zbb (zbh n xs):=fun m hm=>by
  refine zf4 fun s hs=>?_
  rw [zlT,hm]
  cases h:zbh n xs s <;> simp [h,hs]
 have hmem:∀ m,m ≤ 64→∀ s ∈ (List.range m).filter (zbh n xs),s < 64:=fun m hm s hs=>by
  have:=List.mem_range.1 (List.mem_filter.1 hs).1;omega
 refine zah (fun (za:Nat × Nat) s=>match za with | (m,v)=>s.sl 1 = .ref 1 1 0∧s.rw 1 = ⟨1,.box 27 [int n,zax xs]⟩∧s.sl 3 = .own 5 v∧s.rw 5 = ⟨v,.sli 3 1 false (iL (ofN ((List.range m).filter (zbh n xs))))⟩∧s.sl 4 = int m∧(m ≤ 64)) (fun (m,v)=>64 - m) ((0,1)) (by refine ⟨?_,?_,?_,?_,?_,by simp⟩ <;> (first | (simp -dsimp only [gr,simprocAttr];first | done | rfl | (simp;done)) | assumption | rfl)) ?_
 intro (m,v) sa ⟨h1a,r1a,h3a,r5a,h4a,hIa⟩
 have hflen:((List.range m).filter (zbh n xs)).length ≤ 64:=by
  have:=List.length_filter_le (zbh n xs) (List.range m);rw [List.length_range] at this;omega
 simp -dsimp only [↓gp,gq,simprocAttr,gT,h1a,r1a,h3a,r5a,h4a]
 refine ⟨fun h=>zab (zaE n xs) ?_,fun h=>?_⟩
 ·simp -dsimp only [↓gp,gq,simprocAttr,gT,h1a,r1a,h3a,r5a,h4a]
  have hm:m < 64:=by omega
  refine ⟨fun hc=>zab (zdd n xs m (zb4 hc) hm) ?_,fun hc=>zab (zd7 _ (zBx (hmem m hIa))) ?_⟩
  ·simp -dsimp only [↓gp,gq,simprocAttr,gT,h1a,r1a,h3a,r5a,h4a,zad]
   refine ⟨fun hf=>?_,fun hf=>?_⟩
   ·have e:(List.range (m + 1)).filter (zbh n xs) = (List.range m).filter (zbh n xs) ++ [m]:=by
     rw [List.range_succ,List.filter_append]
     simp [zbh,hc,hf]
    refine ⟨by omega,?_⟩
    exact zac ((m + 1,v + 1)) (by refine ⟨?_,?_,?_,?_,?_,by dsimp only;omega⟩ <;> (first | (simp -dsimp only [gr,simprocAttr,h1a,r1a,h3a,r5a,h4a,zaa hm (by omega),e,zaS,zdE];first | done | rfl | (simp;done)) | assumption | rfl)) (by first | omega | (simp only;omega) | (dsimp only;omega) | (show _ < _;simp;omega))
   ·have e:(List.range (m + 1)).filter (zbh n xs) = (List.range m).filter (zbh n xs):=by
     rw [List.range_succ,List.filter_append]
     simp [zbh,hc,hf]
    exact zac ((m + 1,v)) (by refine ⟨?_,?_,?_,?_,?_,by dsimp only;omega⟩ <;> (first | (simp -dsimp only [gr,simprocAttr,h1a,r1a,h3a,r5a,h4a,zaa hm (by omega),e];first | done | rfl | (simp;done)) | assumption | rfl)) (by first | omega | (simp only;omega) | (dsimp only;omega) | (show _ < _;simp;omega))
  ·simp -dsimp only [↓gp,gq,simprocAttr,gT,h1a,r1a,h3a,r5a,h4a]
   have e1:(List.range m).filter (zbh n xs) = []:=by
    rw [List.filter_eq_nil_iff];intro s _;simp [zbh,hc]
   have e2:zbb (zbh n xs) = zbb (inF (ofN [])):=zf4 fun s _=>by rw [zlT];simp [zbh,hc]
   rw [e1,e2]
 ·have:m = 64:=by omega
  refine zab (zd7 _ (zBx (hmem m hIa))) ?_
  simp -dsimp only [↓gp,gq,simprocAttr,gT,h1a,r1a,h3a,r5a,h4a]
  rw [fin m this]
theorem zof {f:Nat→Bool} {k:Nat} (h:k < (zbb f).length):(zbb f).getD k 0 < 64:=(zaU.1 (zaj 0 h)).1
theorem zhQ (n:Int) (xs:List Int) (k:Int):AC Tryz.prog 141 [.ag [int n,zax xs],int k] (.fr 3 1 (iL (ofN ((zbb (zbh n xs)).filter fun s=>(zat s:Int) == k)))):=by
 refine AC.go (rs:=[.tmp 4]) zaD mixed Tryz.func141 rfl rfl rfl (by kernel_rfl) fun hl=>?_
 simp -dsimp only [↓gp,gq,simprocAttr,gT]
 refine zab (zcf n xs) ?_
 simp -dsimp only [↓gp,gq,simprocAttr,gT]
 have hfull:=zcJ (zbh n xs)
 have hmem:∀ i,i < (zbb (zbh n xs)).length→(zbb (zbh n xs)).getD i 0 < 64:=fun i h=>zof h
 generalize zbb (zbh n xs) = all at *
 refine zah (fun (za:Nat × Nat × Nat) s=>match za with | (i,v,u)=>s.sl 1 = int k∧s.sl 5 = .own 8 v∧s.rw 8 = ⟨v,.sli 3 1 false (iL (ofN ((all.take i).filter fun s=>(zat s:Int) == k)))⟩∧s.sl 6 = .own 10 u∧s.rw 10 = ⟨u,.sli 3 1 false (iL (ofN all))⟩∧s.sl 7 = int i∧(i ≤ all.length)) (fun (i,v,u)=>all.length - i) ((0,1,1)) (by refine ⟨?_,?_,?_,?_,?_,?_,by simp⟩ <;> (first | (simp -dsimp only [gr,simprocAttr];first | done | rfl | (simp;done)) | assumption | rfl)) ?_
 intro (i,v,u) sa ⟨h1a,h5a,r8a,h6a,r10a,h7a,hIa⟩
 have hfl:((all.take i).filter fun s=>(zat s:Int) == k).length ≤ i:=by
  have:=List.length_filter_le (fun s=>(zat s:Int) == k) (all.take i);rw [List.length_take] at this;omega
 simp -dsimp only [↓gp,gq,simprocAttr,gT,h1a,h5a,r8a,h6a,r10a,h7a,zad]
 refine ⟨fun h=>?_,fun h=>?_⟩
 ·have hi:=hmem i h
  have hge:(ofN all).getD i 0 = ((all.getD i 0:Nat):Int):=zaG h
  rw [hge]
  refine ⟨h,h,zab (zaM _ (by omega)) ?_⟩
  simp -dsimp only [↓gp,gq,simprocAttr,gT,h1a,h5a,r8a,h6a,r10a,h7a,zad,hge]
  refine ⟨fun hp=>⟨h,h,by omega,?_⟩,fun hp=>?_⟩
  ·have e:(all.take (i + 1)).filter (fun s=>(zat s:Int) == k) = (all.take i).filter (fun s=>(zat s:Int) == k) ++ [all.getD i 0]:=zhR h hp
   exact zac ((i + 1,v + 1,u)) (by refine ⟨?_,?_,?_,?_,?_,?_,by dsimp only;omega⟩ <;> (first | (simp -dsimp only [gr,simprocAttr,h1a,h5a,r8a,h6a,r10a,h7a,zaa h (by omega),e,zaS,zdE,hge];first | done | rfl | (simp;done)) | assumption | rfl)) (by first | omega | (simp only;omega) | (dsimp only;omega) | (show _ < _;simp;omega))
  ·have e:(all.take (i + 1)).filter (fun s=>(zat s:Int) == k) = (all.take i).filter (fun s=>(zat s:Int) == k):=zlU h hp
   exact zac ((i + 1,v,u)) (by refine ⟨?_,?_,?_,?_,?_,?_,by dsimp only;omega⟩ <;> (first | (simp -dsimp only [gr,simprocAttr,h1a,h5a,r8a,h6a,r10a,h7a,zaa h (by omega),e];first | done | rfl | (simp;done)) | assumption | rfl)) (by first | omega | (simp only;omega) | (dsimp only;omega) | (show _ < _;simp;omega))
 ·have:i = all.length:=by omega
  rw [this,List.take_length]
theorem ztD (f:Nat→Bool) (k:Nat):(zbb f).filter (fun s=>(zat s:Int) == (k:Int)) = zaQ f k 64:=by
 rw [← zlW f k]
 refine List.filter_congr fun s _=>?_
 cases h:(zat s == k) with
 | true=>have:=beq_iff_eq.1 h;simp [this]
 | false=>have:=beq_eq_false_iff_ne.1 h;rw [beq_eq_false_iff_ne];exact fun e=>this (by omega)
theorem zcr (n:Int) (xs:List Int) (k:Nat):AC Tryz.prog 141 [.ag [int n,zax xs],int k] (.fr 3 1 (iL (ofN (zaQ (zbh n xs) k 64)))):=by
 have:=zhQ n xs k
 rwa [ztD] at this
end Go.Proofs.YtkledeboboplmaaGreatDoor
