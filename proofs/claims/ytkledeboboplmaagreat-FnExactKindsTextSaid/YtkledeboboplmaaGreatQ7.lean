/- DERIVED by an AI agent. -/
import Derived.Test.YtkledeboboplmaaGreatQ6
import Derived.Test.YtkledeboboplmaaGreatQ4
import Derived.Test.YtkledeboboplmaaGreatQ5
import Derived.Test.YtkledeboboplmaaGreatP1
namespace Go.Proofs.YtkledeboboplmaaGreat
open Go.Abs
open Nat (reduceEqDiff reduceMod reduceAdd reduceLT reduceLeDiff reduceSub reduceMul)
set_option linter.unusedSimpArgs false
set_option linter.unusedVariables false
theorem zlk (m:Nat) (xs:List Int) (k:Nat) (hcx:zaV (m:Int) xs = true) (hk:k ≤ 6):∀ (r:Nat) (head:List Int),head.length + r = m →
 AF Tryz.prog 96 [.ag [int m,zaH xs],int k] (iL head) 3 (iL ((fdS (nbC xs) k r head).getD [])) (fdS (nbC xs) k r head).isSome:=by
 have hm6:m ≤ 6:=by have:=(za2.1 hcx).2.1;omega
 have hok:=zcQ hcx
 intro r
 induction r with
 | zero =>
   intro head hh
   unfold AF
   refine AG.go (rs:=[.tmp 6,.tmp 7]) zaL mixed Tryz.func96 rfl rfl rfl (by kernel_rfl) fun hl hrl z hz hr=>?_
   have z0:z.sl 0 = .ag [int m,zaH xs]:=by rw [hz];rfl
   have z1:z.sl 1 = int k:=by rw [hz];rfl
   have z2:z.sl 2 = .own 1000000 1:=by rw [hz];rfl
   have y0:z.rw 1000000 = ⟨1,.sli 3 1 false (iL head)⟩:=by rw [hr,zeR]
   have yl:∀ j,j < 1000000→z.rw j = ⟨0,.dead⟩:=fun j hj=>by rw [hr,zj6 _ _ (by omega)]
   clear hz hr
   simp (maxSteps:=9^7) -dsimp only [↓gp,gq,reduceCtorEq,reduceEqDiff,reduceLT,reduceLeDiff,reduceAdd,reduceMul,reduceSub,Nat.reduceBEq,Int.reduceToNat,Int.reduceLE,Int.reduceLT,Int.reduceNeg,reduceMod,gT,z0,z1,z2,y0,yl]
   refine ⟨fun _=>⟨1000000,1,.inl rfl,rfl,by simp (maxSteps:=9^7) -dsimp only [gr,reduceEqDiff,reduceLT,reduceAdd,reduceMod,Nat.reduceBEq,y0];rfl⟩,fun h=>?_⟩
   rw [beq_eq_false_iff_ne] at h
   exact absurd (by omega) h
 | succ r ih =>
   intro head hh
   unfold AF
   refine AG.go (rs:=[.tmp 6,.tmp 7]) zaL mixed Tryz.func96 rfl rfl rfl (by kernel_rfl) fun hl hrl z hz hr=>?_
   have z0:z.sl 0 = .ag [int m,zaH xs]:=by rw [hz];rfl
   have z1:z.sl 1 = int k:=by rw [hz];rfl
   have z2:z.sl 2 = .own 1000000 1:=by rw [hz];rfl
   have y0:z.rw 1000000 = ⟨1,.sli 3 1 false (iL head)⟩:=by rw [hr,zeR]
   have yl:∀ j,j < 1000000→z.rw j = ⟨0,.dead⟩:=fun j hj=>by rw [hr,zj6 _ _ (by omega)]
   clear hz hr
   simp (maxSteps:=9^7) -dsimp only [↓gp,gq,reduceCtorEq,reduceEqDiff,reduceLT,reduceLeDiff,reduceAdd,reduceMul,reduceSub,Nat.reduceBEq,Int.reduceToNat,Int.reduceLE,Int.reduceLT,Int.reduceNeg,reduceMod,gT,z0,z1,z2,y0,yl]
   have hne:((head.length:Int) == (m:Int)) = false:=by rw [beq_eq_false_iff_ne];omega
   refine ⟨fun h=>absurd (hne.symm.trans h) (by decide),fun _=>?_⟩
   refine zah (fun (x:Nat) s=>s.sl 1 = int k∧s.sl 2 = .own 1000000 1∧s.rw 1000000 = ⟨1,.sli 3 1 false (iL head)⟩∧s.sl 3 = .ref 3 1 0∧s.rw 3 = ⟨1,.box 27 [int m,zaH xs]⟩∧s.sl 8 = int head.length∧s.sl 9 = int x∧(x ≤ k∧fdL (fun x=>okC (nbC xs) head.length x head head.length) (fun x=>fdS (nbC xs) k r (head ++ [(x:Int)])) (k - x) x = fdS (nbC xs) k (r + 1) head)) (fun x=>k - x) (0) (by refine ⟨?_,?_,?_,?_,?_,?_,?_,⟨Nat.zero_le _,rfl⟩⟩ <;> (first | (simp (maxSteps:=9^7) -dsimp only [gr,reduceEqDiff,reduceLT,reduceAdd,reduceMod,Nat.reduceBEq,z0,z1,z2,y0,yl];first | done | rfl | (simp;done)) | assumption | rfl)) ?_
   intro x sa ⟨h1a,h2a,r1000000a,h3a,r3a,h8a,h9a,hIa⟩
   obtain ⟨hxk,hfd⟩:=hIa
   simp (maxSteps:=9^7) -dsimp only [↓gp,gq,reduceCtorEq,reduceEqDiff,reduceLT,reduceLeDiff,reduceAdd,reduceMul,reduceSub,Nat.reduceBEq,Int.reduceToNat,Int.reduceLE,Int.reduceLT,Int.reduceNeg,reduceMod,gT,h1a,h2a,r1000000a,h3a,r3a,h8a,h9a]
   refine ⟨fun hx=>?_,fun hx=>?_⟩
   ·rw [show k - x = (k - (x + 1)) + 1 by omega,fdL] at hfd
    have hok0:okC (nbC xs) head.length x head 0 = true:=rfl
    refine zah (fun (j:Nat) s=>s.sl 1 = int k∧s.sl 2 = .own 1000000 1∧s.rw 1000000 = ⟨1,.sli 3 1 false (iL head)⟩∧s.sl 3 = .ref 3 1 0∧s.rw 3 = ⟨1,.box 27 [int m,zaH xs]⟩∧s.sl 8 = int head.length∧s.sl 9 = int x∧s.sl 10 = bool (okC (nbC xs) head.length x head j)∧s.sl 11 = int j∧(j ≤ head.length)) (fun j=>head.length - j) (0) (by refine ⟨?_,?_,?_,?_,?_,?_,?_,?_,?_,Nat.zero_le _⟩ <;> (first | (simp (maxSteps:=9^7) -dsimp only [gr,reduceEqDiff,reduceLT,reduceAdd,reduceMod,Nat.reduceBEq,h1a,h2a,r1000000a,h3a,r3a,h8a,h9a,hok0];first | done | rfl | (simp;done)) | assumption | rfl)) ?_
    intro j sb ⟨h1b,h2b,r1000000b,h3b,r3b,h8b,h9b,h10b,h11b,hIb⟩
    simp (maxSteps:=9^7) -dsimp only [↓gp,gq,reduceCtorEq,reduceEqDiff,reduceLT,reduceLeDiff,reduceAdd,reduceMul,reduceSub,Nat.reduceBEq,Int.reduceToNat,Int.reduceLE,Int.reduceLT,Int.reduceNeg,reduceMod,gT,h1b,h2b,r1000000b,h3b,r3b,h8b,h9b,h10b,h11b]
    refine ⟨fun hj=>?_,fun hj=>?_⟩
    ·have hsu:=zuY (nbC xs) head.length x head j
     have hun:IntKind.u64.wrap (j:Int) = (j:Int):=zba (by omega)
     have hun2:IntKind.u64.wrap (head.length:Int) = (head.length:Int):=zba (by omega)
     have hp1:2 ^ j ≤ 2 ^ 4:=Nat.pow_le_pow_right (by decide) (by omega)
     have hp2:2 ^ head.length ≤ 2 ^ 5:=Nat.pow_le_pow_right (by decide) (by omega)
     have hsh:znL .i64 1 (j:Int) = ((2 ^ j:Nat):Int):=zbt (by omega)
     have hsh2:znL .i64 1 (head.length:Int) = ((2 ^ head.length:Nat):Int):=zbt (by omega)
     have hw:IntKind.i64.wrap (((2 ^ head.length:Nat):Int) + ((2 ^ j:Nat):Int)) = ((2 ^ head.length + 2 ^ j:Nat):Int):=by
      clear hsh hsh2 hsu
      generalize 2 ^ j = a at *
      generalize 2 ^ head.length = b at *
      rw [zap (by omega) (by omega)];omega
     simp (maxSteps:=9^7) -dsimp only [↓gp,gq,reduceCtorEq,reduceEqDiff,reduceLT,reduceLeDiff,reduceAdd,reduceMul,reduceSub,Nat.reduceBEq,Int.reduceToNat,Int.reduceLE,Int.reduceLT,Int.reduceNeg,reduceMod,gT,h1b,h2b,r1000000b,h3b,r3b,h8b,h9b,h10b,h11b,hun,hun2,hsh,hsh2,hw]
     have h64:2 ^ head.length + 2 ^ j < 64:=by
      clear hsh hsh2 hw hsu
      generalize 2 ^ j = a at *
      generalize 2 ^ head.length = b at *
      omega
     refine ⟨fun h1=>⟨hj,hj,fun h2=>zab (zdu m xs _ hok h64) ?_,fun h2=>?_⟩,fun h1=>?_⟩
     ·have e:okC (nbC xs) head.length x head (j + 1) = !zal xs (2 ^ head.length + 2 ^ j):=by
       rw [hsu,h1,decide_eq_true (show head.getD j 0 = (x:Int) by simpa using h2),Bool.true_and,Bool.and_true];rfl
      simp (maxSteps:=9^7) -dsimp only [↓gp,gq,reduceCtorEq,reduceEqDiff,reduceLT,reduceLeDiff,reduceAdd,reduceMul,reduceSub,Nat.reduceBEq,Int.reduceToNat,Int.reduceLE,Int.reduceLT,Int.reduceNeg,reduceMod,gT,h1b,h2b,r1000000b,h3b,r3b,h8b,h9b,h10b,h11b]
      exact zac (j + 1) (by refine ⟨?_,?_,?_,?_,?_,?_,?_,?_,?_,by omega⟩ <;> (first | (simp (maxSteps:=9^7) -dsimp only [gr,reduceEqDiff,reduceLT,reduceAdd,reduceMod,Nat.reduceBEq,h1b,h2b,r1000000b,h3b,r3b,h8b,h9b,h10b,h11b,e,zaa hj (by omega)];first | done | rfl | (simp;done)) | assumption | rfl)) (by first | omega | (simp only;omega) | (dsimp only;omega) | (show _ < _;simp;omega))
     ·have e:okC (nbC xs) head.length x head (j + 1) = true:=by
       rw [hsu,h1,decide_eq_false (show ¬ head.getD j 0 = (x:Int) from bne_iff_ne.1 h2)];simp
      exact zac (j + 1) (by refine ⟨?_,?_,?_,?_,?_,?_,?_,?_,?_,by omega⟩ <;> (first | (simp (maxSteps:=9^7) -dsimp only [gr,reduceEqDiff,reduceLT,reduceAdd,reduceMod,Nat.reduceBEq,h1b,h2b,r1000000b,h3b,r3b,h8b,h9b,h10b,h11b,e,zaa hj (by omega)];first | done | rfl | (simp;done)) | assumption | rfl)) (by first | omega | (simp only;omega) | (dsimp only;omega) | (show _ < _;simp;omega))
     ·have e:okC (nbC xs) head.length x head (j + 1) = false:=by rw [hsu,h1];rfl
      exact zac (j + 1) (by refine ⟨?_,?_,?_,?_,?_,?_,?_,?_,?_,by omega⟩ <;> (first | (simp (maxSteps:=9^7) -dsimp only [gr,reduceEqDiff,reduceLT,reduceAdd,reduceMod,Nat.reduceBEq,h1b,h2b,r1000000b,h3b,r3b,h8b,h9b,h10b,h11b,e,zaa hj (by omega)];first | done | rfl | (simp;done)) | assumption | rfl)) (by first | omega | (simp only;omega) | (dsimp only;omega) | (show _ < _;simp;omega))
    ·have hjl:j = head.length:=by omega
     refine ⟨fun ho=>?_,fun ho=>?_⟩
     ·have ho:okC (nbC xs) head.length x head head.length = false:=by rw [hjl] at ho;simpa using ho
      rw [if_neg (by rw [ho];decide)] at hfd
      exact zac (x + 1) (by refine ⟨?_,?_,?_,?_,?_,?_,?_,⟨by omega,hfd⟩⟩ <;> (first | (simp (maxSteps:=9^7) -dsimp only [gr,reduceEqDiff,reduceLT,reduceAdd,reduceMod,Nat.reduceBEq,h1a,h2a,r1000000a,h3a,r3a,h8a,h9a,h1b,h2b,r1000000b,h3b,r3b,h8b,h9b,h10b,h11b,zaa hx (by omega)];first | done | rfl | (simp;done)) | assumption | rfl)) (by first | omega | (simp only;omega) | (dsimp only;omega) | (show _ < _;simp;omega))
     ·have ho:okC (nbC xs) head.length x head head.length = true:=by rw [hjl] at ho;simpa using ho
      rw [if_pos ho] at hfd
      have hIH:=ih (head ++ [(x:Int)]) (by rw [List.length_append,List.length_singleton];omega)
      refine ⟨by kernel_rfl,by omega,by omega,ztC hIH (fun _ _ _ _=>.ag (.one (.v _) (.one (.sl _ _ _) .nil)) (.one (.v _) .nil)) rfl (by simp (maxSteps:=9^7) -dsimp only [gr,reduceEqDiff,reduceLT,reduceAdd,reduceMod,Nat.reduceBEq];rw [show iL (head ++ [(x:Int)]) = iL head ++ iL [(x:Int)] from by simp [iL]] <;> rfl) (za3 _) (by decide) (by decide) ?_⟩
      simp (maxSteps:=9^7) -dsimp only [↓gp,gq,reduceCtorEq,reduceEqDiff,reduceLT,reduceLeDiff,reduceAdd,reduceMul,reduceSub,Nat.reduceBEq,Int.reduceToNat,Int.reduceLE,Int.reduceLT,Int.reduceNeg,reduceMod,gT,h1b,h2b,r1000000b,h3b,r3b,h8b,h9b,h10b,h11b]
      refine ⟨by kernel_rfl,fun hs=>?_,fun hs=>?_⟩
      ·obtain ⟨l,hl2⟩:=Option.isSome_iff_exists.1 hs
       rw [hl2] at hfd
       rw [← hfd,hl2]
       exact ⟨64,_,.inr (by decide),rfl,by simp (maxSteps:=9^7) -dsimp only [gr,reduceEqDiff,reduceLT,reduceAdd,reduceMod,Nat.reduceBEq]⟩
      ·have e0:fdS (nbC xs) k r (head ++ [(x:Int)]) = none:=by
        cases hx2:fdS (nbC xs) k r (head ++ [(x:Int)]) with
        | none=>rfl
        | some l=>rw [hx2] at hs;cases hs
       rw [e0] at hfd
       exact zac (x + 1) (by refine ⟨?_,?_,?_,?_,?_,?_,?_,⟨by omega,hfd⟩⟩ <;> (first | (simp (maxSteps:=9^7) -dsimp only [gr,reduceEqDiff,reduceLT,reduceAdd,reduceMod,Nat.reduceBEq,h1a,h2a,r1000000a,h3a,r3a,h8a,h9a,h1b,h2b,r1000000b,h3b,r3b,h8b,h9b,h10b,h11b,zaa hx (by omega)];first | done | rfl | (simp;done)) | assumption | rfl)) (by first | omega | (simp only;omega) | (dsimp only;omega) | (show _ < _;simp;omega))
   ·rw [show k - x = 0 by omega,fdL] at hfd
    rw [← hfd]
    exact ⟨69,_,.inr (by decide),rfl,by simp (maxSteps:=9^7) -dsimp only [gr,reduceEqDiff,reduceLT,reduceAdd,reduceMod,Nat.reduceBEq];rfl⟩
theorem zfB (n:Int) (xs:List Int) (k:Int):AC Tryz.prog 69 [.ag [int n,zaH xs],int k] (.tup [.fr 3 1 (iL ((fcO n xs k).getD [])),.im (bool (fcO n xs k).isSome)]):=by
 refine AC.go (rs:=[.tmp 4,.tmp 5]) zaL mixed Tryz.func69 rfl rfl rfl (by kernel_rfl) fun hl=>?_
 simp (maxSteps:=9^7) -dsimp only [↓gp,gq,reduceCtorEq,reduceEqDiff,reduceLT,reduceLeDiff,reduceAdd,reduceMul,reduceSub,Nat.reduceBEq,Int.reduceToNat,Int.reduceLE,Int.reduceLT,Int.reduceNeg,reduceMod,gT]
 refine zab (zaI n xs) ?_
 simp (maxSteps:=9^7) -dsimp only [↓gp,gq,reduceCtorEq,reduceEqDiff,reduceLT,reduceLeDiff,reduceAdd,reduceMul,reduceSub,Nat.reduceBEq,Int.reduceToNat,Int.reduceLE,Int.reduceLT,Int.reduceNeg,reduceMod,gT]
 have hno:¬ (zaV n xs = true∧(1 ≤ k∧k ≤ 6))→[] = iL ((fcO n xs k).getD [])∧(fcO n xs k).isSome = false:=fun h=>by
  rw [show fcO n xs k = none from if_neg h];exact ⟨rfl,rfl⟩
 refine ⟨fun hc=>zab (zc5 _ _ _) ?_,fun hc=>hno fun h=>by rw [h.1] at hc;cases hc⟩
 simp (maxSteps:=9^7) -dsimp only [↓gp,gq,reduceCtorEq,reduceEqDiff,reduceLT,reduceLeDiff,reduceAdd,reduceMul,reduceSub,Nat.reduceBEq,Int.reduceToNat,Int.reduceLE,Int.reduceLT,Int.reduceNeg,reduceMod,gT]
 refine ⟨fun h=>(hno fun h2=>by rw [decide_eq_true h2.2.1,decide_eq_true h2.2.2] at h;cases h),fun h=>?_⟩
 have hcx:zaV n xs = true:=by simpa using hc
 have hk:1 ≤ k∧k ≤ 6:=by simpa using h
 have hp:=za2.1 hcx
 obtain ⟨m,rfl⟩:∃ m:Nat,n = m:=⟨n.toNat,by have:=hp.1;omega⟩
 obtain ⟨q,rfl⟩:∃ q:Nat,k = q:=⟨k.toNat,by omega⟩
 have e2:fcO (m:Int) xs q = fdS (nbC xs) q m []:=by
  unfold fcO
  rw [if_pos ⟨hcx,hk⟩,Int.toNat_natCast,Int.toNat_natCast]
 rw [e2]
 have hF:=zlk m xs q hcx (by omega) m [] (by simp)
 generalize fdS (nbC xs) q m [] = o at *
 refine zzK hF (fun _ _=>.ag (.one (.v _) (.one (.sl _ _ _) .nil)) (.one (.v _) .nil)) rfl (by simp (maxSteps:=9^7) -dsimp only [gr,reduceEqDiff,reduceLT,reduceAdd,reduceMod,Nat.reduceBEq];rfl) (za3 _) (by decide) fun S v2 r hr hSd hSr hSs hSrw=>?_
 rcases hr with rfl | rfl
 ·simp (maxSteps:=9^7) -dsimp only [↓gp,gq,reduceCtorEq,reduceEqDiff,reduceLT,reduceLeDiff,reduceAdd,reduceMul,reduceSub,Nat.reduceBEq,Int.reduceToNat,Int.reduceLE,Int.reduceLT,Int.reduceNeg,reduceMod,gT,hSd,hSr]
 ·simp (maxSteps:=9^7) -dsimp only [↓gp,gq,reduceCtorEq,reduceEqDiff,reduceLT,reduceLeDiff,reduceAdd,reduceMul,reduceSub,Nat.reduceBEq,Int.reduceToNat,Int.reduceLE,Int.reduceLT,Int.reduceNeg,reduceMod,gT,hSd,hSr]
theorem zzA (n:Int) (xs:List Int):-2 ≤ zdE n xs∧zdE n xs ≤ 5:=by
 by_cases hF:zmY n xs = true
 ·have:=zm4 hF;have:=zcA (zal xs);omega
 ·rw [show zdE n xs = -2 from if_neg hF];omega
noncomputable def lcF (n:Int) (xs:List Int):Nat→Int→Int
 | 0,_=>0
 | m + 1,k=>if (fcO n xs k).isSome = true then k else lcF n xs m (k + 1)
theorem zgV (n:Int) (xs:List Int):AC Tryz.prog 55 [.ag [int n,zaH xs]] (.im (int (lcF n xs 6 1))):=by
 refine AC.go (rs:=[.tmp 2]) zaL mixed Tryz.func55 rfl rfl rfl (by kernel_rfl) fun hl=>?_
 simp (maxSteps:=9^7) -dsimp only [↓gp,gq,reduceCtorEq,reduceEqDiff,reduceLT,reduceLeDiff,reduceAdd,reduceMul,reduceSub,Nat.reduceBEq,Int.reduceToNat,Int.reduceLE,Int.reduceLT,Int.reduceNeg,reduceMod,gT]
 refine zah (fun (k:Nat) s=>s.sl 1 = .ref 1 1 0∧s.rw 1 = ⟨1,.box 27 [int n,zaH xs]⟩∧s.sl 3 = int ((k:Int) + 1)∧(k ≤ 6∧lcF n xs (6 - k) ((k:Int) + 1) = lcF n xs 6 1)) (fun k=>6 - k) (0) (by refine ⟨?_,?_,?_,⟨Nat.zero_le _,rfl⟩⟩ <;> (first | (simp (maxSteps:=9^7) -dsimp only [gr,reduceEqDiff,reduceLT,reduceAdd,reduceMod,Nat.reduceBEq];first | done | rfl | (simp;done)) | assumption | rfl)) ?_
 intro k sa ⟨h1a,r1a,h3a,hIa⟩
 obtain ⟨hk,hlc⟩:=hIa
 simp (maxSteps:=9^7) -dsimp only [↓gp,gq,reduceCtorEq,reduceEqDiff,reduceLT,reduceLeDiff,reduceAdd,reduceMul,reduceSub,Nat.reduceBEq,Int.reduceToNat,Int.reduceLE,Int.reduceLT,Int.reduceNeg,reduceMod,gT,h1a,r1a,h3a]
 refine ⟨fun h=>?_,fun h=>?_⟩
 ·rw [show 6 - k = (6 - (k + 1)) + 1 by omega,lcF] at hlc
  refine zab (zfC n xs _) ?_
  simp (maxSteps:=9^7) -dsimp only [↓gp,gq,reduceCtorEq,reduceEqDiff,reduceLT,reduceLeDiff,reduceAdd,reduceMul,reduceSub,Nat.reduceBEq,Int.reduceToNat,Int.reduceLE,Int.reduceLT,Int.reduceNeg,reduceMod,gT,h1a,r1a,h3a]
  refine ⟨fun hs=>?_,fun hs=>?_⟩
  ·rw [if_pos hs] at hlc;exact hlc.symm
  ·rw [if_neg (by rw [hs];decide)] at hlc
   have hw:IntKind.i64.wrap ((k:Int) + 1 + 1) = ((k + 1:Nat):Int) + 1:=by rw [zap (by omega) (by omega)];omega
   have hlc2:lcF n xs (6 - (k + 1)) (((k + 1:Nat):Int) + 1) = lcF n xs 6 1:=by rw [← hlc];congr 1
   exact zac (k + 1) (by refine ⟨?_,?_,?_,⟨by omega,hlc2⟩⟩ <;> (first | (simp (maxSteps:=9^7) -dsimp only [gr,reduceEqDiff,reduceLT,reduceAdd,reduceMod,Nat.reduceBEq,h1a,r1a,h3a,hw];first | done | rfl | (simp;done)) | assumption | rfl)) (by first | omega | (simp only;omega) | (dsimp only;omega) | (show _ < _;simp;omega))
 ·rw [show 6 - k = 0 by omega,lcF] at hlc
  rw [← hlc]
theorem zgW (n:Int) (xs:List Int):AC Tryz.prog 42 [.ag [int n,zaH xs]] (.im (int (lcF n xs 6 1))):=by
 refine AC.go (rs:=[.tmp 2]) zaL mixed Tryz.func42 rfl rfl rfl (by kernel_rfl) fun hl=>?_
 simp (maxSteps:=9^7) -dsimp only [↓gp,gq,reduceCtorEq,reduceEqDiff,reduceLT,reduceLeDiff,reduceAdd,reduceMul,reduceSub,Nat.reduceBEq,Int.reduceToNat,Int.reduceLE,Int.reduceLT,Int.reduceNeg,reduceMod,gT]
 refine zah (fun (k:Nat) s=>s.sl 1 = .ref 1 1 0∧s.rw 1 = ⟨1,.box 27 [int n,zaH xs]⟩∧s.sl 3 = int ((k:Int) + 1)∧(k ≤ 6∧lcF n xs (6 - k) ((k:Int) + 1) = lcF n xs 6 1)) (fun k=>6 - k) (0) (by refine ⟨?_,?_,?_,⟨Nat.zero_le _,rfl⟩⟩ <;> (first | (simp (maxSteps:=9^7) -dsimp only [gr,reduceEqDiff,reduceLT,reduceAdd,reduceMod,Nat.reduceBEq];first | done | rfl | (simp;done)) | assumption | rfl)) ?_
 intro k sa ⟨h1a,r1a,h3a,hIa⟩
 obtain ⟨hk,hlc⟩:=hIa
 simp (maxSteps:=9^7) -dsimp only [↓gp,gq,reduceCtorEq,reduceEqDiff,reduceLT,reduceLeDiff,reduceAdd,reduceMul,reduceSub,Nat.reduceBEq,Int.reduceToNat,Int.reduceLE,Int.reduceLT,Int.reduceNeg,reduceMod,gT,h1a,r1a,h3a]
 refine ⟨fun h=>?_,fun h=>?_⟩
 ·rw [show 6 - k = (6 - (k + 1)) + 1 by omega,lcF] at hlc
  refine zab (zfB n xs _) ?_
  simp (maxSteps:=9^7) -dsimp only [↓gp,gq,reduceCtorEq,reduceEqDiff,reduceLT,reduceLeDiff,reduceAdd,reduceMul,reduceSub,Nat.reduceBEq,Int.reduceToNat,Int.reduceLE,Int.reduceLT,Int.reduceNeg,reduceMod,gT,h1a,r1a,h3a]
  refine ⟨fun hs=>?_,fun hs=>?_⟩
  ·rw [if_pos hs] at hlc;exact hlc.symm
  ·rw [if_neg (by rw [hs];decide)] at hlc
   have hw:IntKind.i64.wrap ((k:Int) + 1 + 1) = ((k + 1:Nat):Int) + 1:=by rw [zap (by omega) (by omega)];omega
   have hlc2:lcF n xs (6 - (k + 1)) (((k + 1:Nat):Int) + 1) = lcF n xs 6 1:=by rw [← hlc];congr 1
   exact zac (k + 1) (by refine ⟨?_,?_,?_,⟨by omega,hlc2⟩⟩ <;> (first | (simp (maxSteps:=9^7) -dsimp only [gr,reduceEqDiff,reduceLT,reduceAdd,reduceMod,Nat.reduceBEq,h1a,r1a,h3a,hw];first | done | rfl | (simp;done)) | assumption | rfl)) (by first | omega | (simp only;omega) | (dsimp only;omega) | (show _ < _;simp;omega))
 ·rw [show 6 - k = 0 by omega,lcF] at hlc
  rw [← hlc]
noncomputable def zBy (n:Int) (xs:List Int):Bool:=zmY n xs && decide (lcF n xs 6 1 = max (zdE n xs + 1) 1)
theorem zhC (n:Int) (xs:List Int):AC Tryz.prog 29 [.ag [int n,zaH xs]] (.im (bool (zBy n xs))):=by
 refine AC.go (rs:=[.tmp 2]) zaL mixed Tryz.func29 rfl rfl rfl (by kernel_rfl) fun hl=>?_
 simp (maxSteps:=9^7) -dsimp only [↓gp,gq,reduceCtorEq,reduceEqDiff,reduceLT,reduceLeDiff,reduceAdd,reduceMul,reduceSub,Nat.reduceBEq,Int.reduceToNat,Int.reduceLE,Int.reduceLT,Int.reduceNeg,reduceMod,gT]
 refine zab (zaC n xs) ?_
 simp (maxSteps:=9^7) -dsimp only [↓gp,gq,reduceCtorEq,reduceEqDiff,reduceLT,reduceLeDiff,reduceAdd,reduceMul,reduceSub,Nat.reduceBEq,Int.reduceToNat,Int.reduceLE,Int.reduceLT,Int.reduceNeg,reduceMod,gT]
 unfold zBy
 refine ⟨fun hc=>⟨fun h0=>?_,fun h0=>⟨by kernel_rfl,zab (zgV n xs) ?_⟩⟩,fun hc=>?_⟩
 ·rw [show zmY n xs = false from Bool.eq_false_iff.2 fun h=>by have:=(zbV.1 h).2;have:=beq_iff_eq.1 h0;omega];rfl
 ·have hF:zmY n xs = true:=zbV.2 ⟨by simpa using hc,Nat.pos_of_ne_zero fun e=>by rw [e] at h0;cases h0⟩
  rw [hF,Bool.true_and]
  have hd:=zzA n xs
  have hw:IntKind.i64.wrap (zdE n xs + 1) = zdE n xs + 1:=zap (by omega) (by omega)
  simp (maxSteps:=9^7) -dsimp only [↓gp,gq,reduceCtorEq,reduceEqDiff,reduceLT,reduceLeDiff,reduceAdd,reduceMul,reduceSub,Nat.reduceBEq,Int.reduceToNat,Int.reduceLE,Int.reduceLT,Int.reduceNeg,reduceMod,gT]
  refine zab (ze6 n xs) ?_
  simp (maxSteps:=9^7) -dsimp only [↓gp,gq,reduceCtorEq,reduceEqDiff,reduceLT,reduceLeDiff,reduceAdd,reduceMul,reduceSub,Nat.reduceBEq,Int.reduceToNat,Int.reduceLE,Int.reduceLT,Int.reduceNeg,reduceMod,gT,hw]
  first
   | done
   | (rw [Bool.eq_iff_iff,decide_eq_true_iff,beq_iff_eq]
      split <;> omega)
   | trace_state
 ·rw [show zmY n xs = false from Bool.eq_false_iff.2 fun h=>by have:=(zbV.1 h).1;rw [this] at hc;cases hc];rfl
theorem zhD (n:Int) (xs:List Int):AC Tryz.prog 18 [.ag [int n,zaH xs]] (.im (bool (zBy n xs))):=by
 refine AC.go (rs:=[.tmp 2]) zaL mixed Tryz.func18 rfl rfl rfl (by kernel_rfl) fun hl=>?_
 simp (maxSteps:=9^7) -dsimp only [↓gp,gq,reduceCtorEq,reduceEqDiff,reduceLT,reduceLeDiff,reduceAdd,reduceMul,reduceSub,Nat.reduceBEq,Int.reduceToNat,Int.reduceLE,Int.reduceLT,Int.reduceNeg,reduceMod,gT]
 refine ⟨by kernel_rfl,zab (zch n xs) ?_⟩
 simp (maxSteps:=9^7) -dsimp only [↓gp,gq,reduceCtorEq,reduceEqDiff,reduceLT,reduceLeDiff,reduceAdd,reduceMul,reduceSub,Nat.reduceBEq,Int.reduceToNat,Int.reduceLE,Int.reduceLT,Int.reduceNeg,reduceMod,gT]
 unfold zBy
 refine ⟨fun h=>zab (zgW n xs) ?_,fun h=>?_⟩
 ·have hF:zmY n xs = true:=Classical.byContradiction fun hc=>by rw [show zdE n xs = -2 from if_neg hc] at h;omega
  rw [hF,Bool.true_and]
  have hd:=zzA n xs
  have hw:IntKind.i64.wrap (zdE n xs + 1) = zdE n xs + 1:=zap (by omega) (by omega)
  simp (maxSteps:=9^7) -dsimp only [↓gp,gq,reduceCtorEq,reduceEqDiff,reduceLT,reduceLeDiff,reduceAdd,reduceMul,reduceSub,Nat.reduceBEq,Int.reduceToNat,Int.reduceLE,Int.reduceLT,Int.reduceNeg,reduceMod,gT]
  refine zab (zch n xs) ?_
  simp (maxSteps:=9^7) -dsimp only [↓gp,gq,reduceCtorEq,reduceEqDiff,reduceLT,reduceLeDiff,reduceAdd,reduceMul,reduceSub,Nat.reduceBEq,Int.reduceToNat,Int.reduceLE,Int.reduceLT,Int.reduceNeg,reduceMod,gT,hw]
  refine zab (zoj _ _) ?_
  simp (maxSteps:=9^7) -dsimp only [↓gp,gq,reduceCtorEq,reduceEqDiff,reduceLT,reduceLeDiff,reduceAdd,reduceMul,reduceSub,Nat.reduceBEq,Int.reduceToNat,Int.reduceLE,Int.reduceLT,Int.reduceNeg,reduceMod,gT,hw]
  first
   | done
   | (rw [Bool.eq_iff_iff,decide_eq_true_iff,beq_iff_eq]
      omega)
   | trace_state
 ·rw [show zmY n xs = false from Bool.eq_false_iff.2 fun hF=>by have:=zm4 hF;obtain ⟨_,_,_,_,_,h0,_⟩:=zja hF;have e1:0 < zbh (zal xs):=(by have:=ze9 64 0 (by decide) h0;unfold zbh;omega);omega];rfl
theorem zAB {f:Nat→Bool} {l1 l2:List Nat} {s:Nat} (h:za9 f = l1 ++ s :: l2):(∃ t,t ∈ l2∧s &&& t = s) ↔ zc3 f true s = false:=by
 have hpw:=znT f
 rw [h,List.pairwise_append] at hpw
 have hp2:=List.pairwise_cons.1 hpw.2.1
 have hs:s < 64∧f s = true:=zaZ.1 (by rw [h];simp)
 constructor
 ·rintro ⟨t,ht,hst⟩
  have hm:t < 64∧f t = true:=zaZ.1 (by rw [h];simp [ht])
  cases hx:zc3 f true s with
  | false=>rfl
  | true =>
    have:=zcL.1 hx t hm.1 hm.2 hst
    subst this
    exact absurd (hp2.1 t ht) zea
 ·intro hx
  have:¬ ∀ t,t < 64→f t = true→s &&& t = s→t = s:=fun h=>by rw [zcL.2 h] at hx;cases hx
  obtain ⟨t,ht⟩:=Classical.not_forall.1 this
  have h1:t < 64:=Classical.byContradiction fun h=>ht fun h2=>absurd h2 h
  have h2:f t = true:=Classical.byContradiction fun h=>ht fun _ h2=>absurd h2 h
  have h3:s &&& t = s:=Classical.byContradiction fun h=>ht fun _ _ h2=>absurd h2 h
  have h4:t ≠ s:=fun e=>ht fun _ _ _=>e
  have hlt:=ze3 h1 hs.1 h3 (Ne.symm h4)
  have hm:t ∈ l1 ++ s :: l2:=h ▸ zaZ.2 ⟨h1,h2⟩
  rcases List.mem_append.1 hm with hm | hm
  ·have:=hpw.2.2 t hm s (by simp)
   unfold zrm at this
   omega
  ·rcases List.mem_cons.1 hm with hm | hm
   ·exact absurd hm h4
   ·exact ⟨t,hm,h3⟩
theorem zcR (G:Nat) (hG:G < 18446744073709551616):AC Tryz.prog 75 [u64 G] (.fr 3 1 (iL (ofN (zdW G.testBit true)))):=by
 refine AC.go (rs:=[.tmp 2]) zaL mixed Tryz.func75 rfl rfl rfl (by kernel_rfl) fun hl=>?_
 simp (maxSteps:=9^7) -dsimp only [↓gp,gq,reduceCtorEq,reduceEqDiff,reduceLT,reduceLeDiff,reduceAdd,reduceMul,reduceSub,Nat.reduceBEq,Int.reduceToNat,Int.reduceLE,Int.reduceLT,Int.reduceNeg,reduceMod,gT]
 refine zab (zeg G hG) ?_
 simp (maxSteps:=9^7) -dsimp only [↓gp,gq,reduceCtorEq,reduceEqDiff,reduceLT,reduceLeDiff,reduceAdd,reduceMul,reduceSub,Nat.reduceBEq,Int.reduceToNat,Int.reduceLE,Int.reduceLT,Int.reduceNeg,reduceMod,gT,zad]
 have hfull:=zcY G.testBit
 have hmem:∀ k,k < (za9 G.testBit).length→(za9 G.testBit).getD k 0 < 64:=fun k hk=>(zaZ.1 (zan 0 hk)).1
 have hmax:∀ k,k < (za9 G.testBit).length→((∃ t,t ∈ (za9 G.testBit).drop (k + 1)∧(za9 G.testBit).getD k 0 &&& t = (za9 G.testBit).getD k 0) ↔ zc3 G.testBit true ((za9 G.testBit).getD k 0) = false):=fun k hk=>zAB (zu4 hk)
 unfold zdW
 generalize za9 G.testBit = all at *
 refine zah (fun (za:Nat × Nat × Bool) s=>match za with | (k,v,fz)=>s.sl 3 = .own 11 1∧s.rw 11 = ⟨1,.sli 3 1 fz (iL (ofN all))⟩∧s.sl 4 = .own 4 v∧s.rw 4 = ⟨v,.sli 3 1 false (iL (ofN ((all.take k).filter (zc3 G.testBit true))))⟩∧s.sl 12 = .own 11 1∧s.sl 13 = int all.length∧s.sl 14 = int k∧(k ≤ all.length)) (fun (k,v,fz)=>all.length - k) ((0,1,false)) (by refine ⟨?_,?_,?_,?_,?_,?_,?_,by simp⟩ <;> (first | (simp (maxSteps:=9^7) -dsimp only [gr,reduceEqDiff,reduceLT,reduceAdd,reduceMod,Nat.reduceBEq,zad];first | done | rfl | (simp;done)) | assumption | rfl)) ?_
 intro (k,v,fz) sa ⟨h3a,r11a,h4a,r4a,h12a,h13a,h14a,hIa⟩
 have hflen:((all.take k).filter (zc3 G.testBit true)).length ≤ k:=Nat.le_trans zn3 (by simp;omega)
 by_cases hk:k < all.length
 ·have hs:=hmem k hk
  have hge:(ofN all).getD k 0 = ((all.getD k 0:Nat):Int):=zaF hk
  have hwk:=zaa hk (by omega)
  have hdrop:∀ j,j < (all.drop (k + 1)).length→((all.drop (k + 1)).getD j 0) < 64∧(ofN (all.drop (k + 1))).getD j 0 = (((all.drop (k + 1)).getD j 0:Nat):Int):=fun j hj=>⟨by
   have hm:=List.mem_of_mem_drop (zan 0 hj)
   obtain ⟨i,hi,e⟩:=zaY 0 hm
   rw [← e];exact hmem i hi,zaF hj⟩
  have hdl:(all.drop (k + 1)).length ≤ 448:=by simp;omega
  have hsub:∀ j,j < (all.drop (k + 1)).length→(zcv .i64 (all.getD k 0:Nat) ((ofN (all.drop (k + 1))).getD j 0) = 0 ↔ all.getD k 0 &&& (all.drop (k + 1)).getD j 0 = all.getD k 0):=fun j hj=>by
   have hd:=hdrop j hj
   rw [hd.2,zbm (by omega) (by omega),← zbP]
   omega
  have hofd:(ofN all).drop (k + 1) = ofN (all.drop (k + 1)):=by unfold ofN;rw [List.map_drop]
  have hmk:=hmax k hk
  have hyes:zc3 G.testBit true (all.getD k 0) = true→ofN ((all.take (k + 1)).filter (zc3 G.testBit true)) = ofN ((all.take k).filter (zc3 G.testBit true)) ++ [((all.getD k 0:Nat):Int)]:=fun h=>by rw [zg2 hk h,zaR,zdA]
  have hno:zc3 G.testBit true (all.getD k 0) = false→ofN ((all.take (k + 1)).filter (zc3 G.testBit true)) = ofN ((all.take k).filter (zc3 G.testBit true)):=fun h=>by rw [zkJ hk h]
  cases fz with
  | false =>
    simp (maxSteps:=9^7) -dsimp only [↓gp,gq,reduceCtorEq,reduceEqDiff,reduceLT,reduceLeDiff,reduceAdd,reduceMul,reduceSub,Nat.reduceBEq,Int.reduceToNat,Int.reduceLE,Int.reduceLT,Int.reduceNeg,reduceMod,gT,h3a,r11a,h4a,r4a,h12a,h13a,h14a,zad,hge,hwk,Int.toNat_natCast,hofd]
    refine ⟨fun _=>⟨hk,hk,by omega,?_⟩,fun h=>absurd hk h⟩
    refine zah (fun (j:Nat) s=>s.sl 3 = .own 11 1∧s.rw 11 = ⟨1,.sli 3 1 true (iL (ofN all))⟩∧s.sl 4 = .own 4 v∧s.rw 4 = ⟨v,.sli 3 1 false (iL (ofN ((all.take k).filter (zc3 G.testBit true))))⟩∧s.sl 12 = .own 11 1∧s.sl 13 = int all.length∧s.sl 14 = int k∧s.sl 6 = int (all.getD k 0:Nat)∧s.sl 7 = .v (.bool false)∧s.sl 22 = .sl true 1 (iL (ofN (all.drop (k + 1))))∧s.sl 23 = int (all.drop (k + 1)).length∧s.sl 24 = int j∧(j ≤ (all.drop (k + 1)).length∧∀ i,i < j→all.getD k 0 &&& (all.drop (k + 1)).getD i 0 ≠ all.getD k 0)) (fun j=>(all.drop (k + 1)).length - j) (0) (by refine ⟨?_,?_,?_,?_,?_,?_,?_,?_,?_,?_,?_,?_,by simp⟩ <;> (first | (simp (maxSteps:=9^7) -dsimp only [gr,reduceEqDiff,reduceLT,reduceAdd,reduceMod,Nat.reduceBEq,h3a,r11a,h4a,r4a,h12a,h13a,h14a,zad,hge,hwk,hofd];first | done | rfl | (simp;done)) | assumption | rfl)) ?_
    intro j sb ⟨h3b,r11b,h4b,r4b,h12b,h13b,h14b,h6b,h7b,h22b,h23b,h24b,hIb⟩
    obtain ⟨hj,hall⟩:=hIb
    simp (maxSteps:=9^7) -dsimp only [↓gp,gq,reduceCtorEq,reduceEqDiff,reduceLT,reduceLeDiff,reduceAdd,reduceMul,reduceSub,Nat.reduceBEq,Int.reduceToNat,Int.reduceLE,Int.reduceLT,Int.reduceNeg,reduceMod,gT,h3b,r11b,h4b,r4b,h12b,h13b,h14b,h6b,h7b,h22b,h23b,h24b,zad,hge,hwk]
    refine ⟨fun h2=>⟨h2,h2,fun he=>?_,fun he=>?_⟩,fun h2=>?_⟩
    ·have hm:=(hsub j h2).1 (by simpa using he)
     have hx:=hmk.1 ⟨_,zan 0 h2,hm⟩
     have e:=hno hx
     exact zac ((k + 1,v,true)) (by refine ⟨?_,?_,?_,?_,?_,?_,?_,by dsimp only;omega⟩ <;> (first | (simp (maxSteps:=9^7) -dsimp only [gr,reduceEqDiff,reduceLT,reduceAdd,reduceMod,Nat.reduceBEq,h3a,r11a,h4a,r4a,h12a,h13a,h14a,h3b,r11b,h4b,r4b,h12b,h13b,h14b,h6b,h7b,h22b,h23b,h24b,hwk,e];first | done | rfl | (simp;done)) | assumption | rfl)) (by first | omega | (simp only;omega) | (dsimp only;omega) | (show _ < _;simp;omega))
    ·have hm:¬ all.getD k 0 &&& (all.drop (k + 1)).getD j 0 = all.getD k 0:=fun h=>by rw [(hsub j h2).2 h] at he;simp at he
     have hw2:=zaa h2 (by omega)
     have hall2:∀ i,i < j + 1→all.getD k 0 &&& (all.drop (k + 1)).getD i 0 ≠ all.getD k 0:=fun i hi=>by
      rcases Nat.lt_succ_iff_lt_or_eq.1 hi with hi | rfl
      ·exact hall i hi
      ·exact hm
     exact zac (j + 1) (by refine ⟨?_,?_,?_,?_,?_,?_,?_,?_,?_,?_,?_,?_,⟨by omega,hall2⟩⟩ <;> (first | (simp (maxSteps:=9^7) -dsimp only [gr,reduceEqDiff,reduceLT,reduceAdd,reduceMod,Nat.reduceBEq,h3b,r11b,h4b,r4b,h12b,h13b,h14b,h6b,h7b,h22b,h23b,h24b,hw2];first | done | rfl | (simp;done)) | assumption | rfl)) (by first | omega | (simp only;omega) | (dsimp only;omega) | (show _ < _;simp;omega))
    ·have hx:zc3 G.testBit true (all.getD k 0) = true:=by
      cases hb:zc3 G.testBit true (all.getD k 0) with
      | true=>rfl
      | false =>
        obtain ⟨t,ht,hst⟩:=hmk.2 hb
        obtain ⟨i,hi,rfl⟩:=zaY 0 ht
        exact absurd hst (hall i (by omega))
     have e:=hyes hx
     exact ⟨by omega,zac ((k + 1,v + 1,true)) (by refine ⟨?_,?_,?_,?_,?_,?_,?_,by dsimp only;omega⟩ <;> (first | (simp (maxSteps:=9^7) -dsimp only [gr,reduceEqDiff,reduceLT,reduceAdd,reduceMod,Nat.reduceBEq,h3a,r11a,h4a,r4a,h12a,h13a,h14a,h3b,r11b,h4b,r4b,h12b,h13b,h14b,h6b,h7b,h22b,h23b,h24b,hwk,e];first | done | rfl | (simp;done)) | assumption | rfl)) (by first | omega | (simp only;omega) | (dsimp only;omega) | (show _ < _;simp;omega))⟩
  | true =>
    simp (maxSteps:=9^7) -dsimp only [↓gp,gq,reduceCtorEq,reduceEqDiff,reduceLT,reduceLeDiff,reduceAdd,reduceMul,reduceSub,Nat.reduceBEq,Int.reduceToNat,Int.reduceLE,Int.reduceLT,Int.reduceNeg,reduceMod,gT,h3a,r11a,h4a,r4a,h12a,h13a,h14a,zad,hge,hwk,Int.toNat_natCast,hofd]
    refine ⟨fun _=>⟨hk,hk,by omega,?_⟩,fun h=>absurd hk h⟩
    refine zah (fun (j:Nat) s=>s.sl 3 = .own 11 1∧s.rw 11 = ⟨1,.sli 3 1 true (iL (ofN all))⟩∧s.sl 4 = .own 4 v∧s.rw 4 = ⟨v,.sli 3 1 false (iL (ofN ((all.take k).filter (zc3 G.testBit true))))⟩∧s.sl 12 = .own 11 1∧s.sl 13 = int all.length∧s.sl 14 = int k∧s.sl 6 = int (all.getD k 0:Nat)∧s.sl 7 = .v (.bool false)∧s.sl 22 = .sl true 1 (iL (ofN (all.drop (k + 1))))∧s.sl 23 = int (all.drop (k + 1)).length∧s.sl 24 = int j∧(j ≤ (all.drop (k + 1)).length∧∀ i,i < j→all.getD k 0 &&& (all.drop (k + 1)).getD i 0 ≠ all.getD k 0)) (fun j=>(all.drop (k + 1)).length - j) (0) (by refine ⟨?_,?_,?_,?_,?_,?_,?_,?_,?_,?_,?_,?_,by simp⟩ <;> (first | (simp (maxSteps:=9^7) -dsimp only [gr,reduceEqDiff,reduceLT,reduceAdd,reduceMod,Nat.reduceBEq,h3a,r11a,h4a,r4a,h12a,h13a,h14a,zad,hge,hwk,hofd];first | done | rfl | (simp;done)) | assumption | rfl)) ?_
    intro j sb ⟨h3b,r11b,h4b,r4b,h12b,h13b,h14b,h6b,h7b,h22b,h23b,h24b,hIb⟩
    obtain ⟨hj,hall⟩:=hIb
    simp (maxSteps:=9^7) -dsimp only [↓gp,gq,reduceCtorEq,reduceEqDiff,reduceLT,reduceLeDiff,reduceAdd,reduceMul,reduceSub,Nat.reduceBEq,Int.reduceToNat,Int.reduceLE,Int.reduceLT,Int.reduceNeg,reduceMod,gT,h3b,r11b,h4b,r4b,h12b,h13b,h14b,h6b,h7b,h22b,h23b,h24b,zad,hge,hwk]
    refine ⟨fun h2=>⟨h2,h2,fun he=>?_,fun he=>?_⟩,fun h2=>?_⟩
    ·have hm:=(hsub j h2).1 (by simpa using he)
     have hx:=hmk.1 ⟨_,zan 0 h2,hm⟩
     have e:=hno hx
     exact zac ((k + 1,v,true)) (by refine ⟨?_,?_,?_,?_,?_,?_,?_,by dsimp only;omega⟩ <;> (first | (simp (maxSteps:=9^7) -dsimp only [gr,reduceEqDiff,reduceLT,reduceAdd,reduceMod,Nat.reduceBEq,h3a,r11a,h4a,r4a,h12a,h13a,h14a,h3b,r11b,h4b,r4b,h12b,h13b,h14b,h6b,h7b,h22b,h23b,h24b,hwk,e];first | done | rfl | (simp;done)) | assumption | rfl)) (by first | omega | (simp only;omega) | (dsimp only;omega) | (show _ < _;simp;omega))
    ·have hm:¬ all.getD k 0 &&& (all.drop (k + 1)).getD j 0 = all.getD k 0:=fun h=>by rw [(hsub j h2).2 h] at he;simp at he
     have hw2:=zaa h2 (by omega)
     have hall2:∀ i,i < j + 1→all.getD k 0 &&& (all.drop (k + 1)).getD i 0 ≠ all.getD k 0:=fun i hi=>by
      rcases Nat.lt_succ_iff_lt_or_eq.1 hi with hi | rfl
      ·exact hall i hi
      ·exact hm
     exact zac (j + 1) (by refine ⟨?_,?_,?_,?_,?_,?_,?_,?_,?_,?_,?_,?_,⟨by omega,hall2⟩⟩ <;> (first | (simp (maxSteps:=9^7) -dsimp only [gr,reduceEqDiff,reduceLT,reduceAdd,reduceMod,Nat.reduceBEq,h3b,r11b,h4b,r4b,h12b,h13b,h14b,h6b,h7b,h22b,h23b,h24b,hw2];first | done | rfl | (simp;done)) | assumption | rfl)) (by first | omega | (simp only;omega) | (dsimp only;omega) | (show _ < _;simp;omega))
    ·have hx:zc3 G.testBit true (all.getD k 0) = true:=by
      cases hb:zc3 G.testBit true (all.getD k 0) with
      | true=>rfl
      | false =>
        obtain ⟨t,ht,hst⟩:=hmk.2 hb
        obtain ⟨i,hi,rfl⟩:=zaY 0 ht
        exact absurd hst (hall i (by omega))
     have e:=hyes hx
     exact ⟨by omega,zac ((k + 1,v + 1,true)) (by refine ⟨?_,?_,?_,?_,?_,?_,?_,by dsimp only;omega⟩ <;> (first | (simp (maxSteps:=9^7) -dsimp only [gr,reduceEqDiff,reduceLT,reduceAdd,reduceMod,Nat.reduceBEq,h3a,r11a,h4a,r4a,h12a,h13a,h14a,h3b,r11b,h4b,r4b,h12b,h13b,h14b,h6b,h7b,h22b,h23b,h24b,hwk,e];first | done | rfl | (simp;done)) | assumption | rfl)) (by first | omega | (simp only;omega) | (dsimp only;omega) | (show _ < _;simp;omega))⟩
 ·simp (maxSteps:=9^7) -dsimp only [↓gp,gq,reduceCtorEq,reduceEqDiff,reduceLT,reduceLeDiff,reduceAdd,reduceMul,reduceSub,Nat.reduceBEq,Int.reduceToNat,Int.reduceLE,Int.reduceLT,Int.reduceNeg,reduceMod,gT,h3a,r11a,h4a,r4a,h12a,h13a,h14a,zad]
  refine ⟨fun h=>absurd h hk,fun _=>?_⟩
  have:k = all.length:=by omega
  rw [this,List.take_length]
theorem zDF {l:List Nat} (h:l.Pairwise zrm):l.Nodup:=h.imp fun {a b} hab e=>by subst e;exact zea hab
theorem zHe {a b:List Nat} (ha:a.Pairwise zrm) (hb:b.Pairwise zrm) (h:∀ s,s ∈ a ↔ s ∈ b):a = b :=
 List.Perm.eq_of_pairwise (fun x y _ _ h1 h2=>by unfold zrm at h1 h2;omega) ha hb ((List.perm_ext_iff_of_nodup (zDF ha) (zDF hb)).2 h)
theorem zAz {n:Int} {xs:List Int} (h:zaV n xs = true):xs = ofN (zdW (zal xs) true):=by
 have hp:=za2.1 h
 have hok:=zcQ h
 have e0:ofN (xs.map Int.toNat) = xs:=by
  unfold ofN
  rw [List.map_map]
  have:∀ x ∈ xs,((fun s:Nat=>(s:Int)) ∘ Int.toNat) x = id x:=fun x hx=>by
   have:=hok x hx
   show ((x.toNat:Nat):Int) = x
   omega
  rw [List.map_congr_left this,List.map_id]
 have hpw:(xs.map Int.toNat).Pairwise zrm:=by
  refine List.pairwise_iff_getElem.2 fun i j hi hj hij=>?_
  have hi':i < xs.length:=by simpa using hi
  have hj':j < xs.length:=by simpa using hj
  have hs:=zjc hp j i hij hj'
  rw [zb9 0 hi',zb9 0 hj'] at hs
  have a:=hok _ (List.getElem_mem hi')
  have b:=hok _ (List.getElem_mem hj')
  rw [List.getElem_map,List.getElem_map]
  generalize xs[i] = x at *
  generalize xs[j] = y at *
  unfold zlA at hs
  rw [zcC a,zcC b] at hs
  simp only [Bool.and_eq_true,decide_eq_true_iff] at hs
  obtain ⟨_,_,hs⟩:=hs
  unfold zrm
  split at hs
  ·rw [decide_eq_true_iff] at hs;omega
  ·rw [decide_eq_true_iff] at hs;omega
 have key:xs.map Int.toNat = zdW (zal xs) true:=by
  refine zHe hpw (zzW _ _) fun s=>?_
  rw [zg6]
  have hfb:∀ t,zal xs t = true ↔ ∃ x ∈ xs,x.toNat &&& t = t:=fun t=>by
   unfold zal;rw [List.any_eq_true]
   exact ⟨fun ⟨x,h1,h2⟩=>⟨x,h1,by simpa using h2⟩,fun ⟨x,h1,h2⟩=>⟨x,h1,by simpa using h2⟩⟩
  have hinc:∀ x ∈ xs,∀ y ∈ xs,x.toNat &&& y.toNat = x.toNat→x = y:=fun x hx y hy hxy=>by
   obtain ⟨i,hi,rfl⟩:=zaY 0 hx
   obtain ⟨j,hj,rfl⟩:=zaY 0 hy
   rcases Nat.lt_trichotomy i j with hij | hij | hij
   ·have:=(hp.2.2 j hj).2.2 i hij
    have a:=hok _ (zan 0 hi)
    have b:=hok _ (zan 0 hj)
    refine absurd ?_ this
    have e1:xs.getD i 0 = (((xs.getD i 0).toNat:Nat):Int):=by omega
    have e2:xs.getD j 0 = (((xs.getD j 0).toNat:Nat):Int):=by omega
    rw [e1,e2,za7 (by omega) (by omega),hxy]
   ·rw [hij]
   ·have hs:=zjc hp i j hij hi
    have a:=hok _ (zan 0 hi)
    have b:=hok _ (zan 0 hj)
    by_cases hne:xs.getD i 0 = xs.getD j 0
    ·exact hne
    ·have:=ze3 (s:=(xs.getD j 0).toNat) (t:=(xs.getD i 0).toNat) (by omega) (by omega) hxy (by omega)
     unfold zlA at hs
     rw [zcC a,zcC b] at hs
     simp only [Bool.and_eq_true,decide_eq_true_iff] at hs
     obtain ⟨_,_,hs⟩:=hs
     split at hs
     ·rw [decide_eq_true_iff] at hs;omega
     ·rw [decide_eq_true_iff] at hs;omega
  constructor
  ·intro hs
   obtain ⟨x,hx,rfl⟩:=List.mem_map.1 hs
   have a:=hok x hx
   refine ⟨⟨by omega,(hfb _).2 ⟨x,hx,Nat.and_self _⟩⟩,zcL.2 fun t ht hft hxt=>?_⟩
   obtain ⟨y,hy,hyt⟩:=(hfb t).1 hft
   have hxy:x.toNat &&& y.toNat = x.toNat:=by
    rw [← hxt,Nat.and_assoc,Nat.and_comm t,hyt]
   have:=hinc x hx y hy hxy
   subst this
   exact hyt.symm.trans hxt
  ·rintro ⟨⟨h64,hf⟩,he⟩
   obtain ⟨y,hy,hys⟩:=(hfb s).1 hf
   have b:=hok y hy
   have:=zcL.1 he y.toNat (by omega) ((hfb _).2 ⟨y,hy,Nat.and_self _⟩) (by rw [Nat.and_comm];exact hys)
   rw [← this];exact List.mem_map.2 ⟨y,hy,rfl⟩
 rw [← key,e0]
theorem zez (n:Int) (xs:List Int) (c:Nat) (hc:c < 64):AC Tryz.prog 87 [.ag [int n,zaH xs],int c] (.ag [.im (int n),.fr 3 1 (iL (ofN (zdW (rmF (zbb n xs) c) true)))]):=by
 refine AC.go (rs:=[.cell 4 27]) zaL mixed Tryz.func87 rfl rfl rfl (by kernel_rfl) fun hl=>?_
 simp (maxSteps:=9^7) -dsimp only [↓gp,gq,reduceCtorEq,reduceEqDiff,reduceLT,reduceLeDiff,reduceAdd,reduceMul,reduceSub,Nat.reduceBEq,Int.reduceToNat,Int.reduceLE,Int.reduceLT,Int.reduceNeg,reduceMod,gT]
 refine zab (zcG n xs) ?_
 have hol:=zad (za9 (zbb n xs))
 have holen:=zcY (zbb n xs)
 have hmem:=fun i (hi:i < (za9 (zbb n xs)).length)=>(zaZ.1 (zan 0 hi)).1
 have hmem2:∀ g ∈ za9 (zbb n xs),g < 64:=fun g hg=>(zaZ.1 hg).1
 have hext:zdW (inF (ofN ((za9 (zbb n xs)).filter fun t=>!(t &&& c == c)))) true = zdW (rmF (zbb n xs) c) true:=by
  refine zhO (fun s hs=>?_) true
  rw [zkI,Bool.eq_iff_iff,decide_eq_true_iff,List.mem_filter,zaZ]
  unfold rmF
  rw [Bool.and_eq_true]
  exact ⟨fun h=>⟨h.1.2,h.2⟩,fun h=>⟨⟨hs,h.1⟩,h.2⟩⟩
 rw [← hext]
 generalize za9 (zbb n xs) = all at *
 generalize hpq:(fun t:Nat=>!(t &&& c == c)) = q at *
 simp (maxSteps:=9^7) -dsimp only [↓gp,gq,reduceCtorEq,reduceEqDiff,reduceLT,reduceLeDiff,reduceAdd,reduceMul,reduceSub,Nat.reduceBEq,Int.reduceToNat,Int.reduceLE,Int.reduceLT,Int.reduceNeg,reduceMod,gT]
 refine zah (fun (za:Nat × Nat) s=>match za with | (k,v)=>s.sl 1 = int c∧s.sl 2 = .ref 2 1 0∧s.rw 2 = ⟨1,.box 27 [int n,zaH xs]⟩∧s.sl 4 = .ref 4 1 0∧s.rw 4 = ⟨1,.box 27 [int 0,.v (.slice none 0 0)]⟩∧s.sl 5 = .own 8 v∧s.rw 8 = ⟨v,.sli 3 1 false (iL (ofN ((all.take k).filter q)))⟩∧s.sl 6 = .own 10 1∧s.rw 10 = ⟨1,.sli 3 1 false (iL (ofN all))⟩∧s.sl 7 = int k∧(k ≤ all.length)) (fun (k,v)=>all.length - k) ((0,1)) (by refine ⟨?_,?_,?_,?_,?_,?_,?_,?_,?_,?_,by omega⟩ <;> (first | (simp (maxSteps:=9^7) -dsimp only [gr,reduceEqDiff,reduceLT,reduceAdd,reduceMod,Nat.reduceBEq];first | done | rfl | (simp;done)) | assumption | rfl)) ?_
 intro (k,v) sa ⟨h1a,h2a,r2a,h4a,r4a,h5a,r8a,h6a,r10a,h7a,hIa⟩
 have hfl:((all.take k).filter q).length ≤ k:=Nat.le_trans (List.length_filter_le _ _) (by rw [List.length_take];omega)
 simp (maxSteps:=9^7) -dsimp only [↓gp,gq,reduceCtorEq,reduceEqDiff,reduceLT,reduceLeDiff,reduceAdd,reduceMul,reduceSub,Nat.reduceBEq,Int.reduceToNat,Int.reduceLE,Int.reduceLT,Int.reduceNeg,reduceMod,gT,h1a,h2a,r2a,h4a,r4a,h5a,r8a,h6a,r10a,h7a,hol]
 refine ⟨fun h=>?_,fun h=>?_⟩
 ·have h64:=hmem k h
  have hw:=zaa h (show all.length ≤ 9223372036854775807 by omega)
  have hst:(all.take (k + 1)).filter q = (all.take k).filter q ++ [all.getD k 0].filter q:=by rw [zay 0 h,List.filter_append]
  have hqk:(zfO .i64 ((all.getD k 0:Nat):Int) (c:Int) != (c:Int)) = q (all.getD k 0):=by
   rw [← hpq,za7 (by omega) (by omega)]
   show _ = !(all.getD k 0 &&& c == c)
   rw [Bool.eq_iff_iff,bne_iff_ne,Bool.not_eq_true',beq_eq_false_iff_ne];omega
  rw [zaF h,hqk]
  refine ⟨h,h,fun hb=>⟨h,h,by rw [zad];omega,?_⟩,fun hb=>?_⟩
  ·have e:ofN ((all.take (k + 1)).filter q) = ofN ((all.take k).filter q) ++ [((all.getD k 0:Nat):Int)]:=by rw [hst,zaR,List.filter_cons,if_pos hb,List.filter_nil];rfl
   exact zac ((k + 1,v + 1)) (by refine ⟨?_,?_,?_,?_,?_,?_,?_,?_,?_,?_,by dsimp only;omega⟩ <;> (first | (simp (maxSteps:=9^7) -dsimp only [gr,reduceEqDiff,reduceLT,reduceAdd,reduceMod,Nat.reduceBEq,h1a,h2a,r2a,h4a,r4a,h5a,r8a,h6a,r10a,h7a,hw,e];first | done | rfl | (simp;done)) | assumption | rfl)) (by first | omega | (simp only;omega) | (dsimp only;omega) | (show _ < _;simp;omega))
  ·have e:(all.take (k + 1)).filter q = (all.take k).filter q:=by rw [hst,List.filter_cons,if_neg (by rw [hb];decide),List.filter_nil,List.append_nil]
   exact zac ((k + 1,v)) (by refine ⟨?_,?_,?_,?_,?_,?_,?_,?_,?_,?_,by dsimp only;omega⟩ <;> (first | (simp (maxSteps:=9^7) -dsimp only [gr,reduceEqDiff,reduceLT,reduceAdd,reduceMod,Nat.reduceBEq,h1a,h2a,r2a,h4a,r4a,h5a,r8a,h6a,r10a,h7a,hw,e];first | done | rfl | (simp;done)) | assumption | rfl)) (by first | omega | (simp only;omega) | (dsimp only;omega) | (show _ < _;simp;omega))
 ·have e:k = all.length:=by omega
  subst e
  rw [List.take_length]
  refine zab (zgZ n _ (fun x hx=>?_)) ?_
  ·obtain ⟨s,hs,rfl⟩:=List.mem_map.1 (show x ∈ (all.filter q).map fun s:Nat=>(s:Int) from hx)
   have:=hmem2 s (List.mem_filter.1 hs).1
   omega
  ·simp (maxSteps:=9^7) -dsimp only [↓gp,gq,reduceCtorEq,reduceEqDiff,reduceLT,reduceLeDiff,reduceAdd,reduceMul,reduceSub,Nat.reduceBEq,Int.reduceToNat,Int.reduceLE,Int.reduceLT,Int.reduceNeg,reduceMod,gT,h1a,h2a,r2a,h4a,r4a,h5a,r8a,h6a,r10a,h7a]
def zAA (n:Int) (f:Nat→Bool):Prop:=DnF f∧∀ s,s < 64→f s = true→s < 2 ^ n.toNat
theorem zDG {n:Int} (h1:1 ≤ n) (h6:n ≤ 6) {f:Nat→Bool} (h:zAA n f):zaV n (ofN (zdW f true)) = true:=by
 have:=zDx (m:=n.toNat) (by omega) (by omega) h.2
 rwa [show ((n.toNat:Nat):Int) = n by omega] at this
theorem zE5 {n:Int} (h1:1 ≤ n) (h6:n ≤ 6) {f:Nat→Bool} (h:zAA n f):∀ s,s < 64→zbb n (ofN (zdW f true)) s = f s:=fun s hs=>by
 unfold zbb
 rw [zDG h1 h6 h,Bool.true_and,zq1,zG5 h.1 hs]
theorem zDH {n:Int} {f:Nat→Bool} (h:zAA n f) (c:Nat):zAA n (rmF f c):=⟨zHY h.1 c,fun s hs hr=>h.2 s hs (by unfold rmF at hr;rw [Bool.and_eq_true] at hr;exact hr.1)⟩
theorem zsB {n:Int} {xs:List Int} (h:zaV n xs = true):zAA n (zal xs):=by
 refine ⟨fun s t a b=>zhM a b,fun s hs hf=>?_⟩
 unfold zal at hf
 rw [List.any_eq_true] at hf
 obtain ⟨x,hx,e⟩:=hf
 have e:=beq_iff_eq.1 e
 obtain ⟨h1,h6,hk⟩:=za2.1 h
 obtain ⟨i,hi,rfl⟩:=zaY 0 hx
 have hin:=(hk i hi).1
 unfold zcX at hin
 rw [decide_eq_true_iff] at hin
 obtain ⟨_,_,a,b⟩:=hin
 have:s ≤ (xs.getD i 0).toNat:=by rw [← e];exact Nat.and_le_left
 have e2:((2:Int) ^ n.toNat) = ((2 ^ n.toNat:Nat):Int):=by simp
 rw [e2] at b
 omega
theorem zf1 (G s t:Nat) (hG:G < 18446744073709551616) (hs:s < 64) (ht:t < 64):AC Tryz.prog 124 [int t,.eref false [u64 G] 0,.eref false [int s] 0] (.im (bool (rmF G.testBit s t))):=by
 refine AC.go (rs:=[.tmp 4]) zaL mixed Tryz.func124 rfl rfl rfl (by kernel_rfl) fun hl=>?_
 have e1:zcv .i64 (s:Int) (t:Int) = ((s ^^^ (s &&& t):Nat):Int):=zbm (by omega) (by omega)
 have e2:((((s ^^^ (s &&& t):Nat):Int)) != 0) = !(t &&& s == s):=by
  have:=zbP (a:=s) (b:=t)
  rw [Nat.and_comm t s,Bool.eq_iff_iff,bne_iff_ne,Bool.not_eq_true',beq_eq_false_iff_ne]
  omega
 simp (maxSteps:=9^7) -dsimp only [↓gp,gq,reduceCtorEq,reduceEqDiff,reduceLT,reduceLeDiff,reduceAdd,reduceMul,reduceSub,Nat.reduceBEq,Int.reduceToNat,Int.reduceLE,Int.reduceLT,Int.reduceNeg,reduceMod,gT,e1,e2]
 refine zab (zbF G _ hG ht) ?_
 simp (maxSteps:=9^7) -dsimp only [↓gp,gq,reduceCtorEq,reduceEqDiff,reduceLT,reduceLeDiff,reduceAdd,reduceMul,reduceSub,Nat.reduceBEq,Int.reduceToNat,Int.reduceLE,Int.reduceLT,Int.reduceNeg,reduceMod,gT,e1,e2]
 unfold rmF
 refine ⟨fun h=>?_,fun h=>?_⟩
 ·have h:G.testBit t = true:=by simpa using h
  rw [h];rfl
 ·have h:G.testBit t = false:=by simpa using h
  rw [h];rfl
theorem zdS (f:Nat→Bool) (s:Nat) (hs:s < 64):AC Tryz.prog 106 [u64 (zaB f 64:Nat),int s] (.im (u64 (zaB (rmF f s) 64:Nat))):=by
 refine AC.go (rs:=[.tmp 4]) zaL mixed Tryz.func106 rfl rfl rfl (by kernel_rfl) fun hl=>?_
 have hlt:=zbl f 64
 simp (maxSteps:=9^7) -dsimp only [↓gp,gq,reduceCtorEq,reduceEqDiff,reduceLT,reduceLeDiff,reduceAdd,reduceMul,reduceSub,Nat.reduceBEq,Int.reduceToNat,Int.reduceLE,Int.reduceLT,Int.reduceNeg,reduceMod,gT]
 refine zab (zdf 6 (by omega) _ [.eref false [u64 (zaB f 64:Nat)] 0,.eref false [int s] 0] (rmF (zaB f 64).testBit s) (fun rw=>rfl) fun t ht=>zf1 _ s t (by omega) hs (by omega)) ?_
 rw [zm6 (w':=rmF f s) (by omega) fun t ht=>by rw [decide_eq_true (show t < 2 ^ 6 by omega),Bool.true_and];unfold rmF;rw [za5 f ht]]
 simp (maxSteps:=9^7) -dsimp only [↓gp,gq,reduceCtorEq,reduceEqDiff,reduceLT,reduceLeDiff,reduceAdd,reduceMul,reduceSub,Nat.reduceBEq,Int.reduceToNat,Int.reduceLE,Int.reduceLT,Int.reduceNeg,reduceMod,gT]
noncomputable def lkX (xs:List Int) (p:Nat):List Int:=ofN (zdW (inF (zk8 xs (2 ^ p))) true)
noncomputable def dlX (xs:List Int) (p:Nat):List Int:=ofN (zdW (rmF (zal xs) (2 ^ p)) true)
noncomputable def zqF (xs:List Int) (p:Nat):Bool:=zal xs (2 ^ p) && (lkX xs p).all fun s=>!decide (s ∈ dlX xs p)
def kyX (xs:List Int):Nat:=zaB (zal xs) 64
theorem zBx (xs:List Int):kyX xs < 18446744073709551616:=by have:=zbl (zal xs) 64;unfold kyX;omega
theorem p64 {p:Nat} (hp:p < 6):2 ^ p < 64:=by have:=Nat.pow_lt_pow_right (a:=2) (by decide) hp;omega
theorem zzz {n:Int} {xs:List Int} (h:zaV n xs = true):ofN (zdW (kyX xs).testBit true) = xs:=by
 conv=>rhs;rw [zAz h]
 exact congrArg ofN (zhO (fun s hs=>za5 (zal xs) hs) true)
theorem zqG {m:Nat} {xs:List Int} (h:zaV (m:Int) xs = true) {p:Nat} (hp:p < 6):zaV (m:Int) (lkX xs p) = true:=zz4 h (p64 hp)
theorem zr5 {m:Nat} {xs:List Int} (h:zaV (m:Int) xs = true) (p:Nat):zaV (m:Int) (dlX xs p) = true:=by
 obtain ⟨h1,h6,_⟩:=za2.1 h
 exact zDG h1 h6 (zDH (zsB h) _)
theorem zr6 {m:Nat} {xs:List Int} (h:zaV (m:Int) xs = true) {p:Nat} (hp:p < 6) (t:Nat):zal (lkX xs p) t = zbp (zal xs) (2 ^ p) t:=congrFun (zBS h (p64 hp)) t
theorem zr7 {m:Nat} {xs:List Int} (h:zaV (m:Int) xs = true) (p:Nat) {t:Nat} (ht:t < 64):zal (dlX xs p) t = rmF (zal xs) (2 ^ p) t:=by
 obtain ⟨h1,h6,_⟩:=za2.1 h
 have:=zE5 h1 h6 (zDH (zsB h) (2 ^ p)) t ht
 unfold zbb at this
 have e:=zr5 h p
 unfold dlX at e ⊢
 rwa [e,Bool.true_and] at this
theorem zGD {m:Nat} {xs:List Int} (h:zaV (m:Int) xs = true) {p:Nat} (hp:p < 6):zaB (zbp (zal xs) (2 ^ p)) 64 = kyX (lkX xs p):=zc4 fun t _=>(zr6 h hp t).symm
theorem zGE {m:Nat} {xs:List Int} (h:zaV (m:Int) xs = true) (p:Nat):zaB (rmF (zal xs) (2 ^ p)) 64 = kyX (dlX xs p):=zc4 fun t ht=>(zr7 h p (by omega)).symm
theorem zkx {q:Int→Bool} {l:List Int} {j:Nat} (hj:j < l.length) (h:q (l.getD j 0) = false):l.all q = false:=by
 rw [List.all_eq_false]
 exact ⟨_,zan 0 hj,by rw [h];decide⟩
theorem zik {q:Int→Bool} {l:List Int} {j:Nat} (hj:j < l.length):(l.take (j + 1)).all q = ((l.take j).all q && q (l.getD j 0)):=by
 rw [zay 0 hj,List.all_append];simp
theorem zqH (m:Nat) (xs:List Int) (p:Nat) (h:zaV (m:Int) xs = true) (hp:p < 6):AC Tryz.prog 104 [u64 (kyX xs),int p] (.im (bool (zqF xs p))):=by
 refine AC.go (rs:=[.tmp 4]) zaL mixed Tryz.func104 rfl rfl rfl (by kernel_rfl) fun hl=>?_
 have hb:=p64 hp
 have hky:=zBx xs
 have hun:IntKind.u64.wrap (p:Int) = (p:Int):=zba (by omega)
 have hsh:znL .i64 1 (p:Int) = ((2 ^ p:Nat):Int):=zbt (by omega)
 have hf:(kyX xs).testBit (2 ^ p) = zal xs (2 ^ p):=za5 _ hb
 simp (maxSteps:=9^7) -dsimp only [↓gp,gq,reduceCtorEq,reduceEqDiff,reduceLT,reduceLeDiff,reduceAdd,reduceMul,reduceSub,Nat.reduceBEq,Int.reduceToNat,Int.reduceLE,Int.reduceLT,Int.reduceNeg,reduceMod,gT,hun,hsh]
 refine zab (zbF (kyX xs) _ hky hb) ?_
 rw [hf]
 simp (maxSteps:=9^7) -dsimp only [↓gp,gq,reduceCtorEq,reduceEqDiff,reduceLT,reduceLeDiff,reduceAdd,reduceMul,reduceSub,Nat.reduceBEq,Int.reduceToNat,Int.reduceLE,Int.reduceLT,Int.reduceNeg,reduceMod,gT,hun,hsh]
 unfold zqF
 refine ⟨fun h0=>?_,fun h0=>zab (zdS (zal xs) _ hb) ?_⟩
 ·have h0:zal xs (2 ^ p) = false:=by simpa using h0
  rw [h0];rfl
 have h0:zal xs (2 ^ p) = true:=by simpa using h0
 rw [zGE h,h0,Bool.true_and]
 simp (maxSteps:=9^7) -dsimp only [↓gp,gq,reduceCtorEq,reduceEqDiff,reduceLT,reduceLeDiff,reduceAdd,reduceMul,reduceSub,Nat.reduceBEq,Int.reduceToNat,Int.reduceLE,Int.reduceLT,Int.reduceNeg,reduceMod,gT]
 refine zab (zcR _ (zBx _)) ?_
 rw [zzz (zr5 h p)]
 simp (maxSteps:=9^7) -dsimp only [↓gp,gq,reduceCtorEq,reduceEqDiff,reduceLT,reduceLeDiff,reduceAdd,reduceMul,reduceSub,Nat.reduceBEq,Int.reduceToNat,Int.reduceLE,Int.reduceLT,Int.reduceNeg,reduceMod,gT]
 refine zab (zej (zal xs) _ hb) ?_
 rw [zGD h hp]
 simp (maxSteps:=9^7) -dsimp only [↓gp,gq,reduceCtorEq,reduceEqDiff,reduceLT,reduceLeDiff,reduceAdd,reduceMul,reduceSub,Nat.reduceBEq,Int.reduceToNat,Int.reduceLE,Int.reduceLT,Int.reduceNeg,reduceMod,gT]
 refine zab (zcR _ (zBx _)) ?_
 rw [zzz (zqG h hp)]
 have hLl:=zkR (zqG h hp)
 generalize lkX xs p = L at *
 generalize dlX xs p = D at *
 simp (maxSteps:=9^7) -dsimp only [↓gp,gq,reduceCtorEq,reduceEqDiff,reduceLT,reduceLeDiff,reduceAdd,reduceMul,reduceSub,Nat.reduceBEq,Int.reduceToNat,Int.reduceLE,Int.reduceLT,Int.reduceNeg,reduceMod,gT]
 refine zah (fun (j:Nat) s=>s.sl 6 = .own 19 1∧s.rw 19 = ⟨1,.sli 3 1 false (iL D)⟩∧s.sl 23 = .own 23 1∧s.rw 23 = ⟨1,.sli 3 1 false (iL L)⟩∧s.sl 24 = int L.length∧s.sl 25 = int j∧(j ≤ L.length∧(L.take j).all (fun s=>!decide (s ∈ D)) = true)) (fun j=>L.length - j) (0) (by refine ⟨?_,?_,?_,?_,?_,?_,⟨Nat.zero_le _,rfl⟩⟩ <;> (first | (simp (maxSteps:=9^7) -dsimp only [gr,reduceEqDiff,reduceLT,reduceAdd,reduceMod,Nat.reduceBEq];first | done | rfl | (simp;done)) | assumption | rfl)) ?_
 intro j sa ⟨h6a,r19a,h23a,r23a,h24a,h25a,hIa⟩
 obtain ⟨hj,hall⟩:=hIa
 simp (maxSteps:=9^7) -dsimp only [↓gp,gq,reduceCtorEq,reduceEqDiff,reduceLT,reduceLeDiff,reduceAdd,reduceMul,reduceSub,Nat.reduceBEq,Int.reduceToNat,Int.reduceLE,Int.reduceLT,Int.reduceNeg,reduceMod,gT,h6a,r19a,h23a,r23a,h24a,h25a]
 refine ⟨fun h1=>⟨h1,h1,zab (zhj _ _) ?_⟩,fun h1=>?_⟩
 ·simp (maxSteps:=9^7) -dsimp only [↓gp,gq,reduceCtorEq,reduceEqDiff,reduceLT,reduceLeDiff,reduceAdd,reduceMul,reduceSub,Nat.reduceBEq,Int.reduceToNat,Int.reduceLE,Int.reduceLT,Int.reduceNeg,reduceMod,gT,h6a,r19a,h23a,r23a,h24a,h25a]
  refine ⟨fun h2=>?_,fun h2=>?_⟩
  ·rw [zkx h1 (by rw [decide_eq_true h2];rfl)]
  ·exact zac (j + 1) (by refine ⟨?_,?_,?_,?_,?_,?_,⟨by omega,by rw [zik h1,hall,decide_eq_false h2];rfl⟩⟩ <;> (first | (simp (maxSteps:=9^7) -dsimp only [gr,reduceEqDiff,reduceLT,reduceAdd,reduceMod,Nat.reduceBEq,h6a,r19a,h23a,r23a,h24a,h25a,zaa h1 (by omega)];first | done | rfl | (simp;done)) | assumption | rfl)) (by first | omega | (simp only;omega) | (dsimp only;omega) | (show _ < _;simp;omega))
 ·rw [show L.take j = L from List.take_of_length_le (by omega)] at hall
  rw [hall]
theorem zhB (m:Nat) (xs:List Int) (p:Nat) (h:zaV (m:Int) xs = true) (hp:p < m):AC Tryz.prog 86 [.ag [int m,zaH xs],int p] (.im (bool (zqF xs p))):=by
 refine AC.go (rs:=[.tmp 4]) zaL mixed Tryz.func86 rfl rfl rfl (by kernel_rfl) fun hl=>?_
 obtain ⟨h1,h6,_⟩:=za2.1 h
 have hp6:p < 6:=by omega
 have hb:=p64 hp6
 have hun:IntKind.u64.wrap (p:Int) = (p:Int):=zba (by omega)
 have hsh:znL .i64 1 (p:Int) = ((2 ^ p:Nat):Int):=zbt (by omega)
 have hw:IntKind.i64.wrap ((m:Int) - 1) = (m:Int) - 1:=zap (by omega) (by omega)
 have hok:=zcQ h
 simp (maxSteps:=9^7) -dsimp only [↓gp,gq,reduceCtorEq,reduceEqDiff,reduceLT,reduceLeDiff,reduceAdd,reduceMul,reduceSub,Nat.reduceBEq,Int.reduceToNat,Int.reduceLE,Int.reduceLT,Int.reduceNeg,reduceMod,gT]
 refine zab (zaI m xs) ?_
 have hin:(decide ((0:Int) ≤ (p:Int)) && decide ((p:Int) ≤ (m:Int) - 1)) = true:=by
  rw [Bool.and_eq_true,decide_eq_true_iff,decide_eq_true_iff];omega
 simp (maxSteps:=9^7) -dsimp only [↓gp,gq,reduceCtorEq,reduceEqDiff,reduceLT,reduceLeDiff,reduceAdd,reduceMul,reduceSub,Nat.reduceBEq,Int.reduceToNat,Int.reduceLE,Int.reduceLT,Int.reduceNeg,reduceMod,gT,h,hw]
 refine zab (zc5 _ _ _) ?_
 rw [hin]
 simp (maxSteps:=9^7) -dsimp only [↓gp,gq,reduceCtorEq,reduceEqDiff,reduceLT,reduceLeDiff,reduceAdd,reduceMul,reduceSub,Nat.reduceBEq,Int.reduceToNat,Int.reduceLE,Int.reduceLT,Int.reduceNeg,reduceMod,gT,h,hw,hun,hsh]
 refine zab (zdu m xs _ hok hb) ?_
 simp (maxSteps:=9^7) -dsimp only [↓gp,gq,reduceCtorEq,reduceEqDiff,reduceLT,reduceLeDiff,reduceAdd,reduceMul,reduceSub,Nat.reduceBEq,Int.reduceToNat,Int.reduceLE,Int.reduceLT,Int.reduceNeg,reduceMod,gT,h,hw,hun,hsh]
 unfold zqF
 refine ⟨fun h0=>?_,fun h0=>?_⟩
 ·have h0:zal xs (2 ^ p) = false:=by simpa using h0
  rw [h0];rfl
 have h0:zal xs (2 ^ p) = true:=by simpa using h0
 have hxl:=zkR h
 rw [h0,Bool.true_and]
 refine zab (zek m xs _ hb hok (by omega)) ?_
 simp (maxSteps:=9^7) -dsimp only [↓gp,gq,reduceCtorEq,reduceEqDiff,reduceLT,reduceLeDiff,reduceAdd,reduceMul,reduceSub,Nat.reduceBEq,Int.reduceToNat,Int.reduceLE,Int.reduceLT,Int.reduceNeg,reduceMod,gT,h,hw,hun,hsh]
 refine zab (zez m xs _ hb) ?_
 have hfac:zbb (m:Int) xs = zal xs:=by funext t;unfold zbb;rw [h,Bool.true_and]
 rw [hfac]
 have hLl:=zkR (zqG h hp6)
 simp (maxSteps:=9^7) -dsimp only [↓gp,gq,reduceCtorEq,reduceEqDiff,reduceLT,reduceLeDiff,reduceAdd,reduceMul,reduceSub,Nat.reduceBEq,Int.reduceToNat,Int.reduceLE,Int.reduceLT,Int.reduceNeg,reduceMod,gT,h,hw,hun,hsh]
 have eL:ofN (zdW (inF (zk8 xs (2 ^ p))) true) = lkX xs p:=rfl
 have eD:ofN (zdW (rmF (zal xs) (2 ^ p)) true) = dlX xs p:=rfl
 rw [eL,eD]
 generalize lkX xs p = L at *
 generalize dlX xs p = D at *
 refine zah (fun (j:Nat) s=>s.sl 5 = .ref 5 1 0∧s.rw 5 = ⟨1,.box 27 [int m,.own 31 1]⟩∧s.rw 31 = ⟨1,.sli 3 1 false (iL L)⟩∧s.sl 6 = .ref 6 1 0∧s.rw 6 = ⟨1,.box 27 [int m,.own 36 1]⟩∧s.rw 36 = ⟨1,.sli 3 1 false (iL D)⟩∧s.sl 7 = int j∧(j ≤ L.length∧(L.take j).all (fun s=>!decide (s ∈ D)) = true)) (fun j=>L.length - j) (0) (by refine ⟨?_,?_,?_,?_,?_,?_,?_,⟨Nat.zero_le _,rfl⟩⟩ <;> (first | (simp (maxSteps:=9^7) -dsimp only [gr,reduceEqDiff,reduceLT,reduceAdd,reduceMod,Nat.reduceBEq];first | done | rfl | (simp;done)) | assumption | rfl)) ?_
 intro j sa ⟨h5a,r5a,r31a,h6a,r6a,r36a,h7a,hIa⟩
 obtain ⟨hj,hall⟩:=hIa
 simp (maxSteps:=9^7) -dsimp only [↓gp,gq,reduceCtorEq,reduceEqDiff,reduceLT,reduceLeDiff,reduceAdd,reduceMul,reduceSub,Nat.reduceBEq,Int.reduceToNat,Int.reduceLE,Int.reduceLT,Int.reduceNeg,reduceMod,gT,h5a,r5a,r31a,h6a,r6a,r36a,h7a]
 refine ⟨fun h1=>?_,fun h1=>?_⟩
 ·refine ⟨by kernel_rfl,h1,h1,zab (zeH _ _) ?_⟩
  simp (maxSteps:=9^7) -dsimp only [↓gp,gq,reduceCtorEq,reduceEqDiff,reduceLT,reduceLeDiff,reduceAdd,reduceMul,reduceSub,Nat.reduceBEq,Int.reduceToNat,Int.reduceLE,Int.reduceLT,Int.reduceNeg,reduceMod,gT,h5a,r5a,r31a,h6a,r6a,r36a,h7a]
  refine ⟨fun h2=>?_,fun h2=>?_⟩
  ·rw [zkx h1 (by rw [decide_eq_true h2];rfl)]
  ·exact zac (j + 1) (by refine ⟨?_,?_,?_,?_,?_,?_,?_,⟨by omega,by rw [zik h1,hall,decide_eq_false h2];rfl⟩⟩ <;> (first | (simp (maxSteps:=9^7) -dsimp only [gr,reduceEqDiff,reduceLT,reduceAdd,reduceMod,Nat.reduceBEq,h5a,r5a,r31a,h6a,r6a,r36a,h7a,zaa h1 (by omega)];first | done | rfl | (simp;done)) | assumption | rfl)) (by first | omega | (simp only;omega) | (dsimp only;omega) | (show _ < _;simp;omega))
 ·rw [show L.take j = L from List.take_of_length_le (by omega)] at hall
  rw [hall]
noncomputable def usX (xs:List Int):Nat:=((List.range 6).filter fun p=>zal xs (2 ^ p)).length
noncomputable def zv8:Nat→List Int→Bool
 | 0,_=>true
 | r + 1,xs=>decide (xs.length ≤ 1) || (List.range 6).any fun p=>zqF xs p && zv8 r (lkX xs p) && zv8 r (dlX xs p)
theorem zzv (r:Nat) (xs:List Int):zv8 (r + 1) xs = (decide (xs.length ≤ 1) || (List.range 6).any fun p=>zqF xs p && zv8 r (lkX xs p) && zv8 r (dlX xs p)):=rfl
noncomputable def zuX (xs:List Int):Bool:=zv8 7 xs
theorem zr4 {a b:Nat→Bool} {p:Nat}:∀ {l:List Nat},(∀ q ∈ l,a q = true→b q = true)→p ∈ l→b p = true→a p = false→(l.filter a).length < (l.filter b).length
 | [],_,h,_,_=>by cases h
 | x :: l,h,hp,hb,ha=>by
   have hle:(l.filter a).length ≤ (l.filter b).length:=by
    have:l.filter a = (l.filter b).filter a:=by
     rw [List.filter_filter]
     refine List.filter_congr fun q hq=>?_
     have:=h q (List.mem_cons_of_mem _ hq)
     cases hh:a q
     ·rfl
     ·rw [this hh];rfl
    rw [this];exact List.length_filter_le _ _
   rcases List.mem_cons.1 hp with rfl | hp
   ·rw [List.filter_cons,List.filter_cons,if_pos hb,if_neg (by rw [ha];decide),List.length_cons];omega
   ·have ih:=zr4 (fun q hq=>h q (List.mem_cons_of_mem _ hq)) hp hb ha
    have hx:=h x (by simp)
    rw [List.filter_cons,List.filter_cons]
    cases h1:a x
    ·cases h2:b x
     ·simpa using ih
     ·simp;omega
    ·rw [hx h1];simpa using ih
theorem zBu (xs:List Int):usX xs ≤ 6:=by
 have:=List.length_filter_le (fun p=>zal xs (2 ^ p)) (List.range 6)
 rw [List.length_range] at this;exact this
theorem zzw {m:Nat} {xs:List Int} (h:zaV (m:Int) xs = true) {p:Nat} (hp:p < 6) (hf:zal xs (2 ^ p) = true):usX (lkX xs p) < usX xs:=by
 refine zr4 (p:=p) (fun q hq e=>?_) (List.mem_range.2 hp) hf ?_
 ·rw [zr6 h hp] at e
  unfold zbp at e
  rw [Bool.and_eq_true] at e
  exact zhM e.2 (Nat.eq_of_testBit_eq fun i=>by rw [Nat.testBit_and,Nat.testBit_or];cases Nat.testBit (2 ^ q) i <;> simp)
 ·rw [zr6 h hp]
  unfold zbp
  rw [Nat.and_self,show ((2 ^ p == 0) = false) from by rw [beq_eq_false_iff_ne];have:=Nat.two_pow_pos p;omega];rfl
theorem zzx {m:Nat} {xs:List Int} (h:zaV (m:Int) xs = true) {p:Nat} (hp:p < 6) (hf:zal xs (2 ^ p) = true):usX (dlX xs p) < usX xs:=by
 refine zr4 (p:=p) (fun q hq e=>?_) (List.mem_range.2 hp) hf ?_
 ·rw [zr7 h p (p64 (List.mem_range.1 hq))] at e
  unfold rmF at e
  rw [Bool.and_eq_true] at e
  exact e.1
 ·rw [zr7 h p (p64 hp)]
  unfold rmF
  rw [Nat.and_self];simp
theorem zgT {xs:List Int} {p:Nat} (h:zqF xs p = true):zal xs (2 ^ p) = true:=by
 unfold zqF at h;rw [Bool.and_eq_true] at h;exact h.1
theorem any_eq {a b:Nat→Bool} {l:List Nat} (h:∀ q ∈ l,a q = b q):l.any a = l.any b:=by
 rw [Bool.eq_iff_iff,List.any_eq_true,List.any_eq_true]
 exact ⟨fun ⟨q,hq,e⟩=>⟨q,hq,by rw [← h q hq];exact e⟩,fun ⟨q,hq,e⟩=>⟨q,hq,by rw [h q hq];exact e⟩⟩
theorem zgU (m:Nat):∀ (r:Nat) (xs:List Int),zaV (m:Int) xs = true→usX xs < r→∀ r',usX xs < r'→zv8 r xs = zv8 r' xs
 | 0,_,_,h,_,_=>by omega
 | r + 1,xs,hc,h,0,h'=>by omega
 | r + 1,xs,hc,h,r' + 1,h'=>by
   unfold zv8
   congr 1
   refine any_eq fun p hp=>?_
   have hp:=List.mem_range.1 hp
   cases hs:zqF xs p
   ·rfl
   ·have hf:=zgT hs
    have h1:=zzw hc hp hf
    have h2:=zzx hc hp hf
    rw [zgU m r _ (zqG hc hp) (by omega) r' (by omega),zgU m r _ (zr5 hc p) (by omega) r' (by omega)]
noncomputable def zAR (xs:List Int) (p:Nat):Bool:=zqF xs p && zuX (lkX xs p) && zuX (dlX xs p)
theorem zzy {m:Nat} {xs:List Int} (hc:zaV (m:Int) xs = true):zuX xs = (decide (xs.length ≤ 1) || (List.range 6).any (zAR xs)):=by
 refine (zzv 6 xs).trans (congrArg (decide (xs.length ≤ 1) || ·) (any_eq fun p hp=>?_))
 have hp:=List.mem_range.1 hp
 show (zqF xs p && zv8 6 (lkX xs p) && zv8 6 (dlX xs p)) = (zqF xs p && zv8 7 (lkX xs p) && zv8 7 (dlX xs p))
 cases hs:zqF xs p
 ·simp only [Bool.false_and]
 ·have hf:=zgT hs
  have h0:=zBu xs
  have h1:=zzw hc hp hf
  have h2:=zzx hc hp hf
  rw [zgU m 6 _ (zqG hc hp) (by omega) 7 (by omega),zgU m 6 _ (zr5 hc p) (by omega) 7 (by omega)]
theorem zEi {m:Nat} {xs:List Int} (hc:zaV (m:Int) xs = true) {p:Nat} (hp:p < 6) (hm:m ≤ p):zqF xs p = false:=by
 have hn:zal xs (2 ^ p) = false:=by
  refine Bool.eq_false_iff.2 fun hf=>?_
  have:=(zsB hc).2 _ (p64 hp) hf
  rw [Int.toNat_natCast] at this
  have:=Nat.pow_le_pow_right (show 0 < 2 by decide) hm
  omega
 unfold zqF;rw [hn];rfl
theorem zBv {m:Nat} {xs:List Int} (hc:zaV (m:Int) xs = true) (h:∀ p,p < m→zAR xs p = false):(List.range 6).any (zAR xs) = false:=by
 rw [List.any_eq_false]
 intro p hp
 by_cases hm:p < m
 ·rw [h p hm];decide
 ·unfold zAR;rw [zEi hc (List.mem_range.1 hp) (by omega)];simp
theorem zkw (m r:Nat) (ih:∀ xs,zaV (m:Int) xs = true→usX xs < r→AC Tryz.prog 37 [.ag [int m,zaH xs]] (.im (bool (zuX xs)))) (xs:List Int) (p:Nat) (h:zaV (m:Int) xs = true) (hu:usX xs < r + 1) (hp:p < m):AC Tryz.prog 61 [.ag [int m,zaH xs],int p] (.im (bool (zAR xs p))):=by
 refine AC.go (rs:=[.tmp 4]) zaL mixed Tryz.func61 rfl rfl rfl (by kernel_rfl) fun hl=>?_
 obtain ⟨h1,h6,_⟩:=za2.1 h
 have hp6:p < 6:=by omega
 have hb:=p64 hp6
 have hun:IntKind.u64.wrap (p:Int) = (p:Int):=zba (by omega)
 have hsh:znL .i64 1 (p:Int) = ((2 ^ p:Nat):Int):=zbt (by omega)
 have hok:=zcQ h
 have hxl:=zkR h
 have hfac:zbb (m:Int) xs = zal xs:=by funext t;unfold zbb;rw [h,Bool.true_and]
 have eL:ofN (zdW (inF (zk8 xs (2 ^ p))) true) = lkX xs p:=rfl
 have eD:ofN (zdW (rmF (zal xs) (2 ^ p)) true) = dlX xs p:=rfl
 simp (maxSteps:=9^7) -dsimp only [↓gp,gq,reduceCtorEq,reduceEqDiff,reduceLT,reduceLeDiff,reduceAdd,reduceMul,reduceSub,Nat.reduceBEq,Int.reduceToNat,Int.reduceLE,Int.reduceLT,Int.reduceNeg,reduceMod,gT,hun,hsh]
 refine zab (zhB m xs p h hp) ?_
 simp (maxSteps:=9^7) -dsimp only [↓gp,gq,reduceCtorEq,reduceEqDiff,reduceLT,reduceLeDiff,reduceAdd,reduceMul,reduceSub,Nat.reduceBEq,Int.reduceToNat,Int.reduceLE,Int.reduceLT,Int.reduceNeg,reduceMod,gT,hun,hsh]
 unfold zAR
 refine ⟨fun hs=>?_,fun hs=>?_⟩
 ·have hf:=zgT hs
  have u1:=zzw h hp6 hf
  have u2:=zzx h hp6 hf
  refine zab (zek m xs _ hb hok (by omega)) ?_
  rw [eL]
  simp (maxSteps:=9^7) -dsimp only [↓gp,gq,reduceCtorEq,reduceEqDiff,reduceLT,reduceLeDiff,reduceAdd,reduceMul,reduceSub,Nat.reduceBEq,Int.reduceToNat,Int.reduceLE,Int.reduceLT,Int.reduceNeg,reduceMod,gT,hun,hsh]
  refine zab (ih _ (zqG h hp6) (by omega)) ?_
  rw [hs,Bool.true_and]
  simp (maxSteps:=9^7) -dsimp only [↓gp,gq,reduceCtorEq,reduceEqDiff,reduceLT,reduceLeDiff,reduceAdd,reduceMul,reduceSub,Nat.reduceBEq,Int.reduceToNat,Int.reduceLE,Int.reduceLT,Int.reduceNeg,reduceMod,gT,hun,hsh]
  refine ⟨fun hd=>?_,fun hd=>?_⟩
  ·refine zab (zez m xs _ hb) ?_
   rw [hfac,eD]
   simp (maxSteps:=9^7) -dsimp only [↓gp,gq,reduceCtorEq,reduceEqDiff,reduceLT,reduceLeDiff,reduceAdd,reduceMul,reduceSub,Nat.reduceBEq,Int.reduceToNat,Int.reduceLE,Int.reduceLT,Int.reduceNeg,reduceMod,gT,hun,hsh]
   refine zab (ih _ (zr5 h p) (by omega)) ?_
   simp (maxSteps:=9^7) -dsimp only [↓gp,gq,reduceCtorEq,reduceEqDiff,reduceLT,reduceLeDiff,reduceAdd,reduceMul,reduceSub,Nat.reduceBEq,Int.reduceToNat,Int.reduceLE,Int.reduceLT,Int.reduceNeg,reduceMod,gT]
   rw [hd];rfl
  ·rw [hd];rfl
 ·rw [hs];rfl
theorem zlj (m:Nat):∀ (r:Nat) (xs:List Int),zaV (m:Int) xs = true→usX xs < r→AC Tryz.prog 37 [.ag [int m,zaH xs]] (.im (bool (zuX xs))):=by
 intro r
 induction r with
 | zero=>intro xs _ h;omega
 | succ r ih =>
   intro xs h hu
   refine AC.go (rs:=[.tmp 2]) zaL mixed Tryz.func37 rfl rfl rfl (by kernel_rfl) fun hl=>?_
   obtain ⟨h1,h6,_⟩:=za2.1 h
   have hde:=zzy h
   simp (maxSteps:=9^7) -dsimp only [↓gp,gq,reduceCtorEq,reduceEqDiff,reduceLT,reduceLeDiff,reduceAdd,reduceMul,reduceSub,Nat.reduceBEq,Int.reduceToNat,Int.reduceLE,Int.reduceLT,Int.reduceNeg,reduceMod,gT]
   refine ⟨fun h0=>?_,fun h0=>?_⟩
   ·rw [hde,decide_eq_true (show xs.length ≤ 1 by omega)];rfl
   rw [decide_eq_false (show ¬ xs.length ≤ 1 by omega),Bool.false_or] at hde
   refine zah (fun (j:Nat) s=>s.sl 1 = .ref 1 1 0∧s.rw 1 = ⟨1,.box 27 [int m,zaH xs]⟩∧s.sl 3 = int j∧(j ≤ m∧∀ p,p < j→zAR xs p = false)) (fun j=>m - j) (0) (by refine ⟨?_,?_,?_,⟨Nat.zero_le _,fun p hp=>absurd hp (Nat.not_lt_zero p)⟩⟩ <;> (first | (simp (maxSteps:=9^7) -dsimp only [gr,reduceEqDiff,reduceLT,reduceAdd,reduceMod,Nat.reduceBEq];first | done | rfl | (simp;done)) | assumption | rfl)) ?_
   intro j sa ⟨h1a,r1a,h3a,hIa⟩
   obtain ⟨hj,hall⟩:=hIa
   simp (maxSteps:=9^7) -dsimp only [↓gp,gq,reduceCtorEq,reduceEqDiff,reduceLT,reduceLeDiff,reduceAdd,reduceMul,reduceSub,Nat.reduceBEq,Int.reduceToNat,Int.reduceLE,Int.reduceLT,Int.reduceNeg,reduceMod,gT,h1a,r1a,h3a]
   refine ⟨fun h2=>?_,fun h2=>?_⟩
   ·refine zab (zkw m r ih xs j h hu h2) ?_
    simp (maxSteps:=9^7) -dsimp only [↓gp,gq,reduceCtorEq,reduceEqDiff,reduceLT,reduceLeDiff,reduceAdd,reduceMul,reduceSub,Nat.reduceBEq,Int.reduceToNat,Int.reduceLE,Int.reduceLT,Int.reduceNeg,reduceMod,gT,h1a,r1a,h3a]
    refine ⟨fun h3=>?_,fun h3=>?_⟩
    ·rw [hde,List.any_eq_true]
     exact ⟨j,List.mem_range.2 (by omega),h3⟩
    ·exact zac (j + 1) (by refine ⟨?_,?_,?_,⟨by omega,fun p hp=>by
      rcases Nat.lt_succ_iff_lt_or_eq.1 hp with hp | rfl
      ·exact hall p hp
      ·exact h3⟩⟩ <;> (first | (simp (maxSteps:=9^7) -dsimp only [gr,reduceEqDiff,reduceLT,reduceAdd,reduceMod,Nat.reduceBEq,h1a,r1a,h3a,zaa h2 (by omega)];first | done | rfl | (simp;done)) | assumption | rfl)) (by first | omega | (simp only;omega) | (dsimp only;omega) | (show _ < _;simp;omega))
   ·rw [hde,zBv h fun p hp=>hall p (by omega)]
noncomputable def zBw (n:Int) (xs:List Int):Bool:=zaV n xs && zuX xs
theorem ze5 (n:Int) (xs:List Int):AC Tryz.prog 14 [.ag [int n,zaH xs]] (.im (bool (zBw n xs))):=by
 refine AC.go (rs:=[.tmp 2]) zaL mixed Tryz.func14 rfl rfl rfl (by kernel_rfl) fun hl=>?_
 simp (maxSteps:=9^7) -dsimp only [↓gp,gq,reduceCtorEq,reduceEqDiff,reduceLT,reduceLeDiff,reduceAdd,reduceMul,reduceSub,Nat.reduceBEq,Int.reduceToNat,Int.reduceLE,Int.reduceLT,Int.reduceNeg,reduceMod,gT]
 refine zab (zaI n xs) ?_
 simp (maxSteps:=9^7) -dsimp only [↓gp,gq,reduceCtorEq,reduceEqDiff,reduceLT,reduceLeDiff,reduceAdd,reduceMul,reduceSub,Nat.reduceBEq,Int.reduceToNat,Int.reduceLE,Int.reduceLT,Int.reduceNeg,reduceMod,gT]
 unfold zBw
 refine ⟨fun h=>?_,fun h=>?_⟩
 ·obtain ⟨h1,h6,_⟩:=za2.1 h
  obtain ⟨m,rfl⟩:∃ m:Nat,n = m:=⟨n.toNat,by omega⟩
  have:=zBu xs
  refine zab (zlj m 7 xs h (by omega)) ?_
  simp (maxSteps:=9^7) -dsimp only [↓gp,gq,reduceCtorEq,reduceEqDiff,reduceLT,reduceLeDiff,reduceAdd,reduceMul,reduceSub,Nat.reduceBEq,Int.reduceToNat,Int.reduceLE,Int.reduceLT,Int.reduceNeg,reduceMod,gT]
  rw [h];rfl
 ·rw [h];rfl
abbrev Mf:=Int→Int
def mpR (g:Mf) (i:Nat):Row:=if i = 1000000 then ⟨1,.mp g⟩ else ⟨0,.dead⟩
theorem zij (g:Mf):mpR g 1000000 = ⟨1,.mp g⟩:=if_pos rfl
theorem zzq (g:Mf) {i:Nat} (h:i ≠ 1000000):mpR g i = ⟨0,.dead⟩:=if_neg h
theorem zzr {g:Mf} {i:Nat} (h:(mpR g i).kind.nd = true):i = 1000000:=Classical.byContradiction fun e=>by rw [zzq g e] at h;cases h
def zmW (x:Bool × Mf) (R1:Nat→Row) (p:PV):Prop:=p = bool x.1∧R1 1000000 = ⟨1,.mp x.2⟩
def zzs (k a:Nat):Option Nat:=if a = 1000000 then some k else none
theorem znW (k:Nat):zzs k 1000000 = some k:=if_pos rfl
theorem zdR {k a x:Nat} (h:zzs k a = some x):a = 1000000∧x = k:=by
 unfold zzs at h
 split at h
 ·cases h;exact ⟨‹_›,rfl⟩
 ·cases h
theorem zgS {rho:Nat→Option Nat} {Ln:Nat→Prop} {R0 R:Nat→Row}:∀ {l:List PV},zbB l→GvL rho Ln R0 R l l
 | [],_=>.nil
 | p :: l,h=>by
   have hp:=h p (by simp)
   cases p <;> first | exact .one (.v _) (zgS fun q hq=>h q (by simp [hq])) | (simp [isV] at hp)
theorem zGC [zae] {s:St} {K:St→Prop} {f:FuncId} {args:List PV} {d k v:Nat} {g:Mf} {x:Bool × Mf} (hc:AG Tryz.prog f (.ag [.own 1000000 1] :: args) (mpR g) (zmW x)) (hp:zbB args) (hk:s.rw k = ⟨v,.mp g⟩)
 (hK:K ((s.row k ⟨v,.mp x.2⟩).put (some d) (bool x.1))):askG Tryz.prog s f (.ag [.own k v] :: args) (some d) K:=by
 refine ⟨_,_,_,zzs k,fun _=>False,hc,.ag (.one (.own (znW k) (by rw [zij]) (by rw [hk]) (by rw [zij];rfl)) .nil) (zgS hp),⟨fun a ha=>?_,fun a b j ha hb _ _=>(zzr ha).trans (zzr hb).symm,fun _ _ _ _ h=>h⟩,fun R1 p ⟨e1,e2⟩=>?_⟩
 ·have:=zzr ha
  subst this
  exact ⟨Nat.le_refl _,by rw [zij];exact Nat.one_pos,k,znW k,by rw [zij,hk];rfl⟩
 ·subst e1
  refine ⟨zzs k,fun _=>v,true,⟨fun _ _=>rfl,fun a b j ha hb=>(zdR ha).1.trans (zdR hb).1.symm,fun a j ha _ _=>?_,fun a j ha hn=>?_,fun _ _ h=>h⟩,fun S hS=>?_⟩
  ·rw [(zdR ha).2,hk]
  ·have:=(zdR ha).1
   subst this
   exact absurd (by rw [e2,zij]) (hn (by rw [zij];rfl))
  ·have e:S = (s.row k ⟨v,.mp x.2⟩).put (some d) (bool x.1):=by
    refine St.ext2 (fun i=>?_) fun a=>?_
    ·rw [hS.sl]
     by_cases e:i = d
     ·subst e;rw [zav,zav];rfl
     ·rw [zaK _ _ _ _ e,zaK _ _ _ _ e];rfl
    ·rw [zeq]
     by_cases e:a = k
     ·subst e;rw [zaA,hS.row 1000000 a (znW a),e2];rfl
     ·rw [zar _ _ _ _ e]
      exact hS.off a fun b hb=>e (zdR hb).2
   rw [e];exact hK
theorem zBt [zae] {s:St} {K:St→Prop} {f:FuncId} {args lents:List PV} {Ka:RV→Prop} {d k v:Nat} {g:Mf} {x:Bool × Mf} {us:Dm s} {u:Dm K} (hc:AG Tryz.prog f (.ag [.own 1000000 1] :: args) (mpR g) (zmW x)) (hp:zbB args) (hk:s.rw k = ⟨v,.mp g⟩)
 (hK:K ((s.row k ⟨v,.mp x.2⟩).put (some d) (bool x.1))):zhY Tryz.prog f lents Ka (zrr Tryz.prog f lents (.ag [.own k v] :: args) (some d) (kk s us) (kk K u)):=.inr (.inr (.inr (.inr (zGC hc hp hk hK))))
theorem zkv [zae] {s:St} {Ke:Ent→St→Prop} {f:FuncId} {args lents:List PV} {Ka:RV→Prop} {d k v:Nat} {g:Mf} {x:Bool × Mf} {us:Dm s} {u:Dm Ke} (hc:AG Tryz.prog f (.ag [.own 1000000 1] :: args) (mpR g) (zmW x)) (hp:zbB args) (hk:s.rw k = ⟨v,.mp g⟩) (hd:d % 1000 ≠ k % 1000)
 (hK:Ke ⟨[],.ids [d,k]⟩ ((s.row k ⟨v,.mp x.2⟩).put (some d) (bool x.1))):zhY Tryz.prog f lents Ka (zDP Tryz.prog f (.ag [.own k v] :: args) d (kk s us) (kk Ke u)) :=
 ztD (fun s' hs K' hk'=>zGC hc hp (hs.trans hk) hk') hd hK
def zzt (R1:Nat→Row) (p:PV):Prop:=∃ k v,p = .ag [.own k v]∧R1 k = ⟨v,.mp fun _=>0⟩
theorem zHN [zae] {s:St} {K:St→Prop} {f:FuncId} {d j:Nat} (hc:AG Tryz.prog f [] (fun _=>⟨0,.dead⟩) zzt)
 (hK:K ((s.row j ⟨(s.rw j).ver + 1,.mp fun _=>0⟩).put (some d) (.ag [.own j ((s.rw j).ver + 1)]))):askG Tryz.prog s f [] (some d) K:=by
 refine ⟨_,_,_,fun _=>none,fun _=>False,hc,.nil,⟨fun _ h=>(by cases h),fun _ _ _ h=>(by cases h),fun _ _ h=>(by cases h)⟩,fun R1 p ⟨k,v,hp,hr⟩=>?_⟩
 subst hp
 have hs:∀ {a x:Nat},(if a = k then some j else none) = some x→a = k∧x = j:=fun {a x} h=>by
  split at h
  ·cases h;exact ⟨‹_›,rfl⟩
  ·cases h
 refine ⟨fun a=>if a = k then some j else none,fun _=>(s.rw j).ver + 1,true,⟨fun _ h=>(by cases h),fun a b x ha hb=>(hs ha).1.trans (hs hb).1.symm,fun _ _ _ h=>(by cases h),fun a x ha _=>by rw [(hs ha).2];exact Nat.lt_succ_self _,fun _ _ h=>h⟩,fun S hS=>?_⟩
 have e:S = (s.row j ⟨(s.rw j).ver + 1,.mp fun _=>0⟩).put (some d) (.ag [.own j ((s.rw j).ver + 1)]):=by
  refine St.ext2 (fun i=>?_) fun a=>?_
  ·rw [hS.sl]
   have hr2:zDn (fun a=>if a = k then some j else none) R1 (fun _=>(s.rw j).ver + 1) true (.ag [.own k v]) = .ag [.own j ((s.rw j).ver + 1)]:=by
    unfold zDn
    simp only [List.map_cons,List.map_nil,zuQ,zd8,if_pos,hr,beq_self_eq_true]
   rw [hr2]
   by_cases e:i = d
   ·subst e;rw [zav,zav]
   ·rw [zaK _ _ _ _ e,zaK _ _ _ _ e];rfl
  ·rw [zeq]
   by_cases e:a = j
   ·subst e;rw [zaA,hS.row k a (if_pos rfl),hr];rfl
   ·rw [zar _ _ _ _ e]
    exact hS.off a fun b hb=>e (hs hb).2
 rw [e];exact hK
theorem zzu [zae] {s:St} {Ke:Ent→St→Prop} {f:FuncId} {lents:List PV} {Ka:RV→Prop} {d:Nat} (j:Nat) {us:Dm s} {u:Dm Ke} (hc:AG Tryz.prog f [] (fun _=>⟨0,.dead⟩) zzt) (hd:d % 1000 ≠ j % 1000)
 (hK:Ke ⟨[],.ids [d,j]⟩ ((s.row j ⟨(s.rw j).ver + 1,.mp fun _=>0⟩).put (some d) (.ag [.own j ((s.rw j).ver + 1)]))):zhY Tryz.prog f lents Ka (zDP Tryz.prog f [] d (kk s us) (kk Ke u)) :=
 ztD (fun s' hs K' hk'=>zHN hc (j:=j) (by rw [hs];exact hk')) hd hK
noncomputable def spF (W:List Int→Mf→Bool × Mf) (xs:List Int) (p:Nat) (g:Mf):Bool × Mf :=
 if zqF xs p = true then (if (W (lkX xs p) g).1 = true then W (dlX xs p) (W (lkX xs p) g).2 else (false,(W (lkX xs p) g).2)) else (false,g)
noncomputable def lpF (S:Nat→Mf→Bool × Mf) (k:Int):Nat→Nat→Mf→Bool × Mf
 | 0,_,g=>(false,g)
 | n + 1,p,g=>if (S p g).1 = true then (true,zqz (S p g).2 k 1) else lpF S k n (p + 1) (S p g).2
noncomputable def wkF:Nat→List Int→Mf→Bool × Mf
 | 0,_,g=>(true,g)
 | r + 1,xs,g=>if xs.length ≤ 1 then (true,g) else if g (kyX xs) ≠ 0 then (g (kyX xs) == 1,g) else lpF (spF (wkF r) xs) (kyX xs) 6 0 (zqz g (kyX xs) 2)
theorem mpT:zDm T 51:=⟨by rw [zHw];decide,by rw [zHy];decide,zHx,by rw [T3s];decide,T3k,T3z⟩
theorem plu (a:Nat):zbB [u64 a]:=fun q h=>by rw [List.mem_singleton.1 h];rfl
theorem zJR (a p:Nat):zbB [u64 a,int p]:=fun q h=>by
 rcases List.mem_cons.1 h with rfl | h
 ·rfl
 ·rw [List.mem_singleton.1 h];rfl
theorem znV (m r:Nat) (ih:∀ xs g,zaV (m:Int) xs = true→usX xs < r→AG Tryz.prog 48 [.ag [.own 1000000 1],u64 (kyX xs)] (mpR g) (zmW (wkF r xs g))) (xs:List Int) (p:Nat) (g:Mf) (h:zaV (m:Int) xs = true) (hu:usX xs < r + 1) (hp:p < 6) :
 AG Tryz.prog 76 [.ag [.own 1000000 1],u64 (kyX xs),int p] (mpR g) (zmW (spF (wkF r) xs p g)):=by
 refine AG.go (rs:=[.tmp 6]) zaL mixed Tryz.func76 rfl rfl rfl (by kernel_rfl) fun hl hrl z hz hr=>?_
 have z0:z.sl 0 = .ag [.own 1000000 1]:=by rw [hz];rfl
 have z1:z.sl 1 = u64 (kyX xs):=by rw [hz];rfl
 have z2:z.sl 2 = int p:=by rw [hz];rfl
 have y0:z.rw 1000000 = ⟨1,.mp g⟩:=by rw [hr,zij]
 have yl:∀ j,j < 1000000→z.rw j = ⟨0,.dead⟩:=fun j hj=>by rw [hr,zzq _ (by omega)]
 clear hz hr
 have hb:=p64 hp
 have hun:IntKind.u64.wrap (p:Int) = (p:Int):=zba (by omega)
 have hsh:znL .i64 1 (p:Int) = ((2 ^ p:Nat):Int):=zbt (by omega)
 simp (maxSteps:=9^7) -dsimp only [↓gp,gq,reduceCtorEq,reduceEqDiff,reduceLT,reduceLeDiff,reduceAdd,reduceMul,reduceSub,Nat.reduceBEq,Int.reduceToNat,Int.reduceLE,Int.reduceLT,Int.reduceNeg,reduceMod,gT,z0,z1,z2,y0,yl,hun,hsh]
 refine ⟨by kernel_rfl,zab (zqH m xs p h hp) ?_⟩
 simp (maxSteps:=9^7) -dsimp only [↓gp,gq,reduceCtorEq,reduceEqDiff,reduceLT,reduceLeDiff,reduceAdd,reduceMul,reduceSub,Nat.reduceBEq,Int.reduceToNat,Int.reduceLE,Int.reduceLT,Int.reduceNeg,reduceMod,gT,z0,z1,z2,y0,yl]
 unfold spF
 refine ⟨fun hs=>?_,fun hs=>?_⟩
 ·rw [if_pos hs]
  have hf:=zgT hs
  refine zab (zej (zal xs) _ hb) ?_
  rw [zGD h hp]
  simp (maxSteps:=9^7) -dsimp only [↓gp,gq,reduceCtorEq,reduceEqDiff,reduceLT,reduceLeDiff,reduceAdd,reduceMul,reduceSub,Nat.reduceBEq,Int.reduceToNat,Int.reduceLE,Int.reduceLT,Int.reduceNeg,reduceMod,gT,z0,z1,z2,y0,yl]
  have u1:=zzw h hp hf
  have u2:=zzx h hp hf
  have hA:=ih (lkX xs p) g (zqG h hp) (by omega)
  refine zkv hA (plu _) (by simp (maxSteps:=9^7) -dsimp only [gr,reduceEqDiff,reduceLT,reduceAdd,reduceMod,Nat.reduceBEq,y0]) (by decide) ?_
  generalize wkF r (lkX xs p) g = a at *
  simp (maxSteps:=9^7) -dsimp only [↓gp,gq,reduceCtorEq,reduceEqDiff,reduceLT,reduceLeDiff,reduceAdd,reduceMul,reduceSub,Nat.reduceBEq,Int.reduceToNat,Int.reduceLE,Int.reduceLT,Int.reduceNeg,reduceMod,gT,z0,z1,z2,y0,yl]
  refine ⟨fun ha=>?_,fun ha=>?_⟩
  ·rw [if_pos ha]
   refine zab (zdS (zal xs) _ hb) ?_
   rw [zGE h]
   simp (maxSteps:=9^7) -dsimp only [↓gp,gq,reduceCtorEq,reduceEqDiff,reduceLT,reduceLeDiff,reduceAdd,reduceMul,reduceSub,Nat.reduceBEq,Int.reduceToNat,Int.reduceLE,Int.reduceLT,Int.reduceNeg,reduceMod,gT,z0,z1,z2,y0,yl]
   have hB:=ih (dlX xs p) a.2 (zr5 h p) (by omega)
   refine zkv hB (plu _) (by simp (maxSteps:=9^7) -dsimp only [gr,reduceEqDiff,reduceLT,reduceAdd,reduceMod,Nat.reduceBEq,y0]) (by decide) ?_
   generalize wkF r (dlX xs p) a.2 = b at *
   simp (maxSteps:=9^7) -dsimp only [↓gp,gq,reduceCtorEq,reduceEqDiff,reduceLT,reduceLeDiff,reduceAdd,reduceMul,reduceSub,Nat.reduceBEq,Int.reduceToNat,Int.reduceLE,Int.reduceLT,Int.reduceNeg,reduceMod,gT,z0,z1,z2,y0,yl]
   exact ⟨by kernel_rfl,rfl,by simp (maxSteps:=9^7) -dsimp only [gr,reduceEqDiff,reduceLT,reduceAdd,reduceMod,Nat.reduceBEq,y0]⟩
  ·rw [if_neg (by rw [ha];decide)]
   exact ⟨rfl,by simp (maxSteps:=9^7) -dsimp only [gr,reduceEqDiff,reduceLT,reduceAdd,reduceMod,Nat.reduceBEq,y0]⟩
 ·rw [if_neg (by rw [hs];decide)]
  exact ⟨rfl,by simp (maxSteps:=9^7) -dsimp only [gr,reduceEqDiff,reduceLT,reduceAdd,reduceMod,Nat.reduceBEq,y0]⟩
theorem zqE (m:Nat):∀ (r:Nat) (xs:List Int) (g:Mf),zaV (m:Int) xs = true→usX xs < r→AG Tryz.prog 48 [.ag [.own 1000000 1],u64 (kyX xs)] (mpR g) (zmW (wkF r xs g)):=by
 intro r
 induction r with
 | zero=>intro xs g _ h;omega
 | succ r ih =>
   intro xs g h hu
   refine AG.go (rs:=[.tmp 4]) zaL mixed Tryz.func48 rfl rfl rfl (by kernel_rfl) fun hl hrl z hz hr=>?_
   have z0:z.sl 0 = .ag [.own 1000000 1]:=by rw [hz];rfl
   have z1:z.sl 1 = u64 (kyX xs):=by rw [hz];rfl
   have y0:z.rw 1000000 = ⟨1,.mp g⟩:=by rw [hr,zij]
   have yl:∀ j,j < 1000000→z.rw j = ⟨0,.dead⟩:=fun j hj=>by rw [hr,zzq _ (by omega)]
   clear hz hr
   have hmx:=zcR (kyX xs) (zBx xs)
   rw [zzz h] at hmx
   simp (maxSteps:=9^7) -dsimp only [↓gp,gq,reduceCtorEq,reduceEqDiff,reduceLT,reduceLeDiff,reduceAdd,reduceMul,reduceSub,Nat.reduceBEq,Int.reduceToNat,Int.reduceLE,Int.reduceLT,Int.reduceNeg,reduceMod,gT,z0,z1,y0,yl]
   refine zab hmx ?_
   simp (maxSteps:=9^7) -dsimp only [↓gp,gq,reduceCtorEq,reduceEqDiff,reduceLT,reduceLeDiff,reduceAdd,reduceMul,reduceSub,Nat.reduceBEq,Int.reduceToNat,Int.reduceLE,Int.reduceLT,Int.reduceNeg,reduceMod,gT,z0,z1,y0,yl]
   refine ⟨fun h0=>?_,fun h0=>?_⟩
   ·rw [show wkF (r + 1) xs g = (true,g) from if_pos (by omega)]
    exact ⟨rfl,by simp (maxSteps:=9^7) -dsimp only [gr,reduceEqDiff,reduceLT,reduceAdd,reduceMod,Nat.reduceBEq,y0]⟩
   have hw:=(show wkF (r + 1) xs g = _ from if_neg (show ¬ xs.length ≤ 1 by omega))
   refine ⟨mpT,fun h1=>?_,fun h1=>?_⟩
   ·rw [hw,if_pos (by simpa using h1)]
    exact ⟨mpT,rfl,by simp (maxSteps:=9^7) -dsimp only [gr,reduceEqDiff,reduceLT,reduceAdd,reduceMod,Nat.reduceBEq,y0]⟩
   rw [if_neg (by simpa using h1)] at hw
   rw [hw]
   refine ⟨mpT,?_⟩
   refine zah (fun (za:Nat × Mf) s=>match za with | (j,e)=>s.sl 1 = u64 (kyX xs)∧s.sl 2 = .ref 2 1 0∧s.rw 2 = ⟨1,.box 53 [.own 1000000 1]⟩∧s.rw 1000000 = ⟨1,.mp e⟩∧s.sl 4 = bool false∧s.sl 5 = int j∧(j ≤ 6∧lpF (spF (wkF r) xs) (kyX xs) (6 - j) j e = lpF (spF (wkF r) xs) (kyX xs) 6 0 (zqz g (kyX xs) 2))) (fun (j,e)=>6 - j) ((0,zqz g (kyX xs) 2)) (by refine ⟨?_,?_,?_,?_,?_,?_,⟨Nat.zero_le _,rfl⟩⟩ <;> (first | (simp (maxSteps:=9^7) -dsimp only [gr,reduceEqDiff,reduceLT,reduceAdd,reduceMod,Nat.reduceBEq,z0,z1,y0,yl];first | done | rfl | (simp;done)) | assumption | rfl)) ?_
   intro (j,e) sa ⟨h1a,h2a,r2a,r1000000a,h4a,h5a,hIa⟩
   obtain ⟨hj,hlp⟩:=hIa
   simp (maxSteps:=9^7) -dsimp only [↓gp,gq,reduceCtorEq,reduceEqDiff,reduceLT,reduceLeDiff,reduceAdd,reduceMul,reduceSub,Nat.reduceBEq,Int.reduceToNat,Int.reduceLE,Int.reduceLT,Int.reduceNeg,reduceMod,gT,h1a,h2a,r2a,r1000000a,h4a,h5a]
   refine ⟨fun h2=>?_,fun h2=>?_⟩
   ·rw [show 6 - j = (6 - (j + 1)) + 1 by omega,lpF] at hlp
    have hA:=znV m r ih xs j e h hu (by omega)
    refine zBt hA (zJR _ _) (by simp (maxSteps:=9^7) -dsimp only [gr,reduceEqDiff,reduceLT,reduceAdd,reduceMod,Nat.reduceBEq,h1a,h2a,r2a,r1000000a,h4a,h5a]) ?_
    generalize spF (wkF r) xs j e = a at *
    simp (maxSteps:=9^7) -dsimp only [↓gp,gq,reduceCtorEq,reduceEqDiff,reduceLT,reduceLeDiff,reduceAdd,reduceMul,reduceSub,Nat.reduceBEq,Int.reduceToNat,Int.reduceLE,Int.reduceLT,Int.reduceNeg,reduceMod,gT,h1a,h2a,r2a,r1000000a,h4a,h5a]
    refine ⟨fun ha=>?_,fun ha=>?_⟩
    ·rw [if_pos ha] at hlp
     rw [← hlp]
     exact ⟨mpT,rfl,by simp (maxSteps:=9^7) -dsimp only [gr,reduceEqDiff,reduceLT,reduceAdd,reduceMod,Nat.reduceBEq,h1a,h2a,r2a,r1000000a,h4a,h5a]⟩
    ·rw [if_neg (by rw [ha];decide)] at hlp
     exact zac ((j + 1,a.2)) (by refine ⟨?_,?_,?_,?_,?_,?_,⟨by dsimp only;omega,hlp⟩⟩ <;> (first | (simp (maxSteps:=9^7) -dsimp only [gr,reduceEqDiff,reduceLT,reduceAdd,reduceMod,Nat.reduceBEq,h1a,h2a,r2a,r1000000a,h4a,h5a,h1a,h2a,r2a,r1000000a,h4a,h5a,zaa (show j < 6 by omega) (by omega)];first | done | rfl | (simp;done)) | assumption | rfl)) (by first | omega | (simp only;omega) | (dsimp only;omega) | (show _ < _;simp;omega))
   ·rw [show 6 - j = 0 by omega,lpF] at hlp
    rw [← hlp]
    exact ⟨rfl,by simp (maxSteps:=9^7) -dsimp only [gr,reduceEqDiff,reduceLT,reduceAdd,reduceMod,Nat.reduceBEq,h1a,h2a,r2a,r1000000a,h4a,h5a]⟩
end Go.Proofs.YtkledeboboplmaaGreat
