/- DERIVED by an AI agent. -/
import Derived.Test.YtpnknaaehcljoaaQ5
import Derived.Test.YtpnknaaehcljoaaQ1
import Derived.Test.YtpnknaaehcljoaaQ4
import Derived.Test.YtpnknaaehcljoaaP1
import Derived.Test.YtpnknaaehcljoaaA13
import Derived.Test.YtpnknaaehcljoaaQ2
namespace Go.Proofs.Ytpnknaaehcljoaa
open Go.Abs
open Nat (reduceEqDiff reduceMod reduceAdd reduceLT reduceLeDiff reduceSub reduceMul)
set_option linter.unusedSimpArgs false
set_option linter.unusedVariables false
theorem zcu (n:Int) (xs:List Int) (p:Int):AC Try.prog 49 [.ag [int n,zbv xs],int p] (.im (int (zCr n xs p))):=by
 refine AC.go (rs:=[.tmp 4]) zbe zax Try.func49 rfl rfl rfl (by kernel_rfl) fun hl=>?_
 simp (maxSteps:=5000000) -dsimp only [↓gp,gq,reduceCtorEq,reduceEqDiff,reduceLT,reduceLeDiff,reduceAdd,reduceMul,reduceSub,Nat.reduceBEq,Int.reduceToNat,Int.reduceLE,Int.reduceLT,Int.reduceNeg,reduceMod,zac,zad,zab,zaa,gT,TK.isInt,TK.agg,Array.toList]
 refine zaf (zgU n xs p) ?_
 have hsq:=zDN n xs p
 unfold zCr
 generalize zvA n xs p = M at *
 have hl7:=hsq.len
 simp (maxSteps:=5000000) -dsimp only [↓gp,gq,reduceCtorEq,reduceEqDiff,reduceLT,reduceLeDiff,reduceAdd,reduceMul,reduceSub,Nat.reduceBEq,Int.reduceToNat,Int.reduceLE,Int.reduceLT,Int.reduceNeg,reduceMod,zac,zad,zab,zaa,gT,TK.isInt,TK.agg,Array.toList]
 refine zao (fun (i:Nat) s=>s.sl 5 = int (zvF M i)∧s.sl 6 = .own 11 1∧s.rw 11 = ⟨1,.sli 22 1 false (iLL M)⟩∧s.sl 7 = int i∧(i ≤ M.length)) (fun i=>M.length - i) (0) (by refine ⟨?_,?_,?_,?_,by omega⟩ <;> (first | (simp (maxSteps:=5000000) -dsimp only [gr,reduceEqDiff,reduceLT,reduceAdd,reduceMod,Nat.reduceBEq,zaa,zac,zad,zab,zvF];first | done | rfl | (simp;done)) | assumption | rfl)) ?_
 intro i sa ⟨h5a,h6a,r11a,h7a,hIa⟩
 simp (maxSteps:=5000000) -dsimp only [↓gp,gq,reduceCtorEq,reduceEqDiff,reduceLT,reduceLeDiff,reduceAdd,reduceMul,reduceSub,Nat.reduceBEq,Int.reduceToNat,Int.reduceLE,Int.reduceLT,Int.reduceNeg,reduceMod,zac,zad,zab,zaa,gT,TK.isInt,TK.agg,Array.toList,h5a,h6a,r11a,h7a]
 refine ⟨fun h=>?_,fun h=>?_⟩
 ·have hr:=hsq.row i h
  have hnz0:nzR ((M.getD i []).take 0) = false:=rfl
  refine zao (fun (j:Nat) s=>s.sl 5 = int (if nzR ((M.getD i []).take j) = true then (i:Int) else zvF M i)∧s.sl 6 = .own 11 1∧s.rw 11 = ⟨1,.sli 22 1 false (iLL M)⟩∧s.sl 7 = int i∧s.sl 8 = int j∧(j ≤ M.length)) (fun j=>M.length - j) (0) (by refine ⟨?_,?_,?_,?_,?_,by omega⟩ <;> (first | (simp (maxSteps:=5000000) -dsimp only [gr,reduceEqDiff,reduceLT,reduceAdd,reduceMod,Nat.reduceBEq,zaa,zac,zad,zab,h5a,h6a,r11a,h7a,hnz0];first | done | rfl | (simp;done)) | assumption | rfl)) ?_
  intro j sb ⟨h5b,h6b,r11b,h7b,h8b,hIb⟩
  simp (maxSteps:=5000000) -dsimp only [↓gp,gq,reduceCtorEq,reduceEqDiff,reduceLT,reduceLeDiff,reduceAdd,reduceMul,reduceSub,Nat.reduceBEq,Int.reduceToNat,Int.reduceLE,Int.reduceLT,Int.reduceNeg,reduceMod,zac,zad,zab,zaa,gT,TK.isInt,TK.agg,Array.toList,h5b,h6b,r11b,h7b,h8b]
  refine ⟨fun h2=>?_,fun h2=>?_⟩
  ·have hs:=zAS (r:=M.getD i []) (k:=j) (by omega)
   simp (maxSteps:=5000000) -dsimp only [↓gp,gq,reduceCtorEq,reduceEqDiff,reduceLT,reduceLeDiff,reduceAdd,reduceMul,reduceSub,Nat.reduceBEq,Int.reduceToNat,Int.reduceLE,Int.reduceLT,Int.reduceNeg,reduceMod,zac,zad,zab,zaa,gT,TK.isInt,TK.agg,Array.toList,h5b,h6b,r11b,h7b,h8b,hr]
   refine ⟨h,h,h2,h2,fun h0=>?_,fun h0=>?_⟩
   ·rw [h0,Bool.or_true] at hs
    exact zag (j + 1) (by refine ⟨?_,?_,?_,?_,?_,by omega⟩ <;> (first | (simp (maxSteps:=5000000) -dsimp only [gr,reduceEqDiff,reduceLT,reduceAdd,reduceMod,Nat.reduceBEq,zaa,zac,zad,zab,h5b,h6b,r11b,h7b,h8b,zae h2 (by omega),hs];first | done | rfl | (simp;done)) | assumption | rfl)) (by first | omega | (simp only;omega) | (dsimp only;omega) | (show _ < _;simp;omega))
   ·rw [h0,Bool.or_false] at hs
    exact zag (j + 1) (by refine ⟨?_,?_,?_,?_,?_,by omega⟩ <;> (first | (simp (maxSteps:=5000000) -dsimp only [gr,reduceEqDiff,reduceLT,reduceAdd,reduceMod,Nat.reduceBEq,zaa,zac,zad,zab,h5b,h6b,r11b,h7b,h8b,zae h2 (by omega),hs];first | done | rfl | (simp;done)) | assumption | rfl)) (by first | omega | (simp only;omega) | (dsimp only;omega) | (show _ < _;simp;omega))
  ·have ht:(M.getD i []).take j = M.getD i []:=List.take_of_length_le (by omega)
   rw [ht] at h5b
   exact zag (i + 1) (by refine ⟨?_,?_,?_,?_,by omega⟩ <;> (first | (simp (maxSteps:=5000000) -dsimp only [gr,reduceEqDiff,reduceLT,reduceAdd,reduceMod,Nat.reduceBEq,zaa,zac,zad,zab,h5a,h6a,r11a,h7a,h5b,h6b,r11b,h7b,h8b,zae h (by omega),zvF];first | done | rfl | (simp;done)) | assumption | rfl)) (by first | omega | (simp only;omega) | (dsimp only;omega) | (show _ < _;simp;omega))
 ·have:i = M.length:=by omega
  rw [this]
theorem zDF {p:Int} (h:isP p = true):∃ q:Nat,p = q∧q ≠ 0:=by
 unfold isP at h
 simp only [Bool.or_eq_true,beq_iff_eq] at h
 rcases h with (rfl | rfl) | rfl
 ·exact ⟨2,rfl,by decide⟩
 ·exact ⟨3,rfl,by decide⟩
 ·exact ⟨5,rfl,by decide⟩
theorem zgR {n:Int} {xs:List Int} (h:zet n xs = true):∃ m:Nat,n = m∧1 ≤ m∧m ≤ 6∧zej (zak xs)∧zak xs 0 = true∧∀ s,s < 64→zak xs s = true→s < 2 ^ m:=by
 obtain ⟨hcx,hpos⟩:=zaJ.1 h
 obtain ⟨h1,h6,h3⟩:=zbH.1 hcx
 obtain ⟨m,rfl⟩:∃ m:Nat,n = m:=⟨n.toNat,by omega⟩
 refine ⟨m,rfl,by omega,by omega,fun s t hs ht=>zmv hs ht,?_,fun s hs hf=>?_⟩
 ·cases xs with
  | nil=>simp at hpos
  | cons x l=>exact za8.2 ⟨x,by simp,by simp⟩
 ·obtain ⟨x,hx,e⟩:=za8.1 hf
  obtain ⟨i,hi,rfl⟩:=zbq 0 hx
  obtain ⟨m2,t,e1,e2,h2,h3⟩:=zqb (h3 i hi).1
  have:m = m2:=by omega
  subst this
  rw [e2,Int.toNat_natCast] at e
  have:=Nat.and_le_left (n:=t) (m:=s)
  omega
def znR (f:Nat→Bool) (p:Int):Bool:=decide (zaE f 64 ≠ 0) && decide (zzK f p = (zaV f:Int) - 1)
theorem zcm (f:Nat→Bool) (p:Int) (hp:isP p = true):AC Try.prog 128 [u64 (zaE f 64:Nat),int p] (.im (bool (znR f p))):=by
 refine AC.go (rs:=[.tmp 4]) zbe zax Try.func128 rfl rfl rfl (by kernel_rfl) fun hl=>?_
 simp (maxSteps:=5000000) -dsimp only [↓gp,gq,reduceCtorEq,reduceEqDiff,reduceLT,reduceLeDiff,reduceAdd,reduceMul,reduceSub,Nat.reduceBEq,Int.reduceToNat,Int.reduceLE,Int.reduceLT,Int.reduceNeg,reduceMod,zac,zad,zab,zaa,gT,TK.isInt,TK.agg,Array.toList]
 unfold znR
 refine ⟨fun h=>zaf (zfn f p hp) ?_,fun h=>?_⟩
 ·simp (maxSteps:=5000000) -dsimp only [↓gp,gq,reduceCtorEq,reduceEqDiff,reduceLT,reduceLeDiff,reduceAdd,reduceMul,reduceSub,Nat.reduceBEq,Int.reduceToNat,Int.reduceLE,Int.reduceLT,Int.reduceNeg,reduceMod,zac,zad,zab,zaa,gT,TK.isInt,TK.agg,Array.toList]
  refine zaf (zcb f) ?_
  simp (maxSteps:=5000000) -dsimp only [↓gp,gq,reduceCtorEq,reduceEqDiff,reduceLT,reduceLeDiff,reduceAdd,reduceMul,reduceSub,Nat.reduceBEq,Int.reduceToNat,Int.reduceLE,Int.reduceLT,Int.reduceNeg,reduceMod,zac,zad,zab,zaa,gT,TK.isInt,TK.agg,Array.toList]
  have h:zaE f 64 ≠ 0:=fun e=>by rw [e] at h;cases h
  rw [decide_eq_true h]
  rfl
 ·have h:zaE f 64 = 0:=by
   have:((zaE f 64:Nat):Int) = 0:=by simpa using h
   omega
  rw [h];rfl
theorem zkM (n:Int) (xs:List Int) (p:Int):AC Try.prog 54 [.ag [int n,zbv xs],int p] (.im (int (if zet n xs = true∧isP p = true then zzK (zak xs) p else -1))):=by
 refine AC.go (rs:=[.tmp 4]) zbe zax Try.func54 rfl rfl rfl (by kernel_rfl) fun hl=>?_
 simp (maxSteps:=5000000) -dsimp only [↓gp,gq,reduceCtorEq,reduceEqDiff,reduceLT,reduceLeDiff,reduceAdd,reduceMul,reduceSub,Nat.reduceBEq,Int.reduceToNat,Int.reduceLE,Int.reduceLT,Int.reduceNeg,reduceMod,zac,zad,zab,zaa,gT,TK.isInt,TK.agg,Array.toList]
 refine zaf (zbP n xs) ?_
 simp (maxSteps:=5000000) -dsimp only [↓gp,gq,reduceCtorEq,reduceEqDiff,reduceLT,reduceLeDiff,reduceAdd,reduceMul,reduceSub,Nat.reduceBEq,Int.reduceToNat,Int.reduceLE,Int.reduceLT,Int.reduceNeg,reduceMod,zac,zad,zab,zaa,gT,TK.isInt,TK.agg,Array.toList]
 refine ⟨fun hc=>⟨fun h0=>zaf (zaZ p) ?_,fun h0=>?_⟩,fun hc=>?_⟩
 ·have hcx:zcN n xs = true:=by simpa using hc
  have hh:zet n xs = true:=zaJ.2 ⟨hcx,by simp at h0;exact List.length_pos_iff.2 h0⟩
  simp (maxSteps:=5000000) -dsimp only [↓gp,gq,reduceCtorEq,reduceEqDiff,reduceLT,reduceLeDiff,reduceAdd,reduceMul,reduceSub,Nat.reduceBEq,Int.reduceToNat,Int.reduceLE,Int.reduceLT,Int.reduceNeg,reduceMod,zac,zad,zab,zaa,gT,TK.isInt,TK.agg,Array.toList]
  refine ⟨fun hp=>?_,fun hp=>?_⟩
  ·rw [if_neg (fun h=>by rw [h.2] at hp;cases hp)]
  ·have hp:isP p = true:=by simpa using hp
   refine zaf (zb7 n xs (zcw hcx)) ?_
   simp (maxSteps:=5000000) -dsimp only [↓gp,gq,reduceCtorEq,reduceEqDiff,reduceLT,reduceLeDiff,reduceAdd,reduceMul,reduceSub,Nat.reduceBEq,Int.reduceToNat,Int.reduceLE,Int.reduceLT,Int.reduceNeg,reduceMod,zac,zad,zab,zaa,gT,TK.isInt,TK.agg,Array.toList]
   refine zaf (zfn _ p hp) ?_
   rw [if_pos ⟨hh,hp⟩]
   simp (maxSteps:=5000000) -dsimp only [↓gp,gq,reduceCtorEq,reduceEqDiff,reduceLT,reduceLeDiff,reduceAdd,reduceMul,reduceSub,Nat.reduceBEq,Int.reduceToNat,Int.reduceLE,Int.reduceLT,Int.reduceNeg,reduceMod,zac,zad,zab,zaa,gT,TK.isInt,TK.agg,Array.toList]
 ·rw [if_neg (fun h=>by have:=(zaJ.1 h.1).2;simp at h0;simp [h0] at this)]
 ·rw [if_neg (fun h=>by have:=(zaJ.1 h.1).1;rw [this] at hc;cases hc)]
noncomputable def cmO (n:Int) (xs:List Int) (p:Int):Bool:=zcN n xs && (isP p && znR (zak xs) p)
theorem zbj (n:Int) (xs:List Int) (p:Int):AC Try.prog 60 [.ag [int n,zbv xs],int p] (.im (bool (cmO n xs p))):=by
 refine AC.go (rs:=[.tmp 4]) zbe zax Try.func60 rfl rfl rfl (by kernel_rfl) fun hl=>?_
 simp (maxSteps:=5000000) -dsimp only [↓gp,gq,reduceCtorEq,reduceEqDiff,reduceLT,reduceLeDiff,reduceAdd,reduceMul,reduceSub,Nat.reduceBEq,Int.reduceToNat,Int.reduceLE,Int.reduceLT,Int.reduceNeg,reduceMod,zac,zad,zab,zaa,gT,TK.isInt,TK.agg,Array.toList]
 refine zaf (zbP n xs) ?_
 simp (maxSteps:=5000000) -dsimp only [↓gp,gq,reduceCtorEq,reduceEqDiff,reduceLT,reduceLeDiff,reduceAdd,reduceMul,reduceSub,Nat.reduceBEq,Int.reduceToNat,Int.reduceLE,Int.reduceLT,Int.reduceNeg,reduceMod,zac,zad,zab,zaa,gT,TK.isInt,TK.agg,Array.toList]
 unfold cmO
 refine ⟨fun hc=>zaf (zaZ p) ?_,fun hc=>?_⟩
 ·simp (maxSteps:=5000000) -dsimp only [↓gp,gq,reduceCtorEq,reduceEqDiff,reduceLT,reduceLeDiff,reduceAdd,reduceMul,reduceSub,Nat.reduceBEq,Int.reduceToNat,Int.reduceLE,Int.reduceLT,Int.reduceNeg,reduceMod,zac,zad,zab,zaa,gT,TK.isInt,TK.agg,Array.toList]
  rw [hc]
  refine ⟨fun hp=>?_,fun hp=>?_⟩
  ·refine zaf (zb7 n xs (zcw hc)) ?_
   simp (maxSteps:=5000000) -dsimp only [↓gp,gq,reduceCtorEq,reduceEqDiff,reduceLT,reduceLeDiff,reduceAdd,reduceMul,reduceSub,Nat.reduceBEq,Int.reduceToNat,Int.reduceLE,Int.reduceLT,Int.reduceNeg,reduceMod,zac,zad,zab,zaa,gT,TK.isInt,TK.agg,Array.toList]
   refine zaf (zcm _ p hp) ?_
   rw [hp]
   simp (maxSteps:=5000000) -dsimp only [↓gp,gq,reduceCtorEq,reduceEqDiff,reduceLT,reduceLeDiff,reduceAdd,reduceMul,reduceSub,Nat.reduceBEq,Int.reduceToNat,Int.reduceLE,Int.reduceLT,Int.reduceNeg,reduceMod,zac,zad,zab,zaa,gT,TK.isInt,TK.agg,Array.toList]
  ·rw [hp];rfl
 ·rw [hc];rfl
theorem zqQ (n:Int) (xs:List Int):-2 ≤ zkU n xs∧zkU n xs ≤ 100000000:=by
 unfold zkU
 split
 ·rename_i h
  obtain ⟨hcx,hpos⟩:=zaJ.1 h
  have:=zcw hcx _ (zat 0 (show xs.length - 1 < xs.length by omega))
  have:=zbT (s:=(xs.getD (xs.length - 1) 0).toNat) (by omega)
  omega
 ·omega
theorem zrY {n:Int} {xs:List Int} (h:zcN n xs = true):∀ x ∈ xs,zap x.toNat ≤ zap (xs.getD (xs.length - 1) 0).toNat:=fun x hx=>by
 obtain ⟨_,_,h3⟩:=zbH.1 h
 have hok:=zcw h
 have hle:∀ j,j < xs.length→∀ i,i ≤ j→zap (xs.getD i 0).toNat ≤ zap (xs.getD j 0).toNat:=by
  intro j
  induction j with
  | zero=>intro _ i hi;rw [show i = 0 by omega];exact Nat.le_refl _
  | succ j ih =>
    intro hj i hi
    have h1:=(h3 (j + 1) hj).2.1 (by omega)
    rw [Nat.add_sub_cancel] at h1
    have q1:=hok _ (zat 0 hj)
    have q2:=hok _ (zat 0 (show j < xs.length by omega))
    unfold zkH at h1
    rw [zdG q1,zdG q2] at h1
    simp only [Bool.and_eq_true,decide_eq_true_eq] at h1
    have hs:zap (xs.getD j 0).toNat ≤ zap (xs.getD (j + 1) 0).toNat:=by
     have h2:=h1.2.2
     split at h2
     ·omega
     ·have:=of_decide_eq_true h2;omega
    by_cases e:i = j + 1
    ·rw [e];exact Nat.le_refl _
    ·exact Nat.le_trans (ih (by omega) i (by omega)) hs
 obtain ⟨i,hi,rfl⟩:=zbq 0 hx
 exact hle (xs.length - 1) (by omega) i (by omega)
theorem zrZ {n:Int} {xs:List Int} (h:zet n xs = true):zkU n xs + 1 = (zaV (zak xs):Int) - 1:=by
 obtain ⟨hcx,hpos⟩:=zaJ.1 h
 have hok:=zcw hcx
 have e:zkU n xs = (zap (xs.getD (xs.length - 1) 0).toNat:Int) - 1:=if_pos h
 have hl:=zat 0 (show xs.length - 1 < xs.length by omega)
 have hlast:=hok _ hl
 have hf:zak xs (xs.getD (xs.length - 1) 0).toNat = true:=za8.2 ⟨_,hl,Nat.and_self _⟩
 have h1:=zfP 64 _ (by omega) hf
 have hdn:zaV (zak xs) = zgX (zak xs) 64:=rfl
 obtain ⟨T,a,b,c⟩:=zfQ (f:=zak xs) 64 (by omega)
 obtain ⟨x,hx,hxT⟩:=za8.1 b
 have h2:=zrY hcx x hx
 have h3:=znk (s:=x.toNat) (t:=T) (by have:=hok x hx;omega) hxT
 omega
theorem znS {n:Int} {xs:List Int} (h:zcN n xs = true) (h2:¬ zet n xs = true):xs = []:=by
 cases xs with
 | nil=>rfl
 | cons a l=>exact absurd (zaJ.2 ⟨h,by simp⟩) h2
theorem zvZ {n:Int} {xs:List Int} {p:Int} (h:zet n xs = true) (hp:isP p = true):∃ (m q d:Nat) (_:NeZero q),n = m∧p = q∧1 ≤ m∧m ≤ 6∧zhp q (zak xs) m d∧znJ n xs p = d∧zzK (zak xs) p = d∧(d:Int) ≤ (zaV (zak xs):Int) - 1:=by
 obtain ⟨m,rfl,h1,h6,hd,h0,hs⟩:=zgR h
 obtain ⟨q,rfl,hq⟩:=zDF hp
 haveI:NeZero q:=⟨hq⟩
 obtain ⟨d,a,b,c,e⟩:=zmA (m:=m) hp hd h0 h6 hs
 exact ⟨m,q,d,inferInstance,rfl,rfl,h1,h6,a,by rw [znJ,if_pos ⟨(zaJ.1 h).1,hp⟩];exact b,c,e⟩
theorem zr0 {xs:List Int} (h:zak xs 0 = true):zaE (zak xs) 64 ≠ 0:=fun e=>by
 have:=za3 (zak xs) (s:=0) (by decide)
 rw [e,h,Nat.zero_testBit] at this;cases this
theorem zEb (n:Int) (xs:List Int) (p:Int):(decide (0 ≤ znJ n xs p) && decide (znJ n xs p = zkU n xs + 1)) = cmO n xs p:=by
 unfold cmO
 by_cases hp:isP p = true
 ·by_cases h:zet n xs = true
  ·obtain ⟨m,q,d,_,rfl,rfl,h1,h6,hd,e1,e2,e3⟩:=zvZ h hp
   have h0:=(zgR h).choose_spec.2.2.2.2.1
   unfold znR
   rw [(zaJ.1 h).1,hp,e1,e2,zrZ h,decide_eq_true (zr0 h0),decide_eq_true (by omega)]
   rfl
  ·cases hc:zcN n xs with
   | false =>
     have:znJ n xs p = -1:=if_neg fun h=>by rw [h.1] at hc;cases hc
     rw [this];rfl
   | true =>
     have hx:=znS hc h
     subst hx
     have e1:znJ n [] p = -1:=by rw [znJ,if_pos ⟨hc,hp⟩];rfl
     rw [e1,hp];rfl
 ·have:znJ n xs p = -1:=if_neg fun h=>hp h.2
  rw [this,show isP p = false by simpa using hp];simp
theorem zcy (n:Int) (xs:List Int) (p:Int):AC Try.prog 61 [.ag [int n,zbv xs],int p] (.im (bool (cmO n xs p))):=by
 refine AC.go (rs:=[.tmp 4]) zbe zax Try.func61 rfl rfl rfl (by kernel_rfl) fun hl=>?_
 simp (maxSteps:=5000000) -dsimp only [↓gp,gq,reduceCtorEq,reduceEqDiff,reduceLT,reduceLeDiff,reduceAdd,reduceMul,reduceSub,Nat.reduceBEq,Int.reduceToNat,Int.reduceLE,Int.reduceLT,Int.reduceNeg,reduceMod,zac,zad,zab,zaa,gT,TK.isInt,TK.agg,Array.toList]
 refine zaf (zfo n xs p) ?_
 simp (maxSteps:=5000000) -dsimp only [↓gp,gq,reduceCtorEq,reduceEqDiff,reduceLT,reduceLeDiff,reduceAdd,reduceMul,reduceSub,Nat.reduceBEq,Int.reduceToNat,Int.reduceLE,Int.reduceLT,Int.reduceNeg,reduceMod,zac,zad,zab,zaa,gT,TK.isInt,TK.agg,Array.toList]
 rw [← zEb]
 have hb:=zqQ n xs
 have hw:IntKind.i64.wrap (zkU n xs + 1) = zkU n xs + 1:=zaq (by omega) (by omega)
 refine ⟨fun h=>zaf (zcU n xs) ?_,fun h=>?_⟩
 ·simp (maxSteps:=5000000) -dsimp only [↓gp,gq,reduceCtorEq,reduceEqDiff,reduceLT,reduceLeDiff,reduceAdd,reduceMul,reduceSub,Nat.reduceBEq,Int.reduceToNat,Int.reduceLE,Int.reduceLT,Int.reduceNeg,reduceMod,zac,zad,zab,zaa,gT,TK.isInt,TK.agg,Array.toList,hw]
  rw [decide_eq_true h]
  rfl
 ·rw [decide_eq_false h];rfl
def bdK (h:List Int) (D:Int) (s k:Nat):Bool:=(List.range k).any fun j=>(h.getD j 0 != 0) && decide ((j:Int) < D - (zap s:Int))
theorem zmz (h:List Int) (D:Int) (s k:Nat):bdK h D s (k + 1) = (bdK h D s k || ((h.getD k 0 != 0) && decide ((k:Int) < D - (zap s:Int)))):=by
 unfold bdK;rw [List.range_succ,List.any_append];simp
def bdQ (f:Nat→Bool) (p D:Int) (s:Nat):Bool:=bdK (zcT (zay f s) p) D s (zcT (zay f s) p).length
noncomputable def blO (n:Int) (xs:List Int) (p:Int):Option Nat:=if zet n xs = true∧isP p = true then (zbL (zak xs)).find? (bdQ (zak xs) p ((zaV (zak xs):Int) - 1)) else none
def blV:Option Nat→Int | none=>0 | some s=>s
theorem znQ {q:Nat→Bool} {L:List Nat} {i:Nat} (h:∀ j,j < i→q (L.getD j 0) = false) (hi:i = L.length):L.find? q = none:=by
 rw [List.find?_eq_none]
 intro x hx
 obtain ⟨j,hj,rfl⟩:=zbq 0 hx
 rw [h j (by omega)];decide
theorem zvY {q:Nat→Bool} {L:List Nat} {i:Nat} (h:∀ j,j < i→q (L.getD j 0) = false) (hi:i < L.length) (hq:q (L.getD i 0) = true):L.find? q = some (L.getD i 0):=by
 have e:L = L.take i ++ L.getD i 0 :: L.drop (i + 1):=by rw [← zyz 0 hi,List.take_append_drop]
 rw [e,List.find?_append]
 have h1:(L.take i).find? q = none:=by
  rw [List.find?_eq_none]
  intro x hx
  obtain ⟨j,hj,rfl⟩:=zbq 0 hx
  rw [List.length_take] at hj
  have:(L.take i).getD j 0 = L.getD j 0:=by
   rw [List.getD_eq_getElem?_getD,List.getD_eq_getElem?_getD,List.getElem?_take,if_pos (by omega)]
  rw [this,h j (by omega)];decide
 rw [h1,Option.none_or,List.find?_cons,hq,← e]
theorem zfm (n:Int) (xs:List Int) (p:Int):AC Try.prog 56 [.ag [int n,zbv xs],int p] (.tup [.im (int (blV (blO n xs p))),.im (bool (blO n xs p).isSome)]):=by
 refine AC.go (rs:=[.tmp 4,.tmp 5]) zbe zax Try.func56 rfl rfl rfl (by kernel_rfl) fun hl=>?_
 simp (maxSteps:=5000000) -dsimp only [↓gp,gq,reduceCtorEq,reduceEqDiff,reduceLT,reduceLeDiff,reduceAdd,reduceMul,reduceSub,Nat.reduceBEq,Int.reduceToNat,Int.reduceLE,Int.reduceLT,Int.reduceNeg,reduceMod,zac,zad,zab,zaa,gT,TK.isInt,TK.agg,Array.toList]
 refine zaf (zbP n xs) ?_
 simp (maxSteps:=5000000) -dsimp only [↓gp,gq,reduceCtorEq,reduceEqDiff,reduceLT,reduceLeDiff,reduceAdd,reduceMul,reduceSub,Nat.reduceBEq,Int.reduceToNat,Int.reduceLE,Int.reduceLT,Int.reduceNeg,reduceMod,zac,zad,zab,zaa,gT,TK.isInt,TK.agg,Array.toList]
 unfold blO
 refine ⟨fun hc=>⟨fun h0=>zaf (zaZ p) ?_,fun h0=>?_⟩,fun hc=>?_⟩
 ·have hcx:zcN n xs = true:=by simpa using hc
  have hh:zet n xs = true:=zaJ.2 ⟨hcx,by simp at h0;exact List.length_pos_iff.2 h0⟩
  simp (maxSteps:=5000000) -dsimp only [↓gp,gq,reduceCtorEq,reduceEqDiff,reduceLT,reduceLeDiff,reduceAdd,reduceMul,reduceSub,Nat.reduceBEq,Int.reduceToNat,Int.reduceLE,Int.reduceLT,Int.reduceNeg,reduceMod,zac,zad,zab,zaa,gT,TK.isInt,TK.agg,Array.toList]
  refine ⟨fun hp=>?_,fun hp=>?_⟩
  ·rw [if_neg (fun h=>by rw [h.2] at hp;cases hp)];exact ⟨rfl,rfl⟩
  ·have hp:isP p = true:=by simpa using hp
   rw [if_pos ⟨hh,hp⟩]
   refine zaf (zb7 n xs (zcw hcx)) ?_
   simp (maxSteps:=5000000) -dsimp only [↓gp,gq,reduceCtorEq,reduceEqDiff,reduceLT,reduceLeDiff,reduceAdd,reduceMul,reduceSub,Nat.reduceBEq,Int.reduceToNat,Int.reduceLE,Int.reduceLT,Int.reduceNeg,reduceMod,zac,zad,zab,zaa,gT,TK.isInt,TK.agg,Array.toList]
   refine zaf (zcb _) ?_
   simp (maxSteps:=5000000) -dsimp only [↓gp,gq,reduceCtorEq,reduceEqDiff,reduceLT,reduceLeDiff,reduceAdd,reduceMul,reduceSub,Nat.reduceBEq,Int.reduceToNat,Int.reduceLE,Int.reduceLT,Int.reduceNeg,reduceMod,zac,zad,zab,zaa,gT,TK.isInt,TK.agg,Array.toList]
   have hmd:=zbu (zak xs) 64
   have eord:zbL (zaE (zak xs) 64).testBit = zbL (zak xs):=ze7 fun s hs=>za3 _ hs
   have hSI:=zf6 (zaE (zak xs) 64) (by omega)
   rw [eord] at hSI
   refine zaf hSI ?_
   have hLl:=zdF (zak xs)
   have hLm:=fun k (hk:k < (zbL (zak xs)).length)=>zbF.1 (zat 0 hk)
   have hdm:=zcg (zak xs)
   generalize hL:zbL (zak xs) = L at *
   generalize hD:(zaV (zak xs):Int) - 1 = D at *
   have hoL:=zah L
   simp (maxSteps:=5000000) -dsimp only [↓gp,gq,reduceCtorEq,reduceEqDiff,reduceLT,reduceLeDiff,reduceAdd,reduceMul,reduceSub,Nat.reduceBEq,Int.reduceToNat,Int.reduceLE,Int.reduceLT,Int.reduceNeg,reduceMod,zac,zad,zab,zaa,gT,TK.isInt,TK.agg,Array.toList,zah]
   refine zao (fun (i:Nat) s=>s.sl 1 = int p∧s.sl 6 = u64 (zaE (zak xs) 64:Nat)∧s.sl 7 = int D∧s.sl 31 = .own 31 1∧s.rw 31 = ⟨1,.sli 3 1 false (iL (ofN L))⟩∧s.sl 32 = int L.length∧s.sl 33 = int i∧(i ≤ L.length∧∀ j,j < i→bdQ (zak xs) p D (L.getD j 0) = false)) (fun i=>L.length - i) (0) (by refine ⟨?_,?_,?_,?_,?_,?_,?_,⟨Nat.zero_le _,fun j hj=>by omega⟩⟩ <;> (first | (simp (maxSteps:=5000000) -dsimp only [gr,reduceEqDiff,reduceLT,reduceAdd,reduceMod,Nat.reduceBEq,zaa,zac,zad,zab];first | done | rfl | (simp;done)) | assumption | rfl)) ?_
   intro i sa ⟨h1a,h6a,h7a,h31a,r31a,h32a,h33a,hIa⟩
   obtain ⟨hi,hall⟩:=hIa
   simp (maxSteps:=5000000) -dsimp only [↓gp,gq,reduceCtorEq,reduceEqDiff,reduceLT,reduceLeDiff,reduceAdd,reduceMul,reduceSub,Nat.reduceBEq,Int.reduceToNat,Int.reduceLE,Int.reduceLT,Int.reduceNeg,reduceMod,zac,zad,zab,zaa,gT,TK.isInt,TK.agg,Array.toList,h1a,h6a,h7a,h31a,r31a,h32a,h33a,zah]
   refine ⟨fun hlt=>?_,fun hlt=>?_⟩
   ·have hlt:i < L.length:=by omega
    have hs64:=(hLm i hlt).1
    have hg:=zaL hlt
    have hdl:=zcg (zay (zak xs) (L.getD i 0))
    have hhl:=zaM (zay (zak xs) (L.getD i 0)) p
    have hbq:bdQ (zak xs) p D (L.getD i 0) = bdK (zcT (zay (zak xs) (L.getD i 0)) p) D (L.getD i 0) (zcT (zay (zak xs) (L.getD i 0)) p).length:=rfl
    have hfa:=fun h=>zvY hall hlt h
    have hns:∀ j,j < i + 1→bdQ (zak xs) p D (L.getD i 0) = false→bdQ (zak xs) p D (L.getD j 0) = false:=fun j hj h=>by
     by_cases e:j = i
     ·rw [e];exact h
     ·exact hall j (by omega)
    generalize hs0:L.getD i 0 = s0 at *
    have hpl:=zbT hs64
    have hzz:=zce hs64
    simp (maxSteps:=5000000) -dsimp only [↓gp,gq,reduceCtorEq,reduceEqDiff,reduceLT,reduceLeDiff,reduceAdd,reduceMul,reduceSub,Nat.reduceBEq,Int.reduceToNat,Int.reduceLE,Int.reduceLT,Int.reduceNeg,reduceMod,zac,zad,zab,zaa,gT,TK.isInt,TK.agg,Array.toList,h1a,h6a,h7a,h31a,r31a,h32a,h33a,zah,hg]
    refine ⟨hlt,hlt,zaf (zd2 _ s0 hs64) ?_⟩
    simp (maxSteps:=5000000) -dsimp only [↓gp,gq,reduceCtorEq,reduceEqDiff,reduceLT,reduceLeDiff,reduceAdd,reduceMul,reduceSub,Nat.reduceBEq,Int.reduceToNat,Int.reduceLE,Int.reduceLT,Int.reduceNeg,reduceMod,zac,zad,zab,zaa,gT,TK.isInt,TK.agg,Array.toList,h1a,h6a,h7a,h31a,r31a,h32a,h33a,zah,hg]
    refine zaf (zfD _ p hp) ?_
    generalize zcT (zay (zak xs) s0) p = hs at *
    simp (maxSteps:=5000000) -dsimp only [↓gp,gq,reduceCtorEq,reduceEqDiff,reduceLT,reduceLeDiff,reduceAdd,reduceMul,reduceSub,Nat.reduceBEq,Int.reduceToNat,Int.reduceLE,Int.reduceLT,Int.reduceNeg,reduceMod,zac,zad,zab,zaa,gT,TK.isInt,TK.agg,Array.toList,h1a,h6a,h7a,h31a,r31a,h32a,h33a,zah,hg]
    refine zao (fun (k:Nat) s=>s.sl 1 = int p∧s.sl 6 = u64 (zaE (zak xs) 64:Nat)∧s.sl 7 = int D∧s.sl 9 = int s0∧s.sl 31 = .own 31 1∧s.rw 31 = ⟨1,.sli 3 1 false (iL (ofN L))⟩∧s.sl 32 = int L.length∧s.sl 33 = int i∧s.sl 41 = .own 41 ((sa.rw 41).ver + 1)∧s.rw 41 = ⟨(sa.rw 41).ver + 1,.sli 3 1 false (iL hs)⟩∧s.sl 42 = int hs.length∧s.sl 43 = int k∧(k ≤ hs.length∧bdK hs D s0 k = false)) (fun k=>hs.length - k) (0) (by refine ⟨?_,?_,?_,?_,?_,?_,?_,?_,?_,?_,?_,?_,⟨Nat.zero_le _,rfl⟩⟩ <;> (first | (simp (maxSteps:=5000000) -dsimp only [gr,reduceEqDiff,reduceLT,reduceAdd,reduceMod,Nat.reduceBEq,zaa,zac,zad,zab,h1a,h6a,h7a,h31a,r31a,h32a,h33a];first | done | rfl | (simp;done)) | assumption | rfl)) ?_
    intro k sb ⟨h1b,h6b,h7b,h9b,h31b,r31b,h32b,h33b,h41b,r41b,h42b,h43b,hIb⟩
    obtain ⟨hk,hbk⟩:=hIb
    have hbs:=zmz hs D s0 k
    rw [hbk,Bool.false_or] at hbs
    have hw:IntKind.i64.wrap (D - (zap s0:Int)) = D - (zap s0:Int):=zaq (by omega) (by omega)
    simp (maxSteps:=5000000) -dsimp only [↓gp,gq,reduceCtorEq,reduceEqDiff,reduceLT,reduceLeDiff,reduceAdd,reduceMul,reduceSub,Nat.reduceBEq,Int.reduceToNat,Int.reduceLE,Int.reduceLT,Int.reduceNeg,reduceMod,zac,zad,zab,zaa,gT,TK.isInt,TK.agg,Array.toList,h1b,h6b,h7b,h9b,h31b,r31b,h32b,h33b,h41b,r41b,h42b,h43b,zah,hg]
    refine ⟨fun hk2=>⟨hk2,hk2,fun hz=>zaf (zaG _) ?_,fun hz=>?_⟩,fun hk2=>?_⟩
    ·simp (maxSteps:=5000000) -dsimp only [↓gp,gq,reduceCtorEq,reduceEqDiff,reduceLT,reduceLeDiff,reduceAdd,reduceMul,reduceSub,Nat.reduceBEq,Int.reduceToNat,Int.reduceLE,Int.reduceLT,Int.reduceNeg,reduceMod,zac,zad,zab,zaa,gT,TK.isInt,TK.agg,Array.toList,h1b,h6b,h7b,h9b,h31b,r31b,h32b,h33b,h41b,r41b,h42b,h43b,zah,hg,hzz,hw]
     rw [hz,Bool.true_and] at hbs
     refine ⟨fun hb=>?_,fun hb=>?_⟩
     ·rw [decide_eq_true hb] at hbs
      have hq:bdQ (zak xs) p D s0 = true:=by
       rw [hbq]
       unfold bdK at hbs ⊢
       rw [List.any_eq_true] at hbs ⊢
       obtain ⟨j,hj,h⟩:=hbs
       have:=List.mem_range.1 hj
       exact ⟨j,List.mem_range.2 (by omega),h⟩
      rw [hfa hq]
      exact ⟨rfl,rfl⟩
     ·rw [decide_eq_false hb] at hbs
      exact zag (k + 1) (by refine ⟨?_,?_,?_,?_,?_,?_,?_,?_,?_,?_,?_,?_,⟨by omega,hbs⟩⟩ <;> (first | (simp (maxSteps:=5000000) -dsimp only [gr,reduceEqDiff,reduceLT,reduceAdd,reduceMod,Nat.reduceBEq,zaa,zac,zad,zab,h1b,h6b,h7b,h9b,h31b,r31b,h32b,h33b,h41b,r41b,h42b,h43b,zae (show k < 8 by omega) (by omega)];first | done | rfl | (simp;done)) | assumption | rfl)) (by first | omega | (simp only;omega) | (dsimp only;omega) | (show _ < _;simp;omega))
    ·rw [hz,Bool.false_and] at hbs
     exact zag (k + 1) (by refine ⟨?_,?_,?_,?_,?_,?_,?_,?_,?_,?_,?_,?_,⟨by omega,hbs⟩⟩ <;> (first | (simp (maxSteps:=5000000) -dsimp only [gr,reduceEqDiff,reduceLT,reduceAdd,reduceMod,Nat.reduceBEq,zaa,zac,zad,zab,h1b,h6b,h7b,h9b,h31b,r31b,h32b,h33b,h41b,r41b,h42b,h43b,zae (show k < 8 by omega) (by omega)];first | done | rfl | (simp;done)) | assumption | rfl)) (by first | omega | (simp only;omega) | (dsimp only;omega) | (show _ < _;simp;omega))
    ·have hke:k = hs.length:=by omega
     subst hke
     rw [← hbq] at hbk
     exact zag (i + 1) (by refine ⟨?_,?_,?_,?_,?_,?_,?_,⟨by omega,fun j hj=>hns j hj hbk⟩⟩ <;> (first | (simp (maxSteps:=5000000) -dsimp only [gr,reduceEqDiff,reduceLT,reduceAdd,reduceMod,Nat.reduceBEq,zaa,zac,zad,zab,h1a,h6a,h7a,h31a,r31a,h32a,h33a,h1b,h6b,h7b,h9b,h31b,r31b,h32b,h33b,h41b,r41b,h42b,h43b,zae hlt (by omega)];first | done | rfl | (simp;done)) | assumption | rfl)) (by first | omega | (simp only;omega) | (dsimp only;omega) | (show _ < _;simp;omega))
   ·have hil:i = L.length:=by omega
    rw [znQ hall hil]
    exact ⟨rfl,rfl⟩
 ·rw [if_neg (fun h=>by have:=(zaJ.1 h.1).2;simp at h0;simp [h0] at this)];exact ⟨rfl,rfl⟩
 ·rw [if_neg (fun h=>by have:=(zaJ.1 h.1).1;rw [this] at hc;cases hc)];exact ⟨rfl,rfl⟩
theorem zrX {h:List Int} {D:Int} {s k:Nat} (hb:bdK h D s k = false) (hk:¬ (k:Int) < D - (zap s:Int)):∀ j,bdK h D s (k + j) = false
 | 0=>hb
 | j + 1=>by
   rw [← Nat.add_assoc,zmz,zrX hb hk j,decide_eq_false (by omega)];simp
theorem zkL (n:Int) (xs:List Int) (p:Int):AC Try.prog 57 [.ag [int n,zbv xs],int p] (.tup [.im (int (blV (blO n xs p))),.im (bool (blO n xs p).isSome)]):=by
 refine AC.go (rs:=[.tmp 4,.tmp 5]) zbe zax Try.func57 rfl rfl rfl (by kernel_rfl) fun hl=>?_
 simp (maxSteps:=5000000) -dsimp only [↓gp,gq,reduceCtorEq,reduceEqDiff,reduceLT,reduceLeDiff,reduceAdd,reduceMul,reduceSub,Nat.reduceBEq,Int.reduceToNat,Int.reduceLE,Int.reduceLT,Int.reduceNeg,reduceMod,zac,zad,zab,zaa,gT,TK.isInt,TK.agg,Array.toList]
 refine zaf (zcH n xs) ?_
 simp (maxSteps:=5000000) -dsimp only [↓gp,gq,reduceCtorEq,reduceEqDiff,reduceLT,reduceLeDiff,reduceAdd,reduceMul,reduceSub,Nat.reduceBEq,Int.reduceToNat,Int.reduceLE,Int.reduceLT,Int.reduceNeg,reduceMod,zac,zad,zab,zaa,gT,TK.isInt,TK.agg,Array.toList]
 refine zaf (zcU n xs) ?_
 have hb:=zqQ n xs
 have hw0:IntKind.i64.wrap (zkU n xs + 1) = zkU n xs + 1:=zaq (by omega) (by omega)
 have hLl:=zdF (zbM n xs)
 have hyes:zcN n xs = true→zbM n xs = zak xs:=fun h=>by funext s;unfold zbM;rw [h,Bool.true_and]
 have hLm:=fun k (hk:k < (zbL (zbM n xs)).length)=>zbF.1 (zat 0 hk)
 have hin:∀ k,k < (zbL (zbM n xs)).length→zet n xs = true:=fun k hk=>by
  have h:=(hLm k hk).2
  unfold zbM at h
  rw [Bool.and_eq_true] at h
  obtain ⟨x,hx,_⟩:=za8.1 h.2
  exact zaJ.2 ⟨h.1,by cases xs with | nil=>simp at hx | cons a l=>simp⟩
 have hno2:isP p = false→blO n xs p = none:=fun h=>if_neg fun hc=>by rw [hc.2] at h;cases h
 have hnoF:¬ zet n xs = true→blO n xs p = none:=fun h=>if_neg fun hc=>h hc.1
 have hres:zet n xs = true→isP p = true→blO n xs p = (zbL (zbM n xs)).find? (bdQ (zak xs) p (zkU n xs + 1)):=fun h hp=>by
  rw [blO,if_pos ⟨h,hp⟩,zrZ h,hyes (zaJ.1 h).1]
 generalize hL:zbL (zbM n xs) = L at *
 generalize hD:zkU n xs + 1 = D at *
 have hoL:=zah L
 simp (maxSteps:=5000000) -dsimp only [↓gp,gq,reduceCtorEq,reduceEqDiff,reduceLT,reduceLeDiff,reduceAdd,reduceMul,reduceSub,Nat.reduceBEq,Int.reduceToNat,Int.reduceLE,Int.reduceLT,Int.reduceNeg,reduceMod,zac,zad,zab,zaa,gT,TK.isInt,TK.agg,Array.toList,zah,hD,hw0]
 refine zao (fun (i:Nat) s=>s.sl 1 = int p∧s.sl 2 = .ref 2 1 0∧s.rw 2 = ⟨1,.box 27 [int n,zbv xs]⟩∧s.sl 6 = .own 12 1∧s.rw 12 = ⟨1,.sli 3 1 false (iL (ofN L))⟩∧s.sl 7 = int D∧s.sl 8 = int i∧(i ≤ L.length∧(i = 0 ∨ isP p = true)∧∀ j,j < i→bdQ (zak xs) p D (L.getD j 0) = false)) (fun i=>L.length - i) (0) (by refine ⟨?_,?_,?_,?_,?_,?_,?_,⟨Nat.zero_le _,.inl rfl,fun j hj=>by omega⟩⟩ <;> (first | (simp (maxSteps:=5000000) -dsimp only [gr,reduceEqDiff,reduceLT,reduceAdd,reduceMod,Nat.reduceBEq,zaa,zac,zad,zab];first | done | rfl | (simp;done)) | assumption | rfl)) ?_
 intro i sa ⟨h1a,h2a,r2a,h6a,r12a,h7a,h8a,hIa⟩
 obtain ⟨hi,hpi,hall⟩:=hIa
 simp (maxSteps:=5000000) -dsimp only [↓gp,gq,reduceCtorEq,reduceEqDiff,reduceLT,reduceLeDiff,reduceAdd,reduceMul,reduceSub,Nat.reduceBEq,Int.reduceToNat,Int.reduceLE,Int.reduceLT,Int.reduceNeg,reduceMod,zac,zad,zab,zaa,gT,TK.isInt,TK.agg,Array.toList,h1a,h2a,r2a,h6a,r12a,h7a,h8a,zah]
 refine ⟨fun hlt=>zaf (zaY p) ?_,fun hlt=>?_⟩
 ·simp (maxSteps:=5000000) -dsimp only [↓gp,gq,reduceCtorEq,reduceEqDiff,reduceLT,reduceLeDiff,reduceAdd,reduceMul,reduceSub,Nat.reduceBEq,Int.reduceToNat,Int.reduceLE,Int.reduceLT,Int.reduceNeg,reduceMod,zac,zad,zab,zaa,gT,TK.isInt,TK.agg,Array.toList,h1a,h2a,r2a,h6a,r12a,h7a,h8a,zah]
  have hlt:i < L.length:=by omega
  have hh:=hin i hlt
  have hcx:=(zaJ.1 hh).1
  obtain ⟨h1,h6,_⟩:=zbH.1 hcx
  obtain ⟨m,rfl⟩:∃ m:Nat,n = m:=⟨n.toNat,by omega⟩
  refine ⟨fun hp=>?_,fun hp=>?_⟩
  ·have hs64:=(hLm i hlt).1
   have hg:=zaL hlt
   have hhol:=zr2 (p:=p) hcx hs64 hp
   have hdl:=zcg (zay (zak xs) (L.getD i 0))
   have hhl:=zaM (zay (zak xs) (L.getD i 0)) p
   have hbq:bdQ (zak xs) p D (L.getD i 0) = bdK (zcT (zay (zak xs) (L.getD i 0)) p) D (L.getD i 0) (zcT (zay (zak xs) (L.getD i 0)) p).length:=rfl
   have hfa:=fun h=>zvY hall hlt h
   rw [hres hh hp]
   have hns:∀ j,j < i + 1→bdQ (zak xs) p D (L.getD i 0) = false→bdQ (zak xs) p D (L.getD j 0) = false:=fun j hj h=>by
    by_cases e:j = i
    ·rw [e];exact h
    ·exact hall j (by omega)
   generalize hs0:L.getD i 0 = s0 at *
   have hpl:=zbT hs64
   simp (maxSteps:=5000000) -dsimp only [↓gp,gq,reduceCtorEq,reduceEqDiff,reduceLT,reduceLeDiff,reduceAdd,reduceMul,reduceSub,Nat.reduceBEq,Int.reduceToNat,Int.reduceLE,Int.reduceLT,Int.reduceNeg,reduceMod,zac,zad,zab,zaa,gT,TK.isInt,TK.agg,Array.toList,h1a,h2a,r2a,h6a,r12a,h7a,h8a,zah,hg]
   refine ⟨by kernel_rfl,hlt,hlt,zaf (zei _ xs s0 hs64 (zcw hcx) (by have:=zur hcx;omega)) ?_⟩
   simp (maxSteps:=5000000) -dsimp only [↓gp,gq,reduceCtorEq,reduceEqDiff,reduceLT,reduceLeDiff,reduceAdd,reduceMul,reduceSub,Nat.reduceBEq,Int.reduceToNat,Int.reduceLE,Int.reduceLT,Int.reduceNeg,reduceMod,zac,zad,zab,zaa,gT,TK.isInt,TK.agg,Array.toList,h1a,h2a,r2a,h6a,r12a,h7a,h8a,zah,hg]
   refine zaf (zdq _ _ p) ?_
   rw [hhol]
   generalize zcT (zay (zak xs) s0) p = hs at *
   simp (maxSteps:=5000000) -dsimp only [↓gp,gq,reduceCtorEq,reduceEqDiff,reduceLT,reduceLeDiff,reduceAdd,reduceMul,reduceSub,Nat.reduceBEq,Int.reduceToNat,Int.reduceLE,Int.reduceLT,Int.reduceNeg,reduceMod,zac,zad,zab,zaa,gT,TK.isInt,TK.agg,Array.toList,h1a,h2a,r2a,h6a,r12a,h7a,h8a,zah,hg]
   refine ⟨by kernel_rfl,?_⟩
   refine zao (fun (k:Nat) s=>s.sl 1 = int p∧s.sl 2 = .ref 2 1 0∧s.rw 2 = ⟨1,.box 27 [int (m:Nat),zbv xs]⟩∧s.sl 6 = .own 12 1∧s.rw 12 = ⟨1,.sli 3 1 false (iL (ofN L))⟩∧s.sl 7 = int D∧s.sl 8 = int i∧s.sl 9 = .own 33 ((sa.rw 33).ver + 1)∧s.rw 33 = ⟨(sa.rw 33).ver + 1,.sli 3 1 false (iL hs)⟩∧s.sl 10 = int k∧(k ≤ hs.length∧bdK hs D s0 k = false)) (fun k=>hs.length - k) (0) (by refine ⟨?_,?_,?_,?_,?_,?_,?_,?_,?_,?_,⟨Nat.zero_le _,rfl⟩⟩ <;> (first | (simp (maxSteps:=5000000) -dsimp only [gr,reduceEqDiff,reduceLT,reduceAdd,reduceMod,Nat.reduceBEq,zaa,zac,zad,zab,h1a,h2a,r2a,h6a,r12a,h7a,h8a];first | done | rfl | (simp;done)) | assumption | rfl)) ?_
   intro k sb ⟨h1b,h2b,r2b,h6b,r12b,h7b,h8b,h9b,r33b,h10b,hIb⟩
   obtain ⟨hk,hbk⟩:=hIb
   have hbs:=zmz hs D s0 k
   rw [hbk,Bool.false_or] at hbs
   have hw:IntKind.i64.wrap (D - (zap s0:Int)) = D - (zap s0:Int):=zaq (by omega) (by omega)
   simp (maxSteps:=5000000) -dsimp only [↓gp,gq,reduceCtorEq,reduceEqDiff,reduceLT,reduceLeDiff,reduceAdd,reduceMul,reduceSub,Nat.reduceBEq,Int.reduceToNat,Int.reduceLE,Int.reduceLT,Int.reduceNeg,reduceMod,zac,zad,zab,zaa,gT,TK.isInt,TK.agg,Array.toList,h1b,h2b,r2b,h6b,r12b,h7b,h8b,h9b,r33b,h10b,zah,hg]
   refine ⟨fun hk2=>⟨hlt,hlt,zaf (zaK s0 (by omega)) ?_⟩,fun hk2=>?_⟩
   ·simp (maxSteps:=5000000) -dsimp only [↓gp,gq,reduceCtorEq,reduceEqDiff,reduceLT,reduceLeDiff,reduceAdd,reduceMul,reduceSub,Nat.reduceBEq,Int.reduceToNat,Int.reduceLE,Int.reduceLT,Int.reduceNeg,reduceMod,zac,zad,zab,zaa,gT,TK.isInt,TK.agg,Array.toList,h1b,h2b,r2b,h6b,r12b,h7b,h8b,h9b,r33b,h10b,zah,hg,hw]
    refine ⟨fun hb2=>⟨hk2,hk2,fun hz=>?_,fun hz=>?_⟩,fun hb2=>?_⟩
    ·rw [hz,decide_eq_true hb2] at hbs
     have hq:bdQ (zak xs) p D s0 = true:=by
      rw [hbq]
      have hbs:bdK hs D s0 (k + 1) = true:=hbs
      unfold bdK at hbs ⊢
      rw [List.any_eq_true] at hbs ⊢
      obtain ⟨j,hj,h⟩:=hbs
      have:=List.mem_range.1 hj
      exact ⟨j,List.mem_range.2 (by omega),h⟩
     rw [hfa hq]
     exact ⟨hlt,hlt,rfl,rfl⟩
    ·rw [hz,Bool.false_and] at hbs
     exact zag (k + 1) (by refine ⟨?_,?_,?_,?_,?_,?_,?_,?_,?_,?_,⟨by omega,hbs⟩⟩ <;> (first | (simp (maxSteps:=5000000) -dsimp only [gr,reduceEqDiff,reduceLT,reduceAdd,reduceMod,Nat.reduceBEq,zaa,zac,zad,zab,h1b,h2b,r2b,h6b,r12b,h7b,h8b,h9b,r33b,h10b,zae (show k < 8 by omega) (by omega)];first | done | rfl | (simp;done)) | assumption | rfl)) (by first | omega | (simp only;omega) | (dsimp only;omega) | (show _ < _;simp;omega))
    ·have hre:=zrX hbk hb2 (hs.length - k)
     rw [show k + (hs.length - k) = hs.length by omega,← hbq] at hre
     exact zag (i + 1) (by refine ⟨?_,?_,?_,?_,?_,?_,?_,⟨by omega,.inr hp,fun j hj=>hns j hj hre⟩⟩ <;> (first | (simp (maxSteps:=5000000) -dsimp only [gr,reduceEqDiff,reduceLT,reduceAdd,reduceMod,Nat.reduceBEq,zaa,zac,zad,zab,h1a,h2a,r2a,h6a,r12a,h7a,h8a,h1b,h2b,r2b,h6b,r12b,h7b,h8b,h9b,r33b,h10b,zae hlt (by omega)];first | done | rfl | (simp;done)) | assumption | rfl)) (by first | omega | (simp only;omega) | (dsimp only;omega) | (show _ < _;simp;omega))
   ·have hke:k = hs.length:=by omega
    subst hke
    rw [← hbq] at hbk
    exact zag (i + 1) (by refine ⟨?_,?_,?_,?_,?_,?_,?_,⟨by omega,.inr hp,fun j hj=>hns j hj hbk⟩⟩ <;> (first | (simp (maxSteps:=5000000) -dsimp only [gr,reduceEqDiff,reduceLT,reduceAdd,reduceMod,Nat.reduceBEq,zaa,zac,zad,zab,h1a,h2a,r2a,h6a,r12a,h7a,h8a,h1b,h2b,r2b,h6b,r12b,h7b,h8b,h9b,r33b,h10b,zae hlt (by omega)];first | done | rfl | (simp;done)) | assumption | rfl)) (by first | omega | (simp only;omega) | (dsimp only;omega) | (show _ < _;simp;omega))
  ·rw [hno2 hp];exact ⟨rfl,rfl⟩
 ·have hil:i = L.length:=by omega
  have:blO n xs p = none:=by
   by_cases h:zet n xs = true
   ·cases hp:isP p with
    | false=>exact hno2 hp
    | true=>rw [hres h hp];exact znQ hall hil
   ·exact hnoF h
  rw [this];exact ⟨rfl,rfl⟩
theorem zvX (a b:Int):IntKind.i64.wrap (IntKind.i64.wrap a + b) = IntKind.i64.wrap (a + b):=by
 simp [IntKind.wrap,IntKind.bits,IntKind.signed]
 omega
theorem zD9 (m:Nat):zcZ .i64 (m:Int) 1 = ((m % 2:Nat):Int):=by
 have e:zcZ .i64 (m:Int) 1 = IntKind.i64.wrap (((BitVec.ofInt 64 (m:Int) &&& BitVec.ofInt 64 1).toNat:Nat):Int):=rfl
 have h1:BitVec.ofInt 64 (m:Int) = BitVec.ofNat 64 m:=by simp
 have h2:BitVec.ofInt 64 (1:Int) = BitVec.ofNat 64 1:=by decide
 have h3:(BitVec.ofNat 64 m &&& BitVec.ofNat 64 1).toNat = m % 2:=by
  rw [BitVec.toNat_and,BitVec.toNat_ofNat,BitVec.toNat_ofNat,show 1 % 2 ^ 64 = 1 by decide,Nat.and_one_is_mod]
  omega
 rw [e,h1,h2,h3,zaq (by omega) (by omega)]
def pzI (s:Int):Int:=IntKind.i64.wrap ((zap s.toNat:Nat):Int)
theorem zg1 {s:Int} (h:0 ≤ s∧s < 64):pzI s = (zap s.toNat:Nat):=by
 have:=zbT (s:=s.toNat) (by omega)
 exact zaq (by omega) (by omega)
theorem zfl (u:Int):AC Try.prog 92 [int u] (.im (int (pzI u))):=by
 refine AC.go (rs:=[.tmp 2]) zbe zax Try.func92 rfl rfl rfl (by kernel_rfl) fun hl=>?_
 simp (maxSteps:=5000000) -dsimp only [↓gp,gq,reduceCtorEq,reduceEqDiff,reduceLT,reduceLeDiff,reduceAdd,reduceMul,reduceSub,Nat.reduceBEq,Int.reduceToNat,Int.reduceLE,Int.reduceLT,Int.reduceNeg,reduceMod,zac,zad,zab,zaa,gT,TK.isInt,TK.agg,Array.toList]
 by_cases hs:0 ≤ u
 ·obtain ⟨n,rfl⟩:=Int.eq_ofNat_of_zero_le hs
  have hz:int 0 = int (IntKind.i64.wrap ((0:Nat):Int)):=rfl
  refine zao (fun (za:Nat × Nat) s=>match za with | (m,a)=>s.sl 0 = int m∧s.sl 3 = int (IntKind.i64.wrap (a:Int))∧(a + zap m = zap n)) (fun (m,a)=>m) ((n,0)) (by refine ⟨?_,?_,by simp⟩ <;> (first | (simp (maxSteps:=5000000) -dsimp only [gr,reduceEqDiff,reduceLT,reduceAdd,reduceMod,Nat.reduceBEq,zaa,zac,zad,zab,hz];first | done | rfl | (simp;done)) | assumption | rfl)) ?_
  intro (m,a) sa ⟨h0a,h3a,hIa⟩
  simp (maxSteps:=5000000) -dsimp only [↓gp,gq,reduceCtorEq,reduceEqDiff,reduceLT,reduceLeDiff,reduceAdd,reduceMul,reduceSub,Nat.reduceBEq,Int.reduceToNat,Int.reduceLE,Int.reduceLT,Int.reduceNeg,reduceMod,zac,zad,zab,zaa,gT,TK.isInt,TK.agg,Array.toList,h0a,h3a,zD9,zuf,zvX]
  refine ⟨fun h1=>?_,fun h1=>?_⟩
  ·have hm0:m ≠ 0:=by omega
   have hp:=hIa
   rw [ziF hm0] at hp
   have hw:IntKind.i64.wrap ((a:Int) + ((m % 2:Nat):Int)) = IntKind.i64.wrap ((a + m % 2:Nat):Int):=by congr 1
   exact zag ((m / 2,a + m % 2)) (by refine ⟨?_,?_,by dsimp only;omega⟩ <;> (first | (simp (maxSteps:=5000000) -dsimp only [gr,reduceEqDiff,reduceLT,reduceAdd,reduceMod,Nat.reduceBEq,zaa,zac,zad,zab,h0a,h3a,hw];first | done | rfl | (simp;done)) | assumption | rfl)) (by first | omega | (simp only;omega) | (dsimp only;omega) | (show _ < _;simp;omega))
  ·have:m = 0:=by omega
   subst this
   rw [zbA,Nat.add_zero] at hIa
   unfold pzI
   rw [Int.toNat_natCast,← hIa]
 ·refine zao (fun (t:Unit) s=>s.sl 0 = int u∧s.sl 3 = int 0∧(True)) (fun t=>0) (()) (by refine ⟨?_,?_,trivial⟩ <;> (first | (simp (maxSteps:=5000000) -dsimp only [gr,reduceEqDiff,reduceLT,reduceAdd,reduceMod,Nat.reduceBEq,zaa,zac,zad,zab];first | done | rfl | (simp;done)) | assumption | rfl)) ?_
  intro t sa ⟨h0a,h3a,hIa⟩
  simp (maxSteps:=5000000) -dsimp only [↓gp,gq,reduceCtorEq,reduceEqDiff,reduceLT,reduceLeDiff,reduceAdd,reduceMul,reduceSub,Nat.reduceBEq,Int.reduceToNat,Int.reduceLE,Int.reduceLT,Int.reduceNeg,reduceMod,zac,zad,zab,zaa,gT,TK.isInt,TK.agg,Array.toList,h0a,h3a]
  refine ⟨fun h1=>absurd h1 (by omega),fun h1=>?_⟩
  have:u.toNat = 0:=by omega
  unfold pzI
  rw [this,zbA];rfl
noncomputable def puB (n:Int) (xs:List Int):Bool:=zcN n xs && xs.all fun x=>decide (zap x.toNat = zap (xs.getD 0 0).toNat)
theorem zEa {n:Int} {xs:List Int} {k:Nat} (hk:k < xs.length) (h:pzI (xs.getD k 0) ≠ pzI (xs.getD 0 0)):puB n xs = false:=by
 unfold puB
 cases hc:zcN n xs with
 | false=>rfl
 | true =>
   have hok:=zcw hc
   rw [Bool.true_and,List.all_eq_false]
   refine ⟨_,zat 0 hk,?_⟩
   rw [zg1 (hok _ (zat 0 hk)),zg1 (hok _ (zat 0 (show 0 < xs.length by omega)))] at h
   intro e
   exact h (by have:=of_decide_eq_true e;omega)
theorem zA4 {n:Int} {xs:List Int} (hc:zcN n xs = true) (h:∀ k,k < xs.length→pzI (xs.getD k 0) = pzI (xs.getD 0 0)):puB n xs = true:=by
 unfold puB
 have hok:=zcw hc
 rw [hc,Bool.true_and,List.all_eq_true]
 intro x hx
 obtain ⟨k,hk,rfl⟩:=zbq 0 hx
 have:=h k hk
 rw [zg1 (hok _ (zat 0 hk)),zg1 (hok _ (zat 0 (show 0 < xs.length by omega)))] at this
 exact decide_eq_true (by omega)
theorem zc3 (n:Int) (xs:List Int):AC Try.prog 66 [.ag [int n,zbv xs]] (.im (bool (puB n xs))):=by
 refine AC.go (rs:=[.tmp 2]) zbe zax Try.func66 rfl rfl rfl (by kernel_rfl) fun hl=>?_
 simp only [za6,zbt,and_true,zcn,zd4,zc5,true_and] at hl
 simp (maxSteps:=5000000) -dsimp only [↓gp,gq,reduceCtorEq,reduceEqDiff,reduceLT,reduceLeDiff,reduceAdd,reduceMul,reduceSub,Nat.reduceBEq,Int.reduceToNat,Int.reduceLE,Int.reduceLT,Int.reduceNeg,reduceMod,zac,zad,zab,zaa,gT,TK.isInt,TK.agg,Array.toList]
 refine zao (fun (k:Nat) s=>s.sl 1 = .ref 1 1 0∧s.rw 1 = ⟨1,.box 27 [int n,zbv xs]⟩∧s.sl 3 = int (k + 1:Nat)∧((k + 1 ≤ xs.length ∨ k = 0)∧∀ j,j < k + 1→pzI (xs.getD j 0) = pzI (xs.getD 0 0))) (fun k=>xs.length - k) (0) (by refine ⟨?_,?_,?_,⟨.inr rfl,fun j hj=>by rw [show j = 0 by omega]⟩⟩ <;> (first | (simp (maxSteps:=5000000) -dsimp only [gr,reduceEqDiff,reduceLT,reduceAdd,reduceMod,Nat.reduceBEq,zaa,zac,zad,zab];first | done | rfl | (simp;done)) | assumption | rfl)) ?_
 intro k sa ⟨h1a,r1a,h3a,hIa⟩
 obtain ⟨hk,hall⟩:=hIa
 simp (maxSteps:=5000000) -dsimp only [↓gp,gq,reduceCtorEq,reduceEqDiff,reduceLT,reduceLeDiff,reduceAdd,reduceMul,reduceSub,Nat.reduceBEq,Int.reduceToNat,Int.reduceLE,Int.reduceLT,Int.reduceNeg,reduceMod,zac,zad,zab,zaa,gT,TK.isInt,TK.agg,Array.toList,h1a,r1a,h3a]
 refine ⟨fun h=>⟨by kernel_rfl,h,h,zaf (zfl _) ?_⟩,fun h=>zaf (zbO n xs) ?_⟩
 ·simp (maxSteps:=5000000) -dsimp only [↓gp,gq,reduceCtorEq,reduceEqDiff,reduceLT,reduceLeDiff,reduceAdd,reduceMul,reduceSub,Nat.reduceBEq,Int.reduceToNat,Int.reduceLE,Int.reduceLT,Int.reduceNeg,reduceMod,zac,zad,zab,zaa,gT,TK.isInt,TK.agg,Array.toList,h1a,r1a,h3a]
  refine ⟨by omega,by omega,zaf (zfl _) ?_⟩
  simp (maxSteps:=5000000) -dsimp only [↓gp,gq,reduceCtorEq,reduceEqDiff,reduceLT,reduceLeDiff,reduceAdd,reduceMul,reduceSub,Nat.reduceBEq,Int.reduceToNat,Int.reduceLE,Int.reduceLT,Int.reduceNeg,reduceMod,zac,zad,zab,zaa,gT,TK.isInt,TK.agg,Array.toList,h1a,r1a,h3a]
  refine ⟨fun he=>?_,fun he=>?_⟩
  ·rw [zEa h (by simpa using he)]
  ·have he:pzI (xs.getD (k + 1) 0) = pzI (xs.getD 0 0):=by simpa using he
   exact zag (k + 1) (by refine ⟨?_,?_,?_,⟨.inl (by omega),fun j hj=>by
    by_cases e:j = k + 1
    ·rw [e];exact he
    ·exact hall j (by omega)⟩⟩ <;> (first | (simp (maxSteps:=5000000) -dsimp only [gr,reduceEqDiff,reduceLT,reduceAdd,reduceMod,Nat.reduceBEq,zaa,zac,zad,zab,h1a,r1a,h3a,zae h hl];first | done | rfl | (simp;done)) | assumption | rfl)) (by first | omega | (simp only;omega) | (dsimp only;omega) | (show _ < _;simp;omega))
 ·simp (maxSteps:=5000000) -dsimp only [↓gp,gq,reduceCtorEq,reduceEqDiff,reduceLT,reduceLeDiff,reduceAdd,reduceMul,reduceSub,Nat.reduceBEq,Int.reduceToNat,Int.reduceLE,Int.reduceLT,Int.reduceNeg,reduceMod,zac,zad,zab,zaa,gT,TK.isInt,TK.agg,Array.toList,h1a,r1a,h3a]
  cases hc:zcN n xs with
  | false=>unfold puB;rw [hc];rfl
  | true=>rw [zA4 hc fun j hj=>hall j (by omega)]
theorem zmy (n:Int) (xs:List Int):AC Try.prog 129 [.ag [int n,zbv xs]] (.im (bool (puB n xs))):=by
 refine AC.go (rs:=[.tmp 2]) zbe zax Try.func129 rfl rfl rfl (by kernel_rfl) fun hl=>?_
 simp only [za6,zbt,and_true,zcn,zd4,zc5,true_and] at hl
 simp (maxSteps:=5000000) -dsimp only [↓gp,gq,reduceCtorEq,reduceEqDiff,reduceLT,reduceLeDiff,reduceAdd,reduceMul,reduceSub,Nat.reduceBEq,Int.reduceToNat,Int.reduceLE,Int.reduceLT,Int.reduceNeg,reduceMod,zac,zad,zab,zaa,gT,TK.isInt,TK.agg,Array.toList]
 refine zaf (zbP n xs) ?_
 simp (maxSteps:=5000000) -dsimp only [↓gp,gq,reduceCtorEq,reduceEqDiff,reduceLT,reduceLeDiff,reduceAdd,reduceMul,reduceSub,Nat.reduceBEq,Int.reduceToNat,Int.reduceLE,Int.reduceLT,Int.reduceNeg,reduceMod,zac,zad,zab,zaa,gT,TK.isInt,TK.agg,Array.toList]
 refine ⟨fun hc=>?_,fun hc=>?_⟩
 ·have hc:zcN n xs = false:=by simpa using hc
  unfold puB;rw [hc];rfl
 ·have hc:zcN n xs = true:=by simpa using hc
  have hok:=zcw hc
  refine zao (fun (k:Nat) s=>s.sl 1 = .ref 1 1 0∧s.rw 1 = ⟨1,.box 27 [int n,zbv xs]⟩∧s.sl 9 = zbv xs∧s.sl 10 = int xs.length∧s.sl 11 = int k∧(k ≤ xs.length∧∀ j,j < k→pzI (xs.getD j 0) = pzI (xs.getD 0 0))) (fun k=>xs.length - k) (0) (by refine ⟨?_,?_,?_,?_,?_,⟨Nat.zero_le _,fun j hj=>by omega⟩⟩ <;> (first | (simp (maxSteps:=5000000) -dsimp only [gr,reduceEqDiff,reduceLT,reduceAdd,reduceMod,Nat.reduceBEq,zaa,zac,zad,zab];first | done | rfl | (simp;done)) | assumption | rfl)) ?_
  intro k sa ⟨h1a,r1a,h9a,h10a,h11a,hIa⟩
  obtain ⟨hk,hall⟩:=hIa
  simp (maxSteps:=5000000) -dsimp only [↓gp,gq,reduceCtorEq,reduceEqDiff,reduceLT,reduceLeDiff,reduceAdd,reduceMul,reduceSub,Nat.reduceBEq,Int.reduceToNat,Int.reduceLE,Int.reduceLT,Int.reduceNeg,reduceMod,zac,zad,zab,zaa,gT,TK.isInt,TK.agg,Array.toList,h1a,r1a,h9a,h10a,h11a]
  refine ⟨fun h=>⟨h,h,by kernel_rfl,zaf (zaG _) ?_⟩,fun h=>?_⟩
  ·have q1:=hok _ (zat 0 h)
   have q0:=hok _ (zat 0 (show 0 < xs.length by omega))
   simp (maxSteps:=5000000) -dsimp only [↓gp,gq,reduceCtorEq,reduceEqDiff,reduceLT,reduceLeDiff,reduceAdd,reduceMul,reduceSub,Nat.reduceBEq,Int.reduceToNat,Int.reduceLE,Int.reduceLT,Int.reduceNeg,reduceMod,zac,zad,zab,zaa,gT,TK.isInt,TK.agg,Array.toList,h1a,r1a,h9a,h10a,h11a]
   refine ⟨by omega,by omega,zaf (zaG _) ?_⟩
   rw [zdG q1,zdG q0,← zg1 q1,← zg1 q0]
   simp (maxSteps:=5000000) -dsimp only [↓gp,gq,reduceCtorEq,reduceEqDiff,reduceLT,reduceLeDiff,reduceAdd,reduceMul,reduceSub,Nat.reduceBEq,Int.reduceToNat,Int.reduceLE,Int.reduceLT,Int.reduceNeg,reduceMod,zac,zad,zab,zaa,gT,TK.isInt,TK.agg,Array.toList,h1a,r1a,h9a,h10a,h11a]
   refine ⟨fun he=>?_,fun he=>?_⟩
   ·rw [zEa h (by simpa using he)]
   ·have he:pzI (xs.getD k 0) = pzI (xs.getD 0 0):=by simpa using he
    exact zag (k + 1) (by refine ⟨?_,?_,?_,?_,?_,⟨by omega,fun j hj=>by
     by_cases e:j = k
     ·rw [e];exact he
     ·exact hall j (by omega)⟩⟩ <;> (first | (simp (maxSteps:=5000000) -dsimp only [gr,reduceEqDiff,reduceLT,reduceAdd,reduceMod,Nat.reduceBEq,zaa,zac,zad,zab,h1a,r1a,h9a,h10a,h11a,zae h hl];first | done | rfl | (simp;done)) | assumption | rfl)) (by first | omega | (simp only;omega) | (dsimp only;omega) | (show _ < _;simp;omega))
  ·rw [zA4 hc fun j hj=>hall j (by omega)]
theorem zgV {α β:Type} (f:α→Option β) {l:List α} {k:Nat} (d:α) (h:k < l.length):(l.take (k + 1)).findSome? f = ((l.take k).findSome? f).or (f (l.getD k d)):=by
 rw [zaR d h,List.findSome?_append]
 simp
theorem zqK {α β:Type} (f:α→Option β) {l:List α} {k:Nat} (d:α) (h:k < l.length) (h0:(l.take k).findSome? f = none) {x:β} (h1:f (l.getD k d) = some x):l.findSome? f = some x:=by
 rw [← List.take_append_drop (k + 1) l,List.findSome?_append,zgV f d h,h0,h1];rfl
noncomputable def zF1 (xs:List Int):List Nat:=(List.range 64).filter (inF xs)
noncomputable def zk2 (xs:List Int):List Int:=ofN (zF1 xs)
theorem zFP (xs:List Int):okL (zk2 xs):=fun b hb=>by
 unfold zk2 ofN at hb
 obtain ⟨s,hs,rfl⟩:=List.mem_map.1 hb
 have:=List.mem_range.1 (List.mem_filter.1 hs).1
 omega
theorem zDR (xs:List Int):(zk2 xs).length ≤ 64:=by
 unfold zk2 zF1
 rw [zah]
 have:=List.length_filter_le (inF xs) (List.range 64)
 rw [List.length_range] at this
 exact this
theorem zA2 {xs:List Int} (hn:xs.Nodup) (hx:okL xs):zAZ xs = zk2 xs:=by
 symm
 have hmem:∀ x:Int,x ∈ zk2 xs ↔ x ∈ xs:=fun x=>by
  unfold zk2 zF1 ofN
  rw [List.mem_map]
  refine ⟨fun ⟨s,hs,e⟩=>?_,fun h=>⟨x.toNat,List.mem_filter.2 ⟨List.mem_range.2 (by have:=hx x h;omega),?_⟩,by have:=hx x h;omega⟩⟩
  ·have h2:=(List.mem_filter.1 hs).2
   unfold inF at h2
   rw [← e];exact of_decide_eq_true h2
  ·unfold inF
   have:=hx x h
   exact decide_eq_true (by rw [show ((x.toNat:Nat):Int) = x by omega];exact h)
 have hpw:(zk2 xs).Pairwise (· < ·):=by
  unfold zk2 zF1 ofN
  refine List.Pairwise.map _ (fun a b h=>?_) (List.Pairwise.filter _ List.pairwise_lt_range)
  ·exact Int.ofNat_lt.2 h
 refine zA1 ?_ (hpw.imp fun h=>Int.le_of_lt h)
 exact (List.perm_ext_iff_of_nodup (hpw.imp fun h=>Int.ne_of_lt h) hn).2 hmem
section
variable {items:List Int} {f:FuncId} {fl:List Bool} {p:PV} {Kp:PV→Prop}
end
def zF2 (l:List Nat):Prop:=∀ g ∈ l,g < 64
theorem zzB {l:List Nat} (h:zF2 l) {k:Nat} (hk:k < l.length):l.getD k 0 < 64:=h _ (zat 0 hk)
theorem zzC:∀ f,f < 64→∀ i,i < 6→(((f &&& 2 ^ i:Nat):Int) == 0) = !(Nat.testBit f i):=by decide +kernel
theorem znH (bs:List Nat) (fc:Nat) (hb:zF2 bs) (hs:fc < 64):AC Try.prog 210 [zbv (ofN bs),int fc] (.im (int (frN bs fc 6:Nat))):=by
 refine AC.go (rs:=[.tmp 4]) zbe zax Try.func210 rfl rfl rfl (by kernel_rfl) fun hl=>?_
 simp only [za6,zbt,and_true,zeA,zeY,true_and,zah] at hl
 have hol:=zah bs
 simp (maxSteps:=5000000) -dsimp only [↓gp,gq,reduceCtorEq,reduceEqDiff,reduceLT,reduceLeDiff,reduceAdd,reduceMul,reduceSub,Nat.reduceBEq,Int.reduceToNat,Int.reduceLE,Int.reduceLT,Int.reduceNeg,reduceMod,zac,zad,zab,zaa,gT,TK.isInt,TK.agg,Array.toList]
 refine zao (fun (i:Nat) s=>s.sl 0 = zbv (ofN bs)∧s.sl 1 = int fc∧s.sl 5 = int (frN bs fc i:Nat)∧s.sl 6 = int i∧(i ≤ 6)) (fun i=>6 - i) (0) (by refine ⟨?_,?_,?_,?_,by omega⟩ <;> (first | (simp (maxSteps:=5000000) -dsimp only [gr,reduceEqDiff,reduceLT,reduceAdd,reduceMod,Nat.reduceBEq,zaa,zac,zad,zab,frN];first | done | rfl | (simp;done)) | assumption | rfl)) ?_
 intro i sa ⟨h0a,h1a,h5a,h6a,hIa⟩
 by_cases hi:i < 6
 ·have hui:IntKind.u64.wrap (i:Int) = (i:Int):=zbG (by omega)
  have hsh:znN .i64 1 (i:Int) = ((2 ^ i:Nat):Int):=zbB (by omega)
  have h2i:(2:Nat) ^ i ≤ 2 ^ 5:=Nat.pow_le_pow_right (by omega) (by omega)
  have han:zcZ .i64 (fc:Int) ((2 ^ i:Nat):Int) = ((fc &&& 2 ^ i:Nat):Int):=za4 (by omega) (by omega)
  have hbit:(((fc &&& 2 ^ i:Nat):Int) == 0) = !(fc.testBit i):=zzC fc hs i hi
  have hfr:frN bs fc (i + 1) = if fc.testBit i && bs.any (fun g=>g &&& (fc - 2 ^ i) == fc - 2 ^ i) then frN bs fc i ||| 2 ^ i else frN bs fc i:=rfl
  simp (maxSteps:=5000000) -dsimp only [↓gp,gq,reduceCtorEq,reduceEqDiff,reduceLT,reduceLeDiff,reduceAdd,reduceMul,reduceSub,Nat.reduceBEq,Int.reduceToNat,Int.reduceLE,Int.reduceLT,Int.reduceNeg,reduceMod,zac,zad,zab,zaa,gT,TK.isInt,TK.agg,Array.toList,h0a,h1a,h5a,h6a,hui,hsh,han,hbit]
  refine ⟨fun _=>⟨fun hz=>?_,fun hz=>?_⟩,fun h=>absurd (show (i:Int) < 6 by omega) h⟩
  ·have hz:fc.testBit i = false:=by simpa using hz
   rw [hz,Bool.false_and,if_neg (by decide)] at hfr
   exact zag (i + 1) (by refine ⟨?_,?_,?_,?_,by omega⟩ <;> (first | (simp (maxSteps:=5000000) -dsimp only [gr,reduceEqDiff,reduceLT,reduceAdd,reduceMod,Nat.reduceBEq,zaa,zac,zad,zab,h0a,h1a,h5a,h6a,zae hi (by omega),hfr];first | done | rfl | (simp;done)) | assumption | rfl)) (by first | omega | (simp only;omega) | (dsimp only;omega) | (show _ < _;simp;omega))
  ·have hz:fc.testBit i = true:=by simpa using hz
   rw [hz,Bool.true_and] at hfr
   have hle:2 ^ i ≤ fc:=Nat.ge_two_pow_of_testBit hz
   have hsl:fc - 2 ^ i ≤ fc:=Nat.sub_le _ _
   have hsub:IntKind.i64.wrap ((fc:Int) - ((2 ^ i:Nat):Int)) = ((fc - 2 ^ i:Nat):Int):=by
    rw [← Int.ofNat_sub hle];exact zaq (by omega) (by omega)
   generalize hq:(fun g=>g &&& (fc - 2 ^ i) == fc - 2 ^ i) = q at *
   refine zao (fun (k:Nat) s=>s.sl 0 = zbv (ofN bs)∧s.sl 1 = int fc∧s.sl 5 = int (if (bs.take k).any q = true then frN bs fc i ||| 2 ^ i else frN bs fc i:Nat)∧s.sl 6 = int i∧s.sl 7 = int (2 ^ i:Nat)∧s.sl 8 = int k∧(k ≤ bs.length)) (fun k=>bs.length - k) (0) (by refine ⟨?_,?_,?_,?_,?_,?_,by omega⟩ <;> (first | (simp (maxSteps:=5000000) -dsimp only [gr,reduceEqDiff,reduceLT,reduceAdd,reduceMod,Nat.reduceBEq,zaa,zac,zad,zab,h0a,h1a,h5a,h6a,hsh,hui,List.take_zero,List.any_nil];first | done | rfl | (simp;done)) | assumption | rfl)) ?_
   intro k sb ⟨h0b,h1b,h5b,h6b,h7b,h8b,hIb⟩
   simp (maxSteps:=5000000) -dsimp only [↓gp,gq,reduceCtorEq,reduceEqDiff,reduceLT,reduceLeDiff,reduceAdd,reduceMul,reduceSub,Nat.reduceBEq,Int.reduceToNat,Int.reduceLE,Int.reduceLT,Int.reduceNeg,reduceMod,zac,zad,zab,zaa,gT,TK.isInt,TK.agg,Array.toList,h0b,h1b,h5b,h6b,h7b,h8b,hol,hsub]
   refine ⟨fun hk=>?_,fun hk=>?_⟩
   ·have hg:=zzB hb hk
    have hx:zcZ .i64 ((bs.getD k 0:Nat):Int) ((fc - 2 ^ i:Nat):Int) = ((bs.getD k 0 &&& (fc - 2 ^ i):Nat):Int):=za4 (by omega) (by omega)
    rw [zaL hk,hx]
    have hany:(bs.take (k + 1)).any q = ((bs.take k).any q || q (bs.getD k 0)):=by rw [zaR 0 hk,List.any_append];simp
    have hqk:q (bs.getD k 0) = (bs.getD k 0 &&& (fc - 2 ^ i) == fc - 2 ^ i):=by rw [← hq]
    have hcast:(((bs.getD k 0 &&& (fc - 2 ^ i):Nat):Int) == ((fc - 2 ^ i:Nat):Int)) = (bs.getD k 0 &&& (fc - 2 ^ i) == fc - 2 ^ i):=by
     rw [Bool.eq_iff_iff,beq_iff_eq,beq_iff_eq];omega
    refine ⟨hk,hk,fun he=>?_,fun he=>?_⟩
    ·have he:q (bs.getD k 0) = true:=by rw [hqk,← hcast];exact he
     have hlt:frN bs fc i < 64:=zFN hs
     have hlt2:frN bs fc i ||| 2 ^ i < 64:=Nat.or_lt_two_pow (n:=6) hlt (by omega)
     have hor:ior .i64 ((if (bs.take k).any q = true then frN bs fc i ||| 2 ^ i else frN bs fc i:Nat):Int) ((2 ^ i:Nat):Int) = ((frN bs fc i ||| 2 ^ i:Nat):Int):=by
      rw [zyC (by split <;> omega) (by omega)]
      split
      ·rw [Nat.or_assoc,Nat.or_self]
      ·rfl
     exact zag (k + 1) (by refine ⟨?_,?_,?_,?_,?_,?_,by omega⟩ <;> (first | (simp (maxSteps:=5000000) -dsimp only [gr,reduceEqDiff,reduceLT,reduceAdd,reduceMod,Nat.reduceBEq,zaa,zac,zad,zab,h0b,h1b,h5b,h6b,h7b,h8b,zae hk hl,hany,he,hor,Bool.or_true,if_true];first | done | rfl | (simp;done)) | assumption | rfl)) (by first | omega | (simp only;omega) | (dsimp only;omega) | (show _ < _;simp;omega))
    ·have he:q (bs.getD k 0) = false:=by rw [hqk,← hcast];exact he
     exact zag (k + 1) (by refine ⟨?_,?_,?_,?_,?_,?_,by omega⟩ <;> (first | (simp (maxSteps:=5000000) -dsimp only [gr,reduceEqDiff,reduceLT,reduceAdd,reduceMod,Nat.reduceBEq,zaa,zac,zad,zab,h0b,h1b,h5b,h6b,h7b,h8b,zae hk hl,hany,he,Bool.or_false];first | done | rfl | (simp;done)) | assumption | rfl)) (by first | omega | (simp only;omega) | (dsimp only;omega) | (show _ < _;simp;omega))
   ·have e:k = bs.length:=by omega
    rw [e,List.take_length,← hfr] at h5b
    exact zag (i + 1) (by refine ⟨?_,?_,?_,?_,by omega⟩ <;> (first | (simp (maxSteps:=5000000) -dsimp only [gr,reduceEqDiff,reduceLT,reduceAdd,reduceMod,Nat.reduceBEq,zaa,zac,zad,zab,h0a,h1a,h5a,h6a,h0b,h1b,h5b,h6b,zae hi (by omega)];first | done | rfl | (simp;done)) | assumption | rfl)) (by first | omega | (simp only;omega) | (dsimp only;omega) | (show _ < _;simp;omega))
 ·have e:i = 6:=by omega
  subst e
  simp (maxSteps:=5000000) -dsimp only [↓gp,gq,reduceCtorEq,reduceEqDiff,reduceLT,reduceLeDiff,reduceAdd,reduceMul,reduceSub,Nat.reduceBEq,Int.reduceToNat,Int.reduceLE,Int.reduceLT,Int.reduceNeg,reduceMod,zac,zad,zab,zaa,gT,TK.isInt,TK.agg,Array.toList,h0a,h1a,h5a,h6a]
  exact fun h=>absurd h (by decide)
theorem zk3 (bs:List Nat) (fc:Nat) (hb:zF2 bs) (hs:fc < 64):AC Try.prog 196 [zbv (ofN bs),int fc] (.im (bool (zzO bs fc))):=by
 refine AC.go (rs:=[.tmp 4]) zbe zax Try.func196 rfl rfl rfl (by kernel_rfl) fun hl=>?_
 simp only [za6,zbt,and_true,zeA,zeY,true_and,zah] at hl
 have hol:=zah bs
 rw [zFO hs hb]
 simp (maxSteps:=5000000) -dsimp only [↓gp,gq,reduceCtorEq,reduceEqDiff,reduceLT,reduceLeDiff,reduceAdd,reduceMul,reduceSub,Nat.reduceBEq,Int.reduceToNat,Int.reduceLE,Int.reduceLT,Int.reduceNeg,reduceMod,zac,zad,zab,zaa,gT,TK.isInt,TK.agg,Array.toList,hol]
 refine ⟨fun h=>?_,fun h=>?_⟩
 ·have:bs = []:=List.eq_nil_of_length_eq_zero (by have:=beq_iff_eq.1 h;omega)
  subst this;rfl
 ·refine zaf (znH bs fc hb hs) ?_
  simp (maxSteps:=5000000) -dsimp only [↓gp,gq,reduceCtorEq,reduceEqDiff,reduceLT,reduceLeDiff,reduceAdd,reduceMul,reduceSub,Nat.reduceBEq,Int.reduceToNat,Int.reduceLE,Int.reduceLT,Int.reduceNeg,reduceMod,zac,zad,zab,zaa,gT,TK.isInt,TK.agg,Array.toList]
  have hlt:frN bs fc 6 < 64:=zFN hs
  refine zao (fun (k:Nat) s=>s.sl 0 = zbv (ofN bs)∧s.sl 1 = int fc∧s.sl 5 = int (frN bs fc 6:Nat)∧s.sl 6 = int k∧(k ≤ bs.length∧∀ i,i < k→((bs.getD i 0 &&& fc) &&& frN bs fc 6 != frN bs fc 6) = true)) (fun k=>bs.length - k) (0) (by refine ⟨?_,?_,?_,?_,by simp⟩ <;> (first | (simp (maxSteps:=5000000) -dsimp only [gr,reduceEqDiff,reduceLT,reduceAdd,reduceMod,Nat.reduceBEq,zaa,zac,zad,zab];first | done | rfl | (simp;done)) | assumption | rfl)) ?_
  intro k sa ⟨h0a,h1a,h5a,h6a,hIa⟩
  obtain ⟨hk,hall⟩:=hIa
  simp (maxSteps:=5000000) -dsimp only [↓gp,gq,reduceCtorEq,reduceEqDiff,reduceLT,reduceLeDiff,reduceAdd,reduceMul,reduceSub,Nat.reduceBEq,Int.reduceToNat,Int.reduceLE,Int.reduceLT,Int.reduceNeg,reduceMod,zac,zad,zab,zaa,gT,TK.isInt,TK.agg,Array.toList,h0a,h1a,h5a,h6a,hol]
  refine ⟨fun h=>?_,fun h=>?_⟩
  ·have hg:=zzB hb h
   have h1:bs.getD k 0 &&& fc ≤ fc:=Nat.and_le_right
   have hx:zcZ .i64 (zcZ .i64 ((bs.getD k 0:Nat):Int) (fc:Int)) ((frN bs fc 6:Nat):Int) = (((bs.getD k 0 &&& fc) &&& frN bs fc 6:Nat):Int):=by rw [za4 (by omega) (by omega),za4 (by omega) (by omega)]
   rw [zaL h,hx]
   refine ⟨h,h,fun he=>?_,fun he=>zag (k + 1) ⟨(by (first | (simp (maxSteps:=5000000) -dsimp only [gr,reduceEqDiff,reduceLT,reduceAdd,reduceMod,Nat.reduceBEq,zaa,zac,zad,zab,h0a,h1a,h5a,h6a,zae h hl];first | done | rfl | (simp;done)) | assumption | rfl)),(by (first | (simp (maxSteps:=5000000) -dsimp only [gr,reduceEqDiff,reduceLT,reduceAdd,reduceMod,Nat.reduceBEq,zaa,zac,zad,zab,h0a,h1a,h5a,h6a,zae h hl];first | done | rfl | (simp;done)) | assumption | rfl)),(by (first | (simp (maxSteps:=5000000) -dsimp only [gr,reduceEqDiff,reduceLT,reduceAdd,reduceMod,Nat.reduceBEq,zaa,zac,zad,zab,h0a,h1a,h5a,h6a,zae h hl];first | done | rfl | (simp;done)) | assumption | rfl)),(by (first | (simp (maxSteps:=5000000) -dsimp only [gr,reduceEqDiff,reduceLT,reduceAdd,reduceMod,Nat.reduceBEq,zaa,zac,zad,zab,h0a,h1a,h5a,h6a,zae h hl];first | done | rfl | (simp;done)) | assumption | rfl)),⟨by omega,fun i hi=>?_⟩⟩ (by first | omega | (simp only;omega) | (dsimp only;omega) | (show _ < _;simp;omega))⟩
   ·unfold zD6
    rw [List.all_eq_false]
    refine ⟨_,zat 0 h,?_⟩
    have he:(bs.getD k 0 &&& fc) &&& frN bs fc 6 = frN bs fc 6:=by have:=beq_iff_eq.1 he;omega
    rw [he];simp
   ·rcases Nat.lt_succ_iff_lt_or_eq.1 hi with hi | rfl
    ·exact hall i hi
    ·rw [bne_iff_ne]
     have:=beq_eq_false_iff_ne.1 he
     omega
  ·unfold zD6
   rw [List.all_eq_true]
   intro x hx
   obtain ⟨i,hi,rfl⟩:=zbq 0 hx
   exact hall i (by omega)
def shB (l:List Int) (x:Int):Bool:=zzO (l.map Int.toNat) x.toNat
theorem zzD {l:List Int} (h:okL l):ofN (l.map Int.toNat) = l:=by
 unfold ofN
 rw [List.map_map]
 have:∀ x ∈ l,((fun s:Nat=>(s:Int)) ∘ Int.toNat) x = id x:=fun x hx=>by
  have:=h x hx
  show ((x.toNat:Nat):Int) = x
  omega
 rw [List.map_congr_left this,List.map_id]
theorem zvL {l:List Int} (h:okL l):zF2 (l.map Int.toNat):=fun g hg=>by
 obtain ⟨x,hx,rfl⟩:=List.mem_map.1 hg
 have:=h x hx
 omega
theorem zvM (l:List Int) (x:Int) (hl:okL l) (hx:0 ≤ x∧x < 64):AC Try.prog 196 [zbv l,int x] (.im (bool (shB l x))):=by
 have:=zk3 (l.map Int.toNat) x.toNat (zvL hl) (by omega)
 rw [zzD hl,show ((x.toNat:Nat):Int) = x by omega] at this
 exact this
theorem zk1 (gens:List Int) (hg:okL gens) (hgl:gens.length ≤ 1000):∀ (n:Nat) (head:List Int),okL head→head.length + n = gens.length →
 AF Try.prog 168 (iL gens) (iL head) 3 (iL ((zfZ shB gens n head).getD [])) (zfZ shB gens n head).isSome:=by
 intro n
 induction n with
 | zero =>
   intro head hh hn
   unfold AF
   refine AG.go (rs:=[.tmp 4,.tmp 5]) zbe zax Try.func168 rfl rfl rfl (by kernel_rfl) fun hl hrl z hz hr=>?_
   have z0:z.sl 0 = zbv gens:=by rw [hz];rfl
   have z1:z.sl 1 = .own 1000000 1:=by rw [hz];rfl
   have y0:z.rw 1000000 = ⟨1,.sli 3 1 false (iL head)⟩:=by rw [hr,zjL]
   clear hz hr
   simp (maxSteps:=5000000) -dsimp only [↓gp,gq,reduceCtorEq,reduceEqDiff,reduceLT,reduceLeDiff,reduceAdd,reduceMul,reduceSub,Nat.reduceBEq,Int.reduceToNat,Int.reduceLE,Int.reduceLT,Int.reduceNeg,reduceMod,zac,zad,zab,zaa,gT,TK.isInt,TK.agg,Array.toList,z0,z1,y0]
   refine ⟨fun _=>⟨1000000,1,.inl rfl,rfl,by simp (maxSteps:=5000000) -dsimp only [gr,reduceEqDiff,reduceLT,reduceAdd,reduceMod,Nat.reduceBEq,zaa,zac,zad,zab,y0];rfl⟩,fun h=>?_⟩
   rw [beq_eq_false_iff_ne] at h
   exact absurd (by omega) h
 | succ n ih =>
   intro head hh hn
   unfold AF
   refine AG.go (rs:=[.tmp 4,.tmp 5]) zbe zax Try.func168 rfl rfl rfl (by kernel_rfl) fun hl hrl z hz hr=>?_
   have z0:z.sl 0 = zbv gens:=by rw [hz];rfl
   have z1:z.sl 1 = .own 1000000 1:=by rw [hz];rfl
   have y0:z.rw 1000000 = ⟨1,.sli 3 1 false (iL head)⟩:=by rw [hr,zjL]
   clear hz hr
   simp (maxSteps:=5000000) -dsimp only [↓gp,gq,reduceCtorEq,reduceEqDiff,reduceLT,reduceLeDiff,reduceAdd,reduceMul,reduceSub,Nat.reduceBEq,Int.reduceToNat,Int.reduceLE,Int.reduceLT,Int.reduceNeg,reduceMod,zac,zad,zab,zaa,gT,TK.isInt,TK.agg,Array.toList,z0,z1,y0]
   have hne:((head.length:Int) == (gens.length:Int)) = false:=by rw [beq_eq_false_iff_ne];omega
   refine ⟨fun h=>absurd (hne.symm.trans h) (by decide),fun _=>?_⟩
   have hF:∀ g,(if decide (g ∈ head) || !shB head g then none else zfZ shB gens n (head ++ [g])) = (fun g=>if decide (g ∈ head) || !shB head g then none else zfZ shB gens n (head ++ [g])) g:=fun _=>rfl
   have hdef:zfZ shB gens (n + 1) head = gens.findSome? (fun g=>if decide (g ∈ head) || !shB head g then none else zfZ shB gens n (head ++ [g])):=rfl
   rw [hdef]
   generalize hf:(fun g=>if decide (g ∈ head) || !shB head g then none else zfZ shB gens n (head ++ [g])) = f at *
   refine zao (fun (k:Nat) s=>s.sl 0 = zbv gens∧s.sl 1 = .own 1000000 1∧s.rw 1000000 = ⟨1,.sli 3 1 false (iL head)⟩∧s.sl 6 = int k∧(k ≤ gens.length∧(gens.take k).findSome? f = none)) (fun k=>gens.length - k) (0) (by refine ⟨?_,?_,?_,?_,⟨Nat.zero_le _,rfl⟩⟩ <;> (first | (simp (maxSteps:=5000000) -dsimp only [gr,reduceEqDiff,reduceLT,reduceAdd,reduceMod,Nat.reduceBEq,zaa,zac,zad,zab,z0,z1,y0];first | done | rfl | (simp;done)) | assumption | rfl)) ?_
   intro k sa ⟨h0a,h1a,r1000000a,h6a,hIa⟩
   obtain ⟨hk,hnone⟩:=hIa
   simp (maxSteps:=5000000) -dsimp only [↓gp,gq,reduceCtorEq,reduceEqDiff,reduceLT,reduceLeDiff,reduceAdd,reduceMul,reduceSub,Nat.reduceBEq,Int.reduceToNat,Int.reduceLE,Int.reduceLT,Int.reduceNeg,reduceMod,zac,zad,zab,zaa,gT,TK.isInt,TK.agg,Array.toList,h0a,h1a,r1000000a,h6a]
   refine ⟨fun h=>?_,fun h=>?_⟩
   ·have hgk:=hg _ (zat 0 h)
    refine ⟨h,h,zaf (zhT head _) ?_⟩
    simp (maxSteps:=5000000) -dsimp only [↓gp,gq,reduceCtorEq,reduceEqDiff,reduceLT,reduceLeDiff,reduceAdd,reduceMul,reduceSub,Nat.reduceBEq,Int.reduceToNat,Int.reduceLE,Int.reduceLT,Int.reduceNeg,reduceMod,zac,zad,zab,zaa,gT,TK.isInt,TK.agg,Array.toList,h0a,h1a,r1000000a,h6a]
    have hgo:f (gens.getD k 0) = if decide (gens.getD k 0 ∈ head) || !shB head (gens.getD k 0) then none else zfZ shB gens n (head ++ [gens.getD k 0]):=by rw [← hf]
    have hskip:f (gens.getD k 0) = none→(gens.take (k + 1)).findSome? f = none:=fun e=>by rw [zgV f 0 h,hnone,e];rfl
    refine ⟨fun hm=>⟨h,h,zaf (zvM head _ hh hgk) ?_⟩,fun hm=>?_⟩
    ·simp (maxSteps:=5000000) -dsimp only [↓gp,gq,reduceCtorEq,reduceEqDiff,reduceLT,reduceLeDiff,reduceAdd,reduceMul,reduceSub,Nat.reduceBEq,Int.reduceToNat,Int.reduceLE,Int.reduceLT,Int.reduceNeg,reduceMod,zac,zad,zab,zaa,gT,TK.isInt,TK.agg,Array.toList,h0a,h1a,r1000000a,h6a]
     refine ⟨fun hb=>?_,fun hb=>?_⟩
     ·have e:f (gens.getD k 0) = none:=by rw [hgo,if_pos (by rw [show shB head (gens.getD k 0) = false by simpa using hb];simp)]
      exact zag (k + 1) (by refine ⟨?_,?_,?_,?_,⟨by omega,hskip e⟩⟩ <;> (first | (simp (maxSteps:=5000000) -dsimp only [gr,reduceEqDiff,reduceLT,reduceAdd,reduceMod,Nat.reduceBEq,zaa,zac,zad,zab,h0a,h1a,r1000000a,h6a,zae h (by omega)];first | done | rfl | (simp;done)) | assumption | rfl)) (by first | omega | (simp only;omega) | (dsimp only;omega) | (show _ < _;simp;omega))
     ·have hb:shB head (gens.getD k 0) = true:=by simpa using hb
      have e:f (gens.getD k 0) = zfZ shB gens n (head ++ [gens.getD k 0]):=by
       rw [hgo,if_neg (by rw [hb];simpa using hm)]
      have hIH:=ih (head ++ [gens.getD k 0]) (fun b hb'=>by
       rcases List.mem_append.1 hb' with h' | h'
       ·exact hh b h'
       ·rw [List.mem_singleton.1 h'];exact hgk) (by simp;omega)
      rw [← e] at hIH
      refine ⟨by kernel_rfl,by omega,h,h,by omega,zzZ hIH (by simp (maxSteps:=5000000) -dsimp only [gr,reduceEqDiff,reduceLT,reduceAdd,reduceMod,Nat.reduceBEq,zaa,zac,zad,zab];rw [show iL (head ++ [gens.getD k 0]) = iL head ++ iL [gens.getD k 0] from by simp [iL]]) (zcJ _) (by decide) (by decide) ?_⟩
      simp (maxSteps:=5000000) -dsimp only [↓gp,gq,reduceCtorEq,reduceEqDiff,reduceLT,reduceLeDiff,reduceAdd,reduceMul,reduceSub,Nat.reduceBEq,Int.reduceToNat,Int.reduceLE,Int.reduceLT,Int.reduceNeg,reduceMod,zac,zad,zab,zaa,gT,TK.isInt,TK.agg,Array.toList,h0a,h1a,r1000000a,h6a]
      refine ⟨by kernel_rfl,fun hs=>?_,fun hs=>?_⟩
      ·obtain ⟨x,hx⟩:=Option.isSome_iff_exists.1 hs
       rw [zqK f 0 h hnone hx]
       rw [hx]
       exact ⟨47,_,.inr (by decide),rfl,by simp (maxSteps:=5000000) -dsimp only [gr,reduceEqDiff,reduceLT,reduceAdd,reduceMod,Nat.reduceBEq,zaa,zac,zad,zab]⟩
      ·have e0:f (gens.getD k 0) = none:=by
        cases hx:f (gens.getD k 0) with
        | none=>rfl
        | some x=>rw [hx] at hs;cases hs
       exact zag (k + 1) (by refine ⟨?_,?_,?_,?_,⟨by omega,hskip e0⟩⟩ <;> (first | (simp (maxSteps:=5000000) -dsimp only [gr,reduceEqDiff,reduceLT,reduceAdd,reduceMod,Nat.reduceBEq,zaa,zac,zad,zab,h0a,h1a,r1000000a,h6a,zae h (by omega)];first | done | rfl | (simp;done)) | assumption | rfl)) (by first | omega | (simp only;omega) | (dsimp only;omega) | (show _ < _;simp;omega))
    ·have e:f (gens.getD k 0) = none:=by rw [hgo,if_pos (by simpa using Or.inl hm)]
     exact zag (k + 1) (by refine ⟨?_,?_,?_,?_,⟨by omega,hskip e⟩⟩ <;> (first | (simp (maxSteps:=5000000) -dsimp only [gr,reduceEqDiff,reduceLT,reduceAdd,reduceMod,Nat.reduceBEq,zaa,zac,zad,zab,h0a,h1a,r1000000a,h6a,zae h (by omega)];first | done | rfl | (simp;done)) | assumption | rfl)) (by first | omega | (simp only;omega) | (dsimp only;omega) | (show _ < _;simp;omega))
   ·have e:k = gens.length:=by omega
    rw [e,List.take_length] at hnone
    rw [hnone]
    exact ⟨52,_,.inr (by decide),rfl,by simp (maxSteps:=5000000) -dsimp only [gr,reduceEqDiff,reduceLT,reduceAdd,reduceMod,Nat.reduceBEq,zaa,zac,zad,zab];rfl⟩
noncomputable def zDQ (n:Int) (xs:List Int):Option (List Int):=if zcN n xs = true∧xs.length ≤ 8 then zfZ shB (zk2 xs) (zk2 xs).length [] else none
theorem zf0 (n:Int) (xs:List Int):AC Try.prog 132 [.ag [int n,zbv xs]] (.tup [.fr 3 1 (iL ((zDQ n xs).getD [])),.im (bool (zDQ n xs).isSome)]):=by
 refine AC.go (rs:=[.tmp 2,.tmp 3]) zbe zax Try.func132 rfl rfl rfl (by kernel_rfl) fun hl=>?_
 simp (maxSteps:=5000000) -dsimp only [↓gp,gq,reduceCtorEq,reduceEqDiff,reduceLT,reduceLeDiff,reduceAdd,reduceMul,reduceSub,Nat.reduceBEq,Int.reduceToNat,Int.reduceLE,Int.reduceLT,Int.reduceNeg,reduceMod,zac,zad,zab,zaa,gT,TK.isInt,TK.agg,Array.toList]
 refine zaf (zbO n xs) ?_
 simp (maxSteps:=5000000) -dsimp only [↓gp,gq,reduceCtorEq,reduceEqDiff,reduceLT,reduceLeDiff,reduceAdd,reduceMul,reduceSub,Nat.reduceBEq,Int.reduceToNat,Int.reduceLE,Int.reduceLT,Int.reduceNeg,reduceMod,zac,zad,zab,zaa,gT,TK.isInt,TK.agg,Array.toList]
 unfold zDQ
 refine ⟨fun hc=>?_,fun hc=>?_⟩
 ·have hc:zcN n xs = true:=by simpa using hc
  refine ⟨fun h8=>?_,fun h8=>?_⟩
  ·rw [if_neg (by omega)];exact ⟨rfl,rfl⟩
  ·rw [if_pos ⟨hc,by omega⟩]
   refine zao (fun (za:Nat × Nat) s=>match za with | (m,v)=>s.sl 1 = .ref 1 1 0∧s.rw 1 = ⟨1,.box 27 [int n,zbv xs]⟩∧s.sl 4 = .own 18 v∧s.rw 18 = ⟨v,.sli 3 1 false (iL (ofN ((List.range m).filter (inF xs))))⟩∧s.sl 5 = int m∧(m ≤ 64)) (fun (m,v)=>64 - m) ((0,1)) (by refine ⟨?_,?_,?_,?_,?_,by simp⟩ <;> (first | (simp (maxSteps:=5000000) -dsimp only [gr,reduceEqDiff,reduceLT,reduceAdd,reduceMod,Nat.reduceBEq,zaa,zac,zad,zab];first | done | rfl | (simp;done)) | assumption | rfl)) ?_
   intro (m,v) sa ⟨h1a,r1a,h4a,r18a,h5a,hIa⟩
   have hfl:((List.range m).filter (inF xs)).length ≤ 64:=by
    have:=List.length_filter_le (inF xs) (List.range m)
    rw [List.length_range] at this
    omega
   simp (maxSteps:=5000000) -dsimp only [↓gp,gq,reduceCtorEq,reduceEqDiff,reduceLT,reduceLeDiff,reduceAdd,reduceMul,reduceSub,Nat.reduceBEq,Int.reduceToNat,Int.reduceLE,Int.reduceLT,Int.reduceNeg,reduceMod,zac,zad,zab,zaa,gT,TK.isInt,TK.agg,Array.toList,h1a,r1a,h4a,r18a,h5a]
   refine ⟨fun h=>zaf (zhT xs _) ?_,fun h=>?_⟩
   ·simp (maxSteps:=5000000) -dsimp only [↓gp,gq,reduceCtorEq,reduceEqDiff,reduceLT,reduceLeDiff,reduceAdd,reduceMul,reduceSub,Nat.reduceBEq,Int.reduceToNat,Int.reduceLE,Int.reduceLT,Int.reduceNeg,reduceMod,zac,zad,zab,zaa,gT,TK.isInt,TK.agg,Array.toList,h1a,r1a,h4a,r18a,h5a]
    have hyes:(m:Int) ∈ xs→ofN ((List.range (m + 1)).filter (inF xs)) = ofN ((List.range m).filter (inF xs)) ++ [(m:Int)]:=fun h=>by
     rw [List.range_succ,List.filter_append,zbf]
     simp [inF,h,ofN]
    have hno:¬ (m:Int) ∈ xs→ofN ((List.range (m + 1)).filter (inF xs)) = ofN ((List.range m).filter (inF xs)):=fun h=>by
     rw [List.range_succ,List.filter_append,zbf]
     simp [inF,h,ofN]
    refine ⟨fun hm=>⟨by rw [zah];omega,zag ((m + 1,v + 1)) (by refine ⟨?_,?_,?_,?_,?_,by dsimp only;omega⟩ <;> (first | (simp (maxSteps:=5000000) -dsimp only [gr,reduceEqDiff,reduceLT,reduceAdd,reduceMod,Nat.reduceBEq,zaa,zac,zad,zab,h1a,r1a,h4a,r18a,h5a,zae (show m < 64 by omega) (by omega),hyes hm];first | done | rfl | (simp;done)) | assumption | rfl)) (by first | omega | (simp only;omega) | (dsimp only;omega) | (show _ < _;simp;omega))⟩,fun hm=>zag ((m + 1,v)) (by refine ⟨?_,?_,?_,?_,?_,by dsimp only;omega⟩ <;> (first | (simp (maxSteps:=5000000) -dsimp only [gr,reduceEqDiff,reduceLT,reduceAdd,reduceMod,Nat.reduceBEq,zaa,zac,zad,zab,h1a,r1a,h4a,r18a,h5a,zae (show m < 64 by omega) (by omega),hno hm];first | done | rfl | (simp;done)) | assumption | rfl)) (by first | omega | (simp only;omega) | (dsimp only;omega) | (show _ < _;simp;omega))⟩
   ·have e64:m = 64:=by omega
    subst e64
    have hF:=zk1 (zk2 xs) (zFP xs) (by have:=zDR xs;omega) (zk2 xs).length [] (fun b hb=>by cases hb) (by simp)
    generalize zfZ shB (zk2 xs) (zk2 xs).length [] = o at *
    refine zDJ hF (.inr ⟨18,v,3,false,rfl,by decide,by simp (maxSteps:=5000000) -dsimp only [gr,reduceEqDiff,reduceLT,reduceAdd,reduceMod,Nat.reduceBEq,zaa,zac,zad,zab,h1a,r1a,h4a,r18a,h5a];rfl⟩) (by simp (maxSteps:=5000000) -dsimp only [gr,reduceEqDiff,reduceLT,reduceAdd,reduceMod,Nat.reduceBEq,zaa,zac,zad,zab];rfl) (zcJ _) (by decide) fun S v2 r hr hSd hSr hSs hSrw=>?_
    rcases hr with rfl | rfl
    ·simp (maxSteps:=5000000) -dsimp only [↓gp,gq,reduceCtorEq,reduceEqDiff,reduceLT,reduceLeDiff,reduceAdd,reduceMul,reduceSub,Nat.reduceBEq,Int.reduceToNat,Int.reduceLE,Int.reduceLT,Int.reduceNeg,reduceMod,zac,zad,zab,zaa,gT,TK.isInt,TK.agg,Array.toList,hSd,hSr]
    ·simp (maxSteps:=5000000) -dsimp only [↓gp,gq,reduceCtorEq,reduceEqDiff,reduceLT,reduceLeDiff,reduceAdd,reduceMul,reduceSub,Nat.reduceBEq,Int.reduceToNat,Int.reduceLE,Int.reduceLT,Int.reduceNeg,reduceMod,zac,zad,zab,zaa,gT,TK.isInt,TK.agg,Array.toList,hSd,hSr]
 ·rw [if_neg (fun h=>by rw [h.1] at hc;cases hc)];exact ⟨rfl,rfl⟩
end Go.Proofs.Ytpnknaaehcljoaa
