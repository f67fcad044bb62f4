/- DERIVED by an AI agent. -/
import Derived.Test.YtpnknaaehcljoaaGreatQ1
import Derived.Test.YtpnknaaehcljoaaGreatP1
import Derived.Test.YtpnknaaehcljoaaGreatA13
namespace Go.Proofs.YtpnknaaehcljoaaGreat
open Go.Abs
open Nat (reduceEqDiff reduceMod reduceAdd reduceLT reduceLeDiff reduceSub reduceMul)
set_option linter.unusedSimpArgs false
set_option linter.unusedVariables false
theorem zdb (F s:Nat) (hF:F < 18446744073709551616) (hs:s < 64):AC Tryz.prog 98 [u64 F,int s] (.im (bool (F.testBit s))):=by
 refine AC.go (rs:=[.tmp 4]) zbg zay Tryz.func98 rfl rfl rfl (by kernel_rfl) fun hl=>?_
 have hw:IntKind.u64.wrap (s:Int) = (s:Int):=zaL (by omega)
 simp (maxSteps:=5000000) -dsimp only [↓gp,gq,reduceCtorEq,reduceEqDiff,reduceLT,reduceLeDiff,reduceAdd,reduceMul,reduceSub,Nat.reduceBEq,Int.reduceToNat,Int.reduceLE,Int.reduceLT,Int.reduceNeg,reduceMod,zac,zad,zab,zaa,gT,TK.isInt,TK.agg,Array.toList,hw,zAB hF hs]
theorem zg7 (F:Nat) (hF:F < 18446744073709551616):AC Tryz.prog 99 [u64 F] (.fr 3 1 (iL (ofN (zda F.testBit)))):=by
 refine AC.go (rs:=[.tmp 2]) zbg zay Tryz.func99 rfl rfl rfl (by kernel_rfl) fun hl=>?_
 simp (maxSteps:=5000000) -dsimp only [↓gp,gq,reduceCtorEq,reduceEqDiff,reduceLT,reduceLeDiff,reduceAdd,reduceMul,reduceSub,Nat.reduceBEq,Int.reduceToNat,Int.reduceLE,Int.reduceLT,Int.reduceNeg,reduceMod,zac,zad,zab,zaa,gT,TK.isInt,TK.agg,Array.toList]
 refine zaq (fun (za:Nat × Nat) s=>match za with | (k,v)=>s.sl 0 = u64 F∧s.sl 3 = .own 3 v∧s.rw 3 = ⟨v,.sli 3 1 false (iL (ofN (zgt F.testBit k 0)))⟩∧s.sl 4 = int k∧(k ≤ 7)) (fun (k,v)=>7 - k) ((0,1)) (by refine ⟨?_,?_,?_,?_,by simp⟩ <;> (first | (simp (maxSteps:=5000000) -dsimp only [gr,reduceEqDiff,reduceLT,reduceAdd,reduceMod,Nat.reduceBEq,zaa,zac,zad,zab];first | done | rfl | (simp;done)) | assumption | rfl)) ?_
 intro (k,v) sa ⟨h0a,h3a,r3a,h4a,hIa⟩
 simp (maxSteps:=5000000) -dsimp only [↓gp,gq,reduceCtorEq,reduceEqDiff,reduceLT,reduceLeDiff,reduceAdd,reduceMul,reduceSub,Nat.reduceBEq,Int.reduceToNat,Int.reduceLE,Int.reduceLT,Int.reduceNeg,reduceMod,zac,zad,zab,zaa,gT,TK.isInt,TK.agg,Array.toList,h0a,h3a,r3a,h4a]
 refine ⟨fun hk=>?_,fun hk=>?_⟩
 ·refine zaq (fun (zb:Nat × Nat) s=>match zb with | (m,v)=>s.sl 0 = u64 F∧s.sl 3 = .own 3 v∧s.rw 3 = ⟨v,.sli 3 1 false (iL (ofN (zgt F.testBit k m)))⟩∧s.sl 4 = int k∧s.sl 5 = int m∧(m ≤ 64)) (fun (m,v)=>64 - m) ((0,v)) (by refine ⟨?_,?_,?_,?_,?_,by simp⟩ <;> (first | (simp (maxSteps:=5000000) -dsimp only [gr,reduceEqDiff,reduceLT,reduceAdd,reduceMod,Nat.reduceBEq,zaa,zac,zad,zab,h0a,h3a,r3a,h4a];first | done | rfl | (simp;done)) | assumption | rfl)) ?_
  intro (m,v) sb ⟨h0b,h3b,r3b,h4b,h5b,hIb⟩
  simp (maxSteps:=5000000) -dsimp only [↓gp,gq,reduceCtorEq,reduceEqDiff,reduceLT,reduceLeDiff,reduceAdd,reduceMul,reduceSub,Nat.reduceBEq,Int.reduceToNat,Int.reduceLE,Int.reduceLT,Int.reduceNeg,reduceMod,zac,zad,zab,zaa,gT,TK.isInt,TK.agg,Array.toList,h0b,h3b,r3b,h4b,h5b]
  refine ⟨fun hm=>?_,fun hm=>?_⟩
  ·have hm:m < 64:=by omega
   refine zaf (zdb F m hF hm) ?_
   simp (maxSteps:=5000000) -dsimp only [↓gp,gq,reduceCtorEq,reduceEqDiff,reduceLT,reduceLeDiff,reduceAdd,reduceMul,reduceSub,Nat.reduceBEq,Int.reduceToNat,Int.reduceLE,Int.reduceLT,Int.reduceNeg,reduceMod,zac,zad,zab,zaa,gT,TK.isInt,TK.agg,Array.toList,h0b,h3b,r3b,h4b,h5b]
   have hlen:=znl F.testBit k m
   have hz:zhR (m:Int) = (zaD m:Nat):=by rw [zhR,if_pos (by omega)];simp
   refine ⟨fun hf=>zaf (zbb _) ?_,fun hf=>?_⟩
   ·simp (maxSteps:=5000000) -dsimp only [↓gp,gq,reduceCtorEq,reduceEqDiff,reduceLT,reduceLeDiff,reduceAdd,reduceMul,reduceSub,Nat.reduceBEq,Int.reduceToNat,Int.reduceLE,Int.reduceLT,Int.reduceNeg,reduceMod,zac,zad,zab,zaa,gT,TK.isInt,TK.agg,Array.toList,h0b,h3b,r3b,h4b,h5b,hz]
    refine ⟨fun hp=>?_,fun hp=>?_⟩
    ·have hy:zgt F.testBit k (m + 1) = zgt F.testBit k m ++ [m]:=zuk (by rw [hf];simp at hp ⊢;omega)
     refine ⟨by rw [zaj];omega,?_⟩
     exact zag ((m + 1,v + 1)) (by refine ⟨?_,?_,?_,?_,?_,by omega⟩ <;> (first | (simp (maxSteps:=5000000) -dsimp only [gr,reduceEqDiff,reduceLT,reduceAdd,reduceMod,Nat.reduceBEq,zaa,zac,zad,zab,h0b,h3b,r3b,h4b,h5b,zae hm (by omega),hy,zaR,zcK];first | done | rfl | (simp;done)) | assumption | rfl)) (by first | omega | (simp only;omega) | (dsimp only;omega) | (show _ < _;simp;omega))
    ·have hy:zgt F.testBit k (m + 1) = zgt F.testBit k m:=znk (by rw [hf];simp at hp ⊢;omega)
     exact zag ((m + 1,v)) (by refine ⟨?_,?_,?_,?_,?_,by omega⟩ <;> (first | (simp (maxSteps:=5000000) -dsimp only [gr,reduceEqDiff,reduceLT,reduceAdd,reduceMod,Nat.reduceBEq,zaa,zac,zad,zab,h0b,h3b,r3b,h4b,h5b,zae hm (by omega),hy];first | done | rfl | (simp;done)) | assumption | rfl)) (by first | omega | (simp only;omega) | (dsimp only;omega) | (show _ < _;simp;omega))
   ·have hy:zgt F.testBit k (m + 1) = zgt F.testBit k m:=znk (by rw [hf];rfl)
    exact zag ((m + 1,v)) (by refine ⟨?_,?_,?_,?_,?_,by omega⟩ <;> (first | (simp (maxSteps:=5000000) -dsimp only [gr,reduceEqDiff,reduceLT,reduceAdd,reduceMod,Nat.reduceBEq,zaa,zac,zad,zab,h0b,h3b,r3b,h4b,h5b,zae hm (by omega),hy];first | done | rfl | (simp;done)) | assumption | rfl)) (by first | omega | (simp only;omega) | (dsimp only;omega) | (show _ < _;simp;omega))
  ·have:m = 64:=by omega
   subst this
   have hk:k < 7:=by omega
   exact zag ((k + 1,v)) (by refine ⟨?_,?_,?_,?_,by omega⟩ <;> (first | (simp (maxSteps:=5000000) -dsimp only [gr,reduceEqDiff,reduceLT,reduceAdd,reduceMod,Nat.reduceBEq,zaa,zac,zad,zab,h0a,h3a,r3a,h4a,h0b,h3b,r3b,h4b,h5b,zae hk (by omega),zkt];first | done | rfl | (simp;done)) | assumption | rfl)) (by first | omega | (simp only;omega) | (dsimp only;omega) | (show _ < _;simp;omega))
 ·have:k = 7:=by omega
  subst this
  rw [znj]
theorem zcD (n:Nat) (hn:n ≤ 6) (g:FuncId) (caps:List PV) (w:Nat→Bool) (hcap:∀ rw,caps.map (zcx rw 3) = caps) (hw:∀ s:Nat,s < 2 ^ n→AC Tryz.prog g (int s :: caps) (.im (bool (w s)))) :
 AC Tryz.prog 95 [int n,.clo g caps] (.im (u64 (zaW w (2 ^ n):Nat))):=by
 refine AC.go (rs:=[.tmp 4]) zbg zay Tryz.func95 rfl rfl rfl (by kernel_rfl) fun hl=>?_
 have h64:=zam hn
 have hsh:zgs .i64 1 (n:Int) = ((2 ^ n:Nat):Int):=zaJ hn
 have hun:IntKind.u64.wrap (n:Int) = (n:Int):=zaL (by omega)
 simp (maxSteps:=5000000) -dsimp only [↓gp,gq,reduceCtorEq,reduceEqDiff,reduceLT,reduceLeDiff,reduceAdd,reduceMul,reduceSub,Nat.reduceBEq,Int.reduceToNat,Int.reduceLE,Int.reduceLT,Int.reduceNeg,reduceMod,zac,zad,zab,zaa,gT,TK.isInt,TK.agg,Array.toList]
 refine zaq (fun (k:Nat) s=>s.sl 0 = int n∧s.sl 1 = .clo g caps∧s.sl 5 = u64 (zaW w k:Nat)∧s.sl 6 = int k∧(k ≤ 2 ^ n)) (fun k=>2 ^ n - k) (0) (by refine ⟨?_,?_,?_,?_,by simp⟩ <;> (first | (simp (maxSteps:=5000000) -dsimp only [gr,reduceEqDiff,reduceLT,reduceAdd,reduceMod,Nat.reduceBEq,zaa,zac,zad,zab];first | done | rfl | (simp;done)) | assumption | rfl)) ?_
 intro k sa ⟨h0a,h1a,h5a,h6a,hIa⟩
 have hlt:=zb9 w k
 have h2k:(2:Nat) ^ k ≤ 2 ^ 64:=Nat.pow_le_pow_right (by omega) (by omega)
 simp (maxSteps:=5000000) -dsimp only [↓gp,gq,reduceCtorEq,reduceEqDiff,reduceLT,reduceLeDiff,reduceAdd,reduceMul,reduceSub,Nat.reduceBEq,Int.reduceToNat,Int.reduceLE,Int.reduceLT,Int.reduceNeg,reduceMod,zac,zad,zab,zaa,gT,TK.isInt,TK.agg,Array.toList,h0a,h1a,h5a,h6a,hun,hsh,hcap]
 refine ⟨fun hk=>zaf (hw k hk) ?_,fun hk=>?_⟩
 ·have huk:IntKind.u64.wrap (k:Int) = (k:Int):=zaL (by omega)
  have h2s:(2:Nat) ^ k < 18446744073709551616:=by
   have:(2:Nat) ^ k < 2 ^ 64:=Nat.pow_lt_pow_right (by omega) (by omega)
   omega
  have hor:ior .u64 (zaW w k:Nat) (zgs .u64 1 (k:Int)) = ((zaW w k ||| 2 ^ k:Nat):Int):=by
   rw [zyB (by omega),zAA (by omega) h2s]
  simp (maxSteps:=5000000) -dsimp only [↓gp,gq,reduceCtorEq,reduceEqDiff,reduceLT,reduceLeDiff,reduceAdd,reduceMul,reduceSub,Nat.reduceBEq,Int.reduceToNat,Int.reduceLE,Int.reduceLT,Int.reduceNeg,reduceMod,zac,zad,zab,zaa,gT,TK.isInt,TK.agg,Array.toList,h0a,h1a,h5a,h6a,hun,hsh,huk,hor]
  refine ⟨fun hf=>?_,fun hf=>?_⟩
  ·have hm:zaW w (k + 1) = zaW w k ||| 2 ^ k:=by rw [zaW,if_pos hf]
   exact zag (k + 1) (by refine ⟨?_,?_,?_,?_,by omega⟩ <;> (first | (simp (maxSteps:=5000000) -dsimp only [gr,reduceEqDiff,reduceLT,reduceAdd,reduceMod,Nat.reduceBEq,zaa,zac,zad,zab,h0a,h1a,h5a,h6a,zae hk (by omega),huk,hor,hm];first | done | rfl | (simp;done)) | assumption | rfl)) (by first | omega | (simp only;omega) | (dsimp only;omega) | (show _ < _;simp;omega))
  ·have hm:zaW w (k + 1) = zaW w k:=by rw [zaW,if_neg (by rw [hf];decide)]
   exact zag (k + 1) (by refine ⟨?_,?_,?_,?_,by omega⟩ <;> (first | (simp (maxSteps:=5000000) -dsimp only [gr,reduceEqDiff,reduceLT,reduceAdd,reduceMod,Nat.reduceBEq,zaa,zac,zad,zab,h0a,h1a,h5a,h6a,zae hk (by omega),hm];first | done | rfl | (simp;done)) | assumption | rfl)) (by first | omega | (simp only;omega) | (dsimp only;omega) | (show _ < _;simp;omega))
 ·have:k = 2 ^ n:=by omega
  rw [this]
theorem zum {l:List Nat} {k:Nat} (h:k < l.length):l = l.take k ++ l.getD k 0 :: l.drop (k + 1):=by
 rw [← zqc 0 h,List.take_append_drop]
theorem zi3 {l:List Nat} {p:Nat→Bool} {k:Nat} (h:k < l.length) (hp:p (l.getD k 0) = true):(l.take (k + 1)).filter p = (l.take k).filter p ++ [l.getD k 0]:=by
 rw [zaT 0 h,List.filter_append];simp only [List.filter_cons,hp,if_true,List.filter_nil]
theorem zno {l:List Nat} {p:Nat→Bool} {k:Nat} (h:k < l.length) (hp:p (l.getD k 0) = false):(l.take (k + 1)).filter p = (l.take k).filter p:=by
 rw [zaT 0 h,List.filter_append];simp only [List.filter_cons,hp,Bool.false_eq_true,if_false,List.filter_nil,List.append_nil]
theorem zun {l:List Nat} {p:Nat→Bool}:(l.filter p).length ≤ l.length:=List.length_filter_le _ _
noncomputable def inF (xs:List Int) (s:Nat):Bool:=decide ((s:Int) ∈ xs)
noncomputable def zea (xs:List Int) (k:Nat):List Bool:=(List.range 64).map fun s=>inF (xs.take k) s
theorem zeu (xs:List Int) (k:Nat):(zea xs k).length = 64:=by simp [zea]
theorem zrz (xs:List Int):List.replicate 64 false = zea xs 0:=by
 refine List.ext_getElem (by simp [zea]) fun j h1 h2=>?_
 rw [List.getElem_replicate]
 simp [zea,inF]
theorem zvv {xs:List Int} {k:Nat} (h:k < xs.length) (hx:0 ≤ xs.getD k 0∧xs.getD k 0 < 64):(zea xs k).set (xs.getD k 0).toNat true = zea xs (k + 1):=by
 refine List.ext_getElem (by simp [zea]) fun j h1 h2=>?_
 simp only [zea,List.getElem_set,List.getElem_map,List.getElem_range]
 have e:inF (xs.take (k + 1)) j = (inF (xs.take k) j || decide ((j:Int) = xs.getD k 0)):=by
  unfold inF
  rw [zaT 0 h,← Bool.decide_or]
  exact decide_eq_decide.2 (by simp only [List.mem_append,List.mem_singleton])
 rw [e]
 by_cases hj:(xs.getD k 0).toNat = j
 ·rw [if_pos hj]
  have:(j:Int) = xs.getD k 0:=by omega
  simp only [this,decide_true,Bool.or_true]
 ·rw [if_neg hj]
  have:¬ (j:Int) = xs.getD k 0:=by omega
  simp only [this,decide_false,Bool.or_false]
theorem zd0 (xs:List Int) (hx:∀ x ∈ xs,0 ≤ x∧x < 64):AC Tryz.prog 165 [zbj xs] (.fr 3 1 (iL (ofN (zda (inF xs))))):=by
 refine AC.go (rs:=[.tmp 2]) zbg zay Tryz.func165 rfl rfl rfl (by kernel_rfl) fun hl=>?_
 simp only [zbk,zbD,and_true,zeh,zc5,true_and] at hl
 simp (maxSteps:=5000000) -dsimp only [↓gp,gq,reduceCtorEq,reduceEqDiff,reduceLT,reduceLeDiff,reduceAdd,reduceMul,reduceSub,Nat.reduceBEq,Int.reduceToNat,Int.reduceLE,Int.reduceLT,Int.reduceNeg,reduceMod,zac,zad,zab,zaa,gT,TK.isInt,TK.agg,Array.toList]
 refine ⟨by decide,?_⟩
 refine zaq (fun (za:Nat × Nat) s=>match za with | (k,v)=>s.sl 0 = zbj xs∧s.sl 3 = .own 8 v∧s.rw 8 = ⟨v,.sli 4 1 false (bL (zea xs k))⟩∧s.sl 4 = int k∧(k ≤ xs.length)) (fun (k,v)=>xs.length - k) ((0,1)) (by refine ⟨?_,?_,?_,?_,by simp⟩ <;> (first | (simp (maxSteps:=5000000) -dsimp only [gr,reduceEqDiff,reduceLT,reduceAdd,reduceMod,Nat.reduceBEq,zaa,zac,zad,zab,zeU,zrz,Int.reduceToNat];first | done | rfl | (simp;done)) | assumption | rfl)) ?_
 intro (k,v) sa ⟨h0a,h3a,r8a,h4a,hIa⟩
 simp (maxSteps:=5000000) -dsimp only [↓gp,gq,reduceCtorEq,reduceEqDiff,reduceLT,reduceLeDiff,reduceAdd,reduceMul,reduceSub,Nat.reduceBEq,Int.reduceToNat,Int.reduceLE,Int.reduceLT,Int.reduceNeg,reduceMod,zac,zad,zab,zaa,gT,TK.isInt,TK.agg,Array.toList,h0a,h3a,r8a,h4a,zeu]
 refine ⟨fun hk=>?_,fun hk=>?_⟩
 ·have hx1:=hx _ (zax 0 hk)
  refine ⟨hk,hk,by omega,by omega,by omega,?_⟩
  exact zag ((k + 1,v)) (by refine ⟨?_,?_,?_,?_,by omega⟩ <;> (first | (simp (maxSteps:=5000000) -dsimp only [gr,reduceEqDiff,reduceLT,reduceAdd,reduceMod,Nat.reduceBEq,zaa,zac,zad,zab,h0a,h3a,r8a,h4a,zae hk hl,zvv hk hx1];first | done | rfl | (simp;done)) | assumption | rfl)) (by first | omega | (simp only;omega) | (dsimp only;omega) | (show _ < _;simp;omega))
 ·have:k = xs.length:=by omega
  subst this
  have hall:∀ s,s < 64→(zea xs xs.length).getD s false = inF xs s:=fun s hs=>by
   rw [zdY false (by rw [zeu];exact hs)]
   simp [zea]
  have hrl:=zeu xs xs.length
  generalize zea xs xs.length = row at *
  refine zaq (fun (zb:Nat × Nat × Nat) s=>match zb with | (k,v,u)=>s.sl 3 = .own 8 u∧s.rw 8 = ⟨u,.sli 4 1 false (bL row)⟩∧s.sl 5 = .own 21 v∧s.rw 21 = ⟨v,.sli 3 1 false (iL (ofN (zgt (inF xs) k 0)))⟩∧s.sl 6 = int k∧(k ≤ 7)) (fun (k,v,u)=>7 - k) ((0,(sa.rw 21).ver + 1,v)) (by refine ⟨?_,?_,?_,?_,?_,by simp⟩ <;> (first | (simp (maxSteps:=5000000) -dsimp only [gr,reduceEqDiff,reduceLT,reduceAdd,reduceMod,Nat.reduceBEq,zaa,zac,zad,zab,h0a,h3a,r8a,h4a];first | done | rfl | (simp;done)) | assumption | rfl)) ?_
  intro (k,v,u) sb ⟨h3b,r8b,h5b,r21b,h6b,hIb⟩
  simp (maxSteps:=5000000) -dsimp only [↓gp,gq,reduceCtorEq,reduceEqDiff,reduceLT,reduceLeDiff,reduceAdd,reduceMul,reduceSub,Nat.reduceBEq,Int.reduceToNat,Int.reduceLE,Int.reduceLT,Int.reduceNeg,reduceMod,zac,zad,zab,zaa,gT,TK.isInt,TK.agg,Array.toList,h3b,r8b,h5b,r21b,h6b]
  refine ⟨fun hk=>?_,fun hk=>?_⟩
  ·refine zaq (fun (zc:Nat × Nat) s=>match zc with | (m,v)=>s.sl 3 = .own 8 u∧s.rw 8 = ⟨u,.sli 4 1 false (bL row)⟩∧s.sl 5 = .own 21 v∧s.rw 21 = ⟨v,.sli 3 1 false (iL (ofN (zgt (inF xs) k m)))⟩∧s.sl 6 = int k∧s.sl 7 = int m∧(m ≤ 64)) (fun (m,v)=>64 - m) ((0,v)) (by refine ⟨?_,?_,?_,?_,?_,?_,by simp⟩ <;> (first | (simp (maxSteps:=5000000) -dsimp only [gr,reduceEqDiff,reduceLT,reduceAdd,reduceMod,Nat.reduceBEq,zaa,zac,zad,zab,h3b,r8b,h5b,r21b,h6b];first | done | rfl | (simp;done)) | assumption | rfl)) ?_
   intro (m,v) sc ⟨h3c,r8c,h5c,r21c,h6c,h7c,hIc⟩
   simp (maxSteps:=5000000) -dsimp only [↓gp,gq,reduceCtorEq,reduceEqDiff,reduceLT,reduceLeDiff,reduceAdd,reduceMul,reduceSub,Nat.reduceBEq,Int.reduceToNat,Int.reduceLE,Int.reduceLT,Int.reduceNeg,reduceMod,zac,zad,zab,zaa,gT,TK.isInt,TK.agg,Array.toList,h3c,r8c,h5c,r21c,h6c,h7c,hrl]
   have hlen:=znl (inF xs) k m
   refine ⟨fun hm=>⟨by omega,by omega,?_⟩,fun hm=>?_⟩
   ·have hm:m < 64:=by omega
    rw [hall m hm]
    refine ⟨fun hf=>zaf (zcd (by omega) (by omega)) ?_,fun hf=>?_⟩
    ·simp (maxSteps:=5000000) -dsimp only [↓gp,gq,reduceCtorEq,reduceEqDiff,reduceLT,reduceLeDiff,reduceAdd,reduceMul,reduceSub,Nat.reduceBEq,Int.reduceToNat,Int.reduceLE,Int.reduceLT,Int.reduceNeg,reduceMod,zac,zad,zab,zaa,gT,TK.isInt,TK.agg,Array.toList,h3c,r8c,h5c,r21c,h6c,h7c,Int.toNat_natCast]
     refine ⟨fun hp=>?_,fun hp=>?_⟩
     ·have hy:zgt (inF xs) k (m + 1) = zgt (inF xs) k m ++ [m]:=zuk (by rw [hf];simp at hp ⊢;omega)
      refine ⟨by rw [zaj];omega,?_⟩
      exact zag ((m + 1,v + 1)) (by refine ⟨?_,?_,?_,?_,?_,?_,by omega⟩ <;> (first | (simp (maxSteps:=5000000) -dsimp only [gr,reduceEqDiff,reduceLT,reduceAdd,reduceMod,Nat.reduceBEq,zaa,zac,zad,zab,h3c,r8c,h5c,r21c,h6c,h7c,zae hm (by omega),hy,zaR,zcK];first | done | rfl | (simp;done)) | assumption | rfl)) (by first | omega | (simp only;omega) | (dsimp only;omega) | (show _ < _;simp;omega))
     ·have hy:zgt (inF xs) k (m + 1) = zgt (inF xs) k m:=znk (by rw [hf];simp at hp ⊢;omega)
      exact zag ((m + 1,v)) (by refine ⟨?_,?_,?_,?_,?_,?_,by omega⟩ <;> (first | (simp (maxSteps:=5000000) -dsimp only [gr,reduceEqDiff,reduceLT,reduceAdd,reduceMod,Nat.reduceBEq,zaa,zac,zad,zab,h3c,r8c,h5c,r21c,h6c,h7c,zae hm (by omega),hy];first | done | rfl | (simp;done)) | assumption | rfl)) (by first | omega | (simp only;omega) | (dsimp only;omega) | (show _ < _;simp;omega))
    ·have hy:zgt (inF xs) k (m + 1) = zgt (inF xs) k m:=znk (by rw [hf];rfl)
     exact zag ((m + 1,v)) (by refine ⟨?_,?_,?_,?_,?_,?_,by omega⟩ <;> (first | (simp (maxSteps:=5000000) -dsimp only [gr,reduceEqDiff,reduceLT,reduceAdd,reduceMod,Nat.reduceBEq,zaa,zac,zad,zab,h3c,r8c,h5c,r21c,h6c,h7c,zae hm (by omega),hy];first | done | rfl | (simp;done)) | assumption | rfl)) (by first | omega | (simp only;omega) | (dsimp only;omega) | (show _ < _;simp;omega))
   ·have:m = 64:=by omega
    subst this
    have hk:k < 7:=by omega
    exact zag ((k + 1,v,u)) (by refine ⟨?_,?_,?_,?_,?_,by omega⟩ <;> (first | (simp (maxSteps:=5000000) -dsimp only [gr,reduceEqDiff,reduceLT,reduceAdd,reduceMod,Nat.reduceBEq,zaa,zac,zad,zab,h3b,r8b,h5b,r21b,h6b,h3c,r8c,h5c,r21c,h6c,h7c,zae hk (by omega),zkt];first | done | rfl | (simp;done)) | assumption | rfl)) (by first | omega | (simp only;omega) | (dsimp only;omega) | (show _ < _;simp;omega))
  ·have:k = 7:=by omega
   subst this
   rw [znj]
theorem zeE (g:Bool) (xs:List Int) (hx:∀ x ∈ xs,0 ≤ x∧x < 64):AC Tryz.prog 184 [zbj xs,bool g] (.fr 3 1 (iL (ofN (zfz (inF xs) g)))):=by
 refine AC.go (rs:=[.tmp 4]) zbg zay Tryz.func184 rfl rfl rfl (by kernel_rfl) fun hl=>?_
 simp only [zbk,zbD,and_true,zeh,zc5,true_and] at hl
 simp (maxSteps:=5000000) -dsimp only [↓gp,gq,reduceCtorEq,reduceEqDiff,reduceLT,reduceLeDiff,reduceAdd,reduceMul,reduceSub,Nat.reduceBEq,Int.reduceToNat,Int.reduceLE,Int.reduceLT,Int.reduceNeg,reduceMod,zac,zad,zab,zaa,gT,TK.isInt,TK.agg,Array.toList]
 refine zaf (zd0 xs hx) ?_
 simp (maxSteps:=5000000) -dsimp only [↓gp,gq,reduceCtorEq,reduceEqDiff,reduceLT,reduceLeDiff,reduceAdd,reduceMul,reduceSub,Nat.reduceBEq,Int.reduceToNat,Int.reduceLE,Int.reduceLT,Int.reduceNeg,reduceMod,zac,zad,zab,zaa,gT,TK.isInt,TK.agg,Array.toList]
 have hfull:=zg5 (inF xs)
 have hmemf:∀ t,t ∈ zda (inF xs) ↔ t < 64∧inF xs t = true:=fun t=>zcQ
 unfold zfz
 have hext:∀ s,s < 64→(zf1 (inF xs) g s = true ↔ ∀ t,t ∈ zda (inF xs)→(if g = true then s &&& t = s else t &&& s = t)→t = s):=fun s hs=>by
  cases g with
  | true=>rw [zcj];simp only [if_true];exact ⟨fun h t ht=>h t ((hmemf t).1 ht).1 ((hmemf t).1 ht).2,fun h t h1 h2=>h t ((hmemf t).2 ⟨h1,h2⟩)⟩
  | false=>rw [zul];simp only [Bool.false_eq_true,if_false];exact ⟨fun h t ht=>h t ((hmemf t).1 ht).1 ((hmemf t).1 ht).2,fun h t h1 h2=>h t ((hmemf t).2 ⟨h1,h2⟩)⟩
 generalize zda (inF xs) = all at *
 have hmem:∀ k,k < all.length→all.getD k 0 < 64:=fun k hk=>((hmemf _).1 (zax 0 hk)).1
 refine zaq (fun (za:Nat × Nat × Nat) s=>match za with | (k,v,u)=>s.sl 1 = bool g∧s.sl 5 = .own 13 u∧s.rw 13 = ⟨u,.sli 3 1 false (iL (ofN all))⟩∧s.sl 6 = .own 14 v∧s.rw 14 = ⟨v,.sli 3 1 false (iL (ofN ((all.take k).filter (zf1 (inF xs) g))))⟩∧s.sl 7 = int k∧(k ≤ all.length)) (fun (k,v,u)=>all.length - k) ((0,1,1)) (by refine ⟨?_,?_,?_,?_,?_,?_,by simp⟩ <;> (first | (simp (maxSteps:=5000000) -dsimp only [gr,reduceEqDiff,reduceLT,reduceAdd,reduceMod,Nat.reduceBEq,zaa,zac,zad,zab];first | done | rfl | (simp;done)) | assumption | rfl)) ?_
 intro (k,v,u) sa ⟨h1a,h5a,r13a,h6a,r14a,h7a,hIa⟩
 simp (maxSteps:=5000000) -dsimp only [↓gp,gq,reduceCtorEq,reduceEqDiff,reduceLT,reduceLeDiff,reduceAdd,reduceMul,reduceSub,Nat.reduceBEq,Int.reduceToNat,Int.reduceLE,Int.reduceLT,Int.reduceNeg,reduceMod,zac,zad,zab,zaa,gT,TK.isInt,TK.agg,Array.toList,h1a,h5a,r13a,h6a,r14a,h7a,zaj]
 have hol:((all.take k).filter (zf1 (inF xs) g)).length ≤ k:=Nat.le_trans zun (by simp;omega)
 refine ⟨fun hk=>?_,fun hk=>?_⟩
 ·have hs:=hmem k hk
  refine zaq (fun (zb:Nat × Bool) s=>match zb with | (j,fine)=>s.sl 1 = bool g∧s.sl 5 = .own 13 u∧s.rw 13 = ⟨u,.sli 3 1 false (iL (ofN all))⟩∧s.sl 6 = .own 14 v∧s.rw 14 = ⟨v,.sli 3 1 false (iL (ofN ((all.take k).filter (zf1 (inF xs) g))))⟩∧s.sl 7 = int k∧s.sl 8 = bool fine∧s.sl 9 = int j∧(j ≤ all.length∧(fine = true ↔ ∀ i,i < j→(if g = true then all.getD k 0 &&& all.getD i 0 = all.getD k 0 else all.getD i 0 &&& all.getD k 0 = all.getD i 0)→all.getD i 0 = all.getD k 0))) (fun (j,fine)=>all.length - j) ((0,true)) (by refine ⟨?_,?_,?_,?_,?_,?_,?_,?_,by simp⟩ <;> (first | (simp (maxSteps:=5000000) -dsimp only [gr,reduceEqDiff,reduceLT,reduceAdd,reduceMod,Nat.reduceBEq,zaa,zac,zad,zab,h1a,h5a,r13a,h6a,r14a,h7a];first | done | rfl | (simp;done)) | assumption | rfl)) ?_
  intro (j,fine) sb ⟨h1b,h5b,r13b,h6b,r14b,h7b,h8b,h9b,hIb⟩
  obtain ⟨hj,hfine⟩:=hIb
  have ek:(ofN all).getD k 0 = ((all.getD k 0:Nat):Int):=zaM hk
  have ej:j < all.length→(ofN all).getD j 0 = ((all.getD j 0:Nat):Int):=fun h=>zaM h
  have eand:j < all.length→zdL .i64 ((ofN all).getD k 0) ((ofN all).getD j 0) = ((all.getD k 0 &&& all.getD j 0:Nat):Int):=fun h=>by
   have:=hmem j h
   rw [ek,ej h,zbt (by omega) (by omega)]
  have hend:j = all.length→(fine = true ↔ zf1 (inF xs) g (all.getD k 0) = true):=fun h=>by
   rw [hfine,hext _ hs]
   exact ⟨fun h2 t ht=>by obtain ⟨i,hi,rfl⟩:=zbB 0 ht;exact h2 i (by omega),fun h2 i hi=>h2 _ (zax 0 (by omega))⟩
  have hend2:j = all.length→fine = false→zf1 (inF xs) g (all.getD k 0) = false:=fun h hf=>by
   cases hb:zf1 (inF xs) g (all.getD k 0) with
   | false=>rfl
   | true=>rw [(hend h).2 hb] at hf;cases hf
  have pfT:(if g = true then all.getD k 0 &&& all.getD j 0 = all.getD k 0 else all.getD j 0 &&& all.getD k 0 = all.getD j 0)→all.getD j 0 ≠ all.getD k 0→(false = true ↔ ∀ i,i < j + 1→(if g = true then all.getD k 0 &&& all.getD i 0 = all.getD k 0 else all.getD i 0 &&& all.getD k 0 = all.getD i 0)→all.getD i 0 = all.getD k 0):=fun hr hne =>
   ⟨fun h=>(by cases h),fun h=>absurd (h j (by omega) hr) hne⟩
  have pfF:(¬ (if g = true then all.getD k 0 &&& all.getD j 0 = all.getD k 0 else all.getD j 0 &&& all.getD k 0 = all.getD j 0) ∨ all.getD j 0 = all.getD k 0)→(fine = true ↔ ∀ i,i < j + 1→(if g = true then all.getD k 0 &&& all.getD i 0 = all.getD k 0 else all.getD i 0 &&& all.getD k 0 = all.getD i 0)→all.getD i 0 = all.getD k 0):=fun hr=>by
   rw [hfine]
   constructor
   ·intro h i hi
    rcases Nat.lt_succ_iff_lt_or_eq.1 hi with hi | rfl
    ·exact h i hi
    ·exact fun h2=>hr.elim (fun h3=>absurd h2 h3) id
   ·intro h i hi;exact h i (by omega)
  cases g with
  | true =>
    simp (maxSteps:=5000000) -dsimp only [↓gp,gq,reduceCtorEq,reduceEqDiff,reduceLT,reduceLeDiff,reduceAdd,reduceMul,reduceSub,Nat.reduceBEq,Int.reduceToNat,Int.reduceLE,Int.reduceLT,Int.reduceNeg,reduceMod,zac,zad,zab,zaa,gT,TK.isInt,TK.agg,Array.toList,h1b,h5b,r13b,h6b,r14b,h7b,h8b,h9b,zaj]
    refine ⟨fun h2=>⟨hk,hk,h2,h2,fun hne=>⟨fun he=>zag ((j + 1,fine)) ⟨(by (first | (simp (maxSteps:=5000000) -dsimp only [gr,reduceEqDiff,reduceLT,reduceAdd,reduceMod,Nat.reduceBEq,zaa,zac,zad,zab,h1b,h5b,r13b,h6b,r14b,h7b,h8b,h9b,zae h2 (by omega)];first | done | rfl | (simp;done)) | assumption | rfl)),(by (first | (simp (maxSteps:=5000000) -dsimp only [gr,reduceEqDiff,reduceLT,reduceAdd,reduceMod,Nat.reduceBEq,zaa,zac,zad,zab,h1b,h5b,r13b,h6b,r14b,h7b,h8b,h9b,zae h2 (by omega)];first | done | rfl | (simp;done)) | assumption | rfl)),(by (first | (simp (maxSteps:=5000000) -dsimp only [gr,reduceEqDiff,reduceLT,reduceAdd,reduceMod,Nat.reduceBEq,zaa,zac,zad,zab,h1b,h5b,r13b,h6b,r14b,h7b,h8b,h9b,zae h2 (by omega)];first | done | rfl | (simp;done)) | assumption | rfl)),(by (first | (simp (maxSteps:=5000000) -dsimp only [gr,reduceEqDiff,reduceLT,reduceAdd,reduceMod,Nat.reduceBEq,zaa,zac,zad,zab,h1b,h5b,r13b,h6b,r14b,h7b,h8b,h9b,zae h2 (by omega)];first | done | rfl | (simp;done)) | assumption | rfl)),(by (first | (simp (maxSteps:=5000000) -dsimp only [gr,reduceEqDiff,reduceLT,reduceAdd,reduceMod,Nat.reduceBEq,zaa,zac,zad,zab,h1b,h5b,r13b,h6b,r14b,h7b,h8b,h9b,zae h2 (by omega)];first | done | rfl | (simp;done)) | assumption | rfl)),(by (first | (simp (maxSteps:=5000000) -dsimp only [gr,reduceEqDiff,reduceLT,reduceAdd,reduceMod,Nat.reduceBEq,zaa,zac,zad,zab,h1b,h5b,r13b,h6b,r14b,h7b,h8b,h9b,zae h2 (by omega)];first | done | rfl | (simp;done)) | assumption | rfl)),(by (first | (simp (maxSteps:=5000000) -dsimp only [gr,reduceEqDiff,reduceLT,reduceAdd,reduceMod,Nat.reduceBEq,zaa,zac,zad,zab,h1b,h5b,r13b,h6b,r14b,h7b,h8b,h9b,zae h2 (by omega)];first | done | rfl | (simp;done)) | assumption | rfl)),(by (first | (simp (maxSteps:=5000000) -dsimp only [gr,reduceEqDiff,reduceLT,reduceAdd,reduceMod,Nat.reduceBEq,zaa,zac,zad,zab,h1b,h5b,r13b,h6b,r14b,h7b,h8b,h9b,zae h2 (by omega)];first | done | rfl | (simp;done)) | assumption | rfl)),⟨by omega,pfF (.inl ?_)⟩⟩ (by first | omega | (simp only;omega) | (dsimp only;omega) | (show _ < _;simp;omega)),fun he=>zag ((j + 1,false)) ⟨(by (first | (simp (maxSteps:=5000000) -dsimp only [gr,reduceEqDiff,reduceLT,reduceAdd,reduceMod,Nat.reduceBEq,zaa,zac,zad,zab,h1b,h5b,r13b,h6b,r14b,h7b,h8b,h9b,zae h2 (by omega)];first | done | rfl | (simp;done)) | assumption | rfl)),(by (first | (simp (maxSteps:=5000000) -dsimp only [gr,reduceEqDiff,reduceLT,reduceAdd,reduceMod,Nat.reduceBEq,zaa,zac,zad,zab,h1b,h5b,r13b,h6b,r14b,h7b,h8b,h9b,zae h2 (by omega)];first | done | rfl | (simp;done)) | assumption | rfl)),(by (first | (simp (maxSteps:=5000000) -dsimp only [gr,reduceEqDiff,reduceLT,reduceAdd,reduceMod,Nat.reduceBEq,zaa,zac,zad,zab,h1b,h5b,r13b,h6b,r14b,h7b,h8b,h9b,zae h2 (by omega)];first | done | rfl | (simp;done)) | assumption | rfl)),(by (first | (simp (maxSteps:=5000000) -dsimp only [gr,reduceEqDiff,reduceLT,reduceAdd,reduceMod,Nat.reduceBEq,zaa,zac,zad,zab,h1b,h5b,r13b,h6b,r14b,h7b,h8b,h9b,zae h2 (by omega)];first | done | rfl | (simp;done)) | assumption | rfl)),(by (first | (simp (maxSteps:=5000000) -dsimp only [gr,reduceEqDiff,reduceLT,reduceAdd,reduceMod,Nat.reduceBEq,zaa,zac,zad,zab,h1b,h5b,r13b,h6b,r14b,h7b,h8b,h9b,zae h2 (by omega)];first | done | rfl | (simp;done)) | assumption | rfl)),(by (first | (simp (maxSteps:=5000000) -dsimp only [gr,reduceEqDiff,reduceLT,reduceAdd,reduceMod,Nat.reduceBEq,zaa,zac,zad,zab,h1b,h5b,r13b,h6b,r14b,h7b,h8b,h9b,zae h2 (by omega)];first | done | rfl | (simp;done)) | assumption | rfl)),(by (first | (simp (maxSteps:=5000000) -dsimp only [gr,reduceEqDiff,reduceLT,reduceAdd,reduceMod,Nat.reduceBEq,zaa,zac,zad,zab,h1b,h5b,r13b,h6b,r14b,h7b,h8b,h9b,zae h2 (by omega)];first | done | rfl | (simp;done)) | assumption | rfl)),(by (first | (simp (maxSteps:=5000000) -dsimp only [gr,reduceEqDiff,reduceLT,reduceAdd,reduceMod,Nat.reduceBEq,zaa,zac,zad,zab,h1b,h5b,r13b,h6b,r14b,h7b,h8b,h9b,zae h2 (by omega)];first | done | rfl | (simp;done)) | assumption | rfl)),⟨by omega,pfT ?_ ?_⟩⟩ (by first | omega | (simp only;omega) | (dsimp only;omega) | (show _ < _;simp;omega))⟩,fun hne=>zag ((j + 1,fine)) ⟨(by (first | (simp (maxSteps:=5000000) -dsimp only [gr,reduceEqDiff,reduceLT,reduceAdd,reduceMod,Nat.reduceBEq,zaa,zac,zad,zab,h1b,h5b,r13b,h6b,r14b,h7b,h8b,h9b,zae h2 (by omega)];first | done | rfl | (simp;done)) | assumption | rfl)),(by (first | (simp (maxSteps:=5000000) -dsimp only [gr,reduceEqDiff,reduceLT,reduceAdd,reduceMod,Nat.reduceBEq,zaa,zac,zad,zab,h1b,h5b,r13b,h6b,r14b,h7b,h8b,h9b,zae h2 (by omega)];first | done | rfl | (simp;done)) | assumption | rfl)),(by (first | (simp (maxSteps:=5000000) -dsimp only [gr,reduceEqDiff,reduceLT,reduceAdd,reduceMod,Nat.reduceBEq,zaa,zac,zad,zab,h1b,h5b,r13b,h6b,r14b,h7b,h8b,h9b,zae h2 (by omega)];first | done | rfl | (simp;done)) | assumption | rfl)),(by (first | (simp (maxSteps:=5000000) -dsimp only [gr,reduceEqDiff,reduceLT,reduceAdd,reduceMod,Nat.reduceBEq,zaa,zac,zad,zab,h1b,h5b,r13b,h6b,r14b,h7b,h8b,h9b,zae h2 (by omega)];first | done | rfl | (simp;done)) | assumption | rfl)),(by (first | (simp (maxSteps:=5000000) -dsimp only [gr,reduceEqDiff,reduceLT,reduceAdd,reduceMod,Nat.reduceBEq,zaa,zac,zad,zab,h1b,h5b,r13b,h6b,r14b,h7b,h8b,h9b,zae h2 (by omega)];first | done | rfl | (simp;done)) | assumption | rfl)),(by (first | (simp (maxSteps:=5000000) -dsimp only [gr,reduceEqDiff,reduceLT,reduceAdd,reduceMod,Nat.reduceBEq,zaa,zac,zad,zab,h1b,h5b,r13b,h6b,r14b,h7b,h8b,h9b,zae h2 (by omega)];first | done | rfl | (simp;done)) | assumption | rfl)),(by (first | (simp (maxSteps:=5000000) -dsimp only [gr,reduceEqDiff,reduceLT,reduceAdd,reduceMod,Nat.reduceBEq,zaa,zac,zad,zab,h1b,h5b,r13b,h6b,r14b,h7b,h8b,h9b,zae h2 (by omega)];first | done | rfl | (simp;done)) | assumption | rfl)),(by (first | (simp (maxSteps:=5000000) -dsimp only [gr,reduceEqDiff,reduceLT,reduceAdd,reduceMod,Nat.reduceBEq,zaa,zac,zad,zab,h1b,h5b,r13b,h6b,r14b,h7b,h8b,h9b,zae h2 (by omega)];first | done | rfl | (simp;done)) | assumption | rfl)),⟨by omega,pfF (.inr ?_)⟩⟩ (by first | omega | (simp only;omega) | (dsimp only;omega) | (show _ < _;simp;omega))⟩,fun h2=>?_⟩
    ·rw [eand h2,ek] at he
     simp only [if_true]
     intro e;rw [e] at he;simp at he
    ·rw [eand h2,ek] at he
     have:=beq_iff_eq.1 he
     simp only [if_true];omega
    ·rw [ek,ej h2] at hne
     intro e;rw [e] at hne;simp at hne
    ·rw [ek,ej h2] at hne
     have:=bne_eq_false_iff_eq.1 hne
     omega
    ·refine ⟨fun hf=>⟨hk,hk,by omega,?_⟩,fun hf=>?_⟩
     ·have hx:=(hend (by omega)).1 hf
      exact zag ((k + 1,v + 1,u)) (by refine ⟨?_,?_,?_,?_,?_,?_,by omega⟩ <;> (first | (simp (maxSteps:=5000000) -dsimp only [gr,reduceEqDiff,reduceLT,reduceAdd,reduceMod,Nat.reduceBEq,zaa,zac,zad,zab,h1a,h5a,r13a,h6a,r14a,h7a,h1b,h5b,r13b,h6b,r14b,h7b,h8b,h9b,zae hk (by omega),zi3 hk hx,zaR,zcK,ek];first | done | rfl | (simp;done)) | assumption | rfl)) (by first | omega | (simp only;omega) | (dsimp only;omega) | (show _ < _;simp;omega))
     ·have hx:=hend2 (by omega) hf
      exact zag ((k + 1,v,u)) (by refine ⟨?_,?_,?_,?_,?_,?_,by omega⟩ <;> (first | (simp (maxSteps:=5000000) -dsimp only [gr,reduceEqDiff,reduceLT,reduceAdd,reduceMod,Nat.reduceBEq,zaa,zac,zad,zab,h1a,h5a,r13a,h6a,r14a,h7a,h1b,h5b,r13b,h6b,r14b,h7b,h8b,h9b,zae hk (by omega),zno hk hx];first | done | rfl | (simp;done)) | assumption | rfl)) (by first | omega | (simp only;omega) | (dsimp only;omega) | (show _ < _;simp;omega))
  | false =>
    simp (maxSteps:=5000000) -dsimp only [↓gp,gq,reduceCtorEq,reduceEqDiff,reduceLT,reduceLeDiff,reduceAdd,reduceMul,reduceSub,Nat.reduceBEq,Int.reduceToNat,Int.reduceLE,Int.reduceLT,Int.reduceNeg,reduceMod,zac,zad,zab,zaa,gT,TK.isInt,TK.agg,Array.toList,h1b,h5b,r13b,h6b,r14b,h7b,h8b,h9b,zaj]
    refine ⟨fun h2=>⟨hk,hk,h2,h2,fun hne=>⟨fun he=>zag ((j + 1,false)) ⟨(by (first | (simp (maxSteps:=5000000) -dsimp only [gr,reduceEqDiff,reduceLT,reduceAdd,reduceMod,Nat.reduceBEq,zaa,zac,zad,zab,h1b,h5b,r13b,h6b,r14b,h7b,h8b,h9b,zae h2 (by omega)];first | done | rfl | (simp;done)) | assumption | rfl)),(by (first | (simp (maxSteps:=5000000) -dsimp only [gr,reduceEqDiff,reduceLT,reduceAdd,reduceMod,Nat.reduceBEq,zaa,zac,zad,zab,h1b,h5b,r13b,h6b,r14b,h7b,h8b,h9b,zae h2 (by omega)];first | done | rfl | (simp;done)) | assumption | rfl)),(by (first | (simp (maxSteps:=5000000) -dsimp only [gr,reduceEqDiff,reduceLT,reduceAdd,reduceMod,Nat.reduceBEq,zaa,zac,zad,zab,h1b,h5b,r13b,h6b,r14b,h7b,h8b,h9b,zae h2 (by omega)];first | done | rfl | (simp;done)) | assumption | rfl)),(by (first | (simp (maxSteps:=5000000) -dsimp only [gr,reduceEqDiff,reduceLT,reduceAdd,reduceMod,Nat.reduceBEq,zaa,zac,zad,zab,h1b,h5b,r13b,h6b,r14b,h7b,h8b,h9b,zae h2 (by omega)];first | done | rfl | (simp;done)) | assumption | rfl)),(by (first | (simp (maxSteps:=5000000) -dsimp only [gr,reduceEqDiff,reduceLT,reduceAdd,reduceMod,Nat.reduceBEq,zaa,zac,zad,zab,h1b,h5b,r13b,h6b,r14b,h7b,h8b,h9b,zae h2 (by omega)];first | done | rfl | (simp;done)) | assumption | rfl)),(by (first | (simp (maxSteps:=5000000) -dsimp only [gr,reduceEqDiff,reduceLT,reduceAdd,reduceMod,Nat.reduceBEq,zaa,zac,zad,zab,h1b,h5b,r13b,h6b,r14b,h7b,h8b,h9b,zae h2 (by omega)];first | done | rfl | (simp;done)) | assumption | rfl)),(by (first | (simp (maxSteps:=5000000) -dsimp only [gr,reduceEqDiff,reduceLT,reduceAdd,reduceMod,Nat.reduceBEq,zaa,zac,zad,zab,h1b,h5b,r13b,h6b,r14b,h7b,h8b,h9b,zae h2 (by omega)];first | done | rfl | (simp;done)) | assumption | rfl)),(by (first | (simp (maxSteps:=5000000) -dsimp only [gr,reduceEqDiff,reduceLT,reduceAdd,reduceMod,Nat.reduceBEq,zaa,zac,zad,zab,h1b,h5b,r13b,h6b,r14b,h7b,h8b,h9b,zae h2 (by omega)];first | done | rfl | (simp;done)) | assumption | rfl)),⟨by omega,pfT ?_ ?_⟩⟩ (by first | omega | (simp only;omega) | (dsimp only;omega) | (show _ < _;simp;omega)),fun he=>zag ((j + 1,fine)) ⟨(by (first | (simp (maxSteps:=5000000) -dsimp only [gr,reduceEqDiff,reduceLT,reduceAdd,reduceMod,Nat.reduceBEq,zaa,zac,zad,zab,h1b,h5b,r13b,h6b,r14b,h7b,h8b,h9b,zae h2 (by omega)];first | done | rfl | (simp;done)) | assumption | rfl)),(by (first | (simp (maxSteps:=5000000) -dsimp only [gr,reduceEqDiff,reduceLT,reduceAdd,reduceMod,Nat.reduceBEq,zaa,zac,zad,zab,h1b,h5b,r13b,h6b,r14b,h7b,h8b,h9b,zae h2 (by omega)];first | done | rfl | (simp;done)) | assumption | rfl)),(by (first | (simp (maxSteps:=5000000) -dsimp only [gr,reduceEqDiff,reduceLT,reduceAdd,reduceMod,Nat.reduceBEq,zaa,zac,zad,zab,h1b,h5b,r13b,h6b,r14b,h7b,h8b,h9b,zae h2 (by omega)];first | done | rfl | (simp;done)) | assumption | rfl)),(by (first | (simp (maxSteps:=5000000) -dsimp only [gr,reduceEqDiff,reduceLT,reduceAdd,reduceMod,Nat.reduceBEq,zaa,zac,zad,zab,h1b,h5b,r13b,h6b,r14b,h7b,h8b,h9b,zae h2 (by omega)];first | done | rfl | (simp;done)) | assumption | rfl)),(by (first | (simp (maxSteps:=5000000) -dsimp only [gr,reduceEqDiff,reduceLT,reduceAdd,reduceMod,Nat.reduceBEq,zaa,zac,zad,zab,h1b,h5b,r13b,h6b,r14b,h7b,h8b,h9b,zae h2 (by omega)];first | done | rfl | (simp;done)) | assumption | rfl)),(by (first | (simp (maxSteps:=5000000) -dsimp only [gr,reduceEqDiff,reduceLT,reduceAdd,reduceMod,Nat.reduceBEq,zaa,zac,zad,zab,h1b,h5b,r13b,h6b,r14b,h7b,h8b,h9b,zae h2 (by omega)];first | done | rfl | (simp;done)) | assumption | rfl)),(by (first | (simp (maxSteps:=5000000) -dsimp only [gr,reduceEqDiff,reduceLT,reduceAdd,reduceMod,Nat.reduceBEq,zaa,zac,zad,zab,h1b,h5b,r13b,h6b,r14b,h7b,h8b,h9b,zae h2 (by omega)];first | done | rfl | (simp;done)) | assumption | rfl)),(by (first | (simp (maxSteps:=5000000) -dsimp only [gr,reduceEqDiff,reduceLT,reduceAdd,reduceMod,Nat.reduceBEq,zaa,zac,zad,zab,h1b,h5b,r13b,h6b,r14b,h7b,h8b,h9b,zae h2 (by omega)];first | done | rfl | (simp;done)) | assumption | rfl)),⟨by omega,pfF (.inl ?_)⟩⟩ (by first | omega | (simp only;omega) | (dsimp only;omega) | (show _ < _;simp;omega))⟩,fun hne=>zag ((j + 1,fine)) ⟨(by (first | (simp (maxSteps:=5000000) -dsimp only [gr,reduceEqDiff,reduceLT,reduceAdd,reduceMod,Nat.reduceBEq,zaa,zac,zad,zab,h1b,h5b,r13b,h6b,r14b,h7b,h8b,h9b,zae h2 (by omega)];first | done | rfl | (simp;done)) | assumption | rfl)),(by (first | (simp (maxSteps:=5000000) -dsimp only [gr,reduceEqDiff,reduceLT,reduceAdd,reduceMod,Nat.reduceBEq,zaa,zac,zad,zab,h1b,h5b,r13b,h6b,r14b,h7b,h8b,h9b,zae h2 (by omega)];first | done | rfl | (simp;done)) | assumption | rfl)),(by (first | (simp (maxSteps:=5000000) -dsimp only [gr,reduceEqDiff,reduceLT,reduceAdd,reduceMod,Nat.reduceBEq,zaa,zac,zad,zab,h1b,h5b,r13b,h6b,r14b,h7b,h8b,h9b,zae h2 (by omega)];first | done | rfl | (simp;done)) | assumption | rfl)),(by (first | (simp (maxSteps:=5000000) -dsimp only [gr,reduceEqDiff,reduceLT,reduceAdd,reduceMod,Nat.reduceBEq,zaa,zac,zad,zab,h1b,h5b,r13b,h6b,r14b,h7b,h8b,h9b,zae h2 (by omega)];first | done | rfl | (simp;done)) | assumption | rfl)),(by (first | (simp (maxSteps:=5000000) -dsimp only [gr,reduceEqDiff,reduceLT,reduceAdd,reduceMod,Nat.reduceBEq,zaa,zac,zad,zab,h1b,h5b,r13b,h6b,r14b,h7b,h8b,h9b,zae h2 (by omega)];first | done | rfl | (simp;done)) | assumption | rfl)),(by (first | (simp (maxSteps:=5000000) -dsimp only [gr,reduceEqDiff,reduceLT,reduceAdd,reduceMod,Nat.reduceBEq,zaa,zac,zad,zab,h1b,h5b,r13b,h6b,r14b,h7b,h8b,h9b,zae h2 (by omega)];first | done | rfl | (simp;done)) | assumption | rfl)),(by (first | (simp (maxSteps:=5000000) -dsimp only [gr,reduceEqDiff,reduceLT,reduceAdd,reduceMod,Nat.reduceBEq,zaa,zac,zad,zab,h1b,h5b,r13b,h6b,r14b,h7b,h8b,h9b,zae h2 (by omega)];first | done | rfl | (simp;done)) | assumption | rfl)),(by (first | (simp (maxSteps:=5000000) -dsimp only [gr,reduceEqDiff,reduceLT,reduceAdd,reduceMod,Nat.reduceBEq,zaa,zac,zad,zab,h1b,h5b,r13b,h6b,r14b,h7b,h8b,h9b,zae h2 (by omega)];first | done | rfl | (simp;done)) | assumption | rfl)),⟨by omega,pfF (.inr ?_)⟩⟩ (by first | omega | (simp only;omega) | (dsimp only;omega) | (show _ < _;simp;omega))⟩,fun h2=>?_⟩
    ·rw [eand h2,ej h2] at he
     have:=beq_iff_eq.1 he
     simp only [Bool.false_eq_true,if_false];rw [Nat.and_comm];omega
    ·rw [ek,ej h2] at hne
     intro e;rw [e] at hne;simp at hne
    ·rw [eand h2,ej h2] at he
     simp only [Bool.false_eq_true,if_false]
     intro e;rw [Nat.and_comm] at e;rw [e] at he;simp at he
    ·rw [ek,ej h2] at hne
     have:=bne_eq_false_iff_eq.1 hne
     omega
    ·refine ⟨fun hf=>⟨hk,hk,by omega,?_⟩,fun hf=>?_⟩
     ·have hx:=(hend (by omega)).1 hf
      exact zag ((k + 1,v + 1,u)) (by refine ⟨?_,?_,?_,?_,?_,?_,by omega⟩ <;> (first | (simp (maxSteps:=5000000) -dsimp only [gr,reduceEqDiff,reduceLT,reduceAdd,reduceMod,Nat.reduceBEq,zaa,zac,zad,zab,h1a,h5a,r13a,h6a,r14a,h7a,h1b,h5b,r13b,h6b,r14b,h7b,h8b,h9b,zae hk (by omega),zi3 hk hx,zaR,zcK,ek];first | done | rfl | (simp;done)) | assumption | rfl)) (by first | omega | (simp only;omega) | (dsimp only;omega) | (show _ < _;simp;omega))
     ·have hx:=hend2 (by omega) hf
      exact zag ((k + 1,v,u)) (by refine ⟨?_,?_,?_,?_,?_,?_,by omega⟩ <;> (first | (simp (maxSteps:=5000000) -dsimp only [gr,reduceEqDiff,reduceLT,reduceAdd,reduceMod,Nat.reduceBEq,zaa,zac,zad,zab,h1a,h5a,r13a,h6a,r14a,h7a,h1b,h5b,r13b,h6b,r14b,h7b,h8b,h9b,zae hk (by omega),zno hk hx];first | done | rfl | (simp;done)) | assumption | rfl)) (by first | omega | (simp only;omega) | (dsimp only;omega) | (show _ < _;simp;omega))
 ·have:k = all.length:=by omega
  subst this
  rw [List.take_length]
def zGA (n:Int) (xs:List Int):Prop:=1 ≤ n∧n ≤ 6∧xs.length ≤ 64∧∀ x ∈ xs,zch n x = true
theorem zg6 (w:Nat→Bool) {n:Nat} (hn:n ≤ 6):zaW w (2 ^ n) < 18446744073709551616:=by
 have h1:=zb9 w (2 ^ n)
 have h2:=zam hn
 have h3:2 ^ (2 ^ n) ≤ 2 ^ 64:=Nat.pow_le_pow_right (by omega) h2
 omega
theorem zAC {n:Nat} {p:Nat→Bool} {s:Nat}:inF (ofN ((List.range n).filter p)) s = (decide (s < n) && p s):=by
 unfold inF ofN
 rw [Bool.eq_iff_iff]
 simp only [decide_eq_true_eq,Bool.and_eq_true,List.mem_map,List.mem_filter,List.mem_range]
 constructor
 ·rintro ⟨t,⟨h1,h2⟩,e⟩
  have:t = s:=by omega
  subst this
  exact ⟨h1,h2⟩
 ·rintro ⟨h1,h2⟩;exact ⟨s,⟨h1,h2⟩,rfl⟩
theorem zvu {n:Int} {xs:List Int} (h:zhP n xs):zGA n xs:=by
 obtain ⟨h1,h2,h3⟩:=h
 have hin:∀ k,k < xs.length→0 ≤ xs.getD k 0∧xs.getD k 0 < 64:=fun k hk=>zcm (h3 k hk).1
 have hk:∀ k:Nat,k < xs.length→(k:Int) ≤ xs.getD k 0:=by
  intro k
  induction k with
  | zero=>intro hk;have:=hin 0 hk;omega
  | succ k ih =>
    intro hk
    have e:=(h3 (k + 1) hk).2.2 (by omega)
    rw [Nat.add_sub_cancel] at e
    have:=ih (by omega)
    omega
 refine ⟨h1,h2,?_,fun x hx=>?_⟩
 ·rcases Nat.lt_or_ge 64 xs.length with hc | hc
  ·have:=hk 64 hc;have:=hin 64 hc;omega
  ·exact hc
 ·obtain ⟨i,hi,rfl⟩:=zbB 0 hx
  exact (h3 i hi).1
theorem zyC {P:Program} {s:St} {K:St→Prop} {f:FuncId} {args raw:List PV} {Ka:RV→Prop} {d e e2:Nat} {us:Dm s} {u:Dm K} {M:Mat} (h:AC P f args (.tb e e2 (M.map iL))) (hd:∀ i,i < M.length→(s.rw (sid d i)).ver = 0)
 (hk:∀ S:St,TabI S.rw d ((s.rw d).ver + 1) e e2 (List.range M.length) M→S.sl d = .own d ((s.rw d).ver + 1)→(∀ t,t ≠ d→S.sl t = s.sl t)→(∀ j,(j % 1000 == d % 1000) = false→S.rw j = s.rw j)→K S):zjq P f args Ka (zsM P f args raw (some d) (kk s us) (kk K u)) :=
 zz5 _ h (Wk.refl _) (hk _ ⟨by
  have:=zpI (s:=s) d e e2 (M.map iL) (fun i hi=>hd i (by simpa using hi))
  rwa [List.length_map] at this,List.nodup_range⟩ (zeY d e e2 _) (fun t ht=>zdl d e e2 t _ ht) (fun j hj=>zeZ d e e2 j _ hj))
def zuq (l:List Nat):Nat:=l.foldl (fun F s=>F ||| 2 ^ s) 0
theorem zyK (l:List Nat) (s:Nat):zuq (l ++ [s]) = zuq l ||| 2 ^ s:=by simp [zuq]
theorem zur (l:List Nat):∀ t,(zuq l).testBit t = decide (t ∈ l):=by
 have h:∀ (l:List Nat) (F t:Nat),(l.foldl (fun F s=>F ||| 2 ^ s) F).testBit t = (F.testBit t || decide (t ∈ l)):=by
  intro l
  induction l with
  | nil=>intro F t;simp
  | cons s l ih =>
    intro F t
    rw [List.foldl_cons,ih,Nat.testBit_or,Nat.testBit_two_pow]
    by_cases e:s = t
    ·subst e;simp
    ·have e2:t ≠ s:=fun h=>e h.symm
     simp [e,e2]
 intro t
 unfold zuq;rw [h];simp
theorem zyL {l:List Nat} (h:∀ s ∈ l,s < 64):zuq l < 18446744073709551616:=by
 have:zuq l < 2 ^ 64:=Nat.lt_pow_two_of_testBit _ fun i hi=>by
  rw [zur]
  exact decide_eq_false fun hm=>by have:=h i hm;omega
 simpa using this
theorem zky (l:List Nat) (h:∀ s ∈ l,s < 64) (hl9:l.length ≤ 1000000):AC Tryz.prog 94 [zbj (ofN l)] (.tup [.im (u64 (zuq l:Nat)),.im (bool true)]):=by
 refine AC.go (rs:=[.tmp 2,.tmp 3]) zbg zay Tryz.func94 rfl rfl rfl (by kernel_rfl) fun hl=>?_
 simp (maxSteps:=5000000) -dsimp only [↓gp,gq,reduceCtorEq,reduceEqDiff,reduceLT,reduceLeDiff,reduceAdd,reduceMul,reduceSub,Nat.reduceBEq,Int.reduceToNat,Int.reduceLE,Int.reduceLT,Int.reduceNeg,reduceMod,zac,zad,zab,zaa,gT,TK.isInt,TK.agg,Array.toList]
 have hol:=zaj l
 refine zaq (fun (k:Nat) s=>s.sl 4 = u64 (zuq (l.take k):Nat)∧s.sl 7 = zbj (ofN l)∧s.sl 8 = int l.length∧s.sl 9 = int k∧(k ≤ l.length)) (fun k=>l.length - k) (0) (by refine ⟨?_,?_,?_,?_,by omega⟩ <;> (first | (simp (maxSteps:=5000000) -dsimp only [gr,reduceEqDiff,reduceLT,reduceAdd,reduceMod,Nat.reduceBEq,zaa,zac,zad,zab,hol,List.take_zero];first | done | rfl | (simp;done)) | assumption | rfl)) ?_
 intro k sa ⟨h4a,h7a,h8a,h9a,hIa⟩
 have hlt:=zyL (l:=l.take k) (fun s hs=>h s (List.mem_of_mem_take hs))
 simp (maxSteps:=5000000) -dsimp only [↓gp,gq,reduceCtorEq,reduceEqDiff,reduceLT,reduceLeDiff,reduceAdd,reduceMul,reduceSub,Nat.reduceBEq,Int.reduceToNat,Int.reduceLE,Int.reduceLT,Int.reduceNeg,reduceMod,zac,zad,zab,zaa,gT,TK.isInt,TK.agg,Array.toList,h4a,h7a,h8a,h9a,hol]
 refine ⟨fun hk=>⟨hk,hk,?_⟩,fun hk=>?_⟩
 ·have hgd:=zaM hk
  have hs:=h _ (zax 0 hk)
  have hin:zch 6 ((l.getD k 0:Nat):Int) = true:=by unfold zch;exact decide_eq_true ⟨by omega,by omega,by omega,by simpa using (by omega:((l.getD k 0:Nat):Int) < 64)⟩
  have huk:IntKind.u64.wrap ((l.getD k 0:Nat):Int) = ((l.getD k 0:Nat):Int):=zaL (by omega)
  have h2s:(2:Nat) ^ (l.getD k 0) < 18446744073709551616:=by
   have:(2:Nat) ^ (l.getD k 0) < 2 ^ 64:=Nat.pow_lt_pow_right (by omega) (by omega)
   omega
  have hor:ior .u64 (zuq (l.take k):Nat) (zgs .u64 1 ((l.getD k 0:Nat):Int)) = ((zuq (l.take (k + 1)):Nat):Int):=by
   rw [zyB (by omega),zAA (by omega) h2s,zaT 0 hk,zyK]
  rw [hgd]
  refine zaf (zb4 _ _) ?_
  rw [hin]
  simp (maxSteps:=5000000) -dsimp only [↓gp,gq,reduceCtorEq,reduceEqDiff,reduceLT,reduceLeDiff,reduceAdd,reduceMul,reduceSub,Nat.reduceBEq,Int.reduceToNat,Int.reduceLE,Int.reduceLT,Int.reduceNeg,reduceMod,zac,zad,zab,zaa,gT,TK.isInt,TK.agg,Array.toList,h4a,h7a,h8a,h9a,hol,hgd,huk,hor]
  exact zag (k + 1) (by refine ⟨?_,?_,?_,?_,by omega⟩ <;> (first | (simp (maxSteps:=5000000) -dsimp only [gr,reduceEqDiff,reduceLT,reduceAdd,reduceMod,Nat.reduceBEq,zaa,zac,zad,zab,h4a,h7a,h8a,h9a,zae hk (by omega),hor];first | done | rfl | (simp;done)) | assumption | rfl)) (by first | omega | (simp only;omega) | (dsimp only;omega) | (show _ < _;simp;omega))
 ·have:k = l.length:=by omega
  rw [this,List.take_length]
def zdS (xs:List Int) (m:Nat):List Nat:=(List.range m).filter fun s=>zaD s == 2 && !decide ((s:Int) ∈ xs)
theorem zv6 (xs:List Int) (m:Nat):zdS xs (m + 1) = if zaD m = 2∧¬ (m:Int) ∈ xs then zdS xs m ++ [m] else zdS xs m:=by
 unfold zdS
 rw [List.range_succ,List.filter_append]
 by_cases h1:zaD m = 2 <;> by_cases h2:(m:Int) ∈ xs <;> simp [h1,h2]
theorem zr6 (xs:List Int) (m:Nat):(zdS xs m).length ≤ m:=by
 unfold zdS
 exact Nat.le_trans (List.length_filter_le _ _) (by simp)
noncomputable def zhi (n:Int) (xs:List Int):List Int:=if zap n xs = true then ofN (zdS xs (2 ^ n.toNat)) else []
noncomputable def zeJ (n:Int) (xs:List Int):Int:=if zap n xs = true then n else 0
theorem zd2 (n:Int) (xs:List Int):AC Tryz.prog 21 [.ag [int n,zbj xs]] (.tup [.ag [.im (int (zeJ n xs)),.fr 3 1 (iL (zhi n xs))],.im (bool (zap n xs))]):=by
 refine AC.go (rs:=[.cell 2 36,.tmp 3]) zbg zay Tryz.func21 rfl rfl rfl (by kernel_rfl) fun hl=>?_
 simp (maxSteps:=5000000) -dsimp only [↓gp,gq,reduceCtorEq,reduceEqDiff,reduceLT,reduceLeDiff,reduceAdd,reduceMul,reduceSub,Nat.reduceBEq,Int.reduceToNat,Int.reduceLE,Int.reduceLT,Int.reduceNeg,reduceMod,zac,zad,zab,zaa,gT,TK.isInt,TK.agg,Array.toList]
 refine zaf (zbn n xs) ?_
 simp (maxSteps:=5000000) -dsimp only [↓gp,gq,reduceCtorEq,reduceEqDiff,reduceLT,reduceLeDiff,reduceAdd,reduceMul,reduceSub,Nat.reduceBEq,Int.reduceToNat,Int.reduceLE,Int.reduceLT,Int.reduceNeg,reduceMod,zac,zad,zab,zaa,gT,TK.isInt,TK.agg,Array.toList]
 unfold zeJ zhi
 refine ⟨fun hg=>?_,fun hg=>?_⟩
 ·have hg:zap n xs = false:=by simpa using hg
  rw [hg];exact ⟨rfl,rfl,rfl⟩
 ·have hg:zap n xs = true:=by simpa using hg
  obtain ⟨m,rfl,h1,h6,_⟩:=zaS (zao.1 hg)
  rw [if_pos hg,if_pos hg,hg,Int.toNat_natCast]
  have h64:=zam h6
  have hsh:zgs .i64 1 (m:Int) = ((2 ^ m:Nat):Int):=zaJ (by omega)
  have hun:IntKind.u64.wrap (m:Int) = (m:Int):=zaL (by omega)
  have hz:iL (ofN []) = []:=rfl
  refine zrA (fun (za:Nat × Nat) s=>match za with | (k,v)=>s.sl 1 = .ref 1 1 0∧s.rw 1 = ⟨1,.box 36 [int m,zbj xs]⟩∧s.sl 2 = .ref 2 1 0∧s.rw 2 = ⟨1,.box 36 [int 0,.v (.slice none 0 0)]⟩∧s.sl 4 = .ref 4 1 0∧s.rw 4 = ⟨1,.box 36 [int m,.own 90 v]⟩∧s.rw 90 = ⟨v,.sli 3 1 false (iL (ofN (zdS xs k)))⟩∧s.sl 5 = int k∧(k ≤ 2 ^ m)) (fun (k,v)=>2 ^ m - k) ((0,1)) (Wk.nilBox (j:=4) (v:=1) (t:=36) (o:=1) (c:=[int m,.v (.slice none 0 0)]) 90 3 (by simp (maxSteps:=5000000) -dsimp only [gr,reduceEqDiff,reduceLT,reduceAdd,reduceMod,Nat.reduceBEq,zaa,zac,zad,zab]) rfl (by decide)) (by refine ⟨?_,?_,?_,?_,?_,?_,?_,?_,Nat.zero_le _⟩ <;> (first | (simp (maxSteps:=5000000) -dsimp only [gr,reduceEqDiff,reduceLT,reduceAdd,reduceMod,Nat.reduceBEq,zaa,zac,zad,zab,zdS,List.range_zero,List.filter_nil,hz];first | done | rfl | (simp;done)) | assumption | rfl)) ?_
  intro (k,v) sa ⟨h1a,r1a,h2a,r2a,h4a,r4a,r90a,h5a,hIa⟩
  simp (maxSteps:=5000000) -dsimp only [↓gp,gq,reduceCtorEq,reduceEqDiff,reduceLT,reduceLeDiff,reduceAdd,reduceMul,reduceSub,Nat.reduceBEq,Int.reduceToNat,Int.reduceLE,Int.reduceLT,Int.reduceNeg,reduceMod,zac,zad,zab,zaa,gT,TK.isInt,TK.agg,Array.toList,h1a,r1a,h2a,r2a,h4a,r4a,r90a,h5a,hsh,hun]
  have hol:=zr6 xs k
  have hos:=zv6 xs k
  refine ⟨fun hlt=>zaf (zaP k (by omega)) ?_,fun hlt=>?_⟩
  ·simp (maxSteps:=5000000) -dsimp only [↓gp,gq,reduceCtorEq,reduceEqDiff,reduceLT,reduceLeDiff,reduceAdd,reduceMul,reduceSub,Nat.reduceBEq,Int.reduceToNat,Int.reduceLE,Int.reduceLT,Int.reduceNeg,reduceMod,zac,zad,zab,zaa,gT,TK.isInt,TK.agg,Array.toList,h1a,r1a,h2a,r2a,h4a,r4a,r90a,h5a,hsh,hun]
   refine ⟨fun he=>zaf (zhO xs k) ?_,fun he=>?_⟩
   ·have he:zaD k = 2:=by
     have:((zaD k:Nat):Int) = 2:=by simpa using he
     omega
    simp (maxSteps:=5000000) -dsimp only [↓gp,gq,reduceCtorEq,reduceEqDiff,reduceLT,reduceLeDiff,reduceAdd,reduceMul,reduceSub,Nat.reduceBEq,Int.reduceToNat,Int.reduceLE,Int.reduceLT,Int.reduceNeg,reduceMod,zac,zad,zab,zaa,gT,TK.isInt,TK.agg,Array.toList,h1a,r1a,h2a,r2a,h4a,r4a,r90a,h5a,hsh,hun,zaj]
    refine ⟨fun hb=>⟨by omega,?_⟩,fun hb=>?_⟩
    ·rw [if_pos ⟨he,by simpa using hb⟩] at hos
     exact zag ((k + 1,v + 1)) (by refine ⟨?_,?_,?_,?_,?_,?_,?_,?_,by dsimp only;omega⟩ <;> (first | (simp (maxSteps:=5000000) -dsimp only [gr,reduceEqDiff,reduceLT,reduceAdd,reduceMod,Nat.reduceBEq,zaa,zac,zad,zab,h1a,r1a,h2a,r2a,h4a,r4a,r90a,h5a,hos,zaR,zcK,zae hlt (by omega)];first | done | rfl | (simp;done)) | assumption | rfl)) (by first | omega | (simp only;omega) | (dsimp only;omega) | (show _ < _;simp;omega))
    ·rw [if_neg (fun hh=>by simp [hh.2] at hb)] at hos
     exact zag ((k + 1,v)) (by refine ⟨?_,?_,?_,?_,?_,?_,?_,?_,by dsimp only;omega⟩ <;> (first | (simp (maxSteps:=5000000) -dsimp only [gr,reduceEqDiff,reduceLT,reduceAdd,reduceMod,Nat.reduceBEq,zaa,zac,zad,zab,h1a,r1a,h2a,r2a,h4a,r4a,r90a,h5a,hos,zae hlt (by omega)];first | done | rfl | (simp;done)) | assumption | rfl)) (by first | omega | (simp only;omega) | (dsimp only;omega) | (show _ < _;simp;omega))
   ·have he:¬ zaD k = 2:=fun e=>by rw [e] at he;simp at he
    rw [if_neg (fun hh=>he hh.1)] at hos
    exact zag ((k + 1,v)) (by refine ⟨?_,?_,?_,?_,?_,?_,?_,?_,by dsimp only;omega⟩ <;> (first | (simp (maxSteps:=5000000) -dsimp only [gr,reduceEqDiff,reduceLT,reduceAdd,reduceMod,Nat.reduceBEq,zaa,zac,zad,zab,h1a,r1a,h2a,r2a,h4a,r4a,r90a,h5a,hos,zae hlt (by omega)];first | done | rfl | (simp;done)) | assumption | rfl)) (by first | omega | (simp only;omega) | (dsimp only;omega) | (show _ < _;simp;omega))
  ·have hk:k = 2 ^ m:=by omega
   rw [hk] at r90a ⊢
def zqX (xs:List Int) (s i k:Nat):Bool:=(List.range k).all fun k=>!(s.testBit i && s.testBit k) || decide (((2 ^ i + 2 ^ k:Nat):Int) ∈ xs)
def zje (xs:List Int) (s n:Nat):Bool:=(List.range n).all fun i=>zqX xs s i i
theorem zEm:∀ s,s < 64→∀ i,i < 6→∀ k,k < i→(zdL .i64 (s:Nat) ((2 ^ i + 2 ^ k:Nat):Int) == ((2 ^ i + 2 ^ k:Nat):Int)) = (s.testBit i && s.testBit k):=by decide +kernel
theorem zuL (xs:List Int) (s i k:Nat):zqX xs s i (k + 1) = (zqX xs s i k && (!(s.testBit i && s.testBit k) || decide (((2 ^ i + 2 ^ k:Nat):Int) ∈ xs))):=by
 unfold zqX;rw [List.range_succ,List.all_append];simp
theorem zzZ {xs:List Int} {s i k:Nat} (hk:k < i) (h:(!(s.testBit i && s.testBit k) || decide (((2 ^ i + 2 ^ k:Nat):Int) ∈ xs)) = false) {n:Nat} (hi:i < n):zje xs s n = false:=by
 unfold zje
 rw [List.all_eq_false]
 refine ⟨i,List.mem_range.2 hi,?_⟩
 unfold zqX
 rw [List.all_eq_true]
 intro hh
 have:=hh k (List.mem_range.2 hk)
 rw [h] at this;cases this
theorem zio (n:Nat) (hn:n ≤ 6) (xs:List Int) (u:Nat) (hu:u < 64):AC Tryz.prog 116 [.ag [int n,zbj xs],int u] (.im (bool (zje xs u n))):=by
 refine AC.go (rs:=[.tmp 4]) zbg zay Tryz.func116 rfl rfl rfl (by kernel_rfl) fun hl=>?_
 simp (maxSteps:=5000000) -dsimp only [↓gp,gq,reduceCtorEq,reduceEqDiff,reduceLT,reduceLeDiff,reduceAdd,reduceMul,reduceSub,Nat.reduceBEq,Int.reduceToNat,Int.reduceLE,Int.reduceLT,Int.reduceNeg,reduceMod,zac,zad,zab,zaa,gT,TK.isInt,TK.agg,Array.toList]
 refine zaq (fun (i:Nat) s=>s.sl 1 = int u∧s.sl 2 = .ref 2 1 0∧s.rw 2 = ⟨1,.box 36 [int n,zbj xs]⟩∧s.sl 5 = int i∧(i ≤ n∧zje xs u i = true)) (fun i=>n - i) (0) (by refine ⟨?_,?_,?_,?_,⟨Nat.zero_le _,rfl⟩⟩ <;> (first | (simp (maxSteps:=5000000) -dsimp only [gr,reduceEqDiff,reduceLT,reduceAdd,reduceMod,Nat.reduceBEq,zaa,zac,zad,zab];first | done | rfl | (simp;done)) | assumption | rfl)) ?_
 intro i sa ⟨h1a,h2a,r2a,h5a,hIa⟩
 obtain ⟨hi,hja⟩:=hIa
 simp (maxSteps:=5000000) -dsimp only [↓gp,gq,reduceCtorEq,reduceEqDiff,reduceLT,reduceLeDiff,reduceAdd,reduceMul,reduceSub,Nat.reduceBEq,Int.reduceToNat,Int.reduceLE,Int.reduceLT,Int.reduceNeg,reduceMod,zac,zad,zab,zaa,gT,TK.isInt,TK.agg,Array.toList,h1a,h2a,r2a,h5a]
 refine ⟨fun hlt=>?_,fun hlt=>?_⟩
 ·have hlt:i < n:=by omega
  refine zaq (fun (k:Nat) s=>s.sl 1 = int u∧s.sl 2 = .ref 2 1 0∧s.rw 2 = ⟨1,.box 36 [int n,zbj xs]⟩∧s.sl 5 = int i∧s.sl 6 = int k∧(k ≤ i∧zqX xs u i k = true)) (fun k=>i - k) (0) (by refine ⟨?_,?_,?_,?_,?_,⟨Nat.zero_le _,rfl⟩⟩ <;> (first | (simp (maxSteps:=5000000) -dsimp only [gr,reduceEqDiff,reduceLT,reduceAdd,reduceMod,Nat.reduceBEq,zaa,zac,zad,zab,h1a,h2a,r2a,h5a];first | done | rfl | (simp;done)) | assumption | rfl)) ?_
  intro k sb ⟨h1b,h2b,r2b,h5b,h6b,hIb⟩
  obtain ⟨hk,hjb⟩:=hIb
  have hun:IntKind.u64.wrap (i:Int) = (i:Int):=zaL (by omega)
  have hun2:IntKind.u64.wrap (k:Int) = (k:Int):=zaL (by omega)
  have hp1:2 ^ i ≤ 2 ^ 5:=Nat.pow_le_pow_right (by decide) (by omega)
  have hp2:2 ^ k ≤ 2 ^ 6:=Nat.pow_le_pow_right (by decide) (by omega)
  have hi6:i ≤ 6:=by omega
  have hsh:zgs .i64 1 (i:Int) = ((2 ^ i:Nat):Int):=zaJ (by omega)
  have hsh2:zgs .i64 1 (k:Int) = ((2 ^ k:Nat):Int):=zaJ (by omega)
  have hw:IntKind.i64.wrap (((2 ^ i:Nat):Int) + ((2 ^ k:Nat):Int)) = ((2 ^ i + 2 ^ k:Nat):Int):=by
   clear hsh hsh2
   generalize 2 ^ i = a at *
   generalize 2 ^ k = b at *
   rw [zat (by omega) (by omega)];omega
  have hpa:k < i→(zdL .i64 (u:Nat) ((2 ^ i + 2 ^ k:Nat):Int) == ((2 ^ i + 2 ^ k:Nat):Int)) = (u.testBit i && u.testBit k):=fun h=>zEm u hu i (by omega) k h
  have hjs:=zuL xs u i k
  simp (maxSteps:=5000000) -dsimp only [↓gp,gq,reduceCtorEq,reduceEqDiff,reduceLT,reduceLeDiff,reduceAdd,reduceMul,reduceSub,Nat.reduceBEq,Int.reduceToNat,Int.reduceLE,Int.reduceLT,Int.reduceNeg,reduceMod,zac,zad,zab,zaa,gT,TK.isInt,TK.agg,Array.toList,h1b,h2b,r2b,h5b,h6b,hun,hun2,hsh,hsh2,hw]
  refine ⟨fun hki=>?_,fun hki=>?_⟩
  ·have hki:k < i:=by omega
   rw [hpa hki]
   have hno:=zzZ (xs:=xs) (s:=u) hki (n:=n)
   generalize (u.testBit i && u.testBit k) = B at *
   refine ⟨fun hb=>zaf (zhO xs _) ?_,fun hb=>?_⟩
   ·simp (maxSteps:=5000000) -dsimp only [↓gp,gq,reduceCtorEq,reduceEqDiff,reduceLT,reduceLeDiff,reduceAdd,reduceMul,reduceSub,Nat.reduceBEq,Int.reduceToNat,Int.reduceLE,Int.reduceLT,Int.reduceNeg,reduceMod,zac,zad,zab,zaa,gT,TK.isInt,TK.agg,Array.toList,h1b,h2b,r2b,h5b,h6b]
    refine ⟨fun hm=>?_,fun hm=>?_⟩
    ·have hm:¬ ((2 ^ i + 2 ^ k:Nat):Int) ∈ xs:=by simpa using hm
     exact hno (by rw [hb,decide_eq_false hm];rfl) hlt
    ·have hm:((2 ^ i + 2 ^ k:Nat):Int) ∈ xs:=by simpa using hm
     exact zag (k + 1) (by refine ⟨?_,?_,?_,?_,?_,⟨by omega,by rw [hjs,hjb,decide_eq_true hm];simp⟩⟩ <;> (first | (simp (maxSteps:=5000000) -dsimp only [gr,reduceEqDiff,reduceLT,reduceAdd,reduceMod,Nat.reduceBEq,zaa,zac,zad,zab,h1b,h2b,r2b,h5b,h6b,zae hki (by omega)];first | done | rfl | (simp;done)) | assumption | rfl)) (by first | omega | (simp only;omega) | (dsimp only;omega) | (show _ < _;simp;omega))
   ·have hb:B = false:=by simpa using hb
    exact zag (k + 1) (by refine ⟨?_,?_,?_,?_,?_,⟨by omega,by rw [hjs,hjb,hb];rfl⟩⟩ <;> (first | (simp (maxSteps:=5000000) -dsimp only [gr,reduceEqDiff,reduceLT,reduceAdd,reduceMod,Nat.reduceBEq,zaa,zac,zad,zab,h1b,h2b,r2b,h5b,h6b,zae hki (by omega)];first | done | rfl | (simp;done)) | assumption | rfl)) (by first | omega | (simp only;omega) | (dsimp only;omega) | (show _ < _;simp;omega))
  ·have hki:k = i:=by omega
   subst hki
   have hjo:zje xs u (k + 1) = true:=by unfold zje at *;rw [List.range_succ,List.all_append,hja];simp [hjb]
   exact zag (k + 1) (by refine ⟨?_,?_,?_,?_,⟨by omega,hjo⟩⟩ <;> (first | (simp (maxSteps:=5000000) -dsimp only [gr,reduceEqDiff,reduceLT,reduceAdd,reduceMod,Nat.reduceBEq,zaa,zac,zad,zab,h1a,h2a,r2a,h5a,h1b,h2b,r2b,h5b,h6b,zae hlt (by omega)];first | done | rfl | (simp;done)) | assumption | rfl)) (by first | omega | (simp only;omega) | (dsimp only;omega) | (show _ < _;simp;omega))
 ·have:i = n:=by omega
  rw [← this,hja]
def fdI (q:Nat→Nat→Bool) (S i:Nat):Int:=match (List.range i).find? (fun v=>S.testBit v && q S v) with | none=>-1 | some v=>(v:Nat)
theorem zzV (q:Nat→Nat→Bool) (S i:Nat) (h:fdI q S i < 0):fdI q S (i + 1) = if (S.testBit i && q S i) = true then (i:Int) else fdI q S i:=by
 unfold fdI at *
 rw [List.range_succ,List.find?_append]
 cases hf:(List.range i).find? (fun v=>S.testBit v && q S v) with
 | some v=>rw [hf] at h;simp only at h;omega
 | none =>
   rw [Option.none_or]
   cases hb:(S.testBit i && q S i) with
   | true=>simp [List.find?_cons,hb]
   | false=>simp [List.find?_cons,hb]
theorem zzW (q:Nat→Nat→Bool) (S:Nat) {i n:Nat} (hi:i ≤ n) (h:¬ fdI q S i < 0):fdI q S n = fdI q S i:=by
 unfold fdI at *
 have e:List.range n = List.range i ++ (List.range (n - i)).map (i + ·):=by rw [← List.range_add];congr 1;omega
 cases hf:(List.range i).find? (fun v=>S.testBit v && q S v) with
 | none=>rw [hf] at h;simp at h
 | some v=>rw [e,List.find?_append,hf];rfl
theorem zzX {q:Nat→Nat→Bool} {S n:Nat} (h:fdI q S n < 0):(List.range n).find? (fun v=>S.testBit v && q S v) = none:=by
 unfold fdI at h
 cases hf:(List.range n).find? (fun v=>S.testBit v && q S v) with
 | none=>rfl
 | some v=>rw [hf] at h;simp only at h;omega
theorem zzY {q:Nat→Nat→Bool} {S n:Nat} (h:¬ fdI q S n < 0):∃ v,(List.range n).find? (fun v=>S.testBit v && q S v) = some v∧fdI q S n = (v:Int)∧v < n∧S.testBit v = true:=by
 unfold fdI at h ⊢
 cases hf:(List.range n).find? (fun v=>S.testBit v && q S v) with
 | none=>rw [hf] at h;simp at h
 | some v =>
   have h2:=List.find?_some hf
   rw [Bool.and_eq_true] at h2
   exact ⟨v,rfl,rfl,List.mem_range.1 (List.mem_of_find?_eq_some hf),h2.1⟩
def chQ (xs:List Int) (n S v:Nat):Bool:=zje xs (nbr xs v &&& S) n
noncomputable def chR (n:Int) (xs:List Int):Bool:=zap n xs && chL n.toNat (chQ xs n.toNat) 6 (2 ^ n.toNat - 1)
theorem zCI:∀ S,S < 64→∀ v,v < 6→S.testBit v = true→S - 2 ^ v = S ^^^ 2 ^ v∧2 ^ v ≤ S:=by decide +kernel
theorem zin (n:Int) (xs:List Int):AC Tryz.prog 36 [.ag [int n,zbj xs]] (.im (bool (chR n xs))):=by
 refine AC.go (rs:=[.tmp 2]) zbg zay Tryz.func36 rfl rfl rfl (by kernel_rfl) fun hl=>?_
 simp (maxSteps:=5000000) -dsimp only [↓gp,gq,reduceCtorEq,reduceEqDiff,reduceLT,reduceLeDiff,reduceAdd,reduceMul,reduceSub,Nat.reduceBEq,Int.reduceToNat,Int.reduceLE,Int.reduceLT,Int.reduceNeg,reduceMod,zac,zad,zab,zaa,gT,TK.isInt,TK.agg,Array.toList]
 refine zaf (zbn n xs) ?_
 simp (maxSteps:=5000000) -dsimp only [↓gp,gq,reduceCtorEq,reduceEqDiff,reduceLT,reduceLeDiff,reduceAdd,reduceMul,reduceSub,Nat.reduceBEq,Int.reduceToNat,Int.reduceLE,Int.reduceLT,Int.reduceNeg,reduceMod,zac,zad,zab,zaa,gT,TK.isInt,TK.agg,Array.toList]
 unfold chR
 refine ⟨fun hg=>?_,fun hg=>?_⟩
 ·have hg:zap n xs = false:=by simpa using hg
  rw [hg];rfl
 ·have hg:zap n xs = true:=by simpa using hg
  have hgp:=zao.1 hg
  obtain ⟨m,rfl,h1,h6,_⟩:=zaS hgp
  rw [hg,Int.toNat_natCast,Bool.true_and]
  have h64:=zam h6
  have hsh:zgs .i64 1 (m:Int) = ((2 ^ m:Nat):Int):=zaJ (by omega)
  have hun:IntKind.u64.wrap (m:Int) = (m:Int):=zaL (by omega)
  have hp0:0 < 2 ^ m:=Nat.pow_pos (by decide)
  have hw:IntKind.i64.wrap (((2 ^ m:Nat):Int) - 1) = ((2 ^ m - 1:Nat):Int):=by rw [zat (by omega) (by omega)];omega
  have hres:chL m (chQ xs m) 6 (2 ^ m - 1) = chL m (chQ xs m) 6 (2 ^ m - 1):=rfl
  generalize hR:chL m (chQ xs m) 6 (2 ^ m - 1) = R at hres ⊢
  simp (maxSteps:=5000000) -dsimp only [↓gp,gq,reduceCtorEq,reduceEqDiff,reduceLT,reduceLeDiff,reduceAdd,reduceMul,reduceSub,Nat.reduceBEq,Int.reduceToNat,Int.reduceLE,Int.reduceLT,Int.reduceNeg,reduceMod,zac,zad,zab,zaa,gT,TK.isInt,TK.agg,Array.toList,hsh,hun,hw]
  refine zaq (fun (za:Nat × Nat) s=>match za with | (k,S)=>s.sl 1 = .ref 1 1 0∧s.rw 1 = ⟨1,.box 36 [int m,zbj xs]⟩∧s.sl 3 = int S∧(S < 2 ^ m∧zaD S ≤ k∧chL m (chQ xs m) k S = R)) (fun (k,S)=>k) ((6,2 ^ m - 1)) (by refine ⟨?_,?_,?_,⟨by omega,zcp (by omega),hR⟩⟩ <;> (first | (simp (maxSteps:=5000000) -dsimp only [gr,reduceEqDiff,reduceLT,reduceAdd,reduceMod,Nat.reduceBEq,zaa,zac,zad,zab,hsh,hw];first | done | rfl | (simp;done)) | assumption | rfl)) ?_
  intro (k,S) sa ⟨h1a,r1a,h3a,hIa⟩
  obtain ⟨hS,hpk,hch⟩:=hIa
  have hS6:S < 64:=by omega
  simp (maxSteps:=5000000) -dsimp only [↓gp,gq,reduceCtorEq,reduceEqDiff,reduceLT,reduceLeDiff,reduceAdd,reduceMul,reduceSub,Nat.reduceBEq,Int.reduceToNat,Int.reduceLE,Int.reduceLT,Int.reduceNeg,reduceMod,zac,zad,zab,zaa,gT,TK.isInt,TK.agg,Array.toList,h1a,r1a,h3a]
  refine ⟨fun hpos=>?_,fun hpos=>?_⟩
  ·have hS0:S ≠ 0:=by omega
   obtain ⟨k',rfl⟩:∃ k',k = k' + 1:=⟨k - 1,by
    have:zaD S ≠ 0:=fun e=>hS0 (zed S hS6 e)
    omega⟩
   rw [chL,if_neg hS0] at hch
   have hm1:int (-1) = int (fdI (chQ xs m) S 0):=rfl
   refine zaq (fun (i:Nat) s=>s.sl 1 = .ref 1 1 0∧s.rw 1 = ⟨1,.box 36 [int m,zbj xs]⟩∧s.sl 3 = int S∧s.sl 4 = int (fdI (chQ xs m) S i)∧s.sl 5 = int i∧(i ≤ m)) (fun i=>m - i) (0) (by refine ⟨?_,?_,?_,?_,?_,Nat.zero_le _⟩ <;> (first | (simp (maxSteps:=5000000) -dsimp only [gr,reduceEqDiff,reduceLT,reduceAdd,reduceMod,Nat.reduceBEq,zaa,zac,zad,zab,h1a,r1a,h3a,hm1];first | done | rfl | (simp;done)) | assumption | rfl)) ?_
   intro i sb ⟨h1b,r1b,h3b,h4b,h5b,hIb⟩
   have hun2:IntKind.u64.wrap (i:Int) = (i:Int):=zaL (by omega)
   have hfs:=zzV (chQ xs m) S i
   have hfo:=zzW (chQ xs m) S hIb
   have hend:∀ F,fdI (chQ xs m) S m = F→(F < 0→false = R)∧(¬ F < 0→∃ v:Nat,F = (v:Int)∧v < m∧S ^^^ 2 ^ v < 2 ^ m∧zaD (S ^^^ 2 ^ v) ≤ k'∧chL m (chQ xs m) k' (S ^^^ 2 ^ v) = R∧IntKind.i64.wrap ((S:Int) - zgs .i64 1 (v:Int)) = ((S ^^^ 2 ^ v:Nat):Int)∧IntKind.u64.wrap (v:Int) = (v:Int)):=fun F hF=>by
    subst hF
    refine ⟨fun h=>?_,fun h=>?_⟩
    ·rw [zzX h] at hch;exact hch
    ·obtain ⟨v,e1,e2,e3,e4⟩:=zzY h
     rw [e1] at hch
     obtain ⟨x1,_⟩:=zkA hS e4
     have x3:=zut hS6 e4
     obtain ⟨x4,x5⟩:=zCI S hS6 v (by omega) e4
     have x6:zgs .i64 1 (v:Int) = ((2 ^ v:Nat):Int):=zaJ (by omega)
     refine ⟨v,e2,e3,x1,by omega,hch,?_,zaL (by omega)⟩
     rw [x6,← x4]
     generalize 2 ^ v = b at *
     rw [zat (by omega) (by omega)];omega
   by_cases him:i < m
   ·have hb:(zdL .i64 (zne .i64 (S:Int) (i:Int)) 1 == 1) = S.testBit i:=zfy (by omega) (by omega)
    have hnl:=zqd xs i
    have hand:zdL .i64 ((nbr xs i:Nat):Int) (S:Int) = ((nbr xs i &&& S:Nat):Int):=zbt (by omega) (by omega)
    simp (maxSteps:=5000000) -dsimp only [↓gp,gq,reduceCtorEq,reduceEqDiff,reduceLT,reduceLeDiff,reduceAdd,reduceMul,reduceSub,Nat.reduceBEq,Int.reduceToNat,Int.reduceLE,Int.reduceLT,Int.reduceNeg,reduceMod,zac,zad,zab,zaa,gT,TK.isInt,TK.agg,Array.toList,h1b,r1b,h3b,h4b,h5b,hun2,hb]
    refine ⟨fun _=>⟨fun hf=>⟨by kernel_rfl,fun hbit=>zaf (zdD m xs hgp i him) ?_,fun hbit=>?_⟩,fun hf=>?_⟩,fun h=>absurd (by omega) h⟩
    ·simp (maxSteps:=5000000) -dsimp only [↓gp,gq,reduceCtorEq,reduceEqDiff,reduceLT,reduceLeDiff,reduceAdd,reduceMul,reduceSub,Nat.reduceBEq,Int.reduceToNat,Int.reduceLE,Int.reduceLT,Int.reduceNeg,reduceMod,zac,zad,zab,zaa,gT,TK.isInt,TK.agg,Array.toList,h1b,r1b,h3b,h4b,h5b,hun2,hb,hand]
     refine zaf (zio m h6 xs (nbr xs i &&& S) (Nat.lt_of_le_of_lt Nat.and_le_left hnl)) ?_
     have hq:zje xs (nbr xs i &&& S) m = chQ xs m S i:=rfl
     rw [hq]
     simp (maxSteps:=5000000) -dsimp only [↓gp,gq,reduceCtorEq,reduceEqDiff,reduceLT,reduceLeDiff,reduceAdd,reduceMul,reduceSub,Nat.reduceBEq,Int.reduceToNat,Int.reduceLE,Int.reduceLT,Int.reduceNeg,reduceMod,zac,zad,zab,zaa,gT,TK.isInt,TK.agg,Array.toList,h1b,r1b,h3b,h4b,h5b,hun2,hb,hand]
     have hfs:=hfs hf
     refine ⟨fun hq=>?_,fun hq=>?_⟩
     ·rw [hbit,hq,if_pos (show (true && true) = true from rfl)] at hfs
      exact zag (i + 1) (by refine ⟨?_,?_,?_,?_,?_,by omega⟩ <;> (first | (simp (maxSteps:=5000000) -dsimp only [gr,reduceEqDiff,reduceLT,reduceAdd,reduceMod,Nat.reduceBEq,zaa,zac,zad,zab,h1b,r1b,h3b,h4b,h5b,hfs,zae him (by omega)];first | done | rfl | (simp;done)) | assumption | rfl)) (by first | omega | (simp only;omega) | (dsimp only;omega) | (show _ < _;simp;omega))
     ·rw [hq,Bool.and_false,if_neg (by decide)] at hfs
      exact zag (i + 1) (by refine ⟨?_,?_,?_,?_,?_,by omega⟩ <;> (first | (simp (maxSteps:=5000000) -dsimp only [gr,reduceEqDiff,reduceLT,reduceAdd,reduceMod,Nat.reduceBEq,zaa,zac,zad,zab,h1b,r1b,h3b,h4b,h5b,hfs,zae him (by omega)];first | done | rfl | (simp;done)) | assumption | rfl)) (by first | omega | (simp only;omega) | (dsimp only;omega) | (show _ < _;simp;omega))
    ·have hfs:=hfs hf
     rw [show S.testBit i = false from by simpa using hbit,Bool.false_and,if_neg (by decide)] at hfs
     exact zag (i + 1) (by refine ⟨?_,?_,?_,?_,?_,by omega⟩ <;> (first | (simp (maxSteps:=5000000) -dsimp only [gr,reduceEqDiff,reduceLT,reduceAdd,reduceMod,Nat.reduceBEq,zaa,zac,zad,zab,h1b,r1b,h3b,h4b,h5b,hfs,zae him (by omega)];first | done | rfl | (simp;done)) | assumption | rfl)) (by first | omega | (simp only;omega) | (dsimp only;omega) | (show _ < _;simp;omega))
    ·have hF:=hfo hf
     obtain ⟨v,e2,e3,e4,e5,e6,e7,e8⟩:=(hend _ hF).2 hf
     exact ⟨fun h=>absurd h hf,fun _=>⟨by rw [e2,e8];omega,zag ((k',S ^^^ 2 ^ v)) (by refine ⟨?_,?_,?_,⟨e4,e5,e6⟩⟩ <;> (first | (simp (maxSteps:=5000000) -dsimp only [gr,reduceEqDiff,reduceLT,reduceAdd,reduceMod,Nat.reduceBEq,zaa,zac,zad,zab,h1a,r1a,h3a,h1b,r1b,h3b,h4b,h5b,e2,e7,e8];first | done | rfl | (simp;done)) | assumption | rfl)) (by first | omega | (simp only;omega) | (dsimp only;omega) | (show _ < _;simp;omega))⟩⟩
   ·have hF:=hend _ (show fdI (chQ xs m) S m = fdI (chQ xs m) S i by rw [show i = m by omega])
    simp (maxSteps:=5000000) -dsimp only [↓gp,gq,reduceCtorEq,reduceEqDiff,reduceLT,reduceLeDiff,reduceAdd,reduceMul,reduceSub,Nat.reduceBEq,Int.reduceToNat,Int.reduceLE,Int.reduceLT,Int.reduceNeg,reduceMod,zac,zad,zab,zaa,gT,TK.isInt,TK.agg,Array.toList,h1b,r1b,h3b,h4b,h5b]
    refine ⟨fun h=>absurd h (by omega),fun _=>⟨fun hf=>(hF.1 hf).symm,fun hf=>?_⟩⟩
    obtain ⟨v,e2,e3,e4,e5,e6,e7,e8⟩:=hF.2 hf
    exact ⟨by rw [e2,e8];omega,zag ((k',S ^^^ 2 ^ v)) (by refine ⟨?_,?_,?_,⟨e4,e5,e6⟩⟩ <;> (first | (simp (maxSteps:=5000000) -dsimp only [gr,reduceEqDiff,reduceLT,reduceAdd,reduceMod,Nat.reduceBEq,zaa,zac,zad,zab,h1a,r1a,h3a,h1b,r1b,h3b,h4b,h5b,e2,e7,e8];first | done | rfl | (simp;done)) | assumption | rfl)) (by first | omega | (simp only;omega) | (dsimp only;omega) | (show _ < _;simp;omega))⟩
  ·have:S = 0:=by omega
   rw [← hch,this]
   cases k <;> rfl
def okS (xs:List Int):Prop:=∀ x ∈ xs,0 ≤ x∧x < 64
theorem zfi {xs:List Int} (h:okS xs) {k:Nat} (hk:k < xs.length):0 ≤ xs.getD k 0∧xs.getD k 0 < 64:=h _ (zax 0 hk)
theorem zrO {n:Int} {xs:List Int} (h:zef n xs = true):okS xs:=fun x hx=>by
 obtain ⟨i,hi,rfl⟩:=zbB 0 hx
 exact zcm ((zdE.1 h).2.2 i hi).1
theorem zqy {x:Int} (hx:0 ≤ x∧x < 64) {s:Nat} (hs:s < 64):(zdL .i64 x (s:Int) == (s:Int)) = (x.toNat &&& s == s):=by
 have e:x = ((x.toNat:Nat):Int):=by omega
 rw [e,zbt (by omega) (by omega)]
 have:((x.toNat:Nat):Int).toNat = x.toNat:=by omega
 rw [this]
 cases h:(x.toNat &&& s == s) with
 | true=>rw [beq_iff_eq] at h;rw [h];simp
 | false =>
   have h:=beq_eq_false_iff_ne.1 h
   rw [beq_eq_false_iff_ne]
   exact fun e=>h (by omega)
theorem zii (n:Int) (xs:List Int) (u:Nat) (hx:okS xs) (hs:u < 64):AC Tryz.prog 183 [.ag [int n,zbj xs],int u] (.im (bool (zaZ xs u))):=by
 refine AC.go (rs:=[.tmp 4]) zbg zay Tryz.func183 rfl rfl rfl (by kernel_rfl) fun hl=>?_
 simp only [zbk,zbD,and_true,zcf,zdW,zcO,zeh,true_and] at hl
 simp (maxSteps:=5000000) -dsimp only [↓gp,gq,reduceCtorEq,reduceEqDiff,reduceLT,reduceLeDiff,reduceAdd,reduceMul,reduceSub,Nat.reduceBEq,Int.reduceToNat,Int.reduceLE,Int.reduceLT,Int.reduceNeg,reduceMod,zac,zad,zab,zaa,gT,TK.isInt,TK.agg,Array.toList]
 refine zaq (fun (k:Nat) s=>s.sl 1 = int u∧s.sl 2 = .ref 2 1 0∧s.rw 2 = ⟨1,.box 27 [int n,zbj xs]⟩∧s.sl 5 = int k∧(k ≤ xs.length∧∀ i,i < k→((xs.getD i 0).toNat &&& u == u) = false)) (fun k=>xs.length - k) (0) (by refine ⟨?_,?_,?_,?_,by simp⟩ <;> (first | (simp (maxSteps:=5000000) -dsimp only [gr,reduceEqDiff,reduceLT,reduceAdd,reduceMod,Nat.reduceBEq,zaa,zac,zad,zab];first | done | rfl | (simp;done)) | assumption | rfl)) ?_
 intro k sa ⟨h1a,h2a,r2a,h5a,hIa⟩
 obtain ⟨hk,hall⟩:=hIa
 simp (maxSteps:=5000000) -dsimp only [↓gp,gq,reduceCtorEq,reduceEqDiff,reduceLT,reduceLeDiff,reduceAdd,reduceMul,reduceSub,Nat.reduceBEq,Int.reduceToNat,Int.reduceLE,Int.reduceLT,Int.reduceNeg,reduceMod,zac,zad,zab,zaa,gT,TK.isInt,TK.agg,Array.toList,h1a,h2a,r2a,h5a]
 refine ⟨fun h=>⟨h,h,fun he=>?_,fun he=>zag (k + 1) ⟨(by (first | (simp (maxSteps:=5000000) -dsimp only [gr,reduceEqDiff,reduceLT,reduceAdd,reduceMod,Nat.reduceBEq,zaa,zac,zad,zab,h1a,h2a,r2a,h5a,zae h hl];first | done | rfl | (simp;done)) | assumption | rfl)),(by (first | (simp (maxSteps:=5000000) -dsimp only [gr,reduceEqDiff,reduceLT,reduceAdd,reduceMod,Nat.reduceBEq,zaa,zac,zad,zab,h1a,h2a,r2a,h5a,zae h hl];first | done | rfl | (simp;done)) | assumption | rfl)),(by (first | (simp (maxSteps:=5000000) -dsimp only [gr,reduceEqDiff,reduceLT,reduceAdd,reduceMod,Nat.reduceBEq,zaa,zac,zad,zab,h1a,h2a,r2a,h5a,zae h hl];first | done | rfl | (simp;done)) | assumption | rfl)),(by (first | (simp (maxSteps:=5000000) -dsimp only [gr,reduceEqDiff,reduceLT,reduceAdd,reduceMod,Nat.reduceBEq,zaa,zac,zad,zab,h1a,h2a,r2a,h5a,zae h hl];first | done | rfl | (simp;done)) | assumption | rfl)),⟨by omega,fun i hi=>?_⟩⟩ (by first | omega | (simp only;omega) | (dsimp only;omega) | (show _ < _;simp;omega))⟩,fun h=>?_⟩
 ·rw [zqy (zfi hx h) hs] at he
  exact zdu.2 ⟨_,zax 0 h,by simpa using he⟩
 ·rw [zqy (zfi hx h) hs] at he
  rcases Nat.lt_succ_iff_lt_or_eq.1 hi with hi | rfl
  ·exact hall i hi
  ·exact he
 ·cases hf:zaZ xs u with
  | false=>rfl
  | true =>
    obtain ⟨x,hx',hx2⟩:=zdu.1 hf
    obtain ⟨i,hi,rfl⟩:=zbB 0 hx'
    have:=hall i (by omega)
    rw [hx2] at this
    simp at this
noncomputable def zca (n:Int) (xs:List Int) (s:Nat):Bool:=zef n xs && zaZ xs s
theorem znC (l:List Nat) (s:Nat):inF (ofN l) s = decide (s ∈ l):=by
 unfold inF ofN
 refine decide_eq_decide.2 ?_
 simp only [List.mem_map]
 exact ⟨fun ⟨a,h1,h2⟩=>by have:a = s:=by omega
                          exact this ▸ h1,fun h=>⟨s,h,rfl⟩⟩
theorem zqz {l:List Nat} (h:∀ s ∈ l,s < 64):∀ x ∈ ofN l,0 ≤ x∧x < 64:=fun x hx=>by
 obtain ⟨s,hs,rfl⟩:=List.mem_map.1 hx
 have:=h s hs
 omega
theorem zf3 (n:Int) (xs:List Int):AC Tryz.prog 182 [.ag [int n,zbj xs]] (.fr 3 1 (iL (ofN (zda (zca n xs))))):=by
 refine AC.go (rs:=[.tmp 2]) zbg zay Tryz.func182 rfl rfl rfl (by kernel_rfl) fun hl=>?_
 simp (maxSteps:=5000000) -dsimp only [↓gp,gq,reduceCtorEq,reduceEqDiff,reduceLT,reduceLeDiff,reduceAdd,reduceMul,reduceSub,Nat.reduceBEq,Int.reduceToNat,Int.reduceLE,Int.reduceLT,Int.reduceNeg,reduceMod,zac,zad,zab,zaa,gT,TK.isInt,TK.agg,Array.toList]
 have fin:∀ m,m = 64→zda (inF (ofN ((List.range m).filter (zca n xs)))) = zda (zca n xs):=fun m hm=>by
  refine zhA fun s hs=>?_
  rw [znC,hm]
  cases h:zca n xs s <;> simp [h,hs]
 have hmem:∀ m,m ≤ 64→∀ s ∈ (List.range m).filter (zca n xs),s < 64:=fun m hm s hs=>by
  have:=List.mem_range.1 (List.mem_filter.1 hs).1;omega
 refine zaq (fun (za:Nat × Nat) s=>match za with | (m,v)=>s.sl 1 = .ref 1 1 0∧s.rw 1 = ⟨1,.box 27 [int n,zbj xs]⟩∧s.sl 3 = .own 5 v∧s.rw 5 = ⟨v,.sli 3 1 false (iL (ofN ((List.range m).filter (zca n xs))))⟩∧s.sl 4 = int m∧(m ≤ 64)) (fun (m,v)=>64 - m) ((0,1)) (by refine ⟨?_,?_,?_,?_,?_,by simp⟩ <;> (first | (simp (maxSteps:=5000000) -dsimp only [gr,reduceEqDiff,reduceLT,reduceAdd,reduceMod,Nat.reduceBEq,zaa,zac,zad,zab];first | done | rfl | (simp;done)) | assumption | rfl)) ?_
 intro (m,v) sa ⟨h1a,r1a,h3a,r5a,h4a,hIa⟩
 have hflen:((List.range m).filter (zca n xs)).length ≤ 64:=by
  have:=List.length_filter_le (zca n xs) (List.range m);rw [List.length_range] at this;omega
 simp (maxSteps:=5000000) -dsimp only [↓gp,gq,reduceCtorEq,reduceEqDiff,reduceLT,reduceLeDiff,reduceAdd,reduceMul,reduceSub,Nat.reduceBEq,Int.reduceToNat,Int.reduceLE,Int.reduceLT,Int.reduceNeg,reduceMod,zac,zad,zab,zaa,gT,TK.isInt,TK.agg,Array.toList,h1a,r1a,h3a,r5a,h4a]
 refine ⟨fun h=>zaf (zbi n xs) ?_,fun h=>?_⟩
 ·simp (maxSteps:=5000000) -dsimp only [↓gp,gq,reduceCtorEq,reduceEqDiff,reduceLT,reduceLeDiff,reduceAdd,reduceMul,reduceSub,Nat.reduceBEq,Int.reduceToNat,Int.reduceLE,Int.reduceLT,Int.reduceNeg,reduceMod,zac,zad,zab,zaa,gT,TK.isInt,TK.agg,Array.toList,h1a,r1a,h3a,r5a,h4a]
  have hm:m < 64:=by omega
  refine ⟨fun hc=>zaf (zii n xs m (zrO hc) hm) ?_,fun hc=>zaf (zd0 _ (zqz (hmem m hIa))) ?_⟩
  ·simp (maxSteps:=5000000) -dsimp only [↓gp,gq,reduceCtorEq,reduceEqDiff,reduceLT,reduceLeDiff,reduceAdd,reduceMul,reduceSub,Nat.reduceBEq,Int.reduceToNat,Int.reduceLE,Int.reduceLT,Int.reduceNeg,reduceMod,zac,zad,zab,zaa,gT,TK.isInt,TK.agg,Array.toList,h1a,r1a,h3a,r5a,h4a,zaj]
   refine ⟨fun hf=>?_,fun hf=>?_⟩
   ·have e:(List.range (m + 1)).filter (zca n xs) = (List.range m).filter (zca n xs) ++ [m]:=by
     rw [List.range_succ,List.filter_append]
     simp [zca,hc,hf]
    refine ⟨by omega,?_⟩
    exact zag ((m + 1,v + 1)) (by refine ⟨?_,?_,?_,?_,?_,by dsimp only;omega⟩ <;> (first | (simp (maxSteps:=5000000) -dsimp only [gr,reduceEqDiff,reduceLT,reduceAdd,reduceMod,Nat.reduceBEq,zaa,zac,zad,zab,h1a,r1a,h3a,r5a,h4a,zae hm (by omega),e,zaR,zcK];first | done | rfl | (simp;done)) | assumption | rfl)) (by first | omega | (simp only;omega) | (dsimp only;omega) | (show _ < _;simp;omega))
   ·have e:(List.range (m + 1)).filter (zca n xs) = (List.range m).filter (zca n xs):=by
     rw [List.range_succ,List.filter_append]
     simp [zca,hc,hf]
    exact zag ((m + 1,v)) (by refine ⟨?_,?_,?_,?_,?_,by dsimp only;omega⟩ <;> (first | (simp (maxSteps:=5000000) -dsimp only [gr,reduceEqDiff,reduceLT,reduceAdd,reduceMod,Nat.reduceBEq,zaa,zac,zad,zab,h1a,r1a,h3a,r5a,h4a,zae hm (by omega),e];first | done | rfl | (simp;done)) | assumption | rfl)) (by first | omega | (simp only;omega) | (dsimp only;omega) | (show _ < _;simp;omega))
  ·simp (maxSteps:=5000000) -dsimp only [↓gp,gq,reduceCtorEq,reduceEqDiff,reduceLT,reduceLeDiff,reduceAdd,reduceMul,reduceSub,Nat.reduceBEq,Int.reduceToNat,Int.reduceLE,Int.reduceLT,Int.reduceNeg,reduceMod,zac,zad,zab,zaa,gT,TK.isInt,TK.agg,Array.toList,h1a,r1a,h3a,r5a,h4a]
   have e1:(List.range m).filter (zca n xs) = []:=by
    rw [List.filter_eq_nil_iff];intro s _;simp [zca,hc]
   have e2:zda (zca n xs) = zda (inF (ofN [])):=zhA fun s _=>by rw [znC];simp [zca,hc]
   rw [e1,e2]
 ·have:m = 64:=by omega
  refine zaf (zd0 _ (zqz (hmem m hIa))) ?_
  simp (maxSteps:=5000000) -dsimp only [↓gp,gq,reduceCtorEq,reduceEqDiff,reduceLT,reduceLeDiff,reduceAdd,reduceMul,reduceSub,Nat.reduceBEq,Int.reduceToNat,Int.reduceLE,Int.reduceLT,Int.reduceNeg,reduceMod,zac,zad,zab,zaa,gT,TK.isInt,TK.agg,Array.toList,h1a,r1a,h3a,r5a,h4a]
  rw [fin m this]
theorem zmF {f:Nat→Bool} {k:Nat} (h:k < (zda f).length):(zda f).getD k 0 < 64:=(zcQ.1 (zax 0 h)).1
theorem zhd (n:Int) (xs:List Int) (k:Int):AC Tryz.prog 115 [.ag [int n,zbj xs],int k] (.fr 3 1 (iL (ofN ((zda (zca n xs)).filter fun s=>(zaD s:Int) == k)))):=by
 refine AC.go (rs:=[.tmp 4]) zbg zay Tryz.func115 rfl rfl rfl (by kernel_rfl) fun hl=>?_
 simp (maxSteps:=5000000) -dsimp only [↓gp,gq,reduceCtorEq,reduceEqDiff,reduceLT,reduceLeDiff,reduceAdd,reduceMul,reduceSub,Nat.reduceBEq,Int.reduceToNat,Int.reduceLE,Int.reduceLT,Int.reduceNeg,reduceMod,zac,zad,zab,zaa,gT,TK.isInt,TK.agg,Array.toList]
 refine zaf (zf3 n xs) ?_
 simp (maxSteps:=5000000) -dsimp only [↓gp,gq,reduceCtorEq,reduceEqDiff,reduceLT,reduceLeDiff,reduceAdd,reduceMul,reduceSub,Nat.reduceBEq,Int.reduceToNat,Int.reduceLE,Int.reduceLT,Int.reduceNeg,reduceMod,zac,zad,zab,zaa,gT,TK.isInt,TK.agg,Array.toList]
 have hfull:=zg5 (zca n xs)
 have hmem:∀ i,i < (zda (zca n xs)).length→(zda (zca n xs)).getD i 0 < 64:=fun i h=>zmF h
 generalize zda (zca n xs) = all at *
 refine zaq (fun (za:Nat × Nat × Nat) s=>match za with | (i,v,u)=>s.sl 1 = int k∧s.sl 5 = .own 8 v∧s.rw 8 = ⟨v,.sli 3 1 false (iL (ofN ((all.take i).filter fun s=>(zaD s:Int) == k)))⟩∧s.sl 6 = .own 10 u∧s.rw 10 = ⟨u,.sli 3 1 false (iL (ofN all))⟩∧s.sl 7 = int i∧(i ≤ all.length)) (fun (i,v,u)=>all.length - i) ((0,1,1)) (by refine ⟨?_,?_,?_,?_,?_,?_,by simp⟩ <;> (first | (simp (maxSteps:=5000000) -dsimp only [gr,reduceEqDiff,reduceLT,reduceAdd,reduceMod,Nat.reduceBEq,zaa,zac,zad,zab];first | done | rfl | (simp;done)) | assumption | rfl)) ?_
 intro (i,v,u) sa ⟨h1a,h5a,r8a,h6a,r10a,h7a,hIa⟩
 have hfl:((all.take i).filter fun s=>(zaD s:Int) == k).length ≤ i:=by
  have:=List.length_filter_le (fun s=>(zaD s:Int) == k) (all.take i);rw [List.length_take] at this;omega
 simp (maxSteps:=5000000) -dsimp only [↓gp,gq,reduceCtorEq,reduceEqDiff,reduceLT,reduceLeDiff,reduceAdd,reduceMul,reduceSub,Nat.reduceBEq,Int.reduceToNat,Int.reduceLE,Int.reduceLT,Int.reduceNeg,reduceMod,zac,zad,zab,zaa,gT,TK.isInt,TK.agg,Array.toList,h1a,h5a,r8a,h6a,r10a,h7a,zaj]
 refine ⟨fun h=>?_,fun h=>?_⟩
 ·have hi:=hmem i h
  have hge:(ofN all).getD i 0 = ((all.getD i 0:Nat):Int):=zaM h
  rw [hge]
  refine ⟨h,h,zaf (zaP _ (by omega)) ?_⟩
  simp (maxSteps:=5000000) -dsimp only [↓gp,gq,reduceCtorEq,reduceEqDiff,reduceLT,reduceLeDiff,reduceAdd,reduceMul,reduceSub,Nat.reduceBEq,Int.reduceToNat,Int.reduceLE,Int.reduceLT,Int.reduceNeg,reduceMod,zac,zad,zab,zaa,gT,TK.isInt,TK.agg,Array.toList,h1a,h5a,r8a,h6a,r10a,h7a,zaj,hge]
  refine ⟨fun hp=>⟨h,h,by omega,?_⟩,fun hp=>?_⟩
  ·have e:(all.take (i + 1)).filter (fun s=>(zaD s:Int) == k) = (all.take i).filter (fun s=>(zaD s:Int) == k) ++ [all.getD i 0]:=zi3 h hp
   exact zag ((i + 1,v + 1,u)) (by refine ⟨?_,?_,?_,?_,?_,?_,by dsimp only;omega⟩ <;> (first | (simp (maxSteps:=5000000) -dsimp only [gr,reduceEqDiff,reduceLT,reduceAdd,reduceMod,Nat.reduceBEq,zaa,zac,zad,zab,h1a,h5a,r8a,h6a,r10a,h7a,zae h (by omega),e,zaR,zcK,hge];first | done | rfl | (simp;done)) | assumption | rfl)) (by first | omega | (simp only;omega) | (dsimp only;omega) | (show _ < _;simp;omega))
  ·have e:(all.take (i + 1)).filter (fun s=>(zaD s:Int) == k) = (all.take i).filter (fun s=>(zaD s:Int) == k):=zno h hp
   exact zag ((i + 1,v,u)) (by refine ⟨?_,?_,?_,?_,?_,?_,by dsimp only;omega⟩ <;> (first | (simp (maxSteps:=5000000) -dsimp only [gr,reduceEqDiff,reduceLT,reduceAdd,reduceMod,Nat.reduceBEq,zaa,zac,zad,zab,h1a,h5a,r8a,h6a,r10a,h7a,zae h (by omega),e];first | done | rfl | (simp;done)) | assumption | rfl)) (by first | omega | (simp only;omega) | (dsimp only;omega) | (show _ < _;simp;omega))
 ·have:i = all.length:=by omega
  rw [this,List.take_length]
theorem zrP (f:Nat→Bool) (k:Nat):(zda f).filter (fun s=>(zaD s:Int) == (k:Int)) = za8 f k 64:=by
 rw [← zgi f k]
 refine List.filter_congr fun s _=>?_
 cases h:(zaD s == k) with
 | true=>have:=beq_iff_eq.1 h;simp [this]
 | false=>have:=beq_eq_false_iff_ne.1 h;rw [beq_eq_false_iff_ne];exact fun e=>this (by omega)
theorem zcr (n:Int) (xs:List Int) (k:Nat):AC Tryz.prog 115 [.ag [int n,zbj xs],int k] (.fr 3 1 (iL (ofN (za8 (zca n xs) k 64)))):=by
 have:=zhd n xs k
 rwa [zrP] at this
theorem zfG (w:Nat→Bool) {G:Nat} (hF:G < 2 ^ 64) (h:∀ s,s < 64→G.testBit s = w s):G = zaW w 64:=by
 refine Nat.eq_of_testBit_eq fun s=>?_
 rw [zci]
 by_cases hs:s < 64
 ·rw [h s hs];simp [hs]
 ·have:G.testBit s = false:=Nat.testBit_lt_two_pow (Nat.lt_of_lt_of_le hF (Nat.pow_le_pow_right (by omega) (by omega)))
  simp [this,hs]
theorem zdi (w:Nat→Bool) {s:Nat} (h:s < 64):(zaW w 64).testBit s = w s:=by rw [zci];simp [h]
theorem zfH {w w':Nat→Bool} (h:∀ s,s < 64→w s = w' s):zaW w 64 = zaW w' 64 :=
 zfG w' (zb9 w 64) fun s hs=>by rw [zdi w hs,h s hs]
theorem zDK (w w':Nat→Bool):zaW w 64 ||| zaW w' 64 = zaW (fun s=>w s || w' s) 64 :=
 zfG _ (Nat.or_lt_two_pow (zb9 w 64) (zb9 w' 64)) fun s hs=>by rw [Nat.testBit_or,zdi w hs,zdi w' hs]
theorem zvJ (w:Nat→Bool) {t:Nat} (ht:t < 64):zaW w 64 ||| 2 ^ t = zaW (fun s=>w s || s == t) 64 :=
 zfG _ (Nat.or_lt_two_pow (zb9 w 64) (Nat.pow_lt_pow_right (by omega) ht)) fun s hs=>by
  rw [Nat.testBit_or,zdi w hs,Nat.testBit_two_pow]
  congr 1
  by_cases e:t = s
  ·simp [e]
  ·simp [e];exact fun h=>e h.symm
theorem zqw:zaW (fun _=>false) 64 = 0:=(zfG (G:=0) (fun _=>false) (by omega) (fun s _=>by simp)).symm
def zqx (u:Nat) (t:Nat):Bool:=u &&& t == t
theorem zgn (u:Nat) (hu:u < 64):AC Tryz.prog 212 [int u] (.im (u64 (zaW (zqx u) 64:Nat))):=by
 refine AC.go (rs:=[.tmp 2]) zbg zay Tryz.func212 rfl rfl rfl (by kernel_rfl) fun hl=>?_
 simp (maxSteps:=5000000) -dsimp only [↓gp,gq,reduceCtorEq,reduceEqDiff,reduceLT,reduceLeDiff,reduceAdd,reduceMul,reduceSub,Nat.reduceBEq,Int.reduceToNat,Int.reduceLE,Int.reduceLT,Int.reduceNeg,reduceMod,zac,zad,zab,zaa,gT,TK.isInt,TK.agg,Array.toList]
 have hinit:zaW (fun v=>zqx u v && decide (u < v)) 64 = 0:=by
  rw [← zqw]
  refine zfH fun v hv=>?_
  cases h:(zqx u v && decide (u < v)) with
  | false=>rfl
  | true =>
    simp [zqx] at h
    have:u &&& v ≤ u:=Nat.and_le_left
    omega
 refine zaq (fun (t:Nat) s=>s.sl 0 = int u∧s.sl 3 = u64 (zaW (fun v=>zqx u v && decide (t < v)) 64:Nat)∧s.sl 4 = int t∧(t ≤ u∧u &&& t = t)) (fun t=>t) (u) (by refine ⟨?_,?_,?_,⟨Nat.le_refl _,Nat.and_self u⟩⟩ <;> (first | (simp (maxSteps:=5000000) -dsimp only [gr,reduceEqDiff,reduceLT,reduceAdd,reduceMod,Nat.reduceBEq,zaa,zac,zad,zab,hinit];first | done | rfl | (simp;done)) | assumption | rfl)) ?_
 intro t sa ⟨h0a,h3a,h4a,hIa⟩
 obtain ⟨htu,hts⟩:=hIa
 have hlt:=zb9 (fun v=>zqx u v && decide (t < v)) 64
 have hcv:IntKind.u64.wrap (t:Int) = (t:Int):=zaL (by omega)
 have h2t:(2:Nat) ^ t < 18446744073709551616:=by
  have:(2:Nat) ^ t < 2 ^ 64:=Nat.pow_lt_pow_right (by omega) (by omega)
  omega
 have hor:ior .u64 (zaW (fun v=>zqx u v && decide (t < v)) 64:Nat) (zgs .u64 1 (t:Int)) = ((zaW (fun v=>zqx u v && decide (t ≤ v)) 64:Nat):Int):=by
  rw [zyB (by omega),zAA (by omega) h2t,zvJ _ (by omega)]
  congr 1
  refine zfH fun v hv=>?_
  by_cases e:v = t
  ·subst e;simp [zqx,hts]
  ·have e1:decide (t < v) = decide (t ≤ v):=decide_eq_decide.2 (by omega)
   simp [e,e1]
 simp (maxSteps:=5000000) -dsimp only [↓gp,gq,reduceCtorEq,reduceEqDiff,reduceLT,reduceLeDiff,reduceAdd,reduceMul,reduceSub,Nat.reduceBEq,Int.reduceToNat,Int.reduceLE,Int.reduceLT,Int.reduceNeg,reduceMod,zac,zad,zab,zaa,gT,TK.isInt,TK.agg,Array.toList,h0a,h3a,h4a,hcv,hor]
 refine ⟨fun h0=>?_,fun h0=>?_⟩
 ·have:t = 0:=by simp at h0;omega
  subst this
  simp
 ·have h0:¬ t = 0:=by
   intro e;subst e;simp at h0
  have hw:IntKind.i64.wrap ((t:Int) - 1) = ((t - 1:Nat):Int):=by rw [zat (by omega) (by omega)];omega
  have hand:=zbt (a:=t - 1) (b:=u) (by omega) (by omega)
  have hle:(t - 1) &&& u ≤ t - 1:=Nat.and_le_left
  have hnext:zaW (fun v=>zqx u v && decide ((t - 1) &&& u < v)) 64 = zaW (fun v=>zqx u v && decide (t ≤ v)) 64:=by
   refine zfH fun v hv=>?_
   cases hs:zqx u v with
   | false=>rfl
   | true =>
     simp only [Bool.true_and]
     refine decide_eq_decide.2 ⟨fun h=>?_,fun h=>by omega⟩
     rcases Nat.lt_or_ge v t with h2 | h2
     ·have:=zAR u hu t (by omega) (by rw [Nat.and_comm];exact hts) h0 v h2 (by rw [Nat.and_comm];simpa [zqx] using hs)
      omega
     ·exact h2
  simp (maxSteps:=5000000) -dsimp only [↓gp,gq,reduceCtorEq,reduceEqDiff,reduceLT,reduceLeDiff,reduceAdd,reduceMul,reduceSub,Nat.reduceBEq,Int.reduceToNat,Int.reduceLE,Int.reduceLT,Int.reduceNeg,reduceMod,zac,zad,zab,zaa,gT,TK.isInt,TK.agg,Array.toList,h0a,h3a,h4a,hcv,hor,hw,hand]
  exact zag ((t - 1) &&& u) (by refine ⟨?_,?_,?_,⟨by omega,by rw [Nat.and_comm,Nat.and_assoc,Nat.and_self]⟩⟩ <;> (first | (simp (maxSteps:=5000000) -dsimp only [gr,reduceEqDiff,reduceLT,reduceAdd,reduceMod,Nat.reduceBEq,zaa,zac,zad,zab,h0a,h3a,h4a,hcv,hor,hw,hand,hnext];first | done | rfl | (simp;done)) | assumption | rfl)) (by first | omega | (simp only;omega) | (dsimp only;omega) | (show _ < _;simp;omega))
theorem zvK {xs:List Int} {k t:Nat} (h:k < xs.length):zaZ (xs.take (k + 1)) t = (zaZ (xs.take k) t || zqx (xs.getD k 0).toNat t):=by
 rw [zaT 0 h]
 unfold zaZ zqx
 rw [List.any_append]
 simp
theorem zk7 (n:Int) (xs:List Int) (hx:okS xs):AC Tryz.prog 180 [.ag [int n,zbj xs]] (.im (u64 (zaW (zaZ xs) 64:Nat))):=by
 refine AC.go (rs:=[.tmp 2]) zbg zay Tryz.func180 rfl rfl rfl (by kernel_rfl) fun hl=>?_
 simp only [zbk,zbD,and_true,zcf,zdW,zcO,zeh,true_and] at hl
 simp (maxSteps:=5000000) -dsimp only [↓gp,gq,reduceCtorEq,reduceEqDiff,reduceLT,reduceLeDiff,reduceAdd,reduceMul,reduceSub,Nat.reduceBEq,Int.reduceToNat,Int.reduceLE,Int.reduceLT,Int.reduceNeg,reduceMod,zac,zad,zab,zaa,gT,TK.isInt,TK.agg,Array.toList]
 have hinit:zaW (zaZ (xs.take 0)) 64 = 0:=zqw
 refine zaq (fun (k:Nat) s=>s.sl 3 = u64 (zaW (zaZ (xs.take k)) 64:Nat)∧s.sl 7 = zbj xs∧s.sl 8 = int xs.length∧s.sl 9 = int k∧(k ≤ xs.length)) (fun k=>xs.length - k) (0) (by refine ⟨?_,?_,?_,?_,by omega⟩ <;> (first | (simp (maxSteps:=5000000) -dsimp only [gr,reduceEqDiff,reduceLT,reduceAdd,reduceMod,Nat.reduceBEq,zaa,zac,zad,zab,hinit];first | done | rfl | (simp;done)) | assumption | rfl)) ?_
 intro k sa ⟨h3a,h7a,h8a,h9a,hIa⟩
 simp (maxSteps:=5000000) -dsimp only [↓gp,gq,reduceCtorEq,reduceEqDiff,reduceLT,reduceLeDiff,reduceAdd,reduceMul,reduceSub,Nat.reduceBEq,Int.reduceToNat,Int.reduceLE,Int.reduceLT,Int.reduceNeg,reduceMod,zac,zad,zab,zaa,gT,TK.isInt,TK.agg,Array.toList,h3a,h7a,h8a,h9a]
 refine ⟨fun h=>⟨h,h,?_⟩,fun h=>?_⟩
 ·have h6:=zfi hx h
  have hn:xs.getD k 0 = ((xs.getD k 0).toNat:Int):=by omega
  have hc:=zgn (xs.getD k 0).toNat (by omega)
  rw [← hn] at hc
  refine zaf hc ?_
  have hm1:=zb9 (zaZ (xs.take k)) 64
  have hm2:=zb9 (zqx (xs.getD k 0).toNat) 64
  have hor:ior .u64 (zaW (zaZ (xs.take k)) 64:Nat) (zaW (zqx (xs.getD k 0).toNat) 64:Nat) = ((zaW (zaZ (xs.take (k + 1))) 64:Nat):Int):=by
   rw [zAA (by omega) (by omega),zDK]
   congr 1
   exact zfH fun t _=>(zvK h).symm
  simp (maxSteps:=5000000) -dsimp only [↓gp,gq,reduceCtorEq,reduceEqDiff,reduceLT,reduceLeDiff,reduceAdd,reduceMul,reduceSub,Nat.reduceBEq,Int.reduceToNat,Int.reduceLE,Int.reduceLT,Int.reduceNeg,reduceMod,zac,zad,zab,zaa,gT,TK.isInt,TK.agg,Array.toList,h3a,h7a,h8a,h9a,hor]
  exact zag (k + 1) (by refine ⟨?_,?_,?_,?_,by omega⟩ <;> (first | (simp (maxSteps:=5000000) -dsimp only [gr,reduceEqDiff,reduceLT,reduceAdd,reduceMod,Nat.reduceBEq,zaa,zac,zad,zab,h3a,h7a,h8a,h9a,zae h hl,hor];first | done | rfl | (simp;done)) | assumption | rfl)) (by first | omega | (simp only;omega) | (dsimp only;omega) | (show _ < _;simp;omega))
 ·have:k = xs.length:=by omega
  rw [this,List.take_length]
end Go.Proofs.YtpnknaaehcljoaaGreat
