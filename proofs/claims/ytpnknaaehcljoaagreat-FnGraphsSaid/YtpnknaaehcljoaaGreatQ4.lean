/- DERIVED by an AI agent. -/
import Derived.Test.YtpnknaaehcljoaaGreatQ2
import Derived.Test.YtpnknaaehcljoaaGreatQ3
import Derived.Test.YtpnknaaehcljoaaGreatA12
import Derived.Test.YtpnknaaehcljoaaGreatP1
import Derived.Test.YtpnknaaehcljoaaGreatQ1
namespace Go.Proofs.YtpnknaaehcljoaaGreat
open Go.Abs
open Nat (reduceEqDiff reduceMod reduceAdd reduceLT reduceLeDiff reduceSub reduceMul)
set_option linter.unusedSimpArgs false
set_option linter.unusedVariables false
theorem zhI (n:Int) (xs:List Int):AC Tryz.prog 123 [.ag [int n,zbj xs]] (.fr 3 1 (iL (zD9 (zca n xs)))):=by
 refine AC.go (rs:=[.tmp 2]) zbg zay Tryz.func123 rfl rfl rfl (by kernel_rfl) fun hl=>?_
 simp (maxSteps:=5000000) -dsimp only [↓gp,gq,reduceCtorEq,reduceEqDiff,reduceLT,reduceLeDiff,reduceAdd,reduceMul,reduceSub,Nat.reduceBEq,Int.reduceToNat,Int.reduceLE,Int.reduceLT,Int.reduceNeg,reduceMod,zac,zad,zab,zaa,gT,TK.isInt,TK.agg,Array.toList]
 refine zaf (zf3 n xs) ?_
 simp (maxSteps:=5000000) -dsimp only [↓gp,gq,reduceCtorEq,reduceEqDiff,reduceLT,reduceLeDiff,reduceAdd,reduceMul,reduceSub,Nat.reduceBEq,Int.reduceToNat,Int.reduceLE,Int.reduceLT,Int.reduceNeg,reduceMod,zac,zad,zab,zaa,gT,TK.isInt,TK.agg,Array.toList]
 have hfull:=zg5 (zca n xs)
 have hmem:∀ i,i < (zda (zca n xs)).length→(zda (zca n xs)).getD i 0 < 64:=fun i h=>zmF h
 have hmx:=zAP (zca n xs)
 have hd7:=zhB (zca n xs)
 unfold zD9
 generalize zda (zca n xs) = all at *
 refine zaq (fun (za:Nat × Nat × Nat) s=>match za with | (i,v,u)=>s.sl 3 = .own 6 v∧s.rw 6 = ⟨v,.sli 3 1 false (iL (zqj (all.take i) (mxL (all.take i))))⟩∧s.sl 4 = .own 8 u∧s.rw 8 = ⟨u,.sli 3 1 false (iL (ofN all))⟩∧s.sl 5 = int i∧(i ≤ all.length)) (fun (i,v,u)=>all.length - i) ((0,1,1)) (by refine ⟨?_,?_,?_,?_,?_,by simp⟩ <;> (first | (simp (maxSteps:=5000000) -dsimp only [gr,reduceEqDiff,reduceLT,reduceAdd,reduceMod,Nat.reduceBEq,zaa,zac,zad,zab,mxL,zqj];first | done | rfl | (simp;done)) | assumption | rfl)) ?_
 intro (i,v,u) sa ⟨h3a,r6a,h4a,r8a,h5a,hIa⟩
 simp (maxSteps:=5000000) -dsimp only [↓gp,gq,reduceCtorEq,reduceEqDiff,reduceLT,reduceLeDiff,reduceAdd,reduceMul,reduceSub,Nat.reduceBEq,Int.reduceToNat,Int.reduceLE,Int.reduceLT,Int.reduceNeg,reduceMod,zac,zad,zab,zaa,gT,TK.isInt,TK.agg,Array.toList,h3a,r6a,h4a,r8a,h5a,zaj]
 refine ⟨fun h=>?_,fun h=>?_⟩
 ·have hi:=hmem i h
  have hge:(ofN all).getD i 0 = ((all.getD i 0:Nat):Int):=zaM h
  have hsn:=zaT 0 h
  have hmi:=zAN (all.take i) (all.getD i 0)
  rw [← hsn] at hmi
  have hmle:=zAQ (l:=all) (k:=i + 1)
  have hp6:=zcp hi
  refine zaq (fun (zb:Nat × Nat) s=>match zb with | (w,m)=>s.sl 3 = .own 6 w∧s.rw 6 = ⟨w,.sli 3 1 false (iL (zqj (all.take i) m))⟩∧s.sl 4 = .own 8 u∧s.rw 8 = ⟨u,.sli 3 1 false (iL (ofN all))⟩∧s.sl 5 = int i∧(mxL (all.take i) ≤ m∧m ≤ mxL (all.take (i + 1)))) (fun (w,m)=>mxL (all.take (i + 1)) - m) ((v,mxL (all.take i))) (by refine ⟨?_,?_,?_,?_,?_,⟨by omega,by omega⟩⟩ <;> (first | (simp (maxSteps:=5000000) -dsimp only [gr,reduceEqDiff,reduceLT,reduceAdd,reduceMod,Nat.reduceBEq,zaa,zac,zad,zab,h3a,r6a,h4a,r8a,h5a];first | done | rfl | (simp;done)) | assumption | rfl)) ?_
  intro (w,m) sb ⟨h3b,r6b,h4b,r8b,h5b,hIb⟩
  obtain ⟨hm1,hm2⟩:=hIb
  simp (maxSteps:=5000000) -dsimp only [↓gp,gq,reduceCtorEq,reduceEqDiff,reduceLT,reduceLeDiff,reduceAdd,reduceMul,reduceSub,Nat.reduceBEq,Int.reduceToNat,Int.reduceLE,Int.reduceLT,Int.reduceNeg,reduceMod,zac,zad,zab,zaa,gT,TK.isInt,TK.agg,Array.toList,h3b,r6b,h4b,r8b,h5b,zaj,zcM,hge]
  refine ⟨h,h,zaf (zaP _ (by omega)) ?_⟩
  simp (maxSteps:=5000000) -dsimp only [↓gp,gq,reduceCtorEq,reduceEqDiff,reduceLT,reduceLeDiff,reduceAdd,reduceMul,reduceSub,Nat.reduceBEq,Int.reduceToNat,Int.reduceLE,Int.reduceLT,Int.reduceNeg,reduceMod,zac,zad,zab,zaa,gT,TK.isInt,TK.agg,Array.toList,h3b,r6b,h4b,r8b,h5b,zaj,zcM,hge]
  refine ⟨fun h2=>⟨by omega,?_⟩,fun h2=>?_⟩
  ·have e:zqj (all.take i) m ++ [0] = zqj (all.take i) (m + 1):=zyV _ hm1
   exact zag ((w + 1,m + 1)) (by refine ⟨?_,?_,?_,?_,?_,⟨by dsimp only;omega,by dsimp only;omega⟩⟩ <;> (first | (simp (maxSteps:=5000000) -dsimp only [gr,reduceEqDiff,reduceLT,reduceAdd,reduceMod,Nat.reduceBEq,zaa,zac,zad,zab,h3b,r6b,h4b,r8b,h5b,e];first | done | rfl | (simp;done)) | assumption | rfl)) (by first | omega | (simp only;omega) | (dsimp only;omega) | (show _ < _;simp;omega))
  ·have hgm:(zqj (all.take i) m).getD (zaD (all.getD i 0)) 0 = (zuw (all.take i) (zaD (all.getD i 0)):Int):=zqk _ (by omega)
   have hcl:zuw (all.take i) (zaD (all.getD i 0)) ≤ 448:=by
    have:=List.length_filter_le (fun s=>zaD s == zaD (all.getD i 0)) (all.take i)
    rw [List.length_take] at this
    unfold zuw;omega
   have hw:IntKind.i64.wrap ((zuw (all.take i) (zaD (all.getD i 0)):Int) + 1) = (zuw (all.take i) (zaD (all.getD i 0)):Int) + 1:=zat (by omega) (by omega)
   have hme:m = mxL (all.take (i + 1)):=by omega
   have hadd:=zAO (all.take i) (all.getD i 0) m (by omega)
   rw [← hsn] at hadd
   refine ⟨by kernel_rfl,h,h,zaf (zaP _ (by omega)) ?_⟩
   simp (maxSteps:=5000000) -dsimp only [↓gp,gq,reduceCtorEq,reduceEqDiff,reduceLT,reduceLeDiff,reduceAdd,reduceMul,reduceSub,Nat.reduceBEq,Int.reduceToNat,Int.reduceLE,Int.reduceLT,Int.reduceNeg,reduceMod,zac,zad,zab,zaa,gT,TK.isInt,TK.agg,Array.toList,h3b,r6b,h4b,r8b,h5b,zaj,zcM,hge]
   refine ⟨h,h,zaf (zaP _ (by omega)) ?_⟩
   simp (maxSteps:=5000000) -dsimp only [↓gp,gq,reduceCtorEq,reduceEqDiff,reduceLT,reduceLeDiff,reduceAdd,reduceMul,reduceSub,Nat.reduceBEq,Int.reduceToNat,Int.reduceLE,Int.reduceLT,Int.reduceNeg,reduceMod,zac,zad,zab,zaa,gT,TK.isInt,TK.agg,Array.toList,h3b,r6b,h4b,r8b,h5b,zaj,zcM,hge,hgm,hw,hadd]
   refine ⟨by omega,by omega,by omega,by omega,by kernel_rfl,?_⟩
   subst hme
   exact zag ((i + 1,w,u)) (by refine ⟨?_,?_,?_,?_,?_,by dsimp only;omega⟩ <;> (first | (simp (maxSteps:=5000000) -dsimp only [gr,reduceEqDiff,reduceLT,reduceAdd,reduceMod,Nat.reduceBEq,zaa,zac,zad,zab,h3a,r6a,h4a,r8a,h5a,h3b,r6b,h4b,r8b,h5b,zae h (by omega)];first | done | rfl | (simp;done)) | assumption | rfl)) (by first | omega | (simp only;omega) | (dsimp only;omega) | (show _ < _;simp;omega))
 ·have:i = all.length:=by omega
  rw [this,List.take_length,hmx]
theorem zla (a b:Nat) (ha:a < 64) (hb:b < 64) (hp:zaD b = zaD a + 1):AC Tryz.prog 187 [int a,int b] (.im (int (zqK a b))):=by
 refine AC.go (rs:=[.tmp 4]) zbg zay Tryz.func187 rfl rfl rfl (by kernel_rfl) fun hl=>?_
 have hpa:=zcp ha
 have hpb:=zcp hb
 have hand:=zbt (a:=a) (b:=b) (by omega) (by omega)
 have hw1:IntKind.i64.wrap ((zaD b:Int) - (zaD a:Int)) = 1:=by rw [zat (by omega) (by omega)];omega
 simp (maxSteps:=5000000) -dsimp only [↓gp,gq,reduceCtorEq,reduceEqDiff,reduceLT,reduceLeDiff,reduceAdd,reduceMul,reduceSub,Nat.reduceBEq,Int.reduceToNat,Int.reduceLE,Int.reduceLT,Int.reduceNeg,reduceMod,zac,zad,zab,zaa,gT,TK.isInt,TK.agg,Array.toList,hand]
 refine ⟨fun h=>zaf (zaP b (by omega)) ?_,fun h=>?_⟩
 ·have hs:a &&& b = a:=by
   have h9:((a &&& b:Nat):Int) = a:=by simpa using h
   omega
  obtain ⟨hle,hx⟩:=zAS a ha b hb hs
  simp (maxSteps:=5000000) -dsimp only [↓gp,gq,reduceCtorEq,reduceEqDiff,reduceLT,reduceLeDiff,reduceAdd,reduceMul,reduceSub,Nat.reduceBEq,Int.reduceToNat,Int.reduceLE,Int.reduceLT,Int.reduceNeg,reduceMod,zac,zad,zab,zaa,gT,TK.isInt,TK.agg,Array.toList]
  refine zaf (zaP a (by omega)) ?_
  have hne:a ≠ b:=fun e=>by rw [e] at hp;omega
  have hw2:IntKind.i64.wrap ((b:Int) - (a:Int)) = ((b - a:Nat):Int):=by rw [zat (by omega) (by omega)];omega
  have hw3:IntKind.i64.wrap (((b - a:Nat):Int) - 1) = ((b - a - 1:Nat):Int):=by rw [zat (by omega) (by omega)];omega
  have hand2:=zbt (a:=b) (b:=b - a - 1) (by omega) (by omega)
  have hlt:b &&& (b - a - 1) < 64:=by have:b &&& (b - a - 1) ≤ b:=Nat.and_le_left;omega
  have hp6:=zcp hlt
  have h11:((1:Int) != 1) = false:=rfl
  simp (maxSteps:=5000000) -dsimp only [↓gp,gq,reduceCtorEq,reduceEqDiff,reduceLT,reduceLeDiff,reduceAdd,reduceMul,reduceSub,Nat.reduceBEq,Int.reduceToNat,Int.reduceLE,Int.reduceLT,Int.reduceNeg,reduceMod,zac,zad,zab,zaa,gT,TK.isInt,TK.agg,Array.toList,hw1,hw2,hw3,hand2,h11]
  refine zaf (zaP _ (by omega)) ?_
  have hmod:((zaD (b &&& (b - a - 1)):Nat):Int).tmod 2 = ((zaD (b &&& (b - a - 1)) % 2:Nat):Int):=by rw [zkD (by omega)];omega
  have hw4:IntKind.i64.wrap (2 * ((zaD (b &&& (b - a - 1)) % 2:Nat):Int)) = 2 * ((zaD (b &&& (b - a - 1)) % 2:Nat):Int):=zat (by omega) (by omega)
  have hw5:IntKind.i64.wrap (1 - 2 * ((zaD (b &&& (b - a - 1)) % 2:Nat):Int)) = 1 - 2 * ((zaD (b &&& (b - a - 1)) % 2:Nat):Int):=zat (by omega) (by omega)
  simp (maxSteps:=5000000) -dsimp only [↓gp,gq,reduceCtorEq,reduceEqDiff,reduceLT,reduceLeDiff,reduceAdd,reduceMul,reduceSub,Nat.reduceBEq,Int.reduceToNat,Int.reduceLE,Int.reduceLT,Int.reduceNeg,reduceMod,zac,zad,zab,zaa,gT,TK.isInt,TK.agg,Array.toList,hmod,hw4,hw5]
  unfold zqK
  rw [if_pos hs]
  split <;> omega
 ·have hs:¬ a &&& b = a:=by
   intro e
   rw [e] at h
   simp at h
  unfold zqK
  rw [if_neg hs]
theorem zvL {l h:List Nat} {i:Nat} (hi:i < l.length):zcN (l.take i) h ++ [h.map fun b=>zqK (l.getD i 0) b] = zcN (l.take (i + 1)) h:=by
 rw [zaT 0 hi];simp [zcN]
theorem ziy (n:Int) (xs:List Int) (k:Nat) (hk:1 ≤ k) (hk7:k ≤ 7):AC Tryz.prog 125 [.ag [int n,zbj xs],int k] (.fr 25 1 (iLL (zcN (za8 (zca n xs) (k - 1) 64) (za8 (zca n xs) k 64)))):=by
 refine AC.go (rs:=[.tmp 4]) zbg zay Tryz.func125 rfl rfl rfl (by kernel_rfl) fun hl=>?_
 have hw1:IntKind.i64.wrap ((k:Int) - 1) = ((k - 1:Nat):Int):=by rw [zat (by omega) (by omega)];omega
 simp (maxSteps:=5000000) -dsimp only [↓gp,gq,reduceCtorEq,reduceEqDiff,reduceLT,reduceLeDiff,reduceAdd,reduceMul,reduceSub,Nat.reduceBEq,Int.reduceToNat,Int.reduceLE,Int.reduceLT,Int.reduceNeg,reduceMod,zac,zad,zab,zaa,gT,TK.isInt,TK.agg,Array.toList,hw1]
 refine zaf (zcr n xs (k - 1)) ?_
 simp (maxSteps:=5000000) -dsimp only [↓gp,gq,reduceCtorEq,reduceEqDiff,reduceLT,reduceLeDiff,reduceAdd,reduceMul,reduceSub,Nat.reduceBEq,Int.reduceToNat,Int.reduceLE,Int.reduceLT,Int.reduceNeg,reduceMod,zac,zad,zab,zaa,gT,TK.isInt,TK.agg,Array.toList]
 refine zaf (zcr n xs k) ?_
 simp (maxSteps:=5000000) -dsimp only [↓gp,gq,reduceCtorEq,reduceEqDiff,reduceLT,reduceLeDiff,reduceAdd,reduceMul,reduceSub,Nat.reduceBEq,Int.reduceToNat,Int.reduceLE,Int.reduceLT,Int.reduceNeg,reduceMod,zac,zad,zab,zaa,gT,TK.isInt,TK.agg,Array.toList]
 have hl1:=zfA (zca n xs) (k - 1) (Nat.le_refl 64)
 have hl2:=zfA (zca n xs) k (Nat.le_refl 64)
 have hm1:∀ i,i < (za8 (zca n xs) (k - 1) 64).length→(za8 (zca n xs) (k - 1) 64).getD i 0 < 64∧zaD ((za8 (zca n xs) (k - 1) 64).getD i 0) = k - 1:=fun i hi=>by
  have:=zi4.1 (zax 0 hi);exact ⟨this.1,this.2.2⟩
 have hm2:∀ i,i < (za8 (zca n xs) k 64).length→(za8 (zca n xs) k 64).getD i 0 < 64∧zaD ((za8 (zca n xs) k 64).getD i 0) = k:=fun i hi=>by
  have:=zi4.1 (zax 0 hi);exact ⟨this.1,this.2.2⟩
 generalize za8 (zca n xs) (k - 1) 64 = lo at *
 generalize za8 (zca n xs) k 64 = hi at *
 refine zaq (fun (za:Nat × Nat × Nat × Nat) s=>match za with | (i,v,a,b)=>s.sl 5 = .own 11 v∧s.rw 11 = ⟨v,.sli 25 1 false (iLL (zcN (lo.take i) hi))⟩∧s.sl 6 = .own 15 a∧s.rw 15 = ⟨a,.sli 3 1 false (iL (ofN lo))⟩∧s.sl 7 = .own 18 b∧s.rw 18 = ⟨b,.sli 3 1 false (iL (ofN hi))⟩∧s.sl 8 = int i∧(i ≤ lo.length)) (fun (i,v,a,b)=>lo.length - i) ((0,1,1,1)) (by refine ⟨?_,?_,?_,?_,?_,?_,?_,by simp⟩ <;> (first | (simp (maxSteps:=5000000) -dsimp only [gr,reduceEqDiff,reduceLT,reduceAdd,reduceMod,Nat.reduceBEq,zaa,zac,zad,zab,zcN,iLL];first | done | rfl | (simp;done)) | assumption | rfl)) ?_
 intro (i,v,a,b) sa ⟨h5a,r11a,h6a,r15a,h7a,r18a,h8a,hIa⟩
 have hbl:(zcN (lo.take i) hi).length = min i lo.length:=by rw [zdO,List.length_take]
 simp (maxSteps:=5000000) -dsimp only [↓gp,gq,reduceCtorEq,reduceEqDiff,reduceLT,reduceLeDiff,reduceAdd,reduceMul,reduceSub,Nat.reduceBEq,Int.reduceToNat,Int.reduceLE,Int.reduceLT,Int.reduceNeg,reduceMod,zac,zad,zab,zaa,gT,TK.isInt,TK.agg,Array.toList,h5a,r11a,h6a,r15a,h7a,r18a,h8a,zaj]
 refine ⟨fun h=>?_,fun h=>?_⟩
 ·have hge:(ofN lo).getD i 0 = ((lo.getD i 0:Nat):Int):=zaM h
  refine zaq (fun (zb:Nat × Nat) s=>match zb with | (j,u)=>s.sl 5 = .own 11 v∧s.rw 11 = ⟨v,.sli 25 1 false (iLL (zcN (lo.take i) hi))⟩∧s.sl 6 = .own 15 a∧s.rw 15 = ⟨a,.sli 3 1 false (iL (ofN lo))⟩∧s.sl 7 = .own 18 b∧s.rw 18 = ⟨b,.sli 3 1 false (iL (ofN hi))⟩∧s.sl 8 = int i∧s.sl 9 = .own 25 u∧s.rw 25 = ⟨u,.sli 3 1 false (iL ((hi.take j).map fun b=>zqK (lo.getD i 0) b))⟩∧s.sl 10 = int j∧(j ≤ hi.length)) (fun (j,u)=>hi.length - j) ((0,(sa.rw 25).ver + 1)) (by refine ⟨?_,?_,?_,?_,?_,?_,?_,?_,?_,?_,by omega⟩ <;> (first | (simp (maxSteps:=5000000) -dsimp only [gr,reduceEqDiff,reduceLT,reduceAdd,reduceMod,Nat.reduceBEq,zaa,zac,zad,zab,h5a,r11a,h6a,r15a,h7a,r18a,h8a];first | done | rfl | (simp;done)) | assumption | rfl)) ?_
  intro (j,u) sb ⟨h5b,r11b,h6b,r15b,h7b,r18b,h8b,h9b,r25b,h10b,hIb⟩
  simp (maxSteps:=5000000) -dsimp only [↓gp,gq,reduceCtorEq,reduceEqDiff,reduceLT,reduceLeDiff,reduceAdd,reduceMul,reduceSub,Nat.reduceBEq,Int.reduceToNat,Int.reduceLE,Int.reduceLT,Int.reduceNeg,reduceMod,zac,zad,zab,zaa,gT,TK.isInt,TK.agg,Array.toList,h5b,r11b,h6b,r15b,h7b,r18b,h8b,h9b,r25b,h10b,zaj]
  refine ⟨fun h2=>?_,fun h2=>?_⟩
  ·have hge2:(ofN hi).getD j 0 = ((hi.getD j 0:Nat):Int):=zaM h2
   have ha:=hm1 i h
   have hb:=hm2 j h2
   simp (maxSteps:=5000000) -dsimp only [↓gp,gq,reduceCtorEq,reduceEqDiff,reduceLT,reduceLeDiff,reduceAdd,reduceMul,reduceSub,Nat.reduceBEq,Int.reduceToNat,Int.reduceLE,Int.reduceLT,Int.reduceNeg,reduceMod,zac,zad,zab,zaa,gT,TK.isInt,TK.agg,Array.toList,h5b,r11b,h6b,r15b,h7b,r18b,h8b,h9b,r25b,h10b,zaj,hge,hge2]
   refine ⟨by kernel_rfl,h,h,h2,h2,zaf (zla _ _ ha.1 hb.1 (by omega)) ?_⟩
   simp (maxSteps:=5000000) -dsimp only [↓gp,gq,reduceCtorEq,reduceEqDiff,reduceLT,reduceLeDiff,reduceAdd,reduceMul,reduceSub,Nat.reduceBEq,Int.reduceToNat,Int.reduceLE,Int.reduceLT,Int.reduceNeg,reduceMod,zac,zad,zab,zaa,gT,TK.isInt,TK.agg,Array.toList,h5b,r11b,h6b,r15b,h7b,r18b,h8b,h9b,r25b,h10b,zaj,hge,hge2]
   have e:(hi.take (j + 1)).map (fun b=>zqK (lo.getD i 0) b) = (hi.take j).map (fun b=>zqK (lo.getD i 0) b) ++ [zqK (lo.getD i 0) (hi.getD j 0)]:=by rw [zaT 0 h2];simp
   refine ⟨by rw [List.length_map,List.length_take];omega,by kernel_rfl,?_⟩
   exact zag ((j + 1,u + 1)) (by refine ⟨?_,?_,?_,?_,?_,?_,?_,?_,?_,?_,by dsimp only;omega⟩ <;> (first | (simp (maxSteps:=5000000) -dsimp only [gr,reduceEqDiff,reduceLT,reduceAdd,reduceMod,Nat.reduceBEq,zaa,zac,zad,zab,h5b,r11b,h6b,r15b,h7b,r18b,h8b,h9b,r25b,h10b,zae h2 (by omega),e];first | done | rfl | (simp;done)) | assumption | rfl)) (by first | omega | (simp only;omega) | (dsimp only;omega) | (show _ < _;simp;omega))
  ·have hj:j = hi.length:=by omega
   subst hj
   rw [List.take_length] at r25b
   refine zGs ?_
   simp (maxSteps:=5000000) -dsimp only [↓gp,gq,reduceCtorEq,reduceEqDiff,reduceLT,reduceLeDiff,reduceAdd,reduceMul,reduceSub,Nat.reduceBEq,Int.reduceToNat,Int.reduceLE,Int.reduceLT,Int.reduceNeg,reduceMod,zac,zad,zab,zaa,gT,TK.isInt,TK.agg,Array.toList,h5b,r11b,h6b,r15b,h7b,r18b,h8b,h9b,r25b,h10b,hbl,zhj]
   have e:=zvL (h:=hi) h
   refine ⟨by omega,?_⟩
   exact zag ((i + 1,v + 1,a,b)) (by refine ⟨?_,?_,?_,?_,?_,?_,?_,by dsimp only;omega⟩ <;> (first | (simp (maxSteps:=5000000) -dsimp only [gr,reduceEqDiff,reduceLT,reduceAdd,reduceMod,Nat.reduceBEq,zaa,zac,zad,zab,h5a,r11a,h6a,r15a,h7a,r18a,h8a,h5b,r11b,h6b,r15b,h7b,r18b,h8b,h9b,r25b,h10b,zae h (by omega),zmO,e];first | done | rfl | (simp;done)) | assumption | rfl)) (by first | omega | (simp only;omega) | (dsimp only;omega) | (show _ < _;simp;omega))
 ·have:i = lo.length:=by omega
  rw [this,List.take_length]
theorem zF5 {f:Nat→Bool} {p:Int} {k:Nat} (h:k + 1 < zeb f):rkF f p (k + 1) = zrG p (zcN (za8 f k 64) (za8 f (k + 1) 64)):=by
 unfold rkF
 rw [if_neg (by omega)];rfl
theorem zDM {f:Nat→Bool} {p:Int} {k:Nat} (h:zeb f ≤ k):rkF f p k = 0:=by
 unfold rkF
 rw [if_pos (.inr h)]
def zkX (f:Nat→Bool) (p:Int):List Int:=if isP p = true then zqL f p else []
theorem zbf (n:Int) (xs:List Int) (p:Int):AC Tryz.prog 44 [.ag [int n,zbj xs],int p] (.fr 3 1 (iL (zkX (zca n xs) p))):=by
 refine AC.go (rs:=[.tmp 4]) zbg zay Tryz.func44 rfl rfl rfl (by kernel_rfl) fun hl=>?_
 simp (maxSteps:=5000000) -dsimp only [↓gp,gq,reduceCtorEq,reduceEqDiff,reduceLT,reduceLeDiff,reduceAdd,reduceMul,reduceSub,Nat.reduceBEq,Int.reduceToNat,Int.reduceLE,Int.reduceLT,Int.reduceNeg,reduceMod,zac,zad,zab,zaa,gT,TK.isInt,TK.agg,Array.toList]
 refine zaf (zhI n xs) ?_
 simp (maxSteps:=5000000) -dsimp only [↓gp,gq,reduceCtorEq,reduceEqDiff,reduceLT,reduceLeDiff,reduceAdd,reduceMul,reduceSub,Nat.reduceBEq,Int.reduceToNat,Int.reduceLE,Int.reduceLT,Int.reduceNeg,reduceMod,zac,zad,zab,zaa,gT,TK.isInt,TK.agg,Array.toList]
 refine zaf (zdA p) ?_
 simp (maxSteps:=5000000) -dsimp only [↓gp,gq,reduceCtorEq,reduceEqDiff,reduceLT,reduceLeDiff,reduceAdd,reduceMul,reduceSub,Nat.reduceBEq,Int.reduceToNat,Int.reduceLE,Int.reduceLT,Int.reduceNeg,reduceMod,zac,zad,zab,zaa,gT,TK.isInt,TK.agg,Array.toList]
 unfold zkX
 refine ⟨fun hp=>?_,fun hp=>?_⟩
 ·have hp:isP p = false:=by simpa using hp
  rw [hp];rfl
 ·have hp:isP p = true:=by simpa using hp
  rw [if_pos hp]
  have hd7:=zhB (zca n xs)
  have hfl:=zrE (zca n xs)
  generalize hf:zca n xs = f at *
  refine zaq (fun (za:Nat × Nat × Nat) s=>match za with | (k,v,w)=>s.sl 1 = int p∧s.sl 2 = .ref 2 1 0∧s.rw 2 = ⟨1,.box 27 [int n,zbj xs]⟩∧s.sl 5 = .own 10 v∧s.rw 10 = ⟨v,.sli 3 1 false (iL ((zqL f p).take k))⟩∧s.sl 6 = .own 12 w∧s.rw 12 = ⟨w,.sli 3 1 false (iL (zD9 f))⟩∧s.sl 7 = int (rkF f p k)∧s.sl 8 = int k∧(k ≤ zeb f)) (fun (k,v,w)=>zeb f - k) ((0,1,1)) (by refine ⟨?_,?_,?_,?_,?_,?_,?_,?_,?_,by simp⟩ <;> (first | (simp (maxSteps:=5000000) -dsimp only [gr,reduceEqDiff,reduceLT,reduceAdd,reduceMod,Nat.reduceBEq,zaa,zac,zad,zab,rkF];first | done | rfl | (simp;done)) | assumption | rfl)) ?_
  intro (k,v,w) sa ⟨h1a,h2a,r2a,h5a,r10a,h6a,r12a,h7a,h8a,hIa⟩
  simp (maxSteps:=5000000) -dsimp only [↓gp,gq,reduceCtorEq,reduceEqDiff,reduceLT,reduceLeDiff,reduceAdd,reduceMul,reduceSub,Nat.reduceBEq,Int.reduceToNat,Int.reduceLE,Int.reduceLT,Int.reduceNeg,reduceMod,zac,zad,zab,zaa,gT,TK.isInt,TK.agg,Array.toList,h1a,h2a,r2a,h5a,r10a,h6a,r12a,h7a,h8a,hfl]
  refine ⟨fun h=>?_,fun h=>?_⟩
  ·have hr1:=zCu f p k
   have hr2:=zCu f p (k + 1)
   have hol:=zfA f k (Nat.le_refl 64)
   have hg:=zyW f h
   have hwk:=zae h (by omega)
   have hw1:IntKind.i64.wrap (((za8 f k 64).length:Int) - (rkF f p k:Int)) = ((za8 f k 64).length:Int) - (rkF f p k:Int):=zat (by omega) (by omega)
   have hw2:IntKind.i64.wrap (((za8 f k 64).length:Int) - (rkF f p k:Int) - (rkF f p (k + 1):Int)) = ((za8 f k 64).length:Int) - (rkF f p k:Int) - (rkF f p (k + 1):Int):=zat (by omega) (by omega)
   have hts:(zqL f p).take (k + 1) = (zqL f p).take k ++ [((za8 f k 64).length:Int) - rkF f p k - rkF f p (k + 1)]:=by rw [zaT 0 (by rw [zdv];exact h),zql f p h]
   have htl:((zqL f p).take k).length ≤ 7:=by rw [List.length_take,zdv];omega
   simp (maxSteps:=5000000) -dsimp only [↓gp,gq,reduceCtorEq,reduceEqDiff,reduceLT,reduceLeDiff,reduceAdd,reduceMul,reduceSub,Nat.reduceBEq,Int.reduceToNat,Int.reduceLE,Int.reduceLT,Int.reduceNeg,reduceMod,zac,zad,zab,zaa,gT,TK.isInt,TK.agg,Array.toList,h1a,h2a,r2a,h5a,r10a,h6a,r12a,h7a,h8a,hfl,hwk]
   refine ⟨fun h2=>zaf (hf ▸ ziy n xs (k + 1) (by omega) (by omega)) ?_,fun h2=>?_⟩
   ·have hin:=zF5 (p:=p) h2
    rw [Nat.add_sub_cancel]
    have hb1:=zdO (za8 f k 64) (za8 f (k + 1) 64)
    have hb2:=zvC (za8 f k 64) (za8 f (k + 1) 64)
    have hb3:=zvD (za8 f k 64) (za8 f (k + 1) 64)
    have hol2:=zfA f (k + 1) (Nat.le_refl 64)
    simp (maxSteps:=5000000) -dsimp only [↓gp,gq,reduceCtorEq,reduceEqDiff,reduceLT,reduceLeDiff,reduceAdd,reduceMul,reduceSub,Nat.reduceBEq,Int.reduceToNat,Int.reduceLE,Int.reduceLT,Int.reduceNeg,reduceMod,zac,zad,zab,zaa,gT,TK.isInt,TK.agg,Array.toList,h1a,h2a,r2a,h5a,r10a,h6a,r12a,h7a,h8a,hfl,hwk]
    refine zaf (zlb _ p hp (by omega) hb2 (by omega)) ?_
    rw [← hin]
    simp (maxSteps:=5000000) -dsimp only [↓gp,gq,reduceCtorEq,reduceEqDiff,reduceLT,reduceLeDiff,reduceAdd,reduceMul,reduceSub,Nat.reduceBEq,Int.reduceToNat,Int.reduceLE,Int.reduceLT,Int.reduceNeg,reduceMod,zac,zad,zab,zaa,gT,TK.isInt,TK.agg,Array.toList,h1a,h2a,r2a,h5a,r10a,h6a,r12a,h7a,h8a,hfl,hwk,hg,hw1,hw2]
    refine ⟨h,h,by omega,?_⟩
    exact zag ((k + 1,v + 1,w)) (by refine ⟨?_,?_,?_,?_,?_,?_,?_,?_,?_,by dsimp only;omega⟩ <;> (first | (simp (maxSteps:=5000000) -dsimp only [gr,reduceEqDiff,reduceLT,reduceAdd,reduceMod,Nat.reduceBEq,zaa,zac,zad,zab,h1a,h2a,r2a,h5a,r10a,h6a,r12a,h7a,h8a,hwk,hw1,hw2,hts];first | done | rfl | (simp;done)) | assumption | rfl)) (by first | omega | (simp only;omega) | (dsimp only;omega) | (show _ < _;simp;omega))
   ·have hz:=zDM (p:=p) (show zeb f ≤ k + 1 by omega)
    rw [hz,Int.natCast_zero,Int.sub_zero] at hw2
    rw [hz,Int.natCast_zero,Int.sub_zero] at hts
    simp (maxSteps:=5000000) -dsimp only [↓gp,gq,reduceCtorEq,reduceEqDiff,reduceLT,reduceLeDiff,reduceAdd,reduceMul,reduceSub,Nat.reduceBEq,Int.reduceToNat,Int.reduceLE,Int.reduceLT,Int.reduceNeg,reduceMod,zac,zad,zab,zaa,gT,TK.isInt,TK.agg,Array.toList,h1a,h2a,r2a,h5a,r10a,h6a,r12a,h7a,h8a,hfl,hwk,hg,hw1]
    refine ⟨h,h,by omega,?_⟩
    have hw3:IntKind.i64.wrap (((za8 f k 64).length:Int) - (rkF f p k:Int) - 0) = ((za8 f k 64).length:Int) - (rkF f p k:Int):=by rw [Int.sub_zero];exact hw2
    exact zag ((k + 1,v + 1,w)) (by refine ⟨?_,?_,?_,?_,?_,?_,?_,?_,?_,by dsimp only;omega⟩ <;> (first | (simp (maxSteps:=5000000) -dsimp only [gr,reduceEqDiff,reduceLT,reduceAdd,reduceMod,Nat.reduceBEq,zaa,zac,zad,zab,h1a,h2a,r2a,h5a,r10a,h6a,r12a,h7a,h8a,hwk,hw1,hw3,hts,hz,Int.natCast_zero];first | done | rfl | (simp;done)) | assumption | rfl)) (by first | omega | (simp only;omega) | (dsimp only;omega) | (show _ < _;simp;omega))
  ·have:k = (zqL f p).length:=by rw [zdv];omega
   rw [this,List.take_length]
theorem zez {t:Nat} (h:t < 64):zhR (t:Int) = (zaD t:Nat):=by rw [zhR,if_pos (by omega)];simp
theorem zkM (f:Nat→Bool) (m:Nat):zhh f (m + 1) = if f m = true then max (zhh f m) (zaD m + 1) else zhh f m:=rfl
theorem zk8 (f:Nat→Bool):AC Tryz.prog 211 [u64 (zaW f 64:Nat)] (.im (int ((zeb f:Int) - 1))):=by
 refine AC.go (rs:=[.tmp 2]) zbg zay Tryz.func211 rfl rfl rfl (by kernel_rfl) fun hl=>?_
 simp (maxSteps:=5000000) -dsimp only [↓gp,gq,reduceCtorEq,reduceEqDiff,reduceLT,reduceLeDiff,reduceAdd,reduceMul,reduceSub,Nat.reduceBEq,Int.reduceToNat,Int.reduceLE,Int.reduceLT,Int.reduceNeg,reduceMod,zac,zad,zab,zaa,gT,TK.isInt,TK.agg,Array.toList]
 have hm1:=zb9 f 64
 refine zaq (fun (m:Nat) s=>s.sl 0 = u64 (zaW f 64:Nat)∧s.sl 3 = int ((zhh f m:Int) - 1)∧s.sl 4 = int m∧(m ≤ 64)) (fun m=>64 - m) (0) (by refine ⟨?_,?_,?_,by omega⟩ <;> (first | (simp (maxSteps:=5000000) -dsimp only [gr,reduceEqDiff,reduceLT,reduceAdd,reduceMod,Nat.reduceBEq,zaa,zac,zad,zab,zhh];first | done | rfl | (simp;done)) | assumption | rfl)) ?_
 intro m sa ⟨h0a,h3a,h4a,hIa⟩
 simp (maxSteps:=5000000) -dsimp only [↓gp,gq,reduceCtorEq,reduceEqDiff,reduceLT,reduceLeDiff,reduceAdd,reduceMul,reduceSub,Nat.reduceBEq,Int.reduceToNat,Int.reduceLE,Int.reduceLT,Int.reduceNeg,reduceMod,zac,zad,zab,zaa,gT,TK.isInt,TK.agg,Array.toList,h0a,h3a,h4a]
 refine ⟨fun h=>zaf (zdb (zaW f 64) m (by omega) (by omega)) ?_,fun h=>?_⟩
 ·have h:m < 64:=by omega
  rw [zdi f h]
  simp (maxSteps:=5000000) -dsimp only [↓gp,gq,reduceCtorEq,reduceEqDiff,reduceLT,reduceLeDiff,reduceAdd,reduceMul,reduceSub,Nat.reduceBEq,Int.reduceToNat,Int.reduceLE,Int.reduceLT,Int.reduceNeg,reduceMod,zac,zad,zab,zaa,gT,TK.isInt,TK.agg,Array.toList,h0a,h3a,h4a]
  refine ⟨fun hf=>zaf (zbb _) ?_,fun hf=>?_⟩
  ·simp (maxSteps:=5000000) -dsimp only [↓gp,gq,reduceCtorEq,reduceEqDiff,reduceLT,reduceLeDiff,reduceAdd,reduceMul,reduceSub,Nat.reduceBEq,Int.reduceToNat,Int.reduceLE,Int.reduceLT,Int.reduceNeg,reduceMod,zac,zad,zab,zaa,gT,TK.isInt,TK.agg,Array.toList,h0a,h3a,h4a,zez h]
   refine ⟨fun hg=>zaf (zbb _) ?_,fun hg=>?_⟩
   ·simp (maxSteps:=5000000) -dsimp only [↓gp,gq,reduceCtorEq,reduceEqDiff,reduceLT,reduceLeDiff,reduceAdd,reduceMul,reduceSub,Nat.reduceBEq,Int.reduceToNat,Int.reduceLE,Int.reduceLT,Int.reduceNeg,reduceMod,zac,zad,zab,zaa,gT,TK.isInt,TK.agg,Array.toList,h0a,h3a,h4a,zez h]
    have e:(zhh f (m + 1):Int) - 1 = (zaD m:Int):=by rw [zkM,if_pos hf];omega
    exact zag (m + 1) (by refine ⟨?_,?_,?_,by omega⟩ <;> (first | (simp (maxSteps:=5000000) -dsimp only [gr,reduceEqDiff,reduceLT,reduceAdd,reduceMod,Nat.reduceBEq,zaa,zac,zad,zab,h0a,h3a,h4a,zae h (by omega),zez h,e];first | done | rfl | (simp;done)) | assumption | rfl)) (by first | omega | (simp only;omega) | (dsimp only;omega) | (show _ < _;simp;omega))
   ·have e:zhh f (m + 1) = zhh f m:=by rw [zkM,if_pos hf];omega
    exact zag (m + 1) (by refine ⟨?_,?_,?_,by omega⟩ <;> (first | (simp (maxSteps:=5000000) -dsimp only [gr,reduceEqDiff,reduceLT,reduceAdd,reduceMod,Nat.reduceBEq,zaa,zac,zad,zab,h0a,h3a,h4a,zae h (by omega),e];first | done | rfl | (simp;done)) | assumption | rfl)) (by first | omega | (simp only;omega) | (dsimp only;omega) | (show _ < _;simp;omega))
  ·have e:zhh f (m + 1) = zhh f m:=by rw [zkM,if_neg (by rw [hf];decide)]
   exact zag (m + 1) (by refine ⟨?_,?_,?_,by omega⟩ <;> (first | (simp (maxSteps:=5000000) -dsimp only [gr,reduceEqDiff,reduceLT,reduceAdd,reduceMod,Nat.reduceBEq,zaa,zac,zad,zab,h0a,h3a,h4a,zae h (by omega),e];first | done | rfl | (simp;done)) | assumption | rfl)) (by first | omega | (simp only;omega) | (dsimp only;omega) | (show _ < _;simp;omega))
 ·have:m = 64:=by omega
  subst this;rfl
theorem zqB {f:Nat→Bool} {m j:Nat} (hf:f m = true):za8 f j (m + 1) = if j = zaD m then za8 f j m ++ [m] else za8 f j m:=by
 rw [zfb,hf]
 by_cases e:j = zaD m
 ·subst e;simp
 ·have:¬ zaD m = j:=fun h=>e h.symm
  simp [e,this]
theorem zzv {f:Nat→Bool} {m j:Nat} (hf:f m = false):za8 f j (m + 1) = za8 f j m:=by rw [zfb,hf];simp
def zij (f:Nat→Bool):Mat:=(List.range (zeb f)).map fun k=>ofN (za8 f k 64)
theorem znE (f:Nat→Bool):(zij f).length = zeb f:=by simp [zij]
theorem zrR (f:Nat→Bool) {k:Nat} (h:k < zeb f):(zij f).getD k [] = ofN (za8 f k 64):=by simp [zij,List.getD,h]
theorem zk9 (f:Nat→Bool):AC Tryz.prog 179 [u64 (zaW f 64:Nat)] (.tb 25 3 ((List.range (zeb f)).map fun j=>iL (ofN (za8 f j 64)))):=by
 refine AC.go (rs:=[.tmp 2]) zbg zay Tryz.func179 rfl rfl rfl (by kernel_rfl) fun hl=>?_
 have hm1:=zb9 f 64
 have hd:=zhB f
 simp (maxSteps:=5000000) -dsimp only [↓gp,gq,reduceCtorEq,reduceEqDiff,reduceLT,reduceLeDiff,reduceAdd,reduceMul,reduceSub,Nat.reduceBEq,Int.reduceToNat,Int.reduceLE,Int.reduceLT,Int.reduceNeg,reduceMod,zac,zad,zab,zaa,gT,TK.isInt,TK.agg,Array.toList]
 refine zaf (zk8 f) ?_
 have hw:IntKind.i64.wrap ((zeb f:Int) - 1 + 1) = (zeb f:Int):=by rw [zat (by omega) (by omega)];omega
 simp (maxSteps:=5000000) -dsimp only [↓gp,gq,reduceCtorEq,reduceEqDiff,reduceLT,reduceLeDiff,reduceAdd,reduceMul,reduceSub,Nat.reduceBEq,Int.reduceToNat,Int.reduceLE,Int.reduceLT,Int.reduceNeg,reduceMod,zac,zad,zab,zaa,gT,TK.isInt,TK.agg,Array.toList,hw]
 refine ⟨by omega,by omega,?_⟩
 refine zyF (k:=9) (v:=1) (e:=25) (e2:=3) (n:=zeb f) (by simp (maxSteps:=5000000) -dsimp only [gr,reduceEqDiff,reduceLT,reduceAdd,reduceMod,Nat.reduceBEq,zaa,zac,zad,zab,hw]) (fun j=>by simp (maxSteps:=5000000) -dsimp only [gr,reduceEqDiff,reduceLT,reduceAdd,reduceMod,Nat.reduceBEq,zaa,zac,zad,zab]) (fun (m:Nat) s=>s.sl 0 = u64 (zaW f 64:Nat)∧s.sl 3 = .own 9 1∧s.sl 4 = int m∧(m ≤ 64∧TabF s.rw 9 1 25 3 (zeb f) (fun j=>1 + (za8 f j m).length) (fun j=>ofN (za8 f j m)))) (fun m=>64 - m) (0) (fun sX htX hslX hoX=>(by refine ⟨?_,?_,?_,⟨by omega,htX⟩⟩ <;> (first | (simp (maxSteps:=5000000) -dsimp only [gr,reduceEqDiff,reduceLT,reduceAdd,reduceMod,Nat.reduceBEq,zaa,zac,zad,zab,hslX,hoX];first | done | rfl | (simp;done)) | assumption | rfl))) ?_
 intro m sa ⟨h0a,h3a,h4a,hIa⟩
 obtain ⟨hm,ht⟩:=hIa
 simp (maxSteps:=5000000) -dsimp only [↓gp,gq,reduceCtorEq,reduceEqDiff,reduceLT,reduceLeDiff,reduceAdd,reduceMul,reduceSub,Nat.reduceBEq,Int.reduceToNat,Int.reduceLE,Int.reduceLT,Int.reduceNeg,reduceMod,zac,zad,zab,zaa,gT,TK.isInt,TK.agg,Array.toList,h0a,h3a,h4a]
 refine ⟨fun h=>zaf (zdb (zaW f 64) m (by omega) (by omega)) ?_,fun h=>?_⟩
 ·have h:m < 64:=by omega
  rw [zdi f h]
  simp (maxSteps:=5000000) -dsimp only [↓gp,gq,reduceCtorEq,reduceEqDiff,reduceLT,reduceLeDiff,reduceAdd,reduceMul,reduceSub,Nat.reduceBEq,Int.reduceToNat,Int.reduceLE,Int.reduceLT,Int.reduceNeg,reduceMod,zac,zad,zab,zaa,gT,TK.isInt,TK.agg,Array.toList,h0a,h3a,h4a]
  refine ⟨fun hf=>zaf (zbb _) ?_,fun hf=>?_⟩
  ·have hk:zaD m < zeb f:=zhC 64 m h hf
   have hr:=ht.row (zaD m) hk
   have hol:=zfA f (zaD m) hm
   simp (maxSteps:=5000000) -dsimp only [↓gp,gq,reduceCtorEq,reduceEqDiff,reduceLT,reduceLeDiff,reduceAdd,reduceMul,reduceSub,Nat.reduceBEq,Int.reduceToNat,Int.reduceLE,Int.reduceLT,Int.reduceNeg,reduceMod,zac,zad,zab,zaa,gT,TK.isInt,TK.agg,Array.toList,h0a,h3a,h4a,zez h,ht.top,zg8,zyE,hr,zaj]
   refine ⟨hk,hk,by omega,hk,by omega,zag (m + 1) ⟨(by (first | (simp (maxSteps:=5000000) -dsimp only [gr,reduceEqDiff,reduceLT,reduceAdd,reduceMod,Nat.reduceBEq,zaa,zac,zad,zab,h0a,h3a,h4a,zae h (by omega)];first | done | rfl | (simp;done)) | assumption | rfl)),(by (first | (simp (maxSteps:=5000000) -dsimp only [gr,reduceEqDiff,reduceLT,reduceAdd,reduceMod,Nat.reduceBEq,zaa,zac,zad,zab,h0a,h3a,h4a,zae h (by omega)];first | done | rfl | (simp;done)) | assumption | rfl)),(by (first | (simp (maxSteps:=5000000) -dsimp only [gr,reduceEqDiff,reduceLT,reduceAdd,reduceMod,Nat.reduceBEq,zaa,zac,zad,zab,h0a,h3a,h4a,zae h (by omega)];first | done | rfl | (simp;done)) | assumption | rfl)),⟨by omega,ht.add hk (r:=ofN (za8 f (zaD m) m) ++ [(m:Int)]) (by simp (maxSteps:=5000000) -dsimp only [gr,reduceEqDiff,reduceLT,reduceAdd,reduceMod,Nat.reduceBEq,zaa,zac,zad,zab,h0a,h3a,h4a]) (by simp (maxSteps:=5000000) -dsimp only [gr,reduceEqDiff,reduceLT,reduceAdd,reduceMod,Nat.reduceBEq,zaa,zac,zad,zab,h0a,h3a,h4a]) (fun x hx=>by simp (maxSteps:=5000000) -dsimp only [gr,reduceEqDiff,reduceLT,reduceAdd,reduceMod,Nat.reduceBEq,zaa,zac,zad,zab,h0a,h3a,h4a,hx]) (fun j _=>?_) (fun j _=>?_)⟩⟩ (by first | omega | (simp only;omega) | (dsimp only;omega) | (show _ < _;simp;omega))⟩
   ·rw [zqB hf]
    split
    ·rename_i e;subst e;simp;omega
    ·rfl
   ·rw [zqB hf]
    split
    ·rename_i e;subst e;rw [zaR];rfl
    ·rfl
  ·have e:∀ j,za8 f j (m + 1) = za8 f j m:=fun j=>zzv hf
   refine zag (m + 1) ⟨(by (first | (simp (maxSteps:=5000000) -dsimp only [gr,reduceEqDiff,reduceLT,reduceAdd,reduceMod,Nat.reduceBEq,zaa,zac,zad,zab,h0a,h3a,h4a,zae h (by omega)];first | done | rfl | (simp;done)) | assumption | rfl)),(by (first | (simp (maxSteps:=5000000) -dsimp only [gr,reduceEqDiff,reduceLT,reduceAdd,reduceMod,Nat.reduceBEq,zaa,zac,zad,zab,h0a,h3a,h4a,zae h (by omega)];first | done | rfl | (simp;done)) | assumption | rfl)),(by (first | (simp (maxSteps:=5000000) -dsimp only [gr,reduceEqDiff,reduceLT,reduceAdd,reduceMod,Nat.reduceBEq,zaa,zac,zad,zab,h0a,h3a,h4a,zae h (by omega)];first | done | rfl | (simp;done)) | assumption | rfl)),⟨by omega,?_⟩⟩ (by first | omega | (simp only;omega) | (dsimp only;omega) | (show _ < _;simp;omega))
   simp only [e]
   exact ht.same (by simp (maxSteps:=5000000) -dsimp only [gr,reduceEqDiff,reduceLT,reduceAdd,reduceMod,Nat.reduceBEq,zaa,zac,zad,zab]) (fun x=>by simp (maxSteps:=5000000) -dsimp only [gr,reduceEqDiff,reduceLT,reduceAdd,reduceMod,Nat.reduceBEq,zaa,zac,zad,zab])
 ·have:m = 64:=by omega
  subst this
  exact zyG ht (by decide) (by omega)
noncomputable def zDL (n:Int) (xs:List Int):Bool:=zef n xs && !(xs.length == 0)
theorem zdQ {n:Int} {xs:List Int}:zDL n xs = true ↔ zef n xs = true∧0 < xs.length:=by
 unfold zDL
 cases zef n xs <;> simp [Nat.pos_iff_ne_zero]
noncomputable def zuE (n:Int) (xs:List Int):Int:=if zDL n xs = true then (zaD (xs.getD (xs.length - 1) 0).toNat:Int) - 1 else -2
theorem zdR (n:Int) (xs:List Int):AC Tryz.prog 42 [.ag [int n,zbj xs]] (.im (int (zuE n xs))):=by
 refine AC.go (rs:=[.tmp 2]) zbg zay Tryz.func42 rfl rfl rfl (by kernel_rfl) fun hl=>?_
 simp only [zbk,zbD,and_true,zcf,zdW,zcO,true_and] at hl
 simp (maxSteps:=5000000) -dsimp only [↓gp,gq,reduceCtorEq,reduceEqDiff,reduceLT,reduceLeDiff,reduceAdd,reduceMul,reduceSub,Nat.reduceBEq,Int.reduceToNat,Int.reduceLE,Int.reduceLT,Int.reduceNeg,reduceMod,zac,zad,zab,zaa,gT,TK.isInt,TK.agg,Array.toList]
 refine zaf (zbi n xs) ?_
 have hw:0 < xs.length→IntKind.i64.wrap ((xs.length:Int) - 1) = ((xs.length - 1:Nat):Int):=fun h=>by rw [zat (by omega) (by omega)];omega
 by_cases hh:zDL n xs = true
 ·obtain ⟨h1,h2⟩:=zdQ.1 hh
  have hs:=zfi (zrO h1) (k:=xs.length - 1) (by omega)
  have hc:=zcd (s:=xs.getD (xs.length - 1) 0) hs.1 (by omega)
  have hz:((xs.length:Int) == 0) = false:=by rw [beq_eq_false_iff_ne];omega
  have hp:=zcp (s:=(xs.getD (xs.length - 1) 0).toNat) (by omega)
  simp (maxSteps:=5000000) -dsimp only [↓gp,gq,reduceCtorEq,reduceEqDiff,reduceLT,reduceLeDiff,reduceAdd,reduceMul,reduceSub,Nat.reduceBEq,Int.reduceToNat,Int.reduceLE,Int.reduceLT,Int.reduceNeg,reduceMod,zac,zad,zab,zaa,gT,TK.isInt,TK.agg,Array.toList,h1,hz,hw h2,Int.toNat_natCast]
  refine ⟨by omega,by omega,zaf hc ?_⟩
  have hw2:IntKind.i64.wrap ((zaD (xs.getD (xs.length - 1) 0).toNat:Int) - 1) = (zaD (xs.getD (xs.length - 1) 0).toNat:Int) - 1:=zat (by omega) (by omega)
  have hd:zuE n xs = (zaD (xs.getD (xs.length - 1) 0).toNat:Int) - 1:=if_pos hh
  simp (maxSteps:=5000000) -dsimp only [↓gp,gq,reduceCtorEq,reduceEqDiff,reduceLT,reduceLeDiff,reduceAdd,reduceMul,reduceSub,Nat.reduceBEq,Int.reduceToNat,Int.reduceLE,Int.reduceLT,Int.reduceNeg,reduceMod,zac,zad,zab,zaa,gT,TK.isInt,TK.agg,Array.toList,hw2,hd]
 ·have hd:zuE n xs = -2:=if_neg hh
  rw [hd]
  simp (maxSteps:=5000000) -dsimp only [↓gp,gq,reduceCtorEq,reduceEqDiff,reduceLT,reduceLeDiff,reduceAdd,reduceMul,reduceSub,Nat.reduceBEq,Int.reduceToNat,Int.reduceLE,Int.reduceLT,Int.reduceNeg,reduceMod,zac,zad,zab,zaa,gT,TK.isInt,TK.agg,Array.toList]
  exact fun hc h0=>absurd (zdQ.2 ⟨by simpa using hc,by simp at h0;exact List.length_pos_iff.2 h0⟩) hh
theorem zdd (n:Int) (xs:List Int) (hx:okS xs):AC Tryz.prog 153 [int n,zbj xs] (.ag [.im (int n),.fr 3 1 (iL (ofN (zfz (inF xs) true)))]):=by
 refine AC.go (rs:=[.cell 4 27]) zbg zay Tryz.func153 rfl rfl rfl (by kernel_rfl) fun hl=>?_
 simp (maxSteps:=5000000) -dsimp only [↓gp,gq,reduceCtorEq,reduceEqDiff,reduceLT,reduceLeDiff,reduceAdd,reduceMul,reduceSub,Nat.reduceBEq,Int.reduceToNat,Int.reduceLE,Int.reduceLT,Int.reduceNeg,reduceMod,zac,zad,zab,zaa,gT,TK.isInt,TK.agg,Array.toList]
 refine zaf (zeE true xs hx) ?_
 simp (maxSteps:=5000000) -dsimp only [↓gp,gq,reduceCtorEq,reduceEqDiff,reduceLT,reduceLeDiff,reduceAdd,reduceMul,reduceSub,Nat.reduceBEq,Int.reduceToNat,Int.reduceLE,Int.reduceLT,Int.reduceNeg,reduceMod,zac,zad,zab,zaa,gT,TK.isInt,TK.agg,Array.toList]
def cx6 (n:Nat) (l:List Nat):Bool:=decide (1 ≤ n) && decide (n ≤ 6) && (List.range l.length).all fun k =>
 decide (l.getD k 0 < 2 ^ n) && (decide (k = 0) || (if zvt (l.getD (k - 1) 0) = zvt (l.getD k 0) then decide (l.getD (k - 1) 0 < l.getD k 0) else decide (zvt (l.getD (k - 1) 0) < zvt (l.getD k 0)))) &&
 (List.range k).all fun i=>!(l.getD i 0 &&& l.getD k 0 == l.getD i 0)
theorem zqE {l:List Nat} {k:Nat} (h:k < l.length):(ofN l).getD k 0 = ((l.getD k 0:Nat):Int):=zaM h
theorem zF6 {n:Nat} {l:List Nat} (h:cx6 n l = true):cxP n (ofN l):=by
 unfold cx6 at h
 simp only [Bool.and_eq_true,decide_eq_true_eq,List.all_eq_true,List.mem_range,Bool.or_eq_true,Bool.not_eq_true'] at h
 obtain ⟨⟨h1,h6⟩,hall⟩:=h
 refine ⟨by omega,by omega,fun k hk=>?_⟩
 rw [zaj] at hk
 obtain ⟨⟨ha,hb⟩,hc⟩:=hall k hk
 have hp:=zam h6
 have hk64:l.getD k 0 < 64:=by omega
 have at64:∀ i,i < l.length→l.getD i 0 < 64:=fun i hi=>by have:=(hall i hi).1.1;omega
 refine ⟨?_,fun h0=>?_,fun i hi=>?_⟩
 ·rw [zqE hk]
  unfold zch
  refine decide_eq_true ⟨by omega,by omega,by omega,?_⟩
  rw [zdZ]
  omega
 ·have hb:=hb.resolve_left (by omega)
  have hj64:=at64 (k - 1) (by omega)
  rw [zqE hk,zqE (show k - 1 < l.length by omega)]
  generalize l.getD (k - 1) 0 = a at *
  generalize l.getD k 0 = b at *
  have ea:zhR (a:Int) = (zvt a:Nat):=by rw [zhR,if_pos (by omega),Int.toNat_natCast,zmu hj64]
  have eb:zhR (b:Int) = (zvt b:Nat):=by rw [zhR,if_pos (by omega),Int.toNat_natCast,zmu hk64]
  unfold zk0
  rw [ea,eb,decide_eq_true (show (0:Int) ≤ a∧(a:Int) < 64 by omega),decide_eq_true (show (0:Int) ≤ b∧(b:Int) < 64 by omega)]
  simp only [Bool.true_and]
  by_cases he:zvt a = zvt b
  ·rw [if_pos he] at hb
   rw [if_pos (by omega)]
   exact decide_eq_true (by have:=of_decide_eq_true hb;omega)
  ·rw [if_neg he] at hb
   rw [if_neg (by omega)]
   exact decide_eq_true (by have:=of_decide_eq_true hb;omega)
 ·have hq:=hc i hi
  have hi64:=at64 i (by omega)
  rw [zqE hk,zqE (show i < l.length by omega),zbt (by omega) (by omega)]
  intro e
  have e:l.getD i 0 &&& l.getD k 0 = l.getD i 0:=Int.ofNat.inj e
  rw [e] at hq
  simp at hq
theorem zuG (ps:List ByteArray):zrQ ps = ofN (ps.map fun p=>znT p p.size):=by
 unfold zrQ ofN
 rw [List.map_map];rfl
theorem zik {t rest:ByteArray} {n:Nat} {ps:List ByteArray} (size:decide (2 ≤ t.size∧t.size ≤ 1000) = true) (pts:decide (1 ≤ n∧n ≤ 6) = true) (b0:byt t 0 = 48 + n) (b1:byt t 1 = 58) (tail:t.extract 2 t.size = rest)
 (rsize:decide (rest.size ≤ 1000) = true) (full:(rest.toList == (⟨#[]⟩:ByteArray).toList) = false) (parts:zig rest 44 = ps) (plen:decide (0 < ps.length∧ps.length ≤ 1000) = true) (sets:ps.all zDv = true)
 (head:zig t 58 = [chr n,rest]) (cx:cx6 n (ps.map fun p=>znT p p.size) = true):OkText t n rest ps :=
 ⟨of_decide_eq_true size,of_decide_eq_true pts,b0,b1,tail,of_decide_eq_true rsize,full,parts,(of_decide_eq_true plen).2,(of_decide_eq_true plen).1,fun p hp=>zAV (List.all_eq_true.1 sets p hp),head,by rw [zuG];exact zF6 cx⟩
def ex2:ByteArray:=⟨#[54,58,97,99,100,44,98,99,100,44,97,98,101,44,97,99,101,44,98,100,101,44,97,98,102,44,98,99,102,44,97,100,102,44,99,101,102,44,100,101,102]⟩
def ps2:List ByteArray:=[⟨#[97,99,100]⟩,⟨#[98,99,100]⟩,⟨#[97,98,101]⟩,⟨#[97,99,101]⟩,⟨#[98,100,101]⟩,⟨#[97,98,102]⟩,⟨#[98,99,102]⟩,⟨#[97,100,102]⟩,⟨#[99,101,102]⟩,⟨#[100,101,102]⟩]
theorem zH9:OkText ex2 6 ⟨#[97,99,100,44,98,99,100,44,97,98,101,44,97,99,101,44,98,100,101,44,97,98,102,44,98,99,102,44,97,100,102,44,99,101,102,44,100,101,102]⟩ ps2:=zik (by kernel_rfl) (by kernel_rfl) (by kernel_rfl) (by kernel_rfl) (by kernel_rfl) (by kernel_rfl) (by kernel_rfl) (by kernel_rfl) (by kernel_rfl) (by kernel_rfl) (by kernel_rfl) (by kernel_rfl)
def ex3:ByteArray:=⟨#[53,58,97,98,44,98,99,44,99,100,44,97,101,44,100,101]⟩
def ps3:List ByteArray:=[⟨#[97,98]⟩,⟨#[98,99]⟩,⟨#[99,100]⟩,⟨#[97,101]⟩,⟨#[100,101]⟩]
theorem zIa:OkText ex3 5 ⟨#[97,98,44,98,99,44,99,100,44,97,101,44,100,101]⟩ ps3:=zik (by kernel_rfl) (by kernel_rfl) (by kernel_rfl) (by kernel_rfl) (by kernel_rfl) (by kernel_rfl) (by kernel_rfl) (by kernel_rfl) (by kernel_rfl) (by kernel_rfl) (by kernel_rfl) (by kernel_rfl)
def ex4:ByteArray:=⟨#[53,58,97,98,99,44,99,100,101]⟩
def ps4:List ByteArray:=[⟨#[97,98,99]⟩,⟨#[99,100,101]⟩]
theorem zIb:OkText ex4 5 ⟨#[97,98,99,44,99,100,101]⟩ ps4:=zik (by kernel_rfl) (by kernel_rfl) (by kernel_rfl) (by kernel_rfl) (by kernel_rfl) (by kernel_rfl) (by kernel_rfl) (by kernel_rfl) (by kernel_rfl) (by kernel_rfl) (by kernel_rfl) (by kernel_rfl)
def ex5:ByteArray:=⟨#[54,58,97,98,99,44,97,99,100,44,97,98,101,44,97,100,101,44,98,99,102,44,99,100,102,44,98,101,102,44,100,101,102]⟩
def ps5:List ByteArray:=[⟨#[97,98,99]⟩,⟨#[97,99,100]⟩,⟨#[97,98,101]⟩,⟨#[97,100,101]⟩,⟨#[98,99,102]⟩,⟨#[99,100,102]⟩,⟨#[98,101,102]⟩,⟨#[100,101,102]⟩]
theorem zIc:OkText ex5 6 ⟨#[97,98,99,44,97,99,100,44,97,98,101,44,97,100,101,44,98,99,102,44,99,100,102,44,98,101,102,44,100,101,102]⟩ ps5:=zik (by kernel_rfl) (by kernel_rfl) (by kernel_rfl) (by kernel_rfl) (by kernel_rfl) (by kernel_rfl) (by kernel_rfl) (by kernel_rfl) (by kernel_rfl) (by kernel_rfl) (by kernel_rfl) (by kernel_rfl)
def ex6:ByteArray:=⟨#[54,58,97,98,44,99,100,44,101,102]⟩
def ps6:List ByteArray:=[⟨#[97,98]⟩,⟨#[99,100]⟩,⟨#[101,102]⟩]
theorem zId:OkText ex6 6 ⟨#[97,98,44,99,100,44,101,102]⟩ ps6:=zik (by kernel_rfl) (by kernel_rfl) (by kernel_rfl) (by kernel_rfl) (by kernel_rfl) (by kernel_rfl) (by kernel_rfl) (by kernel_rfl) (by kernel_rfl) (by kernel_rfl) (by kernel_rfl) (by kernel_rfl)
def ex7:ByteArray:=⟨#[52,58,97,98,44,98,99,44,99,100]⟩
def ps7:List ByteArray:=[⟨#[97,98]⟩,⟨#[98,99]⟩,⟨#[99,100]⟩]
theorem zIe:OkText ex7 4 ⟨#[97,98,44,98,99,44,99,100]⟩ ps7:=zik (by kernel_rfl) (by kernel_rfl) (by kernel_rfl) (by kernel_rfl) (by kernel_rfl) (by kernel_rfl) (by kernel_rfl) (by kernel_rfl) (by kernel_rfl) (by kernel_rfl) (by kernel_rfl) (by kernel_rfl)
theorem zzr {f:Nat→Bool} {l1 l2:List Nat} {s:Nat} (h:zda f = l1 ++ s :: l2):(∃ t,t ∈ l2∧s &&& t = s) ↔ zf1 f true s = false:=by
 have hpw:=zry f
 rw [h,List.pairwise_append] at hpw
 have hp2:=List.pairwise_cons.1 hpw.2.1
 have hs:s < 64∧f s = true:=zcQ.1 (by rw [h];simp)
 constructor
 ·rintro ⟨t,ht,hst⟩
  have hm:t < 64∧f t = true:=zcQ.1 (by rw [h];simp [ht])
  cases hx:zf1 f true s with
  | false=>rfl
  | true =>
    have:=zcj.1 hx t hm.1 hm.2 hst
    subst this
    exact absurd (hp2.1 t ht) zgh
 ·intro hx
  have:¬ ∀ t,t < 64→f t = true→s &&& t = s→t = s:=fun h=>by rw [zcj.2 h] at hx;cases hx
  obtain ⟨t,ht⟩:=Classical.not_forall.1 this
  have h1:t < 64:=Classical.byContradiction fun h=>ht fun h2=>absurd h2 h
  have h2:f t = true:=Classical.byContradiction fun h=>ht fun _ h2=>absurd h2 h
  have h3:s &&& t = s:=Classical.byContradiction fun h=>ht fun _ _ h2=>absurd h2 h
  have h4:t ≠ s:=fun e=>ht fun _ _ _=>e
  have hlt:=znn h1 hs.1 h3 (Ne.symm h4)
  have hm:t ∈ l1 ++ s :: l2:=h ▸ zcQ.2 ⟨h1,h2⟩
  rcases List.mem_append.1 hm with hm | hm
  ·have:=hpw.2.2 t hm s (by simp)
   unfold znS at this
   omega
  ·rcases List.mem_cons.1 hm with hm | hm
   ·exact absurd hm h4
   ·exact ⟨t,hm,h3⟩
theorem ziw (G:Nat) (hG:G < 18446744073709551616):AC Tryz.prog 177 [u64 G] (.fr 3 1 (iL (ofN (zfz G.testBit true)))):=by
 refine AC.go (rs:=[.tmp 2]) zbg zay Tryz.func177 rfl rfl rfl (by kernel_rfl) fun hl=>?_
 simp (maxSteps:=5000000) -dsimp only [↓gp,gq,reduceCtorEq,reduceEqDiff,reduceLT,reduceLeDiff,reduceAdd,reduceMul,reduceSub,Nat.reduceBEq,Int.reduceToNat,Int.reduceLE,Int.reduceLT,Int.reduceNeg,reduceMod,zac,zad,zab,zaa,gT,TK.isInt,TK.agg,Array.toList]
 refine zaf (zg7 G hG) ?_
 simp (maxSteps:=5000000) -dsimp only [↓gp,gq,reduceCtorEq,reduceEqDiff,reduceLT,reduceLeDiff,reduceAdd,reduceMul,reduceSub,Nat.reduceBEq,Int.reduceToNat,Int.reduceLE,Int.reduceLT,Int.reduceNeg,reduceMod,zac,zad,zab,zaa,gT,TK.isInt,TK.agg,Array.toList,zaj]
 have hfull:=zg5 G.testBit
 have hmem:∀ k,k < (zda G.testBit).length→(zda G.testBit).getD k 0 < 64:=fun k hk=>(zcQ.1 (zax 0 hk)).1
 have hmax:∀ k,k < (zda G.testBit).length→((∃ t,t ∈ (zda G.testBit).drop (k + 1)∧(zda G.testBit).getD k 0 &&& t = (zda G.testBit).getD k 0) ↔ zf1 G.testBit true ((zda G.testBit).getD k 0) = false):=fun k hk=>zzr (zum hk)
 unfold zfz
 generalize zda G.testBit = all at *
 refine zaq (fun (za:Nat × Nat × Bool) s=>match za with | (k,v,fz)=>s.sl 3 = .own 11 1∧s.rw 11 = ⟨1,.sli 3 1 fz (iL (ofN all))⟩∧s.sl 4 = .own 4 v∧s.rw 4 = ⟨v,.sli 3 1 false (iL (ofN ((all.take k).filter (zf1 G.testBit true))))⟩∧s.sl 12 = .own 11 1∧s.sl 13 = int all.length∧s.sl 14 = int k∧(k ≤ all.length)) (fun (k,v,fz)=>all.length - k) ((0,1,false)) (by refine ⟨?_,?_,?_,?_,?_,?_,?_,by simp⟩ <;> (first | (simp (maxSteps:=5000000) -dsimp only [gr,reduceEqDiff,reduceLT,reduceAdd,reduceMod,Nat.reduceBEq,zaa,zac,zad,zab,zaj];first | done | rfl | (simp;done)) | assumption | rfl)) ?_
 intro (k,v,fz) sa ⟨h3a,r11a,h4a,r4a,h12a,h13a,h14a,hIa⟩
 have hflen:((all.take k).filter (zf1 G.testBit true)).length ≤ k:=Nat.le_trans zun (by simp;omega)
 by_cases hk:k < all.length
 ·have hs:=hmem k hk
  have hge:(ofN all).getD k 0 = ((all.getD k 0:Nat):Int):=zaM hk
  have hwk:=zae hk (by omega)
  have hdrop:∀ j,j < (all.drop (k + 1)).length→((all.drop (k + 1)).getD j 0) < 64∧(ofN (all.drop (k + 1))).getD j 0 = (((all.drop (k + 1)).getD j 0:Nat):Int):=fun j hj=>⟨by
   have hm:=List.mem_of_mem_drop (zax 0 hj)
   obtain ⟨i,hi,e⟩:=zbB 0 hm
   rw [← e];exact hmem i hi,zaM hj⟩
  have hdl:(all.drop (k + 1)).length ≤ 448:=by simp;omega
  have hsub:∀ j,j < (all.drop (k + 1)).length→(zdr .i64 (all.getD k 0:Nat) ((ofN (all.drop (k + 1))).getD j 0) = 0 ↔ all.getD k 0 &&& (all.drop (k + 1)).getD j 0 = all.getD k 0):=fun j hj=>by
   have hd:=hdrop j hj
   rw [hd.2,zcJ (by omega) (by omega),← zcV]
   omega
  have hofd:(ofN all).drop (k + 1) = ofN (all.drop (k + 1)):=by unfold ofN;rw [List.map_drop]
  have hmk:=hmax k hk
  have hyes:zf1 G.testBit true (all.getD k 0) = true→ofN ((all.take (k + 1)).filter (zf1 G.testBit true)) = ofN ((all.take k).filter (zf1 G.testBit true)) ++ [((all.getD k 0:Nat):Int)]:=fun h=>by rw [zi3 hk h,zaR,zcK]
  have hno:zf1 G.testBit true (all.getD k 0) = false→ofN ((all.take (k + 1)).filter (zf1 G.testBit true)) = ofN ((all.take k).filter (zf1 G.testBit true)):=fun h=>by rw [zno hk h]
  cases fz with
  | false =>
    simp (maxSteps:=5000000) -dsimp only [↓gp,gq,reduceCtorEq,reduceEqDiff,reduceLT,reduceLeDiff,reduceAdd,reduceMul,reduceSub,Nat.reduceBEq,Int.reduceToNat,Int.reduceLE,Int.reduceLT,Int.reduceNeg,reduceMod,zac,zad,zab,zaa,gT,TK.isInt,TK.agg,Array.toList,h3a,r11a,h4a,r4a,h12a,h13a,h14a,zaj,hge,hwk,Int.toNat_natCast,hofd]
    refine ⟨fun _=>⟨hk,hk,by omega,?_⟩,fun h=>absurd hk h⟩
    refine zaq (fun (j:Nat) s=>s.sl 3 = .own 11 1∧s.rw 11 = ⟨1,.sli 3 1 true (iL (ofN all))⟩∧s.sl 4 = .own 4 v∧s.rw 4 = ⟨v,.sli 3 1 false (iL (ofN ((all.take k).filter (zf1 G.testBit true))))⟩∧s.sl 12 = .own 11 1∧s.sl 13 = int all.length∧s.sl 14 = int k∧s.sl 6 = int (all.getD k 0:Nat)∧s.sl 7 = .v (.bool false)∧s.sl 22 = .sl true 1 (iL (ofN (all.drop (k + 1))))∧s.sl 23 = int (all.drop (k + 1)).length∧s.sl 24 = int j∧(j ≤ (all.drop (k + 1)).length∧∀ i,i < j→all.getD k 0 &&& (all.drop (k + 1)).getD i 0 ≠ all.getD k 0)) (fun j=>(all.drop (k + 1)).length - j) (0) (by refine ⟨?_,?_,?_,?_,?_,?_,?_,?_,?_,?_,?_,?_,by simp⟩ <;> (first | (simp (maxSteps:=5000000) -dsimp only [gr,reduceEqDiff,reduceLT,reduceAdd,reduceMod,Nat.reduceBEq,zaa,zac,zad,zab,h3a,r11a,h4a,r4a,h12a,h13a,h14a,zaj,hge,hwk,hofd];first | done | rfl | (simp;done)) | assumption | rfl)) ?_
    intro j sb ⟨h3b,r11b,h4b,r4b,h12b,h13b,h14b,h6b,h7b,h22b,h23b,h24b,hIb⟩
    obtain ⟨hj,hall⟩:=hIb
    simp (maxSteps:=5000000) -dsimp only [↓gp,gq,reduceCtorEq,reduceEqDiff,reduceLT,reduceLeDiff,reduceAdd,reduceMul,reduceSub,Nat.reduceBEq,Int.reduceToNat,Int.reduceLE,Int.reduceLT,Int.reduceNeg,reduceMod,zac,zad,zab,zaa,gT,TK.isInt,TK.agg,Array.toList,h3b,r11b,h4b,r4b,h12b,h13b,h14b,h6b,h7b,h22b,h23b,h24b,zaj,hge,hwk]
    refine ⟨fun h2=>⟨h2,h2,fun he=>?_,fun he=>?_⟩,fun h2=>?_⟩
    ·have hm:=(hsub j h2).1 (by simpa using he)
     have hx:=hmk.1 ⟨_,zax 0 h2,hm⟩
     have e:=hno hx
     exact zag ((k + 1,v,true)) (by refine ⟨?_,?_,?_,?_,?_,?_,?_,by dsimp only;omega⟩ <;> (first | (simp (maxSteps:=5000000) -dsimp only [gr,reduceEqDiff,reduceLT,reduceAdd,reduceMod,Nat.reduceBEq,zaa,zac,zad,zab,h3a,r11a,h4a,r4a,h12a,h13a,h14a,h3b,r11b,h4b,r4b,h12b,h13b,h14b,h6b,h7b,h22b,h23b,h24b,hwk,e];first | done | rfl | (simp;done)) | assumption | rfl)) (by first | omega | (simp only;omega) | (dsimp only;omega) | (show _ < _;simp;omega))
    ·have hm:¬ all.getD k 0 &&& (all.drop (k + 1)).getD j 0 = all.getD k 0:=fun h=>by rw [(hsub j h2).2 h] at he;simp at he
     have hw2:=zae h2 (by omega)
     have hall2:∀ i,i < j + 1→all.getD k 0 &&& (all.drop (k + 1)).getD i 0 ≠ all.getD k 0:=fun i hi=>by
      rcases Nat.lt_succ_iff_lt_or_eq.1 hi with hi | rfl
      ·exact hall i hi
      ·exact hm
     exact zag (j + 1) (by refine ⟨?_,?_,?_,?_,?_,?_,?_,?_,?_,?_,?_,?_,⟨by omega,hall2⟩⟩ <;> (first | (simp (maxSteps:=5000000) -dsimp only [gr,reduceEqDiff,reduceLT,reduceAdd,reduceMod,Nat.reduceBEq,zaa,zac,zad,zab,h3b,r11b,h4b,r4b,h12b,h13b,h14b,h6b,h7b,h22b,h23b,h24b,hw2];first | done | rfl | (simp;done)) | assumption | rfl)) (by first | omega | (simp only;omega) | (dsimp only;omega) | (show _ < _;simp;omega))
    ·have hx:zf1 G.testBit true (all.getD k 0) = true:=by
      cases hb:zf1 G.testBit true (all.getD k 0) with
      | true=>rfl
      | false =>
        obtain ⟨t,ht,hst⟩:=hmk.2 hb
        obtain ⟨i,hi,rfl⟩:=zbB 0 ht
        exact absurd hst (hall i (by omega))
     have e:=hyes hx
     exact ⟨by omega,zag ((k + 1,v + 1,true)) (by refine ⟨?_,?_,?_,?_,?_,?_,?_,by dsimp only;omega⟩ <;> (first | (simp (maxSteps:=5000000) -dsimp only [gr,reduceEqDiff,reduceLT,reduceAdd,reduceMod,Nat.reduceBEq,zaa,zac,zad,zab,h3a,r11a,h4a,r4a,h12a,h13a,h14a,h3b,r11b,h4b,r4b,h12b,h13b,h14b,h6b,h7b,h22b,h23b,h24b,hwk,e];first | done | rfl | (simp;done)) | assumption | rfl)) (by first | omega | (simp only;omega) | (dsimp only;omega) | (show _ < _;simp;omega))⟩
  | true =>
    simp (maxSteps:=5000000) -dsimp only [↓gp,gq,reduceCtorEq,reduceEqDiff,reduceLT,reduceLeDiff,reduceAdd,reduceMul,reduceSub,Nat.reduceBEq,Int.reduceToNat,Int.reduceLE,Int.reduceLT,Int.reduceNeg,reduceMod,zac,zad,zab,zaa,gT,TK.isInt,TK.agg,Array.toList,h3a,r11a,h4a,r4a,h12a,h13a,h14a,zaj,hge,hwk,Int.toNat_natCast,hofd]
    refine ⟨fun _=>⟨hk,hk,by omega,?_⟩,fun h=>absurd hk h⟩
    refine zaq (fun (j:Nat) s=>s.sl 3 = .own 11 1∧s.rw 11 = ⟨1,.sli 3 1 true (iL (ofN all))⟩∧s.sl 4 = .own 4 v∧s.rw 4 = ⟨v,.sli 3 1 false (iL (ofN ((all.take k).filter (zf1 G.testBit true))))⟩∧s.sl 12 = .own 11 1∧s.sl 13 = int all.length∧s.sl 14 = int k∧s.sl 6 = int (all.getD k 0:Nat)∧s.sl 7 = .v (.bool false)∧s.sl 22 = .sl true 1 (iL (ofN (all.drop (k + 1))))∧s.sl 23 = int (all.drop (k + 1)).length∧s.sl 24 = int j∧(j ≤ (all.drop (k + 1)).length∧∀ i,i < j→all.getD k 0 &&& (all.drop (k + 1)).getD i 0 ≠ all.getD k 0)) (fun j=>(all.drop (k + 1)).length - j) (0) (by refine ⟨?_,?_,?_,?_,?_,?_,?_,?_,?_,?_,?_,?_,by simp⟩ <;> (first | (simp (maxSteps:=5000000) -dsimp only [gr,reduceEqDiff,reduceLT,reduceAdd,reduceMod,Nat.reduceBEq,zaa,zac,zad,zab,h3a,r11a,h4a,r4a,h12a,h13a,h14a,zaj,hge,hwk,hofd];first | done | rfl | (simp;done)) | assumption | rfl)) ?_
    intro j sb ⟨h3b,r11b,h4b,r4b,h12b,h13b,h14b,h6b,h7b,h22b,h23b,h24b,hIb⟩
    obtain ⟨hj,hall⟩:=hIb
    simp (maxSteps:=5000000) -dsimp only [↓gp,gq,reduceCtorEq,reduceEqDiff,reduceLT,reduceLeDiff,reduceAdd,reduceMul,reduceSub,Nat.reduceBEq,Int.reduceToNat,Int.reduceLE,Int.reduceLT,Int.reduceNeg,reduceMod,zac,zad,zab,zaa,gT,TK.isInt,TK.agg,Array.toList,h3b,r11b,h4b,r4b,h12b,h13b,h14b,h6b,h7b,h22b,h23b,h24b,zaj,hge,hwk]
    refine ⟨fun h2=>⟨h2,h2,fun he=>?_,fun he=>?_⟩,fun h2=>?_⟩
    ·have hm:=(hsub j h2).1 (by simpa using he)
     have hx:=hmk.1 ⟨_,zax 0 h2,hm⟩
     have e:=hno hx
     exact zag ((k + 1,v,true)) (by refine ⟨?_,?_,?_,?_,?_,?_,?_,by dsimp only;omega⟩ <;> (first | (simp (maxSteps:=5000000) -dsimp only [gr,reduceEqDiff,reduceLT,reduceAdd,reduceMod,Nat.reduceBEq,zaa,zac,zad,zab,h3a,r11a,h4a,r4a,h12a,h13a,h14a,h3b,r11b,h4b,r4b,h12b,h13b,h14b,h6b,h7b,h22b,h23b,h24b,hwk,e];first | done | rfl | (simp;done)) | assumption | rfl)) (by first | omega | (simp only;omega) | (dsimp only;omega) | (show _ < _;simp;omega))
    ·have hm:¬ all.getD k 0 &&& (all.drop (k + 1)).getD j 0 = all.getD k 0:=fun h=>by rw [(hsub j h2).2 h] at he;simp at he
     have hw2:=zae h2 (by omega)
     have hall2:∀ i,i < j + 1→all.getD k 0 &&& (all.drop (k + 1)).getD i 0 ≠ all.getD k 0:=fun i hi=>by
      rcases Nat.lt_succ_iff_lt_or_eq.1 hi with hi | rfl
      ·exact hall i hi
      ·exact hm
     exact zag (j + 1) (by refine ⟨?_,?_,?_,?_,?_,?_,?_,?_,?_,?_,?_,?_,⟨by omega,hall2⟩⟩ <;> (first | (simp (maxSteps:=5000000) -dsimp only [gr,reduceEqDiff,reduceLT,reduceAdd,reduceMod,Nat.reduceBEq,zaa,zac,zad,zab,h3b,r11b,h4b,r4b,h12b,h13b,h14b,h6b,h7b,h22b,h23b,h24b,hw2];first | done | rfl | (simp;done)) | assumption | rfl)) (by first | omega | (simp only;omega) | (dsimp only;omega) | (show _ < _;simp;omega))
    ·have hx:zf1 G.testBit true (all.getD k 0) = true:=by
      cases hb:zf1 G.testBit true (all.getD k 0) with
      | true=>rfl
      | false =>
        obtain ⟨t,ht,hst⟩:=hmk.2 hb
        obtain ⟨i,hi,rfl⟩:=zbB 0 ht
        exact absurd hst (hall i (by omega))
     have e:=hyes hx
     exact ⟨by omega,zag ((k + 1,v + 1,true)) (by refine ⟨?_,?_,?_,?_,?_,?_,?_,by dsimp only;omega⟩ <;> (first | (simp (maxSteps:=5000000) -dsimp only [gr,reduceEqDiff,reduceLT,reduceAdd,reduceMod,Nat.reduceBEq,zaa,zac,zad,zab,h3a,r11a,h4a,r4a,h12a,h13a,h14a,h3b,r11b,h4b,r4b,h12b,h13b,h14b,h6b,h7b,h22b,h23b,h24b,hwk,e];first | done | rfl | (simp;done)) | assumption | rfl)) (by first | omega | (simp only;omega) | (dsimp only;omega) | (show _ < _;simp;omega))⟩
 ·simp (maxSteps:=5000000) -dsimp only [↓gp,gq,reduceCtorEq,reduceEqDiff,reduceLT,reduceLeDiff,reduceAdd,reduceMul,reduceSub,Nat.reduceBEq,Int.reduceToNat,Int.reduceLE,Int.reduceLT,Int.reduceNeg,reduceMod,zac,zad,zab,zaa,gT,TK.isInt,TK.agg,Array.toList,h3a,r11a,h4a,r4a,h12a,h13a,h14a,zaj]
  refine ⟨fun h=>absurd h hk,fun _=>?_⟩
  have:k = all.length:=by omega
  rw [this,List.take_length]
theorem zc0 (n:Int) (G:Nat) (hG:G < 18446744073709551616):AC Tryz.prog 105 [int n,u64 G] (.ag [.im (int n),.fr 3 1 (iL (ofN (zfz G.testBit true)))]):=by
 refine AC.go (rs:=[.cell 4 27]) zbg zay Tryz.func105 rfl rfl rfl (by kernel_rfl) fun hl=>?_
 simp (maxSteps:=5000000) -dsimp only [↓gp,gq,reduceCtorEq,reduceEqDiff,reduceLT,reduceLeDiff,reduceAdd,reduceMul,reduceSub,Nat.reduceBEq,Int.reduceToNat,Int.reduceLE,Int.reduceLT,Int.reduceNeg,reduceMod,zac,zad,zab,zaa,gT,TK.isInt,TK.agg,Array.toList]
 refine zaf (ziw G hG) ?_
 simp (maxSteps:=5000000) -dsimp only [↓gp,gq,reduceCtorEq,reduceEqDiff,reduceLT,reduceLeDiff,reduceAdd,reduceMul,reduceSub,Nat.reduceBEq,Int.reduceToNat,Int.reduceLE,Int.reduceLT,Int.reduceNeg,reduceMod,zac,zad,zab,zaa,gT,TK.isInt,TK.agg,Array.toList]
def zbK (xs:List Int) (s:Nat):Bool:=xs.all fun x=>!(x.toNat &&& s == x.toNat)
theorem zkK {xs:List Int} {k s:Nat} (h:k < xs.length):zbK (xs.take (k + 1)) s = (zbK (xs.take k) s && !((xs.getD k 0).toNat &&& s == (xs.getD k 0).toNat)):=by
 unfold zbK
 rw [zaT 0 h,List.all_append];simp
theorem zmE {x:Int} (hx:0 ≤ x∧x < 64) {s:Nat} (hs:s < 64):(zdr .i64 x (s:Int) == 0) = (x.toNat &&& s == x.toNat):=by
 have e:x = ((x.toNat:Nat):Int):=by omega
 have h:=zcV (a:=x.toNat) (b:=s)
 rw [e,zcJ (by omega) (by omega),Int.toNat_natCast]
 refine Bool.eq_iff_iff.2 ?_
 rw [beq_iff_eq,beq_iff_eq,← h]
 omega
theorem zrN {x:Int} (hx:0 ≤ x∧x < 64) {s:Nat} (hs:s < 64):(zdL .i64 x (s:Int) != x) = !(x.toNat &&& s == x.toNat):=by
 have e:x = ((x.toNat:Nat):Int):=by omega
 rw [e,zbt (by omega) (by omega),Int.toNat_natCast]
 show (!(_ == _)) = _
 congr 1
 refine Bool.eq_iff_iff.2 ?_
 rw [beq_iff_eq,beq_iff_eq]
 omega
theorem ziv (xs:List Int) (u:Nat) (hx:okS xs) (hs:u < 64):AC Tryz.prog 108 [int u,zbj xs] (.im (bool (zbK xs u))):=by
 refine AC.go (rs:=[.tmp 4]) zbg zay Tryz.func108 rfl rfl rfl (by kernel_rfl) fun hl=>?_
 simp only [zbk,zbD,and_true,zcf,zdW,zcO,zc5,zeh,true_and] at hl
 simp (maxSteps:=5000000) -dsimp only [↓gp,gq,reduceCtorEq,reduceEqDiff,reduceLT,reduceLeDiff,reduceAdd,reduceMul,reduceSub,Nat.reduceBEq,Int.reduceToNat,Int.reduceLE,Int.reduceLT,Int.reduceNeg,reduceMod,zac,zad,zab,zaa,gT,TK.isInt,TK.agg,Array.toList]
 refine zaq (fun (k:Nat) s=>s.sl 0 = int u∧s.sl 7 = zbj xs∧s.sl 8 = int xs.length∧s.sl 9 = int k∧(k ≤ xs.length∧zbK (xs.take k) u = true)) (fun k=>xs.length - k) (0) (by refine ⟨?_,?_,?_,?_,⟨by omega,rfl⟩⟩ <;> (first | (simp (maxSteps:=5000000) -dsimp only [gr,reduceEqDiff,reduceLT,reduceAdd,reduceMod,Nat.reduceBEq,zaa,zac,zad,zab];first | done | rfl | (simp;done)) | assumption | rfl)) ?_
 intro k sa ⟨h0a,h7a,h8a,h9a,hIa⟩
 obtain ⟨hk,hz⟩:=hIa
 simp (maxSteps:=5000000) -dsimp only [↓gp,gq,reduceCtorEq,reduceEqDiff,reduceLT,reduceLeDiff,reduceAdd,reduceMul,reduceSub,Nat.reduceBEq,Int.reduceToNat,Int.reduceLE,Int.reduceLT,Int.reduceNeg,reduceMod,zac,zad,zab,zaa,gT,TK.isInt,TK.agg,Array.toList,h0a,h7a,h8a,h9a]
 refine ⟨fun h=>⟨h,h,fun h0=>?_,fun h0=>?_⟩,fun h=>?_⟩
 ·rw [zmE (zfi hx h) hs] at h0
  cases hb:zbK xs u with
  | false=>rfl
  | true =>
    unfold zbK at hb
    have:=List.all_eq_true.1 hb _ (zax 0 h)
    rw [h0] at this;cases this
 ·rw [zmE (zfi hx h) hs] at h0
  have hs2:=zkK (s:=u) h
  rw [h0,hz] at hs2
  exact zag (k + 1) (by refine ⟨?_,?_,?_,?_,⟨by omega,hs2⟩⟩ <;> (first | (simp (maxSteps:=5000000) -dsimp only [gr,reduceEqDiff,reduceLT,reduceAdd,reduceMod,Nat.reduceBEq,zaa,zac,zad,zab,h0a,h7a,h8a,h9a,zae h hl];first | done | rfl | (simp;done)) | assumption | rfl)) (by first | omega | (simp only;omega) | (dsimp only;omega) | (show _ < _;simp;omega))
 ·rw [List.take_of_length_le (by omega)] at hz
  rw [hz]
theorem zfh (n:Int) (xs:List Int) (s:Nat) (hx:okS xs) (hs:s < 64):AC Tryz.prog 107 [int s,.eref false [int n,zbj xs] 0] (.im (bool (zbK xs s))):=by
 refine AC.go (rs:=[.tmp 3]) zbg zay Tryz.func107 rfl rfl rfl (by kernel_rfl) fun hl=>?_
 simp (maxSteps:=5000000) -dsimp only [↓gp,gq,reduceCtorEq,reduceEqDiff,reduceLT,reduceLeDiff,reduceAdd,reduceMul,reduceSub,Nat.reduceBEq,Int.reduceToNat,Int.reduceLE,Int.reduceLT,Int.reduceNeg,reduceMod,zac,zad,zab,zaa,gT,TK.isInt,TK.agg,Array.toList]
 refine zaf (ziv xs s hx hs) ?_
 simp (maxSteps:=5000000) -dsimp only [↓gp,gq,reduceCtorEq,reduceEqDiff,reduceLT,reduceLeDiff,reduceAdd,reduceMul,reduceSub,Nat.reduceBEq,Int.reduceToNat,Int.reduceLE,Int.reduceLT,Int.reduceNeg,reduceMod,zac,zad,zab,zaa,gT,TK.isInt,TK.agg,Array.toList]
noncomputable def apF (n:Int) (xs:List Int) (s:Nat):Bool:=decide (s < 2 ^ n.toNat) && zbK xs s
noncomputable def apL (n:Int) (xs:List Int):List Int:=if zap n xs = true then ofN (zfz (apF n xs) true) else []
noncomputable def apN (n:Int) (xs:List Int):Int:=if zap n xs = true then n else 0
theorem zfF {n:Int} {xs:List Int} (h:zap n xs = true):okS xs:=fun x hx=>zcm ((zvu (zao.1 h)).2.2.2 x hx)
theorem zbr (n:Int) (xs:List Int):AC Tryz.prog 24 [.ag [int n,zbj xs]] (.tup [.ag [.im (int (apN n xs)),.fr 3 1 (iL (apL n xs))],.im (bool (zap n xs))]):=by
 refine AC.go (rs:=[.cell 2 27,.tmp 3]) zbg zay Tryz.func24 rfl rfl rfl (by kernel_rfl) fun hl=>?_
 simp (maxSteps:=5000000) -dsimp only [↓gp,gq,reduceCtorEq,reduceEqDiff,reduceLT,reduceLeDiff,reduceAdd,reduceMul,reduceSub,Nat.reduceBEq,Int.reduceToNat,Int.reduceLE,Int.reduceLT,Int.reduceNeg,reduceMod,zac,zad,zab,zaa,gT,TK.isInt,TK.agg,Array.toList]
 refine zaf (zbC n xs) ?_
 simp (maxSteps:=5000000) -dsimp only [↓gp,gq,reduceCtorEq,reduceEqDiff,reduceLT,reduceLeDiff,reduceAdd,reduceMul,reduceSub,Nat.reduceBEq,Int.reduceToNat,Int.reduceLE,Int.reduceLT,Int.reduceNeg,reduceMod,zac,zad,zab,zaa,gT,TK.isInt,TK.agg,Array.toList]
 unfold apN apL
 refine ⟨fun hg=>?_,fun hg=>?_⟩
 ·have hg:zap n xs = false:=by simpa using hg
  rw [hg];exact ⟨rfl,rfl,rfl⟩
 ·have hg:zap n xs = true:=by simpa using hg
  have hx:=zfF hg
  obtain ⟨h1,h6,_⟩:=zao.1 hg
  obtain ⟨m,rfl⟩:∃ m:Nat,n = m:=⟨n.toNat,by omega⟩
  have h64:=zam (m:=m) (by omega)
  refine zaf (zcD m (by omega) _ [.eref false [int (m:Nat),zbj xs] 0] (zbK xs) (fun rw=>rfl) fun s hs=>zfh _ xs s hx (by omega)) ?_
  simp (maxSteps:=5000000) -dsimp only [↓gp,gq,reduceCtorEq,reduceEqDiff,reduceLT,reduceLeDiff,reduceAdd,reduceMul,reduceSub,Nat.reduceBEq,Int.reduceToNat,Int.reduceLE,Int.reduceLT,Int.reduceNeg,reduceMod,zac,zad,zab,zaa,gT,TK.isInt,TK.agg,Array.toList]
  refine zaf (zc0 m _ (zg6 _ (by omega))) ?_
  have e:(zaW (zbK xs) (2 ^ m)).testBit = apF m xs:=funext fun s=>by rw [zci];rfl
  rw [e,if_pos hg,if_pos hg,hg]
  simp (maxSteps:=5000000) -dsimp only [↓gp,gq,reduceCtorEq,reduceEqDiff,reduceLT,reduceLeDiff,reduceAdd,reduceMul,reduceSub,Nat.reduceBEq,Int.reduceToNat,Int.reduceLE,Int.reduceLT,Int.reduceNeg,reduceMod,zac,zad,zab,zaa,gT,TK.isInt,TK.agg,Array.toList]
theorem zey (n:Nat) (xs:List Int) (hn:n ≤ 6) (hx:okS xs):AC Tryz.prog 106 [int n,zbj xs] (.ag [.im (int n),.fr 3 1 (iL (ofN (zfz (apF n xs) true)))]):=by
 refine AC.go (rs:=[.cell 4 27]) zbg zay Tryz.func106 rfl rfl rfl (by kernel_rfl) fun hl=>?_
 simp only [zbk,zbD,and_true,zcf,zdW,zcO,zc5,zeh,true_and] at hl
 have h64:=zam hn
 have hsh:zgs .i64 1 (n:Int) = ((2 ^ n:Nat):Int):=zaJ hn
 have hun:IntKind.u64.wrap (n:Int) = (n:Int):=zaL (by omega)
 simp (maxSteps:=5000000) -dsimp only [↓gp,gq,reduceCtorEq,reduceEqDiff,reduceLT,reduceLeDiff,reduceAdd,reduceMul,reduceSub,Nat.reduceBEq,Int.reduceToNat,Int.reduceLE,Int.reduceLT,Int.reduceNeg,reduceMod,zac,zad,zab,zaa,gT,TK.isInt,TK.agg,Array.toList]
 refine zaq (fun (za:Nat × Nat) s=>match za with | (t,v)=>s.sl 0 = int n∧s.sl 1 = zbj xs∧s.sl 4 = .ref 4 1 0∧s.rw 4 = ⟨1,.box 27 [int 0,.v (.slice none 0 0)]⟩∧s.sl 5 = .own 9 v∧s.rw 9 = ⟨v,.sli 3 1 false (iL (ofN ((List.range t).filter (zbK xs))))⟩∧s.sl 6 = int t∧(t ≤ 2 ^ n)) (fun (t,v)=>2 ^ n - t) ((0,1)) (by refine ⟨?_,?_,?_,?_,?_,?_,?_,by simp⟩ <;> (first | (simp (maxSteps:=5000000) -dsimp only [gr,reduceEqDiff,reduceLT,reduceAdd,reduceMod,Nat.reduceBEq,zaa,zac,zad,zab];first | done | rfl | (simp;done)) | assumption | rfl)) ?_
 intro (t,v) sa ⟨h0a,h1a,h4a,r4a,h5a,r9a,h6a,hIa⟩
 have hfl:((List.range t).filter (zbK xs)).length ≤ 64:=by
  have:=List.length_filter_le (zbK xs) (List.range t)
  rw [List.length_range] at this
  omega
 simp (maxSteps:=5000000) -dsimp only [↓gp,gq,reduceCtorEq,reduceEqDiff,reduceLT,reduceLeDiff,reduceAdd,reduceMul,reduceSub,Nat.reduceBEq,Int.reduceToNat,Int.reduceLE,Int.reduceLT,Int.reduceNeg,reduceMod,zac,zad,zab,zaa,gT,TK.isInt,TK.agg,Array.toList,h0a,h1a,h4a,r4a,h5a,r9a,h6a,hsh,hun]
 refine ⟨fun h=>?_,fun h=>?_⟩
 ·have hyes:zbK xs t = true→ofN ((List.range (t + 1)).filter (zbK xs)) = ofN ((List.range t).filter (zbK xs)) ++ [(t:Int)]:=fun h=>by
   rw [List.range_succ,List.filter_append,zaR]
   simp [h,ofN]
  have hno:zbK xs t = false→ofN ((List.range (t + 1)).filter (zbK xs)) = ofN ((List.range t).filter (zbK xs)):=fun h=>by
   rw [List.range_succ,List.filter_append,zaR]
   simp [h,ofN]
  have hz:zbK (xs.take 0) t = true:=rfl
  refine zaq (fun (k:Nat) s=>s.sl 0 = int n∧s.sl 1 = zbj xs∧s.sl 4 = .ref 4 1 0∧s.rw 4 = ⟨1,.box 27 [int 0,.v (.slice none 0 0)]⟩∧s.sl 5 = .own 9 v∧s.rw 9 = ⟨v,.sli 3 1 false (iL (ofN ((List.range t).filter (zbK xs))))⟩∧s.sl 6 = int t∧s.sl 7 = .v (.bool (zbK (xs.take k) t))∧s.sl 8 = int k∧(k ≤ xs.length)) (fun k=>xs.length - k) (0) (by refine ⟨?_,?_,?_,?_,?_,?_,?_,?_,?_,by omega⟩ <;> (first | (simp (maxSteps:=5000000) -dsimp only [gr,reduceEqDiff,reduceLT,reduceAdd,reduceMod,Nat.reduceBEq,zaa,zac,zad,zab,h0a,h1a,h4a,r4a,h5a,r9a,h6a,hz];first | done | rfl | (simp;done)) | assumption | rfl)) ?_
  intro k sb ⟨h0b,h1b,h4b,r4b,h5b,r9b,h6b,h7b,h8b,hIb⟩
  by_cases hk:k < xs.length
  ·have hs2:=zkK (s:=t) hk
   have htest:=zrN (zfi hx hk) (s:=t) (by omega)
   simp (maxSteps:=5000000) -dsimp only [↓gp,gq,reduceCtorEq,reduceEqDiff,reduceLT,reduceLeDiff,reduceAdd,reduceMul,reduceSub,Nat.reduceBEq,Int.reduceToNat,Int.reduceLE,Int.reduceLT,Int.reduceNeg,reduceMod,zac,zad,zab,zaa,gT,TK.isInt,TK.agg,Array.toList,h0b,h1b,h4b,r4b,h5b,r9b,h6b,h7b,h8b,htest]
   refine ⟨fun _=>⟨by kernel_rfl,fun h3=>⟨hk,hk,hk,hk,?_⟩,fun h3=>?_⟩,fun h=>absurd hk h⟩
   ·rw [h3,Bool.true_and] at hs2
    exact zag (k + 1) (by refine ⟨?_,?_,?_,?_,?_,?_,?_,?_,?_,by omega⟩ <;> (first | (simp (maxSteps:=5000000) -dsimp only [gr,reduceEqDiff,reduceLT,reduceAdd,reduceMod,Nat.reduceBEq,zaa,zac,zad,zab,h0b,h1b,h4b,r4b,h5b,r9b,h6b,h7b,h8b,zae hk (by omega),hs2];first | done | rfl | (simp;done)) | assumption | rfl)) (by first | omega | (simp only;omega) | (dsimp only;omega) | (show _ < _;simp;omega))
   ·rw [h3,Bool.false_and] at hs2
    exact zag (k + 1) (by refine ⟨?_,?_,?_,?_,?_,?_,?_,?_,?_,by omega⟩ <;> (first | (simp (maxSteps:=5000000) -dsimp only [gr,reduceEqDiff,reduceLT,reduceAdd,reduceMod,Nat.reduceBEq,zaa,zac,zad,zab,h0b,h1b,h4b,r4b,h5b,r9b,h6b,h7b,h8b,zae hk (by omega),hs2];first | done | rfl | (simp;done)) | assumption | rfl)) (by first | omega | (simp only;omega) | (dsimp only;omega) | (show _ < _;simp;omega))
  ·have ht:xs.take k = xs:=List.take_of_length_le (by omega)
   rw [ht] at h7b
   simp (maxSteps:=5000000) -dsimp only [↓gp,gq,reduceCtorEq,reduceEqDiff,reduceLT,reduceLeDiff,reduceAdd,reduceMul,reduceSub,Nat.reduceBEq,Int.reduceToNat,Int.reduceLE,Int.reduceLT,Int.reduceNeg,reduceMod,zac,zad,zab,zaa,gT,TK.isInt,TK.agg,Array.toList,h0b,h1b,h4b,r4b,h5b,r9b,h6b,h7b,h8b]
   refine ⟨fun h=>absurd h hk,fun _=>⟨fun hb=>?_,fun hb=>?_⟩⟩
   ·have e:=hyes hb
    exact ⟨by rw [zaj];omega,zag ((t + 1,v + 1)) (by refine ⟨?_,?_,?_,?_,?_,?_,?_,by dsimp only;omega⟩ <;> (first | (simp (maxSteps:=5000000) -dsimp only [gr,reduceEqDiff,reduceLT,reduceAdd,reduceMod,Nat.reduceBEq,zaa,zac,zad,zab,h0a,h1a,h4a,r4a,h5a,r9a,h6a,h0b,h1b,h4b,r4b,h5b,r9b,h6b,h7b,h8b,zae h (by omega),e];first | done | rfl | (simp;done)) | assumption | rfl)) (by first | omega | (simp only;omega) | (dsimp only;omega) | (show _ < _;simp;omega))⟩
   ·have e:=hno hb
    exact zag ((t + 1,v)) (by refine ⟨?_,?_,?_,?_,?_,?_,?_,by dsimp only;omega⟩ <;> (first | (simp (maxSteps:=5000000) -dsimp only [gr,reduceEqDiff,reduceLT,reduceAdd,reduceMod,Nat.reduceBEq,zaa,zac,zad,zab,h0a,h1a,h4a,r4a,h5a,r9a,h6a,h0b,h1b,h4b,r4b,h5b,r9b,h6b,h7b,h8b,zae h (by omega),e];first | done | rfl | (simp;done)) | assumption | rfl)) (by first | omega | (simp only;omega) | (dsimp only;omega) | (show _ < _;simp;omega))
 ·have:t = 2 ^ n:=by omega
  subst this
  refine zaf (zdd n _ (zqz fun i hi=>?_)) ?_
  ·have:=List.mem_range.1 (List.mem_filter.1 hi).1;omega
  ·have e:inF (ofN ((List.range (2 ^ n)).filter (zbK xs))) = apF n xs:=by funext s;exact zAC
   rw [e]
   simp (maxSteps:=5000000) -dsimp only [↓gp,gq,reduceCtorEq,reduceEqDiff,reduceLT,reduceLeDiff,reduceAdd,reduceMul,reduceSub,Nat.reduceBEq,Int.reduceToNat,Int.reduceLE,Int.reduceLT,Int.reduceNeg,reduceMod,zac,zad,zab,zaa,gT,TK.isInt,TK.agg,Array.toList,h0a,h1a,h4a,r4a,h5a,r9a,h6a]
theorem zgm (n:Int) (xs:List Int):AC Tryz.prog 25 [.ag [int n,zbj xs]] (.tup [.ag [.im (int (apN n xs)),.fr 3 1 (iL (apL n xs))],.im (bool (zap n xs))]):=by
 refine AC.go (rs:=[.cell 2 27,.tmp 3]) zbg zay Tryz.func25 rfl rfl rfl (by kernel_rfl) fun hl=>?_
 simp (maxSteps:=5000000) -dsimp only [↓gp,gq,reduceCtorEq,reduceEqDiff,reduceLT,reduceLeDiff,reduceAdd,reduceMul,reduceSub,Nat.reduceBEq,Int.reduceToNat,Int.reduceLE,Int.reduceLT,Int.reduceNeg,reduceMod,zac,zad,zab,zaa,gT,TK.isInt,TK.agg,Array.toList]
 refine zaf (zbn n xs) ?_
 simp (maxSteps:=5000000) -dsimp only [↓gp,gq,reduceCtorEq,reduceEqDiff,reduceLT,reduceLeDiff,reduceAdd,reduceMul,reduceSub,Nat.reduceBEq,Int.reduceToNat,Int.reduceLE,Int.reduceLT,Int.reduceNeg,reduceMod,zac,zad,zab,zaa,gT,TK.isInt,TK.agg,Array.toList]
 unfold apN apL
 refine ⟨fun hg=>?_,fun hg=>?_⟩
 ·have hg:zap n xs = false:=by simpa using hg
  rw [hg];exact ⟨rfl,rfl,rfl⟩
 ·have hg:zap n xs = true:=by simpa using hg
  have hx:=zfF hg
  obtain ⟨h1,h6,_⟩:=zao.1 hg
  obtain ⟨m,rfl⟩:∃ m:Nat,n = m:=⟨n.toNat,by omega⟩
  refine zaf (zey m xs (by omega) hx) ?_
  rw [if_pos hg,if_pos hg,hg]
  simp (maxSteps:=5000000) -dsimp only [↓gp,gq,reduceCtorEq,reduceEqDiff,reduceLT,reduceLeDiff,reduceAdd,reduceMul,reduceSub,Nat.reduceBEq,Int.reduceToNat,Int.reduceLE,Int.reduceLT,Int.reduceNeg,reduceMod,zac,zad,zab,zaa,gT,TK.isInt,TK.agg,Array.toList]
def zeN:List Int→Int→Int
 | [],_=>0
 | e :: xs,c=>if zdL .i64 e c = 0 then max (zeN xs c) (1 + zeN xs (ior .i64 c e)) else zeN xs c
theorem zdB:∀ (xs:List Int) (c:Int),0 ≤ zeN xs c∧zeN xs c ≤ xs.length:=by
 intro xs
 induction xs with
 | nil=>intro c;simp [zeN]
 | cons e xs ih =>
   intro c
   have h1:=ih c
   have h2:=ih (ior .i64 c e)
   simp only [zeN,List.length_cons]
   split <;> omega
theorem zdC (e:Int):zdL .i64 0 e = 0:=by
 have h:BitVec.ofInt 64 (0:Int) &&& BitVec.ofInt 64 e = 0#64:=by
  have:BitVec.ofInt 64 (0:Int) = 0#64:=by decide
  rw [this];simp
 show IntKind.i64.wrap (((BitVec.ofInt 64 (0:Int) &&& BitVec.ofInt 64 e).toNat:Nat):Int) = 0
 rw [h];decide
theorem zlc (n:Int) (xs:List Int) (hx:xs.length ≤ 1048576):∀ (len at0:Nat) (c:Int),at0 + len = xs.length→AC Tryz.prog 122 [.ag [int n,zbj xs],int at0,int c,bool false] (.im (int (zeN (xs.drop at0) c))):=by
 intro len
 induction len with
 | zero =>
   intro at0 c hat
   refine AC.go (rs:=[.tmp 8]) zbg zay Tryz.func122 rfl rfl rfl (by kernel_rfl) fun hl=>?_
   simp (maxSteps:=5000000) -dsimp only [↓gp,gq,reduceCtorEq,Nat.reduceEqDiff,Nat.reduceLT,Nat.reduceLeDiff,Nat.reduceAdd,Nat.reduceMul,Nat.reduceSub,Nat.reduceBEq,Int.reduceToNat,Int.reduceLE,Int.reduceLT,Int.reduceNeg,Nat.reduceMod,zac,zad,zab,zaa,gT,TK.isInt,TK.agg,Array.toList]
   refine ⟨fun h=>?_,fun h=>?_⟩
   ·rw [List.drop_of_length_le (by omega)];rfl
   ·exfalso
    simp at h
    omega
 | succ len ih =>
   intro at0 c hat
   refine AC.go (rs:=[.tmp 8]) zbg zay Tryz.func122 rfl rfl rfl (by kernel_rfl) fun hl=>?_
   have hw:IntKind.i64.wrap ((at0:Int) + 1) = ((at0 + 1:Nat):Int):=zae (n:=xs.length) (by omega) (by omega)
   simp (maxSteps:=5000000) -dsimp only [↓gp,gq,reduceCtorEq,Nat.reduceEqDiff,Nat.reduceLT,Nat.reduceLeDiff,Nat.reduceAdd,Nat.reduceMul,Nat.reduceSub,Nat.reduceBEq,Int.reduceToNat,Int.reduceLE,Int.reduceLT,Int.reduceNeg,Nat.reduceMod,zac,zad,zab,zaa,gT,TK.isInt,TK.agg,Array.toList,hw]
   refine ⟨fun h=>?_,fun h=>zaf (ih (at0 + 1) c (by omega)) ?_⟩
   ·exfalso
    simp at h
    omega
   ·simp (maxSteps:=5000000) -dsimp only [↓gp,gq,reduceCtorEq,Nat.reduceEqDiff,Nat.reduceLT,Nat.reduceLeDiff,Nat.reduceAdd,Nat.reduceMul,Nat.reduceSub,Nat.reduceBEq,Int.reduceToNat,Int.reduceLE,Int.reduceLT,Int.reduceNeg,Nat.reduceMod,zac,zad,zab,zaa,gT,TK.isInt,TK.agg,Array.toList,hw]
    have hlt:at0 < xs.length:=by omega
    refine ⟨hlt,hlt,?_⟩
    refine zaq (fun (_:Unit) s=>s.sl 4 = .ref 4 1 0∧s.rw 4 = ⟨1,.box 36 [int n,zbj xs]⟩∧s.sl 1 = int at0∧s.sl 2 = int c∧s.sl 3 = bool false∧s.sl 9 = int (zeN (xs.drop (at0 + 1)) c)∧s.sl 10 = int (xs.getD at0 0)∧s.sl 11 = int 0∧s.sl 12 = int 0) (fun _=>0) () ⟨by simp (maxSteps:=5000000) -dsimp only [gr,Nat.reduceEqDiff,Nat.reduceLT,Nat.reduceAdd,Nat.reduceMod,Nat.reduceBEq,zaa,zac,zad,zab],by simp (maxSteps:=5000000) -dsimp only [gr,Nat.reduceEqDiff,Nat.reduceLT,Nat.reduceAdd,Nat.reduceMod,Nat.reduceBEq,zaa,zac,zad,zab],by simp (maxSteps:=5000000) -dsimp only [gr,Nat.reduceEqDiff,Nat.reduceLT,Nat.reduceAdd,Nat.reduceMod,Nat.reduceBEq,zaa,zac,zad,zab],by simp (maxSteps:=5000000) -dsimp only [gr,Nat.reduceEqDiff,Nat.reduceLT,Nat.reduceAdd,Nat.reduceMod,Nat.reduceBEq,zaa,zac,zad,zab],by simp (maxSteps:=5000000) -dsimp only [gr,Nat.reduceEqDiff,Nat.reduceLT,Nat.reduceAdd,Nat.reduceMod,Nat.reduceBEq,zaa,zac,zad,zab],by simp (maxSteps:=5000000) -dsimp only [gr,Nat.reduceEqDiff,Nat.reduceLT,Nat.reduceAdd,Nat.reduceMod,Nat.reduceBEq,zaa,zac,zad,zab],by simp (maxSteps:=5000000) -dsimp only [gr,Nat.reduceEqDiff,Nat.reduceLT,Nat.reduceAdd,Nat.reduceMod,Nat.reduceBEq,zaa,zac,zad,zab],by simp (maxSteps:=5000000) -dsimp only [gr,Nat.reduceEqDiff,Nat.reduceLT,Nat.reduceAdd,Nat.reduceMod,Nat.reduceBEq,zaa,zac,zad,zab],by simp (maxSteps:=5000000) -dsimp only [gr,Nat.reduceEqDiff,Nat.reduceLT,Nat.reduceAdd,Nat.reduceMod,Nat.reduceBEq,zaa,zac,zad,zab]⟩ ?_
    intro _ s1 ⟨h4,r4,h1,h2,h3,h9,h10,h11,h12⟩
    have hz:IntKind.i64.wrap (0 - 0) = 0:=by decide
    simp (maxSteps:=5000000) -dsimp only [↓gp,gq,reduceCtorEq,Nat.reduceEqDiff,Nat.reduceLT,Nat.reduceLeDiff,Nat.reduceAdd,Nat.reduceMul,Nat.reduceSub,Nat.reduceBEq,Int.reduceToNat,Int.reduceLE,Int.reduceLT,Int.reduceNeg,Nat.reduceMod,zac,zad,zab,zaa,gT,TK.isInt,TK.agg,Array.toList,h4,r4,h1,h2,h3,h9,h10,h11,h12,zdC,hz,hw]
    have hm:=zdB (xs.drop (at0 + 1)) (ior .i64 c (xs.getD at0 0))
    have hdl:(xs.drop (at0 + 1)).length = xs.length - (at0 + 1):=by simp
    rw [zqc 0 hlt]
    simp only [zeN]
    have hw2:IntKind.i64.wrap (1 + zeN (xs.drop (at0 + 1)) (ior .i64 c (xs.getD at0 0))) = 1 + zeN (xs.drop (at0 + 1)) (ior .i64 c (xs.getD at0 0)):=zat (by omega) (by omega)
    refine ⟨fun _=>⟨fun he=>zaf (ih (at0 + 1) _ (by omega)) ?_,fun he=>?_⟩,fun _=>⟨fun he=>zaf (ih (at0 + 1) _ (by omega)) ?_,fun he=>?_⟩⟩
    ·simp (maxSteps:=5000000) -dsimp only [↓gp,gq,reduceCtorEq,Nat.reduceEqDiff,Nat.reduceLT,Nat.reduceLeDiff,Nat.reduceAdd,Nat.reduceMul,Nat.reduceSub,Nat.reduceBEq,Int.reduceToNat,Int.reduceLE,Int.reduceLT,Int.reduceNeg,Nat.reduceMod,zac,zad,zab,zaa,gT,TK.isInt,TK.agg,Array.toList,h4,r4,h1,h2,h3,h9,h10,h11,h12,zdC,hz,hw,hw2]
     refine zaf (zhQ _ _) ?_
     simp (maxSteps:=5000000) -dsimp only [↓gp,gq,reduceCtorEq,Nat.reduceEqDiff,Nat.reduceLT,Nat.reduceLeDiff,Nat.reduceAdd,Nat.reduceMul,Nat.reduceSub,Nat.reduceBEq,Int.reduceToNat,Int.reduceLE,Int.reduceLT,Int.reduceNeg,Nat.reduceMod,zac,zad,zab,zaa,gT,TK.isInt,TK.agg,Array.toList,h4,r4,h1,h2,h3,h9,h10,h11,h12,zdC,hz,hw,hw2]
     rw [if_pos (by simpa using he)]
    ·rw [if_neg (by simpa using he)]
    ·simp (maxSteps:=5000000) -dsimp only [↓gp,gq,reduceCtorEq,Nat.reduceEqDiff,Nat.reduceLT,Nat.reduceLeDiff,Nat.reduceAdd,Nat.reduceMul,Nat.reduceSub,Nat.reduceBEq,Int.reduceToNat,Int.reduceLE,Int.reduceLT,Int.reduceNeg,Nat.reduceMod,zac,zad,zab,zaa,gT,TK.isInt,TK.agg,Array.toList,h4,r4,h1,h2,h3,h9,h10,h11,h12,zdC,hz,hw,hw2]
     refine zaf (zhQ _ _) ?_
     simp (maxSteps:=5000000) -dsimp only [↓gp,gq,reduceCtorEq,Nat.reduceEqDiff,Nat.reduceLT,Nat.reduceLeDiff,Nat.reduceAdd,Nat.reduceMul,Nat.reduceSub,Nat.reduceBEq,Int.reduceToNat,Int.reduceLE,Int.reduceLT,Int.reduceNeg,Nat.reduceMod,zac,zad,zab,zaa,gT,TK.isInt,TK.agg,Array.toList,h4,r4,h1,h2,h3,h9,h10,h11,h12,zdC,hz,hw,hw2]
     rw [if_pos (by simpa using he)]
    ·rw [if_neg (by simpa using he)]
noncomputable def zf4 (n:Int) (xs:List Int):Int:=if zap n xs = true then zeN xs 0 else -1
theorem zb1 (n:Int) (xs:List Int) (hx:xs.length ≤ 1048576):AC Tryz.prog 43 [.ag [int n,zbj xs]] (.im (int (zf4 n xs))):=by
 refine AC.go (rs:=[.tmp 2]) zbg zay Tryz.func43 rfl rfl rfl (by kernel_rfl) fun hl=>?_
 simp (maxSteps:=5000000) -dsimp only [↓gp,gq,reduceCtorEq,Nat.reduceEqDiff,Nat.reduceLT,Nat.reduceLeDiff,Nat.reduceAdd,Nat.reduceMul,Nat.reduceSub,Nat.reduceBEq,Int.reduceToNat,Int.reduceLE,Int.reduceLT,Int.reduceNeg,Nat.reduceMod,zac,zad,zab,zaa,gT,TK.isInt,TK.agg,Array.toList]
 refine zaf (zbn n xs) ?_
 simp (maxSteps:=5000000) -dsimp only [↓gp,gq,reduceCtorEq,Nat.reduceEqDiff,Nat.reduceLT,Nat.reduceLeDiff,Nat.reduceAdd,Nat.reduceMul,Nat.reduceSub,Nat.reduceBEq,Int.reduceToNat,Int.reduceLE,Int.reduceLT,Int.reduceNeg,Nat.reduceMod,zac,zad,zab,zaa,gT,TK.isInt,TK.agg,Array.toList]
 unfold zf4
 refine ⟨fun h=>?_,fun h=>zaf (zlc n xs hx xs.length 0 0 (by omega)) ?_⟩
 ·rw [Bool.not_eq_true'] at h
  rw [h];rfl
 ·rw [Bool.not_eq_false'] at h
  simp (maxSteps:=5000000) -dsimp only [↓gp,gq,reduceCtorEq,Nat.reduceEqDiff,Nat.reduceLT,Nat.reduceLeDiff,Nat.reduceAdd,Nat.reduceMul,Nat.reduceSub,Nat.reduceBEq,Int.reduceToNat,Int.reduceLE,Int.reduceLT,Int.reduceNeg,Nat.reduceMod,zac,zad,zab,zaa,gT,TK.isInt,TK.agg,Array.toList]
  rw [h];rfl
theorem zCA {m:Nat} (h1:1 ≤ m) (hm:m ≤ 6) {f:Nat→Bool} (hf:∀ s,s < 64→f s = true→s < 2 ^ m):zef (m:Int) (ofN (zfz f true)) = true:=by
 refine ziE ⟨(by omega:(1:Int) ≤ (m:Int)),(by omega:(m:Int) ≤ 6),fun k hk2=>?_⟩
 rw [zaj] at hk2
 have hpw:=zyR f true
 have hmem:=fun i (hi:i < (zfz f true).length)=>zdN.1 (zax 0 hi)
 generalize zfz f true = ys at *
 have hbef:∀ i j,i < j→j < ys.length→znS (ys.getD i 0) (ys.getD j 0):=fun i j hij hj=>by
  have:=List.pairwise_iff_getElem.1 hpw i j (by omega) hj hij
  have a:ys.getD i 0 = ys[i]'(by omega):=by simp [List.getD,show i < ys.length by omega]
  have b:ys.getD j 0 = ys[j]:=by simp [List.getD,hj]
  rw [a,b];exact this
 refine ⟨?_,fun h0=>?_,fun i hi=>?_⟩
 ·have h1:=hmem k hk2
  have h2:=hf _ h1.1.1 h1.1.2
  rw [zaM hk2]
  unfold zch
  rw [decide_eq_true_iff]
  refine ⟨by omega,by omega,by omega,?_⟩
  rw [zdZ];exact_mod_cast h2
 ·rw [zaM hk2,zaM (by omega)]
  have hb:=hbef (k - 1) k (by omega) hk2
  have:=(hmem k hk2).1.1
  have:=(hmem (k - 1) (by omega)).1.1
  unfold zk0
  unfold znS at hb
  rw [zez (by omega),zez (by omega)]
  simp only [Bool.and_eq_true,decide_eq_true_iff]
  refine ⟨by omega,by omega,?_⟩
  split
  ·rw [decide_eq_true_iff];omega
  ·rw [decide_eq_true_iff];omega
 ·have hlti:=(hmem i (by omega)).1.1
  have hltk:=(hmem k hk2).1
  rw [zaM hk2,zaM (by omega),zbt (by omega) (by omega)]
  intro e
  have:=zcj.1 (hmem i (by omega)).2 (ys.getD k 0) hltk.1 hltk.2 (by omega)
  have hb:=hbef i k hi hk2
  rw [this] at hb
  exact zgh hb
def zhK (n k:Int):Int:=if 0 ≤ n∧0 ≤ k∧k ≤ n then (bin n.toNat k.toNat:Nat) else 0
theorem zde (n k:Int) (hn:n ≤ 57):AC Tryz.prog 41 [int n,int k] (.im (int (zhK n k))):=by
 refine AC.go (rs:=[.tmp 4]) zbg zay Tryz.func41 rfl rfl rfl (by kernel_rfl) fun hl=>?_
 simp (maxSteps:=5000000) -dsimp only [↓gp,gq,reduceCtorEq,reduceEqDiff,reduceLT,reduceLeDiff,reduceAdd,reduceMul,reduceSub,Nat.reduceBEq,Int.reduceToNat,Int.reduceLE,Int.reduceLT,Int.reduceNeg,reduceMod,zac,zad,zab,zaa,gT,TK.isInt,TK.agg,Array.toList]
 refine zaf (zbo _ _ _) ?_
 simp (maxSteps:=5000000) -dsimp only [↓gp,gq,reduceCtorEq,reduceEqDiff,reduceLT,reduceLeDiff,reduceAdd,reduceMul,reduceSub,Nat.reduceBEq,Int.reduceToNat,Int.reduceLE,Int.reduceLT,Int.reduceNeg,reduceMod,zac,zad,zab,zaa,gT,TK.isInt,TK.agg,Array.toList]
 refine ⟨fun h=>zaf (zbo _ _ _) ?_,fun h=>?_⟩
 ·simp (maxSteps:=5000000) -dsimp only [↓gp,gq,reduceCtorEq,reduceEqDiff,reduceLT,reduceLeDiff,reduceAdd,reduceMul,reduceSub,Nat.reduceBEq,Int.reduceToNat,Int.reduceLE,Int.reduceLT,Int.reduceNeg,reduceMod,zac,zad,zab,zaa,gT,TK.isInt,TK.agg,Array.toList]
  refine ⟨fun h2=>?_,fun h2=>?_⟩
  ·unfold zhK
   rw [if_neg (by simp at h2;omega)]
  ·have h1:0 ≤ n:=by simp at h;omega
   have h3:0 ≤ k∧k ≤ n:=by simp at h2;omega
   obtain ⟨n,rfl⟩:=Int.eq_ofNat_of_zero_le h1
   obtain ⟨k,rfl⟩:=Int.eq_ofNat_of_zero_le h3.1
   have hn:n ≤ 57:=by omega
   have hk:k ≤ n:=by omega
   refine zaq (fun (i:Nat) s=>s.sl 0 = int n∧s.sl 1 = int k∧s.sl 5 = int (bin n i:Nat)∧s.sl 6 = int i∧(i ≤ k)) (fun i=>k - i) (0) (by refine ⟨?_,?_,?_,?_,by omega⟩ <;> (first | (simp (maxSteps:=5000000) -dsimp only [gr,reduceEqDiff,reduceLT,reduceAdd,reduceMod,Nat.reduceBEq,zaa,zac,zad,zab,zi2];first | done | rfl | (simp;done)) | assumption | rfl)) ?_
   intro i sa ⟨h0a,h1a,h5a,h6a,hIa⟩
   simp (maxSteps:=5000000) -dsimp only [↓gp,gq,reduceCtorEq,reduceEqDiff,reduceLT,reduceLeDiff,reduceAdd,reduceMul,reduceSub,Nat.reduceBEq,Int.reduceToNat,Int.reduceLE,Int.reduceLT,Int.reduceNeg,reduceMod,zac,zad,zab,zaa,gT,TK.isInt,TK.agg,Array.toList,h0a,h1a,h5a,h6a]
   refine ⟨fun h=>?_,fun h=>?_⟩
   ·rw [zae h (by omega)]
    refine ⟨by omega,?_⟩
    exact zag (i + 1) (by refine ⟨?_,?_,?_,?_,by omega⟩ <;> (first | (simp (maxSteps:=5000000) -dsimp only [gr,reduceEqDiff,reduceLT,reduceAdd,reduceMod,Nat.reduceBEq,zaa,zac,zad,zab,h0a,h1a,h5a,h6a,zae h (by omega),zFI (i:=i) hn (by omega),zFJ (i:=i) hn (by omega),zFK (i:=i) hn];first | done | rfl | (simp;done)) | assumption | rfl)) (by first | omega | (simp only;omega) | (dsimp only;omega) | (show _ < _;simp;omega))
   ·have:i = k:=by omega
    subst this
    unfold zhK
    rw [if_pos ⟨by omega,by omega,by omega⟩]
    simp
 ·unfold zhK
  rw [if_neg (by simp at h;omega)]
end Go.Proofs.YtpnknaaehcljoaaGreat
