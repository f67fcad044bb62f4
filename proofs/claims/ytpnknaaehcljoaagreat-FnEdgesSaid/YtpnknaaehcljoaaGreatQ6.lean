/- DERIVED by an AI agent. -/
import Derived.Test.YtpnknaaehcljoaaGreatQ5
import Derived.Test.YtpnknaaehcljoaaGreatQ3
import Derived.Test.YtpnknaaehcljoaaGreatQ1
import Derived.Test.YtpnknaaehcljoaaGreatP1
import Derived.Test.YtpnknaaehcljoaaGreatA13
import Derived.Test.YtpnknaaehcljoaaGreatQ4
import Derived.Test.YtpnknaaehcljoaaGreatQ2
namespace Go.Proofs.YtpnknaaehcljoaaGreat
open Go.Abs
open Nat (reduceEqDiff reduceMod reduceAdd reduceLT reduceLeDiff reduceSub reduceMul)
set_option linter.unusedSimpArgs false
set_option linter.unusedVariables false
theorem zfA (M:Mat) (d:Int) (hsq:SqB M):AC Tryz.prog 192 [zvj M,int d] (.im (bool (zBl M d))):=by
 refine AC.go (rs:=[.tmp 4]) za3 zav Tryz.func192 rfl rfl rfl (by kernel_rfl) fun hl=>?_
 have hl7:=hsq.len
 simp (maxSteps:=5000000) -dsimp only [↓gp,gq,reduceCtorEq,reduceEqDiff,reduceLT,reduceLeDiff,reduceAdd,reduceMul,reduceSub,Nat.reduceBEq,Int.reduceToNat,Int.reduceLE,Int.reduceLT,Int.reduceNeg,reduceMod,zac,zad,zab,zaa,gT,TK.isInt,TK.agg,Array.toList]
 refine zan (fun (i:Nat) s=>s.sl 1 = int d∧s.sl 9 = zvj M∧s.sl 10 = int M.length∧s.sl 11 = int i∧(i ≤ M.length∧∀ a,1 ≤ a→a < i→∀ j,j < M.length→zn9 M d a j)) (fun i=>M.length - i) (0) (by refine ⟨?_,?_,?_,?_,⟨by omega,fun a h1 h2=>by omega⟩⟩ <;> (first | (simp (maxSteps:=5000000) -dsimp only [gr,reduceEqDiff,reduceLT,reduceAdd,reduceMod,Nat.reduceBEq,zaa,zac,zad,zab];first | done | rfl | (simp;done)) | assumption | rfl)) ?_
 intro i sa ⟨h1a,h9a,h10a,h11a,hIa⟩
 obtain ⟨hi,hall⟩:=hIa
 simp (maxSteps:=5000000) -dsimp only [↓gp,gq,reduceCtorEq,reduceEqDiff,reduceLT,reduceLeDiff,reduceAdd,reduceMul,reduceSub,Nat.reduceBEq,Int.reduceToNat,Int.reduceLE,Int.reduceLT,Int.reduceNeg,reduceMod,zac,zad,zab,zaa,gT,TK.isInt,TK.agg,Array.toList,h1a,h9a,h10a,h11a]
 refine ⟨fun h=>⟨h,h,?_⟩,fun h=>?_⟩
 ·have hr:=hsq.row i h
  refine zan (fun (j:Nat) s=>s.sl 1 = int d∧s.sl 5 = int i∧s.sl 9 = zvj M∧s.sl 10 = int M.length∧s.sl 11 = int i∧s.sl 16 = .sl false 1 (iL (M.getD i []))∧s.sl 17 = int M.length∧s.sl 18 = int j∧(j ≤ M.length∧(1 ≤ i→∀ b,b < j→zn9 M d i b))) (fun j=>M.length - j) (0) (by refine ⟨?_,?_,?_,?_,?_,?_,?_,?_,⟨by omega,fun h1 b h2=>by omega⟩⟩ <;> (first | (simp (maxSteps:=5000000) -dsimp only [gr,reduceEqDiff,reduceLT,reduceAdd,reduceMod,Nat.reduceBEq,zaa,zac,zad,zab,h1a,h9a,h10a,h11a,hr];first | done | rfl | (simp;done)) | assumption | rfl)) ?_
  intro j sb ⟨h1b,h5b,h9b,h10b,h11b,h16b,h17b,h18b,hIb⟩
  obtain ⟨hj,hrow⟩:=hIb
  have hw1:j < M.length→IntKind.i64.wrap ((j:Int) - (i:Int)) = (j:Int) - i:=fun h=>zap (by omega) (by omega)
  have hw2:j < M.length→IntKind.i64.wrap ((j:Int) - (i:Int) + 1) = (j:Int) - i + 1:=fun h=>zap (by omega) (by omega)
  by_cases h2:j < M.length
  ·simp (maxSteps:=5000000) -dsimp only [↓gp,gq,reduceCtorEq,reduceEqDiff,reduceLT,reduceLeDiff,reduceAdd,reduceMul,reduceSub,Nat.reduceBEq,Int.reduceToNat,Int.reduceLE,Int.reduceLT,Int.reduceNeg,reduceMod,zac,zad,zab,zaa,gT,TK.isInt,TK.agg,Array.toList,h1b,h5b,h9b,h10b,h11b,h16b,h17b,h18b,hr,hw1 h2,hw2 h2]
   have go:(1 ≤ i→zn9 M d i j)→1 ≤ i→∀ b,b < j + 1→zn9 M d i b:=fun h0 h1 b hb=>by
    rcases Nat.lt_succ_iff_lt_or_eq.1 hb with hb | rfl
    ·exact hrow h1 b hb
    ·exact h0 h1
   refine ⟨fun _=>⟨h2,h2,fun h3=>⟨fun h4=>⟨fun h5=>zse fun hg=>?_,fun h5=>?_⟩,fun h4=>?_⟩,fun h3=>?_⟩,fun h=>absurd h2 h⟩
   ·rcases hg i (by omega) h j h2 with e | e
    ·rw [e] at h4;simp at h4
    ·rw [e] at h5;simp at h5
   ·have hc:=go fun _=>.inr (by simpa using h5)
    exact zag (j + 1) (by refine ⟨?_,?_,?_,?_,?_,?_,?_,?_,⟨by omega,hc⟩⟩ <;> (first | (simp (maxSteps:=5000000) -dsimp only [gr,reduceEqDiff,reduceLT,reduceAdd,reduceMod,Nat.reduceBEq,zaa,zac,zad,zab,h1b,h5b,h9b,h10b,h11b,h16b,h17b,h18b,zae h2 (by omega)];first | done | rfl | (simp;done)) | assumption | rfl)) (by first | omega | (simp only;omega) | (dsimp only;omega) | (show _ < _;simp;omega))
   ·have hc:=go fun _=>.inl (by simpa using h4)
    exact zag (j + 1) (by refine ⟨?_,?_,?_,?_,?_,?_,?_,?_,⟨by omega,hc⟩⟩ <;> (first | (simp (maxSteps:=5000000) -dsimp only [gr,reduceEqDiff,reduceLT,reduceAdd,reduceMod,Nat.reduceBEq,zaa,zac,zad,zab,h1b,h5b,h9b,h10b,h11b,h16b,h17b,h18b,zae h2 (by omega)];first | done | rfl | (simp;done)) | assumption | rfl)) (by first | omega | (simp only;omega) | (dsimp only;omega) | (show _ < _;simp;omega))
   ·have hc:=go fun _=>by omega
    exact zag (j + 1) (by refine ⟨?_,?_,?_,?_,?_,?_,?_,?_,⟨by omega,hc⟩⟩ <;> (first | (simp (maxSteps:=5000000) -dsimp only [gr,reduceEqDiff,reduceLT,reduceAdd,reduceMod,Nat.reduceBEq,zaa,zac,zad,zab,h1b,h5b,h9b,h10b,h11b,h16b,h17b,h18b,zae h2 (by omega)];first | done | rfl | (simp;done)) | assumption | rfl)) (by first | omega | (simp only;omega) | (dsimp only;omega) | (show _ < _;simp;omega))
  ·simp (maxSteps:=5000000) -dsimp only [↓gp,gq,reduceCtorEq,reduceEqDiff,reduceLT,reduceLeDiff,reduceAdd,reduceMul,reduceSub,Nat.reduceBEq,Int.reduceToNat,Int.reduceLE,Int.reduceLT,Int.reduceNeg,reduceMod,zac,zad,zab,zaa,gT,TK.isInt,TK.agg,Array.toList,h1b,h5b,h9b,h10b,h11b,h16b,h17b,h18b,hr]
   refine ⟨fun h=>absurd h h2,fun _=>?_⟩
   exact zag (i + 1) (by refine ⟨?_,?_,?_,?_,⟨by omega,fun a h1 h3 b hb=>by
    by_cases e:a = i
    ·subst e;exact hrow h1 b (by omega)
    ·exact hall a h1 (by omega) b hb⟩⟩ <;> (first | (simp (maxSteps:=5000000) -dsimp only [gr,reduceEqDiff,reduceLT,reduceAdd,reduceMod,Nat.reduceBEq,zaa,zac,zad,zab,h1a,h9a,h10a,h11a,h1b,h5b,h9b,h10b,h11b,h16b,h17b,h18b,zae h (by omega)];first | done | rfl | (simp;done)) | assumption | rfl)) (by first | omega | (simp only;omega) | (dsimp only;omega) | (show _ < _;simp;omega))
 ·rw [zoa (fun a h1 h2=>hall a h1 (by omega))]
noncomputable def zAb (n:Int) (xs:List Int) (p d:Int):Bool:=decide (0 < (znb n xs p).length) && zBl (znb n xs p) d
theorem ziR (n:Int) (xs:List Int) (p d:Int):AC Tryz.prog 136 [.ag [int n,zaN xs],int p,int d] (.im (bool (zAb n xs p d))):=by
 refine AC.go (rs:=[.tmp 6]) za3 zav Tryz.func136 rfl rfl rfl (by kernel_rfl) fun hl=>?_
 simp (maxSteps:=5000000) -dsimp only [↓gp,gq,reduceCtorEq,reduceEqDiff,reduceLT,reduceLeDiff,reduceAdd,reduceMul,reduceSub,Nat.reduceBEq,Int.reduceToNat,Int.reduceLE,Int.reduceLT,Int.reduceNeg,reduceMod,zac,zad,zab,zaa,gT,TK.isInt,TK.agg,Array.toList]
 refine zaf (zdN n xs p) ?_
 have hsq:=zoc n xs p
 unfold zAb
 generalize znb n xs p = M at *
 have hl7:=hsq.len
 simp (maxSteps:=5000000) -dsimp only [↓gp,gq,reduceCtorEq,reduceEqDiff,reduceLT,reduceLeDiff,reduceAdd,reduceMul,reduceSub,Nat.reduceBEq,Int.reduceToNat,Int.reduceLE,Int.reduceLT,Int.reduceNeg,reduceMod,zac,zad,zab,zaa,gT,TK.isInt,TK.agg,Array.toList]
 refine ⟨fun h=>zaf (zfA M d hsq) ?_,fun h=>?_⟩
 ·simp (maxSteps:=5000000) -dsimp only [↓gp,gq,reduceCtorEq,reduceEqDiff,reduceLT,reduceLeDiff,reduceAdd,reduceMul,reduceSub,Nat.reduceBEq,Int.reduceToNat,Int.reduceLE,Int.reduceLT,Int.reduceNeg,reduceMod,zac,zad,zab,zaa,gT,TK.isInt,TK.agg,Array.toList]
  have h:0 < M.length:=by omega
  simp [h]
 ·have:M.length = 0:=by omega
  simp [this]
theorem ziS (n:Int) (xs:List Int) (p d:Int):AC Tryz.prog 137 [.ag [int n,zaN xs],int p,int d] (.im (bool (zAb n xs p d))):=by
 refine AC.go (rs:=[.tmp 6]) za3 zav Tryz.func137 rfl rfl rfl (by kernel_rfl) fun hl=>?_
 simp (maxSteps:=5000000) -dsimp only [↓gp,gq,reduceCtorEq,reduceEqDiff,reduceLT,reduceLeDiff,reduceAdd,reduceMul,reduceSub,Nat.reduceBEq,Int.reduceToNat,Int.reduceLE,Int.reduceLT,Int.reduceNeg,reduceMod,zac,zad,zab,zaa,gT,TK.isInt,TK.agg,Array.toList]
 refine zaf (zdM n xs p) ?_
 have hsq:=zoc n xs p
 unfold zAb
 generalize znb n xs p = M at *
 have hl7:=hsq.len
 simp (maxSteps:=5000000) -dsimp only [↓gp,gq,reduceCtorEq,reduceEqDiff,reduceLT,reduceLeDiff,reduceAdd,reduceMul,reduceSub,Nat.reduceBEq,Int.reduceToNat,Int.reduceLE,Int.reduceLT,Int.reduceNeg,reduceMod,zac,zad,zab,zaa,gT,TK.isInt,TK.agg,Array.toList]
 refine zan (fun (i:Nat) s=>s.sl 2 = int d∧s.sl 7 = .own 12 1∧s.rw 12 = ⟨1,.sli 25 1 false (iLL M)⟩∧s.sl 8 = int i∧(1 ≤ i∧(i ≤ M.length ∨ M.length = 0)∧∀ a,1 ≤ a→a < i→∀ j,j < M.length→zn9 M d a j)) (fun i=>M.length - i) (1) (by refine ⟨?_,?_,?_,?_,⟨by omega,by omega,fun a h1 h2=>by omega⟩⟩ <;> (first | (simp (maxSteps:=5000000) -dsimp only [gr,reduceEqDiff,reduceLT,reduceAdd,reduceMod,Nat.reduceBEq,zaa,zac,zad,zab];first | done | rfl | (simp;done)) | assumption | rfl)) ?_
 intro i sa ⟨h2a,h7a,r12a,h8a,hIa⟩
 obtain ⟨hi,hi2,hall⟩:=hIa
 simp (maxSteps:=5000000) -dsimp only [↓gp,gq,reduceCtorEq,reduceEqDiff,reduceLT,reduceLeDiff,reduceAdd,reduceMul,reduceSub,Nat.reduceBEq,Int.reduceToNat,Int.reduceLE,Int.reduceLT,Int.reduceNeg,reduceMod,zac,zad,zab,zaa,gT,TK.isInt,TK.agg,Array.toList,h2a,h7a,r12a,h8a]
 refine ⟨fun h=>?_,fun h=>?_⟩
 ·have hr:=hsq.row i h
  refine zan (fun (j:Nat) s=>s.sl 2 = int d∧s.sl 7 = .own 12 1∧s.rw 12 = ⟨1,.sli 25 1 false (iLL M)⟩∧s.sl 8 = int i∧s.sl 9 = int j∧(j ≤ M.length∧(1 ≤ i→∀ b,b < j→zn9 M d i b))) (fun j=>M.length - j) (0) (by refine ⟨?_,?_,?_,?_,?_,⟨by omega,fun h1 b h2=>by omega⟩⟩ <;> (first | (simp (maxSteps:=5000000) -dsimp only [gr,reduceEqDiff,reduceLT,reduceAdd,reduceMod,Nat.reduceBEq,zaa,zac,zad,zab,h2a,h7a,r12a,h8a];first | done | rfl | (simp;done)) | assumption | rfl)) ?_
  intro j sb ⟨h2b,h7b,r12b,h8b,h9b,hIb⟩
  obtain ⟨hj,hrow⟩:=hIb
  have hw1:j < M.length→IntKind.i64.wrap ((j:Int) - (i:Int)) = (j:Int) - i:=fun h=>zap (by omega) (by omega)
  have hw2:j < M.length→IntKind.i64.wrap ((j:Int) - (i:Int) + 1) = (j:Int) - i + 1:=fun h=>zap (by omega) (by omega)
  by_cases h2:j < M.length
  ·have hM:decide (M.length > 0) = true:=decide_eq_true (by omega)
   simp (maxSteps:=5000000) -dsimp only [↓gp,gq,reduceCtorEq,reduceEqDiff,reduceLT,reduceLeDiff,reduceAdd,reduceMul,reduceSub,Nat.reduceBEq,Int.reduceToNat,Int.reduceLE,Int.reduceLT,Int.reduceNeg,reduceMod,zac,zad,zab,zaa,gT,TK.isInt,TK.agg,Array.toList,h2b,h7b,r12b,h8b,h9b,hr,hw1 h2,hw2 h2]
   have go:(1 ≤ i→zn9 M d i j)→1 ≤ i→∀ b,b < j + 1→zn9 M d i b:=fun h0 h1 b hb=>by
    rcases Nat.lt_succ_iff_lt_or_eq.1 hb with hb | rfl
    ·exact hrow h1 b hb
    ·exact h0 h1
   refine ⟨fun _=>⟨h,h,h2,h2,fun h4=>⟨fun h5=>?_,fun h5=>?_⟩,fun h4=>?_⟩,fun h=>absurd h2 h⟩
   ·have:zBl M d = false:=zse fun hg=>by
     rcases hg i (by omega) h j h2 with e | e
     ·rw [e] at h4;simp at h4
     ·rw [e] at h5;simp at h5
    rw [this];simp
   ·have hc:=go fun _=>.inr (by simpa using h5)
    exact zag (j + 1) (by refine ⟨?_,?_,?_,?_,?_,⟨by omega,hc⟩⟩ <;> (first | (simp (maxSteps:=5000000) -dsimp only [gr,reduceEqDiff,reduceLT,reduceAdd,reduceMod,Nat.reduceBEq,zaa,zac,zad,zab,h2b,h7b,r12b,h8b,h9b,zae h2 (by omega)];first | done | rfl | (simp;done)) | assumption | rfl)) (by first | omega | (simp only;omega) | (dsimp only;omega) | (show _ < _;simp;omega))
   ·have hc:=go fun _=>.inl (by simpa using h4)
    exact zag (j + 1) (by refine ⟨?_,?_,?_,?_,?_,⟨by omega,hc⟩⟩ <;> (first | (simp (maxSteps:=5000000) -dsimp only [gr,reduceEqDiff,reduceLT,reduceAdd,reduceMod,Nat.reduceBEq,zaa,zac,zad,zab,h2b,h7b,r12b,h8b,h9b,zae h2 (by omega)];first | done | rfl | (simp;done)) | assumption | rfl)) (by first | omega | (simp only;omega) | (dsimp only;omega) | (show _ < _;simp;omega))
  ·simp (maxSteps:=5000000) -dsimp only [↓gp,gq,reduceCtorEq,reduceEqDiff,reduceLT,reduceLeDiff,reduceAdd,reduceMul,reduceSub,Nat.reduceBEq,Int.reduceToNat,Int.reduceLE,Int.reduceLT,Int.reduceNeg,reduceMod,zac,zad,zab,zaa,gT,TK.isInt,TK.agg,Array.toList,h2b,h7b,r12b,h8b,h9b,hr]
   refine ⟨fun h=>absurd h h2,fun _=>?_⟩
   exact zag (i + 1) (by refine ⟨?_,?_,?_,?_,⟨by omega,by omega,fun a h1 h3 b hb=>by
    by_cases e:a = i
    ·subst e;exact hrow h1 b (by omega)
    ·exact hall a h1 (by omega) b hb⟩⟩ <;> (first | (simp (maxSteps:=5000000) -dsimp only [gr,reduceEqDiff,reduceLT,reduceAdd,reduceMod,Nat.reduceBEq,zaa,zac,zad,zab,h2a,h7a,r12a,h8a,h2b,h7b,r12b,h8b,h9b,zae h (by omega)];first | done | rfl | (simp;done)) | assumption | rfl)) (by first | omega | (simp only;omega) | (dsimp only;omega) | (show _ < _;simp;omega))
 ·have:zBl M d = true:=zoa fun a h1 h2=>hall a h1 (by omega)
  rw [this]
  simp
theorem zzP {f:Nat→Bool} {l1 l2:List Nat} {s:Nat} (h:zcq f = l1 ++ s :: l2):(∃ t,t ∈ l2∧s &&& t = s) ↔ zdl f true s = false:=by
 have hpw:=zrW f
 rw [h,List.pairwise_append] at hpw
 have hp2:=List.pairwise_cons.1 hpw.2.1
 have hs:s < 64∧f s = true:=zb1.1 (by rw [h];simp)
 constructor
 ·rintro ⟨t,ht,hst⟩
  have hm:t < 64∧f t = true:=zb1.1 (by rw [h];simp [ht])
  cases hx:zdl f true s with
  | false=>rfl
  | true =>
    have:=zdm.1 hx t hm.1 hm.2 hst
    subst this
    exact absurd (hp2.1 t ht) zep
 ·intro hx
  have:¬ ∀ t,t < 64→f t = true→s &&& t = s→t = s:=fun h=>by rw [zdm.2 h] at hx;cases hx
  obtain ⟨t,ht⟩:=Classical.not_forall.1 this
  have h1:t < 64:=Classical.byContradiction fun h=>ht fun h2=>absurd h2 h
  have h2:f t = true:=Classical.byContradiction fun h=>ht fun _ h2=>absurd h2 h
  have h3:s &&& t = s:=Classical.byContradiction fun h=>ht fun _ _ h2=>absurd h2 h
  have h4:t ≠ s:=fun e=>ht fun _ _ _=>e
  have hlt:=zfZ h1 hs.1 h3 (Ne.symm h4)
  have hm:t ∈ l1 ++ s :: l2:=h ▸ zb1.2 ⟨h1,h2⟩
  rcases List.mem_append.1 hm with hm | hm
  ·have:=hpw.2.2 t hm s (by simp)
   unfold zz9 at this
   omega
  ·rcases List.mem_cons.1 hm with hm | hm
   ·exact absurd hm h4
   ·exact ⟨t,hm,h3⟩
theorem ziO (G:Nat) (hG:G < 18446744073709551616):AC Tryz.prog 177 [u64 G] (.fr 3 1 (iL (ofN (ziq G.testBit true)))):=by
 refine AC.go (rs:=[.tmp 2]) za3 zav Tryz.func177 rfl rfl rfl (by kernel_rfl) fun hl=>?_
 simp (maxSteps:=5000000) -dsimp only [↓gp,gq,reduceCtorEq,reduceEqDiff,reduceLT,reduceLeDiff,reduceAdd,reduceMul,reduceSub,Nat.reduceBEq,Int.reduceToNat,Int.reduceLE,Int.reduceLT,Int.reduceNeg,reduceMod,zac,zad,zab,zaa,gT,TK.isInt,TK.agg,Array.toList]
 refine zaf (zg2 G hG) ?_
 simp (maxSteps:=5000000) -dsimp only [↓gp,gq,reduceCtorEq,reduceEqDiff,reduceLT,reduceLeDiff,reduceAdd,reduceMul,reduceSub,Nat.reduceBEq,Int.reduceToNat,Int.reduceLE,Int.reduceLT,Int.reduceNeg,reduceMod,zac,zad,zab,zaa,gT,TK.isInt,TK.agg,Array.toList,zak]
 have hfull:=zfn G.testBit
 have hmem:∀ k,k < (zcq G.testBit).length→(zcq G.testBit).getD k 0 < 64:=fun k hk=>(zb1.1 (zaD 0 hk)).1
 have hmax:∀ k,k < (zcq G.testBit).length→((∃ t,t ∈ (zcq G.testBit).drop (k + 1)∧(zcq G.testBit).getD k 0 &&& t = (zcq G.testBit).getD k 0) ↔ zdl G.testBit true ((zcq G.testBit).getD k 0) = false):=fun k hk=>zzP (zuG hk)
 unfold ziq
 generalize zcq G.testBit = all at *
 refine zan (fun (za:Nat × Nat × Bool) s=>match za with | (k,v,fz)=>s.sl 3 = .own 11 1∧s.rw 11 = ⟨1,.sli 3 1 fz (iL (ofN all))⟩∧s.sl 4 = .own 4 v∧s.rw 4 = ⟨v,.sli 3 1 false (iL (ofN ((all.take k).filter (zdl G.testBit true))))⟩∧s.sl 12 = .own 11 1∧s.sl 13 = int all.length∧s.sl 14 = int k∧(k ≤ all.length)) (fun (k,v,fz)=>all.length - k) ((0,1,false)) (by refine ⟨?_,?_,?_,?_,?_,?_,?_,by simp⟩ <;> (first | (simp (maxSteps:=5000000) -dsimp only [gr,reduceEqDiff,reduceLT,reduceAdd,reduceMod,Nat.reduceBEq,zaa,zac,zad,zab,zak];first | done | rfl | (simp;done)) | assumption | rfl)) ?_
 intro (k,v,fz) sa ⟨h3a,r11a,h4a,r4a,h12a,h13a,h14a,hIa⟩
 have hflen:((all.take k).filter (zdl G.testBit true)).length ≤ k:=Nat.le_trans zg4 (by simp;omega)
 by_cases hk:k < all.length
 ·have hs:=hmem k hk
  have hge:(ofN all).getD k 0 = ((all.getD k 0:Nat):Int):=zaJ hk
  have hwk:=zae hk (by omega)
  have hdrop:∀ j,j < (all.drop (k + 1)).length→((all.drop (k + 1)).getD j 0) < 64∧(ofN (all.drop (k + 1))).getD j 0 = (((all.drop (k + 1)).getD j 0:Nat):Int):=fun j hj=>⟨by
   have hm:=List.mem_of_mem_drop (zaD 0 hj)
   obtain ⟨i,hi,e⟩:=zbE 0 hm
   rw [← e];exact hmem i hi,zaJ hj⟩
  have hdl:(all.drop (k + 1)).length ≤ 448:=by simp;omega
  have hsub:∀ j,j < (all.drop (k + 1)).length→(zbP .i64 (all.getD k 0:Nat) ((ofN (all.drop (k + 1))).getD j 0) = 0 ↔ all.getD k 0 &&& (all.drop (k + 1)).getD j 0 = all.getD k 0):=fun j hj=>by
   have hd:=hdrop j hj
   rw [hd.2,zbr (by omega) (by omega),← zcj]
   omega
  have hofd:(ofN all).drop (k + 1) = ofN (all.drop (k + 1)):=by unfold ofN;rw [List.map_drop]
  have hmk:=hmax k hk
  have hyes:zdl G.testBit true (all.getD k 0) = true→ofN ((all.take (k + 1)).filter (zdl G.testBit true)) = ofN ((all.take k).filter (zdl G.testBit true)) ++ [((all.getD k 0:Nat):Int)]:=fun h=>by rw [zg3 hk h,zaV,zcG]
  have hno:zdl G.testBit true (all.getD k 0) = false→ofN ((all.take (k + 1)).filter (zdl G.testBit true)) = ofN ((all.take k).filter (zdl G.testBit true)):=fun h=>by rw [zkP hk h]
  cases fz with
  | false =>
    simp (maxSteps:=5000000) -dsimp only [↓gp,gq,reduceCtorEq,reduceEqDiff,reduceLT,reduceLeDiff,reduceAdd,reduceMul,reduceSub,Nat.reduceBEq,Int.reduceToNat,Int.reduceLE,Int.reduceLT,Int.reduceNeg,reduceMod,zac,zad,zab,zaa,gT,TK.isInt,TK.agg,Array.toList,h3a,r11a,h4a,r4a,h12a,h13a,h14a,zak,hge,hwk,Int.toNat_natCast,hofd]
    refine ⟨fun _=>⟨hk,hk,by omega,?_⟩,fun h=>absurd hk h⟩
    refine zan (fun (j:Nat) s=>s.sl 3 = .own 11 1∧s.rw 11 = ⟨1,.sli 3 1 true (iL (ofN all))⟩∧s.sl 4 = .own 4 v∧s.rw 4 = ⟨v,.sli 3 1 false (iL (ofN ((all.take k).filter (zdl G.testBit true))))⟩∧s.sl 12 = .own 11 1∧s.sl 13 = int all.length∧s.sl 14 = int k∧s.sl 6 = int (all.getD k 0:Nat)∧s.sl 7 = .v (.bool false)∧s.sl 22 = .sl true 1 (iL (ofN (all.drop (k + 1))))∧s.sl 23 = int (all.drop (k + 1)).length∧s.sl 24 = int j∧(j ≤ (all.drop (k + 1)).length∧∀ i,i < j→all.getD k 0 &&& (all.drop (k + 1)).getD i 0 ≠ all.getD k 0)) (fun j=>(all.drop (k + 1)).length - j) (0) (by refine ⟨?_,?_,?_,?_,?_,?_,?_,?_,?_,?_,?_,?_,by simp⟩ <;> (first | (simp (maxSteps:=5000000) -dsimp only [gr,reduceEqDiff,reduceLT,reduceAdd,reduceMod,Nat.reduceBEq,zaa,zac,zad,zab,h3a,r11a,h4a,r4a,h12a,h13a,h14a,zak,hge,hwk,hofd];first | done | rfl | (simp;done)) | assumption | rfl)) ?_
    intro j sb ⟨h3b,r11b,h4b,r4b,h12b,h13b,h14b,h6b,h7b,h22b,h23b,h24b,hIb⟩
    obtain ⟨hj,hall⟩:=hIb
    simp (maxSteps:=5000000) -dsimp only [↓gp,gq,reduceCtorEq,reduceEqDiff,reduceLT,reduceLeDiff,reduceAdd,reduceMul,reduceSub,Nat.reduceBEq,Int.reduceToNat,Int.reduceLE,Int.reduceLT,Int.reduceNeg,reduceMod,zac,zad,zab,zaa,gT,TK.isInt,TK.agg,Array.toList,h3b,r11b,h4b,r4b,h12b,h13b,h14b,h6b,h7b,h22b,h23b,h24b,zak,hge,hwk]
    refine ⟨fun h2=>⟨h2,h2,fun he=>?_,fun he=>?_⟩,fun h2=>?_⟩
    ·have hm:=(hsub j h2).1 (by simpa using he)
     have hx:=hmk.1 ⟨_,zaD 0 h2,hm⟩
     have e:=hno hx
     exact zag ((k + 1,v,true)) (by refine ⟨?_,?_,?_,?_,?_,?_,?_,by dsimp only;omega⟩ <;> (first | (simp (maxSteps:=5000000) -dsimp only [gr,reduceEqDiff,reduceLT,reduceAdd,reduceMod,Nat.reduceBEq,zaa,zac,zad,zab,h3a,r11a,h4a,r4a,h12a,h13a,h14a,h3b,r11b,h4b,r4b,h12b,h13b,h14b,h6b,h7b,h22b,h23b,h24b,hwk,e];first | done | rfl | (simp;done)) | assumption | rfl)) (by first | omega | (simp only;omega) | (dsimp only;omega) | (show _ < _;simp;omega))
    ·have hm:¬ all.getD k 0 &&& (all.drop (k + 1)).getD j 0 = all.getD k 0:=fun h=>by rw [(hsub j h2).2 h] at he;simp at he
     have hw2:=zae h2 (by omega)
     have hall2:∀ i,i < j + 1→all.getD k 0 &&& (all.drop (k + 1)).getD i 0 ≠ all.getD k 0:=fun i hi=>by
      rcases Nat.lt_succ_iff_lt_or_eq.1 hi with hi | rfl
      ·exact hall i hi
      ·exact hm
     exact zag (j + 1) (by refine ⟨?_,?_,?_,?_,?_,?_,?_,?_,?_,?_,?_,?_,⟨by omega,hall2⟩⟩ <;> (first | (simp (maxSteps:=5000000) -dsimp only [gr,reduceEqDiff,reduceLT,reduceAdd,reduceMod,Nat.reduceBEq,zaa,zac,zad,zab,h3b,r11b,h4b,r4b,h12b,h13b,h14b,h6b,h7b,h22b,h23b,h24b,hw2];first | done | rfl | (simp;done)) | assumption | rfl)) (by first | omega | (simp only;omega) | (dsimp only;omega) | (show _ < _;simp;omega))
    ·have hx:zdl G.testBit true (all.getD k 0) = true:=by
      cases hb:zdl G.testBit true (all.getD k 0) with
      | true=>rfl
      | false =>
        obtain ⟨t,ht,hst⟩:=hmk.2 hb
        obtain ⟨i,hi,rfl⟩:=zbE 0 ht
        exact absurd hst (hall i (by omega))
     have e:=hyes hx
     exact ⟨by omega,zag ((k + 1,v + 1,true)) (by refine ⟨?_,?_,?_,?_,?_,?_,?_,by dsimp only;omega⟩ <;> (first | (simp (maxSteps:=5000000) -dsimp only [gr,reduceEqDiff,reduceLT,reduceAdd,reduceMod,Nat.reduceBEq,zaa,zac,zad,zab,h3a,r11a,h4a,r4a,h12a,h13a,h14a,h3b,r11b,h4b,r4b,h12b,h13b,h14b,h6b,h7b,h22b,h23b,h24b,hwk,e];first | done | rfl | (simp;done)) | assumption | rfl)) (by first | omega | (simp only;omega) | (dsimp only;omega) | (show _ < _;simp;omega))⟩
  | true =>
    simp (maxSteps:=5000000) -dsimp only [↓gp,gq,reduceCtorEq,reduceEqDiff,reduceLT,reduceLeDiff,reduceAdd,reduceMul,reduceSub,Nat.reduceBEq,Int.reduceToNat,Int.reduceLE,Int.reduceLT,Int.reduceNeg,reduceMod,zac,zad,zab,zaa,gT,TK.isInt,TK.agg,Array.toList,h3a,r11a,h4a,r4a,h12a,h13a,h14a,zak,hge,hwk,Int.toNat_natCast,hofd]
    refine ⟨fun _=>⟨hk,hk,by omega,?_⟩,fun h=>absurd hk h⟩
    refine zan (fun (j:Nat) s=>s.sl 3 = .own 11 1∧s.rw 11 = ⟨1,.sli 3 1 true (iL (ofN all))⟩∧s.sl 4 = .own 4 v∧s.rw 4 = ⟨v,.sli 3 1 false (iL (ofN ((all.take k).filter (zdl G.testBit true))))⟩∧s.sl 12 = .own 11 1∧s.sl 13 = int all.length∧s.sl 14 = int k∧s.sl 6 = int (all.getD k 0:Nat)∧s.sl 7 = .v (.bool false)∧s.sl 22 = .sl true 1 (iL (ofN (all.drop (k + 1))))∧s.sl 23 = int (all.drop (k + 1)).length∧s.sl 24 = int j∧(j ≤ (all.drop (k + 1)).length∧∀ i,i < j→all.getD k 0 &&& (all.drop (k + 1)).getD i 0 ≠ all.getD k 0)) (fun j=>(all.drop (k + 1)).length - j) (0) (by refine ⟨?_,?_,?_,?_,?_,?_,?_,?_,?_,?_,?_,?_,by simp⟩ <;> (first | (simp (maxSteps:=5000000) -dsimp only [gr,reduceEqDiff,reduceLT,reduceAdd,reduceMod,Nat.reduceBEq,zaa,zac,zad,zab,h3a,r11a,h4a,r4a,h12a,h13a,h14a,zak,hge,hwk,hofd];first | done | rfl | (simp;done)) | assumption | rfl)) ?_
    intro j sb ⟨h3b,r11b,h4b,r4b,h12b,h13b,h14b,h6b,h7b,h22b,h23b,h24b,hIb⟩
    obtain ⟨hj,hall⟩:=hIb
    simp (maxSteps:=5000000) -dsimp only [↓gp,gq,reduceCtorEq,reduceEqDiff,reduceLT,reduceLeDiff,reduceAdd,reduceMul,reduceSub,Nat.reduceBEq,Int.reduceToNat,Int.reduceLE,Int.reduceLT,Int.reduceNeg,reduceMod,zac,zad,zab,zaa,gT,TK.isInt,TK.agg,Array.toList,h3b,r11b,h4b,r4b,h12b,h13b,h14b,h6b,h7b,h22b,h23b,h24b,zak,hge,hwk]
    refine ⟨fun h2=>⟨h2,h2,fun he=>?_,fun he=>?_⟩,fun h2=>?_⟩
    ·have hm:=(hsub j h2).1 (by simpa using he)
     have hx:=hmk.1 ⟨_,zaD 0 h2,hm⟩
     have e:=hno hx
     exact zag ((k + 1,v,true)) (by refine ⟨?_,?_,?_,?_,?_,?_,?_,by dsimp only;omega⟩ <;> (first | (simp (maxSteps:=5000000) -dsimp only [gr,reduceEqDiff,reduceLT,reduceAdd,reduceMod,Nat.reduceBEq,zaa,zac,zad,zab,h3a,r11a,h4a,r4a,h12a,h13a,h14a,h3b,r11b,h4b,r4b,h12b,h13b,h14b,h6b,h7b,h22b,h23b,h24b,hwk,e];first | done | rfl | (simp;done)) | assumption | rfl)) (by first | omega | (simp only;omega) | (dsimp only;omega) | (show _ < _;simp;omega))
    ·have hm:¬ all.getD k 0 &&& (all.drop (k + 1)).getD j 0 = all.getD k 0:=fun h=>by rw [(hsub j h2).2 h] at he;simp at he
     have hw2:=zae h2 (by omega)
     have hall2:∀ i,i < j + 1→all.getD k 0 &&& (all.drop (k + 1)).getD i 0 ≠ all.getD k 0:=fun i hi=>by
      rcases Nat.lt_succ_iff_lt_or_eq.1 hi with hi | rfl
      ·exact hall i hi
      ·exact hm
     exact zag (j + 1) (by refine ⟨?_,?_,?_,?_,?_,?_,?_,?_,?_,?_,?_,?_,⟨by omega,hall2⟩⟩ <;> (first | (simp (maxSteps:=5000000) -dsimp only [gr,reduceEqDiff,reduceLT,reduceAdd,reduceMod,Nat.reduceBEq,zaa,zac,zad,zab,h3b,r11b,h4b,r4b,h12b,h13b,h14b,h6b,h7b,h22b,h23b,h24b,hw2];first | done | rfl | (simp;done)) | assumption | rfl)) (by first | omega | (simp only;omega) | (dsimp only;omega) | (show _ < _;simp;omega))
    ·have hx:zdl G.testBit true (all.getD k 0) = true:=by
      cases hb:zdl G.testBit true (all.getD k 0) with
      | true=>rfl
      | false =>
        obtain ⟨t,ht,hst⟩:=hmk.2 hb
        obtain ⟨i,hi,rfl⟩:=zbE 0 ht
        exact absurd hst (hall i (by omega))
     have e:=hyes hx
     exact ⟨by omega,zag ((k + 1,v + 1,true)) (by refine ⟨?_,?_,?_,?_,?_,?_,?_,by dsimp only;omega⟩ <;> (first | (simp (maxSteps:=5000000) -dsimp only [gr,reduceEqDiff,reduceLT,reduceAdd,reduceMod,Nat.reduceBEq,zaa,zac,zad,zab,h3a,r11a,h4a,r4a,h12a,h13a,h14a,h3b,r11b,h4b,r4b,h12b,h13b,h14b,h6b,h7b,h22b,h23b,h24b,hwk,e];first | done | rfl | (simp;done)) | assumption | rfl)) (by first | omega | (simp only;omega) | (dsimp only;omega) | (show _ < _;simp;omega))⟩
 ·simp (maxSteps:=5000000) -dsimp only [↓gp,gq,reduceCtorEq,reduceEqDiff,reduceLT,reduceLeDiff,reduceAdd,reduceMul,reduceSub,Nat.reduceBEq,Int.reduceToNat,Int.reduceLE,Int.reduceLT,Int.reduceNeg,reduceMod,zac,zad,zab,zaa,gT,TK.isInt,TK.agg,Array.toList,h3a,r11a,h4a,r4a,h12a,h13a,h14a,zak]
  refine ⟨fun h=>absurd h hk,fun _=>?_⟩
  have:k = all.length:=by omega
  rw [this,List.take_length]
theorem ziM (n:Int) (G:Nat) (hG:G < 18446744073709551616):AC Tryz.prog 105 [int n,u64 G] (.ag [.im (int n),.fr 3 1 (iL (ofN (ziq G.testBit true)))]):=by
 refine AC.go (rs:=[.cell 4 27]) za3 zav Tryz.func105 rfl rfl rfl (by kernel_rfl) fun hl=>?_
 simp (maxSteps:=5000000) -dsimp only [↓gp,gq,reduceCtorEq,reduceEqDiff,reduceLT,reduceLeDiff,reduceAdd,reduceMul,reduceSub,Nat.reduceBEq,Int.reduceToNat,Int.reduceLE,Int.reduceLT,Int.reduceNeg,reduceMod,zac,zad,zab,zaa,gT,TK.isInt,TK.agg,Array.toList]
 refine zaf (ziO G hG) ?_
 simp (maxSteps:=5000000) -dsimp only [↓gp,gq,reduceCtorEq,reduceEqDiff,reduceLT,reduceLeDiff,reduceAdd,reduceMul,reduceSub,Nat.reduceBEq,Int.reduceToNat,Int.reduceLE,Int.reduceLT,Int.reduceNeg,reduceMod,zac,zad,zab,zaa,gT,TK.isInt,TK.agg,Array.toList]
def zbM (xs:List Int) (s:Nat):Bool:=xs.all fun x=>!(x.toNat &&& s == x.toNat)
theorem zk6 {xs:List Int} {k s:Nat} (h:k < xs.length):zbM (xs.take (k + 1)) s = (zbM (xs.take k) s && !((xs.getD k 0).toNat &&& s == (xs.getD k 0).toNat)):=by
 unfold zbM
 rw [zba 0 h,List.all_append];simp
theorem zm9 {x:Int} (hx:0 ≤ x∧x < 64) {s:Nat} (hs:s < 64):(zbP .i64 x (s:Int) == 0) = (x.toNat &&& s == x.toNat):=by
 have e:x = ((x.toNat:Nat):Int):=by omega
 have h:=zcj (a:=x.toNat) (b:=s)
 rw [e,zbr (by omega) (by omega),Int.toNat_natCast]
 refine Bool.eq_iff_iff.2 ?_
 rw [beq_iff_eq,beq_iff_eq,← h]
 omega
theorem zsf {x:Int} (hx:0 ≤ x∧x < 64) {s:Nat} (hs:s < 64):(zb4 .i64 x (s:Int) != x) = !(x.toNat &&& s == x.toNat):=by
 have e:x = ((x.toNat:Nat):Int):=by omega
 rw [e,zaQ (by omega) (by omega),Int.toNat_natCast]
 show (!(_ == _)) = _
 congr 1
 refine Bool.eq_iff_iff.2 ?_
 rw [beq_iff_eq,beq_iff_eq]
 omega
theorem ziN (xs:List Int) (u:Nat) (hx:okS xs) (hs:u < 64):AC Tryz.prog 108 [int u,zaN xs] (.im (bool (zbM xs u))):=by
 refine AC.go (rs:=[.tmp 4]) za3 zav Tryz.func108 rfl rfl rfl (by kernel_rfl) fun hl=>?_
 simp only [zaK,za7,and_true,zbv,zcC,zbR,zcr,zdb,true_and] at hl
 simp (maxSteps:=5000000) -dsimp only [↓gp,gq,reduceCtorEq,reduceEqDiff,reduceLT,reduceLeDiff,reduceAdd,reduceMul,reduceSub,Nat.reduceBEq,Int.reduceToNat,Int.reduceLE,Int.reduceLT,Int.reduceNeg,reduceMod,zac,zad,zab,zaa,gT,TK.isInt,TK.agg,Array.toList]
 refine zan (fun (k:Nat) s=>s.sl 0 = int u∧s.sl 7 = zaN xs∧s.sl 8 = int xs.length∧s.sl 9 = int k∧(k ≤ xs.length∧zbM (xs.take k) u = true)) (fun k=>xs.length - k) (0) (by refine ⟨?_,?_,?_,?_,⟨by omega,rfl⟩⟩ <;> (first | (simp (maxSteps:=5000000) -dsimp only [gr,reduceEqDiff,reduceLT,reduceAdd,reduceMod,Nat.reduceBEq,zaa,zac,zad,zab];first | done | rfl | (simp;done)) | assumption | rfl)) ?_
 intro k sa ⟨h0a,h7a,h8a,h9a,hIa⟩
 obtain ⟨hk,hz⟩:=hIa
 simp (maxSteps:=5000000) -dsimp only [↓gp,gq,reduceCtorEq,reduceEqDiff,reduceLT,reduceLeDiff,reduceAdd,reduceMul,reduceSub,Nat.reduceBEq,Int.reduceToNat,Int.reduceLE,Int.reduceLT,Int.reduceNeg,reduceMod,zac,zad,zab,zaa,gT,TK.isInt,TK.agg,Array.toList,h0a,h7a,h8a,h9a]
 refine ⟨fun h=>⟨h,h,fun h0=>?_,fun h0=>?_⟩,fun h=>?_⟩
 ·rw [zm9 (zk7 hx h) hs] at h0
  cases hb:zbM xs u with
  | false=>rfl
  | true =>
    unfold zbM at hb
    have:=List.all_eq_true.1 hb _ (zaD 0 h)
    rw [h0] at this;cases this
 ·rw [zm9 (zk7 hx h) hs] at h0
  have hs2:=zk6 (s:=u) h
  rw [h0,hz] at hs2
  exact zag (k + 1) (by refine ⟨?_,?_,?_,?_,⟨by omega,hs2⟩⟩ <;> (first | (simp (maxSteps:=5000000) -dsimp only [gr,reduceEqDiff,reduceLT,reduceAdd,reduceMod,Nat.reduceBEq,zaa,zac,zad,zab,h0a,h7a,h8a,h9a,zae h hl];first | done | rfl | (simp;done)) | assumption | rfl)) (by first | omega | (simp only;omega) | (dsimp only;omega) | (show _ < _;simp;omega))
 ·rw [List.take_of_length_le (by omega)] at hz
  rw [hz]
theorem zfd (n:Int) (xs:List Int) (s:Nat) (hx:okS xs) (hs:s < 64):AC Tryz.prog 107 [int s,.eref false [int n,zaN xs] 0] (.im (bool (zbM xs s))):=by
 refine AC.go (rs:=[.tmp 3]) za3 zav Tryz.func107 rfl rfl rfl (by kernel_rfl) fun hl=>?_
 simp (maxSteps:=5000000) -dsimp only [↓gp,gq,reduceCtorEq,reduceEqDiff,reduceLT,reduceLeDiff,reduceAdd,reduceMul,reduceSub,Nat.reduceBEq,Int.reduceToNat,Int.reduceLE,Int.reduceLT,Int.reduceNeg,reduceMod,zac,zad,zab,zaa,gT,TK.isInt,TK.agg,Array.toList]
 refine zaf (ziN xs s hx hs) ?_
 simp (maxSteps:=5000000) -dsimp only [↓gp,gq,reduceCtorEq,reduceEqDiff,reduceLT,reduceLeDiff,reduceAdd,reduceMul,reduceSub,Nat.reduceBEq,Int.reduceToNat,Int.reduceLE,Int.reduceLT,Int.reduceNeg,reduceMod,zac,zad,zab,zaa,gT,TK.isInt,TK.agg,Array.toList]
noncomputable def apF (n:Int) (xs:List Int) (s:Nat):Bool:=decide (s < 2 ^ n.toNat) && zbM xs s
noncomputable def apL (n:Int) (xs:List Int):List Int:=if zar n xs = true then ofN (ziq (apF n xs) true) else []
noncomputable def apN (n:Int) (xs:List Int):Int:=if zar n xs = true then n else 0
theorem zu8 {n:Int} {xs:List Int} (h:zar n xs = true):okS xs:=fun x hx=>zcd ((zmZ (zaC.1 h)).2.2.2 x hx)
theorem zdt (n:Int) (xs:List Int):AC Tryz.prog 24 [.ag [int n,zaN xs]] (.tup [.ag [.im (int (apN n xs)),.fr 3 1 (iL (apL n xs))],.im (bool (zar n xs))]):=by
 refine AC.go (rs:=[.cell 2 27,.tmp 3]) za3 zav Tryz.func24 rfl rfl rfl (by kernel_rfl) fun hl=>?_
 simp (maxSteps:=5000000) -dsimp only [↓gp,gq,reduceCtorEq,reduceEqDiff,reduceLT,reduceLeDiff,reduceAdd,reduceMul,reduceSub,Nat.reduceBEq,Int.reduceToNat,Int.reduceLE,Int.reduceLT,Int.reduceNeg,reduceMod,zac,zad,zab,zaa,gT,TK.isInt,TK.agg,Array.toList]
 refine zaf (zb7 n xs) ?_
 simp (maxSteps:=5000000) -dsimp only [↓gp,gq,reduceCtorEq,reduceEqDiff,reduceLT,reduceLeDiff,reduceAdd,reduceMul,reduceSub,Nat.reduceBEq,Int.reduceToNat,Int.reduceLE,Int.reduceLT,Int.reduceNeg,reduceMod,zac,zad,zab,zaa,gT,TK.isInt,TK.agg,Array.toList]
 unfold apN apL
 refine ⟨fun hg=>?_,fun hg=>?_⟩
 ·have hg:zar n xs = false:=by simpa using hg
  rw [hg];exact ⟨rfl,rfl,rfl⟩
 ·have hg:zar n xs = true:=by simpa using hg
  have hx:=zu8 hg
  obtain ⟨h1,h6,_⟩:=zaC.1 hg
  obtain ⟨m,rfl⟩:∃ m:Nat,n = m:=⟨n.toNat,by omega⟩
  have h64:=zao (m:=m) (by omega)
  refine zaf (ze5 m (by omega) _ [.eref false [int (m:Nat),zaN xs] 0] (zbM xs) (fun rw=>rfl) fun s hs=>zfd _ xs s hx (by omega)) ?_
  simp (maxSteps:=5000000) -dsimp only [↓gp,gq,reduceCtorEq,reduceEqDiff,reduceLT,reduceLeDiff,reduceAdd,reduceMul,reduceSub,Nat.reduceBEq,Int.reduceToNat,Int.reduceLE,Int.reduceLT,Int.reduceNeg,reduceMod,zac,zad,zab,zaa,gT,TK.isInt,TK.agg,Array.toList]
  refine zaf (ziM m _ (zqH _ (by omega))) ?_
  have e:(zaH (zbM xs) (2 ^ m)).testBit = apF m xs:=funext fun s=>by rw [zcS];rfl
  rw [e,if_pos hg,if_pos hg,hg]
  simp (maxSteps:=5000000) -dsimp only [↓gp,gq,reduceCtorEq,reduceEqDiff,reduceLT,reduceLeDiff,reduceAdd,reduceMul,reduceSub,Nat.reduceBEq,Int.reduceToNat,Int.reduceLE,Int.reduceLT,Int.reduceNeg,reduceMod,zac,zad,zab,zaa,gT,TK.isInt,TK.agg,Array.toList]
theorem zob (n:Nat) (xs:List Int) (hn:n ≤ 6) (hx:okS xs):AC Tryz.prog 106 [int n,zaN xs] (.ag [.im (int n),.fr 3 1 (iL (ofN (ziq (apF n xs) true)))]):=by
 refine AC.go (rs:=[.cell 4 27]) za3 zav Tryz.func106 rfl rfl rfl (by kernel_rfl) fun hl=>?_
 simp only [zaK,za7,and_true,zbv,zcC,zbR,zcr,zdb,true_and] at hl
 have h64:=zao hn
 have hsh:zkH .i64 1 (n:Int) = ((2 ^ n:Nat):Int):=za5 hn
 have hun:IntKind.u64.wrap (n:Int) = (n:Int):=za2 (by omega)
 simp (maxSteps:=5000000) -dsimp only [↓gp,gq,reduceCtorEq,reduceEqDiff,reduceLT,reduceLeDiff,reduceAdd,reduceMul,reduceSub,Nat.reduceBEq,Int.reduceToNat,Int.reduceLE,Int.reduceLT,Int.reduceNeg,reduceMod,zac,zad,zab,zaa,gT,TK.isInt,TK.agg,Array.toList]
 refine zan (fun (za:Nat × Nat) s=>match za with | (t,v)=>s.sl 0 = int n∧s.sl 1 = zaN xs∧s.sl 4 = .ref 4 1 0∧s.rw 4 = ⟨1,.box 27 [int 0,.v (.slice none 0 0)]⟩∧s.sl 5 = .own 9 v∧s.rw 9 = ⟨v,.sli 3 1 false (iL (ofN ((List.range t).filter (zbM xs))))⟩∧s.sl 6 = int t∧(t ≤ 2 ^ n)) (fun (t,v)=>2 ^ n - t) ((0,1)) (by refine ⟨?_,?_,?_,?_,?_,?_,?_,by simp⟩ <;> (first | (simp (maxSteps:=5000000) -dsimp only [gr,reduceEqDiff,reduceLT,reduceAdd,reduceMod,Nat.reduceBEq,zaa,zac,zad,zab];first | done | rfl | (simp;done)) | assumption | rfl)) ?_
 intro (t,v) sa ⟨h0a,h1a,h4a,r4a,h5a,r9a,h6a,hIa⟩
 have hfl:((List.range t).filter (zbM xs)).length ≤ 64:=by
  have:=List.length_filter_le (zbM xs) (List.range t)
  rw [List.length_range] at this
  omega
 simp (maxSteps:=5000000) -dsimp only [↓gp,gq,reduceCtorEq,reduceEqDiff,reduceLT,reduceLeDiff,reduceAdd,reduceMul,reduceSub,Nat.reduceBEq,Int.reduceToNat,Int.reduceLE,Int.reduceLT,Int.reduceNeg,reduceMod,zac,zad,zab,zaa,gT,TK.isInt,TK.agg,Array.toList,h0a,h1a,h4a,r4a,h5a,r9a,h6a,hsh,hun]
 refine ⟨fun h=>?_,fun h=>?_⟩
 ·have hyes:zbM xs t = true→ofN ((List.range (t + 1)).filter (zbM xs)) = ofN ((List.range t).filter (zbM xs)) ++ [(t:Int)]:=fun h=>by
   rw [List.range_succ,List.filter_append,zaV]
   simp [h,ofN]
  have hno:zbM xs t = false→ofN ((List.range (t + 1)).filter (zbM xs)) = ofN ((List.range t).filter (zbM xs)):=fun h=>by
   rw [List.range_succ,List.filter_append,zaV]
   simp [h,ofN]
  have hz:zbM (xs.take 0) t = true:=rfl
  refine zan (fun (k:Nat) s=>s.sl 0 = int n∧s.sl 1 = zaN xs∧s.sl 4 = .ref 4 1 0∧s.rw 4 = ⟨1,.box 27 [int 0,.v (.slice none 0 0)]⟩∧s.sl 5 = .own 9 v∧s.rw 9 = ⟨v,.sli 3 1 false (iL (ofN ((List.range t).filter (zbM xs))))⟩∧s.sl 6 = int t∧s.sl 7 = .v (.bool (zbM (xs.take k) t))∧s.sl 8 = int k∧(k ≤ xs.length)) (fun k=>xs.length - k) (0) (by refine ⟨?_,?_,?_,?_,?_,?_,?_,?_,?_,by omega⟩ <;> (first | (simp (maxSteps:=5000000) -dsimp only [gr,reduceEqDiff,reduceLT,reduceAdd,reduceMod,Nat.reduceBEq,zaa,zac,zad,zab,h0a,h1a,h4a,r4a,h5a,r9a,h6a,hz];first | done | rfl | (simp;done)) | assumption | rfl)) ?_
  intro k sb ⟨h0b,h1b,h4b,r4b,h5b,r9b,h6b,h7b,h8b,hIb⟩
  by_cases hk:k < xs.length
  ·have hs2:=zk6 (s:=t) hk
   have htest:=zsf (zk7 hx hk) (s:=t) (by omega)
   simp (maxSteps:=5000000) -dsimp only [↓gp,gq,reduceCtorEq,reduceEqDiff,reduceLT,reduceLeDiff,reduceAdd,reduceMul,reduceSub,Nat.reduceBEq,Int.reduceToNat,Int.reduceLE,Int.reduceLT,Int.reduceNeg,reduceMod,zac,zad,zab,zaa,gT,TK.isInt,TK.agg,Array.toList,h0b,h1b,h4b,r4b,h5b,r9b,h6b,h7b,h8b,htest]
   refine ⟨fun _=>⟨by kernel_rfl,fun h3=>⟨hk,hk,hk,hk,?_⟩,fun h3=>?_⟩,fun h=>absurd hk h⟩
   ·rw [h3,Bool.true_and] at hs2
    exact zag (k + 1) (by refine ⟨?_,?_,?_,?_,?_,?_,?_,?_,?_,by omega⟩ <;> (first | (simp (maxSteps:=5000000) -dsimp only [gr,reduceEqDiff,reduceLT,reduceAdd,reduceMod,Nat.reduceBEq,zaa,zac,zad,zab,h0b,h1b,h4b,r4b,h5b,r9b,h6b,h7b,h8b,zae hk (by omega),hs2];first | done | rfl | (simp;done)) | assumption | rfl)) (by first | omega | (simp only;omega) | (dsimp only;omega) | (show _ < _;simp;omega))
   ·rw [h3,Bool.false_and] at hs2
    exact zag (k + 1) (by refine ⟨?_,?_,?_,?_,?_,?_,?_,?_,?_,by omega⟩ <;> (first | (simp (maxSteps:=5000000) -dsimp only [gr,reduceEqDiff,reduceLT,reduceAdd,reduceMod,Nat.reduceBEq,zaa,zac,zad,zab,h0b,h1b,h4b,r4b,h5b,r9b,h6b,h7b,h8b,zae hk (by omega),hs2];first | done | rfl | (simp;done)) | assumption | rfl)) (by first | omega | (simp only;omega) | (dsimp only;omega) | (show _ < _;simp;omega))
  ·have ht:xs.take k = xs:=List.take_of_length_le (by omega)
   rw [ht] at h7b
   simp (maxSteps:=5000000) -dsimp only [↓gp,gq,reduceCtorEq,reduceEqDiff,reduceLT,reduceLeDiff,reduceAdd,reduceMul,reduceSub,Nat.reduceBEq,Int.reduceToNat,Int.reduceLE,Int.reduceLT,Int.reduceNeg,reduceMod,zac,zad,zab,zaa,gT,TK.isInt,TK.agg,Array.toList,h0b,h1b,h4b,r4b,h5b,r9b,h6b,h7b,h8b]
   refine ⟨fun h=>absurd h hk,fun _=>⟨fun hb=>?_,fun hb=>?_⟩⟩
   ·have e:=hyes hb
    exact ⟨by rw [zak];omega,zag ((t + 1,v + 1)) (by refine ⟨?_,?_,?_,?_,?_,?_,?_,by dsimp only;omega⟩ <;> (first | (simp (maxSteps:=5000000) -dsimp only [gr,reduceEqDiff,reduceLT,reduceAdd,reduceMod,Nat.reduceBEq,zaa,zac,zad,zab,h0a,h1a,h4a,r4a,h5a,r9a,h6a,h0b,h1b,h4b,r4b,h5b,r9b,h6b,h7b,h8b,zae h (by omega),e];first | done | rfl | (simp;done)) | assumption | rfl)) (by first | omega | (simp only;omega) | (dsimp only;omega) | (show _ < _;simp;omega))⟩
   ·have e:=hno hb
    exact zag ((t + 1,v)) (by refine ⟨?_,?_,?_,?_,?_,?_,?_,by dsimp only;omega⟩ <;> (first | (simp (maxSteps:=5000000) -dsimp only [gr,reduceEqDiff,reduceLT,reduceAdd,reduceMod,Nat.reduceBEq,zaa,zac,zad,zab,h0a,h1a,h4a,r4a,h5a,r9a,h6a,h0b,h1b,h4b,r4b,h5b,r9b,h6b,h7b,h8b,zae h (by omega),e];first | done | rfl | (simp;done)) | assumption | rfl)) (by first | omega | (simp only;omega) | (dsimp only;omega) | (show _ < _;simp;omega))
 ·have:t = 2 ^ n:=by omega
  subst this
  refine zaf (zhf n _ (zzR fun i hi=>?_)) ?_
  ·have:=List.mem_range.1 (List.mem_filter.1 hi).1;omega
  ·have e:inF (ofN ((List.range (2 ^ n)).filter (zbM xs))) = apF n xs:=by funext s;exact zuF
   rw [e]
   simp (maxSteps:=5000000) -dsimp only [↓gp,gq,reduceCtorEq,reduceEqDiff,reduceLT,reduceLeDiff,reduceAdd,reduceMul,reduceSub,Nat.reduceBEq,Int.reduceToNat,Int.reduceLE,Int.reduceLT,Int.reduceNeg,reduceMod,zac,zad,zab,zaa,gT,TK.isInt,TK.agg,Array.toList,h0a,h1a,h4a,r4a,h5a,r9a,h6a]
theorem zdu (n:Int) (xs:List Int):AC Tryz.prog 25 [.ag [int n,zaN xs]] (.tup [.ag [.im (int (apN n xs)),.fr 3 1 (iL (apL n xs))],.im (bool (zar n xs))]):=by
 refine AC.go (rs:=[.cell 2 27,.tmp 3]) za3 zav Tryz.func25 rfl rfl rfl (by kernel_rfl) fun hl=>?_
 simp (maxSteps:=5000000) -dsimp only [↓gp,gq,reduceCtorEq,reduceEqDiff,reduceLT,reduceLeDiff,reduceAdd,reduceMul,reduceSub,Nat.reduceBEq,Int.reduceToNat,Int.reduceLE,Int.reduceLT,Int.reduceNeg,reduceMod,zac,zad,zab,zaa,gT,TK.isInt,TK.agg,Array.toList]
 refine zaf (zbe n xs) ?_
 simp (maxSteps:=5000000) -dsimp only [↓gp,gq,reduceCtorEq,reduceEqDiff,reduceLT,reduceLeDiff,reduceAdd,reduceMul,reduceSub,Nat.reduceBEq,Int.reduceToNat,Int.reduceLE,Int.reduceLT,Int.reduceNeg,reduceMod,zac,zad,zab,zaa,gT,TK.isInt,TK.agg,Array.toList]
 unfold apN apL
 refine ⟨fun hg=>?_,fun hg=>?_⟩
 ·have hg:zar n xs = false:=by simpa using hg
  rw [hg];exact ⟨rfl,rfl,rfl⟩
 ·have hg:zar n xs = true:=by simpa using hg
  have hx:=zu8 hg
  obtain ⟨h1,h6,_⟩:=zaC.1 hg
  obtain ⟨m,rfl⟩:∃ m:Nat,n = m:=⟨n.toNat,by omega⟩
  refine zaf (zob m xs (by omega) hx) ?_
  rw [if_pos hg,if_pos hg,hg]
  simp (maxSteps:=5000000) -dsimp only [↓gp,gq,reduceCtorEq,reduceEqDiff,reduceLT,reduceLeDiff,reduceAdd,reduceMul,reduceSub,Nat.reduceBEq,Int.reduceToNat,Int.reduceLE,Int.reduceLT,Int.reduceNeg,reduceMod,zac,zad,zab,zaa,gT,TK.isInt,TK.agg,Array.toList]
noncomputable def zhR (n:Int) (xs:List Int) (p:Int):Int:=if zar n xs = true then zCO n (apL n xs) p else -1
theorem zeJ (n:Int) (xs:List Int) (p:Int):AC Tryz.prog 52 [.ag [int n,zaN xs],int p] (.im (int (zhR n xs p))):=by
 refine AC.go (rs:=[.tmp 4]) za3 zav Tryz.func52 rfl rfl rfl (by kernel_rfl) fun hl=>?_
 simp (maxSteps:=5000000) -dsimp only [↓gp,gq,reduceCtorEq,reduceEqDiff,reduceLT,reduceLeDiff,reduceAdd,reduceMul,reduceSub,Nat.reduceBEq,Int.reduceToNat,Int.reduceLE,Int.reduceLT,Int.reduceNeg,reduceMod,zac,zad,zab,zaa,gT,TK.isInt,TK.agg,Array.toList]
 refine zaf (zdu n xs) ?_
 simp (maxSteps:=5000000) -dsimp only [↓gp,gq,reduceCtorEq,reduceEqDiff,reduceLT,reduceLeDiff,reduceAdd,reduceMul,reduceSub,Nat.reduceBEq,Int.reduceToNat,Int.reduceLE,Int.reduceLT,Int.reduceNeg,reduceMod,zac,zad,zab,zaa,gT,TK.isInt,TK.agg,Array.toList]
 unfold zhR
 refine ⟨fun hg=>?_,fun hg=>?_⟩
 ·have hg:zar n xs = false:=by simpa using hg
  rw [hg];rfl
 ·have hg:zar n xs = true:=by simpa using hg
  have en:apN n xs = n:=if_pos hg
  rw [en]
  refine zaf (zf8 n (apL n xs) p) ?_
  rw [if_pos hg]
  simp (maxSteps:=5000000) -dsimp only [↓gp,gq,reduceCtorEq,reduceEqDiff,reduceLT,reduceLeDiff,reduceAdd,reduceMul,reduceSub,Nat.reduceBEq,Int.reduceToNat,Int.reduceLE,Int.reduceLT,Int.reduceNeg,reduceMod,zac,zad,zab,zaa,gT,TK.isInt,TK.agg,Array.toList]
theorem zeK (n:Int) (xs:List Int) (p:Int):AC Tryz.prog 46 [.ag [int n,zaN xs],int p] (.im (int (zhR n xs p))):=by
 refine AC.go (rs:=[.tmp 4]) za3 zav Tryz.func46 rfl rfl rfl (by kernel_rfl) fun hl=>?_
 simp (maxSteps:=5000000) -dsimp only [↓gp,gq,reduceCtorEq,reduceEqDiff,reduceLT,reduceLeDiff,reduceAdd,reduceMul,reduceSub,Nat.reduceBEq,Int.reduceToNat,Int.reduceLE,Int.reduceLT,Int.reduceNeg,reduceMod,zac,zad,zab,zaa,gT,TK.isInt,TK.agg,Array.toList]
 refine zaf (zdt n xs) ?_
 simp (maxSteps:=5000000) -dsimp only [↓gp,gq,reduceCtorEq,reduceEqDiff,reduceLT,reduceLeDiff,reduceAdd,reduceMul,reduceSub,Nat.reduceBEq,Int.reduceToNat,Int.reduceLE,Int.reduceLT,Int.reduceNeg,reduceMod,zac,zad,zab,zaa,gT,TK.isInt,TK.agg,Array.toList]
 unfold zhR
 refine ⟨fun hg=>zaf (zbI p) ?_,fun hg=>?_⟩
 ·have hg:zar n xs = true:=by simpa using hg
  have en:apN n xs = n:=if_pos hg
  rw [en,if_pos hg]
  simp (maxSteps:=5000000) -dsimp only [↓gp,gq,reduceCtorEq,reduceEqDiff,reduceLT,reduceLeDiff,reduceAdd,reduceMul,reduceSub,Nat.reduceBEq,Int.reduceToNat,Int.reduceLE,Int.reduceLT,Int.reduceNeg,reduceMod,zac,zad,zab,zaa,gT,TK.isInt,TK.agg,Array.toList]
  refine ⟨fun hp=>?_,fun hp=>zaf (zf9 n (apL n xs) p) ?_⟩
  ·have hp:isP p = false:=by simpa using hp
   unfold zCO
   rw [zfe (fun h=>by rw [h.2] at hp;cases hp)];rfl
  ·simp (maxSteps:=5000000) -dsimp only [↓gp,gq,reduceCtorEq,reduceEqDiff,reduceLT,reduceLeDiff,reduceAdd,reduceMul,reduceSub,Nat.reduceBEq,Int.reduceToNat,Int.reduceLE,Int.reduceLT,Int.reduceNeg,reduceMod,zac,zad,zab,zaa,gT,TK.isInt,TK.agg,Array.toList]
 ·have hg:zar n xs = false:=by simpa using hg
  rw [hg];rfl
theorem zD3 {n:Int} {xs:List Int} {p d:Int} (hp:isP p = false):zAb n xs p d = false:=by
 unfold zAb
 rw [zfe (fun h=>by rw [h.2] at hp;cases hp)];rfl
noncomputable def zCN (n:Int) (xs:List Int) (p:Int):Bool:=zar n xs && decide (0 < xs.length) && zAb n (apL n xs) p 2
theorem zfz (n:Int) (xs:List Int) (p:Int):AC Tryz.prog 58 [.ag [int n,zaN xs],int p] (.im (bool (zCN n xs p))):=by
 refine AC.go (rs:=[.tmp 4]) za3 zav Tryz.func58 rfl rfl rfl (by kernel_rfl) fun hl=>?_
 simp (maxSteps:=5000000) -dsimp only [↓gp,gq,reduceCtorEq,reduceEqDiff,reduceLT,reduceLeDiff,reduceAdd,reduceMul,reduceSub,Nat.reduceBEq,Int.reduceToNat,Int.reduceLE,Int.reduceLT,Int.reduceNeg,reduceMod,zac,zad,zab,zaa,gT,TK.isInt,TK.agg,Array.toList]
 refine zaf (zdu n xs) ?_
 simp (maxSteps:=5000000) -dsimp only [↓gp,gq,reduceCtorEq,reduceEqDiff,reduceLT,reduceLeDiff,reduceAdd,reduceMul,reduceSub,Nat.reduceBEq,Int.reduceToNat,Int.reduceLE,Int.reduceLT,Int.reduceNeg,reduceMod,zac,zad,zab,zaa,gT,TK.isInt,TK.agg,Array.toList]
 unfold zCN
 refine ⟨fun hg=>?_,fun hg=>?_⟩
 ·have hg:zar n xs = true:=by simpa using hg
  have en:apN n xs = n:=if_pos hg
  rw [en,hg]
  simp (maxSteps:=5000000) -dsimp only [↓gp,gq,reduceCtorEq,reduceEqDiff,reduceLT,reduceLeDiff,reduceAdd,reduceMul,reduceSub,Nat.reduceBEq,Int.reduceToNat,Int.reduceLE,Int.reduceLT,Int.reduceNeg,reduceMod,zac,zad,zab,zaa,gT,TK.isInt,TK.agg,Array.toList]
  refine ⟨fun hx=>zaf (ziS n (apL n xs) p 2) ?_,fun hx=>?_⟩
  ·simp (maxSteps:=5000000) -dsimp only [↓gp,gq,reduceCtorEq,reduceEqDiff,reduceLT,reduceLeDiff,reduceAdd,reduceMul,reduceSub,Nat.reduceBEq,Int.reduceToNat,Int.reduceLE,Int.reduceLT,Int.reduceNeg,reduceMod,zac,zad,zab,zaa,gT,TK.isInt,TK.agg,Array.toList]
   have hx:0 < xs.length:=by omega
   simp [hx]
  ·have hx:¬ 0 < xs.length:=by omega
   simp [hx]
 ·have hg:zar n xs = false:=by simpa using hg
  rw [hg];rfl
theorem zb6 (n:Int) (xs:List Int) (p:Int):AC Tryz.prog 57 [.ag [int n,zaN xs],int p] (.im (bool (zCN n xs p))):=by
 refine AC.go (rs:=[.tmp 4]) za3 zav Tryz.func57 rfl rfl rfl (by kernel_rfl) fun hl=>?_
 simp (maxSteps:=5000000) -dsimp only [↓gp,gq,reduceCtorEq,reduceEqDiff,reduceLT,reduceLeDiff,reduceAdd,reduceMul,reduceSub,Nat.reduceBEq,Int.reduceToNat,Int.reduceLE,Int.reduceLT,Int.reduceNeg,reduceMod,zac,zad,zab,zaa,gT,TK.isInt,TK.agg,Array.toList]
 refine zaf (zdt n xs) ?_
 simp (maxSteps:=5000000) -dsimp only [↓gp,gq,reduceCtorEq,reduceEqDiff,reduceLT,reduceLeDiff,reduceAdd,reduceMul,reduceSub,Nat.reduceBEq,Int.reduceToNat,Int.reduceLE,Int.reduceLT,Int.reduceNeg,reduceMod,zac,zad,zab,zaa,gT,TK.isInt,TK.agg,Array.toList]
 unfold zCN
 refine ⟨fun hg=>?_,fun hg=>?_⟩
 ·have hg:zar n xs = true:=by simpa using hg
  have en:apN n xs = n:=if_pos hg
  rw [en,hg]
  simp (maxSteps:=5000000) -dsimp only [↓gp,gq,reduceCtorEq,reduceEqDiff,reduceLT,reduceLeDiff,reduceAdd,reduceMul,reduceSub,Nat.reduceBEq,Int.reduceToNat,Int.reduceLE,Int.reduceLT,Int.reduceNeg,reduceMod,zac,zad,zab,zaa,gT,TK.isInt,TK.agg,Array.toList]
  refine ⟨fun hx=>zaf (zbI p) ?_,fun hx=>?_⟩
  ·have hx:0 < xs.length:=by omega
   simp (maxSteps:=5000000) -dsimp only [↓gp,gq,reduceCtorEq,reduceEqDiff,reduceLT,reduceLeDiff,reduceAdd,reduceMul,reduceSub,Nat.reduceBEq,Int.reduceToNat,Int.reduceLE,Int.reduceLT,Int.reduceNeg,reduceMod,zac,zad,zab,zaa,gT,TK.isInt,TK.agg,Array.toList]
   refine ⟨fun hp=>zaf (ziR n (apL n xs) p 2) ?_,fun hp=>?_⟩
   ·simp (maxSteps:=5000000) -dsimp only [↓gp,gq,reduceCtorEq,reduceEqDiff,reduceLT,reduceLeDiff,reduceAdd,reduceMul,reduceSub,Nat.reduceBEq,Int.reduceToNat,Int.reduceLE,Int.reduceLT,Int.reduceNeg,reduceMod,zac,zad,zab,zaa,gT,TK.isInt,TK.agg,Array.toList]
    simp [hx]
   ·rw [zD3 (by simpa using hp)];simp
  ·have hx:¬ 0 < xs.length:=by omega
   simp [hx]
 ·have hg:zar n xs = false:=by simpa using hg
  rw [hg];rfl
theorem zfB (e:Int):AC Tryz.prog 132 [int e] (.im (int e)):=by
 refine AC.go (rs:=[.tmp 2]) za3 zav Tryz.func132 rfl rfl rfl (by kernel_rfl) fun hl=>?_
 simp (maxSteps:=5000000) -dsimp only [↓gp,gq,reduceCtorEq,Nat.reduceEqDiff,Nat.reduceLT,Nat.reduceLeDiff,Nat.reduceAdd,Nat.reduceMul,Nat.reduceSub,Nat.reduceBEq,Int.reduceToNat,Int.reduceLE,Int.reduceLT,Int.reduceNeg,Nat.reduceMod,zac,zad,zab,zaa,gT,TK.isInt,TK.agg,Array.toList]
def zew:List Int→Int→Int
 | [],_=>0
 | e :: xs,c=>if zb4 .i64 e c = 0 then max (zew xs c) (1 + zew xs (ior .i64 c e)) else zew xs c
theorem zex:∀ (xs:List Int) (c:Int),0 ≤ zew xs c∧zew xs c ≤ xs.length:=by
 intro xs
 induction xs with
 | nil=>intro c;simp [zew]
 | cons e xs ih =>
   intro c
   have h1:=ih c
   have h2:=ih (ior .i64 c e)
   simp only [zew,List.length_cons]
   split <;> omega
theorem zhZ:∀ (len:Nat) (xs:List Int) (c:Int),xs.length = len→xs.length ≤ 1048576→AC Tryz.prog 131 [zaN xs,int c,.clo 132 []] (.im (int (zew xs c))):=by
 intro len
 induction len using Nat.strongRecOn with
 | ind len ih =>
   intro xs c hlen hx
   refine AC.go (rs:=[.tmp 6]) za3 zav Tryz.func131 rfl rfl rfl (by kernel_rfl) fun hl=>?_
   simp (maxSteps:=5000000) -dsimp only [↓gp,gq,reduceCtorEq,Nat.reduceEqDiff,Nat.reduceLT,Nat.reduceLeDiff,Nat.reduceAdd,Nat.reduceMul,Nat.reduceSub,Nat.reduceBEq,Int.reduceToNat,Int.reduceLE,Int.reduceLT,Int.reduceNeg,Nat.reduceMod,zac,zad,zab,zaa,gT,TK.isInt,TK.agg,Array.toList]
   refine zan (fun (x:Nat × Int) s=>s.sl 0 = zaN xs∧s.sl 1 = int c∧s.sl 2 = .clo 132 []∧s.sl 10 = zaN xs∧s.sl 11 = int xs.length∧s.sl 12 = int x.1∧s.sl 7 = int x.2∧x.1 ≤ xs.length∧0 ≤ x.2∧x.2 ≤ xs.length∧zew xs c = max x.2 (zew (xs.drop x.1) c)) (fun x=>xs.length - x.1) (0,0) ⟨by simp (maxSteps:=5000000) -dsimp only [gr,Nat.reduceEqDiff,Nat.reduceLT,Nat.reduceAdd,Nat.reduceMod,Nat.reduceBEq,zaa,zac,zad,zab],by simp (maxSteps:=5000000) -dsimp only [gr,Nat.reduceEqDiff,Nat.reduceLT,Nat.reduceAdd,Nat.reduceMod,Nat.reduceBEq,zaa,zac,zad,zab],by simp (maxSteps:=5000000) -dsimp only [gr,Nat.reduceEqDiff,Nat.reduceLT,Nat.reduceAdd,Nat.reduceMod,Nat.reduceBEq,zaa,zac,zad,zab],by simp (maxSteps:=5000000) -dsimp only [gr,Nat.reduceEqDiff,Nat.reduceLT,Nat.reduceAdd,Nat.reduceMod,Nat.reduceBEq,zaa,zac,zad,zab],by simp (maxSteps:=5000000) -dsimp only [gr,Nat.reduceEqDiff,Nat.reduceLT,Nat.reduceAdd,Nat.reduceMod,Nat.reduceBEq,zaa,zac,zad,zab],by simp (maxSteps:=5000000) -dsimp only [gr,Nat.reduceEqDiff,Nat.reduceLT,Nat.reduceAdd,Nat.reduceMod,Nat.reduceBEq,zaa,zac,zad,zab];rfl,by simp (maxSteps:=5000000) -dsimp only [gr,Nat.reduceEqDiff,Nat.reduceLT,Nat.reduceAdd,Nat.reduceMod,Nat.reduceBEq,zaa,zac,zad,zab],by simp,by simp,by simp,by simp;have:=zex xs c;omega⟩ ?_
   intro ⟨i,m⟩ s1 ⟨h0,h1,h2,h10,h11,h12,h7,hi,hm0,hm1,hall⟩
   simp only at h0 h1 h2 h10 h11 h12 h7 hi hm0 hm1 hall
   have hw:i < xs.length→IntKind.i64.wrap ((i:Int) + 1) = ((i + 1:Nat):Int):=fun h=>zae h (by omega)
   simp (maxSteps:=5000000) -dsimp only [↓gp,gq,reduceCtorEq,Nat.reduceEqDiff,Nat.reduceLT,Nat.reduceLeDiff,Nat.reduceAdd,Nat.reduceMul,Nat.reduceSub,Nat.reduceBEq,Int.reduceToNat,Int.reduceLE,Int.reduceLT,Int.reduceNeg,Nat.reduceMod,zac,zad,zab,zaa,gT,TK.isInt,TK.agg,Array.toList,h0,h1,h2,h10,h11,h12,h7]
   refine ⟨fun h=>⟨h,h,fun he=>⟨by kernel_rfl,?_⟩,fun he=>?_⟩,fun h=>?_⟩
   ·rw [hw h]
    have hm:=zex (xs.drop (i + 1)) (ior .i64 c (xs.getD i 0))
    have hdl:(xs.drop (i + 1)).length = xs.length - (i + 1):=by simp
    have he:zb4 .i64 (xs.getD i 0) c = 0:=by simpa using he
    refine ⟨by omega,by omega,zaf (zfB _) ?_⟩
    simp (maxSteps:=5000000) -dsimp only [↓gp,gq,reduceCtorEq,Nat.reduceEqDiff,Nat.reduceLT,Nat.reduceLeDiff,Nat.reduceAdd,Nat.reduceMul,Nat.reduceSub,Nat.reduceBEq,Int.reduceToNat,Int.reduceLE,Int.reduceLT,Int.reduceNeg,Nat.reduceMod,zac,zad,zab,zaa,gT,TK.isInt,TK.agg,Array.toList,h0,h1,h2,h10,h11,h12,h7,hw h]
    refine zaf (ih (xs.drop (i + 1)).length (by omega) _ _ rfl (by omega)) ?_
    have hw2:IntKind.i64.wrap (1 + zew (xs.drop (i + 1)) (ior .i64 c (xs.getD i 0))) = 1 + zew (xs.drop (i + 1)) (ior .i64 c (xs.getD i 0)):=zap (by omega) (by omega)
    simp (maxSteps:=5000000) -dsimp only [↓gp,gq,reduceCtorEq,Nat.reduceEqDiff,Nat.reduceLT,Nat.reduceLeDiff,Nat.reduceAdd,Nat.reduceMul,Nat.reduceSub,Nat.reduceBEq,Int.reduceToNat,Int.reduceLE,Int.reduceLT,Int.reduceNeg,Nat.reduceMod,zac,zad,zab,zaa,gT,TK.isInt,TK.agg,Array.toList,h0,h1,h2,h10,h11,h12,h7,hw h,hw2]
    refine zag (i + 1,max m (1 + zew (xs.drop (i + 1)) (ior .i64 c (xs.getD i 0)))) ⟨by simp (maxSteps:=5000000) -dsimp only [gr,Nat.reduceEqDiff,Nat.reduceLT,Nat.reduceAdd,Nat.reduceMod,Nat.reduceBEq,zaa,zac,zad,zab,h0],by simp (maxSteps:=5000000) -dsimp only [gr,Nat.reduceEqDiff,Nat.reduceLT,Nat.reduceAdd,Nat.reduceMod,Nat.reduceBEq,zaa,zac,zad,zab,h1],by simp (maxSteps:=5000000) -dsimp only [gr,Nat.reduceEqDiff,Nat.reduceLT,Nat.reduceAdd,Nat.reduceMod,Nat.reduceBEq,zaa,zac,zad,zab,h2],by simp (maxSteps:=5000000) -dsimp only [gr,Nat.reduceEqDiff,Nat.reduceLT,Nat.reduceAdd,Nat.reduceMod,Nat.reduceBEq,zaa,zac,zad,zab,h10],by simp (maxSteps:=5000000) -dsimp only [gr,Nat.reduceEqDiff,Nat.reduceLT,Nat.reduceAdd,Nat.reduceMod,Nat.reduceBEq,zaa,zac,zad,zab,h11],by simp (maxSteps:=5000000) -dsimp only [gr,Nat.reduceEqDiff,Nat.reduceLT,Nat.reduceAdd,Nat.reduceMod,Nat.reduceBEq,zaa,zac,zad,zab],?_,h,by simp only;omega,by simp only;omega,?_⟩ (by simp only;omega)
    ·simp (maxSteps:=5000000) -dsimp only [gr,Nat.reduceEqDiff,Nat.reduceLT,Nat.reduceAdd,Nat.reduceMod,Nat.reduceBEq,zaa,zac,zad,zab]
     congr 2
     omega
    ·rw [hall,zdj 0 h]
     simp only [zew]
     rw [if_pos he]
     omega
   ·have he:¬ zb4 .i64 (xs.getD i 0) c = 0:=by simpa using he
    refine zag (i + 1,m) ⟨by simp (maxSteps:=5000000) -dsimp only [gr,Nat.reduceEqDiff,Nat.reduceLT,Nat.reduceAdd,Nat.reduceMod,Nat.reduceBEq,zaa,zac,zad,zab,h0],by simp (maxSteps:=5000000) -dsimp only [gr,Nat.reduceEqDiff,Nat.reduceLT,Nat.reduceAdd,Nat.reduceMod,Nat.reduceBEq,zaa,zac,zad,zab,h1],by simp (maxSteps:=5000000) -dsimp only [gr,Nat.reduceEqDiff,Nat.reduceLT,Nat.reduceAdd,Nat.reduceMod,Nat.reduceBEq,zaa,zac,zad,zab,h2],by simp (maxSteps:=5000000) -dsimp only [gr,Nat.reduceEqDiff,Nat.reduceLT,Nat.reduceAdd,Nat.reduceMod,Nat.reduceBEq,zaa,zac,zad,zab,h10],by simp (maxSteps:=5000000) -dsimp only [gr,Nat.reduceEqDiff,Nat.reduceLT,Nat.reduceAdd,Nat.reduceMod,Nat.reduceBEq,zaa,zac,zad,zab,h11],by simp (maxSteps:=5000000) -dsimp only [gr,Nat.reduceEqDiff,Nat.reduceLT,Nat.reduceAdd,Nat.reduceMod,Nat.reduceBEq,zaa,zac,zad,zab];rw [hw h],by simp (maxSteps:=5000000) -dsimp only [gr,Nat.reduceEqDiff,Nat.reduceLT,Nat.reduceAdd,Nat.reduceMod,Nat.reduceBEq,zaa,zac,zad,zab,h7],h,hm0,hm1,?_⟩ (by simp only;omega)
    rw [hall,zdj 0 h]
    simp only [zew]
    rw [if_neg he]
   ·rw [hall,List.drop_of_length_le (by omega)]
    simp only [zew]
    omega
theorem zdx (e:Int):zb4 .i64 0 e = 0:=by
 have h:BitVec.ofInt 64 (0:Int) &&& BitVec.ofInt 64 e = 0#64:=by
  have:BitVec.ofInt 64 (0:Int) = 0#64:=by decide
  rw [this];simp
 show IntKind.i64.wrap (((BitVec.ofInt 64 (0:Int) &&& BitVec.ofInt 64 e).toNat:Nat):Int) = 0
 rw [h];decide
theorem zlD (n:Int) (xs:List Int) (hx:xs.length ≤ 1048576):∀ (len at0:Nat) (c:Int),at0 + len = xs.length→AC Tryz.prog 122 [.ag [int n,zaN xs],int at0,int c,bool false] (.im (int (zew (xs.drop at0) c))):=by
 intro len
 induction len with
 | zero =>
   intro at0 c hat
   refine AC.go (rs:=[.tmp 8]) za3 zav Tryz.func122 rfl rfl rfl (by kernel_rfl) fun hl=>?_
   simp (maxSteps:=5000000) -dsimp only [↓gp,gq,reduceCtorEq,Nat.reduceEqDiff,Nat.reduceLT,Nat.reduceLeDiff,Nat.reduceAdd,Nat.reduceMul,Nat.reduceSub,Nat.reduceBEq,Int.reduceToNat,Int.reduceLE,Int.reduceLT,Int.reduceNeg,Nat.reduceMod,zac,zad,zab,zaa,gT,TK.isInt,TK.agg,Array.toList]
   refine ⟨fun h=>?_,fun h=>?_⟩
   ·rw [List.drop_of_length_le (by omega)];rfl
   ·exfalso
    simp at h
    omega
 | succ len ih =>
   intro at0 c hat
   refine AC.go (rs:=[.tmp 8]) za3 zav Tryz.func122 rfl rfl rfl (by kernel_rfl) fun hl=>?_
   have hw:IntKind.i64.wrap ((at0:Int) + 1) = ((at0 + 1:Nat):Int):=zae (n:=xs.length) (by omega) (by omega)
   simp (maxSteps:=5000000) -dsimp only [↓gp,gq,reduceCtorEq,Nat.reduceEqDiff,Nat.reduceLT,Nat.reduceLeDiff,Nat.reduceAdd,Nat.reduceMul,Nat.reduceSub,Nat.reduceBEq,Int.reduceToNat,Int.reduceLE,Int.reduceLT,Int.reduceNeg,Nat.reduceMod,zac,zad,zab,zaa,gT,TK.isInt,TK.agg,Array.toList,hw]
   refine ⟨fun h=>?_,fun h=>zaf (ih (at0 + 1) c (by omega)) ?_⟩
   ·exfalso
    simp at h
    omega
   ·simp (maxSteps:=5000000) -dsimp only [↓gp,gq,reduceCtorEq,Nat.reduceEqDiff,Nat.reduceLT,Nat.reduceLeDiff,Nat.reduceAdd,Nat.reduceMul,Nat.reduceSub,Nat.reduceBEq,Int.reduceToNat,Int.reduceLE,Int.reduceLT,Int.reduceNeg,Nat.reduceMod,zac,zad,zab,zaa,gT,TK.isInt,TK.agg,Array.toList,hw]
    have hlt:at0 < xs.length:=by omega
    refine ⟨hlt,hlt,?_⟩
    refine zan (fun (_:Unit) s=>s.sl 4 = .ref 4 1 0∧s.rw 4 = ⟨1,.box 36 [int n,zaN xs]⟩∧s.sl 1 = int at0∧s.sl 2 = int c∧s.sl 3 = bool false∧s.sl 9 = int (zew (xs.drop (at0 + 1)) c)∧s.sl 10 = int (xs.getD at0 0)∧s.sl 11 = int 0∧s.sl 12 = int 0) (fun _=>0) () ⟨by simp (maxSteps:=5000000) -dsimp only [gr,Nat.reduceEqDiff,Nat.reduceLT,Nat.reduceAdd,Nat.reduceMod,Nat.reduceBEq,zaa,zac,zad,zab],by simp (maxSteps:=5000000) -dsimp only [gr,Nat.reduceEqDiff,Nat.reduceLT,Nat.reduceAdd,Nat.reduceMod,Nat.reduceBEq,zaa,zac,zad,zab],by simp (maxSteps:=5000000) -dsimp only [gr,Nat.reduceEqDiff,Nat.reduceLT,Nat.reduceAdd,Nat.reduceMod,Nat.reduceBEq,zaa,zac,zad,zab],by simp (maxSteps:=5000000) -dsimp only [gr,Nat.reduceEqDiff,Nat.reduceLT,Nat.reduceAdd,Nat.reduceMod,Nat.reduceBEq,zaa,zac,zad,zab],by simp (maxSteps:=5000000) -dsimp only [gr,Nat.reduceEqDiff,Nat.reduceLT,Nat.reduceAdd,Nat.reduceMod,Nat.reduceBEq,zaa,zac,zad,zab],by simp (maxSteps:=5000000) -dsimp only [gr,Nat.reduceEqDiff,Nat.reduceLT,Nat.reduceAdd,Nat.reduceMod,Nat.reduceBEq,zaa,zac,zad,zab],by simp (maxSteps:=5000000) -dsimp only [gr,Nat.reduceEqDiff,Nat.reduceLT,Nat.reduceAdd,Nat.reduceMod,Nat.reduceBEq,zaa,zac,zad,zab],by simp (maxSteps:=5000000) -dsimp only [gr,Nat.reduceEqDiff,Nat.reduceLT,Nat.reduceAdd,Nat.reduceMod,Nat.reduceBEq,zaa,zac,zad,zab],by simp (maxSteps:=5000000) -dsimp only [gr,Nat.reduceEqDiff,Nat.reduceLT,Nat.reduceAdd,Nat.reduceMod,Nat.reduceBEq,zaa,zac,zad,zab]⟩ ?_
    intro _ s1 ⟨h4,r4,h1,h2,h3,h9,h10,h11,h12⟩
    have hz:IntKind.i64.wrap (0 - 0) = 0:=by decide
    simp (maxSteps:=5000000) -dsimp only [↓gp,gq,reduceCtorEq,Nat.reduceEqDiff,Nat.reduceLT,Nat.reduceLeDiff,Nat.reduceAdd,Nat.reduceMul,Nat.reduceSub,Nat.reduceBEq,Int.reduceToNat,Int.reduceLE,Int.reduceLT,Int.reduceNeg,Nat.reduceMod,zac,zad,zab,zaa,gT,TK.isInt,TK.agg,Array.toList,h4,r4,h1,h2,h3,h9,h10,h11,h12,zdx,hz,hw]
    have hm:=zex (xs.drop (at0 + 1)) (ior .i64 c (xs.getD at0 0))
    have hdl:(xs.drop (at0 + 1)).length = xs.length - (at0 + 1):=by simp
    rw [zdj 0 hlt]
    simp only [zew]
    have hw2:IntKind.i64.wrap (1 + zew (xs.drop (at0 + 1)) (ior .i64 c (xs.getD at0 0))) = 1 + zew (xs.drop (at0 + 1)) (ior .i64 c (xs.getD at0 0)):=zap (by omega) (by omega)
    refine ⟨fun _=>⟨fun he=>zaf (ih (at0 + 1) _ (by omega)) ?_,fun he=>?_⟩,fun _=>⟨fun he=>zaf (ih (at0 + 1) _ (by omega)) ?_,fun he=>?_⟩⟩
    ·simp (maxSteps:=5000000) -dsimp only [↓gp,gq,reduceCtorEq,Nat.reduceEqDiff,Nat.reduceLT,Nat.reduceLeDiff,Nat.reduceAdd,Nat.reduceMul,Nat.reduceSub,Nat.reduceBEq,Int.reduceToNat,Int.reduceLE,Int.reduceLT,Int.reduceNeg,Nat.reduceMod,zac,zad,zab,zaa,gT,TK.isInt,TK.agg,Array.toList,h4,r4,h1,h2,h3,h9,h10,h11,h12,zdx,hz,hw,hw2]
     refine zaf (zdC _ _) ?_
     simp (maxSteps:=5000000) -dsimp only [↓gp,gq,reduceCtorEq,Nat.reduceEqDiff,Nat.reduceLT,Nat.reduceLeDiff,Nat.reduceAdd,Nat.reduceMul,Nat.reduceSub,Nat.reduceBEq,Int.reduceToNat,Int.reduceLE,Int.reduceLT,Int.reduceNeg,Nat.reduceMod,zac,zad,zab,zaa,gT,TK.isInt,TK.agg,Array.toList,h4,r4,h1,h2,h3,h9,h10,h11,h12,zdx,hz,hw,hw2]
     rw [if_pos (by simpa using he)]
    ·rw [if_neg (by simpa using he)]
    ·simp (maxSteps:=5000000) -dsimp only [↓gp,gq,reduceCtorEq,Nat.reduceEqDiff,Nat.reduceLT,Nat.reduceLeDiff,Nat.reduceAdd,Nat.reduceMul,Nat.reduceSub,Nat.reduceBEq,Int.reduceToNat,Int.reduceLE,Int.reduceLT,Int.reduceNeg,Nat.reduceMod,zac,zad,zab,zaa,gT,TK.isInt,TK.agg,Array.toList,h4,r4,h1,h2,h3,h9,h10,h11,h12,zdx,hz,hw,hw2]
     refine zaf (zdC _ _) ?_
     simp (maxSteps:=5000000) -dsimp only [↓gp,gq,reduceCtorEq,Nat.reduceEqDiff,Nat.reduceLT,Nat.reduceLeDiff,Nat.reduceAdd,Nat.reduceMul,Nat.reduceSub,Nat.reduceBEq,Int.reduceToNat,Int.reduceLE,Int.reduceLT,Int.reduceNeg,Nat.reduceMod,zac,zad,zab,zaa,gT,TK.isInt,TK.agg,Array.toList,h4,r4,h1,h2,h3,h9,h10,h11,h12,zdx,hz,hw,hw2]
     rw [if_pos (by simpa using he)]
    ·rw [if_neg (by simpa using he)]
noncomputable def zhj (n:Int) (xs:List Int):Int:=if zar n xs = true then zew xs 0 else -1
theorem zhk (n:Int) (xs:List Int) (hx:xs.length ≤ 1048576):AC Tryz.prog 43 [.ag [int n,zaN xs]] (.im (int (zhj n xs))):=by
 refine AC.go (rs:=[.tmp 2]) za3 zav Tryz.func43 rfl rfl rfl (by kernel_rfl) fun hl=>?_
 simp (maxSteps:=5000000) -dsimp only [↓gp,gq,reduceCtorEq,Nat.reduceEqDiff,Nat.reduceLT,Nat.reduceLeDiff,Nat.reduceAdd,Nat.reduceMul,Nat.reduceSub,Nat.reduceBEq,Int.reduceToNat,Int.reduceLE,Int.reduceLT,Int.reduceNeg,Nat.reduceMod,zac,zad,zab,zaa,gT,TK.isInt,TK.agg,Array.toList]
 refine zaf (zbe n xs) ?_
 simp (maxSteps:=5000000) -dsimp only [↓gp,gq,reduceCtorEq,Nat.reduceEqDiff,Nat.reduceLT,Nat.reduceLeDiff,Nat.reduceAdd,Nat.reduceMul,Nat.reduceSub,Nat.reduceBEq,Int.reduceToNat,Int.reduceLE,Int.reduceLT,Int.reduceNeg,Nat.reduceMod,zac,zad,zab,zaa,gT,TK.isInt,TK.agg,Array.toList]
 unfold zhj
 refine ⟨fun h=>?_,fun h=>zaf (zlD n xs hx xs.length 0 0 (by omega)) ?_⟩
 ·rw [Bool.not_eq_true'] at h
  rw [h];rfl
 ·rw [Bool.not_eq_false'] at h
  simp (maxSteps:=5000000) -dsimp only [↓gp,gq,reduceCtorEq,Nat.reduceEqDiff,Nat.reduceLT,Nat.reduceLeDiff,Nat.reduceAdd,Nat.reduceMul,Nat.reduceSub,Nat.reduceBEq,Int.reduceToNat,Int.reduceLE,Int.reduceLT,Int.reduceNeg,Nat.reduceMod,zac,zad,zab,zaa,gT,TK.isInt,TK.agg,Array.toList]
  rw [h];rfl
theorem zhl (n:Int) (xs:List Int) (hx:xs.length ≤ 1048576):AC Tryz.prog 50 [.ag [int n,zaN xs]] (.im (int (zhj n xs))):=by
 refine AC.go (rs:=[.tmp 2]) za3 zav Tryz.func50 rfl rfl rfl (by kernel_rfl) fun hl=>?_
 simp (maxSteps:=5000000) -dsimp only [↓gp,gq,reduceCtorEq,Nat.reduceEqDiff,Nat.reduceLT,Nat.reduceLeDiff,Nat.reduceAdd,Nat.reduceMul,Nat.reduceSub,Nat.reduceBEq,Int.reduceToNat,Int.reduceLE,Int.reduceLT,Int.reduceNeg,Nat.reduceMod,zac,zad,zab,zaa,gT,TK.isInt,TK.agg,Array.toList]
 refine zaf (zb7 n xs) ?_
 simp (maxSteps:=5000000) -dsimp only [↓gp,gq,reduceCtorEq,Nat.reduceEqDiff,Nat.reduceLT,Nat.reduceLeDiff,Nat.reduceAdd,Nat.reduceMul,Nat.reduceSub,Nat.reduceBEq,Int.reduceToNat,Int.reduceLE,Int.reduceLT,Int.reduceNeg,Nat.reduceMod,zac,zad,zab,zaa,gT,TK.isInt,TK.agg,Array.toList]
 unfold zhj
 refine ⟨fun h=>?_,fun h=>zaf (zhZ xs.length xs 0 rfl hx) ?_⟩
 ·rw [Bool.not_eq_true'] at h
  rw [h];rfl
 ·rw [Bool.not_eq_false'] at h
  simp (maxSteps:=5000000) -dsimp only [↓gp,gq,reduceCtorEq,Nat.reduceEqDiff,Nat.reduceLT,Nat.reduceLeDiff,Nat.reduceAdd,Nat.reduceMul,Nat.reduceSub,Nat.reduceBEq,Int.reduceToNat,Int.reduceLE,Int.reduceLT,Int.reduceNeg,Nat.reduceMod,zac,zad,zab,zaa,gT,TK.isInt,TK.agg,Array.toList]
  rw [h];rfl
theorem zGl {m:Nat} (h1:1 ≤ m) (hm:m ≤ 6) {f:Nat→Bool} (hf:∀ s,s < 64→f s = true→s < 2 ^ m):zjA (m:Int) (ofN (ziq f true)) = true:=by
 refine zgn ⟨(by omega:(1:Int) ≤ (m:Int)),(by omega:(m:Int) ≤ 6),fun k hk2=>?_⟩
 rw [zak] at hk2
 have hpw:=zzg f true
 have hmem:=fun i (hi:i < (ziq f true).length)=>zg8.1 (zaD 0 hi)
 generalize ziq f true = ys at *
 have hbef:∀ i j,i < j→j < ys.length→zz9 (ys.getD i 0) (ys.getD j 0):=fun i j hij hj=>by
  have:=List.pairwise_iff_getElem.1 hpw i j (by omega) hj hij
  have a:ys.getD i 0 = ys[i]'(by omega):=by simp [List.getD,show i < ys.length by omega]
  have b:ys.getD j 0 = ys[j]:=by simp [List.getD,hj]
  rw [a,b];exact this
 refine ⟨?_,fun h0=>?_,fun i hi=>?_⟩
 ·have h1:=hmem k hk2
  have h2:=hf _ h1.1.1 h1.1.2
  rw [zaJ hk2]
  unfold zcA
  rw [decide_eq_true_iff]
  refine ⟨by omega,by omega,by omega,?_⟩
  rw [zhH];exact_mod_cast h2
 ·rw [zaJ hk2,zaJ (by omega)]
  have hb:=hbef (k - 1) k (by omega) hk2
  have:=(hmem k hk2).1.1
  have:=(hmem (k - 1) (by omega)).1.1
  unfold zln
  unfold zz9 at hb
  rw [zce (by omega),zce (by omega)]
  simp only [Bool.and_eq_true,decide_eq_true_iff]
  refine ⟨by omega,by omega,?_⟩
  split
  ·rw [decide_eq_true_iff];omega
  ·rw [decide_eq_true_iff];omega
 ·have hlti:=(hmem i (by omega)).1.1
  have hltk:=(hmem k hk2).1
  rw [zaJ hk2,zaJ (by omega),zaQ (by omega) (by omega)]
  intro e
  have:=zdm.1 (hmem i (by omega)).2 (ys.getD k 0) hltk.1 hltk.2 (by omega)
  have hb:=hbef i k hi hk2
  rw [this] at hb
  exact zep hb
theorem zBr (x:Int):0 ≤ zb4 .i64 x 255∧zb4 .i64 x 255 < 256:=by
 have h2:(BitVec.ofInt 64 (255:Int)).toNat = 255:=by decide
 have e:zb4 .i64 x 255 = IntKind.i64.wrap (((BitVec.ofInt 64 x &&& BitVec.ofInt 64 255).toNat:Nat):Int):=rfl
 have:(BitVec.ofInt 64 x &&& BitVec.ofInt 64 255).toNat ≤ 255:=by
  rw [BitVec.toNat_and,h2];exact Nat.and_le_right
 rw [e,zap (by omega) (by omega)]
 omega
abbrev TC:TypeId:=113
def zGT (P:Int→Prop) (rv:RV):Prop:=∃ x,rv = .im (int x)∧P x
def crH (h:Int):Int:=IntKind.i64.wrap (IntKind.i64.wrap (h * 6364136223846793005) + 1442695040888963407)
def zGU (rv:RV):Prop:=∃ b,rv = .im (bool b)
theorem zq8 (bs:List Int):zz2 Tryz.prog 82 TC bs:=by
 refine AG.go (rs:=[.tmp 2]) za3 zav Tryz.func82 rfl rfl rfl (by kernel_rfl) fun hl _ s hs hR=>?_
 simp only [zaK,za7,and_true] at hl
 have hbl:bs.length ≤ 9223372036854775807:=by
  have:=hl.1
  simpa [kL] using this
 simp (maxSteps:=5000000) -dsimp only [↓gp,gq,reduceCtorEq,reduceEqDiff,reduceLT,reduceLeDiff,reduceAdd,reduceMul,reduceSub,Nat.reduceBEq,Int.reduceToNat,Int.reduceLE,Int.reduceLT,Int.reduceNeg,reduceMod,zac,zad,zab,zaa,gT,TK.isInt,TK.agg,Array.toList,hs,hR,zlF]
 refine zan (fun (za:Nat × Int) s=>match za with | (i,h)=>s.sl 0 = .sl false 1 (kL .u8 bs)∧s.sl 3 = int h∧s.sl 4 = int i∧(i ≤ bs.length)) (fun (i,h)=>bs.length - i) ((0,IntKind.i64.wrap (26583 + (bs.length:Int)))) (by refine ⟨?_,?_,?_,by simp⟩ <;> (first | (simp (maxSteps:=5000000) -dsimp only [gr,reduceEqDiff,reduceLT,reduceAdd,reduceMod,Nat.reduceBEq,zaa,zac,zad,zab,hs];first | done | rfl | (simp;done)) | assumption | rfl)) ?_
 intro (i,h) sa ⟨h0a,h3a,h4a,hIa⟩
 simp (maxSteps:=5000000) -dsimp only [↓gp,gq,reduceCtorEq,reduceEqDiff,reduceLT,reduceLeDiff,reduceAdd,reduceMul,reduceSub,Nat.reduceBEq,Int.reduceToNat,Int.reduceLE,Int.reduceLT,Int.reduceNeg,reduceMod,zac,zad,zab,zaa,gT,TK.isInt,TK.agg,Array.toList,h0a,h3a,h4a]
 have hw:∀ hk:i < bs.length,IntKind.i64.wrap ((i:Int) + 1) = ((i + 1:Nat):Int):=fun hk=>zae hk hbl
 refine ⟨fun hk=>⟨fun h4=>⟨hk,hk,?_⟩,fun h4=>?_⟩,fun hk=>?_⟩
 ·exact zag ((i + 1,zb4 .i64 (IntKind.i64.wrap (IntKind.i64.wrap (IntKind.i64.wrap (h * 131) + IntKind.i64.wrap (bs.getD i 0)) + 7)) 1073741823)) (by refine ⟨?_,?_,?_,by dsimp only;omega⟩ <;> (first | (simp (maxSteps:=5000000) -dsimp only [gr,reduceEqDiff,reduceLT,reduceAdd,reduceMod,Nat.reduceBEq,zaa,zac,zad,zab,h0a,h3a,h4a,hw hk];first | done | rfl | (simp;done)) | assumption | rfl)) (by first | omega | (simp only;omega) | (dsimp only;omega) | (show _ < _;simp;omega))
 ·exact ⟨31,_,h,rfl,by simp (maxSteps:=5000000) -dsimp only [gr,reduceEqDiff,reduceLT,reduceAdd,reduceMod,Nat.reduceBEq,zaa,zac,zad,zab];rfl⟩
 ·exact ⟨31,_,h,rfl,by simp (maxSteps:=5000000) -dsimp only [gr,reduceEqDiff,reduceLT,reduceAdd,reduceMod,Nat.reduceBEq,zaa,zac,zad,zab];rfl⟩
def byF (bs:List Int) (i:Nat) (h:Int):Int :=
 if i < bs.length then zb4 .i64 (IntKind.i64.wrap (zb4 .i64 (zDn .i64 (znH .i64 (crH h) 33) (znH .i64 (crH h) 45)) 255 + IntKind.i64.wrap (bs.getD i 0))) 255
 else zb4 .i64 (zDn .i64 (znH .i64 (crH h) 33) (znH .i64 (crH h) 45)) 255
def nxI (bs:List Int) (i:Nat):Nat:=if i < bs.length then i + 1 else i
theorem ziu (bs:List Int) (i:Nat) (h:Int):0 ≤ byF bs i h∧byF bs i h < 256:=by
 unfold byF
 split <;> exact zBr _
set_option maxRecDepth 100000 in
theorem zoh (bs:List Int) (hbs:bs.length ≤ 9223372036854775806):zoj Tryz.prog 157 TC bs [] fun i h=>(.int .i64 (byF bs i h),nxI bs i,crH h):=by
 intro i h
 refine AG.go (rs:=[.tmp 2]) za3 zav Tryz.func157 rfl rfl rfl (by kernel_rfl) fun hl _ s hs hR=>?_
 have e0:s.rw 1000000 = ⟨1,.box TC [.sl false 1 (kL .u8 bs),int i,int h]⟩:=by rw [hR];rfl
 have e1:s.rw 1000500 = ⟨0,.dead⟩:=by rw [hR];rfl
 simp (maxSteps:=5000000) -dsimp only [↓gp,gq,reduceCtorEq,reduceEqDiff,reduceLT,reduceLeDiff,reduceAdd,reduceMul,reduceSub,Nat.reduceBEq,Int.reduceToNat,Int.reduceLE,Int.reduceLT,Int.reduceNeg,reduceMod,zac,zad,zab,zaa,gT,TK.isInt,TK.agg,Array.toList,hs,e0]
 refine ⟨by kernel_rfl,by kernel_rfl,fun hi=>⟨by kernel_rfl,hi,hi,?_⟩,fun hi=>?_⟩
 ·have hw:IntKind.i64.wrap ((i:Int) + 1) = ((i + 1:Nat):Int):=zae hi (by omega)
  rw [hw]
  refine ⟨by simp only [byF,if_pos hi];rfl,?_,by simp (maxSteps:=5000000) -dsimp only [gr,reduceEqDiff,reduceLT,reduceAdd,reduceMod,Nat.reduceBEq,zaa,zac,zad,zab,e1]⟩
  simp (maxSteps:=5000000) -dsimp only [gr,reduceEqDiff,reduceLT,reduceAdd,reduceMod,Nat.reduceBEq,zaa,zac,zad,zab,e0]
  simp only [nxI,if_pos hi]
  rfl
 ·refine ⟨by simp only [byF,if_neg hi];rfl,?_,by simp (maxSteps:=5000000) -dsimp only [gr,reduceEqDiff,reduceLT,reduceAdd,reduceMod,Nat.reduceBEq,zaa,zac,zad,zab,e1]⟩
  simp (maxSteps:=5000000) -dsimp only [gr,reduceEqDiff,reduceLT,reduceAdd,reduceMod,Nat.reduceBEq,zaa,zac,zad,zab,e0]
  simp only [nxI,if_neg hi]
  rfl
def zGm (n x:Int):Prop:=0 ≤ x∧(x < n ∨ (n ≤ 0∧x = 0))
theorem zzZ {n x:Int} (hn:0 < n) (hx:0 ≤ x):zGm n (x.tmod n):=by
 rw [zdV hx]
 exact ⟨Int.emod_nonneg _ (by omega),.inl (Int.emod_lt_of_pos _ hn)⟩
theorem zsj {n:Nat} {x:Int} (hn:0 < n) (hx:zGm n x):∃ m:Nat,x = m∧m < n:=by
 obtain ⟨h1,h2 | ⟨h2,h3⟩⟩:=hx
 ·exact ⟨x.toNat,by omega,by omega⟩
 ·omega
def beF (bs:List Int) (n:Int) (i:Nat) (h:Int):Value × Nat × Int :=
 if n ≤ 0 then (.int .i64 0,i,h)
 else if n ≤ 256 then (.int .i64 ((byF bs i h).tmod n),nxI bs i,crH h)
 else (.int .i64 ((byF bs i h * 16777216 + byF bs (nxI bs i) (crH h) * 65536 + byF bs (nxI bs (nxI bs i)) (crH (crH h)) * 256 + byF bs (nxI bs (nxI bs (nxI bs i))) (crH (crH (crH h)))).tmod n),nxI bs (nxI bs (nxI bs (nxI bs i))),crH (crH (crH (crH h))))
theorem zz0 (bs:List Int) (n:Int) (i:Nat) (h:Int):zGT (zGm n) (.im (.v (beF bs n i h).1)):=by
 unfold beF
 have b1:=ziu bs i h
 have b2:=ziu bs (nxI bs i) (crH h)
 have b3:=ziu bs (nxI bs (nxI bs i)) (crH (crH h))
 have b4:=ziu bs (nxI bs (nxI bs (nxI bs i))) (crH (crH (crH h)))
 split
 ·rename_i h0
  exact ⟨0,rfl,Int.le_refl _,.inr ⟨h0,rfl⟩⟩
 ·split
  ·exact ⟨_,rfl,zzZ (by omega) (by omega)⟩
  ·exact ⟨_,rfl,zzZ (by omega) (by omega)⟩
theorem zq9 (bs:List Int) (n:Int) (i:Nat) (h:Int):∃ (x:Int) (j:Nat) (g:Int),beF bs n i h = (.int .i64 x,j,g)∧zGm n x:=by
 obtain ⟨x,hx,hq⟩:=zz0 bs n i h
 injection hx with hx
 injection hx with hx
 exact ⟨x,(beF bs n i h).2.1,(beF bs n i h).2.2,by rw [← hx],hq⟩
theorem zld (n:Int):zcn [int n]:=fun p hp=>by rw [List.mem_singleton.1 hp];rfl
set_option maxRecDepth 100000 in
theorem zcz (bs:List Int) (hbs:bs.length ≤ 9223372036854775806) (n:Int) (hn:n ≤ 1000000):zoj Tryz.prog 81 TC bs [int n] (beF bs n):=by
 intro i h
 refine AG.go (rs:=[.tmp 4]) za3 zav Tryz.func81 rfl rfl rfl (by kernel_rfl) fun hl _ s hs hR=>?_
 have e0:s.rw 1000000 = ⟨1,.box TC [.sl false 1 (kL .u8 bs),int i,int h]⟩:=by rw [hR];rfl
 have e1:s.rw 1000500 = ⟨0,.dead⟩:=by rw [hR];rfl
 have hc:=zoh bs hbs
 have hp:zcn []:=fun _ h=>absurd h (by simp)
 have b1:=ziu bs i h
 have b2:=ziu bs (nxI bs i) (crH h)
 have b3:=ziu bs (nxI bs (nxI bs i)) (crH (crH h))
 have b4:=ziu bs (nxI bs (nxI bs (nxI bs i))) (crH (crH (crH h)))
 simp (maxSteps:=5000000) -dsimp only [↓gp,gq,reduceCtorEq,reduceEqDiff,reduceLT,reduceLeDiff,reduceAdd,reduceMul,reduceSub,Nat.reduceBEq,Int.reduceToNat,Int.reduceLE,Int.reduceLT,Int.reduceNeg,reduceMod,zac,zad,zab,zaa,gT,TK.isInt,TK.agg,Array.toList,hs,e0]
 refine ⟨fun h0=>?_,fun h0=>⟨fun h1=>?_,fun h1=>?_⟩⟩
 ·unfold beF;rw [if_pos h0]
  exact ⟨rfl,by simp (maxSteps:=5000000) -dsimp only [gr,reduceEqDiff,reduceLT,reduceAdd,reduceMod,Nat.reduceBEq,zaa,zac,zad,zab,e0] <;> rfl,by simp (maxSteps:=5000000) -dsimp only [gr,reduceEqDiff,reduceLT,reduceAdd,reduceMod,Nat.reduceBEq,zaa,zac,zad,zab,e1]⟩
 ·refine zey hc hp (i:=i) (h:=h) (by simp (maxSteps:=5000000) -dsimp only [gr,reduceEqDiff,reduceLT,reduceAdd,reduceMod,Nat.reduceBEq,zaa,zac,zad,zab,e0] <;> rfl) rfl ?_
  simp (maxSteps:=5000000) -dsimp only [↓gp,gq,reduceCtorEq,reduceEqDiff,reduceLT,reduceLeDiff,reduceAdd,reduceMul,reduceSub,Nat.reduceBEq,Int.reduceToNat,Int.reduceLE,Int.reduceLT,Int.reduceNeg,reduceMod,zac,zad,zab,zaa,gT,TK.isInt,TK.agg,Array.toList,hs,e0]
  unfold beF;rw [if_neg h0,if_pos h1]
  exact ⟨by omega,rfl,by simp (maxSteps:=5000000) -dsimp only [gr,reduceEqDiff,reduceLT,reduceAdd,reduceMod,Nat.reduceBEq,zaa,zac,zad,zab,e0] <;> rfl,by simp (maxSteps:=5000000) -dsimp only [gr,reduceEqDiff,reduceLT,reduceAdd,reduceMod,Nat.reduceBEq,zaa,zac,zad,zab,e1]⟩
 ·refine zey hc hp (i:=i) (h:=h) (by simp (maxSteps:=5000000) -dsimp only [gr,reduceEqDiff,reduceLT,reduceAdd,reduceMod,Nat.reduceBEq,zaa,zac,zad,zab,e0] <;> rfl) rfl ?_
  simp (maxSteps:=5000000) -dsimp only [↓gp,gq,reduceCtorEq,reduceEqDiff,reduceLT,reduceLeDiff,reduceAdd,reduceMul,reduceSub,Nat.reduceBEq,Int.reduceToNat,Int.reduceLE,Int.reduceLT,Int.reduceNeg,reduceMod,zac,zad,zab,zaa,gT,TK.isInt,TK.agg,Array.toList,hs,e0]
  refine zey hc hp (i:=nxI bs i) (h:=crH h) (by simp (maxSteps:=5000000) -dsimp only [gr,reduceEqDiff,reduceLT,reduceAdd,reduceMod,Nat.reduceBEq,zaa,zac,zad,zab,e0] <;> rfl) rfl ?_
  simp (maxSteps:=5000000) -dsimp only [↓gp,gq,reduceCtorEq,reduceEqDiff,reduceLT,reduceLeDiff,reduceAdd,reduceMul,reduceSub,Nat.reduceBEq,Int.reduceToNat,Int.reduceLE,Int.reduceLT,Int.reduceNeg,reduceMod,zac,zad,zab,zaa,gT,TK.isInt,TK.agg,Array.toList,hs,e0]
  refine zey hc hp (i:=nxI bs (nxI bs i)) (h:=crH (crH h)) (by simp (maxSteps:=5000000) -dsimp only [gr,reduceEqDiff,reduceLT,reduceAdd,reduceMod,Nat.reduceBEq,zaa,zac,zad,zab,e0] <;> rfl) rfl ?_
  simp (maxSteps:=5000000) -dsimp only [↓gp,gq,reduceCtorEq,reduceEqDiff,reduceLT,reduceLeDiff,reduceAdd,reduceMul,reduceSub,Nat.reduceBEq,Int.reduceToNat,Int.reduceLE,Int.reduceLT,Int.reduceNeg,reduceMod,zac,zad,zab,zaa,gT,TK.isInt,TK.agg,Array.toList,hs,e0]
  refine zey hc hp (i:=nxI bs (nxI bs (nxI bs i))) (h:=crH (crH (crH h))) (by simp (maxSteps:=5000000) -dsimp only [gr,reduceEqDiff,reduceLT,reduceAdd,reduceMod,Nat.reduceBEq,zaa,zac,zad,zab,e0] <;> rfl) rfl ?_
  generalize hx:byF bs i h = x at *
  generalize hy:byF bs (nxI bs i) (crH h) = y at *
  generalize hz:byF bs (nxI bs (nxI bs i)) (crH (crH h)) = z at *
  generalize hw:byF bs (nxI bs (nxI bs (nxI bs i))) (crH (crH (crH h))) = w at *
  have w1:IntKind.i64.wrap (x * 16777216) = x * 16777216:=zap (by omega) (by omega)
  have w2:IntKind.i64.wrap (y * 65536) = y * 65536:=zap (by omega) (by omega)
  have w3:IntKind.i64.wrap (x * 16777216 + y * 65536) = x * 16777216 + y * 65536:=zap (by omega) (by omega)
  have w4:IntKind.i64.wrap (z * 256) = z * 256:=zap (by omega) (by omega)
  have w5:IntKind.i64.wrap (x * 16777216 + y * 65536 + z * 256) = x * 16777216 + y * 65536 + z * 256:=zap (by omega) (by omega)
  have w6:IntKind.i64.wrap (x * 16777216 + y * 65536 + z * 256 + w) = x * 16777216 + y * 65536 + z * 256 + w:=zap (by omega) (by omega)
  simp (maxSteps:=5000000) -dsimp only [↓gp,gq,reduceCtorEq,reduceEqDiff,reduceLT,reduceLeDiff,reduceAdd,reduceMul,reduceSub,Nat.reduceBEq,Int.reduceToNat,Int.reduceLE,Int.reduceLT,Int.reduceNeg,reduceMod,zac,zad,zab,zaa,gT,TK.isInt,TK.agg,Array.toList,hs,e0,w1,w2,w3,w4,w5,w6]
  unfold beF;rw [if_neg h0,if_neg h1,hx,hy,hz,hw]
  exact ⟨by omega,rfl,by simp (maxSteps:=5000000) -dsimp only [gr,reduceEqDiff,reduceLT,reduceAdd,reduceMod,Nat.reduceBEq,zaa,zac,zad,zab,e0] <;> rfl,by simp (maxSteps:=5000000) -dsimp only [gr,reduceEqDiff,reduceLT,reduceAdd,reduceMod,Nat.reduceBEq,zaa,zac,zad,zab,e1]⟩
theorem zfS (bs:List Int) (hbs:bs.length ≤ 9223372036854775806) (n:Int) (hn:n ≤ 1000000):zCS Tryz.prog 81 TC bs ⟨0,.dead⟩ [int n] (zGT (zGm n)) :=
 (zcz bs hbs n hn).toCur fun i h=>zz0 bs n i h
def onF (bs:List Int) (n:Int) (i:Nat) (h:Int):Value × Nat × Int:=((match (beF bs n i h).1 with | .int _ x=>.bool (x == 0) | _=>.bool false),(beF bs n i h).2)
theorem zlE (bs:List Int) (hbs:bs.length ≤ 9223372036854775806) (n:Int) (hn:n ≤ 1000000):zoj Tryz.prog 85 TC bs [int n] (onF bs n):=by
 intro i h
 refine AG.go (rs:=[.tmp 4]) za3 zav Tryz.func85 rfl rfl rfl (by kernel_rfl) fun hl _ s hs hR=>?_
 have e0:s.rw 1000000 = ⟨1,.box TC [.sl false 1 (kL .u8 bs),int i,int h]⟩:=by rw [hR];rfl
 have e1:s.rw 1000500 = ⟨0,.dead⟩:=by rw [hR];rfl
 simp (maxSteps:=5000000) -dsimp only [↓gp,gq,reduceCtorEq,reduceEqDiff,reduceLT,reduceLeDiff,reduceAdd,reduceMul,reduceSub,Nat.reduceBEq,Int.reduceToNat,Int.reduceLE,Int.reduceLT,Int.reduceNeg,reduceMod,zac,zad,zab,zaa,gT,TK.isInt,TK.agg,Array.toList,hs,e0]
 refine zey (zcz bs hbs n hn) (zld n) (i:=i) (h:=h) (by simp (maxSteps:=5000000) -dsimp only [gr,reduceEqDiff,reduceLT,reduceAdd,reduceMod,Nat.reduceBEq,zaa,zac,zad,zab,e0] <;> rfl) rfl ?_
 unfold onF
 obtain ⟨y,j3,g3,hr,hy⟩:=zq9 bs n i h
 rw [hr]
 simp (maxSteps:=5000000) -dsimp only [↓gp,gq,reduceCtorEq,reduceEqDiff,reduceLT,reduceLeDiff,reduceAdd,reduceMul,reduceSub,Nat.reduceBEq,Int.reduceToNat,Int.reduceLE,Int.reduceLT,Int.reduceNeg,reduceMod,zac,zad,zab,zaa,gT,TK.isInt,TK.agg,Array.toList,hs,e0]
 exact ⟨rfl,by simp (maxSteps:=5000000) -dsimp only [gr,reduceEqDiff,reduceLT,reduceAdd,reduceMod,Nat.reduceBEq,zaa,zac,zad,zab,e0] <;> rfl,by simp (maxSteps:=5000000) -dsimp only [gr,reduceEqDiff,reduceLT,reduceAdd,reduceMod,Nat.reduceBEq,zaa,zac,zad,zab,e1]⟩
theorem zGn (bs:List Int) (n:Int) (i:Nat) (h:Int):∃ (x:Bool) (j:Nat) (g:Int),onF bs n i h = (.bool x,j,g):=by
 obtain ⟨y,j3,g3,hr,hy⟩:=zq9 bs n i h
 unfold onF
 rw [hr]
 exact ⟨_,_,_,rfl⟩
theorem zoi (bs:List Int) (hbs:bs.length ≤ 9223372036854775806) (n:Int) (hn:n ≤ 1000000):zCS Tryz.prog 85 TC bs ⟨0,.dead⟩ [int n] zGU :=
 (zlE bs hbs n hn).toCur fun i h=>by obtain ⟨x,j,g,e⟩:=zGn bs n i h;rw [e];exact ⟨x,rfl⟩
def piF (bs:List Int) (l:List Int) (i:Nat) (h:Int):Value × Nat × Int:=((match (beF bs l.length i h).1 with | .int _ x=>.int .i64 (l.getD x.toNat 0) | _=>.int .i64 0),(beF bs l.length i h).2)
theorem zCR (bs:List Int) {l:List Int} (hl:0 < l.length) (i:Nat) (h:Int):∃ (x:Int) (j:Nat) (g:Int),piF bs l i h = (.int .i64 x,j,g)∧x ∈ l:=by
 obtain ⟨y,j3,g3,hr,hy⟩:=zq9 bs l.length i h
 obtain ⟨m,rfl,hm⟩:=zsj hl hy
 unfold piF
 rw [hr]
 exact ⟨_,_,_,rfl,zaD 0 hm⟩
theorem zd9 (bs:List Int) (hbs:bs.length ≤ 9223372036854775806) (l:List Int) (hl0:0 < l.length) (hl1:l.length ≤ 1000000):zwj Tryz.prog 126 TC bs 3 (iL l) (piF bs l):=by
 intro i h
 refine AG.go (rs:=[.tmp 4]) za3 zav Tryz.func126 rfl rfl rfl (by kernel_rfl) fun hl _ s hs hR=>?_
 have e0:s.rw 1000000 = ⟨1,.box TC [.sl false 1 (kL .u8 bs),int i,int h]⟩:=by rw [hR];rfl
 have e1:s.rw 1000500 = ⟨1,.sli 3 1 false (iL l)⟩:=by rw [hR];rfl
 simp (maxSteps:=5000000) -dsimp only [↓gp,gq,reduceCtorEq,reduceEqDiff,reduceLT,reduceLeDiff,reduceAdd,reduceMul,reduceSub,Nat.reduceBEq,Int.reduceToNat,Int.reduceLE,Int.reduceLT,Int.reduceNeg,reduceMod,zac,zad,zab,zaa,gT,TK.isInt,TK.agg,Array.toList,hs,e0,e1]
 refine zey (zcz bs hbs l.length (by omega)) (zld _) (i:=i) (h:=h) (by simp (maxSteps:=5000000) -dsimp only [gr,reduceEqDiff,reduceLT,reduceAdd,reduceMod,Nat.reduceBEq,zaa,zac,zad,zab,e0] <;> rfl) rfl ?_
 unfold piF
 obtain ⟨y,j3,g3,hr,hy⟩:=zq9 bs l.length i h
 obtain ⟨m,rfl,hm⟩:=zsj hl0 hy
 rw [hr]
 simp (maxSteps:=5000000) -dsimp only [↓gp,gq,reduceCtorEq,reduceEqDiff,reduceLT,reduceLeDiff,reduceAdd,reduceMul,reduceSub,Nat.reduceBEq,Int.reduceToNat,Int.reduceLE,Int.reduceLT,Int.reduceNeg,reduceMod,zac,zad,zab,zaa,gT,TK.isInt,TK.agg,Array.toList,hs,e0,e1]
 exact ⟨by omega,hm,rfl,by simp (maxSteps:=5000000) -dsimp only [gr,reduceEqDiff,reduceLT,reduceAdd,reduceMod,Nat.reduceBEq,zaa,zac,zad,zab,e0] <;> rfl,by simp (maxSteps:=5000000) -dsimp only [gr,reduceEqDiff,reduceLT,reduceAdd,reduceMod,Nat.reduceBEq,zaa,zac,zad,zab,e1] <;> rfl⟩
theorem zeE (bs:List Int) (hbs:bs.length ≤ 9223372036854775806) (l:List Int) (hl0:0 < l.length) (hl1:l.length ≤ 1000000):zCS Tryz.prog 126 TC bs ⟨1,.sli 3 1 false (iL l)⟩ [.own 1000500 1] (zGT fun x=>x ∈ l) :=
 (zd9 bs hbs l hl0 hl1).toCur fun i h=>by obtain ⟨x,j,g,e,hx⟩:=zCR bs hl0 i h;rw [e];exact ⟨x,rfl,hx⟩
theorem zwf (bs:List Int):AC Tryz.prog 7 [.sl false 1 (kL .u8 bs)] (.im (bool (decide (1048576 < (bs.length:Int))))):=by
 refine AC.go (rs:=[.tmp 2]) za3 zav Tryz.func7 rfl rfl rfl (by kernel_rfl) fun hl=>?_
 simp (maxSteps:=5000000) -dsimp only [↓gp,gq,reduceCtorEq,reduceEqDiff,reduceLT,reduceLeDiff,reduceAdd,reduceMul,reduceSub,Nat.reduceBEq,Int.reduceToNat,Int.reduceLE,Int.reduceLT,Int.reduceNeg,reduceMod,zac,zad,zab,zaa,gT,TK.isInt,TK.agg,Array.toList]
theorem zdy (xs ys:List Int):AC Tryz.prog 54 [zaN xs,zaN ys] (.im (bool (decide (xs = ys)))):=by
 refine AC.go (rs:=[.tmp 4]) za3 zav Tryz.func54 rfl rfl rfl (by kernel_rfl) fun hl=>?_
 simp only [zaK,zcr,za7,and_true] at hl
 simp (maxSteps:=5000000) -dsimp only [↓gp,gq,reduceCtorEq,reduceEqDiff,reduceLT,reduceLeDiff,reduceAdd,reduceMul,reduceSub,Nat.reduceBEq,Int.reduceToNat,Int.reduceLE,Int.reduceLT,Int.reduceNeg,reduceMod,zac,zad,zab,zaa,gT,TK.isInt,TK.agg,Array.toList]
 refine ⟨fun h=>?_,fun h=>?_⟩
 ·intro e
  simp [e] at h
 ·have hn:xs.length = ys.length:=by simp at h;omega
  refine zan (fun (i:Nat) s=>s.sl 0 = zaN xs∧s.sl 1 = zaN ys∧s.sl 5 = int i∧i ≤ xs.length∧xs.take i = ys.take i) (fun i=>xs.length - i) 0 ⟨by simp (maxSteps:=5000000) -dsimp only [gr,reduceEqDiff,reduceLT,reduceAdd,reduceMod,Nat.reduceBEq,zaa,zac,zad,zab],by simp (maxSteps:=5000000) -dsimp only [gr,reduceEqDiff,reduceLT,reduceAdd,reduceMod,Nat.reduceBEq,zaa,zac,zad,zab],by simp (maxSteps:=5000000) -dsimp only [gr,reduceEqDiff,reduceLT,reduceAdd,reduceMod,Nat.reduceBEq,zaa,zac,zad,zab];rfl,by simp,by simp⟩ ?_
  intro i s1 ⟨h0,h1,h5,hi,hall⟩
  simp (maxSteps:=5000000) -dsimp only [↓gp,gq,reduceCtorEq,reduceEqDiff,reduceLT,reduceLeDiff,reduceAdd,reduceMul,reduceSub,Nat.reduceBEq,Int.reduceToNat,Int.reduceLE,Int.reduceLT,Int.reduceNeg,reduceMod,zac,zad,zab,zaa,gT,TK.isInt,TK.agg,Array.toList,h0,h1,h5]
  refine ⟨fun h=>⟨by kernel_rfl,h,h,by omega,by omega,fun ha=>?_,fun ha=>?_⟩,fun h=>?_⟩
  ·intro e
   simp [e] at ha
  ·refine zag (i + 1) ⟨by simp (maxSteps:=5000000) -dsimp only [gr,reduceEqDiff,reduceLT,reduceAdd,reduceMod,Nat.reduceBEq,zaa,zac,zad,zab,h0],by simp (maxSteps:=5000000) -dsimp only [gr,reduceEqDiff,reduceLT,reduceAdd,reduceMod,Nat.reduceBEq,zaa,zac,zad,zab,h1],by simp (maxSteps:=5000000) -dsimp only [gr,reduceEqDiff,reduceLT,reduceAdd,reduceMod,Nat.reduceBEq,zaa,zac,zad,zab];rw [zae h hl.1],h,?_⟩ (by omega)
   rw [zba 0 h,zba 0 (show i < ys.length by omega),hall]
   simp at ha
   simpa using ha
  ·rw [List.take_of_length_le (by omega),List.take_of_length_le (by omega)] at hall
   exact hall
theorem zog (s:Nat) (h:s < 64):AC Tryz.prog 60 [int s] (.im (int (zat s:Nat))):=by
 refine AC.go (rs:=[.tmp 2]) za3 zav Tryz.func60 rfl rfl rfl (by kernel_rfl) fun hl=>?_
 simp (maxSteps:=5000000) -dsimp only [↓gp,gq,reduceCtorEq,reduceEqDiff,reduceLT,reduceLeDiff,reduceAdd,reduceMul,reduceSub,Nat.reduceBEq,Int.reduceToNat,Int.reduceLE,Int.reduceLT,Int.reduceNeg,reduceMod,zac,zad,zab,zaa,gT,TK.isInt,TK.agg,Array.toList]
 refine zaf (zcB _ _ _) ?_
 simp (maxSteps:=5000000) -dsimp only [↓gp,gq,reduceCtorEq,reduceEqDiff,reduceLT,reduceLeDiff,reduceAdd,reduceMul,reduceSub,Nat.reduceBEq,Int.reduceToNat,Int.reduceLE,Int.reduceLT,Int.reduceNeg,reduceMod,zac,zad,zab,zaa,gT,TK.isInt,TK.agg,Array.toList]
 refine ⟨fun h2=>?_,fun _=>zaf (zaL s (by omega)) ?_⟩
 ·have e:(s:Int) ≤ 63:=by omega
  rw [decide_eq_true e] at h2
  simp at h2
 ·simp (maxSteps:=5000000) -dsimp only [↓gp,gq,reduceCtorEq,reduceEqDiff,reduceLT,reduceLeDiff,reduceAdd,reduceMul,reduceSub,Nat.reduceBEq,Int.reduceToNat,Int.reduceLE,Int.reduceLT,Int.reduceNeg,reduceMod,zac,zad,zab,zaa,gT,TK.isInt,TK.agg,Array.toList]
theorem zcT (a:Int) (l:List Int):decide (a = a∧l = l) = true:=by simp
def kcx (P:Int→List Int→Prop) (rv:RV):Prop:=∃ n xs,rv = .ag [.im (int n),.fr 3 1 (iL xs)]∧P n xs
def cxQ (n:Int) (xs:List Int):Prop:=0 ≤ n∧n ≤ 7∧xs.length ≤ 449
theorem zEb {p:Int} (h:isP p = true):∃ q:Nat,p = q∧q ≠ 0:=by
 unfold isP at h
 simp only [Bool.or_eq_true,beq_iff_eq] at h
 rcases h with (rfl | rfl) | rfl
 ·exact ⟨2,rfl,by decide⟩
 ·exact ⟨3,rfl,by decide⟩
 ·exact ⟨5,rfl,by decide⟩
end Go.Proofs.YtpnknaaehcljoaaGreat
