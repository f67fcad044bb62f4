/- DERIVED by an AI agent. -/
import Derived.Test.YtkledeboboplmaaGreatQ1
import Derived.Test.YtkledeboboplmaaGreatQ8
namespace Go.Proofs.YtkledeboboplmaaGreat
open Go.Abs
open Nat (reduceEqDiff reduceMod reduceAdd reduceLT reduceLeDiff reduceSub reduceMul)
set_option linter.unusedSimpArgs false
set_option linter.unusedVariables false
theorem zdX (n:Int) (xs:List Int):AC Tryz.prog 3 [.ag [int n,zaH xs]] (.im (bool true)):=by
 refine AC.go (rs:=[.tmp 2]) zaL mixed Tryz.func3 rfl rfl rfl (by kernel_rfl) fun hl=>?_
 simp only [zaJ,zaX,and_true,zbM,zc6,zcm,zbx,zcl,true_and] at hl
 simp (maxSteps:=9^7) -dsimp only [↓gp,gq,reduceCtorEq,reduceEqDiff,reduceLT,reduceLeDiff,reduceAdd,reduceMul,reduceSub,Nat.reduceBEq,Int.reduceToNat,Int.reduceLE,Int.reduceLT,Int.reduceNeg,reduceMod,gT,zcd,zdr,zcK,bne_self_eq_false,beq_self_eq_true,zbw,zds]
 first | refine zab (zeo n xs 1048576 (by decide) (by decide)) ?_ | refine ⟨by kernel_rfl,zab (zeo n xs 1048576 (by decide) (by decide)) ?_⟩
 simp (maxSteps:=9^7) -dsimp only [↓gp,gq,reduceCtorEq,reduceEqDiff,reduceLT,reduceLeDiff,reduceAdd,reduceMul,reduceSub,Nat.reduceBEq,Int.reduceToNat,Int.reduceLE,Int.reduceLT,Int.reduceNeg,reduceMod,gT,zcd,zdr,zcK,bne_self_eq_false,beq_self_eq_true,zbw,zds]
 intro hs_xs
 obtain ⟨hl0_xs,hl1_xs,hx_xs⟩:=zFt (n:=1048576) (k:=xs.length) (by omega) (by simpa using hs_xs)
 first | refine zab (zbf n xs hx_xs) ?_ | refine ⟨by kernel_rfl,zab (zbf n xs hx_xs) ?_⟩
 simp (maxSteps:=9^7) -dsimp only [↓gp,gq,reduceCtorEq,reduceEqDiff,reduceLT,reduceLeDiff,reduceAdd,reduceMul,reduceSub,Nat.reduceBEq,Int.reduceToNat,Int.reduceLE,Int.reduceLT,Int.reduceNeg,reduceMod,gT,zcd,zdr,zcK,bne_self_eq_false,beq_self_eq_true,zbw,zds]
 first | refine zab (zew n xs) ?_ | refine ⟨by kernel_rfl,zab (zew n xs) ?_⟩
 simp (maxSteps:=9^7) -dsimp only [↓gp,gq,reduceCtorEq,reduceEqDiff,reduceLT,reduceLeDiff,reduceAdd,reduceMul,reduceSub,Nat.reduceBEq,Int.reduceToNat,Int.reduceLE,Int.reduceLT,Int.reduceNeg,reduceMod,gT,zcd,zdr,zcK,bne_self_eq_false,beq_self_eq_true,zbw,zds]
 first | refine zab (zbf n xs hx_xs) ?_ | refine ⟨by kernel_rfl,zab (zbf n xs hx_xs) ?_⟩
 simp (maxSteps:=9^7) -dsimp only [↓gp,gq,reduceCtorEq,reduceEqDiff,reduceLT,reduceLeDiff,reduceAdd,reduceMul,reduceSub,Nat.reduceBEq,Int.reduceToNat,Int.reduceLE,Int.reduceLT,Int.reduceNeg,reduceMod,gT,zcd,zdr,zcK,bne_self_eq_false,beq_self_eq_true,zbw,zds]
 first | refine zab (zev n xs) ?_ | refine ⟨by kernel_rfl,zab (zev n xs) ?_⟩
 simp (maxSteps:=9^7) -dsimp only [↓gp,gq,reduceCtorEq,reduceEqDiff,reduceLT,reduceLeDiff,reduceAdd,reduceMul,reduceSub,Nat.reduceBEq,Int.reduceToNat,Int.reduceLE,Int.reduceLT,Int.reduceNeg,reduceMod,gT,zcd,zdr,zcK,bne_self_eq_false,beq_self_eq_true,zbw,zds]
 first | refine zab (zbf n xs hx_xs) ?_ | refine ⟨by kernel_rfl,zab (zbf n xs hx_xs) ?_⟩
 simp (maxSteps:=9^7) -dsimp only [↓gp,gq,reduceCtorEq,reduceEqDiff,reduceLT,reduceLeDiff,reduceAdd,reduceMul,reduceSub,Nat.reduceBEq,Int.reduceToNat,Int.reduceLE,Int.reduceLT,Int.reduceNeg,reduceMod,gT,zcd,zdr,zcK,bne_self_eq_false,beq_self_eq_true,zbw,zds]
 first | refine zab (zep _ _ _ _) ?_ | refine ⟨by kernel_rfl,zab (zep _ _ _ _) ?_⟩
 simp (maxSteps:=9^7) -dsimp only [↓gp,gq,reduceCtorEq,reduceEqDiff,reduceLT,reduceLeDiff,reduceAdd,reduceMul,reduceSub,Nat.reduceBEq,Int.reduceToNat,Int.reduceLE,Int.reduceLT,Int.reduceNeg,reduceMod,gT,zcd,zdr,zcK,bne_self_eq_false,beq_self_eq_true,zbw,zds]
 all_goals first | done | exact (by kernel_rfl) | exact ⟨by kernel_rfl,trivial⟩ | trivial
end Go.Proofs.YtkledeboboplmaaGreat
