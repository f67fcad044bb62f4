/- DERIVED by an AI agent. -/
import Derived.Test.YtkledeboboplmaaGreatDoorQ1
import Derived.Test.YtkledeboboplmaaGreatDoorQ8
namespace Go.Proofs.YtkledeboboplmaaGreatDoor
open Go.Abs
set_option linter.unusedSimpArgs false
set_option linter.unusedVariables false
theorem zdf (n:Int) (xs:List Int):AC Tryz.prog 3 [.ag [int n,zax xs]] (.im (bool true)):=by
 refine AC.go (rs:=[.tmp 2]) zaD mixed Tryz.func3 rfl rfl rfl (by kernel_rfl) fun hl=>?_
 simp only [zaN,za4,and_true,zbZ,zdx,zcE,zbI,zcD,true_and] at hl
 simp -dsimp only [↓gp,gq,simprocAttr,gT,zcu,zdU,zda,bne_self_eq_false,beq_self_eq_true,zbG,zdV]
 first | refine zab (zeW n xs 1048576 (by decide) (by decide)) ?_ | refine ⟨by kernel_rfl,zab (zeW n xs 1048576 (by decide) (by decide)) ?_⟩
 simp -dsimp only [↓gp,gq,simprocAttr,gT,zcu,zdU,zda,bne_self_eq_false,beq_self_eq_true,zbG,zdV]
 intro hs_xs
 obtain ⟨hl0_xs,hl1_xs,hx_xs⟩:=zH1 (n:=1048576) (k:=xs.length) (by omega) (by simpa using hs_xs)
 first | refine zab (zbo n xs hx_xs) ?_ | refine ⟨by kernel_rfl,zab (zbo n xs hx_xs) ?_⟩
 simp -dsimp only [↓gp,gq,simprocAttr,gT,zcu,zdU,zda,bne_self_eq_false,beq_self_eq_true,zbG,zdV]
 first | refine zab (zcM n xs) ?_ | refine ⟨by kernel_rfl,zab (zcM n xs) ?_⟩
 simp -dsimp only [↓gp,gq,simprocAttr,gT,zcu,zdU,zda,bne_self_eq_false,beq_self_eq_true,zbG,zdV]
 first | refine zab (zbo n xs hx_xs) ?_ | refine ⟨by kernel_rfl,zab (zbo n xs hx_xs) ?_⟩
 simp -dsimp only [↓gp,gq,simprocAttr,gT,zcu,zdU,zda,bne_self_eq_false,beq_self_eq_true,zbG,zdV]
 first | refine zab (zcN n xs) ?_ | refine ⟨by kernel_rfl,zab (zcN n xs) ?_⟩
 simp -dsimp only [↓gp,gq,simprocAttr,gT,zcu,zdU,zda,bne_self_eq_false,beq_self_eq_true,zbG,zdV]
 first | refine zab (zbo n xs hx_xs) ?_ | refine ⟨by kernel_rfl,zab (zbo n xs hx_xs) ?_⟩
 simp -dsimp only [↓gp,gq,simprocAttr,gT,zcu,zdU,zda,bne_self_eq_false,beq_self_eq_true,zbG,zdV]
 first | refine zab (zeX _ _ _ _) ?_ | refine ⟨by kernel_rfl,zab (zeX _ _ _ _) ?_⟩
 simp -dsimp only [↓gp,gq,simprocAttr,gT,zcu,zdU,zda,bne_self_eq_false,beq_self_eq_true,zbG,zdV]
 all_goals first | done | exact (by kernel_rfl) | exact ⟨by kernel_rfl,trivial⟩ | trivial
end Go.Proofs.YtkledeboboplmaaGreatDoor
