/- DERIVED by an AI agent. -/
import Derived.Test.YtpnknaaehcljoaaGreatQ7
import Derived.Test.YtpnknaaehcljoaaGreatF1
import Derived.WalkKit
import Derived.ProofKit
namespace Go.Proofs.YtpnknaaehcljoaaGreat.fnGraphs
open Go.ChangeShapes Go.WideShapes Go.ChangeAt Go.RowKit Go.Abs
set_option linter.unusedVariables false
set_option linter.unusedSimpArgs false
theorem own:ownKnob Tryz.prog.godebug = none:=by kernel_rfl
theorem laid:laidOutB Tryz.prog = true:=by kernel_rfl
theorem params_ok:∀ t ∈ Tryz.f4.params.toList,Tryz.prog.readableRec t = true∧t < Tryz.prog.types.size:=by
 intro t ht
 rw [Tryz.params4] at ht
 simp at ht
 subst ht
 exact ⟨by kernel_rfl,of_decide_eq_true (by kernel_rfl)⟩
set_option maxRecDepth 100000 in
theorem lifted (os:Os) (started:os.Started) (H:Type) (enc:TypeId × Value→H) :
 ReturnsInHanded {} Tryz.checked os 4 .any (Rows.fnGraphsSpec.pre6 enc Tryz.prog Tryz.f4 Rows.fnGraphsRow.domain false) (Rows.fnGraphsSpec.post enc Tryz.prog Tryz.f4 false true false false):=by
 refine returnsInHanded_of_change (C:=Tryz.checked) own started (by kernel_rfl) Tryz.func4
  (ChangeSpec.witness6 (enc:=enc) (C:=Tryz.checked) false ⟨#[],#[.slice none 0 0],[]⟩ 8 (by kernel_rfl) (by kernel_rfl) (by kernel_rfl) (by kernel_rfl)) ?_
 intro W base args ds gs before hval0 hW hcnd _
 have hval:∀ (j:Nat) t v,Tryz.f4.params[j]? = some t→args[j]? = some v→Value.okWide Tryz.prog W .any base t v:=hval0
 have hW':=hW
 obtain ⟨p,q,hA0,hV,rfl,hfz,hnd⟩:=hW
 have hA:DataW.TrodAll enc Tryz.prog W 0 (fun _=>true) true Tryz.f4.params.toList args.toList ds p:=hA0
 rw [Tryz.params4] at hA hval
 obtain ⟨v0,vs0,d0,ds0,p0,q0,hargs0,rfl,rfl,h0,r0⟩:=trodAll_cons hA
 obtain ⟨rfl,rfl,rfl⟩:=trodAll_nil r0
 obtain rfl:args = #[v0]:=by cases args;simp_all
 obtain ⟨rfl,rfl⟩:=trodVars_none hV
 obtain ⟨sa0,sl0,sc0,rfl⟩:=okWide_slice Tryz.underlying22 (hval 0 22 v0 rfl rfl)
 obtain ⟨fuel0,h0⟩:=h0
 obtain ⟨x0,w0,hv0,hr0⟩:=zvR Tryz.underlying22 (by kernel_rfl) Tryz.underlying5 h0
 obtain rfl:Value.slice sa0 sl0 sc0 = w0:=by simpa [Value.cells] using hv0
 refine ((zi9 x0).law trivial (vals:=[.slice sa0 sl0 sc0]) ⟨hr0,trivial⟩).mono fun e W' ⟨he,hx⟩=>?_
 subst he
 exact ⟨_,rfl,zzJ laid params_ok rfl hW' rfl rfl rfl rfl Tryz.underlying4 hx⟩
theorem over:Rows.fnGraphsRow.holds Tryz.pinned (OpenSpec.ofChange Rows.fnGraphsSpec) :=
 OpenClaim.holds_of_wide 4 Tryz.f4 rfl rfl rfl rfl rfl rfl rfl ⟨rfl,rfl,rfl,rfl,rfl⟩ rfl rfl rfl rfl rfl (by kernel_rfl) Tryz.func4 (by kernel_rfl)
  (of_decide_eq_true (by kernel_rfl)) (by unfold Func.isWrapper;first | (rw [if_pos (by decide +kernel)];kernel_rfl) | (rw [if_neg (by decide +kernel)];exact ⟨rfl,rfl⟩))
  (fun os started H enc _=>lifted os started H enc)
theorem proved:Rows.FnGraphsSaid :=
 over
#print axioms proved
end Go.Proofs.YtpnknaaehcljoaaGreat.fnGraphs
