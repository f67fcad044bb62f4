/- DERIVED by an AI agent. -/
import Derived.Test.YtpnknaaehcljoaaQ7
import Derived.Test.YtpnknaaehcljoaaF1
import Derived.WalkKit
import Derived.ProofKit
namespace Go.Proofs.Ytpnknaaehcljoaa.fnDepths
open Go.ChangeShapes Go.WideShapes Go.ChangeAt Go.RowKit Go.Abs
set_option linter.unusedVariables false
set_option linter.unusedSimpArgs false
theorem own:ownKnob Try.prog.godebug = none:=by kernel_rfl
theorem laid:laidOutB Try.prog = true:=by kernel_rfl
theorem params_ok:∀ t ∈ Try.f6.params.toList,Try.prog.readableRec t = true∧t < Try.prog.types.size:=by
 intro t ht
 rw [Try.params6] at ht
 simp at ht
 subst ht
 exact ⟨by kernel_rfl,of_decide_eq_true (by kernel_rfl)⟩
set_option maxRecDepth 100000 in
theorem lifted (os:Os) (started:os.Started) (H:Type) (enc:TypeId × Value→H) :
 ReturnsInHanded {} Try.checked os 6 .any (Rows.fnDepthsSpec.pre6 enc Try.prog Try.f6 Rows.fnDepthsRow.domain false) (Rows.fnDepthsSpec.post enc Try.prog Try.f6 false true false false):=by
 refine returnsInHanded_of_change (C:=Try.checked) own started (by kernel_rfl) Try.func6
  (ChangeSpec.witness6 (enc:=enc) (C:=Try.checked) false ⟨#[],#[.slice none 0 0],[]⟩ 8 (by kernel_rfl) (by kernel_rfl) (by kernel_rfl) (by kernel_rfl)) ?_
 intro W base args ds gs before hval0 hW hcnd _
 have hval:∀ (j:Nat) t v,Try.f6.params[j]? = some t→args[j]? = some v→Value.okWide Try.prog W .any base t v:=hval0
 have hW':=hW
 obtain ⟨p,q,hA0,hV,rfl,hfz,hnd⟩:=hW
 have hA:DataW.TrodAll enc Try.prog W 0 (fun _=>true) true Try.f6.params.toList args.toList ds p:=hA0
 rw [Try.params6] at hA hval
 obtain ⟨v0,vs0,d0,ds0,p0,q0,hargs0,rfl,rfl,h0,r0⟩:=trodAll_cons hA
 obtain ⟨rfl,rfl,rfl⟩:=trodAll_nil r0
 obtain rfl:args = #[v0]:=by cases args;simp_all
 obtain ⟨rfl,rfl⟩:=trodVars_none hV
 obtain ⟨sa0,sl0,sc0,rfl⟩:=okWide_slice Try.underlying31 (hval 0 31 v0 rfl rfl)
 obtain ⟨fuel0,h0⟩:=h0
 obtain ⟨x0,w0,hv0,hr0⟩:=zvQ Try.underlying31 (by kernel_rfl) Try.underlying5 h0
 obtain rfl:Value.slice sa0 sl0 sc0 = w0:=by simpa [Value.cells] using hv0
 refine ((ziO x0).law trivial (vals:=[.slice sa0 sl0 sc0]) ⟨hr0,trivial⟩).mono fun e W' ⟨he,hx⟩=>?_
 subst he
 exact ⟨_,rfl,zzJ laid params_ok rfl hW' rfl rfl rfl rfl Try.underlying4 hx⟩
theorem over:Rows.fnDepthsRow.holds Try.pinned (OpenSpec.ofChange Rows.fnDepthsSpec) :=
 OpenClaim.holds_of_wide 6 Try.f6 rfl rfl rfl rfl rfl rfl rfl ⟨rfl,rfl,rfl,rfl,rfl⟩ rfl rfl rfl rfl rfl (by kernel_rfl) Try.func6 (by kernel_rfl)
  (of_decide_eq_true (by kernel_rfl)) (by unfold Func.isWrapper;first | (rw [if_pos (by decide +kernel)];kernel_rfl) | (rw [if_neg (by decide +kernel)];exact ⟨rfl,rfl⟩))
  (fun os started H enc _=>lifted os started H enc)
theorem proved:Rows.FnDepthsSaid :=
 over
#print axioms proved
end Go.Proofs.Ytpnknaaehcljoaa.fnDepths
