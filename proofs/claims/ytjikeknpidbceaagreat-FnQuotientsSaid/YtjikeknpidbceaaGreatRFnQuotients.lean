/- DERIVED by an AI agent. -/
import Derived.Test.YtjikeknpidbceaaGreatQ6
import Derived.Test.YtjikeknpidbceaaGreatF1
import Derived.WalkKit
import Derived.ProofKit
namespace Go.Proofs.YtjikeknpidbceaaGreat.fnQuotients
open Go.ChangeShapes Go.WideShapes Go.ChangeAt Go.RowKit Go.Abs
set_option linter.unusedVariables false
set_option linter.unusedSimpArgs false
theorem own:ownKnob Tryz.prog.godebug = none:=by kernel_rfl
theorem laid:laidOutB Tryz.prog = true:=by kernel_rfl
theorem params_ok:∀ t ∈ Tryz.f3.params.toList,Tryz.prog.readableRec t = true∧t < Tryz.prog.types.size:=by
 intro t ht
 rw [Tryz.params3] at ht
 simp at ht
 subst ht
 exact ⟨by kernel_rfl,of_decide_eq_true (by kernel_rfl)⟩
set_option maxRecDepth 100000 in
theorem lifted (os:Os) (started:os.Started) (H:Type) (enc:TypeId × Value→H) :
 ReturnsInHanded {} Tryz.checked os 3 .any (Rows.fnQuotientsSpec.pre6 enc Tryz.prog Tryz.f3 Rows.fnQuotientsRow.domain false) (Rows.fnQuotientsSpec.post enc Tryz.prog Tryz.f3 false true false false):=by
 refine returnsInHanded_of_change (C:=Tryz.checked) own started (by kernel_rfl) Tryz.func3
  (ChangeSpec.witness6 (enc:=enc) (C:=Tryz.checked) false ⟨#[],#[.slice none 0 0],[]⟩ 8 (by kernel_rfl) (by kernel_rfl) (by kernel_rfl) (by kernel_rfl)) ?_
 intro W base args ds gs before hval0 hW hcnd _
 have hval:∀ (j:Nat) t v,Tryz.f3.params[j]? = some t→args[j]? = some v→Value.okWide Tryz.prog W .any base t v:=hval0
 have hW':=hW
 obtain ⟨p,q,hA0,hV,rfl,hfz,hnd⟩:=hW
 have hA:DataW.TrodAll enc Tryz.prog W 0 (fun _=>true) true Tryz.f3.params.toList args.toList ds p:=hA0
 rw [Tryz.params3] at hA hval
 obtain ⟨v0,vs0,d0,ds0,p0,q0,hargs0,rfl,rfl,h0,r0⟩:=trodAll_cons hA
 obtain ⟨rfl,rfl,rfl⟩:=trodAll_nil r0
 obtain rfl:args = #[v0]:=by cases args;simp_all
 obtain ⟨rfl,rfl⟩:=trodVars_none hV
 obtain ⟨sa0,sl0,sc0,rfl⟩:=okWide_slice Tryz.underlying22 (hval 0 22 v0 rfl rfl)
 obtain ⟨fuel0,h0⟩:=h0
 obtain ⟨x0,w0,hv0,hr0⟩:=zvN Tryz.underlying22 (by kernel_rfl) Tryz.underlying5 h0
 obtain rfl:Value.slice sa0 sl0 sc0 = w0:=by simpa [Value.cells] using hv0
 refine ((zfY x0).law trivial (vals:=[.slice sa0 sl0 sc0]) ⟨hr0,trivial⟩).mono fun e W' ⟨he,hx⟩=>?_
 subst he
 exact ⟨_,rfl,zzY laid params_ok rfl hW' rfl rfl rfl rfl Tryz.underlying4 hx⟩
theorem over:Rows.fnQuotientsRow.holds Tryz.pinned (OpenSpec.ofChange Rows.fnQuotientsSpec) :=
 OpenClaim.holds_of_wide 3 Tryz.f3 rfl rfl rfl rfl rfl rfl rfl ⟨rfl,rfl,rfl,rfl,rfl⟩ rfl rfl rfl rfl rfl (by kernel_rfl) Tryz.func3 (by kernel_rfl)
  (of_decide_eq_true (by kernel_rfl)) (by unfold Func.isWrapper;first | (rw [if_pos (by decide +kernel)];kernel_rfl) | (rw [if_neg (by decide +kernel)];exact ⟨rfl,rfl⟩))
  (fun os started H enc _=>lifted os started H enc)
theorem proved:Rows.FnQuotientsSaid :=
 over
#print axioms proved
end Go.Proofs.YtjikeknpidbceaaGreat.fnQuotients
