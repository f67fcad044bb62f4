/- DERIVED by an AI agent. -/
import Derived.Test.YtkledeboboplmaaGreatLawKindsText
import Derived.Test.YtkledeboboplmaaGreatF1
import Derived.WalkKit
import Derived.ProofKit
namespace Go.Proofs.YtkledeboboplmaaGreat.fnExactKindsText
open Go.ChangeShapes Go.WideShapes Go.ChangeAt Go.RowKit Go.Abs
set_option linter.unusedVariables false
set_option linter.unusedSimpArgs false
theorem own:ownKnob Tryz.prog.godebug = none:=by kernel_rfl
theorem laid:laidOutB Tryz.prog = true:=by kernel_rfl
theorem params_ok:∀ t ∈ Tryz.f3.params.toList,Tryz.prog.readableRec t = true∧t < Tryz.prog.types.size:=by
 intro t ht
 rw [Tryz.params3] at ht
 simp at ht
 subst ht
 exact ⟨by kernel_rfl,of_decide_eq_true (by kernel_rfl)⟩
set_option maxRecDepth 100000 in
theorem read_Complex {H:Type} {enc:TypeId × Value→H} {W:World} {base:Nat} {v:Value} {d:DataW H} {ps:List MemPlace} (hv:Value.okWide Tryz.prog W .any base 24 v) (h:DataW.Trod enc Tryz.prog W 0 (fun _=>true) true 24 v d ps) :
 ∃ (k:Int) (xs:List Int),zk9 W (.ag [int k,zaH xs]) v:=by
 obtain ⟨c,rfl,hc⟩:=okWide_struct Tryz.underlying24 hv
 obtain ⟨fuel,h⟩:=h
 obtain ⟨z0,z1,m,_,hlen,k0,k1⟩:=trod_struct2 Tryz.underlying24 h
 have e48:Tryz.prog.cellsOf 24 = 2:=by kernel_rfl
 have e3:Tryz.prog.cellsOf 3 = 1:=by kernel_rfl
 have e26:Tryz.prog.cellsOf 22 = 1:=by kernel_rfl
 have hlen:c.toList.length = 2:=by rw [← e48];exact hlen
 obtain ⟨a,b,e⟩:∃ a b,c.toList = [a,b]:=by
  match c.toList,hlen with
  | [a,b],_=>exact ⟨a,b,rfl⟩
 have k0:DataW.trod enc Tryz.prog W 0 (fun _=>true) true m 3 ((c.toList.drop 0).take (Tryz.prog.cellsOf 3)) = some z0:=k0
 have k1:DataW.trod enc Tryz.prog W 0 (fun _=>true) true m 22 ((c.toList.drop 1).take (Tryz.prog.cellsOf 22)) = some z1:=k1
 rw [e,e3] at k0
 rw [e,e26] at k1
 obtain ⟨k,ka,_⟩:=zvn Tryz.underlying3 (show DataW.trod enc Tryz.prog W 0 (fun _=>true) true m 3 [a] = some z0 from k0)
 obtain ⟨xs,v1,kb,r1⟩:=zAI Tryz.underlying22 e3 Tryz.underlying3 (show DataW.trod enc Tryz.prog W 0 (fun _=>true) true m 22 [b] = some z1 from k1)
 simp only [List.cons.injEq,and_true] at ka kb
 subst ka kb
 refine ⟨k,xs,?_⟩
 rw [zHg e]
 exact zk9.ag2 (zk9.int _ _) r1
set_option maxRecDepth 100000 in
theorem lifted (os:Os) (started:os.Started) (H:Type) (enc:TypeId × Value→H) :
 ReturnsInHanded {} Tryz.checked os 3 .any (Rows.fnExactKindsTextSpec.pre6 enc Tryz.prog Tryz.f3 Rows.fnExactKindsTextRow.domain false) (Rows.fnExactKindsTextSpec.post enc Tryz.prog Tryz.f3 false true false false):=by
 refine returnsInHanded_of_change (C:=Tryz.checked) own started (by kernel_rfl) Tryz.func3
  (ChangeSpec.witness6 (enc:=enc) (C:=Tryz.checked) false ⟨#[],#[.agg #[.int .i64 0,.slice none 0 0]],[]⟩ 8 (by kernel_rfl) (by kernel_rfl) (by kernel_rfl) (by kernel_rfl)) ?_
 intro W base args ds gs before hval0 hW hcnd _
 have hval:∀ (j:Nat) t v,Tryz.f3.params[j]? = some t→args[j]? = some v→Value.okWide Tryz.prog W .any base t v:=hval0
 have hW':=hW
 obtain ⟨p,q,hA0,hV,rfl,hfz,hnd⟩:=hW
 have hA:DataW.TrodAll enc Tryz.prog W 0 (fun _=>true) true Tryz.f3.params.toList args.toList ds p:=hA0
 rw [Tryz.params3] at hA hval
 obtain ⟨v0,vs0,d0,ds0,p0,q0,hargs0,rfl,rfl,h0,r0⟩:=trodAll_cons hA
 obtain ⟨rfl,rfl,rfl⟩:=trodAll_nil r0
 obtain rfl:args = #[v0]:=by cases args;simp_all
 obtain ⟨rfl,rfl⟩:=trodVars_none hV
 obtain ⟨k0,xs0,hr0⟩:=read_Complex (hval 0 24 v0 rfl rfl) h0
 refine ((zdX k0 xs0).law trivial (vals:=[v0]) ⟨hr0,trivial⟩).mono fun e W' ⟨he,hx⟩=>?_
 subst he
 exact ⟨_,rfl,zAK laid params_ok rfl hW' rfl rfl rfl rfl Tryz.underlying4 hx⟩
theorem over:Rows.fnExactKindsTextRow.holds Tryz.pinned (OpenSpec.ofChange Rows.fnExactKindsTextSpec) :=
 OpenClaim.holds_of_wide 3 Tryz.f3 rfl rfl rfl rfl rfl rfl rfl ⟨rfl,rfl,rfl,rfl,rfl⟩ rfl rfl rfl rfl rfl (by kernel_rfl) Tryz.func3 (by kernel_rfl)
  (of_decide_eq_true (by kernel_rfl)) (by unfold Func.isWrapper;first | (rw [if_pos (by decide +kernel)];kernel_rfl) | (rw [if_neg (by decide +kernel)];exact ⟨rfl,rfl⟩))
  (fun os started H enc _=>lifted os started H enc)
theorem proved:Rows.FnExactKindsTextSaid :=
 over
#print axioms proved
end Go.Proofs.YtkledeboboplmaaGreat.fnExactKindsText
