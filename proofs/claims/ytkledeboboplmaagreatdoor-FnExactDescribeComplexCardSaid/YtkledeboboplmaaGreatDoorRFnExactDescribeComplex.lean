/- DERIVED by an AI agent. -/
import Derived.Test.YtkledeboboplmaaGreatDoorLawDescribeComplex
import Derived.Test.YtkledeboboplmaaGreatDoorF1
import Derived.WalkKit
import Derived.ProofKit
import Derived.Lay
import Derived.SevenTiedAt
import Derived.Test.YtkledeboboplmaaGreatDoorRows
import Derived.Test.YtkledeboboplmaaGreatDoorCards
import Derived.Test.YtkledeboboplmaaGreatDoorTie
namespace Go.Proofs.YtkledeboboplmaaGreatDoor.fnExactDescribeComplex
open Go.ChangeShapes Go.WideShapes Go.ChangeAt Go.RowKit Go.Abs
set_option linter.unusedVariables false
set_option linter.unusedSimpArgs false
theorem own:ownKnob Tryz.prog.godebug = none:=by kernel_rfl
theorem laid:laidOutB Tryz.prog = true:=by kernel_rfl
theorem params_ok:∀ t ∈ Tryz.f3.params.toList,Tryz.prog.readableRec t = true∧t < Tryz.prog.types.size:=by
 intro t ht
 rw [Tryz.params3] at ht
 simp at ht
 subst ht
 exact ⟨by kernel_rfl,of_decide_eq_true (by kernel_rfl)⟩
set_option maxRecDepth 100000 in
theorem read_Complex {H:Type} {enc:TypeId × Value→H} {W:World} {base:Nat} {v:Value} {d:DataW H} {ps:List MemPlace} (hv:Value.okWide Tryz.prog W .any base 24 v) (h:DataW.Trod enc Tryz.prog W 0 (fun _=>true) true 24 v d ps) :
 ∃ (k:Int) (xs:List Int),zmp W (.ag [int k,zax xs]) v:=by
 obtain ⟨c,rfl,hc⟩:=okWide_struct Tryz.underlying24 hv
 obtain ⟨fuel,h⟩:=h
 obtain ⟨z0,z1,m,_,hlen,k0,k1⟩:=trod_struct2 Tryz.underlying24 h
 have e48:Tryz.prog.cellsOf 24 = 2:=by kernel_rfl
 have e3:Tryz.prog.cellsOf 3 = 1:=by kernel_rfl
 have e26:Tryz.prog.cellsOf 22 = 1:=by kernel_rfl
 have hlen:c.toList.length = 2:=by rw [← e48];exact hlen
 obtain ⟨a,b,e⟩:∃ a b,c.toList = [a,b]:=by
  match c.toList,hlen with
  | [a,b],_=>exact ⟨a,b,rfl⟩
 have k0:DataW.trod enc Tryz.prog W 0 (fun _=>true) true m 3 ((c.toList.drop 0).take (Tryz.prog.cellsOf 3)) = some z0:=k0
 have k1:DataW.trod enc Tryz.prog W 0 (fun _=>true) true m 22 ((c.toList.drop 1).take (Tryz.prog.cellsOf 22)) = some z1:=k1
 rw [e,e3] at k0
 rw [e,e26] at k1
 obtain ⟨k,ka,_⟩:=zwP Tryz.underlying3 (show DataW.trod enc Tryz.prog W 0 (fun _=>true) true m 3 [a] = some z0 from k0)
 obtain ⟨xs,v1,kb,r1⟩:=zCu Tryz.underlying22 e3 Tryz.underlying3 (show DataW.trod enc Tryz.prog W 0 (fun _=>true) true m 22 [b] = some z1 from k1)
 simp only [List.cons.injEq,and_true] at ka kb
 subst ka kb
 refine ⟨k,xs,?_⟩
 rw [zKz e]
 exact zmp.ag2 (zmp.int _ _) r1
theorem laidTab:("internal/strconv.uint64pow10",Go.Lib.tabData .u64 Go.Lib.pow10Tab) ∈ Rows.fnExactDescribeComplexRow.laid:=by
 have e:(Go.Lib.tabData .u64 Go.Lib.pow10Tab:DataW Unit) = Rows.laid_internal_strconv_uint64pow10:=by first | rfl | decide +kernel
 rw [e]
 simp [Rows.fnExactDescribeComplexRow]
set_option maxRecDepth 100000 in
theorem lifted (os:Os) (started:os.Started) (H:Type) (enc:TypeId × Value→H) :
 ReturnsInHanded {} Tryz.checked os 3 .any (fun w args=>(Rows.fnExactDescribeComplexSpec.pre enc Tryz.prog Tryz.f3 [] false w args∧laidMetH Tryz.prog Rows.fnExactDescribeComplexRow.laid w)∧sizedMet enc Tryz.prog Tryz.f3 (OpenSpec.ofChange Rows.fnExactDescribeComplexSpec) false w args) (Rows.fnExactDescribeComplexSpec.post enc Tryz.prog Tryz.f3 false true false false):=by
 refine returnsInHanded_of_change_and (C:=Tryz.checked) (X:=fun w _=>laidMetH Tryz.prog Rows.fnExactDescribeComplexRow.laid w) (fun _ _ _ hh h=>h.of_heap hh) own started (by kernel_rfl) Tryz.func3
  (ChangeSpec.witness_shaped (enc:=enc) (C:=Tryz.checked) (os:=os) (X:=fun w _=>laidMetH Tryz.prog Rows.fnExactDescribeComplexRow.laid w) false (World.laidAll Tryz.prog os Rows.fnExactDescribeComplexRow.laid) #[.agg #[.int .i64 0,.slice none 0 0]] 8 (World.laidAll_os _ _ _)
   (World.shaped_of_ZipB (by kernel_rfl) (by kernel_rfl)) (by kernel_rfl) (by kernel_rfl) (by kernel_rfl)
   (by rw [MakeChecks.laidMetH_plain _ _ _ (by kernel_rfl)];exact laidMet_laidAll _ (by kernel_rfl) (by kernel_rfl))) ?_
 intro W base args ds gs before hval0 hW _ _ hL _
 rw [MakeChecks.laidMetH_plain _ _ _ (by kernel_rfl)] at hL
 have hPhi:zae.Φ W:=zAQ zKQ (by kernel_rfl) Tryz.underlying164 Tryz.underlying70 (by kernel_rfl) (by kernel_rfl) hL laidTab
 have hval:∀ (j:Nat) t v,Tryz.f3.params[j]? = some t→args[j]? = some v→Value.okWide Tryz.prog W .any base t v:=hval0
 have hW':=hW
 obtain ⟨p,q,hA0,hV,rfl,hfz,hnd⟩:=hW
 have hA:DataW.TrodAll enc Tryz.prog W 0 (fun _=>true) true Tryz.f3.params.toList args.toList ds p:=hA0
 rw [Tryz.params3] at hA hval
 obtain ⟨v0,vs0,d0,ds0,p0,q0,hargs0,rfl,rfl,h0,r0⟩:=trodAll_cons hA
 obtain ⟨rfl,rfl,rfl⟩:=trodAll_nil r0
 obtain rfl:args = #[v0]:=by cases args;simp_all
 obtain ⟨rfl,rfl⟩:=trodVars_none hV
 obtain ⟨k0,xs0,hr0⟩:=read_Complex (hval 0 24 v0 rfl rfl) h0
 refine ((zdf k0 xs0).law hPhi (vals:=[v0]) ⟨hr0,trivial⟩).mono fun e W' ⟨he,hx⟩=>?_
 subst he
 exact ⟨_,rfl,zCw laid params_ok rfl hW' rfl rfl rfl rfl Tryz.underlying4 hx⟩
theorem over:Rows.fnExactDescribeComplexRow.holds Tryz.pinned (OpenSpec.ofChange Rows.fnExactDescribeComplexSpec) :=
 OpenClaim.holds_of_wide 3 Tryz.f3 rfl rfl rfl rfl rfl rfl rfl ⟨rfl,rfl,rfl,rfl,rfl⟩ rfl rfl rfl rfl rfl (by kernel_rfl) Tryz.func3 (by kernel_rfl)
  (of_decide_eq_true (by kernel_rfl)) (by unfold Func.isWrapper;first | (rw [if_pos (by decide +kernel)];kernel_rfl) | (rw [if_neg (by decide +kernel)];exact ⟨rfl,rfl⟩))
  (fun os started H enc _=>lifted os started H enc)
theorem proved:Rows.FnExactDescribeComplexCardSaid :=
 Claim7.holds_tied_plain_at .later [] [.data,.data,.data] true Rows.fnExactDescribeComplexCard.stood.harness false over (fun _ h=>by cases h) (by kernel_rfl) (fun _ h=>by cases h) fnExactDescribeComplex_row_tie rfl ⟨rfl,rfl⟩ (by kernel_rfl) rfl
  (fun f fn hf hfn=>by
   obtain rfl:f = 3:=Option.some.inj ((show Tryz.prog.funcNamed "loop.example/g03100/laws.FnExactDescribeComplex" = some 3 by kernel_rfl).symm.trans hf) |>.symm
   obtain rfl:fn = Tryz.f3:=(Option.some.inj (Tryz.func3.symm.trans hfn)).symm
   exact ⟨by kernel_rfl,fun j t ht=>by
    rw [Tryz.params3] at ht
    have hm:t ∈ [24]:=by simpa using Array.mem_of_getElem? ht
    have hall:([24].all fun u=>!Tryz.prog.wantsStandIn u) = true:=by kernel_rfl
    exact (show Tryz.prog.wantsStandIn t = false by simpa using List.all_eq_true.1 hall t hm)⟩)
  (by kernel_rfl)
#print axioms proved
end Go.Proofs.YtkledeboboplmaaGreatDoor.fnExactDescribeComplex
