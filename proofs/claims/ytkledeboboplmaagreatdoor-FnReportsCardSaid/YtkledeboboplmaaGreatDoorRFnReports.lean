/- DERIVED by an AI agent. -/
import Derived.Test.YtkledeboboplmaaGreatDoorQ7
import Derived.Test.YtkledeboboplmaaGreatDoorF1
import Derived.WalkKit
import Derived.ProofKit
import Derived.Lay
import Derived.SevenTiedAt
import Derived.Test.YtkledeboboplmaaGreatDoorRows
import Derived.Test.YtkledeboboplmaaGreatDoorCards
import Derived.Test.YtkledeboboplmaaGreatDoorTie
namespace Go.Proofs.YtkledeboboplmaaGreatDoor.fnReports
open Go.ChangeShapes Go.WideShapes Go.ChangeAt Go.RowKit Go.Abs
set_option linter.unusedVariables false
set_option linter.unusedSimpArgs false
theorem own:ownKnob Tryz.prog.godebug = none:=kr
theorem laid:laidOutB Tryz.prog = true:=kr
theorem params_ok:∀ t ∈ Tryz.f4.params.toList,Tryz.prog.readableRec t = true/\t < Tryz.prog.types.size:=by
 intro t ht
 rw [Tryz.params4] at ht
 simp at ht
 subst ht
 exact ⟨kr,of_decide_eq_true kr⟩
theorem laidTab:("internal/strconv.uint64pow10",Go.Lib.tabData .u64 Go.Lib.pow10Tab) ∈ Rows.fnReportsRow.laid:=by
 have e:(Go.Lib.tabData .u64 Go.Lib.pow10Tab:DataW Unit) = Rows.laid_internal_strconv_uint64pow10:=by first | rfl | decide +kernel
 rw [e]
 simp [Rows.fnReportsRow]
set_option maxRecDepth 100000 in
theorem lifted (os:Os) (started:os.Started) (H:Type) (enc:TypeId × Value->H) :
 ReturnsInHanded {} Tryz.checked os 4 .any (fun w args=>(Rows.fnReportsSpec.pre enc Tryz.prog Tryz.f4 [] false w args/\laidMetH Tryz.prog Rows.fnReportsRow.laid w)/\sizedMet enc Tryz.prog Tryz.f4 (OpenSpec.ofChange Rows.fnReportsSpec) false w args) (Rows.fnReportsSpec.post enc Tryz.prog Tryz.f4 false true false false):=by
 refine returnsInHanded_of_change_and (C:=Tryz.checked) (X:=fun w _=>laidMetH Tryz.prog Rows.fnReportsRow.laid w) (fun _ _ _ hh h=>h.of_heap hh) own started kr Tryz.func4
  (ChangeSpec.witness_shaped (enc:=enc) (C:=Tryz.checked) (os:=os) (X:=fun w _=>laidMetH Tryz.prog Rows.fnReportsRow.laid w) false (World.laidAll Tryz.prog os Rows.fnReportsRow.laid) #[.slice none 0 0] 8 (World.laidAll_os _ _ _)
   (World.shaped_of_ZipB kr kr) kr kr kr
   (by rw [MakeChecks.laidMetH_plain _ _ _ kr];exact laidMet_laidAll _ kr kr)) ?_
 intro W base args ds gs before hval0 hW _ _ hL _
 rw [MakeChecks.laidMetH_plain _ _ _ kr] at hL
 have hPhi:zae.Φ W:=zC6 zNv kr Tryz.underlying164 Tryz.underlying70 kr kr hL laidTab
 have hval:∀ (j:Nat) t v,Tryz.f4.params[j]? = some t->args[j]? = some v->Value.okWide Tryz.prog W .any base t v:=hval0
 have hW':=hW
 obtain ⟨p,q,hA0,hV,rfl,hfz,hnd⟩:=hW
 have hA:DataW.TrodAll enc Tryz.prog W 0 (fun _=>true) true Tryz.f4.params.toList args.toList ds p:=hA0
 rw [Tryz.params4] at hA hval
 obtain ⟨v0,vs0,d0,ds0,p0,q0,hargs0,rfl,rfl,h0,r0⟩:=trodAll_cons hA
 obtain ⟨rfl,rfl,rfl⟩:=trodAll_nil r0
 obtain rfl:args = #[v0]:=by cases args;simp_all
 obtain ⟨rfl,rfl⟩:=trodVars_none hV
 obtain ⟨sa0,sl0,sc0,rfl⟩:=okWide_slice Tryz.underlying31 (hval 0 31 v0 rfl rfl)
 obtain ⟨fuel0,h0⟩:=h0
 obtain ⟨x0,w0,hv0,hr0⟩:=zzR Tryz.underlying31 kr Tryz.underlying5 h0
 obtain rfl:Value.slice sa0 sl0 sc0 = w0:=by simpa [Value.cells] using hv0
 refine ((zkb x0).law hPhi (vals:=[.slice sa0 sl0 sc0]) ⟨hr0,trivial⟩).mono fun e W' ⟨he,hx⟩=>?_
 subst he
 exact ⟨_,rfl,zEx laid params_ok rfl hW' rfl rfl rfl rfl Tryz.underlying4 hx⟩
theorem over:Rows.fnReportsRow.holds Tryz.pinned (OpenSpec.ofChange Rows.fnReportsSpec) :=
 OpenClaim.holds_of_wide 4 Tryz.f4 rfl rfl rfl rfl rfl rfl rfl ⟨rfl,rfl,rfl,rfl,rfl⟩ rfl rfl rfl rfl rfl kr Tryz.func4 kr
  (of_decide_eq_true kr) (by unfold Func.isWrapper;first | (rw [if_pos (by decide +kernel)];kernel_rfl) | (rw [if_neg (by decide +kernel)];exact ⟨rfl,rfl⟩))
  (fun os started H enc _=>lifted os started H enc)
theorem proved:Rows.FnReportsCardSaid :=
 Claim7.holds_tied_plain_at .later [] [.data,.data,.data] true Rows.fnReportsCard.stood.harness false over (fun _ h=>by cases h) kr (fun _ h=>by cases h) fnReports_row_tie rfl ⟨rfl,rfl⟩ kr rfl
  (fun f fn hf hfn=>by
   obtain rfl:f = 4:=Option.some.inj ((show Tryz.prog.funcNamed "loop.example/g03100/laws.FnReports" = some 4 by kernel_rfl).symm.trans hf) |>.symm
   obtain rfl:fn = Tryz.f4:=(Option.some.inj (Tryz.func4.symm.trans hfn)).symm
   exact ⟨kr,fun j t ht=>by
    rw [Tryz.params4] at ht
    have hm:t ∈ [31]:=by simpa using Array.mem_of_getElem? ht
    have hall:([31].all fun u=>!Tryz.prog.wantsStandIn u) = true:=kr
    exact (show Tryz.prog.wantsStandIn t = false by simpa using List.all_eq_true.1 hall t hm)⟩)
  kr
#print axioms proved
end Go.Proofs.YtkledeboboplmaaGreatDoor.fnReports
