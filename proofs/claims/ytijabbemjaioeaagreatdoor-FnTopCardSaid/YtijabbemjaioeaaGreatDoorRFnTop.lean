/- DERIVED by an AI agent. -/
import Derived.Test.YtijabbemjaioeaaGreatDoorLawFnTop
import Derived.Test.YtijabbemjaioeaaGreatDoorRJ1
import Derived.Test.YtijabbemjaioeaaGreatDoorRJ2
import Derived.Test.YtijabbemjaioeaaGreatDoorF1
import Derived.WalkKit
import Derived.ProofKit
import Derived.Lay
import Derived.SevenTiedAt
import Derived.Test.YtijabbemjaioeaaGreatDoorRows
import Derived.Test.YtijabbemjaioeaaGreatDoorCards
import Derived.Test.YtijabbemjaioeaaGreatDoorTie
namespace Go.Proofs.YtijabbemjaioeaaGreatDoor.fnTop
open Go.ChangeShapes Go.WideShapes Go.ChangeAt Go.RowKit Go.Abs
theorem own:ownKnob Tryz.prog.godebug=none:=kr
theorem laid:laidOutB Tryz.prog=true:=kr
theorem params_ok:∀t∈Tryz.f3.params.toList,Tryz.prog.readableRec t=true/\t<Tryz.prog.types.size:=by
 intro t ht
 rw[Tryz.params3]at ht
 simp at ht
 subst ht
 exact⟨kr,of_decide_eq_true kr⟩
theorem laidTab:("internal/strconv.uint64pow10",Go.Lib.tabData .u64 Go.Lib.pow10Tab)∈Rows.fnTopRow.laid:=by
 have e:(Go.Lib.tabData .u64 Go.Lib.pow10Tab:DataW Unit)=Rows.laid_internal_strconv_uint64pow10:=by first|rfl|decide +kernel
 rw[e]
 simp[Rows.fnTopRow]
set_option maxRecDepth 100000 in
theorem lifted (os:Os) (started:os.Started) (H:Type) (enc:TypeId×Value->H) :
 ReturnsInHanded {} Tryz.checked os 3 .any (λw args=>(Rows.fnTopSpec.pre enc Tryz.prog Tryz.f3 [] false w args/\laidMetH Tryz.prog Rows.fnTopRow.laid w)/\sizedMet enc Tryz.prog Tryz.f3 (OpenSpec.ofChange Rows.fnTopSpec) false w args) (Rows.fnTopSpec.post enc Tryz.prog Tryz.f3 false true false false):=by
 refine returnsInHanded_of_change_and (C:=Tryz.checked) (X:=λw _=>laidMetH Tryz.prog Rows.fnTopRow.laid w) (λ_ _ _ hh h=>h.of_heap hh) own started kr Tryz.func3
  (ChangeSpec.witness_shaped (enc:=enc) (C:=Tryz.checked) (os:=os) (X:=λw _=>laidMetH Tryz.prog Rows.fnTopRow.laid w) false (World.laidAll Tryz.prog os Rows.fnTopRow.laid) #[.slice none 0 0] 8 (World.laidAll_os _ _ _)
   (World.shaped_of_ZipB kr kr) kr kr kr
   (by rw[MakeChecks.laidMetH_plain _ _ _ kr];exact laidMet_laidAll _ kr kr)) ?_
 intro W base args ds gs before hval0 hW _ _ hL _
 rw[MakeChecks.laidMetH_plain _ _ _ kr]at hL
 have hPhi:aw.Φ W:=ziZ zs2 kr Tryz.underlying208 Tryz.underlying101 kr kr hL laidTab
 have hval:∀(j:Nat) t v,Tryz.f3.params[j]?=some t->args[j]?=some v->Value.okWide Tryz.prog W .any base t v:=hval0
 have hW':=hW
 obtain⟨p,q,hA0,hV,rfl,hfz,hnd⟩:=hW
 have hA:DataW.TrodAll enc Tryz.prog W 0 (λ_=>true) true Tryz.f3.params.toList args.toList ds p:=hA0
 rw[Tryz.params3]at hA hval
 obtain⟨v0,vs0,d0,ds0,p0,q0,hargs0,rfl,rfl,h0,r0⟩:=trodAll_cons hA
 obtain⟨rfl,rfl,rfl⟩:=trodAll_nil r0
 obtain rfl:args=#[v0]:=by cases args;simp_all
 obtain⟨rfl,rfl⟩:=trodVars_none hV
 obtain⟨sa0,sl0,sc0,rfl⟩:=okWide_slice Tryz.underlying22 (hval 0 22 v0 rfl rfl)
 obtain⟨fuel0,h0⟩:=h0
 obtain⟨x0,w0,hv0,hr0⟩:=zcF Tryz.underlying22 kr Tryz.underlying5 h0
 obtain rfl:Value.slice sa0 sl0 sc0=w0:=by simpa[Value.cells]using hv0
 refine((Ss x0).law hPhi (vals:=[.slice sa0 sl0 sc0]) ⟨hr0,trivial⟩).mono λe W' ⟨he,hx⟩=>?_
 subst he
 exact⟨_,rfl,zki laid params_ok rfl hW' rfl rfl rfl rfl Tryz.underlying4 hx⟩
theorem AA {a b:Bool} (x:a=true) (y:b=true):(a&&b)=true:=by rw[x,y];rfl
set_option maxRecDepth 100000 in
theorem jf:joinedFacts Tryz.pinned.checked.prog 3 Tryz.f3 Rows.fnTopSpec Rows.fnTopRow=true:=by
 unfold joinedFacts
 exact AA (AA (AA (AA (AA (AA (AA (AA (AA (AA (AA (AA (AA (AA (AA (AA (AA (AA (AA (AA (AA (AA (AA (AA (AA (AA (AA (AA (AA (AA (AA j0 j1) j2) j3) j4) j5) j6) j7) j8) j9) j10) j11) j12) j13) j14) j15) j16) j17) j18) j19) j20) j21) j22) j23) j24) j25) j26) j27) j28) j29) j30) j31
theorem over:Rows.fnTopRow.holds Tryz.pinned (OpenSpec.ofChange Rows.fnTopSpec) :=
 OpenClaim.holds_of_wide 3 Tryz.f3 rfl rfl rfl rfl rfl rfl rfl ⟨rfl,rfl,rfl,rfl,rfl⟩ rfl rfl rfl rfl rfl kr Tryz.func3 jf
  (of_decide_eq_true kr) (by unfold Func.isWrapper;first|(rw[if_pos (by decide +kernel)];kernel_rfl)|(rw[if_neg (by decide +kernel)];exact⟨rfl,rfl⟩))
  (λos started H enc _=>lifted os started H enc)
theorem proved:Rows.FnTopCardSaid :=
 Claim7.holds_tied_plain_at .later [] [.data,.data,.data] true Rows.fnTopCard.stood.harness false over (λ_ h=>by cases h) jw (λ_ h=>by cases h) fnTop_row_tie rfl ⟨rfl,rfl⟩ kr rfl
  (λf fn hf hfn=>by
   obtain rfl:f=3:=Option.some.inj ((show Tryz.prog.funcNamed "loop.example/g03100/laws.FnTop" = some 3 by kernel_rfl).symm.trans hf) |>.symm
   obtain rfl:fn=Tryz.f3:=(Option.some.inj (Tryz.func3.symm.trans hfn)).symm
   exact⟨kr,λj t ht=>by
    rw[Tryz.params3]at ht
    have hm:t∈[22]:=by simpa using Array.mem_of_getElem? ht
    have hall:([22].all λu=>!Tryz.prog.wantsStandIn u)=true:=kr
    exact(show Tryz.prog.wantsStandIn t=false by simpa using List.all_eq_true.1 hall t hm)⟩)
  jg
#print axioms proved
end Go.Proofs.YtijabbemjaioeaaGreatDoor.fnTop
