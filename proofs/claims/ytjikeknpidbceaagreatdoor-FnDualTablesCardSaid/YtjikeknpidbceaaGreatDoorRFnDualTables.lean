/- DERIVED by an AI agent. -/
import Derived.Test.YtjikeknpidbceaaGreatDoorQ7
import Derived.Test.YtjikeknpidbceaaGreatDoorF1
import Derived.WalkKit
import Derived.ProofKit
import Derived.Lay
import Derived.SevenTiedAt
import Derived.Test.YtjikeknpidbceaaGreatDoorRows
import Derived.Test.YtjikeknpidbceaaGreatDoorCards
import Derived.Test.YtjikeknpidbceaaGreatDoorTie
namespace Go.Proofs.YtjikeknpidbceaaGreatDoor.fnDualTables
open Go.ChangeShapes Go.WideShapes Go.ChangeAt Go.RowKit Go.Abs
set_option linter.unusedVariables false
set_option linter.unusedSimpArgs false
theorem own:ownKnob Tryz.prog.godebug = none:=by kernel_rfl
theorem laid:laidOutB Tryz.prog = true:=by kernel_rfl
theorem params_ok:∀ t ∈ Tryz.f3.params.toList,Tryz.prog.readableRec t = true∧t < Tryz.prog.types.size:=by
 intro t ht
 rw [Tryz.params3] at ht
 simp at ht
 subst ht
 exact ⟨by kernel_rfl,of_decide_eq_true (by kernel_rfl)⟩
theorem laidTab:("internal/strconv.uint64pow10",Go.Lib.tabData .u64 Go.Lib.pow10Tab) ∈ Rows.fnDualTablesRow.laid:=by
 have e:(Go.Lib.tabData .u64 Go.Lib.pow10Tab:DataW Unit) = Rows.laid_internal_strconv_uint64pow10:=by first | rfl | decide +kernel
 rw [e]
 simp [Rows.fnDualTablesRow]
set_option maxRecDepth 100000 in
theorem lifted (os:Os) (started:os.Started) (H:Type) (enc:TypeId × Value→H) :
 ReturnsInHanded {} Tryz.checked os 3 .any (fun w args=>(Rows.fnDualTablesSpec.pre enc Tryz.prog Tryz.f3 [] false w args∧laidMetH Tryz.prog Rows.fnDualTablesRow.laid w)∧sizedMet enc Tryz.prog Tryz.f3 (OpenSpec.ofChange Rows.fnDualTablesSpec) false w args) (Rows.fnDualTablesSpec.post enc Tryz.prog Tryz.f3 false true false false):=by
 refine returnsInHanded_of_change_and (C:=Tryz.checked) (X:=fun w _=>laidMetH Tryz.prog Rows.fnDualTablesRow.laid w) (fun _ _ _ hh h=>h.of_heap hh) own started (by kernel_rfl) Tryz.func3
  (ChangeSpec.witness_shaped (enc:=enc) (C:=Tryz.checked) (os:=os) (X:=fun w _=>laidMetH Tryz.prog Rows.fnDualTablesRow.laid w) false (World.laidAll Tryz.prog os Rows.fnDualTablesRow.laid) #[.slice none 0 0] 8 (World.laidAll_os _ _ _)
   (World.shaped_of_ZipB (by kernel_rfl) (by kernel_rfl)) (by kernel_rfl) (by kernel_rfl) (by kernel_rfl)
   (by rw [MakeChecks.laidMetH_plain _ _ _ (by kernel_rfl)];exact laidMet_laidAll _ (by kernel_rfl) (by kernel_rfl))) ?_
 intro W base args ds gs before hval0 hW _ _ hL _
 rw [MakeChecks.laidMetH_plain _ _ _ (by kernel_rfl)] at hL
 have hPhi:zad.Φ W:=zz0 zHq (by kernel_rfl) Tryz.underlying120 Tryz.underlying49 (by kernel_rfl) (by kernel_rfl) hL laidTab
 have hval:∀ (j:Nat) t v,Tryz.f3.params[j]? = some t→args[j]? = some v→Value.okWide Tryz.prog W .any base t v:=hval0
 have hW':=hW
 obtain ⟨p,q,hA0,hV,rfl,hfz,hnd⟩:=hW
 have hA:DataW.TrodAll enc Tryz.prog W 0 (fun _=>true) true Tryz.f3.params.toList args.toList ds p:=hA0
 rw [Tryz.params3] at hA hval
 obtain ⟨v0,vs0,d0,ds0,p0,q0,hargs0,rfl,rfl,h0,r0⟩:=trodAll_cons hA
 obtain ⟨rfl,rfl,rfl⟩:=trodAll_nil r0
 obtain rfl:args = #[v0]:=by cases args;simp_all
 obtain ⟨rfl,rfl⟩:=trodVars_none hV
 obtain ⟨sa0,sl0,sc0,rfl⟩:=okWide_slice Tryz.underlying22 (hval 0 22 v0 rfl rfl)
 obtain ⟨fuel0,h0⟩:=h0
 obtain ⟨x0,w0,hv0,hr0⟩:=zxa Tryz.underlying22 (by kernel_rfl) Tryz.underlying5 h0
 obtain rfl:Value.slice sa0 sl0 sc0 = w0:=by simpa [Value.cells] using hv0
 refine ((zf8 x0).law hPhi (vals:=[.slice sa0 sl0 sc0]) ⟨hr0,trivial⟩).mono fun e W' ⟨he,hx⟩=>?_
 subst he
 exact ⟨_,rfl,zBh laid params_ok rfl hW' rfl rfl rfl rfl Tryz.underlying4 hx⟩
theorem over:Rows.fnDualTablesRow.holds Tryz.pinned (OpenSpec.ofChange Rows.fnDualTablesSpec) :=
 OpenClaim.holds_of_wide 3 Tryz.f3 rfl rfl rfl rfl rfl rfl rfl ⟨rfl,rfl,rfl,rfl,rfl⟩ rfl rfl rfl rfl rfl (by kernel_rfl) Tryz.func3 (by kernel_rfl)
  (of_decide_eq_true (by kernel_rfl)) (by unfold Func.isWrapper;first | (rw [if_pos (by decide +kernel)];kernel_rfl) | (rw [if_neg (by decide +kernel)];exact ⟨rfl,rfl⟩))
  (fun os started H enc _=>lifted os started H enc)
theorem proved:Rows.FnDualTablesCardSaid :=
 Claim7.holds_tied_plain_at .later [] [.data,.data,.data] true Rows.fnDualTablesCard.stood.harness false over (fun _ h=>by cases h) (by kernel_rfl) (fun _ h=>by cases h) fnDualTables_row_tie rfl ⟨rfl,rfl⟩ (by kernel_rfl) rfl
  (fun f fn hf hfn=>by
   obtain rfl:f = 3:=Option.some.inj ((show Tryz.prog.funcNamed "loop.example/g03100/laws.FnDualTables" = some 3 by kernel_rfl).symm.trans hf) |>.symm
   obtain rfl:fn = Tryz.f3:=(Option.some.inj (Tryz.func3.symm.trans hfn)).symm
   exact ⟨by kernel_rfl,fun j t ht=>by
    rw [Tryz.params3] at ht
    have hm:t ∈ [22]:=by simpa using Array.mem_of_getElem? ht
    have hall:([22].all fun u=>!Tryz.prog.wantsStandIn u) = true:=by kernel_rfl
    exact (show Tryz.prog.wantsStandIn t = false by simpa using List.all_eq_true.1 hall t hm)⟩)
  (by kernel_rfl)
#print axioms proved
end Go.Proofs.YtjikeknpidbceaaGreatDoor.fnDualTables
