/- DERIVED by an AI agent. -/
import Derived.SevenTiedAt
import Derived.WalkKit
import Derived.ProofKit
import Derived.Test.YtchlggfghabgoaaGreatDoorRows
import Derived.Test.YtchlggfghabgoaaGreatDoorCards
import Derived.Test.YtchlggfghabgoaaGreatDoorTie
namespace Go.Proofs.YtchlggfghabgoaaGreatDoor.fnSession
open Go.ChangeShapes Go.WideShapes Go.ChangeAt Go.RowKit
theorem j0:(Rows.fnSessionRow.wf (OpenSpec.ofChange Rows.fnSessionSpec))=true:=by kernel_rfl
theorem j1:(laidOutB Tryz.pinned.checked.prog)=true:=by kernel_rfl
theorem j2:(mapsRowed Tryz.pinned.checked.prog)=true:=by kernel_rfl
theorem j3:(Tryz.f3.params.all (Tryz.pinned.checked.prog.readableRec ·))=true:=by kernel_rfl
theorem j4:(namedTie Tryz.pinned.checked.prog Rows.fnSessionRow.named Rows.fnSessionSpec.vars)=true:=by kernel_rfl
theorem j5:((Rows.fnSessionRow.stops==[]))=true:=by kernel_rfl
theorem j6:((Tryz.pinned.checked.prog.stops==[]))=true:=by kernel_rfl
theorem j7:((Rows.fnSessionRow.knobs==[]))=true:=by kernel_rfl
theorem j8:((Tryz.pinned.checked.prog.stopKnobs==[]))=true:=by kernel_rfl
theorem j9:((Rows.fnSessionRow.inPlace==Tryz.pinned.checked.prog.inPlace 3))=true:=by kernel_rfl
theorem j10:((Rows.fnSessionRow.unfollowed==Tryz.pinned.checked.prog.unfollowed 3))=true:=by kernel_rfl
theorem j11:((Rows.fnSessionRow.recurses==Tryz.pinned.checked.prog.recurses 3))=true:=by kernel_rfl
theorem j12:((Rows.fnSessionRow.named==Tryz.pinned.checked.prog.varsNamed 3))=true:=by kernel_rfl
theorem j13:((Rows.fnSessionRow.maps==(Tryz.f3.params.toList++Rows.fnSessionSpec.plain.varTypes Tryz.pinned.checked.prog).any (Tryz.pinned.checked.prog.mapsRec ·)))=true:=by kernel_rfl
theorem j14:((Rows.fnSessionRow.ifaces==(Tryz.f3.params.toList++Rows.fnSessionSpec.plain.varTypes Tryz.pinned.checked.prog).any (Tryz.pinned.checked.prog.ifacesRec ·)))=true:=by kernel_rfl
theorem j15:((Rows.fnSessionRow.mapsOut==Tryz.pinned.checked.prog.mapsAmong Tryz.f3.resultTypes.toList))=true:=by kernel_rfl
theorem j16:((Rows.fnSessionRow.loops==(Tryz.f3.params.toList++Rows.fnSessionSpec.plain.varTypes Tryz.pinned.checked.prog).any (Tryz.pinned.checked.prog.loopsFrom ·)))=true:=by kernel_rfl
theorem j17:((Rows.fnSessionRow.wideKeys==(Tryz.f3.params.toList++Rows.fnSessionSpec.plain.varTypes Tryz.pinned.checked.prog++Tryz.f3.resultTypes.toList).any (Tryz.pinned.checked.prog.wideKeysFrom ·)))=true:=by kernel_rfl
theorem j18:(Rows.fnSessionSpec.vars.all (Tryz.pinned.checked.prog.varReadable ·))=true:=by kernel_rfl
theorem j19:(Tryz.f3.resultTypes.all (λt=>Tryz.pinned.checked.prog.readableRec t&&decide (t<Tryz.pinned.checked.prog.types.size)))=true:=by kernel_rfl
theorem j20:((Rows.fnSessionRow.ifacesOut==Tryz.f3.resultTypes.toList.any (Tryz.pinned.checked.prog.ifacesRec ·)))=true:=by kernel_rfl
theorem j21:((Rows.fnSessionRow.loopsOut==Tryz.f3.resultTypes.toList.any (Tryz.pinned.checked.prog.loopsFrom ·)))=true:=by kernel_rfl
theorem j22:((Rows.fnSessionRow.plainKeys==Tryz.pinned.checked.prog.plainKeys))=true:=by kernel_rfl
theorem j23:(Rows.fnSessionRow.shortTexts.isNone)=true:=by kernel_rfl
theorem j24:(Tryz.pinned.checked.prog.stopsHeard)=true:=by kernel_rfl
theorem j25:(Tryz.pinned.checked.prog.mayEnter)=true:=by kernel_rfl
theorem j26:((Rows.fnSessionRow.lifted==Tryz.pinned.checked.prog.liftsFinal))=true:=by kernel_rfl
theorem j27:((Tryz.pinned.checked.prog.make==some Rows.fnSessionRow.make))=true:=by kernel_rfl
theorem j28:((Rows.fnSessionRow.kinds==(if Rows.fnSessionRow.domain.isEmpty then []else Tryz.f3.params.toList.map λt=>match Tryz.pinned.checked.prog.underlying t with|some (.int k)=>some k|_=>none)))=true:=by kernel_rfl
theorem j29:((Rows.fnSessionRow.pinned==Rows.fnSessionRow.pinnedBy))=true:=by kernel_rfl
theorem j30:((Rows.fnSessionRow.veiled==(Tryz.f3.params.toList++Rows.fnSessionSpec.plain.varTypes Tryz.pinned.checked.prog++Tryz.f3.resultTypes.toList).any (Tryz.pinned.checked.prog.veiledRec ·)))=true:=by kernel_rfl
theorem j31:(Rows.fnSessionRow.veiledFits Tryz.pinned.checked.prog Tryz.f3.params.toList (Tryz.f3.params.toList++Rows.fnSessionSpec.plain.varTypes Tryz.pinned.checked.prog++Tryz.f3.resultTypes.toList))=true:=by kernel_rfl
theorem jw:OpenClaim.wfByText (OpenSpec.ofChange Rows.fnSessionSpec) Rows.fnSessionRow=true:=by kernel_rfl
end Go.Proofs.YtchlggfghabgoaaGreatDoor.fnSession
