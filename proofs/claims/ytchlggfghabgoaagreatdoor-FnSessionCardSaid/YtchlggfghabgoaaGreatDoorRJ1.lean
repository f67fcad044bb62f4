/- DERIVED by an AI agent. -/
import Derived.SevenTiedAt
import Derived.WalkKit
import Derived.ProofKit
import Derived.Test.YtchlggfghabgoaaGreatDoorRows
import Derived.Test.YtchlggfghabgoaaGreatDoorCards
import Derived.Test.YtchlggfghabgoaaGreatDoorTie
namespace Go.Proofs.YtchlggfghabgoaaGreatDoor.fnSession
open Go.ChangeShapes Go.WideShapes Go.ChangeAt Go.RowKit
theorem jg:false=Rows.fnSessionRow.goesBy Tryz.pinned.checked.prog:=by kernel_rfl
end Go.Proofs.YtchlggfghabgoaaGreatDoor.fnSession
