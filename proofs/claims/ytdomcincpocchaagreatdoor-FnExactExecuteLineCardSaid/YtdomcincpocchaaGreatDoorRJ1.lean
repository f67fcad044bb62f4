/- DERIVED by an AI agent. -/
import Derived.SevenTiedAt
import Derived.WalkKit
import Derived.ProofKit
import Derived.Test.YtdomcincpocchaaGreatDoorRows
import Derived.Test.YtdomcincpocchaaGreatDoorCards
import Derived.Test.YtdomcincpocchaaGreatDoorTie
namespace Go.Proofs.YtdomcincpocchaaGreatDoor.fnExactExecuteLine
open Go.ChangeShapes Go.WideShapes Go.ChangeAt Go.RowKit
theorem jg:false=Rows.fnExactExecuteLineRow.goesBy Tryz.pinned.checked.prog:=by kernel_rfl
end Go.Proofs.YtdomcincpocchaaGreatDoor.fnExactExecuteLine
