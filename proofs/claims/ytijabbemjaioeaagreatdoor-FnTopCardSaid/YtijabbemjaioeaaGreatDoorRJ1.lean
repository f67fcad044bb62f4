/- DERIVED by an AI agent. -/
import Derived.SevenTiedAt
import Derived.WalkKit
import Derived.ProofKit
import Derived.Test.YtijabbemjaioeaaGreatDoorRows
import Derived.Test.YtijabbemjaioeaaGreatDoorCards
import Derived.Test.YtijabbemjaioeaaGreatDoorTie
namespace Go.Proofs.YtijabbemjaioeaaGreatDoor.fnTop
open Go.ChangeShapes Go.WideShapes Go.ChangeAt Go.RowKit
theorem jg:false=Rows.fnTopRow.goesBy Tryz.pinned.checked.prog:=by kernel_rfl
end Go.Proofs.YtijabbemjaioeaaGreatDoor.fnTop
