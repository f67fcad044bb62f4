/- DERIVED by an AI agent. -/
import Derived.SevenTiedAt
import Derived.WalkKit
import Derived.ProofKit
import Derived.Test.YtigjebcjfbhnjaaGreatDoorRows
import Derived.Test.YtigjebcjfbhnjaaGreatDoorCards
import Derived.Test.YtigjebcjfbhnjaaGreatDoorTie
namespace Go.Proofs.YtigjebcjfbhnjaaGreatDoor.fnExactRunSession
open Go.ChangeShapes Go.WideShapes Go.ChangeAt Go.RowKit
theorem jg:false=Rows.fnExactRunSessionRow.goesBy Tryz.pinned.checked.prog:=by kernel_rfl
end Go.Proofs.YtigjebcjfbhnjaaGreatDoor.fnExactRunSession
