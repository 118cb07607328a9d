/- The closed facts that a claim of this seat asks of the program. Conditions: none. -/
import Derived.JoinedCond
import Derived.Test.YtjhenjhcbcalpaaGreatDoorRows
import Derived.Test.YtjhenjhcbcalpaaGreatDoorChecked
import Derived.WalkKit
set_option maxRecDepth 1000000
namespace Go.Proofs.YtjhenjhcbcalpaaGreatDoor
open Go
theorem jf8 : joinedFacts Tryz.pinned.checked.prog 8 Tryz.f8 (OpenSpec.ofChange Rows.machineCommuteSpec).bare Rows.machineCommuteRow = true := by kernel_rfl
end Go.Proofs.YtjhenjhcbcalpaaGreatDoor
