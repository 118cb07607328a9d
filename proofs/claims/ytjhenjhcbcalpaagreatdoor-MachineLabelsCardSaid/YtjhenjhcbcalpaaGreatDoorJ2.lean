/- The closed facts that a claim of this seat asks of the program. Conditions: none. -/
import Derived.JoinedCond
import Derived.Test.YtjhenjhcbcalpaaGreatDoorRows
import Derived.Test.YtjhenjhcbcalpaaGreatDoorChecked
import Derived.WalkKit
set_option maxRecDepth 1000000
namespace Go.Proofs.YtjhenjhcbcalpaaGreatDoor
open Go
theorem jf4 : joinedFacts Tryz.pinned.checked.prog 4 Tryz.f4 (OpenSpec.ofChange Rows.machineLabelsSpec).bare Rows.machineLabelsRow = true := by kernel_rfl
end Go.Proofs.YtjhenjhcbcalpaaGreatDoor
