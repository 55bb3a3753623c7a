/-
  What the row of IndexScans tells of the program, computed. Conditions: none.
-/
import Derived.Test.YtjcdfnbomkoheaaGreatDoorPC2
set_option maxRecDepth 100000
set_option maxHeartbeats 4000000
namespace Go.Proofs.YtjcdfnbomkoheaaGreatDoor.indexScans
open Go.ChangeShapes Go.WideShapes Go.ChangeAt Go.RowKit Go.Sx Go.Lib Go.ChangeMaps
theorem facts : joinedFacts Tryz.pinned.checked.prog 4 Tryz.f4 (Rows.OpenSpec.upto Rows.indexScansSpec).bare Rows.indexScansUptoRow = true := by kernel_rfl
end Go.Proofs.YtjcdfnbomkoheaaGreatDoor.indexScans
