/-
  What the row of IndexDrops tells of the program, computed. Conditions: none.
-/
import Derived.Test.YtjcdfnbomkoheaaGreatDoorPD2
set_option maxRecDepth 100000
set_option maxHeartbeats 4000000
namespace Go.Proofs.YtjcdfnbomkoheaaGreatDoor.indexDrops
open Go.ChangeShapes Go.WideShapes Go.ChangeAt Go.RowKit Go.Sx Go.Lib Go.ChangeMaps
theorem facts : joinedFacts Tryz.pinned.checked.prog 11 Tryz.f11 (OpenSpec.ofChange Rows.indexDropsSpec).bare Rows.indexDropsRow = true := by kernel_rfl
end Go.Proofs.YtjcdfnbomkoheaaGreatDoor.indexDrops
