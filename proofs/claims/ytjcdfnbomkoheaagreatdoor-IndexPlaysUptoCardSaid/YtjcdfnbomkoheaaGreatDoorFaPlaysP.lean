/-
  What the row of IndexPlays tells of the program, computed. Conditions: none.
-/
import Derived.Test.YtjcdfnbomkoheaaGreatDoorPP1
set_option maxRecDepth 100000
set_option maxHeartbeats 4000000
namespace Go.Proofs.YtjcdfnbomkoheaaGreatDoor.indexPlays
open Go.ChangeShapes Go.WideShapes Go.ChangeAt Go.RowKit Go.Sx Go.Lib Go.ChangeMaps
theorem facts : joinedFacts Tryz.pinned.checked.prog 8 Tryz.f8 (Rows.OpenSpec.upto Rows.indexPlaysSpec).bare Rows.indexPlaysUptoRow = true := by kernel_rfl
end Go.Proofs.YtjcdfnbomkoheaaGreatDoor.indexPlays
