/-
  What the row of IndexAgain tells of the program, computed. Conditions: none.
-/
import Derived.Test.YtjcdfnbomkoheaaGreatDoorPW2
namespace Go.Proofs.YtjcdfnbomkoheaaGreatDoor.indexAgain
open Go.ChangeShapes Go.WideShapes Go.ChangeAt Go.RowKit Go.Sx Go.Lib Go.ChangeMaps
theorem facts : joinedFacts Tryz.pinned.checked.prog 9 Tryz.f9 (OpenSpec.ofChange Rows.indexAgainSpec).bare Rows.indexAgainRow = true := by kernel_rfl
end Go.Proofs.YtjcdfnbomkoheaaGreatDoor.indexAgain
