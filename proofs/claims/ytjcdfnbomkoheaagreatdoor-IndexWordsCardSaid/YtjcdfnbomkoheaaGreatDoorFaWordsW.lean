/-
  What the row of IndexWords tells of the program, computed. Conditions: none.
-/
import Derived.Test.YtjcdfnbomkoheaaGreatDoorPW2
namespace Go.Proofs.YtjcdfnbomkoheaaGreatDoor.indexWords
open Go.ChangeShapes Go.WideShapes Go.ChangeAt Go.RowKit Go.Sx Go.Lib Go.ChangeMaps
theorem facts : joinedFacts Tryz.pinned.checked.prog 5 Tryz.f5 (OpenSpec.ofChange Rows.indexWordsSpec).bare Rows.indexWordsRow = true := by kernel_rfl
end Go.Proofs.YtjcdfnbomkoheaaGreatDoor.indexWords
