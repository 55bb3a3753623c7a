/-
  What the row of SearchNil tells of the program, computed. Conditions: none.
-/
import Derived.Test.YtekmeaoblpfnpaaGreatDoorPN3
set_option linter.all false
set_option maxRecDepth 100000
set_option maxHeartbeats 40000000
namespace Go.Proofs.YtekmeaoblpfnpaaGreatDoor.searchNil
open Go.ChangeShapes Go.WideShapes Go.ChangeAt Go.RowKit Go.Sx Go.Lib Go.ChangeMaps
theorem lZ {a b : Bool} (ha : a = true) (hb : b = true) : (a && b) = true := by rw [ha, hb]; rfl
noncomputable abbrev FP := Tryz.pinned.checked.prog
abbrev FC := Rows.searchNilUptoRow
theorem fa2 : laidOutB FP = true := by kernel_rfl
theorem fa3 : mapsRowed FP = true := by kernel_rfl
theorem b7F : (FC.inPlace == FP.inPlace 8) = true := by kernel_rfl
theorem b7J : (FC.unfollowed == FP.unfollowed 8) = true := by kernel_rfl
theorem b7Q : (FC.recurses == FP.recurses 8) = true := by kernel_rfl
theorem b7L : (FC.named == FP.varsNamed 8) = true := by kernel_rfl
theorem b7H : FP.stopsHeard = true := by kernel_rfl
theorem b7G : FP.mayEnter = true := by kernel_rfl
theorem b7K : (FC.lifted == FP.liftsFinal) = true := by kernel_rfl
theorem b7j : false = FC.goesBy FP := by kernel_rfl
theorem b7q : FP.mainIs = some (Rows.searchNilUptoCard.stood.harness.1, Rows.searchNilUptoCard.stood.harness.2.toList) := by kernel_rfl
theorem wfT : FC.wfByText (Rows.OpenSpec.upto Rows.searchNilSpec) = true := by kernel_rfl
theorem facts : joinedFacts Tryz.pinned.checked.prog 8 Tryz.f8 (Rows.OpenSpec.upto Rows.searchNilSpec).bare Rows.searchNilUptoRow = true := by
  unfold joinedFacts
  exact (lZ (lZ (lZ (lZ (lZ (lZ (lZ (lZ (lZ (lZ (lZ (lZ (lZ (lZ (lZ (lZ (lZ (lZ (lZ (lZ (lZ (lZ (lZ (lZ (lZ (lZ (lZ (lZ (lZ (lZ (lZ (by kernel_rfl) fa2) fa3) (by kernel_rfl)) (by kernel_rfl)) (by kernel_rfl)) (by kernel_rfl)) (by kernel_rfl)) (by kernel_rfl)) b7F) b7J) b7Q) b7L) (by kernel_rfl)) (by kernel_rfl)) (by kernel_rfl)) (by kernel_rfl)) (by kernel_rfl)) (by kernel_rfl)) (by kernel_rfl)) (by kernel_rfl)) (by kernel_rfl)) (by kernel_rfl)) (by kernel_rfl)) b7H) b7G) b7K) (by kernel_rfl)) (by kernel_rfl)) (by kernel_rfl)) (by kernel_rfl)) (by kernel_rfl))
end Go.Proofs.YtekmeaoblpfnpaaGreatDoor.searchNil
