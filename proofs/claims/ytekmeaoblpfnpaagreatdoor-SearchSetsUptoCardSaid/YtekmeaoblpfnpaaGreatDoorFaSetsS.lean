/-
  What the row of SearchSets tells of the program, computed. Conditions: none.
-/
import Derived.Test.YtekmeaoblpfnpaaGreatDoorPS3
set_option linter.all false
set_option maxRecDepth 100000
set_option maxHeartbeats 40000000
namespace Go.Proofs.YtekmeaoblpfnpaaGreatDoor.searchSets
open Go.ChangeShapes Go.WideShapes Go.ChangeAt Go.RowKit Go.Sx Go.Lib Go.ChangeMaps
theorem mD {a b : Bool} (ha : a = true) (hb : b = true) : (a && b) = true := by rw [ha, hb]; rfl
noncomputable abbrev FP := Tryz.pinned.checked.prog
abbrev FC := Rows.searchSetsUptoRow
theorem fa2 : laidOutB FP = true := by kernel_rfl
theorem fa3 : mapsRowed FP = true := by kernel_rfl
theorem b8C : (FC.inPlace == FP.inPlace 9) = true := by kernel_rfl
theorem b8D : (FC.unfollowed == FP.unfollowed 9) = true := by kernel_rfl
theorem b8L : (FC.recurses == FP.recurses 9) = true := by kernel_rfl
theorem b8O : (FC.named == FP.varsNamed 9) = true := by kernel_rfl
theorem b8K : FP.stopsHeard = true := by kernel_rfl
theorem b8H : FP.mayEnter = true := by kernel_rfl
theorem b8M : (FC.lifted == FP.liftsFinal) = true := by kernel_rfl
theorem b8n : false = FC.goesBy FP := by kernel_rfl
theorem b8u : FP.mainIs = some (Rows.searchSetsUptoCard.stood.harness.1, Rows.searchSetsUptoCard.stood.harness.2.toList) := by kernel_rfl
theorem wfT : FC.wfByText (Rows.OpenSpec.upto Rows.searchSetsSpec) = true := by kernel_rfl
theorem facts : joinedFacts Tryz.pinned.checked.prog 9 Tryz.f9 (Rows.OpenSpec.upto Rows.searchSetsSpec).bare Rows.searchSetsUptoRow = true := by
  unfold joinedFacts
  exact (mD (mD (mD (mD (mD (mD (mD (mD (mD (mD (mD (mD (mD (mD (mD (mD (mD (mD (mD (mD (mD (mD (mD (mD (mD (mD (mD (mD (mD (mD (mD (by kernel_rfl) fa2) fa3) (by kernel_rfl)) (by kernel_rfl)) (by kernel_rfl)) (by kernel_rfl)) (by kernel_rfl)) (by kernel_rfl)) b8C) b8D) b8L) b8O) (by kernel_rfl)) (by kernel_rfl)) (by kernel_rfl)) (by kernel_rfl)) (by kernel_rfl)) (by kernel_rfl)) (by kernel_rfl)) (by kernel_rfl)) (by kernel_rfl)) (by kernel_rfl)) (by kernel_rfl)) b8K) b8H) b8M) (by kernel_rfl)) (by kernel_rfl)) (by kernel_rfl)) (by kernel_rfl)) (by kernel_rfl))
end Go.Proofs.YtekmeaoblpfnpaaGreatDoor.searchSets
