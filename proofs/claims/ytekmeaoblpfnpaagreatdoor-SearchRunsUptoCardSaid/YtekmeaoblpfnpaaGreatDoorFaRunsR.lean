/-
  What the row of SearchRuns tells of the program, computed. Conditions: none.
-/
import Derived.Test.YtekmeaoblpfnpaaGreatDoorPR3
set_option linter.all false
set_option maxRecDepth 100000
set_option maxHeartbeats 40000000
namespace Go.Proofs.YtekmeaoblpfnpaaGreatDoor.searchRuns
open Go.ChangeShapes Go.WideShapes Go.ChangeAt Go.RowKit Go.Sx Go.Lib Go.ChangeMaps
theorem mJ {a b : Bool} (ha : a = true) (hb : b = true) : (a && b) = true := by rw [ha, hb]; rfl
noncomputable abbrev FP := Tryz.pinned.checked.prog
abbrev FC := Rows.searchRunsUptoRow
theorem fa2 : laidOutB FP = true := by kernel_rfl
theorem fa3 : mapsRowed FP = true := by kernel_rfl
theorem b7i : (FC.inPlace == FP.inPlace 3) = true := by kernel_rfl
theorem b7f : (FC.unfollowed == FP.unfollowed 3) = true := by kernel_rfl
theorem b7c : (FC.recurses == FP.recurses 3) = true := by kernel_rfl
theorem b7l : (FC.named == FP.varsNamed 3) = true := by kernel_rfl
theorem b7h : FP.stopsHeard = true := by kernel_rfl
theorem b7e : FP.mayEnter = true := by kernel_rfl
theorem b7n : (FC.lifted == FP.liftsFinal) = true := by kernel_rfl
theorem b6O : false = FC.goesBy FP := by kernel_rfl
theorem b6Y : FP.mainIs = some (Rows.searchRunsUptoCard.stood.harness.1, Rows.searchRunsUptoCard.stood.harness.2.toList) := by kernel_rfl
theorem wfT : FC.wfByText (Rows.OpenSpec.upto Rows.searchRunsSpec) = true := by kernel_rfl
theorem facts : joinedFacts Tryz.pinned.checked.prog 3 Tryz.f3 (Rows.OpenSpec.upto Rows.searchRunsSpec).bare Rows.searchRunsUptoRow = true := by
  unfold joinedFacts
  exact (mJ (mJ (mJ (mJ (mJ (mJ (mJ (mJ (mJ (mJ (mJ (mJ (mJ (mJ (mJ (mJ (mJ (mJ (mJ (mJ (mJ (mJ (mJ (mJ (mJ (mJ (mJ (mJ (mJ (mJ (mJ (by kernel_rfl) fa2) fa3) (by kernel_rfl)) (by kernel_rfl)) (by kernel_rfl)) (by kernel_rfl)) (by kernel_rfl)) (by kernel_rfl)) b7i) b7f) b7c) b7l) (by kernel_rfl)) (by kernel_rfl)) (by kernel_rfl)) (by kernel_rfl)) (by kernel_rfl)) (by kernel_rfl)) (by kernel_rfl)) (by kernel_rfl)) (by kernel_rfl)) (by kernel_rfl)) (by kernel_rfl)) b7h) b7e) b7n) (by kernel_rfl)) (by kernel_rfl)) (by kernel_rfl)) (by kernel_rfl)) (by kernel_rfl))
end Go.Proofs.YtekmeaoblpfnpaaGreatDoor.searchRuns
