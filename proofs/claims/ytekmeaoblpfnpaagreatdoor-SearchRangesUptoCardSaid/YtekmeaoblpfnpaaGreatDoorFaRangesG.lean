/-
  What the row of SearchRanges tells of the program, computed. Conditions: none.
-/
import Derived.Test.YtekmeaoblpfnpaaGreatDoorPG3
set_option maxRecDepth 100000
set_option maxHeartbeats 40000000
namespace Go.Proofs.YtekmeaoblpfnpaaGreatDoor.searchRanges
open Go.ChangeShapes Go.WideShapes Go.ChangeAt Go.RowKit Go.Sx Go.Lib Go.ChangeMaps
theorem fa_and {a b : Bool} (ha : a = true) (hb : b = true) : (a && b) = true := by rw [ha, hb]; rfl
noncomputable abbrev FP := Tryz.pinned.checked.prog
abbrev FC := Rows.searchRangesUptoRow
theorem fa2 : laidOutB FP = true := by kernel_rfl
theorem fa3 : mapsRowed FP = true := by kernel_rfl
theorem fa10 : (FC.inPlace == FP.inPlace 4) = true := by kernel_rfl
theorem fa11 : (FC.unfollowed == FP.unfollowed 4) = true := by kernel_rfl
theorem fa12 : (FC.recurses == FP.recurses 4) = true := by kernel_rfl
theorem fa13 : (FC.named == FP.varsNamed 4) = true := by kernel_rfl
theorem fa25 : FP.stopsHeard = true := by kernel_rfl
theorem fa26 : FP.mayEnter = true := by kernel_rfl
theorem fa27 : (FC.lifted == FP.liftsFinal) = true := by kernel_rfl
theorem goesT : false = FC.goesBy FP := by kernel_rfl
theorem mainT : FP.mainIs = some (Rows.searchRangesUptoCard.stood.harness.1, Rows.searchRangesUptoCard.stood.harness.2.toList) := by kernel_rfl
theorem wfT : FC.wfByText (Rows.OpenSpec.upto Rows.searchRangesSpec) = true := by kernel_rfl
theorem facts : joinedFacts Tryz.pinned.checked.prog 4 Tryz.f4 (Rows.OpenSpec.upto Rows.searchRangesSpec).bare Rows.searchRangesUptoRow = true := by
  unfold joinedFacts
  exact (fa_and (fa_and (fa_and (fa_and (fa_and (fa_and (fa_and (fa_and (fa_and (fa_and (fa_and (fa_and (fa_and (fa_and (fa_and (fa_and (fa_and (fa_and (fa_and (fa_and (fa_and (fa_and (fa_and (fa_and (fa_and (fa_and (fa_and (fa_and (fa_and (fa_and (fa_and (by kernel_rfl) fa2) fa3) (by kernel_rfl)) (by kernel_rfl)) (by kernel_rfl)) (by kernel_rfl)) (by kernel_rfl)) (by kernel_rfl)) fa10) fa11) fa12) fa13) (by kernel_rfl)) (by kernel_rfl)) (by kernel_rfl)) (by kernel_rfl)) (by kernel_rfl)) (by kernel_rfl)) (by kernel_rfl)) (by kernel_rfl)) (by kernel_rfl)) (by kernel_rfl)) (by kernel_rfl)) fa25) fa26) fa27) (by kernel_rfl)) (by kernel_rfl)) (by kernel_rfl)) (by kernel_rfl)) (by kernel_rfl))
end Go.Proofs.YtekmeaoblpfnpaaGreatDoor.searchRanges
