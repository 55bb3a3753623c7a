/-
  What the row of SearchCheaper tells of the program, computed. Conditions: none.
-/
import Derived.Test.YtekmeaoblpfnpaaGreatDoorPC3
set_option linter.all false
set_option maxRecDepth 100000
set_option maxHeartbeats 40000000
namespace Go.Proofs.YtekmeaoblpfnpaaGreatDoor.searchCheaper
open Go.ChangeShapes Go.WideShapes Go.ChangeAt Go.RowKit Go.Sx Go.Lib Go.ChangeMaps
theorem CU {a b : Bool} (ha : a = true) (hb : b = true) : (a && b) = true := by rw [ha, hb]; rfl
noncomputable abbrev FP := Tryz.pinned.checked.prog
abbrev FC := Rows.searchCheaperUptoRow
theorem fa2 : laidOutB FP = true := by kernel_rfl
theorem fa3 : mapsRowed FP = true := by kernel_rfl
theorem c0C : (FC.inPlace == FP.inPlace 13) = true := by kernel_rfl
theorem c0R : (FC.unfollowed == FP.unfollowed 13) = true := by kernel_rfl
theorem c0U : (FC.recurses == FP.recurses 13) = true := by kernel_rfl
theorem c0P : (FC.named == FP.varsNamed 13) = true := by kernel_rfl
theorem c0H : FP.stopsHeard = true := by kernel_rfl
theorem c0O : FP.mayEnter = true := by kernel_rfl
theorem c0M : (FC.lifted == FP.liftsFinal) = true := by kernel_rfl
theorem c0o : false = FC.goesBy FP := by kernel_rfl
theorem c0i : FP.mainIs = some (Rows.searchCheaperUptoCard.stood.harness.1, Rows.searchCheaperUptoCard.stood.harness.2.toList) := by kernel_rfl
theorem wfT : FC.wfByText (Rows.OpenSpec.upto Rows.searchCheaperSpec) = true := by kernel_rfl
theorem facts : joinedFacts Tryz.pinned.checked.prog 13 Tryz.f13 (Rows.OpenSpec.upto Rows.searchCheaperSpec).bare Rows.searchCheaperUptoRow = true := by
  unfold joinedFacts
  exact (CU (CU (CU (CU (CU (CU (CU (CU (CU (CU (CU (CU (CU (CU (CU (CU (CU (CU (CU (CU (CU (CU (CU (CU (CU (CU (CU (CU (CU (CU (CU (by kernel_rfl) fa2) fa3) (by kernel_rfl)) (by kernel_rfl)) (by kernel_rfl)) (by kernel_rfl)) (by kernel_rfl)) (by kernel_rfl)) c0C) c0R) c0U) c0P) (by kernel_rfl)) (by kernel_rfl)) (by kernel_rfl)) (by kernel_rfl)) (by kernel_rfl)) (by kernel_rfl)) (by kernel_rfl)) (by kernel_rfl)) (by kernel_rfl)) (by kernel_rfl)) (by kernel_rfl)) c0H) c0O) c0M) (by kernel_rfl)) (by kernel_rfl)) (by kernel_rfl)) (by kernel_rfl)) (by kernel_rfl))
end Go.Proofs.YtekmeaoblpfnpaaGreatDoor.searchCheaper
