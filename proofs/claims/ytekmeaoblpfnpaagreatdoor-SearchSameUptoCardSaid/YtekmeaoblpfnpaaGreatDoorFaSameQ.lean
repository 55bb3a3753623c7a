/-
  What the row of SearchSame tells of the program, computed. Conditions: none.
-/
import Derived.Test.YtekmeaoblpfnpaaGreatDoorPQ3
set_option linter.all false
set_option maxRecDepth 100000
set_option maxHeartbeats 40000000
namespace Go.Proofs.YtekmeaoblpfnpaaGreatDoor.searchSame
open Go.ChangeShapes Go.WideShapes Go.ChangeAt Go.RowKit Go.Sx Go.Lib Go.ChangeMaps
theorem CS {a b : Bool} (ha : a = true) (hb : b = true) : (a && b) = true := by rw [ha, hb]; rfl
noncomputable abbrev FP := Tryz.pinned.checked.prog
abbrev FC := Rows.searchSameUptoRow
theorem fa2 : laidOutB FP = true := by kernel_rfl
theorem fa3 : mapsRowed FP = true := by kernel_rfl
theorem c1b : (FC.inPlace == FP.inPlace 12) = true := by kernel_rfl
theorem c0X : (FC.unfollowed == FP.unfollowed 12) = true := by kernel_rfl
theorem c0P : (FC.recurses == FP.recurses 12) = true := by kernel_rfl
theorem c0R : (FC.named == FP.varsNamed 12) = true := by kernel_rfl
theorem c1c : FP.stopsHeard = true := by kernel_rfl
theorem c0Z : FP.mayEnter = true := by kernel_rfl
theorem c1e : (FC.lifted == FP.liftsFinal) = true := by kernel_rfl
theorem c0t : false = FC.goesBy FP := by kernel_rfl
theorem c0K : FP.mainIs = some (Rows.searchSameUptoCard.stood.harness.1, Rows.searchSameUptoCard.stood.harness.2.toList) := by kernel_rfl
theorem wfT : FC.wfByText (Rows.OpenSpec.upto Rows.searchSameSpec) = true := by kernel_rfl
theorem facts : joinedFacts Tryz.pinned.checked.prog 12 Tryz.f12 (Rows.OpenSpec.upto Rows.searchSameSpec).bare Rows.searchSameUptoRow = true := by
  unfold joinedFacts
  exact (CS (CS (CS (CS (CS (CS (CS (CS (CS (CS (CS (CS (CS (CS (CS (CS (CS (CS (CS (CS (CS (CS (CS (CS (CS (CS (CS (CS (CS (CS (CS (by kernel_rfl) fa2) fa3) (by kernel_rfl)) (by kernel_rfl)) (by kernel_rfl)) (by kernel_rfl)) (by kernel_rfl)) (by kernel_rfl)) c1b) c0X) c0P) c0R) (by kernel_rfl)) (by kernel_rfl)) (by kernel_rfl)) (by kernel_rfl)) (by kernel_rfl)) (by kernel_rfl)) (by kernel_rfl)) (by kernel_rfl)) (by kernel_rfl)) (by kernel_rfl)) (by kernel_rfl)) c1c) c0Z) c1e) (by kernel_rfl)) (by kernel_rfl)) (by kernel_rfl)) (by kernel_rfl)) (by kernel_rfl))
end Go.Proofs.YtekmeaoblpfnpaaGreatDoor.searchSame
