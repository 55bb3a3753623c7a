/-
  What the row of SearchPlans tells of the program, computed. Conditions: none.
-/
import Derived.Test.YtekmeaoblpfnpaaGreatDoorPA3
set_option linter.all false
set_option maxRecDepth 100000
set_option maxHeartbeats 40000000
open Go.Proofs.YtekmeaoblpfnpaaGreatDoor.Rows renaming searchPlansUptoCard -> aA,searchPlansUptoRow -> aB,searchPlansSpec -> aC
open Go.Proofs.YtekmeaoblpfnpaaGreatDoor.Rows.OpenSpec renaming upto -> aF
namespace Go.Proofs.YtekmeaoblpfnpaaGreatDoor.searchPlans
open Go.ChangeShapes Go.WideShapes Go.ChangeAt Go.RowKit Go.Sx Go.Lib Go.ChangeMaps
theorem DY{a b:Bool}(N:a=true)(O:b=true):(a && b)=true:=by rw[N,O];rfl
noncomputable abbrev FP:=Tryz.pinned.checked.prog
abbrev FC:=aB
theorem fa2:laidOutB FP=true:=kR
theorem fa3:mapsRowed FP=true:=kR
theorem c6j:(FC.inPlace == FP.inPlace 11)=true:=kR
theorem c6v:(FC.unfollowed == FP.unfollowed 11)=true:=kR
theorem c6o:(FC.recurses == FP.recurses 11)=true:=kR
theorem c6q:(FC.named == FP.varsNamed 11)=true:=kR
theorem c6l:FP.stopsHeard=true:=kR
theorem c6r:FP.mayEnter=true:=kR
theorem c6w:(FC.lifted == FP.liftsFinal)=true:=kR
theorem c5P:false=FC.goesBy FP:=kR
theorem c5M:FP.mainIs=some (aA.stood.harness.1,aA.stood.harness.2.toList):=kR
theorem wfT:FC.wfByText (aF aC)=true:=kR
theorem facts:joinedFacts Tryz.pinned.checked.prog 11 Tryz.f11 (aF aC).bare aB=true:=by
 unfold joinedFacts;exact(DY (DY (DY (DY (DY (DY (DY (DY (DY (DY (DY (DY (DY (DY (DY (DY (DY (DY (DY (DY (DY (DY (DY (DY (DY (DY (DY (DY (DY (DY (DY kR fa2) fa3) kR) kR) kR) kR) kR) kR) c6j) c6v) c6o) c6q) kR) kR) kR) kR) kR) kR) kR) kR) kR) kR) kR) c6l) c6r) c6w) kR) kR) kR) kR) kR)
end Go.Proofs.YtekmeaoblpfnpaaGreatDoor.searchPlans
