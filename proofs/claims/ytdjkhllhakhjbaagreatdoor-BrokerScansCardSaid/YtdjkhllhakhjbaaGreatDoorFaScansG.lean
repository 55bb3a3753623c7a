/-
  What the row of BrokerScans tells of the program, computed. Conditions: none.
-/
import Derived.Test.YtdjkhllhakhjbaaGreatDoorPG21
set_option linter.all false
set_option maxRecDepth 100000
set_option maxHeartbeats 40000000
open Go.Proofs.YtdjkhllhakhjbaaGreatDoor.Rows renaming brokerScansCard -> aA,brokerScansSpec -> aB,brokerScansRow -> aC
open Go.OpenSpec renaming ofChange -> aF
namespace Go.Proofs.YtdjkhllhakhjbaaGreatDoor.brokerScans
open Go.ChangeShapes Go.WideShapes Go.ChangeAt Go.RowKit Go.Sx Go.Lib Go.ChangeMaps
theorem zL{a b:Bool}(h:a=true)(A:b=true):(a && b)=true:=by rw[h,A];rfl
noncomputable abbrev FP:=Tryz.pinned.checked.prog
abbrev FC:=aC
theorem fa2:laidOutB FP=true:=kR
theorem fa3:mapsRowed FP=true:=kR
theorem a5Y:(FC.inPlace == FP.inPlace 6)=true:=kR
theorem a6e:(FC.unfollowed == FP.unfollowed 6)=true:=kR
theorem a5u:(FC.recurses == FP.recurses 6)=true:=kR
theorem a5S:(FC.named == FP.varsNamed 6)=true:=kR
theorem a5G:FP.stopsHeard=true:=kR
theorem a5z:FP.mayEnter=true:=kR
theorem a5N:(FC.lifted == FP.liftsFinal)=true:=kR
theorem a2u:false=FC.goesBy FP:=kR
theorem a2p:FP.mainIs=some (aA.stood.harness.1,aA.stood.harness.2.toList):=kR
theorem wfT:FC.wfByText (aF aB)=true:=kR
theorem facts:joinedFacts Tryz.pinned.checked.prog 6 Tryz.f6 (aF aB).bare aC=true:=by
 unfold joinedFacts;exact(zL (zL (zL (zL (zL (zL (zL (zL (zL (zL (zL (zL (zL (zL (zL (zL (zL (zL (zL (zL (zL (zL (zL (zL (zL (zL (zL (zL (zL (zL (zL kR fa2) fa3) kR) kR) kR) kR) kR) kR) a5Y) a6e) a5u) a5S) kR) kR) kR) kR) kR) kR) kR) kR) kR) kR) kR) a5G) a5z) a5N) kR) kR) kR) kR) kR)
end Go.Proofs.YtdjkhllhakhjbaaGreatDoor.brokerScans
