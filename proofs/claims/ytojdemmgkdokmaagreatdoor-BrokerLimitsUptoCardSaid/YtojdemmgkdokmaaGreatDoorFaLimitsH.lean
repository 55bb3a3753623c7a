/-
  What the row of BrokerLimits tells of the program, computed. Conditions: none.
-/
import Derived.Test.YtojdemmgkdokmaaGreatDoorPH20
set_option linter.all false
set_option maxRecDepth 100000
set_option maxHeartbeats 40000000
open Go.Proofs.YtojdemmgkdokmaaGreatDoor.Rows renaming brokerLimitsUptoCard -> aA,brokerLimitsUptoRow -> aB,brokerLimitsSpec -> aC
open Go.Proofs.YtojdemmgkdokmaaGreatDoor.Rows.OpenSpec renaming upto -> aF
namespace Go.Proofs.YtojdemmgkdokmaaGreatDoor.brokerLimits
open Go.ChangeShapes Go.WideShapes Go.ChangeAt Go.RowKit Go.Sx Go.Lib Go.ChangeMaps
theorem zQ{a b:Bool}(h:a=true)(A:b=true):(a && b)=true:=by rw[h,A];rfl
noncomputable abbrev FP:=Tryz.pinned.checked.prog
abbrev FC:=aB
theorem fa2:laidOutB FP=true:=kR
theorem fa3:mapsRowed FP=true:=kR
theorem a6x:(FC.inPlace == FP.inPlace 4)=true:=kR
theorem a7b:(FC.unfollowed == FP.unfollowed 4)=true:=kR
theorem a6R:(FC.recurses == FP.recurses 4)=true:=kR
theorem a6q:(FC.named == FP.varsNamed 4)=true:=kR
theorem a6V:FP.stopsHeard=true:=kR
theorem a6K:FP.mayEnter=true:=kR
theorem a6D:(FC.lifted == FP.liftsFinal)=true:=kR
theorem a3p:false=FC.goesBy FP:=kR
theorem a3e:FP.mainIs=some (aA.stood.harness.1,aA.stood.harness.2.toList):=kR
theorem wfT:FC.wfByText (aF aC)=true:=kR
theorem facts:joinedFacts Tryz.pinned.checked.prog 4 Tryz.f4 (aF aC).bare aB=true:=by
 unfold joinedFacts;exact(zQ (zQ (zQ (zQ (zQ (zQ (zQ (zQ (zQ (zQ (zQ (zQ (zQ (zQ (zQ (zQ (zQ (zQ (zQ (zQ (zQ (zQ (zQ (zQ (zQ (zQ (zQ (zQ (zQ (zQ (zQ kR fa2) fa3) kR) kR) kR) kR) kR) kR) a6x) a7b) a6R) a6q) kR) kR) kR) kR) kR) kR) kR) kR) kR) kR) kR) a6V) a6K) a6D) kR) kR) kR) kR) kR)
end Go.Proofs.YtojdemmgkdokmaaGreatDoor.brokerLimits
