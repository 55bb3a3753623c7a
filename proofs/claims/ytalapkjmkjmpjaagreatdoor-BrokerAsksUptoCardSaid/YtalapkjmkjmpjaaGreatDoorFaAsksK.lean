/-
  What the row of BrokerAsks tells of the program, computed. Conditions: none.
-/
import Derived.Test.YtalapkjmkjmpjaaGreatDoorPK22
set_option linter.all false
set_option maxRecDepth 100000
set_option maxHeartbeats 40000000
open Go.Proofs.YtalapkjmkjmpjaaGreatDoor.Rows renaming brokerAsksUptoCard -> aA,brokerAsksUptoRow -> aB,brokerAsksSpec -> aC
open Go.Func renaming goes -> aF
open Go.Proofs.YtalapkjmkjmpjaaGreatDoor.Rows.OpenSpec renaming upto -> aG
namespace Go.Proofs.YtalapkjmkjmpjaaGreatDoor.brokerAsks
open Go.ChangeShapes Go.WideShapes Go.ChangeAt Go.RowKit Go.Sx Go.Lib Go.ChangeMaps
theorem EO{a b:Bool}(A:a=true)(G:b=true):(a && b)=true:=by rw[A,G];rfl
noncomputable abbrev FP:=Tryz.pinned.checked.prog
abbrev FC:=aB
theorem fa2:laidOutB FP=true:=kR
theorem fa3:mapsRowed FP=true:=kR
theorem d1J:(FC.inPlace == FP.inPlace 3)=true:=kR
theorem d1Q:(FC.unfollowed == FP.unfollowed 3)=true:=kR
theorem d1M:(FC.recurses == FP.recurses 3)=true:=kR
theorem d1D:(FC.named == FP.varsNamed 3)=true:=kR
theorem d1R:FP.stopsHeard=true:=kR
theorem d1N:FP.mayEnter=true:=kR
theorem d1F:(FC.lifted == FP.liftsFinal)=true:=kR
theorem c8B{P:Program}(h:P.funcs.toList.any aF=false)(c:OpenClaim):false=c.goesBy P:=by
 have A:∀g:FuncId,(P.funcs[g]?).any aF=false:=fun g=>by
  cases e:P.funcs[g]? with
  |none=>rfl
  |some fn=>exact yN.2 (List.any_eq_false.1 h fn (Array.mem_toList_iff.2 (Array.mem_of_getElem? e)))
 have G:P.funcs.any aF=false:=by rw[←Array.any_toList];exact h
 have M:P.goes=fun _=>false:=funext fun f=>by simp only[Program.goes,A,G,Bool.and_false,Bool.or_false];simp
 simp only[OpenClaim.goesBy,Program.goesAt,Program.goesFrom,M];have (o:Option FuncId):o.any (fun _=>false)=false:=by cases o<;>rfl
 rw[this]
 split<;>simp
theorem d1P:FP.funcs.toList.any aF=false:=kR
theorem d1n:false=FC.goesBy FP:=c8B d1P FC
theorem d1v:FP.mainIs=some (aA.stood.harness.1,aA.stood.harness.2.toList):=kR
theorem wfT:FC.wfByText (aG aC)=true:=kR
theorem facts:joinedFacts Tryz.pinned.checked.prog 3 Tryz.f3 (aG aC).bare aB=true:=by
 unfold joinedFacts;exact(EO (EO (EO (EO (EO (EO (EO (EO (EO (EO (EO (EO (EO (EO (EO (EO (EO (EO (EO (EO (EO (EO (EO (EO (EO (EO (EO (EO (EO (EO (EO kR fa2) fa3) kR) kR) kR) kR) kR) kR) d1J) d1Q) d1M) d1D) kR) kR) kR) kR) kR) kR) kR) kR) kR) kR) kR) d1R) d1N) d1F) kR) kR) kR) kR) kR)
end Go.Proofs.YtalapkjmkjmpjaaGreatDoor.brokerAsks
