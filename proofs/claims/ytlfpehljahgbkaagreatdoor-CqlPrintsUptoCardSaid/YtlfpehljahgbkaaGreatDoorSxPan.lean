/-
  Panics. Own text. Conditions: none.
-/
import Derived.Test.YtlfpehljahgbkaaGreatDoorSxPtr
namespace Go.Sx
open Go
section
variable {cx : Cx} {Q : Qt} {e : Env} {I : Heap} {H : HL} {o : Oper} {C : Ct}
theorem op_panic {x : Operand} {T : TypeId} {v : Value} (ho : o.op = .panic x) (hx : ev e x = some (.iface T v)) (k : Ej cx Q (.panic [{ v := .iface T v, recovered := false }]) e I H) : OpJ cx Q o e I H C := by
  intro K hK a w ha hs
  unfold Oper.wp
  have : (execOp a.eval o).run cx.P w = .halt (.panic (.iface T v)) w := by
    simp [execOp, ho, ha.eval hx, Instr.panic, goPanic]
  rw [this]
  exact k a w ha hs
end
end Go.Sx
