/-
  A map of strings with one entry. Own text. Conditions: none.
-/
import Derived.Test.YtlfpehljahgbkaaGreatDoorSxPan
namespace Go.Sx
open Go
theorem run_checkKey {P : Program} {K : TypeId} (hK : P.underlying K = some .string) (b : Bool) (v : List UInt8) (w : World) : (Instr.checkKey b 10000 K (str v)).run P w = .ok () w := by
  have h : ∀ n, (Instr.checkKey b (n + 1) K (str v)).run P w = .ok () w := fun n => by simp [Instr.checkKey, run_underlying hK, str]
  exact h 9999
section
variable {cx : Cx} {Q : Qt} {e : Env} {I : Heap} {H : HL} {o : Oper} {C : Ct} {S : World → Prop}
def ent (k : List UInt8) (v : Value) : MapEntry := { key := str k, val := v, born := 0 }
theorem op_makeMap {T d : Nat} (ho : o.op = .makeMap T none) (hd : o.dst = some d) (hn : Nat.blt d cx.n = true) (k : ∀ b, cx.w0.heap.size ≤ b → C ((d, .map (some b)) :: e) I ((b, .map #[] 0) :: H)) : OpJ cx Q o e I H C := by
  intro K hK a w ha hs
  unfold Oper.wp
  have : (execOp a.eval o).run cx.P w = .ok (.value (.map (some w.heap.size))) { w with heap := w.heap.push (.map #[] 0) } := by
    simp [execOp, ho, Instr.makeMap, newObj, Sem.run]
  rw [this]
  simp only [Oper.upon, hd]
  exact hK _ _ _ (k _ hs.size) _ _ (ha.put hn) (hs.alloc _)
theorem op_insert1 {T K E b : Nat} {m x y : Operand} {k : List UInt8} {v : Value} {H' : HL} (i : Nat) (ho : o.op = .insert T m x y) (hd : o.dst = none) (hm : ev e m = some (.map (some b))) (hx : ev e x = some (str k)) (hy : ev e y = some v) (hT : cx.P.underlying T = some (.map K E)) (hK : cx.P.underlying K = some .string)
    (hH : H[i]? = some (b, .map #[] 0)) (hH' : LSet H i (b, .map #[ent k v] 1) H') (kk : C e I H') : OpJ cx Q o e I H C := by
  intro Kk hKk a w ha hs
  unfold Oper.wp
  have hb := hs.own _ (List.mem_of_getElem? hH)
  have hck := fun b' => run_checkKey (P := cx.P) hK b' k w
  have : (execOp a.eval o).run cx.P w = .ok .skip (World.block w b (.map #[ent k v] 1)) := by
    simp [hck, execOp, ho, ha.eval hm, ha.eval hx, ha.eval hy, Instr.mapUpdate, run_underlying hT, run_underlying hK, getObj, setObj, Sem.run, hb, Instr.findKey, Instr.findNow, World.block, ent]
  rw [this]
  simp only [Oper.upon, hd]
  exact hKk _ _ _ kk _ _ ha.putNone (hs.block hH hH')
theorem yl_lookupHit {T K E b c : Nat} {m x : Operand} {k : List UInt8} {v : Value} (ho : o.op = .lookup T m x true) (hm : ev e m = some (.map (some b))) (hx : ev e x = some (str k)) (hT : cx.P.underlying T = some (.map K E)) (hK : cx.P.underlying K = some .string)
    (hb : Blk S b (.map #[ent k v] c)) : Yld cx o e S (.tuple #[v, .bool true]) := by
  intro a w ha hs
  have h := hb w hs
  have hck := fun b' => run_checkKey (P := cx.P) hK b' k w
  have hs1 : Instr.sameNow .string (str k) (str k) = some true := by
    simp only [Instr.sameNow, str, Option.some.injEq]
    show (k.toArray == k.toArray) = true
    simp
  simp [execOp, ho, ha.eval hm, ha.eval hx, Instr.lookup, run_underlying hT, run_underlying hK, getObj, Sem.run, h, hck, Instr.findKey, Instr.findNow, hs1, ent]
theorem yl_lookupMiss {T K E b c : Nat} {m x : Operand} {k y : List UInt8} {v z : Value} (hne : y ≠ k) (ho : o.op = .lookup T m x true) (hm : ev e m = some (.map (some b))) (hx : ev e x = some (str y)) (hT : cx.P.underlying T = some (.map K E)) (hK : cx.P.underlying K = some .string) (hz : ∀ w, (zeroValue E).run cx.P w = .ok z w)
    (hb : Blk S b (.map #[ent k v] c)) : Yld cx o e S (.tuple #[z, .bool false]) := by
  intro a w ha hs
  have h := hb w hs
  have hck := fun b' => run_checkKey (P := cx.P) hK b' y w
  have hs1 : Instr.sameNow .string (str y) (str k) = some false := by
    simp only [Instr.sameNow, str, Option.some.injEq]
    show (y.toArray == k.toArray) = false
    simpa using hne
  simp [execOp, ho, ha.eval hm, ha.eval hx, Instr.lookup, run_underlying hT, run_underlying hK, getObj, Sem.run, h, hck, Instr.findKey, Instr.findNow, hs1, ent, hz]
end
end Go.Sx
