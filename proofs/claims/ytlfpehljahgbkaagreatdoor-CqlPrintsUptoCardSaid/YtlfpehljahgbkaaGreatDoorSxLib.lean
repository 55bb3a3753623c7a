/-
  The kit's contracts as contracts of this logic; scopes; iterators over strings; a rune as a string. Own text. Conditions: none.
-/
import Derived.Test.YtlfpehljahgbkaaGreatDoorSxMore
import Derived.Laws.RangeAny
import Derived.Scope
import Derived.Below
namespace Go.Sx
open Go Go.RowKit
theorem St.below {w w' : World} {I : Heap} (hr : Ready I [] w) (h : Below w.heap.size w w') : St w [] I I [] w' := by
  have hlt : ∀ {b : Nat} {o' : Obj}, w.heap[b]? = some o' → b < w.heap.size := fun {b o'} hb => by
    rcases Nat.lt_or_ge b w.heap.size with h' | h'
    · exact h'
    · simp [Array.getElem?_eq_none h'] at hb
  exact ⟨h.os, h.tape, h.output, h.size, fun b hb _ => h.block b hb, fun b o hb => by rw [h.block b (hlt (hr.1 b o hb))]; exact hr.1 b o hb, by simp, by simp, by simp, by simp, fun _ _ => rfl, Le.refl _⟩
/-- A contract of the kit, which gives back a value and writes nothing that was there. -/
theorem Pure.of_below {P : Program} {f : FuncId} {args : List Value} {I : Heap} {v : Value} (he : Enters P f) (h : ∀ w, Ready I [] w → Calls P f args.toArray w fun e w' => e = .returned v ∧ Below w.heap.size w w') : Pure P f args I v :=
  ⟨he, fun w hw => (h w hw).mono fun _ _w' ⟨h1, h2⟩ => ⟨I, [], St.below hw h2, h1, rfl, rfl⟩⟩
theorem Pure.of_same {P : Program} {f : FuncId} {args : List Value} {I : Heap} {v : Value} (he : Enters P f) (h : ∀ w, Ready I [] w → Calls P f args.toArray w fun e w' => e = .returned v ∧ w' = w) : Pure P f args I v :=
  Pure.of_below he fun w hw => (h w hw).mono fun _ _ ⟨h1, h2⟩ => ⟨h1, h2 ▸ Below.refl _ _⟩
theorem Enters.of {P : Program} {f : FuncId} {fn : Func} (h : P.funcs[f]? = some fn) (h1 : fn.name ≠ "runtime.NumGoroutine") (h2 : fn.body.isNone = false) : Enters P f := ⟨fn, h, h1, h2⟩
section
variable {cx : Cx} {Q : Qt} {e : Env} {I : Heap} {H : HL} {o : Oper} {C : Ct} {S : World → Prop}
theorem Cj.scope {c : Code} (h : Cj cx (Exit.noGoto Q) c e I H) : Cj cx Q (.scope c) e I H := fun a w ha hs => wp_scope_straight (h a w ha hs)
theorem Ej.scNormal (h : Ej cx Q .normal e I H) : Ej cx (Exit.noGoto Q) .normal e I H := h
theorem Ej.scRet (h : Ej cx Q .ret e I H) : Ej cx (Exit.noGoto Q) .ret e I H := h
theorem Ej.scExit {id : Nat} (h : Ej cx Q (.exit id) e I H) : Ej cx (Exit.noGoto Q) (.exit id) e I H := h
theorem Ej.scPanic {ch : List PanicEntry} (h : Ej cx Q (.panic ch) e I H) : Ej cx (Exit.noGoto Q) (.panic ch) e I H := h
theorem Cj.label {l : Nat} (h : Ej cx Q .normal e I H) : Cj cx Q (.label l) e I H := fun a w ha hs => wp_label (h a w ha hs)
/-- An iterator over a string: a block of its own. -/
theorem op_range {T d : Nat} {x : Operand} {s : ByteArray} (ho : o.op = .range T x) (hd : o.dst = some d) (hn : Nat.blt d cx.n = true) (hx : ev e x = some (.string s)) (hu : cx.P.underlying T = some .string)
    (k : ∀ b, cx.w0.heap.size ≤ b → C ((d, ptr b 0) :: e) I ((b, .stringIter s 0) :: H)) : OpJ cx Q o e I H C := by
  intro K hK a w ha hs
  unfold Oper.wp
  have : (execOp a.eval o).run cx.P w = .ok (.value (ptr w.heap.size 0)) { w with heap := w.heap.push (.stringIter s 0) } := by
    simp only [execOp, ho, ha.eval hx, Sem.run_bind, run_range_string w T s hu, Result.andThen_ok, Sem.run_pure]
    rfl
  rw [this]
  simp only [Oper.upon, hd]
  exact hK _ _ _ (k _ hs.size) _ _ (ha.put hn) (hs.alloc _)
theorem op_next {d b pos : Nat} {x : Operand} {s : ByteArray} {H' : HL} (i : Nat) (ho : o.op = .next x true) (hd : o.dst = some d) (hn : Nat.blt d cx.n = true) (hx : ev e x = some (ptr b 0)) (hH : H[i]? = some (b, .stringIter s pos)) (hp : pos < s.size)
    (hH' : LSet H i (b, .stringIter s (pos + (Utf8.decode s pos).2)) H') (k : C ((d, .tuple #[.bool true, .int .i64 pos, .int .i32 (Utf8.decode s pos).1]) :: e) I H') : OpJ cx Q o e I H C := by
  intro K hK a w ha hs
  unfold Oper.wp
  have hb := hs.own _ (List.mem_of_getElem? hH)
  have : (execOp a.eval o).run cx.P w = .ok (.value (.tuple #[.bool true, .int .i64 pos, .int .i32 (Utf8.decode s pos).1])) (World.block w b (.stringIter s (pos + (Utf8.decode s pos).2))) := by
    simp only [execOp, ho, ha.eval hx, Instr.next, getObj, setObj, Sem.run_bind, Sem.run, hb, Result.andThen, hp, if_true]
    simp [goInt, World.block]
  rw [this]
  simp only [Oper.upon, hd]
  exact hK _ _ _ k _ _ (ha.put hn) (hs.block hH hH')
theorem op_nextEnd {d b pos : Nat} {x : Operand} {s : ByteArray} (i : Nat) (ho : o.op = .next x true) (hd : o.dst = some d) (hn : Nat.blt d cx.n = true) (hx : ev e x = some (ptr b 0)) (hH : H[i]? = some (b, .stringIter s pos)) (hp : ¬ pos < s.size)
    (k : C ((d, .tuple #[.bool false]) :: e) I H) : OpJ cx Q o e I H C := by
  intro K hK a w ha hs
  unfold Oper.wp
  have hb := hs.own _ (List.mem_of_getElem? hH)
  have : (execOp a.eval o).run cx.P w = .ok (.value (.tuple #[.bool false])) w := by
    simp [execOp, ho, ha.eval hx, Instr.next, getObj, Sem.run_bind, Sem.run, hb, Result.andThen, hp]
  rw [this]
  simp only [Oper.upon, hd]
  exact hK _ _ _ k _ _ (ha.put hn) hs
theorem yl_runeStr {Sy T : Nat} {x : Operand} {k : IntKind} {r : Int} (ho : o.op = .convert Sy T x) (hx : ev e x = some (.int k r)) (hS : cx.P.underlying Sy = some (.int k)) (hT : cx.P.underlying T = some .string) : Yld cx o e S (str (Utf8.encode r).data.toList) := by
  intro a w ha _
  simp [execOp, ho, ha.eval hx, convert, run_underlying hS, run_underlying hT, str, Conv.intToString]
end
end Go.Sx
