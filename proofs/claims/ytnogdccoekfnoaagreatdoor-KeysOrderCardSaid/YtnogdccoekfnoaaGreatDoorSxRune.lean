/-
  Texts turned into rows of runes, and back, in the walks. Own text. Conditions: none.
-/
import Derived.Test.YtnogdccoekfnoaaGreatDoorSxText
namespace Go.Sx
open Go
def rcs (l : List Nat) : List Value := l.map fun (r : Nat) => Value.int .i32 (r : Int)
theorem rcs_len (l : List Nat) : (rcs l).length = l.length := by simp [rcs]
theorem rcs_get {l : List Nat} {sp : List Value} {k c : Nat} (h : l[k]? = some c) : (rcs l ++ sp)[k]? = some (.int .i32 (c : Int)) := by
  obtain ⟨hlt, hg⟩ := List.getElem?_eq_some_iff.1 h
  rw [List.getElem?_append_left (by simpa [rcs] using hlt)]
  simp [rcs, h]
section
variable {cx : Cx} {Q : Qt} {o : Oper} {e : Env} {I : Heap} {H : HL} {C : Ct} {S : World → Prop}
theorem op_toRunes {Sy T E d : Nat} {x : Operand} {l : List UInt8} {rs : List Nat} (hr : Conv.runesFrom ⟨l.toArray⟩ l.length 0 #[] = (rcs rs).toArray) (ho : o.op = .convert Sy T x) (hd : o.dst = some d) (hn : Nat.blt d cx.n = true) (hx : ev e x = some (str l))
    (hS : cx.P.underlying Sy = some .string) (hT : cx.P.underlying T = some (.slice E)) (hE : cx.P.underlying E = some (.int .i32))
    (k : ∀ b c sp, cx.w0.heap.size ≤ b → C ((d, .slice (some ⟨b, 0, none⟩) rs.length c) :: e) I ((b, cel E (rcs rs ++ sp)) :: H)) : OpJ cx Q o e I H C := by
  intro K hK a w ha hst
  unfold Oper.wp
  let cap := (Question.appendCap rs.length 0 E).cut (w.tape w.drawn (.appendCap rs.length 0 E))
  let sp : List Value := List.replicate (cap - rs.length) (.int .i32 0)
  have hsz : (rcs rs).toArray.size = rs.length := by simp [rcs]
  have hrun : (execOp a.eval o).run cx.P w = .ok (.value (.slice (some ⟨w.heap.size, 0, none⟩) rs.length cap))
      { { w with drawn := w.drawn + 1 } with heap := w.heap.push (cel E (rcs rs ++ sp)) } := by
    have h0 : (rcs rs).toArray ++ Array.replicate (cap - rs.length) (Value.int IntKind.i32 0) = (rcs rs ++ sp).toArray := by
      simp [sp]
    simp only [execOp, ho, convert, ha.eval hx, str, Sem.run_bind, run_underlying hS, run_underlying hT, Result.andThen_ok, run_underlying hE, Conv.stringToRunes, size_mk, hr, hsz, run_choose, Question.forced, newRow, run_newObj, Bool.false_eq_true, if_false, Sem.run_pure]
    rw [show (Question.appendCap rs.length 0 E).cut (w.tape w.drawn (Question.appendCap rs.length 0 E)) = cap from rfl, h0]
    rfl
  rw [hrun]
  simp only [Oper.upon, hd]
  exact hK _ _ _ (k w.heap.size cap sp hst.size) _ _ (ha.put hn) ((hst.drewN (w.drawn + 1)).alloc _)
theorem gV_slice {base sz n : Nat} {xs : List Value} {g : Gs} (h : gOk base sz n xs g) : ∃ p c, gV n g = .slice p n c := by
  cases g with
  | none => obtain ⟨rfl, _⟩ := h; exact ⟨none, 0, rfl⟩
  | some q => obtain ⟨b, c, sp⟩ := q; exact ⟨_, c, rfl⟩
/-- The length of a slice that has grown. -/
theorem yl_lenG {base sz n : Nat} {xs : List Value} {g : Gs} (h : gOk base sz n xs g) {x : Operand} {T E : TypeId} (ho : o.op = .call ⟨.builtin .len, #[x], #[T]⟩) (hx : ev e x = some (gV n g)) (hu : cx.P.underlying T = some (.slice E)) : Yld cx o e S (i64 (n : Int)) := by
  obtain ⟨p, c, hp⟩ := gV_slice h
  exact yl_lenSlice ho (hx.trans (congrArg some hp)) hu
/-- One rune as a text. -/
theorem yl_toStr1 {Sy T E : Nat} {x : Operand} (r : Int) {b c : Nat} {cs : List Value} {t : TypeId} {fr : Nat × Nat} (ho : o.op = .convert Sy T x) (hx : ev e x = some (.slice (some ⟨b, 0, none⟩) 1 c))
    (hS : cx.P.underlying Sy = some (.slice E)) (hT : cx.P.underlying T = some .string) (hE : cx.P.underlying E = some (.int .i32)) (hb : Blk S b (.cells cs.toArray t fr)) (hl : cs[0]? = some (.int .i32 r)) :
    Yld cx o e S (str (Utf8.encode r).data.toList) := by
  intro a w ha hs
  have hc : ∀ j v, [Value.int .i32 r][j]? = some v → w.cell? ((⟨b, 0, none⟩ : Addr).add j) = some v := fun j v hj => by
    rw [Addr.add_lit]
    refine cell_of_heap (hb w hs) ?_
    cases j with
    | zero => simp at hj; subst hj; simpa using hl
    | succ j => simp at hj
  have h1 := run_loadCells_list (P := cx.P) (w := w) ⟨b, 0, none⟩ [Value.int .i32 r] hc
  have h2 : (loadCells ⟨b, 0, none⟩ 1).run cx.P w = .ok #[Value.int .i32 r] w := h1
  simp only [execOp, ho, convert, ha.eval hx, Sem.run_bind, run_underlying hS, run_underlying hT, Result.andThen_ok, run_underlying hE, Conv.runesToString, h2]
  simp [str]
end
end Go.Sx
