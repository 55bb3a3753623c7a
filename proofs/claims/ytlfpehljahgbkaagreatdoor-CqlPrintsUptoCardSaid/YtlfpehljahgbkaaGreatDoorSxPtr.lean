/-
  Pointers compared and turned, a function of the model's own, bytes seen as a string. Own text. Conditions: none.
-/
import Derived.Test.YtlfpehljahgbkaaGreatDoorSxLib
import Derived.Lib.Builder
import Derived.Lib.UnsafeStr
import Derived.Laws.Externs
namespace Go.Sx
open Go
theorem shape_of_heap {w : World} {b : Nat} {cs : Array Value} {t : TypeId} {fr : Nat × Nat} (h : w.heap[b]? = some (.cells cs t fr)) : w.shape? b = some (t, cs.size) := by simp [World.shape?, h]
theorem Ctr.still {P : Program} {f : FuncId} {args : List Value} {I : Heap} {H : HL} {post : Ending → HL → Prop} (h : Ctr P f args I H (fun e _ H' => post e H')) : Ctr P f args I H (fun e I' H' => I = I' ∧ post e H') := h.forget fun _ _ _ _ hp => ⟨rfl, hp⟩
theorem GH_drop {b t : Nat × Obj} {G : HL} : List.Sublist [t] (b :: t :: G) := .cons _ (.cons_cons _ (List.nil_sublist _))
theorem gV_cells (n : Nat) (g : Gs) : (gV n g).cells = [gV n g].toArray := by cases g <;> rfl
theorem gV_one (n : Nat) (g : Gs) : [gV n g].all Value.oneCell' = true := by cases g <;> rfl
section
variable {cx : Cx} {Q : Qt} {e : Env} {I : Heap} {H : HL} {o : Oper} {C : Ct} {S : World → Prop}
theorem run_eqlNil {P : Program} {w : World} {T te : TypeId} {j : TypeInfo} (p : Option Addr) (hT : P.underlying T = some (.pointer te)) (_hj : P.info? te = some j) : (binOp .eql T (.pointer p) (.pointer none)).run P w = .ok (.bool p.isNone) w := by
  have h : ∀ d : Nat, (Op.equalIn (d + 1) T (.pointer p) (.pointer none)).run P w = .ok p.isNone w := fun d => by
    cases p <;> simp [Op.equalIn, run_underlying hT, sizeOf, typeInfo, samePointer]
  simp only [binOp]
  simp [Op.equal, Op.maxDepth, h 9999]
theorem yl_eqlNil {x y : Operand} {T U te : Nat} (p : Option Addr) (ho : o.op = .binOp .eql T x y U) (hx : ev e x = some (.pointer p)) (hy : ev e y = some (.pointer none)) (hT : cx.P.underlying T = some (.pointer te)) (hj0 : (cx.P.info? te).isSome = true) : Yld cx o e S (.bool p.isNone) := by
  intro a w ha _
  obtain ⟨j, hj⟩ := Option.isSome_iff_exists.1 hj0
  have hb := run_eqlNil (P := cx.P) (w := w) p hT hj
  have hg : eqGuard .eql T x y (.pointer p) (.pointer none) = pure () := rfl
  simp [execOp, ho, ha.eval hx, ha.eval hy, hb, hg]
theorem yl_neqSame {x y : Operand} {T U te b off : Nat} (ho : o.op = .binOp .neq T x y U) (hx : ev e x = some (ptr b off)) (hy : ev e y = some (ptr b off)) (hT : cx.P.underlying T = some (.pointer te)) (hj0 : (cx.P.info? te).isSome = true) : Yld cx o e S (.bool false) := by
  intro a w ha _
  obtain ⟨j, hj⟩ := Option.isSome_iff_exists.1 hj0
  have hb := Lib.run_neq_ptr_same (P := cx.P) w ⟨b, off, none⟩ hT hj
  have hg : eqGuard .neq T x y (ptr b off) (ptr b off) = pure () := rfl
  simp [execOp, ho, ha.eval hx, ha.eval hy, hb, hg]
theorem yl_toUnsafe {x : Operand} {Sy T te b off : Nat} (z : Nat) {cs : List Value} {t : TypeId} {fr : Nat × Nat} (ho : o.op = .convert Sy T x) (hx : ev e x = some (ptr b off)) (hS : cx.P.underlying Sy = some (.pointer te)) (hT : cx.P.underlying T = some .unsafePointer) (hj0 : (cx.P.info? te).map (·.size) = some (z + 1))
    (hb : Blk S b (.cells cs.toArray t fr)) (hoff : off < cs.length) : Yld cx o e S (ptr b off) := by
  intro a w ha hs
  obtain ⟨j, hj, hz⟩ := Option.map_eq_some_iff.1 hj0
  have hz : j.size ≠ 0 := by omega
  have h := Lib.run_to_unsafe (P := cx.P) (w := w) ⟨b, off, none⟩ hS hT hj hz (shape_of_heap (hb w hs)) (by simpa using hoff)
  simp [execOp, ho, ha.eval hx, h]
theorem yl_fromUnsafe {x : Operand} {Sy T te b off : Nat} {cs : List Value} {t : TypeId} {fr : Nat × Nat} (ho : o.op = .convert Sy T x) (hx : ev e x = some (ptr b off)) (hS : cx.P.underlying Sy = some .unsafePointer) (hT : cx.P.underlying T = some (.pointer te)) (hj0 : (cx.P.info? te).isSome = true)
    (hb : Blk S b (.cells cs.toArray t fr)) (hl : liesAt cx.P cx.P.depth t (cs.length / cx.P.cellsOf t) off te 1 = true) : Yld cx o e S (ptr b off) := by
  intro a w ha hs
  obtain ⟨j, hj⟩ := Option.isSome_iff_exists.1 hj0
  have h := Lib.run_from_unsafe (P := cx.P) (w := w) ⟨b, off, none⟩ hS hT hj (shape_of_heap (hb w hs)) (by simpa using hl)
  simp [execOp, ho, ha.eval hx, h]
/-- A call of a function of the model's own that hands back its argument. -/
theorem yl_noEscape {f : Nat} {fn : Func} {fo x : Operand} {ts : Array TypeId} {v : Value} (ho : o.op = .call ⟨.value fo, #[x], ts⟩) (hf : ev e fo = some (.func (.func f) #[] #[])) (hx : ev e x = some v) (h1 : cx.P.funcs[f]? = some fn) (h2 : (fn.name == "runtime.NumGoroutine") = false) (h3 : fn.body.isNone = true)
    (h4 : Extern.findNext fn = none) (h5 : Extern.find fn = some Extern.AbiNoEscape.same) : Yld cx o e S v := by
  intro a w ha _
  have h := run_callFunc_extern h1 h2 h3 h4 h5 #[v] w
  simp [execOp, ho, resolve, invoke, ha.eval hf, ha.eval hx, h, Deferred.ofValue, Lib.run_noEscape, Result.andThen]
theorem yl_sliceData {x : Operand} {T b off n c : Nat} (ho : o.op = .call ⟨.builtin .unsafeSliceData, #[x], #[T]⟩) (hx : ev e x = some (.slice (some ⟨b, off, none⟩) n c)) (hc : c ≠ 0) : Yld cx o e S (ptr b off) := by
  intro a w ha _
  have h := fun ty => Lib.run_unsafeSliceData_row (P := cx.P) (w := w) #[T] ty ⟨b, off, none⟩ n c hc
  simp [execOp, ho, resolve, invoke, ha.eval hx, builtin, h]
theorem yl_sliceDataNil {x : Operand} {T n c : Nat} (ho : o.op = .call ⟨.builtin .unsafeSliceData, #[x], #[T]⟩) (hx : ev e x = some (.slice none n c)) : Yld cx o e S (.pointer none) := by
  intro a w ha _
  have h := fun ty => Lib.run_unsafeSliceData_nil (P := cx.P) (w := w) #[T] ty n c
  simp [execOp, ho, resolve, invoke, ha.eval hx, builtin, h]
theorem yl_unsafeStringNone {x y : Operand} {p : Option Addr} {T U : Nat} (ho : o.op = .call ⟨.builtin .unsafeString, #[x, y], #[T, U]⟩) (hx : ev e x = some (.pointer p)) (hy : ev e y = some (i64 0)) : Yld cx o e S (str []) := by
  intro a w ha _
  have h := fun ty => Lib.run_unsafeString_none (P := cx.P) (w := w) T U ty p
  simp [execOp, ho, resolve, invoke, ha.eval hx, ha.eval hy, builtin, h]
  rfl
/-- Bytes seen as a string: they are frozen. -/
theorem op_unsafeString {x y : Operand} {T U E d b : Nat} (i : Nat) (l : List UInt8) {cs : List Value} {H' : HL} (ho : o.op = .call ⟨.builtin .unsafeString, #[x, y], #[T, U]⟩) (hd : o.dst = some d) (hn : Nat.blt d cx.n = true) (hx : ev e x = some (ptr b 0)) (hy : ev e y = some (i64 l.length))
    (hT : cx.P.underlying T = some (.pointer E)) (hE : cx.P.cellsOf E = 1) (hH : H[i]? = some (b, cel E (bcs l ++ cs))) (h0 : l ≠ []) (h63 : l.length ≤ 9223372036854775807) (hH' : LSet H i (b, .cells (bcs l ++ cs).toArray E (0, l.length)) H') (k : C ((d, str l) :: e) I H') : OpJ cx Q o e I H C := by
  intro K hK a w ha hs
  unfold Oper.wp
  have hb := hs.own _ (List.mem_of_getElem? hH)
  have h := fun ty => Lib.run_unsafeString_row (P := cx.P) (w := w) T U ty E hT hE b (bcs l ++ cs).length (by rw [shape_of_heap hb]; simp) l h0 (by rw [List.length_append, bcs_len]; omega) h63 (fun j x hj => by
    rw [Addr.add_lit]
    refine cell_of_heap hb ?_
    rw [List.getElem?_append_left (by rw [bcs_len, Nat.zero_add]; exact (List.getElem?_eq_some_iff.1 hj).1)]
    simp [bcs, hj])
  have hfr : w.freeze ⟨b, 0, none⟩ l.length = World.block w b (.cells (bcs l ++ cs).toArray E (0, l.length)) := by
    have hl : l.length ≠ 0 := by simpa using h0
    unfold World.freeze World.block
    rw [if_neg hl]
    congr 1
    apply Array.ext_getElem?
    intro k
    rw [Array.getElem?_modify, Array.getElem?_setIfInBounds]
    by_cases hk : b = k
    · subst hk
      have hlt : b < w.heap.size := hs.lt (List.mem_of_getElem? hH)
      rw [if_pos rfl, if_pos rfl, if_pos hlt, show w.heap[b]? = _ from hb]
      simp [cel]
    · simp [hk]
  have : (execOp a.eval o).run cx.P w = .ok (.value (str l)) (World.block w b (.cells (bcs l ++ cs).toArray E (0, l.length))) := by
    simp [execOp, ho, resolve, invoke, ha.eval hx, ha.eval hy, builtin, h, hfr, str]
  rw [this]
  simp only [Oper.upon, hd]
  exact hK _ _ _ k _ _ (ha.put hn) (hs.block hH hH')
end
end Go.Sx
