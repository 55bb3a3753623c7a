/-
  Contracts of the kit taken over; iterators over strings; pointers; panics; maps with one entry; deferred calls; arrays, made slices, copies. Own text. Conditions: none.
-/
import Derived.Test.YtnogdccoekfnoaaGreatDoorSx
import Derived.Laws.RangeAny
import Derived.Scope
import Derived.Below
import Derived.Lib.Builder
import Derived.Lib.UnsafeStr
import Derived.Laws.Externs
import Derived.Recover
import Derived.Laws.MakeOwn
import Derived.LoopN
namespace Go.Sx
open Go Go.RowKit
theorem St.below {w w' : World} {I : Heap} (hr : Ready I [] w) (h : Below w.heap.size w w') : St w [] I I [] w' := by
  have hlt : ∀ {b : Nat} {o' : Obj}, w.heap[b]? = some o' → b < w.heap.size := fun {b o'} hb => by
    rcases Nat.lt_or_ge b w.heap.size with h' | h'
    · exact h'
    · simp [Array.getElem?_eq_none h'] at hb
  exact ⟨h.os, h.tape, h.output, h.size, fun b hb _ => h.block b hb, fun b o hb => by rw [h.block b (hlt (hr.1 b o hb))]; exact hr.1 b o hb, by simp, by simp, by simp, by simp, fun _ _ => rfl, Le.refl _⟩
/-- A contract of the kit, which gives back a value and writes nothing that was there. -/
theorem Pure.of_below {P : Program} {f : FuncId} {args : List Value} {I : Heap} {v : Value} (he : Enters P f) (h : ∀ w, Ready I [] w → Calls P f args.toArray w fun e w' => e = .returned v ∧ Below w.heap.size w w') : Pure P f args I v :=
  ⟨he, fun w hw => (h w hw).mono fun _ _w' ⟨h1, h2⟩ => ⟨I, [], St.below hw h2, h1, rfl, rfl⟩⟩
theorem Pure.of_same {P : Program} {f : FuncId} {args : List Value} {I : Heap} {v : Value} (he : Enters P f) (h : ∀ w, Ready I [] w → Calls P f args.toArray w fun e w' => e = .returned v ∧ w' = w) : Pure P f args I v :=
  Pure.of_below he fun w hw => (h w hw).mono fun _ _ ⟨h1, h2⟩ => ⟨h1, h2 ▸ Below.refl _ _⟩
theorem Enters.of {P : Program} {f : FuncId} {fn : Func} (h : P.funcs[f]? = some fn) (h1 : fn.name ≠ "runtime.NumGoroutine") (h2 : fn.body.isNone = false) : Enters P f := ⟨fn, h, h1, h2⟩
section
variable {cx : Cx} {Q : Qt} {e : Env} {I : Heap} {H : HL} {o : Oper} {C : Ct} {S : World → Prop}
theorem Cj.scope {c : Code} (h : Cj cx (Exit.noGoto Q) c e I H) (hr : cx.rd = none := by rfl) : Cj cx Q (.scope c) e I H := Cj.of_wp hr fun _ _ ha hs => wp_scope_straight (h.wp hr ha hs)
theorem Ej.scNormal (h : Ej cx Q .normal e I H) : Ej cx (Exit.noGoto Q) .normal e I H := h
theorem Ej.scRet (h : Ej cx Q .ret e I H) : Ej cx (Exit.noGoto Q) .ret e I H := h
theorem Ej.scExit {id : Nat} (h : Ej cx Q (.exit id) e I H) : Ej cx (Exit.noGoto Q) (.exit id) e I H := h
theorem Ej.scPanic {ch : List PanicEntry} (h : Ej cx Q (.panic ch) e I H) : Ej cx (Exit.noGoto Q) (.panic ch) e I H := h
theorem Cj.label {l : Nat} (h : Ej cx Q .normal e I H) : Cj cx Q (.label l) e I H := fun a w ha hs => wpIn_label (h a w ha hs)
/-- An iterator over a string: a block of its own. -/
theorem op_range {T d : Nat} {x : Operand} {s : ByteArray} (ho : o.op = .range T x) (hd : o.dst = some d) (hn : Nat.blt d cx.n = true) (hx : ev e x = some (.string s)) (hu : cx.P.underlying T = some .string)
    (k : ∀ b, cx.w0.heap.size ≤ b → C ((d, ptr b 0) :: e) I ((b, .stringIter s 0) :: H)) : OpJ cx Q o e I H C := by
  intro K hK a w ha hs
  unfold Oper.wp
  have : (execOp a.eval o).run cx.P w = .ok (.value (ptr w.heap.size 0)) { w with heap := w.heap.push (.stringIter s 0) } := by
    simp only [execOp, ho, ha.eval hx, Sem.run_bind, run_range_string w T s hu, Result.andThen_ok, Sem.run_pure]
    rfl
  rw [this]
  simp only [Oper.upon, hd]
  exact hK _ _ _ (k _ hs.size) _ _ (ha.put hn) (hs.alloc _)
theorem op_next {d b pos : Nat} {x : Operand} {s : ByteArray} {H' : HL} (i : Nat) (ho : o.op = .next x true) (hd : o.dst = some d) (hn : Nat.blt d cx.n = true) (hx : ev e x = some (ptr b 0)) (hH : H[i]? = some (b, .stringIter s pos)) (hp : pos < s.size)
    (hH' : LSet H i (b, .stringIter s (pos + (Utf8.decode s pos).2)) H') (k : C ((d, .tuple #[.bool true, .int .i64 pos, .int .i32 (Utf8.decode s pos).1]) :: e) I H') : OpJ cx Q o e I H C := by
  intro K hK a w ha hs
  unfold Oper.wp
  have hb := hs.own _ (List.mem_of_getElem? hH)
  have : (execOp a.eval o).run cx.P w = .ok (.value (.tuple #[.bool true, .int .i64 pos, .int .i32 (Utf8.decode s pos).1])) (World.block w b (.stringIter s (pos + (Utf8.decode s pos).2))) := by
    simp only [execOp, ho, ha.eval hx, Instr.next, getObj, setObj, Sem.run_bind, Sem.run, hb, Result.andThen, hp, if_true]
    simp [goInt, World.block]
  rw [this]
  simp only [Oper.upon, hd]
  exact hK _ _ _ k _ _ (ha.put hn) (hs.block hH hH')
theorem op_nextEnd {d b pos : Nat} {x : Operand} {s : ByteArray} (i : Nat) (ho : o.op = .next x true) (hd : o.dst = some d) (hn : Nat.blt d cx.n = true) (hx : ev e x = some (ptr b 0)) (hH : H[i]? = some (b, .stringIter s pos)) (hp : ¬ pos < s.size)
    (k : C ((d, .tuple #[.bool false]) :: e) I H) : OpJ cx Q o e I H C := by
  intro K hK a w ha hs
  unfold Oper.wp
  have hb := hs.own _ (List.mem_of_getElem? hH)
  have : (execOp a.eval o).run cx.P w = .ok (.value (.tuple #[.bool false])) w := by
    simp [execOp, ho, ha.eval hx, Instr.next, getObj, Sem.run_bind, Sem.run, hb, Result.andThen, hp]
  rw [this]
  simp only [Oper.upon, hd]
  exact hK _ _ _ k _ _ (ha.put hn) hs
theorem yl_runeStr {Sy T : Nat} {x : Operand} {k : IntKind} {r : Int} (ho : o.op = .convert Sy T x) (hx : ev e x = some (.int k r)) (hS : cx.P.underlying Sy = some (.int k)) (hT : cx.P.underlying T = some .string) : Yld cx o e S (str (Utf8.encode r).data.toList) := by
  intro a w ha _
  simp [execOp, ho, ha.eval hx, convert, run_underlying hS, run_underlying hT, str, Conv.intToString]
end
end Go.Sx
namespace Go.Sx
open Go
theorem shape_of_heap {w : World} {b : Nat} {cs : Array Value} {t : TypeId} {fr : Nat × Nat} (h : w.heap[b]? = some (.cells cs t fr)) : w.shape? b = some (t, cs.size) := by simp [World.shape?, h]
theorem Ctr.still {P : Program} {f : FuncId} {args : List Value} {I : Heap} {H : HL} {post : Ending → HL → Prop} (h : Ctr P f args I H (fun e _ H' => post e H')) : Ctr P f args I H (fun e I' H' => I = I' ∧ post e H') := h.forget fun _ _ _ _ hp => ⟨rfl, hp⟩
theorem GH_drop {b t : Nat × Obj} {G : HL} : List.Sublist [t] (b :: t :: G) := .cons _ (.cons_cons _ (List.nil_sublist _))
theorem gV_cells (n : Nat) (g : Gs) : (gV n g).cells = [gV n g].toArray := by cases g <;> rfl
theorem gV_one (n : Nat) (g : Gs) : [gV n g].all Value.oneCell' = true := by cases g <;> rfl
section
variable {cx : Cx} {Q : Qt} {e : Env} {I : Heap} {H : HL} {o : Oper} {C : Ct} {S : World → Prop}
theorem run_eqlNil {P : Program} {w : World} {T te : TypeId} {j : TypeInfo} (p : Option Addr) (hT : P.underlying T = some (.pointer te)) (_hj : P.info? te = some j) : (binOp .eql T (.pointer p) (.pointer none)).run P w = .ok (.bool p.isNone) w := by
  have h : ∀ d : Nat, (Op.equalIn (d + 1) T (.pointer p) (.pointer none)).run P w = .ok p.isNone w := fun d => by
    cases p <;> simp [Op.equalIn, run_underlying hT, sizeOf, typeInfo, samePointer]
  simp only [binOp]
  simp [Op.equal, Op.maxDepth, h 9999]
theorem yl_eqlNil {x y : Operand} {T U te : Nat} (p : Option Addr) (ho : o.op = .binOp .eql T x y U) (hx : ev e x = some (.pointer p)) (hy : ev e y = some (.pointer none)) (hT : cx.P.underlying T = some (.pointer te)) (hj0 : (cx.P.info? te).isSome = true) : Yld cx o e S (.bool p.isNone) := by
  intro a w ha _
  obtain ⟨j, hj⟩ := Option.isSome_iff_exists.1 hj0
  have hb := run_eqlNil (P := cx.P) (w := w) p hT hj
  have hg : eqGuard .eql T x y (.pointer p) (.pointer none) = pure () := rfl
  simp [execOp, ho, ha.eval hx, ha.eval hy, hb, hg]
theorem yl_neqSame {x y : Operand} {T U te b off : Nat} (ho : o.op = .binOp .neq T x y U) (hx : ev e x = some (ptr b off)) (hy : ev e y = some (ptr b off)) (hT : cx.P.underlying T = some (.pointer te)) (hj0 : (cx.P.info? te).isSome = true) : Yld cx o e S (.bool false) := by
  intro a w ha _
  obtain ⟨j, hj⟩ := Option.isSome_iff_exists.1 hj0
  have hb := Lib.run_neq_ptr_same (P := cx.P) w ⟨b, off, none⟩ hT hj
  have hg : eqGuard .neq T x y (ptr b off) (ptr b off) = pure () := rfl
  simp [execOp, ho, ha.eval hx, ha.eval hy, hb, hg]
theorem yl_toUnsafe {x : Operand} {Sy T te b off : Nat} (z : Nat) {cs : List Value} {t : TypeId} {fr : Nat × Nat} (ho : o.op = .convert Sy T x) (hx : ev e x = some (ptr b off)) (hS : cx.P.underlying Sy = some (.pointer te)) (hT : cx.P.underlying T = some .unsafePointer) (hj0 : (cx.P.info? te).map (·.size) = some (z + 1))
    (hb : Blk S b (.cells cs.toArray t fr)) (hoff : off < cs.length) : Yld cx o e S (ptr b off) := by
  intro a w ha hs
  obtain ⟨j, hj, hz⟩ := Option.map_eq_some_iff.1 hj0
  have hz : j.size ≠ 0 := by omega
  have h := Lib.run_to_unsafe (P := cx.P) (w := w) ⟨b, off, none⟩ hS hT hj hz (shape_of_heap (hb w hs)) (by simpa using hoff)
  simp [execOp, ho, ha.eval hx, h]
theorem yl_fromUnsafe {x : Operand} {Sy T te b off : Nat} {cs : List Value} {t : TypeId} {fr : Nat × Nat} (ho : o.op = .convert Sy T x) (hx : ev e x = some (ptr b off)) (hS : cx.P.underlying Sy = some .unsafePointer) (hT : cx.P.underlying T = some (.pointer te)) (hj0 : (cx.P.info? te).isSome = true)
    (hb : Blk S b (.cells cs.toArray t fr)) (hl : liesAt cx.P cx.P.depth t (cs.length / cx.P.cellsOf t) off te 1 = true) : Yld cx o e S (ptr b off) := by
  intro a w ha hs
  obtain ⟨j, hj⟩ := Option.isSome_iff_exists.1 hj0
  have h := Lib.run_from_unsafe (P := cx.P) (w := w) ⟨b, off, none⟩ hS hT hj (shape_of_heap (hb w hs)) (by simpa using hl)
  simp [execOp, ho, ha.eval hx, h]
/-- A call of a function of the model's own that hands back its argument. -/
theorem yl_noEscape {f : Nat} {fn : Func} {fo x : Operand} {ts : Array TypeId} {v : Value} (ho : o.op = .call ⟨.value fo, #[x], ts⟩) (hf : ev e fo = some (.func (.func f) #[] #[])) (hx : ev e x = some v) (h1 : cx.P.funcs[f]? = some fn) (h2 : (fn.name == "runtime.NumGoroutine") = false) (h3 : fn.body.isNone = true)
    (h4 : Extern.findNext fn = none) (h5 : Extern.find fn = some Extern.AbiNoEscape.same) : Yld cx o e S v := by
  intro a w ha _
  have h := run_callFunc_extern h1 h2 h3 h4 h5 #[v] w
  simp [execOp, ho, resolve, invoke, ha.eval hf, ha.eval hx, h, Deferred.ofValue, Lib.run_noEscape, Result.andThen]
theorem yl_sliceData {x : Operand} {T b off n c : Nat} (ho : o.op = .call ⟨.builtin .unsafeSliceData, #[x], #[T]⟩) (hx : ev e x = some (.slice (some ⟨b, off, none⟩) n c)) (hc : c ≠ 0) : Yld cx o e S (ptr b off) := by
  intro a w ha _
  have h := fun ty => Lib.run_unsafeSliceData_row (P := cx.P) (w := w) #[T] ty ⟨b, off, none⟩ n c hc
  simp [execOp, ho, resolve, invoke, ha.eval hx, builtin, h]
theorem yl_sliceDataNil {x : Operand} {T n c : Nat} (ho : o.op = .call ⟨.builtin .unsafeSliceData, #[x], #[T]⟩) (hx : ev e x = some (.slice none n c)) : Yld cx o e S (.pointer none) := by
  intro a w ha _
  have h := fun ty => Lib.run_unsafeSliceData_nil (P := cx.P) (w := w) #[T] ty n c
  simp [execOp, ho, resolve, invoke, ha.eval hx, builtin, h]
theorem yl_unsafeStringNone {x y : Operand} {p : Option Addr} {T U : Nat} (ho : o.op = .call ⟨.builtin .unsafeString, #[x, y], #[T, U]⟩) (hx : ev e x = some (.pointer p)) (hy : ev e y = some (i64 0)) : Yld cx o e S (str []) := by
  intro a w ha _
  have h := fun ty => Lib.run_unsafeString_none (P := cx.P) (w := w) T U ty p
  simp [execOp, ho, resolve, invoke, ha.eval hx, ha.eval hy, builtin, h]
  rfl
/-- Bytes seen as a string: they are frozen. -/
theorem op_unsafeString {x y : Operand} {T U E d b : Nat} (i : Nat) (l : List UInt8) {cs : List Value} {H' : HL} (ho : o.op = .call ⟨.builtin .unsafeString, #[x, y], #[T, U]⟩) (hd : o.dst = some d) (hn : Nat.blt d cx.n = true) (hx : ev e x = some (ptr b 0)) (hy : ev e y = some (i64 l.length))
    (hT : cx.P.underlying T = some (.pointer E)) (hE : cx.P.cellsOf E = 1) (hH : H[i]? = some (b, cel E (bcs l ++ cs))) (h0 : l ≠ []) (h63 : l.length ≤ 9223372036854775807) (hH' : LSet H i (b, .cells (bcs l ++ cs).toArray E (0, l.length)) H') (k : C ((d, str l) :: e) I H') : OpJ cx Q o e I H C := by
  intro K hK a w ha hs
  unfold Oper.wp
  have hb := hs.own _ (List.mem_of_getElem? hH)
  have h := fun ty => Lib.run_unsafeString_row (P := cx.P) (w := w) T U ty E hT hE b (bcs l ++ cs).length (by rw [shape_of_heap hb]; simp) l h0 (by rw [List.length_append, bcs_len]; omega) h63 (fun j x hj => by
    rw [Addr.add_lit]
    refine cell_of_heap hb ?_
    rw [List.getElem?_append_left (by rw [bcs_len, Nat.zero_add]; exact (List.getElem?_eq_some_iff.1 hj).1)]
    simp [bcs, hj])
  have hfr : w.freeze ⟨b, 0, none⟩ l.length = World.block w b (.cells (bcs l ++ cs).toArray E (0, l.length)) := by
    have hl : l.length ≠ 0 := by simpa using h0
    unfold World.freeze World.block
    rw [if_neg hl]
    congr 1
    apply Array.ext_getElem?
    intro k
    rw [Array.getElem?_modify, Array.getElem?_setIfInBounds]
    by_cases hk : b = k
    · subst hk
      have hlt : b < w.heap.size := hs.lt (List.mem_of_getElem? hH)
      rw [if_pos rfl, if_pos rfl, if_pos hlt, show w.heap[b]? = _ from hb]
      simp [cel]
    · simp [hk]
  have : (execOp a.eval o).run cx.P w = .ok (.value (str l)) (World.block w b (.cells (bcs l ++ cs).toArray E (0, l.length))) := by
    simp [execOp, ho, resolve, invoke, ha.eval hx, ha.eval hy, builtin, h, hfr, str]
  rw [this]
  simp only [Oper.upon, hd]
  exact hK _ _ _ k _ _ (ha.put hn) (hs.block hH hH')
end
end Go.Sx
namespace Go.Sx
open Go
section
variable {cx : Cx} {Q : Qt} {e : Env} {I : Heap} {H : HL} {o : Oper} {C : Ct}
theorem op_panic {x : Operand} {T : TypeId} {v : Value} (ho : o.op = .panic x) (hx : ev e x = some (.iface T v)) (k : Ej cx Q (.panic [{ v := .iface T v, recovered := false }]) e I H) : OpJ cx Q o e I H C := by
  intro K hK a w ha hs
  unfold Oper.wp
  have : (execOp a.eval o).run cx.P w = .halt (.panic (.iface T v)) w := by
    simp [execOp, ho, ha.eval hx, Instr.panic, goPanic]
  rw [this]
  exact k a w ha hs
end
end Go.Sx
namespace Go.Sx
open Go
theorem run_checkKey {P : Program} {K : TypeId} (hK : P.underlying K = some .string) (b : Bool) (v : List UInt8) (w : World) : (Instr.checkKey b 10000 K (str v)).run P w = .ok () w := by
  have h : ∀ n, (Instr.checkKey b (n + 1) K (str v)).run P w = .ok () w := fun n => by simp [Instr.checkKey, run_underlying hK, str]
  exact h 9999
section
variable {cx : Cx} {Q : Qt} {e : Env} {I : Heap} {H : HL} {o : Oper} {C : Ct} {S : World → Prop}
def ent (k : List UInt8) (v : Value) : MapEntry := { key := str k, val := v, born := 0 }
theorem op_makeMap {T d : Nat} (ho : o.op = .makeMap T none) (hd : o.dst = some d) (hn : Nat.blt d cx.n = true) (k : ∀ b, cx.w0.heap.size ≤ b → C ((d, .map (some b)) :: e) I ((b, .map #[] 0) :: H)) : OpJ cx Q o e I H C := by
  intro K hK a w ha hs
  unfold Oper.wp
  have : (execOp a.eval o).run cx.P w = .ok (.value (.map (some w.heap.size))) { w with heap := w.heap.push (.map #[] 0) } := by
    simp [execOp, ho, Instr.makeMap, newObj, Sem.run]
  rw [this]
  simp only [Oper.upon, hd]
  exact hK _ _ _ (k _ hs.size) _ _ (ha.put hn) (hs.alloc _)
theorem op_insert1 {T K E b : Nat} {m x y : Operand} {k : List UInt8} {v : Value} {H' : HL} (i : Nat) (ho : o.op = .insert T m x y) (hd : o.dst = none) (hm : ev e m = some (.map (some b))) (hx : ev e x = some (str k)) (hy : ev e y = some v) (hT : cx.P.underlying T = some (.map K E)) (hK : cx.P.underlying K = some .string)
    (hH : H[i]? = some (b, .map #[] 0)) (hH' : LSet H i (b, .map #[ent k v] 1) H') (kk : C e I H') : OpJ cx Q o e I H C := by
  intro Kk hKk a w ha hs
  unfold Oper.wp
  have hb := hs.own _ (List.mem_of_getElem? hH)
  have hck := fun b' => run_checkKey (P := cx.P) hK b' k w
  have : (execOp a.eval o).run cx.P w = .ok .skip (World.block w b (.map #[ent k v] 1)) := by
    simp [hck, execOp, ho, ha.eval hm, ha.eval hx, ha.eval hy, Instr.mapUpdate, run_underlying hT, run_underlying hK, getObj, setObj, Sem.run, hb, Instr.findKey, Instr.findNow, World.block, ent]
  rw [this]
  simp only [Oper.upon, hd]
  exact hKk _ _ _ kk _ _ ha.putNone (hs.block hH hH')
theorem yl_lookupHit {T K E b c : Nat} {m x : Operand} {k : List UInt8} {v : Value} (ho : o.op = .lookup T m x true) (hm : ev e m = some (.map (some b))) (hx : ev e x = some (str k)) (hT : cx.P.underlying T = some (.map K E)) (hK : cx.P.underlying K = some .string)
    (hb : Blk S b (.map #[ent k v] c)) : Yld cx o e S (.tuple #[v, .bool true]) := by
  intro a w ha hs
  have h := hb w hs
  have hck := fun b' => run_checkKey (P := cx.P) hK b' k w
  have hs1 : Instr.sameNow .string (str k) (str k) = some true := by
    simp only [Instr.sameNow, str, Option.some.injEq]
    show (k.toArray == k.toArray) = true
    simp
  simp [execOp, ho, ha.eval hm, ha.eval hx, Instr.lookup, run_underlying hT, run_underlying hK, getObj, Sem.run, h, hck, Instr.findKey, Instr.findNow, hs1, ent]
theorem yl_lookupMiss {T K E b c : Nat} {m x : Operand} {k y : List UInt8} {v z : Value} (hne : y ≠ k) (ho : o.op = .lookup T m x true) (hm : ev e m = some (.map (some b))) (hx : ev e x = some (str y)) (hT : cx.P.underlying T = some (.map K E)) (hK : cx.P.underlying K = some .string) (hz : ∀ w, (zeroValue E).run cx.P w = .ok z w)
    (hb : Blk S b (.map #[ent k v] c)) : Yld cx o e S (.tuple #[z, .bool false]) := by
  intro a w ha hs
  have h := hb w hs
  have hck := fun b' => run_checkKey (P := cx.P) hK b' y w
  have hs1 : Instr.sameNow .string (str y) (str k) = some false := by
    simp only [Instr.sameNow, str, Option.some.injEq]
    show (y.toArray == k.toArray) = false
    simpa using hne
  simp [execOp, ho, ha.eval hm, ha.eval hx, Instr.lookup, run_underlying hT, run_underlying hK, getObj, Sem.run, h, hck, Instr.findKey, Instr.findNow, hs1, ent, hz]
end
end Go.Sx
namespace Go.Sx
open Go
/-- A deferred call: what it leaves, and in which mode its caller's frame goes on. -/
def CtrD (P : Program) (f : FuncId) (args : List Value) (u : FrameMode) (I : Heap) (H : HL) (post : FrameMode → Heap → HL → Prop) : Prop :=
  Enters P f ∧ ∀ w, Ready I H w → CallsD P f args.toArray u w fun e u' w' => (∃ v, e = .returned v) ∧ ∃ I' H', St w (H.map (·.1)) I I' H' w' ∧ post u' I' H'
theorem Ctr.of_bodyD {P : Program} {f : FuncId} {fn : Func} {c : Code} {args : List Value} {I : Heap} {H : HL} {post : Ending → Heap → HL → Prop} (hf : P.funcs[f]? = some fn) (hb : fn.body = some c) (hname : fn.name ≠ "runtime.NumGoroutine")
    (hn : args.length ≤ fn.ntmps)
    (h : ∀ w0, Ready I H w0 → Cj ⟨P, fn.ntmps, w0, H.map (·.1), I, [], none⟩ (bodyPostD P fn (RR w0 (H.map (·.1)) I post)) c (argsEnv 0 args) I H) : Ctr P f args I H post := by
  refine ⟨⟨fn, hf, hname, by simp [hb]⟩, fun w hw => ?_⟩
  refine calls_of_wp_defers hf hb ?_
  exact (h w hw).wp rfl (Has.start args fn.ntmps hn) (St.start w I H hw.1 hw.2.1 hw.2.2.1 hw.2.2.2)
section
variable {cx : Cx} {Q : Qt} {e : Env} {I : Heap} {H : HL} {o : Oper} {C : Ct}
theorem J.defer {ops : Array Oper} {l : List Oper} {f : Nat} {fo : Operand} {xs : List Operand} {ts : Array TypeId} {fst cap vs : List Value} (hg : o.guard = none) (ho : o.op = .defer ⟨.value fo, xs.toArray, ts⟩) (hd : o.dst = none)
    (hf : ev e fo = some (.func (.func f) fst.toArray cap.toArray)) (hx : evs e xs = some vs)
    (k : J { cx with ds := ⟨.fn (.func f) cap.toArray, (fst ++ vs).toArray⟩ :: cx.ds } Q ops l e I H) (hrd : cx.rd = none := by rfl) : J cx Q ops (o :: l) e I H := by
  intro a w ha hs
  refine wpListIn_plain hg fun K hK => fence_wp (.inl hrd) ?_
  unfold Oper.wp
  have hr : (execOp a.eval o).run cx.P w = .ok (.defer ⟨.fn (.func f) cap.toArray, (fst ++ vs).toArray⟩) w := by
    have hxs : xs.toArray.map a.eval = vs.toArray := by rw [List.map_toArray, ha.evals hx]
    simp [execOp, ho, resolve, hxs, ha.eval hf, Deferred.ofValue]
  rw [hr]
  simp only [Oper.upon, hd]
  exact hK _ _ (k _ _ ⟨ha.size, by simp [Act.put, ha.defs], fun t v h => ha.get t v h⟩ hs)
/-- The results, read behind the deferred calls. -/
def ResJ (cx : Cx) (fn : Func) (post : Ending → Heap → HL → Prop) (e : Env) (I : Heap) (H : HL) : Prop :=
  ∀ a w, Has a cx.n e cx.ds → St cx.w0 cx.D cx.I0 I H w → ∃ v, (results fn a.tmps).run cx.P w = .ok v w ∧ RR cx.w0 cx.D cx.I0 post (.returned v) w
theorem leaves_one {P : Program} {fn : Func} {tmps : Array Value} {R : Ending → World → Prop} {f : Nat} {cap vs : List Value} {u : FrameMode} {w w0 : World} {D : List Nat} {I0 : Heap} {H1 R1 : HL} {post : FrameMode → Heap → HL → Prop} (hu : u ≠ .run)
    (hs : CtrD P f (vs ++ cap) u I H1 post) (hst : St w0 D I0 I (H1 ++ R1) w) {ds : List Deferred}
    (k : ∀ u' I' H1' w', Le I I' → post u' I' H1' → St w0 D I0 I' (H1' ++ R1) w' → Leaves P fn tmps R ds (settle u') w') :
    Leaves P fn tmps R (⟨.fn (.func f) cap.toArray, vs.toArray⟩ :: ds) u w := by
  refine leaves_cons (f := f) (args := (vs ++ cap).toArray) hu (by have h := run_callFunc hs.1 (vs ++ cap).toArray w; simpa [invoke] using h) ?_
  have hready : Ready I H1 w := ⟨hst.sub, fun p hp => hst.own p (List.mem_append_left _ hp), by
    have := hst.nodup; rw [List.map_append, List.nodup_append] at this; exact this.1, fun p hp => hst.dis p (List.mem_append_left _ hp)⟩
  refine (hs.2 w hready).mono ?_
  rintro en u' w' ⟨⟨v, rfl⟩, I', H1', hs', hp⟩
  exact k u' I' H1' w' hs'.le hp (hst.call hs')
/-- The end of a function with one deferred call. -/
theorem Ej.leave {fn : Func} {post : Ending → Heap → HL → Prop} {x : Exit} {u : FrameMode} {H1 R1 : HL} {f : Nat} {cap vs : List Value} {post1 : FrameMode → Heap → HL → Prop}
    (hx : (x = .ret ∧ u = .returning) ∨ (x = .normal ∧ u = .returning) ∨ ∃ ch, x = .panic ch ∧ u = .panicking ch) (hds : cx.ds = [⟨.fn (.func f) cap.toArray, vs.toArray⟩]) (hs : CtrD cx.P f (vs ++ cap) u I H1 post1)
    (k : ∀ u' I' H1', Le I I' → post1 u' I' H1' → settle u' = .returning ∧ ResJ cx fn post e I' (H1' ++ R1)) :
    Ej cx (bodyPostD cx.P fn (RR cx.w0 cx.D cx.I0 post)) x e I (H1 ++ R1) := by
  intro a w ha hst
  have key : u ≠ .run → Leaves cx.P fn a.tmps (RR cx.w0 cx.D cx.I0 post) a.defers u w := fun hu => by
    rw [ha.defs, hds]
    refine leaves_one hu hs hst fun u' I' H1' w' hle hp hs' => ?_
    obtain ⟨h1, h2⟩ := k u' I' H1' hle hp
    rw [h1]
    exact h2 a w' ha hs'
  rcases hx with ⟨rfl, rfl⟩ | ⟨rfl, rfl⟩ | ⟨ch, rfl, rfl⟩
  · exact key (by simp)
  · exact key (by simp)
  · exact key (by simp)
theorem ResJ.cell3 {fn : Func} {post : Ending → Heap → HL → Prop} {H' : HL} {t t2 t3 T T2 T3 b b2 b3 n : Nat} {x y : Value} {cs : List Value} {ty ty2 ty3 : TypeId} {fr fr2 fr3 : Nat × Nat} (hk : Keeps H' H) (hr : fn.results = #[.cell t T, .cell t2 T2, .cell t3 T3])
    (hv : eg e t = some (ptr b 0)) (hv2 : eg e t2 = some (ptr b2 0)) (hv3 : eg e t3 = some (ptr b3 0)) (hb : Blk (SS I H) b (.cells cs.toArray ty fr)) (hb2 : Blk (SS I H) b2 (.cells #[x] ty2 fr2)) (hb3 : Blk (SS I H) b3 (.cells #[y] ty3 fr3))
    (ha0 : ∀ w, (isAgg T).run cx.P w = .ok true w) (ha2 : ∀ w, (isAgg T2).run cx.P w = .ok false w) (ha3 : ∀ w, (isAgg T3).run cx.P w = .ok false w) (hsz : ∀ w, (sizeOf T).run cx.P w = .ok n w) (hn : cs.length = n) (hp : post (.returned (.tuple #[.agg cs.toArray, x, y])) I H') :
    ResJ cx fn post e I H := by
  intro a w ha hs
  have h1 := ha.get t _ hv
  have h3 := ha.get t2 _ hv2
  have h4 := ha.get t3 _ hv3
  have hc : ∀ j v, cs[j]? = some v → w.cell? ((⟨b, 0, none⟩ : Addr).add j) = some v := fun j v hj => by
    rw [Addr.add_lit]; exact cell_of_heap (hb w hs.ss) (by simpa using hj)
  have h2 := run_loadCells_list (P := cx.P) (w := w) ⟨b, 0, none⟩ cs hc
  rw [hn] at h2
  have c2 : w.cell? ⟨b2, 0, none⟩ = some x := cell_of_heap (cs := [x]) (hb2 w hs.ss) rfl
  have c3 : w.cell? ⟨b3, 0, none⟩ = some y := cell_of_heap (cs := [y]) (hb3 w hs.ss) rfl
  refine ⟨.tuple #[.agg cs.toArray, x, y], ?_, I, H', hs.sublist hk, hp⟩
  simp [results, hr, h1, h3, h4, asAddr, loadVar, ha0, ha2, ha3, hsz, h2, c2, c3]
theorem wpS_recover {P : Program} {id : Nat} {o1 o2 : Oper} {t1 t2 : Nat} {Q : Exit → Act → List Frame → World → Prop} {a : Act} {cs cs' : List Frame} {w : World} {v : Value} {ty : Array TypeId} (ho1 : o1.op = .call ⟨.builtin .recover, #[], ty⟩) (hg1 : o1.guard = none) (hd1 : o1.dst = some t1) (ho2 : o2.op = .assign (.tmp t1)) (hg2 : o2.guard = none) (hd2 : o2.dst = some t2)
    (ht1 : t1 < a.tmps.size) (hrec : recoverD cs = some (v, cs') ∨ (recoverD cs = none ∧ v = .nilIface ∧ cs' = cs)) (k : Q .normal ((a.put (some t1) v).put (some t2) v) cs' w) : (Code.region id #[o1, o2] false).wpS P Q a cs w := by
  refine wpS_region ?_
  have hl : List.range (#[o1, o2] : Array Oper).size = [0, 1] := rfl
  rw [hl]
  have hr1 : (execOp a.eval o1).run P w = .ok .recover w := by simp [execOp, ho1, resolve, invoke, builtin]
  have he : (a.put (some t1) v).eval (.tmp t1) = v := by simp [Act.eval, Act.put, ht1]
  have hr2 : ∀ c, (execOp (a.put (some t1) v).eval o2).run P c = .ok (.value v) c := fun c => by simp only [execOp, ho2, he, Sem.run_pure]
  rcases hrec with h | ⟨h, rfl, rfl⟩
  · simp [wpOpsS, Region.wanted, hg1, hg2, hr1, h, hd1, hr2, Oper.upon, hd2, k]
  · simp [wpOpsS, Region.wanted, hg1, hg2, hr1, h, hd1, hr2, Oper.upon, hd2, k]
theorem CtrD.recover {P : Program} {f : FuncId} {fn : Func} {rest : Code} {args : List Value} {H : HL} {post : FrameMode → Heap → HL → Prop} {id : Nat} {o1 o2 : Oper} {t1 t2 : Nat} {ty : Array TypeId} {u : FrameMode} (v : Value) (u' : FrameMode)
    (hf : P.funcs[f]? = some fn) (hb : fn.body = some (.seq (.region id #[o1, o2] false) rest)) (hname : fn.name ≠ "runtime.NumGoroutine") (hn : args.length ≤ fn.ntmps)
    (ho1 : o1.op = .call ⟨.builtin .recover, #[], ty⟩) (hg1 : o1.guard = none) (hd1 : o1.dst = some t1) (ho2 : o2.op = .assign (.tmp t1)) (hg2 : o2.guard = none) (hd2 : o2.dst = some t2) (ht1 : Nat.blt t1 fn.ntmps = true) (ht2 : Nat.blt t2 fn.ntmps = true)
    (hrec : ∀ (c₀ : Frame) (cs : List Frame), c₀.mode = u → recoverD (c₀ :: cs) = some (v, { c₀ with mode := u' } :: cs) ∨ (recoverD (c₀ :: cs) = none ∧ v = .nilIface ∧ u' = u))
    (h : ∀ w0, Ready I H w0 → Cj ⟨P, fn.ntmps, w0, H.map (·.1), I, [], none⟩ (bodyPost P fn (RR w0 (H.map (·.1)) I fun e I' H' => (∃ x, e = .returned x) ∧ post u' I' H')) rest ((t2, v) :: (t1, v) :: argsEnv 0 args) I H) :
    CtrD P f args u I H post := by
  refine ⟨⟨fn, hf, hname, by simp [hb]⟩, fun w hw => ?_⟩
  refine callsD_of_wpS hf hb fun c₀ cs hc => ?_
  have hst := St.start w I H hw.1 hw.2.1 hw.2.2.1 hw.2.2.2
  have ha := Has.start args fn.ntmps hn
  have ha2 := (ha.put (v := v) ht1).put (v := v) ht2
  have hsz := ha.size
  have ht1' : t1 < fn.ntmps := by simpa [Nat.blt_eq] using ht1
  refine wpS_seq ?_
  refine wpS_recover ho1 hg1 hd1 ho2 hg2 hd2 (by rw [hsz]; exact ht1') (v := v) (cs' := { c₀ with mode := u' } :: cs) ?_ ?_
  · rcases hrec c₀ cs hc with h | ⟨h1, h2, h3⟩
    · exact .inl h
    · exact .inr ⟨h1, h2, by rw [h3, ← hc]⟩
  · show rest.wpS P (bodyPostS P fn c₀ cs _) _ ({ c₀ with mode := u' } :: cs) w
    refine wpS_of_wp ?_
    refine Code.wp_mono (fun x a w' hq => ?_) ((h w hw).wp rfl ha2 hst)
    cases x with
    | normal => obtain ⟨h1, y, h2, I', H', h3, h4, h5⟩ := hq; exact ⟨h1, u', rfl, y, h2, ⟨y, rfl⟩, I', H', h3, h5⟩
    | ret => obtain ⟨h1, y, h2, I', H', h3, h4, h5⟩ := hq; exact ⟨h1, u', rfl, y, h2, ⟨y, rfl⟩, I', H', h3, h5⟩
    | panic ch => obtain ⟨h1, I', H', h3, ⟨x, h4⟩, h5⟩ := hq; cases h4
    | exit id => exact hq.elim
    | goto l => exact hq.elim
    | outgrown => obtain ⟨I', H', h3, ⟨x, h4⟩, h5⟩ := hq; cases h4
theorem run_neqNil {P : Program} {w : World} {T t : TypeId} {u : Value} {ms : Array (String × TypeId)} (hT : P.underlying T = some (.interface ms)) : (binOp .neq T (.iface t u) .nilIface).run P w = .ok (.bool true) w ∧ (binOp .neq T .nilIface .nilIface).run P w = .ok (.bool false) w
    ∧ (binOp .eql T (.iface t u) .nilIface).run P w = .ok (.bool false) w ∧ (binOp .eql T .nilIface .nilIface).run P w = .ok (.bool true) w := by
  have h1 : ∀ d : Nat, (Op.equalIn (d + 1) T (.iface t u) .nilIface).run P w = .ok false w := fun d => by simp [Op.equalIn, run_underlying hT]
  have h2 : ∀ d : Nat, (Op.equalIn (d + 1) T .nilIface .nilIface).run P w = .ok true w := fun d => by simp [Op.equalIn, run_underlying hT]
  simp only [binOp]
  simp [Op.equal, Op.maxDepth, h1 9999, h2 9999]
theorem yl_neqNil1 {S : World → Prop} {x y : Operand} {T U t : Nat} {u : Value} {ms : Array (String × TypeId)} (ho : o.op = .binOp .neq T x y U) (hx : ev e x = some (.iface t u)) (hy : ev e y = some .nilIface) (hT : cx.P.underlying T = some (.interface ms)) : Yld cx o e S (.bool true) := by
  intro a w ha _
  have hb := (run_neqNil (P := cx.P) (w := w) (t := t) (u := u) hT).1
  have hg : eqGuard .neq T x y (.iface t u) .nilIface = pure () := rfl
  simp [execOp, ho, ha.eval hx, ha.eval hy, hb, hg]
theorem yl_neqNil0 {S : World → Prop} {x : Operand} {v0 : Value} {T U : Nat} {ms : Array (String × TypeId)} (ho : o.op = .binOp .neq T x (.const v0) U) (hx : ev e x = some .nilIface) (hy : v0 = .nilIface) (hT : cx.P.underlying T = some (.interface ms)) : Yld cx o e S (.bool false) := by
  intro a w ha _
  subst hy
  have hb := (run_neqNil (P := cx.P) (w := w) (t := 0) (u := undef) hT).2.1
  have hg : eqGuard .neq T x (.const .nilIface) .nilIface .nilIface = pure () := by unfold eqGuard; simp
  have he : a.eval (.const .nilIface) = .nilIface := rfl
  simp [execOp, ho, ha.eval hx, he, hb, hg]
theorem yl_typeAssertHit {S : World → Prop} {x : Operand} {T U : Nat} {v : Value} {d : TypeDesc} (ho : o.op = .typeAssert x T U true) (hx : ev e x = some (.iface U v)) (hu : cx.P.underlying U = some d) (hn : (match d with | .interface _ => false | _ => true) = true) : Yld cx o e S (.tuple #[v, .bool true]) := by
  intro a w ha _
  have hr : (Instr.typeAssert (.iface U v) T U true).run cx.P w = .ok (.tuple #[v, .bool true]) w := by
    unfold Instr.typeAssert
    simp only [Sem.run_bind, run_underlying hu, Result.andThen_ok]
    cases d <;> simp_all
  simp [execOp, ho, ha.eval hx, hr]
end
end Go.Sx
namespace Go.Sx
open Go
/-! ### Rounds of a loop, one by one -/
def Rj (cx : Cx) (Q : Qt) (c : Code) (n : Nat) (e : Env) (I : Heap) (H : HL) : Prop := ∀ a w, Has a cx.n e cx.ds → St cx.w0 cx.D cx.I0 I H w → Code.rounds cx.P c Q n a w
section
variable {cx : Cx} {Q : Qt} {e : Env} {I : Heap} {H : HL} {o : Oper} {C : Ct} {S : World → Prop}
theorem Cj.rounds (n : Nat) {c : Code} (h : Rj cx Q c n e I H) (hr : cx.rd = none := by rfl) : Cj cx Q (.loop c) e I H := Cj.of_wp hr fun a w ha hs => wp_loop_rounds n (h a w ha hs)
theorem Rj.succ {c : Code} {n : Nat} (h : Cj cx (Exit.then (Code.rounds cx.P c Q n) Q) c e I H) (hr : cx.rd = none := by rfl) : Rj cx Q c (n + 1) e I H := fun _ _ ha hs => h.wp hr ha hs
theorem Ej.rounds {c : Code} {n : Nat} (h : Rj cx Q c n e I H) : Ej cx (Exit.then (Code.rounds cx.P c Q n) Q) .normal e I H := fun a w ha hs => h a w ha hs
/-! ### Arrays and slices -/
theorem yl_indexArr {x y : Operand} {T E b off n sz off' : Nat} {k : IntKind} {i : Int} (ho : o.op = .indexAddr T x y) (hx : ev e x = some (ptr b off)) (hy : ev e y = some (.int k i))
    (hu : cx.P.underlying T = some (.array n E)) (hsz : ∀ w, (sizeOf E).run cx.P w = .ok sz w) (h0 : 0 ≤ i) (h1 : i < n) (hoff : off + i.toNat * sz = off') : Yld cx o e S (ptr b off') := by
  intro a w ha _
  subst hoff
  simp [execOp, ho, ha.eval hx, ha.eval hy, Instr.indexAt, Instr.sureAddr, asIntOf, run_underlying hu, h0, h1, hsz, Addr.add_lit]
theorem run_sliceNil {P : Program} {w : World} {T E n c : Nat} (p : Option Addr) (hT : P.underlying T = some (.slice E)) : (binOp .neq T (.slice p n c) (.slice none 0 0)).run P w = .ok (.bool p.isSome) w ∧ (binOp .eql T (.slice p n c) (.slice none 0 0)).run P w = .ok (.bool p.isNone) w := by
  have h1 : ∀ d : Nat, (Op.equalIn (d + 1) T (.slice p n c) (.slice none 0 0)).run P w = .ok p.isNone w := fun d => by cases p <;> simp [Op.equalIn, run_underlying hT]
  simp only [binOp]
  cases p <;> simp [Op.equal, Op.maxDepth, h1 9999]
theorem yl_neqSlice {x y : Operand} {T U E n c : Nat} (p : Option Addr) (ho : o.op = .binOp .neq T x y U) (hx : ev e x = some (.slice p n c)) (hy : ev e y = some (.slice none 0 0)) (hT : cx.P.underlying T = some (.slice E)) : Yld cx o e S (.bool p.isSome) := by
  intro a w ha _
  have hb := (run_sliceNil (P := cx.P) (w := w) (n := n) (c := c) p hT).1
  have hg : eqGuard .neq T x y (.slice p n c) (.slice none 0 0) = pure () := rfl
  simp [execOp, ho, ha.eval hx, ha.eval hy, hb, hg]
theorem yl_eqlSlice {x y : Operand} {T U E n c : Nat} (p : Option Addr) (ho : o.op = .binOp .eql T x y U) (hx : ev e x = some (.slice p n c)) (hy : ev e y = some (.slice none 0 0)) (hT : cx.P.underlying T = some (.slice E)) : Yld cx o e S (.bool p.isNone) := by
  intro a w ha _
  have hb := (run_sliceNil (P := cx.P) (w := w) (n := n) (c := c) p hT).2
  have hg : eqGuard .eql T x y (.slice p n c) (.slice none 0 0) = pure () := rfl
  simp [execOp, ho, ha.eval hx, ha.eval hy, hb, hg]
theorem made1 (z : Value) (c : Nat) : madeCells #[z] c = (List.replicate c z).toArray := by
  apply Array.ext_getElem?
  intro i
  unfold madeCells
  by_cases h : i < c
  · simp [h, Nat.mod_one]
  · simp [h]
theorem op_makeSlice {T E d by1 n c : Nat} {x y : Operand} {kl kc : IntKind} {z : Value} (ho : o.op = .makeSlice T x y) (hd : o.dst = some d) (hn : Nat.blt d cx.n = true) (hx : ev e x = some (.int kl (n : Int))) (hy : ev e y = some (.int kc (c : Int)))
    (hu : cx.P.underlying T = some (.slice E)) (hi0 : (cx.P.info? E).map (fun i => (i.bytes, i.size, i.zero)) = some (by1, 1, some z)) (hzc : z.cells = #[z]) (hnc : n ≤ c) (hb : by1 * c ≤ 281474976710656) (h63 : c ≤ 9223372036854775807)
    (k : ∀ b, cx.w0.heap.size ≤ b → C ((d, .slice (some ⟨b, 0, none⟩) n c) :: e) I ((b, cel E (List.replicate c z)) :: H)) : OpJ cx Q o e I H C := by
  intro K hK a w ha hs
  unfold Oper.wp
  obtain ⟨i, hi, hii⟩ := Option.map_eq_some_iff.1 hi0
  simp only [Prod.mk.injEq] at hii
  obtain ⟨h1, h2, h3⟩ := hii
  have hbb : (i.bytes : Int) * (c : Int) ≤ 281474976710656 := by
    have h : ((by1 * c : Nat) : Int) ≤ 281474976710656 := by omega
    rw [h1]
    rwa [Int.natCast_mul] at h
  have hr := run_make (P := cx.P) w T E i z hu hi h3 kl kc n c (by omega) (by omega) hbb (by omega)
  have : (execOp a.eval o).run cx.P w = .ok (.value (.slice (some ⟨w.heap.size, 0, none⟩) n c)) (w.alloc (cel E (List.replicate c z))) := by
    simp [execOp, ho, ha.eval hx, ha.eval hy, hr, h2, hzc, made1, cel]
  rw [this]
  simp only [Oper.upon, hd]
  exact hK _ _ _ (k _ hs.size) _ _ (ha.put hn) (hs.alloc _)
/-- The rest of a slice, from j on. -/
theorem yl_sliceFrom {x y : Operand} {T E b off n c sz j : Nat} {kl : IntKind} (ho : o.op = .slice T x (some y) none none) (hx : ev e x = some (.slice (some ⟨b, off, none⟩) n c)) (hy : ev e y = some (.int kl (j : Int))) (hu : cx.P.underlying T = some (.slice E)) (hsz : ∀ w, (sizeOf E).run cx.P w = .ok sz w) (hj : j ≤ n) (hc : j < c) :
    Yld cx o e S (.slice (some ⟨b, off + j * sz, none⟩) (n - j) (c - j)) := by
  intro a w ha _
  have hne : ¬ c = j := by omega
  have h1 : (j : Int) ≤ n := by omega
  simp [execOp, ho, ha.eval hx, ha.eval hy, Instr.sliceAt, Instr.slice, run_underlying hu, Instr.sliceBounds, run_sliceBound, h1, hsz, hne, Addr.add_lit]
/-- Copied into a block of our own. -/
theorem op_copy {x y : Operand} {T U E d b off n c m : Nat} {yv : Value} (i : Nat) {cs cs' ys : List Value} {H' : HL} (ho : o.op = .call ⟨.builtin .copy, #[x, y], #[T, U]⟩) (hd : o.dst = some d) (hn : Nat.blt d cx.n = true) (hx : ev e x = some (.slice (some ⟨b, off, none⟩) n c)) (hy : ev e y = some yv)
    (hu : cx.P.underlying T = some (.slice E)) (hsz : ∀ w, (sizeOf E).run cx.P w = .ok 1 w) (hs0 : Src cx.P I H 1 m yv ys) (hmn : m ≤ n) (hH : H[i]? = some (b, cel E cs)) (hcs : LSpl cs off ys cs') (hH' : LSet H i (b, cel E cs') H')
    (k : C ((d, i64 m) :: e) I H') : OpJ cx Q o e I H C := by
  intro K hK a w ha hs
  unfold Oper.wp
  obtain ⟨hs1, hs2, hs3, hs4⟩ := hs0
  have hb := hs.own _ (List.mem_of_getElem? hH)
  have hst := run_storeCells (P := cx.P) (t := E) ys 0 w cs hb (.inl rfl) hcs.1 (fun u hu => (List.all_eq_true.1 hs2) u hu) cs' hcs
  have hmin : Nat.min m n = m := Nat.min_eq_left hmn
  have : (execOp a.eval o).run cx.P w = .ok (.value (i64 m)) (World.block w b (cel E cs')) := by
    simp [execOp, ho, resolve, invoke, builtin, ha.eval hx, ha.eval hy, Builtin.copy_, run_underlying hu, hs3 w hs.ss, hmin, hsz, hs4 w hs.ss, hst, goInt, cel]
  rw [this]
  simp only [Oper.upon, hd]
  exact hK _ _ _ k _ _ (ha.put hn) (hs.block hH hH')
/-! ### Calls through an interface, of a method of a pointer's -/
theorem op_invoke {H1 R : HL} {d f T te : Nat} {fo : Operand} {nm : String} {xs : List Operand} {ts : Array TypeId} {vs : List Value} {q : Option Addr} {post : Ending → Heap → HL → Prop}
    (ho : o.op = .call ⟨.invoke fo nm, xs.toArray, ts⟩) (hd : o.dst = some d) (hn : Nat.blt d cx.n = true) (hf : ev e fo = some (.iface T (.pointer q))) (hx : evs e xs = some vs)
    (hm : ((cx.P.info? T).bind fun i => i.methods.find? (·.name == nm)).map (fun m => (m.path.isEmpty, m.func)) = some (true, some (f, true))) (hu : cx.P.underlying T = some (.pointer te))
    (hs : Ctr cx.P f (.pointer q :: vs) I H1 post)
    (k : ∀ v I' H1', Le I I' → post (.returned v) I' H1' → C ((d, v) :: e) I' (H1' ++ R))
    (kp : ∀ ch I' H1', Le I I' → post (.panicked ch) I' H1' → Ej cx Q (.panic ch) e I' (H1' ++ R))
    (ko : ∀ I' H1', ¬ post .outgrown I' H1') : OpJ cx Q o e I (H1 ++ R) C := by
  intro K hK a w ha hst
  unfold Oper.wp
  have hr : (execOp a.eval o).run cx.P w = .ok (.enter f (.pointer q :: vs).toArray) w := by
    have hxs : xs.toArray.map a.eval = vs.toArray := by rw [List.map_toArray, ha.evals hx]
    obtain ⟨m, hm1, hm2⟩ := Option.map_eq_some_iff.1 hm
    obtain ⟨i, hi, hfi⟩ := Option.bind_eq_some_iff.1 hm1
    simp only [Prod.mk.injEq] at hm2
    obtain ⟨hp, hmf⟩ := hm2
    have hpl : m.path.toList = [] := by
      have : m.path = #[] := by simpa using hp
      rw [this]
    have hcall := run_callFunc hs.1 (.pointer q :: vs).toArray w
    have hmeth : ∀ n : Nat, (method (n + 1) T (.pointer q) nm).run cx.P w = .ok (f, .pointer q) w := fun n => by
      simp [method, typeInfo, hi, hfi, hpl, follow, hmf, receiverAt, run_underlying hu, Place.get]
    have hmd : ∀ n : Nat, (method (n + Made.depth) T (.pointer q) nm).run cx.P w = .ok (f, .pointer q) w := fun n => hmeth (n + (Made.depth - 1))
    simp only [execOp, ho, resolve, hxs, ha.eval hf, invoke, Sem.run_bind, Sem.run_pure, Result.andThen_ok, callMethod]
    simp [hmd, hcall]
  rw [hr]
  simp only [Oper.upon]
  have hready : Ready I H1 w := ⟨hst.sub, fun p hp => hst.own p (List.mem_append_left _ hp), by
    have := hst.nodup; rw [List.map_append, List.nodup_append] at this; exact this.1, fun p hp => hst.dis p (List.mem_append_left _ hp)⟩
  refine (hs.2 w hready).mono ?_
  rintro en w' ⟨I', H1', hs', hp⟩
  have hle := hs'.le
  have hst' := hst.call hs'
  cases en with
  | returned v =>
    rw [hd]
    exact hK _ _ _ (k v I' H1' hle hp) _ _ (ha.put hn) hst'
  | panicked ch => exact kp ch I' H1' hle hp _ _ ha hst'
  | outgrown => exact (ko _ _ hp).elim
end
/-! ### Contracts out of those that tell the world behind -/
theorem St.set1 {w : World} {I : Heap} {b T off : Nat} {cs : List Value} {v : Value} (hr : Ready I [(b, cel T cs)] w) : St w [b] I I [(b, cel T (cs.set off v))] (w.setCell ⟨b, off, none⟩ v) := by
  have hb : w.heap[b]? = some (cel T cs) := hr.2.1 (b, cel T cs) (.head _)
  have hst : St w [b] I I [(b, cel T cs)] w := St.start w I [(b, cel T cs)] hr.1 hr.2.1 hr.2.2.1 hr.2.2.2
  rw [setCell_block (fr := (0, 0)) hb]
  exact hst.block (i := 0) rfl LSet.z
theorem Ctr.of_set {P : Program} {f : FuncId} {args : List Value} {I : Heap} {b T off : Nat} {cs : List Value} {x y v : Value} (he : Enters P f) (hx : cs[off]? = some x)
    (h : ∀ w, w.cell? ⟨b, off, none⟩ = some x → w.frozen? ⟨b, off, none⟩ = false → Calls P f args.toArray w fun e w' => e = .returned v ∧ w' = w.setCell ⟨b, off, none⟩ y) :
    Ctr P f args I [(b, cel T cs)] (fun e _I' H' => e = .returned v ∧ H' = [(b, cel T (cs.set off y))]) :=
  ⟨he, fun w hr => (h w (cell_of_heap (hr.2.1 _ (.head _)) hx) (by have := hr.2.1 _ (.head _); simp only at this; simp [World.frozen?, this, cel])).mono fun e w' ⟨h1, h2⟩ => ⟨I, _, h2 ▸ St.set1 hr, h1, rfl⟩⟩
theorem Ctr.of_read {P : Program} {f : FuncId} {args : List Value} {I : Heap} {b T off : Nat} {cs : List Value} {x v : Value} (he : Enters P f) (hx : cs[off]? = some x)
    (h : ∀ w, w.cell? ⟨b, off, none⟩ = some x → Calls P f args.toArray w fun e w' => e = .returned v ∧ w' = w) :
    Ctr P f args I [(b, cel T cs)] (fun e _I' H' => e = .returned v ∧ H' = [(b, cel T cs)]) :=
  ⟨he, fun w hr => (h w (cell_of_heap (hr.2.1 _ (.head _)) hx)).mono fun _e _w' ⟨h1, h2⟩ => ⟨I, _, h2 ▸ St.start w I _ hr.1 hr.2.1 hr.2.2.1 hr.2.2.2, h1, rfl⟩⟩
theorem CtrD.of_set {P : Program} {f : FuncId} {args : List Value} {u : FrameMode} {I : Heap} {b T off : Nat} {cs : List Value} {x y v : Value} (he : Enters P f) (hx : cs[off]? = some x)
    (h : ∀ w, w.cell? ⟨b, off, none⟩ = some x → w.frozen? ⟨b, off, none⟩ = false → CallsD P f args.toArray u w fun e u' w' => u' = u ∧ (e = .returned v ∧ (w' = w.setCell ⟨b, off, none⟩ y ∨ w' = w.drew.setCell ⟨b, off, none⟩ y))) :
    CtrD P f args u I [(b, cel T cs)] (fun u' _I' H' => u' = u ∧ H' = [(b, cel T (cs.set off y))]) :=
  ⟨he, fun w hr => (h w (cell_of_heap (hr.2.1 _ (.head _)) hx) (by have := hr.2.1 _ (.head _); simp only at this; simp [World.frozen?, this, cel])).mono fun e u' w' ⟨h0, h1, h2⟩ => ⟨⟨v, h1⟩, I, _, by
    have hs := St.set1 (off := off) (v := y) hr
    rcases h2 with h2 | h2
    · rw [h2]; exact hs
    · rw [h2]; exact hs.drew, h0, rfl⟩⟩
/-! ### A table of 256 slices with a slice behind it -/
def tab (f : Nat → Value) (tr : Value) : List Value := (List.range 256).map f ++ [tr]
theorem tab_len (f : Nat → Value) (tr : Value) : (tab f tr).length = 257 := by simp [tab]
theorem tab_at (f : Nat → Value) (tr : Value) {i : Nat} (h : i < 256) : (tab f tr)[i]? = some (f i) := by
  unfold tab
  rw [List.getElem?_append_left (by simpa using h)]
  simp [h]
theorem tab_tr (f : Nat → Value) (tr : Value) : (tab f tr)[256]? = some tr := by
  unfold tab
  rw [List.getElem?_append_right (by simp)]
  simp
theorem tab_set (f : Nat → Value) (tr v : Value) {i : Nat} (h : i < 256) : (tab f tr).set i v = tab (fun j => if j = i then v else f j) tr := by
  apply List.ext_getElem?
  intro j
  rw [List.getElem?_set]
  rcases Nat.lt_or_ge j 256 with hj | hj
  · rw [tab_at _ _ hj, tab_at _ _ hj]
    by_cases hij : i = j
    · subst hij; simp [tab_len]; omega
    · have : ¬ j = i := fun he => hij he.symm
      simp [hij, this]
  · have hij : ¬ i = j := by omega
    simp only [hij, if_false]
    unfold tab
    rw [List.getElem?_append_right (by simpa using hj), List.getElem?_append_right (by simpa using hj)]
    simp
theorem tab_setTr (f : Nat → Value) (tr v : Value) : (tab f tr).set 256 v = tab f v := by
  unfold tab
  rw [List.set_append_right _ _ (by simp)]
  simp
theorem tab_one {f : Nat → Value} {tr : Value} (hf : ∀ i, (f i).oneCell' = true) (ht : tr.oneCell' = true) : (tab f tr).all Value.oneCell' = true := by
  unfold tab
  simp [hf, ht]
theorem tab_spl (f : Nat → Value) (a v : Value) : LSpl (tab f a) 256 [v] (tab f v) := by
  refine ⟨by simp [tab_len], ?_⟩
  unfold tab
  rw [List.take_append_of_le_length (by simp), List.take_of_length_le (by simp), List.drop_eq_nil_of_le (by simp)]
  simp
theorem LSpl.all {l xs : List Value} (h : l.length = xs.length) : LSpl l 0 xs xs := ⟨by simp [h], by simp [← h]⟩
theorem gV_cells1 (n : Nat) (g : Gs) : (gV n g).cells = #[gV n g] := by cases g <;> rfl
theorem gV_oneC (n : Nat) (g : Gs) : (gV n g).oneCell' = true := by cases g <;> rfl
/-- Bytes in the persistent part. -/
def BytSl (I : Heap) (l : List UInt8) (v : Value) : Prop := ∃ b c sp fr, v = .slice (some ⟨b, 0, none⟩) l.length c ∧ I b = some (.cells (bcs l ++ sp).toArray 5 fr)
theorem BytSl.mono {I I' : Heap} {l : List UInt8} {v : Value} (h : BytSl I l v) (hle : Le I I') : BytSl I' l v := let ⟨b, c, sp, fr, h1, h2⟩ := h; ⟨b, c, sp, fr, h1, hle _ _ h2⟩
section
variable {cx : Cx} {Q : Qt} {e : Env} {I : Heap} {H : HL}
/-- The end of a function with two deferred calls, the later one first. -/
theorem Ej.leave2 {fn : Func} {post : Ending → Heap → HL → Prop} {H1 H2 H3 R1 : HL} {f1 f2 : Nat} {cap1 vs1 cap2 vs2 : List Value} (hds : cx.ds = [⟨.fn (.func f1) cap1.toArray, vs1.toArray⟩, ⟨.fn (.func f2) cap2.toArray, vs2.toArray⟩])
    (h1 : CtrD cx.P f1 (vs1 ++ cap1) .returning I H1 fun u' _I' H' => u' = .returning ∧ H' = H2) (h2 : ∀ I', CtrD cx.P f2 (vs2 ++ cap2) .returning I' H2 fun u' _I'' H' => u' = .returning ∧ H' = H3)
    (k : ∀ I', Le I I' → ResJ cx fn post e I' (H3 ++ R1)) : Ej cx (bodyPostD cx.P fn (RR cx.w0 cx.D cx.I0 post)) .normal e I (H1 ++ R1) := by
  intro a w ha hst
  show Leaves cx.P fn a.tmps (RR cx.w0 cx.D cx.I0 post) a.defers .returning w
  rw [ha.defs, hds]
  refine leaves_one (by simp) h1 hst ?_
  rintro u' I' H1' w' hle ⟨rfl, rfl⟩ hs'
  refine leaves_one (by simp []) (h2 I') hs' ?_
  rintro u2 I2 H2' w2 hle2 ⟨rfl, rfl⟩ hs2
  exact k I2 (hle.trans hle2) a w2 ha hs2
theorem ResJ.none {fn : Func} {post : Ending → Heap → HL → Prop} (hr : fn.results = #[]) (hp : post (.returned (.tuple #[])) I H) : ResJ cx fn post e I H :=
  fun _a _w _ hs => ⟨.tuple #[], results_none hr _ _ _, I, H, hs, hp⟩
end
end Go.Sx
