/-
  Own texts on the laws of the seat, joined: the logic, and contracts of functions. Conditions: none.
-/
import Derived.Test.YtekmeaoblpfnpaaGreatDoorPG1
import Derived.Laws.RangeAny
import Derived.Scope
import Derived.Below
import Derived.Lib.Builder
import Derived.Lib.UnsafeStr
import Derived.Laws.Externs
import Derived.Recover
import Derived.Laws.MakeOwn
import Derived.LoopN
import Derived.RangeFuncRecord
import Derived.Sort.Walk0
import Derived.Sort.Grow
import Derived.Sort.EncStr
set_option maxRecDepth 100000
set_option maxHeartbeats 40000000
section
namespace Go.Sx
open Go Go.RowKit
theorem St.below {w w' : World} {I : Heap} (hr : Ready I [] w) (h : Below w.heap.size w w') : St w [] I I [] w' := by
  have hlt : ∀ {b : Nat} {o' : Obj}, w.heap[b]? = some o' → b < w.heap.size := fun {b o'} hb => by
    rcases Nat.lt_or_ge b w.heap.size with h' | h'
    · exact h'
    simp [Array.getElem?_eq_none h'] at hb
  exact ⟨h.os, h.tape, h.output, h.size, fun b hb _ => h.block b hb, fun b o hb => by rw [h.block b (hlt (hr.1 b o hb))]; exact hr.1 b o hb, by simp, by simp, by simp, by simp, fun _ _ => rfl, Le.refl _, noDr⟩
theorem Pure.of_below {P : Program} {f : FuncId} {args : List Value} {I : Heap} {v : Value} (he : Enters P f) (h : ∀ w, Ready I [] w → Calls P f args.toArray w fun e w' => e = .returned v ∧ Below w.heap.size w w') : Pure P f args I v :=
  ⟨he, fun w hw => (h w hw).mono fun _ _w' ⟨h1, h2⟩ => ⟨I, [], St.below hw h2, h1, rfl, rfl⟩⟩
theorem Pure.of_same {P : Program} {f : FuncId} {args : List Value} {I : Heap} {v : Value} (he : Enters P f) (h : ∀ w, Ready I [] w → Calls P f args.toArray w fun e w' => e = .returned v ∧ w' = w) : Pure P f args I v :=
  Pure.of_below he fun w hw => (h w hw).mono fun _ _ ⟨h1, h2⟩ => ⟨h1, h2 ▸ Below.refl _ _⟩
theorem Enters.of {P : Program} {f : FuncId} {fn : Func} (h : P.funcs[f]? = some fn) (h1 : fn.name ≠ "runtime.NumGoroutine") (h2 : fn.body.isNone = false) : Enters P f := ⟨fn, h, h1, h2⟩
section
variable {cx : Cx} {Q : Qt} {e : Env} {I : Heap} {H : HL} {o : Oper} {C : Ct} {S : World → Prop}
theorem Cj.scope {c : Code} (h : Cj cx (Exit.noGoto Q) c e I H) (hr : cx.rd = none := by rfl) : Cj cx Q (.scope c) e I H := Cj.of_wp hr fun _ _ ha hs => wp_scope_straight (h.wp hr ha hs)
theorem Ej.scRet (h : Ej cx Q .ret e I H) : Ej cx (Exit.noGoto Q) .ret e I H := h
theorem op_range {T d : Nat} {x : Operand} {s : ByteArray} (ho : o.op = .range T x) (hd : o.dst = some d) (hn : Nat.blt d cx.n = true) (hx : ev e x = some (.string s)) (hu : cx.P.underlying T = some .string)
    (k : ∀ b, cx.w0.heap.size ≤ b → C ((d, ptr b 0) :: e) I ((b, .stringIter s 0) :: H)) : OpJ cx Q o e I H C := by
  intro K hK a w ha hs
  unfold Oper.wp
  have : (execOp a.eval o).run cx.P w = .ok (.value (ptr w.heap.size 0)) { w with heap := w.heap.push (.stringIter s 0) } := by
    simp only [execOp, ho, ha.eval hx, Sem.run_bind, run_range_string w T s hu, Result.andThen_ok, Sem.run_pure]
    rfl
  rw [this]
  simp only [Oper.upon, hd]
  exact hK _ _ _ (k _ hs.size) _ _ (ha.put hn) (hs.alloc _)
theorem op_next {d b pos : Nat} {x : Operand} {s : ByteArray} {H' : HL} (i : Nat) (ho : o.op = .next x true) (hd : o.dst = some d) (hn : Nat.blt d cx.n = true) (hx : ev e x = some (ptr b 0)) (hH : H[i]? = some (b, .stringIter s pos)) (hp : pos < s.size)
    (hH' : LSet H i (b, .stringIter s (pos + (Utf8.decode s pos).2)) H') (k : C ((d, .tuple #[.bool true, .int .i64 pos, .int .i32 (Utf8.decode s pos).1]) :: e) I H') : OpJ cx Q o e I H C := by
  intro K hK a w ha hs
  unfold Oper.wp
  have hb := hs.own _ (List.mem_of_getElem? hH)
  have : (execOp a.eval o).run cx.P w = .ok (.value (.tuple #[.bool true, .int .i64 pos, .int .i32 (Utf8.decode s pos).1])) (World.block w b (.stringIter s (pos + (Utf8.decode s pos).2))) := by
    simp only [execOp, ho, ha.eval hx, Instr.next, getObj, setObj, Sem.run_bind, Sem.run, hb, Result.andThen, hp, if_true]
    simp [goInt, World.block]
  rw [this]
  simp only [Oper.upon, hd]
  exact hK _ _ _ k _ _ (ha.put hn) (hs.block hH hH')
theorem op_nextEnd {d b pos : Nat} {x : Operand} {s : ByteArray} (i : Nat) (ho : o.op = .next x true) (hd : o.dst = some d) (hn : Nat.blt d cx.n = true) (hx : ev e x = some (ptr b 0)) (hH : H[i]? = some (b, .stringIter s pos)) (hp : ¬ pos < s.size)
    (k : C ((d, .tuple #[.bool false]) :: e) I H) : OpJ cx Q o e I H C := by
  intro K hK a w ha hs
  unfold Oper.wp
  have hb := hs.own _ (List.mem_of_getElem? hH)
  have : (execOp a.eval o).run cx.P w = .ok (.value (.tuple #[.bool false])) w := by
    simp [execOp, ho, ha.eval hx, Instr.next, getObj, Sem.run_bind, Sem.run, hb, Result.andThen, hp]
  rw [this]
  simp only [Oper.upon, hd]
  exact hK _ _ _ k _ _ (ha.put hn) hs
theorem yl_runeStr {Sy T : Nat} {x : Operand} {k : IntKind} {r : Int} (ho : o.op = .convert Sy T x) (hx : ev e x = some (.int k r)) (hS : cx.P.underlying Sy = some (.int k)) (hT : cx.P.underlying T = some .string) : Yld cx o e S (str (Utf8.encode r).data.toList) := by
  intro a w ha _
  simp [execOp, ho, ha.eval hx, convert, run_underlying hS, run_underlying hT, str, Conv.intToString]
end
end Go.Sx
namespace Go.Sx
open Go
theorem shape_of_heap {w : World} {b : Nat} {cs : Array Value} {t : TypeId} {fr : Nat × Nat} (h : w.heap[b]? = some (.cells cs t fr)) : w.shape? b = some (t, cs.size) := by simp [World.shape?, h]
theorem gV_cells (n : Nat) (g : Gs) : (gV n g).cells = [gV n g].toArray := by cases g <;> rfl
theorem gV_one (n : Nat) (g : Gs) : [gV n g].all Value.oneCell' = true := by cases g <;> rfl
section
variable {cx : Cx} {Q : Qt} {e : Env} {I : Heap} {H : HL} {o : Oper} {C : Ct} {S : World → Prop}
theorem run_eqlNil {P : Program} {w : World} {T te : TypeId} {j : TypeInfo} (p : Option Addr) (hT : P.underlying T = some (.pointer te)) (_hj : P.info? te = some j) : (binOp .eql T (.pointer p) (.pointer none)).run P w = .ok (.bool p.isNone) w := by
  have h : ∀ d : Nat, (Op.equalIn (d + 1) T (.pointer p) (.pointer none)).run P w = .ok p.isNone w := fun d => by
    cases p <;> simp [Op.equalIn, run_underlying hT, sizeOf, typeInfo, samePointer]
  simp only [binOp]
  simp [Op.equal, Op.maxDepth, h 9999]
theorem yl_eqlNil {x y : Operand} {T U te : Nat} (p : Option Addr) (ho : o.op = .binOp .eql T x y U) (hx : ev e x = some (.pointer p)) (hy : ev e y = some (.pointer none)) (hT : cx.P.underlying T = some (.pointer te)) (hj0 : (cx.P.info? te).isSome = true) : Yld cx o e S (.bool p.isNone) := by
  intro a w ha _
  obtain ⟨j, hj⟩ := Option.isSome_iff_exists.1 hj0
  have hb := run_eqlNil (P := cx.P) (w := w) p hT hj
  have hg : eqGuard .eql T x y (.pointer p) (.pointer none) = pure () := rfl
  simp [execOp, ho, ha.eval hx, ha.eval hy, hb, hg]
theorem yl_neqSame {x y : Operand} {T U te b off : Nat} (ho : o.op = .binOp .neq T x y U) (hx : ev e x = some (ptr b off)) (hy : ev e y = some (ptr b off)) (hT : cx.P.underlying T = some (.pointer te)) (hj0 : (cx.P.info? te).isSome = true) : Yld cx o e S (.bool false) := by
  intro a w ha _
  obtain ⟨j, hj⟩ := Option.isSome_iff_exists.1 hj0
  have hb := Lib.run_neq_ptr_same (P := cx.P) w ⟨b, off, none⟩ hT hj
  have hg : eqGuard .neq T x y (ptr b off) (ptr b off) = pure () := rfl
  simp [execOp, ho, ha.eval hx, ha.eval hy, hb, hg]
theorem yl_toUnsafe {x : Operand} {Sy T te b off : Nat} (z : Nat) {cs : List Value} {t : TypeId} {fr : Nat × Nat} (ho : o.op = .convert Sy T x) (hx : ev e x = some (ptr b off)) (hS : cx.P.underlying Sy = some (.pointer te)) (hT : cx.P.underlying T = some .unsafePointer) (hj0 : (cx.P.info? te).map (·.size) = some (z + 1))
    (hb : Blk S b (.cells cs.toArray t fr)) (hoff : off < cs.length) : Yld cx o e S (ptr b off) := by
  intro a w ha hs
  obtain ⟨j, hj, hz⟩ := Option.map_eq_some_iff.1 hj0
  have hz : j.size ≠ 0 := by omega
  have h := Lib.run_to_unsafe (P := cx.P) (w := w) ⟨b, off, none⟩ hS hT hj hz (shape_of_heap (hb w hs)) (by simpa using hoff)
  simp [execOp, ho, ha.eval hx, h]
theorem yl_fromUnsafe {x : Operand} {Sy T te b off : Nat} {cs : List Value} {t : TypeId} {fr : Nat × Nat} (ho : o.op = .convert Sy T x) (hx : ev e x = some (ptr b off)) (hS : cx.P.underlying Sy = some .unsafePointer) (hT : cx.P.underlying T = some (.pointer te)) (hj0 : (cx.P.info? te).isSome = true)
    (hb : Blk S b (.cells cs.toArray t fr)) (hl : liesAt cx.P cx.P.depth t (cs.length / cx.P.cellsOf t) off te 1 = true) : Yld cx o e S (ptr b off) := by
  intro a w ha hs
  obtain ⟨j, hj⟩ := Option.isSome_iff_exists.1 hj0
  have h := Lib.run_from_unsafe (P := cx.P) (w := w) ⟨b, off, none⟩ hS hT hj (shape_of_heap (hb w hs)) (by simpa using hl)
  simp [execOp, ho, ha.eval hx, h]
theorem yl_noEscape {f : Nat} {fn : Func} {fo x : Operand} {ts : Array TypeId} {v : Value} (ho : o.op = .call ⟨.value fo, #[x], ts⟩) (hf : ev e fo = some (.func (.func f) #[] #[])) (hx : ev e x = some v) (h1 : cx.P.funcs[f]? = some fn) (h2 : (fn.name == "runtime.NumGoroutine") = false) (h3 : fn.body.isNone = true)
    (h4 : Extern.findNext fn = none) (h5 : Extern.find fn = some Extern.AbiNoEscape.same) : Yld cx o e S v := by
  intro a w ha _
  have h := run_callFunc_extern h1 h2 h3 h4 h5 #[v] w
  simp [execOp, ho, resolve, invoke, ha.eval hf, ha.eval hx, h, Deferred.ofValue, Lib.run_noEscape, Result.andThen]
theorem yl_sliceData {x : Operand} {T b off n c : Nat} (ho : o.op = .call ⟨.builtin .unsafeSliceData, #[x], #[T]⟩) (hx : ev e x = some (.slice (some ⟨b, off, none⟩) n c)) (hc : c ≠ 0) : Yld cx o e S (ptr b off) := by
  intro a w ha _
  have h := fun ty => Lib.run_unsafeSliceData_row (P := cx.P) (w := w) #[T] ty ⟨b, off, none⟩ n c hc
  simp [execOp, ho, resolve, invoke, ha.eval hx, builtin, h]
theorem yl_sliceDataNil {x : Operand} {T n c : Nat} (ho : o.op = .call ⟨.builtin .unsafeSliceData, #[x], #[T]⟩) (hx : ev e x = some (.slice none n c)) : Yld cx o e S (.pointer none) := by
  intro a w ha _
  have h := fun ty => Lib.run_unsafeSliceData_nil (P := cx.P) (w := w) #[T] ty n c
  simp [execOp, ho, resolve, invoke, ha.eval hx, builtin, h]
theorem yl_unsafeStringNone {x y : Operand} {p : Option Addr} {T U : Nat} (ho : o.op = .call ⟨.builtin .unsafeString, #[x, y], #[T, U]⟩) (hx : ev e x = some (.pointer p)) (hy : ev e y = some (i64 0)) : Yld cx o e S (str []) := by
  intro a w ha _
  have h := fun ty => Lib.run_unsafeString_none (P := cx.P) (w := w) T U ty p
  simp [execOp, ho, resolve, invoke, ha.eval hx, ha.eval hy, builtin, h]
  rfl
theorem op_unsafeString {x y : Operand} {T U E d b : Nat} (i : Nat) (l : List UInt8) {cs : List Value} {H' : HL} (ho : o.op = .call ⟨.builtin .unsafeString, #[x, y], #[T, U]⟩) (hd : o.dst = some d) (hn : Nat.blt d cx.n = true) (hx : ev e x = some (ptr b 0)) (hy : ev e y = some (i64 l.length))
    (hT : cx.P.underlying T = some (.pointer E)) (hE : cx.P.cellsOf E = 1) (hH : H[i]? = some (b, cel E (bcs l ++ cs))) (h0 : l ≠ []) (h63 : l.length ≤ 9223372036854775807) (hH' : LSet H i (b, .cells (bcs l ++ cs).toArray E (0, l.length)) H') (k : C ((d, str l) :: e) I H') : OpJ cx Q o e I H C := by
  intro K hK a w ha hs
  unfold Oper.wp
  have hb := hs.own _ (List.mem_of_getElem? hH)
  have h := fun ty => Lib.run_unsafeString_row (P := cx.P) (w := w) T U ty E hT hE b (bcs l ++ cs).length (by rw [shape_of_heap hb]; simp) l h0 (by rw [List.length_append, bcs_len]; omega) h63 (fun j x hj => by
    rw [Addr.add_lit]
    refine cell_of_heap hb ?_
    rw [List.getElem?_append_left (by rw [bcs_len, Nat.zero_add]; exact (List.getElem?_eq_some_iff.1 hj).1)]
    simp [bcs, hj])
  have hfr : w.freeze ⟨b, 0, none⟩ l.length = World.block w b (.cells (bcs l ++ cs).toArray E (0, l.length)) := by
    have hl : l.length ≠ 0 := by simpa using h0
    unfold World.freeze World.block
    rw [if_neg hl]
    congr 1
    apply Array.ext_getElem?
    intro k
    rw [Array.getElem?_modify, Array.getElem?_setIfInBounds]
    by_cases hk : b = k
    · subst hk
      have hlt : b < w.heap.size := hs.lt (List.mem_of_getElem? hH)
      rw [if_pos rfl, if_pos rfl, if_pos hlt, show w.heap[b]? = _ from hb]
      simp [cel]
    simp [hk]
  have : (execOp a.eval o).run cx.P w = .ok (.value (str l)) (World.block w b (.cells (bcs l ++ cs).toArray E (0, l.length))) := by
    simp [execOp, ho, resolve, invoke, ha.eval hx, ha.eval hy, builtin, h, hfr, str]
  rw [this]
  simp only [Oper.upon, hd]
  exact hK _ _ _ k _ _ (ha.put hn) (hs.block hH hH')
end
end Go.Sx
namespace Go.Sx
open Go
section
variable {cx : Cx} {Q : Qt} {e : Env} {I : Heap} {H : HL} {o : Oper} {C : Ct}
end
end Go.Sx
namespace Go.Sx
open Go
theorem run_checkKey {P : Program} {K : TypeId} (hK : P.underlying K = some .string) (b : Bool) (v : List UInt8) (w : World) : (Instr.checkKey b 10000 K (str v)).run P w = .ok () w := by
  have h : ∀ n, (Instr.checkKey b (n + 1) K (str v)).run P w = .ok () w := fun n => by simp [Instr.checkKey, run_underlying hK, str]
  exact h 9999
section
variable {cx : Cx} {Q : Qt} {e : Env} {I : Heap} {H : HL} {o : Oper} {C : Ct} {S : World → Prop}
theorem op_makeMap {T d : Nat} (ho : o.op = .makeMap T none) (hd : o.dst = some d) (hn : Nat.blt d cx.n = true) (k : ∀ b, cx.w0.heap.size ≤ b → C ((d, .map (some b)) :: e) I ((b, .map #[] 0) :: H)) : OpJ cx Q o e I H C := by
  intro K hK a w ha hs
  unfold Oper.wp
  have : (execOp a.eval o).run cx.P w = .ok (.value (.map (some w.heap.size))) { w with heap := w.heap.push (.map #[] 0) } := by
    simp [execOp, ho, Instr.makeMap, newObj, Sem.run]
  rw [this]
  simp only [Oper.upon, hd]
  exact hK _ _ _ (k _ hs.size) _ _ (ha.put hn) (hs.alloc _)
end
end Go.Sx
namespace Go.Sx
open Go
def CtrD (P : Program) (f : FuncId) (args : List Value) (u : FrameMode) (I : Heap) (H : HL) (post : FrameMode → Heap → HL → Prop) : Prop :=
  Enters P f ∧ ∀ w, Ready I H w → CallsD P f args.toArray u w fun e u' w' => (∃ v, e = .returned v) ∧ ∃ I' H', St w (H.map (·.1)) I I' H' w' ∧ post u' I' H'
theorem Ctr.of_bodyD {P : Program} {f : FuncId} {fn : Func} {c : Code} {args : List Value} {I : Heap} {H : HL} {post : Ending → Heap → HL → Prop} (hf : P.funcs[f]? = some fn) (hb : fn.body = some c) (hname : fn.name ≠ "runtime.NumGoroutine")
    (hn : args.length ≤ fn.ntmps)
    (h : ∀ w0, Ready I H w0 → Cj ⟨P, fn.ntmps, w0, H.map (·.1), I, [], none⟩ (bodyPostD P fn (RR w0 (H.map (·.1)) I post)) c (argsEnv 0 args) I H) : Ctr P f args I H post := by
  refine ⟨⟨fn, hf, hname, by simp [hb]⟩, fun w hw => ?_⟩
  refine calls_of_wp_defers hf hb ?_
  exact (h w hw).wp rfl (Has.start args fn.ntmps hn) (St.start w I H hw.1 hw.2.1 hw.2.2.1 hw.2.2.2)
section
variable {cx : Cx} {Q : Qt} {e : Env} {I : Heap} {H : HL} {o : Oper} {C : Ct}
theorem J.defer {ops : Array Oper} {l : List Oper} {f : Nat} {fo : Operand} {xs : List Operand} {ts : Array TypeId} {fst cap vs : List Value} (hg : o.guard = none) (ho : o.op = .defer ⟨.value fo, xs.toArray, ts⟩) (hd : o.dst = none)
    (hf : ev e fo = some (.func (.func f) fst.toArray cap.toArray)) (hx : evs e xs = some vs)
    (k : J { cx with ds := ⟨.fn (.func f) cap.toArray, (fst ++ vs).toArray⟩ :: cx.ds } Q ops l e I H) (hrd : cx.rd = none := by rfl) : J cx Q ops (o :: l) e I H := by
  intro a w ha hs
  refine wpListIn_plain hg fun K hK => fence_wp (.inl hrd) ?_
  unfold Oper.wp
  have hr : (execOp a.eval o).run cx.P w = .ok (.defer ⟨.fn (.func f) cap.toArray, (fst ++ vs).toArray⟩) w := by
    have hxs : xs.toArray.map a.eval = vs.toArray := by rw [List.map_toArray, ha.evals hx]
    simp [execOp, ho, resolve, hxs, ha.eval hf, Deferred.ofValue]
  rw [hr]
  simp only [Oper.upon, hd]
  exact hK _ _ (k _ _ ⟨ha.size, by simp [Act.put, ha.defs], fun t v h => ha.get t v h⟩ hs)
def ResJ (cx : Cx) (fn : Func) (post : Ending → Heap → HL → Prop) (e : Env) (I : Heap) (H : HL) : Prop :=
  ∀ a w, Has a cx.n e cx.ds → St cx.w0 cx.D cx.I0 I H w → ∃ v, (results fn a.tmps).run cx.P w = .ok v w ∧ RR cx.w0 cx.D cx.I0 post (.returned v) w
theorem leaves_one {P : Program} {fn : Func} {tmps : Array Value} {R : Ending → World → Prop} {f : Nat} {cap vs : List Value} {u : FrameMode} {w w0 : World} {D : List Nat} {I0 : Heap} {H1 R1 : HL} {post : FrameMode → Heap → HL → Prop} (hu : u ≠ .run)
    (hs : CtrD P f (vs ++ cap) u I H1 post) (hst : St w0 D I0 I (H1 ++ R1) w) {ds : List Deferred}
    (k : ∀ u' I' H1' w', Le I I' → post u' I' H1' → St w0 D I0 I' (H1' ++ R1) w' → Leaves P fn tmps R ds (settle u') w') :
    Leaves P fn tmps R (⟨.fn (.func f) cap.toArray, vs.toArray⟩ :: ds) u w := by
  refine leaves_cons (f := f) (args := (vs ++ cap).toArray) hu (by have h := run_callFunc hs.1 (vs ++ cap).toArray w; simpa [invoke] using h) ?_
  have hready : Ready I H1 w := ⟨hst.sub, fun p hp => hst.own p (List.mem_append_left _ hp), by
    have := hst.nodup; rw [List.map_append, List.nodup_append] at this; exact this.1, fun p hp => hst.dis p (List.mem_append_left _ hp)⟩
  refine (hs.2 w hready).mono ?_
  rintro en u' w' ⟨⟨v, rfl⟩, I', H1', hs', hp⟩
  exact k u' I' H1' w' hs'.le hp (hst.call hs')
end
end Go.Sx
namespace Go.Sx
open Go
def Rj (cx : Cx) (Q : Qt) (c : Code) (n : Nat) (e : Env) (I : Heap) (H : HL) : Prop := ∀ a w, Has a cx.n e cx.ds → St cx.w0 cx.D cx.I0 I H w → Code.rounds cx.P c Q n a w
section
variable {cx : Cx} {Q : Qt} {e : Env} {I : Heap} {H : HL} {o : Oper} {C : Ct} {S : World → Prop}
theorem Cj.rounds (n : Nat) {c : Code} (h : Rj cx Q c n e I H) (hr : cx.rd = none := by rfl) : Cj cx Q (.loop c) e I H := Cj.of_wp hr fun a w ha hs => wp_loop_rounds n (h a w ha hs)
theorem Rj.succ {c : Code} {n : Nat} (h : Cj cx (Exit.then (Code.rounds cx.P c Q n) Q) c e I H) (hr : cx.rd = none := by rfl) : Rj cx Q c (n + 1) e I H := fun _ _ ha hs => h.wp hr ha hs
theorem Ej.rounds {c : Code} {n : Nat} (h : Rj cx Q c n e I H) : Ej cx (Exit.then (Code.rounds cx.P c Q n) Q) .normal e I H := fun a w ha hs => h a w ha hs
theorem yl_indexArr {x y : Operand} {T E b off n sz off' : Nat} {k : IntKind} {i : Int} (ho : o.op = .indexAddr T x y) (hx : ev e x = some (ptr b off)) (hy : ev e y = some (.int k i))
    (hu : cx.P.underlying T = some (.array n E)) (hsz : ∀ w, (sizeOf E).run cx.P w = .ok sz w) (h0 : 0 ≤ i) (h1 : i < n) (hoff : off + i.toNat * sz = off') : Yld cx o e S (ptr b off') := by
  intro a w ha _
  subst hoff
  simp [execOp, ho, ha.eval hx, ha.eval hy, Instr.indexAt, Instr.sureAddr, asIntOf, run_underlying hu, h0, h1, hsz, Addr.add_lit]
theorem run_sliceNil {P : Program} {w : World} {T E n c : Nat} (p : Option Addr) (hT : P.underlying T = some (.slice E)) : (binOp .neq T (.slice p n c) (.slice none 0 0)).run P w = .ok (.bool p.isSome) w ∧ (binOp .eql T (.slice p n c) (.slice none 0 0)).run P w = .ok (.bool p.isNone) w := by
  have h1 : ∀ d : Nat, (Op.equalIn (d + 1) T (.slice p n c) (.slice none 0 0)).run P w = .ok p.isNone w := fun d => by cases p <;> simp [Op.equalIn, run_underlying hT]
  simp only [binOp]
  cases p <;> simp [Op.equal, Op.maxDepth, h1 9999]
theorem yl_neqSlice {x y : Operand} {T U E n c : Nat} (p : Option Addr) (ho : o.op = .binOp .neq T x y U) (hx : ev e x = some (.slice p n c)) (hy : ev e y = some (.slice none 0 0)) (hT : cx.P.underlying T = some (.slice E)) : Yld cx o e S (.bool p.isSome) := by
  intro a w ha _
  have hb := (run_sliceNil (P := cx.P) (w := w) (n := n) (c := c) p hT).1
  have hg : eqGuard .neq T x y (.slice p n c) (.slice none 0 0) = pure () := rfl
  simp [execOp, ho, ha.eval hx, ha.eval hy, hb, hg]
theorem yl_eqlSlice {x y : Operand} {T U E n c : Nat} (p : Option Addr) (ho : o.op = .binOp .eql T x y U) (hx : ev e x = some (.slice p n c)) (hy : ev e y = some (.slice none 0 0)) (hT : cx.P.underlying T = some (.slice E)) : Yld cx o e S (.bool p.isNone) := by
  intro a w ha _
  have hb := (run_sliceNil (P := cx.P) (w := w) (n := n) (c := c) p hT).2
  have hg : eqGuard .eql T x y (.slice p n c) (.slice none 0 0) = pure () := rfl
  simp [execOp, ho, ha.eval hx, ha.eval hy, hb, hg]
theorem made1 (z : Value) (c : Nat) : madeCells #[z] c = (List.replicate c z).toArray := by
  apply Array.ext_getElem?
  intro i
  unfold madeCells
  by_cases h : i < c
  · simp [h, Nat.mod_one]
  simp [h]
theorem op_makeSlice {T E d by1 n c : Nat} {x y : Operand} {kl kc : IntKind} {z : Value} (ho : o.op = .makeSlice T x y) (hd : o.dst = some d) (hn : Nat.blt d cx.n = true) (hx : ev e x = some (.int kl (n : Int))) (hy : ev e y = some (.int kc (c : Int)))
    (hu : cx.P.underlying T = some (.slice E)) (hi0 : (cx.P.info? E).map (fun i => (i.bytes, i.size, i.zero)) = some (by1, 1, some z)) (hzc : z.cells = #[z]) (hnc : n ≤ c) (hb : by1 * c ≤ 281474976710656) (h63 : c ≤ 9223372036854775807)
    (k : ∀ b, cx.w0.heap.size ≤ b → C ((d, .slice (some ⟨b, 0, none⟩) n c) :: e) I ((b, cel E (List.replicate c z)) :: H)) : OpJ cx Q o e I H C := by
  intro K hK a w ha hs
  unfold Oper.wp
  obtain ⟨i, hi, hii⟩ := Option.map_eq_some_iff.1 hi0
  simp only [Prod.mk.injEq] at hii
  obtain ⟨h1, h2, h3⟩ := hii
  have hbb : (i.bytes : Int) * (c : Int) ≤ 281474976710656 := by
    have h : ((by1 * c : Nat) : Int) ≤ 281474976710656 := by omega
    rw [h1]
    rwa [Int.natCast_mul] at h
  have hr := run_make (P := cx.P) w T E i z hu hi h3 kl kc n c (by omega) (by omega) hbb (by omega)
  have : (execOp a.eval o).run cx.P w = .ok (.value (.slice (some ⟨w.heap.size, 0, none⟩) n c)) (w.alloc (cel E (List.replicate c z))) := by
    simp [execOp, ho, ha.eval hx, ha.eval hy, hr, h2, hzc, made1, cel]
  rw [this]
  simp only [Oper.upon, hd]
  exact hK _ _ _ (k _ hs.size) _ _ (ha.put hn) (hs.alloc _)
theorem yl_sliceFrom {x y : Operand} {T E b off n c sz j : Nat} {kl : IntKind} (ho : o.op = .slice T x (some y) none none) (hx : ev e x = some (.slice (some ⟨b, off, none⟩) n c)) (hy : ev e y = some (.int kl (j : Int))) (hu : cx.P.underlying T = some (.slice E)) (hsz : ∀ w, (sizeOf E).run cx.P w = .ok sz w) (hj : j ≤ n) (hc : j < c) :
    Yld cx o e S (.slice (some ⟨b, off + j * sz, none⟩) (n - j) (c - j)) := by
  intro a w ha _
  have hne : ¬ c = j := by omega
  have h1 : (j : Int) ≤ n := by omega
  simp [execOp, ho, ha.eval hx, ha.eval hy, Instr.sliceAt, Instr.slice, run_underlying hu, Instr.sliceBounds, run_sliceBound, h1, hsz, hne, Addr.add_lit]
theorem op_copy {x y : Operand} {T U E d b off n c m : Nat} {yv : Value} (i : Nat) {cs cs' ys : List Value} {H' : HL} (ho : o.op = .call ⟨.builtin .copy, #[x, y], #[T, U]⟩) (hd : o.dst = some d) (hn : Nat.blt d cx.n = true) (hx : ev e x = some (.slice (some ⟨b, off, none⟩) n c)) (hy : ev e y = some yv)
    (hu : cx.P.underlying T = some (.slice E)) (hsz : ∀ w, (sizeOf E).run cx.P w = .ok 1 w) (hs0 : Src cx.P I H 1 m yv ys) (hmn : m ≤ n) (hH : H[i]? = some (b, cel E cs)) (hcs : LSpl cs off ys cs') (hH' : LSet H i (b, cel E cs') H')
    (k : C ((d, i64 m) :: e) I H') : OpJ cx Q o e I H C := by
  intro K hK a w ha hs
  unfold Oper.wp
  obtain ⟨hs1, hs2, hs3, hs4⟩ := hs0
  have hb := hs.own _ (List.mem_of_getElem? hH)
  have hst := run_storeCells (P := cx.P) (t := E) ys 0 w cs hb (.inl rfl) hcs.1 (fun u hu => (List.all_eq_true.1 hs2) u hu) cs' hcs
  have hmin : Nat.min m n = m := Nat.min_eq_left hmn
  have : (execOp a.eval o).run cx.P w = .ok (.value (i64 m)) (World.block w b (cel E cs')) := by
    simp [execOp, ho, resolve, invoke, builtin, ha.eval hx, ha.eval hy, Builtin.copy_, run_underlying hu, hs3 w hs.ss, hmin, hsz, hs4 w hs.ss, hst, goInt, cel]
  rw [this]
  simp only [Oper.upon, hd]
  exact hK _ _ _ k _ _ (ha.put hn) (hs.block hH hH')
theorem op_invoke {H1 R : HL} {d f T te : Nat} {fo : Operand} {nm : String} {xs : List Operand} {ts : Array TypeId} {vs : List Value} {q : Option Addr} {post : Ending → Heap → HL → Prop}
    (ho : o.op = .call ⟨.invoke fo nm, xs.toArray, ts⟩) (hd : o.dst = some d) (hn : Nat.blt d cx.n = true) (hf : ev e fo = some (.iface T (.pointer q))) (hx : evs e xs = some vs)
    (hm : ((cx.P.info? T).bind fun i => i.methods.find? (·.name == nm)).map (fun m => (m.path.isEmpty, m.func)) = some (true, some (f, true))) (hu : cx.P.underlying T = some (.pointer te))
    (hs : Ctr cx.P f (.pointer q :: vs) I H1 post)
    (k : ∀ v I' H1', Le I I' → post (.returned v) I' H1' → C ((d, v) :: e) I' (H1' ++ R))
    (kp : ∀ ch I' H1', Le I I' → post (.panicked ch) I' H1' → Ej cx Q (.panic ch) e I' (H1' ++ R))
    (ko : ∀ I' H1', ¬ post .outgrown I' H1') : OpJ cx Q o e I (H1 ++ R) C := by
  intro K hK a w ha hst
  unfold Oper.wp
  have hr : (execOp a.eval o).run cx.P w = .ok (.enter f (.pointer q :: vs).toArray) w := by
    have hxs : xs.toArray.map a.eval = vs.toArray := by rw [List.map_toArray, ha.evals hx]
    obtain ⟨m, hm1, hm2⟩ := Option.map_eq_some_iff.1 hm
    obtain ⟨i, hi, hfi⟩ := Option.bind_eq_some_iff.1 hm1
    simp only [Prod.mk.injEq] at hm2
    obtain ⟨hp, hmf⟩ := hm2
    have hpl : m.path.toList = [] := by
      have : m.path = #[] := by simpa using hp
      rw [this]
    have hcall := run_callFunc hs.1 (.pointer q :: vs).toArray w
    have hmeth : ∀ n : Nat, (method (n + 1) T (.pointer q) nm).run cx.P w = .ok (f, .pointer q) w := fun n => by
      simp [method, typeInfo, hi, hfi, hpl, follow, hmf, receiverAt, run_underlying hu, Place.get]
    have hmd : ∀ n : Nat, (method (n + Made.depth) T (.pointer q) nm).run cx.P w = .ok (f, .pointer q) w := fun n => hmeth (n + (Made.depth - 1))
    simp only [execOp, ho, resolve, hxs, ha.eval hf, invoke, Sem.run_bind, Sem.run_pure, Result.andThen_ok, callMethod]
    simp [hmd, hcall]
  rw [hr]
  simp only [Oper.upon]
  have hready : Ready I H1 w := ⟨hst.sub, fun p hp => hst.own p (List.mem_append_left _ hp), by
    have := hst.nodup; rw [List.map_append, List.nodup_append] at this; exact this.1, fun p hp => hst.dis p (List.mem_append_left _ hp)⟩
  refine (hs.2 w hready).mono ?_
  rintro en w' ⟨I', H1', hs', hp⟩
  have hle := hs'.le
  have hst' := hst.call hs'
  cases en with
  | returned v =>
    rw [hd]
    exact hK _ _ _ (k v I' H1' hle hp) _ _ (ha.put hn) hst'
  | panicked ch => exact kp ch I' H1' hle hp _ _ ha hst'
  | outgrown => exact (ko _ _ hp).elim
end
theorem St.set1 {w : World} {I : Heap} {b T off : Nat} {cs : List Value} {v : Value} (hr : Ready I [(b, cel T cs)] w) : St w [b] I I [(b, cel T (cs.set off v))] (w.setCell ⟨b, off, none⟩ v) := by
  have hb : w.heap[b]? = some (cel T cs) := hr.2.1 (b, cel T cs) (.head _)
  have hst : St w [b] I I [(b, cel T cs)] w := St.start w I [(b, cel T cs)] hr.1 hr.2.1 hr.2.2.1 hr.2.2.2
  rw [setCell_block (fr := (0, 0)) hb]
  exact hst.block (i := 0) rfl LSet.z
theorem Ctr.of_set {P : Program} {f : FuncId} {args : List Value} {I : Heap} {b T off : Nat} {cs : List Value} {x y v : Value} (he : Enters P f) (hx : cs[off]? = some x)
    (h : ∀ w, w.cell? ⟨b, off, none⟩ = some x → w.frozen? ⟨b, off, none⟩ = false → Calls P f args.toArray w fun e w' => e = .returned v ∧ w' = w.setCell ⟨b, off, none⟩ y) :
    Ctr P f args I [(b, cel T cs)] (fun e _I' H' => e = .returned v ∧ H' = [(b, cel T (cs.set off y))]) :=
  ⟨he, fun w hr => (h w (cell_of_heap (hr.2.1 _ (.head _)) hx) (by have := hr.2.1 _ (.head _); simp only at this; simp [World.frozen?, this, cel])).mono fun e w' ⟨h1, h2⟩ => ⟨I, _, h2 ▸ St.set1 hr, h1, rfl⟩⟩
theorem Ctr.of_read {P : Program} {f : FuncId} {args : List Value} {I : Heap} {b T off : Nat} {cs : List Value} {x v : Value} (he : Enters P f) (hx : cs[off]? = some x)
    (h : ∀ w, w.cell? ⟨b, off, none⟩ = some x → Calls P f args.toArray w fun e w' => e = .returned v ∧ w' = w) :
    Ctr P f args I [(b, cel T cs)] (fun e _I' H' => e = .returned v ∧ H' = [(b, cel T cs)]) :=
  ⟨he, fun w hr => (h w (cell_of_heap (hr.2.1 _ (.head _)) hx)).mono fun _e _w' ⟨h1, h2⟩ => ⟨I, _, h2 ▸ St.start w I _ hr.1 hr.2.1 hr.2.2.1 hr.2.2.2, h1, rfl⟩⟩
theorem CtrD.of_set {P : Program} {f : FuncId} {args : List Value} {u : FrameMode} {I : Heap} {b T off : Nat} {cs : List Value} {x y v : Value} (he : Enters P f) (hx : cs[off]? = some x)
    (h : ∀ w, w.cell? ⟨b, off, none⟩ = some x → w.frozen? ⟨b, off, none⟩ = false → CallsD P f args.toArray u w fun e u' w' => u' = u ∧ (e = .returned v ∧ (w' = w.setCell ⟨b, off, none⟩ y ∨ w' = w.drew.setCell ⟨b, off, none⟩ y))) :
    CtrD P f args u I [(b, cel T cs)] (fun u' _I' H' => u' = u ∧ H' = [(b, cel T (cs.set off y))]) :=
  ⟨he, fun w hr => (h w (cell_of_heap (hr.2.1 _ (.head _)) hx) (by have := hr.2.1 _ (.head _); simp only at this; simp [World.frozen?, this, cel])).mono fun e u' w' ⟨h0, h1, h2⟩ => ⟨⟨v, h1⟩, I, _, by
    have hs := St.set1 (off := off) (v := y) hr
    rcases h2 with h2 | h2
    · rw [h2]; exact hs
    rw [h2]; exact hs.drew, h0, rfl⟩⟩
def tab (f : Nat → Value) (tr : Value) : List Value := (List.range 256).map f ++ [tr]
theorem tab_len (f : Nat → Value) (tr : Value) : (tab f tr).length = 257 := by simp [tab]
theorem tab_at (f : Nat → Value) (tr : Value) {i : Nat} (h : i < 256) : (tab f tr)[i]? = some (f i) := by
  unfold tab
  rw [List.getElem?_append_left (by simpa using h)]
  simp [h]
theorem tab_tr (f : Nat → Value) (tr : Value) : (tab f tr)[256]? = some tr := by
  unfold tab
  rw [List.getElem?_append_right (by simp)]
  simp
theorem tab_set (f : Nat → Value) (tr v : Value) {i : Nat} (h : i < 256) : (tab f tr).set i v = tab (fun j => if j = i then v else f j) tr := by
  apply List.ext_getElem?
  intro j
  rw [List.getElem?_set]
  rcases Nat.lt_or_ge j 256 with hj | hj
  · rw [tab_at _ _ hj, tab_at _ _ hj]
    by_cases hij : i = j
    · subst hij; simp [tab_len]; omega
    have : ¬ j = i := fun he => hij he.symm
    simp [hij, this]
  have hij : ¬ i = j := by omega
  simp only [hij, if_false]
  unfold tab
  rw [List.getElem?_append_right (by simpa using hj), List.getElem?_append_right (by simpa using hj)]
  simp
theorem tab_setTr (f : Nat → Value) (tr v : Value) : (tab f tr).set 256 v = tab f v := by
  unfold tab
  rw [List.set_append_right _ _ (by simp)]
  simp
theorem tab_one {f : Nat → Value} {tr : Value} (hf : ∀ i, (f i).oneCell' = true) (ht : tr.oneCell' = true) : (tab f tr).all Value.oneCell' = true := by
  unfold tab
  simp [hf, ht]
theorem tab_spl (f : Nat → Value) (a v : Value) : LSpl (tab f a) 256 [v] (tab f v) := by
  refine ⟨by simp [tab_len], ?_⟩
  unfold tab
  rw [List.take_append_of_le_length (by simp), List.take_of_length_le (by simp), List.drop_eq_nil_of_le (by simp)]
  simp
theorem LSpl.all {l xs : List Value} (h : l.length = xs.length) : LSpl l 0 xs xs := ⟨by simp [h], by simp [← h]⟩
theorem gV_cells1 (n : Nat) (g : Gs) : (gV n g).cells = #[gV n g] := by cases g <;> rfl
theorem gV_oneC (n : Nat) (g : Gs) : (gV n g).oneCell' = true := by cases g <;> rfl
def BytSl (I : Heap) (l : List UInt8) (v : Value) : Prop := ∃ b c sp fr, v = .slice (some ⟨b, 0, none⟩) l.length c ∧ I b = some (.cells (bcs l ++ sp).toArray 5 fr)
theorem BytSl.mono {I I' : Heap} {l : List UInt8} {v : Value} (h : BytSl I l v) (hle : Le I I') : BytSl I' l v := let ⟨b, c, sp, fr, h1, h2⟩ := h; ⟨b, c, sp, fr, h1, hle _ _ h2⟩
section
variable {cx : Cx} {Q : Qt} {e : Env} {I : Heap} {H : HL}
theorem Ej.leave2 {fn : Func} {post : Ending → Heap → HL → Prop} {H1 H2 H3 R1 : HL} {f1 f2 : Nat} {cap1 vs1 cap2 vs2 : List Value} (hds : cx.ds = [⟨.fn (.func f1) cap1.toArray, vs1.toArray⟩, ⟨.fn (.func f2) cap2.toArray, vs2.toArray⟩])
    (h1 : CtrD cx.P f1 (vs1 ++ cap1) .returning I H1 fun u' _I' H' => u' = .returning ∧ H' = H2) (h2 : ∀ I', CtrD cx.P f2 (vs2 ++ cap2) .returning I' H2 fun u' _I'' H' => u' = .returning ∧ H' = H3)
    (k : ∀ I', Le I I' → ResJ cx fn post e I' (H3 ++ R1)) : Ej cx (bodyPostD cx.P fn (RR cx.w0 cx.D cx.I0 post)) .normal e I (H1 ++ R1) := by
  intro a w ha hst
  show Leaves cx.P fn a.tmps (RR cx.w0 cx.D cx.I0 post) a.defers .returning w
  rw [ha.defs, hds]
  refine leaves_one (by simp) h1 hst ?_
  rintro u' I' H1' w' hle ⟨rfl, rfl⟩ hs'
  refine leaves_one (by simp []) (h2 I') hs' ?_
  rintro u2 I2 H2' w2 hle2 ⟨rfl, rfl⟩ hs2
  exact k I2 (hle.trans hle2) a w2 ha hs2
theorem ResJ.none {fn : Func} {post : Ending → Heap → HL → Prop} (hr : fn.results = #[]) (hp : post (.returned (.tuple #[])) I H) : ResJ cx fn post e I H :=
  fun _a _w _ hs => ⟨.tuple #[], results_none hr _ _ _, I, H, hs, hp⟩
end
end Go.Sx
end
section
namespace Go.Sx
open Go
def YC (P : Program) (l : Nat) (args : List Value) (I : Heap) (H : HL) (post : Ending → Heap → HL → Prop) : Prop :=
  ∀ w, Ready I H w → ∃ f tmps assign body, (Instr.yield l args.toArray).run P w = .ok (.round l f tmps assign body) w ∧ RoundIn Fence.wide 0 P l f tmps assign body w (RR w (H.map (·.1)) I post)
theorem fence_round {rd : Option Nat} {n : Nat} {P : Program} {l : Nat} {f : FuncId} {tmps : Array Value} {assign body : Code} {w : World} {R : Ending → World → Prop} (h : RoundIn Fence.wide n P l f tmps assign body w R) : RoundIn { Fence.wide with round := rd } n P l f tmps assign body w R := by
  cases rd with
  | none => exact h
  | some l => exact h
section
variable {cx : Cx} {Q : Qt} {o : Oper} {e : Env} {I : Heap}
theorem wp_yield {H1 R : HL} {d l : Nat} {fo : Operand} {xs : List Operand} {ts : Array TypeId} {vs : List Value} {post : Ending → Heap → HL → Prop} {K : Act → World → Prop}
    (ho : o.op = .call ⟨.value fo, xs.toArray, ts⟩) (hd : o.dst = some d) (hn : Nat.blt d cx.n = true) (hf : ev e fo = some (.func (.yield l) #[] #[])) (hx : evs e xs = some vs) (hs : YC cx.P l vs I H1 post)
    (k : ∀ v I' H1', Le I I' → post (.returned v) I' H1' → ∀ a w, Has a cx.n ((d, v) :: e) cx.ds → St cx.w0 cx.D cx.I0 I' (R ++ H1') w → K a w)
    (kp : ∀ ch I' H1', ¬ post (.panicked ch) I' H1') (ko : ∀ I' H1', ¬ post .outgrown I' H1') {a : Act} {w : World} (ha : Has a cx.n e cx.ds) (hst : St cx.w0 cx.D cx.I0 I (R ++ H1) w) : o.wpIn cx.F 0 cx.P a w K Q := by
  replace hst := hst.perm (H' := H1 ++ R) List.perm_append_comm
  have hready : Ready I H1 w := ⟨hst.sub, fun p hp => hst.own p (List.mem_append_left _ hp), by
    have := hst.nodup; rw [List.map_append, List.nodup_append] at this; exact this.1, fun p hp => hst.dis p (List.mem_append_left _ hp)⟩
  obtain ⟨f, tmps, assign, body, h1, h2⟩ := hs w hready
  have hr : (execOp a.eval o).run cx.P w = .ok (.round l f tmps assign body) w := by
    have hxs : xs.toArray.map a.eval = vs.toArray := by
      rw [List.map_toArray, ha.evals hx]
    simp only [execOp, ho, resolve, hxs, ha.eval hf, Deferred.ofValue, invoke, Sem.run_bind, Sem.run_pure, Result.andThen_ok, Array.empty_append, h1]
  refine ⟨fun _ _ => trivial, ?_⟩
  have he : o.semAt cx.F.round a.eval = execOp a.eval o := Oper.semAt_eq _ _ _ (fun c hc => by rw [ho] at hc; cases hc)
  rw [he, hr]
  refine ⟨fun h => by simp [Cx.F, Fence.wide] at h, ?_⟩
  refine RoundIn.mono (fence_round (rd := cx.rd) h2) ?_
  rintro en w' ⟨I', H1', hs', hp⟩
  have hle := hs'.le
  have hst' := (hst.call hs').perm (H' := R ++ H1') List.perm_append_comm
  cases en with
  | returned v =>
    rw [hd]
    exact k v I' H1' hle hp _ _ (ha.put hn) hst'
  | panicked ch => exact (kp _ _ _ hp).elim
  | outgrown => exact (ko _ _ hp).elim
theorem J.yield {ops : Array Oper} {r : List Oper} {H1 : HL} (R : HL) {d l : Nat} {fo : Operand} {xs : List Operand} {ts : Array TypeId} {vs : List Value} {post : Ending → Heap → HL → Prop}
    (hg : o.guard = none) (ho : o.op = .call ⟨.value fo, xs.toArray, ts⟩) (hd : o.dst = some d) (hn : Nat.blt d cx.n = true) (hf : ev e fo = some (.func (.yield l) #[] #[])) (hx : evs e xs = some vs) (hs : YC cx.P l vs I H1 post)
    (k : ∀ v I' H1', Le I I' → post (.returned v) I' H1' → J cx Q ops r ((d, v) :: e) I' (R ++ H1'))
    (kp : ∀ ch I' H1', ¬ post (.panicked ch) I' H1') (ko : ∀ I' H1', ¬ post .outgrown I' H1') : J cx Q ops (o :: r) e I (R ++ H1) :=
  fun _ _ ha hst => wpListIn_plain hg fun _ hK => wp_yield ho hd hn hf hx hs (fun v I' H1' hle hp a w ha hst => hK a w (k v I' H1' hle hp a w ha hst)) kp ko ha hst
theorem J.yieldG {ops : Array Oper} {r : List Oper} {H1 : HL} (R : HL) {d l : Nat} {fo : Operand} {xs : List Operand} {ts : Array TypeId} {vs : List Value} {post : Ending → Heap → HL → Prop} (j dj : Nat) (want b : Bool)
    (hg : o.guard = some (j, want)) (hdj : (ops[j]?).bind (·.dst) = some dj) (hv : eg e dj = some (.bool b)) (hb : b = want) (ho : o.op = .call ⟨.value fo, xs.toArray, ts⟩) (hd : o.dst = some d) (hn : Nat.blt d cx.n = true) (hf : ev e fo = some (.func (.yield l) #[] #[])) (hx : evs e xs = some vs) (hs : YC cx.P l vs I H1 post)
    (k : ∀ v I' H1', Le I I' → post (.returned v) I' H1' → J cx Q ops r ((d, v) :: e) I' (R ++ H1'))
    (kp : ∀ ch I' H1', ¬ post (.panicked ch) I' H1') (ko : ∀ I' H1', ¬ post .outgrown I' H1') : J cx Q ops (o :: r) e I (R ++ H1) := by
  intro a w ha hst
  refine wpListIn_step fun K hK => ?_
  rw [if_pos (by simp [Region.wanted, hg, yielded_of ha hdj hv, hb])]
  exact wp_yield ho hd hn hf hx hs (fun v I' H1' hle hp a w ha hst => hK a w (k v I' H1' hle hp a w ha hst)) kp ko ha hst
end
def YS (P : Program) (l : Nat) (xs : List (List Value)) (Y : Nat → Heap → HL → Prop) (Z : Heap → HL → Prop) : Prop :=
  ∀ k args, xs[k]? = some args → ∀ I H, Y k I H → YC P l args I H (fun e I' H' => (e = .returned (.bool true) ∧ Y (k + 1) I' H') ∨ (e = .returned (.bool false) ∧ Z I' H'))
def Gen (P : Program) (f : FuncId) (fst cap : List Value) (I : Heap) (xs : List (List Value)) : Prop :=
  Enters P f ∧ ∀ (l : Nat) (Y : Nat → Heap → HL → Prop) (Z : Heap → HL → Prop), (∀ k I1 I2 H, Le I1 I2 → Y k I1 H → Y k I2 H) → YS P l xs Y Z →
    ∀ H, Y 0 I H → Ctr P f (fst ++ [.func (.yield l) #[] #[]] ++ cap) I H (fun e I' H' => e = .returned (.tuple #[]) ∧ (Y xs.length I' H' ∨ Z I' H'))
def zipEnv : List Tmp → List Value → Env → Env
  | t :: ps, v :: vs, e => zipEnv ps vs ((t, v) :: e)
  | _, _, e => e
theorem Has.zip {n : Nat} : ∀ (ps : List Tmp) (vs : List Value) (e : Env) (tmps : Array Value), (∀ t ∈ ps, Nat.blt t n = true) → Has ⟨tmps, []⟩ n e [] → Has ⟨(ps.zip vs).foldl (fun tmps (x : Tmp × Value) => tmps.setIfInBounds x.1 x.2) tmps, []⟩ n (zipEnv ps vs e) []
  | [], _, _, _, _, h => h
  | _ :: _, [], _, _, _, h => h
  | t :: ps, _v :: vs, _e, tmps, hn, h => Has.zip ps vs _ _ (fun u hu => hn u (.tail _ hu)) (Has.put (a := ⟨tmps, []⟩) h (hn t (.head _)))
def AsgQ (cx : Cx) (l : Nat) (r : Loop) (body : Code) (Q : Qt) : Qt
  | .normal, a, w => ∃ e I H, Has a cx.n e cx.ds ∧ St cx.w0 cx.D cx.I0 I ((l, .loop r) :: H) w ∧ Cj cx Q body e I ((l, .loop { r with state := .busy }) :: H)
  | _, _, _ => False
def RdQ (cx : Cx) (l : Nat) (r : Loop) (Y : Heap → HL → Prop) (Z : Code → Heap → HL → Prop) : Qt
  | .normal, _, w => ∃ I H, St cx.w0 cx.D cx.I0 I ((l, .loop { r with state := .busy }) :: H) w ∧ Y I H
  | .ret, _, w => ∃ I H, St cx.w0 cx.D cx.I0 I ((l, .loop { r with state := .busy }) :: H) w ∧ Z .ret I H
  | .exit id, _, w => ∃ I H, St cx.w0 cx.D cx.I0 I ((l, .loop { r with state := .busy }) :: H) w ∧ Z (.exit id) I H
  | _, _, _ => False
section
variable {cx : Cx} {Q : Qt} {e : Env} {I : Heap} {H : HL} {l : Nat} {r : Loop} {Y : Heap → HL → Prop} {Z : Code → Heap → HL → Prop}
theorem Ej.asg {body : Code} (k : Cj cx Q body e I ((l, .loop { r with state := .busy }) :: H)) : Ej cx (AsgQ cx l r body Q) .normal e I ((l, .loop r) :: H) :=
  fun _ _ ha hs => ⟨e, I, H, ha, hs, k⟩
theorem Ej.rdNormal (h : Y I H) : Ej cx (RdQ cx l r Y Z) .normal e I ((l, .loop { r with state := .busy }) :: H) := fun _ _ _ hs => ⟨I, H, hs, h⟩
abbrev markOf (b : Nat) : Deferred := { target := .collected b, args := #[] }
theorem Cj.rangeFunc {g : Operand} {ps : List Tmp} {assign body : Code} {f : Nat} {fst cap : List Value} {H1 R : HL} (xs : List (List Value)) (Y : Nat → Heap → HL → Prop) (Z : Code → Heap → HL → Prop)
    (hr : cx.rd = none) (hps : ∀ t ∈ ps, Nat.blt t cx.n = true) (hlen : ∀ args ∈ xs, args.length = ps.length) (hg : ev e g = some (.func (.func f) fst.toArray cap.toArray)) (hgen : Gen cx.P f fst cap I xs)
    (hmono : ∀ k I1 I2 H, Le I1 I2 → Y k I1 H → Y k I2 H) (h0 : Y 0 I H1)
    (round : ∀ l r k args I1 Hk w0, xs[k]? = some args → Le I I1 → Y k I1 Hk →
      Cj ⟨cx.P, cx.n, w0, l :: Hk.map (·.1), I1, [], some l⟩ (AsgQ ⟨cx.P, cx.n, w0, l :: Hk.map (·.1), I1, [], some l⟩ l r body (RdQ ⟨cx.P, cx.n, w0, l :: Hk.map (·.1), I1, [], some l⟩ l r (Y (k + 1)) Z)) assign (zipEnv ps args e) I1 ((l, .loop r) :: Hk))
    (done : ∀ b I' H', Le I I' → Y xs.length I' H' → Ej { cx with ds := markOf b :: cx.ds } Q .normal e I' ((b, .deferred (some [])) :: (H' ++ R)))
    (left : ∀ b c I' H', Le I I' → Z c I' H' → Cj { cx with ds := markOf b :: cx.ds } Q c e I' ((b, .deferred (some [])) :: (H' ++ R))) :
    Cj cx Q (.rangeFunc g ps.toArray assign body) e I (H1 ++ R) := by
  intro a w ha hst
  rw [Cx.wide hr]
  refine wpIn_rangeFunc fun fn _ => ?_
  obtain ⟨r, hr0⟩ : ∃ r : Loop, r = { state := .ready, pending := none, fn := fn, tmps := a.tmps, params := ps.toArray, assign := assign, body := body, defers := w.heap.size } := ⟨_, rfl⟩
  obtain ⟨l, hl⟩ : ∃ l, l = w.heap.size + 1 := ⟨_, rfl⟩
  have hst1 : St cx.w0 cx.D cx.I0 I (((l, .loop r) :: H1) ++ ((w.heap.size, .deferred (some [])) :: R)) ((w.alloc (.deferred (some []))).alloc (.loop r)) := by
    have h1 := (hst.alloc (.deferred (some []))).alloc (.loop r)
    have h2 : (w.heap.push (.deferred (some []))).size = l := by rw [hl, Array.size_push]
    rw [h2] at h1
    refine h1.perm ?_
    show ((l, Obj.loop r) :: (H1 ++ (w.heap.size, Obj.deferred (some [])) :: R)).Perm _
    exact List.Perm.cons _ List.perm_middle
  let Y' : Nat → Heap → HL → Prop := fun k I1 H => Le I I1 ∧ ∃ Hk, H = (l, .loop r) :: Hk ∧ Y k I1 Hk
  let Z' : Heap → HL → Prop := fun I1 H => ∃ c Hk, H = (l, .loop { r with state := .done, pending := some c }) :: Hk ∧ Z c I1 Hk
  have hYS : YS cx.P l xs Y' Z' := by
    rintro k args hk I1 H ⟨hle, Hk, rfl, hY⟩ w1 hready
    have hlr : w1.heap[l]? = some (.loop r) := hready.2.1 _ (.head _)
    have hal := hlen args (List.mem_of_getElem? hk)
    refine ⟨r.fn, _, r.assign, r.body, run_yield hlr (by rw [hr0]; simp [hal]), roundIn_of_wpIn trivial ?_⟩
    have hz : (r.params.zip args.toArray).foldl (fun tmps (x : Tmp × Value) => tmps.setIfInBounds x.1 x.2) r.tmps = (ps.zip args).foldl (fun tmps (x : Tmp × Value) => tmps.setIfInBounds x.1 x.2) a.tmps := by
      rw [hr0]; simp [List.zip_toArray]
    have hhas := Has.zip (n := cx.n) ps args e a.tmps hps ⟨ha.size, rfl, ha.get⟩
    rw [← hz] at hhas
    have hc := round l r k args I1 Hk w1 hk hle hY _ _ hhas (St.start w1 I1 ((l, .loop r) :: Hk) hready.1 hready.2.1 hready.2.2.1 hready.2.2.2)
    have e1 : r.assign = assign := by rw [hr0]
    have e2 : r.body = body := by rw [hr0]
    rw [e1, e2]
    refine wpIn_mono hc ?_
    rintro x a2 w2 hq
    cases x with
    | normal =>
      obtain ⟨e2, I2, H2, ha2, hs2, hb⟩ := hq
      refine ⟨_, run_beginRound (hs2.own _ (.head _)) (by rw [hr0]), ?_⟩
      have hs3 := hs2.block (i := 0) (o' := .loop { r with state := .busy }) rfl LSet.z
      refine wpIn_mono (hb a2 _ ha2 hs3) ?_
      rintro x a3 w3 hq3
      cases x with
      | normal =>
        obtain ⟨I3, H3, hs4, hY4⟩ := hq3
        refine ⟨_, _, run_endRound none (hs4.own _ (.head _)), I3, (l, .loop r) :: H3, ?_, .inl ⟨rfl, hle.trans hs4.le, H3, rfl, hY4⟩⟩
        have := hs4.block (i := 0) (o' := .loop r) rfl LSet.z
        rw [hr0] at this ⊢
        exact this
      | ret =>
        obtain ⟨I3, H3, hs4, hZ4⟩ := hq3
        exact ⟨_, _, run_endRound (some .ret) (hs4.own _ (.head _)), I3, _, hs4.block (i := 0) rfl LSet.z, .inr ⟨rfl, _, H3, rfl, hZ4⟩⟩
      | exit id =>
        obtain ⟨I3, H3, hs4, hZ4⟩ := hq3
        exact ⟨_, _, run_endRound (some (.exit id)) (hs4.own _ (.head _)), I3, _, hs4.block (i := 0) rfl LSet.z, .inr ⟨rfl, _, H3, rfl, hZ4⟩⟩
      | goto t => exact hq3.elim
      | panic ch => exact hq3.elim
      | outgrown => exact hq3.elim
    | exit id => exact hq.elim
    | goto t => exact hq.elim
    | ret => exact hq.elim
    | panic ch => exact hq.elim
    | outgrown => exact hq.elim
  have hctr := hgen.2 l Y' Z' (fun k I1 I2 H hle ⟨h1, Hk, h2, h3⟩ => ⟨h1.trans hle, Hk, h2, hmono _ _ _ _ hle h3⟩) hYS ((l, .loop r) :: H1) ⟨Le.refl _, H1, rfl, h0⟩
  have hready : Ready I ((l, .loop r) :: H1) ((w.alloc (.deferred (some []))).alloc (.loop r)) := ⟨hst1.sub, fun p hp => hst1.own p (List.mem_append_left _ hp), by
    have := hst1.nodup; rw [List.map_append, List.nodup_append] at this; exact this.1, fun p hp => hst1.dis p (List.mem_append_left _ hp)⟩
  have hent : (Instr.enterLoop fn a.tmps ps.toArray assign body none).run cx.P w = .ok (l, [markOf w.heap.size]) ((w.alloc (.deferred (some []))).alloc (.loop r)) := by
    rw [hl, hr0]; exact run_enterLoop_outer fn a.tmps ps.toArray assign body
  refine ⟨l, [markOf w.heap.size], (w.alloc (.deferred (some []))).alloc (.loop r), ⟨.fn (.func f) cap.toArray, (fst ++ [Value.func (.yield l) #[] #[]]).toArray⟩, (w.alloc (.deferred (some []))).alloc (.loop r), f, (fst ++ [Value.func (.yield l) #[] #[]] ++ cap).toArray, (w.alloc (.deferred (some []))).alloc (.loop r), hent, ?_, fun _ _ => trivial, ?_, fun h => by simp [Fence.wide] at h, callsIn_wide.2 ?_⟩
  · have he : a.eval (.const (.func (.yield l) #[] #[])) = .func (.yield l) #[] #[] := rfl
    simp [resolve, ha.eval hg, Deferred.ofValue, he]
  · have h := run_callFunc hgen.1 (fst ++ [Value.func (.yield l) #[] #[]] ++ cap).toArray ((w.alloc (.deferred (some []))).alloc (.loop r))
    simpa [invoke] using h
  refine (hctr.2 _ hready).mono ?_
  rintro en w' ⟨I', H', hs', rfl, hYZ⟩
  have hst2 := hst1.call hs'
  have hle := hs'.le
  have ha2 : Has { a with defers := [markOf w.heap.size] ++ a.defers } cx.n e (markOf w.heap.size :: cx.ds) := ⟨ha.size, by simp [ha.defs], ha.get⟩
  rcases hYZ with ⟨_, Hk, rfl, hY⟩ | ⟨c, Hk, rfl, hZ⟩
  · refine ⟨_, _, run_endLoop (hst2.own _ (.head _)) (by rw [hr0]; simp), ?_⟩
    have hs5 := ((hst2.block (i := 0) (o' := .loop { r with state := .exhausted }) rfl LSet.z).sublist (List.sublist_cons_self _ _)).perm (H' := (w.heap.size, .deferred (some [])) :: (Hk ++ R)) List.perm_middle.symm
    have hp : r.pending = none := by rw [hr0]
    rw [hp] at hs5 ⊢
    exact done w.heap.size I' Hk hle hY _ _ ha2 hs5
  refine ⟨_, _, run_endLoop (hst2.own _ (.head _)) (by simp), ?_⟩
  have hs5 := ((hst2.block (i := 0) (o' := .loop { { r with state := .done, pending := some c } with state := .exhausted }) rfl LSet.z).sublist (List.sublist_cons_self _ _)).perm (H' := (w.heap.size, .deferred (some [])) :: (Hk ++ R)) List.perm_middle.symm
  have hw := left w.heap.size c I' Hk hle hZ _ _ ha2 hs5
  have hF : ({ cx with ds := markOf w.heap.size :: cx.ds } : Cx).F = Fence.wide := Cx.wide hr
  rw [hF] at hw
  exact hw
end
theorem one_blt {t n : Nat} (h : Nat.blt t n = true) : ∀ u ∈ [t], Nat.blt u n = true := fun u hu => by simp at hu; subst hu; exact h
theorem seq1 {α : Type} (l : List α) (f : α → Value) : ∀ args ∈ l.map (fun x => [f x]), args.length = 1 := fun args h => by
  obtain ⟨x, _, rfl⟩ := List.mem_map.1 h; rfl
theorem seq1_at {α : Type} {l : List α} {f : α → Value} {k : Nat} {args : List Value} (h : (l.map (fun x => [f x]))[k]? = some args) : ∃ x, l[k]? = some x ∧ args = [f x] := by
  rw [List.getElem?_map] at h
  cases hl : l[k]? with
  | none => rw [hl] at h; cases h
  | some x => rw [hl] at h; cases h; exact ⟨x, rfl, rfl⟩
theorem Cj.isNew {cx : Cx} {Q : Qt} {c : Code} {e : Env} {I : Heap} {H : HL} (hD : cx.D = []) (k : (∀ p ∈ H, cx.w0.heap.size ≤ p.1) → Cj cx Q c e I H) : Cj cx Q c e I H := fun a w ha hs => k (fun p hp => by
  have := hs.new p hp
  rw [hD] at this
  exact this.resolve_left (by simp)) a w ha hs
theorem gOk.base {b0 b1 sz n : Nat} {xs : List Value} {g : Gs} {T : TypeId} (h : gOk b0 sz n xs g) (hn : ∀ p ∈ gH T xs g, b1 ≤ p.1) : gOk b1 sz n xs g := by
  cases g with
  | none => exact h
  | some q => exact ⟨hn _ (.head _), h.2⟩
theorem Ctr.of_bodyM {P : Program} {f : FuncId} {fn : Func} {c : Code} {args : List Value} {I : Heap} {H : HL} {post : Ending → Heap → HL → Prop} (hf : P.funcs[f]? = some fn) (hb : fn.body = some c) (hname : fn.name ≠ "runtime.NumGoroutine")
    (hn : args.length ≤ fn.ntmps)
    (h : ∀ w0, Ready I H w0 → Cj ⟨P, fn.ntmps, w0, H.map (·.1), I, [], none⟩ (bodyPostM Fence.wide 0 P fn (RR w0 (H.map (·.1)) I post)) c (argsEnv 0 args) I H) : Ctr P f args I H post := by
  refine ⟨⟨fn, hf, hname, by simp [hb]⟩, fun w hw => ?_⟩
  refine (callsIn_wide (n := 0)).1 (callsIn_of_wp_marks hf hb trivial ?_)
  exact h w hw _ _ (Has.start args fn.ntmps hn) (St.start w I H hw.1 hw.2.1 hw.2.2.1 hw.2.2.2)
def LvJ (cx : Cx) (fn : Func) (post : Ending → Heap → HL → Prop) (ds : List Deferred) (e : Env) (I : Heap) (H : HL) : Prop :=
  ∀ a w, Has a cx.n e cx.ds → St cx.w0 cx.D cx.I0 I H w → LeavesInM Fence.wide 0 cx.P fn a.tmps (RR cx.w0 cx.D cx.I0 post) ds .returning w
section
variable {cx : Cx} {fn : Func} {post : Ending → Heap → HL → Prop} {e : Env} {I : Heap} {H H' : HL} {ds : List Deferred}
theorem Ej.leaveM {x : Exit} (hx : x = .ret ∨ x = .normal) (h : LvJ cx fn post cx.ds e I H) : Ej cx (bodyPostM Fence.wide 0 cx.P fn (RR cx.w0 cx.D cx.I0 post)) x e I H := by
  intro a w ha hs
  have := h a w ha hs
  rw [← ha.defs] at this
  rcases hx with rfl | rfl
  · exact this
  exact this
theorem LvJ.mark {b : Nat} (i : Nat) (hH : H[i]? = some (b, .deferred (some []))) (hH' : LSet H i (b, .deferred none) H') (h : LvJ cx fn post ds e I H') : LvJ cx fn post (markOf b :: ds) e I H :=
  fun a _ ha hs => ⟨by simp, .inl ⟨b, _, rfl, run_takeDeferred (hs.own _ (List.mem_of_getElem? hH)), h a _ ha (hs.block hH hH')⟩⟩
theorem LvJ.keep (hk : Keeps H' H) (h : LvJ cx fn post ds e I H') : LvJ cx fn post ds e I H := fun a w ha hs => h a w ha (hs.sublist hk)
theorem LvJ.ret1 {t : Nat} {v : Value} (hr : fn.results = #[.tmp t]) (hv : eg e t = some v) (hp : post (.returned v) I H) : LvJ cx fn post [] e I H := by
  intro a w ha hs
  refine ⟨v, ?_, I, H, hs, hp⟩
  rw [results_tmp hr]
  have := ha.get t v hv
  simp [this]
end
end Go.Sx
end
section
namespace Go.Sx
open Go
section
variable {α : Type} [BEq α] [LawfulBEq α]
abbrev ML (α : Type) := List (α × Value × Nat)
abbrev ment (kv : α → Value) (p : α × Value × Nat) : MapEntry := { key := kv p.1, val := p.2.1, born := p.2.2 }
def mobj (kv : α → Value) (l : ML α) (c : Nat) : Obj := .map (l.map (ment kv)).toArray c
def mget (l : ML α) (a : α) : Option Value := match l with
  | [] => none
  | (b, v, _) :: r => if a == b then some v else mget r a
def mset (l : ML α) (a : α) (v : Value) (c : Nat) : ML α := match l with
  | [] => [(a, v, c)]
  | (b, u, n) :: r => if a == b then (b, v, n) :: r else (b, u, n) :: mset r a v c
def mclk (l : ML α) (a : α) (c : Nat) : Nat := if (mget l a).isSome then c else c + 1
def midx (l : ML α) (a : α) (i : Nat) : Option (Nat × Value) := match l with
  | [] => none
  | (b, v, _) :: r => if a == b then some (i, v) else midx r a (i + 1)
def KeyK (P : Program) (K : TypeId) (kv : α → Value) : Prop :=
  (∀ (a : α) (l : ML α) (w : World), (Instr.findKey K (kv a) (l.map (ment kv))).run P w = .ok (midx l a 0) w) ∧ (∀ b a w, (Instr.checkKey b 10000 K (kv a)).run P w = .ok () w) ∧ ∀ a, Instr.sameBits 10000 (kv a) (kv a) = true
theorem run_findKey {P : Program} {K : TypeId} {w : World} {d : TypeDesc} (hu : P.underlying K = some d) {k : Value} {es : List MapEntry} {r : Option (Nat × Value)} (h : Instr.findNow d k es 0 = some r) : (Instr.findKey K k es).run P w = .ok r w := by
  simp [Instr.findKey, run_underlying hu, h]
omit [LawfulBEq α] in
theorem findNow_midx {kv : α → Value} {d : TypeDesc} (hs : ∀ a b, Instr.sameNow d (kv a) (kv b) = some (a == b)) (a : α) : ∀ (l : ML α) (i : Nat), Instr.findNow d (kv a) (l.map (ment kv)) i = some (midx l a i)
  | [], _ => rfl
  | (b, u, n) :: r, i => by
    simp only [List.map_cons, Instr.findNow, hs, midx]
    cases a == b
    · simp only [Bool.false_eq_true, if_false]; exact findNow_midx hs a r (i + 1)
    simp
omit [LawfulBEq α] in
theorem KeyK.now {P : Program} {K : TypeId} {kv : α → Value} {d : TypeDesc} (hu : P.underlying K = some d) (hs : ∀ a b, Instr.sameNow d (kv a) (kv b) = some (a == b)) (hc : ∀ b a w, (Instr.checkKey b 10000 K (kv a)).run P w = .ok () w) (hb : ∀ a, Instr.sameBits 10000 (kv a) (kv a) = true) : KeyK P K kv :=
  ⟨fun a l _ => run_findKey hu (findNow_midx hs a l 0), hc, hb⟩
omit [LawfulBEq α] in
theorem run_asking {P : Program} {K : TypeId} {kv : α → Value} {w : World} (he : ∀ a b, (Op.equal K (kv a) (kv b)).run P w = .ok (a == b) w) (a : α) : ∀ (l : ML α) (i : Nat), (Instr.findAsking K (kv a) (l.map (ment kv)) i).run P w = .ok (midx l a i) w
  | [], i => by simp [Instr.findAsking, midx]
  | (b, u, n) :: r, i => by
    simp only [List.map_cons, Instr.findAsking, midx, Sem.run_bind, he, Result.andThen_ok]
    cases a == b
    · simp only [Bool.false_eq_true, if_false]; exact run_asking he a r (i + 1)
    simp
omit [LawfulBEq α] in
theorem KeyK.equal {P : Program} {K : TypeId} {kv : α → Value} {d : TypeDesc} (hu : P.underlying K = some d) (hs : ∀ a b, Instr.sameNow d (kv a) (kv b) = none) (he : ∀ a b w, (Op.equal K (kv a) (kv b)).run P w = .ok (a == b) w) (hc : ∀ b a w, (Instr.checkKey b 10000 K (kv a)).run P w = .ok () w) (hb : ∀ a, Instr.sameBits 10000 (kv a) (kv a) = true) : KeyK P K kv := by
  refine ⟨fun a l w => ?_, hc, hb⟩
  cases l with
  | nil => exact run_findKey hu rfl
  | cons p r =>
    have h1 : Instr.findNow d (kv a) ((p :: r).map (ment kv)) 0 = none := by simp [Instr.findNow, hs]
    have h2 := run_asking (P := P) (K := K) (w := w) (fun a b => he a b w) a (p :: r) 0
    simp only [Instr.findKey, Sem.run_bind, run_underlying hu, Result.andThen_ok, h1]
    exact h2
theorem KeyK.int {P : Program} {K : TypeId} {k : IntKind} (hu : P.underlying K = some (.int k)) : KeyK P K (fun a : Int => Value.int k a) := by
  refine KeyK.now hu (fun a b => by simp [Instr.sameNow]) (fun b a w => ?_) (fun a => ?_)
  · have h : ∀ n, (Instr.checkKey b (n + 1) K (.int k a)).run P w = .ok () w := fun n => by simp [Instr.checkKey, run_underlying hu]
    exact h 9999
  have h : ∀ n, Instr.sameBits (n + 1) (.int k a) (.int k a) = true := fun n => by simp [Instr.sameBits]
  exact h 9999
theorem sameBits_str (a : List UInt8) : ∀ n, Instr.sameBits n (str a) (str a) = true := fun n => by
  cases n <;> simp only [Instr.sameBits, str] <;> (show (a.toArray == a.toArray) = true) <;> simp
theorem KeyK.text {P : Program} {K : TypeId} (hu : P.underlying K = some .string) : KeyK P K (fun a : List UInt8 => str a) := by
  refine KeyK.now hu (fun a b => ?_) (fun b a w => run_checkKey hu b a w) (fun a => sameBits_str a _)
  simp only [Instr.sameNow, str, Option.some.injEq]
  show (a.toArray == b.toArray) = (a == b)
  simp
theorem midx_none {a : α} : ∀ (l : ML α) (i : Nat), mget l a = none → midx l a i = none ∧ ∀ v c, mset l a v c = l ++ [(a, v, c)]
  | [], _, _ => ⟨rfl, fun _ _ => rfl⟩
  | (b, u, n) :: r, i, h => by
    unfold mget at h
    split at h
    · cases h
    rename_i hne
    obtain ⟨h1, h2⟩ := midx_none r (i + 1) h
    have hb : (a == b) = false := by simpa using hne
    refine ⟨?_, fun v c => ?_⟩
    · simp only [midx, hb]; exact h1
    simp only [mset, hb, Bool.false_eq_true, if_false, h2, List.cons_append]
theorem midx_some {a : α} {v : Value} : ∀ (l : ML α) (i : Nat), mget l a = some v →
    ∃ j u n, midx l a i = some (i + j, v) ∧ l[j]? = some (a, u, n) ∧ ∀ x c, mset l a x c = l.set j (a, x, n)
  | [], _, h => by cases h
  | (b, u, n) :: r, i, h => by
    unfold mget at h
    split at h
    · rename_i he
      have he' := eq_of_beq he
      subst he'
      cases h
      exact ⟨0, v, n, by simp [midx], rfl, fun x c => by simp [mset]⟩
    rename_i hne
    have hb : (a == b) = false := by simpa using hne
    obtain ⟨j, u', n', h1, h2, h3⟩ := midx_some r (i + 1) h
    refine ⟨j + 1, u', n', ?_, by simpa using h2, fun x c => by simp [mset, hb, h3]⟩
    simp only [midx, hb, Bool.false_eq_true, if_false]
    rw [h1, Nat.add_assoc, Nat.add_comm 1 j]
variable {cx : Cx} {Q : Qt} {e : Env} {I : Heap} {H : HL} {o : Oper} {C : Ct} {S : World → Prop}
theorem run_mapUpdate {P : Program} {T K E b c : Nat} {kv : α → Value} {l : ML α} {a : α} {v : Value} {w : World} (hT : P.underlying T = some (.map K E)) (hk : KeyK P K kv) (hb : w.heap[b]? = some (mobj kv l c)) :
    (Instr.mapUpdate T (.map (some b)) (kv a) v).run P w = .ok () (World.block w b (mobj kv (mset l a v c) (mclk l a c))) := by
  obtain ⟨hf, hc, hbits⟩ := hk
  have hg : (getObj b).run P w = .ok (mobj kv l c) w := by simp [getObj, Sem.run, hb, mobj]
  have hset : ∀ o', (setObj b o').run P w = .ok () (World.block w b o') := fun o' => by simp [setObj, Sem.run, hb, World.block, mobj]
  cases hm : mget l a with
  | none =>
    obtain ⟨h1, h2⟩ := midx_none l 0 hm
    have h3 : (Instr.findKey K (kv a) (l.map (ment kv))).run P w = .ok none w := by rw [hf, h1]
    simp only [Instr.mapUpdate, Sem.run_bind, run_underlying hT, Result.andThen_ok, hg, mobj, hc, h3, hset, h2, mclk, hm]
    simp
  | some u =>
    obtain ⟨j, u', n, h1, h2, h3⟩ := midx_some l 0 hm
    rw [Nat.zero_add] at h1
    have h4 : (Instr.findKey K (kv a) (l.map (ment kv))).run P w = .ok (some (j, u)) w := by rw [hf, h1]
    have hj : (l.map (ment kv)).toArray[j]? = some { key := kv a, val := u', born := n } := by simp [h2, ment]
    have hkeep : ∀ w, (Instr.keyThatStays (kv a) (kv a)).run P w = .ok (kv a) w := fun w => by simp [Instr.keyThatStays, hbits]
    simp only [Instr.mapUpdate, Sem.run_bind, run_underlying hT, Result.andThen_ok, hg, mobj, hc, h4, hj, Option.map_some, Option.getD_some, hkeep, hset, h3, mclk, hm]
    simp only [Option.isSome_some, if_true]
    refine congrArg (fun A => Result.ok () (World.block w b (Obj.map A c))) ?_
    apply Array.ext_getElem?
    intro i
    rw [Array.getElem?_modify]
    simp only [List.getElem?_toArray, List.getElem?_map, List.getElem?_set]
    by_cases hi : j = i
    · subst hi
      have hlt : j < l.length := by
        rcases Nat.lt_or_ge j l.length with h' | h'
        · exact h'
        simp [List.getElem?_eq_none h'] at h2
      have h5 : l[j] = (a, u', n) := by
        have := List.getElem?_eq_getElem hlt
        rw [h2] at this; exact (Option.some.inj this).symm
      simp [hlt, h5]
    simp [hi]
theorem op_insert {T K E b c : Nat} {m x y : Operand} {kv : α → Value} {l : ML α} {a : α} {kx v : Value} {H' : HL} (i : Nat) (ho : o.op = .insert T m x y ∨ o.op = .mapUpdate T m x y) (hd : o.dst = none) (hm : ev e m = some (.map (some b))) (hx : ev e x = some kx) (hkx : kx = kv a) (hy : ev e y = some v) (hT : cx.P.underlying T = some (.map K E)) (hK : KeyK cx.P K kv)
    (hH : H[i]? = some (b, mobj kv l c)) (hH' : LSet H i (b, mobj kv (mset l a v c) (mclk l a c)) H') (kk : C e I H') : OpJ cx Q o e I H C := by
  intro Kk hKk w0 w ha hs
  unfold Oper.wp
  subst hkx
  have hb := hs.own _ (List.mem_of_getElem? hH)
  have hr := run_mapUpdate (a := a) (v := v) hT hK hb
  have : (execOp w0.eval o).run cx.P w = .ok .skip (World.block w b (mobj kv (mset l a v c) (mclk l a c))) := by
    rcases ho with ho | ho <;> simp [execOp, ho, ha.eval hm, ha.eval hx, ha.eval hy, hr]
  rw [this]
  simp only [Oper.upon, hd]
  exact hKk _ _ _ kk _ _ ha.putNone (hs.block hH hH')
theorem run_lookup {P : Program} {T K E b c : Nat} {kv : α → Value} {l : ML α} {a : α} {z : Value} {w : World} {ok : Bool} (hT : P.underlying T = some (.map K E)) (hk : KeyK P K kv) (hz : ∀ w, (zeroValue E).run P w = .ok z w) (hb : w.heap[b]? = some (mobj kv l c)) :
    (Instr.lookup T (.map (some b)) (kv a) ok).run P w = .ok (if ok then .tuple #[(mget l a).getD z, .bool (mget l a).isSome] else (mget l a).getD z) w := by
  obtain ⟨hf, hc, hbits⟩ := hk
  have hg : (getObj b).run P w = .ok (mobj kv l c) w := by simp [getObj, Sem.run, hb, mobj]
  cases hm : mget l a with
  | none =>
    have h3 : (Instr.findKey K (kv a) (l.map (ment kv))).run P w = .ok none w := by rw [hf, (midx_none l 0 hm).1]
    simp only [Instr.lookup, Sem.run_bind, run_underlying hT, Result.andThen_ok, hg, mobj, Sem.run_pure, hc, h3, hz]
    simp
  | some u =>
    obtain ⟨j, u', n, h1, h2, h3⟩ := midx_some l 0 hm
    have h4 : (Instr.findKey K (kv a) (l.map (ment kv))).run P w = .ok (some (0 + j, u)) w := by rw [hf, h1]
    simp only [Instr.lookup, Sem.run_bind, run_underlying hT, Result.andThen_ok, hg, mobj, Sem.run_pure, hc, h4]
    simp
theorem yl_lookup2 {T K E b c : Nat} {m x : Operand} {kv : α → Value} {l : ML α} {a : α} {kx z : Value} (ho : o.op = .lookup T m x true) (hm : ev e m = some (.map (some b))) (hx : ev e x = some kx) (hkx : kx = kv a) (hT : cx.P.underlying T = some (.map K E)) (hK : KeyK cx.P K kv) (hz : ∀ w, (zeroValue E).run cx.P w = .ok z w)
    (hb : Blk S b (mobj kv l c)) : Yld cx o e S (.tuple #[(mget l a).getD z, .bool (mget l a).isSome]) := by
  intro w0 w ha hs
  subst hkx
  have hr := run_lookup (a := a) (ok := true) hT hK hz (hb w hs)
  simp only [execOp, ho, Sem.run_bind, ha.eval hm, ha.eval hx, hr, Result.andThen_ok, Sem.run_pure, if_true]
theorem yl_lookup1 {T K E b c : Nat} {m x : Operand} {kv : α → Value} {l : ML α} {a : α} {kx z : Value} (ho : o.op = .lookup T m x false) (hm : ev e m = some (.map (some b))) (hx : ev e x = some kx) (hkx : kx = kv a) (hT : cx.P.underlying T = some (.map K E)) (hK : KeyK cx.P K kv) (hz : ∀ w, (zeroValue E).run cx.P w = .ok z w)
    (hb : Blk S b (mobj kv l c)) : Yld cx o e S ((mget l a).getD z) := by
  intro w0 w ha hs
  subst hkx
  have hr := run_lookup (a := a) (ok := false) hT hK hz (hb w hs)
  simp only [execOp, ho, Sem.run_bind, ha.eval hm, ha.eval hx, hr, Result.andThen_ok, Sem.run_pure, if_false, Bool.false_eq_true]
end
end Go.Sx
end
section
namespace Go.Sx
open Go
def StrSl (T : TypeId) (I : Heap) (l : List (List UInt8)) (v : Value) : Prop := ∃ b c sp, v = .slice (some ⟨b, 0, none⟩) l.length c ∧ I b = some (cel T (l.map str ++ sp))
theorem StrSl.mono {T : TypeId} {I I' : Heap} {l : List (List UInt8)} {v : Value} (h : StrSl T I l v) (hle : Le I I') : StrSl T I' l v :=
  let ⟨b, c, sp, h1, h2⟩ := h; ⟨b, c, sp, h1, hle _ _ h2⟩
theorem str_get {l : List (List UInt8)} {sp : List Value} {k : Nat} {x : List UInt8} (h : l[k]? = some x) : (l.map str ++ sp)[k]? = some (str x) := by
  obtain ⟨hlt, hg⟩ := List.getElem?_eq_some_iff.1 h
  rw [List.getElem?_append_left (by simpa using hlt)]
  simp [h]
theorem ba_list (l : List UInt8) : (⟨l.toArray⟩ : ByteArray).data.toList = l := by simp
theorem i32w {x : Int} (h : -2147483648 ≤ x ∧ x ≤ 2147483647) : IntKind.i32.wrap x = x := by
  simp [IntKind.wrap, IntKind.bits, IntKind.signed]; omega
theorem drop_cons {α : Type} {s : List α} {k : Nat} {c : α} (h : s[k]? = some c) : s.drop k = c :: s.drop (k + 1) := by
  obtain ⟨hlt, hg⟩ := List.getElem?_eq_some_iff.1 h
  rw [List.drop_eq_getElem_cons hlt, hg]
theorem Ej.ret3 {cx : Cx} {fn : Func} {post : Ending → Heap → HL → Prop} {e : Env} {I : Heap} {H : HL} {t u s : Nat} {v x y : Value} (hr : fn.results = #[.tmp t, .tmp u, .tmp s]) (hds : cx.ds = []) (hv : eg e t = some v) (hx : eg e u = some x) (hy : eg e s = some y) (hp : post (.returned (.tuple #[v, x, y])) I H) :
    Ej cx (bodyPost cx.P fn (RR cx.w0 cx.D cx.I0 post)) .ret e I H := by
  intro a w ha hs
  refine ⟨ha.defs.trans hds, _, ?_, I, H, hs, hp⟩
  have h1 := ha.get t v hv
  have h2 := ha.get u x hx
  have h3 := ha.get s y hy
  simp [results, hr, h1, h2, h3]
theorem Ctr.frame {P : Program} {f : FuncId} {args : List Value} {I : Heap} {H : HL} {post : Ending → Heap → HL → Prop} (R : HL) (h : Ctr P f args I H post) : Ctr P f args I (H ++ R) (fun e I' H' => ∃ H1, H' = H1 ++ R ∧ post e I' H1) := by
  refine ⟨h.1, fun w hw => ?_⟩
  have hst := St.start w I (H ++ R) hw.1 hw.2.1 hw.2.2.1 hw.2.2.2
  have hready : Ready I H w := ⟨hst.sub, fun p hp => hst.own p (List.mem_append_left _ hp), by
    have := hst.nodup; rw [List.map_append, List.nodup_append] at this; exact this.1, fun p hp => hst.dis p (List.mem_append_left _ hp)⟩
  refine (h.2 w hready).mono fun e w' ⟨I', H1, hs, hp⟩ => ⟨I', H1 ++ R, hst.call hs, H1, rfl, hp⟩
theorem Ctr.drop {P : Program} {f : FuncId} {args : List Value} {I : Heap} {H : HL} {post post' : Ending → Heap → HL → Prop} (h : Ctr P f args I H post) (hp : ∀ e I' H', post e I' H' → ∃ H2, H2.Sublist H' ∧ post' e I' H2) : Ctr P f args I H post' :=
  ⟨h.1, fun w hw => (h.2 w hw).mono fun e _ ⟨I', H', hs, hq⟩ => let ⟨H2, h1, h2⟩ := hp e I' H' hq; ⟨I', H2, hs.sublist h1, h2⟩⟩
theorem op_callN {cx : Cx} {Q : Qt} {o : Oper} {e : Env} {I : Heap} {C : Ct} {R : HL} {d f : Nat} {fo : Operand} {xs : List Operand} {ts : Array TypeId} {fst cap vs : List Value} {post : Ending → Heap → HL → Prop}
    (ho : o.op = .call ⟨.value fo, xs.toArray, ts⟩) (hd : o.dst = some d) (hn : Nat.blt d cx.n = true) (hf : ev e fo = some (.func (.func f) fst.toArray cap.toArray)) (hx : evs e xs = some vs)
    (hs : Ctr cx.P f (fst ++ vs ++ cap) I [] post)
    (k : ∀ v I' H1', Le I I' → (∀ p ∈ H1', cx.w0.heap.size ≤ p.1) → post (.returned v) I' H1' → C ((d, v) :: e) I' (H1' ++ R))
    (kp : ∀ ch I' H1', Le I I' → post (.panicked ch) I' H1' → Ej cx Q (.panic ch) e I' (H1' ++ R))
    (ko : ∀ I' H1', ¬ post .outgrown I' H1') : OpJ cx Q o e I R C := by
  intro K hK a w ha hst
  unfold Oper.wp
  have hr : (execOp a.eval o).run cx.P w = .ok (.enter f (fst ++ vs ++ cap).toArray) w := by
    have hxs : xs.toArray.map a.eval = vs.toArray := by
      rw [List.map_toArray, ha.evals hx]
    simp only [execOp, ho, resolve, hxs, ha.eval hf, Deferred.ofValue, invoke, Sem.run_bind, Sem.run_pure, Result.andThen_ok, run_callFunc hs.1]
    simp
  rw [hr]
  simp only [Oper.upon]
  have hready : Ready I [] w := ⟨hst.sub, fun _ hp => absurd hp (List.not_mem_nil), List.nodup_nil, fun _ hp => absurd hp (List.not_mem_nil)⟩
  refine (hs.2 w hready).mono ?_
  rintro en w' ⟨I', H1', hs', hp⟩
  have hle := hs'.le
  have hst' := St.call (H1 := []) (R := R) hst hs'
  have hnew : ∀ p ∈ H1', cx.w0.heap.size ≤ p.1 := fun p hp => Nat.le_trans hst.size ((hs'.new p hp).resolve_left (by simp))
  cases en with
  | returned v =>
    rw [hd]
    exact hK _ _ _ (k v I' H1' hle hnew hp) _ _ (ha.put hn) hst'
  | panicked ch => exact kp ch I' H1' hle hp _ _ ha hst'
  | outgrown => exact (ko _ _ hp).elim
def StrS (T : TypeId) (I : Heap) (l : List (List UInt8)) (v : Value) : Prop := (l = [] ∧ v = .slice none 0 0) ∨ ∃ b c sp, v = .slice (some ⟨b, 0, none⟩) l.length c ∧ l.length ≤ c ∧ I b = some (cel T (l.map str ++ sp))
theorem StrS.mono {T : TypeId} {I I' : Heap} {l : List (List UInt8)} {v : Value} (h : StrS T I l v) (hle : Le I I') : StrS T I' l v := h.imp id fun ⟨b, c, sp, h1, h2, h3⟩ => ⟨b, c, sp, h1, h2, hle _ _ h3⟩
theorem StrS.some {T : TypeId} {I : Heap} {l : List (List UInt8)} {v : Value} (h : StrS T I l v) (hl : l ≠ []) : StrSl T I l v := let ⟨b, c, sp, h1, _, h3⟩ := h.resolve_left fun h => hl h.1; ⟨b, c, sp, h1, h3⟩
section
variable {cx : Cx} {Q : Qt} {e : Env} {I : Heap} {R : HL} {T : TypeId} {l : List (List UInt8)} {n base : Nat} {g : Gs}
theorem gS_none (hg : gOk base 1 n (l.map str) none) : l = [] ∧ n = 0 := ⟨by simpa using hg.2, hg.1⟩
theorem gS_some {b c : Nat} {sp : List Value} (hg : gOk base 1 n (l.map str) (some (b, c, sp))) : base ≤ b ∧ n = l.length ∧ l.length ≤ c := ⟨hg.1, by have := hg.2.1; simpa using this.symm, by have := hg.2.2; simp at this; omega⟩
theorem gS_cases {X : Heap → HL → Prop} (hg : gOk base 1 n (l.map str) g) (hp : ∀ b o, base ≤ b → (∀ I', Le I I' → I' b = some o → X I' R) → X I ((b, o) :: R)) (k : ∀ I', Le I I' → StrS T I' l (gV n g) → X I' R) : X I (gH T (l.map str) g ++ R) := by
  cases g with
  | none =>
    obtain ⟨h1, h2⟩ := gS_none hg
    subst h2
    exact k I (Le.refl _) (.inl ⟨h1, rfl⟩)
  | some q =>
    obtain ⟨b, c, sp⟩ := q
    obtain ⟨h1, h2, h3⟩ := gS_some hg
    subst h2
    exact hp b _ h1 fun I' hle hb => k I' hle (.inr ⟨b, c, sp, rfl, h3, hb⟩)
theorem Cj.keepS {c : Code} (hg : gOk cx.w0.heap.size 1 n (l.map str) g) (k : ∀ I', Le I I' → StrS T I' l (gV n g) → Cj cx Q c e I' R) : Cj cx Q c e I (gH T (l.map str) g ++ R) :=
  gS_cases (X := fun I H => Cj cx Q c e I H) hg (fun _ _ hb k => Cj.persist hb k) k
theorem J.keepS {ops : Array Oper} {r : List Oper} (hg : gOk cx.w0.heap.size 1 n (l.map str) g) (k : ∀ I', Le I I' → StrS T I' l (gV n g) → J cx Q ops r e I' R) : J cx Q ops r e I (gH T (l.map str) g ++ R) :=
  gS_cases (X := fun I H => J cx Q ops r e I H) hg (fun _ _ hb k => J.persist hb k) k
end
section
variable {cx : Cx} {Q : Qt} {o : Oper} {e : Env} {I : Heap} {H : HL} {C : Ct} {S : World → Prop}
theorem yl_buildA {T E sz len : Nat} {parts : List (Nat × Operand)} {vs zs cs : List Value} {z : Value} (ho : o.op = .build T parts.toArray) (hv : evs e (parts.map (·.2)) = some vs)
    (hz : ∀ w, (zeroValue T).run cx.P w = .ok z w) (hzc : z.cells = zs.toArray) (hu : cx.P.underlying T = some (.array len E)) (hsz : ∀ w, (sizeOf E).run cx.P w = .ok sz w)
    (hb : Instr.fill (fun i => some (i * sz, sz)) zs.toArray ((parts.map (·.1)).zip vs) = some cs.toArray) : Yld cx o e S (.agg cs.toArray) :=
  yl_build ho hv fun w => by
    simp only [Instr.build, Sem.run_bind, hz, hzc, run_underlying hu, Result.andThen_ok, hsz, hb, Sem.run_pure]
theorem run_equalBool {P : Program} {w : World} {T : Nat} {l m : Bool} (hT : P.underlying T = some .bool) : (Op.equal T (.bool l) (.bool m)).run P w = .ok (l == m) w := by
  show (Op.equalIn (9999 + 1) T (.bool l) (.bool m)).run P w = _
  rw [Op.equalIn]
  simp only [Sem.run_bind, run_underlying hT, Result.andThen_ok, Sem.run_pure]
theorem yl_eqlBool {x y : Operand} {T U : Nat} {l m : Bool} (ho : o.op = .binOp .eql T x y U) (hx : ev e x = some (.bool l)) (hy : ev e y = some (.bool m)) (hT : cx.P.underlying T = some .bool) : Yld cx o e S (.bool (l == m)) := by
  intro a w ha _
  have hg : eqGuard .eql T x y (.bool l) (.bool m) = pure () := rfl
  simp [execOp, ho, ha.eval hx, ha.eval hy, hg, binOp, run_equalBool hT]
theorem yl_neqBool {x y : Operand} {T U : Nat} {l m : Bool} (ho : o.op = .binOp .neq T x y U) (hx : ev e x = some (.bool l)) (hy : ev e y = some (.bool m)) (hT : cx.P.underlying T = some .bool) : Yld cx o e S (.bool (l != m)) := by
  intro a w ha _
  have hg : eqGuard .neq T x y (.bool l) (.bool m) = pure () := rfl
  simp [execOp, ho, ha.eval hx, ha.eval hy, hg, binOp, run_equalBool hT, bne]
end
end Go.Sx
end
section
namespace Go.Sx
open Go
def rcs (l : List Nat) : List Value := l.map fun (r : Nat) => Value.int .i32 (r : Int)
theorem rcs_get {l : List Nat} {sp : List Value} {k c : Nat} (h : l[k]? = some c) : (rcs l ++ sp)[k]? = some (.int .i32 (c : Int)) := by
  obtain ⟨hlt, hg⟩ := List.getElem?_eq_some_iff.1 h
  rw [List.getElem?_append_left (by simpa [rcs] using hlt)]
  simp [rcs, h]
section
variable {cx : Cx} {Q : Qt} {o : Oper} {e : Env} {I : Heap} {H : HL} {C : Ct} {S : World → Prop}
theorem op_toRunes {Sy T E d : Nat} {x : Operand} {l : List UInt8} {rs : List Nat} (hr : Conv.runesFrom ⟨l.toArray⟩ l.length 0 #[] = (rcs rs).toArray) (ho : o.op = .convert Sy T x) (hd : o.dst = some d) (hn : Nat.blt d cx.n = true) (hx : ev e x = some (str l))
    (hS : cx.P.underlying Sy = some .string) (hT : cx.P.underlying T = some (.slice E)) (hE : cx.P.underlying E = some (.int .i32))
    (k : ∀ b c sp, cx.w0.heap.size ≤ b → C ((d, .slice (some ⟨b, 0, none⟩) rs.length c) :: e) I ((b, cel E (rcs rs ++ sp)) :: H)) : OpJ cx Q o e I H C := by
  intro K hK a w ha hst
  unfold Oper.wp
  let cap := (Question.appendCap rs.length 0 E).cut (w.tape w.drawn (.appendCap rs.length 0 E))
  let sp : List Value := List.replicate (cap - rs.length) (.int .i32 0)
  have hsz : (rcs rs).toArray.size = rs.length := by simp [rcs]
  have hrun : (execOp a.eval o).run cx.P w = .ok (.value (.slice (some ⟨w.heap.size, 0, none⟩) rs.length cap))
      { { w with drawn := w.drawn + 1 } with heap := w.heap.push (cel E (rcs rs ++ sp)) } := by
    have h0 : (rcs rs).toArray ++ Array.replicate (cap - rs.length) (Value.int IntKind.i32 0) = (rcs rs ++ sp).toArray := by
      simp [sp]
    simp only [execOp, ho, convert, ha.eval hx, str, Sem.run_bind, run_underlying hS, run_underlying hT, Result.andThen_ok, run_underlying hE, Conv.stringToRunes, size_mk, hr, hsz, run_choose, Question.forced, newRow, run_newObj, Bool.false_eq_true, if_false, Sem.run_pure]
    rw [show (Question.appendCap rs.length 0 E).cut (w.tape w.drawn (Question.appendCap rs.length 0 E)) = cap from rfl, h0]
    rfl
  rw [hrun]
  simp only [Oper.upon, hd]
  exact hK _ _ _ (k w.heap.size cap sp hst.size) _ _ (ha.put hn) ((hst.drewN (w.drawn + 1)).alloc _)
theorem gV_slice {base sz n : Nat} {xs : List Value} {g : Gs} (h : gOk base sz n xs g) : ∃ p c, gV n g = .slice p n c := by
  cases g with
  | none => obtain ⟨rfl, _⟩ := h; exact ⟨none, 0, rfl⟩
  | some q => obtain ⟨b, c, sp⟩ := q; exact ⟨_, c, rfl⟩
theorem yl_lenG {base sz n : Nat} {xs : List Value} {g : Gs} (h : gOk base sz n xs g) {x : Operand} {T E : TypeId} (ho : o.op = .call ⟨.builtin .len, #[x], #[T]⟩) (hx : ev e x = some (gV n g)) (hu : cx.P.underlying T = some (.slice E)) : Yld cx o e S (i64 (n : Int)) := by
  obtain ⟨p, c, hp⟩ := gV_slice h
  exact yl_lenSlice ho (hx.trans (congrArg some hp)) hu
theorem yl_toStr1 {Sy T E : Nat} {x : Operand} (r : Int) {b c : Nat} {cs : List Value} {t : TypeId} {fr : Nat × Nat} (ho : o.op = .convert Sy T x) (hx : ev e x = some (.slice (some ⟨b, 0, none⟩) 1 c))
    (hS : cx.P.underlying Sy = some (.slice E)) (hT : cx.P.underlying T = some .string) (hE : cx.P.underlying E = some (.int .i32)) (hb : Blk S b (.cells cs.toArray t fr)) (hl : cs[0]? = some (.int .i32 r)) :
    Yld cx o e S (str (Utf8.encode r).data.toList) := by
  intro a w ha hs
  have hc : ∀ j v, [Value.int .i32 r][j]? = some v → w.cell? ((⟨b, 0, none⟩ : Addr).add j) = some v := fun j v hj => by
    rw [Addr.add_lit]
    refine cell_of_heap (hb w hs) ?_
    cases j with
    | zero => simp at hj; subst hj; simpa using hl
    | succ j => simp at hj
  have h1 := run_loadCells_list (P := cx.P) (w := w) ⟨b, 0, none⟩ [Value.int .i32 r] hc
  have h2 : (loadCells ⟨b, 0, none⟩ 1).run cx.P w = .ok #[Value.int .i32 r] w := h1
  simp only [execOp, ho, convert, ha.eval hx, Sem.run_bind, run_underlying hS, run_underlying hT, Result.andThen_ok, run_underlying hE, Conv.runesToString, h2]
  simp [str]
end
end Go.Sx
end
section
namespace Go.Sx
open Go
section
variable {cx : Cx} {Q : Qt} {o : Oper} {e : Env} {I : Heap} {H : HL} {C : Ct} {S : World → Prop}
theorem yl_lssStr {x y : Operand} {T U : Nat} {l m : List UInt8} (ho : o.op = .binOp .lss T x y U) (hx : ev e x = some (str l)) (hy : ev e y = some (str m)) : Yld cx o e S (.bool (decide (l < m))) := by
  intro a w ha _
  have h := Go.Proofs.bytesLess_eq l m
  simp [execOp, ho, ha.eval hx, ha.eval hy, str, eqGuard_at_string, binOp, Op.stringOp, h]
theorem yl_geqStr {x y : Operand} {T U : Nat} {l m : List UInt8} (ho : o.op = .binOp .geq T x y U) (hx : ev e x = some (str l)) (hy : ev e y = some (str m)) : Yld cx o e S (.bool (!decide (l < m))) := by
  intro a w ha _
  have h := Go.Proofs.bytesLess_eq l m
  simp [execOp, ho, ha.eval hx, ha.eval hy, str, eqGuard_at_string, binOp, Op.stringOp, h]
theorem yl_gtrStr {x y : Operand} {T U : Nat} {l m : List UInt8} (ho : o.op = .binOp .gtr T x y U) (hx : ev e x = some (str l)) (hy : ev e y = some (str m)) : Yld cx o e S (.bool (!(decide (l < m) || l == m))) := by
  intro a w ha _
  have h := Go.Proofs.bytesLess_eq l m
  simp [execOp, ho, ha.eval hx, ha.eval hy, str, eqGuard_at_string, binOp, Op.stringOp, h]
end
end Go.Sx
namespace Go.Sx
open Go
theorem Le.mono {I J K : Heap} (h : Le I J) (k : Le J K) : Le I K := h.trans k
theorem Ej.retC {cx : Cx} {fn : Func} {post : Ending → Heap → HL → Prop} {e : Env} {I : Heap} {H H' : HL} {t T b n : Nat} {cs : List Value} {ty : TypeId} {fr : Nat × Nat} (hk : Keeps H' H) (hr : fn.results = #[.cell t T]) (hds : cx.ds = []) (hv : eg e t = some (ptr b 0))
    (hb : Blk (SS I H) b (.cells cs.toArray ty fr)) (ha0 : ∀ w, (isAgg T).run cx.P w = .ok true w) (hsz : ∀ w, (sizeOf T).run cx.P w = .ok n w) (hn : cs.length = n) (hp : post (.returned (.agg cs.toArray)) I H') :
    Ej cx (bodyPost cx.P fn (RR cx.w0 cx.D cx.I0 post)) .ret e I H := by
  intro a w ha hs
  refine ⟨ha.defs.trans hds, _, ?_, I, H', hs.sublist hk, hp⟩
  have h1 := ha.get t _ hv
  have hc : ∀ j v, cs[j]? = some v → w.cell? ((⟨b, 0, none⟩ : Addr).add j) = some v := fun j v hj => by
    rw [Addr.add_lit]; exact cell_of_heap (hb w hs.ss) (by simpa using hj)
  have h2 := run_loadCells_list (P := cx.P) (w := w) ⟨b, 0, none⟩ cs hc
  rw [hn] at h2
  simp [results, hr, h1, asAddr, loadVar, ha0, hsz, h2]
end Go.Sx
end
section
namespace Go.Sx
open Go Go.Sort Go.Proofs
end Go.Sx
end
section
namespace Go.Sx
open Go
theorem row_at {α : Type} {f : α → List Value} {n : Nat} (hf : ∀ x, (f x).length = n) {sp : List Value} : ∀ {l : List α} {k : Nat} {x : α}, l[k]? = some x → ((l.flatMap f ++ sp).drop (k * n)).take n = f x
  | [], _, _, h => by simp at h
  | y :: l, 0, x, h => by
    simp at h; subst h
    rw [Nat.zero_mul, List.drop_zero, List.flatMap_cons, List.append_assoc, ← hf y, List.take_left]
  | y :: l, k + 1, x, h => by
    have h' : l[k]? = some x := by simpa using h
    have := row_at hf (sp := sp) h'
    rw [List.flatMap_cons, List.append_assoc, show (k + 1) * n = (f y).length + k * n by rw [hf y, Nat.add_mul]; omega, ← List.drop_drop, List.drop_left]
    exact this
theorem row_cell {α : Type} {f : α → List Value} {n : Nat} (hf : ∀ x, (f x).length = n) {sp : List Value} {l : List α} {k : Nat} {x : α} (h : l[k]? = some x) (j : Nat) (hj : j < n) : (l.flatMap f ++ sp)[k * n + j]? = (f x)[j]? := by
  rw [← row_at hf (sp := sp) h, List.getElem?_take, if_pos hj, List.getElem?_drop]
theorem row_from {α : Type} {f : α → List Value} {n : Nat} (hf : ∀ x, (f x).length = n) {cs sp : List Value} {o : Nat} {l : List α} (h : cs.drop o = l.flatMap f ++ sp) {k : Nat} {x : α} (hx : l[k]? = some x) : (cs.drop (o + k * n)).take n = f x := by
  rw [← List.drop_drop, h]; exact row_at hf hx
theorem row_fcell {α : Type} {f : α → List Value} {n : Nat} (hf : ∀ x, (f x).length = n) {cs sp : List Value} {o : Nat} {l : List α} (h : cs.drop o = l.flatMap f ++ sp) {k : Nat} {x : α} (hx : l[k]? = some x) (j : Nat) (hj : j < n) : cs[o + k * n + j]? = (f x)[j]? := by
  rw [← row_cell hf (sp := sp) hx j hj, ← h, List.getElem?_drop, Nat.add_assoc]
def RowS {α : Type} (f : α → List Value) (I : Heap) (l : List α) (v : Value) : Prop :=
  ∃ p c, v = .slice p l.length c ∧ l.length ≤ c ∧ (l ≠ [] → ∃ b o cs t fr sp, p = some ⟨b, o, none⟩ ∧ I b = some (.cells (List.toArray cs) t fr) ∧ cs.drop o = l.flatMap f ++ sp)
theorem RowS.mono {α : Type} {f : α → List Value} {I I' : Heap} {l : List α} {v : Value} (h : RowS f I l v) (hle : Le I I') : RowS f I' l v :=
  let ⟨p, c, h1, h2, h3⟩ := h; ⟨p, c, h1, h2, fun hn => let ⟨b, o, cs, t, fr, sp, h4, h5, h6⟩ := h3 hn; ⟨b, o, cs, t, fr, sp, h4, hle _ _ h5, h6⟩⟩
theorem RowS.of {α : Type} {f : α → List Value} {I : Heap} {l : List α} {T b c : Nat} {sp : List Value} (hc : l.length ≤ c) (hb : I b = some (cel T (l.flatMap f ++ sp))) : RowS f I l (.slice (some ⟨b, 0, none⟩) l.length c) :=
  ⟨_, c, rfl, hc, fun _ => ⟨b, 0, _, T, _, sp, rfl, hb, rfl⟩⟩
theorem RowS.nil {α : Type} {f : α → List Value} {I : Heap} : RowS f I ([] : List α) (.slice none 0 0) := ⟨none, 0, rfl, Nat.le_refl _, fun h => absurd rfl h⟩
theorem ne_nil_of {α : Type} {l : List α} {k : Nat} (h : k < l.length) : l ≠ [] := fun e => by rw [e] at h; simp at h
theorem Cj.join {cx : Cx} {Q : Qt} {x y : Code} {e : Env} {I : Heap} {H : HL} {ι : Type} (pre : ι → Prop) (env : ι → Env) (hp : ι → Heap) (hl : ι → HL) (k2 : ∀ i, pre i → Cj cx Q y (env i) (hp i) (hl i))
    (k1 : (∀ j e' I' H', pre j → Sub (env j) e' → hp j = I' → hl j = H' → Ej cx (Exit.then (y.wpIn cx.F 0 cx.P Q) Q) .normal e' I' H') → Cj cx (Exit.then (y.wpIn cx.F 0 cx.P Q) Q) x e I H) : Cj cx Q (.seq x y) e I H :=
  Cj.seq (k1 fun j e' I' H' hj hs hI hH => Ej.seq (by subst hI hH; exact Cj.weak hs (k2 j hj)))
end Go.Sx
end
section
namespace Go.Sx
open Go
theorem flat_len {α : Type} {f : α → List Value} {sz : Nat} (hf : ∀ x, (f x).length = sz) : ∀ l : List α, (l.flatMap f).length = l.length * sz
  | [] => by simp
  | a :: r => by rw [List.flatMap_cons, List.length_append, hf a, flat_len hf r, List.length_cons, Nat.add_mul]; omega
theorem flat_one {α : Type} (f : α → List Value) (l : List α) (x : α) : (l ++ [x]).flatMap f = l.flatMap f ++ f x := by simp
section
variable {cx : Cx} {Q : Qt} {e : Env} {I : Heap} {R : HL} {T : TypeId} {α : Type} {l : List α} {f : α → List Value} {sz n base : Nat} {g : Gs}
theorem gR_cases {X : Heap → HL → Prop} (hf : ∀ x, (f x).length = sz) (hpos : 0 < sz) (hg : gOk base sz n (l.flatMap f) g) (hn : n = l.length) (hp : ∀ b o, base ≤ b → (∀ I', Le I I' → I' b = some o → X I' R) → X I ((b, o) :: R)) (k : ∀ I', Le I I' → RowS f I' l (gV n g) → X I' R) : X I (gH T (l.flatMap f) g ++ R) := by
  subst hn
  cases g with
  | none =>
    obtain ⟨h1, h2⟩ := hg
    have : l = [] := List.length_eq_zero_iff.1 h1
    subst this
    exact k I (Le.refl _) RowS.nil
  | some q =>
    obtain ⟨b, c, sp⟩ := q
    obtain ⟨h1, h2, h3⟩ := hg
    have hc : l.length ≤ c := by
      rw [flat_len hf] at h3
      exact Nat.le_of_mul_le_mul_right (by omega : l.length * sz ≤ c * sz) hpos
    exact hp b _ h1 fun I' hle hb => k I' hle ⟨_, c, rfl, hc, fun _ => ⟨b, 0, _, T, _, sp, rfl, hb, rfl⟩⟩
theorem Cj.keepR {c : Code} (hf : ∀ x, (f x).length = sz) (hpos : 0 < sz) (hg : gOk cx.w0.heap.size sz n (l.flatMap f) g) (hn : n = l.length) (k : ∀ I', Le I I' → RowS f I' l (gV n g) → Cj cx Q c e I' R) : Cj cx Q c e I (gH T (l.flatMap f) g ++ R) :=
  gR_cases (X := fun I H => Cj cx Q c e I H) hf hpos hg hn (fun _ _ hb k => Cj.persist hb k) k
theorem Ej.keepR {x : Exit} (hf : ∀ x, (f x).length = sz) (hpos : 0 < sz) (hg : gOk cx.w0.heap.size sz n (l.flatMap f) g) (hn : n = l.length) (k : ∀ I', Le I I' → RowS f I' l (gV n g) → Ej cx Q x e I' R) : Ej cx Q x e I (gH T (l.flatMap f) g ++ R) :=
  gR_cases (X := fun I H => Ej cx Q x e I H) hf hpos hg hn (fun _ _ hb k => Ej.persist hb k) k
theorem gV_one' (n : Nat) (g : Gs) : Value.oneCell' (gV n g) = true := by
  cases g with
  | none => rfl
  | some q => obtain ⟨b, c, sp⟩ := q; rfl
end
end Go.Sx
namespace Go.Sx
open Go
section
variable {cx : Cx} {o : Oper} {e : Env} {S : World → Prop}
theorem yl_sliceTo {x y : Operand} {T E n c sz j : Nat} {b : Option Addr} {kl : IntKind} (ho : o.op = .slice T x none (some y) none) (hx : ev e x = some (.slice b n c)) (hy : ev e y = some (.int kl (j : Int))) (hu : cx.P.underlying T = some (.slice E)) (hsz : ∀ w, (sizeOf E).run cx.P w = .ok sz w) (hj : j ≤ c) :
    Yld cx o e S (.slice b j c) := by
  intro a w ha _
  have h1 : (j : Int) ≤ c := by omega
  cases b with
  | none => simp [execOp, ho, ha.eval hx, ha.eval hy, Instr.sliceAt, Instr.slice, run_underlying hu, Instr.sliceBounds, run_sliceBound, h1, hsz]
  | some q =>
    simp [execOp, ho, ha.eval hx, ha.eval hy, Instr.sliceAt, Instr.slice, run_underlying hu, Instr.sliceBounds, run_sliceBound, h1, hsz, Addr.add]
end
theorem RowS.take {α : Type} {f : α → List Value} {I : Heap} {l : List α} {p : Option Addr} {c : Nat} (h : RowS f I l (.slice p l.length c)) {m : Nat} (hm : m ≤ l.length) : RowS f I (l.take m) (.slice p m c) := by
  obtain ⟨p', c', he, hc, hb⟩ := h
  cases he
  refine ⟨p, c, by rw [List.length_take, Nat.min_eq_left hm], by rw [List.length_take]; omega, fun hn => ?_⟩
  have hl : l ≠ [] := fun e => hn (by rw [e]; simp)
  obtain ⟨b, o, cs, t, fr, sp, h1, h2, h3⟩ := hb hl
  refine ⟨b, o, cs, t, fr, (l.drop m).flatMap f ++ sp, h1, h2, ?_⟩
  rw [h3, ← List.append_assoc, ← List.flatMap_append, List.take_append_drop]
end Go.Sx
namespace Go.Sx
open Go
theorem perm_swap {α : Type} (A G G' : List α) : (A ++ (G' ++ G)).Perm (A ++ (G ++ G')) := List.Perm.append_left A List.perm_append_comm
theorem all_flat {α : Type} {f : α → List Value} : ∀ {l : List α}, (∀ x ∈ l, (f x).all Value.oneCell' = true) → (l.flatMap f).all Value.oneCell' = true
  | [], _ => rfl
  | a :: r, h => by rw [List.flatMap_cons, List.all_append, h a (.head _), all_flat fun x hx => h x (.tail _ hx)]; rfl
theorem Src.row {P : Program} {I : Heap} {H : HL} {α : Type} {f : α → List Value} {sz : Nat} {l : List α} {v : Value} (hf : ∀ x, (f x).length = sz) (h : RowS f I l v) (h1 : ∀ x ∈ l, (f x).all Value.oneCell' = true) : Src P I H sz l.length v (l.flatMap f) := by
  obtain ⟨p, c, rfl, _, hb⟩ := h
  cases l with
  | nil => exact Src.nil
  | cons a r =>
    obtain ⟨b, o, cs, t, fr, sp, rfl, h2, h3⟩ := hb (by simp)
    have hl := flat_len hf (a :: r)
    exact Src.slice (Blk.imm h2) (by rw [h3, ← hl, List.take_left]) hl (all_flat h1)
end Go.Sx
end
section
namespace Go.Sx
open Go
def hputs : HL → Heap → Heap
  | [], I => I
  | (b, o) :: r, I => hput b o (hputs r I)
theorem hputs_at : ∀ {H : HL} {I : Heap}, (H.map (·.1)).Nodup → ∀ p ∈ H, hputs H I p.1 = some p.2
  | [], _, _, p, hp => by cases hp
  | (b, o) :: r, I, hn, p, hp => by
    rw [List.map_cons, List.nodup_cons] at hn
    unfold hputs hput
    rcases List.mem_cons.1 hp with e | e
    · rw [e]; simp
    have : p.1 ≠ b := fun g => hn.1 (by rw [← g]; exact List.mem_map_of_mem (f := (·.1)) e)
    rw [if_neg this]; exact hputs_at hn.2 p e
theorem hputs_off : ∀ {H : HL} {I : Heap} {b : Nat}, b ∉ H.map (·.1) → hputs H I b = I b
  | [], _, _, _ => rfl
  | (c, o) :: r, I, b, h => by
    rw [List.map_cons, List.mem_cons, not_or] at h
    unfold hputs hput
    rw [if_neg h.1]; exact hputs_off h.2
theorem hputs_le {H : HL} {I : Heap} (hd : ∀ p ∈ H, I p.1 = none) : Le I (hputs H I) := fun b o hb => by
  by_cases h : b ∈ H.map (·.1)
  · obtain ⟨p, hp, rfl⟩ := List.mem_map.1 h
    rw [hd p hp] at hb; cases hb
  rw [hputs_off h]; exact hb
def hless (H : HL) (J : Heap) : Heap := fun b => if b ∈ H.map (·.1) then none else J b
theorem hless_off {H : HL} {J : Heap} {b : Nat} (h : b ∉ H.map (·.1)) : hless H J b = J b := if_neg h
theorem Ctr.borrow {P : Program} {f : FuncId} {args : List Value} {I : Heap} {B : HL} {post : Ending → Heap → HL → Prop} (h : Ctr P f args (hputs B I) [] post) :
    Ctr P f args I B (fun e I' H' => ∃ J K, post e J K ∧ H' = B ++ K ∧ I' = hless B J ∧ ∀ p ∈ B, J p.1 = some p.2) := by
  refine ⟨h.1, fun w hw => ?_⟩
  obtain ⟨r1, r2, r3, r4⟩ := hw
  have hr : Ready (hputs B I) [] w := by
    unfold Ready
    refine ⟨fun b o hb => ?_, (fun p hp => by cases hp), List.Pairwise.nil, (fun p hp => by cases hp)⟩
    by_cases hm : b ∈ B.map (·.1)
    · obtain ⟨p, hp, rfl⟩ := List.mem_map.1 hm
      rw [hputs_at r3 p hp] at hb; cases hb
      exact r2 p hp
    rw [hputs_off hm] at hb; exact r1 b o hb
  refine (h.2 w hr).mono ?_
  rintro e w' ⟨J, K, hs, hp⟩
  have hJ : ∀ p ∈ B, J p.1 = some p.2 := fun p hp => hs.le _ _ (hputs_at r3 p hp)
  have hlt : ∀ p ∈ B, p.1 < w.heap.size := fun p hp => by
    have := r2 p hp
    rcases Nat.lt_or_ge p.1 w.heap.size with g | g
    · exact g
    rw [Array.getElem?_eq_none g] at this; cases this
  have hKB : ∀ q ∈ K, q.1 ∉ B.map (·.1) := fun q hq hm => by
    obtain ⟨p, hp, he⟩ := List.mem_map.1 hm
    have := hs.dis q hq
    rw [← he, hJ p hp] at this; cases this
  refine ⟨hless B J, B ++ K, ⟨hs.os, hs.tape, hs.output, hs.size, fun b hb _ => hs.frm b hb (by simp), fun b o hb => ?_, fun p hp => ?_, ?_, fun p hp => ?_, fun p hp => ?_, fun b hb => ?_, fun b o hb => ?_, noDr⟩, J, K, hp, rfl, rfl, hJ⟩
  · unfold hless at hb
    split at hb
    · cases hb
    exact hs.sub b o hb
  · rcases List.mem_append.1 hp with g | g
    · exact hs.sub _ _ (hJ p g)
    exact hs.own p g
  · rw [List.map_append, List.nodup_append]
    refine ⟨r3, hs.nodup, fun x hx y hy he => ?_⟩
    obtain ⟨q, hq, rfl⟩ := List.mem_map.1 hy
    exact hKB q hq (he ▸ hx)
  · unfold hless
    split
    · rfl
    rename_i hm
    rcases List.mem_append.1 hp with g | g
    · exact absurd (List.mem_map_of_mem g) hm
    exact hs.dis p g
  · rcases List.mem_append.1 hp with g | g
    · exact .inl (List.mem_map_of_mem g)
    rcases hs.new p g with k | k
    · cases k
    exact .inr k
  · unfold hless
    split
    · rename_i hm
      obtain ⟨p, hp, rfl⟩ := List.mem_map.1 hm
      exact (r4 p hp).symm
    rename_i hm
    rw [hs.ifr b hb, hputs_off hm]
  have hm : b ∉ B.map (·.1) := fun hm => by
    obtain ⟨p, hp, rfl⟩ := List.mem_map.1 hm
    rw [r4 p hp] at hb; cases hb
  rw [hless_off hm]
  exact hs.le b o (by rw [hputs_off hm]; exact hb)
theorem Ctr.withReady {P : Program} {f : FuncId} {args : List Value} {I : Heap} {H : HL} {post : Ending → Heap → HL → Prop} (he : Enters P f) (h : (H.map (·.1)).Nodup → (∀ p ∈ H, I p.1 = none) → Ctr P f args I H post) : Ctr P f args I H post :=
  ⟨he, fun w hw => (h hw.2.2.1 hw.2.2.2).2 w hw⟩
section
variable {cx : Cx} {Q : Qt} {e : Env} {I : Heap} {R : HL}
theorem persists_any {X : Heap → HL → Prop} {base : Nat} (hp : ∀ I b o R, base ≤ b → (∀ I', Le I I' → I' b = some o → X I' R) → X I ((b, o) :: R)) : ∀ (B : HL) (I : Heap), (∀ p ∈ B, base ≤ p.1) → (∀ I', Le I I' → (∀ p ∈ B, I' p.1 = some p.2) → X I' R) → X I (B ++ R)
  | [], I, _, k => k I (Le.refl _) fun p hp => by cases hp
  | (b, o) :: r, I, hb, k => hp I b o (r ++ R) (hb _ (.head _)) fun I' hle hI => persists_any hp r I' (fun p hp => hb p (.tail _ hp)) fun I2 hle2 hI2 => k I2 (hle.trans hle2) fun p hp => by
    rcases List.mem_cons.1 hp with g | g
    · rw [g]; exact hle2 _ _ hI
    exact hI2 p g
theorem J.persists {ops : Array Oper} {l : List Oper} (B : HL) (hb : ∀ p ∈ B, cx.w0.heap.size ≤ p.1) (k : ∀ I', Le I I' → (∀ p ∈ B, I' p.1 = some p.2) → J cx Q ops l e I' R) : J cx Q ops l e I (B ++ R) :=
  persists_any (X := fun I H => J cx Q ops l e I H) (fun _ _ _ _ hb k => J.persist hb k) B I hb k
end
def RowT {α : Type} (T : TypeId) (f : α → List Value) (I : Heap) (l : List α) (v : Value) : Prop :=
  ∃ p c, v = .slice p l.length c ∧ l.length ≤ c ∧ (l ≠ [] → ∃ b sp, p = some ⟨b, 0, none⟩ ∧ I b = some (cel T (l.flatMap f ++ sp)))
theorem RowT.mono {α : Type} {T : TypeId} {f : α → List Value} {I I' : Heap} {l : List α} {v : Value} (h : RowT T f I l v) (hle : Le I I') : RowT T f I' l v :=
  let ⟨p, c, h1, h2, h3⟩ := h; ⟨p, c, h1, h2, fun hn => let ⟨b, sp, h4, h5⟩ := h3 hn; ⟨b, sp, h4, hle _ _ h5⟩⟩
theorem RowT.row {α : Type} {T : TypeId} {f : α → List Value} {I : Heap} {l : List α} {v : Value} (h : RowT T f I l v) : RowS f I l v :=
  let ⟨p, c, h1, h2, h3⟩ := h; ⟨p, c, h1, h2, fun hn => let ⟨b, sp, h4, h5⟩ := h3 hn; ⟨b, 0, _, T, _, sp, h4, h5, rfl⟩⟩
theorem RowT.nil {α : Type} {T : TypeId} {f : α → List Value} {I : Heap} : RowT T f I ([] : List α) (.slice none 0 0) := ⟨none, 0, rfl, Nat.le_refl _, fun h => absurd rfl h⟩
section
variable {cx : Cx} {Q : Qt} {e : Env} {I : Heap} {R : HL} {T : TypeId} {α : Type} {l : List α} {f : α → List Value} {sz n base : Nat} {g : Gs}
theorem gT_cases {X : Heap → HL → Prop} (hf : ∀ x, (f x).length = sz) (hpos : 0 < sz) (hg : gOk base sz n (l.flatMap f) g) (hn : n = l.length) (hp : ∀ b o, base ≤ b → (∀ I', Le I I' → I' b = some o → X I' R) → X I ((b, o) :: R)) (k : ∀ I', Le I I' → RowT T f I' l (gV n g) → X I' R) : X I (gH T (l.flatMap f) g ++ R) := by
  subst hn
  cases g with
  | none =>
    obtain ⟨h1, h2⟩ := hg
    have : l = [] := List.length_eq_zero_iff.1 h1
    subst this
    exact k I (Le.refl _) RowT.nil
  | some q =>
    obtain ⟨b, c, sp⟩ := q
    obtain ⟨h1, h2, h3⟩ := hg
    have hc : l.length ≤ c := by
      rw [flat_len hf] at h3
      exact Nat.le_of_mul_le_mul_right (by omega : l.length * sz ≤ c * sz) hpos
    exact hp b _ h1 fun I' hle hb => k I' hle ⟨_, c, rfl, hc, fun _ => ⟨b, sp, rfl, hb⟩⟩
theorem Cj.keepT {c : Code} (hf : ∀ x, (f x).length = sz) (hpos : 0 < sz) (hg : gOk cx.w0.heap.size sz n (l.flatMap f) g) (hn : n = l.length) (k : ∀ I', Le I I' → RowT T f I' l (gV n g) → Cj cx Q c e I' R) : Cj cx Q c e I (gH T (l.flatMap f) g ++ R) :=
  gT_cases (X := fun I H => Cj cx Q c e I H) hf hpos hg hn (fun _ _ hb k => Cj.persist hb k) k
end
end Go.Sx
namespace Go.Sx
open Go
theorem St.dperm {w0 w : World} {D D' : List Nat} {I0 I : Heap} {H : HL} (h : St w0 D I0 I H w) (hd : ∀ b, b ∈ D ↔ b ∈ D') : St w0 D' I0 I H w :=
  ⟨h.os, h.tape, h.output, h.size, fun b hb hn => h.frm b hb (fun g => hn ((hd b).1 g)), h.sub, h.own, h.nodup, h.dis, fun p hp => (h.new p hp).imp (hd p.1).1 id, h.ifr, h.le, h.drw⟩
theorem Ctr.perm {P : Program} {f : FuncId} {args : List Value} {I : Heap} {H H1 : HL} {post : Ending → Heap → HL → Prop} (hp : H1.Perm H) (h : Ctr P f args I H1 post) : Ctr P f args I H post :=
  ⟨h.1, fun w hw => by
    obtain ⟨r1, r2, r3, r4⟩ := hw
    have hr : Ready I H1 w := ⟨r1, fun p g => r2 p (hp.mem_iff.1 g), (hp.map _).nodup_iff.2 r3, fun p g => r4 p (hp.mem_iff.1 g)⟩
    refine (h.2 w hr).mono ?_
    rintro e w' ⟨I', K, hk, hq⟩
    exact ⟨I', K, hk.dperm (fun b => (hp.map _).mem_iff), hq⟩⟩
theorem Ctr.leave {P : Program} {f : FuncId} {args : List Value} {I : Heap} {H : HL} {post post' : Ending → Heap → HL → Prop} (h : Ctr P f args I H post) (hp : ∀ e I' H', Le I I' → post e I' H' → ∃ K S, (K ++ S).Perm H' ∧ post' e I' K) : Ctr P f args I H post' :=
  ⟨h.1, fun w hw => (h.2 w hw).mono fun e w' ⟨I', H', hs, hq⟩ => by
    obtain ⟨K, S, hk, hq'⟩ := hp e I' H' hs.le hq
    exact ⟨I', K, (hs.perm hk).sublist (List.sublist_append_left K S), hq'⟩⟩
end Go.Sx
namespace Go.Sx
open Go
section
variable {cx : Cx} {Q : Qt} {o : Oper} {e : Env} {I : Heap} {H : HL} {C : Ct}
theorem op_callR {H1 : HL} (R : HL) {d f : Nat} {fo : Operand} {xs : List Operand} {ts : Array TypeId} {fst cap vs : List Value} {post : Ending → Heap → HL → Prop} (hH : H = R ++ H1)
    (ho : o.op = .call ⟨.value fo, xs.toArray, ts⟩) (hd : o.dst = some d) (hn : Nat.blt d cx.n = true) (hf : ev e fo = some (.func (.func f) fst.toArray cap.toArray)) (hx : evs e xs = some vs)
    (hs : Ctr cx.P f (fst ++ vs ++ cap) I H1 post)
    (k : ∀ v I' H1', Le I I' → post (.returned v) I' H1' → C ((d, v) :: e) I' (R ++ H1'))
    (kp : ∀ ch I' H1', Le I I' → post (.panicked ch) I' H1' → Ej cx Q (.panic ch) e I' (R ++ H1'))
    (ko : ∀ I' H1', ¬ post .outgrown I' H1') : OpJ cx Q o e I H C := by
  subst hH
  refine OpJ.perm (H' := H1 ++ R) List.perm_append_comm fun K hK => ?_
  exact op_call (C := fun e' I' H' => ∃ H1', H' = H1' ++ R ∧ C e' I' (R ++ H1')) ho hd hn hf hx hs (fun v I' H1' hle hp => ⟨H1', rfl, k v I' H1' hle hp⟩) (fun ch I' H1' hle hp => Ej.perm List.perm_append_comm (kp ch I' H1' hle hp)) ko K
    fun e' I' H' ⟨H1', hH, hC⟩ a w ha hs => hK e' I' (R ++ H1') hC a w ha (by subst hH; exact hs.perm List.perm_append_comm)
end
end Go.Sx
namespace Go.Sx
open Go
section
variable {cx : Cx} {Q : Qt} {o : Oper} {e : Env} {I : Heap} {H : HL} {C : Ct}
theorem op_deleteNil {α : Type} [BEq α] {kv : α → Value} {a : α} {T U : Nat} {m x : Operand} {K E : Nat} {kx : Value} (ho : o.op = .call ⟨.builtin .delete, #[m, x], #[T, U]⟩) (hd : o.dst = none) (hm : ev e m = some (.map none)) (hx : ev e x = some kx) (hkx : kx = kv a) (hT : cx.P.underlying T = some (.map K E)) (hK : KeyK cx.P K kv) (kk : C e I H) : OpJ cx Q o e I H C := by
  intro Kk hKk w0 w ha hs
  unfold Oper.wp
  subst hkx
  have : (execOp w0.eval o).run cx.P w = .ok (.value (.tuple #[])) w := by
    simp [execOp, ho, resolve, invoke, builtin, ha.eval hm, ha.eval hx, Builtin.delete_, run_underlying hT, hK.2.1]
  rw [this]
  simp only [Oper.upon, hd]
  exact hKk _ _ _ kk _ _ ha.putNone hs
end
end Go.Sx
end
