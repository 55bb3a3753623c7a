/-
  Own texts on the laws of the seat, joined: the logic, and contracts of functions. Conditions: none.
-/
import Derived.Test.YtekmeaoblpfnpaaGreatDoorNmP
import Derived.Test.YtekmeaoblpfnpaaGreatDoorPP1
import Derived.Laws.RangeAny
import Derived.Scope
import Derived.Below
import Derived.Lib.Builder
import Derived.Lib.UnsafeStr
import Derived.Laws.Externs
import Derived.Recover
import Derived.Laws.MakeOwn
import Derived.LoopN
import Derived.Test.YtekmeaoblpfnpaaGreatDoorChecked
import Derived.Test.YtekmeaoblpfnpaaGreatDoorCards
import Derived.Test.YtekmeaoblpfnpaaGreatDoorTie
import Derived.ProofKit
import Derived.OpenShut
import Derived.Lay
import Derived.Deep.DeepHandedRow
import Derived.WideKeyArr2
import Derived.RangeFuncRecord
import Derived.Sort.Grow
import Derived.Sort.EncStr
import Derived.Carry
set_option maxRecDepth 100000
set_option maxHeartbeats 40000000
set_option maxRecDepth 100000
set_option maxHeartbeats 40000000
namespace Go.Sx
open Go Go.RowKit
theorem St.below {w w' : World} {I : Heap} (hr : Ready I [] w) (h : Below w.heap.size w w') : St w [] I I [] w' := by
  have hlt : ∀ {b : Nat} {o' : Obj}, w.heap[b]? = some o' → b < w.heap.size := fun {b o'} hb => by
    rcases Nat.lt_or_ge b w.heap.size with h' | h'
    · exact h'
    simp [Array.getElem?_eq_none h'] at hb
  exact ⟨h.os, h.tape, h.output, h.size, fun b hb _ => h.block b hb, fun b o hb => by rw [h.block b (hlt (hr.1 b o hb))]; exact hr.1 b o hb, by simp, by simp, by simp, by simp, fun _ _ => rfl, Le.refl _, noDr⟩
theorem Pure.of_below {P : Program} {f : FuncId} {args : List Value} {I : Heap} {v : Value} (he : Enters P f) (h : ∀ w, Ready I [] w → Calls P f args.toArray w fun e w' => e = .returned v ∧ Below w.heap.size w w') : Pure P f args I v :=
  ⟨he, fun w hw => (h w hw).mono fun _ _w' ⟨h1, h2⟩ => ⟨I, [], St.below hw h2, h1, rfl, rfl⟩⟩
theorem Pure.of_same {P : Program} {f : FuncId} {args : List Value} {I : Heap} {v : Value} (he : Enters P f) (h : ∀ w, Ready I [] w → Calls P f args.toArray w fun e w' => e = .returned v ∧ w' = w) : Pure P f args I v :=
  Pure.of_below he fun w hw => (h w hw).mono fun _ _ ⟨h1, h2⟩ => ⟨h1, h2 ▸ Below.refl _ _⟩
theorem Enters.of {P : Program} {f : FuncId} {fn : Func} (h : P.funcs[f]? = some fn) (h1 : fn.name ≠ "runtime.NumGoroutine") (h2 : fn.body.isNone = false) : Enters P f := ⟨fn, h, h1, h2⟩
section
variable {cx : Cx} {Q : Qt} {e : Env} {I : Heap} {H : HL} {o : Oper} {C : Ct} {S : World → Prop}
theorem Cj.scope {c : Code} (h : Cj cx (Exit.noGoto Q) c e I H) (hr : cx.rd = none := by rfl) : Cj cx Q (.scope c) e I H := Cj.of_wp hr fun _ _ ha hs => wp_scope_straight (h.wp hr ha hs)
theorem Ej.scRet (h : Ej cx Q .ret e I H) : Ej cx (Exit.noGoto Q) .ret e I H := h
theorem op_range {T d : Nat} {x : Operand} {s : ByteArray} (ho : o.op = .range T x) (hd : o.dst = some d) (hn : Nat.blt d cx.n = true) (hx : ev e x = some (.string s)) (hu : cx.P.underlying T = some .string)
    (k : ∀ b, cx.w0.heap.size ≤ b → C ((d, ptr b 0) :: e) I ((b, .stringIter s 0) :: H)) : OpJ cx Q o e I H C := by
  intro K hK a w ha hs
  unfold Oper.wp
  have : (execOp a.eval o).run cx.P w = .ok (.value (ptr w.heap.size 0)) { w with heap := w.heap.push (.stringIter s 0) } := by
    simp only [execOp, ho, ha.eval hx, Sem.run_bind, run_range_string w T s hu, Result.andThen_ok, Sem.run_pure]
    rfl
  rw [this]
  simp only [Oper.upon, hd]
  exact hK _ _ _ (k _ hs.size) _ _ (ha.put hn) (hs.alloc _)
theorem op_next {d b pos : Nat} {x : Operand} {s : ByteArray} {H' : HL} (i : Nat) (ho : o.op = .next x true) (hd : o.dst = some d) (hn : Nat.blt d cx.n = true) (hx : ev e x = some (ptr b 0)) (hH : H[i]? = some (b, .stringIter s pos)) (hp : pos < s.size)
    (hH' : LSet H i (b, .stringIter s (pos + (Utf8.decode s pos).2)) H') (k : C ((d, .tuple #[.bool true, .int .i64 pos, .int .i32 (Utf8.decode s pos).1]) :: e) I H') : OpJ cx Q o e I H C := by
  intro K hK a w ha hs
  unfold Oper.wp
  have hb := hs.own _ (List.mem_of_getElem? hH)
  have : (execOp a.eval o).run cx.P w = .ok (.value (.tuple #[.bool true, .int .i64 pos, .int .i32 (Utf8.decode s pos).1])) (World.block w b (.stringIter s (pos + (Utf8.decode s pos).2))) := by
    simp only [execOp, ho, ha.eval hx, Instr.next, getObj, setObj, Sem.run_bind, Sem.run, hb, Result.andThen, hp, if_true]
    simp [goInt, World.block]
  rw [this]
  simp only [Oper.upon, hd]
  exact hK _ _ _ k _ _ (ha.put hn) (hs.block hH hH')
theorem op_nextEnd {d b pos : Nat} {x : Operand} {s : ByteArray} (i : Nat) (ho : o.op = .next x true) (hd : o.dst = some d) (hn : Nat.blt d cx.n = true) (hx : ev e x = some (ptr b 0)) (hH : H[i]? = some (b, .stringIter s pos)) (hp : ¬ pos < s.size)
    (k : C ((d, .tuple #[.bool false]) :: e) I H) : OpJ cx Q o e I H C := by
  intro K hK a w ha hs
  unfold Oper.wp
  have hb := hs.own _ (List.mem_of_getElem? hH)
  have : (execOp a.eval o).run cx.P w = .ok (.value (.tuple #[.bool false])) w := by
    simp [execOp, ho, ha.eval hx, Instr.next, getObj, Sem.run_bind, Sem.run, hb, Result.andThen, hp]
  rw [this]
  simp only [Oper.upon, hd]
  exact hK _ _ _ k _ _ (ha.put hn) hs
theorem yl_runeStr {Sy T : Nat} {x : Operand} {k : IntKind} {r : Int} (ho : o.op = .convert Sy T x) (hx : ev e x = some (.int k r)) (hS : cx.P.underlying Sy = some (.int k)) (hT : cx.P.underlying T = some .string) : Yld cx o e S (str (Utf8.encode r).data.toList) := by
  intro a w ha _
  simp [execOp, ho, ha.eval hx, convert, run_underlying hS, run_underlying hT, str, Conv.intToString]
end
end Go.Sx
namespace Go.Sx
open Go
theorem shape_of_heap {w : World} {b : Nat} {cs : Array Value} {t : TypeId} {fr : Nat × Nat} (h : w.heap[b]? = some (.cells cs t fr)) : w.shape? b = some (t, cs.size) := by simp [World.shape?, h]
theorem gV_cells (n : Nat) (g : Gs) : (gV n g).cells = [gV n g].toArray := by cases g <;> rfl
theorem gV_one (n : Nat) (g : Gs) : [gV n g].all Value.oneCell' = true := by cases g <;> rfl
section
variable {cx : Cx} {Q : Qt} {e : Env} {I : Heap} {H : HL} {o : Oper} {C : Ct} {S : World → Prop}
theorem run_eqlNil {P : Program} {w : World} {T te : TypeId} {j : TypeInfo} (p : Option Addr) (hT : P.underlying T = some (.pointer te)) (_hj : P.info? te = some j) : (binOp .eql T (.pointer p) (.pointer none)).run P w = .ok (.bool p.isNone) w := by
  have h : ∀ d : Nat, (Op.equalIn (d + 1) T (.pointer p) (.pointer none)).run P w = .ok p.isNone w := fun d => by
    cases p <;> simp [Op.equalIn, run_underlying hT, sizeOf, typeInfo, samePointer]
  simp only [binOp]
  simp [Op.equal, Op.maxDepth, h 9999]
theorem yl_eqlNil {x y : Operand} {T U te : Nat} (p : Option Addr) (ho : o.op = .binOp .eql T x y U) (hx : ev e x = some (.pointer p)) (hy : ev e y = some (.pointer none)) (hT : cx.P.underlying T = some (.pointer te)) (hj0 : (cx.P.info? te).isSome = true) : Yld cx o e S (.bool p.isNone) := by
  intro a w ha _
  obtain ⟨j, hj⟩ := Option.isSome_iff_exists.1 hj0
  have hb := run_eqlNil (P := cx.P) (w := w) p hT hj
  have hg : eqGuard .eql T x y (.pointer p) (.pointer none) = pure () := rfl
  simp [execOp, ho, ha.eval hx, ha.eval hy, hb, hg]
theorem yl_neqSame {x y : Operand} {T U te b off : Nat} (ho : o.op = .binOp .neq T x y U) (hx : ev e x = some (ptr b off)) (hy : ev e y = some (ptr b off)) (hT : cx.P.underlying T = some (.pointer te)) (hj0 : (cx.P.info? te).isSome = true) : Yld cx o e S (.bool false) := by
  intro a w ha _
  obtain ⟨j, hj⟩ := Option.isSome_iff_exists.1 hj0
  have hb := Lib.run_neq_ptr_same (P := cx.P) w ⟨b, off, none⟩ hT hj
  have hg : eqGuard .neq T x y (ptr b off) (ptr b off) = pure () := rfl
  simp [execOp, ho, ha.eval hx, ha.eval hy, hb, hg]
theorem yl_toUnsafe {x : Operand} {Sy T te b off : Nat} (z : Nat) {cs : List Value} {t : TypeId} {fr : Nat × Nat} (ho : o.op = .convert Sy T x) (hx : ev e x = some (ptr b off)) (hS : cx.P.underlying Sy = some (.pointer te)) (hT : cx.P.underlying T = some .unsafePointer) (hj0 : (cx.P.info? te).map (·.size) = some (z + 1))
    (hb : Blk S b (.cells cs.toArray t fr)) (hoff : off < cs.length) : Yld cx o e S (ptr b off) := by
  intro a w ha hs
  obtain ⟨j, hj, hz⟩ := Option.map_eq_some_iff.1 hj0
  have hz : j.size ≠ 0 := by omega
  have h := Lib.run_to_unsafe (P := cx.P) (w := w) ⟨b, off, none⟩ hS hT hj hz (shape_of_heap (hb w hs)) (by simpa using hoff)
  simp [execOp, ho, ha.eval hx, h]
theorem yl_fromUnsafe {x : Operand} {Sy T te b off : Nat} {cs : List Value} {t : TypeId} {fr : Nat × Nat} (ho : o.op = .convert Sy T x) (hx : ev e x = some (ptr b off)) (hS : cx.P.underlying Sy = some .unsafePointer) (hT : cx.P.underlying T = some (.pointer te)) (hj0 : (cx.P.info? te).isSome = true)
    (hb : Blk S b (.cells cs.toArray t fr)) (hl : liesAt cx.P cx.P.depth t (cs.length / cx.P.cellsOf t) off te 1 = true) : Yld cx o e S (ptr b off) := by
  intro a w ha hs
  obtain ⟨j, hj⟩ := Option.isSome_iff_exists.1 hj0
  have h := Lib.run_from_unsafe (P := cx.P) (w := w) ⟨b, off, none⟩ hS hT hj (shape_of_heap (hb w hs)) (by simpa using hl)
  simp [execOp, ho, ha.eval hx, h]
theorem yl_noEscape {f : Nat} {fn : Func} {fo x : Operand} {ts : Array TypeId} {v : Value} (ho : o.op = .call ⟨.value fo, #[x], ts⟩) (hf : ev e fo = some (.func (.func f) #[] #[])) (hx : ev e x = some v) (h1 : cx.P.funcs[f]? = some fn) (h2 : (fn.name == "runtime.NumGoroutine") = false) (h3 : fn.body.isNone = true)
    (h4 : Extern.findNext fn = none) (h5 : Extern.find fn = some Extern.AbiNoEscape.same) : Yld cx o e S v := by
  intro a w ha _
  have h := run_callFunc_extern h1 h2 h3 h4 h5 #[v] w
  simp [execOp, ho, resolve, invoke, ha.eval hf, ha.eval hx, h, Deferred.ofValue, Lib.run_noEscape, Result.andThen]
theorem yl_sliceData {x : Operand} {T b off n c : Nat} (ho : o.op = .call ⟨.builtin .unsafeSliceData, #[x], #[T]⟩) (hx : ev e x = some (.slice (some ⟨b, off, none⟩) n c)) (hc : c ≠ 0) : Yld cx o e S (ptr b off) := by
  intro a w ha _
  have h := fun ty => Lib.run_unsafeSliceData_row (P := cx.P) (w := w) #[T] ty ⟨b, off, none⟩ n c hc
  simp [execOp, ho, resolve, invoke, ha.eval hx, builtin, h]
theorem yl_sliceDataNil {x : Operand} {T n c : Nat} (ho : o.op = .call ⟨.builtin .unsafeSliceData, #[x], #[T]⟩) (hx : ev e x = some (.slice none n c)) : Yld cx o e S (.pointer none) := by
  intro a w ha _
  have h := fun ty => Lib.run_unsafeSliceData_nil (P := cx.P) (w := w) #[T] ty n c
  simp [execOp, ho, resolve, invoke, ha.eval hx, builtin, h]
theorem yl_unsafeStringNone {x y : Operand} {p : Option Addr} {T U : Nat} (ho : o.op = .call ⟨.builtin .unsafeString, #[x, y], #[T, U]⟩) (hx : ev e x = some (.pointer p)) (hy : ev e y = some (i64 0)) : Yld cx o e S (str []) := by
  intro a w ha _
  have h := fun ty => Lib.run_unsafeString_none (P := cx.P) (w := w) T U ty p
  simp [execOp, ho, resolve, invoke, ha.eval hx, ha.eval hy, builtin, h]
  rfl
theorem op_unsafeString {x y : Operand} {T U E d b : Nat} (i : Nat) (l : List UInt8) {cs : List Value} {H' : HL} (ho : o.op = .call ⟨.builtin .unsafeString, #[x, y], #[T, U]⟩) (hd : o.dst = some d) (hn : Nat.blt d cx.n = true) (hx : ev e x = some (ptr b 0)) (hy : ev e y = some (i64 l.length))
    (hT : cx.P.underlying T = some (.pointer E)) (hE : cx.P.cellsOf E = 1) (hH : H[i]? = some (b, cel E (bcs l ++ cs))) (h0 : l ≠ []) (h63 : l.length ≤ 9223372036854775807) (hH' : LSet H i (b, .cells (bcs l ++ cs).toArray E (0, l.length)) H') (k : C ((d, str l) :: e) I H') : OpJ cx Q o e I H C := by
  intro K hK a w ha hs
  unfold Oper.wp
  have hb := hs.own _ (List.mem_of_getElem? hH)
  have h := fun ty => Lib.run_unsafeString_row (P := cx.P) (w := w) T U ty E hT hE b (bcs l ++ cs).length (by rw [shape_of_heap hb]; simp) l h0 (by rw [List.length_append, bcs_len]; omega) h63 (fun j x hj => by
    rw [Addr.add_lit]
    refine cell_of_heap hb ?_
    rw [List.getElem?_append_left (by rw [bcs_len, Nat.zero_add]; exact (List.getElem?_eq_some_iff.1 hj).1)]
    simp [bcs, hj])
  have hfr : w.freeze ⟨b, 0, none⟩ l.length = World.block w b (.cells (bcs l ++ cs).toArray E (0, l.length)) := by
    have hl : l.length ≠ 0 := by simpa using h0
    unfold World.freeze World.block
    rw [if_neg hl]
    congr 1
    apply Array.ext_getElem?
    intro k
    rw [Array.getElem?_modify, Array.getElem?_setIfInBounds]
    by_cases hk : b = k
    · subst hk
      have hlt : b < w.heap.size := hs.lt (List.mem_of_getElem? hH)
      rw [if_pos rfl, if_pos rfl, if_pos hlt, show w.heap[b]? = _ from hb]
      simp [cel]
    simp [hk]
  have : (execOp a.eval o).run cx.P w = .ok (.value (str l)) (World.block w b (.cells (bcs l ++ cs).toArray E (0, l.length))) := by
    simp [execOp, ho, resolve, invoke, ha.eval hx, ha.eval hy, builtin, h, hfr, str]
  rw [this]
  simp only [Oper.upon, hd]
  exact hK _ _ _ k _ _ (ha.put hn) (hs.block hH hH')
end
section
variable {cx : Cx} {Q : Qt} {e : Env} {I : Heap} {H : HL} {o : Oper} {C : Ct}
end
theorem run_checkKey {P : Program} {K : TypeId} (hK : P.underlying K = some .string) (b : Bool) (v : List UInt8) (w : World) : (Instr.checkKey b 10000 K (str v)).run P w = .ok () w := by
  have h : ∀ n, (Instr.checkKey b (n + 1) K (str v)).run P w = .ok () w := fun n => by simp [Instr.checkKey, run_underlying hK, str]
  exact h 9999
section
variable {cx : Cx} {Q : Qt} {e : Env} {I : Heap} {H : HL} {o : Oper} {C : Ct} {S : World → Prop}
theorem op_makeMap {T d : Nat} (ho : o.op = .makeMap T none) (hd : o.dst = some d) (hn : Nat.blt d cx.n = true) (k : ∀ b, cx.w0.heap.size ≤ b → C ((d, .map (some b)) :: e) I ((b, .map #[] 0) :: H)) : OpJ cx Q o e I H C := by
  intro K hK a w ha hs
  unfold Oper.wp
  have : (execOp a.eval o).run cx.P w = .ok (.value (.map (some w.heap.size))) { w with heap := w.heap.push (.map #[] 0) } := by
    simp [execOp, ho, Instr.makeMap, newObj, Sem.run]
  rw [this]
  simp only [Oper.upon, hd]
  exact hK _ _ _ (k _ hs.size) _ _ (ha.put hn) (hs.alloc _)
end
def CtrD (P : Program) (f : FuncId) (args : List Value) (u : FrameMode) (I : Heap) (H : HL) (post : FrameMode → Heap → HL → Prop) : Prop :=
  Enters P f ∧ ∀ w, Ready I H w → CallsD P f args.toArray u w fun e u' w' => (∃ v, e = .returned v) ∧ ∃ I' H', St w (H.map (·.1)) I I' H' w' ∧ post u' I' H'
theorem Ctr.of_bodyD {P : Program} {f : FuncId} {fn : Func} {c : Code} {args : List Value} {I : Heap} {H : HL} {post : Ending → Heap → HL → Prop} (hf : P.funcs[f]? = some fn) (hb : fn.body = some c) (hname : fn.name ≠ "runtime.NumGoroutine")
    (hn : args.length ≤ fn.ntmps)
    (h : ∀ w0, Ready I H w0 → Cj ⟨P, fn.ntmps, w0, H.map (·.1), I, [], none⟩ (bodyPostD P fn (RR w0 (H.map (·.1)) I post)) c (argsEnv 0 args) I H) : Ctr P f args I H post := by
  refine ⟨⟨fn, hf, hname, by simp [hb]⟩, fun w hw => ?_⟩
  refine calls_of_wp_defers hf hb ?_
  exact (h w hw).wp rfl (Has.start args fn.ntmps hn) (St.start w I H hw.1 hw.2.1 hw.2.2.1 hw.2.2.2)
section
variable {cx : Cx} {Q : Qt} {e : Env} {I : Heap} {H : HL} {o : Oper} {C : Ct}
theorem J.defer {ops : Array Oper} {l : List Oper} {f : Nat} {fo : Operand} {xs : List Operand} {ts : Array TypeId} {fst cap vs : List Value} (hg : o.guard = none) (ho : o.op = .defer ⟨.value fo, xs.toArray, ts⟩) (hd : o.dst = none)
    (hf : ev e fo = some (.func (.func f) fst.toArray cap.toArray)) (hx : evs e xs = some vs)
    (k : J { cx with ds := ⟨.fn (.func f) cap.toArray, (fst ++ vs).toArray⟩ :: cx.ds } Q ops l e I H) (hrd : cx.rd = none := by rfl) : J cx Q ops (o :: l) e I H := by
  intro a w ha hs
  refine wpListIn_plain hg fun K hK => fence_wp (.inl hrd) ?_
  unfold Oper.wp
  have hr : (execOp a.eval o).run cx.P w = .ok (.defer ⟨.fn (.func f) cap.toArray, (fst ++ vs).toArray⟩) w := by
    have hxs : xs.toArray.map a.eval = vs.toArray := by rw [List.map_toArray, ha.evals hx]
    simp [execOp, ho, resolve, hxs, ha.eval hf, Deferred.ofValue]
  rw [hr]
  simp only [Oper.upon, hd]
  exact hK _ _ (k _ _ ⟨ha.size, by simp [Act.put, ha.defs], fun t v h => ha.get t v h⟩ hs)
def ResJ (cx : Cx) (fn : Func) (post : Ending → Heap → HL → Prop) (e : Env) (I : Heap) (H : HL) : Prop :=
  ∀ a w, Has a cx.n e cx.ds → St cx.w0 cx.D cx.I0 I H w → ∃ v, (results fn a.tmps).run cx.P w = .ok v w ∧ RR cx.w0 cx.D cx.I0 post (.returned v) w
theorem leaves_one {P : Program} {fn : Func} {tmps : Array Value} {R : Ending → World → Prop} {f : Nat} {cap vs : List Value} {u : FrameMode} {w w0 : World} {D : List Nat} {I0 : Heap} {H1 R1 : HL} {post : FrameMode → Heap → HL → Prop} (hu : u ≠ .run)
    (hs : CtrD P f (vs ++ cap) u I H1 post) (hst : St w0 D I0 I (H1 ++ R1) w) {ds : List Deferred}
    (k : ∀ u' I' H1' w', Le I I' → post u' I' H1' → St w0 D I0 I' (H1' ++ R1) w' → Leaves P fn tmps R ds (settle u') w') :
    Leaves P fn tmps R (⟨.fn (.func f) cap.toArray, vs.toArray⟩ :: ds) u w := by
  refine leaves_cons (f := f) (args := (vs ++ cap).toArray) hu (by have h := run_callFunc hs.1 (vs ++ cap).toArray w; simpa [invoke] using h) ?_
  have hready : Ready I H1 w := ⟨hst.sub, fun p hp => hst.own p (List.mem_append_left _ hp), by
    have := hst.nodup; rw [List.map_append, List.nodup_append] at this; exact this.1, fun p hp => hst.dis p (List.mem_append_left _ hp)⟩
  refine (hs.2 w hready).mono ?_
  rintro en u' w' ⟨⟨v, rfl⟩, I', H1', hs', hp⟩
  exact k u' I' H1' w' hs'.le hp (hst.call hs')
end
def Rj (cx : Cx) (Q : Qt) (c : Code) (n : Nat) (e : Env) (I : Heap) (H : HL) : Prop := ∀ a w, Has a cx.n e cx.ds → St cx.w0 cx.D cx.I0 I H w → Code.rounds cx.P c Q n a w
section
variable {cx : Cx} {Q : Qt} {e : Env} {I : Heap} {H : HL} {o : Oper} {C : Ct} {S : World → Prop}
theorem Cj.rounds (n : Nat) {c : Code} (h : Rj cx Q c n e I H) (hr : cx.rd = none := by rfl) : Cj cx Q (.loop c) e I H := Cj.of_wp hr fun a w ha hs => wp_loop_rounds n (h a w ha hs)
theorem Rj.succ {c : Code} {n : Nat} (h : Cj cx (Exit.then (Code.rounds cx.P c Q n) Q) c e I H) (hr : cx.rd = none := by rfl) : Rj cx Q c (n + 1) e I H := fun _ _ ha hs => h.wp hr ha hs
theorem Ej.rounds {c : Code} {n : Nat} (h : Rj cx Q c n e I H) : Ej cx (Exit.then (Code.rounds cx.P c Q n) Q) .normal e I H := fun a w ha hs => h a w ha hs
theorem yl_indexArr {x y : Operand} {T E b off n sz off' : Nat} {k : IntKind} {i : Int} (ho : o.op = .indexAddr T x y) (hx : ev e x = some (ptr b off)) (hy : ev e y = some (.int k i))
    (hu : cx.P.underlying T = some (.array n E)) (hsz : ∀ w, (sizeOf E).run cx.P w = .ok sz w) (h0 : 0 ≤ i) (h1 : i < n) (hoff : off + i.toNat * sz = off') : Yld cx o e S (ptr b off') := by
  intro a w ha _
  subst hoff
  simp [execOp, ho, ha.eval hx, ha.eval hy, Instr.indexAt, Instr.sureAddr, asIntOf, run_underlying hu, h0, h1, hsz, Addr.add_lit]
theorem q24 {x y : Operand} {T E b off n sz off' : Nat} {k : IntKind} {i : Int} (hu : cx.P.underlying T = some (.array n E)) (hsz : ∀ w, (sizeOf E).run cx.P w = .ok sz w) (ho : o.op = .indexAddr T x y := by exact rfl) (hx : ev e x = some (ptr b off) := by exact rfl) (hy : ev e y = some (.int k i) := by exact rfl) (h0 : 0 ≤ i := by decide) (h1 : i < n := by decide) (hoff : off + i.toNat * sz = off' := by decide) : Yld cx o e S (ptr b off') := yl_indexArr ho hx hy hu hsz h0 h1 hoff
theorem run_sliceNil {P : Program} {w : World} {T E n c : Nat} (p : Option Addr) (hT : P.underlying T = some (.slice E)) : (binOp .neq T (.slice p n c) (.slice none 0 0)).run P w = .ok (.bool p.isSome) w ∧ (binOp .eql T (.slice p n c) (.slice none 0 0)).run P w = .ok (.bool p.isNone) w := by
  have h1 : ∀ d : Nat, (Op.equalIn (d + 1) T (.slice p n c) (.slice none 0 0)).run P w = .ok p.isNone w := fun d => by cases p <;> simp [Op.equalIn, run_underlying hT]
  simp only [binOp]
  cases p <;> simp [Op.equal, Op.maxDepth, h1 9999]
theorem yl_neqSlice {x y : Operand} {T U E n c : Nat} (p : Option Addr) (ho : o.op = .binOp .neq T x y U) (hx : ev e x = some (.slice p n c)) (hy : ev e y = some (.slice none 0 0)) (hT : cx.P.underlying T = some (.slice E)) : Yld cx o e S (.bool p.isSome) := by
  intro a w ha _
  have hb := (run_sliceNil (P := cx.P) (w := w) (n := n) (c := c) p hT).1
  have hg : eqGuard .neq T x y (.slice p n c) (.slice none 0 0) = pure () := rfl
  simp [execOp, ho, ha.eval hx, ha.eval hy, hb, hg]
theorem yl_eqlSlice {x y : Operand} {T U E n c : Nat} (p : Option Addr) (ho : o.op = .binOp .eql T x y U) (hx : ev e x = some (.slice p n c)) (hy : ev e y = some (.slice none 0 0)) (hT : cx.P.underlying T = some (.slice E)) : Yld cx o e S (.bool p.isNone) := by
  intro a w ha _
  have hb := (run_sliceNil (P := cx.P) (w := w) (n := n) (c := c) p hT).2
  have hg : eqGuard .eql T x y (.slice p n c) (.slice none 0 0) = pure () := rfl
  simp [execOp, ho, ha.eval hx, ha.eval hy, hb, hg]
theorem made1 (z : Value) (c : Nat) : madeCells #[z] c = (List.replicate c z).toArray := by
  apply Array.ext_getElem?
  intro i
  unfold madeCells
  by_cases h : i < c
  · simp [h, Nat.mod_one]
  simp [h]
theorem op_makeSlice {T E d by1 n c : Nat} {x y : Operand} {kl kc : IntKind} {z : Value} (ho : o.op = .makeSlice T x y) (hd : o.dst = some d) (hn : Nat.blt d cx.n = true) (hx : ev e x = some (.int kl (n : Int))) (hy : ev e y = some (.int kc (c : Int)))
    (hu : cx.P.underlying T = some (.slice E)) (hi0 : (cx.P.info? E).map (fun i => (i.bytes, i.size, i.zero)) = some (by1, 1, some z)) (hzc : z.cells = #[z]) (hnc : n ≤ c) (hb : by1 * c ≤ 281474976710656) (h63 : c ≤ 9223372036854775807)
    (k : ∀ b, cx.w0.heap.size ≤ b → C ((d, .slice (some ⟨b, 0, none⟩) n c) :: e) I ((b, cel E (List.replicate c z)) :: H)) : OpJ cx Q o e I H C := by
  intro K hK a w ha hs
  unfold Oper.wp
  obtain ⟨i, hi, hii⟩ := Option.map_eq_some_iff.1 hi0
  simp only [Prod.mk.injEq] at hii
  obtain ⟨h1, h2, h3⟩ := hii
  have hbb : (i.bytes : Int) * (c : Int) ≤ 281474976710656 := by
    have h : ((by1 * c : Nat) : Int) ≤ 281474976710656 := by omega
    rw [h1]
    rwa [Int.natCast_mul] at h
  have hr := run_make (P := cx.P) w T E i z hu hi h3 kl kc n c (by omega) (by omega) hbb (by omega)
  have : (execOp a.eval o).run cx.P w = .ok (.value (.slice (some ⟨w.heap.size, 0, none⟩) n c)) (w.alloc (cel E (List.replicate c z))) := by
    simp [execOp, ho, ha.eval hx, ha.eval hy, hr, h2, hzc, made1, cel]
  rw [this]
  simp only [Oper.upon, hd]
  exact hK _ _ _ (k _ hs.size) _ _ (ha.put hn) (hs.alloc _)
theorem yl_sliceFrom {x y : Operand} {T E b off n c sz j : Nat} {kl : IntKind} (ho : o.op = .slice T x (some y) none none) (hx : ev e x = some (.slice (some ⟨b, off, none⟩) n c)) (hy : ev e y = some (.int kl (j : Int))) (hu : cx.P.underlying T = some (.slice E)) (hsz : ∀ w, (sizeOf E).run cx.P w = .ok sz w) (hj : j ≤ n) (hc : j < c) :
    Yld cx o e S (.slice (some ⟨b, off + j * sz, none⟩) (n - j) (c - j)) := by
  intro a w ha _
  have hne : ¬ c = j := by omega
  have h1 : (j : Int) ≤ n := by omega
  simp [execOp, ho, ha.eval hx, ha.eval hy, Instr.sliceAt, Instr.slice, run_underlying hu, Instr.sliceBounds, run_sliceBound, h1, hsz, hne, Addr.add_lit]
theorem op_copy {x y : Operand} {T U E d b off n c m : Nat} {yv : Value} (i : Nat) {cs cs' ys : List Value} {H' : HL} (ho : o.op = .call ⟨.builtin .copy, #[x, y], #[T, U]⟩) (hd : o.dst = some d) (hn : Nat.blt d cx.n = true) (hx : ev e x = some (.slice (some ⟨b, off, none⟩) n c)) (hy : ev e y = some yv)
    (hu : cx.P.underlying T = some (.slice E)) (hsz : ∀ w, (sizeOf E).run cx.P w = .ok 1 w) (hs0 : Src cx.P I H 1 m yv ys) (hmn : m ≤ n) (hH : H[i]? = some (b, cel E cs)) (hcs : LSpl cs off ys cs') (hH' : LSet H i (b, cel E cs') H')
    (k : C ((d, i64 m) :: e) I H') : OpJ cx Q o e I H C := by
  intro K hK a w ha hs
  unfold Oper.wp
  obtain ⟨hs1, hs2, hs3, hs4⟩ := hs0
  have hb := hs.own _ (List.mem_of_getElem? hH)
  have hst := run_storeCells (P := cx.P) (t := E) ys 0 w cs hb (.inl rfl) hcs.1 (fun u hu => (List.all_eq_true.1 hs2) u hu) cs' hcs
  have hmin : Nat.min m n = m := Nat.min_eq_left hmn
  have : (execOp a.eval o).run cx.P w = .ok (.value (i64 m)) (World.block w b (cel E cs')) := by
    simp [execOp, ho, resolve, invoke, builtin, ha.eval hx, ha.eval hy, Builtin.copy_, run_underlying hu, hs3 w hs.ss, hmin, hsz, hs4 w hs.ss, hst, goInt, cel]
  rw [this]
  simp only [Oper.upon, hd]
  exact hK _ _ _ k _ _ (ha.put hn) (hs.block hH hH')
theorem op_invoke {H1 R : HL} {d f T te : Nat} {fo : Operand} {nm : String} {xs : List Operand} {ts : Array TypeId} {vs : List Value} {q : Option Addr} {post : Ending → Heap → HL → Prop}
    (ho : o.op = .call ⟨.invoke fo nm, xs.toArray, ts⟩) (hd : o.dst = some d) (hn : Nat.blt d cx.n = true) (hf : ev e fo = some (.iface T (.pointer q))) (hx : evs e xs = some vs)
    (hm : ((cx.P.info? T).bind fun i => i.methods.find? (·.name == nm)).map (fun m => (m.path.isEmpty, m.func)) = some (true, some (f, true))) (hu : cx.P.underlying T = some (.pointer te))
    (hs : Ctr cx.P f (.pointer q :: vs) I H1 post)
    (k : ∀ v I' H1', Le I I' → post (.returned v) I' H1' → C ((d, v) :: e) I' (H1' ++ R))
    (kp : ∀ ch I' H1', Le I I' → post (.panicked ch) I' H1' → Ej cx Q (.panic ch) e I' (H1' ++ R))
    (ko : ∀ I' H1', ¬ post .outgrown I' H1') : OpJ cx Q o e I (H1 ++ R) C := by
  intro K hK a w ha hst
  unfold Oper.wp
  have hr : (execOp a.eval o).run cx.P w = .ok (.enter f (.pointer q :: vs).toArray) w := by
    have hxs : xs.toArray.map a.eval = vs.toArray := by rw [List.map_toArray, ha.evals hx]
    obtain ⟨m, hm1, hm2⟩ := Option.map_eq_some_iff.1 hm
    obtain ⟨i, hi, hfi⟩ := Option.bind_eq_some_iff.1 hm1
    simp only [Prod.mk.injEq] at hm2
    obtain ⟨hp, hmf⟩ := hm2
    have hpl : m.path.toList = [] := by
      have : m.path = #[] := by simpa using hp
      rw [this]
    have hcall := run_callFunc hs.1 (.pointer q :: vs).toArray w
    have hmeth : ∀ n : Nat, (method (n + 1) T (.pointer q) nm).run cx.P w = .ok (f, .pointer q) w := fun n => by
      simp [method, typeInfo, hi, hfi, hpl, follow, hmf, receiverAt, run_underlying hu, Place.get]
    have hmd : ∀ n : Nat, (method (n + Made.depth) T (.pointer q) nm).run cx.P w = .ok (f, .pointer q) w := fun n => hmeth (n + (Made.depth - 1))
    simp only [execOp, ho, resolve, hxs, ha.eval hf, invoke, Sem.run_bind, Sem.run_pure, Result.andThen_ok, callMethod]
    simp [hmd, hcall]
  rw [hr]
  simp only [Oper.upon]
  have hready : Ready I H1 w := ⟨hst.sub, fun p hp => hst.own p (List.mem_append_left _ hp), by
    have := hst.nodup; rw [List.map_append, List.nodup_append] at this; exact this.1, fun p hp => hst.dis p (List.mem_append_left _ hp)⟩
  refine (hs.2 w hready).mono ?_
  rintro en w' ⟨I', H1', hs', hp⟩
  have hle := hs'.le
  have hst' := hst.call hs'
  cases en with
  | returned v =>
    rw [hd]
    exact hK _ _ _ (k v I' H1' hle hp) _ _ (ha.put hn) hst'
  | panicked ch => exact kp ch I' H1' hle hp _ _ ha hst'
  | outgrown => exact (ko _ _ hp).elim
end
theorem St.set1 {w : World} {I : Heap} {b T off : Nat} {cs : List Value} {v : Value} (hr : Ready I [(b, cel T cs)] w) : St w [b] I I [(b, cel T (cs.set off v))] (w.setCell ⟨b, off, none⟩ v) := by
  have hb : w.heap[b]? = some (cel T cs) := hr.2.1 (b, cel T cs) (.head _)
  have hst : St w [b] I I [(b, cel T cs)] w := St.start w I [(b, cel T cs)] hr.1 hr.2.1 hr.2.2.1 hr.2.2.2
  rw [setCell_block (fr := (0, 0)) hb]
  exact hst.block (i := 0) rfl LSet.z
theorem Ctr.of_set {P : Program} {f : FuncId} {args : List Value} {I : Heap} {b T off : Nat} {cs : List Value} {x y v : Value} (he : Enters P f) (hx : cs[off]? = some x)
    (h : ∀ w, w.cell? ⟨b, off, none⟩ = some x → w.frozen? ⟨b, off, none⟩ = false → Calls P f args.toArray w fun e w' => e = .returned v ∧ w' = w.setCell ⟨b, off, none⟩ y) :
    Ctr P f args I [(b, cel T cs)] (fun e _I' H' => e = .returned v ∧ H' = [(b, cel T (cs.set off y))]) :=
  ⟨he, fun w hr => (h w (cell_of_heap (hr.2.1 _ (.head _)) hx) (by have := hr.2.1 _ (.head _); simp only at this; simp [World.frozen?, this, cel])).mono fun e w' ⟨h1, h2⟩ => ⟨I, _, h2 ▸ St.set1 hr, h1, rfl⟩⟩
theorem Ctr.of_read {P : Program} {f : FuncId} {args : List Value} {I : Heap} {b T off : Nat} {cs : List Value} {x v : Value} (he : Enters P f) (hx : cs[off]? = some x)
    (h : ∀ w, w.cell? ⟨b, off, none⟩ = some x → Calls P f args.toArray w fun e w' => e = .returned v ∧ w' = w) :
    Ctr P f args I [(b, cel T cs)] (fun e _I' H' => e = .returned v ∧ H' = [(b, cel T cs)]) :=
  ⟨he, fun w hr => (h w (cell_of_heap (hr.2.1 _ (.head _)) hx)).mono fun _e _w' ⟨h1, h2⟩ => ⟨I, _, h2 ▸ St.start w I _ hr.1 hr.2.1 hr.2.2.1 hr.2.2.2, h1, rfl⟩⟩
theorem CtrD.of_set {P : Program} {f : FuncId} {args : List Value} {u : FrameMode} {I : Heap} {b T off : Nat} {cs : List Value} {x y v : Value} (he : Enters P f) (hx : cs[off]? = some x)
    (h : ∀ w, w.cell? ⟨b, off, none⟩ = some x → w.frozen? ⟨b, off, none⟩ = false → CallsD P f args.toArray u w fun e u' w' => u' = u ∧ (e = .returned v ∧ (w' = w.setCell ⟨b, off, none⟩ y ∨ w' = w.drew.setCell ⟨b, off, none⟩ y))) :
    CtrD P f args u I [(b, cel T cs)] (fun u' _I' H' => u' = u ∧ H' = [(b, cel T (cs.set off y))]) :=
  ⟨he, fun w hr => (h w (cell_of_heap (hr.2.1 _ (.head _)) hx) (by have := hr.2.1 _ (.head _); simp only at this; simp [World.frozen?, this, cel])).mono fun e u' w' ⟨h0, h1, h2⟩ => ⟨⟨v, h1⟩, I, _, by
    have hs := St.set1 (off := off) (v := y) hr
    rcases h2 with h2 | h2
    · rw [h2]; exact hs
    rw [h2]; exact hs.drew, h0, rfl⟩⟩
def tab (f : Nat → Value) (tr : Value) : List Value := (List.range 256).map f ++ [tr]
theorem tab_len (f : Nat → Value) (tr : Value) : (tab f tr).length = 257 := by simp [tab]
theorem tab_at (f : Nat → Value) (tr : Value) {i : Nat} (h : i < 256) : (tab f tr)[i]? = some (f i) := by
  unfold tab
  rw [List.getElem?_append_left (by simpa using h)]
  simp [h]
theorem tab_tr (f : Nat → Value) (tr : Value) : (tab f tr)[256]? = some tr := by
  unfold tab
  rw [List.getElem?_append_right (by simp)]
  simp
theorem tab_set (f : Nat → Value) (tr v : Value) {i : Nat} (h : i < 256) : (tab f tr).set i v = tab (fun j => if j = i then v else f j) tr := by
  apply List.ext_getElem?
  intro j
  rw [List.getElem?_set]
  rcases Nat.lt_or_ge j 256 with hj | hj
  · rw [tab_at _ _ hj, tab_at _ _ hj]
    by_cases hij : i = j
    · subst hij; simp [tab_len]; omega
    have : ¬ j = i := fun he => hij he.symm
    simp [hij, this]
  have hij : ¬ i = j := by omega
  simp only [hij, if_false]
  unfold tab
  rw [List.getElem?_append_right (by simpa using hj), List.getElem?_append_right (by simpa using hj)]
  simp
theorem tab_setTr (f : Nat → Value) (tr v : Value) : (tab f tr).set 256 v = tab f v := by
  unfold tab
  rw [List.set_append_right _ _ (by simp)]
  simp
theorem tab_one {f : Nat → Value} {tr : Value} (hf : ∀ i, (f i).oneCell' = true) (ht : tr.oneCell' = true) : (tab f tr).all Value.oneCell' = true := by
  unfold tab
  simp [hf, ht]
theorem tab_spl (f : Nat → Value) (a v : Value) : LSpl (tab f a) 256 [v] (tab f v) := by
  refine ⟨by simp [tab_len], ?_⟩
  unfold tab
  rw [List.take_append_of_le_length (by simp), List.take_of_length_le (by simp), List.drop_eq_nil_of_le (by simp)]
  simp
theorem LSpl.all {l xs : List Value} (h : l.length = xs.length) : LSpl l 0 xs xs := ⟨by simp [h], by simp [← h]⟩
theorem gV_cells1 (n : Nat) (g : Gs) : (gV n g).cells = #[gV n g] := by cases g <;> rfl
theorem gV_oneC (n : Nat) (g : Gs) : (gV n g).oneCell' = true := by cases g <;> rfl
def BytSl (I : Heap) (l : List UInt8) (v : Value) : Prop := ∃ b c sp fr, v = .slice (some ⟨b, 0, none⟩) l.length c ∧ I b = some (.cells (bcs l ++ sp).toArray 5 fr)
theorem BytSl.mono {I I' : Heap} {l : List UInt8} {v : Value} (h : BytSl I l v) (hle : Le I I') : BytSl I' l v := let ⟨b, c, sp, fr, h1, h2⟩ := h; ⟨b, c, sp, fr, h1, hle _ _ h2⟩
section
variable {cx : Cx} {Q : Qt} {e : Env} {I : Heap} {H : HL}
theorem Ej.leave2 {fn : Func} {post : Ending → Heap → HL → Prop} {H1 H2 H3 R1 : HL} {f1 f2 : Nat} {cap1 vs1 cap2 vs2 : List Value} (hds : cx.ds = [⟨.fn (.func f1) cap1.toArray, vs1.toArray⟩, ⟨.fn (.func f2) cap2.toArray, vs2.toArray⟩])
    (h1 : CtrD cx.P f1 (vs1 ++ cap1) .returning I H1 fun u' _I' H' => u' = .returning ∧ H' = H2) (h2 : ∀ I', CtrD cx.P f2 (vs2 ++ cap2) .returning I' H2 fun u' _I'' H' => u' = .returning ∧ H' = H3)
    (k : ∀ I', Le I I' → ResJ cx fn post e I' (H3 ++ R1)) : Ej cx (bodyPostD cx.P fn (RR cx.w0 cx.D cx.I0 post)) .normal e I (H1 ++ R1) := by
  intro a w ha hst
  show Leaves cx.P fn a.tmps (RR cx.w0 cx.D cx.I0 post) a.defers .returning w
  rw [ha.defs, hds]
  refine leaves_one (by simp) h1 hst ?_
  rintro u' I' H1' w' hle ⟨rfl, rfl⟩ hs'
  refine leaves_one (by simp []) (h2 I') hs' ?_
  rintro u2 I2 H2' w2 hle2 ⟨rfl, rfl⟩ hs2
  exact k I2 (hle.trans hle2) a w2 ha hs2
theorem ResJ.none {fn : Func} {post : Ending → Heap → HL → Prop} (hr : fn.results = #[]) (hp : post (.returned (.tuple #[])) I H) : ResJ cx fn post e I H :=
  fun _a _w _ hs => ⟨.tuple #[], results_none hr _ _ _, I, H, hs, hp⟩
end
end Go.Sx
namespace Go.Proofs.YtekmeaoblpfnpaaGreatDoor
open _root_.Go.Proofs.Tryz
open Go Go.Sx
def BldH (b : Nat) (l : List UInt8) (p : Bool) (g : Gs) : HL := (b, cel 204 [if p then ptr b 0 else .pointer none, gV l.length g]) :: gH 5 (bcs l) g
theorem copyCheck_fresh (b : Nat) (v : Value) (I : Heap) : Ctr Tryz.prog 184 [ptr b 0] I [(b, cel 204 [.pointer none, v])] (fun e _I' H' => e = .returned (.tuple #[]) ∧ H' = [(b, cel 204 [ptr b 0, v])]) := by
 refine Ctr.ob func184 ?_
 intro w0 hw0
 refine Cj.sr (J.z q0 ?_)
 refine J.z q6 ?_
 refine J.z (q2 (off' := 0) tU204 tS202) ?_
 refine J.z (q3 isAgg202 (Blk.at 0 rfl)) ?_
 refine J.z (yl_eqlNil _ rfl rfl rfl tU202 (by kernel_rfl)) ?_
 refine J.c1 (fun hc1 => ?_)
 refine Cj.region (J.z q0 ?_)
 refine J.z q0 ?_
 refine J.z (yl_toUnsafe 1 rfl rfl tU202 tU284 (by kernel_rfl) (Blk.at 0 rfl) (by simp)) ?_
 refine J.z (yl_noEscape rfl rfl rfl func234 (by kernel_rfl) (by kernel_rfl) (by kernel_rfl) (by kernel_rfl)) ?_
 refine J.z (yl_fromUnsafe rfl rfl tU284 tU202 (by kernel_rfl) (Blk.at 0 rfl) (by kernel_rfl)) ?_
 refine J.z q6 ?_
 refine J.z (q2 (off' := 0) tU204 tS202) ?_
 refine J.op rfl (q9 0 tS202 (LSpl.c LSpl.z) LSet.z ?_)
 refine J.nil (Ej.end0 rfl rfl ?_)
 exact ⟨rfl, rfl⟩
theorem copyCheck_used (b : Nat) (v : Value) (I : Heap) : Ctr Tryz.prog 184 [ptr b 0] I [(b, cel 204 [ptr b 0, v])] (fun e _I' H' => e = .returned (.tuple #[]) ∧ H' = [(b, cel 204 [ptr b 0, v])]) := by
 refine Ctr.ob func184 ?_
 intro w0 hw0
 refine Cj.sr (J.z q0 ?_)
 refine J.z q6 ?_
 refine J.z (q2 (off' := 0) tU204 tS202) ?_
 refine J.z (q3 isAgg202 (Blk.at 0 rfl)) ?_
 refine J.z (yl_eqlNil _ rfl rfl rfl tU202 (by kernel_rfl)) ?_
 refine J.c0 (fun hc1 => ?_)
 refine Cj.sr (J.z q0 ?_)
 refine J.z q6 ?_
 refine J.z (q2 (off' := 0) tU204 tS202) ?_
 refine J.z (q3 isAgg202 (Blk.at 0 rfl)) ?_
 refine J.z q0 ?_
 refine J.z (yl_neqSame rfl rfl rfl tU202 (by kernel_rfl)) ?_
 refine J.c0 (fun hc2 => ?_)
 refine Cj.skip (Ej.end0 rfl rfl ?_)
 exact ⟨rfl, rfl⟩
theorem copyCheck_ok (b : Nat) (p : Bool) (v : Value) (I : Heap) : Ctr Tryz.prog 184 [ptr b 0] I [(b, cel 204 [if p then ptr b 0 else .pointer none, v])] (fun e _I' H' => e = .returned (.tuple #[]) ∧ H' = [(b, cel 204 [ptr b 0, v])]) := by
  cases p
  · exact copyCheck_fresh b v I
  exact copyCheck_used b v I
theorem WriteString_ok (b : Nat) (l s : List UInt8) (p : Bool) (g : Gs) (hg : gOk 0 1 l.length (bcs l) g) (hl : l.length ≤ 1000000000000) (hs : s.length ≤ 1000000000000) (I : Heap) :
    Ctr Tryz.prog 130 [ptr b 0, str s] I (BldH b l p g) (fun e _I' H' => e = .returned (.tuple #[i64 s.length, .nilIface]) ∧ ∃ g', gOk 0 1 (l ++ s).length (bcs (l ++ s)) g' ∧ H' = BldH b (l ++ s) true g') := by
 refine Ctr.ob func130 ?_
 intro w0 hw0
 refine Cj.sr (J.z q1 ?_)
 refine J.z q1 ?_
 refine J.nssr (J.z q0 ?_)
 refine J.pull Pull.z ?_
 refine J.op rfl (op_call (H1 := [_]) rfl rfl rfl rfl rfl (copyCheck_ok b p _ _) ?_ (fun _ _ _ _ h => by cases h.1) (fun _ _ h => by cases h.1))
 intro v1 I2 H3 hle4 hp5
 obtain ⟨hv1, rfl⟩ := hp5; cases hv1
 refine J.nssr (J.z q0 ?_)
 refine J.z q0 ?_
 refine J.z q6 ?_
 refine J.z (q2 (off' := 1) tU204 tS192) ?_
 refine J.z (q3 tA192 (Blk.at 0 rfl)) ?_
 refine J.z q0 ?_
 refine J.op rfl (op_appendB 0 (Nat.zero_le _) (by' := 0) [_] rfl rfl rfl rfl rfl tU192 (.inl tU9) (by kernel_rfl) tS5 tZ5 rfl hg rfl Src.str (by omega) ?_)
 intro g6 hg6
 refine J.z q6 ?_
 refine J.z (q2 (off' := 1) tU204 tS192) ?_
 refine J.op rfl (op_store 0 rfl rfl rfl rfl (gV_cells _ _) (gV_one _ _) tS192 rfl rfl (LSpl.s (LSpl.c LSpl.z)) LSet.z ?_)
 refine J.nssr (J.z q0 ?_)
 refine J.z (yl_lenStr rfl rfl tU9) ?_
 refine J.z q1 ?_
 refine J.z q1 ?_
 refine J.ns (Cj.ret (Ej.keep (Keeps.k Keeps.r) ?_))
 refine q20 ?_
 exact ⟨rfl, g6, by simpa [bcs] using hg6, by simp [BldH, bcs]⟩
theorem String_nil (b : Nat) (x : Value) (I : Heap) : Ctr Tryz.prog 132 [ptr b 0] I [(b, cel 204 [x, .slice none 0 0])] (fun e _I' H' => e = .returned (str []) ∧ ∃ y z, H' = [(b, cel 204 [y, z])]) := by
 refine Ctr.ob func132 ?_
 intro w0 hw0
 refine Cj.sr (J.z q1 ?_)
 refine J.nss (Cj.drawSel [0] [] 12 (by kernel_rfl) ?_)
 refine JA.fix ⟨(HSub.c 0 rfl HSub.n), CSub.n, (Le.refl _)⟩ (fun fx1 => ?_)
 refine JA.tk 0 rfl fx1 q0 ?_
 refine JA.tk 1 rfl fx1 q6 ?_
 refine JA.tk 2 rfl fx1 (q2 (off' := 1) tU204 tS192) ?_
 refine JA.tk 3 rfl fx1 (q3 tA192 (Blk.atC 0 rfl)) ?_
 refine JA.tk 4 rfl fx1 (yl_sliceDataNil rfl rfl) ?_
 refine JA.tk 5 rfl fx1 q0 ?_
 refine JA.tk 6 rfl fx1 q6 ?_
 refine JA.tk 7 rfl fx1 (q2 (off' := 1) tU204 tS192) ?_
 refine JA.tk 8 rfl fx1 (q3 tA192 (Blk.atC 0 rfl)) ?_
 refine JA.tk 9 rfl fx1 (q14 tU192) ?_
 refine q4 10 rfl (q7 (yl_unsafeStringNone rfl rfl rfl) ?_)
 refine ⟨⟨(Le.refl _), (HSub.c 0 rfl HSub.n), CSub.n⟩, ?_⟩
 refine JA.fix ⟨(HSub.c 0 rfl HSub.n), CSub.n, (Le.refl _)⟩ (fun fx2 => ?_)
 refine JA.tk 11 rfl fx2 q1 ?_
 refine q8 ?_
 refine Ej.seq (Cj.ret (Ej.keep (Keeps.k Keeps.n) ?_))
 refine q5 ?_
 exact ⟨rfl, _, _, rfl⟩
theorem String_some (b gb c : Nat) (x : Value) (l : List UInt8) (sp : List Value) (h0 : l ≠ []) (hl : l.length ≤ 1000000000000) (hc : c ≠ 0) (I : Heap) : Ctr Tryz.prog 132 [ptr b 0] I [(b, cel 204 [x, .slice (some ⟨gb, 0, none⟩) l.length c]), (gb, cel 5 (bcs l ++ sp))] (fun e _I' H' => e = .returned (str l) ∧ ∃ y z, H' = [(b, cel 204 [y, z])]) := by
 refine Ctr.ob func132 ?_
 intro w0 hw0
 refine Cj.sr (J.z q1 ?_)
 refine J.nss (Cj.drawSel [0] [] 12 (by kernel_rfl) ?_)
 refine JA.fix ⟨(HSub.c 0 rfl HSub.n), CSub.n, (Le.refl _)⟩ (fun fx1 => ?_)
 refine JA.tk 0 rfl fx1 q0 ?_
 refine JA.tk 1 rfl fx1 q6 ?_
 refine JA.tk 2 rfl fx1 (q2 (off' := 1) tU204 tS192) ?_
 refine JA.tk 3 rfl fx1 (q3 tA192 (Blk.atC 0 rfl)) ?_
 refine JA.tk 4 rfl fx1 (yl_sliceData rfl rfl hc) ?_
 refine JA.tk 5 rfl fx1 q0 ?_
 refine JA.tk 6 rfl fx1 q6 ?_
 refine JA.tk 7 rfl fx1 (q2 (off' := 1) tU204 tS192) ?_
 refine JA.tk 8 rfl fx1 (q3 tA192 (Blk.atC 0 rfl)) ?_
 refine JA.tk 9 rfl fx1 (q14 tU192) ?_
 refine q4 10 rfl (op_unsafeString 1 l rfl rfl rfl rfl rfl underlying246 (by kernel_rfl) rfl h0 (by omega) (LSet.s LSet.z) ?_)
 refine ⟨⟨(Le.refl _), (HSub.c 0 rfl HSub.n), CSub.n⟩, ?_⟩
 refine JA.fix ⟨(HSub.c 0 rfl HSub.n), CSub.n, (Le.refl _)⟩ (fun fx2 => ?_)
 refine JA.tk 11 rfl fx2 q1 ?_
 refine q8 ?_
 refine Ej.seq (Cj.ret (Ej.keep (Keeps.k (Keeps.d Keeps.n)) ?_))
 refine q5 ?_
 exact ⟨rfl, _, _, rfl⟩
theorem String_ok (b : Nat) (l : List UInt8) (p : Bool) (g : Gs) (hg : gOk 0 1 l.length (bcs l) g) (h0 : l = [] → g = none) (hl : l.length ≤ 1000000000000) (I : Heap) : Ctr Tryz.prog 132 [ptr b 0] I (BldH b l p g) (fun e _I' H' => e = .returned (str l) ∧ ∃ y z, H' = [(b, cel 204 [y, z])]) := by
  cases g with
  | none =>
    have : l = [] := List.length_eq_zero_iff.1 hg.1
    subst this
    exact String_nil b _ I
  | some q =>
    obtain ⟨gb, c, sp⟩ := q
    have hne : l ≠ [] := fun h => by cases h0 h
    have hlen := hg.2.1
    have hcap := hg.2.2
    have : 0 < l.length := List.length_pos_iff.2 hne
    exact String_some b gb c _ l sp hne hl (by rw [hlen] at hcap; omega) I
theorem Len_nil (b : Nat) (x : Value) (I : Heap) : Ctr Tryz.prog 131 [ptr b 0] I [(b, cel 204 [x, .slice none 0 0])] (fun e _I' H' => e = .returned (i64 0) ∧ H' = [(b, cel 204 [x, .slice none 0 0])]) := by
 refine Ctr.ob func131 ?_
 intro w0 hw0
 refine Cj.sr (J.z q1 ?_)
 refine J.nssr (J.z q0 ?_)
 refine J.z q6 ?_
 refine J.z (q2 (off' := 1) tU204 tS192) ?_
 refine J.z (q3 tA192 (Blk.at 0 rfl)) ?_
 refine J.z (q14 tU192) ?_
 refine J.z q1 ?_
 refine J.ns (Cj.ret (q5 ?_))
 exact ⟨rfl, rfl⟩
theorem Len_some (b : Nat) (x : Value) (p : Option Addr) (n c : Nat) (I : Heap) : Ctr Tryz.prog 131 [ptr b 0] I [(b, cel 204 [x, .slice p n c])] (fun e _I' H' => e = .returned (i64 n) ∧ H' = [(b, cel 204 [x, .slice p n c])]) := by
 refine Ctr.ob func131 ?_
 intro w0 hw0
 refine Cj.sr (J.z q1 ?_)
 refine J.nssr (J.z q0 ?_)
 refine J.z q6 ?_
 refine J.z (q2 (off' := 1) tU204 tS192) ?_
 refine J.z (q3 tA192 (Blk.at 0 rfl)) ?_
 refine J.z (q14 tU192) ?_
 refine J.z q1 ?_
 refine J.ns (Cj.ret (q5 ?_))
 exact ⟨rfl, rfl⟩
theorem Len_ok (b : Nat) (x : Value) (n : Nat) (g : Gs) {sz : Nat} {xs : List Value} (hg : gOk 0 sz n xs g) (I : Heap) : Ctr Tryz.prog 131 [ptr b 0] I [(b, cel 204 [x, gV n g])] (fun e _I' H' => e = .returned (i64 n) ∧ H' = [(b, cel 204 [x, gV n g])]) := by
  cases g with
  | none =>
    obtain rfl : n = 0 := hg.1
    exact Len_nil b x I
  | some q => exact Len_some b x _ n _ I
theorem Reset_ok (b : Nat) (x y : Value) (I : Heap) : Ctr Tryz.prog 133 [ptr b 0] I [(b, cel 204 [x, y])] (fun e _I' H' => e = .returned (.tuple #[]) ∧ H' = [(b, cel 204 [.pointer none, .slice none 0 0])]) := by
 refine Ctr.ob func133 ?_
 intro w0 hw0
 refine Cj.sr (J.z q0 ?_)
 refine J.z q6 ?_
 refine J.z (q2 (off' := 0) tU204 tS202) ?_
 refine J.op rfl (q9 0 tS202 (LSpl.c LSpl.z) LSet.z ?_)
 refine J.nsr (J.z q0 ?_)
 refine J.z q6 ?_
 refine J.z (q2 (off' := 1) tU204 tS192) ?_
 refine J.op rfl (q9 0 tS192 (LSpl.s (LSpl.c LSpl.z)) LSet.z ?_)
 refine J.nil (Ej.end0 rfl rfl ?_)
 exact ⟨rfl, rfl⟩
end Go.Proofs.YtekmeaoblpfnpaaGreatDoor
namespace Go.Proofs.YtekmeaoblpfnpaaGreatDoor
open Go.ChangeShapes Go.WideShapes Go.ChangeAt Go.RowKit Go.Sx Go.Lib Go.ChangeMaps Go.WideMaps
theorem own : ownKnob Tryz.prog.godebug = none := by kernel_rfl
def HW (W : World) : Heap := fun b => W.heap[b]?
theorem HW.ready (W : World) : Ready (HW W) [] W := ⟨fun _ _ h => h, by simp, by simp, by simp⟩
theorem HW.below {W w' : World} {I' : Heap} {H' : HL} (h : St W [] (HW W) I' H' w') : Below W.heap.size W w' := ⟨h.os, h.tape, h.output, h.size, fun b hb => h.frm b hb (by simp)⟩
theorem HW.calls {f : FuncId} {args : List Value} {W : World} {v : Value} (h : Sx.Pure Tryz.prog f args (HW W) v) : Calls Tryz.prog f args.toArray W fun e w' => e = .returned v ∧ Below W.heap.size W w' :=
  (h.2 W (HW.ready W)).mono fun _e _w' ⟨_I', _H', hs, h1, _, _⟩ => ⟨h1, HW.below hs⟩
theorem post_grow {H : Type} {enc : TypeId × Value → H} {P : Program} {f : Func} {s : ChangeSpec} {apart fresh handsOn again : Bool} {W W' : World} {args : Array Value} {v : Value} {ds gs : List (DataW H)} {before pa pv : List MemPlace}
    (hB : Below W.heap.size W W') (hW : DataW.Whole enc P f.params.toList s.vars apart W args.toList ds gs before) (hps : before = pa ++ pv)
    (hres : ∀ (b : Nat) (sp : Nat → Bool) (hd : Bool), DataW.TrodAll enc P W' b sp hd f.resultTypes.toList (v.resultList f.resultTypes.size) (s.fn H (ds ++ gs)).results [])
    (hargs : ∀ sp : Nat → Bool, (∀ p ∈ before, sp p.block = true) → DataW.TrodAll enc P W' 0 sp true f.params.toList args.toList (s.fn H (ds ++ gs)).args pa)
    (hvars : ∀ sp : Nat → Bool, (∀ p ∈ before, sp p.block = true) → DataW.TrodVars enc P W' sp s.vars (s.fn H (ds ++ gs)).vars pv)
    (hok : ∀ (j : Nat) (t : TypeId) (r : Value), f.resultTypes[j]? = some t → (v.resultList f.resultTypes.size)[j]? = some r → Value.okWide P W' .any 0 t r) : s.post enc P f apart fresh handsOn again W args v W' := by
  have old : ∀ p ∈ before, p.block < W.heap.size := hW.lt
  have mem : ∀ p, p ∈ before ↔ p ∈ pa ∨ p ∈ pv := fun p => by rw [hps]; exact List.mem_append
  have both : ([] ++ pa) ++ pv = before := by rw [hps]; rfl
  refine ⟨ds, gs, before, [], pa, pv, hW, hres _ _ _, hargs _ fun p hp => decide_eq_true (old p hp), hvars _ fun p hp => decide_eq_true (old p hp), World.keptBut_mono (fun p hp => ⟨hp, .inr ((mem p).1 hp)⟩) (hB.frame (· ∈ before)), fun _ => ?_⟩
  have hrd := hargs (fun _ => true) fun _ _ => rfl
  obtain ⟨_, _, _, _, _, hfrz, hnd⟩ := hW
  refine ⟨hok, _, _, ([] ++ pa) ++ pv, ⟨[] ++ pa, pv, trodAll_append hrd (hres _ _ _), hvars _ fun _ _ => rfl, rfl, fun b off hp => ?_, fun ha => ?_⟩, fun p hp _ => ?_⟩
  · have hin : MemPlace.cell b off ∈ before := both ▸ hp
    have hlt : b < W.heap.size := old _ hin
    have hf := hfrz b off hin
    unfold World.frozen? at hf ⊢
    rw [hB.block b hlt]
    exact hf
  · exact both ▸ hnd ha
  exact both ▸ hp
def Again {H : Type} (enc : TypeId × Value → H) (W : World) (t : TypeId) (v : Value) (d : DataW H) (p : List MemPlace) : Prop :=
  ∀ W', Below W.heap.size W W' → ∀ sp : Nat → Bool, (∀ q ∈ p, sp q.block = true) → DataW.Trod enc Tryz.prog W' 0 sp true t v d p
section
variable {H : Type} {enc : TypeId × Value → H} {W : World} {base : Nat}
theorem u8_of {n : Int} (h : (Lit.int .u8 n).wf = true) : ∃ c : UInt8, n = (c.toNat : Int) := by
  simp [Lit.wf, IntKind.min, IntKind.max, IntKind.signed, IntKind.bits] at h
  refine ⟨UInt8.ofNatLT n.toNat (by show n.toNat < 256; omega), ?_⟩
  rw [UInt8.toNat_ofNatLT]
  omega
theorem arg_u8 {t : TypeId} {v : Value} {d : DataW H} {p : List MemPlace} (ht : Tryz.prog.underlying t = some (.int .u8)) (hval : Value.okWide Tryz.prog W .any base t v) (h : DataW.Trod enc Tryz.prog W 0 (fun _ => true) true t v d p) :
    ∃ c : UInt8, v = u8 c ∧ d = .lit (.int .u8 (c.toNat : Int)) ∧ p = [] ∧ Again enc W t v d p := by
  obtain ⟨n, rfl, rfl, rfl, hw⟩ := open_int ht hval h
  obtain ⟨c, rfl⟩ := u8_of hw
  exact ⟨c, rfl, rfl, rfl, fun W' _ sp _ => shut_int ht hw⟩
end
theorem witness_laid {H : Type} {enc : TypeId × Value → H} (os : Os) {f : FuncId} {fn : Func} {s : OpenSpec} {conds : List PathCond} {apart : Bool} {laid : List (String × DataW Unit)} (args : Array Value)
    (hv : ((World.laidAll Tryz.prog os laid).forCall (fun _ _ => 0) ⟨#[], args, []⟩).variablesZipB Tryz.prog = true)
    (hr : (((World.laidAll Tryz.prog os laid).forCall (fun _ _ => 0) ⟨#[], args, []⟩).heap.toList.drop Tryz.prog.globals.size).take ((begin Tryz.prog (fun _ _ => 0) default).world.heap.size - Tryz.prog.globals.size) = (begin Tryz.prog (fun _ _ => 0) default).world.heap.toList.drop Tryz.prog.globals.size)
    (hok : Input.okWideB Tryz.prog ((World.laidAll Tryz.prog os laid).forCall (fun _ _ => 0) ⟨#[], args, []⟩) f ⟨#[], args, []⟩ = true)
    (hrow : s.preRow enc Tryz.prog fn conds apart laid ((World.laidAll Tryz.prog os laid).forCall (fun _ _ => 0) ⟨#[], args, []⟩).memory args) :
    ∃ (w : World) (tape : Tape) (i : Input), w.os = os ∧ (w.forCall tape i).Shaped Tryz.prog ∧ i.vars = [] ∧ Input.okWide Tryz.prog (w.forCall tape i) .any w.heap.size f i ∧
      s.preRow enc Tryz.prog fn conds apart laid (w.forCall tape i).memory i.args ∧ ({} : Assume).holds Tryz.prog (lone (Frame.enter Tryz.prog f i.args .normal) [] (w.forCall tape i)) :=
  ⟨World.laidAll Tryz.prog os laid, fun _ _ => 0, ⟨#[], args, []⟩, World.laidAll_os _ _ _, World.shaped_of_ZipB hv hr, (Input.okWide_of_okWideB (base := 0) hok).1, (Input.okWide_of_okWideB hok).2, hrow, by
    simp only [Assume.holds]
    exact ⟨by simp, by simp, by simp, by simp, by simp⟩⟩
end Go.Proofs.YtekmeaoblpfnpaaGreatDoor
namespace Go.Sx
open Go
def YC (P : Program) (l : Nat) (args : List Value) (I : Heap) (H : HL) (post : Ending → Heap → HL → Prop) : Prop :=
  ∀ w, Ready I H w → ∃ f tmps assign body, (Instr.yield l args.toArray).run P w = .ok (.round l f tmps assign body) w ∧ RoundIn Fence.wide 0 P l f tmps assign body w (RR w (H.map (·.1)) I post)
theorem fence_round {rd : Option Nat} {n : Nat} {P : Program} {l : Nat} {f : FuncId} {tmps : Array Value} {assign body : Code} {w : World} {R : Ending → World → Prop} (h : RoundIn Fence.wide n P l f tmps assign body w R) : RoundIn { Fence.wide with round := rd } n P l f tmps assign body w R := by
  cases rd with
  | none => exact h
  | some l => exact h
section
variable {cx : Cx} {Q : Qt} {o : Oper} {e : Env} {I : Heap}
theorem wp_yield {H1 R : HL} {d l : Nat} {fo : Operand} {xs : List Operand} {ts : Array TypeId} {vs : List Value} {post : Ending → Heap → HL → Prop} {K : Act → World → Prop}
    (ho : o.op = .call ⟨.value fo, xs.toArray, ts⟩) (hd : o.dst = some d) (hn : Nat.blt d cx.n = true) (hf : ev e fo = some (.func (.yield l) #[] #[])) (hx : evs e xs = some vs) (hs : YC cx.P l vs I H1 post)
    (k : ∀ v I' H1', Le I I' → post (.returned v) I' H1' → ∀ a w, Has a cx.n ((d, v) :: e) cx.ds → St cx.w0 cx.D cx.I0 I' (R ++ H1') w → K a w)
    (kp : ∀ ch I' H1', ¬ post (.panicked ch) I' H1') (ko : ∀ I' H1', ¬ post .outgrown I' H1') {a : Act} {w : World} (ha : Has a cx.n e cx.ds) (hst : St cx.w0 cx.D cx.I0 I (R ++ H1) w) : o.wpIn cx.F 0 cx.P a w K Q := by
  replace hst := hst.perm (H' := H1 ++ R) List.perm_append_comm
  have hready : Ready I H1 w := ⟨hst.sub, fun p hp => hst.own p (List.mem_append_left _ hp), by
    have := hst.nodup; rw [List.map_append, List.nodup_append] at this; exact this.1, fun p hp => hst.dis p (List.mem_append_left _ hp)⟩
  obtain ⟨f, tmps, assign, body, h1, h2⟩ := hs w hready
  have hr : (execOp a.eval o).run cx.P w = .ok (.round l f tmps assign body) w := by
    have hxs : xs.toArray.map a.eval = vs.toArray := by
      rw [List.map_toArray, ha.evals hx]
    simp only [execOp, ho, resolve, hxs, ha.eval hf, Deferred.ofValue, invoke, Sem.run_bind, Sem.run_pure, Result.andThen_ok, Array.empty_append, h1]
  refine ⟨fun _ _ => trivial, ?_⟩
  have he : o.semAt cx.F.round a.eval = execOp a.eval o := Oper.semAt_eq _ _ _ (fun c hc => by rw [ho] at hc; cases hc)
  rw [he, hr]
  refine ⟨fun h => by simp [Cx.F, Fence.wide] at h, ?_⟩
  refine RoundIn.mono (fence_round (rd := cx.rd) h2) ?_
  rintro en w' ⟨I', H1', hs', hp⟩
  have hle := hs'.le
  have hst' := (hst.call hs').perm (H' := R ++ H1') List.perm_append_comm
  cases en with
  | returned v =>
    rw [hd]
    exact k v I' H1' hle hp _ _ (ha.put hn) hst'
  | panicked ch => exact (kp _ _ _ hp).elim
  | outgrown => exact (ko _ _ hp).elim
theorem J.yield {ops : Array Oper} {r : List Oper} {H1 : HL} (R : HL) {d l : Nat} {fo : Operand} {xs : List Operand} {ts : Array TypeId} {vs : List Value} {post : Ending → Heap → HL → Prop}
    (hg : o.guard = none) (ho : o.op = .call ⟨.value fo, xs.toArray, ts⟩) (hd : o.dst = some d) (hn : Nat.blt d cx.n = true) (hf : ev e fo = some (.func (.yield l) #[] #[])) (hx : evs e xs = some vs) (hs : YC cx.P l vs I H1 post)
    (k : ∀ v I' H1', Le I I' → post (.returned v) I' H1' → J cx Q ops r ((d, v) :: e) I' (R ++ H1'))
    (kp : ∀ ch I' H1', ¬ post (.panicked ch) I' H1') (ko : ∀ I' H1', ¬ post .outgrown I' H1') : J cx Q ops (o :: r) e I (R ++ H1) :=
  fun _ _ ha hst => wpListIn_plain hg fun _ hK => wp_yield ho hd hn hf hx hs (fun v I' H1' hle hp a w ha hst => hK a w (k v I' H1' hle hp a w ha hst)) kp ko ha hst
theorem J.yieldG {ops : Array Oper} {r : List Oper} {H1 : HL} (R : HL) {d l : Nat} {fo : Operand} {xs : List Operand} {ts : Array TypeId} {vs : List Value} {post : Ending → Heap → HL → Prop} (j dj : Nat) (want b : Bool)
    (hg : o.guard = some (j, want)) (hdj : (ops[j]?).bind (·.dst) = some dj) (hv : eg e dj = some (.bool b)) (hb : b = want) (ho : o.op = .call ⟨.value fo, xs.toArray, ts⟩) (hd : o.dst = some d) (hn : Nat.blt d cx.n = true) (hf : ev e fo = some (.func (.yield l) #[] #[])) (hx : evs e xs = some vs) (hs : YC cx.P l vs I H1 post)
    (k : ∀ v I' H1', Le I I' → post (.returned v) I' H1' → J cx Q ops r ((d, v) :: e) I' (R ++ H1'))
    (kp : ∀ ch I' H1', ¬ post (.panicked ch) I' H1') (ko : ∀ I' H1', ¬ post .outgrown I' H1') : J cx Q ops (o :: r) e I (R ++ H1) := by
  intro a w ha hst
  refine wpListIn_step fun K hK => ?_
  rw [if_pos (by simp [Region.wanted, hg, yielded_of ha hdj hv, hb])]
  exact wp_yield ho hd hn hf hx hs (fun v I' H1' hle hp a w ha hst => hK a w (k v I' H1' hle hp a w ha hst)) kp ko ha hst
end
def YS (P : Program) (l : Nat) (xs : List (List Value)) (Y : Nat → Heap → HL → Prop) (Z : Heap → HL → Prop) : Prop :=
  ∀ k args, xs[k]? = some args → ∀ I H, Y k I H → YC P l args I H (fun e I' H' => (e = .returned (.bool true) ∧ Y (k + 1) I' H') ∨ (e = .returned (.bool false) ∧ Z I' H'))
def Gen (P : Program) (f : FuncId) (fst cap : List Value) (I : Heap) (xs : List (List Value)) : Prop :=
  Enters P f ∧ ∀ (l : Nat) (Y : Nat → Heap → HL → Prop) (Z : Heap → HL → Prop), (∀ k I1 I2 H, Le I1 I2 → Y k I1 H → Y k I2 H) → YS P l xs Y Z →
    ∀ H, Y 0 I H → Ctr P f (fst ++ [.func (.yield l) #[] #[]] ++ cap) I H (fun e I' H' => e = .returned (.tuple #[]) ∧ (Y xs.length I' H' ∨ Z I' H'))
def zipEnv : List Tmp → List Value → Env → Env
  | t :: ps, v :: vs, e => zipEnv ps vs ((t, v) :: e)
  | _, _, e => e
theorem Has.zip {n : Nat} : ∀ (ps : List Tmp) (vs : List Value) (e : Env) (tmps : Array Value), (∀ t ∈ ps, Nat.blt t n = true) → Has ⟨tmps, []⟩ n e [] → Has ⟨(ps.zip vs).foldl (fun tmps (x : Tmp × Value) => tmps.setIfInBounds x.1 x.2) tmps, []⟩ n (zipEnv ps vs e) []
  | [], _, _, _, _, h => h
  | _ :: _, [], _, _, _, h => h
  | t :: ps, _v :: vs, _e, tmps, hn, h => Has.zip ps vs _ _ (fun u hu => hn u (.tail _ hu)) (Has.put (a := ⟨tmps, []⟩) h (hn t (.head _)))
def AsgQ (cx : Cx) (l : Nat) (r : Loop) (body : Code) (Q : Qt) : Qt
  | .normal, a, w => ∃ e I H, Has a cx.n e cx.ds ∧ St cx.w0 cx.D cx.I0 I ((l, .loop r) :: H) w ∧ Cj cx Q body e I ((l, .loop { r with state := .busy }) :: H)
  | _, _, _ => False
def RdQ (cx : Cx) (l : Nat) (r : Loop) (Y : Heap → HL → Prop) (Z : Code → Heap → HL → Prop) : Qt
  | .normal, _, w => ∃ I H, St cx.w0 cx.D cx.I0 I ((l, .loop { r with state := .busy }) :: H) w ∧ Y I H
  | .ret, _, w => ∃ I H, St cx.w0 cx.D cx.I0 I ((l, .loop { r with state := .busy }) :: H) w ∧ Z .ret I H
  | .exit id, _, w => ∃ I H, St cx.w0 cx.D cx.I0 I ((l, .loop { r with state := .busy }) :: H) w ∧ Z (.exit id) I H
  | _, _, _ => False
section
variable {cx : Cx} {Q : Qt} {e : Env} {I : Heap} {H : HL} {l : Nat} {r : Loop} {Y : Heap → HL → Prop} {Z : Code → Heap → HL → Prop}
theorem Ej.asg {body : Code} (k : Cj cx Q body e I ((l, .loop { r with state := .busy }) :: H)) : Ej cx (AsgQ cx l r body Q) .normal e I ((l, .loop r) :: H) :=
  fun _ _ ha hs => ⟨e, I, H, ha, hs, k⟩
theorem Ej.rdNormal (h : Y I H) : Ej cx (RdQ cx l r Y Z) .normal e I ((l, .loop { r with state := .busy }) :: H) := fun _ _ _ hs => ⟨I, H, hs, h⟩
abbrev markOf (b : Nat) : Deferred := { target := .collected b, args := #[] }
theorem Cj.rangeFunc {g : Operand} {ps : List Tmp} {assign body : Code} {f : Nat} {fst cap : List Value} {H1 R : HL} (xs : List (List Value)) (Y : Nat → Heap → HL → Prop) (Z : Code → Heap → HL → Prop)
    (hr : cx.rd = none) (hps : ∀ t ∈ ps, Nat.blt t cx.n = true) (hlen : ∀ args ∈ xs, args.length = ps.length) (hg : ev e g = some (.func (.func f) fst.toArray cap.toArray)) (hgen : Gen cx.P f fst cap I xs)
    (hmono : ∀ k I1 I2 H, Le I1 I2 → Y k I1 H → Y k I2 H) (h0 : Y 0 I H1)
    (round : ∀ l r k args I1 Hk w0, xs[k]? = some args → Le I I1 → Y k I1 Hk →
      Cj ⟨cx.P, cx.n, w0, l :: Hk.map (·.1), I1, [], some l⟩ (AsgQ ⟨cx.P, cx.n, w0, l :: Hk.map (·.1), I1, [], some l⟩ l r body (RdQ ⟨cx.P, cx.n, w0, l :: Hk.map (·.1), I1, [], some l⟩ l r (Y (k + 1)) Z)) assign (zipEnv ps args e) I1 ((l, .loop r) :: Hk))
    (done : ∀ b I' H', Le I I' → Y xs.length I' H' → Ej { cx with ds := markOf b :: cx.ds } Q .normal e I' ((b, .deferred (some [])) :: (H' ++ R)))
    (left : ∀ b c I' H', Le I I' → Z c I' H' → Cj { cx with ds := markOf b :: cx.ds } Q c e I' ((b, .deferred (some [])) :: (H' ++ R))) :
    Cj cx Q (.rangeFunc g ps.toArray assign body) e I (H1 ++ R) := by
  intro a w ha hst
  rw [Cx.wide hr]
  refine wpIn_rangeFunc fun fn _ => ?_
  obtain ⟨r, hr0⟩ : ∃ r : Loop, r = { state := .ready, pending := none, fn := fn, tmps := a.tmps, params := ps.toArray, assign := assign, body := body, defers := w.heap.size } := ⟨_, rfl⟩
  obtain ⟨l, hl⟩ : ∃ l, l = w.heap.size + 1 := ⟨_, rfl⟩
  have hst1 : St cx.w0 cx.D cx.I0 I (((l, .loop r) :: H1) ++ ((w.heap.size, .deferred (some [])) :: R)) ((w.alloc (.deferred (some []))).alloc (.loop r)) := by
    have h1 := (hst.alloc (.deferred (some []))).alloc (.loop r)
    have h2 : (w.heap.push (.deferred (some []))).size = l := by rw [hl, Array.size_push]
    rw [h2] at h1
    refine h1.perm ?_
    show ((l, Obj.loop r) :: (H1 ++ (w.heap.size, Obj.deferred (some [])) :: R)).Perm _
    exact List.Perm.cons _ List.perm_middle
  let Y' : Nat → Heap → HL → Prop := fun k I1 H => Le I I1 ∧ ∃ Hk, H = (l, .loop r) :: Hk ∧ Y k I1 Hk
  let Z' : Heap → HL → Prop := fun I1 H => ∃ c Hk, H = (l, .loop { r with state := .done, pending := some c }) :: Hk ∧ Z c I1 Hk
  have hYS : YS cx.P l xs Y' Z' := by
    rintro k args hk I1 H ⟨hle, Hk, rfl, hY⟩ w1 hready
    have hlr : w1.heap[l]? = some (.loop r) := hready.2.1 _ (.head _)
    have hal := hlen args (List.mem_of_getElem? hk)
    refine ⟨r.fn, _, r.assign, r.body, run_yield hlr (by rw [hr0]; simp [hal]), roundIn_of_wpIn trivial ?_⟩
    have hz : (r.params.zip args.toArray).foldl (fun tmps (x : Tmp × Value) => tmps.setIfInBounds x.1 x.2) r.tmps = (ps.zip args).foldl (fun tmps (x : Tmp × Value) => tmps.setIfInBounds x.1 x.2) a.tmps := by
      rw [hr0]; simp [List.zip_toArray]
    have hhas := Has.zip (n := cx.n) ps args e a.tmps hps ⟨ha.size, rfl, ha.get⟩
    rw [← hz] at hhas
    have hc := round l r k args I1 Hk w1 hk hle hY _ _ hhas (St.start w1 I1 ((l, .loop r) :: Hk) hready.1 hready.2.1 hready.2.2.1 hready.2.2.2)
    have e1 : r.assign = assign := by rw [hr0]
    have e2 : r.body = body := by rw [hr0]
    rw [e1, e2]
    refine wpIn_mono hc ?_
    rintro x a2 w2 hq
    cases x with
    | normal =>
      obtain ⟨e2, I2, H2, ha2, hs2, hb⟩ := hq
      refine ⟨_, run_beginRound (hs2.own _ (.head _)) (by rw [hr0]), ?_⟩
      have hs3 := hs2.block (i := 0) (o' := .loop { r with state := .busy }) rfl LSet.z
      refine wpIn_mono (hb a2 _ ha2 hs3) ?_
      rintro x a3 w3 hq3
      cases x with
      | normal =>
        obtain ⟨I3, H3, hs4, hY4⟩ := hq3
        refine ⟨_, _, run_endRound none (hs4.own _ (.head _)), I3, (l, .loop r) :: H3, ?_, .inl ⟨rfl, hle.trans hs4.le, H3, rfl, hY4⟩⟩
        have := hs4.block (i := 0) (o' := .loop r) rfl LSet.z
        rw [hr0] at this ⊢
        exact this
      | ret =>
        obtain ⟨I3, H3, hs4, hZ4⟩ := hq3
        exact ⟨_, _, run_endRound (some .ret) (hs4.own _ (.head _)), I3, _, hs4.block (i := 0) rfl LSet.z, .inr ⟨rfl, _, H3, rfl, hZ4⟩⟩
      | exit id =>
        obtain ⟨I3, H3, hs4, hZ4⟩ := hq3
        exact ⟨_, _, run_endRound (some (.exit id)) (hs4.own _ (.head _)), I3, _, hs4.block (i := 0) rfl LSet.z, .inr ⟨rfl, _, H3, rfl, hZ4⟩⟩
      | goto t => exact hq3.elim
      | panic ch => exact hq3.elim
      | outgrown => exact hq3.elim
    | exit id => exact hq.elim
    | goto t => exact hq.elim
    | ret => exact hq.elim
    | panic ch => exact hq.elim
    | outgrown => exact hq.elim
  have hctr := hgen.2 l Y' Z' (fun k I1 I2 H hle ⟨h1, Hk, h2, h3⟩ => ⟨h1.trans hle, Hk, h2, hmono _ _ _ _ hle h3⟩) hYS ((l, .loop r) :: H1) ⟨Le.refl _, H1, rfl, h0⟩
  have hready : Ready I ((l, .loop r) :: H1) ((w.alloc (.deferred (some []))).alloc (.loop r)) := ⟨hst1.sub, fun p hp => hst1.own p (List.mem_append_left _ hp), by
    have := hst1.nodup; rw [List.map_append, List.nodup_append] at this; exact this.1, fun p hp => hst1.dis p (List.mem_append_left _ hp)⟩
  have hent : (Instr.enterLoop fn a.tmps ps.toArray assign body none).run cx.P w = .ok (l, [markOf w.heap.size]) ((w.alloc (.deferred (some []))).alloc (.loop r)) := by
    rw [hl, hr0]; exact run_enterLoop_outer fn a.tmps ps.toArray assign body
  refine ⟨l, [markOf w.heap.size], (w.alloc (.deferred (some []))).alloc (.loop r), ⟨.fn (.func f) cap.toArray, (fst ++ [Value.func (.yield l) #[] #[]]).toArray⟩, (w.alloc (.deferred (some []))).alloc (.loop r), f, (fst ++ [Value.func (.yield l) #[] #[]] ++ cap).toArray, (w.alloc (.deferred (some []))).alloc (.loop r), hent, ?_, fun _ _ => trivial, ?_, fun h => by simp [Fence.wide] at h, callsIn_wide.2 ?_⟩
  · have he : a.eval (.const (.func (.yield l) #[] #[])) = .func (.yield l) #[] #[] := rfl
    simp [resolve, ha.eval hg, Deferred.ofValue, he]
  · have h := run_callFunc hgen.1 (fst ++ [Value.func (.yield l) #[] #[]] ++ cap).toArray ((w.alloc (.deferred (some []))).alloc (.loop r))
    simpa [invoke] using h
  refine (hctr.2 _ hready).mono ?_
  rintro en w' ⟨I', H', hs', rfl, hYZ⟩
  have hst2 := hst1.call hs'
  have hle := hs'.le
  have ha2 : Has { a with defers := [markOf w.heap.size] ++ a.defers } cx.n e (markOf w.heap.size :: cx.ds) := ⟨ha.size, by simp [ha.defs], ha.get⟩
  rcases hYZ with ⟨_, Hk, rfl, hY⟩ | ⟨c, Hk, rfl, hZ⟩
  · refine ⟨_, _, run_endLoop (hst2.own _ (.head _)) (by rw [hr0]; simp), ?_⟩
    have hs5 := ((hst2.block (i := 0) (o' := .loop { r with state := .exhausted }) rfl LSet.z).sublist (List.sublist_cons_self _ _)).perm (H' := (w.heap.size, .deferred (some [])) :: (Hk ++ R)) List.perm_middle.symm
    have hp : r.pending = none := by rw [hr0]
    rw [hp] at hs5 ⊢
    exact done w.heap.size I' Hk hle hY _ _ ha2 hs5
  refine ⟨_, _, run_endLoop (hst2.own _ (.head _)) (by simp), ?_⟩
  have hs5 := ((hst2.block (i := 0) (o' := .loop { { r with state := .done, pending := some c } with state := .exhausted }) rfl LSet.z).sublist (List.sublist_cons_self _ _)).perm (H' := (w.heap.size, .deferred (some [])) :: (Hk ++ R)) List.perm_middle.symm
  have hw := left w.heap.size c I' Hk hle hZ _ _ ha2 hs5
  have hF : ({ cx with ds := markOf w.heap.size :: cx.ds } : Cx).F = Fence.wide := Cx.wide hr
  rw [hF] at hw
  exact hw
end
theorem one_blt {t n : Nat} (h : Nat.blt t n = true) : ∀ u ∈ [t], Nat.blt u n = true := fun u hu => by simp at hu; subst hu; exact h
theorem seq1 {α : Type} (l : List α) (f : α → Value) : ∀ args ∈ l.map (fun x => [f x]), args.length = 1 := fun args h => by
  obtain ⟨x, _, rfl⟩ := List.mem_map.1 h; rfl
theorem seq1_at {α : Type} {l : List α} {f : α → Value} {k : Nat} {args : List Value} (h : (l.map (fun x => [f x]))[k]? = some args) : ∃ x, l[k]? = some x ∧ args = [f x] := by
  rw [List.getElem?_map] at h
  cases hl : l[k]? with
  | none => rw [hl] at h; cases h
  | some x => rw [hl] at h; cases h; exact ⟨x, rfl, rfl⟩
theorem Cj.isNew {cx : Cx} {Q : Qt} {c : Code} {e : Env} {I : Heap} {H : HL} (hD : cx.D = []) (k : (∀ p ∈ H, cx.w0.heap.size ≤ p.1) → Cj cx Q c e I H) : Cj cx Q c e I H := fun a w ha hs => k (fun p hp => by
  have := hs.new p hp
  rw [hD] at this
  exact this.resolve_left (by simp)) a w ha hs
theorem gOk.base {b0 b1 sz n : Nat} {xs : List Value} {g : Gs} {T : TypeId} (h : gOk b0 sz n xs g) (hn : ∀ p ∈ gH T xs g, b1 ≤ p.1) : gOk b1 sz n xs g := by
  cases g with
  | none => exact h
  | some q => exact ⟨hn _ (.head _), h.2⟩
theorem Ctr.of_bodyM {P : Program} {f : FuncId} {fn : Func} {c : Code} {args : List Value} {I : Heap} {H : HL} {post : Ending → Heap → HL → Prop} (hf : P.funcs[f]? = some fn) (hb : fn.body = some c) (hname : fn.name ≠ "runtime.NumGoroutine")
    (hn : args.length ≤ fn.ntmps)
    (h : ∀ w0, Ready I H w0 → Cj ⟨P, fn.ntmps, w0, H.map (·.1), I, [], none⟩ (bodyPostM Fence.wide 0 P fn (RR w0 (H.map (·.1)) I post)) c (argsEnv 0 args) I H) : Ctr P f args I H post := by
  refine ⟨⟨fn, hf, hname, by simp [hb]⟩, fun w hw => ?_⟩
  refine (callsIn_wide (n := 0)).1 (callsIn_of_wp_marks hf hb trivial ?_)
  exact h w hw _ _ (Has.start args fn.ntmps hn) (St.start w I H hw.1 hw.2.1 hw.2.2.1 hw.2.2.2)
def LvJ (cx : Cx) (fn : Func) (post : Ending → Heap → HL → Prop) (ds : List Deferred) (e : Env) (I : Heap) (H : HL) : Prop :=
  ∀ a w, Has a cx.n e cx.ds → St cx.w0 cx.D cx.I0 I H w → LeavesInM Fence.wide 0 cx.P fn a.tmps (RR cx.w0 cx.D cx.I0 post) ds .returning w
section
variable {cx : Cx} {fn : Func} {post : Ending → Heap → HL → Prop} {e : Env} {I : Heap} {H H' : HL} {ds : List Deferred}
theorem Ej.leaveM {x : Exit} (hx : x = .ret ∨ x = .normal) (h : LvJ cx fn post cx.ds e I H) : Ej cx (bodyPostM Fence.wide 0 cx.P fn (RR cx.w0 cx.D cx.I0 post)) x e I H := by
  intro a w ha hs
  have := h a w ha hs
  rw [← ha.defs] at this
  rcases hx with rfl | rfl
  · exact this
  exact this
theorem LvJ.mark {b : Nat} (i : Nat) (hH : H[i]? = some (b, .deferred (some []))) (hH' : LSet H i (b, .deferred none) H') (h : LvJ cx fn post ds e I H') : LvJ cx fn post (markOf b :: ds) e I H :=
  fun a _ ha hs => ⟨by simp, .inl ⟨b, _, rfl, run_takeDeferred (hs.own _ (List.mem_of_getElem? hH)), h a _ ha (hs.block hH hH')⟩⟩
theorem LvJ.keep (hk : Keeps H' H) (h : LvJ cx fn post ds e I H') : LvJ cx fn post ds e I H := fun a w ha hs => h a w ha (hs.sublist hk)
theorem LvJ.ret1 {t : Nat} {v : Value} (hr : fn.results = #[.tmp t]) (hv : eg e t = some v) (hp : post (.returned v) I H) : LvJ cx fn post [] e I H := by
  intro a w ha hs
  refine ⟨v, ?_, I, H, hs, hp⟩
  rw [results_tmp hr]
  have := ha.get t v hv
  simp [this]
end
section
variable {α : Type} [BEq α] [LawfulBEq α]
abbrev ML (α : Type) := List (α × Value × Nat)
abbrev ment (kv : α → Value) (p : α × Value × Nat) : MapEntry := { key := kv p.1, val := p.2.1, born := p.2.2 }
def mobj (kv : α → Value) (l : ML α) (c : Nat) : Obj := .map (l.map (ment kv)).toArray c
def mget (l : ML α) (a : α) : Option Value := match l with
  | [] => none
  | (b, v, _) :: r => if a == b then some v else mget r a
def mset (l : ML α) (a : α) (v : Value) (c : Nat) : ML α := match l with
  | [] => [(a, v, c)]
  | (b, u, n) :: r => if a == b then (b, v, n) :: r else (b, u, n) :: mset r a v c
def mclk (l : ML α) (a : α) (c : Nat) : Nat := if (mget l a).isSome then c else c + 1
def midx (l : ML α) (a : α) (i : Nat) : Option (Nat × Value) := match l with
  | [] => none
  | (b, v, _) :: r => if a == b then some (i, v) else midx r a (i + 1)
def KeyK (P : Program) (K : TypeId) (kv : α → Value) : Prop :=
  (∀ (a : α) (l : ML α) (w : World), (Instr.findKey K (kv a) (l.map (ment kv))).run P w = .ok (midx l a 0) w) ∧ (∀ b a w, (Instr.checkKey b 10000 K (kv a)).run P w = .ok () w) ∧ ∀ a, Instr.sameBits 10000 (kv a) (kv a) = true
theorem run_findKey {P : Program} {K : TypeId} {w : World} {d : TypeDesc} (hu : P.underlying K = some d) {k : Value} {es : List MapEntry} {r : Option (Nat × Value)} (h : Instr.findNow d k es 0 = some r) : (Instr.findKey K k es).run P w = .ok r w := by
  simp [Instr.findKey, run_underlying hu, h]
omit [LawfulBEq α] in
theorem findNow_midx {kv : α → Value} {d : TypeDesc} (hs : ∀ a b, Instr.sameNow d (kv a) (kv b) = some (a == b)) (a : α) : ∀ (l : ML α) (i : Nat), Instr.findNow d (kv a) (l.map (ment kv)) i = some (midx l a i)
  | [], _ => rfl
  | (b, u, n) :: r, i => by
    simp only [List.map_cons, Instr.findNow, hs, midx]
    cases a == b
    · simp only [Bool.false_eq_true, if_false]; exact findNow_midx hs a r (i + 1)
    simp
omit [LawfulBEq α] in
theorem KeyK.now {P : Program} {K : TypeId} {kv : α → Value} {d : TypeDesc} (hu : P.underlying K = some d) (hs : ∀ a b, Instr.sameNow d (kv a) (kv b) = some (a == b)) (hc : ∀ b a w, (Instr.checkKey b 10000 K (kv a)).run P w = .ok () w) (hb : ∀ a, Instr.sameBits 10000 (kv a) (kv a) = true) : KeyK P K kv :=
  ⟨fun a l _ => run_findKey hu (findNow_midx hs a l 0), hc, hb⟩
omit [LawfulBEq α] in
theorem run_asking {P : Program} {K : TypeId} {kv : α → Value} {w : World} (he : ∀ a b, (Op.equal K (kv a) (kv b)).run P w = .ok (a == b) w) (a : α) : ∀ (l : ML α) (i : Nat), (Instr.findAsking K (kv a) (l.map (ment kv)) i).run P w = .ok (midx l a i) w
  | [], i => by simp [Instr.findAsking, midx]
  | (b, u, n) :: r, i => by
    simp only [List.map_cons, Instr.findAsking, midx, Sem.run_bind, he, Result.andThen_ok]
    cases a == b
    · simp only [Bool.false_eq_true, if_false]; exact run_asking he a r (i + 1)
    simp
omit [LawfulBEq α] in
theorem KeyK.equal {P : Program} {K : TypeId} {kv : α → Value} {d : TypeDesc} (hu : P.underlying K = some d) (hs : ∀ a b, Instr.sameNow d (kv a) (kv b) = none) (he : ∀ a b w, (Op.equal K (kv a) (kv b)).run P w = .ok (a == b) w) (hc : ∀ b a w, (Instr.checkKey b 10000 K (kv a)).run P w = .ok () w) (hb : ∀ a, Instr.sameBits 10000 (kv a) (kv a) = true) : KeyK P K kv := by
  refine ⟨fun a l w => ?_, hc, hb⟩
  cases l with
  | nil => exact run_findKey hu rfl
  | cons p r =>
    have h1 : Instr.findNow d (kv a) ((p :: r).map (ment kv)) 0 = none := by simp [Instr.findNow, hs]
    have h2 := run_asking (P := P) (K := K) (w := w) (fun a b => he a b w) a (p :: r) 0
    simp only [Instr.findKey, Sem.run_bind, run_underlying hu, Result.andThen_ok, h1]
    exact h2
theorem KeyK.int {P : Program} {K : TypeId} {k : IntKind} (hu : P.underlying K = some (.int k)) : KeyK P K (fun a : Int => Value.int k a) := by
  refine KeyK.now hu (fun a b => by simp [Instr.sameNow]) (fun b a w => ?_) (fun a => ?_)
  · have h : ∀ n, (Instr.checkKey b (n + 1) K (.int k a)).run P w = .ok () w := fun n => by simp [Instr.checkKey, run_underlying hu]
    exact h 9999
  have h : ∀ n, Instr.sameBits (n + 1) (.int k a) (.int k a) = true := fun n => by simp [Instr.sameBits]
  exact h 9999
theorem sameBits_str (a : List UInt8) : ∀ n, Instr.sameBits n (str a) (str a) = true := fun n => by
  cases n <;> simp only [Instr.sameBits, str] <;> (show (a.toArray == a.toArray) = true) <;> simp
theorem KeyK.text {P : Program} {K : TypeId} (hu : P.underlying K = some .string) : KeyK P K (fun a : List UInt8 => str a) := by
  refine KeyK.now hu (fun a b => ?_) (fun b a w => run_checkKey hu b a w) (fun a => sameBits_str a _)
  simp only [Instr.sameNow, str, Option.some.injEq]
  show (a.toArray == b.toArray) = (a == b)
  simp
theorem midx_none {a : α} : ∀ (l : ML α) (i : Nat), mget l a = none → midx l a i = none ∧ ∀ v c, mset l a v c = l ++ [(a, v, c)]
  | [], _, _ => ⟨rfl, fun _ _ => rfl⟩
  | (b, u, n) :: r, i, h => by
    unfold mget at h
    split at h
    · cases h
    rename_i hne
    obtain ⟨h1, h2⟩ := midx_none r (i + 1) h
    have hb : (a == b) = false := by simpa using hne
    refine ⟨?_, fun v c => ?_⟩
    · simp only [midx, hb]; exact h1
    simp only [mset, hb, Bool.false_eq_true, if_false, h2, List.cons_append]
theorem midx_some {a : α} {v : Value} : ∀ (l : ML α) (i : Nat), mget l a = some v →
    ∃ j u n, midx l a i = some (i + j, v) ∧ l[j]? = some (a, u, n) ∧ ∀ x c, mset l a x c = l.set j (a, x, n)
  | [], _, h => by cases h
  | (b, u, n) :: r, i, h => by
    unfold mget at h
    split at h
    · rename_i he
      have he' := eq_of_beq he
      subst he'
      cases h
      exact ⟨0, v, n, by simp [midx], rfl, fun x c => by simp [mset]⟩
    rename_i hne
    have hb : (a == b) = false := by simpa using hne
    obtain ⟨j, u', n', h1, h2, h3⟩ := midx_some r (i + 1) h
    refine ⟨j + 1, u', n', ?_, by simpa using h2, fun x c => by simp [mset, hb, h3]⟩
    simp only [midx, hb, Bool.false_eq_true, if_false]
    rw [h1, Nat.add_assoc, Nat.add_comm 1 j]
variable {cx : Cx} {Q : Qt} {e : Env} {I : Heap} {H : HL} {o : Oper} {C : Ct} {S : World → Prop}
theorem run_mapUpdate {P : Program} {T K E b c : Nat} {kv : α → Value} {l : ML α} {a : α} {v : Value} {w : World} (hT : P.underlying T = some (.map K E)) (hk : KeyK P K kv) (hb : w.heap[b]? = some (mobj kv l c)) :
    (Instr.mapUpdate T (.map (some b)) (kv a) v).run P w = .ok () (World.block w b (mobj kv (mset l a v c) (mclk l a c))) := by
  obtain ⟨hf, hc, hbits⟩ := hk
  have hg : (getObj b).run P w = .ok (mobj kv l c) w := by simp [getObj, Sem.run, hb, mobj]
  have hset : ∀ o', (setObj b o').run P w = .ok () (World.block w b o') := fun o' => by simp [setObj, Sem.run, hb, World.block, mobj]
  cases hm : mget l a with
  | none =>
    obtain ⟨h1, h2⟩ := midx_none l 0 hm
    have h3 : (Instr.findKey K (kv a) (l.map (ment kv))).run P w = .ok none w := by rw [hf, h1]
    simp only [Instr.mapUpdate, Sem.run_bind, run_underlying hT, Result.andThen_ok, hg, mobj, hc, h3, hset, h2, mclk, hm]
    simp
  | some u =>
    obtain ⟨j, u', n, h1, h2, h3⟩ := midx_some l 0 hm
    rw [Nat.zero_add] at h1
    have h4 : (Instr.findKey K (kv a) (l.map (ment kv))).run P w = .ok (some (j, u)) w := by rw [hf, h1]
    have hj : (l.map (ment kv)).toArray[j]? = some { key := kv a, val := u', born := n } := by simp [h2, ment]
    have hkeep : ∀ w, (Instr.keyThatStays (kv a) (kv a)).run P w = .ok (kv a) w := fun w => by simp [Instr.keyThatStays, hbits]
    simp only [Instr.mapUpdate, Sem.run_bind, run_underlying hT, Result.andThen_ok, hg, mobj, hc, h4, hj, Option.map_some, Option.getD_some, hkeep, hset, h3, mclk, hm]
    simp only [Option.isSome_some, if_true]
    refine congrArg (fun A => Result.ok () (World.block w b (Obj.map A c))) ?_
    apply Array.ext_getElem?
    intro i
    rw [Array.getElem?_modify]
    simp only [List.getElem?_toArray, List.getElem?_map, List.getElem?_set]
    by_cases hi : j = i
    · subst hi
      have hlt : j < l.length := by
        rcases Nat.lt_or_ge j l.length with h' | h'
        · exact h'
        simp [List.getElem?_eq_none h'] at h2
      have h5 : l[j] = (a, u', n) := by
        have := List.getElem?_eq_getElem hlt
        rw [h2] at this; exact (Option.some.inj this).symm
      simp [hlt, h5]
    simp [hi]
theorem op_insert {T K E b c : Nat} {m x y : Operand} {kv : α → Value} {l : ML α} {a : α} {kx v : Value} {H' : HL} (i : Nat) (ho : o.op = .insert T m x y ∨ o.op = .mapUpdate T m x y) (hd : o.dst = none) (hm : ev e m = some (.map (some b))) (hx : ev e x = some kx) (hkx : kx = kv a) (hy : ev e y = some v) (hT : cx.P.underlying T = some (.map K E)) (hK : KeyK cx.P K kv)
    (hH : H[i]? = some (b, mobj kv l c)) (hH' : LSet H i (b, mobj kv (mset l a v c) (mclk l a c)) H') (kk : C e I H') : OpJ cx Q o e I H C := by
  intro Kk hKk w0 w ha hs
  unfold Oper.wp
  subst hkx
  have hb := hs.own _ (List.mem_of_getElem? hH)
  have hr := run_mapUpdate (a := a) (v := v) hT hK hb
  have : (execOp w0.eval o).run cx.P w = .ok .skip (World.block w b (mobj kv (mset l a v c) (mclk l a c))) := by
    rcases ho with ho | ho <;> simp [execOp, ho, ha.eval hm, ha.eval hx, ha.eval hy, hr]
  rw [this]
  simp only [Oper.upon, hd]
  exact hKk _ _ _ kk _ _ ha.putNone (hs.block hH hH')
theorem run_lookup {P : Program} {T K E b c : Nat} {kv : α → Value} {l : ML α} {a : α} {z : Value} {w : World} {ok : Bool} (hT : P.underlying T = some (.map K E)) (hk : KeyK P K kv) (hz : ∀ w, (zeroValue E).run P w = .ok z w) (hb : w.heap[b]? = some (mobj kv l c)) :
    (Instr.lookup T (.map (some b)) (kv a) ok).run P w = .ok (if ok then .tuple #[(mget l a).getD z, .bool (mget l a).isSome] else (mget l a).getD z) w := by
  obtain ⟨hf, hc, hbits⟩ := hk
  have hg : (getObj b).run P w = .ok (mobj kv l c) w := by simp [getObj, Sem.run, hb, mobj]
  cases hm : mget l a with
  | none =>
    have h3 : (Instr.findKey K (kv a) (l.map (ment kv))).run P w = .ok none w := by rw [hf, (midx_none l 0 hm).1]
    simp only [Instr.lookup, Sem.run_bind, run_underlying hT, Result.andThen_ok, hg, mobj, Sem.run_pure, hc, h3, hz]
    simp
  | some u =>
    obtain ⟨j, u', n, h1, h2, h3⟩ := midx_some l 0 hm
    have h4 : (Instr.findKey K (kv a) (l.map (ment kv))).run P w = .ok (some (0 + j, u)) w := by rw [hf, h1]
    simp only [Instr.lookup, Sem.run_bind, run_underlying hT, Result.andThen_ok, hg, mobj, Sem.run_pure, hc, h4]
    simp
theorem yl_lookup2 {T K E b c : Nat} {m x : Operand} {kv : α → Value} {l : ML α} {a : α} {kx z : Value} (ho : o.op = .lookup T m x true) (hm : ev e m = some (.map (some b))) (hx : ev e x = some kx) (hkx : kx = kv a) (hT : cx.P.underlying T = some (.map K E)) (hK : KeyK cx.P K kv) (hz : ∀ w, (zeroValue E).run cx.P w = .ok z w)
    (hb : Blk S b (mobj kv l c)) : Yld cx o e S (.tuple #[(mget l a).getD z, .bool (mget l a).isSome]) := by
  intro w0 w ha hs
  subst hkx
  have hr := run_lookup (a := a) (ok := true) hT hK hz (hb w hs)
  simp only [execOp, ho, Sem.run_bind, ha.eval hm, ha.eval hx, hr, Result.andThen_ok, Sem.run_pure, if_true]
theorem yl_lookup1 {T K E b c : Nat} {m x : Operand} {kv : α → Value} {l : ML α} {a : α} {kx z : Value} (ho : o.op = .lookup T m x false) (hm : ev e m = some (.map (some b))) (hx : ev e x = some kx) (hkx : kx = kv a) (hT : cx.P.underlying T = some (.map K E)) (hK : KeyK cx.P K kv) (hz : ∀ w, (zeroValue E).run cx.P w = .ok z w)
    (hb : Blk S b (mobj kv l c)) : Yld cx o e S ((mget l a).getD z) := by
  intro w0 w ha hs
  subst hkx
  have hr := run_lookup (a := a) (ok := false) hT hK hz (hb w hs)
  simp only [execOp, ho, Sem.run_bind, ha.eval hm, ha.eval hx, hr, Result.andThen_ok, Sem.run_pure, if_false, Bool.false_eq_true]
end
def StrSl (T : TypeId) (I : Heap) (l : List (List UInt8)) (v : Value) : Prop := ∃ b c sp, v = .slice (some ⟨b, 0, none⟩) l.length c ∧ I b = some (cel T (l.map str ++ sp))
theorem StrSl.mono {T : TypeId} {I I' : Heap} {l : List (List UInt8)} {v : Value} (h : StrSl T I l v) (hle : Le I I') : StrSl T I' l v :=
  let ⟨b, c, sp, h1, h2⟩ := h; ⟨b, c, sp, h1, hle _ _ h2⟩
theorem str_get {l : List (List UInt8)} {sp : List Value} {k : Nat} {x : List UInt8} (h : l[k]? = some x) : (l.map str ++ sp)[k]? = some (str x) := by
  obtain ⟨hlt, hg⟩ := List.getElem?_eq_some_iff.1 h
  rw [List.getElem?_append_left (by simpa using hlt)]
  simp [h]
theorem ba_list (l : List UInt8) : (⟨l.toArray⟩ : ByteArray).data.toList = l := by simp
theorem i32w {x : Int} (h : -2147483648 ≤ x ∧ x ≤ 2147483647) : IntKind.i32.wrap x = x := by
  simp [IntKind.wrap, IntKind.bits, IntKind.signed]; omega
theorem drop_cons {α : Type} {s : List α} {k : Nat} {c : α} (h : s[k]? = some c) : s.drop k = c :: s.drop (k + 1) := by
  obtain ⟨hlt, hg⟩ := List.getElem?_eq_some_iff.1 h
  rw [List.drop_eq_getElem_cons hlt, hg]
theorem Ej.ret3 {cx : Cx} {fn : Func} {post : Ending → Heap → HL → Prop} {e : Env} {I : Heap} {H : HL} {t u s : Nat} {v x y : Value} (hr : fn.results = #[.tmp t, .tmp u, .tmp s]) (hds : cx.ds = []) (hv : eg e t = some v) (hx : eg e u = some x) (hy : eg e s = some y) (hp : post (.returned (.tuple #[v, x, y])) I H) :
    Ej cx (bodyPost cx.P fn (RR cx.w0 cx.D cx.I0 post)) .ret e I H := by
  intro a w ha hs
  refine ⟨ha.defs.trans hds, _, ?_, I, H, hs, hp⟩
  have h1 := ha.get t v hv
  have h2 := ha.get u x hx
  have h3 := ha.get s y hy
  simp [results, hr, h1, h2, h3]
theorem Ctr.frame {P : Program} {f : FuncId} {args : List Value} {I : Heap} {H : HL} {post : Ending → Heap → HL → Prop} (R : HL) (h : Ctr P f args I H post) : Ctr P f args I (H ++ R) (fun e I' H' => ∃ H1, H' = H1 ++ R ∧ post e I' H1) := by
  refine ⟨h.1, fun w hw => ?_⟩
  have hst := St.start w I (H ++ R) hw.1 hw.2.1 hw.2.2.1 hw.2.2.2
  have hready : Ready I H w := ⟨hst.sub, fun p hp => hst.own p (List.mem_append_left _ hp), by
    have := hst.nodup; rw [List.map_append, List.nodup_append] at this; exact this.1, fun p hp => hst.dis p (List.mem_append_left _ hp)⟩
  refine (h.2 w hready).mono fun e w' ⟨I', H1, hs, hp⟩ => ⟨I', H1 ++ R, hst.call hs, H1, rfl, hp⟩
theorem Ctr.drop {P : Program} {f : FuncId} {args : List Value} {I : Heap} {H : HL} {post post' : Ending → Heap → HL → Prop} (h : Ctr P f args I H post) (hp : ∀ e I' H', post e I' H' → ∃ H2, H2.Sublist H' ∧ post' e I' H2) : Ctr P f args I H post' :=
  ⟨h.1, fun w hw => (h.2 w hw).mono fun e _ ⟨I', H', hs, hq⟩ => let ⟨H2, h1, h2⟩ := hp e I' H' hq; ⟨I', H2, hs.sublist h1, h2⟩⟩
theorem op_callN {cx : Cx} {Q : Qt} {o : Oper} {e : Env} {I : Heap} {C : Ct} {R : HL} {d f : Nat} {fo : Operand} {xs : List Operand} {ts : Array TypeId} {fst cap vs : List Value} {post : Ending → Heap → HL → Prop}
    (ho : o.op = .call ⟨.value fo, xs.toArray, ts⟩) (hd : o.dst = some d) (hn : Nat.blt d cx.n = true) (hf : ev e fo = some (.func (.func f) fst.toArray cap.toArray)) (hx : evs e xs = some vs)
    (hs : Ctr cx.P f (fst ++ vs ++ cap) I [] post)
    (k : ∀ v I' H1', Le I I' → (∀ p ∈ H1', cx.w0.heap.size ≤ p.1) → post (.returned v) I' H1' → C ((d, v) :: e) I' (H1' ++ R))
    (kp : ∀ ch I' H1', Le I I' → post (.panicked ch) I' H1' → Ej cx Q (.panic ch) e I' (H1' ++ R))
    (ko : ∀ I' H1', ¬ post .outgrown I' H1') : OpJ cx Q o e I R C := by
  intro K hK a w ha hst
  unfold Oper.wp
  have hr : (execOp a.eval o).run cx.P w = .ok (.enter f (fst ++ vs ++ cap).toArray) w := by
    have hxs : xs.toArray.map a.eval = vs.toArray := by
      rw [List.map_toArray, ha.evals hx]
    simp only [execOp, ho, resolve, hxs, ha.eval hf, Deferred.ofValue, invoke, Sem.run_bind, Sem.run_pure, Result.andThen_ok, run_callFunc hs.1]
    simp
  rw [hr]
  simp only [Oper.upon]
  have hready : Ready I [] w := ⟨hst.sub, fun _ hp => absurd hp (List.not_mem_nil), List.nodup_nil, fun _ hp => absurd hp (List.not_mem_nil)⟩
  refine (hs.2 w hready).mono ?_
  rintro en w' ⟨I', H1', hs', hp⟩
  have hle := hs'.le
  have hst' := St.call (H1 := []) (R := R) hst hs'
  have hnew : ∀ p ∈ H1', cx.w0.heap.size ≤ p.1 := fun p hp => Nat.le_trans hst.size ((hs'.new p hp).resolve_left (by simp))
  cases en with
  | returned v =>
    rw [hd]
    exact hK _ _ _ (k v I' H1' hle hnew hp) _ _ (ha.put hn) hst'
  | panicked ch => exact kp ch I' H1' hle hp _ _ ha hst'
  | outgrown => exact (ko _ _ hp).elim
def StrS (T : TypeId) (I : Heap) (l : List (List UInt8)) (v : Value) : Prop := (l = [] ∧ v = .slice none 0 0) ∨ ∃ b c sp, v = .slice (some ⟨b, 0, none⟩) l.length c ∧ l.length ≤ c ∧ I b = some (cel T (l.map str ++ sp))
theorem StrS.mono {T : TypeId} {I I' : Heap} {l : List (List UInt8)} {v : Value} (h : StrS T I l v) (hle : Le I I') : StrS T I' l v := h.imp id fun ⟨b, c, sp, h1, h2, h3⟩ => ⟨b, c, sp, h1, h2, hle _ _ h3⟩
theorem StrS.some {T : TypeId} {I : Heap} {l : List (List UInt8)} {v : Value} (h : StrS T I l v) (hl : l ≠ []) : StrSl T I l v := let ⟨b, c, sp, h1, _, h3⟩ := h.resolve_left fun h => hl h.1; ⟨b, c, sp, h1, h3⟩
section
variable {cx : Cx} {Q : Qt} {e : Env} {I : Heap} {R : HL} {T : TypeId} {l : List (List UInt8)} {n base : Nat} {g : Gs}
theorem gS_none (hg : gOk base 1 n (l.map str) none) : l = [] ∧ n = 0 := ⟨by simpa using hg.2, hg.1⟩
theorem gS_some {b c : Nat} {sp : List Value} (hg : gOk base 1 n (l.map str) (some (b, c, sp))) : base ≤ b ∧ n = l.length ∧ l.length ≤ c := ⟨hg.1, by have := hg.2.1; simpa using this.symm, by have := hg.2.2; simp at this; omega⟩
theorem gS_cases {X : Heap → HL → Prop} (hg : gOk base 1 n (l.map str) g) (hp : ∀ b o, base ≤ b → (∀ I', Le I I' → I' b = some o → X I' R) → X I ((b, o) :: R)) (k : ∀ I', Le I I' → StrS T I' l (gV n g) → X I' R) : X I (gH T (l.map str) g ++ R) := by
  cases g with
  | none =>
    obtain ⟨h1, h2⟩ := gS_none hg
    subst h2
    exact k I (Le.refl _) (.inl ⟨h1, rfl⟩)
  | some q =>
    obtain ⟨b, c, sp⟩ := q
    obtain ⟨h1, h2, h3⟩ := gS_some hg
    subst h2
    exact hp b _ h1 fun I' hle hb => k I' hle (.inr ⟨b, c, sp, rfl, h3, hb⟩)
theorem Cj.keepS {c : Code} (hg : gOk cx.w0.heap.size 1 n (l.map str) g) (k : ∀ I', Le I I' → StrS T I' l (gV n g) → Cj cx Q c e I' R) : Cj cx Q c e I (gH T (l.map str) g ++ R) :=
  gS_cases (X := fun I H => Cj cx Q c e I H) hg (fun _ _ hb k => Cj.persist hb k) k
theorem J.keepS {ops : Array Oper} {r : List Oper} (hg : gOk cx.w0.heap.size 1 n (l.map str) g) (k : ∀ I', Le I I' → StrS T I' l (gV n g) → J cx Q ops r e I' R) : J cx Q ops r e I (gH T (l.map str) g ++ R) :=
  gS_cases (X := fun I H => J cx Q ops r e I H) hg (fun _ _ hb k => J.persist hb k) k
end
section
variable {cx : Cx} {Q : Qt} {o : Oper} {e : Env} {I : Heap} {H : HL} {C : Ct} {S : World → Prop}
theorem op_buildSlice0 {d T E sz : Nat} (ho : o.op = .buildSlice T 0 #[]) (hd : o.dst = some d) (hn : Nat.blt d cx.n = true)
    (hu : cx.P.underlying T = some (.slice E)) (hsz : ∀ w, (sizeOf E).run cx.P w = .ok sz w)
    (k : ∀ b, cx.w0.heap.size ≤ b → C ((d, .slice (some ⟨b, 0, none⟩) 0 0) :: e) I ((b, cel E []) :: H)) : OpJ cx Q o e I H C := by
  intro K hK a w ha hs
  unfold Oper.wp
  have : (execOp a.eval o).run cx.P w = .ok (.value (.slice (some ⟨w.heap.size, 0, none⟩) 0 0)) { w with heap := w.heap.push (cel E []) } := by
    simp [execOp, ho, Instr.buildSlice, run_underlying hu, hsz, Instr.fill, newRow, cel]
    exact congrArg (fun l => w.alloc (Obj.cells l E)) (Array.eq_empty_of_size_eq_zero (by simp))
  rw [this]
  simp only [Oper.upon, hd]
  exact hK _ _ _ (k _ hs.size) _ _ (ha.put hn) (hs.alloc _)
theorem run_equalBool {P : Program} {w : World} {T : Nat} {l m : Bool} (hT : P.underlying T = some .bool) : (Op.equal T (.bool l) (.bool m)).run P w = .ok (l == m) w := by
  show (Op.equalIn (9999 + 1) T (.bool l) (.bool m)).run P w = _
  rw [Op.equalIn]
  simp only [Sem.run_bind, run_underlying hT, Result.andThen_ok, Sem.run_pure]
theorem yl_eqlBool {x y : Operand} {T U : Nat} {l m : Bool} (ho : o.op = .binOp .eql T x y U) (hx : ev e x = some (.bool l)) (hy : ev e y = some (.bool m)) (hT : cx.P.underlying T = some .bool) : Yld cx o e S (.bool (l == m)) := by
  intro a w ha _
  have hg : eqGuard .eql T x y (.bool l) (.bool m) = pure () := rfl
  simp [execOp, ho, ha.eval hx, ha.eval hy, hg, binOp, run_equalBool hT]
end
end Go.Sx
namespace Go.Sx
open Go Go.Sort Go.Proofs
end Go.Sx
namespace Go.Sx
open Go
theorem row_at {α : Type} {f : α → List Value} {n : Nat} (hf : ∀ x, (f x).length = n) {sp : List Value} : ∀ {l : List α} {k : Nat} {x : α}, l[k]? = some x → ((l.flatMap f ++ sp).drop (k * n)).take n = f x
  | [], _, _, h => by simp at h
  | y :: l, 0, x, h => by
    simp at h; subst h
    rw [Nat.zero_mul, List.drop_zero, List.flatMap_cons, List.append_assoc, ← hf y, List.take_left]
  | y :: l, k + 1, x, h => by
    have h' : l[k]? = some x := by simpa using h
    have := row_at hf (sp := sp) h'
    rw [List.flatMap_cons, List.append_assoc, show (k + 1) * n = (f y).length + k * n by rw [hf y, Nat.add_mul]; omega, ← List.drop_drop, List.drop_left]
    exact this
theorem row_cell {α : Type} {f : α → List Value} {n : Nat} (hf : ∀ x, (f x).length = n) {sp : List Value} {l : List α} {k : Nat} {x : α} (h : l[k]? = some x) (j : Nat) (hj : j < n) : (l.flatMap f ++ sp)[k * n + j]? = (f x)[j]? := by
  rw [← row_at hf (sp := sp) h, List.getElem?_take, if_pos hj, List.getElem?_drop]
theorem row_from {α : Type} {f : α → List Value} {n : Nat} (hf : ∀ x, (f x).length = n) {cs sp : List Value} {o : Nat} {l : List α} (h : cs.drop o = l.flatMap f ++ sp) {k : Nat} {x : α} (hx : l[k]? = some x) : (cs.drop (o + k * n)).take n = f x := by
  rw [← List.drop_drop, h]; exact row_at hf hx
theorem row_fcell {α : Type} {f : α → List Value} {n : Nat} (hf : ∀ x, (f x).length = n) {cs sp : List Value} {o : Nat} {l : List α} (h : cs.drop o = l.flatMap f ++ sp) {k : Nat} {x : α} (hx : l[k]? = some x) (j : Nat) (hj : j < n) : cs[o + k * n + j]? = (f x)[j]? := by
  rw [← row_cell hf (sp := sp) hx j hj, ← h, List.getElem?_drop, Nat.add_assoc]
def RowS {α : Type} (f : α → List Value) (I : Heap) (l : List α) (v : Value) : Prop :=
  ∃ p c, v = .slice p l.length c ∧ l.length ≤ c ∧ (l ≠ [] → ∃ b o cs t fr sp, p = some ⟨b, o, none⟩ ∧ I b = some (.cells (List.toArray cs) t fr) ∧ cs.drop o = l.flatMap f ++ sp)
theorem RowS.mono {α : Type} {f : α → List Value} {I I' : Heap} {l : List α} {v : Value} (h : RowS f I l v) (hle : Le I I') : RowS f I' l v :=
  let ⟨p, c, h1, h2, h3⟩ := h; ⟨p, c, h1, h2, fun hn => let ⟨b, o, cs, t, fr, sp, h4, h5, h6⟩ := h3 hn; ⟨b, o, cs, t, fr, sp, h4, hle _ _ h5, h6⟩⟩
theorem RowS.of {α : Type} {f : α → List Value} {I : Heap} {l : List α} {T b c : Nat} {sp : List Value} (hc : l.length ≤ c) (hb : I b = some (cel T (l.flatMap f ++ sp))) : RowS f I l (.slice (some ⟨b, 0, none⟩) l.length c) :=
  ⟨_, c, rfl, hc, fun _ => ⟨b, 0, _, T, _, sp, rfl, hb, rfl⟩⟩
theorem RowS.nil {α : Type} {f : α → List Value} {I : Heap} : RowS f I ([] : List α) (.slice none 0 0) := ⟨none, 0, rfl, Nat.le_refl _, fun h => absurd rfl h⟩
theorem ne_nil_of {α : Type} {l : List α} {k : Nat} (h : k < l.length) : l ≠ [] := fun e => by rw [e] at h; simp at h
theorem Cj.join {cx : Cx} {Q : Qt} {x y : Code} {e : Env} {I : Heap} {H : HL} {ι : Type} (pre : ι → Prop) (env : ι → Env) (hp : ι → Heap) (hl : ι → HL) (k2 : ∀ i, pre i → Cj cx Q y (env i) (hp i) (hl i))
    (k1 : (∀ j e' I' H', pre j → Sub (env j) e' → hp j = I' → hl j = H' → Ej cx (Exit.then (y.wpIn cx.F 0 cx.P Q) Q) .normal e' I' H') → Cj cx (Exit.then (y.wpIn cx.F 0 cx.P Q) Q) x e I H) : Cj cx Q (.seq x y) e I H :=
  Cj.seq (k1 fun j e' I' H' hj hs hI hH => Ej.seq (by subst hI hH; exact Cj.weak hs (k2 j hj)))
end Go.Sx
namespace Go.Proofs.YtekmeaoblpfnpaaGreatDoor
open Go.ChangeShapes Go.WideShapes Go.ChangeAt Go.RowKit Go.Sx Go.Lib Go.ChangeMaps Go.WideMaps
section
variable {H : Type} {enc : TypeId × Value → H} {W : World} {base : Nat}
def Arg (enc : TypeId × Value → H) (W : World) (t : TypeId) (cs : List Value) (m : Nat) : Prop := ∃ n x, DataW.trod enc Tryz.prog W 0 (fun _ => true) true n t cs = some x ∧ Rows.uptoBulk x.1 = m
theorem Arg.of {t : TypeId} {v : Value} {d : DataW H} {p : List MemPlace} (h : DataW.Trod enc Tryz.prog W 0 (fun _ => true) true t v d p) : Arg enc W t v.cells.toList (Rows.uptoBulk d) := by
  obtain ⟨n, hn⟩ := h
  exact ⟨n, _, hn, rfl⟩
theorem laidOut : laidOutB Tryz.prog = true := by kernel_rfl
theorem again {t : TypeId} {v : Value} {d : DataW H} {p : List MemPlace} (hr : Tryz.prog.readableRec t = true) (hrow : t < Tryz.prog.types.size) (h : DataW.Trod enc Tryz.prog W 0 (fun _ => true) true t v d p) (hlt : ∀ x ∈ p, x.block < W.heap.size) : Again enc W t v d p :=
  fun _ hB _ hsp => WideElems.Trod_stays laidOut hr hrow h (fun _ hx => hB.same (hlt _ hx)) hsp
theorem mapM_some {α β : Type} {g : α → Option β} : ∀ {l : List α} {ys : List β}, l.mapM g = some ys → ys.length = l.length ∧ ∀ (i : Nat) x, l[i]? = some x → ∃ y, ys[i]? = some y ∧ g x = some y
  | [], ys, h => by simp at h; subst h; exact ⟨rfl, fun i x hx => by simp at hx⟩
  | a :: l, ys, h => by
    rw [List.mapM_cons] at h
    cases ha : g a with
    | none => simp [ha] at h
    | some y =>
      cases hl : l.mapM g with
      | none => simp [ha, hl] at h
      | some zs =>
        simp [ha, hl] at h
        subst h
        obtain ⟨h1, h2⟩ := mapM_some hl
        refine ⟨by simp [h1], fun i x hx => ?_⟩
        cases i with
        | zero => simp at hx; subst hx; exact ⟨y, rfl, ha⟩
        | succ i => exact h2 i x (by simpa using hx)
theorem bulk_sum : ∀ (l : List (DataW H)), Rows.uptoBulkAll l = (l.map Rows.uptoBulk).sum
  | [] => rfl
  | d :: r => by simp only [Rows.uptoBulkAll, List.map_cons, List.sum_cons, bulk_sum r]
theorem Arg.step {t : TypeId} {cs : List Value} {m : Nat} (h : Arg enc W t cs m) : ∃ n x, DataW.trodStep enc Tryz.prog W 0 (fun _ => true) true (DataW.trod enc Tryz.prog W 0 (fun _ => true) true n) t cs = some x ∧ Rows.uptoBulk x.1 = m := by
  obtain ⟨n, x, h, hm⟩ := h
  cases n with
  | zero => simp [DataW.trod] at h
  | succ n => exact ⟨n, x, (DataW.trod_step enc Tryz.prog W 0 (fun _ => true) true n t cs).symm.trans h, hm⟩
theorem Arg.int {t : TypeId} {k : IntKind} {cs : List Value} {m : Nat} (ht : Tryz.prog.underlying t = some (.int k)) (h : Arg enc W t cs m) : ∃ z, cs = [.int k z] ∧ (Lit.int k z).wf = true ∧ m = 1 := by
  obtain ⟨n, x, h, hm⟩ := h
  obtain ⟨z, rfl, rfl, hw⟩ := DataW.trod_int ht h
  simp only [Rows.uptoBulk] at hm
  exact ⟨z, rfl, hw, hm.symm⟩
theorem Arg.bool {t : TypeId} {cs : List Value} {m : Nat} (ht : Tryz.prog.underlying t = some .bool) (h : Arg enc W t cs m) : ∃ b : Bool, cs = [.bool b] := by
  obtain ⟨n, x, h, hm⟩ := h.step
  unfold DataW.trodStep at h
  rw [ht] at h
  split at h <;> simp_all
theorem Arg.struct {t : TypeId} {fs : Array Field} {cs : List Value} {m : Nat} (ht : Tryz.prog.underlying t = some (.struct fs)) (h : Arg enc W t cs m) :
    cs.length = Tryz.prog.cellsOf t ∧ ∃ ms : List Nat, ms.length = fs.size ∧ ms.sum + 1 = m ∧ ∀ (i : Nat) f m', fs[i]? = some f → ms[i]? = some m' → Arg enc W f.type ((cs.drop f.offset).take (Tryz.prog.cellsOf f.type)) m' := by
  obtain ⟨n, x, h, hm⟩ := h.step
  unfold DataW.trodStep at h
  simp only [ht] at h
  split at h
  · rename_i hl
    refine ⟨hl, ?_⟩
    simp only [Option.map_eq_some_iff] at h
    obtain ⟨xs, hx, rfl⟩ := h
    obtain ⟨h1, h2⟩ := mapM_some hx
    refine ⟨xs.map fun y => Rows.uptoBulk y.1, by simp [h1], ?_, fun i f m' hf hm' => ?_⟩
    · rw [← hm]; simp only [Rows.uptoBulk, bulk_sum, List.map_map]; rfl
    obtain ⟨y, hy, hg⟩ := h2 i f (by simpa using hf)
    rw [List.getElem?_map, hy] at hm'
    simp only [Option.map_some, Option.some.injEq] at hm'
    exact ⟨n, y, hg, hm'⟩
  cases h
theorem Arg.array {t e k : Nat} {cs : List Value} {m : Nat} (ht : Tryz.prog.underlying t = some (.array k e)) (h : Arg enc W t cs m) :
    cs.length = Tryz.prog.cellsOf t ∧ ∃ ms : List Nat, ms.length = k ∧ ms.sum + 1 = m ∧ ∀ (i m' : Nat), ms[i]? = some m' → Arg enc W e ((cs.drop (i * Tryz.prog.cellsOf e)).take (Tryz.prog.cellsOf e)) m' := by
  obtain ⟨n, x, h, hm⟩ := h.step
  unfold DataW.trodStep at h
  simp only [ht] at h
  split at h
  · rename_i hl
    refine ⟨hl, ?_⟩
    simp only [Option.map_eq_some_iff] at h
    obtain ⟨xs, hx, rfl⟩ := h
    obtain ⟨h1, h2⟩ := mapM_some hx
    rw [List.length_range] at h1
    refine ⟨xs.map fun y => Rows.uptoBulk y.1, by simp [h1], ?_, fun i m' hm' => ?_⟩
    · rw [← hm]; simp only [Rows.uptoBulk, bulk_sum, List.map_map]; rfl
    have hi : i < k := by
      have := (List.getElem?_eq_some_iff.1 hm').1
      simpa [h1] using this
    obtain ⟨y, hy, hg⟩ := h2 i i (List.getElem?_range hi)
    rw [List.getElem?_map, hy] at hm'
    simp only [Option.map_some, Option.some.injEq] at hm'
    exact ⟨n, y, hg, hm'⟩
  cases h
theorem cells_at {a : Addr} {n : Nat} {cs : List Value} (h : W.cells? 0 a n = some cs) : cs.length = n ∧ ∀ i, i < n → W.cell? (a.add i) = cs[i]? := by
  unfold World.cells? at h
  rw [if_pos (Nat.zero_le _)] at h
  obtain ⟨h1, h2⟩ := mapM_some h
  rw [List.length_range] at h1
  refine ⟨h1, fun i hi => ?_⟩
  obtain ⟨y, hy, hg⟩ := h2 i i (List.getElem?_range hi)
  rw [hg, hy]
theorem Arg.slice {t e sz : Nat} {cs : List Value} {m : Nat} (ht : Tryz.prog.underlying t = some (.slice e)) (hsz : Tryz.prog.cellsOf e = sz) (hpos : 0 < sz) (h : Arg enc W t cs m) :
    ∃ (p : Option Addr) (len cap : Nat) (ms : List Nat), cs = [.slice p len cap] ∧ len ≤ cap ∧ cap ≤ maxLen ∧ ms.length = len ∧ ms.sum + 1 ≤ m ∧ (0 < len → ∃ b o cells T fr, p = some ⟨b, o, none⟩ ∧ HW W b = some (.cells (List.toArray cells) T fr) ∧
      ∀ (i m' : Nat), ms[i]? = some m' → ((cells.drop (o + i * sz)).take sz).length = sz ∧ Arg enc W e ((cells.drop (o + i * sz)).take sz) m') := by
  obtain ⟨n, x, g, hm⟩ := h.step
  clear h
  unfold DataW.trodStep at g
  simp only [ht] at g
  split at g <;> first | (exfalso; simp_all; done) | skip
  · simp only [Option.some.injEq] at g
    subst g
    exact ⟨none, 0, 0, [], rfl, Nat.le_refl _, Nat.zero_le _, rfl, by rw [← hm]; simp [Rows.uptoBulk], fun h => absurd h (by decide)⟩
  rename_i a len cap he
  cases he
  split at g
  · rename_i hl
    simp only [if_true, Option.bind_eq_some_iff, Option.map_eq_some_iff] at g
    obtain ⟨elems, hel, rest, hre, rfl⟩ := g
    obtain ⟨h1, h2⟩ := mapM_some hel
    rw [List.length_range] at h1
    refine ⟨some a, len, cap, elems.map fun y => Rows.uptoBulk y.1, rfl, hl.2.1, hl.2.2, by simp [h1], ?_, fun h0 => ?_⟩
    · rw [← hm]; simp only [Rows.uptoBulk, bulk_sum, List.map_map]; have : (elems.map fun y => Rows.uptoBulk y.1).sum = (elems.map (Rows.uptoBulk ∘ fun x => x.1)).sum := rfl
      omega
    have elem : ∀ i, i < len → ∃ (cs : List Value) (y : DataW H × List MemPlace), W.cells? 0 (a.add (i * sz)) sz = some cs ∧ elems[i]? = some y ∧ DataW.trod enc Tryz.prog W 0 (fun _ => true) true n e cs = some y := fun i hi => by
      obtain ⟨y, hy, hg⟩ := h2 i i (List.getElem?_range hi)
      simp only [Option.bind_eq_some_iff] at hg
      obtain ⟨cs, hc, hg⟩ := hg
      rw [hsz] at hc
      exact ⟨cs, y, hc, hy, hg⟩
    obtain ⟨cs0, y0, hc0, _, _⟩ := elem 0 h0
    obtain ⟨hl0, hc0⟩ := cells_at hc0
    have hcell0 := hc0 0 hpos
    rw [List.getElem?_eq_getElem (by omega)] at hcell0
    rw [Nat.zero_mul] at hcell0
    have ha : a.add 0 = a := by simp [Addr.add]
    rw [ha, ha] at hcell0
    obtain ⟨blk, off, spot⟩ := a
    cases spot with
    | some sp => obtain ⟨_, _, _, _, hs⟩ := World.shape?_of_cell? hcell0; cases hs
    | none =>
      have h' := hcell0
      unfold World.cell? at h'
      cases hb : W.heap[blk]? with
      | none => simp only [hb] at h'; cases h'
      | some o =>
        cases o with
        | cells cells T fr =>
          refine ⟨blk, off, cells.toList, T, fr, rfl, by show W.heap[blk]? = _; rw [hb], fun i m' hm' => ?_⟩
          have hi : i < len := by
            have := (List.getElem?_eq_some_iff.1 hm').1
            simpa [h1] using this
          obtain ⟨cs, y, hc, hy, hg⟩ := elem i hi
          obtain ⟨hl1, hc1⟩ := cells_at hc
          have hcs : (cells.toList.drop (off + i * sz)).take sz = cs := by
            apply List.ext_getElem?
            intro j
            rcases Nat.lt_or_ge j sz with hj | hj
            · have h3 := hc1 j hj
              rw [Addr.add_lit, Addr.add_lit] at h3
              unfold World.cell? at h3
              simp only [hb] at h3
              rw [List.getElem?_take, if_pos hj, List.getElem?_drop, ← h3]
              simp
            rw [List.getElem?_take, if_neg (by omega), List.getElem?_eq_none (by omega)]
          rw [hcs]
          rw [List.getElem?_map, hy] at hm'
          simp only [Option.map_some, Option.some.injEq] at hm'
          exact ⟨hl1, n, y, hg, hm'⟩
        | _ => simp only [hb] at h'; cases h'
  cases g
theorem Arg.row {α : Type} {f : α → List Value} {size : α → Nat} {t e sz : Nat} {cs : List Value} {m : Nat} (ht : Tryz.prog.underlying t = some (.slice e)) (hsz : Tryz.prog.cellsOf e = sz) (hpos : 0 < sz) (Q : α → Prop)
    (he : ∀ (cs : List Value) (m' : Nat), m' ≤ m → Arg enc W e cs m' → ∃ x : α, cs = f x ∧ size x ≤ m' ∧ Q x) (h : Arg enc W t cs m) :
    ∃ (l : List α) (v : Value), cs = [v] ∧ RowS f (HW W) l v ∧ (l.map size).sum + 1 ≤ m ∧ l.length ≤ maxLen ∧ ∀ x ∈ l, Q x := by
  obtain ⟨p, len, cap, ms, rfl, hlc, hcm, hml, hms, hb⟩ := h.slice ht hsz hpos
  rcases Nat.eq_zero_or_pos len with h0 | h0
  · subst h0
    exact ⟨[], _, rfl, ⟨p, cap, rfl, hlc, fun h => absurd rfl h⟩, by simp; omega, Nat.zero_le _, fun x hx => by cases hx⟩
  obtain ⟨b, o, cells, T, fr, rfl, hblk, hel⟩ := hb h0
  have key : ∀ (ms : List Nat) (o : Nat), ms.sum + 1 ≤ m → (∀ (i m' : Nat), ms[i]? = some m' → ((cells.drop (o + i * sz)).take sz).length = sz ∧ Arg enc W e ((cells.drop (o + i * sz)).take sz) m') →
      ∃ (l : List α) (sp : List Value), l.length = ms.length ∧ cells.drop o = l.flatMap f ++ sp ∧ (l.map size).sum ≤ ms.sum ∧ ∀ x ∈ l, Q x := by
    intro ms
    induction ms with
    | nil => exact fun o _ _ => ⟨[], cells.drop o, rfl, rfl, Nat.le_refl _, fun x hx => by cases hx⟩
    | cons a r ih =>
      intro o hs hel
      rw [List.sum_cons] at hs
      have h0 := hel 0 a rfl
      rw [Nat.zero_mul, Nat.add_zero] at h0
      obtain ⟨x, hx, hsx, hq⟩ := he _ a (by omega) h0.2
      obtain ⟨l, sp, h1, h2, h3, h4⟩ := ih (o + sz) (by omega) fun i m' hi => by
        have := hel (i + 1) m' (by simpa using hi)
        rw [show o + (i + 1) * sz = o + sz + i * sz by rw [Nat.add_mul]; omega] at this
        exact this
      refine ⟨x :: l, sp, by simp [h1], ?_, by simp only [List.map_cons, List.sum_cons]; omega, fun y hy => ?_⟩
      · rw [List.flatMap_cons, List.append_assoc, ← h2, ← hx, ← List.drop_drop]
        exact (List.take_append_drop sz (cells.drop o)).symm
      rcases List.mem_cons.1 hy with rfl | hy
      · exact hq
      exact h4 y hy
  obtain ⟨l, sp, h1, h2, h3, h4⟩ := key ms o hms hel
  have hll : l.length = len := h1.trans hml
  subst hll
  exact ⟨l, _, rfl, ⟨_, cap, rfl, hlc, fun _ => ⟨b, o, cells, T, fr, sp, rfl, hblk, h2⟩⟩, by omega, by omega, h4⟩
theorem sum_ones {α : Type} {f : α → Nat} : ∀ {l : List α}, (∀ x, 1 ≤ f x) → l.length ≤ (l.map f).sum
  | [], _ => Nat.zero_le _
  | a :: r, h => by
    have := sum_ones (l := r) h
    have := h a
    simp only [List.length_cons, List.map_cons, List.sum_cons]; omega
theorem Arg.ints {t e : Nat} {cs : List Value} {m : Nat} (ht : Tryz.prog.underlying t = some (.slice e)) (he : Tryz.prog.underlying e = some (.int .i64)) (hsz : Tryz.prog.cellsOf e = 1) (h : Arg enc W t cs m) :
    ∃ (l : List Int) (v : Value), cs = [v] ∧ RowS (fun n : Int => [i64 n]) (HW W) l v ∧ l.length + 1 ≤ m := by
  obtain ⟨l, v, h1, h2, h3, _, _⟩ := h.row (f := fun n : Int => [i64 n]) (size := fun _ => 1) ht hsz (by decide) (fun _ => True) fun cs m' _ h => by
    obtain ⟨z, rfl, _, rfl⟩ := h.int he
    exact ⟨z, rfl, Nat.le_refl _, trivial⟩
  have := sum_ones (f := fun _ : Int => 1) (l := l) fun _ => Nat.le_refl _
  exact ⟨l, v, h1, h2, by omega⟩
theorem arg_ints {t e : TypeId} {v : Value} {d : DataW H} {p : List MemPlace} (ht : Tryz.prog.underlying t = some (.slice e)) (he : Tryz.prog.underlying e = some (.int .i64)) (hsz : Tryz.prog.cellsOf e = 1) (hr : Tryz.prog.readableRec t = true) (hrow : t < Tryz.prog.types.size)
    (hval : Value.okWide Tryz.prog W .any base t v) (h : DataW.Trod enc Tryz.prog W 0 (fun _ => true) true t v d p) (hlt : ∀ x ∈ p, x.block < W.heap.size) :
    ∃ l : List Int, RowS (fun n : Int => [i64 n]) (HW W) l v ∧ l.length + 1 ≤ Rows.uptoBulk d ∧ Again enc W t v d p := by
  obtain ⟨a, len, cap, rfl⟩ := okWide_slice ht hval
  obtain ⟨l, v', h1, h2, h3⟩ := (Arg.of h).ints ht he hsz
  obtain rfl : Value.slice a len cap = v' := by simpa [Value.cells] using h1
  exact ⟨l, h2, h3, again hr hrow h hlt⟩
