/-
  One lemma for each kind of operation, over the judgements of the small logic. Own text. Conditions: none.
-/
import Derived.Test.YtlfpehljahgbkaaGreatDoorSx
namespace Go.Sx
open Go

/-- In every world that the region's reads may lean on, the operation yields v and does nothing else. -/
def Yld (cx : Cx) (o : Oper) (e : Env) (S : World → Prop) (v : Value) : Prop :=
  ∀ a w, Has a cx.n e cx.ds → S w → (execOp a.eval o).run cx.P w = .ok (.value v) w

/-- A text of bytes as a value. -/
def str (l : List UInt8) : Value := .string ⟨l.toArray⟩
abbrev i64 (n : Int) : Value := .int .i64 n
abbrev u8 (c : UInt8) : Value := .int .u8 (c.toNat : Int)
abbrev ptr (b o : Nat) : Value := .pointer (some ⟨b, o, none⟩)
def cel (t : TypeId) (l : List Value) : Obj := .cells l.toArray t (0, 0)

theorem toList_mk (l : List UInt8) : (⟨l.toArray⟩ : ByteArray).toList = l := by
  rw [ByteArray.toList_eq]
theorem size_mk (l : List UInt8) : (⟨l.toArray⟩ : ByteArray).size = l.length := by
  show l.toArray.size = _
  simp
theorem str_inj {a b : List UInt8} (h : str a = str b) : a = b := by
  simp only [str, Value.string.injEq, ByteArray.mk.injEq] at h
  exact List.toArray_inj h

theorem bne_f {α : Type} [BEq α] [LawfulBEq α] {a b : α} (h : (a != b) = false) : a = b := by simpa using h
section
variable {cx : Cx} {Q : Qt} {o : Oper} {e : Env} {I : Heap} {H : HL} {C : Ct} {S : World → Prop}

theorem op_yld {d : Nat} {v : Value} (hy : Yld cx o e (SS I H) v) (ho : o.dst = some d) (hd : Nat.blt d cx.n = true) (k : C ((d, v) :: e) I H) : OpJ cx Q o e I H C := by
  intro K hK a w ha hs
  unfold Oper.wp
  rw [hy a w ha hs.ss]
  simp only [Oper.upon, ho]
  exact hK _ _ _ k _ _ (ha.put hd) hs
theorem J.y {ops : Array Oper} {l : List Oper} {d : Nat} {v : Value} (hy : Yld cx o e (SS I H) v) (hg : o.guard = none) (ho : o.dst = some d) (hd : Nat.blt d cx.n = true)
    (k : J cx Q ops l ((d, v) :: e) I H) : J cx Q ops (o :: l) e I H := J.op hg (op_yld hy ho hd k)

theorem yl_move {x : Operand} {v : Value} (ho : o.op = .move x) (hx : ev e x = some v) : Yld cx o e S v := by
  intro a w ha _
  simp only [execOp, ho, Sem.run_pure, ha.eval hx]
theorem yl_assign {x : Operand} {v : Value} (ho : o.op = .assign x) (hx : ev e x = some v) : Yld cx o e S v := by
  intro a w ha _
  simp only [execOp, ho, Sem.run_pure, ha.eval hx]
theorem yl_pick1 {c x y : Operand} {t : Bool} {v : Value} (ho : o.op = .pick c x y) (hc : ev e c = some (.bool t)) (ht : t = true) (hx : ev e x = some v) : Yld cx o e S v := by
  intro a w ha _
  subst ht
  simp [execOp, ho, ha.eval hc, ha.eval hx, asBool]
theorem yl_pick0 {c x y : Operand} {t : Bool} {v : Value} (ho : o.op = .pick c x y) (hc : ev e c = some (.bool t)) (ht : t = false) (hx : ev e y = some v) : Yld cx o e S v := by
  intro a w ha _
  subst ht
  simp [execOp, ho, ha.eval hc, ha.eval hx, asBool]
theorem yl_nilCheck {x : Operand} {p : Addr} (ho : o.op = .nilCheck x) (hx : ev e x = some (.pointer (some p))) : Yld cx o e S (.pointer (some p)) := by
  intro a w ha _
  simp [execOp, ho, ha.eval hx]
theorem yl_fieldAddr {x : Operand} {T k b off off' m : Nat} {fs : Array Field} {f : Field} (ho : o.op = .fieldAddr T x k) (hx : ev e x = some (ptr b off))
    (hu : cx.P.underlying T = some (.struct fs)) (hf : fs[k]? = some f) (hsz : ∀ w, (sizeOf f.type).run cx.P w = .ok (m + 1) w) (hoff : off + f.offset = off') :
    Yld cx o e S (ptr b off') := by
  intro a w ha _
  subst hoff
  simp [execOp, ho, ha.eval hx, Instr.fieldAt, run_underlying hu, hf, Instr.sureAddr, fieldPlace, hsz, Addr.add_lit]
theorem cell_of_heap {w : World} {b off : Nat} {cs : List Value} {t : TypeId} {fr : Nat × Nat} {v : Value} (h : w.heap[b]? = some (.cells cs.toArray t fr)) (hv : cs[off]? = some v) :
    w.cell? ⟨b, off, none⟩ = some v := by
  simp [World.cell?, h, hv]
theorem yl_load {x : Operand} {T b off : Nat} {cs : List Value} {t : TypeId} {fr : Nat × Nat} {v : Value} (ho : o.op = .load T x) (hx : ev e x = some (ptr b off))
    (ha0 : ∀ w, (isAgg T).run cx.P w = .ok false w) (hb : Blk S b (.cells cs.toArray t fr)) (hv : cs[off]? = some v) : Yld cx o e S v := by
  intro a w ha hs
  have hc := cell_of_heap (hb w hs) hv
  simp [execOp, ho, ha.eval hx, Instr.loadAt, Instr.sureAddr, loadVar, ha0, hc]
theorem yl_loadC {x : Operand} {T b off : Nat} {v : Value} (ho : o.op = .load T x) (hx : ev e x = some (ptr b off)) (ha0 : ∀ w, (isAgg T).run cx.P w = .ok false w) (hc : ∀ w, S w → w.cell? ⟨b, off, none⟩ = some v) : Yld cx o e S v := by
  intro a w ha hs
  simp [execOp, ho, ha.eval hx, Instr.loadAt, Instr.sureAddr, loadVar, ha0, hc w hs]
theorem yl_loadAgg {x : Operand} {T b off n : Nat} {cs vs : List Value} {t : TypeId} {fr : Nat × Nat} (ho : o.op = .load T x) (hx : ev e x = some (ptr b off))
    (ha0 : ∀ w, (isAgg T).run cx.P w = .ok true w) (hsz : ∀ w, (sizeOf T).run cx.P w = .ok n w) (hb : Blk S b (.cells cs.toArray t fr)) (hv : (cs.drop off).take n = vs) (hn : vs.length = n) :
    Yld cx o e S (.agg vs.toArray) := by
  intro a w ha hs
  have hh := hb w hs
  have hc : ∀ j v, vs[j]? = some v → w.cell? ((⟨b, off, none⟩ : Addr).add j) = some v := by
    intro j v hj
    rw [Addr.add_lit]
    refine cell_of_heap hh ?_
    rw [← hv] at hj
    rw [List.getElem?_take] at hj
    split at hj
    · simpa [List.getElem?_drop] using hj
    · cases hj
  have := run_loadCells_list (P := cx.P) (w := w) ⟨b, off, none⟩ vs hc
  rw [hn] at this
  simp [execOp, ho, ha.eval hx, Instr.loadAt, Instr.sureAddr, loadVar, ha0, hsz, this]
/-! integers -/
theorem yl_add {x y : Operand} {T U : Nat} {k : IntKind} {p q : Int} (ho : o.op = .binOp .add T x y U) (hx : ev e x = some (.int k p)) (hy : ev e y = some (.int k q)) (hw : k.wrap (p + q) = p + q) :
    Yld cx o e S (.int k (p + q)) := by
  intro a w ha _
  simp [execOp, ho, ha.eval hx, ha.eval hy, eqGuard_add, binOp_add, Op.intArith, hw]
theorem yl_sub {x y : Operand} {T U : Nat} {k : IntKind} {p q : Int} (ho : o.op = .binOp .sub T x y U) (hx : ev e x = some (.int k p)) (hy : ev e y = some (.int k q)) (hw : k.wrap (p - q) = p - q) :
    Yld cx o e S (.int k (p - q)) := by
  intro a w ha _
  simp [execOp, ho, ha.eval hx, ha.eval hy, eqGuard_sub, binOp_sub, Op.intArith, hw]
theorem yl_mul {x y : Operand} {T U : Nat} {k : IntKind} {p q : Int} (ho : o.op = .binOp .mul T x y U) (hx : ev e x = some (.int k p)) (hy : ev e y = some (.int k q)) (hw : k.wrap (p * q) = p * q) :
    Yld cx o e S (.int k (p * q)) := by
  intro a w ha _
  simp [execOp, ho, ha.eval hx, ha.eval hy, eqGuard_mul, binOp_mul, Op.intArith, hw]
theorem yl_addW {x y : Operand} {T U : Nat} {k : IntKind} {p q : Int} (ho : o.op = .binOp .add T x y U) (hx : ev e x = some (.int k p)) (hy : ev e y = some (.int k q)) :
    Yld cx o e S (.int k (k.wrap (p + q))) := by
  intro a w ha _
  simp [execOp, ho, ha.eval hx, ha.eval hy, eqGuard_add, binOp_add, Op.intArith]
theorem yl_subW {x y : Operand} {T U : Nat} {k : IntKind} {p q : Int} (ho : o.op = .binOp .sub T x y U) (hx : ev e x = some (.int k p)) (hy : ev e y = some (.int k q)) :
    Yld cx o e S (.int k (k.wrap (p - q))) := by
  intro a w ha _
  simp [execOp, ho, ha.eval hx, ha.eval hy, eqGuard_sub, binOp_sub, Op.intArith]
theorem yl_mulW {x y : Operand} {T U : Nat} {k : IntKind} {p q : Int} (ho : o.op = .binOp .mul T x y U) (hx : ev e x = some (.int k p)) (hy : ev e y = some (.int k q)) :
    Yld cx o e S (.int k (k.wrap (p * q))) := by
  intro a w ha _
  simp [execOp, ho, ha.eval hx, ha.eval hy, eqGuard_mul, binOp_mul, Op.intArith]
theorem yl_quo {x y : Operand} {T U : Nat} {k : IntKind} {p q : Int} (ho : o.op = .binOp .quo T x y U) (hx : ev e x = some (.int k p)) (hy : ev e y = some (.int k q)) (h0 : q ≠ 0) (hw : k.wrap (p.tdiv q) = p.tdiv q) :
    Yld cx o e S (.int k (p.tdiv q)) := by
  intro a w ha _
  simp [execOp, ho, ha.eval hx, ha.eval hy, eqGuard_quo, binOp_quo, Op.intDiv, hw, h0]
theorem yl_rem {x y : Operand} {T U : Nat} {k : IntKind} {p q : Int} (ho : o.op = .binOp .rem T x y U) (hx : ev e x = some (.int k p)) (hy : ev e y = some (.int k q)) (h0 : q ≠ 0) :
    Yld cx o e S (.int k (p.tmod q)) := by
  intro a w ha _
  simp [execOp, ho, ha.eval hx, ha.eval hy, eqGuard_rem, binOp_rem, Op.intDiv, h0]
theorem yl_lss {x y : Operand} {T U : Nat} {k : IntKind} {p q : Int} (ho : o.op = .binOp .lss T x y U) (hx : ev e x = some (.int k p)) (hy : ev e y = some (.int k q)) : Yld cx o e S (.bool (decide (p < q))) := by
  intro a w ha _
  simp [execOp, ho, ha.eval hx, ha.eval hy, eqGuard_lss, binOp_lss]
theorem yl_leq {x y : Operand} {T U : Nat} {k : IntKind} {p q : Int} (ho : o.op = .binOp .leq T x y U) (hx : ev e x = some (.int k p)) (hy : ev e y = some (.int k q)) : Yld cx o e S (.bool (decide (p ≤ q))) := by
  intro a w ha _
  simp [execOp, ho, ha.eval hx, ha.eval hy, eqGuard_leq, binOp_leq]
theorem yl_gtr {x y : Operand} {T U : Nat} {k : IntKind} {p q : Int} (ho : o.op = .binOp .gtr T x y U) (hx : ev e x = some (.int k p)) (hy : ev e y = some (.int k q)) : Yld cx o e S (.bool (decide (p > q))) := by
  intro a w ha _
  simp [execOp, ho, ha.eval hx, ha.eval hy, eqGuard_gtr, binOp_gtr]
theorem yl_geq {x y : Operand} {T U : Nat} {k : IntKind} {p q : Int} (ho : o.op = .binOp .geq T x y U) (hx : ev e x = some (.int k p)) (hy : ev e y = some (.int k q)) : Yld cx o e S (.bool (decide (p ≥ q))) := by
  intro a w ha _
  simp [execOp, ho, ha.eval hx, ha.eval hy, eqGuard_geq, binOp_geq]
theorem yl_eql {x y : Operand} {T U : Nat} {k : IntKind} {p q : Int} (ho : o.op = .binOp .eql T x y U) (hx : ev e x = some (.int k p)) (hy : ev e y = some (.int k q)) : Yld cx o e S (.bool (p == q)) := by
  intro a w ha _
  simp [execOp, ho, ha.eval hx, ha.eval hy, eqGuard_at_int, binOp_eql]
theorem yl_neq {x y : Operand} {T U : Nat} {k : IntKind} {p q : Int} (ho : o.op = .binOp .neq T x y U) (hx : ev e x = some (.int k p)) (hy : ev e y = some (.int k q)) : Yld cx o e S (.bool (p != q)) := by
  intro a w ha _
  simp [execOp, ho, ha.eval hx, ha.eval hy, eqGuard_at_int, binOp_neq]
theorem yl_not {x : Operand} {T : Nat} {b : Bool} (ho : o.op = .unOp .not T x) (hx : ev e x = some (.bool b)) : Yld cx o e S (.bool (!b)) := by
  intro a w ha _
  simp [execOp, ho, ha.eval hx, Op.unary]
theorem yl_convInt {x : Operand} {Sy T : Nat} {k k' : IntKind} {n : Int} {d : TypeDesc} (ho : o.op = .convert Sy T x) (hx : ev e x = some (.int k' n)) (hs : cx.P.underlying Sy = some d) (hu : cx.P.underlying T = some (.int k)) :
    Yld cx o e S (.int k (k.wrap n)) := by
  intro a w ha _
  simp [execOp, ho, ha.eval hx, convert, run_underlying hs, run_underlying hu, Conv.intToInt]
/-! texts -/
theorem yl_lenStr {x : Operand} {T : Nat} {l : List UInt8} (ho : o.op = .call ⟨.builtin .len, #[x], #[T]⟩) (hx : ev e x = some (str l)) (hu : cx.P.underlying T = some .string) : Yld cx o e S (i64 l.length) := by
  intro a w ha _
  simp [execOp, ho, resolve, invoke, builtin, Builtin.len_, ha.eval hx, run_underlying hu, str, goInt, size_mk]
theorem yl_lenSlice {x : Operand} {T E : Nat} {p : Option Addr} {n c : Nat} (ho : o.op = .call ⟨.builtin .len, #[x], #[T]⟩) (hx : ev e x = some (.slice p n c)) (hu : cx.P.underlying T = some (.slice E)) : Yld cx o e S (i64 n) := by
  intro a w ha _
  simp [execOp, ho, resolve, invoke, builtin, Builtin.len_, ha.eval hx, run_underlying hu, goInt]
theorem yl_index {x y : Operand} {T : Nat} {l : List UInt8} {k : IntKind} {i : Int} {c : UInt8} (ho : o.op = .index T x y) (hx : ev e x = some (str l)) (hy : ev e y = some (.int k i)) (hu : cx.P.underlying T = some .string)
    (h0 : 0 ≤ i) (hc : l[i.toNat]? = some c) : Yld cx o e S (u8 c) := by
  intro a w ha _
  have : (⟨l.toArray⟩ : ByteArray)[i.toNat]? = some c := by
    obtain ⟨hlt, hg⟩ := List.getElem?_eq_some_iff.1 hc
    rw [getElem?_pos (⟨l.toArray⟩ : ByteArray) i.toNat (by rw [size_mk]; exact hlt)]
    simp [ByteArray.getElem_eq_getElem_data, hg]
  simp [execOp, ho, ha.eval hx, ha.eval hy, Instr.index, run_underlying hu, str, asIntOf, h0, this]
theorem yl_sliceStr {x : Operand} {lo hi : Option Operand} {T : Nat} {l : List UInt8} {p q : Nat} (ho : o.op = .slice T x lo hi none) (hx : ev e x = some (str l)) (hu : cx.P.underlying T = some .string)
    (hlo : match lo with | some y => ∃ k, ev e y = some (.int k p) | none => p = 0) (hhi : match hi with | some y => ∃ k, ev e y = some (.int k q) | none => q = l.length)
    (h1 : p ≤ q) (h2 : q ≤ l.length) : Yld cx o e S (str ((l.take q).drop p)) := by
  intro a w ha _
  have hex : (⟨l.toArray⟩ : ByteArray).extract p q = ⟨((l.take q).drop p).toArray⟩ := by
    apply ByteArray.ext
    simp [ByteArray.data_extract]
    rw [List.drop_take]
  cases lo with
  | none =>
    simp only at hlo; subst hlo
    cases hi with
    | none =>
      simp only at hhi; subst hhi
      simp [execOp, ho, ha.eval hx, Instr.sliceAt, Instr.slice, Instr.sliceBounds, run_underlying hu, str]
      first | done | simpa [size_mk] using hex
    | some y =>
      obtain ⟨k, hy⟩ := hhi
      simp [execOp, ho, ha.eval hx, ha.eval hy, Instr.sliceAt, Instr.slice, Instr.sliceBounds, run_underlying hu, str, Instr.sliceBound, asIntOf, size_mk, h2]
      first | done | simpa using hex
  | some z =>
    obtain ⟨k', hz⟩ := hlo
    cases hi with
    | none =>
      simp only at hhi; subst hhi
      simp [execOp, ho, ha.eval hx, ha.eval hz, Instr.sliceAt, Instr.slice, Instr.sliceBounds, run_underlying hu, str, Instr.sliceBound, asIntOf, size_mk, h1]
      first | done | simpa using hex
    | some y =>
      obtain ⟨k, hy⟩ := hhi
      simp [execOp, ho, ha.eval hx, ha.eval hy, ha.eval hz, Instr.sliceAt, Instr.slice, Instr.sliceBounds, run_underlying hu, str, Instr.sliceBound, asIntOf, size_mk, h2, h1]
      first | done | simpa using hex
theorem yl_cat {x y : Operand} {T U : Nat} {l m : List UInt8} (ho : o.op = .binOp .add T x y U) (hx : ev e x = some (str l)) (hy : ev e y = some (str m)) (hw : l.length + m.length ≤ 9223372036854775807) :
    Yld cx o e S (str (l ++ m)) := by
  intro a w ha _
  have h1 : ¬ ((((⟨l.toArray⟩ : ByteArray).size + (⟨m.toArray⟩ : ByteArray).size : Nat) : Int) > IntKind.i64.max) := by
    rw [size_mk, size_mk]; simp; omega
  have h2 : (⟨l.toArray⟩ : ByteArray) ++ ⟨m.toArray⟩ = ⟨(l ++ m).toArray⟩ := by
    apply ByteArray.ext; simp
  simp only [execOp, ho, ha.eval hx, ha.eval hy, eqGuard_add, str, binOp, Op.stringOp, if_neg h1, h2, Sem.run_bind, Sem.run_pure, Result.andThen_ok]
theorem yl_eqlStr {x y : Operand} {T U : Nat} {l m : List UInt8} (ho : o.op = .binOp .eql T x y U) (hx : ev e x = some (str l)) (hy : ev e y = some (str m)) : Yld cx o e S (.bool (l == m)) := by
  intro a w ha _
  simp [execOp, ho, ha.eval hx, ha.eval hy, str, eqGuard_at_string, binOp, Op.stringOp]
theorem yl_neqStr {x y : Operand} {T U : Nat} {l m : List UInt8} (ho : o.op = .binOp .neq T x y U) (hx : ev e x = some (str l)) (hy : ev e y = some (str m)) : Yld cx o e S (.bool (l != m)) := by
  intro a w ha _
  simp [execOp, ho, ha.eval hx, ha.eval hy, str, eqGuard_at_string, binOp, Op.stringOp, bne]
/-! slices -/
theorem yl_indexAddr {x y : Operand} {T E b off n c sz off' : Nat} {k : IntKind} {i : Int} (ho : o.op = .indexAddr T x y) (hx : ev e x = some (.slice (some ⟨b, off, none⟩) n c)) (hy : ev e y = some (.int k i))
    (hu : cx.P.underlying T = some (.slice E)) (hsz : ∀ w, (sizeOf E).run cx.P w = .ok sz w) (h0 : 0 ≤ i) (h1 : i < n) (hoff : off + i.toNat * sz = off') : Yld cx o e S (ptr b off') := by
  intro a w ha _
  subst hoff
  simp [execOp, ho, ha.eval hx, ha.eval hy, Instr.indexAt, asIntOf, run_underlying hu, h0, h1, hsz, Addr.add_lit]
theorem yl_extract {x : Operand} {k : Nat} {vs : List Value} {v : Value} (ho : o.op = .extract x k) (hx : ev e x = some (.tuple vs.toArray)) (hv : vs[k]? = some v) : Yld cx o e S v := by
  intro a w ha _
  simp [execOp, ho, ha.eval hx, Instr.extract, hv]
theorem yl_makeFunc {fn : Fn} {fs cs : List Operand} {vs us : List Value} (ho : o.op = .makeFunc fn fs.toArray cs.toArray) (h1 : evs e fs = some vs) (h2 : evs e cs = some us) : Yld cx o e S (.func fn vs.toArray us.toArray) := by
  intro a w ha _
  simp [execOp, ho, Instr.makeFunc, ha.evals h1, ha.evals h2]
theorem yl_makeIface {T : Nat} {x : Operand} {v : Value} {d : TypeDesc} (ho : o.op = .makeInterface T x) (hx : ev e x = some v) (hu : cx.P.underlying T = some d) (hn : (match d with | .interface _ => false | _ => true) = true) : Yld cx o e S (.iface T v) := by
  intro a w ha _
  simp only [execOp, ho, Instr.makeInterface, ha.eval hx, Sem.run_bind, run_underlying hu, Result.andThen_ok]
  cases d <;> first | rfl | cases hn
theorem yl_of_run {v : Value} (h : ∀ a w, Has a cx.n e cx.ds → S w → (execOp a.eval o).run cx.P w = .ok (.value v) w) : Yld cx o e S v := h
end
end Go.Sx
