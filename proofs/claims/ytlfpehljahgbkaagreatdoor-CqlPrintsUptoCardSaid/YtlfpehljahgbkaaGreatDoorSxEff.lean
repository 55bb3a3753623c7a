/-
  Operations that make or write memory, calls, entering and leaving a function; statements whose order is open. Own text. Conditions: none.
-/
import Derived.Test.YtlfpehljahgbkaaGreatDoorSxOps
namespace Go.Sx
open Go

/-- A list with one place set. -/
def LSet {α : Type} (l : List α) (i : Nat) (x : α) (l' : List α) : Prop := i < l.length ∧ l.set i x = l'
theorem LSet.z {α : Type} {v x : α} {r : List α} : LSet (v :: r) 0 x (x :: r) := ⟨by simp, rfl⟩
theorem LSet.s {α : Type} {v x : α} {r r' : List α} {n : Nat} (h : LSet r n x r') : LSet (v :: r) (n + 1) x (v :: r') :=
  ⟨by have := h.1; simp; omega, by rw [List.set_cons_succ, h.2]⟩
/-- A list with several places set, from one on. -/
def LSpl {α : Type} (l : List α) (i : Nat) (xs : List α) (l' : List α) : Prop := i + xs.length ≤ l.length ∧ l' = l.take i ++ xs ++ l.drop (i + xs.length)
theorem LSpl.z {α : Type} {l : List α} : LSpl l 0 [] l := ⟨by simp, by simp⟩
theorem LSpl.c {α : Type} {v x : α} {r r' xs : List α} (h : LSpl r 0 xs r') : LSpl (v :: r) 0 (x :: xs) (x :: r') := by
  obtain ⟨h1, h2⟩ := h
  refine ⟨by simp at h1 ⊢; omega, ?_⟩
  subst h2; simp
theorem LSpl.s {α : Type} {v : α} {r r' xs : List α} {n : Nat} (h : LSpl r n xs r') : LSpl (v :: r) (n + 1) xs (v :: r') := by
  obtain ⟨h1, h2⟩ := h
  refine ⟨by simp; omega, ?_⟩
  subst h2
  simp [List.take_succ_cons, Nat.add_right_comm n 1, List.drop_succ_cons]

theorem hset_at : ∀ (H : HL) (i b : Nat) (o o' : Obj), (H.map (·.1)).Nodup → H[i]? = some (b, o) → hset b o' H = H.set i (b, o')
  | [], i, b, o, o', _, h => by simp at h
  | (c, x) :: r, 0, b, o, o', _, h => by
    simp at h
    obtain ⟨rfl, rfl⟩ := h
    simp [hset]
  | (c, x) :: r, i + 1, b, o, o', hn, h => by
    simp only [List.map_cons, List.nodup_cons] at hn
    simp only [List.getElem?_cons_succ] at h
    have hcb : c ≠ b := fun he => hn.1 (by rw [he]; exact List.mem_map_of_mem (f := (·.1)) (List.mem_of_getElem? h))
    simp only [hset, if_neg hcb, List.set_cons_succ]
    rw [hset_at r i b o o' hn.2 h]

/-- The world with one block turned. -/
def World.block (w : World) (b : Nat) (o : Obj) : World := { w with heap := w.heap.setIfInBounds b o }
theorem setCell_block {w : World} {b off : Nat} {cs : List Value} {t : TypeId} {fr : Nat × Nat} {v : Value} (h : w.heap[b]? = some (.cells cs.toArray t fr)) :
    w.setCell ⟨b, off, none⟩ v = World.block w b (.cells (cs.set off v).toArray t fr) := by
  have hb : b < w.heap.size := by
    rcases Nat.lt_or_ge b w.heap.size with h' | h'
    · exact h'
    · simp [Array.getElem?_eq_none h'] at h
  simp only [World.setCell, World.block]
  congr 1
  apply Array.ext_getElem?
  intro i
  rw [Array.getElem?_modify, Array.getElem?_setIfInBounds]
  by_cases hi : b = i
  · subst hi
    have hg : w.heap[b] = .cells cs.toArray t fr := by simpa [hb] using h
    simp [hb, hg]
  · simp [hi]
theorem block_get {w : World} {b : Nat} {o o' : Obj} (h : w.heap[b]? = some o) : (World.block w b o').heap[b]? = some o' := by
  have hb : b < w.heap.size := by
    rcases Nat.lt_or_ge b w.heap.size with h' | h'
    · exact h'
    · simp [Array.getElem?_eq_none h'] at h
  simp [World.block, hb]
theorem block_ne {w : World} {b c : Nat} {o' : Obj} (h : c ≠ b) : (World.block w b o').heap[c]? = w.heap[c]? := by
  simp [World.block, Ne.symm h]
theorem block_block {w : World} {b : Nat} {o o' : Obj} : World.block (World.block w b o) b o' = World.block w b o' := by
  simp [World.block]
theorem St.block {w0 : World} {D : List Nat} {I0 I : Heap} {H H' : HL} {w : World} {i b : Nat} {o o' : Obj} (h : St w0 D I0 I H w) (hi : H[i]? = some (b, o)) (hs : LSet H i (b, o') H') :
    St w0 D I0 I H' (World.block w b o') := by
  have hm := List.mem_of_getElem? hi
  have := h.write (o' := o') hm (w' := World.block w b o') rfl rfl rfl (by simp [World.block]) (block_get (h.own _ hm)) (fun c hc => block_ne hc)
  rw [hset_at H i b o o' h.nodup hi, hs.2] at this
  exact this

theorem run_storeCells {P : Program} {b off : Nat} {t : TypeId} {fr : Nat × Nat} : ∀ (vs : List Value) (i : Nat) (w : World) (cs : List Value), w.heap[b]? = some (.cells cs.toArray t fr) → (fr = (0, 0) ∨ cs.length ≤ fr.1) → off + i + vs.length ≤ cs.length →
    (∀ v ∈ vs, v.oneCell' = true) → ∀ cs', LSpl cs (off + i) vs cs' → (storeCells ⟨b, off, none⟩ vs i).run P w = .ok () (World.block w b (.cells cs'.toArray t fr))
  | [], i, w, cs, h, _, _, _, cs', hl => by
    have : cs' = cs := by have := hl.2; simpa using this
    subst this
    have hw : World.block w b (.cells cs'.toArray t fr) = w := by
      simp only [World.block]
      congr 1
      apply Array.ext_getElem?
      intro j
      rw [Array.getElem?_setIfInBounds]
      by_cases hj : b = j
      · subst hj
        have hb : b < w.heap.size := by
          rcases Nat.lt_or_ge b w.heap.size with h' | h'
          · exact h'
          · simp [Array.getElem?_eq_none h'] at h
        have hg : w.heap[b] = .cells cs'.toArray t fr := by simpa [hb] using h
        simp [hb, hg]
      · simp [hj]
    rw [hw]; rfl
  | v :: r, i, w, cs, h, hfr, hlen, hone, cs', hl => by
    simp only [List.length_cons] at hlen
    have hlt : off + i < cs.length := by omega
    have hc : w.cell? ⟨b, off + i, none⟩ = some (cs[off + i]'hlt) := cell_of_heap h (by simp [hlt])
    have hfz : w.frozen? ⟨b, off + i, none⟩ = false := by
      rcases hfr with rfl | hfr
      · simp [World.frozen?, h]
      · simp only [World.frozen?, h]
        have : decide (fr.1 ≤ off + i) = false := by simp; omega
        simp [this]
    have h1 := run_store P w ⟨b, off + i, none⟩ v .plain (hone v (.head _))
    simp only [hc, hfz, Bool.false_eq_true, if_false] at h1
    have hadd : ((⟨b, off, none⟩ : Addr).add i) = ⟨b, off + i, none⟩ := Addr.add_lit b off i
    simp only [storeCells, Sem.run_bind, hadd, h1, Result.andThen_ok]
    rw [setCell_block h]
    have h2 : (World.block w b (.cells (cs.set (off + i) v).toArray t fr)).heap[b]? = some (.cells (cs.set (off + i) v).toArray t fr) := block_get h
    rw [run_storeCells r (i + 1) _ (cs.set (off + i) v) h2 (by simpa using hfr) (by simp; omega) (fun u hu => hone u (.tail _ hu)) cs' ?_, block_block]
    refine ⟨by simp; omega, ?_⟩
    rw [hl.2]
    simp only [List.length_cons]
    rw [show off + (i + 1) = (off + i) + 1 from by omega]
    rw [List.take_set, List.drop_set_of_lt (by omega)]
    rw [List.take_succ_eq_append_getElem hlt]
    rw [List.set_append_right _ _ (by simp; omega)]
    simp [Nat.min_eq_left (Nat.le_of_lt hlt), Nat.add_assoc, Nat.add_comm 1]

/-- The cells of a slice literal whose parts are given one behind the other. -/
def LCat (vs : List Value) (sz : Nat) (cs : List Value) : Prop := (∀ v ∈ vs, v.cells.size = sz) ∧ vs.flatMap (fun v => v.cells.toList) = cs
theorem LCat.none {sz : Nat} : LCat [] sz [] := ⟨by simp, rfl⟩
theorem LCat.one {v : Value} {vs cs : List Value} (h1 : v.cells = #[v]) (h : LCat vs 1 cs) : LCat (v :: vs) 1 (v :: cs) :=
  ⟨fun u hu => by cases hu with | head => rw [h1]; rfl | tail _ hu => exact h.1 u hu, by rw [List.flatMap_cons, h1, h.2]; rfl⟩
theorem LCat.agg {xs vs cs : List Value} {sz : Nat} (h1 : xs.length = sz) (h : LCat vs sz cs) : LCat (.agg xs.toArray :: vs) sz (xs ++ cs) :=
  ⟨fun u hu => by cases hu with | head => simpa [Value.cells] using h1 | tail _ hu => exact h.1 u hu, by rw [List.flatMap_cons, h.2]; rfl⟩
theorem LCat.len : ∀ {vs cs : List Value} {sz : Nat}, LCat vs sz cs → cs.length = vs.length * sz
  | [], cs, sz, h => by rw [← h.2]; simp
  | v :: vs, cs, sz, h => by
    rw [← h.2, List.flatMap_cons, List.length_append, LCat.len (vs := vs) (sz := sz) ⟨fun u hu => h.1 u (.tail _ hu), rfl⟩]
    have := h.1 v (.head _)
    simp only [Array.length_toList, this, List.length_cons, Nat.add_mul, Nat.one_mul]
    omega
theorem foldl_put : ∀ (xs : List Value) (k : Nat) (pre old post : List Value) (off : Nat), old.length = xs.length → pre.length = off + k →
    (xs.zipIdx k).foldl (fun cs (x : Value × Nat) => cs.setIfInBounds (off + x.2) x.1) (pre ++ old ++ post).toArray = (pre ++ xs ++ post).toArray
  | [], k, pre, old, post, off, h, _ => by
    have : old = [] := List.length_eq_zero_iff.1 (by simpa using h)
    subst this; simp
  | x :: xs, k, pre, old, post, off, h, hp => by
    obtain ⟨y, r, rfl⟩ : ∃ y r, old = y :: r := by
      cases old with
      | nil => simp at h
      | cons y r => exact ⟨y, r, rfl⟩
    simp only [List.zipIdx_cons, List.foldl_cons]
    have h1 : (pre ++ y :: r ++ post).toArray.setIfInBounds (off + k) x = ((pre ++ [x]) ++ r ++ post).toArray := by
      rw [List.setIfInBounds_toArray]
      congr 1
      rw [List.append_assoc, List.set_append_right _ _ (by omega), hp, Nat.sub_self]
      simp
    rw [h1, foldl_put xs (k + 1) (pre ++ [x]) r post off (by simpa using h) (by simp; omega)]
    simp
theorem fill_cat {sz : Nat} : ∀ (vs : List Value) (k : Nat) (pre rest : List Value), (∀ v ∈ vs, v.cells.size = sz) → pre.length = k * sz → rest.length = vs.length * sz →
    Instr.fill (fun i => some (i * sz, sz)) (pre ++ rest).toArray ((List.range' k vs.length).zip vs) = some (pre ++ vs.flatMap (fun v => v.cells.toList)).toArray
  | [], k, pre, rest, _, _, hr => by
    have : rest = [] := List.length_eq_zero_iff.1 (by simpa using hr)
    subst this; simp [Instr.fill]
  | v :: vs, k, pre, rest, hv, hp, hr => by
    have h1 : v.cells.toList.length = sz := by simpa using hv v (.head _)
    have hr' : rest.length = sz + vs.length * sz := by rw [hr]; simp [Nat.add_mul]; omega
    have hs1 : v.cells.size = sz := hv v (.head _)
    simp only [List.length_cons, List.range'_succ, List.zip_cons_cons, Instr.fill]
    rw [if_neg (by simp [hs1, hp]; omega)]
    have h2 : v.cells.zipIdx.foldl (fun cs (x : Value × Nat) => cs.setIfInBounds (k * sz + x.2) x.1) (pre ++ rest).toArray = (pre ++ v.cells.toList ++ rest.drop sz).toArray := by
      rw [← foldl_put v.cells.toList 0 pre (rest.take sz) (rest.drop sz) (k * sz) (by simp; omega) (by omega)]
      rw [List.append_assoc pre, List.take_append_drop]
      rw [← Array.foldl_toList, Array.toList_zipIdx]
    rw [h2, fill_cat vs (k + 1) (pre ++ v.cells.toList) (rest.drop sz) (fun u hu => hv u (.tail _ hu)) (by simp [hs1, hp, Nat.add_mul]) (by simp; omega)]
    simp [List.flatMap_cons]
section
variable {cx : Cx} {Q : Qt} {o : Oper} {e : Env} {I : Heap} {H : HL} {C : Ct}

theorem op_alloc {T d : Nat} {z : Value} {zs : List Value} (ho : o.op = .alloc T) (hd : o.dst = some d) (hn : Nat.blt d cx.n = true) (hz : ∀ w, (zeroValue T).run cx.P w = .ok z w) (hc : z.cells = zs.toArray)
    (k : ∀ b, cx.w0.heap.size ≤ b → C ((d, ptr b 0) :: e) I ((b, cel T zs) :: H)) : OpJ cx Q o e I H C := by
  intro K hK a w ha hs
  unfold Oper.wp
  have : (execOp a.eval o).run cx.P w = .ok (.value (ptr w.heap.size 0)) { w with heap := w.heap.push (cel T zs) } := by
    simp [execOp, ho, Instr.alloc, hz, newVar, newRow, hc, cel]
  rw [this]
  simp only [Oper.upon, hd]
  exact hK _ _ _ (k _ hs.size) _ _ (ha.put hn) (hs.alloc _)
theorem op_box {T d : Nat} {x : Operand} {z : Value} {zs : List Value} (ho : o.op = .box T x) (hd : o.dst = some d) (hn : Nat.blt d cx.n = true) (hx : ev e x = some z) (hc : z.cells = zs.toArray)
    (k : ∀ b, cx.w0.heap.size ≤ b → C ((d, ptr b 0) :: e) I ((b, cel T zs) :: H)) : OpJ cx Q o e I H C := by
  intro K hK a w ha hs
  unfold Oper.wp
  have : (execOp a.eval o).run cx.P w = .ok (.value (ptr w.heap.size 0)) { w with heap := w.heap.push (cel T zs) } := by
    simp [execOp, ho, Instr.box, ha.eval hx, newVar, newRow, hc, cel]
  rw [this]
  simp only [Oper.upon, hd]
  exact hK _ _ _ (k _ hs.size) _ _ (ha.put hn) (hs.alloc _)
theorem op_store {x y : Operand} {T t b off : Nat} (i : Nat) {cs cs' vs : List Value} {v : Value} {H' : HL} {n : Nat} (ho : o.op = .store T x y) (hd : o.dst = none) (hx : ev e x = some (ptr b off)) (hy : ev e y = some v)
    (hv : v.cells = vs.toArray) (h1 : vs.all Value.oneCell' = true) (hsz : ∀ w, (sizeOf T).run cx.P w = .ok n w) (hnn : vs.length = n) (hH : H[i]? = some (b, cel t cs)) (hcs : LSpl cs off vs cs') (hH' : LSet H i (b, cel t cs') H')
    (k : C e I H') : OpJ cx Q o e I H C := by
  intro K hK a w ha hs
  unfold Oper.wp
  have hb := hs.own _ (List.mem_of_getElem? hH)
  have hst := run_storeCells (P := cx.P) (t := t) vs 0 w cs hb (.inl rfl) hcs.1 (fun u hu => (List.all_eq_true.1 h1) u hu) cs' hcs
  have : (execOp a.eval o).run cx.P w = .ok .skip (World.block w b (cel t cs')) := by
    simp [execOp, ho, Instr.storeAt, Instr.sureAddr, ha.eval hx, ha.eval hy, storeVar, hv, hsz, hnn, hst, cel]
  rw [this]
  simp only [Oper.upon, hd]
  exact hK _ _ _ k _ _ ha.putNone (hs.block hH hH')
theorem op_buildSlice {T E d len sz : Nat} {parts : List (Nat × Operand)} {vs : List Value} {z : Value} {cells : List Value} (ho : o.op = .buildSlice T len parts.toArray) (hd : o.dst = some d) (hn : Nat.blt d cx.n = true)
    (hu : cx.P.underlying T = some (.slice E)) (hsz : ∀ w, (sizeOf E).run cx.P w = .ok sz w) (hz : ∀ w, (zeroValue E).run cx.P w = .ok z w) (hbig : (Nat.ble (len * sz) (2 ^ 24) && Nat.blt 0 (len * sz)) = true)
    (hv : evs e (parts.map (·.2)) = some vs) (hi : parts.map (·.1) = List.range' 0 vs.length) (hl : vs.length = len) (hf : LCat vs sz cells)
    (k : ∀ b, cx.w0.heap.size ≤ b → C ((d, .slice (some ⟨b, 0, none⟩) len len) :: e) I ((b, cel E cells) :: H)) : OpJ cx Q o e I H C := by
  intro K hK a w ha hs
  unfold Oper.wp
  have hp : (parts.toArray.map fun (i, x) => (i, a.eval x)).toList = (List.range' 0 vs.length).zip vs := by
    have h := ha.evals hv
    rw [← hi, ← h]
    simp [List.zip_map', List.map_map]
  have hb1 : ¬ (len * sz > 2 ^ 24) := by
    simp only [Bool.and_eq_true, Nat.ble_eq] at hbig; omega
  have hb2 : ¬ (len * sz = 0) := by
    simp only [Bool.and_eq_true, Nat.blt_eq] at hbig; omega
  have hfl : Instr.fill (fun i => some (i * sz, sz)) ((Array.range (len * sz)).map (z.cells[· % z.cells.size]!)) ((List.range' 0 vs.length).zip vs) = some cells.toArray := by
    have h0 : ((Array.range (len * sz)).map (z.cells[· % z.cells.size]!)) = ([] ++ ((Array.range (len * sz)).map (z.cells[· % z.cells.size]!)).toList).toArray := by rw [List.nil_append, Array.toArray_toList]
    rw [h0, fill_cat vs 0 [] _ hf.1 (by simp) (by simp [hl]), hf.2]
    simp
  have : (execOp a.eval o).run cx.P w = .ok (.value (.slice (some ⟨w.heap.size, 0, none⟩) len len)) { w with heap := w.heap.push (cel E cells) } := by
    simp only [execOp, ho, Instr.buildSlice, Sem.run_bind, run_underlying hu, Result.andThen_ok, hsz, hb1, hb2, if_false, Sem.run_pure, hz, hp, hfl, newRow, run_newObj, cel]
  rw [this]
  simp only [Oper.upon, hd]
  exact hK _ _ _ (k _ hs.size) _ _ (ha.put hn) (hs.alloc _)
end

/-! ### Contracts -/
def Enters (P : Program) (f : FuncId) : Prop := ∃ fn, P.funcs[f]? = some fn ∧ fn.name ≠ "runtime.NumGoroutine" ∧ fn.body.isNone = false
def Ready (I : Heap) (H : HL) (w : World) : Prop := (∀ b o, I b = some o → w.heap[b]? = some o) ∧ (∀ p ∈ H, w.heap[p.1]? = some p.2) ∧ (H.map (·.1)).Nodup ∧ ∀ p ∈ H, I p.1 = none
def RR (w0 : World) (D : List Nat) (I0 : Heap) (post : Ending → Heap → HL → Prop) : Ending → World → Prop :=
  fun e w' => ∃ I' H', St w0 D I0 I' H' w' ∧ post e I' H'
def Ctr (P : Program) (f : FuncId) (args : List Value) (I : Heap) (H : HL) (post : Ending → Heap → HL → Prop) : Prop :=
  Enters P f ∧ ∀ w, Ready I H w → Calls P f args.toArray w (RR w (H.map (·.1)) I post)
theorem Ctr.mono {P : Program} {f : FuncId} {args : List Value} {I : Heap} {H : HL} {post post' : Ending → Heap → HL → Prop} (h : Ctr P f args I H post)
    (hp : ∀ e I' H', Le I I' → post e I' H' → post' e I' H') : Ctr P f args I H post' :=
  ⟨h.1, fun w hw => (h.2 w hw).mono fun e _w' ⟨I', H', hs, hq⟩ => ⟨I', H', hs, hp e I' H' hs.le hq⟩⟩
/-- It returns v, and nothing else is told. -/
def Pure (P : Program) (f : FuncId) (args : List Value) (I : Heap) (v : Value) : Prop := Ctr P f args I [] (fun e I' H' => e = .returned v ∧ I' = I ∧ H' = [])

theorem run_callFunc {P : Program} {f : FuncId} (h : Enters P f) (args : Array Value) (w : World) : (callFunc f args).run P w = .ok (.enter f args) w := by
  obtain ⟨fn, h1, h2, h3⟩ := h
  have h4 : (fn.name == "runtime.NumGoroutine") = false := by simpa using h2
  simp only [callFunc, Sem.run_bind, run_program, Result.andThen_ok, h1, h4, h3, Bool.false_eq_true, if_false, Sem.run_pure]

section
variable {cx : Cx} {Q : Qt} {o : Oper} {e : Env} {I : Heap} {C : Ct}
theorem op_call {H1 R : HL} {d f : Nat} {fo : Operand} {xs : List Operand} {ts : Array TypeId} {fst cap vs : List Value} {post : Ending → Heap → HL → Prop}
    (ho : o.op = .call ⟨.value fo, xs.toArray, ts⟩) (hd : o.dst = some d) (hn : Nat.blt d cx.n = true) (hf : ev e fo = some (.func (.func f) fst.toArray cap.toArray)) (hx : evs e xs = some vs)
    (hs : Ctr cx.P f (fst ++ vs ++ cap) I H1 post)
    (k : ∀ v I' H1', Le I I' → post (.returned v) I' H1' → C ((d, v) :: e) I' (H1' ++ R))
    (kp : ∀ ch I' H1', Le I I' → post (.panicked ch) I' H1' → Ej cx Q (.panic ch) e I' (H1' ++ R))
    (ko : ∀ I' H1', ¬ post .outgrown I' H1') : OpJ cx Q o e I (H1 ++ R) C := by
  intro K hK a w ha hst
  unfold Oper.wp
  have hr : (execOp a.eval o).run cx.P w = .ok (.enter f (fst ++ vs ++ cap).toArray) w := by
    have hxs : xs.toArray.map a.eval = vs.toArray := by
      rw [List.map_toArray, ha.evals hx]
    simp only [execOp, ho, resolve, hxs, ha.eval hf, Deferred.ofValue, invoke, Sem.run_bind, Sem.run_pure, Result.andThen_ok, run_callFunc hs.1]
    simp
  rw [hr]
  simp only [Oper.upon]
  have hready : Ready I H1 w := ⟨hst.sub, fun p hp => hst.own p (List.mem_append_left _ hp), by
    have := hst.nodup; rw [List.map_append, List.nodup_append] at this; exact this.1, fun p hp => hst.dis p (List.mem_append_left _ hp)⟩
  refine (hs.2 w hready).mono ?_
  rintro en w' ⟨I', H1', hs', hp⟩
  have hle := hs'.le
  have hst' := hst.call hs'
  cases en with
  | returned v =>
    rw [hd]
    exact hK _ _ _ (k v I' H1' hle hp) _ _ (ha.put hn) hst'
  | panicked ch => exact kp ch I' H1' hle hp _ _ ha hst'
  | outgrown => exact (ko _ _ hp).elim
theorem op_pure {H : HL} {d f : Nat} {fo : Operand} {xs : List Operand} {ts : Array TypeId} {fst cap vs : List Value} {v : Value}
    (ho : o.op = .call ⟨.value fo, xs.toArray, ts⟩) (hd : o.dst = some d) (hn : Nat.blt d cx.n = true) (hf : ev e fo = some (.func (.func f) fst.toArray cap.toArray)) (hx : evs e xs = some vs)
    (hs : Pure cx.P f (fst ++ vs ++ cap) I v) (k : C ((d, v) :: e) I H) : OpJ cx Q o e I H C :=
  op_call (H1 := []) (R := H) ho hd hn hf hx hs
    (fun u I' H1' _ ⟨h1, h2, h3⟩ => by cases h1; subst h2; subst h3; exact k) (fun ch I' H1' _ ⟨h1, _⟩ => by cases h1) (fun I' H1' ⟨h1, _⟩ => by cases h1)
end

theorem Ctr.of_body {P : Program} {f : FuncId} {fn : Func} {c : Code} {args : List Value} {I : Heap} {H : HL} {post : Ending → Heap → HL → Prop} (hf : P.funcs[f]? = some fn) (hb : fn.body = some c) (hname : fn.name ≠ "runtime.NumGoroutine")
    (hn : args.length ≤ fn.ntmps)
    (h : ∀ w0, Ready I H w0 → Cj ⟨P, fn.ntmps, w0, H.map (·.1), I, []⟩ (bodyPost P fn (RR w0 (H.map (·.1)) I post)) c (argsEnv 0 args) I H) : Ctr P f args I H post := by
  refine ⟨⟨fn, hf, hname, by simp [hb]⟩, fun w hw => ?_⟩
  refine calls_of_wp hf hb ?_
  exact h w hw _ _ (Has.start args fn.ntmps hn) (St.start w I H hw.1 hw.2.1 hw.2.2.1 hw.2.2.2)

theorem w64 {x : Int} (h : -9223372036854775808 ≤ x ∧ x ≤ 9223372036854775807) : IntKind.i64.wrap x = x := IntWalk.i64_in _ h
section
variable {cx : Cx} {fn : Func} {post : Ending → Heap → HL → Prop} {e : Env} {I : Heap} {H : HL}
theorem Ej.ret1 {t : Nat} {v : Value} (hr : fn.results = #[.tmp t]) (hds : cx.ds = []) (hv : eg e t = some v) (hp : post (.returned v) I H) : Ej cx (bodyPost cx.P fn (RR cx.w0 cx.D cx.I0 post)) .ret e I H := by
  intro a w ha hs
  refine ⟨ha.defs.trans hds, v, ?_, I, H, hs, hp⟩
  rw [results_tmp hr]
  have := ha.get t v hv
  simp [this]
theorem Ej.ret2 {t u : Nat} {v x : Value} (hr : fn.results = #[.tmp t, .tmp u]) (hds : cx.ds = []) (hv : eg e t = some v) (hx : eg e u = some x) (hp : post (.returned (.tuple #[v, x])) I H) :
    Ej cx (bodyPost cx.P fn (RR cx.w0 cx.D cx.I0 post)) .ret e I H := by
  intro a w ha hs
  refine ⟨ha.defs.trans hds, _, ?_, I, H, hs, hp⟩
  rw [results_tmp2 hr]
  have h1 := ha.get t v hv
  have h2 := ha.get u x hx
  simp [h1, h2]
theorem Ej.ret0 (hr : fn.results = #[]) (hds : cx.ds = []) (hp : post (.returned (.tuple #[])) I H) : Ej cx (bodyPost cx.P fn (RR cx.w0 cx.D cx.I0 post)) .ret e I H :=
  fun _a _w ha hs => ⟨ha.defs.trans hds, _, results_none hr _ _ _, I, H, hs, hp⟩
theorem Ej.end0 (hr : fn.results = #[]) (hds : cx.ds = []) (hp : post (.returned (.tuple #[])) I H) : Ej cx (bodyPost cx.P fn (RR cx.w0 cx.D cx.I0 post)) .normal e I H :=
  fun _a _w ha hs => ⟨ha.defs.trans hds, _, results_none hr _ _ _, I, H, hs, hp⟩
theorem Ej.pan {ch : List PanicEntry} (hds : cx.ds = []) (hp : post (.panicked ch) I H) : Ej cx (bodyPost cx.P fn (RR cx.w0 cx.D cx.I0 post)) (.panic ch) e I H :=
  fun _a _w ha hs => ⟨ha.defs.trans hds, I, H, hs, hp⟩
/-- The result lies in a variable of the call's own. -/
theorem Ej.retCell {t T b n : Nat} {cs : List Value} {ty : TypeId} {fr : Nat × Nat} (hr : fn.results = #[.cell t T]) (hds : cx.ds = []) (hv : eg e t = some (ptr b 0)) (hb : Blk (SS I H) b (.cells cs.toArray ty fr))
    (ha0 : ∀ w, (isAgg T).run cx.P w = .ok true w) (hsz : ∀ w, (sizeOf T).run cx.P w = .ok n w) (hn : cs.length = n) (hp : post (.returned (.agg cs.toArray)) I H) : Ej cx (bodyPost cx.P fn (RR cx.w0 cx.D cx.I0 post)) .ret e I H := by
  intro a w ha hs
  refine ⟨ha.defs.trans hds, _, ?_, I, H, hs, hp⟩
  have h1 := ha.get t _ hv
  have hc : ∀ j v, cs[j]? = some v → w.cell? ((⟨b, 0, none⟩ : Addr).add j) = some v := fun j v hj => by
    rw [Addr.add_lit]; exact cell_of_heap (hb w hs.ss) (by simpa using hj)
  have h2 := run_loadCells_list (P := cx.P) (w := w) ⟨b, 0, none⟩ cs hc
  rw [hn] at h2
  simp [results, hr, h1, asAddr, loadVar, ha0, hsz, h2]
end

/-! ### Owned blocks brought to the front, or dropped -/
def Pull (H : HL) (p : Nat × Obj) (H' : HL) : Prop := (p :: H').Perm H
theorem Pull.z {p : Nat × Obj} {r : HL} : Pull (p :: r) p r := List.Perm.refl _
theorem Pull.s {p q : Nat × Obj} {r r' : HL} (h : Pull r p r') : Pull (q :: r) p (q :: r') := (List.Perm.swap q p r').trans (List.Perm.cons q h)
def Keeps (H' H : HL) : Prop := H'.Sublist H
theorem Keeps.n : Keeps [] [] := List.Sublist.slnil
theorem Keeps.r {r : HL} : Keeps r r := List.Sublist.refl r
theorem Keeps.k {p : Nat × Obj} {r r' : HL} (h : Keeps r' r) : Keeps (p :: r') (p :: r) := List.Sublist.cons_cons p h
theorem Keeps.d {p : Nat × Obj} {r r' : HL} (h : Keeps r' r) : Keeps r' (p :: r) := List.Sublist.cons p h
section
variable {cx : Cx} {Q : Qt} {e : Env} {I : Heap} {H H' : HL} {p : Nat × Obj}
theorem Cj.pull {c : Code} (h : Pull H p H') (k : Cj cx Q c e I (p :: H')) : Cj cx Q c e I H := Cj.perm h k
theorem J.pull {ops : Array Oper} {l : List Oper} (h : Pull H p H') (k : J cx Q ops l e I (p :: H')) : J cx Q ops l e I H := J.perm h k
theorem Ej.pull {x : Exit} (h : Pull H p H') (k : Ej cx Q x e I (p :: H')) : Ej cx Q x e I H := Ej.perm h k
theorem OpJ.pull {o : Oper} {C : Ct} (h : Pull H p H') (k : OpJ cx Q o e I (p :: H') C) : OpJ cx Q o e I H C := OpJ.perm h k
theorem Ej.bare {x : Exit} (k : Ej cx Q x e I []) : Ej cx Q x e I H := Ej.keep (List.nil_sublist _) k
/-- A test on a slot that holds a bool. -/
theorem J.split {ops : Array Oper} {l : List Oper} (d : Nat) {b : Bool} (hv : eg e d = some (.bool b)) (h1 : b = true → J cx Q ops l e I H) (h0 : b = false → J cx Q ops l e I H) : J cx Q ops l e I H := by
  cases b
  · exact h0 rfl
  · exact h1 rfl
/-- An owned block of the call's own becomes persistent. -/
theorem Cj.persist {c : Code} {b : Nat} {o : Obj} (hb : cx.w0.heap.size ≤ b) (k : ∀ I', Le I I' → I' b = some o → Cj cx Q c e I' H) : Cj cx Q c e I ((b, o) :: H) :=
  fun a w ha hs => k _ (hput_le (hs.dis _ (.head _))) (hput_at b o I) a w ha (hs.persist hb)
theorem J.persist {ops : Array Oper} {l : List Oper} {b : Nat} {o : Obj} (hb : cx.w0.heap.size ≤ b) (k : ∀ I', Le I I' → I' b = some o → J cx Q ops l e I' H) : J cx Q ops l e I ((b, o) :: H) :=
  fun a w ha hs => k _ (hput_le (hs.dis _ (.head _))) (hput_at b o I) a w ha (hs.persist hb)
theorem Ej.persist {x : Exit} {b : Nat} {o : Obj} (hb : cx.w0.heap.size ≤ b) (k : ∀ I', Le I I' → I' b = some o → Ej cx Q x e I' H) : Ej cx Q x e I ((b, o) :: H) :=
  fun a w ha hs => k _ (hput_le (hs.dis _ (.head _))) (hput_at b o I) a w ha (hs.persist hb)
end

/-! ### A statement whose order is open -/
def sel : List Nat → HL → HL
  | [], _ => []
  | i :: r, H => match H[i]? with
    | some p => p :: sel r H
    | none => sel r H
def HSub : HL → HL → Prop
  | [], _ => True
  | p :: r, H => p ∈ H ∧ HSub r H
theorem HSub.mem : ∀ {A H : HL}, HSub A H → ∀ p ∈ A, p ∈ H
  | _ :: _, _, ⟨h, _⟩, _, .head _ => h
  | _ :: _, _, ⟨_, h⟩, _, .tail _ hp => HSub.mem h _ hp
theorem HSub.n {H : HL} : HSub [] H := trivial
theorem HSub.c {p : Nat × Obj} {r H : HL} (i : Nat) (h : H[i]? = some p) (t : HSub r H) : HSub (p :: r) H := ⟨List.mem_of_getElem? h, t⟩
/-- The cells Z are those of H's blocks. -/
def CSub : CL → HL → Prop
  | [], _ => True
  | c :: r, H => (∃ cs t fr, (c.1, Obj.cells (List.toArray cs) t fr) ∈ H ∧ cs[c.2.1]? = some c.2.2) ∧ CSub r H
theorem CSub.n {H : HL} : CSub [] H := trivial
theorem CSub.c {b off : Nat} {v : Value} {r : CL} {H : HL} {cs : List Value} {t : TypeId} {fr : Nat × Nat} (i : Nat) (h : H[i]? = some (b, .cells cs.toArray t fr)) (hv : cs[off]? = some v) (k : CSub r H) : CSub ((b, off, v) :: r) H :=
  ⟨⟨cs, t, fr, List.mem_of_getElem? h, hv⟩, k⟩
theorem CSub.cell : ∀ {Z : CL} {H : HL} {w : World}, CSub Z H → (∀ p ∈ H, w.heap[p.1]? = some p.2) → ∀ c ∈ Z, w.cell? ⟨c.1, c.2.1, none⟩ = some c.2.2
  | _ :: _, _, _, ⟨⟨_, _, _, h1, h2⟩, _⟩, hw, _, .head _ => cell_of_heap (hw _ h1) h2
  | _ :: _, _, _, ⟨_, h⟩, hw, _, .tail _ hc => CSub.cell h hw _ hc
/-- Operation j waits for i, straight or by way of others. -/
def waits (ops : Array Oper) (i : Nat) : Nat → Nat → Bool
  | 0, _ => false
  | f + 1, j => match ops[j]? with
    | none => false
    | some o => o.after.any (fun e => Region.binds .any e && (e.on == i || waits ops i f e.on))
def Closed (ops : Array Oper) (listed : Array Bool) : Prop := ∀ j o, ops[j]? = some o → listed.getD j false = true → ∀ e ∈ o.after, Region.binds .any e = true → listed.getD e.on false = true
def closedB (ops : Array Oper) (listed : Array Bool) : Bool := (List.range ops.size).all fun j => !(listed.getD j false) || (match ops[j]? with
  | none => true
  | some o => o.after.all fun e => !(Region.binds .any e) || listed.getD e.on false)
theorem Closed.of {ops : Array Oper} {listed : Array Bool} (h : closedB ops listed = true) : Closed ops listed := by
  intro j o ho hj e he hb
  have hlt : j < ops.size := (Array.getElem?_eq_some_iff.1 ho).1
  have h1 := List.all_eq_true.1 h j (List.mem_range.2 hlt)
  rw [hj, ho] at h1
  simp only [Bool.not_true, Bool.false_or] at h1
  have h2 := Array.all_eq_true'.1 h1 e he
  rw [hb] at h2
  simpa using h2
theorem Closed.set {ops : Array Oper} {listed : Array Bool} {j : Nat} {oj : Oper} (h : Closed ops listed) (hj : ops[j]? = some oj) (hall : ∀ e ∈ oj.after, Region.binds .any e = true → listed.getD e.on false = true) : Closed ops (listed.setIfInBounds j true) := by
  intro k o ho hk e he hb
  by_cases hjk : j = k
  · subst hjk
    rw [hj] at ho; cases ho
    exact getD_set_true (hall e he hb)
  · rw [getD_set_ne false hjk] at hk
    exact getD_set_true (h k o ho hk e he hb)
theorem waits_not {ops : Array Oper} {listed : Array Bool} {i : Nat} (hc : Closed ops listed) (hi : listed.getD i false = false) : ∀ (f j : Nat) (o : Oper), ops[j]? = some o → waits ops i f j = true → ∃ e ∈ o.after, Region.binds .any e = true ∧ listed.getD e.on false = false
  | 0, _, _, _, h => by cases h
  | f + 1, j, o, ho, h => by
    simp only [waits, ho] at h
    obtain ⟨e, he, hb⟩ := Array.any_eq_true'.1 h
    rw [Bool.and_eq_true, Bool.or_eq_true, beq_iff_eq] at hb
    refine ⟨e, he, hb.1, ?_⟩
    rcases hb.2 with h1 | h1
    · rw [h1]; exact hi
    · cases hl : listed.getD e.on false with
      | false => rfl
      | true =>
        cases ho2 : ops[e.on]? with
        | none => cases f <;> simp [waits, ho2] at h1
        | some o2 =>
          obtain ⟨e2, he2, hb2, hn⟩ := waits_not hc hi f e.on o2 ho2 h1
          rw [hc e.on o2 ho2 hl e2 he2 hb2] at hn; cases hn
/-- An operation that is not the last one z, and that z waits for (every one, where there is no z). -/
def zok (ops : Array Oper) (listed : Array Bool) (z i : Nat) : Bool := match ops[z]? with
  | none => true
  | some _ => closedB ops listed && (i != z && waits ops i ops.size z)
/-- Whatever order is picked; S holds behind every operation but the last one z. -/
def wpAnyZ (P : Program) (ops : Array Oper) (Q : Qt) (S : World → Prop) (z : Nat) : Nat → Array Bool → Act → World → Prop
  | 0, listed, a, w => Region.ready .any ops listed = [] ∧ Q .normal a w
  | fuel + 1, listed, a, w => (Region.ready .any ops listed = [] → Q .normal a w) ∧
    ∀ i ∈ Region.ready .any ops listed, wpOp P ops Q i (fun a' w' => (i ≠ z → S w') ∧ wpAnyZ P ops Q S z fuel (listed.setIfInBounds i true) a' w') a w
theorem wpAny_of_Z {P : Program} {ops : Array Oper} {Q : Qt} {S : World → Prop} {z : Nat} : ∀ (fuel : Nat) (listed : Array Bool) (a : Act) (w : World), wpAnyZ P ops Q S z fuel listed a w → wpAny P .any ops Q fuel listed a w
  | 0, _, _, _, h => h
  | fuel + 1, _, _, _, h => ⟨h.1, fun i hi => wpOp_mono (fun a' w' h' => wpAny_of_Z fuel _ a' w' h'.2) (h.2 i hi)⟩
theorem wait_unlisted {listed : Array Bool} {i : Nat} {oj : Oper} (hr : listed.getD i true = false) (hall : ∀ e ∈ oj.after, Region.binds .any e = true → listed.getD e.on false = true) : ∀ e ∈ oj.after, Region.binds .any e = true → e.on ≠ i := fun e he hb heq => by
  have h1 := hall e he hb
  rw [heq] at h1
  rcases Nat.lt_or_ge i listed.size with h' | h'
  · simp [h'] at hr h1; rw [hr] at h1; cases h1
  · simp [Array.getElem?_eq_none h'] at h1
theorem wpAnyZ_first {P : Program} {ops : Array Oper} {Q : Qt} {S : World → Prop} {z i : Nat} {oi : Oper} {v : Value} (hz : ∀ oz, ops[z]? = some oz → i ≠ z ∧ waits ops i ops.size z = true) (hi : ops[i]? = some oi) (hsel : ∀ (j : Nat) (o : Oper) cs b, ops[j]? = some o → o.op ≠ .select cs b)
    (hQ : ∀ c a w, Q (.panic c) (a.put oi.dst v) w → Q (.panic c) a w) : ∀ (fuel : Nat) (listed : Array Bool) (a : Act) (w : World),
      (∀ j oj, ops[j]? = some oj → j ≠ i → listed.getD j true = false → (∀ e ∈ oj.after, Region.binds .any e = true → e.on ≠ i) → oi.apart ops oj = true) →
      (∀ oz, ops[z]? = some oz → Closed ops listed) → i ∈ Region.ready .any ops listed → YieldsIf P ops S oi v a → S w →
      wpAnyZ P ops Q S z fuel (listed.setIfInBounds i true) (a.put oi.dst v) w → wpAnyZ P ops Q S z (fuel + 1) listed a w := by
  intro fuel
  induction fuel with
  | zero =>
    intro listed a w _ _ hr hy hS H
    refine ⟨fun h => (by rw [h] at hr; cases hr), fun j hj => ?_⟩
    by_cases hji : j = i
    · subst hji; exact hy.wpOp hi hS ⟨fun _ => hS, H⟩
    · have := ready_mono hj hji
      rw [H.1] at this
      cases this
  | succ fuel ih =>
    intro listed a w hfree hcl hr hy hS H
    refine ⟨fun h => (by rw [h] at hr; cases hr), fun j hj => ?_⟩
    by_cases hji : j = i
    · subst hji; exact hy.wpOp hi hS ⟨fun _ => hS, H⟩
    · have h1 := H.2 j (ready_mono hj hji)
      obtain ⟨hjun, oj, hoj, hall⟩ := mem_ready.1 hj
      have hnot := wait_unlisted (i := i) (mem_ready.1 hr).1 hall
      have hi0 : listed.getD i false = false := by
        have h0 := (mem_ready.1 hr).1
        rcases Nat.lt_or_ge i listed.size with h' | h'
        · simp [h'] at h0 ⊢; exact h0
        · simp [Array.getElem?_eq_none h']
      have hjz : j ≠ z := fun he => by
        subst he
        obtain ⟨e, he, hb, hn⟩ := waits_not (hcl oj hoj) hi0 _ j oj hoj (hz oj hoj).2
        rw [hall e he hb] at hn; cases hn
      have h2 := wpOp_putIf hoj (hfree j oj hoj hji hjun hnot) (fun cs b => hsel i oi cs b hi) (fun cs b => hsel j oj cs b hoj) hQ hy h1
      have hfree' : ∀ k ok, ops[k]? = some ok → k ≠ i → (listed.setIfInBounds j true).getD k true = false →
          (∀ e ∈ ok.after, Region.binds .any e = true → e.on ≠ i) → oi.apart ops ok = true := fun k ok hk hki hun hno => by
        refine hfree k ok hk hki ?_ hno
        by_cases hjk : j = k
        · subst hjk; exact hjun
        · rw [getD_set_ne true hjk] at hun; exact hun
      refine wpOp_mono (fun a' w' h3 => ⟨fun _ => h3.2.1 hjz, ih (listed.setIfInBounds j true) a' w' hfree' (fun oz hoz => (hcl oz hoz).set hoj hall) (ready_mono hr (Ne.symm hji)) h3.1 (h3.2.1 hjz) ?_⟩) h2
      rw [Array.setIfInBounds_comm _ _ hji]
      exact h3.2.2
theorem wpAnyZ_take {P : Program} {ops : Array Oper} {Q : Qt} {S : World → Prop} {z i : Nat} {oi : Oper} {v : Value} {fuel : Nat} {listed : Array Bool} {a : Act} {w : World} (hz : zok ops listed z i = true) (hi : ops[i]? = some oi)
    (hs : Region.noSelect ops = true) (hf : Region.free .any ops listed i = true) (hr : (Region.ready .any ops listed).contains i = true)
    (hQ : ∀ c a w, Q (.panic c) (a.put oi.dst v) w → Q (.panic c) a w) (hy : YieldsIf P ops S oi v a) (hS : S w)
    (h : wpAnyZ P ops Q S z fuel (listed.setIfInBounds i true) (a.put oi.dst v) w) : wpAnyZ P ops Q S z (fuel + 1) listed a w :=
  wpAnyZ_first (fun oz ho => by
    simp only [zok, ho, Bool.and_eq_true, bne_iff_ne] at hz
    exact hz.2) hi (Region.noSelect_spec hs) hQ fuel listed a w (Region.free_spec hi hf) (fun oz ho => by
    simp only [zok, ho, Bool.and_eq_true] at hz
    exact Closed.of hz.1) (by simpa using hr) hy hS h
theorem wpAnyZ_all {P : Program} {ops : Array Oper} {Q : Qt} {S : World → Prop} {z : Nat} {rs : List Nat} {fuel : Nat} {listed : Array Bool} {a : Act} {w : World} (hr : Region.ready .any ops listed = rs) (hne : rs ≠ [])
    (h : ∀ i ∈ rs, wpOp P ops Q i (fun a' w' => (i ≠ z → S w') ∧ wpAnyZ P ops Q S z fuel (listed.setIfInBounds i true) a' w') a w) : wpAnyZ P ops Q S z (fuel + 1) listed a w :=
  ⟨fun h0 => absurd (hr ▸ h0) hne, hr ▸ h⟩
theorem wpAnyZ_done {P : Program} {ops : Array Oper} {Q : Qt} {S : World → Prop} {z : Nat} {listed : Array Bool} {a : Act} {w : World} (hr : Region.ready .any ops listed = []) (h : Q .normal a w) : ∀ fuel, wpAnyZ P ops Q S z fuel listed a w
  | 0 => ⟨hr, h⟩
  | _ + 1 => ⟨fun _ => h, by rw [hr]; simp⟩
/-- What is asked of every world on the way: the persistent part and the blocks A of the region's beginning. -/
def JA (cx : Cx) (Q : Qt) (l : List Oper) (I1 : Heap) (A : HL) (Z : CL) (z : Nat) (fuel : Nat) (listed : Array Bool) (e : Env) (I : Heap) (H : HL) : Prop :=
  ∀ a w, Has a cx.n e cx.ds → St cx.w0 cx.D cx.I0 I H w → wpAnyZ cx.P l.toArray Q (SC I1 A Z) z fuel listed a w

section
variable {cx : Cx} {Q : Qt} {e : Env} {I I1 : Heap} {H A : HL} {Z : CL} {z : Nat} {l : List Oper}
theorem Cj.draw {id : Nat} (A : HL) (Z : CL) (z : Nat) (hm : cx.P.follows .mixedOrders = true) (h : JA cx Q l I A Z z l.toArray.size (Array.replicate l.toArray.size false) e I H) : Cj cx Q (.region id l.toArray true) e I H :=
  fun a _w ha hs => wp_region_any hm (wpAny_of_Z _ _ _ _ (h a _ ha hs.drew))
theorem Cj.drawSel {id : Nat} (is : List Nat) (Z : CL) (z : Nat) (hm : cx.P.follows .mixedOrders = true) (h : JA cx Q l I (sel is H) Z z l.toArray.size (Array.replicate l.toArray.size false) e I H) : Cj cx Q (.region id l.toArray true) e I H := Cj.draw _ _ z hm h
theorem JA.pull {H' : HL} {p : Nat × Obj} {fuel : Nat} {listed : Array Bool} (h : Pull H p H') (k : JA cx Q l I1 A Z z fuel listed e I (p :: H')) : JA cx Q l I1 A Z z fuel listed e I H := fun a w ha h1 => k a w ha (h1.perm h)
theorem JA.split {fuel : Nat} {listed : Array Bool} (d : Nat) {b : Bool} (hv : eg e d = some (.bool b)) (h1 : b = true → JA cx Q l I1 A Z z fuel listed e I H) (h0 : b = false → JA cx Q l I1 A Z z fuel listed e I H) : JA cx Q l I1 A Z z fuel listed e I H := by
  cases b
  · exact h0 rfl
  · exact h1 rfl
theorem JA.persist {fuel : Nat} {listed : Array Bool} {b : Nat} {o : Obj} (hb : cx.w0.heap.size ≤ b) (k : ∀ I', Le I I' → I' b = some o → JA cx Q l I1 A Z z fuel listed e I' H) : JA cx Q l I1 A Z z fuel listed e I ((b, o) :: H) :=
  fun a w ha hs => k _ (hput_le (hs.dis _ (.head _))) (hput_at b o I) a w ha (hs.persist hb)
theorem JA.done {fuel : Nat} {listed : Array Bool} (hr : Region.ready .any l.toArray listed = []) (h : Ej cx Q .normal e I H) : JA cx Q l I1 A Z z fuel listed e I H :=
  fun a w ha hs => wpAnyZ_done hr (h a w ha hs) fuel
def QP (Q : Qt) : Prop := ∀ c a d v w, Q (.panic c) (a.put d v) w → Q (.panic c) a w
theorem JA.take {fuel : Nat} {listed : Array Bool} (i : Nat) {o : Oper} {d : Nat} {v : Value} (hz : zok l.toArray listed z i = true) (hi : l.toArray[i]? = some o) (hs : Region.noSelect l.toArray = true) (hf : Region.free .any l.toArray listed i = true)
    (hr : (Region.ready .any l.toArray listed).contains i = true) (hq : ∀ c a w, Q (.panic c) (a.put (some d) v) w → Q (.panic c) a w) (hg : o.guard = none) (hd : o.dst = some d) (hn : Nat.blt d cx.n = true) (hA : HSub A H) (hZ : CSub Z H) (hle : Le I1 I)
    (hy : Yld cx o e (SC I1 A Z) v) (k : JA cx Q l I1 A Z z fuel (listed.setIfInBounds i true) ((d, v) :: e) I H) : JA cx Q l I1 A Z z (fuel + 1) listed e I H := by
  intro a w ha hst
  have hss : SC I1 A Z w := ⟨⟨fun b o h => hst.sub b o (hle b o h), fun p hp => hst.own p (hA.mem p hp)⟩, hZ.cell hst.own⟩
  refine wpAnyZ_take (oi := o) hz (v := v) hi hs hf hr (by rw [hd]; exact hq) (.inl ⟨by simp [Region.wanted, hg], fun w' hs' => hy a w' ha hs'⟩) hss ?_
  rw [hd]
  exact k _ _ (ha.put hn) hst
theorem JA.takeG {fuel : Nat} {listed : Array Bool} (i : Nat) {o : Oper} {d : Nat} {v : Value} (j dj : Nat) (want b : Bool) (hz : zok l.toArray listed z i = true) (hi : l.toArray[i]? = some o) (hs : Region.noSelect l.toArray = true) (hf : Region.free .any l.toArray listed i = true)
    (hr : (Region.ready .any l.toArray listed).contains i = true) (hq : ∀ c a w, Q (.panic c) (a.put (some d) v) w → Q (.panic c) a w) (hg : o.guard = some (j, want)) (hdj : (l.toArray[j]?).bind (·.dst) = some dj) (hv : eg e dj = some (.bool b)) (hb : b = want)
    (hd : o.dst = some d) (hn : Nat.blt d cx.n = true) (hA : HSub A H) (hZ : CSub Z H) (hle : Le I1 I)
    (hy : Yld cx o e (SC I1 A Z) v) (k : JA cx Q l I1 A Z z fuel (listed.setIfInBounds i true) ((d, v) :: e) I H) : JA cx Q l I1 A Z z (fuel + 1) listed e I H := by
  intro a w ha hst
  have hss : SC I1 A Z w := ⟨⟨fun b o h => hst.sub b o (hle b o h), fun p hp => hst.own p (hA.mem p hp)⟩, hZ.cell hst.own⟩
  refine wpAnyZ_take (oi := o) hz (v := v) hi hs hf hr (by rw [hd]; exact hq) (.inl ⟨by simp [Region.wanted, hg, yielded_of ha hdj hv, hb], fun w' hs' => hy a w' ha hs'⟩) hss ?_
  rw [hd]
  exact k _ _ (ha.put hn) hst
theorem JA.takeS {fuel : Nat} {listed : Array Bool} (i : Nat) {o : Oper} {d : Nat} (j dj : Nat) (want : Bool) (u : Value) (hz : zok l.toArray listed z i = true) (hi : l.toArray[i]? = some o) (hs : Region.noSelect l.toArray = true) (hf : Region.free .any l.toArray listed i = true)
    (hr : (Region.ready .any l.toArray listed).contains i = true) (hq : ∀ c a w, Q (.panic c) (a.put (some d) undef) w → Q (.panic c) a w) (hg : o.guard = some (j, want)) (hdj : (l.toArray[j]?).bind (·.dst) = some dj) (hv : eg e dj = some u)
    (hb : u = .bool (!want) ∨ u = undef) (hd : o.dst = some d) (hn : Nat.blt d cx.n = true) (hA : HSub A H) (hZ : CSub Z H) (hle : Le I1 I)
    (k : JA cx Q l I1 A Z z fuel (listed.setIfInBounds i true) ((d, undef) :: e) I H) : JA cx Q l I1 A Z z (fuel + 1) listed e I H := by
  intro a w ha hst
  have hss : SC I1 A Z w := ⟨⟨fun b o h => hst.sub b o (hle b o h), fun p hp => hst.own p (hA.mem p hp)⟩, hZ.cell hst.own⟩
  have hw : Region.wanted o (yielded l.toArray a.tmps) = false := by
    have hg2 := ha.get dj _ hv
    rcases hb with rfl | rfl
    · simp [Region.wanted, hg, yielded_of ha hdj hv]
    · have hy : yielded l.toArray a.tmps j = none := by simp only [yielded, hdj, Option.bind_some, hg2, undef]
      simp [Region.wanted, hg, hy]
  refine wpAnyZ_take (oi := o) hz (v := undef) hi hs hf hr (by rw [hd]; exact hq) (.inr ⟨hw, rfl⟩) hss ?_
  rw [hd]
  exact k _ _ (ha.put hn) hst
/-- One operation alone may come up; it is carried out. -/
theorem JA.step {fuel : Nat} {listed : Array Bool} (i : Nat) {o : Oper} (hr : Region.ready .any l.toArray listed = [i]) (hi : l.toArray[i]? = some o) (hg : o.guard = none)
    (k : OpJ cx Q o e I H (fun e' I' H' => (Le I1 I' ∧ HSub A H' ∧ CSub Z H') ∧ JA cx Q l I1 A Z z fuel (listed.setIfInBounds i true) e' I' H')) : JA cx Q l I1 A Z z (fuel + 1) listed e I H := by
  intro a w ha hst
  refine wpAnyZ_all hr (by simp) fun j hj => ?_
  obtain rfl : j = i := by simpa using hj
  unfold wpOp
  simp only [hi]
  rw [if_pos (by simp [Region.wanted, hg])]
  refine .inl (k _ (fun e' I' H' ⟨⟨hle, hA, hZ⟩, hj⟩ a' w' ha' hs' => ⟨fun _ => ⟨⟨fun b o h => hs'.sub b o (hle b o h), fun p hp => hs'.own p (hA.mem p hp)⟩, hZ.cell hs'.own⟩, hj a' w' ha' hs'⟩) a w ha hst)
/-- The last operation: nothing is asked behind it. -/
theorem JA.last {fuel : Nat} {listed : Array Bool} (i : Nat) {o : Oper} (hr : Region.ready .any l.toArray listed = [i]) (hz : i = z) (hi : l.toArray[i]? = some o) (hg : o.guard = none)
    (k : OpJ cx Q o e I H (fun e' I' H' => JA cx Q l I1 A Z z fuel (listed.setIfInBounds i true) e' I' H')) : JA cx Q l I1 A Z z (fuel + 1) listed e I H := by
  intro a w ha hst
  refine wpAnyZ_all hr (by simp) fun j hj => ?_
  obtain rfl : j = i := by simpa using hj
  unfold wpOp
  simp only [hi]
  rw [if_pos (by simp [Region.wanted, hg])]
  refine .inl (k _ (fun e' I' H' hj a' w' ha' hs' => ⟨fun h => absurd hz h, hj a' w' ha' hs'⟩) a w ha hst)
/-- One operation alone may come up, behind a guard that holds. -/
theorem JA.stepG {fuel : Nat} {listed : Array Bool} (i : Nat) {o : Oper} (j dj : Nat) (want b : Bool) (hr : Region.ready .any l.toArray listed = [i]) (hi : l.toArray[i]? = some o) (hg : o.guard = some (j, want))
    (hdj : (l.toArray[j]?).bind (·.dst) = some dj) (hv : eg e dj = some (.bool b)) (hb : b = want)
    (k : OpJ cx Q o e I H (fun e' I' H' => (Le I1 I' ∧ HSub A H' ∧ CSub Z H') ∧ JA cx Q l I1 A Z z fuel (listed.setIfInBounds i true) e' I' H')) : JA cx Q l I1 A Z z (fuel + 1) listed e I H := by
  intro a w ha hst
  refine wpAnyZ_all hr (by simp) fun j hj => ?_
  obtain rfl : j = i := by simpa using hj
  unfold wpOp
  simp only [hi]
  rw [if_pos (by simp [Region.wanted, hg, yielded_of ha hdj hv, hb])]
  refine .inl (k _ (fun e' I' H' ⟨⟨hle, hA, hZ⟩, hj⟩ a' w' ha' hs' => ⟨fun _ => ⟨⟨fun b o h => hs'.sub b o (hle b o h), fun p hp => hs'.own p (hA.mem p hp)⟩, hZ.cell hs'.own⟩, hj a' w' ha' hs'⟩) a w ha hst)
/-- Whichever of several comes up. -/
theorem JA.all {fuel : Nat} {listed : Array Bool} (rs : List Nat) (hr : Region.ready .any l.toArray listed = rs) (hne : rs ≠ [])
    (k : ∀ i ∈ rs, ∃ o, l.toArray[i]? = some o ∧ o.guard = none ∧ OpJ cx Q o e I H (fun e' I' H' => (Le I1 I' ∧ HSub A H' ∧ CSub Z H') ∧ JA cx Q l I1 A Z z fuel (listed.setIfInBounds i true) e' I' H')) : JA cx Q l I1 A Z z (fuel + 1) listed e I H := by
  intro a w ha hst
  refine wpAnyZ_all hr hne fun j hj => ?_
  obtain ⟨o, hi, hg, k⟩ := k j hj
  unfold wpOp
  simp only [hi]
  rw [if_pos (by simp [Region.wanted, hg])]
  refine .inl (k _ (fun e' I' H' ⟨⟨hle, hA, hZ⟩, hj⟩ a' w' ha' hs' => ⟨fun _ => ⟨⟨fun b o h => hs'.sub b o (hle b o h), fun p hp => hs'.own p (hA.mem p hp)⟩, hZ.cell hs'.own⟩, hj a' w' ha' hs'⟩) a w ha hst)
end
end Go.Sx
namespace Go.Sx
/-- The result is read out of a variable of the call's own, which is then dropped. -/
theorem Ej.retCellK {cx : Cx} {fn : Func} {post : Ending → Heap → HL → Prop} {e : Env} {I : Heap} {H H' : HL} {t T b n : Nat} {cs : List Value} {ty : TypeId} {fr : Nat × Nat} (hk : Keeps H' H) (hr : fn.results = #[.cell t T]) (hds : cx.ds = []) (hv : eg e t = some (ptr b 0))
    (hb : Blk (SS I H) b (.cells cs.toArray ty fr)) (ha0 : ∀ w, (isAgg T).run cx.P w = .ok true w) (hsz : ∀ w, (sizeOf T).run cx.P w = .ok n w) (hn : cs.length = n) (hp : post (.returned (.agg cs.toArray)) I H') :
    Ej cx (bodyPost cx.P fn (RR cx.w0 cx.D cx.I0 post)) .ret e I H := by
  intro a w ha hs
  refine ⟨ha.defs.trans hds, _, ?_, I, H', hs.sublist hk, hp⟩
  have h1 := ha.get t _ hv
  have hc : ∀ j v, cs[j]? = some v → w.cell? ((⟨b, 0, none⟩ : Addr).add j) = some v := fun j v hj => by
    rw [Addr.add_lit]; exact cell_of_heap (hb w hs.ss) (by simpa using hj)
  have h2 := run_loadCells_list (P := cx.P) (w := w) ⟨b, 0, none⟩ cs hc
  rw [hn] at h2
  simp [results, hr, h1, asAddr, loadVar, ha0, hsz, h2]
/-- Three results, of which the first is read out of a variable of the call's own. -/
theorem Ej.retCell3 {cx : Cx} {fn : Func} {post : Ending → Heap → HL → Prop} {e : Env} {I : Heap} {H H' : HL} {t t2 t3 T b n : Nat} {x y : Value} {cs : List Value} {ty : TypeId} {fr : Nat × Nat} (hk : Keeps H' H) (hr : fn.results = #[.cell t T, .tmp t2, .tmp t3]) (hds : cx.ds = []) (hv : eg e t = some (ptr b 0))
    (hb : Blk (SS I H) b (.cells cs.toArray ty fr)) (ha0 : ∀ w, (isAgg T).run cx.P w = .ok true w) (hsz : ∀ w, (sizeOf T).run cx.P w = .ok n w) (hn : cs.length = n) (hx : eg e t2 = some x) (hy : eg e t3 = some y) (hp : post (.returned (.tuple #[.agg cs.toArray, x, y])) I H') :
    Ej cx (bodyPost cx.P fn (RR cx.w0 cx.D cx.I0 post)) .ret e I H := by
  intro a w ha hs
  refine ⟨ha.defs.trans hds, _, ?_, I, H', hs.sublist hk, hp⟩
  have h1 := ha.get t _ hv
  have h3 := ha.get t2 _ hx
  have h4 := ha.get t3 _ hy
  have hc : ∀ j v, cs[j]? = some v → w.cell? ((⟨b, 0, none⟩ : Addr).add j) = some v := fun j v hj => by
    rw [Addr.add_lit]; exact cell_of_heap (hb w hs.ss) (by simpa using hj)
  have h2 := run_loadCells_list (P := cx.P) (w := w) ⟨b, 0, none⟩ cs hc
  rw [hn] at h2
  simp [results, hr, h1, h3, h4, asAddr, loadVar, ha0, hsz, h2]
/-- What a call has added to the persistent part may be forgotten. -/
theorem St.forget {w0 w : World} {D : List Nat} {I0 I : Heap} {H : HL} (h : St w0 D I0 I H w) : St w0 D I0 I0 H w :=
  ⟨h.os, h.tape, h.output, h.size, h.frm, fun b o hb => h.sub b o (h.le b o hb), h.own, h.nodup, fun p hp => (by
    cases hi : I0 p.1 with
    | none => rfl
    | some o => (have := h.dis p hp; rw [h.le _ _ hi] at this; cases this)), h.new, fun _ _ => rfl, Le.refl _⟩
theorem Ctr.forget {P : Program} {f : FuncId} {args : List Value} {I : Heap} {H : HL} {post post' : Ending → Heap → HL → Prop} (h : Ctr P f args I H post)
    (hp : ∀ e I' H', Le I I' → post e I' H' → post' e I H') : Ctr P f args I H post' :=
  ⟨h.1, fun w hw => (h.2 w hw).mono fun e _w' ⟨I', H', hs, hq⟩ => ⟨I, H', hs.forget, hp e I' H' hs.le hq⟩⟩
theorem Ctr.toPure {P : Program} {f : FuncId} {args : List Value} {I : Heap} {v : Value} (h : Ctr P f args I [] (fun e _ H' => e = .returned v ∧ H' = [])) : Pure P f args I v :=
  h.forget fun _ _ _ _ ⟨h1, h2⟩ => ⟨h1, rfl, h2⟩
end Go.Sx
