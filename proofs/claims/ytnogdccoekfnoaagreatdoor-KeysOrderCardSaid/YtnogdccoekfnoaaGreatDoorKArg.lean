/-
  Arguments of any depth as the rows read them: integers, texts, structs, arrays and slices, with what they weigh. Own text. Conditions: none.
-/
import Derived.Test.YtnogdccoekfnoaaGreatDoorKFrame
import Derived.Test.YtnogdccoekfnoaaGreatDoorSxRow
import Derived.Carry
namespace Go.Proofs.YtnogdccoekfnoaaGreatDoor
open Go.ChangeShapes Go.WideShapes Go.ChangeAt Go.RowKit Go.Sx Go.Lib Go.ChangeMaps Go.WideMaps
section
variable {H : Type} {enc : TypeId × Value → H} {W : World} {base : Nat}
/-- Cells that the rows read at a type, and what they weigh. -/
def Arg (enc : TypeId × Value → H) (W : World) (t : TypeId) (cs : List Value) (m : Nat) : Prop := ∃ n x, DataW.trod enc Tryz.prog W 0 (fun _ => true) true n t cs = some x ∧ Rows.uptoBulk x.1 = m
theorem Arg.of {t : TypeId} {v : Value} {d : DataW H} {p : List MemPlace} (h : DataW.Trod enc Tryz.prog W 0 (fun _ => true) true t v d p) : Arg enc W t v.cells.toList (Rows.uptoBulk d) := by
  obtain ⟨n, hn⟩ := h
  exact ⟨n, _, hn, rfl⟩
theorem laidOut : laidOutB Tryz.prog = true := by kernel_rfl
theorem again {t : TypeId} {v : Value} {d : DataW H} {p : List MemPlace} (hr : Tryz.prog.readableRec t = true) (hrow : t < Tryz.prog.types.size) (h : DataW.Trod enc Tryz.prog W 0 (fun _ => true) true t v d p) (hlt : ∀ x ∈ p, x.block < W.heap.size) : Again enc W t v d p :=
  fun _ hB _ hsp => WideElems.Trod_stays laidOut hr hrow h (fun _ hx => hB.same (hlt _ hx)) hsp
theorem mapM_some {α β : Type} {g : α → Option β} : ∀ {l : List α} {ys : List β}, l.mapM g = some ys → ys.length = l.length ∧ ∀ (i : Nat) x, l[i]? = some x → ∃ y, ys[i]? = some y ∧ g x = some y
  | [], ys, h => by simp at h; subst h; exact ⟨rfl, fun i x hx => by simp at hx⟩
  | a :: l, ys, h => by
    rw [List.mapM_cons] at h
    cases ha : g a with
    | none => simp [ha] at h
    | some y =>
      cases hl : l.mapM g with
      | none => simp [ha, hl] at h
      | some zs =>
        simp [ha, hl] at h
        subst h
        obtain ⟨h1, h2⟩ := mapM_some hl
        refine ⟨by simp [h1], fun i x hx => ?_⟩
        cases i with
        | zero => simp at hx; subst hx; exact ⟨y, rfl, ha⟩
        | succ i => exact h2 i x (by simpa using hx)
theorem bulk_sum : ∀ (l : List (DataW H)), Rows.uptoBulkAll l = (l.map Rows.uptoBulk).sum
  | [] => rfl
  | d :: r => by simp only [Rows.uptoBulkAll, List.map_cons, List.sum_cons, bulk_sum r]
theorem Arg.step {t : TypeId} {cs : List Value} {m : Nat} (h : Arg enc W t cs m) : ∃ n x, DataW.trodStep enc Tryz.prog W 0 (fun _ => true) true (DataW.trod enc Tryz.prog W 0 (fun _ => true) true n) t cs = some x ∧ Rows.uptoBulk x.1 = m := by
  obtain ⟨n, x, h, hm⟩ := h
  cases n with
  | zero => simp [DataW.trod] at h
  | succ n => exact ⟨n, x, (DataW.trod_step enc Tryz.prog W 0 (fun _ => true) true n t cs).symm.trans h, hm⟩
set_option maxRecDepth 100000 in
theorem Arg.int {t : TypeId} {k : IntKind} {cs : List Value} {m : Nat} (ht : Tryz.prog.underlying t = some (.int k)) (h : Arg enc W t cs m) : ∃ z, cs = [.int k z] ∧ (Lit.int k z).wf = true ∧ m = 1 := by
  obtain ⟨n, x, h, hm⟩ := h
  obtain ⟨z, rfl, rfl, hw⟩ := DataW.trod_int ht h
  simp only [Rows.uptoBulk] at hm
  exact ⟨z, rfl, hw, hm.symm⟩
theorem Arg.str {t : TypeId} {cs : List Value} {m : Nat} (ht : Tryz.prog.underlying t = some .string) (h : Arg enc W t cs m) : ∃ s : List UInt8, cs = [Sx.str s] ∧ m = s.length + 1 := by
  obtain ⟨n, x, h, hm⟩ := h
  obtain ⟨s, rfl, rfl, _⟩ := DataW.trod_string ht h
  simp only [Rows.uptoBulk] at hm
  exact ⟨s.data.toList, by cases s; simp [Sx.str], hm.symm⟩
theorem Arg.bool {t : TypeId} {cs : List Value} {m : Nat} (ht : Tryz.prog.underlying t = some .bool) (h : Arg enc W t cs m) : ∃ b : Bool, cs = [.bool b] := by
  obtain ⟨n, x, h, hm⟩ := h.step
  unfold DataW.trodStep at h
  rw [ht] at h
  split at h <;> simp_all
theorem Arg.struct {t : TypeId} {fs : Array Field} {cs : List Value} {m : Nat} (ht : Tryz.prog.underlying t = some (.struct fs)) (h : Arg enc W t cs m) :
    cs.length = Tryz.prog.cellsOf t ∧ ∃ ms : List Nat, ms.length = fs.size ∧ ms.sum + 1 = m ∧ ∀ (i : Nat) f m', fs[i]? = some f → ms[i]? = some m' → Arg enc W f.type ((cs.drop f.offset).take (Tryz.prog.cellsOf f.type)) m' := by
  obtain ⟨n, x, h, hm⟩ := h.step
  unfold DataW.trodStep at h
  simp only [ht] at h
  split at h
  · rename_i hl
    refine ⟨hl, ?_⟩
    simp only [Option.map_eq_some_iff] at h
    obtain ⟨xs, hx, rfl⟩ := h
    obtain ⟨h1, h2⟩ := mapM_some hx
    refine ⟨xs.map fun y => Rows.uptoBulk y.1, by simp [h1], ?_, fun i f m' hf hm' => ?_⟩
    · rw [← hm]; simp only [Rows.uptoBulk, bulk_sum, List.map_map]; rfl
    · obtain ⟨y, hy, hg⟩ := h2 i f (by simpa using hf)
      rw [List.getElem?_map, hy] at hm'
      simp only [Option.map_some, Option.some.injEq] at hm'
      exact ⟨n, y, hg, hm'⟩
  · cases h
theorem Arg.array {t e k : Nat} {cs : List Value} {m : Nat} (ht : Tryz.prog.underlying t = some (.array k e)) (h : Arg enc W t cs m) :
    cs.length = Tryz.prog.cellsOf t ∧ ∃ ms : List Nat, ms.length = k ∧ ms.sum + 1 = m ∧ ∀ (i m' : Nat), ms[i]? = some m' → Arg enc W e ((cs.drop (i * Tryz.prog.cellsOf e)).take (Tryz.prog.cellsOf e)) m' := by
  obtain ⟨n, x, h, hm⟩ := h.step
  unfold DataW.trodStep at h
  simp only [ht] at h
  split at h
  · rename_i hl
    refine ⟨hl, ?_⟩
    simp only [Option.map_eq_some_iff] at h
    obtain ⟨xs, hx, rfl⟩ := h
    obtain ⟨h1, h2⟩ := mapM_some hx
    rw [List.length_range] at h1
    refine ⟨xs.map fun y => Rows.uptoBulk y.1, by simp [h1], ?_, fun i m' hm' => ?_⟩
    · rw [← hm]; simp only [Rows.uptoBulk, bulk_sum, List.map_map]; rfl
    · have hi : i < k := by
        have := (List.getElem?_eq_some_iff.1 hm').1
        simpa [h1] using this
      obtain ⟨y, hy, hg⟩ := h2 i i (List.getElem?_range hi)
      rw [List.getElem?_map, hy] at hm'
      simp only [Option.map_some, Option.some.injEq] at hm'
      exact ⟨n, y, hg, hm'⟩
  · cases h
theorem cells_at {a : Addr} {n : Nat} {cs : List Value} (h : W.cells? 0 a n = some cs) : cs.length = n ∧ ∀ i, i < n → W.cell? (a.add i) = cs[i]? := by
  unfold World.cells? at h
  rw [if_pos (Nat.zero_le _)] at h
  obtain ⟨h1, h2⟩ := mapM_some h
  rw [List.length_range] at h1
  refine ⟨h1, fun i hi => ?_⟩
  obtain ⟨y, hy, hg⟩ := h2 i i (List.getElem?_range hi)
  rw [hg, hy]
theorem sum_take_le (l : List Nat) (k : Nat) : (l.take k).sum ≤ l.sum := by
  have := List.sum_append (l₁ := l.take k) (l₂ := l.drop k)
  rw [List.take_append_drop] at this; omega
/-- A slice: none of it, or a row of cells in a block. -/
theorem Arg.slice {t e sz : Nat} {cs : List Value} {m : Nat} (ht : Tryz.prog.underlying t = some (.slice e)) (hsz : Tryz.prog.cellsOf e = sz) (hpos : 0 < sz) (h : Arg enc W t cs m) :
    ∃ (p : Option Addr) (len cap : Nat) (ms : List Nat), cs = [.slice p len cap] ∧ len ≤ cap ∧ cap ≤ maxLen ∧ ms.length = len ∧ ms.sum + 1 ≤ m ∧ (0 < len → ∃ b o cells T fr, p = some ⟨b, o, none⟩ ∧ HW W b = some (.cells (List.toArray cells) T fr) ∧
      ∀ (i m' : Nat), ms[i]? = some m' → ((cells.drop (o + i * sz)).take sz).length = sz ∧ Arg enc W e ((cells.drop (o + i * sz)).take sz) m') := by
  obtain ⟨n, x, g, hm⟩ := h.step
  clear h
  unfold DataW.trodStep at g
  simp only [ht] at g
  split at g <;> first | (exfalso; simp_all; done) | skip
  · simp only [Option.some.injEq] at g
    subst g
    exact ⟨none, 0, 0, [], rfl, Nat.le_refl _, Nat.zero_le _, rfl, by rw [← hm]; simp [Rows.uptoBulk], fun h => absurd h (by decide)⟩
  · rename_i a len cap he
    cases he
    split at g
    · rename_i hl
      simp only [if_true, Option.bind_eq_some_iff, Option.map_eq_some_iff] at g
      obtain ⟨elems, hel, rest, hre, rfl⟩ := g
      obtain ⟨h1, h2⟩ := mapM_some hel
      rw [List.length_range] at h1
      refine ⟨some a, len, cap, elems.map fun y => Rows.uptoBulk y.1, rfl, hl.2.1, hl.2.2, by simp [h1], ?_, fun h0 => ?_⟩
      · rw [← hm]; simp only [Rows.uptoBulk, bulk_sum, List.map_map]; have : (elems.map fun y => Rows.uptoBulk y.1).sum = (elems.map (Rows.uptoBulk ∘ fun x => x.1)).sum := rfl
        omega
      · have elem : ∀ i, i < len → ∃ (cs : List Value) (y : DataW H × List MemPlace), W.cells? 0 (a.add (i * sz)) sz = some cs ∧ elems[i]? = some y ∧ DataW.trod enc Tryz.prog W 0 (fun _ => true) true n e cs = some y := fun i hi => by
          obtain ⟨y, hy, hg⟩ := h2 i i (List.getElem?_range hi)
          simp only [Option.bind_eq_some_iff] at hg
          obtain ⟨cs, hc, hg⟩ := hg
          rw [hsz] at hc
          exact ⟨cs, y, hc, hy, hg⟩
        obtain ⟨cs0, y0, hc0, _, _⟩ := elem 0 h0
        obtain ⟨hl0, hc0⟩ := cells_at hc0
        have hcell0 := hc0 0 hpos
        rw [List.getElem?_eq_getElem (by omega)] at hcell0
        rw [Nat.zero_mul] at hcell0
        have ha : a.add 0 = a := by simp [Addr.add]
        rw [ha, ha] at hcell0
        obtain ⟨blk, off, spot⟩ := a
        cases spot with
        | some sp => obtain ⟨_, _, _, _, hs⟩ := World.shape?_of_cell? hcell0; cases hs
        | none =>
          have h' := hcell0
          unfold World.cell? at h'
          cases hb : W.heap[blk]? with
          | none => simp only [hb] at h'; cases h'
          | some o =>
            cases o with
            | cells cells T fr =>
              refine ⟨blk, off, cells.toList, T, fr, rfl, by show W.heap[blk]? = _; rw [hb], fun i m' hm' => ?_⟩
              have hi : i < len := by
                have := (List.getElem?_eq_some_iff.1 hm').1
                simpa [h1] using this
              obtain ⟨cs, y, hc, hy, hg⟩ := elem i hi
              obtain ⟨hl1, hc1⟩ := cells_at hc
              have hcs : (cells.toList.drop (off + i * sz)).take sz = cs := by
                apply List.ext_getElem?
                intro j
                rcases Nat.lt_or_ge j sz with hj | hj
                · have h3 := hc1 j hj
                  rw [Addr.add_lit, Addr.add_lit] at h3
                  unfold World.cell? at h3
                  simp only [hb] at h3
                  rw [List.getElem?_take, if_pos hj, List.getElem?_drop, ← h3]
                  simp
                · rw [List.getElem?_take, if_neg (by omega), List.getElem?_eq_none (by omega)]
              rw [hcs]
              rw [List.getElem?_map, hy] at hm'
              simp only [Option.map_some, Option.some.injEq] at hm'
              exact ⟨hl1, n, y, hg, hm'⟩
            | _ => simp only [hb] at h'; cases h'
    · cases g
/-- A slice whose elements are told by a function. -/
theorem Arg.row {α : Type} {f : α → List Value} {size : α → Nat} {t e sz : Nat} {cs : List Value} {m : Nat} (ht : Tryz.prog.underlying t = some (.slice e)) (hsz : Tryz.prog.cellsOf e = sz) (hpos : 0 < sz) (Q : α → Prop)
    (he : ∀ (cs : List Value) (m' : Nat), m' ≤ m → Arg enc W e cs m' → ∃ x : α, cs = f x ∧ size x ≤ m' ∧ Q x) (h : Arg enc W t cs m) :
    ∃ (l : List α) (v : Value), cs = [v] ∧ RowS f (HW W) l v ∧ (l.map size).sum + 1 ≤ m ∧ l.length ≤ maxLen ∧ ∀ x ∈ l, Q x := by
  obtain ⟨p, len, cap, ms, rfl, hlc, hcm, hml, hms, hb⟩ := h.slice ht hsz hpos
  rcases Nat.eq_zero_or_pos len with h0 | h0
  · subst h0
    exact ⟨[], _, rfl, ⟨p, cap, rfl, hlc, fun h => absurd rfl h⟩, by simp; omega, Nat.zero_le _, fun x hx => by cases hx⟩
  · obtain ⟨b, o, cells, T, fr, rfl, hblk, hel⟩ := hb h0
    have key : ∀ (ms : List Nat) (o : Nat), ms.sum + 1 ≤ m → (∀ (i m' : Nat), ms[i]? = some m' → ((cells.drop (o + i * sz)).take sz).length = sz ∧ Arg enc W e ((cells.drop (o + i * sz)).take sz) m') →
        ∃ (l : List α) (sp : List Value), l.length = ms.length ∧ cells.drop o = l.flatMap f ++ sp ∧ (l.map size).sum ≤ ms.sum ∧ ∀ x ∈ l, Q x := by
      intro ms
      induction ms with
      | nil => exact fun o _ _ => ⟨[], cells.drop o, rfl, rfl, Nat.le_refl _, fun x hx => by cases hx⟩
      | cons a r ih =>
        intro o hs hel
        rw [List.sum_cons] at hs
        have h0 := hel 0 a rfl
        rw [Nat.zero_mul, Nat.add_zero] at h0
        obtain ⟨x, hx, hsx, hq⟩ := he _ a (by omega) h0.2
        obtain ⟨l, sp, h1, h2, h3, h4⟩ := ih (o + sz) (by omega) fun i m' hi => by
          have := hel (i + 1) m' (by simpa using hi)
          rw [show o + (i + 1) * sz = o + sz + i * sz by rw [Nat.add_mul]; omega] at this
          exact this
        refine ⟨x :: l, sp, by simp [h1], ?_, by simp only [List.map_cons, List.sum_cons]; omega, fun y hy => ?_⟩
        · rw [List.flatMap_cons, List.append_assoc, ← h2, ← hx, ← List.drop_drop]
          exact (List.take_append_drop sz (cells.drop o)).symm
        · rcases List.mem_cons.1 hy with rfl | hy
          · exact hq
          · exact h4 y hy
    obtain ⟨l, sp, h1, h2, h3, h4⟩ := key ms o hms hel
    have hll : l.length = len := h1.trans hml
    subst hll
    exact ⟨l, _, rfl, ⟨_, cap, rfl, hlc, fun _ => ⟨b, o, cells, T, fr, sp, rfl, hblk, h2⟩⟩, by omega, by omega, h4⟩
theorem sum_ones {α : Type} {f : α → Nat} : ∀ {l : List α}, (∀ x, 1 ≤ f x) → l.length ≤ (l.map f).sum
  | [], _ => Nat.zero_le _
  | a :: r, h => by
    have := sum_ones (l := r) h
    have := h a
    simp only [List.length_cons, List.map_cons, List.sum_cons]; omega
theorem sum_mem {α : Type} {f : α → Nat} : ∀ {l : List α} {x : α}, x ∈ l → f x ≤ (l.map f).sum
  | a :: r, x, h => by
    rw [List.map_cons, List.sum_cons]
    rcases List.mem_cons.1 h with rfl | h
    · omega
    · have := sum_mem (f := f) h; omega
/-- A slice of integers. -/
theorem Arg.ints {t e : Nat} {cs : List Value} {m : Nat} (ht : Tryz.prog.underlying t = some (.slice e)) (he : Tryz.prog.underlying e = some (.int .i64)) (hsz : Tryz.prog.cellsOf e = 1) (h : Arg enc W t cs m) :
    ∃ (l : List Int) (v : Value), cs = [v] ∧ RowS (fun n : Int => [i64 n]) (HW W) l v ∧ l.length + 1 ≤ m := by
  obtain ⟨l, v, h1, h2, h3, _, _⟩ := h.row (f := fun n : Int => [i64 n]) (size := fun _ => 1) ht hsz (by decide) (fun _ => True) fun cs m' _ h => by
    obtain ⟨z, rfl, _, rfl⟩ := h.int he
    exact ⟨z, rfl, Nat.le_refl _, trivial⟩
  have := sum_ones (f := fun _ : Int => 1) (l := l) fun _ => Nat.le_refl _
  exact ⟨l, v, h1, h2, by omega⟩
set_option maxRecDepth 100000 in
theorem arg_i64 {t : TypeId} {v : Value} {d : DataW H} {p : List MemPlace} (ht : Tryz.prog.underlying t = some (.int .i64)) (hval : Value.okWide Tryz.prog W .any base t v) (h : DataW.Trod enc Tryz.prog W 0 (fun _ => true) true t v d p) :
    ∃ n : Int, v = i64 n ∧ (Lit.int .i64 n).wf = true ∧ Again enc W t v d p := by
  obtain ⟨n, rfl, rfl, rfl, hw⟩ := open_int ht hval h
  exact ⟨n, rfl, hw, fun W' _ sp _ => shut_int ht hw⟩
set_option maxRecDepth 100000 in
theorem arg_int {k : IntKind} {t : TypeId} {v : Value} {d : DataW H} {p : List MemPlace} (ht : Tryz.prog.underlying t = some (.int k)) (hval : Value.okWide Tryz.prog W .any base t v) (h : DataW.Trod enc Tryz.prog W 0 (fun _ => true) true t v d p) :
    ∃ n : Int, v = .int k n ∧ (Lit.int k n).wf = true ∧ Again enc W t v d p := by
  obtain ⟨n, rfl, rfl, rfl, hw⟩ := open_int ht hval h
  exact ⟨n, rfl, hw, fun W' _ sp _ => shut_int ht hw⟩
set_option maxRecDepth 100000 in
theorem arg_ints {t e : TypeId} {v : Value} {d : DataW H} {p : List MemPlace} (ht : Tryz.prog.underlying t = some (.slice e)) (he : Tryz.prog.underlying e = some (.int .i64)) (hsz : Tryz.prog.cellsOf e = 1) (hr : Tryz.prog.readableRec t = true) (hrow : t < Tryz.prog.types.size)
    (hval : Value.okWide Tryz.prog W .any base t v) (h : DataW.Trod enc Tryz.prog W 0 (fun _ => true) true t v d p) (hlt : ∀ x ∈ p, x.block < W.heap.size) :
    ∃ l : List Int, RowS (fun n : Int => [i64 n]) (HW W) l v ∧ l.length + 1 ≤ Rows.uptoBulk d ∧ Again enc W t v d p := by
  obtain ⟨a, len, cap, rfl⟩ := okWide_slice ht hval
  obtain ⟨l, v', h1, h2, h3⟩ := (Arg.of h).ints ht he hsz
  obtain rfl : Value.slice a len cap = v' := by simpa [Value.cells] using h1
  exact ⟨l, h2, h3, again hr hrow h hlt⟩
end
end Go.Proofs.YtnogdccoekfnoaaGreatDoor
