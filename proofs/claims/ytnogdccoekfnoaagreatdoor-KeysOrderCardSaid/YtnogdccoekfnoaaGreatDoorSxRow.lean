/-
  Slices of structs, as rows of cells; a result beside one that is read out of a variable. Own text; no program in sight. Conditions: none.
-/
import Derived.Test.YtnogdccoekfnoaaGreatDoorSxSort
namespace Go.Sx
open Go
theorem row_at {α : Type} {f : α → List Value} {n : Nat} (hf : ∀ x, (f x).length = n) {sp : List Value} : ∀ {l : List α} {k : Nat} {x : α}, l[k]? = some x → ((l.flatMap f ++ sp).drop (k * n)).take n = f x
  | [], _, _, h => by simp at h
  | y :: l, 0, x, h => by
    simp at h; subst h
    rw [Nat.zero_mul, List.drop_zero, List.flatMap_cons, List.append_assoc, ← hf y, List.take_left]
  | y :: l, k + 1, x, h => by
    have h' : l[k]? = some x := by simpa using h
    have := row_at hf (sp := sp) h'
    rw [List.flatMap_cons, List.append_assoc, show (k + 1) * n = (f y).length + k * n by rw [hf y, Nat.add_mul]; omega, ← List.drop_drop, List.drop_left]
    exact this
theorem row_cell {α : Type} {f : α → List Value} {n : Nat} (hf : ∀ x, (f x).length = n) {sp : List Value} {l : List α} {k : Nat} {x : α} (h : l[k]? = some x) (j : Nat) (hj : j < n) : (l.flatMap f ++ sp)[k * n + j]? = (f x)[j]? := by
  rw [← row_at hf (sp := sp) h, List.getElem?_take, if_pos hj, List.getElem?_drop]
theorem row_from {α : Type} {f : α → List Value} {n : Nat} (hf : ∀ x, (f x).length = n) {cs sp : List Value} {o : Nat} {l : List α} (h : cs.drop o = l.flatMap f ++ sp) {k : Nat} {x : α} (hx : l[k]? = some x) : (cs.drop (o + k * n)).take n = f x := by
  rw [← List.drop_drop, h]; exact row_at hf hx
theorem row_fcell {α : Type} {f : α → List Value} {n : Nat} (hf : ∀ x, (f x).length = n) {cs sp : List Value} {o : Nat} {l : List α} (h : cs.drop o = l.flatMap f ++ sp) {k : Nat} {x : α} (hx : l[k]? = some x) (j : Nat) (hj : j < n) : cs[o + k * n + j]? = (f x)[j]? := by
  rw [← row_cell hf (sp := sp) hx j hj, ← h, List.getElem?_drop, Nat.add_assoc]
/-- A slice of structs whose cells stand for good, or an empty one. -/
def RowS {α : Type} (f : α → List Value) (I : Heap) (l : List α) (v : Value) : Prop :=
  ∃ p c, v = .slice p l.length c ∧ l.length ≤ c ∧ (l ≠ [] → ∃ b o cs t fr sp, p = some ⟨b, o, none⟩ ∧ I b = some (.cells (List.toArray cs) t fr) ∧ cs.drop o = l.flatMap f ++ sp)
theorem RowS.mono {α : Type} {f : α → List Value} {I I' : Heap} {l : List α} {v : Value} (h : RowS f I l v) (hle : Le I I') : RowS f I' l v :=
  let ⟨p, c, h1, h2, h3⟩ := h; ⟨p, c, h1, h2, fun hn => let ⟨b, o, cs, t, fr, sp, h4, h5, h6⟩ := h3 hn; ⟨b, o, cs, t, fr, sp, h4, hle _ _ h5, h6⟩⟩
theorem RowS.of {α : Type} {f : α → List Value} {I : Heap} {l : List α} {T b c : Nat} {sp : List Value} (hc : l.length ≤ c) (hb : I b = some (cel T (l.flatMap f ++ sp))) : RowS f I l (.slice (some ⟨b, 0, none⟩) l.length c) :=
  ⟨_, c, rfl, hc, fun _ => ⟨b, 0, _, T, _, sp, rfl, hb, rfl⟩⟩
theorem RowS.nil {α : Type} {f : α → List Value} {I : Heap} : RowS f I ([] : List α) (.slice none 0 0) := ⟨none, 0, rfl, Nat.le_refl _, fun h => absurd rfl h⟩
theorem ne_nil_of {α : Type} {l : List α} {k : Nat} (h : k < l.length) : l ≠ [] := fun e => by rw [e] at h; simp at h
/-- What comes behind, shown once for all the ways that lead to it. -/
theorem Cj.join {cx : Cx} {Q : Qt} {x y : Code} {e : Env} {I : Heap} {H : HL} {ι : Type} (pre : ι → Prop) (env : ι → Env) (hp : ι → Heap) (hl : ι → HL) (k2 : ∀ i, pre i → Cj cx Q y (env i) (hp i) (hl i))
    (k1 : (∀ j e' I' H', pre j → Sub (env j) e' → hp j = I' → hl j = H' → Ej cx (Exit.then (y.wpIn cx.F 0 cx.P Q) Q) .normal e' I' H') → Cj cx (Exit.then (y.wpIn cx.F 0 cx.P Q) Q) x e I H) : Cj cx Q (.seq x y) e I H :=
  Cj.seq (k1 fun j e' I' H' hj hs hI hH => Ej.seq (by subst hI hH; exact Cj.weak hs (k2 j hj)))
/-- Two results, the second out of a variable of the call's own. -/
theorem Ej.retTC {cx : Cx} {fn : Func} {post : Ending → Heap → HL → Prop} {e : Env} {I : Heap} {H H' : HL} {t t2 T b n : Nat} {x : Value} {cs : List Value} {ty : TypeId} {fr : Nat × Nat} (hk : Keeps H' H) (hr : fn.results = #[.tmp t2, .cell t T]) (hds : cx.ds = []) (hv : eg e t = some (ptr b 0))
    (hb : Blk (SS I H) b (.cells cs.toArray ty fr)) (ha0 : ∀ w, (isAgg T).run cx.P w = .ok true w) (hsz : ∀ w, (sizeOf T).run cx.P w = .ok n w) (hn : cs.length = n) (hx : eg e t2 = some x) (hp : post (.returned (.tuple #[x, .agg cs.toArray])) I H') :
    Ej cx (bodyPost cx.P fn (RR cx.w0 cx.D cx.I0 post)) .ret e I H := by
  intro a w ha hs
  refine ⟨ha.defs.trans hds, _, ?_, I, H', hs.sublist hk, hp⟩
  have h1 := ha.get t _ hv
  have h3 := ha.get t2 _ hx
  have hc : ∀ j v, cs[j]? = some v → w.cell? ((⟨b, 0, none⟩ : Addr).add j) = some v := fun j v hj => by
    rw [Addr.add_lit]; exact cell_of_heap (hb w hs.ss) (by simpa using hj)
  have h2 := run_loadCells_list (P := cx.P) (w := w) ⟨b, 0, none⟩ cs hc
  rw [hn] at h2
  simp [results, hr, h1, h3, asAddr, loadVar, ha0, hsz, h2]
end Go.Sx
