/-
  Own texts on the laws of match, joined: the logic, and contracts of functions. Conditions: none.
-/
import Derived.Test.YtadnofaleepkmaaGreatDoorPA7
import Derived.Test.YtadnofaleepkmaaGreatDoorPA12
section
namespace Go.Proofs.YtadnofaleepkmaaGreatDoor
open Go.ChangeShapes Go.WideShapes Go.ChangeAt Go.RowKit Go.Sx Go.Lib Go.ChangeMaps Go.WideMaps
section
variable {H : Type} {enc : TypeId × Value → H} {W : World} {base : Nat}
theorem Arg.field {fs : Array Field} {cs : List Value} {ms : List Nat} (h : ∀ (i : Nat) f m', fs[i]? = some f → ms[i]? = some m' → Arg enc W f.type ((cs.drop f.offset).take (Tryz.prog.cellsOf f.type)) m') (i : Nat) {f : Field} {m t o k : Nat}
    (hf : fs[i]? = some f) (hm : ms[i]? = some m) (ht : f.type = t) (ho : f.offset = o) (hc : Tryz.prog.cellsOf t = k) : Arg enc W t ((cs.drop o).take k) m := by
  subst ht ho hc
  exact h i f m hf hm
theorem Arg.byte {t : TypeId} {cs : List Value} {m : Nat} (ht : Tryz.prog.underlying t = some (.int .u8)) (h : Arg enc W t cs m) : ∃ c : UInt8, cs = [u8 c] ∧ m = 1 := by
  obtain ⟨z, rfl, hw, rfl⟩ := h.int ht
  obtain ⟨c, rfl⟩ := u8_of hw
  exact ⟨c, rfl, rfl⟩
theorem list2 {α : Type} {l : List α} (h : l.length = 2) : ∃ a b, l = [a, b] := by
  match l, h with
  | [a, b], _ => exact ⟨a, b, rfl⟩
set_option maxRecDepth 100000 in
theorem Arg.sub {cs : List Value} {m : Nat} (h : Arg enc W 47 cs m) : ∃ s : Ke.Sub, cs = subC s ∧ s.text.length + 3 ≤ m := by
  obtain ⟨hl, ms, hml, hms, hf⟩ := h.struct Tryz.underlying47
  rw [show Tryz.prog.cellsOf 47 = 2 by kernel_rfl] at hl
  obtain ⟨a, b, rfl⟩ := list2 hl
  obtain ⟨m0, m1, rfl⟩ := list2 hml
  obtain ⟨c, hc, rfl⟩ := (Arg.field hf (o := 0) 0 rfl rfl rfl rfl (show Tryz.prog.cellsOf 5 = 1 by kernel_rfl)).byte Tryz.underlying5
  obtain ⟨s, hs, rfl⟩ := (Arg.field hf (o := 1) 1 rfl rfl rfl rfl (show Tryz.prog.cellsOf 9 = 1 by kernel_rfl)).str Tryz.underlying9
  simp only [List.drop_zero, List.drop_succ_cons, List.take_succ_cons, List.take_zero, List.cons.injEq, and_true] at hc hs
  subst hc hs
  simp only [List.sum_cons, List.sum_nil] at hms
  exact ⟨⟨c, s⟩, rfl, by dsimp only; omega⟩
theorem wf_in64 {n : Int} (h : (Lit.int .i64 n).wf = true) : In64 n := by
  have h1 : (decide (-9223372036854775808 ≤ n) && decide (n ≤ 9223372036854775807)) = true := h
  rw [Bool.and_eq_true, decide_eq_true_eq, decide_eq_true_eq] at h1
  exact h1
theorem wf_u16 {n : Int} (h : (Lit.int .u16 n).wf = true) : ∃ a : Nat, n = (a : Int) ∧ a < 65536 := by
  have h1 : (decide ((0 : Int) ≤ n) && decide (n ≤ 65535)) = true := h
  rw [Bool.and_eq_true, decide_eq_true_eq, decide_eq_true_eq] at h1
  exact ⟨n.toNat, by omega, by omega⟩
theorem Arg.elem {e k : Nat} {cs : List Value} {ms : List Nat} (h : ∀ (i m' : Nat), ms[i]? = some m' → Arg enc W e ((cs.drop (i * 1)).take 1) m') (he : Tryz.prog.underlying e = some (.int .i64)) (hml : ms.length = k) (i : Nat) (hi : i < k) : ∃ z : Int, cs[i]? = some (i64 z) ∧ In64 z := by
  have hm : ms[i]? = some (ms[i]'(by omega)) := List.getElem?_eq_getElem _
  obtain ⟨z, hz, hw, _⟩ := (h i _ hm).int he
  refine ⟨z, ?_, wf_in64 hw⟩
  have := congrArg (fun l => l[0]?) hz
  simpa [List.getElem?_drop] using this
theorem list_six {cs : List Value} (hl : cs.length = 6) (h : ∀ i, i < 6 → ∃ z : Int, cs[i]? = some (i64 z) ∧ In64 z) : ∃ q : Ke.Six, cs = sixC q ∧ SixOk q := by
  match cs, hl with
  | [a, b, c, d, e, f], _ =>
    obtain ⟨z0, e0, w0⟩ := h 0 (by decide)
    obtain ⟨z1, e1, w1⟩ := h 1 (by decide)
    obtain ⟨z2, e2, w2⟩ := h 2 (by decide)
    obtain ⟨z3, e3, w3⟩ := h 3 (by decide)
    obtain ⟨z4, e4, w4⟩ := h 4 (by decide)
    obtain ⟨z5, e5, w5⟩ := h 5 (by decide)
    cases e0; cases e1; cases e2; cases e3; cases e4; cases e5
    exact ⟨⟨z0, z1, z2, z3, z4, z5⟩, rfl, ⟨w0, w1, w2, w3, w4, w5⟩⟩
theorem list_two {cs : List Value} (hl : cs.length = 2) (h : ∀ i, i < 2 → ∃ z : Int, cs[i]? = some (i64 z) ∧ In64 z) : ∃ x : Int × Int, cs = twoC x ∧ In64 x.1 ∧ In64 x.2 := by
  match cs, hl with
  | [a, b], _ =>
    obtain ⟨z0, e0, w0⟩ := h 0 (by decide)
    obtain ⟨z1, e1, w1⟩ := h 1 (by decide)
    cases e0; cases e1
    exact ⟨(z0, z1), rfl, w0, w1⟩
theorem Arg.six {cs : List Value} {m : Nat} (h : Arg enc W 22 cs m) : ∃ q : Ke.Six, cs = sixC q ∧ SixOk q := by
  obtain ⟨hl, ms, hml, _, hf⟩ := h.array Tryz.underlying22
  rw [show Tryz.prog.cellsOf 22 = 6 by kernel_rfl] at hl
  rw [show Tryz.prog.cellsOf 3 = 1 by kernel_rfl] at hf
  exact list_six hl fun i hi => Arg.elem hf Tryz.underlying3 hml i hi
theorem Arg.two {cs : List Value} {m : Nat} (h : Arg enc W 56 cs m) : ∃ x : Int × Int, cs = twoC x ∧ In64 x.1 ∧ In64 x.2 := by
  obtain ⟨hl, ms, hml, _, hf⟩ := h.array Tryz.underlying56
  rw [show Tryz.prog.cellsOf 56 = 2 by kernel_rfl] at hl
  rw [show Tryz.prog.cellsOf 3 = 1 by kernel_rfl] at hf
  exact list_two hl fun i hi => Arg.elem hf Tryz.underlying3 hml i hi
set_option maxRecDepth 100000 in
theorem arg_six {v : Value} {d : DataW H} {p : List MemPlace} (hval : Value.okWide Tryz.prog W .any base 22 v) (h : DataW.Trod enc Tryz.prog W 0 (fun _ => true) true 22 v d p) (hlt : ∀ x ∈ p, x.block < W.heap.size) :
    ∃ q : Ke.Six, v = sixV q ∧ SixOk q ∧ Again enc W 22 v d p := by
  have hag := again (by kernel_rfl) (of_decide_eq_true (by kernel_rfl)) h hlt
  obtain ⟨xs, rfl, hx⟩ := okWide_arr ⟨Tryz.underlying22, (by kernel_rfl), (by kernel_rfl), (by kernel_rfl)⟩ hval
  obtain ⟨q, h1, h2⟩ := (Arg.of h).six
  have hxs : xs = (sixC q).toArray := by rw [← h1]; simp [Value.cells]
  subst hxs
  exact ⟨q, rfl, h2, hag⟩
set_option maxRecDepth 100000 in
theorem arg_sixs {v : Value} {d : DataW H} {p : List MemPlace} (hval : Value.okWide Tryz.prog W .any base 49 v) (h : DataW.Trod enc Tryz.prog W 0 (fun _ => true) true 49 v d p) (hlt : ∀ x ∈ p, x.block < W.heap.size) :
    ∃ qs : List Ke.Six, RowS sixC (HW W) qs v ∧ (∀ q ∈ qs, SixOk q) ∧ Again enc W 49 v d p := by
  have hag := again (by kernel_rfl) (of_decide_eq_true (by kernel_rfl)) h hlt
  obtain ⟨a, len, cap, rfl⟩ := okWide_slice Tryz.underlying49 hval
  obtain ⟨qs, v', h1, h2, _, _, h4⟩ := (Arg.of h).row (f := sixC) (size := fun _ => 0) Tryz.underlying49 (show Tryz.prog.cellsOf 22 = 6 by kernel_rfl) (by decide) SixOk fun cs m' _ h => by
    obtain ⟨q, h1, h2⟩ := h.six
    exact ⟨q, h1, Nat.zero_le _, h2⟩
  obtain rfl : Value.slice a len cap = v' := by simpa [Value.cells] using h1
  exact ⟨qs, h2, h4, hag⟩
set_option maxRecDepth 100000 in
theorem arg_twos {v : Value} {d : DataW H} {p : List MemPlace} (hval : Value.okWide Tryz.prog W .any base 53 v) (h : DataW.Trod enc Tryz.prog W 0 (fun _ => true) true 53 v d p) (hlt : ∀ x ∈ p, x.block < W.heap.size) :
    ∃ ps : List (Int × Int), RowS twoC (HW W) ps v ∧ (∀ x ∈ ps, In64 x.1 ∧ In64 x.2) ∧ Again enc W 53 v d p := by
  have hag := again (by kernel_rfl) (of_decide_eq_true (by kernel_rfl)) h hlt
  obtain ⟨a, len, cap, rfl⟩ := okWide_slice Tryz.underlying53 hval
  obtain ⟨qs, v', h1, h2, _, _, h4⟩ := (Arg.of h).row (f := twoC) (size := fun _ => 0) Tryz.underlying53 (show Tryz.prog.cellsOf 56 = 2 by kernel_rfl) (by decide) (fun x => In64 x.1 ∧ In64 x.2) fun cs m' _ h => by
    obtain ⟨q, h1, h2⟩ := h.two
    exact ⟨q, h1, Nat.zero_le _, h2⟩
  obtain rfl : Value.slice a len cap = v' := by simpa [Value.cells] using h1
  exact ⟨qs, h2, h4, hag⟩
end
end Go.Proofs.YtadnofaleepkmaaGreatDoor
end
