/-
  Arguments of the law CqlPrints, as the rows read them: two pairs of numbers; a number with three texts. Own text. Conditions: none.
-/
import Derived.Test.YtlfpehljahgbkaaGreatDoorCqArgs
import Derived.Test.YtlfpehljahgbkaaGreatDoorCqSp
import Derived.Lib.SmallJoins
namespace Go.Proofs.YtlfpehljahgbkaaGreatDoor
open Go.ChangeShapes Go.WideShapes Go.ChangeAt Go.RowKit Go.Sx Go.Lib Go.ChangeMaps
section
variable {H : Type} {enc : TypeId × Value → H} {W : World} {base : Nat}
theorem trod_array2 {P : Program} {w : World} {spare : Nat → Bool} {held : Bool} {t e sz : Nat} {fuel : Nat} {cs : List Value} {x : DataW H × List MemPlace} (ht : P.underlying t = some (.array 2 e)) (hce : P.cellsOf e = sz)
    (h : DataW.trod enc P w base spare held fuel t cs = some x) :
    ∃ y0 y1 n, x = (.agg [y0.1, y1.1], y0.2 ++ y1.2) ∧ DataW.trod enc P w base spare held n e (cs.take sz) = some y0 ∧ DataW.trod enc P w base spare held n e ((cs.drop sz).take sz) = some y1 := by
  cases fuel with
  | zero => simp [DataW.trod] at h
  | succ n =>
    unfold DataW.trod at h
    rw [ht] at h
    have r2 : List.range 2 = [0, 1] := rfl
    simp [r2, hce] at h
    obtain ⟨_, h⟩ := h
    cases h0 : DataW.trod enc P w base spare held n e (cs.take sz) with
    | none => simp [h0] at h
    | some y0 =>
      cases h1 : DataW.trod enc P w base spare held n e ((cs.drop sz).take sz) with
      | none => simp [h0, h1] at h
      | some y1 =>
        simp [h0, h1] at h
        exact ⟨y0, y1, n, h.symm, h0, h1⟩
theorem arr4 {α : Type} {cs : Array α} (h : cs.size = 4) : ∃ c0 c1 c2 c3, cs = #[c0, c1, c2, c3] := by
  obtain ⟨l⟩ := cs
  match l, h with
  | [c0, c1, c2, c3], _ => exact ⟨c0, c1, c2, c3, rfl⟩
theorem i64_of {n : Int} (h : (Lit.int .i64 n).wf = true) : Rng n := by
  simp [Lit.wf, IntKind.min, IntKind.max, IntKind.signed, IntKind.bits] at h
  unfold Rng; omega
set_option maxRecDepth 100000 in
theorem arg_pairs {t a e : TypeId} {v : Value} {d : DataW H} {p : List MemPlace} (ht : Tryz.prog.underlying t = some (.array 2 a)) (ha : Tryz.prog.underlying a = some (.array 2 e)) (he : Tryz.prog.underlying e = some (.int .i64))
    (hce : Tryz.prog.cellsOf e = 1) (hca : Tryz.prog.cellsOf a = 2) (hct : Tryz.prog.cellsOf t = 4) (hval : Value.okWide Tryz.prog W .any base t v) (h : DataW.Trod enc Tryz.prog W 0 (fun _ => true) true t v d p) :
    ∃ a b c f : Int, v = .agg #[i64 a, i64 b, i64 c, i64 f] ∧ d = .agg [.agg [.lit (.int .i64 a), .lit (.int .i64 b)], .agg [.lit (.int .i64 c), .lit (.int .i64 f)]] ∧ p = [] ∧ Rng a ∧ Rng b ∧ Rng c ∧ Rng f ∧ Again enc W t v d p := by
  obtain ⟨xs, rfl, hx⟩ : ∃ xs : Array Value, v = .agg xs ∧ xs.size = 4 := by
    simp only [Value.okWide, ht] at hval
    obtain ⟨cs, h1, h2, _⟩ := hval
    exact ⟨cs, h1, by rw [h2, hct]⟩
  obtain ⟨fu, hf⟩ := h
  obtain ⟨c0, c1, c2, c3, rfl⟩ := arr4 hx
  obtain ⟨y0, y1, n, hxe, h0, h1⟩ := trod_array2 ht hca hf
  obtain ⟨z0, z1, n0, e0, g0, g1⟩ := trod_array2 ha hce h0
  obtain ⟨z2, z3, n1, e1, g2, g3⟩ := trod_array2 ha hce h1
  simp only [Value.cells, List.take_succ_cons, List.take_zero, List.drop_succ_cons, List.drop_zero] at g0 g1 g2 g3
  obtain ⟨a, a0, rfl, w0⟩ := DataW.trod_int he g0
  obtain ⟨b, b0, rfl, w1⟩ := DataW.trod_int he g1
  obtain ⟨c, d0, rfl, w2⟩ := DataW.trod_int he g2
  obtain ⟨f, f0, rfl, w3⟩ := DataW.trod_int he g3
  simp only [List.cons.injEq, and_true] at a0 b0 d0 f0
  subst a0 b0 d0 f0 e0 e1
  simp only [List.append_nil, Prod.mk.injEq] at hxe
  obtain ⟨rfl, rfl⟩ := hxe
  refine ⟨a, b, c, f, rfl, rfl, rfl, i64_of w0, i64_of w1, i64_of w2, i64_of w3, fun W' _ sp _ => ⟨3, ?_⟩⟩
  have r2 : List.range 2 = [0, 1] := rfl
  simp [DataW.trod, Value.cells, ht, ha, he, hce, hca, hct, r2, w0, w1, w2, w3]
set_option maxRecDepth 100000 in
theorem arg_plain {t i s : TypeId} {v : Value} {d : DataW H} {p : List MemPlace} {f0 f1 f2 f3 : Field} (ht : Tryz.prog.underlying t = some (.struct #[f0, f1, f2, f3])) (e0 : f0.type = i ∧ f0.offset = 0) (e1 : f1.type = s ∧ f1.offset = 1) (e2 : f2.type = s ∧ f2.offset = 2) (e3 : f3.type = s ∧ f3.offset = 3)
    (hi : Tryz.prog.underlying i = some (.int .i64)) (hs : Tryz.prog.underlying s = some .string) (hci : Tryz.prog.cellsOf i = 1) (hcs : Tryz.prog.cellsOf s = 1) (hct : Tryz.prog.cellsOf t = 4)
    (hval : Value.okWide Tryz.prog W .any base t v) (h : DataW.Trod enc Tryz.prog W 0 (fun _ => true) true t v d p) :
    ∃ (k : Int) (x y z : List UInt8), v = .agg #[i64 k, str x, str y, str z] ∧ d = .agg [.lit (.int .i64 k), .lit (.string x), .lit (.string y), .lit (.string z)] ∧ p = [] ∧ Again enc W t v d p := by
  obtain ⟨xs, rfl, hx⟩ := okWide_struct ht hval
  obtain ⟨fu, hf⟩ := h
  obtain ⟨c0, c1, c2, c3, rfl⟩ := arr4 (hx.trans hct)
  obtain ⟨y0, y1, y2, y3, n, hxe, _, h0, h1, h2, h3⟩ := Go.Joins.trod_struct4 ht hf
  rw [e0.1, e0.2, hci] at h0
  rw [e1.1, e1.2, hcs] at h1
  rw [e2.1, e2.2, hcs] at h2
  rw [e3.1, e3.2, hcs] at h3
  simp only [Value.cells, List.take_succ_cons, List.take_zero, List.drop_succ_cons, List.drop_zero] at h0 h1 h2 h3
  obtain ⟨k, a0, rfl, w0⟩ := DataW.trod_int hi h0
  obtain ⟨x, a1, rfl, w1⟩ := DataW.trod_string hs h1
  obtain ⟨y, a2, rfl, w2⟩ := DataW.trod_string hs h2
  obtain ⟨z, a3, rfl, w3⟩ := DataW.trod_string hs h3
  simp only [List.cons.injEq, and_true] at a0 a1 a2 a3
  subst a0 a1 a2 a3
  simp only [List.append_nil, Prod.mk.injEq] at hxe
  obtain ⟨rfl, rfl⟩ := hxe
  refine ⟨k, x.data.toList, y.data.toList, z.data.toList, by cases x; cases y; cases z; simp [str], rfl, rfl, fun W' _ sp _ => ⟨2, ?_⟩⟩
  simp [DataW.trod, Value.cells, ht, e0.1, e0.2, e1.1, e1.2, e2.1, e2.2, e3.1, e3.2, hi, hs, hci, hcs, hct, w0, w1, w2, w3]
end
end Go.Proofs.YtlfpehljahgbkaaGreatDoor
