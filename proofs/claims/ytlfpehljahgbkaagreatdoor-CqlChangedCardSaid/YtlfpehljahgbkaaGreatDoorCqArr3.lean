/-
  An argument of three bytes, as the rows read it. Own text. Conditions: none.
-/
import Derived.Test.YtlfpehljahgbkaaGreatDoorCqArgs
import Derived.WideKeyArr2
import Derived.Laws.IdiomArrays
namespace Go.Proofs.YtlfpehljahgbkaaGreatDoor
open Go.ChangeShapes Go.WideShapes Go.ChangeAt Go.RowKit Go.Sx Go.Lib Go.ChangeMaps Go.WideMaps
section
variable {H : Type} {enc : TypeId × Value → H} {W : World} {base : Nat}
set_option maxRecDepth 100000 in
theorem arg_bytes3 {t e : TypeId} {v : Value} {d : DataW H} {p : List MemPlace} (ht : Tryz.prog.underlying t = some (.array 3 e)) (he : Tryz.prog.underlying e = some (.int .u8)) (hce : Tryz.prog.cellsOf e = 1) (hct : Tryz.prog.cellsOf t = 3)
    (hpl : Tryz.prog.plainKey e = true) (hval : Value.okWide Tryz.prog W .any base t v) (h : DataW.Trod enc Tryz.prog W 0 (fun _ => true) true t v d p) :
    ∃ a b c : UInt8, v = .agg #[u8 a, u8 b, u8 c] ∧ p = [] ∧ Again enc W t v d p := by
  obtain ⟨xs, rfl, hx⟩ := okWide_arr ⟨ht, hpl, hce, hct⟩ hval
  obtain ⟨fu, hf⟩ := h
  obtain ⟨c0, c1, c2, rfl⟩ : ∃ c0 c1 c2, xs = #[c0, c1, c2] := by
    obtain ⟨l⟩ := xs
    match l, hx with
    | [a, b, c], _ => exact ⟨a, b, c, rfl⟩
  obtain ⟨y0, y1, y2, n, hxe, h0, h1, h2⟩ := trod_array3 ht hce (c0 := c0) (c1 := c1) (c2 := c2) (by simpa [Value.cells] using hf)
  obtain ⟨n0, e0, rfl, w0⟩ := DataW.trod_int he h0
  obtain ⟨n1, e1, rfl, w1⟩ := DataW.trod_int he h1
  obtain ⟨n2, e2, rfl, w2⟩ := DataW.trod_int he h2
  simp only [List.cons.injEq, and_true] at e0 e1 e2
  subst e0 e1 e2
  obtain ⟨a, rfl⟩ := u8_of w0
  obtain ⟨b, rfl⟩ := u8_of w1
  obtain ⟨c, rfl⟩ := u8_of w2
  simp only [List.append_nil, Prod.mk.injEq] at hxe
  obtain ⟨rfl, rfl⟩ := hxe
  refine ⟨a, b, c, rfl, rfl, fun W' _ sp _ => ⟨2, ?_⟩⟩
  have r3 : List.range 3 = [0, 1, 2] := rfl
  simp [DataW.trod, Value.cells, ht, he, hce, hct, r3, w0, w1, w2]
end
end Go.Proofs.YtlfpehljahgbkaaGreatDoor
