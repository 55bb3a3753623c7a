/-
  Own texts on the laws of the seat, joined: the logic, and contracts of functions. Conditions: none.
-/
import Derived.Test.YtekmeaoblpfnpaaGreatDoorPC14
set_option linter.all false
set_option maxRecDepth 100000
set_option maxHeartbeats 40000000
namespace Go.Proofs.YtekmeaoblpfnpaaGreatDoor
open Go.ChangeShapes Go.WideShapes Go.ChangeAt Go.RowKit Go.Sx Go.Lib Go.ChangeMaps Go.WideMaps
section
variable {H:Type} {enc:TypeId×Value→H} {W:World} {base:Nat}
theorem Arg.c0f {e k} {cs : List Value} {ms : List Nat} (h : ∀ (i m' : Nat), ms[i]? = some m' → Arg enc W e ((cs.drop (i * 1)).take 1) m') (he : Tryz.prog.underlying e = some (.int .u8)) (hml : ms.length = k) i (hi : i < k) : ∃ c : UInt8, cs[i]? = some (u8 c) := by
  have hm : ms[i]? = some (ms[i]'(by omega)) := List.getElem?_eq_getElem _
  obtain ⟨z, hz, hw, _⟩ := (h i _ hm).int he
  obtain ⟨c, rfl⟩ := c0B hw
  refine ⟨c, ?_⟩
  have := congrArg (fun l => l[0]?) hz
  simpa [List.getElem?_drop] using this
theorem b2f {cs} (hl : cs.length = 3) (h : ∀ i, i < 3 → ∃ c : UInt8, cs[i]? = some (u8 c)) : ∃ x : T3, cs = t3C x := by
  match cs, hl with
  | [a, b, c], _ =>
    obtain ⟨z0, e0⟩ := h 0 (by decide)
    obtain ⟨z1, e1⟩ := h 1 (by decide)
    obtain ⟨z2, e2⟩ := h 2 (by decide)
    cases e0; cases e1; cases e2
    exact ⟨⟨z0, z1, z2⟩, rfl⟩
theorem Arg.three {cs m} (h : Arg enc W 103 cs m) : ∃ x : T3, cs = t3C x ∧ 1 ≤ m := by
  obtain ⟨hl, ms, hml, hms, hf⟩ := h.array Tryz.underlying103
  rw [show Tryz.prog.cellsOf 103 = 3 by kernel_rfl] at hl
  rw [show Tryz.prog.cellsOf 5 = 1 by kernel_rfl] at hf
  obtain ⟨x, hx⟩ := b2f hl fun i hi => Arg.c0f hf Tryz.underlying5 hml i hi
  exact ⟨x, hx, by omega⟩
theorem b1u {v d p} (hval : Value.okWide Tryz.prog W .any base 102 v) (h : DataW.Trod enc Tryz.prog W 0 (fun _ => true) true 102 v d p) (hlt : ∀ x ∈ p, x.block < W.heap.size) :
    ∃ xs : List T3, zL t3C (HW W) xs v ∧ xs.length + 1 ≤ Rows.uptoBulk d ∧ Again enc W 102 v d p := by
  have hag := again (by kernel_rfl) (of_decide_eq_true (by kernel_rfl)) h hlt
  obtain ⟨a, len, cap, rfl⟩ := okWide_slice Tryz.underlying102 hval
  obtain ⟨xs, v', h1, h2, h3, _, _⟩ := (Arg.of h).row (f := t3C) (size := fun _ => 1) Tryz.underlying102 (show Tryz.prog.cellsOf 103 = 3 by kernel_rfl) (by decide) (fun _ => True) fun cs m' _ h => by
    obtain ⟨x, h1, h2⟩ := h.three
    exact ⟨x, h1, h2, trivial⟩
  obtain rfl : Value.slice a len cap = v' := by simpa [Value.cells] using h1
  have h5 := a8j (f := fun _ : T3 => 1) (l := xs) fun _ => Nat.le_refl 1
  exact ⟨xs, h2, by omega, hag⟩
