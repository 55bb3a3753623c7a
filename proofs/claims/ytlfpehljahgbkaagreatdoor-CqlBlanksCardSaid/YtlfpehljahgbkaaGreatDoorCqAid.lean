/-
  Small facts for the laws' walks. Own text. Conditions: none.
-/
import Derived.Test.YtlfpehljahgbkaaGreatDoorCqV
import Derived.Test.YtlfpehljahgbkaaGreatDoorCqWide
namespace Go.Proofs.YtlfpehljahgbkaaGreatDoor
open Go Go.Sx
theorem q_small {s : List UInt8} (h : s.length ≤ 10000) : (Cq.parse s).1.size ≤ 1000000000 ∧ (Cq.parse s).1.wide ≤ 300000000 ∧ (Cq.form (Cq.parse s).1 = true → (Cq.write (Cq.parse s).1).length ≤ 1000000000) := by
  have h1 := Cq.parse_size s
  have h2 := Cq.parse_wide s
  have h3 : (s.length + 1) * (s.length + 10) ≤ 10001 * 10010 := Nat.mul_le_mul (by omega) (by omega)
  refine ⟨by omega, by omega, fun hf => ?_⟩
  have := Cq.write_le hf
  omega
theorem idx_at {l : List (List UInt8)} {n : Nat} (h : n < l.length) : (l.map str)[n]? = some (str (l.getD n [])) := by
  simp [List.getD, List.getElem?_eq_getElem h]
theorem getD_in {l : List (List UInt8)} {n : Nat} (h : n < l.length) : l.getD n [] ∈ l := by
  rw [List.getD, List.getElem?_eq_getElem h]; exact List.getElem_mem h
theorem short6 {l : List (List UInt8)} (hl : ∀ w ∈ l, w.length ≤ 7) {n : Nat} (h : n < l.length) : (l.getD n []).length ≤ 7 := hl _ (getD_in h)
def termQ (i r s : List UInt8) : Cq.Qn := ⟨1, i, r, s, .nil⟩

/-- Bytes that a slice leads to. -/
def MemB (I : Heap) (l : List UInt8) (p : Option Addr) : Prop := l ≠ [] → ∃ bl off cs' T fr, p = some ⟨bl, off, none⟩ ∧ I bl = some (.cells (List.toArray cs') T fr) ∧ ∀ k x, l[k]? = some x → cs'[off + k]? = some (u8 x)
theorem MemB.mono {I I' : Heap} {l : List UInt8} {p : Option Addr} (h : MemB I l p) (hle : Le I I') : MemB I' l p := fun hn => let ⟨bl, off, cs', T, fr, g1, g2, g3⟩ := h hn; ⟨bl, off, cs', T, fr, g1, hle _ _ g2, g3⟩
theorem w8 {n : Int} (h : 0 ≤ n ∧ n ≤ 255) : IntKind.u8.wrap n = n := by
  simp [IntKind.wrap, IntKind.bits, IntKind.signed]; omega
end Go.Proofs.YtlfpehljahgbkaaGreatDoor
