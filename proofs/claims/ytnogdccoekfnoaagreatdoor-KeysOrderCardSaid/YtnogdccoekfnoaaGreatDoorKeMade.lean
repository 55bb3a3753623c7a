/-
  Texts that numbers determine, in plain Lean. Own text; no program in sight. Conditions: none.
-/
import Derived.Test.YtnogdccoekfnoaaGreatDoorKeRunes
namespace Ke
def parts : List Bs := [[97], [98], [84, 104, 101, 32], [108, 101], [32], [32, 32], [39], [195, 137], [195, 169], [195, 184], [195, 159], [195, 134], [101, 204, 129], [204, 136], [239, 184, 160], [206, 163], [207, 130], [207, 131], [206, 134], [207, 137], [206, 162], [208, 150], [209, 143], [208, 129], [208, 185], [230, 151, 165], [255], [195], [48], [55], [49, 50], [48, 48, 55], [90], [45], [44, 32], [111, 102], [119, 97, 108, 108], [197, 181], [205, 176], [120]]
def piece (n : Int) : Bs := parts.getD (n % 40).toNat []
def made (l : List Int) : Bs := (l.take 60).flatMap piece
theorem parts_len : parts.length = 40 := by rfl
theorem parts_small : parts.all (fun p => decide (p.length ≤ 4)) = true := by decide +kernel
theorem piece_at (n : Int) : parts[(n % 40).toNat]? = some (piece n) := by
  have h : (n % 40).toNat < parts.length := by rw [parts_len]; omega
  unfold piece
  rw [List.getD, List.getElem?_eq_getElem h]; rfl
theorem piece_len (n : Int) : (piece n).length ≤ 4 := by
  have h := List.all_eq_true.1 parts_small _ (List.mem_of_getElem? (piece_at n))
  simpa using h
theorem flat_len : ∀ (l : List Int), (l.flatMap piece).length ≤ 4 * l.length
  | [] => Nat.le_refl _
  | a :: r => by
    have h1 := piece_len a
    have h2 := flat_len r
    simp only [List.flatMap_cons, List.length_append, List.length_cons]; omega
theorem made_len (l : List Int) : (made l).length ≤ 240 := by
  have h := flat_len (l.take 60)
  have h2 : (l.take 60).length ≤ 60 := by rw [List.length_take]; omega
  unfold made; omega
theorem made_next {l : List Int} {k : Nat} {x : Int} (h : l[k]? = some x) : (l.take (k + 1)).flatMap piece = (l.take k).flatMap piece ++ piece x := by
  obtain ⟨hlt, hg⟩ := List.getElem?_eq_some_iff.1 h
  rw [List.take_succ_eq_append_getElem hlt, hg, List.flatMap_append]; simp
end Ke
