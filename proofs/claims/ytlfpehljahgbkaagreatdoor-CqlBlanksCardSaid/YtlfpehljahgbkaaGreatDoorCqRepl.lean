/-
  Plain facts on the replacing of two letters, and on a buffer that is filled. Own text. Conditions: none.
-/
import Derived.Test.YtlfpehljahgbkaaGreatDoorCqForm
import Derived.Test.YtlfpehljahgbkaaGreatDoorSxLib
namespace Cq
def cnt (l : List UInt8) : Nat := l.countP (fun c => c == 34 || c == 92)
theorem escape_cnt : ∀ l : List UInt8, (escape l).length = l.length + cnt l
  | [] => rfl
  | c :: r => by
    have ih := escape_cnt r
    simp only [escape, cnt, List.flatMap_cons, List.length_append, List.countP_cons, List.length_cons] at ih ⊢
    by_cases h : c = 34 ∨ c = 92
    · rw [if_pos h, ih]
      have : (c == 34 || c == 92) = true := by simpa using h
      simp [this]; omega
    · rw [if_neg h, ih]
      have : (c == 34 || c == 92) = false := by simpa using h
      simp [this]; omega
theorem cnt_counts : ∀ l : List UInt8, l.count 34 + l.count 92 = cnt l
  | [] => rfl
  | c :: r => by
    have ih := cnt_counts r
    simp only [cnt, List.count_cons, List.countP_cons] at ih ⊢
    by_cases h : c = 34
    · subst h; simp; omega
    · by_cases h2 : c = 92
      · subst h2; simp; omega
      · simp [h, h2]; omega
theorem escape_id : ∀ l : List UInt8, cnt l = 0 → escape l = l
  | [], _ => rfl
  | c :: r, h => by
    simp only [cnt, List.countP_cons] at h
    have h1 : (c == 34 || c == 92) = false := by
      cases hc : (c == 34 || c == 92) with
      | false => rfl
      | true => simp [hc] at h
    have ih := escape_id r (by unfold cnt; simp [h1] at h; simpa using h)
    have h2 : ¬ (c = 34 ∨ c = 92) := by simpa using h1
    simp only [escape, List.flatMap_cons] at ih ⊢
    rw [if_neg h2, ih]; rfl
theorem cnt_next {s : List UInt8} {k : Nat} {c : UInt8} (h : s[k]? = some c) : cnt (s.take (k + 1)) = cnt (s.take k) + if c = 34 ∨ c = 92 then 1 else 0 := by
  rw [take_next h]
  unfold cnt
  rw [List.countP_append]
  simp
theorem escape_part (s : List UInt8) (k : Nat) : (escape (s.take k)).length ≤ (escape s).length := by
  have : escape s = escape (s.take k) ++ escape (s.drop k) := by
    unfold escape
    rw [← List.flatMap_append, List.take_append_drop]
  rw [this]; simp
theorem three (c : UInt8) : c = 34 ∨ c = 92 ∨ ¬ (c = 34 ∨ c = 92) := by
  by_cases h : c = 34
  · exact .inl h
  · by_cases h2 : c = 92
    · exact .inr (.inl h2)
    · exact .inr (.inr (by simp [h, h2]))
end Cq
namespace Go.Sx
def buf (E : List UInt8) (n : Nat) : List Value := bcs E ++ List.replicate (n - E.length) (.int .u8 0)
theorem buf_nil (n : Nat) : buf [] n = List.replicate n (.int .u8 0) := by simp [buf, bcs]
theorem buf_len {E : List UInt8} {n : Nat} (h : E.length ≤ n) : (buf E n).length = n := by simp [buf, bcs]; omega
theorem buf_spl {E X : List UInt8} {n : Nat} (h : E.length + X.length ≤ n) : LSpl (buf E n) E.length (bcs X) (buf (E ++ X) n) := by
  have hX : (bcs X).length = X.length := bcs_len X
  have hE : (bcs E).length = E.length := bcs_len E
  refine ⟨by rw [buf_len (by omega), hX]; exact h, ?_⟩
  unfold buf
  rw [hX, List.take_append_of_le_length (by omega), List.take_of_length_le (by omega), List.drop_append, List.drop_eq_nil_of_le (by omega), hE]
  simp only [bcs, List.map_append, List.nil_append, List.append_assoc, List.drop_replicate, List.length_append]
  congr 2
  congr 1
  omega
theorem buf_set {E : List UInt8} {n : Nat} (c : UInt8) (h : E.length < n) : (buf E n).set E.length (u8 c) = buf (E ++ [c]) n := by
  have hE : (bcs E).length = E.length := bcs_len E
  unfold buf
  rw [List.set_append_right _ _ (by omega), hE, Nat.sub_self]
  obtain ⟨m, hm⟩ : ∃ m, n - E.length = m + 1 := ⟨n - E.length - 1, by omega⟩
  have h2 : n - (E ++ [c]).length = m := by simp; omega
  rw [hm, h2, List.replicate_succ, List.set_cons_zero]
  simp [bcs]
theorem buf_full {E : List UInt8} {n : Nat} (h : n = E.length) : buf E n = bcs E ++ [] := by
  subst h; simp [buf]
end Go.Sx
