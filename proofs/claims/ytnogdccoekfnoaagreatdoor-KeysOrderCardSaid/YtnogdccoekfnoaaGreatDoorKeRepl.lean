/-
  Plain facts on the striking of two signs, and on a buffer that is filled. Own text. Conditions: none.
-/
import Derived.Test.YtnogdccoekfnoaaGreatDoorSxText
import Derived.Test.YtnogdccoekfnoaaGreatDoorKeIsbn
namespace Ke
def rep (s : Bs) : Bs := s.filter nb
def cnt (l : Bs) : Nat := l.countP (fun c => c == 32 || c == 45)
theorem nb_eq (c : UInt8) : nb c = !(c == 32 || c == 45) := rfl
theorem rep_cnt : ∀ l : Bs, (rep l).length + cnt l = l.length
  | [] => rfl
  | c :: r => by
    have ih := rep_cnt r
    unfold rep cnt at *
    rw [List.filter_cons, List.countP_cons]
    cases h : (c == 32 || c == 45) with
    | true => rw [nb_eq, h]; simp only [Bool.not_true, Bool.false_eq_true, if_false, if_true, List.length_cons]; omega
    | false => rw [nb_eq, h]; simp only [Bool.not_false, Bool.false_eq_true, if_false, if_true, List.length_cons]; omega
theorem cnt_counts : ∀ l : Bs, l.count 32 + l.count 45 = cnt l
  | [] => rfl
  | c :: r => by
    have ih := cnt_counts r
    simp only [cnt, List.count_cons, List.countP_cons] at ih ⊢
    by_cases h : c = 32
    · subst h; simp; omega
    · by_cases h2 : c = 45
      · subst h2; simp; omega
      · simp [h, h2]; omega
theorem rep_id (l : Bs) (h : cnt l = 0) : rep l = l := by
  have h1 := rep_cnt l
  exact List.filter_eq_self.2 (fun c hc => by
    have := List.countP_eq_zero.1 h c hc
    rw [nb_eq]; simpa using this)
theorem take_nextB {s : Bs} {k : Nat} {c : UInt8} (h : s[k]? = some c) : s.take (k + 1) = s.take k ++ [c] := by
  obtain ⟨hlt, hg⟩ := List.getElem?_eq_some_iff.1 h
  rw [List.take_succ_eq_append_getElem hlt, hg]
theorem cnt_next {s : Bs} {k : Nat} {c : UInt8} (h : s[k]? = some c) : cnt (s.take (k + 1)) = cnt (s.take k) + if c = 32 ∨ c = 45 then 1 else 0 := by
  rw [take_nextB h]
  unfold cnt
  rw [List.countP_append]
  simp
theorem rep_next {s : Bs} {k : Nat} {c : UInt8} (h : s[k]? = some c) : rep (s.take (k + 1)) = rep (s.take k) ++ if c = 32 ∨ c = 45 then [] else [c] := by
  rw [take_nextB h]
  unfold rep
  rw [List.filter_append]
  by_cases hc : c = 32 ∨ c = 45
  · rw [if_pos hc, List.filter_cons_of_neg (by rcases hc with rfl | rfl <;> decide)]; rfl
  · rw [if_neg hc, List.filter_cons_of_pos (by rw [nb_eq]; simp only [not_or] at hc; simp [hc.1, hc.2])]; rfl
theorem rep_part (s : Bs) (k : Nat) : (rep (s.take k)).length ≤ (rep s).length := by
  have : rep s = rep (s.take k) ++ rep (s.drop k) := by
    unfold rep
    rw [← List.filter_append, List.take_append_drop]
  rw [this]; simp
theorem three (c : UInt8) : c = 45 ∨ c = 32 ∨ ¬ (c = 32 ∨ c = 45) := by
  by_cases h : c = 45
  · exact .inl h
  · by_cases h2 : c = 32
    · exact .inr (.inl h2)
    · exact .inr (.inr (by simp [h, h2]))
end Ke
namespace Go.Sx
def buf (E : List UInt8) (n : Nat) : List Value := bcs E ++ List.replicate (n - E.length) (.int .u8 0)
theorem buf_nil (n : Nat) : buf [] n = List.replicate n (.int .u8 0) := by simp [buf, bcs]
theorem buf_len {E : List UInt8} {n : Nat} (h : E.length ≤ n) : (buf E n).length = n := by simp [buf, bcs]; omega
theorem buf_spl {E X : List UInt8} {n : Nat} (h : E.length + X.length ≤ n) : LSpl (buf E n) E.length (bcs X) (buf (E ++ X) n) := by
  have hX : (bcs X).length = X.length := bcs_len X
  have hE : (bcs E).length = E.length := bcs_len E
  refine ⟨by rw [buf_len (by omega), hX]; exact h, ?_⟩
  unfold buf
  rw [hX, List.take_append_of_le_length (by omega), List.take_of_length_le (by omega), List.drop_append, List.drop_eq_nil_of_le (by omega), hE]
  simp only [bcs, List.map_append, List.nil_append, List.append_assoc, List.drop_replicate, List.length_append]
  congr 2
  congr 1
  omega
theorem buf_set {E : List UInt8} {n : Nat} (c : UInt8) (h : E.length < n) : (buf E n).set E.length (u8 c) = buf (E ++ [c]) n := by
  have hE : (bcs E).length = E.length := bcs_len E
  unfold buf
  rw [List.set_append_right _ _ (by omega), hE, Nat.sub_self]
  obtain ⟨m, hm⟩ : ∃ m, n - E.length = m + 1 := ⟨n - E.length - 1, by omega⟩
  have h2 : n - (E ++ [c]).length = m := by simp; omega
  rw [hm, h2, List.replicate_succ, List.set_cons_zero]
  simp [bcs]
theorem buf_full {E : List UInt8} {n : Nat} (h : n = E.length) : buf E n = bcs E ++ [] := by
  subst h; simp [buf]
end Go.Sx
