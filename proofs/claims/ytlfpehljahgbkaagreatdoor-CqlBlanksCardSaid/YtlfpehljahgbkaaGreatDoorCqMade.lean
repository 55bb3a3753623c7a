/-
  What the reference makes of numbers, as plain functions. Own text. Conditions: none.
-/
import Derived.Test.YtlfpehljahgbkaaGreatDoorCqH
namespace Cq
def pickN (x : Int) (n : Nat) : Nat := ((x.tmod n + n).tmod n).toNat
theorem pick_eq (x : Int) {n : Nat} (hn : 0 < n) : (x.tmod n + n).tmod n = (pickN x n : Int) ∧ pickN x n < n ∧ -(n : Int) < x.tmod n ∧ x.tmod n < n := by
  have h1 : -(n : Int) < x.tmod n ∧ x.tmod n < n := by
    have h2 := Int.tmod_lt_of_pos x (b := n) (by omega)
    have h3 := Int.tmod_lt_of_pos (-x) (b := n) (by omega)
    rw [Int.neg_tmod] at h3
    omega
  have h4 := Int.tmod_nonneg (a := x.tmod n + n) n (by omega)
  have h5 := Int.tmod_lt_of_pos (x.tmod n + n) (b := n) (by omega)
  unfold pickN
  omega
def next (l : List Int) (k n : Nat) : Nat × Nat :=
  match l[k]? with
  | some x => (pickN x n, k + 1)
  | none => (0, k)
theorem next_lt (l : List Int) (k : Nat) {n : Nat} (hn : 0 < n) : (next l k n).1 < n := by
  unfold next
  split
  · exact (pick_eq _ hn).2.1
  · exact hn
theorem next_le (l : List Int) {k : Nat} (n : Nat) (h : k ≤ l.length) : (next l k n).2 ≤ l.length := by
  unfold next
  split
  · rename_i hx; have := (List.getElem?_eq_some_iff.1 hx).1; simp; omega
  · exact h
def texts : List (List UInt8) := [[99, 97, 116], [116, 104, 101, 32, 99, 97, 116], [], [49, 57, 57, 48], [97, 34, 98], [92], [97, 110, 100], [57, 55, 56, 48, 51, 48, 54, 52, 48, 54, 49, 53, 55], [120, 32, 121, 32, 40, 122, 41]]
def leaf (l : List Int) (k : Nat) : Qn × Nat :=
  (⟨1, indexes.getD (next l k 6).1 [], relations.getD (next l (next l k 6).2 6).1 [], texts.getD (next l (next l (next l k 6).2 6).2 9).1 [], .nil⟩, (next l (next l (next l k 6).2 6).2 9).2)
def made : Nat → List Int → Nat → Qn × Nat
  | 0, l, k => leaf l (next l k 5).2
  | deep + 1, l, k =>
    if (next l k 5).1 < 2 then leaf l (next l k 5).2
    else (two (next l k 5).1 (made deep l (next l k 5).2).1 (made deep l (made deep l (next l k 5).2).2).1, (made deep l (made deep l (next l k 5).2).2).2)
def madeQ (l : List Int) : Qn := (made (next l 0 7).1 l (next l 0 7).2).1
def parts : List (List UInt8) := [[99, 97, 116], [116, 105, 116, 108, 101], [65, 85, 84, 72, 79, 82], [97, 110, 121], [97, 108, 108], [97, 110, 100], [79, 82], [78, 111, 116], [61], [61, 61], [60], [62, 61], [40], [41], [34, 116, 104, 101, 32, 99, 97, 116, 34], [34, 97, 92, 34, 98, 34], [49, 57, 57, 48], [99, 111, 108, 111, 114], [62], [34], [34, 34], [120, 45, 121], [105, 115, 98, 110], [92]]
def gaps : List (List UInt8) := [[], [32], [32, 32], [10]]
def soup1 (x : Int) : List UInt8 := parts.getD (pickN x 96 % 24) [] ++ gaps.getD (pickN x 96 / 24) []
def soup (l : List Int) : List UInt8 := (l.take 40).flatMap soup1
theorem two_Two (k : Nat) (a b : Qn) : (two k a b).Two a b := rfl
theorem leaf_form (l : List Int) (k : Nat) : form (leaf l k).1 = true ∧ depth (leaf l k).1 = 0 ∧ (write (leaf l k).1).length ≤ 60 := by
  have h1 := next_lt l k (n := 6) (by omega)
  have h2 := next_lt l (next l k 6).2 (n := 6) (by omega)
  have h3 := next_lt l (next l (next l k 6).2 6).2 (n := 9) (by omega)
  unfold leaf
  revert h1 h2 h3
  generalize (next l k 6).1 = a
  generalize (next l (next l k 6).2 6).1 = b
  generalize (next l (next l (next l k 6).2 6).2 9).1 = c
  intro h1 h2 h3
  have ha : indexes.getD a [] ∈ indexes := by rw [List.getD_eq_getElem?_getD, List.getElem?_eq_getElem (by exact h1)]; exact List.getElem_mem _
  have hb : relations.getD b [] ∈ relations := by rw [List.getD_eq_getElem?_getD, List.getElem?_eq_getElem (by exact h2)]; exact List.getElem_mem _
  have hc : texts.getD c [] ∈ texts := by rw [List.getD_eq_getElem?_getD, List.getElem?_eq_getElem (by exact h3)]; exact List.getElem_mem _
  refine ⟨by rw [form_term rfl]; show (indexes.contains _ && relations.contains _ && _) = true; rw [List.contains_iff_mem.2 ha, List.contains_iff_mem.2 hb]; rfl, depth_term rfl, ?_⟩
  rw [write_term rfl]
  have h4 : (indexes.getD a []).length ≤ 7 := (by decide : ∀ x ∈ indexes, x.length ≤ 7) _ ha
  have h5 : (relations.getD b []).length ≤ 3 := (by decide : ∀ x ∈ relations, x.length ≤ 3) _ hb
  have h6 : (texts.getD c []).length ≤ 13 := (by decide : ∀ x ∈ texts, x.length ≤ 13) _ hc
  have h7 := (escape_len (texts.getD c [])).2
  simp only [text, List.length_append, List.length_cons, List.length_nil]
  omega
theorem word_len (k : Int) : (word k).length ≤ 3 := by unfold word; split <;> (try split) <;> simp
theorem paren_len2 (k : Int) (x : List UInt8) : (paren k x).length ≤ x.length + 2 := by unfold paren; split <;> simp <;> omega
theorem form_mk {k : Nat} {a b : Qn} (h2 : 2 ≤ k) (h4 : k ≤ 4) : form (two k a b) = (form a && form b) :=
  form_two (show (k : Int) ≠ 1 by omega) (by
    rintro (h | h | h | h | h | h)
    · simp only [two] at h; omega
    · simp only [two] at h; omega
    · exact h rfl
    · exact h rfl
    · exact h rfl
    · exact h rfl) (two_Two k a b)
theorem up_le (k : Int) : up k ≤ 1 := by unfold up; split <;> omega
theorem made_form : ∀ (deep : Nat) (l : List Int) (k : Nat), form (made deep l k).1 = true ∧ depth (made deep l k).1 ≤ deep ∧ (write (made deep l k).1).length + 7 ≤ 67 * 2 ^ deep ∧ (made deep l k).1.size + 2 ≤ 2 * 2 ^ deep
  | 0, l, k => by
    obtain ⟨h1, h2, h3⟩ := leaf_form l (next l k 5).2
    exact ⟨h1, by simp only [made]; omega, by simp only [made]; omega, by simp [made, leaf, Qn.size, Qs.size]⟩
  | deep + 1, l, k => by
    have hp : 0 < 2 ^ deep := Nat.pow_pos (by omega)
    by_cases h : (next l k 5).1 < 2
    · obtain ⟨h1, h2, h3⟩ := leaf_form l (next l k 5).2
      simp only [made, if_pos h]
      refine ⟨h1, by omega, by rw [Nat.pow_succ]; omega, by simp [leaf, Qn.size, Qs.size, Nat.pow_succ]; omega⟩
    · have h5 := next_lt l k (n := 5) (by omega)
      obtain ⟨a1, a2, a3, a4⟩ := made_form deep l (next l k 5).2
      obtain ⟨b1, b2, b3, b4⟩ := made_form deep l (made deep l (next l k 5).2).2
      simp only [made, if_neg h]
      generalize (made deep l (next l k 5).2).1 = a at *
      generalize (made deep l (made deep l (next l k 5).2).2).1 = b at *
      have hk : ((two (next l k 5).1 a b).k) ≠ 1 := by show ((next l k 5).1 : Int) ≠ 1; omega
      refine ⟨by rw [form_mk (by omega) (by omega), a1, b1]; rfl, ?_, ?_, ?_⟩
      · rw [depth_two hk (two_Two _ a b)]; have := up_le b.k; omega
      · rw [write_two hk (two_Two _ a b)]
        have h6 := paren_len2 b.k (write b)
        have h7 := word_len (two (next l k 5).1 a b).k
        simp only [List.length_append, List.length_cons, List.length_nil, Nat.pow_succ]
        omega
      · simp only [Qn.size, two, Qn.push, Qs.size, Nat.pow_succ] at *; omega
theorem madeQ_form (l : List Int) : form (madeQ l) = true ∧ depth (madeQ l) ≤ 6 ∧ (write (madeQ l)).length ≤ 10000 ∧ (madeQ l).size ≤ 200 := by
  have h := next_lt l 0 (n := 7) (by omega)
  obtain ⟨h1, h2, h3, h4⟩ := made_form (next l 0 7).1 l (next l 0 7).2
  have hp : 2 ^ (next l 0 7).1 ≤ 2 ^ 6 := Nat.pow_le_pow_right (by omega) (by omega)
  exact ⟨h1, by unfold madeQ; omega, by unfold madeQ; omega, by unfold madeQ; omega⟩
theorem soup1_len (x : Int) : (soup1 x).length ≤ 12 := by
  have h := (pick_eq x (n := 96) (by omega)).2.1
  have : ∀ n, n < 96 → (parts.getD (n % 24) [] ++ gaps.getD (n / 24) []).length ≤ 12 := by decide
  exact this _ h
theorem soup_len (l : List Int) : (soup l).length ≤ 480 := by
  have : ∀ (l : List Int), (l.flatMap soup1).length ≤ 12 * l.length := by
    intro l
    induction l with
    | nil => simp
    | cons x r ih => have := soup1_len x; simp only [List.flatMap_cons, List.length_append, List.length_cons]; omega
  have h := this (l.take 40)
  rw [List.length_take] at h
  unfold soup; omega
end Cq
namespace Go.Sx
/-- A slice of numbers. -/
structure IntSl (I : Heap) (l : List Int) (v : Value) : Prop where
  len : l.length ≤ 9223372036854775807
  at_ : ∃ p c, v = .slice p l.length c ∧ (l ≠ [] → ∃ bl off cs' T fr, p = some ⟨bl, off, none⟩ ∧ I bl = some (.cells (List.toArray cs') T fr) ∧ ∀ k x, l[k]? = some x → cs'[off + k]? = some (i64 x))
theorem IntSl.mono {I I' : Heap} {l : List Int} {v : Value} (h : IntSl I l v) (hle : Le I I') : IntSl I' l v :=
  ⟨h.len, let ⟨p, c, h1, h2⟩ := h.at_; ⟨p, c, h1, fun hn => let ⟨bl, off, cs', T, fr, g1, g2, g3⟩ := h2 hn; ⟨bl, off, cs', T, fr, g1, hle _ _ g2, g3⟩⟩⟩
end Go.Sx
