/-
  How the lexer's token is found by the library's searches: plain laws. Own text. Conditions: none.
-/
import Derived.Test.YtlfpehljahgbkaaGreatDoorCqM
namespace Go.Proofs.YtlfpehljahgbkaaGreatDoor
open Go Go.Sx
theorem ub (c d : UInt8) : ((c.toNat : Int) == (d.toNat : Int)) = (c == d) := by
  rw [Bool.eq_iff_iff, beq_iff_eq, beq_iff_eq]; exact u8_eq c d
theorem blanks_is (c : UInt8) : blanks.contains c = Cq.blank c := by
  have h1 := ub c 32; have h2 := ub c 9; have h3 := ub c 10; have h4 := ub c 13
  unfold Cq.blank blanks
  rw [show ((c.toNat : Int) == 32) = (c == 32) from h1, show ((c.toNat : Int) == 9) = (c == 9) from h2, show ((c.toNat : Int) == 10) = (c == 10) from h3, show ((c.toNat : Int) == 13) = (c == 13) from h4]
  simp [List.contains, List.elem, Bool.or_assoc]
  cases c == 32 <;> cases c == 9 <;> cases c == 10 <;> cases c == 13 <;> rfl
theorem breaks_is (c : UInt8) : breaks.contains c = !Cq.plain c := by
  have hb := blanks_is c
  have h1 := ub c 40; have h2 := ub c 41; have h3 := ub c 34; have h4 := ub c 61; have h5 := ub c 60; have h6 := ub c 62
  unfold Cq.plain breaks
  rw [← hb]
  simp only [bne]
  rw [show ((c.toNat : Int) == 40) = (c == 40) from h1, show ((c.toNat : Int) == 41) = (c == 41) from h2, show ((c.toNat : Int) == 34) = (c == 34) from h3, show ((c.toNat : Int) == 61) = (c == 61) from h4, show ((c.toNat : Int) == 60) = (c == 60) from h5, show ((c.toNat : Int) == 62) = (c == 62) from h6]
  simp only [List.contains, List.elem, blanks]
  cases c == 32 <;> cases c == 9 <;> cases c == 10 <;> cases c == 13 <;> cases c == 40 <;> cases c == 41 <;> cases c == 34 <;> cases c == 61 <;> cases c == 60 <;> cases c == 62 <;> rfl
theorem idx_plain : ∀ l : List UInt8, (Lib.indexAny l breaks = -1 ∧ l.takeWhile Cq.plain = l) ∨ ∃ n : Nat, Lib.indexAny l breaks = n ∧ n < l.length ∧ l.takeWhile Cq.plain = l.take n
  | [] => .inl ⟨rfl, rfl⟩
  | c :: l => by
    rw [Lib.indexAny, breaks_is, List.takeWhile_cons]
    cases hp : Cq.plain c with
    | false => exact .inr ⟨0, rfl, by simp, rfl⟩
    | true =>
      rcases idx_plain l with ⟨h1, h2⟩ | ⟨n, h1, h2, h3⟩
      · exact .inl ⟨by rw [h1]; rfl, by simp [h2]⟩
      · refine .inr ⟨n + 1, ?_, by simp; omega, by simp [h3]⟩
        rw [h1]
        have : ((n : Int) == -1) = false := by rw [beq_eq_false_iff_ne]; omega
        simp [this]
/-- What stands behind the blanks. -/
theorem skip_trim (s : List UInt8) (i : Nat) (_hi : i ≤ s.length) : (i : Int) + (((s.drop i).length : Int) - ((Lib.trimLeftS (s.drop i) blanks).length : Int)) = (Cq.skip s i : Nat) := by
  have he : Lib.trimLeftS (s.drop i) blanks = (s.drop i).dropWhile Cq.blank := by
    unfold Lib.trimLeftS; congr 1; funext c; exact blanks_is c
  have h := congrArg List.length (List.takeWhile_append_dropWhile (p := Cq.blank) (l := s.drop i))
  rw [List.length_append] at h
  rw [he]
  unfold Cq.skip
  omega
theorem lex_of {s : List UInt8} {i : Nat} {t : Cq.Tok} {n : Nat} (h : Cq.head (s.drop (Cq.skip s i)) (Cq.skip s i) = (t, n)) : Cq.lex s i = (t, Cq.skip s i + n) := by
  unfold Cq.lex; rw [h]
theorem head_quoted (r : List UInt8) (j : Nat) : ((Cq.quotedAt (34 :: r) 0).2 = 0 → Cq.head (34 :: r) j = (⟨4, [], j⟩, (34 :: r : List UInt8).length)) ∧ ((Cq.quotedAt (34 :: r) 0).2 ≠ 0 → Cq.head (34 :: r) j = (⟨2, (Cq.quotedAt (34 :: r) 0).1, j⟩, (Cq.quotedAt (34 :: r) 0).2)) := by
  unfold Cq.quotedAt Cq.head
  simp only [Nat.zero_add, List.drop_one, List.tail_cons, if_true]
  cases Cq.quoted r with
  | none => simp
  | some q => simp; omega
theorem quotedAt_le (l : List UInt8) : (Cq.quotedAt l 0).2 ≤ l.length := by
  unfold Cq.quotedAt
  cases hq : Cq.quoted (l.drop (0 + 1)) with
  | none => simp
  | some q => have := Cq.quoted_len _ _ q (Nat.le_refl _) hq; rw [List.length_drop] at this; simp; omega
theorem head_two {c : UInt8} {r : List UInt8} (j : Nat) (h : [61, 61].isPrefixOf (c :: r) = true) : Cq.head (c :: r) j = (⟨1, (c :: r).take 2, j⟩, 2) := by
  cases r with
  | nil => simp [List.isPrefixOf] at h
  | cons d r =>
    simp [List.isPrefixOf] at h
    obtain ⟨rfl, rfl⟩ := h
    rfl
theorem head_ge {c : UInt8} {r : List UInt8} (j : Nat) (h : [62, 61].isPrefixOf (c :: r) = true) : Cq.head (c :: r) j = (⟨1, (c :: r).take 2, j⟩, 2) := by
  cases r with
  | nil => simp [List.isPrefixOf] at h
  | cons d r =>
    simp [List.isPrefixOf] at h
    obtain ⟨rfl, rfl⟩ := h
    rfl
theorem pre_len {a b c : UInt8} {r : List UInt8} (h : [a, b].isPrefixOf (c :: r) = true) : 2 ≤ (c :: r).length := by
  cases r with
  | nil => simp [List.isPrefixOf] at h
  | cons d r => simp
theorem pre_not {a b c : UInt8} {r : List UInt8} (h : [a, b].isPrefixOf (c :: r) = false) : ¬ (c = a ∧ r.head? = some b) := by
  rintro ⟨rfl, h2⟩
  cases r with
  | nil => simp at h2
  | cons d r => simp at h2; subst h2; simp [List.isPrefixOf] at h
theorem head_bad {c : UInt8} {r : List UInt8} (j : Nat) (hc : c = 62) (h2 : [62, 61].isPrefixOf (c :: r) = false) : Cq.head (c :: r) j = (⟨4, [], j⟩, 0) := by
  have := pre_not h2
  subst hc
  unfold Cq.head
  simp at this
  simp [this]
theorem idx_bad (r : List UInt8) : Lib.indexAny (62 :: r) breaks = 0 := by rw [Lib.indexAny]; rfl
theorem head_one {c : UInt8} {r : List UInt8} (j : Nat) (h34 : c ≠ 34) (h1 : [61, 61].isPrefixOf (c :: r) = false) (h2 : [62, 61].isPrefixOf (c :: r) = false) (h62 : c ≠ 62) (h0 : Lib.indexAny (c :: r) breaks = 0) : Cq.head (c :: r) j = (⟨1, (c :: r).take 1, j⟩, 1) := by
  have hp : Cq.plain c = false := by
    rw [Lib.indexAny, breaks_is] at h0
    cases hp : Cq.plain c with
    | false => rfl
    | true =>
      rw [hp] at h0
      have := Lib.indexAny_ge breaks r
      rw [Bool.not_true, if_neg (by simp)] at h0
      by_cases h3 : Lib.indexAny r breaks = -1
      · rw [h3] at h0; cases h0
      · rw [if_neg (by simpa using h3)] at h0; omega
  unfold Cq.head
  dsimp only
  rw [if_neg h34, if_neg (pre_not h1), if_neg (pre_not h2), if_neg h62, hp]
  rfl
theorem head_word {c : UInt8} {r : List UInt8} (j : Nat) (h34 : c ≠ 34) (h1 : [61, 61].isPrefixOf (c :: r) = false) (h2 : [62, 61].isPrefixOf (c :: r) = false) (h62 : c ≠ 62) (h0 : Lib.indexAny (c :: r) breaks ≠ 0) : Cq.head (c :: r) j = (⟨3, (c :: r).takeWhile Cq.plain, j⟩, ((c :: r).takeWhile Cq.plain).length) := by
  have hp : Cq.plain c = true := by
    cases hp : Cq.plain c with
    | true => rfl
    | false => exact absurd (by rw [Lib.indexAny, breaks_is, hp]; rfl) h0
  unfold Cq.head
  dsimp only
  rw [if_neg h34, if_neg (pre_not h1), if_neg (pre_not h2), if_neg h62, hp]
  rfl
end Go.Proofs.YtlfpehljahgbkaaGreatDoor
