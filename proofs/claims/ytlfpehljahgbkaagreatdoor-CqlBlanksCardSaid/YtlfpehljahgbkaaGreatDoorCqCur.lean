/-
  The tokens that a lexer still has before it. Own text. Conditions: none.
-/
import Derived.Test.YtlfpehljahgbkaaGreatDoorCqE
import Derived.Test.YtlfpehljahgbkaaGreatDoorCqO
namespace Cq
/-- The lexer stands behind the token t, at i; the rest of the tokens, with t, is ts. -/
def Cur (s : List UInt8) (i : Nat) (t : Tok) (ts : List Tok) : Prop := ∃ j, j ≤ s.length ∧ lex s j = (t, i) ∧ toksI s j = ts
theorem Cur.start (s : List UInt8) : Cur s (lex s 0).2 (lex s 0).1 (tokens s) := ⟨0, Nat.zero_le _, rfl, rfl⟩
section
variable {s : List UInt8} {i : Nat} {t : Tok} {ts : List Tok}
theorem Cur.good (h : Cur s i t ts) : Rst ts := by
  obtain ⟨j, hj, _, rfl⟩ := h
  exact (toks_good s _ j hj (by omega)).1
theorem Cur.txt (h : Cur s i t ts) : t.text.length ≤ s.length := by
  obtain ⟨j, hj, h1, rfl⟩ := h
  refine (toks_good s (s.length + 1 - j) j hj (by omega)).2.2 t ?_
  show t ∈ toksI s j
  rw [toksI_eq s j hj, h1]
  split <;> simp
theorem Cur.cons (h : Cur s i t ts) : ∃ r, ts = t :: r := by
  obtain ⟨j, hj, h1, rfl⟩ := h
  rw [toksI_eq s j hj, h1]
  split
  · exact ⟨_, rfl⟩
  · exact ⟨_, rfl⟩
theorem Cur.next {r : List Tok} (h : Cur s i t (t :: r)) (ho : over t = false) : i ≤ s.length ∧ Cur s (lex s i).2 (lex s i).1 r := by
  obtain ⟨j, hj, h1, h2⟩ := h
  have hl := lex_len s j hj (by rw [h1]; exact ho)
  rw [h1] at hl
  rw [toksI_eq s j hj, h1] at h2
  simp only [ho, Bool.false_eq_true, if_false, List.cons.injEq, true_and] at h2
  exact ⟨hl.2, i, hl.2, rfl, h2⟩
theorem Cur.len (h : Cur s i t ts) : ts.length ≤ s.length + 1 := by
  obtain ⟨j, hj, _, rfl⟩ := h
  have := (toks_good s (s.length + 1 - j) j hj (by omega)).2.1
  show (toks s (s.length + 1 - j) j).length ≤ _
  omega
end
end Cq
