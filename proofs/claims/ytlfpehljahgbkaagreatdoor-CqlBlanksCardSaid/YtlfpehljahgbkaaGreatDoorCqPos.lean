/-
  Where tokens stand. Own text. Conditions: none.
-/
import Derived.Test.YtlfpehljahgbkaaGreatDoorCqRead
namespace Cq
theorem head_pos (rest : List UInt8) (j : Nat) : (head rest j).1.pos = j := by
  unfold head
  cases rest with
  | nil => rfl
  | cons c r =>
    simp only []
    split
    · split <;> rfl
    · split
      · rfl
      · split
        · rfl
        · split
          · rfl
          · split <;> rfl
theorem lex_pos (s : List UInt8) (i : Nat) : (lex s i).1.pos = skip s i := by unfold lex; exact head_pos _ _
theorem toks_sorted (s : List UInt8) : ∀ (n i : Nat), i ≤ s.length → s.length - i ≤ n → ∀ k t, (toksI s i)[k]? = some t → i ≤ t.pos ∧ t.pos ≤ s.length ∧ ∀ t', (toksI s i)[k + 1]? = some t' → t.pos ≤ t'.pos
  | n, i, hi, hn, k, t, h => by
    have hs := skip_le s i hi
    have hp := lex_pos s i
    rw [toksI_eq s i hi] at h ⊢
    cases ho : over (lex s i).1 with
    | true =>
      rw [ho] at h
      simp only [if_true] at h ⊢
      cases k with
      | zero => simp at h; subst h; exact ⟨by omega, by omega, fun t' h' => by simp at h'⟩
      | succ k => simp at h
    | false =>
      have hl := lex_len s i hi ho
      rw [ho] at h
      simp only [Bool.false_eq_true, if_false] at h ⊢
      have hnx : skip s i ≤ (lex s i).2 := by unfold lex; exact Nat.le_add_right _ _
      cases n with
      | zero => omega
      | succ n =>
        have ih := toks_sorted s n (lex s i).2 hl.2 (by omega)
        cases k with
        | zero =>
          simp at h
          subst h
          refine ⟨by omega, by omega, fun t' h' => ?_⟩
          have := (ih 0 t' (by simpa using h')).1
          omega
        | succ k =>
          have := ih k t (by simpa using h)
          refine ⟨by omega, this.2.1, fun t' h' => this.2.2 t' (by simpa using h')⟩
theorem tokens_sorted {s : List UInt8} {k : Nat} {t t' : Tok} (h : (tokens s)[k]? = some t) (h' : (tokens s)[k + 1]? = some t') : t.pos ≤ t'.pos ∧ t'.pos ≤ s.length := by
  have a := toks_sorted s s.length 0 (Nat.zero_le _) (by omega) k t h
  have b := toks_sorted s s.length 0 (Nat.zero_le _) (by omega) (k + 1) t' h'
  exact ⟨a.2.2 t' h', b.2.1⟩
theorem tokens_two {q : Qn} (h : form q = true) : 2 ≤ (tokens (write q)).length := by
  obtain ⟨T, hT, _, _, hne⟩ := reads _ q (Nat.lt_succ_self _) h (write q) [] 0 (by simp)
  have ht : tokens (write q) = T ++ [⟨0, [], (write q).length⟩] := by
    show toksI (write q) 0 = _
    rw [hT, Nat.zero_add, toks_end]
  rw [ht]
  have := List.length_pos_iff.2 hne
  simp; omega
end Cq
