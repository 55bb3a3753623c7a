/-
  How large a query is that is read. Own text. Conditions: none.
-/
import Derived.Test.YtlfpehljahgbkaaGreatDoorCqForm
namespace Cq
def Fits (ts : List Tok) : Res → Prop
  | .ok q ts2 => q.size + 2 + 2 * ts2.length ≤ 2 * ts.length
  | .err _ _ => True
theorem two_size (k : Nat) (a b : Qn) : (two k a b).size = a.size + b.size + 2 := by
  simp only [two, Qn.size, Qn.push, Qs.size]; omega
theorem fits : ∀ f, (∀ deep ts, Fits ts (clause f deep ts)) ∧ (∀ deep ts, Fits ts (query f deep ts)) ∧ ∀ deep q ts q2 ts2, more f deep q ts = .ok q2 ts2 → q2.size + 2 * ts2.length ≤ q.size + 2 * ts.length
  | 0 => ⟨fun _ _ => by simp [clause, Fits], fun _ _ => by simp [query, Fits], fun _ _ _ _ _ h => by simp [more] at h⟩
  | f + 1 => by
    obtain ⟨hc, hq, hm⟩ := fits f
    refine ⟨fun deep ts => ?_, fun deep ts => ?_, fun deep q ts q2 ts2 h => ?_⟩
    · cases ts with
      | nil => simp [clause, Fits]
      | cons t r =>
        unfold clause
        by_cases h1 : lp t = true
        · rw [if_pos h1]
          split
          · trivial
          · have := hq (deep + 1) r
            cases hx : query f (deep + 1) r with
            | err p e => trivial
            | ok q ts2 =>
              rw [hx] at this
              cases ts2 with
              | nil => trivial
              | cons t2 r2 =>
                simp only []
                split
                · simp only [Fits, List.length_cons] at this ⊢; omega
                · trivial
        · rw [if_neg h1]
          split
          · trivial
          · cases r with
            | nil => cases t.kind == 3 <;> simp [Fits, Qn.size, Qs.size]
            | cons t2 r2 =>
              cases t.kind == 3 with
              | false => simp [Fits, Qn.size, Qs.size]; omega
              | true =>
                simp only []
                split
                · split
                  · trivial
                  · cases r2 with
                    | nil => trivial
                    | cons t3 r3 =>
                      simp only []
                      split
                      · simp [Fits, Qn.size, Qs.size]; omega
                      · trivial
                · simp [Fits, Qn.size, Qs.size]; omega
    · unfold query
      have := hc deep ts
      cases hx : clause f deep ts with
      | err p e => trivial
      | ok q ts2 =>
        rw [hx] at this
        simp only []
        cases hy : more f deep q ts2 with
        | err p e => trivial
        | ok q3 ts3 =>
          have h2 := hm deep q ts2 q3 ts3 hy
          simp only [Fits] at this ⊢; omega
    · cases ts with
      | nil => simp [more] at h
      | cons t r =>
        unfold more at h
        by_cases h1 : operator t = 0
        · rw [if_pos h1] at h; cases h; exact Nat.le_refl _
        · rw [if_neg h1] at h
          have := hc deep r
          cases hx : clause f deep r with
          | err p e => rw [hx] at h; cases h
          | ok q3 ts3 =>
            rw [hx] at h this
            have h2 := hm deep _ ts3 q2 ts2 h
            rw [two_size] at h2
            simp only [Fits, List.length_cons] at this ⊢; omega
theorem parse_size (s : List UInt8) : (parse s).1.size ≤ 2 * s.length := by
  have h0 := (toks_good s (s.length + 1) 0 (by omega) (by omega)).2.1
  have h := (fits (4 * s.length + 9)).2.1 0 (tokens s)
  unfold parse
  cases hq : query (4 * s.length + 9) 0 (tokens s) with
  | err p e => simp [zero, Qn.size, Qs.size]
  | ok q ts =>
    rw [hq] at h
    change q.size + 2 + 2 * ts.length ≤ 2 * (toks s (s.length + 1) 0).length at h
    cases ts with
    | nil => simp [zero, Qn.size, Qs.size]
    | cons t r =>
      simp only []
      split
      · simp only [List.length_cons] at h; show q.size ≤ _; omega
      · simp [zero, Qn.size, Qs.size]
end Cq
