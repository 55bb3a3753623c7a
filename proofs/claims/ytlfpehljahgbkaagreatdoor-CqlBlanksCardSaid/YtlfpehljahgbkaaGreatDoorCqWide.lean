/-
  How long the texts of a query are that is read, and what it is written as. Own text. Conditions: none.
-/
import Derived.Test.YtlfpehljahgbkaaGreatDoorCqRead
import Derived.Test.YtlfpehljahgbkaaGreatDoorCqDeep
namespace Cq
def tw : List Tok → Nat
  | [] => 0
  | t :: r => t.text.length + 10 + tw r
theorem tw_le {n : Nat} : ∀ ts : List Tok, (∀ t ∈ ts, t.text.length ≤ n) → tw ts ≤ ts.length * (n + 10)
  | [], _ => by simp [tw]
  | t :: r, h => by
    have h1 := h t (.head _)
    have h2 := tw_le r fun x hx => h x (.tail _ hx)
    simp only [tw, List.length_cons, Nat.add_mul, Nat.one_mul] at h2 ⊢
    omega
def Wide (ts : List Tok) : Res → Prop
  | .ok q ts2 => q.wide + tw ts2 ≤ tw ts
  | .err _ _ => True
theorem small_len (l : List UInt8) : (small l).length = l.length := by simp [small]
theorem two_wide (k : Nat) (a b : Qn) : (two k a b).wide = a.wide + b.wide := by
  simp only [two, Qn.wide, Qn.push, Qs.wide, List.length_nil]; omega
theorem wides : ∀ f, (∀ deep ts, Wide ts (clause f deep ts)) ∧ (∀ deep ts, Wide ts (query f deep ts)) ∧ ∀ deep q ts q2 ts2, more f deep q ts = .ok q2 ts2 → q2.wide + tw ts2 ≤ q.wide + tw ts
  | 0 => ⟨fun _ _ => by simp [clause, Wide], fun _ _ => by simp [query, Wide], fun _ _ _ _ _ h => by simp [more] at h⟩
  | f + 1 => by
    obtain ⟨hc, hq, hm⟩ := wides f
    refine ⟨fun deep ts => ?_, fun deep ts => ?_, fun deep q ts q2 ts2 h => ?_⟩
    · cases ts with
      | nil => simp [clause, Wide]
      | cons t r =>
        unfold clause
        by_cases h1 : lp t = true
        · rw [if_pos h1]
          split
          · trivial
          · have := hq (deep + 1) r
            cases hx : query f (deep + 1) r with
            | err p e => trivial
            | ok q ts2 =>
              rw [hx] at this
              cases ts2 with
              | nil => trivial
              | cons t2 r2 =>
                simp only []
                split
                · simp only [Wide, tw] at this ⊢; omega
                · trivial
        · rw [if_neg h1]
          have bare : Wide (t :: r) (.ok ⟨1, [97, 110, 121], [61], t.text, .nil⟩ r) := by simp [Wide, tw, Qn.wide, Qs.wide]; omega
          split
          · trivial
          · cases r with
            | nil => cases t.kind == 3 <;> exact bare
            | cons t2 r2 =>
              cases t.kind == 3 with
              | false => exact bare
              | true =>
                simp only []
                split
                · split
                  · trivial
                  · cases r2 with
                    | nil => trivial
                    | cons t3 r3 =>
                      simp only []
                      split
                      · simp only [Wide, tw, Qn.wide, Qs.wide, small_len]; omega
                      · trivial
                · exact bare
    · unfold query
      have := hc deep ts
      cases hx : clause f deep ts with
      | err p e => trivial
      | ok q ts2 =>
        rw [hx] at this
        simp only []
        cases hy : more f deep q ts2 with
        | err p e => trivial
        | ok q3 ts3 =>
          have h2 := hm deep q ts2 q3 ts3 hy
          simp only [Wide] at this ⊢; omega
    · cases ts with
      | nil => simp [more] at h
      | cons t r =>
        unfold more at h
        by_cases h1 : operator t = 0
        · rw [if_pos h1] at h; cases h; exact Nat.le_refl _
        · rw [if_neg h1] at h
          have := hc deep r
          cases hx : clause f deep r with
          | err p e => rw [hx] at h; cases h
          | ok q3 ts3 =>
            rw [hx] at h this
            have h2 := hm deep _ ts3 q2 ts2 h
            rw [two_wide] at h2
            simp only [Wide, tw] at this ⊢; omega
theorem parse_wide (s : List UInt8) : (parse s).1.wide ≤ (s.length + 1) * (s.length + 10) := by
  have h0 := toks_good s (s.length + 1) 0 (by omega) (by omega)
  have h1 : tw (tokens s) ≤ (tokens s).length * (s.length + 10) := tw_le _ h0.2.2
  have h2 : (tokens s).length * (s.length + 10) ≤ (s.length + 1) * (s.length + 10) := Nat.mul_le_mul_right _ h0.2.1
  have h := (wides (4 * s.length + 9)).2.1 0 (tokens s)
  have hz : zero.wide ≤ (s.length + 1) * (s.length + 10) := Nat.zero_le _
  unfold parse
  cases hq : query (4 * s.length + 9) 0 (tokens s) with
  | err p e => exact hz
  | ok q ts =>
    rw [hq] at h
    cases ts with
    | nil => exact hz
    | cons t r =>
      simp only []
      split
      · simp only [Wide] at h; show q.wide ≤ _; omega
      · exact hz
theorem write_len : ∀ (n : Nat) (q : Qn), q.size < n → form q = true → (write q).length + 7 ≤ 2 * q.wide + 11 * (q.size + 1)
  | 0, q, h, _ => by omega
  | n + 1, q, hn, hf => by
    by_cases hk : q.k = 1
    · rw [write_term hk]
      have h := (escape_len q.t).2
      simp only [text, List.length_append, List.length_cons, List.length_nil, Qn.wide]
      omega
    · obtain ⟨a, b, htw, h2, h4, ha, hb, hq⟩ := form_good hf hk
      have hsz := htw.size
      have h1 := write_len n a (by omega) ha
      have h3 := write_len n b (by omega) hb
      have hw : (word q.k).length ≤ 3 := by unfold word; split <;> (try split) <;> simp
      have hp : (paren b.k (write b)).length ≤ (write b).length + 2 := by unfold paren; split <;> simp <;> omega
      have e1 : q.wide = a.wide + b.wide := by rw [hq, two_wide]
      have e2 : q.size = a.size + b.size + 2 := by rw [hq, two_size]
      rw [write_two hk htw, e1, e2]
      simp only [List.length_append, List.length_cons, List.length_nil]
      omega
theorem write_le {q : Qn} (h : form q = true) : (write q).length ≤ 2 * q.wide + 11 * (q.size + 1) := by
  have := write_len _ q (Nat.lt_succ_self _) h
  omega
theorem wide_le : ∀ (n : Nat) (q : Qn), q.size < n → form q = true → q.wide ≤ (write q).length
  | 0, q, h, _ => by omega
  | n + 1, q, hn, hf => by
    by_cases hk : q.k = 1
    · obtain ⟨_, _, hq⟩ := form_leaf hf hk
      have hw : q.wide = q.i.length + q.r.length + q.t.length := by rw [hq]; simp [Qn.wide, Qs.wide]
      rw [write_term hk, hw]
      have h := (escape_len q.t).1
      simp only [text, List.length_append, List.length_cons, List.length_nil]
      omega
    · obtain ⟨a, b, htw, h2, h4, ha, hb, hq⟩ := form_good hf hk
      have hsz := htw.size
      have h1 := wide_le n a (by omega) ha
      have h3 := wide_le n b (by omega) hb
      have hp := paren_len b.k (write b)
      have e1 : q.wide = a.wide + b.wide := by rw [hq, two_wide]
      rw [write_two hk htw, e1]
      simp only [List.length_append, List.length_cons, List.length_nil]
      omega
theorem wide_write {q : Qn} (h : form q = true) : q.wide ≤ (write q).length := wide_le _ q (Nat.lt_succ_self _) h
end Cq
