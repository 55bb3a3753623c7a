/-
  What cql's depth computes, as a plain function. Own text. Conditions: none.
-/
import Derived.Test.YtlfpehljahgbkaaGreatDoorCqForm
namespace Cq
/-- The number of letters in the texts of a query. -/
def Qs.wide : Qs → Nat
  | .nil => 0
  | .cons _ i r t ps rest => i.length + r.length + t.length + ps.wide + rest.wide
def Qn.wide (q : Qn) : Nat := q.i.length + q.r.length + q.t.length + q.ps.wide
theorem Qn.Two.wide {q a b : Qn} (h : q.Two a b) : a.wide ≤ q.wide ∧ b.wide ≤ q.wide := by
  unfold Qn.wide; rw [show q.ps = _ from h]; simp only [Qn.push, Qs.wide]; omega
def deep (q : Qn) : Int := if form q then (depth q : Int) else -1
theorem deep_term {q : Qn} (h : q.k = 1) : deep q = if (indexes.contains q.i && relations.contains q.r && q.ps.len == 0) then 0 else -1 := by
  unfold deep; rw [form_term h, depth_term h]; rfl
theorem deep_bad {q : Qn} (h : q.k ≠ 1) (h2 : q.k < 2 ∨ q.k > 4 ∨ q.i ++ q.r ++ q.t ≠ [] ∨ q.ps.len ≠ 2) : deep q = -1 := by
  unfold deep
  rw [form_bad h (by
    rcases h2 with h2 | h2 | h2 | h2
    · exact .inl h2
    · exact .inr (.inl h2)
    · by_cases hi : q.i = []
      · by_cases hr : q.r = []
        · exact .inr (.inr (.inr (.inr (.inl fun ht => h2 (by simp [hi, hr, ht])))))
        · exact .inr (.inr (.inr (.inl hr)))
      · exact .inr (.inr (.inl hi))
    · exact .inr (.inr (.inr (.inr (.inr h2)))))]
  rfl
theorem deep_two {q a b : Qn} (h : q.k ≠ 1) (h2 : ¬ (q.k < 2 ∨ q.k > 4 ∨ q.i ≠ [] ∨ q.r ≠ [] ∨ q.t ≠ [] ∨ q.ps.len ≠ 2)) (ht : q.Two a b) : deep q = if min (deep a) (deep b) < 0 then -1 else max (deep a) (deep b + up b.k) := by
  unfold deep
  rw [form_two h h2 ht, depth_two h ht]
  cases form a <;> cases form b <;> simp <;> omega
theorem deep_ge (q : Qn) : -1 ≤ deep q := by unfold deep; split <;> omega
theorem depth_size : ∀ (n : Nat) (q : Qn), q.size < n → form q = true → depth q ≤ q.size
  | 0, q, h, _ => by omega
  | n + 1, q, h, hf => by
    rcases form_tree hf with hk | ⟨hk, _, _, a, b, htw, ha, hb⟩
    · rw [depth_term hk]; exact Nat.zero_le _
    · have h1 := htw.size
      have ha' := depth_size n a (by omega) ha
      have hb' := depth_size n b (by omega) hb
      have hu : up b.k ≤ 1 := by unfold up; split <;> omega
      rw [depth_two hk htw]
      omega
theorem deep_le (q : Qn) : deep q ≤ q.size := by
  unfold deep
  split
  · rename_i h; have := depth_size _ q (Nat.lt_succ_self _) h; omega
  · omega
theorem deep_right (q : Qn) : (decide (deep q ≥ 0) && decide (deep q ≤ 50)) = right q := by
  unfold deep right
  cases form q <;> simp
  omega
end Cq
