/-
  The pairs of a list of records, row after row. Own text. Conditions: none.
-/
import Derived.Test.YtadnofaleepkmaaGreatDoorPA10
namespace Go.Proofs.YtadnofaleepkmaaGreatDoor
open Go Go.Sx
def prow (rs : List Rc) (i k : Nat) : Kq.Prs := ((List.range k).filter fun b => decide (i < b) && Ke.common (ksOf rs i) (ksOf rs b) && smOf rs i b).map fun b => (i, b)
def pto (rs : List Rc) (i : Nat) : Kq.Prs := (List.range i).flatMap fun a => prow rs a rs.length
theorem pto_all (rs : List Rc) : pto rs rs.length = pairsN rs := rfl
theorem pto_next (rs : List Rc) (i : Nat) : pto rs (i + 1) = pto rs i ++ prow rs i rs.length := by unfold pto; rw [List.range_succ, List.flatMap_append]; simp
theorem prow_start (rs : List Rc) (i : Nat) : prow rs i (i + 1) = [] := by
  unfold prow
  rw [List.filter_eq_nil_iff.2 fun b hb => by have := List.mem_range.1 hb; simp; omega]; rfl
theorem prow_next (rs : List Rc) {i k : Nat} (h : i < k) : prow rs i (k + 1) = prow rs i k ++ if (Ke.common (ksOf rs i) (ksOf rs k) && smOf rs i k) = true then [(i, k)] else [] := by
  unfold prow
  rw [List.range_succ, List.filter_append, List.map_append]
  by_cases hc : (Ke.common (ksOf rs i) (ksOf rs k) && smOf rs i k) = true
  · rw [if_pos hc]
    have : (decide (i < k) && Ke.common (ksOf rs i) (ksOf rs k) && smOf rs i k) = true := by rw [Bool.and_assoc, hc, decide_eq_true h]; rfl
    simp [this]
  · rw [if_neg hc]
    have : (decide (i < k) && Ke.common (ksOf rs i) (ksOf rs k) && smOf rs i k) = false := by rw [Bool.and_assoc, Bool.eq_false_iff.2 hc, Bool.and_false]
    simp [this]
theorem prow_len (rs : List Rc) (i k : Nat) : (prow rs i k).length ≤ k := by
  unfold prow
  rw [List.length_map]
  have := List.length_filter_le (fun b => decide (i < b) && Ke.common (ksOf rs i) (ksOf rs b) && smOf rs i b) (List.range k)
  rw [List.length_range] at this; exact this
theorem pto_len (rs : List Rc) : ∀ i, (pto rs i).length ≤ i * rs.length
  | 0 => by simp [pto]
  | i + 1 => by
    have h1 := pto_len rs i
    have h2 := prow_len rs i rs.length
    rw [pto_next, List.length_append, Nat.add_mul]; omega
theorem pairs_len0 (rs : List Rc) (h : rs.length ≤ 100000) : (pairsN rs).length ≤ 10000000000 := by
  have := pto_len rs rs.length
  rw [pto_all] at this
  exact sq_le h this
theorem contains_any (l : List (List UInt8)) (x : List UInt8) : l.contains x = l.any fun k => x == k := by
  induction l with
  | nil => rfl
  | cons a r ih => rw [List.contains_cons, List.any_cons, ih]
end Go.Proofs.YtadnofaleepkmaaGreatDoor
