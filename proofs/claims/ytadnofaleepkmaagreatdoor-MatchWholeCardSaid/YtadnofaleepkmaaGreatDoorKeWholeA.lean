/-
  The parts hold each number once, in plain Lean. Own text; no program in sight. Conditions: none.
-/
import Derived.Test.YtadnofaleepkmaaGreatDoorPA8
namespace Kp
def grp (n : Nat) (L : Nat → Nat) (r : Nat) : List Nat := (List.range n).filter fun k => decide (L k = r)
theorem parts_grp (n : Nat) (L : Nat → Nat) : parts n L = (roots n L).map (grp n L) := rfl
theorem grp_mem {n : Nat} {L : Nat → Nat} {r x : Nat} : x ∈ grp n L r ↔ x < n ∧ L x = r := by
  unfold grp; rw [List.mem_filter, List.mem_range, decide_eq_true_eq]
theorem roots_mem {n : Nat} {L : Nat → Nat} {r : Nat} : r ∈ roots n L ↔ r < n ∧ L r = r := by
  unfold roots; rw [List.mem_filter, List.mem_range, decide_eq_true_eq]
theorem grp_inc (n : Nat) (L : Nat → Nat) (r : Nat) : (grp n L r).Pairwise (· < ·) := List.pairwise_lt_range.filter _
theorem roots_inc (n : Nat) (L : Nat → Nat) : (roots n L).Pairwise (· < ·) := List.pairwise_lt_range.filter _
theorem inc_nodup {l : List Nat} (h : l.Pairwise (· < ·)) : l.Nodup := List.Pairwise.imp (R := (· < ·)) (fun {a b} h => (show a ≠ b by omega)) h
theorem inc_at {l : List Nat} (h : l.Pairwise (· < ·)) {i j a b : Nat} (hij : i < j) (ha : l[i]? = some a) (hb : l[j]? = some b) : a < b := by
  obtain ⟨h1, e1⟩ := List.getElem?_eq_some_iff.1 ha
  obtain ⟨h2, e2⟩ := List.getElem?_eq_some_iff.1 hb
  rw [← e1, ← e2]; exact List.pairwise_iff_getElem.1 h i j h1 h2 hij
theorem flat_nodup {n : Nat} {L : Nat → Nat} : ∀ {R : List Nat}, R.Nodup → (R.flatMap (grp n L)).Nodup
  | [], _ => List.nodup_nil
  | r :: R, h => by
    rw [List.nodup_cons] at h
    rw [List.flatMap_cons, List.nodup_append]
    refine ⟨inc_nodup (grp_inc n L r), flat_nodup h.2, fun x hx y hy e => ?_⟩
    subst e
    obtain ⟨s, hs, hy⟩ := List.mem_flatMap.1 hy
    have h1 := (grp_mem.1 hx).2
    have h2 := (grp_mem.1 hy).2
    exact h.1 (by rw [← h1, h2]; exact hs)
theorem flat_mem {n : Nat} {ps : Prs} {L : Nat → Nat} (hL : Lab n ps L) {x : Nat} : x ∈ (roots n L).flatMap (grp n L) ↔ x < n := by
  rw [List.mem_flatMap]
  constructor
  · rintro ⟨r, _, hx⟩; exact (grp_mem.1 hx).1
  · intro hx
    have h1 := hL.le x hx
    exact ⟨L x, roots_mem.2 ⟨by omega, hL.fix hx⟩, grp_mem.2 ⟨hx, rfl⟩⟩
theorem sub_lenN {l m : List Nat} (hl : l.Nodup) (h : ∀ x ∈ l, x ∈ m) : l.length ≤ m.length := by
  induction l generalizing m with
  | nil => simp
  | cons a r ih =>
    rw [List.nodup_cons] at hl
    have hm := h a (.head _)
    have := ih (m := m.erase a) hl.2 fun x hx => by
      have hne : x ≠ a := fun e => hl.1 (e ▸ hx)
      exact (List.mem_erase_of_ne hne).2 (h x (.tail _ hx))
    rw [List.length_erase_of_mem hm] at this
    have h0 : 0 < m.length := List.length_pos_of_mem hm
    simp only [List.length_cons]; omega
theorem flat_all {n : Nat} {ps : Prs} {L : Nat → Nat} (hL : Lab n ps L) : ((roots n L).flatMap (grp n L)).length = n := by
  have h1 := sub_lenN (flat_nodup (n := n) (L := L) (inc_nodup (roots_inc n L))) (m := List.range n) fun x hx => List.mem_range.2 ((flat_mem hL).1 hx)
  have h2 := sub_lenN (l := List.range n) List.nodup_range (m := (roots n L).flatMap (grp n L)) fun x hx => (flat_mem hL).2 (List.mem_range.1 hx)
  rw [List.length_range] at h1 h2
  omega
theorem grp_head {n : Nat} {ps : Prs} {L : Nat → Nat} (hL : Lab n ps L) {r : Nat} (hr : r ∈ roots n L) : (grp n L r)[0]? = some r := by
  obtain ⟨h1, h2⟩ := roots_mem.1 hr
  have hm : r ∈ grp n L r := grp_mem.2 ⟨h1, h2⟩
  obtain ⟨j, hj, e⟩ := List.mem_iff_getElem.1 hm
  have h0 : 0 < (grp n L r).length := by omega
  have hx : (grp n L r)[0]? = some (grp n L r)[0] := List.getElem?_eq_getElem h0
  have hxm := grp_mem.1 (List.getElem_mem h0)
  have hle := hL.le _ hxm.1
  rw [hxm.2] at hle
  rcases Nat.eq_zero_or_pos j with hj0 | hj0
  · subst hj0; rw [hx, e]
  · have := inc_at (grp_inc n L r) hj0 hx (List.getElem?_eq_getElem hj)
    omega
/-- Which numbers were marked, and with what. -/
structure Mk (n : Nat) (L : Nat → Nat) (R A done : List Nat) : Prop where
  len : A.length = n
  one : ∀ x, x ∈ done → ∃ j, A.getD x 0 = j + 1 ∧ R[j]? = some (L x)
  non : ∀ x, x ∉ done → A.getD x 0 = 0
theorem Mk.start (n : Nat) (L : Nat → Nat) (R : List Nat) : Mk n L R (List.replicate n 0) [] := by
  refine ⟨List.length_replicate, fun x hx => (by cases hx), fun x _ => ?_⟩
  rw [List.getD, List.getElem?_replicate]
  split <;> rfl
theorem Mk.put {n : Nat} {L : Nat → Nat} {R A done : List Nat} (h : Mk n L R A done) {x i : Nat} (hx : x < n) (hi : R[i]? = some (L x)) : Mk n L R (A.set x (i + 1)) (done ++ [x]) := by
  have hxl : x < A.length := by rw [h.len]; exact hx
  refine ⟨by rw [List.length_set]; exact h.len, fun y hy => ?_, fun y hy => ?_⟩
  · rw [getD_set hxl]
    by_cases e : y = x
    · subst e; rw [if_pos rfl]; exact ⟨i, rfl, hi⟩
    · rw [if_neg e]
      rcases List.mem_append.1 hy with hy | hy
      · exact h.one y hy
      · exact absurd (List.mem_singleton.1 hy) e
  · have h1 : y ∉ done ∧ y ≠ x := ⟨fun e => hy (List.mem_append_left _ e), fun e => hy (by rw [e]; simp)⟩
    rw [getD_set hxl, if_neg h1.2]
    exact h.non y h1.1
theorem Mk.same {n : Nat} {L : Nat → Nat} {R A done : List Nat} (h : Mk n L R A done) (hR : R.Nodup) {a b : Nat} (ha : a ∈ done) (hb : b ∈ done) (hab : L a = L b) : A.getD a 0 = A.getD b 0 := by
  obtain ⟨i, h1, h2⟩ := h.one a ha
  obtain ⟨j, h3, h4⟩ := h.one b hb
  rw [hab] at h2
  obtain ⟨g1, e1⟩ := List.getElem?_eq_some_iff.1 h2
  obtain ⟨g2, e2⟩ := List.getElem?_eq_some_iff.1 h4
  have hij : i = j := by
    rcases Nat.lt_trichotomy i j with h | h | h
    · exact absurd (e1.trans e2.symm) (List.pairwise_iff_getElem.1 hR i j g1 g2 h)
    · exact h
    · exact absurd (e2.trans e1.symm) (List.pairwise_iff_getElem.1 hR j i g2 g1 h)
  rw [h1, h3, hij]
/-- One number more of a part. -/
theorem flat_next {n : Nat} {L : Nat → Nat} {i k r x : Nat} (hr : (roots n L)[i]? = some r) (hx : (grp n L r)[k]? = some x) : x ∉ ((roots n L).take i).flatMap (grp n L) ++ (grp n L r).take k ∧ (grp n L r).take (k + 1) = (grp n L r).take k ++ [x] := by
  obtain ⟨h1, e1⟩ := List.getElem?_eq_some_iff.1 hr
  obtain ⟨h2, e2⟩ := List.getElem?_eq_some_iff.1 hx
  refine ⟨fun hm => ?_, by rw [List.take_succ_eq_append_getElem h2, e2]⟩
  rcases List.mem_append.1 hm with hm | hm
  · obtain ⟨s, hs, hxs⟩ := List.mem_flatMap.1 hm
    have e3 : s = r := ((grp_mem.1 hxs).2).symm.trans (grp_mem.1 (List.mem_of_getElem? hx)).2
    obtain ⟨j, hj, e4⟩ := List.mem_iff_getElem.1 hs
    rw [List.getElem_take] at e4
    have hji : j < i := by rw [List.length_take] at hj; omega
    have := inc_at (roots_inc n L) hji (List.getElem?_eq_getElem (by omega)) hr
    omega
  · obtain ⟨j, hj, e4⟩ := List.mem_iff_getElem.1 hm
    rw [List.getElem_take] at e4
    have hjk : j < k := by rw [List.length_take] at hj; omega
    have := inc_at (grp_inc n L r) hjk (List.getElem?_eq_getElem (by omega)) hx
    omega
theorem flat_part {n : Nat} {L : Nat → Nat} {i r : Nat} (hr : (roots n L)[i]? = some r) : ((roots n L).take (i + 1)).flatMap (grp n L) = ((roots n L).take i).flatMap (grp n L) ++ grp n L r := by
  obtain ⟨h1, e1⟩ := List.getElem?_eq_some_iff.1 hr
  rw [List.take_succ_eq_append_getElem h1, e1, List.flatMap_append]; simp
end Kp
