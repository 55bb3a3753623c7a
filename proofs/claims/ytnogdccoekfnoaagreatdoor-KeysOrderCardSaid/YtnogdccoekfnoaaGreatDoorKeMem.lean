/-
  The table of letters as a map; texts in the memory of the walks. Own text; no program in sight. Conditions: none.
-/
import Derived.Test.YtnogdccoekfnoaaGreatDoorSxText
import Derived.Test.YtnogdccoekfnoaaGreatDoorKeSpec
import Derived.Lib.Bytealg
namespace Ke
open Go Go.Sx
def mtabF : Nat → List (Nat × Bs) → ML Int
  | _, [] => []
  | i, (c, s) :: r => ((c : Int), Go.Sx.str s, i) :: mtabF (i + 1) r
def mtab (l : List (Nat × Bs)) : ML Int := mtabF 0 l
theorem cc (c d : Nat) : ((c : Int) == (d : Int)) = (c == d) := by rw [Bool.eq_iff_iff, beq_iff_eq, beq_iff_eq]; omega
theorem mget_tab : ∀ (l : List (Nat × Bs)) (i c : Nat), mget (mtabF i l) (c : Int) = (l.lookup c).map Go.Sx.str
  | [], _, _ => rfl
  | (d, s) :: r, i, c => by
    simp only [mtabF, mget, cc, List.lookup_cons]
    by_cases h : c = d
    · subst h; simp
    · have : (c == d) = false := by simpa using h
      rw [this]
      simp only [Bool.false_eq_true, if_false]
      exact mget_tab r (i + 1) c
theorem mset_tab : ∀ (l : List (Nat × Bs)) (i c : Nat) (s : Bs), c ∉ l.map (·.1) → mset (mtabF i l) (c : Int) (Go.Sx.str s) (i + l.length) = mtabF i (l ++ [(c, s)])
  | [], _, _, _, _ => rfl
  | (d, t) :: r, i, c, s, h => by
    simp only [List.map_cons, List.mem_cons, not_or] at h
    have : (c == d) = false := by simpa using h.1
    simp only [mtabF, mset, cc, this, List.cons_append, List.length_cons]
    simp only [Bool.false_eq_true, if_false]
    rw [← mset_tab r (i + 1) c s h.2, show i + 1 + r.length = i + (r.length + 1) by omega]
theorem lookup_none : ∀ {l : List (Nat × Bs)} {c : Nat}, c ∉ l.map (·.1) → l.lookup c = none
  | [], _, _ => rfl
  | (d, t) :: r, c, h => by
    simp only [List.map_cons, List.mem_cons, not_or] at h
    have : (c == d) = false := by simpa using h.1
    rw [List.lookup_cons, this]; exact lookup_none h.2
theorem mset_new {l : List (Nat × Bs)} {c : Nat} {s : Bs} (h : c ∉ l.map (·.1)) : mset (mtab l) (c : Int) (Go.Sx.str s) l.length = mtab (l ++ [(c, s)]) ∧ mclk (mtab l) (c : Int) l.length = (l ++ [(c, s)]).length := by
  refine ⟨by have := mset_tab l 0 c s h; rwa [Nat.zero_add] at this, ?_⟩
  unfold mclk mtab
  rw [mget_tab, lookup_none h]
  simp
def prows : List Bs := rows.map fun p => p.1 ++ 32 :: p.2
theorem rowTab_app : ∀ (x y : List (Bs × Bs)), rowTab (x ++ y) = rowTab x ++ rowTab y
  | [], _ => rfl
  | (a, b) :: r, y => by simp only [List.cons_append, rowTab, rowTab_app r y, List.append_assoc]
theorem rowTab_next {k : Nat} {a b : Bs} (h : rows[k]? = some (a, b)) : rowTab (rows.take (k + 1)) = rowTab (rows.take k) ++ (runes b).map (·, a) := by
  obtain ⟨hlt, hg⟩ := List.getElem?_eq_some_iff.1 h
  rw [List.take_succ_eq_append_getElem hlt, hg, rowTab_app]
  simp [rowTab]
theorem fresh {k c : Nat} {a b : Bs} {x y : List Nat} (h : rows[k]? = some (a, b)) (hr : runes b = x ++ c :: y) : c ∉ (rowTab (rows.take k) ++ x.map (·, a)).map (·.1) := by
  have hn := tab_nodup
  have e : rows = rows.take k ++ (a, b) :: rows.drop (k + 1) := by
    obtain ⟨hlt, hg⟩ := List.getElem?_eq_some_iff.1 h
    rw [← hg, ← List.drop_eq_getElem_cons hlt, List.take_append_drop]
  rw [← tab_eq, e, rowTab_app] at hn
  simp only [rowTab, hr, List.map_append, List.map_cons] at hn
  have e2 : (rowTab (rows.take k)).map (·.1) ++ ((x.map (·, a)).map (·.1) ++ c :: (y.map (·, a)).map (·.1) ++ (rowTab (rows.drop (k + 1))).map (·.1)) = ((rowTab (rows.take k)).map (·.1) ++ (x.map (·, a)).map (·.1)) ++ c :: ((y.map (·, a)).map (·.1) ++ (rowTab (rows.drop (k + 1))).map (·.1)) := by simp
  rw [e2, List.nodup_append] at hn
  intro hc
  rw [List.map_append] at hc
  exact hn.2.2 c hc c (.head _) rfl
theorem row_parts : ∀ p ∈ rows, p.1.all (fun c => decide (c ≠ 32)) = true ∧ p.1.length ≤ 10 ∧ p.2.length ≤ 100 := by decide +kernel
/-! ### Cut -/
def cutAt (c : UInt8) : Bs → Bs × Bs × Bool
  | [] => ([], [], false)
  | d :: r => if d = c then ([], r, true) else (d :: (cutAt c r).1, (cutAt c r).2)
theorem cutAt_row : ∀ {a b : Bs} {c : UInt8}, a.all (fun d => decide (d ≠ c)) = true → cutAt c (a ++ c :: b) = (a, b, true)
  | [], b, c, _ => by simp [cutAt]
  | d :: r, b, c, h => by
    rw [List.all_cons, Bool.and_eq_true] at h
    have h1 : d ≠ c := of_decide_eq_true h.1
    simp only [List.cons_append, cutAt, if_neg h1, cutAt_row h.2]
theorem cut_index : ∀ (c : UInt8) (s : Bs), (Go.Lib.indexByte s c = -1 ∧ cutAt c s = (s, [], false)) ∨ ∃ n : Nat, Go.Lib.indexByte s c = n ∧ n < s.length ∧ cutAt c s = (s.take n, s.drop (n + 1), true)
  | c, [] => .inl ⟨rfl, rfl⟩
  | c, d :: r => by
    unfold Go.Lib.indexByte
    by_cases hd : d = c
    · subst hd
      exact .inr ⟨0, by simp, by simp, by simp [cutAt]⟩
    · have hb : (d == c) = false := by simpa using hd
      rw [hb]
      rcases cut_index c r with ⟨h1, h2⟩ | ⟨n, g1, g2, g3⟩
      · rw [h1]
        exact .inl ⟨by simp, by simp [cutAt, hd, h2]⟩
      · rw [g1]
        have hn : ((n : Int) == -1) = false := by
          rw [beq_eq_false_iff_ne]; omega
        rw [hn]
        exact .inr ⟨n + 1, by simp, by simp; omega, by simp [cutAt, hd, g3]⟩
/-! ### What is left of a text -/
theorem runes_split {b : Bs} {i : Nat} {x : List Nat} (h : runes b = x ++ runes (b.drop i)) (hi : i < b.length) : runes b = x ++ (Go.Utf8.decode ⟨b.toArray⟩ i).1 :: runes (b.drop (i + (Go.Utf8.decode ⟨b.toArray⟩ i).2)) := by
  rw [h, runes_at hi]
theorem runes_split' {b : Bs} {i : Nat} {x : List Nat} (h : runes b = x ++ runes (b.drop i)) (hi : i < b.length) : runes b = (x ++ [(Go.Utf8.decode ⟨b.toArray⟩ i).1]) ++ runes (b.drop (i + (Go.Utf8.decode ⟨b.toArray⟩ i).2)) := by
  rw [runes_split h hi]; simp
theorem runes_done {b : Bs} {i : Nat} {x : List Nat} (h : runes b = x ++ runes (b.drop i)) (hi : ¬ i < b.length) : runes b = x := by
  rw [h, runes_end (by omega), List.append_nil]
end Ke
