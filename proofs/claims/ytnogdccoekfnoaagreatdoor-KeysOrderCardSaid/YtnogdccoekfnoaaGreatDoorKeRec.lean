/-
  Keys of records in plain Lean: fields, titles, rows of keys in order. Own text; no program in sight. Conditions: none.
-/
import Derived.Test.YtnogdccoekfnoaaGreatDoorKeIsbn
import Derived.Lib.SlicesCompact
namespace Ke
/-! ### Rows in order -/
abbrev Row := List Bs
def pg (s : Bs) : Bool → Row → Row
  | true, [] => []
  | false, [] => [s]
  | d, x :: r => if s < x ∧ d = false then s :: x :: pg s true r else x :: pg s d r
def put (l : Row) (s : Bs) : Row := if s ∈ l then l else pg s false l
def Inc (l : Row) : Prop := l.Pairwise (· < ·)
theorem pg_true (s : Bs) : ∀ l, pg s true l = l
  | [] => rfl
  | x :: r => by unfold pg; rw [if_neg (by simp), pg_true s r]
theorem pg_mem (s : Bs) : ∀ (l : Row) (x : Bs), x ∈ pg s false l ↔ x = s ∨ x ∈ l
  | [], x => by simp [pg]
  | y :: r, x => by
    unfold pg
    by_cases h : s < y
    · rw [if_pos ⟨h, rfl⟩, pg_true]; simp
    · rw [if_neg (fun e => h e.1), List.mem_cons, pg_mem s r x, List.mem_cons]
      constructor
      · rintro (h | h | h) <;> simp [h]
      · rintro (h | h | h) <;> simp [h]
theorem lt_of {a b : Bs} (h : ¬ b < a) (hne : a ≠ b) : a < b := by
  have h1 : a ≤ b := List.not_lt.1 h
  rcases Decidable.em (a < b) with h2 | h2
  · exact h2
  · exact absurd (List.le_antisymm h1 (List.not_lt.1 h2)) hne
theorem pg_inc (s : Bs) : ∀ {l : Row}, Inc l → s ∉ l → Inc (pg s false l)
  | [], _, _ => by simp [pg, Inc]
  | y :: r, hl, hn => by
    have hl' := List.pairwise_cons.1 hl
    unfold pg
    by_cases h : s < y
    · rw [if_pos ⟨h, rfl⟩, pg_true]
      refine List.pairwise_cons.2 ⟨fun z hz => ?_, hl⟩
      rcases List.mem_cons.1 hz with rfl | hz
      · exact h
      · exact List.lt_trans h (hl'.1 z hz)
    · rw [if_neg (fun e => h e.1)]
      refine List.pairwise_cons.2 ⟨fun z hz => ?_, pg_inc s hl'.2 fun e => hn (.tail _ e)⟩
      rcases (pg_mem s r z).1 hz with rfl | hz
      · exact lt_of h fun e => hn (e ▸ .head _)
      · exact hl'.1 z hz
theorem put_mem (l : Row) (s x : Bs) : x ∈ put l s ↔ x = s ∨ x ∈ l := by
  unfold put
  split
  · rename_i h
    exact ⟨.inr, fun e => e.elim (fun e => e ▸ h) id⟩
  · exact pg_mem s l x
theorem put_inc {l : Row} (s : Bs) (h : Inc l) : Inc (put l s) := by
  unfold put
  split
  · exact h
  · rename_i hn; exact pg_inc s h hn
theorem puts_inc : ∀ (xs : Row) {l : Row}, Inc l → Inc (xs.foldl put l)
  | [], _, h => h
  | x :: r, _, h => puts_inc r (put_inc x h)
theorem puts_mem : ∀ (xs l : Row) (x : Bs), x ∈ xs.foldl put l ↔ x ∈ xs ∨ x ∈ l
  | [], _, _ => by simp
  | y :: r, l, x => by
    rw [List.foldl_cons, puts_mem r, put_mem, List.mem_cons]
    constructor
    · rintro (h | h | h) <;> simp [h]
    · rintro ((h | h) | h) <;> simp [h]
theorem inc_eq : ∀ {a b : Row}, Inc a → Inc b → (∀ x, x ∈ a ↔ x ∈ b) → a = b
  | [], [], _, _, _ => rfl
  | [], y :: _, _, _, h => absurd ((h y).2 (.head _)) (by simp)
  | x :: _, [], _, _, h => absurd ((h x).1 (.head _)) (by simp)
  | x :: r, y :: t, ha, hb, h => by
    have ha' := List.pairwise_cons.1 ha
    have hb' := List.pairwise_cons.1 hb
    have hxy : x = y := by
      rcases List.mem_cons.1 ((h x).1 (.head _)) with e | e
      · exact e
      · rcases List.mem_cons.1 ((h y).2 (.head _)) with e2 | e2
        · exact e2.symm
        · exact absurd (List.lt_trans (hb'.1 x e) (ha'.1 y e2)) (List.lt_irrefl _)
    subst hxy
    rw [inc_eq ha'.2 hb'.2 fun z => ⟨fun hz => ?_, fun hz => ?_⟩]
    · rcases List.mem_cons.1 ((h z).1 (.tail _ hz)) with rfl | e
      · exact absurd (ha'.1 z hz) (List.lt_irrefl _)
      · exact e
    · rcases List.mem_cons.1 ((h z).2 (.tail _ hz)) with rfl | e
      · exact absurd (hb'.1 z hz) (List.lt_irrefl _)
      · exact e
open Go.Lib in
theorem compact_part (d : Array Bs) (hs : ∀ i j, i < j → j < d.size → d[i]! ≤ d[j]!) : ∀ m, m ≤ d.size → Inc (compactUpTo d m) ∧ ∀ x, x ∈ compactUpTo d m ↔ ∃ j, j < m ∧ x = d[j]!
  | 0, _ => ⟨List.Pairwise.nil, fun x => by simp [compactUpTo]⟩
  | m + 1, hm => by
    obtain ⟨h1, h2⟩ := compact_part d hs m (by omega)
    rw [compactUpTo_succ]
    by_cases hk : keeps d m = true
    · rw [if_pos hk]
      refine ⟨List.pairwise_append.2 ⟨h1, List.pairwise_singleton _ _, fun a ha b hb => ?_⟩, fun x => ?_⟩
      · rw [List.mem_singleton.1 hb]
        obtain ⟨j, hj, rfl⟩ := (h2 a).1 ha
        have hk' : m = 0 ∨ d[m]! ≠ d[m - 1]! := of_decide_eq_true hk
        have hne := hk'.resolve_left (by omega)
        have h3 : d[m - 1]! ≤ d[m]! := hs _ _ (by omega) (by omega)
        have h4 : d[m - 1]! < d[m]! := lt_of (List.not_lt.2 h3) hne.symm
        rcases Nat.lt_or_ge j (m - 1) with h | h
        · have h5 : d[j]! ≤ d[m - 1]! := hs _ _ h (by omega)
          exact List.lt_of_le_of_lt h5 h4
        · have : j = m - 1 := by omega
          rw [this]; exact h4
      · rw [List.mem_append, h2, List.mem_singleton]
        constructor
        · rintro (⟨j, hj, rfl⟩ | rfl)
          · exact ⟨j, by omega, rfl⟩
          · exact ⟨m, by omega, rfl⟩
        · rintro ⟨j, hj, rfl⟩
          rcases Nat.lt_or_ge j m with h | h
          · exact .inl ⟨j, h, rfl⟩
          · have : j = m := by omega
            exact .inr (by rw [this])
    · rw [if_neg hk, List.append_nil]
      refine ⟨h1, fun x => (h2 x).trans ⟨fun ⟨j, hj, e⟩ => ⟨j, by omega, e⟩, fun ⟨j, hj, e⟩ => ?_⟩⟩
      rcases Nat.lt_or_ge j m with h | h
      · exact ⟨j, h, e⟩
      · have hk' : ¬ (m = 0 ∨ d[m]! ≠ d[m - 1]!) := fun e => hk (decide_eq_true e)
        have hjm : j = m := by omega
        subst hjm
        have h5 : d[j]! = d[j - 1]! := Decidable.not_not.1 fun e => hk' (.inr e)
        have h6 : j ≠ 0 := fun e => hk' (.inl e)
        exact ⟨j - 1, by omega, e.trans h5⟩
/-- Sorted, each once: as if put in one by one. -/
theorem compact_sorted (l : Row) : Go.Lib.compact (l.mergeSort fun x y => decide (x ≤ y)) = l.foldl put [] := by
  have hp : (l.mergeSort fun x y => decide (x ≤ y)).Pairwise (fun a b => decide (a ≤ b) = true) :=
    List.pairwise_mergeSort (le := fun x y : Bs => decide (x ≤ y)) (fun a b c h1 h2 => decide_eq_true (List.le_trans (of_decide_eq_true h1) (of_decide_eq_true h2))) (fun a b => by
      rcases List.le_total a b with h | h <;> simp [h]) l
  have hc := compact_part (l.mergeSort fun x y => decide (x ≤ y)).toArray (fun i j hij hj => by
    have hj' : j < (l.mergeSort fun x y => decide (x ≤ y)).length := by simpa using hj
    have hi' : i < (l.mergeSort fun x y => decide (x ≤ y)).toArray.size := Nat.lt_trans hij hj
    rw [getElem!_pos _ i hi', getElem!_pos _ j hj]
    simp only [List.getElem_toArray]
    exact of_decide_eq_true (List.pairwise_iff_getElem.1 hp i j (by omega) hj' hij)) _ (Nat.le_refl _)
  refine inc_eq ?_ (puts_inc l List.Pairwise.nil) fun x => ?_
  · unfold Go.Lib.compact
    simpa using hc.1
  · have h2 := hc.2 x
    simp only [List.size_toArray] at h2
    unfold Go.Lib.compact
    rw [h2, puts_mem]
    have hm : x ∈ l ↔ x ∈ l.mergeSort fun x y => decide (x ≤ y) := List.mem_mergeSort.symm
    rw [show (x ∈ l ∨ x ∈ []) = (x ∈ l) by simp, hm, List.mem_iff_getElem]
    constructor
    · rintro ⟨j, hj, rfl⟩
      refine ⟨j, hj, ?_⟩
      rw [getElem!_pos _ j (by simpa using hj)]; simp
    · rintro ⟨j, hj, rfl⟩
      refine ⟨j, hj, ?_⟩
      rw [getElem!_pos _ j (by simpa using hj)]; simp
/-! ### Records -/
structure Sub where
  code : UInt8
  text : Bs
/-- A field, with the value that stands for its subfields. -/
structure Fld where
  tag : Bs
  ind : Bs
  data : Bs
  sv : Go.Value
  subs : List Sub
def zf : Fld := ⟨[], [], [], .slice none 0 0, []⟩
def find (fs : List Fld) (tag : Bs) : Option Fld := fs.find? fun f => decide (f.tag = tag)
def first (fs : List Fld) (tag : Bs) : Fld := (find fs tag).getD zf
def texts (f : Fld) (codes : Bs) : Row := (f.subs.filter fun s => codes.contains s.code).map (·.text)
def textOf (f : Fld) (codes : Bs) : Bs := join (texts f codes)
def skip (f : Fld) : Nat := match f.ind[1]? with
  | some c => if digit c then c.toNat - 48 else 0
  | none => 0
def title (fs : List Fld) : Bs := sortKey (textOf (first fs [50, 52, 53]) [97, 98]) (skip (first fs [50, 52, 53]))
def isbnPre : Bs := [105, 115, 98, 110, 32]
def book (s : Sub) : Option Bs := if (isbn s.text).2 = true ∧ s.code = 97 then some (isbnPre ++ (isbn s.text).1) else none
def books (f : Fld) : Row := if f.tag = [48, 50, 48] then f.subs.filterMap book else []
def titles (fs : List Fld) : Row := if title fs = [] then [] else [[116, 105, 116, 108, 101, 32] ++ title fs ++ [32, 47, 32] ++ ((words (textOf (first fs [49, 48, 48]) [97])).head?.getD [])]
def raw (fs : List Fld) : Row := fs.flatMap books ++ titles fs
def all (fs : List Fld) : Row := (raw fs).foldl put []
end Ke
