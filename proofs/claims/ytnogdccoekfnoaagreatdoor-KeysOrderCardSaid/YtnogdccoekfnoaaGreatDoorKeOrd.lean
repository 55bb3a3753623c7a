/-
  The order of the fields 020 has no effect on the keys, in plain Lean. Own text; no program in sight. Conditions: none.
-/
import Derived.Test.YtnogdccoekfnoaaGreatDoorKeRec
namespace Ke
def isB (f : Fld) : Bool := decide (f.tag = [48, 50, 48])
def bks (fs : List Fld) : List Fld := fs.filter isB
def rst (fs : List Fld) : List Fld := fs.filter fun f => !isB f
def e856 (v : Go.Value) : Fld := ⟨[56, 53, 54], [], [], v, [⟨97, [48, 51, 48, 54, 52, 48, 54, 49, 53, 50]⟩]⟩
/-- The first k ones of a row that is turned by a distance. -/
def rot (bs : List Fld) (d k : Nat) : List Fld := (List.range k).map fun i => bs.getD ((i + d) % bs.length) zf
theorem bks_next {fs : List Fld} {k : Nat} {f : Fld} (h : fs[k]? = some f) : bks (fs.take (k + 1)) = bks (fs.take k) ++ (if f.tag = [48, 50, 48] then [f] else []) := by
  obtain ⟨hlt, hg⟩ := List.getElem?_eq_some_iff.1 h
  unfold bks
  rw [List.take_succ_eq_append_getElem hlt, hg, List.filter_append]
  by_cases ht : f.tag = [48, 50, 48]
  · rw [if_pos ht]; simp [isB, ht]
  · rw [if_neg ht]; simp [isB, ht]
theorem rst_next {fs : List Fld} {k : Nat} {f : Fld} (h : fs[k]? = some f) : rst (fs.take (k + 1)) = rst (fs.take k) ++ (if f.tag = [48, 50, 48] then [] else [f]) := by
  obtain ⟨hlt, hg⟩ := List.getElem?_eq_some_iff.1 h
  unfold rst
  rw [List.take_succ_eq_append_getElem hlt, hg, List.filter_append]
  by_cases ht : f.tag = [48, 50, 48]
  · rw [if_pos ht]; simp [isB, ht]
  · rw [if_neg ht]; simp [isB, ht]
theorem rot_next (bs : List Fld) (d k : Nat) : rot bs d (k + 1) = rot bs d k ++ [bs.getD ((k + d) % bs.length) zf] := by
  unfold rot; rw [List.range_succ, List.map_append]; rfl
theorem rot_len (bs : List Fld) (d k : Nat) : (rot bs d k).length = k := by simp [rot]
theorem rot_in {bs : List Fld} {d k : Nat} {f : Fld} (hb : bs ≠ []) (h : f ∈ rot bs d k) : f ∈ bs := by
  obtain ⟨i, _, rfl⟩ := List.mem_map.1 h
  have h0 : 0 < bs.length := List.length_pos_iff.2 hb
  have hlt : (i + d) % bs.length < bs.length := Nat.mod_lt _ h0
  rw [List.getD, List.getElem?_eq_getElem hlt]; exact List.getElem_mem hlt
theorem rot_mem (bs : List Fld) (d : Nat) (f : Fld) : f ∈ rot bs d bs.length ↔ f ∈ bs := by
  constructor
  · intro h
    rcases bs with _ | ⟨a, r⟩
    · simp [rot] at h
    · exact rot_in (by simp) h
  · intro h
    obtain ⟨j, hj, rfl⟩ := List.mem_iff_getElem.1 h
    have h0 : 0 < bs.length := by omega
    refine List.mem_map.2 ⟨(j + (bs.length - d % bs.length)) % bs.length, List.mem_range.2 (Nat.mod_lt _ h0), ?_⟩
    have hd : d % bs.length < bs.length := Nat.mod_lt _ h0
    have he : ((j + (bs.length - d % bs.length)) % bs.length + d) % bs.length = j := by
      have h1 : bs.length - d % bs.length + d = bs.length + bs.length * (d / bs.length) := by
        have := Nat.mod_add_div d bs.length; omega
      rw [Nat.mod_add_mod, Nat.add_assoc, h1, ← Nat.add_assoc, Nat.add_mul_mod_self_left, Nat.add_mod_right, Nat.mod_eq_of_lt hj]
    rw [he, List.getD, List.getElem?_eq_getElem hj]; rfl
theorem find_rst {tag : Bs} (ht : tag ≠ [48, 50, 48]) : ∀ fs : List Fld, find (rst fs) tag = find fs tag
  | [] => rfl
  | f :: r => by
    have ih := find_rst ht r
    unfold find rst at ih ⊢
    by_cases hf : f.tag = [48, 50, 48]
    · rw [List.filter_cons_of_neg (by simp [isB, hf]), List.find?_cons_of_neg (by simp [hf, Ne.symm ht]), ih]
    · rw [List.filter_cons_of_pos (by simp [isB, hf])]
      by_cases hg : f.tag = tag
      · rw [List.find?_cons_of_pos (by simp [hg]), List.find?_cons_of_pos (by simp [hg])]
      · rw [List.find?_cons_of_neg (by simp [hg]), List.find?_cons_of_neg (by simp [hg]), ih]
theorem find_other {tag : Bs} (ht : tag ≠ [48, 50, 48]) (h8 : tag ≠ [56, 53, 54]) (fs : List Fld) (v : Go.Value) {t : List Fld} (hb : ∀ f ∈ t, f.tag = [48, 50, 48]) : find (e856 v :: (rst fs ++ t)) tag = find fs tag := by
  rw [← find_rst ht fs]
  unfold find
  rw [List.find?_cons_of_neg (by simp [e856, Ne.symm h8]), List.find?_append]
  have : t.find? (fun f => decide (f.tag = tag)) = none := List.find?_eq_none.2 fun f hf => by simp [hb f hf, Ne.symm ht]
  rw [this, Option.or_none]
theorem bks_tag {fs : List Fld} {f : Fld} (h : f ∈ bks fs) : f.tag = [48, 50, 48] := by
  have := (List.mem_filter.1 h).2
  simpa [isB] using this
theorem order_law (fs : List Fld) (v : Go.Value) (d : Nat) : all fs = all (e856 v :: (rst fs ++ rot (bks fs) d (bks fs).length)) := by
  have hb : ∀ f ∈ rot (bks fs) d (bks fs).length, f.tag = [48, 50, 48] := fun f hf => bks_tag ((rot_mem _ _ _).1 hf)
  have ht : titles (e856 v :: (rst fs ++ rot (bks fs) d (bks fs).length)) = titles fs := by
    unfold titles title first
    rw [find_other (by decide) (by decide) fs v hb, find_other (by decide) (by decide) fs v hb]
  have hm : ∀ x, x ∈ raw fs ↔ x ∈ raw (e856 v :: (rst fs ++ rot (bks fs) d (bks fs).length)) := fun x => by
    unfold raw
    rw [ht, List.mem_append, List.mem_append]
    have key : x ∈ fs.flatMap books ↔ x ∈ (e856 v :: (rst fs ++ rot (bks fs) d (bks fs).length)).flatMap books := by
      rw [List.mem_flatMap, List.mem_flatMap]
      constructor
      · rintro ⟨f, hf, hx⟩
        by_cases hg : f.tag = [48, 50, 48]
        · exact ⟨f, List.mem_cons_of_mem _ (List.mem_append_right _ ((rot_mem _ _ _).2 (List.mem_filter.2 ⟨hf, by simp [isB, hg]⟩))), hx⟩
        · unfold books at hx; rw [if_neg hg] at hx; cases hx
      · rintro ⟨f, hf, hx⟩
        rcases List.mem_cons.1 hf with rfl | hf
        · unfold books e856 at hx; rw [if_neg (by simp)] at hx; cases hx
        · rcases List.mem_append.1 hf with hf | hf
          · exact ⟨f, (List.mem_filter.1 hf).1, hx⟩
          · exact ⟨f, (List.mem_filter.1 ((rot_mem _ _ _).1 hf)).1, hx⟩
    rw [key]
  refine inc_eq (puts_inc _ List.Pairwise.nil) (puts_inc _ List.Pairwise.nil) fun x => ?_
  unfold all
  rw [puts_mem, puts_mem, hm x]
theorem all_inc (fs : List Fld) : Inc (all fs) := puts_inc _ List.Pairwise.nil
theorem inc_at {l : Row} (h : Inc l) {j k : Nat} {x y : Bs} (hjk : j < k) (hx : l[j]? = some x) (hy : l[k]? = some y) : x < y := by
  obtain ⟨h1, rfl⟩ := List.getElem?_eq_some_iff.1 hx
  obtain ⟨h2, rfl⟩ := List.getElem?_eq_some_iff.1 hy
  exact List.pairwise_iff_getElem.1 h j k h1 h2 hjk
end Ke
