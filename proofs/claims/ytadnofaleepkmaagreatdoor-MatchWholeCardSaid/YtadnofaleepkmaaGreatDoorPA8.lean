/-
  Own texts on the laws of match, joined: the logic, and contracts of functions. Conditions: none.
-/
import Derived.Test.YtadnofaleepkmaaGreatDoorPA7
import Derived.Test.YtadnofaleepkmaaGreatDoorPA2
import Derived.KernelRfl
import Derived.Maps.RangeRun
import Derived.Laws.StructEq
section
namespace Kp
abbrev Prs := List (Nat × Nat)
/-- The pairs that count, as numbers. -/
def valid (n : Nat) (ps : List (Int × Int)) : Prs := ps.filterMap fun (p : Int × Int) => if 0 ≤ p.1 ∧ p.1 < (n : Int) ∧ 0 ≤ p.2 ∧ p.2 < (n : Int) then some (p.1.toNat, p.2.toNat) else none
theorem valid_lt {n : Nat} {ps : List (Int × Int)} {p : Nat × Nat} (h : p ∈ valid n ps) : p.1 < n ∧ p.2 < n := by
  obtain ⟨q, _, hq⟩ := List.mem_filterMap.1 h
  split at hq
  · cases hq; dsimp only; omega
  · cases hq
inductive Con (ps : Prs) : Nat → Nat → Prop
  | rfl (i : Nat) : Con ps i i
  | one {i j : Nat} : (i, j) ∈ ps → Con ps i j
  | sym {i j : Nat} : Con ps i j → Con ps j i
  | trans {i j k : Nat} : Con ps i j → Con ps j k → Con ps i k
/-- A label for each number: the least of its part. -/
structure Lab (n : Nat) (ps : Prs) (L : Nat → Nat) : Prop where
  le : ∀ i, i < n → L i ≤ i
  con : ∀ i, i < n → Con ps (L i) i
  eq : ∀ i j, (i, j) ∈ ps → L i = L j
theorem Con.same {n : Nat} {ps : Prs} {L : Nat → Nat} (h : Lab n ps L) {i j : Nat} (hc : Con ps i j) : L i = L j := by
  induction hc with
  | rfl => rfl
  | one h1 => exact h.eq _ _ h1
  | sym _ ih => exact ih.symm
  | trans _ _ ih1 ih2 => exact ih1.trans ih2
theorem Lab.unique {n : Nat} {ps : Prs} {L M : Nat → Nat} (h : Lab n ps L) (k : Lab n ps M) {i : Nat} (hi : i < n) : L i = M i := by
  have h1 := h.le i hi
  have k1 := k.le i hi
  have h2 : M (L i) = M i := (h.con i hi).same k
  have k2 : L (M i) = L i := (k.con i hi).same h
  have h3 := k.le (L i) (by omega)
  have k3 := h.le (M i) (by omega)
  omega
theorem Lab.fix {n : Nat} {ps : Prs} {L : Nat → Nat} (h : Lab n ps L) {i : Nat} (hi : i < n) : L (L i) = L i := (h.con i hi).same h
/-- The parts that labels give. -/
def parts (n : Nat) (L : Nat → Nat) : List (List Nat) := ((List.range n).filter fun i => decide (L i = i)).map fun i => (List.range n).filter fun k => decide (L k = i)
theorem parts_eq {n : Nat} {L M : Nat → Nat} (h : ∀ i, i < n → L i = M i) : parts n L = parts n M := by
  unfold parts
  have h1 : (List.range n).filter (fun i => decide (L i = i)) = (List.range n).filter (fun i => decide (M i = i)) := List.filter_congr fun i hi => by rw [h i (List.mem_range.1 hi)]
  rw [h1]
  refine List.map_congr_left fun i _ => List.filter_congr fun k hk => by rw [h k (List.mem_range.1 hk)]
/-! ### Roots -/
def rootOf (P : List Nat) (i : Nat) : Nat := if _h : P.getD i 0 < i then rootOf P (P.getD i 0) else i
termination_by i
theorem rootOf_step {P : List Nat} {i : Nat} (h : P.getD i 0 < i) : rootOf P i = rootOf P (P.getD i 0) := by
  rw [rootOf, dif_pos h]
theorem rootOf_stop {P : List Nat} {i : Nat} (h : ¬ P.getD i 0 < i) : rootOf P i = i := by
  rw [rootOf, dif_neg h]
theorem rootOf_le (P : List Nat) (i : Nat) : rootOf P i ≤ i := by
  induction i using Nat.strongRecOn with
  | _ i ih =>
    by_cases h : P.getD i 0 < i
    · rw [rootOf_step h]; have := ih _ h; omega
    · rw [rootOf_stop h]; exact Nat.le_refl _
theorem rootOf_end (P : List Nat) (i : Nat) : ¬ P.getD (rootOf P i) 0 < rootOf P i := by
  induction i using Nat.strongRecOn with
  | _ i ih =>
    by_cases h : P.getD i 0 < i
    · rw [rootOf_step h]; exact ih _ h
    · rw [rootOf_stop h]; exact h
theorem rootOf_root (P : List Nat) (i : Nat) : rootOf P (rootOf P i) = rootOf P i := rootOf_stop (rootOf_end P i)
theorem getD_set {P : List Nat} {i j r : Nat} (hi : i < P.length) : (P.set i r).getD j 0 = if j = i then r else P.getD j 0 := by
  unfold List.getD
  rw [List.getElem?_set]
  by_cases h : i = j
  · subst h; simp [hi]
  · rw [if_neg h, if_neg (Ne.symm h)]
/-- A shorter way to the root. -/
theorem rootOf_short {P : List Nat} {i : Nat} (hi : i < P.length) : ∀ j, rootOf (P.set i (rootOf P i)) j = rootOf P j := by
  intro j
  induction j using Nat.strongRecOn with
  | _ j ih =>
    by_cases hj : j = i
    · subst hj
      have hg : (P.set j (rootOf P j)).getD j 0 = rootOf P j := by rw [getD_set hi, if_pos rfl]
      have hle := rootOf_le P j
      by_cases h : rootOf P j < j
      · rw [rootOf_step (by rw [hg]; exact h), hg, ih _ h, rootOf_root]
      · rw [rootOf_stop (by rw [hg]; exact h)]; omega
    · have hg : (P.set i (rootOf P i)).getD j 0 = P.getD j 0 := by rw [getD_set hi, if_neg hj]
      by_cases h : P.getD j 0 < j
      · rw [rootOf_step (by rw [hg]; exact h), hg, ih _ h, rootOf_step h]
      · rw [rootOf_stop (by rw [hg]; exact h), rootOf_stop h]
/-- Two roots joined. -/
theorem rootOf_join {P : List Nat} {M m : Nat} (hM : M < P.length) (hmM : m < M) (hr : rootOf P M = M) (hm : rootOf P m = m) : ∀ j, rootOf (P.set M m) j = if rootOf P j = M then m else rootOf P j := by
  intro j
  induction j using Nat.strongRecOn with
  | _ j ih =>
    by_cases hj : j = M
    · subst hj
      have hg : (P.set j m).getD j 0 = m := by rw [getD_set hM, if_pos rfl]
      rw [rootOf_step (by rw [hg]; exact hmM), hg, ih _ hmM, hm, if_neg (by omega), if_pos hr]
    · have hg : (P.set M m).getD j 0 = P.getD j 0 := by rw [getD_set hM, if_neg hj]
      by_cases h : P.getD j 0 < j
      · rw [rootOf_step (by rw [hg]; exact h), hg, ih _ h, ← rootOf_step h]
      · rw [rootOf_stop (by rw [hg]; exact h), rootOf_stop h, if_neg hj]
/-- A forest over the pairs: each number points to one of its part that is no greater. -/
structure For (n : Nat) (ps : Prs) (P : List Nat) : Prop where
  len : P.length = n
  le : ∀ i, i < n → P.getD i 0 ≤ i
  con : ∀ i, i < n → Con ps (P.getD i 0) i
theorem For.root {n : Nat} {ps : Prs} {P : List Nat} (h : For n ps P) : ∀ i, i < n → Con ps (rootOf P i) i := by
  intro i
  induction i using Nat.strongRecOn with
  | _ i ih =>
    intro hi
    by_cases hl : P.getD i 0 < i
    · rw [rootOf_step hl]; exact (ih _ hl (by omega)).trans (h.con i hi)
    · rw [rootOf_stop hl]; exact Con.rfl i
theorem For.short {n : Nat} {ps : Prs} {P : List Nat} (h : For n ps P) {i : Nat} (hi : i < n) : For n ps (P.set i (rootOf P i)) := by
  have hl : i < P.length := by rw [h.len]; exact hi
  refine ⟨by rw [List.length_set]; exact h.len, fun j hj => ?_, fun j hj => ?_⟩
  · rw [getD_set hl]; split
    · rename_i e; subst e; exact rootOf_le P j
    · exact h.le j hj
  · rw [getD_set hl]; split
    · rename_i e; subst e; exact h.root j hj
    · exact h.con j hj
theorem For.join {n : Nat} {ps : Prs} {P : List Nat} (h : For n ps P) {a b : Nat} (ha : a < n) (hb : b < n) (hab : (a, b) ∈ ps) : For n ps (P.set (max (rootOf P a) (rootOf P b)) (min (rootOf P a) (rootOf P b))) := by
  have h1 := rootOf_le P a
  have h2 := rootOf_le P b
  have hl : max (rootOf P a) (rootOf P b) < P.length := by rw [h.len]; omega
  have hc : Con ps (rootOf P a) (rootOf P b) := ((h.root a ha).trans (Con.one hab)).trans (h.root b hb).sym
  refine ⟨by rw [List.length_set]; exact h.len, fun j hj => ?_, fun j hj => ?_⟩
  · rw [getD_set hl]; split
    · omega
    · exact h.le j hj
  · rw [getD_set hl]; split
    · rename_i e; subst e
      rcases Nat.le_total (rootOf P a) (rootOf P b) with hle | hle
      · rw [Nat.max_eq_right hle, Nat.min_eq_left hle]; exact hc
      · rw [Nat.max_eq_left hle, Nat.min_eq_right hle]; exact hc.sym
    · exact h.con j hj
/-- The pairs up to one are joined. -/
def Joined (ps : Prs) (P : List Nat) : Prop := ∀ p ∈ ps, rootOf P p.1 = rootOf P p.2
theorem joined_next {n : Nat} {ps qs : Prs} {P : List Nat} {a b : Nat} (h : For n ps P) (ha : a < n) (hb : b < n) (hj : Joined qs P) : Joined (qs ++ [(a, b)]) (P.set (max (rootOf P a) (rootOf P b)) (min (rootOf P a) (rootOf P b))) := by
  have h1 := rootOf_le P a
  have h2 := rootOf_le P b
  have hl : max (rootOf P a) (rootOf P b) < P.length := by rw [h.len]; omega
  by_cases he : rootOf P a = rootOf P b
  · have hs : ∀ j, rootOf (P.set (max (rootOf P a) (rootOf P b)) (min (rootOf P a) (rootOf P b))) j = rootOf P j := fun j => by
      rw [← he, Nat.max_self, Nat.min_self]
      have hrr := rootOf_short (P := P) (i := rootOf P a) (by rw [h.len]; omega) j
      rw [rootOf_root] at hrr
      exact hrr
    intro p hp
    rw [hs, hs]
    rcases List.mem_append.1 hp with hp | hp
    · exact hj p hp
    · rw [List.mem_singleton.1 hp]; exact he
  · have hs := rootOf_join (P := P) (M := max (rootOf P a) (rootOf P b)) (m := min (rootOf P a) (rootOf P b)) hl (by omega) (by
      rcases Nat.le_total (rootOf P a) (rootOf P b) with hle | hle
      · rw [Nat.max_eq_right hle]; exact rootOf_root P b
      · rw [Nat.max_eq_left hle]; exact rootOf_root P a) (by
      rcases Nat.le_total (rootOf P a) (rootOf P b) with hle | hle
      · rw [Nat.min_eq_left hle]; exact rootOf_root P a
      · rw [Nat.min_eq_right hle]; exact rootOf_root P b)
    intro p hp
    rw [hs, hs]
    rcases List.mem_append.1 hp with hp | hp
    · rw [hj p hp]
    · rw [List.mem_singleton.1 hp]
      dsimp only
      split <;> split <;> omega
theorem For.lab {n : Nat} {ps : Prs} {P : List Nat} (h : For n ps P) (hj : Joined ps P) : Lab n ps (rootOf P) := ⟨fun i _ => rootOf_le P i, h.root, fun _i _j hij => hj _ hij⟩
theorem For.start (n : Nat) (ps : Prs) : For n ps (List.range n) := by
  have hg : ∀ i, i < n → (List.range n).getD i 0 = i := fun i hi => by rw [List.getD, List.getElem?_range hi]; rfl
  exact ⟨List.length_range, fun i hi => by rw [hg i hi]; exact Nat.le_refl _, fun i hi => by rw [hg i hi]; exact Con.rfl i⟩
/-! ### Labels, turned until they stay -/
theorem For.label {n : Nat} {ps : Prs} {P : List Nat} (h : For n ps P) {a b : Nat} (ha : a < n) (hb : b < n) (hab : (a, b) ∈ ps) : For n ps ((P.set a (min (P.getD a 0) (P.getD b 0))).set b (min (P.getD a 0) (P.getD b 0))) := by
  have hla : a < P.length := by rw [h.len]; exact ha
  have hlb : b < (P.set a (min (P.getD a 0) (P.getD b 0))).length := by rw [List.length_set, h.len]; exact hb
  have h1 := h.le a ha
  have h2 := h.le b hb
  have ca := h.con a ha
  have cb := h.con b hb
  have hab' : Con ps a b := Con.one hab
  have hm : Con ps (min (P.getD a 0) (P.getD b 0)) a ∧ Con ps (min (P.getD a 0) (P.getD b 0)) b := by
    rcases Nat.le_total (P.getD a 0) (P.getD b 0) with hle | hle
    · rw [Nat.min_eq_left hle]; exact ⟨ca, ca.trans hab'⟩
    · rw [Nat.min_eq_right hle]; exact ⟨cb.trans hab'.sym, cb⟩
  refine ⟨by rw [List.length_set, List.length_set]; exact h.len, fun j hj => ?_, fun j hj => ?_⟩
  · rw [getD_set hlb]; split
    · omega
    · rw [getD_set hla]; split
      · omega
      · exact h.le j hj
  · rw [getD_set hlb]; split
    · rename_i e; subst e; exact hm.2
    · rw [getD_set hla]; split
      · rename_i e; subst e; exact hm.1
      · exact h.con j hj
theorem For.labels {n : Nat} {ps : Prs} {P : List Nat} (h : For n ps P) (hs : ∀ p ∈ ps, P.getD p.1 0 = P.getD p.2 0) : Lab n ps fun i => P.getD i 0 := ⟨h.le, h.con, fun _i _j hij => hs _ hij⟩
end Kp
end
section
namespace Kp
/-- One pair more: the greater label gives way to the lesser. -/
def relab (L : List Nat) (p : Nat × Nat) : List Nat := L.map fun x => if x = max (L.getD p.1 0) (L.getD p.2 0) then min (L.getD p.1 0) (L.getD p.2 0) else x
def lbs (n : Nat) (ps : Prs) : List Nat := ps.foldl relab (List.range n)
def lb (n : Nat) (ps : Prs) (i : Nat) : Nat := (lbs n ps).getD i 0
theorem getD_map {L : List Nat} {f : Nat → Nat} {i : Nat} (h : i < L.length) : (L.map f).getD i 0 = f (L.getD i 0) := by
  rw [List.getD, List.getElem?_map, List.getElem?_eq_getElem h, List.getD, List.getElem?_eq_getElem h]; rfl
theorem relab_len (L : List Nat) (p : Nat × Nat) : (relab L p).length = L.length := List.length_map _
theorem relab_get {L : List Nat} (p : Nat × Nat) {i : Nat} (h : i < L.length) : (relab L p).getD i 0 = if L.getD i 0 = max (L.getD p.1 0) (L.getD p.2 0) then min (L.getD p.1 0) (L.getD p.2 0) else L.getD i 0 := getD_map h
theorem For.relab {n : Nat} {ps : Prs} {L : List Nat} (h : For n ps L) {a b : Nat} (ha : a < n) (hb : b < n) (hab : (a, b) ∈ ps) : For n ps (relab L (a, b)) := by
  have h1 := h.le a ha
  have h2 := h.le b hb
  have hc : Con ps (L.getD a 0) (L.getD b 0) := ((h.con a ha).trans (Con.one hab)).trans (h.con b hb).sym
  have hM : Con ps (min (L.getD a 0) (L.getD b 0)) (max (L.getD a 0) (L.getD b 0)) := by
    rcases Nat.le_total (L.getD a 0) (L.getD b 0) with hle | hle
    · rw [Nat.max_eq_right hle, Nat.min_eq_left hle]; exact hc
    · rw [Nat.max_eq_left hle, Nat.min_eq_right hle]; exact hc.sym
  refine ⟨by rw [relab_len]; exact h.len, fun j hj => ?_, fun j hj => ?_⟩
  · have hl := h.le j hj
    rw [relab_get _ (by rw [h.len]; exact hj)]
    dsimp only
    split <;> omega
  · have hl := h.con j hj
    rw [relab_get _ (by rw [h.len]; exact hj)]
    dsimp only
    split
    · rename_i e; rw [e] at hl; exact hM.trans hl
    · exact hl
theorem relab_same {L : List Nat} {p : Nat × Nat} (hp1 : p.1 < L.length) (hp2 : p.2 < L.length) : (relab L p).getD p.1 0 = (relab L p).getD p.2 0 := by
  rw [relab_get _ hp1, relab_get _ hp2]
  split <;> split <;> omega
theorem relab_keep {L : List Nat} (p : Nat × Nat) {i j : Nat} (hi : i < L.length) (hj : j < L.length) (h : L.getD i 0 = L.getD j 0) : (relab L p).getD i 0 = (relab L p).getD j 0 := by
  rw [relab_get _ hi, relab_get _ hj, h]
theorem relabs (n : Nat) (ps : Prs) (hv : ∀ p ∈ ps, p.1 < n ∧ p.2 < n) : ∀ (qs rs : Prs) (L : List Nat), ps = qs ++ rs → For n ps L → (∀ p ∈ qs, L.getD p.1 0 = L.getD p.2 0) → For n ps (rs.foldl relab L) ∧ ∀ p ∈ ps, (rs.foldl relab L).getD p.1 0 = (rs.foldl relab L).getD p.2 0
  | qs, [], L, he, hf, hq => ⟨hf, fun p hp => hq p (by rw [he, List.append_nil] at hp; exact hp)⟩
  | qs, r :: rs, L, he, hf, hq => by
    have hr : r ∈ ps := by rw [he]; simp
    have hrv := hv r hr
    refine relabs n ps hv (qs ++ [r]) rs (relab L r) (by rw [he]; simp) (hf.relab hrv.1 hrv.2 hr) fun p hp => ?_
    rcases List.mem_append.1 hp with hp | hp
    · have hpv := hv p (by rw [he]; exact List.mem_append_left _ hp)
      exact relab_keep r (by rw [hf.len]; exact hpv.1) (by rw [hf.len]; exact hpv.2) (hq p hp)
    · rw [List.mem_singleton.1 hp]
      exact relab_same (by rw [hf.len]; exact hrv.1) (by rw [hf.len]; exact hrv.2)
theorem lb_lab {n : Nat} {ps : Prs} (hv : ∀ p ∈ ps, p.1 < n ∧ p.2 < n) : Lab n ps (lb n ps) :=
  let h := relabs n ps hv [] ps (List.range n) rfl (For.start n ps) (fun _ h => by cases h)
  h.1.labels h.2
/-! ### How many parts -/
def roots (n : Nat) (L : Nat → Nat) : List Nat := (List.range n).filter fun i => decide (L i = i)
theorem parts_roots (n : Nat) (L : Nat → Nat) : parts n L = (roots n L).map fun i => (List.range n).filter fun k => decide (L k = i) := rfl
theorem parts_len (n : Nat) (L : Nat → Nat) : (parts n L).length = (roots n L).length := by rw [parts_roots, List.length_map]
theorem filter_one {l : List Nat} (hn : l.Nodup) {p q : Nat → Bool} (M : Nat) (h : ∀ i ∈ l, i ≠ M → p i = true → q i = true) : (l.filter p).length ≤ (l.filter q).length + 1 := by
  induction l with
  | nil => simp
  | cons a r ih =>
    rw [List.nodup_cons] at hn
    by_cases ha : a = M
    · have h2 : (r.filter p).length ≤ (r.filter q).length := by
        have : r.filter p = (r.filter p).filter q := by
          rw [List.filter_filter]
          refine List.filter_congr fun i hi => ?_
          have hne : i ≠ M := fun e => hn.1 (by rw [ha, ← e]; exact hi)
          cases hp : p i
          · rw [Bool.and_false]
          · rw [h i (.tail _ hi) hne hp]; rfl
        rw [this, List.filter_filter]
        have h3 : (r.filter fun i => q i && p i).length ≤ (r.filter q).length := by
          have : (r.filter fun i => q i && p i) = (r.filter q).filter p := by rw [List.filter_filter]; exact List.filter_congr fun i _ => by rw [Bool.and_comm]
          rw [this]; exact List.length_filter_le _ _
        exact h3
      rw [List.filter_cons, List.filter_cons]
      split <;> split <;> (try simp only [List.length_cons]) <;> omega
    · have h2 := ih hn.2 (fun i hi => h i (.tail _ hi))
      rw [List.filter_cons, List.filter_cons]
      by_cases hp : p a = true
      · rw [if_pos hp, if_pos (h a (.head _) ha hp)]; simp only [List.length_cons]; omega
      · rw [if_neg hp]; split <;> (try simp only [List.length_cons]) <;> omega
theorem roots_many (n : Nat) : ∀ (ps : Prs) (L : List Nat), L.length = n → (roots n fun i => L.getD i 0).length ≤ (roots n fun i => (ps.foldl relab L).getD i 0).length + ps.length
  | [], _, _ => Nat.le_refl _
  | p :: ps, L, hl => by
    have h1 := roots_many n ps (relab L p) (by rw [relab_len]; exact hl)
    have h2 : (roots n fun i => L.getD i 0).length ≤ (roots n fun i => (relab L p).getD i 0).length + 1 := by
      refine filter_one List.nodup_range (max (L.getD p.1 0) (L.getD p.2 0)) fun i hi hne hd => ?_
      have hi' := List.mem_range.1 hi
      have he : L.getD i 0 = i := of_decide_eq_true hd
      refine decide_eq_true ?_
      show (relab L p).getD i 0 = i
      rw [relab_get _ (by rw [hl]; exact hi'), he, if_neg hne]
    rw [List.foldl_cons, List.length_cons]
    omega
theorem roots_range (n : Nat) : (roots n fun i => (List.range n).getD i 0).length = n := by
  have : (roots n fun i => (List.range n).getD i 0) = List.range n := by
    unfold roots
    rw [List.filter_eq_self]
    intro i hi
    refine decide_eq_true ?_
    show (List.range n).getD i 0 = i
    rw [List.getD, List.getElem?_range (List.mem_range.1 hi)]; rfl
  rw [this, List.length_range]
theorem parts_many (n : Nat) (ps : Prs) : n ≤ (parts n (lb n ps)).length + ps.length := by
  have h := roots_many n ps (List.range n) List.length_range
  rw [roots_range] at h
  rw [parts_len]
  exact h
theorem parts_alone (n : Nat) : (parts n (lb n [])).length = n := by rw [parts_len]; exact roots_range n
/-! ### Sums of labels -/
theorem sum_set : ∀ {P : List Nat} {i : Nat} (x : Nat), i < P.length → (P.set i x).sum + P.getD i 0 = P.sum + x
  | a :: r, 0, x, _ => by simp; omega
  | a :: r, i + 1, x, h => by
    have := sum_set (P := r) (i := i) x (by simpa using h)
    simp only [List.set_cons_succ, List.sum_cons, List.getD_cons_succ]
    omega
/-- Turned labels are less. -/
theorem label_less {P : List Nat} {a b : Nat} (ha : a < P.length) (hb : b < P.length) (h : P.getD a 0 ≠ P.getD b 0) : ((P.set a (min (P.getD a 0) (P.getD b 0))).set b (min (P.getD a 0) (P.getD b 0))).sum < P.sum := by
  have h1 := sum_set (min (P.getD a 0) (P.getD b 0)) ha
  have h2 := sum_set (P := P.set a (min (P.getD a 0) (P.getD b 0))) (min (P.getD a 0) (P.getD b 0)) (by rw [List.length_set]; exact hb)
  have hab : a ≠ b := fun e => h (by rw [e])
  rw [getD_set ha, if_neg (Ne.symm hab)] at h2
  omega
end Kp
end
section
namespace Go.Sx
open Go
section
variable {cx : Cx} {Q : Qt} {o : Oper} {e : Env} {I : Heap} {H : HL} {C : Ct} {S : World → Prop} {α : Type} [BEq α] [LawfulBEq α]
/-- An iterator that has handed out some entries. -/
def mit (m since : Nat) (vis : ML α) (last : Nat) : Obj := .mapIter (some m) since (vis.map (·.2.2)).toArray last
omit [BEq α] [LawfulBEq α] in
theorem op_rangeMap {T K E d m c : Nat} {x : Operand} {kv : α → Value} {l : ML α} (ho : o.op = .range T x) (hd : o.dst = some d) (hn : Nat.blt d cx.n = true) (hx : ev e x = some (.map (some m))) (hu : cx.P.underlying T = some (.map K E)) (hb : Blk (SS I H) m (mobj kv l c))
    (k : ∀ b, cx.w0.heap.size ≤ b → C ((d, ptr b 0) :: e) I ((b, mit m c ([] : ML α) c) :: H)) : OpJ cx Q o e I H C := by
  intro Kk hK a w ha hs
  unfold Oper.wp
  have : (execOp a.eval o).run cx.P w = .ok (.value (ptr w.heap.size 0)) { w with heap := w.heap.push (mit m c ([] : ML α) c) } := by
    have hr := run_range_map (P := cx.P) w T K E m _ c hu (hb w hs.ss)
    simp only [execOp, ho, ha.eval hx, Sem.run_bind, hr, Result.andThen_ok, Sem.run_pure]
    rfl
  rw [this]
  simp only [Oper.upon, hd]
  exact hK _ _ _ (k _ hs.size) _ _ (ha.put hn) (hs.alloc _)
omit [BEq α] [LawfulBEq α] in
/-- The next entry, whichever it is; or the end. -/
theorem op_nextMap {d b m since last c : Nat} {x : Operand} {kv : α → Value} {l vis rest : ML α} (i : Nat) (ho : o.op = .next x false) (hd : o.dst = some d) (hn : Nat.blt d cx.n = true) (hx : ev e x = some (ptr b 0)) (hH : H[i]? = some (b, mit m since vis last)) (hm : Blk (SS I H) m (mobj kv l c))
    (hold : ∀ p ∈ l, p.2.2 < since) (hsc : since ≤ last) (hnd : (l.map (·.2.2)).Nodup) (hp : (vis ++ rest).Perm l)
    (k1 : ∀ (p : α × Value × Nat) (r : ML α) (H' : HL), rest.Perm (p :: r) → (vis ++ [p] ++ r).Perm l → LSet H i (b, mit m since (vis ++ [p]) c) H' → C ((d, .tuple #[.bool true, kv p.1, p.2.1]) :: e) I H')
    (k0 : rest = [] → C ((d, .tuple #[.bool false]) :: e) I H) : OpJ cx Q o e I H C := by
  intro Kk hK a w ha hs
  unfold Oper.wp
  have hb := hs.own _ (List.mem_of_getElem? hH)
  have hmw := hm w hs.ss
  have hrun := run_next_at (P := cx.P) w o.type b m since last _ _ c hb hmw (by
    intro y hy
    simp only [List.mem_map] at hy
    obtain ⟨p, hp, rfl⟩ := hy
    exact hold p hp) hsc
  have hnd2 : ((vis ++ rest).map (·.2.2)).Nodup := (hp.map _).nodup_iff.2 hnd
  have hexec : (execOp a.eval o).run cx.P w = ((Instr.next (.pointer (some ⟨b, 0, none⟩)) false o.type).run cx.P w).andThen fun v w' => .ok (.value v) w' := by
    simp only [execOp, ho, ha.eval hx, Sem.run_bind]
    rfl
  have hin : ∀ p : α × Value × Nat, p ∈ l → ((vis.map (·.2.2)).toArray.contains p.2.2 = true ↔ p ∈ vis) := fun p hpl => by
    have hpm : p ∈ vis ++ rest := hp.mem_iff.2 hpl
    rw [Array.contains_iff_mem]
    simp only [List.mem_toArray, List.mem_map]
    constructor
    · rintro ⟨q, hq, he⟩
      rcases List.mem_append.1 hpm with h | h
      · exact h
      · rw [List.map_append, List.nodup_append] at hnd2
        exact absurd he (hnd2.2.2 _ (List.mem_map_of_mem hq) _ (List.mem_map_of_mem h))
    · exact fun h => ⟨p, h, rfl⟩
  rcases hrun with ⟨h0, hr⟩ | ⟨en, hen, w1, hw1, hr⟩
  · rw [hexec, hr]
    simp only [Result.andThen_ok, Oper.upon, hd]
    refine hK _ _ _ (k0 ?_) _ _ (ha.put hn) hs
    rcases rest with _ | ⟨p, r⟩
    · rfl
    · exfalso
      have hpl : p ∈ l := hp.mem_iff.1 (List.mem_append_right _ (.head _))
      have hpv : p ∉ vis := fun h => by
        rw [List.map_append, List.nodup_append] at hnd2
        exact hnd2.2.2 _ (List.mem_map_of_mem h) _ (List.mem_map_of_mem (.head _)) rfl
      have : ment kv p ∈ leftOf (l.map (ment kv)).toArray (vis.map (·.2.2)).toArray := by
        unfold leftOf
        rw [Array.mem_filter]
        refine ⟨by simp only [List.mem_toArray]; exact List.mem_map_of_mem hpl, ?_⟩
        have := (not_congr (hin p hpl)).2 hpv
        simp only [Bool.not_eq_true] at this
        show (!Array.contains _ p.2.2) = true
        rw [this]; rfl
      have h1 := Array.eq_empty_of_size_eq_zero h0
      rw [h1] at this
      simp at this
  · rw [hexec, hr]
    simp only [Result.andThen_ok, Oper.upon, hd]
    have hen2 : en ∈ leftOf (l.map (ment kv)).toArray (vis.map (·.2.2)).toArray := by simpa using hen
    unfold leftOf at hen2
    rw [Array.mem_filter] at hen2
    obtain ⟨hel, hns⟩ := hen2
    simp only [List.mem_toArray, List.mem_map] at hel
    obtain ⟨p, hpl, rfl⟩ := hel
    have hpv : p ∉ vis := fun h => by
      have := (hin p hpl).2 h
      change (!Array.contains _ p.2.2) = true at hns
      rw [this] at hns; cases hns
    have hpr : p ∈ rest := (List.mem_append.1 (hp.mem_iff.2 hpl)).resolve_left hpv
    obtain ⟨r1, r2, hrr⟩ := List.append_of_mem hpr
    have hperm : rest.Perm (p :: (r1 ++ r2)) := by rw [hrr]; exact List.perm_middle
    have hperm2 : (vis ++ [p] ++ (r1 ++ r2)).Perm l := by
      refine List.Perm.trans ?_ hp
      rw [List.append_assoc]
      exact List.Perm.append_left _ hperm.symm
    have hset : LSet H i (b, mit m since (vis ++ [p]) c) (H.set i (b, mit m since (vis ++ [p]) c)) := ⟨(List.getElem?_eq_some_iff.1 hH).1, rfl⟩
    have hk := k1 p (r1 ++ r2) _ hperm hperm2 hset
    have hst : St cx.w0 cx.D cx.I0 I (H.set i (b, mit m since (vis ++ [p]) c)) (ChangeMaps.setBlock w1 b (.mapIter (some m) since ((vis.map (·.2.2)).toArray.push p.2.2) c)) := by
      have he : (.mapIter (some m) since ((vis.map (·.2.2)).toArray.push p.2.2) c : Obj) = mit m since (vis ++ [p]) c := by simp [mit]
      rw [show (ment kv p).born = p.2.2 from rfl] at *
      rw [he]
      rcases hw1 with rfl | rfl
      · exact hs.block hH hset
      · exact (hs.drewN (w.drawn + 1)).block hH hset
    exact hK _ _ _ hk _ _ (ha.put hn) hst
omit [BEq α] [LawfulBEq α] in
/-- The number of a map's entries. -/
theorem yl_lenMap {x : Operand} {T K E b c : Nat} {kv : α → Value} {l : ML α} (ho : o.op = .call ⟨.builtin .len, #[x], #[T]⟩) (hx : ev e x = some (.map (some b))) (hu : cx.P.underlying T = some (.map K E)) (hb : Blk S b (mobj kv l c)) : Yld cx o e S (i64 (l.length : Int)) := by
  intro a w ha hs
  have h := hb w hs
  simp [execOp, ho, resolve, invoke, builtin, Builtin.len_, ha.eval hx, run_underlying hu, goInt, getObj, Sem.run, h, mobj]
end
end Go.Sx
namespace Go.Sx
open Go
section
variable {P : Program} {K i : TypeId} {f0 f1 : Field}
theorem run_part0 {xs : Array Value} {t off : Nat} {v : Value} {w : World} (ha : ∀ w, (isAgg t).run P w = .ok false w) (hv : xs[off]? = some v) : (part t xs off).run P w = .ok v w := by
  simp [part, ha, hv]
theorem stru_equal2 (hu : P.underlying K = some (.struct #[f0, f1])) (hp : P.stoodInHeld K = false) (n0 : f0.name ≠ "_") (n1 : f1.name ≠ "_") (o0 : f0.offset = 0) (o1 : f1.offset = 1) (a0 : ∀ w, (isAgg f0.type).run P w = .ok false w) (a1 : ∀ w, (isAgg f1.type).run P w = .ok false w)
    {x0 x1 y0 y1 : Value} {b0 b1 : Bool} (w : World) (e0 : ∀ d w, (Op.equalIn (d + 1) f0.type x0 y0).run P w = .ok b0 w) (e1 : ∀ d w, (Op.equalIn (d + 1) f1.type x1 y1).run P w = .ok b1 w) : ∀ d, (Op.equalIn (d + 2) K (.agg #[x0, x1]) (.agg #[y0, y1])).run P w = .ok (b0 && b1) w := by
  intro d
  have hf : P.fieldsOf K = #[f0, f1] := by simp [Program.fieldsOf, hu]
  rw [run_equalIn_struct w (d + 1) K _ _ (by rw [hf]; exact hu) hp, hf]
  have p0 : ∀ (a b : Value) w, (part f0.type #[a, b] f0.offset).run P w = .ok a w := fun a b w => run_part0 a0 (by rw [o0]; rfl)
  have p1 : ∀ (a b : Value) w, (part f1.type #[a, b] f1.offset).run P w = .ok b w := fun a b w => run_part0 a1 (by rw [o1]; rfl)
  simp only [Op.eqFields, n0, n1, ne_eq, not_false_eq_true, if_true, Sem.run_bind, p0, e0, Result.andThen_ok]
  cases b0
  · simp
  · cases b1 <;> simp [Sem.run_bind, p1, e1]
theorem stru_check2 (hu : P.underlying K = some (.struct #[f0, f1])) (n0 : f0.name ≠ "_") (n1 : f1.name ≠ "_") (o0 : f0.offset = 0) (o1 : f1.offset = 1) (a0 : ∀ w, (isAgg f0.type).run P w = .ok false w) (a1 : ∀ w, (isAgg f1.type).run P w = .ok false w)
    {x0 x1 : Value} (b : Bool) (w : World) (e0 : ∀ d w, (Instr.checkKey b (d + 1) f0.type x0).run P w = .ok () w) (e1 : ∀ d w, (Instr.checkKey b (d + 1) f1.type x1).run P w = .ok () w) : ∀ d, (Instr.checkKey b (d + 2) K (.agg #[x0, x1])).run P w = .ok () w := by
  intro d
  have p0 : ∀ w, (part f0.type #[x0, x1] f0.offset).run P w = .ok x0 w := fun w => run_part0 a0 (by rw [o0]; rfl)
  have p1 : ∀ w, (part f1.type #[x0, x1] f1.offset).run P w = .ok x1 w := fun w => run_part0 a1 (by rw [o1]; rfl)
  have e0' := e0 d
  have e1' := e1 d
  generalize hc : Instr.checkKey b (d + 1) = ck at e0' e1'
  rw [show d + 2 = (d + 1) + 1 from rfl, Instr.checkKey]
  rw [hc]
  simp [Sem.run_bind, run_underlying hu, n0, n1, p0, p1, e0', e1']
theorem check_int {b : Bool} {t : TypeId} {k : IntKind} (hu : P.underlying t = some (.int k)) (a : Int) (d : Nat) (w : World) : (Instr.checkKey b (d + 1) t (.int k a)).run P w = .ok () w := by simp [Instr.checkKey, run_underlying hu]
/-- A struct of two integers as a key. -/
theorem KeyK.ints2 (hu : P.underlying K = some (.struct #[f0, f1])) (hp : P.stoodInHeld K = false) (n0 : f0.name ≠ "_") (n1 : f1.name ≠ "_") (o0 : f0.offset = 0) (o1 : f1.offset = 1) (t0 : f0.type = i) (t1 : f1.type = i) (hi : P.underlying i = some (.int .i64)) (ha : ∀ w, (isAgg i).run P w = .ok false w) :
    KeyK P K (fun a : Int × Int => .agg #[i64 a.1, i64 a.2]) := by
  subst t0
  refine KeyK.equal hu (fun a b => rfl) (fun a b w => ?_) (fun b a w => ?_) (fun a => ?_)
  · have h := stru_equal2 hu hp n0 n1 o0 o1 ha (t1 ▸ ha) (x0 := i64 a.1) (x1 := i64 a.2) (y0 := i64 b.1) (y1 := i64 b.2) w (fun d w => run_equalIn_int w d _ .i64 .i64 a.1 b.1 hi) (fun d w => run_equalIn_int w d _ .i64 .i64 a.2 b.2 (t1 ▸ hi)) 9998
    exact h
  · exact stru_check2 hu n0 n1 o0 o1 ha (t1 ▸ ha) b w (fun d w => check_int hi _ d w) (fun d w => check_int (t1 ▸ hi) _ d w) 9998
  · show Instr.sameBits (9999 + 1) _ _ = true
    simp [Instr.sameBits]
end
end Go.Sx
end
section
namespace Go.Sx
open Go
section
variable {α : Type} [BEq α] [LawfulBEq α]
/-- The keys stand once each; the stamps too, below the clock. -/
def MS (l : ML α) (c : Nat) : Prop := (l.map (·.1)).Nodup ∧ (l.map (·.2.2)).Nodup ∧ ∀ p ∈ l, p.2.2 < c
omit [BEq α] [LawfulBEq α] in
theorem MS.nil : MS ([] : ML α) 0 := ⟨.nil, .nil, fun _ h => by simp at h⟩
theorem mget_iff {l : ML α} {a : α} (h : (l.map (·.1)).Nodup) {v : Value} : mget l a = some v ↔ ∃ n, (a, v, n) ∈ l := by
  induction l with
  | nil => simp [mget]
  | cons p r ih =>
    obtain ⟨b, u, n⟩ := p
    rw [List.map_cons, List.nodup_cons] at h
    unfold mget
    by_cases hab : a = b
    · subst hab
      simp only [BEq.rfl, if_true, Option.some.injEq]
      constructor
      · rintro rfl; exact ⟨n, .head _⟩
      · rintro ⟨k, hk⟩
        rcases List.mem_cons.1 hk with e | e
        · exact (congrArg (fun x => x.2.1) e).symm
        · exact absurd (List.mem_map_of_mem (f := (·.1)) e) h.1
    · rw [if_neg (by simpa using hab), ih h.2]
      constructor
      · rintro ⟨k, hk⟩; exact ⟨k, .tail _ hk⟩
      · rintro ⟨k, hk⟩
        rcases List.mem_cons.1 hk with e | e
        · exact absurd (congrArg (·.1) e) hab
        · exact ⟨k, e⟩
theorem mget_none {l : ML α} {a : α} : mget l a = none ↔ a ∉ l.map (·.1) := by
  induction l with
  | nil => simp [mget]
  | cons p r ih =>
    obtain ⟨b, u, n⟩ := p
    unfold mget
    by_cases hab : a = b
    · subst hab; simp
    · rw [if_neg (by simpa using hab), ih]; simp [hab]
theorem mset_keys {l : ML α} {a : α} {v : Value} {c : Nat} : (mset l a v c).map (·.1) = if a ∈ l.map (·.1) then l.map (·.1) else l.map (·.1) ++ [a] := by
  induction l with
  | nil => simp [mset]
  | cons p r ih =>
    obtain ⟨d, u, n⟩ := p
    unfold mset
    by_cases had : a = d
    · subst had; simp
    · rw [if_neg (by simpa using had), List.map_cons, ih]
      by_cases h : a ∈ r.map (·.1)
      · simp [h]
      · rw [if_neg h, if_neg (by simp only [List.map_cons, List.mem_cons, not_or]; exact ⟨had, h⟩)]; rfl
theorem mset_mem {l : ML α} {a x : α} {v : Value} {c : Nat} : x ∈ (mset l a v c).map (·.1) ↔ x ∈ l.map (·.1) ∨ x = a := by
  rw [mset_keys]
  split
  · rename_i h
    exact ⟨.inl, fun g => g.elim id (fun e => e ▸ h)⟩
  · simp
theorem MS.set {l : ML α} {c : Nat} (h : MS l c) (a : α) (v : Value) : MS (mset l a v c) (mclk l a c) := by
  obtain ⟨h1, h2, h3⟩ := h
  cases hm : mget l a with
  | none =>
    obtain ⟨-, hs⟩ := midx_none l 0 hm
    have ha := mget_none.1 hm
    rw [hs, mclk, hm]
    refine ⟨?_, ?_, ?_⟩
    · rw [List.map_append, List.nodup_append]
      refine ⟨h1, by simp, fun x hx y hy e => ?_⟩
      rw [List.map_cons, List.map_nil, List.mem_singleton] at hy
      exact ha (by have : x = a := e.trans hy; exact this ▸ hx)
    · rw [List.map_append, List.nodup_append]
      refine ⟨h2, by simp, fun x hx y hy e => ?_⟩
      rw [List.map_cons, List.map_nil, List.mem_singleton] at hy
      obtain ⟨p, hp, rfl⟩ := List.mem_map.1 hx
      have := h3 p hp
      dsimp only at hy e
      omega
    · intro p hp
      simp only [Option.isSome_none, Bool.false_eq_true, if_false]
      rcases List.mem_append.1 hp with g | g
      · exact Nat.lt_succ_of_lt (h3 p g)
      · rw [List.mem_singleton] at g; subst g; exact Nat.lt_succ_self _
  | some u =>
    obtain ⟨j, u', n, -, hj, hs⟩ := midx_some l 0 hm
    have he : ∀ f : α × Value × Nat → Nat ⊕ α, f (a, v, n) = f (a, u', n) → (l.set j (a, v, n)).map f = l.map f := fun f hf => by
      apply List.ext_getElem?
      intro i
      rw [List.getElem?_map, List.getElem?_map, List.getElem?_set]
      by_cases hi : j = i
      · subst hi
        rw [if_pos rfl, hj, if_pos (List.getElem?_eq_some_iff.1 hj).1]
        simp [hf]
      · rw [if_neg hi]
    have e1 : (l.set j (a, v, n)).map (·.1) = l.map (·.1) := by
      have := congrArg (List.map (fun s : Nat ⊕ α => match s with | .inr x => x | .inl _ => a)) (he (fun p => .inr p.1) rfl)
      simpa [List.map_map, Function.comp_def] using this
    have e2 : (l.set j (a, v, n)).map (·.2.2) = l.map (·.2.2) := by
      have := congrArg (List.map (fun s : Nat ⊕ α => match s with | .inl x => x | .inr _ => 0)) (he (fun p => .inl p.2.2) rfl)
      simpa [List.map_map, Function.comp_def] using this
    rw [hs, mclk, hm]
    refine ⟨by rw [e1]; exact h1, by rw [e2]; exact h2, fun p hp => ?_⟩
    have : p.2.2 ∈ l.map (·.2.2) := e2 ▸ List.mem_map_of_mem hp
    obtain ⟨q, hq, e⟩ := List.mem_map.1 this
    exact e ▸ h3 q hq
omit [LawfulBEq α] in
theorem mset_vals {Q : Value → Prop} {l : ML α} (h : ∀ p ∈ l, Q p.2.1) {a : α} {v : Value} (hv : Q v) (c : Nat) : ∀ p ∈ mset l a v c, Q p.2.1 := by
  induction l with
  | nil => intro p hp; unfold mset at hp; rw [List.mem_singleton] at hp; subst hp; exact hv
  | cons q r ih =>
    obtain ⟨d, u, n⟩ := q
    intro p hp
    unfold mset at hp
    split at hp
    · rcases List.mem_cons.1 hp with e | e
      · subst e; exact hv
      · exact h p (.tail _ e)
    · rcases List.mem_cons.1 hp with e | e
      · subst e; exact h _ (.head _)
      · exact ih (fun x hx => h x (.tail _ hx)) p e
/-! ### A map of texts, or others, to true: a set -/
/-- The map's keys are what stands in xs. -/
def SetS (l : ML α) (c : Nat) (xs : List α) : Prop := MS l c ∧ (∀ p ∈ l, p.2.1 = .bool true) ∧ ∀ x, x ∈ l.map (·.1) ↔ x ∈ xs
omit [BEq α] [LawfulBEq α] in
theorem SetS.nil : SetS ([] : ML α) 0 [] := ⟨MS.nil, fun _ h => by simp at h, fun _ => by simp⟩
theorem SetS.put {l : ML α} {c : Nat} {xs : List α} (h : SetS l c xs) (a : α) : SetS (mset l a (.bool true) c) (mclk l a c) (xs ++ [a]) :=
  ⟨h.1.set a _, mset_vals (Q := (· = .bool true)) h.2.1 rfl c, fun x => by rw [mset_mem, h.2.2, List.mem_append, List.mem_singleton]⟩
theorem SetS.get {l : ML α} {c : Nat} {xs : List α} (h : SetS l c xs) (a : α) : (mget l a).getD (.bool false) = .bool (decide (a ∈ xs)) := by
  by_cases ha : a ∈ xs
  · obtain ⟨⟨b, v, n⟩, hp, rfl⟩ := List.mem_map.1 ((h.2.2 a).2 ha)
    have := (mget_iff h.1.1).2 ⟨n, hp⟩
    have hv := h.2.1 _ hp
    dsimp only at *
    rw [this, hv, decide_eq_true ha]; rfl
  · rw [mget_none.2 (fun g => ha ((h.2.2 a).1 g)), decide_eq_false ha]; rfl
omit [BEq α] [LawfulBEq α] in
theorem SetS.len {l : ML α} {c : Nat} {xs : List α} (h : SetS l c xs) : l.length = 0 ↔ xs = [] := by
  constructor
  · intro g
    rw [List.eq_nil_iff_forall_not_mem]
    intro x hx
    have := (h.2.2 x).2 hx
    rw [List.eq_nil_of_length_eq_zero g] at this
    simp at this
  · rintro rfl
    rcases l with _ | ⟨p, r⟩
    · rfl
    · have := (h.2.2 p.1).1 (List.mem_map_of_mem (.head _))
      simp at this
end
section
variable {cx : Cx} {Q : Qt} {o : Oper} {e : Env} {S : World → Prop} {α : Type} [BEq α] [LawfulBEq α]
omit [BEq α] [LawfulBEq α] in
/-- The entry that was handed out last. -/
theorem yl_entry {b m since c : Nat} {x : Operand} {kv : α → Value} {l vis : ML α} {p : α × Value × Nat} (ho : o.op = .entry x) (hx : ev e x = some (ptr b 0)) (hb : Blk S b (mit m since (vis ++ [p]) c)) (hm : Blk S m (mobj kv l c)) (hp : p ∈ l) (hn : (l.map (·.2.2)).Nodup) : Yld cx o e S (.tuple #[kv p.1, p.2.1]) := by
  intro w0 w ha hs
  have h1 := hb w hs
  have h2 := hm w hs
  have h3 : w.heap[b]? = some (.mapIter (some m) since ((vis.map (·.2.2)).toArray.push (ment kv p).born) c) := by
    rw [h1]; simp [mit]
  have hr := run_entry_at (P := cx.P) w b m since _ _ c (ment kv p) h3 h2 (by simp only [List.mem_map]; exact ⟨p, hp, rfl⟩) (by
    rw [List.map_map]
    exact hn)
  have : (execOp w0.eval o).run cx.P w = .ok (.value (.tuple #[kv p.1, p.2.1])) w := by
    simp only [execOp, ho, ha.eval hx, Sem.run_bind, hr, Result.andThen_ok, Sem.run_pure]
  exact this
end
end Go.Sx
end
section
namespace Go.Sx
open Go
section
variable {α β : Type}
/-- The blocks of a family of grown rows: what each holds, and its group. -/
def famH (T : TypeId) (f : β → List Value) (F : List (α × List β × Gs)) : HL := F.flatMap fun e => gH T (e.2.1.flatMap f) e.2.2
theorem famH_app (T : TypeId) (f : β → List Value) (F G : List (α × List β × Gs)) : famH T f (F ++ G) = famH T f F ++ famH T f G := by unfold famH; rw [List.flatMap_append]
theorem famH_one (T : TypeId) (f : β → List Value) (e : α × List β × Gs) : famH T f [e] = gH T (e.2.1.flatMap f) e.2.2 := by unfold famH; simp
/-- One row of a family stands last. -/
theorem famH_out (T : TypeId) (f : β → List Value) (R : HL) (F G : List (α × List β × Gs)) (e : α × List β × Gs) : (R ++ famH T f (F ++ G) ++ gH T (e.2.1.flatMap f) e.2.2).Perm (R ++ famH T f (F ++ e :: G)) := by
  rw [List.append_assoc]
  refine List.Perm.append_left _ ?_
  rw [famH_app, show e :: G = [e] ++ G from rfl, famH_app, famH_app, famH_one, List.append_assoc]
  exact List.Perm.append_left _ List.perm_append_comm
variable {cx : Cx} {Q : Qt} {en : Env} {f : β → List Value} {sz : Nat} {T : TypeId} {R : HL} {c : Code}
/-- All rows of a family are put by for good. -/
theorem Cj.keepFam (hf : ∀ x, (f x).length = sz) (hpos : 0 < sz) : ∀ (F : List (α × List β × Gs)) (I : Heap), (∀ e ∈ F, gOk cx.w0.heap.size sz e.2.1.length (e.2.1.flatMap f) e.2.2) →
    (∀ I', Le I I' → (∀ e ∈ F, RowS f I' e.2.1 (gV e.2.1.length e.2.2)) → Cj cx Q c en I' R) → Cj cx Q c en I (famH T f F ++ R)
  | [], I, _, k => k I (Le.refl _) (fun _ h => by cases h)
  | e :: F, I, hg, k => by
    rw [show famH T f (e :: F) ++ R = gH T (e.2.1.flatMap f) e.2.2 ++ (famH T f F ++ R) from by rw [show e :: F = [e] ++ F from rfl, famH_app, famH_one, List.append_assoc]]
    refine Cj.keepR hf hpos (hg e (.head _)) rfl fun I1 h1 hr => ?_
    refine Cj.keepFam hf hpos F I1 (fun x hx => hg x (.tail _ hx)) fun I2 h2 hall => ?_
    refine k I2 (h1.trans h2) fun x hx => ?_
    rcases List.mem_cons.1 hx with rfl | hx
    · exact hr.mono h2
    · exact hall x hx
end
end Go.Sx
end
section
namespace Go.Sx
open Go
section
variable {α β : Type} [BEq α] [LawfulBEq α]
abbrev Fam (α β : Type) := List (α × List β × Gs)
def fget (F : Fam α β) (a : α) : List β := match F with
  | [] => []
  | (b, xs, _) :: r => if a == b then xs else fget r a
abbrev kvp (p : α × Value × Nat) : α × Value := (p.1, p.2.1)
abbrev fvp (e : α × List β × Gs) : α × Value := (e.1, gV e.2.1.length e.2.2)
def pget (l : List (α × Value)) (a : α) : Option Value := match l with
  | [] => none
  | (b, v) :: r => if a == b then some v else pget r a
def pset (l : List (α × Value)) (a : α) (v : Value) : List (α × Value) := match l with
  | [] => [(a, v)]
  | (b, u) :: r => if a == b then (b, v) :: r else (b, u) :: pset r a v
omit [LawfulBEq α] in
theorem mget_kvp (a : α) : ∀ l : ML α, mget l a = pget (l.map kvp) a
  | [] => rfl
  | (b, v, n) :: r => by simp only [mget, List.map_cons, pget, mget_kvp a r]
omit [LawfulBEq α] in
theorem mset_kvp (a : α) (v : Value) (c : Nat) : ∀ l : ML α, (mset l a v c).map kvp = pset (l.map kvp) a v
  | [] => rfl
  | (b, u, n) :: r => by
    simp only [mset, List.map_cons, pset]
    split
    · rfl
    · rw [List.map_cons, mset_kvp a v c r]
theorem pset_at {a : α} {u v : Value} {B : List (α × Value)} : ∀ {A : List (α × Value)}, a ∉ A.map (·.1) → pset (A ++ (a, u) :: B) a v = A ++ (a, v) :: B ∧ pget (A ++ (a, u) :: B) a = some u
  | [], _ => by simp [pset, pget]
  | (b, w) :: A, h => by
    rw [List.map_cons, List.mem_cons, not_or] at h
    obtain ⟨h1, h2⟩ := pset_at (u := u) (v := v) (B := B) h.2
    have hb : (a == b) = false := by simpa using h.1
    simp only [List.cons_append, pset, pget, hb, Bool.false_eq_true, if_false, h1, h2, and_self]
theorem pset_new {a : α} {v : Value} : ∀ {A : List (α × Value)}, a ∉ A.map (·.1) → pset A a v = A ++ [(a, v)] ∧ pget A a = none
  | [], _ => ⟨rfl, rfl⟩
  | (b, w) :: A, h => by
    rw [List.map_cons, List.mem_cons, not_or] at h
    obtain ⟨h1, h2⟩ := pset_new (v := v) h.2
    have hb : (a == b) = false := by simpa using h.1
    simp only [List.cons_append, pset, pget, hb, Bool.false_eq_true, if_false, h1, h2, and_self]
theorem fget_at {a : α} {xs : List β} {g : Gs} {B : Fam α β} : ∀ {A : Fam α β}, a ∉ A.map (·.1) → ∀ b, fget (A ++ (a, xs, g) :: B) b = if b == a then xs else fget (A ++ B) b
  | [], _, b => rfl
  | (c, ys, k) :: A, h, b => by
    rw [List.map_cons, List.mem_cons, not_or] at h
    simp only [List.cons_append, fget, fget_at h.2]
    by_cases hbc : b = c
    · subst hbc
      have : (b == a) = false := by simpa using Ne.symm h.1
      simp [this]
    · have : (b == c) = false := by simpa using hbc
      simp [this]
theorem fget_none {a : α} : ∀ {A : Fam α β}, a ∉ A.map (·.1) → fget A a = []
  | [], _ => rfl
  | (b, xs, g) :: A, h => by
    rw [List.map_cons, List.mem_cons, not_or] at h
    have hb : (a == b) = false := by simpa using h.1
    simp only [fget, hb, Bool.false_eq_true, if_false, fget_none h.2]
/-- The map's values are the rows of a family. -/
structure FamS (base sz : Nat) (f : β → List Value) (l : ML α) (F : Fam α β) : Prop where
  ok : ∀ e ∈ F, gOk base sz e.2.1.length (e.2.1.flatMap f) e.2.2
  vals : l.map kvp = F.map fvp
  nodup : (F.map (·.1)).Nodup
omit [BEq α] [LawfulBEq α] in
theorem FamS.nil {base sz : Nat} {f : β → List Value} : FamS base sz f ([] : ML α) ([] : Fam α β) := ⟨fun _ h => by (cases h), rfl, .nil⟩
omit [BEq α] [LawfulBEq α] in
theorem fam_find (F : Fam α β) (a : α) : a ∉ F.map (·.1) ∨ ∃ A xs g B, F = A ++ (a, xs, g) :: B := by
  by_cases h : a ∈ F.map (·.1)
  · obtain ⟨⟨b, xs, g⟩, he, rfl⟩ := List.mem_map.1 h
    obtain ⟨A, B, rfl⟩ := List.append_of_mem he
    exact .inr ⟨A, xs, g, B, rfl⟩
  · exact .inl h
omit [BEq α] [LawfulBEq α] in
theorem fvp_keys (F : Fam α β) : (F.map fvp).map (·.1) = F.map (·.1) := by rw [List.map_map]; rfl
/-- A key's row stands last; grown by one, it may be put back. -/
theorem FamS.out {base sz : Nat} {f : β → List Value} {l : ML α} {F : Fam α β} (T : TypeId) (h : FamS base sz f l F) (a : α) :
    ∃ (F1 F2 : Fam α β) (xs : List β) (g : Gs), (∀ R : HL, (R ++ famH T f (F1 ++ F2) ++ gH T (xs.flatMap f) g).Perm (R ++ famH T f F)) ∧ (mget l a).getD (.slice none 0 0) = gV xs.length g ∧ gOk base sz xs.length (xs.flatMap f) g ∧ fget F a = xs ∧
      ∀ x g' c, gOk base sz (xs.length + 1) (xs.flatMap f ++ f x) g' → ∃ F' : Fam α β, FamS base sz f (mset l a (gV (xs.length + 1) g') c) F' ∧ (∀ b, fget F' b = if b == a then xs ++ [x] else fget F b) ∧ ∀ R : HL, (R ++ famH T f F').Perm ((R ++ famH T f (F1 ++ F2)) ++ gH T (xs.flatMap f ++ f x) g') := by
  have key : ∀ {F1 F2 : Fam α β} {xs : List β} (_ : ∀ ys g' c, gOk base sz ys.length (ys.flatMap f) g' → FamS base sz f (mset l a (gV ys.length g') c) (F1 ++ (a, ys, g') :: F2) ∧ ∀ b, fget (F1 ++ (a, ys, g') :: F2) b = if b == a then ys else fget F b),
      ∀ x g' c, gOk base sz (xs.length + 1) (xs.flatMap f ++ f x) g' → ∃ F' : Fam α β, FamS base sz f (mset l a (gV (xs.length + 1) g') c) F' ∧ (∀ b, fget F' b = if b == a then xs ++ [x] else fget F b) ∧ ∀ R : HL, (R ++ famH T f F').Perm ((R ++ famH T f (F1 ++ F2)) ++ gH T (xs.flatMap f ++ f x) g') := by
    intro F1 F2 xs hk x g' c hg
    have hl : (xs ++ [x]).length = xs.length + 1 := by simp
    have hf : (xs ++ [x]).flatMap f = xs.flatMap f ++ f x := by simp
    obtain ⟨h1, h2⟩ := hk (xs ++ [x]) g' c (by rw [hl, hf]; exact hg)
    rw [hl] at h1
    refine ⟨_, h1, h2, fun R => ?_⟩
    have := (famH_out T f R F1 F2 (a, xs ++ [x], g')).symm
    dsimp only at this
    rw [hf] at this
    exact this
  rcases fam_find F a with hn | ⟨A, xs, g, B, rfl⟩
  · refine ⟨F, [], [], none, fun R => ?_, ?_, ⟨rfl, rfl⟩, fget_none hn, key fun ys g' c hg => ⟨⟨fun e he => ?_, ?_, ?_⟩, fun b => ?_⟩⟩
    · rw [List.append_nil]; simp [gH]
    · rw [mget_kvp, h.vals, (pset_new (v := .slice none 0 0) (by rw [fvp_keys]; exact hn)).2]; rfl
    · rcases List.mem_append.1 he with he | he
      · exact h.ok e he
      · rw [List.mem_singleton.1 he]; exact hg
    · rw [mset_kvp, h.vals, (pset_new (by rw [fvp_keys]; exact hn)).1, List.map_append]; rfl
    · rw [List.map_append, List.nodup_append]
      refine ⟨h.nodup, by simp, fun x hx y hy e => ?_⟩
      rw [List.map_cons, List.map_nil, List.mem_singleton] at hy
      have hxa : x = a := e.trans hy
      exact hn (hxa ▸ hx)
    · rw [fget_at hn, List.append_nil]
  · have hA : a ∉ A.map (·.1) := by
      have h1 := h.nodup
      rw [List.map_append, List.nodup_append] at h1
      exact fun hm => h1.2.2 a hm a (by rw [List.map_cons]; exact .head _) rfl
    have hA2 : a ∉ (A.map fvp).map (·.1) := by rw [fvp_keys]; exact hA
    have hv : l.map kvp = A.map fvp ++ (a, gV xs.length g) :: B.map fvp := by rw [h.vals, List.map_append]; rfl
    refine ⟨A, B, xs, g, fun R => famH_out T f R A B (a, xs, g), ?_, h.ok (a, xs, g) (by simp), ?_, key fun ys g' c hg => ⟨⟨fun e he => ?_, ?_, ?_⟩, fun b => ?_⟩⟩
    · rw [mget_kvp, hv, (pset_at (v := .slice none 0 0) hA2).2]; rfl
    · rw [fget_at hA, if_pos (by simp)]
    · rcases List.mem_append.1 he with he | he
      · exact h.ok e (List.mem_append_left _ he)
      · rcases List.mem_cons.1 he with rfl | he
        · exact hg
        · exact h.ok e (List.mem_append_right _ (.tail _ he))
    · rw [mset_kvp, hv, (pset_at hA2).1, List.map_append]; rfl
    · have h1 := h.nodup
      rw [List.map_append, List.map_cons] at h1 ⊢
      exact h1
    · rw [fget_at hA, fget_at hA]
      split <;> rfl
/-- Once the rows are put by, what stands at a key is its row. -/
theorem FamS.row {base sz : Nat} {f : β → List Value} {l : ML α} {F : Fam α β} {I : Heap} (h : FamS base sz f l F) (hr : ∀ e ∈ F, RowS f I e.2.1 (gV e.2.1.length e.2.2)) (a : α) : RowS f I (fget F a) ((mget l a).getD (.slice none 0 0)) := by
  rcases fam_find F a with hn | ⟨A, xs, g, B, rfl⟩
  · rw [fget_none hn, mget_kvp, h.vals, (pset_new (v := .slice none 0 0) (by rw [fvp_keys]; exact hn)).2]; exact RowS.nil
  · have hA : a ∉ A.map (·.1) := by
      have h1 := h.nodup
      rw [List.map_append, List.nodup_append] at h1
      exact fun hm => h1.2.2 a hm a (by rw [List.map_cons]; exact .head _) rfl
    have hv : l.map kvp = A.map fvp ++ (a, gV xs.length g) :: B.map fvp := by rw [h.vals, List.map_append]; rfl
    rw [fget_at hA, if_pos (by simp), mget_kvp, hv, (pset_at (v := .slice none 0 0) (by rw [fvp_keys]; exact hA)).2]
    exact hr (a, xs, g) (by simp)
variable {cx : Cx} {Q : Qt} {e : Env} {I : Heap} {H H' : HL}
theorem JA.perm {l : List Oper} {I1 : Heap} {A : HL} {Z : CL} {z fuel : Nat} {listed : Array Bool} (hs : H'.Perm H) (k : JA cx Q l I1 A Z z fuel listed e I H') : JA cx Q l I1 A Z z fuel listed e I H := fun a w ha h1 => k a w ha (h1.perm hs)
omit [BEq α] [LawfulBEq α] in
theorem Blk.mem {I : Heap} {H : HL} {b : Nat} {o : Obj} (h : (b, o) ∈ H) : Blk (SS I H) b o := fun _ hs => hs.2 _ h
end
end Go.Sx
end
section
namespace Go.Proofs.YtadnofaleepkmaaGreatDoor
open Go Go.Sx
/-- A slice of texts whose cells stand for good, or an empty one. -/
def StrP (I : Heap) (l : List (List UInt8)) (v : Value) : Prop := ∃ p c, v = .slice p l.length c ∧ l.length ≤ c ∧ (l ≠ [] → ∃ b o cs t fr sp, p = some ⟨b, o, none⟩ ∧ I b = some (.cells (List.toArray cs) t fr) ∧ cs.drop o = l.map str ++ sp)
theorem StrP.of {I : Heap} {l : List (List UInt8)} {v : Value} (h : StrS 9 I l v) : StrP I l v := by
  rcases h with ⟨rfl, rfl⟩ | ⟨b, c, sp, rfl, hc, hb⟩
  · exact ⟨none, 0, rfl, Nat.le_refl _, fun h => absurd rfl h⟩
  · exact ⟨_, c, rfl, hc, fun _ => ⟨b, 0, _, _, _, sp, rfl, hb, rfl⟩⟩
theorem StrP.mono {I I' : Heap} {l : List (List UInt8)} {v : Value} (h : StrP I l v) (hle : Le I I') : StrP I' l v :=
  let ⟨p, c, h1, h2, h3⟩ := h; ⟨p, c, h1, h2, fun hn => let ⟨b, o, cs, t, fr, sp, h4, h5, h6⟩ := h3 hn; ⟨b, o, cs, t, fr, sp, h4, hle _ _ h5, h6⟩⟩
theorem take_same {α : Type} {a b : List α} {k : Nat} {x : α} (h : a.take k = b.take k) (h1 : a[k]? = some x) (h2 : b[k]? = some x) : a.take (k + 1) = b.take (k + 1) := by
  obtain ⟨l1, g1⟩ := List.getElem?_eq_some_iff.1 h1
  obtain ⟨l2, g2⟩ := List.getElem?_eq_some_iff.1 h2
  rw [List.take_succ_eq_append_getElem l1, List.take_succ_eq_append_getElem l2, h, g1, g2]
end Go.Proofs.YtadnofaleepkmaaGreatDoor
end
section
namespace Go.Proofs.YtadnofaleepkmaaGreatDoor
open Go Go.Sx
end Go.Proofs.YtadnofaleepkmaaGreatDoor
end
section
namespace Ke
open Go.Lib (decodeL decodeN)
end Ke
end
section
namespace Ke
def parts : List Bs := [[97], [98], [84, 104, 101, 32], [108, 101], [32], [32, 32], [39], [195, 137], [195, 169], [195, 184], [195, 159], [195, 134], [101, 204, 129], [204, 136], [239, 184, 160], [206, 163], [207, 130], [207, 131], [206, 134], [207, 137], [206, 162], [208, 150], [209, 143], [208, 129], [208, 185], [230, 151, 165], [255], [195], [48], [55], [49, 50], [48, 48, 55], [90], [45], [44, 32], [111, 102], [119, 97, 108, 108], [197, 181], [205, 176], [120]]
def piece (n : Int) : Bs := parts.getD (n % 40).toNat []
def made (l : List Int) : Bs := (l.take 60).flatMap piece
theorem parts_len : parts.length = 40 := by rfl
theorem parts_small : parts.all (fun p => decide (p.length ≤ 4)) = true := by decide +kernel
theorem piece_at (n : Int) : parts[(n % 40).toNat]? = some (piece n) := by
  have h : (n % 40).toNat < parts.length := by rw [parts_len]; omega
  unfold piece
  rw [List.getD, List.getElem?_eq_getElem h]; rfl
theorem piece_len (n : Int) : (piece n).length ≤ 4 := by
  have h := List.all_eq_true.1 parts_small _ (List.mem_of_getElem? (piece_at n))
  simpa using h
theorem flat_len : ∀ (l : List Int), (l.flatMap piece).length ≤ 4 * l.length
  | [] => Nat.le_refl _
  | a :: r => by
    have h1 := piece_len a
    have h2 := flat_len r
    simp only [List.flatMap_cons, List.length_append, List.length_cons]; omega
theorem made_len (l : List Int) : (made l).length ≤ 240 := by
  have h := flat_len (l.take 60)
  have h2 : (l.take 60).length ≤ 60 := by rw [List.length_take]; omega
  unfold made; omega
end Ke
end
section
namespace Go.Proofs.YtadnofaleepkmaaGreatDoor
open Go Go.Sx
end Go.Proofs.YtadnofaleepkmaaGreatDoor
end
section
namespace Go.Proofs.YtadnofaleepkmaaGreatDoor
open Go Go.Sx
theorem StrP.len {I : Heap} {l : List (List UInt8)} {v : Value} (h : StrP I l v) : ∃ p c, v = .slice p l.length c := let ⟨p, c, h, _⟩ := h; ⟨p, c, h⟩
theorem pg_next {s x : List UInt8} {d : Bool} {l : List (List UInt8)} : Ke.pg s d (x :: l) = (if s < x ∧ d = false then [s, x] else [x]) ++ Ke.pg s (d || decide (s < x)) l := by
  rw [Ke.pg]
  by_cases h : s < x
  · cases d
    · rw [if_pos ⟨h, rfl⟩, if_pos ⟨h, rfl⟩]; simp [h]
    · rw [if_neg (by simp), if_neg (by simp)]; rfl
  · rw [if_neg (fun g => h g.1), if_neg (fun g => h g.1)]; simp [h]
theorem pg_len (s : List UInt8) : ∀ (l : List (List UInt8)) (d : Bool), (Ke.pg s d l).length ≤ l.length + 1
  | [], true => Nat.zero_le _
  | [], false => Nat.le_refl _
  | x :: l, d => by
    have := pg_len s l (d || decide (s < x))
    rw [pg_next, List.length_append, List.length_cons]
    by_cases h : s < x ∧ d = false
    · rw [if_pos h]
      obtain ⟨h1, rfl⟩ := h
      have h2 : Ke.pg s (false || decide (s < x)) l = l := by rw [decide_eq_true h1]; exact Ke.pg_true s l
      rw [h2]; simp; omega
    · rw [if_neg h]; simp; omega
theorem put_len (l : List (List UInt8)) (s : List UInt8) : (Ke.put l s).length ≤ l.length + 1 := by
  unfold Ke.put
  split
  · omega
  · exact pg_len s l false
theorem puts_len : ∀ (xs l : List (List UInt8)), (xs.foldl Ke.put l).length ≤ l.length + xs.length
  | [], l => Nat.le_refl _
  | x :: xs, l => by
    have h1 := puts_len xs (Ke.put l x)
    have h2 := put_len l x
    simp only [List.foldl_cons, List.length_cons]; omega
theorem first_row {I : Heap} {fs : List Ke.Fld} {v : Value} (tag : List UInt8) (h : RecS I fs v) : RowS subC I (Ke.first fs tag).subs (Ke.first fs tag).sv := by
  rcases first_in fs tag with e | e
  · rw [e]; exact RowS.nil
  · exact h.2 _ e
end Go.Proofs.YtadnofaleepkmaaGreatDoor
end
section
namespace Go.Proofs.YtadnofaleepkmaaGreatDoor
open Go Go.Sx
theorem tx_one (code : UInt8) {ss : List Ke.Sub} {k : Nat} {s : Ke.Sub} (h : ss[k]? = some s) : tx [code] (ss.take (k + 1)) = tx [code] (ss.take k) ++ (if s.code = code then [s.text] else []) := by
  rw [tx_next h]
  by_cases hc : s.code = code
  · rw [if_pos hc, if_pos (by simp [hc])]
  · rw [if_neg hc, if_neg (by simpa using hc)]
/-- The number that four digits denote. -/
def numS (s : List UInt8) : Int := if s.length = 4 ∧ Ke.digits s = true then (Ke.val4 s : Int) else -1
theorem numS_cut {s : List UInt8} (h : 4 ≤ s.length) : numS (s.take 4) = Ke.num4 s := by
  unfold numS Ke.num4
  rw [List.length_take, Nat.min_eq_left h]
  have hv : Ke.val4 (s.take 4) = Ke.val4 (s.take 4) := rfl
  by_cases hd : Ke.digits (s.take 4) = true
  · rw [if_pos ⟨rfl, hd⟩, if_pos ⟨h, hd⟩]
  · rw [if_neg (fun g => hd g.2), if_neg (fun g => hd g.2)]
theorem val4_next {s : List UInt8} {k : Nat} {c : UInt8} (h : s[k]? = some c) : Ke.val4 (s.take (k + 1)) = 10 * Ke.val4 (s.take k) + (c.toNat - 48) := by
  obtain ⟨hlt, hg⟩ := List.getElem?_eq_some_iff.1 h
  unfold Ke.val4
  rw [List.take_succ_eq_append_getElem hlt, hg, List.foldl_append]; rfl
theorem digits_take {s : List UInt8} (h : Ke.digits s = true) (k : Nat) : Ke.digits (s.take k) = true := List.all_eq_true.2 fun c hc => List.all_eq_true.1 h c (List.mem_of_mem_take hc)
theorem year_at {s : List UInt8} {i : Nat} (h : i + 4 ≤ s.length) : Ke.yearIn (s.drop i) = if 0 ≤ Ke.num4 (s.drop i) then Ke.num4 (s.drop i) else Ke.yearIn (s.drop (i + 1)) := by
  obtain ⟨c, hc⟩ : ∃ c, s[i]? = some c := ⟨_, List.getElem?_eq_getElem (by omega)⟩
  rw [drop_cons hc]; rfl
theorem cut4 {s : List UInt8} {i : Nat} : (s.take (i + 4)).drop i = (s.drop i).take 4 := by
  rw [List.drop_take]; congr 1; omega
set_option maxRecDepth 20000 in
theorem first1_ok (f : Ke.Fld) (tb : Nat) (tag : List UInt8) (I : Heap) (htb : I tb = some (cel 9 [str tag])) : Pure Tryz.prog 95 [.agg (fldC f).toArray, ptr tb 0] I (.bool (f.tag == tag)) := by
 refine Ctr.of_body Tryz.func95 rfl (by decide) (Nat.le_of_ble_eq_true rfl) ?_
 intro w0 hw0
 refine Cj.seq (Cj.region (J.op rfl (op_box rfl rfl rfl rfl rfl ?_)))
 intro b1 hb1
 refine J.z (yl_assign rfl rfl) ?_
 refine J.nil (Ej.seq (Cj.seq (Cj.region (J.z (yl_fieldAddr (off' := 0) rfl rfl Tryz.underlying35 rfl Tryz.sizeOf9 rfl) ?_))))
 refine J.z (yl_load rfl rfl Tryz.isAgg9 (Blk.at 0 rfl) rfl) ?_
 refine J.z (yl_load rfl rfl Tryz.isAgg9 (Blk.imm htb) rfl) ?_
 refine J.z (yl_eqlStr rfl rfl rfl) ?_
 refine J.z (yl_assign rfl rfl) ?_
 refine J.nil (Ej.seq (Cj.ret (Ej.bare ?_)))
 refine Ej.ret1 rfl rfl rfl ?_
 exact ⟨rfl, rfl, rfl⟩
set_option maxRecDepth 20000 in
theorem IndexFuncM_ok (fs : List Ke.Fld) (v : Value) (hfs : fs.length ≤ 2000000) (tb : Nat) (tag : List UInt8) (I : Heap) (hr : RecS I fs v) (htb : I tb = some (cel 9 [str tag])) : Ctr Tryz.prog 75 [v, .func (.func 95) #[] #[ptr tb 0]] I []
    (fun e _I' H' => ∃ n, e = .returned (i64 n) ∧ foundAt fs tag n ∧ H' = []) := by
 obtain ⟨⟨p, c, rfl, hc, hp⟩, hsub⟩ := hr
 refine Ctr.of_body Tryz.func75 rfl (by decide) (Nat.le_of_ble_eq_true rfl) ?_
 intro w0 hw0
 refine Cj.seq (Cj.region (J.z (yl_assign rfl rfl) ?_))
 refine J.nil (Ej.seq (Cj.seq (Cj.seq (Cj.region (J.z (yl_move rfl rfl) ?_)))))
 refine J.z (yl_lenSlice rfl rfl Tryz.underlying23) ?_
 refine J.z (yl_move rfl rfl) ?_
 refine J.nil (Ej.seq (Cj.block (Cj.loop (ι := Nat) (fun j => j ≤ fs.length ∧ ∀ g ∈ fs.take j, g.tag ≠ tag) (fun j => fs.length - j) (fun j => [(0, .slice p fs.length c), (1, .func (.func 95) #[] #[ptr tb 0]), (7, i64 (fs.length : Int)), (8, i64 (j : Int))]) (fun j => I) (fun j => []) 0 ⟨Nat.zero_le _, fun g hg => by simp at hg⟩ ⟨rfl, rfl, rfl, rfl, trivial⟩ rfl rfl ?_)))
 rintro j ⟨hj, hall⟩
 refine Cj.seq (Cj.region (J.z (yl_lss rfl rfl rfl) ?_))
 refine J.nil (Ej.seq (Cj.seq (Cj.cond rfl (fun hc1 => ?_) (fun hc1 => ?_))))
 ·
  have hc1p := of_decide_eq_true hc1
  have hlt : j < fs.length := by omega
  obtain ⟨f, hget⟩ : ∃ f, fs[j]? = some f := ⟨_, List.getElem?_eq_getElem hlt⟩
  obtain ⟨fb, fo, fcs, fty, ffr, sp, rfl, hfb, hfd⟩ := hp (ne_nil_of hlt)
  refine Cj.skip (Ej.seq (Cj.seq (Cj.block (Cj.seq (Cj.region (J.z (yl_move rfl rfl) ?_))))))
  refine J.z (yl_assign rfl rfl) ?_
  refine J.nil (Ej.seq (Cj.seq (Cj.region (J.z (yl_move rfl rfl) ?_))))
  refine J.z (yl_move rfl rfl) ?_
  refine J.z (yl_move rfl rfl) ?_
  refine J.z (yl_indexAddr (off' := fo + j * 4) rfl rfl rfl Tryz.underlying23 Tryz.sizeOf35 (by omega) (by omega) (by simp)) ?_
  refine J.z (yl_loadAgg rfl rfl Tryz.isAgg35 Tryz.sizeOf35 (Blk.imm hfb) (row_from fldC_len hfd hget) rfl) ?_
  refine J.op rfl (op_pure rfl rfl rfl rfl rfl (first1_ok f tb tag _ htb) ?_)
  refine J.nil (Ej.seq (Cj.cond rfl (fun hc2 => ?_) (fun hc2 => ?_)))
  ·
   have ht : f.tag = tag := eq_of_beq hc2
   refine Cj.seq (Cj.region (J.z (yl_move rfl rfl) ?_))
   refine J.z (yl_assign rfl rfl) ?_
   refine J.nil (Ej.seq (Cj.ret (Ej.blkRet (Ej.seqRet (Ej.loopRet (Ej.blkRet (Ej.seqRet (Ej.ret1 rfl rfl rfl ?_))))))))
   exact ⟨_, rfl, .inr ⟨j, f, rfl, hget, find_some hall hget ht⟩, rfl⟩
  ·
   have hnt : f.tag ≠ tag := ne_of_beq_false hc2
   refine Cj.skip (Ej.blkNormal (Ej.seq (Cj.region (J.z (yl_add rfl rfl rfl (w64 (by omega))) ?_))))
   refine J.z (yl_move rfl rfl) ?_
   refine J.nil (Ej.round (j + 1) ⟨by omega, tags_next hall hget hnt⟩ (by omega) ⟨rfl, rfl, rfl, rfl, trivial⟩ rfl rfl)
 ·
  have hc1p := of_decide_eq_false hc1
  have hfull : fs.take j = fs := List.take_of_length_le (by omega)
  rw [hfull] at hall
  refine Cj.exit (Ej.seqExit (Ej.loopExit (Ej.blkExit (Ej.seq (Cj.seq (Cj.region (J.z (yl_assign rfl rfl) ?_)))))))
  refine J.nil (Ej.seq (Cj.ret (Ej.ret1 rfl rfl rfl ?_)))
  exact ⟨_, rfl, .inl ⟨rfl, find_none hall⟩, rfl⟩
set_option maxRecDepth 20000 in
theorem mfirst_ok (fs : List Ke.Fld) (v : Value) (rk rl : UInt8) (tag : List UInt8) (hfs : fs.length ≤ 2000000) (I : Heap) (hr : RecS I fs v) : Ctr Tryz.prog 61 [recV rk rl v, str tag] I []
    (fun e _ H' => e = .returned (.tuple #[.agg (fldC (Ke.first fs tag)).toArray, .bool (Ke.find fs tag).isSome]) ∧ H' = []) := by
 obtain ⟨p, c, rfl, hc, -⟩ := id hr.1
 refine Ctr.of_body Tryz.func61 rfl (by decide) (Nat.le_of_ble_eq_true rfl) ?_
 intro w0 hw0
 refine Cj.seq (Cj.region (J.op rfl (op_box rfl rfl rfl rfl rfl ?_)))
 intro b1 hb1
 refine J.op rfl (op_box rfl rfl rfl rfl rfl ?_)
 intro b2 hb2
 refine J.op rfl (op_alloc rfl rfl rfl Tryz.zeroValue35 rfl ?_)
 intro b3 hb3
 refine J.z (yl_assign rfl rfl) ?_
 refine J.nil (Ej.seq (Cj.seq (Cj.pull (Pull.s Pull.z) ?_)))
 refine Cj.persist hb2 (fun I9 hle9 htb => ?_)
 have hr := hr.mono hle9
 refine Cj.region (J.z (yl_fieldAddr (off' := 2) rfl rfl Tryz.underlying26 rfl Tryz.sizeOf23 rfl) ?_)
 refine J.z (yl_load rfl rfl Tryz.isAgg23 (Blk.at 1 rfl) rfl) ?_
 refine J.z (yl_makeFunc rfl rfl rfl) ?_
 refine J.op rfl (op_call (H1 := []) rfl rfl rfl rfl rfl (IndexFuncM_ok fs _ hfs b2 tag _ hr htb) ?_ (fun _ _ _ _ h => by obtain ⟨_, h, _⟩ := h; cases h) (fun _ _ h => by obtain ⟨_, h, _⟩ := h; cases h))
 intro v4 I5 H6 hle7 hp8
 have hr := hr.mono hle7
 have htb := hle7 _ _ htb
 obtain ⟨n, h, hn, rfl⟩ := hp8; cases h
 refine J.z (yl_assign rfl rfl) ?_
 refine J.nil (Ej.seq (Cj.seq (Cj.seq (Cj.region (J.z (yl_move rfl rfl) ?_)))))
 refine J.z (yl_lss rfl rfl rfl) ?_
 refine J.nil (Ej.seq (Cj.cond rfl (fun hc9 => ?_) (fun hc9 => ?_)))
 ·
  have hc9p := of_decide_eq_true hc9
  have hn0 := of_decide_eq_true hc9
  have hfind : Ke.find fs tag = none := (hn.resolve_right (fun ⟨k, f, h, _⟩ => by rw [h] at hn0; omega)).2
  refine Cj.seq (Cj.region (J.z (yl_buildS (pl := #[(0, 1), (1, 1), (2, 1), (3, 1)]) rfl rfl Tryz.zeroValue35 rfl Tryz.underlying35 (fun w => by simp [Tryz.sizeOf33, Tryz.sizeOf9]) LBld.none) ?_))
  refine J.op rfl (op_store 0 rfl rfl rfl rfl rfl rfl Tryz.sizeOf35 rfl rfl (LSpl.c (LSpl.c (LSpl.c (LSpl.c LSpl.z)))) LSet.z ?_)
  refine J.z (yl_assign rfl rfl) ?_
  refine J.nil (Ej.seq (Cj.ret (Ej.seqRet ?_)))
  have hfirst : Ke.first fs tag = Ke.zf := by unfold Ke.first; rw [hfind]; rfl
  rw [hfirst, hfind]
  refine Ej.retCT (Keeps.d (Keeps.d Keeps.n)) rfl rfl rfl (Blk.at 0 rfl) Tryz.isAgg35 Tryz.sizeOf35 rfl rfl ?_
  exact ⟨rfl, rfl⟩
 ·
  have hc9p := of_decide_eq_false hc9
  have hn0 := of_decide_eq_false hc9
  obtain ⟨k, f, rfl, hget, hfind⟩ := hn.resolve_left (fun h => hn0 (by rw [h.1]; decide))
  have hklt := (List.getElem?_eq_some_iff.1 hget).1
  obtain ⟨⟨p1, c1, hpe, hc1, hp⟩, hsub⟩ := id hr
  cases hpe
  obtain ⟨fb, fo, fcs, fty, ffr, sp, rfl, hfb, hfd⟩ := hp (ne_nil_of hklt)
  obtain ⟨p2, c2, hsv, hc2, hp2⟩ := hsub f (List.mem_of_getElem? hget)
  refine Cj.skip (Ej.seq (Cj.seq (Cj.region (J.z (yl_fieldAddr (off' := 2) rfl rfl Tryz.underlying26 rfl Tryz.sizeOf23 rfl) ?_))))
  refine J.z (yl_load rfl rfl Tryz.isAgg23 (Blk.at 1 rfl) rfl) ?_
  refine J.z (yl_move rfl rfl) ?_
  refine J.z (yl_indexAddr (off' := fo + k * 4) rfl rfl rfl Tryz.underlying23 Tryz.sizeOf35 (by omega) (by omega) (by simp)) ?_
  refine J.z (yl_loadAgg rfl rfl Tryz.isAgg35 Tryz.sizeOf35 (Blk.imm hfb) (row_from fldC_len hfd hget) rfl) ?_
  refine J.op rfl (op_store 0 rfl rfl rfl rfl rfl (fldC_one hsv) Tryz.sizeOf35 rfl rfl (LSpl.c (LSpl.c (LSpl.c (LSpl.c LSpl.z)))) LSet.z ?_)
  refine J.z (yl_assign rfl rfl) ?_
  refine J.nil (Ej.seq (Cj.ret ?_))
  have hfirst : Ke.first fs tag = f := by unfold Ke.first; rw [hfind]; rfl
  rw [hfirst, hfind]
  refine Ej.retCT (Keeps.d (Keeps.d Keeps.n)) rfl rfl rfl (Blk.at 0 rfl) Tryz.isAgg35 Tryz.sizeOf35 rfl rfl ?_
  exact ⟨rfl, rfl⟩
set_option maxRecDepth 20000 in
theorem mtext_ok (f : Ke.Fld) (code : UInt8) (hn : f.subs.length ≤ 2000000) (htx : textsLen f.subs ≤ 2000000) (I : Heap) (hr : RowS subC I f.subs f.sv) : Pure Tryz.prog 63 [.agg (fldC f).toArray, u8 code] I (str (Ke.textOf f [code])) := by
 refine Ctr.toPure ?_
 obtain ⟨p2, c2, hsv, hc2, hp2⟩ := hr
 refine Ctr.of_body Tryz.func63 rfl (by decide) (Nat.le_of_ble_eq_true rfl) ?_
 intro w0 hw0
 refine Cj.seq (Cj.region (J.op rfl (op_box rfl rfl rfl rfl rfl ?_)))
 intro b1 hb1
 refine J.z (yl_assign rfl rfl) ?_
 refine J.nil (Ej.seq (Cj.seq (Cj.region (J.z (yl_assign rfl rfl) ?_))))
 refine J.nil (Ej.seq (Cj.seq (Cj.seq (Cj.region (J.z (yl_fieldAddr (off' := 3) rfl rfl Tryz.underlying35 rfl Tryz.sizeOf33 rfl) ?_)))))
 refine J.z (yl_load rfl rfl Tryz.isAgg33 (Blk.at 0 rfl) rfl) ?_
 refine J.eqv 9 rfl (show _ = .slice p2 f.subs.length c2 from hsv) ?_
 refine J.z (yl_lenSlice rfl rfl Tryz.underlying33) ?_
 refine J.z (yl_move rfl rfl) ?_
 refine J.nil (Ej.seq (Cj.block (Cj.keep (Keeps.d Keeps.n) ?_)))
 refine Cj.loop (ι := Nat × Gs) (fun j => j.1 ≤ f.subs.length ∧ gOk w0.heap.size 1 (tx [code] (f.subs.take j.1)).length ((tx [code] (f.subs.take j.1)).map str) j.2) (fun j => f.subs.length - j.1) (fun j => [(1, u8 code), (5, gV (tx [code] (f.subs.take j.1)).length j.2), (9, .slice p2 f.subs.length c2), (10, i64 (f.subs.length : Int)), (11, i64 (j.1 : Int))]) (fun j => _) (fun j => gH 9 ((tx [code] (f.subs.take j.1)).map str) j.2) (0, none) ⟨Nat.zero_le _, rfl, rfl⟩ ⟨rfl, rfl, rfl, rfl, rfl, trivial⟩ rfl rfl ?_
 rintro ⟨j, g⟩ ⟨hj, hg⟩
 dsimp only at hj hg ⊢
 have htl := tx_len [code] (f.subs.take j)
 rw [List.length_take, Nat.min_eq_left hj] at htl
 refine Cj.seq (Cj.region (J.z (yl_lss rfl rfl rfl) ?_))
 refine J.nil (Ej.seq (Cj.seq (Cj.cond rfl (fun hc2 => ?_) (fun hc2 => ?_))))
 ·
  have hc2p := of_decide_eq_true hc2
  refine Cj.skip (Ej.seq (Cj.seq (Cj.block (Cj.seq ?_))))
  have hlt : j < f.subs.length := by omega
  obtain ⟨sb, hsget⟩ : ∃ x, f.subs[j]? = some x := ⟨_, List.getElem?_eq_getElem hlt⟩
  obtain ⟨sbk, so, scs, sty, sfr, sp2, rfl, hsbk, hsd⟩ := hp2 (ne_nil_of hlt)
  have hnx := tx_one code hsget
  refine Cj.region (J.z (yl_indexAddr (off' := so + j * 2) rfl rfl rfl Tryz.underlying33 Tryz.sizeOf47 (by omega) (by omega) (by simp)) ?_)
  refine J.z (yl_loadAgg rfl rfl Tryz.isAgg47 Tryz.sizeOf47 (Blk.imm hsbk) (row_from subC_len hsd hsget) rfl) ?_
  refine J.op rfl (op_alloc rfl rfl rfl Tryz.zeroValue47 rfl ?_)
  intro b3 hb3
  refine J.op rfl (op_store 0 rfl rfl rfl rfl rfl rfl Tryz.sizeOf47 rfl rfl (LSpl.c (LSpl.c LSpl.z)) LSet.z ?_)
  refine J.nil (Ej.seq (Cj.seq (Cj.region (J.z (yl_fieldAddr (off' := 0) rfl rfl Tryz.underlying47 rfl Tryz.sizeOf5 rfl) ?_))))
  refine J.z (yl_load rfl rfl Tryz.isAgg5 (Blk.at 0 rfl) rfl) ?_
  refine J.z (yl_move rfl rfl) ?_
  refine J.z (yl_eql rfl rfl rfl) ?_
  refine J.nil (Ej.seq (Cj.cond rfl (fun hc4 => ?_) (fun hc4 => ?_)))
  ·
   have hc4p := eq_of_beq hc4
   have hcd : sb.code = code := UInt8.toNat_inj.1 (by have h := eq_of_beq hc4; omega)
   rw [if_pos hcd] at hnx
   refine Cj.region (J.z (yl_move rfl rfl) ?_)
   refine J.z (yl_fieldAddr (off' := 1) rfl rfl Tryz.underlying47 rfl Tryz.sizeOf9 rfl) ?_
   refine J.z (yl_load rfl rfl Tryz.isAgg9 (Blk.at 0 rfl) rfl) ?_
   refine J.op rfl (op_buildSlice rfl rfl rfl Tryz.underlying31 Tryz.sizeOf9 Tryz.zeroValue9 rfl rfl rfl rfl (LCat.one rfl LCat.none) ?_)
   intro b5 hb5
   refine J.op rfl (op_append (by' := 15) [_, _] rfl rfl rfl rfl rfl Tryz.underlying31 (.inr ⟨_, Tryz.underlying31⟩) (by kernel_rfl) Tryz.sizeOf9 Tryz.zeroValue9 rfl hg rfl (Src.slice (Blk.at 0 rfl) rfl rfl rfl) (by omega) ?_)
   intro g6 hg6
   refine J.z (yl_assign rfl rfl) ?_
   refine J.nil (Ej.blkNormal (Ej.seq (Cj.region (J.z (yl_add rfl rfl rfl (w64 (by omega))) ?_))))
   refine J.z (yl_move rfl rfl) ?_
   refine J.nil (Ej.keep (Keeps.d (Keeps.d Keeps.r)) ?_)
   refine Ej.round (j + 1, g6) ⟨by dsimp only; omega, by dsimp only; rw [hnx, List.map_append, List.length_append]; exact hg6⟩ (by dsimp only; omega) ⟨rfl, by dsimp only; rw [hnx, List.length_append]; rfl, rfl, rfl, rfl, trivial⟩ rfl (by dsimp only; rw [hnx, List.map_append]; rfl)
  ·
   have hc4p := ne_of_beq_false hc4
   have hcd : sb.code ≠ code := fun e => ne_of_beq_false hc4 (by rw [e])
   rw [if_neg hcd] at hnx
   refine Cj.skip (Ej.blkNormal (Ej.seq (Cj.region (J.z (yl_add rfl rfl rfl (w64 (by omega))) ?_))))
   refine J.z (yl_move rfl rfl) ?_
   refine J.nil (Ej.keep (Keeps.d Keeps.r) ?_)
   refine Ej.round (j + 1, g) ⟨by dsimp only; omega, by dsimp only; rw [hnx, List.append_nil]; exact hg⟩ (by dsimp only; omega) ⟨rfl, by dsimp only; rw [hnx, List.append_nil]; rfl, rfl, rfl, rfl, trivial⟩ rfl (by dsimp only; rw [hnx, List.append_nil])
 ·
  have hc2p := of_decide_eq_false hc2
  refine Cj.exit (Ej.seqExit (Ej.loopExit (Ej.blkExit (Ej.seq (Cj.seq ?_)))))
  have hfull : f.subs.take j = f.subs := List.take_of_length_le (by omega)
  rw [hfull] at hg ⊢
  have htl2 := textOf_len f [code]
  refine Cj.perm (H' := gH _ _ _ ++ []) (.of_eq (List.append_nil _)) ?_
  refine Cj.keepS hg (fun I8 hle8 hv => ?_)
  refine Cj.region (J.z (yl_move rfl rfl) ?_)
  refine J.op rfl (op_pure rfl rfl rfl rfl rfl (Join_ok (tx [code] f.subs) _ (by have := tx_len [code] f.subs; omega) (by have e : Ke.join (tx [code] f.subs) = Ke.textOf f [code] := rfl; rw [e]; omega) _ hv) ?_)
  refine J.z (yl_assign rfl rfl) ?_
  refine J.nil (Ej.seq (Cj.ret (Ej.ret1 rfl rfl rfl ?_)))
  exact ⟨rfl, rfl⟩
set_option maxRecDepth 20000 in
theorem mnumber_ok (s : List UInt8) (hs : s.length ≤ 1000000000000) (I : Heap) : Pure Tryz.prog 94 [str s] I (i64 (numS s)) := by
 refine Ctr.of_body Tryz.func94 rfl (by decide) (Nat.le_of_ble_eq_true rfl) ?_
 intro w0 hw0
 refine Cj.seq (Cj.region (J.z (yl_assign rfl rfl) ?_))
 refine J.nil (Ej.seq (Cj.seq (Cj.seq (Cj.region (J.z (yl_move rfl rfl) ?_)))))
 refine J.z (yl_lenStr rfl rfl Tryz.underlying9) ?_
 refine J.z (yl_neq rfl rfl rfl) ?_
 refine J.z (yl_move rfl rfl) ?_
 refine J.split 9 rfl (fun hg1 => ?_) (fun hg1 => ?_)
 ·
  have hg1p := bne_iff_ne.1 hg1
  have h4 : s.length ≠ 4 := by have h := bne_iff_ne.1 hg1; omega
  refine J.skip 3 9 10 false _ rfl rfl rfl hg1 rfl rfl ?_
  refine J.skip 3 9 11 false _ rfl rfl rfl hg1 rfl rfl ?_
  refine J.skip 3 9 12 false _ rfl rfl rfl hg1 rfl rfl ?_
  refine J.z (yl_pick1 rfl rfl hg1 rfl) ?_
  refine J.nil (Ej.seq (Cj.cond rfl (fun hc2 => ?_) (fun hc2 => Bool.noConfusion (Eq.trans (Eq.symm rfl) hc2))))
  refine Cj.seq (Cj.region (J.z (yl_assign rfl rfl) ?_))
  refine J.nil (Ej.seq (Cj.ret (Ej.seqRet (Ej.ret1 rfl rfl rfl ?_))))
  rw [show numS s = -1 from if_neg (fun g => h4 g.1)]
  exact ⟨rfl, rfl, rfl⟩
 ·
  have hg1p := bne_f hg1
  have h4 : s.length = 4 := by have h := bne_f hg1; omega
  refine J.opG 3 9 false _ rfl rfl rfl hg1 (op_yld (yl_move rfl rfl) rfl rfl ?_)
  refine J.opG 3 9 false _ rfl rfl rfl hg1 (op_pure rfl rfl rfl rfl rfl (Trim_ok s hs _) ?_)
  refine J.opG 3 9 false _ rfl rfl rfl hg1 (op_yld (yl_neqStr rfl rfl rfl) rfl rfl ?_)
  refine J.z (yl_pick0 rfl rfl hg1 rfl) ?_
  refine J.nil (Ej.seq (Cj.cond rfl (fun hc3 => ?_) (fun hc3 => ?_)))
  ·
   have hc3p := bne_iff_ne.1 hc3
   have hd : ¬ Ke.digits s = true := fun e => bne_iff_ne.1 hc3 (eq_of_beq ((Ke.trim_digits s).trans e))
   refine Cj.seq (Cj.region (J.z (yl_assign rfl rfl) ?_))
   refine J.nil (Ej.seq (Cj.ret (Ej.seqRet (Ej.ret1 rfl rfl rfl ?_))))
   rw [show numS s = -1 from if_neg (fun g => hd g.2)]
   exact ⟨rfl, rfl, rfl⟩
  ·
   have hc3p := bne_f hc3
   have hd : Ke.digits s = true := (Ke.trim_digits s).symm.trans (beq_iff_eq.2 (bne_f hc3))
   refine Cj.skip (Ej.seq (Cj.seq (Cj.region (J.z (yl_assign rfl rfl) ?_))))
   refine J.nil (Ej.seq (Cj.seq (Cj.seq (Cj.region (J.z (yl_move rfl rfl) ?_)))))
   refine J.op rfl (op_toBytes rfl rfl rfl rfl Tryz.underlying9 Tryz.underlying86 Tryz.underlying5 ?_)
   intro b4 c5 sp6 fr7 hb4 hfr7
   refine J.z (yl_lenSlice rfl rfl Tryz.underlying86) ?_
   refine J.z (yl_move rfl rfl) ?_
   refine J.nil (Ej.seq (Cj.block (Cj.loop (ι := Nat) (fun j => j ≤ 4) (fun j => 4 - j) (fun j => [(3, i64 ((Ke.val4 (s.take j) : Nat) : Int)), (15, .slice (some ⟨b4, 0, none⟩) s.length c5), (16, i64 (s.length : Int)), (17, i64 (j : Int))]) (fun j => I) (fun j => [(b4, .cells (bcs s ++ sp6).toArray 5 (fr7, fr7 + 1))]) 0 (Nat.zero_le _) ⟨rfl, rfl, rfl, rfl, trivial⟩ rfl rfl ?_)))
   intro j hj
   have hvl := Ke.val4_le (s := s.take j) (by rw [List.length_take]; omega) (digits_take hd j)
   refine Cj.seq (Cj.region (J.z (yl_lss rfl rfl rfl) ?_))
   refine J.nil (Ej.seq (Cj.seq (Cj.cond rfl (fun hc8 => ?_) (fun hc8 => ?_))))
   ·
    have hc8p := of_decide_eq_true hc8
    refine Cj.skip (Ej.seq (Cj.seq (Cj.block (Cj.seq ?_))))
    have hlt : j < s.length := by omega
    obtain ⟨c, hget⟩ : ∃ c, s[j]? = some c := ⟨_, List.getElem?_eq_getElem hlt⟩
    have hcd := digits_at hd hget
    refine Cj.region (J.z (yl_indexAddr (off' := j) rfl rfl rfl Tryz.underlying86 Tryz.sizeOf5 (by omega) (by omega) (by simp)) ?_)
    refine J.z (yl_load rfl rfl Tryz.isAgg5 (Blk.at 0 rfl) (bcs_get s _ j c hget)) ?_
    refine J.z (yl_assign rfl rfl) ?_
    refine J.nil (Ej.seq (Cj.region (J.z (yl_move rfl rfl) ?_)))
    refine J.z (yl_mul rfl rfl rfl (w64 (by omega))) ?_
    refine J.z (yl_move rfl rfl) ?_
    refine J.z (yl_sub rfl rfl rfl (w8 (by omega))) ?_
    refine J.z (yl_convInt rfl rfl Tryz.underlying5 Tryz.underlying3) ?_
    refine J.eqv 25 rfl (show _ = i64 ((c.toNat - 48 : Nat) : Int) from (congrArg i64 ((w64 (by omega)).trans (by omega)))) ?_
    refine J.z (yl_add rfl rfl rfl (w64 (by omega))) ?_
    refine J.z (yl_assign rfl rfl) ?_
    refine J.nil (Ej.blkNormal (Ej.seq (Cj.region (J.z (yl_add rfl rfl rfl (w64 (by omega))) ?_))))
    refine J.z (yl_move rfl rfl) ?_
    refine J.nil (Ej.round (j + 1) (by omega) (by omega) ⟨by rw [val4_next hget]; exact congrArg (fun z => some (Value.int .i64 z)) (by omega), rfl, rfl, rfl, trivial⟩ rfl rfl)
   ·
    have hc8p := of_decide_eq_false hc8
    refine Cj.exit (Ej.seqExit (Ej.loopExit (Ej.blkExit (Ej.seq (Cj.seq (Cj.region (J.z (yl_move rfl rfl) ?_)))))))
    refine J.z (yl_assign rfl rfl) ?_
    refine J.nil (Ej.seq (Cj.ret (Ej.bare ?_)))
    refine Ej.ret1 rfl rfl rfl ?_
    have hfull : s.take j = s := List.take_of_length_le (by omega)
    rw [show numS s = (Ke.val4 s : Int) from if_pos ⟨h4, hd⟩, hfull]
    exact ⟨rfl, rfl, rfl⟩
theorem first_data {fs : List Ke.Fld} (tag : List UInt8) (h : ∀ f ∈ fs, f.data.length ≤ 2000000) : (Ke.first fs tag).data.length ≤ 2000000 := by
  rcases first_in fs tag with e | e
  · rw [e]; exact Nat.zero_le _
  · exact h _ e
set_option maxRecDepth 20000 in
set_option maxHeartbeats 1000000 in
theorem myear_ok (fs : List Ke.Fld) (v : Value) (rk rl : UInt8) (hok : FOK fs) (hdl : ∀ f ∈ fs, f.data.length ≤ 2000000) (I : Heap) (hr : RecS I fs v) : Pure Tryz.prog 60 [recV rk rl v] I (i64 (Ke.year fs)) := by
 refine Ctr.toPure ?_
 have hfs := hok.1
 obtain ⟨p, c, rfl, hc, -⟩ := id hr.1
 have hfo := first_ok [50, 54, 48] hok
 have htl := textOf_len (Ke.first fs [50, 54, 48]) [99]
 obtain ⟨p8, n8, c8, hsv8⟩ := first_sv [48, 48, 56] hr
 obtain ⟨p6, n6, c6, hsv6⟩ := first_sv [50, 54, 48] hr
 have hd8 := first_data [48, 48, 56] hdl
 refine Ctr.of_body Tryz.func60 rfl (by decide) (Nat.le_of_ble_eq_true rfl) ?_
 intro w0 hw0
 refine Cj.seq (Cj.region (J.op rfl (op_box rfl rfl rfl rfl rfl ?_)))
 intro b1 hb1
 refine J.z (yl_assign rfl rfl) ?_
 refine J.nil (Ej.seq (Cj.join (ι := Heap) (fun J9 => RecS J9 fs (.slice p fs.length c) ∧ ¬ (11 ≤ (Ke.first fs [48, 48, 56]).data.length ∧ 0 ≤ Ke.num4 ((Ke.first fs [48, 48, 56]).data.drop 7))) (fun J9 => [(1, ptr b1 0)]) (fun J9 => J9) (fun J9 => [(b1, cel 26 [u8 rk, u8 rl, .slice p fs.length c])]) ?_ (fun hcut => ?_)))
 ·
  rintro J9 ⟨hr, hno⟩
  refine Cj.seq (Cj.region (J.z (yl_loadAgg rfl rfl Tryz.isAgg26 Tryz.sizeOf26 (Blk.at 0 rfl) rfl rfl) ?_))
  refine J.op rfl (op_call (H1 := []) rfl rfl rfl rfl rfl (mfirst_ok fs _ rk rl [50, 54, 48] hfs _ hr) ?_ (fun _ _ _ _ h => by cases h.1) (fun _ _ h => by cases h.1))
  intro v2 I3 H4 hle5 hp6
  have hr := hr.mono hle5
  obtain ⟨h, rfl⟩ := hp6; cases h
  refine J.z (yl_move rfl rfl) ?_
  refine J.z (yl_extract rfl rfl rfl) ?_
  refine J.z (yl_extract rfl rfl rfl) ?_
  refine J.op rfl (op_alloc rfl rfl rfl Tryz.zeroValue35 rfl ?_)
  intro b7 hb7
  refine J.op rfl (op_store 0 rfl rfl rfl rfl rfl (fldC_one hsv6) Tryz.sizeOf35 rfl rfl (LSpl.c (LSpl.c (LSpl.c (LSpl.c LSpl.z)))) LSet.z ?_)
  refine J.z (yl_assign rfl rfl) ?_
  refine J.nil (Ej.seq (Cj.seq (Cj.region (J.z (yl_loadAgg rfl rfl Tryz.isAgg35 Tryz.sizeOf35 (Blk.at 0 rfl) rfl rfl) ?_))))
  refine J.op rfl (op_pure rfl rfl rfl rfl rfl (mtext_ok (Ke.first fs [50, 54, 48]) 99 hfo.1 hfo.2.1 _ (first_row [50, 54, 48] hr)) ?_)
  refine J.z (yl_assign rfl rfl) ?_
  refine J.nil (Ej.seq (Cj.seq (Cj.seq (Cj.region (J.z (yl_assign rfl rfl) ?_)))))
  refine J.nil (Ej.seq (Cj.block (Cj.keep (Keeps.d (Keeps.d Keeps.n)) ?_)))
  refine Cj.loop (ι := Nat) (fun i => Ke.yearIn ((Ke.textOf (Ke.first fs [50, 54, 48]) [99]).drop i) = Ke.y260 fs ∧ i ≤ (Ke.textOf (Ke.first fs [50, 54, 48]) [99]).length) (fun i => (Ke.textOf (Ke.first fs [50, 54, 48]) [99]).length - i) (fun i => [(8, str (Ke.textOf (Ke.first fs [50, 54, 48]) [99])), (9, i64 (i : Int))]) (fun i => _) (fun i => []) 0 ⟨rfl, Nat.zero_le _⟩ ⟨rfl, rfl, trivial⟩ rfl rfl ?_
  rintro i ⟨hy, hi⟩
  refine Cj.seq (Cj.seq (Cj.region (J.z (yl_move rfl rfl) ?_)))
  refine J.z (yl_add rfl rfl rfl (w64 (by omega))) ?_
  refine J.z (yl_move rfl rfl) ?_
  refine J.z (yl_lenStr rfl rfl Tryz.underlying9) ?_
  refine J.z (yl_leq rfl rfl rfl) ?_
  refine J.nil (Ej.seq (Cj.cond rfl (fun hc8 => ?_) (fun hc8 => ?_)))
  ·
   have hc8p := of_decide_eq_true hc8
   have h4 : i + 4 ≤ (Ke.textOf (Ke.first fs [50, 54, 48]) [99]).length := by have h := of_decide_eq_true hc8; omega
   refine Cj.skip (Ej.seq (Cj.seq (Cj.block (Cj.seq (Cj.region (J.z (yl_move rfl rfl) ?_))))))
   refine J.z (yl_move rfl rfl) ?_
   refine J.z (yl_move rfl rfl) ?_
   refine J.z (yl_add rfl rfl rfl (w64 (by omega))) ?_
   refine J.z (yl_sliceStr (p := i) (q := i + 4) rfl rfl Tryz.underlying9 ⟨_, rfl⟩ ⟨_, rfl⟩ (by omega) (by omega)) ?_
   refine J.eqv 48 rfl (show _ = str (((Ke.textOf (Ke.first fs [50, 54, 48]) [99]).drop i).take 4) from (congrArg str cut4)) ?_
   refine J.op rfl (op_pure rfl rfl rfl rfl rfl (mnumber_ok (((Ke.textOf (Ke.first fs [50, 54, 48]) [99]).drop i).take 4) (by rw [List.length_take]; omega) _) ?_)
   refine J.eqv 49 rfl (show _ = i64 (Ke.num4 ((Ke.textOf (Ke.first fs [50, 54, 48]) [99]).drop i)) from (congrArg i64 (numS_cut (by rw [List.length_drop]; omega)))) ?_
   refine J.z (yl_assign rfl rfl) ?_
   refine J.nil (Ej.seq (Cj.seq (Cj.region (J.z (yl_move rfl rfl) ?_))))
   refine J.z (yl_geq rfl rfl rfl) ?_
   refine J.nil (Ej.seq (Cj.cond rfl (fun hc9 => ?_) (fun hc9 => ?_)))
   ·
    have hc9p := of_decide_eq_true hc9
    have hpos : 0 ≤ Ke.num4 ((Ke.textOf (Ke.first fs [50, 54, 48]) [99]).drop i) := of_decide_eq_true hc9
    refine Cj.seq (Cj.region (J.z (yl_move rfl rfl) ?_))
    refine J.z (yl_assign rfl rfl) ?_
    refine J.nil (Ej.seq (Cj.ret (Ej.blkRet (Ej.seqRet (Ej.loopRet (Ej.blkRet (Ej.seqRet (Ej.ret1 rfl rfl rfl ?_))))))))
    rw [show Ke.year fs = _ from if_neg hno, ← hy, year_at h4, if_pos hpos]
    exact ⟨rfl, rfl⟩
   ·
    have hc9p := of_decide_eq_false hc9
    have hneg : ¬ 0 ≤ Ke.num4 ((Ke.textOf (Ke.first fs [50, 54, 48]) [99]).drop i) := of_decide_eq_false hc9
    refine Cj.skip (Ej.blkNormal (Ej.seq (Cj.region (J.z (yl_move rfl rfl) ?_))))
    refine J.z (yl_add rfl rfl rfl (w64 (by omega))) ?_
    refine J.z (yl_assign rfl rfl) ?_
    refine J.nil (Ej.round (i + 1) ⟨by rw [← hy, year_at h4, if_neg hneg], by omega⟩ (by omega) ⟨rfl, rfl, trivial⟩ rfl rfl)
  ·
   have hc8p := of_decide_eq_false hc8
   refine Cj.exit (Ej.seqExit (Ej.loopExit (Ej.blkExit (Ej.seq (Cj.seq (Cj.region (J.z (yl_assign rfl rfl) ?_)))))))
   refine J.nil (Ej.seq (Cj.ret (Ej.ret1 rfl rfl rfl ?_)))
   rw [show Ke.year fs = _ from if_neg hno, ← hy, Ke.yearIn_short (by rw [List.length_drop]; omega)]
   exact ⟨rfl, rfl⟩
 ·
  refine Cj.seq (Cj.region (J.z (yl_loadAgg rfl rfl Tryz.isAgg26 Tryz.sizeOf26 (Blk.at 0 rfl) rfl rfl) ?_))
  refine J.op rfl (op_call (H1 := []) rfl rfl rfl rfl rfl (mfirst_ok fs _ rk rl [48, 48, 56] hfs _ hr) ?_ (fun _ _ _ _ h => by cases h.1) (fun _ _ h => by cases h.1))
  intro v10 I11 H12 hle13 hp14
  have hr := hr.mono hle13
  obtain ⟨h, rfl⟩ := hp14; cases h
  refine J.z (yl_move rfl rfl) ?_
  refine J.z (yl_extract rfl rfl rfl) ?_
  refine J.z (yl_extract rfl rfl rfl) ?_
  refine J.op rfl (op_alloc rfl rfl rfl Tryz.zeroValue35 rfl ?_)
  intro b15 hb15
  refine J.op rfl (op_store 0 rfl rfl rfl rfl rfl (fldC_one hsv8) Tryz.sizeOf35 rfl rfl (LSpl.c (LSpl.c (LSpl.c (LSpl.c LSpl.z)))) LSet.z ?_)
  refine J.z (yl_assign rfl rfl) ?_
  refine J.nil (Ej.seq (Cj.seq (Cj.region (J.z (yl_move rfl rfl) ?_))))
  refine J.z (yl_move rfl rfl) ?_
  refine J.split 17 rfl (fun hg16 => ?_) (fun hg16 => ?_)
  ·
   refine J.opG 1 17 true _ rfl rfl rfl hg16 (op_yld (yl_fieldAddr (off' := 2) rfl rfl Tryz.underlying35 rfl Tryz.sizeOf9 rfl) rfl rfl ?_)
   refine J.opG 1 17 true _ rfl rfl rfl hg16 (op_yld (yl_load rfl rfl Tryz.isAgg9 (Blk.at 0 rfl) rfl) rfl rfl ?_)
   refine J.opG 1 17 true _ rfl rfl rfl hg16 (op_yld (yl_lenStr rfl rfl Tryz.underlying9) rfl rfl ?_)
   refine J.opG 1 17 true _ rfl rfl rfl hg16 (op_yld (yl_geq rfl rfl rfl) rfl rfl ?_)
   refine J.z (yl_pick1 rfl rfl hg16 rfl) ?_
   refine J.nil (Ej.seq (Cj.cond rfl (fun hc17 => ?_) (fun hc17 => ?_)))
   ·
    have hc17p := of_decide_eq_true hc17
    have h11 : 11 ≤ (Ke.first fs [48, 48, 56]).data.length := by have h := of_decide_eq_true hc17; omega
    refine Cj.seq (Cj.region (J.z (yl_fieldAddr (off' := 2) rfl rfl Tryz.underlying35 rfl Tryz.sizeOf9 rfl) ?_))
    refine J.z (yl_load rfl rfl Tryz.isAgg9 (Blk.at 0 rfl) rfl) ?_
    refine J.z (yl_sliceStr (p := 7) (q := 11) rfl rfl Tryz.underlying9 ⟨_, rfl⟩ ⟨_, rfl⟩ (by decide) (by omega)) ?_
    refine J.eqv 25 rfl (show _ = str (((Ke.first fs [48, 48, 56]).data.drop 7).take 4) from (congrArg str cut4)) ?_
    refine J.op rfl (op_pure rfl rfl rfl rfl rfl (mnumber_ok (((Ke.first fs [48, 48, 56]).data.drop 7).take 4) (by rw [List.length_take]; omega) _) ?_)
    refine J.eqv 26 rfl (show _ = i64 (Ke.num4 ((Ke.first fs [48, 48, 56]).data.drop 7)) from (congrArg i64 (numS_cut (by rw [List.length_drop]; omega)))) ?_
    refine J.z (yl_assign rfl rfl) ?_
    refine J.nil (Ej.seq (Cj.seq (Cj.region (J.z (yl_move rfl rfl) ?_))))
    refine J.z (yl_geq rfl rfl rfl) ?_
    refine J.nil (Ej.seq (Cj.cond rfl (fun hc18 => ?_) (fun hc18 => ?_)))
    ·
     have hc18p := of_decide_eq_true hc18
     have hpos : 0 ≤ Ke.num4 ((Ke.first fs [48, 48, 56]).data.drop 7) := of_decide_eq_true hc18
     refine Cj.seq (Cj.region (J.z (yl_move rfl rfl) ?_))
     refine J.z (yl_assign rfl rfl) ?_
     refine J.nil (Ej.seq (Cj.ret (Ej.seqRet (Ej.bare ?_))))
     refine Ej.ret1 rfl rfl rfl ?_
     rw [show Ke.year fs = _ from if_pos ⟨h11, hpos⟩]
     exact ⟨rfl, rfl⟩
    ·
     have hc18p := of_decide_eq_false hc18
     have hpos : ¬ 0 ≤ Ke.num4 ((Ke.first fs [48, 48, 56]).data.drop 7) := of_decide_eq_false hc18
     refine Cj.skip (Ej.keep (Keeps.d (Keeps.k Keeps.n)) ?_)
     exact hcut _ _ _ _ ⟨hr, fun g => hpos g.2⟩ ⟨rfl, trivial⟩ rfl rfl
   ·
    have hc17p := of_decide_eq_false hc17
    have h11 : ¬ 11 ≤ (Ke.first fs [48, 48, 56]).data.length := by have h := of_decide_eq_false hc17; omega
    refine Cj.skip (Ej.keep (Keeps.d (Keeps.k Keeps.n)) ?_)
    exact hcut _ _ _ _ ⟨hr, fun g => h11 g.1⟩ ⟨rfl, trivial⟩ rfl rfl
  ·
   have hfind : Ke.find fs [48, 48, 56] = none := by have h := hg16; simpa using h
   have hdz : (Ke.first fs [48, 48, 56]).data.length = 0 := by unfold Ke.first; rw [hfind]; rfl
   refine J.skip 1 17 18 true _ rfl rfl rfl hg16 rfl rfl ?_
   refine J.skip 1 17 19 true _ rfl rfl rfl hg16 rfl rfl ?_
   refine J.skip 1 17 20 true _ rfl rfl rfl hg16 rfl rfl ?_
   refine J.skip 1 17 21 true _ rfl rfl rfl hg16 rfl rfl ?_
   refine J.z (yl_pick0 rfl rfl hg16 rfl) ?_
   refine J.nil (Ej.seq (Cj.cond rfl (fun hc19 => Bool.noConfusion (Eq.trans (Eq.symm rfl) hc19)) (fun hc19 => ?_)))
   refine Cj.skip (Ej.keep (Keeps.d (Keeps.k Keeps.n)) ?_)
   exact hcut _ _ _ _ ⟨hr, fun g => by rw [hdz] at g; exact absurd g.1 (by decide)⟩ ⟨rfl, trivial⟩ rfl rfl
end Go.Proofs.YtadnofaleepkmaaGreatDoor
end
