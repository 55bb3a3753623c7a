/-
  Own texts on the laws of match, joined: the logic, and contracts of functions. Conditions: none.
-/
import Derived.Test.YtadnofaleepkmaaGreatDoorPA7
import Derived.Test.YtadnofaleepkmaaGreatDoorPA10
section
namespace Ke
/-! ### Fields without the value that stands for their subfields -/
def nrm1 (f : Fld) : Fld := { f with sv := .slice none 0 0 }
def nrm (fs : List Fld) : List Fld := fs.map nrm1
theorem find_map {g : Fld → Fld} (hg : ∀ f, (g f).tag = f.tag) (tag : Bs) : ∀ fs : List Fld, find (fs.map g) tag = (find fs tag).map g
  | [] => rfl
  | f :: r => by
    have ih := find_map hg tag r
    unfold find at ih ⊢
    rw [List.map_cons]
    by_cases h : f.tag = tag
    · rw [List.find?_cons_of_pos (by rw [hg]; simpa using h), List.find?_cons_of_pos (by simpa using h)]; rfl
    · rw [List.find?_cons_of_neg (by rw [hg]; simpa using h), List.find?_cons_of_neg (by simpa using h), ih]
theorem first_map {g : Fld → Fld} (hg : ∀ f, (g f).tag = f.tag) (hz : g zf = zf) (tag : Bs) (fs : List Fld) : first (fs.map g) tag = g (first fs tag) := by
  unfold first
  rw [find_map hg]
  cases find fs tag with
  | none => exact hz.symm
  | some f => rfl
theorem first_nrm (fs : List Fld) (tag : Bs) : first (nrm fs) tag = nrm1 (first fs tag) := first_map (g := nrm1) (fun _ => rfl) rfl tag fs
theorem title_nrm (fs : List Fld) : title (nrm fs) = title fs := by unfold title; rw [first_nrm]; rfl
theorem author_nrm (fs : List Fld) : author (nrm fs) = author fs := by unfold author; rw [first_nrm]; rfl
theorem year_nrm (fs : List Fld) : year (nrm fs) = year fs := by unfold year y260; rw [first_nrm, first_nrm]; rfl
theorem isbns_nrm (fs : List Fld) : isbns (nrm fs) = isbns fs := by
  unfold isbns nrm
  rw [List.flatMap_map]; rfl
theorem feat_nrm (k : UInt8) (fs : List Fld) : feat k (nrm fs) = feat k fs := by unfold feat; rw [title_nrm, author_nrm, year_nrm, isbns_nrm]
theorem all_nrm (fs : List Fld) : all (nrm fs) = all fs := by
  have h1 : (nrm fs).flatMap books = fs.flatMap books := by unfold nrm; rw [List.flatMap_map]; rfl
  have h2 : titles (nrm fs) = titles fs := by unfold titles; rw [title_nrm, first_nrm]; rfl
  unfold all raw
  rw [h1, h2]
/-! ### Records out of numbers -/
def yearsL : List Bs := [[], [49, 57, 56, 52], [49, 57, 56, 53], [49, 57, 57, 48], [99, 49, 57, 56, 52, 46], [49, 57, 56], [56, 52, 32, 49, 57, 57, 57, 32, 49, 57, 56, 52], [120]]
def booksL : List Bs := [[], [57, 55, 56, 51, 49, 54, 49, 52, 56, 52, 49, 48, 48], [57, 55, 56, 45, 51, 45, 49, 54, 45, 49, 52, 56, 52, 49, 48, 45, 48, 32, 40, 112, 98, 107, 41], [51, 49, 54, 49, 52, 56, 52, 49, 48, 88], [48, 51, 48, 54, 52, 48, 54, 49, 53, 50], [57, 55, 56, 48, 51, 48, 54, 52, 48, 54, 49, 53, 55], [49, 50, 51]]
def namesL : List Bs := [[], [77, 195, 188, 108, 108, 101, 114, 44, 32, 65, 110, 110, 97], [77, 117, 108, 108, 101, 114, 44, 32, 65, 110, 110, 97], [77, 85, 76, 76, 69, 82, 32, 65, 46], [71, 195, 182, 100, 101, 108, 44, 32, 75, 117, 114, 116], [45]]
def titlesL : List Bs := [[84, 104, 101, 32, 115, 116, 97, 114, 115], [116, 104, 101, 32, 83, 84, 65, 82, 83, 33], [83, 116, 97, 114, 115], [], [195, 156, 98, 101, 114, 32, 97, 108, 108, 101, 115], [85, 98, 101, 114, 44, 32, 97, 108, 108, 101, 115]]
def indsL : List Bs := [[48, 48], [48, 52], [49, 120]]
def marksL : List Bs := [[], [32], [33], [32, 45, 32], [204, 129], [63]]
structure Six where
  q0 : Int
  q1 : Int
  q2 : Int
  q3 : Int
  q4 : Int
  q5 : Int
def pick (l : List Bs) (n : Int) : Bs := l.getD n.toNat []
def mkind (q : Six) : UInt8 := if q.q0 % 5 = 4 then 109 else 97
def m008 (q : Six) : List Fld := if q.q1 % 2 = 0 then [⟨[48, 48, 56], [], ([56, 53, 48, 49, 48, 49, 115] ++ pick yearsL (q.q1 % 8)) ++ [32, 32, 32, 32, 120, 120], .slice none 0 0, []⟩] else []
def m020 (q : Six) (k : Nat) : List Fld := (List.range k).map fun i : Nat => ⟨[48, 50, 48], [32, 32], [], .slice none 0 0, [⟨if q.q2 % 7 = 6 then 122 else 97, pick booksL ((q.q2.tdiv 3 + (i : Int)) % 7)⟩]⟩
def m100 (q : Six) : List Fld := if q.q3 % 4 = 0 then [] else [⟨[49, 48, 48], [49, 32], [], .slice none 0 0, [⟨97, pick namesL (q.q3.tdiv 4 % 6)⟩]⟩]
def m245 (q : Six) : List Fld := if q.q4 % 5 = 0 then [] else [⟨[50, 52, 53], pick indsL (q.q4 % 3), [], .slice none 0 0, [⟨97, pick titlesL (q.q4.tdiv 5 % 6)⟩, ⟨99, [98, 121]⟩]⟩]
def m260 (q : Six) : List Fld := if q.q5 % 3 = 0 then [] else [⟨[50, 54, 48], [32, 32], [], .slice none 0 0, [⟨97, [80, 97, 114, 105, 115, 32, 49, 57, 48, 48]⟩, ⟨99, pick yearsL (q.q5 % 8)⟩]⟩]
def made6 (q : Six) : List Fld := m008 q ++ m020 q (q.q2 % 3).toNat ++ m100 q ++ m245 q ++ m260 q
theorem pick_in {l : List Bs} {n : Int} (h0 : 0 ≤ n) (h1 : n < (l.length : Int)) : pick l n ∈ l := by
  unfold pick
  rw [List.getD, List.getElem?_eq_getElem (show n.toNat < l.length by omega)]; exact List.getElem_mem _
theorem pick_get {l : List Bs} {n : Int} (h0 : 0 ≤ n) (h1 : n < (l.length : Int)) : l[n.toNat]? = some (pick l n) := by
  unfold pick
  rw [List.getD, List.getElem?_eq_getElem (show n.toNat < l.length by omega)]; rfl
theorem mem008 {q : Six} {f : Fld} (h : f ∈ m008 q) : f.tag = [48, 48, 56] ∧ f.subs = [] ∧ f.ind = [] ∧ f.data.length ≤ 40 := by
  unfold m008 at h
  split at h
  · rw [List.mem_singleton.1 h]
    have hm : pick yearsL (q.q1 % 8) ∈ yearsL := pick_in (by omega) (by simp [yearsL]; omega)
    have hl : ∀ y ∈ yearsL, y.length ≤ 12 := by decide
    have := hl _ hm
    exact ⟨rfl, rfl, rfl, by dsimp only; simp only [List.length_append, List.length_cons, List.length_nil]; omega⟩
  · cases h
theorem mem020 {q : Six} {k : Nat} {f : Fld} (h : f ∈ m020 q k) : f.tag = [48, 50, 48] ∧ f.ind = [32, 32] ∧ f.data = [] ∧ ∃ c t, f.subs = [⟨c, t⟩] ∧ t ∈ booksL := by
  obtain ⟨i, _, rfl⟩ := List.mem_map.1 h
  exact ⟨rfl, rfl, rfl, _, _, rfl, pick_in (by omega) (by simp [booksL]; omega)⟩
theorem mem100 {q : Six} {f : Fld} (h : f ∈ m100 q) : f.tag = [49, 48, 48] ∧ f.ind = [49, 32] ∧ f.data = [] ∧ ∃ t, f.subs = [⟨97, t⟩] ∧ t ∈ namesL := by
  unfold m100 at h
  split at h
  · cases h
  · rw [List.mem_singleton.1 h]; exact ⟨rfl, rfl, rfl, _, rfl, pick_in (by omega) (by simp [namesL]; omega)⟩
theorem mem245 {q : Six} {f : Fld} (h : f ∈ m245 q) : f.tag = [50, 52, 53] ∧ f.ind ∈ indsL ∧ f.data = [] ∧ ∃ t, f.subs = [⟨97, t⟩, ⟨99, [98, 121]⟩] ∧ t ∈ titlesL := by
  unfold m245 at h
  split at h
  · cases h
  · rw [List.mem_singleton.1 h]; exact ⟨rfl, pick_in (by omega) (by simp [indsL]; omega), rfl, _, rfl, pick_in (by omega) (by simp [titlesL]; omega)⟩
theorem mem260 {q : Six} {f : Fld} (h : f ∈ m260 q) : f.tag = [50, 54, 48] ∧ f.ind = [32, 32] ∧ f.data = [] ∧ ∃ t, f.subs = [⟨97, [80, 97, 114, 105, 115, 32, 49, 57, 48, 48]⟩, ⟨99, t⟩] ∧ t ∈ yearsL := by
  unfold m260 at h
  split at h
  · cases h
  · rw [List.mem_singleton.1 h]; exact ⟨rfl, rfl, rfl, _, rfl, pick_in (by omega) (by simp [yearsL]; omega)⟩
/-! ### Capital letters and signs -/
def cap (c : UInt8) : UInt8 := if 97 ≤ c.toNat ∧ c.toNat ≤ 122 then UInt8.ofNat (c.toNat - 32) else c
def capS (s : Bs) : Bs := s.map cap
def op1 (m : Bs) (s : Sub) : Sub := { s with text := capS s.text ++ m }
def opC (f : Fld) : Bool := decide (f.tag = [49, 48, 48]) || (decide (f.tag = [50, 52, 53]) && decide (f.ind ≠ [48, 52]))
def op (m : Bs) (f : Fld) : Fld := if opC f = true then { f with subs := f.subs.map (op1 m) } else f
theorem op_tag (m : Bs) (f : Fld) : (op m f).tag = f.tag := by unfold op; split <;> rfl
theorem op_else {m : Bs} {f : Fld} (h1 : f.tag ≠ [49, 48, 48]) (h2 : f.tag ≠ [50, 52, 53]) : op m f = f := by
  have : opC f = false := by simp [opC, h1, h2]
  unfold op
  rw [this]; rfl
theorem op_zf (m : Bs) : op m zf = zf := op_else (by decide) (by decide)
theorem names_up : (namesL.all fun t => marksL.all fun m => decide (words (capS t ++ m) = words t)) = true := by decide +kernel
theorem titles_up : (titlesL.all fun t => marksL.all fun m => decide (sortKey (capS t ++ m) 0 = sortKey t 0)) = true := by decide +kernel
theorem find_tag {fs : List Fld} {tag : Bs} {f : Fld} (h : find fs tag = some f) : f.tag = tag ∧ f ∈ fs := ⟨by have := List.find?_some h; simpa using this, List.mem_of_find?_eq_some h⟩
theorem first_in (fs : List Fld) (tag : Bs) : first fs tag = zf ∨ ((first fs tag).tag = tag ∧ first fs tag ∈ fs) := by
  unfold first
  cases h : find fs tag with
  | none => exact .inl rfl
  | some f => exact .inr (find_tag h)
theorem made_in {q : Six} {f : Fld} (h : f ∈ made6 q) : f ∈ m008 q ∨ f ∈ m020 q (q.q2 % 3).toNat ∨ f ∈ m100 q ∨ f ∈ m245 q ∨ f ∈ m260 q := by
  unfold made6 at h
  simp only [List.mem_append] at h
  rcases h with (((h | h) | h) | h) | h
  · exact .inl h
  · exact .inr (.inl h)
  · exact .inr (.inr (.inl h))
  · exact .inr (.inr (.inr (.inl h)))
  · exact .inr (.inr (.inr (.inr h)))
theorem made_100 {q : Six} {f : Fld} (h : f ∈ made6 q) (ht : f.tag = [49, 48, 48]) : f ∈ m100 q := by
  rcases made_in h with h | h | h | h | h
  · rw [(mem008 h).1] at ht; cases ht
  · rw [(mem020 h).1] at ht; cases ht
  · exact h
  · rw [(mem245 h).1] at ht; cases ht
  · rw [(mem260 h).1] at ht; cases ht
theorem made_245 {q : Six} {f : Fld} (h : f ∈ made6 q) (ht : f.tag = [50, 52, 53]) : f ∈ m245 q := by
  rcases made_in h with h | h | h | h | h
  · rw [(mem008 h).1] at ht; cases ht
  · rw [(mem020 h).1] at ht; cases ht
  · rw [(mem100 h).1] at ht; cases ht
  · exact h
  · rw [(mem260 h).1] at ht; cases ht
theorem author_op {q : Six} {m : Bs} (hm : m ∈ marksL) : author ((made6 q).map (op m)) = author (made6 q) := by
  unfold author
  rw [first_map (op_tag m) (op_zf m)]
  rcases first_in (made6 q) [49, 48, 48] with h | ⟨h1, h2⟩
  · rw [h, op_zf]
  · obtain ⟨-, -, -, t, hs, ht⟩ := mem100 (made_100 h2 h1)
    have hu := of_decide_eq_true (List.all_eq_true.1 (List.all_eq_true.1 names_up t ht) m hm)
    have ho : op m (first (made6 q) [49, 48, 48]) = { first (made6 q) [49, 48, 48] with subs := [⟨97, capS t ++ m⟩] } := by
      unfold op
      rw [if_pos (by unfold opC; rw [h1]; rfl), hs]; rfl
    rw [ho]
    unfold textOf texts
    rw [hs]
    exact hu
theorem title_op {q : Six} {m : Bs} (hm : m ∈ marksL) : title ((made6 q).map (op m)) = title (made6 q) := by
  unfold title
  rw [first_map (op_tag m) (op_zf m)]
  rcases first_in (made6 q) [50, 52, 53] with h | ⟨h1, h2⟩
  · rw [h, op_zf]
  · obtain ⟨-, hi, -, t, hs, ht⟩ := mem245 (made_245 h2 h1)
    have hu := of_decide_eq_true (List.all_eq_true.1 (List.all_eq_true.1 titles_up t ht) m hm)
    by_cases h4 : (first (made6 q) [50, 52, 53]).ind = [48, 52]
    · have ho : op m (first (made6 q) [50, 52, 53]) = first (made6 q) [50, 52, 53] := by
        unfold op
        rw [if_neg (by unfold opC; rw [h1, h4]; decide)]
      rw [ho]
    · have ho : op m (first (made6 q) [50, 52, 53]) = { first (made6 q) [50, 52, 53] with subs := [⟨97, capS t ++ m⟩, ⟨99, capS [98, 121] ++ m⟩] } := by
        unfold op
        rw [if_pos (by unfold opC; rw [h1]; simp [h4]), hs]; rfl
      have hk : skip (first (made6 q) [50, 52, 53]) = 0 := by
        unfold skip
        simp only [indsL, List.mem_cons, List.not_mem_nil, or_false] at hi
        rcases hi with e | e | e
        · rw [e]; rfl
        · exact absurd e h4
        · rw [e]; rfl
      have hk2 : skip { first (made6 q) [50, 52, 53] with subs := [⟨97, capS t ++ m⟩, ⟨99, capS [98, 121] ++ m⟩] } = 0 := hk
      rw [ho, hk, hk2]
      unfold textOf texts
      rw [hs]
      exact hu
theorem year_op (fs : List Fld) (m : Bs) : year (fs.map (op m)) = year fs := by
  unfold year y260
  rw [first_map (op_tag m) (op_zf m), first_map (op_tag m) (op_zf m)]
  have h8 : op m (first fs [48, 48, 56]) = first fs [48, 48, 56] := by
    rcases first_in fs [48, 48, 56] with h | ⟨h1, _⟩
    · rw [h, op_zf]
    · exact op_else (by rw [h1]; decide) (by rw [h1]; decide)
  have h2 : op m (first fs [50, 54, 48]) = first fs [50, 54, 48] := by
    rcases first_in fs [50, 54, 48] with h | ⟨h1, _⟩
    · rw [h, op_zf]
    · exact op_else (by rw [h1]; decide) (by rw [h1]; decide)
  rw [h8, h2]
theorem isbns_op (m : Bs) : ∀ fs : List Fld, isbns (fs.map (op m)) = isbns fs
  | [] => rfl
  | f :: r => by
    have ih := isbns_op m r
    unfold isbns at ih ⊢
    rw [List.map_cons, List.flatMap_cons, List.flatMap_cons, ih]
    have : isbs (op m f) = isbs f := by
      by_cases ht : f.tag = [48, 50, 48]
      · rw [op_else (by rw [ht]; decide) (by rw [ht]; decide)]
      · unfold isbs
        rw [op_tag, if_neg ht, if_neg ht]
    rw [this]
theorem feat_op (k : UInt8) (q : Six) {m : Bs} (hm : m ∈ marksL) : feat k ((made6 q).map (op m)) = feat k (made6 q) := by
  unfold feat
  rw [title_op hm, author_op hm, year_op, isbns_op]
end Ke
end
section
namespace Go.Proofs.YtadnofaleepkmaaGreatDoor
open Go Go.Sx
def fA (s1 s2 s3 : Value) : List Ke.Fld := [⟨[48, 50, 48], [32, 32], [], s1, [⟨97, [57, 55, 56, 51, 49, 54, 49, 52, 56, 52, 49, 48, 48]⟩]⟩, ⟨[50, 52, 53], [48, 48], [], s2, [⟨97, [84, 104, 101, 32, 115, 116, 97, 114, 115]⟩]⟩, ⟨[49, 48, 48], [49, 32], [], s3, [⟨97, [77, 195, 188, 108, 108, 101, 114, 44, 32, 65, 110, 110, 97]⟩]⟩]
def fB (s1 s2 : Value) : List Ke.Fld := [⟨[50, 52, 53], [48, 48], [], s1, [⟨97, [116, 104, 101, 32, 83, 84, 65, 82, 83]⟩]⟩, ⟨[49, 48, 48], [49, 32], [], s2, [⟨97, [77, 117, 108, 108, 101, 114]⟩]⟩]
def fC (s1 : Value) : List Ke.Fld := [⟨[48, 50, 48], [32, 32], [], s1, [⟨97, [57, 55, 56, 45, 51, 45, 49, 54, 45, 49, 52, 56, 52, 49, 48, 45, 48]⟩]⟩]
def nA : List Ke.Fld := fA (.slice none 0 0) (.slice none 0 0) (.slice none 0 0)
def nB : List Ke.Fld := fB (.slice none 0 0) (.slice none 0 0)
def nC : List Ke.Fld := fC (.slice none 0 0)
theorem feat_A (k : UInt8) (s1 s2 s3 : Value) : Ke.feat k (fA s1 s2 s3) = Ke.feat k nA := by rw [← Ke.feat_nrm]; rfl
theorem feat_B (k : UInt8) (s1 s2 : Value) : Ke.feat k (fB s1 s2) = Ke.feat k nB := by rw [← Ke.feat_nrm]; rfl
theorem feat_C (k : UInt8) (s1 : Value) : Ke.feat k (fC s1) = Ke.feat k nC := by rw [← Ke.feat_nrm]; rfl
theorem pAA : Ke.pts (Ke.feat 97 nA) (Ke.feat 97 nA) = 95 := by decide +kernel
theorem pAB : Ke.pts (Ke.feat 97 nA) (Ke.feat 97 nB) = 38 := by decide +kernel
theorem pAC : Ke.pts (Ke.feat 97 nA) (Ke.feat 109 nC) = 10 := by decide +kernel
theorem pBC : Ke.pts (Ke.feat 97 nB) (Ke.feat 109 nC) = -40 := by decide +kernel
theorem small_ok {fs : List Ke.Fld} (h : fs.length ≤ 5 ∧ ∀ f ∈ fs, f.subs.length ≤ 5 ∧ textsLen f.subs ≤ 50 ∧ f.ind.length ≤ 5 ∧ f.data.length ≤ 5) : FOK fs ∧ ∀ f ∈ fs, f.data.length ≤ 2000000 := by
  refine ⟨⟨by omega, fun f hf => ?_⟩, fun f hf => ?_⟩
  · obtain ⟨h1, h2, h3, -⟩ := h.2 f hf; exact ⟨by omega, by omega, by omega⟩
  · have := (h.2 f hf).2.2.2; omega
theorem okA (s1 s2 s3 : Value) : FOK (fA s1 s2 s3) ∧ ∀ f ∈ fA s1 s2 s3, f.data.length ≤ 2000000 := small_ok ⟨of_decide_eq_true rfl, fun f hf => by
  simp only [fA, List.mem_cons, List.not_mem_nil, or_false] at hf
  rcases hf with rfl | rfl | rfl <;> exact ⟨of_decide_eq_true rfl, of_decide_eq_true rfl, of_decide_eq_true rfl, of_decide_eq_true rfl⟩⟩
theorem okB (s1 s2 : Value) : FOK (fB s1 s2) ∧ ∀ f ∈ fB s1 s2, f.data.length ≤ 2000000 := small_ok ⟨of_decide_eq_true rfl, fun f hf => by
  simp only [fB, List.mem_cons, List.not_mem_nil, or_false] at hf
  rcases hf with rfl | rfl <;> exact ⟨of_decide_eq_true rfl, of_decide_eq_true rfl, of_decide_eq_true rfl, of_decide_eq_true rfl⟩⟩
theorem okC (s1 : Value) : FOK (fC s1) ∧ ∀ f ∈ fC s1, f.data.length ≤ 2000000 := small_ok ⟨of_decide_eq_true rfl, fun f hf => by
  simp only [fC, List.mem_cons, List.not_mem_nil, or_false] at hf
  rcases hf with rfl; exact ⟨of_decide_eq_true rfl, of_decide_eq_true rfl, of_decide_eq_true rfl, of_decide_eq_true rfl⟩⟩
def nrmR (r : Rc) : Rc := ⟨r.k, 0, .slice none 0 0, Ke.nrm r.fs⟩
theorem getD_map_nrm (rs : List Rc) (i : Nat) : (rs.map nrmR).getD i zr = nrmR (rs.getD i zr) := by
  rw [List.getD, List.getD, List.getElem?_map]
  cases rs[i]? with
  | none => rfl
  | some r => rfl
theorem pairs_nrm (rs : List Rc) : pairsN (rs.map nrmR) = pairsN rs := by
  have h1 : ksOf (rs.map nrmR) = ksOf rs := by
    funext i
    unfold ksOf
    rw [getD_map_nrm]; exact Ke.all_nrm _
  have h2 : ftOf (rs.map nrmR) = ftOf rs := by
    funext i
    unfold ftOf
    rw [getD_map_nrm]; exact Ke.feat_nrm _ _
  have h3 : smOf (rs.map nrmR) = smOf rs := by funext a b; unfold smOf; rw [h2]
  unfold pairsN
  rw [h1, h3, List.length_map]
def nP : List Rc := [⟨97, 0, .slice none 0 0, nA⟩, ⟨97, 0, .slice none 0 0, nB⟩, ⟨97, 0, .slice none 0 0, nA⟩]
theorem pABA : (pairsN nP).map cst = [((0 : Int), (2 : Int))] := by decide +kernel
theorem parts_ex : partsI 5 [((3 : Int), (1 : Int)), (4, 3), (7, 0)] = [[0], [1, 3, 4], [2]] := by decide +kernel
theorem rowT {I : Heap} {l : Kq.Prs} {v : Value} (h : RowS twoN I l v) : RowS twoC I (l.map cst) v := RowS.cast (fun _ => rfl) h
set_option maxRecDepth 20000 in
set_option maxHeartbeats 2000000 in
theorem sanity_ok (I : Heap) : Pure Tryz.prog 12 [] I (.bool true) := by
 refine Ctr.toPure ?_
 refine Ctr.of_body Tryz.func12 rfl (by decide) (Nat.le_of_ble_eq_true rfl) ?_
 intro w0 hw0
 refine Cj.seq (Cj.region (J.z (yl_assign rfl rfl) ?_))
 refine J.nil (Ej.seq (Cj.seq (Cj.region (J.op rfl (op_call (H1 := []) rfl rfl rfl rfl rfl (field_ok [48, 50, 48] [32, 32] [57, 55, 56, 51, 49, 54, 49, 52, 56, 52, 49, 48, 48] _) ?_ (fun _ _ _ _ h => by obtain ⟨_, h, _⟩ := h; cases h) (fun _ _ h => by obtain ⟨_, h, _⟩ := h; cases h))))))
 intro v1 I2 H3 hle4 hp5
 obtain ⟨v7, h, hs7, rfl⟩ := hp5; cases h
 obtain ⟨p7, c7, rfl, -, -⟩ := id hs7
 refine J.op rfl (op_call (H1 := []) rfl rfl rfl rfl rfl (field_ok [50, 52, 53] [48, 48] [84, 104, 101, 32, 115, 116, 97, 114, 115] _) ?_ (fun _ _ _ _ h => by obtain ⟨_, h, _⟩ := h; cases h) (fun _ _ h => by obtain ⟨_, h, _⟩ := h; cases h))
 intro v6 I7 H8 hle9 hp10
 have hs7 := hs7.mono hle9
 obtain ⟨v8, h, hs8, rfl⟩ := hp10; cases h
 obtain ⟨p8, c8, rfl, -, -⟩ := id hs8
 refine J.op rfl (op_call (H1 := []) rfl rfl rfl rfl rfl (field_ok [49, 48, 48] [49, 32] [77, 195, 188, 108, 108, 101, 114, 44, 32, 65, 110, 110, 97] _) ?_ (fun _ _ _ _ h => by obtain ⟨_, h, _⟩ := h; cases h) (fun _ _ h => by obtain ⟨_, h, _⟩ := h; cases h))
 intro v11 I12 H13 hle14 hp15
 have hs7 := hs7.mono hle14
 have hs8 := hs8.mono hle14
 obtain ⟨v9, h, hs9, rfl⟩ := hp15; cases h
 obtain ⟨p9, c9, rfl, -, -⟩ := id hs9
 refine J.op rfl (op_buildSlice rfl rfl rfl Tryz.underlying23 Tryz.sizeOf35 Tryz.zeroValue35 rfl rfl rfl rfl (LCat.agg rfl (LCat.agg rfl (LCat.agg rfl LCat.none))) ?_)
 intro b16 hb16
 refine J.z (yl_buildS (pl := #[(0, 1), (1, 1), (2, 1)]) rfl rfl Tryz.zeroValue26 rfl Tryz.underlying26 (fun w => by simp [Tryz.sizeOf23, Tryz.sizeOf5]) (LBld.part rfl rfl rfl (LSpl.c LSpl.z) (LBld.part rfl rfl rfl (LSpl.s (LSpl.s (LSpl.c LSpl.z))) LBld.none))) ?_
 refine J.op rfl (op_alloc rfl rfl rfl Tryz.zeroValue26 rfl ?_)
 intro b17 hb17
 refine J.op rfl (op_store 0 rfl rfl rfl rfl rfl rfl Tryz.sizeOf26 rfl rfl (LSpl.c (LSpl.c (LSpl.c LSpl.z))) LSet.z ?_)
 refine J.nil (Ej.seq (Cj.seq (Cj.pull (Pull.s Pull.z) ?_)))
 refine Cj.persist hb16 (fun I19 hle18 hb16i => ?_)
 have hs7 := hs7.mono hle18
 have hs8 := hs8.mono hle18
 have hs9 := hs9.mono hle18
 have hRA : RecS _ (fA (.slice p7 1 c7) (.slice p8 1 c8) (.slice p9 1 c9)) (.slice (some ⟨b16, 0, none⟩) 3 3) := ⟨RowS.of (l := (fA (.slice p7 1 c7) (.slice p8 1 c8) (.slice p9 1 c9))) (sp := []) (Nat.le_refl _) hb16i, fun f hf => by
  simp only [fA, List.mem_cons, List.not_mem_nil, or_false] at hf
  rcases hf with rfl | rfl | rfl
  · exact hs7
  · exact hs8
  · exact hs9⟩
 refine Cj.region (J.op rfl (op_call (H1 := []) rfl rfl rfl rfl rfl (field_ok [50, 52, 53] [48, 48] [116, 104, 101, 32, 83, 84, 65, 82, 83] _) ?_ (fun _ _ _ _ h => by obtain ⟨_, h, _⟩ := h; cases h) (fun _ _ h => by obtain ⟨_, h, _⟩ := h; cases h)))
 intro v20 I21 H22 hle23 hp24
 have hs7 := hs7.mono hle23
 have hs8 := hs8.mono hle23
 have hs9 := hs9.mono hle23
 have hb16i := hle23 _ _ hb16i
 have hRA := hRA.mono hle23
 obtain ⟨v12, h, hs12, rfl⟩ := hp24; cases h
 obtain ⟨p12, c12, rfl, -, -⟩ := id hs12
 refine J.op rfl (op_call (H1 := []) rfl rfl rfl rfl rfl (field_ok [49, 48, 48] [49, 32] [77, 117, 108, 108, 101, 114] _) ?_ (fun _ _ _ _ h => by obtain ⟨_, h, _⟩ := h; cases h) (fun _ _ h => by obtain ⟨_, h, _⟩ := h; cases h))
 intro v25 I26 H27 hle28 hp29
 have hs7 := hs7.mono hle28
 have hs8 := hs8.mono hle28
 have hs9 := hs9.mono hle28
 have hb16i := hle28 _ _ hb16i
 have hRA := hRA.mono hle28
 have hs12 := hs12.mono hle28
 obtain ⟨v13, h, hs13, rfl⟩ := hp29; cases h
 obtain ⟨p13, c13, rfl, -, -⟩ := id hs13
 refine J.op rfl (op_buildSlice rfl rfl rfl Tryz.underlying23 Tryz.sizeOf35 Tryz.zeroValue35 rfl rfl rfl rfl (LCat.agg rfl (LCat.agg rfl LCat.none)) ?_)
 intro b30 hb30
 refine J.z (yl_buildS (pl := #[(0, 1), (1, 1), (2, 1)]) rfl rfl Tryz.zeroValue26 rfl Tryz.underlying26 (fun w => by simp [Tryz.sizeOf23, Tryz.sizeOf5]) (LBld.part rfl rfl rfl (LSpl.c LSpl.z) (LBld.part rfl rfl rfl (LSpl.s (LSpl.s (LSpl.c LSpl.z))) LBld.none))) ?_
 refine J.op rfl (op_alloc rfl rfl rfl Tryz.zeroValue26 rfl ?_)
 intro b31 hb31
 refine J.op rfl (op_store 0 rfl rfl rfl rfl rfl rfl Tryz.sizeOf26 rfl rfl (LSpl.c (LSpl.c (LSpl.c LSpl.z))) LSet.z ?_)
 refine J.nil (Ej.seq (Cj.seq (Cj.pull (Pull.s Pull.z) ?_)))
 refine Cj.persist hb30 (fun I33 hle32 hb30i => ?_)
 have hs7 := hs7.mono hle32
 have hs8 := hs8.mono hle32
 have hs9 := hs9.mono hle32
 have hb16i := hle32 _ _ hb16i
 have hRA := hRA.mono hle32
 have hs12 := hs12.mono hle32
 have hs13 := hs13.mono hle32
 have hRB : RecS _ (fB (.slice p12 1 c12) (.slice p13 1 c13)) (.slice (some ⟨b30, 0, none⟩) 2 2) := ⟨RowS.of (l := (fB (.slice p12 1 c12) (.slice p13 1 c13))) (sp := []) (Nat.le_refl _) hb30i, fun f hf => by
  simp only [fB, List.mem_cons, List.not_mem_nil, or_false] at hf
  rcases hf with rfl | rfl
  · exact hs12
  · exact hs13⟩
 refine Cj.region (J.op rfl (op_call (H1 := []) rfl rfl rfl rfl rfl (field_ok [48, 50, 48] [32, 32] [57, 55, 56, 45, 51, 45, 49, 54, 45, 49, 52, 56, 52, 49, 48, 45, 48] _) ?_ (fun _ _ _ _ h => by obtain ⟨_, h, _⟩ := h; cases h) (fun _ _ h => by obtain ⟨_, h, _⟩ := h; cases h)))
 intro v34 I35 H36 hle37 hp38
 have hs7 := hs7.mono hle37
 have hs8 := hs8.mono hle37
 have hs9 := hs9.mono hle37
 have hb16i := hle37 _ _ hb16i
 have hRA := hRA.mono hle37
 have hs12 := hs12.mono hle37
 have hs13 := hs13.mono hle37
 have hb30i := hle37 _ _ hb30i
 have hRB := hRB.mono hle37
 obtain ⟨v16, h, hs16, rfl⟩ := hp38; cases h
 obtain ⟨p16, c16, rfl, -, -⟩ := id hs16
 refine J.op rfl (op_buildSlice rfl rfl rfl Tryz.underlying23 Tryz.sizeOf35 Tryz.zeroValue35 rfl rfl rfl rfl (LCat.agg rfl LCat.none) ?_)
 intro b39 hb39
 refine J.z (yl_buildS (pl := #[(0, 1), (1, 1), (2, 1)]) rfl rfl Tryz.zeroValue26 rfl Tryz.underlying26 (fun w => by simp [Tryz.sizeOf23, Tryz.sizeOf5]) (LBld.part rfl rfl rfl (LSpl.c LSpl.z) (LBld.part rfl rfl rfl (LSpl.s (LSpl.s (LSpl.c LSpl.z))) LBld.none))) ?_
 refine J.op rfl (op_alloc rfl rfl rfl Tryz.zeroValue26 rfl ?_)
 intro b40 hb40
 refine J.op rfl (op_store 0 rfl rfl rfl rfl rfl rfl Tryz.sizeOf26 rfl rfl (LSpl.c (LSpl.c (LSpl.c LSpl.z))) LSet.z ?_)
 refine J.nil (Ej.seq (Cj.seq (Cj.pull (Pull.s Pull.z) ?_)))
 refine Cj.persist hb39 (fun I42 hle41 hb39i => ?_)
 have hs7 := hs7.mono hle41
 have hs8 := hs8.mono hle41
 have hs9 := hs9.mono hle41
 have hb16i := hle41 _ _ hb16i
 have hRA := hRA.mono hle41
 have hs12 := hs12.mono hle41
 have hs13 := hs13.mono hle41
 have hb30i := hle41 _ _ hb30i
 have hRB := hRB.mono hle41
 have hs16 := hs16.mono hle41
 have hRC : RecS _ (fC (.slice p16 1 c16)) (.slice (some ⟨b39, 0, none⟩) 1 1) := ⟨RowS.of (l := (fC (.slice p16 1 c16))) (sp := []) (Nat.le_refl _) hb39i, fun f hf => by
  simp only [fC, List.mem_cons, List.not_mem_nil, or_false] at hf
  rcases hf with rfl
  · exact hs16⟩
 refine Cj.region (J.z (yl_loadAgg rfl rfl Tryz.isAgg26 Tryz.sizeOf26 (Blk.at 2 rfl) rfl rfl) ?_)
 refine J.z (yl_loadAgg rfl rfl Tryz.isAgg26 Tryz.sizeOf26 (Blk.at 2 rfl) rfl rfl) ?_
 refine J.op rfl (op_pure rfl rfl rfl rfl rfl (Points_ok (fA (.slice p7 1 c7) (.slice p8 1 c8) (.slice p9 1 c9)) (fA (.slice p7 1 c7) (.slice p8 1 c8) (.slice p9 1 c9)) _ _ 97 0 97 0 (okA _ _ _).1 (okA _ _ _).1 (okA _ _ _).2 (okA _ _ _).2 _ hRA hRA) ?_)
 refine J.eqv 21 rfl (show _ = i64 95 from (congrArg i64 (by rw [feat_A]; exact pAA))) ?_
 refine J.z (yl_eql rfl rfl rfl) ?_
 refine J.z (yl_move rfl rfl) ?_
 refine J.opG 4 23 true _ rfl rfl rfl (by first | rfl | decide) (op_yld (yl_loadAgg rfl rfl Tryz.isAgg26 Tryz.sizeOf26 (Blk.at 2 rfl) rfl rfl) rfl rfl ?_)
 refine J.opG 4 23 true _ rfl rfl rfl (by first | rfl | decide) (op_yld (yl_loadAgg rfl rfl Tryz.isAgg26 Tryz.sizeOf26 (Blk.at 1 rfl) rfl rfl) rfl rfl ?_)
 refine J.opG 4 23 true _ rfl rfl rfl (by first | rfl | decide) (op_pure rfl rfl rfl rfl rfl (Points_ok (fA (.slice p7 1 c7) (.slice p8 1 c8) (.slice p9 1 c9)) (fB (.slice p12 1 c12) (.slice p13 1 c13)) _ _ 97 0 97 0 (okA _ _ _).1 (okB _ _).1 (okA _ _ _).2 (okB _ _).2 _ hRA hRB) ?_)
 refine J.eqv 26 rfl (show _ = i64 38 from (congrArg i64 (by rw [feat_A, feat_B]; exact pAB))) ?_
 refine J.opG 4 23 true _ rfl rfl rfl (by first | rfl | decide) (op_yld (yl_eql rfl rfl rfl) rfl rfl ?_)
 refine J.z (yl_pick1 rfl rfl (by first | rfl | decide) rfl) ?_
 refine J.z (yl_move rfl rfl) ?_
 refine J.opG 10 29 true _ rfl rfl rfl (by first | rfl | decide) (op_yld (yl_loadAgg rfl rfl Tryz.isAgg26 Tryz.sizeOf26 (Blk.at 2 rfl) rfl rfl) rfl rfl ?_)
 refine J.opG 10 29 true _ rfl rfl rfl (by first | rfl | decide) (op_yld (yl_loadAgg rfl rfl Tryz.isAgg26 Tryz.sizeOf26 (Blk.at 0 rfl) rfl rfl) rfl rfl ?_)
 refine J.opG 10 29 true _ rfl rfl rfl (by first | rfl | decide) (op_pure rfl rfl rfl rfl rfl (Points_ok (fA (.slice p7 1 c7) (.slice p8 1 c8) (.slice p9 1 c9)) (fC (.slice p16 1 c16)) _ _ 97 0 109 0 (okA _ _ _).1 (okC _).1 (okA _ _ _).2 (okC _).2 _ hRA hRC) ?_)
 refine J.eqv 32 rfl (show _ = i64 10 from (congrArg i64 (by rw [feat_A, feat_C]; exact pAC))) ?_
 refine J.opG 10 29 true _ rfl rfl rfl (by first | rfl | decide) (op_yld (yl_eql rfl rfl rfl) rfl rfl ?_)
 refine J.z (yl_pick1 rfl rfl (by first | rfl | decide) rfl) ?_
 refine J.z (yl_move rfl rfl) ?_
 refine J.opG 16 35 true _ rfl rfl rfl (by first | rfl | decide) (op_yld (yl_loadAgg rfl rfl Tryz.isAgg26 Tryz.sizeOf26 (Blk.at 1 rfl) rfl rfl) rfl rfl ?_)
 refine J.opG 16 35 true _ rfl rfl rfl (by first | rfl | decide) (op_yld (yl_loadAgg rfl rfl Tryz.isAgg26 Tryz.sizeOf26 (Blk.at 0 rfl) rfl rfl) rfl rfl ?_)
 refine J.opG 16 35 true _ rfl rfl rfl (by first | rfl | decide) (op_pure rfl rfl rfl rfl rfl (Points_ok (fB (.slice p12 1 c12) (.slice p13 1 c13)) (fC (.slice p16 1 c16)) _ _ 97 0 109 0 (okB _ _).1 (okC _).1 (okB _ _).2 (okC _).2 _ hRB hRC) ?_)
 refine J.eqv 38 rfl (show _ = i64 (-40) from (congrArg i64 (by rw [feat_B, feat_C]; exact pBC))) ?_
 refine J.opG 16 35 true _ rfl rfl rfl (by first | rfl | decide) (op_yld (yl_eql rfl rfl rfl) rfl rfl ?_)
 refine J.z (yl_pick1 rfl rfl (by first | rfl | decide) rfl) ?_
 refine J.z (yl_assign rfl rfl) ?_
 refine J.nil (Ej.seq (Cj.seq (Cj.region (J.z (yl_loadAgg rfl rfl Tryz.isAgg26 Tryz.sizeOf26 (Blk.at 2 rfl) rfl rfl) ?_))))
 refine J.z (yl_loadAgg rfl rfl Tryz.isAgg26 Tryz.sizeOf26 (Blk.at 1 rfl) rfl rfl) ?_
 refine J.z (yl_loadAgg rfl rfl Tryz.isAgg26 Tryz.sizeOf26 (Blk.at 2 rfl) rfl rfl) ?_
 refine J.op rfl (op_buildSlice rfl rfl rfl Tryz.underlying50 Tryz.sizeOf26 Tryz.zeroValue26 rfl rfl rfl rfl (LCat.agg rfl (LCat.agg rfl (LCat.agg rfl LCat.none))) ?_)
 intro b43 hb43
 refine J.persist hb43 (fun I45 hle44 hb43i => ?_)
 have hs7 := hs7.mono hle44
 have hs8 := hs8.mono hle44
 have hs9 := hs9.mono hle44
 have hb16i := hle44 _ _ hb16i
 have hRA := hRA.mono hle44
 have hs12 := hs12.mono hle44
 have hs13 := hs13.mono hle44
 have hb30i := hle44 _ _ hb30i
 have hRB := hRB.mono hle44
 have hs16 := hs16.mono hle44
 have hb39i := hle44 _ _ hb39i
 have hRC := hRC.mono hle44
 have hRs : RecsS _ ([⟨97, 0, .slice (some ⟨b16, 0, none⟩) 3 3, (fA (.slice p7 1 c7) (.slice p8 1 c8) (.slice p9 1 c9))⟩, ⟨97, 0, .slice (some ⟨b30, 0, none⟩) 2 2, (fB (.slice p12 1 c12) (.slice p13 1 c13))⟩, ⟨97, 0, .slice (some ⟨b16, 0, none⟩) 3 3, (fA (.slice p7 1 c7) (.slice p8 1 c8) (.slice p9 1 c9))⟩] : List Rc) (.slice (some ⟨b43, 0, none⟩) 3 3) := ⟨RowS.of (l := ([⟨97, 0, .slice (some ⟨b16, 0, none⟩) 3 3, (fA (.slice p7 1 c7) (.slice p8 1 c8) (.slice p9 1 c9))⟩, ⟨97, 0, .slice (some ⟨b30, 0, none⟩) 2 2, (fB (.slice p12 1 c12) (.slice p13 1 c13))⟩, ⟨97, 0, .slice (some ⟨b16, 0, none⟩) 3 3, (fA (.slice p7 1 c7) (.slice p8 1 c8) (.slice p9 1 c9))⟩] : List Rc)) (sp := []) (Nat.le_refl _) hb43i, fun r hr => by
  simp only [List.mem_cons, List.not_mem_nil, or_false] at hr
  rcases hr with rfl | rfl | rfl
  · exact hRA
  · exact hRB
  · exact hRA⟩
 have hOKs : ∀ r ∈ ([⟨97, 0, .slice (some ⟨b16, 0, none⟩) 3 3, (fA (.slice p7 1 c7) (.slice p8 1 c8) (.slice p9 1 c9))⟩, ⟨97, 0, .slice (some ⟨b30, 0, none⟩) 2 2, (fB (.slice p12 1 c12) (.slice p13 1 c13))⟩, ⟨97, 0, .slice (some ⟨b16, 0, none⟩) 3 3, (fA (.slice p7 1 c7) (.slice p8 1 c8) (.slice p9 1 c9))⟩] : List Rc), ROK r := fun r hr => by
  simp only [List.mem_cons, List.not_mem_nil, or_false] at hr
  rcases hr with rfl | rfl | rfl
  · exact okA _ _ _
  · exact okB _ _
  · exact okA _ _ _
 have hPs : (pairsN ([⟨97, 0, .slice (some ⟨b16, 0, none⟩) 3 3, (fA (.slice p7 1 c7) (.slice p8 1 c8) (.slice p9 1 c9))⟩, ⟨97, 0, .slice (some ⟨b30, 0, none⟩) 2 2, (fB (.slice p12 1 c12) (.slice p13 1 c13))⟩, ⟨97, 0, .slice (some ⟨b16, 0, none⟩) 3 3, (fA (.slice p7 1 c7) (.slice p8 1 c8) (.slice p9 1 c9))⟩] : List Rc)).map cst = [((0 : Int), (2 : Int))] := by rw [← pairs_nrm]; exact pABA
 refine J.op rfl (op_call (H1 := []) rfl rfl rfl rfl rfl (Pairs_ok ([⟨97, 0, .slice (some ⟨b16, 0, none⟩) 3 3, (fA (.slice p7 1 c7) (.slice p8 1 c8) (.slice p9 1 c9))⟩, ⟨97, 0, .slice (some ⟨b30, 0, none⟩) 2 2, (fB (.slice p12 1 c12) (.slice p13 1 c13))⟩, ⟨97, 0, .slice (some ⟨b16, 0, none⟩) 3 3, (fA (.slice p7 1 c7) (.slice p8 1 c8) (.slice p9 1 c9))⟩] : List Rc) (by simp) hOKs _ _ hRs) ?_ (fun _ _ _ _ h => by obtain ⟨_, h, _⟩ := h; cases h) (fun _ _ h => by obtain ⟨_, h, _⟩ := h; cases h))
 intro v46 I47 H48 hle49 hp50
 have hs7 := hs7.mono hle49
 have hs8 := hs8.mono hle49
 have hs9 := hs9.mono hle49
 have hb16i := hle49 _ _ hb16i
 have hRA := hRA.mono hle49
 have hs12 := hs12.mono hle49
 have hs13 := hs13.mono hle49
 have hb30i := hle49 _ _ hb30i
 have hRB := hRB.mono hle49
 have hs16 := hs16.mono hle49
 have hb39i := hle49 _ _ hb39i
 have hRC := hRC.mono hle49
 have hb43i := hle49 _ _ hb43i
 have hRs := hRs.mono hle49
 obtain ⟨vps, h, hps, rfl⟩ := hp50; cases h
 refine J.z (yl_buildA (zs := [(.int .i64 0), (.int .i64 0)]) rfl rfl Tryz.zeroValue56 rfl Tryz.underlying56 Tryz.sizeOf3 rfl) ?_
 refine J.op rfl (op_buildSlice rfl rfl rfl Tryz.underlying53 Tryz.sizeOf56 Tryz.zeroValue56 rfl rfl rfl rfl (LCat.agg rfl LCat.none) ?_)
 intro b51 hb51
 refine J.persist hb51 (fun I53 hle52 hb51i => ?_)
 have hs7 := hs7.mono hle52
 have hs8 := hs8.mono hle52
 have hs9 := hs9.mono hle52
 have hb16i := hle52 _ _ hb16i
 have hRA := hRA.mono hle52
 have hs12 := hs12.mono hle52
 have hs13 := hs13.mono hle52
 have hb30i := hle52 _ _ hb30i
 have hRB := hRB.mono hle52
 have hs16 := hs16.mono hle52
 have hb39i := hle52 _ _ hb39i
 have hRC := hRC.mono hle52
 have hb43i := hle52 _ _ hb43i
 have hRs := hRs.mono hle52
 have hps := hps.mono hle52
 have hq47 : RowS twoC _ ([(0, 2)] : List (Int × Int)) (.slice (some ⟨b51, 0, none⟩) 1 1) := RowS.of (l := ([(0, 2)] : List (Int × Int))) (sp := []) (Nat.le_refl _) hb51i
 refine J.op rfl (op_pure rfl rfl rfl rfl rfl (SamePairs_ok ((pairsN ([⟨97, 0, .slice (some ⟨b16, 0, none⟩) 3 3, (fA (.slice p7 1 c7) (.slice p8 1 c8) (.slice p9 1 c9))⟩, ⟨97, 0, .slice (some ⟨b30, 0, none⟩) 2 2, (fB (.slice p12 1 c12) (.slice p13 1 c13))⟩, ⟨97, 0, .slice (some ⟨b16, 0, none⟩) 3 3, (fA (.slice p7 1 c7) (.slice p8 1 c8) (.slice p9 1 c9))⟩] : List Rc)).map cst) [(0, 2)] _ _ (by rw [hPs]; decide) _ (rowT hps) hq47) ?_)
 refine J.eqv 48 rfl (show _ = .bool true from (congrArg Value.bool (decide_eq_true hPs))) ?_
 refine J.z (yl_assign rfl rfl) ?_
 refine J.nil (Ej.seq (Cj.seq (Cj.region (J.z (yl_buildA (zs := [(.int .i64 0), (.int .i64 0)]) rfl rfl Tryz.zeroValue56 rfl Tryz.underlying56 Tryz.sizeOf3 rfl) ?_))))
 refine J.z (yl_buildA (zs := [(.int .i64 0), (.int .i64 0)]) rfl rfl Tryz.zeroValue56 rfl Tryz.underlying56 Tryz.sizeOf3 rfl) ?_
 refine J.z (yl_buildA (zs := [(.int .i64 0), (.int .i64 0)]) rfl rfl Tryz.zeroValue56 rfl Tryz.underlying56 Tryz.sizeOf3 rfl) ?_
 refine J.op rfl (op_buildSlice rfl rfl rfl Tryz.underlying53 Tryz.sizeOf56 Tryz.zeroValue56 rfl rfl rfl rfl (LCat.agg rfl (LCat.agg rfl (LCat.agg rfl LCat.none))) ?_)
 intro b54 hb54
 refine J.persist hb54 (fun I56 hle55 hb54i => ?_)
 have hs7 := hs7.mono hle55
 have hs8 := hs8.mono hle55
 have hs9 := hs9.mono hle55
 have hb16i := hle55 _ _ hb16i
 have hRA := hRA.mono hle55
 have hs12 := hs12.mono hle55
 have hs13 := hs13.mono hle55
 have hb30i := hle55 _ _ hb30i
 have hRB := hRB.mono hle55
 have hs16 := hs16.mono hle55
 have hb39i := hle55 _ _ hb39i
 have hRC := hRC.mono hle55
 have hb43i := hle55 _ _ hb43i
 have hRs := hRs.mono hle55
 have hps := hps.mono hle55
 have hb51i := hle55 _ _ hb51i
 have hq47 := hq47.mono hle55
 have hq52 : RowS twoC _ ([(3, 1), (4, 3), (7, 0)] : List (Int × Int)) (.slice (some ⟨b54, 0, none⟩) 3 3) := RowS.of (l := ([(3, 1), (4, 3), (7, 0)] : List (Int × Int))) (sp := []) (Nat.le_refl _) hb54i
 refine J.op rfl (op_call (H1 := []) rfl rfl rfl rfl rfl (Parts_ok 5 (by decide) [(3, 1), (4, 3), (7, 0)] (by decide) _ _ hq52) ?_ (fun _ _ _ _ h => by obtain ⟨_, h, _⟩ := h; cases h) (fun _ _ h => by obtain ⟨_, h, _⟩ := h; cases h))
 intro v57 I58 H59 hle60 hp61
 have hs7 := hs7.mono hle60
 have hs8 := hs8.mono hle60
 have hs9 := hs9.mono hle60
 have hb16i := hle60 _ _ hb16i
 have hRA := hRA.mono hle60
 have hs12 := hs12.mono hle60
 have hs13 := hs13.mono hle60
 have hb30i := hle60 _ _ hb30i
 have hRB := hRB.mono hle60
 have hs16 := hs16.mono hle60
 have hb39i := hle60 _ _ hb39i
 have hRC := hRC.mono hle60
 have hb43i := hle60 _ _ hb43i
 have hRs := hRs.mono hle60
 have hps := hps.mono hle60
 have hb51i := hle60 _ _ hb51i
 have hq47 := hq47.mono hle60
 have hb54i := hle60 _ _ hb54i
 have hq52 := hq52.mono hle60
 obtain ⟨vpt, h, hpt, rfl⟩ := hp61; cases h
 refine J.op rfl (op_buildSlice rfl rfl rfl Tryz.underlying62 Tryz.sizeOf3 Tryz.zeroValue3 rfl rfl rfl rfl (LCat.one rfl LCat.none) ?_)
 intro b62 hb62
 refine J.persist hb62 (fun I64 hle63 hb62i => ?_)
 have hs7 := hs7.mono hle63
 have hs8 := hs8.mono hle63
 have hs9 := hs9.mono hle63
 have hb16i := hle63 _ _ hb16i
 have hRA := hRA.mono hle63
 have hs12 := hs12.mono hle63
 have hs13 := hs13.mono hle63
 have hb30i := hle63 _ _ hb30i
 have hRB := hRB.mono hle63
 have hs16 := hs16.mono hle63
 have hb39i := hle63 _ _ hb39i
 have hRC := hRC.mono hle63
 have hb43i := hle63 _ _ hb43i
 have hRs := hRs.mono hle63
 have hps := hps.mono hle63
 have hb51i := hle63 _ _ hb51i
 have hq47 := hq47.mono hle63
 have hb54i := hle63 _ _ hb54i
 have hq52 := hq52.mono hle63
 have hpt := hpt.mono hle63
 have hq54 : RowS intC _ ([0] : List Int) (.slice (some ⟨b62, 0, none⟩) 1 1) := RowS.of (l := ([0] : List Int)) (sp := []) (Nat.le_refl _) hb62i
 refine J.op rfl (op_buildSlice rfl rfl rfl Tryz.underlying62 Tryz.sizeOf3 Tryz.zeroValue3 rfl rfl rfl rfl (LCat.one rfl (LCat.one rfl (LCat.one rfl LCat.none))) ?_)
 intro b65 hb65
 refine J.persist hb65 (fun I67 hle66 hb65i => ?_)
 have hs7 := hs7.mono hle66
 have hs8 := hs8.mono hle66
 have hs9 := hs9.mono hle66
 have hb16i := hle66 _ _ hb16i
 have hRA := hRA.mono hle66
 have hs12 := hs12.mono hle66
 have hs13 := hs13.mono hle66
 have hb30i := hle66 _ _ hb30i
 have hRB := hRB.mono hle66
 have hs16 := hs16.mono hle66
 have hb39i := hle66 _ _ hb39i
 have hRC := hRC.mono hle66
 have hb43i := hle66 _ _ hb43i
 have hRs := hRs.mono hle66
 have hps := hps.mono hle66
 have hb51i := hle66 _ _ hb51i
 have hq47 := hq47.mono hle66
 have hb54i := hle66 _ _ hb54i
 have hq52 := hq52.mono hle66
 have hpt := hpt.mono hle66
 have hb62i := hle66 _ _ hb62i
 have hq54 := hq54.mono hle66
 have hq55 : RowS intC _ ([1, 3, 4] : List Int) (.slice (some ⟨b65, 0, none⟩) 3 3) := RowS.of (l := ([1, 3, 4] : List Int)) (sp := []) (Nat.le_refl _) hb65i
 refine J.op rfl (op_buildSlice rfl rfl rfl Tryz.underlying62 Tryz.sizeOf3 Tryz.zeroValue3 rfl rfl rfl rfl (LCat.one rfl LCat.none) ?_)
 intro b68 hb68
 refine J.persist hb68 (fun I70 hle69 hb68i => ?_)
 have hs7 := hs7.mono hle69
 have hs8 := hs8.mono hle69
 have hs9 := hs9.mono hle69
 have hb16i := hle69 _ _ hb16i
 have hRA := hRA.mono hle69
 have hs12 := hs12.mono hle69
 have hs13 := hs13.mono hle69
 have hb30i := hle69 _ _ hb30i
 have hRB := hRB.mono hle69
 have hs16 := hs16.mono hle69
 have hb39i := hle69 _ _ hb39i
 have hRC := hRC.mono hle69
 have hb43i := hle69 _ _ hb43i
 have hRs := hRs.mono hle69
 have hps := hps.mono hle69
 have hb51i := hle69 _ _ hb51i
 have hq47 := hq47.mono hle69
 have hb54i := hle69 _ _ hb54i
 have hq52 := hq52.mono hle69
 have hpt := hpt.mono hle69
 have hb62i := hle69 _ _ hb62i
 have hq54 := hq54.mono hle69
 have hb65i := hle69 _ _ hb65i
 have hq55 := hq55.mono hle69
 have hq56 : RowS intC _ ([2] : List Int) (.slice (some ⟨b68, 0, none⟩) 1 1) := RowS.of (l := ([2] : List Int)) (sp := []) (Nat.le_refl _) hb68i
 refine J.op rfl (op_buildSlice rfl rfl rfl Tryz.underlying59 Tryz.sizeOf62 Tryz.zeroValue62 rfl rfl rfl rfl (LCat.one rfl (LCat.one rfl (LCat.one rfl LCat.none))) ?_)
 intro b71 hb71
 refine J.persist hb71 (fun I73 hle72 hb71i => ?_)
 have hs7 := hs7.mono hle72
 have hs8 := hs8.mono hle72
 have hs9 := hs9.mono hle72
 have hb16i := hle72 _ _ hb16i
 have hRA := hRA.mono hle72
 have hs12 := hs12.mono hle72
 have hs13 := hs13.mono hle72
 have hb30i := hle72 _ _ hb30i
 have hRB := hRB.mono hle72
 have hs16 := hs16.mono hle72
 have hb39i := hle72 _ _ hb39i
 have hRC := hRC.mono hle72
 have hb43i := hle72 _ _ hb43i
 have hRs := hRs.mono hle72
 have hps := hps.mono hle72
 have hb51i := hle72 _ _ hb51i
 have hq47 := hq47.mono hle72
 have hb54i := hle72 _ _ hb54i
 have hq52 := hq52.mono hle72
 have hpt := hpt.mono hle72
 have hb62i := hle72 _ _ hb62i
 have hq54 := hq54.mono hle72
 have hb65i := hle72 _ _ hb65i
 have hq55 := hq55.mono hle72
 have hb68i := hle72 _ _ hb68i
 have hq56 := hq56.mono hle72
 have hPt : PartR _ [[0], [1, 3, 4], [2]] (.slice (some ⟨b71, 0, none⟩) 3 3) := ⟨([.slice (some ⟨b62, 0, none⟩) 1 1, .slice (some ⟨b65, 0, none⟩) 3 3, .slice (some ⟨b68, 0, none⟩) 1 1] : List Value), RowS.of (l := ([.slice (some ⟨b62, 0, none⟩) 1 1, .slice (some ⟨b65, 0, none⟩) 3 3, .slice (some ⟨b68, 0, none⟩) 1 1] : List Value)) (sp := []) (Nat.le_refl _) hb71i, rfl, fun k w x h1 h2 => by
  rcases k with _ | _ | _ | k
  · cases h1; cases h2; exact hq54
  · cases h1; cases h2; exact hq55
  · cases h1; cases h2; exact hq56
  · cases h1⟩
 refine J.op rfl (op_pure rfl rfl rfl rfl rfl (SameParts_ok (partsI 5 [((3 : Int), (1 : Int)), (4, 3), (7, 0)]) [[0], [1, 3, 4], [2]] _ _ (by rw [parts_ex]; decide) (by rw [parts_ex]; decide) _ hpt hPt) ?_)
 refine J.eqv 58 rfl (show _ = .bool true from (congrArg Value.bool (decide_eq_true parts_ex))) ?_
 refine J.z (yl_assign rfl rfl) ?_
 refine J.nil (Ej.seq (Cj.seq (Cj.region (J.z (yl_move rfl rfl) ?_))))
 refine J.z (yl_move rfl rfl) ?_
 refine J.opG 1 60 true _ rfl rfl rfl (by first | rfl | decide) (op_yld (yl_loadAgg rfl rfl Tryz.isAgg26 Tryz.sizeOf26 (Blk.at 2 rfl) rfl rfl) rfl rfl ?_)
 refine J.opG 1 60 true _ rfl rfl rfl (by first | rfl | decide) (op_yld (yl_loadAgg rfl rfl Tryz.isAgg26 Tryz.sizeOf26 (Blk.at 2 rfl) rfl rfl) rfl rfl ?_)
 refine J.opG 1 60 true _ rfl rfl rfl (by first | rfl | decide) (op_pure rfl rfl rfl rfl rfl (Same_ok (fA (.slice p7 1 c7) (.slice p8 1 c8) (.slice p9 1 c9)) (fA (.slice p7 1 c7) (.slice p8 1 c8) (.slice p9 1 c9)) _ _ 97 0 97 0 (okA _ _ _).1 (okA _ _ _).1 (okA _ _ _).2 (okA _ _ _).2 _ hRA hRA) ?_)
 refine J.eqv 63 rfl (show _ = .bool true from (congrArg Value.bool (decide_eq_true (by rw [feat_A, pAA]; decide)))) ?_
 refine J.z (yl_pick1 rfl rfl (by first | rfl | decide) rfl) ?_
 refine J.z (yl_move rfl rfl) ?_
 refine J.opG 6 65 true _ rfl rfl rfl rfl (op_yld (yl_loadAgg rfl rfl Tryz.isAgg26 Tryz.sizeOf26 (Blk.at 2 rfl) rfl rfl) rfl rfl ?_)
 refine J.opG 6 65 true _ rfl rfl rfl rfl (op_yld (yl_loadAgg rfl rfl Tryz.isAgg26 Tryz.sizeOf26 (Blk.at 1 rfl) rfl rfl) rfl rfl ?_)
 refine J.opG 6 65 true _ rfl rfl rfl rfl (op_pure rfl rfl rfl rfl rfl (Same_ok (fA (.slice p7 1 c7) (.slice p8 1 c8) (.slice p9 1 c9)) (fB (.slice p12 1 c12) (.slice p13 1 c13)) _ _ 97 0 97 0 (okA _ _ _).1 (okB _ _).1 (okA _ _ _).2 (okB _ _).2 _ hRA hRB) ?_)
 refine J.eqv 68 rfl (show _ = .bool false from (congrArg Value.bool (decide_eq_false (by rw [feat_A, feat_B, pAB]; decide)))) ?_
 refine J.opG 6 65 true _ rfl rfl rfl rfl (op_yld (yl_not rfl rfl) rfl rfl ?_)
 refine J.z (yl_pick1 rfl rfl rfl rfl) ?_
 refine J.z (yl_move rfl rfl) ?_
 refine J.opG 12 71 true _ rfl rfl rfl (congrArg not rfl) (op_yld (yl_move rfl rfl) rfl rfl ?_)
 refine J.z (yl_pick1 rfl rfl (congrArg not rfl) rfl) ?_
 refine J.z (yl_move rfl rfl) ?_
 refine J.opG 15 74 true _ rfl rfl rfl rfl (op_yld (yl_move rfl rfl) rfl rfl ?_)
 refine J.z (yl_pick1 rfl rfl rfl rfl) ?_
 refine J.z (yl_assign rfl rfl) ?_
 refine J.nil (Ej.seq (Cj.ret (Ej.bare ?_)))
 refine Ej.ret1 rfl rfl rfl ?_
 exact ⟨rfl, rfl⟩
end Go.Proofs.YtadnofaleepkmaaGreatDoor
end
