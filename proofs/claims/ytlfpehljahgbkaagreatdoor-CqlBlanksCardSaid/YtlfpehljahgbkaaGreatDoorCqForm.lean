/-
  Form, depth, text of queries, as plain functions, and their laws. Own text. Conditions: none.
-/
import Derived.Test.YtlfpehljahgbkaaGreatDoorCqE
namespace Cq
def Qs.kinds : Qs → List Int
  | .nil => []
  | .cons k _ _ _ _ rest => k :: rest.kinds
/-- The form of one query, of which the parts have the forms of l. -/
def form1 (k : Int) (i r t : List UInt8) (n : Nat) (ps : Bool) : Bool :=
  if k = 1 then indexes.contains i && relations.contains r && n == 0
  else if k < 2 ∨ k > 4 ∨ i ≠ [] ∨ r ≠ [] ∨ t ≠ [] ∨ n ≠ 2 then false else ps
def Qs.forms : Qs → Bool
  | .nil => true
  | .cons k i r t ps rest => form1 k i r t ps.len ps.forms && rest.forms
def form (q : Qn) : Bool := form1 q.k q.i q.r q.t q.ps.len q.ps.forms
def up (k : Int) : Nat := if k = 1 then 0 else 1
def depth1 (k : Int) (ks : List Int) (ds : List Nat) : Nat :=
  if k = 1 then 0 else match ks, ds with
    | [_, k1], [a, b] => max (b + up k1) a
    | _, _ => 0
def Qs.depths : Qs → List Nat
  | .nil => []
  | .cons k _ _ _ ps rest => depth1 k ps.kinds ps.depths :: rest.depths
def depth (q : Qn) : Nat := depth1 q.k q.ps.kinds q.ps.depths
def right (q : Qn) : Bool := form q && decide (depth q ≤ 50)
def escape (s : List UInt8) : List UInt8 := s.flatMap fun c => if c = 34 ∨ c = 92 then [92, c] else [c]
def text (s : List UInt8) : List UInt8 := 34 :: escape s ++ [34]
def word (k : Int) : List UInt8 := if k = 2 then [97, 110, 100] else if k = 3 then [111, 114] else [110, 111, 116]
def paren (k : Int) (x : List UInt8) : List UInt8 := if k = 1 then x else 40 :: x ++ [41]
def print1 (k : Int) (i r t : List UInt8) (ks : List Int) (ds : List (List UInt8)) : List UInt8 :=
  if k = 1 then i ++ [32] ++ r ++ [32] ++ text t else match ks, ds with
    | [_, k1], [a, b] => a ++ [32] ++ word k ++ [32] ++ paren k1 b
    | _, _ => []
def Qs.prints : Qs → List (List UInt8)
  | .nil => []
  | .cons k i r t ps rest => print1 k i r t ps.kinds ps.prints :: rest.prints
def write (q : Qn) : List UInt8 := print1 q.k q.i q.r q.t q.ps.kinds q.ps.prints
def print (q : Qn) : List UInt8 := if right q then write q else []
def Qs.size : Qs → Nat
  | .nil => 0
  | .cons _ _ _ _ ps rest => ps.size + rest.size + 1
def Qn.size (q : Qn) : Nat := q.ps.size
/-- Two parts. -/
def Qn.Two (q a b : Qn) : Prop := q.ps = a.push (b.push .nil)
theorem Qs.two_of : ∀ {ps : Qs}, ps.len = 2 → ∃ a b : Qn, ps = a.push (b.push .nil)
  | .nil, h => by simp [Qs.len] at h
  | .cons _ _ _ _ _ .nil, h => by simp [Qs.len] at h
  | .cons k i r t ps (.cons k' i' r' t' ps' .nil), _ => ⟨⟨k, i, r, t, ps⟩, ⟨k', i', r', t', ps'⟩, rfl⟩
  | .cons _ _ _ _ _ (.cons _ _ _ _ _ (.cons _ _ _ _ _ _)), h => by simp [Qs.len] at h
theorem Qn.Two.size {q a b : Qn} (h : q.Two a b) : a.size < q.size ∧ b.size < q.size := by
  simp only [Qn.size, show q.ps = _ from h, Qn.push, Qs.size]; omega
theorem Qn.Two.len {q a b : Qn} (h : q.Two a b) : q.ps.len = 2 := by rw [show q.ps = _ from h]; rfl
theorem form_term {q : Qn} (h : q.k = 1) : form q = (indexes.contains q.i && relations.contains q.r && q.ps.len == 0) := by simp [form, form1, h]
theorem form_bad {q : Qn} (h : q.k ≠ 1) (h2 : q.k < 2 ∨ q.k > 4 ∨ q.i ≠ [] ∨ q.r ≠ [] ∨ q.t ≠ [] ∨ q.ps.len ≠ 2) : form q = false := by unfold form form1; rw [if_neg h, if_pos h2]
theorem form_two {q a b : Qn} (h : q.k ≠ 1) (h2 : ¬ (q.k < 2 ∨ q.k > 4 ∨ q.i ≠ [] ∨ q.r ≠ [] ∨ q.t ≠ [] ∨ q.ps.len ≠ 2)) (ht : q.Two a b) : form q = (form a && form b) := by
  unfold form form1
  rw [if_neg h, if_neg h2, show q.ps = _ from ht]
  simp [Qn.push, Qs.forms, form1]
theorem form_tree {q : Qn} (h : form q = true) : q.k = 1 ∨ (q.k ≠ 1 ∧ 2 ≤ q.k ∧ q.k ≤ 4 ∧ ∃ a b, q.Two a b ∧ form a = true ∧ form b = true) := by
  by_cases h1 : q.k = 1
  · exact .inl h1
  · by_cases h2 : q.k < 2 ∨ q.k > 4 ∨ q.i ≠ [] ∨ q.r ≠ [] ∨ q.t ≠ [] ∨ q.ps.len ≠ 2
    · rw [form_bad h1 h2] at h; cases h
    · obtain ⟨a, b, hab⟩ := Qs.two_of (ps := q.ps) (by omega)
      rw [form_two h1 h2 hab, Bool.and_eq_true] at h
      exact .inr ⟨h1, by omega, by omega, a, b, hab, h.1, h.2⟩
theorem depth_term {q : Qn} (h : q.k = 1) : depth q = 0 := by simp [depth, depth1, h]
theorem depth_two {q a b : Qn} (h : q.k ≠ 1) (ht : q.Two a b) : depth q = max (depth b + up b.k) (depth a) := by
  unfold depth
  rw [show q.ps = _ from ht]
  simp [Qn.push, Qs.depths, Qs.kinds, depth1, h]
theorem write_term {q : Qn} (h : q.k = 1) : write q = q.i ++ [32] ++ q.r ++ [32] ++ text q.t := by simp [write, print1, h]
theorem write_two {q a b : Qn} (h : q.k ≠ 1) (ht : q.Two a b) : write q = write a ++ [32] ++ word q.k ++ [32] ++ paren b.k (write b) := by
  unfold write
  rw [show q.ps = _ from ht]
  simp [Qn.push, Qs.prints, Qs.kinds, print1, h]
theorem escape_len (s : List UInt8) : s.length ≤ (escape s).length ∧ (escape s).length ≤ 2 * s.length := by
  induction s with
  | nil => simp [escape]
  | cons c r ih =>
    simp only [escape, List.flatMap_cons, List.length_append, List.length_cons] at ih ⊢
    split <;> simp only [List.length_cons, List.length_nil] <;> omega
theorem escape_snoc (s : List UInt8) (c : UInt8) : escape (s ++ [c]) = escape s ++ if c = 34 ∨ c = 92 then [92, c] else [c] := by simp [escape]
theorem paren_len (k : Int) (x : List UInt8) : x.length ≤ (paren k x).length := by unfold paren; split <;> simp <;> omega
end Cq
namespace Go.Sx
open Cq
theorem PS.two_at {I : Heap} {q a b : Qn} {p : Option Addr} (h : PS I q.ps p) (ht : q.Two a b) :
    ∃ bl off cs' T fr pa ca pb cb, p = some ⟨bl, off, none⟩ ∧ I bl = some (.cells (List.toArray cs') T fr) ∧ (cs'.drop off).take 5 = qCells a pa ca ∧ (cs'.drop (off + 5)).take 5 = qCells b pb cb ∧ cs'[off + 5]? = some (i64 b.k) ∧ PS I a.ps pa ∧ PS I b.ps pb := by
  rw [show q.ps = _ from ht] at h
  rcases h with h | ⟨bl, off, cs', T, fr, rfl, hI, pa, ca, tl, hcs, hpa, pb, cb, tl2, htl, hpb, _⟩
  · cases h
  · subst htl
    refine ⟨bl, off, cs', T, fr, pa, ca, pb, cb, rfl, hI, ?_, ?_, ?_, hpa, hpb⟩
    · rw [hcs]; rfl
    · rw [← List.drop_drop, hcs]; rfl
    · rw [← List.getElem?_drop, hcs]; rfl
end Go.Sx
namespace Cq
theorem take_next {s : List UInt8} {k : Nat} {c : UInt8} (h : s[k]? = some c) : s.take (k + 1) = s.take k ++ [c] := by
  rw [List.take_add_one, h]; rfl
theorem escape_next {s : List UInt8} {k : Nat} {c : UInt8} (h : s[k]? = some c) : escape (s.take (k + 1)) = escape (s.take k) ++ if c = 34 ∨ c = 92 then [92, c] else [c] := by
  rw [take_next h, escape_snoc]
def Qs.get : Qs → Nat → Option Qn
  | .nil, _ => none
  | .cons k i r t ps _, 0 => some ⟨k, i, r, t, ps⟩
  | .cons _ _ _ _ _ rest, j + 1 => rest.get j
theorem Qs.get_lt : ∀ {ps : Qs} {j : Nat}, j < ps.len → ∃ x, ps.get j = some x
  | .nil, _, h => by simp [Qs.len] at h
  | .cons k i r t ps _, 0, _ => ⟨⟨k, i, r, t, ps⟩, rfl⟩
  | .cons _ _ _ _ _ rest, j + 1, h => by simp only [Qs.len] at h; exact Qs.get_lt (ps := rest) (by omega)
theorem Qs.get_size : ∀ {ps : Qs} {j : Nat} {x : Qn}, ps.get j = some x → x.size < ps.size
  | .nil, _, _, h => by simp [Qs.get] at h
  | .cons k i r t ps rest, 0, x, h => by simp only [Qs.get, Option.some.injEq] at h; subst h; simp only [Qn.size, Qs.size]; omega
  | .cons _ _ _ _ _ rest, j + 1, x, h => by have := Qs.get_size (ps := rest) h; simp only [Qs.size]; omega
theorem Qs.ext : ∀ {a b : Qs}, a.len = b.len → (∀ j, j < a.len → a.get j = b.get j) → a = b
  | .nil, .nil, _, _ => rfl
  | .nil, .cons .., h, _ => by simp [Qs.len] at h
  | .cons .., .nil, h, _ => by simp [Qs.len] at h
  | .cons k i r t ps rest, .cons k' i' r' t' ps' rest', h, hg => by
    have h0 := hg 0 (by simp [Qs.len])
    simp only [Qs.get, Option.some.injEq, Qn.mk.injEq] at h0
    obtain ⟨rfl, rfl, rfl, rfl, rfl⟩ := h0
    have : rest = rest' := Qs.ext (by simpa [Qs.len] using h) fun j hj => by
      have := hg (j + 1) (by simp [Qs.len]; omega)
      simpa [Qs.get] using this
    rw [this]
end Cq
namespace Go.Sx
open Cq
theorem QC.get {I : Heap} : ∀ {ps : Qs} {cs : List Value} {j : Nat} {x : Qn}, QC I ps cs → ps.get j = some x → ∃ px cx, (cs.drop (j * 5)).take 5 = qCells x px cx ∧ PS I x.ps px
  | .nil, _, _, _, _, h => by simp [Qs.get] at h
  | .cons k i r t ps rest, cs, 0, x, ⟨p, c, tl, hcs, hps, _⟩, h => by
    simp only [Qs.get, Option.some.injEq] at h; subst h hcs
    exact ⟨p, c, rfl, hps⟩
  | .cons _ _ _ _ _ rest, cs, j + 1, x, ⟨p, c, tl, hcs, _, hr⟩, h => by
    obtain ⟨px, cx, h1, h2⟩ := QC.get (j := j) hr h
    refine ⟨px, cx, ?_, h2⟩
    subst hcs
    rw [← h1]
    have : (j + 1) * 5 = 5 + j * 5 := by omega
    rw [this, ← List.drop_drop]; rfl
theorem PS.at {I : Heap} {ps : Qs} {p : Option Addr} (h : PS I ps p) (hn : 0 < ps.len) : ∃ bl off cs' T fr, p = some ⟨bl, off, none⟩ ∧ I bl = some (.cells (List.toArray cs') T fr) ∧ ∀ j x, ps.get j = some x → ∃ px cx, (cs'.drop (off + j * 5)).take 5 = qCells x px cx ∧ PS I x.ps px := by
  rcases h with rfl | ⟨bl, off, cs', T, fr, rfl, hI, hQ⟩
  · simp [Qs.len] at hn
  · refine ⟨bl, off, cs', T, fr, rfl, hI, fun j x hx => ?_⟩
    rw [← List.drop_drop]
    exact hQ.get hx
theorem word_at {k : Int} (h2 : 2 ≤ k) (h4 : k ≤ 4) : [str [97, 110, 100], str [111, 114], str [110, 111, 116]][(k - 2).toNat]? = some (str (word k)) := by
  obtain rfl | rfl | rfl : k = 2 ∨ k = 3 ∨ k = 4 := by omega
  all_goals rfl
end Go.Sx
