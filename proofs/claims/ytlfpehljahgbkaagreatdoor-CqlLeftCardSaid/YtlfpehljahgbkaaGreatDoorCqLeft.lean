/-
  Operators bind from left to right: the texts of the law CqlLeft. Own text. Conditions: none.
-/
import Derived.Test.YtlfpehljahgbkaaGreatDoorCqNest
namespace Cq
def ch (k : Nat) : UInt8 := UInt8.ofNat (98 + k % 20)
def opk (l : List UInt8) (k : Nat) : Nat := 2 + (l.getD k 0).toNat % 3
def seg (l : List UInt8) (k : Nat) : List UInt8 := 32 :: (word (opk l k) ++ 32 :: [ch k])
def segs (l : List UInt8) (i : Nat) : Nat → List UInt8
  | 0 => []
  | n + 1 => seg l i ++ segs l (i + 1) n
def foldQ (l : List UInt8) (i : Nat) : Nat → Qn → Qn
  | 0, q => q
  | n + 1, q => foldQ l (i + 1) n (two (opk l i) q (bareQ [ch i]))
def leftS (l : List UInt8) : Nat → List UInt8
  | 0 => [97]
  | k + 1 => leftS l k ++ seg l k
def leftQ (l : List UInt8) : Nat → Qn
  | 0 => bareQ [97]
  | k + 1 => two (opk l k) (leftQ l k) (bareQ [ch k])
theorem segs_snoc (l : List UInt8) : ∀ n i, segs l i (n + 1) = segs l i n ++ seg l (i + n)
  | 0, i => by simp [segs]
  | n + 1, i => by
    have ih := segs_snoc l n (i + 1)
    rw [segs, ih, segs, List.append_assoc]
    have e : i + 1 + n = i + (n + 1) := by omega
    rw [e]
theorem leftS_eq (l : List UInt8) : ∀ k, leftS l k = [97] ++ segs l 0 k
  | 0 => rfl
  | k + 1 => by rw [leftS, leftS_eq l k, segs_snoc, Nat.zero_add, List.append_assoc]
theorem foldQ_snoc (l : List UInt8) : ∀ n i q, foldQ l i (n + 1) q = two (opk l (i + n)) (foldQ l i n q) (bareQ [ch (i + n)])
  | 0, _, _ => rfl
  | n + 1, i, q => by
    rw [foldQ, foldQ_snoc l n (i + 1)]
    have e : i + 1 + n = i + (n + 1) := by omega
    rw [e]; rfl
theorem leftQ_eq (l : List UInt8) : ∀ k, leftQ l k = foldQ l 0 k (bareQ [97])
  | 0 => rfl
  | k + 1 => by rw [leftQ, leftQ_eq l k, foldQ_snoc, Nat.zero_add]
theorem ch_ok (k : Nat) : plain (ch k) = true ∧ isTerm ⟨3, [ch k], 0⟩ = true := by
  have h : ∀ j < 20, plain (UInt8.ofNat (98 + j)) = true ∧ isTerm ⟨3, [UInt8.ofNat (98 + j)], 0⟩ = true := by decide +kernel
  exact h _ (Nat.mod_lt _ (by decide))
theorem opk_ok (l : List UInt8) (k : Nat) : 2 ≤ ((opk l k : Nat) : Int) ∧ ((opk l k : Nat) : Int) ≤ 4 := by
  have := Nat.mod_lt (l.getD k 0).toNat (show 0 < 3 by decide)
  unfold opk; omega
theorem word_rel {k : Int} (h2 : 2 ≤ k) (h4 : k ≤ 4) : relation ⟨3, word k, 0⟩ = false := by
  have : k = 2 ∨ k = 3 ∨ k = 4 := by omega
  rcases this with rfl | rfl | rfl <;> decide
theorem segs_head {s : List UInt8} {l : List UInt8} : ∀ (n : Nat) {i p : Nat}, s.drop p = segs l i n → p + (segs l i n).length = s.length → ∃ t ts, toksI s p = t :: ts ∧ relation t = false ∧ (n = 0 → t.kind = 0 ∧ operator t = 0)
  | 0, i, p, _, hl => by
    have : p = s.length := hl
    rw [this, toks_end]
    exact ⟨_, _, rfl, by simp [relation], fun _ => ⟨rfl, by simp [operator]⟩⟩
  | n + 1, i, p, h, _ => by
    obtain ⟨o2, o4⟩ := opk_ok l i
    obtain ⟨w1, w2, w3⟩ := word_ok o2 o4 0
    have h0 : s.drop p = 32 :: (word (opk l i) ++ 32 :: ([ch i] ++ segs l (i + 1) n)) := by rw [h]; simp [segs, seg]
    have t0 := toks_blank h0 (by decide)
    have h1 : s.drop (p + 1) = word (opk l i) ++ 32 :: ([ch i] ++ segs l (i + 1) n) := by rw [← List.drop_drop, h0]; rfl
    have t1 := toks_word w3 w2 (by intro x hx; cases hx; decide) h1
    rw [t0, t1]
    exact ⟨_, _, rfl, word_rel o2 o4, fun h => by cases h⟩
theorem M_segs {s : List UInt8} {l : List UInt8} : ∀ (n : Nat) {i p : Nat} {q : Qn}, s.drop p = segs l i n → p + (segs l i n).length = s.length → ∃ t ts, M 0 q (toksI s p) = .ok (foldQ l i n q) (t :: ts) ∧ t.kind = 0
  | 0, i, p, q, h, hl => by
    obtain ⟨t, ts, h1, _, h3⟩ := segs_head 0 h hl
    rw [h1, M_end (h3 rfl).2]
    exact ⟨t, ts, rfl, (h3 rfl).1⟩
  | n + 1, i, p, q, h, hl => by
    obtain ⟨o2, o4⟩ := opk_ok l i
    obtain ⟨w1, w2, w3⟩ := word_ok o2 o4 (p + 1)
    obtain ⟨c1, c2⟩ := ch_ok i
    have h0 : s.drop p = 32 :: (word (opk l i) ++ 32 :: ([ch i] ++ segs l (i + 1) n)) := by rw [h]; simp [segs, seg]
    have t0 := toks_blank h0 (by decide)
    have h1 : s.drop (p + 1) = word (opk l i) ++ 32 :: ([ch i] ++ segs l (i + 1) n) := by rw [← List.drop_drop, h0]; rfl
    have t1 := toks_word w3 w2 (by intro x hx; cases hx; decide) h1
    have h2 := drop_past h1
    have t2 := toks_blank h2 (by decide)
    have h3 : s.drop (p + 1 + (word (opk l i)).length + 1) = [ch i] ++ segs l (i + 1) n := by rw [← List.drop_drop, h2]; rfl
    have hr : ∀ x, (segs l (i + 1) n).head? = some x → plain x = false := by
      intro x hx
      cases n with
      | zero => cases hx
      | succ n =>
        have : x = 32 := by simpa [segs, seg] using hx.symm
        subst this; decide
    have t3 := toks_word (w := [ch i]) (by simp) (by intro x hx; simp at hx; subst hx; exact c1) hr h3
    have h4 := drop_past h3
    have hl2 : p + 1 + (word (opk l i)).length + 1 + [ch i].length + (segs l (i + 1) n).length = s.length := by
      rw [← hl]; simp [segs, seg]; omega
    obtain ⟨tn, tsn, hn1, hn2, _⟩ := segs_head n h4 hl2
    obtain ⟨te, tse, he1, he2⟩ := M_segs n (q := two (opk l i) q (bareQ [ch i])) h4 hl2
    have hop : operator ⟨3, word (opk l i), p + 1⟩ = opk l i := by rw [w1]; omega
    refine ⟨te, tse, ?_, he2⟩
    rw [t0, t1, M_step (by rw [hop]; omega), t2, t3, hn1, bare_at c2 hn2, ← hn1]
    simp only [hop]
    exact he1
/-- Operators bind from left to right. -/
theorem left_parse (l : List UInt8) (k : Nat) : parse (leftS l k) = (leftQ l k, 0, 0) := by
  have h0 : (leftS l k).drop 0 = [97] ++ segs l 0 k := by rw [leftS_eq]; rfl
  have hr : ∀ x, (segs l 0 k).head? = some x → plain x = false := by
    intro x hx
    cases k with
    | zero => cases hx
    | succ n =>
      have : x = 32 := by simpa [segs, seg] using hx.symm
      subst this; decide
  have t0 : toksI (leftS l k) 0 = ⟨3, [97], 0⟩ :: toksI (leftS l k) 1 := toks_word (by decide) (by decide) hr h0
  have h1 : (leftS l k).drop 1 = segs l 0 k := drop_past h0
  have hl : 1 + (segs l 0 k).length = (leftS l k).length := by rw [leftS_eq]; simp; omega
  obtain ⟨tn, tsn, hn1, hn2, _⟩ := segs_head k h1 hl
  obtain ⟨te, tse, he1, he2⟩ := M_segs k (q := bareQ [97]) h1 hl
  have ht : tokens (leftS l k) = ⟨3, [97], 0⟩ :: toksI (leftS l k) 1 := t0
  rw [parse_eq, ht, Y_eq, hn1, bare_at (by decide) hn2, ← hn1]
  simp only []
  rw [he1]
  simp only [he2, if_true]
  rw [leftQ_eq]
theorem leftS_len (l : List UInt8) : ∀ k, (leftS l k).length ≤ 1 + 6 * k
  | 0 => Nat.le_refl _
  | k + 1 => by
    have := leftS_len l k
    have hw : (word (opk l k)).length ≤ 3 := by unfold word; split <;> (try split) <;> simp
    simp [leftS, seg]; omega
theorem leftQ_size (l : List UInt8) : ∀ k, (leftQ l k).size = 2 * k
  | 0 => rfl
  | k + 1 => by rw [leftQ, two_size, leftQ_size l k]; simp [bareQ, Qn.size, Qs.size]; omega
end Cq
