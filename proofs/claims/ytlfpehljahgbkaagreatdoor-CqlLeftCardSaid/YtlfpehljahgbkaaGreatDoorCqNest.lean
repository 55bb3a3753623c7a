/-
  Parentheses in parentheses: the texts of the law CqlDeep. Own text. Conditions: none.
-/
import Derived.Test.YtlfpehljahgbkaaGreatDoorCqWide
namespace Cq
def nest (n : Nat) : List UInt8 := List.replicate n 40 ++ ([99, 97, 116] ++ List.replicate n 41)
def xors : Nat → List UInt8
  | 0 => []
  | m + 1 => [40, 120, 32, 111, 114, 32] ++ xors m
def nests (m : Nat) : List UInt8 := [97, 32, 97, 110, 100, 32] ++ (xors m ++ ([121] ++ List.replicate m 41))
/-! ### The tokens -/
def lps (i : Nat) : Nat → List Tok
  | 0 => []
  | n + 1 => ⟨1, [40], i⟩ :: lps (i + 1) n
def rps (i : Nat) : Nat → List Tok
  | 0 => []
  | n + 1 => ⟨1, [41], i⟩ :: rps (i + 1) n
def xos (i : Nat) : Nat → List Tok
  | 0 => []
  | n + 1 => ⟨1, [40], i⟩ :: ⟨3, [120], i + 1⟩ :: ⟨3, [111, 114], i + 3⟩ :: xos (i + 6) n
theorem toks_lps {s : List UInt8} : ∀ (n : Nat) {i : Nat} {rest : List UInt8}, s.drop i = List.replicate n 40 ++ rest → toksI s i = lps i n ++ toksI s (i + n) ∧ s.drop (i + n) = rest
  | 0, _, _, h => ⟨rfl, h⟩
  | n + 1, i, rest, h => by
    have h' : s.drop i = 40 :: (List.replicate n 40 ++ rest) := h
    have t := toks_tok h' (by decide) (head_sign _ i (.inr (.inl rfl))) rfl
    have h2 : s.drop (i + 1) = List.replicate n 40 ++ rest := by rw [← List.drop_drop, h']; rfl
    obtain ⟨a, b⟩ := toks_lps n h2
    rw [t, a]
    have e : i + 1 + n = i + (n + 1) := by omega
    rw [e] at b ⊢
    exact ⟨rfl, b⟩
theorem toks_rps {s : List UInt8} : ∀ (n : Nat) {i : Nat}, s.drop i = List.replicate n 41 → i + n = s.length → toksI s i = rps i n ++ [⟨0, [], s.length⟩]
  | 0, i, _, hl => by
    have : i = s.length := hl
    rw [this, toks_end]; rfl
  | n + 1, i, h, hl => by
    have h' : s.drop i = 41 :: List.replicate n 41 := h
    have t := toks_tok h' (by decide) (head_sign _ i (.inr (.inr rfl))) rfl
    have h2 : s.drop (i + 1) = List.replicate n 41 := by rw [← List.drop_drop, h']; rfl
    rw [t, toks_rps n h2 (by omega)]; rfl
theorem toks_xos {s : List UInt8} : ∀ (n : Nat) {i : Nat} {rest : List UInt8}, s.drop i = xors n ++ rest → toksI s i = xos i n ++ toksI s (i + 6 * n) ∧ s.drop (i + 6 * n) = rest
  | 0, _, _, h => ⟨rfl, h⟩
  | n + 1, i, rest, h => by
    have h0 : s.drop i = 40 :: ([120] ++ 32 :: ([111, 114] ++ 32 :: (xors n ++ rest))) := h
    have t0 := toks_tok h0 (by decide) (head_sign _ i (.inr (.inl rfl))) rfl
    have h1 : s.drop (i + 1) = [120] ++ 32 :: ([111, 114] ++ 32 :: (xors n ++ rest)) := by rw [← List.drop_drop, h0]; rfl
    have t1 : toksI s (i + 1) = ⟨3, [120], i + 1⟩ :: toksI s (i + 2) := toks_word (by decide) (by decide) (by intro x hx; cases hx; decide) h1
    have h2 : s.drop (i + 2) = 32 :: ([111, 114] ++ 32 :: (xors n ++ rest)) := drop_past h1
    have t2 : toksI s (i + 2) = toksI s (i + 3) := toks_blank h2 (by decide)
    have h3 : s.drop (i + 3) = [111, 114] ++ 32 :: (xors n ++ rest) := by rw [show i + 3 = i + 2 + 1 from rfl, ← List.drop_drop, h2]; rfl
    have t3 : toksI s (i + 3) = ⟨3, [111, 114], i + 3⟩ :: toksI s (i + 5) := toks_word (by decide) (by decide) (by intro x hx; cases hx; decide) h3
    have h4 : s.drop (i + 5) = 32 :: (xors n ++ rest) := drop_past h3
    have t4 : toksI s (i + 5) = toksI s (i + 6) := toks_blank h4 (by decide)
    have h5 : s.drop (i + 6) = xors n ++ rest := by rw [show i + 6 = i + 5 + 1 from rfl, ← List.drop_drop, h4]; rfl
    obtain ⟨a, b⟩ := toks_xos n h5
    have e : i + 6 + 6 * n = i + 6 * (n + 1) := by omega
    rw [e] at a b
    refine ⟨?_, b⟩
    rw [t0, t1, t2, t3, t4, a]; rfl
theorem rps_snoc : ∀ (n j : Nat), rps j (n + 1) = rps j n ++ [⟨1, [41], j + n⟩]
  | 0, _ => rfl
  | n + 1, j => by
    have ih := rps_snoc n (j + 1)
    rw [rps, ih]
    have e : j + 1 + n = j + (n + 1) := by omega
    rw [e]; rfl
/-! ### How they are read -/
def bareQ (w : List UInt8) : Qn := ⟨1, [97, 110, 121], [61], w, .nil⟩
theorem bare_at {w : List UInt8} {p deep : Nat} {t2 : Tok} {ts : List Tok} (h : isTerm ⟨3, w, 0⟩ = true) (h2 : relation t2 = false) : C deep (⟨3, w, p⟩ :: t2 :: ts) = .ok (bareQ w) (t2 :: ts) :=
  C_bare (by simp [lp]) (show isTerm ⟨3, w, 0⟩ = true from h) (.inr h2)
theorem C_nest : ∀ (k deep i j p : Nat) (t2 : Tok) (ts : List Tok), relation t2 = false → deep + k ≤ 50 → C deep (lps i k ++ ⟨3, [99, 97, 116], p⟩ :: (rps j k ++ t2 :: ts)) = .ok (bareQ [99, 97, 116]) (t2 :: ts)
  | 0, deep, i, j, p, t2, ts, h, _ => bare_at (by decide) h
  | k + 1, deep, i, j, p, t2, ts, h, hd => by
    have ih := C_nest k (deep + 1) (i + 1) j p ⟨1, [41], j + k⟩ (t2 :: ts) (show relation ⟨1, [41], 0⟩ = false by decide) (by omega)
    have hy : Y (deep + 1) (lps (i + 1) k ++ ⟨3, [99, 97, 116], p⟩ :: (rps j k ++ ⟨1, [41], j + k⟩ :: t2 :: ts)) = .ok (bareQ [99, 97, 116]) (⟨1, [41], j + k⟩ :: t2 :: ts) := by
      rw [Y_eq, ih]; exact M_end (by simp [operator])
    have := C_paren (deep := deep) (t := ⟨1, [40], i⟩) (by simp [lp]) (by omega) hy (by simp [rp])
    rw [rps_snoc]
    simpa [lps] using this
theorem C_nestErr : ∀ (k deep i : Nat) (ts : List Tok), deep ≤ 50 → 50 < deep + k → C deep (lps i k ++ ts) = .err (i + (50 - deep)) 41
  | 0, deep, i, ts, h, hd => by omega
  | k + 1, deep, i, ts, h, hd => by
    by_cases he : deep = 50
    · subst he
      exact C_deep (by simp [lp]) (by omega)
    · have ih := C_nestErr k (deep + 1) (i + 1) ts (by omega) (by omega)
      have hy : Y (deep + 1) (lps (i + 1) k ++ ts) = .err (i + 1 + (50 - (deep + 1))) 41 := by rw [Y_eq, ih]
      have := C_parenErr (deep := deep) (t := ⟨1, [40], i⟩) (by simp [lp]) (by omega) hy
      have e : i + 1 + (50 - (deep + 1)) = i + (50 - deep) := by omega
      rw [e] at this
      exact this
theorem C_xos : ∀ (k deep i j p : Nat) (t2 : Tok) (ts : List Tok), relation t2 = false → deep + k ≤ 50 → ∃ q, C deep (xos i k ++ ⟨3, [121], p⟩ :: (rps j k ++ t2 :: ts)) = .ok q (t2 :: ts)
  | 0, deep, i, j, p, t2, ts, h, _ => ⟨_, bare_at (by decide) h⟩
  | k + 1, deep, i, j, p, t2, ts, h, hd => by
    obtain ⟨q, ih⟩ := C_xos k (deep + 1) (i + 6) j p ⟨1, [41], j + k⟩ (t2 :: ts) (show relation ⟨1, [41], 0⟩ = false by decide) (by omega)
    have hb := bare_at (w := [120]) (p := i + 1) (deep := deep + 1) (t2 := ⟨3, [111, 114], i + 3⟩) (ts := xos (i + 6) k ++ ⟨3, [121], p⟩ :: (rps j k ++ ⟨1, [41], j + k⟩ :: t2 :: ts)) (by decide) (show relation ⟨3, [111, 114], 0⟩ = false by decide)
    have hop : operator ⟨3, [111, 114], i + 3⟩ ≠ 0 := (show operator ⟨3, [111, 114], 0⟩ ≠ 0 by decide)
    have hy : Y (deep + 1) (⟨3, [120], i + 1⟩ :: ⟨3, [111, 114], i + 3⟩ :: (xos (i + 6) k ++ ⟨3, [121], p⟩ :: (rps j k ++ ⟨1, [41], j + k⟩ :: t2 :: ts))) = .ok (two (operator ⟨3, [111, 114], i + 3⟩) (bareQ [120]) q) (⟨1, [41], j + k⟩ :: t2 :: ts) := by
      rw [Y_eq, hb]
      simp only []
      rw [M_step hop, ih]
      exact M_end (by simp [operator])
    have := C_paren (deep := deep) (t := ⟨1, [40], i⟩) (by simp [lp]) (by omega) hy (by simp [rp])
    exact ⟨two (operator ⟨3, [111, 114], i + 3⟩) (bareQ [120]) q, by rw [rps_snoc]; simpa [xos] using this⟩
theorem C_xosErr : ∀ (k deep i : Nat) (ts : List Tok), deep ≤ 50 → 50 < deep + k → C deep (xos i k ++ ts) = .err (i + 6 * (50 - deep)) 41
  | 0, deep, i, ts, h, hd => by omega
  | k + 1, deep, i, ts, h, hd => by
    by_cases he : deep = 50
    · subst he
      exact C_deep (by simp [lp]) (by omega)
    · have ih := C_xosErr k (deep + 1) (i + 6) ts (by omega) (by omega)
      have hb := bare_at (w := [120]) (p := i + 1) (deep := deep + 1) (t2 := ⟨3, [111, 114], i + 3⟩) (ts := xos (i + 6) k ++ ts) (by decide) (show relation ⟨3, [111, 114], 0⟩ = false by decide)
      have hop : operator ⟨3, [111, 114], i + 3⟩ ≠ 0 := (show operator ⟨3, [111, 114], 0⟩ ≠ 0 by decide)
      have hy : Y (deep + 1) (⟨3, [120], i + 1⟩ :: ⟨3, [111, 114], i + 3⟩ :: (xos (i + 6) k ++ ts)) = .err (i + 6 + 6 * (50 - (deep + 1))) 41 := by
        rw [Y_eq, hb]
        simp only []
        rw [M_step hop, ih]
      have := C_parenErr (deep := deep) (t := ⟨1, [40], i⟩) (by simp [lp]) (by omega) hy
      have e : i + 6 + 6 * (50 - (deep + 1)) = i + 6 * (50 - deep) := by omega
      rw [e] at this
      exact this
theorem nest_parse (n : Nat) : parse (nest n) = if 50 < n then (zero, 50, 41) else (bareQ [99, 97, 116], 0, 0) := by
  have e0 : (nest n).drop 0 = List.replicate n 40 ++ ([99, 97, 116] ++ List.replicate n 41) := rfl
  obtain ⟨a, b⟩ := toks_lps n e0
  have hr : ∀ x, (List.replicate n (41 : UInt8)).head? = some x → plain x = false := by
    intro x hx
    cases n with
    | zero => cases hx
    | succ n => cases hx; decide
  have c := toks_word (by decide) (by decide) hr b
  have d := drop_past b
  have hlen : 0 + n + [99, 97, 116].length + n = (nest n).length := by simp [nest]; omega
  have e := toks_rps n d hlen
  have ht : tokens (nest n) = lps 0 n ++ (⟨3, [99, 97, 116], 0 + n⟩ :: (rps (0 + n + [99, 97, 116].length) n ++ ⟨0, [], (nest n).length⟩ :: [])) := by
    show toksI (nest n) 0 = _
    rw [a, c, e]; rfl
  rw [parse_eq, ht, Y_eq]
  by_cases h : 50 < n
  · rw [if_pos h, C_nestErr n 0 0 _ (by omega) (by omega)]
  · rw [if_neg h, C_nest n 0 0 _ _ _ [] (by simp [relation]) (by omega)]
    simp only []
    rw [M_end (by simp [operator])]; rfl
theorem nests_parse (n : Nat) : (parse (nests n)).2 = if 50 < n then (306, 41) else (0, 0) := by
  have e0 : (nests n).drop 0 = [97] ++ 32 :: ([97, 110, 100] ++ 32 :: (xors n ++ ([121] ++ List.replicate n 41))) := rfl
  have t0 := toks_word (by decide) (by decide) (by intro x hx; cases hx; decide) e0
  have e1 := drop_past e0
  have t1 := toks_blank e1 (by decide)
  have e2 : (nests n).drop 2 = [97, 110, 100] ++ 32 :: (xors n ++ ([121] ++ List.replicate n 41)) := rfl
  have t2 := toks_word (by decide) (by decide) (by intro x hx; cases hx; decide) e2
  have e3 := drop_past e2
  have t3 := toks_blank e3 (by decide)
  have e4 : (nests n).drop 6 = xors n ++ ([121] ++ List.replicate n 41) := rfl
  obtain ⟨a, b⟩ := toks_xos n e4
  have hr : ∀ x, (List.replicate n (41 : UInt8)).head? = some x → plain x = false := by
    intro x hx
    cases n with
    | zero => cases hx
    | succ n => cases hx; decide
  have c := toks_word (by decide) (by decide) hr b
  have d := drop_past b
  have hxl : ∀ m, (xors m).length = 6 * m := by
    intro m
    induction m with
    | zero => rfl
    | succ m ih => simp [xors, ih]; omega
  have hlen : 6 + 6 * n + [121].length + n = (nests n).length := by simp [nests, hxl]; omega
  have e := toks_rps n d hlen
  have ht : tokens (nests n) = ⟨3, [97], 0⟩ :: ⟨3, [97, 110, 100], 2⟩ :: (xos 6 n ++ (⟨3, [121], 6 + 6 * n⟩ :: (rps (6 + 6 * n + [121].length) n ++ ⟨0, [], (nests n).length⟩ :: []))) := by
    show toksI (nests n) 0 = _
    have t0' : toksI (nests n) 0 = ⟨3, [97], 0⟩ :: toksI (nests n) 1 := t0
    have t1' : toksI (nests n) 1 = toksI (nests n) 2 := t1
    have t2' : toksI (nests n) 2 = ⟨3, [97, 110, 100], 2⟩ :: toksI (nests n) 5 := t2
    have t3' : toksI (nests n) 5 = toksI (nests n) 6 := t3
    rw [t0', t1', t2', t3', a, c, e]; rfl
  have hb := bare_at (w := [97]) (p := 0) (deep := 0) (t2 := ⟨3, [97, 110, 100], 2⟩) (ts := xos 6 n ++ (⟨3, [121], 6 + 6 * n⟩ :: (rps (6 + 6 * n + [121].length) n ++ ⟨0, [], (nests n).length⟩ :: []))) (by decide) (by decide)
  have hop : operator ⟨3, [97, 110, 100], 2⟩ ≠ 0 := by decide
  rw [parse_eq, ht, Y_eq, hb]
  simp only []
  rw [M_step hop]
  by_cases h : 50 < n
  · rw [if_pos h, C_xosErr n 0 6 _ (by omega) (by omega)]
  · obtain ⟨q, hq⟩ := C_xos n 0 6 (6 + 6 * n + [121].length) (6 + 6 * n) ⟨0, [], (nests n).length⟩ [] (by simp [relation]) (by omega)
    rw [if_neg h, hq]
    simp only []
    rw [M_end (by simp [operator])]; rfl
theorem xors_snoc : ∀ m, xors m ++ [40, 120, 32, 111, 114, 32] = xors (m + 1)
  | 0 => rfl
  | m + 1 => by
    have ih := xors_snoc m
    show [40, 120, 32, 111, 114, 32] ++ (xors m ++ [40, 120, 32, 111, 114, 32]) = _
    rw [ih]; rfl
theorem xors_len : ∀ m, (xors m).length = 6 * m
  | 0 => rfl
  | m + 1 => by simp [xors, xors_len m]; omega
end Cq
