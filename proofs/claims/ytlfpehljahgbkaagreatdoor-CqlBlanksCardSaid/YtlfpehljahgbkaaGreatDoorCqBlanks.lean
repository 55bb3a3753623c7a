/-
  The two texts of the law CqlBlanks: their tokens, and what they are read as. Own text. Conditions: none.
-/
import Derived.Test.YtlfpehljahgbkaaGreatDoorCqBlank
import Derived.Test.YtlfpehljahgbkaaGreatDoorCqAid
namespace Cq
def signs : List (List UInt8) := [[40], [41], [61], [60], [61, 61], [62, 61]]
def Fine (t : Tok) : Prop := (t.kind = 0 ∧ t.text = []) ∨ (t.kind = 1 ∧ t.text ∈ signs) ∨ t.kind = 2 ∨ (t.kind = 3 ∧ t.text ≠ [] ∧ ∀ x ∈ t.text, plain x = true) ∨ (t.kind = 4 ∧ t.text = [])
def Shp : List Tok → Prop
  | [] => False
  | t :: r => Fine t ∧ if over t then r = [] else Shp r
theorem byte_cases (c : UInt8) : blank c = true ∨ plain c = true ∨ c = 40 ∨ c = 41 ∨ c = 34 ∨ c = 61 ∨ c = 60 ∨ c = 62 :=
  byte_all (p := fun c => blank c = true ∨ plain c = true ∨ c = 40 ∨ c = 41 ∨ c = 34 ∨ c = 61 ∨ c = 60 ∨ c = 62) (by decide +kernel) c
theorem quoted_le : ∀ (n : Nat) (r : List UInt8) (p : List UInt8 × Nat), r.length ≤ n → quoted r = some p → p.1.length ≤ p.2
  | _, [], p, _, h => by rw [quoted_nil] at h; cases h
  | 0, _ :: _, _, hn, _ => by simp at hn
  | n + 1, c :: r, p, hn, h => by
    by_cases h34 : c = 34
    · subst h34; rw [quoted_end] at h; cases h; simp
    · by_cases h92 : c = 92
      · subst h92
        cases r with
        | nil => rw [quoted_bare] at h; cases h
        | cons d r' =>
          rw [quoted_esc] at h
          cases hq : quoted r' with
          | none => rw [hq] at h; cases h
          | some q =>
            rw [hq] at h; cases h
            have := quoted_le n r' q (by simp at hn; omega) hq
            simp; omega
      · rw [quoted_byte c r h34 h92] at h
        cases hq : quoted r with
        | none => rw [hq] at h; cases h
        | some q =>
          rw [hq] at h; cases h
          have := quoted_le n r q (by simp at hn; omega) hq
          simp; omega
theorem head_fine (rest : List UInt8) (j : Nat) (h : ∀ x, rest.head? = some x → blank x = false) : Fine (head rest j).1 ∧ (head rest j).1.text.length ≤ (head rest j).2 := by
  cases rest with
  | nil => exact ⟨.inl ⟨rfl, rfl⟩, Nat.le_refl _⟩
  | cons c r =>
    have hb := h c rfl
    unfold head
    by_cases h34 : c = 34
    · simp only [h34, if_true]
      cases hq : quoted r with
      | none => exact ⟨.inr (.inr (.inr (.inr ⟨rfl, rfl⟩))), Nat.zero_le _⟩
      | some q =>
        refine ⟨.inr (.inr (.inl rfl)), ?_⟩
        have := quoted_le _ r q (Nat.le_refl _) hq
        show q.1.length ≤ q.2 + 1
        omega
    · simp only [h34, if_false]
      split
      · exact ⟨.inr (.inl ⟨rfl, (by decide : ([61, 61] : List UInt8) ∈ signs)⟩), Nat.le_refl _⟩
      · split
        · exact ⟨.inr (.inl ⟨rfl, (by decide : ([62, 61] : List UInt8) ∈ signs)⟩), Nat.le_refl _⟩
        · split
          · exact ⟨.inr (.inr (.inr (.inr ⟨rfl, rfl⟩))), Nat.zero_le _⟩
          · split
            · rename_i hp
              refine ⟨.inr (.inr (.inr (.inl ⟨rfl, by simp [hp], fun x hx => ?_⟩))), Nat.le_refl _⟩
              exact List.all_eq_true.1 List.all_takeWhile x hx
            · rename_i h62 hp
              refine ⟨.inr (.inl ⟨rfl, ?_⟩), Nat.le_refl _⟩
              rcases byte_cases c with h1 | h1 | rfl | rfl | rfl | rfl | rfl | rfl
              · rw [hb] at h1; cases h1
              · exact absurd h1 hp
              · exact (by decide : ([40] : List UInt8) ∈ signs)
              · exact (by decide : ([41] : List UInt8) ∈ signs)
              · exact absurd rfl h34
              · exact (by decide : ([61] : List UInt8) ∈ signs)
              · exact (by decide : ([60] : List UInt8) ∈ signs)
              · exact absurd rfl h62
theorem skip_drop (s : List UInt8) (i : Nat) : ∀ x, (s.drop (skip s i)).head? = some x → blank x = false := by
  intro x hx
  have e : s.drop (skip s i) = (s.drop i).dropWhile blank := by
    unfold skip
    rw [← List.drop_drop]
    have := List.takeWhile_append_dropWhile (p := blank) (l := s.drop i)
    conv => lhs; arg 2; rw [← this]
    rw [List.drop_left]
  rw [e] at hx
  have := List.head?_dropWhile_not blank (s.drop i)
  rw [hx] at this
  simpa using this
def tl : List Tok → Nat
  | [] => 0
  | t :: r => t.text.length + tl r
theorem shp_toks (s : List UInt8) : ∀ (n i : Nat), i ≤ s.length → s.length - i ≤ n → Shp (toksI s i) ∧ tl (toksI s i) + i ≤ s.length
  | n, i, hi, hn => by
    have hs := skip_le s i hi
    have hf := head_fine (s.drop (skip s i)) (skip s i) (skip_drop s i)
    have e1 : (lex s i).1 = (head (s.drop (skip s i)) (skip s i)).1 := rfl
    have e2 : (lex s i).2 = skip s i + (head (s.drop (skip s i)) (skip s i)).2 := rfl
    rw [toksI_eq s i hi]
    cases ho : over (lex s i).1 with
    | true =>
      rw [if_pos rfl]
      refine ⟨⟨e1 ▸ hf.1, by rw [ho]; rfl⟩, ?_⟩
      have : (lex s i).1.text = [] := by
        have hfi : Fine (lex s i).1 := e1 ▸ hf.1
        rcases hfi with h | h | h | h | h
        · exact h.2
        · simp [over, h.1] at ho
        · simp [over, h] at ho
        · simp [over, h.1] at ho
        · exact h.2
      simp only [tl, this, List.length_nil]; omega
    | false =>
      have hl := lex_len s i hi ho
      rw [if_neg (by simp)]
      cases n with
      | zero => omega
      | succ n =>
        obtain ⟨g1, g2⟩ := shp_toks s n (lex s i).2 hl.2 (by omega)
        refine ⟨⟨e1 ▸ hf.1, by rw [ho]; exact g1⟩, ?_⟩
        have h2 := hf.2
        rw [← e1] at h2
        simp only [tl]; omega
/-! ### The texts -/
def xof (t : Tok) : List UInt8 := if t.kind = 4 then [62] else if t.kind = 2 then text t.text else t.text
def big (large : Bool) (t : Tok) : Bool := t.kind == 3 && large && small t.text != [99, 97, 116] && small t.text != [99, 111, 108, 111, 114]
def yof (large : Bool) (t : Tok) : List UInt8 := if big large t then upper t.text else xof t
def sx : List Tok → List UInt8
  | [] => []
  | t :: r => xof t ++ 32 :: sx r
def ux (g : Nat → List UInt8) (large : Bool) : List Tok → Nat → List UInt8
  | [], _ => []
  | t :: r, i => g i ++ (yof large t ++ ux g large r (i + 1))
def lay (g : Nat → List UInt8) (large : Bool) : List Tok → Nat → Nat → Nat → List (Tok × Tok)
  | [], _, _, _ => []
  | t :: r, i, p, q => (⟨t.kind, t.text, if t.kind = 0 then p + 1 else p⟩, ⟨t.kind, if big large t then upper t.text else t.text, q + (g i).length⟩) :: lay g large r (i + 1) (p + (xof t).length + 1) (q + (g i).length + (yof large t).length)
theorem big_3 {large : Bool} {t : Tok} (h : big large t = true) : t.kind = 3 := by
  unfold big at h; simp only [Bool.and_eq_true, beq_iff_eq] at h; exact h.1.1.1
theorem big_not {large : Bool} {t : Tok} (h : t.kind ≠ 3) : big large t = false := by
  cases hb : big large t with
  | false => rfl
  | true => exact absurd (big_3 hb) h
theorem lay_PR {g : Nat → List UInt8} {large : Bool} : ∀ (T : List Tok) {i p q : Nat}, ∀ x ∈ lay g large T i p q, PR x
  | [], _, _, _, x, h => by cases h
  | t :: r, i, p, q, x, h => by
    simp only [lay, List.mem_cons] at h
    rcases h with rfl | h
    · refine ⟨rfl, ?_, fun hk => ?_⟩
      · simp only []; split
        · rw [small_upper]
        · rfl
      · simp only [big_not (large := large) (t := t) hk, Bool.false_eq_true, if_false]
    · exact lay_PR r x h
theorem toks_over {s : List UInt8} {i n : Nat} {c : UInt8} {r : List UInt8} {t : Tok} (h : s.drop i = c :: r) (hb : blank c = false) (hh : head (c :: r) i = (t, n)) (ho : over t = true) : toksI s i = [t] := by
  have hlt := lt_drop h
  have hr : r = s.drop (i + 1) := by rw [← List.drop_drop, h]; rfl
  rw [toksI_eq s i (by omega), lex_at (get_drop h) hb, ← hr, hh]
  simp [ho]
theorem toks_sign {s w rest : List UInt8} {i : Nat} (hw : w ∈ signs) (hr : rest.head? ≠ some 61) (h : s.drop i = w ++ rest) : toksI s i = ⟨1, w, i⟩ :: toksI s (i + w.length) := by
  simp only [signs, List.mem_cons, List.not_mem_nil, or_false] at hw
  rcases hw with rfl | rfl | rfl | rfl | rfl | rfl
  · exact toks_tok h (by decide) (head_sign _ i (.inr (.inl rfl))) rfl
  · exact toks_tok h (by decide) (head_sign _ i (.inr (.inr rfl))) rfl
  · exact toks_tok h (by decide) (head_eq1 i hr) rfl
  · exact toks_tok h (by decide) (head_sign _ i (.inl rfl)) rfl
  · exact toks_tok h (by decide) (head_eq2 _ i) rfl
  · exact toks_tok h (by decide) (head_ge2 _ i) rfl
theorem toks_blanks {s : List UInt8} : ∀ (w : List UInt8) {rest : List UInt8} {i : Nat}, (∀ x ∈ w, blank x = true) → s.drop i = w ++ rest → toksI s i = toksI s (i + w.length)
  | [], _, _, _, _ => rfl
  | c :: w, rest, i, hw, h => by
    have h0 : s.drop i = c :: (w ++ rest) := h
    have h1 : s.drop (i + 1) = w ++ rest := by rw [← List.drop_drop, h0]; rfl
    rw [toks_blank h0 (hw c (.head _)), toks_blanks w (fun x hx => hw x (.tail _ hx)) h1]
    congr 1
    simp only [List.length_cons]; omega
/-- A token that is not the last one, before what no word and no sign goes on with. -/
theorem toks_x {s rest : List UInt8} {i : Nat} {t : Tok} {large : Bool} (hf : Fine t) (ho : over t = false) (hr : ∀ x, rest.head? = some x → blank x = true) (h : s.drop i = (if big large t then upper t.text else xof t) ++ rest) :
    toksI s i = ⟨t.kind, if big large t then upper t.text else t.text, i⟩ :: toksI s (i + (if big large t then upper t.text else xof t).length) := by
  have h61 : rest.head? ≠ some 61 := fun h' => blank_61 (hr _ h') rfl
  have hpl : ∀ x, rest.head? = some x → plain x = false := fun x hx => plain_not_blank (hr x hx)
  rcases hf with ⟨k, _⟩ | ⟨k, w⟩ | k | ⟨k, n, w⟩ | ⟨k, _⟩
  · simp [over, k] at ho
  · have hb := big_not (large := large) (t := t) (by omega)
    have hx : xof t = t.text := by simp [xof, k]
    rw [hb] at h ⊢
    simp only [Bool.false_eq_true, if_false, hx] at h ⊢
    rw [toks_sign w h61 h, k]
  · have hb := big_not (large := large) (t := t) (by omega)
    have hx : xof t = text t.text := by simp [xof, k]
    rw [hb] at h ⊢
    simp only [Bool.false_eq_true, if_false, hx] at h ⊢
    rw [toks_text h, k]
  · have hx : xof t = t.text := by simp [xof, k]
    rw [hx] at h ⊢
    cases hb : big large t with
    | false =>
      rw [hb] at h
      simp only [Bool.false_eq_true, if_false] at h ⊢
      rw [toks_word n w hpl h, k]
    | true =>
      rw [hb] at h
      simp only [if_true] at h ⊢
      rw [toks_word (by simpa [upper] using n) (fun x hx => by
        simp only [upper, List.mem_map] at hx
        obtain ⟨y, hy, rfl⟩ := hx
        rw [upc_plain]; exact w y hy) hpl h, k]
  · simp [over, k] at ho
theorem toks_sx {g : Nat → List UInt8} {large : Bool} {s : List UInt8} : ∀ (T : List Tok) {i p q : Nat}, Shp T → s.drop p = sx T → toksI s p = (lay g large T i p q).map (·.1)
  | [], _, _, _, h, _ => h.elim
  | t :: r, i, p, q, ⟨hf, hr⟩, h => by
    cases ho : over t with
    | true =>
      rw [ho] at hr
      obtain rfl : r = [] := hr
      have hk : t.kind = 0 ∨ t.kind = 4 := by simpa [over] using ho
      rcases hk with hk | hk
      · have hx : t.text = [] := by rcases hf with h | h | h | h | h <;> first | exact h.2 | omega
        have h0 : s.drop p = [32] := by rw [h]; simp [sx, xof, hk, hx]
        have hl : p + 1 = s.length := by have := congrArg List.length h0; simp at this; omega
        rw [toks_blank h0 (by decide), hl, toks_end]
        simp [lay, hk, hx, hl]
      · have hx : t.text = [] := by rcases hf with h | h | h | h | h <;> first | exact h.2 | omega
        have h0 : s.drop p = 62 :: [32] := by rw [h]; simp [sx, xof, hk]
        rw [toks_over h0 (by decide) (t := ⟨4, [], p⟩) (n := 0) (by unfold head; simp) rfl]
        simp [lay, hk, hx]
    | false =>
      rw [ho] at hr
      have hk : t.kind ≠ 0 := fun hk => by simp [over, hk] at ho
      have hb0 : big false t = false := by simp [big]
      have h0 : s.drop p = (if big false t then upper t.text else xof t) ++ (32 :: sx r) := by rw [h, hb0]; rfl
      have h1 := toks_x hf ho (by intro x hx; cases hx; decide) h0
      have h2 := drop_past h0
      rw [hb0] at h1 h2
      simp only [Bool.false_eq_true, if_false] at h1 h2
      have h3 : s.drop (p + (xof t).length + 1) = sx r := by rw [← List.drop_drop, h2]; rfl
      rw [h1, toks_blank h2 (by decide), toks_sx (g := g) (large := large) r (i := i + 1) (q := q + (g i).length + (yof large t).length) hr h3]
      simp [lay, hk]
theorem toks_ux {g : Nat → List UInt8} {large : Bool} (hg : ∀ i, g i ≠ [] ∧ ∀ x ∈ g i, blank x = true) {s : List UInt8} : ∀ (T : List Tok) {i p q : Nat}, Shp T → s.drop q = ux g large T i → toksI s q = (lay g large T i p q).map (·.2)
  | [], _, _, _, h, _ => h.elim
  | t :: r, i, p, q, ⟨hf, hr⟩, h => by
    have e0 : s.drop q = g i ++ (yof large t ++ ux g large r (i + 1)) := h
    have t0 := toks_blanks (g i) (hg i).2 e0
    have e1 := drop_past e0
    rw [t0]
    cases ho : over t with
    | true =>
      rw [ho] at hr
      obtain rfl : r = [] := hr
      have hk : t.kind = 0 ∨ t.kind = 4 := by simpa [over] using ho
      have hb : big large t = false := big_not (by omega)
      have hx : t.text = [] := by rcases hf with h | h | h | h | h <;> first | exact h.2 | omega
      rcases hk with hk | hk
      · have h0 : s.drop (q + (g i).length) = [] := by rw [e1]; simp [ux, yof, hb, xof, hk, hx]
        have hl : q + (g i).length = s.length := by
          have h1 := congrArg List.length h0
          have h2 := congrArg List.length e0
          have h3 := List.length_pos_iff.2 (hg i).1
          simp only [List.length_drop, List.length_nil, List.length_append] at h1 h2
          omega
        rw [hl, toks_end]
        simp [lay, hk, hx, hl, hb]
      · have h0 : s.drop (q + (g i).length) = 62 :: [] := by rw [e1]; simp [ux, yof, hb, xof, hk]
        rw [toks_over h0 (by decide) (t := ⟨4, [], q + (g i).length⟩) (n := 0) (by unfold head; simp) rfl]
        simp [lay, hk, hx, hb]
    | false =>
      rw [ho] at hr
      have hrb : ∀ x, (ux g large r (i + 1)).head? = some x → blank x = true := by
        intro x hx
        cases r with
        | nil => cases hx
        | cons t' r' =>
          have hne := (hg (i + 1)).1
          have hb := (hg (i + 1)).2
          simp only [ux] at hx
          cases hgi : g (i + 1) with
          | nil => exact absurd hgi hne
          | cons c w =>
            rw [hgi] at hx
            simp only [List.cons_append, List.head?_cons, Option.some.injEq] at hx
            subst hx
            exact hb c (by rw [hgi]; exact .head _)
      have h1 := toks_x (large := large) hf ho hrb e1
      have h2 := drop_past e1
      rw [h1]
      have h3 : toksI s (q + (g i).length + (if big large t then upper t.text else xof t).length) = _ := toks_ux hg r (i := i + 1) (p := p + (xof t).length + 1) hr h2
      rw [h3]
      rfl
theorem sx_app (a b : List Tok) : sx (a ++ b) = sx a ++ sx b := by
  induction a with
  | nil => rfl
  | cons t r ih => simp [sx, ih]
theorem ux_app (g : Nat → List UInt8) (large : Bool) : ∀ (a b : List Tok) (i : Nat), ux g large (a ++ b) i = ux g large a i ++ ux g large b (i + a.length)
  | [], b, i => by simp [ux]
  | t :: r, b, i => by
    have e : i + 1 + r.length = i + (r.length + 1) := by omega
    simp [ux, ux_app g large r b (i + 1), e]
theorem lay_at {g : Nat → List UInt8} {large : Bool} : ∀ (T : List Tok) {i p q : Nat} {x : Tok × Tok}, x ∈ lay g large T i p q → ∃ k t, T[k]? = some t ∧ (t.kind = 0 ∨ x.1.pos = p + (sx (T.take k)).length) ∧ x.2.pos = q + (ux g large (T.take k) i).length + (g (i + k)).length
  | [], _, _, _, _, h => by cases h
  | t :: r, i, p, q, x, h => by
    simp only [lay, List.mem_cons] at h
    rcases h with rfl | h
    · refine ⟨0, t, rfl, ?_, by simp [ux]⟩
      by_cases hk : t.kind = 0
      · exact .inl hk
      · exact .inr (by simp [hk, sx])
    · obtain ⟨k, t', h1, h2, h3⟩ := lay_at r h
      refine ⟨k + 1, t', by simpa using h1, h2.imp id fun h => ?_, ?_⟩
      · rw [h, List.take_succ_cons, sx]; simp; omega
      · have e : i + 1 + k = i + (k + 1) := by omega
        rw [h3, List.take_succ_cons, ux, e]; simp; omega
theorem sx_len (T : List Tok) : (sx T).length ≤ 2 * tl T + 3 * T.length := by
  induction T with
  | nil => simp [sx, tl]
  | cons t r ih =>
    have h := (escape_len t.text).2
    have hx : (xof t).length ≤ 2 * t.text.length + 2 := by
      unfold xof
      split
      · simp
      · split
        · simp only [text, List.length_append, List.length_cons, List.length_nil]; omega
        · omega
    simp only [sx, tl, List.length_append, List.length_cons]; omega
theorem ux_len {g : Nat → List UInt8} {large : Bool} (hg : ∀ i, (g i).length ≤ 3) : ∀ (T : List Tok) (i : Nat), (ux g large T i).length ≤ 2 * tl T + 5 * T.length
  | [], _ => by simp [ux, tl]
  | t :: r, i => by
    have ih := ux_len (large := large) hg r (i + 1)
    have h := (escape_len t.text).2
    have h3 := hg i
    have hx : (yof large t).length ≤ 2 * t.text.length + 2 := by
      unfold yof xof
      split
      · rw [upper_len]; omega
      · split
        · simp
        · split
          · simp only [text, List.length_append, List.length_cons, List.length_nil]; omega
          · omega
    simp only [ux, tl, List.length_append, List.length_cons]; omega
/-- What the law asks of the two readings. -/
theorem blanks_law {g : Nat → List UInt8} {large : Bool} (hg : ∀ i, g i ≠ [] ∧ ∀ x ∈ g i, blank x = true) {T : List Tok} (hT : Shp T) :
    (parse (sx T)).2.2 = (parse (ux g large T 0)).2.2 ∧ ((parse (sx T)).2.2 = 0 → small (write (parse (sx T)).1) = small (write (parse (ux g large T 0)).1)) ∧
    ((parse (sx T)).2.2 ≠ 0 → ∃ k t, T[k]? = some t ∧ (t.kind = 0 ∨ (parse (sx T)).2.1 = (sx (T.take k)).length) ∧ (parse (ux g large T 0)).2.1 = (ux g large (T.take k) 0).length + (g k).length) := by
  have t1 : tokens (sx T) = (lay g large T 0 0 0).map (·.1) := (toks_sx (g := g) (large := large) (s := sx T) (i := 0) (p := 0) (q := 0) T hT rfl : toksI (sx T) 0 = _)
  have t2 : tokens (ux g large T 0) = (lay g large T 0 0 0).map (·.2) := (toks_ux hg (s := ux g large T 0) (i := 0) (p := 0) (q := 0) T hT rfl : toksI (ux g large T 0) 0 = _)
  have hPR : ∀ x ∈ lay g large T 0 0 0, PR x := lay_PR T
  have hR : Rst (tokens (sx T)) := (toks_good (sx T) ((sx T).length + 1) 0 (by omega) (by omega)).1
  have place : ∀ x ∈ lay g large T 0 0 0, ∃ k t, T[k]? = some t ∧ (t.kind = 0 ∨ x.1.pos = (sx (T.take k)).length) ∧ x.2.pos = (ux g large (T.take k) 0).length + (g k).length := fun x hx => by
    obtain ⟨k, t, h1, h2, h3⟩ := lay_at T hx
    exact ⟨k, t, h1, h2.imp id fun h => by simpa using h, by simpa using h3⟩
  have hl : (lay g large T 0 0 0).length = (tokens (sx T)).length := by rw [t1]; simp
  have h := (pairs (2 * (lay g large T 0 0 0).length + 2)).2.1 0 _ hPR
  have hY1 : Y 0 (tokens (sx T)) = query (2 * (lay g large T 0 0 0).length + 2) 0 ((lay g large T 0 0 0).map (·.1)) := by rw [t1]; unfold Y; rw [List.length_map]
  have hY2 : Y 0 (tokens (ux g large T 0)) = query (2 * (lay g large T 0 0 0).length + 2) 0 ((lay g large T 0 0 0).map (·.2)) := by rw [t2]; unfold Y; rw [List.length_map]
  have hless := (less (2 * (lay g large T 0 0 0).length + 2)).2.1 0 _ hR
  rw [t1] at hless
  rw [parse_eq, parse_eq (ux g large T 0), hY1, hY2]
  cases ha : query (2 * (lay g large T 0 0 0).length + 2) 0 ((lay g large T 0 0 0).map (·.1)) with
  | err p e =>
    cases hb : query (2 * (lay g large T 0 0 0).length + 2) 0 ((lay g large T 0 0 0).map (·.2)) with
    | ok q r => rw [ha, hb] at h; exact h.elim
    | err p' e' =>
      rw [ha, hb] at h
      obtain ⟨rfl, h2⟩ := h
      refine ⟨rfl, fun _ => rfl, fun he => ?_⟩
      obtain ⟨x, hx, rfl, rfl⟩ := h2 he
      exact place x hx
  | ok q r =>
    cases hb : query (2 * (lay g large T 0 0 0).length + 2) 0 ((lay g large T 0 0 0).map (·.2)) with
    | err p' e' => rw [ha, hb] at h; exact h.elim
    | ok q' r' =>
      rw [ha] at hless
      rw [ha, hb] at h
      obtain ⟨hqq, Z2, rfl, rfl, h3⟩ := h
      cases Z2 with
      | nil => obtain ⟨t, r, he⟩ := hless.1.ne; cases he
      | cons x Z2 =>
        have hx := h3 x (.head _)
        simp only [List.map_cons]
        rw [← (hPR x hx).1]
        split
        · refine ⟨rfl, fun _ => ?_, fun he => absurd rfl he⟩
          show small (write q) = small (write q')
          rw [← write_sm q, hqq, write_sm q']
        · exact ⟨rfl, fun _ => rfl, fun _ => place x hx⟩
end Cq
namespace Cq
structure UInv (s : List UInt8) (k : Nat) (l : List UInt8) : Prop where
  le : k ≤ s.length
  eq : l = (s.take k).map upc ++ s.drop k
theorem UInv.len {s : List UInt8} {k : Nat} {l : List UInt8} (h : UInv s k l) : l.length = s.length := by
  have := h.le
  rw [h.eq]; simp; omega
theorem UInv.get {s : List UInt8} {k : Nat} {l : List UInt8} {c : UInt8} (h : UInv s k l) (hc : s[k]? = some c) : l[k]? = some c := by
  have := h.le
  rw [h.eq, List.getElem?_append_right (by simp; omega)]
  simp [Nat.min_eq_left h.le, hc]
theorem UInv.next {s : List UInt8} {k : Nat} {l : List UInt8} {c : UInt8} (h : UInv s k l) (hc : s[k]? = some c) : UInv s (k + 1) (l.set k (upc c)) := by
  obtain ⟨hlt, hg⟩ := List.getElem?_eq_some_iff.1 hc
  refine ⟨by omega, ?_⟩
  rw [h.eq, List.set_append_right _ _ (by simp; omega), List.take_succ_eq_append_getElem hlt, hg, drop_get hc]
  simp [Nat.min_eq_left h.le]
theorem UInv.same {s : List UInt8} {k : Nat} {l : List UInt8} {c : UInt8} (h : UInv s k l) (hc : s[k]? = some c) (hl : upc c = c) : UInv s (k + 1) l := by
  have := h.next hc
  rw [hl] at this
  rwa [show l.set k c = l from by
    apply List.ext_getElem?
    intro j
    rw [List.getElem?_set]
    split
    · rename_i hj; subst hj
      have := h.get hc
      split
      · exact this.symm
      · rename_i h'; simp [List.getElem?_eq_none (Nat.not_lt.1 h')] at this
    · rfl] at this
theorem UInv.done {s : List UInt8} {k : Nat} {l : List UInt8} (h : UInv s k l) (hk : s.length ≤ k) : l = upper s := by
  rw [h.eq, List.take_of_length_le hk, List.drop_eq_nil_of_le hk]; simp [upper]
theorem tl_take : ∀ (T : List Tok) (k : Nat), tl (T.take k) ≤ tl T
  | [], k => by simp
  | t :: r, 0 => by simp [tl]
  | t :: r, k + 1 => by have := tl_take r k; simp only [List.take_succ_cons, tl]; omega
theorem tl_get : ∀ {T : List Tok} {k : Nat} {t : Tok}, T[k]? = some t → t.text.length ≤ tl T
  | [], _, _, h => by simp at h
  | x :: r, 0, t, h => by simp at h; subst h; simp only [tl]; omega
  | x :: r, k + 1, t, h => by have := tl_get (T := r) (k := k) (by simpa using h); simp only [tl]; omega
theorem take_snoc {T : List Tok} {k : Nat} {t : Tok} (h : T[k]? = some t) : T.take (k + 1) = T.take k ++ [t] := by rw [List.take_add_one, h]; rfl
theorem sx_next {T : List Tok} {k : Nat} {t : Tok} (h : T[k]? = some t) : sx (T.take (k + 1)) = sx (T.take k) ++ (xof t ++ [32]) := by rw [take_snoc h, sx_app]; simp [sx]
theorem ux_next {g : Nat → List UInt8} {large : Bool} {T : List Tok} {k : Nat} {t : Tok} (h : T[k]? = some t) : ux g large (T.take (k + 1)) 0 = ux g large (T.take k) 0 ++ g k ++ yof large t := by
  have hk := (List.getElem?_eq_some_iff.1 h).1
  have hl : (T.take k).length = k := by simp; omega
  rw [take_snoc h, ux_app, hl]; simp [ux]
theorem xof_len (t : Tok) : (xof t).length ≤ 2 * t.text.length + 2 := by
  have h := (escape_len t.text).2
  unfold xof
  split
  · simp
  · split
    · simp only [text, List.length_append, List.length_cons, List.length_nil]; omega
    · omega
theorem yof_len (large : Bool) (t : Tok) : (yof large t).length ≤ 2 * t.text.length + 2 := by
  have h := xof_len t
  unfold yof
  split
  · rw [upper_len]; omega
  · exact h
def gaps4 : List (List UInt8) := [[32], [9, 32], [10, 13, 10], [32, 32, 32]]
def gapOf (lb : List UInt8) (k : Nat) : List UInt8 := if lb = [] then [32] else gaps4.getD ((lb.getD (k % lb.length) 0).toNat % 4) []
theorem gap_ok (lb : List UInt8) (k : Nat) : gapOf lb k ≠ [] ∧ ∀ x ∈ gapOf lb k, blank x = true := by
  unfold gapOf
  split
  · decide
  · have h : ∀ n < 4, gaps4.getD n [] ≠ [] ∧ ∀ x ∈ gaps4.getD n [], blank x = true := by decide
    exact h _ (Nat.mod_lt _ (by decide))
theorem gap_len (lb : List UInt8) (k : Nat) : (gapOf lb k).length ≤ 3 := by
  unfold gapOf
  split
  · decide
  · have h : ∀ n < 4, (gaps4.getD n []).length ≤ 3 := by decide
    exact h _ (Nat.mod_lt _ (by decide))
end Cq
namespace Go.Sx
open Cq
def offs (T : List Tok) : Nat → List Value
  | 0 => []
  | k + 1 => offs T k ++ [i64 ((sx (T.take k)).length : Nat)]
def movs (lb : List UInt8) (large : Bool) (T : List Tok) : Nat → List Value
  | 0 => []
  | k + 1 => movs lb large T k ++ [i64 ((ux (gapOf lb) large (T.take k) 0 ++ gapOf lb k).length : Nat)]
theorem offs_len (T : List Tok) : ∀ k, (offs T k).length = k
  | 0 => rfl
  | k + 1 => by simp [offs, offs_len T k]
theorem movs_len (lb : List UInt8) (large : Bool) (T : List Tok) : ∀ k, (movs lb large T k).length = k
  | 0 => rfl
  | k + 1 => by simp [movs, movs_len lb large T k]
theorem offs_get {T : List Tok} {sp : List Value} : ∀ {n k : Nat}, k < n → (offs T n ++ sp)[k]? = some (i64 ((sx (T.take k)).length : Nat))
  | n + 1, k, h => by
    rcases Nat.lt_succ_iff_lt_or_eq.1 h with h1 | rfl
    · have := offs_get (T := T) (sp := [i64 ((sx (T.take n)).length : Nat)] ++ sp) h1
      rw [offs, List.append_assoc]; exact this
    · rw [offs, List.append_assoc, List.getElem?_append_right (by rw [offs_len]; exact Nat.le_refl _), offs_len, Nat.sub_self]; rfl
theorem movs_get {lb : List UInt8} {large : Bool} {T : List Tok} {sp : List Value} : ∀ {n k : Nat}, k < n → (movs lb large T n ++ sp)[k]? = some (i64 ((ux (gapOf lb) large (T.take k) 0 ++ gapOf lb k).length : Nat))
  | n + 1, k, h => by
    rcases Nat.lt_succ_iff_lt_or_eq.1 h with h1 | rfl
    · have := movs_get (lb := lb) (large := large) (T := T) (sp := [i64 ((ux (gapOf lb) large (T.take n) 0 ++ gapOf lb n).length : Nat)] ++ sp) h1
      rw [movs, List.append_assoc]; exact this
    · rw [movs, List.append_assoc, List.getElem?_append_right (by rw [movs_len]; exact Nat.le_refl _), movs_len, Nat.sub_self]; rfl
section
variable {cx : Cx} {Q : Qt} {e : Env} {I : Heap}
theorem J.swapG {ops : Array Oper} {l : List Oper} {p : Nat × Obj} {A B : HL} (k : J cx Q ops l e I (p :: (B ++ A))) : J cx Q ops l e I (p :: (A ++ B)) := J.perm (List.Perm.cons p List.perm_append_comm) k
end
end Go.Sx
