/-
  Laws of the reading of queries: fuel plays no part; what is written is read back. Own text. Conditions: none.
-/
import Derived.Test.YtlfpehljahgbkaaGreatDoorCqSize
namespace Cq
/-! ### Fuel -/
def Fuel (n : Nat) : Prop :=
  (∀ f f' deep ts, List.length ts ≤ n → 2 * ts.length + 1 ≤ f → 2 * ts.length + 1 ≤ f' → clause f deep ts = clause f' deep ts) ∧
  (∀ f f' deep ts, List.length ts ≤ n → 2 * ts.length + 2 ≤ f → 2 * ts.length + 2 ≤ f' → query f deep ts = query f' deep ts) ∧
  ∀ f f' deep q ts, List.length ts ≤ n → 2 * ts.length + 1 ≤ f → 2 * ts.length + 1 ≤ f' → more f deep q ts = more f' deep q ts
theorem fuel (n : Nat) : Fuel n := by
  induction n using Nat.strongRecOn with
  | _ n ih =>
    have hc : ∀ f f' deep ts, List.length ts ≤ n → 2 * ts.length + 1 ≤ f → 2 * ts.length + 1 ≤ f' → clause f deep ts = clause f' deep ts := by
      intro f f' deep ts hl h1 h2
      obtain ⟨g, rfl⟩ : ∃ g, f = g + 1 := ⟨f - 1, by omega⟩
      obtain ⟨g', rfl⟩ : ∃ g', f' = g' + 1 := ⟨f' - 1, by omega⟩
      cases ts with
      | nil => simp only [clause]
      | cons t r =>
        simp only [List.length_cons] at hl h1 h2
        simp only [clause]
        rw [(ih r.length (by omega)).2.1 g g' (deep + 1) r (Nat.le_refl _) (by omega) (by omega)]
    refine ⟨hc, fun f f' deep ts hl h1 h2 => ?_, fun f f' deep q ts hl h1 h2 => ?_⟩
    · obtain ⟨g, rfl⟩ : ∃ g, f = g + 1 := ⟨f - 1, by omega⟩
      obtain ⟨g', rfl⟩ : ∃ g', f' = g' + 1 := ⟨f' - 1, by omega⟩
      simp only [query]
      rw [hc g g' deep ts hl (by omega) (by omega)]
      have hf := (fits g').1 deep ts
      cases hx : clause g' deep ts with
      | err p e => rfl
      | ok q ts2 =>
        rw [hx] at hf
        simp only [Fits] at hf
        exact (ih ts2.length (by omega)).2.2 g g' deep q ts2 (Nat.le_refl _) (by omega) (by omega)
    · obtain ⟨g, rfl⟩ : ∃ g, f = g + 1 := ⟨f - 1, by omega⟩
      obtain ⟨g', rfl⟩ : ∃ g', f' = g' + 1 := ⟨f' - 1, by omega⟩
      cases ts with
      | nil => simp only [more]
      | cons t r =>
        simp only [List.length_cons] at hl h1 h2
        simp only [more]
        split
        · rfl
        · rw [(ih r.length (by omega)).1 g g' deep r (Nat.le_refl _) (by omega) (by omega)]
          have hf := (fits g').1 deep r
          cases hx : clause g' deep r with
          | err p e => rfl
          | ok q2 ts2 =>
            rw [hx] at hf
            simp only [Fits] at hf
            exact (ih ts2.length (by omega)).2.2 g g' deep _ ts2 (Nat.le_refl _) (by omega) (by omega)
def C (deep : Nat) (ts : List Tok) : Res := clause (2 * ts.length + 1) deep ts
def Y (deep : Nat) (ts : List Tok) : Res := query (2 * ts.length + 2) deep ts
def M (deep : Nat) (q : Qn) (ts : List Tok) : Res := more (2 * ts.length + 1) deep q ts
theorem Y_eq (deep : Nat) (ts : List Tok) : Y deep ts = match C deep ts with | .err p e => .err p e | .ok q ts2 => M deep q ts2 := by
  unfold Y C
  simp only [query]
  have hf := (fits (2 * ts.length + 1)).1 deep ts
  cases hx : clause (2 * ts.length + 1) deep ts with
  | err p e => rfl
  | ok q ts2 =>
    rw [hx] at hf
    simp only [Fits] at hf
    exact (fuel ts2.length).2.2 _ _ deep q ts2 (Nat.le_refl _) (by omega) (Nat.le_refl _)
theorem C_cons (deep : Nat) (t : Tok) (r : List Tok) : C deep (t :: r) = clause ((2 * r.length + 2) + 1) deep (t :: r) := by
  unfold C
  have : 2 * (t :: r).length + 1 = 2 * r.length + 2 + 1 := by simp only [List.length_cons]; omega
  rw [this]
theorem C_deep {deep : Nat} {t : Tok} {r : List Tok} (h : lp t = true) (hd : 50 < deep + 1) : C deep (t :: r) = .err t.pos 41 := by
  rw [C_cons]; simp only [clause]; rw [if_pos h, if_pos hd]
theorem C_paren {deep : Nat} {t t2 : Tok} {r r2 : List Tok} {q : Qn} (h : lp t = true) (hd : deep + 1 ≤ 50) (hy : Y (deep + 1) r = .ok q (t2 :: r2)) (h2 : rp t2 = true) : C deep (t :: r) = .ok q r2 := by
  rw [C_cons]; simp only [clause]; rw [if_pos h, if_neg (by omega)]
  have hy' : query (2 * r.length + 2) (deep + 1) r = .ok q (t2 :: r2) := hy
  rw [hy']; simp only [h2, if_true]
theorem C_parenErr {deep : Nat} {t : Tok} {r : List Tok} {p e : Nat} (h : lp t = true) (hd : deep + 1 ≤ 50) (hy : Y (deep + 1) r = .err p e) : C deep (t :: r) = .err p e := by
  rw [C_cons]; simp only [clause]; rw [if_pos h, if_neg (by omega)]
  have hy' : query (2 * r.length + 2) (deep + 1) r = .err p e := hy
  rw [hy']
theorem C_term {deep : Nat} {t t2 t3 : Tok} {r : List Tok} (h : lp t = false) (ht : isTerm t = true) (hk : t.kind = 3) (h2 : relation t2 = true) (hi : indexes.contains (small t.text) = true) (h3 : isTerm t3 = true) :
    C deep (t :: t2 :: t3 :: r) = .ok ⟨1, small t.text, small t2.text, t3.text, .nil⟩ r := by
  have hk' : (t.kind == 3) = true := by simp [hk]
  rw [C_cons]; simp only [clause, h, ht, hk', Bool.false_eq_true, if_false, Bool.not_true, h2, if_true, hi, h3]
theorem C_bare {deep : Nat} {t t2 : Tok} {r : List Tok} (h : lp t = false) (ht : isTerm t = true) (h2 : t.kind ≠ 3 ∨ relation t2 = false) : C deep (t :: t2 :: r) = .ok ⟨1, [97, 110, 121], [61], t.text, .nil⟩ (t2 :: r) := by
  rw [C_cons]
  rcases h2 with h2 | h2
  · have : (t.kind == 3) = false := by simpa using h2
    simp only [clause, h, ht, this, Bool.false_eq_true, if_false, Bool.not_true]
  · cases hk : t.kind == 3 <;> simp only [clause, h, ht, hk, h2, Bool.false_eq_true, if_false, Bool.not_true]
theorem M_end {deep : Nat} {q : Qn} {t : Tok} {r : List Tok} (h : operator t = 0) : M deep q (t :: r) = .ok q (t :: r) := by
  unfold M
  have : 2 * (t :: r).length + 1 = 2 * r.length + 2 + 1 := by simp only [List.length_cons]; omega
  rw [this]; simp only [more]; rw [if_pos h]
theorem M_step {deep : Nat} {q : Qn} {t : Tok} {r : List Tok} (h : operator t ≠ 0) : M deep q (t :: r) = match C deep r with | .err p e => .err p e | .ok q2 ts2 => M deep (two (operator t) q q2) ts2 := by
  unfold M C
  have : 2 * (t :: r).length + 1 = 2 * r.length + 2 + 1 := by simp only [List.length_cons]; omega
  rw [this]; simp only [more]; rw [if_neg h]
  rw [(fuel r.length).1 (2 * r.length + 2) (2 * r.length + 1) deep r (Nat.le_refl _) (by omega) (Nat.le_refl _)]
  have hf := (fits (2 * r.length + 1)).1 deep r
  cases hx : clause (2 * r.length + 1) deep r with
  | err p e => rfl
  | ok q2 ts2 =>
    rw [hx] at hf
    simp only [Fits] at hf
    exact (fuel ts2.length).2.2 _ _ deep _ ts2 (Nat.le_refl _) (by omega) (Nat.le_refl _)
theorem parse_eq (s : List UInt8) : parse s = match Y 0 (tokens s) with | .ok q (t :: _) => if t.kind = 0 then (q, 0, 0) else (zero, t.pos, 40) | .ok _ [] => (zero, 0, 40) | .err p e => (zero, p, e) := by
  have h0 : (tokens s).length ≤ s.length + 1 := (toks_good s (s.length + 1) 0 (by omega) (by omega)).2.1
  unfold parse Y
  rw [(fuel (tokens s).length).2.1 (4 * s.length + 9) (2 * (tokens s).length + 2) 0 (tokens s) (Nat.le_refl _) (by omega) (Nat.le_refl _)]
  generalize query (2 * (tokens s).length + 2) 0 (tokens s) = R
  rcases R with ⟨q, _ | ⟨t, r⟩⟩ | ⟨p, e⟩ <;> rfl
/-! ### Tokens of a text by its rest -/
theorem get_drop {s : List UInt8} {i : Nat} {c : UInt8} {r : List UInt8} (h : s.drop i = c :: r) : s[i]? = some c := by
  have := congrArg (fun l => l[0]?) h
  simpa using this
theorem lt_drop {s : List UInt8} {i : Nat} {c : UInt8} {r : List UInt8} (h : s.drop i = c :: r) : i < s.length := (List.getElem?_eq_some_iff.1 (get_drop h)).1
theorem drop_past {s : List UInt8} {i : Nat} {a rest : List UInt8} (h : s.drop i = a ++ rest) : s.drop (i + a.length) = rest := by rw [← List.drop_drop, h, List.drop_left]
theorem toks_blank {s : List UInt8} {i : Nat} {c : UInt8} {r : List UInt8} (h : s.drop i = c :: r) (hb : blank c = true) : toksI s i = toksI s (i + 1) := by
  have hlt := lt_drop h
  have hlex : lex s i = lex s (i + 1) := by unfold lex; rw [skip_blank (get_drop h) hb]
  rw [toksI_eq s i (by omega), toksI_eq s (i + 1) (by omega), hlex]
theorem toks_tok {s : List UInt8} {i n : Nat} {c : UInt8} {r : List UInt8} {t : Tok} (h : s.drop i = c :: r) (hb : blank c = false) (hh : head (c :: r) i = (t, n)) (ho : over t = false) : toksI s i = t :: toksI s (i + n) := by
  have hlt := lt_drop h
  have hr : r = s.drop (i + 1) := by rw [← List.drop_drop, h]; rfl
  rw [toksI_eq s i (by omega), lex_at (get_drop h) hb, ← hr, hh]
  simp [ho]
theorem toks_end (s : List UInt8) : toksI s s.length = [⟨0, [], s.length⟩] := by
  rw [toksI_eq s _ (Nat.le_refl _), lex_end]; rfl
theorem head_word2 {c : UInt8} {w rest : List UInt8} (j : Nat) (hw : ∀ x ∈ c :: w, plain x = true) (hr : ∀ x, rest.head? = some x → plain x = false) : head (c :: (w ++ rest)) j = (⟨3, c :: w, j⟩, (c :: w).length) := by
  have hc := hw c (.head _)
  have hpb := plain_blank hc
  have ht : (c :: (w ++ rest)).takeWhile plain = c :: w := by
    have h0 : rest.takeWhile plain = [] := by
      cases rest with
      | nil => rfl
      | cons x r => rw [List.takeWhile_cons, hr x rfl]; rfl
    rw [show c :: (w ++ rest) = (c :: w) ++ rest from rfl, List.takeWhile_append_of_pos hw, h0, List.append_nil]
  unfold head
  simp only [hpb.1, hpb.2.1, hpb.2.2, false_and, if_false, hc, if_true, ht]
theorem head_eq1 {r : List UInt8} (j : Nat) (h : r.head? ≠ some 61) : head (61 :: r) j = (⟨1, [61], j⟩, 1) := by
  unfold head; simp [h]; decide
theorem head_eq2 (r : List UInt8) (j : Nat) : head (61 :: 61 :: r) j = (⟨1, [61, 61], j⟩, 2) := by
  unfold head; simp
theorem head_ge2 (r : List UInt8) (j : Nat) : head (62 :: 61 :: r) j = (⟨1, [62, 61], j⟩, 2) := by
  unfold head; simp
theorem head_sign {c : UInt8} (r : List UInt8) (j : Nat) (h : c = 60 ∨ c = 40 ∨ c = 41) : head (c :: r) j = (⟨1, [c], j⟩, 1) := by
  unfold head
  rcases h with rfl | rfl | rfl <;> simp <;> decide
theorem head_quoted2 {r t : List UInt8} {n : Nat} (j : Nat) (h : quoted r = some (t, n)) : head (34 :: r) j = (⟨2, t, j⟩, n + 1) := by
  unfold head; simp [h]
theorem escape_cons (c : UInt8) (t : List UInt8) : escape (c :: t) = (if c = 34 ∨ c = 92 then [92, c] else [c]) ++ escape t := rfl
theorem quoted_escape (rest : List UInt8) : ∀ t : List UInt8, quoted (escape t ++ 34 :: rest) = some (t, (escape t).length + 1)
  | [] => quoted_end rest
  | c :: t => by
    have ih := quoted_escape rest t
    rw [escape_cons]
    by_cases h : c = 34 ∨ c = 92
    · rw [if_pos h]
      have e : [92, c] ++ escape t ++ 34 :: rest = 92 :: c :: (escape t ++ 34 :: rest) := rfl
      rw [e, quoted_esc, ih]; simp
    · rw [if_neg h]
      have e : [c] ++ escape t ++ 34 :: rest = c :: (escape t ++ 34 :: rest) := rfl
      rw [e, quoted_byte c _ (fun e => h (.inl e)) (fun e => h (.inr e)), ih]; simp
theorem indexes_ok : ∀ w ∈ indexes, (∀ x ∈ w, plain x = true) ∧ w ≠ [] ∧ small w = w ∧ operator ⟨3, w, 0⟩ = 0 ∧ (∀ x, w.head? = some x → blank x = false) := by decide +kernel
theorem relations_ok : ∀ w ∈ relations, small w = w := by decide +kernel
theorem operator_pos (k : Nat) (t : List UInt8) (p p' : Nat) : operator ⟨k, t, p⟩ = operator ⟨k, t, p'⟩ := rfl
/-- The tokens of a relation that a blank follows. -/
theorem toks_rel {s w rest : List UInt8} {i : Nat} (hw : w ∈ relations) (h : s.drop i = w ++ 32 :: rest) : ∃ k, (k = 1 ∨ k = 3) ∧ toksI s i = ⟨k, w, i⟩ :: toksI s (i + w.length) := by
  simp only [relations, List.mem_cons, List.not_mem_nil, or_false] at hw
  rcases hw with rfl | rfl | rfl | rfl | rfl | rfl
  · exact ⟨1, .inl rfl, toks_tok h (by decide) (head_eq1 i (by simp)) rfl⟩
  · exact ⟨1, .inl rfl, toks_tok h (by decide) (head_eq2 _ i) rfl⟩
  · exact ⟨1, .inl rfl, toks_tok h (by decide) (head_sign _ i (.inl rfl)) rfl⟩
  · exact ⟨1, .inl rfl, toks_tok h (by decide) (head_ge2 _ i) rfl⟩
  · exact ⟨3, .inr rfl, toks_tok (n := 3) h (by decide) (head_word2 (c := 97) (w := [110, 121]) (rest := 32 :: rest) i (by decide) (by intro x hx; cases hx; decide)) rfl⟩
  · exact ⟨3, .inr rfl, toks_tok (n := 3) h (by decide) (head_word2 (c := 97) (w := [108, 108]) (rest := 32 :: rest) i (by decide) (by intro x hx; cases hx; decide)) rfl⟩
theorem toks_word {s w rest : List UInt8} {i : Nat} (hne : w ≠ []) (hw : ∀ x ∈ w, plain x = true) (hr : ∀ x, rest.head? = some x → plain x = false) (h : s.drop i = w ++ rest) : toksI s i = ⟨3, w, i⟩ :: toksI s (i + w.length) := by
  cases w with
  | nil => exact absurd rfl hne
  | cons c w =>
    have hb : blank c = false := by
      have := hw c (.head _)
      unfold plain at this
      simp only [Bool.and_eq_true, Bool.not_eq_true'] at this
      exact this.1.1.1.1.1.1
    exact toks_tok h hb (head_word2 i hw hr) rfl
theorem toks_text {s t rest : List UInt8} {i : Nat} (h : s.drop i = text t ++ rest) : toksI s i = ⟨2, t, i⟩ :: toksI s (i + (text t).length) := by
  have h' : s.drop i = 34 :: (escape t ++ 34 :: rest) := by rw [h]; simp [text]
  have hl : (text t).length = (escape t).length + 1 + 1 := by simp [text]
  rw [hl]
  exact toks_tok h' (by decide) (head_quoted2 i (quoted_escape rest t)) rfl
end Cq
