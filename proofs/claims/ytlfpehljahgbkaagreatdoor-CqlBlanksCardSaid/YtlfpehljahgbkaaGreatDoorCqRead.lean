/-
  What is written is read back; what is read is right. Own text. Conditions: none.
-/
import Derived.Test.YtlfpehljahgbkaaGreatDoorCqRound
namespace Cq
theorem form_good {q : Qn} (h : form q = true) (hk : q.k ≠ 1) : ∃ a b : Qn, q.Two a b ∧ 2 ≤ q.k ∧ q.k ≤ 4 ∧ form a = true ∧ form b = true ∧ q = two q.k.toNat a b := by
  obtain ⟨_, h2, h4, a, b, htw, ha, hb⟩ := (form_tree h).resolve_left hk
  have hn : ¬ (q.k < 2 ∨ q.k > 4 ∨ q.i ≠ [] ∨ q.r ≠ [] ∨ q.t ≠ [] ∨ q.ps.len ≠ 2) := fun hbad => by rw [form_bad hk hbad] at h; cases h
  simp only [not_or, Decidable.not_not] at hn
  obtain ⟨_, _, hi, hr, ht, _⟩ := hn
  refine ⟨a, b, htw, h2, h4, ha, hb, ?_⟩
  have hps : q.ps = a.push (b.push .nil) := htw
  obtain ⟨k, i, r, t, ps⟩ := q
  simp only at hi hr ht hps h2
  subst hi hr ht hps
  simp only [two, Qn.mk.injEq, and_self, and_true]
  omega
theorem form_leaf {q : Qn} (h : form q = true) (hk : q.k = 1) : q.i ∈ indexes ∧ q.r ∈ relations ∧ q = ⟨1, q.i, q.r, q.t, .nil⟩ := by
  rw [form_term hk] at h
  simp only [Bool.and_eq_true, beq_iff_eq, List.contains_iff_mem] at h
  obtain ⟨⟨h1, h2⟩, h3⟩ := h
  refine ⟨h1, h2, ?_⟩
  obtain ⟨k, i, r, t, ps⟩ := q
  cases ps with
  | nil => simp only at hk; subst hk; rfl
  | cons _ _ _ _ _ _ => simp [Qs.len] at h3
theorem word_ok {k : Int} (h2 : 2 ≤ k) (h4 : k ≤ 4) (p : Nat) : operator ⟨3, word k, p⟩ = k.toNat ∧ (∀ x ∈ word k, plain x = true) ∧ word k ≠ [] := by
  have : k = 2 ∨ k = 3 ∨ k = 4 := by omega
  rcases this with rfl | rfl | rfl <;> exact ⟨(operator_pos 3 _ p 0).trans (by decide +kernel), by decide +kernel, by decide +kernel⟩
/-- The tokens of a query, and how they are read. -/
def Reads (T : List Tok) (q : Qn) : Prop :=
  (∀ deep ts, deep + depth q ≤ 50 → Y deep (T ++ ts) = M deep q ts) ∧ (q.k = 1 → ∀ deep ts, C deep (T ++ ts) = .ok q ts) ∧ T ≠ []
theorem reads_leaf {q : Qn} (h : form q = true) (hk : q.k = 1) {s rest : List UInt8} {i : Nat} (hs : s.drop i = write q ++ rest) : ∃ T, toksI s i = T ++ toksI s (i + (write q).length) ∧ Reads T q := by
  obtain ⟨hi, hr, hq⟩ := form_leaf h hk
  obtain ⟨i1, i2, i3, i4, i5⟩ := indexes_ok _ hi
  have r1 := relations_ok _ hr
  rw [write_term hk] at hs ⊢
  have e0 : s.drop i = q.i ++ (32 :: (q.r ++ 32 :: (text q.t ++ rest))) := by rw [hs]; simp
  have t1 := toks_word i2 i1 (by intro x hx; cases hx; decide) e0
  have e1 := drop_past e0
  have t2 := toks_blank e1 (by decide)
  have e2 : s.drop (i + q.i.length + 1) = q.r ++ 32 :: (text q.t ++ rest) := by rw [← List.drop_drop, e1]; rfl
  obtain ⟨k2, hk2, t3⟩ := toks_rel hr e2
  have e3 := drop_past e2
  have t4 := toks_blank e3 (by decide)
  have e4 : s.drop (i + q.i.length + 1 + q.r.length + 1) = text q.t ++ rest := by rw [← List.drop_drop, e3]; rfl
  have t5 := toks_text e4
  have hlen : i + (q.i ++ [32] ++ q.r ++ [32] ++ text q.t).length = i + q.i.length + 1 + q.r.length + 1 + (text q.t).length := by simp; omega
  have hc : ∀ (deep : Nat) (ts : List Tok), C deep ([⟨3, q.i, i⟩, ⟨k2, q.r, i + q.i.length + 1⟩, ⟨2, q.t, i + q.i.length + 1 + q.r.length + 1⟩] ++ ts) = .ok q ts := fun deep ts => by
    have hop : operator ⟨3, q.i, i⟩ = 0 := i4
    have h1 : isTerm ⟨3, q.i, i⟩ = true := by simp [isTerm, hop]
    have h2 : relation ⟨k2, q.r, i + q.i.length + 1⟩ = true := by
      unfold relation
      simp only [r1]
      rcases hk2 with rfl | rfl <;> simp [hr]
    have h3 : isTerm ⟨2, q.t, i + q.i.length + 1 + q.r.length + 1⟩ = true := by simp [isTerm, operator]
    have h4 : indexes.contains (small q.i) = true := by rw [i3]; simpa using hi
    have := C_term (deep := deep) (r := ts) (t := ⟨3, q.i, i⟩) (t2 := ⟨k2, q.r, i + q.i.length + 1⟩) (t3 := ⟨2, q.t, i + q.i.length + 1 + q.r.length + 1⟩) (by simp [lp]) h1 rfl h2 h4 h3
    simp only [i3, r1] at this
    rw [← hq] at this
    exact this
  refine ⟨_, ?_, ⟨fun deep ts _ => ?_, fun _ => hc, by simp⟩⟩
  · rw [t1, t2, t3, t4, t5, hlen]; rfl
  · rw [Y_eq, hc]
theorem reads : ∀ (n : Nat) (q : Qn), q.size < n → form q = true → ∀ (s rest : List UInt8) (i : Nat), s.drop i = write q ++ rest → ∃ T, toksI s i = T ++ toksI s (i + (write q).length) ∧ Reads T q
  | 0, q, h, _, _, _, _, _ => by omega
  | n + 1, q, hn, hf, s, rest, i, hs => by
    by_cases hk : q.k = 1
    · exact reads_leaf hf hk hs
    · obtain ⟨a, b, htw, h2, h4, ha, hb, hq⟩ := form_good hf hk
      have hsz := htw.size
      obtain ⟨w1, w2, w3⟩ := word_ok h2 h4 0
      have hdep := depth_two hk htw
      rw [write_two hk htw] at hs ⊢
      have e0 : s.drop i = write a ++ (32 :: (word q.k ++ 32 :: (paren b.k (write b) ++ rest))) := by rw [hs]; simp
      obtain ⟨Ta, ta, ra1, _, ra3⟩ := reads n a (by omega) ha s _ i e0
      have e1 := drop_past e0
      have t2 := toks_blank e1 (by decide)
      have e2 : s.drop (i + (write a).length + 1) = word q.k ++ 32 :: (paren b.k (write b) ++ rest) := by rw [← List.drop_drop, e1]; rfl
      have t3 := toks_word w3 w2 (by intro x hx; cases hx; decide) e2
      have e3 := drop_past e2
      have t4 := toks_blank e3 (by decide)
      have e4 : s.drop (i + (write a).length + 1 + (word q.k).length + 1) = paren b.k (write b) ++ rest := by rw [← List.drop_drop, e3]; rfl
      have hop : operator ⟨3, word q.k, i + (write a).length + 1⟩ = q.k.toNat := w1
      have hop0 : operator ⟨3, word q.k, i + (write a).length + 1⟩ ≠ 0 := by rw [hop]; omega
      -- the second part
      have second : ∃ Tb, toksI s (i + (write a).length + 1 + (word q.k).length + 1) = Tb ++ toksI s (i + (write a).length + 1 + (word q.k).length + 1 + (paren b.k (write b)).length) ∧ ∀ deep ts, deep + depth q ≤ 50 → C deep (Tb ++ ts) = .ok b ts := by
        by_cases hbk : b.k = 1
        · have hp : paren b.k (write b) = write b := by simp [paren, hbk]
          rw [hp] at e4 ⊢
          obtain ⟨Tb, tb, _, rb2, _⟩ := reads n b (by omega) hb s rest _ e4
          exact ⟨Tb, tb, fun deep ts _ => rb2 hbk deep ts⟩
        · have hp : paren b.k (write b) = 40 :: write b ++ [41] := by simp [paren, hbk]
          have hup : up b.k = 1 := by simp [up, hbk]
          rw [hp] at e4 ⊢
          have e5 : s.drop (i + (write a).length + 1 + (word q.k).length + 1) = 40 :: (write b ++ 41 :: rest) := by rw [e4]; simp
          have t5 := toks_tok e5 (by decide) (head_sign _ _ (.inr (.inl rfl))) rfl
          have e6 : s.drop (i + (write a).length + 1 + (word q.k).length + 1 + 1) = write b ++ 41 :: rest := by rw [← List.drop_drop, e5]; rfl
          obtain ⟨Tb, tb, rb1, _, _⟩ := reads n b (by omega) hb s _ _ e6
          have e7 := drop_past e6
          have t7 := toks_tok e7 (by decide) (head_sign _ _ (.inr (.inr rfl))) rfl
          refine ⟨[⟨1, [40], i + (write a).length + 1 + (word q.k).length + 1⟩] ++ Tb ++ [⟨1, [41], i + (write a).length + 1 + (word q.k).length + 1 + 1 + (write b).length⟩], ?_, fun deep ts hd => ?_⟩
          · rw [t5, tb, t7]
            have hl : i + (write a).length + 1 + (word q.k).length + 1 + (40 :: write b ++ [41]).length = i + (write a).length + 1 + (word q.k).length + 1 + 1 + (write b).length + 1 := by simp; omega
            rw [hl]; simp
          · have hy := rb1 (deep + 1) (⟨1, [41], i + (write a).length + 1 + (word q.k).length + 1 + 1 + (write b).length⟩ :: ts) (by omega)
            rw [M_end (by simp [operator])] at hy
            have := C_paren (deep := deep) (t := ⟨1, [40], i + (write a).length + 1 + (word q.k).length + 1⟩) (by simp [lp]) (by omega) hy (by simp [rp])
            simpa using this
      obtain ⟨Tb, tb, rb⟩ := second
      refine ⟨Ta ++ ⟨3, word q.k, i + (write a).length + 1⟩ :: Tb, ?_, ⟨fun deep ts hd => ?_, fun h => absurd h hk, by simp⟩⟩
      · rw [ta, t2, t3, t4, tb]
        have hl : i + (write a ++ [32] ++ word q.k ++ [32] ++ paren b.k (write b)).length = i + (write a).length + 1 + (word q.k).length + 1 + (paren b.k (write b)).length := by simp; omega
        rw [hl]; simp
      · rw [List.append_assoc, ra1 deep _ (by omega), List.cons_append, M_step hop0, rb deep ts hd]
        simp only [hop]
        rw [← hq]
/-- What is written is read back. -/
theorem parse_write {q : Qn} (h : form q = true) (hd : depth q ≤ 50) : parse (write q) = (q, 0, 0) := by
  obtain ⟨T, hT, h1, _, _⟩ := reads _ q (Nat.lt_succ_self _) h (write q) [] 0 (by simp)
  rw [parse_eq]
  have ht : tokens (write q) = T ++ [⟨0, [], (write q).length⟩] := by
    show toksI (write q) 0 = _
    rw [hT, Nat.zero_add, toks_end]
  rw [ht, h1 0 _ (by omega), M_end (by simp [operator])]
  rfl
/-- Also in parentheses. -/
theorem parse_paren {q : Qn} (h : form q = true) (hd : depth q + 1 ≤ 50) : parse ([40, 32] ++ write q ++ [41]) = (q, 0, 0) := by
  have e0 : ([40, 32] ++ write q ++ [41]).drop 0 = 40 :: (32 :: (write q ++ [41])) := by simp
  have t0 := toks_tok e0 (by decide) (head_sign _ _ (.inr (.inl rfl))) rfl
  have e1 : ([40, 32] ++ write q ++ [41]).drop 1 = 32 :: (write q ++ [41]) := by simp
  have t1 := toks_blank e1 (by decide)
  have e2 : ([40, 32] ++ write q ++ [41]).drop 2 = write q ++ [41] := by simp
  obtain ⟨T, hT, h1, _, _⟩ := reads _ q (Nat.lt_succ_self _) h _ [41] 2 e2
  have e3 := drop_past e2
  have t3 := toks_tok e3 (by decide) (head_sign _ _ (.inr (.inr rfl))) rfl
  have hend : 2 + (write q).length + 1 = ([40, 32] ++ write q ++ [41]).length := by simp; omega
  rw [parse_eq]
  have ht : tokens ([40, 32] ++ write q ++ [41]) = ⟨1, [40], 0⟩ :: (T ++ ⟨1, [41], 2 + (write q).length⟩ :: [⟨0, [], ([40, 32] ++ write q ++ [41]).length⟩]) := by
    show toksI _ 0 = _
    rw [t0]
    show _ :: toksI _ 1 = _
    rw [t1, hT, t3, hend, toks_end]
  have hy := h1 1 (⟨1, [41], 2 + (write q).length⟩ :: [⟨0, [], ([40, 32] ++ write q ++ [41]).length⟩]) (by omega)
  rw [M_end (by simp [operator])] at hy
  have hc := C_paren (deep := 0) (t := ⟨1, [40], 0⟩) (by simp [lp]) (by omega) hy (by simp [rp])
  rw [ht, Y_eq, hc]
  simp only []
  rw [M_end (by simp [operator])]
  rfl
/-! ### What is read is right -/
theorem rel_small {t : Tok} (h : relation t = true) : relations.contains (small t.text) = true := by
  simp only [relation, Bool.and_eq_true] at h; exact h.1
theorem op_range (t : Tok) : operator t = 0 ∨ operator t = 2 ∨ operator t = 3 ∨ operator t = 4 := by
  unfold operator
  split
  · exact .inl rfl
  · split
    · exact .inr (.inl rfl)
    · split
      · exact .inr (.inr (.inl rfl))
      · split
        · exact .inr (.inr (.inr rfl))
        · exact .inl rfl
theorem two_form {t : Tok} {a b : Qn} (h : operator t ≠ 0) (ha : form a = true) (hb : form b = true) : form (two (operator t) a b) = true := by
  have hk : (two (operator t) a b).k ≠ 1 := by
    have := op_range t
    simp only [two]; omega
  have hbad : ¬ ((two (operator t) a b).k < 2 ∨ (two (operator t) a b).k > 4 ∨ (two (operator t) a b).i ≠ [] ∨ (two (operator t) a b).r ≠ [] ∨ (two (operator t) a b).t ≠ [] ∨ (two (operator t) a b).ps.len ≠ 2) := by
    have := op_range t
    simp only [two, Qn.push, Qs.len, not_or]
    refine ⟨by omega, by omega, by simp, by simp, by simp, by simp⟩
  rw [form_two hk hbad (rfl : (two (operator t) a b).Two a b), ha, hb]; rfl
theorem two_depth {t : Tok} {a b : Qn} (_h : operator t ≠ 0) : depth (two (operator t) a b) = max (depth b + up b.k) (depth a) := by
  refine depth_two ?_ (rfl : (two (operator t) a b).Two a b)
  have := op_range t
  simp only [two]; omega
theorem two_up {t : Tok} {a b : Qn} : up (two (operator t) a b).k ≤ 1 := by unfold up; split <;> omega
def Good (d : Nat) : Res → Prop
  | .ok q _ => form q = true ∧ depth q + d ≤ 50
  | .err _ e => e ≠ 0
def GoodC (d : Nat) : Res → Prop
  | .ok q _ => form q = true ∧ depth q + up q.k + d ≤ 50
  | .err _ e => e ≠ 0
theorem leaf_good {i r t : List UInt8} {d : Nat} (hi : indexes.contains i = true) (hr : relations.contains r = true) (hd : d ≤ 50) : form ⟨1, i, r, t, .nil⟩ = true ∧ depth ⟨1, i, r, t, .nil⟩ + up 1 + d ≤ 50 := by
  refine ⟨?_, ?_⟩
  · rw [form_term rfl]; simp only [hi, hr]; rfl
  · rw [depth_term rfl]; simp [up]; omega
theorem goods : ∀ f, (∀ deep ts, Rst ts → 2 * ts.length + 1 ≤ f → deep ≤ 50 → GoodC deep (clause f deep ts)) ∧ (∀ deep ts, Rst ts → 2 * ts.length + 2 ≤ f → deep ≤ 50 → Good deep (query f deep ts)) ∧ ∀ deep q ts, Rst ts → 2 * ts.length + 1 ≤ f → form q = true → depth q + deep ≤ 50 → Good deep (more f deep q ts)
  | 0 => ⟨fun _ _ _ h => by omega, fun _ _ _ h => by omega, fun _ _ _ _ h => by omega⟩
  | f + 1 => by
    obtain ⟨hc, hq, hm⟩ := goods f
    refine ⟨fun deep ts hg hf hd => ?_, fun deep ts hg hf hd => ?_, fun deep q ts hg hf hq1 hq2 => ?_⟩
    · obtain ⟨t, r, rfl⟩ := hg.ne
      simp only [List.length_cons] at hf
      unfold clause
      by_cases h1 : lp t = true
      · have hr := hg.cons (over_lp h1)
        rw [if_pos h1]
        split
        · exact (by decide : (41 : Nat) ≠ 0)
        · have hy := hq (deep + 1) r hr (by omega) (by omega)
          have hl := (less f).2.1 (deep + 1) r hr
          cases hx : query f (deep + 1) r with
          | err p e => rw [hx] at hy; exact hy
          | ok q ts2 =>
            rw [hx] at hy hl
            obtain ⟨t2, r2, rfl⟩ := hl.1.ne
            simp only []
            split
            · have hu : up q.k ≤ 1 := by unfold up; split <;> omega
              exact ⟨hy.1, by have := hy.2; omega⟩
            · exact (by decide : (40 : Nat) ≠ 0)
      · rw [if_neg h1]
        by_cases h2 : isTerm t = true
        · have hr := hg.cons (over_term h2)
          rw [if_neg (by simp [h2])]
          have bare : GoodC deep (.ok ⟨1, [97, 110, 121], [61], t.text, .nil⟩ r) := leaf_good (by decide) (by decide) hd
          obtain ⟨t2, r2, rfl⟩ := hr.ne
          cases h3 : t.kind == 3 with
          | false => exact bare
          | true =>
            simp only []
            by_cases h4 : relation t2 = true
            · rw [if_pos h4]
              have hr2 := hr.cons (over_rel h4)
              split
              · exact (by decide : (42 : Nat) ≠ 0)
              · rename_i h5
                obtain ⟨t3, r3, rfl⟩ := hr2.ne
                simp only []
                split
                · exact leaf_good (by simpa using h5) (rel_small h4) hd
                · exact (by decide : (40 : Nat) ≠ 0)
            · rw [if_neg h4]; exact bare
        · rw [if_pos (by simpa using h2)]; exact (by decide : (40 : Nat) ≠ 0)
    · unfold query
      have hy := hc deep ts hg (by omega) hd
      have hl := (less f).1 deep ts hg
      cases hx : clause f deep ts with
      | err p e => rw [hx] at hy; exact hy
      | ok q ts2 =>
        rw [hx] at hy hl
        exact hm deep q ts2 hl.1 (by have := hl.2; omega) hy.1 (by have := hy.2; omega)
    · obtain ⟨t, r, rfl⟩ := hg.ne
      simp only [List.length_cons] at hf
      unfold more
      by_cases h1 : operator t = 0
      · rw [if_pos h1]; exact ⟨hq1, hq2⟩
      · rw [if_neg h1]
        have hr := hg.cons (over_op h1)
        have hy := hc deep r hr (by omega) (by omega)
        have hl := (less f).1 deep r hr
        cases hx : clause f deep r with
        | err p e => rw [hx] at hy; exact hy
        | ok q2 ts2 =>
          rw [hx] at hy hl
          simp only []
          exact hm deep _ ts2 hl.1 (by have := hl.2; omega) (two_form h1 hq1 hy.1) (by rw [two_depth h1]; have := hy.2; omega)
theorem parse_right (s : List UInt8) : ((parse s).2.2 = 0 → right (parse s).1 = true ∧ (parse s).2.1 = 0) ∧ ((parse s).2.2 ≠ 0 → (parse s).1 = zero) := by
  have h0 := toks_good s (s.length + 1) 0 (by omega) (by omega)
  have hR : Rst (tokens s) := h0.1
  have hL : (tokens s).length ≤ s.length + 1 := h0.2.1
  have hg := (goods (4 * s.length + 9)).2.1 0 (tokens s) hR (by omega) (by omega)
  have hl := (less (4 * s.length + 9)).2.1 0 (tokens s) hR
  unfold parse
  cases hq : query (4 * s.length + 9) 0 (tokens s) with
  | err p e =>
    rw [hq] at hg
    exact ⟨fun h => absurd h hg, fun _ => rfl⟩
  | ok q ts =>
    rw [hq] at hg hl
    obtain ⟨t, r, rfl⟩ := hl.1.ne
    simp only []
    split
    · refine ⟨fun _ => ⟨?_, rfl⟩, fun h => absurd rfl h⟩
      unfold right
      rw [hg.1]
      have := hg.2
      simp; omega
    · exact ⟨fun h => (by cases h), fun _ => rfl⟩
theorem right_of {q : Qn} (h : right q = true) : form q = true ∧ depth q ≤ 50 := by
  unfold right at h
  simpa using h
theorem zero_right : right zero = false := by decide +kernel
theorem zero_print : print zero = [] := by decide +kernel
/-- What a right query is written as is read back. -/
theorem parse_print {q : Qn} (h : right q = true) : parse (print q) = (q, 0, 0) := by
  obtain ⟨h1, h2⟩ := right_of h
  unfold print
  rw [if_pos h]
  exact parse_write h1 h2
end Cq
