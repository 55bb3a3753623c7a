/-
  Numbers in sort keys. Own text; no program in sight. Conditions: none.
-/
import Derived.Test.YtnogdccoekfnoaaGreatDoorKeIsbn
import Derived.Test.YtnogdccoekfnoaaGreatDoorKeWords
namespace Ke
/-- Byte by byte, as texts are compared. -/
def less : Bs → Bs → Bool
  | [], [] => false
  | [], _ :: _ => true
  | _ :: _, [] => false
  | a :: x, b :: y => decide (a < b) || (a == b && less x y)
theorem less_irrefl : ∀ a : Bs, less a a = false
  | [] => rfl
  | c :: r => by
    have := less_irrefl r
    simp [less, this]
theorem less_pre : ∀ (p a b : Bs), less (p ++ a) (p ++ b) = less a b
  | [], _, _ => rfl
  | c :: r, a, b => by
    have := less_pre r a b
    simp [less, this]
/-- Texts of one length decide before what follows them. -/
theorem less_len : ∀ (a b x y : Bs), a.length = b.length → a ≠ b → less (a ++ x) (b ++ y) = less a b
  | [], [], _, _, _, h => absurd rfl h
  | c :: r, d :: s, x, y, hl, hne => by
    simp only [List.cons_append, less]
    by_cases h : c = d
    · subst h
      have := less_len r s x y (by simpa using hl) (fun h => hne (by rw [h]))
      simp [this]
    · have : (c == d) = false := by simpa using h
      simp [this]
  | [], _ :: _, _, _, hl, _ => by simp at hl
  | _ :: _, [], _, _, hl, _ => by simp at hl
/-! ### Decimal -/
def decF : Nat → Nat → Bs
  | 0, n => [UInt8.ofNat (48 + n % 10)]
  | f + 1, n => if n < 10 then [UInt8.ofNat (48 + n)] else decF f (n / 10) ++ [UInt8.ofNat (48 + n % 10)]
def dec (n : Nat) : Bs := decF n n
/-- What a text of digits says. -/
def num : Bs → Nat → Nat
  | [], a => a
  | c :: r, a => num r (a * 10 + (c.toNat - 48))
theorem num_app : ∀ (a b : Bs) (n : Nat), num (a ++ b) n = num b (num a n)
  | [], _, _ => rfl
  | _c :: r, b, _n => num_app r b _
theorem ofNat_toNat {k : Nat} (h : k < 256) : (UInt8.ofNat k).toNat = k := by simp; omega
theorem decF_ok : ∀ (f n : Nat), n ≤ f → digits (decF f n) = true ∧ num (decF f n) 0 = n ∧ (n ≠ 0 → (decF f n).head? ≠ some 48) ∧ 0 < (decF f n).length ∧ (n < 10 → (decF f n).length = 1)
  | 0, n, h => by
    have : n = 0 := by omega
    subst this
    exact ⟨rfl, rfl, fun h => absurd rfl h, by simp [decF], fun _ => rfl⟩
  | f + 1, n, h => by
    unfold decF
    by_cases h1 : n < 10
    · rw [if_pos h1]
      have h2 : (UInt8.ofNat (48 + n)).toNat = 48 + n := ofNat_toNat (by omega)
      refine ⟨?_, ?_, fun hn => ?_, by simp, fun _ => rfl⟩
      · simp only [digits, List.all_cons, List.all_nil, Bool.and_true]
        rw [digit_iff, h2]; omega
      · simp only [num, h2]; omega
      · simp only [List.head?_cons]
        intro he
        have := congrArg UInt8.toNat (Option.some.inj he)
        rw [h2] at this
        have e : (48 : UInt8).toNat = 48 := rfl
        omega
    · rw [if_neg h1]
      obtain ⟨i1, i2, i3, i4, _⟩ := decF_ok f (n / 10) (by omega)
      have h2 : (UInt8.ofNat (48 + n % 10)).toNat = 48 + n % 10 := ofNat_toNat (by omega)
      refine ⟨?_, ?_, fun _ => ?_, by simp, fun h => absurd h h1⟩
      · rw [digits_app, i1]
        simp only [digits, List.all_cons, List.all_nil, Bool.and_true, Bool.true_and]
        rw [digit_iff, h2]; omega
      · rw [num_app, i2]
        simp only [num, h2]; omega
      · have := i3 (by omega)
        cases hd : decF f (n / 10) with
        | nil => rw [hd] at i4; simp at i4
        | cons c r => rw [hd] at this; simpa using this
theorem dec_ok (n : Nat) : digits (dec n) = true ∧ num (dec n) 0 = n ∧ (n ≠ 0 → (dec n).head? ≠ some 48) ∧ 0 < (dec n).length ∧ (n < 10 → (dec n).length = 1) := decF_ok n n (Nat.le_refl _)
theorem dec_big {n : Nat} (h : 10 ≤ n) : dec n = dec (n / 10) ++ [UInt8.ofNat (48 + n % 10)] := by
  have step : ∀ (f g n : Nat), n ≤ f → n ≤ g → decF f n = decF g n := by
    intro f
    induction f with
    | zero =>
      intro g n h1 _
      have : n = 0 := by omega
      subst this
      cases g <;> rfl
    | succ f ih =>
      intro g n h1 h2
      cases g with
      | zero =>
        have : n = 0 := by omega
        subst this; rfl
      | succ g =>
        unfold decF
        split
        · rfl
        · rw [ih g (n / 10) (by omega) (by omega)]
  show decF n n = decF (n / 10) (n / 10) ++ _
  rw [step n (n - 1 + 1) n (Nat.le_refl _) (by omega)]
  show (if n < 10 then _ else _) = _
  rw [if_neg (by omega), step (n - 1) (n / 10) (n / 10) (by omega) (Nat.le_refl _)]
theorem dec_small {n : Nat} (h : n < 10) : dec n = [UInt8.ofNat (48 + n)] := by
  unfold dec
  cases n with
  | zero => rfl
  | succ n => unfold decF; rw [if_pos h]
theorem num_bound : ∀ (a : Bs) (n : Nat), digits a = true → n * 10 ^ a.length ≤ num a n ∧ num a n < (n + 1) * 10 ^ a.length
  | [], n, _ => by simp [num]
  | c :: r, n, h => by
    rw [digits_cons, Bool.and_eq_true] at h
    have h1 := digit_iff.1 h.1
    obtain ⟨h2, h3⟩ := num_bound r (n * 10 + (c.toNat - 48)) h.2
    simp only [num, List.length_cons, Nat.pow_succ]
    have e1 : n * (10 ^ r.length * 10) = n * 10 * 10 ^ r.length := by rw [Nat.mul_comm (10 ^ r.length), Nat.mul_assoc]
    have e2 : (n + 1) * (10 ^ r.length * 10) = (n * 10 + 10) * 10 ^ r.length := by rw [Nat.mul_comm (10 ^ r.length), ← Nat.mul_assoc, Nat.add_mul, Nat.one_mul]
    rw [e1, e2]
    refine ⟨Nat.le_trans (Nat.mul_le_mul_right _ (by omega)) h2, Nat.lt_of_lt_of_le h3 (Nat.mul_le_mul_right _ (by omega))⟩
theorem num_inj : ∀ (a b : Bs) (n : Nat), digits a = true → digits b = true → a.length = b.length → num a n = num b n → a = b
  | [], [], _, _, _, _, _ => rfl
  | c :: r, d :: s, n, ha, hb, hl, h => by
    rw [digits_cons, Bool.and_eq_true] at ha hb
    have hl' : r.length = s.length := by simpa using hl
    have h1 := digit_iff.1 ha.1
    have h2 := digit_iff.1 hb.1
    simp only [num] at h
    obtain ⟨g1, g2⟩ := num_bound r (n * 10 + (c.toNat - 48)) ha.2
    obtain ⟨g3, g4⟩ := num_bound s (n * 10 + (d.toNat - 48)) hb.2
    rw [h] at g1 g2
    rw [hl'] at g1 g2
    have e : c.toNat = d.toNat := by
      rcases Nat.lt_trichotomy c.toNat d.toNat with hlt | heq | hgt
      · have := Nat.lt_of_le_of_lt g3 g2
        have := Nat.lt_of_mul_lt_mul_right this
        omega
      · exact heq
      · have := Nat.lt_of_le_of_lt g1 g4
        have := Nat.lt_of_mul_lt_mul_right this
        omega
    have ec : c = d := UInt8.toNat.inj e
    subst ec
    rw [num_inj r s _ ha.2 hb.2 hl' h]
  | [], _ :: _, _, _, _, hl, _ => by simp at hl
  | _ :: _, [], _, _, _, hl, _ => by simp at hl
theorem less_num : ∀ (a b : Bs) (n : Nat), digits a = true → digits b = true → a.length = b.length → less a b = decide (num a n < num b n)
  | [], [], n, _, _, _ => by simp [less, num]
  | c :: r, d :: s, n, ha, hb, hl => by
    rw [digits_cons, Bool.and_eq_true] at ha hb
    have hl' : r.length = s.length := by simpa using hl
    have h1 := digit_iff.1 ha.1
    have h2 := digit_iff.1 hb.1
    simp only [num, less]
    obtain ⟨g1, g2⟩ := num_bound r (n * 10 + (c.toNat - 48)) ha.2
    obtain ⟨g3, g4⟩ := num_bound s (n * 10 + (d.toNat - 48)) hb.2
    rw [hl'] at g1 g2
    by_cases e : c = d
    · subst e
      rw [less_num r s (n * 10 + (c.toNat - 48)) ha.2 hb.2 hl']
      have : decide (c < c) = false := by simp
      simp only [this, BEq.rfl, Bool.true_and, Bool.false_or]
      exact decide_eq_decide.2 Iff.rfl
    · have hne : (c == d) = false := by simpa using e
      rw [hne, Bool.false_and, Bool.or_false]
      have hlt : (c < d) ↔ c.toNat < d.toNat := UInt8.lt_iff_toNat_lt
      have hneN : c.toNat ≠ d.toNat := fun h => e (UInt8.toNat.inj h)
      apply decide_eq_decide.2
      rw [hlt]
      constructor
      · intro h
        refine Nat.lt_of_lt_of_le g2 (Nat.le_trans (Nat.mul_le_mul_right _ ?_) g3)
        omega
      · intro h
        rcases Nat.lt_or_ge c.toNat d.toNat with h' | h'
        · exact h'
        · exfalso
          have := Nat.lt_of_lt_of_le g4 (Nat.le_trans (Nat.mul_le_mul_right _ (by omega)) g1)
          omega
  | [], _ :: _, _, _, _, hl => by simp at hl
  | _ :: _, [], _, _, _, hl => by simp at hl
theorem dec_len_le {a : Nat} (h : a < 4294967296) : (dec a).length ≤ 10 := by
  obtain ⟨h1, h2, h3, h4, h5⟩ := dec_ok a
  rcases Nat.lt_or_ge 10 (dec a).length with hl | hl
  · exfalso
    cases hd : dec a with
    | nil => rw [hd] at hl; simp at hl
    | cons c r =>
      have ha0 : a ≠ 0 := fun h0 => by
        have := h5 (by omega)
        omega
      have hc : c ≠ 48 := fun hc => h3 ha0 (by rw [hd, hc]; rfl)
      rw [hd, digits_cons, Bool.and_eq_true] at h1
      have hcd := digit_iff.1 h1.1
      rw [hd] at h2 hl
      simp only [num, Nat.zero_mul, Nat.zero_add] at h2
      have hb := (num_bound r (c.toNat - 48) h1.2).1
      have h1c : 1 ≤ c.toNat - 48 := by
        have : c.toNat ≠ 48 := fun h => hc (UInt8.toNat.inj h)
        omega
      have hp : 10 ^ 10 ≤ 10 ^ r.length := Nat.pow_le_pow_right (by decide) (by simp only [List.length_cons] at hl; omega)
      have := Nat.mul_le_mul h1c hp
      omega
  · exact hl
/-- Of two numbers the one with fewer digits is less. -/
theorem dec_lt_of_len {a b : Nat} (h : (dec a).length < (dec b).length) : a < b := by
  obtain ⟨h1, h2, _, _, _⟩ := dec_ok a
  obtain ⟨g1, g2, g3, g4, g5⟩ := dec_ok b
  have ha := (num_bound (dec a) 0 h1).2
  rw [h2] at ha
  have hb0 : b ≠ 0 := fun h0 => by
    have := g5 (by omega)
    have := (dec_ok a).2.2.2.1
    omega
  cases hd : dec b with
  | nil => rw [hd] at g4; simp at g4
  | cons c r =>
    have hc : c ≠ 48 := fun hc => g3 hb0 (by rw [hd, hc]; rfl)
    rw [hd, digits_cons, Bool.and_eq_true] at g1
    have hcd := digit_iff.1 g1.1
    rw [hd] at g2 h
    simp only [num, Nat.zero_mul, Nat.zero_add] at g2
    have hb := (num_bound r (c.toNat - 48) g1.2).1
    have h1c : 1 ≤ c.toNat - 48 := by
      have : c.toNat ≠ 48 := fun h => hc (UInt8.toNat.inj h)
      omega
    have hp : 10 ^ (dec a).length ≤ 10 ^ r.length := Nat.pow_le_pow_right (by decide) (by simp only [List.length_cons] at h; omega)
    have := Nat.mul_le_mul h1c hp
    omega
theorem dec_inj {a b : Nat} (h : dec a = dec b) : a = b := by
  have := (dec_ok a).2.1
  rw [h, (dec_ok b).2.1] at this
  exact this.symm
/-- A number as it is sorted. -/
def numKey (n : Nat) : Bs := let t := dec n; [UInt8.ofNat (48 + min t.length 99 / 10), UInt8.ofNat (48 + min t.length 99 % 10)] ++ t
theorem strip_zeros (z n : Nat) : strip (List.replicate z 48 ++ dec n) = dec n := by
  obtain ⟨h1, h2, h3, h4, h5⟩ := dec_ok n
  obtain ⟨u, e, hd⟩ : ∃ u e, dec n = u ++ [e] := ⟨(dec n).dropLast, (dec n).getLast (by intro h; rw [h] at h4; cases h4), (List.dropLast_concat_getLast _).symm⟩
  unfold strip
  rw [hd]
  have e1 : (List.replicate z 48 ++ (u ++ [e])).dropLast = List.replicate z 48 ++ u := by rw [← List.append_assoc, List.dropLast_concat]
  have e2 : (List.replicate z 48 ++ (u ++ [e])).drop ((List.replicate z 48 ++ (u ++ [e])).length - 1) = [e] := by
    rw [← List.append_assoc]
    have : (List.replicate z (48 : UInt8) ++ u ++ [e]).length - 1 = (List.replicate z (48 : UInt8) ++ u).length := by simp
    rw [this, List.drop_left]
  rw [e1, e2]
  have e3 : ∀ z, (List.replicate z (48 : UInt8) ++ u).dropWhile (· == 48) = u.dropWhile (· == 48) := by
    intro z
    induction z with
    | zero => rfl
    | succ z ih => rw [List.replicate_succ, List.cons_append, List.dropWhile_cons_of_pos (by rfl)]; exact ih
  rw [e3 z]
  cases u with
  | nil => rfl
  | cons c r =>
    have hn : n ≠ 0 := fun h0 => by
      have := h5 (by omega)
      rw [hd] at this; simp at this
    have hc : c ≠ 48 := fun hc => h3 hn (by rw [hd, hc]; rfl)
    rw [List.dropWhile_cons_of_neg (by simpa using hc)]
theorem number_zeros (z n : Nat) : number (List.replicate z 48 ++ dec n) = numKey n := by
  unfold number
  rw [strip_zeros]
  rfl
theorem len_less : ∀ m ≤ 10, ∀ n ≤ 10, less [UInt8.ofNat (48 + min m 99 / 10), UInt8.ofNat (48 + min m 99 % 10)] [UInt8.ofNat (48 + min n 99 / 10), UInt8.ofNat (48 + min n 99 % 10)] = decide (m < n) ∧ (m ≠ n → [UInt8.ofNat (48 + min m 99 / 10), UInt8.ofNat (48 + min m 99 % 10)] ≠ [UInt8.ofNat (48 + min n 99 / 10), UInt8.ofNat (48 + min n 99 % 10)]) := by decide +kernel
theorem numKey_less {a b : Nat} (ha : a < 4294967296) (hb : b < 4294967296) (p t : Bs) : less (p ++ (numKey a ++ t)) (p ++ (numKey b ++ t)) = decide (a < b) ∧ ((p ++ (numKey a ++ t) = p ++ (numKey b ++ t)) ↔ a = b) := by
  rw [less_pre]
  have la := dec_len_le ha
  have lb := dec_len_le hb
  obtain ⟨a1, a2, _, _, _⟩ := dec_ok a
  obtain ⟨b1, b2, _, _, _⟩ := dec_ok b
  have hk : ∀ x, numKey x ++ t = [UInt8.ofNat (48 + min (dec x).length 99 / 10), UInt8.ofNat (48 + min (dec x).length 99 % 10)] ++ (dec x ++ t) := fun x => by unfold numKey; rw [List.append_assoc]
  by_cases hl : (dec a).length = (dec b).length
  · have hkb := hk b
    rw [← hl] at hkb
    rw [hk a, hkb, less_pre]
    by_cases hab : a = b
    · subst hab
      simp [less_irrefl]
    · have hne : dec a ≠ dec b := fun h => hab (dec_inj h)
      rw [less_len _ _ _ _ hl hne, less_num _ _ 0 a1 b1 hl, a2, b2]
      refine ⟨rfl, ⟨fun h => ?_, fun h => absurd h hab⟩⟩
      exfalso
      have := List.append_cancel_left (List.append_cancel_left h)
      exact hne (List.append_inj_left this hl)
  · obtain ⟨e1, e2⟩ := len_less _ la _ lb
    have e3 := e2 hl
    rw [hk a, hk b, less_len _ _ _ _ (by rfl) e3, e1]
    have hne : a ≠ b := fun h => hl (by rw [h])
    refine ⟨?_, ⟨fun h => ?_, fun h => absurd h hne⟩⟩
    · apply decide_eq_decide.2
      constructor
      · exact dec_lt_of_len
      · intro h
        rcases Nat.lt_trichotomy (dec a).length (dec b).length with h' | h' | h'
        · exact h'
        · exact absurd h' hl
        · have := dec_lt_of_len h'; omega
    · exfalso
      have := List.append_cancel_left h
      exact e3 (List.append_inj_left this rfl)
/-- A number among words: 'part 007: end'. -/
theorem words_digits {w : Bs} (h : digits w = true) : wordly w := by
  induction w with
  | nil => exact ⟨[], rfl, fun _ h => by cases h⟩
  | cons c r ih =>
    rw [digits_cons, Bool.and_eq_true] at h
    have hc := digit_iff.1 h.1
    have h1 : wordly [c] := ⟨[c.toNat], by
      have : enc c.toNat = [c] := by rw [enc1 (by omega)]; simp
      simp [encs, this], fun d hd => by simp at hd; subst hd; unfold closed; omega⟩
    exact wordly_app h1 (ih h.2)
theorem sort_part (s e : Bs) (z n : Nat) (hs : words s = [[112, 97, 114, 116]]) (hs2 : ∃ s', s = s' ++ [32]) (c : UInt8) (hc : c.toNat < 128) (hcb : char c.toNat = [32]) (he : words e = [[101, 110, 100]]) :
    sortKey (s ++ (List.replicate z 48 ++ dec n) ++ c :: e) 0 = [112, 97, 114, 116, 32] ++ (numKey n ++ [32, 101, 110, 100]) := by
  obtain ⟨s', rfl⟩ := hs2
  have hd : digits (List.replicate z 48 ++ dec n) = true := by
    rw [digits_app, (dec_ok n).1, Bool.and_true]
    exact List.all_eq_true.2 fun c hc => by rw [(List.mem_replicate.1 hc).2]; rfl
  have hne : List.replicate z 48 ++ dec n ≠ [] := fun h => by
    have h1 := congrArg List.length h
    have h2 := (dec_ok n).2.2.2.1
    rw [List.length_append, List.length_nil] at h1
    omega
  have hw : words (s' ++ [32] ++ (List.replicate z 48 ++ dec n) ++ c :: e) = [[112, 97, 114, 116], List.replicate z 48 ++ dec n, [101, 110, 100]] := by
    rw [words_sep c _ _ hc hcb, he]
    have h1 : s' ++ [32] ++ (List.replicate z 48 ++ dec n) = s' ++ 32 :: (List.replicate z 48 ++ dec n) := by simp
    have h2 : words (s' ++ [32]) = words s' := by rw [words_sep 32 s' [] (by decide) char_blank, words_nil, List.append_nil]
    rw [h1, words_sep 32 _ _ (by decide) char_blank, ← h2, hs, words_word (words_digits hd) hne]
    rfl
  unfold sortKey cut
  have h0 : (min (max (0 : Int) 0) ((s' ++ [32] ++ (List.replicate z 48 ++ dec n) ++ c :: e).length : Int)).toNat = 0 := by omega
  rw [h0, List.drop_zero, hw]
  have e1 : sortWord [112, 97, 114, 116] = [112, 97, 114, 116] := rfl
  have e2 : sortWord [101, 110, 100] = [101, 110, 100] := rfl
  have e3 : sortWord (List.replicate z 48 ++ dec n) = numKey n := by unfold sortWord; rw [if_pos hd, number_zeros]
  simp only [List.map_cons, List.map_nil, e1, e2, e3, join]
  simp
end Ke
