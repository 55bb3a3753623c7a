/-
  Words of folded texts, of texts that are joined, of texts with signs about them. Own text. Conditions: none.
-/
import Derived.Test.YtnogdccoekfnoaaGreatDoorKeRunes
namespace Ke
/-- Characters that are folded to themselves. -/
def closed (c : Nat) : Prop := (97 ≤ c ∧ c ≤ 122) ∨ (48 ≤ c ∧ c ≤ 57) ∨ ((945 ≤ c ∧ c ≤ 969) ∧ c ≠ 962) ∨ (1072 ≤ c ∧ c ≤ 1103)
instance (c : Nat) : Decidable (closed c) := by unfold closed; infer_instance
theorem closed_okc {c : Nat} (h : closed c) : okc c := by unfold closed at h; unfold okc; omega
theorem tab_greek {c : Nat} (h : 945 ≤ c ∧ c ≤ 969) : tab.lookup c = none := by
  have h1 : ∀ k < 25, tab.lookup (945 + k) = none := by decide +kernel
  have := h1 (c - 945) (by omega)
  rwa [show 945 + (c - 945) = c by omega] at this
theorem tab_cyr {c : Nat} (h : 1072 ≤ c ∧ c ≤ 1103) : tab.lookup c = none := by
  have h1 : ∀ k < 32, tab.lookup (1072 + k) = none := by decide +kernel
  have := h1 (c - 1072) (by omega)
  rwa [show 1072 + (c - 1072) = c by omega] at this
theorem char_closed {c : Nat} (h : closed c) : char c = enc c := by
  unfold char
  unfold closed at h
  by_cases h1 : (97 ≤ c ∧ c ≤ 122) ∨ (48 ≤ c ∧ c ≤ 57)
  · rw [if_pos h1]
  · have h2 : ((945 ≤ c ∧ c ≤ 969) ∧ c ≠ 962) ∨ (1072 ≤ c ∧ c ≤ 1103) := by omega
    rw [if_neg h1, if_neg (by omega), if_neg (by omega), if_neg (by omega)]
    have h3 : tab.lookup c = none := by
      rcases h2 with h2 | h2
      · exact tab_greek h2.1
      · exact tab_cyr h2
    rw [h3]
    simp only
    rw [if_neg (by omega), if_pos (by omega)]
theorem enc_no_blank {c : Nat} (h : closed c) : enc c ≠ [32] := by
  intro he
  have h1 := runes_enc (closed_okc h)
  rw [he] at h1
  have h2 : runes [32] = [32] := by kernel_rfl
  rw [h2] at h1
  have : c = 32 := (List.cons.inj h1).1.symm
  unfold closed at h; omega
def tabImg (s : Bs) : Bool := decide (encs (runes s) = s) && (runes s).all fun c => decide (closed c)
theorem tab_img : tab.all (fun p => tabImg p.2) = true := by decide +kernel
theorem lookup_mem : ∀ {l : List (Nat × Bs)} {c : Nat} {s : Bs}, l.lookup c = some s → (c, s) ∈ l
  | [], _, _, h => by cases h
  | (a, b) :: r, c, s, h => by
    rw [List.lookup_cons] at h
    split at h
    · rename_i he
      have := eq_of_beq he
      subst this; cases h; exact .head _
    · exact .tail _ (lookup_mem h)
/-- A blank, or characters that are folded to themselves. -/
theorem char_img (c : Nat) : char c = [32] ∨ ∃ l, char c = encs l ∧ ∀ d ∈ l, closed d := by
  have one : ∀ d, closed d → ∃ l, enc d = encs l ∧ ∀ x ∈ l, closed x := fun d hd => ⟨[d], by simp [encs], fun x hx => by simp at hx; subst hx; exact hd⟩
  unfold char
  split
  · rename_i h; exact .inr (one c (by unfold closed; omega))
  · split
    · exact .inr (one (c + 32) (by unfold closed; omega))
    · split
      · exact .inl rfl
      · split
        · exact .inr ⟨[], rfl, fun _ h => by cases h⟩
        · split
          · rename_i s hs
            have h1 := List.all_eq_true.1 tab_img _ (lookup_mem hs)
            simp only [tabImg, Bool.and_eq_true, decide_eq_true_eq] at h1
            exact .inr ⟨runes s, h1.1.symm, fun d hd => of_decide_eq_true (List.all_eq_true.1 h1.2 d hd)⟩
          · split
            · exact .inr (one 963 (by decide))
            · split
              · exact .inr (one c (by unfold closed; omega))
              · split
                · exact .inr (one (c + 32) (by unfold closed; omega))
                · exact .inl rfl
def wordly (w : Bs) : Prop := ∃ l, w = encs l ∧ ∀ d ∈ l, closed d
theorem encs_app (a b : List Nat) : encs (a ++ b) = encs a ++ encs b := by simp [encs]
theorem wordly_app {a b : Bs} (ha : wordly a) (hb : wordly b) : wordly (a ++ b) := by
  obtain ⟨l, rfl, h1⟩ := ha
  obtain ⟨m, rfl, h2⟩ := hb
  exact ⟨l ++ m, (encs_app l m).symm, fun d hd => (List.mem_append.1 hd).elim (h1 d) (h2 d)⟩
theorem wf_wordly : ∀ (l : List Nat) (w : Bs), wordly w → ∀ x ∈ wf w l, wordly x
  | [], w, hw, x, h => by
    unfold wf at h
    split at h
    · cases h
    · simp at h; subst h; exact hw
  | c :: r, w, hw, x, h => by
    have h0 : wordly [] := ⟨[], rfl, fun _ h => by cases h⟩
    unfold wf at h
    split at h
    · split at h
      · exact wf_wordly r [] h0 x h
      · rcases List.mem_cons.1 h with rfl | h
        · exact hw
        · exact wf_wordly r [] h0 x h
    · rename_i hne
      rcases char_img c with he | he
      · exact absurd he hne
      · exact wf_wordly r _ (wordly_app hw he) x h
theorem words_wordly (s : Bs) : ∀ x ∈ words s, wordly x := wf_wordly _ _ ⟨[], rfl, fun _ h => by cases h⟩
theorem wf_closed : ∀ (l : List Nat) (w : Bs) (r : List Nat), (∀ d ∈ l, closed d) → wf w (l ++ r) = wf (w ++ encs l) r
  | [], w, r, _ => by simp [encs]
  | c :: l, w, r, h => by
    have hc := h c (.head _)
    show (if char c = [32] then _ else wf (w ++ char c) (l ++ r)) = _
    rw [char_closed hc, if_neg (enc_no_blank hc), wf_closed l _ r fun d hd => h d (.tail _ hd)]
    simp [encs]
theorem encs_runes {w : Bs} (h : wordly w) : ∃ l, w = encs l ∧ runes w = l ∧ ∀ d ∈ l, closed d := by
  obtain ⟨l, rfl, h1⟩ := h
  exact ⟨l, rfl, runes_encs l fun c hc => closed_okc (h1 c hc), h1⟩
theorem wordly_opens {w : Bs} (h : wordly w) : opens w := by
  obtain ⟨l, rfl, h1⟩ := h
  exact encs_opens l fun c hc => closed_okc (h1 c hc)
/-- A word is one word. -/
theorem words_word {w : Bs} (h : wordly w) (hne : w ≠ []) : words w = [w] := by
  obtain ⟨l, rfl, h2, h3⟩ := encs_runes h
  unfold words
  rw [h2]
  have := wf_closed l [] [] h3
  rw [List.append_nil] at this
  rw [this, List.nil_append]
  unfold wf
  rw [if_neg hne]
/-- A sign that is no letter parts words. -/
theorem wf_sep {c : Nat} (hc : char c = [32]) : ∀ (l : List Nat) (w : Bs) (r : List Nat), wf w (l ++ c :: r) = wf w l ++ wf [] r
  | [], w, r => by
    simp only [List.nil_append, wf, hc, if_true]
    split <;> simp
  | d :: l, w, r => by
    simp only [List.cons_append, wf]
    split
    · split
      · exact wf_sep hc l [] r
      · rw [wf_sep hc l [] r, List.cons_append]
    · exact wf_sep hc l _ r
theorem char_blank : char 32 = [32] := by decide
theorem words_sep (c : UInt8) (s t : Bs) (hc : c.toNat < 128) (hb : char c.toNat = [32]) : words (s ++ c :: t) = words s ++ words t := by
  unfold words
  rw [runes_app s (c :: t) (opens_cons (by omega)), runes_ascii t hc, wf_sep hb]
theorem words_nil : words [] = [] := rfl
theorem words_front (c : UInt8) (t : Bs) (hc : c.toNat < 128) (hb : char c.toNat = [32]) : words (c :: t) = words t := by
  have := words_sep c [] t hc hb
  rwa [List.nil_append, words_nil, List.nil_append] at this
theorem words_join : ∀ (l : List Bs), (∀ w ∈ l, wordly w ∧ w ≠ []) → words (join l) = l
  | [], _ => rfl
  | [a], h => words_word (h a (.head _)).1 (h a (.head _)).2
  | a :: b :: r, h => by
    show words (a ++ [32] ++ join (b :: r)) = _
    rw [List.append_assoc, List.singleton_append, words_sep 32 a _ (by decide) char_blank, words_word (h a (.head _)).1 (h a (.head _)).2, words_join (b :: r) fun w hw => h w (.tail _ hw)]
    rfl
theorem fold_fold (s : Bs) : fold (fold s) = fold s := by
  unfold fold
  rw [words_join _ fun w hw => ⟨words_wordly s w hw, words_ne _ _ w hw⟩]
theorem join_app : ∀ (a b : List Bs), a ≠ [] → b ≠ [] → join (a ++ b) = join a ++ 32 :: join b
  | [], _, h, _ => absurd rfl h
  | [x], [], _, h => absurd rfl h
  | [x], y :: r, _, _ => by simp [join]
  | x :: y :: r, b, _, hb => by
    show x ++ [32] ++ join (y :: r ++ b) = x ++ [32] ++ join (y :: r) ++ 32 :: join b
    rw [join_app (y :: r) b (by simp) hb]
    simp
theorem join_ne : ∀ (a : List Bs), (∀ w ∈ a, w ≠ []) → a ≠ [] → join a ≠ []
  | [], _, h => absurd rfl h
  | [x], h, _ => h x (.head _)
  | x :: y :: r, h, _ => by
    have := h x (.head _)
    simp [join]
theorem fold_nil {s : Bs} : fold s = [] ↔ words s = [] := by
  constructor
  · intro h
    cases hw : words s with
    | nil => rfl
    | cons a r =>
      have := join_ne (words s) (fun w hw => words_ne _ _ w hw) (by rw [hw]; simp)
      exact absurd h this
  · intro h; unfold fold; rw [h]; rfl
def both (f g : Bs) : Bs := (if f ≠ [] ∧ g ≠ [] then f ++ [32] else f) ++ g
theorem fold_two (a b : Bs) : fold (a ++ [44, 32, 45, 32] ++ b) = both (fold a) (fold b) := by
  have hw : words (a ++ [44, 32, 45, 32] ++ b) = words a ++ words b := by
    have e : a ++ [44, 32, 45, 32] ++ b = a ++ 44 :: ([32, 45, 32] ++ b) := by simp
    rw [e, words_sep 44 a _ (by decide) (by decide)]
    have : words ([32, 45, 32] ++ b) = words b := by
      show words (32 :: 45 :: 32 :: b) = _
      rw [words_front 32 _ (by decide) char_blank, words_front 45 _ (by decide) (by decide), words_front 32 _ (by decide) char_blank]
    rw [this]
  have ha := fold_nil (s := a)
  have hb := fold_nil (s := b)
  unfold both
  by_cases h1 : words a = []
  · have e1 : fold a = [] := ha.2 h1
    rw [e1, if_neg (by simp), List.nil_append]
    unfold fold
    rw [hw, h1, List.nil_append]
  · by_cases h2 : words b = []
    · have e1 : fold b = [] := hb.2 h2
      rw [e1, if_neg (by simp), List.append_nil]
      unfold fold
      rw [hw, h2, List.append_nil]
    · rw [if_pos ⟨fun h => h1 (ha.1 h), fun h => h2 (hb.1 h)⟩]
      unfold fold
      rw [hw, join_app _ _ h1 h2]
      simp
theorem wf_marks : ∀ (l : List Nat) (w : Bs), wf w (l ++ [769, 803, 32]) = wf w l
  | [], w => by
    have h1 : char 769 = [] := by decide
    have h2 : char 803 = [] := by decide
    simp only [List.nil_append, wf, h1, h2, char_blank, List.append_nil]
    simp
  | c :: r, w => by
    simp only [List.cons_append, wf]
    split
    · split
      · exact wf_marks r []
      · rw [wf_marks r []]
    · exact wf_marks r _
theorem fold_marks (a : Bs) : fold ([32] ++ a ++ [204, 129, 204, 163, 32]) = fold a := by
  have hw : words ([32] ++ a ++ [204, 129, 204, 163, 32]) = words a := by
    show words (32 :: (a ++ [204, 129, 204, 163, 32])) = _
    rw [words_front 32 _ (by decide) char_blank]
    unfold words
    rw [runes_app a _ (opens_cons (by decide)), show runes [204, 129, 204, 163, 32] = [769, 803, 32] by kernel_rfl, wf_marks]
  unfold fold; rw [hw]
theorem fold_paren (a : Bs) : fold ([40] ++ a ++ [41]) = fold a := by
  have hw : words ([40] ++ a ++ [41]) = words a := by
    show words (40 :: (a ++ [41])) = _
    rw [words_front 40 _ (by decide) (by decide), words_sep 41 a [] (by decide) (by decide), words_nil, List.append_nil]
  unfold fold; rw [hw]
theorem words_one {s w : Bs} (h : w ∈ words s) : w ≠ [] ∧ words w = [w] :=
  ⟨words_ne _ _ w h, words_word (words_wordly s w h) (words_ne _ _ w h)⟩
end Ke
