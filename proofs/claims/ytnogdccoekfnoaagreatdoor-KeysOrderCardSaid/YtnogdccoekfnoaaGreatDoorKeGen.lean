/-
  Words as they are found one after the other. Own text; no program in sight. Conditions: none.
-/
import Derived.Test.YtnogdccoekfnoaaGreatDoorKeMem
import Derived.Lib.Join
import Derived.Lib.SlTrimSet
namespace Ke
theorem enc_len (c : Nat) : (enc c).length ≤ 4 := by unfold enc; split <;> (try split) <;> (try split) <;> simp
theorem tab_len : tab.all (fun p => decide (p.2.length ≤ 4)) = true := by decide +kernel
theorem mem_lookup : ∀ {l : List (Nat × Bs)} {c : Nat} {s : Bs}, l.lookup c = some s → ∃ p ∈ l, p.2 = s
  | [], _, _, h => by cases h
  | (a, b) :: r, c, s, h => by
    rw [List.lookup_cons] at h
    split at h
    · cases h; exact ⟨_, .head _, rfl⟩
    · obtain ⟨p, h1, h2⟩ := mem_lookup h
      exact ⟨p, .tail _ h1, h2⟩
theorem char_len (c : Nat) : (char c).length ≤ 4 := by
  unfold char
  split
  · exact enc_len c
  · split
    · exact enc_len _
    · split
      · simp
      · split
        · simp
        · split
          · rename_i s hs
            obtain ⟨p, h1, rfl⟩ := mem_lookup hs
            exact of_decide_eq_true (List.all_eq_true.1 tab_len p h1)
          · split
            · exact enc_len _
            · split
              · exact enc_len _
              · split
                · exact enc_len _
                · simp
theorem wf_end (w : Bs) : wf w [] = if w = [] then [] else [w] := rfl
theorem wf_in {c : Nat} (h : char c ≠ [32]) (w : Bs) (r : List Nat) : wf w (c :: r) = wf (w ++ char c) r := by
  show (if char c = [32] then _ else _) = _
  rw [if_neg h]
theorem wf_out {c : Nat} (h : char c = [32]) {w : Bs} (hw : w ≠ []) (r : List Nat) : wf w (c :: r) = w :: wf [] r := by
  show (if char c = [32] then (if w = [] then _ else _) else _) = _
  rw [if_pos h, if_neg hw]
theorem wf_out0 {c : Nat} (h : char c = [32]) (r : List Nat) : wf [] (c :: r) = wf [] r := by
  show (if char c = [32] then (if ([] : Bs) = [] then _ else _) else _) = _
  rw [if_pos h, if_pos rfl]
theorem drop_at {α : Type} {l : List α} {k : Nat} {x : α} {r : List α} (h : l.drop k = x :: r) : l[k]? = some x ∧ l.drop (k + 1) = r := by
  have h1 := congrArg List.head? h
  have h2 := congrArg List.tail h
  rw [List.head?_drop] at h1
  rw [List.tail_drop] at h2
  exact ⟨h1, h2⟩
/-- What has been found, what stands in the word, and what is left. -/
structure WInv (s : Bs) (i k : Nat) (w : Bs) : Prop where
  le : i ≤ s.length
  wl : w.length ≤ 4 * i
  kl : k ≤ (words s).length
  eq : (words s).drop k = wf w (runes (s.drop i))
theorem WInv.start (s : Bs) : WInv s 0 0 [] := ⟨Nat.zero_le _, Nat.zero_le _, Nat.zero_le _, rfl⟩
theorem WInv.in {s : Bs} {i k : Nat} {w : Bs} (h : WInv s i k w) (hi : i < s.length) (hc : char (Go.Utf8.decode ⟨s.toArray⟩ i).1 ≠ [32]) : WInv s (i + (Go.Utf8.decode ⟨s.toArray⟩ i).2) k (w ++ char (Go.Utf8.decode ⟨s.toArray⟩ i).1) := by
  obtain ⟨h1, h2⟩ := decode_width s hi
  refine ⟨h2, ?_, h.kl, by rw [h.eq, runes_at hi, wf_in hc]⟩
  have := char_len (Go.Utf8.decode ⟨s.toArray⟩ i).1
  have := h.wl
  rw [List.length_append]; omega
theorem WInv.out0 {s : Bs} {i k : Nat} (h : WInv s i k []) (hi : i < s.length) (hc : char (Go.Utf8.decode ⟨s.toArray⟩ i).1 = [32]) : WInv s (i + (Go.Utf8.decode ⟨s.toArray⟩ i).2) k [] := by
  obtain ⟨h1, h2⟩ := decode_width s hi
  exact ⟨h2, by simp, h.kl, by rw [h.eq, runes_at hi, wf_out0 hc]⟩
theorem WInv.out {s : Bs} {i k : Nat} {w : Bs} (h : WInv s i k w) (hi : i < s.length) (hc : char (Go.Utf8.decode ⟨s.toArray⟩ i).1 = [32]) (hw : w ≠ []) : (words s)[k]? = some w ∧ WInv s (i + (Go.Utf8.decode ⟨s.toArray⟩ i).2) (k + 1) [] := by
  obtain ⟨h1, h2⟩ := decode_width s hi
  have he := h.eq
  rw [runes_at hi, wf_out hc hw] at he
  obtain ⟨g1, g2⟩ := drop_at he
  exact ⟨g1, h2, by simp, (List.getElem?_eq_some_iff.1 g1).1, g2⟩
theorem WInv.last {s : Bs} {i k : Nat} {w : Bs} (h : WInv s i k w) (hi : ¬ i < s.length) (hw : w ≠ []) : (words s)[k]? = some w ∧ k + 1 = (words s).length := by
  have he := h.eq
  rw [runes_end (by omega), wf_end, if_neg hw] at he
  obtain ⟨g1, g2⟩ := drop_at he
  have := congrArg List.length g2
  have := (List.getElem?_eq_some_iff.1 g1).1
  simp at *
  exact ⟨g1, by omega⟩
theorem WInv.end0 {s : Bs} {i k : Nat} (h : WInv s i k []) (hi : ¬ i < s.length) : k = (words s).length := by
  have he := h.eq
  have := h.kl
  rw [runes_end (by omega), wf_end, if_pos rfl] at he
  have := congrArg List.length he
  simp at this
  omega
def total : List Bs → Nat
  | [] => 0
  | a :: r => a.length + total r
theorem wf_len : ∀ (r : List Nat) (w : Bs), (wf w r).length ≤ r.length + 1 ∧ total (wf w r) ≤ w.length + 4 * r.length
  | [], w => by
    unfold wf
    split
    · exact ⟨by simp, by simp [total]⟩
    · exact ⟨by simp, by simp [total]⟩
  | c :: r, w => by
    unfold wf
    have h0 := wf_len r []
    split
    · split
      · simp only [List.length_cons, List.length_nil] at *; omega
      · simp only [List.length_cons, List.length_nil, total] at *; omega
    · have h1 := wf_len r (w ++ char c)
      have h2 := char_len c
      simp only [List.length_cons, List.length_append] at *; omega
theorem join_len : ∀ l : List Bs, (join l).length ≤ total l + l.length
  | [] => by simp [join]
  | [a] => by simp [join, total]
  | a :: b :: r => by
    have := join_len (b :: r)
    simp only [join, total, List.length_append, List.length_cons, List.length_nil] at *
    omega
theorem words_len (s : Bs) : (words s).length ≤ s.length + 1 ∧ (join (words s)).length ≤ 5 * s.length + 1 := by
  have h1 := wf_len (runes s) []
  have h2 := join_len (words s)
  have h3 := runes_len s.length s
  unfold words at *
  unfold runes at *
  simp only [List.length_nil] at h1
  omega
theorem words_each (s : Bs) : ∀ w ∈ words s, w.length ≤ 4 * s.length := by
  have h : ∀ (l : List Bs), ∀ w ∈ l, w.length ≤ total l := by
    intro l
    induction l with
    | nil => intro w hw; cases hw
    | cons a r ih =>
      intro w hw
      rcases List.mem_cons.1 hw with rfl | hw
      · simp [total]
      · have := ih w hw; simp only [total]; omega
  intro w hw
  have h1 := (wf_len (runes s) []).2
  have h3 := runes_len s.length s
  have h4 := h _ w hw
  unfold words runes at *
  simp only [List.length_nil] at h1
  omega
theorem join_lib : ∀ l : List Bs, Go.Lib.join l [32] = join l
  | [] => rfl
  | [a] => Go.Lib.join_one a [32]
  | a :: b :: r => by
    have h := join_lib (b :: r)
    rw [Go.Lib.join_cons] at h ⊢
    show a ++ Go.Lib.joinTail [32] (b :: r) = a ++ [32] ++ join (b :: r)
    rw [← h]
    simp [Go.Lib.joinTail]
def tens : Bs := [48, 49, 50, 51, 52, 53, 54, 55, 56, 57]
theorem tens_digit (c : UInt8) : tens.contains c = digit c := by
  have h : ∀ n < 256, tens.contains (UInt8.ofNat n) = digit (UInt8.ofNat n) := by decide +kernel
  have := h c.toNat c.toNat_lt
  rwa [UInt8.ofNat_toNat] at this
theorem drop_keeps {p : UInt8 → Bool} {c : UInt8} : ∀ {l : Bs}, c ∈ l → p c = false → c ∈ l.dropWhile p
  | [], h, _ => by cases h
  | d :: r, h, hp => by
    rw [List.dropWhile_cons]
    split
    · rename_i hd
      rcases List.mem_cons.1 h with rfl | h
      · rw [hp] at hd; cases hd
      · exact drop_keeps h hp
    · exact h
theorem drop_all {p : UInt8 → Bool} : ∀ {l : Bs}, (∀ c ∈ l, p c = true) → l.dropWhile p = []
  | [], _ => rfl
  | d :: r, h => by rw [List.dropWhile_cons_of_pos (h d (.head _))]; exact drop_all fun c hc => h c (.tail _ hc)
theorem trim_digits (s : Bs) : (Go.Lib.trimS s tens == []) = digits s := by
  unfold Go.Lib.trimS Go.Lib.trimLeftS Go.Lib.trimRightS digits
  cases hd : s.all digit with
  | true =>
    have h : ∀ c ∈ s.reverse, tens.contains c = true := fun c hc => by rw [tens_digit]; exact List.all_eq_true.1 hd c (List.mem_reverse.1 hc)
    rw [drop_all h]; rfl
  | false =>
    obtain ⟨c, hc, hn⟩ : ∃ c ∈ s, digit c = false := by
      have := List.all_eq_false.1 hd
      obtain ⟨c, hc, hn⟩ := this
      exact ⟨c, hc, by simpa using hn⟩
    have h1 : tens.contains c = false := by rw [tens_digit]; exact hn
    have h2 := drop_keeps (p := (tens.contains ·)) (List.mem_reverse.2 (drop_keeps (p := (tens.contains ·)) (List.mem_reverse.2 hc) h1)) h1
    rw [beq_eq_false_iff_ne]
    intro he
    rw [he] at h2; cases h2
theorem dropLast_take (w : Bs) : w.take (w.length - 1) = w.dropLast := by rw [List.dropLast_eq_take]
theorem strip_len (w : Bs) : (strip w).length ≤ w.length + 1 := by
  unfold strip
  have h : ∀ (l : Bs) (p : UInt8 → Bool), (l.dropWhile p).length ≤ l.length := by
    intro l p
    induction l with
    | nil => simp
    | cons a r ih => rw [List.dropWhile_cons]; split <;> simp only [List.length_cons] <;> omega
  have := h w.dropLast (· == 48)
  rw [List.length_append, List.length_drop]
  rw [List.length_dropLast] at this
  omega
theorem sortWord_len (w : Bs) : (sortWord w).length ≤ w.length + 3 := by
  have h := strip_len w
  unfold sortWord
  split
  · unfold number
    simp only [List.length_append, List.length_cons, List.length_nil]
    omega
  · omega
theorem sort_len (s : Bs) : (join ((words s).map sortWord)).length ≤ 8 * s.length + 4 := by
  have h1 := wf_len (runes s) []
  have h3 := runes_len s.length s
  have h2 := join_len ((words s).map sortWord)
  have h4 : ∀ l : List Bs, total (l.map sortWord) ≤ total l + 3 * l.length := by
    intro l
    induction l with
    | nil => simp [total]
    | cons a r ih =>
      have := sortWord_len a
      simp only [List.map_cons, total, List.length_cons]; omega
  have h5 := h4 (words s)
  rw [List.length_map] at h2
  unfold words runes at *
  simp only [List.length_nil] at h1
  omega
end Ke
