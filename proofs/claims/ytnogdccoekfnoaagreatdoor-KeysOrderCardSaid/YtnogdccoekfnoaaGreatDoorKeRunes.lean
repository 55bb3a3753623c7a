/-
  Runes of texts that are joined, and of encoded characters. Own text. Conditions: none.
-/
import Derived.Test.YtnogdccoekfnoaaGreatDoorKeSpec
namespace Ke
open Go.Lib (decodeL decodeN)
/-- A text that begins no continuation. -/
def opens (t : Bs) : Prop := t = [] ∨ ∃ b r, t = b :: r ∧ b.toNat / 64 ≠ 2
theorem opens_cons {b : UInt8} {r : Bs} (h : b.toNat / 64 ≠ 2) : opens (b :: r) := .inr ⟨b, r, rfl, h⟩
theorem opens_nil : opens [] := .inl rfl
theorem opens_app {s t : Bs} (h : opens s) (hs : s ≠ []) : opens (s ++ t) := by
  rcases h with h | ⟨b, r, rfl, h⟩
  · exact absurd h hs
  · exact .inr ⟨b, r ++ t, rfl, h⟩
theorem opens_app' {s t : Bs} (h : opens s) (ht : opens t) : opens (s ++ t) := by
  cases s with
  | nil => exact ht
  | cons a r => exact opens_app h (by simp)
theorem decodeL_app (l t : Bs) (hl : l ≠ []) (ht : opens t) : decodeL (l ++ t) = decodeL l := by
  rw [Go.Lib.decodeL_N, Go.Lib.decodeL_N]
  rcases ht with rfl | ⟨b, r, rfl, hb⟩
  · rw [List.append_nil]
  · rcases l with _ | ⟨a0, _ | ⟨a1, _ | ⟨a2, _ | ⟨a3, l⟩⟩⟩⟩
    · exact absurd rfl hl
    all_goals
      simp only [List.cons_append, List.nil_append, List.length_cons, List.length_nil, List.length_append, List.getD_cons_zero, List.getD_cons_succ, List.getD_nil]
      unfold decodeN
      first
        | (have e1 : (0 + 1 < 0 + 1) = False := by simp
           simp [hb, Nat.lt_irrefl])
        | (simp [hb, Nat.lt_irrefl]; done)
        | skip
theorem runes_app_n : ∀ (n : Nat) (s t : Bs), s.length ≤ n → opens t → runes (s ++ t) = runes s ++ runes t
  | _, [], t, _, _ => by simp [runes_nil]
  | 0, a :: r, t, h, _ => by simp at h
  | n + 1, a :: r, t, h, ht => by
    have hne : a :: r ≠ [] := by simp
    have hw := Go.Lib.decodeL_width (a :: r)
    have hl := Go.Lib.decodeL_le (a :: r) hne
    rw [runes_cons (s := (a :: r) ++ t) (by simp), runes_cons hne, decodeL_app _ _ hne ht, List.drop_append_of_le_length hl, runes_app_n n _ t (by simp only [List.length_drop]; simp only [List.length_cons] at h; simp only [List.length_cons]; omega) ht]
    rfl
theorem runes_app (s t : Bs) (h : opens t) : runes (s ++ t) = runes s ++ runes t := runes_app_n _ s t (Nat.le_refl _) h
theorem runes_ascii {c : UInt8} (r : Bs) (h : c.toNat < 128) : runes (c :: r) = c.toNat :: runes r := by
  rw [runes_cons (by simp), Go.Lib.decodeL_ascii c r h]; rfl
theorem toByte {n : Nat} (h : n < 256) : (UInt8.ofNat n).toNat = n := by simp; omega
theorem enc1 {c : Nat} (h : c < 128) : enc c = [UInt8.ofNat c] := by
  unfold enc; rw [if_pos h]
theorem enc2 {c : Nat} (h1 : 128 ≤ c) (h : c < 2048) : enc c = [UInt8.ofNat (192 + c / 64), UInt8.ofNat (128 + c % 64)] := by
  unfold enc; rw [if_neg (by omega), if_pos h]
theorem enc3 {c : Nat} (h1 : 2048 ≤ c) (h : okc c) : enc c = [UInt8.ofNat (224 + c / 4096), UInt8.ofNat (128 + c / 64 % 64), UInt8.ofNat (128 + c % 64)] := by
  unfold okc at h
  unfold enc; rw [if_neg (by omega), if_neg (by omega), if_pos (by omega)]
theorem enc_opens {c : Nat} (h : okc c) : opens (enc c) ∧ enc c ≠ [] := by
  by_cases h1 : c < 128
  · rw [enc1 h1]; exact ⟨opens_cons (by rw [toByte (by omega)]; omega), by simp⟩
  · by_cases h2 : c < 2048
    · rw [enc2 (by omega) h2]; exact ⟨opens_cons (by rw [toByte (by omega)]; omega), by simp⟩
    · rw [enc3 (by omega) h]; unfold okc at h; exact ⟨opens_cons (by rw [toByte (by omega)]; omega), by simp⟩
theorem decodeL_enc {c : Nat} (h : okc c) : decodeL (enc c) = (c, (enc c).length) := by
  rw [Go.Lib.decodeL_N]
  by_cases h1 : c < 128
  · rw [enc1 h1]
    simp only [List.length_cons, List.length_nil, List.getD_cons_zero, List.getD_cons_succ, List.getD_nil]
    rw [toByte (by omega)]
    unfold decodeN
    rw [if_pos h1]
  · by_cases h2 : c < 2048
    · rw [enc2 (by omega) h2]
      simp only [List.length_cons, List.length_nil, List.getD_cons_zero, List.getD_cons_succ, List.getD_nil]
      rw [toByte (by omega), toByte (by omega)]
      unfold decodeN
      rw [if_neg (by omega), if_pos ⟨by omega, by omega, by omega⟩, if_pos (by omega)]
      refine Prod.ext ?_ rfl
      show _ = c
      simp only
      omega
    · rw [enc3 (by omega) h]
      unfold okc at h
      simp only [List.length_cons, List.length_nil, List.getD_cons_zero, List.getD_cons_succ, List.getD_nil]
      rw [toByte (by omega), toByte (by omega), toByte (by omega)]
      unfold decodeN
      rw [if_neg (by omega), if_neg (by omega), if_pos ⟨by omega, ⟨by omega, by omega⟩, by omega, by omega⟩, if_pos ⟨by omega, by omega⟩]
      refine Prod.ext ?_ rfl
      show _ = c
      simp only
      omega
theorem runes_enc {c : Nat} (h : okc c) : runes (enc c) = [c] := by
  rw [runes_cons (enc_opens h).2, decodeL_enc h, List.drop_eq_nil_of_le (Nat.le_refl _)]; rfl
def encs (l : List Nat) : Bs := l.flatMap enc
theorem encs_opens : ∀ (l : List Nat), (∀ c ∈ l, okc c) → opens (encs l)
  | [], _ => opens_nil
  | c :: _r, h => opens_app (enc_opens (h c (.head _))).1 (enc_opens (h c (.head _))).2
theorem runes_encs : ∀ (l : List Nat), (∀ c ∈ l, okc c) → runes (encs l) = l
  | [], _ => rfl
  | c :: r, h => by
    show runes (enc c ++ encs r) = _
    rw [runes_app _ _ (encs_opens r fun d hd => h d (.tail _ hd)), runes_enc (h c (.head _)), runes_encs r fun d hd => h d (.tail _ hd)]
    rfl
end Ke
