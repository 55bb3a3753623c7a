/-
  Keys in plain Lean: characters, words, sort keys, book numbers. Own text; no program in sight. Conditions: none.
-/
import Derived.Lib.TrimUEq
import Derived.Lib.TrimAscii
import Derived.Lib.MapLaws
import Derived.KernelRfl
namespace Ke
open Go.Lib (decodeL decodeN)
abbrev Bs := List UInt8

/-! ### Runes -/
def runesF : Nat → Bs → List Nat
  | 0, _ => []
  | _ + 1, [] => []
  | f + 1, c :: r => (decodeL (c :: r)).1 :: runesF f ((c :: r).drop (decodeL (c :: r)).2)
def runes (s : Bs) : List Nat := runesF s.length s
theorem runesF_eq : ∀ (f g : Nat) (s : Bs), s.length ≤ f → s.length ≤ g → runesF f s = runesF g s
  | 0, 0, _, _, _ => rfl
  | 0, g + 1, s, h, _ => by
    have : s = [] := List.length_eq_zero_iff.1 (by omega)
    subst this; rfl
  | f + 1, 0, s, _, h => by
    have : s = [] := List.length_eq_zero_iff.1 (by omega)
    subst this; rfl
  | f + 1, g + 1, [], _, _ => rfl
  | f + 1, g + 1, c :: r, h1, h2 => by
    have hw := Go.Lib.decodeL_width (c :: r)
    simp only [List.length_cons] at h1 h2
    simp only [runesF]
    rw [runesF_eq f g _ (by simp; omega) (by simp; omega)]
theorem runes_nil : runes [] = [] := rfl
theorem runes_cons {s : Bs} (h : s ≠ []) : runes s = (decodeL s).1 :: runes (s.drop (decodeL s).2) := by
  cases s with
  | nil => exact absurd rfl h
  | cons c r =>
    have hw := Go.Lib.decodeL_width (c :: r)
    show runesF (r.length + 1) (c :: r) = _
    simp only [runesF]
    unfold runes
    rw [runesF_eq r.length _ _ (by simp; omega) (Nat.le_refl _)]
/-- At a place in a text. -/
theorem runes_at {s : Bs} {i : Nat} (h : i < s.length) : runes (s.drop i) = (Go.Utf8.decode ⟨s.toArray⟩ i).1 :: runes (s.drop (i + (Go.Utf8.decode ⟨s.toArray⟩ i).2)) := by
  have h1 := Go.Lib.decodeL_drop ⟨s.toArray⟩ i
  simp only at h1
  rw [← h1, runes_cons (by simp; omega), List.drop_drop]
theorem runes_end {s : Bs} {i : Nat} (h : s.length ≤ i) : runes (s.drop i) = [] := by rw [List.drop_eq_nil_of_le h]; rfl
theorem decode_le (s : Bs) (i : Nat) : (Go.Utf8.decode ⟨s.toArray⟩ i).1 ≤ 1114111 := by
  rw [← Go.Lib.decodeL_drop ⟨s.toArray⟩ i]; exact Go.Lib.decodeL_rune _
theorem decode_width (s : Bs) {i : Nat} (h : i < s.length) : 1 ≤ (Go.Utf8.decode ⟨s.toArray⟩ i).2 ∧ i + (Go.Utf8.decode ⟨s.toArray⟩ i).2 ≤ s.length := by
  have h1 : decodeL (s.drop i) = Go.Utf8.decode ⟨s.toArray⟩ i := Go.Lib.decodeL_drop ⟨s.toArray⟩ i
  rw [← h1]
  refine ⟨Go.Lib.decodeL_width _, ?_⟩
  have := Go.Lib.decodeL_le (s.drop i) (by simp; omega)
  simp only [List.length_drop] at this
  omega
theorem runes_le : ∀ (f : Nat) (s : Bs), ∀ c ∈ runesF f s, c ≤ 1114111
  | 0, _, c, h => by cases h
  | _ + 1, [], c, h => by cases h
  | f + 1, d :: r, c, h => by
    simp only [runesF, List.mem_cons] at h
    rcases h with rfl | h
    · exact Go.Lib.decodeL_rune _
    · exact runes_le f _ c h
theorem runes_len : ∀ (f : Nat) (s : Bs), (runesF f s).length ≤ s.length
  | 0, _ => Nat.zero_le _
  | _ + 1, [] => Nat.le_refl _
  | f + 1, d :: r => by
    have hw := Go.Lib.decodeL_width (d :: r)
    have := runes_len f ((d :: r).drop (decodeL (d :: r)).2)
    simp only [runesF, List.length_cons]
    simp only [List.length_drop, List.length_cons] at this
    omega

/-! ### Characters -/
def enc (c : Nat) : Bs :=
  if c < 128 then [UInt8.ofNat c] else if c < 2048 then [UInt8.ofNat (192 + c / 64), UInt8.ofNat (128 + c % 64)]
  else if c < 65536 then [UInt8.ofNat (224 + c / 4096), UInt8.ofNat (128 + c / 64 % 64), UInt8.ofNat (128 + c % 64)]
  else [UInt8.ofNat (240 + c / 262144), UInt8.ofNat (128 + c / 4096 % 64), UInt8.ofNat (128 + c / 64 % 64), UInt8.ofNat (128 + c % 64)]
/-- Characters that can be told and are not in the highest planes. -/
def okc (c : Nat) : Prop := c < 55296 ∨ (57344 ≤ c ∧ c < 65536)
theorem valid_of {c : Nat} (h : okc c) : Go.Utf8.valid (c : Int) = true := by
  unfold okc at h
  unfold Go.Utf8.valid
  simp only [Bool.or_eq_true, Bool.and_eq_true, decide_eq_true_eq]
  omega
theorem enc_valid {c : Nat} (hv : Go.Utf8.valid (c : Int) = true) : (Go.Utf8.encode (c : Int)).data.toList = (if c < 128 then (⟨#[UInt8.ofNat c]⟩ : ByteArray) else if c < 2048 then ⟨#[UInt8.ofNat (192 + c / 64), UInt8.ofNat (128 + c % 64)]⟩ else if c < 65536 then ⟨#[UInt8.ofNat (224 + c / 4096), UInt8.ofNat (128 + c / 64 % 64), UInt8.ofNat (128 + c % 64)]⟩
    else ⟨#[UInt8.ofNat (240 + c / 262144), UInt8.ofNat (128 + c / 4096 % 64), UInt8.ofNat (128 + c / 64 % 64), UInt8.ofNat (128 + c % 64)]⟩).data.toList := by
  unfold Go.Utf8.encode
  simp only [hv, if_true, Int.toNat_natCast]
theorem enc_encode {c : Nat} (h : okc c) : (Go.Utf8.encode (c : Int)).data.toList = enc c := by
  rw [enc_valid (valid_of h)]
  unfold enc
  by_cases h1 : c < 128
  · rw [if_pos h1, if_pos h1]
  · rw [if_neg h1, if_neg h1]
    by_cases h2 : c < 2048
    · rw [if_pos h2, if_pos h2]
    · rw [if_neg h2, if_neg h2]
      by_cases h3 : c < 65536
      · rw [if_pos h3, if_pos h3]
      · rw [if_neg h3, if_neg h3]
def rows : List (Bs × Bs) := [
  ([97], [195, 160, 195, 161, 195, 162, 195, 163, 195, 164, 195, 165, 196, 129, 196, 131, 196, 133, 195, 128, 195, 129, 195, 130, 195, 131, 195, 132, 195, 133, 196, 128, 196, 130, 196, 132]),
  ([99], [195, 167, 196, 135, 196, 137, 196, 139, 196, 141, 195, 135, 196, 134, 196, 136, 196, 138, 196, 140]),
  ([100], [196, 143, 196, 145, 195, 176, 196, 142, 196, 144, 195, 144]),
  ([101], [195, 168, 195, 169, 195, 170, 195, 171, 196, 147, 196, 149, 196, 151, 196, 153, 196, 155, 195, 136, 195, 137, 195, 138, 195, 139, 196, 146, 196, 148, 196, 150, 196, 152, 196, 154]),
  ([103], [196, 157, 196, 159, 196, 161, 196, 163, 196, 156, 196, 158, 196, 160, 196, 162]),
  ([104], [196, 165, 196, 167, 196, 164, 196, 166]),
  ([105], [195, 172, 195, 173, 195, 174, 195, 175, 196, 169, 196, 171, 196, 173, 196, 175, 196, 177, 195, 140, 195, 141, 195, 142, 195, 143, 196, 168, 196, 170, 196, 172, 196, 174, 196, 176]),
  ([106], [196, 181, 196, 180]),
  ([107], [196, 183, 196, 182]),
  ([108], [196, 186, 196, 188, 196, 190, 197, 130, 196, 185, 196, 187, 196, 189, 197, 129]),
  ([110], [195, 177, 197, 132, 197, 134, 197, 136, 195, 145, 197, 131, 197, 133, 197, 135]),
  ([111], [195, 178, 195, 179, 195, 180, 195, 181, 195, 182, 195, 184, 197, 141, 197, 143, 197, 145, 198, 161, 195, 146, 195, 147, 195, 148, 195, 149, 195, 150, 195, 152, 197, 140, 197, 142, 197, 144, 198, 160]),
  ([114], [197, 149, 197, 151, 197, 153, 197, 148, 197, 150, 197, 152]),
  ([115], [197, 155, 197, 157, 197, 159, 197, 161, 197, 154, 197, 156, 197, 158, 197, 160]),
  ([116], [197, 163, 197, 165, 197, 167, 197, 162, 197, 164, 197, 166]),
  ([117], [195, 185, 195, 186, 195, 187, 195, 188, 197, 169, 197, 171, 197, 173, 197, 175, 197, 177, 197, 179, 198, 176, 195, 153, 195, 154, 195, 155, 195, 156, 197, 168, 197, 170, 197, 172, 197, 174, 197, 176, 197, 178, 198, 175]),
  ([119], [197, 181, 197, 180]),
  ([121], [195, 189, 195, 191, 197, 183, 195, 157, 197, 184, 197, 182]),
  ([122], [197, 186, 197, 188, 197, 190, 197, 185, 197, 187, 197, 189]),
  ([97, 101], [195, 166, 195, 134]),
  ([111, 101], [197, 147, 197, 146]),
  ([115, 115], [195, 159]),
  ([116, 104], [195, 190, 195, 158]),
  ([206, 177], [206, 172, 206, 134]),
  ([206, 181], [206, 173, 206, 136]),
  ([206, 183], [206, 174, 206, 137]),
  ([206, 185], [206, 175, 207, 138, 206, 144, 206, 138, 206, 170]),
  ([206, 191], [207, 140, 206, 140]),
  ([207, 133], [207, 141, 207, 139, 206, 176, 206, 142, 206, 171]),
  ([207, 137], [207, 142, 206, 143]),
  ([208, 181], [209, 145, 208, 129])]
/-- The letters of the table, with what they are folded to. -/
def tab : List (Nat × Bs) := [
  (224, [97]), (225, [97]), (226, [97]), (227, [97]), (228, [97]), (229, [97]), (257, [97]), (259, [97]), (261, [97]), (192, [97]), (193, [97]), (194, [97]), (195, [97]), (196, [97]), (197, [97]), (256, [97]), (258, [97]), (260, [97]),
  (231, [99]), (263, [99]), (265, [99]), (267, [99]), (269, [99]), (199, [99]), (262, [99]), (264, [99]), (266, [99]), (268, [99]),
  (271, [100]), (273, [100]), (240, [100]), (270, [100]), (272, [100]), (208, [100]),
  (232, [101]), (233, [101]), (234, [101]), (235, [101]), (275, [101]), (277, [101]), (279, [101]), (281, [101]), (283, [101]), (200, [101]), (201, [101]), (202, [101]), (203, [101]), (274, [101]), (276, [101]), (278, [101]), (280, [101]), (282, [101]),
  (285, [103]), (287, [103]), (289, [103]), (291, [103]), (284, [103]), (286, [103]), (288, [103]), (290, [103]),
  (293, [104]), (295, [104]), (292, [104]), (294, [104]),
  (236, [105]), (237, [105]), (238, [105]), (239, [105]), (297, [105]), (299, [105]), (301, [105]), (303, [105]), (305, [105]), (204, [105]), (205, [105]), (206, [105]), (207, [105]), (296, [105]), (298, [105]), (300, [105]), (302, [105]), (304, [105]),
  (309, [106]), (308, [106]),
  (311, [107]), (310, [107]),
  (314, [108]), (316, [108]), (318, [108]), (322, [108]), (313, [108]), (315, [108]), (317, [108]), (321, [108]),
  (241, [110]), (324, [110]), (326, [110]), (328, [110]), (209, [110]), (323, [110]), (325, [110]), (327, [110]),
  (242, [111]), (243, [111]), (244, [111]), (245, [111]), (246, [111]), (248, [111]), (333, [111]), (335, [111]), (337, [111]), (417, [111]), (210, [111]), (211, [111]), (212, [111]), (213, [111]), (214, [111]), (216, [111]), (332, [111]), (334, [111]), (336, [111]), (416, [111]),
  (341, [114]), (343, [114]), (345, [114]), (340, [114]), (342, [114]), (344, [114]),
  (347, [115]), (349, [115]), (351, [115]), (353, [115]), (346, [115]), (348, [115]), (350, [115]), (352, [115]),
  (355, [116]), (357, [116]), (359, [116]), (354, [116]), (356, [116]), (358, [116]),
  (249, [117]), (250, [117]), (251, [117]), (252, [117]), (361, [117]), (363, [117]), (365, [117]), (367, [117]), (369, [117]), (371, [117]), (432, [117]), (217, [117]), (218, [117]), (219, [117]), (220, [117]), (360, [117]), (362, [117]), (364, [117]), (366, [117]), (368, [117]), (370, [117]), (431, [117]),
  (373, [119]), (372, [119]),
  (253, [121]), (255, [121]), (375, [121]), (221, [121]), (376, [121]), (374, [121]),
  (378, [122]), (380, [122]), (382, [122]), (377, [122]), (379, [122]), (381, [122]),
  (230, [97, 101]), (198, [97, 101]),
  (339, [111, 101]), (338, [111, 101]),
  (223, [115, 115]),
  (254, [116, 104]), (222, [116, 104]),
  (940, [206, 177]), (902, [206, 177]),
  (941, [206, 181]), (904, [206, 181]),
  (942, [206, 183]), (905, [206, 183]),
  (943, [206, 185]), (970, [206, 185]), (912, [206, 185]), (906, [206, 185]), (938, [206, 185]),
  (972, [206, 191]), (908, [206, 191]),
  (973, [207, 133]), (971, [207, 133]), (944, [207, 133]), (910, [207, 133]), (939, [207, 133]),
  (974, [207, 137]), (911, [207, 137]),
  (1105, [208, 181]), (1025, [208, 181])]
/-- What a character is folded to. -/
def char (c : Nat) : Bs :=
  if (97 ≤ c ∧ c ≤ 122) ∨ (48 ≤ c ∧ c ≤ 57) then enc c
  else if 65 ≤ c ∧ c ≤ 90 then enc (c + 32)
  else if c < 128 then [32]
  else if (768 ≤ c ∧ c ≤ 879) ∨ (65056 ≤ c ∧ c ≤ 65071) then []
  else match tab.lookup c with
    | some s => s
    | none =>
      if c = 962 then enc 963
      else if (945 ≤ c ∧ c ≤ 969) ∨ (1072 ≤ c ∧ c ≤ 1103) then enc c
      else if ((913 ≤ c ∧ c ≤ 937) ∧ c ≠ 930) ∨ (1040 ≤ c ∧ c ≤ 1071) then enc (c + 32)
      else [32]
def rowTab : List (Bs × Bs) → List (Nat × Bs)
  | [] => []
  | (a, b) :: r => (runes b).map (·, a) ++ rowTab r
theorem tab_eq : rowTab rows = tab := by kernel_rfl
theorem tab_nodup : (tab.map (·.1)).Nodup := by decide +kernel

/-! ### Words -/
def wf (w : Bs) : List Nat → List Bs
  | [] => if w = [] then [] else [w]
  | c :: r => if char c = [32] then (if w = [] then wf [] r else w :: wf [] r) else wf (w ++ char c) r
def words (s : Bs) : List Bs := wf [] (runes s)
def join : List Bs → Bs
  | [] => []
  | [a] => a
  | a :: b :: r => a ++ [32] ++ join (b :: r)
def fold (s : Bs) : Bs := join (words s)
theorem words_ne : ∀ (l : List Nat) (w : Bs), ∀ x ∈ wf w l, x ≠ []
  | [], w, x, h => by
    unfold wf at h
    split at h
    · cases h
    · simp at h; subst h; assumption
  | c :: r, w, x, h => by
    unfold wf at h
    split at h
    · split at h
      · exact words_ne r [] x h
      · rcases List.mem_cons.1 h with rfl | h
        · assumption
        · exact words_ne r [] x h
    · exact words_ne r _ x h
/-! ### Sort keys -/
def digit (c : UInt8) : Bool := 48 ≤ c && c ≤ 57
def digits (s : Bs) : Bool := s.all digit
/-- Without the zeros in front, but for the last digit. -/
def strip (s : Bs) : Bs := (s.dropLast.dropWhile (· == 48)) ++ s.drop (s.length - 1)
def number (s : Bs) : Bs :=
  let t := strip s
  let n := min t.length 99
  [UInt8.ofNat (48 + n / 10), UInt8.ofNat (48 + n % 10)] ++ t
def sortWord (w : Bs) : Bs := if digits w then number w else w
def cut (s : Bs) (skip : Int) : Bs := s.drop (min (max skip 0) s.length).toNat
def sortKey (s : Bs) (skip : Int) : Bs := join ((words (cut s skip)).map sortWord)
end Ke
