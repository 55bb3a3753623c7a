/-
  Own texts on the laws of the seat, joined: the logic, and contracts of functions. Conditions: none.
-/
import Derived.Test.YtekmeaoblpfnpaaGreatDoorPG3
import Derived.Lib.TrimUEq
import Derived.Lib.TrimAscii
import Derived.Lib.MapLaws
import Derived.Shelf.Strings.Builder1
import Derived.Shelf.Strings.Builder2
import Derived.Shelf.Strings.OnBuilder
import Derived.Shelf.Strings.Trim
import Derived.Shelf.Small.Utf8
import Derived.Shelf.Small.Bits
import Derived.Shelf.Small.Strs
import Derived.Shelf.Small.Wraps
import Derived.Shelf.Strings.BuilderF
import Derived.Shelf.Strings.BuilderK
import Derived.Shelf.Strings.BuilderRune
import Derived.Shelf.Utf8.AppendRune
import Derived.Shelf.Utf8.AppendRunePlain
import Derived.Shelf.Utf8.RuneCount
import Derived.Shelf.Strings.Builder2Cap
import Derived.Shelf.Strconv.Itoa0
import Derived.Shelf.Strings.Search1
import Derived.Shelf.Strings.Search2
import Derived.Shelf.Strings.Search3
import Derived.Shelf.Strings.Cut
import Derived.Shelf.Strings.Count
import Derived.Shelf.LaysM
import Derived.Shelf.Strings.Shaped
import Derived.Shelf.GgClosure.StringsIndexFunc
import Derived.Ground.GgwProg
import Derived.Shelf.GgClosure.StringsIndexFuncTop
import Derived.Shelf.Strings.Prefix
import Derived.Shelf.Strings.Split
import Derived.Shelf.Strings.Fields
import Derived.Shelf.Strings.SplitShaped
import Derived.Shelf.Unicode.Latin
import Derived.Shelf.Unicode.Decode
import Derived.Shelf.Strings.Runes
import Derived.Shelf.Strings.RuneCount
import Derived.Shelf.Strings.AsciiSet
import Derived.Shelf.Unicode.DecodeSlow
import Derived.Shelf.Unicode.DecodeAny
import Derived.Shelf.Unicode.Is16White
import Derived.Shelf.Unicode.IsSpaceAny
import Derived.Shelf.Unicode.DecodeLast
import Derived.Shelf.Unicode.Is16WhiteD
import Derived.Shelf.Unicode.IsSpaceAnyD
import Derived.Shelf.Strings.FieldsAny
import Derived.Shelf.Strings.FieldsFuncAny
import Derived.Shelf.Unicode.CaseLookup
import Derived.Shelf.Unicode.CaseConvert
import Derived.Shelf.Unicode.CaseTo
import Derived.Shelf.Unicode.CaseLaid
import Derived.Shelf.Strings.MapAny
import Derived.Shelf.Strings.CaseAny
import Derived.Shelf.Unicode.Is16Any
import Derived.Shelf.Unicode.Is32Any
import Derived.Shelf.Unicode.ExclAny
import Derived.Shelf.Strings.FuncGrows
import Derived.Shelf.Strings.FieldsFuncGrows
import Derived.Shelf.Strings.BuilderCap
import Derived.Shelf.Strings.MapGrows
import Derived.Shelf.Slices.Turned
import Derived.Shelf.Slices.Equal
import Derived.Ground.Names2Prog
import Derived.Shelf.Slices.SearchI
import Derived.Shelf.Slices.Empties2
import Derived.Lib.Bytealg
set_option maxRecDepth 100000
set_option maxHeartbeats 40000000
section
namespace Ke
open Go.Lib (decodeL decodeN)
abbrev Bs := List UInt8
def runesF : Nat → Bs → List Nat
  | 0, _ => []
  | _ + 1, [] => []
  | f + 1, c :: r => (decodeL (c :: r)).1 :: runesF f ((c :: r).drop (decodeL (c :: r)).2)
def runes (s : Bs) : List Nat := runesF s.length s
theorem runesF_eq : ∀ (f g : Nat) (s : Bs), s.length ≤ f → s.length ≤ g → runesF f s = runesF g s
  | 0, 0, _, _, _ => rfl
  | 0, g + 1, s, h, _ => by
    have : s = [] := List.length_eq_zero_iff.1 (by omega)
    subst this; rfl
  | f + 1, 0, s, _, h => by
    have : s = [] := List.length_eq_zero_iff.1 (by omega)
    subst this; rfl
  | f + 1, g + 1, [], _, _ => rfl
  | f + 1, g + 1, c :: r, h1, h2 => by
    have hw := Go.Lib.decodeL_width (c :: r)
    simp only [List.length_cons] at h1 h2
    simp only [runesF]
    rw [runesF_eq f g _ (by simp; omega) (by simp; omega)]
theorem runes_nil : runes [] = [] := rfl
theorem runes_cons {s : Bs} (h : s ≠ []) : runes s = (decodeL s).1 :: runes (s.drop (decodeL s).2) := by
  cases s with
  | nil => exact absurd rfl h
  | cons c r =>
    have hw := Go.Lib.decodeL_width (c :: r)
    show runesF (r.length + 1) (c :: r) = _
    simp only [runesF]
    unfold runes
    rw [runesF_eq r.length _ _ (by simp; omega) (Nat.le_refl _)]
theorem runes_at {s : Bs} {i : Nat} (h : i < s.length) : runes (s.drop i) = (Go.Utf8.decode ⟨s.toArray⟩ i).1 :: runes (s.drop (i + (Go.Utf8.decode ⟨s.toArray⟩ i).2)) := by
  have h1 := Go.Lib.decodeL_drop ⟨s.toArray⟩ i
  simp only at h1
  rw [← h1, runes_cons (by simp; omega), List.drop_drop]
theorem runes_end {s : Bs} {i : Nat} (h : s.length ≤ i) : runes (s.drop i) = [] := by rw [List.drop_eq_nil_of_le h]; rfl
theorem decode_le (s : Bs) (i : Nat) : (Go.Utf8.decode ⟨s.toArray⟩ i).1 ≤ 1114111 := by
  rw [← Go.Lib.decodeL_drop ⟨s.toArray⟩ i]; exact Go.Lib.decodeL_rune _
theorem decode_width (s : Bs) {i : Nat} (h : i < s.length) : 1 ≤ (Go.Utf8.decode ⟨s.toArray⟩ i).2 ∧ i + (Go.Utf8.decode ⟨s.toArray⟩ i).2 ≤ s.length := by
  have h1 : decodeL (s.drop i) = Go.Utf8.decode ⟨s.toArray⟩ i := Go.Lib.decodeL_drop ⟨s.toArray⟩ i
  rw [← h1]
  refine ⟨Go.Lib.decodeL_width _, ?_⟩
  have := Go.Lib.decodeL_le (s.drop i) (by simp; omega)
  simp only [List.length_drop] at this
  omega
theorem runes_le : ∀ (f : Nat) (s : Bs), ∀ c ∈ runesF f s, c ≤ 1114111
  | 0, _, c, h => by cases h
  | _ + 1, [], c, h => by cases h
  | f + 1, d :: r, c, h => by
    simp only [runesF, List.mem_cons] at h
    rcases h with rfl | h
    · exact Go.Lib.decodeL_rune _
    exact runes_le f _ c h
theorem runes_len : ∀ (f : Nat) (s : Bs), (runesF f s).length ≤ s.length
  | 0, _ => Nat.zero_le _
  | _ + 1, [] => Nat.le_refl _
  | f + 1, d :: r => by
    have hw := Go.Lib.decodeL_width (d :: r)
    have := runes_len f ((d :: r).drop (decodeL (d :: r)).2)
    simp only [runesF, List.length_cons]
    simp only [List.length_drop, List.length_cons] at this
    omega
def enc (c : Nat) : Bs :=
  if c < 128 then [UInt8.ofNat c] else if c < 2048 then [UInt8.ofNat (192 + c / 64), UInt8.ofNat (128 + c % 64)]
  else if c < 65536 then [UInt8.ofNat (224 + c / 4096), UInt8.ofNat (128 + c / 64 % 64), UInt8.ofNat (128 + c % 64)]
  else [UInt8.ofNat (240 + c / 262144), UInt8.ofNat (128 + c / 4096 % 64), UInt8.ofNat (128 + c / 64 % 64), UInt8.ofNat (128 + c % 64)]
def okc (c : Nat) : Prop := c < 55296 ∨ (57344 ≤ c ∧ c < 65536)
theorem valid_of {c : Nat} (h : okc c) : Go.Utf8.valid (c : Int) = true := by
  unfold okc at h
  unfold Go.Utf8.valid
  simp only [Bool.or_eq_true, Bool.and_eq_true, decide_eq_true_eq]
  omega
theorem enc_valid {c : Nat} (hv : Go.Utf8.valid (c : Int) = true) : (Go.Utf8.encode (c : Int)).data.toList = (if c < 128 then (⟨#[UInt8.ofNat c]⟩ : ByteArray) else if c < 2048 then ⟨#[UInt8.ofNat (192 + c / 64), UInt8.ofNat (128 + c % 64)]⟩ else if c < 65536 then ⟨#[UInt8.ofNat (224 + c / 4096), UInt8.ofNat (128 + c / 64 % 64), UInt8.ofNat (128 + c % 64)]⟩
    else ⟨#[UInt8.ofNat (240 + c / 262144), UInt8.ofNat (128 + c / 4096 % 64), UInt8.ofNat (128 + c / 64 % 64), UInt8.ofNat (128 + c % 64)]⟩).data.toList := by simp_all [Go.Utf8.encode, Int.toNat_natCast]
theorem enc_encode {c : Nat} (h : okc c) : (Go.Utf8.encode (c : Int)).data.toList = enc c := by
  rw [enc_valid (valid_of h)]
  unfold enc
  by_cases h1 : c < 128
  · rw [if_pos h1, if_pos h1]
  rw [if_neg h1, if_neg h1]
  by_cases h2 : c < 2048
  · rw [if_pos h2, if_pos h2]
  rw [if_neg h2, if_neg h2]
  by_cases h3 : c < 65536
  · rw [if_pos h3, if_pos h3]
  rw [if_neg h3, if_neg h3]
def rows : List (Bs × Bs) := [
  ([97], [195, 160, 195, 161, 195, 162, 195, 163, 195, 164, 195, 165, 196, 129, 196, 131, 196, 133, 195, 128, 195, 129, 195, 130, 195, 131, 195, 132, 195, 133, 196, 128, 196, 130, 196, 132]),
  ([99], [195, 167, 196, 135, 196, 137, 196, 139, 196, 141, 195, 135, 196, 134, 196, 136, 196, 138, 196, 140]),
  ([100], [196, 143, 196, 145, 195, 176, 196, 142, 196, 144, 195, 144]),
  ([101], [195, 168, 195, 169, 195, 170, 195, 171, 196, 147, 196, 149, 196, 151, 196, 153, 196, 155, 195, 136, 195, 137, 195, 138, 195, 139, 196, 146, 196, 148, 196, 150, 196, 152, 196, 154]),
  ([103], [196, 157, 196, 159, 196, 161, 196, 163, 196, 156, 196, 158, 196, 160, 196, 162]),
  ([104], [196, 165, 196, 167, 196, 164, 196, 166]),
  ([105], [195, 172, 195, 173, 195, 174, 195, 175, 196, 169, 196, 171, 196, 173, 196, 175, 196, 177, 195, 140, 195, 141, 195, 142, 195, 143, 196, 168, 196, 170, 196, 172, 196, 174, 196, 176]),
  ([106], [196, 181, 196, 180]),
  ([107], [196, 183, 196, 182]),
  ([108], [196, 186, 196, 188, 196, 190, 197, 130, 196, 185, 196, 187, 196, 189, 197, 129]),
  ([110], [195, 177, 197, 132, 197, 134, 197, 136, 195, 145, 197, 131, 197, 133, 197, 135]),
  ([111], [195, 178, 195, 179, 195, 180, 195, 181, 195, 182, 195, 184, 197, 141, 197, 143, 197, 145, 198, 161, 195, 146, 195, 147, 195, 148, 195, 149, 195, 150, 195, 152, 197, 140, 197, 142, 197, 144, 198, 160]),
  ([114], [197, 149, 197, 151, 197, 153, 197, 148, 197, 150, 197, 152]),
  ([115], [197, 155, 197, 157, 197, 159, 197, 161, 197, 154, 197, 156, 197, 158, 197, 160]),
  ([116], [197, 163, 197, 165, 197, 167, 197, 162, 197, 164, 197, 166]),
  ([117], [195, 185, 195, 186, 195, 187, 195, 188, 197, 169, 197, 171, 197, 173, 197, 175, 197, 177, 197, 179, 198, 176, 195, 153, 195, 154, 195, 155, 195, 156, 197, 168, 197, 170, 197, 172, 197, 174, 197, 176, 197, 178, 198, 175]),
  ([119], [197, 181, 197, 180]),
  ([121], [195, 189, 195, 191, 197, 183, 195, 157, 197, 184, 197, 182]),
  ([122], [197, 186, 197, 188, 197, 190, 197, 185, 197, 187, 197, 189]),
  ([97, 101], [195, 166, 195, 134]),
  ([111, 101], [197, 147, 197, 146]),
  ([115, 115], [195, 159]),
  ([116, 104], [195, 190, 195, 158]),
  ([206, 177], [206, 172, 206, 134]),
  ([206, 181], [206, 173, 206, 136]),
  ([206, 183], [206, 174, 206, 137]),
  ([206, 185], [206, 175, 207, 138, 206, 144, 206, 138, 206, 170]),
  ([206, 191], [207, 140, 206, 140]),
  ([207, 133], [207, 141, 207, 139, 206, 176, 206, 142, 206, 171]),
  ([207, 137], [207, 142, 206, 143]),
  ([208, 181], [209, 145, 208, 129])]
def tab : List (Nat × Bs) := [
  (224, [97]), (225, [97]), (226, [97]), (227, [97]), (228, [97]), (229, [97]), (257, [97]), (259, [97]), (261, [97]), (192, [97]), (193, [97]), (194, [97]), (195, [97]), (196, [97]), (197, [97]), (256, [97]), (258, [97]), (260, [97]),
  (231, [99]), (263, [99]), (265, [99]), (267, [99]), (269, [99]), (199, [99]), (262, [99]), (264, [99]), (266, [99]), (268, [99]),
  (271, [100]), (273, [100]), (240, [100]), (270, [100]), (272, [100]), (208, [100]),
  (232, [101]), (233, [101]), (234, [101]), (235, [101]), (275, [101]), (277, [101]), (279, [101]), (281, [101]), (283, [101]), (200, [101]), (201, [101]), (202, [101]), (203, [101]), (274, [101]), (276, [101]), (278, [101]), (280, [101]), (282, [101]),
  (285, [103]), (287, [103]), (289, [103]), (291, [103]), (284, [103]), (286, [103]), (288, [103]), (290, [103]),
  (293, [104]), (295, [104]), (292, [104]), (294, [104]),
  (236, [105]), (237, [105]), (238, [105]), (239, [105]), (297, [105]), (299, [105]), (301, [105]), (303, [105]), (305, [105]), (204, [105]), (205, [105]), (206, [105]), (207, [105]), (296, [105]), (298, [105]), (300, [105]), (302, [105]), (304, [105]),
  (309, [106]), (308, [106]),
  (311, [107]), (310, [107]),
  (314, [108]), (316, [108]), (318, [108]), (322, [108]), (313, [108]), (315, [108]), (317, [108]), (321, [108]),
  (241, [110]), (324, [110]), (326, [110]), (328, [110]), (209, [110]), (323, [110]), (325, [110]), (327, [110]),
  (242, [111]), (243, [111]), (244, [111]), (245, [111]), (246, [111]), (248, [111]), (333, [111]), (335, [111]), (337, [111]), (417, [111]), (210, [111]), (211, [111]), (212, [111]), (213, [111]), (214, [111]), (216, [111]), (332, [111]), (334, [111]), (336, [111]), (416, [111]),
  (341, [114]), (343, [114]), (345, [114]), (340, [114]), (342, [114]), (344, [114]),
  (347, [115]), (349, [115]), (351, [115]), (353, [115]), (346, [115]), (348, [115]), (350, [115]), (352, [115]),
  (355, [116]), (357, [116]), (359, [116]), (354, [116]), (356, [116]), (358, [116]),
  (249, [117]), (250, [117]), (251, [117]), (252, [117]), (361, [117]), (363, [117]), (365, [117]), (367, [117]), (369, [117]), (371, [117]), (432, [117]), (217, [117]), (218, [117]), (219, [117]), (220, [117]), (360, [117]), (362, [117]), (364, [117]), (366, [117]), (368, [117]), (370, [117]), (431, [117]),
  (373, [119]), (372, [119]),
  (253, [121]), (255, [121]), (375, [121]), (221, [121]), (376, [121]), (374, [121]),
  (378, [122]), (380, [122]), (382, [122]), (377, [122]), (379, [122]), (381, [122]),
  (230, [97, 101]), (198, [97, 101]),
  (339, [111, 101]), (338, [111, 101]),
  (223, [115, 115]),
  (254, [116, 104]), (222, [116, 104]),
  (940, [206, 177]), (902, [206, 177]),
  (941, [206, 181]), (904, [206, 181]),
  (942, [206, 183]), (905, [206, 183]),
  (943, [206, 185]), (970, [206, 185]), (912, [206, 185]), (906, [206, 185]), (938, [206, 185]),
  (972, [206, 191]), (908, [206, 191]),
  (973, [207, 133]), (971, [207, 133]), (944, [207, 133]), (910, [207, 133]), (939, [207, 133]),
  (974, [207, 137]), (911, [207, 137]),
  (1105, [208, 181]), (1025, [208, 181])]
def char (c : Nat) : Bs :=
  if (97 ≤ c ∧ c ≤ 122) ∨ (48 ≤ c ∧ c ≤ 57) then enc c
  else if 65 ≤ c ∧ c ≤ 90 then enc (c + 32)
  else if c < 128 then [32]
  else if (768 ≤ c ∧ c ≤ 879) ∨ (65056 ≤ c ∧ c ≤ 65071) then []
  else match tab.lookup c with
    | some s => s
    | none =>
      if c = 962 then enc 963
      else if (945 ≤ c ∧ c ≤ 969) ∨ (1072 ≤ c ∧ c ≤ 1103) then enc c
      else if ((913 ≤ c ∧ c ≤ 937) ∧ c ≠ 930) ∨ (1040 ≤ c ∧ c ≤ 1071) then enc (c + 32)
      else [32]
def rowTab : List (Bs × Bs) → List (Nat × Bs)
  | [] => []
  | (a, b) :: r => (runes b).map (·, a) ++ rowTab r
theorem tab_eq : rowTab rows = tab := by kernel_rfl
theorem tab_nodup : (tab.map (·.1)).Nodup := by decide +kernel
def wf (w : Bs) : List Nat → List Bs
  | [] => if w = [] then [] else [w]
  | c :: r => if char c = [32] then (if w = [] then wf [] r else w :: wf [] r) else wf (w ++ char c) r
def words (s : Bs) : List Bs := wf [] (runes s)
def join : List Bs → Bs
  | [] => []
  | [a] => a
  | a :: b :: r => a ++ [32] ++ join (b :: r)
theorem words_ne : ∀ (l : List Nat) (w : Bs), ∀ x ∈ wf w l, x ≠ []
  | [], w, x, h => by
    unfold wf at h
    split at h
    · cases h
    simp at h; subst h; assumption
  | c :: r, w, x, h => by
    unfold wf at h
    split at h
    · split at h
      · exact words_ne r [] x h
      rcases List.mem_cons.1 h with rfl | h
      · assumption
      exact words_ne r [] x h
    exact words_ne r _ x h
def digit (c : UInt8) : Bool := 48 ≤ c && c ≤ 57
def digits (s : Bs) : Bool := s.all digit
def strip (s : Bs) : Bs := (s.dropLast.dropWhile (· == 48)) ++ s.drop (s.length - 1)
def number (s : Bs) : Bs :=
  let t := strip s
  let n := min t.length 99
  [UInt8.ofNat (48 + n / 10), UInt8.ofNat (48 + n % 10)] ++ t
def sortWord (w : Bs) : Bs := if digits w then number w else w
def cut (s : Bs) (skip : Int) : Bs := s.drop (min (max skip 0) s.length).toNat
def sortKey (s : Bs) (skip : Int) : Bs := join ((words (cut s skip)).map sortWord)
end Ke
end
section
namespace Ke
def okb (c : UInt8) : Bool := digit c || c == 88 || c == 120 || c == 32 || c == 45
def nb (c : UInt8) : Bool := !(c == 32 || c == 45)
def up (c : UInt8) : UInt8 := if c = 120 then 88 else c
def norm (s : Bs) : Bs := ((s.takeWhile okb).filter nb).map up
def csum : Nat → Bs → Nat
  | _, [] => 0
  | k, c :: r => (c.toNat - 48) * (1 + 2 * (k % 2)) + csum (k + 1) r
def check (s : Bs) : UInt8 := UInt8.ofNat (48 + (10 - csum 0 (s.take 12) % 10) % 10)
def val (c : UInt8) : Nat := if c = 88 then 10 else c.toNat - 48
def rsum : Nat → Bs → Nat
  | _, [] => 0
  | k, c :: r => (10 - k) * val c + rsum (k + 1) r
def rightShort (s : Bs) : Bool := rsum 0 s % 11 == 0 && digits (s.take 9)
def isbnN (t : Bs) : Bs × Bool :=
  if t.length = 10 ∧ rightShort t = true then ([57, 55, 56] ++ t.take 9 ++ [check ([57, 55, 56] ++ t.take 9)], true)
  else if t.length = 13 ∧ digits t = true ∧ check t = t.getD 12 0 then (t, true)
  else ([], false)
def isbn (s : Bs) : Bs × Bool := isbnN (norm s)
theorem byte_all {p : UInt8 → Prop} (h : ∀ n < 256, p (UInt8.ofNat n)) (c : UInt8) : p c := by grind [c.toNat_lt, UInt8.ofNat_toNat]
theorem digit_iff {c : UInt8} : digit c = true ↔ 48 ≤ c.toNat ∧ c.toNat ≤ 57 := by
  simp [digit, UInt8.le_iff_toNat_le]
theorem digit_ok {c : UInt8} (h : digit c = true) : okb c = true ∧ nb c = true ∧ up c = c := by
  revert h
  exact byte_all (p := fun c => digit c = true → okb c = true ∧ nb c = true ∧ up c = c) (by decide +kernel) c
theorem digits_cons {c : UInt8} {r : Bs} : digits (c :: r) = (digit c && digits r) := rfl
theorem digits_app {a b : Bs} : digits (a ++ b) = (digits a && digits b) := by simp [digits, List.all_append]
theorem map_same : ∀ {s : Bs}, (∀ c ∈ s, up c = c) → s.map up = s
  | [], _ => rfl
  | c :: r, h => by rw [List.map_cons, h c (.head _), map_same fun d hd => h d (.tail _ hd)]
theorem csum_app : ∀ (a b : Bs) (k : Nat), csum k (a ++ b) = csum k a + csum (k + a.length) b
  | [], b, k => by simp [csum]
  | c :: r, b, k => by
    simp only [List.cons_append, csum, List.length_cons, csum_app r b (k + 1)]
    rw [show k + 1 + r.length = k + (r.length + 1) by omega]
    omega
theorem rsum_app : ∀ (a b : Bs) (k : Nat), rsum k (a ++ b) = rsum k a + rsum (k + a.length) b
  | [], b, k => by simp [rsum]
  | c :: r, b, k => by
    simp only [List.cons_append, rsum, List.length_cons, rsum_app r b (k + 1)]
    rw [show k + 1 + r.length = k + (r.length + 1) by omega]
    omega
theorem digits_val {s : Bs} (h : digits s = true) : s.map up = s := map_same fun c hc => (digit_ok (List.all_eq_true.1 h c hc)).2.2
end Ke
end
section
namespace Ke
def rep (s : Bs) : Bs := s.filter nb
theorem nb_eq (c : UInt8) : nb c = !(c == 32 || c == 45) := rfl
end Ke
namespace Go.Sx
def buf (E : List UInt8) (n : Nat) : List Value := bcs E ++ List.replicate (n - E.length) (.int .u8 0)
theorem buf_nil (n : Nat) : buf [] n = List.replicate n (.int .u8 0) := by simp [buf, bcs]
theorem buf_len {E : List UInt8} {n : Nat} (h : E.length ≤ n) : (buf E n).length = n := by simp [buf, bcs]; omega
theorem buf_spl {E X : List UInt8} {n : Nat} (h : E.length + X.length ≤ n) : LSpl (buf E n) E.length (bcs X) (buf (E ++ X) n) := by
  have hX : (bcs X).length = X.length := bcs_len X
  have hE : (bcs E).length = E.length := bcs_len E
  refine ⟨by rw [buf_len (by omega), hX]; exact h, ?_⟩
  unfold buf
  rw [hX, List.take_append_of_le_length (by omega), List.take_of_length_le (by omega), List.drop_append, List.drop_eq_nil_of_le (by omega), hE]
  simp only [bcs, List.map_append, List.nil_append, List.append_assoc, List.drop_replicate, List.length_append]
  congr 2
  congr 1
  omega
theorem buf_set {E : List UInt8} {n : Nat} (c : UInt8) (h : E.length < n) : (buf E n).set E.length (u8 c) = buf (E ++ [c]) n := by
  have hE : (bcs E).length = E.length := bcs_len E
  unfold buf
  rw [List.set_append_right _ _ (by omega), hE, Nat.sub_self]
  obtain ⟨m, hm⟩ : ∃ m, n - E.length = m + 1 := ⟨n - E.length - 1, by omega⟩
  have h2 : n - (E ++ [c]).length = m := by simp; omega
  rw [hm, h2, List.replicate_succ, List.set_cons_zero]
  simp [bcs]
theorem buf_full {E : List UInt8} {n : Nat} (h : n = E.length) : buf E n = bcs E ++ [] := by
  subst h; simp [buf]
end Go.Sx
end
section
namespace Go.Proofs
open _root_.Go.Proofs.Tryz
open Go.Shelf
def Tryz.lays158_ren : Go.Shelf.Ren := ⟨fun | 158 => 196 | 165 => 240 | 166 => 130 | 167 => 241 | 169 => 132 | 230 => 242 | 203 => 243 | 240 => 184 | 241 => 271 | 197 => 272 | 118 => 273 | 168 => 274 | 270 => 275 | 262 => 276 | 276 => 234 | 277 => 299 | 260 => 300 | 242 => 301 | 313 => 302 | 278 => 316 | 274 => 317 | 275 => 318 | n => n, fun | 9 => 9 | 4 => 4 | 3 => 3 | 5 => 5 | 72 => 204 | 0 => 0 | 76 => 208 | 75 => 207 | 107 => 293 | 70 => 202 | 20 => 20 | 37 => 192 | 127 => 246 | 21 => 21 | 105 => 328 | 164 => 284 | 162 => 351 | 203 => 349 | 119 => 341 | 46 => 188 | 139 => 372 | 138 => 371 | 51 => 238 | 160 => 373 | 208 => 407 | 206 => 405 | 80 => 211 | n => n, fun | 13 => 2 | 3 => 4 | 4 => 5 | n => n⟩
theorem Tryz.lays158 : Go.Proofs.Lays.n158 Tryz.prog Tryz.lays158_ren := {
  mixed := by kernel_rfl
  f118 := func273.trans (congrArg some (by kernel_rfl))
  f158 := func196.trans (congrArg some (by kernel_rfl))
  f165 := func240.trans (congrArg some (by kernel_rfl))
  f166 := func130.trans (congrArg some (by kernel_rfl))
  f167 := func241.trans (congrArg some (by kernel_rfl))
  f168 := func274.trans (congrArg some (by kernel_rfl))
  f169 := func132.trans (congrArg some (by kernel_rfl))
  f197 := func272.trans (congrArg some (by kernel_rfl))
  f203 := func243.trans (congrArg some (by kernel_rfl))
  f230 := func242.trans (congrArg some (by kernel_rfl))
  f240 := func184.trans (congrArg some (by kernel_rfl))
  f241 := func271.trans (congrArg some (by kernel_rfl))
  f242 := func301.trans (congrArg some (by kernel_rfl))
  f260 := func300.trans (congrArg some (by kernel_rfl))
  f262 := func276.trans (congrArg some (by kernel_rfl))
  f270 := func275.trans (congrArg some (by kernel_rfl))
  f274 := func317.trans (congrArg some (by kernel_rfl))
  f275 := func318.trans (congrArg some (by kernel_rfl))
  f276 := func234.trans (congrArg some (by kernel_rfl))
  f277 := func299.trans (congrArg some (by kernel_rfl))
  f278 := func316.trans (congrArg some (by kernel_rfl))
  f313 := func302.trans (congrArg some (by kernel_rfl))
  t0 := underlying0
  a0 := isAgg0
  z0 := sizeOf0
  v0 := zeroValue0
  t3 := underlying3
  a3 := isAgg3
  z3 := sizeOf3
  v3 := zeroValue3
  t4 := underlying4
  a4 := isAgg4
  z4 := sizeOf4
  v4 := zeroValue4
  t5 := underlying5
  a5 := isAgg5
  z5 := sizeOf5
  v5 := zeroValue5
  t9 := underlying9
  a9 := isAgg9
  z9 := sizeOf9
  v9 := zeroValue9
  t20 := underlying20
  a20 := isAgg20
  z20 := sizeOf20
  v20 := zeroValue20
  t21 := underlying21
  a21 := isAgg21
  z21 := sizeOf21
  v21 := zeroValue21
  t37 := underlying192
  a37 := isAgg192
  z37 := sizeOf192
  v37 := zeroValue192
  t46 := underlying188
  a46 := isAgg188
  z46 := sizeOf188
  v46 := zeroValue188
  t51 := underlying238
  a51 := isAgg238
  z51 := sizeOf238
  v51 := zeroValue238
  t70 := underlying202
  a70 := isAgg202
  z70 := sizeOf202
  v70 := zeroValue202
  t72 := underlying204
  a72 := isAgg204
  z72 := sizeOf204
  v72 := zeroValue204
  t75 := underlying207
  a75 := isAgg207
  z75 := sizeOf207
  v75 := zeroValue207
  t76 := underlying208
  a76 := isAgg208
  z76 := sizeOf208
  v76 := zeroValue208
  t105 := underlying328
  a105 := isAgg328
  z105 := sizeOf328
  v105 := zeroValue328
  t107 := underlying293
  a107 := isAgg293
  z107 := sizeOf293
  v107 := zeroValue293
  t119 := underlying341
  a119 := isAgg341
  z119 := sizeOf341
  t127 := underlying246
  a127 := isAgg246
  z127 := sizeOf246
  v127 := zeroValue246
  t138 := underlying371
  a138 := isAgg371
  z138 := sizeOf371
  v138 := zeroValue371
  t139 := underlying372
  a139 := isAgg372
  z139 := sizeOf372
  v139 := zeroValue372
  t160 := underlying373
  a160 := isAgg373
  z160 := sizeOf373
  v160 := zeroValue373
  t162 := underlying351
  a162 := isAgg351
  z162 := sizeOf351
  v162 := zeroValue351
  t164 := underlying284
  a164 := isAgg284
  z164 := sizeOf284
  v164 := zeroValue284
  t203 := underlying349
  a203 := isAgg349
  z203 := sizeOf349
  v203 := zeroValue349
  t206 := underlying405
  a206 := isAgg405
  z206 := sizeOf405
  v206 := zeroValue405
  t208 := underlying407
  a208 := isAgg407
  z208 := sizeOf407
  v208 := zeroValue407
  g3 := by kernel_rfl
  g4 := by kernel_rfl
  g13 := by kernel_rfl }
theorem Tryz.Builder_Extra_158 : Builder.Extra Tryz.prog Tryz.lays158_ren := {
  sizeBuilder := by kernel_rfl
  liesBuilder := by kernel_rfl
  t5 := underlying5
  a5 := isAgg5
  z5 := sizeOf5
  v5 := zeroValue5
  infoByte := by kernel_rfl
  cellsByte := by kernel_rfl
  sizeByte := by kernel_rfl
  neB5 := by decide }
open Go.RowKit in
theorem Tryz.strings_ToUpper_ascii (s : ByteArray) (w : World) (hs : s.size ≤ 140737488355328) (hascii : ∀ (j : Nat) (b : UInt8), s.data.toList[j]? = some b → b.toNat < 128) :
    Calls Tryz.prog 196 #[.string s] w fun e w' => e = .returned (.string ⟨(Lib.toUpperA s.data.toList).toArray⟩) ∧ Below w.heap.size w w' := Any.strings_ToUpper_ascii Tryz.lays158 Tryz.Builder_Extra_158 s w hs hascii
def Tryz.lays156_ren : Go.Shelf.Ren := ⟨fun | 156 => 203 | 165 => 240 | 166 => 130 | 169 => 132 | 240 => 184 | 241 => 271 | 276 => 234 | 277 => 299 | n => n, fun | 31 => 69 | 9 => 9 | 3 => 3 | 4 => 4 | 0 => 0 | 20 => 20 | 72 => 204 | 76 => 208 | 70 => 202 | 37 => 192 | 75 => 207 | 127 => 246 | 164 => 284 | 5 => 5 | 80 => 211 | n => n, fun | n => n⟩
theorem Tryz.lays156 : Go.Proofs.Lays.n156 Tryz.prog Tryz.lays156_ren := {
  mixed := by kernel_rfl
  f156 := func203.trans (congrArg some (by kernel_rfl))
  f165 := func240.trans (congrArg some (by kernel_rfl))
  f166 := func130.trans (congrArg some (by kernel_rfl))
  f169 := func132.trans (congrArg some (by kernel_rfl))
  f240 := func184.trans (congrArg some (by kernel_rfl))
  f241 := func271.trans (congrArg some (by kernel_rfl))
  f276 := func234.trans (congrArg some (by kernel_rfl))
  f277 := func299.trans (congrArg some (by kernel_rfl))
  t0 := underlying0
  a0 := isAgg0
  z0 := sizeOf0
  v0 := zeroValue0
  t3 := underlying3
  a3 := isAgg3
  z3 := sizeOf3
  v3 := zeroValue3
  t4 := underlying4
  a4 := isAgg4
  z4 := sizeOf4
  v4 := zeroValue4
  t9 := underlying9
  a9 := isAgg9
  z9 := sizeOf9
  v9 := zeroValue9
  t20 := underlying20
  a20 := isAgg20
  z20 := sizeOf20
  v20 := zeroValue20
  t31 := underlying69
  a31 := isAgg69
  z31 := sizeOf69
  v31 := zeroValue69
  t37 := underlying192
  a37 := isAgg192
  z37 := sizeOf192
  v37 := zeroValue192
  t70 := underlying202
  a70 := isAgg202
  z70 := sizeOf202
  v70 := zeroValue202
  t72 := underlying204
  a72 := isAgg204
  z72 := sizeOf204
  v72 := zeroValue204
  t75 := underlying207
  a75 := isAgg207
  z75 := sizeOf207
  v75 := zeroValue207
  t76 := underlying208
  a76 := isAgg208
  z76 := sizeOf208
  v76 := zeroValue208
  t127 := underlying246
  a127 := isAgg246
  z127 := sizeOf246
  v127 := zeroValue246
  t164 := underlying284
  a164 := isAgg284
  z164 := sizeOf284
  v164 := zeroValue284 }
theorem Tryz.Builder_Extra_156 : Builder.Extra Tryz.prog Tryz.lays156_ren := {
  sizeBuilder := by kernel_rfl
  liesBuilder := by kernel_rfl
  t5 := underlying5
  a5 := isAgg5
  z5 := sizeOf5
  v5 := zeroValue5
  infoByte := by kernel_rfl
  cellsByte := by kernel_rfl
  sizeByte := by kernel_rfl
  neB5 := by decide }
open Go.RowKit in
theorem Tryz.strings_Join_none (a : Option Addr) (c : Nat) (sep : ByteArray) (w : World) :
    Calls Tryz.prog 203 #[.slice a 0 c, .string sep] w fun e w' => e = .returned (.string ⟨#[]⟩) ∧ w' = w := Any.strings_Join_none Tryz.lays156 Tryz.Builder_Extra_156 a c sep w
open Go.RowKit in
theorem Tryz.strings_Join (bk o c : Nat) (xs : List ByteArray) (sep : ByteArray) (w : World) (hcells : ∀ (j : Nat) x, xs[j]? = some x → w.cell? ⟨bk, o + j, none⟩ = some (.string x)) (hbk : bk < w.heap.size) (hN : xs.length ≤ 140737488355328) (hcap : xs.length ≤ c) (hlen : (Lib.join (xs.map (·.data.toList)) sep.data.toList).length ≤ 140737488355328) :
    Calls Tryz.prog 203 #[.slice (some ⟨bk, o, none⟩) xs.length c, .string sep] w fun e w' => e = .returned (.string ⟨(Lib.join (xs.map (·.data.toList)) sep.data.toList).toArray⟩) ∧ Below w.heap.size w w' := Any.strings_Join Tryz.lays156 Tryz.Builder_Extra_156 bk o c xs sep w hcells hbk hN hcap hlen
def Tryz.lays161_ren : Go.Shelf.Ren := ⟨fun | 161 => 202 | 231 => 247 | 227 => 248 | 233 => 249 | 235 => 250 | 228 => 283 | 197 => 272 | 151 => 195 | 260 => 300 | 152 => 239 | 137 => 217 | 119 => 268 | 224 => 269 | 225 => 270 | 217 => 260 | 266 => 288 | n => n, fun | 9 => 9 | 4 => 4 | 3 => 3 | 5 => 5 | 117 => 313 | 116 => 312 | 0 => 0 | 124 => 316 | 105 => 328 | 21 => 21 | 119 => 341 | 46 => 188 | 139 => 372 | 138 => 371 | n => n, fun | 3 => 4 | 4 => 5 | n => n⟩
theorem Tryz.lays161 : Go.Proofs.Lays.n161 Tryz.prog Tryz.lays161_ren := {
  mixed := by kernel_rfl
  f119 := func268.trans (congrArg some (by kernel_rfl))
  f137 := func217.trans (congrArg some (by kernel_rfl))
  f151 := func195.trans (congrArg some (by kernel_rfl))
  f152 := func239.trans (congrArg some (by kernel_rfl))
  f161 := func202.trans (congrArg some (by kernel_rfl))
  f197 := func272.trans (congrArg some (by kernel_rfl))
  f217 := func260.trans (congrArg some (by kernel_rfl))
  f224 := func269.trans (congrArg some (by kernel_rfl))
  f225 := func270.trans (congrArg some (by kernel_rfl))
  f227 := func248.trans (congrArg some (by kernel_rfl))
  f228 := func283.trans (congrArg some (by kernel_rfl))
  f231 := func247.trans (congrArg some (by kernel_rfl))
  f233 := func249.trans (congrArg some (by kernel_rfl))
  f235 := func250.trans (congrArg some (by kernel_rfl))
  f260 := func300.trans (congrArg some (by kernel_rfl))
  f266 := func288.trans (congrArg some (by kernel_rfl))
  t0 := underlying0
  a0 := isAgg0
  z0 := sizeOf0
  v0 := zeroValue0
  t3 := underlying3
  a3 := isAgg3
  z3 := sizeOf3
  v3 := zeroValue3
  t4 := underlying4
  a4 := isAgg4
  z4 := sizeOf4
  v4 := zeroValue4
  t5 := underlying5
  a5 := isAgg5
  z5 := sizeOf5
  v5 := zeroValue5
  t9 := underlying9
  a9 := isAgg9
  z9 := sizeOf9
  v9 := zeroValue9
  t21 := underlying21
  a21 := isAgg21
  z21 := sizeOf21
  v21 := zeroValue21
  t46 := underlying188
  a46 := isAgg188
  z46 := sizeOf188
  v46 := zeroValue188
  t105 := underlying328
  a105 := isAgg328
  z105 := sizeOf328
  v105 := zeroValue328
  t116 := underlying312
  a116 := isAgg312
  z116 := sizeOf312
  t117 := underlying313
  a117 := isAgg313
  z117 := sizeOf313
  v117 := zeroValue313
  t119 := underlying341
  a119 := isAgg341
  z119 := sizeOf341
  t124 := underlying316
  a124 := isAgg316
  z124 := sizeOf316
  v124 := zeroValue316
  t138 := underlying371
  a138 := isAgg371
  z138 := sizeOf371
  v138 := zeroValue371
  t139 := underlying372
  a139 := isAgg372
  z139 := sizeOf372
  v139 := zeroValue372
  g3 := by kernel_rfl
  g4 := by kernel_rfl }
open Go.RowKit in
theorem Tryz.strings_TrimLeft_one (s : ByteArray) (c : UInt8) (hc : c.toNat < 128) (w : World) :
    Calls Tryz.prog 202 #[.string s, .string ⟨#[c]⟩] w fun e w' => e = .returned (.string ⟨(Lib.trimLeftB s.data.toList c).toArray⟩) ∧ w' = w := Any.strings_TrimLeft_one Tryz.lays161 s c hc w
def Tryz.lays160_ren : Go.Shelf.Ren := ⟨fun | 160 => 246 | 232 => 280 | 231 => 247 | 227 => 248 | 234 => 281 | 233 => 249 | 236 => 282 | 235 => 250 | 228 => 283 | 271 => 309 | 151 => 195 | 197 => 272 | 120 => 325 | 152 => 239 | 260 => 300 | 137 => 217 | 119 => 268 | 224 => 269 | 225 => 270 | 217 => 260 | 266 => 288 | n => n, fun | 9 => 9 | 4 => 4 | 3 => 3 | 5 => 5 | 117 => 313 | 116 => 312 | 0 => 0 | 124 => 316 | 21 => 21 | 105 => 328 | 46 => 188 | 119 => 341 | 139 => 372 | 138 => 371 | n => n, fun | 3 => 4 | 4 => 5 | n => n⟩
theorem Tryz.lays160 : Go.Proofs.Lays.n160 Tryz.prog Tryz.lays160_ren := {
  mixed := by kernel_rfl
  f119 := func268.trans (congrArg some (by kernel_rfl))
  f120 := func325.trans (congrArg some (by kernel_rfl))
  f137 := func217.trans (congrArg some (by kernel_rfl))
  f151 := func195.trans (congrArg some (by kernel_rfl))
  f152 := func239.trans (congrArg some (by kernel_rfl))
  f160 := func246.trans (congrArg some (by kernel_rfl))
  f197 := func272.trans (congrArg some (by kernel_rfl))
  f217 := func260.trans (congrArg some (by kernel_rfl))
  f224 := func269.trans (congrArg some (by kernel_rfl))
  f225 := func270.trans (congrArg some (by kernel_rfl))
  f227 := func248.trans (congrArg some (by kernel_rfl))
  f228 := func283.trans (congrArg some (by kernel_rfl))
  f231 := func247.trans (congrArg some (by kernel_rfl))
  f232 := func280.trans (congrArg some (by kernel_rfl))
  f233 := func249.trans (congrArg some (by kernel_rfl))
  f234 := func281.trans (congrArg some (by kernel_rfl))
  f235 := func250.trans (congrArg some (by kernel_rfl))
  f236 := func282.trans (congrArg some (by kernel_rfl))
  f260 := func300.trans (congrArg some (by kernel_rfl))
  f266 := func288.trans (congrArg some (by kernel_rfl))
  f271 := func309.trans (congrArg some (by kernel_rfl))
  t0 := underlying0
  a0 := isAgg0
  z0 := sizeOf0
  v0 := zeroValue0
  t3 := underlying3
  a3 := isAgg3
  z3 := sizeOf3
  v3 := zeroValue3
  t4 := underlying4
  a4 := isAgg4
  z4 := sizeOf4
  v4 := zeroValue4
  t5 := underlying5
  a5 := isAgg5
  z5 := sizeOf5
  v5 := zeroValue5
  t9 := underlying9
  a9 := isAgg9
  z9 := sizeOf9
  v9 := zeroValue9
  t21 := underlying21
  a21 := isAgg21
  z21 := sizeOf21
  v21 := zeroValue21
  t46 := underlying188
  a46 := isAgg188
  z46 := sizeOf188
  v46 := zeroValue188
  t105 := underlying328
  a105 := isAgg328
  z105 := sizeOf328
  v105 := zeroValue328
  t116 := underlying312
  a116 := isAgg312
  z116 := sizeOf312
  t117 := underlying313
  a117 := isAgg313
  z117 := sizeOf313
  v117 := zeroValue313
  t119 := underlying341
  a119 := isAgg341
  z119 := sizeOf341
  t124 := underlying316
  a124 := isAgg316
  z124 := sizeOf316
  v124 := zeroValue316
  t138 := underlying371
  a138 := isAgg371
  z138 := sizeOf371
  v138 := zeroValue371
  t139 := underlying372
  a139 := isAgg372
  z139 := sizeOf372
  v139 := zeroValue372
  g3 := by kernel_rfl
  g4 := by kernel_rfl }
def Tryz.lays119_ren : Go.Shelf.Ren := ⟨fun | 119 => 268 | n => n, fun | 21 => 21 | 4 => 4 | n => n, fun | n => n⟩
theorem Tryz.lays119 : Go.Proofs.Lays.n119 Tryz.prog Tryz.lays119_ren := {
  mixed := by kernel_rfl
  f119 := func268.trans (congrArg some (by kernel_rfl))
  t4 := underlying4
  a4 := isAgg4
  z4 := sizeOf4
  v4 := zeroValue4
  t21 := underlying21
  a21 := isAgg21
  z21 := sizeOf21
  v21 := zeroValue21 }
theorem Tryz.utf8_ValidRune (r : Int) (w : World) :
    Calls Tryz.prog 268 #[.int .i32 r] w fun e w' => e = .returned (.bool (Lib.validRune r)) ∧ w' = w := Any.utf8_ValidRune Tryz.lays119 r w
def Tryz.lays106_ren : Go.Shelf.Ren := ⟨fun | 106 => 58 | 213 => 109 | 265 => 172 | n => n, fun | 9 => 9 | 3 => 3 | n => n, fun | n => n⟩
theorem Tryz.lays106 : Go.Proofs.Lays.n106 Tryz.prog Tryz.lays106_ren := {
  mixed := by kernel_rfl
  f106 := func58.trans (congrArg some (by kernel_rfl))
  f213 := func109.trans (congrArg some (by kernel_rfl))
  f265 := func172.trans (congrArg some (by kernel_rfl))
  t3 := underlying3
  a3 := isAgg3
  z3 := sizeOf3
  v3 := zeroValue3
  t9 := underlying9
  a9 := isAgg9
  z9 := sizeOf9
  v9 := zeroValue9 }
open Go.RowKit in
theorem Tryz.strings_Compare (a b : ByteArray) (w : World) :
    Calls Tryz.prog 58 #[.string a, .string b] w fun e w' => e = .returned (.int .i64 (Lib.compareBytes a.data.toList b.data.toList)) ∧ w' = w := Any.strings_Compare Tryz.lays106 a b w
def Tryz.lays137_ren : Go.Shelf.Ren := ⟨fun | 137 => 217 | 217 => 260 | 266 => 288 | n => n, fun | 9 => 9 | 5 => 5 | 3 => 3 | n => n, fun | n => n⟩
theorem Tryz.lays137 : Go.Proofs.Lays.n137 Tryz.prog Tryz.lays137_ren := {
  mixed := by kernel_rfl
  f137 := func217.trans (congrArg some (by kernel_rfl))
  f217 := func260.trans (congrArg some (by kernel_rfl))
  f266 := func288.trans (congrArg some (by kernel_rfl))
  t3 := underlying3
  a3 := isAgg3
  z3 := sizeOf3
  v3 := zeroValue3
  t5 := underlying5
  a5 := isAgg5
  z5 := sizeOf5
  v5 := zeroValue5
  t9 := underlying9
  a9 := isAgg9
  z9 := sizeOf9
  v9 := zeroValue9 }
open Go.RowKit in
theorem Tryz.strings_IndexByte (s : ByteArray) (c : Int) (w : World) :
    Calls Tryz.prog 217 #[.string s, .int .u8 c] w fun e w' => e = .returned (.int .i64 (Lib.indexByte s.data.toList c.toNat.toUInt8)) ∧ w' = w := Any.strings_IndexByte Tryz.lays137 s c w
def Tryz.lays122_ren : Go.Shelf.Ren := ⟨fun | 122 => 59 | 215 => 110 | n => n, fun | 3 => 3 | 4 => 4 | n => n, fun | n => n⟩
theorem Tryz.lays122 : Go.Proofs.Lays.n122 Tryz.prog Tryz.lays122_ren := {
  mixed := by kernel_rfl
  f122 := func59.trans (congrArg some (by kernel_rfl))
  f215 := func110.trans (congrArg some (by kernel_rfl))
  t3 := underlying3
  a3 := isAgg3
  z3 := sizeOf3
  v3 := zeroValue3
  t4 := underlying4
  a4 := isAgg4
  z4 := sizeOf4
  v4 := zeroValue4 }
open Go.RowKit in
theorem Tryz.cmp_Compare_int (x y : Int) (w : World) :
    Calls Tryz.prog 59 #[.int .i64 x, .int .i64 y] w fun e w' => e = .returned (.int .i64 (Lib.compareInt x y)) ∧ w' = w := Any.cmp_Compare_int Tryz.lays122 x y w
def Tryz.lays219_ren : Go.Shelf.Ren := ⟨fun | 219 => 298 | 217 => 260 | 225 => 270 | 224 => 269 | 267 => 315 | 266 => 288 | 314 => 330 | n => n, fun | 9 => 9 | 3 => 3 | 4 => 4 | 5 => 5 | 46 => 188 | 146 => 402 | 51 => 238 | n => n, fun | 1 => 0 | n => n⟩
theorem Tryz.lays219 : Go.Proofs.Lays.n219 Tryz.prog Tryz.lays219_ren := {
  mixed := by kernel_rfl
  f217 := func260.trans (congrArg some (by kernel_rfl))
  f219 := func298.trans (congrArg some (by kernel_rfl))
  f224 := func269.trans (congrArg some (by kernel_rfl))
  f225 := func270.trans (congrArg some (by kernel_rfl))
  f266 := func288.trans (congrArg some (by kernel_rfl))
  f267 := func315.trans (congrArg some (by kernel_rfl))
  f314 := func330.trans (congrArg some (by kernel_rfl))
  t3 := underlying3
  a3 := isAgg3
  z3 := sizeOf3
  v3 := zeroValue3
  t4 := underlying4
  a4 := isAgg4
  z4 := sizeOf4
  v4 := zeroValue4
  t5 := underlying5
  a5 := isAgg5
  z5 := sizeOf5
  v5 := zeroValue5
  t9 := underlying9
  a9 := isAgg9
  z9 := sizeOf9
  v9 := zeroValue9
  t46 := underlying188
  a46 := isAgg188
  z46 := sizeOf188
  v46 := zeroValue188
  t51 := underlying238
  a51 := isAgg238
  z51 := sizeOf238
  v51 := zeroValue238
  t146 := underlying402
  a146 := isAgg402
  z146 := sizeOf402
  v146 := zeroValue402
  g1 := by kernel_rfl }
open Go.RowKit Go.Lib in
theorem Tryz.stringslite_Index_one (s : ByteArray) (c : UInt8) (w : World) :
    Calls Tryz.prog 298 #[.string s, .string ⟨#[c]⟩] w fun e w' => e = .returned (.int .i64 (Lib.indexByte s.data.toList c)) ∧ w' = w := Any.stringslite_Index_one Tryz.lays219 s c w
def Tryz.lays138_ren : Go.Shelf.Ren := ⟨fun | 138 => 373 | 195 => 374 | 218 => 375 | 143 => 376 | 219 => 298 | 217 => 260 | 225 => 270 | 224 => 269 | 267 => 315 | 266 => 288 | 314 => 330 | n => n, fun | 9 => 9 | 3 => 3 | 4 => 4 | 5 => 5 | 0 => 0 | 46 => 188 | 146 => 402 | 51 => 238 | n => n, fun | 1 => 0 | n => n⟩
theorem Tryz.lays138 : Go.Proofs.Lays.n138 Tryz.prog Tryz.lays138_ren := {
  mixed := by kernel_rfl
  f138 := func373.trans (congrArg some (by kernel_rfl))
  f143 := func376.trans (congrArg some (by kernel_rfl))
  f195 := func374.trans (congrArg some (by kernel_rfl))
  f217 := func260.trans (congrArg some (by kernel_rfl))
  f218 := func375.trans (congrArg some (by kernel_rfl))
  f219 := func298.trans (congrArg some (by kernel_rfl))
  f224 := func269.trans (congrArg some (by kernel_rfl))
  f225 := func270.trans (congrArg some (by kernel_rfl))
  f266 := func288.trans (congrArg some (by kernel_rfl))
  f267 := func315.trans (congrArg some (by kernel_rfl))
  f314 := func330.trans (congrArg some (by kernel_rfl))
  t0 := underlying0
  a0 := isAgg0
  z0 := sizeOf0
  v0 := zeroValue0
  t3 := underlying3
  a3 := isAgg3
  z3 := sizeOf3
  v3 := zeroValue3
  t4 := underlying4
  a4 := isAgg4
  z4 := sizeOf4
  v4 := zeroValue4
  t5 := underlying5
  a5 := isAgg5
  z5 := sizeOf5
  v5 := zeroValue5
  t9 := underlying9
  a9 := isAgg9
  z9 := sizeOf9
  v9 := zeroValue9
  t46 := underlying188
  a46 := isAgg188
  z46 := sizeOf188
  v46 := zeroValue188
  t51 := underlying238
  a51 := isAgg238
  z51 := sizeOf238
  v51 := zeroValue238
  t146 := underlying402
  a146 := isAgg402
  z146 := sizeOf402
  v146 := zeroValue402
  g1 := by kernel_rfl }
open Go.RowKit Go.Lib in
theorem Tryz.strings_Count_one (s : ByteArray) (c : UInt8) (w : World) :
    Calls Tryz.prog 373 #[.string s, .string ⟨#[c]⟩] w fun e w' => e = .returned (.int .i64 (Lib.countByte s.data.toList c)) ∧ w' = w := Any.strings_Count_one Tryz.lays138 s c w
def Tryz.lays157_ren : Go.Shelf.Ren := ⟨fun | 157 => 261 | 229 => 256 | 199 => 289 | 261 => 311 | 311 => 327 | 312 => 328 | n => n, fun | 9 => 9 | 31 => 69 | 3 => 3 | 5 => 5 | 4 => 4 | 119 => 341 | 0 => 0 | 40 => 254 | 152 => 338 | 21 => 21 | 154 => 340 | 51 => 238 | 141 => 367 | 196 => 393 | 193 => 390 | 198 => 396 | 49 => 394 | 194 => 391 | 201 => 399 | 226 => 417 | 46 => 188 | 227 => 418 | n => n, fun | 0 => 1 | 6 => 3 | n => n⟩
theorem Tryz.lays157 : Go.Proofs.Lays.n157 Tryz.prog Tryz.lays157_ren := {
  mixed := by kernel_rfl
  f157 := func261.trans (congrArg some (by kernel_rfl))
  f199 := func289.trans (congrArg some (by kernel_rfl))
  f229 := func256.trans (congrArg some (by kernel_rfl))
  f261 := func311.trans (congrArg some (by kernel_rfl))
  f311 := func327.trans (congrArg some (by kernel_rfl))
  f312 := func328.trans (congrArg some (by kernel_rfl))
  t0 := underlying0
  a0 := isAgg0
  z0 := sizeOf0
  v0 := zeroValue0
  t3 := underlying3
  a3 := isAgg3
  z3 := sizeOf3
  v3 := zeroValue3
  t4 := underlying4
  a4 := isAgg4
  z4 := sizeOf4
  v4 := zeroValue4
  t5 := underlying5
  a5 := isAgg5
  z5 := sizeOf5
  v5 := zeroValue5
  t9 := underlying9
  a9 := isAgg9
  z9 := sizeOf9
  v9 := zeroValue9
  t21 := underlying21
  a21 := isAgg21
  z21 := sizeOf21
  v21 := zeroValue21
  t31 := underlying69
  a31 := isAgg69
  z31 := sizeOf69
  v31 := zeroValue69
  t40 := underlying254
  a40 := isAgg254
  z40 := sizeOf254
  v40 := zeroValue254
  t46 := underlying188
  a46 := isAgg188
  z46 := sizeOf188
  v46 := zeroValue188
  t49 := underlying394
  a49 := isAgg394
  z49 := sizeOf394
  v49 := zeroValue394
  t51 := underlying238
  a51 := isAgg238
  z51 := sizeOf238
  v51 := zeroValue238
  t119 := underlying341
  a119 := isAgg341
  z119 := sizeOf341
  t141 := underlying367
  a141 := isAgg367
  z141 := sizeOf367
  v141 := zeroValue367
  t152 := underlying338
  a152 := isAgg338
  z152 := sizeOf338
  v152 := zeroValue338
  t154 := underlying340
  a154 := isAgg340
  z154 := sizeOf340
  v154 := zeroValue340
  t193 := underlying390
  a193 := isAgg390
  z193 := sizeOf390
  v193 := zeroValue390
  t194 := underlying391
  a194 := isAgg391
  z194 := sizeOf391
  v194 := zeroValue391
  t196 := underlying393
  a196 := isAgg393
  z196 := sizeOf393
  v196 := zeroValue393
  t198 := underlying396
  a198 := isAgg396
  z198 := sizeOf396
  v198 := zeroValue396
  t201 := underlying399
  a201 := isAgg399
  z201 := sizeOf399
  v201 := zeroValue399
  t226 := underlying417
  a226 := isAgg417
  z226 := sizeOf417
  v226 := zeroValue417
  t227 := underlying418
  a227 := isAgg418
  z227 := sizeOf418
  v227 := zeroValue418
  g0 := by kernel_rfl
  g6 := by kernel_rfl }
def Tryz.lays151_ren : Go.Shelf.Ren := ⟨fun | 151 => 195 | 152 => 239 | 137 => 217 | 119 => 268 | 224 => 269 | 225 => 270 | 217 => 260 | 266 => 288 | n => n, fun | 9 => 9 | 21 => 21 | 4 => 4 | 3 => 3 | 5 => 5 | 0 => 0 | 46 => 188 | n => n, fun | n => n⟩
theorem Tryz.lays151 : Go.Proofs.Lays.n151 Tryz.prog Tryz.lays151_ren := {
  mixed := by kernel_rfl
  f119 := func268.trans (congrArg some (by kernel_rfl))
  f137 := func217.trans (congrArg some (by kernel_rfl))
  f151 := func195.trans (congrArg some (by kernel_rfl))
  f152 := func239.trans (congrArg some (by kernel_rfl))
  f217 := func260.trans (congrArg some (by kernel_rfl))
  f224 := func269.trans (congrArg some (by kernel_rfl))
  f225 := func270.trans (congrArg some (by kernel_rfl))
  f266 := func288.trans (congrArg some (by kernel_rfl))
  t0 := underlying0
  a0 := isAgg0
  z0 := sizeOf0
  v0 := zeroValue0
  t3 := underlying3
  a3 := isAgg3
  z3 := sizeOf3
  v3 := zeroValue3
  t4 := underlying4
  a4 := isAgg4
  z4 := sizeOf4
  v4 := zeroValue4
  t5 := underlying5
  a5 := isAgg5
  z5 := sizeOf5
  v5 := zeroValue5
  t9 := underlying9
  a9 := isAgg9
  z9 := sizeOf9
  v9 := zeroValue9
  t21 := underlying21
  a21 := isAgg21
  z21 := sizeOf21
  v21 := zeroValue21
  t46 := underlying188
  a46 := isAgg188
  z46 := sizeOf188
  v46 := zeroValue188 }
open Go.RowKit Go.Lib in
theorem Tryz.strings_ContainsRune_ascii (s : ByteArray) (r : Int) (w : World) (h0 : 0 ≤ r) (h1 : r < 128) :
    Calls Tryz.prog 195 #[.string s, .int .i32 r] w fun e w' => e = .returned (.bool (decide (0 ≤ Lib.indexByte s.data.toList r.toNat.toUInt8))) ∧ w' = w := Any.strings_ContainsRune_ascii Tryz.lays151 s r w h0 h1
open Go.RowKit Go.Lib in
theorem Tryz.strings_Fields_any (s : ByteArray) (w : World) (hs : s.size < 4294967281) (htab : Lib.TabIs Tryz.prog w "strings.asciiSpace" .u8 Lib.asciiSpaceTab) (hW : Lib.WhiteTab 3 w) :
    Calls Tryz.prog 261 #[.string s] w fun e w' => ∃ A, e = .returned (.slice (some ⟨A, 0, none⟩) (Lib.fieldsD s.data.toList).length (Lib.fieldsD s.data.toList).length) ∧ w.heap.size ≤ A ∧
      w'.ownsRow w.heap.size 9 1 (.slice (some ⟨A, 0, none⟩) (Lib.fieldsD s.data.toList).length (Lib.fieldsD s.data.toList).length) (Lib.fieldsD s.data.toList).length ((Lib.fieldsD s.data.toList).map fun x => Value.string ⟨x.toArray⟩) ∧ Below w.heap.size w w' := Any.strings_Fields_any Tryz.lays157 (by kernel_rfl) (by kernel_rfl) (by kernel_rfl) s w hs htab hW
def Tryz.lays229_ren : Go.Shelf.Ren := ⟨fun | 229 => 256 | n => n, fun | 9 => 9 | 40 => 254 | 31 => 69 | 152 => 338 | 3 => 3 | 0 => 0 | 4 => 4 | 21 => 21 | 154 => 340 | n => n, fun | n => n⟩
theorem Tryz.lays229 : Go.Proofs.Lays.n229 Tryz.prog Tryz.lays229_ren := {
  mixed := by kernel_rfl
  f229 := func256.trans (congrArg some (by kernel_rfl))
  t0 := underlying0
  a0 := isAgg0
  z0 := sizeOf0
  v0 := zeroValue0
  t3 := underlying3
  a3 := isAgg3
  z3 := sizeOf3
  v3 := zeroValue3
  t4 := underlying4
  a4 := isAgg4
  z4 := sizeOf4
  v4 := zeroValue4
  t9 := underlying9
  a9 := isAgg9
  z9 := sizeOf9
  v9 := zeroValue9
  t21 := underlying21
  a21 := isAgg21
  z21 := sizeOf21
  v21 := zeroValue21
  t31 := underlying69
  a31 := isAgg69
  z31 := sizeOf69
  v31 := zeroValue69
  t40 := underlying254
  a40 := isAgg254
  z40 := sizeOf254
  v40 := zeroValue254
  t152 := underlying338
  a152 := isAgg338
  z152 := sizeOf338
  v152 := zeroValue338
  t154 := underlying340
  a154 := isAgg340
  z154 := sizeOf340
  v154 := zeroValue340 }
open Go.RowKit Go.Lib in
theorem Tryz.strings_FieldsFunc_grows (g : Nat) (lb : Array Value) (eg : ∀ args w, (callFunc g args).run Tryz.prog w = .ok (.enter g args) w) (p : Nat → Bool) (s : ByteArray) (w : World) (hs : s.size ≤ 4294967296) (hp : PredGrows Tryz.prog g lb p w) :
    Calls Tryz.prog 256 #[.string s, .func (.func g) #[] lb] w fun e w' => ∃ A, e = .returned (.slice (some ⟨A, 0, none⟩) (Lib.goFieldsP p s).length (Lib.goFieldsP p s).length) ∧ w.heap.size ≤ A ∧
      w'.ownsRow w.heap.size 9 1 (.slice (some ⟨A, 0, none⟩) (Lib.goFieldsP p s).length (Lib.goFieldsP p s).length) (Lib.goFieldsP p s).length ((Lib.goFieldsP p s).map Value.string) ∧ Below w.heap.size w w' := Any.strings_FieldsFunc_grows Tryz.lays229 g lb eg p s w hs hp (by kernel_rfl) (by kernel_rfl)
def Tryz.lays110_ren : Go.Shelf.Ren := ⟨fun | 110 => 116 | 109 => 179 | n => n, fun | 31 => 69 | 9 => 9 | 4 => 4 | 3 => 3 | 0 => 0 | n => n, fun | n => n⟩
theorem Tryz.lays110 : Go.Proofs.Lays.n110 Tryz.prog Tryz.lays110_ren := {
  mixed := by kernel_rfl
  f109 := func179.trans (congrArg some (by kernel_rfl))
  f110 := func116.trans (congrArg some (by kernel_rfl))
  t0 := underlying0
  a0 := isAgg0
  z0 := sizeOf0
  v0 := zeroValue0
  t3 := underlying3
  a3 := isAgg3
  z3 := sizeOf3
  v3 := zeroValue3
  t4 := underlying4
  a4 := isAgg4
  z4 := sizeOf4
  v4 := zeroValue4
  t9 := underlying9
  a9 := isAgg9
  z9 := sizeOf9
  v9 := zeroValue9
  t31 := underlying69
  a31 := isAgg69
  z31 := sizeOf69
  v31 := zeroValue69 }
open Go.Lib in
theorem Tryz.slices_Contains_string (b off n c : Nat) (zs : List ByteArray) (x : ByteArray) (w : World) (hz : n ≤ zs.length) (hbig : n ≤ 9223372036854775807) (hc : ∀ j, j < zs.length → w.cell? ⟨b, off + j, none⟩ = some (.string (zs.getD j ByteArray.empty))) :
    Calls Tryz.prog 116 #[.slice (some ⟨b, off, none⟩) n c, .string x] w fun e w' => e = .returned (.bool (Lib.containsS (zs.take n) x)) ∧ w' = w := Any.slices_Contains_string Tryz.lays110 b off n c zs x w hz hbig hc
end Go.Proofs
end
section
namespace Go.Sx
theorem bcs_one (l : List UInt8) : (bcs l).all Value.oneCell' = true := by simp [bcs, u8, Value.oneCell']
theorem take_bcs (x : List UInt8) (sp : List Value) : (bcs x ++ sp).take (x.length * 1) = bcs x := by rw [Nat.mul_one, ← bcs_len x]; exact List.take_left
end Go.Sx
namespace Go.Proofs.YtekmeaoblpfnpaaGreatDoor
open Go Go.Sx
theorem yl_sliceFromAny {cx : Cx} {o : Oper} {e : Env} {S : World → Prop} {x y : Operand} {T E b off n c sz j : Nat} {kl : IntKind} (ho : o.op = .slice T x (some y) none none) (hx : ev e x = some (.slice (some ⟨b, off, Option.none⟩) n c)) (hy : ev e y = some (.int kl (j : Int))) (hu : cx.P.underlying T = some (.slice E)) (hsz : ∀ w, (sizeOf E).run cx.P w = .ok sz w) (hj : j ≤ n) (hc : j ≤ c) :
    Yld cx o e S (.slice (some ⟨b, if c = j then off else off + j * sz, none⟩) (n - j) (c - j)) := by
  by_cases h : c = j
  · intro a w ha _
    have h1 : (j : Int) ≤ n := by omega
    simp [execOp, ho, ha.eval hx, ha.eval hy, Instr.sliceAt, Instr.slice, run_underlying hu, Instr.sliceBounds, run_sliceBound, h1, hsz, h]
  rw [if_neg h]
  exact yl_sliceFrom ho hx hy hu hsz hj (by omega)
theorem LSpl.none {α : Type} {l : List α} {i : Nat} (h : i ≤ l.length) : LSpl l i [] l := ⟨by simpa using h, by simp⟩
theorem buf_cp {E x : List UInt8} {n : Nat} (h : E.length + x.length ≤ n) : LSpl (buf E n) (if n = E.length then 0 else 0 + E.length * 1) (bcs x) (buf (E ++ x) n) := by
  by_cases hc : n = E.length
  · have : x = [] := List.length_eq_zero_iff.1 (by omega)
    subst this
    rw [if_pos hc, List.append_nil]; exact LSpl.none (Nat.zero_le _)
  rw [if_neg hc, Nat.zero_add, Nat.mul_one]; exact buf_spl h
theorem Count_ok (s : List UInt8) (c : UInt8) (I : Heap) : Pure Tryz.prog 373 [str s, str [c]] I (i64 (s.count c)) :=
  Pure.of_same (Enters.of Tryz.func373 (by decide) rfl) fun w _ => by
    have h := Tryz.strings_Count_one ⟨s.toArray⟩ c w
    rw [ba_list] at h
    exact h
end Go.Proofs.YtekmeaoblpfnpaaGreatDoor
end
section
namespace Rp
abbrev Tb := UInt8 → Option (List UInt8)
def one (r : Tb) (c : UInt8) : List UInt8 := (r c).getD [c]
def rep (r : Tb) (s : List UInt8) : List UInt8 := s.flatMap (one r)
def two (a : UInt8) (x : List UInt8) (b : UInt8) (y : List UInt8) : Tb := fun c => if c = a then some x else if c = b then some y else none
def w (r : Tb) (c : UInt8) : Int := (one r c).length - 1
def gain (r : Tb) (s : List UInt8) : Int := (s.map (w r)).sum
def hits (r : Tb) (s : List UInt8) : Nat := s.countP fun c => (r c).isSome
theorem rep_gain (r : Tb) (s : List UInt8) : ((rep r s).length : Int) = s.length + gain r s := by
  induction s with
  | nil => rfl
  | cons c s ih =>
    have h1 : (rep r (c :: s)).length = (one r c).length + (rep r s).length := by simp [rep]
    have h2 : gain r (c :: s) = w r c + gain r s := by simp [gain]
    rw [h1, h2, List.length_cons]
    unfold w
    omega
theorem rep_id {r : Tb} : ∀ {s : List UInt8}, hits r s = 0 → rep r s = s
  | [], _ => rfl
  | c :: s, h => by
    unfold hits at h
    rw [List.countP_cons] at h
    have hc : r c = none := by
      cases hr : r c with
      | none => rfl
      | some x => rw [hr] at h; simp at h
    have := rep_id (r := r) (s := s) (by unfold hits; omega)
    show one r c ++ rep r s = c :: s
    rw [this]; unfold one; rw [hc]; rfl
theorem take_next {s : List UInt8} {k : Nat} {c : UInt8} (h : s[k]? = some c) : s.take (k + 1) = s.take k ++ [c] := by
  rw [List.take_add_one, h]; rfl
theorem rep_next (r : Tb) {s : List UInt8} {k : Nat} {c : UInt8} (h : s[k]? = some c) : rep r (s.take (k + 1)) = rep r (s.take k) ++ one r c := by
  rw [take_next h]; simp [rep]
theorem gain_next (r : Tb) {s : List UInt8} {k : Nat} {c : UInt8} (h : s[k]? = some c) : gain r (s.take (k + 1)) = gain r (s.take k) + w r c := by
  rw [take_next h]; simp [gain]
theorem hits_next (r : Tb) {s : List UInt8} {k : Nat} {c : UInt8} (h : s[k]? = some c) : hits r (s.take (k + 1)) = hits r (s.take k) + if (r c).isSome then 1 else 0 := by
  rw [take_next h]; simp [hits, List.countP_append, List.countP_cons]
theorem rep_part (r : Tb) (s : List UInt8) (k : Nat) : (rep r (s.take k)).length ≤ (rep r s).length := by
  have h : rep r s = rep r (s.take k) ++ rep r (s.drop k) := by
    unfold rep; rw [← List.flatMap_append, List.take_append_drop]
  rw [h, List.length_append]; omega
def Two (r : Tb) : Prop := ∀ c x, r c = some x → x.length ≤ 2
theorem w_two {r : Tb} (h : Two r) (c : UInt8) : -1 ≤ w r c ∧ w r c ≤ 1 := by
  unfold w one
  cases hr : r c with
  | none => simp
  | some x => have := h c x hr; simp; omega
theorem gain_two {r : Tb} (h : Two r) : ∀ s : List UInt8, -(s.length : Int) ≤ gain r s ∧ gain r s ≤ s.length
  | [] => by simp [gain]
  | c :: s => by
    have h1 := gain_two h s
    have h2 := w_two h c
    simp only [gain, List.map_cons, List.sum_cons, List.length_cons] at h1 ⊢
    omega
def cg (r : Tb) (s : List UInt8) (ks : List UInt8) : Int := (ks.map fun k => (s.count k : Int) * w r k).sum
def cn (s : List UInt8) (ks : List UInt8) : Nat := (ks.map fun k => s.count k).sum
theorem cg_next (r : Tb) (s : List UInt8) {ks : List UInt8} {i : Nat} {k : UInt8} (h : ks[i]? = some k) : cg r s (ks.take (i + 1)) = cg r s (ks.take i) + s.count k * w r k := by
  rw [take_next h]; simp [cg]
theorem cn_next (s : List UInt8) {ks : List UInt8} {i : Nat} {k : UInt8} (h : ks[i]? = some k) : cn s (ks.take (i + 1)) = cn s (ks.take i) + s.count k := by
  rw [take_next h]; simp [cn]
theorem cg_cons (r : Tb) (c : UInt8) (s : List UInt8) : ∀ (ks : List UInt8), ks.Nodup → cg r (c :: s) ks = cg r s ks + if c ∈ ks then w r c else 0
  | [], _ => by simp [cg]
  | k :: ks, h => by
    obtain ⟨h1, h2⟩ := List.nodup_cons.1 h
    have ih := cg_cons r c s ks h2
    simp only [cg, List.map_cons, List.sum_cons, List.count_cons] at ih ⊢
    by_cases hk : c = k
    · subst hk
      rw [if_neg h1] at ih
      simp only [beq_self_eq_true, if_true, List.mem_cons, true_or]
      rw [ih]
      push_cast
      rw [Int.add_mul]; omega
    have hk' : (c == k) = false := by simpa using hk
    simp only [hk', List.mem_cons, hk, false_or]
    rw [ih]
    simp
    omega
theorem cg_all {r : Tb} {ks : List UInt8} (hn : ks.Nodup) (hk : ∀ c, c ∈ ks ↔ (r c).isSome = true) : ∀ s : List UInt8, cg r s ks = gain r s
  | [] => by
    have h : ∀ l : List UInt8, (l.map fun k => (([] : List UInt8).count k : Int) * w r k).sum = 0 := fun l => by
      induction l with
      | nil => rfl
      | cons k l ih => rw [List.map_cons, List.sum_cons, ih]; simp
    exact h ks
  | c :: s => by
    rw [cg_cons r c s ks hn, cg_all hn hk s]
    simp only [gain, List.map_cons, List.sum_cons]
    by_cases h : c ∈ ks
    · rw [if_pos h]; omega
    rw [if_neg h]
    have : r c = none := by
      cases hr : r c with
      | none => rfl
      | some x => exact absurd ((hk c).2 (by rw [hr]; rfl)) h
    have hw : w r c = 0 := by unfold w one; rw [this]; rfl
    omega
theorem cg_two {r : Tb} (h : Two r) {s : List UInt8} (hs : s.length ≤ 1000000000) : ∀ ks : List UInt8, -(ks.length * 1000000000 : Int) ≤ cg r s ks ∧ cg r s ks ≤ ks.length * 1000000000
  | [] => by simp [cg]
  | k :: ks => by
    have h1 := cg_two h hs ks
    have h2 := w_two h k
    have h3 : s.count k ≤ s.length := List.count_le_length
    have h4 : cg r s (k :: ks) = s.count k * w r k + cg r s ks := by simp [cg]
    have h5 : w r k = -1 ∨ w r k = 0 ∨ w r k = 1 := by omega
    rw [h4, List.length_cons]
    rcases h5 with e | e | e <;> rw [e] <;> omega
theorem mul_two {r : Tb} (h : Two r) {s : List UInt8} (hs : s.length ≤ 1000000000) (k : UInt8) : -1000000000 ≤ s.count k * w r k ∧ s.count k * w r k ≤ 1000000000 := by
  have h2 := w_two h k
  have h3 : s.count k ≤ s.length := List.count_le_length
  have h5 : w r k = -1 ∨ w r k = 0 ∨ w r k = 1 := by omega
  rcases h5 with e | e | e <;> rw [e] <;> omega
theorem cn_hits {r : Tb} {ks : List UInt8} (hk : ∀ c, c ∈ ks ↔ (r c).isSome = true) {s : List UInt8} (h : cn s ks = 0) : hits r s = 0 := by
  have h0 : ∀ k ∈ ks, s.count k = 0 := by
    intro k hkm
    unfold cn at h
    exact List.sum_eq_zero_iff_forall_eq_nat.1 h _ (List.mem_map_of_mem hkm)
  unfold hits
  rw [List.countP_eq_zero]
  intro c hc hs
  have := h0 c ((hk c).2 hs)
  rw [List.count_eq_zero] at this
  exact this hc
end Rp
end
section
set_option maxHeartbeats 40000000
namespace Go.Proofs.YtekmeaoblpfnpaaGreatDoor
open _root_.Go.Proofs.Tryz
open Go Go.Sx
def VOf (I : Heap) (o : Option (List UInt8)) (v : Value) : Prop := (o = none ∧ v = .slice none 0 0) ∨ ∃ x, o = some x ∧ BytSl I x v
theorem VOf.mono {I I' : Heap} {o : Option (List UInt8)} {v : Value} (h : VOf I o v) (hle : Le I I') : VOf I' o v := h.imp id fun ⟨x, h1, h2⟩ => ⟨x, h1, h2.mono hle⟩
def BSG (r : Rp.Tb) (I : Heap) (xb : Nat) : Prop := ∃ (V : Nat → Value) (tr : Value) (ks : List UInt8), I xb = some (cel 364 (tab V tr)) ∧ StrSl 9 I (ks.map fun k => [k]) tr ∧ ks.Nodup ∧ (∀ c, c ∈ ks ↔ (r c).isSome = true) ∧ ks.length ≤ 256 ∧ Rp.Two r ∧ ∀ c : UInt8, VOf I (r c) (V c.toNat)
theorem BSG.mono {r : Rp.Tb} {I I' : Heap} {xb : Nat} (h : BSG r I xb) (hle : Le I I') : BSG r I' xb := let ⟨V, tr, ks, h1, h2, h3, h4, h5, h6, h7⟩ := h; ⟨V, tr, ks, hle _ _ h1, h2.mono hle, h3, h4, h5, h6, fun c => (h7 c).mono hle⟩
theorem bsRep_ok (r : Rp.Tb) (xb : Nat) (s : List UInt8) (hs : s.length ≤ 1000000000) (I : Heap) (hb : BSG r I xb) : Pure Tryz.prog 371 [ptr xb 0, str s] I (str (Rp.rep r s)) := by
 refine Ctr.toPure ?_
 obtain ⟨V, tr, ks, hxb, ⟨tb, tc, tsp, rfl, htb⟩, hnd, hks, hkl, hTw, hV⟩ := hb
 rw [List.length_map] at hxb
 have hga := Rp.gain_two hTw s
 have hrg := Rp.rep_gain r s
 refine xob func371 fun w0 hw0 => ?_
 refine axn 17 ?_
 refine Cj.join (ι := Bool) (fun y => y = false → Rp.rep r s = s) (fun y => [(0, ptr xb 0), (1, str s), (5, i64 ((Rp.rep r s).length : Int)), (6, .bool y)]) (fun y => I) (fun y => []) ?_ (fun hcut => ?_)
 ·
  intro y hy
  refine ax0 (fun hc1 => ?_) (fun hc1 => ?_)
  ·
   refine axr ?_
   rw [hy (by have h := hc1; simpa using h)]
   exact ⟨rfl, rfl⟩
  refine axn 5 ?_
  refine J.op rfl (op_makeSlice (n := (Rp.rep r s).length) (c := (Rp.rep r s).length) (by1 := 1) (z := (.int .u8 0)) rfl rfl rfl rfl rfl underlying192 (by kernel_rfl) rfl (by omega) (by omega) (by omega) ?_)
  intro b2 hb2
  refine axn 15 ?_
  refine Cj.loop (ι := Nat) (fun j => j ≤ s.length) (fun j => s.length - j) (fun j => [(0, ptr xb 0), (1, str s), (12, .slice (some ⟨b2, 0, none⟩) (Rp.rep r s).length (Rp.rep r s).length), (13, i64 ((Rp.rep r (s.take j)).length : Int)), (14, i64 (j : Int))]) (fun j => I) (fun j => [(b2, cel 5 (buf (Rp.rep r (s.take j)) (Rp.rep r s).length))]) 0 (Nat.zero_le _) ⟨rfl, rfl, rfl, rfl, rfl, trivial⟩ rfl (by rw [List.take_zero]; exact congrArg (fun l => [(_, cel 5 l)]) (buf_nil _)) ?_
  intro j hj
  have hej := Rp.rep_part r s j
  refine axc (fun hc3 hc3p => ?_) (fun hc3 hc3p => ?_)
  ·
   have hlt : j < s.length := by omega
   obtain ⟨c, hget⟩ : ∃ c, s[j]? = some c := ⟨_, List.getElem?_eq_getElem hlt⟩
   have hx2 := Rp.rep_next r hget
   have hej2 := Rp.rep_part r s (j + 1)
   refine axn 8 ?_
   refine J.z (q4 underlying9 hget) ?_
   refine axn 5 ?_
   rcases hV c with ⟨hrc, hvc⟩ | ⟨x, hrc, l, cc, sp, fr, hvc, hl⟩
   ·
    have hone : Rp.one r c = [c] := by unfold Rp.one; rw [hrc]; rfl
    have hw : Rp.w r c = 0 := by unfold Rp.w; rw [hone]; rfl
    have hx2e : Rp.rep r (s.take (j + 1)) = Rp.rep r (s.take j) ++ [c] := hx2.trans (by rw [hone])
    have hx2l : (Rp.rep r (s.take (j + 1))).length = (Rp.rep r (s.take j)).length + 1 := by rw [hx2e, List.length_append]; rfl
    refine axn 4 ?_
    refine J.z (yl_indexArr (off' := c.toNat) rfl rfl rfl underlying362 sizeOf192 (by omega) (by have := c.toNat_lt; omega) (by simp)) ?_
    refine J.z (yl_load rfl rfl isAgg192 (Blk.imm hxb) (tab_at _ _ c.toNat_lt)) ?_
    refine J.ev 100 (.slice none 0 0) rfl hvc ?_
    refine xix ((Rp.rep r (s.take j)).length) ?_
    refine J.op rfl (op_store1 0 rfl rfl rfl rfl rfl rfl sizeOf5 rfl (.inl rfl) (by rw [buf_len hej]; omega) (by rw [buf_set _ (by omega)]; exact LSet.z) ?_)
    refine axn 14 ?_
    refine Ej.round (j + 1) (by omega) (by omega) ⟨rfl, rfl, rfl, by rw [hx2l]; rfl, rfl, trivial⟩ rfl (congrArg (fun l => [(_, cel _ (buf l _))]) hx2e)
   have hxt := hTw c x hrc
   have hone : Rp.one r c = x := by unfold Rp.one; rw [hrc]; rfl
   have hw : Rp.w r c = (x.length : Int) - 1 := by unfold Rp.w; rw [hone]
   have hx2e : Rp.rep r (s.take (j + 1)) = Rp.rep r (s.take j) ++ x := hx2.trans (by rw [hone])
   have hx2l : (Rp.rep r (s.take (j + 1))).length = (Rp.rep r (s.take j)).length + x.length := by rw [hx2e, List.length_append]
   refine axn 4 ?_
   refine J.z (yl_indexArr (off' := c.toNat) rfl rfl rfl underlying362 sizeOf192 (by omega) (by have := c.toNat_lt; omega) (by simp)) ?_
   refine J.z (yl_load rfl rfl isAgg192 (Blk.imm hxb) (tab_at _ _ c.toNat_lt)) ?_
   refine J.ev 100 (.slice (some ⟨l, 0, none⟩) x.length cc) rfl hvc ?_
   refine axn 4 ?_
   refine Cj.drawSel [] [] 13 (by kernel_rfl) ?_
   refine axn 3 ?_
   refine JA.zt 3 rfl (yl_sliceFromAny rfl rfl rfl underlying192 sizeOf5 (by omega) (by omega)) ?_
   refine axn 4 ?_
   refine JA.zt 8 rfl (yl_indexArr (off' := c.toNat) rfl rfl rfl underlying362 sizeOf192 (by omega) (by have := c.toNat_lt; omega) (by simp)) ?_
   refine JA.zt 9 rfl (yl_load rfl rfl isAgg192 (Blk.immC hxb) (tab_at _ _ c.toNat_lt)) ?_
   refine JA.ev 111 (.slice (some ⟨l, 0, none⟩) x.length cc) rfl hvc ?_
   refine q0 10 rfl (op_copy (m := x.length) 0 rfl rfl rfl rfl rfl underlying192 sizeOf5 (Src.slice (ys := bcs x) (Blk.imm hl) (by rw [List.drop_zero]; exact take_bcs x sp) (by rw [bcs_len, Nat.mul_one]) (bcs_one x)) (by omega) rfl (buf_cp (E := Rp.rep r (s.take j)) (x := x) (n := (Rp.rep r s).length) (by omega)) LSet.z ?_)
   refine axn 11 ?_
   refine Ej.round (j + 1) (by omega) (by omega) ⟨rfl, rfl, rfl, by rw [hx2l]; rfl, rfl, trivial⟩ rfl (congrArg (fun l => [(_, cel _ (buf l _))]) hx2e)
  have htk : s.take j = s := List.take_of_length_le (by omega)
  refine axn 8 ?_
  refine J.z (yl_toStr (Rp.rep r s) rfl rfl rfl underlying192 underlying9 underlying5 (Blk.at 0 rfl) (by rw [htk, buf_full rfl, List.append_nil]; exact List.take_of_length_le (by rw [List.drop_zero, bcs_len]; exact Nat.le_refl _))) ?_
  refine axr ?_
  exact ⟨rfl, rfl⟩
 refine axn 5 ?_
 refine J.z (yl_load rfl rfl isAgg69 (Blk.imm hxb) (tab_tr _ _)) ?_
 refine axc (fun hc8 hc8p => ?_) (fun hc8 hc8p => ?_)
 ·
  refine axn 5 ?_
  refine J.z (yl_load rfl rfl isAgg69 (Blk.imm hxb) (tab_tr _ _)) ?_
  refine axn 5 ?_
  refine Cj.loop (ι := Nat) (fun i => i ≤ ks.length) (fun i => ks.length - i) (fun i => [(0, ptr xb 0), (1, str s), (5, i64 ((s.length : Int) + Rp.cg r s (ks.take i))), (6, .bool (decide (0 < Rp.cn s (ks.take i)))), (30, .slice (some ⟨tb, 0, none⟩) ks.length tc), (31, i64 (ks.length : Int)), (32, i64 (i : Int))]) (fun i => I) (fun i => []) 0 (Nat.zero_le _) ⟨rfl, rfl, (congrArg (fun z => some (Value.int .i64 z)) (by simp [Rp.cg])), rfl, rfl, rfl, rfl, trivial⟩ rfl rfl ?_
  intro i hi
  have hb1 := Rp.cg_two hTw hs (ks.take i)
  rw [List.length_take, Nat.min_eq_left hi] at hb1
  refine axc (fun hc9 hc9p => ?_) (fun hc9 hc9p => ?_)
  ·
   have hlt : i < ks.length := by omega
   obtain ⟨k, hk⟩ : ∃ k, ks[i]? = some k := ⟨_, List.getElem?_eq_getElem hlt⟩
   have hcg := Rp.cg_next r s hk
   have hcn := Rp.cn_next s hk
   have hm := Rp.mul_two hTw hs k
   have hkl := k.toNat_lt
   have hcl : s.count k ≤ s.length := List.count_le_length
   obtain ⟨x, hrx, l, cc, sp, fr, hvc, hl⟩ := (hV k).resolve_left fun g => by have := (hks k).1 (List.mem_of_getElem? hk); rw [g.1] at this; cases this
   have hxt := hTw k x hrx
   have hw : Rp.w r k = (x.length : Int) - 1 := by unfold Rp.w Rp.one; rw [hrx]; rfl
   refine xix i ?_
   refine J.z (yl_load rfl rfl isAgg9 (Blk.imm htb) (str_get (x := [k]) (by rw [List.getElem?_map, hk]; rfl))) ?_
   refine xpu (Count_ok s k _) ?_
   refine axc (fun hc10 hc10p => ?_) (fun hc10 hc10p => ?_)
   ·
    have h0 : s.count k ≠ 0 := by have h := hc10; simpa using h
    refine axn 1 ?_
    refine Cj.drawSel [] [] 14 (by kernel_rfl) ?_
    refine axn 4 ?_
    refine JA.zt 4 rfl (yl_index rfl rfl rfl underlying9 (by decide) rfl) ?_
    refine axn 2 ?_
    refine JA.zt 7 rfl (yl_indexArr (off' := k.toNat) rfl rfl rfl underlying362 sizeOf192 (by omega) (by have := k.toNat_lt; omega) (by simp)) ?_
    refine JA.zt 8 rfl (yl_load rfl rfl isAgg192 (Blk.immC hxb) (tab_at _ _ k.toNat_lt)) ?_
    refine JA.ev 49 (.slice (some ⟨l, 0, none⟩) x.length cc) rfl hvc ?_
    refine axn 2 ?_
    refine JA.ev 51 (i64 (Rp.w r k)) rfl (congrArg i64 hw.symm) ?_
    refine axn 14 ?_
    refine Ej.round (i + 1) (by omega) (by omega) ⟨rfl, rfl, (congrArg (fun z => some (Value.int .i64 z)) (by rw [hcg]; omega)), (congrArg (fun z => some (Value.bool z)) (by rw [hcn]; exact (decide_eq_true (by omega)).symm)), rfl, rfl, rfl, trivial⟩ rfl rfl
   have h0 : s.count k = 0 := by have h := hc10; simpa using h
   refine axn 7 ?_
   refine Ej.round (i + 1) (by omega) (by omega) ⟨rfl, rfl, (congrArg (fun z => some (Value.int .i64 z)) (by rw [hcg, h0]; omega)), (congrArg (fun z => some (Value.bool z)) (by rw [hcn, h0]; rfl)), rfl, rfl, rfl, trivial⟩ rfl rfl
  have htk : ks.take i = ks := List.take_of_length_le (by omega)
  refine axn 4 ?_
  exact hcut (decide (0 < Rp.cn s ks)) _ _ _ (fun h => Rp.rep_id (Rp.cn_hits hks (by have := of_decide_eq_false h; omega))) ⟨rfl, rfl, (congrArg (fun z => some (Value.int .i64 z)) (by rw [htk, Rp.rep_gain, Rp.cg_all hnd hks])), (congrArg (fun l => some (Value.bool (decide (0 < Rp.cn s l)))) htk), trivial⟩ rfl rfl
 refine axn 6 ?_
 refine Cj.loop (ι := Nat) (fun j => j ≤ s.length) (fun j => s.length - j) (fun j => [(0, ptr xb 0), (1, str s), (5, i64 ((s.length : Int) + Rp.gain r (s.take j))), (6, .bool (decide (0 < Rp.hits r (s.take j)))), (10, i64 (j : Int))]) (fun j => I) (fun j => []) 0 (Nat.zero_le _) ⟨rfl, rfl, (congrArg (fun z => some (Value.int .i64 z)) (by simp [Rp.gain])), rfl, rfl, trivial⟩ rfl rfl ?_
 intro j hj
 have hgj := Rp.gain_two hTw (s.take j)
 rw [List.length_take, Nat.min_eq_left hj] at hgj
 refine axc (fun hc12 hc12p => ?_) (fun hc12 hc12p => ?_)
 ·
  have hlt : j < s.length := by omega
  obtain ⟨c, hget⟩ : ∃ c, s[j]? = some c := ⟨_, List.getElem?_eq_getElem hlt⟩
  have hgn := Rp.gain_next r hget
  have hhn := Rp.hits_next r hget
  refine axn 8 ?_
  refine J.z (q4 underlying9 hget) ?_
  refine axn 5 ?_
  rcases hV c with ⟨hrc, hvc⟩ | ⟨x, hrc, l, cc, sp, fr, hvc, hl⟩
  ·
   have hone : Rp.one r c = [c] := by unfold Rp.one; rw [hrc]; rfl
   have hw : Rp.w r c = 0 := by unfold Rp.w; rw [hone]; rfl
   refine axn 4 ?_
   refine J.z (yl_indexArr (off' := c.toNat) rfl rfl rfl underlying362 sizeOf192 (by omega) (by have := c.toNat_lt; omega) (by simp)) ?_
   refine J.z (yl_load rfl rfl isAgg192 (Blk.imm hxb) (tab_at _ _ c.toNat_lt)) ?_
   refine J.ev 69 (.slice none 0 0) rfl hvc ?_
   refine axn 12 ?_
   refine Ej.round (j + 1) (by omega) (by omega) ⟨rfl, rfl, (congrArg (fun z => some (Value.int .i64 z)) (by rw [hgn, hw]; omega)), (congrArg (fun z => some (Value.bool z)) (by rw [hhn, hrc]; rfl)), rfl, trivial⟩ rfl rfl
  have hxt := hTw c x hrc
  have hone : Rp.one r c = x := by unfold Rp.one; rw [hrc]; rfl
  have hw : Rp.w r c = (x.length : Int) - 1 := by unfold Rp.w; rw [hone]
  refine axn 4 ?_
  refine J.z (yl_indexArr (off' := c.toNat) rfl rfl rfl underlying362 sizeOf192 (by omega) (by have := c.toNat_lt; omega) (by simp)) ?_
  refine J.z (yl_load rfl rfl isAgg192 (Blk.imm hxb) (tab_at _ _ c.toNat_lt)) ?_
  refine J.ev 69 (.slice (some ⟨l, 0, none⟩) x.length cc) rfl hvc ?_
  refine axn 11 ?_
  refine J.z (yl_indexArr (off' := c.toNat) rfl rfl rfl underlying362 sizeOf192 (by omega) (by have := c.toNat_lt; omega) (by simp)) ?_
  refine J.z (yl_load rfl rfl isAgg192 (Blk.imm hxb) (tab_at _ _ c.toNat_lt)) ?_
  refine J.ev 77 (.slice (some ⟨l, 0, none⟩) x.length cc) rfl hvc ?_
  refine axn 16 ?_
  refine Ej.round (j + 1) (by omega) (by omega) ⟨rfl, rfl, (congrArg (fun z => some (Value.int .i64 z)) (by rw [hgn, hw]; omega)), (congrArg (fun z => some (Value.bool z)) (by rw [hhn, hrc]; exact (decide_eq_true (Nat.succ_pos _)).symm)), rfl, trivial⟩ rfl rfl
 have htk : s.take j = s := List.take_of_length_le (by omega)
 refine axn 4 ?_
 exact hcut (decide (0 < Rp.hits r s)) _ _ _ (fun h => Rp.rep_id (by have := of_decide_eq_false h; omega)) ⟨rfl, rfl, (congrArg (fun z => some (Value.int .i64 z)) (by rw [htk, Rp.rep_gain])), (congrArg (fun l => some (Value.bool (decide (0 < Rp.hits r l)))) htk), trivial⟩ rfl rfl
end Go.Proofs.YtekmeaoblpfnpaaGreatDoor
end
section
set_option maxHeartbeats 40000000
namespace Go.Proofs.YtekmeaoblpfnpaaGreatDoor
open _root_.Go.Proofs.Tryz
open Go Go.Sx
theorem _root_.Go.Sx.LSet.tr {H H' : HL} {i b T : Nat} {f : Nat → Value} {tr v : Value} (h : LSet H i (b, cel T (tab f v)) H') : LSet H i (b, .cells ((tab f tr).set 256 v).toArray T) H' := by rw [tab_setTr]; exact h
theorem _root_.Go.Sx.LSet.tb {H H' : HL} {i b T k : Nat} {f : Nat → Value} {tr v : Value} (hk : k < 256) (h : LSet H i (b, cel T (tab (fun j => if j = k then v else f j) tr)) H') : LSet H i (b, .cells ((tab f tr).set k v).toArray T) H' := by rw [tab_set _ _ _ hk]; exact h
def BuildOk (olds : List (List UInt8)) (r : Rp.Tb) : Prop := ∀ (rb : Nat) (a0 a1 a2 a3 osl : Value) (I : Heap), StrSl 9 I olds osl → Ctr Tryz.prog 279 [ptr rb 0] I [(rb, cel 308 [a0, a1, a2, a3, osl])]
    (fun e I' H' => ∃ xb, e = .returned (.iface 365 (ptr xb 0)) ∧ BSG r I' xb ∧ H' = [(rb, cel 308 [a0, a1, a2, a3, osl])])
theorem BSG.two {a b : UInt8} {x y : List UInt8} (hab : b ≠ a) (hx : x.length ≤ 2) (hy : y.length ≤ 2) {I : Heap} {xb : Nat} {v1 v2 tr : Value} (h : I xb = some (cel 364 (tab (fun j => if j = a.toNat then v2 else if j = b.toNat then v1 else .slice none 0 0) tr))) (h1 : BytSl I y v1) (h2 : BytSl I x v2) (h3 : StrSl 9 I [[b], [a]] tr) : BSG (Rp.two a x b y) I xb := by
  refine ⟨_, tr, [b, a], h, h3, by simp [hab], fun c => ?_, (by simp), fun c z hz => ?_, fun c => ?_⟩
  · unfold Rp.two
    by_cases ha : c = a
    · simp [ha]
    by_cases hb : c = b
    · simp [hb, hab]
    simp [ha, hb]
  · unfold Rp.two at hz
    split at hz
    · cases hz; exact hx
    split at hz
    · cases hz; exact hy
    cases hz
  unfold Rp.two
  by_cases ha : c = a
  · subst ha
    exact .inr ⟨x, if_pos rfl, by rw [if_pos rfl]; exact h2⟩
  have ha' : ¬ c.toNat = a.toNat := fun e => ha (UInt8.toNat_inj.1 e)
  by_cases hb : c = b
  · subst hb
    exact .inr ⟨y, by rw [if_neg ha, if_pos rfl], by rw [if_neg ha', if_pos rfl]; exact h1⟩
  have hb' : ¬ c.toNat = b.toNat := fun e => hb (UInt8.toNat_inj.1 e)
  exact .inl ⟨by rw [if_neg ha, if_neg hb], by rw [if_neg ha', if_neg hb']⟩
theorem load_ok (rb T off : Nat) (cs : List Value) (x : Int) (hx : cs[off]? = some (.int .u32 x)) (I : Heap) : Ctr Tryz.prog 277 [ptr rb off] I [(rb, cel T cs)] (fun e _I' H' => e = .returned (.bool (x != 0)) ∧ H' = [(rb, cel T cs)]) :=
  Ctr.of_read (Enters.of func277 (by decide) rfl) hx fun w h => Sync.load_free ⟨rb, off, none⟩ x w h
theorem lock_ok (rb T : Nat) (d sm r o : Value) (I : Heap) : Ctr Tryz.prog 304 [ptr rb 1] I [(rb, cel T [d, .int .i32 0, sm, r, o])] (fun e _I' H' => e = .returned (.tuple #[]) ∧ H' = [(rb, cel T [d, .int .i32 1, sm, r, o])]) :=
  Ctr.of_set (off := 1) (Enters.of func304 (by decide) rfl) rfl fun w h h2 => Sync.lock_free ⟨rb, 1, none⟩ w h h2
theorem unlock_ok (rb T : Nat) (d sm r o : Value) (I : Heap) : CtrD Tryz.prog 305 [ptr rb 1] .returning I [(rb, cel T [d, .int .i32 1, sm, r, o])] (fun u' _I' H' => u' = .returning ∧ H' = [(rb, cel T [d, .int .i32 0, sm, r, o])]) :=
  CtrD.of_set (off := 1) (v := .tuple #[]) (Enters.of func305 (by decide) rfl) rfl fun w h h2 => (Sync.unlock_deferred ⟨rb, 1, none⟩ .returning w h h2).mono fun _ _ _ ⟨g1, g2, g3⟩ => ⟨g1, g2, .inl g3⟩
theorem store_ok (rb T : Nat) (x m sm r o : Value) (I : Heap) : CtrD Tryz.prog 306 [ptr rb 0, .bool true] .returning I [(rb, cel T [x, m, sm, r, o])] (fun u' _I' H' => u' = .returning ∧ H' = [(rb, cel T [.int .u32 1, m, sm, r, o])]) :=
  CtrD.of_set (off := 0) (v := .tuple #[]) (Enters.of func306 (by decide) rfl) rfl fun w h h2 => (Sync.store_deferred ⟨rb, 0, none⟩ x .returning w h h2).mono fun _ _ _ ⟨g1, g2, g3⟩ => ⟨g1, g2, .inr g3⟩
theorem NewReplacer_ok (p q r z : List UInt8) (ob oc : Nat) (I : Heap) : Ctr Tryz.prog 197 [.slice (some ⟨ob, 0, none⟩) 4 oc] I [(ob, cel 9 ([p, q, r, z].map str))]
    (fun e I' H' => ∃ rb osl, e = .returned (ptr rb 0) ∧ H' = [(rb, cel 308 [.int .u32 0, .int .i32 0, .int .u32 0, .nilIface, osl])] ∧ StrSl 9 I' [p, q, r, z] osl) := by
 refine xob func197 fun w0 hw0 => ?_
 refine axn 20 ?_
 refine J.op rfl (op_append (by' := 15) (n := 0) (g := none) (xs := []) [_] rfl rfl rfl rfl rfl underlying69 (.inr ⟨_, underlying69⟩) (by kernel_rfl) sizeOf9 zeroValue9 rfl ⟨rfl, rfl⟩ rfl (Src.slice (Blk.at 0 rfl) rfl rfl rfl) (by omega) ?_)
 intro g2 hg2
 refine J.z (yl_buildS (pl := #[(0, 3), (3, 1), (4, 1)]) rfl rfl zeroValue308 rfl underlying308 (fun w => by simp [sizeOf304, sizeOf306, sizeOf69]) (LBld.part rfl (gV_cells _ _) rfl (LSpl.s (LSpl.s (LSpl.s (LSpl.s (LSpl.c LSpl.z))))) LBld.none)) ?_
 refine axn 1 ?_
 intro b3 hb3
 refine axn 4 ?_
 obtain ⟨gb, gc, gsp, rfl, hgb⟩ := hg2.some (by decide)
 refine Ej.pull (Pull.s (Pull.s Pull.z)) ?_
 refine Ej.persist hgb (fun I9 hle9 hgbi => ?_)
 refine Ej.keep (Keeps.k (Keeps.d Keeps.n)) ?_
 refine axe ?_
 exact ⟨b3, _, rfl, rfl, gb, gc, gsp, rfl, hgbi⟩
def RepH (rb : Nat) (d m sm r o : Value) : HL := [(rb, cel 308 [d, m, sm, r, o])]
def Rep1 (r : Rp.Tb) (I : Heap) (rb : Nat) (d m : Value) (H : HL) : Prop := ∃ xb, BSG r I xb ∧ H = RepH rb d m (.int .u32 0) (.iface 365 (ptr xb 0)) (.slice none 0 0)
theorem buildOnce_ok {olds : List (List UInt8)} {r : Rp.Tb} (hB : BuildOk olds r) (rb : Nat) (d m osl : Value) (I : Heap) (ho : StrSl 9 I olds osl) : Ctr Tryz.prog 245 [ptr rb 0] I (RepH rb d m (.int .u32 0) .nilIface osl)
    (fun e I' H' => e = .returned (.tuple #[]) ∧ Rep1 r I' rb d m H') := by
 refine xob func245 fun w0 hw0 => ?_
 refine axn 4 ?_
 refine J.pull Pull.z ?_
 refine xca (hB rb _ _ _ _ osl _ ho) ?_
 intro v1 I2 H3 hle4 hp5
 obtain ⟨xb, h, hbs, rfl⟩ := hp5; cases h
 refine axn 11 ?_
 refine Ej.end0 rfl rfl ?_
 exact ⟨rfl, xb, hbs, rfl⟩
theorem doSlow_ok {olds : List (List UInt8)} {r : Rp.Tb} (hB : BuildOk olds r) (rb : Nat) (osl : Value) (I : Heap) (ho : StrSl 9 I olds osl) : Ctr Tryz.prog 278 [ptr rb 0, .func (.func 245) #[ptr rb 0] #[]] I (RepH rb (.int .u32 0) (.int .i32 0) (.int .u32 0) .nilIface osl)
    (fun e I' H' => e = .returned (.tuple #[]) ∧ Rep1 r I' rb (.int .u32 1) (.int .i32 0) H') := by
 refine Ctr.of_bodyD func278 rfl (by decide) (Nat.le_of_ble_eq_true rfl) ?_
 intro w0 hw0
 refine axn 5 ?_
 refine J.pull Pull.z ?_
 refine xca (lock_ok rb 308 _ _ _ _ _) ?_
 intro v1 I2 H3 hle4 hp5
 have ho := ho.mono hle4
 obtain ⟨h, rfl⟩ := hp5; cases h
 refine axn 7 ?_
 refine J.defer rfl rfl rfl rfl rfl ?_
 refine J.nssr (J.z q2 ?_)
 refine J.z (yl_nilCheck rfl rfl) ?_
 refine J.z (q1 (off' := 0) underlying304 sizeOf298) ?_
 refine J.pull Pull.z ?_
 refine xca (load_ok rb 308 0 _ 0 rfl _) ?_
 intro v6 I7 H8 hle9 hp10
 have ho := ho.mono hle9
 obtain ⟨h, rfl⟩ := hp10; cases h
 refine axn 9 ?_
 refine J.defer rfl rfl rfl rfl rfl ?_
 refine J.nsr (J.z q2 ?_)
 refine J.pull Pull.z ?_
 refine xca (buildOnce_ok hB rb _ _ osl _ ho) ?_
 intro v12 I13 H14 hle15 hp16
 have ho := ho.mono hle15
 obtain ⟨h, xb, hbs, rfl⟩ := hp16; cases h
 refine axn 1 ?_
 refine Ej.leave2 (H1 := [_]) (R1 := []) rfl (store_ok rb 308 _ _ _ _ _ _) (fun _ => unlock_ok rb 308 _ _ _ _ _) (fun I9 hle9 => ResJ.none rfl ?_)
 exact ⟨rfl, xb, hbs.mono hle9, rfl⟩
theorem Do_ok {olds : List (List UInt8)} {r : Rp.Tb} (hB : BuildOk olds r) (rb : Nat) (osl : Value) (I : Heap) (ho : StrSl 9 I olds osl) : Ctr Tryz.prog 244 [ptr rb 0, .func (.func 245) #[ptr rb 0] #[]] I (RepH rb (.int .u32 0) (.int .i32 0) (.int .u32 0) .nilIface osl)
    (fun e I' H' => e = .returned (.tuple #[]) ∧ Rep1 r I' rb (.int .u32 1) (.int .i32 0) H') := by
 refine xob func244 fun w0 hw0 => ?_
 refine axn 5 ?_
 refine J.pull Pull.z ?_
 refine xca (load_ok rb 308 0 _ 0 rfl _) ?_
 intro v1 I2 H3 hle4 hp5
 have ho := ho.mono hle4
 obtain ⟨h, rfl⟩ := hp5; cases h
 refine axn 7 ?_
 refine J.pull Pull.z ?_
 refine xca (doSlow_ok hB rb osl _ ho) ?_
 intro v7 I8 H9 hle10 hp11
 have ho := ho.mono hle10
 obtain ⟨h, xb, hbs, rfl⟩ := hp11; cases h
 refine axn 1 ?_
 refine Ej.end0 rfl rfl ?_
 exact ⟨rfl, xb, hbs, rfl⟩
theorem Replace_ok {olds : List (List UInt8)} {r : Rp.Tb} (hB : BuildOk olds r) (rb : Nat) (osl : Value) (s : List UInt8) (hs : s.length ≤ 1000000000) (I : Heap) (ho : StrSl 9 I olds osl) : Ctr Tryz.prog 198 [ptr rb 0, str s] I (RepH rb (.int .u32 0) (.int .i32 0) (.int .u32 0) .nilIface osl)
    (fun e _I' H' => e = .returned (str (Rp.rep r s)) ∧ H' = []) := by
 refine xob func198 fun w0 hw0 => ?_
 refine axn 12 ?_
 refine J.pull Pull.z ?_
 refine xca (Do_ok hB rb osl _ ho) ?_
 intro v1 I2 H3 hle4 hp5
 have ho := ho.mono hle4
 obtain ⟨h, xb, hbs, rfl⟩ := hp5; cases h
 refine axn 9 ?_
 refine J.op rfl (op_invoke (H1 := []) (T := 365) rfl rfl rfl rfl rfl (by kernel_rfl) underlying365 (bsRep_ok _ xb s hs _ hbs) ?_ (fun _ _ _ _ h => by cases h.1) (fun _ _ h => by cases h.1))
 rintro v9 I9 H9 hle9 ⟨h, rfl, rfl⟩; cases h
 refine axr ?_
 exact ⟨rfl, rfl⟩
end Go.Proofs.YtekmeaoblpfnpaaGreatDoor
end
section
set_option maxHeartbeats 40000000
namespace Go.Proofs.YtekmeaoblpfnpaaGreatDoor
open _root_.Go.Proofs.Tryz
open Go Go.Sx
theorem zero163 : (Value.agg Tryz.zeroCells364).cells = (tab (fun _ => .slice none 0 0) (.slice none 0 0)).toArray := by
  show Tryz.zeroCells364 = _
  kernel_rfl
theorem buildK_ok : BuildOk [[32], [], [45], []] (Rp.two 32 [] 45 []) := by
 intro rb a0 a1 a2 a3 osl I ho
 obtain ⟨ob, oc, osp, rfl, hob⟩ := ho
 rw [show ([[32], [], [45], []] : List (List UInt8)).length = 4 from rfl]
 refine xob func279 fun w0 hw0 => ?_
 refine axn 44 ?_
 refine Cj.rounds 3 ?_
 refine Rj.succ ?_
 refine axn 9 ?_
 refine Cj.cond rfl (fun hc2 => ?_) (fun hc2 => Bool.noConfusion (Eq.trans (Eq.symm (by first | rfl | decide)) hc2))
 refine xix 0 ?_
 refine axn 5 ?_
 refine Cj.cond rfl (fun hc3 => Bool.noConfusion (Eq.trans (Eq.symm (by first | rfl | decide)) hc3)) (fun hc3 => ?_)
 refine xix 1 ?_
 refine axn 5 ?_
 refine Cj.cond rfl (fun hc4 => ?_) (fun hc4 => Bool.noConfusion (Eq.trans (Eq.symm (by first | rfl | decide)) hc4))
 refine axn 10 ?_
 refine Ej.rounds ?_
 refine Rj.succ ?_
 refine axn 9 ?_
 refine Cj.cond rfl (fun hc5 => ?_) (fun hc5 => Bool.noConfusion (Eq.trans (Eq.symm (by first | rfl | decide)) hc5))
 refine xix 2 ?_
 refine axn 5 ?_
 refine Cj.cond rfl (fun hc6 => Bool.noConfusion (Eq.trans (Eq.symm (by first | rfl | decide)) hc6)) (fun hc6 => ?_)
 refine xix 3 ?_
 refine axn 5 ?_
 refine Cj.cond rfl (fun hc7 => ?_) (fun hc7 => Bool.noConfusion (Eq.trans (Eq.symm (by first | rfl | decide)) hc7))
 refine axn 10 ?_
 refine Ej.rounds ?_
 refine Rj.succ ?_
 refine axn 9 ?_
 refine Cj.cond rfl (fun hc8 => Bool.noConfusion (Eq.trans (Eq.symm (by first | rfl | decide)) hc8)) (fun hc8 => ?_)
 refine axn 18 ?_
 refine J.z (yl_quo rfl rfl rfl (by decide) (by decide)) ?_
 refine J.op rfl (op_makeSlice (n := 0) (c := 2) (by1 := 16) (z := (str [])) rfl rfl rfl rfl rfl underlying69 (by kernel_rfl) rfl (by omega) (by omega) (by omega) ?_)
 intro b10 hb10
 refine J.z (yl_buildS (zs := tab (fun _ => .slice none 0 0) (.slice none 0 0)) (cs := tab (fun _ => .slice none 0 0) (.slice (some ⟨b10, 0, none⟩) 0 2)) (pl := #[(0, 256), (256, 1)]) rfl rfl zeroValue364 zero163 underlying364 (fun w => by simp [sizeOf362, sizeOf69]) (LBld.part rfl rfl rfl (tab_spl _ _ _) LBld.none)) ?_
 refine J.op rfl (op_alloc (zs := tab (fun _ => .slice none 0 0) (.slice none 0 0)) rfl rfl rfl zeroValue364 zero163 ?_)
 intro b11 hb11
 refine J.op rfl (op_store 0 rfl rfl rfl rfl rfl (tab_one (fun _ => rfl) rfl) sizeOf364 (tab_len _ _) rfl (LSpl.all (by rw [tab_len, tab_len])) LSet.z ?_)
 refine J.pull Pull.z ?_
 refine J.pull (Pull.s (Pull.s Pull.z)) ?_
 refine axn 12 ?_
 refine Cj.rounds 3 ?_
 refine Rj.succ ?_
 refine axn 7 ?_
 refine Cj.cond rfl (fun hc12 => ?_) (fun hc12 => Bool.noConfusion (Eq.trans (Eq.symm (by first | rfl | decide)) hc12))
 refine xix 2 ?_
 refine axn 1 ?_
 refine J.z (yl_index (c := 45) rfl rfl rfl underlying9 (by decide) rfl) ?_
 refine xix 3 ?_
 refine axn 10 ?_
 refine J.z (yl_load rfl rfl isAgg192 (Blk.at 1 rfl) (tab_at _ _ (by decide))) ?_
 refine J.ev 116 (.slice none 0 0) rfl (by first | rfl | exact if_neg (by decide)) ?_
 refine axn 6 ?_
 refine J.z (yl_load rfl rfl isAgg69 (Blk.at 1 rfl) (tab_tr _ _)) ?_
 refine axn 2 ?_
 intro b14 hb14
 refine J.z (yl_toStr [45] rfl rfl rfl underlying192 underlying9 underlying5 (Blk.at 0 rfl) rfl) ?_
 refine axn 1 ?_
 intro b15 hb15
 refine J.op rfl (op_append (by' := 15) (n := 0) (g := some (b10, 2, List.replicate 2 (str []))) (xs := []) [_, _, _, _] rfl rfl rfl rfl rfl underlying69 (.inr ⟨_, underlying69⟩) (by kernel_rfl) sizeOf9 zeroValue9 rfl ⟨hb10, rfl, rfl⟩ rfl (Src.slice (Blk.at 0 rfl) rfl rfl rfl) (by omega) ?_)
 intro g16 hg16
 refine axn 1 ?_
 refine J.op rfl (op_store1 3 rfl rfl rfl rfl (gV_cells1 _ _) (gV_oneC _ _) sizeOf69 rfl (.inl rfl) (by rw [tab_len]; decide) (LSet.tr (LSet.s (LSet.s (LSet.s LSet.z)))) ?_)
 refine axn 5 ?_
 refine J.op rfl (op_toBytes rfl rfl rfl rfl underlying9 underlying192 underlying5 ?_)
 intro b17 c18 sp19 fr20 hb17 hfr20
 refine J.persist hb17 (fun I22 hle21 hb17i => ?_)
 have hob := hle21 _ _ hob
 refine axn 2 ?_
 refine J.op rfl (op_store1 3 rfl rfl rfl rfl rfl rfl sizeOf192 rfl (.inl rfl) (by rw [tab_len]; decide) (LSet.tb (by decide) (LSet.s (LSet.s (LSet.s LSet.z)))) ?_)
 refine axn 8 ?_
 refine Ej.rounds ?_
 refine Rj.succ ?_
 refine axn 7 ?_
 refine Cj.cond rfl (fun hc23 => ?_) (fun hc23 => Bool.noConfusion (Eq.trans (Eq.symm (by first | rfl | decide)) hc23))
 refine xix 0 ?_
 refine axn 1 ?_
 refine J.z (yl_index (c := 32) rfl rfl rfl underlying9 (by decide) rfl) ?_
 refine xix 1 ?_
 refine axn 10 ?_
 refine J.z (yl_load rfl rfl isAgg192 (Blk.at 3 rfl) (tab_at _ _ (by decide))) ?_
 refine J.ev 116 (.slice none 0 0) rfl (by first | rfl | exact if_neg (by decide)) ?_
 refine axn 6 ?_
 refine J.z (yl_load rfl rfl isAgg69 (Blk.at 3 rfl) (tab_tr _ _)) ?_
 refine axn 2 ?_
 intro b25 hb25
 refine J.z (yl_toStr [32] rfl rfl rfl underlying192 underlying9 underlying5 (Blk.at 0 rfl) rfl) ?_
 refine axn 1 ?_
 intro b26 hb26
 refine xap 15 [_, _, _, _, _, _] hg16 ?_
 intro g27 hg27
 refine axn 1 ?_
 refine J.op rfl (op_store1 5 rfl rfl rfl rfl (gV_cells1 _ _) (gV_oneC _ _) sizeOf69 rfl (.inl rfl) (by rw [tab_len]; decide) (LSet.tr (LSet.s (LSet.s (LSet.s (LSet.s (LSet.s LSet.z)))))) ?_)
 refine axn 5 ?_
 refine J.op rfl (op_toBytes rfl rfl rfl rfl underlying9 underlying192 underlying5 ?_)
 intro b28 c29 sp30 fr31 hb28 hfr31
 refine J.persist hb28 (fun I33 hle32 hb28i => ?_)
 have hob := hle32 _ _ hob
 have hb17i := hle32 _ _ hb17i
 refine axn 2 ?_
 refine J.op rfl (op_store1 5 rfl rfl rfl rfl rfl rfl sizeOf192 rfl (.inl rfl) (by rw [tab_len]; decide) (LSet.tb (by decide) (LSet.s (LSet.s (LSet.s (LSet.s (LSet.s LSet.z)))))) ?_)
 refine axn 8 ?_
 refine Ej.rounds ?_
 refine Rj.succ ?_
 refine axn 7 ?_
 refine Cj.cond rfl (fun hc34 => Bool.noConfusion (Eq.trans (Eq.symm (by first | rfl | decide)) hc34)) (fun hc34 => ?_)
 refine axn 12 ?_
 obtain ⟨gb, gc, gsp, rfl, hgb⟩ := hg27.some (by decide)
 refine Ej.pull (Pull.s (Pull.s (Pull.s (Pull.s (Pull.s (Pull.s Pull.z)))))) ?_
 refine Ej.persist hgb (fun I9 hle9 hgbi => ?_)
 refine Ej.pull (Pull.s (Pull.s (Pull.s (Pull.s (Pull.s Pull.z))))) ?_
 refine Ej.persist hb11 (fun I8 hle8 hxbi => ?_)
 refine Ej.keep (Keeps.d (Keeps.d (Keeps.d (Keeps.d (Keeps.k Keeps.n))))) ?_
 refine axe ?_
 exact ⟨b11, rfl, BSG.two (by decide) (by decide) (by decide) hxbi ⟨b17, _, _, _, rfl, hle8 _ _ (hle9 _ _ hb17i)⟩ ⟨b28, _, _, _, rfl, hle8 _ _ (hle9 _ _ hb28i)⟩ ⟨gb, gc, gsp, rfl, hle8 _ _ hgbi⟩, rfl⟩
theorem repK_eq (s : List UInt8) : Rp.rep (Rp.two 32 [] 45 []) s = Ke.rep s := by
  induction s with
  | nil => rfl
  | cons c s ih =>
    show Rp.one _ c ++ Rp.rep _ s = Ke.rep (c :: s)
    rw [ih]
    unfold Ke.rep Rp.one Rp.two
    rw [List.filter_cons, Ke.nb_eq]
    by_cases h1 : c = 32
    · simp [h1]
    by_cases h2 : c = 45
    · simp [h2]
    simp [h1, h2]
theorem ReplaceK_ok (rb : Nat) (osl : Value) (s : List UInt8) (hs : s.length ≤ 1000000000) (I : Heap) (ho : StrSl 9 I [[32], [], [45], []] osl) : Ctr Tryz.prog 198 [ptr rb 0, str s] I (RepH rb (.int .u32 0) (.int .i32 0) (.int .u32 0) .nilIface osl) (fun e _I' H' => e = .returned (str (Ke.rep s)) ∧ H' = []) := by
  rw [← repK_eq]
  exact Replace_ok buildK_ok rb osl s hs I ho
end Go.Proofs.YtekmeaoblpfnpaaGreatDoor
end
section
namespace Ke
open Go Go.Sx
def mtabF : Nat → List (Nat × Bs) → ML Int
  | _, [] => []
  | i, (c, s) :: r => ((c : Int), Go.Sx.str s, i) :: mtabF (i + 1) r
def mtab (l : List (Nat × Bs)) : ML Int := mtabF 0 l
theorem cc (c d : Nat) : ((c : Int) == (d : Int)) = (c == d) := by rw [Bool.eq_iff_iff, beq_iff_eq, beq_iff_eq]; omega
theorem mget_tab : ∀ (l : List (Nat × Bs)) (i c : Nat), mget (mtabF i l) (c : Int) = (l.lookup c).map Go.Sx.str
  | [], _, _ => rfl
  | (d, s) :: r, i, c => by
    simp only [mtabF, mget, cc, List.lookup_cons]
    by_cases h : c = d
    · subst h; simp
    have : (c == d) = false := by simpa using h
    rw [this]
    simp only [Bool.false_eq_true, if_false]
    exact mget_tab r (i + 1) c
theorem mset_tab : ∀ (l : List (Nat × Bs)) (i c : Nat) (s : Bs), c ∉ l.map (·.1) → mset (mtabF i l) (c : Int) (Go.Sx.str s) (i + l.length) = mtabF i (l ++ [(c, s)])
  | [], _, _, _, _ => rfl
  | (d, t) :: r, i, c, s, h => by
    simp only [List.map_cons, List.mem_cons, not_or] at h
    have : (c == d) = false := by simpa using h.1
    simp only [mtabF, mset, cc, this, List.cons_append, List.length_cons]
    simp only [Bool.false_eq_true, if_false]
    rw [← mset_tab r (i + 1) c s h.2, show i + 1 + r.length = i + (r.length + 1) by omega]
theorem lookup_none : ∀ {l : List (Nat × Bs)} {c : Nat}, c ∉ l.map (·.1) → l.lookup c = none
  | [], _, _ => rfl
  | (d, t) :: r, c, h => by
    simp only [List.map_cons, List.mem_cons, not_or] at h
    have : (c == d) = false := by simpa using h.1
    rw [List.lookup_cons, this]; exact lookup_none h.2
theorem mset_new {l : List (Nat × Bs)} {c : Nat} {s : Bs} (h : c ∉ l.map (·.1)) : mset (mtab l) (c : Int) (Go.Sx.str s) l.length = mtab (l ++ [(c, s)]) ∧ mclk (mtab l) (c : Int) l.length = (l ++ [(c, s)]).length := by
  refine ⟨by have := mset_tab l 0 c s h; rwa [Nat.zero_add] at this, ?_⟩
  unfold mclk mtab
  rw [mget_tab, lookup_none h]
  simp
def prows : List Bs := rows.map fun p => p.1 ++ 32 :: p.2
theorem rowTab_app : ∀ (x y : List (Bs × Bs)), rowTab (x ++ y) = rowTab x ++ rowTab y
  | [], _ => rfl
  | (a, b) :: r, y => by simp only [List.cons_append, rowTab, rowTab_app r y, List.append_assoc]
theorem rowTab_next {k : Nat} {a b : Bs} (h : rows[k]? = some (a, b)) : rowTab (rows.take (k + 1)) = rowTab (rows.take k) ++ (runes b).map (·, a) := by
  obtain ⟨hlt, hg⟩ := List.getElem?_eq_some_iff.1 h
  rw [List.take_succ_eq_append_getElem hlt, hg, rowTab_app]
  simp [rowTab]
theorem fresh {k c : Nat} {a b : Bs} {x y : List Nat} (h : rows[k]? = some (a, b)) (hr : runes b = x ++ c :: y) : c ∉ (rowTab (rows.take k) ++ x.map (·, a)).map (·.1) := by
  have hn := tab_nodup
  have e : rows = rows.take k ++ (a, b) :: rows.drop (k + 1) := by
    obtain ⟨hlt, hg⟩ := List.getElem?_eq_some_iff.1 h
    rw [← hg, ← List.drop_eq_getElem_cons hlt, List.take_append_drop]
  rw [← tab_eq, e, rowTab_app] at hn
  simp only [rowTab, hr, List.map_append, List.map_cons] at hn
  have e2 : (rowTab (rows.take k)).map (·.1) ++ ((x.map (·, a)).map (·.1) ++ c :: (y.map (·, a)).map (·.1) ++ (rowTab (rows.drop (k + 1))).map (·.1)) = ((rowTab (rows.take k)).map (·.1) ++ (x.map (·, a)).map (·.1)) ++ c :: ((y.map (·, a)).map (·.1) ++ (rowTab (rows.drop (k + 1))).map (·.1)) := by simp
  rw [e2, List.nodup_append] at hn
  intro hc
  rw [List.map_append] at hc
  exact hn.2.2 c hc c (.head _) rfl
theorem row_parts : ∀ p ∈ rows, p.1.all (fun c => decide (c ≠ 32)) = true ∧ p.1.length ≤ 10 ∧ p.2.length ≤ 100 := by decide +kernel
def cutAt (c : UInt8) : Bs → Bs × Bs × Bool
  | [] => ([], [], false)
  | d :: r => if d = c then ([], r, true) else (d :: (cutAt c r).1, (cutAt c r).2)
theorem cutAt_row : ∀ {a b : Bs} {c : UInt8}, a.all (fun d => decide (d ≠ c)) = true → cutAt c (a ++ c :: b) = (a, b, true)
  | [], b, c, _ => by simp [cutAt]
  | d :: r, b, c, h => by
    rw [List.all_cons, Bool.and_eq_true] at h
    have h1 : d ≠ c := of_decide_eq_true h.1
    simp only [List.cons_append, cutAt, if_neg h1, cutAt_row h.2]
theorem cut_index : ∀ (c : UInt8) (s : Bs), (Go.Lib.indexByte s c = -1 ∧ cutAt c s = (s, [], false)) ∨ ∃ n : Nat, Go.Lib.indexByte s c = n ∧ n < s.length ∧ cutAt c s = (s.take n, s.drop (n + 1), true)
  | c, [] => .inl ⟨rfl, rfl⟩
  | c, d :: r => by
    unfold Go.Lib.indexByte
    by_cases hd : d = c
    · subst hd
      exact .inr ⟨0, by simp, by simp, by simp [cutAt]⟩
    have hb : (d == c) = false := by simpa using hd
    rw [hb]
    rcases cut_index c r with ⟨h1, h2⟩ | ⟨n, g1, g2, g3⟩
    · rw [h1]
      exact .inl ⟨by simp, by simp [cutAt, hd, h2]⟩
    rw [g1]
    have hn : ((n : Int) == -1) = false := by
      rw [beq_eq_false_iff_ne]; omega
    rw [hn]
    exact .inr ⟨n + 1, by simp, by simp; omega, by simp [cutAt, hd, g3]⟩
theorem runes_split {b : Bs} {i : Nat} {x : List Nat} (h : runes b = x ++ runes (b.drop i)) (hi : i < b.length) : runes b = x ++ (Go.Utf8.decode ⟨b.toArray⟩ i).1 :: runes (b.drop (i + (Go.Utf8.decode ⟨b.toArray⟩ i).2)) := by
  rw [h, runes_at hi]
theorem runes_split' {b : Bs} {i : Nat} {x : List Nat} (h : runes b = x ++ runes (b.drop i)) (hi : i < b.length) : runes b = (x ++ [(Go.Utf8.decode ⟨b.toArray⟩ i).1]) ++ runes (b.drop (i + (Go.Utf8.decode ⟨b.toArray⟩ i).2)) := by
  rw [runes_split h hi]; simp
theorem runes_done {b : Bs} {i : Nat} {x : List Nat} (h : runes b = x ++ runes (b.drop i)) (hi : ¬ i < b.length) : runes b = x := by
  rw [h, runes_end (by omega), List.append_nil]
end Ke
end
section
set_option maxHeartbeats 40000000
namespace Go.Proofs.YtekmeaoblpfnpaaGreatDoor
open Go Go.Sx
def Tab (I : Heap) (b : Nat) : Prop := I b = some (mobj (fun a : Int => Value.int .i32 a) (Ke.mtab Ke.tab) 207)
theorem Tab.mono {I I' : Heap} {b : Nat} (h : Tab I b) (hle : Le I I') : Tab I' b := hle _ _ h
theorem and_t {a b : Prop} [Decidable a] [Decidable b] (h : (decide a && decide b) = true) : a ∧ b := by simpa using h
theorem and_f {a b : Prop} [Decidable a] [Decidable b] (h : (decide a && decide b) = false) : ¬ (a ∧ b) := fun g => by simp [g.1, g.2] at h
theorem between_ok (c a b : Int) (I : Heap) : Pure Tryz.prog 183 [.int .i32 c, .int .i32 a, .int .i32 b] I (.bool (decide (a ≤ c) && decide (c ≤ b))) := by
 refine xob Tryz.func183 fun w0 hw0 => ?_
 refine axh (fun hg1 => ?_) (fun hg1 => ?_)
 ·
  refine axe ?_
  refine ⟨?_, rfl, rfl⟩
  have h := hg1
  first | (simp_all; done) | (simp_all; omega)
 refine axe ?_
 refine ⟨?_, rfl, rfl⟩
 have h := hg1
 first | (simp_all; done) | (simp_all; omega)
theorem fold_ok (c b : Nat) (hc : c ≤ 1114111) (I : Heap) (hT : Tab I b) : Pure Tryz.prog 129 [.int .i32 (c : Int), .map (some b)] I (str (Ke.char c)) := by
 have hm : mget (Ke.mtab Ke.tab) (c : Int) = (Ke.tab.lookup c).map str := Ke.mget_tab _ 0 c
 refine xob Tryz.func129 fun w0 hw0 => ?_
 refine xpu (between_ok _ _ _ _) ?_
 refine ax0 (fun hc1 => ?_) (fun hc1 => ?_)
 ·
  have c7x1 := and_t hc1
  refine axe ?_
  refine ⟨?_, rfl, rfl⟩
  refine congrArg (fun l => Ending.returned (str l)) ?_
  unfold Ke.char
  rw [if_pos (by omega)]; exact Ke.enc_encode (by unfold Ke.okc; omega)
 have c7x2 := and_f hc1
 refine xpu (between_ok _ _ _ _) ?_
 refine ax0 (fun hc3 => ?_) (fun hc3 => ?_)
 ·
  have c7x3 := and_t hc3
  refine axe ?_
  refine ⟨?_, rfl, rfl⟩
  refine congrArg (fun l => Ending.returned (str l)) ?_
  unfold Ke.char
  rw [if_pos (by omega)]; exact Ke.enc_encode (by unfold Ke.okc; omega)
 have c7x4 := and_f hc3
 refine xpu (between_ok _ _ _ _) ?_
 refine ax0 (fun hc4 => ?_) (fun hc4 => ?_)
 ·
  have c14x5 := and_t hc4
  refine axe ?_
  refine ⟨?_, rfl, rfl⟩
  refine congrArg (fun l => Ending.returned (str l)) ?_
  unfold Ke.char
  rw [if_neg (by omega), if_pos (by omega)]; exact (congrArg (fun n : Int => (Utf8.encode n).data.toList) (by omega)).trans (Ke.enc_encode (c := c + 32) (by unfold Ke.okc; omega))
 have c14x6 := and_f hc4
 refine axc (fun hc5 hc5p => ?_) (fun hc5 hc5p => ?_)
 ·
  have c20x7 := of_decide_eq_true hc5
  refine axe ?_
  refine ⟨?_, rfl, rfl⟩
  refine congrArg (fun l => Ending.returned (str l)) ?_
  unfold Ke.char
  rw [if_neg (by omega), if_neg (by omega), if_pos (by omega)]
 have c20x8 := of_decide_eq_false hc5
 refine xpu (between_ok _ _ _ _) ?_
 refine ax0 (fun hc6 => ?_) (fun hc6 => ?_)
 ·
  have c23x9 := and_t hc6
  refine axe ?_
  refine ⟨?_, rfl, rfl⟩
  refine congrArg (fun l => Ending.returned (str l)) ?_
  unfold Ke.char
  rw [if_neg (by omega), if_neg (by omega), if_neg (by omega), if_pos (by omega)]
 have c23x10 := and_f hc6
 refine xpu (between_ok _ _ _ _) ?_
 refine ax0 (fun hc8 => ?_) (fun hc8 => ?_)
 ·
  have c23x11 := and_t hc8
  refine axe ?_
  refine ⟨?_, rfl, rfl⟩
  refine congrArg (fun l => Ending.returned (str l)) ?_
  unfold Ke.char
  rw [if_neg (by omega), if_neg (by omega), if_neg (by omega), if_pos (by omega)]
 have c23x12 := and_f hc8
 refine axn 8 ?_
 refine J.z (yl_lookup2 (kv := fun a : Int => Value.int .i32 a) (l := Ke.mtab Ke.tab) (a := (c : Int)) rfl rfl rfl rfl Tryz.underlying200 (KeyK.int Tryz.underlying21) Tryz.zeroValue9 (Blk.imm hT)) ?_
 refine ax0 (fun hc9 => ?_) (fun hc9 => ?_)
 ·
  obtain ⟨x, hx⟩ := Option.isSome_iff_exists.1 (show (Ke.tab.lookup c).isSome = true by have h := hc9; rw [hm] at h; simpa using h)
  refine Cj.ev 5 (str x) rfl (by rw [hm, hx]; rfl) ?_
  refine axe ?_
  refine ⟨?_, rfl, rfl⟩
  refine congrArg (fun l => Ending.returned (str l)) ?_
  unfold Ke.char
  rw [if_neg (by omega), if_neg (by omega), if_neg (by omega), if_neg (by omega), hx]
 have hx : Ke.tab.lookup c = none := by have h := hc9; rw [hm] at h; simpa using h
 refine axc (fun hc10 hc10p => ?_) (fun hc10 hc10p => ?_)
 ·
  have c36x13 := eq_of_beq hc10
  refine axe ?_
  refine ⟨?_, rfl, rfl⟩
  refine congrArg (fun l => Ending.returned (str l)) ?_
  unfold Ke.char
  rw [if_neg (by omega), if_neg (by omega), if_neg (by omega), if_neg (by omega), hx]
  simp only
  rw [if_pos (by omega)]; rfl
 have c36x14 := ne_of_beq_false hc10
 refine xpu (between_ok _ _ _ _) ?_
 refine ax0 (fun hc11 => ?_) (fun hc11 => ?_)
 ·
  have c39x15 := and_t hc11
  refine axe ?_
  refine ⟨?_, rfl, rfl⟩
  refine congrArg (fun l => Ending.returned (str l)) ?_
  unfold Ke.char
  rw [if_neg (by omega), if_neg (by omega), if_neg (by omega), if_neg (by omega), hx]
  simp only
  rw [if_neg (by omega), if_pos (by omega)]; exact Ke.enc_encode (by unfold Ke.okc; omega)
 have c39x16 := and_f hc11
 refine xpu (between_ok _ _ _ _) ?_
 refine ax0 (fun hc13 => ?_) (fun hc13 => ?_)
 ·
  have c39x17 := and_t hc13
  refine axe ?_
  refine ⟨?_, rfl, rfl⟩
  refine congrArg (fun l => Ending.returned (str l)) ?_
  unfold Ke.char
  rw [if_neg (by omega), if_neg (by omega), if_neg (by omega), if_neg (by omega), hx]
  simp only
  rw [if_neg (by omega), if_pos (by omega)]; exact Ke.enc_encode (by unfold Ke.okc; omega)
 have c39x18 := and_f hc13
 refine xpu (between_ok _ _ _ _) ?_
 refine axh (fun hg14 => ?_) (fun hg14 => ?_)
 ·
  have c49x19 := and_t hg14
  refine axc (fun hc15 hc15p => ?_) (fun hc15 hc15p => ?_)
  ·
   have c46x20 : (c : Int) ≠ 930 := by have h := hc15; simpa using h
   refine axe ?_
   refine ⟨?_, rfl, rfl⟩
   refine congrArg (fun l => Ending.returned (str l)) ?_
   unfold Ke.char
   rw [if_neg (by omega), if_neg (by omega), if_neg (by omega), if_neg (by omega), hx]
   simp only
   rw [if_neg (by omega), if_neg (by omega), if_pos (by omega)]; exact (congrArg (fun n : Int => (Utf8.encode n).data.toList) (by omega)).trans (Ke.enc_encode (c := c + 32) (by unfold Ke.okc; omega))
  have c46x21 : ¬ (c : Int) ≠ 930 := by have h := hc15; simpa using h
  refine xpu (between_ok _ _ _ _) ?_
  refine ax0 (fun hc17 => ?_) (fun hc17 => ?_)
  ·
   have c46x22 := and_t hc17
   refine axe ?_
   refine ⟨?_, rfl, rfl⟩
   refine congrArg (fun l => Ending.returned (str l)) ?_
   unfold Ke.char
   rw [if_neg (by omega), if_neg (by omega), if_neg (by omega), if_neg (by omega), hx]
   simp only
   rw [if_neg (by omega), if_neg (by omega), if_pos (by omega)]; exact (congrArg (fun n : Int => (Utf8.encode n).data.toList) (by omega)).trans (Ke.enc_encode (c := c + 32) (by unfold Ke.okc; omega))
  have c46x23 := and_f hc17
  refine axe ?_
  refine ⟨?_, rfl, rfl⟩
  refine congrArg (fun l => Ending.returned (str l)) ?_
  unfold Ke.char
  rw [if_neg (by omega), if_neg (by omega), if_neg (by omega), if_neg (by omega), hx]
  simp only
  rw [if_neg (by omega), if_neg (by omega), if_neg (by omega)]
 have c49x24 := and_f hg14
 refine xpu (between_ok _ _ _ _) ?_
 refine ax0 (fun hc19 => ?_) (fun hc19 => ?_)
 ·
  have c46x25 := and_t hc19
  refine axe ?_
  refine ⟨?_, rfl, rfl⟩
  refine congrArg (fun l => Ending.returned (str l)) ?_
  unfold Ke.char
  rw [if_neg (by omega), if_neg (by omega), if_neg (by omega), if_neg (by omega), hx]
  simp only
  rw [if_neg (by omega), if_neg (by omega), if_pos (by omega)]; exact (congrArg (fun n : Int => (Utf8.encode n).data.toList) (by omega)).trans (Ke.enc_encode (c := c + 32) (by unfold Ke.okc; omega))
 have c46x26 := and_f hc19
 refine axe ?_
 refine ⟨?_, rfl, rfl⟩
 refine congrArg (fun l => Ending.returned (str l)) ?_
 unfold Ke.char
 rw [if_neg (by omega), if_neg (by omega), if_neg (by omega), if_neg (by omega), hx]
 simp only
 rw [if_neg (by omega), if_neg (by omega), if_neg (by omega)]
end Go.Proofs.YtekmeaoblpfnpaaGreatDoor
end
