/-
  Own texts on the laws of the seat, joined: the logic, and contracts of functions. Conditions: none.
-/
import Derived.Test.YtekmeaoblpfnpaaGreatDoorNmP
import Derived.Test.YtekmeaoblpfnpaaGreatDoorPP2
import Derived.Tactics
import Derived.Tactics2
import Derived.Laws.Pointers
import Derived.Laws.LoneSync
import Derived.RegionTactic
import Derived.RegionCalls
import Derived.ChangeAlike
import Derived.Lib.TrimUEq
import Derived.Lib.TrimAscii
import Derived.Lib.MapLaws
import Derived.Shelf.Strings.Builder1
import Derived.Shelf.Strings.Builder2
import Derived.Shelf.Strings.OnBuilder
import Derived.Shelf.Strings.Trim
import Derived.Shelf.Small.Utf8
import Derived.Shelf.Small.Bits
import Derived.Shelf.Small.Strs
import Derived.Shelf.Small.Wraps
import Derived.Shelf.Strings.BuilderF
import Derived.Shelf.Strings.BuilderK
import Derived.Shelf.Strings.BuilderRune
import Derived.Shelf.Utf8.AppendRune
import Derived.Shelf.Utf8.AppendRunePlain
import Derived.Shelf.Utf8.RuneCount
import Derived.Shelf.Strings.Builder2Cap
import Derived.Shelf.Strconv.Itoa0
import Derived.Shelf.Strings.Search1
import Derived.Shelf.Strings.Search2
import Derived.Shelf.Strings.Search3
import Derived.Shelf.Strings.Cut
import Derived.Shelf.Strings.Count
import Derived.Shelf.LaysM
import Derived.Shelf.Strings.Shaped
import Derived.Shelf.GgClosure.StringsIndexFunc
import Derived.Ground.GgwProg
import Derived.Shelf.GgClosure.StringsIndexFuncTop
import Derived.Shelf.Strings.Prefix
import Derived.Shelf.Strings.Split
import Derived.Shelf.Strings.Fields
import Derived.Shelf.Strings.SplitShaped
import Derived.Shelf.Unicode.Latin
import Derived.Shelf.Unicode.Decode
import Derived.Shelf.Strings.Runes
import Derived.Shelf.Strings.RuneCount
import Derived.Shelf.Strings.AsciiSet
import Derived.Shelf.Unicode.DecodeSlow
import Derived.Shelf.Unicode.DecodeAny
import Derived.Shelf.Unicode.Is16White
import Derived.Shelf.Unicode.IsSpaceAny
import Derived.Shelf.Unicode.DecodeLast
import Derived.Shelf.Unicode.Is16WhiteD
import Derived.Shelf.Unicode.IsSpaceAnyD
import Derived.Shelf.Strings.FieldsAny
import Derived.Shelf.Strings.FieldsFuncAny
import Derived.Shelf.Unicode.CaseLookup
import Derived.Shelf.Unicode.CaseConvert
import Derived.Shelf.Unicode.CaseTo
import Derived.Shelf.Unicode.CaseLaid
import Derived.Shelf.Strings.MapAny
import Derived.Shelf.Strings.CaseAny
import Derived.Shelf.Unicode.Is16Any
import Derived.Shelf.Unicode.Is32Any
import Derived.Shelf.Unicode.ExclAny
import Derived.Shelf.Strings.FuncGrows
import Derived.Shelf.Strings.FieldsFuncGrows
import Derived.Shelf.Strings.BuilderCap
import Derived.Shelf.Strings.MapGrows
import Derived.Shelf.Slices.Turned
import Derived.Shelf.Slices.Equal
import Derived.Ground.Names2Prog
import Derived.Shelf.Slices.SearchI
import Derived.Shelf.Slices.Empties2
set_option maxRecDepth 100000
set_option maxHeartbeats 40000000
set_option maxRecDepth 100000
set_option maxHeartbeats 40000000
namespace Go.Proofs.YtekmeaoblpfnpaaGreatDoor.Sync
open _root_.Go.Proofs.Tryz
open Go Go.Sx
theorem disable (w : World) : (callFunc 331 #[]).run Tryz.prog w = .ok (.value (.tuple #[])) w := run_call_mark0 func331 (by kernel_rfl) (by kernel_rfl) (by kernel_rfl) .disable (by kernel_rfl) w
theorem enable (w : World) : (callFunc 333 #[]).run Tryz.prog w = .ok (.value (.tuple #[])) w := run_call_mark0 func333 (by kernel_rfl) (by kernel_rfl) (by kernel_rfl) .enable (by kernel_rfl) w
theorem acquire (a : Addr) (w : World) : (callFunc 334 #[.pointer (some a)]).run Tryz.prog w = .ok (.value (.tuple #[])) w := run_call_marked func334 (by kernel_rfl) (by kernel_rfl) (by kernel_rfl) .acquire (by kernel_rfl) a w
theorem releaseMerge (a : Addr) (w : World) : (callFunc 336 #[.pointer (some a)]).run Tryz.prog w = .ok (.value (.tuple #[])) w := run_call_marked func336 (by kernel_rfl) (by kernel_rfl) (by kernel_rfl) .releaseMerge (by kernel_rfl) a w
theorem store_deferred (a : Addr) (x : Value) (u : FrameMode) (w : World) (hc : w.cell? a = some x) (hz : w.frozen? a = false) :
    CallsD Tryz.prog 306 #[.pointer (some a), .bool true] u w fun e u' w' => u' = u ∧ (e = .returned (.tuple #[]) ∧ w' = w.drew.setCell a (.int .u32 1)) := by
  have hc' : w.drew.cell? a = some x := by go_simp
  have hz' : w.drew.frozen? a = false := by go_simp
  have hst := run_call_store (P := Tryz.prog) func321 (by kernel_rfl) (by kernel_rfl) (by kernel_rfl) (by kernel_rfl) (k := .u32) (y := 1) hc' hz'
  go_enter_d func306, Tryz.ntmps306
  go_wp2
  go_region_calls
  all_goals (go_end0; exact ⟨rfl, rfl⟩)
theorem unlock_deferred (a : Addr) (u : FrameMode) (w : World) (hc : w.cell? a = some (.int .i32 1)) (hz : w.frozen? a = false) :
    CallsD Tryz.prog 305 #[.pointer (some a)] u w fun e u' w' => u' = u ∧ (e = .returned (.tuple #[]) ∧ w' = w.setCell a (.int .i32 0)) := by
  have hd := disable
  have he := enable
  have hr := releaseMerge
  have hadd := run_call_add (P := Tryz.prog) func337 (by kernel_rfl) (by kernel_rfl) (by kernel_rfl) .i32 (by kernel_rfl) (y := -1) (s := 0) hc hz (by simp [go_sem]; rfl)
  have hcv := run_convert_to_unsafe (P := Tryz.prog) (src := 408) (dst := 284) underlying408 tU284 (by kernel_rfl) hc
  go_enter_d func305, Tryz.ntmps305
  go_wp2
  go_end0
  go_wp2
  go_end0
  exact ⟨rfl, rfl⟩
theorem lock_free (a : Addr) (w : World) (hc : w.cell? a = some (.int .i32 0)) (hz : w.frozen? a = false) :
    Calls Tryz.prog 304 #[.pointer (some a)] w fun e w' => e = .returned (.tuple #[]) ∧ w' = w.setCell a (.int .i32 1) := by
  have hd := disable
  have he := enable
  have ha := acquire
  have hcas := run_call_cas_hit (P := Tryz.prog) func332 (by kernel_rfl) (by kernel_rfl) (by kernel_rfl) .i32 (by kernel_rfl) (y := 1) hc hz
  have hc' : (w.setCell a (.int .i32 1)).cell? a = some (.int .i32 1) := World.cell?_setCell_same w a _ hc
  have hcv := run_convert_to_unsafe (P := Tryz.prog) (src := 408) (dst := 284) underlying408 tU284 (by kernel_rfl) hc'
  go_enter func304, Tryz.ntmps304
  go_wp2
  first | go_end0 | (simp only [Exit.inBlock, Exit.then]; refine bodyPost_ret (results_none rfl _ _ _) rfl ?_) | refine bodyPost_ret (results_none rfl _ _ _) rfl ?_
  go_wp2
  go_end0
  exact ⟨rfl, rfl⟩
theorem load_free (a : Addr) (x : Int) (w : World) (hc : w.cell? a = some (.int .u32 x)) :
    Calls Tryz.prog 277 #[.pointer (some a)] w fun e w' => e = .returned (.bool (x != 0)) ∧ w' = w := by
  have hl := run_call_load (P := Tryz.prog) func303 (by kernel_rfl) (by kernel_rfl) (by kernel_rfl) .u32 (by kernel_rfl) hc
  go_enter func277, Tryz.ntmps277
  go_wp2
  go_ret
  exact ⟨rfl, rfl⟩
end Go.Proofs.YtekmeaoblpfnpaaGreatDoor.Sync
namespace Ke
open Go.Lib (decodeL decodeN)
abbrev Bs := List UInt8
def runesF : Nat → Bs → List Nat
  | 0, _ => []
  | _ + 1, [] => []
  | f + 1, c :: r => (decodeL (c :: r)).1 :: runesF f ((c :: r).drop (decodeL (c :: r)).2)
def runes (s : Bs) : List Nat := runesF s.length s
theorem runesF_eq : ∀ (f g : Nat) (s : Bs), s.length ≤ f → s.length ≤ g → runesF f s = runesF g s
  | 0, 0, _, _, _ => rfl
  | 0, g + 1, s, h, _ => by
    have : s = [] := List.length_eq_zero_iff.1 (by omega)
    subst this; rfl
  | f + 1, 0, s, _, h => by
    have : s = [] := List.length_eq_zero_iff.1 (by omega)
    subst this; rfl
  | f + 1, g + 1, [], _, _ => rfl
  | f + 1, g + 1, c :: r, h1, h2 => by
    have hw := Go.Lib.decodeL_width (c :: r)
    simp only [List.length_cons] at h1 h2
    simp only [runesF]
    rw [runesF_eq f g _ (by simp; omega) (by simp; omega)]
theorem runes_nil : runes [] = [] := rfl
theorem runes_cons {s : Bs} (h : s ≠ []) : runes s = (decodeL s).1 :: runes (s.drop (decodeL s).2) := by
  cases s with
  | nil => exact absurd rfl h
  | cons c r =>
    have hw := Go.Lib.decodeL_width (c :: r)
    show runesF (r.length + 1) (c :: r) = _
    simp only [runesF]
    unfold runes
    rw [runesF_eq r.length _ _ (by simp; omega) (Nat.le_refl _)]
theorem runes_at {s : Bs} {i : Nat} (h : i < s.length) : runes (s.drop i) = (Go.Utf8.decode ⟨s.toArray⟩ i).1 :: runes (s.drop (i + (Go.Utf8.decode ⟨s.toArray⟩ i).2)) := by
  have h1 := Go.Lib.decodeL_drop ⟨s.toArray⟩ i
  simp only at h1
  rw [← h1, runes_cons (by simp; omega), List.drop_drop]
theorem runes_end {s : Bs} {i : Nat} (h : s.length ≤ i) : runes (s.drop i) = [] := by rw [List.drop_eq_nil_of_le h]; rfl
theorem decode_le (s : Bs) (i : Nat) : (Go.Utf8.decode ⟨s.toArray⟩ i).1 ≤ 1114111 := by
  rw [← Go.Lib.decodeL_drop ⟨s.toArray⟩ i]; exact Go.Lib.decodeL_rune _
theorem decode_width (s : Bs) {i : Nat} (h : i < s.length) : 1 ≤ (Go.Utf8.decode ⟨s.toArray⟩ i).2 ∧ i + (Go.Utf8.decode ⟨s.toArray⟩ i).2 ≤ s.length := by
  have h1 : decodeL (s.drop i) = Go.Utf8.decode ⟨s.toArray⟩ i := Go.Lib.decodeL_drop ⟨s.toArray⟩ i
  rw [← h1]
  refine ⟨Go.Lib.decodeL_width _, ?_⟩
  have := Go.Lib.decodeL_le (s.drop i) (by simp; omega)
  simp only [List.length_drop] at this
  omega
theorem runes_len : ∀ (f : Nat) (s : Bs), (runesF f s).length ≤ s.length
  | 0, _ => Nat.zero_le _
  | _ + 1, [] => Nat.le_refl _
  | f + 1, d :: r => by
    have hw := Go.Lib.decodeL_width (d :: r)
    have := runes_len f ((d :: r).drop (decodeL (d :: r)).2)
    simp only [runesF, List.length_cons]
    simp only [List.length_drop, List.length_cons] at this
    omega
def enc (c : Nat) : Bs :=
  if c < 128 then [UInt8.ofNat c] else if c < 2048 then [UInt8.ofNat (192 + c / 64), UInt8.ofNat (128 + c % 64)]
  else if c < 65536 then [UInt8.ofNat (224 + c / 4096), UInt8.ofNat (128 + c / 64 % 64), UInt8.ofNat (128 + c % 64)]
  else [UInt8.ofNat (240 + c / 262144), UInt8.ofNat (128 + c / 4096 % 64), UInt8.ofNat (128 + c / 64 % 64), UInt8.ofNat (128 + c % 64)]
def okc (c : Nat) : Prop := c < 55296 ∨ (57344 ≤ c ∧ c < 65536)
theorem valid_of {c : Nat} (h : okc c) : Go.Utf8.valid (c : Int) = true := by
  unfold okc at h
  unfold Go.Utf8.valid
  simp only [Bool.or_eq_true, Bool.and_eq_true, decide_eq_true_eq]
  omega
theorem enc_valid {c : Nat} (hv : Go.Utf8.valid (c : Int) = true) : (Go.Utf8.encode (c : Int)).data.toList = (if c < 128 then (⟨#[UInt8.ofNat c]⟩ : ByteArray) else if c < 2048 then ⟨#[UInt8.ofNat (192 + c / 64), UInt8.ofNat (128 + c % 64)]⟩ else if c < 65536 then ⟨#[UInt8.ofNat (224 + c / 4096), UInt8.ofNat (128 + c / 64 % 64), UInt8.ofNat (128 + c % 64)]⟩
    else ⟨#[UInt8.ofNat (240 + c / 262144), UInt8.ofNat (128 + c / 4096 % 64), UInt8.ofNat (128 + c / 64 % 64), UInt8.ofNat (128 + c % 64)]⟩).data.toList := by simp_all [Go.Utf8.encode, Int.toNat_natCast]
theorem enc_encode {c : Nat} (h : okc c) : (Go.Utf8.encode (c : Int)).data.toList = enc c := by
  rw [enc_valid (valid_of h)]
  unfold enc
  by_cases h1 : c < 128
  · rw [if_pos h1, if_pos h1]
  rw [if_neg h1, if_neg h1]
  by_cases h2 : c < 2048
  · rw [if_pos h2, if_pos h2]
  rw [if_neg h2, if_neg h2]
  by_cases h3 : c < 65536
  · rw [if_pos h3, if_pos h3]
  rw [if_neg h3, if_neg h3]
def rows : List (Bs × Bs) := [
  ([97], [195, 160, 195, 161, 195, 162, 195, 163, 195, 164, 195, 165, 196, 129, 196, 131, 196, 133, 195, 128, 195, 129, 195, 130, 195, 131, 195, 132, 195, 133, 196, 128, 196, 130, 196, 132]),
  ([99], [195, 167, 196, 135, 196, 137, 196, 139, 196, 141, 195, 135, 196, 134, 196, 136, 196, 138, 196, 140]),
  ([100], [196, 143, 196, 145, 195, 176, 196, 142, 196, 144, 195, 144]),
  ([101], [195, 168, 195, 169, 195, 170, 195, 171, 196, 147, 196, 149, 196, 151, 196, 153, 196, 155, 195, 136, 195, 137, 195, 138, 195, 139, 196, 146, 196, 148, 196, 150, 196, 152, 196, 154]),
  ([103], [196, 157, 196, 159, 196, 161, 196, 163, 196, 156, 196, 158, 196, 160, 196, 162]),
  ([104], [196, 165, 196, 167, 196, 164, 196, 166]),
  ([105], [195, 172, 195, 173, 195, 174, 195, 175, 196, 169, 196, 171, 196, 173, 196, 175, 196, 177, 195, 140, 195, 141, 195, 142, 195, 143, 196, 168, 196, 170, 196, 172, 196, 174, 196, 176]),
  ([106], [196, 181, 196, 180]),
  ([107], [196, 183, 196, 182]),
  ([108], [196, 186, 196, 188, 196, 190, 197, 130, 196, 185, 196, 187, 196, 189, 197, 129]),
  ([110], [195, 177, 197, 132, 197, 134, 197, 136, 195, 145, 197, 131, 197, 133, 197, 135]),
  ([111], [195, 178, 195, 179, 195, 180, 195, 181, 195, 182, 195, 184, 197, 141, 197, 143, 197, 145, 198, 161, 195, 146, 195, 147, 195, 148, 195, 149, 195, 150, 195, 152, 197, 140, 197, 142, 197, 144, 198, 160]),
  ([114], [197, 149, 197, 151, 197, 153, 197, 148, 197, 150, 197, 152]),
  ([115], [197, 155, 197, 157, 197, 159, 197, 161, 197, 154, 197, 156, 197, 158, 197, 160]),
  ([116], [197, 163, 197, 165, 197, 167, 197, 162, 197, 164, 197, 166]),
  ([117], [195, 185, 195, 186, 195, 187, 195, 188, 197, 169, 197, 171, 197, 173, 197, 175, 197, 177, 197, 179, 198, 176, 195, 153, 195, 154, 195, 155, 195, 156, 197, 168, 197, 170, 197, 172, 197, 174, 197, 176, 197, 178, 198, 175]),
  ([119], [197, 181, 197, 180]),
  ([121], [195, 189, 195, 191, 197, 183, 195, 157, 197, 184, 197, 182]),
  ([122], [197, 186, 197, 188, 197, 190, 197, 185, 197, 187, 197, 189]),
  ([97, 101], [195, 166, 195, 134]),
  ([111, 101], [197, 147, 197, 146]),
  ([115, 115], [195, 159]),
  ([116, 104], [195, 190, 195, 158]),
  ([206, 177], [206, 172, 206, 134]),
  ([206, 181], [206, 173, 206, 136]),
  ([206, 183], [206, 174, 206, 137]),
  ([206, 185], [206, 175, 207, 138, 206, 144, 206, 138, 206, 170]),
  ([206, 191], [207, 140, 206, 140]),
  ([207, 133], [207, 141, 207, 139, 206, 176, 206, 142, 206, 171]),
  ([207, 137], [207, 142, 206, 143]),
  ([208, 181], [209, 145, 208, 129])]
def tab : List (Nat × Bs) := [
  (224, [97]), (225, [97]), (226, [97]), (227, [97]), (228, [97]), (229, [97]), (257, [97]), (259, [97]), (261, [97]), (192, [97]), (193, [97]), (194, [97]), (195, [97]), (196, [97]), (197, [97]), (256, [97]), (258, [97]), (260, [97]),
  (231, [99]), (263, [99]), (265, [99]), (267, [99]), (269, [99]), (199, [99]), (262, [99]), (264, [99]), (266, [99]), (268, [99]),
  (271, [100]), (273, [100]), (240, [100]), (270, [100]), (272, [100]), (208, [100]),
  (232, [101]), (233, [101]), (234, [101]), (235, [101]), (275, [101]), (277, [101]), (279, [101]), (281, [101]), (283, [101]), (200, [101]), (201, [101]), (202, [101]), (203, [101]), (274, [101]), (276, [101]), (278, [101]), (280, [101]), (282, [101]),
  (285, [103]), (287, [103]), (289, [103]), (291, [103]), (284, [103]), (286, [103]), (288, [103]), (290, [103]),
  (293, [104]), (295, [104]), (292, [104]), (294, [104]),
  (236, [105]), (237, [105]), (238, [105]), (239, [105]), (297, [105]), (299, [105]), (301, [105]), (303, [105]), (305, [105]), (204, [105]), (205, [105]), (206, [105]), (207, [105]), (296, [105]), (298, [105]), (300, [105]), (302, [105]), (304, [105]),
  (309, [106]), (308, [106]),
  (311, [107]), (310, [107]),
  (314, [108]), (316, [108]), (318, [108]), (322, [108]), (313, [108]), (315, [108]), (317, [108]), (321, [108]),
  (241, [110]), (324, [110]), (326, [110]), (328, [110]), (209, [110]), (323, [110]), (325, [110]), (327, [110]),
  (242, [111]), (243, [111]), (244, [111]), (245, [111]), (246, [111]), (248, [111]), (333, [111]), (335, [111]), (337, [111]), (417, [111]), (210, [111]), (211, [111]), (212, [111]), (213, [111]), (214, [111]), (216, [111]), (332, [111]), (334, [111]), (336, [111]), (416, [111]),
  (341, [114]), (343, [114]), (345, [114]), (340, [114]), (342, [114]), (344, [114]),
  (347, [115]), (349, [115]), (351, [115]), (353, [115]), (346, [115]), (348, [115]), (350, [115]), (352, [115]),
  (355, [116]), (357, [116]), (359, [116]), (354, [116]), (356, [116]), (358, [116]),
  (249, [117]), (250, [117]), (251, [117]), (252, [117]), (361, [117]), (363, [117]), (365, [117]), (367, [117]), (369, [117]), (371, [117]), (432, [117]), (217, [117]), (218, [117]), (219, [117]), (220, [117]), (360, [117]), (362, [117]), (364, [117]), (366, [117]), (368, [117]), (370, [117]), (431, [117]),
  (373, [119]), (372, [119]),
  (253, [121]), (255, [121]), (375, [121]), (221, [121]), (376, [121]), (374, [121]),
  (378, [122]), (380, [122]), (382, [122]), (377, [122]), (379, [122]), (381, [122]),
  (230, [97, 101]), (198, [97, 101]),
  (339, [111, 101]), (338, [111, 101]),
  (223, [115, 115]),
  (254, [116, 104]), (222, [116, 104]),
  (940, [206, 177]), (902, [206, 177]),
  (941, [206, 181]), (904, [206, 181]),
  (942, [206, 183]), (905, [206, 183]),
  (943, [206, 185]), (970, [206, 185]), (912, [206, 185]), (906, [206, 185]), (938, [206, 185]),
  (972, [206, 191]), (908, [206, 191]),
  (973, [207, 133]), (971, [207, 133]), (944, [207, 133]), (910, [207, 133]), (939, [207, 133]),
  (974, [207, 137]), (911, [207, 137]),
  (1105, [208, 181]), (1025, [208, 181])]
def char (c : Nat) : Bs :=
  if (97 ≤ c ∧ c ≤ 122) ∨ (48 ≤ c ∧ c ≤ 57) then enc c
  else if 65 ≤ c ∧ c ≤ 90 then enc (c + 32)
  else if c < 128 then [32]
  else if (768 ≤ c ∧ c ≤ 879) ∨ (65056 ≤ c ∧ c ≤ 65071) then []
  else match tab.lookup c with
    | some s => s
    | none =>
      if c = 962 then enc 963
      else if (945 ≤ c ∧ c ≤ 969) ∨ (1072 ≤ c ∧ c ≤ 1103) then enc c
      else if ((913 ≤ c ∧ c ≤ 937) ∧ c ≠ 930) ∨ (1040 ≤ c ∧ c ≤ 1071) then enc (c + 32)
      else [32]
def rowTab : List (Bs × Bs) → List (Nat × Bs)
  | [] => []
  | (a, b) :: r => (runes b).map (·, a) ++ rowTab r
theorem tab_eq : rowTab rows = tab := by kernel_rfl
theorem tab_nodup : (tab.map (·.1)).Nodup := by decide +kernel
def wf (w : Bs) : List Nat → List Bs
  | [] => if w = [] then [] else [w]
  | c :: r => if char c = [32] then (if w = [] then wf [] r else w :: wf [] r) else wf (w ++ char c) r
def words (s : Bs) : List Bs := wf [] (runes s)
def join : List Bs → Bs
  | [] => []
  | [a] => a
  | a :: b :: r => a ++ [32] ++ join (b :: r)
theorem words_ne : ∀ (l : List Nat) (w : Bs), ∀ x ∈ wf w l, x ≠ []
  | [], w, x, h => by
    unfold wf at h
    split at h
    · cases h
    simp at h; subst h; assumption
  | c :: r, w, x, h => by
    unfold wf at h
    split at h
    · split at h
      · exact words_ne r [] x h
      rcases List.mem_cons.1 h with rfl | h
      · assumption
      exact words_ne r [] x h
    exact words_ne r _ x h
def digit (c : UInt8) : Bool := 48 ≤ c && c ≤ 57
def digits (s : Bs) : Bool := s.all digit
def strip (s : Bs) : Bs := (s.dropLast.dropWhile (· == 48)) ++ s.drop (s.length - 1)
def number (s : Bs) : Bs :=
  let t := strip s
  let n := min t.length 99
  [UInt8.ofNat (48 + n / 10), UInt8.ofNat (48 + n % 10)] ++ t
def sortWord (w : Bs) : Bs := if digits w then number w else w
def cut (s : Bs) (skip : Int) : Bs := s.drop (min (max skip 0) s.length).toNat
def sortKey (s : Bs) (skip : Int) : Bs := join ((words (cut s skip)).map sortWord)
end Ke
namespace Ke
def okb (c : UInt8) : Bool := digit c || c == 88 || c == 120 || c == 32 || c == 45
def nb (c : UInt8) : Bool := !(c == 32 || c == 45)
def up (c : UInt8) : UInt8 := if c = 120 then 88 else c
def norm (s : Bs) : Bs := ((s.takeWhile okb).filter nb).map up
def csum : Nat → Bs → Nat
  | _, [] => 0
  | k, c :: r => (c.toNat - 48) * (1 + 2 * (k % 2)) + csum (k + 1) r
def check (s : Bs) : UInt8 := UInt8.ofNat (48 + (10 - csum 0 (s.take 12) % 10) % 10)
def val (c : UInt8) : Nat := if c = 88 then 10 else c.toNat - 48
def rsum : Nat → Bs → Nat
  | _, [] => 0
  | k, c :: r => (10 - k) * val c + rsum (k + 1) r
def rightShort (s : Bs) : Bool := rsum 0 s % 11 == 0 && digits (s.take 9)
def isbnN (t : Bs) : Bs × Bool :=
  if t.length = 10 ∧ rightShort t = true then ([57, 55, 56] ++ t.take 9 ++ [check ([57, 55, 56] ++ t.take 9)], true)
  else if t.length = 13 ∧ digits t = true ∧ check t = t.getD 12 0 then (t, true)
  else ([], false)
def isbn (s : Bs) : Bs × Bool := isbnN (norm s)
theorem byte_all {p : UInt8 → Prop} (h : ∀ n < 256, p (UInt8.ofNat n)) (c : UInt8) : p c := by grind [c.toNat_lt, UInt8.ofNat_toNat]
theorem digit_iff {c : UInt8} : digit c = true ↔ 48 ≤ c.toNat ∧ c.toNat ≤ 57 := by
  simp [digit, UInt8.le_iff_toNat_le]
theorem digits_cons {c : UInt8} {r : Bs} : digits (c :: r) = (digit c && digits r) := rfl
theorem digits_app {a b : Bs} : digits (a ++ b) = (digits a && digits b) := by simp [digits, List.all_append]
theorem csum_app : ∀ (a b : Bs) (k : Nat), csum k (a ++ b) = csum k a + csum (k + a.length) b
  | [], b, k => by simp [csum]
  | c :: r, b, k => by
    simp only [List.cons_append, csum, List.length_cons, csum_app r b (k + 1)]
    rw [show k + 1 + r.length = k + (r.length + 1) by omega]
    omega
theorem rsum_app : ∀ (a b : Bs) (k : Nat), rsum k (a ++ b) = rsum k a + rsum (k + a.length) b
  | [], b, k => by simp [rsum]
  | c :: r, b, k => by
    simp only [List.cons_append, rsum, List.length_cons, rsum_app r b (k + 1)]
    rw [show k + 1 + r.length = k + (r.length + 1) by omega]
    omega
end Ke
section
namespace Ke
def rep (s : Bs) : Bs := s.filter nb
def cnt (l : Bs) : Nat := l.countP (fun c => c == 32 || c == 45)
theorem nb_eq (c : UInt8) : nb c = !(c == 32 || c == 45) := rfl
theorem rep_cnt : ∀ l : Bs, (rep l).length + cnt l = l.length
  | [] => rfl
  | c :: r => by
    have ih := rep_cnt r
    unfold rep cnt at *
    rw [List.filter_cons, List.countP_cons]
    cases h : (c == 32 || c == 45) with
    | true => rw [nb_eq, h]; simp only [Bool.not_true, Bool.false_eq_true, if_false, if_true, List.length_cons]; omega
    | false => rw [nb_eq, h]; simp only [Bool.not_false, Bool.false_eq_true, if_false, if_true, List.length_cons]; omega
theorem cnt_counts : ∀ l : Bs, l.count 32 + l.count 45 = cnt l
  | [] => rfl
  | c :: r => by
    have ih := cnt_counts r
    simp only [cnt, List.count_cons, List.countP_cons] at ih ⊢
    by_cases h : c = 32
    · subst h; simp; omega
    by_cases h2 : c = 45
    · subst h2; simp; omega
    simp [h, h2]; omega
theorem rep_id (l : Bs) (h : cnt l = 0) : rep l = l := by
  have h1 := rep_cnt l
  exact List.filter_eq_self.2 (fun c hc => by
    have := List.countP_eq_zero.1 h c hc
    rw [nb_eq]; simpa using this)
theorem take_nextB {s : Bs} {k : Nat} {c : UInt8} (h : s[k]? = some c) : s.take (k + 1) = s.take k ++ [c] := by
  obtain ⟨hlt, hg⟩ := List.getElem?_eq_some_iff.1 h
  rw [List.take_succ_eq_append_getElem hlt, hg]
theorem cnt_next {s : Bs} {k : Nat} {c : UInt8} (h : s[k]? = some c) : cnt (s.take (k + 1)) = cnt (s.take k) + if c = 32 ∨ c = 45 then 1 else 0 := by
  rw [take_nextB h]
  unfold cnt
  rw [List.countP_append]
  simp
theorem rep_next {s : Bs} {k : Nat} {c : UInt8} (h : s[k]? = some c) : rep (s.take (k + 1)) = rep (s.take k) ++ if c = 32 ∨ c = 45 then [] else [c] := by
  rw [take_nextB h]
  unfold rep
  rw [List.filter_append]
  by_cases hc : c = 32 ∨ c = 45
  · rw [if_pos hc, List.filter_cons_of_neg (by rcases hc with rfl | rfl <;> decide)]; rfl
  rw [if_neg hc, List.filter_cons_of_pos (by rw [nb_eq]; simp only [not_or] at hc; simp [hc.1, hc.2])]; rfl
theorem rep_part (s : Bs) (k : Nat) : (rep (s.take k)).length ≤ (rep s).length := by
  have : rep s = rep (s.take k) ++ rep (s.drop k) := by
    unfold rep
    rw [← List.filter_append, List.take_append_drop]
  rw [this]; simp
theorem three (c : UInt8) : c = 45 ∨ c = 32 ∨ ¬ (c = 32 ∨ c = 45) := by grind
end Ke
namespace Go.Sx
def buf (E : List UInt8) (n : Nat) : List Value := bcs E ++ List.replicate (n - E.length) (.int .u8 0)
theorem buf_nil (n : Nat) : buf [] n = List.replicate n (.int .u8 0) := by simp [buf, bcs]
theorem buf_len {E : List UInt8} {n : Nat} (h : E.length ≤ n) : (buf E n).length = n := by simp [buf, bcs]; omega
theorem buf_set {E : List UInt8} {n : Nat} (c : UInt8) (h : E.length < n) : (buf E n).set E.length (u8 c) = buf (E ++ [c]) n := by
  have hE : (bcs E).length = E.length := bcs_len E
  unfold buf
  rw [List.set_append_right _ _ (by omega), hE, Nat.sub_self]
  obtain ⟨m, hm⟩ : ∃ m, n - E.length = m + 1 := ⟨n - E.length - 1, by omega⟩
  have h2 : n - (E ++ [c]).length = m := by simp; omega
  rw [hm, h2, List.replicate_succ, List.set_cons_zero]
  simp [bcs]
theorem buf_full {E : List UInt8} {n : Nat} (h : n = E.length) : buf E n = bcs E ++ [] := by
  subst h; simp [buf]
end Go.Sx
end
namespace Go.Proofs.YtekmeaoblpfnpaaGreatDoor
open _root_.Go.Proofs.Tryz
open Go Go.Sx
def olds : List (List UInt8) := [[32], [], [45], []]
def BSR (I : Heap) (xb : Nat) : Prop := ∃ v1 v2 tr, I xb = some (cel 364 (tab (fun j => if j = 32 then v2 else if j = 45 then v1 else .slice none 0 0) tr)) ∧ BytSl I [] v1 ∧ BytSl I [] v2 ∧ StrSl 9 I [[45], [32]] tr
theorem BSR.mono {I I' : Heap} {xb : Nat} (h : BSR I xb) (hle : Le I I') : BSR I' xb := let ⟨v1, v2, tr, h1, h2, h3, h4⟩ := h; ⟨v1, v2, tr, hle _ _ h1, h2.mono hle, h3.mono hle, h4.mono hle⟩
theorem zero163 : (Value.agg Tryz.zeroCells364).cells = (tab (fun _ => .slice none 0 0) (.slice none 0 0)).toArray := by
  show Tryz.zeroCells364 = _
  kernel_rfl
theorem load_ok (rb T off : Nat) (cs : List Value) (x : Int) (hx : cs[off]? = some (.int .u32 x)) (I : Heap) : Ctr Tryz.prog 277 [ptr rb off] I [(rb, cel T cs)] (fun e _I' H' => e = .returned (.bool (x != 0)) ∧ H' = [(rb, cel T cs)]) :=
  Ctr.of_read (Enters.of func277 (by decide) rfl) hx fun w h => Sync.load_free ⟨rb, off, none⟩ x w h
theorem lock_ok (rb T : Nat) (d sm r o : Value) (I : Heap) : Ctr Tryz.prog 304 [ptr rb 1] I [(rb, cel T [d, .int .i32 0, sm, r, o])] (fun e _I' H' => e = .returned (.tuple #[]) ∧ H' = [(rb, cel T [d, .int .i32 1, sm, r, o])]) :=
  Ctr.of_set (off := 1) (Enters.of func304 (by decide) rfl) rfl fun w h h2 => Sync.lock_free ⟨rb, 1, none⟩ w h h2
theorem unlock_ok (rb T : Nat) (d sm r o : Value) (I : Heap) : CtrD Tryz.prog 305 [ptr rb 1] .returning I [(rb, cel T [d, .int .i32 1, sm, r, o])] (fun u' _I' H' => u' = .returning ∧ H' = [(rb, cel T [d, .int .i32 0, sm, r, o])]) :=
  CtrD.of_set (off := 1) (v := .tuple #[]) (Enters.of func305 (by decide) rfl) rfl fun w h h2 => (Sync.unlock_deferred ⟨rb, 1, none⟩ .returning w h h2).mono fun _ _ _ ⟨g1, g2, g3⟩ => ⟨g1, g2, .inl g3⟩
theorem store_ok (rb T : Nat) (x m sm r o : Value) (I : Heap) : CtrD Tryz.prog 306 [ptr rb 0, .bool true] .returning I [(rb, cel T [x, m, sm, r, o])] (fun u' _I' H' => u' = .returning ∧ H' = [(rb, cel T [.int .u32 1, m, sm, r, o])]) :=
  CtrD.of_set (off := 0) (v := .tuple #[]) (Enters.of func306 (by decide) rfl) rfl fun w h h2 => (Sync.store_deferred ⟨rb, 0, none⟩ x .returning w h h2).mono fun _ _ _ ⟨g1, g2, g3⟩ => ⟨g1, g2, .inr g3⟩
theorem NewReplacer_ok (ob oc : Nat) (I : Heap) : Ctr Tryz.prog 197 [.slice (some ⟨ob, 0, none⟩) 4 oc] I [(ob, cel 9 (olds.map str))]
    (fun e I' H' => ∃ rb osl, e = .returned (ptr rb 0) ∧ H' = [(rb, cel 308 [.int .u32 0, .int .i32 0, .int .u32 0, .nilIface, osl])] ∧ StrSl 9 I' olds osl) := by
 refine Ctr.ob func197 ?_
 intro w0 hw0
 refine Cj.sr (J.z q1 ?_)
 refine J.nsss (Cj.region (J.z q0 ?_))
 refine J.z (q14 tU69) ?_
 refine J.z (yl_rem rfl rfl rfl (by decide)) ?_
 refine J.z q19 ?_
 refine J.c0 (fun hc1 => ?_)
 refine Cj.skip (Ej.seq (Cj.sr (J.z q0 ?_)))
 refine J.op rfl (op_append (by' := 15) (n := 0) (g := none) (xs := []) [_] rfl rfl rfl rfl rfl tU69 (.inr ⟨_, tU69⟩) (by kernel_rfl) tS9 tZ9 rfl ⟨rfl, rfl⟩ rfl (Src.slice (Blk.at 0 rfl) rfl rfl rfl) (by omega) ?_)
 intro g2 hg2
 refine J.z (yl_buildS (pl := #[(0, 3), (3, 1), (4, 1)]) rfl rfl zeroValue308 rfl tU308 (fun w => by simp [sizeOf304, sizeOf306]) (LBld.part rfl (gV_cells _ _) rfl (LSpl.s (LSpl.s (LSpl.s (LSpl.s (LSpl.c LSpl.z))))) LBld.none)) ?_
 refine J.op rfl (q15 ?_)
 intro b3 hb3
 refine J.z q1 ?_
 refine J.ns (Cj.ret ?_)
 obtain ⟨gb, gc, gsp, rfl, hgb⟩ := hg2.some (by decide)
 refine Ej.pull (Pull.s (Pull.s Pull.z)) ?_
 refine Ej.persist hgb (fun I9 hle9 hgbi => ?_)
 refine Ej.keep (Keeps.k (Keeps.d Keeps.n)) ?_
 refine q5 ?_
 exact ⟨b3, _, rfl, rfl, gb, gc, gsp, rfl, hgbi⟩
theorem build_ok (rb : Nat) (a0 a1 a2 a3 osl : Value) (I : Heap) (ho : StrSl 9 I olds osl) : Ctr Tryz.prog 279 [ptr rb 0] I [(rb, cel 308 [a0, a1, a2, a3, osl])]
    (fun e I' H' => ∃ xb, e = .returned (.iface 365 (ptr xb 0)) ∧ BSR I' xb ∧ H' = [(rb, cel 308 [a0, a1, a2, a3, osl])]) := by
 obtain ⟨ob, oc, osp, rfl, hob⟩ := ho
 rw [show olds.length = 4 from rfl]
 refine Ctr.ob func279 ?_
 intro w0 hw0
 refine Cj.sr (J.z q1 ?_)
 refine J.nssr (J.z q0 ?_)
 refine J.z q6 ?_
 refine J.z (q2 (off' := 4) tU308 tS69) ?_
 refine J.z (q3 tA69 (Blk.at 0 rfl)) ?_
 refine J.z q1 ?_
 refine J.nsss (Cj.region (J.z q0 ?_))
 refine J.z (q14 tU69) ?_
 refine J.z q19 ?_
 refine J.z q0 ?_
 refine J.sk 3 22 23 (by first | rfl | decide) ?_
 refine J.sk 3 22 24 (by first | rfl | decide) ?_
 refine J.sk 3 22 25 (by first | rfl | decide) ?_
 refine J.sk 3 22 26 (by first | rfl | decide) ?_
 refine J.sk 3 22 27 (by first | rfl | decide) ?_
 refine J.z (yl_pick0 rfl rfl (by first | rfl | decide) rfl) ?_
 refine J.c0 (fun hc1 => ?_)
 refine Cj.skip (Ej.seq (Cj.sr (J.z q1 ?_)))
 refine J.nsss (Cj.region (J.z q1 ?_))
 refine J.ns (Cj.block (Cj.rounds 3 ?_))
 refine Rj.succ ?_
 refine Cj.seq (Cj.sr (J.z q0 ?_))
 refine J.z q0 ?_
 refine J.z (q14 tU69) ?_
 refine J.z q18 ?_
 refine J.ns (Cj.cond rfl (fun hc2 => ?_) (fun hc2 => Bool.noConfusion (Eq.trans (Eq.symm (by first | rfl | decide)) hc2)))
 refine Cj.skip (Ej.seq (Cj.seq (Cj.block (Cj.seq (Cj.sr (J.z q0 ?_))))))
 refine J.z q0 ?_
 refine J.z (yl_indexAddr (off' := 0) rfl rfl rfl tU69 tS9 (by decide) (by decide) (by decide)) ?_
 refine J.z (q3 tA9 (Blk.imm hob)) ?_
 refine J.z (yl_lenStr rfl rfl tU9) ?_
 refine J.z (yl_neq rfl rfl rfl) ?_
 refine J.ns (Cj.cond rfl (fun hc3 => Bool.noConfusion (Eq.trans (Eq.symm (by first | rfl | decide)) hc3)) (fun hc3 => ?_))
 refine Cj.skip (Ej.seq (Cj.sr (J.z q0 ?_)))
 refine J.z q0 ?_
 refine J.z (yl_add rfl rfl rfl (w64 (by omega))) ?_
 refine J.z (yl_indexAddr (off' := 1) rfl rfl rfl tU69 tS9 (by decide) (by decide) (by decide)) ?_
 refine J.z (q3 tA9 (Blk.imm hob)) ?_
 refine J.z (yl_lenStr rfl rfl tU9) ?_
 refine J.z (yl_neq rfl rfl rfl) ?_
 refine J.ns (Cj.cond rfl (fun hc4 => ?_) (fun hc4 => Bool.noConfusion (Eq.trans (Eq.symm (by first | rfl | decide)) hc4)))
 refine Cj.region (J.z q1 ?_)
 refine J.nil (Ej.blkNormal (Ej.seq (Cj.region (J.z q0 ?_))))
 refine J.z (yl_add rfl rfl rfl (w64 (by omega))) ?_
 refine J.z q1 ?_
 refine J.nil (Ej.rounds ?_)
 refine Rj.succ ?_
 refine Cj.seq (Cj.sr (J.z q0 ?_))
 refine J.z q0 ?_
 refine J.z (q14 tU69) ?_
 refine J.z q18 ?_
 refine J.ns (Cj.cond rfl (fun hc5 => ?_) (fun hc5 => Bool.noConfusion (Eq.trans (Eq.symm (by first | rfl | decide)) hc5)))
 refine Cj.skip (Ej.seq (Cj.seq (Cj.block (Cj.seq (Cj.sr (J.z q0 ?_))))))
 refine J.z q0 ?_
 refine J.z (yl_indexAddr (off' := 2) rfl rfl rfl tU69 tS9 (by decide) (by decide) (by decide)) ?_
 refine J.z (q3 tA9 (Blk.imm hob)) ?_
 refine J.z (yl_lenStr rfl rfl tU9) ?_
 refine J.z (yl_neq rfl rfl rfl) ?_
 refine J.ns (Cj.cond rfl (fun hc6 => Bool.noConfusion (Eq.trans (Eq.symm (by first | rfl | decide)) hc6)) (fun hc6 => ?_))
 refine Cj.skip (Ej.seq (Cj.sr (J.z q0 ?_)))
 refine J.z q0 ?_
 refine J.z (yl_add rfl rfl rfl (w64 (by omega))) ?_
 refine J.z (yl_indexAddr (off' := 3) rfl rfl rfl tU69 tS9 (by decide) (by decide) (by decide)) ?_
 refine J.z (q3 tA9 (Blk.imm hob)) ?_
 refine J.z (yl_lenStr rfl rfl tU9) ?_
 refine J.z (yl_neq rfl rfl rfl) ?_
 refine J.ns (Cj.cond rfl (fun hc7 => ?_) (fun hc7 => Bool.noConfusion (Eq.trans (Eq.symm (by first | rfl | decide)) hc7)))
 refine Cj.region (J.z q1 ?_)
 refine J.nil (Ej.blkNormal (Ej.seq (Cj.region (J.z q0 ?_))))
 refine J.z (yl_add rfl rfl rfl (w64 (by omega))) ?_
 refine J.z q1 ?_
 refine J.nil (Ej.rounds ?_)
 refine Rj.succ ?_
 refine Cj.seq (Cj.sr (J.z q0 ?_))
 refine J.z q0 ?_
 refine J.z (q14 tU69) ?_
 refine J.z q18 ?_
 refine J.ns (Cj.cond rfl (fun hc8 => Bool.noConfusion (Eq.trans (Eq.symm (by first | rfl | decide)) hc8)) (fun hc8 => ?_))
 refine Cj.exit (Ej.seqExit (Ej.seqExit (Ej.blkExit (Ej.seq (Cj.seq (Cj.sr (J.z q0 ?_)))))))
 refine J.c0 (fun hc9 => ?_)
 refine Cj.skip (Ej.seq (Cj.sr (J.z q0 ?_)))
 refine J.z (q14 tU69) ?_
 refine J.z (yl_quo rfl rfl rfl (by decide) (by decide)) ?_
 refine J.op rfl (op_makeSlice (n := 0) (c := 2) (by1 := 16) (z := (str [])) rfl rfl rfl rfl rfl tU69 (by kernel_rfl) rfl (by omega) (by omega) (by omega) ?_)
 intro b10 hb10
 refine J.z (yl_buildS (zs := tab (fun _ => .slice none 0 0) (.slice none 0 0)) (cs := tab (fun _ => .slice none 0 0) (.slice (some ⟨b10, 0, none⟩) 0 2)) (pl := #[(0, 256), (256, 1)]) rfl rfl zeroValue364 zero163 tU364 (fun w => by simp []) (LBld.part rfl rfl rfl (tab_spl _ _ _) LBld.none)) ?_
 refine J.op rfl (op_alloc (zs := tab (fun _ => .slice none 0 0) (.slice none 0 0)) rfl rfl rfl zeroValue364 zero163 ?_)
 intro b11 hb11
 refine J.op rfl (op_store 0 rfl rfl rfl rfl rfl (tab_one (fun _ => rfl) rfl) sizeOf364 (tab_len _ _) rfl (LSpl.all (by rw [tab_len, tab_len])) LSet.z ?_)
 refine J.pull Pull.z ?_
 refine J.pull (Pull.s (Pull.s Pull.z)) ?_
 refine J.nsss (Cj.region (J.z q0 ?_))
 refine J.z (q14 tU69) ?_
 refine J.z (yl_sub rfl rfl rfl (w64 (by omega))) ?_
 refine J.z q1 ?_
 refine J.ns (Cj.block (Cj.rounds 3 ?_))
 refine Rj.succ ?_
 refine Cj.seq (Cj.sr (J.z q0 ?_))
 refine J.z (yl_geq rfl rfl rfl) ?_
 refine J.ns (Cj.cond rfl (fun hc12 => ?_) (fun hc12 => Bool.noConfusion (Eq.trans (Eq.symm (by first | rfl | decide)) hc12)))
 refine Cj.skip (Ej.seq (Cj.seq (Cj.block (Cj.sr (J.z q0 ?_)))))
 refine J.z q0 ?_
 refine J.z (yl_indexAddr (off' := 2) rfl rfl rfl tU69 tS9 (by decide) (by decide) (by decide)) ?_
 refine J.z (q3 tA9 (Blk.imm hob)) ?_
 refine J.z (yl_index (c := 45) rfl rfl rfl tU9 (by decide) rfl) ?_
 refine J.z q1 ?_
 refine J.nssr (J.z q0 ?_)
 refine J.z q0 ?_
 refine J.z (yl_add rfl rfl rfl (w64 (by omega))) ?_
 refine J.z (yl_indexAddr (off' := 3) rfl rfl rfl tU69 tS9 (by decide) (by decide) (by decide)) ?_
 refine J.z (q3 tA9 (Blk.imm hob)) ?_
 refine J.z q1 ?_
 refine J.nsss (Cj.region (J.z q0 ?_))
 refine J.z (q2 (off' := 0) tU364 tS362) ?_
 refine J.z (q24 (off' := 45) tU362 tS192) ?_
 refine J.z (yl_load rfl rfl tA192 (Blk.at 1 rfl) (tab_at _ _ (by decide))) ?_
 refine J.eqv 116 rfl (show _ = .slice none 0 0 from (by first | rfl | exact if_neg (by decide))) ?_
 refine J.z (yl_eqlSlice _ rfl rfl rfl tU192) ?_
 refine J.c1 (fun hc13 => ?_)
 refine Cj.region (J.z (q2 (off' := 256) tU364 tS69) ?_)
 refine J.z (yl_load rfl rfl tA69 (Blk.at 1 rfl) (tab_tr _ _)) ?_
 refine J.z q0 ?_
 refine J.op rfl (q17 tU192 tS5 tZ5 (LCat.one rfl LCat.none) ?_)
 intro b14 hb14
 refine J.z (yl_toStr [45] rfl rfl rfl tU192 tU9 tU5 (Blk.at 0 rfl) rfl) ?_
 refine J.op rfl (q17 tU69 tS9 tZ9 (LCat.one rfl LCat.none) ?_)
 intro b15 hb15
 refine J.op rfl (op_append (by' := 15) (n := 0) (g := some (b10, 2, List.replicate 2 (str []))) (xs := []) [_, _, _, _] rfl rfl rfl rfl rfl tU69 (.inr ⟨_, tU69⟩) (by kernel_rfl) tS9 tZ9 rfl ⟨hb10, rfl, rfl⟩ rfl (Src.slice (Blk.at 0 rfl) rfl rfl rfl) (by omega) ?_)
 intro g16 hg16
 refine J.z (q2 (off' := 256) tU364 tS69) ?_
 refine J.op rfl (op_store1 3 rfl rfl rfl rfl (gV_cells1 _ _) (gV_oneC _ _) tS69 rfl (.inl rfl) (by rw [tab_len]; decide) (by rw [tab_setTr]; exact (LSet.s (LSet.s (LSet.s LSet.z)))) ?_)
 refine J.nsr (J.z q0 ?_)
 refine J.z q0 ?_
 refine J.op rfl (op_toBytes rfl rfl rfl rfl tU9 tU192 tU5 ?_)
 intro b17 c18 sp19 fr20 hb17 hfr20
 refine J.persist hb17 (fun I22 hle21 hb17i => ?_)
 have hob := hle21 _ _ hob
 refine J.z (q2 (off' := 0) tU364 tS362) ?_
 refine J.z (q24 (off' := 45) tU362 tS192) ?_
 refine J.op rfl (op_store1 3 rfl rfl rfl rfl rfl rfl tS192 rfl (.inl rfl) (by rw [tab_len]; decide) (by rw [tab_set _ _ _ (by decide)]; exact (LSet.s (LSet.s (LSet.s LSet.z)))) ?_)
 refine J.nil (Ej.blkNormal (Ej.seq (Cj.region (J.z q0 ?_))))
 refine J.z (yl_sub rfl rfl rfl (w64 (by omega))) ?_
 refine J.z q1 ?_
 refine J.nil (Ej.rounds ?_)
 refine Rj.succ ?_
 refine Cj.seq (Cj.sr (J.z q0 ?_))
 refine J.z (yl_geq rfl rfl rfl) ?_
 refine J.ns (Cj.cond rfl (fun hc23 => ?_) (fun hc23 => Bool.noConfusion (Eq.trans (Eq.symm (by first | rfl | decide)) hc23)))
 refine Cj.skip (Ej.seq (Cj.seq (Cj.block (Cj.sr (J.z q0 ?_)))))
 refine J.z q0 ?_
 refine J.z (yl_indexAddr (off' := 0) rfl rfl rfl tU69 tS9 (by decide) (by decide) (by decide)) ?_
 refine J.z (q3 tA9 (Blk.imm hob)) ?_
 refine J.z (yl_index (c := 32) rfl rfl rfl tU9 (by decide) rfl) ?_
 refine J.z q1 ?_
 refine J.nssr (J.z q0 ?_)
 refine J.z q0 ?_
 refine J.z (yl_add rfl rfl rfl (w64 (by omega))) ?_
 refine J.z (yl_indexAddr (off' := 1) rfl rfl rfl tU69 tS9 (by decide) (by decide) (by decide)) ?_
 refine J.z (q3 tA9 (Blk.imm hob)) ?_
 refine J.z q1 ?_
 refine J.nsss (Cj.region (J.z q0 ?_))
 refine J.z (q2 (off' := 0) tU364 tS362) ?_
 refine J.z (q24 (off' := 32) tU362 tS192) ?_
 refine J.z (yl_load rfl rfl tA192 (Blk.at 3 rfl) (tab_at _ _ (by decide))) ?_
 refine J.eqv 116 rfl (show _ = .slice none 0 0 from (by first | rfl | exact if_neg (by decide))) ?_
 refine J.z (yl_eqlSlice _ rfl rfl rfl tU192) ?_
 refine J.c1 (fun hc24 => ?_)
 refine Cj.region (J.z (q2 (off' := 256) tU364 tS69) ?_)
 refine J.z (yl_load rfl rfl tA69 (Blk.at 3 rfl) (tab_tr _ _)) ?_
 refine J.z q0 ?_
 refine J.op rfl (q17 tU192 tS5 tZ5 (LCat.one rfl LCat.none) ?_)
 intro b25 hb25
 refine J.z (yl_toStr [32] rfl rfl rfl tU192 tU9 tU5 (Blk.at 0 rfl) rfl) ?_
 refine J.op rfl (q17 tU69 tS9 tZ9 (LCat.one rfl LCat.none) ?_)
 intro b26 hb26
 refine J.op rfl (op_append (by' := 15) [_, _, _, _, _, _] rfl rfl rfl rfl rfl tU69 (.inr ⟨_, tU69⟩) (by kernel_rfl) tS9 tZ9 rfl hg16 rfl (Src.slice (Blk.at 0 rfl) rfl rfl rfl) (by omega) ?_)
 intro g27 hg27
 refine J.z (q2 (off' := 256) tU364 tS69) ?_
 refine J.op rfl (op_store1 5 rfl rfl rfl rfl (gV_cells1 _ _) (gV_oneC _ _) tS69 rfl (.inl rfl) (by rw [tab_len]; decide) (by rw [tab_setTr]; exact (LSet.s (LSet.s (LSet.s (LSet.s (LSet.s LSet.z)))))) ?_)
 refine J.nsr (J.z q0 ?_)
 refine J.z q0 ?_
 refine J.op rfl (op_toBytes rfl rfl rfl rfl tU9 tU192 tU5 ?_)
 intro b28 c29 sp30 fr31 hb28 hfr31
 refine J.persist hb28 (fun I33 hle32 hb28i => ?_)
 have hb17i := hle32 _ _ hb17i
 refine J.z (q2 (off' := 0) tU364 tS362) ?_
 refine J.z (q24 (off' := 32) tU362 tS192) ?_
 refine J.op rfl (op_store1 5 rfl rfl rfl rfl rfl rfl tS192 rfl (.inl rfl) (by rw [tab_len]; decide) (by rw [tab_set _ _ _ (by decide)]; exact (LSet.s (LSet.s (LSet.s (LSet.s (LSet.s LSet.z)))))) ?_)
 refine J.nil (Ej.blkNormal (Ej.seq (Cj.region (J.z q0 ?_))))
 refine J.z (yl_sub rfl rfl rfl (w64 (by omega))) ?_
 refine J.z q1 ?_
 refine J.nil (Ej.rounds ?_)
 refine Rj.succ ?_
 refine Cj.seq (Cj.sr (J.z q0 ?_))
 refine J.z (yl_geq rfl rfl rfl) ?_
 refine J.ns (Cj.cond rfl (fun hc34 => Bool.noConfusion (Eq.trans (Eq.symm (by first | rfl | decide)) hc34)) (fun hc34 => ?_))
 refine Cj.exit (Ej.seqExit (Ej.seqExit (Ej.blkExit (Ej.seq (Cj.sr (J.z (yl_makeIface rfl rfl underlying365 rfl) ?_))))))
 refine J.z q1 ?_
 refine J.ns (Cj.ret ?_)
 obtain ⟨gb, gc, gsp, rfl, hgb⟩ := hg27.some (by decide)
 refine Ej.pull (Pull.s (Pull.s (Pull.s (Pull.s (Pull.s (Pull.s Pull.z)))))) ?_
 refine Ej.persist hgb (fun I9 hle9 hgbi => ?_)
 refine Ej.pull (Pull.s (Pull.s (Pull.s (Pull.s (Pull.s Pull.z))))) ?_
 refine Ej.persist hb11 (fun I8 hle8 hxbi => ?_)
 refine Ej.keep (Keeps.d (Keeps.d (Keeps.d (Keeps.d (Keeps.k Keeps.n))))) ?_
 refine q5 ?_
 exact ⟨b11, rfl, ⟨_, _, _, hxbi, ⟨b17, _, _, _, rfl, hle8 _ _ (hle9 _ _ hb17i)⟩, ⟨b28, _, _, _, rfl, hle8 _ _ (hle9 _ _ hb28i)⟩, gb, gc, gsp, rfl, hle8 _ _ hgbi⟩, rfl⟩
def RepH (rb : Nat) (d m sm r o : Value) : HL := [(rb, cel 308 [d, m, sm, r, o])]
def Rep1 (I : Heap) (rb : Nat) (d m : Value) (H : HL) : Prop := ∃ xb, BSR I xb ∧ H = RepH rb d m (.int .u32 0) (.iface 365 (ptr xb 0)) (.slice none 0 0)
theorem buildOnce_ok (rb : Nat) (d m osl : Value) (I : Heap) (ho : StrSl 9 I olds osl) : Ctr Tryz.prog 245 [ptr rb 0] I (RepH rb d m (.int .u32 0) .nilIface osl)
    (fun e I' H' => e = .returned (.tuple #[]) ∧ Rep1 I' rb d m H') := by
 refine Ctr.ob func245 ?_
 intro w0 hw0
 refine Cj.sr (J.z q0 ?_)
 refine J.z q0 ?_
 refine J.pull Pull.z ?_
 refine J.op rfl (op_call (H1 := [_]) rfl rfl rfl rfl rfl (build_ok rb _ _ _ _ osl _ ho) ?_ (fun _ _ _ _ ⟨_, h, _⟩ => by cases h) (fun _ _ ⟨_, h, _⟩ => by cases h))
 intro v1 I2 H3 hle4 hp5
 obtain ⟨xb, h, hbs, rfl⟩ := hp5; cases h
 refine J.z q6 ?_
 refine J.z (q2 (off' := 3) tU308 sizeOf306) ?_
 refine J.op rfl (q9 0 sizeOf306 (LSpl.s (LSpl.s (LSpl.s (LSpl.c LSpl.z)))) LSet.z ?_)
 refine J.nsr (J.z q0 ?_)
 refine J.z q6 ?_
 refine J.z (q2 (off' := 4) tU308 tS69) ?_
 refine J.op rfl (q9 0 tS69 (LSpl.s (LSpl.s (LSpl.s (LSpl.s (LSpl.c LSpl.z))))) LSet.z ?_)
 refine J.nil (Ej.end0 rfl rfl ?_)
 exact ⟨rfl, xb, hbs, rfl⟩
theorem doSlow_ok (rb : Nat) (osl : Value) (I : Heap) (ho : StrSl 9 I olds osl) : Ctr Tryz.prog 278 [ptr rb 0, .func (.func 245) #[ptr rb 0] #[]] I (RepH rb (.int .u32 0) (.int .i32 0) (.int .u32 0) .nilIface osl)
    (fun e I' H' => e = .returned (.tuple #[]) ∧ Rep1 I' rb (.int .u32 1) (.int .i32 0) H') := by
 refine Ctr.of_bodyD func278 rfl (by decide) (Nat.le_of_ble_eq_true rfl) ?_
 intro w0 hw0
 refine Cj.sr (J.z q0 ?_)
 refine J.z q6 ?_
 refine J.z (q2 (off' := 1) tU304 sizeOf302) ?_
 refine J.pull Pull.z ?_
 refine J.op rfl (op_call (H1 := [_]) rfl rfl rfl rfl rfl (lock_ok rb 308 _ _ _ _ _) ?_ (fun _ _ _ _ h => by cases h.1) (fun _ _ h => by cases h.1))
 intro v1 I2 H3 hle4 hp5
 have ho := ho.mono hle4
 obtain ⟨h, rfl⟩ := hp5; cases h
 refine J.nssr (J.z q0 ?_)
 refine J.z q6 ?_
 refine J.z (q2 (off' := 1) tU304 sizeOf302) ?_
 refine J.defer rfl rfl rfl rfl rfl ?_
 refine J.nssr (J.z q0 ?_)
 refine J.z q6 ?_
 refine J.z (q2 (off' := 0) tU304 sizeOf298) ?_
 refine J.pull Pull.z ?_
 refine J.op rfl (op_call (H1 := [_]) rfl rfl rfl rfl rfl (load_ok rb 308 0 _ 0 rfl _) ?_ (fun _ _ _ _ h => by cases h.1) (fun _ _ h => by cases h.1))
 intro v6 I7 H8 hle9 hp10
 have ho := ho.mono hle9
 obtain ⟨h, rfl⟩ := hp10; cases h
 refine J.z (yl_not rfl rfl) ?_
 refine J.ns (Cj.cond rfl (fun hc11 => ?_) (fun hc11 => Bool.noConfusion (Eq.trans (Eq.symm (congrArg not rfl)) hc11)))
 refine Cj.sr (J.z q0 ?_)
 refine J.z q6 ?_
 refine J.z (q2 (off' := 0) tU304 sizeOf298) ?_
 refine J.defer rfl rfl rfl rfl rfl ?_
 refine J.nsr (J.z q0 ?_)
 refine J.pull Pull.z ?_
 refine J.op rfl (op_call (H1 := [_]) rfl rfl rfl rfl rfl (buildOnce_ok rb _ _ osl _ ho) ?_ (fun _ _ _ _ h => by cases h.1) (fun _ _ h => by cases h.1))
 intro v12 I13 H14 hle15 hp16
 obtain ⟨h, xb, hbs, rfl⟩ := hp16; cases h
 refine J.nil (Ej.leave2 (H1 := [_]) (R1 := []) rfl (store_ok rb 308 _ _ _ _ _ _) (fun _ => unlock_ok rb 308 _ _ _ _ _) (fun I9 hle9 => ResJ.none rfl ?_))
 exact ⟨rfl, xb, hbs.mono hle9, rfl⟩
theorem Do_ok (rb : Nat) (osl : Value) (I : Heap) (ho : StrSl 9 I olds osl) : Ctr Tryz.prog 244 [ptr rb 0, .func (.func 245) #[ptr rb 0] #[]] I (RepH rb (.int .u32 0) (.int .i32 0) (.int .u32 0) .nilIface osl)
    (fun e I' H' => e = .returned (.tuple #[]) ∧ Rep1 I' rb (.int .u32 1) (.int .i32 0) H') := by
 refine Ctr.ob func244 ?_
 intro w0 hw0
 refine Cj.sr (J.z q0 ?_)
 refine J.z q6 ?_
 refine J.z (q2 (off' := 0) tU304 sizeOf298) ?_
 refine J.pull Pull.z ?_
 refine J.op rfl (op_call (H1 := [_]) rfl rfl rfl rfl rfl (load_ok rb 308 0 _ 0 rfl _) ?_ (fun _ _ _ _ h => by cases h.1) (fun _ _ h => by cases h.1))
 intro v1 I2 H3 hle4 hp5
 have ho := ho.mono hle4
 obtain ⟨h, rfl⟩ := hp5; cases h
 refine J.z (yl_not rfl rfl) ?_
 refine J.ns (Cj.cond rfl (fun hc6 => ?_) (fun hc6 => Bool.noConfusion (Eq.trans (Eq.symm (congrArg not rfl)) hc6)))
 refine Cj.region (J.z q0 ?_)
 refine J.z q0 ?_
 refine J.pull Pull.z ?_
 refine J.op rfl (op_call (H1 := [_]) rfl rfl rfl rfl rfl (doSlow_ok rb osl _ ho) ?_ (fun _ _ _ _ h => by cases h.1) (fun _ _ h => by cases h.1))
 intro v7 I8 H9 hle10 hp11
 obtain ⟨h, xb, hbs, rfl⟩ := hp11; cases h
 refine J.nil (Ej.end0 rfl rfl ?_)
 exact ⟨rfl, xb, hbs, rfl⟩
end Go.Proofs.YtekmeaoblpfnpaaGreatDoor
namespace Go.Proofs
open _root_.Go.Proofs.Tryz
open Go.Shelf
def Tryz.lays158_ren : Go.Shelf.Ren := ⟨fun | 158 => 196 | 165 => 240 | 166 => 130 | 167 => 241 | 169 => 132 | 230 => 242 | 203 => 243 | 240 => 184 | 241 => 271 | 197 => 272 | 118 => 273 | 168 => 274 | 270 => 275 | 262 => 276 | 276 => 234 | 277 => 299 | 260 => 300 | 242 => 301 | 313 => 302 | 278 => 316 | 274 => 317 | 275 => 318 | n => n, fun | 9 => 9 | 4 => 4 | 3 => 3 | 5 => 5 | 72 => 204 | 0 => 0 | 76 => 208 | 75 => 207 | 107 => 293 | 70 => 202 | 20 => 20 | 37 => 192 | 127 => 246 | 21 => 21 | 105 => 328 | 164 => 284 | 162 => 351 | 203 => 349 | 119 => 341 | 46 => 188 | 139 => 372 | 138 => 371 | 51 => 238 | 160 => 373 | 208 => 407 | 206 => 405 | 80 => 211 | n => n, fun | 13 => 2 | 3 => 4 | 4 => 5 | n => n⟩
theorem Tryz.lays158 : Go.Proofs.Lays.n158 Tryz.prog Tryz.lays158_ren := {
  mixed := by kernel_rfl
  f118 := func273.trans (congrArg some (by kernel_rfl))
  f158 := func196.trans (congrArg some (by kernel_rfl))
  f165 := func240.trans (congrArg some (by kernel_rfl))
  f166 := func130.trans (congrArg some (by kernel_rfl))
  f167 := func241.trans (congrArg some (by kernel_rfl))
  f168 := func274.trans (congrArg some (by kernel_rfl))
  f169 := func132.trans (congrArg some (by kernel_rfl))
  f197 := func272.trans (congrArg some (by kernel_rfl))
  f203 := func243.trans (congrArg some (by kernel_rfl))
  f230 := func242.trans (congrArg some (by kernel_rfl))
  f240 := func184.trans (congrArg some (by kernel_rfl))
  f241 := func271.trans (congrArg some (by kernel_rfl))
  f242 := func301.trans (congrArg some (by kernel_rfl))
  f260 := func300.trans (congrArg some (by kernel_rfl))
  f262 := func276.trans (congrArg some (by kernel_rfl))
  f270 := func275.trans (congrArg some (by kernel_rfl))
  f274 := func317.trans (congrArg some (by kernel_rfl))
  f275 := func318.trans (congrArg some (by kernel_rfl))
  f276 := func234.trans (congrArg some (by kernel_rfl))
  f277 := func299.trans (congrArg some (by kernel_rfl))
  f278 := func316.trans (congrArg some (by kernel_rfl))
  f313 := func302.trans (congrArg some (by kernel_rfl))
  t0 := underlying0
  a0 := isAgg0
  z0 := sizeOf0
  v0 := zeroValue0
  t3 := underlying3
  a3 := isAgg3
  z3 := sizeOf3
  v3 := zeroValue3
  t4 := underlying4
  a4 := isAgg4
  z4 := sizeOf4
  v4 := zeroValue4
  t5 := underlying5
  a5 := isAgg5
  z5 := sizeOf5
  v5 := zeroValue5
  t9 := underlying9
  a9 := isAgg9
  z9 := sizeOf9
  v9 := zeroValue9
  t20 := underlying20
  a20 := isAgg20
  z20 := sizeOf20
  v20 := zeroValue20
  t21 := underlying21
  a21 := isAgg21
  z21 := sizeOf21
  v21 := zeroValue21
  t37 := underlying192
  a37 := isAgg192
  z37 := sizeOf192
  v37 := zeroValue192
  t46 := underlying188
  a46 := isAgg188
  z46 := sizeOf188
  v46 := zeroValue188
  t51 := underlying238
  a51 := isAgg238
  z51 := sizeOf238
  v51 := zeroValue238
  t70 := underlying202
  a70 := isAgg202
  z70 := sizeOf202
  v70 := zeroValue202
  t72 := underlying204
  a72 := isAgg204
  z72 := sizeOf204
  v72 := zeroValue204
  t75 := underlying207
  a75 := isAgg207
  z75 := sizeOf207
  v75 := zeroValue207
  t76 := underlying208
  a76 := isAgg208
  z76 := sizeOf208
  v76 := zeroValue208
  t105 := underlying328
  a105 := isAgg328
  z105 := sizeOf328
  v105 := zeroValue328
  t107 := underlying293
  a107 := isAgg293
  z107 := sizeOf293
  v107 := zeroValue293
  t119 := underlying341
  a119 := isAgg341
  z119 := sizeOf341
  t127 := underlying246
  a127 := isAgg246
  z127 := sizeOf246
  v127 := zeroValue246
  t138 := underlying371
  a138 := isAgg371
  z138 := sizeOf371
  v138 := zeroValue371
  t139 := underlying372
  a139 := isAgg372
  z139 := sizeOf372
  v139 := zeroValue372
  t160 := underlying373
  a160 := isAgg373
  z160 := sizeOf373
  v160 := zeroValue373
  t162 := underlying351
  a162 := isAgg351
  z162 := sizeOf351
  v162 := zeroValue351
  t164 := underlying284
  a164 := isAgg284
  z164 := sizeOf284
  v164 := zeroValue284
  t203 := underlying349
  a203 := isAgg349
  z203 := sizeOf349
  v203 := zeroValue349
  t206 := underlying405
  a206 := isAgg405
  z206 := sizeOf405
  v206 := zeroValue405
  t208 := underlying407
  a208 := isAgg407
  z208 := sizeOf407
  v208 := zeroValue407
  g3 := by kernel_rfl
  g4 := by kernel_rfl
  g13 := by kernel_rfl }
theorem Tryz.Builder_Extra_158 : Builder.Extra Tryz.prog Tryz.lays158_ren := {
  sizeBuilder := by kernel_rfl
  liesBuilder := by kernel_rfl
  t5 := underlying5
  a5 := isAgg5
  z5 := sizeOf5
  v5 := zeroValue5
  infoByte := by kernel_rfl
  cellsByte := by kernel_rfl
  sizeByte := by kernel_rfl
  neB5 := by decide }
open Go.RowKit in
theorem Tryz.strings_ToUpper_ascii (s : ByteArray) (w : World) (hs : s.size ≤ 140737488355328) (hascii : ∀ (j : Nat) (b : UInt8), s.data.toList[j]? = some b → b.toNat < 128) :
    Calls Tryz.prog 196 #[.string s] w fun e w' => e = .returned (.string ⟨(Lib.toUpperA s.data.toList).toArray⟩) ∧ Below w.heap.size w w' := Any.strings_ToUpper_ascii Tryz.lays158 Tryz.Builder_Extra_158 s w hs hascii
def Tryz.lays156_ren : Go.Shelf.Ren := ⟨fun | 156 => 203 | 165 => 240 | 166 => 130 | 169 => 132 | 240 => 184 | 241 => 271 | 276 => 234 | 277 => 299 | n => n, fun | 31 => 69 | 9 => 9 | 3 => 3 | 4 => 4 | 0 => 0 | 20 => 20 | 72 => 204 | 76 => 208 | 70 => 202 | 37 => 192 | 75 => 207 | 127 => 246 | 164 => 284 | 5 => 5 | 80 => 211 | n => n, fun | n => n⟩
theorem Tryz.lays156 : Go.Proofs.Lays.n156 Tryz.prog Tryz.lays156_ren := {
  mixed := by kernel_rfl
  f156 := func203.trans (congrArg some (by kernel_rfl))
  f165 := func240.trans (congrArg some (by kernel_rfl))
  f166 := func130.trans (congrArg some (by kernel_rfl))
  f169 := func132.trans (congrArg some (by kernel_rfl))
  f240 := func184.trans (congrArg some (by kernel_rfl))
  f241 := func271.trans (congrArg some (by kernel_rfl))
  f276 := func234.trans (congrArg some (by kernel_rfl))
  f277 := func299.trans (congrArg some (by kernel_rfl))
  t0 := underlying0
  a0 := isAgg0
  z0 := sizeOf0
  v0 := zeroValue0
  t3 := underlying3
  a3 := isAgg3
  z3 := sizeOf3
  v3 := zeroValue3
  t4 := underlying4
  a4 := isAgg4
  z4 := sizeOf4
  v4 := zeroValue4
  t9 := underlying9
  a9 := isAgg9
  z9 := sizeOf9
  v9 := zeroValue9
  t20 := underlying20
  a20 := isAgg20
  z20 := sizeOf20
  v20 := zeroValue20
  t31 := underlying69
  a31 := isAgg69
  z31 := sizeOf69
  v31 := zeroValue69
  t37 := underlying192
  a37 := isAgg192
  z37 := sizeOf192
  v37 := zeroValue192
  t70 := underlying202
  a70 := isAgg202
  z70 := sizeOf202
  v70 := zeroValue202
  t72 := underlying204
  a72 := isAgg204
  z72 := sizeOf204
  v72 := zeroValue204
  t75 := underlying207
  a75 := isAgg207
  z75 := sizeOf207
  v75 := zeroValue207
  t76 := underlying208
  a76 := isAgg208
  z76 := sizeOf208
  v76 := zeroValue208
  t127 := underlying246
  a127 := isAgg246
  z127 := sizeOf246
  v127 := zeroValue246
  t164 := underlying284
  a164 := isAgg284
  z164 := sizeOf284
  v164 := zeroValue284 }
theorem Tryz.Builder_Extra_156 : Builder.Extra Tryz.prog Tryz.lays156_ren := {
  sizeBuilder := by kernel_rfl
  liesBuilder := by kernel_rfl
  t5 := underlying5
  a5 := isAgg5
  z5 := sizeOf5
  v5 := zeroValue5
  infoByte := by kernel_rfl
  cellsByte := by kernel_rfl
  sizeByte := by kernel_rfl
  neB5 := by decide }
open Go.RowKit in
theorem Tryz.strings_Join_none (a : Option Addr) (c : Nat) (sep : ByteArray) (w : World) :
    Calls Tryz.prog 203 #[.slice a 0 c, .string sep] w fun e w' => e = .returned (.string ⟨#[]⟩) ∧ w' = w := Any.strings_Join_none Tryz.lays156 Tryz.Builder_Extra_156 a c sep w
open Go.RowKit in
theorem Tryz.strings_Join (bk o c : Nat) (xs : List ByteArray) (sep : ByteArray) (w : World) (hcells : ∀ (j : Nat) x, xs[j]? = some x → w.cell? ⟨bk, o + j, none⟩ = some (.string x)) (hbk : bk < w.heap.size) (hN : xs.length ≤ 140737488355328) (hcap : xs.length ≤ c) (hlen : (Lib.join (xs.map (·.data.toList)) sep.data.toList).length ≤ 140737488355328) :
    Calls Tryz.prog 203 #[.slice (some ⟨bk, o, none⟩) xs.length c, .string sep] w fun e w' => e = .returned (.string ⟨(Lib.join (xs.map (·.data.toList)) sep.data.toList).toArray⟩) ∧ Below w.heap.size w w' := Any.strings_Join Tryz.lays156 Tryz.Builder_Extra_156 bk o c xs sep w hcells hbk hN hcap hlen
def Tryz.lays161_ren : Go.Shelf.Ren := ⟨fun | 161 => 202 | 231 => 247 | 227 => 248 | 233 => 249 | 235 => 250 | 228 => 283 | 197 => 272 | 151 => 195 | 260 => 300 | 152 => 239 | 137 => 217 | 119 => 268 | 224 => 269 | 225 => 270 | 217 => 260 | 266 => 288 | n => n, fun | 9 => 9 | 4 => 4 | 3 => 3 | 5 => 5 | 117 => 313 | 116 => 312 | 0 => 0 | 124 => 316 | 105 => 328 | 21 => 21 | 119 => 341 | 46 => 188 | 139 => 372 | 138 => 371 | n => n, fun | 3 => 4 | 4 => 5 | n => n⟩
theorem Tryz.lays161 : Go.Proofs.Lays.n161 Tryz.prog Tryz.lays161_ren := {
  mixed := by kernel_rfl
  f119 := func268.trans (congrArg some (by kernel_rfl))
  f137 := func217.trans (congrArg some (by kernel_rfl))
  f151 := func195.trans (congrArg some (by kernel_rfl))
  f152 := func239.trans (congrArg some (by kernel_rfl))
  f161 := func202.trans (congrArg some (by kernel_rfl))
  f197 := func272.trans (congrArg some (by kernel_rfl))
  f217 := func260.trans (congrArg some (by kernel_rfl))
  f224 := func269.trans (congrArg some (by kernel_rfl))
  f225 := func270.trans (congrArg some (by kernel_rfl))
  f227 := func248.trans (congrArg some (by kernel_rfl))
  f228 := func283.trans (congrArg some (by kernel_rfl))
  f231 := func247.trans (congrArg some (by kernel_rfl))
  f233 := func249.trans (congrArg some (by kernel_rfl))
  f235 := func250.trans (congrArg some (by kernel_rfl))
  f260 := func300.trans (congrArg some (by kernel_rfl))
  f266 := func288.trans (congrArg some (by kernel_rfl))
  t0 := underlying0
  a0 := isAgg0
  z0 := sizeOf0
  v0 := zeroValue0
  t3 := underlying3
  a3 := isAgg3
  z3 := sizeOf3
  v3 := zeroValue3
  t4 := underlying4
  a4 := isAgg4
  z4 := sizeOf4
  v4 := zeroValue4
  t5 := underlying5
  a5 := isAgg5
  z5 := sizeOf5
  v5 := zeroValue5
  t9 := underlying9
  a9 := isAgg9
  z9 := sizeOf9
  v9 := zeroValue9
  t21 := underlying21
  a21 := isAgg21
  z21 := sizeOf21
  v21 := zeroValue21
  t46 := underlying188
  a46 := isAgg188
  z46 := sizeOf188
  v46 := zeroValue188
  t105 := underlying328
  a105 := isAgg328
  z105 := sizeOf328
  v105 := zeroValue328
  t116 := underlying312
  a116 := isAgg312
  z116 := sizeOf312
  t117 := underlying313
  a117 := isAgg313
  z117 := sizeOf313
  v117 := zeroValue313
  t119 := underlying341
  a119 := isAgg341
  z119 := sizeOf341
  t124 := underlying316
  a124 := isAgg316
  z124 := sizeOf316
  v124 := zeroValue316
  t138 := underlying371
  a138 := isAgg371
  z138 := sizeOf371
  v138 := zeroValue371
  t139 := underlying372
  a139 := isAgg372
  z139 := sizeOf372
  v139 := zeroValue372
  g3 := by kernel_rfl
  g4 := by kernel_rfl }
open Go.RowKit in
theorem Tryz.strings_TrimLeft_one (s : ByteArray) (c : UInt8) (hc : c.toNat < 128) (w : World) :
    Calls Tryz.prog 202 #[.string s, .string ⟨#[c]⟩] w fun e w' => e = .returned (.string ⟨(Lib.trimLeftB s.data.toList c).toArray⟩) ∧ w' = w := Any.strings_TrimLeft_one Tryz.lays161 s c hc w
def Tryz.lays160_ren : Go.Shelf.Ren := ⟨fun | 160 => 246 | 232 => 280 | 231 => 247 | 227 => 248 | 234 => 281 | 233 => 249 | 236 => 282 | 235 => 250 | 228 => 283 | 271 => 309 | 151 => 195 | 197 => 272 | 120 => 325 | 152 => 239 | 260 => 300 | 137 => 217 | 119 => 268 | 224 => 269 | 225 => 270 | 217 => 260 | 266 => 288 | n => n, fun | 9 => 9 | 4 => 4 | 3 => 3 | 5 => 5 | 117 => 313 | 116 => 312 | 0 => 0 | 124 => 316 | 21 => 21 | 105 => 328 | 46 => 188 | 119 => 341 | 139 => 372 | 138 => 371 | n => n, fun | 3 => 4 | 4 => 5 | n => n⟩
theorem Tryz.lays160 : Go.Proofs.Lays.n160 Tryz.prog Tryz.lays160_ren := {
  mixed := by kernel_rfl
  f119 := func268.trans (congrArg some (by kernel_rfl))
  f120 := func325.trans (congrArg some (by kernel_rfl))
  f137 := func217.trans (congrArg some (by kernel_rfl))
  f151 := func195.trans (congrArg some (by kernel_rfl))
  f152 := func239.trans (congrArg some (by kernel_rfl))
  f160 := func246.trans (congrArg some (by kernel_rfl))
  f197 := func272.trans (congrArg some (by kernel_rfl))
  f217 := func260.trans (congrArg some (by kernel_rfl))
  f224 := func269.trans (congrArg some (by kernel_rfl))
  f225 := func270.trans (congrArg some (by kernel_rfl))
  f227 := func248.trans (congrArg some (by kernel_rfl))
  f228 := func283.trans (congrArg some (by kernel_rfl))
  f231 := func247.trans (congrArg some (by kernel_rfl))
  f232 := func280.trans (congrArg some (by kernel_rfl))
  f233 := func249.trans (congrArg some (by kernel_rfl))
  f234 := func281.trans (congrArg some (by kernel_rfl))
  f235 := func250.trans (congrArg some (by kernel_rfl))
  f236 := func282.trans (congrArg some (by kernel_rfl))
  f260 := func300.trans (congrArg some (by kernel_rfl))
  f266 := func288.trans (congrArg some (by kernel_rfl))
  f271 := func309.trans (congrArg some (by kernel_rfl))
  t0 := underlying0
  a0 := isAgg0
  z0 := sizeOf0
  v0 := zeroValue0
  t3 := underlying3
  a3 := isAgg3
  z3 := sizeOf3
  v3 := zeroValue3
  t4 := underlying4
  a4 := isAgg4
  z4 := sizeOf4
  v4 := zeroValue4
  t5 := underlying5
  a5 := isAgg5
  z5 := sizeOf5
  v5 := zeroValue5
  t9 := underlying9
  a9 := isAgg9
  z9 := sizeOf9
  v9 := zeroValue9
  t21 := underlying21
  a21 := isAgg21
  z21 := sizeOf21
  v21 := zeroValue21
  t46 := underlying188
  a46 := isAgg188
  z46 := sizeOf188
  v46 := zeroValue188
  t105 := underlying328
  a105 := isAgg328
  z105 := sizeOf328
  v105 := zeroValue328
  t116 := underlying312
  a116 := isAgg312
  z116 := sizeOf312
  t117 := underlying313
  a117 := isAgg313
  z117 := sizeOf313
  v117 := zeroValue313
  t119 := underlying341
  a119 := isAgg341
  z119 := sizeOf341
  t124 := underlying316
  a124 := isAgg316
  z124 := sizeOf316
  v124 := zeroValue316
  t138 := underlying371
  a138 := isAgg371
  z138 := sizeOf371
  v138 := zeroValue371
  t139 := underlying372
  a139 := isAgg372
  z139 := sizeOf372
  v139 := zeroValue372
  g3 := by kernel_rfl
  g4 := by kernel_rfl }
def Tryz.lays119_ren : Go.Shelf.Ren := ⟨fun | 119 => 268 | n => n, fun | 21 => 21 | 4 => 4 | n => n, fun | n => n⟩
theorem Tryz.lays119 : Go.Proofs.Lays.n119 Tryz.prog Tryz.lays119_ren := {
  mixed := by kernel_rfl
  f119 := func268.trans (congrArg some (by kernel_rfl))
  t4 := underlying4
  a4 := isAgg4
  z4 := sizeOf4
  v4 := zeroValue4
  t21 := underlying21
  a21 := isAgg21
  z21 := sizeOf21
  v21 := zeroValue21 }
theorem Tryz.utf8_ValidRune (r : Int) (w : World) :
    Calls Tryz.prog 268 #[.int .i32 r] w fun e w' => e = .returned (.bool (Lib.validRune r)) ∧ w' = w := Any.utf8_ValidRune Tryz.lays119 r w
def Tryz.lays106_ren : Go.Shelf.Ren := ⟨fun | 106 => 58 | 213 => 109 | 265 => 172 | n => n, fun | 9 => 9 | 3 => 3 | n => n, fun | n => n⟩
theorem Tryz.lays106 : Go.Proofs.Lays.n106 Tryz.prog Tryz.lays106_ren := {
  mixed := by kernel_rfl
  f106 := func58.trans (congrArg some (by kernel_rfl))
  f213 := func109.trans (congrArg some (by kernel_rfl))
  f265 := func172.trans (congrArg some (by kernel_rfl))
  t3 := underlying3
  a3 := isAgg3
  z3 := sizeOf3
  v3 := zeroValue3
  t9 := underlying9
  a9 := isAgg9
  z9 := sizeOf9
  v9 := zeroValue9 }
open Go.RowKit in
theorem Tryz.strings_Compare (a b : ByteArray) (w : World) :
    Calls Tryz.prog 58 #[.string a, .string b] w fun e w' => e = .returned (.int .i64 (Lib.compareBytes a.data.toList b.data.toList)) ∧ w' = w := Any.strings_Compare Tryz.lays106 a b w
def Tryz.lays137_ren : Go.Shelf.Ren := ⟨fun | 137 => 217 | 217 => 260 | 266 => 288 | n => n, fun | 9 => 9 | 5 => 5 | 3 => 3 | n => n, fun | n => n⟩
theorem Tryz.lays137 : Go.Proofs.Lays.n137 Tryz.prog Tryz.lays137_ren := {
  mixed := by kernel_rfl
  f137 := func217.trans (congrArg some (by kernel_rfl))
  f217 := func260.trans (congrArg some (by kernel_rfl))
  f266 := func288.trans (congrArg some (by kernel_rfl))
  t3 := underlying3
  a3 := isAgg3
  z3 := sizeOf3
  v3 := zeroValue3
  t5 := underlying5
  a5 := isAgg5
  z5 := sizeOf5
  v5 := zeroValue5
  t9 := underlying9
  a9 := isAgg9
  z9 := sizeOf9
  v9 := zeroValue9 }
open Go.RowKit in
theorem Tryz.strings_IndexByte (s : ByteArray) (c : Int) (w : World) :
    Calls Tryz.prog 217 #[.string s, .int .u8 c] w fun e w' => e = .returned (.int .i64 (Lib.indexByte s.data.toList c.toNat.toUInt8)) ∧ w' = w := Any.strings_IndexByte Tryz.lays137 s c w
def Tryz.lays122_ren : Go.Shelf.Ren := ⟨fun | 122 => 59 | 215 => 110 | n => n, fun | 3 => 3 | 4 => 4 | n => n, fun | n => n⟩
theorem Tryz.lays122 : Go.Proofs.Lays.n122 Tryz.prog Tryz.lays122_ren := {
  mixed := by kernel_rfl
  f122 := func59.trans (congrArg some (by kernel_rfl))
  f215 := func110.trans (congrArg some (by kernel_rfl))
  t3 := underlying3
  a3 := isAgg3
  z3 := sizeOf3
  v3 := zeroValue3
  t4 := underlying4
  a4 := isAgg4
  z4 := sizeOf4
  v4 := zeroValue4 }
open Go.RowKit in
theorem Tryz.cmp_Compare_int (x y : Int) (w : World) :
    Calls Tryz.prog 59 #[.int .i64 x, .int .i64 y] w fun e w' => e = .returned (.int .i64 (Lib.compareInt x y)) ∧ w' = w := Any.cmp_Compare_int Tryz.lays122 x y w
def Tryz.lays219_ren : Go.Shelf.Ren := ⟨fun | 219 => 298 | 217 => 260 | 225 => 270 | 224 => 269 | 267 => 315 | 266 => 288 | 314 => 330 | n => n, fun | 9 => 9 | 3 => 3 | 4 => 4 | 5 => 5 | 46 => 188 | 146 => 402 | 51 => 238 | n => n, fun | 1 => 0 | n => n⟩
theorem Tryz.lays219 : Go.Proofs.Lays.n219 Tryz.prog Tryz.lays219_ren := {
  mixed := by kernel_rfl
  f217 := func260.trans (congrArg some (by kernel_rfl))
  f219 := func298.trans (congrArg some (by kernel_rfl))
  f224 := func269.trans (congrArg some (by kernel_rfl))
  f225 := func270.trans (congrArg some (by kernel_rfl))
  f266 := func288.trans (congrArg some (by kernel_rfl))
  f267 := func315.trans (congrArg some (by kernel_rfl))
  f314 := func330.trans (congrArg some (by kernel_rfl))
  t3 := underlying3
  a3 := isAgg3
  z3 := sizeOf3
  v3 := zeroValue3
  t4 := underlying4
  a4 := isAgg4
  z4 := sizeOf4
  v4 := zeroValue4
  t5 := underlying5
  a5 := isAgg5
  z5 := sizeOf5
  v5 := zeroValue5
  t9 := underlying9
  a9 := isAgg9
  z9 := sizeOf9
  v9 := zeroValue9
  t46 := underlying188
  a46 := isAgg188
  z46 := sizeOf188
  v46 := zeroValue188
  t51 := underlying238
  a51 := isAgg238
  z51 := sizeOf238
  v51 := zeroValue238
  t146 := underlying402
  a146 := isAgg402
  z146 := sizeOf402
  v146 := zeroValue402
  g1 := by kernel_rfl }
open Go.RowKit Go.Lib in
theorem Tryz.stringslite_Index_one (s : ByteArray) (c : UInt8) (w : World) :
    Calls Tryz.prog 298 #[.string s, .string ⟨#[c]⟩] w fun e w' => e = .returned (.int .i64 (Lib.indexByte s.data.toList c)) ∧ w' = w := Any.stringslite_Index_one Tryz.lays219 s c w
def Tryz.lays138_ren : Go.Shelf.Ren := ⟨fun | 138 => 373 | 195 => 374 | 218 => 375 | 143 => 376 | 219 => 298 | 217 => 260 | 225 => 270 | 224 => 269 | 267 => 315 | 266 => 288 | 314 => 330 | n => n, fun | 9 => 9 | 3 => 3 | 4 => 4 | 5 => 5 | 0 => 0 | 46 => 188 | 146 => 402 | 51 => 238 | n => n, fun | 1 => 0 | n => n⟩
theorem Tryz.lays138 : Go.Proofs.Lays.n138 Tryz.prog Tryz.lays138_ren := {
  mixed := by kernel_rfl
  f138 := func373.trans (congrArg some (by kernel_rfl))
  f143 := func376.trans (congrArg some (by kernel_rfl))
  f195 := func374.trans (congrArg some (by kernel_rfl))
  f217 := func260.trans (congrArg some (by kernel_rfl))
  f218 := func375.trans (congrArg some (by kernel_rfl))
  f219 := func298.trans (congrArg some (by kernel_rfl))
  f224 := func269.trans (congrArg some (by kernel_rfl))
  f225 := func270.trans (congrArg some (by kernel_rfl))
  f266 := func288.trans (congrArg some (by kernel_rfl))
  f267 := func315.trans (congrArg some (by kernel_rfl))
  f314 := func330.trans (congrArg some (by kernel_rfl))
  t0 := underlying0
  a0 := isAgg0
  z0 := sizeOf0
  v0 := zeroValue0
  t3 := underlying3
  a3 := isAgg3
  z3 := sizeOf3
  v3 := zeroValue3
  t4 := underlying4
  a4 := isAgg4
  z4 := sizeOf4
  v4 := zeroValue4
  t5 := underlying5
  a5 := isAgg5
  z5 := sizeOf5
  v5 := zeroValue5
  t9 := underlying9
  a9 := isAgg9
  z9 := sizeOf9
  v9 := zeroValue9
  t46 := underlying188
  a46 := isAgg188
  z46 := sizeOf188
  v46 := zeroValue188
  t51 := underlying238
  a51 := isAgg238
  z51 := sizeOf238
  v51 := zeroValue238
  t146 := underlying402
  a146 := isAgg402
  z146 := sizeOf402
  v146 := zeroValue402
  g1 := by kernel_rfl }
open Go.RowKit Go.Lib in
theorem Tryz.strings_Count_one (s : ByteArray) (c : UInt8) (w : World) :
    Calls Tryz.prog 373 #[.string s, .string ⟨#[c]⟩] w fun e w' => e = .returned (.int .i64 (Lib.countByte s.data.toList c)) ∧ w' = w := Any.strings_Count_one Tryz.lays138 s c w
def Tryz.lays157_ren : Go.Shelf.Ren := ⟨fun | 157 => 261 | 229 => 256 | 199 => 289 | 261 => 311 | 311 => 327 | 312 => 328 | n => n, fun | 9 => 9 | 31 => 69 | 3 => 3 | 5 => 5 | 4 => 4 | 119 => 341 | 0 => 0 | 40 => 254 | 152 => 338 | 21 => 21 | 154 => 340 | 51 => 238 | 141 => 367 | 196 => 393 | 193 => 390 | 198 => 396 | 49 => 394 | 194 => 391 | 201 => 399 | 226 => 417 | 46 => 188 | 227 => 418 | n => n, fun | 0 => 1 | 6 => 3 | n => n⟩
theorem Tryz.lays157 : Go.Proofs.Lays.n157 Tryz.prog Tryz.lays157_ren := {
  mixed := by kernel_rfl
  f157 := func261.trans (congrArg some (by kernel_rfl))
  f199 := func289.trans (congrArg some (by kernel_rfl))
  f229 := func256.trans (congrArg some (by kernel_rfl))
  f261 := func311.trans (congrArg some (by kernel_rfl))
  f311 := func327.trans (congrArg some (by kernel_rfl))
  f312 := func328.trans (congrArg some (by kernel_rfl))
  t0 := underlying0
  a0 := isAgg0
  z0 := sizeOf0
  v0 := zeroValue0
  t3 := underlying3
  a3 := isAgg3
  z3 := sizeOf3
  v3 := zeroValue3
  t4 := underlying4
  a4 := isAgg4
  z4 := sizeOf4
  v4 := zeroValue4
  t5 := underlying5
  a5 := isAgg5
  z5 := sizeOf5
  v5 := zeroValue5
  t9 := underlying9
  a9 := isAgg9
  z9 := sizeOf9
  v9 := zeroValue9
  t21 := underlying21
  a21 := isAgg21
  z21 := sizeOf21
  v21 := zeroValue21
  t31 := underlying69
  a31 := isAgg69
  z31 := sizeOf69
  v31 := zeroValue69
  t40 := underlying254
  a40 := isAgg254
  z40 := sizeOf254
  v40 := zeroValue254
  t46 := underlying188
  a46 := isAgg188
  z46 := sizeOf188
  v46 := zeroValue188
  t49 := underlying394
  a49 := isAgg394
  z49 := sizeOf394
  v49 := zeroValue394
  t51 := underlying238
  a51 := isAgg238
  z51 := sizeOf238
  v51 := zeroValue238
  t119 := underlying341
  a119 := isAgg341
  z119 := sizeOf341
  t141 := underlying367
  a141 := isAgg367
  z141 := sizeOf367
  v141 := zeroValue367
  t152 := underlying338
  a152 := isAgg338
  z152 := sizeOf338
  v152 := zeroValue338
  t154 := underlying340
  a154 := isAgg340
  z154 := sizeOf340
  v154 := zeroValue340
  t193 := underlying390
  a193 := isAgg390
  z193 := sizeOf390
  v193 := zeroValue390
  t194 := underlying391
  a194 := isAgg391
  z194 := sizeOf391
  v194 := zeroValue391
  t196 := underlying393
  a196 := isAgg393
  z196 := sizeOf393
  v196 := zeroValue393
  t198 := underlying396
  a198 := isAgg396
  z198 := sizeOf396
  v198 := zeroValue396
  t201 := underlying399
  a201 := isAgg399
  z201 := sizeOf399
  v201 := zeroValue399
  t226 := underlying417
  a226 := isAgg417
  z226 := sizeOf417
  v226 := zeroValue417
  t227 := underlying418
  a227 := isAgg418
  z227 := sizeOf418
  v227 := zeroValue418
  g0 := by kernel_rfl
  g6 := by kernel_rfl }
def Tryz.lays151_ren : Go.Shelf.Ren := ⟨fun | 151 => 195 | 152 => 239 | 137 => 217 | 119 => 268 | 224 => 269 | 225 => 270 | 217 => 260 | 266 => 288 | n => n, fun | 9 => 9 | 21 => 21 | 4 => 4 | 3 => 3 | 5 => 5 | 0 => 0 | 46 => 188 | n => n, fun | n => n⟩
theorem Tryz.lays151 : Go.Proofs.Lays.n151 Tryz.prog Tryz.lays151_ren := {
  mixed := by kernel_rfl
  f119 := func268.trans (congrArg some (by kernel_rfl))
  f137 := func217.trans (congrArg some (by kernel_rfl))
  f151 := func195.trans (congrArg some (by kernel_rfl))
  f152 := func239.trans (congrArg some (by kernel_rfl))
  f217 := func260.trans (congrArg some (by kernel_rfl))
  f224 := func269.trans (congrArg some (by kernel_rfl))
  f225 := func270.trans (congrArg some (by kernel_rfl))
  f266 := func288.trans (congrArg some (by kernel_rfl))
  t0 := underlying0
  a0 := isAgg0
  z0 := sizeOf0
  v0 := zeroValue0
  t3 := underlying3
  a3 := isAgg3
  z3 := sizeOf3
  v3 := zeroValue3
  t4 := underlying4
  a4 := isAgg4
  z4 := sizeOf4
  v4 := zeroValue4
  t5 := underlying5
  a5 := isAgg5
  z5 := sizeOf5
  v5 := zeroValue5
  t9 := underlying9
  a9 := isAgg9
  z9 := sizeOf9
  v9 := zeroValue9
  t21 := underlying21
  a21 := isAgg21
  z21 := sizeOf21
  v21 := zeroValue21
  t46 := underlying188
  a46 := isAgg188
  z46 := sizeOf188
  v46 := zeroValue188 }
open Go.RowKit Go.Lib in
theorem Tryz.strings_ContainsRune_ascii (s : ByteArray) (r : Int) (w : World) (h0 : 0 ≤ r) (h1 : r < 128) :
    Calls Tryz.prog 195 #[.string s, .int .i32 r] w fun e w' => e = .returned (.bool (decide (0 ≤ Lib.indexByte s.data.toList r.toNat.toUInt8))) ∧ w' = w := Any.strings_ContainsRune_ascii Tryz.lays151 s r w h0 h1
open Go.RowKit Go.Lib in
theorem Tryz.strings_Fields_any (s : ByteArray) (w : World) (hs : s.size < 4294967281) (htab : Lib.TabIs Tryz.prog w "strings.asciiSpace" .u8 Lib.asciiSpaceTab) (hW : Lib.WhiteTab 3 w) :
    Calls Tryz.prog 261 #[.string s] w fun e w' => ∃ A, e = .returned (.slice (some ⟨A, 0, none⟩) (Lib.fieldsD s.data.toList).length (Lib.fieldsD s.data.toList).length) ∧ w.heap.size ≤ A ∧
      w'.ownsRow w.heap.size 9 1 (.slice (some ⟨A, 0, none⟩) (Lib.fieldsD s.data.toList).length (Lib.fieldsD s.data.toList).length) (Lib.fieldsD s.data.toList).length ((Lib.fieldsD s.data.toList).map fun x => Value.string ⟨x.toArray⟩) ∧ Below w.heap.size w w' := Any.strings_Fields_any Tryz.lays157 (by kernel_rfl) (by kernel_rfl) (by kernel_rfl) s w hs htab hW
def Tryz.lays229_ren : Go.Shelf.Ren := ⟨fun | 229 => 256 | n => n, fun | 9 => 9 | 40 => 254 | 31 => 69 | 152 => 338 | 3 => 3 | 0 => 0 | 4 => 4 | 21 => 21 | 154 => 340 | n => n, fun | n => n⟩
theorem Tryz.lays229 : Go.Proofs.Lays.n229 Tryz.prog Tryz.lays229_ren := {
  mixed := by kernel_rfl
  f229 := func256.trans (congrArg some (by kernel_rfl))
  t0 := underlying0
  a0 := isAgg0
  z0 := sizeOf0
  v0 := zeroValue0
  t3 := underlying3
  a3 := isAgg3
  z3 := sizeOf3
  v3 := zeroValue3
  t4 := underlying4
  a4 := isAgg4
  z4 := sizeOf4
  v4 := zeroValue4
  t9 := underlying9
  a9 := isAgg9
  z9 := sizeOf9
  v9 := zeroValue9
  t21 := underlying21
  a21 := isAgg21
  z21 := sizeOf21
  v21 := zeroValue21
  t31 := underlying69
  a31 := isAgg69
  z31 := sizeOf69
  v31 := zeroValue69
  t40 := underlying254
  a40 := isAgg254
  z40 := sizeOf254
  v40 := zeroValue254
  t152 := underlying338
  a152 := isAgg338
  z152 := sizeOf338
  v152 := zeroValue338
  t154 := underlying340
  a154 := isAgg340
  z154 := sizeOf340
  v154 := zeroValue340 }
open Go.RowKit Go.Lib in
theorem Tryz.strings_FieldsFunc_grows (g : Nat) (lb : Array Value) (eg : ∀ args w, (callFunc g args).run Tryz.prog w = .ok (.enter g args) w) (p : Nat → Bool) (s : ByteArray) (w : World) (hs : s.size ≤ 4294967296) (hp : PredGrows Tryz.prog g lb p w) :
    Calls Tryz.prog 256 #[.string s, .func (.func g) #[] lb] w fun e w' => ∃ A, e = .returned (.slice (some ⟨A, 0, none⟩) (Lib.goFieldsP p s).length (Lib.goFieldsP p s).length) ∧ w.heap.size ≤ A ∧
      w'.ownsRow w.heap.size 9 1 (.slice (some ⟨A, 0, none⟩) (Lib.goFieldsP p s).length (Lib.goFieldsP p s).length) (Lib.goFieldsP p s).length ((Lib.goFieldsP p s).map Value.string) ∧ Below w.heap.size w w' := Any.strings_FieldsFunc_grows Tryz.lays229 g lb eg p s w hs hp (by kernel_rfl) (by kernel_rfl)
def Tryz.lays110_ren : Go.Shelf.Ren := ⟨fun | 110 => 116 | 109 => 179 | n => n, fun | 31 => 69 | 9 => 9 | 4 => 4 | 3 => 3 | 0 => 0 | n => n, fun | n => n⟩
theorem Tryz.lays110 : Go.Proofs.Lays.n110 Tryz.prog Tryz.lays110_ren := {
  mixed := by kernel_rfl
  f109 := func179.trans (congrArg some (by kernel_rfl))
  f110 := func116.trans (congrArg some (by kernel_rfl))
  t0 := underlying0
  a0 := isAgg0
  z0 := sizeOf0
  v0 := zeroValue0
  t3 := underlying3
  a3 := isAgg3
  z3 := sizeOf3
  v3 := zeroValue3
  t4 := underlying4
  a4 := isAgg4
  z4 := sizeOf4
  v4 := zeroValue4
  t9 := underlying9
  a9 := isAgg9
  z9 := sizeOf9
  v9 := zeroValue9
  t31 := underlying69
  a31 := isAgg69
  z31 := sizeOf69
  v31 := zeroValue69 }
open Go.Lib in
theorem Tryz.slices_Contains_string (b off n c : Nat) (zs : List ByteArray) (x : ByteArray) (w : World) (hz : n ≤ zs.length) (hbig : n ≤ 9223372036854775807) (hc : ∀ j, j < zs.length → w.cell? ⟨b, off + j, none⟩ = some (.string (zs.getD j ByteArray.empty))) :
    Calls Tryz.prog 116 #[.slice (some ⟨b, off, none⟩) n c, .string x] w fun e w' => e = .returned (.bool (Lib.containsS (zs.take n) x)) ∧ w' = w := Any.slices_Contains_string Tryz.lays110 b off n c zs x w hz hbig hc
