/-
  Own texts on the laws of the seat, joined: the logic, and contracts of functions. Conditions: none.
-/
import Derived.Test.YtekmeaoblpfnpaaGreatDoorPG4
import Derived.Lib.Join
import Derived.Lib.SlTrimSet
import Derived.Shelf.Strings.SlTrimAscii
import Derived.Lib.SlicesCompact
set_option maxRecDepth 100000
set_option maxHeartbeats 40000000
section
set_option maxHeartbeats 40000000
namespace Go.Proofs.YtekmeaoblpfnpaaGreatDoor
open _root_.Go.Proofs.Tryz
open Go Go.Sx
theorem Index1_ok (s : List UInt8) (c : UInt8) (I : Heap) : Pure Tryz.prog 298 [str s, str [c]] I (i64 (Lib.indexByte s c)) :=
  Pure.of_same (Enters.of func298 (by decide) rfl) fun w _ => by
    have h := Tryz.stringslite_Index_one ⟨s.toArray⟩ c w
    rw [ba_list] at h
    exact h
theorem sCut_ok (s : List UInt8) (c : UInt8) (hs : s.length ≤ 1000000000) (I : Heap) : Pure Tryz.prog 266 [str s, str [c]] I (.tuple #[str (Ke.cutAt c s).1, str (Ke.cutAt c s).2.1, .bool (Ke.cutAt c s).2.2]) := by
 refine xob func266 fun w0 hw0 => ?_
 refine xpu (Index1_ok s c _) ?_
 refine axc (fun hc1 hc1p => ?_) (fun hc1 hc1p => ?_)
 ·
  obtain ⟨n, g1, g2, g3⟩ := (Ke.cut_index c s).resolve_left (fun h => by have := of_decide_eq_true hc1; omega)
  refine Cj.ev 7 (i64 (n : Int)) rfl (congrArg i64 g1) ?_
  refine axn 1 ?_
  refine Cj.drawSel [] [] 12 (by kernel_rfl) ?_
  refine axn 2 ?_
  refine JA.zt 2 rfl (yl_sliceStr (p := 0) (q := n) rfl rfl underlying9 rfl ⟨_, rfl⟩ (by omega) (by omega)) ?_
  refine JA.ev 15 (str (s.take n)) rfl (by rw [List.drop_zero]) ?_
  refine axn 4 ?_
  refine JA.zt 7 rfl (yl_add rfl rfl rfl (w64 (by simp only [List.length_cons, List.length_nil]; omega))) ?_
  refine JA.zt 8 rfl (yl_sliceStr (p := n + 1) (q := s.length) rfl rfl underlying9 ⟨_, rfl⟩ rfl (by omega) (by omega)) ?_
  refine JA.ev 21 (str (s.drop (n + 1))) rfl (by rw [List.take_length]) ?_
  refine axn 7 ?_
  refine Ej.ret3 rfl rfl rfl rfl rfl ?_
  refine ⟨?_, rfl, rfl⟩
  rw [g3]
 have g := (Ke.cut_index c s).resolve_right (fun ⟨n, h, _⟩ => by have := of_decide_eq_false hc1; omega)
 refine axn 11 ?_
 refine Ej.ret3 rfl rfl rfl rfl rfl ?_
 refine ⟨?_, rfl, rfl⟩
 rw [g.2]; rfl
theorem Cut_ok (s : List UInt8) (c : UInt8) (hs : s.length ≤ 1000000000) (I : Heap) : Pure Tryz.prog 233 [str s, str [c]] I (.tuple #[str (Ke.cutAt c s).1, str (Ke.cutAt c s).2.1, .bool (Ke.cutAt c s).2.2]) := by
 refine xob func233 fun w0 hw0 => ?_
 refine xpu (sCut_ok s c hs _) ?_
 refine axn 9 ?_
 refine Ej.ret3 rfl rfl rfl rfl rfl ?_
 exact ⟨rfl, rfl, rfl⟩
theorem alphabet_ok (rb rc : Nat) (I : Heap) (hrb : I rb = some (cel 9 (Ke.prows.map str))) : Ctr Tryz.prog 182 [.slice (some ⟨rb, 0, none⟩) 31 rc] I []
    (fun e _I' H' => ∃ tb, e = .returned (.map (some tb)) ∧ H' = [(tb, mobj (fun a : Int => Value.int .i32 a) (Ke.mtab Ke.tab) 207)]) := by
 refine xob func182 fun w0 hw0 => ?_
 refine axn 7 ?_
 refine J.op rfl (op_makeMap rfl rfl rfl ?_)
 intro b1 hb1
 refine axn 12 ?_
 refine Cj.loop (ι := Nat) (fun k => k ≤ 31) (fun k => 31 - k) (fun k => [(3, .map (some b1)), (12, .slice (some ⟨rb, 0, none⟩) 31 rc), (13, .int .i64 ((31 : Nat) : Int)), (14, i64 (k : Int))]) (fun k => _) (fun k => [(b1, mobj (fun a : Int => Value.int .i32 a) (Ke.mtab (Ke.rowTab (Ke.rows.take k))) (Ke.rowTab (Ke.rows.take k)).length)]) 0 (Nat.zero_le _) ⟨rfl, rfl, rfl, rfl, trivial⟩ rfl rfl ?_
 intro k hk
 refine axc (fun hc2 hc2p => ?_) (fun hc2 hc2p => ?_)
 ·
  have hlt : k < 31 := by have := of_decide_eq_true hc2; omega
  obtain ⟨⟨a, b⟩, hget⟩ : ∃ p, Ke.rows[k]? = some p := ⟨_, List.getElem?_eq_getElem (show k < Ke.rows.length from hlt)⟩
  obtain ⟨ha, hal, hbl⟩ := Ke.row_parts _ (List.mem_of_getElem? hget)
  have hpg : (Ke.prows.map str)[k]? = some (str (a ++ 32 :: b)) := by simp [Ke.prows, hget]
  refine xix k ?_
  refine J.z (yl_load rfl rfl isAgg9 (Blk.imm hrb) hpg) ?_
  refine xpu (Cut_ok (a ++ 32 :: b) 32 (by dsimp only at hal hbl; simp; omega) _) ?_
  refine J.ev 20 (.tuple #[str a, str b, .bool true]) rfl (by rw [Ke.cutAt_row ha]) ?_
  refine axn 12 ?_
  refine J.op rfl (op_range rfl rfl rfl rfl underlying9 ?_)
  intro b3 hb3
  refine axn 3 ?_
  refine Cj.loop (ι := Nat × List Nat) (fun j => j.1 ≤ b.length ∧ Ke.runes b = j.2 ++ Ke.runes (b.drop j.1)) (fun j => b.length - j.1) (fun j => [(3, .map (some b1)), (6, str a), (12, .slice (some ⟨rb, 0, none⟩) 31 rc), (13, .int .i64 ((31 : Nat) : Int)), (14, i64 (k : Int)), (25, ptr b3 0)]) (fun j => _) (fun j => [(b3, .stringIter ⟨b.toArray⟩ j.1), (b1, mobj (fun a : Int => Value.int .i32 a) (Ke.mtab (Ke.rowTab (Ke.rows.take k) ++ j.2.map (·, a))) (Ke.rowTab (Ke.rows.take k) ++ j.2.map (·, a)).length)]) (0, []) ⟨Nat.zero_le _, rfl⟩ ⟨rfl, rfl, rfl, rfl, rfl, rfl, trivial⟩ rfl (by simp) ?_
  rintro ⟨i, x⟩ ⟨hi, hx⟩
  dsimp only at hi hx ⊢
  rcases Nat.lt_or_ge i b.length with hp | hp
  ·
   have hw := Ke.decode_width b hp
   have hfr := Ke.fresh hget (Ke.runes_split hx hp)
   refine axn 2 ?_
   refine J.op rfl (op_next 0 rfl rfl rfl rfl rfl (by rw [size_mk]; omega) LSet.z ?_)
   refine axn 18 ?_
   refine J.op rfl (op_insert (kv := fun a : Int => Value.int .i32 a) (a := ((Utf8.decode ⟨b.toArray⟩ i).1 : Int)) 1 (.inr rfl) rfl rfl rfl rfl rfl underlying200 (KeyK.int underlying21) rfl (LSet.s LSet.z) ?_)
   rw [(Ke.mset_new (s := a) hfr).1, (Ke.mset_new (s := a) hfr).2]
   refine axn 2 ?_
   refine Ej.round (i + (Utf8.decode ⟨b.toArray⟩ i).2, x ++ [(Utf8.decode ⟨b.toArray⟩ i).1]) ⟨hw.2, Ke.runes_split' hx hp⟩ (by dsimp only; omega) ⟨rfl, rfl, rfl, rfl, rfl, rfl, trivial⟩ rfl (by simp only [List.map_append, List.map_cons, List.map_nil, List.append_assoc])
   
  refine axn 2 ?_
  refine J.op rfl (op_nextEnd 0 rfl rfl rfl rfl rfl (by rw [size_mk]; omega) ?_)
  refine axn 15 ?_
  refine Ej.keep (Keeps.d (Keeps.k Keeps.n)) ?_
  refine Ej.round (k + 1) (by omega) (by omega) ⟨rfl, rfl, rfl, rfl, trivial⟩ rfl (by rw [Ke.rowTab_next hget, Ke.runes_done hx (by omega)])
 refine axn 12 ?_
 obtain rfl : k = 31 := by omega
 refine axe ?_
 have he : Ke.rowTab (Ke.rows.take 31) = Ke.tab := by rw [List.take_of_length_le (by decide)]; exact Ke.tab_eq
 refine ⟨b1, rfl, ?_⟩
 rw [he]; rfl
theorem prows_eq : cel 9 (Ke.prows.map str) = cel 9 [str [97, 32, 195, 160, 195, 161, 195, 162, 195, 163, 195, 164, 195, 165, 196, 129, 196, 131, 196, 133, 195, 128, 195, 129, 195, 130, 195, 131, 195, 132, 195, 133, 196, 128, 196, 130, 196, 132], str [99, 32, 195, 167, 196, 135, 196, 137, 196, 139, 196, 141, 195, 135, 196, 134, 196, 136, 196, 138, 196, 140], str [100, 32, 196, 143, 196, 145, 195, 176, 196, 142, 196, 144, 195, 144], str [101, 32, 195, 168, 195, 169, 195, 170, 195, 171, 196, 147, 196, 149, 196, 151, 196, 153, 196, 155, 195, 136, 195, 137, 195, 138, 195, 139, 196, 146, 196, 148, 196, 150, 196, 152, 196, 154], str [103, 32, 196, 157, 196, 159, 196, 161, 196, 163, 196, 156, 196, 158, 196, 160, 196, 162], str [104, 32, 196, 165, 196, 167, 196, 164, 196, 166], str [105, 32, 195, 172, 195, 173, 195, 174, 195, 175, 196, 169, 196, 171, 196, 173, 196, 175, 196, 177, 195, 140, 195, 141, 195, 142, 195, 143, 196, 168, 196, 170, 196, 172, 196, 174, 196, 176], str [106, 32, 196, 181, 196, 180], str [107, 32, 196, 183, 196, 182], str [108, 32, 196, 186, 196, 188, 196, 190, 197, 130, 196, 185, 196, 187, 196, 189, 197, 129], str [110, 32, 195, 177, 197, 132, 197, 134, 197, 136, 195, 145, 197, 131, 197, 133, 197, 135], str [111, 32, 195, 178, 195, 179, 195, 180, 195, 181, 195, 182, 195, 184, 197, 141, 197, 143, 197, 145, 198, 161, 195, 146, 195, 147, 195, 148, 195, 149, 195, 150, 195, 152, 197, 140, 197, 142, 197, 144, 198, 160], str [114, 32, 197, 149, 197, 151, 197, 153, 197, 148, 197, 150, 197, 152], str [115, 32, 197, 155, 197, 157, 197, 159, 197, 161, 197, 154, 197, 156, 197, 158, 197, 160], str [116, 32, 197, 163, 197, 165, 197, 167, 197, 162, 197, 164, 197, 166], str [117, 32, 195, 185, 195, 186, 195, 187, 195, 188, 197, 169, 197, 171, 197, 173, 197, 175, 197, 177, 197, 179, 198, 176, 195, 153, 195, 154, 195, 155, 195, 156, 197, 168, 197, 170, 197, 172, 197, 174, 197, 176, 197, 178, 198, 175], str [119, 32, 197, 181, 197, 180], str [121, 32, 195, 189, 195, 191, 197, 183, 195, 157, 197, 184, 197, 182], str [122, 32, 197, 186, 197, 188, 197, 190, 197, 185, 197, 187, 197, 189], str [97, 101, 32, 195, 166, 195, 134], str [111, 101, 32, 197, 147, 197, 146], str [115, 115, 32, 195, 159], str [116, 104, 32, 195, 190, 195, 158], str [206, 177, 32, 206, 172, 206, 134], str [206, 181, 32, 206, 173, 206, 136], str [206, 183, 32, 206, 174, 206, 137], str [206, 185, 32, 206, 175, 207, 138, 206, 144, 206, 138, 206, 170], str [206, 191, 32, 207, 140, 206, 140], str [207, 133, 32, 207, 141, 207, 139, 206, 176, 206, 142, 206, 171], str [207, 137, 32, 207, 142, 206, 143], str [208, 181, 32, 209, 145, 208, 129]] := by kernel_rfl
theorem letters_ok (I : Heap) : Ctr Tryz.prog 128 [] I [] (fun e _I' H' => ∃ tb, e = .returned (.map (some tb)) ∧ H' = [(tb, mobj (fun a : Int => Value.int .i32 a) (Ke.mtab Ke.tab) 207)]) := by
 refine Ctr.ob func128 ?_
 intro w0 hw0
 refine Cj.sr (J.as ?_)
 refine J.nssr (J.op rfl (q3 underlying69 sizeOf9 zeroValue9 (LCat.one rfl (LCat.one rfl (LCat.one rfl (LCat.one rfl (LCat.one rfl (LCat.one rfl (LCat.one rfl (LCat.one rfl (LCat.one rfl (LCat.one rfl (LCat.one rfl (LCat.one rfl (LCat.one rfl (LCat.one rfl (LCat.one rfl (LCat.one rfl (LCat.one rfl (LCat.one rfl (LCat.one rfl (LCat.one rfl (LCat.one rfl (LCat.one rfl (LCat.one rfl (LCat.one rfl (LCat.one rfl (LCat.one rfl (LCat.one rfl (LCat.one rfl (LCat.one rfl (LCat.one rfl (LCat.one rfl LCat.none))))))))))))))))))))))))))))))) ?_))
 intro b1 hb1
 refine J.persist hb1 (fun I3 hle2 hb1i => ?_)
 refine J.op rfl (op_call (H1 := []) rfl rfl rfl rfl rfl (alphabet_ok b1 _ _ (by rw [prows_eq]; exact hb1i)) ?_ (fun _ _ _ _ ⟨_, h, _⟩ => by cases h) (fun _ _ ⟨_, h, _⟩ => by cases h))
 intro v4 I5 H6 hle7 hp8
 have hb1i := hle7 _ _ hb1i
 obtain ⟨tb, h, rfl⟩ := hp8; cases h
 refine J.as ?_
 refine J.ns (Cj.ret ?_)
 refine Ej.ret1 rfl rfl rfl ?_
 exact ⟨tb, rfl, rfl⟩
end Go.Proofs.YtekmeaoblpfnpaaGreatDoor
end
section
namespace Ke
theorem enc_len (c : Nat) : (enc c).length ≤ 4 := by grind [enc]
theorem tab_len : tab.all (fun p => decide (p.2.length ≤ 4)) = true := by decide +kernel
theorem mem_lookup : ∀ {l : List (Nat × Bs)} {c : Nat} {s : Bs}, l.lookup c = some s → ∃ p ∈ l, p.2 = s
  | [], _, _, h => by cases h
  | (a, b) :: r, c, s, h => by
    rw [List.lookup_cons] at h
    split at h
    · cases h; exact ⟨_, .head _, rfl⟩
    obtain ⟨p, h1, h2⟩ := mem_lookup h
    exact ⟨p, .tail _ h1, h2⟩
theorem char_len (c : Nat) : (char c).length ≤ 4 := by
  unfold char
  split
  · exact enc_len c
  split
  · exact enc_len _
  split
  · simp
  split
  · simp
  split
  · rename_i s hs
    obtain ⟨p, h1, rfl⟩ := mem_lookup hs
    exact of_decide_eq_true (List.all_eq_true.1 tab_len p h1)
  split
  · exact enc_len _
  split
  · exact enc_len _
  split
  · exact enc_len _
  simp
theorem wf_end (w : Bs) : wf w [] = if w = [] then [] else [w] := rfl
theorem wf_in {c : Nat} (h : char c ≠ [32]) (w : Bs) (r : List Nat) : wf w (c :: r) = wf (w ++ char c) r := by
  show (if char c = [32] then _ else _) = _
  rw [if_neg h]
theorem wf_out {c : Nat} (h : char c = [32]) {w : Bs} (hw : w ≠ []) (r : List Nat) : wf w (c :: r) = w :: wf [] r := by
  show (if char c = [32] then (if w = [] then _ else _) else _) = _
  rw [if_pos h, if_neg hw]
theorem wf_out0 {c : Nat} (h : char c = [32]) (r : List Nat) : wf [] (c :: r) = wf [] r := by
  show (if char c = [32] then (if ([] : Bs) = [] then _ else _) else _) = _
  rw [if_pos h, if_pos rfl]
theorem drop_at {α : Type} {l : List α} {k : Nat} {x : α} {r : List α} (h : l.drop k = x :: r) : l[k]? = some x ∧ l.drop (k + 1) = r := by
  have h1 := congrArg List.head? h
  have h2 := congrArg List.tail h
  rw [List.head?_drop] at h1
  rw [List.tail_drop] at h2
  exact ⟨h1, h2⟩
structure WInv (s : Bs) (i k : Nat) (w : Bs) : Prop where
  le : i ≤ s.length
  wl : w.length ≤ 4 * i
  kl : k ≤ (words s).length
  eq : (words s).drop k = wf w (runes (s.drop i))
theorem WInv.start (s : Bs) : WInv s 0 0 [] := ⟨Nat.zero_le _, Nat.zero_le _, Nat.zero_le _, rfl⟩
theorem WInv.in {s : Bs} {i k : Nat} {w : Bs} (h : WInv s i k w) (hi : i < s.length) (hc : char (Go.Utf8.decode ⟨s.toArray⟩ i).1 ≠ [32]) : WInv s (i + (Go.Utf8.decode ⟨s.toArray⟩ i).2) k (w ++ char (Go.Utf8.decode ⟨s.toArray⟩ i).1) := by
  obtain ⟨h1, h2⟩ := decode_width s hi
  refine ⟨h2, ?_, h.kl, by rw [h.eq, runes_at hi, wf_in hc]⟩
  have := char_len (Go.Utf8.decode ⟨s.toArray⟩ i).1
  have := h.wl
  rw [List.length_append]; omega
theorem WInv.out0 {s : Bs} {i k : Nat} (h : WInv s i k []) (hi : i < s.length) (hc : char (Go.Utf8.decode ⟨s.toArray⟩ i).1 = [32]) : WInv s (i + (Go.Utf8.decode ⟨s.toArray⟩ i).2) k [] := by
  obtain ⟨h1, h2⟩ := decode_width s hi
  exact ⟨h2, by simp, h.kl, by rw [h.eq, runes_at hi, wf_out0 hc]⟩
theorem WInv.out {s : Bs} {i k : Nat} {w : Bs} (h : WInv s i k w) (hi : i < s.length) (hc : char (Go.Utf8.decode ⟨s.toArray⟩ i).1 = [32]) (hw : w ≠ []) : (words s)[k]? = some w ∧ WInv s (i + (Go.Utf8.decode ⟨s.toArray⟩ i).2) (k + 1) [] := by
  obtain ⟨h1, h2⟩ := decode_width s hi
  have he := h.eq
  rw [runes_at hi, wf_out hc hw] at he
  obtain ⟨g1, g2⟩ := drop_at he
  exact ⟨g1, h2, by simp, (List.getElem?_eq_some_iff.1 g1).1, g2⟩
theorem WInv.last {s : Bs} {i k : Nat} {w : Bs} (h : WInv s i k w) (hi : ¬ i < s.length) (hw : w ≠ []) : (words s)[k]? = some w ∧ k + 1 = (words s).length := by
  have he := h.eq
  rw [runes_end (by omega), wf_end, if_neg hw] at he
  obtain ⟨g1, g2⟩ := drop_at he
  have := congrArg List.length g2
  have := (List.getElem?_eq_some_iff.1 g1).1
  simp at *
  exact ⟨g1, by omega⟩
theorem WInv.end0 {s : Bs} {i k : Nat} (h : WInv s i k []) (hi : ¬ i < s.length) : k = (words s).length := by
  have he := h.eq
  have := h.kl
  rw [runes_end (by omega), wf_end, if_pos rfl] at he
  have := congrArg List.length he
  simp at this
  omega
def total : List Bs → Nat
  | [] => 0
  | a :: r => a.length + total r
theorem wf_len : ∀ (r : List Nat) (w : Bs), (wf w r).length ≤ r.length + 1 ∧ total (wf w r) ≤ w.length + 4 * r.length
  | [], w => by
    unfold wf
    split
    · exact ⟨by simp, by simp [total]⟩
    exact ⟨by simp, by simp [total]⟩
  | c :: r, w => by
    unfold wf
    have h0 := wf_len r []
    split
    · split
      · simp only [List.length_cons, List.length_nil] at *; omega
      simp only [List.length_cons, List.length_nil, total] at *; omega
    have h1 := wf_len r (w ++ char c)
    have h2 := char_len c
    simp only [List.length_cons, List.length_append] at *; omega
theorem join_len : ∀ l : List Bs, (join l).length ≤ total l + l.length
  | [] => by simp [join]
  | [a] => by simp [join, total]
  | a :: b :: r => by
    have := join_len (b :: r)
    simp only [join, total, List.length_append, List.length_cons, List.length_nil] at *
    omega
theorem words_len (s : Bs) : (words s).length ≤ s.length + 1 ∧ (join (words s)).length ≤ 5 * s.length + 1 := by grind [words, runes, List.length_nil, wf_len, join_len, runes_len]
theorem words_each (s : Bs) : ∀ w ∈ words s, w.length ≤ 4 * s.length := by
  have h : ∀ (l : List Bs), ∀ w ∈ l, w.length ≤ total l := by
    intro l
    induction l with
    | nil => intro w hw; cases hw
    | cons a r ih =>
      intro w hw
      rcases List.mem_cons.1 hw with rfl | hw
      · simp [total]
      have := ih w hw; simp only [total]; omega
  intro w hw
  have h1 := (wf_len (runes s) []).2
  have h3 := runes_len s.length s
  have h4 := h _ w hw
  unfold words runes at *
  simp only [List.length_nil] at h1
  omega
theorem join_lib : ∀ l : List Bs, Go.Lib.join l [32] = join l
  | [] => rfl
  | [a] => Go.Lib.join_one a [32]
  | a :: b :: r => by
    have h := join_lib (b :: r)
    rw [Go.Lib.join_cons] at h ⊢
    show a ++ Go.Lib.joinTail [32] (b :: r) = a ++ [32] ++ join (b :: r)
    rw [← h]
    simp [Go.Lib.joinTail]
def tens : Bs := [48, 49, 50, 51, 52, 53, 54, 55, 56, 57]
theorem tens_digit (c : UInt8) : tens.contains c = digit c := by
  have h : ∀ n < 256, tens.contains (UInt8.ofNat n) = digit (UInt8.ofNat n) := by decide +kernel
  have := h c.toNat c.toNat_lt
  rwa [UInt8.ofNat_toNat] at this
theorem drop_keeps {p : UInt8 → Bool} {c : UInt8} : ∀ {l : Bs}, c ∈ l → p c = false → c ∈ l.dropWhile p
  | [], h, _ => by cases h
  | d :: r, h, hp => by
    rw [List.dropWhile_cons]
    split
    · rename_i hd
      rcases List.mem_cons.1 h with rfl | h
      · rw [hp] at hd; cases hd
      exact drop_keeps h hp
    exact h
theorem drop_all {p : UInt8 → Bool} : ∀ {l : Bs}, (∀ c ∈ l, p c = true) → l.dropWhile p = []
  | [], _ => rfl
  | d :: r, h => by rw [List.dropWhile_cons_of_pos (h d (.head _))]; exact drop_all fun c hc => h c (.tail _ hc)
theorem trim_digits (s : Bs) : (Go.Lib.trimS s tens == []) = digits s := by
  unfold Go.Lib.trimS Go.Lib.trimLeftS Go.Lib.trimRightS digits
  cases hd : s.all digit with
  | true =>
    have h : ∀ c ∈ s.reverse, tens.contains c = true := fun c hc => by rw [tens_digit]; exact List.all_eq_true.1 hd c (List.mem_reverse.1 hc)
    rw [drop_all h]; rfl
  | false =>
    obtain ⟨c, hc, hn⟩ : ∃ c ∈ s, digit c = false := by
      have := List.all_eq_false.1 hd
      obtain ⟨c, hc, hn⟩ := this
      exact ⟨c, hc, by simpa using hn⟩
    have h1 : tens.contains c = false := by rw [tens_digit]; exact hn
    have h2 := drop_keeps (p := (tens.contains ·)) (List.mem_reverse.2 (drop_keeps (p := (tens.contains ·)) (List.mem_reverse.2 hc) h1)) h1
    rw [beq_eq_false_iff_ne]
    intro he
    rw [he] at h2; cases h2
theorem dropLast_take (w : Bs) : w.take (w.length - 1) = w.dropLast := by rw [List.dropLast_eq_take]
theorem strip_len (w : Bs) : (strip w).length ≤ w.length + 1 := by
  unfold strip
  have h : ∀ (l : Bs) (p : UInt8 → Bool), (l.dropWhile p).length ≤ l.length := by
    intro l p
    induction l with
    | nil => simp
    | cons a r ih => rw [List.dropWhile_cons]; split <;> simp only [List.length_cons] <;> omega
  have := h w.dropLast (· == 48)
  rw [List.length_append, List.length_drop]
  rw [List.length_dropLast] at this
  omega
theorem sortWord_len (w : Bs) : (sortWord w).length ≤ w.length + 3 := by grind [sortWord, number, List.length_append, List.length_cons, List.length_nil, strip_len]
theorem sort_len (s : Bs) : (join ((words s).map sortWord)).length ≤ 8 * s.length + 4 := by
  have h1 := wf_len (runes s) []
  have h3 := runes_len s.length s
  have h2 := join_len ((words s).map sortWord)
  have h4 : ∀ l : List Bs, total (l.map sortWord) ≤ total l + 3 * l.length := by
    intro l
    induction l with
    | nil => simp [total]
    | cons a r ih =>
      have := sortWord_len a
      simp only [List.map_cons, total, List.length_cons]; omega
  have h5 := h4 (words s)
  rw [List.length_map] at h2
  unfold words runes at *
  simp only [List.length_nil] at h1
  omega
end Ke
end
section
set_option maxHeartbeats 40000000
namespace Go.Proofs.YtekmeaoblpfnpaaGreatDoor
open Go Go.Sx
theorem Len_bld (b : Nat) (l : List UInt8) (p : Bool) (g : Gs) (hg : gOk 0 1 l.length (bcs l) g) (I : Heap) : Ctr Tryz.prog 131 [ptr b 0] I (BldH b l p g) (fun e _I' H' => e = .returned (i64 l.length) ∧ H' = BldH b l p g) :=
  (Ctr.frame (gH 5 (bcs l) g) (Len_ok b _ l.length g hg I)).mono fun _ _ _ _ ⟨H1, h1, h2, h3⟩ => ⟨h2, by rw [h1, h3]; rfl⟩
theorem Reset_bld (b : Nat) (x y : Value) (R : HL) (I : Heap) : Ctr Tryz.prog 133 [ptr b 0] I ((b, cel 204 [x, y]) :: R) (fun e _I' H' => e = .returned (.tuple #[]) ∧ H' = BldH b [] false none) :=
  (Ctr.frame R (Reset_ok b x y I)).drop fun _ _ _ ⟨H1, h1, h2, h3⟩ => ⟨_, by rw [h1, h3]; exact List.sublist_append_left _ _, h2, rfl⟩
structure WSt where
  i : Nat
  w : List UInt8
  p : Bool
  g : Gs
  k : Nat
  I : Heap
  H : HL
theorem words1_ok (sb : Nat) (s : List UInt8) (hs : s.length ≤ 1000000000) (I : Heap) (hsb : I sb = some (cel 9 [str s])) : Gen Tryz.prog 127 [] [ptr sb 0] I ((Ke.words s).map fun w => [str w]) := by
 refine ⟨Enters.of Tryz.func127 (by decide) rfl, fun l Y Z hmono hYS H hY0 => ?_⟩
 refine xob Tryz.func127 fun w0 hw0 => ?_
 refine xcn (letters_ok _) ?_
 intro v2 I3 H4 hle5 hn1 hp6
 have hsb := hle5 _ _ hsb
 obtain ⟨tb, h, rfl⟩ := hp6; cases h
 have hY0 := hmono _ _ _ _ hle5 hY0
 refine J.persist (hn1 _ (.head _)) (fun I9 hle9 hT => ?_)
 have hsb := hle9 _ _ hsb
 have hY0 := hmono _ _ _ _ hle9 hY0
 refine axn 6 ?_
 intro b7 hb7
 refine axn 6 ?_
 refine J.op rfl (op_range rfl rfl rfl rfl Tryz.underlying9 ?_)
 intro b8 hb8
 refine axn 3 ?_
 refine Cj.loop (ι := WSt) (fun j => Ke.WInv s j.i j.k j.w ∧ gOk 0 1 j.w.length (bcs j.w) j.g ∧ (Tab j.I tb ∧ j.I sb = some (cel 9 [str s])) ∧ Y j.k j.I j.H) (fun j => s.length - j.i) (fun j => [(0, .func (.yield l) #[] #[]), (3, .map (some tb)), (4, ptr b7 0), (10, ptr b8 0)]) (fun j => j.I) (fun j => (b8, .stringIter ⟨s.toArray⟩ j.i) :: (BldH b7 j.w j.p j.g ++ j.H)) ⟨0, [], false, none, 0, _, H⟩ ⟨Ke.WInv.start s, ⟨rfl, rfl⟩, ⟨hT, hsb⟩, hY0⟩ ⟨rfl, rfl, rfl, rfl, trivial⟩ rfl rfl ?_
 rintro ⟨i, w, p, g, k, I, H⟩ ⟨hw, hg, ⟨hT, hsb⟩, hY⟩
 dsimp only at hw hg hT hsb hY ⊢
 have hwl := hw.wl
 have hwi := hw.le
 rcases Nat.lt_or_ge i s.length with hp | hp
 ·
  have hd := Ke.decode_width s hp
  have hdl := Ke.decode_le s i
  refine axn 2 ?_
  refine J.op rfl (op_next 0 rfl rfl rfl rfl rfl (by rw [size_mk]; omega) LSet.z ?_)
  refine xpu (fold_ok _ tb hdl _ hT) ?_
  refine axc (fun hc10 hc10p => ?_) (fun hc10 hc10p => ?_)
  ·
   have hc : Ke.char (Utf8.decode ⟨s.toArray⟩ i).1 ≠ [32] := bne_iff_ne.1 hc10
   refine axn 3 ?_
   refine J.perm (H' := BldH _ _ _ _ ++ (_ :: _)) List.perm_middle ?_
   refine J.op rfl (op_call (H1 := BldH _ _ _ _) (R := _ :: _) rfl rfl rfl rfl rfl (WriteString_ok _ w (Ke.char (Utf8.decode ⟨s.toArray⟩ i).1) p g hg (by omega) (by have := Ke.char_len (Utf8.decode ⟨s.toArray⟩ i).1; omega) _) ?_ (fun _ _ _ _ h => by cases h.1) (fun _ _ h => by cases h.1))
   intro v11 I12 H13 hle14 hp15
   have hsb := hle14 _ _ hsb
   have hT := hT.mono hle14
   obtain ⟨h, g2, hg2, rfl⟩ := hp15; cases h
   have hY := hmono _ _ _ _ hle14 hY
   refine J.perm (H' := _ :: (_ ++ _)) List.perm_middle.symm ?_
   refine axn 5 ?_
   refine Ej.round ⟨i + (Utf8.decode ⟨s.toArray⟩ i).2, w ++ Ke.char (Utf8.decode ⟨s.toArray⟩ i).1, true, g2, k, _, H⟩ ⟨hw.in hp hc, hg2, ⟨hT, hsb⟩, hY⟩ (by dsimp only; omega) ⟨rfl, rfl, rfl, rfl, trivial⟩ rfl rfl
  have hc : Ke.char (Utf8.decode ⟨s.toArray⟩ i).1 = [32] := by have h := hc10; simpa using h
  refine axn 5 ?_
  refine J.perm (H' := BldH _ _ _ _ ++ (_ :: _)) List.perm_middle ?_
  refine J.op rfl (op_call (H1 := BldH _ _ _ _) (R := _ :: _) rfl rfl rfl rfl rfl (Len_bld _ w p g hg _) ?_ (fun _ _ _ _ h => by cases h.1) (fun _ _ h => by cases h.1))
  intro v16 I17 H18 hle19 hp20
  have hsb := hle19 _ _ hsb
  have hT := hT.mono hle19
  obtain ⟨h, rfl⟩ := hp20; cases h
  have hY := hmono _ _ _ _ hle19 hY
  refine J.perm (H' := _ :: (_ ++ _)) List.perm_middle.symm ?_
  refine axh (fun hg21 => ?_) (fun hg21 => ?_)
  ·
   have hwn : w ≠ [] := fun h => by have := of_decide_eq_true hg21; rw [h] at this; simp at this
   refine axn 1 ?_
   refine J.perm (H' := BldH _ _ _ _ ++ (_ :: _)) List.perm_middle ?_
   refine J.opG 2 23 true _ rfl rfl rfl hg21 (op_call (H1 := BldH _ _ _ _) (R := _ :: _) rfl rfl rfl rfl rfl (String_ok _ w p g hg (fun h => absurd h hwn) (by omega) _) ?_ (fun _ _ _ _ h => by cases h.1) (fun _ _ h => by cases h.1))
   intro v22 I23 H24 hle25 hp26
   have hsb := hle25 _ _ hsb
   have hT := hT.mono hle25
   obtain ⟨h, y0, z0, rfl⟩ := hp26; cases h
   have hY := hmono _ _ _ _ hle25 hY
   refine J.perm (H' := _ :: (_ ++ _)) List.perm_middle.symm ?_
   refine J.yieldG [_, _] 2 23 true _ rfl rfl rfl hg21 rfl rfl rfl rfl rfl (hYS k [str w] (by rw [List.getElem?_map, (hw.out hp hc hwn).1]; rfl) _ H hY) ?_ (fun _ _ _ h => by rcases h with ⟨h, _⟩ | ⟨h, _⟩ <;> cases h) (fun _ _ h => by rcases h with ⟨h, _⟩ | ⟨h, _⟩ <;> cases h)
   intro v3 I3 H3 hle3 hp3
   have hsb := hle3 _ _ hsb
   have hT := hT.mono hle3
   obtain ⟨t3, h3, hYZ⟩ : ∃ t : Bool, v3 = .bool t ∧ ((t = true ∧ Y (k + 1) I3 H3) ∨ (t = false ∧ Z I3 H3)) := by
     rcases hp3 with ⟨h, h2⟩ | ⟨h, h2⟩
     · cases h; exact ⟨true, rfl, .inl ⟨rfl, h2⟩⟩
     cases h; exact ⟨false, rfl, .inr ⟨rfl, h2⟩⟩
   subst h3
   refine ax0 (fun hc27 => ?_) (fun hc27 => ?_)
   ·
    have hZ3 : Z I3 H3 := by
      rcases hYZ with ⟨rfl, _⟩ | ⟨_, h⟩
      · exact Bool.noConfusion hc27
      exact h
    refine axn 6 ?_
    refine Ej.keep (H' := H3) (List.Sublist.cons _ (List.Sublist.cons _ (List.Sublist.refl _))) ?_
    exact Ej.ret0 rfl rfl ⟨rfl, .inr hZ3⟩
   have hY3 : Y (k + 1) I3 H3 := by
     rcases hYZ with ⟨_, h⟩ | ⟨rfl, _⟩
     · exact h
     exact Bool.noConfusion hc27
   refine axn 3 ?_
   refine J.perm (H' := [_] ++ (_ :: _)) List.perm_middle ?_
   refine J.op rfl (op_call (H1 := [_]) (R := _ :: _) rfl rfl rfl rfl rfl (Reset_bld _ _ _ _ _) ?_ (fun _ _ _ _ h => by cases h.1) (fun _ _ h => by cases h.1))
   intro v28 I29 H30 hle31 hp32
   have hsb := hle31 _ _ hsb
   have hT := hT.mono hle31
   obtain ⟨h, rfl⟩ := hp32; cases h
   have hY3 := hmono _ _ _ _ hle31 hY3
   refine J.perm (H' := _ :: (_ ++ _)) List.perm_middle.symm ?_
   refine axn 2 ?_
   refine Ej.round ⟨i + (Utf8.decode ⟨s.toArray⟩ i).2, [], false, none, k + 1, _, H3⟩ ⟨(hw.out hp hc hwn).2, ⟨rfl, rfl⟩, ⟨hT, hsb⟩, hY3⟩ (by dsimp only; omega) ⟨rfl, rfl, rfl, rfl, trivial⟩ rfl rfl
  obtain rfl : w = [] := List.length_eq_zero_iff.1 (by have := of_decide_eq_false hg21; omega)
  refine axn 11 ?_
  refine J.perm (H' := BldH _ _ _ _ ++ (_ :: _)) List.perm_middle ?_
  refine J.op rfl (op_call (H1 := BldH _ _ _ _) (R := _ :: _) rfl rfl rfl rfl rfl (Reset_bld _ _ _ _ _) ?_ (fun _ _ _ _ h => by cases h.1) (fun _ _ h => by cases h.1))
  intro v34 I35 H36 hle37 hp38
  have hsb := hle37 _ _ hsb
  have hT := hT.mono hle37
  obtain ⟨h, rfl⟩ := hp38; cases h
  have hY := hmono _ _ _ _ hle37 hY
  refine J.perm (H' := _ :: (_ ++ _)) List.perm_middle.symm ?_
  refine axn 2 ?_
  refine Ej.round ⟨i + (Utf8.decode ⟨s.toArray⟩ i).2, [], false, none, k, _, H⟩ ⟨hw.out0 hp hc, ⟨rfl, rfl⟩, ⟨hT, hsb⟩, hY⟩ (by dsimp only; omega) ⟨rfl, rfl, rfl, rfl, trivial⟩ rfl rfl
  
 refine axn 2 ?_
 refine J.op rfl (op_nextEnd 0 rfl rfl rfl rfl rfl (by rw [size_mk]; omega) ?_)
 refine axn 12 ?_
 refine J.perm (H' := BldH _ _ _ _ ++ (_ :: _)) List.perm_middle ?_
 refine J.op rfl (op_call (H1 := BldH _ _ _ _) (R := _ :: _) rfl rfl rfl rfl rfl (Len_bld _ w p g hg _) ?_ (fun _ _ _ _ h => by cases h.1) (fun _ _ h => by cases h.1))
 intro v40 I41 H42 hle43 hp44
 have hsb := hle43 _ _ hsb
 have hT := hT.mono hle43
 obtain ⟨h, rfl⟩ := hp44; cases h
 have hY := hmono _ _ _ _ hle43 hY
 refine J.perm (H' := _ :: (_ ++ _)) List.perm_middle.symm ?_
 refine axc (fun hc45 hc45p => ?_) (fun hc45 hc45p => ?_)
 ·
  have hwn : w ≠ [] := fun h => by have := of_decide_eq_true hc45; rw [h] at this; simp at this
  refine axn 2 ?_
  refine J.perm (H' := BldH _ _ _ _ ++ (_ :: _)) List.perm_middle ?_
  refine J.op rfl (op_call (H1 := BldH _ _ _ _) (R := _ :: _) rfl rfl rfl rfl rfl (String_ok _ w p g hg (fun h => absurd h hwn) (by omega) _) ?_ (fun _ _ _ _ h => by cases h.1) (fun _ _ h => by cases h.1))
  intro v46 I47 H48 hle49 hp50
  have hsb := hle49 _ _ hsb
  have hT := hT.mono hle49
  obtain ⟨h, y0, z0, rfl⟩ := hp50; cases h
  have hY := hmono _ _ _ _ hle49 hY
  refine J.perm (H' := _ :: (_ ++ _)) List.perm_middle.symm ?_
  refine J.yield [_, _] rfl rfl rfl rfl rfl rfl (hYS k [str w] (by rw [List.getElem?_map, (hw.last (by omega) hwn).1]; rfl) _ H hY) ?_ (fun _ _ _ h => by rcases h with ⟨h, _⟩ | ⟨h, _⟩ <;> cases h) (fun _ _ h => by rcases h with ⟨h, _⟩ | ⟨h, _⟩ <;> cases h)
  intro v3 I3 H3 hle3 hp3
  have hsb := hle3 _ _ hsb
  have hT := hT.mono hle3
  refine axn 1 ?_
  refine Ej.keep (H' := H3) (List.Sublist.cons _ (List.Sublist.cons _ (List.Sublist.refl _))) ?_
  refine Ej.end0 rfl rfl ⟨rfl, ?_⟩
  rcases hp3 with ⟨_, h2⟩ | ⟨_, h2⟩
  · refine .inl ?_
    rw [List.length_map, ← (hw.last (by omega) hwn).2]; exact h2
  exact .inr h2
 obtain rfl : w = [] := List.length_eq_zero_iff.1 (by have := of_decide_eq_false hc45; omega)
 refine axn 1 ?_
 refine Ej.keep (H' := H) (List.Sublist.cons _ (List.sublist_append_right _ _)) ?_
 refine Ej.end0 rfl rfl ⟨rfl, .inl ?_⟩
 rw [List.length_map, ← hw.end0 (by omega)]; exact hY
end Go.Proofs.YtekmeaoblpfnpaaGreatDoor
end
section
set_option maxHeartbeats 40000000
namespace Go.Proofs.YtekmeaoblpfnpaaGreatDoor
open _root_.Go.Proofs.Tryz
open Go Go.Sx
theorem Join_ok (l : List (List UInt8)) (v : Value) (hl : l.length ≤ 1000000000000) (hj : (Ke.join l).length ≤ 1000000000000) (I : Heap) (hv : StrS 9 I l v) : Pure Tryz.prog 203 [v, str [32]] I (str (Ke.join l)) := by
  rcases hv with ⟨rfl, rfl⟩ | ⟨b, c, sp, rfl, hc, hb⟩
  · exact Pure.of_same (Enters.of func203 (by decide) rfl) fun w _ => (Tryz.strings_Join_none none 0 ⟨#[32]⟩ w).mono fun e w' ⟨h1, h2⟩ => ⟨by rw [h1]; rfl, h2⟩
  refine Pure.of_below (Enters.of func203 (by decide) rfl) fun w hw => ?_
  have hbw := hw.1 _ _ hb
  have hblt : b < w.heap.size := by
    rcases Nat.lt_or_ge b w.heap.size with h' | h'
    · exact h'
    simp [Array.getElem?_eq_none h'] at hbw
  have hmap : (l.map fun x => (⟨x.toArray⟩ : ByteArray)).map (fun x => x.data.toList) = l := by
    rw [List.map_map]; exact (List.map_congr_left fun x _ => by simp).trans (List.map_id l)
  have hjoin : Lib.join l [32] = Ke.join l := Ke.join_lib l
  have h := Tryz.strings_Join b 0 c (l.map fun x => ⟨x.toArray⟩) ⟨#[32]⟩ w (fun j x hx => by
    rw [List.getElem?_map] at hx
    cases hj : l[j]? with
    | none => rw [hj] at hx; cases hx
    | some y =>
      rw [hj] at hx; cases hx
      rw [Nat.zero_add]
      exact cell_of_heap hbw (str_get hj)) hblt (by simp; omega) (by simpa using hc) (by rw [hmap, show (⟨#[32]⟩ : ByteArray).data.toList = [32] from rfl, hjoin]; omega)
  rw [hmap, show (⟨#[32]⟩ : ByteArray).data.toList = [32] from rfl, hjoin, List.length_map] at h
  exact h
theorem words_ok (s : List UInt8) (I : Heap) : Ctr Tryz.prog 76 [str s] I [] (fun e _I' H' => ∃ b, e = .returned (.func (.func 127) #[] #[ptr b 0]) ∧ H' = [(b, cel 9 [str s])]) := by
 refine xob func76 fun w0 hw0 => ?_
 refine axn 3 ?_
 intro b1 hb1
 refine axe ?_
 exact ⟨b1, rfl, rfl⟩
theorem take_next {l : List (List UInt8)} {k : Nat} {x : List UInt8} (h : l[k]? = some x) : (l.take (k + 1)).map str = (l.take k).map str ++ [str x] := by
  obtain ⟨hlt, hg⟩ := List.getElem?_eq_some_iff.1 h
  rw [List.take_succ_eq_append_getElem hlt, hg, List.map_append]; rfl
theorem AppendSeq_ok (ws : List (List UInt8)) (f : Nat) (fst cap : List Value) (I : Heap) (hl : ws.length ≤ 1000000000000) (hgen : Gen Tryz.prog f fst cap I (ws.map fun w => [str w])) : Ctr Tryz.prog 126 [.slice none 0 0, .func (.func f) fst.toArray cap.toArray] I []
    (fun e _I' H' => ∃ g, gOk 0 1 ws.length (ws.map str) g ∧ e = .returned (gV ws.length g) ∧ H' = gH 9 (ws.map str) g) := by
 refine Ctr.of_bodyM func126 rfl (by decide) (Nat.le_of_ble_eq_true rfl) ?_
 intro w0 hw0
 refine axn 3 ?_
 intro b1 hb1
 refine axn 10 ?_
 refine Cj.rangeFunc (ps := [7]) (H1 := [_]) (R := []) (ws.map fun w => [str w]) (fun k I' H' => k ≤ ws.length ∧ ∃ g, gOk 0 1 k ((ws.take k).map str) g ∧ H' = (b1, cel 69 [gV k g]) :: gH 9 ((ws.take k).map str) g) (fun _ _ _ => False) rfl (one_blt rfl) (seq1 _ _) rfl hgen (fun _ _ _ _ _ h => h) ⟨Nat.zero_le _, none, ⟨rfl, rfl⟩, rfl⟩ ?_ ?_ ?_
 ·
  intro l r k args I1 Hk w1 hk hle hY
  obtain ⟨x, hx, rfl⟩ := seq1_at hk
  obtain ⟨hkl, g, hg, rfl⟩ := hY
  have hlt := (List.getElem?_eq_some_iff.1 hx).1
  refine axn 3 ?_
  refine Ej.asg ?_
  refine axn 5 ?_
  intro b2 hb2
  refine J.op rfl (op_appendB 0 (Nat.zero_le _) (by' := 15) [_, _, _] rfl rfl rfl rfl rfl underlying69 (.inr ⟨_, underlying69⟩) (by kernel_rfl) sizeOf9 zeroValue9 rfl hg rfl (Src.slice (Blk.at 0 rfl) rfl rfl rfl) (by omega) ?_)
  intro g3 hg3
  refine axn 3 ?_
  refine Ej.pull (Pull.s Pull.z) ?_
  refine Ej.keep (Keeps.k (Keeps.d (Keeps.k Keeps.r))) ?_
  exact Ej.rdNormal ⟨hlt, _, by rw [take_next hx]; exact hg3, by rw [take_next hx]; rfl⟩
 ·
  intro mb4 I2 H2 hle hY
  rw [List.length_map] at hY
  obtain ⟨hkl, g, hg, rfl⟩ := hY
  rw [List.take_length] at hg
  rw [List.take_length]
  refine Ej.blkNormal (Ej.seq (Cj.sr (J.z (yl_load rfl rfl isAgg69 (Blk.at 1 rfl) rfl) ?_)))
  refine J.as ?_
  refine J.ns (Cj.ret ?_)
  refine Ej.leaveM (.inl rfl) ?_
  refine LvJ.mark 0 rfl LSet.z ?_
  refine LvJ.keep (Keeps.d (Keeps.d Keeps.r)) ?_
  exact LvJ.ret1 rfl rfl ⟨g, hg, rfl, List.append_nil _⟩
 exact fun _ _ _ _ _ hZ => hZ.elim
theorem Collect_ok (ws : List (List UInt8)) (f : Nat) (fst cap : List Value) (I : Heap) (hl : ws.length ≤ 1000000000000) (hgen : Gen Tryz.prog f fst cap I (ws.map fun w => [str w])) : Ctr Tryz.prog 75 [.func (.func f) fst.toArray cap.toArray] I []
    (fun e _I' H' => ∃ g, gOk 0 1 ws.length (ws.map str) g ∧ e = .returned (gV ws.length g) ∧ H' = gH 9 (ws.map str) g) := by
 refine xob func75 fun w0 hw0 => ?_
 refine xca (AppendSeq_ok ws f fst cap _ hl hgen) ?_
 intro v1 I2 H3 hle4 hp5
 obtain ⟨g, hg, h, rfl⟩ := hp5; cases h
 refine axe ?_
 exact ⟨g, hg, rfl, List.append_nil _⟩
theorem Words_ok (s : List UInt8) (hs : s.length ≤ 1000000000) (I : Heap) : Ctr Tryz.prog 30 [str s] I [] (fun e I' H' => ∃ v, e = .returned v ∧ StrS 9 I' (Ke.words s) v ∧ H' = []) := by
 have hwl := Ke.words_len s
 refine xob func30 fun w0 hw0 => ?_
 refine xcn (words_ok s _) ?_
 intro v2 I3 H4 hle5 hn1 hp6
 obtain ⟨sb, h, rfl⟩ := hp6; cases h
 refine J.persist (hn1 _ (.head _)) (fun I9 hle9 hsb => ?_)
 refine xcn (Collect_ok (Ke.words s) _ [] [ptr sb 0] _ (by omega) (words1_ok sb s hs _ hsb)) ?_
 intro v8 I9 H10 hle11 hn7 hp12
 have hsb := hle11 _ _ hsb
 obtain ⟨g, hg, h, rfl⟩ := hp12; cases h
 refine J.keepS (hg.base hn7) (fun I8 hle8 hv => ?_)
 refine axe ?_
 exact ⟨_, rfl, hv, rfl⟩
end Go.Proofs.YtekmeaoblpfnpaaGreatDoor
end
section
set_option maxHeartbeats 40000000
namespace Go.Proofs.YtekmeaoblpfnpaaGreatDoor
open _root_.Go.Proofs.Tryz
open Go Go.Sx
theorem ascii_of_all {l : List UInt8} (h : l.all (fun b => decide (b.toNat < 128)) = true) : ∀ (j : Nat) b, (⟨l.toArray⟩ : ByteArray).data.toList[j]? = some b → b.toNat < 128 := fun j b hb => by
  rw [ba_list] at hb
  exact of_decide_eq_true (List.all_eq_true.1 h b (List.mem_of_getElem? hb))
theorem Trim_ok (s : List UInt8) (hs : s.length ≤ 1000000000000) (I : Heap) : Pure Tryz.prog 246 [str s, str Ke.tens] I (str (Lib.trimS s Ke.tens)) :=
  Pure.of_below (Enters.of func246 (by decide) rfl) fun w _ => by
    have h := Any.strings_Trim_laid Tryz.lays160 (by kernel_rfl) ⟨s.toArray⟩ ⟨Ke.tens.toArray⟩ w (by rw [size_mk]; omega) (by decide) (ascii_of_all (by decide))
    rw [ba_list, ba_list] at h
    exact h
theorem TrimLeft0_ok (s : List UInt8) (I : Heap) : Pure Tryz.prog 202 [str s, str [48]] I (str (s.dropWhile (· == 48))) :=
  Pure.of_same (Enters.of func202 (by decide) rfl) fun w _ => by
    have h := Tryz.strings_TrimLeft_one ⟨s.toArray⟩ 48 (by decide) w
    rw [ba_list] at h
    exact h
theorem perm_back2 {a b : Nat × Obj} {G : HL} : (G ++ [a, b]).Perm (a :: (b :: G ++ [])) := by
  rw [List.append_nil]; exact List.perm_append_comm
theorem conv8 {n : Nat} (h : n < 256) : IntKind.u8.wrap (n : Int) = ((UInt8.ofNat n).toNat : Int) := by
  rw [show (UInt8.ofNat n).toNat = n by simp; omega]
  simp [IntKind.wrap, IntKind.bits, IntKind.signed]; omega
theorem take_nextM {f : List UInt8 → List UInt8} {l : List (List UInt8)} {k : Nat} {x : List UInt8} (h : l[k]? = some x) : ((l.take (k + 1)).map f).map str = ((l.take k).map f).map str ++ [str (f x)] := by
  obtain ⟨hlt, hg⟩ := List.getElem?_eq_some_iff.1 h
  rw [List.take_succ_eq_append_getElem hlt, hg, List.map_append, List.map_append]; rfl
theorem isDigits_ok (s : List UInt8) (hs : s.length ≤ 1000000000000) (I : Heap) : Pure Tryz.prog 201 [str s] I (.bool (Ke.digits s)) := by
 refine xob func201 fun w0 hw0 => ?_
 refine xpu (Trim_ok s hs _) ?_
 refine axe ?_
 exact ⟨congrArg (fun b => Ending.returned (.bool b)) (Ke.trim_digits s), rfl, rfl⟩
theorem Sort_ok (s : List UInt8) (skip : Int) (hs : s.length ≤ 100000000) (I : Heap) : Pure Tryz.prog 138 [str s, i64 skip] I (str (Ke.sortKey s skip)) := by
 refine Ctr.toPure ?_
 have hcl : (Ke.cut s skip).length ≤ s.length := by unfold Ke.cut; simp
 have hwl := Ke.words_len (Ke.cut s skip)
 have hjl := Ke.sort_len (Ke.cut s skip)
 refine Ctr.of_bodyM func138 rfl (by decide) (Nat.le_of_ble_eq_true rfl) ?_
 intro w0 hw0
 refine axn 9 ?_
 refine J.z (yl_max2 rfl rfl rfl) ?_
 refine axn 2 ?_
 refine J.z (yl_min2 rfl rfl rfl) ?_
 refine J.ev 13 (i64 (((min (max skip 0) (s.length : Int)).toNat : Nat) : Int)) rfl (congrArg i64 (by omega)) ?_
 refine J.z (yl_sliceStr (p := (min (max skip 0) (s.length : Int)).toNat) (q := s.length) rfl rfl underlying9 ⟨_, rfl⟩ rfl (by omega) (by omega)) ?_
 refine J.ev 14 (str (Ke.cut s skip)) rfl (by rw [List.take_length]; rfl) ?_
 refine axn 6 ?_
 intro b1 hb1
 refine xcn (words_ok (Ke.cut s skip) _) ?_
 intro v3 I4 H5 hle6 hn2 hp7
 obtain ⟨sb, h, rfl⟩ := hp7; cases h
 refine J.persist (hn2 _ (.head _)) (fun I9 hle9 hsb => ?_)
 refine axn 3 ?_
 refine Cj.rangeFunc (ps := [17]) (H1 := [_]) (R := []) ((Ke.words (Ke.cut s skip)).map fun w => [str w]) (fun k I' H' => k ≤ (Ke.words (Ke.cut s skip)).length ∧ ∃ g, gOk 0 1 k ((((Ke.words (Ke.cut s skip)).take k).map Ke.sortWord).map str) g ∧ H' = (b1, cel 69 [gV k g]) :: gH 9 ((((Ke.words (Ke.cut s skip)).take k).map Ke.sortWord).map str) g) (fun _ _ _ => False) rfl (one_blt rfl) (seq1 _ _) rfl (words1_ok sb _ (by omega) _ hsb) (fun _ _ _ _ _ h => h) ⟨Nat.zero_le _, none, ⟨rfl, rfl⟩, rfl⟩ ?_ ?_ ?_
 ·
  intro l r k args I1 Hk w1 hk hle hY
  have hsb := hle _ _ hsb
  obtain ⟨x, hx, rfl⟩ := seq1_at hk
  obtain ⟨hkl, g, hg, rfl⟩ := hY
  have hlt := (List.getElem?_eq_some_iff.1 hx).1
  have hxm := List.mem_of_getElem? hx
  have hxl := Ke.words_each _ x hxm
  have hxn : 0 < x.length := List.length_pos_iff.2 (Ke.words_ne _ _ x hxm)
  have hsl := Ke.strip_len x
  refine axn 3 ?_
  refine Ej.asg ?_
  refine xpu (isDigits_ok x (by omega) _) ?_
  refine ax0 (fun hc8 => ?_) (fun hc8 => ?_)
  ·
   have hdg : Ke.digits x = true := hc8
   have hsw : Ke.sortWord x = Ke.number x := by unfold Ke.sortWord; rw [hdg]; rfl
   refine axn 1 ?_
   refine Cj.drawSel [] [] 13 (by kernel_rfl) ?_
   refine axn 4 ?_
   refine JA.ev 23 (i64 ((x.length - 1 : Nat) : Int)) rfl (congrArg i64 (by omega)) ?_
   refine JA.zt 4 rfl (yl_sliceStr (p := 0) (q := x.length - 1) rfl rfl underlying9 rfl ⟨_, rfl⟩ (by omega) (by omega)) ?_
   refine JA.ev 24 (str (x.take (x.length - 1))) rfl (by rw [List.drop_zero]) ?_
   refine axn 4 ?_
   refine JA.ev 29 (i64 ((x.length - 1 : Nat) : Int)) rfl (congrArg i64 (by omega)) ?_
   refine JA.zt 10 rfl (yl_sliceStr (p := x.length - 1) (q := x.length) rfl rfl underlying9 ⟨_, rfl⟩ rfl (by omega) (by omega)) ?_
   refine JA.ev 30 (str (x.drop (x.length - 1))) rfl (by rw [List.take_length]) ?_
   refine xpu (TrimLeft0_ok (x.take (x.length - 1)) _) ?_
   refine axn 1 ?_
   refine JA.zt 11 rfl (yl_cat rfl rfl rfl (by rw [Ke.dropLast_take]; have := hsl; unfold Ke.strip at this; rw [List.length_append] at this; omega)) ?_
   refine JA.ev 31 (str (Ke.strip x)) rfl (by rw [Ke.dropLast_take]; rfl) ?_
   refine axn 7 ?_
   refine J.z (yl_min2 rfl rfl rfl) ?_
   refine J.ev 34 (i64 ((min (Ke.strip x).length 99 : Nat) : Int)) rfl (congrArg i64 (by split <;> omega)) ?_
   refine axn 5 ?_
   refine J.z (yl_quo rfl rfl rfl (by decide) (w64 (by show _ ≤ ((min (Ke.strip x).length 99 / 10 : Nat) : Int) ∧ ((min (Ke.strip x).length 99 / 10 : Nat) : Int) ≤ _; omega))) ?_
   refine J.ev 36 (i64 ((min (Ke.strip x).length 99 / 10 : Nat) : Int)) rfl rfl ?_
   refine axn 1 ?_
   refine J.ev 37 (i64 ((48 + min (Ke.strip x).length 99 / 10 : Nat) : Int)) rfl (congrArg i64 (by omega)) ?_
   refine axn 1 ?_
   refine J.ev 38 (u8 (UInt8.ofNat (48 + min (Ke.strip x).length 99 / 10))) rfl (congrArg (Value.int .u8) (conv8 (by omega))) ?_
   refine axn 2 ?_
   refine J.ev 40 (i64 ((min (Ke.strip x).length 99 % 10 : Nat) : Int)) rfl rfl ?_
   refine axn 1 ?_
   refine J.ev 41 (i64 ((48 + min (Ke.strip x).length 99 % 10 : Nat) : Int)) rfl (congrArg i64 (by omega)) ?_
   refine axn 1 ?_
   refine J.ev 42 (u8 (UInt8.ofNat (48 + min (Ke.strip x).length 99 % 10))) rfl (congrArg (Value.int .u8) (conv8 (by omega))) ?_
   refine axn 1 ?_
   intro b11 hb11
   refine J.z (yl_toStr [UInt8.ofNat (48 + min (Ke.strip x).length 99 / 10), UInt8.ofNat (48 + min (Ke.strip x).length 99 % 10)] rfl rfl rfl underlying192 underlying9 underlying5 (Blk.at 0 rfl) rfl) ?_
   refine axn 1 ?_
   refine J.z (yl_cat rfl rfl rfl (by first | omega | (simp only [List.length_append]; omega) | (simp; omega))) ?_
   refine J.ev 46 (str (Ke.number x)) rfl rfl ?_
   refine axn 7 ?_
   intro b12 hb12
   refine J.op rfl (op_appendB 0 (Nat.zero_le _) (by' := 15) [_, _, _, _] rfl rfl rfl rfl rfl underlying69 (.inr ⟨_, underlying69⟩) (by kernel_rfl) sizeOf9 zeroValue9 rfl hg rfl (Src.slice (Blk.at 0 rfl) rfl rfl rfl) (by omega) ?_)
   intro g13 hg13
   refine axn 3 ?_
   refine Ej.pull (Pull.s (Pull.s Pull.z)) ?_
   refine Ej.keep (Keeps.k (Keeps.d (Keeps.d (Keeps.k Keeps.r)))) ?_
   exact Ej.rdNormal ⟨hlt, _, by rw [take_nextM hx, hsw]; exact hg13, by rw [take_nextM hx, hsw]; rfl⟩
  have hdg : Ke.digits x = false := hc8
  have hsw : Ke.sortWord x = x := by unfold Ke.sortWord; rw [hdg]; rfl
  refine axn 6 ?_
  intro b14 hb14
  refine J.op rfl (op_appendB 0 (Nat.zero_le _) (by' := 15) [_, _, _] rfl rfl rfl rfl rfl underlying69 (.inr ⟨_, underlying69⟩) (by kernel_rfl) sizeOf9 zeroValue9 rfl hg rfl (Src.slice (Blk.at 0 rfl) rfl rfl rfl) (by omega) ?_)
  intro g15 hg15
  refine axn 3 ?_
  refine Ej.pull (Pull.s Pull.z) ?_
  refine Ej.keep (Keeps.k (Keeps.d (Keeps.k Keeps.r))) ?_
  exact Ej.rdNormal ⟨hlt, _, by rw [take_nextM hx, hsw]; exact hg15, by rw [take_nextM hx, hsw]; rfl⟩
 ·
  intro mb16 I2 H2 hle hY
  have hsb := hle _ _ hsb
  rw [List.length_map] at hY
  obtain ⟨hkl, g, hg, rfl⟩ := hY
  rw [List.take_length] at hg
  rw [show (Ke.words (Ke.cut s skip)).take (Ke.words (Ke.cut s skip)).length = Ke.words (Ke.cut s skip) from List.take_length]
  refine axn 3 ?_
  refine Cj.isNew rfl (fun hnew => ?_)
  refine Cj.perm (H' := gH _ _ _ ++ [_, _]) perm_back2 ?_
  refine Cj.keepS (hg.base (fun p hp => hnew p (.tail _ (.tail _ (List.mem_append_left _ hp))))) (fun I8 hle8 hv => ?_)
  refine xpu (Join_ok ((Ke.words (Ke.cut s skip)).map Ke.sortWord) _ (by rw [List.length_map]; omega) (by omega) _ hv) ?_
  refine axn 4 ?_
  refine Ej.leaveM (.inl rfl) ?_
  refine LvJ.mark 0 rfl LSet.z ?_
  refine LvJ.keep (List.nil_sublist _) ?_
  exact LvJ.ret1 rfl rfl ⟨rfl, rfl⟩
 exact fun _ _ _ _ _ hZ => hZ.elim
end Go.Proofs.YtekmeaoblpfnpaaGreatDoor
end
section
set_option maxHeartbeats 40000000
namespace Go.Proofs.YtekmeaoblpfnpaaGreatDoor
open _root_.Go.Proofs.Tryz
open Go Go.Sx
theorem validRune_is (r : Int) (h : Lib.validRune r = true) : Utf8.valid r = true := by
  unfold Lib.validRune at h; unfold Utf8.valid; simp at h ⊢; omega
theorem ValidRune_ok (r : Int) (I : Heap) : ∃ b, Pure Tryz.prog 268 [.int .i32 r] I (.bool b) ∧ (b = true → Utf8.valid r = true) :=
  ⟨_, Pure.of_same (Enters.of func268 (by decide) rfl) fun w _ => Tryz.utf8_ValidRune r w, validRune_is r⟩
theorem IndexByte_ok (l : List UInt8) (c : UInt8) (I : Heap) : Pure Tryz.prog 217 [str l, u8 c] I (i64 (Lib.indexByte l c)) :=
  Pure.of_same (Enters.of func217 (by decide) rfl) fun w _ => by
    have h := Tryz.strings_IndexByte ⟨l.toArray⟩ c.toNat w
    have e : ((c.toNat : Int)).toNat.toUInt8 = c := by simp
    rw [ba_list, e] at h
    exact h
theorem indexByte_none {l : List UInt8} {c : UInt8} (h : ∀ d ∈ l, d.toNat < 128) (hc : 128 ≤ c.toNat) : Lib.indexByte l c = -1 := by
  induction l with
  | nil => rfl
  | cons d l ih =>
    have hd := h d (.head _)
    have hn : (d == c) = false := by rw [beq_eq_false_iff_ne]; intro e; subst e; omega
    rw [Lib.indexByte, hn, ih fun x hx => h x (.tail _ hx)]; rfl
theorem enc_last {r : Int} (hv : Utf8.valid r = true) (h128 : 128 ≤ r) : 2 ≤ (Utf8.encode r).data.toList.length ∧ (Utf8.encode r).data.toList.length ≤ 4 ∧ ∃ c, (Utf8.encode r).data.toList[(Utf8.encode r).data.toList.length - 1]? = some c ∧ 128 ≤ c.toNat := by
  obtain ⟨h1, h2, h3⟩ := encode_facts r hv h128
  have hs : (Utf8.encode r).data.toList.length = (Utf8.encode r).size := rfl
  rw [hs]
  have hlt : (Utf8.encode r).size - 1 < (Utf8.encode r).size := by omega
  exact ⟨h1, h2, _, Lib.data_getElem? (Utf8.encode r) _ hlt, h3 hlt⟩
theorem dec_ascii {l : List UInt8} {i : Nat} {c : UInt8} (h : l[i]? = some c) (hc : c.toNat < 128) : Utf8.decode ⟨l.toArray⟩ i = (c.toNat, 1) := by
  obtain ⟨hlt, hg⟩ := List.getElem?_eq_some_iff.1 h
  have hs : i < (⟨l.toArray⟩ : ByteArray).size := by rw [size_mk]; exact hlt
  have he : (⟨l.toArray⟩ : ByteArray)[i]'hs = c := by simp [ByteArray.getElem_eq_getElem_data, hg]
  rw [decode_ascii _ _ hs (by rw [he]; exact hc), he]
theorem IndexRune_high (ch : List UInt8) (hch : ∀ c ∈ ch, c.toNat < 128) (h4 : 4 ≤ ch.length) (hlen : ch.length ≤ 1000000) (r : Int) (h128 : 128 ≤ r) (hr : r ≤ 2147483647) (I : Heap) : Pure Tryz.prog 239 [str ch, .int .i32 r] I (i64 (-1)) := by
 refine Ctr.toPure ?_
 obtain ⟨bv, hval⟩ := ValidRune_ok r I
 refine xob func239 fun w0 hw0 => ?_
 refine axn 11 ?_
 refine J.opG 2 163 true _ rfl rfl rfl (decide_eq_true (by omega)) (op_yld q2 rfl rfl ?_)
 refine J.opG 2 163 true _ rfl rfl rfl (decide_eq_true (by omega)) (op_yld (yl_lss rfl rfl rfl) rfl rfl ?_)
 refine J.z (yl_pick1 rfl rfl (decide_eq_true (by omega)) rfl) ?_
 refine axn 3 ?_
 refine Cj.cond rfl (fun hc1 => Bool.noConfusion (Eq.trans (Eq.symm (decide_eq_false (by omega))) hc1)) (fun hc1 => ?_)
 refine axc (fun hc2 hc2p => ?_) (fun hc2 hc2p => ?_)
 ·
  refine axn 4 ?_
  refine J.op rfl (op_range rfl rfl rfl rfl underlying9 ?_)
  intro b3 hb3
  refine axn 3 ?_
  refine Cj.loop (ι := Nat) (fun i => True) (fun i => ch.length - i) (fun i => [(0, str ch), (1, .int .i32 r), (174, str ch), (175, ptr b3 0)]) (fun i => I) (fun i => [(b3, .stringIter ⟨ch.toArray⟩ i)]) 0 trivial ⟨rfl, rfl, rfl, rfl, trivial⟩ rfl rfl ?_
  rintro i -
  rcases Nat.lt_or_ge i ch.length with hp | hp
  ·
   obtain ⟨c, hget⟩ : ∃ c, ch[i]? = some c := ⟨_, List.getElem?_eq_getElem hp⟩
   have hdec := dec_ascii hget (hch c (List.mem_of_getElem? hget))
   refine axn 2 ?_
   refine J.op rfl (op_next 0 rfl rfl rfl rfl rfl (by rw [size_mk]; omega) LSet.z ?_)
   refine axn 22 ?_
   refine Cj.cond rfl (fun hc5 => Bool.noConfusion (Eq.trans (Eq.symm (beq_eq_false_iff_ne.2 (by rw [hdec]; dsimp only; have := hch c (List.mem_of_getElem? hget); omega))) hc5)) (fun hc5 => ?_)
   refine axn 2 ?_
   refine Ej.round (i + (Utf8.decode ⟨ch.toArray⟩ i).2) trivial (by rw [hdec]; dsimp only; omega) ⟨rfl, rfl, rfl, rfl, trivial⟩ rfl rfl
   
  refine axn 2 ?_
  refine J.op rfl (op_nextEnd 0 rfl rfl rfl rfl rfl (by rw [size_mk]; omega) ?_)
  refine axr ?_
  exact ⟨rfl, rfl⟩
 refine xpu (hval.1) ?_
 refine ax0 (fun hc7 => ?_) (fun hc7 => ?_)
 ·
  refine axe ?_
  exact ⟨rfl, rfl⟩
 have hvr : Utf8.valid r = true := hval.2 (by simpa using hc7)
 obtain ⟨hl2, hl4, c2, hget2, hc2⟩ := enc_last hvr h128
 obtain ⟨c1, hget1⟩ : ∃ c, ch[(Utf8.encode r).data.toList.length - 1]? = some c := ⟨_, List.getElem?_eq_getElem (by omega)⟩
 have hc1 := hch c1 (List.mem_of_getElem? hget1)
 have hne : (c1.toNat : Int) ≠ c2.toNat := by omega
 have hcut : ∀ d ∈ (ch.take ch.length).drop ((Utf8.encode r).data.toList.length - 1 + 1), d.toNat < 128 := fun d hd => hch d (List.mem_of_mem_take (List.mem_of_mem_drop hd))
 refine Cj.scope ?_
 refine axn 28 ?_
 refine Cj.loop (ι := Unit) (fun i => True) (fun i => 0) (fun i => [(0, str ch), (7, str (Utf8.encode r).data.toList), (8, i64 ((Utf8.encode r).data.toList.length - 1 : Int)), (9, i64 ((Utf8.encode r).data.toList.length - 1 : Int))]) (fun i => I) (fun i => []) () trivial ⟨rfl, rfl, rfl, rfl, trivial⟩ rfl rfl ?_
 rintro _ -
 refine axn 9 ?_
 refine Cj.cond rfl (fun hc8 => ?_) (fun hc8 => Bool.noConfusion (Eq.trans (Eq.symm (decide_eq_true (by omega))) hc8))
 refine axn 3 ?_
 refine Cj.scope ?_
 refine axn 2 ?_
 refine Cj.drawSel [] [] 7 (by kernel_rfl) ?_
 refine axn 2 ?_
 refine JA.zt 2 rfl (yl_index rfl rfl rfl underlying9 (by omega) (by rw [show ((((Utf8.encode r).data.toList.length : Int) - 1).toNat) = (Utf8.encode r).data.toList.length - 1 by omega]; exact hget1)) ?_
 refine axn 2 ?_
 refine JA.zt 5 rfl (yl_index rfl rfl rfl underlying9 (by omega) (by rw [show ((((Utf8.encode r).data.toList.length : Int) - 1).toNat) = (Utf8.encode r).data.toList.length - 1 by omega]; exact hget2)) ?_
 refine axn 3 ?_
 refine Cj.cond rfl (fun hc10 => ?_) (fun hc10 => Bool.noConfusion (Eq.trans (Eq.symm (bne_iff_ne.2 hne)) hc10))
 refine axn 1 ?_
 refine Cj.drawSel [] [] 9 (by kernel_rfl) ?_
 refine axn 3 ?_
 refine JA.ev 36 (i64 ((Utf8.encode r).data.toList.length - 1 + 1 : Nat)) rfl (by congr 1; omega) ?_
 refine JA.zt 3 rfl (yl_sliceStr (p := (Utf8.encode r).data.toList.length - 1 + 1) (q := ch.length) rfl rfl underlying9 ⟨_, rfl⟩ rfl (by omega) (by omega)) ?_
 refine axn 2 ?_
 refine JA.zt 6 rfl (yl_index rfl rfl rfl underlying9 (by omega) (by rw [show ((((Utf8.encode r).data.toList.length : Int) - 1).toNat) = (Utf8.encode r).data.toList.length - 1 by omega]; exact hget2)) ?_
 refine xpu (IndexByte_ok _ _ _) ?_
 refine axn 1 ?_
 refine JA.ev 41 (i64 (-1)) rfl (by rw [indexByte_none hcut hc2]) ?_
 refine axn 10 ?_
 refine Cj.cond rfl (fun hc13 => ?_) (fun hc13 => Bool.noConfusion (Eq.trans (Eq.symm (decide_eq_true (by omega))) hc13))
 refine axn 8 ?_
 refine Ej.scRet ?_
 refine axn 4 ?_
 refine Ej.scRet ?_
 refine axe ?_
 exact ⟨rfl, rfl⟩
theorem ContainsRune_high (ch : List UInt8) (hch : ∀ c ∈ ch, c.toNat < 128) (h4 : 4 ≤ ch.length) (hlen : ch.length ≤ 1000000) (r : Int) (h128 : 128 ≤ r) (hr : r ≤ 2147483647) (I : Heap) : Pure Tryz.prog 195 [str ch, .int .i32 r] I (.bool false) := by
 refine xob func195 fun w0 hw0 => ?_
 refine xpu (IndexRune_high ch hch h4 hlen r h128 hr _) ?_
 refine axe ?_
 exact ⟨rfl, rfl, rfl⟩
def bset : List UInt8 := [48, 49, 50, 51, 52, 53, 54, 55, 56, 57, 88, 120, 32, 45]
theorem bset_okb (c : UInt8) : decide (0 ≤ Lib.indexByte bset c) = Ke.okb c := by
  have h : ∀ n < 256, decide (0 ≤ Lib.indexByte bset (UInt8.ofNat n)) = Ke.okb (UInt8.ofNat n) := by decide +kernel
  have := h c.toNat c.toNat_lt
  rwa [UInt8.ofNat_toNat] at this
def okr (r : Nat) : Bool := decide (r < 128) && Ke.okb (UInt8.ofNat r)
theorem ContainsSet_ok (r : Nat) (hr : r ≤ 1114111) (I : Heap) : Pure Tryz.prog 195 [str bset, .int .i32 (r : Int)] I (.bool (okr r)) := by
  rcases Nat.lt_or_ge r 128 with h | h
  · refine Pure.of_same (Enters.of func195 (by decide) rfl) fun w _ => ?_
    have h1 := Tryz.strings_ContainsRune_ascii ⟨bset.toArray⟩ (r : Int) w (by omega) (by omega)
    have e : ((r : Int)).toNat.toUInt8 = UInt8.ofNat r := rfl
    rw [ba_list, e, bset_okb] at h1
    have e2 : okr r = Ke.okb (UInt8.ofNat r) := by simp [okr, h]
    rw [e2]; exact h1
  have e2 : okr r = false := by simp [okr]; omega
  rw [e2]
  exact ContainsRune_high bset (by decide) (by decide) (by decide) (r : Int) (by omega) (by omega) I
theorem Isbn1_ok (r : Nat) (hr : r ≤ 1114111) (I : Heap) : Pure Tryz.prog 194 [.int .i32 (r : Int)] I (.bool (!okr r)) := by
 refine xob func194 fun w0 hw0 => ?_
 refine xpu (ContainsSet_ok r hr _) ?_
 refine axe ?_
 exact ⟨rfl, rfl, rfl⟩
theorem dec_big {l : List UInt8} {i : Nat} {c : UInt8} (h : l[i]? = some c) (hc : 128 ≤ c.toNat) : 128 ≤ (Utf8.decode ⟨l.toArray⟩ i).1 := by
  have h1 : Lib.decodeL (l.drop i) = Utf8.decode ⟨l.toArray⟩ i := Lib.decodeL_drop ⟨l.toArray⟩ i
  rw [← h1, drop_cons h, Lib.decodeL_N]
  simp only [List.getD_cons_zero]
  unfold Lib.decodeN
  rw [if_neg (by omega)]
  split
  · split
    · assumption
    decide
  split
  · split
    · rename_i h2; exact Nat.le_trans (by decide) h2.1
    decide
  split
  · split
    · rename_i h2; exact Nat.le_trans (by decide) h2.1
    decide
  decide
theorem rune_ok {l : List UInt8} {i : Nat} {c : UInt8} (h : l[i]? = some c) (hok : okr (Utf8.decode ⟨l.toArray⟩ i).1 = true) : Ke.okb c = true ∧ (Utf8.decode ⟨l.toArray⟩ i).2 = 1 := by
  rcases Nat.lt_or_ge c.toNat 128 with hc | hc
  · rw [dec_ascii h hc] at hok ⊢
    simp only [okr, Bool.and_eq_true, UInt8.ofNat_toNat] at hok
    exact ⟨hok.2, rfl⟩
  have := dec_big h hc
  simp only [okr, Bool.and_eq_true, decide_eq_true_eq] at hok
  omega
theorem rune_bad {l : List UInt8} {i : Nat} {c : UInt8} (h : l[i]? = some c) (hok : okr (Utf8.decode ⟨l.toArray⟩ i).1 = false) : Ke.okb c = false := by
  rcases Nat.lt_or_ge c.toNat 128 with hc | hc
  · rw [dec_ascii h hc] at hok
    simpa [okr, hc] using hok
  have h1 : ∀ n < 256, 128 ≤ n → Ke.okb (UInt8.ofNat n) = false := by decide +kernel
  have := h1 c.toNat c.toNat_lt hc
  rwa [UInt8.ofNat_toNat] at this
theorem all_next {l : List UInt8} {i : Nat} {c : UInt8} (h : (l.take i).all Ke.okb = true) (hc : l[i]? = some c) (hok : Ke.okb c = true) : (l.take (i + 1)).all Ke.okb = true := by
  obtain ⟨hlt, hg⟩ := List.getElem?_eq_some_iff.1 hc
  rw [List.take_succ_eq_append_getElem hlt, hg, List.all_append, h]
  simp [hok]
theorem take_while {l : List UInt8} : ∀ {i : Nat} {c : UInt8}, (l.take i).all Ke.okb = true → l[i]? = some c → Ke.okb c = false → l.takeWhile Ke.okb = l.take i := by
  induction l with
  | nil => intro i c _ h; simp at h
  | cons a r ih =>
    intro i c h hc hok
    cases i with
    | zero => simp at hc; subst hc; rw [List.takeWhile_cons_of_neg (by simp [hok])]; rfl
    | succ i =>
      simp only [List.take_succ_cons, List.all_cons, Bool.and_eq_true] at h
      rw [List.takeWhile_cons_of_pos h.1, ih h.2 (by simpa using hc) hok, List.take_succ_cons]
theorem take_while_all {l : List UInt8} (h : l.all Ke.okb = true) : l.takeWhile Ke.okb = l := by
  induction l with
  | nil => rfl
  | cons a r ih =>
    rw [List.all_cons, Bool.and_eq_true] at h
    rw [List.takeWhile_cons_of_pos h.1, ih h.2]
def endsAt (s : List UInt8) (n : Int) : Prop := (n = -1 ∧ s.takeWhile Ke.okb = s) ∨ ∃ k : Nat, n = k ∧ k ≤ s.length ∧ s.takeWhile Ke.okb = s.take k
theorem indexFunc_ok (s : List UInt8) (I : Heap) : Ctr Tryz.prog 238 [str s, .func (.func 194) #[] #[], .bool true] I [] (fun e _I' H' => ∃ n, e = .returned (i64 n) ∧ endsAt s n ∧ H' = []) := by
 refine xob func238 fun w0 hw0 => ?_
 refine axn 9 ?_
 refine J.op rfl (op_range rfl rfl rfl rfl underlying9 ?_)
 intro b1 hb1
 refine axn 3 ?_
 refine Cj.loop (ι := Nat) (fun i => i ≤ s.length ∧ (s.take i).all Ke.okb = true) (fun i => s.length - i) (fun i => [(1, .func (.func 194) #[] #[]), (2, .bool true), (10, ptr b1 0)]) (fun i => I) (fun i => [(b1, .stringIter ⟨s.toArray⟩ i)]) 0 ⟨Nat.zero_le _, rfl⟩ ⟨rfl, rfl, rfl, trivial⟩ rfl rfl ?_
 rintro i ⟨hi, hall⟩
 rcases Nat.lt_or_ge i s.length with hp | hp
 ·
  have hd := Ke.decode_width s hp
  have hdl := Ke.decode_le s i
  obtain ⟨c, hget⟩ : ∃ c, s[i]? = some c := ⟨_, List.getElem?_eq_getElem hp⟩
  refine axn 2 ?_
  refine J.op rfl (op_next 0 rfl rfl rfl rfl rfl (by rw [size_mk]; omega) LSet.z ?_)
  refine xpu (Isbn1_ok _ hdl _) ?_
  refine ax0 (fun hc3 => ?_) (fun hc3 => ?_)
  ·
   have hok : okr (Utf8.decode ⟨s.toArray⟩ i).1 = false := by have h := hc3; simpa using h
   refine axr ?_
   exact ⟨_, rfl, .inr ⟨i, rfl, hi, take_while hall hget (rune_bad hget hok)⟩, rfl⟩
  have hok : okr (Utf8.decode ⟨s.toArray⟩ i).1 = true := by have h := hc3; simpa using h
  refine axn 2 ?_
  refine Ej.round (i + (Utf8.decode ⟨s.toArray⟩ i).2) ⟨hd.2, by rw [(rune_ok hget hok).2]; exact all_next hall hget (rune_ok hget hok).1⟩ (by omega) ⟨rfl, rfl, rfl, trivial⟩ rfl rfl
  
 refine axn 2 ?_
 refine J.op rfl (op_nextEnd 0 rfl rfl rfl rfl rfl (by rw [size_mk]; omega) ?_)
 refine axr ?_
 exact ⟨_, rfl, .inl ⟨rfl, take_while_all (by rw [List.take_of_length_le (by omega)] at hall; exact hall)⟩, rfl⟩
theorem IndexFunc_ok (s : List UInt8) (I : Heap) : Ctr Tryz.prog 193 [str s, .func (.func 194) #[] #[]] I [] (fun e _I' H' => ∃ n, e = .returned (i64 n) ∧ endsAt s n ∧ H' = []) := by
 refine xob func193 fun w0 hw0 => ?_
 refine xca (indexFunc_ok s _) ?_
 intro v1 I2 H3 hle4 hp5
 obtain ⟨n, h, hn, rfl⟩ := hp5; cases h
 refine axe ?_
 exact ⟨_, rfl, hn, rfl⟩
end Go.Proofs.YtekmeaoblpfnpaaGreatDoor
end
section
set_option maxHeartbeats 40000000
namespace Go.Proofs.YtekmeaoblpfnpaaGreatDoor
open _root_.Go.Proofs.Tryz
open Go Go.Sx
theorem bcs_at {l : List UInt8} {sp : List Value} {k : Nat} {c : UInt8} (h : l[k]? = some c) : (bcs l ++ sp)[k]? = some (u8 c) := by
  obtain ⟨hlt, _⟩ := List.getElem?_eq_some_iff.1 h
  rw [List.getElem?_append_left (by rw [bcs_len]; exact hlt), bcs, List.getElem?_map, h]; rfl
theorem w8 {x : Int} (h : 0 ≤ x ∧ x ≤ 255) : IntKind.u8.wrap x = x := by
  simp [IntKind.wrap, IntKind.bits, IntKind.signed]; omega
theorem csum_le : ∀ (l : List UInt8) (k : Nat), Ke.csum k l ≤ 1000 * l.length
  | [], _ => by simp [Ke.csum]
  | c :: r, k => by
    have h1 := csum_le r (k + 1)
    have h2 := c.toNat_lt
    have h3 : (c.toNat - 48) * (1 + 2 * (k % 2)) ≤ 255 * 3 := Nat.mul_le_mul (by omega) (by omega)
    simp only [Ke.csum, List.length_cons]; omega
theorem csum_next {l : List UInt8} {k : Nat} {c : UInt8} (h : l[k]? = some c) : Ke.csum 0 (l.take (k + 1)) = Ke.csum 0 (l.take k) + (c.toNat - 48) * (1 + 2 * (k % 2)) := by
  obtain ⟨hlt, hg⟩ := List.getElem?_eq_some_iff.1 h
  rw [List.take_succ_eq_append_getElem hlt, hg, Ke.csum_app, Ke.csum, Ke.csum, List.length_take, Nat.min_eq_left (by omega), Nat.zero_add, Nat.add_zero]
theorem val_le (c : UInt8) : Ke.val c ≤ 255 := by
  have h2 := c.toNat_lt
  unfold Ke.val; split <;> omega
theorem rsum_le : ∀ (l : List UInt8) (k : Nat), Ke.rsum k l ≤ 2550 * l.length
  | [], _ => by simp [Ke.rsum]
  | c :: r, k => by
    have h1 := rsum_le r (k + 1)
    have h3 : (10 - k) * Ke.val c ≤ 10 * 255 := Nat.mul_le_mul (by omega) (val_le c)
    simp only [Ke.rsum, List.length_cons]; omega
theorem rsum_next {l : List UInt8} {k : Nat} {c : UInt8} (h : l[k]? = some c) : Ke.rsum 0 (l.take (k + 1)) = Ke.rsum 0 (l.take k) + (10 - k) * Ke.val c := by
  obtain ⟨hlt, hg⟩ := List.getElem?_eq_some_iff.1 h
  rw [List.take_succ_eq_append_getElem hlt, hg, Ke.rsum_app, Ke.rsum, Ke.rsum, List.length_take, Nat.min_eq_left (by omega), Nat.zero_add, Nat.add_zero]
theorem digits_at {l : List UInt8} {k : Nat} {c : UInt8} (hd : Ke.digits l = true) (h : l[k]? = some c) : 48 ≤ c.toNat ∧ c.toNat ≤ 57 := Ke.digit_iff.1 (List.all_eq_true.1 hd c (List.mem_of_getElem? h))
theorem check_ok (s : List UInt8) (h12 : 12 ≤ s.length) (hs : s.length ≤ 1000000) (hd : Ke.digits (s.take 12) = true) (I : Heap) : Pure Tryz.prog 200 [str s] I (u8 (Ke.check s)) := by
 refine Ctr.toPure ?_
 have hul : (s.take 12).length = 12 := by rw [List.length_take]; omega
 refine xob func200 fun w0 hw0 => ?_
 refine axn 14 ?_
 refine J.z (yl_sliceStr (p := 0) (q := 12) rfl rfl underlying9 rfl ⟨_, rfl⟩ (by omega) (by omega)) ?_
 refine J.ev 7 (str (s.take 12)) rfl (by rw [List.drop_zero]) ?_
 refine J.op rfl (op_toBytes rfl rfl rfl rfl underlying9 underlying192 underlying5 ?_)
 intro b1 c2 sp3 fr4 hb1 hfr4
 refine axn 5 ?_
 refine Cj.loop (ι := Nat) (fun j => j ≤ (s.take 12).length) (fun j => (s.take 12).length - j) (fun j => [(0, str s), (3, i64 ((Ke.csum 0 ((s.take 12).take j) : Nat) : Int)), (8, .slice (some ⟨b1, 0, none⟩) (s.take 12).length c2), (9, i64 ((s.take 12).length : Int)), (10, i64 (j : Int))]) (fun j => I) (fun j => [(b1, .cells (bcs (s.take 12) ++ sp3).toArray 5 (fr4, fr4 + 1))]) 0 (Nat.zero_le _) ⟨rfl, rfl, rfl, rfl, rfl, trivial⟩ rfl rfl ?_
 intro j hj
 have hsl := csum_le ((s.take 12).take j) 0
 rw [List.length_take, Nat.min_eq_left hj] at hsl
 refine axc (fun hc5 hc5p => ?_) (fun hc5 hc5p => ?_)
 ·
  have hlt : j < (s.take 12).length := by omega
  obtain ⟨c, hget⟩ : ∃ c, (s.take 12)[j]? = some c := ⟨_, List.getElem?_eq_getElem hlt⟩
  have hc := digits_at hd hget
  have hm : (c.toNat - 48) * (1 + 2 * (j % 2)) ≤ 9 * 3 := Nat.mul_le_mul (by omega) (by omega)
  refine xix j ?_
  refine J.z (yl_load rfl rfl isAgg5 (Blk.at 0 rfl) (bcs_at hget)) ?_
  refine axn 7 ?_
  refine J.z (yl_sub rfl rfl rfl (w8 (by omega))) ?_
  refine axn 1 ?_
  refine J.ev 18 (i64 ((c.toNat - 48 : Nat) : Int)) rfl (congrArg i64 ((w64 (by omega)).trans (by omega))) ?_
  refine axn 2 ?_
  refine J.ev 20 (i64 ((j % 2 : Nat) : Int)) rfl rfl ?_
  refine axn 2 ?_
  refine J.ev 22 (i64 ((1 + 2 * (j % 2) : Nat) : Int)) rfl (congrArg i64 (by omega)) ?_
  refine J.z (yl_mul rfl rfl rfl (w64 (by rw [← Int.natCast_mul]; omega))) ?_
  refine J.ev 23 (i64 (((c.toNat - 48) * (1 + 2 * (j % 2)) : Nat) : Int)) rfl (congrArg i64 (Int.natCast_mul _ _).symm) ?_
  refine axn 9 ?_
  refine Ej.round (j + 1) (by omega) (by omega) ⟨rfl, by rw [csum_next hget]; exact congrArg (fun z => some (Value.int .i64 z)) (by omega), rfl, rfl, rfl, trivial⟩ rfl rfl
 have hfull : (s.take 12).take j = s.take 12 := List.take_of_length_le (by omega)
 refine axn 9 ?_
 refine J.ev 27 (i64 ((Ke.csum 0 (s.take 12) % 10 : Nat) : Int)) rfl (by rw [hfull]; rfl) ?_
 refine axn 1 ?_
 refine J.ev 28 (i64 ((10 - Ke.csum 0 (s.take 12) % 10 : Nat) : Int)) rfl (congrArg i64 (by omega)) ?_
 refine axn 1 ?_
 refine J.ev 29 (i64 (((10 - Ke.csum 0 (s.take 12) % 10) % 10 : Nat) : Int)) rfl rfl ?_
 refine axn 1 ?_
 refine J.ev 30 (i64 ((48 + (10 - Ke.csum 0 (s.take 12) % 10) % 10 : Nat) : Int)) rfl (congrArg i64 (by omega)) ?_
 refine axn 1 ?_
 refine J.ev 31 (u8 (Ke.check s)) rfl (congrArg (Value.int .u8) (conv8 (by omega))) ?_
 refine axn 4 ?_
 refine Ej.keep (List.nil_sublist _) ?_
 refine axe ?_
 exact ⟨rfl, rfl⟩
theorem rightShort_ok (s : List UInt8) (h10 : s.length = 10) (hx : ∀ c ∈ s, Ke.digit c = true ∨ c = 88) (I : Heap) : Pure Tryz.prog 199 [str s] I (.bool (Ke.rightShort s)) := by
 refine Ctr.toPure ?_
 refine xob func199 fun w0 hw0 => ?_
 refine axn 14 ?_
 refine J.op rfl (op_toBytes rfl rfl rfl rfl underlying9 underlying192 underlying5 ?_)
 intro b1 c2 sp3 fr4 hb1 hfr4
 refine axn 5 ?_
 refine Cj.loop (ι := Nat) (fun j => j ≤ s.length) (fun j => s.length - j) (fun j => [(0, str s), (3, i64 ((Ke.rsum 0 (s.take j) : Nat) : Int)), (8, .slice (some ⟨b1, 0, none⟩) s.length c2), (9, i64 (s.length : Int)), (10, i64 (j : Int))]) (fun j => I) (fun j => [(b1, .cells (bcs s ++ sp3).toArray 5 (fr4, fr4 + 1))]) 0 (Nat.zero_le _) ⟨rfl, rfl, rfl, rfl, rfl, trivial⟩ rfl rfl ?_
 intro j hj
 have hsl := rsum_le (s.take j) 0
 rw [List.length_take, Nat.min_eq_left hj] at hsl
 refine axc (fun hc5 hc5p => ?_) (fun hc5 hc5p => ?_)
 ·
  have hlt : j < s.length := by omega
  obtain ⟨c, hget⟩ : ∃ c, s[j]? = some c := ⟨_, List.getElem?_eq_getElem hlt⟩
  have hc : 48 ≤ c.toNat := (hx c (List.mem_of_getElem? hget)).elim (fun h => (Ke.digit_iff.1 h).1) (fun h => by subst h; decide)
  have hc2 := c.toNat_lt
  have hm : (10 - j) * Ke.val c ≤ 10 * 255 := Nat.mul_le_mul (by omega) (val_le c)
  refine xix j ?_
  refine J.z (yl_load rfl rfl isAgg5 (Blk.at 0 rfl) (bcs_at hget)) ?_
  refine axn 7 ?_
  refine J.z (yl_sub rfl rfl rfl (w8 (by omega))) ?_
  refine axn 1 ?_
  refine J.ev 17 (i64 ((c.toNat - 48 : Nat) : Int)) rfl (congrArg i64 ((w64 (by omega)).trans (by omega))) ?_
  refine axc (fun hc6 hc6p => ?_) (fun hc6 hc6p => ?_)
  ·
   have hcv : Ke.val c = 10 := by
     have h : (c.toNat : Int) = 88 := eq_of_beq hc6
     unfold Ke.val; rw [if_pos (UInt8.toNat_inj.1 (by rw [show (88 : UInt8).toNat = 88 from rfl]; omega))]
   refine axn 8 ?_
   refine J.ev 22 (i64 ((10 - j : Nat) : Int)) rfl (congrArg i64 (by omega)) ?_
   refine axn 1 ?_
   refine J.ev 23 (i64 ((Ke.val c : Nat) : Int)) rfl (congrArg i64 (by omega)) ?_
   refine J.z (yl_mul rfl rfl rfl (w64 (by rw [← Int.natCast_mul]; omega))) ?_
   refine J.ev 24 (i64 (((10 - j) * Ke.val c : Nat) : Int)) rfl (congrArg i64 (Int.natCast_mul _ _).symm) ?_
   refine axn 9 ?_
   refine Ej.round (j + 1) (by omega) (by omega) ⟨rfl, by rw [rsum_next hget]; exact congrArg (fun z => some (Value.int .i64 z)) (by omega), rfl, rfl, rfl, trivial⟩ rfl rfl
  have hcv : Ke.val c = c.toNat - 48 := by
    have h : ¬ (c.toNat : Int) = 88 := ne_of_beq_false hc6
    unfold Ke.val; rw [if_neg (fun e => h (by subst e; rfl))]
  refine axn 6 ?_
  refine J.ev 22 (i64 ((10 - j : Nat) : Int)) rfl (congrArg i64 (by omega)) ?_
  refine axn 1 ?_
  refine J.ev 23 (i64 ((Ke.val c : Nat) : Int)) rfl (congrArg i64 (by omega)) ?_
  refine J.z (yl_mul rfl rfl rfl (w64 (by rw [← Int.natCast_mul]; omega))) ?_
  refine J.ev 24 (i64 (((10 - j) * Ke.val c : Nat) : Int)) rfl (congrArg i64 (Int.natCast_mul _ _).symm) ?_
  refine axn 9 ?_
  refine Ej.round (j + 1) (by omega) (by omega) ⟨rfl, by rw [rsum_next hget]; exact congrArg (fun z => some (Value.int .i64 z)) (by omega), rfl, rfl, rfl, trivial⟩ rfl rfl
 have hfull : s.take j = s := List.take_of_length_le (by omega)
 refine axn 9 ?_
 refine J.ev 28 (i64 ((Ke.rsum 0 s % 11 : Nat) : Int)) rfl (by rw [hfull]; rfl) ?_
 refine axh (fun hg7 => ?_) (fun hg7 => ?_)
 ·
  have hr : (Ke.rsum 0 s % 11 == 0) = true := beq_iff_eq.2 (by have h := eq_of_beq hg7; omega)
  refine axn 1 ?_
  refine J.zg (yl_sliceStr (p := 0) (q := 9) rfl rfl underlying9 rfl ⟨_, rfl⟩ (by omega) (by omega)) ?_
  refine J.ev 32 (str (s.take 9)) rfl (by rw [List.drop_zero]) ?_
  refine xpu (isDigits_ok (s.take 9) (by rw [List.length_take]; omega) _) ?_
  refine axn 5 ?_
  refine Ej.keep (List.nil_sublist _) ?_
  refine axe ?_
  exact ⟨congrArg (fun b => Ending.returned (.bool b)) (by unfold Ke.rightShort; rw [hr]; rfl), rfl⟩
 have hr : (Ke.rsum 0 s % 11 == 0) = false := beq_eq_false_iff_ne.2 (fun e => ne_of_beq_false hg7 (by rw [e]; rfl))
 refine axn 8 ?_
 refine Ej.keep (List.nil_sublist _) ?_
 refine axe ?_
 exact ⟨congrArg (fun b => Ending.returned (.bool b)) (by unfold Ke.rightShort; rw [hr]; rfl), rfl⟩
theorem norm_chars (s : List UInt8) : ∀ c ∈ Ke.norm s, Ke.digit c = true ∨ c = 88 := fun c hc => by
  obtain ⟨d, hd, rfl⟩ := List.mem_map.1 hc
  obtain ⟨h1, h2⟩ := List.mem_filter.1 hd
  have h3 : Ke.okb d = true := List.all_eq_true.1 (List.all_takeWhile (p := Ke.okb)) d h1
  revert h2 h3
  exact Ke.byte_all (p := fun d => Ke.nb d = true → Ke.okb d = true → Ke.digit (Ke.up d) = true ∨ Ke.up d = 88) (by decide +kernel) d
theorem norm_len (s : List UInt8) : (Ke.norm s).length ≤ s.length := by
  unfold Ke.norm
  rw [List.length_map]
  exact Nat.le_trans (List.length_filter_le _ _) (List.takeWhile_prefix _).length_le
theorem ToUpper_ok (s : List UInt8) (hs : s.length ≤ 1000000000) (I : Heap) : Pure Tryz.prog 196 [str (Ke.rep (s.takeWhile Ke.okb))] I (str (Ke.norm s)) := by
  refine Pure.of_below (Enters.of func196 (by decide) rfl) fun w _ => ?_
  have hall : ∀ c ∈ Ke.rep (s.takeWhile Ke.okb), c.toNat < 128 ∧ Lib.upperB c = Ke.up c := fun c hc => by
    obtain ⟨h1, h2⟩ := List.mem_filter.1 hc
    have h3 : Ke.okb c = true := List.all_eq_true.1 (List.all_takeWhile (p := Ke.okb)) c h1
    revert h3
    exact Ke.byte_all (p := fun c => Ke.okb c = true → c.toNat < 128 ∧ Lib.upperB c = Ke.up c) (by decide +kernel) c
  have hl : (Ke.rep (s.takeWhile Ke.okb)).length ≤ s.length := Nat.le_trans (List.length_filter_le _ _) (List.takeWhile_prefix _).length_le
  have h := Tryz.strings_ToUpper_ascii ⟨(Ke.rep (s.takeWhile Ke.okb)).toArray⟩ w (by rw [size_mk]; omega) (fun j b hb => by rw [ba_list] at hb; exact (hall b (List.mem_of_getElem? hb)).1)
  rw [ba_list] at h
  have e : Lib.toUpperA (Ke.rep (s.takeWhile Ke.okb)) = Ke.norm s := List.map_congr_left fun c hc => (hall c hc).2
  rw [e] at h
  exact h
theorem check_app {a b : List UInt8} (h : a.length = 12) : Ke.check (a ++ b) = Ke.check a := by
  unfold Ke.check; rw [List.take_append_of_le_length (by omega)]
theorem digits_12 {a b : List UInt8} (h : Ke.digits a = true) (hl : a.length = 9) : Ke.digits (([57, 55, 56] ++ a ++ b).take 12) = true := by
  rw [List.take_append_of_le_length (by simp; omega), List.take_of_length_le (by simp; omega), Ke.digits_app, h]; rfl
theorem Isbn_ok (s : List UInt8) (hs : s.length ≤ 100000000) (I : Heap) : Pure Tryz.prog 137 [str s] I (.tuple #[str (Ke.isbn s).1, .bool (Ke.isbn s).2]) := by
 refine Ctr.toPure ?_
 have hnc := norm_chars s
 have hnl := norm_len s
 have htl : (s.takeWhile Ke.okb).length ≤ s.length := (List.takeWhile_prefix _).length_le
 refine xob func137 fun w0 hw0 => ?_
 refine xca (IndexFunc_ok s _) ?_
 intro v1 I2 H3 hle4 hp5
 obtain ⟨n, h, hn, rfl⟩ := hp5; cases h
 refine axc (fun hc6 hc6p => ?_) (fun hc6 hc6p => ?_)
 ·
  obtain ⟨k, rfl, hk, htw⟩ : ∃ k : Nat, n = k ∧ k ≤ s.length ∧ s.takeWhile Ke.okb = s.take k := hn.elim (fun h => absurd (of_decide_eq_true hc6) (by rw [h.1]; decide)) id
  refine axn 3 ?_
  refine J.z (yl_sliceStr (p := 0) (q := k) rfl rfl underlying9 rfl ⟨_, rfl⟩ (by omega) (by omega)) ?_
  refine J.ev 11 (str (s.takeWhile Ke.okb)) rfl (by rw [htw, List.drop_zero]) ?_
  refine axn 6 ?_
  intro b7 hb7
  refine J.pull Pull.z ?_
  refine xca (NewReplacer_ok _ _ _ _ b7 _ _) ?_
  intro v8 I9 H10 hle11 hp12
  obtain ⟨rb, osl, h, rfl, ho⟩ := hp12; cases h
  refine axn 1 ?_
  refine J.pull Pull.z ?_
  refine xca (ReplaceK_ok rb osl (s.takeWhile Ke.okb) (by omega) _ ho) ?_
  intro v13 I14 H15 hle16 hp17
  have ho := ho.mono hle16
  obtain ⟨h, rfl⟩ := hp17; cases h
  refine J.ev 15 (str (Ke.rep (s.takeWhile Ke.okb))) rfl rfl ?_
  refine xpu (ToUpper_ok s (by omega) _) ?_
  refine axh (fun hg18 => ?_) (fun hg18 => ?_)
  ·
   have h10 : (Ke.norm s).length = 10 := by have h := eq_of_beq hg18; omega
   refine xpu (rightShort_ok (Ke.norm s) h10 hnc _) ?_
   refine ax0 (fun hc19 => ?_) (fun hc19 => ?_)
   ·
    have hrs : Ke.rightShort (Ke.norm s) = true := hc19
    have hd9 : Ke.digits ((Ke.norm s).take 9) = true := (Bool.and_eq_true_iff.1 hrs).2
    have hd12 := digits_12 (b := [48]) hd9 (by rw [List.length_take]; omega)
    refine axn 3 ?_
    refine J.z (yl_sliceStr (p := 0) (q := 9) rfl rfl underlying9 rfl ⟨_, rfl⟩ (by omega) (by omega)) ?_
    refine J.ev 26 (str ((Ke.norm s).take 9)) rfl (by rw [List.drop_zero]) ?_
    refine J.z (yl_cat rfl rfl rfl (by first | omega | (simp only [List.length_append]; omega) | (simp; omega))) ?_
    refine axn 7 ?_
    refine J.z (yl_cat rfl rfl rfl (by first | omega | (simp only [List.length_append]; omega) | (simp; omega))) ?_
    refine xpu (check_ok _ (by simp; omega) (by simp; omega) hd12 _) ?_
    refine J.ev 31 (u8 (Ke.check ([57, 55, 56] ++ (Ke.norm s).take 9))) rfl (by rw [check_app (by simp; omega)]) ?_
    refine axn 1 ?_
    intro b20 hb20
    refine J.z (yl_toStr [Ke.check ([57, 55, 56] ++ (Ke.norm s).take 9)] rfl rfl rfl underlying192 underlying9 underlying5 (Blk.at 0 rfl) rfl) ?_
    refine J.z (yl_cat rfl rfl rfl (by first | omega | (simp only [List.length_append]; omega) | (simp; omega))) ?_
    refine axn 7 ?_
    refine Ej.keep (List.nil_sublist _) ?_
    refine axe ?_
    have he : Ke.isbn s = ([57, 55, 56] ++ (Ke.norm s).take 9 ++ [Ke.check ([57, 55, 56] ++ (Ke.norm s).take 9)], true) := by unfold Ke.isbn Ke.isbnN; rw [if_pos ⟨h10, hrs⟩]
    rw [he]
    exact ⟨rfl, rfl⟩
   have hno : ¬ ((Ke.norm s).length = 10 ∧ Ke.rightShort (Ke.norm s) = true) := fun e => Bool.noConfusion (e.2.symm.trans hc19)
   refine axn 1 ?_
   refine Cj.drawSel [] [] 15 (by kernel_rfl) ?_
   refine axn 4 ?_
   refine JA.split 39 rfl (fun hg22 => ?_) (fun hg22 => ?_)
   rotate_left
   ·
    have hno2 : ¬ ((Ke.norm s).length = 13 ∧ Ke.digits (Ke.norm s) = true ∧ Ke.check (Ke.norm s) = (Ke.norm s).getD 12 0) := fun e => ne_of_beq_false hg22 (by rw [e.1]; rfl)
    refine axn 24 ?_
    refine Ej.keep (List.nil_sublist _) ?_
    refine axe ?_
    have he : Ke.isbn s = ([], false) := by unfold Ke.isbn Ke.isbnN; rw [if_neg hno, if_neg hno2]
    rw [he]
    exact ⟨rfl, rfl⟩
   have h13 : (Ke.norm s).length = 13 := by have h := eq_of_beq hg22; omega
   refine xpu (isDigits_ok (Ke.norm s) (by omega) _) ?_
   refine axn 3 ?_
   refine JA.split 43 rfl (fun hg24 => ?_) (fun hg24 => ?_)
   ·
    have hdg : Ke.digits (Ke.norm s) = true := hg24
    have hd13 : Ke.digits ((Ke.norm s).take 12) = true := List.all_eq_true.2 fun c hc => List.all_eq_true.1 hdg c (List.mem_of_mem_take hc)
    obtain ⟨c, hg12⟩ : ∃ c, (Ke.norm s)[12]? = some c := ⟨_, List.getElem?_eq_getElem (by omega)⟩
    have hgd : (Ke.norm s).getD 12 0 = c := by rw [List.getD, hg12]; rfl
    refine axn 2 ?_
    refine JA.fix fxA (fun fx23 => ?_)
    refine JA.tkG 11 7 43 true _ rfl fx23 rfl rfl hg24 (q4 underlying9 hg12) ?_
    refine xpu (check_ok (Ke.norm s) (by omega) (by omega) hd13 _) ?_
    refine axc (fun hc26 hc26p => ?_) (fun hc26 hc26p => ?_)
    ·
     have hck : Ke.check (Ke.norm s) = (Ke.norm s).getD 12 0 := by have h := eq_of_beq hc26; rw [hgd]; exact UInt8.toNat_inj.1 (by omega)
     refine axn 10 ?_
     refine Ej.keep (List.nil_sublist _) ?_
     refine axe ?_
     have he : Ke.isbn s = (Ke.norm s, true) := by unfold Ke.isbn Ke.isbnN; rw [if_neg hno, if_pos ⟨h13, hdg, hck⟩]
     rw [he]
     exact ⟨rfl, rfl⟩
    ·
     have hno2 : ¬ ((Ke.norm s).length = 13 ∧ Ke.digits (Ke.norm s) = true ∧ Ke.check (Ke.norm s) = (Ke.norm s).getD 12 0) := fun e => ne_of_beq_false hc26 (by rw [e.2.2, hgd])
     refine axn 10 ?_
     refine Ej.keep (List.nil_sublist _) ?_
     refine axe ?_
     have he : Ke.isbn s = ([], false) := by unfold Ke.isbn Ke.isbnN; rw [if_neg hno, if_neg hno2]
     rw [he]
     exact ⟨rfl, rfl⟩
   ·
    have hno2 : ¬ ((Ke.norm s).length = 13 ∧ Ke.digits (Ke.norm s) = true ∧ Ke.check (Ke.norm s) = (Ke.norm s).getD 12 0) := fun e => Bool.noConfusion (e.2.1.symm.trans hg24)
    refine axn 20 ?_
    refine Ej.keep (List.nil_sublist _) ?_
    refine axe ?_
    have he : Ke.isbn s = ([], false) := by unfold Ke.isbn Ke.isbnN; rw [if_neg hno, if_neg hno2]
    rw [he]
    exact ⟨rfl, rfl⟩
  have hno : ¬ ((Ke.norm s).length = 10 ∧ Ke.rightShort (Ke.norm s) = true) := fun e => ne_of_beq_false hg18 (by rw [e.1]; rfl)
  refine axn 8 ?_
  refine Cj.drawSel [] [] 15 (by kernel_rfl) ?_
  refine axn 4 ?_
  refine JA.split 39 rfl (fun hg31 => ?_) (fun hg31 => ?_)
  rotate_left
  ·
   have hno2 : ¬ ((Ke.norm s).length = 13 ∧ Ke.digits (Ke.norm s) = true ∧ Ke.check (Ke.norm s) = (Ke.norm s).getD 12 0) := fun e => ne_of_beq_false hg31 (by rw [e.1]; rfl)
   refine axn 24 ?_
   refine Ej.keep (List.nil_sublist _) ?_
   refine axe ?_
   have he : Ke.isbn s = ([], false) := by unfold Ke.isbn Ke.isbnN; rw [if_neg hno, if_neg hno2]
   rw [he]
   exact ⟨rfl, rfl⟩
  have h13 : (Ke.norm s).length = 13 := by have h := eq_of_beq hg31; omega
  refine xpu (isDigits_ok (Ke.norm s) (by omega) _) ?_
  refine axn 3 ?_
  refine JA.split 43 rfl (fun hg33 => ?_) (fun hg33 => ?_)
  ·
   have hdg : Ke.digits (Ke.norm s) = true := hg33
   have hd13 : Ke.digits ((Ke.norm s).take 12) = true := List.all_eq_true.2 fun c hc => List.all_eq_true.1 hdg c (List.mem_of_mem_take hc)
   obtain ⟨c, hg12⟩ : ∃ c, (Ke.norm s)[12]? = some c := ⟨_, List.getElem?_eq_getElem (by omega)⟩
   have hgd : (Ke.norm s).getD 12 0 = c := by rw [List.getD, hg12]; rfl
   refine axn 2 ?_
   refine JA.fix fxA (fun fx32 => ?_)
   refine JA.tkG 11 7 43 true _ rfl fx32 rfl rfl hg33 (q4 underlying9 hg12) ?_
   refine xpu (check_ok (Ke.norm s) (by omega) (by omega) hd13 _) ?_
   refine axc (fun hc35 hc35p => ?_) (fun hc35 hc35p => ?_)
   ·
    have hck : Ke.check (Ke.norm s) = (Ke.norm s).getD 12 0 := by have h := eq_of_beq hc35; rw [hgd]; exact UInt8.toNat_inj.1 (by omega)
    refine axn 10 ?_
    refine Ej.keep (List.nil_sublist _) ?_
    refine axe ?_
    have he : Ke.isbn s = (Ke.norm s, true) := by unfold Ke.isbn Ke.isbnN; rw [if_neg hno, if_pos ⟨h13, hdg, hck⟩]
    rw [he]
    exact ⟨rfl, rfl⟩
   ·
    have hno2 : ¬ ((Ke.norm s).length = 13 ∧ Ke.digits (Ke.norm s) = true ∧ Ke.check (Ke.norm s) = (Ke.norm s).getD 12 0) := fun e => ne_of_beq_false hc35 (by rw [e.2.2, hgd])
    refine axn 10 ?_
    refine Ej.keep (List.nil_sublist _) ?_
    refine axe ?_
    have he : Ke.isbn s = ([], false) := by unfold Ke.isbn Ke.isbnN; rw [if_neg hno, if_neg hno2]
    rw [he]
    exact ⟨rfl, rfl⟩
  ·
   have hno2 : ¬ ((Ke.norm s).length = 13 ∧ Ke.digits (Ke.norm s) = true ∧ Ke.check (Ke.norm s) = (Ke.norm s).getD 12 0) := fun e => Bool.noConfusion (e.2.1.symm.trans hg33)
   refine axn 20 ?_
   refine Ej.keep (List.nil_sublist _) ?_
   refine axe ?_
   have he : Ke.isbn s = ([], false) := by unfold Ke.isbn Ke.isbnN; rw [if_neg hno, if_neg hno2]
   rw [he]
   exact ⟨rfl, rfl⟩
 have htw : s.takeWhile Ke.okb = s := hn.elim (fun h => h.2) (fun ⟨k, h, _⟩ => absurd (of_decide_eq_false hc6) (by rw [h]; simp))
 refine axn 5 ?_
 intro b38 hb38
 refine J.pull Pull.z ?_
 refine xca (NewReplacer_ok _ _ _ _ b38 _ _) ?_
 intro v39 I40 H41 hle42 hp43
 obtain ⟨rb, osl, h, rfl, ho⟩ := hp43; cases h
 refine axn 1 ?_
 refine J.pull Pull.z ?_
 refine xca (ReplaceK_ok rb osl s (by omega) _ ho) ?_
 intro v44 I45 H46 hle47 hp48
 have ho := ho.mono hle47
 obtain ⟨h, rfl⟩ := hp48; cases h
 refine J.ev 15 (str (Ke.rep (s.takeWhile Ke.okb))) rfl (by rw [htw]) ?_
 refine xpu (ToUpper_ok s (by omega) _) ?_
 refine axh (fun hg49 => ?_) (fun hg49 => ?_)
 ·
  have h10 : (Ke.norm s).length = 10 := by have h := eq_of_beq hg49; omega
  refine xpu (rightShort_ok (Ke.norm s) h10 hnc _) ?_
  refine ax0 (fun hc50 => ?_) (fun hc50 => ?_)
  ·
   have hrs : Ke.rightShort (Ke.norm s) = true := hc50
   have hd9 : Ke.digits ((Ke.norm s).take 9) = true := (Bool.and_eq_true_iff.1 hrs).2
   have hd12 := digits_12 (b := [48]) hd9 (by rw [List.length_take]; omega)
   refine axn 3 ?_
   refine J.z (yl_sliceStr (p := 0) (q := 9) rfl rfl underlying9 rfl ⟨_, rfl⟩ (by omega) (by omega)) ?_
   refine J.ev 26 (str ((Ke.norm s).take 9)) rfl (by rw [List.drop_zero]) ?_
   refine J.z (yl_cat rfl rfl rfl (by first | omega | (simp only [List.length_append]; omega) | (simp; omega))) ?_
   refine axn 7 ?_
   refine J.z (yl_cat rfl rfl rfl (by first | omega | (simp only [List.length_append]; omega) | (simp; omega))) ?_
   refine xpu (check_ok _ (by simp; omega) (by simp; omega) hd12 _) ?_
   refine J.ev 31 (u8 (Ke.check ([57, 55, 56] ++ (Ke.norm s).take 9))) rfl (by rw [check_app (by simp; omega)]) ?_
   refine axn 1 ?_
   intro b51 hb51
   refine J.z (yl_toStr [Ke.check ([57, 55, 56] ++ (Ke.norm s).take 9)] rfl rfl rfl underlying192 underlying9 underlying5 (Blk.at 0 rfl) rfl) ?_
   refine J.z (yl_cat rfl rfl rfl (by first | omega | (simp only [List.length_append]; omega) | (simp; omega))) ?_
   refine axn 7 ?_
   refine Ej.keep (List.nil_sublist _) ?_
   refine axe ?_
   have he : Ke.isbn s = ([57, 55, 56] ++ (Ke.norm s).take 9 ++ [Ke.check ([57, 55, 56] ++ (Ke.norm s).take 9)], true) := by unfold Ke.isbn Ke.isbnN; rw [if_pos ⟨h10, hrs⟩]
   rw [he]
   exact ⟨rfl, rfl⟩
  have hno : ¬ ((Ke.norm s).length = 10 ∧ Ke.rightShort (Ke.norm s) = true) := fun e => Bool.noConfusion (e.2.symm.trans hc50)
  refine axn 1 ?_
  refine Cj.drawSel [] [] 15 (by kernel_rfl) ?_
  refine axn 4 ?_
  refine JA.split 39 rfl (fun hg53 => ?_) (fun hg53 => ?_)
  rotate_left
  ·
   have hno2 : ¬ ((Ke.norm s).length = 13 ∧ Ke.digits (Ke.norm s) = true ∧ Ke.check (Ke.norm s) = (Ke.norm s).getD 12 0) := fun e => ne_of_beq_false hg53 (by rw [e.1]; rfl)
   refine axn 24 ?_
   refine Ej.keep (List.nil_sublist _) ?_
   refine axe ?_
   have he : Ke.isbn s = ([], false) := by unfold Ke.isbn Ke.isbnN; rw [if_neg hno, if_neg hno2]
   rw [he]
   exact ⟨rfl, rfl⟩
  have h13 : (Ke.norm s).length = 13 := by have h := eq_of_beq hg53; omega
  refine xpu (isDigits_ok (Ke.norm s) (by omega) _) ?_
  refine axn 3 ?_
  refine JA.split 43 rfl (fun hg55 => ?_) (fun hg55 => ?_)
  ·
   have hdg : Ke.digits (Ke.norm s) = true := hg55
   have hd13 : Ke.digits ((Ke.norm s).take 12) = true := List.all_eq_true.2 fun c hc => List.all_eq_true.1 hdg c (List.mem_of_mem_take hc)
   obtain ⟨c, hg12⟩ : ∃ c, (Ke.norm s)[12]? = some c := ⟨_, List.getElem?_eq_getElem (by omega)⟩
   have hgd : (Ke.norm s).getD 12 0 = c := by rw [List.getD, hg12]; rfl
   refine axn 2 ?_
   refine JA.fix fxA (fun fx54 => ?_)
   refine JA.tkG 11 7 43 true _ rfl fx54 rfl rfl hg55 (q4 underlying9 hg12) ?_
   refine xpu (check_ok (Ke.norm s) (by omega) (by omega) hd13 _) ?_
   refine axc (fun hc57 hc57p => ?_) (fun hc57 hc57p => ?_)
   ·
    have hck : Ke.check (Ke.norm s) = (Ke.norm s).getD 12 0 := by have h := eq_of_beq hc57; rw [hgd]; exact UInt8.toNat_inj.1 (by omega)
    refine axn 10 ?_
    refine Ej.keep (List.nil_sublist _) ?_
    refine axe ?_
    have he : Ke.isbn s = (Ke.norm s, true) := by unfold Ke.isbn Ke.isbnN; rw [if_neg hno, if_pos ⟨h13, hdg, hck⟩]
    rw [he]
    exact ⟨rfl, rfl⟩
   ·
    have hno2 : ¬ ((Ke.norm s).length = 13 ∧ Ke.digits (Ke.norm s) = true ∧ Ke.check (Ke.norm s) = (Ke.norm s).getD 12 0) := fun e => ne_of_beq_false hc57 (by rw [e.2.2, hgd])
    refine axn 10 ?_
    refine Ej.keep (List.nil_sublist _) ?_
    refine axe ?_
    have he : Ke.isbn s = ([], false) := by unfold Ke.isbn Ke.isbnN; rw [if_neg hno, if_neg hno2]
    rw [he]
    exact ⟨rfl, rfl⟩
  ·
   have hno2 : ¬ ((Ke.norm s).length = 13 ∧ Ke.digits (Ke.norm s) = true ∧ Ke.check (Ke.norm s) = (Ke.norm s).getD 12 0) := fun e => Bool.noConfusion (e.2.1.symm.trans hg55)
   refine axn 20 ?_
   refine Ej.keep (List.nil_sublist _) ?_
   refine axe ?_
   have he : Ke.isbn s = ([], false) := by unfold Ke.isbn Ke.isbnN; rw [if_neg hno, if_neg hno2]
   rw [he]
   exact ⟨rfl, rfl⟩
 have hno : ¬ ((Ke.norm s).length = 10 ∧ Ke.rightShort (Ke.norm s) = true) := fun e => ne_of_beq_false hg49 (by rw [e.1]; rfl)
 refine axn 8 ?_
 refine Cj.drawSel [] [] 15 (by kernel_rfl) ?_
 refine axn 4 ?_
 refine JA.split 39 rfl (fun hg62 => ?_) (fun hg62 => ?_)
 rotate_left
 ·
  have hno2 : ¬ ((Ke.norm s).length = 13 ∧ Ke.digits (Ke.norm s) = true ∧ Ke.check (Ke.norm s) = (Ke.norm s).getD 12 0) := fun e => ne_of_beq_false hg62 (by rw [e.1]; rfl)
  refine axn 24 ?_
  refine Ej.keep (List.nil_sublist _) ?_
  refine axe ?_
  have he : Ke.isbn s = ([], false) := by unfold Ke.isbn Ke.isbnN; rw [if_neg hno, if_neg hno2]
  rw [he]
  exact ⟨rfl, rfl⟩
 have h13 : (Ke.norm s).length = 13 := by have h := eq_of_beq hg62; omega
 refine xpu (isDigits_ok (Ke.norm s) (by omega) _) ?_
 refine axn 3 ?_
 refine JA.split 43 rfl (fun hg64 => ?_) (fun hg64 => ?_)
 ·
  have hdg : Ke.digits (Ke.norm s) = true := hg64
  have hd13 : Ke.digits ((Ke.norm s).take 12) = true := List.all_eq_true.2 fun c hc => List.all_eq_true.1 hdg c (List.mem_of_mem_take hc)
  obtain ⟨c, hg12⟩ : ∃ c, (Ke.norm s)[12]? = some c := ⟨_, List.getElem?_eq_getElem (by omega)⟩
  have hgd : (Ke.norm s).getD 12 0 = c := by rw [List.getD, hg12]; rfl
  refine axn 2 ?_
  refine JA.fix fxA (fun fx63 => ?_)
  refine JA.tkG 11 7 43 true _ rfl fx63 rfl rfl hg64 (q4 underlying9 hg12) ?_
  refine xpu (check_ok (Ke.norm s) (by omega) (by omega) hd13 _) ?_
  refine axc (fun hc66 hc66p => ?_) (fun hc66 hc66p => ?_)
  ·
   have hck : Ke.check (Ke.norm s) = (Ke.norm s).getD 12 0 := by have h := eq_of_beq hc66; rw [hgd]; exact UInt8.toNat_inj.1 (by omega)
   refine axn 10 ?_
   refine Ej.keep (List.nil_sublist _) ?_
   refine axe ?_
   have he : Ke.isbn s = (Ke.norm s, true) := by unfold Ke.isbn Ke.isbnN; rw [if_neg hno, if_pos ⟨h13, hdg, hck⟩]
   rw [he]
   exact ⟨rfl, rfl⟩
  ·
   have hno2 : ¬ ((Ke.norm s).length = 13 ∧ Ke.digits (Ke.norm s) = true ∧ Ke.check (Ke.norm s) = (Ke.norm s).getD 12 0) := fun e => ne_of_beq_false hc66 (by rw [e.2.2, hgd])
   refine axn 10 ?_
   refine Ej.keep (List.nil_sublist _) ?_
   refine axe ?_
   have he : Ke.isbn s = ([], false) := by unfold Ke.isbn Ke.isbnN; rw [if_neg hno, if_neg hno2]
   rw [he]
   exact ⟨rfl, rfl⟩
 ·
  have hno2 : ¬ ((Ke.norm s).length = 13 ∧ Ke.digits (Ke.norm s) = true ∧ Ke.check (Ke.norm s) = (Ke.norm s).getD 12 0) := fun e => Bool.noConfusion (e.2.1.symm.trans hg64)
  refine axn 20 ?_
  refine Ej.keep (List.nil_sublist _) ?_
  refine axe ?_
  have he : Ke.isbn s = ([], false) := by unfold Ke.isbn Ke.isbnN; rw [if_neg hno, if_neg hno2]
  rw [he]
  exact ⟨rfl, rfl⟩
end Go.Proofs.YtekmeaoblpfnpaaGreatDoor
end
section
namespace Ke
abbrev Row := List Bs
def pg (s : Bs) : Bool → Row → Row
  | true, [] => []
  | false, [] => [s]
  | d, x :: r => if s < x ∧ d = false then s :: x :: pg s true r else x :: pg s d r
def put (l : Row) (s : Bs) : Row := if s ∈ l then l else pg s false l
def Inc (l : Row) : Prop := l.Pairwise (· < ·)
theorem pg_true (s : Bs) : ∀ l, pg s true l = l
  | [] => rfl
  | x :: r => by unfold pg; rw [if_neg (by simp), pg_true s r]
theorem pg_mem (s : Bs) : ∀ (l : Row) (x : Bs), x ∈ pg s false l ↔ x = s ∨ x ∈ l
  | [], x => by simp [pg]
  | y :: r, x => by
    unfold pg
    by_cases h : s < y
    · rw [if_pos ⟨h, rfl⟩, pg_true]; simp
    rw [if_neg (fun e => h e.1), List.mem_cons, pg_mem s r x, List.mem_cons]
    constructor
    · rintro (h | h | h) <;> simp [h]
    rintro (h | h | h) <;> simp [h]
theorem lt_of {a b : Bs} (h : ¬ b < a) (hne : a ≠ b) : a < b := by grind
theorem pg_inc (s : Bs) : ∀ {l : Row}, Inc l → s ∉ l → Inc (pg s false l)
  | [], _, _ => by simp [pg, Inc]
  | y :: r, hl, hn => by
    have hl' := List.pairwise_cons.1 hl
    unfold pg
    by_cases h : s < y
    · rw [if_pos ⟨h, rfl⟩, pg_true]
      refine List.pairwise_cons.2 ⟨fun z hz => ?_, hl⟩
      rcases List.mem_cons.1 hz with rfl | hz
      · exact h
      exact List.lt_trans h (hl'.1 z hz)
    rw [if_neg (fun e => h e.1)]
    refine List.pairwise_cons.2 ⟨fun z hz => ?_, pg_inc s hl'.2 fun e => hn (.tail _ e)⟩
    rcases (pg_mem s r z).1 hz with rfl | hz
    · exact lt_of h fun e => hn (e ▸ .head _)
    exact hl'.1 z hz
theorem put_mem (l : Row) (s x : Bs) : x ∈ put l s ↔ x = s ∨ x ∈ l := by grind [put, pg_mem]
theorem put_inc {l : Row} (s : Bs) (h : Inc l) : Inc (put l s) := by grind [put, pg_inc]
theorem puts_inc : ∀ (xs : Row) {l : Row}, Inc l → Inc (xs.foldl put l)
  | [], _, h => h
  | x :: r, _, h => puts_inc r (put_inc x h)
theorem puts_mem : ∀ (xs l : Row) (x : Bs), x ∈ xs.foldl put l ↔ x ∈ xs ∨ x ∈ l
  | [], _, _ => by simp
  | y :: r, l, x => by
    rw [List.foldl_cons, puts_mem r, put_mem, List.mem_cons]
    constructor
    · rintro (h | h | h) <;> simp [h]
    rintro ((h | h) | h) <;> simp [h]
theorem inc_eq : ∀ {a b : Row}, Inc a → Inc b → (∀ x, x ∈ a ↔ x ∈ b) → a = b
  | [], [], _, _, _ => rfl
  | [], y :: _, _, _, h => absurd ((h y).2 (.head _)) (by simp)
  | x :: _, [], _, _, h => absurd ((h x).1 (.head _)) (by simp)
  | x :: r, y :: t, ha, hb, h => by
    have ha' := List.pairwise_cons.1 ha
    have hb' := List.pairwise_cons.1 hb
    have hxy : x = y := by
      rcases List.mem_cons.1 ((h x).1 (.head _)) with e | e
      · exact e
      rcases List.mem_cons.1 ((h y).2 (.head _)) with e2 | e2
      · exact e2.symm
      exact absurd (List.lt_trans (hb'.1 x e) (ha'.1 y e2)) (List.lt_irrefl _)
    subst hxy
    rw [inc_eq ha'.2 hb'.2 fun z => ⟨fun hz => ?_, fun hz => ?_⟩]
    · rcases List.mem_cons.1 ((h z).1 (.tail _ hz)) with rfl | e
      · exact absurd (ha'.1 z hz) (List.lt_irrefl _)
      exact e
    rcases List.mem_cons.1 ((h z).2 (.tail _ hz)) with rfl | e
    · exact absurd (hb'.1 z hz) (List.lt_irrefl _)
    exact e
structure Sub where
  code : UInt8
  text : Bs
structure Fld where
  tag : Bs
  ind : Bs
  data : Bs
  sv : Go.Value
  subs : List Sub
def texts (f : Fld) (codes : Bs) : Row := (f.subs.filter fun s => codes.contains s.code).map (·.text)
def textOf (f : Fld) (codes : Bs) : Bs := join (texts f codes)
def skip (f : Fld) : Nat := match f.ind[1]? with
  | some c => if digit c then c.toNat - 48 else 0
  | none => 0
end Ke
end
section
namespace Go.Proofs.YtekmeaoblpfnpaaGreatDoor
open Go Go.Sx
def subC (s : Ke.Sub) : List Value := [u8 s.code, str s.text]
def fldC (f : Ke.Fld) : List Value := [str f.tag, str f.ind, str f.data, f.sv]
theorem subC_len (s : Ke.Sub) : (subC s).length = 2 := rfl
theorem fldC_len (f : Ke.Fld) : (fldC f).length = 4 := rfl
def RecS (I : Heap) (fs : List Ke.Fld) (v : Value) : Prop := RowS fldC I fs v ∧ ∀ f ∈ fs, RowS subC I f.subs f.sv
theorem RecS.mono {I I' : Heap} {fs : List Ke.Fld} {v : Value} (h : RecS I fs v) (hle : Le I I') : RecS I' fs v := ⟨h.1.mono hle, fun f hf => (h.2 f hf).mono hle⟩
def recV (k l : UInt8) (v : Value) : Value := .agg #[u8 k, u8 l, v]
def textsLen (ss : List Ke.Sub) : Nat := (ss.map (·.text.length)).sum
theorem gOk_len {base sz n : Nat} {xs ys : List Value} {g : Gs} (h : gOk base sz n xs g) (hl : ys.length = xs.length) : gOk base sz n ys g := by
  cases g with
  | none =>
    obtain ⟨h1, h2⟩ := h
    exact ⟨h1, List.length_eq_zero_iff.1 (by rw [hl, h2]; rfl)⟩
  | some q =>
    obtain ⟨b, c, sp⟩ := q
    obtain ⟨h1, h2, h3⟩ := h
    exact ⟨h1, by rw [hl]; exact h2, by rw [hl]; exact h3⟩
theorem fldC_one {f : Ke.Fld} {p : Option Addr} {n c : Nat} (h : f.sv = .slice p n c) : (fldC f).all Value.oneCell' = true := by
  unfold fldC; rw [h]; rfl
def tx (codes : List UInt8) (ss : List Ke.Sub) : List (List UInt8) := (ss.filter fun s => codes.contains s.code).map (·.text)
theorem tx_next {codes : List UInt8} {ss : List Ke.Sub} {k : Nat} {s : Ke.Sub} (h : ss[k]? = some s) : tx codes (ss.take (k + 1)) = tx codes (ss.take k) ++ (if codes.contains s.code then [s.text] else []) := by
  obtain ⟨hlt, hg⟩ := List.getElem?_eq_some_iff.1 h
  unfold tx
  rw [List.take_succ_eq_append_getElem hlt, hg, List.filter_append, List.map_append]
  by_cases hc : codes.contains s.code = true
  · rw [if_pos hc, List.filter_cons_of_pos (p := fun s : Ke.Sub => codes.contains s.code) hc]; rfl
  rw [if_neg hc, List.filter_cons_of_neg (p := fun s : Ke.Sub => codes.contains s.code) hc]; rfl
theorem tx_len (codes : List UInt8) (ss : List Ke.Sub) : (tx codes ss).length ≤ ss.length := by
  unfold tx; rw [List.length_map]; exact List.length_filter_le _ _
theorem join_len : ∀ l : List (List UInt8), (Ke.join l).length ≤ (l.map List.length).sum + l.length
  | [] => by simp [Ke.join]
  | [a] => by simp [Ke.join]
  | a :: b :: r => by
    have := join_len (b :: r)
    simp only [Ke.join, List.length_append, List.map_cons, List.sum_cons, List.length_cons, List.length_nil] at this ⊢
    omega
theorem tx_sum (codes : List UInt8) : ∀ ss : List Ke.Sub, ((tx codes ss).map List.length).sum ≤ textsLen ss
  | [] => by simp [tx]
  | s :: r => by
    have := tx_sum codes r
    unfold tx textsLen at this ⊢
    rw [List.filter_cons]
    split
    · simp only [List.map_cons, List.sum_cons]; omega
    simp only [List.map_cons, List.sum_cons]; omega
theorem textOf_len (f : Ke.Fld) (codes : List UInt8) : (Ke.textOf f codes).length ≤ textsLen f.subs + f.subs.length := by
  have h1 := join_len (tx codes f.subs); have h2 := tx_sum codes f.subs; have h3 := tx_len codes f.subs
  have : Ke.textOf f codes = Ke.join (tx codes f.subs) := rfl
  rw [this]; omega
theorem index_has (l : List UInt8) (c : UInt8) : decide (0 ≤ Lib.indexByte l c) = l.contains c := by
  induction l with
  | nil => rfl
  | cons d r ih =>
    rw [Lib.indexByte, List.contains_cons]
    simp only [beq_iff_eq]
    by_cases h : d = c
    · subst h; simp
    rw [if_neg h, show (c == d) = false from beq_eq_false_iff_ne.2 (Ne.symm h), Bool.false_or, ← ih]
    by_cases h0 : Lib.indexByte r c < 0
    · have : ¬ 0 ≤ Lib.indexByte r c := by omega
      rw [decide_eq_false this]
      exact decide_eq_false (by split <;> omega)
    have : 0 ≤ Lib.indexByte r c := by omega
    rw [decide_eq_true this]
    exact decide_eq_true (by split <;> omega)
theorem skip_no {f : Ke.Fld} (h : ¬ 1 < f.ind.length) : Ke.skip f = 0 := by
  unfold Ke.skip; rw [List.getElem?_eq_none (by omega)]
end Go.Proofs.YtekmeaoblpfnpaaGreatDoor
end
