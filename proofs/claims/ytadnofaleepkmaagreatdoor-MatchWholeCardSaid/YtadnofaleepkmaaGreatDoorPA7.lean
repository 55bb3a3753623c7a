/-
  Own texts on the laws of match, joined: the logic, and contracts of functions. Conditions: none.
-/
import Derived.Test.YtadnofaleepkmaaGreatDoorPA6
import Derived.Test.YtadnofaleepkmaaGreatDoorPA2
import Derived.Test.YtadnofaleepkmaaGreatDoorPA3
import Derived.Test.YtadnofaleepkmaaGreatDoorCards
import Derived.Test.YtadnofaleepkmaaGreatDoorTie
import Derived.WalkKit
import Derived.ProofKit
import Derived.OpenShut
import Derived.Lay
import Derived.Deep.DeepHandedRow
import Derived.WideKeyArr2
import Derived.Carry
import Derived.Shelf.SlLaysF0
import Derived.Ground.SlsfProg
import Derived.Test.YtadnofaleepkmaaGreatDoorChecked
import Derived.Sort.Walk0
import Derived.Shelf.GgSortFunc.InsertionK
import Derived.Deep.RegionWith
import Derived.Shelf.SlSortCmp.NoneTotal
section
namespace Go.Proofs.YtadnofaleepkmaaGreatDoor
open Go Go.Sx
theorem SortG_ok {base : Nat} (l : List (List UInt8)) (g : Gs) (hg : gOk base 1 l.length (l.map str) g) (hl : l.length ≤ 100000000000000) (I : Heap) : Ctr Tryz.prog 45 [gV l.length g] I (gH 9 (l.map str) g)
    (fun e _I' H' => e = .returned (.tuple #[]) ∧ H' = gH 9 ((l.mergeSort fun x y => decide (x ≤ y)).map str) g) := by
  cases g with
  | none =>
    obtain ⟨h1, h2⟩ := gS_none hg
    subst h1
    exact (Pure.of_same (Enters.of Tryz.func45 (by decide) rfl) (fun w _ => Tryz.slices_Sort_string_none none 0 w)).mono fun e I' H' _ ⟨h1, _, h3⟩ => ⟨h1, h3⟩
  | some q =>
    obtain ⟨b, c, sp⟩ := q
    refine ⟨Enters.of Tryz.func45 (by decide) rfl, fun w hw => ?_⟩
    have hb := hw.2.1 _ (.head _)
    have hlt : b < w.heap.size := by
      rcases Nat.lt_or_ge b w.heap.size with h | h
      · exact h
      · rw [Array.getElem?_eq_none h] at hb; cases hb
    exact (Tryz.slices_Sort_string b 0 c l w (row_holds hb) hlt (by omega)).mono fun e w' ⟨h1, n, os, h2⟩ => ⟨I, _, h2 ▸ St.row n os hw (by simp), h1, rfl⟩
theorem CompactG_ok {base : Nat} (l : List (List UInt8)) (g : Gs) (hg : gOk base 1 l.length (l.map str) g) (hl : l.length ≤ 100000000000000) (I : Heap) : Ctr Tryz.prog 46 [gV l.length g] I (gH 9 (l.map str) g)
    (fun e _I' H' => ∃ g', gOk base 1 (Lib.compact l).length ((Lib.compact l).map str) g' ∧ e = .returned (gV (Lib.compact l).length g') ∧ H' = gH 9 ((Lib.compact l).map str) g') := by
  cases g with
  | none =>
    obtain ⟨h1, h2⟩ := gS_none hg
    subst h1
    exact (Pure.of_same (Enters.of Tryz.func46 (by decide) rfl) (fun w _ => Tryz.slices_Compact_string_empty none 0 w)).mono fun e I' H' _ ⟨h1, _, h3⟩ => ⟨none, ⟨rfl, rfl⟩, h1, h3⟩
  | some q =>
    obtain ⟨b, c, sp⟩ := q
    obtain ⟨g1, g2, g3⟩ := hg
    rw [List.length_map] at g2 g3
    have hcl := Lib.compact_length_le l
    refine ⟨Enters.of Tryz.func46 (by decide) rfl, fun w hw => ?_⟩
    refine (Tryz.slices_Compact_string b 0 c l w (row_holds (hw.2.1 _ (.head _))) (by omega) (by omega)).mono fun e w' ⟨h1, n, h2⟩ => ?_
    have h3 := St.row (l' := Lib.compact l ++ List.replicate (l.length - (Lib.compact l).length) []) n #[] hw (by simp; omega)
    rw [Go.Sort.grow_empty, ← h2, List.map_append, List.append_assoc] at h3
    refine ⟨I, _, h3, some (b, c, (List.replicate (l.length - (Lib.compact l).length) []).map str ++ sp), ⟨g1, by simp, by simp; omega⟩, h1, rfl⟩
theorem gOk_len {base sz n : Nat} {xs ys : List Value} {g : Gs} (h : gOk base sz n xs g) (hl : ys.length = xs.length) : gOk base sz n ys g := by
  cases g with
  | none =>
    obtain ⟨h1, h2⟩ := h
    exact ⟨h1, List.length_eq_zero_iff.1 (by rw [hl, h2]; rfl)⟩
  | some q =>
    obtain ⟨b, c, sp⟩ := q
    obtain ⟨h1, h2, h3⟩ := h
    exact ⟨h1, by rw [hl]; exact h2, by rw [hl]; exact h3⟩
theorem len_one {α : Type} (l : List α) (x : α) : (l ++ [x]).length = l.length + 1 := by simp
def rawB (l : List Ke.Fld) : List (List UInt8) := l.flatMap Ke.books
theorem rawB_next {fs : List Ke.Fld} {k : Nat} {f : Ke.Fld} (h : fs[k]? = some f) : rawB (fs.take (k + 1)) = rawB (fs.take k) ++ Ke.books f := by
  obtain ⟨hlt, hg⟩ := List.getElem?_eq_some_iff.1 h
  unfold rawB
  rw [List.take_succ_eq_append_getElem hlt, hg, List.flatMap_append]; simp
def bk (l : List Ke.Sub) : List (List UInt8) := l.filterMap Ke.book
theorem bk_next {ss : List Ke.Sub} {k : Nat} {s : Ke.Sub} (h : ss[k]? = some s) : bk (ss.take (k + 1)) = bk (ss.take k) ++ (Ke.book s).toList := by
  obtain ⟨hlt, hg⟩ := List.getElem?_eq_some_iff.1 h
  unfold bk
  rw [List.take_succ_eq_append_getElem hlt, hg, List.filterMap_append]
  cases hb : Ke.book s <;> simp [hb]
theorem bk_len (l : List Ke.Sub) : (bk l).length ≤ l.length := List.length_filterMap_le _ _
theorem books_len (f : Ke.Fld) : (Ke.books f).length ≤ f.subs.length := by
  unfold Ke.books; split
  · exact List.length_filterMap_le _ _
  · exact Nat.zero_le _
theorem rawB_len : ∀ {l : List Ke.Fld}, (∀ f ∈ l, f.subs.length ≤ 2000000) → (rawB l).length ≤ 2000000 * l.length
  | [], _ => Nat.zero_le _
  | f :: r, h => by
    have h1 := books_len f; have h2 := h f (.head _); have h3 := rawB_len fun g hg => h g (.tail _ hg)
    unfold rawB at h3 ⊢
    simp only [List.flatMap_cons, List.length_append, List.length_cons]; omega
theorem text_le {ss : List Ke.Sub} {s : Ke.Sub} (h : s ∈ ss) : s.text.length ≤ textsLen ss := by
  induction ss with
  | nil => cases h
  | cons t r ih =>
    unfold textsLen at ih ⊢
    rw [List.map_cons, List.sum_cons]
    rcases List.mem_cons.1 h with rfl | h
    · omega
    · have := ih h; omega
theorem isbn_len (s : List UInt8) : (Ke.isbn s).1.length ≤ s.length + 13 := by
  have h := norm_len s
  unfold Ke.isbn Ke.isbnN
  split
  · simp; omega
  · split
    · exact Nat.le_trans h (Nat.le_add_right _ _)
    · exact Nat.zero_le _
theorem book_some {s : Ke.Sub} (h1 : (Ke.isbn s.text).2 = true) (h2 : ((s.code.toNat : Int) == 97) = true) : Ke.book s = some (Ke.isbnPre ++ (Ke.isbn s.text).1) := by
  have h3 : (s.code.toNat : Int) = 97 := eq_of_beq h2
  exact if_pos ⟨h1, UInt8.toNat_inj.1 (by rw [show (97 : UInt8).toNat = 97 from rfl]; omega)⟩
theorem book_none {s : Ke.Sub} (h : ((Ke.isbn s.text).2 && ((s.code.toNat : Int) == 97)) = false) : Ke.book s = none := by
  refine if_neg fun ⟨h1, h2⟩ => ?_
  rw [h1, h2] at h; exact absurd h (by decide)
theorem head_of {l : List (List UInt8)} {x : List UInt8} (h : l[0]? = some x) : l = x :: l.tail := by
  cases l with
  | nil => simp at h
  | cons a r => simp at h; subst h; rfl
theorem title_len {fs : List Ke.Fld} (hok : FOK fs) : (Ke.title fs).length ≤ 100000000 := by
  have h1 := first_ok [50, 52, 53] hok
  have h2 := textOf_len (Ke.first fs [50, 52, 53]) [97, 98]
  have h3 := Ke.sort_len (Ke.cut (Ke.textOf (Ke.first fs [50, 52, 53]) [97, 98]) (Ke.skip (Ke.first fs [50, 52, 53]) : Int))
  have h4 : (Ke.cut (Ke.textOf (Ke.first fs [50, 52, 53]) [97, 98]) (Ke.skip (Ke.first fs [50, 52, 53]) : Int)).length ≤ (Ke.textOf (Ke.first fs [50, 52, 53]) [97, 98]).length := by unfold Ke.cut; simp
  unfold Ke.title Ke.sortKey
  omega
set_option maxRecDepth 20000 in
set_option maxHeartbeats 1000000 in
theorem All_ok (fs : List Ke.Fld) (v : Value) (rk rl : UInt8) (hok : FOK fs) (I : Heap) (hr : RecS I fs v) : Ctr Tryz.prog 18 [recV rk rl v] I [] (fun e I' H' => ∃ w, e = .returned w ∧ StrS 9 I' (Ke.all fs) w ∧ H' = []) := by
 have hfs := hok.1
 obtain ⟨p, c, rfl, hc, hp⟩ := id hr.1
 have hTl := title_len hok
 have hfo := first_ok [49, 48, 48] hok
 have hal0 := textOf_len (Ke.first fs [49, 48, 48]) [97]
 obtain ⟨p1, n1, c1, hsv1⟩ := first_sv [49, 48, 48] hr
 refine Ctr.of_bodyM Tryz.func18 rfl (by decide) (Nat.le_of_ble_eq_true rfl) ?_
 intro w0 hw0
 refine Cj.seq (Cj.region (J.op rfl (op_box rfl rfl rfl rfl rfl ?_)))
 intro b1 hb1
 refine J.z (yl_assign rfl rfl) ?_
 refine J.nil (Ej.seq (Cj.seq (Cj.region (J.z (yl_assign rfl rfl) ?_))))
 refine J.nil (Ej.seq (Cj.seq (Cj.seq (Cj.region (J.z (yl_fieldAddr (off' := 2) rfl rfl Tryz.underlying26 rfl Tryz.sizeOf23 rfl) ?_)))))
 refine J.z (yl_load rfl rfl Tryz.isAgg23 (Blk.at 0 rfl) rfl) ?_
 refine J.z (yl_lenSlice rfl rfl Tryz.underlying23) ?_
 refine J.z (yl_move rfl rfl) ?_
 refine J.nil (Ej.seq (Cj.block (Cj.loop (ι := Nat × Gs) (fun j => j.1 ≤ fs.length ∧ gOk w0.heap.size 1 (rawB (fs.take j.1)).length ((rawB (fs.take j.1)).map str) j.2) (fun j => fs.length - j.1) (fun j => [(1, ptr b1 0), (3, gV (rawB (fs.take j.1)).length j.2), (16, .slice p fs.length c), (17, i64 (fs.length : Int)), (18, i64 (j.1 : Int))]) (fun j => _) (fun j => (b1, cel 26 [u8 rk, u8 rl, .slice p fs.length c]) :: gH 9 ((rawB (fs.take j.1)).map str) j.2) (0, none) ⟨Nat.zero_le _, rfl, rfl⟩ ⟨rfl, rfl, rfl, rfl, rfl, trivial⟩ rfl rfl ?_)))
 rintro ⟨j, g⟩ ⟨hj, hg⟩
 dsimp only at hj hg ⊢
 have hrl := rawB_len (l := fs.take j) fun f hf => (hok.2 f (List.mem_of_mem_take hf)).1
 rw [List.length_take, Nat.min_eq_left hj] at hrl
 refine Cj.seq (Cj.region (J.z (yl_lss rfl rfl rfl) ?_))
 refine J.nil (Ej.seq (Cj.seq (Cj.cond rfl (fun hc2 => ?_) (fun hc2 => ?_))))
 ·
  have hc2p := of_decide_eq_true hc2
  have hlt : j < fs.length := by omega
  obtain ⟨f, hget⟩ : ∃ f, fs[j]? = some f := ⟨_, List.getElem?_eq_getElem hlt⟩
  have hnx := rawB_next hget
  have hfm := List.mem_of_getElem? hget
  have hfk := hok.2 f hfm
  obtain ⟨p2, c2, hsv, hc2, hp2⟩ := hr.2 f hfm
  obtain ⟨fb, fo, fcs, fty, ffr, sp, rfl, hfb, hfd⟩ := hp (ne_nil_of hlt)
  refine Cj.skip (Ej.seq (Cj.seq (Cj.block (Cj.seq (Cj.region (J.z (yl_indexAddr (off' := fo + j * 4) rfl rfl rfl Tryz.underlying23 Tryz.sizeOf35 (by omega) (by omega) (by simp)) ?_))))))
  refine J.z (yl_loadAgg rfl rfl Tryz.isAgg35 Tryz.sizeOf35 (Blk.imm hfb) (row_from fldC_len hfd hget) rfl) ?_
  refine J.op rfl (op_alloc rfl rfl rfl Tryz.zeroValue35 rfl ?_)
  intro b3 hb3
  refine J.op rfl (op_store 0 rfl rfl rfl rfl rfl (fldC_one hsv) Tryz.sizeOf35 rfl rfl (LSpl.c (LSpl.c (LSpl.c (LSpl.c LSpl.z)))) LSet.z ?_)
  refine J.nil (Ej.seq (Cj.seq (Cj.seq (Cj.region (J.z (yl_fieldAddr (off' := 0) rfl rfl Tryz.underlying35 rfl Tryz.sizeOf9 rfl) ?_)))))
  refine J.z (yl_load rfl rfl Tryz.isAgg9 (Blk.at 0 rfl) rfl) ?_
  refine J.z (yl_neqStr rfl rfl rfl) ?_
  refine J.nil (Ej.seq (Cj.cond rfl (fun hc4 => ?_) (fun hc4 => ?_)))
  ·
   have hc4p := bne_iff_ne.1 hc4
   have hbk : Ke.books f = [] := if_neg (bne_iff_ne.1 hc4)
   refine Cj.exit (Ej.seqExit (Ej.blkExit (Ej.seq (Cj.region (J.z (yl_add rfl rfl rfl (w64 (by omega))) ?_)))))
   refine J.z (yl_move rfl rfl) ?_
   refine J.nil (Ej.keep (Keeps.d (Keeps.k Keeps.r)) ?_)
   refine Ej.round (j + 1, g) ⟨by dsimp only; omega, by dsimp only; rw [hnx, hbk, List.append_nil]; exact hg⟩ (by dsimp only; omega) ⟨rfl, by dsimp only; rw [hnx, hbk, List.append_nil]; rfl, rfl, rfl, rfl, trivial⟩ rfl (by dsimp only; rw [hnx, hbk, List.append_nil])
  ·
   have hc4p := bne_f hc4
   have htg : f.tag = [48, 50, 48] := by have h := hc4; simpa using h
   refine Cj.skip (Ej.seq (Cj.seq (Cj.region (J.z (yl_fieldAddr (off' := 3) rfl rfl Tryz.underlying35 rfl Tryz.sizeOf33 rfl) ?_))))
   refine J.z (yl_load rfl rfl Tryz.isAgg33 (Blk.at 0 rfl) rfl) ?_
   refine J.eqv 26 rfl (show _ = .slice p2 f.subs.length c2 from hsv) ?_
   refine J.z (yl_lenSlice rfl rfl Tryz.underlying33) ?_
   refine J.z (yl_move rfl rfl) ?_
   refine J.nil (Ej.seq (Cj.block (Cj.keep (Keeps.d (Keeps.k Keeps.r)) ?_)))
   refine Cj.loop (ι := Nat × Gs) (fun k => k.1 ≤ f.subs.length ∧ gOk w0.heap.size 1 (rawB (fs.take j) ++ bk (f.subs.take k.1)).length ((rawB (fs.take j) ++ bk (f.subs.take k.1)).map str) k.2) (fun k => f.subs.length - k.1) (fun k => [(1, ptr b1 0), (3, gV (rawB (fs.take j) ++ bk (f.subs.take k.1)).length k.2), (16, .slice (some ⟨fb, fo, none⟩) fs.length c), (17, i64 (fs.length : Int)), (18, i64 (j : Int)), (26, .slice p2 f.subs.length c2), (27, i64 (f.subs.length : Int)), (28, i64 (k.1 : Int))]) (fun k => _) (fun k => (b1, cel 26 [u8 rk, u8 rl, .slice (some ⟨fb, fo, none⟩) fs.length c]) :: gH 9 ((rawB (fs.take j) ++ bk (f.subs.take k.1)).map str) k.2) (0, g) ⟨Nat.zero_le _, by rw [show bk (f.subs.take 0) = [] from rfl, List.append_nil]; exact hg⟩ ⟨rfl, by rw [show bk (f.subs.take 0) = [] from rfl, List.append_nil]; rfl, rfl, rfl, rfl, rfl, rfl, rfl, trivial⟩ rfl (by rw [show bk (f.subs.take 0) = [] from rfl, List.append_nil]) ?_
   rintro ⟨k, h⟩ ⟨hk, hh⟩
   dsimp only at hk hh ⊢
   have hbl := bk_len (f.subs.take k)
   rw [List.length_take, Nat.min_eq_left hk] at hbl
   have hal : (rawB (fs.take j) ++ bk (f.subs.take k)).length = (rawB (fs.take j)).length + (bk (f.subs.take k)).length := List.length_append
   refine Cj.seq (Cj.region (J.z (yl_lss rfl rfl rfl) ?_))
   refine J.nil (Ej.seq (Cj.seq (Cj.cond rfl (fun hc5 => ?_) (fun hc5 => ?_))))
   ·
    have hc5p := of_decide_eq_true hc5
    have hklt : k < f.subs.length := by omega
    obtain ⟨x, hsget⟩ : ∃ x, f.subs[k]? = some x := ⟨_, List.getElem?_eq_getElem hklt⟩
    obtain ⟨sbk, so, scs, sty, sfr, sp2, rfl, hsbk, hsd⟩ := hp2 (ne_nil_of hklt)
    have hbn := bk_next hsget
    have hxl := text_le (List.mem_of_getElem? hsget)
    have hil := isbn_len x.text
    refine Cj.skip (Ej.seq (Cj.seq (Cj.block (Cj.seq (Cj.region (J.z (yl_indexAddr (off' := so + k * 2) rfl rfl rfl Tryz.underlying33 Tryz.sizeOf47 (by omega) (by omega) (by simp)) ?_))))))
    refine J.z (yl_loadAgg rfl rfl Tryz.isAgg47 Tryz.sizeOf47 (Blk.imm hsbk) (row_from subC_len hsd hsget) rfl) ?_
    refine J.op rfl (op_alloc rfl rfl rfl Tryz.zeroValue47 rfl ?_)
    intro b6 hb6
    refine J.op rfl (op_store 0 rfl rfl rfl rfl rfl rfl Tryz.sizeOf47 rfl rfl (LSpl.c (LSpl.c LSpl.z)) LSet.z ?_)
    refine J.nil (Ej.seq (Cj.seq (Cj.region (J.z (yl_fieldAddr (off' := 1) rfl rfl Tryz.underlying47 rfl Tryz.sizeOf9 rfl) ?_))))
    refine J.z (yl_load rfl rfl Tryz.isAgg9 (Blk.at 0 rfl) rfl) ?_
    refine J.op rfl (op_pure rfl rfl rfl rfl rfl (Isbn_ok x.text (by omega) _) ?_)
    refine J.z (yl_move rfl rfl) ?_
    refine J.z (yl_extract rfl rfl rfl) ?_
    refine J.z (yl_extract rfl rfl rfl) ?_
    refine J.z (yl_assign rfl rfl) ?_
    refine J.z (yl_assign rfl rfl) ?_
    refine J.nil (Ej.seq (Cj.seq (Cj.region (J.z (yl_move rfl rfl) ?_))))
    refine J.z (yl_move rfl rfl) ?_
    refine J.split 39 rfl (fun hg7 => ?_) (fun hg7 => ?_)
    ·
     have hi : (Ke.isbn x.text).2 = true := hg7
     refine J.opG 1 39 true _ rfl rfl rfl hg7 (op_yld (yl_fieldAddr (off' := 0) rfl rfl Tryz.underlying47 rfl Tryz.sizeOf5 rfl) rfl rfl ?_)
     refine J.opG 1 39 true _ rfl rfl rfl hg7 (op_yld (yl_load rfl rfl Tryz.isAgg5 (Blk.at 0 rfl) rfl) rfl rfl ?_)
     refine J.opG 1 39 true _ rfl rfl rfl hg7 (op_yld (yl_eql rfl rfl rfl) rfl rfl ?_)
     refine J.z (yl_pick1 rfl rfl hg7 rfl) ?_
     refine J.nil (Ej.seq (Cj.cond rfl (fun hc8 => ?_) (fun hc8 => ?_)))
     ·
      have hc8p := eq_of_beq hc8
      have hbs := book_some hi hc8
      refine Cj.region (J.z (yl_move rfl rfl) ?_)
      refine J.z (yl_move rfl rfl) ?_
      refine J.z (yl_cat rfl rfl rfl (by first | omega | (simp only [List.length_append]; omega) | (simp; omega))) ?_
      refine J.op rfl (op_buildSlice rfl rfl rfl Tryz.underlying31 Tryz.sizeOf9 Tryz.zeroValue9 rfl rfl rfl rfl (LCat.one rfl LCat.none) ?_)
      intro b9 hb9
      refine J.op rfl (op_append (by' := 15) [_, _, _] rfl rfl rfl rfl rfl Tryz.underlying31 (.inr ⟨_, Tryz.underlying31⟩) (by kernel_rfl) Tryz.sizeOf9 Tryz.zeroValue9 rfl hh rfl (Src.slice (Blk.at 0 rfl) rfl rfl rfl) (by omega) ?_)
      intro g10 hg10
      refine J.z (yl_assign rfl rfl) ?_
      refine J.nil (Ej.blkNormal (Ej.seq (Cj.region (J.z (yl_add rfl rfl rfl (w64 (by omega))) ?_))))
      refine J.z (yl_move rfl rfl) ?_
      refine J.nil (Ej.keep (Keeps.d (Keeps.d (Keeps.k Keeps.r))) ?_)
      refine Ej.round (k + 1, g10) ⟨by dsimp only; omega, by dsimp only; rw [hbn, hbs, Option.toList, ← List.append_assoc, List.map_append, len_one]; exact hg10⟩ (by dsimp only; omega) ⟨rfl, by dsimp only; rw [hbn, hbs, Option.toList, ← List.append_assoc, len_one]; rfl, rfl, rfl, rfl, rfl, rfl, rfl, trivial⟩ rfl (by dsimp only; rw [hbn, hbs, Option.toList, ← List.append_assoc, List.map_append]; rfl)
     ·
      have hc8p := ne_of_beq_false hc8
      have hbs : Ke.book x = none := book_none (by rw [hi]; exact hc8)
      refine Cj.skip (Ej.blkNormal (Ej.seq (Cj.region (J.z (yl_add rfl rfl rfl (w64 (by omega))) ?_))))
      refine J.z (yl_move rfl rfl) ?_
      refine J.nil (Ej.keep (Keeps.d (Keeps.k Keeps.r)) ?_)
      refine Ej.round (k + 1, h) ⟨by dsimp only; omega, by dsimp only; rw [hbn, hbs, Option.toList, List.append_nil]; exact hh⟩ (by dsimp only; omega) ⟨rfl, by dsimp only; rw [hbn, hbs, Option.toList, List.append_nil]; rfl, rfl, rfl, rfl, rfl, rfl, rfl, trivial⟩ rfl (by dsimp only; rw [hbn, hbs, Option.toList, List.append_nil])
    ·
     have hi : (Ke.isbn x.text).2 = false := hg7
     have hbs : Ke.book x = none := book_none (by rw [hi]; rfl)
     refine J.skip 1 39 40 true _ rfl rfl rfl hg7 rfl rfl ?_
     refine J.skip 1 39 41 true _ rfl rfl rfl hg7 rfl rfl ?_
     refine J.skip 1 39 42 true _ rfl rfl rfl hg7 rfl rfl ?_
     refine J.z (yl_pick0 rfl rfl hg7 rfl) ?_
     refine J.nil (Ej.seq (Cj.cond rfl (fun hc11 => Bool.noConfusion (Eq.trans (Eq.symm rfl) hc11)) (fun hc11 => ?_)))
     refine Cj.skip (Ej.blkNormal (Ej.seq (Cj.region (J.z (yl_add rfl rfl rfl (w64 (by omega))) ?_))))
     refine J.z (yl_move rfl rfl) ?_
     refine J.nil (Ej.keep (Keeps.d (Keeps.k Keeps.r)) ?_)
     refine Ej.round (k + 1, h) ⟨by dsimp only; omega, by dsimp only; rw [hbn, hbs, Option.toList, List.append_nil]; exact hh⟩ (by dsimp only; omega) ⟨rfl, by dsimp only; rw [hbn, hbs, Option.toList, List.append_nil]; rfl, rfl, rfl, rfl, rfl, rfl, rfl, trivial⟩ rfl (by dsimp only; rw [hbn, hbs, Option.toList, List.append_nil])
   ·
    have hc5p := of_decide_eq_false hc5
    have hsf : f.subs.take k = f.subs := List.take_of_length_le (by omega)
    have htk : rawB (fs.take j) ++ Ke.books f = rawB (fs.take j) ++ bk (f.subs.take k) := by rw [hsf]; unfold Ke.books; rw [if_pos htg]; rfl
    refine Cj.exit (Ej.seqExit (Ej.loopExit (Ej.blkExit (Ej.blkNormal (Ej.seq (Cj.region (J.z (yl_add rfl rfl rfl (w64 (by omega))) ?_)))))))
    refine J.z (yl_move rfl rfl) ?_
    refine J.nil (Ej.round (j + 1, h) ⟨by dsimp only; omega, by dsimp only; rw [hnx, htk]; exact hh⟩ (by dsimp only; omega) ⟨rfl, by dsimp only; rw [hnx, htk]; rfl, rfl, rfl, rfl, trivial⟩ rfl (by dsimp only; rw [hnx, htk]))
 ·
  have hc2p := of_decide_eq_false hc2
  have hfull : fs.take j = fs := List.take_of_length_le (by omega)
  refine Cj.exit (Ej.seqExit (Ej.loopExit (Ej.blkExit (Ej.seq (Cj.seq (Cj.seq (Cj.region (J.z (yl_loadAgg rfl rfl Tryz.isAgg26 Tryz.sizeOf26 (Blk.at 0 rfl) rfl rfl) ?_))))))))
  refine J.op rfl (op_pure rfl rfl rfl rfl rfl (Title_ok fs _ rk rl hok _ hr) ?_)
  refine J.z (yl_assign rfl rfl) ?_
  refine J.nil (Ej.seq (Cj.seq (Cj.region (J.z (yl_move rfl rfl) ?_))))
  refine J.z (yl_neqStr rfl rfl rfl) ?_
  refine J.nil (Ej.seq (Cj.cond rfl (fun hc12 => ?_) (fun hc12 => ?_)))
  ·
   have hc12p := bne_iff_ne.1 hc12
   have hT : Ke.title fs ≠ [] := bne_iff_ne.1 hc12
   refine Cj.seq (Cj.region (J.z (yl_loadAgg rfl rfl Tryz.isAgg26 Tryz.sizeOf26 (Blk.at 0 rfl) rfl rfl) ?_))
   refine J.op rfl (op_call (H1 := []) rfl rfl rfl rfl rfl (text_ok fs _ rk rl [49, 48, 48] [97] hok _ hr) ?_ (fun _ _ _ _ h => by cases h.1) (fun _ _ h => by cases h.1))
   intro v13 I14 H15 hle16 hp17
   have hr := hr.mono hle16
   obtain ⟨h, rfl⟩ := hp17; cases h
   refine J.z (yl_move rfl rfl) ?_
   refine J.z (yl_extract rfl rfl rfl) ?_
   refine J.z (yl_extract rfl rfl rfl) ?_
   refine J.op rfl (op_alloc rfl rfl rfl Tryz.zeroValue35 rfl ?_)
   intro b18 hb18
   refine J.z (yl_assign rfl rfl) ?_
   refine J.op rfl (op_store 0 rfl rfl rfl rfl rfl (fldC_one hsv1) Tryz.sizeOf35 rfl rfl (LSpl.c (LSpl.c (LSpl.c (LSpl.c LSpl.z)))) LSet.z ?_)
   refine J.nil (Ej.seq (Cj.seq (Cj.region (J.op rfl (op_alloc rfl rfl rfl Tryz.zeroValue9 rfl ?_)))))
   intro b19 hb19
   refine J.op rfl (op_store 0 rfl rfl rfl rfl rfl rfl Tryz.sizeOf9 rfl rfl (LSpl.c LSpl.z) LSet.z ?_)
   refine J.nil (Ej.seq (Cj.seq (Cj.seq (Cj.region (J.z (yl_move rfl rfl) ?_)))))
   refine J.op rfl (op_callN rfl rfl rfl rfl rfl (words_ok (Ke.textOf (Ke.first fs [49, 48, 48]) [97]) _) ?_ (fun _ _ _ _ h => by obtain ⟨_, h, _⟩ := h; cases h) (fun _ _ h => by obtain ⟨_, h, _⟩ := h; cases h))
   intro v21 I22 H23 hle24 hn20 hp25
   have hr := hr.mono hle24
   obtain ⟨sb, h, rfl⟩ := hp25; cases h
   refine J.persist (hn20 _ (.head _)) (fun I9 hle9 hsb => ?_)
   refine J.nil (Ej.seq (Cj.block (Cj.rangeFunc (ps := [62]) (H1 := [_]) (R := (_ :: _ :: gH _ _ _)) ((Ke.words (Ke.textOf (Ke.first fs [49, 48, 48]) [97])).map fun w => [str w]) (fun k I' H' => k = 0 ∧ H' = [(b19, cel 9 [str []])]) (fun cc I' H' => cc = .exit 4 ∧ ∃ x r, Ke.words (Ke.textOf (Ke.first fs [49, 48, 48]) [97]) = x :: r ∧ H' = [(b19, cel 9 [str x])]) rfl (one_blt rfl) (seq1 _ _) rfl (words1_ok sb _ (by omega) _ hsb) (fun _ _ _ _ _ h => h) ⟨rfl, rfl⟩ ?_ ?_ ?_)))
   ·
    intro l r k args I1 Hk w1 hk hle hY
    have hsb := hle _ _ hsb
    obtain ⟨x, hx, rfl⟩ := seq1_at hk
    obtain ⟨rfl, rfl⟩ := hY
    refine Cj.region (J.z (yl_assign rfl rfl) ?_)
    refine J.nil (Ej.asg ?_)
    refine Cj.block (Cj.seq (Cj.region (J.z (yl_move rfl rfl) ?_)))
    refine J.op rfl (op_store 1 rfl rfl rfl rfl rfl rfl Tryz.sizeOf9 rfl rfl (LSpl.c LSpl.z) (LSet.s LSet.z) ?_)
    refine J.nil (Ej.seq (Cj.exit (Ej.blkOther rfl ?_)))
    exact Ej.rdExit ⟨rfl, x, _, head_of hx, rfl⟩
   ·
    intro mb26 I2 H2 hle hY
    have hsb := hle _ _ hsb
    rw [List.length_map] at hY
    obtain ⟨hk0, rfl⟩ := hY
    have hau : ((Ke.words (Ke.textOf (Ke.first fs [49, 48, 48]) [97])).head?.getD []) = [] := by rw [List.length_eq_zero_iff.1 hk0]; rfl
    refine Ej.blkNormal (Ej.seq (Cj.region (J.z (yl_move rfl rfl) ?_)))
    refine J.z (yl_move rfl rfl) ?_
    refine J.z (yl_cat rfl rfl rfl (by first | omega | (simp only [List.length_append]; omega) | (simp; omega))) ?_
    refine J.z (yl_cat rfl rfl rfl (by first | omega | (simp only [List.length_append]; omega) | (simp; omega))) ?_
    refine J.z (yl_load rfl rfl Tryz.isAgg9 (Blk.at 1 rfl) rfl) ?_
    refine J.z (yl_cat rfl rfl rfl (by first | omega | (simp only [List.length_append]; omega) | (simp; omega))) ?_
    refine J.op rfl (op_buildSlice rfl rfl rfl Tryz.underlying31 Tryz.sizeOf9 Tryz.zeroValue9 rfl rfl rfl rfl (LCat.one rfl LCat.none) ?_)
    intro b27 hb27
    refine J.op rfl (op_append (by' := 15) [_, _, _, _, _] rfl rfl rfl rfl rfl Tryz.underlying31 (.inr ⟨_, Tryz.underlying31⟩) (by kernel_rfl) Tryz.sizeOf9 Tryz.zeroValue9 rfl hg rfl (Src.slice (Blk.at 0 rfl) rfl rfl rfl) (by omega) ?_)
    intro g28 hg28
    refine J.z (yl_assign rfl rfl) ?_
    refine J.nil (Ej.seq (Cj.seq (Cj.keep (Keeps.d (Keeps.k (Keeps.d (Keeps.d (Keeps.d Keeps.r))))) ?_)))
    refine Cj.perm (H' := gH _ _ _ ++ [_]) List.perm_append_comm ?_
    have hraw : rawB (fs.take j) ++ [[116, 105, 116, 108, 101, 32] ++ Ke.title fs ++ [32, 47, 32] ++ []] = Ke.raw fs := by unfold Ke.raw Ke.titles; rw [hfull, if_neg hT, hau]; rfl
    have hgr : gOk w0.heap.size 1 (Ke.raw fs).length ((Ke.raw fs).map str) g28 := by rw [← hraw, List.map_append, List.length_append]; exact hg28
    have hrw : (Ke.raw fs).length ≤ 100000000000000 := by rw [← hraw]; simp; omega
    refine Cj.region (J.z (yl_move rfl rfl) ?_)
    refine J.eqv 72 rfl (show _ = gV (Ke.raw fs).length g28 from (by rw [← hraw, List.length_append]; rfl)) ?_
    rw [show gH 9 _ g28 = gH 9 ((Ke.raw fs).map str) g28 from congrArg (fun l => gH 9 l g28) (by rw [← hraw, List.map_append]; rfl)]
    refine J.op rfl (op_call (H1 := gH _ _ _) rfl rfl rfl rfl rfl (SortG_ok (Ke.raw fs) _ hgr hrw _) ?_ (fun _ _ _ _ h => by cases h.1) (fun _ _ h => by cases h.1))
    rintro v9 I9 H9 hle9 ⟨h, rfl⟩; cases h
    refine J.nil (Ej.seq (Cj.seq (Cj.region (J.z (yl_move rfl rfl) ?_))))
    refine J.eqv 74 rfl (show _ = gV ((Ke.raw fs).mergeSort fun x y => decide (x ≤ y)).length g28 from (by rw [List.length_mergeSort, ← hraw, List.length_append]; rfl)) ?_
    refine J.op rfl (op_call (H1 := gH _ _ _) rfl rfl rfl rfl rfl (CompactG_ok ((Ke.raw fs).mergeSort fun x y => decide (x ≤ y)) _ (by rw [List.length_mergeSort]; exact gOk_len hgr (by simp)) (by rw [List.length_mergeSort]; exact hrw) _) ?_ (fun _ _ _ _ h => by obtain ⟨_, _, h, _⟩ := h; cases h) (fun _ _ h => by obtain ⟨_, _, h, _⟩ := h; cases h))
    rintro v8 I8 H8 hle8 ⟨g2, hg2, h, rfl⟩; cases h
    refine J.keepS hg2 (fun I7 hle7 hv => ?_)
    refine J.z (yl_assign rfl rfl) ?_
    refine J.nil (Ej.seq (Cj.ret (Ej.leaveM (.inl rfl) ?_)))
    refine LvJ.mark 0 rfl LSet.z ?_
    refine LvJ.keep (List.nil_sublist _) ?_
    exact LvJ.ret1 rfl rfl ⟨_, rfl, (by rw [show Ke.all fs = _ from (Ke.compact_sorted _).symm]; exact hv), rfl⟩
   ·
    intro mb29 cc I2 H2 hle hY
    have hsb := hle _ _ hsb
    obtain ⟨rfl, x, r, hwr, rfl⟩ := hY
    have hau : ((Ke.words (Ke.textOf (Ke.first fs [49, 48, 48]) [97])).head?.getD []) = x := by rw [hwr]; rfl
    have hxl := Ke.words_each _ x (by rw [hwr]; exact List.mem_cons_self)
    refine Cj.exit (Ej.blkExit (Ej.seq (Cj.region (J.z (yl_move rfl rfl) ?_))))
    refine J.z (yl_move rfl rfl) ?_
    refine J.z (yl_cat rfl rfl rfl (by first | omega | (simp only [List.length_append]; omega) | (simp; omega))) ?_
    refine J.z (yl_cat rfl rfl rfl (by first | omega | (simp only [List.length_append]; omega) | (simp; omega))) ?_
    refine J.z (yl_load rfl rfl Tryz.isAgg9 (Blk.at 1 rfl) rfl) ?_
    refine J.z (yl_cat rfl rfl rfl (by first | omega | (simp only [List.length_append]; omega) | (simp; omega))) ?_
    refine J.op rfl (op_buildSlice rfl rfl rfl Tryz.underlying31 Tryz.sizeOf9 Tryz.zeroValue9 rfl rfl rfl rfl (LCat.one rfl LCat.none) ?_)
    intro b30 hb30
    refine J.op rfl (op_append (by' := 15) [_, _, _, _, _] rfl rfl rfl rfl rfl Tryz.underlying31 (.inr ⟨_, Tryz.underlying31⟩) (by kernel_rfl) Tryz.sizeOf9 Tryz.zeroValue9 rfl hg rfl (Src.slice (Blk.at 0 rfl) rfl rfl rfl) (by omega) ?_)
    intro g31 hg31
    refine J.z (yl_assign rfl rfl) ?_
    refine J.nil (Ej.seq (Cj.seq (Cj.keep (Keeps.d (Keeps.k (Keeps.d (Keeps.d (Keeps.d Keeps.r))))) ?_)))
    refine Cj.perm (H' := gH _ _ _ ++ [_]) List.perm_append_comm ?_
    have hraw : rawB (fs.take j) ++ [[116, 105, 116, 108, 101, 32] ++ Ke.title fs ++ [32, 47, 32] ++ x] = Ke.raw fs := by unfold Ke.raw Ke.titles; rw [hfull, if_neg hT, hau]; rfl
    have hgr : gOk w0.heap.size 1 (Ke.raw fs).length ((Ke.raw fs).map str) g31 := by rw [← hraw, List.map_append, List.length_append]; exact hg31
    have hrw : (Ke.raw fs).length ≤ 100000000000000 := by rw [← hraw]; simp; omega
    refine Cj.region (J.z (yl_move rfl rfl) ?_)
    refine J.eqv 72 rfl (show _ = gV (Ke.raw fs).length g31 from (by rw [← hraw, List.length_append]; rfl)) ?_
    rw [show gH 9 _ g31 = gH 9 ((Ke.raw fs).map str) g31 from congrArg (fun l => gH 9 l g31) (by rw [← hraw, List.map_append]; rfl)]
    refine J.op rfl (op_call (H1 := gH _ _ _) rfl rfl rfl rfl rfl (SortG_ok (Ke.raw fs) _ hgr hrw _) ?_ (fun _ _ _ _ h => by cases h.1) (fun _ _ h => by cases h.1))
    rintro v9 I9 H9 hle9 ⟨h, rfl⟩; cases h
    refine J.nil (Ej.seq (Cj.seq (Cj.region (J.z (yl_move rfl rfl) ?_))))
    refine J.eqv 74 rfl (show _ = gV ((Ke.raw fs).mergeSort fun x y => decide (x ≤ y)).length g31 from (by rw [List.length_mergeSort, ← hraw, List.length_append]; rfl)) ?_
    refine J.op rfl (op_call (H1 := gH _ _ _) rfl rfl rfl rfl rfl (CompactG_ok ((Ke.raw fs).mergeSort fun x y => decide (x ≤ y)) _ (by rw [List.length_mergeSort]; exact gOk_len hgr (by simp)) (by rw [List.length_mergeSort]; exact hrw) _) ?_ (fun _ _ _ _ h => by obtain ⟨_, _, h, _⟩ := h; cases h) (fun _ _ h => by obtain ⟨_, _, h, _⟩ := h; cases h))
    rintro v8 I8 H8 hle8 ⟨g2, hg2, h, rfl⟩; cases h
    refine J.keepS hg2 (fun I7 hle7 hv => ?_)
    refine J.z (yl_assign rfl rfl) ?_
    refine J.nil (Ej.seq (Cj.ret (Ej.leaveM (.inl rfl) ?_)))
    refine LvJ.mark 0 rfl LSet.z ?_
    refine LvJ.keep (List.nil_sublist _) ?_
    exact LvJ.ret1 rfl rfl ⟨_, rfl, (by rw [show Ke.all fs = _ from (Ke.compact_sorted _).symm]; exact hv), rfl⟩
  ·
   have hc12p := bne_f hc12
   have hT : Ke.title fs = [] := by have h := hc12; simpa using h
   refine Cj.skip (Ej.seq (Cj.seq (Cj.keep (Keeps.d Keeps.r) ?_)))
   refine Cj.perm (H' := gH _ _ _ ++ []) (by rw [List.append_nil]) ?_
   have hraw : rawB (fs.take j) = Ke.raw fs := by unfold Ke.raw Ke.titles; rw [hfull, if_pos hT, List.append_nil]; rfl
   have hgr : gOk w0.heap.size 1 (Ke.raw fs).length ((Ke.raw fs).map str) g := by rw [← hraw]; exact hg
   have hrw : (Ke.raw fs).length ≤ 100000000000000 := by rw [← hraw]; omega
   refine Cj.region (J.z (yl_move rfl rfl) ?_)
   refine J.eqv 72 rfl (show _ = gV (Ke.raw fs).length g from (by rw [← hraw])) ?_
   rw [show gH 9 _ g = gH 9 ((Ke.raw fs).map str) g from congrArg (fun l => gH 9 l g) (by rw [← hraw])]
   refine J.op rfl (op_call (H1 := gH _ _ _) rfl rfl rfl rfl rfl (SortG_ok (Ke.raw fs) _ hgr hrw _) ?_ (fun _ _ _ _ h => by cases h.1) (fun _ _ h => by cases h.1))
   rintro v9 I9 H9 hle9 ⟨h, rfl⟩; cases h
   refine J.nil (Ej.seq (Cj.seq (Cj.region (J.z (yl_move rfl rfl) ?_))))
   refine J.eqv 74 rfl (show _ = gV ((Ke.raw fs).mergeSort fun x y => decide (x ≤ y)).length g from (by rw [List.length_mergeSort, ← hraw])) ?_
   refine J.op rfl (op_call (H1 := gH _ _ _) rfl rfl rfl rfl rfl (CompactG_ok ((Ke.raw fs).mergeSort fun x y => decide (x ≤ y)) _ (by rw [List.length_mergeSort]; exact gOk_len hgr (by simp)) (by rw [List.length_mergeSort]; exact hrw) _) ?_ (fun _ _ _ _ h => by obtain ⟨_, _, h, _⟩ := h; cases h) (fun _ _ h => by obtain ⟨_, _, h, _⟩ := h; cases h))
   rintro v8 I8 H8 hle8 ⟨g2, hg2, h, rfl⟩; cases h
   refine J.keepS hg2 (fun I7 hle7 hv => ?_)
   refine J.z (yl_assign rfl rfl) ?_
   refine J.nil (Ej.seq (Cj.ret (Ej.leaveM (.inl rfl) ?_)))
   refine LvJ.keep (List.nil_sublist _) ?_
   exact LvJ.ret1 rfl rfl ⟨_, rfl, (by rw [show Ke.all fs = _ from (Ke.compact_sorted _).symm]; exact hv), rfl⟩
end Go.Proofs.YtadnofaleepkmaaGreatDoor
end
section
namespace Go.Proofs.YtadnofaleepkmaaGreatDoor
open Go.ChangeShapes Go.WideShapes Go.ChangeAt Go.RowKit Go.Sx Go.Lib Go.ChangeMaps Go.WideMaps
theorem own : ownKnob Tryz.prog.godebug = none := by kernel_rfl
/-- The whole memory, as what stays. -/
def HW (W : World) : Heap := fun b => W.heap[b]?
theorem HW.ready (W : World) : Ready (HW W) [] W := ⟨fun _ _ h => h, by simp, by simp, by simp⟩
theorem HW.below {W w' : World} {I' : Heap} {H' : HL} (h : St W [] (HW W) I' H' w') : Below W.heap.size W w' := ⟨h.os, h.tape, h.output, h.size, fun b hb => h.frm b hb (by simp)⟩
theorem HW.calls {f : FuncId} {args : List Value} {W : World} {v : Value} (h : Sx.Pure Tryz.prog f args (HW W) v) : Calls Tryz.prog f args.toArray W fun e w' => e = .returned v ∧ Below W.heap.size W w' :=
  (h.2 W (HW.ready W)).mono fun _e _w' ⟨_I', _H', hs, h1, _, _⟩ => ⟨h1, HW.below hs⟩
/-- A post out of a growth: nothing that was there has turned; what is new may be frozen. -/
theorem post_grow {H : Type} {enc : TypeId × Value → H} {P : Program} {f : Func} {s : ChangeSpec} {apart fresh handsOn again : Bool} {W W' : World} {args : Array Value} {v : Value} {ds gs : List (DataW H)} {before pa pv : List MemPlace}
    (hB : Below W.heap.size W W') (hW : DataW.Whole enc P f.params.toList s.vars apart W args.toList ds gs before) (hps : before = pa ++ pv)
    (hres : ∀ (b : Nat) (sp : Nat → Bool) (hd : Bool), DataW.TrodAll enc P W' b sp hd f.resultTypes.toList (v.resultList f.resultTypes.size) (s.fn H (ds ++ gs)).results [])
    (hargs : ∀ sp : Nat → Bool, (∀ p ∈ before, sp p.block = true) → DataW.TrodAll enc P W' 0 sp true f.params.toList args.toList (s.fn H (ds ++ gs)).args pa)
    (hvars : ∀ sp : Nat → Bool, (∀ p ∈ before, sp p.block = true) → DataW.TrodVars enc P W' sp s.vars (s.fn H (ds ++ gs)).vars pv)
    (hok : ∀ (j : Nat) (t : TypeId) (r : Value), f.resultTypes[j]? = some t → (v.resultList f.resultTypes.size)[j]? = some r → Value.okWide P W' .any 0 t r) : s.post enc P f apart fresh handsOn again W args v W' := by
  have old : ∀ p ∈ before, p.block < W.heap.size := hW.lt
  have mem : ∀ p, p ∈ before ↔ p ∈ pa ∨ p ∈ pv := fun p => by rw [hps]; exact List.mem_append
  have both : ([] ++ pa) ++ pv = before := by rw [hps]; rfl
  refine ⟨ds, gs, before, [], pa, pv, hW, hres _ _ _, hargs _ fun p hp => decide_eq_true (old p hp), hvars _ fun p hp => decide_eq_true (old p hp), World.keptBut_mono (fun p hp => ⟨hp, .inr ((mem p).1 hp)⟩) (hB.frame (· ∈ before)), fun _ => ?_⟩
  have hrd := hargs (fun _ => true) fun _ _ => rfl
  obtain ⟨_, _, _, _, _, hfrz, hnd⟩ := hW
  refine ⟨hok, _, _, ([] ++ pa) ++ pv, ⟨[] ++ pa, pv, trodAll_append hrd (hres _ _ _), hvars _ fun _ _ => rfl, rfl, fun b off hp => ?_, fun ha => ?_⟩, fun p hp _ => ?_⟩
  · have hin : MemPlace.cell b off ∈ before := both ▸ hp
    have hlt : b < W.heap.size := old _ hin
    have hf := hfrz b off hin
    unfold World.frozen? at hf ⊢
    rw [hB.block b hlt]
    exact hf
  · exact both ▸ hnd ha
  · exact both ▸ hp
def Again {H : Type} (enc : TypeId × Value → H) (W : World) (t : TypeId) (v : Value) (d : DataW H) (p : List MemPlace) : Prop :=
  ∀ W', Below W.heap.size W W' → ∀ sp : Nat → Bool, (∀ q ∈ p, sp q.block = true) → DataW.Trod enc Tryz.prog W' 0 sp true t v d p
section
variable {H : Type} {enc : TypeId × Value → H} {W : World} {base : Nat}
theorem u8_of {n : Int} (h : (Lit.int .u8 n).wf = true) : ∃ c : UInt8, n = (c.toNat : Int) := by
  simp [Lit.wf, IntKind.min, IntKind.max, IntKind.signed, IntKind.bits] at h
  refine ⟨UInt8.ofNatLT n.toNat (by show n.toNat < 256; omega), ?_⟩
  rw [UInt8.toNat_ofNatLT]
  omega
set_option maxRecDepth 100000 in
theorem arg_u8 {t : TypeId} {v : Value} {d : DataW H} {p : List MemPlace} (ht : Tryz.prog.underlying t = some (.int .u8)) (hval : Value.okWide Tryz.prog W .any base t v) (h : DataW.Trod enc Tryz.prog W 0 (fun _ => true) true t v d p) :
    ∃ c : UInt8, v = u8 c ∧ d = .lit (.int .u8 (c.toNat : Int)) ∧ p = [] ∧ Again enc W t v d p := by
  obtain ⟨n, rfl, rfl, rfl, hw⟩ := open_int ht hval h
  obtain ⟨c, rfl⟩ := u8_of hw
  exact ⟨c, rfl, rfl, rfl, fun W' _ sp _ => shut_int ht hw⟩
end
/-- The witness: the settled world in which the listed tables are laid. -/
theorem witness_laid {H : Type} {enc : TypeId × Value → H} (os : Os) {f : FuncId} {fn : Func} {s : OpenSpec} {conds : List PathCond} {apart : Bool} {laid : List (String × DataW Unit)} (args : Array Value)
    (hv : ((World.laidAll Tryz.prog os laid).forCall (fun _ _ => 0) ⟨#[], args, []⟩).variablesZipB Tryz.prog = true)
    (hr : (((World.laidAll Tryz.prog os laid).forCall (fun _ _ => 0) ⟨#[], args, []⟩).heap.toList.drop Tryz.prog.globals.size).take ((begin Tryz.prog (fun _ _ => 0) default).world.heap.size - Tryz.prog.globals.size) = (begin Tryz.prog (fun _ _ => 0) default).world.heap.toList.drop Tryz.prog.globals.size)
    (hok : Input.okWideB Tryz.prog ((World.laidAll Tryz.prog os laid).forCall (fun _ _ => 0) ⟨#[], args, []⟩) f ⟨#[], args, []⟩ = true)
    (hrow : s.preRow enc Tryz.prog fn conds apart laid ((World.laidAll Tryz.prog os laid).forCall (fun _ _ => 0) ⟨#[], args, []⟩).memory args) :
    ∃ (w : World) (tape : Tape) (i : Input), w.os = os ∧ (w.forCall tape i).Shaped Tryz.prog ∧ i.vars = [] ∧ Input.okWide Tryz.prog (w.forCall tape i) .any w.heap.size f i ∧
      s.preRow enc Tryz.prog fn conds apart laid (w.forCall tape i).memory i.args ∧ ({} : Assume).holds Tryz.prog (lone (Frame.enter Tryz.prog f i.args .normal) [] (w.forCall tape i)) :=
  ⟨World.laidAll Tryz.prog os laid, fun _ _ => 0, ⟨#[], args, []⟩, World.laidAll_os _ _ _, World.shaped_of_ZipB hv hr, (Input.okWide_of_okWideB (base := 0) hok).1, (Input.okWide_of_okWideB hok).2, hrow, by
    simp only [Assume.holds]
    exact ⟨by simp, by simp, by simp, by simp, by simp⟩⟩
end Go.Proofs.YtadnofaleepkmaaGreatDoor
end
section
namespace Go.Proofs.YtadnofaleepkmaaGreatDoor
open Go.ChangeShapes Go.WideShapes Go.ChangeAt Go.RowKit Go.Sx Go.Lib Go.ChangeMaps Go.WideMaps
section
variable {H : Type} {enc : TypeId × Value → H} {W : World} {base : Nat}
/-- Cells that the rows read at a type, and what they weigh. -/
def Arg (enc : TypeId × Value → H) (W : World) (t : TypeId) (cs : List Value) (m : Nat) : Prop := ∃ n x, DataW.trod enc Tryz.prog W 0 (fun _ => true) true n t cs = some x ∧ Rows.uptoBulk x.1 = m
theorem Arg.of {t : TypeId} {v : Value} {d : DataW H} {p : List MemPlace} (h : DataW.Trod enc Tryz.prog W 0 (fun _ => true) true t v d p) : Arg enc W t v.cells.toList (Rows.uptoBulk d) := by
  obtain ⟨n, hn⟩ := h
  exact ⟨n, _, hn, rfl⟩
theorem laidOut : laidOutB Tryz.prog = true := by kernel_rfl
theorem again {t : TypeId} {v : Value} {d : DataW H} {p : List MemPlace} (hr : Tryz.prog.readableRec t = true) (hrow : t < Tryz.prog.types.size) (h : DataW.Trod enc Tryz.prog W 0 (fun _ => true) true t v d p) (hlt : ∀ x ∈ p, x.block < W.heap.size) : Again enc W t v d p :=
  fun _ hB _ hsp => WideElems.Trod_stays laidOut hr hrow h (fun _ hx => hB.same (hlt _ hx)) hsp
theorem mapM_some {α β : Type} {g : α → Option β} : ∀ {l : List α} {ys : List β}, l.mapM g = some ys → ys.length = l.length ∧ ∀ (i : Nat) x, l[i]? = some x → ∃ y, ys[i]? = some y ∧ g x = some y
  | [], ys, h => by simp at h; subst h; exact ⟨rfl, fun i x hx => by simp at hx⟩
  | a :: l, ys, h => by
    rw [List.mapM_cons] at h
    cases ha : g a with
    | none => simp [ha] at h
    | some y =>
      cases hl : l.mapM g with
      | none => simp [ha, hl] at h
      | some zs =>
        simp [ha, hl] at h
        subst h
        obtain ⟨h1, h2⟩ := mapM_some hl
        refine ⟨by simp [h1], fun i x hx => ?_⟩
        cases i with
        | zero => simp at hx; subst hx; exact ⟨y, rfl, ha⟩
        | succ i => exact h2 i x (by simpa using hx)
theorem bulk_sum : ∀ (l : List (DataW H)), Rows.uptoBulkAll l = (l.map Rows.uptoBulk).sum
  | [] => rfl
  | d :: r => by simp only [Rows.uptoBulkAll, List.map_cons, List.sum_cons, bulk_sum r]
theorem Arg.step {t : TypeId} {cs : List Value} {m : Nat} (h : Arg enc W t cs m) : ∃ n x, DataW.trodStep enc Tryz.prog W 0 (fun _ => true) true (DataW.trod enc Tryz.prog W 0 (fun _ => true) true n) t cs = some x ∧ Rows.uptoBulk x.1 = m := by
  obtain ⟨n, x, h, hm⟩ := h
  cases n with
  | zero => simp [DataW.trod] at h
  | succ n => exact ⟨n, x, (DataW.trod_step enc Tryz.prog W 0 (fun _ => true) true n t cs).symm.trans h, hm⟩
set_option maxRecDepth 100000 in
theorem Arg.int {t : TypeId} {k : IntKind} {cs : List Value} {m : Nat} (ht : Tryz.prog.underlying t = some (.int k)) (h : Arg enc W t cs m) : ∃ z, cs = [.int k z] ∧ (Lit.int k z).wf = true ∧ m = 1 := by
  obtain ⟨n, x, h, hm⟩ := h
  obtain ⟨z, rfl, rfl, hw⟩ := DataW.trod_int ht h
  simp only [Rows.uptoBulk] at hm
  exact ⟨z, rfl, hw, hm.symm⟩
theorem Arg.str {t : TypeId} {cs : List Value} {m : Nat} (ht : Tryz.prog.underlying t = some .string) (h : Arg enc W t cs m) : ∃ s : List UInt8, cs = [Sx.str s] ∧ m = s.length + 1 := by
  obtain ⟨n, x, h, hm⟩ := h
  obtain ⟨s, rfl, rfl, _⟩ := DataW.trod_string ht h
  simp only [Rows.uptoBulk] at hm
  exact ⟨s.data.toList, by cases s; simp [Sx.str], hm.symm⟩
theorem Arg.bool {t : TypeId} {cs : List Value} {m : Nat} (ht : Tryz.prog.underlying t = some .bool) (h : Arg enc W t cs m) : ∃ b : Bool, cs = [.bool b] := by
  obtain ⟨n, x, h, hm⟩ := h.step
  unfold DataW.trodStep at h
  rw [ht] at h
  split at h <;> simp_all
theorem Arg.struct {t : TypeId} {fs : Array Field} {cs : List Value} {m : Nat} (ht : Tryz.prog.underlying t = some (.struct fs)) (h : Arg enc W t cs m) :
    cs.length = Tryz.prog.cellsOf t ∧ ∃ ms : List Nat, ms.length = fs.size ∧ ms.sum + 1 = m ∧ ∀ (i : Nat) f m', fs[i]? = some f → ms[i]? = some m' → Arg enc W f.type ((cs.drop f.offset).take (Tryz.prog.cellsOf f.type)) m' := by
  obtain ⟨n, x, h, hm⟩ := h.step
  unfold DataW.trodStep at h
  simp only [ht] at h
  split at h
  · rename_i hl
    refine ⟨hl, ?_⟩
    simp only [Option.map_eq_some_iff] at h
    obtain ⟨xs, hx, rfl⟩ := h
    obtain ⟨h1, h2⟩ := mapM_some hx
    refine ⟨xs.map fun y => Rows.uptoBulk y.1, by simp [h1], ?_, fun i f m' hf hm' => ?_⟩
    · rw [← hm]; simp only [Rows.uptoBulk, bulk_sum, List.map_map]; rfl
    · obtain ⟨y, hy, hg⟩ := h2 i f (by simpa using hf)
      rw [List.getElem?_map, hy] at hm'
      simp only [Option.map_some, Option.some.injEq] at hm'
      exact ⟨n, y, hg, hm'⟩
  · cases h
theorem Arg.array {t e k : Nat} {cs : List Value} {m : Nat} (ht : Tryz.prog.underlying t = some (.array k e)) (h : Arg enc W t cs m) :
    cs.length = Tryz.prog.cellsOf t ∧ ∃ ms : List Nat, ms.length = k ∧ ms.sum + 1 = m ∧ ∀ (i m' : Nat), ms[i]? = some m' → Arg enc W e ((cs.drop (i * Tryz.prog.cellsOf e)).take (Tryz.prog.cellsOf e)) m' := by
  obtain ⟨n, x, h, hm⟩ := h.step
  unfold DataW.trodStep at h
  simp only [ht] at h
  split at h
  · rename_i hl
    refine ⟨hl, ?_⟩
    simp only [Option.map_eq_some_iff] at h
    obtain ⟨xs, hx, rfl⟩ := h
    obtain ⟨h1, h2⟩ := mapM_some hx
    rw [List.length_range] at h1
    refine ⟨xs.map fun y => Rows.uptoBulk y.1, by simp [h1], ?_, fun i m' hm' => ?_⟩
    · rw [← hm]; simp only [Rows.uptoBulk, bulk_sum, List.map_map]; rfl
    · have hi : i < k := by
        have := (List.getElem?_eq_some_iff.1 hm').1
        simpa [h1] using this
      obtain ⟨y, hy, hg⟩ := h2 i i (List.getElem?_range hi)
      rw [List.getElem?_map, hy] at hm'
      simp only [Option.map_some, Option.some.injEq] at hm'
      exact ⟨n, y, hg, hm'⟩
  · cases h
theorem cells_at {a : Addr} {n : Nat} {cs : List Value} (h : W.cells? 0 a n = some cs) : cs.length = n ∧ ∀ i, i < n → W.cell? (a.add i) = cs[i]? := by
  unfold World.cells? at h
  rw [if_pos (Nat.zero_le _)] at h
  obtain ⟨h1, h2⟩ := mapM_some h
  rw [List.length_range] at h1
  refine ⟨h1, fun i hi => ?_⟩
  obtain ⟨y, hy, hg⟩ := h2 i i (List.getElem?_range hi)
  rw [hg, hy]
/-- A slice: none of it, or a row of cells in a block. -/
theorem Arg.slice {t e sz : Nat} {cs : List Value} {m : Nat} (ht : Tryz.prog.underlying t = some (.slice e)) (hsz : Tryz.prog.cellsOf e = sz) (hpos : 0 < sz) (h : Arg enc W t cs m) :
    ∃ (p : Option Addr) (len cap : Nat) (ms : List Nat), cs = [.slice p len cap] ∧ len ≤ cap ∧ cap ≤ maxLen ∧ ms.length = len ∧ ms.sum + 1 ≤ m ∧ (0 < len → ∃ b o cells T fr, p = some ⟨b, o, none⟩ ∧ HW W b = some (.cells (List.toArray cells) T fr) ∧
      ∀ (i m' : Nat), ms[i]? = some m' → ((cells.drop (o + i * sz)).take sz).length = sz ∧ Arg enc W e ((cells.drop (o + i * sz)).take sz) m') := by
  obtain ⟨n, x, g, hm⟩ := h.step
  clear h
  unfold DataW.trodStep at g
  simp only [ht] at g
  split at g <;> first | (exfalso; simp_all; done) | skip
  · simp only [Option.some.injEq] at g
    subst g
    exact ⟨none, 0, 0, [], rfl, Nat.le_refl _, Nat.zero_le _, rfl, by rw [← hm]; simp [Rows.uptoBulk], fun h => absurd h (by decide)⟩
  · rename_i a len cap he
    cases he
    split at g
    · rename_i hl
      simp only [if_true, Option.bind_eq_some_iff, Option.map_eq_some_iff] at g
      obtain ⟨elems, hel, rest, hre, rfl⟩ := g
      obtain ⟨h1, h2⟩ := mapM_some hel
      rw [List.length_range] at h1
      refine ⟨some a, len, cap, elems.map fun y => Rows.uptoBulk y.1, rfl, hl.2.1, hl.2.2, by simp [h1], ?_, fun h0 => ?_⟩
      · rw [← hm]; simp only [Rows.uptoBulk, bulk_sum, List.map_map]; have : (elems.map fun y => Rows.uptoBulk y.1).sum = (elems.map (Rows.uptoBulk ∘ fun x => x.1)).sum := rfl
        omega
      · have elem : ∀ i, i < len → ∃ (cs : List Value) (y : DataW H × List MemPlace), W.cells? 0 (a.add (i * sz)) sz = some cs ∧ elems[i]? = some y ∧ DataW.trod enc Tryz.prog W 0 (fun _ => true) true n e cs = some y := fun i hi => by
          obtain ⟨y, hy, hg⟩ := h2 i i (List.getElem?_range hi)
          simp only [Option.bind_eq_some_iff] at hg
          obtain ⟨cs, hc, hg⟩ := hg
          rw [hsz] at hc
          exact ⟨cs, y, hc, hy, hg⟩
        obtain ⟨cs0, y0, hc0, _, _⟩ := elem 0 h0
        obtain ⟨hl0, hc0⟩ := cells_at hc0
        have hcell0 := hc0 0 hpos
        rw [List.getElem?_eq_getElem (by omega)] at hcell0
        rw [Nat.zero_mul] at hcell0
        have ha : a.add 0 = a := by simp [Addr.add]
        rw [ha, ha] at hcell0
        obtain ⟨blk, off, spot⟩ := a
        cases spot with
        | some sp => obtain ⟨_, _, _, _, hs⟩ := World.shape?_of_cell? hcell0; cases hs
        | none =>
          have h' := hcell0
          unfold World.cell? at h'
          cases hb : W.heap[blk]? with
          | none => simp only [hb] at h'; cases h'
          | some o =>
            cases o with
            | cells cells T fr =>
              refine ⟨blk, off, cells.toList, T, fr, rfl, by show W.heap[blk]? = _; rw [hb], fun i m' hm' => ?_⟩
              have hi : i < len := by
                have := (List.getElem?_eq_some_iff.1 hm').1
                simpa [h1] using this
              obtain ⟨cs, y, hc, hy, hg⟩ := elem i hi
              obtain ⟨hl1, hc1⟩ := cells_at hc
              have hcs : (cells.toList.drop (off + i * sz)).take sz = cs := by
                apply List.ext_getElem?
                intro j
                rcases Nat.lt_or_ge j sz with hj | hj
                · have h3 := hc1 j hj
                  rw [Addr.add_lit, Addr.add_lit] at h3
                  unfold World.cell? at h3
                  simp only [hb] at h3
                  rw [List.getElem?_take, if_pos hj, List.getElem?_drop, ← h3]
                  simp
                · rw [List.getElem?_take, if_neg (by omega), List.getElem?_eq_none (by omega)]
              rw [hcs]
              rw [List.getElem?_map, hy] at hm'
              simp only [Option.map_some, Option.some.injEq] at hm'
              exact ⟨hl1, n, y, hg, hm'⟩
            | _ => simp only [hb] at h'; cases h'
    · cases g
/-- A slice whose elements are told by a function. -/
theorem Arg.row {α : Type} {f : α → List Value} {size : α → Nat} {t e sz : Nat} {cs : List Value} {m : Nat} (ht : Tryz.prog.underlying t = some (.slice e)) (hsz : Tryz.prog.cellsOf e = sz) (hpos : 0 < sz) (Q : α → Prop)
    (he : ∀ (cs : List Value) (m' : Nat), m' ≤ m → Arg enc W e cs m' → ∃ x : α, cs = f x ∧ size x ≤ m' ∧ Q x) (h : Arg enc W t cs m) :
    ∃ (l : List α) (v : Value), cs = [v] ∧ RowS f (HW W) l v ∧ (l.map size).sum + 1 ≤ m ∧ l.length ≤ maxLen ∧ ∀ x ∈ l, Q x := by
  obtain ⟨p, len, cap, ms, rfl, hlc, hcm, hml, hms, hb⟩ := h.slice ht hsz hpos
  rcases Nat.eq_zero_or_pos len with h0 | h0
  · subst h0
    exact ⟨[], _, rfl, ⟨p, cap, rfl, hlc, fun h => absurd rfl h⟩, by simp; omega, Nat.zero_le _, fun x hx => by cases hx⟩
  · obtain ⟨b, o, cells, T, fr, rfl, hblk, hel⟩ := hb h0
    have key : ∀ (ms : List Nat) (o : Nat), ms.sum + 1 ≤ m → (∀ (i m' : Nat), ms[i]? = some m' → ((cells.drop (o + i * sz)).take sz).length = sz ∧ Arg enc W e ((cells.drop (o + i * sz)).take sz) m') →
        ∃ (l : List α) (sp : List Value), l.length = ms.length ∧ cells.drop o = l.flatMap f ++ sp ∧ (l.map size).sum ≤ ms.sum ∧ ∀ x ∈ l, Q x := by
      intro ms
      induction ms with
      | nil => exact fun o _ _ => ⟨[], cells.drop o, rfl, rfl, Nat.le_refl _, fun x hx => by cases hx⟩
      | cons a r ih =>
        intro o hs hel
        rw [List.sum_cons] at hs
        have h0 := hel 0 a rfl
        rw [Nat.zero_mul, Nat.add_zero] at h0
        obtain ⟨x, hx, hsx, hq⟩ := he _ a (by omega) h0.2
        obtain ⟨l, sp, h1, h2, h3, h4⟩ := ih (o + sz) (by omega) fun i m' hi => by
          have := hel (i + 1) m' (by simpa using hi)
          rw [show o + (i + 1) * sz = o + sz + i * sz by rw [Nat.add_mul]; omega] at this
          exact this
        refine ⟨x :: l, sp, by simp [h1], ?_, by simp only [List.map_cons, List.sum_cons]; omega, fun y hy => ?_⟩
        · rw [List.flatMap_cons, List.append_assoc, ← h2, ← hx, ← List.drop_drop]
          exact (List.take_append_drop sz (cells.drop o)).symm
        · rcases List.mem_cons.1 hy with rfl | hy
          · exact hq
          · exact h4 y hy
    obtain ⟨l, sp, h1, h2, h3, h4⟩ := key ms o hms hel
    have hll : l.length = len := h1.trans hml
    subst hll
    exact ⟨l, _, rfl, ⟨_, cap, rfl, hlc, fun _ => ⟨b, o, cells, T, fr, sp, rfl, hblk, h2⟩⟩, by omega, by omega, h4⟩
set_option maxRecDepth 100000 in
theorem arg_int {k : IntKind} {t : TypeId} {v : Value} {d : DataW H} {p : List MemPlace} (ht : Tryz.prog.underlying t = some (.int k)) (hval : Value.okWide Tryz.prog W .any base t v) (h : DataW.Trod enc Tryz.prog W 0 (fun _ => true) true t v d p) :
    ∃ n : Int, v = .int k n ∧ (Lit.int k n).wf = true ∧ Again enc W t v d p := by
  obtain ⟨n, rfl, rfl, rfl, hw⟩ := open_int ht hval h
  exact ⟨n, rfl, hw, fun W' _ sp _ => shut_int ht hw⟩
end
end Go.Proofs.YtadnofaleepkmaaGreatDoor
end
section
namespace Go.Proofs
open Go.Shelf
def Tryz.sortF_ren : Go.Shelf.Ren := ⟨fun | 6 => 52 | 15 => 87 | 14 => 91 | 28 => 122 | 29 => 123 | 20 => 132 | 21 => 133 | 22 => 134 | 23 => 135 | 24 => 136 | 25 => 137 | 26 => 138 | 27 => 139 | 46 => 165 | 47 => 158 | 48 => 159 | 49 => 166 | 50 => 167 | 57 => 181 | n => n, fun | 22 => 53 | 24 => 56 | 25 => 94 | 3 => 3 | 39 => 126 | 0 => 0 | 53 => 140 | 55 => 168 | 4 => 4 | 46 => 159 | 45 => 158 | 50 => 164 | 5 => 5 | 9 => 9 | 66 => 198 | 70 => 202 | 76 => 227 | 77 => 228 | n => n, fun | n => n⟩
theorem Tryz.sortF : Go.Proofs.SlLaysF0.n6 Tryz.prog Tryz.sortF_ren := {
  mixed := by kernel_rfl
  f6 := ⟨Tryz.f52.name, by decide, Tryz.func52.trans (congrArg some (by kernel_rfl))⟩
  f14 := ⟨Tryz.f91.name, by decide, Tryz.func91.trans (congrArg some (by kernel_rfl))⟩
  f15 := Tryz.func87.trans (congrArg some (by kernel_rfl))
  f20 := ⟨Tryz.f132.name, by decide, Tryz.func132.trans (congrArg some (by kernel_rfl))⟩
  f21 := ⟨Tryz.f133.name, by decide, Tryz.func133.trans (congrArg some (by kernel_rfl))⟩
  f22 := ⟨Tryz.f134.name, by decide, Tryz.func134.trans (congrArg some (by kernel_rfl))⟩
  f23 := ⟨Tryz.f135.name, by decide, Tryz.func135.trans (congrArg some (by kernel_rfl))⟩
  f24 := ⟨Tryz.f136.name, by decide, Tryz.func136.trans (congrArg some (by kernel_rfl))⟩
  f25 := ⟨Tryz.f137.name, by decide, Tryz.func137.trans (congrArg some (by kernel_rfl))⟩
  f26 := ⟨Tryz.f138.name, by decide, Tryz.func138.trans (congrArg some (by kernel_rfl))⟩
  f27 := ⟨Tryz.f139.name, by decide, Tryz.func139.trans (congrArg some (by kernel_rfl))⟩
  f28 := Tryz.func122.trans (congrArg some (by kernel_rfl))
  f29 := Tryz.func123.trans (congrArg some (by kernel_rfl))
  f46 := ⟨Tryz.f165.name, by decide, Tryz.func165.trans (congrArg some (by kernel_rfl))⟩
  f47 := Tryz.func158.trans (congrArg some (by kernel_rfl))
  f48 := Tryz.func159.trans (congrArg some (by kernel_rfl))
  f49 := ⟨Tryz.f166.name, by decide, Tryz.func166.trans (congrArg some (by kernel_rfl))⟩
  f50 := ⟨Tryz.f167.name, by decide, Tryz.func167.trans (congrArg some (by kernel_rfl))⟩
  f57 := ⟨Tryz.f181.name, by decide, Tryz.func181.trans (congrArg some (by kernel_rfl))⟩
  t0 := Tryz.underlying0
  a0 := Tryz.isAgg0
  z0 := Tryz.sizeOf0
  v0 := Tryz.zeroValue0
  t3 := Tryz.underlying3
  a3 := Tryz.isAgg3
  z3 := Tryz.sizeOf3
  v3 := Tryz.zeroValue3
  t4 := Tryz.underlying4
  a4 := Tryz.isAgg4
  z4 := Tryz.sizeOf4
  v4 := Tryz.zeroValue4
  t5 := Tryz.underlying5
  a5 := Tryz.isAgg5
  z5 := Tryz.sizeOf5
  v5 := Tryz.zeroValue5
  t9 := Tryz.underlying9
  a9 := Tryz.isAgg9
  z9 := Tryz.sizeOf9
  v9 := Tryz.zeroValue9
  t22 := Tryz.underlying53
  a22 := Tryz.isAgg53
  z22 := Tryz.sizeOf53
  v22 := Tryz.zeroValue53
  t25 := Tryz.underlying94
  a25 := Tryz.isAgg94
  z25 := Tryz.sizeOf94
  v25 := Tryz.zeroValue94
  t39 := Tryz.underlying126
  a39 := Tryz.isAgg126
  z39 := Tryz.sizeOf126
  v39 := Tryz.zeroValue126
  t45 := Tryz.underlying158
  a45 := Tryz.isAgg158
  z45 := Tryz.sizeOf158
  v45 := Tryz.zeroValue158
  t46 := Tryz.underlying159
  a46 := Tryz.isAgg159
  z46 := Tryz.sizeOf159
  v46 := Tryz.zeroValue159
  t50 := Tryz.underlying164
  a50 := Tryz.isAgg164
  z50 := Tryz.sizeOf164
  v50 := Tryz.zeroValue164
  t53 := Tryz.underlying140
  a53 := Tryz.isAgg140
  z53 := Tryz.sizeOf140
  v53 := Tryz.zeroValue140
  t55 := Tryz.underlying168
  a55 := Tryz.isAgg168
  z55 := Tryz.sizeOf168
  v55 := Tryz.zeroValue168
  t66 := Tryz.underlying198
  a66 := Tryz.isAgg198
  z66 := Tryz.sizeOf198
  v66 := Tryz.zeroValue198
  t70 := Tryz.underlying202
  a70 := Tryz.isAgg202
  z70 := Tryz.sizeOf202
  v70 := Tryz.zeroValue202
  t76 := Tryz.underlying227
  a76 := Tryz.isAgg227
  z76 := Tryz.sizeOf227
  v76 := Tryz.zeroValue227
  t77 := Tryz.underlying228
  a77 := Tryz.isAgg228
  z77 := Tryz.sizeOf228
  v77 := Tryz.zeroValue228 }
end Go.Proofs
end
section
namespace Go.Sx
open Go
section
variable {cx : Cx} {Q : Qt} {o : Oper} {e : Env} {I : Heap} {H : HL} {C : Ct} {S : World → Prop}
theorem gV_slice {base sz n : Nat} {xs : List Value} {g : Gs} (h : gOk base sz n xs g) : ∃ p c, gV n g = .slice p n c := by
  cases g with
  | none => obtain ⟨rfl, _⟩ := h; exact ⟨none, 0, rfl⟩
  | some q => obtain ⟨b, c, sp⟩ := q; exact ⟨_, c, rfl⟩
/-- The length of a slice that has grown. -/
theorem yl_lenG {base sz n : Nat} {xs : List Value} {g : Gs} (h : gOk base sz n xs g) {x : Operand} {T E : TypeId} (ho : o.op = .call ⟨.builtin .len, #[x], #[T]⟩) (hx : ev e x = some (gV n g)) (hu : cx.P.underlying T = some (.slice E)) : Yld cx o e S (i64 (n : Int)) := by
  obtain ⟨p, c, hp⟩ := gV_slice h
  exact yl_lenSlice ho (hx.trans (congrArg some hp)) hu
end
end Go.Sx
end
section
namespace Go.Sx
open Go
section
variable {cx : Cx} {Q : Qt} {o : Oper} {e : Env} {I : Heap} {H : HL} {C : Ct} {S : World → Prop}
end
end Go.Sx
namespace Go.Sx
open Go
theorem Le.mono {I J K : Heap} (h : Le I J) (k : Le J K) : Le I K := h.trans k
/-- Two results, the first out of a variable of the call's own. -/
theorem Ej.retCT {cx : Cx} {fn : Func} {post : Ending → Heap → HL → Prop} {e : Env} {I : Heap} {H H' : HL} {t t2 T b n : Nat} {x : Value} {cs : List Value} {ty : TypeId} {fr : Nat × Nat} (hk : Keeps H' H) (hr : fn.results = #[.cell t T, .tmp t2]) (hds : cx.ds = []) (hv : eg e t = some (ptr b 0))
    (hb : Blk (SS I H) b (.cells cs.toArray ty fr)) (ha0 : ∀ w, (isAgg T).run cx.P w = .ok true w) (hsz : ∀ w, (sizeOf T).run cx.P w = .ok n w) (hn : cs.length = n) (hx : eg e t2 = some x) (hp : post (.returned (.tuple #[.agg cs.toArray, x])) I H') :
    Ej cx (bodyPost cx.P fn (RR cx.w0 cx.D cx.I0 post)) .ret e I H := by
  intro a w ha hs
  refine ⟨ha.defs.trans hds, _, ?_, I, H', hs.sublist hk, hp⟩
  have h1 := ha.get t _ hv
  have h3 := ha.get t2 _ hx
  have hc : ∀ j v, cs[j]? = some v → w.cell? ((⟨b, 0, none⟩ : Addr).add j) = some v := fun j v hj => by
    rw [Addr.add_lit]; exact cell_of_heap (hb w hs.ss) (by simpa using hj)
  have h2 := run_loadCells_list (P := cx.P) (w := w) ⟨b, 0, none⟩ cs hc
  rw [hn] at h2
  simp [results, hr, h1, h3, asAddr, loadVar, ha0, hsz, h2]
/-- One result, out of a variable of the call's own. -/
theorem Ej.retC {cx : Cx} {fn : Func} {post : Ending → Heap → HL → Prop} {e : Env} {I : Heap} {H H' : HL} {t T b n : Nat} {cs : List Value} {ty : TypeId} {fr : Nat × Nat} (hk : Keeps H' H) (hr : fn.results = #[.cell t T]) (hds : cx.ds = []) (hv : eg e t = some (ptr b 0))
    (hb : Blk (SS I H) b (.cells cs.toArray ty fr)) (ha0 : ∀ w, (isAgg T).run cx.P w = .ok true w) (hsz : ∀ w, (sizeOf T).run cx.P w = .ok n w) (hn : cs.length = n) (hp : post (.returned (.agg cs.toArray)) I H') :
    Ej cx (bodyPost cx.P fn (RR cx.w0 cx.D cx.I0 post)) .ret e I H := by
  intro a w ha hs
  refine ⟨ha.defs.trans hds, _, ?_, I, H', hs.sublist hk, hp⟩
  have h1 := ha.get t _ hv
  have hc : ∀ j v, cs[j]? = some v → w.cell? ((⟨b, 0, none⟩ : Addr).add j) = some v := fun j v hj => by
    rw [Addr.add_lit]; exact cell_of_heap (hb w hs.ss) (by simpa using hj)
  have h2 := run_loadCells_list (P := cx.P) (w := w) ⟨b, 0, none⟩ cs hc
  rw [hn] at h2
  simp [results, hr, h1, asAddr, loadVar, ha0, hsz, h2]
end Go.Sx
end
section
namespace Go.Sx
open Go
theorem flat_len {α : Type} {f : α → List Value} {sz : Nat} (hf : ∀ x, (f x).length = sz) : ∀ l : List α, (l.flatMap f).length = l.length * sz
  | [] => by simp
  | a :: r => by rw [List.flatMap_cons, List.length_append, hf a, flat_len hf r, List.length_cons, Nat.add_mul]; omega
theorem flat_one {α : Type} (f : α → List Value) (l : List α) (x : α) : (l ++ [x]).flatMap f = l.flatMap f ++ f x := by simp
theorem perm_last {α : Type} (A G G' : List α) : (G' ++ (A ++ G)).Perm (A ++ (G ++ G')) := by
  rw [← List.append_assoc A G G']; exact List.perm_append_comm
section
variable {cx : Cx} {Q : Qt} {e : Env} {I : Heap} {R : HL} {T : TypeId} {α : Type} {l : List α} {f : α → List Value} {sz n base : Nat} {g : Gs}
theorem gR_cases {X : Heap → HL → Prop} (hf : ∀ x, (f x).length = sz) (hpos : 0 < sz) (hg : gOk base sz n (l.flatMap f) g) (hn : n = l.length) (hp : ∀ b o, base ≤ b → (∀ I', Le I I' → I' b = some o → X I' R) → X I ((b, o) :: R)) (k : ∀ I', Le I I' → RowS f I' l (gV n g) → X I' R) : X I (gH T (l.flatMap f) g ++ R) := by
  subst hn
  cases g with
  | none =>
    obtain ⟨h1, h2⟩ := hg
    have : l = [] := List.length_eq_zero_iff.1 h1
    subst this
    exact k I (Le.refl _) RowS.nil
  | some q =>
    obtain ⟨b, c, sp⟩ := q
    obtain ⟨h1, h2, h3⟩ := hg
    have hc : l.length ≤ c := by
      rw [flat_len hf] at h3
      exact Nat.le_of_mul_le_mul_right (by omega : l.length * sz ≤ c * sz) hpos
    exact hp b _ h1 fun I' hle hb => k I' hle ⟨_, c, rfl, hc, fun _ => ⟨b, 0, _, T, _, sp, rfl, hb, rfl⟩⟩
theorem Cj.keepR {c : Code} (hf : ∀ x, (f x).length = sz) (hpos : 0 < sz) (hg : gOk cx.w0.heap.size sz n (l.flatMap f) g) (hn : n = l.length) (k : ∀ I', Le I I' → RowS f I' l (gV n g) → Cj cx Q c e I' R) : Cj cx Q c e I (gH T (l.flatMap f) g ++ R) :=
  gR_cases (X := fun I H => Cj cx Q c e I H) hf hpos hg hn (fun _ _ hb k => Cj.persist hb k) k
theorem J.keepR {ops : Array Oper} {r : List Oper} (hf : ∀ x, (f x).length = sz) (hpos : 0 < sz) (hg : gOk cx.w0.heap.size sz n (l.flatMap f) g) (hn : n = l.length) (k : ∀ I', Le I I' → RowS f I' l (gV n g) → J cx Q ops r e I' R) : J cx Q ops r e I (gH T (l.flatMap f) g ++ R) :=
  gR_cases (X := fun I H => J cx Q ops r e I H) hf hpos hg hn (fun _ _ hb k => J.persist hb k) k
theorem Ej.keepR {x : Exit} (hf : ∀ x, (f x).length = sz) (hpos : 0 < sz) (hg : gOk cx.w0.heap.size sz n (l.flatMap f) g) (hn : n = l.length) (k : ∀ I', Le I I' → RowS f I' l (gV n g) → Ej cx Q x e I' R) : Ej cx Q x e I (gH T (l.flatMap f) g ++ R) :=
  gR_cases (X := fun I H => Ej cx Q x e I H) hf hpos hg hn (fun _ _ hb k => Ej.persist hb k) k
theorem gV_one' (n : Nat) (g : Gs) : Value.oneCell' (gV n g) = true := by
  cases g with
  | none => rfl
  | some q => obtain ⟨b, c, sp⟩ := q; rfl
end
end Go.Sx
namespace Go.Sx
open Go
section
variable {cx : Cx} {o : Oper} {e : Env} {S : World → Prop}
theorem yl_sliceTo {x y : Operand} {T E n c sz j : Nat} {b : Option Addr} {kl : IntKind} (ho : o.op = .slice T x none (some y) none) (hx : ev e x = some (.slice b n c)) (hy : ev e y = some (.int kl (j : Int))) (hu : cx.P.underlying T = some (.slice E)) (hsz : ∀ w, (sizeOf E).run cx.P w = .ok sz w) (hj : j ≤ c) :
    Yld cx o e S (.slice b j c) := by
  intro a w ha _
  have h1 : (j : Int) ≤ c := by omega
  cases b with
  | none => simp [execOp, ho, ha.eval hx, ha.eval hy, Instr.sliceAt, Instr.slice, run_underlying hu, Instr.sliceBounds, run_sliceBound, h1, hsz]
  | some q =>
    simp [execOp, ho, ha.eval hx, ha.eval hy, Instr.sliceAt, Instr.slice, run_underlying hu, Instr.sliceBounds, run_sliceBound, h1, hsz, Addr.add]
end
/-- The first ones of a row. -/
theorem RowS.take {α : Type} {f : α → List Value} {I : Heap} {l : List α} {p : Option Addr} {c : Nat} (h : RowS f I l (.slice p l.length c)) {m : Nat} (hm : m ≤ l.length) : RowS f I (l.take m) (.slice p m c) := by
  obtain ⟨p', c', he, hc, hb⟩ := h
  cases he
  refine ⟨p, c, by rw [List.length_take, Nat.min_eq_left hm], by rw [List.length_take]; omega, fun hn => ?_⟩
  have hl : l ≠ [] := fun e => hn (by rw [e]; simp)
  obtain ⟨b, o, cs, t, fr, sp, h1, h2, h3⟩ := hb hl
  refine ⟨b, o, cs, t, fr, (l.drop m).flatMap f ++ sp, h1, h2, ?_⟩
  rw [h3, ← List.append_assoc, ← List.flatMap_append, List.take_append_drop]
end Go.Sx
namespace Go.Sx
open Go
theorem all_flat {α : Type} {f : α → List Value} : ∀ {l : List α}, (∀ x ∈ l, (f x).all Value.oneCell' = true) → (l.flatMap f).all Value.oneCell' = true
  | [], _ => rfl
  | a :: r, h => by rw [List.flatMap_cons, List.all_append, h a (.head _), all_flat fun x hx => h x (.tail _ hx)]; rfl
/-- A row of structs as what is appended. -/
theorem Src.row {P : Program} {I : Heap} {H : HL} {α : Type} {f : α → List Value} {sz : Nat} {l : List α} {v : Value} (hf : ∀ x, (f x).length = sz) (h : RowS f I l v) (h1 : ∀ x ∈ l, (f x).all Value.oneCell' = true) : Src P I H sz l.length v (l.flatMap f) := by
  obtain ⟨p, c, rfl, _, hb⟩ := h
  cases l with
  | nil => exact Src.nil
  | cons a r =>
    obtain ⟨b, o, cs, t, fr, sp, rfl, h2, h3⟩ := hb (by simp)
    have hl := flat_len hf (a :: r)
    exact Src.slice (Blk.imm h2) (by rw [h3, ← hl, List.take_left]) hl (all_flat h1)
end Go.Sx
end
section
namespace Go.Sx
open Go Go.Sort Go.Proofs
theorem row_holdsV {w : World} {b : Nat} {T : TypeId} {vs sp : List Value} (h : w.heap[b]? = some (cel T (vs ++ sp))) : Holds id w b 0 vs.toArray := fun j hj => by
  have hj' : j < vs.length := by simpa using hj
  have h1 : (vs ++ sp)[j]? = some vs[j] := by rw [List.getElem?_append_left hj']; exact List.getElem?_eq_getElem hj'
  have h2 : vs.toArray[j]! = vs[j] := by rw [getElem!_pos _ j hj]; simp
  refine ⟨?_, ?_⟩
  · rw [h2]
    simp only [World.cell?, h, cel, Nat.zero_add]
    simpa using h1
  · simp only [World.frozen?, h, cel]; simp
theorem row_putV {vs vs' sp : List Value} (hl : vs'.length = vs.length) : putCells id 0 vs'.toArray (vs ++ sp).toArray = (vs' ++ sp).toArray := by
  apply Array.ext_getElem?
  intro k
  simp only [putCells, Array.getElem?_mapIdx, List.getElem?_toArray, List.size_toArray, Nat.zero_le, true_and, Nat.zero_add, Nat.sub_zero]
  rcases Nat.lt_or_ge k vs.length with h | h
  · have h1 : (vs ++ sp)[k]? = some vs[k] := by rw [List.getElem?_append_left h]; exact List.getElem?_eq_getElem h
    have h2 : (vs' ++ sp)[k]? = some (vs'[k]'(by omega)) := by rw [List.getElem?_append_left (by omega)]; exact List.getElem?_eq_getElem _
    have h3 : vs'.toArray[k]! = vs'[k]'(by omega) := by rw [getElem!_pos _ k (by simpa using (by omega : k < vs'.length))]; simp
    rw [h1, h2, Option.map_some, if_pos (by omega), h3]
    rfl
  · rw [List.getElem?_append_right h, List.getElem?_append_right (by omega), hl]
    cases sp[k - vs.length]? with
    | none => rfl
    | some v => rw [Option.map_some, if_neg (by omega)]
theorem St.rowV {w : World} {I : Heap} {b : Nat} {T : TypeId} {vs vs' sp : List Value} (n : Nat) (os : Array Obj) (hr : Ready I [(b, cel T (vs ++ sp))] w) (hl : vs'.length = vs.length) :
    St w [b] I I [(b, cel T (vs' ++ sp))] (grow (putRow id (Sort.ahead w n) b 0 vs'.toArray) os) := by
  obtain ⟨r1, r2, r3, r4⟩ := hr
  have hb := r2 _ (List.mem_singleton.2 rfl)
  have hlt : ∀ {c : Nat} {o' : Obj}, w.heap[c]? = some o' → c < w.heap.size := fun {c o'} hc => by
    rcases Nat.lt_or_ge c w.heap.size with h' | h'
    · exact h'
    · simp [Array.getElem?_eq_none h'] at hc
  have hsz : (putRow id (Sort.ahead w n) b 0 vs'.toArray).heap.size = w.heap.size := by simp [putRow, mapBlock, Sort.ahead]
  have hother : ∀ c, c < w.heap.size → c ≠ b → (grow (putRow id (Sort.ahead w n) b 0 vs'.toArray) os).heap[c]? = w.heap[c]? := fun c hc hne => by
    simp only [grow]
    rw [Array.getElem?_append_left (by omega)]
    simp only [putRow, mapBlock, Sort.ahead, Array.getElem?_modify, if_neg (Ne.symm hne)]
  have hown : (grow (putRow id (Sort.ahead w n) b 0 vs'.toArray) os).heap[b]? = some (cel T (vs' ++ sp)) := by
    have hbl := hlt hb
    simp only [grow]
    rw [Array.getElem?_append_left (by omega)]
    simp only [putRow, mapBlock, Sort.ahead, Array.getElem?_modify, if_true]
    rw [hb]
    simp only [Option.map_some, onCells, cel]
    rw [row_putV hl]
  refine ⟨rfl, rfl, rfl, ?_, ?_, ?_, ?_, by simp, ?_, ?_, fun _ _ => rfl, Le.refl _⟩
  · simp only [grow, Array.size_append]; omega
  · intro c hc hd
    exact hother c hc (by simpa using hd)
  · intro c o hc
    have h1 := r1 c o hc
    refine (hother c (hlt h1) ?_).trans h1
    rintro rfl
    have := r4 _ (List.mem_singleton.2 rfl)
    rw [this] at hc; cases hc
  · intro p hp
    rw [List.mem_singleton.1 hp]; exact hown
  · intro p hp
    rw [List.mem_singleton.1 hp]; exact r4 (b, cel T (vs ++ sp)) (List.mem_singleton.2 rfl)
  · intro p hp
    rw [List.mem_singleton.1 hp]; exact .inl (.head _)
section
variable {α : Type} [Inhabited α] {enc : α → List Value} {k : Nat}
theorem flatK_list (hk : ∀ x, (enc x).length = k) (l : List α) : flatK enc k l.toArray = (l.flatMap enc).toArray := by
  refine ext_get! (by simp [flat_len hk]) fun t ht => ?_
  have ht' : t < l.length * k := by simpa using ht
  have h0 : 0 < k := by
    rcases Nat.eq_zero_or_pos k with e | e
    · subst e; simp at ht'
    · exact e
  have hd : t / k < l.length := (Nat.div_lt_iff_lt_mul h0).2 ht'
  have hm : t % k < k := Nat.mod_lt _ h0
  rw [get_flatK _ _ _ _ (by simpa using ht')]
  have h1 : l.toArray[t / k]! = l[t / k] := by rw [getElem!_pos _ _ (by simpa using hd)]; simp
  have h2 : l[t / k]? = some l[t / k] := List.getElem?_eq_getElem hd
  have h3 := row_cell hk (sp := []) h2 (t % k) hm
  rw [List.append_nil, Nat.mul_comm, Nat.div_add_mod] at h3
  have h4 : t < (l.flatMap enc).length := by rw [flat_len hk]; exact ht'
  rw [h1, getElem!_pos _ t (by simpa using h4), List.getElem_toArray, getElem!_pos _ _ (by rw [hk]; exact hm)]
  rw [List.getElem?_eq_getElem h4, List.getElem?_eq_getElem (by rw [hk]; exact hm)] at h3
  exact (Option.some.inj h3).symm
theorem perm_in {l : List α} {d' : Array α} (h : PermIn 0 l.length l.toArray d') : d'.toList.Perm l := by
  obtain ⟨h1, _, h3⟩ := h
  have h4 : d'.size = l.length := by rw [h1]; simp
  rw [← h4] at h3
  simp only [Array.extract_size] at h3
  rw [h4] at h3
  have h5 : l.toArray.extract 0 l.length = l.toArray := by
    have := Array.extract_size (xs := l.toArray)
    rwa [List.size_toArray] at this
  rw [h5] at h3
  simpa using h3
theorem sorted_in {lt : α → α → Bool} {d' : Array α} (h : SortedIn lt 0 d'.size d') : d'.toList.Pairwise fun x y => lt y x = false := by
  rw [List.pairwise_iff_getElem]
  intro i j hi hj hij
  have hi' : i < d'.size := by simpa using hi
  have hj' : j < d'.size := by simpa using hj
  have := h i j (Nat.zero_le _) hij hj'
  rw [getElem!_pos d' i hi', getElem!_pos d' j hj'] at this
  simpa using this
end
end Go.Sx
end
section
namespace Ke
/-! ### Numbers and years -/
def val4 (s : Bs) : Nat := s.foldl (fun n c => 10 * n + (c.toNat - 48)) 0
def num4 (s : Bs) : Int := if 4 ≤ s.length ∧ digits (s.take 4) = true then (val4 (s.take 4) : Int) else -1
def yearIn : Bs → Int
  | [] => -1
  | c :: r => if 0 ≤ num4 (c :: r) then num4 (c :: r) else yearIn r
def y260 (fs : List Fld) : Int := yearIn (textOf (first fs [50, 54, 48]) [99])
def year (fs : List Fld) : Int := if 11 ≤ (first fs [48, 48, 56]).data.length ∧ 0 ≤ num4 ((first fs [48, 48, 56]).data.drop 7) then num4 ((first fs [48, 48, 56]).data.drop 7) else y260 fs
theorem num4_short {s : Bs} (h : s.length < 4) : num4 s = -1 := if_neg (by omega)
theorem yearIn_short : ∀ {s : Bs}, s.length < 4 → yearIn s = -1
  | [], _ => rfl
  | c :: r, h => by
    unfold yearIn
    rw [num4_short h, if_neg (by decide)]
    exact yearIn_short (by simp only [List.length_cons] at h; omega)
theorem val4_le : ∀ {s : Bs}, s.length ≤ 4 → digits s = true → val4 s ≤ 9999 := by
  intro s hl hd
  have hc : ∀ c ∈ s, c.toNat - 48 ≤ 9 := fun c hc => by have := digit_iff.1 (List.all_eq_true.1 hd c hc); omega
  rcases s with _ | ⟨a, _ | ⟨b, _ | ⟨c, _ | ⟨d, _ | ⟨e, s⟩⟩⟩⟩⟩
  · decide
  · have := hc a (by simp); simp only [val4, List.foldl]; omega
  · have := hc a (by simp); have := hc b (by simp); simp only [val4, List.foldl]; omega
  · have := hc a (by simp); have := hc b (by simp); have := hc c (by simp); simp only [val4, List.foldl]; omega
  · have := hc a (by simp); have := hc b (by simp); have := hc c (by simp); have := hc d (by simp); simp only [val4, List.foldl]; omega
  · simp at hl
theorem num4_rng (s : Bs) : -1 ≤ num4 s ∧ num4 s ≤ 9999 := by
  unfold num4
  split
  · rename_i h
    have := val4_le (s := s.take 4) (by rw [List.length_take]; omega) h.2
    omega
  · omega
theorem yearIn_rng : ∀ s : Bs, -1 ≤ yearIn s ∧ yearIn s ≤ 9999
  | [] => by decide
  | c :: r => by
    unfold yearIn
    split
    · exact num4_rng _
    · exact yearIn_rng r
theorem year_rng (fs : List Fld) : -1 ≤ year fs ∧ year fs ≤ 9999 := by
  unfold year
  split
  · exact num4_rng _
  · exact yearIn_rng _
/-! ### Features -/
def isb (s : Sub) : Option Bs := if (isbn s.text).2 = true ∧ s.code = 97 then some (isbn s.text).1 else none
def isbs (f : Fld) : Row := if f.tag = [48, 50, 48] then f.subs.filterMap isb else []
def isbns (fs : List Fld) : Row := fs.flatMap isbs
def author (fs : List Fld) : Row := words (textOf (first fs [49, 48, 48]) [97])
structure Feat where
  books : Row
  title : Bs
  author : Row
  year : Int
  kind : UInt8
def feat (k : UInt8) (fs : List Fld) : Feat := ⟨isbns fs, title fs, author fs, year fs, k⟩
def common (a b : Row) : Bool := a.any fun x => b.contains x
def pB (a b : Row) : Int := if a ≠ [] ∧ b ≠ [] then (if common a b = true then 50 else -30) else 0
def pT (a b : Bs) : Int := if a ≠ [] ∧ b ≠ [] then (if a = b then 30 else -20) else 0
def pA (a b : Row) : Int := if a ≠ [] ∧ b ≠ [] then (if a = b then 15 else if a.head? = b.head? then 8 else -15) else 0
def pY (a b : Int) : Int := if 0 ≤ a ∧ 0 ≤ b then (if a = b then 10 else if a - b = 1 ∨ b - a = 1 then 0 else -10) else 0
def pK (a b : UInt8) : Int := if a = b then 0 else -40
def pts (a b : Feat) : Int := pB a.books b.books + pT a.title b.title + pA a.author b.author + pY a.year b.year + pK a.kind b.kind
theorem common_iff {a b : Row} : common a b = true ↔ ∃ x, x ∈ a ∧ x ∈ b := by simp [common]
theorem common_comm (a b : Row) : common a b = common b a := by
  rw [Bool.eq_iff_iff, common_iff, common_iff]
  exact ⟨fun ⟨x, h1, h2⟩ => ⟨x, h2, h1⟩, fun ⟨x, h1, h2⟩ => ⟨x, h2, h1⟩⟩
theorem pB_comm (a b : Row) : pB a b = pB b a := by unfold pB; rw [common_comm a b]; simp only [And.comm]
theorem pT_comm (a b : Bs) : pT a b = pT b a := by unfold pT; simp only [And.comm, eq_comm]
theorem pA_comm (a b : Row) : pA a b = pA b a := by unfold pA; simp only [And.comm, eq_comm]
theorem pY_comm (a b : Int) : pY a b = pY b a := by unfold pY; simp only [And.comm, eq_comm, Or.comm]
theorem pK_comm (a b : UInt8) : pK a b = pK b a := by unfold pK; simp only [eq_comm]
theorem pts_comm (a b : Feat) : pts a b = pts b a := by unfold pts; rw [pB_comm, pT_comm, pA_comm, pY_comm, pK_comm]
theorem pB_rng (a b : Row) : -30 ≤ pB a b ∧ pB a b ≤ 50 := by unfold pB; split <;> (try split) <;> omega
theorem pT_rng (a b : Bs) : -20 ≤ pT a b ∧ pT a b ≤ 30 := by unfold pT; split <;> (try split) <;> omega
theorem pA_rng (a b : Row) : -15 ≤ pA a b ∧ pA a b ≤ 15 := by unfold pA; split <;> (try split) <;> (try split) <;> omega
theorem pY_rng (a b : Int) : -10 ≤ pY a b ∧ pY a b ≤ 10 := by unfold pY; split <;> (try split) <;> (try split) <;> omega
end Ke
end
section
namespace Kq
open Ke (Bs Row)
abbrev Prs := List (Nat × Nat)
abbrev Tab := List (Bs × Nat)
def look (B : Tab) (k : Bs) : List Nat := B.filterMap fun p => if p.1 = k then some p.2 else none
def pj (sm : Nat → Nat → Bool) (i : Nat) (s : Prs × Prs) (j : Nat) : Prs × Prs := if (j, i) ∈ s.1 then s else (s.1 ++ [(j, i)], if sm j i = true then s.2 ++ [(j, i)] else s.2)
def pk (sm : Nat → Nat → Bool) (i : Nat) (t : Tab × Prs × Prs) (k : Bs) : Tab × Prs × Prs := (t.1 ++ [(k, i)], (look t.1 k).foldl (pj sm i) t.2)
def pr (ks : Nat → Row) (sm : Nat → Nat → Bool) (t : Tab × Prs × Prs) (i : Nat) : Tab × Prs × Prs := (ks i).foldl (pk sm i) t
def run (ks : Nat → Row) (sm : Nat → Nat → Bool) (n : Nat) : Tab × Prs × Prs := (List.range n).foldl (pr ks sm) ([], [], [])
theorem run_next (ks : Nat → Row) (sm : Nat → Nat → Bool) (n : Nat) : run ks sm (n + 1) = pr ks sm (run ks sm n) n := by unfold run; rw [List.range_succ, List.foldl_append]; rfl
theorem look_app (B C : Tab) (k : Bs) : look (B ++ C) k = look B k ++ look C k := List.filterMap_append
theorem look_one (B : Tab) (k x : Bs) (i : Nat) : look (B ++ [(x, i)]) k = look B k ++ if x = k then [i] else [] := by
  rw [look_app]
  unfold look
  by_cases h : x = k <;> simp [h]
def share (ks : Nat → Row) (a b : Nat) : Prop := ∃ k, k ∈ ks a ∧ k ∈ ks b
/-- What was chosen of what was seen. -/
def Cho (sm : Nat → Nat → Bool) (s : Prs × Prs) : Prop := s.2.Nodup ∧ ∀ a b, (a, b) ∈ s.2 ↔ (a, b) ∈ s.1 ∧ sm a b = true
theorem pj_seen (sm : Nat → Nat → Bool) (i : Nat) (s : Prs × Prs) (j a b : Nat) : (a, b) ∈ (pj sm i s j).1 ↔ (a, b) ∈ s.1 ∨ (b = i ∧ a = j) := by
  unfold pj
  split
  · rename_i h
    constructor
    · exact .inl
    · rintro (h1 | ⟨rfl, rfl⟩)
      · exact h1
      · exact h
  · simp only [List.mem_append, List.mem_singleton, Prod.mk.injEq]
    constructor
    · rintro (h | ⟨h1, h2⟩)
      · exact .inl h
      · exact .inr ⟨h2, h1⟩
    · rintro (h | ⟨h1, h2⟩)
      · exact .inl h
      · exact .inr ⟨h2, h1⟩
theorem pj_cho {sm : Nat → Nat → Bool} {i : Nat} {s : Prs × Prs} (j : Nat) (h : Cho sm s) : Cho sm (pj sm i s j) := by
  unfold pj
  by_cases hm : (j, i) ∈ s.1
  · rw [if_pos hm]; exact h
  · rw [if_neg hm]
    by_cases hs : sm j i = true
    · rw [if_pos hs]
      refine ⟨List.nodup_append.2 ⟨h.1, List.nodup_cons.2 ⟨by simp, List.nodup_nil⟩, fun x hx y hy => ?_⟩, fun a b => ?_⟩
      · rw [List.mem_singleton.1 hy]; rintro rfl; exact hm ((h.2 j i).1 hx).1
      · simp only [List.mem_append, List.mem_singleton, Prod.mk.injEq, h.2 a b]
        constructor
        · rintro (⟨h1, h2⟩ | ⟨rfl, rfl⟩)
          · exact ⟨.inl h1, h2⟩
          · exact ⟨.inr ⟨rfl, rfl⟩, hs⟩
        · rintro ⟨h1 | ⟨rfl, rfl⟩, h2⟩
          · exact .inl ⟨h1, h2⟩
          · exact .inr ⟨rfl, rfl⟩
    · rw [if_neg hs]
      refine ⟨h.1, fun a b => ?_⟩
      simp only [List.mem_append, List.mem_singleton, Prod.mk.injEq, h.2 a b]
      constructor
      · rintro ⟨h1, h2⟩; exact ⟨.inl h1, h2⟩
      · rintro ⟨h1 | ⟨rfl, rfl⟩, h2⟩
        · exact ⟨h1, h2⟩
        · exact absurd h2 hs
theorem pjs (sm : Nat → Nat → Bool) (i : Nat) : ∀ (js : List Nat) (s : Prs × Prs), Cho sm s → Cho sm (js.foldl (pj sm i) s) ∧ ∀ a b, (a, b) ∈ (js.foldl (pj sm i) s).1 ↔ (a, b) ∈ s.1 ∨ (b = i ∧ a ∈ js)
  | [], s, h => ⟨h, fun a b => by simp⟩
  | j :: js, s, h => by
    obtain ⟨h1, h2⟩ := pjs sm i js (pj sm i s j) (pj_cho j h)
    refine ⟨h1, fun a b => ?_⟩
    rw [List.foldl_cons, h2, pj_seen, List.mem_cons]
    constructor
    · rintro ((h | ⟨h3, h4⟩) | ⟨h3, h4⟩)
      · exact .inl h
      · exact .inr ⟨h3, .inl h4⟩
      · exact .inr ⟨h3, .inr h4⟩
    · rintro (h | ⟨h3, h4 | h4⟩)
      · exact .inl (.inl h)
      · exact .inl (.inr ⟨h3, h4⟩)
      · exact .inr ⟨h3, h4⟩
structure Inv (ks : Nat → Row) (sm : Nat → Nat → Bool) (i : Nat) (kp : Row) (t : Tab × Prs × Prs) : Prop where
  tab : ∀ k, look t.1 k = ((List.range i).filter fun a => decide (k ∈ ks a)) ++ if k ∈ kp then [i] else []
  seen : ∀ a b, (a, b) ∈ t.2.1 ↔ (a < b ∧ b < i ∧ share ks a b) ∨ (b = i ∧ a < i ∧ ∃ k, k ∈ kp ∧ k ∈ ks a)
  cho : Cho sm t.2
theorem Inv.key {ks : Nat → Row} {sm : Nat → Nat → Bool} {i : Nat} {kp : Row} {t : Tab × Prs × Prs} (h : Inv ks sm i kp t) {k : Bs} (hk : k ∉ kp) : Inv ks sm i (kp ++ [k]) (pk sm i t k) := by
  obtain ⟨h1, h2⟩ := pjs sm i (look t.1 k) t.2 h.cho
  refine ⟨fun x => ?_, fun a b => ?_, h1⟩
  · show look (t.1 ++ [(k, i)]) x = _
    rw [look_one, h.tab]
    by_cases hx : k = x
    · subst hx; simp [hk]
    · rw [if_neg hx, List.append_nil]
      have : (x ∈ kp ++ [k]) ↔ x ∈ kp := by simp [Ne.symm hx]
      simp only [this]
  · show (a, b) ∈ ((look t.1 k).foldl (pj sm i) t.2).1 ↔ _
    rw [h2, h.seen, h.tab, if_neg hk, List.append_nil, List.mem_filter, List.mem_range, decide_eq_true_eq]
    constructor
    · rintro ((h3 | ⟨h3, h4, x, h5, h6⟩) | ⟨h3, h4, h5⟩)
      · exact .inl h3
      · exact .inr ⟨h3, h4, x, List.mem_append_left _ h5, h6⟩
      · exact .inr ⟨h3, h4, k, by simp, h5⟩
    · rintro (h3 | ⟨h3, h4, x, h5, h6⟩)
      · exact .inl (.inl h3)
      · rcases List.mem_append.1 h5 with h5 | h5
        · exact .inl (.inr ⟨h3, h4, x, h5, h6⟩)
        · rw [List.mem_singleton.1 h5] at h6; exact .inr ⟨h3, h4, h6⟩
theorem Inv.keys {ks : Nat → Row} {sm : Nat → Nat → Bool} {i : Nat} : ∀ (rs kp : Row) (t : Tab × Prs × Prs), (kp ++ rs).Nodup → Inv ks sm i kp t → Inv ks sm i (kp ++ rs) (rs.foldl (pk sm i) t)
  | [], kp, t, _, h => by rw [List.append_nil]; exact h
  | k :: rs, kp, t, hn, h => by
    have hk : k ∉ kp := fun hm => (List.nodup_append.1 hn).2.2 k hm k (.head _) rfl
    have := Inv.keys rs (kp ++ [k]) (pk sm i t k) (by rw [List.append_assoc]; exact hn) (h.key hk)
    rw [List.append_assoc] at this
    exact this
theorem run_inv (ks : Nat → Row) (sm : Nat → Nat → Bool) : ∀ n, (∀ i, i < n → (ks i).Nodup) → Inv ks sm n [] (run ks sm n)
  | 0, _ => by
    refine ⟨fun k => rfl, fun a b => ⟨fun h => (by cases h), fun h => ?_⟩, List.nodup_nil, fun a b => ⟨fun h => (by cases h), fun h => (by cases h.1)⟩⟩
    rcases h with ⟨_, h, _⟩ | ⟨_, h, _⟩ <;> omega
  | n + 1, hn => by
    have h := Inv.keys (ks n) [] (run ks sm n) (by rw [List.nil_append]; exact hn n (Nat.lt_succ_self n)) (run_inv ks sm n fun i hi => hn i (by omega))
    rw [List.nil_append] at h
    rw [run_next]
    refine ⟨fun k => ?_, fun a b => ?_, h.cho⟩
    · show look ((ks n).foldl (pk sm n) (run ks sm n)).1 k = _
      rw [h.tab, List.range_succ, List.filter_append]
      by_cases hk : k ∈ ks n <;> simp [hk]
    · show (a, b) ∈ ((ks n).foldl (pk sm n) (run ks sm n)).2.1 ↔ _
      rw [h.seen]
      constructor
      · rintro (⟨h1, h2, h3⟩ | ⟨rfl, h2, k, h3, h4⟩)
        · exact .inl ⟨h1, by omega, h3⟩
        · exact .inl ⟨h2, by omega, k, h4, h3⟩
      · rintro (⟨h1, h2, k, h3, h4⟩ | ⟨_, _, k, h3, _⟩)
        · rcases Nat.lt_or_ge b n with hb | hb
          · exact .inl ⟨h1, hb, k, h3, h4⟩
          · have : b = n := by omega
            subst this
            exact .inr ⟨rfl, h1, k, h4, h3⟩
        · cases h3
/-! ### The pairs in order -/
def tgt (ks : Nat → Row) (sm : Nat → Nat → Bool) (n : Nat) : Prs := (List.range n).flatMap fun i => ((List.range n).filter fun k => decide (i < k) && Ke.common (ks i) (ks k) && sm i k).map fun k => (i, k)
theorem tgt_mem (ks : Nat → Row) (sm : Nat → Nat → Bool) (n a b : Nat) : (a, b) ∈ tgt ks sm n ↔ a < b ∧ b < n ∧ share ks a b ∧ sm a b = true := by
  unfold tgt
  simp only [List.mem_flatMap, List.mem_map, List.mem_filter, List.mem_range, Bool.and_eq_true, decide_eq_true_eq, Ke.common_iff, Prod.mk.injEq]
  constructor
  · rintro ⟨i, _, k, ⟨hk, ⟨hik, hc⟩, hs⟩, rfl, rfl⟩; exact ⟨hik, hk, hc, hs⟩
  · rintro ⟨h1, h2, h3, h4⟩; exact ⟨a, by omega, b, ⟨h2, ⟨h1, h3⟩, h4⟩, rfl, rfl⟩
def lt2 (p q : Nat × Nat) : Prop := p.1 < q.1 ∨ (p.1 = q.1 ∧ p.2 < q.2)
instance lt2_dec (p q : Nat × Nat) : Decidable (lt2 p q) := inferInstanceAs (Decidable (p.1 < q.1 ∨ (p.1 = q.1 ∧ p.2 < q.2)))
theorem lt2_irr (p : Nat × Nat) : ¬ lt2 p p := fun h => by unfold lt2 at h; omega
theorem lt2_trans {p q r : Nat × Nat} (h : lt2 p q) (k : lt2 q r) : lt2 p r := by unfold lt2 at *; omega
theorem lt2_tri {p q : Nat × Nat} (h : ¬ lt2 q p) (hn : p ≠ q) : lt2 p q := by
  obtain ⟨a, b⟩ := p; obtain ⟨c, d⟩ := q
  have : ¬ (a = c ∧ b = d) := fun e => hn (by rw [e.1, e.2])
  unfold lt2 at *; dsimp only at *; omega
theorem inc2_eq : ∀ {a b : Prs}, a.Pairwise lt2 → b.Pairwise lt2 → (∀ x, x ∈ a ↔ x ∈ b) → a = b
  | [], [], _, _, _ => rfl
  | [], y :: _, _, _, h => absurd ((h y).2 (.head _)) (by simp)
  | x :: _, [], _, _, h => absurd ((h x).1 (.head _)) (by simp)
  | x :: r, y :: t, ha, hb, h => by
    have ha' := List.pairwise_cons.1 ha
    have hb' := List.pairwise_cons.1 hb
    have hxy : x = y := by
      rcases List.mem_cons.1 ((h x).1 (.head _)) with e | e
      · exact e
      · rcases List.mem_cons.1 ((h y).2 (.head _)) with e2 | e2
        · exact e2.symm
        · exact absurd (lt2_trans (hb'.1 x e) (ha'.1 y e2)) (lt2_irr _)
    subst hxy
    rw [inc2_eq ha'.2 hb'.2 fun z => ⟨fun hz => ?_, fun hz => ?_⟩]
    · rcases List.mem_cons.1 ((h z).1 (.tail _ hz)) with rfl | e
      · exact absurd (ha'.1 z hz) (lt2_irr _)
      · exact e
    · rcases List.mem_cons.1 ((h z).2 (.tail _ hz)) with rfl | e
      · exact absurd (hb'.1 z hz) (lt2_irr _)
      · exact e
theorem range_inc (n : Nat) : (List.range n).Pairwise (· < ·) := List.pairwise_lt_range
theorem rows_inc {n : Nat} (f : Nat → List Nat) (hf : ∀ i, (f i).Pairwise (· < ·)) : ∀ l : List Nat, l.Pairwise (· < ·) → (l.flatMap fun i => (f i).map fun k => (i, k)).Pairwise lt2
  | [], _ => List.Pairwise.nil
  | i :: l, h => by
    have h' := List.pairwise_cons.1 h
    rw [List.flatMap_cons, List.pairwise_append]
    refine ⟨List.pairwise_map.2 ((hf i).imp fun h => .inr ⟨rfl, h⟩), rows_inc (n := n) f hf l h'.2, fun x hx y hy => ?_⟩
    obtain ⟨k, _, rfl⟩ := List.mem_map.1 hx
    obtain ⟨j, hj, hy⟩ := List.mem_flatMap.1 hy
    obtain ⟨k2, _, rfl⟩ := List.mem_map.1 hy
    exact .inl (h'.1 j hj)
theorem tgt_inc (ks : Nat → Row) (sm : Nat → Nat → Bool) (n : Nat) : (tgt ks sm n).Pairwise lt2 := rows_inc (n := n) _ (fun _ => (range_inc n).filter _) _ (range_inc n)
theorem tgt_nodup (ks : Nat → Row) (sm : Nat → Nat → Bool) (n : Nat) : (tgt ks sm n).Nodup := List.Pairwise.imp (R := lt2) (fun {a b} h => (show a ≠ b from fun e => lt2_irr b (e ▸ h))) (tgt_inc ks sm n)
/-- What is found, once it stands in order, is the pairs in order. -/
theorem sorted_tgt {ks : Nat → Row} {sm : Nat → Nat → Bool} {n : Nat} (hn : ∀ i, i < n → (ks i).Nodup) {l : Prs} (hp : l.Perm (run ks sm n).2.2) (hs : l.Pairwise fun p q => ¬ lt2 q p) : l = tgt ks sm n := by
  have h := run_inv ks sm n hn
  have hnd : l.Nodup := hp.nodup_iff.2 h.cho.1
  have hl : l.Pairwise lt2 := (List.pairwise_and_iff.2 ⟨hs, hnd⟩).imp fun ⟨h1, h2⟩ => lt2_tri h1 h2
  refine inc2_eq hl (tgt_inc ks sm n) fun ⟨a, b⟩ => ?_
  rw [hp.mem_iff, h.cho.2, h.seen, tgt_mem]
  constructor
  · rintro ⟨⟨h1, h2, h3⟩ | ⟨_, _, k, h3, _⟩, h4⟩
    · exact ⟨h1, h2, h3, h4⟩
    · cases h3
  · rintro ⟨h1, h2, h3, h4⟩; exact ⟨.inl ⟨h1, h2, h3⟩, h4⟩
/-! ### Turned lists -/
theorem tgt_turn {ks ls : Nat → Row} {sm tm : Nat → Nat → Bool} {n : Nat} (hk : ∀ i, i < n → ls i = ks (n - 1 - i)) (hs : ∀ i j, i < n → j < n → tm i j = sm (n - 1 - j) (n - 1 - i)) {a b : Nat} (h : (a, b) ∈ tgt ks sm n) : (n - 1 - b, n - 1 - a) ∈ tgt ls tm n := by
  rw [tgt_mem] at h ⊢
  obtain ⟨h1, h2, ⟨k, h3, h4⟩, h5⟩ := h
  refine ⟨by omega, by omega, ⟨k, ?_, ?_⟩, ?_⟩
  · rw [hk _ (by omega), show n - 1 - (n - 1 - b) = b by omega]; exact h4
  · rw [hk _ (by omega), show n - 1 - (n - 1 - a) = a by omega]; exact h3
  · rw [hs _ _ (by omega) (by omega), show n - 1 - (n - 1 - b) = b by omega, show n - 1 - (n - 1 - a) = a by omega]; exact h5
theorem sub_len {l m : Prs} (hl : l.Nodup) (h : ∀ x ∈ l, x ∈ m) : l.length ≤ m.length := by
  induction l generalizing m with
  | nil => simp
  | cons a r ih =>
    rw [List.nodup_cons] at hl
    have hm := h a (.head _)
    have := ih (m := m.erase a) hl.2 fun x hx => by
      have hne : x ≠ a := fun e => hl.1 (e ▸ hx)
      exact (List.mem_erase_of_ne hne).2 (h x (.tail _ hx))
    rw [List.length_erase_of_mem hm] at this
    have h0 : 0 < m.length := List.length_pos_of_mem hm
    simp only [List.length_cons]; omega
theorem turn_le {ks ls : Nat → Row} {sm tm : Nat → Nat → Bool} {n : Nat} (hk : ∀ i, i < n → ls i = ks (n - 1 - i)) (hs : ∀ i j, i < n → j < n → tm i j = sm (n - 1 - j) (n - 1 - i)) : (tgt ks sm n).length ≤ (tgt ls tm n).length := by
  have h1 : ((tgt ks sm n).map fun p => (n - 1 - p.2, n - 1 - p.1)).Nodup := by
    refine List.pairwise_map.2 (List.Pairwise.imp_of_mem (fun {p q} hp hq hne e => ?_) (tgt_nodup ks sm n))
    obtain ⟨a, b⟩ := p; obtain ⟨c, d⟩ := q
    rw [tgt_mem] at hp hq
    simp only [Prod.mk.injEq] at e
    exact hne (by rw [show a = c by omega, show b = d by omega])
  have := sub_len h1 (m := tgt ls tm n) fun x hx => by
    obtain ⟨⟨a, b⟩, hp, rfl⟩ := List.mem_map.1 hx
    exact tgt_turn hk hs hp
  rwa [List.length_map] at this
theorem turn_len {ks ls : Nat → Row} {sm tm : Nat → Nat → Bool} {n : Nat} (hk : ∀ i, i < n → ls i = ks (n - 1 - i)) (hs : ∀ i j, i < n → j < n → tm i j = sm (n - 1 - j) (n - 1 - i)) : (tgt ks sm n).length = (tgt ls tm n).length :=
  Nat.le_antisymm (turn_le hk hs) (turn_le (fun i hi => by rw [hk _ (by omega), show n - 1 - (n - 1 - i) = i by omega]) fun i j hi hj => by rw [hs _ _ (by omega) (by omega), show n - 1 - (n - 1 - i) = i by omega, show n - 1 - (n - 1 - j) = j by omega])
end Kq
end
section
namespace Go.Proofs.YtadnofaleepkmaaGreatDoor
open Go Go.Shelf Go.RowKit Go.Lib Go.Sort
/-- Pairs of numbers that are not negative, two cells each. -/
abbrev twoN (x : Nat × Nat) : List Value := [.int .i64 (x.1 : Int), .int .i64 (x.2 : Int)]
theorem twoN_len (x : Nat × Nat) : (twoN x).length = 2 := rfl
def cmpR (r s : Int) : Int := if r ≠ 0 then r else s
set_option maxRecDepth 100000 in
set_option maxHeartbeats 2000000 in
theorem compare2 (hcmp : ∀ (x y : Int) (w : World), Calls Tryz.prog 92 #[.int .i64 x, .int .i64 y] w fun e w' => e = .returned (.int .i64 (Lib.compareInt x y)) ∧ w' = w)
    (b1 b2 : Nat) (x0 x1 y0 y1 : Int) (w : World) (h0 : w.cell? ⟨b1, 0, none⟩ = some (.int .i64 x0)) (h1 : w.cell? ⟨b1, 1, none⟩ = some (.int .i64 x1)) (h2 : w.cell? ⟨b2, 0, none⟩ = some (.int .i64 y0)) (h3 : w.cell? ⟨b2, 1, none⟩ = some (.int .i64 y1)) :
    Calls Tryz.prog 54 #[.slice (some ⟨b1, 0, none⟩) 2 2, .slice (some ⟨b2, 0, none⟩) 2 2] w fun e w' => e = .returned (.int .i64 (cmpR (compareInt x0 y0) (compareInt x1 y1))) ∧ w' = w := by
  have c0 := hcmp x0 y0
  have c1 := hcmp x1 y1
  clear hcmp
  generalize compareInt x0 y0 = r0 at *
  generalize compareInt x1 y1 = r1 at *
  go_enter Tryz.func54, Tryz.ntmps54
  go_wp2
  refine wp_loop_rounds 3 ?_
  rw [rounds_succ]
  go_wp2_with (go_at_call 92; refine (c0 _).mono ?_; rintro e w' ⟨rfl, rfl⟩)
  · have hr : (r0 != 0) = true := by assumption
    have hc : cmpR r0 r1 = r0 := if_pos (by simpa using hr)
    go_ret
    exact ⟨by rw [hc]; rfl, rfl⟩
  · have hr : (r0 != 0) = false := by assumption
    have hc : cmpR r0 r1 = r1 := if_neg (by simpa using hr)
    rw [rounds_succ]
    go_wp2_with (go_at_call 92; refine (c1 _).mono ?_; rintro e w' ⟨rfl, rfl⟩)
    · go_ret
      exact ⟨by rw [hc]; rfl, rfl⟩
    · have hs : (r1 != 0) = false := by assumption
      have hs1 : r1 = 0 := by simpa using hs
      rw [rounds_succ]
      go_wp2
      go_ret
      exact ⟨by rw [hc, hs1]; rfl, rfl⟩
set_option maxRecDepth 100000 in
set_option maxHeartbeats 2000000 in
theorem closure2 (hcmp : ∀ (x y : Int) (w : World), Calls Tryz.prog 92 #[.int .i64 x, .int .i64 y] w fun e w' => e = .returned (.int .i64 (Lib.compareInt x y)) ∧ w' = w)
    (x0 x1 y0 y1 : Int) (w : World) :
    Calls Tryz.prog 53 #[.agg #[.int .i64 x0, .int .i64 x1], .agg #[.int .i64 y0, .int .i64 y1]] w fun e w' => e = .returned (.int .i64 (cmpR (compareInt x0 y0) (compareInt x1 y1))) ∧ ∃ q os', w' = grow (w.drewN q) os' := by
  have hc := fun b1 b2 w => compare2 hcmp b1 b2 x0 x1 y0 y1 w
  clear hcmp
  generalize cmpR (compareInt x0 y0) (compareInt x1 y1) = r at *
  go_enter Tryz.func53, Tryz.ntmps53
  go_wp2
  go_region_with (go_at_call 54; refine (hc _ _ _ (by go_simp) (by go_simp) (by go_simp) (by go_simp)).mono ?_; rintro e w' ⟨rfl, rfl⟩)
  all_goals go_wp2
  all_goals go_ret
  all_goals exact ⟨rfl, _, _, by rw [alloc_eq_grow, alloc_eq_grow, grow_grow]; rfl⟩
def cmpN (x y : Nat × Nat) : Int := cmpR (compareInt (x.1 : Int) y.1) (compareInt (x.2 : Int) y.2)
theorem cmpN_lt (x y : Nat × Nat) : ltOf cmpN x y = decide (Kq.lt2 x y) := by
  unfold ltOf cmpN cmpR Kq.lt2 compareInt
  refine decide_eq_decide.2 ?_
  repeat (first | omega | split)
theorem cmpN_swo : SWO (ltOf cmpN) where
  irrefl x := by rw [cmpN_lt]; exact decide_eq_false (Kq.lt2_irr x)
  trans x y z h1 h2 := by
    rw [cmpN_lt] at h1 h2 ⊢
    exact decide_eq_true (Kq.lt2_trans (of_decide_eq_true h1) (of_decide_eq_true h2))
  ntrans x y z h1 h2 := by
    rw [cmpN_lt] at h1 h2 ⊢
    have g1 := of_decide_eq_false h1
    have g2 := of_decide_eq_false h2
    refine decide_eq_false ?_
    unfold Kq.lt2 at *
    omega
/-- slices.SortFunc at a grown row of pairs. -/
theorem SortP_ok {base : Nat} (l : List (Nat × Nat)) (g : Sx.Gs) (hg : Sx.gOk base 2 l.length (l.flatMap twoN) g) (hl : l.length ≤ 100000000000000) (I : Sx.Heap) : Sx.Ctr Tryz.prog 52 [Sx.gV l.length g, .func (.func 53) #[] #[]] I (Sx.gH 56 (l.flatMap twoN) g)
    (fun e _I' H' => ∃ l' : List (Nat × Nat), l'.Perm l ∧ l'.Pairwise (fun p q => ¬ Kq.lt2 q p) ∧ e = .returned (.tuple #[]) ∧ H' = Sx.gH 56 (l'.flatMap twoN) g) := by
  cases g with
  | none =>
    obtain ⟨h1, h2⟩ := hg
    have h0 : l = [] := List.length_eq_zero_iff.1 h1
    subst h0
    exact (Sx.Pure.of_same (Sx.Enters.of Tryz.func52 (by decide) rfl) (fun w _ => AnyF.slices_SortFunc_none Tryz.sortF none 0 (.func (.func 53) #[] #[]) w)).mono fun e I' H' _ ⟨h1, _, h3⟩ => ⟨[], List.Perm.refl _, List.Pairwise.nil, h1, h3⟩
  | some q =>
    obtain ⟨b, c, sp⟩ := q
    refine ⟨Sx.Enters.of Tryz.func52 (by decide) rfl, fun w hw => ?_⟩
    have hb := hw.2.1 _ (.head _)
    have hlt : b < w.heap.size := by
      rcases Nat.lt_or_ge b w.heap.size with h | h
      · exact h
      · rw [Array.getElem?_eq_none h] at hb; cases hb
    have eg : ∀ args w, (callFunc 53 args).run Tryz.prog w = .ok (.enter 53 args) w := enters_of Tryz.func53 (by kernel_rfl) rfl
    have hH : HoldsK twoN 2 w b 0 l.toArray := by
      unfold HoldsK
      rw [Sx.flatK_list twoN_len]
      exact Sx.row_holdsV hb
    have hcmp : CmpLays Tryz.prog 53 #[] twoN 2 cmpN b 0 l.toArray.size w := fun m os dk _ x y => closure2 Tryz.cmp_Compare_int x.1 x.2 y.1 y.2 _
    have hcon := AnyQ.slices_SortFunc Tryz.sortF 2 Tryz.isAgg56 Tryz.sizeOf56 twoN twoN_len (fun x v hv => by
      simp only [List.mem_cons, List.not_mem_nil, or_false] at hv
      rcases hv with rfl | rfl <;> rfl) cmpN cmpN_swo 53 #[] b 0 c l.toArray w eg hcmp hH hlt (by simp; omega)
    refine hcon.mono fun e w' ⟨h1, d', n, os, h2, h3, h4⟩ => ?_
    rw [List.size_toArray] at h2 h3
    have hp := Sx.perm_in h2
    have hds : d'.size = l.length := by have := hp.length_eq; simpa using this
    rw [← hds] at h3
    refine ⟨I, _, ?_, d'.toList, hp, (Sx.sorted_in h3).imp fun h => ?_, h1, rfl⟩
    · rw [h4]
      unfold sortWorldK putRowK
      rw [show d' = d'.toList.toArray from (Array.toArray_toList (xs := d')).symm, Sx.flatK_list twoN_len]
      exact Sx.St.rowV n os hw (by rw [Sx.flat_len twoN_len, Sx.flat_len twoN_len, hp.length_eq])
    · rw [cmpN_lt] at h
      exact of_decide_eq_false h
end Go.Proofs.YtadnofaleepkmaaGreatDoor
end
