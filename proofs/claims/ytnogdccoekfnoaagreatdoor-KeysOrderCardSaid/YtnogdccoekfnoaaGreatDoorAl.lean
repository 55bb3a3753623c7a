/-
  The program's keys.All. Own text, printed by a program. Conditions: none.
-/
import Derived.Test.YtnogdccoekfnoaaGreatDoorRd
namespace Go.Proofs.YtnogdccoekfnoaaGreatDoor
open Go Go.Sx
theorem SortG_ok {base : Nat} (l : List (List UInt8)) (g : Gs) (hg : gOk base 1 l.length (l.map str) g) (hl : l.length ≤ 100000000000000) (I : Heap) : Ctr Tryz.prog 54 [gV l.length g] I (gH 9 (l.map str) g)
    (fun e _I' H' => e = .returned (.tuple #[]) ∧ H' = gH 9 ((l.mergeSort fun x y => decide (x ≤ y)).map str) g) := by
  cases g with
  | none =>
    obtain ⟨h1, h2⟩ := gS_none hg
    subst h1
    exact (Pure.of_same (Enters.of Tryz.func54 (by decide) rfl) (fun w _ => Tryz.slices_Sort_string_none none 0 w)).mono fun e I' H' _ ⟨h1, _, h3⟩ => ⟨h1, h3⟩
  | some q =>
    obtain ⟨b, c, sp⟩ := q
    refine ⟨Enters.of Tryz.func54 (by decide) rfl, fun w hw => ?_⟩
    have hb := hw.2.1 _ (.head _)
    have hlt : b < w.heap.size := by
      rcases Nat.lt_or_ge b w.heap.size with h | h
      · exact h
      · rw [Array.getElem?_eq_none h] at hb; cases hb
    exact (Tryz.slices_Sort_string b 0 c l w (row_holds hb) hlt (by omega)).mono fun e w' ⟨h1, n, os, h2⟩ => ⟨I, _, h2 ▸ St.row n os hw (by simp), h1, rfl⟩
theorem CompactG_ok {base : Nat} (l : List (List UInt8)) (g : Gs) (hg : gOk base 1 l.length (l.map str) g) (hl : l.length ≤ 100000000000000) (I : Heap) : Ctr Tryz.prog 55 [gV l.length g] I (gH 9 (l.map str) g)
    (fun e _I' H' => ∃ g', gOk base 1 (Lib.compact l).length ((Lib.compact l).map str) g' ∧ e = .returned (gV (Lib.compact l).length g') ∧ H' = gH 9 ((Lib.compact l).map str) g') := by
  cases g with
  | none =>
    obtain ⟨h1, h2⟩ := gS_none hg
    subst h1
    exact (Pure.of_same (Enters.of Tryz.func55 (by decide) rfl) (fun w _ => Tryz.slices_Compact_string_empty none 0 w)).mono fun e I' H' _ ⟨h1, _, h3⟩ => ⟨none, ⟨rfl, rfl⟩, h1, h3⟩
  | some q =>
    obtain ⟨b, c, sp⟩ := q
    obtain ⟨g1, g2, g3⟩ := hg
    rw [List.length_map] at g2 g3
    have hcl := Lib.compact_length_le l
    refine ⟨Enters.of Tryz.func55 (by decide) rfl, fun w hw => ?_⟩
    refine (Tryz.slices_Compact_string b 0 c l w (row_holds (hw.2.1 _ (.head _))) (by omega) (by omega)).mono fun e w' ⟨h1, n, h2⟩ => ?_
    have h3 := St.row (l' := Lib.compact l ++ List.replicate (l.length - (Lib.compact l).length) []) n #[] hw (by simp; omega)
    rw [Go.Sort.grow_empty, ← h2, List.map_append, List.append_assoc] at h3
    refine ⟨I, _, h3, some (b, c, (List.replicate (l.length - (Lib.compact l).length) []).map str ++ sp), ⟨g1, by simp, by simp; omega⟩, h1, rfl⟩
theorem gOk_len {base sz n : Nat} {xs ys : List Value} {g : Gs} (h : gOk base sz n xs g) (hl : ys.length = xs.length) : gOk base sz n ys g := by
  cases g with
  | none =>
    obtain ⟨h1, h2⟩ := h
    exact ⟨h1, List.length_eq_zero_iff.1 (by rw [hl, h2]; rfl)⟩
  | some q =>
    obtain ⟨b, c, sp⟩ := q
    obtain ⟨h1, h2, h3⟩ := h
    exact ⟨h1, by rw [hl]; exact h2, by rw [hl]; exact h3⟩
theorem len_one {α : Type} (l : List α) (x : α) : (l ++ [x]).length = l.length + 1 := by simp
def rawB (l : List Ke.Fld) : List (List UInt8) := l.flatMap Ke.books
theorem rawB_next {fs : List Ke.Fld} {k : Nat} {f : Ke.Fld} (h : fs[k]? = some f) : rawB (fs.take (k + 1)) = rawB (fs.take k) ++ Ke.books f := by
  obtain ⟨hlt, hg⟩ := List.getElem?_eq_some_iff.1 h
  unfold rawB
  rw [List.take_succ_eq_append_getElem hlt, hg, List.flatMap_append]; simp
def bk (l : List Ke.Sub) : List (List UInt8) := l.filterMap Ke.book
theorem bk_next {ss : List Ke.Sub} {k : Nat} {s : Ke.Sub} (h : ss[k]? = some s) : bk (ss.take (k + 1)) = bk (ss.take k) ++ (Ke.book s).toList := by
  obtain ⟨hlt, hg⟩ := List.getElem?_eq_some_iff.1 h
  unfold bk
  rw [List.take_succ_eq_append_getElem hlt, hg, List.filterMap_append]
  cases hb : Ke.book s <;> simp [hb]
theorem bk_len (l : List Ke.Sub) : (bk l).length ≤ l.length := List.length_filterMap_le _ _
theorem books_len (f : Ke.Fld) : (Ke.books f).length ≤ f.subs.length := by
  unfold Ke.books; split
  · exact List.length_filterMap_le _ _
  · exact Nat.zero_le _
theorem rawB_len : ∀ {l : List Ke.Fld}, (∀ f ∈ l, f.subs.length ≤ 2000000) → (rawB l).length ≤ 2000000 * l.length
  | [], _ => Nat.zero_le _
  | f :: r, h => by
    have h1 := books_len f; have h2 := h f (.head _); have h3 := rawB_len fun g hg => h g (.tail _ hg)
    unfold rawB at h3 ⊢
    simp only [List.flatMap_cons, List.length_append, List.length_cons]; omega
theorem text_le {ss : List Ke.Sub} {s : Ke.Sub} (h : s ∈ ss) : s.text.length ≤ textsLen ss := by
  induction ss with
  | nil => cases h
  | cons t r ih =>
    unfold textsLen at ih ⊢
    rw [List.map_cons, List.sum_cons]
    rcases List.mem_cons.1 h with rfl | h
    · omega
    · have := ih h; omega
theorem isbn_len (s : List UInt8) : (Ke.isbn s).1.length ≤ s.length + 13 := by
  have h := norm_len s
  unfold Ke.isbn Ke.isbnN
  split
  · simp; omega
  · split
    · exact Nat.le_trans h (Nat.le_add_right _ _)
    · exact Nat.zero_le _
theorem book_some {s : Ke.Sub} (h1 : (Ke.isbn s.text).2 = true) (h2 : ((s.code.toNat : Int) == 97) = true) : Ke.book s = some (Ke.isbnPre ++ (Ke.isbn s.text).1) := by
  have h3 : (s.code.toNat : Int) = 97 := eq_of_beq h2
  exact if_pos ⟨h1, UInt8.toNat_inj.1 (by rw [show (97 : UInt8).toNat = 97 from rfl]; omega)⟩
theorem book_none {s : Ke.Sub} (h : ((Ke.isbn s.text).2 && ((s.code.toNat : Int) == 97)) = false) : Ke.book s = none := by
  refine if_neg fun ⟨h1, h2⟩ => ?_
  rw [h1, h2] at h; exact absurd h (by decide)
theorem head_of {l : List (List UInt8)} {x : List UInt8} (h : l[0]? = some x) : l = x :: l.tail := by
  cases l with
  | nil => simp at h
  | cons a r => simp at h; subst h; rfl
theorem title_len {fs : List Ke.Fld} (hok : FOK fs) : (Ke.title fs).length ≤ 100000000 := by
  have h1 := first_ok [50, 52, 53] hok
  have h2 := textOf_len (Ke.first fs [50, 52, 53]) [97, 98]
  have h3 := Ke.sort_len (Ke.cut (Ke.textOf (Ke.first fs [50, 52, 53]) [97, 98]) (Ke.skip (Ke.first fs [50, 52, 53]) : Int))
  have h4 : (Ke.cut (Ke.textOf (Ke.first fs [50, 52, 53]) [97, 98]) (Ke.skip (Ke.first fs [50, 52, 53]) : Int)).length ≤ (Ke.textOf (Ke.first fs [50, 52, 53]) [97, 98]).length := by unfold Ke.cut; simp
  unfold Ke.title Ke.sortKey
  omega

set_option maxRecDepth 20000 in
set_option maxHeartbeats 1000000 in
theorem All_ok (fs : List Ke.Fld) (v : Value) (rk rl : UInt8) (hok : FOK fs) (I : Heap) (hr : RecS I fs v) : Ctr Tryz.prog 30 [recV rk rl v] I [] (fun e I' H' => ∃ w, e = .returned w ∧ StrS 9 I' (Ke.all fs) w ∧ H' = []) := by
 have hfs := hok.1
 obtain ⟨p, c, rfl, hc, hp⟩ := id hr.1
 have hTl := title_len hok
 have hfo := first_ok [49, 48, 48] hok
 have hal0 := textOf_len (Ke.first fs [49, 48, 48]) [97]
 obtain ⟨p1, n1, c1, hsv1⟩ := first_sv [49, 48, 48] hr
 refine Ctr.of_bodyM Tryz.func30 rfl (by decide) (Nat.le_of_ble_eq_true rfl) ?_
 intro w0 hw0
 refine Cj.seq (Cj.region (J.op rfl (op_box rfl rfl rfl rfl rfl ?_)))
 intro b1 hb1
 refine J.z (yl_assign rfl rfl) ?_
 refine J.nil (Ej.seq (Cj.seq (Cj.region (J.z (yl_assign rfl rfl) ?_))))
 refine J.nil (Ej.seq (Cj.seq (Cj.seq (Cj.region (J.z (yl_fieldAddr (off' := 2) rfl rfl Tryz.underlying51 rfl Tryz.sizeOf49 rfl) ?_)))))
 refine J.z (yl_load rfl rfl Tryz.isAgg49 (Blk.at 0 rfl) rfl) ?_
 refine J.z (yl_lenSlice rfl rfl Tryz.underlying49) ?_
 refine J.z (yl_move rfl rfl) ?_
 refine J.nil (Ej.seq (Cj.block (Cj.loop (ι := Nat × Gs) (fun j => j.1 ≤ fs.length ∧ gOk w0.heap.size 1 (rawB (fs.take j.1)).length ((rawB (fs.take j.1)).map str) j.2) (fun j => fs.length - j.1) (fun j => [(1, ptr b1 0), (3, gV (rawB (fs.take j.1)).length j.2), (16, .slice p fs.length c), (17, i64 (fs.length : Int)), (18, i64 (j.1 : Int))]) (fun j => _) (fun j => (b1, cel 51 [u8 rk, u8 rl, .slice p fs.length c]) :: gH 9 ((rawB (fs.take j.1)).map str) j.2) (0, none) ⟨Nat.zero_le _, rfl, rfl⟩ ⟨rfl, rfl, rfl, rfl, rfl, trivial⟩ rfl rfl ?_)))
 rintro ⟨j, g⟩ ⟨hj, hg⟩
 dsimp only at hj hg ⊢
 have hrl := rawB_len (l := fs.take j) fun f hf => (hok.2 f (List.mem_of_mem_take hf)).1
 rw [List.length_take, Nat.min_eq_left hj] at hrl
 refine Cj.seq (Cj.region (J.z (yl_lss rfl rfl rfl) ?_))
 refine J.nil (Ej.seq (Cj.seq (Cj.cond rfl (fun hc2 => ?_) (fun hc2 => ?_))))
 ·
  have hc2p := of_decide_eq_true hc2
  have hlt : j < fs.length := by omega
  obtain ⟨f, hget⟩ : ∃ f, fs[j]? = some f := ⟨_, List.getElem?_eq_getElem hlt⟩
  have hnx := rawB_next hget
  have hfm := List.mem_of_getElem? hget
  have hfk := hok.2 f hfm
  obtain ⟨p2, c2, hsv, hc2, hp2⟩ := hr.2 f hfm
  obtain ⟨fb, fo, fcs, fty, ffr, sp, rfl, hfb, hfd⟩ := hp (ne_nil_of hlt)
  refine Cj.skip (Ej.seq (Cj.seq (Cj.block (Cj.seq (Cj.region (J.z (yl_indexAddr (off' := fo + j * 4) rfl rfl rfl Tryz.underlying49 Tryz.sizeOf58 (by omega) (by omega) (by simp)) ?_))))))
  refine J.z (yl_loadAgg rfl rfl Tryz.isAgg58 Tryz.sizeOf58 (Blk.imm hfb) (row_from fldC_len hfd hget) rfl) ?_
  refine J.op rfl (op_alloc rfl rfl rfl Tryz.zeroValue58 rfl ?_)
  intro b3 hb3
  refine J.op rfl (op_store 0 rfl rfl rfl rfl rfl (fldC_one hsv) Tryz.sizeOf58 rfl rfl (LSpl.c (LSpl.c (LSpl.c (LSpl.c LSpl.z)))) LSet.z ?_)
  refine J.nil (Ej.seq (Cj.seq (Cj.seq (Cj.region (J.z (yl_fieldAddr (off' := 0) rfl rfl Tryz.underlying58 rfl Tryz.sizeOf9 rfl) ?_)))))
  refine J.z (yl_load rfl rfl Tryz.isAgg9 (Blk.at 0 rfl) rfl) ?_
  refine J.z (yl_neqStr rfl rfl rfl) ?_
  refine J.nil (Ej.seq (Cj.cond rfl (fun hc4 => ?_) (fun hc4 => ?_)))
  ·
   have hc4p := bne_iff_ne.1 hc4
   have hbk : Ke.books f = [] := if_neg (bne_iff_ne.1 hc4)
   refine Cj.exit (Ej.seqExit (Ej.blkExit (Ej.seq (Cj.region (J.z (yl_add rfl rfl rfl (w64 (by omega))) ?_)))))
   refine J.z (yl_move rfl rfl) ?_
   refine J.nil (Ej.keep (Keeps.d (Keeps.k Keeps.r)) ?_)
   refine Ej.round (j + 1, g) ⟨by dsimp only; omega, by dsimp only; rw [hnx, hbk, List.append_nil]; exact hg⟩ (by dsimp only; omega) ⟨rfl, by dsimp only; rw [hnx, hbk, List.append_nil]; rfl, rfl, rfl, rfl, trivial⟩ rfl (by dsimp only; rw [hnx, hbk, List.append_nil])
  ·
   have hc4p := bne_f hc4
   have htg : f.tag = [48, 50, 48] := by have h := hc4; simpa using h
   refine Cj.skip (Ej.seq (Cj.seq (Cj.region (J.z (yl_fieldAddr (off' := 3) rfl rfl Tryz.underlying58 rfl Tryz.sizeOf56 rfl) ?_))))
   refine J.z (yl_load rfl rfl Tryz.isAgg56 (Blk.at 0 rfl) rfl) ?_
   refine J.eqv 26 rfl (show _ = .slice p2 f.subs.length c2 from hsv) ?_
   refine J.z (yl_lenSlice rfl rfl Tryz.underlying56) ?_
   refine J.z (yl_move rfl rfl) ?_
   refine J.nil (Ej.seq (Cj.block (Cj.keep (Keeps.d (Keeps.k Keeps.r)) ?_)))
   refine Cj.loop (ι := Nat × Gs) (fun k => k.1 ≤ f.subs.length ∧ gOk w0.heap.size 1 (rawB (fs.take j) ++ bk (f.subs.take k.1)).length ((rawB (fs.take j) ++ bk (f.subs.take k.1)).map str) k.2) (fun k => f.subs.length - k.1) (fun k => [(1, ptr b1 0), (3, gV (rawB (fs.take j) ++ bk (f.subs.take k.1)).length k.2), (16, .slice (some ⟨fb, fo, none⟩) fs.length c), (17, i64 (fs.length : Int)), (18, i64 (j : Int)), (26, .slice p2 f.subs.length c2), (27, i64 (f.subs.length : Int)), (28, i64 (k.1 : Int))]) (fun k => _) (fun k => (b1, cel 51 [u8 rk, u8 rl, .slice (some ⟨fb, fo, none⟩) fs.length c]) :: gH 9 ((rawB (fs.take j) ++ bk (f.subs.take k.1)).map str) k.2) (0, g) ⟨Nat.zero_le _, by rw [show bk (f.subs.take 0) = [] from rfl, List.append_nil]; exact hg⟩ ⟨rfl, by rw [show bk (f.subs.take 0) = [] from rfl, List.append_nil]; rfl, rfl, rfl, rfl, rfl, rfl, rfl, trivial⟩ rfl (by rw [show bk (f.subs.take 0) = [] from rfl, List.append_nil]) ?_
   rintro ⟨k, h⟩ ⟨hk, hh⟩
   dsimp only at hk hh ⊢
   have hbl := bk_len (f.subs.take k)
   rw [List.length_take, Nat.min_eq_left hk] at hbl
   have hal : (rawB (fs.take j) ++ bk (f.subs.take k)).length = (rawB (fs.take j)).length + (bk (f.subs.take k)).length := List.length_append
   refine Cj.seq (Cj.region (J.z (yl_lss rfl rfl rfl) ?_))
   refine J.nil (Ej.seq (Cj.seq (Cj.cond rfl (fun hc5 => ?_) (fun hc5 => ?_))))
   ·
    have hc5p := of_decide_eq_true hc5
    have hklt : k < f.subs.length := by omega
    obtain ⟨x, hsget⟩ : ∃ x, f.subs[k]? = some x := ⟨_, List.getElem?_eq_getElem hklt⟩
    obtain ⟨sbk, so, scs, sty, sfr, sp2, rfl, hsbk, hsd⟩ := hp2 (ne_nil_of hklt)
    have hbn := bk_next hsget
    have hxl := text_le (List.mem_of_getElem? hsget)
    have hil := isbn_len x.text
    refine Cj.skip (Ej.seq (Cj.seq (Cj.block (Cj.seq (Cj.region (J.z (yl_indexAddr (off' := so + k * 2) rfl rfl rfl Tryz.underlying56 Tryz.sizeOf60 (by omega) (by omega) (by simp)) ?_))))))
    refine J.z (yl_loadAgg rfl rfl Tryz.isAgg60 Tryz.sizeOf60 (Blk.imm hsbk) (row_from subC_len hsd hsget) rfl) ?_
    refine J.op rfl (op_alloc rfl rfl rfl Tryz.zeroValue60 rfl ?_)
    intro b6 hb6
    refine J.op rfl (op_store 0 rfl rfl rfl rfl rfl rfl Tryz.sizeOf60 rfl rfl (LSpl.c (LSpl.c LSpl.z)) LSet.z ?_)
    refine J.nil (Ej.seq (Cj.seq (Cj.region (J.z (yl_fieldAddr (off' := 1) rfl rfl Tryz.underlying60 rfl Tryz.sizeOf9 rfl) ?_))))
    refine J.z (yl_load rfl rfl Tryz.isAgg9 (Blk.at 0 rfl) rfl) ?_
    refine J.op rfl (op_pure rfl rfl rfl rfl rfl (Isbn_ok x.text (by omega) _) ?_)
    refine J.z (yl_move rfl rfl) ?_
    refine J.z (yl_extract rfl rfl rfl) ?_
    refine J.z (yl_extract rfl rfl rfl) ?_
    refine J.z (yl_assign rfl rfl) ?_
    refine J.z (yl_assign rfl rfl) ?_
    refine J.nil (Ej.seq (Cj.seq (Cj.region (J.z (yl_move rfl rfl) ?_))))
    refine J.z (yl_move rfl rfl) ?_
    refine J.split 39 rfl (fun hg7 => ?_) (fun hg7 => ?_)
    ·
     have hi : (Ke.isbn x.text).2 = true := hg7
     refine J.opG 1 39 true _ rfl rfl rfl hg7 (op_yld (yl_fieldAddr (off' := 0) rfl rfl Tryz.underlying60 rfl Tryz.sizeOf5 rfl) rfl rfl ?_)
     refine J.opG 1 39 true _ rfl rfl rfl hg7 (op_yld (yl_load rfl rfl Tryz.isAgg5 (Blk.at 0 rfl) rfl) rfl rfl ?_)
     refine J.opG 1 39 true _ rfl rfl rfl hg7 (op_yld (yl_eql rfl rfl rfl) rfl rfl ?_)
     refine J.z (yl_pick1 rfl rfl hg7 rfl) ?_
     refine J.nil (Ej.seq (Cj.cond rfl (fun hc8 => ?_) (fun hc8 => ?_)))
     ·
      have hc8p := eq_of_beq hc8
      have hbs := book_some hi hc8
      refine Cj.region (J.z (yl_move rfl rfl) ?_)
      refine J.z (yl_move rfl rfl) ?_
      refine J.z (yl_cat rfl rfl rfl (by first | omega | (simp only [List.length_append]; omega) | (simp; omega))) ?_
      refine J.op rfl (op_buildSlice rfl rfl rfl Tryz.underlying27 Tryz.sizeOf9 Tryz.zeroValue9 rfl rfl rfl rfl (LCat.one rfl LCat.none) ?_)
      intro b9 hb9
      refine J.op rfl (op_append (by' := 15) [_, _, _] rfl rfl rfl rfl rfl Tryz.underlying27 (.inr ⟨_, Tryz.underlying27⟩) (by kernel_rfl) Tryz.sizeOf9 Tryz.zeroValue9 rfl hh rfl (Src.slice (Blk.at 0 rfl) rfl rfl rfl) (by omega) ?_)
      intro g10 hg10
      refine J.z (yl_assign rfl rfl) ?_
      refine J.nil (Ej.blkNormal (Ej.seq (Cj.region (J.z (yl_add rfl rfl rfl (w64 (by omega))) ?_))))
      refine J.z (yl_move rfl rfl) ?_
      refine J.nil (Ej.keep (Keeps.d (Keeps.d (Keeps.k Keeps.r))) ?_)
      refine Ej.round (k + 1, g10) ⟨by dsimp only; omega, by dsimp only; rw [hbn, hbs, Option.toList, ← List.append_assoc, List.map_append, len_one]; exact hg10⟩ (by dsimp only; omega) ⟨rfl, by dsimp only; rw [hbn, hbs, Option.toList, ← List.append_assoc, len_one]; rfl, rfl, rfl, rfl, rfl, rfl, rfl, trivial⟩ rfl (by dsimp only; rw [hbn, hbs, Option.toList, ← List.append_assoc, List.map_append]; rfl)
     ·
      have hc8p := ne_of_beq_false hc8
      have hbs : Ke.book x = none := book_none (by rw [hi]; exact hc8)
      refine Cj.skip (Ej.blkNormal (Ej.seq (Cj.region (J.z (yl_add rfl rfl rfl (w64 (by omega))) ?_))))
      refine J.z (yl_move rfl rfl) ?_
      refine J.nil (Ej.keep (Keeps.d (Keeps.k Keeps.r)) ?_)
      refine Ej.round (k + 1, h) ⟨by dsimp only; omega, by dsimp only; rw [hbn, hbs, Option.toList, List.append_nil]; exact hh⟩ (by dsimp only; omega) ⟨rfl, by dsimp only; rw [hbn, hbs, Option.toList, List.append_nil]; rfl, rfl, rfl, rfl, rfl, rfl, rfl, trivial⟩ rfl (by dsimp only; rw [hbn, hbs, Option.toList, List.append_nil])
    ·
     have hi : (Ke.isbn x.text).2 = false := hg7
     have hbs : Ke.book x = none := book_none (by rw [hi]; rfl)
     refine J.skip 1 39 40 true _ rfl rfl rfl hg7 rfl rfl ?_
     refine J.skip 1 39 41 true _ rfl rfl rfl hg7 rfl rfl ?_
     refine J.skip 1 39 42 true _ rfl rfl rfl hg7 rfl rfl ?_
     refine J.z (yl_pick0 rfl rfl hg7 rfl) ?_
     refine J.nil (Ej.seq (Cj.cond rfl (fun hc11 => Bool.noConfusion (Eq.trans (Eq.symm rfl) hc11)) (fun hc11 => ?_)))
     refine Cj.skip (Ej.blkNormal (Ej.seq (Cj.region (J.z (yl_add rfl rfl rfl (w64 (by omega))) ?_))))
     refine J.z (yl_move rfl rfl) ?_
     refine J.nil (Ej.keep (Keeps.d (Keeps.k Keeps.r)) ?_)
     refine Ej.round (k + 1, h) ⟨by dsimp only; omega, by dsimp only; rw [hbn, hbs, Option.toList, List.append_nil]; exact hh⟩ (by dsimp only; omega) ⟨rfl, by dsimp only; rw [hbn, hbs, Option.toList, List.append_nil]; rfl, rfl, rfl, rfl, rfl, rfl, rfl, trivial⟩ rfl (by dsimp only; rw [hbn, hbs, Option.toList, List.append_nil])
   ·
    have hc5p := of_decide_eq_false hc5
    have hsf : f.subs.take k = f.subs := List.take_of_length_le (by omega)
    have htk : rawB (fs.take j) ++ Ke.books f = rawB (fs.take j) ++ bk (f.subs.take k) := by rw [hsf]; unfold Ke.books; rw [if_pos htg]; rfl
    refine Cj.exit (Ej.seqExit (Ej.loopExit (Ej.blkExit (Ej.blkNormal (Ej.seq (Cj.region (J.z (yl_add rfl rfl rfl (w64 (by omega))) ?_)))))))
    refine J.z (yl_move rfl rfl) ?_
    refine J.nil (Ej.round (j + 1, h) ⟨by dsimp only; omega, by dsimp only; rw [hnx, htk]; exact hh⟩ (by dsimp only; omega) ⟨rfl, by dsimp only; rw [hnx, htk]; rfl, rfl, rfl, rfl, trivial⟩ rfl (by dsimp only; rw [hnx, htk]))
 ·
  have hc2p := of_decide_eq_false hc2
  have hfull : fs.take j = fs := List.take_of_length_le (by omega)
  refine Cj.exit (Ej.seqExit (Ej.loopExit (Ej.blkExit (Ej.seq (Cj.seq (Cj.seq (Cj.region (J.z (yl_loadAgg rfl rfl Tryz.isAgg51 Tryz.sizeOf51 (Blk.at 0 rfl) rfl rfl) ?_))))))))
  refine J.op rfl (op_pure rfl rfl rfl rfl rfl (Title_ok fs _ rk rl hok _ hr) ?_)
  refine J.z (yl_assign rfl rfl) ?_
  refine J.nil (Ej.seq (Cj.seq (Cj.region (J.z (yl_move rfl rfl) ?_))))
  refine J.z (yl_neqStr rfl rfl rfl) ?_
  refine J.nil (Ej.seq (Cj.cond rfl (fun hc12 => ?_) (fun hc12 => ?_)))
  ·
   have hc12p := bne_iff_ne.1 hc12
   have hT : Ke.title fs ≠ [] := bne_iff_ne.1 hc12
   refine Cj.seq (Cj.region (J.z (yl_loadAgg rfl rfl Tryz.isAgg51 Tryz.sizeOf51 (Blk.at 0 rfl) rfl rfl) ?_))
   refine J.op rfl (op_call (H1 := []) rfl rfl rfl rfl rfl (text_ok fs _ rk rl [49, 48, 48] [97] hok _ hr) ?_ (fun _ _ _ _ h => by cases h.1) (fun _ _ h => by cases h.1))
   intro v13 I14 H15 hle16 hp17
   have hr := hr.mono hle16
   obtain ⟨h, rfl⟩ := hp17; cases h
   refine J.z (yl_move rfl rfl) ?_
   refine J.z (yl_extract rfl rfl rfl) ?_
   refine J.z (yl_extract rfl rfl rfl) ?_
   refine J.op rfl (op_alloc rfl rfl rfl Tryz.zeroValue58 rfl ?_)
   intro b18 hb18
   refine J.z (yl_assign rfl rfl) ?_
   refine J.op rfl (op_store 0 rfl rfl rfl rfl rfl (fldC_one hsv1) Tryz.sizeOf58 rfl rfl (LSpl.c (LSpl.c (LSpl.c (LSpl.c LSpl.z)))) LSet.z ?_)
   refine J.nil (Ej.seq (Cj.seq (Cj.region (J.op rfl (op_alloc rfl rfl rfl Tryz.zeroValue9 rfl ?_)))))
   intro b19 hb19
   refine J.op rfl (op_store 0 rfl rfl rfl rfl rfl rfl Tryz.sizeOf9 rfl rfl (LSpl.c LSpl.z) LSet.z ?_)
   refine J.nil (Ej.seq (Cj.seq (Cj.seq (Cj.region (J.z (yl_move rfl rfl) ?_)))))
   refine J.op rfl (op_callN rfl rfl rfl rfl rfl (words_ok (Ke.textOf (Ke.first fs [49, 48, 48]) [97]) _) ?_ (fun _ _ _ _ h => by obtain ⟨_, h, _⟩ := h; cases h) (fun _ _ h => by obtain ⟨_, h, _⟩ := h; cases h))
   intro v21 I22 H23 hle24 hn20 hp25
   have hr := hr.mono hle24
   obtain ⟨sb, h, rfl⟩ := hp25; cases h
   refine J.persist (hn20 _ (.head _)) (fun I9 hle9 hsb => ?_)
   refine J.nil (Ej.seq (Cj.block (Cj.rangeFunc (ps := [62]) (H1 := [_]) (R := (_ :: _ :: gH _ _ _)) ((Ke.words (Ke.textOf (Ke.first fs [49, 48, 48]) [97])).map fun w => [str w]) (fun k I' H' => k = 0 ∧ H' = [(b19, cel 9 [str []])]) (fun cc I' H' => cc = .exit 4 ∧ ∃ x r, Ke.words (Ke.textOf (Ke.first fs [49, 48, 48]) [97]) = x :: r ∧ H' = [(b19, cel 9 [str x])]) rfl (one_blt rfl) (seq1 _ _) rfl (words1_ok sb _ (by omega) _ hsb) (fun _ _ _ _ _ h => h) ⟨rfl, rfl⟩ ?_ ?_ ?_)))
   ·
    intro l r k args I1 Hk w1 hk hle hY
    have hsb := hle _ _ hsb
    obtain ⟨x, hx, rfl⟩ := seq1_at hk
    obtain ⟨rfl, rfl⟩ := hY
    refine Cj.region (J.z (yl_assign rfl rfl) ?_)
    refine J.nil (Ej.asg ?_)
    refine Cj.block (Cj.seq (Cj.region (J.z (yl_move rfl rfl) ?_)))
    refine J.op rfl (op_store 1 rfl rfl rfl rfl rfl rfl Tryz.sizeOf9 rfl rfl (LSpl.c LSpl.z) (LSet.s LSet.z) ?_)
    refine J.nil (Ej.seq (Cj.exit (Ej.blkOther rfl ?_)))
    exact Ej.rdExit ⟨rfl, x, _, head_of hx, rfl⟩
   ·
    intro mb26 I2 H2 hle hY
    have hsb := hle _ _ hsb
    rw [List.length_map] at hY
    obtain ⟨hk0, rfl⟩ := hY
    have hau : ((Ke.words (Ke.textOf (Ke.first fs [49, 48, 48]) [97])).head?.getD []) = [] := by rw [List.length_eq_zero_iff.1 hk0]; rfl
    refine Ej.blkNormal (Ej.seq (Cj.region (J.z (yl_move rfl rfl) ?_)))
    refine J.z (yl_move rfl rfl) ?_
    refine J.z (yl_cat rfl rfl rfl (by first | omega | (simp only [List.length_append]; omega) | (simp; omega))) ?_
    refine J.z (yl_cat rfl rfl rfl (by first | omega | (simp only [List.length_append]; omega) | (simp; omega))) ?_
    refine J.z (yl_load rfl rfl Tryz.isAgg9 (Blk.at 1 rfl) rfl) ?_
    refine J.z (yl_cat rfl rfl rfl (by first | omega | (simp only [List.length_append]; omega) | (simp; omega))) ?_
    refine J.op rfl (op_buildSlice rfl rfl rfl Tryz.underlying27 Tryz.sizeOf9 Tryz.zeroValue9 rfl rfl rfl rfl (LCat.one rfl LCat.none) ?_)
    intro b27 hb27
    refine J.op rfl (op_append (by' := 15) [_, _, _, _, _] rfl rfl rfl rfl rfl Tryz.underlying27 (.inr ⟨_, Tryz.underlying27⟩) (by kernel_rfl) Tryz.sizeOf9 Tryz.zeroValue9 rfl hg rfl (Src.slice (Blk.at 0 rfl) rfl rfl rfl) (by omega) ?_)
    intro g28 hg28
    refine J.z (yl_assign rfl rfl) ?_
    refine J.nil (Ej.seq (Cj.seq (Cj.keep (Keeps.d (Keeps.k (Keeps.d (Keeps.d (Keeps.d Keeps.r))))) ?_)))
    refine Cj.perm (H' := gH _ _ _ ++ [_]) List.perm_append_comm ?_
    have hraw : rawB (fs.take j) ++ [[116, 105, 116, 108, 101, 32] ++ Ke.title fs ++ [32, 47, 32] ++ []] = Ke.raw fs := by unfold Ke.raw Ke.titles; rw [hfull, if_neg hT, hau]; rfl
    have hgr : gOk w0.heap.size 1 (Ke.raw fs).length ((Ke.raw fs).map str) g28 := by rw [← hraw, List.map_append, List.length_append]; exact hg28
    have hrw : (Ke.raw fs).length ≤ 100000000000000 := by rw [← hraw]; simp; omega
    refine Cj.region (J.z (yl_move rfl rfl) ?_)
    refine J.eqv 72 rfl (show _ = gV (Ke.raw fs).length g28 from (by rw [← hraw, List.length_append]; rfl)) ?_
    rw [show gH 9 _ g28 = gH 9 ((Ke.raw fs).map str) g28 from congrArg (fun l => gH 9 l g28) (by rw [← hraw, List.map_append]; rfl)]
    refine J.op rfl (op_call (H1 := gH _ _ _) rfl rfl rfl rfl rfl (SortG_ok (Ke.raw fs) _ hgr hrw _) ?_ (fun _ _ _ _ h => by cases h.1) (fun _ _ h => by cases h.1))
    rintro v9 I9 H9 hle9 ⟨h, rfl⟩; cases h
    refine J.nil (Ej.seq (Cj.seq (Cj.region (J.z (yl_move rfl rfl) ?_))))
    refine J.eqv 74 rfl (show _ = gV ((Ke.raw fs).mergeSort fun x y => decide (x ≤ y)).length g28 from (by rw [List.length_mergeSort, ← hraw, List.length_append]; rfl)) ?_
    refine J.op rfl (op_call (H1 := gH _ _ _) rfl rfl rfl rfl rfl (CompactG_ok ((Ke.raw fs).mergeSort fun x y => decide (x ≤ y)) _ (by rw [List.length_mergeSort]; exact gOk_len hgr (by simp)) (by rw [List.length_mergeSort]; exact hrw) _) ?_ (fun _ _ _ _ h => by obtain ⟨_, _, h, _⟩ := h; cases h) (fun _ _ h => by obtain ⟨_, _, h, _⟩ := h; cases h))
    rintro v8 I8 H8 hle8 ⟨g2, hg2, h, rfl⟩; cases h
    refine J.keepS hg2 (fun I7 hle7 hv => ?_)
    refine J.z (yl_assign rfl rfl) ?_
    refine J.nil (Ej.seq (Cj.ret (Ej.leaveM (.inl rfl) ?_)))
    refine LvJ.mark 0 rfl LSet.z ?_
    refine LvJ.keep (List.nil_sublist _) ?_
    exact LvJ.ret1 rfl rfl ⟨_, rfl, (by rw [show Ke.all fs = _ from (Ke.compact_sorted _).symm]; exact hv), rfl⟩
   ·
    intro mb29 cc I2 H2 hle hY
    have hsb := hle _ _ hsb
    obtain ⟨rfl, x, r, hwr, rfl⟩ := hY
    have hau : ((Ke.words (Ke.textOf (Ke.first fs [49, 48, 48]) [97])).head?.getD []) = x := by rw [hwr]; rfl
    have hxl := Ke.words_each _ x (by rw [hwr]; exact List.mem_cons_self)
    refine Cj.exit (Ej.blkExit (Ej.seq (Cj.region (J.z (yl_move rfl rfl) ?_))))
    refine J.z (yl_move rfl rfl) ?_
    refine J.z (yl_cat rfl rfl rfl (by first | omega | (simp only [List.length_append]; omega) | (simp; omega))) ?_
    refine J.z (yl_cat rfl rfl rfl (by first | omega | (simp only [List.length_append]; omega) | (simp; omega))) ?_
    refine J.z (yl_load rfl rfl Tryz.isAgg9 (Blk.at 1 rfl) rfl) ?_
    refine J.z (yl_cat rfl rfl rfl (by first | omega | (simp only [List.length_append]; omega) | (simp; omega))) ?_
    refine J.op rfl (op_buildSlice rfl rfl rfl Tryz.underlying27 Tryz.sizeOf9 Tryz.zeroValue9 rfl rfl rfl rfl (LCat.one rfl LCat.none) ?_)
    intro b30 hb30
    refine J.op rfl (op_append (by' := 15) [_, _, _, _, _] rfl rfl rfl rfl rfl Tryz.underlying27 (.inr ⟨_, Tryz.underlying27⟩) (by kernel_rfl) Tryz.sizeOf9 Tryz.zeroValue9 rfl hg rfl (Src.slice (Blk.at 0 rfl) rfl rfl rfl) (by omega) ?_)
    intro g31 hg31
    refine J.z (yl_assign rfl rfl) ?_
    refine J.nil (Ej.seq (Cj.seq (Cj.keep (Keeps.d (Keeps.k (Keeps.d (Keeps.d (Keeps.d Keeps.r))))) ?_)))
    refine Cj.perm (H' := gH _ _ _ ++ [_]) List.perm_append_comm ?_
    have hraw : rawB (fs.take j) ++ [[116, 105, 116, 108, 101, 32] ++ Ke.title fs ++ [32, 47, 32] ++ x] = Ke.raw fs := by unfold Ke.raw Ke.titles; rw [hfull, if_neg hT, hau]; rfl
    have hgr : gOk w0.heap.size 1 (Ke.raw fs).length ((Ke.raw fs).map str) g31 := by rw [← hraw, List.map_append, List.length_append]; exact hg31
    have hrw : (Ke.raw fs).length ≤ 100000000000000 := by rw [← hraw]; simp; omega
    refine Cj.region (J.z (yl_move rfl rfl) ?_)
    refine J.eqv 72 rfl (show _ = gV (Ke.raw fs).length g31 from (by rw [← hraw, List.length_append]; rfl)) ?_
    rw [show gH 9 _ g31 = gH 9 ((Ke.raw fs).map str) g31 from congrArg (fun l => gH 9 l g31) (by rw [← hraw, List.map_append]; rfl)]
    refine J.op rfl (op_call (H1 := gH _ _ _) rfl rfl rfl rfl rfl (SortG_ok (Ke.raw fs) _ hgr hrw _) ?_ (fun _ _ _ _ h => by cases h.1) (fun _ _ h => by cases h.1))
    rintro v9 I9 H9 hle9 ⟨h, rfl⟩; cases h
    refine J.nil (Ej.seq (Cj.seq (Cj.region (J.z (yl_move rfl rfl) ?_))))
    refine J.eqv 74 rfl (show _ = gV ((Ke.raw fs).mergeSort fun x y => decide (x ≤ y)).length g31 from (by rw [List.length_mergeSort, ← hraw, List.length_append]; rfl)) ?_
    refine J.op rfl (op_call (H1 := gH _ _ _) rfl rfl rfl rfl rfl (CompactG_ok ((Ke.raw fs).mergeSort fun x y => decide (x ≤ y)) _ (by rw [List.length_mergeSort]; exact gOk_len hgr (by simp)) (by rw [List.length_mergeSort]; exact hrw) _) ?_ (fun _ _ _ _ h => by obtain ⟨_, _, h, _⟩ := h; cases h) (fun _ _ h => by obtain ⟨_, _, h, _⟩ := h; cases h))
    rintro v8 I8 H8 hle8 ⟨g2, hg2, h, rfl⟩; cases h
    refine J.keepS hg2 (fun I7 hle7 hv => ?_)
    refine J.z (yl_assign rfl rfl) ?_
    refine J.nil (Ej.seq (Cj.ret (Ej.leaveM (.inl rfl) ?_)))
    refine LvJ.mark 0 rfl LSet.z ?_
    refine LvJ.keep (List.nil_sublist _) ?_
    exact LvJ.ret1 rfl rfl ⟨_, rfl, (by rw [show Ke.all fs = _ from (Ke.compact_sorted _).symm]; exact hv), rfl⟩
  ·
   have hc12p := bne_f hc12
   have hT : Ke.title fs = [] := by have h := hc12; simpa using h
   refine Cj.skip (Ej.seq (Cj.seq (Cj.keep (Keeps.d Keeps.r) ?_)))
   refine Cj.perm (H' := gH _ _ _ ++ []) (by rw [List.append_nil]) ?_
   have hraw : rawB (fs.take j) = Ke.raw fs := by unfold Ke.raw Ke.titles; rw [hfull, if_pos hT, List.append_nil]; rfl
   have hgr : gOk w0.heap.size 1 (Ke.raw fs).length ((Ke.raw fs).map str) g := by rw [← hraw]; exact hg
   have hrw : (Ke.raw fs).length ≤ 100000000000000 := by rw [← hraw]; omega
   refine Cj.region (J.z (yl_move rfl rfl) ?_)
   refine J.eqv 72 rfl (show _ = gV (Ke.raw fs).length g from (by rw [← hraw])) ?_
   rw [show gH 9 _ g = gH 9 ((Ke.raw fs).map str) g from congrArg (fun l => gH 9 l g) (by rw [← hraw])]
   refine J.op rfl (op_call (H1 := gH _ _ _) rfl rfl rfl rfl rfl (SortG_ok (Ke.raw fs) _ hgr hrw _) ?_ (fun _ _ _ _ h => by cases h.1) (fun _ _ h => by cases h.1))
   rintro v9 I9 H9 hle9 ⟨h, rfl⟩; cases h
   refine J.nil (Ej.seq (Cj.seq (Cj.region (J.z (yl_move rfl rfl) ?_))))
   refine J.eqv 74 rfl (show _ = gV ((Ke.raw fs).mergeSort fun x y => decide (x ≤ y)).length g from (by rw [List.length_mergeSort, ← hraw])) ?_
   refine J.op rfl (op_call (H1 := gH _ _ _) rfl rfl rfl rfl rfl (CompactG_ok ((Ke.raw fs).mergeSort fun x y => decide (x ≤ y)) _ (by rw [List.length_mergeSort]; exact gOk_len hgr (by simp)) (by rw [List.length_mergeSort]; exact hrw) _) ?_ (fun _ _ _ _ h => by obtain ⟨_, _, h, _⟩ := h; cases h) (fun _ _ h => by obtain ⟨_, _, h, _⟩ := h; cases h))
   rintro v8 I8 H8 hle8 ⟨g2, hg2, h, rfl⟩; cases h
   refine J.keepS hg2 (fun I7 hle7 hv => ?_)
   refine J.z (yl_assign rfl rfl) ?_
   refine J.nil (Ej.seq (Cj.ret (Ej.leaveM (.inl rfl) ?_)))
   refine LvJ.keep (List.nil_sublist _) ?_
   exact LvJ.ret1 rfl rfl ⟨_, rfl, (by rw [show Ke.all fs = _ from (Ke.compact_sorted _).symm]; exact hv), rfl⟩

end Go.Proofs.YtnogdccoekfnoaaGreatDoor
