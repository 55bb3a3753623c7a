/-
  Own texts on the laws of match, joined: the logic, and contracts of functions. Conditions: none.
-/
import Derived.Test.YtadnofaleepkmaaGreatDoorPB12
import Derived.Test.YtadnofaleepkmaaGreatDoorPB13
section
namespace Go.Proofs.YtadnofaleepkmaaGreatDoor
open Go Go.Sx
set_option maxRecDepth 20000 in
set_option maxHeartbeats 1000000 in
theorem risbns_ok (fs : List Ke.Fld) (v : Value) (rk rl : UInt8) (hok : FOK fs) (I : Heap) (hr : RecS I fs v) : Ctr Tryz.prog 36 [recV rk rl v] I [] (fun e I' H' => ∃ w, e = .returned w ∧ StrP I' (Ke.isbns fs) w ∧ H' = []) := by
 have hfs := hok.1
 obtain ⟨p, c, rfl, hc, hp⟩ := id hr.1
 refine Ctr.of_body Tryz.func36 rfl (by decide) (Nat.le_of_ble_eq_true rfl) ?_
 intro w0 hw0
 refine Cj.seq (Cj.region (J.op rfl (op_box rfl rfl rfl rfl rfl ?_)))
 intro b1 hb1
 refine J.z (yl_assign rfl rfl) ?_
 refine J.nil (Ej.seq (Cj.seq (Cj.region (J.z (yl_assign rfl rfl) ?_))))
 refine J.nil (Ej.seq (Cj.seq (Cj.seq (Cj.region (J.z (yl_assign rfl rfl) ?_)))))
 refine J.nil (Ej.seq (Cj.block (Cj.loop (ι := Nat × Gs) (fun j => j.1 ≤ fs.length ∧ gOk w0.heap.size 1 (Ke.isbns (fs.take j.1)).length ((Ke.isbns (fs.take j.1)).map str) j.2) (fun j => fs.length - j.1) (fun j => [(1, ptr b1 0), (3, gV (Ke.isbns (fs.take j.1)).length j.2), (4, i64 (j.1 : Int))]) (fun j => _) (fun j => (b1, cel 26 [u8 rk, u8 rl, .slice p fs.length c]) :: gH 9 ((Ke.isbns (fs.take j.1)).map str) j.2) (0, none) ⟨Nat.zero_le _, rfl, rfl⟩ ⟨rfl, rfl, rfl, trivial⟩ rfl rfl ?_)))
 rintro ⟨j, g⟩ ⟨hj, hg⟩
 dsimp only at hj hg ⊢
 have hrl := isbns_len (l := fs.take j) fun f hf => (hok.2 f (List.mem_of_mem_take hf)).1
 rw [List.length_take, Nat.min_eq_left hj] at hrl
 refine Cj.seq (Cj.seq (Cj.region (J.z (yl_move rfl rfl) ?_)))
 refine J.z (yl_fieldAddr (off' := 2) rfl rfl Tryz.underlying26 rfl Tryz.sizeOf23 rfl) ?_
 refine J.z (yl_load rfl rfl Tryz.isAgg23 (Blk.at 0 rfl) rfl) ?_
 refine J.z (yl_lenSlice rfl rfl Tryz.underlying23) ?_
 refine J.z (yl_lss rfl rfl rfl) ?_
 refine J.nil (Ej.seq (Cj.cond rfl (fun hc2 => ?_) (fun hc2 => ?_)))
 ·
  have hc2p := of_decide_eq_true hc2
  have hlt : j < fs.length := by omega
  obtain ⟨f, hget⟩ : ∃ f, fs[j]? = some f := ⟨_, List.getElem?_eq_getElem hlt⟩
  have hnx := isbns_next hget
  have hfm := List.mem_of_getElem? hget
  have hfk := hok.2 f hfm
  obtain ⟨p2, c2, hsv, hc2, hp2⟩ := hr.2 f hfm
  obtain ⟨fb, fo, fcs, fty, ffr, sp, rfl, hfb, hfd⟩ := hp (ne_nil_of hlt)
  refine Cj.skip (Ej.seq (Cj.seq (Cj.block (Cj.seq (Cj.region (J.z (yl_assign rfl rfl) ?_))))))
  refine J.nil (Ej.seq (Cj.block (Cj.loop (ι := Nat × Gs) (fun k => k.1 ≤ f.subs.length ∧ gOk w0.heap.size 1 (Ke.isbns (fs.take j) ++ isbk f (f.subs.take k.1)).length ((Ke.isbns (fs.take j) ++ isbk f (f.subs.take k.1)).map str) k.2) (fun k => f.subs.length - k.1) (fun k => [(1, ptr b1 0), (3, gV (Ke.isbns (fs.take j) ++ isbk f (f.subs.take k.1)).length k.2), (4, i64 (j : Int)), (5, i64 (k.1 : Int))]) (fun k => _) (fun k => (b1, cel 26 [u8 rk, u8 rl, .slice (some ⟨fb, fo, none⟩) fs.length c]) :: gH 9 ((Ke.isbns (fs.take j) ++ isbk f (f.subs.take k.1)).map str) k.2) (0, g) ⟨Nat.zero_le _, by dsimp only; rw [show isbk f (f.subs.take 0) = [] from by unfold isbk; split <;> rfl, List.append_nil]; exact hg⟩ ⟨rfl, by dsimp only; rw [show isbk f (f.subs.take 0) = [] from by unfold isbk; split <;> rfl, List.append_nil]; rfl, rfl, rfl, trivial⟩ rfl (by dsimp only; rw [show isbk f (f.subs.take 0) = [] from by unfold isbk; split <;> rfl, List.append_nil]) ?_)))
  rintro ⟨k, h⟩ ⟨hk, hh⟩
  dsimp only at hk hh ⊢
  have hbl := isbk_len f (f.subs.take k)
  rw [List.length_take, Nat.min_eq_left hk] at hbl
  have hal : (Ke.isbns (fs.take j) ++ isbk f (f.subs.take k)).length = (Ke.isbns (fs.take j)).length + (isbk f (f.subs.take k)).length := List.length_append
  refine Cj.seq (Cj.seq (Cj.region (J.z (yl_move rfl rfl) ?_)))
  refine J.z (yl_fieldAddr (off' := 2) rfl rfl Tryz.underlying26 rfl Tryz.sizeOf23 rfl) ?_
  refine J.z (yl_load rfl rfl Tryz.isAgg23 (Blk.at 0 rfl) rfl) ?_
  refine J.z (yl_move rfl rfl) ?_
  refine J.z (yl_indexAddr (off' := fo + j * 4) rfl rfl rfl Tryz.underlying23 Tryz.sizeOf35 (by omega) (by omega) (by simp)) ?_
  refine J.z (yl_fieldAddr rfl rfl Tryz.underlying35 rfl Tryz.sizeOf33 rfl) ?_
  refine J.z (yl_load rfl rfl Tryz.isAgg33 (Blk.imm hfb) (row_fcell fldC_len hfd hget 3 (by decide))) ?_
  refine J.eqv 21 rfl (show _ = .slice p2 f.subs.length c2 from hsv) ?_
  refine J.z (yl_lenSlice rfl rfl Tryz.underlying33) ?_
  refine J.z (yl_lss rfl rfl rfl) ?_
  refine J.z (yl_move rfl rfl) ?_
  refine J.split 24 rfl (fun hg3 => ?_) (fun hg3 => ?_)
  ·
   have hg3p := of_decide_eq_true hg3
   have hklt : k < f.subs.length := by have h := of_decide_eq_true hg3; omega
   refine J.opG 9 24 true _ rfl rfl rfl hg3 (op_yld (yl_fieldAddr (off' := 2) rfl rfl Tryz.underlying26 rfl Tryz.sizeOf23 rfl) rfl rfl ?_)
   refine J.opG 9 24 true _ rfl rfl rfl hg3 (op_yld (yl_load rfl rfl Tryz.isAgg23 (Blk.at 0 rfl) rfl) rfl rfl ?_)
   refine J.opG 9 24 true _ rfl rfl rfl hg3 (op_yld (yl_move rfl rfl) rfl rfl ?_)
   refine J.opG 9 24 true _ rfl rfl rfl hg3 (op_yld (yl_indexAddr (off' := fo + j * 4) rfl rfl rfl Tryz.underlying23 Tryz.sizeOf35 (by omega) (by omega) (by simp)) rfl rfl ?_)
   refine J.opG 9 24 true _ rfl rfl rfl hg3 (op_yld (yl_fieldAddr rfl rfl Tryz.underlying35 rfl Tryz.sizeOf9 rfl) rfl rfl ?_)
   refine J.opG 9 24 true _ rfl rfl rfl hg3 (op_yld (yl_load rfl rfl Tryz.isAgg9 (Blk.imm hfb) (row_fcell fldC_len hfd hget 0 (by decide))) rfl rfl ?_)
   refine J.opG 9 24 true _ rfl rfl rfl hg3 (op_yld (yl_eqlStr rfl rfl rfl) rfl rfl ?_)
   refine J.z (yl_pick1 rfl rfl hg3 rfl) ?_
   refine J.nil (Ej.seq (Cj.cond rfl (fun hc4 => ?_) (fun hc4 => ?_)))
   ·
    have hc4p := eq_of_beq hc4
    have htg : f.tag = [48, 50, 48] := eq_of_beq hc4
    obtain ⟨x, hsget⟩ : ∃ x, f.subs[k]? = some x := ⟨_, List.getElem?_eq_getElem hklt⟩
    obtain ⟨sbk, so, scs, sty, sfr, sp2, rfl, hsbk, hsd⟩ := hp2 (ne_nil_of hklt)
    have hbn := isbk_next f hsget
    have hxl := text_le (List.mem_of_getElem? hsget)
    refine Cj.skip (Ej.seq (Cj.seq (Cj.block (Cj.seq (Cj.region (J.z (yl_fieldAddr (off' := 2) rfl rfl Tryz.underlying26 rfl Tryz.sizeOf23 rfl) ?_))))))
    refine J.z (yl_load rfl rfl Tryz.isAgg23 (Blk.at 0 rfl) rfl) ?_
    refine J.z (yl_move rfl rfl) ?_
    refine J.z (yl_indexAddr (off' := fo + j * 4) rfl rfl rfl Tryz.underlying23 Tryz.sizeOf35 (by omega) (by omega) (by simp)) ?_
    refine J.z (yl_fieldAddr rfl rfl Tryz.underlying35 rfl Tryz.sizeOf33 rfl) ?_
    refine J.z (yl_load rfl rfl Tryz.isAgg33 (Blk.imm hfb) (row_fcell fldC_len hfd hget 3 (by decide))) ?_
    refine J.eqv 41 rfl (show _ = .slice (some ⟨sbk, so, none⟩) f.subs.length c2 from hsv) ?_
    refine J.z (yl_move rfl rfl) ?_
    refine J.z (yl_indexAddr (off' := so + k * 2) rfl rfl rfl Tryz.underlying33 Tryz.sizeOf47 (by omega) (by omega) (by simp)) ?_
    refine J.z (yl_fieldAddr rfl rfl Tryz.underlying47 rfl Tryz.sizeOf9 rfl) ?_
    refine J.z (yl_load rfl rfl Tryz.isAgg9 (Blk.imm hsbk) (row_fcell subC_len hsd hsget 1 (by decide))) ?_
    refine J.op rfl (op_pure rfl rfl rfl rfl rfl (rIsbn_ok x.text (by omega) _) ?_)
    refine J.z (yl_move rfl rfl) ?_
    refine J.z (yl_extract rfl rfl rfl) ?_
    refine J.z (yl_extract rfl rfl rfl) ?_
    refine J.z (yl_assign rfl rfl) ?_
    refine J.z (yl_assign rfl rfl) ?_
    refine J.nil (Ej.seq (Cj.seq (Cj.region (J.z (yl_move rfl rfl) ?_))))
    refine J.z (yl_move rfl rfl) ?_
    refine J.split 50 rfl (fun hg5 => ?_) (fun hg5 => ?_)
    ·
     have hi : (Ke.isbn x.text).2 = true := hg5
     refine J.opG 1 50 true _ rfl rfl rfl hg5 (op_yld (yl_fieldAddr (off' := 2) rfl rfl Tryz.underlying26 rfl Tryz.sizeOf23 rfl) rfl rfl ?_)
     refine J.opG 1 50 true _ rfl rfl rfl hg5 (op_yld (yl_load rfl rfl Tryz.isAgg23 (Blk.at 0 rfl) rfl) rfl rfl ?_)
     refine J.opG 1 50 true _ rfl rfl rfl hg5 (op_yld (yl_move rfl rfl) rfl rfl ?_)
     refine J.opG 1 50 true _ rfl rfl rfl hg5 (op_yld (yl_indexAddr (off' := fo + j * 4) rfl rfl rfl Tryz.underlying23 Tryz.sizeOf35 (by omega) (by omega) (by simp)) rfl rfl ?_)
     refine J.opG 1 50 true _ rfl rfl rfl hg5 (op_yld (yl_fieldAddr rfl rfl Tryz.underlying35 rfl Tryz.sizeOf33 rfl) rfl rfl ?_)
     refine J.opG 1 50 true _ rfl rfl rfl hg5 (op_yld (yl_load rfl rfl Tryz.isAgg33 (Blk.imm hfb) (row_fcell fldC_len hfd hget 3 (by decide))) rfl rfl ?_)
     refine J.eqv 56 rfl (show _ = .slice (some ⟨sbk, so, none⟩) f.subs.length c2 from hsv) ?_
     refine J.opG 1 50 true _ rfl rfl rfl hg5 (op_yld (yl_move rfl rfl) rfl rfl ?_)
     refine J.opG 1 50 true _ rfl rfl rfl hg5 (op_yld (yl_indexAddr (off' := so + k * 2) rfl rfl rfl Tryz.underlying33 Tryz.sizeOf47 (by omega) (by omega) (by simp)) rfl rfl ?_)
     refine J.opG 1 50 true _ rfl rfl rfl hg5 (op_yld (yl_fieldAddr rfl rfl Tryz.underlying47 rfl Tryz.sizeOf5 rfl) rfl rfl ?_)
     refine J.opG 1 50 true _ rfl rfl rfl hg5 (op_yld (yl_load rfl rfl Tryz.isAgg5 (Blk.imm hsbk) (row_fcell subC_len hsd hsget 0 (by decide))) rfl rfl ?_)
     refine J.opG 1 50 true _ rfl rfl rfl hg5 (op_yld (yl_eql rfl rfl rfl) rfl rfl ?_)
     refine J.z (yl_pick1 rfl rfl hg5 rfl) ?_
     refine J.nil (Ej.seq (Cj.cond rfl (fun hc6 => ?_) (fun hc6 => ?_)))
     ·
      have hc6p := eq_of_beq hc6
      have hcd : x.code = 97 := UInt8.toNat_inj.1 (by have h := eq_of_beq hc6; rw [show (97 : UInt8).toNat = 97 from rfl]; omega)
      refine Cj.region (J.z (yl_move rfl rfl) ?_)
      refine J.z (yl_move rfl rfl) ?_
      refine J.op rfl (op_buildSlice rfl rfl rfl Tryz.underlying31 Tryz.sizeOf9 Tryz.zeroValue9 rfl rfl rfl rfl (LCat.one rfl LCat.none) ?_)
      intro b7 hb7
      refine J.op rfl (op_append (by' := 15) [_, _] rfl rfl rfl rfl rfl Tryz.underlying31 (.inr ⟨_, Tryz.underlying31⟩) (by kernel_rfl) Tryz.sizeOf9 Tryz.zeroValue9 rfl hh rfl (Src.slice (Blk.at 0 rfl) rfl rfl rfl) (by omega) ?_)
      intro g8 hg8
      refine J.z (yl_assign rfl rfl) ?_
      refine J.nil (Ej.blkNormal (Ej.seq (Cj.region (J.z (yl_move rfl rfl) ?_))))
      refine J.z (yl_add rfl rfl rfl (w64 (by omega))) ?_
      refine J.z (yl_assign rfl rfl) ?_
      refine J.nil (Ej.keep (Keeps.d (Keeps.k Keeps.r)) ?_)
      refine Ej.round (k + 1, g8) ⟨by dsimp only; omega, by dsimp only; rw [hbn, if_pos ⟨hi, htg, hcd⟩, ← List.append_assoc, List.map_append, len_one]; exact hg8⟩ (by dsimp only; omega) ⟨rfl, by dsimp only; rw [hbn, if_pos ⟨hi, htg, hcd⟩, ← List.append_assoc, len_one]; rfl, rfl, rfl, trivial⟩ rfl (by dsimp only; rw [hbn, if_pos ⟨hi, htg, hcd⟩, ← List.append_assoc, List.map_append]; rfl)
     ·
      have hc6p := ne_of_beq_false hc6
      have hno : ¬ ((Ke.isbn x.text).2 = true ∧ f.tag = [48, 50, 48] ∧ x.code = 97) := fun g => ne_of_beq_false hc6 (by rw [g.2.2]; rfl)
      refine Cj.skip (Ej.blkNormal (Ej.seq (Cj.region (J.z (yl_move rfl rfl) ?_))))
      refine J.z (yl_add rfl rfl rfl (w64 (by omega))) ?_
      refine J.z (yl_assign rfl rfl) ?_
      refine J.nil (Ej.round (k + 1, h) ⟨by dsimp only; omega, by dsimp only; rw [hbn, if_neg hno, List.append_nil]; exact hh⟩ (by dsimp only; omega) ⟨rfl, by dsimp only; rw [hbn, if_neg hno, List.append_nil]; rfl, rfl, rfl, trivial⟩ rfl (by dsimp only; rw [hbn, if_neg hno, List.append_nil]))
    ·
     have hno : ¬ ((Ke.isbn x.text).2 = true ∧ f.tag = [48, 50, 48] ∧ x.code = 97) := fun g => by have h := hg5; rw [g.1] at h; cases h
     refine J.skip 1 50 51 true _ rfl rfl rfl hg5 rfl rfl ?_
     refine J.skip 1 50 52 true _ rfl rfl rfl hg5 rfl rfl ?_
     refine J.skip 1 50 53 true _ rfl rfl rfl hg5 rfl rfl ?_
     refine J.skip 1 50 54 true _ rfl rfl rfl hg5 rfl rfl ?_
     refine J.skip 1 50 55 true _ rfl rfl rfl hg5 rfl rfl ?_
     refine J.skip 1 50 56 true _ rfl rfl rfl hg5 rfl rfl ?_
     refine J.skip 1 50 57 true _ rfl rfl rfl hg5 rfl rfl ?_
     refine J.skip 1 50 58 true _ rfl rfl rfl hg5 rfl rfl ?_
     refine J.skip 1 50 59 true _ rfl rfl rfl hg5 rfl rfl ?_
     refine J.skip 1 50 60 true _ rfl rfl rfl hg5 rfl rfl ?_
     refine J.skip 1 50 61 true _ rfl rfl rfl hg5 rfl rfl ?_
     refine J.z (yl_pick0 rfl rfl hg5 rfl) ?_
     refine J.nil (Ej.seq (Cj.cond rfl (fun hc9 => Bool.noConfusion (Eq.trans (Eq.symm rfl) hc9)) (fun hc9 => ?_)))
     refine Cj.skip (Ej.blkNormal (Ej.seq (Cj.region (J.z (yl_move rfl rfl) ?_))))
     refine J.z (yl_add rfl rfl rfl (w64 (by omega))) ?_
     refine J.z (yl_assign rfl rfl) ?_
     refine J.nil (Ej.round (k + 1, h) ⟨by dsimp only; omega, by dsimp only; rw [hbn, if_neg hno, List.append_nil]; exact hh⟩ (by dsimp only; omega) ⟨rfl, by dsimp only; rw [hbn, if_neg hno, List.append_nil]; rfl, rfl, rfl, trivial⟩ rfl (by dsimp only; rw [hbn, if_neg hno, List.append_nil]))
   ·
    have hc4p := ne_of_beq_false hc4
    have hik : Ke.isbns (fs.take j) ++ Ke.isbs f = Ke.isbns (fs.take j) ++ isbk f (f.subs.take k) := by rw [show Ke.isbs f = [] from if_neg (ne_of_beq_false hc4), show isbk f (f.subs.take k) = [] from if_neg (ne_of_beq_false hc4)]
    refine Cj.exit (Ej.seqExit (Ej.loopExit (Ej.blkExit (Ej.blkNormal (Ej.seq (Cj.region (J.z (yl_move rfl rfl) ?_)))))))
    refine J.z (yl_add rfl rfl rfl (w64 (by omega))) ?_
    refine J.z (yl_assign rfl rfl) ?_
    refine J.nil (Ej.round (j + 1, h) ⟨by dsimp only; omega, by dsimp only; rw [hnx, hik]; exact hh⟩ (by dsimp only; omega) ⟨rfl, by dsimp only; rw [hnx, hik]; rfl, rfl, trivial⟩ rfl (by dsimp only; rw [hnx, hik]))
  ·
   have hg3p := of_decide_eq_false hg3
   have hik : Ke.isbns (fs.take j) ++ Ke.isbs f = Ke.isbns (fs.take j) ++ isbk f (f.subs.take k) := by have h := of_decide_eq_false hg3; rw [show f.subs.take k = f.subs from List.take_of_length_le (by omega)]; rfl
   refine J.skip 9 24 25 true _ rfl rfl rfl hg3 rfl rfl ?_
   refine J.skip 9 24 26 true _ rfl rfl rfl hg3 rfl rfl ?_
   refine J.skip 9 24 27 true _ rfl rfl rfl hg3 rfl rfl ?_
   refine J.skip 9 24 28 true _ rfl rfl rfl hg3 rfl rfl ?_
   refine J.skip 9 24 29 true _ rfl rfl rfl hg3 rfl rfl ?_
   refine J.skip 9 24 30 true _ rfl rfl rfl hg3 rfl rfl ?_
   refine J.skip 9 24 31 true _ rfl rfl rfl hg3 rfl rfl ?_
   refine J.z (yl_pick0 rfl rfl hg3 rfl) ?_
   refine J.nil (Ej.seq (Cj.cond rfl (fun hc10 => Bool.noConfusion (Eq.trans (Eq.symm rfl) hc10)) (fun hc10 => ?_)))
   refine Cj.exit (Ej.seqExit (Ej.loopExit (Ej.blkExit (Ej.blkNormal (Ej.seq (Cj.region (J.z (yl_move rfl rfl) ?_)))))))
   refine J.z (yl_add rfl rfl rfl (w64 (by omega))) ?_
   refine J.z (yl_assign rfl rfl) ?_
   refine J.nil (Ej.round (j + 1, h) ⟨by dsimp only; omega, by dsimp only; rw [hnx, hik]; exact hh⟩ (by dsimp only; omega) ⟨rfl, by dsimp only; rw [hnx, hik]; rfl, rfl, trivial⟩ rfl (by dsimp only; rw [hnx, hik]))
 ·
  have hc2p := of_decide_eq_false hc2
  have hfull : fs.take j = fs := List.take_of_length_le (by omega)
  rw [hfull] at hg ⊢
  refine Cj.exit (Ej.seqExit (Ej.loopExit (Ej.blkExit (Ej.seq (Cj.seq (Cj.perm (H' := gH _ _ _ ++ [_]) List.perm_append_comm ?_))))))
  refine Cj.keepS hg (fun I8 hle8 hv => ?_)
  refine Cj.region (J.z (yl_move rfl rfl) ?_)
  refine J.z (yl_assign rfl rfl) ?_
  refine J.nil (Ej.seq (Cj.ret (Ej.bare ?_)))
  refine Ej.ret1 rfl rfl rfl ?_
  exact ⟨_, rfl, StrP.of hv, rfl⟩
theorem rlists_len {fs : List Ke.Fld} (hok : FOK fs) : (Ke.isbns fs).length ≤ 100000000000000 := by
  have h1 := isbns_len (l := fs) fun f hf => (hok.2 f hf).1
  have h2 := hok.1
  omega
set_option maxRecDepth 20000 in
set_option maxHeartbeats 2000000 in
theorem rPoints_ok (fs gs : List Ke.Fld) (v u : Value) (rk rl qk ql : UInt8) (hok1 : FOK fs) (hok2 : FOK gs) (hd1 : ∀ f ∈ fs, f.data.length ≤ 2000000) (hd2 : ∀ f ∈ gs, f.data.length ≤ 2000000) (I : Heap) (hr1 : RecS I fs v) (hr2 : RecS I gs u) : Pure Tryz.prog 15 [recV rk rl v, recV qk ql u] I (i64 (Ke.pts (Ke.feat rk fs) (Ke.feat qk gs))) := by
 refine Ctr.toPure ?_
 obtain ⟨pv, cv, rfl, -, -⟩ := id hr1.1
 obtain ⟨pu, cu, rfl, -, -⟩ := id hr2.1
 have hl1 := author_len hok1
 have hl2 := author_len hok2
 have hy1 := Ke.year_rng fs
 have hy2 := Ke.year_rng gs
 refine Ctr.of_body Tryz.func15 rfl (by decide) (Nat.le_of_ble_eq_true rfl) ?_
 intro w0 hw0
 refine Cj.seq (Cj.region (J.op rfl (op_box rfl rfl rfl rfl rfl ?_)))
 intro b1 hb1
 refine J.op rfl (op_box rfl rfl rfl rfl rfl ?_)
 intro b2 hb2
 refine J.z (yl_assign rfl rfl) ?_
 refine J.nil (Ej.seq (Cj.seq (Cj.region (J.z (yl_assign rfl rfl) ?_))))
 refine J.nil (Ej.seq (Cj.seq (Cj.region (J.z (yl_loadAgg rfl rfl Tryz.isAgg26 Tryz.sizeOf26 (Blk.at 1 rfl) rfl rfl) ?_))))
 refine J.op rfl (op_call (H1 := []) rfl rfl rfl rfl rfl (risbns_ok fs _ rk rl hok1 _ hr1) ?_ (fun _ _ _ _ h => by obtain ⟨_, h, _⟩ := h; cases h) (fun _ _ h => by obtain ⟨_, h, _⟩ := h; cases h))
 intro v3 I4 H5 hle6 hp7
 have hr1 := hr1.mono hle6
 have hr2 := hr2.mono hle6
 obtain ⟨v1, h, aw1, rfl⟩ := hp7; cases h
 obtain ⟨pa1, ca1, rfl, -, -⟩ := id aw1
 refine J.z (yl_assign rfl rfl) ?_
 refine J.nil (Ej.seq (Cj.seq (Cj.region (J.z (yl_loadAgg rfl rfl Tryz.isAgg26 Tryz.sizeOf26 (Blk.at 0 rfl) rfl rfl) ?_))))
 refine J.op rfl (op_call (H1 := []) rfl rfl rfl rfl rfl (risbns_ok gs _ qk ql hok2 _ hr2) ?_ (fun _ _ _ _ h => by obtain ⟨_, h, _⟩ := h; cases h) (fun _ _ h => by obtain ⟨_, h, _⟩ := h; cases h))
 intro v8 I9 H10 hle11 hp12
 have hr1 := hr1.mono hle11
 have hr2 := hr2.mono hle11
 have aw1 := aw1.mono hle11
 obtain ⟨v2, h, aw2, rfl⟩ := hp12; cases h
 obtain ⟨pa2, ca2, rfl, -, -⟩ := id aw2
 refine J.z (yl_assign rfl rfl) ?_
 refine J.nil (Ej.seq (Cj.join (ι := Heap × Int) (fun y => RecS y.1 fs (.slice pv fs.length cv) ∧ RecS y.1 gs (.slice pu gs.length cu) ∧ y.2 = Ke.pB (Ke.isbns fs) (Ke.isbns gs)) (fun y => [(2, ptr b1 0), (3, ptr b2 0), (5, i64 y.2)]) (fun y => y.1) (fun y => [(b2, cel 26 [u8 qk, u8 ql, .slice pu gs.length cu]), (b1, cel 26 [u8 rk, u8 rl, .slice pv fs.length cv])]) ?_ (fun hcut => ?_)))
 ·
  rintro ⟨J9, s⟩ ⟨hr1, hr2, hsum⟩
  dsimp only at hr1 hr2 hsum ⊢
  have hg1 := Ke.pB_rng (Ke.isbns fs) (Ke.isbns gs)
  have hg2 := Ke.pT_rng (Ke.title fs) (Ke.title gs)
  have hg3 := Ke.pA_rng (Ke.author fs) (Ke.author gs)
  have hg4 := Ke.pY_rng (Ke.year fs) (Ke.year gs)
  refine Cj.seq (Cj.region (J.z (yl_loadAgg rfl rfl Tryz.isAgg26 Tryz.sizeOf26 (Blk.at 1 rfl) rfl rfl) ?_))
  refine J.op rfl (op_pure rfl rfl rfl rfl rfl (rTitle_ok fs _ rk rl hok1 _ hr1) ?_)
  refine J.z (yl_assign rfl rfl) ?_
  refine J.nil (Ej.seq (Cj.seq (Cj.region (J.z (yl_loadAgg rfl rfl Tryz.isAgg26 Tryz.sizeOf26 (Blk.at 0 rfl) rfl rfl) ?_))))
  refine J.op rfl (op_pure rfl rfl rfl rfl rfl (rTitle_ok gs _ qk ql hok2 _ hr2) ?_)
  refine J.z (yl_assign rfl rfl) ?_
  refine J.nil (Ej.seq (Cj.join (ι := Heap × Int) (fun y => RecS y.1 fs (.slice pv fs.length cv) ∧ RecS y.1 gs (.slice pu gs.length cu) ∧ y.2 = Ke.pB (Ke.isbns fs) (Ke.isbns gs) + Ke.pT (Ke.title fs) (Ke.title gs)) (fun y => [(2, ptr b1 0), (3, ptr b2 0), (5, i64 y.2)]) (fun y => y.1) (fun y => [(b2, cel 26 [u8 qk, u8 ql, .slice pu gs.length cu]), (b1, cel 26 [u8 rk, u8 rl, .slice pv fs.length cv])]) ?_ (fun hcut => ?_)))
  ·
   rintro ⟨J9, s⟩ ⟨hr1, hr2, hsum⟩
   dsimp only at hr1 hr2 hsum ⊢
   have hg1 := Ke.pB_rng (Ke.isbns fs) (Ke.isbns gs)
   have hg2 := Ke.pT_rng (Ke.title fs) (Ke.title gs)
   have hg3 := Ke.pA_rng (Ke.author fs) (Ke.author gs)
   have hg4 := Ke.pY_rng (Ke.year fs) (Ke.year gs)
   refine Cj.seq (Cj.region (J.z (yl_loadAgg rfl rfl Tryz.isAgg26 Tryz.sizeOf26 (Blk.at 1 rfl) rfl rfl) ?_))
   refine J.op rfl (op_call (H1 := []) rfl rfl rfl rfl rfl (rauthor_ok fs _ rk rl hok1 _ hr1) ?_ (fun _ _ _ _ h => by obtain ⟨_, h, _⟩ := h; cases h) (fun _ _ h => by obtain ⟨_, h, _⟩ := h; cases h))
   intro v13 I14 H15 hle16 hp17
   have hr1 := hr1.mono hle16
   have hr2 := hr2.mono hle16
   obtain ⟨v1, h, aw1, rfl⟩ := hp17; cases h
   obtain ⟨pa1, ca1, rfl, -, -⟩ := id aw1
   refine J.z (yl_assign rfl rfl) ?_
   refine J.nil (Ej.seq (Cj.seq (Cj.region (J.z (yl_loadAgg rfl rfl Tryz.isAgg26 Tryz.sizeOf26 (Blk.at 0 rfl) rfl rfl) ?_))))
   refine J.op rfl (op_call (H1 := []) rfl rfl rfl rfl rfl (rauthor_ok gs _ qk ql hok2 _ hr2) ?_ (fun _ _ _ _ h => by obtain ⟨_, h, _⟩ := h; cases h) (fun _ _ h => by obtain ⟨_, h, _⟩ := h; cases h))
   intro v18 I19 H20 hle21 hp22
   have hr1 := hr1.mono hle21
   have hr2 := hr2.mono hle21
   have aw1 := aw1.mono hle21
   obtain ⟨v2, h, aw2, rfl⟩ := hp22; cases h
   obtain ⟨pa2, ca2, rfl, -, -⟩ := id aw2
   refine J.z (yl_assign rfl rfl) ?_
   refine J.nil (Ej.seq (Cj.join (ι := Heap × Int) (fun y => RecS y.1 fs (.slice pv fs.length cv) ∧ RecS y.1 gs (.slice pu gs.length cu) ∧ y.2 = Ke.pB (Ke.isbns fs) (Ke.isbns gs) + Ke.pT (Ke.title fs) (Ke.title gs) + Ke.pA (Ke.author fs) (Ke.author gs)) (fun y => [(2, ptr b1 0), (3, ptr b2 0), (5, i64 y.2)]) (fun y => y.1) (fun y => [(b2, cel 26 [u8 qk, u8 ql, .slice pu gs.length cu]), (b1, cel 26 [u8 rk, u8 rl, .slice pv fs.length cv])]) ?_ (fun hcut => ?_)))
   ·
    rintro ⟨J9, s⟩ ⟨hr1, hr2, hsum⟩
    dsimp only at hr1 hr2 hsum ⊢
    have hg1 := Ke.pB_rng (Ke.isbns fs) (Ke.isbns gs)
    have hg2 := Ke.pT_rng (Ke.title fs) (Ke.title gs)
    have hg3 := Ke.pA_rng (Ke.author fs) (Ke.author gs)
    have hg4 := Ke.pY_rng (Ke.year fs) (Ke.year gs)
    refine Cj.seq (Cj.region (J.z (yl_loadAgg rfl rfl Tryz.isAgg26 Tryz.sizeOf26 (Blk.at 1 rfl) rfl rfl) ?_))
    refine J.op rfl (op_pure rfl rfl rfl rfl rfl (ryear_ok fs _ rk rl hok1 hd1 _ hr1) ?_)
    refine J.z (yl_assign rfl rfl) ?_
    refine J.nil (Ej.seq (Cj.seq (Cj.region (J.z (yl_loadAgg rfl rfl Tryz.isAgg26 Tryz.sizeOf26 (Blk.at 0 rfl) rfl rfl) ?_))))
    refine J.op rfl (op_pure rfl rfl rfl rfl rfl (ryear_ok gs _ qk ql hok2 hd2 _ hr2) ?_)
    refine J.z (yl_assign rfl rfl) ?_
    refine J.nil (Ej.seq (Cj.join (ι := Heap × Int) (fun y => RecS y.1 fs (.slice pv fs.length cv) ∧ RecS y.1 gs (.slice pu gs.length cu) ∧ y.2 = Ke.pB (Ke.isbns fs) (Ke.isbns gs) + Ke.pT (Ke.title fs) (Ke.title gs) + Ke.pA (Ke.author fs) (Ke.author gs) + Ke.pY (Ke.year fs) (Ke.year gs)) (fun y => [(2, ptr b1 0), (3, ptr b2 0), (5, i64 y.2)]) (fun y => y.1) (fun y => [(b2, cel 26 [u8 qk, u8 ql, .slice pu gs.length cu]), (b1, cel 26 [u8 rk, u8 rl, .slice pv fs.length cv])]) ?_ (fun hcut => ?_)))
    ·
     rintro ⟨J9, s⟩ ⟨hr1, hr2, hsum⟩
     dsimp only at hr1 hr2 hsum ⊢
     have hg1 := Ke.pB_rng (Ke.isbns fs) (Ke.isbns gs)
     have hg2 := Ke.pT_rng (Ke.title fs) (Ke.title gs)
     have hg3 := Ke.pA_rng (Ke.author fs) (Ke.author gs)
     have hg4 := Ke.pY_rng (Ke.year fs) (Ke.year gs)
     refine Cj.seq (Cj.seq (Cj.region (J.z (yl_fieldAddr (off' := 0) rfl rfl Tryz.underlying26 rfl Tryz.sizeOf5 rfl) ?_)))
     refine J.z (yl_load rfl rfl Tryz.isAgg5 (Blk.at 1 rfl) rfl) ?_
     refine J.z (yl_fieldAddr (off' := 0) rfl rfl Tryz.underlying26 rfl Tryz.sizeOf5 rfl) ?_
     refine J.z (yl_load rfl rfl Tryz.isAgg5 (Blk.at 0 rfl) rfl) ?_
     refine J.z (yl_neq rfl rfl rfl) ?_
     refine J.nil (Ej.seq (Cj.cond rfl (fun hc23 => ?_) (fun hc23 => ?_)))
     ·
      have hc23p := bne_iff_ne.1 hc23
      refine Cj.region (J.z (yl_move rfl rfl) ?_)
      refine J.z (yl_sub rfl rfl rfl (w64 (by omega))) ?_
      refine J.z (yl_assign rfl rfl) ?_
      refine J.nil (Ej.seq (Cj.seq (Cj.region (J.z (yl_move rfl rfl) ?_))))
      refine J.z (yl_assign rfl rfl) ?_
      refine J.nil (Ej.seq (Cj.ret (Ej.bare ?_)))
      refine Ej.ret1 rfl rfl rfl ?_
      have hpt : Ke.pts (Ke.feat rk fs) (Ke.feat qk gs) = Ke.pB (Ke.isbns fs) (Ke.isbns gs) + Ke.pT (Ke.title fs) (Ke.title gs) + Ke.pA (Ke.author fs) (Ke.author gs) + Ke.pY (Ke.year fs) (Ke.year gs) + Ke.pK rk qk := rfl
      have hk : Ke.pK rk qk = -40 := if_neg (fun e => bne_iff_ne.1 hc23 (by rw [e]))
      exact ⟨congrArg (fun z => Ending.returned (i64 z)) (by omega), rfl⟩
     ·
      have hc23p := bne_f hc23
      refine Cj.skip (Ej.seq (Cj.seq (Cj.region (J.z (yl_move rfl rfl) ?_))))
      refine J.z (yl_assign rfl rfl) ?_
      refine J.nil (Ej.seq (Cj.ret (Ej.bare ?_)))
      refine Ej.ret1 rfl rfl rfl ?_
      have hpt : Ke.pts (Ke.feat rk fs) (Ke.feat qk gs) = Ke.pB (Ke.isbns fs) (Ke.isbns gs) + Ke.pT (Ke.title fs) (Ke.title gs) + Ke.pA (Ke.author fs) (Ke.author gs) + Ke.pY (Ke.year fs) (Ke.year gs) + Ke.pK rk qk := rfl
      have hk : Ke.pK rk qk = 0 := if_pos (UInt8.toNat_inj.1 (by have h := bne_f hc23; omega))
      exact ⟨congrArg (fun z => Ending.returned (i64 z)) (by omega), rfl⟩
    ·
     refine Cj.seq (Cj.region (J.z (yl_move rfl rfl) ?_))
     refine J.z (yl_geq rfl rfl rfl) ?_
     refine J.z (yl_move rfl rfl) ?_
     refine J.split 86 rfl (fun hg24 => ?_) (fun hg24 => ?_)
     ·
      have hg24p := of_decide_eq_true hg24
      refine J.opG 2 86 true _ rfl rfl rfl hg24 (op_yld (yl_move rfl rfl) rfl rfl ?_)
      refine J.opG 2 86 true _ rfl rfl rfl hg24 (op_yld (yl_geq rfl rfl rfl) rfl rfl ?_)
      refine J.z (yl_pick1 rfl rfl hg24 rfl) ?_
      refine J.nil (Ej.seq (Cj.cond rfl (fun hc25 => ?_) (fun hc25 => ?_)))
      ·
       have hc25p := of_decide_eq_true hc25
       refine Cj.seq (Cj.seq (Cj.region (J.z (yl_move rfl rfl) ?_)))
       refine J.z (yl_move rfl rfl) ?_
       refine J.z (yl_eql rfl rfl rfl) ?_
       refine J.nil (Ej.seq (Cj.cond rfl (fun hc26 => ?_) (fun hc26 => ?_)))
       ·
        have hc26p := eq_of_beq hc26
        refine Cj.region (J.z (yl_move rfl rfl) ?_)
        refine J.z (yl_add rfl rfl rfl (w64 (by omega))) ?_
        refine J.z (yl_assign rfl rfl) ?_
        refine J.nil (Ej.seq (Cj.seq (Cj.region (J.z (yl_move rfl rfl) ?_))))
        refine J.z (yl_move rfl rfl) ?_
        refine J.z (yl_sub rfl rfl rfl (w64 (by omega))) ?_
        refine J.z (yl_gtr rfl rfl rfl) ?_
        refine J.z (yl_move rfl rfl) ?_
        refine J.split 99 rfl (fun hg27 => ?_) (fun hg27 => ?_)
        ·
         have hg27p := of_decide_eq_true hg27
         refine J.skip 4 99 100 false _ rfl rfl rfl hg27 rfl rfl ?_
         refine J.skip 4 99 101 false _ rfl rfl rfl hg27 rfl rfl ?_
         refine J.skip 4 99 102 false _ rfl rfl rfl hg27 rfl rfl ?_
         refine J.skip 4 99 103 false _ rfl rfl rfl hg27 rfl rfl ?_
         refine J.z (yl_pick1 rfl rfl hg27 rfl) ?_
         refine J.nil (Ej.seq (Cj.cond rfl (fun hc28 => ?_) (fun hc28 => Bool.noConfusion (Eq.trans (Eq.symm rfl) hc28))))
         refine Cj.region (J.z (yl_move rfl rfl) ?_)
         refine J.z (yl_sub rfl rfl rfl (w64 (by omega))) ?_
         refine J.z (yl_assign rfl rfl) ?_
         refine J.nil ?_
         exact hcut (_, _) _ _ _ ⟨hr1, hr2, (by dsimp only; rw [hsum]; unfold Ke.pY; repeat (first | omega | split))⟩ ⟨rfl, rfl, rfl, trivial⟩ rfl rfl
        ·
         have hg27p := of_decide_eq_false hg27
         refine J.opG 4 99 false _ rfl rfl rfl hg27 (op_yld (yl_move rfl rfl) rfl rfl ?_)
         refine J.opG 4 99 false _ rfl rfl rfl hg27 (op_yld (yl_move rfl rfl) rfl rfl ?_)
         refine J.opG 4 99 false _ rfl rfl rfl hg27 (op_yld (yl_sub rfl rfl rfl (w64 (by omega))) rfl rfl ?_)
         refine J.opG 4 99 false _ rfl rfl rfl hg27 (op_yld (yl_gtr rfl rfl rfl) rfl rfl ?_)
         refine J.z (yl_pick0 rfl rfl hg27 rfl) ?_
         refine J.nil (Ej.seq (Cj.cond rfl (fun hc29 => ?_) (fun hc29 => ?_)))
         ·
          have hc29p := of_decide_eq_true hc29
          refine Cj.region (J.z (yl_move rfl rfl) ?_)
          refine J.z (yl_sub rfl rfl rfl (w64 (by omega))) ?_
          refine J.z (yl_assign rfl rfl) ?_
          refine J.nil ?_
          exact hcut (_, _) _ _ _ ⟨hr1, hr2, (by dsimp only; rw [hsum]; unfold Ke.pY; repeat (first | omega | split))⟩ ⟨rfl, rfl, rfl, trivial⟩ rfl rfl
         ·
          have hc29p := of_decide_eq_false hc29
          refine Cj.skip ?_
          exact hcut (_, _) _ _ _ ⟨hr1, hr2, (by dsimp only; rw [hsum]; unfold Ke.pY; repeat (first | omega | split))⟩ ⟨rfl, rfl, rfl, trivial⟩ rfl rfl
       ·
        have hc26p := ne_of_beq_false hc26
        refine Cj.skip (Ej.seq (Cj.seq (Cj.region (J.z (yl_move rfl rfl) ?_))))
        refine J.z (yl_move rfl rfl) ?_
        refine J.z (yl_sub rfl rfl rfl (w64 (by omega))) ?_
        refine J.z (yl_gtr rfl rfl rfl) ?_
        refine J.z (yl_move rfl rfl) ?_
        refine J.split 99 rfl (fun hg30 => ?_) (fun hg30 => ?_)
        ·
         have hg30p := of_decide_eq_true hg30
         refine J.skip 4 99 100 false _ rfl rfl rfl hg30 rfl rfl ?_
         refine J.skip 4 99 101 false _ rfl rfl rfl hg30 rfl rfl ?_
         refine J.skip 4 99 102 false _ rfl rfl rfl hg30 rfl rfl ?_
         refine J.skip 4 99 103 false _ rfl rfl rfl hg30 rfl rfl ?_
         refine J.z (yl_pick1 rfl rfl hg30 rfl) ?_
         refine J.nil (Ej.seq (Cj.cond rfl (fun hc31 => ?_) (fun hc31 => Bool.noConfusion (Eq.trans (Eq.symm rfl) hc31))))
         refine Cj.region (J.z (yl_move rfl rfl) ?_)
         refine J.z (yl_sub rfl rfl rfl (w64 (by omega))) ?_
         refine J.z (yl_assign rfl rfl) ?_
         refine J.nil ?_
         exact hcut (_, _) _ _ _ ⟨hr1, hr2, (by dsimp only; rw [hsum]; unfold Ke.pY; repeat (first | omega | split))⟩ ⟨rfl, rfl, rfl, trivial⟩ rfl rfl
        ·
         have hg30p := of_decide_eq_false hg30
         refine J.opG 4 99 false _ rfl rfl rfl hg30 (op_yld (yl_move rfl rfl) rfl rfl ?_)
         refine J.opG 4 99 false _ rfl rfl rfl hg30 (op_yld (yl_move rfl rfl) rfl rfl ?_)
         refine J.opG 4 99 false _ rfl rfl rfl hg30 (op_yld (yl_sub rfl rfl rfl (w64 (by omega))) rfl rfl ?_)
         refine J.opG 4 99 false _ rfl rfl rfl hg30 (op_yld (yl_gtr rfl rfl rfl) rfl rfl ?_)
         refine J.z (yl_pick0 rfl rfl hg30 rfl) ?_
         refine J.nil (Ej.seq (Cj.cond rfl (fun hc32 => ?_) (fun hc32 => ?_)))
         ·
          have hc32p := of_decide_eq_true hc32
          refine Cj.region (J.z (yl_move rfl rfl) ?_)
          refine J.z (yl_sub rfl rfl rfl (w64 (by omega))) ?_
          refine J.z (yl_assign rfl rfl) ?_
          refine J.nil ?_
          exact hcut (_, _) _ _ _ ⟨hr1, hr2, (by dsimp only; rw [hsum]; unfold Ke.pY; repeat (first | omega | split))⟩ ⟨rfl, rfl, rfl, trivial⟩ rfl rfl
         ·
          have hc32p := of_decide_eq_false hc32
          refine Cj.skip ?_
          exact hcut (_, _) _ _ _ ⟨hr1, hr2, (by dsimp only; rw [hsum]; unfold Ke.pY; repeat (first | omega | split))⟩ ⟨rfl, rfl, rfl, trivial⟩ rfl rfl
      ·
       have hc25p := of_decide_eq_false hc25
       refine Cj.skip ?_
       exact hcut (_, _) _ _ _ ⟨hr1, hr2, (by dsimp only; rw [hsum]; unfold Ke.pY; repeat (first | omega | split))⟩ ⟨rfl, rfl, rfl, trivial⟩ rfl rfl
     ·
      have hg24p := of_decide_eq_false hg24
      refine J.skip 2 86 87 true _ rfl rfl rfl hg24 rfl rfl ?_
      refine J.skip 2 86 88 true _ rfl rfl rfl hg24 rfl rfl ?_
      refine J.z (yl_pick0 rfl rfl hg24 rfl) ?_
      refine J.nil (Ej.seq (Cj.cond rfl (fun hc33 => Bool.noConfusion (Eq.trans (Eq.symm rfl) hc33)) (fun hc33 => ?_)))
      refine Cj.skip ?_
      exact hcut (_, _) _ _ _ ⟨hr1, hr2, (by dsimp only; rw [hsum]; unfold Ke.pY; repeat (first | omega | split))⟩ ⟨rfl, rfl, rfl, trivial⟩ rfl rfl
   ·
    refine Cj.seq (Cj.region (J.z (yl_move rfl rfl) ?_))
    refine J.z (yl_lenSlice rfl rfl Tryz.underlying31) ?_
    refine J.z (yl_gtr rfl rfl rfl) ?_
    refine J.z (yl_move rfl rfl) ?_
    refine J.split 57 rfl (fun hg34 => ?_) (fun hg34 => ?_)
    ·
     have hg34p := of_decide_eq_true hg34
     have hn1 : Ke.author fs ≠ [] := fun e => by have h := of_decide_eq_true hg34; rw [e] at h; exact absurd h (by decide)
     refine J.opG 3 57 true _ rfl rfl rfl hg34 (op_yld (yl_move rfl rfl) rfl rfl ?_)
     refine J.opG 3 57 true _ rfl rfl rfl hg34 (op_yld (yl_lenSlice rfl rfl Tryz.underlying31) rfl rfl ?_)
     refine J.opG 3 57 true _ rfl rfl rfl hg34 (op_yld (yl_gtr rfl rfl rfl) rfl rfl ?_)
     refine J.z (yl_pick1 rfl rfl hg34 rfl) ?_
     refine J.nil (Ej.seq (Cj.cond rfl (fun hc35 => ?_) (fun hc35 => ?_)))
     ·
      have hc35p := of_decide_eq_true hc35
      have hn2 : Ke.author gs ≠ [] := fun e => by have h := of_decide_eq_true hc35; rw [e] at h; exact absurd h (by decide)
      obtain ⟨p9, c9, h9, -, h8⟩ := id aw1
      cases h9
      obtain ⟨ab1, ao1, as1, at1, af1, sp1, rfl, hab1, had1⟩ := h8 hn1
      have hlt1 : 0 < (Ke.author fs).length := List.length_pos_iff.2 hn1
      obtain ⟨x1, hget1⟩ : ∃ x, (Ke.author fs)[0]? = some x := ⟨_, List.getElem?_eq_getElem hlt1⟩
      obtain ⟨p9, c9, h9, -, h8⟩ := id aw2
      cases h9
      obtain ⟨ab2, ao2, as2, at2, af2, sp2, rfl, hab2, had2⟩ := h8 hn2
      have hlt2 : 0 < (Ke.author gs).length := List.length_pos_iff.2 hn2
      obtain ⟨x2, hget2⟩ : ∃ x, (Ke.author gs)[0]? = some x := ⟨_, List.getElem?_eq_getElem hlt2⟩
      refine Cj.block (Cj.seq (Cj.region (J.z (yl_move rfl rfl) ?_)))
      refine J.z (yl_move rfl rfl) ?_
      refine J.op rfl (op_pure rfl rfl rfl rfl rfl (Strings_ok (Ke.author fs) (Ke.author gs) _ _ (by omega) _ aw1 aw2) ?_)
      refine J.z (yl_assign rfl rfl) ?_
      refine J.nil (Ej.seq (Cj.cond rfl (fun hc36 => ?_) (fun hc36 => ?_)))
      ·
       refine Cj.region (J.z (yl_move rfl rfl) ?_)
       refine J.z (yl_add rfl rfl rfl (w64 (by omega))) ?_
       refine J.z (yl_assign rfl rfl) ?_
       refine J.nil (Ej.blkNormal ?_)
       exact hcut (_, _) _ _ _ ⟨hr1, hr2, (by have hx : Ke.pA (Ke.author fs) (Ke.author gs) = 15 := (by unfold Ke.pA; rw [if_pos (And.intro hn1 hn2), if_pos (of_decide_eq_true hc36)]); dsimp only; omega)⟩ ⟨rfl, rfl, rfl, trivial⟩ rfl rfl
      ·
       refine Cj.seq (Cj.drawSel [] [] 8 (by kernel_rfl) ?_)
       refine JA.fix ⟨HSub.n, CSub.n, (Le.refl _)⟩ (fun fx37 => ?_)
       refine JA.tk 0 rfl fx37 (yl_move rfl rfl) ?_
       refine JA.tk 1 rfl fx37 (yl_indexAddr (off' := ao1 + 0) rfl rfl rfl Tryz.underlying31 Tryz.sizeOf9 (by decide) (by omega) (by simp)) ?_
       refine JA.tk 2 rfl fx37 (yl_load rfl rfl Tryz.isAgg9 (Blk.immC hab1) (str_from had1 hget1)) ?_
       refine JA.tk 3 rfl fx37 (yl_move rfl rfl) ?_
       refine JA.tk 4 rfl fx37 (yl_indexAddr (off' := ao2 + 0) rfl rfl rfl Tryz.underlying31 Tryz.sizeOf9 (by decide) (by omega) (by simp)) ?_
       refine JA.tk 5 rfl fx37 (yl_load rfl rfl Tryz.isAgg9 (Blk.immC hab2) (str_from had2 hget2)) ?_
       refine JA.tk 6 rfl fx37 (yl_eqlStr rfl rfl rfl) ?_
       refine JA.tk 7 rfl fx37 (yl_assign rfl rfl) ?_
       refine JA.done (by kernel_rfl) ?_
       refine Ej.seq (Cj.cond rfl (fun hc38 => ?_) (fun hc38 => ?_))
       ·
        have hc38p := eq_of_beq hc38
        refine Cj.region (J.z (yl_move rfl rfl) ?_)
        refine J.z (yl_add rfl rfl rfl (w64 (by omega))) ?_
        refine J.z (yl_assign rfl rfl) ?_
        refine J.nil (Ej.blkNormal ?_)
        exact hcut (_, _) _ _ _ ⟨hr1, hr2, (by have hx : Ke.pA (Ke.author fs) (Ke.author gs) = 8 := (by unfold Ke.pA; rw [if_pos (And.intro hn1 hn2), if_neg (of_decide_eq_false hc36), List.head?_eq_getElem?, List.head?_eq_getElem?, hget1, hget2, if_pos (congrArg some (eq_of_beq hc38))]); dsimp only; omega)⟩ ⟨rfl, rfl, rfl, trivial⟩ rfl rfl
       ·
        have hc38p := ne_of_beq_false hc38
        refine Cj.region (J.z (yl_move rfl rfl) ?_)
        refine J.z (yl_sub rfl rfl rfl (w64 (by omega))) ?_
        refine J.z (yl_assign rfl rfl) ?_
        refine J.nil (Ej.blkNormal ?_)
        exact hcut (_, _) _ _ _ ⟨hr1, hr2, (by have hx : Ke.pA (Ke.author fs) (Ke.author gs) = -15 := (by unfold Ke.pA; rw [if_pos (And.intro hn1 hn2), if_neg (of_decide_eq_false hc36), List.head?_eq_getElem?, List.head?_eq_getElem?, hget1, hget2, if_neg (fun e => ne_of_beq_false hc38 (Option.some.inj e))]); dsimp only; omega)⟩ ⟨rfl, rfl, rfl, trivial⟩ rfl rfl
     ·
      have hc35p := of_decide_eq_false hc35
      have hz : Ke.author gs = [] := List.eq_nil_of_length_eq_zero (by have h := of_decide_eq_false hc35; omega)
      refine Cj.skip ?_
      exact hcut (_, _) _ _ _ ⟨hr1, hr2, (by have hx : Ke.pA (Ke.author fs) (Ke.author gs) = 0 := if_neg (fun e => e.2 hz); dsimp only; omega)⟩ ⟨rfl, rfl, rfl, trivial⟩ rfl rfl
    ·
     have hg34p := of_decide_eq_false hg34
     have hz : Ke.author fs = [] := List.eq_nil_of_length_eq_zero (by have h := of_decide_eq_false hg34; omega)
     refine J.skip 3 57 58 true _ rfl rfl rfl hg34 rfl rfl ?_
     refine J.skip 3 57 59 true _ rfl rfl rfl hg34 rfl rfl ?_
     refine J.skip 3 57 60 true _ rfl rfl rfl hg34 rfl rfl ?_
     refine J.z (yl_pick0 rfl rfl hg34 rfl) ?_
     refine J.nil (Ej.seq (Cj.cond rfl (fun hc39 => Bool.noConfusion (Eq.trans (Eq.symm rfl) hc39)) (fun hc39 => ?_)))
     refine Cj.skip ?_
     exact hcut (_, _) _ _ _ ⟨hr1, hr2, (by have hx : Ke.pA (Ke.author fs) (Ke.author gs) = 0 := if_neg (fun e => e.1 hz); dsimp only; omega)⟩ ⟨rfl, rfl, rfl, trivial⟩ rfl rfl
  ·
   refine Cj.seq (Cj.region (J.z (yl_move rfl rfl) ?_))
   refine J.z (yl_neqStr rfl rfl rfl) ?_
   refine J.z (yl_move rfl rfl) ?_
   refine J.split 39 rfl (fun hg40 => ?_) (fun hg40 => ?_)
   ·
    have hg40p := bne_iff_ne.1 hg40
    have hn1 : Ke.title fs ≠ [] := bne_iff_ne.1 hg40
    refine J.opG 2 39 true _ rfl rfl rfl hg40 (op_yld (yl_move rfl rfl) rfl rfl ?_)
    refine J.opG 2 39 true _ rfl rfl rfl hg40 (op_yld (yl_neqStr rfl rfl rfl) rfl rfl ?_)
    refine J.z (yl_pick1 rfl rfl hg40 rfl) ?_
    refine J.nil (Ej.seq (Cj.cond rfl (fun hc41 => ?_) (fun hc41 => ?_)))
    ·
     have hc41p := bne_iff_ne.1 hc41
     have hn2 : Ke.title gs ≠ [] := bne_iff_ne.1 hc41
     refine Cj.seq (Cj.region (J.z (yl_move rfl rfl) ?_))
     refine J.z (yl_move rfl rfl) ?_
     refine J.z (yl_eqlStr rfl rfl rfl) ?_
     refine J.nil (Ej.seq (Cj.cond rfl (fun hc42 => ?_) (fun hc42 => ?_)))
     ·
      have hc42p := eq_of_beq hc42
      refine Cj.region (J.z (yl_move rfl rfl) ?_)
      refine J.z (yl_add rfl rfl rfl (w64 (by omega))) ?_
      refine J.z (yl_assign rfl rfl) ?_
      refine J.nil ?_
      exact hcut (_, _) _ _ _ ⟨hr1, hr2, (by have hx : Ke.pT (Ke.title fs) (Ke.title gs) = 30 := (by have h := eq_of_beq hc42; unfold Ke.pT; rw [if_pos (And.intro hn1 hn2), if_pos h]); dsimp only; omega)⟩ ⟨rfl, rfl, rfl, trivial⟩ rfl rfl
     ·
      have hc42p := ne_of_beq_false hc42
      refine Cj.region (J.z (yl_move rfl rfl) ?_)
      refine J.z (yl_sub rfl rfl rfl (w64 (by omega))) ?_
      refine J.z (yl_assign rfl rfl) ?_
      refine J.nil ?_
      exact hcut (_, _) _ _ _ ⟨hr1, hr2, (by have hx : Ke.pT (Ke.title fs) (Ke.title gs) = -20 := (by have h := ne_of_beq_false hc42; unfold Ke.pT; rw [if_pos (And.intro hn1 hn2), if_neg h]); dsimp only; omega)⟩ ⟨rfl, rfl, rfl, trivial⟩ rfl rfl
    ·
     have hc41p := bne_f hc41
     have hz : Ke.title gs = [] := bne_f hc41
     refine Cj.skip ?_
     exact hcut (_, _) _ _ _ ⟨hr1, hr2, (by have hx : Ke.pT (Ke.title fs) (Ke.title gs) = 0 := if_neg (fun e => e.2 hz); dsimp only; omega)⟩ ⟨rfl, rfl, rfl, trivial⟩ rfl rfl
   ·
    have hg40p := bne_f hg40
    have hz : Ke.title fs = [] := bne_f hg40
    refine J.skip 2 39 40 true _ rfl rfl rfl hg40 rfl rfl ?_
    refine J.skip 2 39 41 true _ rfl rfl rfl hg40 rfl rfl ?_
    refine J.z (yl_pick0 rfl rfl hg40 rfl) ?_
    refine J.nil (Ej.seq (Cj.cond rfl (fun hc43 => Bool.noConfusion (Eq.trans (Eq.symm rfl) hc43)) (fun hc43 => ?_)))
    refine Cj.skip ?_
    exact hcut (_, _) _ _ _ ⟨hr1, hr2, (by have hx : Ke.pT (Ke.title fs) (Ke.title gs) = 0 := if_neg (fun e => e.1 hz); dsimp only; omega)⟩ ⟨rfl, rfl, rfl, trivial⟩ rfl rfl
 ·
  refine Cj.seq (Cj.region (J.z (yl_move rfl rfl) ?_))
  refine J.z (yl_lenSlice rfl rfl Tryz.underlying31) ?_
  refine J.z (yl_gtr rfl rfl rfl) ?_
  refine J.z (yl_move rfl rfl) ?_
  refine J.split 21 rfl (fun hg44 => ?_) (fun hg44 => ?_)
  ·
   have hg44p := of_decide_eq_true hg44
   have hn1 : Ke.isbns fs ≠ [] := fun e => by have h := of_decide_eq_true hg44; rw [e] at h; exact absurd h (by decide)
   refine J.opG 3 21 true _ rfl rfl rfl hg44 (op_yld (yl_move rfl rfl) rfl rfl ?_)
   refine J.opG 3 21 true _ rfl rfl rfl hg44 (op_yld (yl_lenSlice rfl rfl Tryz.underlying31) rfl rfl ?_)
   refine J.opG 3 21 true _ rfl rfl rfl hg44 (op_yld (yl_gtr rfl rfl rfl) rfl rfl ?_)
   refine J.z (yl_pick1 rfl rfl hg44 rfl) ?_
   refine J.nil (Ej.seq (Cj.cond rfl (fun hc45 => ?_) (fun hc45 => ?_)))
   ·
    have hc45p := of_decide_eq_true hc45
    have hn2 : Ke.isbns gs ≠ [] := fun e => by have h := of_decide_eq_true hc45; rw [e] at h; exact absurd h (by decide)
    refine Cj.seq (Cj.region (J.z (yl_move rfl rfl) ?_))
    refine J.z (yl_move rfl rfl) ?_
    refine J.op rfl (op_pure rfl rfl rfl rfl rfl (common_ok (Ke.isbns fs) (Ke.isbns gs) _ _ (rlists_len hok1) (rlists_len hok2) _ aw1 aw2) ?_)
    refine J.nil (Ej.seq (Cj.cond rfl (fun hc46 => ?_) (fun hc46 => ?_)))
    ·
     refine Cj.region (J.z (yl_move rfl rfl) ?_)
     refine J.z (yl_add rfl rfl rfl (w64 (by omega))) ?_
     refine J.z (yl_assign rfl rfl) ?_
     refine J.nil ?_
     exact hcut (_, _) _ _ _ ⟨hr1, hr2, (by have hx : Ke.pB (Ke.isbns fs) (Ke.isbns gs) = 50 := (by have h := hc46; simp [Ke.pB, hn1, hn2, h]); dsimp only; omega)⟩ ⟨rfl, rfl, rfl, trivial⟩ rfl rfl
    ·
     refine Cj.region (J.z (yl_move rfl rfl) ?_)
     refine J.z (yl_sub rfl rfl rfl (w64 (by omega))) ?_
     refine J.z (yl_assign rfl rfl) ?_
     refine J.nil ?_
     exact hcut (_, _) _ _ _ ⟨hr1, hr2, (by have hx : Ke.pB (Ke.isbns fs) (Ke.isbns gs) = -30 := (by have h := hc46; simp [Ke.pB, hn1, hn2, h]); dsimp only; omega)⟩ ⟨rfl, rfl, rfl, trivial⟩ rfl rfl
   ·
    have hc45p := of_decide_eq_false hc45
    have hz : Ke.isbns gs = [] := List.eq_nil_of_length_eq_zero (by have h := of_decide_eq_false hc45; omega)
    refine Cj.skip ?_
    exact hcut (_, _) _ _ _ ⟨hr1, hr2, (by have hx : Ke.pB (Ke.isbns fs) (Ke.isbns gs) = 0 := if_neg (fun e => e.2 hz); dsimp only; omega)⟩ ⟨rfl, rfl, rfl, trivial⟩ rfl rfl
  ·
   have hg44p := of_decide_eq_false hg44
   have hz : Ke.isbns fs = [] := List.eq_nil_of_length_eq_zero (by have h := of_decide_eq_false hg44; omega)
   refine J.skip 3 21 22 true _ rfl rfl rfl hg44 rfl rfl ?_
   refine J.skip 3 21 23 true _ rfl rfl rfl hg44 rfl rfl ?_
   refine J.skip 3 21 24 true _ rfl rfl rfl hg44 rfl rfl ?_
   refine J.z (yl_pick0 rfl rfl hg44 rfl) ?_
   refine J.nil (Ej.seq (Cj.cond rfl (fun hc47 => Bool.noConfusion (Eq.trans (Eq.symm rfl) hc47)) (fun hc47 => ?_)))
   refine Cj.skip ?_
   exact hcut (_, _) _ _ _ ⟨hr1, hr2, (by have hx : Ke.pB (Ke.isbns fs) (Ke.isbns gs) = 0 := if_neg (fun e => e.1 hz); dsimp only; omega)⟩ ⟨rfl, rfl, rfl, trivial⟩ rfl rfl
set_option maxRecDepth 20000 in
theorem rSame_ok (fs gs : List Ke.Fld) (v u : Value) (rk rl qk ql : UInt8) (hok1 : FOK fs) (hok2 : FOK gs) (hd1 : ∀ f ∈ fs, f.data.length ≤ 2000000) (hd2 : ∀ f ∈ gs, f.data.length ≤ 2000000) (I : Heap) (hr1 : RecS I fs v) (hr2 : RecS I gs u) : Pure Tryz.prog 17 [recV rk rl v, recV qk ql u] I (.bool (decide (Ke.pts (Ke.feat rk fs) (Ke.feat qk gs) ≥ 40))) := by
 refine Ctr.toPure ?_
 obtain ⟨pv, cv, rfl, -, -⟩ := id hr1.1
 obtain ⟨pu, cu, rfl, -, -⟩ := id hr2.1
 refine Ctr.of_body Tryz.func17 rfl (by decide) (Nat.le_of_ble_eq_true rfl) ?_
 intro w0 hw0
 refine Cj.seq (Cj.region (J.op rfl (op_box rfl rfl rfl rfl rfl ?_)))
 intro b1 hb1
 refine J.op rfl (op_box rfl rfl rfl rfl rfl ?_)
 intro b2 hb2
 refine J.z (yl_assign rfl rfl) ?_
 refine J.nil (Ej.seq (Cj.seq (Cj.region (J.z (yl_loadAgg rfl rfl Tryz.isAgg26 Tryz.sizeOf26 (Blk.at 1 rfl) rfl rfl) ?_))))
 refine J.z (yl_loadAgg rfl rfl Tryz.isAgg26 Tryz.sizeOf26 (Blk.at 0 rfl) rfl rfl) ?_
 refine J.op rfl (op_pure rfl rfl rfl rfl rfl (rPoints_ok fs gs _ _ rk rl qk ql hok1 hok2 hd1 hd2 _ hr1 hr2) ?_)
 refine J.z (yl_geq rfl rfl rfl) ?_
 refine J.z (yl_assign rfl rfl) ?_
 refine J.nil (Ej.seq (Cj.ret (Ej.bare ?_)))
 refine Ej.ret1 rfl rfl rfl ?_
 exact ⟨rfl, rfl⟩
end Go.Proofs.YtadnofaleepkmaaGreatDoor
end
