/-
  The law MatchSelf. Own text, printed by a program. Conditions: none.
-/
import Derived.Test.YtadnofaleepkmaaGreatDoorPB14
import Derived.Test.YtadnofaleepkmaaGreatDoorPB16
import Derived.Test.YtadnofaleepkmaaGreatDoorPB13
import Derived.Test.YtadnofaleepkmaaGreatDoorPB10
namespace Go.Proofs.YtadnofaleepkmaaGreatDoor
open Go Go.Sx
theorem StrS_sl2 {T : TypeId} {I : Heap} {l : List (List UInt8)} {v : Value} (h : StrS T I l v) : ∃ p c, v = .slice p l.length c ∧ True := let ⟨p, c, e⟩ := StrS_sl h; ⟨p, c, e, trivial⟩
set_option maxRecDepth 20000 in
theorem MatchSelf_ok (q : Ke.Six) (hq : SixOk q) (I : Heap) : Pure Tryz.prog 4 [sixV q] I (.bool true) := by
 refine Ctr.toPure ?_
 refine Ctr.of_body Tryz.func4 rfl (by decide) (Nat.le_of_ble_eq_true rfl) ?_
 intro w0 hw0
 refine Cj.seq (Cj.region (J.op rfl (op_box rfl rfl rfl rfl rfl ?_)))
 intro b1 hb1
 refine J.z (yl_assign rfl rfl) ?_
 refine J.nil (Ej.seq (Cj.seq (Cj.region (J.op rfl (op_pure rfl rfl rfl rfl rfl (sanity_ok _) ?_)))))
 refine J.z (yl_assign rfl rfl) ?_
 refine J.nil (Ej.seq (Cj.seq (Cj.region (J.z (yl_loadAgg rfl rfl Tryz.isAgg22 Tryz.sizeOf22 (Blk.at 0 rfl) rfl rfl) ?_))))
 refine J.op rfl (op_call (H1 := []) rfl rfl rfl rfl rfl (Made6_ok q hq _) ?_ (fun _ _ _ _ h => by obtain ⟨_, _, h, _⟩ := h; cases h) (fun _ _ h => by obtain ⟨_, _, h, _⟩ := h; cases h))
 intro v2 I3 H4 hle5 hp6
 obtain ⟨fs, wfs, h, hr, hN, rfl⟩ := hp6; cases h
 obtain ⟨rp, rc, rfl, -, -⟩ := id hr.1
 obtain ⟨hok, hdl⟩ := made_ok hN
 refine J.op rfl (op_alloc rfl rfl rfl Tryz.zeroValue26 rfl ?_)
 intro b7 hb7
 refine J.op rfl (op_store 0 rfl rfl rfl rfl rfl rfl Tryz.sizeOf26 rfl rfl (LSpl.c (LSpl.c (LSpl.c LSpl.z))) LSet.z ?_)
 refine J.nil (Ej.seq (Cj.seq (Cj.region (J.z (yl_loadAgg rfl rfl Tryz.isAgg26 Tryz.sizeOf26 (Blk.at 0 rfl) rfl rfl) ?_))))
 refine J.op rfl (op_call (H1 := []) rfl rfl rfl rfl rfl (All_ok fs _ (Ke.mkind q) 109 hok _ hr) ?_ (fun _ _ _ _ h => by obtain ⟨_, h, _⟩ := h; cases h) (fun _ _ h => by obtain ⟨_, h, _⟩ := h; cases h))
 intro v8 I9 H10 hle11 hp12
 have hr := hr.mono hle11
 obtain ⟨vk, h, hk, rfl⟩ := hp12; cases h
 obtain ⟨kp, kc, rfl⟩ := StrS_sl hk
 have hkl := all_len hok
 refine J.z (yl_assign rfl rfl) ?_
 refine J.nil (Ej.seq (Cj.seq (Cj.region (J.z (yl_assign rfl rfl) ?_))))
 refine J.nil (Ej.seq (Cj.seq (Cj.seq (Cj.region (J.z (yl_assign rfl rfl) ?_)))))
 refine J.nil (Ej.seq (Cj.block (Cj.loop (ι := Nat × Bool) (fun y => y.1 ≤ (Ke.all fs).length ∧ (y.2 = true → Ke.isbns fs ≠ [])) (fun y => (Ke.all fs).length - y.1) (fun y => [(1, ptr b1 0), (3, .bool true), (4, ptr b7 0), (5, .slice kp (Ke.all fs).length kc), (6, .bool y.2), (7, i64 (y.1 : Int))]) (fun y => _) (fun y => [(b7, cel 26 [u8 (Ke.mkind q), u8 109, .slice rp fs.length rc]), (b1, cel 22 (sixC q))]) (0, false) ⟨Nat.zero_le _, fun h => by cases h⟩ ⟨rfl, rfl, rfl, rfl, rfl, rfl, trivial⟩ rfl rfl ?_)))
 rintro ⟨i, bk⟩ ⟨hi, hbk⟩
 dsimp only at hi hbk ⊢
 refine Cj.seq (Cj.seq (Cj.region (J.z (yl_move rfl rfl) ?_)))
 refine J.z (yl_move rfl rfl) ?_
 refine J.z (yl_lenSlice rfl rfl Tryz.underlying31) ?_
 refine J.z (yl_lss rfl rfl rfl) ?_
 refine J.nil (Ej.seq (Cj.cond rfl (fun hc13 => ?_) (fun hc13 => ?_)))
 ·
  have hc13p := of_decide_eq_true hc13
  have hlt : i < (Ke.all fs).length := by omega
  obtain ⟨k, hkget⟩ : ∃ k, (Ke.all fs)[i]? = some k := ⟨_, List.getElem?_eq_getElem hlt⟩
  obtain ⟨kbb, kc1, ksp, hke, hkbb⟩ := hk.some (ne_nil_of hlt)
  cases hke
  refine Cj.skip (Ej.seq (Cj.seq (Cj.block (Cj.region (J.z (yl_move rfl rfl) ?_)))))
  refine J.z (yl_move rfl rfl) ?_
  refine J.split 24 rfl (fun hg14 => ?_) (fun hg14 => ?_)
  ·
   refine J.skip 1 24 25 false _ rfl rfl rfl hg14 rfl rfl ?_
   refine J.skip 1 24 26 false _ rfl rfl rfl hg14 rfl rfl ?_
   refine J.skip 1 24 27 false _ rfl rfl rfl hg14 rfl rfl ?_
   refine J.skip 1 24 28 false _ rfl rfl rfl hg14 rfl rfl ?_
   refine J.skip 1 24 29 false _ rfl rfl rfl hg14 rfl rfl ?_
   refine J.skip 1 24 30 false _ rfl rfl rfl hg14 rfl rfl ?_
   refine J.skip 1 24 31 false _ rfl rfl rfl hg14 rfl rfl ?_
   refine J.skipU 8 31 32 true rfl rfl rfl rfl rfl ?_
   refine J.skipU 8 31 33 true rfl rfl rfl rfl rfl ?_
   refine J.skipU 8 31 34 true rfl rfl rfl rfl rfl ?_
   refine J.skipU 8 31 35 true rfl rfl rfl rfl rfl ?_
   refine J.skipU 8 31 36 true rfl rfl rfl rfl rfl ?_
   refine J.skipU 8 31 37 true rfl rfl rfl rfl rfl ?_
   refine J.skip 1 24 38 false _ rfl rfl rfl hg14 rfl rfl ?_
   refine J.z (yl_pick1 rfl rfl hg14 rfl) ?_
   refine J.z (yl_assign rfl rfl) ?_
   refine J.nil (Ej.blkNormal (Ej.seq (Cj.region (J.z (yl_move rfl rfl) ?_))))
   refine J.z (yl_add rfl rfl rfl (w64 (by omega))) ?_
   refine J.z (yl_assign rfl rfl) ?_
   refine J.nil (Ej.round (i + 1, true) ⟨by dsimp only; omega, fun _ => hbk (by assumption)⟩ (by dsimp only; omega) ⟨rfl, rfl, rfl, rfl, rfl, rfl, trivial⟩ rfl rfl)
  ·
   refine J.opG 1 24 false _ rfl rfl rfl hg14 (op_yld (yl_move rfl rfl) rfl rfl ?_)
   refine J.opG 1 24 false _ rfl rfl rfl hg14 (op_yld (yl_move rfl rfl) rfl rfl ?_)
   refine J.opG 1 24 false _ rfl rfl rfl hg14 (op_yld (yl_indexAddr (off' := i) rfl rfl rfl Tryz.underlying31 Tryz.sizeOf9 (by omega) (by omega) (by simp)) rfl rfl ?_)
   refine J.opG 1 24 false _ rfl rfl rfl hg14 (op_yld (yl_load rfl rfl Tryz.isAgg9 (Blk.imm hkbb) (str_get hkget)) rfl rfl ?_)
   refine J.opG 1 24 false _ rfl rfl rfl hg14 (op_yld (yl_lenStr rfl rfl Tryz.underlying9) rfl rfl ?_)
   refine J.opG 1 24 false _ rfl rfl rfl hg14 (op_yld (yl_gtr rfl rfl rfl) rfl rfl ?_)
   refine J.opG 1 24 false _ rfl rfl rfl hg14 (op_yld (yl_move rfl rfl) rfl rfl ?_)
   refine J.split 31 rfl (fun hg15 => ?_) (fun hg15 => ?_)
   ·
    have hg15p := of_decide_eq_true hg15
    refine J.opG 8 31 true _ rfl rfl rfl hg15 (op_yld (yl_move rfl rfl) rfl rfl ?_)
    refine J.opG 8 31 true _ rfl rfl rfl hg15 (op_yld (yl_move rfl rfl) rfl rfl ?_)
    refine J.opG 8 31 true _ rfl rfl rfl hg15 (op_yld (yl_indexAddr (off' := i) rfl rfl rfl Tryz.underlying31 Tryz.sizeOf9 (by omega) (by omega) (by simp)) rfl rfl ?_)
    refine J.opG 8 31 true _ rfl rfl rfl hg15 (op_yld (yl_load rfl rfl Tryz.isAgg9 (Blk.imm hkbb) (str_get hkget)) rfl rfl ?_)
    refine J.opG 8 31 true _ rfl rfl rfl hg15 (op_yld (yl_sliceStr (p := 0) (q := 5) rfl rfl Tryz.underlying9 rfl ⟨_, rfl⟩ (by omega) (by omega)) rfl rfl ?_)
    refine J.opG 8 31 true _ rfl rfl rfl hg15 (op_yld (yl_eqlStr rfl rfl rfl) rfl rfl ?_)
    refine J.opG 1 24 false _ rfl rfl rfl hg14 (op_yld (yl_pick1 rfl rfl hg15 rfl) rfl rfl ?_)
    refine J.z (yl_pick0 rfl rfl hg14 rfl) ?_
    refine J.z (yl_assign rfl rfl) ?_
    refine J.nil (Ej.blkNormal (Ej.seq (Cj.region (J.z (yl_move rfl rfl) ?_))))
    refine J.z (yl_add rfl rfl rfl (w64 (by omega))) ?_
    refine J.z (yl_assign rfl rfl) ?_
    refine J.nil (Ej.round (i + 1, k.take 5 == [105, 115, 98, 110, 32]) ⟨by dsimp only; omega, fun h => Ke.book_key (List.mem_of_getElem? hkget) (eq_of_beq h)⟩ (by dsimp only; omega) ⟨rfl, rfl, rfl, rfl, rfl, rfl, trivial⟩ rfl rfl)
   ·
    have hg15p := of_decide_eq_false hg15
    refine J.skip 8 31 32 true _ rfl rfl rfl hg15 rfl rfl ?_
    refine J.skip 8 31 33 true _ rfl rfl rfl hg15 rfl rfl ?_
    refine J.skip 8 31 34 true _ rfl rfl rfl hg15 rfl rfl ?_
    refine J.skip 8 31 35 true _ rfl rfl rfl hg15 rfl rfl ?_
    refine J.skip 8 31 36 true _ rfl rfl rfl hg15 rfl rfl ?_
    refine J.skip 8 31 37 true _ rfl rfl rfl hg15 rfl rfl ?_
    refine J.opG 1 24 false _ rfl rfl rfl hg14 (op_yld (yl_pick0 rfl rfl hg15 rfl) rfl rfl ?_)
    refine J.z (yl_pick0 rfl rfl hg14 rfl) ?_
    refine J.z (yl_assign rfl rfl) ?_
    refine J.nil (Ej.blkNormal (Ej.seq (Cj.region (J.z (yl_move rfl rfl) ?_))))
    refine J.z (yl_add rfl rfl rfl (w64 (by omega))) ?_
    refine J.z (yl_assign rfl rfl) ?_
    refine J.nil (Ej.round (i + 1, false) ⟨by dsimp only; omega, fun h => by cases h⟩ (by dsimp only; omega) ⟨rfl, rfl, rfl, rfl, rfl, rfl, trivial⟩ rfl rfl)
 ·
  have hc13p := of_decide_eq_false hc13
  refine Cj.exit (Ej.seqExit (Ej.loopExit (Ej.blkExit (Ej.seq (Cj.seq ?_)))))
  have hfo := first_ok [49, 48, 48] hok
  have htl := textOf_len (Ke.first fs [49, 48, 48]) [97]
  obtain ⟨p1, n1, c1, hsv1⟩ := first_sv [49, 48, 48] hr
  refine Cj.region (J.z (yl_loadAgg rfl rfl Tryz.isAgg26 Tryz.sizeOf26 (Blk.at 0 rfl) rfl rfl) ?_)
  refine J.op rfl (op_call (H1 := []) rfl rfl rfl rfl rfl (rFirst_ok fs _ (Ke.mkind q) 109 [49, 48, 48] hok.1 _ hr) ?_ (fun _ _ _ _ h => by cases h.1) (fun _ _ h => by cases h.1))
  intro v16 I17 H18 hle19 hp20
  have hr := hr.mono hle19
  have hk := hk.mono hle19
  obtain ⟨h, rfl⟩ := hp20; cases h
  refine J.z (yl_move rfl rfl) ?_
  refine J.z (yl_extract rfl rfl rfl) ?_
  refine J.z (yl_extract rfl rfl rfl) ?_
  refine J.op rfl (op_alloc rfl rfl rfl Tryz.zeroValue35 rfl ?_)
  intro b21 hb21
  refine J.op rfl (op_store 0 rfl rfl rfl rfl rfl (fldC_one hsv1) Tryz.sizeOf35 rfl rfl (LSpl.c (LSpl.c (LSpl.c (LSpl.c LSpl.z)))) LSet.z ?_)
  refine J.z (yl_assign rfl rfl) ?_
  refine J.nil (Ej.seq (Cj.seq (Cj.region (J.z (yl_move rfl rfl) ?_))))
  refine J.z (yl_move rfl rfl) ?_
  refine J.split 46 rfl (fun hg22 => ?_) (fun hg22 => ?_)
  ·
   refine J.opG 1 46 true _ rfl rfl rfl hg22 (op_yld (yl_loadAgg rfl rfl Tryz.isAgg35 Tryz.sizeOf35 (Blk.at 0 rfl) rfl rfl) rfl rfl ?_)
   refine J.opG 1 46 true _ rfl rfl rfl hg22 (op_pure rfl rfl rfl rfl rfl (rText_ok (Ke.first fs [49, 48, 48]) [97] (by decide) hfo.1 hfo.2.1 _ (first_row [49, 48, 48] hr)) ?_)
   refine J.opG 1 46 true _ rfl rfl rfl hg22 (op_callN rfl rfl rfl rfl rfl (rWords_ok (Ke.textOf (Ke.first fs [49, 48, 48]) [97]) (by omega) _) ?_ (fun _ _ _ _ h => by obtain ⟨_, _, h, _⟩ := h; cases h) (fun _ _ h => by obtain ⟨_, _, h, _⟩ := h; cases h))
   intro v24 I25 H26 hle27 hn23 hp28
   have hr := hr.mono hle27
   have hk := hk.mono hle27
   obtain ⟨gaw, hgaw, h, rfl⟩ := hp28; cases h
   refine J.keepS (hgaw.base hn23) (fun Iaw hleaw aw => ?_)
   have hr := hr.mono hleaw
   have hk := hk.mono hleaw
   obtain ⟨pw, cw, hw, -⟩ := StrS_sl2 aw
   refine J.eqv 49 rfl (show _ = .slice pw _ cw from hw) ?_
   refine J.opG 1 46 true _ rfl rfl rfl hg22 (op_yld (yl_lenSlice rfl rfl Tryz.underlying31) rfl rfl ?_)
   refine J.opG 1 46 true _ rfl rfl rfl hg22 (op_yld (yl_gtr rfl rfl rfl) rfl rfl ?_)
   refine J.z (yl_pick1 rfl rfl hg22 rfl) ?_
   refine J.z (yl_assign rfl rfl) ?_
   refine J.nil (Ej.seq (Cj.seq (Cj.region (J.z (yl_move rfl rfl) ?_))))
   refine J.z (yl_move rfl rfl) ?_
   refine J.split 54 rfl (fun hg29 => ?_) (fun hg29 => ?_)
   ·
    refine J.skip 1 54 55 false _ rfl rfl rfl hg29 rfl rfl ?_
    refine J.skip 1 54 56 false _ rfl rfl rfl hg29 rfl rfl ?_
    refine J.skipU 3 56 57 true rfl rfl rfl rfl rfl ?_
    refine J.skipU 3 56 58 true rfl rfl rfl rfl rfl ?_
    refine J.skipU 3 56 59 true rfl rfl rfl rfl rfl ?_
    refine J.skip 1 54 60 false _ rfl rfl rfl hg29 rfl rfl ?_
    refine J.z (yl_pick1 rfl rfl hg29 rfl) ?_
    refine J.z (yl_assign rfl rfl) ?_
    refine J.nil (Ej.seq (Cj.seq (Cj.region (J.z (yl_move rfl rfl) ?_))))
    refine J.z (yl_move rfl rfl) ?_
    refine J.opG 1 63 true _ rfl rfl rfl rfl (op_yld (yl_move rfl rfl) rfl rfl ?_)
    refine J.opG 1 63 true _ rfl rfl rfl rfl (op_yld (yl_not rfl rfl) rfl rfl ?_)
    refine J.opG 1 63 true _ rfl rfl rfl rfl (op_yld (yl_move rfl rfl) rfl rfl ?_)
    refine J.opG 4 66 false _ rfl rfl rfl (congrArg not rfl) (op_yld (yl_loadAgg rfl rfl Tryz.isAgg26 Tryz.sizeOf26 (Blk.at 1 rfl) rfl rfl) rfl rfl ?_)
    refine J.opG 4 66 false _ rfl rfl rfl (congrArg not rfl) (op_yld (yl_loadAgg rfl rfl Tryz.isAgg26 Tryz.sizeOf26 (Blk.at 1 rfl) rfl rfl) rfl rfl ?_)
    refine J.opG 4 66 false _ rfl rfl rfl (congrArg not rfl) (op_pure rfl rfl rfl rfl rfl (Same_ok fs fs _ _ (Ke.mkind q) 109 (Ke.mkind q) 109 hok hok hdl hdl _ hr hr) ?_)
    refine J.eqv 69 rfl (show _ = .bool true from (congrArg Value.bool (decide_eq_true (Ke.pts_book _ (hbk (by assumption)))))) ?_
    refine J.opG 1 63 true _ rfl rfl rfl rfl (op_yld (yl_pick0 rfl rfl (congrArg not rfl) rfl) rfl rfl ?_)
    refine J.z (yl_pick1 rfl rfl rfl rfl) ?_
    refine J.z (yl_move rfl rfl) ?_
    refine J.opG 10 72 true _ rfl rfl rfl rfl (op_yld (yl_loadAgg rfl rfl Tryz.isAgg26 Tryz.sizeOf26 (Blk.at 1 rfl) rfl rfl) rfl rfl ?_)
    refine J.opG 10 72 true _ rfl rfl rfl rfl (op_yld (yl_loadAgg rfl rfl Tryz.isAgg26 Tryz.sizeOf26 (Blk.at 1 rfl) rfl rfl) rfl rfl ?_)
    refine J.opG 10 72 true _ rfl rfl rfl rfl (op_pure rfl rfl rfl rfl rfl (Points_ok fs fs _ _ (Ke.mkind q) 109 (Ke.mkind q) 109 hok hok hdl hdl _ hr hr) ?_)
    refine J.opG 10 72 true _ rfl rfl rfl rfl (op_yld (yl_geq rfl rfl rfl) rfl rfl ?_)
    refine J.eqv 76 rfl (show _ = .bool true from (congrArg Value.bool (decide_eq_true (Ke.pts_self _)))) ?_
    refine J.z (yl_pick1 rfl rfl rfl rfl) ?_
    refine J.z (yl_assign rfl rfl) ?_
    refine J.nil (Ej.seq (Cj.ret (Ej.bare ?_)))
    refine Ej.ret1 rfl rfl rfl ?_
    exact ⟨rfl, rfl⟩
   ·
    refine J.opG 1 54 false _ rfl rfl rfl hg29 (op_yld (yl_move rfl rfl) rfl rfl ?_)
    refine J.opG 1 54 false _ rfl rfl rfl hg29 (op_yld (yl_move rfl rfl) rfl rfl ?_)
    refine J.split 56 rfl (fun hg30 => ?_) (fun hg30 => ?_)
    ·
     have hg30p := of_decide_eq_true hg30
     have haut : Ke.author fs ≠ [] := fun e => by have h := hg30p; rw [show Ke.words (Ke.textOf (Ke.first fs [49, 48, 48]) [97]) = [] from e] at h; simp at h
     refine J.opG 3 56 true _ rfl rfl rfl hg30 (op_yld (yl_loadAgg rfl rfl Tryz.isAgg26 Tryz.sizeOf26 (Blk.at 1 rfl) rfl rfl) rfl rfl ?_)
     refine J.opG 3 56 true _ rfl rfl rfl hg30 (op_pure rfl rfl rfl rfl rfl (Title_ok fs _ (Ke.mkind q) 109 hok _ hr) ?_)
     refine J.opG 3 56 true _ rfl rfl rfl hg30 (op_yld (yl_neqStr rfl rfl rfl) rfl rfl ?_)
     refine J.opG 1 54 false _ rfl rfl rfl hg29 (op_yld (yl_pick1 rfl rfl hg30 rfl) rfl rfl ?_)
     refine J.z (yl_pick0 rfl rfl hg29 rfl) ?_
     refine J.z (yl_assign rfl rfl) ?_
     refine J.nil (Ej.seq (Cj.seq (Cj.region (J.z (yl_move rfl rfl) ?_))))
     refine J.z (yl_move rfl rfl) ?_
     refine J.opG 1 63 true _ rfl rfl rfl rfl (op_yld (yl_move rfl rfl) rfl rfl ?_)
     refine J.opG 1 63 true _ rfl rfl rfl rfl (op_yld (yl_not rfl rfl) rfl rfl ?_)
     refine J.opG 1 63 true _ rfl rfl rfl rfl (op_yld (yl_move rfl rfl) rfl rfl ?_)
     refine J.split 66 rfl (fun hg31 => ?_) (fun hg31 => ?_)
     ·
      refine J.skip 4 66 67 false _ rfl rfl rfl hg31 rfl rfl ?_
      refine J.skip 4 66 68 false _ rfl rfl rfl hg31 rfl rfl ?_
      refine J.skip 4 66 69 false _ rfl rfl rfl hg31 rfl rfl ?_
      refine J.opG 1 63 true _ rfl rfl rfl rfl (op_yld (yl_pick1 rfl rfl hg31 rfl) rfl rfl ?_)
      refine J.z (yl_pick1 rfl rfl rfl rfl) ?_
      refine J.z (yl_move rfl rfl) ?_
      refine J.opG 10 72 true _ rfl rfl rfl rfl (op_yld (yl_loadAgg rfl rfl Tryz.isAgg26 Tryz.sizeOf26 (Blk.at 1 rfl) rfl rfl) rfl rfl ?_)
      refine J.opG 10 72 true _ rfl rfl rfl rfl (op_yld (yl_loadAgg rfl rfl Tryz.isAgg26 Tryz.sizeOf26 (Blk.at 1 rfl) rfl rfl) rfl rfl ?_)
      refine J.opG 10 72 true _ rfl rfl rfl rfl (op_pure rfl rfl rfl rfl rfl (Points_ok fs fs _ _ (Ke.mkind q) 109 (Ke.mkind q) 109 hok hok hdl hdl _ hr hr) ?_)
      refine J.opG 10 72 true _ rfl rfl rfl rfl (op_yld (yl_geq rfl rfl rfl) rfl rfl ?_)
      refine J.eqv 76 rfl (show _ = .bool true from (congrArg Value.bool (decide_eq_true (Ke.pts_self _)))) ?_
      refine J.z (yl_pick1 rfl rfl rfl rfl) ?_
      refine J.z (yl_assign rfl rfl) ?_
      refine J.nil (Ej.seq (Cj.ret (Ej.bare ?_)))
      refine Ej.ret1 rfl rfl rfl ?_
      exact ⟨rfl, rfl⟩
     ·
      have htit : Ke.title fs ≠ [] := by have h := hg31; simpa using h
      refine J.opG 4 66 false _ rfl rfl rfl hg31 (op_yld (yl_loadAgg rfl rfl Tryz.isAgg26 Tryz.sizeOf26 (Blk.at 1 rfl) rfl rfl) rfl rfl ?_)
      refine J.opG 4 66 false _ rfl rfl rfl hg31 (op_yld (yl_loadAgg rfl rfl Tryz.isAgg26 Tryz.sizeOf26 (Blk.at 1 rfl) rfl rfl) rfl rfl ?_)
      refine J.opG 4 66 false _ rfl rfl rfl hg31 (op_pure rfl rfl rfl rfl rfl (Same_ok fs fs _ _ (Ke.mkind q) 109 (Ke.mkind q) 109 hok hok hdl hdl _ hr hr) ?_)
      refine J.eqv 69 rfl (show _ = .bool true from (congrArg Value.bool (decide_eq_true (Ke.pts_name _ htit haut)))) ?_
      refine J.opG 1 63 true _ rfl rfl rfl rfl (op_yld (yl_pick0 rfl rfl hg31 rfl) rfl rfl ?_)
      refine J.z (yl_pick1 rfl rfl rfl rfl) ?_
      refine J.z (yl_move rfl rfl) ?_
      refine J.opG 10 72 true _ rfl rfl rfl rfl (op_yld (yl_loadAgg rfl rfl Tryz.isAgg26 Tryz.sizeOf26 (Blk.at 1 rfl) rfl rfl) rfl rfl ?_)
      refine J.opG 10 72 true _ rfl rfl rfl rfl (op_yld (yl_loadAgg rfl rfl Tryz.isAgg26 Tryz.sizeOf26 (Blk.at 1 rfl) rfl rfl) rfl rfl ?_)
      refine J.opG 10 72 true _ rfl rfl rfl rfl (op_pure rfl rfl rfl rfl rfl (Points_ok fs fs _ _ (Ke.mkind q) 109 (Ke.mkind q) 109 hok hok hdl hdl _ hr hr) ?_)
      refine J.opG 10 72 true _ rfl rfl rfl rfl (op_yld (yl_geq rfl rfl rfl) rfl rfl ?_)
      refine J.eqv 76 rfl (show _ = .bool true from (congrArg Value.bool (decide_eq_true (Ke.pts_self _)))) ?_
      refine J.z (yl_pick1 rfl rfl rfl rfl) ?_
      refine J.z (yl_assign rfl rfl) ?_
      refine J.nil (Ej.seq (Cj.ret (Ej.bare ?_)))
      refine Ej.ret1 rfl rfl rfl ?_
      exact ⟨rfl, rfl⟩
    ·
     have hg30p := of_decide_eq_false hg30
     refine J.skip 3 56 57 true _ rfl rfl rfl hg30 rfl rfl ?_
     refine J.skip 3 56 58 true _ rfl rfl rfl hg30 rfl rfl ?_
     refine J.skip 3 56 59 true _ rfl rfl rfl hg30 rfl rfl ?_
     refine J.opG 1 54 false _ rfl rfl rfl hg29 (op_yld (yl_pick0 rfl rfl hg30 rfl) rfl rfl ?_)
     refine J.z (yl_pick0 rfl rfl hg29 rfl) ?_
     refine J.z (yl_assign rfl rfl) ?_
     refine J.nil (Ej.seq (Cj.seq (Cj.region (J.z (yl_move rfl rfl) ?_))))
     refine J.z (yl_move rfl rfl) ?_
     refine J.opG 1 63 true _ rfl rfl rfl rfl (op_yld (yl_move rfl rfl) rfl rfl ?_)
     refine J.opG 1 63 true _ rfl rfl rfl rfl (op_yld (yl_not rfl rfl) rfl rfl ?_)
     refine J.opG 1 63 true _ rfl rfl rfl rfl (op_yld (yl_move rfl rfl) rfl rfl ?_)
     refine J.skip 4 66 67 false _ rfl rfl rfl (congrArg not rfl) rfl rfl ?_
     refine J.skip 4 66 68 false _ rfl rfl rfl (congrArg not rfl) rfl rfl ?_
     refine J.skip 4 66 69 false _ rfl rfl rfl (congrArg not rfl) rfl rfl ?_
     refine J.opG 1 63 true _ rfl rfl rfl rfl (op_yld (yl_pick1 rfl rfl (congrArg not rfl) rfl) rfl rfl ?_)
     refine J.z (yl_pick1 rfl rfl rfl rfl) ?_
     refine J.z (yl_move rfl rfl) ?_
     refine J.opG 10 72 true _ rfl rfl rfl rfl (op_yld (yl_loadAgg rfl rfl Tryz.isAgg26 Tryz.sizeOf26 (Blk.at 1 rfl) rfl rfl) rfl rfl ?_)
     refine J.opG 10 72 true _ rfl rfl rfl rfl (op_yld (yl_loadAgg rfl rfl Tryz.isAgg26 Tryz.sizeOf26 (Blk.at 1 rfl) rfl rfl) rfl rfl ?_)
     refine J.opG 10 72 true _ rfl rfl rfl rfl (op_pure rfl rfl rfl rfl rfl (Points_ok fs fs _ _ (Ke.mkind q) 109 (Ke.mkind q) 109 hok hok hdl hdl _ hr hr) ?_)
     refine J.opG 10 72 true _ rfl rfl rfl rfl (op_yld (yl_geq rfl rfl rfl) rfl rfl ?_)
     refine J.eqv 76 rfl (show _ = .bool true from (congrArg Value.bool (decide_eq_true (Ke.pts_self _)))) ?_
     refine J.z (yl_pick1 rfl rfl rfl rfl) ?_
     refine J.z (yl_assign rfl rfl) ?_
     refine J.nil (Ej.seq (Cj.ret (Ej.bare ?_)))
     refine Ej.ret1 rfl rfl rfl ?_
     exact ⟨rfl, rfl⟩
  ·
   refine J.skip 1 46 47 true _ rfl rfl rfl hg22 rfl rfl ?_
   refine J.skip 1 46 48 true _ rfl rfl rfl hg22 rfl rfl ?_
   refine J.skip 1 46 49 true _ rfl rfl rfl hg22 rfl rfl ?_
   refine J.skip 1 46 50 true _ rfl rfl rfl hg22 rfl rfl ?_
   refine J.skip 1 46 51 true _ rfl rfl rfl hg22 rfl rfl ?_
   refine J.z (yl_pick0 rfl rfl hg22 rfl) ?_
   refine J.z (yl_assign rfl rfl) ?_
   refine J.nil (Ej.seq (Cj.seq (Cj.region (J.z (yl_move rfl rfl) ?_))))
   refine J.z (yl_move rfl rfl) ?_
   refine J.split 54 rfl (fun hg32 => ?_) (fun hg32 => ?_)
   ·
    refine J.skip 1 54 55 false _ rfl rfl rfl hg32 rfl rfl ?_
    refine J.skip 1 54 56 false _ rfl rfl rfl hg32 rfl rfl ?_
    refine J.skipU 3 56 57 true rfl rfl rfl rfl rfl ?_
    refine J.skipU 3 56 58 true rfl rfl rfl rfl rfl ?_
    refine J.skipU 3 56 59 true rfl rfl rfl rfl rfl ?_
    refine J.skip 1 54 60 false _ rfl rfl rfl hg32 rfl rfl ?_
    refine J.z (yl_pick1 rfl rfl hg32 rfl) ?_
    refine J.z (yl_assign rfl rfl) ?_
    refine J.nil (Ej.seq (Cj.seq (Cj.region (J.z (yl_move rfl rfl) ?_))))
    refine J.z (yl_move rfl rfl) ?_
    refine J.opG 1 63 true _ rfl rfl rfl rfl (op_yld (yl_move rfl rfl) rfl rfl ?_)
    refine J.opG 1 63 true _ rfl rfl rfl rfl (op_yld (yl_not rfl rfl) rfl rfl ?_)
    refine J.opG 1 63 true _ rfl rfl rfl rfl (op_yld (yl_move rfl rfl) rfl rfl ?_)
    refine J.opG 4 66 false _ rfl rfl rfl (congrArg not rfl) (op_yld (yl_loadAgg rfl rfl Tryz.isAgg26 Tryz.sizeOf26 (Blk.at 1 rfl) rfl rfl) rfl rfl ?_)
    refine J.opG 4 66 false _ rfl rfl rfl (congrArg not rfl) (op_yld (yl_loadAgg rfl rfl Tryz.isAgg26 Tryz.sizeOf26 (Blk.at 1 rfl) rfl rfl) rfl rfl ?_)
    refine J.opG 4 66 false _ rfl rfl rfl (congrArg not rfl) (op_pure rfl rfl rfl rfl rfl (Same_ok fs fs _ _ (Ke.mkind q) 109 (Ke.mkind q) 109 hok hok hdl hdl _ hr hr) ?_)
    refine J.eqv 69 rfl (show _ = .bool true from (congrArg Value.bool (decide_eq_true (Ke.pts_book _ (hbk (by assumption)))))) ?_
    refine J.opG 1 63 true _ rfl rfl rfl rfl (op_yld (yl_pick0 rfl rfl (congrArg not rfl) rfl) rfl rfl ?_)
    refine J.z (yl_pick1 rfl rfl rfl rfl) ?_
    refine J.z (yl_move rfl rfl) ?_
    refine J.opG 10 72 true _ rfl rfl rfl rfl (op_yld (yl_loadAgg rfl rfl Tryz.isAgg26 Tryz.sizeOf26 (Blk.at 1 rfl) rfl rfl) rfl rfl ?_)
    refine J.opG 10 72 true _ rfl rfl rfl rfl (op_yld (yl_loadAgg rfl rfl Tryz.isAgg26 Tryz.sizeOf26 (Blk.at 1 rfl) rfl rfl) rfl rfl ?_)
    refine J.opG 10 72 true _ rfl rfl rfl rfl (op_pure rfl rfl rfl rfl rfl (Points_ok fs fs _ _ (Ke.mkind q) 109 (Ke.mkind q) 109 hok hok hdl hdl _ hr hr) ?_)
    refine J.opG 10 72 true _ rfl rfl rfl rfl (op_yld (yl_geq rfl rfl rfl) rfl rfl ?_)
    refine J.eqv 76 rfl (show _ = .bool true from (congrArg Value.bool (decide_eq_true (Ke.pts_self _)))) ?_
    refine J.z (yl_pick1 rfl rfl rfl rfl) ?_
    refine J.z (yl_assign rfl rfl) ?_
    refine J.nil (Ej.seq (Cj.ret (Ej.bare ?_)))
    refine Ej.ret1 rfl rfl rfl ?_
    exact ⟨rfl, rfl⟩
   ·
    refine J.opG 1 54 false _ rfl rfl rfl hg32 (op_yld (yl_move rfl rfl) rfl rfl ?_)
    refine J.opG 1 54 false _ rfl rfl rfl hg32 (op_yld (yl_move rfl rfl) rfl rfl ?_)
    refine J.skip 3 56 57 true _ rfl rfl rfl rfl rfl rfl ?_
    refine J.skip 3 56 58 true _ rfl rfl rfl rfl rfl rfl ?_
    refine J.skip 3 56 59 true _ rfl rfl rfl rfl rfl rfl ?_
    refine J.opG 1 54 false _ rfl rfl rfl hg32 (op_yld (yl_pick0 rfl rfl rfl rfl) rfl rfl ?_)
    refine J.z (yl_pick0 rfl rfl hg32 rfl) ?_
    refine J.z (yl_assign rfl rfl) ?_
    refine J.nil (Ej.seq (Cj.seq (Cj.region (J.z (yl_move rfl rfl) ?_))))
    refine J.z (yl_move rfl rfl) ?_
    refine J.opG 1 63 true _ rfl rfl rfl rfl (op_yld (yl_move rfl rfl) rfl rfl ?_)
    refine J.opG 1 63 true _ rfl rfl rfl rfl (op_yld (yl_not rfl rfl) rfl rfl ?_)
    refine J.opG 1 63 true _ rfl rfl rfl rfl (op_yld (yl_move rfl rfl) rfl rfl ?_)
    refine J.skip 4 66 67 false _ rfl rfl rfl (congrArg not rfl) rfl rfl ?_
    refine J.skip 4 66 68 false _ rfl rfl rfl (congrArg not rfl) rfl rfl ?_
    refine J.skip 4 66 69 false _ rfl rfl rfl (congrArg not rfl) rfl rfl ?_
    refine J.opG 1 63 true _ rfl rfl rfl rfl (op_yld (yl_pick1 rfl rfl (congrArg not rfl) rfl) rfl rfl ?_)
    refine J.z (yl_pick1 rfl rfl rfl rfl) ?_
    refine J.z (yl_move rfl rfl) ?_
    refine J.opG 10 72 true _ rfl rfl rfl rfl (op_yld (yl_loadAgg rfl rfl Tryz.isAgg26 Tryz.sizeOf26 (Blk.at 1 rfl) rfl rfl) rfl rfl ?_)
    refine J.opG 10 72 true _ rfl rfl rfl rfl (op_yld (yl_loadAgg rfl rfl Tryz.isAgg26 Tryz.sizeOf26 (Blk.at 1 rfl) rfl rfl) rfl rfl ?_)
    refine J.opG 10 72 true _ rfl rfl rfl rfl (op_pure rfl rfl rfl rfl rfl (Points_ok fs fs _ _ (Ke.mkind q) 109 (Ke.mkind q) 109 hok hok hdl hdl _ hr hr) ?_)
    refine J.opG 10 72 true _ rfl rfl rfl rfl (op_yld (yl_geq rfl rfl rfl) rfl rfl ?_)
    refine J.eqv 76 rfl (show _ = .bool true from (congrArg Value.bool (decide_eq_true (Ke.pts_self _)))) ?_
    refine J.z (yl_pick1 rfl rfl rfl rfl) ?_
    refine J.z (yl_assign rfl rfl) ?_
    refine J.nil (Ej.seq (Cj.ret (Ej.bare ?_)))
    refine Ej.ret1 rfl rfl rfl ?_
    exact ⟨rfl, rfl⟩
end Go.Proofs.YtadnofaleepkmaaGreatDoor
