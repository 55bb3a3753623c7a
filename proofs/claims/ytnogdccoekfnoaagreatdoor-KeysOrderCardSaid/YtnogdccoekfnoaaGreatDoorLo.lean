/-
  The law KeysOrder, walked. Own text, printed by a program. Conditions: none.
-/
import Derived.Test.YtnogdccoekfnoaaGreatDoorLq
import Derived.Test.YtnogdccoekfnoaaGreatDoorKeOrd
namespace Go.Proofs.YtnogdccoekfnoaaGreatDoor
open Go Go.Sx
theorem rec_one {I : Heap} {fs : List Ke.Fld} {v : Value} (h : RecS I fs v) : ∀ f ∈ fs, (fldC f).all Value.oneCell' = true := fun f hf => by
  obtain ⟨p, c, e, _⟩ := h.2 f hf
  exact fldC_one e
theorem FOK.sub {fs gs : List Ke.Fld} (h : FOK fs) (hl : gs.length ≤ 2000000) (hs : ∀ f ∈ gs, f ∈ fs) : FOK gs := ⟨hl, fun f hf => h.2 f (hs f hf)⟩
theorem bks_len (fs : List Ke.Fld) : (Ke.bks fs).length ≤ fs.length := List.length_filter_le _ _
theorem rst_len (fs : List Ke.Fld) : (Ke.rst fs).length ≤ fs.length := List.length_filter_le _ _
theorem bks_in {fs : List Ke.Fld} {f : Ke.Fld} (h : f ∈ Ke.bks fs) : f ∈ fs := (List.mem_filter.1 h).1
theorem rst_in {fs : List Ke.Fld} {f : Ke.Fld} (h : f ∈ Ke.rst fs) : f ∈ fs := (List.mem_filter.1 h).1
/-- The other record's fields. -/
def oth (fs : List Ke.Fld) (v : Value) (d k : Nat) : List Ke.Fld := Ke.e856 v :: (Ke.rst fs ++ Ke.rot (Ke.bks fs) d k)
theorem oth_next (fs : List Ke.Fld) (v : Value) (d k : Nat) : oth fs v d (k + 1) = oth fs v d k ++ [(Ke.bks fs).getD ((k + d) % (Ke.bks fs).length) Ke.zf] := by
  unfold oth; rw [Ke.rot_next]; simp
theorem oth_len (fs : List Ke.Fld) (v : Value) (d k : Nat) : (oth fs v d k).length = 1 + (Ke.rst fs).length + k := by
  unfold oth; rw [List.length_cons, List.length_append, Ke.rot_len]; omega
theorem oth_in {fs : List Ke.Fld} {v : Value} {d : Nat} {f : Ke.Fld} (h : f ∈ oth fs v d (Ke.bks fs).length) : f = Ke.e856 v ∨ f ∈ fs := by
  rcases List.mem_cons.1 h with h | h
  · exact .inl h
  · rcases List.mem_append.1 h with h | h
    · exact .inr (rst_in h)
    · exact .inr (bks_in ((Ke.rot_mem _ _ _).1 h))
set_option maxRecDepth 20000 in
set_option maxHeartbeats 1000000 in
theorem KeysOrder_ok (ps : List Pc) (v : Value) (by' : UInt8) (I : Heap) (hP : PcS I ps v) : Pure Tryz.prog 12 [v, u8 by'] I (.bool true) := by
 refine Ctr.toPure ?_
 refine Ctr.of_body Tryz.func12 rfl (by decide) (Nat.le_of_ble_eq_true rfl) ?_
 intro w0 hw0
 refine Cj.seq (Cj.region (J.z (yl_assign rfl rfl) ?_))
 refine J.nil (Ej.seq (Cj.seq (Cj.region (J.op rfl (op_pure rfl rfl rfl rfl rfl (sanity_ok _) ?_)))))
 refine J.z (yl_assign rfl rfl) ?_
 refine J.nil (Ej.seq (Cj.seq (Cj.region (J.z (yl_move rfl rfl) ?_))))
 refine J.op rfl (op_call (H1 := []) rfl rfl rfl rfl rfl (record_ok ps v _ hP) ?_ (fun _ _ _ _ h => by obtain ⟨_, _, h, _⟩ := h; cases h) (fun _ _ h => by obtain ⟨_, _, h, _⟩ := h; cases h))
 intro v1 I2 H3 hle4 hp5
 have hP := hP.mono hle4
 obtain ⟨fs, w, h, hrs, hsm, rfl⟩ := hp5; cases h
 obtain ⟨pw, cw, rfl, hcw, hpw⟩ := id hrs.1
 have hok := hsm.ok
 have hn12 := hsm.1
 have hbl := bks_len fs
 have hrl := rst_len fs
 refine J.op rfl (op_alloc rfl rfl rfl Tryz.zeroValue51 rfl ?_)
 intro b6 hb6
 refine J.op rfl (op_store 0 rfl rfl rfl rfl rfl rfl Tryz.sizeOf51 rfl rfl (LSpl.c (LSpl.c (LSpl.c LSpl.z))) LSet.z ?_)
 refine J.nil (Ej.seq (Cj.seq (Cj.region (J.z (yl_assign rfl rfl) ?_))))
 refine J.nil (Ej.seq (Cj.seq (Cj.region (J.z (yl_assign rfl rfl) ?_))))
 refine J.nil (Ej.seq (Cj.seq (Cj.seq (Cj.region (J.z (yl_assign rfl rfl) ?_)))))
 refine J.nil (Ej.seq (Cj.block (Cj.loop (ι := Nat × Gs × Gs) (fun y => y.1 ≤ fs.length ∧ gOk w0.heap.size 4 (Ke.bks (fs.take y.1)).length ((Ke.bks (fs.take y.1)).flatMap fldC) y.2.1 ∧ gOk w0.heap.size 4 (Ke.rst (fs.take y.1)).length ((Ke.rst (fs.take y.1)).flatMap fldC) y.2.2) (fun y => fs.length - y.1) (fun y => [(1, u8 by'), (5, .bool true), (6, ptr b6 0), (7, gV (Ke.bks (fs.take y.1)).length y.2.1), (8, gV (Ke.rst (fs.take y.1)).length y.2.2), (9, i64 (y.1 : Int))]) (fun y => _) (fun y => (b6, cel 51 [u8 97, u8 109, .slice pw fs.length cw]) :: (gH 58 ((Ke.bks (fs.take y.1)).flatMap fldC) y.2.1 ++ gH 58 ((Ke.rst (fs.take y.1)).flatMap fldC) y.2.2)) (0, none, none) ⟨Nat.zero_le _, ⟨rfl, rfl⟩, ⟨rfl, rfl⟩⟩ ⟨rfl, rfl, rfl, rfl, rfl, rfl, trivial⟩ rfl rfl ?_)))
 rintro ⟨k, x, y⟩ ⟨hk, hx, hy⟩
 dsimp only at hk hx hy ⊢
 have hb1 := bks_len (fs.take k)
 have hr1 := rst_len (fs.take k)
 rw [List.length_take] at hb1 hr1
 refine Cj.seq (Cj.seq (Cj.region (J.z (yl_move rfl rfl) ?_)))
 refine J.z (yl_fieldAddr (off' := 2) rfl rfl Tryz.underlying51 rfl Tryz.sizeOf49 rfl) ?_
 refine J.z (yl_load rfl rfl Tryz.isAgg49 (Blk.at 0 rfl) rfl) ?_
 refine J.z (yl_lenSlice rfl rfl Tryz.underlying49) ?_
 refine J.z (yl_lss rfl rfl rfl) ?_
 refine J.nil (Ej.seq (Cj.cond rfl (fun hc7 => ?_) (fun hc7 => ?_)))
 ·
  have hc7p := of_decide_eq_true hc7
  refine Cj.skip (Ej.seq (Cj.seq (Cj.block (Cj.seq ?_))))
  have hlt : k < fs.length := by omega
  obtain ⟨f, hget⟩ : ∃ f, fs[k]? = some f := ⟨_, List.getElem?_eq_getElem hlt⟩
  have hfm := List.mem_of_getElem? hget
  have hbn := Ke.bks_next hget
  have hrn := Ke.rst_next hget
  obtain ⟨fb, fo, fcs, fty, ffr, sp, rfl, hfb, hfd⟩ := hpw (ne_nil_of hlt)
  obtain ⟨p2, c2, hsv, hc2, hp2⟩ := hrs.2 f hfm
  refine Cj.region (J.z (yl_fieldAddr (off' := 2) rfl rfl Tryz.underlying51 rfl Tryz.sizeOf49 rfl) ?_)
  refine J.z (yl_load rfl rfl Tryz.isAgg49 (Blk.at 0 rfl) rfl) ?_
  refine J.z (yl_move rfl rfl) ?_
  refine J.z (yl_indexAddr (off' := fo + k * 4) rfl rfl rfl Tryz.underlying49 Tryz.sizeOf58 (by omega) (by omega) (by simp)) ?_
  refine J.z (yl_fieldAddr rfl rfl Tryz.underlying58 rfl Tryz.sizeOf9 rfl) ?_
  refine J.z (yl_load rfl rfl Tryz.isAgg9 (Blk.imm hfb) (row_fcell fldC_len hfd hget 0 (by decide))) ?_
  refine J.z (yl_eqlStr rfl rfl rfl) ?_
  refine J.nil (Ej.seq (Cj.cond rfl (fun hc8 => ?_) (fun hc8 => ?_)))
  ·
   have hc8p := eq_of_beq hc8
   have htg : f.tag = [48, 50, 48] := eq_of_beq hc8
   rw [if_pos htg] at hbn hrn
   refine Cj.region (J.z (yl_move rfl rfl) ?_)
   refine J.z (yl_fieldAddr (off' := 2) rfl rfl Tryz.underlying51 rfl Tryz.sizeOf49 rfl) ?_
   refine J.z (yl_load rfl rfl Tryz.isAgg49 (Blk.at 0 rfl) rfl) ?_
   refine J.z (yl_move rfl rfl) ?_
   refine J.z (yl_indexAddr (off' := fo + k * 4) rfl rfl rfl Tryz.underlying49 Tryz.sizeOf58 (by omega) (by omega) (by simp)) ?_
   refine J.z (yl_loadAgg rfl rfl Tryz.isAgg58 Tryz.sizeOf58 (Blk.imm hfb) (row_from fldC_len hfd hget) rfl) ?_
   refine J.op rfl (op_buildSlice rfl rfl rfl Tryz.underlying49 Tryz.sizeOf58 Tryz.zeroValue58 rfl rfl rfl rfl (LCat.agg rfl LCat.none) ?_)
   intro b9 hb9
   refine J.perm (H' := [_, _] ++ (gH _ _ _ ++ gH _ _ _)) (perm_swap [_, _] _ _) ?_
   refine J.op rfl (op_append (by' := 71) ([_, _] ++ gH _ _ _) rfl rfl rfl rfl rfl Tryz.underlying49 (.inr ⟨_, Tryz.underlying49⟩) (by kernel_rfl) Tryz.sizeOf58 Tryz.zeroValue58 rfl hx rfl (Src.slice (Blk.at 0 rfl) rfl rfl (by show (fldC f).all Value.oneCell' = true; exact fldC_one hsv)) (by omega) ?_)
   intro g10 hg10
   refine J.z (yl_assign rfl rfl) ?_
   refine J.nil (Ej.blkNormal (Ej.seq (Cj.region (J.z (yl_move rfl rfl) ?_))))
   refine J.z (yl_add rfl rfl rfl (w64 (by omega))) ?_
   refine J.z (yl_assign rfl rfl) ?_
   refine J.nil (Ej.perm (H' := [_, _] ++ (gH _ _ _ ++ gH _ _ _)) (perm_swap [_, _] _ _) ?_)
   refine Ej.keep (Keeps.d (Keeps.k Keeps.r)) ?_
   refine Ej.round (k + 1, g10, y) ⟨by dsimp only; omega, by dsimp only; rw [hbn, flat_one, List.length_append]; exact hg10, by dsimp only; rw [hrn, List.append_nil]; exact hy⟩ (by dsimp only; omega) ⟨rfl, rfl, rfl, by dsimp only; rw [hbn, List.length_append]; rfl, by dsimp only; rw [hrn, List.append_nil]; rfl, rfl, trivial⟩ rfl (by dsimp only; rw [hbn, hrn, flat_one, List.append_nil]; rfl)
  ·
   have hc8p := ne_of_beq_false hc8
   have htg : f.tag ≠ [48, 50, 48] := ne_of_beq_false hc8
   rw [if_neg htg] at hbn hrn
   refine Cj.region (J.z (yl_move rfl rfl) ?_)
   refine J.z (yl_fieldAddr (off' := 2) rfl rfl Tryz.underlying51 rfl Tryz.sizeOf49 rfl) ?_
   refine J.z (yl_load rfl rfl Tryz.isAgg49 (Blk.at 0 rfl) rfl) ?_
   refine J.z (yl_move rfl rfl) ?_
   refine J.z (yl_indexAddr (off' := fo + k * 4) rfl rfl rfl Tryz.underlying49 Tryz.sizeOf58 (by omega) (by omega) (by simp)) ?_
   refine J.z (yl_loadAgg rfl rfl Tryz.isAgg58 Tryz.sizeOf58 (Blk.imm hfb) (row_from fldC_len hfd hget) rfl) ?_
   refine J.op rfl (op_buildSlice rfl rfl rfl Tryz.underlying49 Tryz.sizeOf58 Tryz.zeroValue58 rfl rfl rfl rfl (LCat.agg rfl LCat.none) ?_)
   intro b11 hb11
   refine J.op rfl (op_append (by' := 71) ([_, _] ++ gH _ _ _) rfl rfl rfl rfl rfl Tryz.underlying49 (.inr ⟨_, Tryz.underlying49⟩) (by kernel_rfl) Tryz.sizeOf58 Tryz.zeroValue58 rfl hy rfl (Src.slice (Blk.at 0 rfl) rfl rfl (by show (fldC f).all Value.oneCell' = true; exact fldC_one hsv)) (by omega) ?_)
   intro g12 hg12
   refine J.z (yl_assign rfl rfl) ?_
   refine J.nil (Ej.blkNormal (Ej.seq (Cj.region (J.z (yl_move rfl rfl) ?_))))
   refine J.z (yl_add rfl rfl rfl (w64 (by omega))) ?_
   refine J.z (yl_assign rfl rfl) ?_
   refine J.nil (Ej.keep (Keeps.d (Keeps.k Keeps.r)) ?_)
   refine Ej.round (k + 1, x, g12) ⟨by dsimp only; omega, by dsimp only; rw [hbn, List.append_nil]; exact hx, by dsimp only; rw [hrn, flat_one, List.length_append]; exact hg12⟩ (by dsimp only; omega) ⟨rfl, rfl, rfl, by dsimp only; rw [hbn, List.append_nil]; rfl, by dsimp only; rw [hrn, List.length_append]; rfl, rfl, trivial⟩ rfl (by dsimp only; rw [hbn, hrn, flat_one, List.append_nil]; rfl)
 ·
  have hc7p := of_decide_eq_false hc7
  refine Cj.exit (Ej.seqExit (Ej.loopExit (Ej.blkExit (Ej.seq (Cj.seq ?_)))))
  have hfull : fs.take k = fs := List.take_of_length_le (by omega)
  rw [hfull] at hx hy ⊢
  refine Cj.perm (H' := gH _ _ _ ++ ([_] ++ gH _ _ _)) (perm_last [_] _ _) ?_
  refine Cj.keepR fldC_len (by decide) hy rfl (fun I8 hle8 hR8 => ?_)
  have hrs := hrs.mono hle8
  refine Cj.perm (H' := gH _ _ _ ++ [_]) List.perm_append_comm ?_
  refine Cj.keepR fldC_len (by decide) hx rfl (fun I9 hle9 hB7 => ?_)
  have hrs := hrs.mono hle9
  replace hR8 := hR8.mono hle9
  have hRS : RecS I9 (Ke.rst fs) (gV (Ke.rst fs).length y) := ⟨hR8, fun f hf => hrs.2 f (rst_in hf)⟩
  have hBS : RecS I9 (Ke.bks fs) (gV (Ke.bks fs).length x) := ⟨hB7, fun f hf => hrs.2 f (bks_in hf)⟩
  have hR1 := rec_one hRS
  have hB1 := rec_one hBS
  obtain ⟨p7, c7, hv7, hc7, hp7⟩ := id hB7
  refine Cj.eqv 7 rfl (show _ = .slice p7 _ c7 from hv7) ?_
  rw [hv7] at hBS
  refine Cj.region (J.z (yl_buildS (pl := #[(0, 1), (1, 1)]) rfl rfl Tryz.zeroValue60 rfl Tryz.underlying60 (fun w => by simp [Tryz.sizeOf5, Tryz.sizeOf9]) (LBld.part rfl rfl rfl (LSpl.c LSpl.z) (LBld.part rfl rfl rfl (LSpl.s (LSpl.c LSpl.z)) LBld.none))) ?_)
  refine J.op rfl (op_buildSlice rfl rfl rfl Tryz.underlying56 Tryz.sizeOf60 Tryz.zeroValue60 rfl rfl rfl rfl (LCat.agg rfl LCat.none) ?_)
  intro b13 hb13
  refine J.persist hb13 (fun I15 hle14 hb13i => ?_)
  have hrs := hrs.mono hle14
  have hRS := hRS.mono hle14
  have hBS := hBS.mono hle14
  refine J.z (yl_buildS (pl := #[(0, 1), (1, 1), (2, 1), (3, 1)]) rfl rfl Tryz.zeroValue58 rfl Tryz.underlying58 (fun w => by simp [Tryz.sizeOf56, Tryz.sizeOf9]) (LBld.part rfl rfl rfl (LSpl.c LSpl.z) (LBld.part rfl rfl rfl (LSpl.s (LSpl.s (LSpl.s (LSpl.c LSpl.z)))) LBld.none))) ?_
  refine J.op rfl (op_buildSlice rfl rfl rfl Tryz.underlying49 Tryz.sizeOf58 Tryz.zeroValue58 rfl rfl rfl rfl (LCat.agg rfl LCat.none) ?_)
  intro b16 hb16
  refine J.z (yl_move rfl rfl) ?_
  refine J.pull (Pull.s Pull.z) ?_
  have hol := oth_len fs (.slice (some ⟨b13, 0, none⟩) 1 1) by'.toNat 0
  refine J.op rfl (op_append (by' := 71) (n := 1) (g := some (b16, 1, [])) (xs := fldC (Ke.e856 (.slice (some ⟨b13, 0, none⟩) 1 1))) [_] rfl rfl rfl rfl rfl Tryz.underlying49 (.inr ⟨_, Tryz.underlying49⟩) (by kernel_rfl) Tryz.sizeOf58 Tryz.zeroValue58 rfl ⟨hb16, rfl, rfl⟩ rfl (Src.row fldC_len hRS.1 hR1) (by omega) ?_)
  intro g17 hg17
  refine J.z (yl_buildS (pl := #[(0, 1), (1, 1), (2, 1)]) rfl rfl Tryz.zeroValue51 rfl Tryz.underlying51 (fun w => by simp [Tryz.sizeOf49, Tryz.sizeOf5]) (LBld.part rfl (gV_cells _ _) rfl (LSpl.s (LSpl.s (LSpl.c LSpl.z))) LBld.none)) ?_
  refine J.op rfl (op_alloc rfl rfl rfl Tryz.zeroValue51 rfl ?_)
  intro b18 hb18
  refine J.op rfl (op_store 0 rfl rfl rfl rfl rfl (by simp only [List.all_cons, List.all_nil, gV_one', Bool.and_true]; rfl) Tryz.sizeOf51 rfl rfl (LSpl.c (LSpl.c (LSpl.c LSpl.z))) LSet.z ?_)
  refine J.nil (Ej.seq (Cj.seq (Cj.seq (Cj.region (J.z (yl_assign rfl rfl) ?_)))))
  refine J.nil (Ej.seq (Cj.block (Cj.loop (ι := Nat × Gs) (fun y => y.1 ≤ (Ke.bks fs).length ∧ gOk w0.heap.size 4 (1 + (Ke.rst fs).length + y.1) ((oth fs (.slice (some ⟨b13, 0, none⟩) 1 1) by'.toNat y.1).flatMap fldC) y.2) (fun y => (Ke.bks fs).length - y.1) (fun y => [(1, u8 by'), (5, .bool true), (6, ptr b6 0), (7, .slice p7 (Ke.bks fs).length c7), (10, ptr b18 0), (11, i64 (y.1 : Int))]) (fun y => _) (fun y => (b18, cel 51 [u8 0, u8 0, gV (1 + (Ke.rst fs).length + y.1) y.2]) :: (b6, cel 51 [u8 97, u8 109, .slice pw fs.length cw]) :: gH 58 ((oth fs (.slice (some ⟨b13, 0, none⟩) 1 1) by'.toNat y.1).flatMap fldC) y.2) (0, g17) ⟨Nat.zero_le _, by unfold oth Ke.rot; rw [List.range_zero, List.map_nil, List.append_nil]; exact hg17⟩ ⟨rfl, rfl, rfl, rfl, rfl, rfl, trivial⟩ rfl (by dsimp only; unfold oth Ke.rot; rw [List.range_zero, List.map_nil, List.append_nil]; rfl) ?_)))
  rintro ⟨k, z⟩ ⟨hk, hz⟩
  dsimp only at hk hz ⊢
  refine Cj.seq (Cj.seq (Cj.region (J.z (yl_move rfl rfl) ?_)))
  refine J.z (yl_move rfl rfl) ?_
  refine J.z (yl_lenSlice rfl rfl Tryz.underlying49) ?_
  refine J.z (yl_lss rfl rfl rfl) ?_
  refine J.nil (Ej.seq (Cj.cond rfl (fun hc19 => ?_) (fun hc19 => ?_)))
  ·
   have hc19p := of_decide_eq_true hc19
   refine Cj.skip (Ej.seq (Cj.seq (Cj.block ?_)))
   have hlt : k < (Ke.bks fs).length := by omega
   have hml : (k + by'.toNat) % (Ke.bks fs).length < (Ke.bks fs).length := Nat.mod_lt _ (by omega)
   obtain ⟨f, hget⟩ : ∃ f, (Ke.bks fs)[(k + by'.toNat) % (Ke.bks fs).length]? = some f := ⟨_, List.getElem?_eq_getElem hml⟩
   have hbg : (Ke.bks fs).getD ((k + by'.toNat) % (Ke.bks fs).length) Ke.zf = f := by rw [List.getD, hget]; rfl
   have hf1 := hB1 f (List.mem_of_getElem? hget)
   obtain ⟨⟨p9, c9, e9, hc9, hp9⟩, -⟩ := id hBS
   cases e9
   obtain ⟨kb, ko, kcs, kty, kfr, ksp, rfl, hkb, hkd⟩ := hp9 (ne_nil_of hlt)
   have hbyl := by'.toNat_lt
   refine Cj.drawSel [1] [] 16 (by kernel_rfl) ?_
   refine JA.fix ⟨(HSub.c 1 rfl HSub.n), CSub.n, (Le.refl _)⟩ (fun fx20 => ?_)
   refine JA.tk 0 rfl fx20 (yl_fieldAddr (off' := 2) rfl rfl Tryz.underlying51 rfl Tryz.sizeOf49 rfl) ?_
   refine JA.tk 2 rfl fx20 (yl_move rfl rfl) ?_
   refine JA.tk 3 rfl fx20 (yl_move rfl rfl) ?_
   refine JA.tk 4 rfl fx20 (yl_move rfl rfl) ?_
   refine JA.tk 5 rfl fx20 (yl_convInt rfl rfl Tryz.underlying5 Tryz.underlying3) ?_
   refine JA.eqv 65 rfl (show _ = i64 (by'.toNat : Int) from (congrArg i64 (w64 (by have := by'.toNat_lt; omega)))) ?_
   refine JA.tk 6 rfl fx20 (yl_add rfl rfl rfl (w64 (by omega))) ?_
   refine JA.eqv 66 rfl (show _ = i64 ((k + by'.toNat : Nat) : Int) from (congrArg i64 (by omega))) ?_
   refine JA.tk 7 rfl fx20 (yl_move rfl rfl) ?_
   refine JA.tk 8 rfl fx20 (yl_lenSlice rfl rfl Tryz.underlying49) ?_
   refine JA.tk 9 rfl fx20 (yl_rem rfl rfl rfl (by omega)) ?_
   refine JA.eqv 69 rfl (show _ = i64 (((k + by'.toNat) % (Ke.bks fs).length : Nat) : Int) from rfl) ?_
   refine JA.tk 10 rfl fx20 (yl_indexAddr (off' := ko + (k + by'.toNat) % (Ke.bks fs).length * 4) rfl rfl rfl Tryz.underlying49 Tryz.sizeOf58 (by omega) (by omega) (by first | (simp; done) | (simp; omega) | omega)) ?_
   refine JA.tk 11 rfl fx20 (yl_loadAgg rfl rfl Tryz.isAgg58 Tryz.sizeOf58 (Blk.immC hkb) (row_from fldC_len hkd hget) rfl) ?_
   refine JA.all [1, 12] (by kernel_rfl) (by simp) ?_
   intro i hi
   simp only [List.mem_cons, List.not_mem_nil, or_false] at hi
   rcases hi with rfl | rfl
   ·
    refine ⟨_, rfl, rfl, ?_⟩
    refine op_yld (yl_load rfl rfl Tryz.isAgg49 (Blk.at 0 rfl) rfl) rfl rfl ?_
    refine ⟨⟨(Le.refl _), (HSub.c 1 rfl HSub.n), CSub.n⟩, ?_⟩
    refine JA.step 12 (by kernel_rfl) rfl rfl (op_buildSlice rfl rfl rfl Tryz.underlying49 Tryz.sizeOf58 Tryz.zeroValue58 rfl rfl rfl rfl (LCat.agg rfl LCat.none) ?_)
    intro b21 hb21
    refine ⟨⟨(Le.refl _), (HSub.c 2 rfl HSub.n), CSub.n⟩, ?_⟩
    refine JA.step 13 (by kernel_rfl) rfl rfl (op_append (by' := 71) [_, _, _] rfl rfl rfl rfl rfl Tryz.underlying49 (.inr ⟨_, Tryz.underlying49⟩) (by kernel_rfl) Tryz.sizeOf58 Tryz.zeroValue58 rfl hz rfl (Src.slice (Blk.at 0 rfl) rfl rfl (by show (fldC f).all Value.oneCell' = true; exact hf1)) (by omega) ?_)
    intro g22 hg22
    refine ⟨⟨(Le.refl _), (HSub.c 2 rfl HSub.n), CSub.n⟩, ?_⟩
    refine JA.fix ⟨(HSub.c 2 rfl HSub.n), CSub.n, (Le.refl _)⟩ (fun fx23 => ?_)
    refine JA.tk 14 rfl fx23 (yl_fieldAddr (off' := 2) rfl rfl Tryz.underlying51 rfl Tryz.sizeOf49 rfl) ?_
    refine JA.step 15 (by kernel_rfl) rfl rfl (op_store 1 rfl rfl rfl rfl (gV_cells _ _) (gV_one _ _) Tryz.sizeOf49 rfl rfl (LSpl.s (LSpl.s (LSpl.c LSpl.z))) (LSet.s LSet.z) ?_)
    refine ⟨⟨(Le.refl _), (HSub.c 2 rfl HSub.n), CSub.n⟩, ?_⟩
    refine JA.done (by kernel_rfl) ?_
    refine Ej.blkNormal (Ej.seq (Cj.region (J.z (yl_move rfl rfl) ?_)))
    refine J.z (yl_add rfl rfl rfl (w64 (by omega))) ?_
    refine J.z (yl_assign rfl rfl) ?_
    refine J.nil (Ej.keep (Keeps.d (Keeps.k (Keeps.k Keeps.r))) ?_)
    refine Ej.round (k + 1, g22) ⟨by dsimp only; omega, by dsimp only; rw [oth_next, flat_one, hbg]; exact hg22⟩ (by dsimp only; omega) ⟨rfl, rfl, rfl, rfl, rfl, rfl, trivial⟩ rfl (by dsimp only; rw [oth_next, flat_one, hbg]; rfl)
   ·
    refine ⟨_, rfl, rfl, ?_⟩
    refine op_buildSlice rfl rfl rfl Tryz.underlying49 Tryz.sizeOf58 Tryz.zeroValue58 rfl rfl rfl rfl (LCat.agg rfl LCat.none) ?_
    intro b24 hb24
    refine ⟨⟨(Le.refl _), (HSub.c 2 rfl HSub.n), CSub.n⟩, ?_⟩
    refine JA.step 1 (by kernel_rfl) rfl rfl (op_yld (yl_load rfl rfl Tryz.isAgg49 (Blk.at 1 rfl) rfl) rfl rfl ?_)
    refine ⟨⟨(Le.refl _), (HSub.c 2 rfl HSub.n), CSub.n⟩, ?_⟩
    refine JA.step 13 (by kernel_rfl) rfl rfl (op_append (by' := 71) [_, _, _] rfl rfl rfl rfl rfl Tryz.underlying49 (.inr ⟨_, Tryz.underlying49⟩) (by kernel_rfl) Tryz.sizeOf58 Tryz.zeroValue58 rfl hz rfl (Src.slice (Blk.at 0 rfl) rfl rfl (by show (fldC f).all Value.oneCell' = true; exact hf1)) (by omega) ?_)
    intro g25 hg25
    refine ⟨⟨(Le.refl _), (HSub.c 2 rfl HSub.n), CSub.n⟩, ?_⟩
    refine JA.fix ⟨(HSub.c 2 rfl HSub.n), CSub.n, (Le.refl _)⟩ (fun fx26 => ?_)
    refine JA.tk 14 rfl fx26 (yl_fieldAddr (off' := 2) rfl rfl Tryz.underlying51 rfl Tryz.sizeOf49 rfl) ?_
    refine JA.step 15 (by kernel_rfl) rfl rfl (op_store 1 rfl rfl rfl rfl (gV_cells _ _) (gV_one _ _) Tryz.sizeOf49 rfl rfl (LSpl.s (LSpl.s (LSpl.c LSpl.z))) (LSet.s LSet.z) ?_)
    refine ⟨⟨(Le.refl _), (HSub.c 2 rfl HSub.n), CSub.n⟩, ?_⟩
    refine JA.done (by kernel_rfl) ?_
    refine Ej.blkNormal (Ej.seq (Cj.region (J.z (yl_move rfl rfl) ?_)))
    refine J.z (yl_add rfl rfl rfl (w64 (by omega))) ?_
    refine J.z (yl_assign rfl rfl) ?_
    refine J.nil (Ej.keep (Keeps.d (Keeps.k (Keeps.k Keeps.r))) ?_)
    refine Ej.round (k + 1, g25) ⟨by dsimp only; omega, by dsimp only; rw [oth_next, flat_one, hbg]; exact hg25⟩ (by dsimp only; omega) ⟨rfl, rfl, rfl, rfl, rfl, rfl, trivial⟩ rfl (by dsimp only; rw [oth_next, flat_one, hbg]; rfl)
  ·
   have hc19p := of_decide_eq_false hc19
   refine Cj.exit (Ej.seqExit (Ej.loopExit (Ej.blkExit (Ej.seq (Cj.seq ?_)))))
   have hkn : k = (Ke.bks fs).length := by omega
   subst hkn
   refine Cj.perm (H' := gH _ _ _ ++ [_, _]) (List.perm_append_comm (l₁ := gH _ _ _) (l₂ := [_, _])) ?_
   refine Cj.keepR fldC_len (by decide) hz (oth_len _ _ _ _).symm (fun I8 hle8 hor => ?_)
   have hrs := hrs.mono hle8
   have hRS := hRS.mono hle8
   have hBS := hBS.mono hle8
   have hb13i := hle8 _ _ hb13i
   have hO : RecS I8 (oth fs (.slice (some ⟨b13, 0, none⟩) 1 1) by'.toNat (Ke.bks fs).length) (gV (1 + (Ke.rst fs).length + (Ke.bks fs).length) z) := ⟨hor, fun f hf => by
     rcases oth_in hf with rfl | hf
     · exact RowS.of (T := 60) (sp := []) (Nat.le_refl _) hb13i
     · exact hrs.2 f hf⟩
   have hofk : FOK (oth fs (.slice (some ⟨b13, 0, none⟩) 1 1) by'.toNat (Ke.bks fs).length) := ⟨by rw [oth_len]; omega, fun f hf => by
     rcases oth_in hf with rfl | hf
     · exact ⟨Nat.le_of_ble_eq_true rfl, Nat.le_of_ble_eq_true rfl, Nat.le_of_ble_eq_true rfl⟩
     · exact hok.2 f hf⟩
   refine Cj.region (J.z (yl_loadAgg rfl rfl Tryz.isAgg51 Tryz.sizeOf51 (Blk.at 1 rfl) rfl rfl) ?_)
   refine J.op rfl (op_call (H1 := []) rfl rfl rfl rfl rfl (All_ok fs _ 97 109 hok _ hrs) ?_ (fun _ _ _ _ h => by obtain ⟨_, h, _⟩ := h; cases h) (fun _ _ h => by obtain ⟨_, h, _⟩ := h; cases h))
   intro v27 I28 H29 hle30 hp31
   have hrs := hrs.mono hle30
   have hRS := hRS.mono hle30
   have hBS := hBS.mono hle30
   have hb13i := hle30 _ _ hb13i
   have hO := hO.mono hle30
   obtain ⟨va, h, ha, rfl⟩ := hp31; cases h
   replace ha := StrP.of ha
   obtain ⟨pa, ca, rfl, hca, hpa⟩ := id ha
   have hal := all_len hok
   refine J.z (yl_assign rfl rfl) ?_
   refine J.nil (Ej.seq (Cj.seq (Cj.seq (Cj.region (J.z (yl_assign rfl rfl) ?_)))))
   refine J.nil (Ej.seq (Cj.block (Cj.keep (Keeps.k (Keeps.d Keeps.n)) ?_)))
   refine Cj.loop (ι := Nat) (fun k => 1 ≤ k) (fun k => (Ke.all fs).length - k) (fun k => [(5, .bool true), (10, ptr b18 0), (12, .slice pa (Ke.all fs).length ca), (13, i64 (k : Int))]) (fun k => _) (fun k => [(b18, cel 51 [u8 0, u8 0, gV (1 + (Ke.rst fs).length + (Ke.bks fs).length) z])]) 1 (Nat.le_refl _) ⟨rfl, rfl, rfl, rfl, trivial⟩ rfl rfl ?_
   intro k hk1
   refine Cj.seq (Cj.seq (Cj.region (J.z (yl_move rfl rfl) ?_)))
   refine J.z (yl_move rfl rfl) ?_
   refine J.z (yl_lenSlice rfl rfl Tryz.underlying27) ?_
   refine J.z (yl_lss rfl rfl rfl) ?_
   refine J.nil (Ej.seq (Cj.cond rfl (fun hc32 => ?_) (fun hc32 => ?_)))
   ·
    have hc32p := of_decide_eq_true hc32
    refine Cj.skip (Ej.seq (Cj.seq (Cj.block (Cj.seq ?_))))
    have hklt : k < (Ke.all fs).length := by omega
    obtain ⟨a, hga⟩ : ∃ a, (Ke.all fs)[k - 1]? = some a := ⟨_, List.getElem?_eq_getElem (by omega)⟩
    obtain ⟨b, hgb⟩ : ∃ b, (Ke.all fs)[k]? = some b := ⟨_, List.getElem?_eq_getElem hklt⟩
    have hab2 := Ke.inc_at (Ke.all_inc fs) (by omega) hga hgb
    obtain ⟨ab, ao, acs, aty, afr, asp, rfl, hab, had⟩ := hpa (ne_nil_of hklt)
    refine Cj.drawSel [0] [] 10 (by kernel_rfl) ?_
    refine JA.fix ⟨(HSub.c 0 rfl HSub.n), CSub.n, (Le.refl _)⟩ (fun fx33 => ?_)
    refine JA.tk 0 rfl fx33 (yl_move rfl rfl) ?_
    refine JA.tk 1 rfl fx33 (yl_move rfl rfl) ?_
    refine JA.tk 2 rfl fx33 (yl_sub rfl rfl rfl (w64 (by omega))) ?_
    refine JA.eqv 85 rfl (show _ = i64 ((k - 1 : Nat) : Int) from (congrArg i64 (by omega))) ?_
    refine JA.tk 3 rfl fx33 (yl_indexAddr (off' := ao + (k - 1)) rfl rfl rfl Tryz.underlying27 Tryz.sizeOf9 (by omega) (by omega) (by first | (simp; done) | (simp; omega) | omega)) ?_
    refine JA.tk 4 rfl fx33 (yl_load rfl rfl Tryz.isAgg9 (Blk.immC hab) (str_from had hga)) ?_
    refine JA.tk 5 rfl fx33 (yl_move rfl rfl) ?_
    refine JA.tk 6 rfl fx33 (yl_move rfl rfl) ?_
    refine JA.tk 7 rfl fx33 (yl_indexAddr (off' := ao + k) rfl rfl rfl Tryz.underlying27 Tryz.sizeOf9 (by omega) (by omega) (by simp)) ?_
    refine JA.tk 8 rfl fx33 (yl_load rfl rfl Tryz.isAgg9 (Blk.immC hab) (str_from had hgb)) ?_
    refine JA.tk 9 rfl fx33 (yl_geqStr rfl rfl rfl) ?_
    refine JA.done (by kernel_rfl) ?_
    refine Ej.seq (Cj.cond rfl (fun hc34 => Bool.noConfusion (Eq.trans (Eq.symm (by rw [decide_eq_true hab2])) hc34)) (fun hc34 => ?_))
    refine Cj.skip (Ej.blkNormal (Ej.seq (Cj.region (J.z (yl_move rfl rfl) ?_))))
    refine J.z (yl_add rfl rfl rfl (w64 (by omega))) ?_
    refine J.z (yl_assign rfl rfl) ?_
    refine J.nil (Ej.round (k + 1) (by omega) (by omega) ⟨rfl, rfl, rfl, rfl, trivial⟩ rfl rfl)
   ·
    have hc32p := of_decide_eq_false hc32
    refine Cj.exit (Ej.seqExit (Ej.loopExit (Ej.blkExit (Ej.seq (Cj.seq (Cj.region (J.z (yl_move rfl rfl) ?_)))))))
    refine J.z (yl_move rfl rfl) ?_
    refine J.opG 1 94 true _ rfl rfl rfl rfl (op_yld (yl_move rfl rfl) rfl rfl ?_)
    refine J.opG 1 94 true _ rfl rfl rfl rfl (op_yld (yl_loadAgg rfl rfl Tryz.isAgg51 Tryz.sizeOf51 (Blk.at 0 rfl) rfl rfl) rfl rfl ?_)
    refine J.opG 1 94 true _ rfl rfl rfl rfl (op_call (H1 := []) rfl rfl rfl rfl rfl (All_ok (oth fs (.slice (some ⟨b13, 0, none⟩) 1 1) by'.toNat (Ke.bks fs).length) _ 0 0 hofk _ hO) ?_ (fun _ _ _ _ h => by obtain ⟨_, h, _⟩ := h; cases h) (fun _ _ h => by obtain ⟨_, h, _⟩ := h; cases h))
    intro v35 I36 H37 hle38 hp39
    have hrs := hrs.mono hle38
    have hRS := hRS.mono hle38
    have hBS := hBS.mono hle38
    have hb13i := hle38 _ _ hb13i
    have hO := hO.mono hle38
    have ha := ha.mono hle38
    obtain ⟨vhb2, h, hb2, rfl⟩ := hp39; cases h
    refine J.opG 1 94 true _ rfl rfl rfl rfl (op_pure rfl rfl rfl rfl rfl (Same_ok (Ke.all fs) (Ke.all (oth fs (.slice (some ⟨b13, 0, none⟩) 1 1) by'.toNat (Ke.bks fs).length)) _ _ (by omega) _ ha (StrP.of hb2)) ?_)
    refine J.eqv 98 rfl (show _ = .bool true from (congrArg Value.bool (decide_eq_true (Ke.order_law _ _ _)))) ?_
    refine J.z (yl_pick1 rfl rfl rfl rfl) ?_
    refine J.z (yl_assign rfl rfl) ?_
    refine J.nil (Ej.seq (Cj.ret (Ej.bare ?_)))
    refine Ej.ret1 rfl rfl rfl ?_
    exact ⟨rfl, rfl⟩

end Go.Proofs.YtnogdccoekfnoaaGreatDoor
