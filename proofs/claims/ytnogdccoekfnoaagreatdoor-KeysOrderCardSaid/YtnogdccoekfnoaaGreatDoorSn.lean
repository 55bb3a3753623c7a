/-
  The laws' sanity check. Own text, printed by a program. Conditions: none.
-/
import Derived.Test.YtnogdccoekfnoaaGreatDoorAl
import Derived.Test.YtnogdccoekfnoaaGreatDoorRa
namespace Go.Proofs.YtnogdccoekfnoaaGreatDoor
open Go Go.Sx
/-- The record of the examples. -/
def sanR (v1 v2 v3 : Value) : List Ke.Fld := [⟨[48, 50, 48], [32, 32], [], v1, [⟨97, [48, 51, 48, 54, 52, 48, 54, 49, 53, 50]⟩]⟩, ⟨[49, 48, 48], [49, 32], [], v2, [⟨97, [83, 97, 114, 116, 114, 101, 44, 32, 74, 46]⟩]⟩, ⟨[50, 52, 53], [49, 52], [], v3, [⟨97, [84, 104, 101, 32, 87, 97, 108, 108, 32, 47]⟩, ⟨98, [97, 110, 100, 32, 109, 111, 114, 101]⟩]⟩]
def sanK : List (List UInt8) := [[105, 115, 98, 110, 32, 57, 55, 56, 48, 51, 48, 54, 52, 48, 54, 49, 53, 55], [116, 105, 116, 108, 101, 32, 119, 97, 108, 108, 32, 97, 110, 100, 32, 109, 111, 114, 101, 32, 47, 32, 115, 97, 114, 116, 114, 101]]
theorem san_title (v1 v2 v3 : Value) : Ke.title (sanR v1 v2 v3) = [119, 97, 108, 108, 32, 97, 110, 100, 32, 109, 111, 114, 101] := by kernel_rfl
theorem san_all (v1 v2 v3 : Value) : Ke.all (sanR v1 v2 v3) = sanK := by kernel_rfl
theorem san1 : Ke.isbn [48, 45, 51, 48, 54, 45, 52, 48, 54, 49, 53, 45, 50, 32, 40, 112, 98, 107, 46, 41] = ([57, 55, 56, 48, 51, 48, 54, 52, 48, 54, 49, 53, 55], true) := by decide +kernel
theorem san2 : Ke.isbn [57, 55, 56, 48, 51, 48, 54, 52, 48, 54, 49, 53, 55] = ([57, 55, 56, 48, 51, 48, 54, 52, 48, 54, 49, 53, 55], true) := by decide +kernel
theorem san3 : Ke.isbn [48, 51, 48, 54, 52, 48, 54, 49, 53, 51] = ([], false) := by decide +kernel
theorem san4 : Ke.fold [32, 32, 76, 39, 195, 137, 116, 195, 169, 44, 32, 195, 160, 32, 32, 197, 129, 195, 179, 100, 197, 186, 33, 32] = [108, 32, 101, 116, 101, 32, 97, 32, 108, 111, 100, 122] := by decide +kernel
theorem san5 : Ke.sortKey [84, 104, 101, 32, 55, 32, 83, 97, 109, 117, 114, 97, 105, 44, 32, 112, 97, 114, 116, 32, 48, 49, 48] 4 = [48, 49, 55, 32, 115, 97, 109, 117, 114, 97, 105, 32, 112, 97, 114, 116, 32, 48, 50, 49, 48] := by decide +kernel
theorem san_ok (v1 v2 v3 : Value) : FOK (sanR v1 v2 v3) := by
  refine ⟨Nat.le_of_ble_eq_true rfl, fun f hf => ?_⟩
  simp only [sanR, List.mem_cons, List.not_mem_nil, or_false] at hf
  rcases hf with rfl | rfl | rfl <;> exact ⟨Nat.le_of_ble_eq_true rfl, Nat.le_of_ble_eq_true rfl, Nat.le_of_ble_eq_true rfl⟩
set_option maxRecDepth 20000 in
set_option maxHeartbeats 4000000 in
theorem sanity_ok (I : Heap) : Pure Tryz.prog 13 [] I (.bool true) := by
 refine Ctr.toPure ?_
 refine Ctr.of_body Tryz.func13 rfl (by decide) (Nat.le_of_ble_eq_true rfl) ?_
 intro w0 hw0
 refine Cj.seq (Cj.region (J.z (yl_assign rfl rfl) ?_))
 refine J.nil (Ej.seq (Cj.seq (Cj.region (J.z (yl_buildS (pl := #[(0, 1), (1, 1)]) rfl rfl Tryz.zeroValue60 rfl Tryz.underlying60 (fun w => by simp [Tryz.sizeOf5, Tryz.sizeOf9]) (LBld.part rfl rfl rfl (LSpl.c LSpl.z) (LBld.part rfl rfl rfl (LSpl.s (LSpl.c LSpl.z)) LBld.none))) ?_))))
 refine J.op rfl (op_buildSlice rfl rfl rfl Tryz.underlying56 Tryz.sizeOf60 Tryz.zeroValue60 rfl rfl rfl rfl (LCat.agg rfl LCat.none) ?_)
 intro b1 hb1
 refine J.z (yl_buildS (pl := #[(0, 1), (1, 1), (2, 1), (3, 1)]) rfl rfl Tryz.zeroValue58 rfl Tryz.underlying58 (fun w => by simp [Tryz.sizeOf56, Tryz.sizeOf9]) (LBld.part rfl rfl rfl (LSpl.c LSpl.z) (LBld.part rfl rfl rfl (LSpl.s (LSpl.c LSpl.z)) (LBld.part rfl rfl rfl (LSpl.s (LSpl.s (LSpl.s (LSpl.c LSpl.z)))) LBld.none)))) ?_
 refine J.z (yl_buildS (pl := #[(0, 1), (1, 1)]) rfl rfl Tryz.zeroValue60 rfl Tryz.underlying60 (fun w => by simp [Tryz.sizeOf5, Tryz.sizeOf9]) (LBld.part rfl rfl rfl (LSpl.c LSpl.z) (LBld.part rfl rfl rfl (LSpl.s (LSpl.c LSpl.z)) LBld.none))) ?_
 refine J.op rfl (op_buildSlice rfl rfl rfl Tryz.underlying56 Tryz.sizeOf60 Tryz.zeroValue60 rfl rfl rfl rfl (LCat.agg rfl LCat.none) ?_)
 intro b2 hb2
 refine J.z (yl_buildS (pl := #[(0, 1), (1, 1), (2, 1), (3, 1)]) rfl rfl Tryz.zeroValue58 rfl Tryz.underlying58 (fun w => by simp [Tryz.sizeOf56, Tryz.sizeOf9]) (LBld.part rfl rfl rfl (LSpl.c LSpl.z) (LBld.part rfl rfl rfl (LSpl.s (LSpl.c LSpl.z)) (LBld.part rfl rfl rfl (LSpl.s (LSpl.s (LSpl.s (LSpl.c LSpl.z)))) LBld.none)))) ?_
 refine J.z (yl_buildS (pl := #[(0, 1), (1, 1)]) rfl rfl Tryz.zeroValue60 rfl Tryz.underlying60 (fun w => by simp [Tryz.sizeOf5, Tryz.sizeOf9]) (LBld.part rfl rfl rfl (LSpl.c LSpl.z) (LBld.part rfl rfl rfl (LSpl.s (LSpl.c LSpl.z)) LBld.none))) ?_
 refine J.z (yl_buildS (pl := #[(0, 1), (1, 1)]) rfl rfl Tryz.zeroValue60 rfl Tryz.underlying60 (fun w => by simp [Tryz.sizeOf5, Tryz.sizeOf9]) (LBld.part rfl rfl rfl (LSpl.c LSpl.z) (LBld.part rfl rfl rfl (LSpl.s (LSpl.c LSpl.z)) LBld.none))) ?_
 refine J.op rfl (op_buildSlice rfl rfl rfl Tryz.underlying56 Tryz.sizeOf60 Tryz.zeroValue60 rfl rfl rfl rfl (LCat.agg rfl (LCat.agg rfl LCat.none)) ?_)
 intro b3 hb3
 refine J.z (yl_buildS (pl := #[(0, 1), (1, 1), (2, 1), (3, 1)]) rfl rfl Tryz.zeroValue58 rfl Tryz.underlying58 (fun w => by simp [Tryz.sizeOf56, Tryz.sizeOf9]) (LBld.part rfl rfl rfl (LSpl.c LSpl.z) (LBld.part rfl rfl rfl (LSpl.s (LSpl.c LSpl.z)) (LBld.part rfl rfl rfl (LSpl.s (LSpl.s (LSpl.s (LSpl.c LSpl.z)))) LBld.none)))) ?_
 refine J.op rfl (op_buildSlice rfl rfl rfl Tryz.underlying49 Tryz.sizeOf58 Tryz.zeroValue58 rfl rfl rfl rfl (LCat.agg rfl (LCat.agg rfl (LCat.agg rfl LCat.none))) ?_)
 intro b4 hb4
 refine J.z (yl_buildS (pl := #[(0, 1), (1, 1), (2, 1)]) rfl rfl Tryz.zeroValue51 rfl Tryz.underlying51 (fun w => by simp [Tryz.sizeOf49, Tryz.sizeOf5]) (LBld.part rfl rfl rfl (LSpl.s (LSpl.s (LSpl.c LSpl.z))) LBld.none)) ?_
 refine J.op rfl (op_alloc rfl rfl rfl Tryz.zeroValue51 rfl ?_)
 intro b5 hb5
 refine J.op rfl (op_store 0 rfl rfl rfl rfl rfl rfl Tryz.sizeOf51 rfl rfl (LSpl.c (LSpl.c (LSpl.c LSpl.z))) LSet.z ?_)
 refine J.nil (Ej.seq (Cj.seq (Cj.pull (Pull.s (Pull.s (Pull.s (Pull.s Pull.z)))) ?_)))
 refine Cj.persist hb1 (fun I11 hle11 h1 => ?_)
 refine Cj.pull (Pull.s (Pull.s (Pull.s Pull.z))) ?_
 refine Cj.persist hb2 (fun I14 hle14 h2 => ?_)
 have h1 := hle14 _ _ h1
 refine Cj.pull (Pull.s (Pull.s Pull.z)) ?_
 refine Cj.persist hb3 (fun I18 hle18 h3 => ?_)
 have h1 := hle18 _ _ h1
 have h2 := hle18 _ _ h2
 refine Cj.pull (Pull.s Pull.z) ?_
 refine Cj.persist hb4 (fun I20 hle20 h4 => ?_)
 have h1 := hle20 _ _ h1
 have h2 := hle20 _ _ h2
 have h3 := hle20 _ _ h3
 have hok := san_ok (.slice (some ⟨b1, 0, none⟩) 1 1) (.slice (some ⟨b2, 0, none⟩) 1 1) (.slice (some ⟨b3, 0, none⟩) 2 2)
 have hr : RecS I20 (sanR (.slice (some ⟨b1, 0, none⟩) 1 1) (.slice (some ⟨b2, 0, none⟩) 1 1) (.slice (some ⟨b3, 0, none⟩) 2 2)) (.slice (some ⟨b4, 0, none⟩) 3 3) := ⟨⟨_, 3, rfl, Nat.le_refl _, fun _ => ⟨_, 0, _, _, _, [], rfl, h4, rfl⟩⟩, fun f hf => by
   simp only [sanR, List.mem_cons, List.not_mem_nil, or_false] at hf
   rcases hf with rfl | rfl | rfl
   · exact ⟨_, 1, rfl, Nat.le_refl _, fun _ => ⟨_, 0, _, _, _, [], rfl, h1, rfl⟩⟩
   · exact ⟨_, 1, rfl, Nat.le_refl _, fun _ => ⟨_, 0, _, _, _, [], rfl, h2, rfl⟩⟩
   · exact ⟨_, 2, rfl, Nat.le_refl _, fun _ => ⟨_, 0, _, _, _, [], rfl, h3, rfl⟩⟩⟩
 refine Cj.region (J.op rfl (op_pure rfl rfl rfl rfl rfl (Isbn_ok [48, 45, 51, 48, 54, 45, 52, 48, 54, 49, 53, 45, 50, 32, 40, 112, 98, 107, 46, 41] (by decide) _) ?_))
 refine J.z (yl_move rfl rfl) ?_
 refine J.z (yl_extract rfl rfl rfl) ?_
 refine J.z (yl_extract rfl rfl rfl) ?_
 refine J.z (yl_assign rfl rfl) ?_
 refine J.z (yl_assign rfl rfl) ?_
 refine J.nil (Ej.seq (Cj.seq (Cj.region (J.op rfl (op_pure rfl rfl rfl rfl rfl (Isbn_ok [57, 55, 56, 48, 51, 48, 54, 52, 48, 54, 49, 53, 55] (by decide) _) ?_)))))
 refine J.z (yl_move rfl rfl) ?_
 refine J.z (yl_extract rfl rfl rfl) ?_
 refine J.z (yl_extract rfl rfl rfl) ?_
 refine J.z (yl_assign rfl rfl) ?_
 refine J.z (yl_assign rfl rfl) ?_
 refine J.nil (Ej.seq (Cj.seq (Cj.region (J.op rfl (op_pure rfl rfl rfl rfl rfl (Isbn_ok [48, 51, 48, 54, 52, 48, 54, 49, 53, 51] (by decide) _) ?_)))))
 refine J.z (yl_move rfl rfl) ?_
 refine J.z (yl_extract rfl rfl rfl) ?_
 refine J.z (yl_extract rfl rfl rfl) ?_
 refine J.z (yl_assign rfl rfl) ?_
 refine J.z (yl_assign rfl rfl) ?_
 refine J.nil (Ej.seq (Cj.seq (Cj.region (J.op rfl (op_pure rfl rfl rfl rfl rfl (Fold_ok [32, 32, 76, 39, 195, 137, 116, 195, 169, 44, 32, 195, 160, 32, 32, 197, 129, 195, 179, 100, 197, 186, 33, 32] (by decide) _) ?_)))))
 refine J.z (yl_eqlStr rfl rfl rfl) ?_
 refine J.z (yl_move rfl rfl) ?_
 refine J.opG 2 36 true _ rfl rfl rfl (beq_iff_eq.2 san4) (op_pure rfl rfl rfl rfl rfl (Sort_ok [84, 104, 101, 32, 55, 32, 83, 97, 109, 117, 114, 97, 105, 44, 32, 112, 97, 114, 116, 32, 48, 49, 48] 4 (by decide) _) ?_)
 refine J.opG 2 36 true _ rfl rfl rfl (beq_iff_eq.2 san4) (op_yld (yl_eqlStr rfl rfl rfl) rfl rfl ?_)
 refine J.z (yl_pick1 rfl rfl (beq_iff_eq.2 san4) rfl) ?_
 refine J.z (yl_assign rfl rfl) ?_
 refine J.nil (Ej.seq (Cj.seq (Cj.region (J.z (yl_move rfl rfl) ?_))))
 refine J.z (yl_move rfl rfl) ?_
 refine J.opG 1 41 true _ rfl rfl rfl (congrArg Prod.snd san1) (op_yld (yl_move rfl rfl) rfl rfl ?_)
 refine J.z (yl_pick1 rfl rfl (congrArg Prod.snd san1) rfl) ?_
 refine J.z (yl_move rfl rfl) ?_
 refine J.opG 4 44 true _ rfl rfl rfl (congrArg Prod.snd san2) (op_yld (yl_move rfl rfl) rfl rfl ?_)
 refine J.opG 4 44 true _ rfl rfl rfl (congrArg Prod.snd san2) (op_yld (yl_not rfl rfl) rfl rfl ?_)
 refine J.z (yl_pick1 rfl rfl (congrArg Prod.snd san2) rfl) ?_
 refine J.z (yl_move rfl rfl) ?_
 refine J.opG 8 48 true _ rfl rfl rfl (congrArg not (congrArg Prod.snd san3)) (op_yld (yl_move rfl rfl) rfl rfl ?_)
 refine J.opG 8 48 true _ rfl rfl rfl (congrArg not (congrArg Prod.snd san3)) (op_yld (yl_eqlStr rfl rfl rfl) rfl rfl ?_)
 refine J.z (yl_pick1 rfl rfl (congrArg not (congrArg Prod.snd san3)) rfl) ?_
 refine J.z (yl_move rfl rfl) ?_
 refine J.opG 12 52 true _ rfl rfl rfl (beq_iff_eq.2 (congrArg Prod.fst san1)) (op_yld (yl_move rfl rfl) rfl rfl ?_)
 refine J.opG 12 52 true _ rfl rfl rfl (beq_iff_eq.2 (congrArg Prod.fst san1)) (op_yld (yl_move rfl rfl) rfl rfl ?_)
 refine J.opG 12 52 true _ rfl rfl rfl (beq_iff_eq.2 (congrArg Prod.fst san1)) (op_yld (yl_eqlStr rfl rfl rfl) rfl rfl ?_)
 refine J.z (yl_pick1 rfl rfl (beq_iff_eq.2 (congrArg Prod.fst san1)) rfl) ?_
 refine J.z (yl_move rfl rfl) ?_
 refine J.opG 17 57 true _ rfl rfl rfl (beq_iff_eq.2 ((congrArg Prod.fst san2).trans (congrArg Prod.fst san1).symm)) (op_yld (yl_loadAgg rfl rfl Tryz.isAgg51 Tryz.sizeOf51 (Blk.at 0 rfl) rfl rfl) rfl rfl ?_)
 refine J.opG 17 57 true _ rfl rfl rfl (beq_iff_eq.2 ((congrArg Prod.fst san2).trans (congrArg Prod.fst san1).symm)) (op_pure rfl rfl rfl rfl rfl (Title_ok (sanR (.slice (some ⟨b1, 0, none⟩) 1 1) (.slice (some ⟨b2, 0, none⟩) 1 1) (.slice (some ⟨b3, 0, none⟩) 2 2)) _ 0 0 hok _ hr) ?_)
 refine J.opG 17 57 true _ rfl rfl rfl (beq_iff_eq.2 ((congrArg Prod.fst san2).trans (congrArg Prod.fst san1).symm)) (op_yld (yl_eqlStr rfl rfl rfl) rfl rfl ?_)
 refine J.z (yl_pick1 rfl rfl (beq_iff_eq.2 ((congrArg Prod.fst san2).trans (congrArg Prod.fst san1).symm)) rfl) ?_
 refine J.z (yl_assign rfl rfl) ?_
 refine J.nil (Ej.seq (Cj.seq (Cj.region (J.z (yl_move rfl rfl) ?_))))
 refine J.z (yl_move rfl rfl) ?_
 refine J.opG 1 63 true _ rfl rfl rfl (beq_iff_eq.2 san5) (op_yld (yl_move rfl rfl) rfl rfl ?_)
 refine J.z (yl_pick1 rfl rfl (beq_iff_eq.2 san5) rfl) ?_
 refine J.z (yl_move rfl rfl) ?_
 refine J.opG 4 66 true _ rfl rfl rfl (beq_iff_eq.2 (san_title _ _ _)) (op_yld (yl_loadAgg rfl rfl Tryz.isAgg51 Tryz.sizeOf51 (Blk.at 0 rfl) rfl rfl) rfl rfl ?_)
 refine J.opG 4 66 true _ rfl rfl rfl (beq_iff_eq.2 (san_title _ _ _)) (op_call (H1 := []) rfl rfl rfl rfl rfl (All_ok (sanR (.slice (some ⟨b1, 0, none⟩) 1 1) (.slice (some ⟨b2, 0, none⟩) 1 1) (.slice (some ⟨b3, 0, none⟩) 2 2)) _ 0 0 hok _ hr) ?_ (fun _ _ _ _ h => by obtain ⟨_, h, _⟩ := h; cases h) (fun _ _ h => by obtain ⟨_, h, _⟩ := h; cases h))
 intro v6 I7 H8 hle9 hp10
 have hr := hr.mono hle9
 obtain ⟨w, h, hw, rfl⟩ := hp10; cases h
 refine J.opG 4 66 true _ rfl rfl rfl (beq_iff_eq.2 (san_title _ _ _)) (op_buildSlice rfl rfl rfl Tryz.underlying27 Tryz.sizeOf9 Tryz.zeroValue9 rfl rfl rfl rfl (LCat.one rfl (LCat.one rfl LCat.none)) ?_)
 intro b11 hb11
 refine J.persist hb11 (fun I9 hle9 hlb => ?_)
 have hw := hw.mono hle9
 refine J.opG 4 66 true _ rfl rfl rfl (beq_iff_eq.2 (san_title _ _ _)) (op_pure rfl rfl rfl rfl rfl (Same_ok _ sanK _ _ (by rw [san_all]; decide) _ (StrP.of hw) ⟨_, 2, rfl, Nat.le_refl _, fun _ => ⟨_, 0, _, _, _, [], rfl, hlb, rfl⟩⟩) ?_)
 refine J.z (yl_pick1 rfl rfl (beq_iff_eq.2 (san_title _ _ _)) rfl) ?_
 refine J.z (yl_assign rfl rfl) ?_
 refine J.nil (Ej.seq (Cj.ret (Ej.bare ?_)))
 refine Ej.ret1 rfl rfl rfl ?_
 exact ⟨rfl, rfl⟩

end Go.Proofs.YtnogdccoekfnoaaGreatDoor
