/-
  The law KeysTen, walked. Own text, printed by a program. Conditions: none.
-/
import Derived.Test.YtnogdccoekfnoaaGreatDoorNu
import Derived.Test.YtnogdccoekfnoaaGreatDoorSn
import Derived.Test.YtnogdccoekfnoaaGreatDoorLwIsbn
namespace Go.Proofs.YtnogdccoekfnoaaGreatDoor
open Go Go.Sx
/-- What the law speaks of, in plain Lean. -/
theorem ten_law (l : List UInt8) (hl : l.length = 12) (c : UInt8) : ∃ n : List UInt8, Ke.isbn (Ke.numb l 1 c 0 (c % 16)) = (n, true) ∧ Ke.isbn n = (n, true) ∧ n.length = 13 ∧ Ke.digits n = true ∧ Ke.csum 0 n % 10 = 0 ∧ n.take 3 = [57, 55, 56] := by
  have h9 : ((l.map Ke.dgt).take 9).length = 9 := by rw [List.length_take, List.length_map]; omega
  have hd9 : Ke.digits ((l.map Ke.dgt).take 9) = true := List.all_eq_true.2 fun x hx => List.all_eq_true.1 (Ke.map_dgt l) x (List.mem_of_mem_take hx)
  have hlo := Ke.long_ok ((l.map Ke.dgt).take 9) h9 hd9
  obtain ⟨k1, k2, k3⟩ := hlo
  have h16 : (c % 16).toNat / 16 % 4 = 0 := by rw [UInt8.toNat_mod]; show c.toNat % 16 / 16 % 4 = 0; omega
  refine ⟨_, ?_, ?_, k1, k2, k3, rfl⟩
  · rw [numb_eq (S := (l.map Ke.dgt).take 9) (E := Ke.ends ((l.map Ke.dgt).take 9) c) rfl rfl, h16, show Ke.tails.getD 0 [] = [] from rfl, List.append_nil]
    exact Ke.isbn_short _ c _ _ h9 hd9
  · rw [Ke.isbn_13 k1 k2, if_pos k3]
theorem turn_nat (d x : UInt8) : (UInt8.ofNat (48 + (d.toNat - 48 + 1 + x.toNat % 9) % 10)).toNat = 48 + (d.toNat - 48 + 1 + x.toNat % 9) % 10 := by
  rw [UInt8.toNat_ofNat_of_lt' (show _ < 256 by omega)]
theorem turned (d x : UInt8) (hd : 48 ≤ d.toNat ∧ d.toNat ≤ 57) : Ke.digit (UInt8.ofNat (48 + (d.toNat - 48 + 1 + x.toNat % 9) % 10)) = true ∧ UInt8.ofNat (48 + (d.toNat - 48 + 1 + x.toNat % 9) % 10) ≠ d := by
  have h1 := turn_nat d x
  refine ⟨Ke.digit_iff.2 (by omega), fun e => ?_⟩
  have := congrArg UInt8.toNat e
  omega
theorem set_bcs {n : List UInt8} {sp : List Value} {k : Nat} {e : UInt8} (hk : k < n.length) : (bcs n ++ sp).set k (u8 e) = bcs (n.set k e) ++ sp := by
  rw [List.set_append_left _ _ (by rw [bcs_len]; exact hk)]
  unfold bcs
  rw [List.map_set]

set_option maxRecDepth 20000 in
theorem KeysTen_ok (l : List UInt8) (hl : l.length = 12) (c x0 x1 : UInt8) (I : Heap) : Pure Tryz.prog 10 [.agg (bcs l).toArray, u8 c, .agg #[u8 x0, u8 x1]] I (.bool true) := by
 refine Ctr.toPure ?_
 have hnl := numb_len l hl 1 c 0 (c % 16)
 obtain ⟨n, h1, h2, h3, h4, h5, h6⟩ := ten_law l hl c
 have hl0 := x0.toNat_lt
 have hl1 := x1.toNat_lt
 have hlc := c.toNat_lt
 refine Ctr.of_body Tryz.func10 rfl (by decide) (Nat.le_of_ble_eq_true rfl) ?_
 intro w0 hw0
 refine Cj.seq (Cj.region (J.op rfl (op_box rfl rfl rfl rfl rfl ?_)))
 intro b1 hb1
 refine J.op rfl (op_box rfl rfl rfl rfl rfl ?_)
 intro b2 hb2
 refine J.z (yl_assign rfl rfl) ?_
 refine J.nil (Ej.seq (Cj.seq (Cj.region (J.op rfl (op_pure rfl rfl rfl rfl rfl (sanity_ok _) ?_)))))
 refine J.z (yl_assign rfl rfl) ?_
 refine J.nil (Ej.seq (Cj.seq (Cj.region (J.z (yl_loadAgg rfl rfl Tryz.isAgg40 Tryz.sizeOf40 (Blk.at 1 rfl) (show ((bcs l).drop 0).take 12 = bcs l by rw [List.drop_zero]; exact List.take_of_length_le (by rw [bcs_len]; omega)) (by rw [bcs_len]; exact hl)) ?_))))
 refine J.z (yl_move rfl rfl) ?_
 refine J.z (yl_move rfl rfl) ?_
 refine J.z (yl_rem rfl rfl rfl (by decide)) ?_
 refine J.eqv 21 rfl (show _ = u8 (c % 16) from (congrArg (Value.int .u8) (by rw [UInt8.toNat_mod]; rfl))) ?_
 refine J.z (yl_buildA (zs := [(.int .u8 0), (.int .u8 0), (.int .u8 0), (.int .u8 0)]) rfl rfl Tryz.zeroValue41 rfl Tryz.underlying41 Tryz.sizeOf5 rfl) ?_
 refine J.op rfl (op_pure rfl rfl rfl rfl rfl (Number_ok l hl 1 c 0 (c % 16) _) ?_)
 refine J.z (yl_assign rfl rfl) ?_
 refine J.nil (Ej.seq (Cj.seq (Cj.region (J.z (yl_move rfl rfl) ?_))))
 refine J.op rfl (op_pure rfl rfl rfl rfl rfl (Isbn_ok (Ke.numb l 1 c 0 (c % 16)) (by omega) _) ?_)
 refine J.z (yl_move rfl rfl) ?_
 refine J.z (yl_extract rfl rfl rfl) ?_
 refine J.eqv 27 rfl (show _ = str n from (congrArg (fun p => str p.1) h1)) ?_
 refine J.z (yl_extract rfl rfl rfl) ?_
 refine J.z (yl_assign rfl rfl) ?_
 refine J.z (yl_assign rfl rfl) ?_
 refine J.nil (Ej.seq (Cj.seq (Cj.region (J.z (yl_move rfl rfl) ?_))))
 refine J.op rfl (op_pure rfl rfl rfl rfl rfl (Isbn_ok n (by omega) _) ?_)
 refine J.z (yl_move rfl rfl) ?_
 refine J.z (yl_extract rfl rfl rfl) ?_
 refine J.eqv 32 rfl (show _ = str n from (congrArg (fun p => str p.1) h2)) ?_
 refine J.z (yl_extract rfl rfl rfl) ?_
 refine J.z (yl_assign rfl rfl) ?_
 refine J.z (yl_assign rfl rfl) ?_
 refine J.nil (Ej.seq (Cj.seq (Cj.seq (Cj.region (J.z (yl_move rfl rfl) ?_)))))
 refine J.z (yl_not rfl rfl) ?_
 refine J.z (yl_move rfl rfl) ?_
 refine J.opG 2 36 false _ rfl rfl rfl (congrArg not (congrArg Prod.snd h1)) (op_yld (yl_move rfl rfl) rfl rfl ?_)
 refine J.opG 2 36 false _ rfl rfl rfl (congrArg not (congrArg Prod.snd h1)) (op_yld (yl_not rfl rfl) rfl rfl ?_)
 refine J.z (yl_pick0 rfl rfl (congrArg not (congrArg Prod.snd h1)) rfl) ?_
 refine J.z (yl_move rfl rfl) ?_
 refine J.opG 6 40 false _ rfl rfl rfl (congrArg not (congrArg Prod.snd h2)) (op_yld (yl_move rfl rfl) rfl rfl ?_)
 refine J.opG 6 40 false _ rfl rfl rfl (congrArg not (congrArg Prod.snd h2)) (op_yld (yl_move rfl rfl) rfl rfl ?_)
 refine J.opG 6 40 false _ rfl rfl rfl (congrArg not (congrArg Prod.snd h2)) (op_yld (yl_neqStr rfl rfl rfl) rfl rfl ?_)
 refine J.z (yl_pick0 rfl rfl (congrArg not (congrArg Prod.snd h2)) rfl) ?_
 refine J.z (yl_move rfl rfl) ?_
 refine J.opG 11 45 false _ rfl rfl rfl (by simp) (op_yld (yl_move rfl rfl) rfl rfl ?_)
 refine J.opG 11 45 false _ rfl rfl rfl (by simp) (op_yld (yl_lenStr rfl rfl Tryz.underlying9) rfl rfl ?_)
 refine J.opG 11 45 false _ rfl rfl rfl (by simp) (op_yld (yl_neq rfl rfl rfl) rfl rfl ?_)
 refine J.z (yl_pick0 rfl rfl (by simp) rfl) ?_
 refine J.z (yl_move rfl rfl) ?_
 refine J.opG 16 50 false _ rfl rfl rfl (by rw [h3]; rfl) (op_yld (yl_move rfl rfl) rfl rfl ?_)
 refine J.opG 16 50 false _ rfl rfl rfl (by rw [h3]; rfl) (op_yld (yl_sliceStr (p := 0) (q := 3) rfl rfl Tryz.underlying9 rfl ⟨_, rfl⟩ (by omega) (by omega)) rfl rfl ?_)
 refine J.eqv 52 rfl (show _ = str [57, 55, 56] from (by rw [List.drop_zero, h6])) ?_
 refine J.opG 16 50 false _ rfl rfl rfl (by rw [h3]; rfl) (op_yld (yl_neqStr rfl rfl rfl) rfl rfl ?_)
 refine J.z (yl_pick0 rfl rfl (by rw [h3]; rfl) rfl) ?_
 refine J.nil (Ej.seq (Cj.cond rfl (fun hc3 => Bool.noConfusion (Eq.trans (Eq.symm rfl) hc3)) (fun hc3 => ?_)))
 refine Cj.skip (Ej.seq (Cj.seq (Cj.region (J.z (yl_move rfl rfl) ?_))))
 refine J.op rfl (op_toBytes rfl rfl rfl rfl Tryz.underlying9 Tryz.underlying46 Tryz.underlying5 ?_)
 intro b4 c5 sp6 fr7 hb4 hfr7
 refine J.z (yl_assign rfl rfl) ?_
 refine J.nil (Ej.seq (Cj.seq ?_))
 have hk13 : (x0.toNat % 13) < n.length := by omega
 obtain ⟨d, hget⟩ : ∃ d, n[(x0.toNat % 13)]? = some d := ⟨_, List.getElem?_eq_getElem hk13⟩
 have hdd := digits_at h4 hget
 obtain ⟨ht1, ht2⟩ := turned d x1 hdd
 have hgd : n.getD (x0.toNat % 13) 0 = d := by rw [List.getD, hget]; rfl
 have hwr := Ke.isbn_changed h3 h4 h5 (show (x0.toNat % 13) < 13 by omega) ht1 (by rw [hgd]; exact ht2)
 refine Cj.region (J.z (yl_indexArr (off' := 0) rfl rfl rfl Tryz.underlying37 Tryz.sizeOf5 (by decide) (by decide) (by decide)) ?_)
 refine J.z (yl_load rfl rfl Tryz.isAgg5 (Blk.at 1 rfl) rfl) ?_
 refine J.z (yl_rem rfl rfl rfl (by decide)) ?_
 refine J.eqv 59 rfl (show _ = .int .u8 ((x0.toNat % 13 : Nat) : Int) from rfl) ?_
 refine J.z (yl_convInt rfl rfl Tryz.underlying5 Tryz.underlying3) ?_
 refine J.eqv 60 rfl (show _ = i64 (((x0.toNat % 13) : Nat) : Int) from (congrArg i64 (w64 (by omega)))) ?_
 refine J.z (yl_assign rfl rfl) ?_
 refine J.nil (Ej.seq (Cj.seq (Cj.drawSel [1, 2] [] 16 (by kernel_rfl) ?_)))
 refine JA.fix ⟨(HSub.c 1 rfl (HSub.c 2 rfl HSub.n)), CSub.n, (Le.refl _)⟩ (fun fx8 => ?_)
 refine JA.tk 0 rfl fx8 (yl_move rfl rfl) ?_
 refine JA.tk 1 rfl fx8 (yl_move rfl rfl) ?_
 refine JA.tk 2 rfl fx8 (yl_move rfl rfl) ?_
 refine JA.tk 3 rfl fx8 (yl_move rfl rfl) ?_
 refine JA.tk 4 rfl fx8 (yl_indexAddr (off' := (x0.toNat % 13)) rfl rfl rfl Tryz.underlying46 Tryz.sizeOf5 (by omega) (by omega) (by simp; omega)) ?_
 refine JA.tk 8 rfl fx8 (yl_indexArr (off' := 1) rfl rfl rfl Tryz.underlying37 Tryz.sizeOf5 (by decide) (by decide) (by decide)) ?_
 refine JA.tk 9 rfl fx8 (yl_load rfl rfl Tryz.isAgg5 (Blk.atC 0 rfl) rfl) ?_
 refine JA.tk 10 rfl fx8 (yl_rem rfl rfl rfl (by decide)) ?_
 refine JA.eqv 71 rfl (show _ = .int .u8 ((x1.toNat % 9 : Nat) : Int) from rfl) ?_
 refine JA.step 5 (by kernel_rfl) rfl rfl (op_yld (yl_load rfl rfl Tryz.isAgg5 (Blk.at 0 rfl) (bcs_at hget)) rfl rfl ?_)
 refine ⟨⟨(Le.refl _), (HSub.c 1 rfl (HSub.c 2 rfl HSub.n)), CSub.n⟩, ?_⟩
 refine JA.fix ⟨(HSub.c 1 rfl (HSub.c 2 rfl HSub.n)), CSub.n, (Le.refl _)⟩ (fun fx9 => ?_)
 refine JA.tk 6 rfl fx9 (yl_sub rfl rfl rfl (w8 (by omega))) ?_
 refine JA.eqv 67 rfl (show _ = .int .u8 ((d.toNat - 48 : Nat) : Int) from (congrArg (Value.int .u8) (by omega))) ?_
 refine JA.tk 7 rfl fx9 (yl_add rfl rfl rfl (w8 (by omega))) ?_
 refine JA.eqv 68 rfl (show _ = .int .u8 ((d.toNat - 48 + 1 : Nat) : Int) from (congrArg (Value.int .u8) (by omega))) ?_
 refine JA.tk 11 rfl fx9 (yl_add rfl rfl rfl (w8 (by omega))) ?_
 refine JA.eqv 72 rfl (show _ = .int .u8 ((d.toNat - 48 + 1 + x1.toNat % 9 : Nat) : Int) from (congrArg (Value.int .u8) (by omega))) ?_
 refine JA.tk 12 rfl fx9 (yl_rem rfl rfl rfl (by decide)) ?_
 refine JA.eqv 73 rfl (show _ = .int .u8 (((d.toNat - 48 + 1 + x1.toNat % 9) % 10 : Nat) : Int) from rfl) ?_
 refine JA.tk 13 rfl fx9 (yl_add rfl rfl rfl (w8 (by omega))) ?_
 refine JA.eqv 74 rfl (show _ = u8 (UInt8.ofNat (48 + (d.toNat - 48 + 1 + x1.toNat % 9) % 10)) from (congrArg (Value.int .u8) (by rw [turn_nat]; omega))) ?_
 refine JA.tk 14 rfl fx9 (yl_indexAddr (off' := (x0.toNat % 13)) rfl rfl rfl Tryz.underlying46 Tryz.sizeOf5 (by omega) (by omega) (by simp; omega)) ?_
 refine JA.step 15 (by kernel_rfl) rfl rfl (op_store1 0 rfl rfl rfl rfl rfl rfl Tryz.sizeOf5 rfl (.inr (by have := hfr7; simpa using this)) (by simp only [List.length_append, bcs_len]; omega) LSet.z ?_)
 refine ⟨⟨(Le.refl _), (HSub.c 1 rfl (HSub.c 2 rfl HSub.n)), CSub.n⟩, ?_⟩
 refine JA.done (by kernel_rfl) ?_
 refine Ej.seq (Cj.seq (Cj.region (J.z (yl_move rfl rfl) ?_)))
 refine J.z (yl_toStr (n.set (x0.toNat % 13) (UInt8.ofNat (48 + (d.toNat - 48 + 1 + x1.toNat % 9) % 10))) rfl rfl (by rw [List.length_set]) Tryz.underlying46 Tryz.underlying9 Tryz.underlying5 (Blk.at 0 rfl) (by rw [set_bcs (by omega), List.drop_zero, List.take_left' (by rw [bcs_len])])) ?_
 refine J.op rfl (op_pure rfl rfl rfl rfl rfl (Isbn_ok (n.set (x0.toNat % 13) (UInt8.ofNat (48 + (d.toNat - 48 + 1 + x1.toNat % 9) % 10))) (by rw [List.length_set]; omega) _) ?_)
 refine J.z (yl_move rfl rfl) ?_
 refine J.z (yl_extract rfl rfl rfl) ?_
 refine J.z (yl_extract rfl rfl rfl) ?_
 refine J.z (yl_assign rfl rfl) ?_
 refine J.z (yl_assign rfl rfl) ?_
 refine J.nil (Ej.seq (Cj.seq (Cj.region (J.z (yl_move rfl rfl) ?_))))
 refine J.z (yl_move rfl rfl) ?_
 refine J.opG 1 83 true _ rfl rfl rfl rfl (op_yld (yl_move rfl rfl) rfl rfl ?_)
 refine J.opG 1 83 true _ rfl rfl rfl rfl (op_yld (yl_not rfl rfl) rfl rfl ?_)
 refine J.z (yl_pick1 rfl rfl rfl rfl) ?_
 refine J.z (yl_assign rfl rfl) ?_
 refine J.nil (Ej.seq (Cj.ret (Ej.bare ?_)))
 refine Ej.ret1 rfl rfl rfl ?_
 exact ⟨(by rw [hwr]; rfl), rfl⟩

end Go.Proofs.YtnogdccoekfnoaaGreatDoor
