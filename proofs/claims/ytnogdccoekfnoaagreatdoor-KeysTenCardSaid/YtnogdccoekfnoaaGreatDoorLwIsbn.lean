/-
  The law KeysIsbn, walked. Own text, printed by a program. Conditions: none.
-/
import Derived.Test.YtnogdccoekfnoaaGreatDoorNu
import Derived.Test.YtnogdccoekfnoaaGreatDoorSn
namespace Go.Proofs.YtnogdccoekfnoaaGreatDoor
open Go Go.Sx
theorem numb_len (l : List UInt8) (hl : l.length = 12) (q0 q1 q2 q3 : UInt8) : (Ke.numb l q0 q1 q2 q3).length ≤ 100 := by
  rw [numb_eq rfl rfl]
  have h1 := sep_len (m := q1.toNat / 2 % 4)
  have h2 := tail_len (m := q3.toNat / 16 % 4)
  simp only [List.length_append, List.length_take, List.length_drop, List.length_cons, List.length_nil]
  have h3 : (if q0.toNat % 2 = 1 then (l.map Ke.dgt).take 9 else l.map Ke.dgt).length ≤ 12 := by split <;> simp <;> omega
  omega
set_option maxRecDepth 20000 in
theorem KeysIsbn_ok (l : List UInt8) (hl : l.length = 12) (q0 q1 q2 q3 : UInt8) (s : List UInt8) (hs : s.length ≤ 10000000) (I : Heap) : Pure Tryz.prog 9 [.agg (bcs l).toArray, .agg #[u8 q0, u8 q1, u8 q2, u8 q3], str s] I (.bool true) := by
 refine Ctr.toPure ?_
 have hnl := numb_len l hl q0 q1 q2 q3
 refine Ctr.of_body Tryz.func9 rfl (by decide) (Nat.le_of_ble_eq_true rfl) ?_
 intro w0 hw0
 refine Cj.seq (Cj.region (J.op rfl (op_box rfl rfl rfl rfl rfl ?_)))
 intro b1 hb1
 refine J.op rfl (op_box rfl rfl rfl rfl rfl ?_)
 intro b2 hb2
 refine J.z (yl_assign rfl rfl) ?_
 refine J.nil (Ej.seq (Cj.seq (Cj.region (J.op rfl (op_pure rfl rfl rfl rfl rfl (sanity_ok _) ?_)))))
 refine J.z (yl_assign rfl rfl) ?_
 refine J.nil (Ej.seq (Cj.seq (Cj.region (J.z (yl_loadAgg rfl rfl Tryz.isAgg40 Tryz.sizeOf40 (Blk.at 1 rfl) (show ((bcs l).drop 0).take 12 = bcs l by rw [List.drop_zero]; exact List.take_of_length_le (by rw [bcs_len]; omega)) (by rw [bcs_len]; exact hl)) ?_))))
 refine J.z (yl_loadAgg rfl rfl Tryz.isAgg41 Tryz.sizeOf41 (Blk.at 0 rfl) rfl rfl) ?_
 refine J.op rfl (op_pure rfl rfl rfl rfl rfl (Number_ok l hl q0 q1 q2 q3 _) ?_)
 refine J.z (yl_assign rfl rfl) ?_
 refine J.nil (Ej.seq (Cj.seq (Cj.region (J.z (yl_move rfl rfl) ?_))))
 refine J.op rfl (op_pure rfl rfl rfl rfl rfl (Isbn_ok (Ke.numb l q0 q1 q2 q3) (by omega) _) ?_)
 refine J.z (yl_move rfl rfl) ?_
 refine J.z (yl_extract rfl rfl rfl) ?_
 refine J.z (yl_extract rfl rfl rfl) ?_
 refine J.z (yl_assign rfl rfl) ?_
 refine J.z (yl_assign rfl rfl) ?_
 refine J.nil (Ej.seq (Cj.seq (Cj.region (J.z (yl_move rfl rfl) ?_))))
 refine J.op rfl (op_pure rfl rfl rfl rfl rfl (rIsbn_ok (Ke.numb l q0 q1 q2 q3) (by omega) _) ?_)
 refine J.z (yl_move rfl rfl) ?_
 refine J.z (yl_extract rfl rfl rfl) ?_
 refine J.z (yl_extract rfl rfl rfl) ?_
 refine J.z (yl_assign rfl rfl) ?_
 refine J.z (yl_assign rfl rfl) ?_
 refine J.nil (Ej.seq (Cj.seq (Cj.region (J.z (yl_move rfl rfl) ?_))))
 refine J.op rfl (op_pure rfl rfl rfl rfl rfl (Isbn_ok s (by omega) _) ?_)
 refine J.z (yl_move rfl rfl) ?_
 refine J.z (yl_extract rfl rfl rfl) ?_
 refine J.z (yl_extract rfl rfl rfl) ?_
 refine J.z (yl_assign rfl rfl) ?_
 refine J.z (yl_assign rfl rfl) ?_
 refine J.nil (Ej.seq (Cj.seq (Cj.region (J.z (yl_move rfl rfl) ?_))))
 refine J.op rfl (op_pure rfl rfl rfl rfl rfl (rIsbn_ok s (by omega) _) ?_)
 refine J.z (yl_move rfl rfl) ?_
 refine J.z (yl_extract rfl rfl rfl) ?_
 refine J.z (yl_extract rfl rfl rfl) ?_
 refine J.z (yl_assign rfl rfl) ?_
 refine J.z (yl_assign rfl rfl) ?_
 refine J.nil (Ej.seq (Cj.seq (Cj.region (J.z (yl_move rfl rfl) ?_))))
 refine J.z (yl_move rfl rfl) ?_
 refine J.opG 1 42 true _ rfl rfl rfl rfl (op_yld (yl_move rfl rfl) rfl rfl ?_)
 refine J.opG 1 42 true _ rfl rfl rfl rfl (op_yld (yl_move rfl rfl) rfl rfl ?_)
 refine J.opG 1 42 true _ rfl rfl rfl rfl (op_yld (yl_eqlStr rfl rfl rfl) rfl rfl ?_)
 refine J.z (yl_pick1 rfl rfl rfl rfl) ?_
 refine J.z (yl_move rfl rfl) ?_
 refine J.opG 6 47 true _ rfl rfl rfl (beq_self_eq_true _) (op_yld (yl_move rfl rfl) rfl rfl ?_)
 refine J.opG 6 47 true _ rfl rfl rfl (beq_self_eq_true _) (op_yld (yl_move rfl rfl) rfl rfl ?_)
 refine J.opG 6 47 true _ rfl rfl rfl (beq_self_eq_true _) (op_yld (yl_eqlBool rfl rfl rfl Tryz.underlying4) rfl rfl ?_)
 refine J.z (yl_pick1 rfl rfl (beq_self_eq_true _) rfl) ?_
 refine J.z (yl_move rfl rfl) ?_
 refine J.opG 11 52 true _ rfl rfl rfl (beq_self_eq_true _) (op_yld (yl_move rfl rfl) rfl rfl ?_)
 refine J.opG 11 52 true _ rfl rfl rfl (beq_self_eq_true _) (op_yld (yl_move rfl rfl) rfl rfl ?_)
 refine J.opG 11 52 true _ rfl rfl rfl (beq_self_eq_true _) (op_yld (yl_eqlStr rfl rfl rfl) rfl rfl ?_)
 refine J.z (yl_pick1 rfl rfl (beq_self_eq_true _) rfl) ?_
 refine J.z (yl_move rfl rfl) ?_
 refine J.opG 16 57 true _ rfl rfl rfl (beq_self_eq_true _) (op_yld (yl_move rfl rfl) rfl rfl ?_)
 refine J.opG 16 57 true _ rfl rfl rfl (beq_self_eq_true _) (op_yld (yl_move rfl rfl) rfl rfl ?_)
 refine J.opG 16 57 true _ rfl rfl rfl (beq_self_eq_true _) (op_yld (yl_eqlBool rfl rfl rfl Tryz.underlying4) rfl rfl ?_)
 refine J.z (yl_pick1 rfl rfl (beq_self_eq_true _) rfl) ?_
 refine J.z (yl_assign rfl rfl) ?_
 refine J.nil (Ej.seq (Cj.ret (Ej.bare ?_)))
 refine Ej.ret1 rfl rfl rfl ?_
 exact ⟨congrArg (fun b => Ending.returned (.bool b)) (beq_self_eq_true _), rfl⟩

end Go.Proofs.YtnogdccoekfnoaaGreatDoor
