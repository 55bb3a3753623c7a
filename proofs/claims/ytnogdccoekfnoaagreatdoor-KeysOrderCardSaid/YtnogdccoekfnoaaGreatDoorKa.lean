/-
  Contracts of the program's keys.between and keys.fold. Own text, printed by a program. Conditions: none.
-/
import Derived.Test.YtnogdccoekfnoaaGreatDoorKeMem
import Derived.Test.YtnogdccoekfnoaaGreatDoorChecked
namespace Go.Proofs.YtnogdccoekfnoaaGreatDoor
open Go Go.Sx
/-- The table of letters in the persistent part. -/
def Tab (I : Heap) (b : Nat) : Prop := I b = some (mobj (fun a : Int => Value.int .i32 a) (Ke.mtab Ke.tab) 207)
theorem Tab.mono {I I' : Heap} {b : Nat} (h : Tab I b) (hle : Le I I') : Tab I' b := hle _ _ h
theorem and_t {a b : Prop} [Decidable a] [Decidable b] (h : (decide a && decide b) = true) : a ∧ b := by simpa using h
theorem and_f {a b : Prop} [Decidable a] [Decidable b] (h : (decide a && decide b) = false) : ¬ (a ∧ b) := fun g => by simp [g.1, g.2] at h
set_option maxRecDepth 20000 in
theorem between_ok (c a b : Int) (I : Heap) : Pure Tryz.prog 88 [.int .i32 c, .int .i32 a, .int .i32 b] I (.bool (decide (a ≤ c) && decide (c ≤ b))) := by
 refine Ctr.of_body Tryz.func88 rfl (by decide) (Nat.le_of_ble_eq_true rfl) ?_
 intro w0 hw0
 refine Cj.seq (Cj.region (J.z (yl_assign rfl rfl) ?_))
 refine J.nil (Ej.seq (Cj.seq (Cj.region (J.z (yl_move rfl rfl) ?_))))
 refine J.z (yl_move rfl rfl) ?_
 refine J.z (yl_geq rfl rfl rfl) ?_
 refine J.z (yl_move rfl rfl) ?_
 refine J.split 10 rfl (fun hg1 => ?_) (fun hg1 => ?_)
 ·
  refine J.opG 3 10 true _ rfl rfl rfl hg1 (op_yld (yl_move rfl rfl) rfl rfl ?_)
  refine J.opG 3 10 true _ rfl rfl rfl hg1 (op_yld (yl_move rfl rfl) rfl rfl ?_)
  refine J.opG 3 10 true _ rfl rfl rfl hg1 (op_yld (yl_leq rfl rfl rfl) rfl rfl ?_)
  refine J.z (yl_pick1 rfl rfl hg1 rfl) ?_
  refine J.z (yl_assign rfl rfl) ?_
  refine J.nil (Ej.seq (Cj.ret (Ej.ret1 rfl rfl rfl ?_)))
  refine ⟨?_, rfl, rfl⟩
  have h := hg1
  first | (simp_all; done) | (simp_all; omega)
 ·
  refine J.skip 3 10 11 true _ rfl rfl rfl hg1 rfl rfl ?_
  refine J.skip 3 10 12 true _ rfl rfl rfl hg1 rfl rfl ?_
  refine J.skip 3 10 13 true _ rfl rfl rfl hg1 rfl rfl ?_
  refine J.z (yl_pick0 rfl rfl hg1 rfl) ?_
  refine J.z (yl_assign rfl rfl) ?_
  refine J.nil (Ej.seq (Cj.ret (Ej.ret1 rfl rfl rfl ?_)))
  refine ⟨?_, rfl, rfl⟩
  have h := hg1
  first | (simp_all; done) | (simp_all; omega)

set_option maxRecDepth 20000 in
set_option maxHeartbeats 1000000 in
theorem fold_ok (c b : Nat) (hc : c ≤ 1114111) (I : Heap) (hT : Tab I b) : Pure Tryz.prog 63 [.int .i32 (c : Int), .map (some b)] I (str (Ke.char c)) := by
 have hm : mget (Ke.mtab Ke.tab) (c : Int) = (Ke.tab.lookup c).map str := Ke.mget_tab _ 0 c
 refine Ctr.of_body Tryz.func63 rfl (by decide) (Nat.le_of_ble_eq_true rfl) ?_
 intro w0 hw0
 refine Cj.seq (Cj.region (J.z (yl_assign rfl rfl) ?_))
 refine J.nil (Ej.seq (Cj.seq (Cj.block (Cj.seq (Cj.seq (Cj.region (J.z (yl_move rfl rfl) ?_)))))))
 refine J.op rfl (op_pure rfl rfl rfl rfl rfl (between_ok _ _ _ _) ?_)
 refine J.z (yl_assign rfl rfl) ?_
 refine J.nil (Ej.seq (Cj.cond rfl (fun hc1 => ?_) (fun hc1 => ?_)))
 ·
  have c7x1 := and_t hc1
  refine Cj.skip (Ej.seq (Cj.cond rfl (fun hc2 => ?_) (fun hc2 => Bool.noConfusion (Eq.trans (Eq.symm hc1) hc2))))
  refine Cj.seq (Cj.region (J.z (yl_move rfl rfl) ?_))
  refine J.z (yl_runeStr rfl rfl Tryz.underlying21 Tryz.underlying9) ?_
  refine J.z (yl_assign rfl rfl) ?_
  refine J.nil (Ej.seq (Cj.ret (Ej.blkRet (Ej.seqRet (Ej.ret1 rfl rfl rfl ?_)))))
  refine ⟨?_, rfl, rfl⟩
  refine congrArg (fun l => Ending.returned (str l)) ?_
  unfold Ke.char
  rw [if_pos (by omega)]; exact Ke.enc_encode (by unfold Ke.okc; omega)
 ·
  have c7x2 := and_f hc1
  refine Cj.region (J.z (yl_move rfl rfl) ?_)
  refine J.op rfl (op_pure rfl rfl rfl rfl rfl (between_ok _ _ _ _) ?_)
  refine J.z (yl_assign rfl rfl) ?_
  refine J.nil (Ej.seq (Cj.cond rfl (fun hc3 => ?_) (fun hc3 => ?_)))
  ·
   have c7x3 := and_t hc3
   refine Cj.seq (Cj.region (J.z (yl_move rfl rfl) ?_))
   refine J.z (yl_runeStr rfl rfl Tryz.underlying21 Tryz.underlying9) ?_
   refine J.z (yl_assign rfl rfl) ?_
   refine J.nil (Ej.seq (Cj.ret (Ej.blkRet (Ej.seqRet (Ej.ret1 rfl rfl rfl ?_)))))
   refine ⟨?_, rfl, rfl⟩
   refine congrArg (fun l => Ending.returned (str l)) ?_
   unfold Ke.char
   rw [if_pos (by omega)]; exact Ke.enc_encode (by unfold Ke.okc; omega)
  ·
   have c7x4 := and_f hc3
   refine Cj.seq (Cj.region (J.z (yl_move rfl rfl) ?_))
   refine J.op rfl (op_pure rfl rfl rfl rfl rfl (between_ok _ _ _ _) ?_)
   refine J.z (yl_assign rfl rfl) ?_
   refine J.nil (Ej.seq (Cj.cond rfl (fun hc4 => ?_) (fun hc4 => ?_)))
   ·
    have c14x5 := and_t hc4
    refine Cj.seq (Cj.region (J.z (yl_move rfl rfl) ?_))
    refine J.z (yl_add rfl rfl rfl (i32w (by omega))) ?_
    refine J.z (yl_runeStr rfl rfl Tryz.underlying21 Tryz.underlying9) ?_
    refine J.z (yl_assign rfl rfl) ?_
    refine J.nil (Ej.seq (Cj.ret (Ej.blkRet (Ej.seqRet (Ej.ret1 rfl rfl rfl ?_)))))
    refine ⟨?_, rfl, rfl⟩
    refine congrArg (fun l => Ending.returned (str l)) ?_
    unfold Ke.char
    rw [if_neg (by omega), if_pos (by omega)]; exact (congrArg (fun n : Int => (Utf8.encode n).data.toList) (by omega)).trans (Ke.enc_encode (c := c + 32) (by unfold Ke.okc; omega))
   ·
    have c14x6 := and_f hc4
    refine Cj.seq (Cj.region (J.z (yl_move rfl rfl) ?_))
    refine J.z (yl_lss rfl rfl rfl) ?_
    refine J.z (yl_assign rfl rfl) ?_
    refine J.nil (Ej.seq (Cj.cond rfl (fun hc5 => ?_) (fun hc5 => ?_)))
    ·
     have hc5p := of_decide_eq_true hc5
     have c20x7 := of_decide_eq_true hc5
     refine Cj.seq (Cj.region (J.z (yl_assign rfl rfl) ?_))
     refine J.nil (Ej.seq (Cj.ret (Ej.blkRet (Ej.seqRet (Ej.ret1 rfl rfl rfl ?_)))))
     refine ⟨?_, rfl, rfl⟩
     refine congrArg (fun l => Ending.returned (str l)) ?_
     unfold Ke.char
     rw [if_neg (by omega), if_neg (by omega), if_pos (by omega)]
    ·
     have hc5p := of_decide_eq_false hc5
     have c20x8 := of_decide_eq_false hc5
     refine Cj.seq (Cj.seq (Cj.region (J.z (yl_move rfl rfl) ?_)))
     refine J.op rfl (op_pure rfl rfl rfl rfl rfl (between_ok _ _ _ _) ?_)
     refine J.z (yl_assign rfl rfl) ?_
     refine J.nil (Ej.seq (Cj.cond rfl (fun hc6 => ?_) (fun hc6 => ?_)))
     ·
      have c23x9 := and_t hc6
      refine Cj.skip (Ej.seq (Cj.cond rfl (fun hc7 => ?_) (fun hc7 => Bool.noConfusion (Eq.trans (Eq.symm hc6) hc7))))
      refine Cj.seq (Cj.region (J.z (yl_assign rfl rfl) ?_))
      refine J.nil (Ej.seq (Cj.ret (Ej.blkRet (Ej.seqRet (Ej.ret1 rfl rfl rfl ?_)))))
      refine ⟨?_, rfl, rfl⟩
      refine congrArg (fun l => Ending.returned (str l)) ?_
      unfold Ke.char
      rw [if_neg (by omega), if_neg (by omega), if_neg (by omega), if_pos (by omega)]
     ·
      have c23x10 := and_f hc6
      refine Cj.region (J.z (yl_move rfl rfl) ?_)
      refine J.op rfl (op_pure rfl rfl rfl rfl rfl (between_ok _ _ _ _) ?_)
      refine J.z (yl_assign rfl rfl) ?_
      refine J.nil (Ej.seq (Cj.cond rfl (fun hc8 => ?_) (fun hc8 => ?_)))
      ·
       have c23x11 := and_t hc8
       refine Cj.seq (Cj.region (J.z (yl_assign rfl rfl) ?_))
       refine J.nil (Ej.seq (Cj.ret (Ej.blkRet (Ej.seqRet (Ej.ret1 rfl rfl rfl ?_)))))
       refine ⟨?_, rfl, rfl⟩
       refine congrArg (fun l => Ending.returned (str l)) ?_
       unfold Ke.char
       rw [if_neg (by omega), if_neg (by omega), if_neg (by omega), if_pos (by omega)]
      ·
       have c23x12 := and_f hc8
       refine Cj.skip (Ej.blkNormal (Ej.seq (Cj.seq (Cj.seq (Cj.region (J.z (yl_move rfl rfl) ?_))))))
       refine J.z (yl_move rfl rfl) ?_
       refine J.z (yl_lookup2 (kv := fun a : Int => Value.int .i32 a) (l := Ke.mtab Ke.tab) (a := (c : Int)) rfl rfl rfl rfl Tryz.underlying97 (KeyK.int Tryz.underlying21) Tryz.zeroValue9 (Blk.imm hT)) ?_
       refine J.z (yl_move rfl rfl) ?_
       refine J.z (yl_extract rfl rfl rfl) ?_
       refine J.z (yl_extract rfl rfl rfl) ?_
       refine J.z (yl_assign rfl rfl) ?_
       refine J.z (yl_assign rfl rfl) ?_
       refine J.nil (Ej.seq (Cj.seq (Cj.region (J.z (yl_move rfl rfl) ?_))))
       refine J.nil (Ej.seq (Cj.cond rfl (fun hc9 => ?_) (fun hc9 => ?_)))
       ·
        obtain ⟨x, hx⟩ := Option.isSome_iff_exists.1 (show (Ke.tab.lookup c).isSome = true by have h := hc9; rw [hm] at h; simpa using h)
        refine Cj.eqv 5 rfl (show _ = str x from (by rw [hm, hx]; rfl)) ?_
        refine Cj.seq (Cj.region (J.z (yl_move rfl rfl) ?_))
        refine J.z (yl_assign rfl rfl) ?_
        refine J.nil (Ej.seq (Cj.ret (Ej.seqRet (Ej.ret1 rfl rfl rfl ?_))))
        refine ⟨?_, rfl, rfl⟩
        refine congrArg (fun l => Ending.returned (str l)) ?_
        unfold Ke.char
        rw [if_neg (by omega), if_neg (by omega), if_neg (by omega), if_neg (by omega), hx]
       ·
        have hx : Ke.tab.lookup c = none := by have h := hc9; rw [hm] at h; simpa using h
        refine Cj.skip (Ej.seq (Cj.seq (Cj.block (Cj.seq (Cj.region (J.z (yl_move rfl rfl) ?_))))))
        refine J.z (yl_eql rfl rfl rfl) ?_
        refine J.z (yl_assign rfl rfl) ?_
        refine J.nil (Ej.seq (Cj.cond rfl (fun hc10 => ?_) (fun hc10 => ?_)))
        ·
         have hc10p := eq_of_beq hc10
         have c36x13 := eq_of_beq hc10
         refine Cj.seq (Cj.region (J.z (yl_assign rfl rfl) ?_))
         refine J.nil (Ej.seq (Cj.ret (Ej.blkRet (Ej.seqRet (Ej.ret1 rfl rfl rfl ?_)))))
         refine ⟨?_, rfl, rfl⟩
         refine congrArg (fun l => Ending.returned (str l)) ?_
         unfold Ke.char
         rw [if_neg (by omega), if_neg (by omega), if_neg (by omega), if_neg (by omega), hx]
         simp only
         rw [if_pos (by omega)]; rfl
        ·
         have hc10p := ne_of_beq_false hc10
         have c36x14 := ne_of_beq_false hc10
         refine Cj.seq (Cj.seq (Cj.region (J.z (yl_move rfl rfl) ?_)))
         refine J.op rfl (op_pure rfl rfl rfl rfl rfl (between_ok _ _ _ _) ?_)
         refine J.z (yl_assign rfl rfl) ?_
         refine J.nil (Ej.seq (Cj.cond rfl (fun hc11 => ?_) (fun hc11 => ?_)))
         ·
          have c39x15 := and_t hc11
          refine Cj.skip (Ej.seq (Cj.cond rfl (fun hc12 => ?_) (fun hc12 => Bool.noConfusion (Eq.trans (Eq.symm hc11) hc12))))
          refine Cj.seq (Cj.region (J.z (yl_move rfl rfl) ?_))
          refine J.z (yl_runeStr rfl rfl Tryz.underlying21 Tryz.underlying9) ?_
          refine J.z (yl_assign rfl rfl) ?_
          refine J.nil (Ej.seq (Cj.ret (Ej.blkRet (Ej.seqRet (Ej.ret1 rfl rfl rfl ?_)))))
          refine ⟨?_, rfl, rfl⟩
          refine congrArg (fun l => Ending.returned (str l)) ?_
          unfold Ke.char
          rw [if_neg (by omega), if_neg (by omega), if_neg (by omega), if_neg (by omega), hx]
          simp only
          rw [if_neg (by omega), if_pos (by omega)]; exact Ke.enc_encode (by unfold Ke.okc; omega)
         ·
          have c39x16 := and_f hc11
          refine Cj.region (J.z (yl_move rfl rfl) ?_)
          refine J.op rfl (op_pure rfl rfl rfl rfl rfl (between_ok _ _ _ _) ?_)
          refine J.z (yl_assign rfl rfl) ?_
          refine J.nil (Ej.seq (Cj.cond rfl (fun hc13 => ?_) (fun hc13 => ?_)))
          ·
           have c39x17 := and_t hc13
           refine Cj.seq (Cj.region (J.z (yl_move rfl rfl) ?_))
           refine J.z (yl_runeStr rfl rfl Tryz.underlying21 Tryz.underlying9) ?_
           refine J.z (yl_assign rfl rfl) ?_
           refine J.nil (Ej.seq (Cj.ret (Ej.blkRet (Ej.seqRet (Ej.ret1 rfl rfl rfl ?_)))))
           refine ⟨?_, rfl, rfl⟩
           refine congrArg (fun l => Ending.returned (str l)) ?_
           unfold Ke.char
           rw [if_neg (by omega), if_neg (by omega), if_neg (by omega), if_neg (by omega), hx]
           simp only
           rw [if_neg (by omega), if_pos (by omega)]; exact Ke.enc_encode (by unfold Ke.okc; omega)
          ·
           have c39x18 := and_f hc13
           refine Cj.seq (Cj.seq (Cj.region (J.z (yl_move rfl rfl) ?_)))
           refine J.op rfl (op_pure rfl rfl rfl rfl rfl (between_ok _ _ _ _) ?_)
           refine J.z (yl_move rfl rfl) ?_
           refine J.split 49 rfl (fun hg14 => ?_) (fun hg14 => ?_)
           ·
            have c49x19 := and_t hg14
            refine J.opG 2 49 true _ rfl rfl rfl hg14 (op_yld (yl_move rfl rfl) rfl rfl ?_)
            refine J.opG 2 49 true _ rfl rfl rfl hg14 (op_yld (yl_neq rfl rfl rfl) rfl rfl ?_)
            refine J.z (yl_pick1 rfl rfl hg14 rfl) ?_
            refine J.z (yl_assign rfl rfl) ?_
            refine J.nil (Ej.seq (Cj.cond rfl (fun hc15 => ?_) (fun hc15 => ?_)))
            ·
             have hc15p := bne_iff_ne.1 hc15
             have c46x20 : (c : Int) ≠ 930 := by have h := hc15; simpa using h
             refine Cj.skip (Ej.seq (Cj.cond rfl (fun hc16 => ?_) (fun hc16 => Bool.noConfusion (Eq.trans (Eq.symm hc15) hc16))))
             refine Cj.seq (Cj.region (J.z (yl_move rfl rfl) ?_))
             refine J.z (yl_add rfl rfl rfl (i32w (by omega))) ?_
             refine J.z (yl_runeStr rfl rfl Tryz.underlying21 Tryz.underlying9) ?_
             refine J.z (yl_assign rfl rfl) ?_
             refine J.nil (Ej.seq (Cj.ret (Ej.blkRet (Ej.seqRet (Ej.ret1 rfl rfl rfl ?_)))))
             refine ⟨?_, rfl, rfl⟩
             refine congrArg (fun l => Ending.returned (str l)) ?_
             unfold Ke.char
             rw [if_neg (by omega), if_neg (by omega), if_neg (by omega), if_neg (by omega), hx]
             simp only
             rw [if_neg (by omega), if_neg (by omega), if_pos (by omega)]; exact (congrArg (fun n : Int => (Utf8.encode n).data.toList) (by omega)).trans (Ke.enc_encode (c := c + 32) (by unfold Ke.okc; omega))
            ·
             have hc15p := bne_f hc15
             have c46x21 : ¬ (c : Int) ≠ 930 := by have h := hc15; simpa using h
             refine Cj.region (J.z (yl_move rfl rfl) ?_)
             refine J.op rfl (op_pure rfl rfl rfl rfl rfl (between_ok _ _ _ _) ?_)
             refine J.z (yl_assign rfl rfl) ?_
             refine J.nil (Ej.seq (Cj.cond rfl (fun hc17 => ?_) (fun hc17 => ?_)))
             ·
              have c46x22 := and_t hc17
              refine Cj.seq (Cj.region (J.z (yl_move rfl rfl) ?_))
              refine J.z (yl_add rfl rfl rfl (i32w (by omega))) ?_
              refine J.z (yl_runeStr rfl rfl Tryz.underlying21 Tryz.underlying9) ?_
              refine J.z (yl_assign rfl rfl) ?_
              refine J.nil (Ej.seq (Cj.ret (Ej.blkRet (Ej.seqRet (Ej.ret1 rfl rfl rfl ?_)))))
              refine ⟨?_, rfl, rfl⟩
              refine congrArg (fun l => Ending.returned (str l)) ?_
              unfold Ke.char
              rw [if_neg (by omega), if_neg (by omega), if_neg (by omega), if_neg (by omega), hx]
              simp only
              rw [if_neg (by omega), if_neg (by omega), if_pos (by omega)]; exact (congrArg (fun n : Int => (Utf8.encode n).data.toList) (by omega)).trans (Ke.enc_encode (c := c + 32) (by unfold Ke.okc; omega))
             ·
              have c46x23 := and_f hc17
              refine Cj.skip (Ej.blkNormal (Ej.seq (Cj.seq (Cj.region (J.z (yl_assign rfl rfl) ?_)))))
              refine J.nil (Ej.seq (Cj.ret (Ej.ret1 rfl rfl rfl ?_)))
              refine ⟨?_, rfl, rfl⟩
              refine congrArg (fun l => Ending.returned (str l)) ?_
              unfold Ke.char
              rw [if_neg (by omega), if_neg (by omega), if_neg (by omega), if_neg (by omega), hx]
              simp only
              rw [if_neg (by omega), if_neg (by omega), if_neg (by omega)]
           ·
            have c49x24 := and_f hg14
            refine J.skip 2 49 50 true _ rfl rfl rfl hg14 rfl rfl ?_
            refine J.skip 2 49 51 true _ rfl rfl rfl hg14 rfl rfl ?_
            refine J.z (yl_pick0 rfl rfl hg14 rfl) ?_
            refine J.z (yl_assign rfl rfl) ?_
            refine J.nil (Ej.seq (Cj.cond rfl (fun hc18 => Bool.noConfusion (Eq.trans (Eq.symm rfl) hc18)) (fun hc18 => ?_)))
            refine Cj.region (J.z (yl_move rfl rfl) ?_)
            refine J.op rfl (op_pure rfl rfl rfl rfl rfl (between_ok _ _ _ _) ?_)
            refine J.z (yl_assign rfl rfl) ?_
            refine J.nil (Ej.seq (Cj.cond rfl (fun hc19 => ?_) (fun hc19 => ?_)))
            ·
             have c46x25 := and_t hc19
             refine Cj.seq (Cj.region (J.z (yl_move rfl rfl) ?_))
             refine J.z (yl_add rfl rfl rfl (i32w (by omega))) ?_
             refine J.z (yl_runeStr rfl rfl Tryz.underlying21 Tryz.underlying9) ?_
             refine J.z (yl_assign rfl rfl) ?_
             refine J.nil (Ej.seq (Cj.ret (Ej.blkRet (Ej.seqRet (Ej.ret1 rfl rfl rfl ?_)))))
             refine ⟨?_, rfl, rfl⟩
             refine congrArg (fun l => Ending.returned (str l)) ?_
             unfold Ke.char
             rw [if_neg (by omega), if_neg (by omega), if_neg (by omega), if_neg (by omega), hx]
             simp only
             rw [if_neg (by omega), if_neg (by omega), if_pos (by omega)]; exact (congrArg (fun n : Int => (Utf8.encode n).data.toList) (by omega)).trans (Ke.enc_encode (c := c + 32) (by unfold Ke.okc; omega))
            ·
             have c46x26 := and_f hc19
             refine Cj.skip (Ej.blkNormal (Ej.seq (Cj.seq (Cj.region (J.z (yl_assign rfl rfl) ?_)))))
             refine J.nil (Ej.seq (Cj.ret (Ej.ret1 rfl rfl rfl ?_)))
             refine ⟨?_, rfl, rfl⟩
             refine congrArg (fun l => Ending.returned (str l)) ?_
             unfold Ke.char
             rw [if_neg (by omega), if_neg (by omega), if_neg (by omega), if_neg (by omega), hx]
             simp only
             rw [if_neg (by omega), if_neg (by omega), if_neg (by omega)]

end Go.Proofs.YtnogdccoekfnoaaGreatDoor
