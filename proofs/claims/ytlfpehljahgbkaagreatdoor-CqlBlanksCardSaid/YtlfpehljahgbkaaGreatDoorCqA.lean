/-
  Contracts of functions of the program's chapter 11 and of its reference. Own text, printed by a program (wip/tools/walk.py). Conditions: none.
-/
import Derived.Test.YtlfpehljahgbkaaGreatDoorProg
import Derived.Test.YtlfpehljahgbkaaGreatDoorSx
import Derived.Test.YtlfpehljahgbkaaGreatDoorCqLaws
namespace Go.Proofs.YtlfpehljahgbkaaGreatDoor
open Go Go.Sx
set_option maxRecDepth 20000 in
theorem blank_ok (c : UInt8) (I : Heap) : Pure Tryz.prog 39 [u8 c] I (.bool (Cq.blank c)) := by
  refine Ctr.of_body Tryz.func39 rfl (by decide) (Nat.le_of_ble_eq_true rfl) ?_
  intro w0 hw0
  refine Cj.seq ?_
  refine Cj.region ?_
  refine J.y (yl_assign rfl rfl) rfl rfl rfl ?_
  refine J.nil ?_
  refine Ej.seq ?_
  refine Cj.seq ?_
  refine Cj.region ?_
  refine J.y (yl_move rfl rfl) rfl rfl rfl ?_
  refine J.y (yl_eql rfl rfl rfl) rfl rfl rfl ?_
  refine J.y (yl_move rfl rfl) rfl rfl rfl ?_
  refine J.split 5 rfl (fun hg1 => ?_) (fun hg1 => ?_)
  ·
    refine J.skip 2 5 6 false _ rfl rfl rfl hg1 rfl rfl ?_
    refine J.skip 2 5 7 false _ rfl rfl rfl hg1 rfl rfl ?_
    refine J.y (yl_pick1 rfl rfl hg1 rfl) rfl rfl rfl ?_
    refine J.y (yl_move rfl rfl) rfl rfl rfl ?_
    refine J.skip 6 9 10 false _ rfl rfl rfl rfl rfl rfl ?_
    refine J.skip 6 9 11 false _ rfl rfl rfl rfl rfl rfl ?_
    refine J.y (yl_pick1 rfl rfl rfl rfl) rfl rfl rfl ?_
    refine J.y (yl_move rfl rfl) rfl rfl rfl ?_
    refine J.skip 10 13 14 false _ rfl rfl rfl rfl rfl rfl ?_
    refine J.skip 10 13 15 false _ rfl rfl rfl rfl rfl rfl ?_
    refine J.y (yl_pick1 rfl rfl rfl rfl) rfl rfl rfl ?_
    refine J.y (yl_assign rfl rfl) rfl rfl rfl ?_
    refine J.nil ?_
    refine Ej.seq ?_
    refine Cj.ret ?_
    refine Ej.ret1 rfl rfl rfl ?_
    refine ⟨?_, rfl, rfl⟩; simp_all [Cq.blank]
  ·
    refine J.opG 2 5 false _ rfl rfl rfl hg1 (op_yld (yl_move rfl rfl) rfl rfl ?_)
    refine J.opG 2 5 false _ rfl rfl rfl hg1 (op_yld (yl_eql rfl rfl rfl) rfl rfl ?_)
    refine J.y (yl_pick0 rfl rfl hg1 rfl) rfl rfl rfl ?_
    refine J.y (yl_move rfl rfl) rfl rfl rfl ?_
    refine J.split 9 rfl (fun hg2 => ?_) (fun hg2 => ?_)
    ·
      refine J.skip 6 9 10 false _ rfl rfl rfl hg2 rfl rfl ?_
      refine J.skip 6 9 11 false _ rfl rfl rfl hg2 rfl rfl ?_
      refine J.y (yl_pick1 rfl rfl hg2 rfl) rfl rfl rfl ?_
      refine J.y (yl_move rfl rfl) rfl rfl rfl ?_
      refine J.skip 10 13 14 false _ rfl rfl rfl rfl rfl rfl ?_
      refine J.skip 10 13 15 false _ rfl rfl rfl rfl rfl rfl ?_
      refine J.y (yl_pick1 rfl rfl rfl rfl) rfl rfl rfl ?_
      refine J.y (yl_assign rfl rfl) rfl rfl rfl ?_
      refine J.nil ?_
      refine Ej.seq ?_
      refine Cj.ret ?_
      refine Ej.ret1 rfl rfl rfl ?_
      refine ⟨?_, rfl, rfl⟩; simp_all [Cq.blank]
    ·
      refine J.opG 6 9 false _ rfl rfl rfl hg2 (op_yld (yl_move rfl rfl) rfl rfl ?_)
      refine J.opG 6 9 false _ rfl rfl rfl hg2 (op_yld (yl_eql rfl rfl rfl) rfl rfl ?_)
      refine J.y (yl_pick0 rfl rfl hg2 rfl) rfl rfl rfl ?_
      refine J.y (yl_move rfl rfl) rfl rfl rfl ?_
      refine J.split 13 rfl (fun hg3 => ?_) (fun hg3 => ?_)
      ·
        refine J.skip 10 13 14 false _ rfl rfl rfl hg3 rfl rfl ?_
        refine J.skip 10 13 15 false _ rfl rfl rfl hg3 rfl rfl ?_
        refine J.y (yl_pick1 rfl rfl hg3 rfl) rfl rfl rfl ?_
        refine J.y (yl_assign rfl rfl) rfl rfl rfl ?_
        refine J.nil ?_
        refine Ej.seq ?_
        refine Cj.ret ?_
        refine Ej.ret1 rfl rfl rfl ?_
        refine ⟨?_, rfl, rfl⟩; simp_all [Cq.blank]
      ·
        refine J.opG 10 13 false _ rfl rfl rfl hg3 (op_yld (yl_move rfl rfl) rfl rfl ?_)
        refine J.opG 10 13 false _ rfl rfl rfl hg3 (op_yld (yl_eql rfl rfl rfl) rfl rfl ?_)
        refine J.y (yl_pick0 rfl rfl hg3 rfl) rfl rfl rfl ?_
        refine J.y (yl_assign rfl rfl) rfl rfl rfl ?_
        refine J.nil ?_
        refine Ej.seq ?_
        refine Cj.ret ?_
        refine Ej.ret1 rfl rfl rfl ?_
        refine ⟨?_, rfl, rfl⟩; simp_all [Cq.blank]

set_option maxRecDepth 20000 in
theorem plain_ok (c : UInt8) (I : Heap) : Pure Tryz.prog 40 [u8 c] I (.bool (Cq.plain c)) := by
  refine Ctr.of_body Tryz.func40 rfl (by decide) (Nat.le_of_ble_eq_true rfl) ?_
  intro w0 hw0
  refine Cj.seq ?_
  refine Cj.region ?_
  refine J.y (yl_assign rfl rfl) rfl rfl rfl ?_
  refine J.nil ?_
  refine Ej.seq ?_
  refine Cj.seq ?_
  refine Cj.region ?_
  refine J.y (yl_move rfl rfl) rfl rfl rfl ?_
  refine J.op rfl (op_pure rfl rfl rfl rfl rfl (blank_ok _ _) ?_)
  refine J.y (yl_assign rfl rfl) rfl rfl rfl ?_
  refine J.nil ?_
  refine Ej.seq ?_
  refine Cj.seq ?_
  refine Cj.region ?_
  refine J.y (yl_move rfl rfl) rfl rfl rfl ?_
  refine J.y (yl_not rfl rfl) rfl rfl rfl ?_
  refine J.y (yl_move rfl rfl) rfl rfl rfl ?_
  refine J.split 8 rfl (fun hg1 => ?_) (fun hg1 => ?_)
  ·
    refine J.opG 2 8 true _ rfl rfl rfl hg1 (op_yld (yl_move rfl rfl) rfl rfl ?_)
    refine J.opG 2 8 true _ rfl rfl rfl hg1 (op_yld (yl_neq rfl rfl rfl) rfl rfl ?_)
    refine J.y (yl_pick1 rfl rfl hg1 rfl) rfl rfl rfl ?_
    refine J.y (yl_move rfl rfl) rfl rfl rfl ?_
    refine J.split 12 rfl (fun hg2 => ?_) (fun hg2 => ?_)
    ·
      refine J.opG 6 12 true _ rfl rfl rfl hg2 (op_yld (yl_move rfl rfl) rfl rfl ?_)
      refine J.opG 6 12 true _ rfl rfl rfl hg2 (op_yld (yl_neq rfl rfl rfl) rfl rfl ?_)
      refine J.y (yl_pick1 rfl rfl hg2 rfl) rfl rfl rfl ?_
      refine J.y (yl_move rfl rfl) rfl rfl rfl ?_
      refine J.split 16 rfl (fun hg3 => ?_) (fun hg3 => ?_)
      ·
        refine J.opG 10 16 true _ rfl rfl rfl hg3 (op_yld (yl_move rfl rfl) rfl rfl ?_)
        refine J.opG 10 16 true _ rfl rfl rfl hg3 (op_yld (yl_neq rfl rfl rfl) rfl rfl ?_)
        refine J.y (yl_pick1 rfl rfl hg3 rfl) rfl rfl rfl ?_
        refine J.y (yl_move rfl rfl) rfl rfl rfl ?_
        refine J.split 20 rfl (fun hg4 => ?_) (fun hg4 => ?_)
        ·
          refine J.opG 14 20 true _ rfl rfl rfl hg4 (op_yld (yl_move rfl rfl) rfl rfl ?_)
          refine J.opG 14 20 true _ rfl rfl rfl hg4 (op_yld (yl_neq rfl rfl rfl) rfl rfl ?_)
          refine J.y (yl_pick1 rfl rfl hg4 rfl) rfl rfl rfl ?_
          refine J.y (yl_move rfl rfl) rfl rfl rfl ?_
          refine J.split 24 rfl (fun hg5 => ?_) (fun hg5 => ?_)
          ·
            refine J.opG 18 24 true _ rfl rfl rfl hg5 (op_yld (yl_move rfl rfl) rfl rfl ?_)
            refine J.opG 18 24 true _ rfl rfl rfl hg5 (op_yld (yl_neq rfl rfl rfl) rfl rfl ?_)
            refine J.y (yl_pick1 rfl rfl hg5 rfl) rfl rfl rfl ?_
            refine J.y (yl_move rfl rfl) rfl rfl rfl ?_
            refine J.split 28 rfl (fun hg6 => ?_) (fun hg6 => ?_)
            ·
              refine J.opG 22 28 true _ rfl rfl rfl hg6 (op_yld (yl_move rfl rfl) rfl rfl ?_)
              refine J.opG 22 28 true _ rfl rfl rfl hg6 (op_yld (yl_neq rfl rfl rfl) rfl rfl ?_)
              refine J.y (yl_pick1 rfl rfl hg6 rfl) rfl rfl rfl ?_
              refine J.y (yl_assign rfl rfl) rfl rfl rfl ?_
              refine J.nil ?_
              refine Ej.seq ?_
              refine Cj.ret ?_
              refine Ej.ret1 rfl rfl rfl ?_
              refine ⟨?_, rfl, rfl⟩; simp_all [Cq.blank, Cq.plain]
            ·
              refine J.skip 22 28 29 true _ rfl rfl rfl hg6 rfl rfl ?_
              refine J.skip 22 28 30 true _ rfl rfl rfl hg6 rfl rfl ?_
              refine J.y (yl_pick0 rfl rfl hg6 rfl) rfl rfl rfl ?_
              refine J.y (yl_assign rfl rfl) rfl rfl rfl ?_
              refine J.nil ?_
              refine Ej.seq ?_
              refine Cj.ret ?_
              refine Ej.ret1 rfl rfl rfl ?_
              refine ⟨?_, rfl, rfl⟩; simp_all [Cq.blank, Cq.plain]
          ·
            refine J.skip 18 24 25 true _ rfl rfl rfl hg5 rfl rfl ?_
            refine J.skip 18 24 26 true _ rfl rfl rfl hg5 rfl rfl ?_
            refine J.y (yl_pick0 rfl rfl hg5 rfl) rfl rfl rfl ?_
            refine J.y (yl_move rfl rfl) rfl rfl rfl ?_
            refine J.skip 22 28 29 true _ rfl rfl rfl rfl rfl rfl ?_
            refine J.skip 22 28 30 true _ rfl rfl rfl rfl rfl rfl ?_
            refine J.y (yl_pick0 rfl rfl rfl rfl) rfl rfl rfl ?_
            refine J.y (yl_assign rfl rfl) rfl rfl rfl ?_
            refine J.nil ?_
            refine Ej.seq ?_
            refine Cj.ret ?_
            refine Ej.ret1 rfl rfl rfl ?_
            refine ⟨?_, rfl, rfl⟩; simp_all [Cq.blank, Cq.plain]
        ·
          refine J.skip 14 20 21 true _ rfl rfl rfl hg4 rfl rfl ?_
          refine J.skip 14 20 22 true _ rfl rfl rfl hg4 rfl rfl ?_
          refine J.y (yl_pick0 rfl rfl hg4 rfl) rfl rfl rfl ?_
          refine J.y (yl_move rfl rfl) rfl rfl rfl ?_
          refine J.skip 18 24 25 true _ rfl rfl rfl rfl rfl rfl ?_
          refine J.skip 18 24 26 true _ rfl rfl rfl rfl rfl rfl ?_
          refine J.y (yl_pick0 rfl rfl rfl rfl) rfl rfl rfl ?_
          refine J.y (yl_move rfl rfl) rfl rfl rfl ?_
          refine J.skip 22 28 29 true _ rfl rfl rfl rfl rfl rfl ?_
          refine J.skip 22 28 30 true _ rfl rfl rfl rfl rfl rfl ?_
          refine J.y (yl_pick0 rfl rfl rfl rfl) rfl rfl rfl ?_
          refine J.y (yl_assign rfl rfl) rfl rfl rfl ?_
          refine J.nil ?_
          refine Ej.seq ?_
          refine Cj.ret ?_
          refine Ej.ret1 rfl rfl rfl ?_
          refine ⟨?_, rfl, rfl⟩; simp_all [Cq.blank, Cq.plain]
      ·
        refine J.skip 10 16 17 true _ rfl rfl rfl hg3 rfl rfl ?_
        refine J.skip 10 16 18 true _ rfl rfl rfl hg3 rfl rfl ?_
        refine J.y (yl_pick0 rfl rfl hg3 rfl) rfl rfl rfl ?_
        refine J.y (yl_move rfl rfl) rfl rfl rfl ?_
        refine J.skip 14 20 21 true _ rfl rfl rfl rfl rfl rfl ?_
        refine J.skip 14 20 22 true _ rfl rfl rfl rfl rfl rfl ?_
        refine J.y (yl_pick0 rfl rfl rfl rfl) rfl rfl rfl ?_
        refine J.y (yl_move rfl rfl) rfl rfl rfl ?_
        refine J.skip 18 24 25 true _ rfl rfl rfl rfl rfl rfl ?_
        refine J.skip 18 24 26 true _ rfl rfl rfl rfl rfl rfl ?_
        refine J.y (yl_pick0 rfl rfl rfl rfl) rfl rfl rfl ?_
        refine J.y (yl_move rfl rfl) rfl rfl rfl ?_
        refine J.skip 22 28 29 true _ rfl rfl rfl rfl rfl rfl ?_
        refine J.skip 22 28 30 true _ rfl rfl rfl rfl rfl rfl ?_
        refine J.y (yl_pick0 rfl rfl rfl rfl) rfl rfl rfl ?_
        refine J.y (yl_assign rfl rfl) rfl rfl rfl ?_
        refine J.nil ?_
        refine Ej.seq ?_
        refine Cj.ret ?_
        refine Ej.ret1 rfl rfl rfl ?_
        refine ⟨?_, rfl, rfl⟩; simp_all [Cq.blank, Cq.plain]
    ·
      refine J.skip 6 12 13 true _ rfl rfl rfl hg2 rfl rfl ?_
      refine J.skip 6 12 14 true _ rfl rfl rfl hg2 rfl rfl ?_
      refine J.y (yl_pick0 rfl rfl hg2 rfl) rfl rfl rfl ?_
      refine J.y (yl_move rfl rfl) rfl rfl rfl ?_
      refine J.skip 10 16 17 true _ rfl rfl rfl rfl rfl rfl ?_
      refine J.skip 10 16 18 true _ rfl rfl rfl rfl rfl rfl ?_
      refine J.y (yl_pick0 rfl rfl rfl rfl) rfl rfl rfl ?_
      refine J.y (yl_move rfl rfl) rfl rfl rfl ?_
      refine J.skip 14 20 21 true _ rfl rfl rfl rfl rfl rfl ?_
      refine J.skip 14 20 22 true _ rfl rfl rfl rfl rfl rfl ?_
      refine J.y (yl_pick0 rfl rfl rfl rfl) rfl rfl rfl ?_
      refine J.y (yl_move rfl rfl) rfl rfl rfl ?_
      refine J.skip 18 24 25 true _ rfl rfl rfl rfl rfl rfl ?_
      refine J.skip 18 24 26 true _ rfl rfl rfl rfl rfl rfl ?_
      refine J.y (yl_pick0 rfl rfl rfl rfl) rfl rfl rfl ?_
      refine J.y (yl_move rfl rfl) rfl rfl rfl ?_
      refine J.skip 22 28 29 true _ rfl rfl rfl rfl rfl rfl ?_
      refine J.skip 22 28 30 true _ rfl rfl rfl rfl rfl rfl ?_
      refine J.y (yl_pick0 rfl rfl rfl rfl) rfl rfl rfl ?_
      refine J.y (yl_assign rfl rfl) rfl rfl rfl ?_
      refine J.nil ?_
      refine Ej.seq ?_
      refine Cj.ret ?_
      refine Ej.ret1 rfl rfl rfl ?_
      refine ⟨?_, rfl, rfl⟩; simp_all [Cq.blank, Cq.plain]
  ·
    refine J.skip 2 8 9 true _ rfl rfl rfl hg1 rfl rfl ?_
    refine J.skip 2 8 10 true _ rfl rfl rfl hg1 rfl rfl ?_
    refine J.y (yl_pick0 rfl rfl hg1 rfl) rfl rfl rfl ?_
    refine J.y (yl_move rfl rfl) rfl rfl rfl ?_
    refine J.skip 6 12 13 true _ rfl rfl rfl rfl rfl rfl ?_
    refine J.skip 6 12 14 true _ rfl rfl rfl rfl rfl rfl ?_
    refine J.y (yl_pick0 rfl rfl rfl rfl) rfl rfl rfl ?_
    refine J.y (yl_move rfl rfl) rfl rfl rfl ?_
    refine J.skip 10 16 17 true _ rfl rfl rfl rfl rfl rfl ?_
    refine J.skip 10 16 18 true _ rfl rfl rfl rfl rfl rfl ?_
    refine J.y (yl_pick0 rfl rfl rfl rfl) rfl rfl rfl ?_
    refine J.y (yl_move rfl rfl) rfl rfl rfl ?_
    refine J.skip 14 20 21 true _ rfl rfl rfl rfl rfl rfl ?_
    refine J.skip 14 20 22 true _ rfl rfl rfl rfl rfl rfl ?_
    refine J.y (yl_pick0 rfl rfl rfl rfl) rfl rfl rfl ?_
    refine J.y (yl_move rfl rfl) rfl rfl rfl ?_
    refine J.skip 18 24 25 true _ rfl rfl rfl rfl rfl rfl ?_
    refine J.skip 18 24 26 true _ rfl rfl rfl rfl rfl rfl ?_
    refine J.y (yl_pick0 rfl rfl rfl rfl) rfl rfl rfl ?_
    refine J.y (yl_move rfl rfl) rfl rfl rfl ?_
    refine J.skip 22 28 29 true _ rfl rfl rfl rfl rfl rfl ?_
    refine J.skip 22 28 30 true _ rfl rfl rfl rfl rfl rfl ?_
    refine J.y (yl_pick0 rfl rfl rfl rfl) rfl rfl rfl ?_
    refine J.y (yl_assign rfl rfl) rfl rfl rfl ?_
    refine J.nil ?_
    refine Ej.seq ?_
    refine Cj.ret ?_
    refine Ej.ret1 rfl rfl rfl ?_
    refine ⟨?_, rfl, rfl⟩; simp_all [Cq.blank, Cq.plain]

set_option maxRecDepth 20000 in
theorem quoted_ok (s : List UInt8) (i : Nat) (hi : i < s.length) (hs : s.length ≤ 281474976710656) (I : Heap) : Pure Tryz.prog 41 [str s, i64 i] I (.tuple #[str (Cq.quotedAt s i).1, i64 (Cq.quotedAt s i).2]) := by
  refine Ctr.of_body Tryz.func41 rfl (by decide) (Nat.le_of_ble_eq_true rfl) ?_
  intro w0 hw0
  refine Cj.seq ?_
  refine Cj.region ?_
  refine J.y (yl_assign rfl rfl) rfl rfl rfl ?_
  refine J.y (yl_assign rfl rfl) rfl rfl rfl ?_
  refine J.nil ?_
  refine Ej.seq ?_
  refine Cj.seq ?_
  refine Cj.region ?_
  refine J.y (yl_assign rfl rfl) rfl rfl rfl ?_
  refine J.nil ?_
  refine Ej.seq ?_
  refine Cj.seq ?_
  refine Cj.region ?_
  refine J.y (yl_move rfl rfl) rfl rfl rfl ?_
  refine J.y (yl_add rfl rfl rfl (w64 (by omega))) rfl rfl rfl ?_
  refine J.y (yl_assign rfl rfl) rfl rfl rfl ?_
  refine J.nil ?_
  refine Ej.seq ?_
  refine Cj.seq ?_
  refine Cj.block ?_
  refine Cj.loop (ι := Nat × List UInt8) (fun j => Cq.QInv s i j.1 j.2) (fun j => s.length + 2 - j.1) (fun j => [(0, str s), (1, i64 (j.1 : Int)), (6, str j.2)]) (fun j => I) (fun j => []) (i + 1, []) (Cq.QInv.start s i hi) ⟨rfl, rfl, rfl, trivial⟩ rfl rfl ?_
  rintro ⟨k, out⟩ hk; dsimp only at hk ⊢; have hk1 := hk.le; have hk2 := hk.ol
  refine Cj.seq ?_
  refine Cj.seq ?_
  refine Cj.region ?_
  refine J.y (yl_move rfl rfl) rfl rfl rfl ?_
  refine J.y (yl_move rfl rfl) rfl rfl rfl ?_
  refine J.y (yl_lenStr rfl rfl Tryz.underlying9) rfl rfl rfl ?_
  refine J.y (yl_lss rfl rfl rfl) rfl rfl rfl ?_
  refine J.nil ?_
  refine Ej.seq ?_
  refine Cj.cond rfl (fun hc1 => ?_) (fun hc1 => ?_)
  ·
    have hc1p := of_decide_eq_true hc1
    have hlt : k < s.length := by omega
    obtain ⟨c, hget⟩ : ∃ c, s[k]? = some c := ⟨_, List.getElem?_eq_getElem hlt⟩
    refine Cj.skip ?_
    refine Ej.seq ?_
    refine Cj.block ?_
    refine Cj.seq ?_
    refine Cj.seq ?_
    refine Cj.region ?_
    refine J.y (yl_move rfl rfl) rfl rfl rfl ?_
    refine J.y (yl_move rfl rfl) rfl rfl rfl ?_
    refine J.y (yl_index rfl rfl rfl Tryz.underlying9 (by omega) (by simpa using hget)) rfl rfl rfl ?_
    refine J.y (yl_eql rfl rfl rfl) rfl rfl rfl ?_
    refine J.nil ?_
    refine Ej.seq ?_
    refine Cj.cond rfl (fun hc2 => ?_) (fun hc2 => ?_)
    ·
      have hc2p := eq_of_beq hc2
      have h34 : c = 34 := u8_is (d := 34) hc2p
      refine Cj.seq ?_
      refine Cj.region ?_
      refine J.y (yl_move rfl rfl) rfl rfl rfl ?_
      refine J.y (yl_move rfl rfl) rfl rfl rfl ?_
      refine J.y (yl_add rfl rfl rfl (w64 (by omega))) rfl rfl rfl ?_
      refine J.y (yl_assign rfl rfl) rfl rfl rfl ?_
      refine J.y (yl_assign rfl rfl) rfl rfl rfl ?_
      refine J.nil ?_
      refine Ej.seq ?_
      refine Cj.ret ?_
      refine Ej.seqRet ?_
      refine Ej.blkRet ?_
      refine Ej.loopRet ?_
      refine Ej.blkRet ?_
      refine Ej.seqRet ?_
      refine Ej.ret2 rfl rfl rfl rfl ?_
      rw [hk.quote c hget h34]; exact ⟨rfl, rfl, rfl⟩
    ·
      have hc2p := ne_of_beq_false hc2
      have h34 : c ≠ 34 := u8_not (d := 34) hc2p
      refine Cj.skip ?_
      refine Ej.seq ?_
      refine Cj.seq ?_
      refine Cj.seq ?_
      refine Cj.region ?_
      refine J.y (yl_move rfl rfl) rfl rfl rfl ?_
      refine J.y (yl_move rfl rfl) rfl rfl rfl ?_
      refine J.y (yl_index rfl rfl rfl Tryz.underlying9 (by omega) (by simpa using hget)) rfl rfl rfl ?_
      refine J.y (yl_eql rfl rfl rfl) rfl rfl rfl ?_
      refine J.nil ?_
      refine Ej.seq ?_
      refine Cj.cond rfl (fun hc3 => ?_) (fun hc3 => ?_)
      ·
        have hc3p := eq_of_beq hc3
        have h92 : c = 92 := u8_is (d := 92) hc3p
        refine Cj.region ?_
        refine J.y (yl_move rfl rfl) rfl rfl rfl ?_
        refine J.y (yl_add rfl rfl rfl (w64 (by omega))) rfl rfl rfl ?_
        refine J.y (yl_assign rfl rfl) rfl rfl rfl ?_
        refine J.nil ?_
        refine Ej.seq ?_
        refine Cj.seq ?_
        refine Cj.seq ?_
        refine Cj.region ?_
        refine J.y (yl_move rfl rfl) rfl rfl rfl ?_
        refine J.y (yl_move rfl rfl) rfl rfl rfl ?_
        refine J.y (yl_lenStr rfl rfl Tryz.underlying9) rfl rfl rfl ?_
        refine J.y (yl_lss rfl rfl rfl) rfl rfl rfl ?_
        refine J.nil ?_
        refine Ej.seq ?_
        refine Cj.cond rfl (fun hc4 => ?_) (fun hc4 => ?_)
        ·
          have hc4p := of_decide_eq_true hc4
          obtain ⟨d, hget2⟩ : ∃ d, s[k + 1]? = some d := ⟨_, List.getElem?_eq_getElem (by omega)⟩
          refine Cj.region ?_
          refine J.y (yl_move rfl rfl) rfl rfl rfl ?_
          refine J.y (yl_move rfl rfl) rfl rfl rfl ?_
          refine J.y (yl_move rfl rfl) rfl rfl rfl ?_
          refine J.y (yl_move rfl rfl) rfl rfl rfl ?_
          refine J.y (yl_add rfl rfl rfl (w64 (by omega))) rfl rfl rfl ?_
          refine J.y (yl_sliceStr (p := k + 1) (q := k + 2) rfl rfl Tryz.underlying9 ⟨_, rfl⟩ ⟨_, rfl⟩ (by omega) (by omega)) rfl rfl rfl ?_
          refine J.eqv 35 rfl (show _ = str [d] from congrArg str (cut1 hget2)) ?_
          refine J.y (yl_cat rfl rfl rfl (by first | omega | (simp only [List.length_append]; omega) | (simp; omega))) rfl rfl rfl ?_
          refine J.y (yl_assign rfl rfl) rfl rfl rfl ?_
          refine J.nil ?_
          refine Ej.seq ?_
          refine Cj.region ?_
          refine J.y (yl_move rfl rfl) rfl rfl rfl ?_
          refine J.y (yl_add rfl rfl rfl (w64 (by omega))) rfl rfl rfl ?_
          refine J.y (yl_assign rfl rfl) rfl rfl rfl ?_
          refine J.nil ?_
          refine Ej.blkNormal ?_
          refine Ej.round (k + 2, out ++ [d]) (hk.esc hlt c hget h92 d hget2) (by simp; omega) ⟨rfl, rfl, rfl, trivial⟩ rfl rfl
        ·
          have hc4p := of_decide_eq_false hc4
          refine Cj.skip ?_
          refine Ej.seq ?_
          refine Cj.region ?_
          refine J.y (yl_move rfl rfl) rfl rfl rfl ?_
          refine J.y (yl_add rfl rfl rfl (w64 (by omega))) rfl rfl rfl ?_
          refine J.y (yl_assign rfl rfl) rfl rfl rfl ?_
          refine J.nil ?_
          refine Ej.blkNormal ?_
          refine Ej.round (k + 2, out) (hk.fin hlt c hget h92 (by omega)) (by simp; omega) ⟨rfl, rfl, rfl, trivial⟩ rfl rfl
      ·
        have hc3p := ne_of_beq_false hc3
        have h92 : c ≠ 92 := u8_not (d := 92) hc3p
        refine Cj.skip ?_
        refine Ej.seq ?_
        refine Cj.seq ?_
        refine Cj.seq ?_
        refine Cj.region ?_
        refine J.y (yl_move rfl rfl) rfl rfl rfl ?_
        refine J.y (yl_move rfl rfl) rfl rfl rfl ?_
        refine J.y (yl_lenStr rfl rfl Tryz.underlying9) rfl rfl rfl ?_
        refine J.y (yl_lss rfl rfl rfl) rfl rfl rfl ?_
        refine J.nil ?_
        refine Ej.seq ?_
        refine Cj.cond rfl (fun hc5 => ?_) (fun hc5 => ?_)
        ·
          have hc5p := of_decide_eq_true hc5
          refine Cj.region ?_
          refine J.y (yl_move rfl rfl) rfl rfl rfl ?_
          refine J.y (yl_move rfl rfl) rfl rfl rfl ?_
          refine J.y (yl_move rfl rfl) rfl rfl rfl ?_
          refine J.y (yl_move rfl rfl) rfl rfl rfl ?_
          refine J.y (yl_add rfl rfl rfl (w64 (by omega))) rfl rfl rfl ?_
          refine J.y (yl_sliceStr (p := k) (q := k + 1) rfl rfl Tryz.underlying9 ⟨_, rfl⟩ ⟨_, rfl⟩ (by omega) (by omega)) rfl rfl rfl ?_
          refine J.eqv 35 rfl (show _ = str [c] from congrArg str (cut1 hget)) ?_
          refine J.y (yl_cat rfl rfl rfl (by first | omega | (simp only [List.length_append]; omega) | (simp; omega))) rfl rfl rfl ?_
          refine J.y (yl_assign rfl rfl) rfl rfl rfl ?_
          refine J.nil ?_
          refine Ej.seq ?_
          refine Cj.region ?_
          refine J.y (yl_move rfl rfl) rfl rfl rfl ?_
          refine J.y (yl_add rfl rfl rfl (w64 (by omega))) rfl rfl rfl ?_
          refine J.y (yl_assign rfl rfl) rfl rfl rfl ?_
          refine J.nil ?_
          refine Ej.blkNormal ?_
          refine Ej.round (k + 1, out ++ [c]) (hk.byte hlt c hget h34 h92) (by simp; omega) ⟨rfl, rfl, rfl, trivial⟩ rfl rfl
        ·
          have hc5p := of_decide_eq_false hc5
          exact absurd hlt (by omega)
  ·
    have hc1p := of_decide_eq_false hc1
    refine Cj.exit ?_
    refine Ej.seqExit ?_
    refine Ej.loopExit ?_
    refine Ej.blkExit ?_
    refine Ej.seq ?_
    refine Cj.seq ?_
    refine Cj.region ?_
    refine J.y (yl_assign rfl rfl) rfl rfl rfl ?_
    refine J.y (yl_assign rfl rfl) rfl rfl rfl ?_
    refine J.nil ?_
    refine Ej.seq ?_
    refine Cj.ret ?_
    refine Ej.ret2 rfl rfl rfl rfl ?_
    rw [hk.past (by omega)]; exact ⟨rfl, rfl, rfl⟩

set_option maxRecDepth 20000 in
theorem Small_ok (s : List UInt8) (hs : s.length ≤ 4000000000) (I : Heap) : Pure Tryz.prog 24 [str s] I (str (Cq.small s)) := by
  refine Ctr.of_body Tryz.func24 rfl (by decide) (Nat.le_of_ble_eq_true rfl) ?_
  intro w0 hw0
  refine Cj.seq ?_
  refine Cj.region ?_
  refine J.y (yl_assign rfl rfl) rfl rfl rfl ?_
  refine J.nil ?_
  refine Ej.seq ?_
  refine Cj.seq ?_
  refine Cj.region ?_
  refine J.y (yl_move rfl rfl) rfl rfl rfl ?_
  refine J.op rfl (op_toBytes rfl rfl rfl rfl Tryz.underlying9 Tryz.underlying46 Tryz.underlying5 ?_)
  intro b1 c2 sp3 fr4 hb1 hfr4
  refine J.y (yl_assign rfl rfl) rfl rfl rfl ?_
  refine J.nil ?_
  refine Ej.seq ?_
  refine Cj.seq ?_
  refine Cj.seq ?_
  refine Cj.region ?_
  refine J.y (yl_assign rfl rfl) rfl rfl rfl ?_
  refine J.nil ?_
  refine Ej.seq ?_
  refine Cj.block ?_
  refine Cj.loop (ι := Nat × List UInt8) (fun j => Cq.SInv s j.1 j.2) (fun j => s.length - j.1) (fun j => [(0, str s), (3, .slice (some ⟨b1, 0, none⟩) s.length c2), (4, i64 (j.1 : Int))]) (fun j => I) (fun j => [(b1, .cells (bcs j.2 ++ sp3).toArray 5 (fr4, fr4 + 1))]) (0, s) ⟨by omega, by simp⟩ ⟨rfl, rfl, rfl, trivial⟩ rfl rfl ?_
  rintro ⟨k, l⟩ hk; dsimp only at hk ⊢; have hk1 := hk.le; have hk2 := hk.len
  refine Cj.seq ?_
  refine Cj.seq ?_
  refine Cj.region ?_
  refine J.y (yl_move rfl rfl) rfl rfl rfl ?_
  refine J.y (yl_move rfl rfl) rfl rfl rfl ?_
  refine J.y (yl_lenSlice rfl rfl Tryz.underlying46) rfl rfl rfl ?_
  refine J.y (yl_lss rfl rfl rfl) rfl rfl rfl ?_
  refine J.nil ?_
  refine Ej.seq ?_
  refine Cj.cond rfl (fun hc5 => ?_) (fun hc5 => ?_)
  ·
    have hc5p := of_decide_eq_true hc5
    have hlt : k < s.length := by omega
    obtain ⟨c, hget⟩ : ∃ c, s[k]? = some c := ⟨_, List.getElem?_eq_getElem hlt⟩
    have hg2 := bcs_get l sp3 k c (hk.get hget)
    refine Cj.skip ?_
    refine Ej.seq ?_
    refine Cj.seq ?_
    refine Cj.block ?_
    refine Cj.seq ?_
    refine Cj.region ?_
    refine J.y (yl_move rfl rfl) rfl rfl rfl ?_
    refine J.y (yl_move rfl rfl) rfl rfl rfl ?_
    refine J.y (yl_indexAddr (off' := k) rfl rfl rfl Tryz.underlying46 Tryz.sizeOf5 (by omega) (by omega) (by simp)) rfl rfl rfl ?_
    refine J.y (yl_load rfl rfl Tryz.isAgg5 (Blk.at 0 rfl) hg2) rfl rfl rfl ?_
    refine J.y (yl_geq rfl rfl rfl) rfl rfl rfl ?_
    refine J.y (yl_move rfl rfl) rfl rfl rfl ?_
    refine J.split 18 rfl (fun hg6 => ?_) (fun hg6 => ?_)
    ·
      refine J.opG 5 18 true _ rfl rfl rfl hg6 (op_yld (yl_move rfl rfl) rfl rfl ?_)
      refine J.opG 5 18 true _ rfl rfl rfl hg6 (op_yld (yl_move rfl rfl) rfl rfl ?_)
      refine J.opG 5 18 true _ rfl rfl rfl hg6 (op_yld (yl_indexAddr (off' := k) rfl rfl rfl Tryz.underlying46 Tryz.sizeOf5 (by omega) (by omega) (by simp)) rfl rfl ?_)
      refine J.opG 5 18 true _ rfl rfl rfl hg6 (op_yld (yl_load rfl rfl Tryz.isAgg5 (Blk.at 0 rfl) hg2) rfl rfl ?_)
      refine J.opG 5 18 true _ rfl rfl rfl hg6 (op_yld (yl_leq rfl rfl rfl) rfl rfl ?_)
      refine J.y (yl_pick1 rfl rfl hg6 rfl) rfl rfl rfl ?_
      refine J.nil ?_
      refine Ej.seq ?_
      refine Cj.cond rfl (fun hc7 => ?_) (fun hc7 => ?_)
      ·
        have hc7p := of_decide_eq_true hc7
        refine Cj.region ?_
        refine J.y (yl_move rfl rfl) rfl rfl rfl ?_
        refine J.y (yl_move rfl rfl) rfl rfl rfl ?_
        refine J.y (yl_move rfl rfl) rfl rfl rfl ?_
        refine J.y (yl_move rfl rfl) rfl rfl rfl ?_
        refine J.y (yl_indexAddr (off' := k) rfl rfl rfl Tryz.underlying46 Tryz.sizeOf5 (by omega) (by omega) (by simp)) rfl rfl rfl ?_
        refine J.y (yl_load rfl rfl Tryz.isAgg5 (Blk.at 0 rfl) hg2) rfl rfl rfl ?_
        refine J.y (yl_addB 32 rfl rfl rfl rfl) rfl rfl rfl ?_
        refine J.y (yl_indexAddr (off' := k) rfl rfl rfl Tryz.underlying46 Tryz.sizeOf5 (by omega) (by omega) (by simp)) rfl rfl rfl ?_
        refine J.op rfl (op_store1 0 rfl rfl rfl rfl rfl rfl Tryz.sizeOf5 rfl (.inr (by simp only [List.length_append, bcs_len, hk2] at hfr4 ⊢; omega)) (by simp only [List.length_append, bcs_len]; omega) LSet.z ?_)
        refine J.nil ?_
        refine Ej.blkNormal ?_
        refine Ej.seq ?_
        refine Cj.region ?_
        refine J.y (yl_move rfl rfl) rfl rfl rfl ?_
        refine J.y (yl_add rfl rfl rfl (w64 (by omega))) rfl rfl rfl ?_
        refine J.y (yl_assign rfl rfl) rfl rfl rfl ?_
        refine J.nil ?_
        have hlow : Cq.low c = c + 32 := by unfold Cq.low; rw [if_pos]; have := of_decide_eq_true hg6; have := of_decide_eq_true hc7; omega
        refine Ej.round (k + 1, l.set k (c + 32)) (hlow ▸ hk.next hget) (by simp; omega) ⟨rfl, rfl, rfl, trivial⟩ rfl (by dsimp only; rw [bcs_set _ _ _ _ (by omega)])
      ·
        have hc7p := of_decide_eq_false hc7
        refine Cj.skip ?_
        refine Ej.blkNormal ?_
        refine Ej.seq ?_
        refine Cj.region ?_
        refine J.y (yl_move rfl rfl) rfl rfl rfl ?_
        refine J.y (yl_add rfl rfl rfl (w64 (by omega))) rfl rfl rfl ?_
        refine J.y (yl_assign rfl rfl) rfl rfl rfl ?_
        refine J.nil ?_
        have hlow : Cq.low c = c := by unfold Cq.low; rw [if_neg]; have := of_decide_eq_false hc7; omega
        refine Ej.round (k + 1, l) (hk.same hget hlow) (by simp; omega) ⟨rfl, rfl, rfl, trivial⟩ rfl rfl
    ·
      refine J.skip 5 18 19 true _ rfl rfl rfl hg6 rfl rfl ?_
      refine J.skip 5 18 20 true _ rfl rfl rfl hg6 rfl rfl ?_
      refine J.skip 5 18 21 true _ rfl rfl rfl hg6 rfl rfl ?_
      refine J.skip 5 18 22 true _ rfl rfl rfl hg6 rfl rfl ?_
      refine J.skip 5 18 23 true _ rfl rfl rfl hg6 rfl rfl ?_
      refine J.y (yl_pick0 rfl rfl hg6 rfl) rfl rfl rfl ?_
      refine J.nil ?_
      refine Ej.seq ?_
      refine Cj.cond rfl (fun hc8 => Bool.noConfusion (Eq.trans (Eq.symm rfl) hc8)) (fun hc8 => ?_)
      refine Cj.skip ?_
      refine Ej.blkNormal ?_
      refine Ej.seq ?_
      refine Cj.region ?_
      refine J.y (yl_move rfl rfl) rfl rfl rfl ?_
      refine J.y (yl_add rfl rfl rfl (w64 (by omega))) rfl rfl rfl ?_
      refine J.y (yl_assign rfl rfl) rfl rfl rfl ?_
      refine J.nil ?_
      have hlow : Cq.low c = c := by unfold Cq.low; rw [if_neg]; have := of_decide_eq_false hg6; omega
      refine Ej.round (k + 1, l) (hk.same hget hlow) (by simp; omega) ⟨rfl, rfl, rfl, trivial⟩ rfl rfl
  ·
    have hc5p := of_decide_eq_false hc5
    refine Cj.exit ?_
    refine Ej.seqExit ?_
    refine Ej.loopExit ?_
    refine Ej.blkExit ?_
    refine Ej.seq ?_
    refine Cj.seq ?_
    refine Cj.region ?_
    refine J.y (yl_move rfl rfl) rfl rfl rfl ?_
    refine J.y (yl_toStr l rfl rfl hk2 Tryz.underlying46 Tryz.underlying9 Tryz.underlying5 (Blk.at 0 rfl) (by rw [List.drop_zero, List.take_left' (by rw [bcs_len])])) rfl rfl rfl ?_
    refine J.y (yl_assign rfl rfl) rfl rfl rfl ?_
    refine J.nil ?_
    refine Ej.seq ?_
    refine Cj.ret ?_
    refine Ej.bare ?_
    refine Ej.ret1 rfl rfl rfl ?_
    rw [← hk.done (by omega)]; exact ⟨rfl, rfl, rfl⟩

set_option maxRecDepth 20000 in
theorem Indexes_ok (I : Heap) : Ctr Tryz.prog 43 [] I [] (fun e I' H' => (∃ v, e = .returned v ∧ StrSl 9 I' Cq.indexes v) ∧ H' = []) := by
  refine Ctr.of_body Tryz.func43 rfl (by decide) (Nat.le_of_ble_eq_true rfl) ?_
  intro w0 hw0
  refine Cj.seq ?_
  refine Cj.region ?_
  refine J.y (yl_assign rfl rfl) rfl rfl rfl ?_
  refine J.nil ?_
  refine Ej.seq ?_
  refine Cj.seq ?_
  refine Cj.region ?_
  refine J.op rfl (op_buildSlice rfl rfl rfl Tryz.underlying44 Tryz.sizeOf9 Tryz.zeroValue9 rfl rfl rfl rfl (LCat.one rfl (LCat.one rfl (LCat.one rfl (LCat.one rfl (LCat.one rfl (LCat.one rfl LCat.none)))))) ?_)
  intro b1 hb1
  refine J.y (yl_assign rfl rfl) rfl rfl rfl ?_
  refine J.nil ?_
  refine Ej.seq ?_
  refine Cj.ret ?_
  refine Ej.persist hb1 (fun I3 hle2 hb1i => ?_)
  refine Ej.ret1 rfl rfl rfl ?_
  exact ⟨⟨_, rfl, b1, 6, [], rfl, hb1i⟩, rfl⟩

set_option maxRecDepth 20000 in
theorem Relations_ok (I : Heap) : Ctr Tryz.prog 44 [] I [] (fun e I' H' => (∃ v, e = .returned v ∧ StrSl 9 I' Cq.relations v) ∧ H' = []) := by
  refine Ctr.of_body Tryz.func44 rfl (by decide) (Nat.le_of_ble_eq_true rfl) ?_
  intro w0 hw0
  refine Cj.seq ?_
  refine Cj.region ?_
  refine J.y (yl_assign rfl rfl) rfl rfl rfl ?_
  refine J.nil ?_
  refine Ej.seq ?_
  refine Cj.seq ?_
  refine Cj.region ?_
  refine J.op rfl (op_buildSlice rfl rfl rfl Tryz.underlying44 Tryz.sizeOf9 Tryz.zeroValue9 rfl rfl rfl rfl (LCat.one rfl (LCat.one rfl (LCat.one rfl (LCat.one rfl (LCat.one rfl (LCat.one rfl LCat.none)))))) ?_)
  intro b1 hb1
  refine J.y (yl_assign rfl rfl) rfl rfl rfl ?_
  refine J.nil ?_
  refine Ej.seq ?_
  refine Cj.ret ?_
  refine Ej.persist hb1 (fun I3 hle2 hb1i => ?_)
  refine Ej.ret1 rfl rfl rfl ?_
  exact ⟨⟨_, rfl, b1, 6, [], rfl, hb1i⟩, rfl⟩

set_option maxRecDepth 20000 in
theorem among_ok (l : List (List UInt8)) (x : List UInt8) (v : Value) (hl : l.length ≤ 1000000) (I : Heap) (hv : StrSl 9 I l v) : Pure Tryz.prog 60 [v, str x] I (.bool (l.contains x)) := by
  obtain ⟨bb, cc, sp, rfl, hbb⟩ := hv
  refine Ctr.of_body Tryz.func60 rfl (by decide) (Nat.le_of_ble_eq_true rfl) ?_
  intro w0 hw0
  refine Cj.seq ?_
  refine Cj.region ?_
  refine J.y (yl_assign rfl rfl) rfl rfl rfl ?_
  refine J.nil ?_
  refine Ej.seq ?_
  refine Cj.seq ?_
  refine Cj.seq ?_
  refine Cj.region ?_
  refine J.y (yl_assign rfl rfl) rfl rfl rfl ?_
  refine J.nil ?_
  refine Ej.seq ?_
  refine Cj.block ?_
  refine Cj.loop (ι := Nat) (fun k => k ≤ l.length ∧ ∀ j y, j < k → l[j]? = some y → y ≠ x) (fun k => l.length - k) (fun k => [(0, .slice (some ⟨bb, 0, none⟩) l.length cc), (1, str x), (5, i64 (k : Int))]) (fun k => I) (fun k => []) 0 ⟨by omega, fun j y h => absurd h (by omega)⟩ ⟨rfl, rfl, rfl, trivial⟩ rfl rfl ?_
  rintro k ⟨hk, hall⟩
  refine Cj.seq ?_
  refine Cj.seq ?_
  refine Cj.region ?_
  refine J.y (yl_move rfl rfl) rfl rfl rfl ?_
  refine J.y (yl_move rfl rfl) rfl rfl rfl ?_
  refine J.y (yl_lenSlice rfl rfl Tryz.underlying44) rfl rfl rfl ?_
  refine J.y (yl_lss rfl rfl rfl) rfl rfl rfl ?_
  refine J.nil ?_
  refine Ej.seq ?_
  refine Cj.cond rfl (fun hc1 => ?_) (fun hc1 => ?_)
  ·
    have hc1p := of_decide_eq_true hc1
    have hlt : k < l.length := by omega
    obtain ⟨y, hget⟩ : ∃ y, l[k]? = some y := ⟨_, List.getElem?_eq_getElem hlt⟩
    refine Cj.skip ?_
    refine Ej.seq ?_
    refine Cj.seq ?_
    refine Cj.block ?_
    refine Cj.seq ?_
    refine Cj.region ?_
    refine J.y (yl_move rfl rfl) rfl rfl rfl ?_
    refine J.y (yl_move rfl rfl) rfl rfl rfl ?_
    refine J.y (yl_indexAddr (off' := k) rfl rfl rfl Tryz.underlying44 Tryz.sizeOf9 (by omega) (by omega) (by simp)) rfl rfl rfl ?_
    refine J.y (yl_load rfl rfl Tryz.isAgg9 (Blk.imm hbb) (str_get hget)) rfl rfl rfl ?_
    refine J.y (yl_move rfl rfl) rfl rfl rfl ?_
    refine J.y (yl_eqlStr rfl rfl rfl) rfl rfl rfl ?_
    refine J.nil ?_
    refine Ej.seq ?_
    refine Cj.cond rfl (fun hc2 => ?_) (fun hc2 => ?_)
    ·
      have hc2p := eq_of_beq hc2
      refine Cj.seq ?_
      refine Cj.region ?_
      refine J.y (yl_assign rfl rfl) rfl rfl rfl ?_
      refine J.nil ?_
      refine Ej.seq ?_
      refine Cj.ret ?_
      refine Ej.blkRet ?_
      refine Ej.seqRet ?_
      refine Ej.loopRet ?_
      refine Ej.blkRet ?_
      refine Ej.seqRet ?_
      refine Ej.ret1 rfl rfl rfl ?_
      have : l.contains x = true := by rw [List.contains_iff_mem]; exact List.mem_of_getElem? (hc2p ▸ hget)
      rw [this]; exact ⟨rfl, rfl, rfl⟩
    ·
      have hc2p := ne_of_beq_false hc2
      refine Cj.skip ?_
      refine Ej.blkNormal ?_
      refine Ej.seq ?_
      refine Cj.region ?_
      refine J.y (yl_move rfl rfl) rfl rfl rfl ?_
      refine J.y (yl_add rfl rfl rfl (w64 (by omega))) rfl rfl rfl ?_
      refine J.y (yl_assign rfl rfl) rfl rfl rfl ?_
      refine J.nil ?_
      refine Ej.round (k + 1) ⟨by omega, fun j y hj hy => by rcases Nat.lt_succ_iff_lt_or_eq.1 hj with h | rfl; exact hall j y h hy; rw [hget] at hy; cases hy; exact hc2p⟩ (by omega) ⟨rfl, rfl, rfl, trivial⟩ rfl rfl
  ·
    have hc1p := of_decide_eq_false hc1
    refine Cj.exit ?_
    refine Ej.seqExit ?_
    refine Ej.loopExit ?_
    refine Ej.blkExit ?_
    refine Ej.seq ?_
    refine Cj.seq ?_
    refine Cj.region ?_
    refine J.y (yl_assign rfl rfl) rfl rfl rfl ?_
    refine J.nil ?_
    refine Ej.seq ?_
    refine Cj.ret ?_
    refine Ej.ret1 rfl rfl rfl ?_
    have : l.contains x = false := by
      rw [Bool.eq_false_iff]; intro h; rw [List.contains_iff_mem] at h
      obtain ⟨j, hj⟩ := List.mem_iff_getElem?.1 h
      obtain ⟨hjl, _⟩ := List.getElem?_eq_some_iff.1 hj
      exact hall j x (by omega) hj rfl
    rw [this]; exact ⟨rfl, rfl, rfl⟩

set_option maxRecDepth 20000 in
theorem operator_ok (t : Cq.Tok) (ht : t.text.length ≤ 4000000000) (I : Heap) : Pure Tryz.prog 62 [tokV t] I (i64 (Cq.operator t : Nat)) := by
  refine Ctr.of_body Tryz.func62 rfl (by decide) (Nat.le_of_ble_eq_true rfl) ?_
  intro w0 hw0
  refine Cj.seq ?_
  refine Cj.region ?_
  refine J.op rfl (op_box rfl rfl rfl rfl rfl ?_)
  intro b1 hb1
  refine J.y (yl_assign rfl rfl) rfl rfl rfl ?_
  refine J.nil ?_
  refine Ej.seq ?_
  refine Cj.seq ?_
  refine Cj.region ?_
  refine J.y (yl_fieldAddr (off' := 1) rfl rfl Tryz.underlying50 rfl Tryz.sizeOf9 rfl) rfl rfl rfl ?_
  refine J.y (yl_load rfl rfl Tryz.isAgg9 (Blk.at 0 rfl) rfl) rfl rfl rfl ?_
  refine J.op rfl (op_pure rfl rfl rfl rfl rfl (Small_ok _ (by omega) _) ?_)
  refine J.y (yl_assign rfl rfl) rfl rfl rfl ?_
  refine J.nil ?_
  refine Ej.seq ?_
  refine Cj.seq ?_
  refine Cj.block ?_
  refine Cj.seq ?_
  refine Cj.region ?_
  refine J.y (yl_fieldAddr (off' := 0) rfl rfl Tryz.underlying50 rfl Tryz.sizeOf3 rfl) rfl rfl rfl ?_
  refine J.y (yl_load rfl rfl Tryz.isAgg3 (Blk.at 0 rfl) rfl) rfl rfl rfl ?_
  refine J.y (yl_neq rfl rfl rfl) rfl rfl rfl ?_
  refine J.y (yl_assign rfl rfl) rfl rfl rfl ?_
  refine J.nil ?_
  refine Ej.seq ?_
  refine Cj.cond rfl (fun hc2 => ?_) (fun hc2 => ?_)
  ·
    have hc2p := bne_iff_ne.1 hc2
    have hk : ¬ t.kind = 3 := by omega
    refine Cj.seq ?_
    refine Cj.region ?_
    refine J.y (yl_assign rfl rfl) rfl rfl rfl ?_
    refine J.nil ?_
    refine Ej.seq ?_
    refine Cj.ret ?_
    refine Ej.blkRet ?_
    refine Ej.seqRet ?_
    refine Ej.bare ?_
    refine Ej.ret1 rfl rfl rfl ?_
    refine ⟨?_, rfl, rfl⟩
    simp_all [Cq.operator]
  ·
    have hc2p := bne_f hc2
    have hk : t.kind = 3 := by omega
    refine Cj.seq ?_
    refine Cj.region ?_
    refine J.y (yl_move rfl rfl) rfl rfl rfl ?_
    refine J.y (yl_eqlStr rfl rfl rfl) rfl rfl rfl ?_
    refine J.y (yl_assign rfl rfl) rfl rfl rfl ?_
    refine J.nil ?_
    refine Ej.seq ?_
    refine Cj.cond rfl (fun hc3 => ?_) (fun hc3 => ?_)
    ·
      have hc3p := eq_of_beq hc3
      refine Cj.seq ?_
      refine Cj.region ?_
      refine J.y (yl_assign rfl rfl) rfl rfl rfl ?_
      refine J.nil ?_
      refine Ej.seq ?_
      refine Cj.ret ?_
      refine Ej.blkRet ?_
      refine Ej.seqRet ?_
      refine Ej.bare ?_
      refine Ej.ret1 rfl rfl rfl ?_
      refine ⟨?_, rfl, rfl⟩
      simp_all [Cq.operator]
    ·
      have hc3p := ne_of_beq_false hc3
      refine Cj.seq ?_
      refine Cj.region ?_
      refine J.y (yl_move rfl rfl) rfl rfl rfl ?_
      refine J.y (yl_eqlStr rfl rfl rfl) rfl rfl rfl ?_
      refine J.y (yl_assign rfl rfl) rfl rfl rfl ?_
      refine J.nil ?_
      refine Ej.seq ?_
      refine Cj.cond rfl (fun hc4 => ?_) (fun hc4 => ?_)
      ·
        have hc4p := eq_of_beq hc4
        refine Cj.seq ?_
        refine Cj.region ?_
        refine J.y (yl_assign rfl rfl) rfl rfl rfl ?_
        refine J.nil ?_
        refine Ej.seq ?_
        refine Cj.ret ?_
        refine Ej.blkRet ?_
        refine Ej.seqRet ?_
        refine Ej.bare ?_
        refine Ej.ret1 rfl rfl rfl ?_
        refine ⟨?_, rfl, rfl⟩
        simp_all [Cq.operator]
      ·
        have hc4p := ne_of_beq_false hc4
        refine Cj.seq ?_
        refine Cj.region ?_
        refine J.y (yl_move rfl rfl) rfl rfl rfl ?_
        refine J.y (yl_eqlStr rfl rfl rfl) rfl rfl rfl ?_
        refine J.y (yl_assign rfl rfl) rfl rfl rfl ?_
        refine J.nil ?_
        refine Ej.seq ?_
        refine Cj.cond rfl (fun hc5 => ?_) (fun hc5 => ?_)
        ·
          have hc5p := eq_of_beq hc5
          refine Cj.seq ?_
          refine Cj.region ?_
          refine J.y (yl_assign rfl rfl) rfl rfl rfl ?_
          refine J.nil ?_
          refine Ej.seq ?_
          refine Cj.ret ?_
          refine Ej.blkRet ?_
          refine Ej.seqRet ?_
          refine Ej.bare ?_
          refine Ej.ret1 rfl rfl rfl ?_
          refine ⟨?_, rfl, rfl⟩
          simp_all [Cq.operator]
        ·
          have hc5p := ne_of_beq_false hc5
          refine Cj.skip ?_
          refine Ej.blkNormal ?_
          refine Ej.seq ?_
          refine Cj.seq ?_
          refine Cj.region ?_
          refine J.y (yl_assign rfl rfl) rfl rfl rfl ?_
          refine J.nil ?_
          refine Ej.seq ?_
          refine Cj.ret ?_
          refine Ej.bare ?_
          refine Ej.ret1 rfl rfl rfl ?_
          refine ⟨?_, rfl, rfl⟩
          simp_all [Cq.operator]

set_option maxRecDepth 20000 in
theorem relation_ok (t : Cq.Tok) (ht : t.text.length ≤ 4000000000) (I : Heap) : Ctr Tryz.prog 80 [tokV t] I [] (fun e _I' H' => e = .returned (.bool (Cq.relation t)) ∧ H' = []) := by
  refine Ctr.of_body Tryz.func80 rfl (by decide) (Nat.le_of_ble_eq_true rfl) ?_
  intro w0 hw0
  refine Cj.seq ?_
  refine Cj.region ?_
  refine J.op rfl (op_box rfl rfl rfl rfl rfl ?_)
  intro b1 hb1
  refine J.y (yl_assign rfl rfl) rfl rfl rfl ?_
  refine J.nil ?_
  refine Ej.seq ?_
  refine Cj.seq ?_
  refine Cj.drawSel [0] [] 6 (by kernel_rfl) ?_
  refine JA.take 1 rfl rfl (by kernel_rfl) (by kernel_rfl) (by kernel_rfl) (fun _ _ _ h => h) rfl rfl rfl (HSub.c 0 rfl HSub.n) CSub.n (Le.refl _) (yl_fieldAddr (off' := 1) rfl rfl Tryz.underlying50 rfl Tryz.sizeOf9 rfl) ?_
  refine JA.take 2 rfl rfl (by kernel_rfl) (by kernel_rfl) (by kernel_rfl) (fun _ _ _ h => h) rfl rfl rfl (HSub.c 0 rfl HSub.n) CSub.n (Le.refl _) (yl_load rfl rfl Tryz.isAgg9 (Blk.atC 0 rfl) rfl) ?_
  refine JA.step 0 (by kernel_rfl) rfl rfl (op_call (H1 := []) rfl rfl rfl rfl rfl (Relations_ok _) ?_ (fun _ _ _ _ h => by obtain ⟨⟨_, h, _⟩, _⟩ := h; cases h) (fun _ _ h => by obtain ⟨⟨_, h, _⟩, _⟩ := h; cases h))
  intro v2 I3 H4 hle5 hp6
  obtain ⟨⟨v2x, hv2, hsv2⟩, rfl⟩ := hp6; cases hv2
  refine ⟨⟨(Le.trans (Le.refl _) hle5), (HSub.c 0 rfl HSub.n), CSub.n⟩, ?_⟩
  refine JA.step 3 (by kernel_rfl) rfl rfl (op_pure rfl rfl rfl rfl rfl (Small_ok _ (by omega) _) ?_)
  refine ⟨⟨(Le.trans (Le.refl _) hle5), (HSub.c 0 rfl HSub.n), CSub.n⟩, ?_⟩
  refine JA.step 4 (by kernel_rfl) rfl rfl (op_pure rfl rfl rfl rfl rfl (among_ok Cq.relations _ _ (by decide) _ hsv2) ?_)
  refine ⟨⟨(Le.trans (Le.refl _) hle5), (HSub.c 0 rfl HSub.n), CSub.n⟩, ?_⟩
  refine JA.take 5 rfl rfl (by kernel_rfl) (by kernel_rfl) (by kernel_rfl) (fun _ _ _ h => h) rfl rfl rfl (HSub.c 0 rfl HSub.n) CSub.n (Le.trans (Le.refl _) hle5) (yl_assign rfl rfl) ?_
  refine JA.done (by kernel_rfl) ?_
  refine Ej.seq ?_
  refine Cj.seq ?_
  refine Cj.region ?_
  refine J.y (yl_move rfl rfl) rfl rfl rfl ?_
  refine J.y (yl_move rfl rfl) rfl rfl rfl ?_
  refine J.split 10 rfl (fun hg7 => ?_) (fun hg7 => ?_)
  ·
    refine J.opG 1 10 true _ rfl rfl rfl hg7 (op_yld (yl_fieldAddr (off' := 0) rfl rfl Tryz.underlying50 rfl Tryz.sizeOf3 rfl) rfl rfl ?_)
    refine J.opG 1 10 true _ rfl rfl rfl hg7 (op_yld (yl_load rfl rfl Tryz.isAgg3 (Blk.at 0 rfl) rfl) rfl rfl ?_)
    refine J.opG 1 10 true _ rfl rfl rfl hg7 (op_yld (yl_eql rfl rfl rfl) rfl rfl ?_)
    refine J.opG 1 10 true _ rfl rfl rfl hg7 (op_yld (yl_move rfl rfl) rfl rfl ?_)
    refine J.split 14 rfl (fun hg8 => ?_) (fun hg8 => ?_)
    ·
      have hk : t.kind = 3 := by have := eq_of_beq hg8; omega
      refine J.skip 5 14 15 false _ rfl rfl rfl hg8 rfl rfl ?_
      refine J.skip 5 14 16 false _ rfl rfl rfl hg8 rfl rfl ?_
      refine J.skip 5 14 17 false _ rfl rfl rfl hg8 rfl rfl ?_
      refine J.opG 1 10 true _ rfl rfl rfl hg7 (op_yld (yl_pick1 rfl rfl hg8 rfl) rfl rfl ?_)
      refine J.y (yl_pick1 rfl rfl hg7 rfl) rfl rfl rfl ?_
      refine J.y (yl_assign rfl rfl) rfl rfl rfl ?_
      refine J.nil ?_
      refine Ej.seq ?_
      refine Cj.ret ?_
      refine Ej.bare ?_
      refine Ej.ret1 rfl rfl rfl ?_
      refine ⟨?_, rfl⟩
      simp_all [Cq.relation]
    ·
      have hk : ¬ t.kind = 3 := by have := ne_of_beq_false hg8; omega
      refine J.opG 5 14 false _ rfl rfl rfl hg8 (op_yld (yl_fieldAddr (off' := 0) rfl rfl Tryz.underlying50 rfl Tryz.sizeOf3 rfl) rfl rfl ?_)
      refine J.opG 5 14 false _ rfl rfl rfl hg8 (op_yld (yl_load rfl rfl Tryz.isAgg3 (Blk.at 0 rfl) rfl) rfl rfl ?_)
      refine J.opG 5 14 false _ rfl rfl rfl hg8 (op_yld (yl_eql rfl rfl rfl) rfl rfl ?_)
      refine J.opG 1 10 true _ rfl rfl rfl hg7 (op_yld (yl_pick0 rfl rfl hg8 rfl) rfl rfl ?_)
      refine J.y (yl_pick1 rfl rfl hg7 rfl) rfl rfl rfl ?_
      refine J.y (yl_assign rfl rfl) rfl rfl rfl ?_
      refine J.nil ?_
      refine Ej.seq ?_
      refine Cj.ret ?_
      refine Ej.bare ?_
      refine Ej.ret1 rfl rfl rfl ?_
      refine ⟨?_, rfl⟩
      simp_all [Cq.relation, nb1]
  ·
    refine J.skip 1 10 11 true _ rfl rfl rfl hg7 rfl rfl ?_
    refine J.skip 1 10 12 true _ rfl rfl rfl hg7 rfl rfl ?_
    refine J.skip 1 10 13 true _ rfl rfl rfl hg7 rfl rfl ?_
    refine J.skip 1 10 14 true _ rfl rfl rfl hg7 rfl rfl ?_
    refine J.skipU 5 14 15 false rfl rfl rfl rfl rfl ?_
    refine J.skipU 5 14 16 false rfl rfl rfl rfl rfl ?_
    refine J.skipU 5 14 17 false rfl rfl rfl rfl rfl ?_
    refine J.skip 1 10 18 true _ rfl rfl rfl hg7 rfl rfl ?_
    refine J.y (yl_pick0 rfl rfl hg7 rfl) rfl rfl rfl ?_
    refine J.y (yl_assign rfl rfl) rfl rfl rfl ?_
    refine J.nil ?_
    refine Ej.seq ?_
    refine Cj.ret ?_
    refine Ej.bare ?_
    refine Ej.ret1 rfl rfl rfl ?_
    refine ⟨?_, rfl⟩
    simp_all [Cq.relation]

end Go.Proofs.YtlfpehljahgbkaaGreatDoor
