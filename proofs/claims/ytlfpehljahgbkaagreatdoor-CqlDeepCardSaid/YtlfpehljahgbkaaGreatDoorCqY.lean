/-
  The law CqlDeep walked. Own text, printed by a program. Conditions: none.
-/
import Derived.Test.YtlfpehljahgbkaaGreatDoorCqW
import Derived.Test.YtlfpehljahgbkaaGreatDoorCqNest
namespace Go.Proofs.YtlfpehljahgbkaaGreatDoor
open Go Go.Sx
theorem nests_len (m : Nat) : (Cq.nests m).length = 7 * m + 7 := by simp [Cq.nests, Cq.xors_len]; omega
theorem nest_len (m : Nat) : (Cq.nest m).length = 2 * m + 3 := by simp [Cq.nest]; omega
set_option maxRecDepth 20000 in
theorem Deep_ok (a b : UInt8) (I : Heap) (ht : Tabs I) : Pure Tryz.prog 9 [u8 a, u8 b] I (.bool true) := by
  refine Ctr.toPure ?_
  obtain ⟨n, hn⟩ : ∃ n, n = a.toNat % 60 := ⟨_, rfl⟩
  obtain ⟨m, hm⟩ : ∃ m, m = b.toNat % 60 := ⟨_, rfl⟩
  have hn6 : n < 60 := by rw [hn]; exact Nat.mod_lt _ (by decide)
  have hm6 : m < 60 := by rw [hm]; exact Nat.mod_lt _ (by decide)
  have hnl := nest_len n
  have hml := nests_len m
  have hnp := Cq.nest_parse n
  have hmp := Cq.nests_parse m
  obtain ⟨z1, z2, z3⟩ := q_small (s := Cq.nests m) (by omega)
  have hpw := Cq.parse_wide (Cq.nests m)
  have hps2 := Cq.parse_size (Cq.nests m)
  obtain ⟨r1, r2⟩ := Cq.parse_right (Cq.nests m)
  obtain ⟨q2, hq2⟩ : ∃ q2, q2 = (Cq.parse (Cq.nests m)).1 := ⟨_, rfl⟩
  rw [← hq2] at z1 z2 z3 hpw hps2 r1 r2
  have hmul : ((Cq.nests m).length + 1) * ((Cq.nests m).length + 10) ≤ 500 * 500 := Nat.mul_le_mul (by omega) (by omega)
  have hnr : (List.replicate n (40 : UInt8)).length = n := List.length_replicate
  have hnr2 : (List.replicate n (41 : UInt8)).length = n := List.length_replicate
  have hxl : (Cq.xors m).length = 6 * m := Cq.xors_len m
  refine Ctr.of_body Tryz.func9 rfl (by decide) (Nat.le_of_ble_eq_true rfl) ?_
  intro w0 hw0
  refine Cj.seq ?_
  refine Cj.region ?_
  refine J.y (yl_assign rfl rfl) rfl rfl rfl ?_
  refine J.nil ?_
  refine Ej.seq ?_
  refine Cj.seq ?_
  refine Cj.region ?_
  refine J.op rfl (op_pure rfl rfl rfl rfl rfl (sanity_ok _ ht) ?_)
  refine J.y (yl_assign rfl rfl) rfl rfl rfl ?_
  refine J.nil ?_
  refine Ej.seq ?_
  refine Cj.seq ?_
  refine Cj.region ?_
  refine J.y (yl_move rfl rfl) rfl rfl rfl ?_
  refine J.y (yl_rem rfl rfl rfl (by omega)) rfl rfl rfl ?_
  refine J.eqv 27 rfl (show _ = (.int .u8 ((a.toNat % 60 : Nat) : Int)) from (congrArg (Value.int .u8) (Int.ofNat_tmod a.toNat 60).symm)) ?_
  refine J.y (yl_convInt rfl rfl Tryz.underlying5 Tryz.underlying3) rfl rfl rfl ?_
  refine J.eqv 28 rfl (show _ = i64 (n : Int) from (by rw [hn]; exact congrArg (Value.int .i64) (w64 (by omega)))) ?_
  refine J.y (yl_move rfl rfl) rfl rfl rfl ?_
  refine J.y (yl_rem rfl rfl rfl (by omega)) rfl rfl rfl ?_
  refine J.eqv 30 rfl (show _ = (.int .u8 ((b.toNat % 60 : Nat) : Int)) from (congrArg (Value.int .u8) (Int.ofNat_tmod b.toNat 60).symm)) ?_
  refine J.y (yl_convInt rfl rfl Tryz.underlying5 Tryz.underlying3) rfl rfl rfl ?_
  refine J.eqv 31 rfl (show _ = i64 (m : Int) from (by rw [hm]; exact congrArg (Value.int .i64) (w64 (by omega)))) ?_
  refine J.y (yl_assign rfl rfl) rfl rfl rfl ?_
  refine J.y (yl_assign rfl rfl) rfl rfl rfl ?_
  refine J.nil ?_
  refine Ej.seq ?_
  refine Cj.seq ?_
  refine Cj.region ?_
  refine J.y (yl_assign rfl rfl) rfl rfl rfl ?_
  refine J.y (yl_assign rfl rfl) rfl rfl rfl ?_
  refine J.y (yl_assign rfl rfl) rfl rfl rfl ?_
  refine J.y (yl_assign rfl rfl) rfl rfl rfl ?_
  refine J.nil ?_
  refine Ej.seq ?_
  refine Cj.seq ?_
  refine Cj.seq ?_
  refine Cj.region ?_
  refine J.y (yl_assign rfl rfl) rfl rfl rfl ?_
  refine J.nil ?_
  refine Ej.seq ?_
  refine Cj.block ?_
  refine Cj.loop (ι := Nat) (fun j => j ≤ n) (fun j => n - j) (fun j => [(5, .bool true), (6, i64 (n : Int)), (7, i64 (m : Int)), (8, str (List.replicate j 40)), (9, str (List.replicate j 41)), (10, str []), (11, str []), (12, i64 (j : Int))]) (fun j => _) (fun j => []) 0 (Nat.zero_le _) ⟨rfl, rfl, rfl, rfl, rfl, rfl, rfl, rfl, trivial⟩ rfl rfl ?_
  intro j hj
  have hjl : (List.replicate j (40 : UInt8)).length = j := List.length_replicate
  have hjl2 : (List.replicate j (41 : UInt8)).length = j := List.length_replicate
  refine Cj.seq ?_
  refine Cj.seq ?_
  refine Cj.region ?_
  refine J.y (yl_move rfl rfl) rfl rfl rfl ?_
  refine J.y (yl_move rfl rfl) rfl rfl rfl ?_
  refine J.y (yl_lss rfl rfl rfl) rfl rfl rfl ?_
  refine J.nil ?_
  refine Ej.seq ?_
  refine Cj.cond rfl (fun hc1 => ?_) (fun hc1 => ?_)
  ·
    have hc1p := of_decide_eq_true hc1
    refine Cj.skip ?_
    refine Ej.seq ?_
    refine Cj.seq ?_
    refine Cj.block ?_
    refine Cj.seq ?_
    refine Cj.region ?_
    refine J.y (yl_move rfl rfl) rfl rfl rfl ?_
    refine J.y (yl_cat rfl rfl rfl (by first | omega | (simp only [List.length_append]; omega) | (simp; omega))) rfl rfl rfl ?_
    refine J.y (yl_assign rfl rfl) rfl rfl rfl ?_
    refine J.nil ?_
    refine Ej.seq ?_
    refine Cj.region ?_
    refine J.y (yl_move rfl rfl) rfl rfl rfl ?_
    refine J.y (yl_cat rfl rfl rfl (by first | omega | (simp only [List.length_append]; omega) | (simp; omega))) rfl rfl rfl ?_
    refine J.y (yl_assign rfl rfl) rfl rfl rfl ?_
    refine J.nil ?_
    refine Ej.blkNormal ?_
    refine Ej.seq ?_
    refine Cj.region ?_
    refine J.y (yl_move rfl rfl) rfl rfl rfl ?_
    refine J.y (yl_add rfl rfl rfl (w64 (by omega))) rfl rfl rfl ?_
    refine J.y (yl_assign rfl rfl) rfl rfl rfl ?_
    refine J.nil ?_
    refine Ej.round (j + 1) (by omega) (by omega) ⟨rfl, rfl, rfl, (congrArg (fun z => some (str z)) List.replicate_succ'.symm), (congrArg (fun z => some (str z)) List.replicate_succ'.symm), rfl, rfl, rfl, trivial⟩ rfl rfl
  ·
    have hc1p := of_decide_eq_false hc1
    have hjn : n = j := by omega
    subst hjn
    refine Cj.exit ?_
    refine Ej.seqExit ?_
    refine Ej.loopExit ?_
    refine Ej.blkExit ?_
    refine Ej.seq ?_
    refine Cj.seq ?_
    refine Cj.seq ?_
    refine Cj.region ?_
    refine J.y (yl_assign rfl rfl) rfl rfl rfl ?_
    refine J.nil ?_
    refine Ej.seq ?_
    refine Cj.block ?_
    refine Cj.loop (ι := Nat) (fun j => j ≤ m) (fun j => m - j) (fun j => [(5, .bool true), (6, i64 (n : Int)), (7, i64 (m : Int)), (8, str (List.replicate n 40)), (9, str (List.replicate n 41)), (10, str (Cq.xors j)), (11, str (List.replicate j 41)), (13, i64 (j : Int))]) (fun j => _) (fun j => []) 0 (Nat.zero_le _) ⟨rfl, rfl, rfl, rfl, rfl, rfl, rfl, rfl, trivial⟩ rfl rfl ?_
    intro j hj
    have hjl : (Cq.xors j).length = 6 * j := Cq.xors_len j
    have hjl2 : (List.replicate j (41 : UInt8)).length = j := List.length_replicate
    refine Cj.seq ?_
    refine Cj.seq ?_
    refine Cj.region ?_
    refine J.y (yl_move rfl rfl) rfl rfl rfl ?_
    refine J.y (yl_move rfl rfl) rfl rfl rfl ?_
    refine J.y (yl_lss rfl rfl rfl) rfl rfl rfl ?_
    refine J.nil ?_
    refine Ej.seq ?_
    refine Cj.cond rfl (fun hc2 => ?_) (fun hc2 => ?_)
    ·
      have hc2p := of_decide_eq_true hc2
      refine Cj.skip ?_
      refine Ej.seq ?_
      refine Cj.seq ?_
      refine Cj.block ?_
      refine Cj.seq ?_
      refine Cj.region ?_
      refine J.y (yl_move rfl rfl) rfl rfl rfl ?_
      refine J.y (yl_cat rfl rfl rfl (by first | omega | (simp only [List.length_append]; omega) | (simp; omega))) rfl rfl rfl ?_
      refine J.y (yl_assign rfl rfl) rfl rfl rfl ?_
      refine J.nil ?_
      refine Ej.seq ?_
      refine Cj.region ?_
      refine J.y (yl_move rfl rfl) rfl rfl rfl ?_
      refine J.y (yl_cat rfl rfl rfl (by first | omega | (simp only [List.length_append]; omega) | (simp; omega))) rfl rfl rfl ?_
      refine J.y (yl_assign rfl rfl) rfl rfl rfl ?_
      refine J.nil ?_
      refine Ej.blkNormal ?_
      refine Ej.seq ?_
      refine Cj.region ?_
      refine J.y (yl_move rfl rfl) rfl rfl rfl ?_
      refine J.y (yl_add rfl rfl rfl (w64 (by omega))) rfl rfl rfl ?_
      refine J.y (yl_assign rfl rfl) rfl rfl rfl ?_
      refine J.nil ?_
      refine Ej.round (j + 1) (by omega) (by omega) ⟨rfl, rfl, rfl, rfl, rfl, (congrArg (fun z => some (str z)) (Cq.xors_snoc j)), (congrArg (fun z => some (str z)) List.replicate_succ'.symm), rfl, trivial⟩ rfl rfl
    ·
      have hc2p := of_decide_eq_false hc2
      have hjm : m = j := by omega
      subst hjm
      refine Cj.exit ?_
      refine Ej.seqExit ?_
      refine Ej.loopExit ?_
      refine Ej.blkExit ?_
      refine Ej.seq ?_
      refine Cj.seq ?_
      refine Cj.region ?_
      refine J.y (yl_move rfl rfl) rfl rfl rfl ?_
      refine J.y (yl_cat rfl rfl rfl (by first | omega | (simp only [List.length_append]; omega) | (simp; omega))) rfl rfl rfl ?_
      refine J.y (yl_move rfl rfl) rfl rfl rfl ?_
      refine J.y (yl_cat rfl rfl rfl (by first | omega | (simp only [List.length_append]; omega) | (simp; omega))) rfl rfl rfl ?_
      refine J.eqv 53 rfl (show _ = str (Cq.nest n) from (by unfold Cq.nest; rw [List.append_assoc])) ?_
      refine J.y (yl_assign rfl rfl) rfl rfl rfl ?_
      refine J.nil ?_
      refine Ej.seq ?_
      refine Cj.seq ?_
      refine Cj.region ?_
      refine J.y (yl_move rfl rfl) rfl rfl rfl ?_
      by_cases h50 : 50 < n
      ·
        rw [if_pos h50] at hnp
        have hp1 := hnp
        refine J.op rfl (op_call (H1 := []) rfl rfl rfl rfl rfl (cParse_at (Cq.nest n) (by omega) Cq.zero 50 41 hp1 _ ht) ?_ (fun _ _ _ _ h => by obtain ⟨⟨_, _, h, _⟩, _⟩ := h; cases h) (fun _ _ h => by obtain ⟨⟨_, _, h, _⟩, _⟩ := h; cases h))
        intro v3 I4 H5 hle6 hp7
        have ht := ht.mono hle6
        obtain ⟨⟨p1, c1, h, hps1⟩, rfl⟩ := hp7; cases h
        refine J.y (yl_move rfl rfl) rfl rfl rfl ?_
        refine J.y (yl_extract rfl rfl rfl) rfl rfl rfl ?_
        refine J.y (yl_extract rfl rfl rfl) rfl rfl rfl ?_
        refine J.y (yl_extract rfl rfl rfl) rfl rfl rfl ?_
        refine J.op rfl (op_alloc rfl rfl rfl Tryz.zeroValue28 rfl ?_)
        intro b8 hb8
        refine J.op rfl (op_store 0 rfl rfl rfl rfl rfl rfl Tryz.sizeOf28 rfl rfl (LSpl.c (LSpl.c (LSpl.c (LSpl.c (LSpl.c LSpl.z))))) LSet.z ?_)
        refine J.y (yl_assign rfl rfl) rfl rfl rfl ?_
        refine J.y (yl_assign rfl rfl) rfl rfl rfl ?_
        refine J.nil ?_
        refine Ej.seq ?_
        refine Cj.seq ?_
        refine Cj.region ?_
        refine J.y (yl_assign rfl rfl) rfl rfl rfl ?_
        refine J.y (yl_assign rfl rfl) rfl rfl rfl ?_
        refine J.nil ?_
        refine Ej.seq ?_
        refine Cj.seq ?_
        refine Cj.seq ?_
        refine Cj.region ?_
        refine J.y (yl_move rfl rfl) rfl rfl rfl ?_
        refine J.y (yl_gtr rfl rfl rfl) rfl rfl rfl ?_
        refine J.nil ?_
        refine Ej.seq ?_
        refine Cj.cond rfl (fun hc9 => ?_) (fun hc9 => Bool.noConfusion (Eq.trans (Eq.symm (decide_eq_true (by omega))) hc9))
        refine Cj.region ?_
        refine J.y (yl_assign rfl rfl) rfl rfl rfl ?_
        refine J.y (yl_assign rfl rfl) rfl rfl rfl ?_
        refine J.nil ?_
        refine Ej.seq ?_
        refine Cj.seq ?_
        refine Cj.region ?_
        refine J.y (yl_move rfl rfl) rfl rfl rfl ?_
        refine J.y (yl_cat rfl rfl rfl (by first | omega | (simp only [List.length_append]; omega) | (simp; omega))) rfl rfl rfl ?_
        refine J.y (yl_cat rfl rfl rfl (by first | omega | (simp only [List.length_append]; omega) | (simp; omega))) rfl rfl rfl ?_
        refine J.y (yl_move rfl rfl) rfl rfl rfl ?_
        refine J.y (yl_cat rfl rfl rfl (by first | omega | (simp only [List.length_append]; omega) | (simp; omega))) rfl rfl rfl ?_
        refine J.eqv 67 rfl (show _ = str (Cq.nests m) from (by unfold Cq.nests; simp)) ?_
        by_cases m50 : 50 < m
        ·
          rw [if_pos m50] at hmp
          have hp2 : Cq.parse (Cq.nests m) = (q2, 306, 41) := Prod.ext hq2.symm hmp
          refine J.op rfl (op_call (H1 := []) rfl rfl rfl rfl rfl (cParse_at (Cq.nests m) (by omega) q2 306 41 hp2 _ ht) ?_ (fun _ _ _ _ h => by obtain ⟨⟨_, _, h, _⟩, _⟩ := h; cases h) (fun _ _ h => by obtain ⟨⟨_, _, h, _⟩, _⟩ := h; cases h))
          intro v10 I11 H12 hle13 hp14
          have ht := ht.mono hle13
          have hps1 := hps1.mono hle13
          obtain ⟨⟨p2, c2, h, hps2⟩, rfl⟩ := hp14; cases h
          refine J.y (yl_move rfl rfl) rfl rfl rfl ?_
          refine J.y (yl_extract rfl rfl rfl) rfl rfl rfl ?_
          refine J.y (yl_extract rfl rfl rfl) rfl rfl rfl ?_
          refine J.y (yl_extract rfl rfl rfl) rfl rfl rfl ?_
          refine J.op rfl (op_alloc rfl rfl rfl Tryz.zeroValue28 rfl ?_)
          intro b15 hb15
          refine J.op rfl (op_store 0 rfl rfl rfl rfl rfl rfl Tryz.sizeOf28 rfl rfl (LSpl.c (LSpl.c (LSpl.c (LSpl.c (LSpl.c LSpl.z))))) LSet.z ?_)
          refine J.y (yl_assign rfl rfl) rfl rfl rfl ?_
          refine J.y (yl_assign rfl rfl) rfl rfl rfl ?_
          refine J.nil ?_
          refine Ej.seq ?_
          refine Cj.seq ?_
          refine Cj.region ?_
          refine J.y (yl_assign rfl rfl) rfl rfl rfl ?_
          refine J.y (yl_assign rfl rfl) rfl rfl rfl ?_
          refine J.nil ?_
          refine Ej.seq ?_
          refine Cj.seq ?_
          refine Cj.seq ?_
          refine Cj.region ?_
          refine J.y (yl_move rfl rfl) rfl rfl rfl ?_
          refine J.y (yl_gtr rfl rfl rfl) rfl rfl rfl ?_
          refine J.nil ?_
          refine Ej.seq ?_
          refine Cj.cond rfl (fun hc16 => ?_) (fun hc16 => Bool.noConfusion (Eq.trans (Eq.symm (decide_eq_true (by omega))) hc16))
          refine Cj.region ?_
          refine J.y (yl_assign rfl rfl) rfl rfl rfl ?_
          refine J.y (yl_assign rfl rfl) rfl rfl rfl ?_
          refine J.nil ?_
          refine Ej.seq ?_
          refine Cj.seq ?_
          refine Cj.region ?_
          refine J.y (yl_move rfl rfl) rfl rfl rfl ?_
          refine J.y (yl_move rfl rfl) rfl rfl rfl ?_
          refine J.opG 1 75 true _ rfl rfl rfl rfl (op_yld (yl_move rfl rfl) rfl rfl ?_)
          refine J.opG 1 75 true _ rfl rfl rfl rfl (op_yld (yl_move rfl rfl) rfl rfl ?_)
          refine J.opG 1 75 true _ rfl rfl rfl rfl (op_yld (yl_eql rfl rfl rfl) rfl rfl ?_)
          refine J.y (yl_pick1 rfl rfl rfl rfl) rfl rfl rfl ?_
          refine J.y (yl_move rfl rfl) rfl rfl rfl ?_
          refine J.opG 6 80 true _ rfl rfl rfl (by first | rfl | decide) (op_yld (yl_move rfl rfl) rfl rfl ?_)
          refine J.opG 6 80 true _ rfl rfl rfl (by first | rfl | decide) (op_yld (yl_move rfl rfl) rfl rfl ?_)
          refine J.opG 6 80 true _ rfl rfl rfl (by first | rfl | decide) (op_yld (yl_eql rfl rfl rfl) rfl rfl ?_)
          refine J.y (yl_pick1 rfl rfl (by first | rfl | decide) rfl) rfl rfl rfl ?_
          refine J.y (yl_move rfl rfl) rfl rfl rfl ?_
          refine J.opG 11 85 true _ rfl rfl rfl (by first | rfl | decide) (op_yld (yl_move rfl rfl) rfl rfl ?_)
          refine J.opG 11 85 true _ rfl rfl rfl (by first | rfl | decide) (op_yld (yl_neq rfl rfl rfl) rfl rfl ?_)
          refine J.opG 11 85 true _ rfl rfl rfl (by first | rfl | decide) (op_yld (yl_move rfl rfl) rfl rfl ?_)
          refine J.skip 14 88 89 false _ rfl rfl rfl (by first | rfl | decide) rfl rfl ?_
          refine J.skip 14 88 90 false _ rfl rfl rfl (by first | rfl | decide) rfl rfl ?_
          refine J.skip 14 88 91 false _ rfl rfl rfl (by first | rfl | decide) rfl rfl ?_
          refine J.opG 11 85 true _ rfl rfl rfl (by first | rfl | decide) (op_yld (yl_pick1 rfl rfl (by first | rfl | decide) rfl) rfl rfl ?_)
          refine J.y (yl_pick1 rfl rfl (by first | rfl | decide) rfl) rfl rfl rfl ?_
          refine J.y (yl_move rfl rfl) rfl rfl rfl ?_
          refine J.opG 20 94 true _ rfl rfl rfl rfl (op_yld (yl_move rfl rfl) rfl rfl ?_)
          refine J.opG 20 94 true _ rfl rfl rfl rfl (op_yld (yl_move rfl rfl) rfl rfl ?_)
          refine J.opG 20 94 true _ rfl rfl rfl rfl (op_yld (yl_eql rfl rfl rfl) rfl rfl ?_)
          refine J.y (yl_pick1 rfl rfl rfl rfl) rfl rfl rfl ?_
          refine J.y (yl_move rfl rfl) rfl rfl rfl ?_
          refine J.opG 25 99 true _ rfl rfl rfl (by first | rfl | decide) (op_yld (yl_move rfl rfl) rfl rfl ?_)
          refine J.opG 25 99 true _ rfl rfl rfl (by first | rfl | decide) (op_yld (yl_move rfl rfl) rfl rfl ?_)
          refine J.opG 25 99 true _ rfl rfl rfl (by first | rfl | decide) (op_yld (yl_eql rfl rfl rfl) rfl rfl ?_)
          refine J.y (yl_pick1 rfl rfl (by first | rfl | decide) rfl) rfl rfl rfl ?_
          refine J.y (yl_move rfl rfl) rfl rfl rfl ?_
          refine J.opG 30 104 true _ rfl rfl rfl (by first | rfl | decide) (op_yld (yl_move rfl rfl) rfl rfl ?_)
          refine J.opG 30 104 true _ rfl rfl rfl (by first | rfl | decide) (op_yld (yl_neq rfl rfl rfl) rfl rfl ?_)
          refine J.opG 30 104 true _ rfl rfl rfl (by first | rfl | decide) (op_yld (yl_move rfl rfl) rfl rfl ?_)
          refine J.skip 33 107 108 false _ rfl rfl rfl (by first | rfl | decide) rfl rfl ?_
          refine J.skip 33 107 109 false _ rfl rfl rfl (by first | rfl | decide) rfl rfl ?_
          refine J.skip 33 107 110 false _ rfl rfl rfl (by first | rfl | decide) rfl rfl ?_
          refine J.skipU 36 110 111 true rfl rfl rfl rfl rfl ?_
          refine J.skipU 36 110 112 true rfl rfl rfl rfl rfl ?_
          refine J.skipU 36 110 113 true rfl rfl rfl rfl rfl ?_
          refine J.skip 33 107 114 false _ rfl rfl rfl (by first | rfl | decide) rfl rfl ?_
          refine J.opG 30 104 true _ rfl rfl rfl (by first | rfl | decide) (op_yld (yl_pick1 rfl rfl (by first | rfl | decide) rfl) rfl rfl ?_)
          refine J.y (yl_pick1 rfl rfl (by first | rfl | decide) rfl) rfl rfl rfl ?_
          refine J.y (yl_assign rfl rfl) rfl rfl rfl ?_
          refine J.nil ?_
          refine Ej.seq ?_
          refine Cj.ret ?_
          refine Ej.bare ?_
          refine Ej.ret1 rfl rfl rfl ?_
          exact ⟨rfl, rfl⟩
        ·
          rw [if_neg m50] at hmp
          have hp2 : Cq.parse (Cq.nests m) = (q2, 0, 0) := Prod.ext hq2.symm hmp
          have hrr : Cq.right q2 = true := (r1 (by rw [hmp])).1
          have hpl : (Cq.print q2).length ≤ 100000000 := by unfold Cq.print; rw [if_pos hrr]; have := Cq.write_le (Cq.right_of hrr).1; omega
          refine J.op rfl (op_call (H1 := []) rfl rfl rfl rfl rfl (cParse_at (Cq.nests m) (by omega) q2 0 0 hp2 _ ht) ?_ (fun _ _ _ _ h => by obtain ⟨⟨_, _, h, _⟩, _⟩ := h; cases h) (fun _ _ h => by obtain ⟨⟨_, _, h, _⟩, _⟩ := h; cases h))
          intro v17 I18 H19 hle20 hp21
          have ht := ht.mono hle20
          have hps1 := hps1.mono hle20
          obtain ⟨⟨p2, c2, h, hps2⟩, rfl⟩ := hp21; cases h
          refine J.y (yl_move rfl rfl) rfl rfl rfl ?_
          refine J.y (yl_extract rfl rfl rfl) rfl rfl rfl ?_
          refine J.y (yl_extract rfl rfl rfl) rfl rfl rfl ?_
          refine J.y (yl_extract rfl rfl rfl) rfl rfl rfl ?_
          refine J.op rfl (op_alloc rfl rfl rfl Tryz.zeroValue28 rfl ?_)
          intro b22 hb22
          refine J.op rfl (op_store 0 rfl rfl rfl rfl rfl rfl Tryz.sizeOf28 rfl rfl (LSpl.c (LSpl.c (LSpl.c (LSpl.c (LSpl.c LSpl.z))))) LSet.z ?_)
          refine J.y (yl_assign rfl rfl) rfl rfl rfl ?_
          refine J.y (yl_assign rfl rfl) rfl rfl rfl ?_
          refine J.nil ?_
          refine Ej.seq ?_
          refine Cj.seq ?_
          refine Cj.region ?_
          refine J.y (yl_assign rfl rfl) rfl rfl rfl ?_
          refine J.y (yl_assign rfl rfl) rfl rfl rfl ?_
          refine J.nil ?_
          refine Ej.seq ?_
          refine Cj.seq ?_
          refine Cj.seq ?_
          refine Cj.region ?_
          refine J.y (yl_move rfl rfl) rfl rfl rfl ?_
          refine J.y (yl_gtr rfl rfl rfl) rfl rfl rfl ?_
          refine J.nil ?_
          refine Ej.seq ?_
          refine Cj.cond rfl (fun hc23 => Bool.noConfusion (Eq.trans (Eq.symm (decide_eq_false (by omega))) hc23)) (fun hc23 => ?_)
          refine Cj.skip ?_
          refine Ej.seq ?_
          refine Cj.seq ?_
          refine Cj.region ?_
          refine J.y (yl_move rfl rfl) rfl rfl rfl ?_
          refine J.y (yl_move rfl rfl) rfl rfl rfl ?_
          refine J.opG 1 75 true _ rfl rfl rfl rfl (op_yld (yl_move rfl rfl) rfl rfl ?_)
          refine J.opG 1 75 true _ rfl rfl rfl rfl (op_yld (yl_move rfl rfl) rfl rfl ?_)
          refine J.opG 1 75 true _ rfl rfl rfl rfl (op_yld (yl_eql rfl rfl rfl) rfl rfl ?_)
          refine J.y (yl_pick1 rfl rfl rfl rfl) rfl rfl rfl ?_
          refine J.y (yl_move rfl rfl) rfl rfl rfl ?_
          refine J.opG 6 80 true _ rfl rfl rfl (by first | rfl | decide) (op_yld (yl_move rfl rfl) rfl rfl ?_)
          refine J.opG 6 80 true _ rfl rfl rfl (by first | rfl | decide) (op_yld (yl_move rfl rfl) rfl rfl ?_)
          refine J.opG 6 80 true _ rfl rfl rfl (by first | rfl | decide) (op_yld (yl_eql rfl rfl rfl) rfl rfl ?_)
          refine J.y (yl_pick1 rfl rfl (by first | rfl | decide) rfl) rfl rfl rfl ?_
          refine J.y (yl_move rfl rfl) rfl rfl rfl ?_
          refine J.opG 11 85 true _ rfl rfl rfl (by first | rfl | decide) (op_yld (yl_move rfl rfl) rfl rfl ?_)
          refine J.opG 11 85 true _ rfl rfl rfl (by first | rfl | decide) (op_yld (yl_neq rfl rfl rfl) rfl rfl ?_)
          refine J.opG 11 85 true _ rfl rfl rfl (by first | rfl | decide) (op_yld (yl_move rfl rfl) rfl rfl ?_)
          refine J.skip 14 88 89 false _ rfl rfl rfl (by first | rfl | decide) rfl rfl ?_
          refine J.skip 14 88 90 false _ rfl rfl rfl (by first | rfl | decide) rfl rfl ?_
          refine J.skip 14 88 91 false _ rfl rfl rfl (by first | rfl | decide) rfl rfl ?_
          refine J.opG 11 85 true _ rfl rfl rfl (by first | rfl | decide) (op_yld (yl_pick1 rfl rfl (by first | rfl | decide) rfl) rfl rfl ?_)
          refine J.y (yl_pick1 rfl rfl (by first | rfl | decide) rfl) rfl rfl rfl ?_
          refine J.y (yl_move rfl rfl) rfl rfl rfl ?_
          refine J.opG 20 94 true _ rfl rfl rfl rfl (op_yld (yl_move rfl rfl) rfl rfl ?_)
          refine J.opG 20 94 true _ rfl rfl rfl rfl (op_yld (yl_move rfl rfl) rfl rfl ?_)
          refine J.opG 20 94 true _ rfl rfl rfl rfl (op_yld (yl_eql rfl rfl rfl) rfl rfl ?_)
          refine J.y (yl_pick1 rfl rfl rfl rfl) rfl rfl rfl ?_
          refine J.y (yl_move rfl rfl) rfl rfl rfl ?_
          refine J.opG 25 99 true _ rfl rfl rfl (by first | rfl | decide) (op_yld (yl_move rfl rfl) rfl rfl ?_)
          refine J.opG 25 99 true _ rfl rfl rfl (by first | rfl | decide) (op_yld (yl_move rfl rfl) rfl rfl ?_)
          refine J.opG 25 99 true _ rfl rfl rfl (by first | rfl | decide) (op_yld (yl_eql rfl rfl rfl) rfl rfl ?_)
          refine J.y (yl_pick1 rfl rfl (by first | rfl | decide) rfl) rfl rfl rfl ?_
          refine J.y (yl_move rfl rfl) rfl rfl rfl ?_
          refine J.opG 30 104 true _ rfl rfl rfl (by first | rfl | decide) (op_yld (yl_move rfl rfl) rfl rfl ?_)
          refine J.opG 30 104 true _ rfl rfl rfl (by first | rfl | decide) (op_yld (yl_neq rfl rfl rfl) rfl rfl ?_)
          refine J.opG 30 104 true _ rfl rfl rfl (by first | rfl | decide) (op_yld (yl_move rfl rfl) rfl rfl ?_)
          refine J.opG 33 107 false _ rfl rfl rfl (by first | rfl | decide) (op_yld (yl_loadAgg rfl rfl Tryz.isAgg28 Tryz.sizeOf28 (Blk.at 0 rfl) rfl rfl) rfl rfl ?_)
          refine J.opG 33 107 false _ rfl rfl rfl (by first | rfl | decide) (op_pure rfl rfl rfl rfl rfl (cRight_ok q2 p2 c2 (by omega) (by omega) _ hps2) ?_)
          refine J.opG 33 107 false _ rfl rfl rfl (by first | rfl | decide) (op_yld (yl_move rfl rfl) rfl rfl ?_)
          refine J.opG 36 110 true _ rfl rfl rfl hrr (op_yld (yl_loadAgg rfl rfl Tryz.isAgg28 Tryz.sizeOf28 (Blk.at 0 rfl) rfl rfl) rfl rfl ?_)
          refine J.opG 36 110 true _ rfl rfl rfl hrr (op_pure rfl rfl rfl rfl rfl (cPrint_ok q2 p2 c2 (by omega) (by omega) z3 _ hps2) ?_)
          refine J.opG 36 110 true _ rfl rfl rfl hrr (op_pure rfl rfl rfl rfl rfl (agrees_ok (Cq.print q2) hpl _ ht) ?_)
          refine J.opG 33 107 false _ rfl rfl rfl (by first | rfl | decide) (op_yld (yl_pick1 rfl rfl hrr rfl) rfl rfl ?_)
          refine J.opG 30 104 true _ rfl rfl rfl (by first | rfl | decide) (op_yld (yl_pick0 rfl rfl (by first | rfl | decide) rfl) rfl rfl ?_)
          refine J.y (yl_pick1 rfl rfl (by first | rfl | decide) rfl) rfl rfl rfl ?_
          refine J.y (yl_assign rfl rfl) rfl rfl rfl ?_
          refine J.nil ?_
          refine Ej.seq ?_
          refine Cj.ret ?_
          refine Ej.bare ?_
          refine Ej.ret1 rfl rfl rfl ?_
          exact ⟨rfl, rfl⟩
      ·
        rw [if_neg h50] at hnp
        have hp1 := hnp
        refine J.op rfl (op_call (H1 := []) rfl rfl rfl rfl rfl (cParse_at (Cq.nest n) (by omega) (Cq.bareQ [99, 97, 116]) 0 0 hp1 _ ht) ?_ (fun _ _ _ _ h => by obtain ⟨⟨_, _, h, _⟩, _⟩ := h; cases h) (fun _ _ h => by obtain ⟨⟨_, _, h, _⟩, _⟩ := h; cases h))
        intro v24 I25 H26 hle27 hp28
        have ht := ht.mono hle27
        obtain ⟨⟨p1, c1, h, hps1⟩, rfl⟩ := hp28; cases h
        refine J.y (yl_move rfl rfl) rfl rfl rfl ?_
        refine J.y (yl_extract rfl rfl rfl) rfl rfl rfl ?_
        refine J.y (yl_extract rfl rfl rfl) rfl rfl rfl ?_
        refine J.y (yl_extract rfl rfl rfl) rfl rfl rfl ?_
        refine J.op rfl (op_alloc rfl rfl rfl Tryz.zeroValue28 rfl ?_)
        intro b29 hb29
        refine J.op rfl (op_store 0 rfl rfl rfl rfl rfl rfl Tryz.sizeOf28 rfl rfl (LSpl.c (LSpl.c (LSpl.c (LSpl.c (LSpl.c LSpl.z))))) LSet.z ?_)
        refine J.y (yl_assign rfl rfl) rfl rfl rfl ?_
        refine J.y (yl_assign rfl rfl) rfl rfl rfl ?_
        refine J.nil ?_
        refine Ej.seq ?_
        refine Cj.seq ?_
        refine Cj.region ?_
        refine J.y (yl_assign rfl rfl) rfl rfl rfl ?_
        refine J.y (yl_assign rfl rfl) rfl rfl rfl ?_
        refine J.nil ?_
        refine Ej.seq ?_
        refine Cj.seq ?_
        refine Cj.seq ?_
        refine Cj.region ?_
        refine J.y (yl_move rfl rfl) rfl rfl rfl ?_
        refine J.y (yl_gtr rfl rfl rfl) rfl rfl rfl ?_
        refine J.nil ?_
        refine Ej.seq ?_
        refine Cj.cond rfl (fun hc30 => Bool.noConfusion (Eq.trans (Eq.symm (decide_eq_false (by omega))) hc30)) (fun hc30 => ?_)
        refine Cj.skip ?_
        refine Ej.seq ?_
        refine Cj.seq ?_
        refine Cj.region ?_
        refine J.y (yl_move rfl rfl) rfl rfl rfl ?_
        refine J.y (yl_cat rfl rfl rfl (by first | omega | (simp only [List.length_append]; omega) | (simp; omega))) rfl rfl rfl ?_
        refine J.y (yl_cat rfl rfl rfl (by first | omega | (simp only [List.length_append]; omega) | (simp; omega))) rfl rfl rfl ?_
        refine J.y (yl_move rfl rfl) rfl rfl rfl ?_
        refine J.y (yl_cat rfl rfl rfl (by first | omega | (simp only [List.length_append]; omega) | (simp; omega))) rfl rfl rfl ?_
        refine J.eqv 67 rfl (show _ = str (Cq.nests m) from (by unfold Cq.nests; simp)) ?_
        by_cases m50 : 50 < m
        ·
          rw [if_pos m50] at hmp
          have hp2 : Cq.parse (Cq.nests m) = (q2, 306, 41) := Prod.ext hq2.symm hmp
          refine J.op rfl (op_call (H1 := []) rfl rfl rfl rfl rfl (cParse_at (Cq.nests m) (by omega) q2 306 41 hp2 _ ht) ?_ (fun _ _ _ _ h => by obtain ⟨⟨_, _, h, _⟩, _⟩ := h; cases h) (fun _ _ h => by obtain ⟨⟨_, _, h, _⟩, _⟩ := h; cases h))
          intro v31 I32 H33 hle34 hp35
          have ht := ht.mono hle34
          have hps1 := hps1.mono hle34
          obtain ⟨⟨p2, c2, h, hps2⟩, rfl⟩ := hp35; cases h
          refine J.y (yl_move rfl rfl) rfl rfl rfl ?_
          refine J.y (yl_extract rfl rfl rfl) rfl rfl rfl ?_
          refine J.y (yl_extract rfl rfl rfl) rfl rfl rfl ?_
          refine J.y (yl_extract rfl rfl rfl) rfl rfl rfl ?_
          refine J.op rfl (op_alloc rfl rfl rfl Tryz.zeroValue28 rfl ?_)
          intro b36 hb36
          refine J.op rfl (op_store 0 rfl rfl rfl rfl rfl rfl Tryz.sizeOf28 rfl rfl (LSpl.c (LSpl.c (LSpl.c (LSpl.c (LSpl.c LSpl.z))))) LSet.z ?_)
          refine J.y (yl_assign rfl rfl) rfl rfl rfl ?_
          refine J.y (yl_assign rfl rfl) rfl rfl rfl ?_
          refine J.nil ?_
          refine Ej.seq ?_
          refine Cj.seq ?_
          refine Cj.region ?_
          refine J.y (yl_assign rfl rfl) rfl rfl rfl ?_
          refine J.y (yl_assign rfl rfl) rfl rfl rfl ?_
          refine J.nil ?_
          refine Ej.seq ?_
          refine Cj.seq ?_
          refine Cj.seq ?_
          refine Cj.region ?_
          refine J.y (yl_move rfl rfl) rfl rfl rfl ?_
          refine J.y (yl_gtr rfl rfl rfl) rfl rfl rfl ?_
          refine J.nil ?_
          refine Ej.seq ?_
          refine Cj.cond rfl (fun hc37 => ?_) (fun hc37 => Bool.noConfusion (Eq.trans (Eq.symm (decide_eq_true (by omega))) hc37))
          refine Cj.region ?_
          refine J.y (yl_assign rfl rfl) rfl rfl rfl ?_
          refine J.y (yl_assign rfl rfl) rfl rfl rfl ?_
          refine J.nil ?_
          refine Ej.seq ?_
          refine Cj.seq ?_
          refine Cj.region ?_
          refine J.y (yl_move rfl rfl) rfl rfl rfl ?_
          refine J.y (yl_move rfl rfl) rfl rfl rfl ?_
          refine J.opG 1 75 true _ rfl rfl rfl rfl (op_yld (yl_move rfl rfl) rfl rfl ?_)
          refine J.opG 1 75 true _ rfl rfl rfl rfl (op_yld (yl_move rfl rfl) rfl rfl ?_)
          refine J.opG 1 75 true _ rfl rfl rfl rfl (op_yld (yl_eql rfl rfl rfl) rfl rfl ?_)
          refine J.y (yl_pick1 rfl rfl rfl rfl) rfl rfl rfl ?_
          refine J.y (yl_move rfl rfl) rfl rfl rfl ?_
          refine J.opG 6 80 true _ rfl rfl rfl (by first | rfl | decide) (op_yld (yl_move rfl rfl) rfl rfl ?_)
          refine J.opG 6 80 true _ rfl rfl rfl (by first | rfl | decide) (op_yld (yl_move rfl rfl) rfl rfl ?_)
          refine J.opG 6 80 true _ rfl rfl rfl (by first | rfl | decide) (op_yld (yl_eql rfl rfl rfl) rfl rfl ?_)
          refine J.y (yl_pick1 rfl rfl (by first | rfl | decide) rfl) rfl rfl rfl ?_
          refine J.y (yl_move rfl rfl) rfl rfl rfl ?_
          refine J.opG 11 85 true _ rfl rfl rfl (by first | rfl | decide) (op_yld (yl_move rfl rfl) rfl rfl ?_)
          refine J.opG 11 85 true _ rfl rfl rfl (by first | rfl | decide) (op_yld (yl_neq rfl rfl rfl) rfl rfl ?_)
          refine J.opG 11 85 true _ rfl rfl rfl (by first | rfl | decide) (op_yld (yl_move rfl rfl) rfl rfl ?_)
          refine J.opG 14 88 false _ rfl rfl rfl (by first | rfl | decide) (op_yld (yl_fieldAddr (off' := 3) rfl rfl Tryz.underlying28 rfl Tryz.sizeOf9 rfl) rfl rfl ?_)
          refine J.opG 14 88 false _ rfl rfl rfl (by first | rfl | decide) (op_yld (yl_load rfl rfl Tryz.isAgg9 (Blk.at 1 rfl) rfl) rfl rfl ?_)
          refine J.opG 14 88 false _ rfl rfl rfl (by first | rfl | decide) (op_yld (yl_eqlStr rfl rfl rfl) rfl rfl ?_)
          refine J.opG 11 85 true _ rfl rfl rfl (by first | rfl | decide) (op_yld (yl_pick0 rfl rfl (by first | rfl | decide) rfl) rfl rfl ?_)
          refine J.y (yl_pick1 rfl rfl (by first | rfl | decide) rfl) rfl rfl rfl ?_
          refine J.y (yl_move rfl rfl) rfl rfl rfl ?_
          refine J.opG 20 94 true _ rfl rfl rfl rfl (op_yld (yl_move rfl rfl) rfl rfl ?_)
          refine J.opG 20 94 true _ rfl rfl rfl rfl (op_yld (yl_move rfl rfl) rfl rfl ?_)
          refine J.opG 20 94 true _ rfl rfl rfl rfl (op_yld (yl_eql rfl rfl rfl) rfl rfl ?_)
          refine J.y (yl_pick1 rfl rfl rfl rfl) rfl rfl rfl ?_
          refine J.y (yl_move rfl rfl) rfl rfl rfl ?_
          refine J.opG 25 99 true _ rfl rfl rfl (by first | rfl | decide) (op_yld (yl_move rfl rfl) rfl rfl ?_)
          refine J.opG 25 99 true _ rfl rfl rfl (by first | rfl | decide) (op_yld (yl_move rfl rfl) rfl rfl ?_)
          refine J.opG 25 99 true _ rfl rfl rfl (by first | rfl | decide) (op_yld (yl_eql rfl rfl rfl) rfl rfl ?_)
          refine J.y (yl_pick1 rfl rfl (by first | rfl | decide) rfl) rfl rfl rfl ?_
          refine J.y (yl_move rfl rfl) rfl rfl rfl ?_
          refine J.opG 30 104 true _ rfl rfl rfl (by first | rfl | decide) (op_yld (yl_move rfl rfl) rfl rfl ?_)
          refine J.opG 30 104 true _ rfl rfl rfl (by first | rfl | decide) (op_yld (yl_neq rfl rfl rfl) rfl rfl ?_)
          refine J.opG 30 104 true _ rfl rfl rfl (by first | rfl | decide) (op_yld (yl_move rfl rfl) rfl rfl ?_)
          refine J.skip 33 107 108 false _ rfl rfl rfl (by first | rfl | decide) rfl rfl ?_
          refine J.skip 33 107 109 false _ rfl rfl rfl (by first | rfl | decide) rfl rfl ?_
          refine J.skip 33 107 110 false _ rfl rfl rfl (by first | rfl | decide) rfl rfl ?_
          refine J.skipU 36 110 111 true rfl rfl rfl rfl rfl ?_
          refine J.skipU 36 110 112 true rfl rfl rfl rfl rfl ?_
          refine J.skipU 36 110 113 true rfl rfl rfl rfl rfl ?_
          refine J.skip 33 107 114 false _ rfl rfl rfl (by first | rfl | decide) rfl rfl ?_
          refine J.opG 30 104 true _ rfl rfl rfl (by first | rfl | decide) (op_yld (yl_pick1 rfl rfl (by first | rfl | decide) rfl) rfl rfl ?_)
          refine J.y (yl_pick1 rfl rfl (by first | rfl | decide) rfl) rfl rfl rfl ?_
          refine J.y (yl_assign rfl rfl) rfl rfl rfl ?_
          refine J.nil ?_
          refine Ej.seq ?_
          refine Cj.ret ?_
          refine Ej.bare ?_
          refine Ej.ret1 rfl rfl rfl ?_
          exact ⟨rfl, rfl⟩
        ·
          rw [if_neg m50] at hmp
          have hp2 : Cq.parse (Cq.nests m) = (q2, 0, 0) := Prod.ext hq2.symm hmp
          have hrr : Cq.right q2 = true := (r1 (by rw [hmp])).1
          have hpl : (Cq.print q2).length ≤ 100000000 := by unfold Cq.print; rw [if_pos hrr]; have := Cq.write_le (Cq.right_of hrr).1; omega
          refine J.op rfl (op_call (H1 := []) rfl rfl rfl rfl rfl (cParse_at (Cq.nests m) (by omega) q2 0 0 hp2 _ ht) ?_ (fun _ _ _ _ h => by obtain ⟨⟨_, _, h, _⟩, _⟩ := h; cases h) (fun _ _ h => by obtain ⟨⟨_, _, h, _⟩, _⟩ := h; cases h))
          intro v38 I39 H40 hle41 hp42
          have ht := ht.mono hle41
          have hps1 := hps1.mono hle41
          obtain ⟨⟨p2, c2, h, hps2⟩, rfl⟩ := hp42; cases h
          refine J.y (yl_move rfl rfl) rfl rfl rfl ?_
          refine J.y (yl_extract rfl rfl rfl) rfl rfl rfl ?_
          refine J.y (yl_extract rfl rfl rfl) rfl rfl rfl ?_
          refine J.y (yl_extract rfl rfl rfl) rfl rfl rfl ?_
          refine J.op rfl (op_alloc rfl rfl rfl Tryz.zeroValue28 rfl ?_)
          intro b43 hb43
          refine J.op rfl (op_store 0 rfl rfl rfl rfl rfl rfl Tryz.sizeOf28 rfl rfl (LSpl.c (LSpl.c (LSpl.c (LSpl.c (LSpl.c LSpl.z))))) LSet.z ?_)
          refine J.y (yl_assign rfl rfl) rfl rfl rfl ?_
          refine J.y (yl_assign rfl rfl) rfl rfl rfl ?_
          refine J.nil ?_
          refine Ej.seq ?_
          refine Cj.seq ?_
          refine Cj.region ?_
          refine J.y (yl_assign rfl rfl) rfl rfl rfl ?_
          refine J.y (yl_assign rfl rfl) rfl rfl rfl ?_
          refine J.nil ?_
          refine Ej.seq ?_
          refine Cj.seq ?_
          refine Cj.seq ?_
          refine Cj.region ?_
          refine J.y (yl_move rfl rfl) rfl rfl rfl ?_
          refine J.y (yl_gtr rfl rfl rfl) rfl rfl rfl ?_
          refine J.nil ?_
          refine Ej.seq ?_
          refine Cj.cond rfl (fun hc44 => Bool.noConfusion (Eq.trans (Eq.symm (decide_eq_false (by omega))) hc44)) (fun hc44 => ?_)
          refine Cj.skip ?_
          refine Ej.seq ?_
          refine Cj.seq ?_
          refine Cj.region ?_
          refine J.y (yl_move rfl rfl) rfl rfl rfl ?_
          refine J.y (yl_move rfl rfl) rfl rfl rfl ?_
          refine J.opG 1 75 true _ rfl rfl rfl rfl (op_yld (yl_move rfl rfl) rfl rfl ?_)
          refine J.opG 1 75 true _ rfl rfl rfl rfl (op_yld (yl_move rfl rfl) rfl rfl ?_)
          refine J.opG 1 75 true _ rfl rfl rfl rfl (op_yld (yl_eql rfl rfl rfl) rfl rfl ?_)
          refine J.y (yl_pick1 rfl rfl rfl rfl) rfl rfl rfl ?_
          refine J.y (yl_move rfl rfl) rfl rfl rfl ?_
          refine J.opG 6 80 true _ rfl rfl rfl (by first | rfl | decide) (op_yld (yl_move rfl rfl) rfl rfl ?_)
          refine J.opG 6 80 true _ rfl rfl rfl (by first | rfl | decide) (op_yld (yl_move rfl rfl) rfl rfl ?_)
          refine J.opG 6 80 true _ rfl rfl rfl (by first | rfl | decide) (op_yld (yl_eql rfl rfl rfl) rfl rfl ?_)
          refine J.y (yl_pick1 rfl rfl (by first | rfl | decide) rfl) rfl rfl rfl ?_
          refine J.y (yl_move rfl rfl) rfl rfl rfl ?_
          refine J.opG 11 85 true _ rfl rfl rfl (by first | rfl | decide) (op_yld (yl_move rfl rfl) rfl rfl ?_)
          refine J.opG 11 85 true _ rfl rfl rfl (by first | rfl | decide) (op_yld (yl_neq rfl rfl rfl) rfl rfl ?_)
          refine J.opG 11 85 true _ rfl rfl rfl (by first | rfl | decide) (op_yld (yl_move rfl rfl) rfl rfl ?_)
          refine J.opG 14 88 false _ rfl rfl rfl (by first | rfl | decide) (op_yld (yl_fieldAddr (off' := 3) rfl rfl Tryz.underlying28 rfl Tryz.sizeOf9 rfl) rfl rfl ?_)
          refine J.opG 14 88 false _ rfl rfl rfl (by first | rfl | decide) (op_yld (yl_load rfl rfl Tryz.isAgg9 (Blk.at 1 rfl) rfl) rfl rfl ?_)
          refine J.opG 14 88 false _ rfl rfl rfl (by first | rfl | decide) (op_yld (yl_eqlStr rfl rfl rfl) rfl rfl ?_)
          refine J.opG 11 85 true _ rfl rfl rfl (by first | rfl | decide) (op_yld (yl_pick0 rfl rfl (by first | rfl | decide) rfl) rfl rfl ?_)
          refine J.y (yl_pick1 rfl rfl (by first | rfl | decide) rfl) rfl rfl rfl ?_
          refine J.y (yl_move rfl rfl) rfl rfl rfl ?_
          refine J.opG 20 94 true _ rfl rfl rfl rfl (op_yld (yl_move rfl rfl) rfl rfl ?_)
          refine J.opG 20 94 true _ rfl rfl rfl rfl (op_yld (yl_move rfl rfl) rfl rfl ?_)
          refine J.opG 20 94 true _ rfl rfl rfl rfl (op_yld (yl_eql rfl rfl rfl) rfl rfl ?_)
          refine J.y (yl_pick1 rfl rfl rfl rfl) rfl rfl rfl ?_
          refine J.y (yl_move rfl rfl) rfl rfl rfl ?_
          refine J.opG 25 99 true _ rfl rfl rfl (by first | rfl | decide) (op_yld (yl_move rfl rfl) rfl rfl ?_)
          refine J.opG 25 99 true _ rfl rfl rfl (by first | rfl | decide) (op_yld (yl_move rfl rfl) rfl rfl ?_)
          refine J.opG 25 99 true _ rfl rfl rfl (by first | rfl | decide) (op_yld (yl_eql rfl rfl rfl) rfl rfl ?_)
          refine J.y (yl_pick1 rfl rfl (by first | rfl | decide) rfl) rfl rfl rfl ?_
          refine J.y (yl_move rfl rfl) rfl rfl rfl ?_
          refine J.opG 30 104 true _ rfl rfl rfl (by first | rfl | decide) (op_yld (yl_move rfl rfl) rfl rfl ?_)
          refine J.opG 30 104 true _ rfl rfl rfl (by first | rfl | decide) (op_yld (yl_neq rfl rfl rfl) rfl rfl ?_)
          refine J.opG 30 104 true _ rfl rfl rfl (by first | rfl | decide) (op_yld (yl_move rfl rfl) rfl rfl ?_)
          refine J.opG 33 107 false _ rfl rfl rfl (by first | rfl | decide) (op_yld (yl_loadAgg rfl rfl Tryz.isAgg28 Tryz.sizeOf28 (Blk.at 0 rfl) rfl rfl) rfl rfl ?_)
          refine J.opG 33 107 false _ rfl rfl rfl (by first | rfl | decide) (op_pure rfl rfl rfl rfl rfl (cRight_ok q2 p2 c2 (by omega) (by omega) _ hps2) ?_)
          refine J.opG 33 107 false _ rfl rfl rfl (by first | rfl | decide) (op_yld (yl_move rfl rfl) rfl rfl ?_)
          refine J.opG 36 110 true _ rfl rfl rfl hrr (op_yld (yl_loadAgg rfl rfl Tryz.isAgg28 Tryz.sizeOf28 (Blk.at 0 rfl) rfl rfl) rfl rfl ?_)
          refine J.opG 36 110 true _ rfl rfl rfl hrr (op_pure rfl rfl rfl rfl rfl (cPrint_ok q2 p2 c2 (by omega) (by omega) z3 _ hps2) ?_)
          refine J.opG 36 110 true _ rfl rfl rfl hrr (op_pure rfl rfl rfl rfl rfl (agrees_ok (Cq.print q2) hpl _ ht) ?_)
          refine J.opG 33 107 false _ rfl rfl rfl (by first | rfl | decide) (op_yld (yl_pick1 rfl rfl hrr rfl) rfl rfl ?_)
          refine J.opG 30 104 true _ rfl rfl rfl (by first | rfl | decide) (op_yld (yl_pick0 rfl rfl (by first | rfl | decide) rfl) rfl rfl ?_)
          refine J.y (yl_pick1 rfl rfl (by first | rfl | decide) rfl) rfl rfl rfl ?_
          refine J.y (yl_assign rfl rfl) rfl rfl rfl ?_
          refine J.nil ?_
          refine Ej.seq ?_
          refine Cj.ret ?_
          refine Ej.bare ?_
          refine Ej.ret1 rfl rfl rfl ?_
          exact ⟨rfl, rfl⟩

end Go.Proofs.YtlfpehljahgbkaaGreatDoor
