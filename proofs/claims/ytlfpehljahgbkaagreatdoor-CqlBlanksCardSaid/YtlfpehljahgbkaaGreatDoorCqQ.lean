/-
  Contracts of cql's Parse and of what it defers. Own text, printed by a program. Conditions: none.
-/
import Derived.Test.YtlfpehljahgbkaaGreatDoorCqP
import Derived.Test.YtlfpehljahgbkaaGreatDoorSxLib
namespace Go.Proofs.YtlfpehljahgbkaaGreatDoor
open Go Go.Sx
set_option maxRecDepth 20000 in
theorem cParse1_ret (z2 z3 z4 : Nat) (I : Heap) : CtrD Tryz.prog 32 [ptr z2 0, ptr z3 0, ptr z4 0] .returning I [] (fun u' _I' H' => u' = .returning ∧ H' = []) := by
  refine CtrD.recover .nilIface .returning Tryz.func32 rfl (by decide) (Nat.le_of_ble_eq_true rfl) rfl rfl rfl rfl rfl rfl rfl rfl (fun c₀ cs hc => .inr ⟨by simp [recoverD, hc], rfl, rfl⟩) ?_
  intro w0 hw0
  refine Cj.seq ?_
  refine Cj.region ?_
  refine J.y (yl_move rfl rfl) rfl rfl rfl ?_
  refine J.y (yl_neqNil0 rfl rfl rfl Tryz.underlying20) rfl rfl rfl ?_
  refine J.nil ?_
  refine Ej.seq ?_
  refine Cj.cond rfl (fun hc1 => Bool.noConfusion (Eq.trans (Eq.symm rfl) hc1)) (fun hc1 => ?_)
  refine Cj.skip ?_
  refine Ej.end0 rfl rfl ?_
  exact ⟨⟨_, rfl⟩, rfl, rfl⟩

set_option maxRecDepth 20000 in
theorem cParse1_back (z2 z3 z4 p er : Nat) (y0 y1 y2 y3 y4 x3 x4 : Value) (I : Heap) : CtrD Tryz.prog 32 [ptr z2 0, ptr z3 0, ptr z4 0] (.panicking (faultC p er)) I [(z4, cel 32 [x4]), (z3, cel 3 [x3]), (z2, cel 28 [y0, y1, y2, y3, y4])]
    (fun u' _I' H' => u' = .panicking [{ v := .iface 69 (.agg #[i64 p, i64 er]), recovered := true }] ∧ H' = [(z4, cel 32 [i64 er]), (z3, cel 3 [i64 p]), (z2, cel 28 (qCells Cq.zero none 0))]) := by
  refine CtrD.recover (.iface 69 (.agg #[i64 p, i64 er])) (.panicking [{ v := .iface 69 (.agg #[i64 p, i64 er]), recovered := true }]) Tryz.func32 rfl (by decide) (Nat.le_of_ble_eq_true rfl) rfl rfl rfl rfl rfl rfl rfl rfl (fun c₀ cs hc => .inl (by simp [recoverD, hc, faultC])) ?_
  intro w0 hw0
  refine Cj.seq ?_
  refine Cj.region ?_
  refine J.y (yl_move rfl rfl) rfl rfl rfl ?_
  refine J.y (yl_neqNil1 rfl rfl rfl Tryz.underlying20) rfl rfl rfl ?_
  refine J.nil ?_
  refine Ej.seq ?_
  refine Cj.cond rfl (fun hc1 => ?_) (fun hc1 => Bool.noConfusion (Eq.trans (Eq.symm rfl) hc1))
  refine Cj.seq ?_
  refine Cj.region ?_
  refine J.y (yl_move rfl rfl) rfl rfl rfl ?_
  refine J.y (yl_typeAssertHit rfl rfl Tryz.underlying69 rfl) rfl rfl rfl ?_
  refine J.y (yl_move rfl rfl) rfl rfl rfl ?_
  refine J.y (yl_extract rfl rfl rfl) rfl rfl rfl ?_
  refine J.y (yl_extract rfl rfl rfl) rfl rfl rfl ?_
  refine J.op rfl (op_alloc rfl rfl rfl Tryz.zeroValue69 rfl ?_)
  intro b2 hb2
  refine J.op rfl (op_store 0 rfl rfl rfl rfl rfl rfl Tryz.sizeOf69 rfl rfl (LSpl.c (LSpl.c LSpl.z)) LSet.z ?_)
  refine J.y (yl_assign rfl rfl) rfl rfl rfl ?_
  refine J.nil ?_
  refine Ej.seq ?_
  refine Cj.seq ?_
  refine Cj.seq ?_
  refine Cj.region ?_
  refine J.y (yl_move rfl rfl) rfl rfl rfl ?_
  refine J.y (yl_not rfl rfl) rfl rfl rfl ?_
  refine J.nil ?_
  refine Ej.seq ?_
  refine Cj.cond rfl (fun hc3 => Bool.noConfusion (Eq.trans (Eq.symm (congrArg not rfl)) hc3)) (fun hc3 => ?_)
  refine Cj.skip ?_
  refine Ej.seq ?_
  refine Cj.drawSel [0] [] 8 (by kernel_rfl) ?_
  refine JA.take 0 rfl rfl (by kernel_rfl) (by kernel_rfl) (by kernel_rfl) (fun _ _ _ h => h) rfl rfl rfl (HSub.c 0 rfl HSub.n) CSub.n (Le.refl _) (yl_buildS (pl := #[(0, 1), (1, 1), (2, 1), (3, 1), (4, 1)]) rfl rfl Tryz.zeroValue28 rfl Tryz.underlying28 (fun w => by simp [Tryz.sizeOf26, Tryz.sizeOf3, Tryz.sizeOf9]) LBld.none) ?_
  refine JA.take 1 rfl rfl (by kernel_rfl) (by kernel_rfl) (by kernel_rfl) (fun _ _ _ h => h) rfl rfl rfl (HSub.c 0 rfl HSub.n) CSub.n (Le.refl _) (yl_fieldAddr (off' := 0) rfl rfl Tryz.underlying69 rfl Tryz.sizeOf3 rfl) ?_
  refine JA.take 2 rfl rfl (by kernel_rfl) (by kernel_rfl) (by kernel_rfl) (fun _ _ _ h => h) rfl rfl rfl (HSub.c 0 rfl HSub.n) CSub.n (Le.refl _) (yl_load rfl rfl Tryz.isAgg3 (Blk.atC 0 rfl) rfl) ?_
  refine JA.take 3 rfl rfl (by kernel_rfl) (by kernel_rfl) (by kernel_rfl) (fun _ _ _ h => h) rfl rfl rfl (HSub.c 0 rfl HSub.n) CSub.n (Le.refl _) (yl_fieldAddr (off' := 1) rfl rfl Tryz.underlying69 rfl Tryz.sizeOf32 rfl) ?_
  refine JA.take 4 rfl rfl (by kernel_rfl) (by kernel_rfl) (by kernel_rfl) (fun _ _ _ h => h) rfl rfl rfl (HSub.c 0 rfl HSub.n) CSub.n (Le.refl _) (yl_load rfl rfl Tryz.isAgg32 (Blk.atC 0 rfl) rfl) ?_
  refine JA.step 5 (by kernel_rfl) rfl rfl (op_store 3 rfl rfl rfl rfl rfl rfl Tryz.sizeOf28 rfl rfl (LSpl.c (LSpl.c (LSpl.c (LSpl.c (LSpl.c LSpl.z))))) (LSet.s (LSet.s (LSet.s LSet.z))) ?_)
  refine ⟨⟨(Le.refl _), (HSub.c 0 rfl HSub.n), CSub.n⟩, ?_⟩
  refine JA.step 6 (by kernel_rfl) rfl rfl (op_store 2 rfl rfl rfl rfl rfl rfl Tryz.sizeOf3 rfl rfl (LSpl.c LSpl.z) (LSet.s (LSet.s LSet.z)) ?_)
  refine ⟨⟨(Le.refl _), (HSub.c 0 rfl HSub.n), CSub.n⟩, ?_⟩
  refine JA.step 7 (by kernel_rfl) rfl rfl (op_store 1 rfl rfl rfl rfl rfl rfl Tryz.sizeOf32 rfl rfl (LSpl.c LSpl.z) (LSet.s LSet.z) ?_)
  refine ⟨⟨(Le.refl _), (HSub.c 0 rfl HSub.n), CSub.n⟩, ?_⟩
  refine JA.done (by kernel_rfl) ?_
  refine Ej.keep (Keeps.d Keeps.r) ?_
  refine Ej.end0 rfl rfl ?_
  exact ⟨⟨_, rfl⟩, rfl, rfl⟩

set_option maxRecDepth 20000 in
theorem cParse_ok (s : List UInt8) (hs : s.length ≤ 1000000000) (I : Heap) (ht : Tabs I) : Ctr Tryz.prog 18 [str s] I []
    (fun e I' H' => (∃ v, e = .returned (.tuple #[v, i64 (Cq.parse s).2.1, i64 (Cq.parse s).2.2]) ∧ QV I' (Cq.parse s).1 v) ∧ H' = []) := by
  refine Ctr.of_bodyD Tryz.func18 rfl (by decide) (Nat.le_of_ble_eq_true rfl) ?_
  intro w0 hw0
  refine Cj.seq ?_
  refine Cj.region ?_
  refine J.op rfl (op_alloc rfl rfl rfl Tryz.zeroValue28 rfl ?_)
  intro b1 hb1
  refine J.op rfl (op_alloc rfl rfl rfl Tryz.zeroValue3 rfl ?_)
  intro b2 hb2
  refine J.op rfl (op_alloc rfl rfl rfl Tryz.zeroValue32 rfl ?_)
  intro b3 hb3
  refine J.nil ?_
  refine Ej.seq ?_
  refine Cj.seq ?_
  refine Cj.region ?_
  refine J.y (yl_makeFunc rfl rfl rfl) rfl rfl rfl ?_
  refine J.defer rfl rfl rfl rfl rfl ?_
  refine J.nil ?_
  refine Ej.seq ?_
  refine Cj.seq ?_
  refine Cj.region ?_
  refine J.y (yl_move rfl rfl) rfl rfl rfl ?_
  refine J.y (yl_buildS (pl := #[(0, 1), (1, 1), (2, 3)]) rfl rfl Tryz.zeroValue76 rfl Tryz.underlying76 (fun w => by simp [Tryz.sizeOf3, Tryz.sizeOf74, Tryz.sizeOf9]) (LBld.part rfl rfl rfl (LSpl.c LSpl.z) LBld.none)) rfl rfl rfl ?_
  refine J.y (yl_buildS (pl := #[(0, 5), (5, 1)]) rfl rfl Tryz.zeroValue78 rfl Tryz.underlying78 (fun w => by simp [Tryz.sizeOf3, Tryz.sizeOf76]) (LBld.part rfl rfl rfl (LSpl.c (LSpl.c (LSpl.c (LSpl.c (LSpl.c LSpl.z))))) LBld.none)) rfl rfl rfl ?_
  refine J.op rfl (op_box rfl rfl rfl rfl rfl ?_)
  intro b4 hb4
  refine J.y (yl_assign rfl rfl) rfl rfl rfl ?_
  refine J.nil ?_
  refine Ej.seq ?_
  refine Cj.seq ?_
  refine Cj.region ?_
  refine J.y (yl_move rfl rfl) rfl rfl rfl ?_
  refine J.y (yl_nilCheck rfl rfl) rfl rfl rfl ?_
  refine J.y (yl_fieldAddr (off' := 0) rfl rfl Tryz.underlying78 rfl Tryz.sizeOf76 rfl) rfl rfl rfl ?_
  refine J.pull Pull.z ?_
  refine J.op rfl (op_call (H1 := [_]) rfl rfl rfl rfl rfl (scan_ok _ _ s 0 _ _ _ _ (by omega) hs _) ?_ (fun _ _ _ _ h => by cases h.1) (fun _ _ h => by cases h.1))
  intro v5 I6 H7 hle8 hp9
  have ht := ht.mono hle8
  obtain ⟨h, rfl⟩ := hp9; cases h
  refine J.nil ?_
  refine Ej.seq ?_
  refine Cj.seq ?_
  refine Cj.region ?_
  refine J.y (yl_move rfl rfl) rfl rfl rfl ?_
  rcases hq : Cq.query (4 * s.length + 9) 0 (Cq.tokens s) with ⟨q, ts2⟩ | ⟨pe, ee⟩
  ·
    skip
    refine J.pull Pull.z ?_
    refine J.op rfl (op_call (H1 := [_]) rfl rfl rfl rfl rfl ((by have h := cquery_ok (4 * s.length + 9) b4 (Cq.lex s 0).2 0 s (Cq.lex s 0).1 (Cq.tokens s) _ (Cq.Cur.start s) ht hs (by have := (Cq.Cur.start s).len; omega) (by omega); rw [hq] at h; exact h)) ?_ (fun _ _ _ _ h => by obtain ⟨_, _, _, h, _⟩ := h; cases h) (fun _ _ h => by obtain ⟨_, _, _, h, _⟩ := h; cases h))
    intro v10 I11 H12 hle13 hp14
    have ht := ht.mono hle13
    obtain ⟨vq, i2, t2, h, ⟨pq, cq, rfl, hps⟩, rfl, hcur3⟩ := hp14; cases h
    obtain ⟨r2, rfl⟩ := hcur3.cons
    refine J.op rfl (op_store 3 rfl rfl rfl rfl rfl rfl Tryz.sizeOf28 rfl rfl (LSpl.c (LSpl.c (LSpl.c (LSpl.c (LSpl.c LSpl.z))))) (LSet.s (LSet.s (LSet.s LSet.z))) ?_)
    refine J.nil ?_
    refine Ej.seq ?_
    refine Cj.seq ?_
    refine Cj.seq ?_
    refine Cj.region ?_
    refine J.y (yl_move rfl rfl) rfl rfl rfl ?_
    refine J.y (yl_nilCheck rfl rfl) rfl rfl rfl ?_
    refine J.y (yl_fieldAddr (off' := 0) rfl rfl Tryz.underlying78 rfl Tryz.sizeOf76 rfl) rfl rfl rfl ?_
    refine J.y (yl_fieldAddr (off' := 2) rfl rfl Tryz.underlying76 rfl Tryz.sizeOf74 rfl) rfl rfl rfl ?_
    refine J.y (yl_fieldAddr (off' := 2) rfl rfl Tryz.underlying74 rfl Tryz.sizeOf72 rfl) rfl rfl rfl ?_
    refine J.y (yl_load rfl rfl Tryz.isAgg72 (Blk.at 0 rfl) rfl) rfl rfl rfl ?_
    refine J.y (yl_neq rfl rfl rfl) rfl rfl rfl ?_
    refine J.nil ?_
    refine Ej.seq ?_
    refine Cj.cond rfl (fun hc15 => ?_) (fun hc15 => ?_)
    ·
      have hc15p := bne_iff_ne.1 hc15
      have hk0 : t2.kind ≠ 0 := by have := bne_iff_ne.1 hc15; omega
      refine Cj.region ?_
      refine J.y (yl_move rfl rfl) rfl rfl rfl ?_
      refine J.y (yl_move rfl rfl) rfl rfl rfl ?_
      refine J.y (yl_nilCheck rfl rfl) rfl rfl rfl ?_
      refine J.y (yl_fieldAddr (off' := 0) rfl rfl Tryz.underlying78 rfl Tryz.sizeOf76 rfl) rfl rfl rfl ?_
      refine J.y (yl_fieldAddr (off' := 2) rfl rfl Tryz.underlying76 rfl Tryz.sizeOf74 rfl) rfl rfl rfl ?_
      refine J.y (yl_loadAgg rfl rfl Tryz.isAgg74 Tryz.sizeOf74 (Blk.at 0 rfl) rfl rfl) rfl rfl rfl ?_
      refine J.op rfl (op_call (H1 := []) rfl rfl rfl rfl rfl (cfail_ok _ _ _ _) (fun _ _ _ _ h => by cases h.1) ?_ (fun _ _ h => by cases h.1))
      ·
        intro v16 I17 H18 hle19 hp20
        have ht := ht.mono hle19
        have hps := hps.mono hle19
        obtain ⟨h, rfl⟩ := hp20; cases h
        refine Ej.seqPanic ?_
        refine Ej.keep (Keeps.d (Keeps.k (Keeps.k (Keeps.k Keeps.n)))) ?_
        refine Ej.leave (H1 := [_, _, _]) (R1 := []) (.inr (.inr ⟨_, rfl, rfl⟩)) rfl (cParse1_back b1 b2 b3 t2.pos 40 _ _ _ _ _ _ _ _) ?_
        rintro u2 I2 H2 hle2 ⟨rfl, rfl⟩
        have hpar : Cq.parse s = (Cq.zero, t2.pos, 40) := by unfold Cq.parse; rw [hq]; simp [hk0]
        refine ⟨rfl, ResJ.cell3 (Keeps.d (Keeps.d (Keeps.d Keeps.n))) rfl rfl rfl rfl (Blk.at 2 rfl) (Blk.at 1 rfl) (Blk.at 0 rfl) Tryz.isAgg28 Tryz.isAgg3 Tryz.isAgg32 Tryz.sizeOf28 rfl ?_⟩
        rw [hpar]
        exact ⟨⟨_, rfl, none, 0, rfl, .inl rfl⟩, rfl⟩
    ·
      have hc15p := bne_f hc15
      have hk0 : t2.kind = 0 := by have := bne_f hc15; omega
      refine Cj.skip ?_
      refine Ej.seq ?_
      refine Cj.seq ?_
      refine Cj.region ?_
      refine J.y (yl_loadAgg rfl rfl Tryz.isAgg28 Tryz.sizeOf28 (Blk.at 3 rfl) rfl rfl) rfl rfl rfl ?_
      refine J.op rfl (op_store 3 rfl rfl rfl rfl rfl rfl Tryz.sizeOf28 rfl rfl (LSpl.c (LSpl.c (LSpl.c (LSpl.c (LSpl.c LSpl.z))))) (LSet.s (LSet.s (LSet.s LSet.z))) ?_)
      refine J.op rfl (op_store 2 rfl rfl rfl rfl rfl rfl Tryz.sizeOf3 rfl rfl (LSpl.c LSpl.z) (LSet.s (LSet.s LSet.z)) ?_)
      refine J.op rfl (op_store 1 rfl rfl rfl rfl rfl rfl Tryz.sizeOf32 rfl rfl (LSpl.c LSpl.z) (LSet.s LSet.z) ?_)
      refine J.nil ?_
      refine Ej.seq ?_
      refine Cj.ret ?_
      refine Ej.leave (H1 := []) (.inl ⟨rfl, rfl⟩) rfl (cParse1_ret b1 b2 b3 _) ?_
      rintro u2 I2 H2 hle2 ⟨rfl, rfl⟩
      have hps := hps.mono hle2
      have hpar : Cq.parse s = (q, 0, 0) := by unfold Cq.parse; rw [hq]; simp [hk0]
      refine ⟨rfl, ResJ.cell3 (Keeps.d (Keeps.d (Keeps.d (Keeps.d Keeps.n)))) rfl rfl rfl rfl (Blk.at 3 rfl) (Blk.at 2 rfl) (Blk.at 1 rfl) Tryz.isAgg28 Tryz.isAgg3 Tryz.isAgg32 Tryz.sizeOf28 rfl ?_⟩
      rw [hpar]
      exact ⟨⟨_, rfl, pq, cq, rfl, hps⟩, rfl⟩
  ·
    skip
    refine J.pull Pull.z ?_
    refine J.op rfl (op_call (H1 := [_]) rfl rfl rfl rfl rfl ((by have h := cquery_ok (4 * s.length + 9) b4 (Cq.lex s 0).2 0 s (Cq.lex s 0).1 (Cq.tokens s) _ (Cq.Cur.start s) ht hs (by have := (Cq.Cur.start s).len; omega) (by omega); rw [hq] at h; exact h)) (fun _ _ _ _ h => by cases h.1) ?_ (fun _ _ h => by cases h.1))
    ·
      intro v21 I22 H23 hle24 hp25
      have ht := ht.mono hle24
      obtain ⟨h, rfl⟩ := hp25; cases h
      refine Ej.seqPanic ?_
      refine Ej.leave (H1 := [_, _, _]) (R1 := []) (.inr (.inr ⟨_, rfl, rfl⟩)) rfl (cParse1_back b1 b2 b3 pe ee _ _ _ _ _ _ _ _) ?_
      rintro u2 I2 H2 hle2 ⟨rfl, rfl⟩
      have hpar : Cq.parse s = (Cq.zero, pe, ee) := by unfold Cq.parse; rw [hq]
      refine ⟨rfl, ResJ.cell3 (Keeps.d (Keeps.d (Keeps.d Keeps.n))) rfl rfl rfl rfl (Blk.at 2 rfl) (Blk.at 1 rfl) (Blk.at 0 rfl) Tryz.isAgg28 Tryz.isAgg3 Tryz.isAgg32 Tryz.sizeOf28 rfl ?_⟩
      rw [hpar]
      exact ⟨⟨_, rfl, none, 0, rfl, .inl rfl⟩, rfl⟩

end Go.Proofs.YtlfpehljahgbkaaGreatDoor
