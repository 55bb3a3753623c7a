/-
  Contracts of cql's parser: is, fail, term. Own text, printed by a program. Conditions: none.
-/
import Derived.Test.YtlfpehljahgbkaaGreatDoorCqN
import Derived.Test.YtlfpehljahgbkaaGreatDoorSxLib
namespace Go.Proofs.YtlfpehljahgbkaaGreatDoor
open Go Go.Sx
/-- What fail throws. -/
def faultC (p e : Nat) : List PanicEntry := [{ v := .iface 69 (.agg #[i64 p, i64 e]), recovered := false }]
/-- The parser's block. -/
def PH (pb : Nat) (s : List UInt8) (i : Nat) (t : Cq.Tok) (deep : Nat) : HL := [(pb, cel 78 (str s :: i64 i :: tokR t [i64 deep]))]
set_option maxRecDepth 20000 in
theorem cfail_ok (x : Value) (t : Cq.Tok) (er : Nat) (I : Heap) : Ctr Tryz.prog 35 [x, tokV t, i64 er] I [] (fun e _I' H' => e = .panicked (faultC t.pos er) ∧ H' = []) := by
  refine Ctr.of_body Tryz.func35 rfl (by decide) (Nat.le_of_ble_eq_true rfl) ?_
  intro w0 hw0
  refine Cj.seq ?_
  refine Cj.region ?_
  refine J.op rfl (op_box rfl rfl rfl rfl rfl ?_)
  intro b1 hb1
  refine J.nil ?_
  refine Ej.seq ?_
  refine Cj.region ?_
  refine J.y (yl_fieldAddr (off' := 2) rfl rfl Tryz.underlying74 rfl Tryz.sizeOf3 rfl) rfl rfl rfl ?_
  refine J.y (yl_load rfl rfl Tryz.isAgg3 (Blk.at 0 rfl) rfl) rfl rfl rfl ?_
  refine J.y (yl_move rfl rfl) rfl rfl rfl ?_
  refine J.y (yl_buildS (pl := #[(0, 1), (1, 1)]) rfl rfl Tryz.zeroValue69 rfl Tryz.underlying69 (fun w => by simp [Tryz.sizeOf3, Tryz.sizeOf32]) (LBld.part rfl rfl rfl (LSpl.c LSpl.z) (LBld.part rfl rfl rfl (LSpl.s (LSpl.c LSpl.z)) LBld.none))) rfl rfl rfl ?_
  refine J.y (yl_makeIface rfl rfl Tryz.underlying69 rfl) rfl rfl rfl ?_
  refine J.op rfl (op_panic rfl rfl ?_)
  ·
    skip
    refine Ej.bare ?_
    refine Ej.pan rfl ?_
    exact ⟨rfl, rfl⟩

set_option maxRecDepth 20000 in
theorem cis_ok (pb : Nat) (s : List UInt8) (i : Nat) (t : Cq.Tok) (deep : Nat) (y : List UInt8) (I : Heap) : Ctr Tryz.prog 92 [ptr pb 0, str y] I (PH pb s i t deep) (fun e _I' H' => e = .returned (.bool (t.kind == 1 && t.text == y)) ∧ H' = PH pb s i t deep) := by
  refine Ctr.of_body Tryz.func92 rfl (by decide) (Nat.le_of_ble_eq_true rfl) ?_
  intro w0 hw0
  refine Cj.seq ?_
  refine Cj.region ?_
  refine J.y (yl_assign rfl rfl) rfl rfl rfl ?_
  refine J.nil ?_
  refine Ej.seq ?_
  refine Cj.seq ?_
  refine Cj.region ?_
  refine J.y (yl_move rfl rfl) rfl rfl rfl ?_
  refine J.y (yl_nilCheck rfl rfl) rfl rfl rfl ?_
  refine J.y (yl_fieldAddr (off' := 2) rfl rfl Tryz.underlying76 rfl Tryz.sizeOf74 rfl) rfl rfl rfl ?_
  refine J.y (yl_fieldAddr (off' := 2) rfl rfl Tryz.underlying74 rfl Tryz.sizeOf72 rfl) rfl rfl rfl ?_
  refine J.y (yl_load rfl rfl Tryz.isAgg72 (Blk.at 0 rfl) rfl) rfl rfl rfl ?_
  refine J.y (yl_eql rfl rfl rfl) rfl rfl rfl ?_
  refine J.y (yl_move rfl rfl) rfl rfl rfl ?_
  refine J.split 11 rfl (fun hg1 => ?_) (fun hg1 => ?_)
  ·
    refine J.opG 6 11 true _ rfl rfl rfl hg1 (op_yld (yl_move rfl rfl) rfl rfl ?_)
    refine J.opG 6 11 true _ rfl rfl rfl hg1 (op_yld (yl_nilCheck rfl rfl) rfl rfl ?_)
    refine J.opG 6 11 true _ rfl rfl rfl hg1 (op_yld (yl_fieldAddr (off' := 2) rfl rfl Tryz.underlying76 rfl Tryz.sizeOf74 rfl) rfl rfl ?_)
    refine J.opG 6 11 true _ rfl rfl rfl hg1 (op_yld (yl_fieldAddr (off' := 3) rfl rfl Tryz.underlying74 rfl Tryz.sizeOf9 rfl) rfl rfl ?_)
    refine J.opG 6 11 true _ rfl rfl rfl hg1 (op_yld (yl_load rfl rfl Tryz.isAgg9 (Blk.at 0 rfl) rfl) rfl rfl ?_)
    refine J.opG 6 11 true _ rfl rfl rfl hg1 (op_yld (yl_move rfl rfl) rfl rfl ?_)
    refine J.opG 6 11 true _ rfl rfl rfl hg1 (op_yld (yl_eqlStr rfl rfl rfl) rfl rfl ?_)
    refine J.y (yl_pick1 rfl rfl hg1 rfl) rfl rfl rfl ?_
    refine J.y (yl_assign rfl rfl) rfl rfl rfl ?_
    refine J.nil ?_
    refine Ej.seq ?_
    refine Cj.ret ?_
    refine Ej.ret1 rfl rfl rfl ?_
    refine ⟨?_, rfl⟩
    simp_all [nb1]
  ·
    refine J.skip 6 11 12 true _ rfl rfl rfl hg1 rfl rfl ?_
    refine J.skip 6 11 13 true _ rfl rfl rfl hg1 rfl rfl ?_
    refine J.skip 6 11 14 true _ rfl rfl rfl hg1 rfl rfl ?_
    refine J.skip 6 11 15 true _ rfl rfl rfl hg1 rfl rfl ?_
    refine J.skip 6 11 16 true _ rfl rfl rfl hg1 rfl rfl ?_
    refine J.skip 6 11 17 true _ rfl rfl rfl hg1 rfl rfl ?_
    refine J.skip 6 11 18 true _ rfl rfl rfl hg1 rfl rfl ?_
    refine J.y (yl_pick0 rfl rfl hg1 rfl) rfl rfl rfl ?_
    refine J.y (yl_assign rfl rfl) rfl rfl rfl ?_
    refine J.nil ?_
    refine Ej.seq ?_
    refine Cj.ret ?_
    refine Ej.ret1 rfl rfl rfl ?_
    refine ⟨?_, rfl⟩
    simp_all [nb1]

set_option maxRecDepth 20000 in
theorem cterm_ok (x : Value) (t : Cq.Tok) (hx : t.text.length ≤ 1000000000) (I : Heap) (ht : Tabs I) : Ctr Tryz.prog 76 [x, tokV t] I [] (fun e _I' H' => if Cq.isTerm t then e = .returned (str t.text) ∧ H' = [] else e = .panicked (faultC t.pos 40) ∧ H' = []) := by
  refine Ctr.of_body Tryz.func76 rfl (by decide) (Nat.le_of_ble_eq_true rfl) ?_
  intro w0 hw0
  refine Cj.seq ?_
  refine Cj.region ?_
  refine J.op rfl (op_box rfl rfl rfl rfl rfl ?_)
  intro b1 hb1
  refine J.y (yl_assign rfl rfl) rfl rfl rfl ?_
  refine J.nil ?_
  refine Ej.seq ?_
  refine Cj.seq ?_
  refine Cj.seq ?_
  refine Cj.region ?_
  refine J.y (yl_fieldAddr (off' := 0) rfl rfl Tryz.underlying74 rfl Tryz.sizeOf72 rfl) rfl rfl rfl ?_
  refine J.y (yl_load rfl rfl Tryz.isAgg72 (Blk.at 0 rfl) rfl) rfl rfl rfl ?_
  refine J.y (yl_neq rfl rfl rfl) rfl rfl rfl ?_
  refine J.y (yl_move rfl rfl) rfl rfl rfl ?_
  refine J.split 8 rfl (fun hg2 => ?_) (fun hg2 => ?_)
  ·
    have hk3 : t.kind ≠ 3 := by have := bne_iff_ne.1 hg2; omega
    refine J.opG 3 8 true _ rfl rfl rfl hg2 (op_yld (yl_fieldAddr (off' := 0) rfl rfl Tryz.underlying74 rfl Tryz.sizeOf72 rfl) rfl rfl ?_)
    refine J.opG 3 8 true _ rfl rfl rfl hg2 (op_yld (yl_load rfl rfl Tryz.isAgg72 (Blk.at 0 rfl) rfl) rfl rfl ?_)
    refine J.opG 3 8 true _ rfl rfl rfl hg2 (op_yld (yl_neq rfl rfl rfl) rfl rfl ?_)
    refine J.y (yl_pick1 rfl rfl hg2 rfl) rfl rfl rfl ?_
    refine J.y (yl_move rfl rfl) rfl rfl rfl ?_
    refine J.split 13 rfl (fun hg3 => ?_) (fun hg3 => ?_)
    ·
      have hk2 : t.kind ≠ 2 := by have := bne_iff_ne.1 hg3; omega
      have hT : Cq.isTerm t = false := by simp [Cq.isTerm, hk2, hk3]
      refine J.skip 8 13 14 false _ rfl rfl rfl hg3 rfl rfl ?_
      refine J.skip 8 13 15 false _ rfl rfl rfl hg3 rfl rfl ?_
      refine J.skip 8 13 16 false _ rfl rfl rfl hg3 rfl rfl ?_
      refine J.y (yl_pick1 rfl rfl hg3 rfl) rfl rfl rfl ?_
      refine J.nil ?_
      refine Ej.seq ?_
      refine Cj.cond rfl (fun hc4 => ?_) (fun hc4 => Bool.noConfusion (Eq.trans (Eq.symm rfl) hc4))
      refine Cj.region ?_
      refine J.y (yl_move rfl rfl) rfl rfl rfl ?_
      refine J.y (yl_loadAgg rfl rfl Tryz.isAgg74 Tryz.sizeOf74 (Blk.at 0 rfl) rfl rfl) rfl rfl rfl ?_
      refine J.op rfl (op_call (H1 := []) rfl rfl rfl rfl rfl (cfail_ok _ _ _ _) (fun _ _ _ _ h => by cases h.1) ?_ (fun _ _ h => by cases h.1))
      ·
        intro v5 I6 H7 hle8 hp9
        have ht := ht.mono hle8
        obtain ⟨h, rfl⟩ := hp9; cases h
        refine Ej.seqPanic ?_
        refine Ej.bare ?_
        refine Ej.pan rfl ?_
        exact (if_neg (by rw [hT]; decide)).mpr ⟨rfl, rfl⟩
    ·
      have hk2 : t.kind = 2 := by have := bne_f hg3; omega
      refine J.opG 8 13 false _ rfl rfl rfl hg3 (op_yld (yl_loadAgg rfl rfl Tryz.isAgg74 Tryz.sizeOf74 (Blk.at 0 rfl) rfl rfl) rfl rfl ?_)
      refine J.opG 8 13 false _ rfl rfl rfl hg3 (op_pure rfl rfl rfl rfl rfl (coperator_ok _ (by omega) _ ht) ?_)
      refine J.opG 8 13 false _ rfl rfl rfl hg3 (op_yld (yl_gtr rfl rfl rfl) rfl rfl ?_)
      refine J.y (yl_pick0 rfl rfl hg3 rfl) rfl rfl rfl ?_
      refine J.nil ?_
      refine Ej.seq ?_
      refine Cj.cond rfl (fun hc10 => ?_) (fun hc10 => ?_)
      ·
        have hc10p := of_decide_eq_true hc10
        have hT : Cq.isTerm t = false := by have := of_decide_eq_true hc10; simp [Cq.isTerm]; omega
        refine Cj.region ?_
        refine J.y (yl_move rfl rfl) rfl rfl rfl ?_
        refine J.y (yl_loadAgg rfl rfl Tryz.isAgg74 Tryz.sizeOf74 (Blk.at 0 rfl) rfl rfl) rfl rfl rfl ?_
        refine J.op rfl (op_call (H1 := []) rfl rfl rfl rfl rfl (cfail_ok _ _ _ _) (fun _ _ _ _ h => by cases h.1) ?_ (fun _ _ h => by cases h.1))
        ·
          intro v11 I12 H13 hle14 hp15
          have ht := ht.mono hle14
          obtain ⟨h, rfl⟩ := hp15; cases h
          refine Ej.seqPanic ?_
          refine Ej.bare ?_
          refine Ej.pan rfl ?_
          exact (if_neg (by rw [hT]; decide)).mpr ⟨rfl, rfl⟩
      ·
        have hc10p := of_decide_eq_false hc10
        have hT : Cq.isTerm t = true := by have := of_decide_eq_false hc10; simp [Cq.isTerm]; omega
        refine Cj.skip ?_
        refine Ej.seq ?_
        refine Cj.seq ?_
        refine Cj.region ?_
        refine J.y (yl_fieldAddr (off' := 1) rfl rfl Tryz.underlying74 rfl Tryz.sizeOf9 rfl) rfl rfl rfl ?_
        refine J.y (yl_load rfl rfl Tryz.isAgg9 (Blk.at 0 rfl) rfl) rfl rfl rfl ?_
        refine J.y (yl_assign rfl rfl) rfl rfl rfl ?_
        refine J.nil ?_
        refine Ej.seq ?_
        refine Cj.ret ?_
        refine Ej.bare ?_
        refine Ej.ret1 rfl rfl rfl ?_
        exact (if_pos hT).mpr ⟨rfl, rfl⟩
  ·
    have hk3 : t.kind = 3 := by have := bne_f hg2; omega
    refine J.skip 3 8 9 true _ rfl rfl rfl hg2 rfl rfl ?_
    refine J.skip 3 8 10 true _ rfl rfl rfl hg2 rfl rfl ?_
    refine J.skip 3 8 11 true _ rfl rfl rfl hg2 rfl rfl ?_
    refine J.y (yl_pick0 rfl rfl hg2 rfl) rfl rfl rfl ?_
    refine J.y (yl_move rfl rfl) rfl rfl rfl ?_
    refine J.opG 8 13 false _ rfl rfl rfl rfl (op_yld (yl_loadAgg rfl rfl Tryz.isAgg74 Tryz.sizeOf74 (Blk.at 0 rfl) rfl rfl) rfl rfl ?_)
    refine J.opG 8 13 false _ rfl rfl rfl rfl (op_pure rfl rfl rfl rfl rfl (coperator_ok _ (by omega) _ ht) ?_)
    refine J.opG 8 13 false _ rfl rfl rfl rfl (op_yld (yl_gtr rfl rfl rfl) rfl rfl ?_)
    refine J.y (yl_pick0 rfl rfl rfl rfl) rfl rfl rfl ?_
    refine J.nil ?_
    refine Ej.seq ?_
    refine Cj.cond rfl (fun hc16 => ?_) (fun hc16 => ?_)
    ·
      have hc16p := of_decide_eq_true hc16
      have hT : Cq.isTerm t = false := by have := of_decide_eq_true hc16; simp [Cq.isTerm]; omega
      refine Cj.region ?_
      refine J.y (yl_move rfl rfl) rfl rfl rfl ?_
      refine J.y (yl_loadAgg rfl rfl Tryz.isAgg74 Tryz.sizeOf74 (Blk.at 0 rfl) rfl rfl) rfl rfl rfl ?_
      refine J.op rfl (op_call (H1 := []) rfl rfl rfl rfl rfl (cfail_ok _ _ _ _) (fun _ _ _ _ h => by cases h.1) ?_ (fun _ _ h => by cases h.1))
      ·
        intro v17 I18 H19 hle20 hp21
        have ht := ht.mono hle20
        obtain ⟨h, rfl⟩ := hp21; cases h
        refine Ej.seqPanic ?_
        refine Ej.bare ?_
        refine Ej.pan rfl ?_
        exact (if_neg (by rw [hT]; decide)).mpr ⟨rfl, rfl⟩
    ·
      have hc16p := of_decide_eq_false hc16
      have hT : Cq.isTerm t = true := by have := of_decide_eq_false hc16; simp [Cq.isTerm]; omega
      refine Cj.skip ?_
      refine Ej.seq ?_
      refine Cj.seq ?_
      refine Cj.region ?_
      refine J.y (yl_fieldAddr (off' := 1) rfl rfl Tryz.underlying74 rfl Tryz.sizeOf9 rfl) rfl rfl rfl ?_
      refine J.y (yl_load rfl rfl Tryz.isAgg9 (Blk.at 0 rfl) rfl) rfl rfl rfl ?_
      refine J.y (yl_assign rfl rfl) rfl rfl rfl ?_
      refine J.nil ?_
      refine Ej.seq ?_
      refine Cj.ret ?_
      refine Ej.bare ?_
      refine Ej.ret1 rfl rfl rfl ?_
      exact (if_pos hT).mpr ⟨rfl, rfl⟩

end Go.Proofs.YtlfpehljahgbkaaGreatDoor
