/-
  Contracts of the reference's parser. Own text, printed by a program. Conditions: none.
-/
import Derived.Test.YtlfpehljahgbkaaGreatDoorCqB
namespace Go.Proofs.YtlfpehljahgbkaaGreatDoor
open Go Go.Sx
set_option maxRecDepth 20000 in
theorem rfail_ok (pb : Nat) (sl k deep a : Value) (t : Cq.Tok) (er : Nat) (I : Heap) : Ctr Tryz.prog 46 [ptr pb 0, tokV t, i64 er] I [(pb, cel 88 [sl, k, deep, a, i64 0])]
    (fun e _I' H' => e = .returned (.tuple #[]) ∧ H' = [(pb, cel 88 [sl, k, deep, i64 t.pos, i64 er])]) := by
  refine Ctr.of_body Tryz.func46 rfl (by decide) (Nat.le_of_ble_eq_true rfl) ?_
  intro w0 hw0
  refine Cj.seq ?_
  refine Cj.region ?_
  refine J.op rfl (op_box rfl rfl rfl rfl rfl ?_)
  intro b1 hb1
  refine J.nil ?_
  refine Ej.seq ?_
  refine Cj.seq ?_
  refine Cj.region ?_
  refine J.y (yl_move rfl rfl) rfl rfl rfl ?_
  refine J.y (yl_nilCheck rfl rfl) rfl rfl rfl ?_
  refine J.y (yl_fieldAddr (off' := 4) rfl rfl Tryz.underlying88 rfl Tryz.sizeOf32 rfl) rfl rfl rfl ?_
  refine J.y (yl_load rfl rfl Tryz.isAgg32 (Blk.at 1 rfl) rfl) rfl rfl rfl ?_
  refine J.y (yl_eql rfl rfl rfl) rfl rfl rfl ?_
  refine J.nil ?_
  refine Ej.seq ?_
  refine Cj.cond rfl (fun hc2 => ?_) (fun hc2 => Bool.noConfusion (Eq.trans (Eq.symm rfl) hc2))
  refine Cj.seq ?_
  refine Cj.region ?_
  refine J.y (yl_move rfl rfl) rfl rfl rfl ?_
  refine J.y (yl_fieldAddr (off' := 2) rfl rfl Tryz.underlying50 rfl Tryz.sizeOf3 rfl) rfl rfl rfl ?_
  refine J.y (yl_load rfl rfl Tryz.isAgg3 (Blk.at 0 rfl) rfl) rfl rfl rfl ?_
  refine J.y (yl_nilCheck rfl rfl) rfl rfl rfl ?_
  refine J.y (yl_fieldAddr (off' := 3) rfl rfl Tryz.underlying88 rfl Tryz.sizeOf3 rfl) rfl rfl rfl ?_
  refine J.op rfl (op_store 1 rfl rfl rfl rfl rfl rfl Tryz.sizeOf3 rfl rfl (LSpl.s (LSpl.s (LSpl.s (LSpl.c LSpl.z)))) (LSet.s LSet.z) ?_)
  refine J.nil ?_
  refine Ej.seq ?_
  refine Cj.region ?_
  refine J.y (yl_move rfl rfl) rfl rfl rfl ?_
  refine J.y (yl_move rfl rfl) rfl rfl rfl ?_
  refine J.y (yl_nilCheck rfl rfl) rfl rfl rfl ?_
  refine J.y (yl_fieldAddr (off' := 4) rfl rfl Tryz.underlying88 rfl Tryz.sizeOf32 rfl) rfl rfl rfl ?_
  refine J.op rfl (op_store 1 rfl rfl rfl rfl rfl rfl Tryz.sizeOf32 rfl rfl (LSpl.s (LSpl.s (LSpl.s (LSpl.s (LSpl.c LSpl.z))))) (LSet.s LSet.z) ?_)
  refine J.nil ?_
  refine Ej.keep (Keeps.d (Keeps.k Keeps.n)) ?_
  refine Ej.end0 rfl rfl ?_
  exact ⟨rfl, rfl⟩

set_option maxRecDepth 20000 in
theorem rterm_ok (pb bt ct k deep : Nat) (all : List Cq.Tok) (spt : List Value) (t : Cq.Tok) (r : List Cq.Tok) (I : Heap) (hpre : RPre I bt all spt k (t :: r)) :
    Ctr Tryz.prog 81 [ptr pb 0] I (RP pb bt ct all.length k deep 0 0) (fun e _I' H' => if Cq.isTerm t then e = .returned (str t.text) ∧ H' = RP pb bt ct all.length (k + 1) deep 0 0 else e = .returned (str []) ∧ H' = RP pb bt ct all.length k deep t.pos 40) := by
  have hbt := hpre.blk; have hlt := drop_lt hpre.drop; have htx := hpre.tx; have hal := hpre.len
  refine Ctr.of_body Tryz.func81 rfl (by decide) (Nat.le_of_ble_eq_true rfl) ?_
  intro w0 hw0
  refine Cj.seq ?_
  refine Cj.region ?_
  refine J.y (yl_assign rfl rfl) rfl rfl rfl ?_
  refine J.nil ?_
  refine Ej.seq ?_
  refine Cj.seq ?_
  refine Cj.drawSel [0] [] 12 (by kernel_rfl) ?_
  refine JA.take 0 rfl rfl (by kernel_rfl) (by kernel_rfl) (by kernel_rfl) (fun _ _ _ h => h) rfl rfl rfl (HSub.c 0 rfl HSub.n) CSub.n (Le.refl _) (yl_move rfl rfl) ?_
  refine JA.take 1 rfl rfl (by kernel_rfl) (by kernel_rfl) (by kernel_rfl) (fun _ _ _ h => h) rfl rfl rfl (HSub.c 0 rfl HSub.n) CSub.n (Le.refl _) (yl_nilCheck rfl rfl) ?_
  refine JA.take 2 rfl rfl (by kernel_rfl) (by kernel_rfl) (by kernel_rfl) (fun _ _ _ h => h) rfl rfl rfl (HSub.c 0 rfl HSub.n) CSub.n (Le.refl _) (yl_fieldAddr (off' := 0) rfl rfl Tryz.underlying88 rfl Tryz.sizeOf47 rfl) ?_
  refine JA.take 3 rfl rfl (by kernel_rfl) (by kernel_rfl) (by kernel_rfl) (fun _ _ _ h => h) rfl rfl rfl (HSub.c 0 rfl HSub.n) CSub.n (Le.refl _) (yl_load rfl rfl Tryz.isAgg47 (Blk.atC 0 rfl) rfl) ?_
  refine JA.take 4 rfl rfl (by kernel_rfl) (by kernel_rfl) (by kernel_rfl) (fun _ _ _ h => h) rfl rfl rfl (HSub.c 0 rfl HSub.n) CSub.n (Le.refl _) (yl_move rfl rfl) ?_
  refine JA.take 5 rfl rfl (by kernel_rfl) (by kernel_rfl) (by kernel_rfl) (fun _ _ _ h => h) rfl rfl rfl (HSub.c 0 rfl HSub.n) CSub.n (Le.refl _) (yl_nilCheck rfl rfl) ?_
  refine JA.take 6 rfl rfl (by kernel_rfl) (by kernel_rfl) (by kernel_rfl) (fun _ _ _ h => h) rfl rfl rfl (HSub.c 0 rfl HSub.n) CSub.n (Le.refl _) (yl_fieldAddr (off' := 1) rfl rfl Tryz.underlying88 rfl Tryz.sizeOf3 rfl) ?_
  refine JA.take 7 rfl rfl (by kernel_rfl) (by kernel_rfl) (by kernel_rfl) (fun _ _ _ h => h) rfl rfl rfl (HSub.c 0 rfl HSub.n) CSub.n (Le.refl _) (yl_load rfl rfl Tryz.isAgg3 (Blk.atC 0 rfl) rfl) ?_
  refine JA.take 8 rfl rfl (by kernel_rfl) (by kernel_rfl) (by kernel_rfl) (fun _ _ _ h => h) rfl rfl rfl (HSub.c 0 rfl HSub.n) CSub.n (Le.refl _) (yl_indexAddr (off' := k * 3) rfl rfl rfl Tryz.underlying47 Tryz.sizeOf50 (by omega) (by omega) (by simp)) ?_
  refine JA.take 9 rfl rfl (by kernel_rfl) (by kernel_rfl) (by kernel_rfl) (fun _ _ _ h => h) rfl rfl rfl (HSub.c 0 rfl HSub.n) CSub.n (Le.refl _) (yl_loadAgg rfl rfl Tryz.isAgg50 Tryz.sizeOf50 (Blk.immC hbt) (tok_at hpre.drop) rfl) ?_
  refine JA.step 10 (by kernel_rfl) rfl rfl (op_alloc rfl rfl rfl Tryz.zeroValue50 rfl ?_)
  intro b1 hb1
  refine ⟨⟨(Le.refl _), (HSub.c 1 rfl HSub.n), CSub.n⟩, ?_⟩
  refine JA.step 11 (by kernel_rfl) rfl rfl (op_store 0 rfl rfl rfl rfl rfl rfl Tryz.sizeOf50 rfl rfl (LSpl.c (LSpl.c (LSpl.c LSpl.z))) LSet.z ?_)
  refine ⟨⟨(Le.refl _), (HSub.c 1 rfl HSub.n), CSub.n⟩, ?_⟩
  refine JA.done (by kernel_rfl) ?_
  refine Ej.seq ?_
  refine Cj.seq ?_
  refine Cj.seq ?_
  refine Cj.region ?_
  refine J.y (yl_fieldAddr (off' := 0) rfl rfl Tryz.underlying50 rfl Tryz.sizeOf3 rfl) rfl rfl rfl ?_
  refine J.y (yl_load rfl rfl Tryz.isAgg3 (Blk.at 0 rfl) rfl) rfl rfl rfl ?_
  refine J.y (yl_neq rfl rfl rfl) rfl rfl rfl ?_
  refine J.y (yl_move rfl rfl) rfl rfl rfl ?_
  refine J.split 17 rfl (fun hg2 => ?_) (fun hg2 => ?_)
  ·
    have hk2 : t.kind ≠ 2 := by have := bne_iff_ne.1 hg2; omega
    refine J.opG 3 17 true _ rfl rfl rfl hg2 (op_yld (yl_fieldAddr (off' := 0) rfl rfl Tryz.underlying50 rfl Tryz.sizeOf3 rfl) rfl rfl ?_)
    refine J.opG 3 17 true _ rfl rfl rfl hg2 (op_yld (yl_load rfl rfl Tryz.isAgg3 (Blk.at 0 rfl) rfl) rfl rfl ?_)
    refine J.opG 3 17 true _ rfl rfl rfl hg2 (op_yld (yl_neq rfl rfl rfl) rfl rfl ?_)
    refine J.y (yl_pick1 rfl rfl hg2 rfl) rfl rfl rfl ?_
    refine J.y (yl_move rfl rfl) rfl rfl rfl ?_
    refine J.split 22 rfl (fun hg3 => ?_) (fun hg3 => ?_)
    ·
      have hk3 : t.kind ≠ 3 := by have := bne_iff_ne.1 hg3; omega
      have hT : Cq.isTerm t = false := by simp [Cq.isTerm, hk2, hk3]
      refine J.skip 8 22 23 false _ rfl rfl rfl hg3 rfl rfl ?_
      refine J.skip 8 22 24 false _ rfl rfl rfl hg3 rfl rfl ?_
      refine J.skip 8 22 25 false _ rfl rfl rfl hg3 rfl rfl ?_
      refine J.y (yl_pick1 rfl rfl hg3 rfl) rfl rfl rfl ?_
      refine J.nil ?_
      refine Ej.seq ?_
      refine Cj.cond rfl (fun hc4 => ?_) (fun hc4 => Bool.noConfusion (Eq.trans (Eq.symm rfl) hc4))
      refine Cj.seq ?_
      refine Cj.region ?_
      refine J.y (yl_move rfl rfl) rfl rfl rfl ?_
      refine J.y (yl_loadAgg rfl rfl Tryz.isAgg50 Tryz.sizeOf50 (Blk.at 0 rfl) rfl rfl) rfl rfl rfl ?_
      refine J.pull (Pull.s Pull.z) ?_
      refine J.op rfl (op_call (H1 := [_]) rfl rfl rfl rfl rfl (rfail_ok _ _ _ _ _ _ _ _) ?_ (fun _ _ _ _ h => by cases h.1) (fun _ _ h => by cases h.1))
      intro v5 I6 H7 hle8 hp9
      obtain ⟨hv5, rfl⟩ := hp9; cases hv5
      refine J.nil ?_
      refine Ej.seq ?_
      refine Cj.seq ?_
      refine Cj.region ?_
      refine J.y (yl_assign rfl rfl) rfl rfl rfl ?_
      refine J.nil ?_
      refine Ej.seq ?_
      refine Cj.ret ?_
      refine Ej.seqRet ?_
      refine Ej.keep (Keeps.k (Keeps.d Keeps.n)) ?_
      refine Ej.ret1 rfl rfl rfl ?_
      simp only [hT]
      exact ⟨by trivial, by trivial⟩
    ·
      have hk3 : t.kind = 3 := by have := bne_f hg3; omega
      refine J.opG 8 22 false _ rfl rfl rfl hg3 (op_yld (yl_loadAgg rfl rfl Tryz.isAgg50 Tryz.sizeOf50 (Blk.at 0 rfl) rfl rfl) rfl rfl ?_)
      refine J.opG 8 22 false _ rfl rfl rfl hg3 (op_pure rfl rfl rfl rfl rfl (operator_ok _ (by omega) _) ?_)
      refine J.opG 8 22 false _ rfl rfl rfl hg3 (op_yld (yl_gtr rfl rfl rfl) rfl rfl ?_)
      refine J.y (yl_pick0 rfl rfl hg3 rfl) rfl rfl rfl ?_
      refine J.nil ?_
      refine Ej.seq ?_
      refine Cj.cond rfl (fun hc10 => ?_) (fun hc10 => ?_)
      ·
        have hc10p := of_decide_eq_true hc10
        have hT : Cq.isTerm t = false := by have := of_decide_eq_true hc10; simp [Cq.isTerm]; omega
        refine Cj.seq ?_
        refine Cj.region ?_
        refine J.y (yl_move rfl rfl) rfl rfl rfl ?_
        refine J.y (yl_loadAgg rfl rfl Tryz.isAgg50 Tryz.sizeOf50 (Blk.at 0 rfl) rfl rfl) rfl rfl rfl ?_
        refine J.pull (Pull.s Pull.z) ?_
        refine J.op rfl (op_call (H1 := [_]) rfl rfl rfl rfl rfl (rfail_ok _ _ _ _ _ _ _ _) ?_ (fun _ _ _ _ h => by cases h.1) (fun _ _ h => by cases h.1))
        intro v11 I12 H13 hle14 hp15
        obtain ⟨hv11, rfl⟩ := hp15; cases hv11
        refine J.nil ?_
        refine Ej.seq ?_
        refine Cj.seq ?_
        refine Cj.region ?_
        refine J.y (yl_assign rfl rfl) rfl rfl rfl ?_
        refine J.nil ?_
        refine Ej.seq ?_
        refine Cj.ret ?_
        refine Ej.seqRet ?_
        refine Ej.keep (Keeps.k (Keeps.d Keeps.n)) ?_
        refine Ej.ret1 rfl rfl rfl ?_
        simp only [hT]
        exact ⟨by trivial, by trivial⟩
      ·
        have hc10p := of_decide_eq_false hc10
        have hT : Cq.isTerm t = true := by have := of_decide_eq_false hc10; simp [Cq.isTerm]; omega
        refine Cj.skip ?_
        refine Ej.seq ?_
        refine Cj.seq ?_
        refine Cj.region ?_
        refine J.y (yl_move rfl rfl) rfl rfl rfl ?_
        refine J.y (yl_nilCheck rfl rfl) rfl rfl rfl ?_
        refine J.y (yl_fieldAddr (off' := 1) rfl rfl Tryz.underlying88 rfl Tryz.sizeOf3 rfl) rfl rfl rfl ?_
        refine J.y (yl_load rfl rfl Tryz.isAgg3 (Blk.at 1 rfl) rfl) rfl rfl rfl ?_
        refine J.y (yl_add rfl rfl rfl (w64 (by omega))) rfl rfl rfl ?_
        refine J.y (yl_nilCheck rfl rfl) rfl rfl rfl ?_
        refine J.y (yl_fieldAddr (off' := 1) rfl rfl Tryz.underlying88 rfl Tryz.sizeOf3 rfl) rfl rfl rfl ?_
        refine J.op rfl (op_store 1 rfl rfl rfl rfl rfl rfl Tryz.sizeOf3 rfl rfl (LSpl.s (LSpl.c LSpl.z)) (LSet.s LSet.z) ?_)
        refine J.nil ?_
        refine Ej.seq ?_
        refine Cj.seq ?_
        refine Cj.region ?_
        refine J.y (yl_fieldAddr (off' := 1) rfl rfl Tryz.underlying50 rfl Tryz.sizeOf9 rfl) rfl rfl rfl ?_
        refine J.y (yl_load rfl rfl Tryz.isAgg9 (Blk.at 0 rfl) rfl) rfl rfl rfl ?_
        refine J.y (yl_assign rfl rfl) rfl rfl rfl ?_
        refine J.nil ?_
        refine Ej.seq ?_
        refine Cj.ret ?_
        refine Ej.keep (Keeps.d (Keeps.k Keeps.n)) ?_
        refine Ej.ret1 rfl rfl rfl ?_
        simp only [hT]
        exact ⟨by trivial, by trivial⟩
  ·
    have hk2 : t.kind = 2 := by have := bne_f hg2; omega
    refine J.skip 3 17 18 true _ rfl rfl rfl hg2 rfl rfl ?_
    refine J.skip 3 17 19 true _ rfl rfl rfl hg2 rfl rfl ?_
    refine J.skip 3 17 20 true _ rfl rfl rfl hg2 rfl rfl ?_
    refine J.y (yl_pick0 rfl rfl hg2 rfl) rfl rfl rfl ?_
    refine J.y (yl_move rfl rfl) rfl rfl rfl ?_
    refine J.opG 8 22 false _ rfl rfl rfl rfl (op_yld (yl_loadAgg rfl rfl Tryz.isAgg50 Tryz.sizeOf50 (Blk.at 0 rfl) rfl rfl) rfl rfl ?_)
    refine J.opG 8 22 false _ rfl rfl rfl rfl (op_pure rfl rfl rfl rfl rfl (operator_ok _ (by omega) _) ?_)
    refine J.opG 8 22 false _ rfl rfl rfl rfl (op_yld (yl_gtr rfl rfl rfl) rfl rfl ?_)
    refine J.y (yl_pick0 rfl rfl rfl rfl) rfl rfl rfl ?_
    refine J.nil ?_
    refine Ej.seq ?_
    refine Cj.cond rfl (fun hc16 => ?_) (fun hc16 => ?_)
    ·
      have hc16p := of_decide_eq_true hc16
      have hT : Cq.isTerm t = false := by have := of_decide_eq_true hc16; simp [Cq.isTerm]; omega
      refine Cj.seq ?_
      refine Cj.region ?_
      refine J.y (yl_move rfl rfl) rfl rfl rfl ?_
      refine J.y (yl_loadAgg rfl rfl Tryz.isAgg50 Tryz.sizeOf50 (Blk.at 0 rfl) rfl rfl) rfl rfl rfl ?_
      refine J.pull (Pull.s Pull.z) ?_
      refine J.op rfl (op_call (H1 := [_]) rfl rfl rfl rfl rfl (rfail_ok _ _ _ _ _ _ _ _) ?_ (fun _ _ _ _ h => by cases h.1) (fun _ _ h => by cases h.1))
      intro v17 I18 H19 hle20 hp21
      obtain ⟨hv17, rfl⟩ := hp21; cases hv17
      refine J.nil ?_
      refine Ej.seq ?_
      refine Cj.seq ?_
      refine Cj.region ?_
      refine J.y (yl_assign rfl rfl) rfl rfl rfl ?_
      refine J.nil ?_
      refine Ej.seq ?_
      refine Cj.ret ?_
      refine Ej.seqRet ?_
      refine Ej.keep (Keeps.k (Keeps.d Keeps.n)) ?_
      refine Ej.ret1 rfl rfl rfl ?_
      simp only [hT]
      exact ⟨by trivial, by trivial⟩
    ·
      have hc16p := of_decide_eq_false hc16
      have hT : Cq.isTerm t = true := by have := of_decide_eq_false hc16; simp [Cq.isTerm]; omega
      refine Cj.skip ?_
      refine Ej.seq ?_
      refine Cj.seq ?_
      refine Cj.region ?_
      refine J.y (yl_move rfl rfl) rfl rfl rfl ?_
      refine J.y (yl_nilCheck rfl rfl) rfl rfl rfl ?_
      refine J.y (yl_fieldAddr (off' := 1) rfl rfl Tryz.underlying88 rfl Tryz.sizeOf3 rfl) rfl rfl rfl ?_
      refine J.y (yl_load rfl rfl Tryz.isAgg3 (Blk.at 1 rfl) rfl) rfl rfl rfl ?_
      refine J.y (yl_add rfl rfl rfl (w64 (by omega))) rfl rfl rfl ?_
      refine J.y (yl_nilCheck rfl rfl) rfl rfl rfl ?_
      refine J.y (yl_fieldAddr (off' := 1) rfl rfl Tryz.underlying88 rfl Tryz.sizeOf3 rfl) rfl rfl rfl ?_
      refine J.op rfl (op_store 1 rfl rfl rfl rfl rfl rfl Tryz.sizeOf3 rfl rfl (LSpl.s (LSpl.c LSpl.z)) (LSet.s LSet.z) ?_)
      refine J.nil ?_
      refine Ej.seq ?_
      refine Cj.seq ?_
      refine Cj.region ?_
      refine J.y (yl_fieldAddr (off' := 1) rfl rfl Tryz.underlying50 rfl Tryz.sizeOf9 rfl) rfl rfl rfl ?_
      refine J.y (yl_load rfl rfl Tryz.isAgg9 (Blk.at 0 rfl) rfl) rfl rfl rfl ?_
      refine J.y (yl_assign rfl rfl) rfl rfl rfl ?_
      refine J.nil ?_
      refine Ej.seq ?_
      refine Cj.ret ?_
      refine Ej.keep (Keeps.d (Keeps.k Keeps.n)) ?_
      refine Ej.ret1 rfl rfl rfl ?_
      simp only [hT]
      exact ⟨by trivial, by trivial⟩

end Go.Proofs.YtlfpehljahgbkaaGreatDoor
