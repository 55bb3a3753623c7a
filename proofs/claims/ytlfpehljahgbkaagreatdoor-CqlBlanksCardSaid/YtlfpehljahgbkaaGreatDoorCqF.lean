/-
  Contracts of the reference's form, depth, Right, text, print, Print, Same. Own text, printed by a program. Conditions: none.
-/
import Derived.Test.YtlfpehljahgbkaaGreatDoorCqForm
namespace Go.Proofs.YtlfpehljahgbkaaGreatDoor
open Go Go.Sx
theorem nb0 (a : Nat) : ((a : Int) == 0) = (a == 0) := nb a 0
def FormSpec (q : Cq.Qn) : Prop := ∀ (p : Option Addr) (c : Nat) (I : Heap), PS I q.ps p → Pure Tryz.prog 37 [.agg (qCells q p c).toArray] I (.bool (Cq.form q))
def DepthSpec (q : Cq.Qn) : Prop := ∀ (p : Option Addr) (c : Nat) (I : Heap), PS I q.ps p → Cq.form q = true → Cq.depth q ≤ 1000000000 → Pure Tryz.prog 38 [.agg (qCells q p c).toArray] I (i64 (Cq.depth q : Nat))
def PrintSpec (q : Cq.Qn) : Prop := ∀ (p : Option Addr) (c : Nat) (I : Heap), PS I q.ps p → Cq.form q = true → (Cq.write q).length ≤ 1000000000000 → Pure Tryz.prog 26 [.agg (qCells q p c).toArray] I (str (Cq.write q))
set_option maxRecDepth 20000 in
theorem form_step (q : Cq.Qn) (ih : ∀ q', Cq.Qn.size q' < q.size → FormSpec q') : FormSpec q := by
  intro p c I hps
  refine Ctr.toPure ?_
  refine Ctr.of_body Tryz.func37 rfl (by decide) (Nat.le_of_ble_eq_true rfl) ?_
  intro w0 hw0
  refine Cj.seq ?_
  refine Cj.region ?_
  refine J.op rfl (op_box rfl rfl rfl rfl rfl ?_)
  intro b1 hb1
  refine J.y (yl_assign rfl rfl) rfl rfl rfl ?_
  refine J.nil ?_
  refine Ej.seq ?_
  refine Cj.seq ?_
  refine Cj.seq ?_
  refine Cj.region ?_
  refine J.y (yl_fieldAddr (off' := 0) rfl rfl Tryz.underlying28 rfl Tryz.sizeOf3 rfl) rfl rfl rfl ?_
  refine J.y (yl_load rfl rfl Tryz.isAgg3 (Blk.at 0 rfl) rfl) rfl rfl rfl ?_
  refine J.y (yl_eql rfl rfl rfl) rfl rfl rfl ?_
  refine J.nil ?_
  refine Ej.seq ?_
  refine Cj.cond rfl (fun hc2 => ?_) (fun hc2 => ?_)
  ·
    have hc2p := eq_of_beq hc2
    have hk : q.k = 1 := by omega
    refine Cj.seq ?_
    refine Cj.drawSel [0] [] 5 (by kernel_rfl) ?_
    refine JA.take 1 rfl rfl (by kernel_rfl) (by kernel_rfl) (by kernel_rfl) (fun _ _ _ h => h) rfl rfl rfl (HSub.c 0 rfl HSub.n) CSub.n (Le.refl _) (yl_fieldAddr (off' := 1) rfl rfl Tryz.underlying28 rfl Tryz.sizeOf9 rfl) ?_
    refine JA.take 2 rfl rfl (by kernel_rfl) (by kernel_rfl) (by kernel_rfl) (fun _ _ _ h => h) rfl rfl rfl (HSub.c 0 rfl HSub.n) CSub.n (Le.refl _) (yl_load rfl rfl Tryz.isAgg9 (Blk.atC 0 rfl) rfl) ?_
    refine JA.step 0 (by kernel_rfl) rfl rfl (op_call (H1 := []) rfl rfl rfl rfl rfl (Indexes_ok _) ?_ (fun _ _ _ _ h => by obtain ⟨⟨_, h, _⟩, _⟩ := h; cases h) (fun _ _ h => by obtain ⟨⟨_, h, _⟩, _⟩ := h; cases h))
    intro v3 I4 H5 hle6 hp7
    have hps := hps.mono hle6
    obtain ⟨⟨v3x, hv3, hsv3⟩, rfl⟩ := hp7; cases hv3
    refine ⟨⟨(Le.trans (Le.refl _) hle6), (HSub.c 0 rfl HSub.n), CSub.n⟩, ?_⟩
    refine JA.step 3 (by kernel_rfl) rfl rfl (op_pure rfl rfl rfl rfl rfl (among_ok Cq.indexes _ _ (by decide) _ hsv3) ?_)
    refine ⟨⟨(Le.trans (Le.refl _) hle6), (HSub.c 0 rfl HSub.n), CSub.n⟩, ?_⟩
    refine JA.take 4 rfl rfl (by kernel_rfl) (by kernel_rfl) (by kernel_rfl) (fun _ _ _ h => h) rfl rfl rfl (HSub.c 0 rfl HSub.n) CSub.n (Le.trans (Le.refl _) hle6) (yl_assign rfl rfl) ?_
    refine JA.done (by kernel_rfl) ?_
    refine Ej.seq ?_
    refine Cj.seq ?_
    refine Cj.drawSel [0] [] 5 (by kernel_rfl) ?_
    refine JA.take 1 rfl rfl (by kernel_rfl) (by kernel_rfl) (by kernel_rfl) (fun _ _ _ h => h) rfl rfl rfl (HSub.c 0 rfl HSub.n) CSub.n (Le.refl _) (yl_fieldAddr (off' := 2) rfl rfl Tryz.underlying28 rfl Tryz.sizeOf9 rfl) ?_
    refine JA.take 2 rfl rfl (by kernel_rfl) (by kernel_rfl) (by kernel_rfl) (fun _ _ _ h => h) rfl rfl rfl (HSub.c 0 rfl HSub.n) CSub.n (Le.refl _) (yl_load rfl rfl Tryz.isAgg9 (Blk.atC 0 rfl) rfl) ?_
    refine JA.step 0 (by kernel_rfl) rfl rfl (op_call (H1 := []) rfl rfl rfl rfl rfl (Relations_ok _) ?_ (fun _ _ _ _ h => by obtain ⟨⟨_, h, _⟩, _⟩ := h; cases h) (fun _ _ h => by obtain ⟨⟨_, h, _⟩, _⟩ := h; cases h))
    intro v8 I9 H10 hle11 hp12
    have hps := hps.mono hle11
    have hsv3 := hsv3.mono hle11
    obtain ⟨⟨v8x, hv8, hsv8⟩, rfl⟩ := hp12; cases hv8
    refine ⟨⟨(Le.trans (Le.refl _) hle11), (HSub.c 0 rfl HSub.n), CSub.n⟩, ?_⟩
    refine JA.step 3 (by kernel_rfl) rfl rfl (op_pure rfl rfl rfl rfl rfl (among_ok Cq.relations _ _ (by decide) _ hsv8) ?_)
    refine ⟨⟨(Le.trans (Le.refl _) hle11), (HSub.c 0 rfl HSub.n), CSub.n⟩, ?_⟩
    refine JA.take 4 rfl rfl (by kernel_rfl) (by kernel_rfl) (by kernel_rfl) (fun _ _ _ h => h) rfl rfl rfl (HSub.c 0 rfl HSub.n) CSub.n (Le.trans (Le.refl _) hle11) (yl_assign rfl rfl) ?_
    refine JA.done (by kernel_rfl) ?_
    refine Ej.seq ?_
    refine Cj.seq ?_
    refine Cj.region ?_
    refine J.y (yl_move rfl rfl) rfl rfl rfl ?_
    refine J.y (yl_move rfl rfl) rfl rfl rfl ?_
    refine J.split 19 rfl (fun hg13 => ?_) (fun hg13 => ?_)
    ·
      refine J.opG 1 19 true _ rfl rfl rfl hg13 (op_yld (yl_move rfl rfl) rfl rfl ?_)
      refine J.y (yl_pick1 rfl rfl hg13 rfl) rfl rfl rfl ?_
      refine J.y (yl_move rfl rfl) rfl rfl rfl ?_
      refine J.split 22 rfl (fun hg14 => ?_) (fun hg14 => ?_)
      ·
        refine J.opG 4 22 true _ rfl rfl rfl hg14 (op_yld (yl_fieldAddr (off' := 4) rfl rfl Tryz.underlying28 rfl Tryz.sizeOf26 rfl) rfl rfl ?_)
        refine J.opG 4 22 true _ rfl rfl rfl hg14 (op_yld (yl_load rfl rfl Tryz.isAgg26 (Blk.at 0 rfl) rfl) rfl rfl ?_)
        refine J.opG 4 22 true _ rfl rfl rfl hg14 (op_yld (yl_lenSlice rfl rfl Tryz.underlying26) rfl rfl ?_)
        refine J.opG 4 22 true _ rfl rfl rfl hg14 (op_yld (yl_eql rfl rfl rfl) rfl rfl ?_)
        refine J.y (yl_pick1 rfl rfl hg14 rfl) rfl rfl rfl ?_
        refine J.y (yl_assign rfl rfl) rfl rfl rfl ?_
        refine J.nil ?_
        refine Ej.seq ?_
        refine Cj.ret ?_
        refine Ej.seqRet ?_
        refine Ej.bare ?_
        refine Ej.ret1 rfl rfl rfl ?_
        refine ⟨?_, rfl⟩
        rw [Cq.form_term hk]
        simp_all [nb0]
      ·
        refine J.skip 4 22 23 true _ rfl rfl rfl hg14 rfl rfl ?_
        refine J.skip 4 22 24 true _ rfl rfl rfl hg14 rfl rfl ?_
        refine J.skip 4 22 25 true _ rfl rfl rfl hg14 rfl rfl ?_
        refine J.skip 4 22 26 true _ rfl rfl rfl hg14 rfl rfl ?_
        refine J.y (yl_pick0 rfl rfl hg14 rfl) rfl rfl rfl ?_
        refine J.y (yl_assign rfl rfl) rfl rfl rfl ?_
        refine J.nil ?_
        refine Ej.seq ?_
        refine Cj.ret ?_
        refine Ej.seqRet ?_
        refine Ej.bare ?_
        refine Ej.ret1 rfl rfl rfl ?_
        refine ⟨?_, rfl⟩
        rw [Cq.form_term hk]
        simp_all []
    ·
      refine J.skip 1 19 20 true _ rfl rfl rfl hg13 rfl rfl ?_
      refine J.y (yl_pick0 rfl rfl hg13 rfl) rfl rfl rfl ?_
      refine J.y (yl_move rfl rfl) rfl rfl rfl ?_
      refine J.skip 4 22 23 true _ rfl rfl rfl rfl rfl rfl ?_
      refine J.skip 4 22 24 true _ rfl rfl rfl rfl rfl rfl ?_
      refine J.skip 4 22 25 true _ rfl rfl rfl rfl rfl rfl ?_
      refine J.skip 4 22 26 true _ rfl rfl rfl rfl rfl rfl ?_
      refine J.y (yl_pick0 rfl rfl rfl rfl) rfl rfl rfl ?_
      refine J.y (yl_assign rfl rfl) rfl rfl rfl ?_
      refine J.nil ?_
      refine Ej.seq ?_
      refine Cj.ret ?_
      refine Ej.seqRet ?_
      refine Ej.bare ?_
      refine Ej.ret1 rfl rfl rfl ?_
      refine ⟨?_, rfl⟩
      rw [Cq.form_term hk]
      simp_all []
  ·
    have hc2p := ne_of_beq_false hc2
    have hk : q.k ≠ 1 := by omega
    refine Cj.skip ?_
    refine Ej.seq ?_
    refine Cj.seq ?_
    refine Cj.seq ?_
    refine Cj.region ?_
    refine J.y (yl_fieldAddr (off' := 0) rfl rfl Tryz.underlying28 rfl Tryz.sizeOf3 rfl) rfl rfl rfl ?_
    refine J.y (yl_load rfl rfl Tryz.isAgg3 (Blk.at 0 rfl) rfl) rfl rfl rfl ?_
    refine J.y (yl_lss rfl rfl rfl) rfl rfl rfl ?_
    refine J.y (yl_move rfl rfl) rfl rfl rfl ?_
    refine J.split 31 rfl (fun hg15 => ?_) (fun hg15 => ?_)
    ·
      refine J.skip 3 31 32 false _ rfl rfl rfl hg15 rfl rfl ?_
      refine J.skip 3 31 33 false _ rfl rfl rfl hg15 rfl rfl ?_
      refine J.skip 3 31 34 false _ rfl rfl rfl hg15 rfl rfl ?_
      refine J.y (yl_pick1 rfl rfl hg15 rfl) rfl rfl rfl ?_
      refine J.y (yl_move rfl rfl) rfl rfl rfl ?_
      refine J.skip 8 36 37 false _ rfl rfl rfl rfl rfl rfl ?_
      refine J.skip 8 36 38 false _ rfl rfl rfl rfl rfl rfl ?_
      refine J.skip 8 36 39 false _ rfl rfl rfl rfl rfl rfl ?_
      refine J.y (yl_pick1 rfl rfl rfl rfl) rfl rfl rfl ?_
      refine J.y (yl_move rfl rfl) rfl rfl rfl ?_
      refine J.skip 13 41 42 false _ rfl rfl rfl rfl rfl rfl ?_
      refine J.skip 13 41 43 false _ rfl rfl rfl rfl rfl rfl ?_
      refine J.skip 13 41 44 false _ rfl rfl rfl rfl rfl rfl ?_
      refine J.y (yl_pick1 rfl rfl rfl rfl) rfl rfl rfl ?_
      refine J.y (yl_move rfl rfl) rfl rfl rfl ?_
      refine J.skip 18 46 47 false _ rfl rfl rfl rfl rfl rfl ?_
      refine J.skip 18 46 48 false _ rfl rfl rfl rfl rfl rfl ?_
      refine J.skip 18 46 49 false _ rfl rfl rfl rfl rfl rfl ?_
      refine J.y (yl_pick1 rfl rfl rfl rfl) rfl rfl rfl ?_
      refine J.y (yl_move rfl rfl) rfl rfl rfl ?_
      refine J.skip 23 51 52 false _ rfl rfl rfl rfl rfl rfl ?_
      refine J.skip 23 51 53 false _ rfl rfl rfl rfl rfl rfl ?_
      refine J.skip 23 51 54 false _ rfl rfl rfl rfl rfl rfl ?_
      refine J.skip 23 51 55 false _ rfl rfl rfl rfl rfl rfl ?_
      refine J.y (yl_pick1 rfl rfl rfl rfl) rfl rfl rfl ?_
      refine J.nil ?_
      refine Ej.seq ?_
      refine Cj.cond rfl (fun hc16 => ?_) (fun hc16 => Bool.noConfusion (Eq.trans (Eq.symm rfl) hc16))
      refine Cj.seq ?_
      refine Cj.region ?_
      refine J.y (yl_assign rfl rfl) rfl rfl rfl ?_
      refine J.nil ?_
      refine Ej.seq ?_
      refine Cj.ret ?_
      refine Ej.seqRet ?_
      refine Ej.bare ?_
      refine Ej.ret1 rfl rfl rfl ?_
      rw [Cq.form_bad hk (.inl (by have h := hg15; simp at h; omega))]; exact ⟨rfl, rfl⟩
    ·
      refine J.opG 3 31 false _ rfl rfl rfl hg15 (op_yld (yl_fieldAddr (off' := 0) rfl rfl Tryz.underlying28 rfl Tryz.sizeOf3 rfl) rfl rfl ?_)
      refine J.opG 3 31 false _ rfl rfl rfl hg15 (op_yld (yl_load rfl rfl Tryz.isAgg3 (Blk.at 0 rfl) rfl) rfl rfl ?_)
      refine J.opG 3 31 false _ rfl rfl rfl hg15 (op_yld (yl_gtr rfl rfl rfl) rfl rfl ?_)
      refine J.y (yl_pick0 rfl rfl hg15 rfl) rfl rfl rfl ?_
      refine J.y (yl_move rfl rfl) rfl rfl rfl ?_
      refine J.split 36 rfl (fun hg17 => ?_) (fun hg17 => ?_)
      ·
        refine J.skip 8 36 37 false _ rfl rfl rfl hg17 rfl rfl ?_
        refine J.skip 8 36 38 false _ rfl rfl rfl hg17 rfl rfl ?_
        refine J.skip 8 36 39 false _ rfl rfl rfl hg17 rfl rfl ?_
        refine J.y (yl_pick1 rfl rfl hg17 rfl) rfl rfl rfl ?_
        refine J.y (yl_move rfl rfl) rfl rfl rfl ?_
        refine J.skip 13 41 42 false _ rfl rfl rfl rfl rfl rfl ?_
        refine J.skip 13 41 43 false _ rfl rfl rfl rfl rfl rfl ?_
        refine J.skip 13 41 44 false _ rfl rfl rfl rfl rfl rfl ?_
        refine J.y (yl_pick1 rfl rfl rfl rfl) rfl rfl rfl ?_
        refine J.y (yl_move rfl rfl) rfl rfl rfl ?_
        refine J.skip 18 46 47 false _ rfl rfl rfl rfl rfl rfl ?_
        refine J.skip 18 46 48 false _ rfl rfl rfl rfl rfl rfl ?_
        refine J.skip 18 46 49 false _ rfl rfl rfl rfl rfl rfl ?_
        refine J.y (yl_pick1 rfl rfl rfl rfl) rfl rfl rfl ?_
        refine J.y (yl_move rfl rfl) rfl rfl rfl ?_
        refine J.skip 23 51 52 false _ rfl rfl rfl rfl rfl rfl ?_
        refine J.skip 23 51 53 false _ rfl rfl rfl rfl rfl rfl ?_
        refine J.skip 23 51 54 false _ rfl rfl rfl rfl rfl rfl ?_
        refine J.skip 23 51 55 false _ rfl rfl rfl rfl rfl rfl ?_
        refine J.y (yl_pick1 rfl rfl rfl rfl) rfl rfl rfl ?_
        refine J.nil ?_
        refine Ej.seq ?_
        refine Cj.cond rfl (fun hc18 => ?_) (fun hc18 => Bool.noConfusion (Eq.trans (Eq.symm rfl) hc18))
        refine Cj.seq ?_
        refine Cj.region ?_
        refine J.y (yl_assign rfl rfl) rfl rfl rfl ?_
        refine J.nil ?_
        refine Ej.seq ?_
        refine Cj.ret ?_
        refine Ej.seqRet ?_
        refine Ej.bare ?_
        refine Ej.ret1 rfl rfl rfl ?_
        rw [Cq.form_bad hk (.inr (.inl (by have h := hg17; simp at h; omega)))]; exact ⟨rfl, rfl⟩
      ·
        refine J.opG 8 36 false _ rfl rfl rfl hg17 (op_yld (yl_fieldAddr (off' := 1) rfl rfl Tryz.underlying28 rfl Tryz.sizeOf9 rfl) rfl rfl ?_)
        refine J.opG 8 36 false _ rfl rfl rfl hg17 (op_yld (yl_load rfl rfl Tryz.isAgg9 (Blk.at 0 rfl) rfl) rfl rfl ?_)
        refine J.opG 8 36 false _ rfl rfl rfl hg17 (op_yld (yl_neqStr rfl rfl rfl) rfl rfl ?_)
        refine J.y (yl_pick0 rfl rfl hg17 rfl) rfl rfl rfl ?_
        refine J.y (yl_move rfl rfl) rfl rfl rfl ?_
        refine J.split 41 rfl (fun hg19 => ?_) (fun hg19 => ?_)
        ·
          refine J.skip 13 41 42 false _ rfl rfl rfl hg19 rfl rfl ?_
          refine J.skip 13 41 43 false _ rfl rfl rfl hg19 rfl rfl ?_
          refine J.skip 13 41 44 false _ rfl rfl rfl hg19 rfl rfl ?_
          refine J.y (yl_pick1 rfl rfl hg19 rfl) rfl rfl rfl ?_
          refine J.y (yl_move rfl rfl) rfl rfl rfl ?_
          refine J.skip 18 46 47 false _ rfl rfl rfl rfl rfl rfl ?_
          refine J.skip 18 46 48 false _ rfl rfl rfl rfl rfl rfl ?_
          refine J.skip 18 46 49 false _ rfl rfl rfl rfl rfl rfl ?_
          refine J.y (yl_pick1 rfl rfl rfl rfl) rfl rfl rfl ?_
          refine J.y (yl_move rfl rfl) rfl rfl rfl ?_
          refine J.skip 23 51 52 false _ rfl rfl rfl rfl rfl rfl ?_
          refine J.skip 23 51 53 false _ rfl rfl rfl rfl rfl rfl ?_
          refine J.skip 23 51 54 false _ rfl rfl rfl rfl rfl rfl ?_
          refine J.skip 23 51 55 false _ rfl rfl rfl rfl rfl rfl ?_
          refine J.y (yl_pick1 rfl rfl rfl rfl) rfl rfl rfl ?_
          refine J.nil ?_
          refine Ej.seq ?_
          refine Cj.cond rfl (fun hc20 => ?_) (fun hc20 => Bool.noConfusion (Eq.trans (Eq.symm rfl) hc20))
          refine Cj.seq ?_
          refine Cj.region ?_
          refine J.y (yl_assign rfl rfl) rfl rfl rfl ?_
          refine J.nil ?_
          refine Ej.seq ?_
          refine Cj.ret ?_
          refine Ej.seqRet ?_
          refine Ej.bare ?_
          refine Ej.ret1 rfl rfl rfl ?_
          rw [Cq.form_bad hk (.inr (.inr (.inl (by have h := hg19; simp at h; exact h))))]; exact ⟨rfl, rfl⟩
        ·
          refine J.opG 13 41 false _ rfl rfl rfl hg19 (op_yld (yl_fieldAddr (off' := 2) rfl rfl Tryz.underlying28 rfl Tryz.sizeOf9 rfl) rfl rfl ?_)
          refine J.opG 13 41 false _ rfl rfl rfl hg19 (op_yld (yl_load rfl rfl Tryz.isAgg9 (Blk.at 0 rfl) rfl) rfl rfl ?_)
          refine J.opG 13 41 false _ rfl rfl rfl hg19 (op_yld (yl_neqStr rfl rfl rfl) rfl rfl ?_)
          refine J.y (yl_pick0 rfl rfl hg19 rfl) rfl rfl rfl ?_
          refine J.y (yl_move rfl rfl) rfl rfl rfl ?_
          refine J.split 46 rfl (fun hg21 => ?_) (fun hg21 => ?_)
          ·
            refine J.skip 18 46 47 false _ rfl rfl rfl hg21 rfl rfl ?_
            refine J.skip 18 46 48 false _ rfl rfl rfl hg21 rfl rfl ?_
            refine J.skip 18 46 49 false _ rfl rfl rfl hg21 rfl rfl ?_
            refine J.y (yl_pick1 rfl rfl hg21 rfl) rfl rfl rfl ?_
            refine J.y (yl_move rfl rfl) rfl rfl rfl ?_
            refine J.skip 23 51 52 false _ rfl rfl rfl rfl rfl rfl ?_
            refine J.skip 23 51 53 false _ rfl rfl rfl rfl rfl rfl ?_
            refine J.skip 23 51 54 false _ rfl rfl rfl rfl rfl rfl ?_
            refine J.skip 23 51 55 false _ rfl rfl rfl rfl rfl rfl ?_
            refine J.y (yl_pick1 rfl rfl rfl rfl) rfl rfl rfl ?_
            refine J.nil ?_
            refine Ej.seq ?_
            refine Cj.cond rfl (fun hc22 => ?_) (fun hc22 => Bool.noConfusion (Eq.trans (Eq.symm rfl) hc22))
            refine Cj.seq ?_
            refine Cj.region ?_
            refine J.y (yl_assign rfl rfl) rfl rfl rfl ?_
            refine J.nil ?_
            refine Ej.seq ?_
            refine Cj.ret ?_
            refine Ej.seqRet ?_
            refine Ej.bare ?_
            refine Ej.ret1 rfl rfl rfl ?_
            rw [Cq.form_bad hk (.inr (.inr (.inr (.inl (by have h := hg21; simp at h; exact h)))))]; exact ⟨rfl, rfl⟩
          ·
            refine J.opG 18 46 false _ rfl rfl rfl hg21 (op_yld (yl_fieldAddr (off' := 3) rfl rfl Tryz.underlying28 rfl Tryz.sizeOf9 rfl) rfl rfl ?_)
            refine J.opG 18 46 false _ rfl rfl rfl hg21 (op_yld (yl_load rfl rfl Tryz.isAgg9 (Blk.at 0 rfl) rfl) rfl rfl ?_)
            refine J.opG 18 46 false _ rfl rfl rfl hg21 (op_yld (yl_neqStr rfl rfl rfl) rfl rfl ?_)
            refine J.y (yl_pick0 rfl rfl hg21 rfl) rfl rfl rfl ?_
            refine J.y (yl_move rfl rfl) rfl rfl rfl ?_
            refine J.split 51 rfl (fun hg23 => ?_) (fun hg23 => ?_)
            ·
              refine J.skip 23 51 52 false _ rfl rfl rfl hg23 rfl rfl ?_
              refine J.skip 23 51 53 false _ rfl rfl rfl hg23 rfl rfl ?_
              refine J.skip 23 51 54 false _ rfl rfl rfl hg23 rfl rfl ?_
              refine J.skip 23 51 55 false _ rfl rfl rfl hg23 rfl rfl ?_
              refine J.y (yl_pick1 rfl rfl hg23 rfl) rfl rfl rfl ?_
              refine J.nil ?_
              refine Ej.seq ?_
              refine Cj.cond rfl (fun hc24 => ?_) (fun hc24 => Bool.noConfusion (Eq.trans (Eq.symm rfl) hc24))
              refine Cj.seq ?_
              refine Cj.region ?_
              refine J.y (yl_assign rfl rfl) rfl rfl rfl ?_
              refine J.nil ?_
              refine Ej.seq ?_
              refine Cj.ret ?_
              refine Ej.seqRet ?_
              refine Ej.bare ?_
              refine Ej.ret1 rfl rfl rfl ?_
              rw [Cq.form_bad hk (.inr (.inr (.inr (.inr (.inl (by have h := hg23; simp at h; exact h))))))]; exact ⟨rfl, rfl⟩
            ·
              refine J.opG 23 51 false _ rfl rfl rfl hg23 (op_yld (yl_fieldAddr (off' := 4) rfl rfl Tryz.underlying28 rfl Tryz.sizeOf26 rfl) rfl rfl ?_)
              refine J.opG 23 51 false _ rfl rfl rfl hg23 (op_yld (yl_load rfl rfl Tryz.isAgg26 (Blk.at 0 rfl) rfl) rfl rfl ?_)
              refine J.opG 23 51 false _ rfl rfl rfl hg23 (op_yld (yl_lenSlice rfl rfl Tryz.underlying26) rfl rfl ?_)
              refine J.opG 23 51 false _ rfl rfl rfl hg23 (op_yld (yl_neq rfl rfl rfl) rfl rfl ?_)
              refine J.y (yl_pick0 rfl rfl hg23 rfl) rfl rfl rfl ?_
              refine J.nil ?_
              refine Ej.seq ?_
              refine Cj.cond rfl (fun hc25 => ?_) (fun hc25 => ?_)
              ·
                have hc25p := bne_iff_ne.1 hc25
                refine Cj.seq ?_
                refine Cj.region ?_
                refine J.y (yl_assign rfl rfl) rfl rfl rfl ?_
                refine J.nil ?_
                refine Ej.seq ?_
                refine Cj.ret ?_
                refine Ej.seqRet ?_
                refine Ej.bare ?_
                refine Ej.ret1 rfl rfl rfl ?_
                rw [Cq.form_bad hk (.inr (.inr (.inr (.inr (.inr (by have h := hc25; simp at h; omega))))))]; exact ⟨rfl, rfl⟩
              ·
                have hc25p := bne_f hc25
                have hg31 := hg15
                have hg36 := hg17
                have hg41 := hg19
                have hg46 := hg21
                have hg51 := hg23
                have hg56 := hc25
                have hgood : ¬ (q.k < 2 ∨ q.k > 4 ∨ q.i ≠ [] ∨ q.r ≠ [] ∨ q.t ≠ [] ∨ q.ps.len ≠ 2) := by
                  simp at hg31 hg36 hg41 hg46 hg51 hg56
                  simp [hg41, hg46, hg51]; omega
                obtain ⟨qa, qb, htw⟩ := Cq.Qs.two_of (ps := q.ps) (by omega)
                change q.Two qa qb at htw
                have hln := htw.len
                obtain ⟨bl, off, cs', T, fr, pa, ca, pb, cb, rfl, hbl, hca, hcb, hkb, hpa, hpb⟩ := hps.two_at htw
                refine Cj.skip ?_
                refine Ej.seq ?_
                refine Cj.seq ?_
                refine Cj.region ?_
                refine J.y (yl_fieldAddr (off' := 4) rfl rfl Tryz.underlying28 rfl Tryz.sizeOf26 rfl) rfl rfl rfl ?_
                refine J.y (yl_load rfl rfl Tryz.isAgg26 (Blk.at 0 rfl) rfl) rfl rfl rfl ?_
                refine J.y (yl_indexAddr (off' := off) rfl rfl rfl Tryz.underlying26 Tryz.sizeOf28 (by omega) (by omega) (by simp)) rfl rfl rfl ?_
                refine J.y (yl_loadAgg rfl rfl Tryz.isAgg28 Tryz.sizeOf28 (Blk.imm hbl) hca rfl) rfl rfl rfl ?_
                refine J.op rfl (op_pure rfl rfl rfl rfl rfl (ih qa htw.size.1 pa ca _ hpa) ?_)
                refine J.y (yl_assign rfl rfl) rfl rfl rfl ?_
                refine J.nil ?_
                refine Ej.seq ?_
                refine Cj.seq ?_
                refine Cj.region ?_
                refine J.y (yl_fieldAddr (off' := 4) rfl rfl Tryz.underlying28 rfl Tryz.sizeOf26 rfl) rfl rfl rfl ?_
                refine J.y (yl_load rfl rfl Tryz.isAgg26 (Blk.at 0 rfl) rfl) rfl rfl rfl ?_
                refine J.y (yl_indexAddr (off' := off + 5) rfl rfl rfl Tryz.underlying26 Tryz.sizeOf28 (by omega) (by omega) (by simp)) rfl rfl rfl ?_
                refine J.y (yl_loadAgg rfl rfl Tryz.isAgg28 Tryz.sizeOf28 (Blk.imm hbl) hcb rfl) rfl rfl rfl ?_
                refine J.op rfl (op_pure rfl rfl rfl rfl rfl (ih qb htw.size.2 pb cb _ hpb) ?_)
                refine J.y (yl_assign rfl rfl) rfl rfl rfl ?_
                refine J.nil ?_
                refine Ej.seq ?_
                refine Cj.seq ?_
                refine Cj.region ?_
                refine J.y (yl_move rfl rfl) rfl rfl rfl ?_
                refine J.y (yl_move rfl rfl) rfl rfl rfl ?_
                refine J.split 68 rfl (fun hg26 => ?_) (fun hg26 => ?_)
                ·
                  refine J.opG 1 68 true _ rfl rfl rfl hg26 (op_yld (yl_move rfl rfl) rfl rfl ?_)
                  refine J.y (yl_pick1 rfl rfl hg26 rfl) rfl rfl rfl ?_
                  refine J.y (yl_assign rfl rfl) rfl rfl rfl ?_
                  refine J.nil ?_
                  refine Ej.seq ?_
                  refine Cj.ret ?_
                  refine Ej.bare ?_
                  refine Ej.ret1 rfl rfl rfl ?_
                  refine ⟨?_, rfl⟩
                  rw [Cq.form_two hk hgood htw]
                  simp_all
                ·
                  refine J.skip 1 68 69 true _ rfl rfl rfl hg26 rfl rfl ?_
                  refine J.y (yl_pick0 rfl rfl hg26 rfl) rfl rfl rfl ?_
                  refine J.y (yl_assign rfl rfl) rfl rfl rfl ?_
                  refine J.nil ?_
                  refine Ej.seq ?_
                  refine Cj.ret ?_
                  refine Ej.bare ?_
                  refine Ej.ret1 rfl rfl rfl ?_
                  refine ⟨?_, rfl⟩
                  rw [Cq.form_two hk hgood htw]
                  simp_all

theorem form_ok (q : Cq.Qn) : FormSpec q := by
  suffices ∀ n (q : Cq.Qn), q.size < n → FormSpec q from this _ q (Nat.lt_succ_self _)
  intro n
  induction n with
  | zero => intro q h; omega
  | succ n ih => intro q h; exact form_step q fun q' h' => ih q' (by omega)

set_option maxRecDepth 20000 in
theorem depth_step (q : Cq.Qn) (ih : ∀ q', Cq.Qn.size q' < q.size → DepthSpec q') : DepthSpec q := by
  intro p c I hps hform hdep
  refine Ctr.of_body Tryz.func38 rfl (by decide) (Nat.le_of_ble_eq_true rfl) ?_
  intro w0 hw0
  refine Cj.seq ?_
  refine Cj.region ?_
  refine J.op rfl (op_box rfl rfl rfl rfl rfl ?_)
  intro b1 hb1
  refine J.y (yl_assign rfl rfl) rfl rfl rfl ?_
  refine J.nil ?_
  refine Ej.seq ?_
  refine Cj.seq ?_
  refine Cj.seq ?_
  refine Cj.region ?_
  refine J.y (yl_fieldAddr (off' := 0) rfl rfl Tryz.underlying28 rfl Tryz.sizeOf3 rfl) rfl rfl rfl ?_
  refine J.y (yl_load rfl rfl Tryz.isAgg3 (Blk.at 0 rfl) rfl) rfl rfl rfl ?_
  refine J.y (yl_eql rfl rfl rfl) rfl rfl rfl ?_
  refine J.nil ?_
  refine Ej.seq ?_
  refine Cj.cond rfl (fun hc2 => ?_) (fun hc2 => ?_)
  ·
    have hc2p := eq_of_beq hc2
    have hk : q.k = 1 := by omega
    refine Cj.seq ?_
    refine Cj.region ?_
    refine J.y (yl_assign rfl rfl) rfl rfl rfl ?_
    refine J.nil ?_
    refine Ej.seq ?_
    refine Cj.ret ?_
    refine Ej.seqRet ?_
    refine Ej.bare ?_
    refine Ej.ret1 rfl rfl rfl ?_
    rw [Cq.depth_term hk]; exact ⟨rfl, rfl, rfl⟩
  ·
    have hc2p := ne_of_beq_false hc2
    have hk : q.k ≠ 1 := by omega
    obtain ⟨_, _, _, qa, qb, htw, hfa, hfb⟩ := (Cq.form_tree hform).resolve_left hk
    have hdd := Cq.depth_two hk htw
    have hup : Cq.up qb.k ≤ 1 := by unfold Cq.up; split <;> omega
    have hln := htw.len
    obtain ⟨bl, off, cs', T, fr, pa, ca, pb, cb, rfl, hbl, hca, hcb, hkb, hpa, hpb⟩ := hps.two_at htw
    refine Cj.skip ?_
    refine Ej.seq ?_
    refine Cj.seq ?_
    refine Cj.region ?_
    refine J.y (yl_fieldAddr (off' := 4) rfl rfl Tryz.underlying28 rfl Tryz.sizeOf26 rfl) rfl rfl rfl ?_
    refine J.y (yl_load rfl rfl Tryz.isAgg26 (Blk.at 0 rfl) rfl) rfl rfl rfl ?_
    refine J.y (yl_indexAddr (off' := off + 5) rfl rfl rfl Tryz.underlying26 Tryz.sizeOf28 (by omega) (by omega) (by simp)) rfl rfl rfl ?_
    refine J.y (yl_loadAgg rfl rfl Tryz.isAgg28 Tryz.sizeOf28 (Blk.imm hbl) hcb rfl) rfl rfl rfl ?_
    refine J.op rfl (op_pure rfl rfl rfl rfl rfl (ih qb htw.size.2 pb cb _ hpb hfb (by omega)) ?_)
    refine J.y (yl_assign rfl rfl) rfl rfl rfl ?_
    refine J.nil ?_
    refine Ej.seq ?_
    refine Cj.seq ?_
    refine Cj.seq ?_
    refine Cj.region ?_
    refine J.y (yl_fieldAddr (off' := 4) rfl rfl Tryz.underlying28 rfl Tryz.sizeOf26 rfl) rfl rfl rfl ?_
    refine J.y (yl_load rfl rfl Tryz.isAgg26 (Blk.at 0 rfl) rfl) rfl rfl rfl ?_
    refine J.y (yl_indexAddr (off' := off + 5) rfl rfl rfl Tryz.underlying26 Tryz.sizeOf28 (by omega) (by omega) (by simp)) rfl rfl rfl ?_
    refine J.y (yl_fieldAddr rfl rfl Tryz.underlying28 rfl Tryz.sizeOf3 rfl) rfl rfl rfl ?_
    refine J.y (yl_load rfl rfl Tryz.isAgg3 (Blk.imm hbl) hkb) rfl rfl rfl ?_
    refine J.y (yl_neq rfl rfl rfl) rfl rfl rfl ?_
    refine J.nil ?_
    refine Ej.seq ?_
    refine Cj.cond rfl (fun hc3 => ?_) (fun hc3 => ?_)
    ·
      have hc3p := bne_iff_ne.1 hc3
      have hku : Cq.up qb.k = 1 := by have h := hc3; simp at h; simp [Cq.up, h]
      refine Cj.region ?_
      refine J.y (yl_move rfl rfl) rfl rfl rfl ?_
      refine J.y (yl_add rfl rfl rfl (w64 (by omega))) rfl rfl rfl ?_
      refine J.y (yl_assign rfl rfl) rfl rfl rfl ?_
      refine J.nil ?_
      refine Ej.seq ?_
      refine Cj.seq ?_
      refine Cj.region ?_
      refine J.y (yl_move rfl rfl) rfl rfl rfl ?_
      refine J.y (yl_fieldAddr (off' := 4) rfl rfl Tryz.underlying28 rfl Tryz.sizeOf26 rfl) rfl rfl rfl ?_
      refine J.y (yl_load rfl rfl Tryz.isAgg26 (Blk.at 0 rfl) rfl) rfl rfl rfl ?_
      refine J.y (yl_indexAddr (off' := off) rfl rfl rfl Tryz.underlying26 Tryz.sizeOf28 (by omega) (by omega) (by simp)) rfl rfl rfl ?_
      refine J.y (yl_loadAgg rfl rfl Tryz.isAgg28 Tryz.sizeOf28 (Blk.imm hbl) hca rfl) rfl rfl rfl ?_
      refine J.op rfl (op_pure rfl rfl rfl rfl rfl (ih qa htw.size.1 pa ca _ hpa hfa (by omega)) ?_)
      refine J.y (yl_max2 rfl rfl rfl) rfl rfl rfl ?_
      refine J.y (yl_assign rfl rfl) rfl rfl rfl ?_
      refine J.nil ?_
      refine Ej.seq ?_
      refine Cj.ret ?_
      refine Ej.bare ?_
      refine Ej.ret1 rfl rfl rfl ?_
      refine ⟨?_, rfl, rfl⟩
      rw [hdd, hku]
      congr 1; congr 1; omega
    ·
      have hc3p := bne_f hc3
      have hku : Cq.up qb.k = 0 := by have h := hc3; simp at h; simp [Cq.up, h]
      refine Cj.skip ?_
      refine Ej.seq ?_
      refine Cj.seq ?_
      refine Cj.region ?_
      refine J.y (yl_move rfl rfl) rfl rfl rfl ?_
      refine J.y (yl_fieldAddr (off' := 4) rfl rfl Tryz.underlying28 rfl Tryz.sizeOf26 rfl) rfl rfl rfl ?_
      refine J.y (yl_load rfl rfl Tryz.isAgg26 (Blk.at 0 rfl) rfl) rfl rfl rfl ?_
      refine J.y (yl_indexAddr (off' := off) rfl rfl rfl Tryz.underlying26 Tryz.sizeOf28 (by omega) (by omega) (by simp)) rfl rfl rfl ?_
      refine J.y (yl_loadAgg rfl rfl Tryz.isAgg28 Tryz.sizeOf28 (Blk.imm hbl) hca rfl) rfl rfl rfl ?_
      refine J.op rfl (op_pure rfl rfl rfl rfl rfl (ih qa htw.size.1 pa ca _ hpa hfa (by omega)) ?_)
      refine J.y (yl_max2 rfl rfl rfl) rfl rfl rfl ?_
      refine J.y (yl_assign rfl rfl) rfl rfl rfl ?_
      refine J.nil ?_
      refine Ej.seq ?_
      refine Cj.ret ?_
      refine Ej.bare ?_
      refine Ej.ret1 rfl rfl rfl ?_
      refine ⟨?_, rfl, rfl⟩
      rw [hdd, hku]
      congr 1; congr 1; omega

theorem depth_ok (q : Cq.Qn) : DepthSpec q := by
  suffices ∀ n (q : Cq.Qn), q.size < n → DepthSpec q from this _ q (Nat.lt_succ_self _)
  intro n
  induction n with
  | zero => intro q h; omega
  | succ n ih => intro q h; exact depth_step q fun q' h' => ih q' (by omega)

set_option maxRecDepth 20000 in
theorem Right_ok (q : Cq.Qn) (p : Option Addr) (c : Nat) (hdep : Cq.depth q ≤ 1000000000) (I : Heap) (hps : PS I q.ps p) : Pure Tryz.prog 22 [.agg (qCells q p c).toArray] I (.bool (Cq.right q)) := by
  refine Ctr.toPure ?_
  refine Ctr.of_body Tryz.func22 rfl (by decide) (Nat.le_of_ble_eq_true rfl) ?_
  intro w0 hw0
  refine Cj.seq ?_
  refine Cj.region ?_
  refine J.op rfl (op_box rfl rfl rfl rfl rfl ?_)
  intro b1 hb1
  refine J.y (yl_assign rfl rfl) rfl rfl rfl ?_
  refine J.nil ?_
  refine Ej.seq ?_
  refine Cj.seq ?_
  refine Cj.region ?_
  refine J.y (yl_loadAgg rfl rfl Tryz.isAgg28 Tryz.sizeOf28 (Blk.at 0 rfl) rfl rfl) rfl rfl rfl ?_
  refine J.op rfl (op_pure rfl rfl rfl rfl rfl (form_ok q p c _ hps) ?_)
  refine J.y (yl_assign rfl rfl) rfl rfl rfl ?_
  refine J.nil ?_
  refine Ej.seq ?_
  refine Cj.seq ?_
  refine Cj.seq ?_
  refine Cj.region ?_
  refine J.y (yl_move rfl rfl) rfl rfl rfl ?_
  refine J.y (yl_not rfl rfl) rfl rfl rfl ?_
  refine J.nil ?_
  refine Ej.seq ?_
  refine Cj.cond rfl (fun hc2 => ?_) (fun hc2 => ?_)
  ·
    have hform : Cq.form q = false := by have h := hc2; simpa using h
    refine Cj.seq ?_
    refine Cj.region ?_
    refine J.y (yl_assign rfl rfl) rfl rfl rfl ?_
    refine J.nil ?_
    refine Ej.seq ?_
    refine Cj.ret ?_
    refine Ej.seqRet ?_
    refine Ej.bare ?_
    refine Ej.ret1 rfl rfl rfl ?_
    refine ⟨?_, rfl⟩
    simp [Cq.right, hform] <;> omega
  ·
    have hform : Cq.form q = true := by have h := hc2; simpa using h
    refine Cj.skip ?_
    refine Ej.seq ?_
    refine Cj.seq ?_
    refine Cj.region ?_
    refine J.y (yl_loadAgg rfl rfl Tryz.isAgg28 Tryz.sizeOf28 (Blk.at 0 rfl) rfl rfl) rfl rfl rfl ?_
    refine J.op rfl (op_pure rfl rfl rfl rfl rfl (depth_ok q p c _ hps hform hdep) ?_)
    refine J.y (yl_leq rfl rfl rfl) rfl rfl rfl ?_
    refine J.y (yl_assign rfl rfl) rfl rfl rfl ?_
    refine J.nil ?_
    refine Ej.seq ?_
    refine Cj.ret ?_
    refine Ej.bare ?_
    refine Ej.ret1 rfl rfl rfl ?_
    refine ⟨?_, rfl⟩
    simp [Cq.right, hform] <;> omega

end Go.Proofs.YtlfpehljahgbkaaGreatDoor
