/-
  Contracts of cql's depth and Right. Own text, printed by a program. Conditions: none.
-/
import Derived.Test.YtlfpehljahgbkaaGreatDoorCqDeep
import Derived.Test.YtlfpehljahgbkaaGreatDoorCqK
import Derived.Test.YtlfpehljahgbkaaGreatDoorCqF
namespace Go.Proofs.YtlfpehljahgbkaaGreatDoor
open Go Go.Sx
def DeepSpec (q : Cq.Qn) : Prop := ∀ (p : Option Addr) (c : Nat) (I : Heap), PS I q.ps p → q.size ≤ 1000000000 → q.wide ≤ 1000000000 → Pure Tryz.prog 36 [.agg (qCells q p c).toArray] I (i64 (Cq.deep q))
set_option maxRecDepth 20000 in
theorem deep_step (q : Cq.Qn) (ih : ∀ q', Cq.Qn.size q' < q.size → DeepSpec q') : DeepSpec q := by
  intro p c I hps hsz hwd
  have hwi : q.i.length + q.r.length + q.t.length ≤ 1000000000 := by unfold Cq.Qn.wide at hwd; omega
  refine Ctr.toPure ?_
  refine Ctr.of_body Tryz.func36 rfl (by decide) (Nat.le_of_ble_eq_true rfl) ?_
  intro w0 hw0
  refine Cj.seq ?_
  refine Cj.region ?_
  refine J.op rfl (op_box rfl rfl rfl rfl rfl ?_)
  intro b1 hb1
  refine J.y (yl_assign rfl rfl) rfl rfl rfl ?_
  refine J.nil ?_
  refine Ej.seq ?_
  refine Cj.seq ?_
  refine Cj.seq ?_
  refine Cj.region ?_
  refine J.y (yl_fieldAddr (off' := 0) rfl rfl Tryz.underlying28 rfl Tryz.sizeOf3 rfl) rfl rfl rfl ?_
  refine J.y (yl_load rfl rfl Tryz.isAgg3 (Blk.at 0 rfl) rfl) rfl rfl rfl ?_
  refine J.y (yl_eql rfl rfl rfl) rfl rfl rfl ?_
  refine J.nil ?_
  refine Ej.seq ?_
  refine Cj.cond rfl (fun hc2 => ?_) (fun hc2 => ?_)
  ·
    have hc2p := eq_of_beq hc2
    have hk : q.k = 1 := by omega
    refine Cj.seq ?_
    refine Cj.seq ?_
    refine Cj.drawSel [0] [] 18 (by kernel_rfl) ?_
    refine JA.take 1 rfl rfl (by kernel_rfl) (by kernel_rfl) (by kernel_rfl) (fun _ _ _ h => h) rfl rfl rfl (HSub.c 0 rfl HSub.n) CSub.n (Le.refl _) (yl_fieldAddr (off' := 1) rfl rfl Tryz.underlying28 rfl Tryz.sizeOf9 rfl) ?_
    refine JA.take 2 rfl rfl (by kernel_rfl) (by kernel_rfl) (by kernel_rfl) (fun _ _ _ h => h) rfl rfl rfl (HSub.c 0 rfl HSub.n) CSub.n (Le.refl _) (yl_load rfl rfl Tryz.isAgg9 (Blk.atC 0 rfl) rfl) ?_
    refine JA.step 0 (by kernel_rfl) rfl rfl (op_call (H1 := []) rfl rfl rfl rfl rfl (cindexes_ok _) ?_ (fun _ _ _ _ h => by obtain ⟨⟨_, h, _⟩, _⟩ := h; cases h) (fun _ _ h => by obtain ⟨⟨_, h, _⟩, _⟩ := h; cases h))
    intro v3 I4 H5 hle6 hp7
    have hps := hps.mono hle6
    obtain ⟨⟨v3x, hv3, hsv3⟩, rfl⟩ := hp7; cases hv3
    refine ⟨⟨(Le.trans (Le.refl _) hle6), (HSub.c 0 rfl HSub.n), CSub.n⟩, ?_⟩
    refine JA.step 3 (by kernel_rfl) rfl rfl (op_pure rfl rfl rfl rfl rfl (Contains_ok Cq.indexes _ _ (by decide) _ hsv3) ?_)
    refine ⟨⟨(Le.trans (Le.refl _) hle6), (HSub.c 0 rfl HSub.n), CSub.n⟩, ?_⟩
    refine JA.take 4 rfl rfl (by kernel_rfl) (by kernel_rfl) (by kernel_rfl) (fun _ _ _ h => h) rfl rfl rfl (HSub.c 0 rfl HSub.n) CSub.n (Le.trans (Le.refl _) hle6) (yl_not rfl rfl) ?_
    refine JA.take 5 rfl rfl (by kernel_rfl) (by kernel_rfl) (by kernel_rfl) (fun _ _ _ h => h) rfl rfl rfl (HSub.c 0 rfl HSub.n) CSub.n (Le.trans (Le.refl _) hle6) (yl_move rfl rfl) ?_
    refine JA.split 13 rfl (fun hg8 => ?_) (fun hg8 => ?_)
    ·
      refine JA.takeS 6 5 13 false _ rfl rfl (by kernel_rfl) (by kernel_rfl) (by kernel_rfl) (fun _ _ _ h => h) rfl rfl rfl (.inl (congrArg Value.bool hg8)) rfl rfl (HSub.c 0 rfl HSub.n) CSub.n (Le.trans (Le.refl _) hle6) ?_
      refine JA.takeS 7 5 13 false _ rfl rfl (by kernel_rfl) (by kernel_rfl) (by kernel_rfl) (fun _ _ _ h => h) rfl rfl rfl (.inl (congrArg Value.bool hg8)) rfl rfl (HSub.c 0 rfl HSub.n) CSub.n (Le.trans (Le.refl _) hle6) ?_
      refine JA.takeS 8 5 13 false _ rfl rfl (by kernel_rfl) (by kernel_rfl) (by kernel_rfl) (fun _ _ _ h => h) rfl rfl rfl (.inl (congrArg Value.bool hg8)) rfl rfl (HSub.c 0 rfl HSub.n) CSub.n (Le.trans (Le.refl _) hle6) ?_
      refine JA.takeS 9 5 13 false _ rfl rfl (by kernel_rfl) (by kernel_rfl) (by kernel_rfl) (fun _ _ _ h => h) rfl rfl rfl (.inl (congrArg Value.bool hg8)) rfl rfl (HSub.c 0 rfl HSub.n) CSub.n (Le.trans (Le.refl _) hle6) ?_
      refine JA.takeS 10 5 13 false _ rfl rfl (by kernel_rfl) (by kernel_rfl) (by kernel_rfl) (fun _ _ _ h => h) rfl rfl rfl (.inl (congrArg Value.bool hg8)) rfl rfl (HSub.c 0 rfl HSub.n) CSub.n (Le.trans (Le.refl _) hle6) ?_
      refine JA.take 11 rfl rfl (by kernel_rfl) (by kernel_rfl) (by kernel_rfl) (fun _ _ _ h => h) rfl rfl rfl (HSub.c 0 rfl HSub.n) CSub.n (Le.trans (Le.refl _) hle6) (yl_pick1 rfl rfl hg8 rfl) ?_
      refine JA.take 12 rfl rfl (by kernel_rfl) (by kernel_rfl) (by kernel_rfl) (fun _ _ _ h => h) rfl rfl rfl (HSub.c 0 rfl HSub.n) CSub.n (Le.trans (Le.refl _) hle6) (yl_move rfl rfl) ?_
      refine JA.takeS 13 12 20 false _ rfl rfl (by kernel_rfl) (by kernel_rfl) (by kernel_rfl) (fun _ _ _ h => h) rfl rfl rfl (.inl (congrArg Value.bool rfl)) rfl rfl (HSub.c 0 rfl HSub.n) CSub.n (Le.trans (Le.refl _) hle6) ?_
      refine JA.takeS 14 12 20 false _ rfl rfl (by kernel_rfl) (by kernel_rfl) (by kernel_rfl) (fun _ _ _ h => h) rfl rfl rfl (.inl (congrArg Value.bool rfl)) rfl rfl (HSub.c 0 rfl HSub.n) CSub.n (Le.trans (Le.refl _) hle6) ?_
      refine JA.takeS 15 12 20 false _ rfl rfl (by kernel_rfl) (by kernel_rfl) (by kernel_rfl) (fun _ _ _ h => h) rfl rfl rfl (.inl (congrArg Value.bool rfl)) rfl rfl (HSub.c 0 rfl HSub.n) CSub.n (Le.trans (Le.refl _) hle6) ?_
      refine JA.takeS 16 12 20 false _ rfl rfl (by kernel_rfl) (by kernel_rfl) (by kernel_rfl) (fun _ _ _ h => h) rfl rfl rfl (.inl (congrArg Value.bool rfl)) rfl rfl (HSub.c 0 rfl HSub.n) CSub.n (Le.trans (Le.refl _) hle6) ?_
      refine JA.take 17 rfl rfl (by kernel_rfl) (by kernel_rfl) (by kernel_rfl) (fun _ _ _ h => h) rfl rfl rfl (HSub.c 0 rfl HSub.n) CSub.n (Le.trans (Le.refl _) hle6) (yl_pick1 rfl rfl rfl rfl) ?_
      refine JA.done (by kernel_rfl) ?_
      refine Ej.seq ?_
      refine Cj.cond rfl (fun hc9 => ?_) (fun hc9 => Bool.noConfusion (Eq.trans (Eq.symm rfl) hc9))
      refine Cj.seq ?_
      refine Cj.region ?_
      refine J.y (yl_assign rfl rfl) rfl rfl rfl ?_
      refine J.nil ?_
      refine Ej.seq ?_
      refine Cj.ret ?_
      refine Ej.seqRet ?_
      refine Ej.seqRet ?_
      refine Ej.bare ?_
      refine Ej.ret1 rfl rfl rfl ?_
      refine ⟨?_, rfl⟩
      rw [Cq.deep_term hk]
      simp_all <;> omega
    ·
      refine JA.takeG 7 5 13 false _ rfl rfl (by kernel_rfl) (by kernel_rfl) (by kernel_rfl) (fun _ _ _ h => h) rfl rfl rfl hg8 rfl rfl (HSub.c 0 rfl HSub.n) CSub.n (Le.trans (Le.refl _) hle6) (yl_fieldAddr (off' := 2) rfl rfl Tryz.underlying28 rfl Tryz.sizeOf9 rfl) ?_
      refine JA.takeG 8 5 13 false _ rfl rfl (by kernel_rfl) (by kernel_rfl) (by kernel_rfl) (fun _ _ _ h => h) rfl rfl rfl hg8 rfl rfl (HSub.c 0 rfl HSub.n) CSub.n (Le.trans (Le.refl _) hle6) (yl_load rfl rfl Tryz.isAgg9 (Blk.atC 0 rfl) rfl) ?_
      refine JA.stepG 6 5 13 false _ (by kernel_rfl) rfl rfl rfl rfl hg8 (op_call (H1 := []) rfl rfl rfl rfl rfl (crelations_ok _) ?_ (fun _ _ _ _ h => by obtain ⟨⟨_, h, _⟩, _⟩ := h; cases h) (fun _ _ h => by obtain ⟨⟨_, h, _⟩, _⟩ := h; cases h))
      intro v10 I11 H12 hle13 hp14
      have hps := hps.mono hle13
      have hsv3 := hsv3.mono hle13
      obtain ⟨⟨v10x, hv10, hsv10⟩, rfl⟩ := hp14; cases hv10
      refine ⟨⟨(Le.trans (Le.trans (Le.refl _) hle6) hle13), (HSub.c 0 rfl HSub.n), CSub.n⟩, ?_⟩
      refine JA.stepG 9 5 13 false _ (by kernel_rfl) rfl rfl rfl rfl hg8 (op_pure rfl rfl rfl rfl rfl (Contains_ok Cq.relations _ _ (by decide) _ hsv10) ?_)
      refine ⟨⟨(Le.trans (Le.trans (Le.refl _) hle6) hle13), (HSub.c 0 rfl HSub.n), CSub.n⟩, ?_⟩
      refine JA.takeG 10 5 13 false _ rfl rfl (by kernel_rfl) (by kernel_rfl) (by kernel_rfl) (fun _ _ _ h => h) rfl rfl rfl hg8 rfl rfl (HSub.c 0 rfl HSub.n) CSub.n (Le.trans (Le.trans (Le.refl _) hle6) hle13) (yl_not rfl rfl) ?_
      refine JA.take 11 rfl rfl (by kernel_rfl) (by kernel_rfl) (by kernel_rfl) (fun _ _ _ h => h) rfl rfl rfl (HSub.c 0 rfl HSub.n) CSub.n (Le.trans (Le.trans (Le.refl _) hle6) hle13) (yl_pick0 rfl rfl hg8 rfl) ?_
      refine JA.take 12 rfl rfl (by kernel_rfl) (by kernel_rfl) (by kernel_rfl) (fun _ _ _ h => h) rfl rfl rfl (HSub.c 0 rfl HSub.n) CSub.n (Le.trans (Le.trans (Le.refl _) hle6) hle13) (yl_move rfl rfl) ?_
      refine JA.split 20 rfl (fun hg15 => ?_) (fun hg15 => ?_)
      ·
        refine JA.takeS 13 12 20 false _ rfl rfl (by kernel_rfl) (by kernel_rfl) (by kernel_rfl) (fun _ _ _ h => h) rfl rfl rfl (.inl (congrArg Value.bool hg15)) rfl rfl (HSub.c 0 rfl HSub.n) CSub.n (Le.trans (Le.trans (Le.refl _) hle6) hle13) ?_
        refine JA.takeS 14 12 20 false _ rfl rfl (by kernel_rfl) (by kernel_rfl) (by kernel_rfl) (fun _ _ _ h => h) rfl rfl rfl (.inl (congrArg Value.bool hg15)) rfl rfl (HSub.c 0 rfl HSub.n) CSub.n (Le.trans (Le.trans (Le.refl _) hle6) hle13) ?_
        refine JA.takeS 15 12 20 false _ rfl rfl (by kernel_rfl) (by kernel_rfl) (by kernel_rfl) (fun _ _ _ h => h) rfl rfl rfl (.inl (congrArg Value.bool hg15)) rfl rfl (HSub.c 0 rfl HSub.n) CSub.n (Le.trans (Le.trans (Le.refl _) hle6) hle13) ?_
        refine JA.takeS 16 12 20 false _ rfl rfl (by kernel_rfl) (by kernel_rfl) (by kernel_rfl) (fun _ _ _ h => h) rfl rfl rfl (.inl (congrArg Value.bool hg15)) rfl rfl (HSub.c 0 rfl HSub.n) CSub.n (Le.trans (Le.trans (Le.refl _) hle6) hle13) ?_
        refine JA.take 17 rfl rfl (by kernel_rfl) (by kernel_rfl) (by kernel_rfl) (fun _ _ _ h => h) rfl rfl rfl (HSub.c 0 rfl HSub.n) CSub.n (Le.trans (Le.trans (Le.refl _) hle6) hle13) (yl_pick1 rfl rfl hg15 rfl) ?_
        refine JA.done (by kernel_rfl) ?_
        refine Ej.seq ?_
        refine Cj.cond rfl (fun hc16 => ?_) (fun hc16 => Bool.noConfusion (Eq.trans (Eq.symm rfl) hc16))
        refine Cj.seq ?_
        refine Cj.region ?_
        refine J.y (yl_assign rfl rfl) rfl rfl rfl ?_
        refine J.nil ?_
        refine Ej.seq ?_
        refine Cj.ret ?_
        refine Ej.seqRet ?_
        refine Ej.seqRet ?_
        refine Ej.bare ?_
        refine Ej.ret1 rfl rfl rfl ?_
        refine ⟨?_, rfl⟩
        rw [Cq.deep_term hk]
        simp_all <;> omega
      ·
        refine JA.takeG 13 12 20 false _ rfl rfl (by kernel_rfl) (by kernel_rfl) (by kernel_rfl) (fun _ _ _ h => h) rfl rfl rfl hg15 rfl rfl (HSub.c 0 rfl HSub.n) CSub.n (Le.trans (Le.trans (Le.refl _) hle6) hle13) (yl_fieldAddr (off' := 4) rfl rfl Tryz.underlying28 rfl Tryz.sizeOf26 rfl) ?_
        refine JA.takeG 14 12 20 false _ rfl rfl (by kernel_rfl) (by kernel_rfl) (by kernel_rfl) (fun _ _ _ h => h) rfl rfl rfl hg15 rfl rfl (HSub.c 0 rfl HSub.n) CSub.n (Le.trans (Le.trans (Le.refl _) hle6) hle13) (yl_load rfl rfl Tryz.isAgg26 (Blk.atC 0 rfl) rfl) ?_
        refine JA.takeG 15 12 20 false _ rfl rfl (by kernel_rfl) (by kernel_rfl) (by kernel_rfl) (fun _ _ _ h => h) rfl rfl rfl hg15 rfl rfl (HSub.c 0 rfl HSub.n) CSub.n (Le.trans (Le.trans (Le.refl _) hle6) hle13) (yl_lenSlice rfl rfl Tryz.underlying26) ?_
        refine JA.takeG 16 12 20 false _ rfl rfl (by kernel_rfl) (by kernel_rfl) (by kernel_rfl) (fun _ _ _ h => h) rfl rfl rfl hg15 rfl rfl (HSub.c 0 rfl HSub.n) CSub.n (Le.trans (Le.trans (Le.refl _) hle6) hle13) (yl_gtr rfl rfl rfl) ?_
        refine JA.take 17 rfl rfl (by kernel_rfl) (by kernel_rfl) (by kernel_rfl) (fun _ _ _ h => h) rfl rfl rfl (HSub.c 0 rfl HSub.n) CSub.n (Le.trans (Le.trans (Le.refl _) hle6) hle13) (yl_pick0 rfl rfl hg15 rfl) ?_
        refine JA.done (by kernel_rfl) ?_
        refine Ej.seq ?_
        refine Cj.cond rfl (fun hc17 => ?_) (fun hc17 => ?_)
        ·
          have hc17p := of_decide_eq_true hc17
          refine Cj.seq ?_
          refine Cj.region ?_
          refine J.y (yl_assign rfl rfl) rfl rfl rfl ?_
          refine J.nil ?_
          refine Ej.seq ?_
          refine Cj.ret ?_
          refine Ej.seqRet ?_
          refine Ej.seqRet ?_
          refine Ej.bare ?_
          refine Ej.ret1 rfl rfl rfl ?_
          refine ⟨?_, rfl⟩
          rw [Cq.deep_term hk]
          simp_all <;> omega
        ·
          have hc17p := of_decide_eq_false hc17
          refine Cj.skip ?_
          refine Ej.seq ?_
          refine Cj.seq ?_
          refine Cj.region ?_
          refine J.y (yl_assign rfl rfl) rfl rfl rfl ?_
          refine J.nil ?_
          refine Ej.seq ?_
          refine Cj.ret ?_
          refine Ej.seqRet ?_
          refine Ej.bare ?_
          refine Ej.ret1 rfl rfl rfl ?_
          refine ⟨?_, rfl⟩
          rw [Cq.deep_term hk]
          simp_all <;> omega
  ·
    have hc2p := ne_of_beq_false hc2
    have hk : q.k ≠ 1 := by omega
    refine Cj.skip ?_
    refine Ej.seq ?_
    refine Cj.seq ?_
    refine Cj.seq ?_
    refine Cj.region ?_
    refine J.y (yl_fieldAddr (off' := 0) rfl rfl Tryz.underlying28 rfl Tryz.sizeOf3 rfl) rfl rfl rfl ?_
    refine J.y (yl_load rfl rfl Tryz.isAgg3 (Blk.at 0 rfl) rfl) rfl rfl rfl ?_
    refine J.y (yl_lss rfl rfl rfl) rfl rfl rfl ?_
    refine J.y (yl_move rfl rfl) rfl rfl rfl ?_
    refine J.split 29 rfl (fun hg18 => ?_) (fun hg18 => ?_)
    ·
      refine J.skip 3 29 30 false _ rfl rfl rfl hg18 rfl rfl ?_
      refine J.skip 3 29 31 false _ rfl rfl rfl hg18 rfl rfl ?_
      refine J.skip 3 29 32 false _ rfl rfl rfl hg18 rfl rfl ?_
      refine J.y (yl_pick1 rfl rfl hg18 rfl) rfl rfl rfl ?_
      refine J.y (yl_move rfl rfl) rfl rfl rfl ?_
      refine J.skip 8 34 35 false _ rfl rfl rfl rfl rfl rfl ?_
      refine J.skip 8 34 36 false _ rfl rfl rfl rfl rfl rfl ?_
      refine J.skip 8 34 37 false _ rfl rfl rfl rfl rfl rfl ?_
      refine J.skip 8 34 38 false _ rfl rfl rfl rfl rfl rfl ?_
      refine J.skip 8 34 39 false _ rfl rfl rfl rfl rfl rfl ?_
      refine J.skip 8 34 40 false _ rfl rfl rfl rfl rfl rfl ?_
      refine J.skip 8 34 41 false _ rfl rfl rfl rfl rfl rfl ?_
      refine J.skip 8 34 42 false _ rfl rfl rfl rfl rfl rfl ?_
      refine J.skip 8 34 43 false _ rfl rfl rfl rfl rfl rfl ?_
      refine J.y (yl_pick1 rfl rfl rfl rfl) rfl rfl rfl ?_
      refine J.y (yl_move rfl rfl) rfl rfl rfl ?_
      refine J.skip 19 45 46 false _ rfl rfl rfl rfl rfl rfl ?_
      refine J.skip 19 45 47 false _ rfl rfl rfl rfl rfl rfl ?_
      refine J.skip 19 45 48 false _ rfl rfl rfl rfl rfl rfl ?_
      refine J.skip 19 45 49 false _ rfl rfl rfl rfl rfl rfl ?_
      refine J.y (yl_pick1 rfl rfl rfl rfl) rfl rfl rfl ?_
      refine J.nil ?_
      refine Ej.seq ?_
      refine Cj.cond rfl (fun hc19 => ?_) (fun hc19 => Bool.noConfusion (Eq.trans (Eq.symm rfl) hc19))
      refine Cj.seq ?_
      refine Cj.region ?_
      refine J.y (yl_assign rfl rfl) rfl rfl rfl ?_
      refine J.nil ?_
      refine Ej.seq ?_
      refine Cj.ret ?_
      refine Ej.seqRet ?_
      refine Ej.bare ?_
      refine Ej.ret1 rfl rfl rfl ?_
      rw [Cq.deep_bad hk (.inl (by have h := hg18; simp at h; omega))]; exact ⟨rfl, rfl⟩
    ·
      refine J.opG 3 29 false _ rfl rfl rfl hg18 (op_yld (yl_fieldAddr (off' := 0) rfl rfl Tryz.underlying28 rfl Tryz.sizeOf3 rfl) rfl rfl ?_)
      refine J.opG 3 29 false _ rfl rfl rfl hg18 (op_yld (yl_load rfl rfl Tryz.isAgg3 (Blk.at 0 rfl) rfl) rfl rfl ?_)
      refine J.opG 3 29 false _ rfl rfl rfl hg18 (op_yld (yl_gtr rfl rfl rfl) rfl rfl ?_)
      refine J.y (yl_pick0 rfl rfl hg18 rfl) rfl rfl rfl ?_
      refine J.y (yl_move rfl rfl) rfl rfl rfl ?_
      refine J.split 34 rfl (fun hg20 => ?_) (fun hg20 => ?_)
      ·
        refine J.skip 8 34 35 false _ rfl rfl rfl hg20 rfl rfl ?_
        refine J.skip 8 34 36 false _ rfl rfl rfl hg20 rfl rfl ?_
        refine J.skip 8 34 37 false _ rfl rfl rfl hg20 rfl rfl ?_
        refine J.skip 8 34 38 false _ rfl rfl rfl hg20 rfl rfl ?_
        refine J.skip 8 34 39 false _ rfl rfl rfl hg20 rfl rfl ?_
        refine J.skip 8 34 40 false _ rfl rfl rfl hg20 rfl rfl ?_
        refine J.skip 8 34 41 false _ rfl rfl rfl hg20 rfl rfl ?_
        refine J.skip 8 34 42 false _ rfl rfl rfl hg20 rfl rfl ?_
        refine J.skip 8 34 43 false _ rfl rfl rfl hg20 rfl rfl ?_
        refine J.y (yl_pick1 rfl rfl hg20 rfl) rfl rfl rfl ?_
        refine J.y (yl_move rfl rfl) rfl rfl rfl ?_
        refine J.skip 19 45 46 false _ rfl rfl rfl rfl rfl rfl ?_
        refine J.skip 19 45 47 false _ rfl rfl rfl rfl rfl rfl ?_
        refine J.skip 19 45 48 false _ rfl rfl rfl rfl rfl rfl ?_
        refine J.skip 19 45 49 false _ rfl rfl rfl rfl rfl rfl ?_
        refine J.y (yl_pick1 rfl rfl rfl rfl) rfl rfl rfl ?_
        refine J.nil ?_
        refine Ej.seq ?_
        refine Cj.cond rfl (fun hc21 => ?_) (fun hc21 => Bool.noConfusion (Eq.trans (Eq.symm rfl) hc21))
        refine Cj.seq ?_
        refine Cj.region ?_
        refine J.y (yl_assign rfl rfl) rfl rfl rfl ?_
        refine J.nil ?_
        refine Ej.seq ?_
        refine Cj.ret ?_
        refine Ej.seqRet ?_
        refine Ej.bare ?_
        refine Ej.ret1 rfl rfl rfl ?_
        rw [Cq.deep_bad hk (.inr (.inl (by have h := hg20; simp at h; omega)))]; exact ⟨rfl, rfl⟩
      ·
        refine J.opG 8 34 false _ rfl rfl rfl hg20 (op_yld (yl_fieldAddr (off' := 1) rfl rfl Tryz.underlying28 rfl Tryz.sizeOf9 rfl) rfl rfl ?_)
        refine J.opG 8 34 false _ rfl rfl rfl hg20 (op_yld (yl_load rfl rfl Tryz.isAgg9 (Blk.at 0 rfl) rfl) rfl rfl ?_)
        refine J.opG 8 34 false _ rfl rfl rfl hg20 (op_yld (yl_fieldAddr (off' := 2) rfl rfl Tryz.underlying28 rfl Tryz.sizeOf9 rfl) rfl rfl ?_)
        refine J.opG 8 34 false _ rfl rfl rfl hg20 (op_yld (yl_load rfl rfl Tryz.isAgg9 (Blk.at 0 rfl) rfl) rfl rfl ?_)
        refine J.opG 8 34 false _ rfl rfl rfl hg20 (op_yld (yl_cat rfl rfl rfl (by first | omega | (simp only [List.length_append]; omega) | (simp; omega))) rfl rfl ?_)
        refine J.opG 8 34 false _ rfl rfl rfl hg20 (op_yld (yl_fieldAddr (off' := 3) rfl rfl Tryz.underlying28 rfl Tryz.sizeOf9 rfl) rfl rfl ?_)
        refine J.opG 8 34 false _ rfl rfl rfl hg20 (op_yld (yl_load rfl rfl Tryz.isAgg9 (Blk.at 0 rfl) rfl) rfl rfl ?_)
        refine J.opG 8 34 false _ rfl rfl rfl hg20 (op_yld (yl_cat rfl rfl rfl (by first | omega | (simp only [List.length_append]; omega) | (simp; omega))) rfl rfl ?_)
        refine J.opG 8 34 false _ rfl rfl rfl hg20 (op_yld (yl_neqStr rfl rfl rfl) rfl rfl ?_)
        refine J.y (yl_pick0 rfl rfl hg20 rfl) rfl rfl rfl ?_
        refine J.y (yl_move rfl rfl) rfl rfl rfl ?_
        refine J.split 45 rfl (fun hg22 => ?_) (fun hg22 => ?_)
        ·
          refine J.skip 19 45 46 false _ rfl rfl rfl hg22 rfl rfl ?_
          refine J.skip 19 45 47 false _ rfl rfl rfl hg22 rfl rfl ?_
          refine J.skip 19 45 48 false _ rfl rfl rfl hg22 rfl rfl ?_
          refine J.skip 19 45 49 false _ rfl rfl rfl hg22 rfl rfl ?_
          refine J.y (yl_pick1 rfl rfl hg22 rfl) rfl rfl rfl ?_
          refine J.nil ?_
          refine Ej.seq ?_
          refine Cj.cond rfl (fun hc23 => ?_) (fun hc23 => Bool.noConfusion (Eq.trans (Eq.symm rfl) hc23))
          refine Cj.seq ?_
          refine Cj.region ?_
          refine J.y (yl_assign rfl rfl) rfl rfl rfl ?_
          refine J.nil ?_
          refine Ej.seq ?_
          refine Cj.ret ?_
          refine Ej.seqRet ?_
          refine Ej.bare ?_
          refine Ej.ret1 rfl rfl rfl ?_
          rw [Cq.deep_bad hk (.inr (.inr (.inl (bne_iff_ne.1 hg22))))]; exact ⟨rfl, rfl⟩
        ·
          refine J.opG 19 45 false _ rfl rfl rfl hg22 (op_yld (yl_fieldAddr (off' := 4) rfl rfl Tryz.underlying28 rfl Tryz.sizeOf26 rfl) rfl rfl ?_)
          refine J.opG 19 45 false _ rfl rfl rfl hg22 (op_yld (yl_load rfl rfl Tryz.isAgg26 (Blk.at 0 rfl) rfl) rfl rfl ?_)
          refine J.opG 19 45 false _ rfl rfl rfl hg22 (op_yld (yl_lenSlice rfl rfl Tryz.underlying26) rfl rfl ?_)
          refine J.opG 19 45 false _ rfl rfl rfl hg22 (op_yld (yl_neq rfl rfl rfl) rfl rfl ?_)
          refine J.y (yl_pick0 rfl rfl hg22 rfl) rfl rfl rfl ?_
          refine J.nil ?_
          refine Ej.seq ?_
          refine Cj.cond rfl (fun hc24 => ?_) (fun hc24 => ?_)
          ·
            have hc24p := bne_iff_ne.1 hc24
            refine Cj.seq ?_
            refine Cj.region ?_
            refine J.y (yl_assign rfl rfl) rfl rfl rfl ?_
            refine J.nil ?_
            refine Ej.seq ?_
            refine Cj.ret ?_
            refine Ej.seqRet ?_
            refine Ej.bare ?_
            refine Ej.ret1 rfl rfl rfl ?_
            rw [Cq.deep_bad hk (.inr (.inr (.inr (by have h := hc24; simp at h; omega))))]; exact ⟨rfl, rfl⟩
          ·
            have hc24p := bne_f hc24
            have hg29 := hg18
            have hg34 := hg20
            have hg45 := hg22
            have hg50 := hc24
            have hgood : ¬ (q.k < 2 ∨ q.k > 4 ∨ q.i ≠ [] ∨ q.r ≠ [] ∨ q.t ≠ [] ∨ q.ps.len ≠ 2) := by
              simp at hg29 hg34 hg45 hg50
              simp [hg45]; omega
            obtain ⟨qa, qb, htw⟩ := Cq.Qs.two_of (ps := q.ps) (by omega)
            change q.Two qa qb at htw
            have hdt := Cq.deep_two hk hgood htw
            have hsz2 := htw.size
            have hwd2 := htw.wide
            have hdb := Cq.deep_le qb
            have hda := Cq.deep_le qa
            have hga := Cq.deep_ge qa
            have hgb := Cq.deep_ge qb
            have hln := htw.len
            obtain ⟨bl, off, cs', T, fr, pa, ca, pb, cb, rfl, hbl, hca, hcb, hkb, hpa, hpb⟩ := hps.two_at htw
            refine Cj.skip ?_
            refine Ej.seq ?_
            refine Cj.seq ?_
            refine Cj.drawSel [0] [] 12 (by kernel_rfl) ?_
            have hbl_7 := hbl
            refine JA.take 0 rfl rfl (by kernel_rfl) (by kernel_rfl) (by kernel_rfl) (fun _ _ _ h => h) rfl rfl rfl (HSub.c 0 rfl HSub.n) CSub.n (Le.refl _) (yl_fieldAddr (off' := 4) rfl rfl Tryz.underlying28 rfl Tryz.sizeOf26 rfl) ?_
            refine JA.take 1 rfl rfl (by kernel_rfl) (by kernel_rfl) (by kernel_rfl) (fun _ _ _ h => h) rfl rfl rfl (HSub.c 0 rfl HSub.n) CSub.n (Le.refl _) (yl_load rfl rfl Tryz.isAgg26 (Blk.atC 0 rfl) rfl) ?_
            refine JA.take 2 rfl rfl (by kernel_rfl) (by kernel_rfl) (by kernel_rfl) (fun _ _ _ h => h) rfl rfl rfl (HSub.c 0 rfl HSub.n) CSub.n (Le.refl _) (yl_indexAddr (off' := off) rfl rfl rfl Tryz.underlying26 Tryz.sizeOf28 (by omega) (by omega) (by simp)) ?_
            refine JA.take 3 rfl rfl (by kernel_rfl) (by kernel_rfl) (by kernel_rfl) (fun _ _ _ h => h) rfl rfl rfl (HSub.c 0 rfl HSub.n) CSub.n (Le.refl _) (yl_loadAgg rfl rfl Tryz.isAgg28 Tryz.sizeOf28 (Blk.immC hbl_7) hca rfl) ?_
            refine JA.take 5 rfl rfl (by kernel_rfl) (by kernel_rfl) (by kernel_rfl) (fun _ _ _ h => h) rfl rfl rfl (HSub.c 0 rfl HSub.n) CSub.n (Le.refl _) (yl_fieldAddr (off' := 4) rfl rfl Tryz.underlying28 rfl Tryz.sizeOf26 rfl) ?_
            refine JA.take 6 rfl rfl (by kernel_rfl) (by kernel_rfl) (by kernel_rfl) (fun _ _ _ h => h) rfl rfl rfl (HSub.c 0 rfl HSub.n) CSub.n (Le.refl _) (yl_load rfl rfl Tryz.isAgg26 (Blk.atC 0 rfl) rfl) ?_
            refine JA.take 7 rfl rfl (by kernel_rfl) (by kernel_rfl) (by kernel_rfl) (fun _ _ _ h => h) rfl rfl rfl (HSub.c 0 rfl HSub.n) CSub.n (Le.refl _) (yl_indexAddr (off' := off + 5) rfl rfl rfl Tryz.underlying26 Tryz.sizeOf28 (by omega) (by omega) (by simp)) ?_
            refine JA.take 8 rfl rfl (by kernel_rfl) (by kernel_rfl) (by kernel_rfl) (fun _ _ _ h => h) rfl rfl rfl (HSub.c 0 rfl HSub.n) CSub.n (Le.refl _) (yl_loadAgg rfl rfl Tryz.isAgg28 Tryz.sizeOf28 (Blk.immC hbl_7) hcb rfl) ?_
            refine JA.step 4 (by kernel_rfl) rfl rfl (op_pure rfl rfl rfl rfl rfl (ih qa hsz2.1 pa ca _ hpa (by omega) (by omega)) ?_)
            refine ⟨⟨(Le.refl _), (HSub.c 0 rfl HSub.n), CSub.n⟩, ?_⟩
            refine JA.step 9 (by kernel_rfl) rfl rfl (op_pure rfl rfl rfl rfl rfl (ih qb hsz2.2 pb cb _ hpb (by omega) (by omega)) ?_)
            refine ⟨⟨(Le.refl _), (HSub.c 0 rfl HSub.n), CSub.n⟩, ?_⟩
            refine JA.take 10 rfl rfl (by kernel_rfl) (by kernel_rfl) (by kernel_rfl) (fun _ _ _ h => h) rfl rfl rfl (HSub.c 0 rfl HSub.n) CSub.n (Le.refl _) (yl_assign rfl rfl) ?_
            refine JA.take 11 rfl rfl (by kernel_rfl) (by kernel_rfl) (by kernel_rfl) (fun _ _ _ h => h) rfl rfl rfl (HSub.c 0 rfl HSub.n) CSub.n (Le.refl _) (yl_assign rfl rfl) ?_
            refine JA.done (by kernel_rfl) ?_
            refine Ej.seq ?_
            refine Cj.seq ?_
            refine Cj.seq ?_
            refine Cj.region ?_
            refine J.y (yl_move rfl rfl) rfl rfl rfl ?_
            refine J.y (yl_move rfl rfl) rfl rfl rfl ?_
            refine J.y (yl_min2 rfl rfl rfl) rfl rfl rfl ?_
            refine J.eqv 63 rfl (show _ = i64 (min (Cq.deep qa) (Cq.deep qb)) from (by congr 1; omega)) ?_
            refine J.y (yl_lss rfl rfl rfl) rfl rfl rfl ?_
            refine J.nil ?_
            refine Ej.seq ?_
            refine Cj.cond rfl (fun hc25 => ?_) (fun hc25 => ?_)
            ·
              have hc25p := of_decide_eq_true hc25
              refine Cj.seq ?_
              refine Cj.region ?_
              refine J.y (yl_assign rfl rfl) rfl rfl rfl ?_
              refine J.nil ?_
              refine Ej.seq ?_
              refine Cj.ret ?_
              refine Ej.seqRet ?_
              refine Ej.bare ?_
              refine Ej.ret1 rfl rfl rfl ?_
              rw [hdt, if_pos (by omega)]; exact ⟨rfl, rfl⟩
            ·
              have hc25p := of_decide_eq_false hc25
              refine Cj.skip ?_
              refine Ej.seq ?_
              refine Cj.seq ?_
              refine Cj.seq ?_
              refine Cj.region ?_
              refine J.y (yl_fieldAddr (off' := 4) rfl rfl Tryz.underlying28 rfl Tryz.sizeOf26 rfl) rfl rfl rfl ?_
              refine J.y (yl_load rfl rfl Tryz.isAgg26 (Blk.at 0 rfl) rfl) rfl rfl rfl ?_
              refine J.y (yl_indexAddr (off' := off + 5) rfl rfl rfl Tryz.underlying26 Tryz.sizeOf28 (by omega) (by omega) (by simp)) rfl rfl rfl ?_
              refine J.y (yl_fieldAddr rfl rfl Tryz.underlying28 rfl Tryz.sizeOf3 rfl) rfl rfl rfl ?_
              refine J.y (yl_load rfl rfl Tryz.isAgg3 (Blk.imm hbl) hkb) rfl rfl rfl ?_
              refine J.y (yl_neq rfl rfl rfl) rfl rfl rfl ?_
              refine J.nil ?_
              refine Ej.seq ?_
              refine Cj.cond rfl (fun hc26 => ?_) (fun hc26 => ?_)
              ·
                have hc26p := bne_iff_ne.1 hc26
                have hku : Cq.up qb.k = 1 := by have h := hc26; simp at h; simp [Cq.up, h]
                refine Cj.region ?_
                refine J.y (yl_move rfl rfl) rfl rfl rfl ?_
                refine J.y (yl_add rfl rfl rfl (w64 (by omega))) rfl rfl rfl ?_
                refine J.y (yl_assign rfl rfl) rfl rfl rfl ?_
                refine J.nil ?_
                refine Ej.seq ?_
                refine Cj.seq ?_
                refine Cj.region ?_
                refine J.y (yl_move rfl rfl) rfl rfl rfl ?_
                refine J.y (yl_move rfl rfl) rfl rfl rfl ?_
                refine J.y (yl_max2 rfl rfl rfl) rfl rfl rfl ?_
                refine J.eqv 75 rfl (show _ = i64 (max (Cq.deep qa) (Cq.deep qb + 1)) from (by congr 1; omega)) ?_
                refine J.y (yl_assign rfl rfl) rfl rfl rfl ?_
                refine J.nil ?_
                refine Ej.seq ?_
                refine Cj.ret ?_
                refine Ej.bare ?_
                refine Ej.ret1 rfl rfl rfl ?_
                refine ⟨?_, rfl⟩
                rw [hdt, if_neg (by omega), hku]
                simp
              ·
                have hc26p := bne_f hc26
                have hku : Cq.up qb.k = 0 := by have h := hc26; simp at h; simp [Cq.up, h]
                refine Cj.skip ?_
                refine Ej.seq ?_
                refine Cj.seq ?_
                refine Cj.region ?_
                refine J.y (yl_move rfl rfl) rfl rfl rfl ?_
                refine J.y (yl_move rfl rfl) rfl rfl rfl ?_
                refine J.y (yl_max2 rfl rfl rfl) rfl rfl rfl ?_
                refine J.eqv 75 rfl (show _ = i64 (max (Cq.deep qa) (Cq.deep qb)) from (by congr 1; omega)) ?_
                refine J.y (yl_assign rfl rfl) rfl rfl rfl ?_
                refine J.nil ?_
                refine Ej.seq ?_
                refine Cj.ret ?_
                refine Ej.bare ?_
                refine Ej.ret1 rfl rfl rfl ?_
                refine ⟨?_, rfl⟩
                rw [hdt, if_neg (by omega), hku]
                simp

theorem deep_ok (q : Cq.Qn) : DeepSpec q := by
  suffices ∀ n (q : Cq.Qn), q.size < n → DeepSpec q from this _ q (Nat.lt_succ_self _)
  intro n
  induction n with
  | zero => intro q h; omega
  | succ n ih => intro q h; exact deep_step q fun q' h' => ih q' (by omega)

set_option maxRecDepth 20000 in
theorem cRight_ok (q : Cq.Qn) (p : Option Addr) (c : Nat) (hsz : q.size ≤ 1000000000) (hwd : q.wide ≤ 1000000000) (I : Heap) (hps : PS I q.ps p) : Pure Tryz.prog 19 [.agg (qCells q p c).toArray] I (.bool (Cq.right q)) := by
  refine Ctr.toPure ?_
  refine Ctr.of_body Tryz.func19 rfl (by decide) (Nat.le_of_ble_eq_true rfl) ?_
  intro w0 hw0
  refine Cj.seq ?_
  refine Cj.region ?_
  refine J.op rfl (op_box rfl rfl rfl rfl rfl ?_)
  intro b1 hb1
  refine J.y (yl_assign rfl rfl) rfl rfl rfl ?_
  refine J.nil ?_
  refine Ej.seq ?_
  refine Cj.seq ?_
  refine Cj.region ?_
  refine J.y (yl_loadAgg rfl rfl Tryz.isAgg28 Tryz.sizeOf28 (Blk.at 0 rfl) rfl rfl) rfl rfl rfl ?_
  refine J.op rfl (op_pure rfl rfl rfl rfl rfl (deep_ok q p c _ hps hsz hwd) ?_)
  refine J.y (yl_assign rfl rfl) rfl rfl rfl ?_
  refine J.nil ?_
  refine Ej.seq ?_
  refine Cj.seq ?_
  refine Cj.region ?_
  refine J.y (yl_move rfl rfl) rfl rfl rfl ?_
  refine J.y (yl_geq rfl rfl rfl) rfl rfl rfl ?_
  refine J.y (yl_move rfl rfl) rfl rfl rfl ?_
  refine J.split 8 rfl (fun hg2 => ?_) (fun hg2 => ?_)
  ·
    refine J.opG 2 8 true _ rfl rfl rfl hg2 (op_yld (yl_move rfl rfl) rfl rfl ?_)
    refine J.opG 2 8 true _ rfl rfl rfl hg2 (op_yld (yl_leq rfl rfl rfl) rfl rfl ?_)
    refine J.y (yl_pick1 rfl rfl hg2 rfl) rfl rfl rfl ?_
    refine J.y (yl_assign rfl rfl) rfl rfl rfl ?_
    refine J.nil ?_
    refine Ej.seq ?_
    refine Cj.ret ?_
    refine Ej.bare ?_
    refine Ej.ret1 rfl rfl rfl ?_
    refine ⟨?_, rfl⟩
    rw [← Cq.deep_right]
    simp_all <;> omega
  ·
    refine J.skip 2 8 9 true _ rfl rfl rfl hg2 rfl rfl ?_
    refine J.skip 2 8 10 true _ rfl rfl rfl hg2 rfl rfl ?_
    refine J.y (yl_pick0 rfl rfl hg2 rfl) rfl rfl rfl ?_
    refine J.y (yl_assign rfl rfl) rfl rfl rfl ?_
    refine J.nil ?_
    refine Ej.seq ?_
    refine Cj.ret ?_
    refine Ej.bare ?_
    refine Ej.ret1 rfl rfl rfl ?_
    refine ⟨?_, rfl⟩
    rw [← Cq.deep_right]
    simp_all <;> omega

end Go.Proofs.YtlfpehljahgbkaaGreatDoor
