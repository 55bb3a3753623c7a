/-
  Contract of the reference's Same. Own text, printed by a program. Conditions: none.
-/
import Derived.Test.YtlfpehljahgbkaaGreatDoorCqG
namespace Go.Proofs.YtlfpehljahgbkaaGreatDoor
open Go Go.Sx
def SameSpec (a : Cq.Qn) : Prop := ∀ (b : Cq.Qn) (p p2 : Option Addr) (c c2 : Nat) (I : Heap), PS I a.ps p → PS I b.ps p2 → a.size ≤ 1000000000 → Pure Tryz.prog 20 [.agg (qCells a p c).toArray, .agg (qCells b p2 c2).toArray] I (.bool (decide (a = b)))
theorem same_of {a b : Cq.Qn} (h1 : a.k = b.k) (h2 : a.i = b.i) (h3 : a.r = b.r) (h4 : a.t = b.t) (h5 : a.ps = b.ps) : a = b := by cases a; cases b; simp_all
theorem _root_.Cq.Qs.len_size : ∀ {ps : Cq.Qs}, ps.len ≤ ps.size
  | .nil => Nat.le_refl _
  | .cons _ _ _ _ _ rest => by have := @Cq.Qs.len_size rest; simp only [Cq.Qs.len, Cq.Qs.size]; omega
theorem lens {a b : Cq.Qn} (h : a.ps.len ≠ b.ps.len) : a ≠ b := fun e => h (by rw [e])
set_option maxRecDepth 20000 in
theorem same_step (a : Cq.Qn) (ih : ∀ a', Cq.Qn.size a' < a.size → SameSpec a') : SameSpec a := by
  intro b p p2 c c2 I hps hps2 hsz
  have hlen : a.ps.len ≤ 1000000000 := Nat.le_trans Cq.Qs.len_size hsz
  refine Ctr.toPure ?_
  refine Ctr.of_body Tryz.func20 rfl (by decide) (Nat.le_of_ble_eq_true rfl) ?_
  intro w0 hw0
  refine Cj.seq ?_
  refine Cj.region ?_
  refine J.op rfl (op_box rfl rfl rfl rfl rfl ?_)
  intro b1 hb1
  refine J.op rfl (op_box rfl rfl rfl rfl rfl ?_)
  intro b2 hb2
  refine J.y (yl_assign rfl rfl) rfl rfl rfl ?_
  refine J.nil ?_
  refine Ej.seq ?_
  refine Cj.seq ?_
  refine Cj.seq ?_
  refine Cj.region ?_
  refine J.y (yl_fieldAddr (off' := 0) rfl rfl Tryz.underlying28 rfl Tryz.sizeOf3 rfl) rfl rfl rfl ?_
  refine J.y (yl_load rfl rfl Tryz.isAgg3 (Blk.at 1 rfl) rfl) rfl rfl rfl ?_
  refine J.y (yl_fieldAddr (off' := 0) rfl rfl Tryz.underlying28 rfl Tryz.sizeOf3 rfl) rfl rfl rfl ?_
  refine J.y (yl_load rfl rfl Tryz.isAgg3 (Blk.at 0 rfl) rfl) rfl rfl rfl ?_
  refine J.y (yl_neq rfl rfl rfl) rfl rfl rfl ?_
  refine J.y (yl_move rfl rfl) rfl rfl rfl ?_
  refine J.split 12 rfl (fun hg3 => ?_) (fun hg3 => ?_)
  ·
    refine J.skip 5 12 13 false _ rfl rfl rfl hg3 rfl rfl ?_
    refine J.skip 5 12 14 false _ rfl rfl rfl hg3 rfl rfl ?_
    refine J.skip 5 12 15 false _ rfl rfl rfl hg3 rfl rfl ?_
    refine J.skip 5 12 16 false _ rfl rfl rfl hg3 rfl rfl ?_
    refine J.skip 5 12 17 false _ rfl rfl rfl hg3 rfl rfl ?_
    refine J.y (yl_pick1 rfl rfl hg3 rfl) rfl rfl rfl ?_
    refine J.y (yl_move rfl rfl) rfl rfl rfl ?_
    refine J.skip 12 19 20 false _ rfl rfl rfl rfl rfl rfl ?_
    refine J.skip 12 19 21 false _ rfl rfl rfl rfl rfl rfl ?_
    refine J.skip 12 19 22 false _ rfl rfl rfl rfl rfl rfl ?_
    refine J.skip 12 19 23 false _ rfl rfl rfl rfl rfl rfl ?_
    refine J.skip 12 19 24 false _ rfl rfl rfl rfl rfl rfl ?_
    refine J.y (yl_pick1 rfl rfl rfl rfl) rfl rfl rfl ?_
    refine J.y (yl_move rfl rfl) rfl rfl rfl ?_
    refine J.skip 19 26 27 false _ rfl rfl rfl rfl rfl rfl ?_
    refine J.skip 19 26 28 false _ rfl rfl rfl rfl rfl rfl ?_
    refine J.skip 19 26 29 false _ rfl rfl rfl rfl rfl rfl ?_
    refine J.skip 19 26 30 false _ rfl rfl rfl rfl rfl rfl ?_
    refine J.skip 19 26 31 false _ rfl rfl rfl rfl rfl rfl ?_
    refine J.y (yl_pick1 rfl rfl rfl rfl) rfl rfl rfl ?_
    refine J.y (yl_move rfl rfl) rfl rfl rfl ?_
    refine J.skip 26 33 34 false _ rfl rfl rfl rfl rfl rfl ?_
    refine J.skip 26 33 35 false _ rfl rfl rfl rfl rfl rfl ?_
    refine J.skip 26 33 36 false _ rfl rfl rfl rfl rfl rfl ?_
    refine J.skip 26 33 37 false _ rfl rfl rfl rfl rfl rfl ?_
    refine J.skip 26 33 38 false _ rfl rfl rfl rfl rfl rfl ?_
    refine J.skip 26 33 39 false _ rfl rfl rfl rfl rfl rfl ?_
    refine J.skip 26 33 40 false _ rfl rfl rfl rfl rfl rfl ?_
    refine J.y (yl_pick1 rfl rfl rfl rfl) rfl rfl rfl ?_
    refine J.nil ?_
    refine Ej.seq ?_
    refine Cj.cond rfl (fun hc4 => ?_) (fun hc4 => Bool.noConfusion (Eq.trans (Eq.symm rfl) hc4))
    refine Cj.seq ?_
    refine Cj.region ?_
    refine J.y (yl_assign rfl rfl) rfl rfl rfl ?_
    refine J.nil ?_
    refine Ej.seq ?_
    refine Cj.ret ?_
    refine Ej.seqRet ?_
    refine Ej.bare ?_
    refine Ej.ret1 rfl rfl rfl ?_
    have hne : a ≠ b := by intro he; have h := hg3; rw [he] at h; simp at h
    refine ⟨?_, rfl⟩
    simp [hne]
  ·
    refine J.opG 5 12 false _ rfl rfl rfl hg3 (op_yld (yl_fieldAddr (off' := 1) rfl rfl Tryz.underlying28 rfl Tryz.sizeOf9 rfl) rfl rfl ?_)
    refine J.opG 5 12 false _ rfl rfl rfl hg3 (op_yld (yl_load rfl rfl Tryz.isAgg9 (Blk.at 1 rfl) rfl) rfl rfl ?_)
    refine J.opG 5 12 false _ rfl rfl rfl hg3 (op_yld (yl_fieldAddr (off' := 1) rfl rfl Tryz.underlying28 rfl Tryz.sizeOf9 rfl) rfl rfl ?_)
    refine J.opG 5 12 false _ rfl rfl rfl hg3 (op_yld (yl_load rfl rfl Tryz.isAgg9 (Blk.at 0 rfl) rfl) rfl rfl ?_)
    refine J.opG 5 12 false _ rfl rfl rfl hg3 (op_yld (yl_neqStr rfl rfl rfl) rfl rfl ?_)
    refine J.y (yl_pick0 rfl rfl hg3 rfl) rfl rfl rfl ?_
    refine J.y (yl_move rfl rfl) rfl rfl rfl ?_
    refine J.split 19 rfl (fun hg5 => ?_) (fun hg5 => ?_)
    ·
      refine J.skip 12 19 20 false _ rfl rfl rfl hg5 rfl rfl ?_
      refine J.skip 12 19 21 false _ rfl rfl rfl hg5 rfl rfl ?_
      refine J.skip 12 19 22 false _ rfl rfl rfl hg5 rfl rfl ?_
      refine J.skip 12 19 23 false _ rfl rfl rfl hg5 rfl rfl ?_
      refine J.skip 12 19 24 false _ rfl rfl rfl hg5 rfl rfl ?_
      refine J.y (yl_pick1 rfl rfl hg5 rfl) rfl rfl rfl ?_
      refine J.y (yl_move rfl rfl) rfl rfl rfl ?_
      refine J.skip 19 26 27 false _ rfl rfl rfl rfl rfl rfl ?_
      refine J.skip 19 26 28 false _ rfl rfl rfl rfl rfl rfl ?_
      refine J.skip 19 26 29 false _ rfl rfl rfl rfl rfl rfl ?_
      refine J.skip 19 26 30 false _ rfl rfl rfl rfl rfl rfl ?_
      refine J.skip 19 26 31 false _ rfl rfl rfl rfl rfl rfl ?_
      refine J.y (yl_pick1 rfl rfl rfl rfl) rfl rfl rfl ?_
      refine J.y (yl_move rfl rfl) rfl rfl rfl ?_
      refine J.skip 26 33 34 false _ rfl rfl rfl rfl rfl rfl ?_
      refine J.skip 26 33 35 false _ rfl rfl rfl rfl rfl rfl ?_
      refine J.skip 26 33 36 false _ rfl rfl rfl rfl rfl rfl ?_
      refine J.skip 26 33 37 false _ rfl rfl rfl rfl rfl rfl ?_
      refine J.skip 26 33 38 false _ rfl rfl rfl rfl rfl rfl ?_
      refine J.skip 26 33 39 false _ rfl rfl rfl rfl rfl rfl ?_
      refine J.skip 26 33 40 false _ rfl rfl rfl rfl rfl rfl ?_
      refine J.y (yl_pick1 rfl rfl rfl rfl) rfl rfl rfl ?_
      refine J.nil ?_
      refine Ej.seq ?_
      refine Cj.cond rfl (fun hc6 => ?_) (fun hc6 => Bool.noConfusion (Eq.trans (Eq.symm rfl) hc6))
      refine Cj.seq ?_
      refine Cj.region ?_
      refine J.y (yl_assign rfl rfl) rfl rfl rfl ?_
      refine J.nil ?_
      refine Ej.seq ?_
      refine Cj.ret ?_
      refine Ej.seqRet ?_
      refine Ej.bare ?_
      refine Ej.ret1 rfl rfl rfl ?_
      have hne : a ≠ b := by intro he; have h := hg5; rw [he] at h; simp at h
      refine ⟨?_, rfl⟩
      simp [hne]
    ·
      refine J.opG 12 19 false _ rfl rfl rfl hg5 (op_yld (yl_fieldAddr (off' := 2) rfl rfl Tryz.underlying28 rfl Tryz.sizeOf9 rfl) rfl rfl ?_)
      refine J.opG 12 19 false _ rfl rfl rfl hg5 (op_yld (yl_load rfl rfl Tryz.isAgg9 (Blk.at 1 rfl) rfl) rfl rfl ?_)
      refine J.opG 12 19 false _ rfl rfl rfl hg5 (op_yld (yl_fieldAddr (off' := 2) rfl rfl Tryz.underlying28 rfl Tryz.sizeOf9 rfl) rfl rfl ?_)
      refine J.opG 12 19 false _ rfl rfl rfl hg5 (op_yld (yl_load rfl rfl Tryz.isAgg9 (Blk.at 0 rfl) rfl) rfl rfl ?_)
      refine J.opG 12 19 false _ rfl rfl rfl hg5 (op_yld (yl_neqStr rfl rfl rfl) rfl rfl ?_)
      refine J.y (yl_pick0 rfl rfl hg5 rfl) rfl rfl rfl ?_
      refine J.y (yl_move rfl rfl) rfl rfl rfl ?_
      refine J.split 26 rfl (fun hg7 => ?_) (fun hg7 => ?_)
      ·
        refine J.skip 19 26 27 false _ rfl rfl rfl hg7 rfl rfl ?_
        refine J.skip 19 26 28 false _ rfl rfl rfl hg7 rfl rfl ?_
        refine J.skip 19 26 29 false _ rfl rfl rfl hg7 rfl rfl ?_
        refine J.skip 19 26 30 false _ rfl rfl rfl hg7 rfl rfl ?_
        refine J.skip 19 26 31 false _ rfl rfl rfl hg7 rfl rfl ?_
        refine J.y (yl_pick1 rfl rfl hg7 rfl) rfl rfl rfl ?_
        refine J.y (yl_move rfl rfl) rfl rfl rfl ?_
        refine J.skip 26 33 34 false _ rfl rfl rfl rfl rfl rfl ?_
        refine J.skip 26 33 35 false _ rfl rfl rfl rfl rfl rfl ?_
        refine J.skip 26 33 36 false _ rfl rfl rfl rfl rfl rfl ?_
        refine J.skip 26 33 37 false _ rfl rfl rfl rfl rfl rfl ?_
        refine J.skip 26 33 38 false _ rfl rfl rfl rfl rfl rfl ?_
        refine J.skip 26 33 39 false _ rfl rfl rfl rfl rfl rfl ?_
        refine J.skip 26 33 40 false _ rfl rfl rfl rfl rfl rfl ?_
        refine J.y (yl_pick1 rfl rfl rfl rfl) rfl rfl rfl ?_
        refine J.nil ?_
        refine Ej.seq ?_
        refine Cj.cond rfl (fun hc8 => ?_) (fun hc8 => Bool.noConfusion (Eq.trans (Eq.symm rfl) hc8))
        refine Cj.seq ?_
        refine Cj.region ?_
        refine J.y (yl_assign rfl rfl) rfl rfl rfl ?_
        refine J.nil ?_
        refine Ej.seq ?_
        refine Cj.ret ?_
        refine Ej.seqRet ?_
        refine Ej.bare ?_
        refine Ej.ret1 rfl rfl rfl ?_
        have hne : a ≠ b := by intro he; have h := hg7; rw [he] at h; simp at h
        refine ⟨?_, rfl⟩
        simp [hne]
      ·
        refine J.opG 19 26 false _ rfl rfl rfl hg7 (op_yld (yl_fieldAddr (off' := 3) rfl rfl Tryz.underlying28 rfl Tryz.sizeOf9 rfl) rfl rfl ?_)
        refine J.opG 19 26 false _ rfl rfl rfl hg7 (op_yld (yl_load rfl rfl Tryz.isAgg9 (Blk.at 1 rfl) rfl) rfl rfl ?_)
        refine J.opG 19 26 false _ rfl rfl rfl hg7 (op_yld (yl_fieldAddr (off' := 3) rfl rfl Tryz.underlying28 rfl Tryz.sizeOf9 rfl) rfl rfl ?_)
        refine J.opG 19 26 false _ rfl rfl rfl hg7 (op_yld (yl_load rfl rfl Tryz.isAgg9 (Blk.at 0 rfl) rfl) rfl rfl ?_)
        refine J.opG 19 26 false _ rfl rfl rfl hg7 (op_yld (yl_neqStr rfl rfl rfl) rfl rfl ?_)
        refine J.y (yl_pick0 rfl rfl hg7 rfl) rfl rfl rfl ?_
        refine J.y (yl_move rfl rfl) rfl rfl rfl ?_
        refine J.split 33 rfl (fun hg9 => ?_) (fun hg9 => ?_)
        ·
          refine J.skip 26 33 34 false _ rfl rfl rfl hg9 rfl rfl ?_
          refine J.skip 26 33 35 false _ rfl rfl rfl hg9 rfl rfl ?_
          refine J.skip 26 33 36 false _ rfl rfl rfl hg9 rfl rfl ?_
          refine J.skip 26 33 37 false _ rfl rfl rfl hg9 rfl rfl ?_
          refine J.skip 26 33 38 false _ rfl rfl rfl hg9 rfl rfl ?_
          refine J.skip 26 33 39 false _ rfl rfl rfl hg9 rfl rfl ?_
          refine J.skip 26 33 40 false _ rfl rfl rfl hg9 rfl rfl ?_
          refine J.y (yl_pick1 rfl rfl hg9 rfl) rfl rfl rfl ?_
          refine J.nil ?_
          refine Ej.seq ?_
          refine Cj.cond rfl (fun hc10 => ?_) (fun hc10 => Bool.noConfusion (Eq.trans (Eq.symm rfl) hc10))
          refine Cj.seq ?_
          refine Cj.region ?_
          refine J.y (yl_assign rfl rfl) rfl rfl rfl ?_
          refine J.nil ?_
          refine Ej.seq ?_
          refine Cj.ret ?_
          refine Ej.seqRet ?_
          refine Ej.bare ?_
          refine Ej.ret1 rfl rfl rfl ?_
          have hne : a ≠ b := by intro he; have h := hg9; rw [he] at h; simp at h
          refine ⟨?_, rfl⟩
          simp [hne]
        ·
          refine J.opG 26 33 false _ rfl rfl rfl hg9 (op_yld (yl_fieldAddr (off' := 4) rfl rfl Tryz.underlying28 rfl Tryz.sizeOf26 rfl) rfl rfl ?_)
          refine J.opG 26 33 false _ rfl rfl rfl hg9 (op_yld (yl_load rfl rfl Tryz.isAgg26 (Blk.at 1 rfl) rfl) rfl rfl ?_)
          refine J.opG 26 33 false _ rfl rfl rfl hg9 (op_yld (yl_lenSlice rfl rfl Tryz.underlying26) rfl rfl ?_)
          refine J.opG 26 33 false _ rfl rfl rfl hg9 (op_yld (yl_fieldAddr (off' := 4) rfl rfl Tryz.underlying28 rfl Tryz.sizeOf26 rfl) rfl rfl ?_)
          refine J.opG 26 33 false _ rfl rfl rfl hg9 (op_yld (yl_load rfl rfl Tryz.isAgg26 (Blk.at 0 rfl) rfl) rfl rfl ?_)
          refine J.opG 26 33 false _ rfl rfl rfl hg9 (op_yld (yl_lenSlice rfl rfl Tryz.underlying26) rfl rfl ?_)
          refine J.opG 26 33 false _ rfl rfl rfl hg9 (op_yld (yl_neq rfl rfl rfl) rfl rfl ?_)
          refine J.y (yl_pick0 rfl rfl hg9 rfl) rfl rfl rfl ?_
          refine J.nil ?_
          refine Ej.seq ?_
          refine Cj.cond rfl (fun hc11 => ?_) (fun hc11 => ?_)
          ·
            have hc11p := bne_iff_ne.1 hc11
            refine Cj.seq ?_
            refine Cj.region ?_
            refine J.y (yl_assign rfl rfl) rfl rfl rfl ?_
            refine J.nil ?_
            refine Ej.seq ?_
            refine Cj.ret ?_
            refine Ej.seqRet ?_
            refine Ej.bare ?_
            refine Ej.ret1 rfl rfl rfl ?_
            have hne : a ≠ b := by intro he; have h := hc11; rw [he] at h; simp at h
            refine ⟨?_, rfl⟩
            simp [hne]
          ·
            have hc11p := bne_f hc11
            have hfk : a.k = b.k := by have h := hg3; simp at h; first | exact h | omega
            have hfi : a.i = b.i := by have h := hg5; simp at h; first | exact h | omega
            have hfr : a.r = b.r := by have h := hg7; simp at h; first | exact h | omega
            have hft : a.t = b.t := by have h := hg9; simp at h; first | exact h | omega
            have hfl : a.ps.len = b.ps.len := by have h := hc11; simp at h; first | exact h | omega
            refine Cj.skip ?_
            refine Ej.seq ?_
            refine Cj.seq ?_
            refine Cj.seq ?_
            refine Cj.region ?_
            refine J.y (yl_assign rfl rfl) rfl rfl rfl ?_
            refine J.nil ?_
            refine Ej.seq ?_
            refine Cj.block ?_
            refine Cj.loop (ι := Nat) (fun k => k ≤ a.ps.len ∧ ∀ j, j < k → a.ps.get j = b.ps.get j) (fun k => a.ps.len - k) (fun k => [(2, ptr b1 0), (3, ptr b2 0), (5, i64 (k : Int))]) (fun k => I) (fun k => [(b2, cel 28 (qCells b p2 c2)), (b1, cel 28 (qCells a p c))]) 0 ⟨Nat.zero_le _, fun j h => absurd h (by omega)⟩ ⟨rfl, rfl, rfl, trivial⟩ rfl rfl ?_
            rintro k ⟨hk, hall⟩
            refine Cj.seq ?_
            refine Cj.seq ?_
            refine Cj.region ?_
            refine J.y (yl_move rfl rfl) rfl rfl rfl ?_
            refine J.y (yl_fieldAddr (off' := 4) rfl rfl Tryz.underlying28 rfl Tryz.sizeOf26 rfl) rfl rfl rfl ?_
            refine J.y (yl_load rfl rfl Tryz.isAgg26 (Blk.at 1 rfl) rfl) rfl rfl rfl ?_
            refine J.y (yl_lenSlice rfl rfl Tryz.underlying26) rfl rfl rfl ?_
            refine J.y (yl_lss rfl rfl rfl) rfl rfl rfl ?_
            refine J.nil ?_
            refine Ej.seq ?_
            refine Cj.cond rfl (fun hc12 => ?_) (fun hc12 => ?_)
            ·
              have hc12p := of_decide_eq_true hc12
              have hlt : k < a.ps.len := by omega
              obtain ⟨x, hx⟩ := Cq.Qs.get_lt hlt
              obtain ⟨y, hy⟩ := Cq.Qs.get_lt (ps := b.ps) (hfl ▸ hlt)
              obtain ⟨bl, off, cs', T, fr, rfl, hbl, hat⟩ := hps.at (by omega)
              obtain ⟨bm, off2, cs2, T2, fr2, rfl, hbm, hat2⟩ := hps2.at (by omega)
              obtain ⟨px, cx, hca, hpx⟩ := hat k x hx
              obtain ⟨py, cy, hcb, hpy⟩ := hat2 k y hy
              refine Cj.skip ?_
              refine Ej.seq ?_
              refine Cj.seq ?_
              refine Cj.block ?_
              refine Cj.seq ?_
              refine Cj.drawSel [0, 1] [] 12 (by kernel_rfl) ?_
              have hbl_6 := hbl
              have hbm_6 := hbm
              refine JA.take 0 rfl rfl (by kernel_rfl) (by kernel_rfl) (by kernel_rfl) (fun _ _ _ h => h) rfl rfl rfl (HSub.c 0 rfl (HSub.c 1 rfl HSub.n)) CSub.n (Le.refl _) (yl_fieldAddr (off' := 4) rfl rfl Tryz.underlying28 rfl Tryz.sizeOf26 rfl) ?_
              refine JA.take 1 rfl rfl (by kernel_rfl) (by kernel_rfl) (by kernel_rfl) (fun _ _ _ h => h) rfl rfl rfl (HSub.c 0 rfl (HSub.c 1 rfl HSub.n)) CSub.n (Le.refl _) (yl_load rfl rfl Tryz.isAgg26 (Blk.atC 1 rfl) rfl) ?_
              refine JA.take 2 rfl rfl (by kernel_rfl) (by kernel_rfl) (by kernel_rfl) (fun _ _ _ h => h) rfl rfl rfl (HSub.c 0 rfl (HSub.c 1 rfl HSub.n)) CSub.n (Le.refl _) (yl_move rfl rfl) ?_
              refine JA.take 3 rfl rfl (by kernel_rfl) (by kernel_rfl) (by kernel_rfl) (fun _ _ _ h => h) rfl rfl rfl (HSub.c 0 rfl (HSub.c 1 rfl HSub.n)) CSub.n (Le.refl _) (yl_indexAddr (off' := off + k * 5) rfl rfl rfl Tryz.underlying26 Tryz.sizeOf28 (by omega) (by omega) (by simp)) ?_
              refine JA.take 4 rfl rfl (by kernel_rfl) (by kernel_rfl) (by kernel_rfl) (fun _ _ _ h => h) rfl rfl rfl (HSub.c 0 rfl (HSub.c 1 rfl HSub.n)) CSub.n (Le.refl _) (yl_loadAgg rfl rfl Tryz.isAgg28 Tryz.sizeOf28 (Blk.immC hbl_6) hca rfl) ?_
              refine JA.take 5 rfl rfl (by kernel_rfl) (by kernel_rfl) (by kernel_rfl) (fun _ _ _ h => h) rfl rfl rfl (HSub.c 0 rfl (HSub.c 1 rfl HSub.n)) CSub.n (Le.refl _) (yl_fieldAddr (off' := 4) rfl rfl Tryz.underlying28 rfl Tryz.sizeOf26 rfl) ?_
              refine JA.take 6 rfl rfl (by kernel_rfl) (by kernel_rfl) (by kernel_rfl) (fun _ _ _ h => h) rfl rfl rfl (HSub.c 0 rfl (HSub.c 1 rfl HSub.n)) CSub.n (Le.refl _) (yl_load rfl rfl Tryz.isAgg26 (Blk.atC 0 rfl) rfl) ?_
              refine JA.take 7 rfl rfl (by kernel_rfl) (by kernel_rfl) (by kernel_rfl) (fun _ _ _ h => h) rfl rfl rfl (HSub.c 0 rfl (HSub.c 1 rfl HSub.n)) CSub.n (Le.refl _) (yl_move rfl rfl) ?_
              refine JA.take 8 rfl rfl (by kernel_rfl) (by kernel_rfl) (by kernel_rfl) (fun _ _ _ h => h) rfl rfl rfl (HSub.c 0 rfl (HSub.c 1 rfl HSub.n)) CSub.n (Le.refl _) (yl_indexAddr (off' := off2 + k * 5) rfl rfl rfl Tryz.underlying26 Tryz.sizeOf28 (by omega) (by omega) (by simp)) ?_
              refine JA.take 9 rfl rfl (by kernel_rfl) (by kernel_rfl) (by kernel_rfl) (fun _ _ _ h => h) rfl rfl rfl (HSub.c 0 rfl (HSub.c 1 rfl HSub.n)) CSub.n (Le.refl _) (yl_loadAgg rfl rfl Tryz.isAgg28 Tryz.sizeOf28 (Blk.immC hbm_6) hcb rfl) ?_
              refine JA.step 10 (by kernel_rfl) rfl rfl (op_pure rfl rfl rfl rfl rfl (ih x (Cq.Qs.get_size hx : x.size < a.ps.size) y px py cx cy _ hpx hpy (by have := Cq.Qs.get_size hx; unfold Cq.Qn.size at hsz; omega)) ?_)
              refine ⟨⟨(Le.refl _), (HSub.c 0 rfl (HSub.c 1 rfl HSub.n)), CSub.n⟩, ?_⟩
              refine JA.take 11 rfl rfl (by kernel_rfl) (by kernel_rfl) (by kernel_rfl) (fun _ _ _ h => h) rfl rfl rfl (HSub.c 0 rfl (HSub.c 1 rfl HSub.n)) CSub.n (Le.refl _) (yl_assign rfl rfl) ?_
              refine JA.done (by kernel_rfl) ?_
              refine Ej.seq ?_
              refine Cj.seq ?_
              refine Cj.region ?_
              refine J.y (yl_move rfl rfl) rfl rfl rfl ?_
              refine J.y (yl_not rfl rfl) rfl rfl rfl ?_
              refine J.nil ?_
              refine Ej.seq ?_
              refine Cj.cond rfl (fun hc13 => ?_) (fun hc13 => ?_)
              ·
                have hxy : x ≠ y := by have h := hc13; simpa using h
                refine Cj.seq ?_
                refine Cj.region ?_
                refine J.y (yl_assign rfl rfl) rfl rfl rfl ?_
                refine J.nil ?_
                refine Ej.seq ?_
                refine Cj.ret ?_
                refine Ej.blkRet ?_
                refine Ej.seqRet ?_
                refine Ej.loopRet ?_
                refine Ej.blkRet ?_
                refine Ej.seqRet ?_
                refine Ej.bare ?_
                refine Ej.ret1 rfl rfl rfl ?_
                refine ⟨?_, rfl⟩
                have hne : a ≠ b := fun he => hxy (by rw [he] at hx; exact Option.some.inj (hx.symm.trans hy))
                simp [hne]
              ·
                have hxy : x = y := by have h := hc13; simpa using h
                refine Cj.skip ?_
                refine Ej.blkNormal ?_
                refine Ej.seq ?_
                refine Cj.region ?_
                refine J.y (yl_move rfl rfl) rfl rfl rfl ?_
                refine J.y (yl_add rfl rfl rfl (w64 (by omega))) rfl rfl rfl ?_
                refine J.y (yl_assign rfl rfl) rfl rfl rfl ?_
                refine J.nil ?_
                refine Ej.round (k + 1) ⟨by omega, fun j hj => (Nat.lt_succ_iff_lt_or_eq.1 hj).elim (hall j) (fun h => by rw [h, hx, hy, hxy])⟩ (by omega) ⟨rfl, rfl, rfl, trivial⟩ rfl rfl
            ·
              have hc12p := of_decide_eq_false hc12
              refine Cj.exit ?_
              refine Ej.seqExit ?_
              refine Ej.loopExit ?_
              refine Ej.blkExit ?_
              refine Ej.seq ?_
              refine Cj.seq ?_
              refine Cj.region ?_
              refine J.y (yl_assign rfl rfl) rfl rfl rfl ?_
              refine J.nil ?_
              refine Ej.seq ?_
              refine Cj.ret ?_
              refine Ej.bare ?_
              refine Ej.ret1 rfl rfl rfl ?_
              refine ⟨?_, rfl⟩
              have he : a = b := same_of hfk hfi hfr hft (Cq.Qs.ext hfl fun j hj => hall j (by omega))
              simp [he]

theorem Same_ok (a : Cq.Qn) : SameSpec a := by
  suffices ∀ n (a : Cq.Qn), a.size < n → SameSpec a from this _ a (Nat.lt_succ_self _)
  intro n
  induction n with
  | zero => intro q h; omega
  | succ n ih => intro q h; exact same_step q fun q' h' => ih q' (by omega)

end Go.Proofs.YtlfpehljahgbkaaGreatDoor
