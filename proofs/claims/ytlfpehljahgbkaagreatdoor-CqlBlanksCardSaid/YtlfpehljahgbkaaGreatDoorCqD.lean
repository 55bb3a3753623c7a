/-
  Contracts of the reference's parser: clauses and queries. Own text, printed by a program. Conditions: none.
-/
import Derived.Test.YtlfpehljahgbkaaGreatDoorCqC
namespace Go.Proofs.YtlfpehljahgbkaaGreatDoor
open Go Go.Sx
def CSpec (f : Nat) : Prop := ∀ (pb bt ct k deep : Nat) (all : List Cq.Tok) (spt : List Value) (ts : List Cq.Tok) (I : Heap), RPre I bt all spt k ts → 2 * ts.length + 1 ≤ f → deep ≤ 50 →
  Ctr Tryz.prog 61 [ptr pb 0] I (RP pb bt ct all.length k deep 0 0) (ROut pb bt ct all deep (Cq.clause f deep ts))
def QSpec (f : Nat) : Prop := ∀ (pb bt ct k deep : Nat) (all : List Cq.Tok) (spt : List Value) (ts : List Cq.Tok) (I : Heap), RPre I bt all spt k ts → 2 * ts.length + 2 ≤ f → deep ≤ 50 →
  Ctr Tryz.prog 45 [ptr pb 0] I (RP pb bt ct all.length k deep 0 0) (ROut pb bt ct all deep (Cq.query f deep ts))
set_option maxRecDepth 20000 in
theorem rclause_step (f : Nat) (ih : QSpec f) : CSpec (f + 1) := by
  intro pb bt ct k deep all spt ts I hpre hf hd
  obtain ⟨t, r, rfl⟩ := hpre.good.ne
  have hbt := hpre.blk; have hlt := drop_lt hpre.drop; have htx := hpre.tx; have hal := hpre.len
  refine Ctr.of_body Tryz.func61 rfl (by decide) (Nat.le_of_ble_eq_true rfl) ?_
  intro w0 hw0
  refine Cj.seq ?_
  refine Cj.region ?_
  refine J.op rfl (op_alloc rfl rfl rfl Tryz.zeroValue28 rfl ?_)
  intro b1 hb1
  refine J.nil ?_
  refine Ej.seq ?_
  refine Cj.seq ?_
  refine Cj.drawSel [0, 1] [] 12 (by kernel_rfl) ?_
  refine JA.take 0 rfl rfl (by kernel_rfl) (by kernel_rfl) (by kernel_rfl) (fun _ _ _ h => h) rfl rfl rfl (HSub.c 0 rfl (HSub.c 1 rfl HSub.n)) CSub.n (Le.refl _) (yl_move rfl rfl) ?_
  refine JA.take 1 rfl rfl (by kernel_rfl) (by kernel_rfl) (by kernel_rfl) (fun _ _ _ h => h) rfl rfl rfl (HSub.c 0 rfl (HSub.c 1 rfl HSub.n)) CSub.n (Le.refl _) (yl_nilCheck rfl rfl) ?_
  refine JA.take 2 rfl rfl (by kernel_rfl) (by kernel_rfl) (by kernel_rfl) (fun _ _ _ h => h) rfl rfl rfl (HSub.c 0 rfl (HSub.c 1 rfl HSub.n)) CSub.n (Le.refl _) (yl_fieldAddr (off' := 0) rfl rfl Tryz.underlying88 rfl Tryz.sizeOf47 rfl) ?_
  refine JA.take 3 rfl rfl (by kernel_rfl) (by kernel_rfl) (by kernel_rfl) (fun _ _ _ h => h) rfl rfl rfl (HSub.c 0 rfl (HSub.c 1 rfl HSub.n)) CSub.n (Le.refl _) (yl_load rfl rfl Tryz.isAgg47 (Blk.atC 1 rfl) rfl) ?_
  refine JA.take 4 rfl rfl (by kernel_rfl) (by kernel_rfl) (by kernel_rfl) (fun _ _ _ h => h) rfl rfl rfl (HSub.c 0 rfl (HSub.c 1 rfl HSub.n)) CSub.n (Le.refl _) (yl_move rfl rfl) ?_
  refine JA.take 5 rfl rfl (by kernel_rfl) (by kernel_rfl) (by kernel_rfl) (fun _ _ _ h => h) rfl rfl rfl (HSub.c 0 rfl (HSub.c 1 rfl HSub.n)) CSub.n (Le.refl _) (yl_nilCheck rfl rfl) ?_
  refine JA.take 6 rfl rfl (by kernel_rfl) (by kernel_rfl) (by kernel_rfl) (fun _ _ _ h => h) rfl rfl rfl (HSub.c 0 rfl (HSub.c 1 rfl HSub.n)) CSub.n (Le.refl _) (yl_fieldAddr (off' := 1) rfl rfl Tryz.underlying88 rfl Tryz.sizeOf3 rfl) ?_
  refine JA.take 7 rfl rfl (by kernel_rfl) (by kernel_rfl) (by kernel_rfl) (fun _ _ _ h => h) rfl rfl rfl (HSub.c 0 rfl (HSub.c 1 rfl HSub.n)) CSub.n (Le.refl _) (yl_load rfl rfl Tryz.isAgg3 (Blk.atC 1 rfl) rfl) ?_
  refine JA.take 8 rfl rfl (by kernel_rfl) (by kernel_rfl) (by kernel_rfl) (fun _ _ _ h => h) rfl rfl rfl (HSub.c 0 rfl (HSub.c 1 rfl HSub.n)) CSub.n (Le.refl _) (yl_indexAddr (off' := k * 3) rfl rfl rfl Tryz.underlying47 Tryz.sizeOf50 (by omega) (by omega) (by simp)) ?_
  refine JA.take 9 rfl rfl (by kernel_rfl) (by kernel_rfl) (by kernel_rfl) (fun _ _ _ h => h) rfl rfl rfl (HSub.c 0 rfl (HSub.c 1 rfl HSub.n)) CSub.n (Le.refl _) (yl_loadAgg rfl rfl Tryz.isAgg50 Tryz.sizeOf50 (Blk.immC hbt) (tok_at hpre.drop) rfl) ?_
  refine JA.step 10 (by kernel_rfl) rfl rfl (op_alloc rfl rfl rfl Tryz.zeroValue50 rfl ?_)
  intro b2 hb2
  refine ⟨⟨(Le.refl _), (HSub.c 1 rfl (HSub.c 2 rfl HSub.n)), CSub.n⟩, ?_⟩
  refine JA.step 11 (by kernel_rfl) rfl rfl (op_store 0 rfl rfl rfl rfl rfl rfl Tryz.sizeOf50 rfl rfl (LSpl.c (LSpl.c (LSpl.c LSpl.z))) LSet.z ?_)
  refine ⟨⟨(Le.refl _), (HSub.c 1 rfl (HSub.c 2 rfl HSub.n)), CSub.n⟩, ?_⟩
  refine JA.done (by kernel_rfl) ?_
  refine Ej.seq ?_
  refine Cj.seq ?_
  refine Cj.seq ?_
  refine Cj.region ?_
  refine J.y (yl_fieldAddr (off' := 0) rfl rfl Tryz.underlying50 rfl Tryz.sizeOf3 rfl) rfl rfl rfl ?_
  refine J.y (yl_load rfl rfl Tryz.isAgg3 (Blk.at 0 rfl) rfl) rfl rfl rfl ?_
  refine J.y (yl_eql rfl rfl rfl) rfl rfl rfl ?_
  refine J.y (yl_move rfl rfl) rfl rfl rfl ?_
  refine J.split 22 rfl (fun hg3 => ?_) (fun hg3 => ?_)
  ·
    have hk1 : t.kind = 1 := by have := eq_of_beq hg3; omega
    refine J.opG 3 22 true _ rfl rfl rfl hg3 (op_yld (yl_fieldAddr (off' := 1) rfl rfl Tryz.underlying50 rfl Tryz.sizeOf9 rfl) rfl rfl ?_)
    refine J.opG 3 22 true _ rfl rfl rfl hg3 (op_yld (yl_load rfl rfl Tryz.isAgg9 (Blk.at 0 rfl) rfl) rfl rfl ?_)
    refine J.opG 3 22 true _ rfl rfl rfl hg3 (op_yld (yl_eqlStr rfl rfl rfl) rfl rfl ?_)
    refine J.y (yl_pick1 rfl rfl hg3 rfl) rfl rfl rfl ?_
    refine J.nil ?_
    refine Ej.seq ?_
    refine Cj.cond rfl (fun hc4 => ?_) (fun hc4 => ?_)
    ·
      have hc4p := eq_of_beq hc4
      have hlp : Cq.lp t = true := by have := eq_of_beq hc4; simp [Cq.lp, hk1, this]
      refine Cj.seq ?_
      refine Cj.region ?_
      refine J.y (yl_move rfl rfl) rfl rfl rfl ?_
      refine J.y (yl_nilCheck rfl rfl) rfl rfl rfl ?_
      refine J.y (yl_fieldAddr (off' := 2) rfl rfl Tryz.underlying88 rfl Tryz.sizeOf3 rfl) rfl rfl rfl ?_
      refine J.y (yl_load rfl rfl Tryz.isAgg3 (Blk.at 2 rfl) rfl) rfl rfl rfl ?_
      refine J.y (yl_add rfl rfl rfl (w64 (by omega))) rfl rfl rfl ?_
      refine J.y (yl_nilCheck rfl rfl) rfl rfl rfl ?_
      refine J.y (yl_fieldAddr (off' := 2) rfl rfl Tryz.underlying88 rfl Tryz.sizeOf3 rfl) rfl rfl rfl ?_
      refine J.op rfl (op_store 2 rfl rfl rfl rfl rfl rfl Tryz.sizeOf3 rfl rfl (LSpl.s (LSpl.s (LSpl.c LSpl.z))) (LSet.s (LSet.s LSet.z)) ?_)
      refine J.nil ?_
      refine Ej.seq ?_
      refine Cj.seq ?_
      refine Cj.seq ?_
      refine Cj.region ?_
      refine J.y (yl_move rfl rfl) rfl rfl rfl ?_
      refine J.y (yl_nilCheck rfl rfl) rfl rfl rfl ?_
      refine J.y (yl_fieldAddr (off' := 2) rfl rfl Tryz.underlying88 rfl Tryz.sizeOf3 rfl) rfl rfl rfl ?_
      refine J.y (yl_load rfl rfl Tryz.isAgg3 (Blk.at 2 rfl) rfl) rfl rfl rfl ?_
      refine J.y (yl_gtr rfl rfl rfl) rfl rfl rfl ?_
      refine J.nil ?_
      refine Ej.seq ?_
      refine Cj.cond rfl (fun hc5 => ?_) (fun hc5 => ?_)
      ·
        have hc5p := of_decide_eq_true hc5
        refine Cj.seq ?_
        refine Cj.region ?_
        refine J.y (yl_move rfl rfl) rfl rfl rfl ?_
        refine J.y (yl_loadAgg rfl rfl Tryz.isAgg50 Tryz.sizeOf50 (Blk.at 0 rfl) rfl rfl) rfl rfl rfl ?_
        refine J.pull (Pull.s (Pull.s Pull.z)) ?_
        refine J.op rfl (op_call (H1 := [_]) rfl rfl rfl rfl rfl (rfail_ok _ _ _ _ _ _ _ _) ?_ (fun _ _ _ _ h => by cases h.1) (fun _ _ h => by cases h.1))
        intro v6 I7 H8 hle9 hp10
        have hbt := hle9 _ _ hbt
        have hpre := hpre.mono hle9
        obtain ⟨hv6, rfl⟩ := hp10; cases hv6
        refine J.nil ?_
        refine Ej.seq ?_
        refine Cj.seq ?_
        refine Cj.region ?_
        refine J.y (yl_buildS (pl := #[(0, 1), (1, 1), (2, 1), (3, 1), (4, 1)]) rfl rfl Tryz.zeroValue28 rfl Tryz.underlying28 (fun w => by simp [Tryz.sizeOf26, Tryz.sizeOf3, Tryz.sizeOf9]) LBld.none) rfl rfl rfl ?_
        refine J.op rfl (op_store 2 rfl rfl rfl rfl rfl rfl Tryz.sizeOf28 rfl rfl (LSpl.c (LSpl.c (LSpl.c (LSpl.c (LSpl.c LSpl.z))))) (LSet.s (LSet.s LSet.z)) ?_)
        refine J.nil ?_
        refine Ej.seq ?_
        refine Cj.ret ?_
        refine Ej.seqRet ?_
        refine Ej.seqRet ?_
        refine Ej.retCellK (Keeps.k (Keeps.d (Keeps.d Keeps.n))) rfl rfl rfl (Blk.at 2 rfl) Tryz.isAgg28 Tryz.sizeOf28 rfl ?_
        show ROut pb bt ct all deep (Cq.clause (f + 1) deep (t :: r)) _ _ _
        have hev : Cq.clause (f + 1) deep (t :: r) = .err t.pos 41 := by simp [Cq.clause, hlp]; omega
        rw [hev]
        exact ⟨Cq.zero, none, 0, _, _, rfl, rfl, by decide⟩
      ·
        have hc5p := of_decide_eq_false hc5
        refine Cj.skip ?_
        refine Ej.seq ?_
        refine Cj.seq ?_
        refine Cj.region ?_
        refine J.y (yl_move rfl rfl) rfl rfl rfl ?_
        refine J.y (yl_nilCheck rfl rfl) rfl rfl rfl ?_
        refine J.y (yl_fieldAddr (off' := 1) rfl rfl Tryz.underlying88 rfl Tryz.sizeOf3 rfl) rfl rfl rfl ?_
        refine J.y (yl_load rfl rfl Tryz.isAgg3 (Blk.at 2 rfl) rfl) rfl rfl rfl ?_
        refine J.y (yl_add rfl rfl rfl (w64 (by omega))) rfl rfl rfl ?_
        refine J.y (yl_nilCheck rfl rfl) rfl rfl rfl ?_
        refine J.y (yl_fieldAddr (off' := 1) rfl rfl Tryz.underlying88 rfl Tryz.sizeOf3 rfl) rfl rfl rfl ?_
        refine J.op rfl (op_store 2 rfl rfl rfl rfl rfl rfl Tryz.sizeOf3 rfl rfl (LSpl.s (LSpl.c LSpl.z)) (LSet.s (LSet.s LSet.z)) ?_)
        refine J.nil ?_
        refine Ej.seq ?_
        refine Cj.seq ?_
        refine Cj.region ?_
        refine J.y (yl_move rfl rfl) rfl rfl rfl ?_
        refine J.pull (Pull.s (Pull.s Pull.z)) ?_
        refine J.op rfl (op_call (H1 := [_]) rfl rfl rfl rfl rfl (ih pb bt ct (k + 1) (deep + 1) all spt r _ (hpre.to (drop_next hpre.drop) (hpre.good.cons (Cq.over_lp hlp))) (by simp at hf; omega) (by omega)) ?_ (fun _ _ _ _ h => by obtain ⟨_, h⟩ := h.ret; cases h) (fun _ _ h => by obtain ⟨_, h⟩ := h.ret; cases h))
        intro v11 I12 H13 hle14 hp15
        have hbt := hle14 _ _ hbt
        have hpre := hpre.mono hle14
        have hless := (Cq.less f).2.1 (deep + 1) r (hpre.good.cons (Cq.over_lp hlp))
        rcases hq : Cq.query f (deep + 1) r with ⟨q, ts2⟩ | ⟨pe, ee⟩
        ·
          rw [hq] at hp15 hless
          obtain ⟨vq, k2, h1, ⟨pq, cq, rfl, hps⟩, rfl, hdr⟩ := hp15
          cases h1
          obtain ⟨hg2, hlen2⟩ := hless
          obtain ⟨t2, r2, rfl⟩ := hg2.ne
          have hpre2 := hpre.to hdr hg2
          have hlt2 := drop_lt hdr
          have htx2 := hpre2.tx
          refine J.op rfl (op_alloc rfl rfl rfl Tryz.zeroValue28 rfl ?_)
          intro b16 hb16
          refine J.op rfl (op_store 0 rfl rfl rfl rfl rfl rfl Tryz.sizeOf28 rfl rfl (LSpl.c (LSpl.c (LSpl.c (LSpl.c (LSpl.c LSpl.z))))) LSet.z ?_)
          refine J.nil ?_
          refine Ej.seq ?_
          refine Cj.seq ?_
          refine Cj.seq ?_
          refine Cj.region ?_
          refine J.y (yl_move rfl rfl) rfl rfl rfl ?_
          refine J.y (yl_nilCheck rfl rfl) rfl rfl rfl ?_
          refine J.y (yl_fieldAddr (off' := 4) rfl rfl Tryz.underlying88 rfl Tryz.sizeOf32 rfl) rfl rfl rfl ?_
          refine J.y (yl_load rfl rfl Tryz.isAgg32 (Blk.at 1 rfl) rfl) rfl rfl rfl ?_
          refine J.y (yl_neq rfl rfl rfl) rfl rfl rfl ?_
          refine J.nil ?_
          refine Ej.seq ?_
          refine Cj.cond rfl (fun hc17 => Bool.noConfusion (Eq.trans (Eq.symm rfl) hc17)) (fun hc17 => ?_)
          refine Cj.skip ?_
          refine Ej.seq ?_
          refine Cj.seq ?_
          refine Cj.seq ?_
          refine Cj.drawSel [0, 1, 2, 3] [] 26 (by kernel_rfl) ?_
          refine JA.take 0 rfl rfl (by kernel_rfl) (by kernel_rfl) (by kernel_rfl) (fun _ _ _ h => h) rfl rfl rfl (HSub.c 0 rfl (HSub.c 1 rfl (HSub.c 2 rfl (HSub.c 3 rfl HSub.n)))) CSub.n (Le.refl _) (yl_move rfl rfl) ?_
          refine JA.take 1 rfl rfl (by kernel_rfl) (by kernel_rfl) (by kernel_rfl) (fun _ _ _ h => h) rfl rfl rfl (HSub.c 0 rfl (HSub.c 1 rfl (HSub.c 2 rfl (HSub.c 3 rfl HSub.n)))) CSub.n (Le.refl _) (yl_nilCheck rfl rfl) ?_
          refine JA.take 2 rfl rfl (by kernel_rfl) (by kernel_rfl) (by kernel_rfl) (fun _ _ _ h => h) rfl rfl rfl (HSub.c 0 rfl (HSub.c 1 rfl (HSub.c 2 rfl (HSub.c 3 rfl HSub.n)))) CSub.n (Le.refl _) (yl_fieldAddr (off' := 0) rfl rfl Tryz.underlying88 rfl Tryz.sizeOf47 rfl) ?_
          refine JA.take 3 rfl rfl (by kernel_rfl) (by kernel_rfl) (by kernel_rfl) (fun _ _ _ h => h) rfl rfl rfl (HSub.c 0 rfl (HSub.c 1 rfl (HSub.c 2 rfl (HSub.c 3 rfl HSub.n)))) CSub.n (Le.refl _) (yl_load rfl rfl Tryz.isAgg47 (Blk.atC 1 rfl) rfl) ?_
          refine JA.take 4 rfl rfl (by kernel_rfl) (by kernel_rfl) (by kernel_rfl) (fun _ _ _ h => h) rfl rfl rfl (HSub.c 0 rfl (HSub.c 1 rfl (HSub.c 2 rfl (HSub.c 3 rfl HSub.n)))) CSub.n (Le.refl _) (yl_move rfl rfl) ?_
          refine JA.take 5 rfl rfl (by kernel_rfl) (by kernel_rfl) (by kernel_rfl) (fun _ _ _ h => h) rfl rfl rfl (HSub.c 0 rfl (HSub.c 1 rfl (HSub.c 2 rfl (HSub.c 3 rfl HSub.n)))) CSub.n (Le.refl _) (yl_nilCheck rfl rfl) ?_
          refine JA.take 6 rfl rfl (by kernel_rfl) (by kernel_rfl) (by kernel_rfl) (fun _ _ _ h => h) rfl rfl rfl (HSub.c 0 rfl (HSub.c 1 rfl (HSub.c 2 rfl (HSub.c 3 rfl HSub.n)))) CSub.n (Le.refl _) (yl_fieldAddr (off' := 1) rfl rfl Tryz.underlying88 rfl Tryz.sizeOf3 rfl) ?_
          refine JA.take 7 rfl rfl (by kernel_rfl) (by kernel_rfl) (by kernel_rfl) (fun _ _ _ h => h) rfl rfl rfl (HSub.c 0 rfl (HSub.c 1 rfl (HSub.c 2 rfl (HSub.c 3 rfl HSub.n)))) CSub.n (Le.refl _) (yl_load rfl rfl Tryz.isAgg3 (Blk.atC 1 rfl) rfl) ?_
          refine JA.take 8 rfl rfl (by kernel_rfl) (by kernel_rfl) (by kernel_rfl) (fun _ _ _ h => h) rfl rfl rfl (HSub.c 0 rfl (HSub.c 1 rfl (HSub.c 2 rfl (HSub.c 3 rfl HSub.n)))) CSub.n (Le.refl _) (yl_indexAddr (off' := k2 * 3) rfl rfl rfl Tryz.underlying47 Tryz.sizeOf50 (by omega) (by omega) (by simp)) ?_
          refine JA.take 9 rfl rfl (by kernel_rfl) (by kernel_rfl) (by kernel_rfl) (fun _ _ _ h => h) rfl rfl rfl (HSub.c 0 rfl (HSub.c 1 rfl (HSub.c 2 rfl (HSub.c 3 rfl HSub.n)))) CSub.n (Le.refl _) (yl_fieldAddr rfl rfl Tryz.underlying50 rfl Tryz.sizeOf3 rfl) ?_
          refine JA.take 10 rfl rfl (by kernel_rfl) (by kernel_rfl) (by kernel_rfl) (fun _ _ _ h => h) rfl rfl rfl (HSub.c 0 rfl (HSub.c 1 rfl (HSub.c 2 rfl (HSub.c 3 rfl HSub.n)))) CSub.n (Le.refl _) (yl_load rfl rfl Tryz.isAgg3 (Blk.immC hbt) (by simpa [Cq.tokC] using tok_cell hdr 0 (by omega))) ?_
          refine JA.take 11 rfl rfl (by kernel_rfl) (by kernel_rfl) (by kernel_rfl) (fun _ _ _ h => h) rfl rfl rfl (HSub.c 0 rfl (HSub.c 1 rfl (HSub.c 2 rfl (HSub.c 3 rfl HSub.n)))) CSub.n (Le.refl _) (yl_neq rfl rfl rfl) ?_
          refine JA.take 12 rfl rfl (by kernel_rfl) (by kernel_rfl) (by kernel_rfl) (fun _ _ _ h => h) rfl rfl rfl (HSub.c 0 rfl (HSub.c 1 rfl (HSub.c 2 rfl (HSub.c 3 rfl HSub.n)))) CSub.n (Le.refl _) (yl_move rfl rfl) ?_
          refine JA.split 70 rfl (fun hg18 => ?_) (fun hg18 => ?_)
          ·
            have hrp : Cq.rp t2 = false := by have := bne_iff_ne.1 hg18; simp [Cq.rp]; omega
            refine JA.takeS 13 12 70 false _ rfl rfl (by kernel_rfl) (by kernel_rfl) (by kernel_rfl) (fun _ _ _ h => h) rfl rfl rfl (.inl (congrArg Value.bool hg18)) rfl rfl (HSub.c 0 rfl (HSub.c 1 rfl (HSub.c 2 rfl (HSub.c 3 rfl HSub.n)))) CSub.n (Le.refl _) ?_
            refine JA.takeS 14 12 70 false _ rfl rfl (by kernel_rfl) (by kernel_rfl) (by kernel_rfl) (fun _ _ _ h => h) rfl rfl rfl (.inl (congrArg Value.bool hg18)) rfl rfl (HSub.c 0 rfl (HSub.c 1 rfl (HSub.c 2 rfl (HSub.c 3 rfl HSub.n)))) CSub.n (Le.refl _) ?_
            refine JA.takeS 15 12 70 false _ rfl rfl (by kernel_rfl) (by kernel_rfl) (by kernel_rfl) (fun _ _ _ h => h) rfl rfl rfl (.inl (congrArg Value.bool hg18)) rfl rfl (HSub.c 0 rfl (HSub.c 1 rfl (HSub.c 2 rfl (HSub.c 3 rfl HSub.n)))) CSub.n (Le.refl _) ?_
            refine JA.takeS 16 12 70 false _ rfl rfl (by kernel_rfl) (by kernel_rfl) (by kernel_rfl) (fun _ _ _ h => h) rfl rfl rfl (.inl (congrArg Value.bool hg18)) rfl rfl (HSub.c 0 rfl (HSub.c 1 rfl (HSub.c 2 rfl (HSub.c 3 rfl HSub.n)))) CSub.n (Le.refl _) ?_
            refine JA.takeS 17 12 70 false _ rfl rfl (by kernel_rfl) (by kernel_rfl) (by kernel_rfl) (fun _ _ _ h => h) rfl rfl rfl (.inl (congrArg Value.bool hg18)) rfl rfl (HSub.c 0 rfl (HSub.c 1 rfl (HSub.c 2 rfl (HSub.c 3 rfl HSub.n)))) CSub.n (Le.refl _) ?_
            refine JA.takeS 18 12 70 false _ rfl rfl (by kernel_rfl) (by kernel_rfl) (by kernel_rfl) (fun _ _ _ h => h) rfl rfl rfl (.inl (congrArg Value.bool hg18)) rfl rfl (HSub.c 0 rfl (HSub.c 1 rfl (HSub.c 2 rfl (HSub.c 3 rfl HSub.n)))) CSub.n (Le.refl _) ?_
            refine JA.takeS 19 12 70 false _ rfl rfl (by kernel_rfl) (by kernel_rfl) (by kernel_rfl) (fun _ _ _ h => h) rfl rfl rfl (.inl (congrArg Value.bool hg18)) rfl rfl (HSub.c 0 rfl (HSub.c 1 rfl (HSub.c 2 rfl (HSub.c 3 rfl HSub.n)))) CSub.n (Le.refl _) ?_
            refine JA.takeS 20 12 70 false _ rfl rfl (by kernel_rfl) (by kernel_rfl) (by kernel_rfl) (fun _ _ _ h => h) rfl rfl rfl (.inl (congrArg Value.bool hg18)) rfl rfl (HSub.c 0 rfl (HSub.c 1 rfl (HSub.c 2 rfl (HSub.c 3 rfl HSub.n)))) CSub.n (Le.refl _) ?_
            refine JA.takeS 21 12 70 false _ rfl rfl (by kernel_rfl) (by kernel_rfl) (by kernel_rfl) (fun _ _ _ h => h) rfl rfl rfl (.inl (congrArg Value.bool hg18)) rfl rfl (HSub.c 0 rfl (HSub.c 1 rfl (HSub.c 2 rfl (HSub.c 3 rfl HSub.n)))) CSub.n (Le.refl _) ?_
            refine JA.takeS 22 12 70 false _ rfl rfl (by kernel_rfl) (by kernel_rfl) (by kernel_rfl) (fun _ _ _ h => h) rfl rfl rfl (.inl (congrArg Value.bool hg18)) rfl rfl (HSub.c 0 rfl (HSub.c 1 rfl (HSub.c 2 rfl (HSub.c 3 rfl HSub.n)))) CSub.n (Le.refl _) ?_
            refine JA.takeS 23 12 70 false _ rfl rfl (by kernel_rfl) (by kernel_rfl) (by kernel_rfl) (fun _ _ _ h => h) rfl rfl rfl (.inl (congrArg Value.bool hg18)) rfl rfl (HSub.c 0 rfl (HSub.c 1 rfl (HSub.c 2 rfl (HSub.c 3 rfl HSub.n)))) CSub.n (Le.refl _) ?_
            refine JA.takeS 24 12 70 false _ rfl rfl (by kernel_rfl) (by kernel_rfl) (by kernel_rfl) (fun _ _ _ h => h) rfl rfl rfl (.inl (congrArg Value.bool hg18)) rfl rfl (HSub.c 0 rfl (HSub.c 1 rfl (HSub.c 2 rfl (HSub.c 3 rfl HSub.n)))) CSub.n (Le.refl _) ?_
            refine JA.take 25 rfl rfl (by kernel_rfl) (by kernel_rfl) (by kernel_rfl) (fun _ _ _ h => h) rfl rfl rfl (HSub.c 0 rfl (HSub.c 1 rfl (HSub.c 2 rfl (HSub.c 3 rfl HSub.n)))) CSub.n (Le.refl _) (yl_pick1 rfl rfl hg18 rfl) ?_
            refine JA.done (by kernel_rfl) ?_
            refine Ej.seq ?_
            refine Cj.cond rfl (fun hc19 => ?_) (fun hc19 => Bool.noConfusion (Eq.trans (Eq.symm rfl) hc19))
            refine Cj.seq ?_
            refine Cj.drawSel [0, 2, 3] [(pb, 0, .slice (some ⟨bt, 0, none⟩) all.length ct), (pb, 1, i64 k2)] 12 (by kernel_rfl) ?_
            have hbt_12 := hbt
            refine JA.take 0 rfl rfl (by kernel_rfl) (by kernel_rfl) (by kernel_rfl) (fun _ _ _ h => h) rfl rfl rfl (HSub.c 0 rfl (HSub.c 2 rfl (HSub.c 3 rfl HSub.n))) (CSub.c 1 rfl rfl (CSub.c 1 rfl rfl CSub.n)) (Le.refl _) (yl_move rfl rfl) ?_
            refine JA.take 1 rfl rfl (by kernel_rfl) (by kernel_rfl) (by kernel_rfl) (fun _ _ _ h => h) rfl rfl rfl (HSub.c 0 rfl (HSub.c 2 rfl (HSub.c 3 rfl HSub.n))) (CSub.c 1 rfl rfl (CSub.c 1 rfl rfl CSub.n)) (Le.refl _) (yl_move rfl rfl) ?_
            refine JA.take 2 rfl rfl (by kernel_rfl) (by kernel_rfl) (by kernel_rfl) (fun _ _ _ h => h) rfl rfl rfl (HSub.c 0 rfl (HSub.c 2 rfl (HSub.c 3 rfl HSub.n))) (CSub.c 1 rfl rfl (CSub.c 1 rfl rfl CSub.n)) (Le.refl _) (yl_nilCheck rfl rfl) ?_
            refine JA.take 3 rfl rfl (by kernel_rfl) (by kernel_rfl) (by kernel_rfl) (fun _ _ _ h => h) rfl rfl rfl (HSub.c 0 rfl (HSub.c 2 rfl (HSub.c 3 rfl HSub.n))) (CSub.c 1 rfl rfl (CSub.c 1 rfl rfl CSub.n)) (Le.refl _) (yl_fieldAddr (off' := 0) rfl rfl Tryz.underlying88 rfl Tryz.sizeOf47 rfl) ?_
            refine JA.take 4 rfl rfl (by kernel_rfl) (by kernel_rfl) (by kernel_rfl) (fun _ _ _ h => h) rfl rfl rfl (HSub.c 0 rfl (HSub.c 2 rfl (HSub.c 3 rfl HSub.n))) (CSub.c 1 rfl rfl (CSub.c 1 rfl rfl CSub.n)) (Le.refl _) (yl_loadC rfl rfl Tryz.isAgg47 (SC.cell 0 rfl)) ?_
            refine JA.take 5 rfl rfl (by kernel_rfl) (by kernel_rfl) (by kernel_rfl) (fun _ _ _ h => h) rfl rfl rfl (HSub.c 0 rfl (HSub.c 2 rfl (HSub.c 3 rfl HSub.n))) (CSub.c 1 rfl rfl (CSub.c 1 rfl rfl CSub.n)) (Le.refl _) (yl_move rfl rfl) ?_
            refine JA.take 6 rfl rfl (by kernel_rfl) (by kernel_rfl) (by kernel_rfl) (fun _ _ _ h => h) rfl rfl rfl (HSub.c 0 rfl (HSub.c 2 rfl (HSub.c 3 rfl HSub.n))) (CSub.c 1 rfl rfl (CSub.c 1 rfl rfl CSub.n)) (Le.refl _) (yl_nilCheck rfl rfl) ?_
            refine JA.take 7 rfl rfl (by kernel_rfl) (by kernel_rfl) (by kernel_rfl) (fun _ _ _ h => h) rfl rfl rfl (HSub.c 0 rfl (HSub.c 2 rfl (HSub.c 3 rfl HSub.n))) (CSub.c 1 rfl rfl (CSub.c 1 rfl rfl CSub.n)) (Le.refl _) (yl_fieldAddr (off' := 1) rfl rfl Tryz.underlying88 rfl Tryz.sizeOf3 rfl) ?_
            refine JA.take 8 rfl rfl (by kernel_rfl) (by kernel_rfl) (by kernel_rfl) (fun _ _ _ h => h) rfl rfl rfl (HSub.c 0 rfl (HSub.c 2 rfl (HSub.c 3 rfl HSub.n))) (CSub.c 1 rfl rfl (CSub.c 1 rfl rfl CSub.n)) (Le.refl _) (yl_loadC rfl rfl Tryz.isAgg3 (SC.cell 1 rfl)) ?_
            refine JA.take 9 rfl rfl (by kernel_rfl) (by kernel_rfl) (by kernel_rfl) (fun _ _ _ h => h) rfl rfl rfl (HSub.c 0 rfl (HSub.c 2 rfl (HSub.c 3 rfl HSub.n))) (CSub.c 1 rfl rfl (CSub.c 1 rfl rfl CSub.n)) (Le.refl _) (yl_indexAddr (off' := k2 * 3) rfl rfl rfl Tryz.underlying47 Tryz.sizeOf50 (by omega) (by omega) (by simp)) ?_
            refine JA.take 10 rfl rfl (by kernel_rfl) (by kernel_rfl) (by kernel_rfl) (fun _ _ _ h => h) rfl rfl rfl (HSub.c 0 rfl (HSub.c 2 rfl (HSub.c 3 rfl HSub.n))) (CSub.c 1 rfl rfl (CSub.c 1 rfl rfl CSub.n)) (Le.refl _) (yl_loadAgg rfl rfl Tryz.isAgg50 Tryz.sizeOf50 (Blk.immC hbt_12) (tok_at hdr) rfl) ?_
            refine JA.pull (Pull.s Pull.z) ?_
            refine JA.step 11 (by kernel_rfl) rfl rfl (op_call (H1 := [_]) rfl rfl rfl rfl rfl (rfail_ok _ _ _ _ _ _ _ _) ?_ (fun _ _ _ _ h => by cases h.1) (fun _ _ h => by cases h.1))
            intro v20 I21 H22 hle23 hp24
            have hbt := hle23 _ _ hbt
            have hpre := hpre.mono hle23
            have hps := hps.mono hle23
            obtain ⟨hv20, rfl⟩ := hp24; cases hv20
            refine ⟨⟨(Le.trans (Le.refl _) hle23), (HSub.c 1 rfl (HSub.c 2 rfl (HSub.c 3 rfl HSub.n))), (CSub.c 0 rfl rfl (CSub.c 0 rfl rfl CSub.n))⟩, ?_⟩
            refine JA.done (by kernel_rfl) ?_
            refine Ej.seq ?_
            refine Cj.seq ?_
            refine Cj.region ?_
            refine J.y (yl_buildS (pl := #[(0, 1), (1, 1), (2, 1), (3, 1), (4, 1)]) rfl rfl Tryz.zeroValue28 rfl Tryz.underlying28 (fun w => by simp [Tryz.sizeOf26, Tryz.sizeOf3, Tryz.sizeOf9]) LBld.none) rfl rfl rfl ?_
            refine J.op rfl (op_store 3 rfl rfl rfl rfl rfl rfl Tryz.sizeOf28 rfl rfl (LSpl.c (LSpl.c (LSpl.c (LSpl.c (LSpl.c LSpl.z))))) (LSet.s (LSet.s (LSet.s LSet.z))) ?_)
            refine J.nil ?_
            refine Ej.seq ?_
            refine Cj.ret ?_
            refine Ej.seqRet ?_
            refine Ej.seqRet ?_
            refine Ej.retCellK (Keeps.k (Keeps.d (Keeps.d (Keeps.d Keeps.n)))) rfl rfl rfl (Blk.at 3 rfl) Tryz.isAgg28 Tryz.sizeOf28 rfl ?_
            show ROut pb bt ct all deep (Cq.clause (f + 1) deep (t :: r)) _ _ _
            have hev : Cq.clause (f + 1) deep (t :: r) = .err t2.pos 40 := by simp only [Cq.clause, hlp, if_true, hq, hrp]; rw [if_neg (by omega)]; rfl
            rw [hev]
            exact ⟨Cq.zero, none, 0, _, _, rfl, rfl, by decide⟩
          ·
            have hk21 : t2.kind = 1 := by have := bne_f hg18; omega
            refine JA.takeG 13 12 70 false _ rfl rfl (by kernel_rfl) (by kernel_rfl) (by kernel_rfl) (fun _ _ _ h => h) rfl rfl rfl hg18 rfl rfl (HSub.c 0 rfl (HSub.c 1 rfl (HSub.c 2 rfl (HSub.c 3 rfl HSub.n)))) CSub.n (Le.refl _) (yl_move rfl rfl) ?_
            refine JA.takeG 14 12 70 false _ rfl rfl (by kernel_rfl) (by kernel_rfl) (by kernel_rfl) (fun _ _ _ h => h) rfl rfl rfl hg18 rfl rfl (HSub.c 0 rfl (HSub.c 1 rfl (HSub.c 2 rfl (HSub.c 3 rfl HSub.n)))) CSub.n (Le.refl _) (yl_nilCheck rfl rfl) ?_
            refine JA.takeG 15 12 70 false _ rfl rfl (by kernel_rfl) (by kernel_rfl) (by kernel_rfl) (fun _ _ _ h => h) rfl rfl rfl hg18 rfl rfl (HSub.c 0 rfl (HSub.c 1 rfl (HSub.c 2 rfl (HSub.c 3 rfl HSub.n)))) CSub.n (Le.refl _) (yl_fieldAddr (off' := 0) rfl rfl Tryz.underlying88 rfl Tryz.sizeOf47 rfl) ?_
            refine JA.takeG 16 12 70 false _ rfl rfl (by kernel_rfl) (by kernel_rfl) (by kernel_rfl) (fun _ _ _ h => h) rfl rfl rfl hg18 rfl rfl (HSub.c 0 rfl (HSub.c 1 rfl (HSub.c 2 rfl (HSub.c 3 rfl HSub.n)))) CSub.n (Le.refl _) (yl_load rfl rfl Tryz.isAgg47 (Blk.atC 1 rfl) rfl) ?_
            refine JA.takeG 17 12 70 false _ rfl rfl (by kernel_rfl) (by kernel_rfl) (by kernel_rfl) (fun _ _ _ h => h) rfl rfl rfl hg18 rfl rfl (HSub.c 0 rfl (HSub.c 1 rfl (HSub.c 2 rfl (HSub.c 3 rfl HSub.n)))) CSub.n (Le.refl _) (yl_move rfl rfl) ?_
            refine JA.takeG 18 12 70 false _ rfl rfl (by kernel_rfl) (by kernel_rfl) (by kernel_rfl) (fun _ _ _ h => h) rfl rfl rfl hg18 rfl rfl (HSub.c 0 rfl (HSub.c 1 rfl (HSub.c 2 rfl (HSub.c 3 rfl HSub.n)))) CSub.n (Le.refl _) (yl_nilCheck rfl rfl) ?_
            refine JA.takeG 19 12 70 false _ rfl rfl (by kernel_rfl) (by kernel_rfl) (by kernel_rfl) (fun _ _ _ h => h) rfl rfl rfl hg18 rfl rfl (HSub.c 0 rfl (HSub.c 1 rfl (HSub.c 2 rfl (HSub.c 3 rfl HSub.n)))) CSub.n (Le.refl _) (yl_fieldAddr (off' := 1) rfl rfl Tryz.underlying88 rfl Tryz.sizeOf3 rfl) ?_
            refine JA.takeG 20 12 70 false _ rfl rfl (by kernel_rfl) (by kernel_rfl) (by kernel_rfl) (fun _ _ _ h => h) rfl rfl rfl hg18 rfl rfl (HSub.c 0 rfl (HSub.c 1 rfl (HSub.c 2 rfl (HSub.c 3 rfl HSub.n)))) CSub.n (Le.refl _) (yl_load rfl rfl Tryz.isAgg3 (Blk.atC 1 rfl) rfl) ?_
            refine JA.takeG 21 12 70 false _ rfl rfl (by kernel_rfl) (by kernel_rfl) (by kernel_rfl) (fun _ _ _ h => h) rfl rfl rfl hg18 rfl rfl (HSub.c 0 rfl (HSub.c 1 rfl (HSub.c 2 rfl (HSub.c 3 rfl HSub.n)))) CSub.n (Le.refl _) (yl_indexAddr (off' := k2 * 3) rfl rfl rfl Tryz.underlying47 Tryz.sizeOf50 (by omega) (by omega) (by simp)) ?_
            refine JA.takeG 22 12 70 false _ rfl rfl (by kernel_rfl) (by kernel_rfl) (by kernel_rfl) (fun _ _ _ h => h) rfl rfl rfl hg18 rfl rfl (HSub.c 0 rfl (HSub.c 1 rfl (HSub.c 2 rfl (HSub.c 3 rfl HSub.n)))) CSub.n (Le.refl _) (yl_fieldAddr rfl rfl Tryz.underlying50 rfl Tryz.sizeOf9 rfl) ?_
            refine JA.takeG 23 12 70 false _ rfl rfl (by kernel_rfl) (by kernel_rfl) (by kernel_rfl) (fun _ _ _ h => h) rfl rfl rfl hg18 rfl rfl (HSub.c 0 rfl (HSub.c 1 rfl (HSub.c 2 rfl (HSub.c 3 rfl HSub.n)))) CSub.n (Le.refl _) (yl_load rfl rfl Tryz.isAgg9 (Blk.immC hbt) (by simpa [Cq.tokC] using tok_cell hdr 1 (by omega))) ?_
            refine JA.takeG 24 12 70 false _ rfl rfl (by kernel_rfl) (by kernel_rfl) (by kernel_rfl) (fun _ _ _ h => h) rfl rfl rfl hg18 rfl rfl (HSub.c 0 rfl (HSub.c 1 rfl (HSub.c 2 rfl (HSub.c 3 rfl HSub.n)))) CSub.n (Le.refl _) (yl_neqStr rfl rfl rfl) ?_
            refine JA.take 25 rfl rfl (by kernel_rfl) (by kernel_rfl) (by kernel_rfl) (fun _ _ _ h => h) rfl rfl rfl (HSub.c 0 rfl (HSub.c 1 rfl (HSub.c 2 rfl (HSub.c 3 rfl HSub.n)))) CSub.n (Le.refl _) (yl_pick0 rfl rfl hg18 rfl) ?_
            refine JA.done (by kernel_rfl) ?_
            refine Ej.seq ?_
            refine Cj.cond rfl (fun hc25 => ?_) (fun hc25 => ?_)
            ·
              have hc25p := bne_iff_ne.1 hc25
              have hrp : Cq.rp t2 = false := by have := bne_iff_ne.1 hc25; simp [Cq.rp, this]
              refine Cj.seq ?_
              refine Cj.drawSel [0, 2, 3] [(pb, 0, .slice (some ⟨bt, 0, none⟩) all.length ct), (pb, 1, i64 k2)] 12 (by kernel_rfl) ?_
              have hbt_12 := hbt
              refine JA.take 0 rfl rfl (by kernel_rfl) (by kernel_rfl) (by kernel_rfl) (fun _ _ _ h => h) rfl rfl rfl (HSub.c 0 rfl (HSub.c 2 rfl (HSub.c 3 rfl HSub.n))) (CSub.c 1 rfl rfl (CSub.c 1 rfl rfl CSub.n)) (Le.refl _) (yl_move rfl rfl) ?_
              refine JA.take 1 rfl rfl (by kernel_rfl) (by kernel_rfl) (by kernel_rfl) (fun _ _ _ h => h) rfl rfl rfl (HSub.c 0 rfl (HSub.c 2 rfl (HSub.c 3 rfl HSub.n))) (CSub.c 1 rfl rfl (CSub.c 1 rfl rfl CSub.n)) (Le.refl _) (yl_move rfl rfl) ?_
              refine JA.take 2 rfl rfl (by kernel_rfl) (by kernel_rfl) (by kernel_rfl) (fun _ _ _ h => h) rfl rfl rfl (HSub.c 0 rfl (HSub.c 2 rfl (HSub.c 3 rfl HSub.n))) (CSub.c 1 rfl rfl (CSub.c 1 rfl rfl CSub.n)) (Le.refl _) (yl_nilCheck rfl rfl) ?_
              refine JA.take 3 rfl rfl (by kernel_rfl) (by kernel_rfl) (by kernel_rfl) (fun _ _ _ h => h) rfl rfl rfl (HSub.c 0 rfl (HSub.c 2 rfl (HSub.c 3 rfl HSub.n))) (CSub.c 1 rfl rfl (CSub.c 1 rfl rfl CSub.n)) (Le.refl _) (yl_fieldAddr (off' := 0) rfl rfl Tryz.underlying88 rfl Tryz.sizeOf47 rfl) ?_
              refine JA.take 4 rfl rfl (by kernel_rfl) (by kernel_rfl) (by kernel_rfl) (fun _ _ _ h => h) rfl rfl rfl (HSub.c 0 rfl (HSub.c 2 rfl (HSub.c 3 rfl HSub.n))) (CSub.c 1 rfl rfl (CSub.c 1 rfl rfl CSub.n)) (Le.refl _) (yl_loadC rfl rfl Tryz.isAgg47 (SC.cell 0 rfl)) ?_
              refine JA.take 5 rfl rfl (by kernel_rfl) (by kernel_rfl) (by kernel_rfl) (fun _ _ _ h => h) rfl rfl rfl (HSub.c 0 rfl (HSub.c 2 rfl (HSub.c 3 rfl HSub.n))) (CSub.c 1 rfl rfl (CSub.c 1 rfl rfl CSub.n)) (Le.refl _) (yl_move rfl rfl) ?_
              refine JA.take 6 rfl rfl (by kernel_rfl) (by kernel_rfl) (by kernel_rfl) (fun _ _ _ h => h) rfl rfl rfl (HSub.c 0 rfl (HSub.c 2 rfl (HSub.c 3 rfl HSub.n))) (CSub.c 1 rfl rfl (CSub.c 1 rfl rfl CSub.n)) (Le.refl _) (yl_nilCheck rfl rfl) ?_
              refine JA.take 7 rfl rfl (by kernel_rfl) (by kernel_rfl) (by kernel_rfl) (fun _ _ _ h => h) rfl rfl rfl (HSub.c 0 rfl (HSub.c 2 rfl (HSub.c 3 rfl HSub.n))) (CSub.c 1 rfl rfl (CSub.c 1 rfl rfl CSub.n)) (Le.refl _) (yl_fieldAddr (off' := 1) rfl rfl Tryz.underlying88 rfl Tryz.sizeOf3 rfl) ?_
              refine JA.take 8 rfl rfl (by kernel_rfl) (by kernel_rfl) (by kernel_rfl) (fun _ _ _ h => h) rfl rfl rfl (HSub.c 0 rfl (HSub.c 2 rfl (HSub.c 3 rfl HSub.n))) (CSub.c 1 rfl rfl (CSub.c 1 rfl rfl CSub.n)) (Le.refl _) (yl_loadC rfl rfl Tryz.isAgg3 (SC.cell 1 rfl)) ?_
              refine JA.take 9 rfl rfl (by kernel_rfl) (by kernel_rfl) (by kernel_rfl) (fun _ _ _ h => h) rfl rfl rfl (HSub.c 0 rfl (HSub.c 2 rfl (HSub.c 3 rfl HSub.n))) (CSub.c 1 rfl rfl (CSub.c 1 rfl rfl CSub.n)) (Le.refl _) (yl_indexAddr (off' := k2 * 3) rfl rfl rfl Tryz.underlying47 Tryz.sizeOf50 (by omega) (by omega) (by simp)) ?_
              refine JA.take 10 rfl rfl (by kernel_rfl) (by kernel_rfl) (by kernel_rfl) (fun _ _ _ h => h) rfl rfl rfl (HSub.c 0 rfl (HSub.c 2 rfl (HSub.c 3 rfl HSub.n))) (CSub.c 1 rfl rfl (CSub.c 1 rfl rfl CSub.n)) (Le.refl _) (yl_loadAgg rfl rfl Tryz.isAgg50 Tryz.sizeOf50 (Blk.immC hbt_12) (tok_at hdr) rfl) ?_
              refine JA.pull (Pull.s Pull.z) ?_
              refine JA.step 11 (by kernel_rfl) rfl rfl (op_call (H1 := [_]) rfl rfl rfl rfl rfl (rfail_ok _ _ _ _ _ _ _ _) ?_ (fun _ _ _ _ h => by cases h.1) (fun _ _ h => by cases h.1))
              intro v26 I27 H28 hle29 hp30
              have hbt := hle29 _ _ hbt
              have hpre := hpre.mono hle29
              have hps := hps.mono hle29
              obtain ⟨hv26, rfl⟩ := hp30; cases hv26
              refine ⟨⟨(Le.trans (Le.refl _) hle29), (HSub.c 1 rfl (HSub.c 2 rfl (HSub.c 3 rfl HSub.n))), (CSub.c 0 rfl rfl (CSub.c 0 rfl rfl CSub.n))⟩, ?_⟩
              refine JA.done (by kernel_rfl) ?_
              refine Ej.seq ?_
              refine Cj.seq ?_
              refine Cj.region ?_
              refine J.y (yl_buildS (pl := #[(0, 1), (1, 1), (2, 1), (3, 1), (4, 1)]) rfl rfl Tryz.zeroValue28 rfl Tryz.underlying28 (fun w => by simp [Tryz.sizeOf26, Tryz.sizeOf3, Tryz.sizeOf9]) LBld.none) rfl rfl rfl ?_
              refine J.op rfl (op_store 3 rfl rfl rfl rfl rfl rfl Tryz.sizeOf28 rfl rfl (LSpl.c (LSpl.c (LSpl.c (LSpl.c (LSpl.c LSpl.z))))) (LSet.s (LSet.s (LSet.s LSet.z))) ?_)
              refine J.nil ?_
              refine Ej.seq ?_
              refine Cj.ret ?_
              refine Ej.seqRet ?_
              refine Ej.seqRet ?_
              refine Ej.retCellK (Keeps.k (Keeps.d (Keeps.d (Keeps.d Keeps.n)))) rfl rfl rfl (Blk.at 3 rfl) Tryz.isAgg28 Tryz.sizeOf28 rfl ?_
              show ROut pb bt ct all deep (Cq.clause (f + 1) deep (t :: r)) _ _ _
              have hev : Cq.clause (f + 1) deep (t :: r) = .err t2.pos 40 := by simp only [Cq.clause, hlp, if_true, hq, hrp]; rw [if_neg (by omega)]; rfl
              rw [hev]
              exact ⟨Cq.zero, none, 0, _, _, rfl, rfl, by decide⟩
            ·
              have hc25p := bne_f hc25
              have hrp : Cq.rp t2 = true := by have := bne_f hc25; simp [Cq.rp, hk21, this]
              refine Cj.skip ?_
              refine Ej.seq ?_
              refine Cj.seq ?_
              refine Cj.region ?_
              refine J.y (yl_move rfl rfl) rfl rfl rfl ?_
              refine J.y (yl_nilCheck rfl rfl) rfl rfl rfl ?_
              refine J.y (yl_fieldAddr (off' := 2) rfl rfl Tryz.underlying88 rfl Tryz.sizeOf3 rfl) rfl rfl rfl ?_
              refine J.y (yl_load rfl rfl Tryz.isAgg3 (Blk.at 1 rfl) rfl) rfl rfl rfl ?_
              refine J.y (yl_sub rfl rfl rfl (w64 (by omega))) rfl rfl rfl ?_
              refine J.y (yl_nilCheck rfl rfl) rfl rfl rfl ?_
              refine J.y (yl_fieldAddr (off' := 2) rfl rfl Tryz.underlying88 rfl Tryz.sizeOf3 rfl) rfl rfl rfl ?_
              refine J.op rfl (op_store 1 rfl rfl rfl rfl rfl rfl Tryz.sizeOf3 rfl rfl (LSpl.s (LSpl.s (LSpl.c LSpl.z))) (LSet.s LSet.z) ?_)
              refine J.nil ?_
              refine Ej.seq ?_
              refine Cj.seq ?_
              refine Cj.region ?_
              refine J.y (yl_move rfl rfl) rfl rfl rfl ?_
              refine J.y (yl_nilCheck rfl rfl) rfl rfl rfl ?_
              refine J.y (yl_fieldAddr (off' := 1) rfl rfl Tryz.underlying88 rfl Tryz.sizeOf3 rfl) rfl rfl rfl ?_
              refine J.y (yl_load rfl rfl Tryz.isAgg3 (Blk.at 1 rfl) rfl) rfl rfl rfl ?_
              refine J.y (yl_add rfl rfl rfl (w64 (by omega))) rfl rfl rfl ?_
              refine J.y (yl_nilCheck rfl rfl) rfl rfl rfl ?_
              refine J.y (yl_fieldAddr (off' := 1) rfl rfl Tryz.underlying88 rfl Tryz.sizeOf3 rfl) rfl rfl rfl ?_
              refine J.op rfl (op_store 1 rfl rfl rfl rfl rfl rfl Tryz.sizeOf3 rfl rfl (LSpl.s (LSpl.c LSpl.z)) (LSet.s LSet.z) ?_)
              refine J.nil ?_
              refine Ej.seq ?_
              refine Cj.seq ?_
              refine Cj.region ?_
              refine J.y (yl_loadAgg rfl rfl Tryz.isAgg28 Tryz.sizeOf28 (Blk.at 0 rfl) rfl rfl) rfl rfl rfl ?_
              refine J.op rfl (op_store 3 rfl rfl rfl rfl rfl rfl Tryz.sizeOf28 rfl rfl (LSpl.c (LSpl.c (LSpl.c (LSpl.c (LSpl.c LSpl.z))))) (LSet.s (LSet.s (LSet.s LSet.z))) ?_)
              refine J.nil ?_
              refine Ej.seq ?_
              refine Cj.ret ?_
              refine Ej.seqRet ?_
              refine Ej.retCellK (Keeps.d (Keeps.k (Keeps.d (Keeps.d Keeps.n)))) rfl rfl rfl (Blk.at 3 rfl) Tryz.isAgg28 Tryz.sizeOf28 rfl ?_
              show ROut pb bt ct all deep (Cq.clause (f + 1) deep (t :: r)) _ _ _
              have hev : Cq.clause (f + 1) deep (t :: r) = .ok q r2 := by simp only [Cq.clause, hlp, if_true, hq, hrp]; rw [if_neg (by omega)]
              rw [hev]
              exact ⟨_, k2 + 1, rfl, ⟨pq, cq, rfl, hps⟩, by simp [RP], drop_next hdr⟩
        ·
          rw [hq] at hp15
          obtain ⟨qe, pq, cq, k2, deep2, h1, rfl, hne⟩ := hp15
          cases h1
          refine J.op rfl (op_alloc rfl rfl rfl Tryz.zeroValue28 rfl ?_)
          intro b31 hb31
          refine J.op rfl (op_store 0 rfl rfl rfl rfl rfl rfl Tryz.sizeOf28 rfl rfl (LSpl.c (LSpl.c (LSpl.c (LSpl.c (LSpl.c LSpl.z))))) LSet.z ?_)
          refine J.nil ?_
          refine Ej.seq ?_
          refine Cj.seq ?_
          refine Cj.seq ?_
          refine Cj.region ?_
          refine J.y (yl_move rfl rfl) rfl rfl rfl ?_
          refine J.y (yl_nilCheck rfl rfl) rfl rfl rfl ?_
          refine J.y (yl_fieldAddr (off' := 4) rfl rfl Tryz.underlying88 rfl Tryz.sizeOf32 rfl) rfl rfl rfl ?_
          refine J.y (yl_load rfl rfl Tryz.isAgg32 (Blk.at 1 rfl) rfl) rfl rfl rfl ?_
          refine J.y (yl_neq rfl rfl rfl) rfl rfl rfl ?_
          refine J.nil ?_
          refine Ej.seq ?_
          refine Cj.cond rfl (fun hc32 => ?_) (fun hc32 => Bool.noConfusion (Eq.trans (Eq.symm (show ((ee : Int) != 0) = true by simpa using hne)) hc32))
          refine Cj.seq ?_
          refine Cj.region ?_
          refine J.y (yl_buildS (pl := #[(0, 1), (1, 1), (2, 1), (3, 1), (4, 1)]) rfl rfl Tryz.zeroValue28 rfl Tryz.underlying28 (fun w => by simp [Tryz.sizeOf26, Tryz.sizeOf3, Tryz.sizeOf9]) LBld.none) rfl rfl rfl ?_
          refine J.op rfl (op_store 3 rfl rfl rfl rfl rfl rfl Tryz.sizeOf28 rfl rfl (LSpl.c (LSpl.c (LSpl.c (LSpl.c (LSpl.c LSpl.z))))) (LSet.s (LSet.s (LSet.s LSet.z))) ?_)
          refine J.nil ?_
          refine Ej.seq ?_
          refine Cj.ret ?_
          refine Ej.seqRet ?_
          refine Ej.seqRet ?_
          refine Ej.retCellK (Keeps.d (Keeps.k (Keeps.d (Keeps.d Keeps.n)))) rfl rfl rfl (Blk.at 3 rfl) Tryz.isAgg28 Tryz.sizeOf28 rfl ?_
          show ROut pb bt ct all deep (Cq.clause (f + 1) deep (t :: r)) _ _ _
          have hev : Cq.clause (f + 1) deep (t :: r) = .err pe ee := by simp only [Cq.clause, hlp, if_true, hq]; rw [if_neg (by omega)]
          rw [hev]
          exact ⟨Cq.zero, none, 0, _, _, rfl, rfl, hne⟩
    ·
      have hc4p := ne_of_beq_false hc4
      have hlp : Cq.lp t = false := by have := ne_of_beq_false hc4; simp [Cq.lp, this]
      refine Cj.skip ?_
      refine Ej.seq ?_
      refine Cj.seq ?_
      refine Cj.region ?_
      refine J.y (yl_buildS (pl := #[(0, 1), (1, 1), (2, 1), (3, 1), (4, 1)]) rfl rfl Tryz.zeroValue28 rfl Tryz.underlying28 (fun w => by simp [Tryz.sizeOf26, Tryz.sizeOf3, Tryz.sizeOf9]) (LBld.part rfl rfl rfl (LSpl.c LSpl.z) (LBld.part rfl rfl rfl (LSpl.s (LSpl.c LSpl.z)) (LBld.part rfl rfl rfl (LSpl.s (LSpl.s (LSpl.c LSpl.z))) LBld.none)))) rfl rfl rfl ?_
      refine J.op rfl (op_alloc rfl rfl rfl Tryz.zeroValue28 rfl ?_)
      intro b33 hb33
      refine J.op rfl (op_store 0 rfl rfl rfl rfl rfl rfl Tryz.sizeOf28 rfl rfl (LSpl.c (LSpl.c (LSpl.c (LSpl.c (LSpl.c LSpl.z))))) LSet.z ?_)
      refine J.nil ?_
      refine Ej.seq ?_
      refine Cj.seq ?_
      refine Cj.seq ?_
      refine Cj.region ?_
      refine J.y (yl_fieldAddr (off' := 0) rfl rfl Tryz.underlying50 rfl Tryz.sizeOf3 rfl) rfl rfl rfl ?_
      refine J.y (yl_load rfl rfl Tryz.isAgg3 (Blk.at 1 rfl) rfl) rfl rfl rfl ?_
      refine J.y (yl_eql rfl rfl rfl) rfl rfl rfl ?_
      refine J.y (yl_move rfl rfl) rfl rfl rfl ?_
      refine J.split 116 rfl (fun hg34 => ?_) (fun hg34 => ?_)
      ·
        have hk3 : t.kind = 3 := by have := eq_of_beq hg34; omega
        refine J.opG 3 116 true _ rfl rfl rfl hg34 (op_yld (yl_loadAgg rfl rfl Tryz.isAgg50 Tryz.sizeOf50 (Blk.at 1 rfl) rfl rfl) rfl rfl ?_)
        refine J.opG 3 116 true _ rfl rfl rfl hg34 (op_pure rfl rfl rfl rfl rfl (operator_ok _ (by omega) _) ?_)
        refine J.opG 3 116 true _ rfl rfl rfl hg34 (op_yld (yl_eql rfl rfl rfl) rfl rfl ?_)
        refine J.y (yl_pick1 rfl rfl hg34 rfl) rfl rfl rfl ?_
        refine J.nil ?_
        refine Ej.seq ?_
        refine Cj.cond rfl (fun hc35 => ?_) (fun hc35 => ?_)
        ·
          have hc35p := eq_of_beq hc35
          have hT0 : Cq.isTerm t = true := by have := eq_of_beq hc35; simp [Cq.isTerm, hk3]; omega
          obtain ⟨t2, r2, hr2⟩ := (hpre.good.cons (Cq.over_term hT0)).ne
          subst hr2
          have hr2 : t2 :: r2 = t2 :: r2 := rfl
          have hdr2 := drop_next hpre.drop
          have hlt2 := drop_lt hdr2
          have hpre2 := hpre.to hdr2 (hpre.good.cons (Cq.over_term hT0))
          have htx2 := hpre2.tx
          refine Cj.seq ?_
          refine Cj.drawSel [0, 1, 2, 3] [] 13 (by kernel_rfl) ?_
          refine JA.take 0 rfl rfl (by kernel_rfl) (by kernel_rfl) (by kernel_rfl) (fun _ _ _ h => h) rfl rfl rfl (HSub.c 0 rfl (HSub.c 1 rfl (HSub.c 2 rfl (HSub.c 3 rfl HSub.n)))) CSub.n (Le.refl _) (yl_move rfl rfl) ?_
          refine JA.take 1 rfl rfl (by kernel_rfl) (by kernel_rfl) (by kernel_rfl) (fun _ _ _ h => h) rfl rfl rfl (HSub.c 0 rfl (HSub.c 1 rfl (HSub.c 2 rfl (HSub.c 3 rfl HSub.n)))) CSub.n (Le.refl _) (yl_nilCheck rfl rfl) ?_
          refine JA.take 2 rfl rfl (by kernel_rfl) (by kernel_rfl) (by kernel_rfl) (fun _ _ _ h => h) rfl rfl rfl (HSub.c 0 rfl (HSub.c 1 rfl (HSub.c 2 rfl (HSub.c 3 rfl HSub.n)))) CSub.n (Le.refl _) (yl_fieldAddr (off' := 0) rfl rfl Tryz.underlying88 rfl Tryz.sizeOf47 rfl) ?_
          refine JA.take 3 rfl rfl (by kernel_rfl) (by kernel_rfl) (by kernel_rfl) (fun _ _ _ h => h) rfl rfl rfl (HSub.c 0 rfl (HSub.c 1 rfl (HSub.c 2 rfl (HSub.c 3 rfl HSub.n)))) CSub.n (Le.refl _) (yl_load rfl rfl Tryz.isAgg47 (Blk.atC 3 rfl) rfl) ?_
          refine JA.take 4 rfl rfl (by kernel_rfl) (by kernel_rfl) (by kernel_rfl) (fun _ _ _ h => h) rfl rfl rfl (HSub.c 0 rfl (HSub.c 1 rfl (HSub.c 2 rfl (HSub.c 3 rfl HSub.n)))) CSub.n (Le.refl _) (yl_move rfl rfl) ?_
          refine JA.take 5 rfl rfl (by kernel_rfl) (by kernel_rfl) (by kernel_rfl) (fun _ _ _ h => h) rfl rfl rfl (HSub.c 0 rfl (HSub.c 1 rfl (HSub.c 2 rfl (HSub.c 3 rfl HSub.n)))) CSub.n (Le.refl _) (yl_nilCheck rfl rfl) ?_
          refine JA.take 6 rfl rfl (by kernel_rfl) (by kernel_rfl) (by kernel_rfl) (fun _ _ _ h => h) rfl rfl rfl (HSub.c 0 rfl (HSub.c 1 rfl (HSub.c 2 rfl (HSub.c 3 rfl HSub.n)))) CSub.n (Le.refl _) (yl_fieldAddr (off' := 1) rfl rfl Tryz.underlying88 rfl Tryz.sizeOf3 rfl) ?_
          refine JA.take 7 rfl rfl (by kernel_rfl) (by kernel_rfl) (by kernel_rfl) (fun _ _ _ h => h) rfl rfl rfl (HSub.c 0 rfl (HSub.c 1 rfl (HSub.c 2 rfl (HSub.c 3 rfl HSub.n)))) CSub.n (Le.refl _) (yl_load rfl rfl Tryz.isAgg3 (Blk.atC 3 rfl) rfl) ?_
          refine JA.take 8 rfl rfl (by kernel_rfl) (by kernel_rfl) (by kernel_rfl) (fun _ _ _ h => h) rfl rfl rfl (HSub.c 0 rfl (HSub.c 1 rfl (HSub.c 2 rfl (HSub.c 3 rfl HSub.n)))) CSub.n (Le.refl _) (yl_add rfl rfl rfl (w64 (by omega))) ?_
          refine JA.take 9 rfl rfl (by kernel_rfl) (by kernel_rfl) (by kernel_rfl) (fun _ _ _ h => h) rfl rfl rfl (HSub.c 0 rfl (HSub.c 1 rfl (HSub.c 2 rfl (HSub.c 3 rfl HSub.n)))) CSub.n (Le.refl _) (yl_indexAddr (off' := (k + 1) * 3) rfl rfl rfl Tryz.underlying47 Tryz.sizeOf50 (by omega) (by omega) (by omega)) ?_
          refine JA.take 10 rfl rfl (by kernel_rfl) (by kernel_rfl) (by kernel_rfl) (fun _ _ _ h => h) rfl rfl rfl (HSub.c 0 rfl (HSub.c 1 rfl (HSub.c 2 rfl (HSub.c 3 rfl HSub.n)))) CSub.n (Le.refl _) (yl_loadAgg rfl rfl Tryz.isAgg50 Tryz.sizeOf50 (Blk.immC hbt) (tok_at hdr2) rfl) ?_
          refine JA.step 11 (by kernel_rfl) rfl rfl (op_alloc rfl rfl rfl Tryz.zeroValue50 rfl ?_)
          intro b36 hb36
          refine ⟨⟨(Le.refl _), (HSub.c 1 rfl (HSub.c 2 rfl (HSub.c 3 rfl (HSub.c 4 rfl HSub.n)))), CSub.n⟩, ?_⟩
          refine JA.step 12 (by kernel_rfl) rfl rfl (op_store 0 rfl rfl rfl rfl rfl rfl Tryz.sizeOf50 rfl rfl (LSpl.c (LSpl.c (LSpl.c LSpl.z))) LSet.z ?_)
          refine ⟨⟨(Le.refl _), (HSub.c 1 rfl (HSub.c 2 rfl (HSub.c 3 rfl (HSub.c 4 rfl HSub.n)))), CSub.n⟩, ?_⟩
          refine JA.done (by kernel_rfl) ?_
          refine Ej.seq ?_
          refine Cj.seq ?_
          refine Cj.region ?_
          refine J.y (yl_loadAgg rfl rfl Tryz.isAgg50 Tryz.sizeOf50 (Blk.at 0 rfl) rfl rfl) rfl rfl rfl ?_
          refine J.op rfl (op_call (H1 := []) rfl rfl rfl rfl rfl (relation_ok _ (by omega) _) ?_ (fun _ _ _ _ h => by cases h.1) (fun _ _ h => by cases h.1))
          intro v37 I38 H39 hle40 hp41
          have hbt := hle40 _ _ hbt
          have hpre := hpre.mono hle40
          have hpre2 := hpre2.mono hle40
          obtain ⟨hv37, rfl⟩ := hp41; cases hv37
          refine J.y (yl_assign rfl rfl) rfl rfl rfl ?_
          refine J.nil ?_
          refine Ej.seq ?_
          refine Cj.seq ?_
          refine Cj.region ?_
          refine J.y (yl_move rfl rfl) rfl rfl rfl ?_
          refine J.nil ?_
          refine Ej.seq ?_
          refine Cj.cond rfl (fun hc42 => ?_) (fun hc42 => ?_)
          ·
            have hrel : Cq.relation t2 = true := hc42
            obtain ⟨t3, r3, rfl⟩ := (hpre2.good.cons (Cq.over_rel hrel)).ne
            have hpre3 := hpre2.to (drop_next hdr2) (hpre2.good.cons (Cq.over_rel hrel))
            have htx3 := hpre3.tx
            refine Cj.seq ?_
            refine Cj.region ?_
            refine J.y (yl_fieldAddr (off' := 1) rfl rfl Tryz.underlying50 rfl Tryz.sizeOf9 rfl) rfl rfl rfl ?_
            refine J.y (yl_load rfl rfl Tryz.isAgg9 (Blk.at 2 rfl) rfl) rfl rfl rfl ?_
            refine J.op rfl (op_pure rfl rfl rfl rfl rfl (Small_ok _ (by omega) _) ?_)
            refine J.y (yl_fieldAddr (off' := 1) rfl rfl Tryz.underlying28 rfl Tryz.sizeOf9 rfl) rfl rfl rfl ?_
            refine J.op rfl (op_store 1 rfl rfl rfl rfl rfl rfl Tryz.sizeOf9 rfl rfl (LSpl.s (LSpl.c LSpl.z)) (LSet.s LSet.z) ?_)
            refine J.nil ?_
            refine Ej.seq ?_
            refine Cj.seq ?_
            refine Cj.region ?_
            refine J.y (yl_fieldAddr (off' := 1) rfl rfl Tryz.underlying50 rfl Tryz.sizeOf9 rfl) rfl rfl rfl ?_
            refine J.y (yl_load rfl rfl Tryz.isAgg9 (Blk.at 0 rfl) rfl) rfl rfl rfl ?_
            refine J.op rfl (op_pure rfl rfl rfl rfl rfl (Small_ok _ (by omega) _) ?_)
            refine J.y (yl_fieldAddr (off' := 2) rfl rfl Tryz.underlying28 rfl Tryz.sizeOf9 rfl) rfl rfl rfl ?_
            refine J.op rfl (op_store 1 rfl rfl rfl rfl rfl rfl Tryz.sizeOf9 rfl rfl (LSpl.s (LSpl.s (LSpl.c LSpl.z))) (LSet.s LSet.z) ?_)
            refine J.nil ?_
            refine Ej.seq ?_
            refine Cj.seq ?_
            refine Cj.drawSel [0, 1, 2, 3, 4] [] 5 (by kernel_rfl) ?_
            have hbt_24 := hbt
            refine JA.take 1 rfl rfl (by kernel_rfl) (by kernel_rfl) (by kernel_rfl) (fun _ _ _ h => h) rfl rfl rfl (HSub.c 0 rfl (HSub.c 1 rfl (HSub.c 2 rfl (HSub.c 3 rfl (HSub.c 4 rfl HSub.n))))) CSub.n (Le.refl _) (yl_fieldAddr (off' := 1) rfl rfl Tryz.underlying28 rfl Tryz.sizeOf9 rfl) ?_
            refine JA.take 2 rfl rfl (by kernel_rfl) (by kernel_rfl) (by kernel_rfl) (fun _ _ _ h => h) rfl rfl rfl (HSub.c 0 rfl (HSub.c 1 rfl (HSub.c 2 rfl (HSub.c 3 rfl (HSub.c 4 rfl HSub.n))))) CSub.n (Le.refl _) (yl_load rfl rfl Tryz.isAgg9 (Blk.atC 1 rfl) rfl) ?_
            refine JA.step 0 (by kernel_rfl) rfl rfl (op_call (H1 := []) rfl rfl rfl rfl rfl (Indexes_ok _) ?_ (fun _ _ _ _ h => by obtain ⟨⟨_, h, _⟩, _⟩ := h; cases h) (fun _ _ h => by obtain ⟨⟨_, h, _⟩, _⟩ := h; cases h))
            intro v43 I44 H45 hle46 hp47
            have hbt := hle46 _ _ hbt
            have hpre := hpre.mono hle46
            have hpre2 := hpre2.mono hle46
            have hpre3 := hpre3.mono hle46
            obtain ⟨⟨v43x, hv43, hsv43⟩, rfl⟩ := hp47; cases hv43
            refine ⟨⟨(Le.trans (Le.refl _) hle46), (HSub.c 0 rfl (HSub.c 1 rfl (HSub.c 2 rfl (HSub.c 3 rfl (HSub.c 4 rfl HSub.n))))), CSub.n⟩, ?_⟩
            refine JA.step 3 (by kernel_rfl) rfl rfl (op_pure rfl rfl rfl rfl rfl (among_ok Cq.indexes _ _ (by decide) _ hsv43) ?_)
            refine ⟨⟨(Le.trans (Le.refl _) hle46), (HSub.c 0 rfl (HSub.c 1 rfl (HSub.c 2 rfl (HSub.c 3 rfl (HSub.c 4 rfl HSub.n))))), CSub.n⟩, ?_⟩
            refine JA.take 4 rfl rfl (by kernel_rfl) (by kernel_rfl) (by kernel_rfl) (fun _ _ _ h => h) rfl rfl rfl (HSub.c 0 rfl (HSub.c 1 rfl (HSub.c 2 rfl (HSub.c 3 rfl (HSub.c 4 rfl HSub.n))))) CSub.n (Le.trans (Le.refl _) hle46) (yl_assign rfl rfl) ?_
            refine JA.done (by kernel_rfl) ?_
            refine Ej.seq ?_
            refine Cj.seq ?_
            refine Cj.seq ?_
            refine Cj.region ?_
            refine J.y (yl_move rfl rfl) rfl rfl rfl ?_
            refine J.y (yl_not rfl rfl) rfl rfl rfl ?_
            refine J.nil ?_
            refine Ej.seq ?_
            refine Cj.cond rfl (fun hc48 => ?_) (fun hc48 => ?_)
            ·
              have hix : ¬ Cq.small t.text ∈ Cq.indexes := by simpa using hc48
              refine Cj.seq ?_
              refine Cj.region ?_
              refine J.y (yl_move rfl rfl) rfl rfl rfl ?_
              refine J.y (yl_loadAgg rfl rfl Tryz.isAgg50 Tryz.sizeOf50 (Blk.at 2 rfl) rfl rfl) rfl rfl rfl ?_
              refine J.pull (Pull.s (Pull.s (Pull.s (Pull.s Pull.z)))) ?_
              refine J.op rfl (op_call (H1 := [_]) rfl rfl rfl rfl rfl (rfail_ok _ _ _ _ _ _ _ _) ?_ (fun _ _ _ _ h => by cases h.1) (fun _ _ h => by cases h.1))
              intro v49 I50 H51 hle52 hp53
              have hbt := hle52 _ _ hbt
              have hpre := hpre.mono hle52
              have hpre2 := hpre2.mono hle52
              have hpre3 := hpre3.mono hle52
              have hsv43 := hsv43.mono hle52
              obtain ⟨hv49, rfl⟩ := hp53; cases hv49
              refine J.nil ?_
              refine Ej.seq ?_
              refine Cj.seq ?_
              refine Cj.region ?_
              refine J.y (yl_buildS (pl := #[(0, 1), (1, 1), (2, 1), (3, 1), (4, 1)]) rfl rfl Tryz.zeroValue28 rfl Tryz.underlying28 (fun w => by simp [Tryz.sizeOf26, Tryz.sizeOf3, Tryz.sizeOf9]) LBld.none) rfl rfl rfl ?_
              refine J.op rfl (op_store 4 rfl rfl rfl rfl rfl rfl Tryz.sizeOf28 rfl rfl (LSpl.c (LSpl.c (LSpl.c (LSpl.c (LSpl.c LSpl.z))))) (LSet.s (LSet.s (LSet.s (LSet.s LSet.z)))) ?_)
              refine J.nil ?_
              refine Ej.seq ?_
              refine Cj.ret ?_
              refine Ej.seqRet ?_
              refine Ej.seqRet ?_
              refine Ej.retCellK (Keeps.k (Keeps.d (Keeps.d (Keeps.d (Keeps.d Keeps.n))))) rfl rfl rfl (Blk.at 4 rfl) Tryz.isAgg28 Tryz.sizeOf28 rfl ?_
              show ROut pb bt ct all deep (Cq.clause (f + 1) deep (t :: (t2 :: t3 :: r3))) _ _ _
              have hev : Cq.clause (f + 1) deep (t :: (t2 :: t3 :: r3)) = .err t.pos 42 := by simp [Cq.clause, hlp, hT0, hk3, hrel, hix]
              rw [hev]
              exact ⟨Cq.zero, none, 0, _, _, rfl, rfl, by decide⟩
            ·
              have hix : Cq.small t.text ∈ Cq.indexes := by simpa using hc48
              refine Cj.skip ?_
              refine Ej.seq ?_
              refine Cj.region ?_
              refine J.y (yl_move rfl rfl) rfl rfl rfl ?_
              refine J.y (yl_move rfl rfl) rfl rfl rfl ?_
              refine J.y (yl_nilCheck rfl rfl) rfl rfl rfl ?_
              refine J.y (yl_fieldAddr (off' := 1) rfl rfl Tryz.underlying88 rfl Tryz.sizeOf3 rfl) rfl rfl rfl ?_
              refine J.y (yl_load rfl rfl Tryz.isAgg3 (Blk.at 4 rfl) rfl) rfl rfl rfl ?_
              refine J.y (yl_add rfl rfl rfl (w64 (by omega))) rfl rfl rfl ?_
              refine J.y (yl_nilCheck rfl rfl) rfl rfl rfl ?_
              refine J.y (yl_fieldAddr (off' := 1) rfl rfl Tryz.underlying88 rfl Tryz.sizeOf3 rfl) rfl rfl rfl ?_
              refine J.op rfl (op_store 4 rfl rfl rfl rfl rfl rfl Tryz.sizeOf3 rfl rfl (LSpl.s (LSpl.c LSpl.z)) (LSet.s (LSet.s (LSet.s (LSet.s LSet.z)))) ?_)
              refine J.nil ?_
              refine Ej.seq ?_
              refine Cj.seq ?_
              refine Cj.region ?_
              refine J.y (yl_move rfl rfl) rfl rfl rfl ?_
              refine J.pull (Pull.s (Pull.s (Pull.s (Pull.s Pull.z)))) ?_
              refine J.op rfl (op_call (H1 := [_]) rfl rfl rfl rfl rfl (rterm_ok pb bt ct (k + 2) deep all spt t3 r3 _ hpre3) ?_ (fun _ _ _ _ h => by split at h <;> cases h.1) (fun _ _ h => by split at h <;> cases h.1))
              intro v54 I55 H56 hle57 hp58
              have hbt := hle57 _ _ hbt
              have hpre := hpre.mono hle57
              have hpre2 := hpre2.mono hle57
              have hpre3 := hpre3.mono hle57
              have hsv43 := hsv43.mono hle57
              rcases hT : Cq.isTerm t3 with _ | _
              ·
                simp only [hT] at hp58
                obtain ⟨h1, rfl⟩ := hp58
                cases h1
                refine J.y (yl_fieldAddr (off' := 3) rfl rfl Tryz.underlying28 rfl Tryz.sizeOf9 rfl) rfl rfl rfl ?_
                refine J.op rfl (op_store 2 rfl rfl rfl rfl rfl rfl Tryz.sizeOf9 rfl rfl (LSpl.s (LSpl.s (LSpl.s (LSpl.c LSpl.z)))) (LSet.s (LSet.s LSet.z)) ?_)
                refine J.nil ?_
                refine Ej.seq ?_
                refine Cj.seq ?_
                refine Cj.region ?_
                refine J.y (yl_loadAgg rfl rfl Tryz.isAgg28 Tryz.sizeOf28 (Blk.at 2 rfl) rfl rfl) rfl rfl rfl ?_
                refine J.op rfl (op_store 4 rfl rfl rfl rfl rfl rfl Tryz.sizeOf28 rfl rfl (LSpl.c (LSpl.c (LSpl.c (LSpl.c (LSpl.c LSpl.z))))) (LSet.s (LSet.s (LSet.s (LSet.s LSet.z)))) ?_)
                refine J.nil ?_
                refine Ej.seq ?_
                refine Cj.ret ?_
                refine Ej.retCellK (Keeps.k (Keeps.d (Keeps.d (Keeps.d (Keeps.d Keeps.n))))) rfl rfl rfl (Blk.at 4 rfl) Tryz.isAgg28 Tryz.sizeOf28 rfl ?_
                show ROut pb bt ct all deep (Cq.clause (f + 1) deep (t :: (t2 :: t3 :: r3))) _ _ _
                have hev : Cq.clause (f + 1) deep (t :: (t2 :: t3 :: r3)) = .err t3.pos 40 := by simp [Cq.clause, hlp, hT0, hk3, hrel, hix, hT]
                rw [hev]
                exact ⟨⟨1, _, _, _, .nil⟩, none, 0, _, _, rfl, rfl, by decide⟩
              ·
                simp only [hT] at hp58
                obtain ⟨h1, rfl⟩ := hp58
                cases h1
                refine J.y (yl_fieldAddr (off' := 3) rfl rfl Tryz.underlying28 rfl Tryz.sizeOf9 rfl) rfl rfl rfl ?_
                refine J.op rfl (op_store 2 rfl rfl rfl rfl rfl rfl Tryz.sizeOf9 rfl rfl (LSpl.s (LSpl.s (LSpl.s (LSpl.c LSpl.z)))) (LSet.s (LSet.s LSet.z)) ?_)
                refine J.nil ?_
                refine Ej.seq ?_
                refine Cj.seq ?_
                refine Cj.region ?_
                refine J.y (yl_loadAgg rfl rfl Tryz.isAgg28 Tryz.sizeOf28 (Blk.at 2 rfl) rfl rfl) rfl rfl rfl ?_
                refine J.op rfl (op_store 4 rfl rfl rfl rfl rfl rfl Tryz.sizeOf28 rfl rfl (LSpl.c (LSpl.c (LSpl.c (LSpl.c (LSpl.c LSpl.z))))) (LSet.s (LSet.s (LSet.s (LSet.s LSet.z)))) ?_)
                refine J.nil ?_
                refine Ej.seq ?_
                refine Cj.ret ?_
                refine Ej.retCellK (Keeps.k (Keeps.d (Keeps.d (Keeps.d (Keeps.d Keeps.n))))) rfl rfl rfl (Blk.at 4 rfl) Tryz.isAgg28 Tryz.sizeOf28 rfl ?_
                show ROut pb bt ct all deep (Cq.clause (f + 1) deep (t :: (t2 :: t3 :: r3))) _ _ _
                have hev : Cq.clause (f + 1) deep (t :: (t2 :: t3 :: r3)) = .ok ⟨1, Cq.small t.text, Cq.small t2.text, t3.text, .nil⟩ r3 := by simp [Cq.clause, hlp, hT0, hk3, hrel, hix, hT]
                rw [hev]
                exact ⟨_, k + 3, rfl, ⟨none, 0, rfl, .inl rfl⟩, rfl, drop_next hpre3.drop⟩
          ·
            have hrel : Cq.relation t2 = false := hc42
            refine Cj.skip ?_
            refine Ej.seq ?_
            refine Cj.seq ?_
            refine Cj.region ?_
            refine J.y (yl_move rfl rfl) rfl rfl rfl ?_
            refine J.pull (Pull.s (Pull.s (Pull.s (Pull.s Pull.z)))) ?_
            refine J.op rfl (op_call (H1 := [_]) rfl rfl rfl rfl rfl (rterm_ok pb bt ct k deep all spt t (t2 :: r2) _ hpre) ?_ (fun _ _ _ _ h => by split at h <;> cases h.1) (fun _ _ h => by split at h <;> cases h.1))
            intro v59 I60 H61 hle62 hp63
            have hbt := hle62 _ _ hbt
            have hpre := hpre.mono hle62
            have hpre2 := hpre2.mono hle62
            rcases hT : Cq.isTerm t with _ | _
            ·
              cases hT0.symm.trans hT
            ·
              simp only [hT] at hp63
              obtain ⟨h1, rfl⟩ := hp63
              cases h1
              refine J.y (yl_fieldAddr (off' := 3) rfl rfl Tryz.underlying28 rfl Tryz.sizeOf9 rfl) rfl rfl rfl ?_
              refine J.op rfl (op_store 2 rfl rfl rfl rfl rfl rfl Tryz.sizeOf9 rfl rfl (LSpl.s (LSpl.s (LSpl.s (LSpl.c LSpl.z)))) (LSet.s (LSet.s LSet.z)) ?_)
              refine J.nil ?_
              refine Ej.seq ?_
              refine Cj.seq ?_
              refine Cj.region ?_
              refine J.y (yl_loadAgg rfl rfl Tryz.isAgg28 Tryz.sizeOf28 (Blk.at 2 rfl) rfl rfl) rfl rfl rfl ?_
              refine J.op rfl (op_store 4 rfl rfl rfl rfl rfl rfl Tryz.sizeOf28 rfl rfl (LSpl.c (LSpl.c (LSpl.c (LSpl.c (LSpl.c LSpl.z))))) (LSet.s (LSet.s (LSet.s (LSet.s LSet.z)))) ?_)
              refine J.nil ?_
              refine Ej.seq ?_
              refine Cj.ret ?_
              refine Ej.retCellK (Keeps.k (Keeps.d (Keeps.d (Keeps.d (Keeps.d Keeps.n))))) rfl rfl rfl (Blk.at 4 rfl) Tryz.isAgg28 Tryz.sizeOf28 rfl ?_
              show ROut pb bt ct all deep (Cq.clause (f + 1) deep (t :: (t2 :: r2))) _ _ _
              have hev : Cq.clause (f + 1) deep (t :: (t2 :: r2)) = .ok ⟨1, [97, 110, 121], [61], t.text, .nil⟩ (t2 :: r2) := by
                simp [Cq.clause, hlp, hT, hk3, hrel]
              rw [hev]
              exact ⟨_, k + 1, rfl, ⟨none, 0, rfl, .inl rfl⟩, by simp [RP], drop_next hpre.drop⟩
        ·
          have hc35p := ne_of_beq_false hc35
          have hT0 : Cq.isTerm t = false := by have := ne_of_beq_false hc35; simp [Cq.isTerm]; omega
          refine Cj.skip ?_
          refine Ej.seq ?_
          refine Cj.seq ?_
          refine Cj.region ?_
          refine J.y (yl_move rfl rfl) rfl rfl rfl ?_
          refine J.pull (Pull.s (Pull.s (Pull.s Pull.z))) ?_
          refine J.op rfl (op_call (H1 := [_]) rfl rfl rfl rfl rfl (rterm_ok pb bt ct k deep all spt t r _ hpre) ?_ (fun _ _ _ _ h => by split at h <;> cases h.1) (fun _ _ h => by split at h <;> cases h.1))
          intro v64 I65 H66 hle67 hp68
          have hbt := hle67 _ _ hbt
          have hpre := hpre.mono hle67
          rcases hT : Cq.isTerm t with _ | _
          ·
            simp only [hT] at hp68
            obtain ⟨h1, rfl⟩ := hp68
            cases h1
            refine J.y (yl_fieldAddr (off' := 3) rfl rfl Tryz.underlying28 rfl Tryz.sizeOf9 rfl) rfl rfl rfl ?_
            refine J.op rfl (op_store 1 rfl rfl rfl rfl rfl rfl Tryz.sizeOf9 rfl rfl (LSpl.s (LSpl.s (LSpl.s (LSpl.c LSpl.z)))) (LSet.s LSet.z) ?_)
            refine J.nil ?_
            refine Ej.seq ?_
            refine Cj.seq ?_
            refine Cj.region ?_
            refine J.y (yl_loadAgg rfl rfl Tryz.isAgg28 Tryz.sizeOf28 (Blk.at 1 rfl) rfl rfl) rfl rfl rfl ?_
            refine J.op rfl (op_store 3 rfl rfl rfl rfl rfl rfl Tryz.sizeOf28 rfl rfl (LSpl.c (LSpl.c (LSpl.c (LSpl.c (LSpl.c LSpl.z))))) (LSet.s (LSet.s (LSet.s LSet.z))) ?_)
            refine J.nil ?_
            refine Ej.seq ?_
            refine Cj.ret ?_
            refine Ej.retCellK (Keeps.k (Keeps.d (Keeps.d (Keeps.d Keeps.n)))) rfl rfl rfl (Blk.at 3 rfl) Tryz.isAgg28 Tryz.sizeOf28 rfl ?_
            show ROut pb bt ct all deep (Cq.clause (f + 1) deep (t :: r)) _ _ _
            have hev : Cq.clause (f + 1) deep (t :: r) = .err t.pos 40 := by simp [Cq.clause, hlp, hT]
            rw [hev]
            exact ⟨⟨1, _, _, _, .nil⟩, none, 0, _, _, rfl, rfl, by decide⟩
          ·
            cases hT0.symm.trans hT
      ·
        have hk3 : t.kind ≠ 3 := by have := ne_of_beq_false hg34; omega
        refine J.skip 3 116 117 true _ rfl rfl rfl hg34 rfl rfl ?_
        refine J.skip 3 116 118 true _ rfl rfl rfl hg34 rfl rfl ?_
        refine J.skip 3 116 119 true _ rfl rfl rfl hg34 rfl rfl ?_
        refine J.y (yl_pick0 rfl rfl hg34 rfl) rfl rfl rfl ?_
        refine J.nil ?_
        refine Ej.seq ?_
        refine Cj.cond rfl (fun hc69 => Bool.noConfusion (Eq.trans (Eq.symm rfl) hc69)) (fun hc69 => ?_)
        refine Cj.skip ?_
        refine Ej.seq ?_
        refine Cj.seq ?_
        refine Cj.region ?_
        refine J.y (yl_move rfl rfl) rfl rfl rfl ?_
        refine J.pull (Pull.s (Pull.s (Pull.s Pull.z))) ?_
        refine J.op rfl (op_call (H1 := [_]) rfl rfl rfl rfl rfl (rterm_ok pb bt ct k deep all spt t r _ hpre) ?_ (fun _ _ _ _ h => by split at h <;> cases h.1) (fun _ _ h => by split at h <;> cases h.1))
        intro v70 I71 H72 hle73 hp74
        have hbt := hle73 _ _ hbt
        have hpre := hpre.mono hle73
        rcases hT : Cq.isTerm t with _ | _
        ·
          simp only [hT] at hp74
          obtain ⟨h1, rfl⟩ := hp74
          cases h1
          refine J.y (yl_fieldAddr (off' := 3) rfl rfl Tryz.underlying28 rfl Tryz.sizeOf9 rfl) rfl rfl rfl ?_
          refine J.op rfl (op_store 1 rfl rfl rfl rfl rfl rfl Tryz.sizeOf9 rfl rfl (LSpl.s (LSpl.s (LSpl.s (LSpl.c LSpl.z)))) (LSet.s LSet.z) ?_)
          refine J.nil ?_
          refine Ej.seq ?_
          refine Cj.seq ?_
          refine Cj.region ?_
          refine J.y (yl_loadAgg rfl rfl Tryz.isAgg28 Tryz.sizeOf28 (Blk.at 1 rfl) rfl rfl) rfl rfl rfl ?_
          refine J.op rfl (op_store 3 rfl rfl rfl rfl rfl rfl Tryz.sizeOf28 rfl rfl (LSpl.c (LSpl.c (LSpl.c (LSpl.c (LSpl.c LSpl.z))))) (LSet.s (LSet.s (LSet.s LSet.z))) ?_)
          refine J.nil ?_
          refine Ej.seq ?_
          refine Cj.ret ?_
          refine Ej.retCellK (Keeps.k (Keeps.d (Keeps.d (Keeps.d Keeps.n)))) rfl rfl rfl (Blk.at 3 rfl) Tryz.isAgg28 Tryz.sizeOf28 rfl ?_
          show ROut pb bt ct all deep (Cq.clause (f + 1) deep (t :: r)) _ _ _
          have hev : Cq.clause (f + 1) deep (t :: r) = .err t.pos 40 := by simp [Cq.clause, hlp, hT]
          rw [hev]
          exact ⟨⟨1, _, _, _, .nil⟩, none, 0, _, _, rfl, rfl, by decide⟩
        ·
          simp only [hT] at hp74
          obtain ⟨h1, rfl⟩ := hp74
          cases h1
          refine J.y (yl_fieldAddr (off' := 3) rfl rfl Tryz.underlying28 rfl Tryz.sizeOf9 rfl) rfl rfl rfl ?_
          refine J.op rfl (op_store 1 rfl rfl rfl rfl rfl rfl Tryz.sizeOf9 rfl rfl (LSpl.s (LSpl.s (LSpl.s (LSpl.c LSpl.z)))) (LSet.s LSet.z) ?_)
          refine J.nil ?_
          refine Ej.seq ?_
          refine Cj.seq ?_
          refine Cj.region ?_
          refine J.y (yl_loadAgg rfl rfl Tryz.isAgg28 Tryz.sizeOf28 (Blk.at 1 rfl) rfl rfl) rfl rfl rfl ?_
          refine J.op rfl (op_store 3 rfl rfl rfl rfl rfl rfl Tryz.sizeOf28 rfl rfl (LSpl.c (LSpl.c (LSpl.c (LSpl.c (LSpl.c LSpl.z))))) (LSet.s (LSet.s (LSet.s LSet.z))) ?_)
          refine J.nil ?_
          refine Ej.seq ?_
          refine Cj.ret ?_
          refine Ej.retCellK (Keeps.k (Keeps.d (Keeps.d (Keeps.d Keeps.n)))) rfl rfl rfl (Blk.at 3 rfl) Tryz.isAgg28 Tryz.sizeOf28 rfl ?_
          show ROut pb bt ct all deep (Cq.clause (f + 1) deep (t :: r)) _ _ _
          have hev : Cq.clause (f + 1) deep (t :: r) = .ok ⟨1, [97, 110, 121], [61], t.text, .nil⟩ r := by
            simp [Cq.clause, hlp, hT, hk3]
          rw [hev]
          exact ⟨_, k + 1, rfl, ⟨none, 0, rfl, .inl rfl⟩, by simp [RP], drop_next hpre.drop⟩
  ·
    have hk1 : t.kind ≠ 1 := by have := ne_of_beq_false hg3; omega
    have hlp : Cq.lp t = false := by simp [Cq.lp, hk1]
    refine J.skip 3 22 23 true _ rfl rfl rfl hg3 rfl rfl ?_
    refine J.skip 3 22 24 true _ rfl rfl rfl hg3 rfl rfl ?_
    refine J.skip 3 22 25 true _ rfl rfl rfl hg3 rfl rfl ?_
    refine J.y (yl_pick0 rfl rfl hg3 rfl) rfl rfl rfl ?_
    refine J.nil ?_
    refine Ej.seq ?_
    refine Cj.cond rfl (fun hc75 => Bool.noConfusion (Eq.trans (Eq.symm rfl) hc75)) (fun hc75 => ?_)
    refine Cj.skip ?_
    refine Ej.seq ?_
    refine Cj.seq ?_
    refine Cj.region ?_
    refine J.y (yl_buildS (pl := #[(0, 1), (1, 1), (2, 1), (3, 1), (4, 1)]) rfl rfl Tryz.zeroValue28 rfl Tryz.underlying28 (fun w => by simp [Tryz.sizeOf26, Tryz.sizeOf3, Tryz.sizeOf9]) (LBld.part rfl rfl rfl (LSpl.c LSpl.z) (LBld.part rfl rfl rfl (LSpl.s (LSpl.c LSpl.z)) (LBld.part rfl rfl rfl (LSpl.s (LSpl.s (LSpl.c LSpl.z))) LBld.none)))) rfl rfl rfl ?_
    refine J.op rfl (op_alloc rfl rfl rfl Tryz.zeroValue28 rfl ?_)
    intro b76 hb76
    refine J.op rfl (op_store 0 rfl rfl rfl rfl rfl rfl Tryz.sizeOf28 rfl rfl (LSpl.c (LSpl.c (LSpl.c (LSpl.c (LSpl.c LSpl.z))))) LSet.z ?_)
    refine J.nil ?_
    refine Ej.seq ?_
    refine Cj.seq ?_
    refine Cj.seq ?_
    refine Cj.region ?_
    refine J.y (yl_fieldAddr (off' := 0) rfl rfl Tryz.underlying50 rfl Tryz.sizeOf3 rfl) rfl rfl rfl ?_
    refine J.y (yl_load rfl rfl Tryz.isAgg3 (Blk.at 1 rfl) rfl) rfl rfl rfl ?_
    refine J.y (yl_eql rfl rfl rfl) rfl rfl rfl ?_
    refine J.y (yl_move rfl rfl) rfl rfl rfl ?_
    refine J.split 116 rfl (fun hg77 => ?_) (fun hg77 => ?_)
    ·
      have hk3 : t.kind = 3 := by have := eq_of_beq hg77; omega
      refine J.opG 3 116 true _ rfl rfl rfl hg77 (op_yld (yl_loadAgg rfl rfl Tryz.isAgg50 Tryz.sizeOf50 (Blk.at 1 rfl) rfl rfl) rfl rfl ?_)
      refine J.opG 3 116 true _ rfl rfl rfl hg77 (op_pure rfl rfl rfl rfl rfl (operator_ok _ (by omega) _) ?_)
      refine J.opG 3 116 true _ rfl rfl rfl hg77 (op_yld (yl_eql rfl rfl rfl) rfl rfl ?_)
      refine J.y (yl_pick1 rfl rfl hg77 rfl) rfl rfl rfl ?_
      refine J.nil ?_
      refine Ej.seq ?_
      refine Cj.cond rfl (fun hc78 => ?_) (fun hc78 => ?_)
      ·
        have hc78p := eq_of_beq hc78
        have hT0 : Cq.isTerm t = true := by have := eq_of_beq hc78; simp [Cq.isTerm, hk3]; omega
        obtain ⟨t2, r2, hr2⟩ := (hpre.good.cons (Cq.over_term hT0)).ne
        subst hr2
        have hr2 : t2 :: r2 = t2 :: r2 := rfl
        have hdr2 := drop_next hpre.drop
        have hlt2 := drop_lt hdr2
        have hpre2 := hpre.to hdr2 (hpre.good.cons (Cq.over_term hT0))
        have htx2 := hpre2.tx
        refine Cj.seq ?_
        refine Cj.drawSel [0, 1, 2, 3] [] 13 (by kernel_rfl) ?_
        refine JA.take 0 rfl rfl (by kernel_rfl) (by kernel_rfl) (by kernel_rfl) (fun _ _ _ h => h) rfl rfl rfl (HSub.c 0 rfl (HSub.c 1 rfl (HSub.c 2 rfl (HSub.c 3 rfl HSub.n)))) CSub.n (Le.refl _) (yl_move rfl rfl) ?_
        refine JA.take 1 rfl rfl (by kernel_rfl) (by kernel_rfl) (by kernel_rfl) (fun _ _ _ h => h) rfl rfl rfl (HSub.c 0 rfl (HSub.c 1 rfl (HSub.c 2 rfl (HSub.c 3 rfl HSub.n)))) CSub.n (Le.refl _) (yl_nilCheck rfl rfl) ?_
        refine JA.take 2 rfl rfl (by kernel_rfl) (by kernel_rfl) (by kernel_rfl) (fun _ _ _ h => h) rfl rfl rfl (HSub.c 0 rfl (HSub.c 1 rfl (HSub.c 2 rfl (HSub.c 3 rfl HSub.n)))) CSub.n (Le.refl _) (yl_fieldAddr (off' := 0) rfl rfl Tryz.underlying88 rfl Tryz.sizeOf47 rfl) ?_
        refine JA.take 3 rfl rfl (by kernel_rfl) (by kernel_rfl) (by kernel_rfl) (fun _ _ _ h => h) rfl rfl rfl (HSub.c 0 rfl (HSub.c 1 rfl (HSub.c 2 rfl (HSub.c 3 rfl HSub.n)))) CSub.n (Le.refl _) (yl_load rfl rfl Tryz.isAgg47 (Blk.atC 3 rfl) rfl) ?_
        refine JA.take 4 rfl rfl (by kernel_rfl) (by kernel_rfl) (by kernel_rfl) (fun _ _ _ h => h) rfl rfl rfl (HSub.c 0 rfl (HSub.c 1 rfl (HSub.c 2 rfl (HSub.c 3 rfl HSub.n)))) CSub.n (Le.refl _) (yl_move rfl rfl) ?_
        refine JA.take 5 rfl rfl (by kernel_rfl) (by kernel_rfl) (by kernel_rfl) (fun _ _ _ h => h) rfl rfl rfl (HSub.c 0 rfl (HSub.c 1 rfl (HSub.c 2 rfl (HSub.c 3 rfl HSub.n)))) CSub.n (Le.refl _) (yl_nilCheck rfl rfl) ?_
        refine JA.take 6 rfl rfl (by kernel_rfl) (by kernel_rfl) (by kernel_rfl) (fun _ _ _ h => h) rfl rfl rfl (HSub.c 0 rfl (HSub.c 1 rfl (HSub.c 2 rfl (HSub.c 3 rfl HSub.n)))) CSub.n (Le.refl _) (yl_fieldAddr (off' := 1) rfl rfl Tryz.underlying88 rfl Tryz.sizeOf3 rfl) ?_
        refine JA.take 7 rfl rfl (by kernel_rfl) (by kernel_rfl) (by kernel_rfl) (fun _ _ _ h => h) rfl rfl rfl (HSub.c 0 rfl (HSub.c 1 rfl (HSub.c 2 rfl (HSub.c 3 rfl HSub.n)))) CSub.n (Le.refl _) (yl_load rfl rfl Tryz.isAgg3 (Blk.atC 3 rfl) rfl) ?_
        refine JA.take 8 rfl rfl (by kernel_rfl) (by kernel_rfl) (by kernel_rfl) (fun _ _ _ h => h) rfl rfl rfl (HSub.c 0 rfl (HSub.c 1 rfl (HSub.c 2 rfl (HSub.c 3 rfl HSub.n)))) CSub.n (Le.refl _) (yl_add rfl rfl rfl (w64 (by omega))) ?_
        refine JA.take 9 rfl rfl (by kernel_rfl) (by kernel_rfl) (by kernel_rfl) (fun _ _ _ h => h) rfl rfl rfl (HSub.c 0 rfl (HSub.c 1 rfl (HSub.c 2 rfl (HSub.c 3 rfl HSub.n)))) CSub.n (Le.refl _) (yl_indexAddr (off' := (k + 1) * 3) rfl rfl rfl Tryz.underlying47 Tryz.sizeOf50 (by omega) (by omega) (by omega)) ?_
        refine JA.take 10 rfl rfl (by kernel_rfl) (by kernel_rfl) (by kernel_rfl) (fun _ _ _ h => h) rfl rfl rfl (HSub.c 0 rfl (HSub.c 1 rfl (HSub.c 2 rfl (HSub.c 3 rfl HSub.n)))) CSub.n (Le.refl _) (yl_loadAgg rfl rfl Tryz.isAgg50 Tryz.sizeOf50 (Blk.immC hbt) (tok_at hdr2) rfl) ?_
        refine JA.step 11 (by kernel_rfl) rfl rfl (op_alloc rfl rfl rfl Tryz.zeroValue50 rfl ?_)
        intro b79 hb79
        refine ⟨⟨(Le.refl _), (HSub.c 1 rfl (HSub.c 2 rfl (HSub.c 3 rfl (HSub.c 4 rfl HSub.n)))), CSub.n⟩, ?_⟩
        refine JA.step 12 (by kernel_rfl) rfl rfl (op_store 0 rfl rfl rfl rfl rfl rfl Tryz.sizeOf50 rfl rfl (LSpl.c (LSpl.c (LSpl.c LSpl.z))) LSet.z ?_)
        refine ⟨⟨(Le.refl _), (HSub.c 1 rfl (HSub.c 2 rfl (HSub.c 3 rfl (HSub.c 4 rfl HSub.n)))), CSub.n⟩, ?_⟩
        refine JA.done (by kernel_rfl) ?_
        refine Ej.seq ?_
        refine Cj.seq ?_
        refine Cj.region ?_
        refine J.y (yl_loadAgg rfl rfl Tryz.isAgg50 Tryz.sizeOf50 (Blk.at 0 rfl) rfl rfl) rfl rfl rfl ?_
        refine J.op rfl (op_call (H1 := []) rfl rfl rfl rfl rfl (relation_ok _ (by omega) _) ?_ (fun _ _ _ _ h => by cases h.1) (fun _ _ h => by cases h.1))
        intro v80 I81 H82 hle83 hp84
        have hbt := hle83 _ _ hbt
        have hpre := hpre.mono hle83
        have hpre2 := hpre2.mono hle83
        obtain ⟨hv80, rfl⟩ := hp84; cases hv80
        refine J.y (yl_assign rfl rfl) rfl rfl rfl ?_
        refine J.nil ?_
        refine Ej.seq ?_
        refine Cj.seq ?_
        refine Cj.region ?_
        refine J.y (yl_move rfl rfl) rfl rfl rfl ?_
        refine J.nil ?_
        refine Ej.seq ?_
        refine Cj.cond rfl (fun hc85 => ?_) (fun hc85 => ?_)
        ·
          have hrel : Cq.relation t2 = true := hc85
          obtain ⟨t3, r3, rfl⟩ := (hpre2.good.cons (Cq.over_rel hrel)).ne
          have hpre3 := hpre2.to (drop_next hdr2) (hpre2.good.cons (Cq.over_rel hrel))
          have htx3 := hpre3.tx
          refine Cj.seq ?_
          refine Cj.region ?_
          refine J.y (yl_fieldAddr (off' := 1) rfl rfl Tryz.underlying50 rfl Tryz.sizeOf9 rfl) rfl rfl rfl ?_
          refine J.y (yl_load rfl rfl Tryz.isAgg9 (Blk.at 2 rfl) rfl) rfl rfl rfl ?_
          refine J.op rfl (op_pure rfl rfl rfl rfl rfl (Small_ok _ (by omega) _) ?_)
          refine J.y (yl_fieldAddr (off' := 1) rfl rfl Tryz.underlying28 rfl Tryz.sizeOf9 rfl) rfl rfl rfl ?_
          refine J.op rfl (op_store 1 rfl rfl rfl rfl rfl rfl Tryz.sizeOf9 rfl rfl (LSpl.s (LSpl.c LSpl.z)) (LSet.s LSet.z) ?_)
          refine J.nil ?_
          refine Ej.seq ?_
          refine Cj.seq ?_
          refine Cj.region ?_
          refine J.y (yl_fieldAddr (off' := 1) rfl rfl Tryz.underlying50 rfl Tryz.sizeOf9 rfl) rfl rfl rfl ?_
          refine J.y (yl_load rfl rfl Tryz.isAgg9 (Blk.at 0 rfl) rfl) rfl rfl rfl ?_
          refine J.op rfl (op_pure rfl rfl rfl rfl rfl (Small_ok _ (by omega) _) ?_)
          refine J.y (yl_fieldAddr (off' := 2) rfl rfl Tryz.underlying28 rfl Tryz.sizeOf9 rfl) rfl rfl rfl ?_
          refine J.op rfl (op_store 1 rfl rfl rfl rfl rfl rfl Tryz.sizeOf9 rfl rfl (LSpl.s (LSpl.s (LSpl.c LSpl.z))) (LSet.s LSet.z) ?_)
          refine J.nil ?_
          refine Ej.seq ?_
          refine Cj.seq ?_
          refine Cj.drawSel [0, 1, 2, 3, 4] [] 5 (by kernel_rfl) ?_
          have hbt_24 := hbt
          refine JA.take 1 rfl rfl (by kernel_rfl) (by kernel_rfl) (by kernel_rfl) (fun _ _ _ h => h) rfl rfl rfl (HSub.c 0 rfl (HSub.c 1 rfl (HSub.c 2 rfl (HSub.c 3 rfl (HSub.c 4 rfl HSub.n))))) CSub.n (Le.refl _) (yl_fieldAddr (off' := 1) rfl rfl Tryz.underlying28 rfl Tryz.sizeOf9 rfl) ?_
          refine JA.take 2 rfl rfl (by kernel_rfl) (by kernel_rfl) (by kernel_rfl) (fun _ _ _ h => h) rfl rfl rfl (HSub.c 0 rfl (HSub.c 1 rfl (HSub.c 2 rfl (HSub.c 3 rfl (HSub.c 4 rfl HSub.n))))) CSub.n (Le.refl _) (yl_load rfl rfl Tryz.isAgg9 (Blk.atC 1 rfl) rfl) ?_
          refine JA.step 0 (by kernel_rfl) rfl rfl (op_call (H1 := []) rfl rfl rfl rfl rfl (Indexes_ok _) ?_ (fun _ _ _ _ h => by obtain ⟨⟨_, h, _⟩, _⟩ := h; cases h) (fun _ _ h => by obtain ⟨⟨_, h, _⟩, _⟩ := h; cases h))
          intro v86 I87 H88 hle89 hp90
          have hbt := hle89 _ _ hbt
          have hpre := hpre.mono hle89
          have hpre2 := hpre2.mono hle89
          have hpre3 := hpre3.mono hle89
          obtain ⟨⟨v86x, hv86, hsv86⟩, rfl⟩ := hp90; cases hv86
          refine ⟨⟨(Le.trans (Le.refl _) hle89), (HSub.c 0 rfl (HSub.c 1 rfl (HSub.c 2 rfl (HSub.c 3 rfl (HSub.c 4 rfl HSub.n))))), CSub.n⟩, ?_⟩
          refine JA.step 3 (by kernel_rfl) rfl rfl (op_pure rfl rfl rfl rfl rfl (among_ok Cq.indexes _ _ (by decide) _ hsv86) ?_)
          refine ⟨⟨(Le.trans (Le.refl _) hle89), (HSub.c 0 rfl (HSub.c 1 rfl (HSub.c 2 rfl (HSub.c 3 rfl (HSub.c 4 rfl HSub.n))))), CSub.n⟩, ?_⟩
          refine JA.take 4 rfl rfl (by kernel_rfl) (by kernel_rfl) (by kernel_rfl) (fun _ _ _ h => h) rfl rfl rfl (HSub.c 0 rfl (HSub.c 1 rfl (HSub.c 2 rfl (HSub.c 3 rfl (HSub.c 4 rfl HSub.n))))) CSub.n (Le.trans (Le.refl _) hle89) (yl_assign rfl rfl) ?_
          refine JA.done (by kernel_rfl) ?_
          refine Ej.seq ?_
          refine Cj.seq ?_
          refine Cj.seq ?_
          refine Cj.region ?_
          refine J.y (yl_move rfl rfl) rfl rfl rfl ?_
          refine J.y (yl_not rfl rfl) rfl rfl rfl ?_
          refine J.nil ?_
          refine Ej.seq ?_
          refine Cj.cond rfl (fun hc91 => ?_) (fun hc91 => ?_)
          ·
            have hix : ¬ Cq.small t.text ∈ Cq.indexes := by simpa using hc91
            refine Cj.seq ?_
            refine Cj.region ?_
            refine J.y (yl_move rfl rfl) rfl rfl rfl ?_
            refine J.y (yl_loadAgg rfl rfl Tryz.isAgg50 Tryz.sizeOf50 (Blk.at 2 rfl) rfl rfl) rfl rfl rfl ?_
            refine J.pull (Pull.s (Pull.s (Pull.s (Pull.s Pull.z)))) ?_
            refine J.op rfl (op_call (H1 := [_]) rfl rfl rfl rfl rfl (rfail_ok _ _ _ _ _ _ _ _) ?_ (fun _ _ _ _ h => by cases h.1) (fun _ _ h => by cases h.1))
            intro v92 I93 H94 hle95 hp96
            have hbt := hle95 _ _ hbt
            have hpre := hpre.mono hle95
            have hpre2 := hpre2.mono hle95
            have hpre3 := hpre3.mono hle95
            have hsv86 := hsv86.mono hle95
            obtain ⟨hv92, rfl⟩ := hp96; cases hv92
            refine J.nil ?_
            refine Ej.seq ?_
            refine Cj.seq ?_
            refine Cj.region ?_
            refine J.y (yl_buildS (pl := #[(0, 1), (1, 1), (2, 1), (3, 1), (4, 1)]) rfl rfl Tryz.zeroValue28 rfl Tryz.underlying28 (fun w => by simp [Tryz.sizeOf26, Tryz.sizeOf3, Tryz.sizeOf9]) LBld.none) rfl rfl rfl ?_
            refine J.op rfl (op_store 4 rfl rfl rfl rfl rfl rfl Tryz.sizeOf28 rfl rfl (LSpl.c (LSpl.c (LSpl.c (LSpl.c (LSpl.c LSpl.z))))) (LSet.s (LSet.s (LSet.s (LSet.s LSet.z)))) ?_)
            refine J.nil ?_
            refine Ej.seq ?_
            refine Cj.ret ?_
            refine Ej.seqRet ?_
            refine Ej.seqRet ?_
            refine Ej.retCellK (Keeps.k (Keeps.d (Keeps.d (Keeps.d (Keeps.d Keeps.n))))) rfl rfl rfl (Blk.at 4 rfl) Tryz.isAgg28 Tryz.sizeOf28 rfl ?_
            show ROut pb bt ct all deep (Cq.clause (f + 1) deep (t :: (t2 :: t3 :: r3))) _ _ _
            have hev : Cq.clause (f + 1) deep (t :: (t2 :: t3 :: r3)) = .err t.pos 42 := by simp [Cq.clause, hlp, hT0, hk3, hrel, hix]
            rw [hev]
            exact ⟨Cq.zero, none, 0, _, _, rfl, rfl, by decide⟩
          ·
            have hix : Cq.small t.text ∈ Cq.indexes := by simpa using hc91
            refine Cj.skip ?_
            refine Ej.seq ?_
            refine Cj.region ?_
            refine J.y (yl_move rfl rfl) rfl rfl rfl ?_
            refine J.y (yl_move rfl rfl) rfl rfl rfl ?_
            refine J.y (yl_nilCheck rfl rfl) rfl rfl rfl ?_
            refine J.y (yl_fieldAddr (off' := 1) rfl rfl Tryz.underlying88 rfl Tryz.sizeOf3 rfl) rfl rfl rfl ?_
            refine J.y (yl_load rfl rfl Tryz.isAgg3 (Blk.at 4 rfl) rfl) rfl rfl rfl ?_
            refine J.y (yl_add rfl rfl rfl (w64 (by omega))) rfl rfl rfl ?_
            refine J.y (yl_nilCheck rfl rfl) rfl rfl rfl ?_
            refine J.y (yl_fieldAddr (off' := 1) rfl rfl Tryz.underlying88 rfl Tryz.sizeOf3 rfl) rfl rfl rfl ?_
            refine J.op rfl (op_store 4 rfl rfl rfl rfl rfl rfl Tryz.sizeOf3 rfl rfl (LSpl.s (LSpl.c LSpl.z)) (LSet.s (LSet.s (LSet.s (LSet.s LSet.z)))) ?_)
            refine J.nil ?_
            refine Ej.seq ?_
            refine Cj.seq ?_
            refine Cj.region ?_
            refine J.y (yl_move rfl rfl) rfl rfl rfl ?_
            refine J.pull (Pull.s (Pull.s (Pull.s (Pull.s Pull.z)))) ?_
            refine J.op rfl (op_call (H1 := [_]) rfl rfl rfl rfl rfl (rterm_ok pb bt ct (k + 2) deep all spt t3 r3 _ hpre3) ?_ (fun _ _ _ _ h => by split at h <;> cases h.1) (fun _ _ h => by split at h <;> cases h.1))
            intro v97 I98 H99 hle100 hp101
            have hbt := hle100 _ _ hbt
            have hpre := hpre.mono hle100
            have hpre2 := hpre2.mono hle100
            have hpre3 := hpre3.mono hle100
            have hsv86 := hsv86.mono hle100
            rcases hT : Cq.isTerm t3 with _ | _
            ·
              simp only [hT] at hp101
              obtain ⟨h1, rfl⟩ := hp101
              cases h1
              refine J.y (yl_fieldAddr (off' := 3) rfl rfl Tryz.underlying28 rfl Tryz.sizeOf9 rfl) rfl rfl rfl ?_
              refine J.op rfl (op_store 2 rfl rfl rfl rfl rfl rfl Tryz.sizeOf9 rfl rfl (LSpl.s (LSpl.s (LSpl.s (LSpl.c LSpl.z)))) (LSet.s (LSet.s LSet.z)) ?_)
              refine J.nil ?_
              refine Ej.seq ?_
              refine Cj.seq ?_
              refine Cj.region ?_
              refine J.y (yl_loadAgg rfl rfl Tryz.isAgg28 Tryz.sizeOf28 (Blk.at 2 rfl) rfl rfl) rfl rfl rfl ?_
              refine J.op rfl (op_store 4 rfl rfl rfl rfl rfl rfl Tryz.sizeOf28 rfl rfl (LSpl.c (LSpl.c (LSpl.c (LSpl.c (LSpl.c LSpl.z))))) (LSet.s (LSet.s (LSet.s (LSet.s LSet.z)))) ?_)
              refine J.nil ?_
              refine Ej.seq ?_
              refine Cj.ret ?_
              refine Ej.retCellK (Keeps.k (Keeps.d (Keeps.d (Keeps.d (Keeps.d Keeps.n))))) rfl rfl rfl (Blk.at 4 rfl) Tryz.isAgg28 Tryz.sizeOf28 rfl ?_
              show ROut pb bt ct all deep (Cq.clause (f + 1) deep (t :: (t2 :: t3 :: r3))) _ _ _
              have hev : Cq.clause (f + 1) deep (t :: (t2 :: t3 :: r3)) = .err t3.pos 40 := by simp [Cq.clause, hlp, hT0, hk3, hrel, hix, hT]
              rw [hev]
              exact ⟨⟨1, _, _, _, .nil⟩, none, 0, _, _, rfl, rfl, by decide⟩
            ·
              simp only [hT] at hp101
              obtain ⟨h1, rfl⟩ := hp101
              cases h1
              refine J.y (yl_fieldAddr (off' := 3) rfl rfl Tryz.underlying28 rfl Tryz.sizeOf9 rfl) rfl rfl rfl ?_
              refine J.op rfl (op_store 2 rfl rfl rfl rfl rfl rfl Tryz.sizeOf9 rfl rfl (LSpl.s (LSpl.s (LSpl.s (LSpl.c LSpl.z)))) (LSet.s (LSet.s LSet.z)) ?_)
              refine J.nil ?_
              refine Ej.seq ?_
              refine Cj.seq ?_
              refine Cj.region ?_
              refine J.y (yl_loadAgg rfl rfl Tryz.isAgg28 Tryz.sizeOf28 (Blk.at 2 rfl) rfl rfl) rfl rfl rfl ?_
              refine J.op rfl (op_store 4 rfl rfl rfl rfl rfl rfl Tryz.sizeOf28 rfl rfl (LSpl.c (LSpl.c (LSpl.c (LSpl.c (LSpl.c LSpl.z))))) (LSet.s (LSet.s (LSet.s (LSet.s LSet.z)))) ?_)
              refine J.nil ?_
              refine Ej.seq ?_
              refine Cj.ret ?_
              refine Ej.retCellK (Keeps.k (Keeps.d (Keeps.d (Keeps.d (Keeps.d Keeps.n))))) rfl rfl rfl (Blk.at 4 rfl) Tryz.isAgg28 Tryz.sizeOf28 rfl ?_
              show ROut pb bt ct all deep (Cq.clause (f + 1) deep (t :: (t2 :: t3 :: r3))) _ _ _
              have hev : Cq.clause (f + 1) deep (t :: (t2 :: t3 :: r3)) = .ok ⟨1, Cq.small t.text, Cq.small t2.text, t3.text, .nil⟩ r3 := by simp [Cq.clause, hlp, hT0, hk3, hrel, hix, hT]
              rw [hev]
              exact ⟨_, k + 3, rfl, ⟨none, 0, rfl, .inl rfl⟩, rfl, drop_next hpre3.drop⟩
        ·
          have hrel : Cq.relation t2 = false := hc85
          refine Cj.skip ?_
          refine Ej.seq ?_
          refine Cj.seq ?_
          refine Cj.region ?_
          refine J.y (yl_move rfl rfl) rfl rfl rfl ?_
          refine J.pull (Pull.s (Pull.s (Pull.s (Pull.s Pull.z)))) ?_
          refine J.op rfl (op_call (H1 := [_]) rfl rfl rfl rfl rfl (rterm_ok pb bt ct k deep all spt t (t2 :: r2) _ hpre) ?_ (fun _ _ _ _ h => by split at h <;> cases h.1) (fun _ _ h => by split at h <;> cases h.1))
          intro v102 I103 H104 hle105 hp106
          have hbt := hle105 _ _ hbt
          have hpre := hpre.mono hle105
          have hpre2 := hpre2.mono hle105
          rcases hT : Cq.isTerm t with _ | _
          ·
            cases hT0.symm.trans hT
          ·
            simp only [hT] at hp106
            obtain ⟨h1, rfl⟩ := hp106
            cases h1
            refine J.y (yl_fieldAddr (off' := 3) rfl rfl Tryz.underlying28 rfl Tryz.sizeOf9 rfl) rfl rfl rfl ?_
            refine J.op rfl (op_store 2 rfl rfl rfl rfl rfl rfl Tryz.sizeOf9 rfl rfl (LSpl.s (LSpl.s (LSpl.s (LSpl.c LSpl.z)))) (LSet.s (LSet.s LSet.z)) ?_)
            refine J.nil ?_
            refine Ej.seq ?_
            refine Cj.seq ?_
            refine Cj.region ?_
            refine J.y (yl_loadAgg rfl rfl Tryz.isAgg28 Tryz.sizeOf28 (Blk.at 2 rfl) rfl rfl) rfl rfl rfl ?_
            refine J.op rfl (op_store 4 rfl rfl rfl rfl rfl rfl Tryz.sizeOf28 rfl rfl (LSpl.c (LSpl.c (LSpl.c (LSpl.c (LSpl.c LSpl.z))))) (LSet.s (LSet.s (LSet.s (LSet.s LSet.z)))) ?_)
            refine J.nil ?_
            refine Ej.seq ?_
            refine Cj.ret ?_
            refine Ej.retCellK (Keeps.k (Keeps.d (Keeps.d (Keeps.d (Keeps.d Keeps.n))))) rfl rfl rfl (Blk.at 4 rfl) Tryz.isAgg28 Tryz.sizeOf28 rfl ?_
            show ROut pb bt ct all deep (Cq.clause (f + 1) deep (t :: (t2 :: r2))) _ _ _
            have hev : Cq.clause (f + 1) deep (t :: (t2 :: r2)) = .ok ⟨1, [97, 110, 121], [61], t.text, .nil⟩ (t2 :: r2) := by
              simp [Cq.clause, hlp, hT, hk3, hrel]
            rw [hev]
            exact ⟨_, k + 1, rfl, ⟨none, 0, rfl, .inl rfl⟩, by simp [RP], drop_next hpre.drop⟩
      ·
        have hc78p := ne_of_beq_false hc78
        have hT0 : Cq.isTerm t = false := by have := ne_of_beq_false hc78; simp [Cq.isTerm]; omega
        refine Cj.skip ?_
        refine Ej.seq ?_
        refine Cj.seq ?_
        refine Cj.region ?_
        refine J.y (yl_move rfl rfl) rfl rfl rfl ?_
        refine J.pull (Pull.s (Pull.s (Pull.s Pull.z))) ?_
        refine J.op rfl (op_call (H1 := [_]) rfl rfl rfl rfl rfl (rterm_ok pb bt ct k deep all spt t r _ hpre) ?_ (fun _ _ _ _ h => by split at h <;> cases h.1) (fun _ _ h => by split at h <;> cases h.1))
        intro v107 I108 H109 hle110 hp111
        have hbt := hle110 _ _ hbt
        have hpre := hpre.mono hle110
        rcases hT : Cq.isTerm t with _ | _
        ·
          simp only [hT] at hp111
          obtain ⟨h1, rfl⟩ := hp111
          cases h1
          refine J.y (yl_fieldAddr (off' := 3) rfl rfl Tryz.underlying28 rfl Tryz.sizeOf9 rfl) rfl rfl rfl ?_
          refine J.op rfl (op_store 1 rfl rfl rfl rfl rfl rfl Tryz.sizeOf9 rfl rfl (LSpl.s (LSpl.s (LSpl.s (LSpl.c LSpl.z)))) (LSet.s LSet.z) ?_)
          refine J.nil ?_
          refine Ej.seq ?_
          refine Cj.seq ?_
          refine Cj.region ?_
          refine J.y (yl_loadAgg rfl rfl Tryz.isAgg28 Tryz.sizeOf28 (Blk.at 1 rfl) rfl rfl) rfl rfl rfl ?_
          refine J.op rfl (op_store 3 rfl rfl rfl rfl rfl rfl Tryz.sizeOf28 rfl rfl (LSpl.c (LSpl.c (LSpl.c (LSpl.c (LSpl.c LSpl.z))))) (LSet.s (LSet.s (LSet.s LSet.z))) ?_)
          refine J.nil ?_
          refine Ej.seq ?_
          refine Cj.ret ?_
          refine Ej.retCellK (Keeps.k (Keeps.d (Keeps.d (Keeps.d Keeps.n)))) rfl rfl rfl (Blk.at 3 rfl) Tryz.isAgg28 Tryz.sizeOf28 rfl ?_
          show ROut pb bt ct all deep (Cq.clause (f + 1) deep (t :: r)) _ _ _
          have hev : Cq.clause (f + 1) deep (t :: r) = .err t.pos 40 := by simp [Cq.clause, hlp, hT]
          rw [hev]
          exact ⟨⟨1, _, _, _, .nil⟩, none, 0, _, _, rfl, rfl, by decide⟩
        ·
          cases hT0.symm.trans hT
    ·
      have hk3 : t.kind ≠ 3 := by have := ne_of_beq_false hg77; omega
      refine J.skip 3 116 117 true _ rfl rfl rfl hg77 rfl rfl ?_
      refine J.skip 3 116 118 true _ rfl rfl rfl hg77 rfl rfl ?_
      refine J.skip 3 116 119 true _ rfl rfl rfl hg77 rfl rfl ?_
      refine J.y (yl_pick0 rfl rfl hg77 rfl) rfl rfl rfl ?_
      refine J.nil ?_
      refine Ej.seq ?_
      refine Cj.cond rfl (fun hc112 => Bool.noConfusion (Eq.trans (Eq.symm rfl) hc112)) (fun hc112 => ?_)
      refine Cj.skip ?_
      refine Ej.seq ?_
      refine Cj.seq ?_
      refine Cj.region ?_
      refine J.y (yl_move rfl rfl) rfl rfl rfl ?_
      refine J.pull (Pull.s (Pull.s (Pull.s Pull.z))) ?_
      refine J.op rfl (op_call (H1 := [_]) rfl rfl rfl rfl rfl (rterm_ok pb bt ct k deep all spt t r _ hpre) ?_ (fun _ _ _ _ h => by split at h <;> cases h.1) (fun _ _ h => by split at h <;> cases h.1))
      intro v113 I114 H115 hle116 hp117
      have hbt := hle116 _ _ hbt
      have hpre := hpre.mono hle116
      rcases hT : Cq.isTerm t with _ | _
      ·
        simp only [hT] at hp117
        obtain ⟨h1, rfl⟩ := hp117
        cases h1
        refine J.y (yl_fieldAddr (off' := 3) rfl rfl Tryz.underlying28 rfl Tryz.sizeOf9 rfl) rfl rfl rfl ?_
        refine J.op rfl (op_store 1 rfl rfl rfl rfl rfl rfl Tryz.sizeOf9 rfl rfl (LSpl.s (LSpl.s (LSpl.s (LSpl.c LSpl.z)))) (LSet.s LSet.z) ?_)
        refine J.nil ?_
        refine Ej.seq ?_
        refine Cj.seq ?_
        refine Cj.region ?_
        refine J.y (yl_loadAgg rfl rfl Tryz.isAgg28 Tryz.sizeOf28 (Blk.at 1 rfl) rfl rfl) rfl rfl rfl ?_
        refine J.op rfl (op_store 3 rfl rfl rfl rfl rfl rfl Tryz.sizeOf28 rfl rfl (LSpl.c (LSpl.c (LSpl.c (LSpl.c (LSpl.c LSpl.z))))) (LSet.s (LSet.s (LSet.s LSet.z))) ?_)
        refine J.nil ?_
        refine Ej.seq ?_
        refine Cj.ret ?_
        refine Ej.retCellK (Keeps.k (Keeps.d (Keeps.d (Keeps.d Keeps.n)))) rfl rfl rfl (Blk.at 3 rfl) Tryz.isAgg28 Tryz.sizeOf28 rfl ?_
        show ROut pb bt ct all deep (Cq.clause (f + 1) deep (t :: r)) _ _ _
        have hev : Cq.clause (f + 1) deep (t :: r) = .err t.pos 40 := by simp [Cq.clause, hlp, hT]
        rw [hev]
        exact ⟨⟨1, _, _, _, .nil⟩, none, 0, _, _, rfl, rfl, by decide⟩
      ·
        simp only [hT] at hp117
        obtain ⟨h1, rfl⟩ := hp117
        cases h1
        refine J.y (yl_fieldAddr (off' := 3) rfl rfl Tryz.underlying28 rfl Tryz.sizeOf9 rfl) rfl rfl rfl ?_
        refine J.op rfl (op_store 1 rfl rfl rfl rfl rfl rfl Tryz.sizeOf9 rfl rfl (LSpl.s (LSpl.s (LSpl.s (LSpl.c LSpl.z)))) (LSet.s LSet.z) ?_)
        refine J.nil ?_
        refine Ej.seq ?_
        refine Cj.seq ?_
        refine Cj.region ?_
        refine J.y (yl_loadAgg rfl rfl Tryz.isAgg28 Tryz.sizeOf28 (Blk.at 1 rfl) rfl rfl) rfl rfl rfl ?_
        refine J.op rfl (op_store 3 rfl rfl rfl rfl rfl rfl Tryz.sizeOf28 rfl rfl (LSpl.c (LSpl.c (LSpl.c (LSpl.c (LSpl.c LSpl.z))))) (LSet.s (LSet.s (LSet.s LSet.z))) ?_)
        refine J.nil ?_
        refine Ej.seq ?_
        refine Cj.ret ?_
        refine Ej.retCellK (Keeps.k (Keeps.d (Keeps.d (Keeps.d Keeps.n)))) rfl rfl rfl (Blk.at 3 rfl) Tryz.isAgg28 Tryz.sizeOf28 rfl ?_
        show ROut pb bt ct all deep (Cq.clause (f + 1) deep (t :: r)) _ _ _
        have hev : Cq.clause (f + 1) deep (t :: r) = .ok ⟨1, [97, 110, 121], [61], t.text, .nil⟩ r := by
          simp [Cq.clause, hlp, hT, hk3]
        rw [hev]
        exact ⟨_, k + 1, rfl, ⟨none, 0, rfl, .inl rfl⟩, by simp [RP], drop_next hpre.drop⟩

/-- A state of the loop over operators. -/
structure QSt where
  f : Nat
  q : Cq.Qn
  p : Option Addr
  c : Nat
  k : Nat
  dp : Nat
  a : Nat
  e : Nat
  I : Heap
def QPre (bt : Nat) (all : List Cq.Tok) (spt : List Value) (f deep : Nat) (ts : List Cq.Tok) (j : QSt) : Prop :=
  (j.e = 0 ∧ j.a = 0 ∧ deep = j.dp ∧ Cq.query (f + 1) deep ts = Cq.more j.f j.dp j.q (all.drop j.k) ∧ RPre j.I bt all spt j.k (all.drop j.k) ∧ PS j.I j.q.ps j.p ∧ 2 * (all.drop j.k).length + 1 ≤ j.f ∧ j.f ≤ f) ∨
  (j.e ≠ 0 ∧ Cq.query (f + 1) deep ts = .err j.a j.e)

set_option maxRecDepth 20000 in
theorem rquery_step (f : Nat) (ih : ∀ g, g ≤ f → CSpec g) : QSpec (f + 1) := by
  intro pb bt ct k deep all spt ts I hpre hf hd
  have hbt := hpre.blk; have hal := hpre.len
  refine Ctr.of_body Tryz.func45 rfl (by decide) (Nat.le_of_ble_eq_true rfl) ?_
  intro w0 hw0
  refine Cj.seq ?_
  refine Cj.region ?_
  refine J.op rfl (op_alloc rfl rfl rfl Tryz.zeroValue28 rfl ?_)
  intro b1 hb1
  refine J.nil ?_
  refine Ej.seq ?_
  refine Cj.seq ?_
  refine Cj.region ?_
  refine J.y (yl_move rfl rfl) rfl rfl rfl ?_
  refine J.pull (Pull.s Pull.z) ?_
  refine J.op rfl (op_call (H1 := [_]) rfl rfl rfl rfl rfl (ih f (Nat.le_refl _) pb bt ct k deep all spt ts _ hpre (by omega) hd) ?_ (fun _ _ _ _ h => by obtain ⟨_, h⟩ := h.ret; cases h) (fun _ _ h => by obtain ⟨_, h⟩ := h.ret; cases h))
  intro v2 I3 H4 hle5 hp6
  have hbt := hle5 _ _ hbt
  have hpre := hpre.mono hle5
  have hless := (Cq.less f).1 deep ts hpre.good
  rcases hq : Cq.clause f deep ts with ⟨q2, ts2⟩ | ⟨pe, ee⟩
  ·
    rw [hq] at hp6 hless
    obtain ⟨vq, k2, h1, ⟨pq, cq, rfl, hps2⟩, rfl, hdr2⟩ := hp6
    cases h1
    obtain ⟨hg2, hlen2⟩ := hless
    have hpre2 := hpre.to hdr2 hg2
    have hkk := congrArg List.length hdr2
    rw [List.length_drop] at hkk
    refine J.op rfl (op_alloc rfl rfl rfl Tryz.zeroValue28 rfl ?_)
    intro b7 hb7
    refine J.op rfl (op_store 0 rfl rfl rfl rfl rfl rfl Tryz.sizeOf28 rfl rfl (LSpl.c (LSpl.c (LSpl.c (LSpl.c (LSpl.c LSpl.z))))) LSet.z ?_)
    refine J.nil ?_
    refine Ej.seq ?_
    refine Cj.seq ?_
    refine Cj.block ?_
    refine Cj.loop (ι := QSt) (fun j => QPre bt all spt f deep ts j) (fun j => if j.e = 0 then all.length + 1 - j.k else 0) (fun j => [(0, ptr pb 0), (2, ptr b1 0), (3, ptr b7 0)]) (fun j => j.I) (fun j => [(b7, cel 28 (qCells j.q j.p j.c)), (pb, cel 88 [.slice (some ⟨bt, 0, none⟩) all.length ct, i64 j.k, i64 j.dp, i64 j.a, i64 j.e]), (b1, cel 28 (qCells Cq.zero none 0))]) ⟨f, q2, pq, cq, k2, deep, 0, 0, _⟩ (.inl ⟨rfl, rfl, rfl, by simp only [Cq.query, hq, hdr2], hdr2 ▸ hpre2, hps2, by dsimp only; rw [hdr2]; omega, Nat.le_refl _⟩) ⟨rfl, rfl, rfl, trivial⟩ rfl rfl ?_
    rintro ⟨f', q, p, c, k', dp, a, e, I1⟩ hj
    dsimp only at hj ⊢
    rcases hj with ⟨he, ha, hdp, heq, hpre, hps, hf', hff⟩ | ⟨hne, heq⟩
    ·
      dsimp only at he ha hdp heq hpre hps hf' hff
      subst he; subst ha; subst hdp
      obtain ⟨t, r, hdr⟩ := hpre.good.ne
      rw [hdr] at hpre heq hf'
      obtain ⟨g, rfl⟩ : ∃ g, f' = g + 1 := ⟨f' - 1, by simp at hf'; omega⟩
      have hbt := hpre.blk; have hlt := drop_lt hdr; have htx := hpre.tx; have hal := hpre.len
      refine Cj.seq ?_
      refine Cj.seq ?_
      refine Cj.drawSel [0, 1, 2] [] 19 (by kernel_rfl) ?_
      have hbt_2 := hbt
      refine JA.take 0 rfl rfl (by kernel_rfl) (by kernel_rfl) (by kernel_rfl) (fun _ _ _ h => h) rfl rfl rfl (HSub.c 0 rfl (HSub.c 1 rfl (HSub.c 2 rfl HSub.n))) CSub.n (Le.refl _) (yl_move rfl rfl) ?_
      refine JA.take 1 rfl rfl (by kernel_rfl) (by kernel_rfl) (by kernel_rfl) (fun _ _ _ h => h) rfl rfl rfl (HSub.c 0 rfl (HSub.c 1 rfl (HSub.c 2 rfl HSub.n))) CSub.n (Le.refl _) (yl_nilCheck rfl rfl) ?_
      refine JA.take 2 rfl rfl (by kernel_rfl) (by kernel_rfl) (by kernel_rfl) (fun _ _ _ h => h) rfl rfl rfl (HSub.c 0 rfl (HSub.c 1 rfl (HSub.c 2 rfl HSub.n))) CSub.n (Le.refl _) (yl_fieldAddr (off' := 4) rfl rfl Tryz.underlying88 rfl Tryz.sizeOf32 rfl) ?_
      refine JA.take 3 rfl rfl (by kernel_rfl) (by kernel_rfl) (by kernel_rfl) (fun _ _ _ h => h) rfl rfl rfl (HSub.c 0 rfl (HSub.c 1 rfl (HSub.c 2 rfl HSub.n))) CSub.n (Le.refl _) (yl_load rfl rfl Tryz.isAgg32 (Blk.atC 1 rfl) rfl) ?_
      refine JA.take 4 rfl rfl (by kernel_rfl) (by kernel_rfl) (by kernel_rfl) (fun _ _ _ h => h) rfl rfl rfl (HSub.c 0 rfl (HSub.c 1 rfl (HSub.c 2 rfl HSub.n))) CSub.n (Le.refl _) (yl_eql rfl rfl rfl) ?_
      refine JA.take 5 rfl rfl (by kernel_rfl) (by kernel_rfl) (by kernel_rfl) (fun _ _ _ h => h) rfl rfl rfl (HSub.c 0 rfl (HSub.c 1 rfl (HSub.c 2 rfl HSub.n))) CSub.n (Le.refl _) (yl_move rfl rfl) ?_
      refine JA.takeG 6 5 13 true _ rfl rfl (by kernel_rfl) (by kernel_rfl) (by kernel_rfl) (fun _ _ _ h => h) rfl rfl rfl rfl rfl rfl (HSub.c 0 rfl (HSub.c 1 rfl (HSub.c 2 rfl HSub.n))) CSub.n (Le.refl _) (yl_move rfl rfl) ?_
      refine JA.takeG 7 5 13 true _ rfl rfl (by kernel_rfl) (by kernel_rfl) (by kernel_rfl) (fun _ _ _ h => h) rfl rfl rfl rfl rfl rfl (HSub.c 0 rfl (HSub.c 1 rfl (HSub.c 2 rfl HSub.n))) CSub.n (Le.refl _) (yl_nilCheck rfl rfl) ?_
      refine JA.takeG 8 5 13 true _ rfl rfl (by kernel_rfl) (by kernel_rfl) (by kernel_rfl) (fun _ _ _ h => h) rfl rfl rfl rfl rfl rfl (HSub.c 0 rfl (HSub.c 1 rfl (HSub.c 2 rfl HSub.n))) CSub.n (Le.refl _) (yl_fieldAddr (off' := 0) rfl rfl Tryz.underlying88 rfl Tryz.sizeOf47 rfl) ?_
      refine JA.takeG 9 5 13 true _ rfl rfl (by kernel_rfl) (by kernel_rfl) (by kernel_rfl) (fun _ _ _ h => h) rfl rfl rfl rfl rfl rfl (HSub.c 0 rfl (HSub.c 1 rfl (HSub.c 2 rfl HSub.n))) CSub.n (Le.refl _) (yl_load rfl rfl Tryz.isAgg47 (Blk.atC 1 rfl) rfl) ?_
      refine JA.takeG 10 5 13 true _ rfl rfl (by kernel_rfl) (by kernel_rfl) (by kernel_rfl) (fun _ _ _ h => h) rfl rfl rfl rfl rfl rfl (HSub.c 0 rfl (HSub.c 1 rfl (HSub.c 2 rfl HSub.n))) CSub.n (Le.refl _) (yl_move rfl rfl) ?_
      refine JA.takeG 11 5 13 true _ rfl rfl (by kernel_rfl) (by kernel_rfl) (by kernel_rfl) (fun _ _ _ h => h) rfl rfl rfl rfl rfl rfl (HSub.c 0 rfl (HSub.c 1 rfl (HSub.c 2 rfl HSub.n))) CSub.n (Le.refl _) (yl_nilCheck rfl rfl) ?_
      refine JA.takeG 12 5 13 true _ rfl rfl (by kernel_rfl) (by kernel_rfl) (by kernel_rfl) (fun _ _ _ h => h) rfl rfl rfl rfl rfl rfl (HSub.c 0 rfl (HSub.c 1 rfl (HSub.c 2 rfl HSub.n))) CSub.n (Le.refl _) (yl_fieldAddr (off' := 1) rfl rfl Tryz.underlying88 rfl Tryz.sizeOf3 rfl) ?_
      refine JA.takeG 13 5 13 true _ rfl rfl (by kernel_rfl) (by kernel_rfl) (by kernel_rfl) (fun _ _ _ h => h) rfl rfl rfl rfl rfl rfl (HSub.c 0 rfl (HSub.c 1 rfl (HSub.c 2 rfl HSub.n))) CSub.n (Le.refl _) (yl_load rfl rfl Tryz.isAgg3 (Blk.atC 1 rfl) rfl) ?_
      refine JA.takeG 14 5 13 true _ rfl rfl (by kernel_rfl) (by kernel_rfl) (by kernel_rfl) (fun _ _ _ h => h) rfl rfl rfl rfl rfl rfl (HSub.c 0 rfl (HSub.c 1 rfl (HSub.c 2 rfl HSub.n))) CSub.n (Le.refl _) (yl_indexAddr (off' := k' * 3) rfl rfl rfl Tryz.underlying47 Tryz.sizeOf50 (by omega) (by omega) (by simp)) ?_
      refine JA.takeG 15 5 13 true _ rfl rfl (by kernel_rfl) (by kernel_rfl) (by kernel_rfl) (fun _ _ _ h => h) rfl rfl rfl rfl rfl rfl (HSub.c 0 rfl (HSub.c 1 rfl (HSub.c 2 rfl HSub.n))) CSub.n (Le.refl _) (yl_loadAgg rfl rfl Tryz.isAgg50 Tryz.sizeOf50 (Blk.immC hbt_2) (tok_at hdr) rfl) ?_
      refine JA.stepG 16 5 13 true _ (by kernel_rfl) rfl rfl rfl rfl rfl (op_pure rfl rfl rfl rfl rfl (operator_ok _ (by omega) _) ?_)
      refine ⟨⟨(Le.refl _), (HSub.c 0 rfl (HSub.c 1 rfl (HSub.c 2 rfl HSub.n))), CSub.n⟩, ?_⟩
      refine JA.takeG 17 5 13 true _ rfl rfl (by kernel_rfl) (by kernel_rfl) (by kernel_rfl) (fun _ _ _ h => h) rfl rfl rfl rfl rfl rfl (HSub.c 0 rfl (HSub.c 1 rfl (HSub.c 2 rfl HSub.n))) CSub.n (Le.refl _) (yl_gtr rfl rfl rfl) ?_
      refine JA.take 18 rfl rfl (by kernel_rfl) (by kernel_rfl) (by kernel_rfl) (fun _ _ _ h => h) rfl rfl rfl (HSub.c 0 rfl (HSub.c 1 rfl (HSub.c 2 rfl HSub.n))) CSub.n (Le.refl _) (yl_pick1 rfl rfl rfl rfl) ?_
      refine JA.done (by kernel_rfl) ?_
      refine Ej.seq ?_
      refine Cj.cond rfl (fun hc8 => ?_) (fun hc8 => ?_)
      ·
        have hc8p := of_decide_eq_true hc8
        have hop : Cq.operator t ≠ 0 := by have := of_decide_eq_true hc8; omega
        refine Cj.skip ?_
        refine Ej.seq ?_
        refine Cj.block ?_
        refine Cj.seq ?_
        refine Cj.drawSel [0, 1, 2] [] 12 (by kernel_rfl) ?_
        have hbt_3 := hbt
        refine JA.take 0 rfl rfl (by kernel_rfl) (by kernel_rfl) (by kernel_rfl) (fun _ _ _ h => h) rfl rfl rfl (HSub.c 0 rfl (HSub.c 1 rfl (HSub.c 2 rfl HSub.n))) CSub.n (Le.refl _) (yl_move rfl rfl) ?_
        refine JA.take 1 rfl rfl (by kernel_rfl) (by kernel_rfl) (by kernel_rfl) (fun _ _ _ h => h) rfl rfl rfl (HSub.c 0 rfl (HSub.c 1 rfl (HSub.c 2 rfl HSub.n))) CSub.n (Le.refl _) (yl_nilCheck rfl rfl) ?_
        refine JA.take 2 rfl rfl (by kernel_rfl) (by kernel_rfl) (by kernel_rfl) (fun _ _ _ h => h) rfl rfl rfl (HSub.c 0 rfl (HSub.c 1 rfl (HSub.c 2 rfl HSub.n))) CSub.n (Le.refl _) (yl_fieldAddr (off' := 0) rfl rfl Tryz.underlying88 rfl Tryz.sizeOf47 rfl) ?_
        refine JA.take 3 rfl rfl (by kernel_rfl) (by kernel_rfl) (by kernel_rfl) (fun _ _ _ h => h) rfl rfl rfl (HSub.c 0 rfl (HSub.c 1 rfl (HSub.c 2 rfl HSub.n))) CSub.n (Le.refl _) (yl_load rfl rfl Tryz.isAgg47 (Blk.atC 1 rfl) rfl) ?_
        refine JA.take 4 rfl rfl (by kernel_rfl) (by kernel_rfl) (by kernel_rfl) (fun _ _ _ h => h) rfl rfl rfl (HSub.c 0 rfl (HSub.c 1 rfl (HSub.c 2 rfl HSub.n))) CSub.n (Le.refl _) (yl_move rfl rfl) ?_
        refine JA.take 5 rfl rfl (by kernel_rfl) (by kernel_rfl) (by kernel_rfl) (fun _ _ _ h => h) rfl rfl rfl (HSub.c 0 rfl (HSub.c 1 rfl (HSub.c 2 rfl HSub.n))) CSub.n (Le.refl _) (yl_nilCheck rfl rfl) ?_
        refine JA.take 6 rfl rfl (by kernel_rfl) (by kernel_rfl) (by kernel_rfl) (fun _ _ _ h => h) rfl rfl rfl (HSub.c 0 rfl (HSub.c 1 rfl (HSub.c 2 rfl HSub.n))) CSub.n (Le.refl _) (yl_fieldAddr (off' := 1) rfl rfl Tryz.underlying88 rfl Tryz.sizeOf3 rfl) ?_
        refine JA.take 7 rfl rfl (by kernel_rfl) (by kernel_rfl) (by kernel_rfl) (fun _ _ _ h => h) rfl rfl rfl (HSub.c 0 rfl (HSub.c 1 rfl (HSub.c 2 rfl HSub.n))) CSub.n (Le.refl _) (yl_load rfl rfl Tryz.isAgg3 (Blk.atC 1 rfl) rfl) ?_
        refine JA.take 8 rfl rfl (by kernel_rfl) (by kernel_rfl) (by kernel_rfl) (fun _ _ _ h => h) rfl rfl rfl (HSub.c 0 rfl (HSub.c 1 rfl (HSub.c 2 rfl HSub.n))) CSub.n (Le.refl _) (yl_indexAddr (off' := k' * 3) rfl rfl rfl Tryz.underlying47 Tryz.sizeOf50 (by omega) (by omega) (by simp)) ?_
        refine JA.take 9 rfl rfl (by kernel_rfl) (by kernel_rfl) (by kernel_rfl) (fun _ _ _ h => h) rfl rfl rfl (HSub.c 0 rfl (HSub.c 1 rfl (HSub.c 2 rfl HSub.n))) CSub.n (Le.refl _) (yl_loadAgg rfl rfl Tryz.isAgg50 Tryz.sizeOf50 (Blk.immC hbt_3) (tok_at hdr) rfl) ?_
        refine JA.step 10 (by kernel_rfl) rfl rfl (op_pure rfl rfl rfl rfl rfl (operator_ok _ (by omega) _) ?_)
        refine ⟨⟨(Le.refl _), (HSub.c 0 rfl (HSub.c 1 rfl (HSub.c 2 rfl HSub.n))), CSub.n⟩, ?_⟩
        refine JA.take 11 rfl rfl (by kernel_rfl) (by kernel_rfl) (by kernel_rfl) (fun _ _ _ h => h) rfl rfl rfl (HSub.c 0 rfl (HSub.c 1 rfl (HSub.c 2 rfl HSub.n))) CSub.n (Le.refl _) (yl_assign rfl rfl) ?_
        refine JA.done (by kernel_rfl) ?_
        refine Ej.seq ?_
        refine Cj.seq ?_
        refine Cj.region ?_
        refine J.y (yl_move rfl rfl) rfl rfl rfl ?_
        refine J.y (yl_nilCheck rfl rfl) rfl rfl rfl ?_
        refine J.y (yl_fieldAddr (off' := 1) rfl rfl Tryz.underlying88 rfl Tryz.sizeOf3 rfl) rfl rfl rfl ?_
        refine J.y (yl_load rfl rfl Tryz.isAgg3 (Blk.at 1 rfl) rfl) rfl rfl rfl ?_
        refine J.y (yl_add rfl rfl rfl (w64 (by omega))) rfl rfl rfl ?_
        refine J.y (yl_nilCheck rfl rfl) rfl rfl rfl ?_
        refine J.y (yl_fieldAddr (off' := 1) rfl rfl Tryz.underlying88 rfl Tryz.sizeOf3 rfl) rfl rfl rfl ?_
        refine J.op rfl (op_store 1 rfl rfl rfl rfl rfl rfl Tryz.sizeOf3 rfl rfl (LSpl.s (LSpl.c LSpl.z)) (LSet.s LSet.z) ?_)
        refine J.nil ?_
        refine Ej.seq ?_
        refine Cj.seq ?_
        refine Cj.region ?_
        refine J.y (yl_move rfl rfl) rfl rfl rfl ?_
        refine J.pull (Pull.s Pull.z) ?_
        refine J.op rfl (op_call (H1 := [_]) rfl rfl rfl rfl rfl (ih g (by omega) pb bt ct (k' + 1) deep all spt r _ (hpre.to (drop_next hdr) (hpre.good.cons (Cq.over_op hop))) (by simp at hf'; omega) hd) ?_ (fun _ _ _ _ h => by obtain ⟨_, h⟩ := h.ret; cases h) (fun _ _ h => by obtain ⟨_, h⟩ := h.ret; cases h))
        intro v9 I10 H11 hle12 hp13
        have hbt := hle12 _ _ hbt
        have hpre := hpre.mono hle12
        have hps := hps.mono hle12
        have hless := (Cq.less g).1 deep r (hpre.good.cons (Cq.over_op hop))
        rcases hq : Cq.clause g deep r with ⟨q2, ts2⟩ | ⟨pe, ee⟩
        ·
          rw [hq] at hp13 hless
          obtain ⟨vq, k2, h1, ⟨pq, cq, rfl, hps2⟩, rfl, hdr2⟩ := hp13
          cases h1
          obtain ⟨hg2, hlen2⟩ := hless
          have hpre2 := hpre.to hdr2 hg2
          have hkk := congrArg List.length hdr2
          rw [List.length_drop] at hkk
          refine J.op rfl (op_alloc rfl rfl rfl Tryz.zeroValue28 rfl ?_)
          intro b14 hb14
          refine J.op rfl (op_store 0 rfl rfl rfl rfl rfl rfl Tryz.sizeOf28 rfl rfl (LSpl.c (LSpl.c (LSpl.c (LSpl.c (LSpl.c LSpl.z))))) LSet.z ?_)
          refine J.nil ?_
          refine Ej.seq ?_
          refine Cj.region ?_
          refine J.y (yl_move rfl rfl) rfl rfl rfl ?_
          refine J.y (yl_loadAgg rfl rfl Tryz.isAgg28 Tryz.sizeOf28 (Blk.at 2 rfl) rfl rfl) rfl rfl rfl ?_
          refine J.y (yl_loadAgg rfl rfl Tryz.isAgg28 Tryz.sizeOf28 (Blk.at 0 rfl) rfl rfl) rfl rfl rfl ?_
          refine J.op rfl (op_buildSlice rfl rfl rfl Tryz.underlying26 Tryz.sizeOf28 Tryz.zeroValue28 rfl rfl rfl rfl (LCat.agg rfl (LCat.agg rfl LCat.none)) ?_)
          intro b15 hb15
          refine J.persist hb15 (fun I17 hle16 hb15i => ?_)
          have hbt := hle16 _ _ hbt
          have hpre := hpre.mono hle16
          have hps := hps.mono hle16
          have hps2 := hps2.mono hle16
          have hpre2 := hpre2.mono hle16
          refine J.y (yl_buildS (pl := #[(0, 1), (1, 1), (2, 1), (3, 1), (4, 1)]) rfl rfl Tryz.zeroValue28 rfl Tryz.underlying28 (fun w => by simp [Tryz.sizeOf26, Tryz.sizeOf3, Tryz.sizeOf9]) (LBld.part rfl rfl rfl (LSpl.c LSpl.z) (LBld.part rfl rfl rfl (LSpl.s (LSpl.s (LSpl.s (LSpl.s (LSpl.c LSpl.z))))) LBld.none))) rfl rfl rfl ?_
          refine J.op rfl (op_store 2 rfl rfl rfl rfl rfl rfl Tryz.sizeOf28 rfl rfl (LSpl.c (LSpl.c (LSpl.c (LSpl.c (LSpl.c LSpl.z))))) (LSet.s (LSet.s LSet.z)) ?_)
          refine J.nil ?_
          refine Ej.blkNormal ?_
          refine Ej.keep (Keeps.d (Keeps.k (Keeps.k (Keeps.k Keeps.n)))) ?_
          refine Ej.pull (Pull.s (Pull.s Pull.z)) ?_
          refine Ej.pull (Pull.s Pull.z) ?_
          refine Ej.pull (Pull.s (Pull.s Pull.z)) ?_
          refine Ej.round ⟨g, Cq.two (Cq.operator t) q q2, some ⟨b15, 0, none⟩, 2, k2, deep, 0, 0, _⟩ (.inl ⟨rfl, rfl, rfl, by rw [heq]; simp only [Cq.more, hop, if_false, hq, hdr2], hdr2 ▸ hpre2, PS.two hps hps2 hb15i, by dsimp only; rw [hdr2]; simp at hf' hlen2; omega, by dsimp only; omega⟩) (by have h1 := drop_lt hdr; have h2 := congrArg List.length hdr; rw [List.length_drop] at h2; simp at h2 hkk ⊢; omega) ⟨rfl, rfl, rfl, trivial⟩ rfl rfl
        ·
          rw [hq] at hp13
          obtain ⟨q2, pq, cq, k2, deep2, h1, rfl, hne⟩ := hp13
          cases h1
          refine J.op rfl (op_alloc rfl rfl rfl Tryz.zeroValue28 rfl ?_)
          intro b18 hb18
          refine J.op rfl (op_store 0 rfl rfl rfl rfl rfl rfl Tryz.sizeOf28 rfl rfl (LSpl.c (LSpl.c (LSpl.c (LSpl.c (LSpl.c LSpl.z))))) LSet.z ?_)
          refine J.nil ?_
          refine Ej.seq ?_
          refine Cj.region ?_
          refine J.y (yl_move rfl rfl) rfl rfl rfl ?_
          refine J.y (yl_loadAgg rfl rfl Tryz.isAgg28 Tryz.sizeOf28 (Blk.at 2 rfl) rfl rfl) rfl rfl rfl ?_
          refine J.y (yl_loadAgg rfl rfl Tryz.isAgg28 Tryz.sizeOf28 (Blk.at 0 rfl) rfl rfl) rfl rfl rfl ?_
          refine J.op rfl (op_buildSlice rfl rfl rfl Tryz.underlying26 Tryz.sizeOf28 Tryz.zeroValue28 rfl rfl rfl rfl (LCat.agg rfl (LCat.agg rfl LCat.none)) ?_)
          intro b19 hb19
          refine J.persist hb19 (fun I21 hle20 hb19i => ?_)
          have hbt := hle20 _ _ hbt
          have hpre := hpre.mono hle20
          have hps := hps.mono hle20
          refine J.y (yl_buildS (pl := #[(0, 1), (1, 1), (2, 1), (3, 1), (4, 1)]) rfl rfl Tryz.zeroValue28 rfl Tryz.underlying28 (fun w => by simp [Tryz.sizeOf26, Tryz.sizeOf3, Tryz.sizeOf9]) (LBld.part rfl rfl rfl (LSpl.c LSpl.z) (LBld.part rfl rfl rfl (LSpl.s (LSpl.s (LSpl.s (LSpl.s (LSpl.c LSpl.z))))) LBld.none))) rfl rfl rfl ?_
          refine J.op rfl (op_store 2 rfl rfl rfl rfl rfl rfl Tryz.sizeOf28 rfl rfl (LSpl.c (LSpl.c (LSpl.c (LSpl.c (LSpl.c LSpl.z))))) (LSet.s (LSet.s LSet.z)) ?_)
          refine J.nil ?_
          refine Ej.blkNormal ?_
          refine Ej.keep (Keeps.d (Keeps.k (Keeps.k (Keeps.k Keeps.n)))) ?_
          refine Ej.pull (Pull.s (Pull.s Pull.z)) ?_
          refine Ej.pull (Pull.s Pull.z) ?_
          refine Ej.pull (Pull.s (Pull.s Pull.z)) ?_
          refine Ej.round ⟨0, Cq.two (Cq.operator t) q q2, some ⟨b19, 0, none⟩, 2, k2, deep2, pe, ee, _⟩ (.inr ⟨hne, by rw [heq]; simp only [Cq.more, hop, if_false, hq]⟩) (by have h1 := drop_lt hdr; simp [hne]; omega) ⟨rfl, rfl, rfl, trivial⟩ rfl rfl
      ·
        have hc8p := of_decide_eq_false hc8
        have hop : Cq.operator t = 0 := by have := of_decide_eq_false hc8; omega
        refine Cj.exit ?_
        refine Ej.seqExit ?_
        refine Ej.loopExit ?_
        refine Ej.blkExit ?_
        refine Ej.seq ?_
        refine Cj.seq ?_
        refine Cj.region ?_
        refine J.y (yl_loadAgg rfl rfl Tryz.isAgg28 Tryz.sizeOf28 (Blk.at 0 rfl) rfl rfl) rfl rfl rfl ?_
        refine J.op rfl (op_store 2 rfl rfl rfl rfl rfl rfl Tryz.sizeOf28 rfl rfl (LSpl.c (LSpl.c (LSpl.c (LSpl.c (LSpl.c LSpl.z))))) (LSet.s (LSet.s LSet.z)) ?_)
        refine J.nil ?_
        refine Ej.seq ?_
        refine Cj.ret ?_
        refine Ej.retCellK (Keeps.d (Keeps.k (Keeps.d Keeps.n))) rfl rfl rfl (Blk.at 2 rfl) Tryz.isAgg28 Tryz.sizeOf28 rfl ?_
        show ROut pb bt ct all deep (Cq.query (f + 1) deep ts) _ _ _
        rw [heq]
        simp only [Cq.more, hop, if_true]
        exact ⟨_, k', rfl, ⟨p, c, rfl, hps⟩, rfl, hdr⟩
    ·
      dsimp only at hne heq
      refine Cj.seq ?_
      refine Cj.seq ?_
      refine Cj.drawSel [0, 1, 2] [] 19 (by kernel_rfl) ?_
      have hbt_2 := hbt
      refine JA.take 0 rfl rfl (by kernel_rfl) (by kernel_rfl) (by kernel_rfl) (fun _ _ _ h => h) rfl rfl rfl (HSub.c 0 rfl (HSub.c 1 rfl (HSub.c 2 rfl HSub.n))) CSub.n (Le.refl _) (yl_move rfl rfl) ?_
      refine JA.take 1 rfl rfl (by kernel_rfl) (by kernel_rfl) (by kernel_rfl) (fun _ _ _ h => h) rfl rfl rfl (HSub.c 0 rfl (HSub.c 1 rfl (HSub.c 2 rfl HSub.n))) CSub.n (Le.refl _) (yl_nilCheck rfl rfl) ?_
      refine JA.take 2 rfl rfl (by kernel_rfl) (by kernel_rfl) (by kernel_rfl) (fun _ _ _ h => h) rfl rfl rfl (HSub.c 0 rfl (HSub.c 1 rfl (HSub.c 2 rfl HSub.n))) CSub.n (Le.refl _) (yl_fieldAddr (off' := 4) rfl rfl Tryz.underlying88 rfl Tryz.sizeOf32 rfl) ?_
      refine JA.take 3 rfl rfl (by kernel_rfl) (by kernel_rfl) (by kernel_rfl) (fun _ _ _ h => h) rfl rfl rfl (HSub.c 0 rfl (HSub.c 1 rfl (HSub.c 2 rfl HSub.n))) CSub.n (Le.refl _) (yl_load rfl rfl Tryz.isAgg32 (Blk.atC 1 rfl) rfl) ?_
      refine JA.take 4 rfl rfl (by kernel_rfl) (by kernel_rfl) (by kernel_rfl) (fun _ _ _ h => h) rfl rfl rfl (HSub.c 0 rfl (HSub.c 1 rfl (HSub.c 2 rfl HSub.n))) CSub.n (Le.refl _) (yl_eql rfl rfl rfl) ?_
      refine JA.take 5 rfl rfl (by kernel_rfl) (by kernel_rfl) (by kernel_rfl) (fun _ _ _ h => h) rfl rfl rfl (HSub.c 0 rfl (HSub.c 1 rfl (HSub.c 2 rfl HSub.n))) CSub.n (Le.refl _) (yl_move rfl rfl) ?_
      refine JA.takeS 6 5 13 true _ rfl rfl (by kernel_rfl) (by kernel_rfl) (by kernel_rfl) (fun _ _ _ h => h) rfl rfl rfl (.inl (congrArg Value.bool (show ((e : Int) == 0) = false by simpa using hne))) rfl rfl (HSub.c 0 rfl (HSub.c 1 rfl (HSub.c 2 rfl HSub.n))) CSub.n (Le.refl _) ?_
      refine JA.takeS 7 5 13 true _ rfl rfl (by kernel_rfl) (by kernel_rfl) (by kernel_rfl) (fun _ _ _ h => h) rfl rfl rfl (.inl (congrArg Value.bool (show ((e : Int) == 0) = false by simpa using hne))) rfl rfl (HSub.c 0 rfl (HSub.c 1 rfl (HSub.c 2 rfl HSub.n))) CSub.n (Le.refl _) ?_
      refine JA.takeS 8 5 13 true _ rfl rfl (by kernel_rfl) (by kernel_rfl) (by kernel_rfl) (fun _ _ _ h => h) rfl rfl rfl (.inl (congrArg Value.bool (show ((e : Int) == 0) = false by simpa using hne))) rfl rfl (HSub.c 0 rfl (HSub.c 1 rfl (HSub.c 2 rfl HSub.n))) CSub.n (Le.refl _) ?_
      refine JA.takeS 9 5 13 true _ rfl rfl (by kernel_rfl) (by kernel_rfl) (by kernel_rfl) (fun _ _ _ h => h) rfl rfl rfl (.inl (congrArg Value.bool (show ((e : Int) == 0) = false by simpa using hne))) rfl rfl (HSub.c 0 rfl (HSub.c 1 rfl (HSub.c 2 rfl HSub.n))) CSub.n (Le.refl _) ?_
      refine JA.takeS 10 5 13 true _ rfl rfl (by kernel_rfl) (by kernel_rfl) (by kernel_rfl) (fun _ _ _ h => h) rfl rfl rfl (.inl (congrArg Value.bool (show ((e : Int) == 0) = false by simpa using hne))) rfl rfl (HSub.c 0 rfl (HSub.c 1 rfl (HSub.c 2 rfl HSub.n))) CSub.n (Le.refl _) ?_
      refine JA.takeS 11 5 13 true _ rfl rfl (by kernel_rfl) (by kernel_rfl) (by kernel_rfl) (fun _ _ _ h => h) rfl rfl rfl (.inl (congrArg Value.bool (show ((e : Int) == 0) = false by simpa using hne))) rfl rfl (HSub.c 0 rfl (HSub.c 1 rfl (HSub.c 2 rfl HSub.n))) CSub.n (Le.refl _) ?_
      refine JA.takeS 12 5 13 true _ rfl rfl (by kernel_rfl) (by kernel_rfl) (by kernel_rfl) (fun _ _ _ h => h) rfl rfl rfl (.inl (congrArg Value.bool (show ((e : Int) == 0) = false by simpa using hne))) rfl rfl (HSub.c 0 rfl (HSub.c 1 rfl (HSub.c 2 rfl HSub.n))) CSub.n (Le.refl _) ?_
      refine JA.takeS 13 5 13 true _ rfl rfl (by kernel_rfl) (by kernel_rfl) (by kernel_rfl) (fun _ _ _ h => h) rfl rfl rfl (.inl (congrArg Value.bool (show ((e : Int) == 0) = false by simpa using hne))) rfl rfl (HSub.c 0 rfl (HSub.c 1 rfl (HSub.c 2 rfl HSub.n))) CSub.n (Le.refl _) ?_
      refine JA.takeS 14 5 13 true _ rfl rfl (by kernel_rfl) (by kernel_rfl) (by kernel_rfl) (fun _ _ _ h => h) rfl rfl rfl (.inl (congrArg Value.bool (show ((e : Int) == 0) = false by simpa using hne))) rfl rfl (HSub.c 0 rfl (HSub.c 1 rfl (HSub.c 2 rfl HSub.n))) CSub.n (Le.refl _) ?_
      refine JA.takeS 15 5 13 true _ rfl rfl (by kernel_rfl) (by kernel_rfl) (by kernel_rfl) (fun _ _ _ h => h) rfl rfl rfl (.inl (congrArg Value.bool (show ((e : Int) == 0) = false by simpa using hne))) rfl rfl (HSub.c 0 rfl (HSub.c 1 rfl (HSub.c 2 rfl HSub.n))) CSub.n (Le.refl _) ?_
      refine JA.takeS 16 5 13 true _ rfl rfl (by kernel_rfl) (by kernel_rfl) (by kernel_rfl) (fun _ _ _ h => h) rfl rfl rfl (.inl (congrArg Value.bool (show ((e : Int) == 0) = false by simpa using hne))) rfl rfl (HSub.c 0 rfl (HSub.c 1 rfl (HSub.c 2 rfl HSub.n))) CSub.n (Le.refl _) ?_
      refine JA.takeS 17 5 13 true _ rfl rfl (by kernel_rfl) (by kernel_rfl) (by kernel_rfl) (fun _ _ _ h => h) rfl rfl rfl (.inl (congrArg Value.bool (show ((e : Int) == 0) = false by simpa using hne))) rfl rfl (HSub.c 0 rfl (HSub.c 1 rfl (HSub.c 2 rfl HSub.n))) CSub.n (Le.refl _) ?_
      refine JA.take 18 rfl rfl (by kernel_rfl) (by kernel_rfl) (by kernel_rfl) (fun _ _ _ h => h) rfl rfl rfl (HSub.c 0 rfl (HSub.c 1 rfl (HSub.c 2 rfl HSub.n))) CSub.n (Le.refl _) (yl_pick0 rfl rfl (show ((e : Int) == 0) = false by simpa using hne) rfl) ?_
      refine JA.done (by kernel_rfl) ?_
      refine Ej.seq ?_
      refine Cj.cond rfl (fun hc22 => Bool.noConfusion (Eq.trans (Eq.symm rfl) hc22)) (fun hc22 => ?_)
      refine Cj.exit ?_
      refine Ej.seqExit ?_
      refine Ej.loopExit ?_
      refine Ej.blkExit ?_
      refine Ej.seq ?_
      refine Cj.seq ?_
      refine Cj.region ?_
      refine J.y (yl_loadAgg rfl rfl Tryz.isAgg28 Tryz.sizeOf28 (Blk.at 0 rfl) rfl rfl) rfl rfl rfl ?_
      refine J.op rfl (op_store 2 rfl rfl rfl rfl rfl rfl Tryz.sizeOf28 rfl rfl (LSpl.c (LSpl.c (LSpl.c (LSpl.c (LSpl.c LSpl.z))))) (LSet.s (LSet.s LSet.z)) ?_)
      refine J.nil ?_
      refine Ej.seq ?_
      refine Cj.ret ?_
      refine Ej.retCellK (Keeps.d (Keeps.k (Keeps.d Keeps.n))) rfl rfl rfl (Blk.at 2 rfl) Tryz.isAgg28 Tryz.sizeOf28 rfl ?_
      show ROut pb bt ct all deep (Cq.query (f + 1) deep ts) _ _ _
      rw [heq]
      exact ⟨q, p, c, k', dp, rfl, rfl, hne⟩
  ·
    rw [hq] at hp6
    obtain ⟨q2, pq, cq, k2, deep2, h1, rfl, hne⟩ := hp6
    cases h1
    refine J.op rfl (op_alloc rfl rfl rfl Tryz.zeroValue28 rfl ?_)
    intro b23 hb23
    refine J.op rfl (op_store 0 rfl rfl rfl rfl rfl rfl Tryz.sizeOf28 rfl rfl (LSpl.c (LSpl.c (LSpl.c (LSpl.c (LSpl.c LSpl.z))))) LSet.z ?_)
    refine J.nil ?_
    refine Ej.seq ?_
    refine Cj.seq ?_
    refine Cj.block ?_
    refine Cj.loop (ι := QSt) (fun j => QPre bt all spt f deep ts j) (fun j => if j.e = 0 then all.length + 1 - j.k else 0) (fun j => [(0, ptr pb 0), (2, ptr b1 0), (3, ptr b23 0)]) (fun j => j.I) (fun j => [(b23, cel 28 (qCells j.q j.p j.c)), (pb, cel 88 [.slice (some ⟨bt, 0, none⟩) all.length ct, i64 j.k, i64 j.dp, i64 j.a, i64 j.e]), (b1, cel 28 (qCells Cq.zero none 0))]) ⟨f, q2, pq, cq, k2, deep2, pe, ee, _⟩ (.inr ⟨hne, by simp only [Cq.query, hq]⟩) ⟨rfl, rfl, rfl, trivial⟩ rfl rfl ?_
    rintro ⟨f', q, p, c, k', dp, a, e, I1⟩ hj
    dsimp only at hj ⊢
    rcases hj with ⟨he, ha, hdp, heq, hpre, hps, hf', hff⟩ | ⟨hne, heq⟩
    ·
      dsimp only at he ha hdp heq hpre hps hf' hff
      subst he; subst ha; subst hdp
      obtain ⟨t, r, hdr⟩ := hpre.good.ne
      rw [hdr] at hpre heq hf'
      obtain ⟨g, rfl⟩ : ∃ g, f' = g + 1 := ⟨f' - 1, by simp at hf'; omega⟩
      have hbt := hpre.blk; have hlt := drop_lt hdr; have htx := hpre.tx; have hal := hpre.len
      refine Cj.seq ?_
      refine Cj.seq ?_
      refine Cj.drawSel [0, 1, 2] [] 19 (by kernel_rfl) ?_
      have hbt_2 := hbt
      refine JA.take 0 rfl rfl (by kernel_rfl) (by kernel_rfl) (by kernel_rfl) (fun _ _ _ h => h) rfl rfl rfl (HSub.c 0 rfl (HSub.c 1 rfl (HSub.c 2 rfl HSub.n))) CSub.n (Le.refl _) (yl_move rfl rfl) ?_
      refine JA.take 1 rfl rfl (by kernel_rfl) (by kernel_rfl) (by kernel_rfl) (fun _ _ _ h => h) rfl rfl rfl (HSub.c 0 rfl (HSub.c 1 rfl (HSub.c 2 rfl HSub.n))) CSub.n (Le.refl _) (yl_nilCheck rfl rfl) ?_
      refine JA.take 2 rfl rfl (by kernel_rfl) (by kernel_rfl) (by kernel_rfl) (fun _ _ _ h => h) rfl rfl rfl (HSub.c 0 rfl (HSub.c 1 rfl (HSub.c 2 rfl HSub.n))) CSub.n (Le.refl _) (yl_fieldAddr (off' := 4) rfl rfl Tryz.underlying88 rfl Tryz.sizeOf32 rfl) ?_
      refine JA.take 3 rfl rfl (by kernel_rfl) (by kernel_rfl) (by kernel_rfl) (fun _ _ _ h => h) rfl rfl rfl (HSub.c 0 rfl (HSub.c 1 rfl (HSub.c 2 rfl HSub.n))) CSub.n (Le.refl _) (yl_load rfl rfl Tryz.isAgg32 (Blk.atC 1 rfl) rfl) ?_
      refine JA.take 4 rfl rfl (by kernel_rfl) (by kernel_rfl) (by kernel_rfl) (fun _ _ _ h => h) rfl rfl rfl (HSub.c 0 rfl (HSub.c 1 rfl (HSub.c 2 rfl HSub.n))) CSub.n (Le.refl _) (yl_eql rfl rfl rfl) ?_
      refine JA.take 5 rfl rfl (by kernel_rfl) (by kernel_rfl) (by kernel_rfl) (fun _ _ _ h => h) rfl rfl rfl (HSub.c 0 rfl (HSub.c 1 rfl (HSub.c 2 rfl HSub.n))) CSub.n (Le.refl _) (yl_move rfl rfl) ?_
      refine JA.takeG 6 5 13 true _ rfl rfl (by kernel_rfl) (by kernel_rfl) (by kernel_rfl) (fun _ _ _ h => h) rfl rfl rfl rfl rfl rfl (HSub.c 0 rfl (HSub.c 1 rfl (HSub.c 2 rfl HSub.n))) CSub.n (Le.refl _) (yl_move rfl rfl) ?_
      refine JA.takeG 7 5 13 true _ rfl rfl (by kernel_rfl) (by kernel_rfl) (by kernel_rfl) (fun _ _ _ h => h) rfl rfl rfl rfl rfl rfl (HSub.c 0 rfl (HSub.c 1 rfl (HSub.c 2 rfl HSub.n))) CSub.n (Le.refl _) (yl_nilCheck rfl rfl) ?_
      refine JA.takeG 8 5 13 true _ rfl rfl (by kernel_rfl) (by kernel_rfl) (by kernel_rfl) (fun _ _ _ h => h) rfl rfl rfl rfl rfl rfl (HSub.c 0 rfl (HSub.c 1 rfl (HSub.c 2 rfl HSub.n))) CSub.n (Le.refl _) (yl_fieldAddr (off' := 0) rfl rfl Tryz.underlying88 rfl Tryz.sizeOf47 rfl) ?_
      refine JA.takeG 9 5 13 true _ rfl rfl (by kernel_rfl) (by kernel_rfl) (by kernel_rfl) (fun _ _ _ h => h) rfl rfl rfl rfl rfl rfl (HSub.c 0 rfl (HSub.c 1 rfl (HSub.c 2 rfl HSub.n))) CSub.n (Le.refl _) (yl_load rfl rfl Tryz.isAgg47 (Blk.atC 1 rfl) rfl) ?_
      refine JA.takeG 10 5 13 true _ rfl rfl (by kernel_rfl) (by kernel_rfl) (by kernel_rfl) (fun _ _ _ h => h) rfl rfl rfl rfl rfl rfl (HSub.c 0 rfl (HSub.c 1 rfl (HSub.c 2 rfl HSub.n))) CSub.n (Le.refl _) (yl_move rfl rfl) ?_
      refine JA.takeG 11 5 13 true _ rfl rfl (by kernel_rfl) (by kernel_rfl) (by kernel_rfl) (fun _ _ _ h => h) rfl rfl rfl rfl rfl rfl (HSub.c 0 rfl (HSub.c 1 rfl (HSub.c 2 rfl HSub.n))) CSub.n (Le.refl _) (yl_nilCheck rfl rfl) ?_
      refine JA.takeG 12 5 13 true _ rfl rfl (by kernel_rfl) (by kernel_rfl) (by kernel_rfl) (fun _ _ _ h => h) rfl rfl rfl rfl rfl rfl (HSub.c 0 rfl (HSub.c 1 rfl (HSub.c 2 rfl HSub.n))) CSub.n (Le.refl _) (yl_fieldAddr (off' := 1) rfl rfl Tryz.underlying88 rfl Tryz.sizeOf3 rfl) ?_
      refine JA.takeG 13 5 13 true _ rfl rfl (by kernel_rfl) (by kernel_rfl) (by kernel_rfl) (fun _ _ _ h => h) rfl rfl rfl rfl rfl rfl (HSub.c 0 rfl (HSub.c 1 rfl (HSub.c 2 rfl HSub.n))) CSub.n (Le.refl _) (yl_load rfl rfl Tryz.isAgg3 (Blk.atC 1 rfl) rfl) ?_
      refine JA.takeG 14 5 13 true _ rfl rfl (by kernel_rfl) (by kernel_rfl) (by kernel_rfl) (fun _ _ _ h => h) rfl rfl rfl rfl rfl rfl (HSub.c 0 rfl (HSub.c 1 rfl (HSub.c 2 rfl HSub.n))) CSub.n (Le.refl _) (yl_indexAddr (off' := k' * 3) rfl rfl rfl Tryz.underlying47 Tryz.sizeOf50 (by omega) (by omega) (by simp)) ?_
      refine JA.takeG 15 5 13 true _ rfl rfl (by kernel_rfl) (by kernel_rfl) (by kernel_rfl) (fun _ _ _ h => h) rfl rfl rfl rfl rfl rfl (HSub.c 0 rfl (HSub.c 1 rfl (HSub.c 2 rfl HSub.n))) CSub.n (Le.refl _) (yl_loadAgg rfl rfl Tryz.isAgg50 Tryz.sizeOf50 (Blk.immC hbt_2) (tok_at hdr) rfl) ?_
      refine JA.stepG 16 5 13 true _ (by kernel_rfl) rfl rfl rfl rfl rfl (op_pure rfl rfl rfl rfl rfl (operator_ok _ (by omega) _) ?_)
      refine ⟨⟨(Le.refl _), (HSub.c 0 rfl (HSub.c 1 rfl (HSub.c 2 rfl HSub.n))), CSub.n⟩, ?_⟩
      refine JA.takeG 17 5 13 true _ rfl rfl (by kernel_rfl) (by kernel_rfl) (by kernel_rfl) (fun _ _ _ h => h) rfl rfl rfl rfl rfl rfl (HSub.c 0 rfl (HSub.c 1 rfl (HSub.c 2 rfl HSub.n))) CSub.n (Le.refl _) (yl_gtr rfl rfl rfl) ?_
      refine JA.take 18 rfl rfl (by kernel_rfl) (by kernel_rfl) (by kernel_rfl) (fun _ _ _ h => h) rfl rfl rfl (HSub.c 0 rfl (HSub.c 1 rfl (HSub.c 2 rfl HSub.n))) CSub.n (Le.refl _) (yl_pick1 rfl rfl rfl rfl) ?_
      refine JA.done (by kernel_rfl) ?_
      refine Ej.seq ?_
      refine Cj.cond rfl (fun hc24 => ?_) (fun hc24 => ?_)
      ·
        have hc24p := of_decide_eq_true hc24
        have hop : Cq.operator t ≠ 0 := by have := of_decide_eq_true hc24; omega
        refine Cj.skip ?_
        refine Ej.seq ?_
        refine Cj.block ?_
        refine Cj.seq ?_
        refine Cj.drawSel [0, 1, 2] [] 12 (by kernel_rfl) ?_
        have hbt_3 := hbt
        refine JA.take 0 rfl rfl (by kernel_rfl) (by kernel_rfl) (by kernel_rfl) (fun _ _ _ h => h) rfl rfl rfl (HSub.c 0 rfl (HSub.c 1 rfl (HSub.c 2 rfl HSub.n))) CSub.n (Le.refl _) (yl_move rfl rfl) ?_
        refine JA.take 1 rfl rfl (by kernel_rfl) (by kernel_rfl) (by kernel_rfl) (fun _ _ _ h => h) rfl rfl rfl (HSub.c 0 rfl (HSub.c 1 rfl (HSub.c 2 rfl HSub.n))) CSub.n (Le.refl _) (yl_nilCheck rfl rfl) ?_
        refine JA.take 2 rfl rfl (by kernel_rfl) (by kernel_rfl) (by kernel_rfl) (fun _ _ _ h => h) rfl rfl rfl (HSub.c 0 rfl (HSub.c 1 rfl (HSub.c 2 rfl HSub.n))) CSub.n (Le.refl _) (yl_fieldAddr (off' := 0) rfl rfl Tryz.underlying88 rfl Tryz.sizeOf47 rfl) ?_
        refine JA.take 3 rfl rfl (by kernel_rfl) (by kernel_rfl) (by kernel_rfl) (fun _ _ _ h => h) rfl rfl rfl (HSub.c 0 rfl (HSub.c 1 rfl (HSub.c 2 rfl HSub.n))) CSub.n (Le.refl _) (yl_load rfl rfl Tryz.isAgg47 (Blk.atC 1 rfl) rfl) ?_
        refine JA.take 4 rfl rfl (by kernel_rfl) (by kernel_rfl) (by kernel_rfl) (fun _ _ _ h => h) rfl rfl rfl (HSub.c 0 rfl (HSub.c 1 rfl (HSub.c 2 rfl HSub.n))) CSub.n (Le.refl _) (yl_move rfl rfl) ?_
        refine JA.take 5 rfl rfl (by kernel_rfl) (by kernel_rfl) (by kernel_rfl) (fun _ _ _ h => h) rfl rfl rfl (HSub.c 0 rfl (HSub.c 1 rfl (HSub.c 2 rfl HSub.n))) CSub.n (Le.refl _) (yl_nilCheck rfl rfl) ?_
        refine JA.take 6 rfl rfl (by kernel_rfl) (by kernel_rfl) (by kernel_rfl) (fun _ _ _ h => h) rfl rfl rfl (HSub.c 0 rfl (HSub.c 1 rfl (HSub.c 2 rfl HSub.n))) CSub.n (Le.refl _) (yl_fieldAddr (off' := 1) rfl rfl Tryz.underlying88 rfl Tryz.sizeOf3 rfl) ?_
        refine JA.take 7 rfl rfl (by kernel_rfl) (by kernel_rfl) (by kernel_rfl) (fun _ _ _ h => h) rfl rfl rfl (HSub.c 0 rfl (HSub.c 1 rfl (HSub.c 2 rfl HSub.n))) CSub.n (Le.refl _) (yl_load rfl rfl Tryz.isAgg3 (Blk.atC 1 rfl) rfl) ?_
        refine JA.take 8 rfl rfl (by kernel_rfl) (by kernel_rfl) (by kernel_rfl) (fun _ _ _ h => h) rfl rfl rfl (HSub.c 0 rfl (HSub.c 1 rfl (HSub.c 2 rfl HSub.n))) CSub.n (Le.refl _) (yl_indexAddr (off' := k' * 3) rfl rfl rfl Tryz.underlying47 Tryz.sizeOf50 (by omega) (by omega) (by simp)) ?_
        refine JA.take 9 rfl rfl (by kernel_rfl) (by kernel_rfl) (by kernel_rfl) (fun _ _ _ h => h) rfl rfl rfl (HSub.c 0 rfl (HSub.c 1 rfl (HSub.c 2 rfl HSub.n))) CSub.n (Le.refl _) (yl_loadAgg rfl rfl Tryz.isAgg50 Tryz.sizeOf50 (Blk.immC hbt_3) (tok_at hdr) rfl) ?_
        refine JA.step 10 (by kernel_rfl) rfl rfl (op_pure rfl rfl rfl rfl rfl (operator_ok _ (by omega) _) ?_)
        refine ⟨⟨(Le.refl _), (HSub.c 0 rfl (HSub.c 1 rfl (HSub.c 2 rfl HSub.n))), CSub.n⟩, ?_⟩
        refine JA.take 11 rfl rfl (by kernel_rfl) (by kernel_rfl) (by kernel_rfl) (fun _ _ _ h => h) rfl rfl rfl (HSub.c 0 rfl (HSub.c 1 rfl (HSub.c 2 rfl HSub.n))) CSub.n (Le.refl _) (yl_assign rfl rfl) ?_
        refine JA.done (by kernel_rfl) ?_
        refine Ej.seq ?_
        refine Cj.seq ?_
        refine Cj.region ?_
        refine J.y (yl_move rfl rfl) rfl rfl rfl ?_
        refine J.y (yl_nilCheck rfl rfl) rfl rfl rfl ?_
        refine J.y (yl_fieldAddr (off' := 1) rfl rfl Tryz.underlying88 rfl Tryz.sizeOf3 rfl) rfl rfl rfl ?_
        refine J.y (yl_load rfl rfl Tryz.isAgg3 (Blk.at 1 rfl) rfl) rfl rfl rfl ?_
        refine J.y (yl_add rfl rfl rfl (w64 (by omega))) rfl rfl rfl ?_
        refine J.y (yl_nilCheck rfl rfl) rfl rfl rfl ?_
        refine J.y (yl_fieldAddr (off' := 1) rfl rfl Tryz.underlying88 rfl Tryz.sizeOf3 rfl) rfl rfl rfl ?_
        refine J.op rfl (op_store 1 rfl rfl rfl rfl rfl rfl Tryz.sizeOf3 rfl rfl (LSpl.s (LSpl.c LSpl.z)) (LSet.s LSet.z) ?_)
        refine J.nil ?_
        refine Ej.seq ?_
        refine Cj.seq ?_
        refine Cj.region ?_
        refine J.y (yl_move rfl rfl) rfl rfl rfl ?_
        refine J.pull (Pull.s Pull.z) ?_
        refine J.op rfl (op_call (H1 := [_]) rfl rfl rfl rfl rfl (ih g (by omega) pb bt ct (k' + 1) deep all spt r _ (hpre.to (drop_next hdr) (hpre.good.cons (Cq.over_op hop))) (by simp at hf'; omega) hd) ?_ (fun _ _ _ _ h => by obtain ⟨_, h⟩ := h.ret; cases h) (fun _ _ h => by obtain ⟨_, h⟩ := h.ret; cases h))
        intro v25 I26 H27 hle28 hp29
        have hbt := hle28 _ _ hbt
        have hpre := hpre.mono hle28
        have hps := hps.mono hle28
        have hless := (Cq.less g).1 deep r (hpre.good.cons (Cq.over_op hop))
        rcases hq : Cq.clause g deep r with ⟨q2, ts2⟩ | ⟨pe, ee⟩
        ·
          rw [hq] at hp29 hless
          obtain ⟨vq, k2, h1, ⟨pq, cq, rfl, hps2⟩, rfl, hdr2⟩ := hp29
          cases h1
          obtain ⟨hg2, hlen2⟩ := hless
          have hpre2 := hpre.to hdr2 hg2
          have hkk := congrArg List.length hdr2
          rw [List.length_drop] at hkk
          refine J.op rfl (op_alloc rfl rfl rfl Tryz.zeroValue28 rfl ?_)
          intro b30 hb30
          refine J.op rfl (op_store 0 rfl rfl rfl rfl rfl rfl Tryz.sizeOf28 rfl rfl (LSpl.c (LSpl.c (LSpl.c (LSpl.c (LSpl.c LSpl.z))))) LSet.z ?_)
          refine J.nil ?_
          refine Ej.seq ?_
          refine Cj.region ?_
          refine J.y (yl_move rfl rfl) rfl rfl rfl ?_
          refine J.y (yl_loadAgg rfl rfl Tryz.isAgg28 Tryz.sizeOf28 (Blk.at 2 rfl) rfl rfl) rfl rfl rfl ?_
          refine J.y (yl_loadAgg rfl rfl Tryz.isAgg28 Tryz.sizeOf28 (Blk.at 0 rfl) rfl rfl) rfl rfl rfl ?_
          refine J.op rfl (op_buildSlice rfl rfl rfl Tryz.underlying26 Tryz.sizeOf28 Tryz.zeroValue28 rfl rfl rfl rfl (LCat.agg rfl (LCat.agg rfl LCat.none)) ?_)
          intro b31 hb31
          refine J.persist hb31 (fun I33 hle32 hb31i => ?_)
          have hbt := hle32 _ _ hbt
          have hpre := hpre.mono hle32
          have hps := hps.mono hle32
          have hps2 := hps2.mono hle32
          have hpre2 := hpre2.mono hle32
          refine J.y (yl_buildS (pl := #[(0, 1), (1, 1), (2, 1), (3, 1), (4, 1)]) rfl rfl Tryz.zeroValue28 rfl Tryz.underlying28 (fun w => by simp [Tryz.sizeOf26, Tryz.sizeOf3, Tryz.sizeOf9]) (LBld.part rfl rfl rfl (LSpl.c LSpl.z) (LBld.part rfl rfl rfl (LSpl.s (LSpl.s (LSpl.s (LSpl.s (LSpl.c LSpl.z))))) LBld.none))) rfl rfl rfl ?_
          refine J.op rfl (op_store 2 rfl rfl rfl rfl rfl rfl Tryz.sizeOf28 rfl rfl (LSpl.c (LSpl.c (LSpl.c (LSpl.c (LSpl.c LSpl.z))))) (LSet.s (LSet.s LSet.z)) ?_)
          refine J.nil ?_
          refine Ej.blkNormal ?_
          refine Ej.keep (Keeps.d (Keeps.k (Keeps.k (Keeps.k Keeps.n)))) ?_
          refine Ej.pull (Pull.s (Pull.s Pull.z)) ?_
          refine Ej.pull (Pull.s Pull.z) ?_
          refine Ej.pull (Pull.s (Pull.s Pull.z)) ?_
          refine Ej.round ⟨g, Cq.two (Cq.operator t) q q2, some ⟨b31, 0, none⟩, 2, k2, deep, 0, 0, _⟩ (.inl ⟨rfl, rfl, rfl, by rw [heq]; simp only [Cq.more, hop, if_false, hq, hdr2], hdr2 ▸ hpre2, PS.two hps hps2 hb31i, by dsimp only; rw [hdr2]; simp at hf' hlen2; omega, by dsimp only; omega⟩) (by have h1 := drop_lt hdr; have h2 := congrArg List.length hdr; rw [List.length_drop] at h2; simp at h2 hkk ⊢; omega) ⟨rfl, rfl, rfl, trivial⟩ rfl rfl
        ·
          rw [hq] at hp29
          obtain ⟨q2, pq, cq, k2, deep2, h1, rfl, hne⟩ := hp29
          cases h1
          refine J.op rfl (op_alloc rfl rfl rfl Tryz.zeroValue28 rfl ?_)
          intro b34 hb34
          refine J.op rfl (op_store 0 rfl rfl rfl rfl rfl rfl Tryz.sizeOf28 rfl rfl (LSpl.c (LSpl.c (LSpl.c (LSpl.c (LSpl.c LSpl.z))))) LSet.z ?_)
          refine J.nil ?_
          refine Ej.seq ?_
          refine Cj.region ?_
          refine J.y (yl_move rfl rfl) rfl rfl rfl ?_
          refine J.y (yl_loadAgg rfl rfl Tryz.isAgg28 Tryz.sizeOf28 (Blk.at 2 rfl) rfl rfl) rfl rfl rfl ?_
          refine J.y (yl_loadAgg rfl rfl Tryz.isAgg28 Tryz.sizeOf28 (Blk.at 0 rfl) rfl rfl) rfl rfl rfl ?_
          refine J.op rfl (op_buildSlice rfl rfl rfl Tryz.underlying26 Tryz.sizeOf28 Tryz.zeroValue28 rfl rfl rfl rfl (LCat.agg rfl (LCat.agg rfl LCat.none)) ?_)
          intro b35 hb35
          refine J.persist hb35 (fun I37 hle36 hb35i => ?_)
          have hbt := hle36 _ _ hbt
          have hpre := hpre.mono hle36
          have hps := hps.mono hle36
          refine J.y (yl_buildS (pl := #[(0, 1), (1, 1), (2, 1), (3, 1), (4, 1)]) rfl rfl Tryz.zeroValue28 rfl Tryz.underlying28 (fun w => by simp [Tryz.sizeOf26, Tryz.sizeOf3, Tryz.sizeOf9]) (LBld.part rfl rfl rfl (LSpl.c LSpl.z) (LBld.part rfl rfl rfl (LSpl.s (LSpl.s (LSpl.s (LSpl.s (LSpl.c LSpl.z))))) LBld.none))) rfl rfl rfl ?_
          refine J.op rfl (op_store 2 rfl rfl rfl rfl rfl rfl Tryz.sizeOf28 rfl rfl (LSpl.c (LSpl.c (LSpl.c (LSpl.c (LSpl.c LSpl.z))))) (LSet.s (LSet.s LSet.z)) ?_)
          refine J.nil ?_
          refine Ej.blkNormal ?_
          refine Ej.keep (Keeps.d (Keeps.k (Keeps.k (Keeps.k Keeps.n)))) ?_
          refine Ej.pull (Pull.s (Pull.s Pull.z)) ?_
          refine Ej.pull (Pull.s Pull.z) ?_
          refine Ej.pull (Pull.s (Pull.s Pull.z)) ?_
          refine Ej.round ⟨0, Cq.two (Cq.operator t) q q2, some ⟨b35, 0, none⟩, 2, k2, deep2, pe, ee, _⟩ (.inr ⟨hne, by rw [heq]; simp only [Cq.more, hop, if_false, hq]⟩) (by have h1 := drop_lt hdr; simp [hne]; omega) ⟨rfl, rfl, rfl, trivial⟩ rfl rfl
      ·
        have hc24p := of_decide_eq_false hc24
        have hop : Cq.operator t = 0 := by have := of_decide_eq_false hc24; omega
        refine Cj.exit ?_
        refine Ej.seqExit ?_
        refine Ej.loopExit ?_
        refine Ej.blkExit ?_
        refine Ej.seq ?_
        refine Cj.seq ?_
        refine Cj.region ?_
        refine J.y (yl_loadAgg rfl rfl Tryz.isAgg28 Tryz.sizeOf28 (Blk.at 0 rfl) rfl rfl) rfl rfl rfl ?_
        refine J.op rfl (op_store 2 rfl rfl rfl rfl rfl rfl Tryz.sizeOf28 rfl rfl (LSpl.c (LSpl.c (LSpl.c (LSpl.c (LSpl.c LSpl.z))))) (LSet.s (LSet.s LSet.z)) ?_)
        refine J.nil ?_
        refine Ej.seq ?_
        refine Cj.ret ?_
        refine Ej.retCellK (Keeps.d (Keeps.k (Keeps.d Keeps.n))) rfl rfl rfl (Blk.at 2 rfl) Tryz.isAgg28 Tryz.sizeOf28 rfl ?_
        show ROut pb bt ct all deep (Cq.query (f + 1) deep ts) _ _ _
        rw [heq]
        simp only [Cq.more, hop, if_true]
        exact ⟨_, k', rfl, ⟨p, c, rfl, hps⟩, rfl, hdr⟩
    ·
      dsimp only at hne heq
      refine Cj.seq ?_
      refine Cj.seq ?_
      refine Cj.drawSel [0, 1, 2] [] 19 (by kernel_rfl) ?_
      have hbt_2 := hbt
      refine JA.take 0 rfl rfl (by kernel_rfl) (by kernel_rfl) (by kernel_rfl) (fun _ _ _ h => h) rfl rfl rfl (HSub.c 0 rfl (HSub.c 1 rfl (HSub.c 2 rfl HSub.n))) CSub.n (Le.refl _) (yl_move rfl rfl) ?_
      refine JA.take 1 rfl rfl (by kernel_rfl) (by kernel_rfl) (by kernel_rfl) (fun _ _ _ h => h) rfl rfl rfl (HSub.c 0 rfl (HSub.c 1 rfl (HSub.c 2 rfl HSub.n))) CSub.n (Le.refl _) (yl_nilCheck rfl rfl) ?_
      refine JA.take 2 rfl rfl (by kernel_rfl) (by kernel_rfl) (by kernel_rfl) (fun _ _ _ h => h) rfl rfl rfl (HSub.c 0 rfl (HSub.c 1 rfl (HSub.c 2 rfl HSub.n))) CSub.n (Le.refl _) (yl_fieldAddr (off' := 4) rfl rfl Tryz.underlying88 rfl Tryz.sizeOf32 rfl) ?_
      refine JA.take 3 rfl rfl (by kernel_rfl) (by kernel_rfl) (by kernel_rfl) (fun _ _ _ h => h) rfl rfl rfl (HSub.c 0 rfl (HSub.c 1 rfl (HSub.c 2 rfl HSub.n))) CSub.n (Le.refl _) (yl_load rfl rfl Tryz.isAgg32 (Blk.atC 1 rfl) rfl) ?_
      refine JA.take 4 rfl rfl (by kernel_rfl) (by kernel_rfl) (by kernel_rfl) (fun _ _ _ h => h) rfl rfl rfl (HSub.c 0 rfl (HSub.c 1 rfl (HSub.c 2 rfl HSub.n))) CSub.n (Le.refl _) (yl_eql rfl rfl rfl) ?_
      refine JA.take 5 rfl rfl (by kernel_rfl) (by kernel_rfl) (by kernel_rfl) (fun _ _ _ h => h) rfl rfl rfl (HSub.c 0 rfl (HSub.c 1 rfl (HSub.c 2 rfl HSub.n))) CSub.n (Le.refl _) (yl_move rfl rfl) ?_
      refine JA.takeS 6 5 13 true _ rfl rfl (by kernel_rfl) (by kernel_rfl) (by kernel_rfl) (fun _ _ _ h => h) rfl rfl rfl (.inl (congrArg Value.bool (show ((e : Int) == 0) = false by simpa using hne))) rfl rfl (HSub.c 0 rfl (HSub.c 1 rfl (HSub.c 2 rfl HSub.n))) CSub.n (Le.refl _) ?_
      refine JA.takeS 7 5 13 true _ rfl rfl (by kernel_rfl) (by kernel_rfl) (by kernel_rfl) (fun _ _ _ h => h) rfl rfl rfl (.inl (congrArg Value.bool (show ((e : Int) == 0) = false by simpa using hne))) rfl rfl (HSub.c 0 rfl (HSub.c 1 rfl (HSub.c 2 rfl HSub.n))) CSub.n (Le.refl _) ?_
      refine JA.takeS 8 5 13 true _ rfl rfl (by kernel_rfl) (by kernel_rfl) (by kernel_rfl) (fun _ _ _ h => h) rfl rfl rfl (.inl (congrArg Value.bool (show ((e : Int) == 0) = false by simpa using hne))) rfl rfl (HSub.c 0 rfl (HSub.c 1 rfl (HSub.c 2 rfl HSub.n))) CSub.n (Le.refl _) ?_
      refine JA.takeS 9 5 13 true _ rfl rfl (by kernel_rfl) (by kernel_rfl) (by kernel_rfl) (fun _ _ _ h => h) rfl rfl rfl (.inl (congrArg Value.bool (show ((e : Int) == 0) = false by simpa using hne))) rfl rfl (HSub.c 0 rfl (HSub.c 1 rfl (HSub.c 2 rfl HSub.n))) CSub.n (Le.refl _) ?_
      refine JA.takeS 10 5 13 true _ rfl rfl (by kernel_rfl) (by kernel_rfl) (by kernel_rfl) (fun _ _ _ h => h) rfl rfl rfl (.inl (congrArg Value.bool (show ((e : Int) == 0) = false by simpa using hne))) rfl rfl (HSub.c 0 rfl (HSub.c 1 rfl (HSub.c 2 rfl HSub.n))) CSub.n (Le.refl _) ?_
      refine JA.takeS 11 5 13 true _ rfl rfl (by kernel_rfl) (by kernel_rfl) (by kernel_rfl) (fun _ _ _ h => h) rfl rfl rfl (.inl (congrArg Value.bool (show ((e : Int) == 0) = false by simpa using hne))) rfl rfl (HSub.c 0 rfl (HSub.c 1 rfl (HSub.c 2 rfl HSub.n))) CSub.n (Le.refl _) ?_
      refine JA.takeS 12 5 13 true _ rfl rfl (by kernel_rfl) (by kernel_rfl) (by kernel_rfl) (fun _ _ _ h => h) rfl rfl rfl (.inl (congrArg Value.bool (show ((e : Int) == 0) = false by simpa using hne))) rfl rfl (HSub.c 0 rfl (HSub.c 1 rfl (HSub.c 2 rfl HSub.n))) CSub.n (Le.refl _) ?_
      refine JA.takeS 13 5 13 true _ rfl rfl (by kernel_rfl) (by kernel_rfl) (by kernel_rfl) (fun _ _ _ h => h) rfl rfl rfl (.inl (congrArg Value.bool (show ((e : Int) == 0) = false by simpa using hne))) rfl rfl (HSub.c 0 rfl (HSub.c 1 rfl (HSub.c 2 rfl HSub.n))) CSub.n (Le.refl _) ?_
      refine JA.takeS 14 5 13 true _ rfl rfl (by kernel_rfl) (by kernel_rfl) (by kernel_rfl) (fun _ _ _ h => h) rfl rfl rfl (.inl (congrArg Value.bool (show ((e : Int) == 0) = false by simpa using hne))) rfl rfl (HSub.c 0 rfl (HSub.c 1 rfl (HSub.c 2 rfl HSub.n))) CSub.n (Le.refl _) ?_
      refine JA.takeS 15 5 13 true _ rfl rfl (by kernel_rfl) (by kernel_rfl) (by kernel_rfl) (fun _ _ _ h => h) rfl rfl rfl (.inl (congrArg Value.bool (show ((e : Int) == 0) = false by simpa using hne))) rfl rfl (HSub.c 0 rfl (HSub.c 1 rfl (HSub.c 2 rfl HSub.n))) CSub.n (Le.refl _) ?_
      refine JA.takeS 16 5 13 true _ rfl rfl (by kernel_rfl) (by kernel_rfl) (by kernel_rfl) (fun _ _ _ h => h) rfl rfl rfl (.inl (congrArg Value.bool (show ((e : Int) == 0) = false by simpa using hne))) rfl rfl (HSub.c 0 rfl (HSub.c 1 rfl (HSub.c 2 rfl HSub.n))) CSub.n (Le.refl _) ?_
      refine JA.takeS 17 5 13 true _ rfl rfl (by kernel_rfl) (by kernel_rfl) (by kernel_rfl) (fun _ _ _ h => h) rfl rfl rfl (.inl (congrArg Value.bool (show ((e : Int) == 0) = false by simpa using hne))) rfl rfl (HSub.c 0 rfl (HSub.c 1 rfl (HSub.c 2 rfl HSub.n))) CSub.n (Le.refl _) ?_
      refine JA.take 18 rfl rfl (by kernel_rfl) (by kernel_rfl) (by kernel_rfl) (fun _ _ _ h => h) rfl rfl rfl (HSub.c 0 rfl (HSub.c 1 rfl (HSub.c 2 rfl HSub.n))) CSub.n (Le.refl _) (yl_pick0 rfl rfl (show ((e : Int) == 0) = false by simpa using hne) rfl) ?_
      refine JA.done (by kernel_rfl) ?_
      refine Ej.seq ?_
      refine Cj.cond rfl (fun hc38 => Bool.noConfusion (Eq.trans (Eq.symm rfl) hc38)) (fun hc38 => ?_)
      refine Cj.exit ?_
      refine Ej.seqExit ?_
      refine Ej.loopExit ?_
      refine Ej.blkExit ?_
      refine Ej.seq ?_
      refine Cj.seq ?_
      refine Cj.region ?_
      refine J.y (yl_loadAgg rfl rfl Tryz.isAgg28 Tryz.sizeOf28 (Blk.at 0 rfl) rfl rfl) rfl rfl rfl ?_
      refine J.op rfl (op_store 2 rfl rfl rfl rfl rfl rfl Tryz.sizeOf28 rfl rfl (LSpl.c (LSpl.c (LSpl.c (LSpl.c (LSpl.c LSpl.z))))) (LSet.s (LSet.s LSet.z)) ?_)
      refine J.nil ?_
      refine Ej.seq ?_
      refine Cj.ret ?_
      refine Ej.retCellK (Keeps.d (Keeps.k (Keeps.d Keeps.n))) rfl rfl rfl (Blk.at 2 rfl) Tryz.isAgg28 Tryz.sizeOf28 rfl ?_
      show ROut pb bt ct all deep (Cq.query (f + 1) deep ts) _ _ _
      rw [heq]
      exact ⟨q, p, c, k', dp, rfl, rfl, hne⟩

end Go.Proofs.YtlfpehljahgbkaaGreatDoor
