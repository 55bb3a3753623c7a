/-
  The reference's Spoiled: what it returns is a query not much greater. The law CqlPrints walked. Own text, printed by a program. Conditions: none.
-/
import Derived.Test.YtlfpehljahgbkaaGreatDoorCqSpoil
namespace Go.Proofs.YtlfpehljahgbkaaGreatDoor
open Go Go.Sx
abbrev Rng (x : Int) : Prop := -9223372036854775808 ≤ x ∧ x ≤ 9223372036854775807
def SpSpec (q : Cq.Qn) : Prop := ∀ (p : Option Addr) (c : Nat) (x y : Int) (I : Heap), PS I q.ps p → q.size ≤ 1000000 → Rng x → Rng y →
  Ctr Tryz.prog 21 [.agg (qCells q p c).toArray, .agg #[i64 x, i64 y]] I [] (fun e I' H' => (∃ q' u, e = .returned u ∧ QV I' q' u ∧ q'.size ≤ q.size + 1 ∧ q'.wide ≤ q.wide + 7) ∧ H' = [])
def spI : List (List UInt8) := [[], [99, 111, 108, 111, 114], [84, 105, 116, 108, 101]]
def spR : List (List UInt8) := [[], [62], [65, 78, 89], [61]]
theorem spI_len {n : Nat} (h : n < spI.length) : (spI.getD n []).length ≤ 7 := (by decide : ∀ w ∈ spI, w.length ≤ 7) _ (getD_in h)
theorem spR_len {n : Nat} (h : n < spR.length) : (spR.getD n []).length ≤ 7 := (by decide : ∀ w ∈ spR, w.length ≤ 7) _ (getD_in h)
set_option maxRecDepth 20000 in
theorem spoiled_step (q : Cq.Qn) (ih : ∀ q', Cq.Qn.size q' < q.size → SpSpec q') : SpSpec q := by
  intro p c x y I hps hsz hx hy
  have hx9 := Cq.pick_eq x (n := 9) (by omega)
  have hy2 := Cq.pick_eq y (n := 2) (by omega)
  have hy7 := Cq.pick_eq y (n := 7) (by omega)
  have hy3 := Cq.pick_eq y (n := 3) (by omega)
  have hy4 := Cq.pick_eq y (n := 4) (by omega)
  simp only [Int.cast_ofNat_Int] at hx9 hy2 hy7 hy3 hy4
  have hi3 := spI_len (n := Cq.pickN y 3) hy3.2.1
  have hr4 := spR_len (n := Cq.pickN y 4) hy4.2.1
  have htx := tdiv_rng (n := 9) (by decide) hx
  have hty := tdiv_rng (n := 2) (by decide) hy
  refine Ctr.of_body Tryz.func21 rfl (by decide) (Nat.le_of_ble_eq_true rfl) ?_
  intro w0 hw0
  refine Cj.seq ?_
  refine Cj.region ?_
  refine J.op rfl (op_box rfl rfl rfl rfl rfl ?_)
  intro b1 hb1
  refine J.op rfl (op_box rfl rfl rfl rfl rfl ?_)
  intro b2 hb2
  refine J.op rfl (op_alloc rfl rfl rfl Tryz.zeroValue28 rfl ?_)
  intro b3 hb3
  refine J.nil ?_
  refine Ej.seq ?_
  refine Cj.seq ?_
  refine Cj.region ?_
  refine J.y (yl_indexArr (off' := 0) rfl rfl rfl Tryz.underlying38 Tryz.sizeOf3 (by decide) (by decide) (by decide)) rfl rfl rfl ?_
  refine J.y (yl_load rfl rfl Tryz.isAgg3 (Blk.at 1 rfl) rfl) rfl rfl rfl ?_
  refine J.y (yl_rem rfl rfl rfl (by omega)) rfl rfl rfl ?_
  refine J.y (yl_add rfl rfl rfl (w64 (by omega))) rfl rfl rfl ?_
  refine J.y (yl_rem rfl rfl rfl (by omega)) rfl rfl rfl ?_
  refine J.eqv 11 rfl (show _ = i64 (Cq.pickN x 9 : Nat) from (by rw [← hx9.1])) ?_
  refine J.y (yl_assign rfl rfl) rfl rfl rfl ?_
  refine J.nil ?_
  refine Ej.seq ?_
  refine Cj.seq ?_
  refine Cj.seq ?_
  refine Cj.region ?_
  refine J.y (yl_fieldAddr (off' := 4) rfl rfl Tryz.underlying28 rfl Tryz.sizeOf26 rfl) rfl rfl rfl ?_
  refine J.y (yl_load rfl rfl Tryz.isAgg26 (Blk.at 2 rfl) rfl) rfl rfl rfl ?_
  refine J.y (yl_lenSlice rfl rfl Tryz.underlying26) rfl rfl rfl ?_
  refine J.y (yl_eql rfl rfl rfl) rfl rfl rfl ?_
  refine J.y (yl_move rfl rfl) rfl rfl rfl ?_
  refine J.split 16 rfl (fun hg4 => ?_) (fun hg4 => ?_)
  ·
    have hln : q.ps.len = 2 := by have h := hg4; simp at h; omega
    refine J.opG 4 16 true _ rfl rfl rfl hg4 (op_yld (yl_move rfl rfl) rfl rfl ?_)
    refine J.opG 4 16 true _ rfl rfl rfl hg4 (op_yld (yl_lss rfl rfl rfl) rfl rfl ?_)
    refine J.y (yl_pick1 rfl rfl hg4 rfl) rfl rfl rfl ?_
    refine J.nil ?_
    refine Ej.seq ?_
    refine Cj.cond rfl (fun hc5 => ?_) (fun hc5 => ?_)
    ·
      have hc5p := of_decide_eq_true hc5
      obtain ⟨qa, qb, htw⟩ := Cq.Qs.two_of hln
      change q.Two qa qb at htw
      have hsz2 := htw.size
      have hsz3 := htw.sizes
      obtain ⟨bl, off, cs', TT, fr, pa, ca, pb, cb, rfl, hbl, hca, hcb, hkb, hpa, hpb⟩ := hps.two_at htw
      have hten := ten_of hca hcb
      refine Cj.seq ?_
      refine Cj.region ?_
      refine J.y (yl_indexArr (off' := 1) rfl rfl rfl Tryz.underlying38 Tryz.sizeOf3 (by decide) (by decide) (by decide)) rfl rfl rfl ?_
      refine J.y (yl_load rfl rfl Tryz.isAgg3 (Blk.at 1 rfl) rfl) rfl rfl rfl ?_
      refine J.y (yl_rem rfl rfl rfl (by omega)) rfl rfl rfl ?_
      refine J.y (yl_add rfl rfl rfl (w64 (by omega))) rfl rfl rfl ?_
      rcases (show Cq.pickN y 2 = 0 ∨ Cq.pickN y 2 = 1 by omega) with hk0 | hk0
      ·
        skip
        refine J.y (yl_rem rfl rfl rfl (by omega)) rfl rfl rfl ?_
        refine J.eqv 24 rfl (show _ = i64 0 from (by rw [hy2.1, hk0]; rfl)) ?_
        refine J.y (yl_assign rfl rfl) rfl rfl rfl ?_
        refine J.nil ?_
        refine Ej.seq ?_
        refine Cj.seq ?_
        refine Cj.region ?_
        refine J.op rfl (op_buildSlice0 rfl rfl rfl Tryz.underlying26 Tryz.sizeOf28 ?_)
        intro b6 hb6
        refine J.y (yl_fieldAddr (off' := 4) rfl rfl Tryz.underlying28 rfl Tryz.sizeOf26 rfl) rfl rfl rfl ?_
        refine J.y (yl_load rfl rfl Tryz.isAgg26 (Blk.at 3 rfl) rfl) rfl rfl rfl ?_
        refine J.eqv 27 rfl (show _ = .slice (some ⟨bl, off, none⟩) 2 c from (by rw [hln])) ?_
        refine J.pull (Pull.s (Pull.s (Pull.s Pull.z))) ?_
        refine J.pull (Pull.s (Pull.s (Pull.s Pull.z))) ?_
        refine J.pull (Pull.s (Pull.s (Pull.s Pull.z))) ?_
        refine J.op rfl (op_append (by' := 79) (n := 0) (g := some (b6, 0, [])) (xs := []) [_, _, _] rfl rfl rfl rfl rfl Tryz.underlying26 (.inr ⟨_, Tryz.underlying26⟩) (by kernel_rfl) Tryz.sizeOf28 Tryz.zeroValue28 rfl ⟨hb6, rfl, rfl⟩ rfl (Src.slice (Blk.imm hbl) hten rfl rfl) (by omega) ?_)
        intro g7 hg7
        obtain ⟨bg8, cg9, sp10, rfl, hbg8⟩ := hg7.some (by omega)
        refine J.eqv 28 rfl (show _ = .slice (some ⟨bg8, 0, none⟩) 2 cg9 from rfl) ?_
        refine J.y (yl_fieldAddr (off' := 4) rfl rfl Tryz.underlying28 rfl Tryz.sizeOf26 rfl) rfl rfl rfl ?_
        refine J.op rfl (op_store 2 rfl rfl rfl rfl rfl rfl Tryz.sizeOf26 rfl rfl (LSpl.s (LSpl.s (LSpl.s (LSpl.s (LSpl.c LSpl.z))))) (LSet.s (LSet.s LSet.z)) ?_)
        refine J.nil ?_
        refine Ej.seq ?_
        refine Cj.seq ?_
        refine Cj.drawSel [0, 1, 2, 3] [] 17 (by kernel_rfl) ?_
        have hbl_5 := hbl
        refine JA.take 0 (by kernel_rfl) rfl (by kernel_rfl) (by kernel_rfl) (by kernel_rfl) (fun _ _ _ h => h) rfl rfl rfl (HSub.c 0 rfl (HSub.c 1 rfl (HSub.c 2 rfl (HSub.c 3 rfl HSub.n)))) CSub.n (Le.refl _) (yl_fieldAddr (off' := 4) rfl rfl Tryz.underlying28 rfl Tryz.sizeOf26 rfl) ?_
        refine JA.take 1 (by kernel_rfl) rfl (by kernel_rfl) (by kernel_rfl) (by kernel_rfl) (fun _ _ _ h => h) rfl rfl rfl (HSub.c 0 rfl (HSub.c 1 rfl (HSub.c 2 rfl (HSub.c 3 rfl HSub.n)))) CSub.n (Le.refl _) (yl_load rfl rfl Tryz.isAgg26 (Blk.atC 2 rfl) rfl) ?_
        refine JA.take 2 (by kernel_rfl) rfl (by kernel_rfl) (by kernel_rfl) (by kernel_rfl) (fun _ _ _ h => h) rfl rfl rfl (HSub.c 0 rfl (HSub.c 1 rfl (HSub.c 2 rfl (HSub.c 3 rfl HSub.n)))) CSub.n (Le.refl _) (yl_move rfl rfl) ?_
        refine JA.take 3 (by kernel_rfl) rfl (by kernel_rfl) (by kernel_rfl) (by kernel_rfl) (fun _ _ _ h => h) rfl rfl rfl (HSub.c 0 rfl (HSub.c 1 rfl (HSub.c 2 rfl (HSub.c 3 rfl HSub.n)))) CSub.n (Le.refl _) (yl_fieldAddr (off' := 4) rfl rfl Tryz.underlying28 rfl Tryz.sizeOf26 rfl) ?_
        refine JA.take 4 (by kernel_rfl) rfl (by kernel_rfl) (by kernel_rfl) (by kernel_rfl) (fun _ _ _ h => h) rfl rfl rfl (HSub.c 0 rfl (HSub.c 1 rfl (HSub.c 2 rfl (HSub.c 3 rfl HSub.n)))) CSub.n (Le.refl _) (yl_load rfl rfl Tryz.isAgg26 (Blk.atC 2 rfl) rfl) ?_
        refine JA.take 5 (by kernel_rfl) rfl (by kernel_rfl) (by kernel_rfl) (by kernel_rfl) (fun _ _ _ h => h) rfl rfl rfl (HSub.c 0 rfl (HSub.c 1 rfl (HSub.c 2 rfl (HSub.c 3 rfl HSub.n)))) CSub.n (Le.refl _) (yl_move rfl rfl) ?_
        refine JA.take 6 (by kernel_rfl) rfl (by kernel_rfl) (by kernel_rfl) (by kernel_rfl) (fun _ _ _ h => h) rfl rfl rfl (HSub.c 0 rfl (HSub.c 1 rfl (HSub.c 2 rfl (HSub.c 3 rfl HSub.n)))) CSub.n (Le.refl _) (yl_indexAddr (off' := 0) rfl rfl rfl Tryz.underlying26 Tryz.sizeOf28 (by decide) (by decide) (by decide)) ?_
        refine JA.take 7 (by kernel_rfl) rfl (by kernel_rfl) (by kernel_rfl) (by kernel_rfl) (fun _ _ _ h => h) rfl rfl rfl (HSub.c 0 rfl (HSub.c 1 rfl (HSub.c 2 rfl (HSub.c 3 rfl HSub.n)))) CSub.n (Le.refl _) (yl_loadAgg rfl rfl Tryz.isAgg28 Tryz.sizeOf28 (Blk.atC 3 rfl) rfl rfl) ?_
        refine JA.take 8 (by kernel_rfl) rfl (by kernel_rfl) (by kernel_rfl) (by kernel_rfl) (fun _ _ _ h => h) rfl rfl rfl (HSub.c 0 rfl (HSub.c 1 rfl (HSub.c 2 rfl (HSub.c 3 rfl HSub.n)))) CSub.n (Le.refl _) (yl_indexArr (off' := 0) rfl rfl rfl Tryz.underlying38 Tryz.sizeOf3 (by decide) (by decide) (by decide)) ?_
        refine JA.take 9 (by kernel_rfl) rfl (by kernel_rfl) (by kernel_rfl) (by kernel_rfl) (fun _ _ _ h => h) rfl rfl rfl (HSub.c 0 rfl (HSub.c 1 rfl (HSub.c 2 rfl (HSub.c 3 rfl HSub.n)))) CSub.n (Le.refl _) (yl_load rfl rfl Tryz.isAgg3 (Blk.atC 1 rfl) rfl) ?_
        refine JA.take 10 (by kernel_rfl) rfl (by kernel_rfl) (by kernel_rfl) (by kernel_rfl) (fun _ _ _ h => h) rfl rfl rfl (HSub.c 0 rfl (HSub.c 1 rfl (HSub.c 2 rfl (HSub.c 3 rfl HSub.n)))) CSub.n (Le.refl _) (yl_quo rfl rfl rfl (by decide) (w64 htx)) ?_
        refine JA.take 11 (by kernel_rfl) rfl (by kernel_rfl) (by kernel_rfl) (by kernel_rfl) (fun _ _ _ h => h) rfl rfl rfl (HSub.c 0 rfl (HSub.c 1 rfl (HSub.c 2 rfl (HSub.c 3 rfl HSub.n)))) CSub.n (Le.refl _) (yl_indexArr (off' := 1) rfl rfl rfl Tryz.underlying38 Tryz.sizeOf3 (by decide) (by decide) (by decide)) ?_
        refine JA.take 12 (by kernel_rfl) rfl (by kernel_rfl) (by kernel_rfl) (by kernel_rfl) (fun _ _ _ h => h) rfl rfl rfl (HSub.c 0 rfl (HSub.c 1 rfl (HSub.c 2 rfl (HSub.c 3 rfl HSub.n)))) CSub.n (Le.refl _) (yl_load rfl rfl Tryz.isAgg3 (Blk.atC 1 rfl) rfl) ?_
        refine JA.take 13 (by kernel_rfl) rfl (by kernel_rfl) (by kernel_rfl) (by kernel_rfl) (fun _ _ _ h => h) rfl rfl rfl (HSub.c 0 rfl (HSub.c 1 rfl (HSub.c 2 rfl (HSub.c 3 rfl HSub.n)))) CSub.n (Le.refl _) (yl_quo rfl rfl rfl (by decide) (w64 hty)) ?_
        refine JA.take 14 (by kernel_rfl) rfl (by kernel_rfl) (by kernel_rfl) (by kernel_rfl) (fun _ _ _ h => h) rfl rfl rfl (HSub.c 0 rfl (HSub.c 1 rfl (HSub.c 2 rfl (HSub.c 3 rfl HSub.n)))) CSub.n (Le.refl _) (yl_buildA (zs := [(.int .i64 0), (.int .i64 0)]) rfl rfl Tryz.zeroValue38 rfl Tryz.underlying38 Tryz.sizeOf3 rfl) ?_
        refine JA.step 15 (by kernel_rfl) rfl rfl (op_call (H1 := []) rfl rfl rfl rfl rfl (ih qa hsz2.1 pa ca (x.tdiv 9) (y.tdiv 2) _ hpa (by omega) htx hty) ?_ (fun _ _ _ _ h => by obtain ⟨⟨_, _, h, _⟩, _⟩ := h; cases h) (fun _ _ h => by obtain ⟨⟨_, _, h, _⟩, _⟩ := h; cases h))
        intro v11 I12 H13 hle14 hp15
        have hbl := hle14 _ _ hbl
        have hpa := hpa.mono hle14
        have hpb := hpb.mono hle14
        obtain ⟨⟨q2, v11x, hv11, ⟨p2, c2, rfl, hps2⟩, hz2, hw2⟩, rfl⟩ := hp15; cases hv11
        refine ⟨⟨(Le.trans (Le.refl _) hle14), (HSub.c 0 rfl (HSub.c 1 rfl (HSub.c 2 rfl (HSub.c 3 rfl HSub.n)))), CSub.n⟩, ?_⟩
        refine JA.take 16 (by kernel_rfl) rfl (by kernel_rfl) (by kernel_rfl) (by kernel_rfl) (fun _ _ _ h => h) rfl rfl rfl (HSub.c 0 rfl (HSub.c 1 rfl (HSub.c 2 rfl (HSub.c 3 rfl HSub.n)))) CSub.n (Le.trans (Le.refl _) hle14) (yl_indexAddr (off' := 0) rfl rfl rfl Tryz.underlying26 Tryz.sizeOf28 (by decide) (by decide) (by decide)) ?_
        refine JA.last 17 (by kernel_rfl) rfl rfl rfl (op_store 3 rfl rfl rfl rfl rfl rfl Tryz.sizeOf28 rfl rfl (LSpl.c (LSpl.c (LSpl.c (LSpl.c (LSpl.c LSpl.z))))) (LSet.s (LSet.s (LSet.s LSet.z))) ?_)
        refine JA.done (by kernel_rfl) ?_
        refine Ej.seq ?_
        refine Cj.seq ?_
        refine Cj.region ?_
        refine J.pull (Pull.s (Pull.s (Pull.s Pull.z))) ?_
        refine J.persist hbg8 (fun I17 hle16 hbg8i => ?_)
        have hbl := hle16 _ _ hbl
        have hpa := hpa.mono hle16
        have hpb := hpb.mono hle16
        have hps2 := hps2.mono hle16
        refine J.y (yl_loadAgg rfl rfl Tryz.isAgg28 Tryz.sizeOf28 (Blk.at 2 rfl) rfl rfl) rfl rfl rfl ?_
        refine J.op rfl (op_store 0 rfl rfl rfl rfl rfl rfl Tryz.sizeOf28 rfl rfl (LSpl.c (LSpl.c (LSpl.c (LSpl.c (LSpl.c LSpl.z))))) LSet.z ?_)
        refine J.nil ?_
        refine Ej.seq ?_
        refine Cj.ret ?_
        refine Ej.seqRet ?_
        refine Ej.retCellK (Keeps.d (Keeps.d (Keeps.d Keeps.n))) rfl rfl rfl (Blk.at 0 rfl) Tryz.isAgg28 Tryz.sizeOf28 rfl ?_
        exact ⟨⟨⟨q.k, q.i, q.r, q.t, q2.push (qb.push .nil)⟩, _, rfl, ⟨some ⟨bg8, 0, none⟩, cg9, rfl, PS.twoS hps2 hpb hbg8i⟩, by simp only [Cq.Qn.size, Cq.Qn.wide, Cq.Qn.push, Cq.Qs.size] at *; omega, by simp only [Cq.Qn.size, Cq.Qn.wide, Cq.Qn.push, Cq.Qs.wide] at *; omega⟩, rfl⟩
      ·
        skip
        refine J.y (yl_rem rfl rfl rfl (by omega)) rfl rfl rfl ?_
        refine J.eqv 24 rfl (show _ = i64 1 from (by rw [hy2.1, hk0]; rfl)) ?_
        refine J.y (yl_assign rfl rfl) rfl rfl rfl ?_
        refine J.nil ?_
        refine Ej.seq ?_
        refine Cj.seq ?_
        refine Cj.region ?_
        refine J.op rfl (op_buildSlice0 rfl rfl rfl Tryz.underlying26 Tryz.sizeOf28 ?_)
        intro b18 hb18
        refine J.y (yl_fieldAddr (off' := 4) rfl rfl Tryz.underlying28 rfl Tryz.sizeOf26 rfl) rfl rfl rfl ?_
        refine J.y (yl_load rfl rfl Tryz.isAgg26 (Blk.at 3 rfl) rfl) rfl rfl rfl ?_
        refine J.eqv 27 rfl (show _ = .slice (some ⟨bl, off, none⟩) 2 c from (by rw [hln])) ?_
        refine J.pull (Pull.s (Pull.s (Pull.s Pull.z))) ?_
        refine J.pull (Pull.s (Pull.s (Pull.s Pull.z))) ?_
        refine J.pull (Pull.s (Pull.s (Pull.s Pull.z))) ?_
        refine J.op rfl (op_append (by' := 79) (n := 0) (g := some (b18, 0, [])) (xs := []) [_, _, _] rfl rfl rfl rfl rfl Tryz.underlying26 (.inr ⟨_, Tryz.underlying26⟩) (by kernel_rfl) Tryz.sizeOf28 Tryz.zeroValue28 rfl ⟨hb18, rfl, rfl⟩ rfl (Src.slice (Blk.imm hbl) hten rfl rfl) (by omega) ?_)
        intro g19 hg19
        obtain ⟨bg20, cg21, sp22, rfl, hbg20⟩ := hg19.some (by omega)
        refine J.eqv 28 rfl (show _ = .slice (some ⟨bg20, 0, none⟩) 2 cg21 from rfl) ?_
        refine J.y (yl_fieldAddr (off' := 4) rfl rfl Tryz.underlying28 rfl Tryz.sizeOf26 rfl) rfl rfl rfl ?_
        refine J.op rfl (op_store 2 rfl rfl rfl rfl rfl rfl Tryz.sizeOf26 rfl rfl (LSpl.s (LSpl.s (LSpl.s (LSpl.s (LSpl.c LSpl.z))))) (LSet.s (LSet.s LSet.z)) ?_)
        refine J.nil ?_
        refine Ej.seq ?_
        refine Cj.seq ?_
        refine Cj.drawSel [0, 1, 2, 3] [] 17 (by kernel_rfl) ?_
        have hbl_5 := hbl
        refine JA.take 0 (by kernel_rfl) rfl (by kernel_rfl) (by kernel_rfl) (by kernel_rfl) (fun _ _ _ h => h) rfl rfl rfl (HSub.c 0 rfl (HSub.c 1 rfl (HSub.c 2 rfl (HSub.c 3 rfl HSub.n)))) CSub.n (Le.refl _) (yl_fieldAddr (off' := 4) rfl rfl Tryz.underlying28 rfl Tryz.sizeOf26 rfl) ?_
        refine JA.take 1 (by kernel_rfl) rfl (by kernel_rfl) (by kernel_rfl) (by kernel_rfl) (fun _ _ _ h => h) rfl rfl rfl (HSub.c 0 rfl (HSub.c 1 rfl (HSub.c 2 rfl (HSub.c 3 rfl HSub.n)))) CSub.n (Le.refl _) (yl_load rfl rfl Tryz.isAgg26 (Blk.atC 2 rfl) rfl) ?_
        refine JA.take 2 (by kernel_rfl) rfl (by kernel_rfl) (by kernel_rfl) (by kernel_rfl) (fun _ _ _ h => h) rfl rfl rfl (HSub.c 0 rfl (HSub.c 1 rfl (HSub.c 2 rfl (HSub.c 3 rfl HSub.n)))) CSub.n (Le.refl _) (yl_move rfl rfl) ?_
        refine JA.take 3 (by kernel_rfl) rfl (by kernel_rfl) (by kernel_rfl) (by kernel_rfl) (fun _ _ _ h => h) rfl rfl rfl (HSub.c 0 rfl (HSub.c 1 rfl (HSub.c 2 rfl (HSub.c 3 rfl HSub.n)))) CSub.n (Le.refl _) (yl_fieldAddr (off' := 4) rfl rfl Tryz.underlying28 rfl Tryz.sizeOf26 rfl) ?_
        refine JA.take 4 (by kernel_rfl) rfl (by kernel_rfl) (by kernel_rfl) (by kernel_rfl) (fun _ _ _ h => h) rfl rfl rfl (HSub.c 0 rfl (HSub.c 1 rfl (HSub.c 2 rfl (HSub.c 3 rfl HSub.n)))) CSub.n (Le.refl _) (yl_load rfl rfl Tryz.isAgg26 (Blk.atC 2 rfl) rfl) ?_
        refine JA.take 5 (by kernel_rfl) rfl (by kernel_rfl) (by kernel_rfl) (by kernel_rfl) (fun _ _ _ h => h) rfl rfl rfl (HSub.c 0 rfl (HSub.c 1 rfl (HSub.c 2 rfl (HSub.c 3 rfl HSub.n)))) CSub.n (Le.refl _) (yl_move rfl rfl) ?_
        refine JA.take 6 (by kernel_rfl) rfl (by kernel_rfl) (by kernel_rfl) (by kernel_rfl) (fun _ _ _ h => h) rfl rfl rfl (HSub.c 0 rfl (HSub.c 1 rfl (HSub.c 2 rfl (HSub.c 3 rfl HSub.n)))) CSub.n (Le.refl _) (yl_indexAddr (off' := 5) rfl rfl rfl Tryz.underlying26 Tryz.sizeOf28 (by decide) (by decide) (by decide)) ?_
        refine JA.take 7 (by kernel_rfl) rfl (by kernel_rfl) (by kernel_rfl) (by kernel_rfl) (fun _ _ _ h => h) rfl rfl rfl (HSub.c 0 rfl (HSub.c 1 rfl (HSub.c 2 rfl (HSub.c 3 rfl HSub.n)))) CSub.n (Le.refl _) (yl_loadAgg rfl rfl Tryz.isAgg28 Tryz.sizeOf28 (Blk.atC 3 rfl) rfl rfl) ?_
        refine JA.take 8 (by kernel_rfl) rfl (by kernel_rfl) (by kernel_rfl) (by kernel_rfl) (fun _ _ _ h => h) rfl rfl rfl (HSub.c 0 rfl (HSub.c 1 rfl (HSub.c 2 rfl (HSub.c 3 rfl HSub.n)))) CSub.n (Le.refl _) (yl_indexArr (off' := 0) rfl rfl rfl Tryz.underlying38 Tryz.sizeOf3 (by decide) (by decide) (by decide)) ?_
        refine JA.take 9 (by kernel_rfl) rfl (by kernel_rfl) (by kernel_rfl) (by kernel_rfl) (fun _ _ _ h => h) rfl rfl rfl (HSub.c 0 rfl (HSub.c 1 rfl (HSub.c 2 rfl (HSub.c 3 rfl HSub.n)))) CSub.n (Le.refl _) (yl_load rfl rfl Tryz.isAgg3 (Blk.atC 1 rfl) rfl) ?_
        refine JA.take 10 (by kernel_rfl) rfl (by kernel_rfl) (by kernel_rfl) (by kernel_rfl) (fun _ _ _ h => h) rfl rfl rfl (HSub.c 0 rfl (HSub.c 1 rfl (HSub.c 2 rfl (HSub.c 3 rfl HSub.n)))) CSub.n (Le.refl _) (yl_quo rfl rfl rfl (by decide) (w64 htx)) ?_
        refine JA.take 11 (by kernel_rfl) rfl (by kernel_rfl) (by kernel_rfl) (by kernel_rfl) (fun _ _ _ h => h) rfl rfl rfl (HSub.c 0 rfl (HSub.c 1 rfl (HSub.c 2 rfl (HSub.c 3 rfl HSub.n)))) CSub.n (Le.refl _) (yl_indexArr (off' := 1) rfl rfl rfl Tryz.underlying38 Tryz.sizeOf3 (by decide) (by decide) (by decide)) ?_
        refine JA.take 12 (by kernel_rfl) rfl (by kernel_rfl) (by kernel_rfl) (by kernel_rfl) (fun _ _ _ h => h) rfl rfl rfl (HSub.c 0 rfl (HSub.c 1 rfl (HSub.c 2 rfl (HSub.c 3 rfl HSub.n)))) CSub.n (Le.refl _) (yl_load rfl rfl Tryz.isAgg3 (Blk.atC 1 rfl) rfl) ?_
        refine JA.take 13 (by kernel_rfl) rfl (by kernel_rfl) (by kernel_rfl) (by kernel_rfl) (fun _ _ _ h => h) rfl rfl rfl (HSub.c 0 rfl (HSub.c 1 rfl (HSub.c 2 rfl (HSub.c 3 rfl HSub.n)))) CSub.n (Le.refl _) (yl_quo rfl rfl rfl (by decide) (w64 hty)) ?_
        refine JA.take 14 (by kernel_rfl) rfl (by kernel_rfl) (by kernel_rfl) (by kernel_rfl) (fun _ _ _ h => h) rfl rfl rfl (HSub.c 0 rfl (HSub.c 1 rfl (HSub.c 2 rfl (HSub.c 3 rfl HSub.n)))) CSub.n (Le.refl _) (yl_buildA (zs := [(.int .i64 0), (.int .i64 0)]) rfl rfl Tryz.zeroValue38 rfl Tryz.underlying38 Tryz.sizeOf3 rfl) ?_
        refine JA.step 15 (by kernel_rfl) rfl rfl (op_call (H1 := []) rfl rfl rfl rfl rfl (ih qb hsz2.2 pb cb (x.tdiv 9) (y.tdiv 2) _ hpb (by omega) htx hty) ?_ (fun _ _ _ _ h => by obtain ⟨⟨_, _, h, _⟩, _⟩ := h; cases h) (fun _ _ h => by obtain ⟨⟨_, _, h, _⟩, _⟩ := h; cases h))
        intro v23 I24 H25 hle26 hp27
        have hbl := hle26 _ _ hbl
        have hpa := hpa.mono hle26
        have hpb := hpb.mono hle26
        obtain ⟨⟨q2, v23x, hv23, ⟨p2, c2, rfl, hps2⟩, hz2, hw2⟩, rfl⟩ := hp27; cases hv23
        refine ⟨⟨(Le.trans (Le.refl _) hle26), (HSub.c 0 rfl (HSub.c 1 rfl (HSub.c 2 rfl (HSub.c 3 rfl HSub.n)))), CSub.n⟩, ?_⟩
        refine JA.take 16 (by kernel_rfl) rfl (by kernel_rfl) (by kernel_rfl) (by kernel_rfl) (fun _ _ _ h => h) rfl rfl rfl (HSub.c 0 rfl (HSub.c 1 rfl (HSub.c 2 rfl (HSub.c 3 rfl HSub.n)))) CSub.n (Le.trans (Le.refl _) hle26) (yl_indexAddr (off' := 5) rfl rfl rfl Tryz.underlying26 Tryz.sizeOf28 (by decide) (by decide) (by decide)) ?_
        refine JA.last 17 (by kernel_rfl) rfl rfl rfl (op_store 3 rfl rfl rfl rfl rfl rfl Tryz.sizeOf28 rfl rfl (LSpl.s (LSpl.s (LSpl.s (LSpl.s (LSpl.s (LSpl.c (LSpl.c (LSpl.c (LSpl.c (LSpl.c LSpl.z)))))))))) (LSet.s (LSet.s (LSet.s LSet.z))) ?_)
        refine JA.done (by kernel_rfl) ?_
        refine Ej.seq ?_
        refine Cj.seq ?_
        refine Cj.region ?_
        refine J.pull (Pull.s (Pull.s (Pull.s Pull.z))) ?_
        refine J.persist hbg20 (fun I29 hle28 hbg20i => ?_)
        have hbl := hle28 _ _ hbl
        have hpa := hpa.mono hle28
        have hpb := hpb.mono hle28
        have hps2 := hps2.mono hle28
        refine J.y (yl_loadAgg rfl rfl Tryz.isAgg28 Tryz.sizeOf28 (Blk.at 2 rfl) rfl rfl) rfl rfl rfl ?_
        refine J.op rfl (op_store 0 rfl rfl rfl rfl rfl rfl Tryz.sizeOf28 rfl rfl (LSpl.c (LSpl.c (LSpl.c (LSpl.c (LSpl.c LSpl.z))))) LSet.z ?_)
        refine J.nil ?_
        refine Ej.seq ?_
        refine Cj.ret ?_
        refine Ej.seqRet ?_
        refine Ej.retCellK (Keeps.d (Keeps.d (Keeps.d Keeps.n))) rfl rfl rfl (Blk.at 0 rfl) Tryz.isAgg28 Tryz.sizeOf28 rfl ?_
        exact ⟨⟨⟨q.k, q.i, q.r, q.t, qa.push (q2.push .nil)⟩, _, rfl, ⟨some ⟨bg20, 0, none⟩, cg21, rfl, PS.twoS hpa hps2 hbg20i⟩, by simp only [Cq.Qn.size, Cq.Qn.wide, Cq.Qn.push, Cq.Qs.size] at *; omega, by simp only [Cq.Qn.size, Cq.Qn.wide, Cq.Qn.push, Cq.Qs.wide] at *; omega⟩, rfl⟩
    ·
      have hc5p := of_decide_eq_false hc5
      refine Cj.skip ?_
      refine Ej.seq ?_
      refine Cj.seq ?_
      refine Cj.seq ?_
      refine Cj.region ?_
      refine J.y (yl_move rfl rfl) rfl rfl rfl ?_
      refine J.nil ?_
      refine Ej.seq ?_
      refine Cj.block ?_
      refine Cj.seq ?_
      refine Cj.region ?_
      refine J.y (yl_eql rfl rfl rfl) rfl rfl rfl ?_
      refine J.y (yl_assign rfl rfl) rfl rfl rfl ?_
      refine J.nil ?_
      refine Ej.seq ?_
      refine Cj.cond rfl (fun hc30 => ?_) (fun hc30 => ?_)
      ·
        have hc30p := eq_of_beq hc30
        refine Cj.region ?_
        refine J.y (yl_indexArr (off' := 1) rfl rfl rfl Tryz.underlying38 Tryz.sizeOf3 (by decide) (by decide) (by decide)) rfl rfl rfl ?_
        refine J.y (yl_load rfl rfl Tryz.isAgg3 (Blk.at 1 rfl) rfl) rfl rfl rfl ?_
        refine J.y (yl_rem rfl rfl rfl (by omega)) rfl rfl rfl ?_
        refine J.y (yl_add rfl rfl rfl (w64 (by omega))) rfl rfl rfl ?_
        refine J.y (yl_rem rfl rfl rfl (by omega)) rfl rfl rfl ?_
        refine J.eqv 55 rfl (show _ = i64 (Cq.pickN y 7 : Nat) from (by rw [← hy7.1])) ?_
        refine J.y (yl_sub rfl rfl rfl (w64 (by omega))) rfl rfl rfl ?_
        refine J.y (yl_fieldAddr (off' := 0) rfl rfl Tryz.underlying28 rfl Tryz.sizeOf3 rfl) rfl rfl rfl ?_
        refine J.op rfl (op_store 2 rfl rfl rfl rfl rfl rfl Tryz.sizeOf3 rfl rfl (LSpl.c LSpl.z) (LSet.s (LSet.s LSet.z)) ?_)
        refine J.nil ?_
        refine Ej.blkNormal ?_
        refine Ej.seq ?_
        refine Cj.seq ?_
        refine Cj.region ?_
        refine J.y (yl_loadAgg rfl rfl Tryz.isAgg28 Tryz.sizeOf28 (Blk.at 2 rfl) rfl rfl) rfl rfl rfl ?_
        refine J.op rfl (op_store 0 rfl rfl rfl rfl rfl rfl Tryz.sizeOf28 rfl rfl (LSpl.c (LSpl.c (LSpl.c (LSpl.c (LSpl.c LSpl.z))))) LSet.z ?_)
        refine J.nil ?_
        refine Ej.seq ?_
        refine Cj.ret ?_
        refine Ej.retCellK (Keeps.d (Keeps.d (Keeps.d Keeps.n))) rfl rfl rfl (Blk.at 0 rfl) Tryz.isAgg28 Tryz.sizeOf28 rfl ?_
        exact ⟨⟨⟨(Cq.pickN y 7 : Int) - 1, q.i, q.r, q.t, q.ps⟩, _, rfl, ⟨p, c, rfl, hps⟩, by simp only [Cq.Qn.size]; omega, by simp only [Cq.Qn.wide]; omega⟩, rfl⟩
      ·
        have hc30p := ne_of_beq_false hc30
        refine Cj.seq ?_
        refine Cj.region ?_
        refine J.y (yl_eql rfl rfl rfl) rfl rfl rfl ?_
        refine J.y (yl_assign rfl rfl) rfl rfl rfl ?_
        refine J.nil ?_
        refine Ej.seq ?_
        refine Cj.cond rfl (fun hc31 => ?_) (fun hc31 => ?_)
        ·
          have hc31p := eq_of_beq hc31
          refine Cj.region ?_
          refine J.op rfl (op_buildSlice rfl rfl rfl Tryz.underlying44 Tryz.sizeOf9 Tryz.zeroValue9 rfl rfl rfl rfl (LCat.one rfl (LCat.one rfl (LCat.one rfl LCat.none))) ?_)
          intro b32 hb32
          refine J.y (yl_indexArr (off' := 1) rfl rfl rfl Tryz.underlying38 Tryz.sizeOf3 (by decide) (by decide) (by decide)) rfl rfl rfl ?_
          refine J.y (yl_load rfl rfl Tryz.isAgg3 (Blk.at 2 rfl) rfl) rfl rfl rfl ?_
          refine J.y (yl_rem rfl rfl rfl (by omega)) rfl rfl rfl ?_
          refine J.y (yl_add rfl rfl rfl (w64 (by omega))) rfl rfl rfl ?_
          refine J.y (yl_rem rfl rfl rfl (by omega)) rfl rfl rfl ?_
          refine J.eqv 65 rfl (show _ = i64 (Cq.pickN y 3 : Nat) from (by rw [← hy3.1])) ?_
          refine J.y (yl_indexAddr (off' := (Cq.pickN y 3)) rfl rfl rfl Tryz.underlying44 Tryz.sizeOf9 (by omega) (by omega) (by simp)) rfl rfl rfl ?_
          refine J.y (yl_load rfl rfl Tryz.isAgg9 (Blk.at 0 rfl) (idx_at (l := spI) hy3.2.1)) rfl rfl rfl ?_
          refine J.y (yl_fieldAddr (off' := 1) rfl rfl Tryz.underlying28 rfl Tryz.sizeOf9 rfl) rfl rfl rfl ?_
          refine J.op rfl (op_store 3 rfl rfl rfl rfl rfl rfl Tryz.sizeOf9 rfl rfl (LSpl.s (LSpl.c LSpl.z)) (LSet.s (LSet.s (LSet.s LSet.z))) ?_)
          refine J.nil ?_
          refine Ej.blkNormal ?_
          refine Ej.seq ?_
          refine Cj.seq ?_
          refine Cj.region ?_
          refine J.y (yl_loadAgg rfl rfl Tryz.isAgg28 Tryz.sizeOf28 (Blk.at 3 rfl) rfl rfl) rfl rfl rfl ?_
          refine J.op rfl (op_store 1 rfl rfl rfl rfl rfl rfl Tryz.sizeOf28 rfl rfl (LSpl.c (LSpl.c (LSpl.c (LSpl.c (LSpl.c LSpl.z))))) (LSet.s LSet.z) ?_)
          refine J.nil ?_
          refine Ej.seq ?_
          refine Cj.ret ?_
          refine Ej.retCellK (Keeps.d (Keeps.d (Keeps.d (Keeps.d Keeps.n)))) rfl rfl rfl (Blk.at 1 rfl) Tryz.isAgg28 Tryz.sizeOf28 rfl ?_
          exact ⟨⟨⟨q.k, spI.getD (Cq.pickN y 3) [], q.r, q.t, q.ps⟩, _, rfl, ⟨p, c, rfl, hps⟩, by simp only [Cq.Qn.size]; omega, by simp only [Cq.Qn.wide]; omega⟩, rfl⟩
        ·
          have hc31p := ne_of_beq_false hc31
          refine Cj.seq ?_
          refine Cj.region ?_
          refine J.y (yl_eql rfl rfl rfl) rfl rfl rfl ?_
          refine J.y (yl_assign rfl rfl) rfl rfl rfl ?_
          refine J.nil ?_
          refine Ej.seq ?_
          refine Cj.cond rfl (fun hc33 => ?_) (fun hc33 => ?_)
          ·
            have hc33p := eq_of_beq hc33
            refine Cj.region ?_
            refine J.op rfl (op_buildSlice rfl rfl rfl Tryz.underlying44 Tryz.sizeOf9 Tryz.zeroValue9 rfl rfl rfl rfl (LCat.one rfl (LCat.one rfl (LCat.one rfl (LCat.one rfl LCat.none)))) ?_)
            intro b34 hb34
            refine J.y (yl_indexArr (off' := 1) rfl rfl rfl Tryz.underlying38 Tryz.sizeOf3 (by decide) (by decide) (by decide)) rfl rfl rfl ?_
            refine J.y (yl_load rfl rfl Tryz.isAgg3 (Blk.at 2 rfl) rfl) rfl rfl rfl ?_
            refine J.y (yl_rem rfl rfl rfl (by omega)) rfl rfl rfl ?_
            refine J.y (yl_add rfl rfl rfl (w64 (by omega))) rfl rfl rfl ?_
            refine J.y (yl_rem rfl rfl rfl (by omega)) rfl rfl rfl ?_
            refine J.eqv 76 rfl (show _ = i64 (Cq.pickN y 4 : Nat) from (by rw [← hy4.1])) ?_
            refine J.y (yl_indexAddr (off' := (Cq.pickN y 4)) rfl rfl rfl Tryz.underlying44 Tryz.sizeOf9 (by omega) (by omega) (by simp)) rfl rfl rfl ?_
            refine J.y (yl_load rfl rfl Tryz.isAgg9 (Blk.at 0 rfl) (idx_at (l := spR) hy4.2.1)) rfl rfl rfl ?_
            refine J.y (yl_fieldAddr (off' := 2) rfl rfl Tryz.underlying28 rfl Tryz.sizeOf9 rfl) rfl rfl rfl ?_
            refine J.op rfl (op_store 3 rfl rfl rfl rfl rfl rfl Tryz.sizeOf9 rfl rfl (LSpl.s (LSpl.s (LSpl.c LSpl.z))) (LSet.s (LSet.s (LSet.s LSet.z))) ?_)
            refine J.nil ?_
            refine Ej.blkNormal ?_
            refine Ej.seq ?_
            refine Cj.seq ?_
            refine Cj.region ?_
            refine J.y (yl_loadAgg rfl rfl Tryz.isAgg28 Tryz.sizeOf28 (Blk.at 3 rfl) rfl rfl) rfl rfl rfl ?_
            refine J.op rfl (op_store 1 rfl rfl rfl rfl rfl rfl Tryz.sizeOf28 rfl rfl (LSpl.c (LSpl.c (LSpl.c (LSpl.c (LSpl.c LSpl.z))))) (LSet.s LSet.z) ?_)
            refine J.nil ?_
            refine Ej.seq ?_
            refine Cj.ret ?_
            refine Ej.retCellK (Keeps.d (Keeps.d (Keeps.d (Keeps.d Keeps.n)))) rfl rfl rfl (Blk.at 1 rfl) Tryz.isAgg28 Tryz.sizeOf28 rfl ?_
            exact ⟨⟨⟨q.k, q.i, spR.getD (Cq.pickN y 4) [], q.t, q.ps⟩, _, rfl, ⟨p, c, rfl, hps⟩, by simp only [Cq.Qn.size]; omega, by simp only [Cq.Qn.wide]; omega⟩, rfl⟩
          ·
            have hc33p := ne_of_beq_false hc33
            refine Cj.seq ?_
            refine Cj.region ?_
            refine J.y (yl_eql rfl rfl rfl) rfl rfl rfl ?_
            refine J.y (yl_assign rfl rfl) rfl rfl rfl ?_
            refine J.nil ?_
            refine Ej.seq ?_
            refine Cj.cond rfl (fun hc35 => ?_) (fun hc35 => ?_)
            ·
              have hc35p := eq_of_beq hc35
              refine Cj.region ?_
              refine J.op rfl (op_buildSlice0 rfl rfl rfl Tryz.underlying26 Tryz.sizeOf28 ?_)
              intro b36 hb36
              refine J.y (yl_fieldAddr (off' := 4) rfl rfl Tryz.underlying28 rfl Tryz.sizeOf26 rfl) rfl rfl rfl ?_
              refine J.y (yl_load rfl rfl Tryz.isAgg26 (Blk.at 3 rfl) rfl) rfl rfl rfl ?_
              obtain ⟨ys, hysl, hysq, hsrc⟩ := hps.src c
              refine J.pull (Pull.s (Pull.s (Pull.s Pull.z))) ?_
              refine J.pull (Pull.s (Pull.s (Pull.s Pull.z))) ?_
              refine J.pull (Pull.s (Pull.s (Pull.s Pull.z))) ?_
              refine J.op rfl (op_append (by' := 79) (n := 0) (g := some (b36, 0, [])) (xs := []) [_, _, _] rfl rfl rfl rfl rfl Tryz.underlying26 (.inr ⟨_, Tryz.underlying26⟩) (by kernel_rfl) Tryz.sizeOf28 Tryz.zeroValue28 rfl ⟨hb36, rfl, rfl⟩ rfl (hsrc _) (by have := Cq.Qs.len_size (ps := q.ps); unfold Cq.Qn.size at hsz; omega) ?_)
              intro g37 hg37
              refine J.y (yl_buildS (pl := #[(0, 1), (1, 1), (2, 1), (3, 1), (4, 1)]) rfl rfl Tryz.zeroValue28 rfl Tryz.underlying28 (fun w => by simp [Tryz.sizeOf26, Tryz.sizeOf3, Tryz.sizeOf9]) (LBld.part rfl rfl rfl (LSpl.c LSpl.z) (LBld.part rfl rfl rfl (LSpl.s (LSpl.c LSpl.z)) (LBld.part rfl rfl rfl (LSpl.s (LSpl.s (LSpl.c LSpl.z))) LBld.none)))) rfl rfl rfl ?_
              refine J.op rfl (op_buildSlice rfl rfl rfl Tryz.underlying26 Tryz.sizeOf28 Tryz.zeroValue28 rfl rfl rfl rfl (LCat.agg rfl LCat.none) ?_)
              intro b38 hb38
              refine J.op rfl (op_append (by' := 79) [_, _, _, _] rfl rfl rfl rfl rfl Tryz.underlying26 (.inr ⟨_, Tryz.underlying26⟩) (by kernel_rfl) Tryz.sizeOf28 Tryz.zeroValue28 rfl hg37 rfl (Src.slice (Blk.at 0 rfl) rfl rfl rfl) (by have := Cq.Qs.len_size (ps := q.ps); unfold Cq.Qn.size at hsz; omega) ?_)
              intro g39 hg39
              obtain ⟨bg40, cg41, sp42, rfl, hbg40⟩ := hg39.some (by omega)
              refine J.eqv 88 rfl (show _ = .slice (some ⟨bg40, 0, none⟩) (q.ps.app ((⟨1, [97, 110, 121], [61], [], .nil⟩ : Cq.Qn).push .nil)).len cg41 from by rw [Cq.Qs.app_len]; simp only [Nat.zero_add, gV]; rfl) ?_
              refine J.y (yl_fieldAddr (off' := 4) rfl rfl Tryz.underlying28 rfl Tryz.sizeOf26 rfl) rfl rfl rfl ?_
              refine J.op rfl (op_store 3 rfl rfl rfl rfl rfl rfl Tryz.sizeOf26 rfl rfl (LSpl.s (LSpl.s (LSpl.s (LSpl.s (LSpl.c LSpl.z))))) (LSet.s (LSet.s (LSet.s LSet.z))) ?_)
              refine J.nil ?_
              refine Ej.blkNormal ?_
              refine Ej.seq ?_
              refine Cj.seq ?_
              refine Cj.region ?_
              refine J.pull (Pull.s (Pull.s (Pull.s (Pull.s Pull.z)))) ?_
              refine J.persist hbg40 (fun I44 hle43 hbg40i => ?_)
              have hps := hps.mono hle43
              have hysq := hysq.mono hle43
              refine J.y (yl_loadAgg rfl rfl Tryz.isAgg28 Tryz.sizeOf28 (Blk.at 3 rfl) rfl rfl) rfl rfl rfl ?_
              refine J.op rfl (op_store 1 rfl rfl rfl rfl rfl rfl Tryz.sizeOf28 rfl rfl (LSpl.c (LSpl.c (LSpl.c (LSpl.c (LSpl.c LSpl.z))))) (LSet.s LSet.z) ?_)
              refine J.nil ?_
              refine Ej.seq ?_
              refine Cj.ret ?_
              refine Ej.retCellK (Keeps.d (Keeps.d (Keeps.d (Keeps.d Keeps.n)))) rfl rfl rfl (Blk.at 1 rfl) Tryz.isAgg28 Tryz.sizeOf28 rfl ?_
              exact ⟨⟨⟨q.k, q.i, q.r, q.t, q.ps.app ((⟨1, [97, 110, 121], [61], [], .nil⟩ : Cq.Qn).push .nil)⟩, _, rfl, ⟨some ⟨bg40, 0, none⟩, cg41, rfl, PS.snoc hysl hysq (.inl rfl) hbg40i⟩, by simp only [Cq.Qn.size, Cq.Qs.app_size, Cq.Qn.push, Cq.Qs.size]; omega, by simp only [Cq.Qn.wide, Cq.Qs.app_wide, Cq.Qn.push, Cq.Qs.wide, List.length_cons, List.length_nil]; omega⟩, rfl⟩
            ·
              have hc35p := ne_of_beq_false hc35
              refine Cj.seq ?_
              refine Cj.region ?_
              refine J.y (yl_eql rfl rfl rfl) rfl rfl rfl ?_
              refine J.y (yl_assign rfl rfl) rfl rfl rfl ?_
              refine J.nil ?_
              refine Ej.seq ?_
              refine Cj.cond rfl (fun hc45 => ?_) (fun hc45 => ?_)
              ·
                have hc45p := eq_of_beq hc45
                refine Cj.region ?_
                refine J.y (yl_fieldAddr (off' := 3) rfl rfl Tryz.underlying28 rfl Tryz.sizeOf9 rfl) rfl rfl rfl ?_
                refine J.op rfl (op_store 2 rfl rfl rfl rfl rfl rfl Tryz.sizeOf9 rfl rfl (LSpl.s (LSpl.s (LSpl.s (LSpl.c LSpl.z)))) (LSet.s (LSet.s LSet.z)) ?_)
                refine J.nil ?_
                refine Ej.blkNormal ?_
                refine Ej.seq ?_
                refine Cj.seq ?_
                refine Cj.region ?_
                refine J.y (yl_loadAgg rfl rfl Tryz.isAgg28 Tryz.sizeOf28 (Blk.at 2 rfl) rfl rfl) rfl rfl rfl ?_
                refine J.op rfl (op_store 0 rfl rfl rfl rfl rfl rfl Tryz.sizeOf28 rfl rfl (LSpl.c (LSpl.c (LSpl.c (LSpl.c (LSpl.c LSpl.z))))) LSet.z ?_)
                refine J.nil ?_
                refine Ej.seq ?_
                refine Cj.ret ?_
                refine Ej.retCellK (Keeps.d (Keeps.d (Keeps.d Keeps.n))) rfl rfl rfl (Blk.at 0 rfl) Tryz.isAgg28 Tryz.sizeOf28 rfl ?_
                exact ⟨⟨⟨q.k, q.i, q.r, [109, 111, 114, 101], q.ps⟩, _, rfl, ⟨p, c, rfl, hps⟩, by simp only [Cq.Qn.size]; omega, by simp only [Cq.Qn.wide, List.length_cons, List.length_nil]; omega⟩, rfl⟩
              ·
                have hc45p := ne_of_beq_false hc45
                refine Cj.skip ?_
                refine Ej.blkNormal ?_
                refine Ej.seq ?_
                refine Cj.seq ?_
                refine Cj.region ?_
                refine J.y (yl_loadAgg rfl rfl Tryz.isAgg28 Tryz.sizeOf28 (Blk.at 2 rfl) rfl rfl) rfl rfl rfl ?_
                refine J.op rfl (op_store 0 rfl rfl rfl rfl rfl rfl Tryz.sizeOf28 rfl rfl (LSpl.c (LSpl.c (LSpl.c (LSpl.c (LSpl.c LSpl.z))))) LSet.z ?_)
                refine J.nil ?_
                refine Ej.seq ?_
                refine Cj.ret ?_
                refine Ej.retCellK (Keeps.d (Keeps.d (Keeps.d Keeps.n))) rfl rfl rfl (Blk.at 0 rfl) Tryz.isAgg28 Tryz.sizeOf28 rfl ?_
                exact ⟨⟨⟨q.k, q.i, q.r, q.t, q.ps⟩, _, rfl, ⟨p, c, rfl, hps⟩, by simp only [Cq.Qn.size]; omega, by simp only [Cq.Qn.wide]; omega⟩, rfl⟩
  ·
    refine J.skip 4 16 17 true _ rfl rfl rfl hg4 rfl rfl ?_
    refine J.skip 4 16 18 true _ rfl rfl rfl hg4 rfl rfl ?_
    refine J.y (yl_pick0 rfl rfl hg4 rfl) rfl rfl rfl ?_
    refine J.nil ?_
    refine Ej.seq ?_
    refine Cj.cond rfl (fun hc46 => Bool.noConfusion (Eq.trans (Eq.symm rfl) hc46)) (fun hc46 => ?_)
    refine Cj.skip ?_
    refine Ej.seq ?_
    refine Cj.seq ?_
    refine Cj.seq ?_
    refine Cj.region ?_
    refine J.y (yl_move rfl rfl) rfl rfl rfl ?_
    refine J.nil ?_
    refine Ej.seq ?_
    refine Cj.block ?_
    refine Cj.seq ?_
    refine Cj.region ?_
    refine J.y (yl_eql rfl rfl rfl) rfl rfl rfl ?_
    refine J.y (yl_assign rfl rfl) rfl rfl rfl ?_
    refine J.nil ?_
    refine Ej.seq ?_
    refine Cj.cond rfl (fun hc47 => ?_) (fun hc47 => ?_)
    ·
      have hc47p := eq_of_beq hc47
      refine Cj.region ?_
      refine J.y (yl_indexArr (off' := 1) rfl rfl rfl Tryz.underlying38 Tryz.sizeOf3 (by decide) (by decide) (by decide)) rfl rfl rfl ?_
      refine J.y (yl_load rfl rfl Tryz.isAgg3 (Blk.at 1 rfl) rfl) rfl rfl rfl ?_
      refine J.y (yl_rem rfl rfl rfl (by omega)) rfl rfl rfl ?_
      refine J.y (yl_add rfl rfl rfl (w64 (by omega))) rfl rfl rfl ?_
      refine J.y (yl_rem rfl rfl rfl (by omega)) rfl rfl rfl ?_
      refine J.eqv 55 rfl (show _ = i64 (Cq.pickN y 7 : Nat) from (by rw [← hy7.1])) ?_
      refine J.y (yl_sub rfl rfl rfl (w64 (by omega))) rfl rfl rfl ?_
      refine J.y (yl_fieldAddr (off' := 0) rfl rfl Tryz.underlying28 rfl Tryz.sizeOf3 rfl) rfl rfl rfl ?_
      refine J.op rfl (op_store 2 rfl rfl rfl rfl rfl rfl Tryz.sizeOf3 rfl rfl (LSpl.c LSpl.z) (LSet.s (LSet.s LSet.z)) ?_)
      refine J.nil ?_
      refine Ej.blkNormal ?_
      refine Ej.seq ?_
      refine Cj.seq ?_
      refine Cj.region ?_
      refine J.y (yl_loadAgg rfl rfl Tryz.isAgg28 Tryz.sizeOf28 (Blk.at 2 rfl) rfl rfl) rfl rfl rfl ?_
      refine J.op rfl (op_store 0 rfl rfl rfl rfl rfl rfl Tryz.sizeOf28 rfl rfl (LSpl.c (LSpl.c (LSpl.c (LSpl.c (LSpl.c LSpl.z))))) LSet.z ?_)
      refine J.nil ?_
      refine Ej.seq ?_
      refine Cj.ret ?_
      refine Ej.retCellK (Keeps.d (Keeps.d (Keeps.d Keeps.n))) rfl rfl rfl (Blk.at 0 rfl) Tryz.isAgg28 Tryz.sizeOf28 rfl ?_
      exact ⟨⟨⟨(Cq.pickN y 7 : Int) - 1, q.i, q.r, q.t, q.ps⟩, _, rfl, ⟨p, c, rfl, hps⟩, by simp only [Cq.Qn.size]; omega, by simp only [Cq.Qn.wide]; omega⟩, rfl⟩
    ·
      have hc47p := ne_of_beq_false hc47
      refine Cj.seq ?_
      refine Cj.region ?_
      refine J.y (yl_eql rfl rfl rfl) rfl rfl rfl ?_
      refine J.y (yl_assign rfl rfl) rfl rfl rfl ?_
      refine J.nil ?_
      refine Ej.seq ?_
      refine Cj.cond rfl (fun hc48 => ?_) (fun hc48 => ?_)
      ·
        have hc48p := eq_of_beq hc48
        refine Cj.region ?_
        refine J.op rfl (op_buildSlice rfl rfl rfl Tryz.underlying44 Tryz.sizeOf9 Tryz.zeroValue9 rfl rfl rfl rfl (LCat.one rfl (LCat.one rfl (LCat.one rfl LCat.none))) ?_)
        intro b49 hb49
        refine J.y (yl_indexArr (off' := 1) rfl rfl rfl Tryz.underlying38 Tryz.sizeOf3 (by decide) (by decide) (by decide)) rfl rfl rfl ?_
        refine J.y (yl_load rfl rfl Tryz.isAgg3 (Blk.at 2 rfl) rfl) rfl rfl rfl ?_
        refine J.y (yl_rem rfl rfl rfl (by omega)) rfl rfl rfl ?_
        refine J.y (yl_add rfl rfl rfl (w64 (by omega))) rfl rfl rfl ?_
        refine J.y (yl_rem rfl rfl rfl (by omega)) rfl rfl rfl ?_
        refine J.eqv 65 rfl (show _ = i64 (Cq.pickN y 3 : Nat) from (by rw [← hy3.1])) ?_
        refine J.y (yl_indexAddr (off' := (Cq.pickN y 3)) rfl rfl rfl Tryz.underlying44 Tryz.sizeOf9 (by omega) (by omega) (by simp)) rfl rfl rfl ?_
        refine J.y (yl_load rfl rfl Tryz.isAgg9 (Blk.at 0 rfl) (idx_at (l := spI) hy3.2.1)) rfl rfl rfl ?_
        refine J.y (yl_fieldAddr (off' := 1) rfl rfl Tryz.underlying28 rfl Tryz.sizeOf9 rfl) rfl rfl rfl ?_
        refine J.op rfl (op_store 3 rfl rfl rfl rfl rfl rfl Tryz.sizeOf9 rfl rfl (LSpl.s (LSpl.c LSpl.z)) (LSet.s (LSet.s (LSet.s LSet.z))) ?_)
        refine J.nil ?_
        refine Ej.blkNormal ?_
        refine Ej.seq ?_
        refine Cj.seq ?_
        refine Cj.region ?_
        refine J.y (yl_loadAgg rfl rfl Tryz.isAgg28 Tryz.sizeOf28 (Blk.at 3 rfl) rfl rfl) rfl rfl rfl ?_
        refine J.op rfl (op_store 1 rfl rfl rfl rfl rfl rfl Tryz.sizeOf28 rfl rfl (LSpl.c (LSpl.c (LSpl.c (LSpl.c (LSpl.c LSpl.z))))) (LSet.s LSet.z) ?_)
        refine J.nil ?_
        refine Ej.seq ?_
        refine Cj.ret ?_
        refine Ej.retCellK (Keeps.d (Keeps.d (Keeps.d (Keeps.d Keeps.n)))) rfl rfl rfl (Blk.at 1 rfl) Tryz.isAgg28 Tryz.sizeOf28 rfl ?_
        exact ⟨⟨⟨q.k, spI.getD (Cq.pickN y 3) [], q.r, q.t, q.ps⟩, _, rfl, ⟨p, c, rfl, hps⟩, by simp only [Cq.Qn.size]; omega, by simp only [Cq.Qn.wide]; omega⟩, rfl⟩
      ·
        have hc48p := ne_of_beq_false hc48
        refine Cj.seq ?_
        refine Cj.region ?_
        refine J.y (yl_eql rfl rfl rfl) rfl rfl rfl ?_
        refine J.y (yl_assign rfl rfl) rfl rfl rfl ?_
        refine J.nil ?_
        refine Ej.seq ?_
        refine Cj.cond rfl (fun hc50 => ?_) (fun hc50 => ?_)
        ·
          have hc50p := eq_of_beq hc50
          refine Cj.region ?_
          refine J.op rfl (op_buildSlice rfl rfl rfl Tryz.underlying44 Tryz.sizeOf9 Tryz.zeroValue9 rfl rfl rfl rfl (LCat.one rfl (LCat.one rfl (LCat.one rfl (LCat.one rfl LCat.none)))) ?_)
          intro b51 hb51
          refine J.y (yl_indexArr (off' := 1) rfl rfl rfl Tryz.underlying38 Tryz.sizeOf3 (by decide) (by decide) (by decide)) rfl rfl rfl ?_
          refine J.y (yl_load rfl rfl Tryz.isAgg3 (Blk.at 2 rfl) rfl) rfl rfl rfl ?_
          refine J.y (yl_rem rfl rfl rfl (by omega)) rfl rfl rfl ?_
          refine J.y (yl_add rfl rfl rfl (w64 (by omega))) rfl rfl rfl ?_
          refine J.y (yl_rem rfl rfl rfl (by omega)) rfl rfl rfl ?_
          refine J.eqv 76 rfl (show _ = i64 (Cq.pickN y 4 : Nat) from (by rw [← hy4.1])) ?_
          refine J.y (yl_indexAddr (off' := (Cq.pickN y 4)) rfl rfl rfl Tryz.underlying44 Tryz.sizeOf9 (by omega) (by omega) (by simp)) rfl rfl rfl ?_
          refine J.y (yl_load rfl rfl Tryz.isAgg9 (Blk.at 0 rfl) (idx_at (l := spR) hy4.2.1)) rfl rfl rfl ?_
          refine J.y (yl_fieldAddr (off' := 2) rfl rfl Tryz.underlying28 rfl Tryz.sizeOf9 rfl) rfl rfl rfl ?_
          refine J.op rfl (op_store 3 rfl rfl rfl rfl rfl rfl Tryz.sizeOf9 rfl rfl (LSpl.s (LSpl.s (LSpl.c LSpl.z))) (LSet.s (LSet.s (LSet.s LSet.z))) ?_)
          refine J.nil ?_
          refine Ej.blkNormal ?_
          refine Ej.seq ?_
          refine Cj.seq ?_
          refine Cj.region ?_
          refine J.y (yl_loadAgg rfl rfl Tryz.isAgg28 Tryz.sizeOf28 (Blk.at 3 rfl) rfl rfl) rfl rfl rfl ?_
          refine J.op rfl (op_store 1 rfl rfl rfl rfl rfl rfl Tryz.sizeOf28 rfl rfl (LSpl.c (LSpl.c (LSpl.c (LSpl.c (LSpl.c LSpl.z))))) (LSet.s LSet.z) ?_)
          refine J.nil ?_
          refine Ej.seq ?_
          refine Cj.ret ?_
          refine Ej.retCellK (Keeps.d (Keeps.d (Keeps.d (Keeps.d Keeps.n)))) rfl rfl rfl (Blk.at 1 rfl) Tryz.isAgg28 Tryz.sizeOf28 rfl ?_
          exact ⟨⟨⟨q.k, q.i, spR.getD (Cq.pickN y 4) [], q.t, q.ps⟩, _, rfl, ⟨p, c, rfl, hps⟩, by simp only [Cq.Qn.size]; omega, by simp only [Cq.Qn.wide]; omega⟩, rfl⟩
        ·
          have hc50p := ne_of_beq_false hc50
          refine Cj.seq ?_
          refine Cj.region ?_
          refine J.y (yl_eql rfl rfl rfl) rfl rfl rfl ?_
          refine J.y (yl_assign rfl rfl) rfl rfl rfl ?_
          refine J.nil ?_
          refine Ej.seq ?_
          refine Cj.cond rfl (fun hc52 => ?_) (fun hc52 => ?_)
          ·
            have hc52p := eq_of_beq hc52
            refine Cj.region ?_
            refine J.op rfl (op_buildSlice0 rfl rfl rfl Tryz.underlying26 Tryz.sizeOf28 ?_)
            intro b53 hb53
            refine J.y (yl_fieldAddr (off' := 4) rfl rfl Tryz.underlying28 rfl Tryz.sizeOf26 rfl) rfl rfl rfl ?_
            refine J.y (yl_load rfl rfl Tryz.isAgg26 (Blk.at 3 rfl) rfl) rfl rfl rfl ?_
            obtain ⟨ys, hysl, hysq, hsrc⟩ := hps.src c
            refine J.pull (Pull.s (Pull.s (Pull.s Pull.z))) ?_
            refine J.pull (Pull.s (Pull.s (Pull.s Pull.z))) ?_
            refine J.pull (Pull.s (Pull.s (Pull.s Pull.z))) ?_
            refine J.op rfl (op_append (by' := 79) (n := 0) (g := some (b53, 0, [])) (xs := []) [_, _, _] rfl rfl rfl rfl rfl Tryz.underlying26 (.inr ⟨_, Tryz.underlying26⟩) (by kernel_rfl) Tryz.sizeOf28 Tryz.zeroValue28 rfl ⟨hb53, rfl, rfl⟩ rfl (hsrc _) (by have := Cq.Qs.len_size (ps := q.ps); unfold Cq.Qn.size at hsz; omega) ?_)
            intro g54 hg54
            refine J.y (yl_buildS (pl := #[(0, 1), (1, 1), (2, 1), (3, 1), (4, 1)]) rfl rfl Tryz.zeroValue28 rfl Tryz.underlying28 (fun w => by simp [Tryz.sizeOf26, Tryz.sizeOf3, Tryz.sizeOf9]) (LBld.part rfl rfl rfl (LSpl.c LSpl.z) (LBld.part rfl rfl rfl (LSpl.s (LSpl.c LSpl.z)) (LBld.part rfl rfl rfl (LSpl.s (LSpl.s (LSpl.c LSpl.z))) LBld.none)))) rfl rfl rfl ?_
            refine J.op rfl (op_buildSlice rfl rfl rfl Tryz.underlying26 Tryz.sizeOf28 Tryz.zeroValue28 rfl rfl rfl rfl (LCat.agg rfl LCat.none) ?_)
            intro b55 hb55
            refine J.op rfl (op_append (by' := 79) [_, _, _, _] rfl rfl rfl rfl rfl Tryz.underlying26 (.inr ⟨_, Tryz.underlying26⟩) (by kernel_rfl) Tryz.sizeOf28 Tryz.zeroValue28 rfl hg54 rfl (Src.slice (Blk.at 0 rfl) rfl rfl rfl) (by have := Cq.Qs.len_size (ps := q.ps); unfold Cq.Qn.size at hsz; omega) ?_)
            intro g56 hg56
            obtain ⟨bg57, cg58, sp59, rfl, hbg57⟩ := hg56.some (by omega)
            refine J.eqv 88 rfl (show _ = .slice (some ⟨bg57, 0, none⟩) (q.ps.app ((⟨1, [97, 110, 121], [61], [], .nil⟩ : Cq.Qn).push .nil)).len cg58 from by rw [Cq.Qs.app_len]; simp only [Nat.zero_add, gV]; rfl) ?_
            refine J.y (yl_fieldAddr (off' := 4) rfl rfl Tryz.underlying28 rfl Tryz.sizeOf26 rfl) rfl rfl rfl ?_
            refine J.op rfl (op_store 3 rfl rfl rfl rfl rfl rfl Tryz.sizeOf26 rfl rfl (LSpl.s (LSpl.s (LSpl.s (LSpl.s (LSpl.c LSpl.z))))) (LSet.s (LSet.s (LSet.s LSet.z))) ?_)
            refine J.nil ?_
            refine Ej.blkNormal ?_
            refine Ej.seq ?_
            refine Cj.seq ?_
            refine Cj.region ?_
            refine J.pull (Pull.s (Pull.s (Pull.s (Pull.s Pull.z)))) ?_
            refine J.persist hbg57 (fun I61 hle60 hbg57i => ?_)
            have hps := hps.mono hle60
            have hysq := hysq.mono hle60
            refine J.y (yl_loadAgg rfl rfl Tryz.isAgg28 Tryz.sizeOf28 (Blk.at 3 rfl) rfl rfl) rfl rfl rfl ?_
            refine J.op rfl (op_store 1 rfl rfl rfl rfl rfl rfl Tryz.sizeOf28 rfl rfl (LSpl.c (LSpl.c (LSpl.c (LSpl.c (LSpl.c LSpl.z))))) (LSet.s LSet.z) ?_)
            refine J.nil ?_
            refine Ej.seq ?_
            refine Cj.ret ?_
            refine Ej.retCellK (Keeps.d (Keeps.d (Keeps.d (Keeps.d Keeps.n)))) rfl rfl rfl (Blk.at 1 rfl) Tryz.isAgg28 Tryz.sizeOf28 rfl ?_
            exact ⟨⟨⟨q.k, q.i, q.r, q.t, q.ps.app ((⟨1, [97, 110, 121], [61], [], .nil⟩ : Cq.Qn).push .nil)⟩, _, rfl, ⟨some ⟨bg57, 0, none⟩, cg58, rfl, PS.snoc hysl hysq (.inl rfl) hbg57i⟩, by simp only [Cq.Qn.size, Cq.Qs.app_size, Cq.Qn.push, Cq.Qs.size]; omega, by simp only [Cq.Qn.wide, Cq.Qs.app_wide, Cq.Qn.push, Cq.Qs.wide, List.length_cons, List.length_nil]; omega⟩, rfl⟩
          ·
            have hc52p := ne_of_beq_false hc52
            refine Cj.seq ?_
            refine Cj.region ?_
            refine J.y (yl_eql rfl rfl rfl) rfl rfl rfl ?_
            refine J.y (yl_assign rfl rfl) rfl rfl rfl ?_
            refine J.nil ?_
            refine Ej.seq ?_
            refine Cj.cond rfl (fun hc62 => ?_) (fun hc62 => ?_)
            ·
              have hc62p := eq_of_beq hc62
              refine Cj.region ?_
              refine J.y (yl_fieldAddr (off' := 3) rfl rfl Tryz.underlying28 rfl Tryz.sizeOf9 rfl) rfl rfl rfl ?_
              refine J.op rfl (op_store 2 rfl rfl rfl rfl rfl rfl Tryz.sizeOf9 rfl rfl (LSpl.s (LSpl.s (LSpl.s (LSpl.c LSpl.z)))) (LSet.s (LSet.s LSet.z)) ?_)
              refine J.nil ?_
              refine Ej.blkNormal ?_
              refine Ej.seq ?_
              refine Cj.seq ?_
              refine Cj.region ?_
              refine J.y (yl_loadAgg rfl rfl Tryz.isAgg28 Tryz.sizeOf28 (Blk.at 2 rfl) rfl rfl) rfl rfl rfl ?_
              refine J.op rfl (op_store 0 rfl rfl rfl rfl rfl rfl Tryz.sizeOf28 rfl rfl (LSpl.c (LSpl.c (LSpl.c (LSpl.c (LSpl.c LSpl.z))))) LSet.z ?_)
              refine J.nil ?_
              refine Ej.seq ?_
              refine Cj.ret ?_
              refine Ej.retCellK (Keeps.d (Keeps.d (Keeps.d Keeps.n))) rfl rfl rfl (Blk.at 0 rfl) Tryz.isAgg28 Tryz.sizeOf28 rfl ?_
              exact ⟨⟨⟨q.k, q.i, q.r, [109, 111, 114, 101], q.ps⟩, _, rfl, ⟨p, c, rfl, hps⟩, by simp only [Cq.Qn.size]; omega, by simp only [Cq.Qn.wide, List.length_cons, List.length_nil]; omega⟩, rfl⟩
            ·
              have hc62p := ne_of_beq_false hc62
              refine Cj.skip ?_
              refine Ej.blkNormal ?_
              refine Ej.seq ?_
              refine Cj.seq ?_
              refine Cj.region ?_
              refine J.y (yl_loadAgg rfl rfl Tryz.isAgg28 Tryz.sizeOf28 (Blk.at 2 rfl) rfl rfl) rfl rfl rfl ?_
              refine J.op rfl (op_store 0 rfl rfl rfl rfl rfl rfl Tryz.sizeOf28 rfl rfl (LSpl.c (LSpl.c (LSpl.c (LSpl.c (LSpl.c LSpl.z))))) LSet.z ?_)
              refine J.nil ?_
              refine Ej.seq ?_
              refine Cj.ret ?_
              refine Ej.retCellK (Keeps.d (Keeps.d (Keeps.d Keeps.n))) rfl rfl rfl (Blk.at 0 rfl) Tryz.isAgg28 Tryz.sizeOf28 rfl ?_
              exact ⟨⟨⟨q.k, q.i, q.r, q.t, q.ps⟩, _, rfl, ⟨p, c, rfl, hps⟩, by simp only [Cq.Qn.size]; omega, by simp only [Cq.Qn.wide]; omega⟩, rfl⟩

theorem Spoiled_ok (q : Cq.Qn) : SpSpec q := by
  suffices ∀ n (q : Cq.Qn), q.size < n → SpSpec q from this _ q (Nat.lt_succ_self _)
  intro n
  induction n with
  | zero => intro q h; omega
  | succ n ih => intro q h; exact spoiled_step q fun q' h' => ih q' (by omega)

set_option maxRecDepth 20000 in
theorem Prints_ok (l : List Int) (v : Value) (c0 c1 c2 c3 wk : Int) (wi wr wt : List UInt8) (h0 : Rng c0) (h1 : Rng c1) (h2 : Rng c2) (h3 : Rng c3) (hwt : wi.length + wr.length + wt.length ≤ 2000000) (I : Heap) (ht : Tabs I) (hl : IntSl I l v) :
    Pure Tryz.prog 6 [v, .agg #[i64 c0, i64 c1, i64 c2, i64 c3], .agg #[i64 wk, str wi, str wr, str wt]] I (.bool true) := by
  refine Ctr.toPure ?_
  obtain ⟨hf, hd, hw, hz⟩ := Cq.madeQ_form l
  have hwd := Cq.wide_write hf
  refine Ctr.of_body Tryz.func6 rfl (by decide) (Nat.le_of_ble_eq_true rfl) ?_
  intro w0 hw0
  refine Cj.seq ?_
  refine Cj.region ?_
  refine J.op rfl (op_box rfl rfl rfl rfl rfl ?_)
  intro b1 hb1
  refine J.op rfl (op_box rfl rfl rfl rfl rfl ?_)
  intro b2 hb2
  refine J.y (yl_assign rfl rfl) rfl rfl rfl ?_
  refine J.nil ?_
  refine Ej.seq ?_
  refine Cj.seq ?_
  refine Cj.region ?_
  refine J.op rfl (op_pure rfl rfl rfl rfl rfl (sanity_ok _ ht) ?_)
  refine J.y (yl_assign rfl rfl) rfl rfl rfl ?_
  refine J.nil ?_
  refine Ej.seq ?_
  refine Cj.seq ?_
  refine Cj.region ?_
  refine J.y (yl_move rfl rfl) rfl rfl rfl ?_
  refine J.op rfl (op_call (H1 := []) rfl rfl rfl rfl rfl (Made_ok v l _ hl) ?_ (fun _ _ _ _ h => by obtain ⟨⟨_, h, _⟩, _⟩ := h; cases h) (fun _ _ h => by obtain ⟨⟨_, h, _⟩, _⟩ := h; cases h))
  intro v3 I4 H5 hle6 hp7
  have ht := ht.mono hle6
  have hl := hl.mono hle6
  obtain ⟨⟨w, h, pp, cc, rfl, hps⟩, rfl⟩ := hp7; cases h
  refine J.op rfl (op_alloc rfl rfl rfl Tryz.zeroValue28 rfl ?_)
  intro b8 hb8
  refine J.op rfl (op_store 0 rfl rfl rfl rfl rfl rfl Tryz.sizeOf28 rfl rfl (LSpl.c (LSpl.c (LSpl.c (LSpl.c (LSpl.c LSpl.z))))) LSet.z ?_)
  refine J.nil ?_
  refine Ej.seq ?_
  refine Cj.seq ?_
  refine Cj.region ?_
  refine J.y (yl_loadAgg rfl rfl Tryz.isAgg28 Tryz.sizeOf28 (Blk.at 0 rfl) rfl rfl) rfl rfl rfl ?_
  refine J.y (yl_indexArr (off' := 0) rfl rfl rfl Tryz.underlying39 Tryz.sizeOf38 (by decide) (by decide) (by decide)) rfl rfl rfl ?_
  refine J.y (yl_loadAgg rfl rfl Tryz.isAgg38 Tryz.sizeOf38 (Blk.at 2 rfl) rfl rfl) rfl rfl rfl ?_
  refine J.op rfl (op_call (H1 := []) rfl rfl rfl rfl rfl (Spoiled_ok (Cq.madeQ l) pp cc c0 c1 _ hps (by omega) h0 h1) ?_ (fun _ _ _ _ h => by obtain ⟨⟨_, _, h, _⟩, _⟩ := h; cases h) (fun _ _ h => by obtain ⟨⟨_, _, h, _⟩, _⟩ := h; cases h))
  intro v9 I10 H11 hle12 hp13
  have ht := ht.mono hle12
  have hl := hl.mono hle12
  have hps := hps.mono hle12
  obtain ⟨⟨r, v9x, hv9, ⟨pr, cr, rfl, hpsr⟩, hzr, hwr⟩, rfl⟩ := hp13; cases hv9
  refine J.op rfl (op_alloc rfl rfl rfl Tryz.zeroValue28 rfl ?_)
  intro b14 hb14
  refine J.op rfl (op_store 0 rfl rfl rfl rfl rfl rfl Tryz.sizeOf28 rfl rfl (LSpl.c (LSpl.c (LSpl.c (LSpl.c (LSpl.c LSpl.z))))) LSet.z ?_)
  refine J.nil ?_
  refine Ej.seq ?_
  refine Cj.seq ?_
  refine Cj.region ?_
  refine J.y (yl_loadAgg rfl rfl Tryz.isAgg28 Tryz.sizeOf28 (Blk.at 0 rfl) rfl rfl) rfl rfl rfl ?_
  refine J.y (yl_indexArr (off' := 2) rfl rfl rfl Tryz.underlying39 Tryz.sizeOf38 (by decide) (by decide) (by decide)) rfl rfl rfl ?_
  refine J.y (yl_loadAgg rfl rfl Tryz.isAgg38 Tryz.sizeOf38 (Blk.at 3 rfl) rfl rfl) rfl rfl rfl ?_
  refine J.op rfl (op_call (H1 := []) rfl rfl rfl rfl rfl (Spoiled_ok r pr cr c2 c3 _ hpsr (by omega) h2 h3) ?_ (fun _ _ _ _ h => by obtain ⟨⟨_, _, h, _⟩, _⟩ := h; cases h) (fun _ _ h => by obtain ⟨⟨_, _, h, _⟩, _⟩ := h; cases h))
  intro v15 I16 H17 hle18 hp19
  have ht := ht.mono hle18
  have hl := hl.mono hle18
  have hps := hps.mono hle18
  have hpsr := hpsr.mono hle18
  obtain ⟨⟨s, v15x, hv15, ⟨ps, cs, rfl, hpss⟩, hzs, hws⟩, rfl⟩ := hp19; cases hv15
  refine J.op rfl (op_alloc rfl rfl rfl Tryz.zeroValue28 rfl ?_)
  intro b20 hb20
  refine J.op rfl (op_store 0 rfl rfl rfl rfl rfl rfl Tryz.sizeOf28 rfl rfl (LSpl.c (LSpl.c (LSpl.c (LSpl.c (LSpl.c LSpl.z))))) LSet.z ?_)
  refine J.nil ?_
  refine Ej.seq ?_
  refine Cj.seq ?_
  refine Cj.region ?_
  refine J.y (yl_fieldAddr (off' := 0) rfl rfl Tryz.underlying41 rfl Tryz.sizeOf3 rfl) rfl rfl rfl ?_
  refine J.y (yl_load rfl rfl Tryz.isAgg3 (Blk.at 3 rfl) rfl) rfl rfl rfl ?_
  refine J.y (yl_fieldAddr (off' := 1) rfl rfl Tryz.underlying41 rfl Tryz.sizeOf9 rfl) rfl rfl rfl ?_
  refine J.y (yl_load rfl rfl Tryz.isAgg9 (Blk.at 3 rfl) rfl) rfl rfl rfl ?_
  refine J.y (yl_fieldAddr (off' := 2) rfl rfl Tryz.underlying41 rfl Tryz.sizeOf9 rfl) rfl rfl rfl ?_
  refine J.y (yl_load rfl rfl Tryz.isAgg9 (Blk.at 3 rfl) rfl) rfl rfl rfl ?_
  refine J.y (yl_fieldAddr (off' := 3) rfl rfl Tryz.underlying41 rfl Tryz.sizeOf9 rfl) rfl rfl rfl ?_
  refine J.y (yl_load rfl rfl Tryz.isAgg9 (Blk.at 3 rfl) rfl) rfl rfl rfl ?_
  refine J.y (yl_buildS (pl := #[(0, 1), (1, 1), (2, 1), (3, 1), (4, 1)]) rfl rfl Tryz.zeroValue28 rfl Tryz.underlying28 (fun w => by simp [Tryz.sizeOf26, Tryz.sizeOf3, Tryz.sizeOf9]) (LBld.part rfl rfl rfl (LSpl.c LSpl.z) (LBld.part rfl rfl rfl (LSpl.s (LSpl.c LSpl.z)) (LBld.part rfl rfl rfl (LSpl.s (LSpl.s (LSpl.c LSpl.z))) (LBld.part rfl rfl rfl (LSpl.s (LSpl.s (LSpl.s (LSpl.c LSpl.z)))) LBld.none))))) rfl rfl rfl ?_
  refine J.op rfl (op_alloc rfl rfl rfl Tryz.zeroValue28 rfl ?_)
  intro b21 hb21
  refine J.op rfl (op_store 0 rfl rfl rfl rfl rfl rfl Tryz.sizeOf28 rfl rfl (LSpl.c (LSpl.c (LSpl.c (LSpl.c (LSpl.c LSpl.z))))) LSet.z ?_)
  refine J.nil ?_
  refine Ej.seq ?_
  refine Cj.seq ?_
  refine Cj.region ?_
  refine J.y (yl_loadAgg rfl rfl Tryz.isAgg28 Tryz.sizeOf28 (Blk.at 3 rfl) rfl rfl) rfl rfl rfl ?_
  refine J.y (yl_loadAgg rfl rfl Tryz.isAgg28 Tryz.sizeOf28 (Blk.at 2 rfl) rfl rfl) rfl rfl rfl ?_
  refine J.y (yl_loadAgg rfl rfl Tryz.isAgg28 Tryz.sizeOf28 (Blk.at 1 rfl) rfl rfl) rfl rfl rfl ?_
  refine J.y (yl_loadAgg rfl rfl Tryz.isAgg28 Tryz.sizeOf28 (Blk.at 0 rfl) rfl rfl) rfl rfl rfl ?_
  refine J.y (yl_loadAgg rfl rfl Tryz.isAgg28 Tryz.sizeOf28 (Blk.at 0 rfl) rfl rfl) rfl rfl rfl ?_
  refine J.y (yl_loadAgg rfl rfl Tryz.isAgg28 Tryz.sizeOf28 (Blk.at 3 rfl) rfl rfl) rfl rfl rfl ?_
  refine J.op rfl (op_buildSlice rfl rfl rfl Tryz.underlying26 Tryz.sizeOf28 Tryz.zeroValue28 rfl rfl rfl rfl (LCat.agg rfl (LCat.agg rfl LCat.none)) ?_)
  intro b22 hb22
  refine J.persist hb22 (fun I24 hle23 hb22i => ?_)
  have ht := ht.mono hle23
  have hl := hl.mono hle23
  have hps := hps.mono hle23
  have hpsr := hpsr.mono hle23
  have hpss := hpss.mono hle23
  refine J.y (yl_buildS (pl := #[(0, 1), (1, 1), (2, 1), (3, 1), (4, 1)]) rfl rfl Tryz.zeroValue28 rfl Tryz.underlying28 (fun w => by simp [Tryz.sizeOf26, Tryz.sizeOf3, Tryz.sizeOf9]) (LBld.part rfl rfl rfl (LSpl.c LSpl.z) (LBld.part rfl rfl rfl (LSpl.s (LSpl.s (LSpl.s (LSpl.s (LSpl.c LSpl.z))))) LBld.none))) rfl rfl rfl ?_
  refine J.op rfl (op_buildSlice rfl rfl rfl Tryz.underlying26 Tryz.sizeOf28 Tryz.zeroValue28 rfl rfl rfl rfl (LCat.agg rfl (LCat.agg rfl (LCat.agg rfl (LCat.agg rfl (LCat.agg rfl LCat.none))))) ?_)
  intro b25 hb25
  refine J.persist hb25 (fun I27 hle26 hb25i => ?_)
  have ht := ht.mono hle26
  have hl := hl.mono hle26
  have hps := hps.mono hle26
  have hpsr := hpsr.mono hle26
  have hpss := hpss.mono hle26
  have hb22i := hle26 _ _ hb22i
  have hfive : Five I27 b25 3000000 := by
    refine ⟨_, _, _, hb25i, fun j hj => ?_⟩
    obtain rfl | rfl | rfl | rfl | rfl : j = 0 ∨ j = 1 ∨ j = 2 ∨ j = 3 ∨ j = 4 := by omega
    · exact ⟨Cq.madeQ l, pp, cc, rfl, hps, by omega, by omega⟩
    · exact ⟨r, pr, cr, rfl, hpsr, by omega, by omega⟩
    · exact ⟨s, ps, cs, rfl, hpss, by omega, by omega⟩
    · exact ⟨⟨wk, wi, wr, wt, .nil⟩, none, 0, rfl, .inl rfl, by simp [Cq.Qn.size, Cq.Qs.size], by simp only [Cq.Qn.wide, Cq.Qs.wide]; omega⟩
    · exact ⟨⟨3, [], [], [], (⟨wk, wi, wr, wt, .nil⟩ : Cq.Qn).push ((Cq.madeQ l).push .nil)⟩, some ⟨b22, 0, none⟩, 2, rfl, PS.two (a := ⟨wk, wi, wr, wt, .nil⟩) (b := Cq.madeQ l) (pa := none) (ca := 0) (.inl rfl) hps hb22i, by simp only [Cq.Qn.size, Cq.Qn.push, Cq.Qs.size] at *; omega, by simp only [Cq.Qn.wide, Cq.Qn.push, Cq.Qs.wide, List.length_nil] at *; omega⟩
  refine J.y (yl_assign rfl rfl) rfl rfl rfl ?_
  refine J.nil ?_
  refine Ej.seq ?_
  refine Cj.seq ?_
  refine Cj.seq ?_
  refine Cj.region ?_
  refine J.y (yl_assign rfl rfl) rfl rfl rfl ?_
  refine J.nil ?_
  refine Ej.seq ?_
  refine Cj.block ?_
  refine Cj.keep (Keeps.d (Keeps.d (Keeps.d (Keeps.d (Keeps.d (Keeps.d Keeps.n)))))) ?_
  refine Cj.loop (ι := Nat) (fun j => j ≤ 5) (fun j => 5 - j) (fun j => [(7, .bool true), (12, .slice (some ⟨b25, 0, none⟩) 5 5), (13, i64 (j : Int))]) (fun j => _) (fun j => []) 0 (Nat.zero_le _) ⟨rfl, rfl, rfl, trivial⟩ rfl rfl ?_
  intro j hj
  refine Cj.seq ?_
  refine Cj.seq ?_
  refine Cj.region ?_
  refine J.y (yl_move rfl rfl) rfl rfl rfl ?_
  refine J.y (yl_move rfl rfl) rfl rfl rfl ?_
  refine J.y (yl_lenSlice rfl rfl Tryz.underlying26) rfl rfl rfl ?_
  refine J.y (yl_lss rfl rfl rfl) rfl rfl rfl ?_
  refine J.nil ?_
  refine Ej.seq ?_
  refine Cj.cond rfl (fun hc28 => ?_) (fun hc28 => ?_)
  ·
    have hc28p := of_decide_eq_true hc28
    have hj5 : j < 5 := by have := of_decide_eq_true hc28; omega
    obtain ⟨cs0, TT, fr, hbl, hall⟩ := id hfive
    obtain ⟨x, px, cx, hcl, hpx, hxs, hxw⟩ := hall j hj5
    have hxd := Cq.depth_le_size x
    have hxl : Cq.form x = true → (Cq.write x).length ≤ 100000000 := fun hf => by have := Cq.write_le hf; omega
    refine Cj.skip ?_
    refine Ej.seq ?_
    refine Cj.seq ?_
    refine Cj.block ?_
    refine Cj.seq ?_
    refine Cj.drawSel [] [] 24 (by kernel_rfl) ?_
    have hbl_10 := hbl
    refine JA.take 0 rfl rfl (by kernel_rfl) (by kernel_rfl) (by kernel_rfl) (fun _ _ _ h => h) rfl rfl rfl HSub.n CSub.n (Le.refl _) (yl_move rfl rfl) ?_
    refine JA.take 1 rfl rfl (by kernel_rfl) (by kernel_rfl) (by kernel_rfl) (fun _ _ _ h => h) rfl rfl rfl HSub.n CSub.n (Le.refl _) (yl_move rfl rfl) ?_
    refine JA.take 2 rfl rfl (by kernel_rfl) (by kernel_rfl) (by kernel_rfl) (fun _ _ _ h => h) rfl rfl rfl HSub.n CSub.n (Le.refl _) (yl_indexAddr (off' := (0 + j * 5)) rfl rfl rfl Tryz.underlying26 Tryz.sizeOf28 (by omega) (by omega) (by simp)) ?_
    refine JA.take 3 rfl rfl (by kernel_rfl) (by kernel_rfl) (by kernel_rfl) (fun _ _ _ h => h) rfl rfl rfl HSub.n CSub.n (Le.refl _) (yl_loadAgg rfl rfl Tryz.isAgg28 Tryz.sizeOf28 (Blk.immC hbl_10) hcl rfl) ?_
    refine JA.take 5 rfl rfl (by kernel_rfl) (by kernel_rfl) (by kernel_rfl) (fun _ _ _ h => h) rfl rfl rfl HSub.n CSub.n (Le.refl _) (yl_move rfl rfl) ?_
    refine JA.take 6 rfl rfl (by kernel_rfl) (by kernel_rfl) (by kernel_rfl) (fun _ _ _ h => h) rfl rfl rfl HSub.n CSub.n (Le.refl _) (yl_move rfl rfl) ?_
    refine JA.take 7 rfl rfl (by kernel_rfl) (by kernel_rfl) (by kernel_rfl) (fun _ _ _ h => h) rfl rfl rfl HSub.n CSub.n (Le.refl _) (yl_indexAddr (off' := (0 + j * 5)) rfl rfl rfl Tryz.underlying26 Tryz.sizeOf28 (by omega) (by omega) (by simp)) ?_
    refine JA.take 8 rfl rfl (by kernel_rfl) (by kernel_rfl) (by kernel_rfl) (fun _ _ _ h => h) rfl rfl rfl HSub.n CSub.n (Le.refl _) (yl_loadAgg rfl rfl Tryz.isAgg28 Tryz.sizeOf28 (Blk.immC hbl_10) hcl rfl) ?_
    refine JA.step 4 (by kernel_rfl) rfl rfl (op_pure rfl rfl rfl rfl rfl (cPrint_ok x px cx (by omega) (by omega) (fun hf => by have := hxl hf; omega) _ hpx) ?_)
    refine ⟨⟨(Le.refl _), HSub.n, CSub.n⟩, ?_⟩
    refine JA.step 9 (by kernel_rfl) rfl rfl (op_pure rfl rfl rfl rfl rfl (Print_ok x px cx (by omega) (fun hf => by have := hxl hf; omega) _ hpx) ?_)
    refine ⟨⟨(Le.refl _), HSub.n, CSub.n⟩, ?_⟩
    refine JA.take 10 rfl rfl (by kernel_rfl) (by kernel_rfl) (by kernel_rfl) (fun _ _ _ h => h) rfl rfl rfl HSub.n CSub.n (Le.refl _) (yl_neqStr rfl rfl rfl) ?_
    refine JA.eqv 59 rfl (show _ = .bool false from (congrArg Value.bool (bne_self_eq_false _))) ?_
    refine JA.take 11 rfl rfl (by kernel_rfl) (by kernel_rfl) (by kernel_rfl) (fun _ _ _ h => h) rfl rfl rfl HSub.n CSub.n (Le.refl _) (yl_move rfl rfl) ?_
    refine JA.takeG 12 11 60 false _ rfl rfl (by kernel_rfl) (by kernel_rfl) (by kernel_rfl) (fun _ _ _ h => h) rfl rfl rfl rfl rfl rfl HSub.n CSub.n (Le.refl _) (yl_move rfl rfl) ?_
    refine JA.takeG 13 11 60 false _ rfl rfl (by kernel_rfl) (by kernel_rfl) (by kernel_rfl) (fun _ _ _ h => h) rfl rfl rfl rfl rfl rfl HSub.n CSub.n (Le.refl _) (yl_move rfl rfl) ?_
    refine JA.takeG 14 11 60 false _ rfl rfl (by kernel_rfl) (by kernel_rfl) (by kernel_rfl) (fun _ _ _ h => h) rfl rfl rfl rfl rfl rfl HSub.n CSub.n (Le.refl _) (yl_indexAddr (off' := (0 + j * 5)) rfl rfl rfl Tryz.underlying26 Tryz.sizeOf28 (by omega) (by omega) (by simp)) ?_
    refine JA.takeG 15 11 60 false _ rfl rfl (by kernel_rfl) (by kernel_rfl) (by kernel_rfl) (fun _ _ _ h => h) rfl rfl rfl rfl rfl rfl HSub.n CSub.n (Le.refl _) (yl_loadAgg rfl rfl Tryz.isAgg28 Tryz.sizeOf28 (Blk.immC hbl_10) hcl rfl) ?_
    refine JA.takeG 17 11 60 false _ rfl rfl (by kernel_rfl) (by kernel_rfl) (by kernel_rfl) (fun _ _ _ h => h) rfl rfl rfl rfl rfl rfl HSub.n CSub.n (Le.refl _) (yl_move rfl rfl) ?_
    refine JA.takeG 18 11 60 false _ rfl rfl (by kernel_rfl) (by kernel_rfl) (by kernel_rfl) (fun _ _ _ h => h) rfl rfl rfl rfl rfl rfl HSub.n CSub.n (Le.refl _) (yl_move rfl rfl) ?_
    refine JA.takeG 19 11 60 false _ rfl rfl (by kernel_rfl) (by kernel_rfl) (by kernel_rfl) (fun _ _ _ h => h) rfl rfl rfl rfl rfl rfl HSub.n CSub.n (Le.refl _) (yl_indexAddr (off' := (0 + j * 5)) rfl rfl rfl Tryz.underlying26 Tryz.sizeOf28 (by omega) (by omega) (by simp)) ?_
    refine JA.takeG 20 11 60 false _ rfl rfl (by kernel_rfl) (by kernel_rfl) (by kernel_rfl) (fun _ _ _ h => h) rfl rfl rfl rfl rfl rfl HSub.n CSub.n (Le.refl _) (yl_loadAgg rfl rfl Tryz.isAgg28 Tryz.sizeOf28 (Blk.immC hbl_10) hcl rfl) ?_
    refine JA.stepG 16 11 60 false _ (by kernel_rfl) rfl rfl rfl rfl rfl (op_pure rfl rfl rfl rfl rfl (cRight_ok x px cx (by omega) (by omega) _ hpx) ?_)
    refine ⟨⟨(Le.refl _), HSub.n, CSub.n⟩, ?_⟩
    refine JA.stepG 21 11 60 false _ (by kernel_rfl) rfl rfl rfl rfl rfl (op_pure rfl rfl rfl rfl rfl (Right_ok x px cx (by omega) _ hpx) ?_)
    refine ⟨⟨(Le.refl _), HSub.n, CSub.n⟩, ?_⟩
    refine JA.takeG 22 11 60 false _ rfl rfl (by kernel_rfl) (by kernel_rfl) (by kernel_rfl) (fun _ _ _ h => h) rfl rfl rfl rfl rfl rfl HSub.n CSub.n (Le.refl _) (yl_neqBool rfl rfl rfl Tryz.underlying4) ?_
    refine JA.eqv 71 rfl (show _ = .bool false from (congrArg Value.bool (bne_self_eq_false _))) ?_
    refine JA.take 23 rfl rfl (by kernel_rfl) (by kernel_rfl) (by kernel_rfl) (fun _ _ _ h => h) rfl rfl rfl HSub.n CSub.n (Le.refl _) (yl_pick0 rfl rfl rfl rfl) ?_
    refine JA.done (by kernel_rfl) ?_
    refine Ej.seq ?_
    refine Cj.cond rfl (fun hc29 => Bool.noConfusion (Eq.trans (Eq.symm rfl) hc29)) (fun hc29 => ?_)
    refine Cj.skip ?_
    refine Ej.blkNormal ?_
    refine Ej.seq ?_
    refine Cj.region ?_
    refine J.y (yl_move rfl rfl) rfl rfl rfl ?_
    refine J.y (yl_add rfl rfl rfl (w64 (by omega))) rfl rfl rfl ?_
    refine J.y (yl_assign rfl rfl) rfl rfl rfl ?_
    refine J.nil ?_
    refine Ej.round (j + 1) (by omega) (by omega) ⟨rfl, rfl, rfl, trivial⟩ rfl rfl
  ·
    have hc28p := of_decide_eq_false hc28
    refine Cj.exit ?_
    refine Ej.seqExit ?_
    refine Ej.loopExit ?_
    refine Ej.blkExit ?_
    refine Ej.seq ?_
    refine Cj.seq ?_
    refine Cj.region ?_
    refine J.y (yl_move rfl rfl) rfl rfl rfl ?_
    refine J.y (yl_assign rfl rfl) rfl rfl rfl ?_
    refine J.nil ?_
    refine Ej.seq ?_
    refine Cj.ret ?_
    refine Ej.ret1 rfl rfl rfl ?_
    exact ⟨rfl, rfl⟩

end Go.Proofs.YtlfpehljahgbkaaGreatDoor
