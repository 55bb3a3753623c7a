/-
  Contracts of the reference's text, print, Print, Same. Own text, printed by a program. Conditions: none.
-/
import Derived.Test.YtlfpehljahgbkaaGreatDoorCqF
namespace Go.Proofs.YtlfpehljahgbkaaGreatDoor
open Go Go.Sx
set_option maxRecDepth 20000 in
theorem text_ok (s : List UInt8) (hs : s.length ≤ 1000000000000) (I : Heap) : Pure Tryz.prog 42 [str s] I (str (Cq.text s)) := by
  refine Ctr.toPure ?_
  refine Ctr.of_body Tryz.func42 rfl (by decide) (Nat.le_of_ble_eq_true rfl) ?_
  intro w0 hw0
  refine Cj.seq ?_
  refine Cj.region ?_
  refine J.y (yl_assign rfl rfl) rfl rfl rfl ?_
  refine J.nil ?_
  refine Ej.seq ?_
  refine Cj.seq ?_
  refine Cj.region ?_
  refine J.y (yl_assign rfl rfl) rfl rfl rfl ?_
  refine J.nil ?_
  refine Ej.seq ?_
  refine Cj.seq ?_
  refine Cj.seq ?_
  refine Cj.region ?_
  refine J.y (yl_assign rfl rfl) rfl rfl rfl ?_
  refine J.nil ?_
  refine Ej.seq ?_
  refine Cj.block ?_
  refine Cj.loop (ι := Nat) (fun k => k ≤ s.length) (fun k => s.length - k) (fun k => [(0, str s), (3, str (Cq.escape (s.take k))), (4, i64 (k : Int))]) (fun k => I) (fun k => []) 0 (Nat.zero_le _) ⟨rfl, rfl, rfl, trivial⟩ rfl rfl ?_
  intro k hk
  have hel := (Cq.escape_len (s.take k)).2; rw [List.length_take] at hel
  refine Cj.seq ?_
  refine Cj.seq ?_
  refine Cj.region ?_
  refine J.y (yl_move rfl rfl) rfl rfl rfl ?_
  refine J.y (yl_move rfl rfl) rfl rfl rfl ?_
  refine J.y (yl_lenStr rfl rfl Tryz.underlying9) rfl rfl rfl ?_
  refine J.y (yl_lss rfl rfl rfl) rfl rfl rfl ?_
  refine J.nil ?_
  refine Ej.seq ?_
  refine Cj.cond rfl (fun hc1 => ?_) (fun hc1 => ?_)
  ·
    have hc1p := of_decide_eq_true hc1
    have hlt : k < s.length := by omega
    obtain ⟨c, hget⟩ : ∃ c, s[k]? = some c := ⟨_, List.getElem?_eq_getElem hlt⟩
    refine Cj.skip ?_
    refine Ej.seq ?_
    refine Cj.seq ?_
    refine Cj.block ?_
    refine Cj.seq ?_
    refine Cj.seq ?_
    refine Cj.region ?_
    refine J.y (yl_move rfl rfl) rfl rfl rfl ?_
    refine J.y (yl_move rfl rfl) rfl rfl rfl ?_
    refine J.y (yl_index rfl rfl rfl Tryz.underlying9 (by omega) hget) rfl rfl rfl ?_
    refine J.y (yl_eql rfl rfl rfl) rfl rfl rfl ?_
    refine J.y (yl_move rfl rfl) rfl rfl rfl ?_
    refine J.split 15 rfl (fun hg2 => ?_) (fun hg2 => ?_)
    ·
      refine J.skip 4 15 16 false _ rfl rfl rfl hg2 rfl rfl ?_
      refine J.skip 4 15 17 false _ rfl rfl rfl hg2 rfl rfl ?_
      refine J.skip 4 15 18 false _ rfl rfl rfl hg2 rfl rfl ?_
      refine J.skip 4 15 19 false _ rfl rfl rfl hg2 rfl rfl ?_
      refine J.y (yl_pick1 rfl rfl hg2 rfl) rfl rfl rfl ?_
      refine J.nil ?_
      refine Ej.seq ?_
      refine Cj.cond rfl (fun hc3 => ?_) (fun hc3 => Bool.noConfusion (Eq.trans (Eq.symm rfl) hc3))
      refine Cj.region ?_
      refine J.y (yl_move rfl rfl) rfl rfl rfl ?_
      refine J.op rfl (op_buildSlice rfl rfl rfl Tryz.underlying46 Tryz.sizeOf5 Tryz.zeroValue5 rfl rfl rfl rfl (LCat.one rfl LCat.none) ?_)
      intro b4 hb4
      refine J.y (yl_toStr [92] rfl rfl rfl Tryz.underlying46 Tryz.underlying9 Tryz.underlying5 (Blk.at 0 rfl) rfl) rfl rfl rfl ?_
      refine J.y (yl_cat rfl rfl rfl (by first | omega | (simp only [List.length_append]; omega) | (simp; omega))) rfl rfl rfl ?_
      refine J.y (yl_assign rfl rfl) rfl rfl rfl ?_
      refine J.nil ?_
      refine Ej.seq ?_
      refine Cj.region ?_
      refine J.y (yl_move rfl rfl) rfl rfl rfl ?_
      refine J.y (yl_move rfl rfl) rfl rfl rfl ?_
      refine J.y (yl_move rfl rfl) rfl rfl rfl ?_
      refine J.y (yl_move rfl rfl) rfl rfl rfl ?_
      refine J.y (yl_add rfl rfl rfl (w64 (by omega))) rfl rfl rfl ?_
      refine J.y (yl_sliceStr (p := k) (q := k + 1) rfl rfl Tryz.underlying9 ⟨_, rfl⟩ ⟨_, rfl⟩ (by omega) (by omega)) rfl rfl rfl ?_
      refine J.y (yl_cat rfl rfl rfl (by first | omega | (simp only [List.length_append]; omega) | (simp; omega))) rfl rfl rfl ?_
      refine J.eqv 31 rfl (show _ = str (Cq.escape (s.take (k + 1))) from (by rw [cut1 hget, Cq.escape_next hget, if_pos (.inl (u8_is (d := 34) (eq_of_beq hg2)))]; simp [str])) ?_
      refine J.y (yl_assign rfl rfl) rfl rfl rfl ?_
      refine J.nil ?_
      refine Ej.blkNormal ?_
      refine Ej.seq ?_
      refine Cj.region ?_
      refine J.y (yl_move rfl rfl) rfl rfl rfl ?_
      refine J.y (yl_add rfl rfl rfl (w64 (by omega))) rfl rfl rfl ?_
      refine J.y (yl_assign rfl rfl) rfl rfl rfl ?_
      refine J.nil ?_
      refine Ej.keep (Keeps.d Keeps.n) ?_
      refine Ej.round (k + 1) (by omega) (by omega) ⟨rfl, rfl, rfl, trivial⟩ rfl rfl
    ·
      refine J.opG 4 15 false _ rfl rfl rfl hg2 (op_yld (yl_move rfl rfl) rfl rfl ?_)
      refine J.opG 4 15 false _ rfl rfl rfl hg2 (op_yld (yl_move rfl rfl) rfl rfl ?_)
      refine J.opG 4 15 false _ rfl rfl rfl hg2 (op_yld (yl_index rfl rfl rfl Tryz.underlying9 (by omega) hget) rfl rfl ?_)
      refine J.opG 4 15 false _ rfl rfl rfl hg2 (op_yld (yl_eql rfl rfl rfl) rfl rfl ?_)
      refine J.y (yl_pick0 rfl rfl hg2 rfl) rfl rfl rfl ?_
      refine J.nil ?_
      refine Ej.seq ?_
      refine Cj.cond rfl (fun hc5 => ?_) (fun hc5 => ?_)
      ·
        have hc5p := eq_of_beq hc5
        refine Cj.region ?_
        refine J.y (yl_move rfl rfl) rfl rfl rfl ?_
        refine J.op rfl (op_buildSlice rfl rfl rfl Tryz.underlying46 Tryz.sizeOf5 Tryz.zeroValue5 rfl rfl rfl rfl (LCat.one rfl LCat.none) ?_)
        intro b6 hb6
        refine J.y (yl_toStr [92] rfl rfl rfl Tryz.underlying46 Tryz.underlying9 Tryz.underlying5 (Blk.at 0 rfl) rfl) rfl rfl rfl ?_
        refine J.y (yl_cat rfl rfl rfl (by first | omega | (simp only [List.length_append]; omega) | (simp; omega))) rfl rfl rfl ?_
        refine J.y (yl_assign rfl rfl) rfl rfl rfl ?_
        refine J.nil ?_
        refine Ej.seq ?_
        refine Cj.region ?_
        refine J.y (yl_move rfl rfl) rfl rfl rfl ?_
        refine J.y (yl_move rfl rfl) rfl rfl rfl ?_
        refine J.y (yl_move rfl rfl) rfl rfl rfl ?_
        refine J.y (yl_move rfl rfl) rfl rfl rfl ?_
        refine J.y (yl_add rfl rfl rfl (w64 (by omega))) rfl rfl rfl ?_
        refine J.y (yl_sliceStr (p := k) (q := k + 1) rfl rfl Tryz.underlying9 ⟨_, rfl⟩ ⟨_, rfl⟩ (by omega) (by omega)) rfl rfl rfl ?_
        refine J.y (yl_cat rfl rfl rfl (by first | omega | (simp only [List.length_append]; omega) | (simp; omega))) rfl rfl rfl ?_
        refine J.eqv 31 rfl (show _ = str (Cq.escape (s.take (k + 1))) from (by rw [cut1 hget, Cq.escape_next hget, if_pos (.inr (u8_is (d := 92) (eq_of_beq hc5)))]; simp [str])) ?_
        refine J.y (yl_assign rfl rfl) rfl rfl rfl ?_
        refine J.nil ?_
        refine Ej.blkNormal ?_
        refine Ej.seq ?_
        refine Cj.region ?_
        refine J.y (yl_move rfl rfl) rfl rfl rfl ?_
        refine J.y (yl_add rfl rfl rfl (w64 (by omega))) rfl rfl rfl ?_
        refine J.y (yl_assign rfl rfl) rfl rfl rfl ?_
        refine J.nil ?_
        refine Ej.keep (Keeps.d Keeps.n) ?_
        refine Ej.round (k + 1) (by omega) (by omega) ⟨rfl, rfl, rfl, trivial⟩ rfl rfl
      ·
        have hc5p := ne_of_beq_false hc5
        refine Cj.skip ?_
        refine Ej.seq ?_
        refine Cj.region ?_
        refine J.y (yl_move rfl rfl) rfl rfl rfl ?_
        refine J.y (yl_move rfl rfl) rfl rfl rfl ?_
        refine J.y (yl_move rfl rfl) rfl rfl rfl ?_
        refine J.y (yl_move rfl rfl) rfl rfl rfl ?_
        refine J.y (yl_add rfl rfl rfl (w64 (by omega))) rfl rfl rfl ?_
        refine J.y (yl_sliceStr (p := k) (q := k + 1) rfl rfl Tryz.underlying9 ⟨_, rfl⟩ ⟨_, rfl⟩ (by omega) (by omega)) rfl rfl rfl ?_
        refine J.y (yl_cat rfl rfl rfl (by first | omega | (simp only [List.length_append]; omega) | (simp; omega))) rfl rfl rfl ?_
        refine J.eqv 31 rfl (show _ = str (Cq.escape (s.take (k + 1))) from (by rw [cut1 hget, Cq.escape_next hget, if_neg (fun h => h.elim (u8_not (d := 34) (ne_of_beq_false hg2)) (u8_not (d := 92) (ne_of_beq_false hc5)))])) ?_
        refine J.y (yl_assign rfl rfl) rfl rfl rfl ?_
        refine J.nil ?_
        refine Ej.blkNormal ?_
        refine Ej.seq ?_
        refine Cj.region ?_
        refine J.y (yl_move rfl rfl) rfl rfl rfl ?_
        refine J.y (yl_add rfl rfl rfl (w64 (by omega))) rfl rfl rfl ?_
        refine J.y (yl_assign rfl rfl) rfl rfl rfl ?_
        refine J.nil ?_
        refine Ej.round (k + 1) (by omega) (by omega) ⟨rfl, rfl, rfl, trivial⟩ rfl rfl
  ·
    have hc1p := of_decide_eq_false hc1
    have hke : s.take k = s := List.take_of_length_le (by omega)
    rw [hke]; have hel2 := (Cq.escape_len s).2
    refine Cj.exit ?_
    refine Ej.seqExit ?_
    refine Ej.loopExit ?_
    refine Ej.blkExit ?_
    refine Ej.seq ?_
    refine Cj.seq ?_
    refine Cj.region ?_
    refine J.y (yl_move rfl rfl) rfl rfl rfl ?_
    refine J.y (yl_cat rfl rfl rfl (by first | omega | (simp only [List.length_append]; omega) | (simp; omega))) rfl rfl rfl ?_
    refine J.y (yl_cat rfl rfl rfl (by first | omega | (simp only [List.length_append]; omega) | (simp; omega))) rfl rfl rfl ?_
    refine J.y (yl_assign rfl rfl) rfl rfl rfl ?_
    refine J.nil ?_
    refine Ej.seq ?_
    refine Cj.ret ?_
    refine Ej.ret1 rfl rfl rfl ?_
    refine ⟨?_, rfl⟩
    simp [Cq.text, str]

set_option maxRecDepth 20000 in
theorem print_step (q : Cq.Qn) (ih : ∀ q', Cq.Qn.size q' < q.size → PrintSpec q') : PrintSpec q := by
  intro p c I hps hform hlen
  refine Ctr.toPure ?_
  refine Ctr.of_body Tryz.func26 rfl (by decide) (Nat.le_of_ble_eq_true rfl) ?_
  intro w0 hw0
  refine Cj.seq ?_
  refine Cj.region ?_
  refine J.op rfl (op_box rfl rfl rfl rfl rfl ?_)
  intro b1 hb1
  refine J.y (yl_assign rfl rfl) rfl rfl rfl ?_
  refine J.nil ?_
  refine Ej.seq ?_
  refine Cj.seq ?_
  refine Cj.seq ?_
  refine Cj.region ?_
  refine J.y (yl_fieldAddr (off' := 0) rfl rfl Tryz.underlying28 rfl Tryz.sizeOf3 rfl) rfl rfl rfl ?_
  refine J.y (yl_load rfl rfl Tryz.isAgg3 (Blk.at 0 rfl) rfl) rfl rfl rfl ?_
  refine J.y (yl_eql rfl rfl rfl) rfl rfl rfl ?_
  refine J.nil ?_
  refine Ej.seq ?_
  refine Cj.cond rfl (fun hc2 => ?_) (fun hc2 => ?_)
  ·
    have hc2p := eq_of_beq hc2
    have hk : q.k = 1 := by omega
    have hw := Cq.write_term hk
    have hwl := congrArg List.length hw
    have htl := (Cq.escape_len q.t).1
    have htx : (Cq.text q.t).length = (Cq.escape q.t).length + 2 := by simp [Cq.text]
    simp at hwl
    refine Cj.seq ?_
    refine Cj.drawSel [0] [] 12 (by kernel_rfl) ?_
    refine JA.take 0 rfl rfl (by kernel_rfl) (by kernel_rfl) (by kernel_rfl) (fun _ _ _ h => h) rfl rfl rfl (HSub.c 0 rfl HSub.n) CSub.n (Le.refl _) (yl_fieldAddr (off' := 1) rfl rfl Tryz.underlying28 rfl Tryz.sizeOf9 rfl) ?_
    refine JA.take 1 rfl rfl (by kernel_rfl) (by kernel_rfl) (by kernel_rfl) (fun _ _ _ h => h) rfl rfl rfl (HSub.c 0 rfl HSub.n) CSub.n (Le.refl _) (yl_load rfl rfl Tryz.isAgg9 (Blk.atC 0 rfl) rfl) ?_
    refine JA.take 2 rfl rfl (by kernel_rfl) (by kernel_rfl) (by kernel_rfl) (fun _ _ _ h => h) rfl rfl rfl (HSub.c 0 rfl HSub.n) CSub.n (Le.refl _) (yl_cat rfl rfl rfl (by first | omega | (simp only [List.length_append]; omega) | (simp; omega))) ?_
    refine JA.take 3 rfl rfl (by kernel_rfl) (by kernel_rfl) (by kernel_rfl) (fun _ _ _ h => h) rfl rfl rfl (HSub.c 0 rfl HSub.n) CSub.n (Le.refl _) (yl_fieldAddr (off' := 2) rfl rfl Tryz.underlying28 rfl Tryz.sizeOf9 rfl) ?_
    refine JA.take 4 rfl rfl (by kernel_rfl) (by kernel_rfl) (by kernel_rfl) (fun _ _ _ h => h) rfl rfl rfl (HSub.c 0 rfl HSub.n) CSub.n (Le.refl _) (yl_load rfl rfl Tryz.isAgg9 (Blk.atC 0 rfl) rfl) ?_
    refine JA.take 5 rfl rfl (by kernel_rfl) (by kernel_rfl) (by kernel_rfl) (fun _ _ _ h => h) rfl rfl rfl (HSub.c 0 rfl HSub.n) CSub.n (Le.refl _) (yl_cat rfl rfl rfl (by first | omega | (simp only [List.length_append]; omega) | (simp; omega))) ?_
    refine JA.take 6 rfl rfl (by kernel_rfl) (by kernel_rfl) (by kernel_rfl) (fun _ _ _ h => h) rfl rfl rfl (HSub.c 0 rfl HSub.n) CSub.n (Le.refl _) (yl_cat rfl rfl rfl (by first | omega | (simp only [List.length_append]; omega) | (simp; omega))) ?_
    refine JA.take 7 rfl rfl (by kernel_rfl) (by kernel_rfl) (by kernel_rfl) (fun _ _ _ h => h) rfl rfl rfl (HSub.c 0 rfl HSub.n) CSub.n (Le.refl _) (yl_fieldAddr (off' := 3) rfl rfl Tryz.underlying28 rfl Tryz.sizeOf9 rfl) ?_
    refine JA.take 8 rfl rfl (by kernel_rfl) (by kernel_rfl) (by kernel_rfl) (fun _ _ _ h => h) rfl rfl rfl (HSub.c 0 rfl HSub.n) CSub.n (Le.refl _) (yl_load rfl rfl Tryz.isAgg9 (Blk.atC 0 rfl) rfl) ?_
    refine JA.step 9 (by kernel_rfl) rfl rfl (op_pure rfl rfl rfl rfl rfl (text_ok _ (by omega) _) ?_)
    refine ⟨⟨(Le.refl _), (HSub.c 0 rfl HSub.n), CSub.n⟩, ?_⟩
    refine JA.take 10 rfl rfl (by kernel_rfl) (by kernel_rfl) (by kernel_rfl) (fun _ _ _ h => h) rfl rfl rfl (HSub.c 0 rfl HSub.n) CSub.n (Le.refl _) (yl_cat rfl rfl rfl (by first | omega | (simp only [List.length_append]; omega) | (simp; omega))) ?_
    refine JA.take 11 rfl rfl (by kernel_rfl) (by kernel_rfl) (by kernel_rfl) (fun _ _ _ h => h) rfl rfl rfl (HSub.c 0 rfl HSub.n) CSub.n (Le.refl _) (yl_assign rfl rfl) ?_
    refine JA.done (by kernel_rfl) ?_
    refine Ej.seq ?_
    refine Cj.ret ?_
    refine Ej.seqRet ?_
    refine Ej.bare ?_
    refine Ej.ret1 rfl rfl rfl ?_
    refine ⟨?_, rfl⟩
    first | (rw [hw]; done) | (rw [hw]; simp [str])
  ·
    have hc2p := ne_of_beq_false hc2
    have hk : q.k ≠ 1 := by omega
    obtain ⟨_, hk2, hk4, qa, qb, htw, hfa, hfb⟩ := (Cq.form_tree hform).resolve_left hk
    have hw := Cq.write_two hk htw
    have hwl := congrArg List.length hw
    have hpl := Cq.paren_len qb.k (Cq.write qb)
    simp at hwl
    have hln := htw.len
    obtain ⟨bl, off, cs', T, fr, pa, ca, pb, cb, rfl, hbl, hca, hcb, hkb, hpa, hpb⟩ := hps.two_at htw
    refine Cj.skip ?_
    refine Ej.seq ?_
    refine Cj.seq ?_
    refine Cj.region ?_
    refine J.y (yl_fieldAddr (off' := 4) rfl rfl Tryz.underlying28 rfl Tryz.sizeOf26 rfl) rfl rfl rfl ?_
    refine J.y (yl_load rfl rfl Tryz.isAgg26 (Blk.at 0 rfl) rfl) rfl rfl rfl ?_
    refine J.y (yl_indexAddr (off' := off + 5) rfl rfl rfl Tryz.underlying26 Tryz.sizeOf28 (by omega) (by omega) (by simp)) rfl rfl rfl ?_
    refine J.y (yl_loadAgg rfl rfl Tryz.isAgg28 Tryz.sizeOf28 (Blk.imm hbl) hcb rfl) rfl rfl rfl ?_
    refine J.op rfl (op_pure rfl rfl rfl rfl rfl (ih qb htw.size.2 pb cb _ hpb hfb (by omega)) ?_)
    refine J.y (yl_assign rfl rfl) rfl rfl rfl ?_
    refine J.nil ?_
    refine Ej.seq ?_
    refine Cj.seq ?_
    refine Cj.seq ?_
    refine Cj.region ?_
    refine J.y (yl_fieldAddr (off' := 4) rfl rfl Tryz.underlying28 rfl Tryz.sizeOf26 rfl) rfl rfl rfl ?_
    refine J.y (yl_load rfl rfl Tryz.isAgg26 (Blk.at 0 rfl) rfl) rfl rfl rfl ?_
    refine J.y (yl_indexAddr (off' := off + 5) rfl rfl rfl Tryz.underlying26 Tryz.sizeOf28 (by omega) (by omega) (by simp)) rfl rfl rfl ?_
    refine J.y (yl_fieldAddr rfl rfl Tryz.underlying28 rfl Tryz.sizeOf3 rfl) rfl rfl rfl ?_
    refine J.y (yl_load rfl rfl Tryz.isAgg3 (Blk.imm hbl) hkb) rfl rfl rfl ?_
    refine J.y (yl_neq rfl rfl rfl) rfl rfl rfl ?_
    refine J.nil ?_
    refine Ej.seq ?_
    refine Cj.cond rfl (fun hc3 => ?_) (fun hc3 => ?_)
    ·
      have hc3p := bne_iff_ne.1 hc3
      have hku : Cq.paren qb.k (Cq.write qb) = 40 :: Cq.write qb ++ [41] := by have h := hc3; simp at h; simp [Cq.paren, h]
      have hpl2 := congrArg List.length hku
      simp at hpl2
      refine Cj.region ?_
      refine J.y (yl_move rfl rfl) rfl rfl rfl ?_
      refine J.y (yl_cat rfl rfl rfl (by first | omega | (simp only [List.length_append]; omega) | (simp; omega))) rfl rfl rfl ?_
      refine J.y (yl_cat rfl rfl rfl (by first | omega | (simp only [List.length_append]; omega) | (simp; omega))) rfl rfl rfl ?_
      refine J.y (yl_assign rfl rfl) rfl rfl rfl ?_
      refine J.nil ?_
      refine Ej.seq ?_
      refine Cj.seq ?_
      refine Cj.drawSel [0] [] 17 (by kernel_rfl) ?_
      have hbl_6 := hbl
      refine JA.take 0 rfl rfl (by kernel_rfl) (by kernel_rfl) (by kernel_rfl) (fun _ _ _ h => h) rfl rfl rfl (HSub.c 0 rfl HSub.n) CSub.n (Le.refl _) (yl_fieldAddr (off' := 4) rfl rfl Tryz.underlying28 rfl Tryz.sizeOf26 rfl) ?_
      refine JA.take 1 rfl rfl (by kernel_rfl) (by kernel_rfl) (by kernel_rfl) (fun _ _ _ h => h) rfl rfl rfl (HSub.c 0 rfl HSub.n) CSub.n (Le.refl _) (yl_load rfl rfl Tryz.isAgg26 (Blk.atC 0 rfl) rfl) ?_
      refine JA.take 2 rfl rfl (by kernel_rfl) (by kernel_rfl) (by kernel_rfl) (fun _ _ _ h => h) rfl rfl rfl (HSub.c 0 rfl HSub.n) CSub.n (Le.refl _) (yl_indexAddr (off' := off) rfl rfl rfl Tryz.underlying26 Tryz.sizeOf28 (by omega) (by omega) (by simp)) ?_
      refine JA.take 3 rfl rfl (by kernel_rfl) (by kernel_rfl) (by kernel_rfl) (fun _ _ _ h => h) rfl rfl rfl (HSub.c 0 rfl HSub.n) CSub.n (Le.refl _) (yl_loadAgg rfl rfl Tryz.isAgg28 Tryz.sizeOf28 (Blk.immC hbl_6) hca rfl) ?_
      refine JA.take 7 rfl rfl (by kernel_rfl) (by kernel_rfl) (by kernel_rfl) (fun _ _ _ h => h) rfl rfl rfl (HSub.c 0 rfl HSub.n) CSub.n (Le.refl _) (yl_fieldAddr (off' := 0) rfl rfl Tryz.underlying28 rfl Tryz.sizeOf3 rfl) ?_
      refine JA.take 8 rfl rfl (by kernel_rfl) (by kernel_rfl) (by kernel_rfl) (fun _ _ _ h => h) rfl rfl rfl (HSub.c 0 rfl HSub.n) CSub.n (Le.refl _) (yl_load rfl rfl Tryz.isAgg3 (Blk.atC 0 rfl) rfl) ?_
      refine JA.take 9 rfl rfl (by kernel_rfl) (by kernel_rfl) (by kernel_rfl) (fun _ _ _ h => h) rfl rfl rfl (HSub.c 0 rfl HSub.n) CSub.n (Le.refl _) (yl_sub rfl rfl rfl (w64 (by omega))) ?_
      refine JA.take 14 rfl rfl (by kernel_rfl) (by kernel_rfl) (by kernel_rfl) (fun _ _ _ h => h) rfl rfl rfl (HSub.c 0 rfl HSub.n) CSub.n (Le.refl _) (yl_move rfl rfl) ?_
      refine JA.all [4, 6] (by kernel_rfl) (by simp) ?_
      intro i hi
      simp only [List.mem_cons, List.not_mem_nil, or_false] at hi
      rcases hi with rfl | rfl
      ·
        refine ⟨_, rfl, rfl, ?_⟩
        refine op_pure rfl rfl rfl rfl rfl (ih qa htw.size.1 pa ca _ hpa hfa (by omega)) ?_
        refine ⟨⟨(Le.refl _), (HSub.c 0 rfl HSub.n), CSub.n⟩, ?_⟩
        refine JA.take 5 rfl rfl (by kernel_rfl) (by kernel_rfl) (by kernel_rfl) (fun _ _ _ h => h) rfl rfl rfl (HSub.c 0 rfl HSub.n) CSub.n (Le.refl _) (yl_cat rfl rfl rfl (by first | omega | (simp only [List.length_append]; omega) | (simp; omega))) ?_
        refine JA.step 6 (by kernel_rfl) rfl rfl (op_buildSlice rfl rfl rfl Tryz.underlying44 Tryz.sizeOf9 Tryz.zeroValue9 rfl rfl rfl rfl (LCat.one rfl (LCat.one rfl (LCat.one rfl LCat.none))) ?_)
        intro b4 hb4
        refine ⟨⟨(Le.refl _), (HSub.c 1 rfl HSub.n), CSub.n⟩, ?_⟩
        refine JA.take 10 rfl rfl (by kernel_rfl) (by kernel_rfl) (by kernel_rfl) (fun _ _ _ h => h) rfl rfl rfl (HSub.c 1 rfl HSub.n) CSub.n (Le.refl _) (yl_indexAddr (off' := (q.k - 2).toNat) rfl rfl rfl Tryz.underlying44 Tryz.sizeOf9 (by omega) (by omega) (by simp)) ?_
        refine JA.step 11 (by kernel_rfl) rfl rfl (op_yld (yl_load rfl rfl Tryz.isAgg9 (Blk.at 0 rfl) (word_at hk2 hk4)) rfl rfl ?_)
        refine ⟨⟨(Le.refl _), (HSub.c 1 rfl HSub.n), CSub.n⟩, ?_⟩
        refine JA.take 12 rfl rfl (by kernel_rfl) (by kernel_rfl) (by kernel_rfl) (fun _ _ _ h => h) rfl rfl rfl (HSub.c 1 rfl HSub.n) CSub.n (Le.refl _) (yl_cat rfl rfl rfl (by first | omega | (simp only [List.length_append]; omega) | (simp; omega))) ?_
        refine JA.take 13 rfl rfl (by kernel_rfl) (by kernel_rfl) (by kernel_rfl) (fun _ _ _ h => h) rfl rfl rfl (HSub.c 1 rfl HSub.n) CSub.n (Le.refl _) (yl_cat rfl rfl rfl (by first | omega | (simp only [List.length_append]; omega) | (simp; omega))) ?_
        refine JA.take 15 rfl rfl (by kernel_rfl) (by kernel_rfl) (by kernel_rfl) (fun _ _ _ h => h) rfl rfl rfl (HSub.c 1 rfl HSub.n) CSub.n (Le.refl _) (yl_cat rfl rfl rfl (by first | omega | (simp only [List.length_append]; omega) | (simp; omega))) ?_
        refine JA.take 16 rfl rfl (by kernel_rfl) (by kernel_rfl) (by kernel_rfl) (fun _ _ _ h => h) rfl rfl rfl (HSub.c 1 rfl HSub.n) CSub.n (Le.refl _) (yl_assign rfl rfl) ?_
        refine JA.done (by kernel_rfl) ?_
        refine Ej.seq ?_
        refine Cj.ret ?_
        refine Ej.bare ?_
        refine Ej.ret1 rfl rfl rfl ?_
        refine ⟨?_, rfl⟩
        first | (rw [hw, hku]; done) | (rw [hw, hku]; simp [str])
      ·
        refine ⟨_, rfl, rfl, ?_⟩
        refine op_buildSlice rfl rfl rfl Tryz.underlying44 Tryz.sizeOf9 Tryz.zeroValue9 rfl rfl rfl rfl (LCat.one rfl (LCat.one rfl (LCat.one rfl LCat.none))) ?_
        intro b5 hb5
        refine ⟨⟨(Le.refl _), (HSub.c 1 rfl HSub.n), CSub.n⟩, ?_⟩
        refine JA.take 10 rfl rfl (by kernel_rfl) (by kernel_rfl) (by kernel_rfl) (fun _ _ _ h => h) rfl rfl rfl (HSub.c 1 rfl HSub.n) CSub.n (Le.refl _) (yl_indexAddr (off' := (q.k - 2).toNat) rfl rfl rfl Tryz.underlying44 Tryz.sizeOf9 (by omega) (by omega) (by simp)) ?_
        refine JA.all [4, 11] (by kernel_rfl) (by simp) ?_
        intro i hi
        simp only [List.mem_cons, List.not_mem_nil, or_false] at hi
        rcases hi with rfl | rfl
        ·
          refine ⟨_, rfl, rfl, ?_⟩
          refine op_pure rfl rfl rfl rfl rfl (ih qa htw.size.1 pa ca _ hpa hfa (by omega)) ?_
          refine ⟨⟨(Le.refl _), (HSub.c 1 rfl HSub.n), CSub.n⟩, ?_⟩
          refine JA.take 5 rfl rfl (by kernel_rfl) (by kernel_rfl) (by kernel_rfl) (fun _ _ _ h => h) rfl rfl rfl (HSub.c 1 rfl HSub.n) CSub.n (Le.refl _) (yl_cat rfl rfl rfl (by first | omega | (simp only [List.length_append]; omega) | (simp; omega))) ?_
          refine JA.step 11 (by kernel_rfl) rfl rfl (op_yld (yl_load rfl rfl Tryz.isAgg9 (Blk.at 0 rfl) (word_at hk2 hk4)) rfl rfl ?_)
          refine ⟨⟨(Le.refl _), (HSub.c 1 rfl HSub.n), CSub.n⟩, ?_⟩
          refine JA.take 12 rfl rfl (by kernel_rfl) (by kernel_rfl) (by kernel_rfl) (fun _ _ _ h => h) rfl rfl rfl (HSub.c 1 rfl HSub.n) CSub.n (Le.refl _) (yl_cat rfl rfl rfl (by first | omega | (simp only [List.length_append]; omega) | (simp; omega))) ?_
          refine JA.take 13 rfl rfl (by kernel_rfl) (by kernel_rfl) (by kernel_rfl) (fun _ _ _ h => h) rfl rfl rfl (HSub.c 1 rfl HSub.n) CSub.n (Le.refl _) (yl_cat rfl rfl rfl (by first | omega | (simp only [List.length_append]; omega) | (simp; omega))) ?_
          refine JA.take 15 rfl rfl (by kernel_rfl) (by kernel_rfl) (by kernel_rfl) (fun _ _ _ h => h) rfl rfl rfl (HSub.c 1 rfl HSub.n) CSub.n (Le.refl _) (yl_cat rfl rfl rfl (by first | omega | (simp only [List.length_append]; omega) | (simp; omega))) ?_
          refine JA.take 16 rfl rfl (by kernel_rfl) (by kernel_rfl) (by kernel_rfl) (fun _ _ _ h => h) rfl rfl rfl (HSub.c 1 rfl HSub.n) CSub.n (Le.refl _) (yl_assign rfl rfl) ?_
          refine JA.done (by kernel_rfl) ?_
          refine Ej.seq ?_
          refine Cj.ret ?_
          refine Ej.bare ?_
          refine Ej.ret1 rfl rfl rfl ?_
          refine ⟨?_, rfl⟩
          first | (rw [hw, hku]; done) | (rw [hw, hku]; simp [str])
        ·
          refine ⟨_, rfl, rfl, ?_⟩
          refine op_yld (yl_load rfl rfl Tryz.isAgg9 (Blk.at 0 rfl) (word_at hk2 hk4)) rfl rfl ?_
          refine ⟨⟨(Le.refl _), (HSub.c 1 rfl HSub.n), CSub.n⟩, ?_⟩
          refine JA.step 4 (by kernel_rfl) rfl rfl (op_pure rfl rfl rfl rfl rfl (ih qa htw.size.1 pa ca _ hpa hfa (by omega)) ?_)
          refine ⟨⟨(Le.refl _), (HSub.c 1 rfl HSub.n), CSub.n⟩, ?_⟩
          refine JA.take 5 rfl rfl (by kernel_rfl) (by kernel_rfl) (by kernel_rfl) (fun _ _ _ h => h) rfl rfl rfl (HSub.c 1 rfl HSub.n) CSub.n (Le.refl _) (yl_cat rfl rfl rfl (by first | omega | (simp only [List.length_append]; omega) | (simp; omega))) ?_
          refine JA.take 12 rfl rfl (by kernel_rfl) (by kernel_rfl) (by kernel_rfl) (fun _ _ _ h => h) rfl rfl rfl (HSub.c 1 rfl HSub.n) CSub.n (Le.refl _) (yl_cat rfl rfl rfl (by first | omega | (simp only [List.length_append]; omega) | (simp; omega))) ?_
          refine JA.take 13 rfl rfl (by kernel_rfl) (by kernel_rfl) (by kernel_rfl) (fun _ _ _ h => h) rfl rfl rfl (HSub.c 1 rfl HSub.n) CSub.n (Le.refl _) (yl_cat rfl rfl rfl (by first | omega | (simp only [List.length_append]; omega) | (simp; omega))) ?_
          refine JA.take 15 rfl rfl (by kernel_rfl) (by kernel_rfl) (by kernel_rfl) (fun _ _ _ h => h) rfl rfl rfl (HSub.c 1 rfl HSub.n) CSub.n (Le.refl _) (yl_cat rfl rfl rfl (by first | omega | (simp only [List.length_append]; omega) | (simp; omega))) ?_
          refine JA.take 16 rfl rfl (by kernel_rfl) (by kernel_rfl) (by kernel_rfl) (fun _ _ _ h => h) rfl rfl rfl (HSub.c 1 rfl HSub.n) CSub.n (Le.refl _) (yl_assign rfl rfl) ?_
          refine JA.done (by kernel_rfl) ?_
          refine Ej.seq ?_
          refine Cj.ret ?_
          refine Ej.bare ?_
          refine Ej.ret1 rfl rfl rfl ?_
          refine ⟨?_, rfl⟩
          first | (rw [hw, hku]; done) | (rw [hw, hku]; simp [str])
    ·
      have hc3p := bne_f hc3
      have hku : Cq.paren qb.k (Cq.write qb) = Cq.write qb := by have h := hc3; simp at h; simp [Cq.paren, h]
      refine Cj.skip ?_
      refine Ej.seq ?_
      refine Cj.seq ?_
      refine Cj.drawSel [0] [] 17 (by kernel_rfl) ?_
      have hbl_6 := hbl
      refine JA.take 0 rfl rfl (by kernel_rfl) (by kernel_rfl) (by kernel_rfl) (fun _ _ _ h => h) rfl rfl rfl (HSub.c 0 rfl HSub.n) CSub.n (Le.refl _) (yl_fieldAddr (off' := 4) rfl rfl Tryz.underlying28 rfl Tryz.sizeOf26 rfl) ?_
      refine JA.take 1 rfl rfl (by kernel_rfl) (by kernel_rfl) (by kernel_rfl) (fun _ _ _ h => h) rfl rfl rfl (HSub.c 0 rfl HSub.n) CSub.n (Le.refl _) (yl_load rfl rfl Tryz.isAgg26 (Blk.atC 0 rfl) rfl) ?_
      refine JA.take 2 rfl rfl (by kernel_rfl) (by kernel_rfl) (by kernel_rfl) (fun _ _ _ h => h) rfl rfl rfl (HSub.c 0 rfl HSub.n) CSub.n (Le.refl _) (yl_indexAddr (off' := off) rfl rfl rfl Tryz.underlying26 Tryz.sizeOf28 (by omega) (by omega) (by simp)) ?_
      refine JA.take 3 rfl rfl (by kernel_rfl) (by kernel_rfl) (by kernel_rfl) (fun _ _ _ h => h) rfl rfl rfl (HSub.c 0 rfl HSub.n) CSub.n (Le.refl _) (yl_loadAgg rfl rfl Tryz.isAgg28 Tryz.sizeOf28 (Blk.immC hbl_6) hca rfl) ?_
      refine JA.take 7 rfl rfl (by kernel_rfl) (by kernel_rfl) (by kernel_rfl) (fun _ _ _ h => h) rfl rfl rfl (HSub.c 0 rfl HSub.n) CSub.n (Le.refl _) (yl_fieldAddr (off' := 0) rfl rfl Tryz.underlying28 rfl Tryz.sizeOf3 rfl) ?_
      refine JA.take 8 rfl rfl (by kernel_rfl) (by kernel_rfl) (by kernel_rfl) (fun _ _ _ h => h) rfl rfl rfl (HSub.c 0 rfl HSub.n) CSub.n (Le.refl _) (yl_load rfl rfl Tryz.isAgg3 (Blk.atC 0 rfl) rfl) ?_
      refine JA.take 9 rfl rfl (by kernel_rfl) (by kernel_rfl) (by kernel_rfl) (fun _ _ _ h => h) rfl rfl rfl (HSub.c 0 rfl HSub.n) CSub.n (Le.refl _) (yl_sub rfl rfl rfl (w64 (by omega))) ?_
      refine JA.take 14 rfl rfl (by kernel_rfl) (by kernel_rfl) (by kernel_rfl) (fun _ _ _ h => h) rfl rfl rfl (HSub.c 0 rfl HSub.n) CSub.n (Le.refl _) (yl_move rfl rfl) ?_
      refine JA.all [4, 6] (by kernel_rfl) (by simp) ?_
      intro i hi
      simp only [List.mem_cons, List.not_mem_nil, or_false] at hi
      rcases hi with rfl | rfl
      ·
        refine ⟨_, rfl, rfl, ?_⟩
        refine op_pure rfl rfl rfl rfl rfl (ih qa htw.size.1 pa ca _ hpa hfa (by omega)) ?_
        refine ⟨⟨(Le.refl _), (HSub.c 0 rfl HSub.n), CSub.n⟩, ?_⟩
        refine JA.take 5 rfl rfl (by kernel_rfl) (by kernel_rfl) (by kernel_rfl) (fun _ _ _ h => h) rfl rfl rfl (HSub.c 0 rfl HSub.n) CSub.n (Le.refl _) (yl_cat rfl rfl rfl (by first | omega | (simp only [List.length_append]; omega) | (simp; omega))) ?_
        refine JA.step 6 (by kernel_rfl) rfl rfl (op_buildSlice rfl rfl rfl Tryz.underlying44 Tryz.sizeOf9 Tryz.zeroValue9 rfl rfl rfl rfl (LCat.one rfl (LCat.one rfl (LCat.one rfl LCat.none))) ?_)
        intro b6 hb6
        refine ⟨⟨(Le.refl _), (HSub.c 1 rfl HSub.n), CSub.n⟩, ?_⟩
        refine JA.take 10 rfl rfl (by kernel_rfl) (by kernel_rfl) (by kernel_rfl) (fun _ _ _ h => h) rfl rfl rfl (HSub.c 1 rfl HSub.n) CSub.n (Le.refl _) (yl_indexAddr (off' := (q.k - 2).toNat) rfl rfl rfl Tryz.underlying44 Tryz.sizeOf9 (by omega) (by omega) (by simp)) ?_
        refine JA.step 11 (by kernel_rfl) rfl rfl (op_yld (yl_load rfl rfl Tryz.isAgg9 (Blk.at 0 rfl) (word_at hk2 hk4)) rfl rfl ?_)
        refine ⟨⟨(Le.refl _), (HSub.c 1 rfl HSub.n), CSub.n⟩, ?_⟩
        refine JA.take 12 rfl rfl (by kernel_rfl) (by kernel_rfl) (by kernel_rfl) (fun _ _ _ h => h) rfl rfl rfl (HSub.c 1 rfl HSub.n) CSub.n (Le.refl _) (yl_cat rfl rfl rfl (by first | omega | (simp only [List.length_append]; omega) | (simp; omega))) ?_
        refine JA.take 13 rfl rfl (by kernel_rfl) (by kernel_rfl) (by kernel_rfl) (fun _ _ _ h => h) rfl rfl rfl (HSub.c 1 rfl HSub.n) CSub.n (Le.refl _) (yl_cat rfl rfl rfl (by first | omega | (simp only [List.length_append]; omega) | (simp; omega))) ?_
        refine JA.take 15 rfl rfl (by kernel_rfl) (by kernel_rfl) (by kernel_rfl) (fun _ _ _ h => h) rfl rfl rfl (HSub.c 1 rfl HSub.n) CSub.n (Le.refl _) (yl_cat rfl rfl rfl (by first | omega | (simp only [List.length_append]; omega) | (simp; omega))) ?_
        refine JA.take 16 rfl rfl (by kernel_rfl) (by kernel_rfl) (by kernel_rfl) (fun _ _ _ h => h) rfl rfl rfl (HSub.c 1 rfl HSub.n) CSub.n (Le.refl _) (yl_assign rfl rfl) ?_
        refine JA.done (by kernel_rfl) ?_
        refine Ej.seq ?_
        refine Cj.ret ?_
        refine Ej.bare ?_
        refine Ej.ret1 rfl rfl rfl ?_
        refine ⟨?_, rfl⟩
        first | (rw [hw, hku]; done) | (rw [hw, hku]; simp [str])
      ·
        refine ⟨_, rfl, rfl, ?_⟩
        refine op_buildSlice rfl rfl rfl Tryz.underlying44 Tryz.sizeOf9 Tryz.zeroValue9 rfl rfl rfl rfl (LCat.one rfl (LCat.one rfl (LCat.one rfl LCat.none))) ?_
        intro b7 hb7
        refine ⟨⟨(Le.refl _), (HSub.c 1 rfl HSub.n), CSub.n⟩, ?_⟩
        refine JA.take 10 rfl rfl (by kernel_rfl) (by kernel_rfl) (by kernel_rfl) (fun _ _ _ h => h) rfl rfl rfl (HSub.c 1 rfl HSub.n) CSub.n (Le.refl _) (yl_indexAddr (off' := (q.k - 2).toNat) rfl rfl rfl Tryz.underlying44 Tryz.sizeOf9 (by omega) (by omega) (by simp)) ?_
        refine JA.all [4, 11] (by kernel_rfl) (by simp) ?_
        intro i hi
        simp only [List.mem_cons, List.not_mem_nil, or_false] at hi
        rcases hi with rfl | rfl
        ·
          refine ⟨_, rfl, rfl, ?_⟩
          refine op_pure rfl rfl rfl rfl rfl (ih qa htw.size.1 pa ca _ hpa hfa (by omega)) ?_
          refine ⟨⟨(Le.refl _), (HSub.c 1 rfl HSub.n), CSub.n⟩, ?_⟩
          refine JA.take 5 rfl rfl (by kernel_rfl) (by kernel_rfl) (by kernel_rfl) (fun _ _ _ h => h) rfl rfl rfl (HSub.c 1 rfl HSub.n) CSub.n (Le.refl _) (yl_cat rfl rfl rfl (by first | omega | (simp only [List.length_append]; omega) | (simp; omega))) ?_
          refine JA.step 11 (by kernel_rfl) rfl rfl (op_yld (yl_load rfl rfl Tryz.isAgg9 (Blk.at 0 rfl) (word_at hk2 hk4)) rfl rfl ?_)
          refine ⟨⟨(Le.refl _), (HSub.c 1 rfl HSub.n), CSub.n⟩, ?_⟩
          refine JA.take 12 rfl rfl (by kernel_rfl) (by kernel_rfl) (by kernel_rfl) (fun _ _ _ h => h) rfl rfl rfl (HSub.c 1 rfl HSub.n) CSub.n (Le.refl _) (yl_cat rfl rfl rfl (by first | omega | (simp only [List.length_append]; omega) | (simp; omega))) ?_
          refine JA.take 13 rfl rfl (by kernel_rfl) (by kernel_rfl) (by kernel_rfl) (fun _ _ _ h => h) rfl rfl rfl (HSub.c 1 rfl HSub.n) CSub.n (Le.refl _) (yl_cat rfl rfl rfl (by first | omega | (simp only [List.length_append]; omega) | (simp; omega))) ?_
          refine JA.take 15 rfl rfl (by kernel_rfl) (by kernel_rfl) (by kernel_rfl) (fun _ _ _ h => h) rfl rfl rfl (HSub.c 1 rfl HSub.n) CSub.n (Le.refl _) (yl_cat rfl rfl rfl (by first | omega | (simp only [List.length_append]; omega) | (simp; omega))) ?_
          refine JA.take 16 rfl rfl (by kernel_rfl) (by kernel_rfl) (by kernel_rfl) (fun _ _ _ h => h) rfl rfl rfl (HSub.c 1 rfl HSub.n) CSub.n (Le.refl _) (yl_assign rfl rfl) ?_
          refine JA.done (by kernel_rfl) ?_
          refine Ej.seq ?_
          refine Cj.ret ?_
          refine Ej.bare ?_
          refine Ej.ret1 rfl rfl rfl ?_
          refine ⟨?_, rfl⟩
          first | (rw [hw, hku]; done) | (rw [hw, hku]; simp [str])
        ·
          refine ⟨_, rfl, rfl, ?_⟩
          refine op_yld (yl_load rfl rfl Tryz.isAgg9 (Blk.at 0 rfl) (word_at hk2 hk4)) rfl rfl ?_
          refine ⟨⟨(Le.refl _), (HSub.c 1 rfl HSub.n), CSub.n⟩, ?_⟩
          refine JA.step 4 (by kernel_rfl) rfl rfl (op_pure rfl rfl rfl rfl rfl (ih qa htw.size.1 pa ca _ hpa hfa (by omega)) ?_)
          refine ⟨⟨(Le.refl _), (HSub.c 1 rfl HSub.n), CSub.n⟩, ?_⟩
          refine JA.take 5 rfl rfl (by kernel_rfl) (by kernel_rfl) (by kernel_rfl) (fun _ _ _ h => h) rfl rfl rfl (HSub.c 1 rfl HSub.n) CSub.n (Le.refl _) (yl_cat rfl rfl rfl (by first | omega | (simp only [List.length_append]; omega) | (simp; omega))) ?_
          refine JA.take 12 rfl rfl (by kernel_rfl) (by kernel_rfl) (by kernel_rfl) (fun _ _ _ h => h) rfl rfl rfl (HSub.c 1 rfl HSub.n) CSub.n (Le.refl _) (yl_cat rfl rfl rfl (by first | omega | (simp only [List.length_append]; omega) | (simp; omega))) ?_
          refine JA.take 13 rfl rfl (by kernel_rfl) (by kernel_rfl) (by kernel_rfl) (fun _ _ _ h => h) rfl rfl rfl (HSub.c 1 rfl HSub.n) CSub.n (Le.refl _) (yl_cat rfl rfl rfl (by first | omega | (simp only [List.length_append]; omega) | (simp; omega))) ?_
          refine JA.take 15 rfl rfl (by kernel_rfl) (by kernel_rfl) (by kernel_rfl) (fun _ _ _ h => h) rfl rfl rfl (HSub.c 1 rfl HSub.n) CSub.n (Le.refl _) (yl_cat rfl rfl rfl (by first | omega | (simp only [List.length_append]; omega) | (simp; omega))) ?_
          refine JA.take 16 rfl rfl (by kernel_rfl) (by kernel_rfl) (by kernel_rfl) (fun _ _ _ h => h) rfl rfl rfl (HSub.c 1 rfl HSub.n) CSub.n (Le.refl _) (yl_assign rfl rfl) ?_
          refine JA.done (by kernel_rfl) ?_
          refine Ej.seq ?_
          refine Cj.ret ?_
          refine Ej.bare ?_
          refine Ej.ret1 rfl rfl rfl ?_
          refine ⟨?_, rfl⟩
          first | (rw [hw, hku]; done) | (rw [hw, hku]; simp [str])

theorem print_ok (q : Cq.Qn) : PrintSpec q := by
  suffices ∀ n (q : Cq.Qn), q.size < n → PrintSpec q from this _ q (Nat.lt_succ_self _)
  intro n
  induction n with
  | zero => intro q h; omega
  | succ n ih => intro q h; exact print_step q fun q' h' => ih q' (by omega)

set_option maxRecDepth 20000 in
theorem Print_ok (q : Cq.Qn) (p : Option Addr) (c : Nat) (hdep : Cq.depth q ≤ 1000000000) (hlen : Cq.form q = true → (Cq.write q).length ≤ 1000000000000) (I : Heap) (hps : PS I q.ps p) : Pure Tryz.prog 14 [.agg (qCells q p c).toArray] I (str (Cq.print q)) := by
  refine Ctr.toPure ?_
  refine Ctr.of_body Tryz.func14 rfl (by decide) (Nat.le_of_ble_eq_true rfl) ?_
  intro w0 hw0
  refine Cj.seq ?_
  refine Cj.region ?_
  refine J.op rfl (op_box rfl rfl rfl rfl rfl ?_)
  intro b1 hb1
  refine J.y (yl_assign rfl rfl) rfl rfl rfl ?_
  refine J.nil ?_
  refine Ej.seq ?_
  refine Cj.seq ?_
  refine Cj.region ?_
  refine J.y (yl_loadAgg rfl rfl Tryz.isAgg28 Tryz.sizeOf28 (Blk.at 0 rfl) rfl rfl) rfl rfl rfl ?_
  refine J.op rfl (op_pure rfl rfl rfl rfl rfl (Right_ok q p c hdep _ hps) ?_)
  refine J.y (yl_assign rfl rfl) rfl rfl rfl ?_
  refine J.nil ?_
  refine Ej.seq ?_
  refine Cj.seq ?_
  refine Cj.seq ?_
  refine Cj.region ?_
  refine J.y (yl_move rfl rfl) rfl rfl rfl ?_
  refine J.y (yl_not rfl rfl) rfl rfl rfl ?_
  refine J.nil ?_
  refine Ej.seq ?_
  refine Cj.cond rfl (fun hc2 => ?_) (fun hc2 => ?_)
  ·
    have hr : Cq.right q = false := by have h := hc2; simpa using h
    refine Cj.seq ?_
    refine Cj.region ?_
    refine J.y (yl_assign rfl rfl) rfl rfl rfl ?_
    refine J.nil ?_
    refine Ej.seq ?_
    refine Cj.ret ?_
    refine Ej.seqRet ?_
    refine Ej.bare ?_
    refine Ej.ret1 rfl rfl rfl ?_
    refine ⟨?_, rfl⟩
    simp [Cq.print, hr] <;> rfl
  ·
    have hr : Cq.right q = true := by have h := hc2; simpa using h
    have hform : Cq.form q = true := by unfold Cq.right at hr; rw [Bool.and_eq_true] at hr; exact hr.1
    refine Cj.skip ?_
    refine Ej.seq ?_
    refine Cj.seq ?_
    refine Cj.region ?_
    refine J.y (yl_loadAgg rfl rfl Tryz.isAgg28 Tryz.sizeOf28 (Blk.at 0 rfl) rfl rfl) rfl rfl rfl ?_
    refine J.op rfl (op_pure rfl rfl rfl rfl rfl (print_ok q p c _ hps hform (hlen hform)) ?_)
    refine J.y (yl_assign rfl rfl) rfl rfl rfl ?_
    refine J.nil ?_
    refine Ej.seq ?_
    refine Cj.ret ?_
    refine Ej.bare ?_
    refine Ej.ret1 rfl rfl rfl ?_
    refine ⟨?_, rfl⟩
    simp [Cq.print, hr] <;> rfl

end Go.Proofs.YtlfpehljahgbkaaGreatDoor
