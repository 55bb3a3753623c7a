/-
  The law CqlChanged walked. Own text, printed by a program. Conditions: none.
-/
import Derived.Test.YtlfpehljahgbkaaGreatDoorCqW
import Derived.Test.YtlfpehljahgbkaaGreatDoorCqPos
namespace Go.Proofs.YtlfpehljahgbkaaGreatDoor
open Go Go.Sx
def mores : List (List UInt8) := [[97, 110, 100, 32], [40, 32], [41, 32], [61, 32], [97, 110, 121, 32], [116, 105, 116, 108, 101, 32], [34, 120, 34, 32], [62, 32]]
set_option maxRecDepth 20000 in
theorem Changed_ok (l : List Int) (v : Value) (a b c : UInt8) (I : Heap) (ht : Tabs I) (hl : IntSl I l v) : Pure Tryz.prog 11 [v, .agg #[u8 a, u8 b, u8 c]] I (.bool true) := by
  refine Ctr.toPure ?_
  obtain ⟨hf, hd, hw, hz⟩ := Cq.madeQ_form l
  have hr : Cq.right (Cq.madeQ l) = true := by unfold Cq.right; rw [hf]; simp; omega
  have hpr : Cq.print (Cq.madeQ l) = Cq.write (Cq.madeQ l) := by unfold Cq.print; rw [if_pos hr]
  obtain ⟨s, hs⟩ : ∃ s, s = Cq.write (Cq.madeQ l) := ⟨_, rfl⟩
  rw [← hs] at hpr hw
  have h2 : 2 ≤ (Cq.tokens s).length := by rw [hs]; exact Cq.tokens_two hf
  have hnl : (Cq.tokens s).length ≤ s.length + 1 := (Cq.toks_good s (s.length + 1) 0 (by omega) (by omega)).2.1
  obtain ⟨k, hk⟩ : ∃ k, k = b.toNat % ((Cq.tokens s).length - 1) := ⟨_, rfl⟩
  have hkl : k < (Cq.tokens s).length - 1 := by rw [hk]; exact Nat.mod_lt _ (by omega)
  obtain ⟨t, hg⟩ : ∃ t, (Cq.tokens s)[k]? = some t := ⟨_, List.getElem?_eq_getElem (by omega)⟩
  obtain ⟨t', hg'⟩ : ∃ t', (Cq.tokens s)[k + 1]? = some t' := ⟨_, List.getElem?_eq_getElem (by omega)⟩
  obtain ⟨hp1, hp2⟩ := Cq.tokens_sorted hg hg'
  have hdr : (Cq.tokens s).drop k = t :: (Cq.tokens s).drop (k + 1) := by
    obtain ⟨h1, h3⟩ := List.getElem?_eq_some_iff.1 hg
    rw [← h3]; exact List.drop_eq_getElem_cons h1
  have hdr' : (Cq.tokens s).drop (k + 1) = t' :: (Cq.tokens s).drop (k + 1 + 1) := by
    obtain ⟨h1, h3⟩ := List.getElem?_eq_some_iff.1 hg'
    rw [← h3]; exact List.drop_eq_getElem_cons h1
  have hc8 : c.toNat % 8 < 8 := Nat.mod_lt _ (by decide)
  obtain ⟨m, hm⟩ : ∃ m, m = mores.getD (c.toNat % 8) [] := ⟨_, rfl⟩
  have hml : m.length ≤ 6 := by rw [hm]; exact (by decide : ∀ w ∈ mores, w.length ≤ 6) _ (getD_in hc8)
  refine Ctr.of_body Tryz.func11 rfl (by decide) (Nat.le_of_ble_eq_true rfl) ?_
  intro w0 hw0
  refine Cj.seq ?_
  refine Cj.region ?_
  refine J.op rfl (op_box rfl rfl rfl rfl rfl ?_)
  intro b1 hb1
  refine J.y (yl_assign rfl rfl) rfl rfl rfl ?_
  refine J.nil ?_
  refine Ej.seq ?_
  refine Cj.seq ?_
  refine Cj.region ?_
  refine J.op rfl (op_pure rfl rfl rfl rfl rfl (sanity_ok _ ht) ?_)
  refine J.y (yl_assign rfl rfl) rfl rfl rfl ?_
  refine J.nil ?_
  refine Ej.seq ?_
  refine Cj.seq ?_
  refine Cj.region ?_
  refine J.y (yl_move rfl rfl) rfl rfl rfl ?_
  refine J.op rfl (op_call (H1 := []) rfl rfl rfl rfl rfl (Made_ok v l _ hl) ?_ (fun _ _ _ _ h => by obtain ⟨⟨_, h, _⟩, _⟩ := h; cases h) (fun _ _ h => by obtain ⟨⟨_, h, _⟩, _⟩ := h; cases h))
  intro v2 I3 H4 hle5 hp6
  have ht := ht.mono hle5
  have hl := hl.mono hle5
  obtain ⟨⟨w, h, pp, cc, rfl, hps⟩, rfl⟩ := hp6; cases h
  refine J.op rfl (op_pure rfl rfl rfl rfl rfl (Print_ok (Cq.madeQ l) pp cc (by omega) (fun _ => by rw [← hs]; omega) _ hps) ?_)
  refine J.eqv 16 rfl (show _ = str s from (by rw [hpr])) ?_
  refine J.y (yl_assign rfl rfl) rfl rfl rfl ?_
  refine J.nil ?_
  refine Ej.seq ?_
  refine Cj.seq ?_
  refine Cj.region ?_
  refine J.y (yl_move rfl rfl) rfl rfl rfl ?_
  refine J.op rfl (op_call (H1 := []) rfl rfl rfl rfl rfl (Tokens_ok s (by omega) _) ?_ (fun _ _ _ _ h => by obtain ⟨⟨_, h, _⟩, _⟩ := h; cases h) (fun _ _ h => by obtain ⟨⟨_, h, _⟩, _⟩ := h; cases h))
  intro v7 I8 H9 hle10 hp11
  have ht := ht.mono hle10
  have hl := hl.mono hle10
  have hps := hps.mono hle10
  obtain ⟨⟨w, h, bt, ct, spt, rfl, hbt⟩, rfl⟩ := hp11; cases h
  refine J.y (yl_assign rfl rfl) rfl rfl rfl ?_
  refine J.nil ?_
  refine Ej.seq ?_
  refine Cj.seq ?_
  refine Cj.seq ?_
  refine Cj.region ?_
  refine J.y (yl_move rfl rfl) rfl rfl rfl ?_
  refine J.y (yl_lenSlice rfl rfl Tryz.underlying47) rfl rfl rfl ?_
  refine J.y (yl_lss rfl rfl rfl) rfl rfl rfl ?_
  refine J.nil ?_
  refine Ej.seq ?_
  refine Cj.cond rfl (fun hc12 => Bool.noConfusion (Eq.trans (Eq.symm (decide_eq_false (by omega))) hc12)) (fun hc12 => ?_)
  refine Cj.skip ?_
  refine Ej.seq ?_
  refine Cj.seq ?_
  refine Cj.region ?_
  refine J.y (yl_indexArr (off' := 1) rfl rfl rfl Tryz.underlying55 Tryz.sizeOf5 (by decide) (by decide) (by decide)) rfl rfl rfl ?_
  refine J.y (yl_load rfl rfl Tryz.isAgg5 (Blk.at 0 rfl) rfl) rfl rfl rfl ?_
  refine J.y (yl_convInt rfl rfl Tryz.underlying5 Tryz.underlying3) rfl rfl rfl ?_
  refine J.eqv 24 rfl (show _ = i64 (b.toNat : Int) from (congrArg (Value.int .i64) (w64 (by have := b.toNat_lt; omega)))) ?_
  refine J.y (yl_move rfl rfl) rfl rfl rfl ?_
  refine J.y (yl_lenSlice rfl rfl Tryz.underlying47) rfl rfl rfl ?_
  refine J.y (yl_sub rfl rfl rfl (w64 (by omega))) rfl rfl rfl ?_
  refine J.y (yl_rem rfl rfl rfl (by omega)) rfl rfl rfl ?_
  refine J.eqv 28 rfl (show _ = i64 (k : Int) from (by rw [hk]; congr 1; rw [show (((Cq.tokens s).length : Int) - 1) = (((Cq.tokens s).length - 1 : Nat) : Int) by omega]; exact (Int.ofNat_tmod _ _).symm)) ?_
  refine J.y (yl_assign rfl rfl) rfl rfl rfl ?_
  refine J.nil ?_
  refine Ej.seq ?_
  refine Cj.seq ?_
  refine Cj.drawSel [0] [] 13 (by kernel_rfl) ?_
  refine JA.take 0 rfl rfl (by kernel_rfl) (by kernel_rfl) (by kernel_rfl) (fun _ _ _ h => h) rfl rfl rfl (HSub.c 0 rfl HSub.n) CSub.n (Le.refl _) (yl_move rfl rfl) ?_
  refine JA.take 1 rfl rfl (by kernel_rfl) (by kernel_rfl) (by kernel_rfl) (fun _ _ _ h => h) rfl rfl rfl (HSub.c 0 rfl HSub.n) CSub.n (Le.refl _) (yl_move rfl rfl) ?_
  refine JA.take 2 rfl rfl (by kernel_rfl) (by kernel_rfl) (by kernel_rfl) (fun _ _ _ h => h) rfl rfl rfl (HSub.c 0 rfl HSub.n) CSub.n (Le.refl _) (yl_indexAddr (off' := k * 3) rfl rfl rfl Tryz.underlying47 Tryz.sizeOf50 (by omega) (by omega) (by simp)) ?_
  refine JA.take 3 rfl rfl (by kernel_rfl) (by kernel_rfl) (by kernel_rfl) (fun _ _ _ h => h) rfl rfl rfl (HSub.c 0 rfl HSub.n) CSub.n (Le.refl _) (yl_fieldAddr rfl rfl Tryz.underlying50 rfl Tryz.sizeOf3 rfl) ?_
  refine JA.take 4 rfl rfl (by kernel_rfl) (by kernel_rfl) (by kernel_rfl) (fun _ _ _ h => h) rfl rfl rfl (HSub.c 0 rfl HSub.n) CSub.n (Le.refl _) (yl_load rfl rfl Tryz.isAgg3 (Blk.immC hbt) (by simpa [Cq.tokC] using tok_cell hdr 2 (by omega))) ?_
  refine JA.take 5 rfl rfl (by kernel_rfl) (by kernel_rfl) (by kernel_rfl) (fun _ _ _ h => h) rfl rfl rfl (HSub.c 0 rfl HSub.n) CSub.n (Le.refl _) (yl_move rfl rfl) ?_
  refine JA.take 6 rfl rfl (by kernel_rfl) (by kernel_rfl) (by kernel_rfl) (fun _ _ _ h => h) rfl rfl rfl (HSub.c 0 rfl HSub.n) CSub.n (Le.refl _) (yl_move rfl rfl) ?_
  refine JA.take 7 rfl rfl (by kernel_rfl) (by kernel_rfl) (by kernel_rfl) (fun _ _ _ h => h) rfl rfl rfl (HSub.c 0 rfl HSub.n) CSub.n (Le.refl _) (yl_add rfl rfl rfl (w64 (by omega))) ?_
  refine JA.take 8 rfl rfl (by kernel_rfl) (by kernel_rfl) (by kernel_rfl) (fun _ _ _ h => h) rfl rfl rfl (HSub.c 0 rfl HSub.n) CSub.n (Le.refl _) (yl_indexAddr (off' := (k + 1) * 3) rfl rfl rfl Tryz.underlying47 Tryz.sizeOf50 (by omega) (by omega) (by omega)) ?_
  refine JA.take 9 rfl rfl (by kernel_rfl) (by kernel_rfl) (by kernel_rfl) (fun _ _ _ h => h) rfl rfl rfl (HSub.c 0 rfl HSub.n) CSub.n (Le.refl _) (yl_fieldAddr rfl rfl Tryz.underlying50 rfl Tryz.sizeOf3 rfl) ?_
  refine JA.take 10 rfl rfl (by kernel_rfl) (by kernel_rfl) (by kernel_rfl) (fun _ _ _ h => h) rfl rfl rfl (HSub.c 0 rfl HSub.n) CSub.n (Le.refl _) (yl_load rfl rfl Tryz.isAgg3 (Blk.immC hbt) (by simpa [Cq.tokC] using tok_cell hdr' 2 (by omega))) ?_
  refine JA.take 11 rfl rfl (by kernel_rfl) (by kernel_rfl) (by kernel_rfl) (fun _ _ _ h => h) rfl rfl rfl (HSub.c 0 rfl HSub.n) CSub.n (Le.refl _) (yl_assign rfl rfl) ?_
  refine JA.take 12 rfl rfl (by kernel_rfl) (by kernel_rfl) (by kernel_rfl) (fun _ _ _ h => h) rfl rfl rfl (HSub.c 0 rfl HSub.n) CSub.n (Le.refl _) (yl_assign rfl rfl) ?_
  refine JA.done (by kernel_rfl) ?_
  refine Ej.seq ?_
  refine Cj.seq ?_
  refine Cj.region ?_
  refine J.op rfl (op_buildSlice rfl rfl rfl Tryz.underlying44 Tryz.sizeOf9 Tryz.zeroValue9 rfl rfl rfl rfl (LCat.one rfl (LCat.one rfl (LCat.one rfl (LCat.one rfl (LCat.one rfl (LCat.one rfl (LCat.one rfl (LCat.one rfl LCat.none)))))))) ?_)
  intro b13 hb13
  refine J.y (yl_indexArr (off' := 2) rfl rfl rfl Tryz.underlying55 Tryz.sizeOf5 (by decide) (by decide) (by decide)) rfl rfl rfl ?_
  refine J.y (yl_load rfl rfl Tryz.isAgg5 (Blk.at 1 rfl) rfl) rfl rfl rfl ?_
  refine J.y (yl_rem rfl rfl rfl (by omega)) rfl rfl rfl ?_
  refine J.eqv 43 rfl (show _ = .int .u8 ((c.toNat % 8 : Nat) : Int) from (congrArg (Value.int .u8) (Int.ofNat_tmod c.toNat 8).symm)) ?_
  refine J.y (yl_indexAddr (off' := (c.toNat % 8)) rfl rfl rfl Tryz.underlying44 Tryz.sizeOf9 (by omega) (by omega) (by simp; omega)) rfl rfl rfl ?_
  refine J.y (yl_load rfl rfl Tryz.isAgg9 (Blk.at 0 rfl) (idx_at (l := mores) hc8)) rfl rfl rfl ?_
  refine J.eqv 45 rfl (show _ = str m from (by rw [hm])) ?_
  refine J.y (yl_assign rfl rfl) rfl rfl rfl ?_
  refine J.nil ?_
  refine Ej.seq ?_
  refine Cj.seq ?_
  refine Cj.drawSel [0, 1] [] 8 (by kernel_rfl) ?_
  refine JA.take 0 rfl rfl (by kernel_rfl) (by kernel_rfl) (by kernel_rfl) (fun _ _ _ h => h) rfl rfl rfl (HSub.c 0 rfl (HSub.c 1 rfl HSub.n)) CSub.n (Le.refl _) (yl_move rfl rfl) ?_
  refine JA.take 1 rfl rfl (by kernel_rfl) (by kernel_rfl) (by kernel_rfl) (fun _ _ _ h => h) rfl rfl rfl (HSub.c 0 rfl (HSub.c 1 rfl HSub.n)) CSub.n (Le.refl _) (yl_move rfl rfl) ?_
  refine JA.take 2 rfl rfl (by kernel_rfl) (by kernel_rfl) (by kernel_rfl) (fun _ _ _ h => h) rfl rfl rfl (HSub.c 0 rfl (HSub.c 1 rfl HSub.n)) CSub.n (Le.refl _) (yl_sliceStr (p := 0) (q := t.pos) rfl rfl Tryz.underlying9 rfl ⟨_, rfl⟩ (by omega) (by omega)) ?_
  refine JA.take 3 rfl rfl (by kernel_rfl) (by kernel_rfl) (by kernel_rfl) (fun _ _ _ h => h) rfl rfl rfl (HSub.c 0 rfl (HSub.c 1 rfl HSub.n)) CSub.n (Le.refl _) (yl_move rfl rfl) ?_
  refine JA.take 4 rfl rfl (by kernel_rfl) (by kernel_rfl) (by kernel_rfl) (fun _ _ _ h => h) rfl rfl rfl (HSub.c 0 rfl (HSub.c 1 rfl HSub.n)) CSub.n (Le.refl _) (yl_move rfl rfl) ?_
  refine JA.take 5 rfl rfl (by kernel_rfl) (by kernel_rfl) (by kernel_rfl) (fun _ _ _ h => h) rfl rfl rfl (HSub.c 0 rfl (HSub.c 1 rfl HSub.n)) CSub.n (Le.refl _) (yl_sliceStr (p := t'.pos) (q := s.length) rfl rfl Tryz.underlying9 ⟨_, rfl⟩ rfl (by omega) (by omega)) ?_
  refine JA.take 6 rfl rfl (by kernel_rfl) (by kernel_rfl) (by kernel_rfl) (fun _ _ _ h => h) rfl rfl rfl (HSub.c 0 rfl (HSub.c 1 rfl HSub.n)) CSub.n (Le.refl _) (yl_cat rfl rfl rfl (by first | omega | (simp only [List.length_append]; omega) | (simp; omega))) ?_
  refine JA.take 7 rfl rfl (by kernel_rfl) (by kernel_rfl) (by kernel_rfl) (fun _ _ _ h => h) rfl rfl rfl (HSub.c 0 rfl (HSub.c 1 rfl HSub.n)) CSub.n (Le.refl _) (yl_assign rfl rfl) ?_
  refine JA.done (by kernel_rfl) ?_
  refine Ej.seq ?_
  refine Cj.seq ?_
  refine Cj.seq ?_
  refine Cj.region ?_
  refine J.y (yl_indexArr (off' := 0) rfl rfl rfl Tryz.underlying55 Tryz.sizeOf5 (by decide) (by decide) (by decide)) rfl rfl rfl ?_
  refine J.y (yl_load rfl rfl Tryz.isAgg5 (Blk.at 1 rfl) rfl) rfl rfl rfl ?_
  refine J.y (yl_rem rfl rfl rfl (by omega)) rfl rfl rfl ?_
  refine J.eqv 55 rfl (show _ = .int .u8 ((a.toNat % 4 : Nat) : Int) from (congrArg (Value.int .u8) (Int.ofNat_tmod a.toNat 4).symm)) ?_
  refine J.nil ?_
  refine Ej.seq ?_
  refine Cj.block ?_
  refine Cj.seq ?_
  refine Cj.region ?_
  refine J.y (yl_eql rfl rfl rfl) rfl rfl rfl ?_
  refine J.y (yl_assign rfl rfl) rfl rfl rfl ?_
  refine J.nil ?_
  refine Ej.seq ?_
  refine Cj.cond rfl (fun hc14 => ?_) (fun hc14 => ?_)
  ·
    have hc14p := eq_of_beq hc14
    refine Cj.drawSel [0, 1] [] 9 (by kernel_rfl) ?_
    refine JA.take 0 rfl rfl (by kernel_rfl) (by kernel_rfl) (by kernel_rfl) (fun _ _ _ h => h) rfl rfl rfl (HSub.c 0 rfl (HSub.c 1 rfl HSub.n)) CSub.n (Le.refl _) (yl_move rfl rfl) ?_
    refine JA.take 1 rfl rfl (by kernel_rfl) (by kernel_rfl) (by kernel_rfl) (fun _ _ _ h => h) rfl rfl rfl (HSub.c 0 rfl (HSub.c 1 rfl HSub.n)) CSub.n (Le.refl _) (yl_move rfl rfl) ?_
    refine JA.take 2 rfl rfl (by kernel_rfl) (by kernel_rfl) (by kernel_rfl) (fun _ _ _ h => h) rfl rfl rfl (HSub.c 0 rfl (HSub.c 1 rfl HSub.n)) CSub.n (Le.refl _) (yl_sliceStr (p := 0) (q := t'.pos) rfl rfl Tryz.underlying9 rfl ⟨_, rfl⟩ (by omega) (by omega)) ?_
    refine JA.take 3 rfl rfl (by kernel_rfl) (by kernel_rfl) (by kernel_rfl) (fun _ _ _ h => h) rfl rfl rfl (HSub.c 0 rfl (HSub.c 1 rfl HSub.n)) CSub.n (Le.refl _) (yl_cat rfl rfl rfl (by first | omega | (simp only [List.length_append]; omega) | (simp; omega))) ?_
    refine JA.take 4 rfl rfl (by kernel_rfl) (by kernel_rfl) (by kernel_rfl) (fun _ _ _ h => h) rfl rfl rfl (HSub.c 0 rfl (HSub.c 1 rfl HSub.n)) CSub.n (Le.refl _) (yl_move rfl rfl) ?_
    refine JA.take 5 rfl rfl (by kernel_rfl) (by kernel_rfl) (by kernel_rfl) (fun _ _ _ h => h) rfl rfl rfl (HSub.c 0 rfl (HSub.c 1 rfl HSub.n)) CSub.n (Le.refl _) (yl_move rfl rfl) ?_
    refine JA.take 6 rfl rfl (by kernel_rfl) (by kernel_rfl) (by kernel_rfl) (fun _ _ _ h => h) rfl rfl rfl (HSub.c 0 rfl (HSub.c 1 rfl HSub.n)) CSub.n (Le.refl _) (yl_sliceStr (p := t.pos) (q := s.length) rfl rfl Tryz.underlying9 ⟨_, rfl⟩ rfl (by omega) (by omega)) ?_
    refine JA.take 7 rfl rfl (by kernel_rfl) (by kernel_rfl) (by kernel_rfl) (fun _ _ _ h => h) rfl rfl rfl (HSub.c 0 rfl (HSub.c 1 rfl HSub.n)) CSub.n (Le.refl _) (yl_cat rfl rfl rfl (by first | omega | (simp only [List.length_append]; omega) | (simp; omega))) ?_
    refine JA.take 8 rfl rfl (by kernel_rfl) (by kernel_rfl) (by kernel_rfl) (fun _ _ _ h => h) rfl rfl rfl (HSub.c 0 rfl (HSub.c 1 rfl HSub.n)) CSub.n (Le.refl _) (yl_assign rfl rfl) ?_
    refine JA.done (by kernel_rfl) ?_
    refine Ej.blkNormal ?_
    refine Ej.seq ?_
    refine Cj.seq ?_
    refine Cj.region ?_
    refine J.y (yl_move rfl rfl) rfl rfl rfl ?_
    refine J.y (yl_move rfl rfl) rfl rfl rfl ?_
    refine J.opG 1 89 true _ rfl rfl rfl rfl (op_yld (yl_move rfl rfl) rfl rfl ?_)
    refine J.opG 1 89 true _ rfl rfl rfl rfl (op_pure rfl rfl rfl rfl rfl (agrees_ok _ (by first | omega | (simp; omega)) _ ht) ?_)
    refine J.y (yl_pick1 rfl rfl rfl rfl) rfl rfl rfl ?_
    refine J.y (yl_assign rfl rfl) rfl rfl rfl ?_
    refine J.nil ?_
    refine Ej.seq ?_
    refine Cj.ret ?_
    refine Ej.bare ?_
    refine Ej.ret1 rfl rfl rfl ?_
    refine ⟨?_, rfl⟩
    simp
  ·
    have hc14p := ne_of_beq_false hc14
    refine Cj.seq ?_
    refine Cj.region ?_
    refine J.y (yl_eql rfl rfl rfl) rfl rfl rfl ?_
    refine J.y (yl_assign rfl rfl) rfl rfl rfl ?_
    refine J.nil ?_
    refine Ej.seq ?_
    refine Cj.cond rfl (fun hc15 => ?_) (fun hc15 => ?_)
    ·
      have hc15p := eq_of_beq hc15
      refine Cj.drawSel [0, 1] [] 10 (by kernel_rfl) ?_
      refine JA.take 0 rfl rfl (by kernel_rfl) (by kernel_rfl) (by kernel_rfl) (fun _ _ _ h => h) rfl rfl rfl (HSub.c 0 rfl (HSub.c 1 rfl HSub.n)) CSub.n (Le.refl _) (yl_move rfl rfl) ?_
      refine JA.take 1 rfl rfl (by kernel_rfl) (by kernel_rfl) (by kernel_rfl) (fun _ _ _ h => h) rfl rfl rfl (HSub.c 0 rfl (HSub.c 1 rfl HSub.n)) CSub.n (Le.refl _) (yl_move rfl rfl) ?_
      refine JA.take 2 rfl rfl (by kernel_rfl) (by kernel_rfl) (by kernel_rfl) (fun _ _ _ h => h) rfl rfl rfl (HSub.c 0 rfl (HSub.c 1 rfl HSub.n)) CSub.n (Le.refl _) (yl_sliceStr (p := 0) (q := t.pos) rfl rfl Tryz.underlying9 rfl ⟨_, rfl⟩ (by omega) (by omega)) ?_
      refine JA.take 3 rfl rfl (by kernel_rfl) (by kernel_rfl) (by kernel_rfl) (fun _ _ _ h => h) rfl rfl rfl (HSub.c 0 rfl (HSub.c 1 rfl HSub.n)) CSub.n (Le.refl _) (yl_move rfl rfl) ?_
      refine JA.take 4 rfl rfl (by kernel_rfl) (by kernel_rfl) (by kernel_rfl) (fun _ _ _ h => h) rfl rfl rfl (HSub.c 0 rfl (HSub.c 1 rfl HSub.n)) CSub.n (Le.refl _) (yl_cat rfl rfl rfl (by first | omega | (simp only [List.length_append]; omega) | (simp; omega))) ?_
      refine JA.take 5 rfl rfl (by kernel_rfl) (by kernel_rfl) (by kernel_rfl) (fun _ _ _ h => h) rfl rfl rfl (HSub.c 0 rfl (HSub.c 1 rfl HSub.n)) CSub.n (Le.refl _) (yl_move rfl rfl) ?_
      refine JA.take 6 rfl rfl (by kernel_rfl) (by kernel_rfl) (by kernel_rfl) (fun _ _ _ h => h) rfl rfl rfl (HSub.c 0 rfl (HSub.c 1 rfl HSub.n)) CSub.n (Le.refl _) (yl_move rfl rfl) ?_
      refine JA.take 7 rfl rfl (by kernel_rfl) (by kernel_rfl) (by kernel_rfl) (fun _ _ _ h => h) rfl rfl rfl (HSub.c 0 rfl (HSub.c 1 rfl HSub.n)) CSub.n (Le.refl _) (yl_sliceStr (p := t'.pos) (q := s.length) rfl rfl Tryz.underlying9 ⟨_, rfl⟩ rfl (by omega) (by omega)) ?_
      refine JA.take 8 rfl rfl (by kernel_rfl) (by kernel_rfl) (by kernel_rfl) (fun _ _ _ h => h) rfl rfl rfl (HSub.c 0 rfl (HSub.c 1 rfl HSub.n)) CSub.n (Le.refl _) (yl_cat rfl rfl rfl (by first | omega | (simp only [List.length_append]; omega) | (simp; omega))) ?_
      refine JA.take 9 rfl rfl (by kernel_rfl) (by kernel_rfl) (by kernel_rfl) (fun _ _ _ h => h) rfl rfl rfl (HSub.c 0 rfl (HSub.c 1 rfl HSub.n)) CSub.n (Le.refl _) (yl_assign rfl rfl) ?_
      refine JA.done (by kernel_rfl) ?_
      refine Ej.blkNormal ?_
      refine Ej.seq ?_
      refine Cj.seq ?_
      refine Cj.region ?_
      refine J.y (yl_move rfl rfl) rfl rfl rfl ?_
      refine J.y (yl_move rfl rfl) rfl rfl rfl ?_
      refine J.opG 1 89 true _ rfl rfl rfl rfl (op_yld (yl_move rfl rfl) rfl rfl ?_)
      refine J.opG 1 89 true _ rfl rfl rfl rfl (op_pure rfl rfl rfl rfl rfl (agrees_ok _ (by first | omega | (simp; omega)) _ ht) ?_)
      refine J.y (yl_pick1 rfl rfl rfl rfl) rfl rfl rfl ?_
      refine J.y (yl_assign rfl rfl) rfl rfl rfl ?_
      refine J.nil ?_
      refine Ej.seq ?_
      refine Cj.ret ?_
      refine Ej.bare ?_
      refine Ej.ret1 rfl rfl rfl ?_
      refine ⟨?_, rfl⟩
      simp
    ·
      have hc15p := ne_of_beq_false hc15
      refine Cj.seq ?_
      refine Cj.region ?_
      refine J.y (yl_eql rfl rfl rfl) rfl rfl rfl ?_
      refine J.y (yl_assign rfl rfl) rfl rfl rfl ?_
      refine J.nil ?_
      refine Ej.seq ?_
      refine Cj.cond rfl (fun hc16 => ?_) (fun hc16 => ?_)
      ·
        have hc16p := eq_of_beq hc16
        refine Cj.drawSel [0, 1] [] 10 (by kernel_rfl) ?_
        refine JA.take 0 rfl rfl (by kernel_rfl) (by kernel_rfl) (by kernel_rfl) (fun _ _ _ h => h) rfl rfl rfl (HSub.c 0 rfl (HSub.c 1 rfl HSub.n)) CSub.n (Le.refl _) (yl_move rfl rfl) ?_
        refine JA.take 1 rfl rfl (by kernel_rfl) (by kernel_rfl) (by kernel_rfl) (fun _ _ _ h => h) rfl rfl rfl (HSub.c 0 rfl (HSub.c 1 rfl HSub.n)) CSub.n (Le.refl _) (yl_move rfl rfl) ?_
        refine JA.take 2 rfl rfl (by kernel_rfl) (by kernel_rfl) (by kernel_rfl) (fun _ _ _ h => h) rfl rfl rfl (HSub.c 0 rfl (HSub.c 1 rfl HSub.n)) CSub.n (Le.refl _) (yl_sliceStr (p := 0) (q := t.pos) rfl rfl Tryz.underlying9 rfl ⟨_, rfl⟩ (by omega) (by omega)) ?_
        refine JA.take 3 rfl rfl (by kernel_rfl) (by kernel_rfl) (by kernel_rfl) (fun _ _ _ h => h) rfl rfl rfl (HSub.c 0 rfl (HSub.c 1 rfl HSub.n)) CSub.n (Le.refl _) (yl_move rfl rfl) ?_
        refine JA.take 4 rfl rfl (by kernel_rfl) (by kernel_rfl) (by kernel_rfl) (fun _ _ _ h => h) rfl rfl rfl (HSub.c 0 rfl (HSub.c 1 rfl HSub.n)) CSub.n (Le.refl _) (yl_cat rfl rfl rfl (by first | omega | (simp only [List.length_append]; omega) | (simp; omega))) ?_
        refine JA.take 5 rfl rfl (by kernel_rfl) (by kernel_rfl) (by kernel_rfl) (fun _ _ _ h => h) rfl rfl rfl (HSub.c 0 rfl (HSub.c 1 rfl HSub.n)) CSub.n (Le.refl _) (yl_move rfl rfl) ?_
        refine JA.take 6 rfl rfl (by kernel_rfl) (by kernel_rfl) (by kernel_rfl) (fun _ _ _ h => h) rfl rfl rfl (HSub.c 0 rfl (HSub.c 1 rfl HSub.n)) CSub.n (Le.refl _) (yl_move rfl rfl) ?_
        refine JA.take 7 rfl rfl (by kernel_rfl) (by kernel_rfl) (by kernel_rfl) (fun _ _ _ h => h) rfl rfl rfl (HSub.c 0 rfl (HSub.c 1 rfl HSub.n)) CSub.n (Le.refl _) (yl_sliceStr (p := t.pos) (q := s.length) rfl rfl Tryz.underlying9 ⟨_, rfl⟩ rfl (by omega) (by omega)) ?_
        refine JA.take 8 rfl rfl (by kernel_rfl) (by kernel_rfl) (by kernel_rfl) (fun _ _ _ h => h) rfl rfl rfl (HSub.c 0 rfl (HSub.c 1 rfl HSub.n)) CSub.n (Le.refl _) (yl_cat rfl rfl rfl (by first | omega | (simp only [List.length_append]; omega) | (simp; omega))) ?_
        refine JA.take 9 rfl rfl (by kernel_rfl) (by kernel_rfl) (by kernel_rfl) (fun _ _ _ h => h) rfl rfl rfl (HSub.c 0 rfl (HSub.c 1 rfl HSub.n)) CSub.n (Le.refl _) (yl_assign rfl rfl) ?_
        refine JA.done (by kernel_rfl) ?_
        refine Ej.blkNormal ?_
        refine Ej.seq ?_
        refine Cj.seq ?_
        refine Cj.region ?_
        refine J.y (yl_move rfl rfl) rfl rfl rfl ?_
        refine J.y (yl_move rfl rfl) rfl rfl rfl ?_
        refine J.opG 1 89 true _ rfl rfl rfl rfl (op_yld (yl_move rfl rfl) rfl rfl ?_)
        refine J.opG 1 89 true _ rfl rfl rfl rfl (op_pure rfl rfl rfl rfl rfl (agrees_ok _ (by first | omega | (simp; omega)) _ ht) ?_)
        refine J.y (yl_pick1 rfl rfl rfl rfl) rfl rfl rfl ?_
        refine J.y (yl_assign rfl rfl) rfl rfl rfl ?_
        refine J.nil ?_
        refine Ej.seq ?_
        refine Cj.ret ?_
        refine Ej.bare ?_
        refine Ej.ret1 rfl rfl rfl ?_
        refine ⟨?_, rfl⟩
        simp
      ·
        have hc16p := ne_of_beq_false hc16
        refine Cj.skip ?_
        refine Ej.blkNormal ?_
        refine Ej.seq ?_
        refine Cj.seq ?_
        refine Cj.region ?_
        refine J.y (yl_move rfl rfl) rfl rfl rfl ?_
        refine J.y (yl_move rfl rfl) rfl rfl rfl ?_
        refine J.opG 1 89 true _ rfl rfl rfl rfl (op_yld (yl_move rfl rfl) rfl rfl ?_)
        refine J.opG 1 89 true _ rfl rfl rfl rfl (op_pure rfl rfl rfl rfl rfl (agrees_ok _ (by first | omega | (simp; omega)) _ ht) ?_)
        refine J.y (yl_pick1 rfl rfl rfl rfl) rfl rfl rfl ?_
        refine J.y (yl_assign rfl rfl) rfl rfl rfl ?_
        refine J.nil ?_
        refine Ej.seq ?_
        refine Cj.ret ?_
        refine Ej.bare ?_
        refine Ej.ret1 rfl rfl rfl ?_
        refine ⟨?_, rfl⟩
        simp

end Go.Proofs.YtlfpehljahgbkaaGreatDoor
