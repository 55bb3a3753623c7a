/-
  The law CqlBlanks walked. Own text, printed by a program. Conditions: none.
-/
import Derived.Test.YtlfpehljahgbkaaGreatDoorCqBlanks
import Derived.Test.YtlfpehljahgbkaaGreatDoorCqAid
namespace Go.Proofs.YtlfpehljahgbkaaGreatDoor
open Go Go.Sx
structure BlSt where
  k : Nat
  g1 : Gs
  g2 : Gs
set_option maxRecDepth 20000 in
set_option maxHeartbeats 1600000 in
theorem Blanks_ok (l : List Int) (v : Value) (lb : List UInt8) (p0 : Option Addr) (c0 : Nat) (large : Bool) (hlbl : lb.length ≤ 9223372036854775807) (I : Heap) (ht : Tabs I) (hl : IntSl I l v) (hmem : MemB I lb p0) : Pure Tryz.prog 8 [v, .slice p0 lb.length c0, .bool large] I (.bool true) := by
  refine Ctr.toPure ?_
  have hsoup := Cq.soup_len l
  obtain ⟨T, hT⟩ : ∃ T, T = Cq.tokens (Cq.soup l) := ⟨_, rfl⟩
  obtain ⟨hshp, htl0⟩ := Cq.shp_toks (Cq.soup l) (Cq.soup l).length 0 (Nat.zero_le _) (by omega)
  have hshp : Cq.Shp T := by rw [hT]; exact hshp
  have htlT : Cq.tl T ≤ 480 := by rw [hT]; show Cq.tl (Cq.toksI (Cq.soup l) 0) ≤ 480; omega
  have hTl : T.length ≤ 481 := by rw [hT]; have := (Cq.toks_good (Cq.soup l) ((Cq.soup l).length + 1) 0 (by omega) (by omega)).2.1; unfold Cq.tokens; omega
  have hTn : 0 < T.length := by
    cases T with
    | nil => exact hshp.elim
    | cons _ _ => simp
  have hSl := Cq.sx_len T
  have hUl := Cq.ux_len (large := large) (Cq.gap_len lb) T 0
  obtain ⟨q1, i1, e1, hp1⟩ : ∃ q p er, Cq.parse (Cq.sx T) = (q, p, er) := ⟨_, _, _, rfl⟩
  obtain ⟨q2, i2, e2, hp2⟩ : ∃ q p er, Cq.parse (Cq.ux (Cq.gapOf lb) large T 0) = (q, p, er) := ⟨_, _, _, rfl⟩
  have hlaw := Cq.blanks_law (g := Cq.gapOf lb) (large := large) (Cq.gap_ok lb) hshp
  obtain ⟨z1, z2, z3⟩ := q_small (s := Cq.sx T) (by omega)
  obtain ⟨y1, y2, y3⟩ := q_small (s := Cq.ux (Cq.gapOf lb) large T 0) (by omega)
  obtain ⟨r1, _⟩ := Cq.parse_right (Cq.sx T)
  obtain ⟨r2, _⟩ := Cq.parse_right (Cq.ux (Cq.gapOf lb) large T 0)
  rw [hp1] at z1 z2 z3 r1
  rw [hp2] at y1 y2 y3 r2
  rw [hp1, hp2] at hlaw
  dsimp only at z1 z2 z3 r1 y1 y2 y3 r2 hlaw
  obtain ⟨rfl, hlaw1, hlaw2⟩ := hlaw
  refine Ctr.of_body Tryz.func8 rfl (by decide) (Nat.le_of_ble_eq_true rfl) ?_
  intro w0 hw0
  refine Cj.seq ?_
  refine Cj.region ?_
  refine J.y (yl_assign rfl rfl) rfl rfl rfl ?_
  refine J.nil ?_
  refine Ej.seq ?_
  refine Cj.seq ?_
  refine Cj.region ?_
  refine J.op rfl (op_pure rfl rfl rfl rfl rfl (sanity_ok _ ht) ?_)
  refine J.y (yl_assign rfl rfl) rfl rfl rfl ?_
  refine J.nil ?_
  refine Ej.seq ?_
  refine Cj.seq ?_
  refine Cj.region ?_
  refine J.y (yl_move rfl rfl) rfl rfl rfl ?_
  refine J.op rfl (op_pure rfl rfl rfl rfl rfl (Soup_ok v l _ hl) ?_)
  refine J.op rfl (op_call (H1 := []) rfl rfl rfl rfl rfl (Tokens_ok (Cq.soup l) (by omega) _) ?_ (fun _ _ _ _ h => by obtain ⟨⟨_, h, _⟩, _⟩ := h; cases h) (fun _ _ h => by obtain ⟨⟨_, h, _⟩, _⟩ := h; cases h))
  intro v1 I2 H3 hle4 hp5
  have ht := ht.mono hle4
  have hl := hl.mono hle4
  have hmem := hmem.mono hle4
  obtain ⟨⟨w, h, bt, ct, spt, rfl, hbt⟩, rfl⟩ := hp5; cases h
  rw [← hT] at hbt
  refine J.eqv 29 rfl (show _ = .slice (some ⟨bt, 0, none⟩) T.length ct from (by rw [hT])) ?_
  refine J.y (yl_assign rfl rfl) rfl rfl rfl ?_
  refine J.nil ?_
  refine Ej.seq ?_
  refine Cj.seq ?_
  refine Cj.region ?_
  refine J.y (yl_assign rfl rfl) rfl rfl rfl ?_
  refine J.nil ?_
  refine Ej.seq ?_
  refine Cj.seq ?_
  refine Cj.region ?_
  refine J.y (yl_assign rfl rfl) rfl rfl rfl ?_
  refine J.nil ?_
  refine Ej.seq ?_
  refine Cj.seq ?_
  refine Cj.region ?_
  refine J.y (yl_assign rfl rfl) rfl rfl rfl ?_
  refine J.y (yl_assign rfl rfl) rfl rfl rfl ?_
  refine J.nil ?_
  refine Ej.seq ?_
  refine Cj.seq ?_
  refine Cj.seq ?_
  refine Cj.region ?_
  refine J.y (yl_assign rfl rfl) rfl rfl rfl ?_
  refine J.nil ?_
  refine Ej.seq ?_
  refine Cj.block ?_
  refine Cj.loop (ι := BlSt) (fun j => j.k ≤ T.length ∧ gOk w0.heap.size 1 j.k (offs T j.k) j.g1 ∧ gOk w0.heap.size 1 j.k (movs lb large T j.k) j.g2) (fun j => T.length - j.k) (fun j => [(1, .slice p0 lb.length c0), (2, .bool large), (7, .bool true), (8, .slice (some ⟨bt, 0, none⟩) T.length ct), (9, str (Cq.sx (T.take j.k))), (10, str (Cq.ux (Cq.gapOf lb) large (T.take j.k) 0)), (11, gV j.k j.g1), (12, gV j.k j.g2), (13, i64 (j.k : Int))]) (fun j => _) (fun j => gH 3 (offs T j.k) j.g1 ++ gH 3 (movs lb large T j.k) j.g2) ⟨0, none, none⟩ ⟨Nat.zero_le _, ⟨rfl, rfl⟩, ⟨rfl, rfl⟩⟩ ⟨rfl, rfl, rfl, rfl, rfl, rfl, rfl, rfl, rfl, trivial⟩ rfl rfl ?_
  rintro ⟨k, g1, g2⟩ ⟨hk, hg1, hg2⟩
  dsimp only at hk hg1 hg2 ⊢
  have hsl := Cq.sx_len (T.take k)
  have hul := Cq.ux_len (large := large) (Cq.gap_len lb) (T.take k) 0
  have htk := Cq.tl_take T k
  have htl : (T.take k).length = k := by simp; omega
  have hgl := Cq.gap_len lb k
  refine Cj.seq ?_
  refine Cj.seq ?_
  refine Cj.region ?_
  refine J.y (yl_move rfl rfl) rfl rfl rfl ?_
  refine J.y (yl_move rfl rfl) rfl rfl rfl ?_
  refine J.y (yl_lenSlice rfl rfl Tryz.underlying47) rfl rfl rfl ?_
  refine J.y (yl_lss rfl rfl rfl) rfl rfl rfl ?_
  refine J.nil ?_
  refine Ej.seq ?_
  refine Cj.cond rfl (fun hc6 => ?_) (fun hc6 => ?_)
  ·
    have hc6p := of_decide_eq_true hc6
    have hlt : k < T.length := by have := of_decide_eq_true hc6; omega
    obtain ⟨t, hget⟩ : ∃ t, T[k]? = some t := ⟨_, List.getElem?_eq_getElem hlt⟩
    have hdr : T.drop k = t :: T.drop (k + 1) := by
      obtain ⟨h1, h3⟩ := List.getElem?_eq_some_iff.1 hget
      rw [← h3]; exact List.drop_eq_getElem_cons h1
    have htx := Cq.tl_get hget
    have hxl := Cq.xof_len t
    have hyl := Cq.yof_len large t
    refine Cj.skip ?_
    refine Ej.seq ?_
    refine Cj.seq ?_
    refine Cj.block ?_
    refine Cj.seq ?_
    refine Cj.region ?_
    refine J.y (yl_move rfl rfl) rfl rfl rfl ?_
    refine J.y (yl_move rfl rfl) rfl rfl rfl ?_
    refine J.y (yl_indexAddr (off' := k * 3) rfl rfl rfl Tryz.underlying47 Tryz.sizeOf50 (by omega) (by omega) (by simp)) rfl rfl rfl ?_
    refine J.y (yl_fieldAddr rfl rfl Tryz.underlying50 rfl Tryz.sizeOf9 rfl) rfl rfl rfl ?_
    refine J.y (yl_load rfl rfl Tryz.isAgg9 (Blk.imm hbt) (by simpa [Cq.tokC] using tok_cell hdr 1 (by omega))) rfl rfl rfl ?_
    refine J.y (yl_assign rfl rfl) rfl rfl rfl ?_
    refine J.nil ?_
    refine Ej.seq ?_
    refine Cj.seq ?_
    refine Cj.region ?_
    refine J.y (yl_move rfl rfl) rfl rfl rfl ?_
    refine J.y (yl_assign rfl rfl) rfl rfl rfl ?_
    refine J.nil ?_
    refine Ej.seq ?_
    refine Cj.seq ?_
    refine Cj.seq ?_
    refine Cj.region ?_
    refine J.y (yl_move rfl rfl) rfl rfl rfl ?_
    refine J.y (yl_move rfl rfl) rfl rfl rfl ?_
    refine J.y (yl_indexAddr (off' := k * 3) rfl rfl rfl Tryz.underlying47 Tryz.sizeOf50 (by omega) (by omega) (by simp)) rfl rfl rfl ?_
    refine J.y (yl_fieldAddr rfl rfl Tryz.underlying50 rfl Tryz.sizeOf3 rfl) rfl rfl rfl ?_
    refine J.y (yl_load rfl rfl Tryz.isAgg3 (Blk.imm hbt) (by simpa [Cq.tokC] using tok_cell hdr 0 (by omega))) rfl rfl rfl ?_
    refine J.y (yl_eql rfl rfl rfl) rfl rfl rfl ?_
    refine J.nil ?_
    refine Ej.seq ?_
    refine Cj.cond rfl (fun hc7 => ?_) (fun hc7 => ?_)
    ·
      have hc7p := eq_of_beq hc7
      have hk4 : t.kind = 4 := by have := eq_of_beq hc7; omega
      refine Cj.region ?_
      refine J.y (yl_assign rfl rfl) rfl rfl rfl ?_
      refine J.y (yl_assign rfl rfl) rfl rfl rfl ?_
      refine J.nil ?_
      refine Ej.seq ?_
      refine Cj.seq ?_
      refine Cj.seq ?_
      refine Cj.region ?_
      refine J.y (yl_move rfl rfl) rfl rfl rfl ?_
      refine J.y (yl_move rfl rfl) rfl rfl rfl ?_
      refine J.y (yl_indexAddr (off' := k * 3) rfl rfl rfl Tryz.underlying47 Tryz.sizeOf50 (by omega) (by omega) (by simp)) rfl rfl rfl ?_
      refine J.y (yl_fieldAddr rfl rfl Tryz.underlying50 rfl Tryz.sizeOf3 rfl) rfl rfl rfl ?_
      refine J.y (yl_load rfl rfl Tryz.isAgg3 (Blk.imm hbt) (by simpa [Cq.tokC] using tok_cell hdr 0 (by omega))) rfl rfl rfl ?_
      refine J.y (yl_eql rfl rfl rfl) rfl rfl rfl ?_
      refine J.nil ?_
      refine Ej.seq ?_
      refine Cj.cond rfl (fun hc8 => ?_) (fun hc8 => ?_)
      ·
        have hc8p := eq_of_beq hc8
        have hk2 : t.kind = 2 := by have := eq_of_beq hc8; omega
        have hqf : Cq.form (termQ [97, 110, 121] [61] t.text) = true := by rw [Cq.form_term rfl]; simp [termQ, Cq.Qs.len]; decide
        have hqd : Cq.depth (termQ [97, 110, 121] [61] t.text) = 0 := Cq.depth_term rfl
        have hqr : Cq.right (termQ [97, 110, 121] [61] t.text) = true := by unfold Cq.right; rw [hqf, hqd]; rfl
        have hqw : Cq.write (termQ [97, 110, 121] [61] t.text) = [97, 110, 121, 32, 61, 32] ++ Cq.text t.text := by rw [Cq.write_term rfl]; simp [termQ]
        have hqp : Cq.print (termQ [97, 110, 121] [61] t.text) = [97, 110, 121, 32, 61, 32] ++ Cq.text t.text := by unfold Cq.print; rw [if_pos hqr, hqw]
        have htt : (Cq.text t.text).length ≤ 2 * t.text.length + 2 := by have := (Cq.escape_len t.text).2; simp only [Cq.text, List.length_append, List.length_cons, List.length_nil]; omega
        have hqwl := congrArg List.length hqw
        simp only [List.length_append, List.length_cons, List.length_nil] at hqwl
        omega
      ·
        have hc8p := ne_of_beq_false hc8
        have hk2 : t.kind ≠ 2 := by have h := hc8; simp at h; omega
        refine Cj.skip ?_
        refine Ej.seq ?_
        refine Cj.seq ?_
        refine Cj.seq ?_
        refine Cj.region ?_
        refine J.y (yl_move rfl rfl) rfl rfl rfl ?_
        refine J.y (yl_move rfl rfl) rfl rfl rfl ?_
        refine J.y (yl_indexAddr (off' := k * 3) rfl rfl rfl Tryz.underlying47 Tryz.sizeOf50 (by omega) (by omega) (by simp)) rfl rfl rfl ?_
        refine J.y (yl_fieldAddr rfl rfl Tryz.underlying50 rfl Tryz.sizeOf3 rfl) rfl rfl rfl ?_
        refine J.y (yl_load rfl rfl Tryz.isAgg3 (Blk.imm hbt) (by simpa [Cq.tokC] using tok_cell hdr 0 (by omega))) rfl rfl rfl ?_
        refine J.y (yl_eql rfl rfl rfl) rfl rfl rfl ?_
        refine J.y (yl_move rfl rfl) rfl rfl rfl ?_
        refine J.split 65 rfl (fun hg9 => ?_) (fun hg9 => ?_)
        ·
          have hk3 : t.kind = 3 := by have := eq_of_beq hg9; omega
          omega
        ·
          have hk3 : t.kind ≠ 3 := by have h := hg9; simp at h; omega
          refine J.skip 6 65 66 true _ rfl rfl rfl hg9 rfl rfl ?_
          refine J.y (yl_pick0 rfl rfl hg9 rfl) rfl rfl rfl ?_
          refine J.y (yl_move rfl rfl) rfl rfl rfl ?_
          refine J.skip 9 68 69 true _ rfl rfl rfl rfl rfl rfl ?_
          refine J.skip 9 68 70 true _ rfl rfl rfl rfl rfl rfl ?_
          refine J.skip 9 68 71 true _ rfl rfl rfl rfl rfl rfl ?_
          refine J.y (yl_pick0 rfl rfl rfl rfl) rfl rfl rfl ?_
          refine J.y (yl_move rfl rfl) rfl rfl rfl ?_
          refine J.skip 14 73 74 true _ rfl rfl rfl rfl rfl rfl ?_
          refine J.skip 14 73 75 true _ rfl rfl rfl rfl rfl rfl ?_
          refine J.skip 14 73 76 true _ rfl rfl rfl rfl rfl rfl ?_
          refine J.y (yl_pick0 rfl rfl rfl rfl) rfl rfl rfl ?_
          refine J.nil ?_
          refine Ej.seq ?_
          refine Cj.cond rfl (fun hc10 => Bool.noConfusion (Eq.trans (Eq.symm rfl) hc10)) (fun hc10 => ?_)
          refine Cj.skip ?_
          refine Ej.seq ?_
          refine Cj.seq ?_
          have hxo : Cq.xof t = [62] := by simp [Cq.xof, hk4]
          have hbig : Cq.big large t = false := Cq.big_not (by omega)
          have hyo : Cq.yof large t = [62] := by rw [← hxo]; simp [Cq.yof, hbig]
          refine Cj.eqv 14 rfl (show _ = str (Cq.xof t) from (congrArg str hxo).symm) ?_
          refine Cj.eqv 15 rfl (show _ = str (Cq.yof large t) from (congrArg str hyo).symm) ?_
          refine Cj.region ?_
          refine J.y (yl_move rfl rfl) rfl rfl rfl ?_
          refine J.y (yl_move rfl rfl) rfl rfl rfl ?_
          refine J.y (yl_lenStr rfl rfl Tryz.underlying9) rfl rfl rfl ?_
          refine J.op rfl (op_buildSlice rfl rfl rfl Tryz.underlying22 Tryz.sizeOf3 Tryz.zeroValue3 rfl rfl rfl rfl (LCat.one rfl LCat.none) ?_)
          intro b11 hb11
          refine J.swapG ?_
          refine J.op rfl (op_append (by' := 7) (_ :: gH _ _ _) rfl rfl rfl rfl rfl Tryz.underlying22 (.inr ⟨_, Tryz.underlying22⟩) (by kernel_rfl) Tryz.sizeOf3 Tryz.zeroValue3 rfl hg1 rfl (Src.slice (Blk.at 0 rfl) rfl rfl rfl) (by omega) ?_)
          intro g12 hg12
          refine J.y (yl_assign rfl rfl) rfl rfl rfl ?_
          refine J.nil ?_
          refine Ej.seq ?_
          refine Cj.seq ?_
          refine Cj.keep (Keeps.d Keeps.r) ?_
          refine Cj.region ?_
          refine J.y (yl_move rfl rfl) rfl rfl rfl ?_
          refine J.y (yl_move rfl rfl) rfl rfl rfl ?_
          refine J.y (yl_cat rfl rfl rfl (by first | omega | (simp only [List.length_append]; omega) | (simp; omega))) rfl rfl rfl ?_
          refine J.y (yl_cat rfl rfl rfl (by first | omega | (simp only [List.length_append]; omega) | (simp; omega))) rfl rfl rfl ?_
          refine J.eqv 114 rfl (show _ = str (Cq.sx (T.take (k + 1))) from (by rw [Cq.sx_next hget])) ?_
          refine J.y (yl_assign rfl rfl) rfl rfl rfl ?_
          refine J.nil ?_
          refine Ej.seq ?_
          refine Cj.seq ?_
          refine Cj.region ?_
          refine J.y (yl_assign rfl rfl) rfl rfl rfl ?_
          refine J.nil ?_
          refine Ej.seq ?_
          refine Cj.seq ?_
          refine Cj.seq ?_
          refine Cj.region ?_
          refine J.y (yl_move rfl rfl) rfl rfl rfl ?_
          refine J.y (yl_lenSlice rfl rfl Tryz.underlying46) rfl rfl rfl ?_
          refine J.y (yl_gtr rfl rfl rfl) rfl rfl rfl ?_
          refine J.nil ?_
          refine Ej.seq ?_
          refine Cj.cond rfl (fun hc13 => ?_) (fun hc13 => ?_)
          ·
            have hc13p := of_decide_eq_true hc13
            have hlb : lb ≠ [] := by intro h; have := of_decide_eq_true hc13; rw [h] at this; simp at this
            have hlp := List.length_pos_iff.2 hlb
            have hml : k % lb.length < lb.length := Nat.mod_lt _ hlp
            obtain ⟨x, hgx⟩ : ∃ x, lb[k % lb.length]? = some x := ⟨_, List.getElem?_eq_getElem hml⟩
            obtain ⟨bl, off, cs', TT, fr0, hp0, hbl, hcell⟩ := hmem hlb
            subst hp0
            have hx4 : x.toNat % 4 < 4 := Nat.mod_lt _ (by decide)
            have hgo : Cq.gapOf lb k = Cq.gaps4.getD (x.toNat % 4) [] := by unfold Cq.gapOf; rw [if_neg hlb, show lb.getD (k % lb.length) 0 = x by rw [List.getD, hgx]; rfl]
            refine Cj.region ?_
            refine J.op rfl (op_buildSlice rfl rfl rfl Tryz.underlying44 Tryz.sizeOf9 Tryz.zeroValue9 rfl rfl rfl rfl (LCat.one rfl (LCat.one rfl (LCat.one rfl (LCat.one rfl LCat.none)))) ?_)
            intro b14 hb14
            refine J.y (yl_move rfl rfl) rfl rfl rfl ?_
            refine J.y (yl_move rfl rfl) rfl rfl rfl ?_
            refine J.y (yl_move rfl rfl) rfl rfl rfl ?_
            refine J.y (yl_lenSlice rfl rfl Tryz.underlying46) rfl rfl rfl ?_
            refine J.y (yl_rem rfl rfl rfl (by omega)) rfl rfl rfl ?_
            refine J.eqv 123 rfl (show _ = i64 ((k % lb.length : Nat) : Int) from (congrArg (Value.int .i64) (Int.ofNat_tmod k lb.length).symm)) ?_
            refine J.y (yl_indexAddr (off' := (off + k % lb.length)) rfl rfl rfl Tryz.underlying46 Tryz.sizeOf5 (by omega) (by omega) (by simp; omega)) rfl rfl rfl ?_
            refine J.y (yl_load rfl rfl Tryz.isAgg5 (Blk.imm hbl) (hcell _ x hgx)) rfl rfl rfl ?_
            refine J.y (yl_rem rfl rfl rfl (by omega)) rfl rfl rfl ?_
            refine J.eqv 126 rfl (show _ = .int .u8 ((x.toNat % 4 : Nat) : Int) from (congrArg (Value.int .u8) (Int.ofNat_tmod x.toNat 4).symm)) ?_
            refine J.y (yl_indexAddr (off' := (x.toNat % 4)) rfl rfl rfl Tryz.underlying44 Tryz.sizeOf9 (by omega) (by omega) (by simp; omega)) rfl rfl rfl ?_
            refine J.y (yl_load rfl rfl Tryz.isAgg9 (Blk.at 0 rfl) (idx_at (l := Cq.gaps4) hx4)) rfl rfl rfl ?_
            refine J.eqv 128 rfl (show _ = str (Cq.gapOf lb k) from (by rw [hgo])) ?_
            refine J.y (yl_assign rfl rfl) rfl rfl rfl ?_
            refine J.nil ?_
            refine Ej.seq ?_
            refine Cj.seq ?_
            refine Cj.keep (Keeps.d Keeps.r) ?_
            refine Cj.region ?_
            refine J.y (yl_move rfl rfl) rfl rfl rfl ?_
            refine J.y (yl_move rfl rfl) rfl rfl rfl ?_
            refine J.y (yl_cat rfl rfl rfl (by first | omega | (simp only [List.length_append]; omega) | (simp; omega))) rfl rfl rfl ?_
            refine J.y (yl_assign rfl rfl) rfl rfl rfl ?_
            refine J.nil ?_
            refine Ej.seq ?_
            refine Cj.seq ?_
            refine Cj.region ?_
            refine J.y (yl_move rfl rfl) rfl rfl rfl ?_
            refine J.y (yl_move rfl rfl) rfl rfl rfl ?_
            refine J.y (yl_lenStr rfl rfl Tryz.underlying9) rfl rfl rfl ?_
            refine J.op rfl (op_buildSlice rfl rfl rfl Tryz.underlying22 Tryz.sizeOf3 Tryz.zeroValue3 rfl rfl rfl rfl (LCat.one rfl LCat.none) ?_)
            intro b15 hb15
            refine J.swapG ?_
            refine J.op rfl (op_append (by' := 7) (_ :: gH _ _ _) rfl rfl rfl rfl rfl Tryz.underlying22 (.inr ⟨_, Tryz.underlying22⟩) (by kernel_rfl) Tryz.sizeOf3 Tryz.zeroValue3 rfl hg2 rfl (Src.slice (Blk.at 0 rfl) rfl rfl rfl) (by omega) ?_)
            intro g16 hg16
            refine J.y (yl_assign rfl rfl) rfl rfl rfl ?_
            refine J.nil ?_
            refine Ej.seq ?_
            refine Cj.region ?_
            refine J.y (yl_move rfl rfl) rfl rfl rfl ?_
            refine J.y (yl_move rfl rfl) rfl rfl rfl ?_
            refine J.y (yl_cat rfl rfl rfl (by first | omega | (simp only [List.length_append]; omega) | (simp; omega))) rfl rfl rfl ?_
            refine J.eqv 139 rfl (show _ = str (Cq.ux (Cq.gapOf lb) large (T.take (k + 1)) 0) from (by rw [Cq.ux_next hget])) ?_
            refine J.y (yl_assign rfl rfl) rfl rfl rfl ?_
            refine J.nil ?_
            refine Ej.blkNormal ?_
            refine Ej.seq ?_
            refine Cj.keep (Keeps.d Keeps.r) ?_
            refine Cj.region ?_
            refine J.y (yl_move rfl rfl) rfl rfl rfl ?_
            refine J.y (yl_add rfl rfl rfl (w64 (by omega))) rfl rfl rfl ?_
            refine J.y (yl_assign rfl rfl) rfl rfl rfl ?_
            refine J.nil ?_
            refine Ej.round ⟨k + 1, g12, g16⟩ ⟨by dsimp only; omega, hg12, hg16⟩ (by dsimp only; omega) ⟨rfl, rfl, rfl, rfl, rfl, rfl, rfl, rfl, rfl, trivial⟩ rfl rfl
          ·
            have hc13p := of_decide_eq_false hc13
            have hlb : lb = [] := List.length_eq_zero_iff.1 (by have := of_decide_eq_false hc13; omega)
            have hgo : Cq.gapOf lb k = [32] := by simp [Cq.gapOf, hlb]
            refine Cj.eqv 18 rfl (show _ = str (Cq.gapOf lb k) from (congrArg str hgo).symm) ?_
            refine Cj.skip ?_
            refine Ej.seq ?_
            refine Cj.seq ?_
            refine Cj.region ?_
            refine J.y (yl_move rfl rfl) rfl rfl rfl ?_
            refine J.y (yl_move rfl rfl) rfl rfl rfl ?_
            refine J.y (yl_cat rfl rfl rfl (by first | omega | (simp only [List.length_append]; omega) | (simp; omega))) rfl rfl rfl ?_
            refine J.y (yl_assign rfl rfl) rfl rfl rfl ?_
            refine J.nil ?_
            refine Ej.seq ?_
            refine Cj.seq ?_
            refine Cj.region ?_
            refine J.y (yl_move rfl rfl) rfl rfl rfl ?_
            refine J.y (yl_move rfl rfl) rfl rfl rfl ?_
            refine J.y (yl_lenStr rfl rfl Tryz.underlying9) rfl rfl rfl ?_
            refine J.op rfl (op_buildSlice rfl rfl rfl Tryz.underlying22 Tryz.sizeOf3 Tryz.zeroValue3 rfl rfl rfl rfl (LCat.one rfl LCat.none) ?_)
            intro b17 hb17
            refine J.swapG ?_
            refine J.op rfl (op_append (by' := 7) (_ :: gH _ _ _) rfl rfl rfl rfl rfl Tryz.underlying22 (.inr ⟨_, Tryz.underlying22⟩) (by kernel_rfl) Tryz.sizeOf3 Tryz.zeroValue3 rfl hg2 rfl (Src.slice (Blk.at 0 rfl) rfl rfl rfl) (by omega) ?_)
            intro g18 hg18
            refine J.y (yl_assign rfl rfl) rfl rfl rfl ?_
            refine J.nil ?_
            refine Ej.seq ?_
            refine Cj.region ?_
            refine J.y (yl_move rfl rfl) rfl rfl rfl ?_
            refine J.y (yl_move rfl rfl) rfl rfl rfl ?_
            refine J.y (yl_cat rfl rfl rfl (by first | omega | (simp only [List.length_append]; omega) | (simp; omega))) rfl rfl rfl ?_
            refine J.eqv 139 rfl (show _ = str (Cq.ux (Cq.gapOf lb) large (T.take (k + 1)) 0) from (by rw [Cq.ux_next hget])) ?_
            refine J.y (yl_assign rfl rfl) rfl rfl rfl ?_
            refine J.nil ?_
            refine Ej.blkNormal ?_
            refine Ej.seq ?_
            refine Cj.keep (Keeps.d Keeps.r) ?_
            refine Cj.region ?_
            refine J.y (yl_move rfl rfl) rfl rfl rfl ?_
            refine J.y (yl_add rfl rfl rfl (w64 (by omega))) rfl rfl rfl ?_
            refine J.y (yl_assign rfl rfl) rfl rfl rfl ?_
            refine J.nil ?_
            refine Ej.round ⟨k + 1, g12, g18⟩ ⟨by dsimp only; omega, hg12, hg18⟩ (by dsimp only; omega) ⟨rfl, rfl, rfl, rfl, rfl, rfl, rfl, rfl, rfl, trivial⟩ rfl rfl
    ·
      have hc7p := ne_of_beq_false hc7
      have hk4 : t.kind ≠ 4 := by have h := hc7; simp at h; omega
      refine Cj.skip ?_
      refine Ej.seq ?_
      refine Cj.seq ?_
      refine Cj.seq ?_
      refine Cj.region ?_
      refine J.y (yl_move rfl rfl) rfl rfl rfl ?_
      refine J.y (yl_move rfl rfl) rfl rfl rfl ?_
      refine J.y (yl_indexAddr (off' := k * 3) rfl rfl rfl Tryz.underlying47 Tryz.sizeOf50 (by omega) (by omega) (by simp)) rfl rfl rfl ?_
      refine J.y (yl_fieldAddr rfl rfl Tryz.underlying50 rfl Tryz.sizeOf3 rfl) rfl rfl rfl ?_
      refine J.y (yl_load rfl rfl Tryz.isAgg3 (Blk.imm hbt) (by simpa [Cq.tokC] using tok_cell hdr 0 (by omega))) rfl rfl rfl ?_
      refine J.y (yl_eql rfl rfl rfl) rfl rfl rfl ?_
      refine J.nil ?_
      refine Ej.seq ?_
      refine Cj.cond rfl (fun hc19 => ?_) (fun hc19 => ?_)
      ·
        have hc19p := eq_of_beq hc19
        have hk2 : t.kind = 2 := by have := eq_of_beq hc19; omega
        have hqf : Cq.form (termQ [97, 110, 121] [61] t.text) = true := by rw [Cq.form_term rfl]; simp [termQ, Cq.Qs.len]; decide
        have hqd : Cq.depth (termQ [97, 110, 121] [61] t.text) = 0 := Cq.depth_term rfl
        have hqr : Cq.right (termQ [97, 110, 121] [61] t.text) = true := by unfold Cq.right; rw [hqf, hqd]; rfl
        have hqw : Cq.write (termQ [97, 110, 121] [61] t.text) = [97, 110, 121, 32, 61, 32] ++ Cq.text t.text := by rw [Cq.write_term rfl]; simp [termQ]
        have hqp : Cq.print (termQ [97, 110, 121] [61] t.text) = [97, 110, 121, 32, 61, 32] ++ Cq.text t.text := by unfold Cq.print; rw [if_pos hqr, hqw]
        have htt : (Cq.text t.text).length ≤ 2 * t.text.length + 2 := by have := (Cq.escape_len t.text).2; simp only [Cq.text, List.length_append, List.length_cons, List.length_nil]; omega
        have hqwl := congrArg List.length hqw
        simp only [List.length_append, List.length_cons, List.length_nil] at hqwl
        refine Cj.seq ?_
        refine Cj.region ?_
        refine J.y (yl_move rfl rfl) rfl rfl rfl ?_
        refine J.y (yl_buildS (pl := #[(0, 1), (1, 1), (2, 1), (3, 1), (4, 1)]) rfl rfl Tryz.zeroValue28 rfl Tryz.underlying28 (fun w => by simp [Tryz.sizeOf26, Tryz.sizeOf3, Tryz.sizeOf9]) (LBld.part rfl rfl rfl (LSpl.c LSpl.z) (LBld.part rfl rfl rfl (LSpl.s (LSpl.c LSpl.z)) (LBld.part rfl rfl rfl (LSpl.s (LSpl.s (LSpl.c LSpl.z))) (LBld.part rfl rfl rfl (LSpl.s (LSpl.s (LSpl.s (LSpl.c LSpl.z)))) LBld.none))))) rfl rfl rfl ?_
        refine J.op rfl (op_pure rfl rfl rfl rfl rfl (Print_ok (termQ [97, 110, 121] [61] t.text) none 0 (by rw [hqd]; omega) (fun _ => by omega) _ (.inl rfl)) ?_)
        refine J.eqv 56 rfl (show _ = str ([97, 110, 121, 32, 61, 32] ++ Cq.text t.text) from (by rw [hqp])) ?_
        refine J.y (yl_sliceStr (p := 6) (q := ([97, 110, 121, 32, 61, 32] ++ Cq.text t.text).length) rfl rfl Tryz.underlying9 ⟨_, rfl⟩ rfl (by simp) (by simp)) rfl rfl rfl ?_
        refine J.eqv 57 rfl (show _ = str (Cq.text t.text) from (by simp)) ?_
        refine J.y (yl_assign rfl rfl) rfl rfl rfl ?_
        refine J.nil ?_
        refine Ej.seq ?_
        refine Cj.region ?_
        refine J.y (yl_move rfl rfl) rfl rfl rfl ?_
        refine J.y (yl_assign rfl rfl) rfl rfl rfl ?_
        refine J.nil ?_
        refine Ej.seq ?_
        refine Cj.seq ?_
        refine Cj.seq ?_
        refine Cj.region ?_
        refine J.y (yl_move rfl rfl) rfl rfl rfl ?_
        refine J.y (yl_move rfl rfl) rfl rfl rfl ?_
        refine J.y (yl_indexAddr (off' := k * 3) rfl rfl rfl Tryz.underlying47 Tryz.sizeOf50 (by omega) (by omega) (by simp)) rfl rfl rfl ?_
        refine J.y (yl_fieldAddr rfl rfl Tryz.underlying50 rfl Tryz.sizeOf3 rfl) rfl rfl rfl ?_
        refine J.y (yl_load rfl rfl Tryz.isAgg3 (Blk.imm hbt) (by simpa [Cq.tokC] using tok_cell hdr 0 (by omega))) rfl rfl rfl ?_
        refine J.y (yl_eql rfl rfl rfl) rfl rfl rfl ?_
        refine J.y (yl_move rfl rfl) rfl rfl rfl ?_
        refine J.split 65 rfl (fun hg20 => ?_) (fun hg20 => ?_)
        ·
          have hk3 : t.kind = 3 := by have := eq_of_beq hg20; omega
          omega
        ·
          have hk3 : t.kind ≠ 3 := by have h := hg20; simp at h; omega
          refine J.skip 6 65 66 true _ rfl rfl rfl hg20 rfl rfl ?_
          refine J.y (yl_pick0 rfl rfl hg20 rfl) rfl rfl rfl ?_
          refine J.y (yl_move rfl rfl) rfl rfl rfl ?_
          refine J.skip 9 68 69 true _ rfl rfl rfl rfl rfl rfl ?_
          refine J.skip 9 68 70 true _ rfl rfl rfl rfl rfl rfl ?_
          refine J.skip 9 68 71 true _ rfl rfl rfl rfl rfl rfl ?_
          refine J.y (yl_pick0 rfl rfl rfl rfl) rfl rfl rfl ?_
          refine J.y (yl_move rfl rfl) rfl rfl rfl ?_
          refine J.skip 14 73 74 true _ rfl rfl rfl rfl rfl rfl ?_
          refine J.skip 14 73 75 true _ rfl rfl rfl rfl rfl rfl ?_
          refine J.skip 14 73 76 true _ rfl rfl rfl rfl rfl rfl ?_
          refine J.y (yl_pick0 rfl rfl rfl rfl) rfl rfl rfl ?_
          refine J.nil ?_
          refine Ej.seq ?_
          refine Cj.cond rfl (fun hc21 => Bool.noConfusion (Eq.trans (Eq.symm rfl) hc21)) (fun hc21 => ?_)
          refine Cj.skip ?_
          refine Ej.seq ?_
          refine Cj.seq ?_
          have hxo : Cq.xof t = Cq.text t.text := by simp [Cq.xof, hk2]
          have hbig : Cq.big large t = false := Cq.big_not (by omega)
          have hyo : Cq.yof large t = Cq.text t.text := by rw [← hxo]; simp [Cq.yof, hbig]
          refine Cj.eqv 14 rfl (show _ = str (Cq.xof t) from (congrArg str hxo).symm) ?_
          refine Cj.eqv 15 rfl (show _ = str (Cq.yof large t) from (congrArg str hyo).symm) ?_
          refine Cj.region ?_
          refine J.y (yl_move rfl rfl) rfl rfl rfl ?_
          refine J.y (yl_move rfl rfl) rfl rfl rfl ?_
          refine J.y (yl_lenStr rfl rfl Tryz.underlying9) rfl rfl rfl ?_
          refine J.op rfl (op_buildSlice rfl rfl rfl Tryz.underlying22 Tryz.sizeOf3 Tryz.zeroValue3 rfl rfl rfl rfl (LCat.one rfl LCat.none) ?_)
          intro b22 hb22
          refine J.swapG ?_
          refine J.op rfl (op_append (by' := 7) (_ :: gH _ _ _) rfl rfl rfl rfl rfl Tryz.underlying22 (.inr ⟨_, Tryz.underlying22⟩) (by kernel_rfl) Tryz.sizeOf3 Tryz.zeroValue3 rfl hg1 rfl (Src.slice (Blk.at 0 rfl) rfl rfl rfl) (by omega) ?_)
          intro g23 hg23
          refine J.y (yl_assign rfl rfl) rfl rfl rfl ?_
          refine J.nil ?_
          refine Ej.seq ?_
          refine Cj.seq ?_
          refine Cj.keep (Keeps.d Keeps.r) ?_
          refine Cj.region ?_
          refine J.y (yl_move rfl rfl) rfl rfl rfl ?_
          refine J.y (yl_move rfl rfl) rfl rfl rfl ?_
          refine J.y (yl_cat rfl rfl rfl (by first | omega | (simp only [List.length_append]; omega) | (simp; omega))) rfl rfl rfl ?_
          refine J.y (yl_cat rfl rfl rfl (by first | omega | (simp only [List.length_append]; omega) | (simp; omega))) rfl rfl rfl ?_
          refine J.eqv 114 rfl (show _ = str (Cq.sx (T.take (k + 1))) from (by rw [Cq.sx_next hget])) ?_
          refine J.y (yl_assign rfl rfl) rfl rfl rfl ?_
          refine J.nil ?_
          refine Ej.seq ?_
          refine Cj.seq ?_
          refine Cj.region ?_
          refine J.y (yl_assign rfl rfl) rfl rfl rfl ?_
          refine J.nil ?_
          refine Ej.seq ?_
          refine Cj.seq ?_
          refine Cj.seq ?_
          refine Cj.region ?_
          refine J.y (yl_move rfl rfl) rfl rfl rfl ?_
          refine J.y (yl_lenSlice rfl rfl Tryz.underlying46) rfl rfl rfl ?_
          refine J.y (yl_gtr rfl rfl rfl) rfl rfl rfl ?_
          refine J.nil ?_
          refine Ej.seq ?_
          refine Cj.cond rfl (fun hc24 => ?_) (fun hc24 => ?_)
          ·
            have hc24p := of_decide_eq_true hc24
            have hlb : lb ≠ [] := by intro h; have := of_decide_eq_true hc24; rw [h] at this; simp at this
            have hlp := List.length_pos_iff.2 hlb
            have hml : k % lb.length < lb.length := Nat.mod_lt _ hlp
            obtain ⟨x, hgx⟩ : ∃ x, lb[k % lb.length]? = some x := ⟨_, List.getElem?_eq_getElem hml⟩
            obtain ⟨bl, off, cs', TT, fr0, hp0, hbl, hcell⟩ := hmem hlb
            subst hp0
            have hx4 : x.toNat % 4 < 4 := Nat.mod_lt _ (by decide)
            have hgo : Cq.gapOf lb k = Cq.gaps4.getD (x.toNat % 4) [] := by unfold Cq.gapOf; rw [if_neg hlb, show lb.getD (k % lb.length) 0 = x by rw [List.getD, hgx]; rfl]
            refine Cj.region ?_
            refine J.op rfl (op_buildSlice rfl rfl rfl Tryz.underlying44 Tryz.sizeOf9 Tryz.zeroValue9 rfl rfl rfl rfl (LCat.one rfl (LCat.one rfl (LCat.one rfl (LCat.one rfl LCat.none)))) ?_)
            intro b25 hb25
            refine J.y (yl_move rfl rfl) rfl rfl rfl ?_
            refine J.y (yl_move rfl rfl) rfl rfl rfl ?_
            refine J.y (yl_move rfl rfl) rfl rfl rfl ?_
            refine J.y (yl_lenSlice rfl rfl Tryz.underlying46) rfl rfl rfl ?_
            refine J.y (yl_rem rfl rfl rfl (by omega)) rfl rfl rfl ?_
            refine J.eqv 123 rfl (show _ = i64 ((k % lb.length : Nat) : Int) from (congrArg (Value.int .i64) (Int.ofNat_tmod k lb.length).symm)) ?_
            refine J.y (yl_indexAddr (off' := (off + k % lb.length)) rfl rfl rfl Tryz.underlying46 Tryz.sizeOf5 (by omega) (by omega) (by simp; omega)) rfl rfl rfl ?_
            refine J.y (yl_load rfl rfl Tryz.isAgg5 (Blk.imm hbl) (hcell _ x hgx)) rfl rfl rfl ?_
            refine J.y (yl_rem rfl rfl rfl (by omega)) rfl rfl rfl ?_
            refine J.eqv 126 rfl (show _ = .int .u8 ((x.toNat % 4 : Nat) : Int) from (congrArg (Value.int .u8) (Int.ofNat_tmod x.toNat 4).symm)) ?_
            refine J.y (yl_indexAddr (off' := (x.toNat % 4)) rfl rfl rfl Tryz.underlying44 Tryz.sizeOf9 (by omega) (by omega) (by simp; omega)) rfl rfl rfl ?_
            refine J.y (yl_load rfl rfl Tryz.isAgg9 (Blk.at 0 rfl) (idx_at (l := Cq.gaps4) hx4)) rfl rfl rfl ?_
            refine J.eqv 128 rfl (show _ = str (Cq.gapOf lb k) from (by rw [hgo])) ?_
            refine J.y (yl_assign rfl rfl) rfl rfl rfl ?_
            refine J.nil ?_
            refine Ej.seq ?_
            refine Cj.seq ?_
            refine Cj.keep (Keeps.d Keeps.r) ?_
            refine Cj.region ?_
            refine J.y (yl_move rfl rfl) rfl rfl rfl ?_
            refine J.y (yl_move rfl rfl) rfl rfl rfl ?_
            refine J.y (yl_cat rfl rfl rfl (by first | omega | (simp only [List.length_append]; omega) | (simp; omega))) rfl rfl rfl ?_
            refine J.y (yl_assign rfl rfl) rfl rfl rfl ?_
            refine J.nil ?_
            refine Ej.seq ?_
            refine Cj.seq ?_
            refine Cj.region ?_
            refine J.y (yl_move rfl rfl) rfl rfl rfl ?_
            refine J.y (yl_move rfl rfl) rfl rfl rfl ?_
            refine J.y (yl_lenStr rfl rfl Tryz.underlying9) rfl rfl rfl ?_
            refine J.op rfl (op_buildSlice rfl rfl rfl Tryz.underlying22 Tryz.sizeOf3 Tryz.zeroValue3 rfl rfl rfl rfl (LCat.one rfl LCat.none) ?_)
            intro b26 hb26
            refine J.swapG ?_
            refine J.op rfl (op_append (by' := 7) (_ :: gH _ _ _) rfl rfl rfl rfl rfl Tryz.underlying22 (.inr ⟨_, Tryz.underlying22⟩) (by kernel_rfl) Tryz.sizeOf3 Tryz.zeroValue3 rfl hg2 rfl (Src.slice (Blk.at 0 rfl) rfl rfl rfl) (by omega) ?_)
            intro g27 hg27
            refine J.y (yl_assign rfl rfl) rfl rfl rfl ?_
            refine J.nil ?_
            refine Ej.seq ?_
            refine Cj.region ?_
            refine J.y (yl_move rfl rfl) rfl rfl rfl ?_
            refine J.y (yl_move rfl rfl) rfl rfl rfl ?_
            refine J.y (yl_cat rfl rfl rfl (by first | omega | (simp only [List.length_append]; omega) | (simp; omega))) rfl rfl rfl ?_
            refine J.eqv 139 rfl (show _ = str (Cq.ux (Cq.gapOf lb) large (T.take (k + 1)) 0) from (by rw [Cq.ux_next hget])) ?_
            refine J.y (yl_assign rfl rfl) rfl rfl rfl ?_
            refine J.nil ?_
            refine Ej.blkNormal ?_
            refine Ej.seq ?_
            refine Cj.keep (Keeps.d Keeps.r) ?_
            refine Cj.region ?_
            refine J.y (yl_move rfl rfl) rfl rfl rfl ?_
            refine J.y (yl_add rfl rfl rfl (w64 (by omega))) rfl rfl rfl ?_
            refine J.y (yl_assign rfl rfl) rfl rfl rfl ?_
            refine J.nil ?_
            refine Ej.round ⟨k + 1, g23, g27⟩ ⟨by dsimp only; omega, hg23, hg27⟩ (by dsimp only; omega) ⟨rfl, rfl, rfl, rfl, rfl, rfl, rfl, rfl, rfl, trivial⟩ rfl rfl
          ·
            have hc24p := of_decide_eq_false hc24
            have hlb : lb = [] := List.length_eq_zero_iff.1 (by have := of_decide_eq_false hc24; omega)
            have hgo : Cq.gapOf lb k = [32] := by simp [Cq.gapOf, hlb]
            refine Cj.eqv 18 rfl (show _ = str (Cq.gapOf lb k) from (congrArg str hgo).symm) ?_
            refine Cj.skip ?_
            refine Ej.seq ?_
            refine Cj.seq ?_
            refine Cj.region ?_
            refine J.y (yl_move rfl rfl) rfl rfl rfl ?_
            refine J.y (yl_move rfl rfl) rfl rfl rfl ?_
            refine J.y (yl_cat rfl rfl rfl (by first | omega | (simp only [List.length_append]; omega) | (simp; omega))) rfl rfl rfl ?_
            refine J.y (yl_assign rfl rfl) rfl rfl rfl ?_
            refine J.nil ?_
            refine Ej.seq ?_
            refine Cj.seq ?_
            refine Cj.region ?_
            refine J.y (yl_move rfl rfl) rfl rfl rfl ?_
            refine J.y (yl_move rfl rfl) rfl rfl rfl ?_
            refine J.y (yl_lenStr rfl rfl Tryz.underlying9) rfl rfl rfl ?_
            refine J.op rfl (op_buildSlice rfl rfl rfl Tryz.underlying22 Tryz.sizeOf3 Tryz.zeroValue3 rfl rfl rfl rfl (LCat.one rfl LCat.none) ?_)
            intro b28 hb28
            refine J.swapG ?_
            refine J.op rfl (op_append (by' := 7) (_ :: gH _ _ _) rfl rfl rfl rfl rfl Tryz.underlying22 (.inr ⟨_, Tryz.underlying22⟩) (by kernel_rfl) Tryz.sizeOf3 Tryz.zeroValue3 rfl hg2 rfl (Src.slice (Blk.at 0 rfl) rfl rfl rfl) (by omega) ?_)
            intro g29 hg29
            refine J.y (yl_assign rfl rfl) rfl rfl rfl ?_
            refine J.nil ?_
            refine Ej.seq ?_
            refine Cj.region ?_
            refine J.y (yl_move rfl rfl) rfl rfl rfl ?_
            refine J.y (yl_move rfl rfl) rfl rfl rfl ?_
            refine J.y (yl_cat rfl rfl rfl (by first | omega | (simp only [List.length_append]; omega) | (simp; omega))) rfl rfl rfl ?_
            refine J.eqv 139 rfl (show _ = str (Cq.ux (Cq.gapOf lb) large (T.take (k + 1)) 0) from (by rw [Cq.ux_next hget])) ?_
            refine J.y (yl_assign rfl rfl) rfl rfl rfl ?_
            refine J.nil ?_
            refine Ej.blkNormal ?_
            refine Ej.seq ?_
            refine Cj.keep (Keeps.d Keeps.r) ?_
            refine Cj.region ?_
            refine J.y (yl_move rfl rfl) rfl rfl rfl ?_
            refine J.y (yl_add rfl rfl rfl (w64 (by omega))) rfl rfl rfl ?_
            refine J.y (yl_assign rfl rfl) rfl rfl rfl ?_
            refine J.nil ?_
            refine Ej.round ⟨k + 1, g23, g29⟩ ⟨by dsimp only; omega, hg23, hg29⟩ (by dsimp only; omega) ⟨rfl, rfl, rfl, rfl, rfl, rfl, rfl, rfl, rfl, trivial⟩ rfl rfl
      ·
        have hc19p := ne_of_beq_false hc19
        have hk2 : t.kind ≠ 2 := by have h := hc19; simp at h; omega
        refine Cj.skip ?_
        refine Ej.seq ?_
        refine Cj.seq ?_
        refine Cj.seq ?_
        refine Cj.region ?_
        refine J.y (yl_move rfl rfl) rfl rfl rfl ?_
        refine J.y (yl_move rfl rfl) rfl rfl rfl ?_
        refine J.y (yl_indexAddr (off' := k * 3) rfl rfl rfl Tryz.underlying47 Tryz.sizeOf50 (by omega) (by omega) (by simp)) rfl rfl rfl ?_
        refine J.y (yl_fieldAddr rfl rfl Tryz.underlying50 rfl Tryz.sizeOf3 rfl) rfl rfl rfl ?_
        refine J.y (yl_load rfl rfl Tryz.isAgg3 (Blk.imm hbt) (by simpa [Cq.tokC] using tok_cell hdr 0 (by omega))) rfl rfl rfl ?_
        refine J.y (yl_eql rfl rfl rfl) rfl rfl rfl ?_
        refine J.y (yl_move rfl rfl) rfl rfl rfl ?_
        refine J.split 65 rfl (fun hg30 => ?_) (fun hg30 => ?_)
        ·
          have hk3 : t.kind = 3 := by have := eq_of_beq hg30; omega
          refine J.opG 6 65 true _ rfl rfl rfl hg30 (op_yld (yl_move rfl rfl) rfl rfl ?_)
          refine J.y (yl_pick1 rfl rfl hg30 rfl) rfl rfl rfl ?_
          refine J.y (yl_move rfl rfl) rfl rfl rfl ?_
          refine J.split 68 rfl (fun hg31 => ?_) (fun hg31 => ?_)
          ·
            have hlg : large = true := hg31
            refine J.opG 9 68 true _ rfl rfl rfl hg31 (op_yld (yl_move rfl rfl) rfl rfl ?_)
            refine J.opG 9 68 true _ rfl rfl rfl hg31 (op_pure rfl rfl rfl rfl rfl (Small_ok t.text (by omega) _) ?_)
            refine J.opG 9 68 true _ rfl rfl rfl hg31 (op_yld (yl_neqStr rfl rfl rfl) rfl rfl ?_)
            refine J.y (yl_pick1 rfl rfl hg31 rfl) rfl rfl rfl ?_
            refine J.y (yl_move rfl rfl) rfl rfl rfl ?_
            refine J.split 73 rfl (fun hg32 => ?_) (fun hg32 => ?_)
            ·
              have hct : Cq.small t.text ≠ [99, 97, 116] := bne_iff_ne.1 hg32
              refine J.opG 14 73 true _ rfl rfl rfl hg32 (op_yld (yl_move rfl rfl) rfl rfl ?_)
              refine J.opG 14 73 true _ rfl rfl rfl hg32 (op_pure rfl rfl rfl rfl rfl (Small_ok t.text (by omega) _) ?_)
              refine J.opG 14 73 true _ rfl rfl rfl hg32 (op_yld (yl_neqStr rfl rfl rfl) rfl rfl ?_)
              refine J.y (yl_pick1 rfl rfl hg32 rfl) rfl rfl rfl ?_
              refine J.nil ?_
              refine Ej.seq ?_
              refine Cj.cond rfl (fun hc33 => ?_) (fun hc33 => ?_)
              ·
                have hc33p := bne_iff_ne.1 hc33
                have hco : Cq.small t.text ≠ [99, 111, 108, 111, 114] := bne_iff_ne.1 hc33
                refine Cj.seq ?_
                refine Cj.region ?_
                refine J.y (yl_move rfl rfl) rfl rfl rfl ?_
                refine J.op rfl (op_toBytes rfl rfl rfl rfl Tryz.underlying9 Tryz.underlying46 Tryz.underlying5 ?_)
                intro b34 c35 sp36 fr37 hb34 hfr37
                refine J.y (yl_assign rfl rfl) rfl rfl rfl ?_
                refine J.nil ?_
                refine Ej.seq ?_
                refine Cj.seq ?_
                refine Cj.seq ?_
                refine Cj.region ?_
                refine J.y (yl_assign rfl rfl) rfl rfl rfl ?_
                refine J.nil ?_
                refine Ej.seq ?_
                refine Cj.block ?_
                refine Cj.loop (ι := Nat × List UInt8) (fun j => Cq.UInv t.text j.1 j.2) (fun j => t.text.length - j.1) (fun j => [(1, .slice p0 lb.length c0), (2, .bool large), (7, .bool true), (8, .slice (some ⟨bt, 0, none⟩) T.length ct), (9, str (Cq.sx (T.take k))), (10, str (Cq.ux (Cq.gapOf lb) large (T.take k) 0)), (11, gV k g1), (12, gV k g2), (13, i64 (k : Int)), (14, str t.text), (16, .slice (some ⟨b34, 0, none⟩) t.text.length c35), (17, i64 (j.1 : Int))]) (fun j => _) (fun j => (b34, .cells (bcs j.2 ++ sp36).toArray 5 (fr37, fr37 + 1)) :: (gH 3 (offs T k) g1 ++ gH 3 (movs lb large T k) g2)) (0, t.text) ⟨Nat.zero_le _, by simp⟩ ⟨rfl, rfl, rfl, rfl, rfl, rfl, rfl, rfl, rfl, rfl, rfl, rfl, trivial⟩ rfl rfl ?_
                rintro ⟨n, l⟩ hn
                dsimp only at hn ⊢
                have hn1 := hn.le
                have hn2 := hn.len
                refine Cj.seq ?_
                refine Cj.seq ?_
                refine Cj.region ?_
                refine J.y (yl_move rfl rfl) rfl rfl rfl ?_
                refine J.y (yl_move rfl rfl) rfl rfl rfl ?_
                refine J.y (yl_lenSlice rfl rfl Tryz.underlying46) rfl rfl rfl ?_
                refine J.y (yl_lss rfl rfl rfl) rfl rfl rfl ?_
                refine J.nil ?_
                refine Ej.seq ?_
                refine Cj.cond rfl (fun hc38 => ?_) (fun hc38 => ?_)
                ·
                  have hc38p := of_decide_eq_true hc38
                  have hlt2 : n < t.text.length := by omega
                  obtain ⟨c, hget2⟩ : ∃ c, t.text[n]? = some c := ⟨_, List.getElem?_eq_getElem hlt2⟩
                  have hgb := bcs_get l sp36 n c (hn.get hget2)
                  refine Cj.skip ?_
                  refine Ej.seq ?_
                  refine Cj.seq ?_
                  refine Cj.block ?_
                  refine Cj.seq ?_
                  refine Cj.region ?_
                  refine J.y (yl_move rfl rfl) rfl rfl rfl ?_
                  refine J.y (yl_move rfl rfl) rfl rfl rfl ?_
                  refine J.y (yl_indexAddr (off' := n) rfl rfl rfl Tryz.underlying46 Tryz.sizeOf5 (by omega) (by omega) (by simp)) rfl rfl rfl ?_
                  refine J.y (yl_load rfl rfl Tryz.isAgg5 (Blk.at 0 rfl) hgb) rfl rfl rfl ?_
                  refine J.y (yl_geq rfl rfl rfl) rfl rfl rfl ?_
                  refine J.y (yl_move rfl rfl) rfl rfl rfl ?_
                  refine J.split 91 rfl (fun hg39 => ?_) (fun hg39 => ?_)
                  ·
                    refine J.opG 5 91 true _ rfl rfl rfl hg39 (op_yld (yl_move rfl rfl) rfl rfl ?_)
                    refine J.opG 5 91 true _ rfl rfl rfl hg39 (op_yld (yl_move rfl rfl) rfl rfl ?_)
                    refine J.opG 5 91 true _ rfl rfl rfl hg39 (op_yld (yl_indexAddr (off' := n) rfl rfl rfl Tryz.underlying46 Tryz.sizeOf5 (by omega) (by omega) (by simp)) rfl rfl ?_)
                    refine J.opG 5 91 true _ rfl rfl rfl hg39 (op_yld (yl_load rfl rfl Tryz.isAgg5 (Blk.at 0 rfl) hgb) rfl rfl ?_)
                    refine J.opG 5 91 true _ rfl rfl rfl hg39 (op_yld (yl_leq rfl rfl rfl) rfl rfl ?_)
                    refine J.y (yl_pick1 rfl rfl hg39 rfl) rfl rfl rfl ?_
                    refine J.nil ?_
                    refine Ej.seq ?_
                    refine Cj.cond rfl (fun hc40 => ?_) (fun hc40 => ?_)
                    ·
                      have hc40p := of_decide_eq_true hc40
                      have hge : (c.toNat : Int) ≥ 97 := of_decide_eq_true hg39
                      refine Cj.region ?_
                      refine J.y (yl_move rfl rfl) rfl rfl rfl ?_
                      refine J.y (yl_move rfl rfl) rfl rfl rfl ?_
                      refine J.y (yl_indexAddr (off' := n) rfl rfl rfl Tryz.underlying46 Tryz.sizeOf5 (by omega) (by omega) (by simp)) rfl rfl rfl ?_
                      refine J.y (yl_load rfl rfl Tryz.isAgg5 (Blk.at 0 rfl) hgb) rfl rfl rfl ?_
                      refine J.y (yl_subB 32 rfl rfl rfl rfl (by show 32 ≤ c.toNat; omega)) rfl rfl rfl ?_
                      refine J.y (yl_indexAddr (off' := n) rfl rfl rfl Tryz.underlying46 Tryz.sizeOf5 (by omega) (by omega) (by simp)) rfl rfl rfl ?_
                      refine J.op rfl (op_store1 0 rfl rfl rfl rfl rfl rfl Tryz.sizeOf5 rfl (.inr (by simp only [List.length_append, bcs_len, hn2] at hfr37 ⊢; omega)) (by simp only [List.length_append, bcs_len]; omega) LSet.z ?_)
                      refine J.nil ?_
                      refine Ej.blkNormal ?_
                      refine Ej.seq ?_
                      refine Cj.region ?_
                      refine J.y (yl_move rfl rfl) rfl rfl rfl ?_
                      refine J.y (yl_add rfl rfl rfl (w64 (by omega))) rfl rfl rfl ?_
                      refine J.y (yl_assign rfl rfl) rfl rfl rfl ?_
                      refine J.nil ?_
                      have hup : Cq.upc c = c - 32 := by unfold Cq.upc; rw [if_pos]; have := of_decide_eq_true hg39; have := of_decide_eq_true hc40; omega
                      refine Ej.round (n + 1, l.set n (c - 32)) (hup ▸ hn.next hget2) (by simp; omega) ⟨rfl, rfl, rfl, rfl, rfl, rfl, rfl, rfl, rfl, rfl, rfl, rfl, trivial⟩ rfl (by dsimp only; rw [bcs_set _ _ _ _ (by omega)])
                    ·
                      have hc40p := of_decide_eq_false hc40
                      refine Cj.skip ?_
                      refine Ej.blkNormal ?_
                      refine Ej.seq ?_
                      refine Cj.region ?_
                      refine J.y (yl_move rfl rfl) rfl rfl rfl ?_
                      refine J.y (yl_add rfl rfl rfl (w64 (by omega))) rfl rfl rfl ?_
                      refine J.y (yl_assign rfl rfl) rfl rfl rfl ?_
                      refine J.nil ?_
                      have hup : Cq.upc c = c := by unfold Cq.upc; rw [if_neg]; have := of_decide_eq_false hc40; omega
                      refine Ej.round (n + 1, l) (hn.same hget2 hup) (by simp; omega) ⟨rfl, rfl, rfl, rfl, rfl, rfl, rfl, rfl, rfl, rfl, rfl, rfl, trivial⟩ rfl rfl
                  ·
                    refine J.skip 5 91 92 true _ rfl rfl rfl hg39 rfl rfl ?_
                    refine J.skip 5 91 93 true _ rfl rfl rfl hg39 rfl rfl ?_
                    refine J.skip 5 91 94 true _ rfl rfl rfl hg39 rfl rfl ?_
                    refine J.skip 5 91 95 true _ rfl rfl rfl hg39 rfl rfl ?_
                    refine J.skip 5 91 96 true _ rfl rfl rfl hg39 rfl rfl ?_
                    refine J.y (yl_pick0 rfl rfl hg39 rfl) rfl rfl rfl ?_
                    refine J.nil ?_
                    refine Ej.seq ?_
                    refine Cj.cond rfl (fun hc41 => Bool.noConfusion (Eq.trans (Eq.symm rfl) hc41)) (fun hc41 => ?_)
                    refine Cj.skip ?_
                    refine Ej.blkNormal ?_
                    refine Ej.seq ?_
                    refine Cj.region ?_
                    refine J.y (yl_move rfl rfl) rfl rfl rfl ?_
                    refine J.y (yl_add rfl rfl rfl (w64 (by omega))) rfl rfl rfl ?_
                    refine J.y (yl_assign rfl rfl) rfl rfl rfl ?_
                    refine J.nil ?_
                    have hup : Cq.upc c = c := by unfold Cq.upc; rw [if_neg]; have := of_decide_eq_false hg39; omega
                    refine Ej.round (n + 1, l) (hn.same hget2 hup) (by simp; omega) ⟨rfl, rfl, rfl, rfl, rfl, rfl, rfl, rfl, rfl, rfl, rfl, rfl, trivial⟩ rfl rfl
                ·
                  have hc38p := of_decide_eq_false hc38
                  refine Cj.exit ?_
                  refine Ej.seqExit ?_
                  refine Ej.loopExit ?_
                  refine Ej.blkExit ?_
                  refine Ej.seq ?_
                  refine Cj.region ?_
                  refine J.y (yl_move rfl rfl) rfl rfl rfl ?_
                  refine J.y (yl_toStr l rfl rfl hn2 Tryz.underlying46 Tryz.underlying9 Tryz.underlying5 (Blk.at 0 rfl) (by rw [List.drop_zero, List.take_left' (by rw [bcs_len])])) rfl rfl rfl ?_
                  refine J.eqv 105 rfl (show _ = str (Cq.upper t.text) from (by rw [hn.done (by omega)])) ?_
                  refine J.y (yl_assign rfl rfl) rfl rfl rfl ?_
                  refine J.nil ?_
                  refine Ej.seq ?_
                  refine Cj.seq ?_
                  have hxo : Cq.xof t = t.text := by simp [Cq.xof, hk4, hk2]
                  have hbig : Cq.big large t = true := by simp [Cq.big, hk3, hlg, hct, hco]
                  have hyo : Cq.yof large t = Cq.upper t.text := by simp [Cq.yof, hbig]
                  refine Cj.eqv 14 rfl (show _ = str (Cq.xof t) from (congrArg str hxo).symm) ?_
                  refine Cj.eqv 15 rfl (show _ = str (Cq.yof large t) from (congrArg str hyo).symm) ?_
                  refine Cj.keep (Keeps.d Keeps.r) ?_
                  refine Cj.region ?_
                  refine J.y (yl_move rfl rfl) rfl rfl rfl ?_
                  refine J.y (yl_move rfl rfl) rfl rfl rfl ?_
                  refine J.y (yl_lenStr rfl rfl Tryz.underlying9) rfl rfl rfl ?_
                  refine J.op rfl (op_buildSlice rfl rfl rfl Tryz.underlying22 Tryz.sizeOf3 Tryz.zeroValue3 rfl rfl rfl rfl (LCat.one rfl LCat.none) ?_)
                  intro b42 hb42
                  refine J.swapG ?_
                  refine J.op rfl (op_append (by' := 7) (_ :: gH _ _ _) rfl rfl rfl rfl rfl Tryz.underlying22 (.inr ⟨_, Tryz.underlying22⟩) (by kernel_rfl) Tryz.sizeOf3 Tryz.zeroValue3 rfl hg1 rfl (Src.slice (Blk.at 0 rfl) rfl rfl rfl) (by omega) ?_)
                  intro g43 hg43
                  refine J.y (yl_assign rfl rfl) rfl rfl rfl ?_
                  refine J.nil ?_
                  refine Ej.seq ?_
                  refine Cj.seq ?_
                  refine Cj.keep (Keeps.d Keeps.r) ?_
                  refine Cj.region ?_
                  refine J.y (yl_move rfl rfl) rfl rfl rfl ?_
                  refine J.y (yl_move rfl rfl) rfl rfl rfl ?_
                  refine J.y (yl_cat rfl rfl rfl (by first | omega | (simp only [List.length_append]; omega) | (simp; omega))) rfl rfl rfl ?_
                  refine J.y (yl_cat rfl rfl rfl (by first | omega | (simp only [List.length_append]; omega) | (simp; omega))) rfl rfl rfl ?_
                  refine J.eqv 114 rfl (show _ = str (Cq.sx (T.take (k + 1))) from (by rw [Cq.sx_next hget])) ?_
                  refine J.y (yl_assign rfl rfl) rfl rfl rfl ?_
                  refine J.nil ?_
                  refine Ej.seq ?_
                  refine Cj.seq ?_
                  refine Cj.region ?_
                  refine J.y (yl_assign rfl rfl) rfl rfl rfl ?_
                  refine J.nil ?_
                  refine Ej.seq ?_
                  refine Cj.seq ?_
                  refine Cj.seq ?_
                  refine Cj.region ?_
                  refine J.y (yl_move rfl rfl) rfl rfl rfl ?_
                  refine J.y (yl_lenSlice rfl rfl Tryz.underlying46) rfl rfl rfl ?_
                  refine J.y (yl_gtr rfl rfl rfl) rfl rfl rfl ?_
                  refine J.nil ?_
                  refine Ej.seq ?_
                  refine Cj.cond rfl (fun hc44 => ?_) (fun hc44 => ?_)
                  ·
                    have hc44p := of_decide_eq_true hc44
                    have hlb : lb ≠ [] := by intro h; have := of_decide_eq_true hc44; rw [h] at this; simp at this
                    have hlp := List.length_pos_iff.2 hlb
                    have hml : k % lb.length < lb.length := Nat.mod_lt _ hlp
                    obtain ⟨x, hgx⟩ : ∃ x, lb[k % lb.length]? = some x := ⟨_, List.getElem?_eq_getElem hml⟩
                    obtain ⟨bl, off, cs', TT, fr0, hp0, hbl, hcell⟩ := hmem hlb
                    subst hp0
                    have hx4 : x.toNat % 4 < 4 := Nat.mod_lt _ (by decide)
                    have hgo : Cq.gapOf lb k = Cq.gaps4.getD (x.toNat % 4) [] := by unfold Cq.gapOf; rw [if_neg hlb, show lb.getD (k % lb.length) 0 = x by rw [List.getD, hgx]; rfl]
                    refine Cj.region ?_
                    refine J.op rfl (op_buildSlice rfl rfl rfl Tryz.underlying44 Tryz.sizeOf9 Tryz.zeroValue9 rfl rfl rfl rfl (LCat.one rfl (LCat.one rfl (LCat.one rfl (LCat.one rfl LCat.none)))) ?_)
                    intro b45 hb45
                    refine J.y (yl_move rfl rfl) rfl rfl rfl ?_
                    refine J.y (yl_move rfl rfl) rfl rfl rfl ?_
                    refine J.y (yl_move rfl rfl) rfl rfl rfl ?_
                    refine J.y (yl_lenSlice rfl rfl Tryz.underlying46) rfl rfl rfl ?_
                    refine J.y (yl_rem rfl rfl rfl (by omega)) rfl rfl rfl ?_
                    refine J.eqv 123 rfl (show _ = i64 ((k % lb.length : Nat) : Int) from (congrArg (Value.int .i64) (Int.ofNat_tmod k lb.length).symm)) ?_
                    refine J.y (yl_indexAddr (off' := (off + k % lb.length)) rfl rfl rfl Tryz.underlying46 Tryz.sizeOf5 (by omega) (by omega) (by simp; omega)) rfl rfl rfl ?_
                    refine J.y (yl_load rfl rfl Tryz.isAgg5 (Blk.imm hbl) (hcell _ x hgx)) rfl rfl rfl ?_
                    refine J.y (yl_rem rfl rfl rfl (by omega)) rfl rfl rfl ?_
                    refine J.eqv 126 rfl (show _ = .int .u8 ((x.toNat % 4 : Nat) : Int) from (congrArg (Value.int .u8) (Int.ofNat_tmod x.toNat 4).symm)) ?_
                    refine J.y (yl_indexAddr (off' := (x.toNat % 4)) rfl rfl rfl Tryz.underlying44 Tryz.sizeOf9 (by omega) (by omega) (by simp; omega)) rfl rfl rfl ?_
                    refine J.y (yl_load rfl rfl Tryz.isAgg9 (Blk.at 0 rfl) (idx_at (l := Cq.gaps4) hx4)) rfl rfl rfl ?_
                    refine J.eqv 128 rfl (show _ = str (Cq.gapOf lb k) from (by rw [hgo])) ?_
                    refine J.y (yl_assign rfl rfl) rfl rfl rfl ?_
                    refine J.nil ?_
                    refine Ej.seq ?_
                    refine Cj.seq ?_
                    refine Cj.keep (Keeps.d Keeps.r) ?_
                    refine Cj.region ?_
                    refine J.y (yl_move rfl rfl) rfl rfl rfl ?_
                    refine J.y (yl_move rfl rfl) rfl rfl rfl ?_
                    refine J.y (yl_cat rfl rfl rfl (by first | omega | (simp only [List.length_append]; omega) | (simp; omega))) rfl rfl rfl ?_
                    refine J.y (yl_assign rfl rfl) rfl rfl rfl ?_
                    refine J.nil ?_
                    refine Ej.seq ?_
                    refine Cj.seq ?_
                    refine Cj.region ?_
                    refine J.y (yl_move rfl rfl) rfl rfl rfl ?_
                    refine J.y (yl_move rfl rfl) rfl rfl rfl ?_
                    refine J.y (yl_lenStr rfl rfl Tryz.underlying9) rfl rfl rfl ?_
                    refine J.op rfl (op_buildSlice rfl rfl rfl Tryz.underlying22 Tryz.sizeOf3 Tryz.zeroValue3 rfl rfl rfl rfl (LCat.one rfl LCat.none) ?_)
                    intro b46 hb46
                    refine J.swapG ?_
                    refine J.op rfl (op_append (by' := 7) (_ :: gH _ _ _) rfl rfl rfl rfl rfl Tryz.underlying22 (.inr ⟨_, Tryz.underlying22⟩) (by kernel_rfl) Tryz.sizeOf3 Tryz.zeroValue3 rfl hg2 rfl (Src.slice (Blk.at 0 rfl) rfl rfl rfl) (by omega) ?_)
                    intro g47 hg47
                    refine J.y (yl_assign rfl rfl) rfl rfl rfl ?_
                    refine J.nil ?_
                    refine Ej.seq ?_
                    refine Cj.region ?_
                    refine J.y (yl_move rfl rfl) rfl rfl rfl ?_
                    refine J.y (yl_move rfl rfl) rfl rfl rfl ?_
                    refine J.y (yl_cat rfl rfl rfl (by first | omega | (simp only [List.length_append]; omega) | (simp; omega))) rfl rfl rfl ?_
                    refine J.eqv 139 rfl (show _ = str (Cq.ux (Cq.gapOf lb) large (T.take (k + 1)) 0) from (by rw [Cq.ux_next hget])) ?_
                    refine J.y (yl_assign rfl rfl) rfl rfl rfl ?_
                    refine J.nil ?_
                    refine Ej.blkNormal ?_
                    refine Ej.seq ?_
                    refine Cj.keep (Keeps.d Keeps.r) ?_
                    refine Cj.region ?_
                    refine J.y (yl_move rfl rfl) rfl rfl rfl ?_
                    refine J.y (yl_add rfl rfl rfl (w64 (by omega))) rfl rfl rfl ?_
                    refine J.y (yl_assign rfl rfl) rfl rfl rfl ?_
                    refine J.nil ?_
                    refine Ej.round ⟨k + 1, g43, g47⟩ ⟨by dsimp only; omega, hg43, hg47⟩ (by dsimp only; omega) ⟨rfl, rfl, rfl, rfl, rfl, rfl, rfl, rfl, rfl, trivial⟩ rfl rfl
                  ·
                    have hc44p := of_decide_eq_false hc44
                    have hlb : lb = [] := List.length_eq_zero_iff.1 (by have := of_decide_eq_false hc44; omega)
                    have hgo : Cq.gapOf lb k = [32] := by simp [Cq.gapOf, hlb]
                    refine Cj.eqv 18 rfl (show _ = str (Cq.gapOf lb k) from (congrArg str hgo).symm) ?_
                    refine Cj.skip ?_
                    refine Ej.seq ?_
                    refine Cj.seq ?_
                    refine Cj.region ?_
                    refine J.y (yl_move rfl rfl) rfl rfl rfl ?_
                    refine J.y (yl_move rfl rfl) rfl rfl rfl ?_
                    refine J.y (yl_cat rfl rfl rfl (by first | omega | (simp only [List.length_append]; omega) | (simp; omega))) rfl rfl rfl ?_
                    refine J.y (yl_assign rfl rfl) rfl rfl rfl ?_
                    refine J.nil ?_
                    refine Ej.seq ?_
                    refine Cj.seq ?_
                    refine Cj.region ?_
                    refine J.y (yl_move rfl rfl) rfl rfl rfl ?_
                    refine J.y (yl_move rfl rfl) rfl rfl rfl ?_
                    refine J.y (yl_lenStr rfl rfl Tryz.underlying9) rfl rfl rfl ?_
                    refine J.op rfl (op_buildSlice rfl rfl rfl Tryz.underlying22 Tryz.sizeOf3 Tryz.zeroValue3 rfl rfl rfl rfl (LCat.one rfl LCat.none) ?_)
                    intro b48 hb48
                    refine J.swapG ?_
                    refine J.op rfl (op_append (by' := 7) (_ :: gH _ _ _) rfl rfl rfl rfl rfl Tryz.underlying22 (.inr ⟨_, Tryz.underlying22⟩) (by kernel_rfl) Tryz.sizeOf3 Tryz.zeroValue3 rfl hg2 rfl (Src.slice (Blk.at 0 rfl) rfl rfl rfl) (by omega) ?_)
                    intro g49 hg49
                    refine J.y (yl_assign rfl rfl) rfl rfl rfl ?_
                    refine J.nil ?_
                    refine Ej.seq ?_
                    refine Cj.region ?_
                    refine J.y (yl_move rfl rfl) rfl rfl rfl ?_
                    refine J.y (yl_move rfl rfl) rfl rfl rfl ?_
                    refine J.y (yl_cat rfl rfl rfl (by first | omega | (simp only [List.length_append]; omega) | (simp; omega))) rfl rfl rfl ?_
                    refine J.eqv 139 rfl (show _ = str (Cq.ux (Cq.gapOf lb) large (T.take (k + 1)) 0) from (by rw [Cq.ux_next hget])) ?_
                    refine J.y (yl_assign rfl rfl) rfl rfl rfl ?_
                    refine J.nil ?_
                    refine Ej.blkNormal ?_
                    refine Ej.seq ?_
                    refine Cj.keep (Keeps.d Keeps.r) ?_
                    refine Cj.region ?_
                    refine J.y (yl_move rfl rfl) rfl rfl rfl ?_
                    refine J.y (yl_add rfl rfl rfl (w64 (by omega))) rfl rfl rfl ?_
                    refine J.y (yl_assign rfl rfl) rfl rfl rfl ?_
                    refine J.nil ?_
                    refine Ej.round ⟨k + 1, g43, g49⟩ ⟨by dsimp only; omega, hg43, hg49⟩ (by dsimp only; omega) ⟨rfl, rfl, rfl, rfl, rfl, rfl, rfl, rfl, rfl, trivial⟩ rfl rfl
              ·
                have hc33p := bne_f hc33
                have hco : Cq.small t.text = [99, 111, 108, 111, 114] := by have h := hc33; simpa using h
                refine Cj.skip ?_
                refine Ej.seq ?_
                refine Cj.seq ?_
                have hxo : Cq.xof t = t.text := by simp [Cq.xof, hk4, hk2]
                have hbig : Cq.big large t = false := by simp [Cq.big, hco]
                have hyo : Cq.yof large t = t.text := by rw [← hxo]; simp [Cq.yof, hbig]
                refine Cj.eqv 14 rfl (show _ = str (Cq.xof t) from (congrArg str hxo).symm) ?_
                refine Cj.eqv 15 rfl (show _ = str (Cq.yof large t) from (congrArg str hyo).symm) ?_
                refine Cj.region ?_
                refine J.y (yl_move rfl rfl) rfl rfl rfl ?_
                refine J.y (yl_move rfl rfl) rfl rfl rfl ?_
                refine J.y (yl_lenStr rfl rfl Tryz.underlying9) rfl rfl rfl ?_
                refine J.op rfl (op_buildSlice rfl rfl rfl Tryz.underlying22 Tryz.sizeOf3 Tryz.zeroValue3 rfl rfl rfl rfl (LCat.one rfl LCat.none) ?_)
                intro b50 hb50
                refine J.swapG ?_
                refine J.op rfl (op_append (by' := 7) (_ :: gH _ _ _) rfl rfl rfl rfl rfl Tryz.underlying22 (.inr ⟨_, Tryz.underlying22⟩) (by kernel_rfl) Tryz.sizeOf3 Tryz.zeroValue3 rfl hg1 rfl (Src.slice (Blk.at 0 rfl) rfl rfl rfl) (by omega) ?_)
                intro g51 hg51
                refine J.y (yl_assign rfl rfl) rfl rfl rfl ?_
                refine J.nil ?_
                refine Ej.seq ?_
                refine Cj.seq ?_
                refine Cj.keep (Keeps.d Keeps.r) ?_
                refine Cj.region ?_
                refine J.y (yl_move rfl rfl) rfl rfl rfl ?_
                refine J.y (yl_move rfl rfl) rfl rfl rfl ?_
                refine J.y (yl_cat rfl rfl rfl (by first | omega | (simp only [List.length_append]; omega) | (simp; omega))) rfl rfl rfl ?_
                refine J.y (yl_cat rfl rfl rfl (by first | omega | (simp only [List.length_append]; omega) | (simp; omega))) rfl rfl rfl ?_
                refine J.eqv 114 rfl (show _ = str (Cq.sx (T.take (k + 1))) from (by rw [Cq.sx_next hget])) ?_
                refine J.y (yl_assign rfl rfl) rfl rfl rfl ?_
                refine J.nil ?_
                refine Ej.seq ?_
                refine Cj.seq ?_
                refine Cj.region ?_
                refine J.y (yl_assign rfl rfl) rfl rfl rfl ?_
                refine J.nil ?_
                refine Ej.seq ?_
                refine Cj.seq ?_
                refine Cj.seq ?_
                refine Cj.region ?_
                refine J.y (yl_move rfl rfl) rfl rfl rfl ?_
                refine J.y (yl_lenSlice rfl rfl Tryz.underlying46) rfl rfl rfl ?_
                refine J.y (yl_gtr rfl rfl rfl) rfl rfl rfl ?_
                refine J.nil ?_
                refine Ej.seq ?_
                refine Cj.cond rfl (fun hc52 => ?_) (fun hc52 => ?_)
                ·
                  have hc52p := of_decide_eq_true hc52
                  have hlb : lb ≠ [] := by intro h; have := of_decide_eq_true hc52; rw [h] at this; simp at this
                  have hlp := List.length_pos_iff.2 hlb
                  have hml : k % lb.length < lb.length := Nat.mod_lt _ hlp
                  obtain ⟨x, hgx⟩ : ∃ x, lb[k % lb.length]? = some x := ⟨_, List.getElem?_eq_getElem hml⟩
                  obtain ⟨bl, off, cs', TT, fr0, hp0, hbl, hcell⟩ := hmem hlb
                  subst hp0
                  have hx4 : x.toNat % 4 < 4 := Nat.mod_lt _ (by decide)
                  have hgo : Cq.gapOf lb k = Cq.gaps4.getD (x.toNat % 4) [] := by unfold Cq.gapOf; rw [if_neg hlb, show lb.getD (k % lb.length) 0 = x by rw [List.getD, hgx]; rfl]
                  refine Cj.region ?_
                  refine J.op rfl (op_buildSlice rfl rfl rfl Tryz.underlying44 Tryz.sizeOf9 Tryz.zeroValue9 rfl rfl rfl rfl (LCat.one rfl (LCat.one rfl (LCat.one rfl (LCat.one rfl LCat.none)))) ?_)
                  intro b53 hb53
                  refine J.y (yl_move rfl rfl) rfl rfl rfl ?_
                  refine J.y (yl_move rfl rfl) rfl rfl rfl ?_
                  refine J.y (yl_move rfl rfl) rfl rfl rfl ?_
                  refine J.y (yl_lenSlice rfl rfl Tryz.underlying46) rfl rfl rfl ?_
                  refine J.y (yl_rem rfl rfl rfl (by omega)) rfl rfl rfl ?_
                  refine J.eqv 123 rfl (show _ = i64 ((k % lb.length : Nat) : Int) from (congrArg (Value.int .i64) (Int.ofNat_tmod k lb.length).symm)) ?_
                  refine J.y (yl_indexAddr (off' := (off + k % lb.length)) rfl rfl rfl Tryz.underlying46 Tryz.sizeOf5 (by omega) (by omega) (by simp; omega)) rfl rfl rfl ?_
                  refine J.y (yl_load rfl rfl Tryz.isAgg5 (Blk.imm hbl) (hcell _ x hgx)) rfl rfl rfl ?_
                  refine J.y (yl_rem rfl rfl rfl (by omega)) rfl rfl rfl ?_
                  refine J.eqv 126 rfl (show _ = .int .u8 ((x.toNat % 4 : Nat) : Int) from (congrArg (Value.int .u8) (Int.ofNat_tmod x.toNat 4).symm)) ?_
                  refine J.y (yl_indexAddr (off' := (x.toNat % 4)) rfl rfl rfl Tryz.underlying44 Tryz.sizeOf9 (by omega) (by omega) (by simp; omega)) rfl rfl rfl ?_
                  refine J.y (yl_load rfl rfl Tryz.isAgg9 (Blk.at 0 rfl) (idx_at (l := Cq.gaps4) hx4)) rfl rfl rfl ?_
                  refine J.eqv 128 rfl (show _ = str (Cq.gapOf lb k) from (by rw [hgo])) ?_
                  refine J.y (yl_assign rfl rfl) rfl rfl rfl ?_
                  refine J.nil ?_
                  refine Ej.seq ?_
                  refine Cj.seq ?_
                  refine Cj.keep (Keeps.d Keeps.r) ?_
                  refine Cj.region ?_
                  refine J.y (yl_move rfl rfl) rfl rfl rfl ?_
                  refine J.y (yl_move rfl rfl) rfl rfl rfl ?_
                  refine J.y (yl_cat rfl rfl rfl (by first | omega | (simp only [List.length_append]; omega) | (simp; omega))) rfl rfl rfl ?_
                  refine J.y (yl_assign rfl rfl) rfl rfl rfl ?_
                  refine J.nil ?_
                  refine Ej.seq ?_
                  refine Cj.seq ?_
                  refine Cj.region ?_
                  refine J.y (yl_move rfl rfl) rfl rfl rfl ?_
                  refine J.y (yl_move rfl rfl) rfl rfl rfl ?_
                  refine J.y (yl_lenStr rfl rfl Tryz.underlying9) rfl rfl rfl ?_
                  refine J.op rfl (op_buildSlice rfl rfl rfl Tryz.underlying22 Tryz.sizeOf3 Tryz.zeroValue3 rfl rfl rfl rfl (LCat.one rfl LCat.none) ?_)
                  intro b54 hb54
                  refine J.swapG ?_
                  refine J.op rfl (op_append (by' := 7) (_ :: gH _ _ _) rfl rfl rfl rfl rfl Tryz.underlying22 (.inr ⟨_, Tryz.underlying22⟩) (by kernel_rfl) Tryz.sizeOf3 Tryz.zeroValue3 rfl hg2 rfl (Src.slice (Blk.at 0 rfl) rfl rfl rfl) (by omega) ?_)
                  intro g55 hg55
                  refine J.y (yl_assign rfl rfl) rfl rfl rfl ?_
                  refine J.nil ?_
                  refine Ej.seq ?_
                  refine Cj.region ?_
                  refine J.y (yl_move rfl rfl) rfl rfl rfl ?_
                  refine J.y (yl_move rfl rfl) rfl rfl rfl ?_
                  refine J.y (yl_cat rfl rfl rfl (by first | omega | (simp only [List.length_append]; omega) | (simp; omega))) rfl rfl rfl ?_
                  refine J.eqv 139 rfl (show _ = str (Cq.ux (Cq.gapOf lb) large (T.take (k + 1)) 0) from (by rw [Cq.ux_next hget])) ?_
                  refine J.y (yl_assign rfl rfl) rfl rfl rfl ?_
                  refine J.nil ?_
                  refine Ej.blkNormal ?_
                  refine Ej.seq ?_
                  refine Cj.keep (Keeps.d Keeps.r) ?_
                  refine Cj.region ?_
                  refine J.y (yl_move rfl rfl) rfl rfl rfl ?_
                  refine J.y (yl_add rfl rfl rfl (w64 (by omega))) rfl rfl rfl ?_
                  refine J.y (yl_assign rfl rfl) rfl rfl rfl ?_
                  refine J.nil ?_
                  refine Ej.round ⟨k + 1, g51, g55⟩ ⟨by dsimp only; omega, hg51, hg55⟩ (by dsimp only; omega) ⟨rfl, rfl, rfl, rfl, rfl, rfl, rfl, rfl, rfl, trivial⟩ rfl rfl
                ·
                  have hc52p := of_decide_eq_false hc52
                  have hlb : lb = [] := List.length_eq_zero_iff.1 (by have := of_decide_eq_false hc52; omega)
                  have hgo : Cq.gapOf lb k = [32] := by simp [Cq.gapOf, hlb]
                  refine Cj.eqv 18 rfl (show _ = str (Cq.gapOf lb k) from (congrArg str hgo).symm) ?_
                  refine Cj.skip ?_
                  refine Ej.seq ?_
                  refine Cj.seq ?_
                  refine Cj.region ?_
                  refine J.y (yl_move rfl rfl) rfl rfl rfl ?_
                  refine J.y (yl_move rfl rfl) rfl rfl rfl ?_
                  refine J.y (yl_cat rfl rfl rfl (by first | omega | (simp only [List.length_append]; omega) | (simp; omega))) rfl rfl rfl ?_
                  refine J.y (yl_assign rfl rfl) rfl rfl rfl ?_
                  refine J.nil ?_
                  refine Ej.seq ?_
                  refine Cj.seq ?_
                  refine Cj.region ?_
                  refine J.y (yl_move rfl rfl) rfl rfl rfl ?_
                  refine J.y (yl_move rfl rfl) rfl rfl rfl ?_
                  refine J.y (yl_lenStr rfl rfl Tryz.underlying9) rfl rfl rfl ?_
                  refine J.op rfl (op_buildSlice rfl rfl rfl Tryz.underlying22 Tryz.sizeOf3 Tryz.zeroValue3 rfl rfl rfl rfl (LCat.one rfl LCat.none) ?_)
                  intro b56 hb56
                  refine J.swapG ?_
                  refine J.op rfl (op_append (by' := 7) (_ :: gH _ _ _) rfl rfl rfl rfl rfl Tryz.underlying22 (.inr ⟨_, Tryz.underlying22⟩) (by kernel_rfl) Tryz.sizeOf3 Tryz.zeroValue3 rfl hg2 rfl (Src.slice (Blk.at 0 rfl) rfl rfl rfl) (by omega) ?_)
                  intro g57 hg57
                  refine J.y (yl_assign rfl rfl) rfl rfl rfl ?_
                  refine J.nil ?_
                  refine Ej.seq ?_
                  refine Cj.region ?_
                  refine J.y (yl_move rfl rfl) rfl rfl rfl ?_
                  refine J.y (yl_move rfl rfl) rfl rfl rfl ?_
                  refine J.y (yl_cat rfl rfl rfl (by first | omega | (simp only [List.length_append]; omega) | (simp; omega))) rfl rfl rfl ?_
                  refine J.eqv 139 rfl (show _ = str (Cq.ux (Cq.gapOf lb) large (T.take (k + 1)) 0) from (by rw [Cq.ux_next hget])) ?_
                  refine J.y (yl_assign rfl rfl) rfl rfl rfl ?_
                  refine J.nil ?_
                  refine Ej.blkNormal ?_
                  refine Ej.seq ?_
                  refine Cj.keep (Keeps.d Keeps.r) ?_
                  refine Cj.region ?_
                  refine J.y (yl_move rfl rfl) rfl rfl rfl ?_
                  refine J.y (yl_add rfl rfl rfl (w64 (by omega))) rfl rfl rfl ?_
                  refine J.y (yl_assign rfl rfl) rfl rfl rfl ?_
                  refine J.nil ?_
                  refine Ej.round ⟨k + 1, g51, g57⟩ ⟨by dsimp only; omega, hg51, hg57⟩ (by dsimp only; omega) ⟨rfl, rfl, rfl, rfl, rfl, rfl, rfl, rfl, rfl, trivial⟩ rfl rfl
            ·
              have hct : Cq.small t.text = [99, 97, 116] := by have h := hg32; simpa using h
              refine J.skip 14 73 74 true _ rfl rfl rfl hg32 rfl rfl ?_
              refine J.skip 14 73 75 true _ rfl rfl rfl hg32 rfl rfl ?_
              refine J.skip 14 73 76 true _ rfl rfl rfl hg32 rfl rfl ?_
              refine J.y (yl_pick0 rfl rfl hg32 rfl) rfl rfl rfl ?_
              refine J.nil ?_
              refine Ej.seq ?_
              refine Cj.cond rfl (fun hc58 => Bool.noConfusion (Eq.trans (Eq.symm rfl) hc58)) (fun hc58 => ?_)
              refine Cj.skip ?_
              refine Ej.seq ?_
              refine Cj.seq ?_
              have hxo : Cq.xof t = t.text := by simp [Cq.xof, hk4, hk2]
              have hbig : Cq.big large t = false := by simp [Cq.big, hct]
              have hyo : Cq.yof large t = t.text := by rw [← hxo]; simp [Cq.yof, hbig]
              refine Cj.eqv 14 rfl (show _ = str (Cq.xof t) from (congrArg str hxo).symm) ?_
              refine Cj.eqv 15 rfl (show _ = str (Cq.yof large t) from (congrArg str hyo).symm) ?_
              refine Cj.region ?_
              refine J.y (yl_move rfl rfl) rfl rfl rfl ?_
              refine J.y (yl_move rfl rfl) rfl rfl rfl ?_
              refine J.y (yl_lenStr rfl rfl Tryz.underlying9) rfl rfl rfl ?_
              refine J.op rfl (op_buildSlice rfl rfl rfl Tryz.underlying22 Tryz.sizeOf3 Tryz.zeroValue3 rfl rfl rfl rfl (LCat.one rfl LCat.none) ?_)
              intro b59 hb59
              refine J.swapG ?_
              refine J.op rfl (op_append (by' := 7) (_ :: gH _ _ _) rfl rfl rfl rfl rfl Tryz.underlying22 (.inr ⟨_, Tryz.underlying22⟩) (by kernel_rfl) Tryz.sizeOf3 Tryz.zeroValue3 rfl hg1 rfl (Src.slice (Blk.at 0 rfl) rfl rfl rfl) (by omega) ?_)
              intro g60 hg60
              refine J.y (yl_assign rfl rfl) rfl rfl rfl ?_
              refine J.nil ?_
              refine Ej.seq ?_
              refine Cj.seq ?_
              refine Cj.keep (Keeps.d Keeps.r) ?_
              refine Cj.region ?_
              refine J.y (yl_move rfl rfl) rfl rfl rfl ?_
              refine J.y (yl_move rfl rfl) rfl rfl rfl ?_
              refine J.y (yl_cat rfl rfl rfl (by first | omega | (simp only [List.length_append]; omega) | (simp; omega))) rfl rfl rfl ?_
              refine J.y (yl_cat rfl rfl rfl (by first | omega | (simp only [List.length_append]; omega) | (simp; omega))) rfl rfl rfl ?_
              refine J.eqv 114 rfl (show _ = str (Cq.sx (T.take (k + 1))) from (by rw [Cq.sx_next hget])) ?_
              refine J.y (yl_assign rfl rfl) rfl rfl rfl ?_
              refine J.nil ?_
              refine Ej.seq ?_
              refine Cj.seq ?_
              refine Cj.region ?_
              refine J.y (yl_assign rfl rfl) rfl rfl rfl ?_
              refine J.nil ?_
              refine Ej.seq ?_
              refine Cj.seq ?_
              refine Cj.seq ?_
              refine Cj.region ?_
              refine J.y (yl_move rfl rfl) rfl rfl rfl ?_
              refine J.y (yl_lenSlice rfl rfl Tryz.underlying46) rfl rfl rfl ?_
              refine J.y (yl_gtr rfl rfl rfl) rfl rfl rfl ?_
              refine J.nil ?_
              refine Ej.seq ?_
              refine Cj.cond rfl (fun hc61 => ?_) (fun hc61 => ?_)
              ·
                have hc61p := of_decide_eq_true hc61
                have hlb : lb ≠ [] := by intro h; have := of_decide_eq_true hc61; rw [h] at this; simp at this
                have hlp := List.length_pos_iff.2 hlb
                have hml : k % lb.length < lb.length := Nat.mod_lt _ hlp
                obtain ⟨x, hgx⟩ : ∃ x, lb[k % lb.length]? = some x := ⟨_, List.getElem?_eq_getElem hml⟩
                obtain ⟨bl, off, cs', TT, fr0, hp0, hbl, hcell⟩ := hmem hlb
                subst hp0
                have hx4 : x.toNat % 4 < 4 := Nat.mod_lt _ (by decide)
                have hgo : Cq.gapOf lb k = Cq.gaps4.getD (x.toNat % 4) [] := by unfold Cq.gapOf; rw [if_neg hlb, show lb.getD (k % lb.length) 0 = x by rw [List.getD, hgx]; rfl]
                refine Cj.region ?_
                refine J.op rfl (op_buildSlice rfl rfl rfl Tryz.underlying44 Tryz.sizeOf9 Tryz.zeroValue9 rfl rfl rfl rfl (LCat.one rfl (LCat.one rfl (LCat.one rfl (LCat.one rfl LCat.none)))) ?_)
                intro b62 hb62
                refine J.y (yl_move rfl rfl) rfl rfl rfl ?_
                refine J.y (yl_move rfl rfl) rfl rfl rfl ?_
                refine J.y (yl_move rfl rfl) rfl rfl rfl ?_
                refine J.y (yl_lenSlice rfl rfl Tryz.underlying46) rfl rfl rfl ?_
                refine J.y (yl_rem rfl rfl rfl (by omega)) rfl rfl rfl ?_
                refine J.eqv 123 rfl (show _ = i64 ((k % lb.length : Nat) : Int) from (congrArg (Value.int .i64) (Int.ofNat_tmod k lb.length).symm)) ?_
                refine J.y (yl_indexAddr (off' := (off + k % lb.length)) rfl rfl rfl Tryz.underlying46 Tryz.sizeOf5 (by omega) (by omega) (by simp; omega)) rfl rfl rfl ?_
                refine J.y (yl_load rfl rfl Tryz.isAgg5 (Blk.imm hbl) (hcell _ x hgx)) rfl rfl rfl ?_
                refine J.y (yl_rem rfl rfl rfl (by omega)) rfl rfl rfl ?_
                refine J.eqv 126 rfl (show _ = .int .u8 ((x.toNat % 4 : Nat) : Int) from (congrArg (Value.int .u8) (Int.ofNat_tmod x.toNat 4).symm)) ?_
                refine J.y (yl_indexAddr (off' := (x.toNat % 4)) rfl rfl rfl Tryz.underlying44 Tryz.sizeOf9 (by omega) (by omega) (by simp; omega)) rfl rfl rfl ?_
                refine J.y (yl_load rfl rfl Tryz.isAgg9 (Blk.at 0 rfl) (idx_at (l := Cq.gaps4) hx4)) rfl rfl rfl ?_
                refine J.eqv 128 rfl (show _ = str (Cq.gapOf lb k) from (by rw [hgo])) ?_
                refine J.y (yl_assign rfl rfl) rfl rfl rfl ?_
                refine J.nil ?_
                refine Ej.seq ?_
                refine Cj.seq ?_
                refine Cj.keep (Keeps.d Keeps.r) ?_
                refine Cj.region ?_
                refine J.y (yl_move rfl rfl) rfl rfl rfl ?_
                refine J.y (yl_move rfl rfl) rfl rfl rfl ?_
                refine J.y (yl_cat rfl rfl rfl (by first | omega | (simp only [List.length_append]; omega) | (simp; omega))) rfl rfl rfl ?_
                refine J.y (yl_assign rfl rfl) rfl rfl rfl ?_
                refine J.nil ?_
                refine Ej.seq ?_
                refine Cj.seq ?_
                refine Cj.region ?_
                refine J.y (yl_move rfl rfl) rfl rfl rfl ?_
                refine J.y (yl_move rfl rfl) rfl rfl rfl ?_
                refine J.y (yl_lenStr rfl rfl Tryz.underlying9) rfl rfl rfl ?_
                refine J.op rfl (op_buildSlice rfl rfl rfl Tryz.underlying22 Tryz.sizeOf3 Tryz.zeroValue3 rfl rfl rfl rfl (LCat.one rfl LCat.none) ?_)
                intro b63 hb63
                refine J.swapG ?_
                refine J.op rfl (op_append (by' := 7) (_ :: gH _ _ _) rfl rfl rfl rfl rfl Tryz.underlying22 (.inr ⟨_, Tryz.underlying22⟩) (by kernel_rfl) Tryz.sizeOf3 Tryz.zeroValue3 rfl hg2 rfl (Src.slice (Blk.at 0 rfl) rfl rfl rfl) (by omega) ?_)
                intro g64 hg64
                refine J.y (yl_assign rfl rfl) rfl rfl rfl ?_
                refine J.nil ?_
                refine Ej.seq ?_
                refine Cj.region ?_
                refine J.y (yl_move rfl rfl) rfl rfl rfl ?_
                refine J.y (yl_move rfl rfl) rfl rfl rfl ?_
                refine J.y (yl_cat rfl rfl rfl (by first | omega | (simp only [List.length_append]; omega) | (simp; omega))) rfl rfl rfl ?_
                refine J.eqv 139 rfl (show _ = str (Cq.ux (Cq.gapOf lb) large (T.take (k + 1)) 0) from (by rw [Cq.ux_next hget])) ?_
                refine J.y (yl_assign rfl rfl) rfl rfl rfl ?_
                refine J.nil ?_
                refine Ej.blkNormal ?_
                refine Ej.seq ?_
                refine Cj.keep (Keeps.d Keeps.r) ?_
                refine Cj.region ?_
                refine J.y (yl_move rfl rfl) rfl rfl rfl ?_
                refine J.y (yl_add rfl rfl rfl (w64 (by omega))) rfl rfl rfl ?_
                refine J.y (yl_assign rfl rfl) rfl rfl rfl ?_
                refine J.nil ?_
                refine Ej.round ⟨k + 1, g60, g64⟩ ⟨by dsimp only; omega, hg60, hg64⟩ (by dsimp only; omega) ⟨rfl, rfl, rfl, rfl, rfl, rfl, rfl, rfl, rfl, trivial⟩ rfl rfl
              ·
                have hc61p := of_decide_eq_false hc61
                have hlb : lb = [] := List.length_eq_zero_iff.1 (by have := of_decide_eq_false hc61; omega)
                have hgo : Cq.gapOf lb k = [32] := by simp [Cq.gapOf, hlb]
                refine Cj.eqv 18 rfl (show _ = str (Cq.gapOf lb k) from (congrArg str hgo).symm) ?_
                refine Cj.skip ?_
                refine Ej.seq ?_
                refine Cj.seq ?_
                refine Cj.region ?_
                refine J.y (yl_move rfl rfl) rfl rfl rfl ?_
                refine J.y (yl_move rfl rfl) rfl rfl rfl ?_
                refine J.y (yl_cat rfl rfl rfl (by first | omega | (simp only [List.length_append]; omega) | (simp; omega))) rfl rfl rfl ?_
                refine J.y (yl_assign rfl rfl) rfl rfl rfl ?_
                refine J.nil ?_
                refine Ej.seq ?_
                refine Cj.seq ?_
                refine Cj.region ?_
                refine J.y (yl_move rfl rfl) rfl rfl rfl ?_
                refine J.y (yl_move rfl rfl) rfl rfl rfl ?_
                refine J.y (yl_lenStr rfl rfl Tryz.underlying9) rfl rfl rfl ?_
                refine J.op rfl (op_buildSlice rfl rfl rfl Tryz.underlying22 Tryz.sizeOf3 Tryz.zeroValue3 rfl rfl rfl rfl (LCat.one rfl LCat.none) ?_)
                intro b65 hb65
                refine J.swapG ?_
                refine J.op rfl (op_append (by' := 7) (_ :: gH _ _ _) rfl rfl rfl rfl rfl Tryz.underlying22 (.inr ⟨_, Tryz.underlying22⟩) (by kernel_rfl) Tryz.sizeOf3 Tryz.zeroValue3 rfl hg2 rfl (Src.slice (Blk.at 0 rfl) rfl rfl rfl) (by omega) ?_)
                intro g66 hg66
                refine J.y (yl_assign rfl rfl) rfl rfl rfl ?_
                refine J.nil ?_
                refine Ej.seq ?_
                refine Cj.region ?_
                refine J.y (yl_move rfl rfl) rfl rfl rfl ?_
                refine J.y (yl_move rfl rfl) rfl rfl rfl ?_
                refine J.y (yl_cat rfl rfl rfl (by first | omega | (simp only [List.length_append]; omega) | (simp; omega))) rfl rfl rfl ?_
                refine J.eqv 139 rfl (show _ = str (Cq.ux (Cq.gapOf lb) large (T.take (k + 1)) 0) from (by rw [Cq.ux_next hget])) ?_
                refine J.y (yl_assign rfl rfl) rfl rfl rfl ?_
                refine J.nil ?_
                refine Ej.blkNormal ?_
                refine Ej.seq ?_
                refine Cj.keep (Keeps.d Keeps.r) ?_
                refine Cj.region ?_
                refine J.y (yl_move rfl rfl) rfl rfl rfl ?_
                refine J.y (yl_add rfl rfl rfl (w64 (by omega))) rfl rfl rfl ?_
                refine J.y (yl_assign rfl rfl) rfl rfl rfl ?_
                refine J.nil ?_
                refine Ej.round ⟨k + 1, g60, g66⟩ ⟨by dsimp only; omega, hg60, hg66⟩ (by dsimp only; omega) ⟨rfl, rfl, rfl, rfl, rfl, rfl, rfl, rfl, rfl, trivial⟩ rfl rfl
          ·
            have hlg : large = false := hg31
            refine J.skip 9 68 69 true _ rfl rfl rfl hg31 rfl rfl ?_
            refine J.skip 9 68 70 true _ rfl rfl rfl hg31 rfl rfl ?_
            refine J.skip 9 68 71 true _ rfl rfl rfl hg31 rfl rfl ?_
            refine J.y (yl_pick0 rfl rfl hg31 rfl) rfl rfl rfl ?_
            refine J.y (yl_move rfl rfl) rfl rfl rfl ?_
            refine J.skip 14 73 74 true _ rfl rfl rfl rfl rfl rfl ?_
            refine J.skip 14 73 75 true _ rfl rfl rfl rfl rfl rfl ?_
            refine J.skip 14 73 76 true _ rfl rfl rfl rfl rfl rfl ?_
            refine J.y (yl_pick0 rfl rfl rfl rfl) rfl rfl rfl ?_
            refine J.nil ?_
            refine Ej.seq ?_
            refine Cj.cond rfl (fun hc67 => Bool.noConfusion (Eq.trans (Eq.symm rfl) hc67)) (fun hc67 => ?_)
            refine Cj.skip ?_
            refine Ej.seq ?_
            refine Cj.seq ?_
            have hxo : Cq.xof t = t.text := by simp [Cq.xof, hk4, hk2]
            have hbig : Cq.big large t = false := by simp [Cq.big, hlg]
            have hyo : Cq.yof large t = t.text := by rw [← hxo]; simp [Cq.yof, hbig]
            refine Cj.eqv 14 rfl (show _ = str (Cq.xof t) from (congrArg str hxo).symm) ?_
            refine Cj.eqv 15 rfl (show _ = str (Cq.yof large t) from (congrArg str hyo).symm) ?_
            refine Cj.region ?_
            refine J.y (yl_move rfl rfl) rfl rfl rfl ?_
            refine J.y (yl_move rfl rfl) rfl rfl rfl ?_
            refine J.y (yl_lenStr rfl rfl Tryz.underlying9) rfl rfl rfl ?_
            refine J.op rfl (op_buildSlice rfl rfl rfl Tryz.underlying22 Tryz.sizeOf3 Tryz.zeroValue3 rfl rfl rfl rfl (LCat.one rfl LCat.none) ?_)
            intro b68 hb68
            refine J.swapG ?_
            refine J.op rfl (op_append (by' := 7) (_ :: gH _ _ _) rfl rfl rfl rfl rfl Tryz.underlying22 (.inr ⟨_, Tryz.underlying22⟩) (by kernel_rfl) Tryz.sizeOf3 Tryz.zeroValue3 rfl hg1 rfl (Src.slice (Blk.at 0 rfl) rfl rfl rfl) (by omega) ?_)
            intro g69 hg69
            refine J.y (yl_assign rfl rfl) rfl rfl rfl ?_
            refine J.nil ?_
            refine Ej.seq ?_
            refine Cj.seq ?_
            refine Cj.keep (Keeps.d Keeps.r) ?_
            refine Cj.region ?_
            refine J.y (yl_move rfl rfl) rfl rfl rfl ?_
            refine J.y (yl_move rfl rfl) rfl rfl rfl ?_
            refine J.y (yl_cat rfl rfl rfl (by first | omega | (simp only [List.length_append]; omega) | (simp; omega))) rfl rfl rfl ?_
            refine J.y (yl_cat rfl rfl rfl (by first | omega | (simp only [List.length_append]; omega) | (simp; omega))) rfl rfl rfl ?_
            refine J.eqv 114 rfl (show _ = str (Cq.sx (T.take (k + 1))) from (by rw [Cq.sx_next hget])) ?_
            refine J.y (yl_assign rfl rfl) rfl rfl rfl ?_
            refine J.nil ?_
            refine Ej.seq ?_
            refine Cj.seq ?_
            refine Cj.region ?_
            refine J.y (yl_assign rfl rfl) rfl rfl rfl ?_
            refine J.nil ?_
            refine Ej.seq ?_
            refine Cj.seq ?_
            refine Cj.seq ?_
            refine Cj.region ?_
            refine J.y (yl_move rfl rfl) rfl rfl rfl ?_
            refine J.y (yl_lenSlice rfl rfl Tryz.underlying46) rfl rfl rfl ?_
            refine J.y (yl_gtr rfl rfl rfl) rfl rfl rfl ?_
            refine J.nil ?_
            refine Ej.seq ?_
            refine Cj.cond rfl (fun hc70 => ?_) (fun hc70 => ?_)
            ·
              have hc70p := of_decide_eq_true hc70
              have hlb : lb ≠ [] := by intro h; have := of_decide_eq_true hc70; rw [h] at this; simp at this
              have hlp := List.length_pos_iff.2 hlb
              have hml : k % lb.length < lb.length := Nat.mod_lt _ hlp
              obtain ⟨x, hgx⟩ : ∃ x, lb[k % lb.length]? = some x := ⟨_, List.getElem?_eq_getElem hml⟩
              obtain ⟨bl, off, cs', TT, fr0, hp0, hbl, hcell⟩ := hmem hlb
              subst hp0
              have hx4 : x.toNat % 4 < 4 := Nat.mod_lt _ (by decide)
              have hgo : Cq.gapOf lb k = Cq.gaps4.getD (x.toNat % 4) [] := by unfold Cq.gapOf; rw [if_neg hlb, show lb.getD (k % lb.length) 0 = x by rw [List.getD, hgx]; rfl]
              refine Cj.region ?_
              refine J.op rfl (op_buildSlice rfl rfl rfl Tryz.underlying44 Tryz.sizeOf9 Tryz.zeroValue9 rfl rfl rfl rfl (LCat.one rfl (LCat.one rfl (LCat.one rfl (LCat.one rfl LCat.none)))) ?_)
              intro b71 hb71
              refine J.y (yl_move rfl rfl) rfl rfl rfl ?_
              refine J.y (yl_move rfl rfl) rfl rfl rfl ?_
              refine J.y (yl_move rfl rfl) rfl rfl rfl ?_
              refine J.y (yl_lenSlice rfl rfl Tryz.underlying46) rfl rfl rfl ?_
              refine J.y (yl_rem rfl rfl rfl (by omega)) rfl rfl rfl ?_
              refine J.eqv 123 rfl (show _ = i64 ((k % lb.length : Nat) : Int) from (congrArg (Value.int .i64) (Int.ofNat_tmod k lb.length).symm)) ?_
              refine J.y (yl_indexAddr (off' := (off + k % lb.length)) rfl rfl rfl Tryz.underlying46 Tryz.sizeOf5 (by omega) (by omega) (by simp; omega)) rfl rfl rfl ?_
              refine J.y (yl_load rfl rfl Tryz.isAgg5 (Blk.imm hbl) (hcell _ x hgx)) rfl rfl rfl ?_
              refine J.y (yl_rem rfl rfl rfl (by omega)) rfl rfl rfl ?_
              refine J.eqv 126 rfl (show _ = .int .u8 ((x.toNat % 4 : Nat) : Int) from (congrArg (Value.int .u8) (Int.ofNat_tmod x.toNat 4).symm)) ?_
              refine J.y (yl_indexAddr (off' := (x.toNat % 4)) rfl rfl rfl Tryz.underlying44 Tryz.sizeOf9 (by omega) (by omega) (by simp; omega)) rfl rfl rfl ?_
              refine J.y (yl_load rfl rfl Tryz.isAgg9 (Blk.at 0 rfl) (idx_at (l := Cq.gaps4) hx4)) rfl rfl rfl ?_
              refine J.eqv 128 rfl (show _ = str (Cq.gapOf lb k) from (by rw [hgo])) ?_
              refine J.y (yl_assign rfl rfl) rfl rfl rfl ?_
              refine J.nil ?_
              refine Ej.seq ?_
              refine Cj.seq ?_
              refine Cj.keep (Keeps.d Keeps.r) ?_
              refine Cj.region ?_
              refine J.y (yl_move rfl rfl) rfl rfl rfl ?_
              refine J.y (yl_move rfl rfl) rfl rfl rfl ?_
              refine J.y (yl_cat rfl rfl rfl (by first | omega | (simp only [List.length_append]; omega) | (simp; omega))) rfl rfl rfl ?_
              refine J.y (yl_assign rfl rfl) rfl rfl rfl ?_
              refine J.nil ?_
              refine Ej.seq ?_
              refine Cj.seq ?_
              refine Cj.region ?_
              refine J.y (yl_move rfl rfl) rfl rfl rfl ?_
              refine J.y (yl_move rfl rfl) rfl rfl rfl ?_
              refine J.y (yl_lenStr rfl rfl Tryz.underlying9) rfl rfl rfl ?_
              refine J.op rfl (op_buildSlice rfl rfl rfl Tryz.underlying22 Tryz.sizeOf3 Tryz.zeroValue3 rfl rfl rfl rfl (LCat.one rfl LCat.none) ?_)
              intro b72 hb72
              refine J.swapG ?_
              refine J.op rfl (op_append (by' := 7) (_ :: gH _ _ _) rfl rfl rfl rfl rfl Tryz.underlying22 (.inr ⟨_, Tryz.underlying22⟩) (by kernel_rfl) Tryz.sizeOf3 Tryz.zeroValue3 rfl hg2 rfl (Src.slice (Blk.at 0 rfl) rfl rfl rfl) (by omega) ?_)
              intro g73 hg73
              refine J.y (yl_assign rfl rfl) rfl rfl rfl ?_
              refine J.nil ?_
              refine Ej.seq ?_
              refine Cj.region ?_
              refine J.y (yl_move rfl rfl) rfl rfl rfl ?_
              refine J.y (yl_move rfl rfl) rfl rfl rfl ?_
              refine J.y (yl_cat rfl rfl rfl (by first | omega | (simp only [List.length_append]; omega) | (simp; omega))) rfl rfl rfl ?_
              refine J.eqv 139 rfl (show _ = str (Cq.ux (Cq.gapOf lb) large (T.take (k + 1)) 0) from (by rw [Cq.ux_next hget])) ?_
              refine J.y (yl_assign rfl rfl) rfl rfl rfl ?_
              refine J.nil ?_
              refine Ej.blkNormal ?_
              refine Ej.seq ?_
              refine Cj.keep (Keeps.d Keeps.r) ?_
              refine Cj.region ?_
              refine J.y (yl_move rfl rfl) rfl rfl rfl ?_
              refine J.y (yl_add rfl rfl rfl (w64 (by omega))) rfl rfl rfl ?_
              refine J.y (yl_assign rfl rfl) rfl rfl rfl ?_
              refine J.nil ?_
              refine Ej.round ⟨k + 1, g69, g73⟩ ⟨by dsimp only; omega, hg69, hg73⟩ (by dsimp only; omega) ⟨rfl, rfl, rfl, rfl, rfl, rfl, rfl, rfl, rfl, trivial⟩ rfl rfl
            ·
              have hc70p := of_decide_eq_false hc70
              have hlb : lb = [] := List.length_eq_zero_iff.1 (by have := of_decide_eq_false hc70; omega)
              have hgo : Cq.gapOf lb k = [32] := by simp [Cq.gapOf, hlb]
              refine Cj.eqv 18 rfl (show _ = str (Cq.gapOf lb k) from (congrArg str hgo).symm) ?_
              refine Cj.skip ?_
              refine Ej.seq ?_
              refine Cj.seq ?_
              refine Cj.region ?_
              refine J.y (yl_move rfl rfl) rfl rfl rfl ?_
              refine J.y (yl_move rfl rfl) rfl rfl rfl ?_
              refine J.y (yl_cat rfl rfl rfl (by first | omega | (simp only [List.length_append]; omega) | (simp; omega))) rfl rfl rfl ?_
              refine J.y (yl_assign rfl rfl) rfl rfl rfl ?_
              refine J.nil ?_
              refine Ej.seq ?_
              refine Cj.seq ?_
              refine Cj.region ?_
              refine J.y (yl_move rfl rfl) rfl rfl rfl ?_
              refine J.y (yl_move rfl rfl) rfl rfl rfl ?_
              refine J.y (yl_lenStr rfl rfl Tryz.underlying9) rfl rfl rfl ?_
              refine J.op rfl (op_buildSlice rfl rfl rfl Tryz.underlying22 Tryz.sizeOf3 Tryz.zeroValue3 rfl rfl rfl rfl (LCat.one rfl LCat.none) ?_)
              intro b74 hb74
              refine J.swapG ?_
              refine J.op rfl (op_append (by' := 7) (_ :: gH _ _ _) rfl rfl rfl rfl rfl Tryz.underlying22 (.inr ⟨_, Tryz.underlying22⟩) (by kernel_rfl) Tryz.sizeOf3 Tryz.zeroValue3 rfl hg2 rfl (Src.slice (Blk.at 0 rfl) rfl rfl rfl) (by omega) ?_)
              intro g75 hg75
              refine J.y (yl_assign rfl rfl) rfl rfl rfl ?_
              refine J.nil ?_
              refine Ej.seq ?_
              refine Cj.region ?_
              refine J.y (yl_move rfl rfl) rfl rfl rfl ?_
              refine J.y (yl_move rfl rfl) rfl rfl rfl ?_
              refine J.y (yl_cat rfl rfl rfl (by first | omega | (simp only [List.length_append]; omega) | (simp; omega))) rfl rfl rfl ?_
              refine J.eqv 139 rfl (show _ = str (Cq.ux (Cq.gapOf lb) large (T.take (k + 1)) 0) from (by rw [Cq.ux_next hget])) ?_
              refine J.y (yl_assign rfl rfl) rfl rfl rfl ?_
              refine J.nil ?_
              refine Ej.blkNormal ?_
              refine Ej.seq ?_
              refine Cj.keep (Keeps.d Keeps.r) ?_
              refine Cj.region ?_
              refine J.y (yl_move rfl rfl) rfl rfl rfl ?_
              refine J.y (yl_add rfl rfl rfl (w64 (by omega))) rfl rfl rfl ?_
              refine J.y (yl_assign rfl rfl) rfl rfl rfl ?_
              refine J.nil ?_
              refine Ej.round ⟨k + 1, g69, g75⟩ ⟨by dsimp only; omega, hg69, hg75⟩ (by dsimp only; omega) ⟨rfl, rfl, rfl, rfl, rfl, rfl, rfl, rfl, rfl, trivial⟩ rfl rfl
        ·
          have hk3 : t.kind ≠ 3 := by have h := hg30; simp at h; omega
          refine J.skip 6 65 66 true _ rfl rfl rfl hg30 rfl rfl ?_
          refine J.y (yl_pick0 rfl rfl hg30 rfl) rfl rfl rfl ?_
          refine J.y (yl_move rfl rfl) rfl rfl rfl ?_
          refine J.skip 9 68 69 true _ rfl rfl rfl rfl rfl rfl ?_
          refine J.skip 9 68 70 true _ rfl rfl rfl rfl rfl rfl ?_
          refine J.skip 9 68 71 true _ rfl rfl rfl rfl rfl rfl ?_
          refine J.y (yl_pick0 rfl rfl rfl rfl) rfl rfl rfl ?_
          refine J.y (yl_move rfl rfl) rfl rfl rfl ?_
          refine J.skip 14 73 74 true _ rfl rfl rfl rfl rfl rfl ?_
          refine J.skip 14 73 75 true _ rfl rfl rfl rfl rfl rfl ?_
          refine J.skip 14 73 76 true _ rfl rfl rfl rfl rfl rfl ?_
          refine J.y (yl_pick0 rfl rfl rfl rfl) rfl rfl rfl ?_
          refine J.nil ?_
          refine Ej.seq ?_
          refine Cj.cond rfl (fun hc76 => Bool.noConfusion (Eq.trans (Eq.symm rfl) hc76)) (fun hc76 => ?_)
          refine Cj.skip ?_
          refine Ej.seq ?_
          refine Cj.seq ?_
          have hxo : Cq.xof t = t.text := by simp [Cq.xof, hk4, hk2]
          have hbig : Cq.big large t = false := Cq.big_not hk3
          have hyo : Cq.yof large t = t.text := by rw [← hxo]; simp [Cq.yof, hbig]
          refine Cj.eqv 14 rfl (show _ = str (Cq.xof t) from (congrArg str hxo).symm) ?_
          refine Cj.eqv 15 rfl (show _ = str (Cq.yof large t) from (congrArg str hyo).symm) ?_
          refine Cj.region ?_
          refine J.y (yl_move rfl rfl) rfl rfl rfl ?_
          refine J.y (yl_move rfl rfl) rfl rfl rfl ?_
          refine J.y (yl_lenStr rfl rfl Tryz.underlying9) rfl rfl rfl ?_
          refine J.op rfl (op_buildSlice rfl rfl rfl Tryz.underlying22 Tryz.sizeOf3 Tryz.zeroValue3 rfl rfl rfl rfl (LCat.one rfl LCat.none) ?_)
          intro b77 hb77
          refine J.swapG ?_
          refine J.op rfl (op_append (by' := 7) (_ :: gH _ _ _) rfl rfl rfl rfl rfl Tryz.underlying22 (.inr ⟨_, Tryz.underlying22⟩) (by kernel_rfl) Tryz.sizeOf3 Tryz.zeroValue3 rfl hg1 rfl (Src.slice (Blk.at 0 rfl) rfl rfl rfl) (by omega) ?_)
          intro g78 hg78
          refine J.y (yl_assign rfl rfl) rfl rfl rfl ?_
          refine J.nil ?_
          refine Ej.seq ?_
          refine Cj.seq ?_
          refine Cj.keep (Keeps.d Keeps.r) ?_
          refine Cj.region ?_
          refine J.y (yl_move rfl rfl) rfl rfl rfl ?_
          refine J.y (yl_move rfl rfl) rfl rfl rfl ?_
          refine J.y (yl_cat rfl rfl rfl (by first | omega | (simp only [List.length_append]; omega) | (simp; omega))) rfl rfl rfl ?_
          refine J.y (yl_cat rfl rfl rfl (by first | omega | (simp only [List.length_append]; omega) | (simp; omega))) rfl rfl rfl ?_
          refine J.eqv 114 rfl (show _ = str (Cq.sx (T.take (k + 1))) from (by rw [Cq.sx_next hget])) ?_
          refine J.y (yl_assign rfl rfl) rfl rfl rfl ?_
          refine J.nil ?_
          refine Ej.seq ?_
          refine Cj.seq ?_
          refine Cj.region ?_
          refine J.y (yl_assign rfl rfl) rfl rfl rfl ?_
          refine J.nil ?_
          refine Ej.seq ?_
          refine Cj.seq ?_
          refine Cj.seq ?_
          refine Cj.region ?_
          refine J.y (yl_move rfl rfl) rfl rfl rfl ?_
          refine J.y (yl_lenSlice rfl rfl Tryz.underlying46) rfl rfl rfl ?_
          refine J.y (yl_gtr rfl rfl rfl) rfl rfl rfl ?_
          refine J.nil ?_
          refine Ej.seq ?_
          refine Cj.cond rfl (fun hc79 => ?_) (fun hc79 => ?_)
          ·
            have hc79p := of_decide_eq_true hc79
            have hlb : lb ≠ [] := by intro h; have := of_decide_eq_true hc79; rw [h] at this; simp at this
            have hlp := List.length_pos_iff.2 hlb
            have hml : k % lb.length < lb.length := Nat.mod_lt _ hlp
            obtain ⟨x, hgx⟩ : ∃ x, lb[k % lb.length]? = some x := ⟨_, List.getElem?_eq_getElem hml⟩
            obtain ⟨bl, off, cs', TT, fr0, hp0, hbl, hcell⟩ := hmem hlb
            subst hp0
            have hx4 : x.toNat % 4 < 4 := Nat.mod_lt _ (by decide)
            have hgo : Cq.gapOf lb k = Cq.gaps4.getD (x.toNat % 4) [] := by unfold Cq.gapOf; rw [if_neg hlb, show lb.getD (k % lb.length) 0 = x by rw [List.getD, hgx]; rfl]
            refine Cj.region ?_
            refine J.op rfl (op_buildSlice rfl rfl rfl Tryz.underlying44 Tryz.sizeOf9 Tryz.zeroValue9 rfl rfl rfl rfl (LCat.one rfl (LCat.one rfl (LCat.one rfl (LCat.one rfl LCat.none)))) ?_)
            intro b80 hb80
            refine J.y (yl_move rfl rfl) rfl rfl rfl ?_
            refine J.y (yl_move rfl rfl) rfl rfl rfl ?_
            refine J.y (yl_move rfl rfl) rfl rfl rfl ?_
            refine J.y (yl_lenSlice rfl rfl Tryz.underlying46) rfl rfl rfl ?_
            refine J.y (yl_rem rfl rfl rfl (by omega)) rfl rfl rfl ?_
            refine J.eqv 123 rfl (show _ = i64 ((k % lb.length : Nat) : Int) from (congrArg (Value.int .i64) (Int.ofNat_tmod k lb.length).symm)) ?_
            refine J.y (yl_indexAddr (off' := (off + k % lb.length)) rfl rfl rfl Tryz.underlying46 Tryz.sizeOf5 (by omega) (by omega) (by simp; omega)) rfl rfl rfl ?_
            refine J.y (yl_load rfl rfl Tryz.isAgg5 (Blk.imm hbl) (hcell _ x hgx)) rfl rfl rfl ?_
            refine J.y (yl_rem rfl rfl rfl (by omega)) rfl rfl rfl ?_
            refine J.eqv 126 rfl (show _ = .int .u8 ((x.toNat % 4 : Nat) : Int) from (congrArg (Value.int .u8) (Int.ofNat_tmod x.toNat 4).symm)) ?_
            refine J.y (yl_indexAddr (off' := (x.toNat % 4)) rfl rfl rfl Tryz.underlying44 Tryz.sizeOf9 (by omega) (by omega) (by simp; omega)) rfl rfl rfl ?_
            refine J.y (yl_load rfl rfl Tryz.isAgg9 (Blk.at 0 rfl) (idx_at (l := Cq.gaps4) hx4)) rfl rfl rfl ?_
            refine J.eqv 128 rfl (show _ = str (Cq.gapOf lb k) from (by rw [hgo])) ?_
            refine J.y (yl_assign rfl rfl) rfl rfl rfl ?_
            refine J.nil ?_
            refine Ej.seq ?_
            refine Cj.seq ?_
            refine Cj.keep (Keeps.d Keeps.r) ?_
            refine Cj.region ?_
            refine J.y (yl_move rfl rfl) rfl rfl rfl ?_
            refine J.y (yl_move rfl rfl) rfl rfl rfl ?_
            refine J.y (yl_cat rfl rfl rfl (by first | omega | (simp only [List.length_append]; omega) | (simp; omega))) rfl rfl rfl ?_
            refine J.y (yl_assign rfl rfl) rfl rfl rfl ?_
            refine J.nil ?_
            refine Ej.seq ?_
            refine Cj.seq ?_
            refine Cj.region ?_
            refine J.y (yl_move rfl rfl) rfl rfl rfl ?_
            refine J.y (yl_move rfl rfl) rfl rfl rfl ?_
            refine J.y (yl_lenStr rfl rfl Tryz.underlying9) rfl rfl rfl ?_
            refine J.op rfl (op_buildSlice rfl rfl rfl Tryz.underlying22 Tryz.sizeOf3 Tryz.zeroValue3 rfl rfl rfl rfl (LCat.one rfl LCat.none) ?_)
            intro b81 hb81
            refine J.swapG ?_
            refine J.op rfl (op_append (by' := 7) (_ :: gH _ _ _) rfl rfl rfl rfl rfl Tryz.underlying22 (.inr ⟨_, Tryz.underlying22⟩) (by kernel_rfl) Tryz.sizeOf3 Tryz.zeroValue3 rfl hg2 rfl (Src.slice (Blk.at 0 rfl) rfl rfl rfl) (by omega) ?_)
            intro g82 hg82
            refine J.y (yl_assign rfl rfl) rfl rfl rfl ?_
            refine J.nil ?_
            refine Ej.seq ?_
            refine Cj.region ?_
            refine J.y (yl_move rfl rfl) rfl rfl rfl ?_
            refine J.y (yl_move rfl rfl) rfl rfl rfl ?_
            refine J.y (yl_cat rfl rfl rfl (by first | omega | (simp only [List.length_append]; omega) | (simp; omega))) rfl rfl rfl ?_
            refine J.eqv 139 rfl (show _ = str (Cq.ux (Cq.gapOf lb) large (T.take (k + 1)) 0) from (by rw [Cq.ux_next hget])) ?_
            refine J.y (yl_assign rfl rfl) rfl rfl rfl ?_
            refine J.nil ?_
            refine Ej.blkNormal ?_
            refine Ej.seq ?_
            refine Cj.keep (Keeps.d Keeps.r) ?_
            refine Cj.region ?_
            refine J.y (yl_move rfl rfl) rfl rfl rfl ?_
            refine J.y (yl_add rfl rfl rfl (w64 (by omega))) rfl rfl rfl ?_
            refine J.y (yl_assign rfl rfl) rfl rfl rfl ?_
            refine J.nil ?_
            refine Ej.round ⟨k + 1, g78, g82⟩ ⟨by dsimp only; omega, hg78, hg82⟩ (by dsimp only; omega) ⟨rfl, rfl, rfl, rfl, rfl, rfl, rfl, rfl, rfl, trivial⟩ rfl rfl
          ·
            have hc79p := of_decide_eq_false hc79
            have hlb : lb = [] := List.length_eq_zero_iff.1 (by have := of_decide_eq_false hc79; omega)
            have hgo : Cq.gapOf lb k = [32] := by simp [Cq.gapOf, hlb]
            refine Cj.eqv 18 rfl (show _ = str (Cq.gapOf lb k) from (congrArg str hgo).symm) ?_
            refine Cj.skip ?_
            refine Ej.seq ?_
            refine Cj.seq ?_
            refine Cj.region ?_
            refine J.y (yl_move rfl rfl) rfl rfl rfl ?_
            refine J.y (yl_move rfl rfl) rfl rfl rfl ?_
            refine J.y (yl_cat rfl rfl rfl (by first | omega | (simp only [List.length_append]; omega) | (simp; omega))) rfl rfl rfl ?_
            refine J.y (yl_assign rfl rfl) rfl rfl rfl ?_
            refine J.nil ?_
            refine Ej.seq ?_
            refine Cj.seq ?_
            refine Cj.region ?_
            refine J.y (yl_move rfl rfl) rfl rfl rfl ?_
            refine J.y (yl_move rfl rfl) rfl rfl rfl ?_
            refine J.y (yl_lenStr rfl rfl Tryz.underlying9) rfl rfl rfl ?_
            refine J.op rfl (op_buildSlice rfl rfl rfl Tryz.underlying22 Tryz.sizeOf3 Tryz.zeroValue3 rfl rfl rfl rfl (LCat.one rfl LCat.none) ?_)
            intro b83 hb83
            refine J.swapG ?_
            refine J.op rfl (op_append (by' := 7) (_ :: gH _ _ _) rfl rfl rfl rfl rfl Tryz.underlying22 (.inr ⟨_, Tryz.underlying22⟩) (by kernel_rfl) Tryz.sizeOf3 Tryz.zeroValue3 rfl hg2 rfl (Src.slice (Blk.at 0 rfl) rfl rfl rfl) (by omega) ?_)
            intro g84 hg84
            refine J.y (yl_assign rfl rfl) rfl rfl rfl ?_
            refine J.nil ?_
            refine Ej.seq ?_
            refine Cj.region ?_
            refine J.y (yl_move rfl rfl) rfl rfl rfl ?_
            refine J.y (yl_move rfl rfl) rfl rfl rfl ?_
            refine J.y (yl_cat rfl rfl rfl (by first | omega | (simp only [List.length_append]; omega) | (simp; omega))) rfl rfl rfl ?_
            refine J.eqv 139 rfl (show _ = str (Cq.ux (Cq.gapOf lb) large (T.take (k + 1)) 0) from (by rw [Cq.ux_next hget])) ?_
            refine J.y (yl_assign rfl rfl) rfl rfl rfl ?_
            refine J.nil ?_
            refine Ej.blkNormal ?_
            refine Ej.seq ?_
            refine Cj.keep (Keeps.d Keeps.r) ?_
            refine Cj.region ?_
            refine J.y (yl_move rfl rfl) rfl rfl rfl ?_
            refine J.y (yl_add rfl rfl rfl (w64 (by omega))) rfl rfl rfl ?_
            refine J.y (yl_assign rfl rfl) rfl rfl rfl ?_
            refine J.nil ?_
            refine Ej.round ⟨k + 1, g78, g84⟩ ⟨by dsimp only; omega, hg78, hg84⟩ (by dsimp only; omega) ⟨rfl, rfl, rfl, rfl, rfl, rfl, rfl, rfl, rfl, trivial⟩ rfl rfl
  ·
    have hc6p := of_decide_eq_false hc6
    obtain rfl : k = T.length := by omega
    refine Cj.exit ?_
    refine Ej.seqExit ?_
    refine Ej.loopExit ?_
    refine Ej.blkExit ?_
    refine Ej.seq ?_
    refine Cj.seq ?_
    obtain ⟨ba, ca, sa, rfl, hba⟩ := hg1.some hTn
    obtain ⟨bb, cb, sb, rfl, hbb⟩ := hg2.some hTn
    refine Cj.eqv 11 rfl (show _ = .slice (some ⟨ba, 0, none⟩) T.length ca from rfl) ?_
    refine Cj.eqv 12 rfl (show _ = .slice (some ⟨bb, 0, none⟩) T.length cb from rfl) ?_
    refine Cj.persist hba (fun I86 hle85 hbai => ?_)
    have ht := ht.mono hle85
    have hl := hl.mono hle85
    have hmem := hmem.mono hle85
    have hbt := hle85 _ _ hbt
    refine Cj.persist hbb (fun I88 hle87 hbbi => ?_)
    have ht := ht.mono hle87
    have hl := hl.mono hle87
    have hmem := hmem.mono hle87
    have hbt := hle87 _ _ hbt
    have hbai := hle87 _ _ hbai
    refine Cj.region ?_
    refine J.y (yl_move rfl rfl) rfl rfl rfl ?_
    refine J.eqv 141 rfl (show _ = str (Cq.sx T) from (by rw [List.take_length])) ?_
    refine J.op rfl (op_call (H1 := []) rfl rfl rfl rfl rfl (cParse_at (Cq.sx T) (by omega) q1 i1 e1 hp1 _ ht) ?_ (fun _ _ _ _ h => by obtain ⟨⟨_, _, h, _⟩, _⟩ := h; cases h) (fun _ _ h => by obtain ⟨⟨_, _, h, _⟩, _⟩ := h; cases h))
    intro v89 I90 H91 hle92 hp93
    have ht := ht.mono hle92
    have hl := hl.mono hle92
    have hmem := hmem.mono hle92
    have hbt := hle92 _ _ hbt
    have hbai := hle92 _ _ hbai
    have hbbi := hle92 _ _ hbbi
    obtain ⟨⟨p1, c1, h, hps1⟩, rfl⟩ := hp93; cases h
    refine J.y (yl_move rfl rfl) rfl rfl rfl ?_
    refine J.y (yl_extract rfl rfl rfl) rfl rfl rfl ?_
    refine J.y (yl_extract rfl rfl rfl) rfl rfl rfl ?_
    refine J.y (yl_extract rfl rfl rfl) rfl rfl rfl ?_
    refine J.op rfl (op_alloc rfl rfl rfl Tryz.zeroValue28 rfl ?_)
    intro b94 hb94
    refine J.op rfl (op_store 0 rfl rfl rfl rfl rfl rfl Tryz.sizeOf28 rfl rfl (LSpl.c (LSpl.c (LSpl.c (LSpl.c (LSpl.c LSpl.z))))) LSet.z ?_)
    refine J.y (yl_assign rfl rfl) rfl rfl rfl ?_
    refine J.y (yl_assign rfl rfl) rfl rfl rfl ?_
    refine J.nil ?_
    refine Ej.seq ?_
    refine Cj.seq ?_
    refine Cj.region ?_
    refine J.y (yl_move rfl rfl) rfl rfl rfl ?_
    refine J.eqv 147 rfl (show _ = str (Cq.ux (Cq.gapOf lb) large T 0) from (by rw [List.take_length])) ?_
    refine J.op rfl (op_call (H1 := []) rfl rfl rfl rfl rfl (cParse_at (Cq.ux (Cq.gapOf lb) large T 0) (by omega) q2 i2 e1 hp2 _ ht) ?_ (fun _ _ _ _ h => by obtain ⟨⟨_, _, h, _⟩, _⟩ := h; cases h) (fun _ _ h => by obtain ⟨⟨_, _, h, _⟩, _⟩ := h; cases h))
    intro v95 I96 H97 hle98 hp99
    have ht := ht.mono hle98
    have hl := hl.mono hle98
    have hmem := hmem.mono hle98
    have hbt := hle98 _ _ hbt
    have hbai := hle98 _ _ hbai
    have hbbi := hle98 _ _ hbbi
    have hps1 := hps1.mono hle98
    obtain ⟨⟨p2, c2, h, hps2⟩, rfl⟩ := hp99; cases h
    refine J.y (yl_move rfl rfl) rfl rfl rfl ?_
    refine J.y (yl_extract rfl rfl rfl) rfl rfl rfl ?_
    refine J.y (yl_extract rfl rfl rfl) rfl rfl rfl ?_
    refine J.y (yl_extract rfl rfl rfl) rfl rfl rfl ?_
    refine J.op rfl (op_alloc rfl rfl rfl Tryz.zeroValue28 rfl ?_)
    intro b100 hb100
    refine J.op rfl (op_store 0 rfl rfl rfl rfl rfl rfl Tryz.sizeOf28 rfl rfl (LSpl.c (LSpl.c (LSpl.c (LSpl.c (LSpl.c LSpl.z))))) LSet.z ?_)
    refine J.y (yl_assign rfl rfl) rfl rfl rfl ?_
    refine J.y (yl_assign rfl rfl) rfl rfl rfl ?_
    refine J.nil ?_
    refine Ej.seq ?_
    refine Cj.seq ?_
    refine Cj.seq ?_
    refine Cj.region ?_
    refine J.y (yl_move rfl rfl) rfl rfl rfl ?_
    refine J.y (yl_move rfl rfl) rfl rfl rfl ?_
    refine J.y (yl_neq rfl rfl rfl) rfl rfl rfl ?_
    refine J.eqv 154 rfl (show _ = .bool false from (congrArg Value.bool (bne_self_eq_false _))) ?_
    refine J.nil ?_
    refine Ej.seq ?_
    refine Cj.cond rfl (fun hc101 => Bool.noConfusion (Eq.trans (Eq.symm rfl) hc101)) (fun hc101 => ?_)
    refine Cj.skip ?_
    refine Ej.seq ?_
    refine Cj.seq ?_
    refine Cj.seq ?_
    refine Cj.region ?_
    refine J.y (yl_move rfl rfl) rfl rfl rfl ?_
    refine J.y (yl_eql rfl rfl rfl) rfl rfl rfl ?_
    refine J.nil ?_
    refine Ej.seq ?_
    refine Cj.cond rfl (fun hc102 => ?_) (fun hc102 => ?_)
    ·
      have hc102p := eq_of_beq hc102
      have he0 : e1 = 0 := by have := eq_of_beq hc102; omega
      have hr1 := Cq.right_of (r1 he0).1
      have hr2 := Cq.right_of (r2 he0).1
      have hpr1 : Cq.print q1 = Cq.write q1 := by unfold Cq.print; rw [if_pos (r1 he0).1]
      have hpr2 : Cq.print q2 = Cq.write q2 := by unfold Cq.print; rw [if_pos (r2 he0).1]
      have hsm := hlaw1 he0
      refine Cj.seq ?_
      refine Cj.drawSel [0, 1] [] 11 (by kernel_rfl) ?_
      have hbt_37 := hbt
      have hbai_37 := hbai
      have hbbi_37 := hbbi
      refine JA.take 0 rfl rfl (by kernel_rfl) (by kernel_rfl) (by kernel_rfl) (fun _ _ _ h => h) rfl rfl rfl (HSub.c 0 rfl (HSub.c 1 rfl HSub.n)) CSub.n (Le.refl _) (yl_move rfl rfl) ?_
      refine JA.take 1 rfl rfl (by kernel_rfl) (by kernel_rfl) (by kernel_rfl) (fun _ _ _ h => h) rfl rfl rfl (HSub.c 0 rfl (HSub.c 1 rfl HSub.n)) CSub.n (Le.refl _) (yl_move rfl rfl) ?_
      refine JA.takeG 2 1 158 true _ rfl rfl (by kernel_rfl) (by kernel_rfl) (by kernel_rfl) (fun _ _ _ h => h) rfl rfl rfl rfl rfl rfl (HSub.c 0 rfl (HSub.c 1 rfl HSub.n)) CSub.n (Le.refl _) (yl_loadAgg rfl rfl Tryz.isAgg28 Tryz.sizeOf28 (Blk.atC 1 rfl) rfl rfl) ?_
      refine JA.takeG 5 1 158 true _ rfl rfl (by kernel_rfl) (by kernel_rfl) (by kernel_rfl) (fun _ _ _ h => h) rfl rfl rfl rfl rfl rfl (HSub.c 0 rfl (HSub.c 1 rfl HSub.n)) CSub.n (Le.refl _) (yl_loadAgg rfl rfl Tryz.isAgg28 Tryz.sizeOf28 (Blk.atC 0 rfl) rfl rfl) ?_
      refine JA.stepG 3 1 158 true _ (by kernel_rfl) rfl rfl rfl rfl rfl (op_pure rfl rfl rfl rfl rfl (cPrint_ok q1 p1 c1 (by omega) (by omega) z3 _ hps1) ?_)
      refine ⟨⟨(Le.refl _), (HSub.c 0 rfl (HSub.c 1 rfl HSub.n)), CSub.n⟩, ?_⟩
      refine JA.eqv 160 rfl (show _ = str (Cq.write q1) from (by rw [hpr1])) ?_
      refine JA.stepG 4 1 158 true _ (by kernel_rfl) rfl rfl rfl rfl rfl (op_pure rfl rfl rfl rfl rfl (Small_ok (Cq.write q1) (by have := z3 hr1.1; omega) _) ?_)
      refine ⟨⟨(Le.refl _), (HSub.c 0 rfl (HSub.c 1 rfl HSub.n)), CSub.n⟩, ?_⟩
      refine JA.stepG 6 1 158 true _ (by kernel_rfl) rfl rfl rfl rfl rfl (op_pure rfl rfl rfl rfl rfl (cPrint_ok q2 p2 c2 (by omega) (by omega) y3 _ hps2) ?_)
      refine ⟨⟨(Le.refl _), (HSub.c 0 rfl (HSub.c 1 rfl HSub.n)), CSub.n⟩, ?_⟩
      refine JA.eqv 163 rfl (show _ = str (Cq.write q2) from (by rw [hpr2])) ?_
      refine JA.stepG 7 1 158 true _ (by kernel_rfl) rfl rfl rfl rfl rfl (op_pure rfl rfl rfl rfl rfl (Small_ok (Cq.write q2) (by have := y3 hr2.1; omega) _) ?_)
      refine ⟨⟨(Le.refl _), (HSub.c 0 rfl (HSub.c 1 rfl HSub.n)), CSub.n⟩, ?_⟩
      refine JA.takeG 8 1 158 true _ rfl rfl (by kernel_rfl) (by kernel_rfl) (by kernel_rfl) (fun _ _ _ h => h) rfl rfl rfl rfl rfl rfl (HSub.c 0 rfl (HSub.c 1 rfl HSub.n)) CSub.n (Le.refl _) (yl_eqlStr rfl rfl rfl) ?_
      refine JA.eqv 165 rfl (show _ = .bool true from (congrArg Value.bool (by rw [hsm]; exact beq_self_eq_true _))) ?_
      refine JA.take 9 rfl rfl (by kernel_rfl) (by kernel_rfl) (by kernel_rfl) (fun _ _ _ h => h) rfl rfl rfl (HSub.c 0 rfl (HSub.c 1 rfl HSub.n)) CSub.n (Le.refl _) (yl_pick1 rfl rfl rfl rfl) ?_
      refine JA.take 10 rfl rfl (by kernel_rfl) (by kernel_rfl) (by kernel_rfl) (fun _ _ _ h => h) rfl rfl rfl (HSub.c 0 rfl (HSub.c 1 rfl HSub.n)) CSub.n (Le.refl _) (yl_assign rfl rfl) ?_
      refine JA.done (by kernel_rfl) ?_
      refine Ej.seq ?_
      refine Cj.ret ?_
      refine Ej.seqRet ?_
      refine Ej.bare ?_
      refine Ej.ret1 rfl rfl rfl ?_
      exact ⟨rfl, rfl⟩
    ·
      have hc102p := ne_of_beq_false hc102
      have he0 : e1 ≠ 0 := by have h := hc102; simp at h; omega
      obtain ⟨k0, t0, hT0, hi0, hj0⟩ := hlaw2 he0
      have hk0 : k0 < T.length := (List.getElem?_eq_some_iff.1 hT0).1
      refine Cj.skip ?_
      refine Ej.seq ?_
      refine Cj.seq ?_
      refine Cj.seq ?_
      refine Cj.region ?_
      refine J.y (yl_assign rfl rfl) rfl rfl rfl ?_
      refine J.nil ?_
      refine Ej.seq ?_
      refine Cj.block ?_
      refine Cj.keep (Keeps.d (Keeps.d Keeps.n)) ?_
      refine Cj.loop (ι := Nat) (fun n => n ≤ k0) (fun n => T.length - n) (fun n => [(7, .bool true), (8, .slice (some ⟨bt, 0, none⟩) T.length ct), (11, .slice (some ⟨ba, 0, none⟩) T.length ca), (12, .slice (some ⟨bb, 0, none⟩) T.length cb), (20, i64 (i1 : Nat)), (23, i64 (i2 : Nat)), (25, i64 (n : Int))]) (fun n => _) (fun n => []) 0 (Nat.zero_le _) ⟨rfl, rfl, rfl, rfl, rfl, rfl, rfl, trivial⟩ rfl rfl ?_
      intro n hn
      refine Cj.seq ?_
      refine Cj.seq ?_
      refine Cj.region ?_
      refine J.y (yl_move rfl rfl) rfl rfl rfl ?_
      refine J.y (yl_move rfl rfl) rfl rfl rfl ?_
      refine J.y (yl_lenSlice rfl rfl Tryz.underlying22) rfl rfl rfl ?_
      refine J.y (yl_lss rfl rfl rfl) rfl rfl rfl ?_
      refine J.nil ?_
      refine Ej.seq ?_
      refine Cj.cond rfl (fun hc103 => ?_) (fun hc103 => ?_)
      ·
        have hc103p := of_decide_eq_true hc103
        have hlt : n < T.length := by have := of_decide_eq_true hc103; omega
        obtain ⟨t, hget⟩ : ∃ t, T[n]? = some t := ⟨_, List.getElem?_eq_getElem hlt⟩
        have hdr : T.drop n = t :: T.drop (n + 1) := by
          obtain ⟨h1, h3⟩ := List.getElem?_eq_some_iff.1 hget
          rw [← h3]; exact List.drop_eq_getElem_cons h1
        refine Cj.skip ?_
        refine Ej.seq ?_
        refine Cj.seq ?_
        refine Cj.block ?_
        refine Cj.seq ?_
        refine Cj.region ?_
        refine J.y (yl_move rfl rfl) rfl rfl rfl ?_
        refine J.y (yl_move rfl rfl) rfl rfl rfl ?_
        refine J.y (yl_move rfl rfl) rfl rfl rfl ?_
        refine J.y (yl_indexAddr (off' := n) rfl rfl rfl Tryz.underlying22 Tryz.sizeOf3 (by omega) (by omega) (by simp)) rfl rfl rfl ?_
        refine J.y (yl_load rfl rfl Tryz.isAgg3 (Blk.imm hbbi) (movs_get hlt)) rfl rfl rfl ?_
        refine J.y (yl_eql rfl rfl rfl) rfl rfl rfl ?_
        refine J.y (yl_move rfl rfl) rfl rfl rfl ?_
        refine J.split 179 rfl (fun hg104 => ?_) (fun hg104 => ?_)
        ·
          refine J.opG 6 179 true _ rfl rfl rfl hg104 (op_yld (yl_move rfl rfl) rfl rfl ?_)
          refine J.opG 6 179 true _ rfl rfl rfl hg104 (op_yld (yl_move rfl rfl) rfl rfl ?_)
          refine J.opG 6 179 true _ rfl rfl rfl hg104 (op_yld (yl_move rfl rfl) rfl rfl ?_)
          refine J.opG 6 179 true _ rfl rfl rfl hg104 (op_yld (yl_indexAddr (off' := n) rfl rfl rfl Tryz.underlying22 Tryz.sizeOf3 (by omega) (by omega) (by simp)) rfl rfl ?_)
          refine J.opG 6 179 true _ rfl rfl rfl hg104 (op_yld (yl_load rfl rfl Tryz.isAgg3 (Blk.imm hbai) (offs_get hlt)) rfl rfl ?_)
          refine J.opG 6 179 true _ rfl rfl rfl hg104 (op_yld (yl_eql rfl rfl rfl) rfl rfl ?_)
          refine J.opG 6 179 true _ rfl rfl rfl hg104 (op_yld (yl_move rfl rfl) rfl rfl ?_)
          refine J.split 186 rfl (fun hg105 => ?_) (fun hg105 => ?_)
          ·
            refine J.skip 13 186 187 false _ rfl rfl rfl hg105 rfl rfl ?_
            refine J.skip 13 186 188 false _ rfl rfl rfl hg105 rfl rfl ?_
            refine J.skip 13 186 189 false _ rfl rfl rfl hg105 rfl rfl ?_
            refine J.skip 13 186 190 false _ rfl rfl rfl hg105 rfl rfl ?_
            refine J.skip 13 186 191 false _ rfl rfl rfl hg105 rfl rfl ?_
            refine J.skip 13 186 192 false _ rfl rfl rfl hg105 rfl rfl ?_
            refine J.opG 6 179 true _ rfl rfl rfl hg104 (op_yld (yl_pick1 rfl rfl hg105 rfl) rfl rfl ?_)
            refine J.y (yl_pick1 rfl rfl hg104 rfl) rfl rfl rfl ?_
            refine J.nil ?_
            refine Ej.seq ?_
            refine Cj.cond rfl (fun hc106 => ?_) (fun hc106 => Bool.noConfusion (Eq.trans (Eq.symm rfl) hc106))
            refine Cj.seq ?_
            refine Cj.region ?_
            refine J.y (yl_move rfl rfl) rfl rfl rfl ?_
            refine J.y (yl_assign rfl rfl) rfl rfl rfl ?_
            refine J.nil ?_
            refine Ej.seq ?_
            refine Cj.ret ?_
            refine Ej.blkRet ?_
            refine Ej.seqRet ?_
            refine Ej.loopRet ?_
            refine Ej.blkRet ?_
            refine Ej.seqRet ?_
            refine Ej.ret1 rfl rfl rfl ?_
            exact ⟨rfl, rfl⟩
          ·
            refine J.opG 13 186 false _ rfl rfl rfl hg105 (op_yld (yl_move rfl rfl) rfl rfl ?_)
            refine J.opG 13 186 false _ rfl rfl rfl hg105 (op_yld (yl_move rfl rfl) rfl rfl ?_)
            refine J.opG 13 186 false _ rfl rfl rfl hg105 (op_yld (yl_indexAddr (off' := n * 3) rfl rfl rfl Tryz.underlying47 Tryz.sizeOf50 (by omega) (by omega) (by simp)) rfl rfl ?_)
            refine J.opG 13 186 false _ rfl rfl rfl hg105 (op_yld (yl_fieldAddr rfl rfl Tryz.underlying50 rfl Tryz.sizeOf3 rfl) rfl rfl ?_)
            refine J.opG 13 186 false _ rfl rfl rfl hg105 (op_yld (yl_load rfl rfl Tryz.isAgg3 (Blk.imm hbt) (by simpa [Cq.tokC] using tok_cell hdr 0 (by omega))) rfl rfl ?_)
            refine J.opG 13 186 false _ rfl rfl rfl hg105 (op_yld (yl_eql rfl rfl rfl) rfl rfl ?_)
            refine J.opG 6 179 true _ rfl rfl rfl hg104 (op_yld (yl_pick0 rfl rfl hg105 rfl) rfl rfl ?_)
            refine J.y (yl_pick1 rfl rfl hg104 rfl) rfl rfl rfl ?_
            refine J.nil ?_
            refine Ej.seq ?_
            refine Cj.cond rfl (fun hc107 => ?_) (fun hc107 => ?_)
            ·
              have hc107p := eq_of_beq hc107
              refine Cj.seq ?_
              refine Cj.region ?_
              refine J.y (yl_move rfl rfl) rfl rfl rfl ?_
              refine J.y (yl_assign rfl rfl) rfl rfl rfl ?_
              refine J.nil ?_
              refine Ej.seq ?_
              refine Cj.ret ?_
              refine Ej.blkRet ?_
              refine Ej.seqRet ?_
              refine Ej.loopRet ?_
              refine Ej.blkRet ?_
              refine Ej.seqRet ?_
              refine Ej.ret1 rfl rfl rfl ?_
              exact ⟨rfl, rfl⟩
            ·
              have hc107p := ne_of_beq_false hc107
              refine Cj.skip ?_
              refine Ej.blkNormal ?_
              refine Ej.seq ?_
              have hne : n ≠ k0 := by
                intro he
                subst he
                rw [hget] at hT0
                cases hT0
                · have h1 := hg105
                  have h2 := hc107
                  simp at h1 h2
                  rcases hi0 with hi0 | hi0
                  · exact h2 (by omega)
                  · exact h1 (by rw [hi0])
              refine Cj.region ?_
              refine J.y (yl_move rfl rfl) rfl rfl rfl ?_
              refine J.y (yl_add rfl rfl rfl (w64 (by omega))) rfl rfl rfl ?_
              refine J.y (yl_assign rfl rfl) rfl rfl rfl ?_
              refine J.nil ?_
              refine Ej.round (n + 1) (by omega) (by omega) ⟨rfl, rfl, rfl, rfl, rfl, rfl, rfl, trivial⟩ rfl rfl
        ·
          refine J.skip 6 179 180 true _ rfl rfl rfl hg104 rfl rfl ?_
          refine J.skip 6 179 181 true _ rfl rfl rfl hg104 rfl rfl ?_
          refine J.skip 6 179 182 true _ rfl rfl rfl hg104 rfl rfl ?_
          refine J.skip 6 179 183 true _ rfl rfl rfl hg104 rfl rfl ?_
          refine J.skip 6 179 184 true _ rfl rfl rfl hg104 rfl rfl ?_
          refine J.skip 6 179 185 true _ rfl rfl rfl hg104 rfl rfl ?_
          refine J.skip 6 179 186 true _ rfl rfl rfl hg104 rfl rfl ?_
          refine J.skipU 13 186 187 false rfl rfl rfl rfl rfl ?_
          refine J.skipU 13 186 188 false rfl rfl rfl rfl rfl ?_
          refine J.skipU 13 186 189 false rfl rfl rfl rfl rfl ?_
          refine J.skipU 13 186 190 false rfl rfl rfl rfl rfl ?_
          refine J.skipU 13 186 191 false rfl rfl rfl rfl rfl ?_
          refine J.skipU 13 186 192 false rfl rfl rfl rfl rfl ?_
          refine J.skip 6 179 193 true _ rfl rfl rfl hg104 rfl rfl ?_
          refine J.y (yl_pick0 rfl rfl hg104 rfl) rfl rfl rfl ?_
          refine J.nil ?_
          refine Ej.seq ?_
          refine Cj.cond rfl (fun hc108 => Bool.noConfusion (Eq.trans (Eq.symm rfl) hc108)) (fun hc108 => ?_)
          refine Cj.skip ?_
          refine Ej.blkNormal ?_
          refine Ej.seq ?_
          have hne : n ≠ k0 := by
            intro he
            subst he
            rw [hget] at hT0
            cases hT0
            · have h := hg104
              simp at h
              exact h (by omega)
          refine Cj.region ?_
          refine J.y (yl_move rfl rfl) rfl rfl rfl ?_
          refine J.y (yl_add rfl rfl rfl (w64 (by omega))) rfl rfl rfl ?_
          refine J.y (yl_assign rfl rfl) rfl rfl rfl ?_
          refine J.nil ?_
          refine Ej.round (n + 1) (by omega) (by omega) ⟨rfl, rfl, rfl, rfl, rfl, rfl, rfl, trivial⟩ rfl rfl
      ·
        have hc103p := of_decide_eq_false hc103
        exact absurd hk0 (by omega)

end Go.Proofs.YtlfpehljahgbkaaGreatDoor
