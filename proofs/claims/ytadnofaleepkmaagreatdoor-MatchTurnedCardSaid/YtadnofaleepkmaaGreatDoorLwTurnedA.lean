/-
  The law MatchTurned. Own text, printed by a program. Conditions: none.
-/
import Derived.Test.YtadnofaleepkmaaGreatDoorPA11
import Derived.Test.YtadnofaleepkmaaGreatDoorPA12
import Derived.Test.YtadnofaleepkmaaGreatDoorPrLA
namespace Go.Proofs.YtadnofaleepkmaaGreatDoor
open Go Go.Sx
theorem any_next2 {α : Type} {l : List α} {k : Nat} {x : α} (f : α → Bool) (h : l[k]? = some x) : (l.take (k + 1)).any f = ((l.take k).any f || f x) := by
  obtain ⟨hlt, hg⟩ := List.getElem?_eq_some_iff.1 h
  rw [List.take_succ_eq_append_getElem hlt, hg, List.any_append]; simp
theorem rev_at {rs : List Rc} {k : Nat} (hk : k < rs.length) {r : Rc} (h : rs[rs.length - 1 - k]? = some r) : rs.reverse.take (k + 1) = rs.reverse.take k ++ [r] := by
  have h1 : rs.reverse[k]? = some r := by rw [List.getElem?_reverse hk]; exact h
  obtain ⟨hlt, hg⟩ := List.getElem?_eq_some_iff.1 h1
  rw [List.take_succ_eq_append_getElem hlt, hg]
theorem rev_getD {rs : List Rc} {i : Nat} (hi : i < rs.length) : rs.reverse.getD i zr = rs.getD (rs.length - 1 - i) zr := by
  rw [List.getD, List.getD, List.getElem?_reverse hi]
theorem turn_ks (rs : List Rc) : ∀ i, i < rs.length → ksOf rs.reverse i = ksOf rs (rs.length - 1 - i) := fun i hi => by unfold ksOf; rw [rev_getD hi]
theorem turn_sm (rs : List Rc) : ∀ i j, i < rs.length → j < rs.length → smOf rs.reverse i j = smOf rs (rs.length - 1 - j) (rs.length - 1 - i) := fun i j hi hj => by
  unfold smOf ftOf
  rw [rev_getD hi, rev_getD hj, Ke.pts_comm]
theorem turn_mem {rs : List Rc} {a b : Nat} (h : (a, b) ∈ pairsN rs) : (rs.length - 1 - b, rs.length - 1 - a) ∈ pairsN rs.reverse := by
  have := Kq.tgt_turn (turn_ks rs) (turn_sm rs) h
  unfold pairsN
  rw [List.length_reverse]; exact this
theorem turn_long (rs : List Rc) : (pairsN rs).length = (pairsN rs.reverse).length := by
  have := Kq.turn_len (turn_ks rs) (turn_sm rs)
  unfold pairsN
  rw [List.length_reverse]; exact this
theorem pairs_lt {rs : List Rc} {a b : Nat} (h : (a, b) ∈ pairsN rs) : a < b ∧ b < rs.length := by
  obtain ⟨h1, h2, -, -⟩ := (Kq.tgt_mem _ _ _ a b).1 h
  exact ⟨h1, h2⟩
theorem found_all {rs : List Rc} {a b : Nat} (h : (a, b) ∈ pairsN rs) : ((pairsN rs.reverse).any fun z => cst z == ((rs.length : Int) - 1 - (b : Int), (rs.length : Int) - 1 - (a : Int))) = true := by
  obtain ⟨h1, h2⟩ := pairs_lt h
  refine List.any_eq_true.2 ⟨_, turn_mem h, ?_⟩
  rw [beq_iff_eq]
  unfold cst
  simp only [Prod.mk.injEq]
  omega
set_option maxRecDepth 20000 in
set_option maxHeartbeats 1000000 in
theorem MatchTurned_ok (qs : List Ke.Six) (hqs : ∀ q ∈ qs, SixOk q) (v : Value) (I : Heap) (hQ : RowS sixC I qs v) : Pure Tryz.prog 9 [v] I (.bool true) := by
 refine Ctr.toPure ?_
 refine Ctr.of_body Tryz.func9 rfl (by decide) (Nat.le_of_ble_eq_true rfl) ?_
 intro w0 hw0
 refine Cj.seq (Cj.region (J.z (yl_assign rfl rfl) ?_))
 refine J.nil (Ej.seq (Cj.seq (Cj.region (J.op rfl (op_pure rfl rfl rfl rfl rfl (sanity_ok _) ?_)))))
 refine J.z (yl_assign rfl rfl) ?_
 refine J.nil (Ej.seq (Cj.seq (Cj.region (J.z (yl_move rfl rfl) ?_))))
 refine J.op rfl (op_call (H1 := []) rfl rfl rfl rfl rfl (records_ok qs hqs _ _ hQ) ?_ (fun _ _ _ _ h => by obtain ⟨_, _, h, _⟩ := h; cases h) (fun _ _ h => by obtain ⟨_, _, h, _⟩ := h; cases h))
 intro v1 I2 H3 hle4 hp5
 have hQ := hQ.mono hle4
 obtain ⟨rs, w, h, hrs, h25, hok, rfl⟩ := hp5; cases h
 refine J.z (yl_assign rfl rfl) ?_
 refine J.nil (Ej.seq (Cj.seq ?_))
 obtain ⟨p, c, rfl, hc, -⟩ := id hrs.1
 refine Cj.region (J.z (yl_move rfl rfl) ?_)
 refine J.z (yl_lenSlice rfl rfl Tryz.underlying50) ?_
 refine J.z (yl_assign rfl rfl) ?_
 refine J.nil (Ej.seq (Cj.seq (Cj.region (J.z (yl_assign rfl rfl) ?_))))
 refine J.nil (Ej.seq (Cj.seq (Cj.seq (Cj.region (J.z (yl_move rfl rfl) ?_)))))
 refine J.z (yl_sub rfl rfl rfl (w64 (by omega))) ?_
 refine J.z (yl_assign rfl rfl) ?_
 refine J.nil (Ej.seq (Cj.block (Cj.loop (ι := Nat × Gs) (fun y => y.1 ≤ rs.length ∧ gOk w0.heap.size 3 (rs.reverse.take y.1).length ((rs.reverse.take y.1).flatMap rcC) y.2) (fun y => rs.length - y.1) (fun y => [(3, .bool true), (4, .slice p rs.length c), (5, i64 (rs.length : Int)), (6, gV (rs.reverse.take y.1).length y.2), (7, i64 ((rs.length : Int) - 1 - (y.1 : Int)))]) (fun y => _) (fun y => gH 26 ((rs.reverse.take y.1).flatMap rcC) y.2) (0, none) ⟨Nat.zero_le _, rfl, rfl⟩ ⟨rfl, rfl, rfl, rfl, (congrArg (fun n => some (i64 n)) (Int.sub_zero _).symm), trivial⟩ rfl rfl ?_)))
 rintro ⟨k, g⟩ ⟨hk, hg⟩
 dsimp only at hk hg ⊢
 have hrl : (rs.reverse.take k).length ≤ 25 := by rw [List.length_take, List.length_reverse]; omega
 refine Cj.seq (Cj.seq (Cj.region (J.z (yl_move rfl rfl) ?_)))
 refine J.z (yl_geq rfl rfl rfl) ?_
 refine J.nil (Ej.seq (Cj.cond rfl (fun hc6 => ?_) (fun hc6 => ?_)))
 ·
  have hc6p := of_decide_eq_true hc6
  have hlt : rs.length - 1 - k < rs.length := by omega
  obtain ⟨r, hget⟩ : ∃ r, rs[rs.length - 1 - k]? = some r := ⟨_, List.getElem?_eq_getElem hlt⟩
  have hR := hrs.2 r (List.mem_of_getElem? hget)
  obtain ⟨rp, rcp, hrv, -, -⟩ := id hR.1
  obtain ⟨⟨pp, pc, hpe, hpc, hpp⟩, -⟩ := id hrs
  cases hpe
  obtain ⟨pb, po, pcs, pty, pfr, psp, rfl, hpb, hpd⟩ := hpp (ne_nil_of hlt)
  refine Cj.skip (Ej.seq (Cj.seq (Cj.block (Cj.region (J.z (yl_move rfl rfl) ?_)))))
  refine J.z (yl_move rfl rfl) ?_
  refine J.z (yl_move rfl rfl) ?_
  refine J.z (yl_indexAddr (off' := po + (rs.length - 1 - k) * 3) rfl rfl rfl Tryz.underlying50 Tryz.sizeOf26 (by omega) (by omega) (by rw [show ((rs.length : Int) - 1 - (k : Int)).toNat = rs.length - 1 - k by omega])) ?_
  refine J.z (yl_loadAgg rfl rfl Tryz.isAgg26 Tryz.sizeOf26 (Blk.imm hpb) (row_from rcC_len hpd hget) rfl) ?_
  refine J.op rfl (op_buildSlice rfl rfl rfl Tryz.underlying50 Tryz.sizeOf26 Tryz.zeroValue26 rfl rfl rfl rfl (LCat.agg rfl LCat.none) ?_)
  intro b7 hb7
  refine J.op rfl (op_append (by' := 31) [_] rfl rfl rfl rfl rfl Tryz.underlying50 (.inr ⟨_, Tryz.underlying50⟩) (by kernel_rfl) Tryz.sizeOf26 Tryz.zeroValue26 rfl hg rfl (Src.slice (Blk.at 0 rfl) rfl rfl (rcC_one hrv)) (by omega) ?_)
  intro g8 hg8
  refine J.z (yl_assign rfl rfl) ?_
  refine J.nil (Ej.blkNormal (Ej.seq (Cj.region (J.z (yl_move rfl rfl) ?_))))
  refine J.z (yl_sub rfl rfl rfl (w64 (by omega))) ?_
  refine J.z (yl_assign rfl rfl) ?_
  refine J.nil (Ej.keep (Keeps.d Keeps.r) ?_)
  refine Ej.round (k + 1, g8) ⟨by dsimp only; omega, by dsimp only; rw [rev_at (by omega) hget, List.length_append, List.flatMap_append]; exact hg8⟩ (by dsimp only; omega) ⟨rfl, rfl, rfl, by dsimp only; rw [rev_at (by omega) hget]; exact congrArg (fun n => some (gV n g8)) (len_one _ _).symm, (by dsimp only; exact congrArg (fun n => some (i64 n)) (by omega)), trivial⟩ rfl (by dsimp only; rw [rev_at (by omega) hget, List.flatMap_append]; rfl)
 ·
  have hc6p := of_decide_eq_false hc6
  refine Cj.exit (Ej.seqExit (Ej.loopExit (Ej.blkExit (Ej.seq (Cj.seq ?_)))))
  have hkn : rs.reverse.take k = rs.reverse := List.take_of_length_le (by rw [List.length_reverse]; omega)
  rw [hkn] at hg
  rw [hkn]
  rw [show gH _ (rs.reverse.flatMap rcC) g = gH _ (rs.reverse.flatMap rcC) g ++ [] from (List.append_nil _).symm]
  refine Cj.keepR rcC_len (by decide) hg rfl (fun I9 hle9 hv9 => ?_)
  have hQ := hQ.mono hle9
  have hrs := hrs.mono hle9
  have hrv2 : RecsS I9 rs.reverse (gV rs.reverse.length g) := ⟨hv9, fun r hr => hrs.2 r (List.mem_reverse.1 hr)⟩
  have hok2 : ∀ r ∈ rs.reverse, ROK r := fun r hr => hok r (List.mem_reverse.1 hr)
  have hl2 : rs.reverse.length ≤ 25 := by rw [List.length_reverse]; exact h25
  have hpsz := pairs_len0 rs (by omega)
  have hlen := turn_long rs
  refine Cj.region (J.z (yl_move rfl rfl) ?_)
  refine J.op rfl (op_call (H1 := []) rfl rfl rfl rfl rfl (Pairs_ok rs (by omega) hok _ _ hrs) ?_ (fun _ _ _ _ h => by obtain ⟨_, h, _⟩ := h; cases h) (fun _ _ h => by obtain ⟨_, h, _⟩ := h; cases h))
  intro v9 I10 H11 hle12 hp13
  have hQ := hQ.mono hle12
  have hrs := hrs.mono hle12
  have hrv2 := hrv2.mono hle12
  obtain ⟨vhp1, h, hp1, rfl⟩ := hp13; cases h
  refine J.z (yl_assign rfl rfl) ?_
  refine J.nil (Ej.seq (Cj.seq (Cj.region (J.z (yl_move rfl rfl) ?_))))
  refine J.op rfl (op_call (H1 := []) rfl rfl rfl rfl rfl (Pairs_ok rs.reverse (by omega) hok2 _ _ hrv2) ?_ (fun _ _ _ _ h => by obtain ⟨_, h, _⟩ := h; cases h) (fun _ _ h => by obtain ⟨_, h, _⟩ := h; cases h))
  intro v14 I15 H16 hle17 hp18
  have hQ := hQ.mono hle17
  have hrs := hrs.mono hle17
  have hrv2 := hrv2.mono hle17
  have hp1 := hp1.mono hle17
  obtain ⟨vhp2, h, hp2, rfl⟩ := hp18; cases h
  refine J.z (yl_assign rfl rfl) ?_
  refine J.nil (Ej.seq (Cj.seq (Cj.seq ?_)))
  obtain ⟨p1, c1, rfl, hc1, -⟩ := id hp1
  obtain ⟨p2, c2, rfl, hc2, -⟩ := id hp2
  refine Cj.region (J.z (yl_assign rfl rfl) ?_)
  refine J.nil (Ej.seq (Cj.block (Cj.loop (ι := Nat) (fun i => i ≤ (pairsN rs).length) (fun i => (pairsN rs).length - i) (fun i => [(3, .bool true), (5, i64 (rs.length : Int)), (8, .slice p1 (pairsN rs).length c1), (9, .slice p2 (pairsN rs.reverse).length c2), (10, i64 (i : Int))]) (fun i => _) (fun i => []) 0 (Nat.zero_le _) ⟨rfl, rfl, rfl, rfl, rfl, trivial⟩ rfl rfl ?_)))
  rintro i hi
  refine Cj.seq (Cj.seq (Cj.region (J.z (yl_move rfl rfl) ?_)))
  refine J.z (yl_move rfl rfl) ?_
  refine J.z (yl_lenSlice rfl rfl Tryz.underlying53) ?_
  refine J.z (yl_lss rfl rfl rfl) ?_
  refine J.nil (Ej.seq (Cj.cond rfl (fun hc19 => ?_) (fun hc19 => ?_)))
  ·
   have hc19p := of_decide_eq_true hc19
   have hilt : i < (pairsN rs).length := by omega
   obtain ⟨⟨a, b⟩, hget⟩ : ∃ x, (pairsN rs)[i]? = some x := ⟨_, List.getElem?_eq_getElem hilt⟩
   have hmem := List.mem_of_getElem? hget
   obtain ⟨hab, hbn⟩ := pairs_lt hmem
   have hfa := found_all hmem
   obtain ⟨qp, qc, hqe, hqc, hqq⟩ := id hp1
   cases hqe
   obtain ⟨qb, qo, qcs, qty, qfr, qsp, rfl, hqb, hqd⟩ := hqq (ne_nil_of hilt)
   refine Cj.skip (Ej.seq (Cj.seq (Cj.block (Cj.seq (Cj.region (J.z (yl_assign rfl rfl) ?_))))))
   refine J.nil (Ej.seq (Cj.seq (Cj.seq (Cj.region (J.z (yl_assign rfl rfl) ?_)))))
   refine J.nil (Ej.seq (Cj.block (Cj.loop (ι := Nat × Bool) (fun y => y.1 ≤ (pairsN rs.reverse).length ∧ y.2 = (((pairsN rs.reverse).take y.1).any fun z => cst z == ((rs.length : Int) - 1 - (b : Int), (rs.length : Int) - 1 - (a : Int)))) (fun y => (pairsN rs.reverse).length - y.1) (fun y => [(3, .bool true), (5, i64 (rs.length : Int)), (8, .slice (some ⟨qb, qo, none⟩) (pairsN rs).length c1), (9, .slice p2 (pairsN rs.reverse).length c2), (10, i64 (i : Int)), (11, .bool y.2), (12, i64 (y.1 : Int))]) (fun y => _) (fun y => []) (0, false) ⟨Nat.zero_le _, rfl⟩ ⟨rfl, rfl, rfl, rfl, rfl, rfl, rfl, trivial⟩ rfl rfl ?_)))
   rintro ⟨k, fd⟩ ⟨hk, hfd⟩
   dsimp only at hk hfd ⊢
   refine Cj.seq (Cj.seq (Cj.region (J.z (yl_move rfl rfl) ?_)))
   refine J.z (yl_move rfl rfl) ?_
   refine J.z (yl_lenSlice rfl rfl Tryz.underlying53) ?_
   refine J.z (yl_lss rfl rfl rfl) ?_
   refine J.nil (Ej.seq (Cj.cond rfl (fun hc20 => ?_) (fun hc20 => ?_)))
   ·
    have hc20p := of_decide_eq_true hc20
    have hklt : k < (pairsN rs.reverse).length := by omega
    obtain ⟨z, hkget⟩ : ∃ x, (pairsN rs.reverse)[k]? = some x := ⟨_, List.getElem?_eq_getElem hklt⟩
    obtain ⟨tp, tc, hte, htc, htq⟩ := id hp2
    cases hte
    obtain ⟨tb, t0, tcs, tty, tfr, tsp, rfl, htb, htd⟩ := htq (ne_nil_of hklt)
    refine Cj.skip (Ej.seq (Cj.seq (Cj.block (Cj.drawSel [] [] 26 (by kernel_rfl) ?_))))
    refine JA.fix ⟨HSub.n, CSub.n, (Le.refl _)⟩ (fun fx21 => ?_)
    refine JA.tk 0 rfl fx21 (yl_move rfl rfl) ?_
    refine JA.tk 1 rfl fx21 (yl_move rfl rfl) ?_
    refine JA.split 48 rfl (fun hg22 => ?_) (fun hg22 => ?_)
    ·
     have hg48 := hg22
     refine JA.tkS 2 1 48 false _ rfl fx21 rfl rfl (.inl (congrArg Value.bool hg22)) ?_
     refine JA.tkS 3 1 48 false _ rfl fx21 rfl rfl (.inl (congrArg Value.bool hg22)) ?_
     refine JA.tkS 4 1 48 false _ rfl fx21 rfl rfl (.inl (congrArg Value.bool hg22)) ?_
     refine JA.tkS 5 1 48 false _ rfl fx21 rfl rfl (.inl (congrArg Value.bool hg22)) ?_
     refine JA.tkS 6 1 48 false _ rfl fx21 rfl rfl (.inl (congrArg Value.bool hg22)) ?_
     refine JA.tkS 7 1 48 false _ rfl fx21 rfl rfl (.inl (congrArg Value.bool hg22)) ?_
     refine JA.tkS 8 1 48 false _ rfl fx21 rfl rfl (.inl (congrArg Value.bool hg22)) ?_
     refine JA.tkS 9 1 48 false _ rfl fx21 rfl rfl (.inl (congrArg Value.bool hg22)) ?_
     refine JA.tkS 10 1 48 false _ rfl fx21 rfl rfl (.inl (congrArg Value.bool hg22)) ?_
     refine JA.tkS 11 1 48 false _ rfl fx21 rfl rfl (.inl (congrArg Value.bool hg22)) ?_
     refine JA.tkS 12 1 48 false _ rfl fx21 rfl rfl (.inl (congrArg Value.bool hg22)) ?_
     refine JA.tkS 13 1 48 false _ rfl fx21 rfl rfl (.inl (congrArg Value.bool hg22)) ?_
     refine JA.tkS 14 1 48 false _ rfl fx21 rfl rfl (.inl (congrArg Value.bool hg22)) ?_
     refine JA.tkS 15 1 48 false _ rfl fx21 rfl rfl (.inl (congrArg Value.bool hg22)) ?_
     refine JA.tkS 16 1 48 false _ rfl fx21 rfl rfl (.inl (congrArg Value.bool hg22)) ?_
     refine JA.tkS 17 1 48 false _ rfl fx21 rfl rfl (.inl (congrArg Value.bool hg22)) ?_
     refine JA.tkS 18 1 48 false _ rfl fx21 rfl rfl (.inl (congrArg Value.bool hg22)) ?_
     refine JA.tkS 19 1 48 false _ rfl fx21 rfl rfl (.inl (congrArg Value.bool hg22)) ?_
     refine JA.tkS 20 1 48 false _ rfl fx21 rfl rfl (.inl (congrArg Value.bool hg22)) ?_
     refine JA.tkS 21 1 48 false _ rfl fx21 rfl rfl (.inl (congrArg Value.bool hg22)) ?_
     refine JA.tkS 22 1 48 false _ rfl fx21 rfl rfl (.inl (congrArg Value.bool hg22)) ?_
     refine JA.tkS 23 1 48 false _ rfl fx21 rfl rfl (.inl (congrArg Value.bool hg22)) ?_
     refine JA.tk 24 rfl fx21 (yl_pick1 rfl rfl hg22 rfl) ?_
     refine JA.tk 25 rfl fx21 (yl_assign rfl rfl) ?_
     refine JA.done (by kernel_rfl) ?_
     refine Ej.blkNormal (Ej.seq (Cj.region (J.z (yl_move rfl rfl) ?_)))
     refine J.z (yl_add rfl rfl rfl (w64 (by omega))) ?_
     refine J.z (yl_assign rfl rfl) ?_
     refine J.nil (Ej.round (k + 1, true) ⟨by dsimp only; omega, by dsimp only; rw [any_next2 _ hkget, ← hfd, hg48, Bool.true_or]⟩ (by dsimp only; omega) ⟨rfl, rfl, rfl, rfl, rfl, rfl, rfl, trivial⟩ rfl rfl)
    ·
     have hg48 := hg22
     refine JA.tkG 2 1 48 false _ rfl fx21 rfl rfl hg22 (yl_move rfl rfl) ?_
     refine JA.tkG 3 1 48 false _ rfl fx21 rfl rfl hg22 (yl_move rfl rfl) ?_
     refine JA.tkG 4 1 48 false _ rfl fx21 rfl rfl hg22 (yl_indexAddr (off' := t0 + k * 2) rfl rfl rfl Tryz.underlying53 Tryz.sizeOf56 (by omega) (by omega) (by simp)) ?_
     refine JA.tkG 5 1 48 false _ rfl fx21 rfl rfl hg22 (yl_loadAgg rfl rfl Tryz.isAgg56 Tryz.sizeOf56 (Blk.immC htb) (row_from twoN_len htd hkget) rfl) ?_
     refine JA.tkG 6 1 48 false _ rfl fx21 rfl rfl hg22 (yl_move rfl rfl) ?_
     refine JA.tkG 7 1 48 false _ rfl fx21 rfl rfl hg22 (yl_sub rfl rfl rfl (w64 (by omega))) ?_
     refine JA.tkG 8 1 48 false _ rfl fx21 rfl rfl hg22 (yl_move rfl rfl) ?_
     refine JA.tkG 9 1 48 false _ rfl fx21 rfl rfl hg22 (yl_move rfl rfl) ?_
     refine JA.tkG 10 1 48 false _ rfl fx21 rfl rfl hg22 (yl_indexAddr (off' := qo + i * 2) rfl rfl rfl Tryz.underlying53 Tryz.sizeOf56 (by omega) (by omega) (by simp)) ?_
     refine JA.tkG 11 1 48 false _ rfl fx21 rfl rfl hg22 (yl_indexArr (off' := qo + i * 2 + 1) rfl rfl rfl Tryz.underlying56 Tryz.sizeOf3 (by decide) (by decide) (by simp)) ?_
     refine JA.tkG 12 1 48 false _ rfl fx21 rfl rfl hg22 (yl_load rfl rfl Tryz.isAgg3 (Blk.immC hqb) (row_fcell twoN_len hqd hget 1 (by decide))) ?_
     refine JA.tkG 13 1 48 false _ rfl fx21 rfl rfl hg22 (yl_sub rfl rfl rfl (w64 (by omega))) ?_
     refine JA.tkG 14 1 48 false _ rfl fx21 rfl rfl hg22 (yl_move rfl rfl) ?_
     refine JA.tkG 15 1 48 false _ rfl fx21 rfl rfl hg22 (yl_sub rfl rfl rfl (w64 (by omega))) ?_
     refine JA.tkG 16 1 48 false _ rfl fx21 rfl rfl hg22 (yl_move rfl rfl) ?_
     refine JA.tkG 17 1 48 false _ rfl fx21 rfl rfl hg22 (yl_move rfl rfl) ?_
     refine JA.tkG 18 1 48 false _ rfl fx21 rfl rfl hg22 (yl_indexAddr (off' := qo + i * 2) rfl rfl rfl Tryz.underlying53 Tryz.sizeOf56 (by omega) (by omega) (by simp)) ?_
     refine JA.tkG 19 1 48 false _ rfl fx21 rfl rfl hg22 (yl_indexArr (off' := qo + i * 2) rfl rfl rfl Tryz.underlying56 Tryz.sizeOf3 (by decide) (by decide) (by simp)) ?_
     refine JA.tkG 20 1 48 false _ rfl fx21 rfl rfl hg22 (yl_load rfl rfl Tryz.isAgg3 (Blk.immC hqb) (row_fcell twoN_len hqd hget 0 (by decide))) ?_
     refine JA.tkG 21 1 48 false _ rfl fx21 rfl rfl hg22 (yl_sub rfl rfl rfl (w64 (by omega))) ?_
     refine JA.tkG 22 1 48 false _ rfl fx21 rfl rfl hg22 (yl_buildA (zs := [(.int .i64 0), (.int .i64 0)]) rfl rfl Tryz.zeroValue56 rfl Tryz.underlying56 Tryz.sizeOf3 rfl) ?_
     refine JA.tkG 23 1 48 false _ rfl fx21 rfl rfl hg22 (yl_eqlA2 (a := cst z) (b := ((rs.length : Int) - 1 - (b : Int), (rs.length : Int) - 1 - (a : Int))) rfl rfl rfl rfl rfl Tryz.underlying56 Tryz.underlying3 (by kernel_rfl) Tryz.isAgg3 (by kernel_rfl)) ?_
     refine JA.tk 24 rfl fx21 (yl_pick0 rfl rfl hg22 rfl) ?_
     refine JA.tk 25 rfl fx21 (yl_assign rfl rfl) ?_
     refine JA.done (by kernel_rfl) ?_
     refine Ej.blkNormal (Ej.seq (Cj.region (J.z (yl_move rfl rfl) ?_)))
     refine J.z (yl_add rfl rfl rfl (w64 (by omega))) ?_
     refine J.z (yl_assign rfl rfl) ?_
     refine J.nil (Ej.round (k + 1, cst z == ((rs.length : Int) - 1 - (b : Int), (rs.length : Int) - 1 - (a : Int))) ⟨by dsimp only; omega, by dsimp only; rw [any_next2 _ hkget, ← hfd, hg48, Bool.false_or]⟩ (by dsimp only; omega) ⟨rfl, rfl, rfl, rfl, rfl, rfl, rfl, trivial⟩ rfl rfl)
   ·
    have hc20p := of_decide_eq_false hc20
    have hfdT : fd = true := by rw [hfd, List.take_of_length_le (by omega)]; exact hfa
    refine Cj.exit (Ej.seqExit (Ej.loopExit (Ej.blkExit (Ej.seq (Cj.seq (Cj.region (J.z (yl_move rfl rfl) ?_)))))))
    refine J.z (yl_not rfl rfl) ?_
    refine J.nil (Ej.seq (Cj.cond rfl (fun hc23 => Bool.noConfusion (Eq.trans (Eq.symm (congrArg not hfdT)) hc23)) (fun hc23 => ?_)))
    refine Cj.skip (Ej.blkNormal (Ej.seq (Cj.region (J.z (yl_move rfl rfl) ?_))))
    refine J.z (yl_add rfl rfl rfl (w64 (by omega))) ?_
    refine J.z (yl_assign rfl rfl) ?_
    refine J.nil (Ej.round (i + 1) (by omega) (by omega) ⟨rfl, rfl, rfl, rfl, rfl, trivial⟩ rfl rfl)
  ·
   have hc19p := of_decide_eq_false hc19
   refine Cj.exit (Ej.seqExit (Ej.loopExit (Ej.blkExit (Ej.seq (Cj.seq (Cj.region (J.z (yl_move rfl rfl) ?_)))))))
   refine J.z (yl_move rfl rfl) ?_
   refine J.opG 1 75 true _ rfl rfl rfl rfl (op_yld (yl_move rfl rfl) rfl rfl ?_)
   refine J.opG 1 75 true _ rfl rfl rfl rfl (op_yld (yl_lenSlice rfl rfl Tryz.underlying53) rfl rfl ?_)
   refine J.opG 1 75 true _ rfl rfl rfl rfl (op_yld (yl_move rfl rfl) rfl rfl ?_)
   refine J.opG 1 75 true _ rfl rfl rfl rfl (op_yld (yl_lenSlice rfl rfl Tryz.underlying53) rfl rfl ?_)
   refine J.opG 1 75 true _ rfl rfl rfl rfl (op_yld (yl_eql rfl rfl rfl) rfl rfl ?_)
   refine J.eqv 80 rfl (show _ = .bool true from (congrArg Value.bool (beq_iff_eq.2 (congrArg (fun n : Nat => (n : Int)) hlen)))) ?_
   refine J.z (yl_pick1 rfl rfl rfl rfl) ?_
   refine J.z (yl_assign rfl rfl) ?_
   refine J.nil (Ej.seq (Cj.ret (Ej.ret1 rfl rfl rfl ?_)))
   exact ⟨rfl, rfl⟩
end Go.Proofs.YtadnofaleepkmaaGreatDoor
