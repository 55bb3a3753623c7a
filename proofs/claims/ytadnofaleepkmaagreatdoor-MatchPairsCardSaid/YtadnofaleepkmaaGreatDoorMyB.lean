/-
  The reference's Pairs. Own text, printed by a program. Conditions: none.
-/
import Derived.Test.YtadnofaleepkmaaGreatDoorPB14
import Derived.Test.YtadnofaleepkmaaGreatDoorPB15
namespace Go.Proofs.YtadnofaleepkmaaGreatDoor
open Go Go.Sx
/-- The keys that are known so far. -/
def KeysS (I : Heap) (rs : List Rc) (ws : List Value) (i : Nat) : Prop := ∀ j, j < i → ∃ w, ws[j]? = some w ∧ StrP I (ksOf rs j) w
theorem KeysS.mono {I I' : Heap} {rs : List Rc} {ws : List Value} {i : Nat} (h : KeysS I rs ws i) (hle : Le I I') : KeysS I' rs ws i := fun j hj => let ⟨w, h1, h2⟩ := h j hj; ⟨w, h1, h2.mono hle⟩
theorem KeysS.next {I : Heap} {rs : List Rc} {ws : List Value} {i : Nat} (h : KeysS I rs ws i) (hi : i < ws.length) {y : Value} (hy : StrP I (ksOf rs i) y) : KeysS I rs (ws.set i y) (i + 1) := fun j hj => by
  rcases Nat.lt_or_ge j i with hji | hji
  · obtain ⟨w, h1, h2⟩ := h j hji
    exact ⟨w, by rw [List.getElem?_set_ne (by omega)]; exact h1, h2⟩
  · have : j = i := by omega
    subst this
    exact ⟨y, List.getElem?_set_self hi, hy⟩
set_option maxRecDepth 20000 in
set_option maxHeartbeats 2000000 in
theorem rPairs_ok (rs : List Rc) (hn : rs.length ≤ 100000) (hok : ∀ r ∈ rs, ROK r) (v : Value) (I : Heap) (hrs0 : RecsS I rs v) : Ctr Tryz.prog 28 [v] I [] (fun e I' H' => ∃ w, e = .returned w ∧ RowS twoN I' (pairsN rs) w ∧ H' = []) := by
 obtain ⟨p, c, rfl, hc, -⟩ := id hrs0.1
 refine Ctr.of_body Tryz.func28 rfl (by decide) (Nat.le_of_ble_eq_true rfl) ?_
 intro w0 hw0
 refine Cj.seq (Cj.region (J.z (yl_assign rfl rfl) ?_))
 refine J.nil (Ej.seq (Cj.seq (Cj.region (J.z (yl_assign rfl rfl) ?_))))
 refine J.nil (Ej.seq (Cj.seq (Cj.region (J.z (yl_move rfl rfl) ?_))))
 refine J.z (yl_lenSlice rfl rfl Tryz.underlying50) ?_
 refine J.op rfl (op_makeSlice (n := rs.length) (c := rs.length) (by1 := 24) (z := (.slice none 0 0)) rfl rfl rfl rfl rfl Tryz.underlying95 (by kernel_rfl) rfl (by omega) (by omega) (by omega) ?_)
 intro b1 hb1
 refine J.z (yl_assign rfl rfl) ?_
 refine J.nil (Ej.seq (Cj.seq (Cj.seq (Cj.region (J.z (yl_assign rfl rfl) ?_)))))
 refine J.nil (Ej.seq (Cj.block (Cj.loop (ι := Nat × Heap × List Value) (fun y => y.1 ≤ rs.length ∧ Le I y.2.1 ∧ y.2.2.length = rs.length ∧ KeysS y.2.1 rs y.2.2 y.1) (fun y => rs.length - y.1) (fun y => [(0, .slice p rs.length c), (4, .slice (some ⟨b1, 0, none⟩) rs.length rs.length), (3, .slice none 0 0), (5, i64 (y.1 : Int))]) (fun y => y.2.1) (fun y => [(b1, cel 31 y.2.2)]) (0, _, List.replicate rs.length (.slice none 0 0)) ⟨Nat.zero_le _, Le.refl _, List.length_replicate, fun j hj => absurd hj (Nat.not_lt_zero j)⟩ ⟨rfl, rfl, rfl, rfl, trivial⟩ rfl rfl ?_)))
 rintro ⟨i, Jh, ws⟩ ⟨hi, hIJ, hwl, hKs⟩
 dsimp only at hi hIJ hwl hKs ⊢
 have hrs := hrs0.mono hIJ
 refine Cj.seq (Cj.seq (Cj.region (J.z (yl_move rfl rfl) ?_)))
 refine J.z (yl_move rfl rfl) ?_
 refine J.z (yl_lenSlice rfl rfl Tryz.underlying50) ?_
 refine J.z (yl_lss rfl rfl rfl) ?_
 refine J.nil (Ej.seq (Cj.cond rfl (fun hc2 => ?_) (fun hc2 => ?_)))
 ·
  have hc2p := of_decide_eq_true hc2
  refine Cj.skip (Ej.seq (Cj.seq (Cj.block ?_)))
  have hlt : i < rs.length := by omega
  obtain ⟨r, hget⟩ : ∃ r, rs[i]? = some r := ⟨_, List.getElem?_eq_getElem hlt⟩
  have hrm := List.mem_of_getElem? hget
  have hrD := getD_of hget
  have hR := hrs.2 r hrm
  obtain ⟨hok1, hok2⟩ := hok r hrm
  obtain ⟨⟨pp, pc, hpe, hpc, hpp⟩, -⟩ := id hrs
  cases hpe
  obtain ⟨pb, po, pcs, pty, pfr, psp, rfl, hpb, hpd⟩ := hpp (ne_nil_of hlt)
  refine Cj.region (J.z (yl_move rfl rfl) ?_)
  refine J.z (yl_move rfl rfl) ?_
  refine J.z (yl_move rfl rfl) ?_
  refine J.z (yl_move rfl rfl) ?_
  refine J.z (yl_indexAddr (off' := po + i * 3) rfl rfl rfl Tryz.underlying50 Tryz.sizeOf26 (by omega) (by omega) (by simp)) ?_
  refine J.z (yl_loadAgg rfl rfl Tryz.isAgg26 Tryz.sizeOf26 (Blk.imm hpb) (row_from rcC_len hpd hget) rfl) ?_
  refine J.op rfl (op_call (H1 := []) rfl rfl rfl rfl rfl (rAll_ok r.fs _ r.k r.l hok1 _ hR) ?_ (fun _ _ _ _ h => by obtain ⟨_, h, _⟩ := h; cases h) (fun _ _ h => by obtain ⟨_, h, _⟩ := h; cases h))
  intro v3 I4 H5 hle6 hp7
  have hIJ := hIJ.mono hle6
  have hrs := hrs.mono hle6
  have hKs := hKs.mono hle6
  have hpb := hle6 _ _ hpb
  have hR := hR.mono hle6
  obtain ⟨wk, h, hk, rfl⟩ := hp7; cases h
  obtain ⟨kp3, kc3, rfl, -, -⟩ := id hk
  refine J.z (yl_indexAddr (off' := i) rfl rfl rfl Tryz.underlying95 Tryz.sizeOf31 (by omega) (by omega) (by simp)) ?_
  refine J.op rfl (op_store1 0 rfl rfl rfl rfl rfl rfl Tryz.sizeOf31 rfl (.inl rfl) (by rw [hwl]; omega) LSet.z ?_)
  refine J.nil (Ej.blkNormal (Ej.seq (Cj.region (J.z (yl_move rfl rfl) ?_))))
  refine J.z (yl_add rfl rfl rfl (w64 (by omega))) ?_
  refine J.z (yl_assign rfl rfl) ?_
  refine J.nil (Ej.round (i + 1, _, ws.set i (.slice kp3 _ kc3)) ⟨by dsimp only; omega, hIJ, by dsimp only; rw [List.length_set]; exact hwl, KeysS.next hKs (by omega) (by unfold ksOf; rw [hrD]; exact hk)⟩ (by dsimp only; omega) ⟨rfl, rfl, rfl, rfl, trivial⟩ rfl rfl)
 ·
  have hc2p := of_decide_eq_false hc2
  refine Cj.exit (Ej.seqExit (Ej.loopExit (Ej.blkExit (Ej.seq (Cj.seq (Cj.seq (Cj.region (J.z (yl_assign rfl rfl) ?_))))))))
  refine J.nil (Ej.seq (Cj.block (Cj.loop (ι := Nat × Gs) (fun y => y.1 ≤ rs.length ∧ gOk w0.heap.size 2 (pto rs y.1).length ((pto rs y.1).flatMap twoN) y.2) (fun y => rs.length - y.1) (fun y => [(0, .slice p rs.length c), (4, .slice (some ⟨b1, 0, none⟩) rs.length rs.length), (3, gV (pto rs y.1).length y.2), (6, i64 (y.1 : Int))]) (fun y => _) (fun y => (b1, cel 31 ws) :: gH 56 ((pto rs y.1).flatMap twoN) y.2) (0, none) ⟨Nat.zero_le _, rfl, rfl⟩ ⟨rfl, rfl, rfl, rfl, trivial⟩ rfl rfl ?_)))
  rintro ⟨a, g⟩ ⟨ha, hg⟩
  dsimp only at ha hg ⊢
  have hptl := pto_len rs a
  have hsq : (pto rs a).length ≤ 10000000000 := sq_le hn (Nat.le_trans hptl (Nat.mul_le_mul_right _ ha))
  refine Cj.seq (Cj.seq (Cj.region (J.z (yl_move rfl rfl) ?_)))
  refine J.z (yl_move rfl rfl) ?_
  refine J.z (yl_lenSlice rfl rfl Tryz.underlying50) ?_
  refine J.z (yl_lss rfl rfl rfl) ?_
  refine J.nil (Ej.seq (Cj.cond rfl (fun hc8 => ?_) (fun hc8 => ?_)))
  ·
   have hc8p := of_decide_eq_true hc8
   refine Cj.skip (Ej.seq (Cj.seq (Cj.block (Cj.seq (Cj.region (J.z (yl_move rfl rfl) ?_))))))
   refine J.z (yl_add rfl rfl rfl (w64 (by omega))) ?_
   refine J.z (yl_assign rfl rfl) ?_
   refine J.nil (Ej.seq (Cj.block (Cj.keep (Keeps.k Keeps.r) ?_)))
   refine Cj.loop (ι := Nat × Gs) (fun y => a < y.1 ∧ y.1 ≤ rs.length ∧ gOk w0.heap.size 2 (pto rs a ++ prow rs a y.1).length ((pto rs a ++ prow rs a y.1).flatMap twoN) y.2) (fun y => rs.length - y.1) (fun y => [(0, .slice p rs.length c), (4, .slice (some ⟨b1, 0, none⟩) rs.length rs.length), (3, gV (pto rs a ++ prow rs a y.1).length y.2), (6, i64 (a : Int)), (7, i64 (y.1 : Int))]) (fun y => _) (fun y => (b1, cel 31 ws) :: gH 56 ((pto rs a ++ prow rs a y.1).flatMap twoN) y.2) (a + 1, g) ⟨Nat.lt_succ_self a, by dsimp only; omega, by dsimp only; rw [prow_start, List.append_nil]; exact hg⟩ ⟨rfl, rfl, by dsimp only; rw [prow_start, List.append_nil]; rfl, rfl, rfl, trivial⟩ rfl (by dsimp only; rw [prow_start, List.append_nil]) ?_
   rintro ⟨b, g⟩ ⟨hab, hb, hg⟩
   dsimp only at hab hb hg ⊢
   have hprl := prow_len rs a b
   refine Cj.seq (Cj.seq (Cj.region (J.z (yl_move rfl rfl) ?_)))
   refine J.z (yl_move rfl rfl) ?_
   refine J.z (yl_lenSlice rfl rfl Tryz.underlying50) ?_
   refine J.z (yl_lss rfl rfl rfl) ?_
   refine J.nil (Ej.seq (Cj.cond rfl (fun hc9 => ?_) (fun hc9 => ?_)))
   ·
    have hc9p := of_decide_eq_true hc9
    have hlt : b < rs.length := by omega
    have hltA : a < rs.length := by omega
    obtain ⟨rA, hgetA⟩ : ∃ r, rs[a]? = some r := ⟨_, List.getElem?_eq_getElem hltA⟩
    have hrmA := List.mem_of_getElem? hgetA
    have hrDA := getD_of hgetA
    have hRA := hrs.2 rA hrmA
    obtain ⟨hok1A, hok2A⟩ := hok rA hrmA
    have hltB : b < rs.length := by omega
    obtain ⟨rB, hgetB⟩ : ∃ r, rs[b]? = some r := ⟨_, List.getElem?_eq_getElem hltB⟩
    have hrmB := List.mem_of_getElem? hgetB
    have hrDB := getD_of hgetB
    have hRB := hrs.2 rB hrmB
    obtain ⟨hok1B, hok2B⟩ := hok rB hrmB
    obtain ⟨⟨pp, pc, hpe, hpc, hpp⟩, -⟩ := id hrs
    cases hpe
    obtain ⟨pb, po, pcs, pty, pfr, psp, rfl, hpb, hpd⟩ := hpp (ne_nil_of hlt)
    obtain ⟨wa, hwa, hsa⟩ := hKs a (by omega)
    obtain ⟨wb, hwb, hsb⟩ := hKs b (by omega)
    have hka : (ksOf rs a).length ≤ 100000000000000 := by unfold ksOf; rw [hrDA]; exact all_len hok1A
    have hkb : (ksOf rs b).length ≤ 100000000000000 := by unfold ksOf; rw [hrDB]; exact all_len hok1B
    have hsmE : decide (Ke.pts (Ke.feat rA.k rA.fs) (Ke.feat rB.k rB.fs) ≥ 40) = smOf rs a b := by unfold smOf ftOf; rw [hrDA, hrDB]
    refine Cj.skip (Ej.seq (Cj.seq (Cj.block (Cj.seq (Cj.drawSel [0] [] 20 (by kernel_rfl) ?_)))))
    have hpb_13 := hpb
    refine JA.fix ⟨(HSub.c 0 rfl HSub.n), CSub.n, (Le.refl _)⟩ (fun fx10 => ?_)
    refine JA.tk 0 rfl fx10 (yl_move rfl rfl) ?_
    refine JA.tk 1 rfl fx10 (yl_move rfl rfl) ?_
    refine JA.tk 2 rfl fx10 (yl_indexAddr (off' := a) rfl rfl rfl Tryz.underlying95 Tryz.sizeOf31 (by omega) (by omega) (by simp)) ?_
    refine JA.tk 3 rfl fx10 (yl_load rfl rfl Tryz.isAgg31 (Blk.atC 0 rfl) hwa) ?_
    refine JA.tk 4 rfl fx10 (yl_move rfl rfl) ?_
    refine JA.tk 5 rfl fx10 (yl_move rfl rfl) ?_
    refine JA.tk 6 rfl fx10 (yl_indexAddr (off' := b) rfl rfl rfl Tryz.underlying95 Tryz.sizeOf31 (by omega) (by omega) (by simp)) ?_
    refine JA.tk 7 rfl fx10 (yl_load rfl rfl Tryz.isAgg31 (Blk.atC 0 rfl) hwb) ?_
    refine JA.step 8 (by kernel_rfl) rfl rfl (op_pure rfl rfl rfl rfl rfl (common_ok (ksOf rs a) (ksOf rs b) _ _ hka hkb _ hsa hsb) ?_)
    refine ⟨⟨(Le.refl _), (HSub.c 0 rfl HSub.n), CSub.n⟩, ?_⟩
    refine JA.fix ⟨(HSub.c 0 rfl HSub.n), CSub.n, (Le.refl _)⟩ (fun fx11 => ?_)
    refine JA.tk 9 rfl fx11 (yl_move rfl rfl) ?_
    refine JA.split 48 rfl (fun hg12 => ?_) (fun hg12 => ?_)
    ·
     refine JA.tkG 10 9 48 true _ rfl fx11 rfl rfl hg12 (yl_move rfl rfl) ?_
     refine JA.tkG 11 9 48 true _ rfl fx11 rfl rfl hg12 (yl_move rfl rfl) ?_
     refine JA.tkG 12 9 48 true _ rfl fx11 rfl rfl hg12 (yl_indexAddr (off' := po + a * 3) rfl rfl rfl Tryz.underlying50 Tryz.sizeOf26 (by omega) (by omega) (by simp)) ?_
     refine JA.tkG 13 9 48 true _ rfl fx11 rfl rfl hg12 (yl_loadAgg rfl rfl Tryz.isAgg26 Tryz.sizeOf26 (Blk.immC hpb_13) (row_from rcC_len hpd hgetA) rfl) ?_
     refine JA.tkG 14 9 48 true _ rfl fx11 rfl rfl hg12 (yl_move rfl rfl) ?_
     refine JA.tkG 15 9 48 true _ rfl fx11 rfl rfl hg12 (yl_move rfl rfl) ?_
     refine JA.tkG 16 9 48 true _ rfl fx11 rfl rfl hg12 (yl_indexAddr (off' := po + b * 3) rfl rfl rfl Tryz.underlying50 Tryz.sizeOf26 (by omega) (by omega) (by simp)) ?_
     refine JA.tkG 17 9 48 true _ rfl fx11 rfl rfl hg12 (yl_loadAgg rfl rfl Tryz.isAgg26 Tryz.sizeOf26 (Blk.immC hpb_13) (row_from rcC_len hpd hgetB) rfl) ?_
     refine JA.stepG 18 9 48 true _ (by kernel_rfl) rfl rfl rfl rfl hg12 (op_pure rfl rfl rfl rfl rfl (rSame_ok rA.fs rB.fs _ _ rA.k rA.l rB.k rB.l hok1A hok1B hok2A hok2B _ hRA hRB) ?_)
     refine ⟨⟨(Le.refl _), (HSub.c 0 rfl HSub.n), CSub.n⟩, ?_⟩
     refine JA.eqv 57 rfl (show _ = .bool (smOf rs a b) from (congrArg Value.bool hsmE)) ?_
     refine JA.fix ⟨(HSub.c 0 rfl HSub.n), CSub.n, (Le.refl _)⟩ (fun fx13 => ?_)
     refine JA.tk 19 rfl fx13 (yl_pick1 rfl rfl hg12 rfl) ?_
     refine JA.done (by kernel_rfl) ?_
     refine Ej.seq (Cj.cond rfl (fun hc14 => ?_) (fun hc14 => ?_))
     ·
      have hcc : (Ke.common (ksOf rs a) (ksOf rs b) && smOf rs a b) = true := by rw [hg12, hc14]; rfl
      refine Cj.region (J.z (yl_move rfl rfl) ?_)
      refine J.z (yl_move rfl rfl) ?_
      refine J.z (yl_move rfl rfl) ?_
      refine J.z (yl_buildA (zs := [(.int .i64 0), (.int .i64 0)]) rfl rfl Tryz.zeroValue56 rfl Tryz.underlying56 Tryz.sizeOf3 rfl) ?_
      refine J.op rfl (op_buildSlice rfl rfl rfl Tryz.underlying53 Tryz.sizeOf56 Tryz.zeroValue56 rfl rfl rfl rfl (LCat.agg rfl LCat.none) ?_)
      intro b15 hb15
      refine J.op rfl (op_append (by' := 15) [_, _] rfl rfl rfl rfl rfl Tryz.underlying53 (.inr ⟨_, Tryz.underlying53⟩) (by kernel_rfl) Tryz.sizeOf56 Tryz.zeroValue56 rfl hg rfl (Src.slice (Blk.at 0 rfl) rfl rfl rfl) (by rw [List.length_append]; omega) ?_)
      intro g16 hg16
      refine J.z (yl_assign rfl rfl) ?_
      refine J.nil (Ej.blkNormal (Ej.seq (Cj.region (J.z (yl_move rfl rfl) ?_))))
      refine J.z (yl_add rfl rfl rfl (w64 (by omega))) ?_
      refine J.z (yl_assign rfl rfl) ?_
      refine J.nil (Ej.keep (Keeps.d (Keeps.k Keeps.r)) ?_)
      refine Ej.round (b + 1, g16) ⟨by dsimp only; omega, by dsimp only; omega, by dsimp only; rw [prow_next rs (by omega), if_pos hcc, ← List.append_assoc, List.length_append, List.flatMap_append]; exact hg16⟩ (by dsimp only; omega) ⟨rfl, rfl, by dsimp only; rw [prow_next rs (by omega), if_pos hcc, ← List.append_assoc]; exact congrArg (fun n => some (gV n g16)) (len_one _ _).symm, rfl, rfl, trivial⟩ rfl (by dsimp only; rw [prow_next rs (by omega), if_pos hcc, ← List.append_assoc, List.flatMap_append]; rfl)
     ·
      have hcc : ¬ (Ke.common (ksOf rs a) (ksOf rs b) && smOf rs a b) = true := by rw [hg12, hc14]; decide
      refine Cj.skip (Ej.blkNormal (Ej.seq (Cj.region (J.z (yl_move rfl rfl) ?_))))
      refine J.z (yl_add rfl rfl rfl (w64 (by omega))) ?_
      refine J.z (yl_assign rfl rfl) ?_
      refine J.nil (Ej.round (b + 1, g) ⟨by dsimp only; omega, by dsimp only; omega, by dsimp only; rw [prow_next rs (by omega), if_neg hcc, List.append_nil]; exact hg⟩ (by dsimp only; omega) ⟨rfl, rfl, by dsimp only; rw [prow_next rs (by omega), if_neg hcc, List.append_nil]; rfl, rfl, rfl, trivial⟩ rfl (by dsimp only; rw [prow_next rs (by omega), if_neg hcc, List.append_nil]))
    ·
     have hcc : ¬ (Ke.common (ksOf rs a) (ksOf rs b) && smOf rs a b) = true := by rw [hg12]; simp
     refine JA.tkS 10 9 48 true _ rfl fx11 rfl rfl (.inl (congrArg Value.bool hg12)) ?_
     refine JA.tkS 11 9 48 true _ rfl fx11 rfl rfl (.inl (congrArg Value.bool hg12)) ?_
     refine JA.tkS 12 9 48 true _ rfl fx11 rfl rfl (.inl (congrArg Value.bool hg12)) ?_
     refine JA.tkS 13 9 48 true _ rfl fx11 rfl rfl (.inl (congrArg Value.bool hg12)) ?_
     refine JA.tkS 14 9 48 true _ rfl fx11 rfl rfl (.inl (congrArg Value.bool hg12)) ?_
     refine JA.tkS 15 9 48 true _ rfl fx11 rfl rfl (.inl (congrArg Value.bool hg12)) ?_
     refine JA.tkS 16 9 48 true _ rfl fx11 rfl rfl (.inl (congrArg Value.bool hg12)) ?_
     refine JA.tkS 17 9 48 true _ rfl fx11 rfl rfl (.inl (congrArg Value.bool hg12)) ?_
     refine JA.tkS 18 9 48 true _ rfl fx11 rfl rfl (.inl (congrArg Value.bool hg12)) ?_
     refine JA.tk 19 rfl fx11 (yl_pick0 rfl rfl hg12 rfl) ?_
     refine JA.done (by kernel_rfl) ?_
     refine Ej.seq (Cj.cond rfl (fun hc17 => Bool.noConfusion (Eq.trans (Eq.symm rfl) hc17)) (fun hc17 => ?_))
     refine Cj.skip (Ej.blkNormal (Ej.seq (Cj.region (J.z (yl_move rfl rfl) ?_))))
     refine J.z (yl_add rfl rfl rfl (w64 (by omega))) ?_
     refine J.z (yl_assign rfl rfl) ?_
     refine J.nil (Ej.round (b + 1, g) ⟨by dsimp only; omega, by dsimp only; omega, by dsimp only; rw [prow_next rs (by omega), if_neg hcc, List.append_nil]; exact hg⟩ (by dsimp only; omega) ⟨rfl, rfl, by dsimp only; rw [prow_next rs (by omega), if_neg hcc, List.append_nil]; rfl, rfl, rfl, trivial⟩ rfl (by dsimp only; rw [prow_next rs (by omega), if_neg hcc, List.append_nil]))
   ·
    have hc9p := of_decide_eq_false hc9
    have hbn : b = rs.length := by omega
    subst hbn
    refine Cj.exit (Ej.seqExit (Ej.loopExit (Ej.blkExit (Ej.blkNormal (Ej.seq (Cj.region (J.z (yl_move rfl rfl) ?_)))))))
    refine J.z (yl_add rfl rfl rfl (w64 (by omega))) ?_
    refine J.z (yl_assign rfl rfl) ?_
    refine J.nil (Ej.round (a + 1, g) ⟨by dsimp only; omega, by dsimp only; rw [pto_next]; exact hg⟩ (by dsimp only; omega) ⟨rfl, rfl, by dsimp only; rw [pto_next]; rfl, rfl, trivial⟩ rfl (by dsimp only; rw [pto_next]))
  ·
   have hc8p := of_decide_eq_false hc8
   have han : a = rs.length := by omega
   refine Cj.exit (Ej.seqExit (Ej.loopExit (Ej.blkExit (Ej.seq (Cj.seq (Cj.region (J.z (yl_move rfl rfl) ?_)))))))
   refine J.z (yl_assign rfl rfl) ?_
   refine J.nil (Ej.seq (Cj.ret ?_))
   rw [show gH _ ((pto rs a).flatMap twoN) g = gH _ ((pto rs a).flatMap twoN) g from rfl]
   refine Ej.perm (H' := gH _ _ _ ++ [_]) List.perm_append_comm ?_
   refine Ej.keepR twoN_len (by decide) hg rfl (fun I9 hle9 hv => ?_)
   refine Ej.bare ?_
   refine Ej.ret1 rfl rfl rfl ?_
   exact ⟨_, rfl, (by rw [← pto_all, ← han]; exact hv), rfl⟩
end Go.Proofs.YtadnofaleepkmaaGreatDoor
