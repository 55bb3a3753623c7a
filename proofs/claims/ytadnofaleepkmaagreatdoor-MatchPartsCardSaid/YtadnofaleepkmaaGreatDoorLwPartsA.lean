/-
  The law MatchParts. Own text, printed by a program. Conditions: none.
-/
import Derived.Test.YtadnofaleepkmaaGreatDoorPA11
import Derived.Test.YtadnofaleepkmaaGreatDoorMrA
import Derived.Test.YtadnofaleepkmaaGreatDoorPA12
namespace Go.Proofs.YtadnofaleepkmaaGreatDoor
open Go Go.Sx
theorem parts_size (N : Nat) (L : Nat → Nat) : (Kp.parts N L).length ≤ N ∧ ∀ x ∈ Kp.parts N L, x.length ≤ N := by
  refine ⟨?_, fun x hx => ?_⟩
  · have h := rts_len L N
    rw [Kp.parts_len]; exact h
  · rw [Kp.parts_roots] at hx
    obtain ⟨i, _, rfl⟩ := List.mem_map.1 hx
    exact prt_len L N i
theorem partsI_len (n : Int) (ps : List (Int × Int)) (hn : n ≤ 100000) : (partsI n ps).length ≤ 100000000000000 ∧ ∀ x ∈ partsI n ps, x.length ≤ 100000000000000 := by
  obtain ⟨h1, h2⟩ := parts_size n.toNat (Kp.lb n.toNat (Kp.valid n.toNat ps))
  unfold partsI
  refine ⟨by rw [List.length_map]; omega, fun x hx => ?_⟩
  obtain ⟨y, hy, rfl⟩ := List.mem_map.1 hx
  have := h2 y hy
  rw [List.length_map]; omega
def mod64 (x : Int × Int) : Int × Int := (x.1 % 64 - 2, x.2 % 64 - 2)
theorem modL_next {ps : List (Int × Int)} {k : Nat} {x : Int × Int} (h : ps[k]? = some x) : (ps.take (k + 1)).map mod64 = (ps.take k).map mod64 ++ [mod64 x] := by
  obtain ⟨hlt, hg⟩ := List.getElem?_eq_some_iff.1 h
  rw [List.take_succ_eq_append_getElem hlt, hg, List.map_append]; rfl
set_option maxRecDepth 20000 in
theorem MatchParts_ok (n : Int) (ps : List (Int × Int)) (hps : ∀ x ∈ ps, In64 x.1 ∧ In64 x.2) (v : Value) (I : Heap) (hr : RowS twoC I ps v) : Pure Tryz.prog 10 [i64 n, v] I (.bool true) := by
 refine Ctr.toPure ?_
 obtain ⟨p, c, rfl, hc, -⟩ := id hr
 refine Ctr.of_body Tryz.func10 rfl (by decide) (Nat.le_of_ble_eq_true rfl) ?_
 intro w0 hw0
 refine Cj.seq (Cj.region (J.z (yl_assign rfl rfl) ?_))
 refine J.nil (Ej.seq (Cj.seq (Cj.region (J.op rfl (op_pure rfl rfl rfl rfl rfl (sanity_ok _) ?_)))))
 refine J.z (yl_assign rfl rfl) ?_
 refine J.nil (Ej.seq (Cj.seq (Cj.region (J.z (yl_move rfl rfl) ?_))))
 refine J.op rfl (op_pure rfl rfl rfl rfl rfl (Mod_ok n 62 (by decide) (by decide) _) ?_)
 refine J.z (yl_sub rfl rfl rfl (w64 (by omega))) ?_
 refine J.z (yl_assign rfl rfl) ?_
 refine J.nil (Ej.seq (Cj.seq (Cj.region (J.z (yl_assign rfl rfl) ?_))))
 refine J.nil (Ej.seq (Cj.seq (Cj.seq (Cj.region (J.z (yl_assign rfl rfl) ?_)))))
 refine J.nil (Ej.seq (Cj.block (Cj.loop (ι := Nat × Gs) (fun y => y.1 ≤ ps.length ∧ y.1 ≤ 60 ∧ gOk w0.heap.size 2 ((ps.take y.1).map mod64).length (((ps.take y.1).map mod64).flatMap twoC) y.2) (fun y => 60 - y.1) (fun y => [(1, .slice p ps.length c), (5, .bool true), (6, i64 (n % 62 - 1)), (7, gV ((ps.take y.1).map mod64).length y.2), (8, i64 (y.1 : Int))]) (fun y => _) (fun y => gH 56 (((ps.take y.1).map mod64).flatMap twoC) y.2) (0, none) ⟨Nat.zero_le _, Nat.zero_le _, rfl, rfl⟩ ⟨rfl, rfl, rfl, rfl, rfl, trivial⟩ rfl rfl ?_)))
 rintro ⟨i, g⟩ ⟨hi, hi60, hg⟩
 dsimp only at hi hi60 hg ⊢
 have hml : ((ps.take i).map mod64).length ≤ 60 := by rw [List.length_map, List.length_take]; omega
 refine Cj.seq (Cj.seq (Cj.region (J.z (yl_move rfl rfl) ?_)))
 refine J.z (yl_move rfl rfl) ?_
 refine J.z (yl_lenSlice rfl rfl Tryz.underlying53) ?_
 refine J.z (yl_lss rfl rfl rfl) ?_
 refine J.z (yl_move rfl rfl) ?_
 refine J.split 17 rfl (fun hg1 => ?_) (fun hg1 => ?_)
 ·
  have hg1p := of_decide_eq_true hg1
  refine J.opG 4 17 true _ rfl rfl rfl hg1 (op_yld (yl_move rfl rfl) rfl rfl ?_)
  refine J.opG 4 17 true _ rfl rfl rfl hg1 (op_yld (yl_lss rfl rfl rfl) rfl rfl ?_)
  refine J.z (yl_pick1 rfl rfl hg1 rfl) ?_
  refine J.nil (Ej.seq (Cj.cond rfl (fun hc2 => ?_) (fun hc2 => ?_)))
  ·
   have hc2p := of_decide_eq_true hc2
   refine Cj.skip (Ej.seq (Cj.seq (Cj.block ?_)))
   have hlt : i < ps.length := by omega
   have hlt2 : i < 60 := by omega
   obtain ⟨x, hget⟩ : ∃ x, ps[i]? = some x := ⟨_, List.getElem?_eq_getElem hlt⟩
   obtain ⟨pp, pc, hpe, hpc, hpp⟩ := id hr
   cases hpe
   obtain ⟨pb, po, pcs, pty, pfr, psp, rfl, hpb, hpd⟩ := hpp (ne_nil_of hlt)
   obtain ⟨hx1, hx2⟩ := hps x (List.mem_of_getElem? hget)
   refine Cj.drawSel [] [] 19 (by kernel_rfl) ?_
   have hpb_7 := hpb
   refine JA.fix ⟨HSub.n, CSub.n, (Le.refl _)⟩ (fun fx3 => ?_)
   refine JA.tk 0 rfl fx3 (yl_move rfl rfl) ?_
   refine JA.tk 1 rfl fx3 (yl_move rfl rfl) ?_
   refine JA.tk 2 rfl fx3 (yl_move rfl rfl) ?_
   refine JA.tk 3 rfl fx3 (yl_indexAddr (off' := po + i * 2) rfl rfl rfl Tryz.underlying53 Tryz.sizeOf56 (by omega) (by omega) (by simp)) ?_
   refine JA.tk 4 rfl fx3 (yl_indexArr (off' := po + i * 2) rfl rfl rfl Tryz.underlying56 Tryz.sizeOf3 (by decide) (by decide) (by simp)) ?_
   refine JA.tk 5 rfl fx3 (yl_load rfl rfl Tryz.isAgg3 (Blk.immC hpb_7) (row_fcell twoC_len hpd hget 0 (by decide))) ?_
   refine JA.tk 8 rfl fx3 (yl_move rfl rfl) ?_
   refine JA.tk 9 rfl fx3 (yl_move rfl rfl) ?_
   refine JA.tk 10 rfl fx3 (yl_indexAddr (off' := po + i * 2) rfl rfl rfl Tryz.underlying53 Tryz.sizeOf56 (by omega) (by omega) (by simp)) ?_
   refine JA.tk 11 rfl fx3 (yl_indexArr (off' := po + i * 2 + 1) rfl rfl rfl Tryz.underlying56 Tryz.sizeOf3 (by decide) (by decide) (by simp)) ?_
   refine JA.tk 12 rfl fx3 (yl_load rfl rfl Tryz.isAgg3 (Blk.immC hpb_7) (row_fcell twoC_len hpd hget 1 (by decide))) ?_
   refine JA.step 6 (by kernel_rfl) rfl rfl (op_pure rfl rfl rfl rfl rfl (Mod_ok x.1 64 (by decide) (by decide) _) ?_)
   refine ⟨⟨(Le.refl _), HSub.n, CSub.n⟩, ?_⟩
   refine JA.fix ⟨HSub.n, CSub.n, (Le.refl _)⟩ (fun fx4 => ?_)
   refine JA.tk 7 rfl fx4 (yl_sub rfl rfl rfl (w64 (by omega))) ?_
   refine JA.step 13 (by kernel_rfl) rfl rfl (op_pure rfl rfl rfl rfl rfl (Mod_ok x.2 64 (by decide) (by decide) _) ?_)
   refine ⟨⟨(Le.refl _), HSub.n, CSub.n⟩, ?_⟩
   refine JA.fix ⟨HSub.n, CSub.n, (Le.refl _)⟩ (fun fx5 => ?_)
   refine JA.tk 14 rfl fx5 (yl_sub rfl rfl rfl (w64 (by omega))) ?_
   refine JA.tk 15 rfl fx5 (yl_buildA (zs := [(.int .i64 0), (.int .i64 0)]) rfl rfl Tryz.zeroValue56 rfl Tryz.underlying56 Tryz.sizeOf3 rfl) ?_
   refine JA.step 16 (by kernel_rfl) rfl rfl (op_buildSlice rfl rfl rfl Tryz.underlying53 Tryz.sizeOf56 Tryz.zeroValue56 rfl rfl rfl rfl (LCat.agg rfl LCat.none) ?_)
   intro b6 hb6
   refine ⟨⟨(Le.refl _), HSub.n, CSub.n⟩, ?_⟩
   refine JA.step 17 (by kernel_rfl) rfl rfl (op_append (by' := 15) [_] rfl rfl rfl rfl rfl Tryz.underlying53 (.inr ⟨_, Tryz.underlying53⟩) (by kernel_rfl) Tryz.sizeOf56 Tryz.zeroValue56 rfl hg rfl (Src.slice (Blk.at 0 rfl) rfl rfl rfl) (by omega) ?_)
   intro g7 hg7
   refine ⟨⟨(Le.refl _), HSub.n, CSub.n⟩, ?_⟩
   refine JA.fix ⟨HSub.n, CSub.n, (Le.refl _)⟩ (fun fx8 => ?_)
   refine JA.tk 18 rfl fx8 (yl_assign rfl rfl) ?_
   refine JA.done (by kernel_rfl) ?_
   refine Ej.blkNormal (Ej.seq (Cj.region (J.z (yl_move rfl rfl) ?_)))
   refine J.z (yl_add rfl rfl rfl (w64 (by omega))) ?_
   refine J.z (yl_assign rfl rfl) ?_
   refine J.nil (Ej.keep (Keeps.d Keeps.r) ?_)
   refine Ej.round (i + 1, g7) ⟨by dsimp only; omega, by dsimp only; omega, by dsimp only; rw [modL_next hget, List.length_append, List.flatMap_append]; exact hg7⟩ (by dsimp only; omega) ⟨rfl, rfl, rfl, by dsimp only; rw [modL_next hget]; exact congrArg (fun n => some (gV n g7)) (len_one _ _).symm, rfl, trivial⟩ rfl (by dsimp only; rw [modL_next hget, List.flatMap_append]; rfl)
  ·
   have hc2p := of_decide_eq_false hc2
   refine Cj.exit (Ej.seqExit (Ej.loopExit (Ej.blkExit (Ej.seq (Cj.seq ?_)))))
   rw [show gH _ (((ps.take i).map mod64).flatMap twoC) g = gH _ (((ps.take i).map mod64).flatMap twoC) g ++ [] from (List.append_nil _).symm]
   refine Cj.keepR twoC_len (by decide) hg rfl (fun I9 hle9 hrow => ?_)
   have hr := hr.mono hle9
   have htk := RowS.take hr (show min ps.length 60 ≤ ps.length from Nat.min_le_left _ _)
   obtain ⟨ml, hmld⟩ : ∃ ml, ml = (ps.take i).map mod64 := ⟨_, rfl⟩
   rw [← hmld] at hrow hml
   rw [← hmld]
   have htl : (ps.take (min ps.length 60)).length ≤ 60 := by rw [List.length_take]; omega
   have hm62 : n % 62 - 1 ≤ 100000 := by omega
   refine Cj.drawSel [] [] 28 (by kernel_rfl) ?_
   refine JA.fix ⟨HSub.n, CSub.n, (Le.refl _)⟩ (fun fx9 => ?_)
   refine JA.tk 0 rfl fx9 (yl_move rfl rfl) ?_
   refine JA.tk 1 rfl fx9 (yl_move rfl rfl) ?_
   refine JA.tkG 2 1 42 true _ rfl fx9 rfl rfl rfl (yl_move rfl rfl) ?_
   refine JA.tkG 3 1 42 true _ rfl fx9 rfl rfl rfl (yl_move rfl rfl) ?_
   refine JA.tkG 5 1 42 true _ rfl fx9 rfl rfl rfl (yl_move rfl rfl) ?_
   refine JA.tkG 6 1 42 true _ rfl fx9 rfl rfl rfl (yl_move rfl rfl) ?_
   refine JA.stepG 4 1 42 true _ (by kernel_rfl) rfl rfl rfl rfl rfl (op_call (H1 := []) rfl rfl rfl rfl rfl (Parts_ok (n % 62 - 1) hm62 ml (by omega) _ _ hrow) ?_ (fun _ _ _ _ h => by obtain ⟨_, h, _⟩ := h; cases h) (fun _ _ h => by obtain ⟨_, h, _⟩ := h; cases h))
   intro v10 I11 H12 hle13 hp14
   have hr := hr.mono hle13
   have htk := htk.mono hle13
   have hrow := hrow.mono hle13
   obtain ⟨vhq1, h, hq1, rfl⟩ := hp14; cases h
   refine ⟨⟨(Le.trans (Le.refl _) hle13), HSub.n, CSub.n⟩, ?_⟩
   refine JA.stepG 7 1 42 true _ (by kernel_rfl) rfl rfl rfl rfl rfl (op_call (H1 := []) rfl rfl rfl rfl rfl (rParts_ok (n % 62 - 1) hm62 ml (by omega) _ _ hrow) ?_ (fun _ _ _ _ h => by obtain ⟨_, h, _⟩ := h; cases h) (fun _ _ h => by obtain ⟨_, h, _⟩ := h; cases h))
   intro v15 I16 H17 hle18 hp19
   have hr := hr.mono hle18
   have htk := htk.mono hle18
   have hrow := hrow.mono hle18
   have hq1 := hq1.mono hle18
   obtain ⟨vhq2, h, hq2, rfl⟩ := hp19; cases h
   refine ⟨⟨(Le.trans (Le.trans (Le.refl _) hle13) hle18), HSub.n, CSub.n⟩, ?_⟩
   refine JA.stepG 8 1 42 true _ (by kernel_rfl) rfl rfl rfl rfl rfl (op_pure rfl rfl rfl rfl rfl (SameParts_ok (partsI (n % 62 - 1) ml) (partsI (n % 62 - 1) ml) _ _ (partsI_len _ _ hm62).1 (partsI_len _ _ hm62).2 _ hq1 hq2) ?_)
   refine ⟨⟨(Le.trans (Le.trans (Le.refl _) hle13) hle18), HSub.n, CSub.n⟩, ?_⟩
   refine JA.eqv 49 rfl (show _ = .bool true from (congrArg Value.bool (decide_eq_true rfl))) ?_
   refine JA.fix ⟨HSub.n, CSub.n, (Le.trans (Le.trans (Le.refl _) hle13) hle18)⟩ (fun fx20 => ?_)
   refine JA.tk 9 rfl fx20 (yl_pick1 rfl rfl rfl rfl) ?_
   refine JA.tk 10 rfl fx20 (yl_move rfl rfl) ?_
   refine JA.tkG 11 10 51 true _ rfl fx20 rfl rfl rfl (yl_move rfl rfl) ?_
   refine JA.tkG 12 10 51 true _ rfl fx20 rfl rfl rfl (yl_move rfl rfl) ?_
   refine JA.tkG 13 10 51 true _ rfl fx20 rfl rfl rfl (yl_move rfl rfl) ?_
   refine JA.tkG 14 10 51 true _ rfl fx20 rfl rfl rfl (yl_lenSlice rfl rfl Tryz.underlying53) ?_
   refine JA.tkG 15 10 51 true _ rfl fx20 rfl rfl rfl (yl_min2 rfl rfl rfl) ?_
   refine JA.eqv 56 rfl (show _ = i64 ((min ps.length 60 : Nat) : Int) from (congrArg i64 (nmin ps.length 60))) ?_
   refine JA.tkG 16 10 51 true _ rfl fx20 rfl rfl rfl (yl_sliceTo rfl rfl rfl Tryz.underlying53 Tryz.sizeOf56 (by omega)) ?_
   refine JA.tkG 18 10 51 true _ rfl fx20 rfl rfl rfl (yl_move rfl rfl) ?_
   refine JA.tkG 19 10 51 true _ rfl fx20 rfl rfl rfl (yl_move rfl rfl) ?_
   refine JA.tkG 20 10 51 true _ rfl fx20 rfl rfl rfl (yl_move rfl rfl) ?_
   refine JA.tkG 21 10 51 true _ rfl fx20 rfl rfl rfl (yl_lenSlice rfl rfl Tryz.underlying53) ?_
   refine JA.tkG 22 10 51 true _ rfl fx20 rfl rfl rfl (yl_min2 rfl rfl rfl) ?_
   refine JA.eqv 63 rfl (show _ = i64 ((min ps.length 60 : Nat) : Int) from (congrArg i64 (nmin ps.length 60))) ?_
   refine JA.tkG 23 10 51 true _ rfl fx20 rfl rfl rfl (yl_sliceTo rfl rfl rfl Tryz.underlying53 Tryz.sizeOf56 (by omega)) ?_
   refine JA.stepG 17 10 51 true _ (by kernel_rfl) rfl rfl rfl rfl rfl (op_call (H1 := []) rfl rfl rfl rfl rfl (Parts_ok (n % 62 - 1) hm62 (ps.take (min ps.length 60)) (by omega) _ _ htk) ?_ (fun _ _ _ _ h => by obtain ⟨_, h, _⟩ := h; cases h) (fun _ _ h => by obtain ⟨_, h, _⟩ := h; cases h))
   intro v21 I22 H23 hle24 hp25
   have hr := hr.mono hle24
   have htk := htk.mono hle24
   have hrow := hrow.mono hle24
   have hq1 := hq1.mono hle24
   have hq2 := hq2.mono hle24
   obtain ⟨vhq3, h, hq3, rfl⟩ := hp25; cases h
   refine ⟨⟨(Le.trans (Le.trans (Le.trans (Le.refl _) hle13) hle18) hle24), HSub.n, CSub.n⟩, ?_⟩
   refine JA.stepG 24 10 51 true _ (by kernel_rfl) rfl rfl rfl rfl rfl (op_call (H1 := []) rfl rfl rfl rfl rfl (rParts_ok (n % 62 - 1) hm62 (ps.take (min ps.length 60)) (by omega) _ _ htk) ?_ (fun _ _ _ _ h => by obtain ⟨_, h, _⟩ := h; cases h) (fun _ _ h => by obtain ⟨_, h, _⟩ := h; cases h))
   intro v26 I27 H28 hle29 hp30
   have hr := hr.mono hle29
   have htk := htk.mono hle29
   have hrow := hrow.mono hle29
   have hq1 := hq1.mono hle29
   have hq2 := hq2.mono hle29
   have hq3 := hq3.mono hle29
   obtain ⟨vhq4, h, hq4, rfl⟩ := hp30; cases h
   refine ⟨⟨(Le.trans (Le.trans (Le.trans (Le.trans (Le.refl _) hle13) hle18) hle24) hle29), HSub.n, CSub.n⟩, ?_⟩
   refine JA.stepG 25 10 51 true _ (by kernel_rfl) rfl rfl rfl rfl rfl (op_pure rfl rfl rfl rfl rfl (SameParts_ok (partsI (n % 62 - 1) (ps.take (min ps.length 60))) (partsI (n % 62 - 1) (ps.take (min ps.length 60))) _ _ (partsI_len _ _ hm62).1 (partsI_len _ _ hm62).2 _ hq3 hq4) ?_)
   refine ⟨⟨(Le.trans (Le.trans (Le.trans (Le.trans (Le.refl _) hle13) hle18) hle24) hle29), HSub.n, CSub.n⟩, ?_⟩
   refine JA.eqv 66 rfl (show _ = .bool true from (congrArg Value.bool (decide_eq_true rfl))) ?_
   refine JA.fix ⟨HSub.n, CSub.n, (Le.trans (Le.trans (Le.trans (Le.trans (Le.refl _) hle13) hle18) hle24) hle29)⟩ (fun fx31 => ?_)
   refine JA.tk 26 rfl fx31 (yl_pick1 rfl rfl rfl rfl) ?_
   refine JA.tk 27 rfl fx31 (yl_assign rfl rfl) ?_
   refine JA.done (by kernel_rfl) ?_
   refine Ej.seq (Cj.ret (Ej.ret1 rfl rfl rfl ?_))
   exact ⟨rfl, rfl⟩
 ·
  have hg1p := of_decide_eq_false hg1
  have hgf : True := trivial
  refine J.skip 4 17 18 true _ rfl rfl rfl hg1 rfl rfl ?_
  refine J.skip 4 17 19 true _ rfl rfl rfl hg1 rfl rfl ?_
  refine J.z (yl_pick0 rfl rfl hg1 rfl) ?_
  refine J.nil (Ej.seq (Cj.cond rfl (fun hc32 => Bool.noConfusion (Eq.trans (Eq.symm rfl) hc32)) (fun hc32 => ?_)))
  refine Cj.exit (Ej.seqExit (Ej.loopExit (Ej.blkExit (Ej.seq (Cj.seq ?_)))))
  rw [show gH _ (((ps.take i).map mod64).flatMap twoC) g = gH _ (((ps.take i).map mod64).flatMap twoC) g ++ [] from (List.append_nil _).symm]
  refine Cj.keepR twoC_len (by decide) hg rfl (fun I9 hle9 hrow => ?_)
  have hr := hr.mono hle9
  have htk := RowS.take hr (show min ps.length 60 ≤ ps.length from Nat.min_le_left _ _)
  obtain ⟨ml, hmld⟩ : ∃ ml, ml = (ps.take i).map mod64 := ⟨_, rfl⟩
  rw [← hmld] at hrow hml
  rw [← hmld]
  have htl : (ps.take (min ps.length 60)).length ≤ 60 := by rw [List.length_take]; omega
  have hm62 : n % 62 - 1 ≤ 100000 := by omega
  refine Cj.drawSel [] [] 28 (by kernel_rfl) ?_
  refine JA.fix ⟨HSub.n, CSub.n, (Le.refl _)⟩ (fun fx33 => ?_)
  refine JA.tk 0 rfl fx33 (yl_move rfl rfl) ?_
  refine JA.tk 1 rfl fx33 (yl_move rfl rfl) ?_
  refine JA.tkG 2 1 42 true _ rfl fx33 rfl rfl rfl (yl_move rfl rfl) ?_
  refine JA.tkG 3 1 42 true _ rfl fx33 rfl rfl rfl (yl_move rfl rfl) ?_
  refine JA.tkG 5 1 42 true _ rfl fx33 rfl rfl rfl (yl_move rfl rfl) ?_
  refine JA.tkG 6 1 42 true _ rfl fx33 rfl rfl rfl (yl_move rfl rfl) ?_
  refine JA.stepG 4 1 42 true _ (by kernel_rfl) rfl rfl rfl rfl rfl (op_call (H1 := []) rfl rfl rfl rfl rfl (Parts_ok (n % 62 - 1) hm62 ml (by omega) _ _ hrow) ?_ (fun _ _ _ _ h => by obtain ⟨_, h, _⟩ := h; cases h) (fun _ _ h => by obtain ⟨_, h, _⟩ := h; cases h))
  intro v34 I35 H36 hle37 hp38
  have hr := hr.mono hle37
  have htk := htk.mono hle37
  have hrow := hrow.mono hle37
  obtain ⟨vhq1, h, hq1, rfl⟩ := hp38; cases h
  refine ⟨⟨(Le.trans (Le.refl _) hle37), HSub.n, CSub.n⟩, ?_⟩
  refine JA.stepG 7 1 42 true _ (by kernel_rfl) rfl rfl rfl rfl rfl (op_call (H1 := []) rfl rfl rfl rfl rfl (rParts_ok (n % 62 - 1) hm62 ml (by omega) _ _ hrow) ?_ (fun _ _ _ _ h => by obtain ⟨_, h, _⟩ := h; cases h) (fun _ _ h => by obtain ⟨_, h, _⟩ := h; cases h))
  intro v39 I40 H41 hle42 hp43
  have hr := hr.mono hle42
  have htk := htk.mono hle42
  have hrow := hrow.mono hle42
  have hq1 := hq1.mono hle42
  obtain ⟨vhq2, h, hq2, rfl⟩ := hp43; cases h
  refine ⟨⟨(Le.trans (Le.trans (Le.refl _) hle37) hle42), HSub.n, CSub.n⟩, ?_⟩
  refine JA.stepG 8 1 42 true _ (by kernel_rfl) rfl rfl rfl rfl rfl (op_pure rfl rfl rfl rfl rfl (SameParts_ok (partsI (n % 62 - 1) ml) (partsI (n % 62 - 1) ml) _ _ (partsI_len _ _ hm62).1 (partsI_len _ _ hm62).2 _ hq1 hq2) ?_)
  refine ⟨⟨(Le.trans (Le.trans (Le.refl _) hle37) hle42), HSub.n, CSub.n⟩, ?_⟩
  refine JA.eqv 49 rfl (show _ = .bool true from (congrArg Value.bool (decide_eq_true rfl))) ?_
  refine JA.fix ⟨HSub.n, CSub.n, (Le.trans (Le.trans (Le.refl _) hle37) hle42)⟩ (fun fx44 => ?_)
  refine JA.tk 9 rfl fx44 (yl_pick1 rfl rfl rfl rfl) ?_
  refine JA.tk 10 rfl fx44 (yl_move rfl rfl) ?_
  refine JA.tkG 11 10 51 true _ rfl fx44 rfl rfl rfl (yl_move rfl rfl) ?_
  refine JA.tkG 12 10 51 true _ rfl fx44 rfl rfl rfl (yl_move rfl rfl) ?_
  refine JA.tkG 13 10 51 true _ rfl fx44 rfl rfl rfl (yl_move rfl rfl) ?_
  refine JA.tkG 14 10 51 true _ rfl fx44 rfl rfl rfl (yl_lenSlice rfl rfl Tryz.underlying53) ?_
  refine JA.tkG 15 10 51 true _ rfl fx44 rfl rfl rfl (yl_min2 rfl rfl rfl) ?_
  refine JA.eqv 56 rfl (show _ = i64 ((min ps.length 60 : Nat) : Int) from (congrArg i64 (nmin ps.length 60))) ?_
  refine JA.tkG 16 10 51 true _ rfl fx44 rfl rfl rfl (yl_sliceTo rfl rfl rfl Tryz.underlying53 Tryz.sizeOf56 (by omega)) ?_
  refine JA.tkG 18 10 51 true _ rfl fx44 rfl rfl rfl (yl_move rfl rfl) ?_
  refine JA.tkG 19 10 51 true _ rfl fx44 rfl rfl rfl (yl_move rfl rfl) ?_
  refine JA.tkG 20 10 51 true _ rfl fx44 rfl rfl rfl (yl_move rfl rfl) ?_
  refine JA.tkG 21 10 51 true _ rfl fx44 rfl rfl rfl (yl_lenSlice rfl rfl Tryz.underlying53) ?_
  refine JA.tkG 22 10 51 true _ rfl fx44 rfl rfl rfl (yl_min2 rfl rfl rfl) ?_
  refine JA.eqv 63 rfl (show _ = i64 ((min ps.length 60 : Nat) : Int) from (congrArg i64 (nmin ps.length 60))) ?_
  refine JA.tkG 23 10 51 true _ rfl fx44 rfl rfl rfl (yl_sliceTo rfl rfl rfl Tryz.underlying53 Tryz.sizeOf56 (by omega)) ?_
  refine JA.stepG 17 10 51 true _ (by kernel_rfl) rfl rfl rfl rfl rfl (op_call (H1 := []) rfl rfl rfl rfl rfl (Parts_ok (n % 62 - 1) hm62 (ps.take (min ps.length 60)) (by omega) _ _ htk) ?_ (fun _ _ _ _ h => by obtain ⟨_, h, _⟩ := h; cases h) (fun _ _ h => by obtain ⟨_, h, _⟩ := h; cases h))
  intro v45 I46 H47 hle48 hp49
  have hr := hr.mono hle48
  have htk := htk.mono hle48
  have hrow := hrow.mono hle48
  have hq1 := hq1.mono hle48
  have hq2 := hq2.mono hle48
  obtain ⟨vhq3, h, hq3, rfl⟩ := hp49; cases h
  refine ⟨⟨(Le.trans (Le.trans (Le.trans (Le.refl _) hle37) hle42) hle48), HSub.n, CSub.n⟩, ?_⟩
  refine JA.stepG 24 10 51 true _ (by kernel_rfl) rfl rfl rfl rfl rfl (op_call (H1 := []) rfl rfl rfl rfl rfl (rParts_ok (n % 62 - 1) hm62 (ps.take (min ps.length 60)) (by omega) _ _ htk) ?_ (fun _ _ _ _ h => by obtain ⟨_, h, _⟩ := h; cases h) (fun _ _ h => by obtain ⟨_, h, _⟩ := h; cases h))
  intro v50 I51 H52 hle53 hp54
  have hr := hr.mono hle53
  have htk := htk.mono hle53
  have hrow := hrow.mono hle53
  have hq1 := hq1.mono hle53
  have hq2 := hq2.mono hle53
  have hq3 := hq3.mono hle53
  obtain ⟨vhq4, h, hq4, rfl⟩ := hp54; cases h
  refine ⟨⟨(Le.trans (Le.trans (Le.trans (Le.trans (Le.refl _) hle37) hle42) hle48) hle53), HSub.n, CSub.n⟩, ?_⟩
  refine JA.stepG 25 10 51 true _ (by kernel_rfl) rfl rfl rfl rfl rfl (op_pure rfl rfl rfl rfl rfl (SameParts_ok (partsI (n % 62 - 1) (ps.take (min ps.length 60))) (partsI (n % 62 - 1) (ps.take (min ps.length 60))) _ _ (partsI_len _ _ hm62).1 (partsI_len _ _ hm62).2 _ hq3 hq4) ?_)
  refine ⟨⟨(Le.trans (Le.trans (Le.trans (Le.trans (Le.refl _) hle37) hle42) hle48) hle53), HSub.n, CSub.n⟩, ?_⟩
  refine JA.eqv 66 rfl (show _ = .bool true from (congrArg Value.bool (decide_eq_true rfl))) ?_
  refine JA.fix ⟨HSub.n, CSub.n, (Le.trans (Le.trans (Le.trans (Le.trans (Le.refl _) hle37) hle42) hle48) hle53)⟩ (fun fx55 => ?_)
  refine JA.tk 26 rfl fx55 (yl_pick1 rfl rfl rfl rfl) ?_
  refine JA.tk 27 rfl fx55 (yl_assign rfl rfl) ?_
  refine JA.done (by kernel_rfl) ?_
  refine Ej.seq (Cj.ret (Ej.ret1 rfl rfl rfl ?_))
  exact ⟨rfl, rfl⟩
end Go.Proofs.YtadnofaleepkmaaGreatDoor
