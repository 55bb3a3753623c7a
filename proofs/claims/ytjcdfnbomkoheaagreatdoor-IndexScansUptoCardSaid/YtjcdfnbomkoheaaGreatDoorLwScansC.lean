/-
  The law IndexScans. Own text, printed by a program. Conditions: none.
-/
import Derived.Test.YtjcdfnbomkoheaaGreatDoorPC16
import Derived.Test.YtjcdfnbomkoheaaGreatDoorPC15
set_option maxRecDepth 100000
set_option maxHeartbeats 4000000
namespace Go.Proofs.YtjcdfnbomkoheaaGreatDoor
open _root_.Go.Proofs.Tryz
open Go Go.Sx
theorem rem20 (m : UInt8) : Go.IntKind.wrap .i64 ((m.toNat : Int).tmod 20) = ((m.toNat % 20 : Nat) : Int) := by
  rw [show (m.toNat : Int).tmod 20 = ((m.toNat % 20 : Nat) : Int) from rfl]
  exact w64 (by omega)
theorem IndexScans_ok (xs : List Act) (v : Value) (hao : ActsOk xs) (n : UInt8) (text : List UInt8) (m : UInt8) (htl : text.length ≤ 100000000) (I : Heap) (hA : ActsS I xs v) : Pure Tryz.prog 4 [v, u8 n, .agg #[str text, u8 m]] I (.bool true) := by
 refine Ctr.toPure ?_
 have hsrt := Ix.play_srt (acts xs)
 have hfew := Ix.play_few (acts xs)
 obtain ⟨ms, hms⟩ : ∃ ms : Int, ms = ((m.toNat % 20 : Nat) : Int) - 3 := ⟨_, rfl⟩
 refine Ctr.ob func4 ?_
 intro w0 hw0
 refine Cj.sr (J.op rfl (q25 ?_))
 intro b1 hb1
 refine J.z q1 ?_
 refine J.nss (Cj.persist hb1 (fun I3 hle2 hb1i => ?_))
 have hA := hA.mono hle2
 refine Cj.region (J.op rfl (op_pure rfl rfl rfl rfl rfl (sanity_ok _) ?_))
 refine J.z q1 ?_
 refine J.nssr (J.z q0 ?_)
 refine J.op rfl (op_callN rfl rfl rfl rfl rfl (play_ok xs _ hao _ hA) ?_ (fun _ _ _ _ ⟨_, _, h, _⟩ => nomatch h) (fun _ _ ⟨_, _, h, _⟩ => nomatch h))
 intro v5 I6 H7 hle8 hn4 hp9
 have hA := hA.mono hle8
 have hb1i := hle8 _ _ hb1i
 obtain ⟨ib, o, h, hok, rfl⟩ := hp9; cases h
 refine J.persists (ixH ib o) hn4 (fun Ip hlep hK => ?_)
 have hA := hA.mono hlep
 have hb1i := hlep _ _ hb1i
 have hx : IxP Ip ib (Ix.play (acts xs)) := ⟨o, hok.mono hlep, hK⟩
 clear hok hK
 refine J.z q1 ?_
 refine J.nssr (J.z q0 ?_)
 refine J.z q0 ?_
 refine J.op rfl (op_pure rfl rfl rfl rfl rfl (name_ok n _) ?_)
 refine J.op rfl (op_callN rfl rfl rfl rfl rfl (Scan_ok ib (Ix.play (acts xs)) (nameN n) [] (by decide) 1000 _ hx) ?_ (fun _ _ _ _ ⟨_, h, _⟩ => nomatch h) (fun _ _ ⟨_, h, _⟩ => nomatch h))
 intro v11 I12 H13 hle14 hn10 hp15
 have hA := hA.mono hle14
 have hb1i := hle14 _ _ hb1i
 have hx := hx.mono hle14
 obtain ⟨wa, h, hoa⟩ := hp15; cases h
 refine J.keepO hoa hn10 (fun Ia hlea hra => ?_)
 have hA := hA.mono hlea
 have hb1i := hlea _ _ hb1i
 have hx := hx.mono hlea
 replace hra := hra.row
 obtain ⟨al, hal⟩ : ∃ al, al = Ix.scan (Ix.play (acts xs)) (nameN n) [] 1000 := ⟨_, rfl⟩
 rw [← hal] at hra
 have hall : al.length ≤ 480 := by rw [hal, Ix.scan_whole hfew, List.length_map]; exact Ix.keysAll_few hfew _ _
 obtain ⟨pa, ca, hae⟩ := RowS.len hra
 rw [List.length_map] at hae
 refine J.eqv 23 rfl hae ?_
 rw [hae] at hra
 refine J.z q1 ?_
 refine J.nsss (Cj.region (J.z q0 ?_))
 refine J.z (q16 underlying47) ?_
 refine J.z q0 ?_
 refine J.ns (Cj.block (Cj.loop (ι := Nat) (fun y => y ≤ al.length) (fun y => al.length - y) (fun y => [(1, u8 n), (5, ptr b1 0), (7, .bool true), (8, ptr ib 0), (9, .slice pa al.length ca), (24, .slice pa al.length ca), (25, i64 (al.length : Int)), (26, i64 (y : Int))]) (fun y => _) (fun y => []) 0 (Nat.zero_le _) ⟨rfl, rfl, rfl, rfl, rfl, rfl, rfl, rfl, trivial⟩ rfl rfl ?_))
 rintro y hy
 dsimp only at hy ⊢
 refine Cj.sr (J.z q17 ?_)
 refine J.nss (Cj.cond rfl (fun hc16 => ?_) (fun hc16 => ?_))
 ·
  have hc16p := of_decide_eq_true hc16
  refine Cj.skip (Ej.seq (Cj.seq (Cj.block (Cj.seq ?_))))
  have hlt : y < al.length := by omega
  obtain ⟨x, hget⟩ : ∃ x, al[y]? = some x := ⟨_, List.getElem?_eq_getElem hlt⟩
  have hxs := Ix.scan_line hsrt hfew (hal ▸ hget)
  have hgm : (al.map lineI)[y]? = some (lineI x) := by rw [List.getElem?_map, hget]; rfl
  have hra2 := id hra
  rw [← List.length_map (f := lineI)] at hra2
  obtain ⟨p1, c1, hpe, hc1, hp⟩ := hra2
  cases hpe
  obtain ⟨ab, ao, acs, aty, afr, asp, rfl, hab, had⟩ := hp (ne_nil_of (by rw [List.length_map]; exact hlt))
  refine Cj.region (J.z q0 ?_)
  refine J.z (q24 (off' := ao + y * 2) underlying47 sizeOf57) ?_
  refine J.z (yl_loadAgg rfl rfl isAgg57 sizeOf57 (Blk.imm hab) (row_from lineC_len had hgm) rfl) ?_
  refine J.op rfl (op_alloc rfl rfl rfl zeroValue57 rfl ?_)
  intro b17 hb17
  refine J.z q1 ?_
  refine J.op rfl (q18 0 sizeOf57 (LSpl.c (LSpl.c LSpl.z)) LSet.z ?_)
  refine J.nss (Cj.drawSel [0] [] 28 (by kernel_rfl) ?_)
  refine JA.fix ⟨(HSub.c 0 rfl HSub.n), CSub.n, (Le.refl _)⟩ (fun fx18 => ?_)
  refine JA.tk 0 rfl fx18 (q3 (off' := 0) underlying57 sizeOf9) ?_
  refine JA.tk 1 rfl fx18 (q7 isAgg9 (Blk.atC 0 rfl)) ?_
  refine JA.tk 2 rfl fx18 (yl_eqlStr rfl rfl rfl) ?_
  refine JA.eqv 33 rfl (show _ = .bool false from (congrArg Value.bool (beq_eq_false_iff_ne.2 hxs.1))) ?_
  refine JA.tk 3 rfl fx18 q0 ?_
  refine JA.tkG 4 3 34 false _ rfl fx18 rfl rfl rfl (q3 (off' := 1) underlying57 sizeOf3) ?_
  refine JA.tkG 5 3 34 false _ rfl fx18 rfl rfl rfl (q7 isAgg3 (Blk.atC 0 rfl)) ?_
  refine JA.tkG 6 3 34 false _ rfl fx18 rfl rfl rfl q17 ?_
  refine JA.eqv 37 rfl (show _ = .bool false from (congrArg Value.bool (decide_eq_false (by dsimp only [lineI]; omega)))) ?_
  refine JA.tk 7 rfl fx18 q21 ?_
  refine JA.tk 8 rfl fx18 q0 ?_
  refine JA.tkG 9 8 39 false _ rfl fx18 rfl rfl rfl (q3 (off' := 1) underlying57 sizeOf3) ?_
  refine JA.tkG 10 8 39 false _ rfl fx18 rfl rfl rfl (q7 isAgg3 (Blk.atC 0 rfl)) ?_
  refine JA.tkG 11 8 39 false _ rfl fx18 rfl rfl rfl (yl_gtr rfl rfl rfl) ?_
  refine JA.eqv 42 rfl (show _ = .bool false from (congrArg Value.bool (decide_eq_false (by dsimp only [lineI]; omega)))) ?_
  refine JA.tk 12 rfl fx18 q21 ?_
  refine JA.tk 13 rfl fx18 q0 ?_
  refine JA.tkG 14 13 44 false _ rfl fx18 rfl rfl rfl q0 ?_
  refine JA.tkG 15 13 44 false _ rfl fx18 rfl rfl rfl (yl_gtr rfl rfl rfl) ?_
  refine JA.tkG 16 13 44 false _ rfl fx18 rfl rfl rfl q0 ?_
  refine JA.split 47 rfl (fun hg19 => ?_) (fun hg19 => ?_)
  rotate_left
  ·
   have hg19p := of_decide_eq_false hg19
   refine q8 17 16 47 true fx18 (.inl (congrArg Value.bool hg19)) ?_
   refine q8 18 16 47 true fx18 (.inl (congrArg Value.bool hg19)) ?_
   refine q8 19 16 47 true fx18 (.inl (congrArg Value.bool hg19)) ?_
   refine q8 20 16 47 true fx18 (.inl (congrArg Value.bool hg19)) ?_
   refine q8 21 16 47 true fx18 (.inl (congrArg Value.bool hg19)) ?_
   refine q8 22 16 47 true fx18 (.inl (congrArg Value.bool hg19)) ?_
   refine q8 23 16 47 true fx18 (.inl (congrArg Value.bool hg19)) ?_
   refine q8 24 16 47 true fx18 (.inl (congrArg Value.bool hg19)) ?_
   refine q8 25 16 47 true fx18 (.inl (congrArg Value.bool hg19)) ?_
   refine JA.tkG 26 13 44 false _ rfl fx18 rfl rfl rfl (q10 hg19) ?_
   refine JA.tk 27 rfl fx18 q21 ?_
   refine JA.done (by kernel_rfl) ?_
   refine Ej.seq (Cj.cond rfl (fun hc21 => Bool.noConfusion (Eq.trans (Eq.symm rfl) hc21)) (fun hc21 => ?_))
   refine Cj.skip (Ej.blkNormal (Ej.seq (Cj.region (J.z (yl_add rfl rfl rfl (w64 (by omega))) ?_))))
   refine J.z q0 ?_
   refine J.nil (Ej.keep (Keeps.d Keeps.n) ?_)
   refine Ej.round (y + 1) (by omega) (by omega) ⟨rfl, rfl, rfl, rfl, rfl, rfl, rfl, rfl, trivial⟩ rfl rfl
  have hg19p := of_decide_eq_true hg19
  have hy0 : 0 < y := by have h := of_decide_eq_true hg19; omega
  obtain ⟨z, hgz⟩ : ∃ x, al[y - 1]? = some x := ⟨_, List.getElem?_eq_getElem (by omega)⟩
  have hgzm : (al.map lineI)[y - 1]? = some (lineI z) := by rw [List.getElem?_map, hgz]; rfl
  have hzx : z.1 < x.1 := Ix.scan_inc hfew (by omega : y - 1 < y) (hal ▸ hgz) (hal ▸ hget)
  refine JA.tkG 17 16 47 true _ rfl fx18 rfl rfl hg19 q0 ?_
  refine JA.tkG 18 16 47 true _ rfl fx18 rfl rfl hg19 q0 ?_
  refine JA.tkG 19 16 47 true _ rfl fx18 rfl rfl hg19 (yl_sub rfl rfl rfl (w64 (by omega))) ?_
  refine JA.tkG 20 16 47 true _ rfl fx18 rfl rfl hg19 (yl_indexAddr (off' := ao + (y - 1) * 2) rfl rfl rfl underlying47 sizeOf57 (by omega) (by omega) (by omega)) ?_
  refine JA.tkG 21 16 47 true _ rfl fx18 rfl rfl hg19 (q3 underlying57 sizeOf9) ?_
  refine JA.tkG 22 16 47 true _ rfl fx18 rfl rfl hg19 (yl_load rfl rfl isAgg9 (Blk.immC hab) (row_fcell lineC_len had hgzm 0 (by decide))) ?_
  refine JA.tkG 23 16 47 true _ rfl fx18 rfl rfl hg19 (q3 (off' := 0) underlying57 sizeOf9) ?_
  refine JA.tkG 24 16 47 true _ rfl fx18 rfl rfl hg19 (q7 isAgg9 (Blk.atC 0 rfl)) ?_
  refine JA.tkG 25 16 47 true _ rfl fx18 rfl rfl hg19 (yl_geqStr rfl rfl rfl) ?_
  refine JA.eqv 56 rfl (show _ = .bool false from (congrArg Value.bool (by simp [hzx]))) ?_
  refine JA.tkG 26 13 44 false _ rfl fx18 rfl rfl rfl (q11 hg19) ?_
  refine JA.tk 27 rfl fx18 q21 ?_
  refine JA.done (by kernel_rfl) ?_
  refine Ej.seq (Cj.cond rfl (fun hc20 => Bool.noConfusion (Eq.trans (Eq.symm rfl) hc20)) (fun hc20 => ?_))
  refine Cj.skip (Ej.blkNormal (Ej.seq (Cj.region (J.z (yl_add rfl rfl rfl (w64 (by omega))) ?_))))
  refine J.z q0 ?_
  refine J.nil (Ej.keep (Keeps.d Keeps.n) ?_)
  refine Ej.round (y + 1) (by omega) (by omega) ⟨rfl, rfl, rfl, rfl, rfl, rfl, rfl, rfl, trivial⟩ rfl rfl
 have hc16p := of_decide_eq_false hc16
 refine Cj.exit (Ej.seqExit (Ej.loopExit (Ej.blkExit (Ej.seq (Cj.seq (Cj.drawSel [] [] 6 (by kernel_rfl) ?_))))))
 have hb1i_10 := hb1i
 refine JA.fix fx1 (fun fx22 => ?_)
 refine JA.tk 0 rfl fx22 q0 ?_
 refine JA.tk 2 rfl fx22 (q3 (off' := 0) underlying53 sizeOf9) ?_
 refine JA.tk 3 rfl fx22 (q7 isAgg9 (Blk.immC hb1i_10)) ?_
 refine q15 1 rfl (op_pure rfl rfl rfl rfl rfl (name_ok n _) ?_)
 refine ⟨fx0, ?_⟩
 refine q15 4 rfl (op_pure rfl rfl rfl rfl rfl (rKeyOf_ok (nameN n) text htl _) ?_)
 refine ⟨fx0, ?_⟩
 obtain ⟨kb, hkb⟩ : ∃ kb, kb = Ix.keyOf (nameN n) text := ⟨_, rfl⟩
 refine JA.eqv 64 rfl (congrArg str hkb.symm) ?_
 refine JA.fix fx1 (fun fx23 => ?_)
 refine JA.tk 5 rfl fx23 q1 ?_
 refine JA.done (by kernel_rfl) ?_
 refine Ej.seq (Cj.sr (J.z (q3 (off' := 1) underlying53 sizeOf5) ?_))
 refine J.z (q7 isAgg5 (Blk.imm hb1i)) ?_
 refine J.z (yl_rem rfl rfl rfl (by omega)) ?_
 refine J.z (yl_convInt rfl rfl underlying5 underlying3) ?_
 refine J.eqv 68 rfl (show _ = i64 ((m.toNat % 20 : Nat) : Int) from (congrArg i64 (rem20 m))) ?_
 refine J.z (yl_sub rfl rfl rfl (w64 (by omega))) ?_
 refine J.eqv 69 rfl (show _ = i64 ms from (congrArg i64 hms.symm)) ?_
 refine J.z q1 ?_
 refine J.nssr (J.z q1 ?_)
 refine J.nsss (Cj.region (J.z q0 ?_))
 refine J.z (q16 underlying47) ?_
 refine J.z q0 ?_
 refine J.ns (Cj.block (Cj.loop (ι := Nat × Gs) (fun y => y.1 ≤ al.length ∧ gOk w0.heap.size 2 (((al.take y.1).filter fun q => decide (¬ q.1 < kb)).take ms.toNat).length (((((al.take y.1).filter fun q => decide (¬ q.1 < kb)).take ms.toNat).map lineI).flatMap lineC) y.2) (fun y => al.length - y.1) (fun y => [(1, u8 n), (5, ptr b1 0), (7, .bool true), (8, ptr ib 0), (9, .slice pa al.length ca), (12, str kb), (13, i64 ms), (14, gV (((al.take y.1).filter fun q => decide (¬ q.1 < kb)).take ms.toNat).length y.2), (70, .slice pa al.length ca), (71, i64 (al.length : Int)), (72, i64 (y.1 : Int))]) (fun y => _) (fun y => gH 57 (((((al.take y.1).filter fun q => decide (¬ q.1 < kb)).take ms.toNat).map lineI).flatMap lineC) y.2) (0, none) ⟨Nat.zero_le _, by simp, by simp⟩ ⟨rfl, rfl, rfl, rfl, rfl, rfl, rfl, rfl, rfl, rfl, rfl, trivial⟩ rfl rfl ?_))
 rintro ⟨y, g⟩ ⟨hy, hg⟩
 dsimp only at hy hg ⊢
 refine Cj.sr (J.z q17 ?_)
 refine J.nss (Cj.cond rfl (fun hc24 => ?_) (fun hc24 => ?_))
 ·
  have hc24p := of_decide_eq_true hc24
  refine Cj.skip (Ej.seq (Cj.seq (Cj.block (Cj.seq ?_))))
  have hlt : y < al.length := by omega
  obtain ⟨x, hget⟩ : ∃ x, al[y]? = some x := ⟨_, List.getElem?_eq_getElem hlt⟩
  have hgm : (al.map lineI)[y]? = some (lineI x) := by rw [List.getElem?_map, hget]; rfl
  have hra2 := id hra
  rw [← List.length_map (f := lineI)] at hra2
  obtain ⟨p1, c1, hpe, hc1, hp⟩ := hra2
  cases hpe
  obtain ⟨ab, ao, acs, aty, afr, asp, rfl, hab, had⟩ := hp (ne_nil_of (by rw [List.length_map]; exact hlt))
  refine Cj.region (J.z (q24 (off' := ao + y * 2) underlying47 sizeOf57) ?_)
  refine J.z (yl_loadAgg rfl rfl isAgg57 sizeOf57 (Blk.imm hab) (row_from lineC_len had hgm) rfl) ?_
  refine J.op rfl (op_alloc rfl rfl rfl zeroValue57 rfl ?_)
  intro b25 hb25
  refine J.op rfl (q18 0 sizeOf57 (LSpl.c (LSpl.c LSpl.z)) LSet.z ?_)
  refine J.nssr (J.z (q3 (off' := 0) underlying57 sizeOf9) ?_)
  refine J.z (q7 isAgg9 (Blk.at 0 rfl)) ?_
  refine J.z q0 ?_
  refine J.z (yl_geqStr rfl rfl rfl) ?_
  refine J.z q0 ?_
  refine J.split 80 rfl (fun hg26 => ?_) (fun hg26 => ?_)
  rotate_left
  ·
   have hno : ¬ ((decide (¬ x.1 < kb)) = true ∧ (((al.take y).filter fun q => decide (¬ q.1 < kb)).take ms.toNat).length < ms.toNat) := fun h => by have h2 := hg26; simp_all
   refine q4 4 80 81 true hg26 ?_
   refine q4 4 80 82 true hg26 ?_
   refine q4 4 80 83 true hg26 ?_
   refine q4 4 80 84 true hg26 ?_
   refine J.z (q10 hg26) ?_
   refine J.c0 (fun hc30 => ?_)
   refine Cj.skip (Ej.blkNormal (Ej.seq (Cj.region (J.z (yl_add rfl rfl rfl (w64 (by omega))) ?_))))
   refine J.z q0 ?_
   refine J.nil ?_
   have hnx : (((al.take (y + 1)).filter fun q => decide (¬ q.1 < kb)).take ms.toNat) = (((al.take y).filter fun q => decide (¬ q.1 < kb)).take ms.toNat) := by rw [Ix.tf_next (p := fun q : List UInt8 × Nat => decide (¬ q.1 < kb)) (m := ms.toNat) hget, if_neg hno]
   refine Ej.keep (Keeps.d Keeps.r) ?_
   refine Ej.round (y + 1, g) ⟨by dsimp only; omega, by dsimp only; rw [hnx]; exact hg⟩ (by dsimp only; omega) ⟨rfl, rfl, rfl, rfl, rfl, rfl, rfl, by dsimp only; rw [hnx]; rfl, rfl, rfl, rfl, trivial⟩ rfl (by dsimp only; rw [hnx])
  have hge : (decide (¬ x.1 < kb)) = true := by have h2 := hg26; simp_all
  refine q5 4 80 true hg26 (q2 q0 ?_)
  refine q5 4 80 true hg26 (q2 (yl_lenG hg rfl rfl underlying47) ?_)
  refine q5 4 80 true hg26 (q2 q0 ?_)
  refine q5 4 80 true hg26 (q2 q17 ?_)
  refine J.z (q11 hg26) ?_
  refine J.cd (fun hc27 => ?_) (fun hc27 => ?_)
  ·
   have hc27p := of_decide_eq_true hc27
   have hlw : (((al.take y).filter fun q => decide (¬ q.1 < kb)).take ms.toNat).length < ms.toNat := by have h2 := of_decide_eq_true hc27; omega
   refine Cj.region (J.z q0 ?_)
   refine J.z (q14 isAgg57 sizeOf57 (Blk.at 0 rfl)) ?_
   refine J.op rfl (q13 underlying47 sizeOf57 zeroValue57 (LCat.agg rfl LCat.none) ?_)
   intro b28 hb28
   refine J.op rfl (op_append (by' := 23) [_, _] rfl rfl rfl rfl rfl underlying47 (.inr ⟨_, underlying47⟩) (by kernel_rfl) sizeOf57 zeroValue57 rfl hg rfl (Src.slice (Blk.at 0 rfl) rfl rfl rfl) (by omega) ?_)
   intro g29 hg29
   refine J.z q1 ?_
   refine J.nil (Ej.blkNormal (Ej.seq (Cj.region (J.z (yl_add rfl rfl rfl (w64 (by omega))) ?_))))
   refine J.z q0 ?_
   refine J.nil ?_
   have hnx : (((al.take (y + 1)).filter fun q => decide (¬ q.1 < kb)).take ms.toNat) = (((al.take y).filter fun q => decide (¬ q.1 < kb)).take ms.toNat) ++ [x] := by rw [Ix.tf_next (p := fun q : List UInt8 × Nat => decide (¬ q.1 < kb)) (m := ms.toNat) hget, if_pos ⟨hge, hlw⟩]
   refine Ej.keep (Keeps.d (Keeps.d Keeps.r)) ?_
   refine Ej.round (y + 1, g29) ⟨by dsimp only; omega, by dsimp only; rw [hnx, List.map_append, List.flatMap_append, List.length_append]; exact hg29⟩ (by dsimp only; omega) ⟨rfl, rfl, rfl, rfl, rfl, rfl, rfl, by dsimp only; rw [hnx, List.length_append]; rfl, rfl, rfl, rfl, trivial⟩ rfl (by dsimp only; rw [hnx, List.map_append, List.flatMap_append]; rfl)
  ·
   have hc27p := of_decide_eq_false hc27
   have hno : ¬ ((decide (¬ x.1 < kb)) = true ∧ (((al.take y).filter fun q => decide (¬ q.1 < kb)).take ms.toNat).length < ms.toNat) := fun h => by have h2 := of_decide_eq_false hc27; omega
   refine Cj.skip (Ej.blkNormal (Ej.seq (Cj.region (J.z (yl_add rfl rfl rfl (w64 (by omega))) ?_))))
   refine J.z q0 ?_
   refine J.nil ?_
   have hnx : (((al.take (y + 1)).filter fun q => decide (¬ q.1 < kb)).take ms.toNat) = (((al.take y).filter fun q => decide (¬ q.1 < kb)).take ms.toNat) := by rw [Ix.tf_next (p := fun q : List UInt8 × Nat => decide (¬ q.1 < kb)) (m := ms.toNat) hget, if_neg hno]
   refine Ej.keep (Keeps.d Keeps.r) ?_
   refine Ej.round (y + 1, g) ⟨by dsimp only; omega, by dsimp only; rw [hnx]; exact hg⟩ (by dsimp only; omega) ⟨rfl, rfl, rfl, rfl, rfl, rfl, rfl, by dsimp only; rw [hnx]; rfl, rfl, rfl, rfl, trivial⟩ rfl (by dsimp only; rw [hnx])
 have hc24p := of_decide_eq_false hc24
 refine Cj.exit (Ej.seqExit (Ej.loopExit (Ej.blkExit (Ej.seq (Cj.seq ?_)))))
 have hyl : y = al.length := by omega
 subst hyl
 rw [List.take_length] at hg ⊢
 refine Cj.perm (H' := gH 57 _ g ++ []) (.of_eq (List.append_nil _)) ?_
 refine Cj.keepR lineC_len (by decide) hg (by rw [List.length_map]) (fun I8 hle8 hv => ?_)
 have hA := hA.mono hle8
 have hb1i := hle8 _ _ hb1i
 have hx := hx.mono hle8
 have hra := hra.mono hle8
 have hwant : ((al.filter fun q => decide (¬ q.1 < kb)).take ms.toNat) = Ix.scan (Ix.play (acts xs)) (nameN n) text ms := by rw [hal, hkb]; exact Ix.scan_want hsrt hfew _ _ _
 rw [hwant] at hv ⊢
 refine Cj.drawSel [] [] 13 (by kernel_rfl) ?_
 have hb1i_19 := hb1i
 refine JA.fix fx1 (fun fx31 => ?_)
 refine JA.tk 0 rfl fx31 q0 ?_
 refine JA.tk 1 rfl fx31 q0 ?_
 refine JA.tkG 2 1 92 true _ rfl fx31 rfl rfl rfl q0 ?_
 refine JA.tkG 3 1 92 true _ rfl fx31 rfl rfl rfl q0 ?_
 refine JA.tkG 5 1 92 true _ rfl fx31 rfl rfl rfl (q3 (off' := 0) underlying53 sizeOf9) ?_
 refine JA.tkG 6 1 92 true _ rfl fx31 rfl rfl rfl (q7 isAgg9 (Blk.immC hb1i_19)) ?_
 refine JA.tkG 7 1 92 true _ rfl fx31 rfl rfl rfl q0 ?_
 refine JA.tkG 9 1 92 true _ rfl fx31 rfl rfl rfl q0 ?_
 refine JA.stepG 4 1 92 true _ (by kernel_rfl) rfl rfl rfl rfl rfl (op_pure rfl rfl rfl rfl rfl (name_ok n _) ?_)
 refine ⟨fx0, ?_⟩
 refine JA.stepG 8 1 92 true _ (by kernel_rfl) rfl rfl rfl rfl rfl (op_callN rfl rfl rfl rfl rfl (Scan_ok ib (Ix.play (acts xs)) (nameN n) text htl ms _ hx) ?_ (fun _ _ _ _ ⟨_, h, _⟩ => nomatch h) (fun _ _ ⟨_, h, _⟩ => nomatch h))
 intro v33 I34 H35 hle36 hn32 hp37
 have hA := hA.mono hle36
 have hb1i := hle36 _ _ hb1i
 have hx := hx.mono hle36
 have hra := hra.mono hle36
 have hv := hv.mono hle36
 obtain ⟨wb, h, hob⟩ := hp37; cases h
 have hnb := hn32
 refine ⟨⟨(Le.trans (Le.refl _) hle36), HSub.n, CSub.n⟩, ?_⟩
 refine JA.keepO hob hnb (fun Ib hleb hrb => ?_)
 have hA := hA.mono hleb
 have hb1i := hleb _ _ hb1i
 have hx := hx.mono hleb
 have hra := hra.mono hleb
 have hv := hv.mono hleb
 replace hrb := hrb.row
 refine JA.stepG 10 1 92 true _ (by kernel_rfl) rfl rfl rfl rfl rfl (op_pure rfl rfl rfl rfl rfl (rLines_ok ((Ix.scan (Ix.play (acts xs)) (nameN n) text ms).map lineI) ((Ix.scan (Ix.play (acts xs)) (nameN n) text ms).map lineI) _ _ (by rw [List.length_map]; unfold Ix.scan; rw [List.length_map, List.length_take]; have := Ix.keysAll_few hfew (nameN n) (Ix.keyOf (nameN n) text); omega) _ hrb hv) ?_)
 refine ⟨⟨(Le.trans (Le.trans (Le.refl _) hle36) hleb), HSub.n, CSub.n⟩, ?_⟩
 refine JA.eqv 101 rfl (show _ = .bool true from (congrArg Value.bool (decide_eq_true rfl))) ?_
 refine JA.fix ⟨HSub.n, CSub.n, (Le.trans (Le.trans (Le.refl _) hle36) hleb)⟩ (fun fx38 => ?_)
 refine JA.tk 11 rfl fx38 (yl_pick1 rfl rfl rfl rfl) ?_
 refine JA.tk 12 rfl fx38 q1 ?_
 refine JA.done (by kernel_rfl) ?_
 refine Ej.seq (Cj.ret (q6 ?_))
 exact ⟨rfl, rfl⟩
end Go.Proofs.YtjcdfnbomkoheaaGreatDoor
