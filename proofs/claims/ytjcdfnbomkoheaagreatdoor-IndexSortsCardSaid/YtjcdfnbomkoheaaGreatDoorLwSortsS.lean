/-
  The law IndexSorts. Own text, printed by a program. Conditions: none.
-/
import Derived.Test.YtjcdfnbomkoheaaGreatDoorPS17
import Derived.Test.YtjcdfnbomkoheaaGreatDoorPS16
set_option maxRecDepth 100000
set_option maxHeartbeats 4000000
namespace Go.Proofs.YtjcdfnbomkoheaaGreatDoor
open _root_.Go.Proofs.Tryz
open Go Go.Sx
theorem names_strP {I : Heap} {b : Nat} (h : I b = some (cel 9 (Ix.names.map str))) : StrP I Ix.names (.slice (some ⟨b, 0, none⟩) 6 6) :=
  ⟨_, 6, rfl, by decide, fun _ => ⟨b, 0, _, _, _, [], rfl, h, (List.append_nil _).symm⟩⟩
theorem rNames_ok (I : Heap) : Ctr Tryz.prog 40 [] I [] (fun e _ H' => ∃ b, e = .returned (.slice (some ⟨b, 0, none⟩) 6 6) ∧ H' = [(b, cel 9 (Ix.names.map str))]) := by
 refine Ctr.ob func40 ?_
 intro w0 hw0
 refine Cj.sr (J.z q1 ?_)
 refine J.nssr (J.op rfl (q12 underlying28 sizeOf9 zeroValue9 (LCat.one rfl (LCat.one rfl (LCat.one rfl (LCat.one rfl (LCat.one rfl (LCat.one rfl LCat.none)))))) ?_))
 intro b1 hb1
 refine J.z q1 ?_
 refine J.ns (Cj.ret (q6 ?_))
 exact ⟨_, rfl, rfl⟩
theorem IndexSorts_ok (xs : List Act) (v : Value) (hao : ActsOk xs) (t : Ix.Rec) (I : Heap) (hA : ActsS I xs v) : Pure Tryz.prog 10 [v, kvR t] I (.bool true) := by
 refine Ctr.toPure ?_
 refine Ctr.ob func10 ?_
 intro w0 hw0
 refine Cj.sr (J.op rfl (q25 ?_))
 intro b1 hb1
 refine J.z q1 ?_
 refine J.nss (Cj.persist hb1 (fun I3 hle2 hb1i => ?_))
 have hA := hA.mono hle2
 refine Cj.region (J.op rfl (op_pure rfl rfl rfl rfl rfl (sanity_ok _) ?_))
 refine J.z q1 ?_
 refine J.nssr (J.z q0 ?_)
 refine J.op rfl (op_callN rfl rfl rfl rfl rfl (play_ok xs _ hao _ hA) ?_ (fun _ _ _ _ ⟨_, _, h, _⟩ => nomatch h) (fun _ _ ⟨_, _, h, _⟩ => nomatch h))
 intro v5 I6 H7 hle8 hn4 hp9
 have hA := hA.mono hle8
 have hb1i := hle8 _ _ hb1i
 obtain ⟨ib, o, h, hok, rfl⟩ := hp9; cases h
 refine J.persists (ixH ib o) hn4 (fun Ip hlep hK => ?_)
 have hA := hA.mono hlep
 have hb1i := hlep _ _ hb1i
 have hx : IxP Ip ib (Ix.play (acts xs)) := ⟨o, hok.mono hlep, hK⟩
 clear hok hK
 refine J.z q0 ?_
 refine J.op rfl (op_callN rfl rfl rfl rfl rfl (rPlay_ok xs _ hao _ hA) ?_ (fun _ _ _ _ ⟨_, _, _, h, _⟩ => nomatch h) (fun _ _ ⟨_, _, _, h, _⟩ => nomatch h))
 intro v11 I12 H13 hle14 hn10 hp15
 have hA := hA.mono hle14
 have hb1i := hle14 _ _ hb1i
 have hx := hx.mono hle14
 obtain ⟨rb, es, w, h, hE, hL, hek, hel, rfl⟩ := hp15; cases h
 refine J.persists [(rb, _)] hn10 (fun Iq hleq hK => ?_)
 have hA := hA.mono hleq
 have hb1i := hleq _ _ hb1i
 have hx := hx.mono hleq
 have hy : RxP Iq rb es := RxP.of (hK (rb, _) (.head _)) (hE.mono hleq) (by omega) hek (hL ▸ Ix.play_srt _)
 clear hE hK
 refine J.z q1 ?_
 refine J.z q1 ?_
 refine J.nsss ?_
 have hx : IxP _ ib (es.map entL) := hL.symm ▸ hx
 have hlen := hy.len
 obtain ⟨pR, cR, hR⟩ := hy.ex
 refine Cj.drawSel [] [] 7 (by kernel_rfl) ?_
 have hb1i_3 := hb1i
 refine JA.fix fx1 (fun fx16 => ?_)
 refine JA.tk 0 rfl fx16 q0 ?_
 refine JA.tk 2 rfl fx16 (q13 isAgg26 sizeOf26 (Blk.immC hb1i_3)) ?_
 refine JA.tk 6 rfl fx16 q0 ?_
 refine JA.all [1, 3] (by kernel_rfl) (by simp) ?_
 intro i hi
 simp only [List.mem_cons, List.not_mem_nil, or_false] at hi
 rcases hi with rfl | rfl
 ·
  refine ⟨_, rfl, rfl, ?_⟩
  refine op_callN rfl rfl rfl rfl rfl (rTitlesG_ok rb _ es (by omega) _ hR.1 hR.2) ?_ (fun _ _ _ _ ⟨_, _, h, _⟩ => nomatch h) (fun _ _ ⟨_, _, h, _⟩ => nomatch h)
  intro v18 I19 H20 hle21 hn17 hp22
  have hA := hA.mono hle21
  have hb1i := hle21 _ _ hb1i
  have hx := hx.mono hle21
  have hy := hy.mono hle21
  have hR := hR.mono hle21
  obtain ⟨gt, hgt0, h, rfl⟩ := hp22; cases h
  have hgt := hgt0.base hn17
  refine ⟨⟨(Le.trans (Le.refl _) hle21), HSub.n, CSub.n⟩, ?_⟩
  refine q18 3 rfl (q12 underlying44 sizeOf26 zeroValue26 (LCat.agg rfl LCat.none) ?_)
  intro b23 hb23
  refine ⟨⟨(Le.trans (Le.refl _) hle21), HSub.n, CSub.n⟩, ?_⟩
  refine JA.step 4 (by kernel_rfl) rfl rfl (op_append (by' := 15) [_] rfl rfl rfl rfl rfl underlying44 (.inr ⟨_, underlying44⟩) (by kernel_rfl) sizeOf26 zeroValue26 rfl hgt (by simp only [List.append_nil]; rfl) (Src.slice (Blk.at 0 rfl) rfl rfl rfl) (by omega) ?_)
  intro g24 hg24
  refine ⟨⟨(Le.trans (Le.refl _) hle21), HSub.n, CSub.n⟩, ?_⟩
  refine JA.fix ⟨HSub.n, CSub.n, (Le.trans (Le.refl _) hle21)⟩ (fun fx25 => ?_)
  refine JA.tk 5 rfl fx25 (yl_lenG hg24 rfl rfl underlying44) ?_
  refine JA.done (by kernel_rfl) ?_
  refine Ej.seq (Cj.keep (H' := gH 26 _ _) (List.sublist_append_right [_] _) ?_)
  have hg8 : gOk w0.heap.size 2 (es.map (·.t) ++ [t]).length ((es.map (·.t) ++ [t]).flatMap recC) g24 := by rw [List.length_append, List.flatMap_append, List.length_map]; exact hg24
  have hgv : gV (es.length + 1) g24 = gV (es.map (·.t) ++ [t]).length g24 := by rw [List.length_append, List.length_map]; rfl
  have hgh : ∀ ys, ys = (es.map (·.t) ++ [t]).flatMap recC → gH 26 ys g24 = gH 26 ((es.map (·.t) ++ [t]).flatMap recC) g24 ++ [] := fun ys h => by rw [h, List.append_nil]
  refine Cj.perm (H' := gH 26 ((es.map (·.t) ++ [t]).flatMap recC) g24 ++ []) (.of_eq (hgh _ (by first | (rw [List.flatMap_append]; done) | (rw [List.flatMap_append]; rfl))).symm) ?_
  refine Cj.keepR recC_len (by decide) hg8 rfl (fun I8 hle8 hv => ?_)
  have hA := hA.mono hle8
  have hb1i := hle8 _ _ hb1i
  have hx := hx.mono hle8
  have hy := hy.mono hle8
  have hR := hR.mono hle8
  obtain ⟨pa, ca, hae⟩ := RowS.len hv
  rw [hae] at hv
  refine Cj.eqv 19 rfl (hgv.trans hae) ?_
  refine Cj.eqv 20 rfl (show _ = i64 ((es.map (·.t) ++ [t]).length : Int) from by rw [List.length_append, List.length_map]; rfl) ?_
  refine Cj.block (Cj.loop (ι := Nat) (fun y => y ≤ (es.map (·.t) ++ [t]).length) (fun y => (es.map (·.t) ++ [t]).length - y) (fun y => [(5, .bool true), (6, ptr ib 0), (7, ptr rb 0), (19, .slice pa (es.map (·.t) ++ [t]).length ca), (20, i64 ((es.map (·.t) ++ [t]).length : Int)), (21, i64 (y : Int))]) (fun y => _) (fun y => []) 0 (Nat.zero_le _) ⟨rfl, rfl, rfl, rfl, rfl, rfl, trivial⟩ rfl rfl ?_)
  rintro y hyk
  dsimp only at hyk ⊢
  have hTl : (es.map (·.t) ++ [t]).length = es.length + 1 := by rw [List.length_append, List.length_map]; rfl
  refine Cj.sr (J.z q16 ?_)
  refine J.nss (Cj.cond rfl (fun hc26 => ?_) (fun hc26 => ?_))
  ·
   have hc26p := of_decide_eq_true hc26
   refine Cj.skip (Ej.seq (Cj.seq (Cj.block (Cj.seq ?_))))
   have hlt : y < (es.map (·.t) ++ [t]).length := by omega
   obtain ⟨x, hget⟩ : ∃ x, (es.map (·.t) ++ [t])[y]? = some x := ⟨_, List.getElem?_eq_getElem hlt⟩
   obtain ⟨p1, c1, hpe, hc1, hp⟩ := id hv
   cases hpe
   obtain ⟨ab, ao, acs, aty, afr, asp, rfl, hab, had⟩ := hp (ne_nil_of hlt)
   refine Cj.region (J.z (q22 (off' := ao + y * 2) underlying44 sizeOf26) ?_)
   refine J.z (yl_loadAgg rfl rfl isAgg26 sizeOf26 (Blk.imm hab) (row_from recC_len had hget) rfl) ?_
   refine J.op rfl (op_alloc rfl rfl rfl zeroValue26 rfl ?_)
   intro b27 hb27
   refine J.op rfl (q19 0 sizeOf26 (LSpl.c (LSpl.c LSpl.z)) LSet.z ?_)
   refine J.nss (Cj.drawSel [0] [] 7 (by kernel_rfl) ?_)
   have hb1i_6 := hb1i
   have hab_6 := hab
   refine JA.fix ⟨(HSub.c 0 rfl HSub.n), CSub.n, (Le.refl _)⟩ (fun fx28 => ?_)
   refine JA.tk 0 rfl fx28 q0 ?_
   refine JA.tk 1 rfl fx28 (q13 isAgg26 sizeOf26 (Blk.atC 0 rfl)) ?_
   refine JA.tk 3 rfl fx28 q0 ?_
   refine JA.tk 4 rfl fx28 (q13 isAgg26 sizeOf26 (Blk.atC 0 rfl)) ?_
   refine q18 2 rfl (op_pure rfl rfl rfl rfl rfl (Sort_ok' ib (es.map entL) x _ hx) ?_)
   refine ⟨⟨(Le.refl _), (HSub.c 0 rfl HSub.n), CSub.n⟩, ?_⟩
   refine q18 5 rfl (op_pure rfl rfl rfl rfl rfl (Ctr.toPure (rSortT_ok rb es x _ hy)) ?_)
   refine ⟨⟨(Le.refl _), (HSub.c 0 rfl HSub.n), CSub.n⟩, ?_⟩
   refine JA.fix ⟨(HSub.c 0 rfl HSub.n), CSub.n, (Le.refl _)⟩ (fun fx29 => ?_)
   refine JA.tk 6 rfl fx29 (yl_neqStr rfl rfl rfl) ?_
   refine JA.eqv 31 rfl (show _ = .bool false from (congrArg Value.bool (bne_self_eq_false _))) ?_
   refine JA.done (by kernel_rfl) ?_
   refine Ej.seq (Cj.cond rfl (fun hc30 => Bool.noConfusion (Eq.trans (Eq.symm rfl) hc30)) (fun hc30 => ?_))
   refine Cj.skip (Ej.blkNormal (Ej.seq (Cj.region (J.z (yl_add rfl rfl rfl (w64 (by omega))) ?_))))
   refine J.z q0 ?_
   refine J.nil (Ej.keep (Keeps.d Keeps.n) ?_)
   refine Ej.round (y + 1) (by omega) (by omega) ⟨rfl, rfl, rfl, rfl, rfl, rfl, trivial⟩ rfl rfl
  have hc26p := of_decide_eq_false hc26
  refine Cj.exit (Ej.seqExit (Ej.loopExit (Ej.blkExit (Ej.seq (Cj.seq ?_)))))
  obtain ⟨pf, cf, hRf⟩ := hy.ex
  refine Cj.region (J.z q0 ?_)
  refine J.z q0 ?_
  refine q14 1 34 true (q2 q0 ?_)
  refine J.opG 1 34 true _ rfl rfl rfl rfl (op_callN rfl rfl rfl rfl rfl (Titles_ok ib (es.map entL) _ hx) ?_ (fun _ _ _ _ ⟨_, _, h, _⟩ => nomatch h) (fun _ _ ⟨_, _, h, _⟩ => nomatch h))
  intro v32 I33 H34 hle35 hn31 hp36
  have hA := hA.mono hle35
  have hb1i := hle35 _ _ hb1i
  have hx := hx.mono hle35
  have hy := hy.mono hle35
  have hR := hR.mono hle35
  have hv := hv.mono hle35
  have hRf := hRf.mono hle35
  obtain ⟨gf, hgf, h, rfl⟩ := hp36; cases h
  refine J.keepR recC_len (by decide) (hgf.base hn31) (by simp) (fun If hlef hrf => ?_)
  have hA := hA.mono hlef
  have hb1i := hlef _ _ hb1i
  have hx := hx.mono hlef
  have hy := hy.mono hlef
  have hR := hR.mono hlef
  have hv := hv.mono hlef
  have hRf := hRf.mono hlef
  refine q14 1 34 true (q2 q0 ?_)
  refine J.opG 1 34 true _ rfl rfl rfl rfl (op_call (H1 := []) rfl rfl rfl rfl rfl (rTitles_ok rb _ es (by omega) _ hRf.1 hRf.2) ?_ (fun _ _ _ _ ⟨_, h, _⟩ => nomatch h) (fun _ _ ⟨_, h, _⟩ => nomatch h))
  intro v37 I38 H39 hle40 hp41
  have hA := hA.mono hle40
  have hb1i := hle40 _ _ hb1i
  have hx := hx.mono hle40
  have hy := hy.mono hle40
  have hR := hR.mono hle40
  have hv := hv.mono hle40
  have hRf := hRf.mono hle40
  have hrf := hrf.mono hle40
  obtain ⟨vqf, h, qf, rfl⟩ := hp41; cases h
  refine J.opG 1 34 true _ rfl rfl rfl rfl (op_pure rfl rfl rfl rfl rfl (rRecs_ok (es.map (·.t)) (es.map (·.t)) _ _ (by rw [List.length_map]; omega) _ (tit_eq es ▸ hrf) qf) ?_)
  refine J.eqv 39 rfl (show _ = .bool true from (congrArg Value.bool (decide_eq_true rfl))) ?_
  refine J.z (yl_pick1 rfl rfl rfl rfl) ?_
  refine J.z q0 ?_
  refine J.opG 8 41 true _ rfl rfl rfl rfl (op_callN rfl rfl rfl rfl rfl (Names_ok _) ?_ (fun _ _ _ _ ⟨_, h, _⟩ => nomatch h) (fun _ _ ⟨_, h, _⟩ => nomatch h))
  intro v43 I44 H45 hle46 hn42 hp47
  have hA := hA.mono hle46
  have hb1i := hle46 _ _ hb1i
  have hx := hx.mono hle46
  have hy := hy.mono hle46
  have hR := hR.mono hle46
  have hv := hv.mono hle46
  have hRf := hRf.mono hle46
  have hrf := hrf.mono hle46
  have qf := qf.mono hle46
  obtain ⟨nba, h, rfl⟩ := hp47; cases h
  refine J.persist (hn42 _ (.head _)) (fun Ina hlena hnba => ?_)
  have hA := hA.mono hlena
  have hb1i := hlena _ _ hb1i
  have hx := hx.mono hlena
  have hy := hy.mono hlena
  have hR := hR.mono hlena
  have hv := hv.mono hlena
  have hRf := hRf.mono hlena
  have hrf := hrf.mono hlena
  have qf := qf.mono hlena
  have hna := names_strP hnba
  refine J.opG 8 41 true _ rfl rfl rfl rfl (op_callN rfl rfl rfl rfl rfl (rNames_ok _) ?_ (fun _ _ _ _ ⟨_, h, _⟩ => nomatch h) (fun _ _ ⟨_, h, _⟩ => nomatch h))
  intro v49 I50 H51 hle52 hn48 hp53
  have hA := hA.mono hle52
  have hb1i := hle52 _ _ hb1i
  have hx := hx.mono hle52
  have hy := hy.mono hle52
  have hR := hR.mono hle52
  have hv := hv.mono hle52
  have hRf := hRf.mono hle52
  have hrf := hrf.mono hle52
  have qf := qf.mono hle52
  have hna := hna.mono hle52
  obtain ⟨nbb, h, rfl⟩ := hp53; cases h
  refine J.persist (hn48 _ (.head _)) (fun Inb hlenb hnbb => ?_)
  have hA := hA.mono hlenb
  have hb1i := hlenb _ _ hb1i
  have hx := hx.mono hlenb
  have hy := hy.mono hlenb
  have hR := hR.mono hlenb
  have hv := hv.mono hlenb
  have hRf := hRf.mono hlenb
  have hrf := hrf.mono hlenb
  have qf := qf.mono hlenb
  have hna := hna.mono hlenb
  have hnb := names_strP hnbb
  refine J.opG 8 41 true _ rfl rfl rfl rfl (op_pure rfl rfl rfl rfl rfl (Same_ok Ix.names Ix.names _ _ (by decide) _ hna hnb) ?_)
  refine J.eqv 44 rfl (show _ = .bool true from (congrArg Value.bool (decide_eq_true rfl))) ?_
  refine J.z (yl_pick1 rfl rfl rfl rfl) ?_
  refine J.z q1 ?_
  refine J.ns (Cj.ret (q6 ?_))
  exact ⟨rfl, rfl⟩
 refine ⟨_, rfl, rfl, ?_⟩
 refine q12 underlying44 sizeOf26 zeroValue26 (LCat.agg rfl LCat.none) ?_
 intro b54 hb54
 refine ⟨fx0, ?_⟩
 refine JA.step 1 (by kernel_rfl) rfl rfl (op_callN rfl rfl rfl rfl rfl (rTitlesG_ok rb _ es (by omega) _ hR.1 hR.2) ?_ (fun _ _ _ _ ⟨_, _, h, _⟩ => nomatch h) (fun _ _ ⟨_, _, h, _⟩ => nomatch h))
 intro v56 I57 H58 hle59 hn55 hp60
 have hA := hA.mono hle59
 have hb1i := hle59 _ _ hb1i
 have hx := hx.mono hle59
 have hy := hy.mono hle59
 have hR := hR.mono hle59
 obtain ⟨gt, hgt0, h, rfl⟩ := hp60; cases h
 have hgt := hgt0.base hn55
 refine ⟨⟨(Le.trans (Le.refl _) hle59), HSub.n, CSub.n⟩, ?_⟩
 refine JA.perm (H' := [_] ++ gH _ _ _) List.perm_append_comm ?_
 refine JA.step 4 (by kernel_rfl) rfl rfl (op_append (by' := 15) [_] rfl rfl rfl rfl rfl underlying44 (.inr ⟨_, underlying44⟩) (by kernel_rfl) sizeOf26 zeroValue26 rfl hgt rfl (Src.slice (Blk.at 0 rfl) rfl rfl rfl) (by omega) ?_)
 intro g61 hg61
 refine ⟨⟨(Le.trans (Le.refl _) hle59), HSub.n, CSub.n⟩, ?_⟩
 refine JA.fix ⟨HSub.n, CSub.n, (Le.trans (Le.refl _) hle59)⟩ (fun fx62 => ?_)
 refine JA.tk 5 rfl fx62 (yl_lenG hg61 rfl rfl underlying44) ?_
 refine JA.done (by kernel_rfl) ?_
 refine Ej.seq (Cj.keep (H' := gH 26 _ _) (List.sublist_append_right [_] _) ?_)
 have hg8 : gOk w0.heap.size 2 (es.map (·.t) ++ [t]).length ((es.map (·.t) ++ [t]).flatMap recC) g61 := by rw [List.length_append, List.flatMap_append, List.length_map]; exact hg61
 have hgv : gV (es.length + 1) g61 = gV (es.map (·.t) ++ [t]).length g61 := by rw [List.length_append, List.length_map]; rfl
 have hgh : ∀ ys, ys = (es.map (·.t) ++ [t]).flatMap recC → gH 26 ys g61 = gH 26 ((es.map (·.t) ++ [t]).flatMap recC) g61 ++ [] := fun ys h => by rw [h, List.append_nil]
 refine Cj.perm (H' := gH 26 ((es.map (·.t) ++ [t]).flatMap recC) g61 ++ []) (.of_eq (hgh _ (by first | (rw [List.flatMap_append]; done) | (rw [List.flatMap_append]; rfl))).symm) ?_
 refine Cj.keepR recC_len (by decide) hg8 rfl (fun I8 hle8 hv => ?_)
 have hA := hA.mono hle8
 have hb1i := hle8 _ _ hb1i
 have hx := hx.mono hle8
 have hy := hy.mono hle8
 have hR := hR.mono hle8
 obtain ⟨pa, ca, hae⟩ := RowS.len hv
 rw [hae] at hv
 refine Cj.eqv 19 rfl (hgv.trans hae) ?_
 refine Cj.eqv 20 rfl (show _ = i64 ((es.map (·.t) ++ [t]).length : Int) from by rw [List.length_append, List.length_map]; rfl) ?_
 refine Cj.block (Cj.loop (ι := Nat) (fun y => y ≤ (es.map (·.t) ++ [t]).length) (fun y => (es.map (·.t) ++ [t]).length - y) (fun y => [(5, .bool true), (6, ptr ib 0), (7, ptr rb 0), (19, .slice pa (es.map (·.t) ++ [t]).length ca), (20, i64 ((es.map (·.t) ++ [t]).length : Int)), (21, i64 (y : Int))]) (fun y => _) (fun y => []) 0 (Nat.zero_le _) ⟨rfl, rfl, rfl, rfl, rfl, rfl, trivial⟩ rfl rfl ?_)
 rintro y hyk
 dsimp only at hyk ⊢
 have hTl : (es.map (·.t) ++ [t]).length = es.length + 1 := by rw [List.length_append, List.length_map]; rfl
 refine Cj.sr (J.z q16 ?_)
 refine J.nss (Cj.cond rfl (fun hc63 => ?_) (fun hc63 => ?_))
 ·
  have hc63p := of_decide_eq_true hc63
  refine Cj.skip (Ej.seq (Cj.seq (Cj.block (Cj.seq ?_))))
  have hlt : y < (es.map (·.t) ++ [t]).length := by omega
  obtain ⟨x, hget⟩ : ∃ x, (es.map (·.t) ++ [t])[y]? = some x := ⟨_, List.getElem?_eq_getElem hlt⟩
  obtain ⟨p1, c1, hpe, hc1, hp⟩ := id hv
  cases hpe
  obtain ⟨ab, ao, acs, aty, afr, asp, rfl, hab, had⟩ := hp (ne_nil_of hlt)
  refine Cj.region (J.z (q22 (off' := ao + y * 2) underlying44 sizeOf26) ?_)
  refine J.z (yl_loadAgg rfl rfl isAgg26 sizeOf26 (Blk.imm hab) (row_from recC_len had hget) rfl) ?_
  refine J.op rfl (op_alloc rfl rfl rfl zeroValue26 rfl ?_)
  intro b64 hb64
  refine J.op rfl (q19 0 sizeOf26 (LSpl.c (LSpl.c LSpl.z)) LSet.z ?_)
  refine J.nss (Cj.drawSel [0] [] 7 (by kernel_rfl) ?_)
  have hb1i_6 := hb1i
  have hab_6 := hab
  refine JA.fix ⟨(HSub.c 0 rfl HSub.n), CSub.n, (Le.refl _)⟩ (fun fx65 => ?_)
  refine JA.tk 0 rfl fx65 q0 ?_
  refine JA.tk 1 rfl fx65 (q13 isAgg26 sizeOf26 (Blk.atC 0 rfl)) ?_
  refine JA.tk 3 rfl fx65 q0 ?_
  refine JA.tk 4 rfl fx65 (q13 isAgg26 sizeOf26 (Blk.atC 0 rfl)) ?_
  refine q18 2 rfl (op_pure rfl rfl rfl rfl rfl (Sort_ok' ib (es.map entL) x _ hx) ?_)
  refine ⟨⟨(Le.refl _), (HSub.c 0 rfl HSub.n), CSub.n⟩, ?_⟩
  refine q18 5 rfl (op_pure rfl rfl rfl rfl rfl (Ctr.toPure (rSortT_ok rb es x _ hy)) ?_)
  refine ⟨⟨(Le.refl _), (HSub.c 0 rfl HSub.n), CSub.n⟩, ?_⟩
  refine JA.fix ⟨(HSub.c 0 rfl HSub.n), CSub.n, (Le.refl _)⟩ (fun fx66 => ?_)
  refine JA.tk 6 rfl fx66 (yl_neqStr rfl rfl rfl) ?_
  refine JA.eqv 31 rfl (show _ = .bool false from (congrArg Value.bool (bne_self_eq_false _))) ?_
  refine JA.done (by kernel_rfl) ?_
  refine Ej.seq (Cj.cond rfl (fun hc67 => Bool.noConfusion (Eq.trans (Eq.symm rfl) hc67)) (fun hc67 => ?_))
  refine Cj.skip (Ej.blkNormal (Ej.seq (Cj.region (J.z (yl_add rfl rfl rfl (w64 (by omega))) ?_))))
  refine J.z q0 ?_
  refine J.nil (Ej.keep (Keeps.d Keeps.n) ?_)
  refine Ej.round (y + 1) (by omega) (by omega) ⟨rfl, rfl, rfl, rfl, rfl, rfl, trivial⟩ rfl rfl
 have hc63p := of_decide_eq_false hc63
 refine Cj.exit (Ej.seqExit (Ej.loopExit (Ej.blkExit (Ej.seq (Cj.seq ?_)))))
 obtain ⟨pf, cf, hRf⟩ := hy.ex
 refine Cj.region (J.z q0 ?_)
 refine J.z q0 ?_
 refine q14 1 34 true (q2 q0 ?_)
 refine J.opG 1 34 true _ rfl rfl rfl rfl (op_callN rfl rfl rfl rfl rfl (Titles_ok ib (es.map entL) _ hx) ?_ (fun _ _ _ _ ⟨_, _, h, _⟩ => nomatch h) (fun _ _ ⟨_, _, h, _⟩ => nomatch h))
 intro v69 I70 H71 hle72 hn68 hp73
 have hA := hA.mono hle72
 have hb1i := hle72 _ _ hb1i
 have hx := hx.mono hle72
 have hy := hy.mono hle72
 have hR := hR.mono hle72
 have hv := hv.mono hle72
 have hRf := hRf.mono hle72
 obtain ⟨gf, hgf, h, rfl⟩ := hp73; cases h
 refine J.keepR recC_len (by decide) (hgf.base hn68) (by simp) (fun If hlef hrf => ?_)
 have hA := hA.mono hlef
 have hb1i := hlef _ _ hb1i
 have hx := hx.mono hlef
 have hy := hy.mono hlef
 have hR := hR.mono hlef
 have hv := hv.mono hlef
 have hRf := hRf.mono hlef
 refine q14 1 34 true (q2 q0 ?_)
 refine J.opG 1 34 true _ rfl rfl rfl rfl (op_call (H1 := []) rfl rfl rfl rfl rfl (rTitles_ok rb _ es (by omega) _ hRf.1 hRf.2) ?_ (fun _ _ _ _ ⟨_, h, _⟩ => nomatch h) (fun _ _ ⟨_, h, _⟩ => nomatch h))
 intro v74 I75 H76 hle77 hp78
 have hA := hA.mono hle77
 have hb1i := hle77 _ _ hb1i
 have hx := hx.mono hle77
 have hy := hy.mono hle77
 have hR := hR.mono hle77
 have hv := hv.mono hle77
 have hRf := hRf.mono hle77
 have hrf := hrf.mono hle77
 obtain ⟨vqf, h, qf, rfl⟩ := hp78; cases h
 refine J.opG 1 34 true _ rfl rfl rfl rfl (op_pure rfl rfl rfl rfl rfl (rRecs_ok (es.map (·.t)) (es.map (·.t)) _ _ (by rw [List.length_map]; omega) _ (tit_eq es ▸ hrf) qf) ?_)
 refine J.eqv 39 rfl (show _ = .bool true from (congrArg Value.bool (decide_eq_true rfl))) ?_
 refine J.z (yl_pick1 rfl rfl rfl rfl) ?_
 refine J.z q0 ?_
 refine J.opG 8 41 true _ rfl rfl rfl rfl (op_callN rfl rfl rfl rfl rfl (Names_ok _) ?_ (fun _ _ _ _ ⟨_, h, _⟩ => nomatch h) (fun _ _ ⟨_, h, _⟩ => nomatch h))
 intro v80 I81 H82 hle83 hn79 hp84
 have hA := hA.mono hle83
 have hb1i := hle83 _ _ hb1i
 have hx := hx.mono hle83
 have hy := hy.mono hle83
 have hR := hR.mono hle83
 have hv := hv.mono hle83
 have hRf := hRf.mono hle83
 have hrf := hrf.mono hle83
 have qf := qf.mono hle83
 obtain ⟨nba, h, rfl⟩ := hp84; cases h
 refine J.persist (hn79 _ (.head _)) (fun Ina hlena hnba => ?_)
 have hA := hA.mono hlena
 have hb1i := hlena _ _ hb1i
 have hx := hx.mono hlena
 have hy := hy.mono hlena
 have hR := hR.mono hlena
 have hv := hv.mono hlena
 have hRf := hRf.mono hlena
 have hrf := hrf.mono hlena
 have qf := qf.mono hlena
 have hna := names_strP hnba
 refine J.opG 8 41 true _ rfl rfl rfl rfl (op_callN rfl rfl rfl rfl rfl (rNames_ok _) ?_ (fun _ _ _ _ ⟨_, h, _⟩ => nomatch h) (fun _ _ ⟨_, h, _⟩ => nomatch h))
 intro v86 I87 H88 hle89 hn85 hp90
 have hA := hA.mono hle89
 have hb1i := hle89 _ _ hb1i
 have hx := hx.mono hle89
 have hy := hy.mono hle89
 have hR := hR.mono hle89
 have hv := hv.mono hle89
 have hRf := hRf.mono hle89
 have hrf := hrf.mono hle89
 have qf := qf.mono hle89
 have hna := hna.mono hle89
 obtain ⟨nbb, h, rfl⟩ := hp90; cases h
 refine J.persist (hn85 _ (.head _)) (fun Inb hlenb hnbb => ?_)
 have hA := hA.mono hlenb
 have hb1i := hlenb _ _ hb1i
 have hx := hx.mono hlenb
 have hy := hy.mono hlenb
 have hR := hR.mono hlenb
 have hv := hv.mono hlenb
 have hRf := hRf.mono hlenb
 have hrf := hrf.mono hlenb
 have qf := qf.mono hlenb
 have hna := hna.mono hlenb
 have hnb := names_strP hnbb
 refine J.opG 8 41 true _ rfl rfl rfl rfl (op_pure rfl rfl rfl rfl rfl (Same_ok Ix.names Ix.names _ _ (by decide) _ hna hnb) ?_)
 refine J.eqv 44 rfl (show _ = .bool true from (congrArg Value.bool (decide_eq_true rfl))) ?_
 refine J.z (yl_pick1 rfl rfl rfl rfl) ?_
 refine J.z q1 ?_
 refine J.ns (Cj.ret (q6 ?_))
 exact ⟨rfl, rfl⟩
end Go.Proofs.YtjcdfnbomkoheaaGreatDoor
