/-
  Own texts on the laws of the seat, joined: the logic, and contracts of functions. Conditions: none.
-/
import Derived.Test.YtekmeaoblpfnpaaGreatDoorPT15
import Derived.Lib.LaidU8
set_option maxRecDepth 100000
set_option maxHeartbeats 4000000
section
namespace Go.Proofs.YtekmeaoblpfnpaaGreatDoor
open _root_.Go.Proofs.Tryz
open Go Go.Sx
theorem titles_at {L : Ix.Ix} {i : Nat} {t : Ix.Rec} (h : (L.map Prod.fst)[i]? = some t) : t ∈ L.map (·.1) := List.mem_of_getElem? h
theorem six_len {x : List UInt8} (h : x ∈ Cq.indexes) : x.length ≤ 7 := by revert x; decide
theorem six_lenR {x : List UInt8} (h : x ∈ Cq.relations) : x.length ≤ 7 := by revert x; decide
theorem SearchTerms_ok (xs : List Act) (v : Value) (hao : ActsOk xs) (n m : UInt8) (s : List UInt8) (hsl : s.length ≤ 5000000) (I : Heap) (hT : STab I) (hA : ActsS I xs v) : Pure Tryz.prog 6 [v, .agg #[u8 n, u8 m], str s] I (.bool true) := by
 refine Ctr.toPure ?_
 have hwl := Ke.words_len s
 have hnl := nameI_mem n
 have hrl := nameR_mem m
 refine Ctr.ob func6 ?_
 intro w0 hw0
 refine Cj.sr (J.op rfl (q15 ?_))
 intro b1 hb1
 refine J.z q1 ?_
 refine J.nssr (J.op rfl (op_pure rfl rfl rfl rfl rfl (sanity_ok _ hT) ?_))
 refine J.z q1 ?_
 refine J.nssr (J.z q0 ?_)
 refine J.op rfl (op_callN rfl rfl rfl rfl rfl (built_ok xs _ hao _ hA) ?_ (fun _ _ _ _ ⟨_, _, _, _, _, h, _⟩ => nomatch h) (fun _ _ ⟨_, _, _, _, _, h, _⟩ => nomatch h))
 intro v3 I4 H5 hle6 hn2 hp7
 have hA := hA.mono hle6
 have hT := hT.mono hle6
 obtain ⟨ib, o, rb, es, w, h, hok, hE, hL, hek, hel, rfl⟩ := hp7; cases h
 refine J.persists ((rb, _) :: ixH ib o) hn2 (fun Ip hlep hK => ?_)
 have hA := hA.mono hlep
 have hT := hT.mono hlep
 have hx : IxP Ip ib (Ix.play (acts xs)) := ⟨o, hok.mono hlep, fun p hp => hK p (.tail _ hp)⟩
 clear hok hE hK
 refine J.z q0 ?_
 refine J.z q11 ?_
 refine J.z q11 ?_
 refine J.z q1 ?_
 refine J.z q1 ?_
 refine J.nssr (J.z (q20 (off' := 0) underlying68 sizeOf5) ?_)
 refine J.z (q3 isAgg5 (Blk.at 0 rfl)) ?_
 refine J.z (q20 (off' := 1) underlying68 sizeOf5) ?_
 refine J.z (q3 isAgg5 (Blk.at 0 rfl)) ?_
 refine J.op rfl (op_call (H1 := []) rfl rfl rfl rfl rfl (names_ok n m _) ?_ (fun _ _ _ _ ⟨h, _⟩ => nomatch h) (fun _ _ ⟨h, _⟩ => nomatch h))
 intro v8 I9 H10 hle11 hp12
 have hA := hA.mono hle11
 have hT := hT.mono hle11
 have hx := hx.mono hle11
 obtain ⟨h, rfl⟩ := hp12; cases h
 refine J.z q0 ?_
 refine J.z q11 ?_
 refine J.z q11 ?_
 refine J.z q1 ?_
 refine J.z q1 ?_
 refine J.nssr (J.z q0 ?_)
 refine J.z q0 ?_
 refine J.z q0 ?_
 refine J.z q0 ?_
 refine J.op rfl (op_call (H1 := []) rfl rfl rfl rfl rfl (term_ok (nameI n) (nameR m) s _) ?_ (fun _ _ _ _ ⟨h, _⟩ => nomatch h) (fun _ _ ⟨h, _⟩ => nomatch h))
 intro v13 I14 H15 hle16 hp17
 have hA := hA.mono hle16
 have hT := hT.mono hle16
 have hx := hx.mono hle16
 obtain ⟨h, rfl⟩ := hp17; cases h
 refine J.op rfl (op_callN rfl rfl rfl rfl rfl (Run_ok (ptr ib 0) (Ix.play (acts xs)) (Ix.termQ (nameI n) (nameR m) s) none 0 (Nat.zero_le _) (by rw [Ix.termQ_wide]; have := six_len hnl; have := six_lenR hrl; omega) (Ix.right_term hnl hrl s) (tok_few (Ix.play_few _)) _ (.inl rfl) (.inr ⟨ib, rfl, hx⟩) hT) ?_ (fun _ _ _ _ ⟨_, _, h, _⟩ => nomatch h) (fun _ _ ⟨_, _, h, _⟩ => nomatch h))
 intro v19 I20 H21 hle22 hn18 hp23
 have hA := hA.mono hle22
 have hT := hT.mono hle22
 have hx := hx.mono hle22
 obtain ⟨wa, ra, h, hruna, hoa⟩ := hp23; cases h
 refine J.keepO hoa hn18 (fun Ia hlea hra => ?_)
 have hA := hA.mono hlea
 have hT := hT.mono hlea
 have hx := hx.mono hlea
 replace hra := hra.row
 obtain ⟨pa, ca, rfl⟩ := rowS_len hra
 refine J.z q0 ?_
 refine J.z q11 ?_
 refine J.z q11 ?_
 refine J.z q1 ?_
 refine J.z q1 ?_
 refine J.nsss (Cj.region (J.z q0 ?_))
 refine J.z (yl_neq rfl rfl rfl) ?_
 refine J.c0 (fun hc24 => ?_)
 refine Cj.skip (Ej.seq (Cj.sr (J.z q0 ?_)))
 refine J.op rfl (op_call (H1 := []) rfl rfl rfl rfl rfl (Words_ok s (by omega) _) ?_ (fun _ _ _ _ ⟨_, h, _⟩ => nomatch h) (fun _ _ ⟨_, h, _⟩ => nomatch h))
 intro v25 I26 H27 hle28 hp29
 have hA := hA.mono hle28
 have hT := hT.mono hle28
 have hx := hx.mono hle28
 have hra := hra.mono hle28
 obtain ⟨wv, h, hw, rfl⟩ := hp29; cases h
 obtain ⟨pw, cw, rfl⟩ := StrS_sl hw
 refine J.z q1 ?_
 refine J.nssr (J.z q0 ?_)
 refine J.op rfl (op_callN rfl rfl rfl rfl rfl (Titles_ok ib (Ix.play (acts xs)) _ hx) ?_ (fun _ _ _ _ ⟨_, _, h, _⟩ => nomatch h) (fun _ _ ⟨_, _, h, _⟩ => nomatch h))
 intro v31 I32 H33 hle34 hn30 hp35
 have hA := hA.mono hle34
 have hT := hT.mono hle34
 have hx := hx.mono hle34
 have hra := hra.mono hle34
 have hw := hw.mono hle34
 obtain ⟨gt, hgt, h, rfl⟩ := hp35; cases h
 refine J.keepR recC_len (by decide) (hgt.base hn30) (by simp) (fun It hlet hrt => ?_)
 have hA := hA.mono hlet
 have hT := hT.mono hlet
 have hx := hx.mono hlet
 have hra := hra.mono hlet
 have hw := hw.mono hlet
 replace hrt := hrt
 refine J.z q1 ?_
 refine J.nsss ?_
 have htr : RowS recC _ ((Ix.play (acts xs)).map Prod.fst) _ := hrt
 have hpl : ((Ix.play (acts xs)).map Prod.fst).length = (Ix.play (acts xs)).length := List.length_map _
 have hp20 := play_len xs
 obtain ⟨pt, ct, hpt⟩ := rowS_len htr
 refine Cj.eqv 15 rfl (show _ = .slice pt ((Ix.play (acts xs)).map Prod.fst).length ct from by rw [hpl]; rw [hpl] at hpt; exact hpt) ?_
 have hral : ra.length ≤ (Ix.play (acts xs)).length := hruna.len
 have htr2 : RowS recC _ ((Ix.play (acts xs)).map Prod.fst) (.slice pt ((Ix.play (acts xs)).map Prod.fst).length ct) := hpt ▸ htr
 clear htr
 have htr := htr2
 refine Cj.region (J.z q1 ?_)
 refine J.ns (Cj.block (Cj.keep (Keeps.d Keeps.n) ?_))
 refine Cj.loop (ι := Nat × Heap) (fun y => y.1 ≤ ((Ix.play (acts xs)).map Prod.fst).length ∧ Le It y.2) (fun y => ((Ix.play (acts xs)).map Prod.fst).length - y.1) (fun y => [(2, str s), (7, .bool true), (8, ptr ib 0), (10, str (nameI n)), (11, str (nameR m)), (12, .slice pa ra.length ca), (14, .slice pw (Ke.words s).length cw), (15, .slice pt ((Ix.play (acts xs)).map Prod.fst).length ct), (16, i64 (y.1 : Int))]) (fun y => y.2) (fun y => []) (0, _) ⟨Nat.zero_le _, Le.refl _⟩ ⟨rfl, rfl, rfl, rfl, rfl, rfl, rfl, rfl, rfl, trivial⟩ rfl rfl ?_
 rintro ⟨i, J1⟩ ⟨hi, hIJ⟩
 dsimp only at hi hIJ ⊢
 have hx := hx.mono hIJ
 have hra := hra.mono hIJ
 have hw := hw.mono hIJ
 have htr := htr.mono hIJ
 refine Cj.seq (Cj.sr (J.z q0 ?_))
 refine J.z q0 ?_
 refine J.z (q12 underlying36) ?_
 refine J.z q16 ?_
 refine J.cd (fun hc36 => ?_) (fun hc36 => ?_)
 ·
  have hc36p := of_decide_eq_true hc36
  have hlt : i < ((Ix.play (acts xs)).map Prod.fst).length := by omega
  obtain ⟨t, hgt⟩ : ∃ x, ((Ix.play (acts xs)).map Prod.fst)[i]? = some x := ⟨_, List.getElem?_eq_getElem hlt⟩
  have htm := titles_at hgt
  obtain ⟨p5, c5, hpe5, hc5, hp5⟩ := id htr
  cases hpe5
  obtain ⟨tb, tof, tcs, tty, tfr, tsp, rfl, htb, htd⟩ := hp5 (ne_nil_of hlt)
  refine Cj.skip (Ej.seq (Cj.seq (Cj.block (Cj.sr (J.z q1 ?_)))))
  refine J.nsss (Cj.region (J.z q1 ?_))
  refine J.ns (Cj.block (Cj.loop (ι := Nat × Heap) (fun y => y.1 ≤ (Ke.words s).length ∧ Le J1 y.2) (fun y => (Ke.words s).length - y.1) (fun y => [(2, str s), (7, .bool true), (8, ptr ib 0), (10, str (nameI n)), (11, str (nameR m)), (12, .slice pa ra.length ca), (14, .slice pw (Ke.words s).length cw), (15, .slice (some ⟨tb, tof, none⟩) ((Ix.play (acts xs)).map Prod.fst).length ct), (16, i64 (i : Int)), (17, i64 ((Ix.hitsK (Ix.play (acts xs)) (nameI n) s t y.1) : Int)), (18, i64 (y.1 : Int))]) (fun y => y.2) (fun y => []) (0, _) ⟨Nat.zero_le _, Le.refl _⟩ ⟨rfl, rfl, rfl, rfl, rfl, rfl, rfl, rfl, rfl, rfl, rfl, trivial⟩ rfl rfl ?_))
  rintro ⟨k, K1⟩ ⟨hk, hIK⟩
  dsimp only at hk hIK ⊢
  have hIJ := hIJ.mono hIK
  have htb := hIK _ _ htb
  have hx := hx.mono hIK
  have hra := hra.mono hIK
  have hw := hw.mono hIK
  have htr := htr.mono hIK
  have hhk := Ix.hitsK_le (Ix.play (acts xs)) (nameI n) s t k
  refine Cj.seq (Cj.sr (J.z q0 ?_))
  refine J.z q0 ?_
  refine J.z (q12 underlying69) ?_
  refine J.z q16 ?_
  refine J.cd (fun hc37 => ?_) (fun hc37 => ?_)
  ·
   have hc37p := of_decide_eq_true hc37
   have hlk : k < (Ke.words s).length := by omega
   obtain ⟨x, hgw⟩ : ∃ x, (Ke.words s)[k]? = some x := ⟨_, List.getElem?_eq_getElem hlk⟩
   have hxl := Ke.words_each _ x (List.mem_of_getElem? hgw)
   obtain ⟨wb, wc1, wsp, hwe, hwb⟩ := hw.some (ne_nil_of hlk)
   cases hwe
   have hwl2 := word_le (Ix.play (acts xs)) (nameI n) x
   refine Cj.skip (Ej.seq (Cj.seq (Cj.block (Cj.seq (Cj.drawSel [] [] 12 (by kernel_rfl) ?_)))))
   have htb_16 := htb
   have hwb_16 := hwb
   refine JA.fix fx1 (fun fx38 => ?_)
   refine JA.tk 0 rfl fx38 q0 ?_
   refine JA.tk 1 rfl fx38 q0 ?_
   refine JA.tk 2 rfl fx38 q0 ?_
   refine JA.tk 3 rfl fx38 q0 ?_
   refine JA.tk 4 rfl fx38 (q17 (off' := k) underlying69 sizeOf9) ?_
   refine JA.tk 5 rfl fx38 (yl_load rfl rfl isAgg9 (Blk.immC hwb_16) (str_get hgw)) ?_
   refine JA.tk 7 rfl fx38 q0 ?_
   refine JA.tk 8 rfl fx38 q0 ?_
   refine JA.tk 9 rfl fx38 (q17 (off' := tof + i * 2) underlying36 sizeOf54) ?_
   refine JA.tk 10 rfl fx38 (yl_loadAgg rfl rfl isAgg54 sizeOf54 (Blk.immC htb_16) (row_from recC_len htd hgt) rfl) ?_
   refine q5 6 rfl (op_callN rfl rfl rfl rfl rfl (Word_ok ib (Ix.play (acts xs)) (nameI n) x (by omega) _ hx) ?_ (fun _ _ _ _ ⟨_, h, _⟩ => nomatch h) (fun _ _ ⟨_, h, _⟩ => nomatch h))
   intro v40 I41 H42 hle43 hn39 hp44
   have hx := hx.mono hle43
   have hra := hra.mono hle43
   have hw := hw.mono hle43
   have htr := htr.mono hle43
   have hIJ := hIJ.mono hle43
   have htb := hle43 _ _ htb
   have hIK := hIK.mono hle43
   have hwb := hle43 _ _ hwb
   obtain ⟨wb, h, hob⟩ := hp44; cases h
   have hnb := hn39
   refine ⟨⟨(Le.trans (Le.refl _) hle43), HSub.n, CSub.n⟩, ?_⟩
   refine JA.keepO hob hnb (fun Ib hleb hrb => ?_)
   have hx := hx.mono hleb
   have hra := hra.mono hleb
   have hw := hw.mono hleb
   have htr := htr.mono hleb
   have hIJ := hIJ.mono hleb
   have htb := hleb _ _ htb
   have hIK := hIK.mono hleb
   have hwb := hleb _ _ hwb
   replace hrb := hrb.row
   refine q5 11 rfl (op_pure rfl rfl rfl rfl rfl (lcontains_ok (Ix.word (Ix.play (acts xs)) (nameI n) x) t _ (Nat.le_trans (hwl2) (by omega)) _ hrb) ?_)
   refine ⟨⟨(Le.trans (Le.trans (Le.refl _) hle43) hleb), HSub.n, CSub.n⟩, ?_⟩
   refine q9 ?_
   refine Ej.seq (Cj.cond rfl (fun hc45 => ?_) (fun hc45 => ?_))
   ·
    have hin : t ∈ (Ix.word (Ix.play (acts xs)) (nameI n) x) := of_decide_eq_true hc45
    refine Cj.region (J.z q0 ?_)
    refine J.z (yl_add rfl rfl rfl (w64 (by omega))) ?_
    refine J.z q1 ?_
    refine J.nil (Ej.blkNormal (Ej.seq (Cj.region (J.z q0 ?_))))
    refine J.z (yl_add rfl rfl rfl (w64 (by omega))) ?_
    refine J.z q1 ?_
    refine J.nil (Ej.round (k + 1, _) ⟨by dsimp only; omega, hIK⟩ (by dsimp only; omega) ⟨rfl, rfl, rfl, rfl, rfl, rfl, rfl, rfl, rfl, congrArg (fun x => some (i64 x)) (by dsimp only; rw [Ix.hitsK_next hgw, if_pos hin]; omega), rfl, trivial⟩ rfl rfl)
   have hin : ¬ t ∈ (Ix.word (Ix.play (acts xs)) (nameI n) x) := of_decide_eq_false hc45
   refine Cj.skip (Ej.blkNormal (Ej.seq (Cj.region (J.z q0 ?_))))
   refine J.z (yl_add rfl rfl rfl (w64 (by omega))) ?_
   refine J.z q1 ?_
   refine J.nil (Ej.round (k + 1, _) ⟨by dsimp only; omega, hIK⟩ (by dsimp only; omega) ⟨rfl, rfl, rfl, rfl, rfl, rfl, rfl, rfl, rfl, congrArg (fun x => some (i64 x)) (by dsimp only; rw [Ix.hitsK_next hgw, if_neg hin]; omega), rfl, trivial⟩ rfl rfl)
  have hc37p := of_decide_eq_false hc37
  have hall : (Ix.hitsK (Ix.play (acts xs)) (nameI n) s t k) = Ix.hits (Ix.play (acts xs)) (nameI n) s t := Ix.hitsK_all _ _ _ _ (by omega)
  refine Cj.exit (Ej.seqExit (Ej.loopExit (Ej.blkExit (Ej.seq (Cj.sr (J.z q1 ?_))))))
  refine J.nsss (Cj.region (J.z q0 ?_))
  refine J.ns (Cj.block (Cj.sr (J.z (yl_eqlStr rfl rfl rfl) ?_)))
  refine J.z q1 ?_
  refine J.cd (fun hc46 => ?_) (fun hc46 => ?_)
  ·
   have hc46p := eq_of_beq hc46
   have hrel : (nameR m) = [61] := eq_of_beq hc46
   refine Cj.seq (Cj.drawSel [] [] 10 (by kernel_rfl) ?_)
   have htb_21 := htb
   refine JA.fix fx1 (fun fx47 => ?_)
   refine JA.tk 0 rfl fx47 q0 ?_
   refine JA.tk 1 rfl fx47 q0 ?_
   refine JA.tk 2 rfl fx47 q0 ?_
   refine JA.tk 4 rfl fx47 q0 ?_
   refine JA.tk 5 rfl fx47 q0 ?_
   refine JA.tk 6 rfl fx47 (q17 (off' := tof + i * 2) underlying36 sizeOf54) ?_
   refine JA.tk 7 rfl fx47 (yl_loadAgg rfl rfl isAgg54 sizeOf54 (Blk.immC htb_21) (row_from recC_len htd hgt) rfl) ?_
   refine q5 3 rfl (op_callN rfl rfl rfl rfl rfl (Phrase_ok ib (Ix.play (acts xs)) (nameI n) s (by omega) _ hx) ?_ (fun _ _ _ _ ⟨_, h, _⟩ => nomatch h) (fun _ _ ⟨_, h, _⟩ => nomatch h))
   intro v49 I50 H51 hle52 hn48 hp53
   have hx := hx.mono hle52
   have hra := hra.mono hle52
   have hw := hw.mono hle52
   have htr := htr.mono hle52
   have hIJ := hIJ.mono hle52
   have htb := hle52 _ _ htb
   have hIK := hIK.mono hle52
   obtain ⟨wc, h, hoc⟩ := hp53; cases h
   have hnc := hn48
   refine ⟨⟨(Le.trans (Le.refl _) hle52), HSub.n, CSub.n⟩, ?_⟩
   refine JA.keepO hoc hnc (fun Ic hlec hrc => ?_)
   have hx := hx.mono hlec
   have hra := hra.mono hlec
   have hw := hw.mono hlec
   have htr := htr.mono hlec
   have hIJ := hIJ.mono hlec
   have htb := hlec _ _ htb
   have hIK := hIK.mono hlec
   replace hrc := hrc.row
   refine q5 8 rfl (op_pure rfl rfl rfl rfl rfl (lcontains_ok (Ix.phrase (Ix.play (acts xs)) (nameI n) (Ke.words s)) t _ (Nat.le_trans (phrase_le' _ _ _) (by omega)) _ hrc) ?_)
   refine ⟨⟨(Le.trans (Le.trans (Le.refl _) hle52) hlec), HSub.n, CSub.n⟩, ?_⟩
   refine JA.fix ⟨HSub.n, CSub.n, (Le.trans (Le.trans (Le.refl _) hle52) hlec)⟩ (fun fx54 => ?_)
   refine JA.tk 9 rfl fx54 q1 ?_
   refine q9 ?_
   refine Ej.seq (Cj.sr (J.z q0 ?_))
   refine J.z (yl_eqlStr rfl rfl rfl) ?_
   refine J.cd (fun hc55 => ?_) (fun hc55 => ?_)
   ·
    have hc55p := eq_of_beq hc55
    have hni : (nameI n) = Ix.nIsbn := eq_of_beq hc55
    refine Cj.drawSel [] [] 10 (by kernel_rfl) ?_
    have htb_23 := htb
    refine JA.fix fx1 (fun fx56 => ?_)
    refine JA.tk 0 rfl fx56 q0 ?_
    refine JA.tk 1 rfl fx56 q0 ?_
    refine JA.tk 2 rfl fx56 q0 ?_
    refine JA.tk 4 rfl fx56 q0 ?_
    refine JA.tk 5 rfl fx56 q0 ?_
    refine JA.tk 6 rfl fx56 (q17 (off' := tof + i * 2) underlying36 sizeOf54) ?_
    refine JA.tk 7 rfl fx56 (yl_loadAgg rfl rfl isAgg54 sizeOf54 (Blk.immC htb_23) (row_from recC_len htd hgt) rfl) ?_
    refine q5 3 rfl (op_callN rfl rfl rfl rfl rfl (Key_ok ib (Ix.play (acts xs)) (nameI n) s (by omega) _ hx) ?_ (fun _ _ _ _ ⟨_, h, _⟩ => nomatch h) (fun _ _ ⟨_, h, _⟩ => nomatch h))
    intro v58 I59 H60 hle61 hn57 hp62
    have hx := hx.mono hle61
    have hra := hra.mono hle61
    have hw := hw.mono hle61
    have htr := htr.mono hle61
    have hIJ := hIJ.mono hle61
    have htb := hle61 _ _ htb
    have hIK := hIK.mono hle61
    have hrc := hrc.mono hle61
    obtain ⟨wd, h, hod⟩ := hp62; cases h
    have hnd := hn57
    refine ⟨⟨(Le.trans (Le.refl _) hle61), HSub.n, CSub.n⟩, ?_⟩
    refine JA.keepO hod hnd (fun Id hled hrd => ?_)
    have hx := hx.mono hled
    have hra := hra.mono hled
    have hw := hw.mono hled
    have htr := htr.mono hled
    have hIJ := hIJ.mono hled
    have htb := hled _ _ htb
    have hIK := hIK.mono hled
    have hrc := hrc.mono hled
    replace hrd := hrd.row
    refine q5 8 rfl (op_pure rfl rfl rfl rfl rfl (lcontains_ok (Ix.withK (Ix.play (acts xs)) (nameI n) (Ix.keyOf (nameI n) s)) t _ (Nat.le_trans (Ix.withK_le _ _ _) (by omega)) _ hrd) ?_)
    refine ⟨⟨(Le.trans (Le.trans (Le.refl _) hle61) hled), HSub.n, CSub.n⟩, ?_⟩
    refine JA.fix ⟨HSub.n, CSub.n, (Le.trans (Le.trans (Le.refl _) hle61) hled)⟩ (fun fx63 => ?_)
    refine JA.tk 9 rfl fx63 q1 ?_
    refine q9 ?_
    refine Ej.blkNormal (Ej.seq (Cj.seq (Cj.eqv 19 rfl (show _ = .bool (Ix.satT (Ix.play (acts xs)) (nameI n) (nameR m) s t) from congrArg Value.bool (by rw [hrel]; show _ = Ix.satT _ _ Ix.rEq _ _; rw [Ix.sat_eq, if_pos hni])) ?_)))
    refine Cj.region (J.z q0 ?_)
    refine J.z q0 ?_
    refine J.z q0 ?_
    refine J.z q0 ?_
    refine J.z (q17 (off' := tof + i * 2) underlying36 sizeOf54) ?_
    refine J.z (yl_loadAgg rfl rfl isAgg54 sizeOf54 (Blk.imm htb) (row_from recC_len htd hgt) rfl) ?_
    refine J.op rfl (op_pure rfl rfl rfl rfl rfl (lcontains_ok ra t _ (Nat.le_trans (hral) (by omega)) _ hra) ?_)
    refine J.eqv 129 rfl (show _ = .bool (Ix.satT (Ix.play (acts xs)) (nameI n) (nameR m) s t) from (congrArg Value.bool (hruna.mem htm))) ?_
    refine J.z (yl_neqBool rfl rfl rfl underlying4) ?_
    refine J.ns (Cj.cond rfl (fun hc64 => Bool.noConfusion (Eq.trans (Eq.symm (bne_self_eq_false _)) hc64)) (fun hc64 => ?_))
    refine Cj.skip (Ej.blkNormal (Ej.seq (Cj.region (J.z q0 ?_))))
    refine J.z (yl_add rfl rfl rfl (w64 (by omega))) ?_
    refine J.z q1 ?_
    refine J.nil (Ej.round (i + 1, _) ⟨by dsimp only; omega, hIJ⟩ (by dsimp only; omega) ⟨rfl, rfl, rfl, rfl, rfl, rfl, rfl, rfl, rfl, trivial⟩ rfl rfl)
   have hc55p := ne_of_beq_false hc55
   have hni : (nameI n) ≠ Ix.nIsbn := ne_of_beq_false hc55
   refine Cj.skip (Ej.blkNormal (Ej.seq (Cj.seq (Cj.eqv 19 rfl (show _ = .bool (Ix.satT (Ix.play (acts xs)) (nameI n) (nameR m) s t) from congrArg Value.bool (by rw [hrel]; show _ = Ix.satT _ _ Ix.rEq _ _; rw [Ix.sat_eq, if_neg hni])) ?_))))
   refine Cj.region (J.z q0 ?_)
   refine J.z q0 ?_
   refine J.z q0 ?_
   refine J.z q0 ?_
   refine J.z (q17 (off' := tof + i * 2) underlying36 sizeOf54) ?_
   refine J.z (yl_loadAgg rfl rfl isAgg54 sizeOf54 (Blk.imm htb) (row_from recC_len htd hgt) rfl) ?_
   refine J.op rfl (op_pure rfl rfl rfl rfl rfl (lcontains_ok ra t _ (Nat.le_trans (hral) (by omega)) _ hra) ?_)
   refine J.eqv 129 rfl (show _ = .bool (Ix.satT (Ix.play (acts xs)) (nameI n) (nameR m) s t) from (congrArg Value.bool (hruna.mem htm))) ?_
   refine J.z (yl_neqBool rfl rfl rfl underlying4) ?_
   refine J.ns (Cj.cond rfl (fun hc65 => Bool.noConfusion (Eq.trans (Eq.symm (bne_self_eq_false _)) hc65)) (fun hc65 => ?_))
   refine Cj.skip (Ej.blkNormal (Ej.seq (Cj.region (J.z q0 ?_))))
   refine J.z (yl_add rfl rfl rfl (w64 (by omega))) ?_
   refine J.z q1 ?_
   refine J.nil (Ej.round (i + 1, _) ⟨by dsimp only; omega, hIJ⟩ (by dsimp only; omega) ⟨rfl, rfl, rfl, rfl, rfl, rfl, rfl, rfl, rfl, trivial⟩ rfl rfl)
  have hc46p := ne_of_beq_false hc46
  refine Cj.sr (J.z (yl_eqlStr rfl rfl rfl) ?_)
  refine J.z q1 ?_
  refine J.cd (fun hc66 => ?_) (fun hc66 => ?_)
  ·
   have hc66p := eq_of_beq hc66
   have hrel : (nameR m) = [61, 61] := eq_of_beq hc66
   refine Cj.drawSel [] [] 10 (by kernel_rfl) ?_
   have htb_25 := htb
   refine JA.fix fx1 (fun fx67 => ?_)
   refine JA.tk 0 rfl fx67 q0 ?_
   refine JA.tk 1 rfl fx67 q0 ?_
   refine JA.tk 2 rfl fx67 q0 ?_
   refine JA.tk 4 rfl fx67 q0 ?_
   refine JA.tk 5 rfl fx67 q0 ?_
   refine JA.tk 6 rfl fx67 (q17 (off' := tof + i * 2) underlying36 sizeOf54) ?_
   refine JA.tk 7 rfl fx67 (yl_loadAgg rfl rfl isAgg54 sizeOf54 (Blk.immC htb_25) (row_from recC_len htd hgt) rfl) ?_
   refine q5 3 rfl (op_callN rfl rfl rfl rfl rfl (Key_ok ib (Ix.play (acts xs)) (nameI n) s (by omega) _ hx) ?_ (fun _ _ _ _ ⟨_, h, _⟩ => nomatch h) (fun _ _ ⟨_, h, _⟩ => nomatch h))
   intro v69 I70 H71 hle72 hn68 hp73
   have hx := hx.mono hle72
   have hra := hra.mono hle72
   have hw := hw.mono hle72
   have htr := htr.mono hle72
   have hIJ := hIJ.mono hle72
   have htb := hle72 _ _ htb
   have hIK := hIK.mono hle72
   obtain ⟨we, h, hoe⟩ := hp73; cases h
   have hne := hn68
   refine ⟨⟨(Le.trans (Le.refl _) hle72), HSub.n, CSub.n⟩, ?_⟩
   refine JA.keepO hoe hne (fun Ie hlee hre => ?_)
   have hx := hx.mono hlee
   have hra := hra.mono hlee
   have hw := hw.mono hlee
   have htr := htr.mono hlee
   have hIJ := hIJ.mono hlee
   have htb := hlee _ _ htb
   have hIK := hIK.mono hlee
   replace hre := hre.row
   refine q5 8 rfl (op_pure rfl rfl rfl rfl rfl (lcontains_ok (Ix.withK (Ix.play (acts xs)) (nameI n) (Ix.keyOf (nameI n) s)) t _ (Nat.le_trans (Ix.withK_le _ _ _) (by omega)) _ hre) ?_)
   refine ⟨⟨(Le.trans (Le.trans (Le.refl _) hle72) hlee), HSub.n, CSub.n⟩, ?_⟩
   refine JA.fix ⟨HSub.n, CSub.n, (Le.trans (Le.trans (Le.refl _) hle72) hlee)⟩ (fun fx74 => ?_)
   refine JA.tk 9 rfl fx74 q1 ?_
   refine q9 ?_
   refine Ej.blkNormal (Ej.seq (Cj.seq (Cj.eqv 19 rfl (show _ = .bool (Ix.satT (Ix.play (acts xs)) (nameI n) (nameR m) s t) from congrArg Value.bool (by rw [hrel]; exact (Ix.sat_key _ _ _ _).symm)) ?_)))
   refine Cj.region (J.z q0 ?_)
   refine J.z q0 ?_
   refine J.z q0 ?_
   refine J.z q0 ?_
   refine J.z (q17 (off' := tof + i * 2) underlying36 sizeOf54) ?_
   refine J.z (yl_loadAgg rfl rfl isAgg54 sizeOf54 (Blk.imm htb) (row_from recC_len htd hgt) rfl) ?_
   refine J.op rfl (op_pure rfl rfl rfl rfl rfl (lcontains_ok ra t _ (Nat.le_trans (hral) (by omega)) _ hra) ?_)
   refine J.eqv 129 rfl (show _ = .bool (Ix.satT (Ix.play (acts xs)) (nameI n) (nameR m) s t) from (congrArg Value.bool (hruna.mem htm))) ?_
   refine J.z (yl_neqBool rfl rfl rfl underlying4) ?_
   refine J.ns (Cj.cond rfl (fun hc75 => Bool.noConfusion (Eq.trans (Eq.symm (bne_self_eq_false _)) hc75)) (fun hc75 => ?_))
   refine Cj.skip (Ej.blkNormal (Ej.seq (Cj.region (J.z q0 ?_))))
   refine J.z (yl_add rfl rfl rfl (w64 (by omega))) ?_
   refine J.z q1 ?_
   refine J.nil (Ej.round (i + 1, _) ⟨by dsimp only; omega, hIJ⟩ (by dsimp only; omega) ⟨rfl, rfl, rfl, rfl, rfl, rfl, rfl, rfl, rfl, trivial⟩ rfl rfl)
  have hc66p := ne_of_beq_false hc66
  refine Cj.sr (J.z (yl_eqlStr rfl rfl rfl) ?_)
  refine J.z q1 ?_
  refine J.cd (fun hc76 => ?_) (fun hc76 => ?_)
  ·
   have hc76p := eq_of_beq hc76
   have hrel : (nameR m) = [97, 110, 121] := eq_of_beq hc76
   refine Cj.region (J.z q0 ?_)
   refine J.z (yl_gtr rfl rfl rfl) ?_
   refine J.z q1 ?_
   refine J.nil (Ej.blkNormal (Ej.seq (Cj.seq (Cj.eqv 19 rfl (show _ = .bool (Ix.satT (Ix.play (acts xs)) (nameI n) (nameR m) s t) from congrArg Value.bool (by rw [hrel]; show _ = Ix.satT _ _ Ix.rAny _ _; rw [Ix.sat_any]; exact decide_eq_decide.2 (by rw [hall]; omega))) ?_))))
   refine Cj.region (J.z q0 ?_)
   refine J.z q0 ?_
   refine J.z q0 ?_
   refine J.z q0 ?_
   refine J.z (q17 (off' := tof + i * 2) underlying36 sizeOf54) ?_
   refine J.z (yl_loadAgg rfl rfl isAgg54 sizeOf54 (Blk.imm htb) (row_from recC_len htd hgt) rfl) ?_
   refine J.op rfl (op_pure rfl rfl rfl rfl rfl (lcontains_ok ra t _ (Nat.le_trans (hral) (by omega)) _ hra) ?_)
   refine J.eqv 129 rfl (show _ = .bool (Ix.satT (Ix.play (acts xs)) (nameI n) (nameR m) s t) from (congrArg Value.bool (hruna.mem htm))) ?_
   refine J.z (yl_neqBool rfl rfl rfl underlying4) ?_
   refine J.ns (Cj.cond rfl (fun hc77 => Bool.noConfusion (Eq.trans (Eq.symm (bne_self_eq_false _)) hc77)) (fun hc77 => ?_))
   refine Cj.skip (Ej.blkNormal (Ej.seq (Cj.region (J.z q0 ?_))))
   refine J.z (yl_add rfl rfl rfl (w64 (by omega))) ?_
   refine J.z q1 ?_
   refine J.nil (Ej.round (i + 1, _) ⟨by dsimp only; omega, hIJ⟩ (by dsimp only; omega) ⟨rfl, rfl, rfl, rfl, rfl, rfl, rfl, rfl, rfl, trivial⟩ rfl rfl)
  have hc76p := ne_of_beq_false hc76
  refine Cj.sr (J.z (yl_eqlStr rfl rfl rfl) ?_)
  refine J.z q1 ?_
  refine J.cd (fun hc78 => ?_) (fun hc78 => ?_)
  ·
   have hc78p := eq_of_beq hc78
   have hrel : (nameR m) = [97, 108, 108] := eq_of_beq hc78
   refine Cj.region (J.z q0 ?_)
   refine J.z (yl_gtr rfl rfl rfl) ?_
   refine J.z q0 ?_
   refine J.split 117 rfl (fun hg79 => ?_) (fun hg79 => ?_)
   ·
    have hg79p := of_decide_eq_true hg79
    refine q14 2 117 true hg79 (q7 q0 ?_)
    refine q14 2 117 true hg79 (q7 q0 ?_)
    refine q14 2 117 true hg79 (q7 (q12 underlying69) ?_)
    refine q14 2 117 true hg79 (q7 q19 ?_)
    refine J.z (q23 hg79) ?_
    refine J.z q1 ?_
    refine J.nil (Ej.blkNormal (Ej.seq (Cj.seq (Cj.eqv 19 rfl (show _ = .bool (Ix.satT (Ix.play (acts xs)) (nameI n) (nameR m) s t) from congrArg Value.bool (by rw [hrel]; show _ = Ix.satT _ _ Ix.rAll _ _; rw [Ix.sat_all, decide_eq_true (by rw [← hall]; omega), Bool.true_and, Bool.eq_iff_iff, beq_iff_eq, decide_eq_true_eq, hall]; omega)) ?_))))
    refine Cj.region (J.z q0 ?_)
    refine J.z q0 ?_
    refine J.z q0 ?_
    refine J.z q0 ?_
    refine J.z (q17 (off' := tof + i * 2) underlying36 sizeOf54) ?_
    refine J.z (yl_loadAgg rfl rfl isAgg54 sizeOf54 (Blk.imm htb) (row_from recC_len htd hgt) rfl) ?_
    refine J.op rfl (op_pure rfl rfl rfl rfl rfl (lcontains_ok ra t _ (Nat.le_trans (hral) (by omega)) _ hra) ?_)
    refine J.eqv 129 rfl (show _ = .bool (Ix.satT (Ix.play (acts xs)) (nameI n) (nameR m) s t) from (congrArg Value.bool (hruna.mem htm))) ?_
    refine J.z (yl_neqBool rfl rfl rfl underlying4) ?_
    refine J.ns (Cj.cond rfl (fun hc80 => Bool.noConfusion (Eq.trans (Eq.symm (bne_self_eq_false _)) hc80)) (fun hc80 => ?_))
    refine Cj.skip (Ej.blkNormal (Ej.seq (Cj.region (J.z q0 ?_))))
    refine J.z (yl_add rfl rfl rfl (w64 (by omega))) ?_
    refine J.z q1 ?_
    refine J.nil (Ej.round (i + 1, _) ⟨by dsimp only; omega, hIJ⟩ (by dsimp only; omega) ⟨rfl, rfl, rfl, rfl, rfl, rfl, rfl, rfl, rfl, trivial⟩ rfl rfl)
   have hg79p := of_decide_eq_false hg79
   refine q10 2 117 118 true hg79 ?_
   refine q10 2 117 119 true hg79 ?_
   refine q10 2 117 120 true hg79 ?_
   refine q10 2 117 121 true hg79 ?_
   refine J.z (q24 hg79) ?_
   refine J.z q1 ?_
   refine J.nil (Ej.blkNormal (Ej.seq (Cj.seq (Cj.eqv 19 rfl (show _ = .bool (Ix.satT (Ix.play (acts xs)) (nameI n) (nameR m) s t) from congrArg Value.bool (by rw [hrel]; show _ = Ix.satT _ _ Ix.rAll _ _; rw [Ix.sat_all, decide_eq_false (by rw [← hall]; omega), Bool.false_and])) ?_))))
   refine Cj.region (J.z q0 ?_)
   refine J.z q0 ?_
   refine J.z q0 ?_
   refine J.z q0 ?_
   refine J.z (q17 (off' := tof + i * 2) underlying36 sizeOf54) ?_
   refine J.z (yl_loadAgg rfl rfl isAgg54 sizeOf54 (Blk.imm htb) (row_from recC_len htd hgt) rfl) ?_
   refine J.op rfl (op_pure rfl rfl rfl rfl rfl (lcontains_ok ra t _ (Nat.le_trans (hral) (by omega)) _ hra) ?_)
   refine J.eqv 129 rfl (show _ = .bool (Ix.satT (Ix.play (acts xs)) (nameI n) (nameR m) s t) from (congrArg Value.bool (hruna.mem htm))) ?_
   refine J.z (yl_neqBool rfl rfl rfl underlying4) ?_
   refine J.ns (Cj.cond rfl (fun hc81 => Bool.noConfusion (Eq.trans (Eq.symm (bne_self_eq_false _)) hc81)) (fun hc81 => ?_))
   refine Cj.skip (Ej.blkNormal (Ej.seq (Cj.region (J.z q0 ?_))))
   refine J.z (yl_add rfl rfl rfl (w64 (by omega))) ?_
   refine J.z q1 ?_
   refine J.nil (Ej.round (i + 1, _) ⟨by dsimp only; omega, hIJ⟩ (by dsimp only; omega) ⟨rfl, rfl, rfl, rfl, rfl, rfl, rfl, rfl, rfl, trivial⟩ rfl rfl)
  have hc78p := ne_of_beq_false hc78
  refine Cj.exit (Ej.blkOther rfl ?_)
  refine Ej.seqExit (Ej.blkExit (Ej.seq (Cj.region (J.z q0 ?_))))
  refine J.z (yl_add rfl rfl rfl (w64 (by omega))) ?_
  refine J.z q1 ?_
  refine J.nil (Ej.round (i + 1, _) ⟨by dsimp only; omega, hIJ⟩ (by dsimp only; omega) ⟨rfl, rfl, rfl, rfl, rfl, rfl, rfl, rfl, rfl, trivial⟩ rfl rfl)
 have hc36p := of_decide_eq_false hc36
 refine Cj.exit (Ej.seqExit (Ej.loopExit (Ej.blkExit (Ej.seq (Cj.sr (J.z q0 ?_))))))
 refine J.z q0 ?_
 refine J.opG 1 132 true _ rfl rfl rfl rfl (q7 q0 ?_)
 refine J.opG 1 132 true _ rfl rfl rfl rfl (q7 (q12 underlying36) ?_)
 refine J.opG 1 132 true _ rfl rfl rfl rfl (q7 q0 ?_)
 refine J.opG 1 132 true _ rfl rfl rfl rfl (q7 (q12 underlying36) ?_)
 refine J.opG 1 132 true _ rfl rfl rfl rfl (q7 (yl_leq rfl rfl rfl) ?_)
 refine J.eqv 137 rfl (show _ = .bool true from (congrArg Value.bool (decide_eq_true (by omega)))) ?_
 refine J.z (yl_pick1 rfl rfl rfl rfl) ?_
 refine J.z q1 ?_
 refine J.ns (Cj.ret (q4 ?_))
 exact ⟨rfl, rfl⟩
end Go.Proofs.YtekmeaoblpfnpaaGreatDoor
end
section
namespace Go.Proofs.YtekmeaoblpfnpaaGreatDoor
open Go.ChangeShapes Go.WideShapes Go.ChangeAt Go.RowKit Go.Sx Go.Lib Go.ChangeMaps
theorem tab_of_reads {P : Program} {W : World} {name : String} {k : IntKind} {zs : List Int} {g : Nat} {t e : TypeId} {n : Nat}
    (hg : P.globalNamed name = some g) (hty : (P.globals[g]?).map (·.type) = some t) (ht : P.underlying t = some (.array n e)) (he : P.underlying e = some (.int k)) (hce : P.cellsOf e = 1) (hct : P.cellsOf t = n)
    (h : VarReads P W name (tabData k zs)) : TabIs P W name k zs := by
  obtain ⟨g', t', cs, fuel, p, hg', ht', hvar, hd⟩ := h
  obtain rfl := Option.some.inj (hg.symm.trans hg')
  obtain rfl := Option.some.inj (hty.symm.trans ht')
  unfold TabIs
  rw [hvar, ← cells_of_tab ht he hce hct hd]
theorem stab_of {W : World} {L : List (String × DataW Unit)} (hL : laidMet Tryz.prog L W) (hw : ("unicode.White_Space", Rows.laid_unicode_White_Space) ∈ L) (ha : ("strings.asciiSpace", Rows.laid_strings_asciiSpace) ∈ L) : STab (HW W) := by
  have e1 : (Rows.laid_unicode_White_Space : DataW Unit) = whiteData := by kernel_rfl
  have e2 : (Rows.laid_strings_asciiSpace : DataW Unit) = tabData .u8 asciiSpaceTab := by kernel_rfl
  have hT : TabIs Tryz.prog W "strings.asciiSpace" .u8 asciiSpaceTab := tab_of_reads (g := 1) (t := Tryz.lays157_ren.t 119) (e := Tryz.lays157_ren.t 5) (n := 256) (by kernel_rfl) (by kernel_rfl) Tryz.lays157.t119 Tryz.lays157.t5 (by kernel_rfl) (by kernel_rfl) (e2 ▸ laidMet.reads hL ha)
  have hS : WhiteTab 3 W := whiteTab_of_reads (ρ := Tryz.lays157_ren) { Tryz.lays157 with } ⟨by kernel_rfl, by kernel_rfl, by kernel_rfl, by kernel_rfl, by kernel_rfl, by kernel_rfl, by kernel_rfl, by kernel_rfl⟩ (e1 ▸ laidMet.reads hL hw)
  intro w hwW
  have key : ∀ (a : Addr) (v : Value), W.cell? a = some v → w.cell? a = some v := fun a v h => by
    have h0 := h
    unfold World.cell? at h
    cases hb : W.heap[a.block]? with
    | none => rw [hb] at h; cases h
    | some o =>
      have := World.cell?_of_block (w := w) (w' := W) (a := a) (by rw [hwW _ _ hb, hb])
      rw [← this]; exact h0
  refine ⟨?_, ?_⟩
  · unfold TabIs World.var? at hT ⊢
    have hg : Tryz.prog.globalNamed "strings.asciiSpace" = some 1 := by kernel_rfl
    rw [hg] at hT ⊢
    simp only [Option.bind_some] at hT ⊢
    cases hb : W.heap[(1 : Nat)]? with
    | none => rw [hb] at hT; cases hT
    | some o => rw [hwW _ _ hb]; rw [hb] at hT; exact hT
  obtain ⟨T, oT, R, oR, h1, h2, h3, h4, h5⟩ := hS
  exact ⟨T, oT, R, oR, key _ _ h1, key _ _ h2, key _ _ h3, key _ _ h4, fun i hi => key _ _ (h5 i hi)⟩
end Go.Proofs.YtekmeaoblpfnpaaGreatDoor
end
section
namespace Go.Proofs.YtekmeaoblpfnpaaGreatDoor
open Go.ChangeShapes Go.WideShapes Go.ChangeAt Go.RowKit Go.Sx Go.Lib Go.ChangeMaps Go.WideMaps
section
variable {H : Type} {enc : TypeId × Value → H} {W : World} {base : Nat}
theorem Arg.field {fs : Array Field} {cs : List Value} {ms : List Nat} (h : ∀ (i : Nat) f m', fs[i]? = some f → ms[i]? = some m' → Arg enc W f.type ((cs.drop f.offset).take (Tryz.prog.cellsOf f.type)) m') (i : Nat) {f : Field} {m t o k : Nat}
    (hf : fs[i]? = some f) (hm : ms[i]? = some m) (ht : f.type = t) (ho : f.offset = o) (hc : Tryz.prog.cellsOf t = k) : Arg enc W t ((cs.drop o).take k) m := by
  subst ht ho hc
  exact h i f m hf hm
theorem list4 {α : Type} {l : List α} (h : l.length = 4) : ∃ a b c d, l = [a, b, c, d] := by
  match l, h with
  | [a, b, c, d], _ => exact ⟨a, b, c, d, rfl⟩
theorem wf_in64 {n : Int} (h : (Lit.int .i64 n).wf = true) : In64 n := by
  have h1 : (decide (-9223372036854775808 ≤ n) && decide (n ≤ 9223372036854775807)) = true := h
  rw [Bool.and_eq_true, decide_eq_true_eq, decide_eq_true_eq] at h1
  exact h1
theorem Arg.elem {e k : Nat} {cs : List Value} {ms : List Nat} (h : ∀ (i m' : Nat), ms[i]? = some m' → Arg enc W e ((cs.drop (i * 1)).take 1) m') (he : Tryz.prog.underlying e = some (.int .i64)) (hml : ms.length = k) (i : Nat) (hi : i < k) : ∃ z : Int, cs[i]? = some (i64 z) ∧ In64 z := by
  have hm : ms[i]? = some (ms[i]'(by omega)) := List.getElem?_eq_getElem _
  obtain ⟨z, hz, hw, _⟩ := (h i _ hm).int he
  refine ⟨z, ?_, wf_in64 hw⟩
  have := congrArg (fun l => l[0]?) hz
  simpa [List.getElem?_drop] using this
theorem list_four {cs : List Value} (hl : cs.length = 4) (h : ∀ i, i < 4 → ∃ z : Int, cs[i]? = some (i64 z) ∧ In64 z) : ∃ q : Ix.Four, cs = fourC q ∧ FourOk q := by
  match cs, hl with
  | [a, b, c, d], _ =>
    obtain ⟨z0, e0, w0⟩ := h 0 (by decide)
    obtain ⟨z1, e1, w1⟩ := h 1 (by decide)
    obtain ⟨z2, e2, w2⟩ := h 2 (by decide)
    obtain ⟨z3, e3, w3⟩ := h 3 (by decide)
    cases e0; cases e1; cases e2; cases e3
    exact ⟨⟨z0, z1, z2, z3⟩, rfl, ⟨w0, w1, w2, w3⟩⟩
theorem Arg.four {cs : List Value} {m : Nat} (h : Arg enc W 215 cs m) : ∃ q : Ix.Four, cs = fourC q ∧ FourOk q := by
  obtain ⟨hl, ms, hml, _, hf⟩ := h.array Tryz.underlying215
  rw [show Tryz.prog.cellsOf 215 = 4 by kernel_rfl] at hl
  rw [show Tryz.prog.cellsOf 3 = 1 by kernel_rfl] at hf
  exact list_four hl fun i hi => Arg.elem hf Tryz.underlying3 hml i hi
theorem Arg.act {cs : List Value} {m : Nat} (h : Arg enc W 93 cs m) : ∃ x : Act, cs = actC x ∧ RowS fourC (HW W) x.a.fs x.v ∧ ∀ q ∈ x.a.fs, FourOk q := by
  obtain ⟨hl, ms, hml, hms, hf⟩ := h.struct Tryz.underlying93
  rw [show Tryz.prog.cellsOf 93 = 4 by kernel_rfl] at hl
  obtain ⟨a, b, c, d, rfl⟩ := list4 hl
  obtain ⟨m0, m1, m2, m3, rfl⟩ := list4 hml
  have cI : Tryz.prog.cellsOf 3 = 1 := by kernel_rfl
  obtain ⟨b0, h0⟩ := (Arg.field hf (o := 0) 0 rfl rfl rfl rfl (show Tryz.prog.cellsOf 4 = 1 by kernel_rfl)).bool Tryz.underlying4
  obtain ⟨z1, h1, _, _⟩ := (Arg.field hf (o := 1) 1 rfl rfl rfl rfl cI).int Tryz.underlying3
  obtain ⟨z2, h2, _, _⟩ := (Arg.field hf (o := 2) 2 rfl rfl rfl rfl cI).int Tryz.underlying3
  obtain ⟨l, v, h3, hr, _, _, hq⟩ := (Arg.field hf (o := 3) 3 rfl rfl rfl rfl (show Tryz.prog.cellsOf 91 = 1 by kernel_rfl)).row (f := fourC) (size := fun _ => 0) Tryz.underlying91 (show Tryz.prog.cellsOf 215 = 4 by kernel_rfl) (by decide) FourOk fun cs m' _ h => by
    obtain ⟨q, h1, h2⟩ := h.four
    exact ⟨q, h1, Nat.zero_le _, h2⟩
  simp only [List.drop_zero, List.drop_succ_cons, List.take_succ_cons, List.take_zero, List.cons.injEq, and_true] at h0 h1 h2 h3
  subst h0 h1 h2 h3
  exact ⟨⟨⟨b0, z1, z2, l⟩, d⟩, rfl, hr, hq⟩
theorem arg_acts {v : Value} {d : DataW H} {p : List MemPlace} (hval : Value.okWide Tryz.prog W .any base 22 v) (h : DataW.Trod enc Tryz.prog W 0 (fun _ => true) true 22 v d p) (hlt : ∀ x ∈ p, x.block < W.heap.size) :
    ∃ xs : List Act, ActsS (HW W) xs v ∧ ActsOk xs ∧ Again enc W 22 v d p := by
  have hag := again (by kernel_rfl) (of_decide_eq_true (by kernel_rfl)) h hlt
  obtain ⟨a, len, cap, rfl⟩ := okWide_slice Tryz.underlying22 hval
  obtain ⟨xs, v', h1, h2, _, _, h4⟩ := (Arg.of h).row (f := actC) (size := fun _ => 0) Tryz.underlying22 (show Tryz.prog.cellsOf 93 = 4 by kernel_rfl) (by decide) (fun x => RowS fourC (HW W) x.a.fs x.v ∧ ∀ q ∈ x.a.fs, FourOk q) fun cs m' _ h => by
    obtain ⟨x, h1, h2, h3⟩ := h.act
    exact ⟨x, h1, Nat.zero_le _, h2, h3⟩
  obtain rfl : Value.slice a len cap = v' := by simpa [Value.cells] using h1
  exact ⟨xs, ⟨h2, fun x hx => (h4 x hx).1⟩, fun x hx => (h4 x hx).2, hag⟩
end
end Go.Proofs.YtekmeaoblpfnpaaGreatDoor
end
