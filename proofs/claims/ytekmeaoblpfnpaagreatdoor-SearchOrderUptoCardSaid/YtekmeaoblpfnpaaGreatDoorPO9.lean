/-
  Own texts on the laws of the seat, joined: the logic, and contracts of functions. Conditions: none.
-/
import Derived.Test.YtekmeaoblpfnpaaGreatDoorNmO
import Derived.Test.YtekmeaoblpfnpaaGreatDoorPO8
import Derived.Deep.Draws
set_option maxRecDepth 100000
set_option maxHeartbeats 4000000
section
namespace Go.Proofs.YtekmeaoblpfnpaaGreatDoor
open _root_.Go.Proofs.Tryz
open Go Go.Sx
theorem Drop_some (ib : Nat) (s0 : Ist) (L : Ix.Ix) (t : Ix.Rec) (I : Heap) (hok0 : IstOk I s0 L) : Ctr Tryz.prog 43 [ptr ib 0, kvR t] I (istH ib s0)
    (fun e I' H' => ∃ s', e = .returned (.tuple #[]) ∧ IstOk I' s' (Ix.rdrop t L) ∧ H' = istH ib s') := by
 obtain ⟨vb, wb, kb, lv, cv, lw, cw, Nw, lk, ck, Nk⟩ := s0
 unfold istH
 dsimp only
 have hok := hok0
 refine Ctr.ob func43 ?_
 intro w0 hw0
 refine Cj.sr (J.op rfl (q16 ?_))
 intro b1 hb1
 refine J.op rfl (q16 ?_)
 intro b2 hb2
 refine J.nsss (Cj.pull (Pull.s Pull.z) ?_)
 refine Cj.persist hb1 (fun I4 hle3 hb1i => ?_)
 have hok := hok.mono hle3
 refine Cj.persist hb2 (fun I6 hle5 hb2i => ?_)
 have hok := hok.mono hle5
 have hb1i := hle5 _ _ hb1i
 refine Cj.region (J.z (q5 tA26 (Blk.imm hb1i)) ?_)
 refine J.z (q38 tU26) ?_
 refine J.c0 (fun hc7 => ?_)
 refine Cj.ks (Cj.seq (Cj.seq ?_))
 have hv0 := hok.vals
 obtain ⟨vv, hvv, hvs⟩ := hv0.at t
 obtain ⟨xs, hrow, hX⟩ := hvs
 obtain ⟨vp, vc, rfl, hvc, -⟩ := id hrow
 have hvok := rget_vok hok.srt hok.vok t
 have hxl := hX.len
 have hvl := hvok.1
 have hY0 : YD ib vb wb kb L t ((Ix.rget L t).getD []) 0 ((ib, cel 114 (ixC vb wb kb)) :: (setH wb lw cw Nw ++ setH kb lk ck Nk)) := ⟨lw, cw, Nw, lk, ck, Nk, (by have h := hok.nw; rw [cnt_way Ix.plW rfl L t] at h; exact h), (by have h := hok.nk; rw [cnt_way Ix.plK rfl L t] at h; exact h), rfl⟩
 refine Cj.drawSel [0, 1] [] 8 (by kernel_rfl) ?_
 refine JA.fix ⟨(HSub.c 0 rfl (HSub.c 1 rfl HSub.n)), CSub.n, (Le.refl _)⟩ (fun fx8 => ?_)
 refine JA.tk 0 rfl fx8 (q5 tA26 (Blk.immC hb1i)) ?_
 refine JA.tk 1 rfl fx8 q6 ?_
 refine JA.tk 2 rfl fx8 (q2 (off' := 0) tU114 tS110) ?_
 refine JA.tk 3 rfl fx8 (q5 tA110 (Blk.atC 1 rfl)) ?_
 refine JA.tk 4 rfl fx8 (q19 tA54 tS54 (Blk.immC hb2i)) ?_
 refine JA.tk 5 rfl fx8 (q31 (kv := kvR) (l := lv) (a := t) tU110 keyR tZ140 (Blk.atC 0 rfl)) ?_
 refine JA.eqv 13 rfl (show _ = .slice vp xs.length vc from hvv) ?_
 refine JA.tk 6 rfl fx8 (q13 tU140) ?_
 refine JA.tk 7 rfl fx8 q0 ?_
 refine q8 ?_
 refine Ej.seq (Cj.block (Cj.loop (ι := DA) (fun y => y.i ≤ xs.length ∧ Le I6 y.J ∧ YD ib vb wb kb L t ((Ix.rget L t).getD []) y.i y.Y) (fun y => xs.length - y.i) (fun y => [(2, ptr b1 0), (3, ptr b2 0), (13, .slice vp xs.length vc), (14, i64 (xs.length : Int)), (15, i64 (y.i : Int))]) (fun y => y.J) (fun y => (vb, mobj kvR lv cv) :: y.Y) ⟨0, _, (ib, cel 114 (ixC vb wb kb)) :: (setH _ _ _ _ ++ setH _ _ _ _)⟩ ⟨Nat.zero_le _, Le.refl _, hY0⟩ ⟨rfl, rfl, rfl, rfl, rfl, trivial⟩ rfl rfl ?_))
 rintro ⟨i, Jh, Y9⟩ ⟨hi, hIJ, hY⟩
 dsimp only at hi hIJ hY ⊢
 have hrow := hrow.mono hIJ
 have hX := hX.mono hIJ
 have hb1i := hIJ _ _ hb1i
 have hb2i := hIJ _ _ hb2i
 refine Cj.sr (J.z q18 ?_)
 refine J.nss (Cj.cond rfl (fun hc9 => ?_) (fun hc9 => ?_))
 ·
  have hc9p := odt hc9
  have hlt : i < xs.length := by omega
  obtain ⟨x, hget⟩ : ∃ x, xs[i]? = some x := ⟨_, lgg hlt⟩
  obtain ⟨vp1, vc1, hve, -, hvb⟩ := id hrow
  cases hve
  obtain ⟨rb, rsp, rfl, hrb⟩ := hvb (ne_nil_of hlt)
  have hws := hX.2 x (lmg hget)
  have hgv := (congrArg (fun l => l[i]?) hX.1).symm.trans ((List.getElem?_map).trans (congrArg (Option.map (·.1)) hget))
  dsimp only [Option.map_some] at hgv
  refine Cj.ks (Cj.seq (Cj.block (Cj.sr (J.z (q15 (off' := 0 + i * 3) tU140 tS142) ?_))))
  refine J.z (q30 isAgg142 tS142 (Blk.imm hrb) (row_from vwC_len (o := 0) rfl hget)) ?_
  refine J.op rfl (q23 tZ142 ?_)
  intro b10 hb10
  refine J.op rfl (op_store 0 rfl rfl rfl rfl rfl (vw_one hws rfl rfl) tS142 rfl rfl (LSpl.c (LSpl.c (LSpl.c LSpl.z))) LSet.z ?_)
  refine J.nsr (J.z (q20 isAgg142 tS142) ?_)
  refine J.z q37 ?_
  refine J.z q37 ?_
  refine J.op rfl (op_callR (H1 := Y9) [_, _] rfl rfl rfl rfl rfl rfl (each_drop b1 b2 ib vb wb kb L t ((Ix.rget L t).getD []) hvok i x.1 x.2 hgv _ hws hb1i hb2i _ hY) ?_ (fun _ _ _ _ h => by cases h.1) (fun _ _ h => by cases h.1))
  intro v11 I12 H13 hle14 hp15
  have hIJ := hIJ.mono hle14
  obtain ⟨h, hY1⟩ := hp15; cases h
  refine J.nb (Cj.region (J.z q7 ?_))
  refine J.z q0 ?_
  refine J.nil (Ej.keep (Keeps.d (Keeps.k Keeps.r)) ?_)
  refine Ej.round ⟨i + 1, _, H13⟩ ⟨by dsimp only; omega, hIJ, hY1⟩ (by dsimp only; omega) ⟨rfl, rfl, rfl, rfl, rfl, trivial⟩ rfl rfl
 have hc9p := odf hc9
 have hil : i = ((Ix.rget L t).getD []).length := by omega
 obtain ⟨lw2, cw2, Nw2, lk2, ck2, Nk2, hw2, hk2, rfl⟩ := hY
 rw [hil, List.drop_length] at hw2 hk2
 refine Cj.xl (Cj.drawSel [1] [] 6 (by kernel_rfl) ?_)
 refine JA.fix ⟨(HSub.c 1 rfl HSub.n), CSub.n, (Le.refl _)⟩ (fun fx16 => ?_)
 refine JA.tk 0 rfl fx16 (q5 tA26 (Blk.immC hb1i)) ?_
 refine JA.tk 1 rfl fx16 q6 ?_
 refine JA.tk 2 rfl fx16 (q2 (off' := 0) tU114 tS110) ?_
 refine JA.tk 3 rfl fx16 (q5 tA110 (Blk.atC 0 rfl)) ?_
 refine JA.tk 4 rfl fx16 (q19 tA54 tS54 (Blk.immC hb2i)) ?_
 refine q4 5 rfl (op_delete0 (kv := kvR) (a := t) 0 rfl rfl rfl rfl rfl tU110 keyR rfl LSet.z ?_)
 refine ⟨⟨(Le.refl _), (HSub.c 1 rfl HSub.n), CSub.n⟩, ?_⟩
 refine q8 ?_
 refine q32 ?_
 exact ⟨⟨vb, wb, kb, mdel lv t, cv, lw2, cw2, Nw2, lk2, ck2, Nk2⟩, rfl, hok.drop hIJ t hw2 hk2, rfl⟩
theorem Drop_none (ib : Nat) (t : Ix.Rec) (I : Heap) : Ctr Tryz.prog 43 [ptr ib 0, kvR t] I [(ib, cel 114 [.map none, .map none, .map none])]
    (fun e _ H' => e = .returned (.tuple #[]) ∧ H' = [(ib, cel 114 [.map none, .map none, .map none])]) := by
 refine Ctr.ob func43 ?_
 intro w0 hw0
 refine Cj.sr (J.op rfl (q16 ?_))
 intro b1 hb1
 refine J.op rfl (q16 ?_)
 intro b2 hb2
 refine J.nsss (Cj.region (J.z (q5 tA26 (Blk.at 1 rfl)) ?_))
 refine J.z (q38 tU26) ?_
 refine J.c0 (fun hc3 => ?_)
 refine Cj.ks (Cj.seq (Cj.seq (Cj.drawSel [0, 1, 2] [] 8 (by kernel_rfl) ?_)))
 refine JA.fix ⟨(HSub.c 0 rfl (HSub.c 1 rfl (HSub.c 2 rfl HSub.n))), CSub.n, (Le.refl _)⟩ (fun fx4 => ?_)
 refine JA.tk 0 rfl fx4 (q5 tA26 (Blk.atC 1 rfl)) ?_
 refine JA.tk 1 rfl fx4 q6 ?_
 refine JA.tk 2 rfl fx4 (q2 (off' := 0) tU114 tS110) ?_
 refine JA.tk 3 rfl fx4 (q5 tA110 (Blk.atC 2 rfl)) ?_
 refine JA.tk 4 rfl fx4 (q19 tA54 tS54 (Blk.atC 0 rfl)) ?_
 refine JA.tk 5 rfl fx4 (yl_lookupNil1 (kv := kvR) (a := t) rfl rfl rfl rfl tU110 keyR tZ140) ?_
 refine JA.tk 6 rfl fx4 (q13 tU140) ?_
 refine JA.tk 7 rfl fx4 q0 ?_
 refine q8 ?_
 refine Ej.seq (Cj.block (Cj.rounds 1 ?_))
 refine Rj.succ ?_
 refine Cj.sr (J.z q18 ?_)
 refine J.nss (Cj.cond rfl (fun hc5 => ?_) (fun hc5 => ?_))
 ·
  have hc5p := odt hc5
  exact absurd (odt hc5) (by decide)
 have hc5p := odf hc5
 refine Cj.exit (Ej.seqExit (Ej.seqExit (Ej.blkExit (Ej.seq (Cj.drawSel [0, 1, 2] [] 6 (by kernel_rfl) ?_)))))
 refine JA.fix ⟨(HSub.c 0 rfl (HSub.c 1 rfl (HSub.c 2 rfl HSub.n))), CSub.n, (Le.refl _)⟩ (fun fx6 => ?_)
 refine JA.tk 0 rfl fx6 (q5 tA26 (Blk.atC 1 rfl)) ?_
 refine JA.tk 1 rfl fx6 q6 ?_
 refine JA.tk 2 rfl fx6 (q2 (off' := 0) tU114 tS110) ?_
 refine JA.tk 3 rfl fx6 (q5 tA110 (Blk.atC 2 rfl)) ?_
 refine JA.tk 4 rfl fx6 (q19 tA54 tS54 (Blk.atC 0 rfl)) ?_
 refine q4 5 rfl (op_deleteNil (kv := kvR) (a := t) rfl rfl rfl rfl rfl tU110 keyR ?_)
 refine ⟨⟨(Le.refl _), (HSub.c 0 rfl (HSub.c 1 rfl (HSub.c 2 rfl HSub.n))), CSub.n⟩, ?_⟩
 refine q8 ?_
 refine Ej.keep (Keeps.d (Keeps.d (Keeps.k Keeps.n))) ?_
 refine q32 ?_
 exact ⟨rfl, rfl⟩
theorem iput_end {I I' : Heap} {vb wb kb : Nat} {lv : ML Ix.Rec} {cv : Nat} {lw : ML Ix.Pl} {cw : Nat} {Nw : Nest Ix.Pl Ix.Rec} {lk : ML Ix.Pl} {ck : Nat} {Nk : Nest Ix.Pl Ix.Rec} {L : Ix.Ix} {t : Ix.Rec} (h : IstOk I ⟨vb, wb, kb, lv, cv, lw, cw, Nw, lk, ck, Nk⟩ (Ix.rdrop t L)) (hs : Ix.Srt L) (hL : L.length < 100000) {vs : List Ix.V} (hv : VOK vs) {w : Value} (hw0 : ValsS I' vs w) (hle : Le I I') {lw2 : ML Ix.Pl} {cw2 : Nat} {Nw2 : Nest Ix.Pl Ix.Rec} {lk2 : ML Ix.Pl} {ck2 : Nat} {Nk2 : Nest Ix.Pl Ix.Rec}
    (hw : NestS lw2 cw2 Nw2 (Ix.way (Ix.cnt Ix.plW L) t fun p => (Ix.plW vs).count p)) (hk : NestS lk2 ck2 Nk2 (Ix.way (Ix.cnt Ix.plK L) t fun p => (Ix.plK vs).count p)) : IstOk I' ⟨vb, wb, kb, mset lv t w cv, mclk lv t cv, lw2, cw2, Nw2, lk2, ck2, Nk2⟩ (Ix.rput t vs L) := by
  have hb : (Ix.rdrop t L).length < 100000 := Nat.lt_of_le_of_lt (List.length_filter_le _ _) hL
  have hww : ∀ (pl : List Ix.V → List Ix.Pl), (Ix.way (Ix.cnt pl L) t fun p => (pl vs).count p) = Ix.way (Ix.cnt pl (Ix.rdrop t L)) t fun p => (pl vs).count p := fun pl => by
    rw [Ix.cnt_rdrop hs]
    funext p u
    unfold Ix.way
    split <;> rfl
  rw [hww] at hw hk
  have h2 := (h.mono hle).put hb hv hw0 hw hk
  rw [Ix.rput_rdrop hs] at h2
  exact h2
theorem Put_some (ib : Nat) (s0 : Ist) (L : Ix.Ix) (e0 : Ent) (I : Heap) (hok : IstOk I s0 L) (hbig : L.length < 100000) (hek : EOK e0.fs) (hrec : RecS I e0.fs e0.v) : Ctr Tryz.prog 50 [ptr ib 0, .agg (entC e0).toArray] I (istH ib s0)
    (fun e I' H' => ∃ s', e = .returned (.tuple #[]) ∧ IstOk I' s' (Ix.rput e0.t (Ix.vals e0.fs) L) ∧ H' = istH ib s') := by
 have hsrt := hok.srt
 obtain ⟨vp0, vc0, hev, -, -⟩ := id hrec.1
 refine Ctr.ob func50 ?_
 intro w0 hw0
 refine Cj.sr (J.op rfl (q16 ?_))
 intro b1 hb1
 refine J.op rfl (q16 ?_)
 intro b2 hb2
 refine J.nsss (Cj.pull (Pull.s Pull.z) ?_)
 refine Cj.persist hb1 (fun I4 hle3 hb1i => ?_)
 have hok := hok.mono hle3
 have hrec := hrec.mono hle3
 refine Cj.persist hb2 (fun I6 hle5 hb2i => ?_)
 have hok := hok.mono hle5
 have hrec := hrec.mono hle5
 have hb1i := hle5 _ _ hb1i
 refine Cj.region (J.z (q5 tA26 (Blk.imm hb1i)) ?_)
 refine J.z (q38 tU26) ?_
 refine J.c0 (fun hc7 => ?_)
 refine Cj.ks (Cj.sr (J.z (q5 tA26 (Blk.imm hb1i)) ?_))
 refine J.z (q2 (off' := 0) tU59 tS54) ?_
 refine J.z (q19 tA54 tS54 (Blk.imm hb2i)) ?_
 refine J.op rfl (op_callR (H1 := istH _ _) [] rfl rfl rfl rfl rfl rfl (Drop_some ib s0 L e0.t _ hok) ?_ (fun _ _ _ _ ⟨_, h, _⟩ => nomatch h) (fun _ _ ⟨_, h, _⟩ => nomatch h))
 intro v8 I9 H10 hle11 hp12
 have hok := hok.mono hle11
 have hrec := hrec.mono hle11
 have hb1i := hle11 _ _ hb1i
 have hb2i := hle11 _ _ hb2i
 obtain ⟨s1, h, hok, rfl⟩ := hp12; cases h
 obtain ⟨vb, wb, kb, lv, cv, lw, cw, Nw, lk, ck, Nk⟩ := s1
 unfold istH
 dsimp only
 refine J.nsss (Cj.region (J.z (q5 tA26 (Blk.imm hb1i)) ?_))
 refine J.z q6 ?_
 refine J.z (q2 (off' := 0) tU114 tS110) ?_
 refine J.z (q5 tA110 (Blk.at 1 rfl)) ?_
 refine J.z (yl_eqlMap _ rfl rfl rfl tU110) ?_
 refine J.c0 (fun hc13 => ?_)
 refine Cj.ks (Cj.seq (Cj.drawSel [1] [] 10 (by kernel_rfl) ?_))
 have hb1i_5 := hb1i
 have hb2i_5 := hb2i
 refine JA.fix ⟨(HSub.c 1 rfl HSub.n), CSub.n, (Le.refl _)⟩ (fun fx14 => ?_)
 refine JA.tk 0 rfl fx14 (q5 tA26 (Blk.immC hb1i_5)) ?_
 refine JA.tk 1 rfl fx14 q6 ?_
 refine JA.tk 2 rfl fx14 (q2 (off' := 0) tU114 tS110) ?_
 refine JA.tk 3 rfl fx14 (q5 tA110 (Blk.atC 0 rfl)) ?_
 refine JA.tk 4 rfl fx14 (q2 (off' := 0) tU59 tS54) ?_
 refine JA.tk 5 rfl fx14 (q19 tA54 tS54 (Blk.immC hb2i_5)) ?_
 refine JA.tk 6 rfl fx14 (q2 (off' := 2) tU59 tS57) ?_
 refine JA.tk 7 rfl fx14 (q19 isAgg57 tS57 (Blk.immC hb2i_5)) ?_
 refine q4 8 rfl (q21 (H1 := []) rfl rfl rfl rfl rfl (valuesOf_ok e0.fs e0.v e0.k e0.l hek _ hrec) ?_)
 intro v15 I16 H17 hle18 hp19
 have hb1i := hle18 _ _ hb1i
 have hb2i := hle18 _ _ hb2i
 have hok := hok.mono hle18
 obtain ⟨vv, h, hvs, rfl⟩ := hp19; cases h
 obtain ⟨xs, hrow, hX⟩ := hvs
 obtain ⟨vp, vc, rfl, hvc, -⟩ := id hrow
 have hvok := vok_of hek
 have hxl := hX.len
 have hvl := hvok.1
 refine ⟨⟨(Le.trans (Le.refl _) hle18), (HSub.c 1 rfl HSub.n), CSub.n⟩, ?_⟩
 refine q4 9 rfl (op_insert (kv := kvR) (a := e0.t) 0 (.inr rfl) rfl rfl rfl rfl rfl tU110 keyR rfl LSet.z ?_)
 refine ⟨⟨(Le.trans (Le.refl _) hle18), (HSub.c 1 rfl HSub.n), CSub.n⟩, ?_⟩
 refine q8 ?_
 refine Ej.seq (Cj.seq ?_)
 have hY0 : YP ib vb wb kb L e0.t (Ix.vals e0.fs) 0 ((ib, cel 114 (ixC vb wb kb)) :: (setH wb lw cw Nw ++ setH kb lk ck Nk)) := ⟨lw, cw, Nw, lk, ck, Nk, (by have h := hok.nw; rw [Ix.cnt_rdrop hsrt] at h; exact h), (by have h := hok.nk; rw [Ix.cnt_rdrop hsrt] at h; exact h), rfl⟩
 refine Cj.drawSel [0, 1] [] 9 (by kernel_rfl) ?_
 refine JA.fix ⟨(HSub.c 0 rfl (HSub.c 1 rfl HSub.n)), CSub.n, (Le.refl _)⟩ (fun fx20 => ?_)
 refine JA.tk 0 rfl fx20 (q5 tA26 (Blk.immC hb1i)) ?_
 refine JA.tk 1 rfl fx20 q6 ?_
 refine JA.tk 2 rfl fx20 (q2 (off' := 0) tU114 tS110) ?_
 refine JA.tk 3 rfl fx20 (q5 tA110 (Blk.atC 1 rfl)) ?_
 refine JA.tk 4 rfl fx20 (q2 (off' := 0) tU59 tS54) ?_
 refine JA.tk 5 rfl fx20 (q19 tA54 tS54 (Blk.immC hb2i)) ?_
 refine JA.tk 6 rfl fx20 (q31 (kv := kvR) (l := (mset lv e0.t (.slice vp xs.length vc) cv)) (a := e0.t) tU110 keyR tZ140 (Blk.atC 0 rfl)) ?_
 refine JA.eqv 44 rfl (show _ = .slice vp xs.length vc from getD_set) ?_
 refine JA.tk 7 rfl fx20 (q13 tU140) ?_
 refine JA.tk 8 rfl fx20 q0 ?_
 refine q8 ?_
 refine Ej.seq (Cj.block (Cj.loop (ι := DA) (fun y => y.i ≤ xs.length ∧ Le I16 y.J ∧ YP ib vb wb kb L e0.t (Ix.vals e0.fs) y.i y.Y) (fun y => xs.length - y.i) (fun y => [(2, ptr b1 0), (3, ptr b2 0), (44, .slice vp xs.length vc), (45, i64 (xs.length : Int)), (46, i64 (y.i : Int))]) (fun y => y.J) (fun y => (vb, mobj kvR (mset lv e0.t (.slice vp xs.length vc) cv) (mclk lv e0.t cv)) :: y.Y) ⟨0, _, (ib, cel 114 (ixC vb wb kb)) :: (setH _ _ _ _ ++ setH _ _ _ _)⟩ ⟨Nat.zero_le _, Le.refl _, hY0⟩ ⟨rfl, rfl, rfl, rfl, rfl, trivial⟩ rfl rfl ?_))
 rintro ⟨i, Jh, Y9⟩ ⟨hi, hIJ, hY⟩
 dsimp only at hi hIJ hY ⊢
 have hrow := hrow.mono hIJ
 have hX := hX.mono hIJ
 have hb1i := hIJ _ _ hb1i
 have hb2i := hIJ _ _ hb2i
 refine Cj.sr (J.z q18 ?_)
 refine J.nss (Cj.cond rfl (fun hc21 => ?_) (fun hc21 => ?_))
 ·
  have hc21p := odt hc21
  have hlt : i < xs.length := by omega
  obtain ⟨x, hget⟩ : ∃ x, xs[i]? = some x := ⟨_, lgg hlt⟩
  obtain ⟨vp1, vc1, hve, -, hvb⟩ := id hrow
  cases hve
  obtain ⟨rb, rsp, rfl, hrb⟩ := hvb (ne_nil_of hlt)
  have hws := hX.2 x (lmg hget)
  have hgv := (congrArg (fun l => l[i]?) hX.1).symm.trans ((List.getElem?_map).trans (congrArg (Option.map (·.1)) hget))
  dsimp only [Option.map_some] at hgv
  refine Cj.ks (Cj.seq (Cj.block (Cj.sr (J.z (q15 (off' := 0 + i * 3) tU140 tS142) ?_))))
  refine J.z (q30 isAgg142 tS142 (Blk.imm hrb) (row_from vwC_len (o := 0) rfl hget)) ?_
  refine J.op rfl (q23 tZ142 ?_)
  intro b22 hb22
  refine J.op rfl (op_store 0 rfl rfl rfl rfl rfl (vw_one hws rfl rfl) tS142 rfl rfl (LSpl.c (LSpl.c (LSpl.c LSpl.z))) LSet.z ?_)
  refine J.nsr (J.z (q20 isAgg142 tS142) ?_)
  refine J.z q37 ?_
  refine J.z q37 ?_
  refine J.op rfl (op_callR (H1 := Y9) [_, _] rfl rfl rfl rfl rfl rfl (each_put b1 b2 ib vb wb kb e0.k e0.l e0.v L e0.t (Ix.vals e0.fs) hvok i x.1 x.2 hgv _ hws hb1i hb2i _ hY) ?_ (fun _ _ _ _ h => by cases h.1) (fun _ _ h => by cases h.1))
  intro v23 I24 H25 hle26 hp27
  have hIJ := hIJ.mono hle26
  obtain ⟨h, hY1⟩ := hp27; cases h
  refine J.nb (Cj.region (J.z q7 ?_))
  refine J.z q0 ?_
  refine J.nil (Ej.keep (Keeps.d (Keeps.k Keeps.r)) ?_)
  refine Ej.round ⟨i + 1, _, H25⟩ ⟨by dsimp only; omega, hIJ, hY1⟩ (by dsimp only; omega) ⟨rfl, rfl, rfl, rfl, rfl, trivial⟩ rfl rfl
 have hc21p := odf hc21
 have hil : i = (Ix.vals e0.fs).length := by omega
 obtain ⟨lw2, cw2, Nw2, lk2, ck2, Nk2, hw2, hk2, rfl⟩ := hY
 rw [hil, List.take_length] at hw2 hk2
 refine Cj.exit (Ej.seqExit (Ej.loopExit (Ej.blkExit (q32 ?_))))
 exact ⟨⟨vb, wb, kb, (mset lv e0.t (.slice vp xs.length vc) cv), (mclk lv e0.t cv), lw2, cw2, Nw2, lk2, ck2, Nk2⟩, rfl, iput_end hok hsrt hbig hvok ⟨xs, hrow, hX⟩ hIJ hw2 hk2, rfl⟩
theorem Put_none (ib : Nat) (e0 : Ent) (I : Heap) (hek : EOK e0.fs) (hrec : RecS I e0.fs e0.v) : Ctr Tryz.prog 50 [ptr ib 0, .agg (entC e0).toArray] I [(ib, cel 114 [.map none, .map none, .map none])]
    (fun e I' H' => ∃ s', e = .returned (.tuple #[]) ∧ IstOk I' s' (Ix.rput e0.t (Ix.vals e0.fs) []) ∧ H' = istH ib s') := by
 obtain ⟨vp0, vc0, hev, -, -⟩ := id hrec.1
 refine Ctr.ob func50 ?_
 intro w0 hw0
 refine Cj.sr (J.op rfl (q16 ?_))
 intro b1 hb1
 refine J.op rfl (q16 ?_)
 intro b2 hb2
 refine J.nsss (Cj.pull (Pull.s Pull.z) ?_)
 refine Cj.persist hb1 (fun I4 hle3 hb1i => ?_)
 have hrec := hrec.mono hle3
 refine Cj.persist hb2 (fun I6 hle5 hb2i => ?_)
 have hrec := hrec.mono hle5
 have hb1i := hle5 _ _ hb1i
 refine Cj.region (J.z (q5 tA26 (Blk.imm hb1i)) ?_)
 refine J.z (q38 tU26) ?_
 refine J.c0 (fun hc7 => ?_)
 refine Cj.ks (Cj.sr (J.z (q5 tA26 (Blk.imm hb1i)) ?_))
 refine J.z (q2 (off' := 0) tU59 tS54) ?_
 refine J.z (q19 tA54 tS54 (Blk.imm hb2i)) ?_
 refine J.pull Pull.z ?_
 refine J.op rfl (op_call (H1 := [_]) rfl rfl rfl rfl rfl (Drop_none ib e0.t _) ?_ (fun _ _ _ _ h => by cases h.1) (fun _ _ h => by cases h.1))
 intro v8 I9 H10 hle11 hp12
 have hrec := hrec.mono hle11
 have hb1i := hle11 _ _ hb1i
 have hb2i := hle11 _ _ hb2i
 obtain ⟨h, rfl⟩ := hp12; cases h
 refine J.ns (Cj.join (ι := Nat × Nat × Nat) (fun y => True) (fun y => [(2, ptr b1 0), (3, ptr b2 0)]) (fun y => I9) (fun y => (y.1, mobj kvR [] 0) :: (ib, cel 114 (ixC y.1 y.2.1 y.2.2)) :: (setH y.2.1 [] 0 [] ++ setH y.2.2 [] 0 [])) ?_ (fun hcut => ?_))
 ·
  rintro ⟨vb, wb, kb⟩ -
  dsimp only
  refine Cj.seq (Cj.drawSel [1] [] 10 (by kernel_rfl) ?_)
  have hb1i_5 := hb1i
  have hb2i_5 := hb2i
  refine JA.fix ⟨(HSub.c 1 rfl HSub.n), CSub.n, (Le.refl _)⟩ (fun fx13 => ?_)
  refine JA.tk 0 rfl fx13 (q5 tA26 (Blk.immC hb1i_5)) ?_
  refine JA.tk 1 rfl fx13 q6 ?_
  refine JA.tk 2 rfl fx13 (q2 (off' := 0) tU114 tS110) ?_
  refine JA.tk 3 rfl fx13 (q5 tA110 (Blk.atC 0 rfl)) ?_
  refine JA.tk 4 rfl fx13 (q2 (off' := 0) tU59 tS54) ?_
  refine JA.tk 5 rfl fx13 (q19 tA54 tS54 (Blk.immC hb2i_5)) ?_
  refine JA.tk 6 rfl fx13 (q2 (off' := 2) tU59 tS57) ?_
  refine JA.tk 7 rfl fx13 (q19 isAgg57 tS57 (Blk.immC hb2i_5)) ?_
  refine q4 8 rfl (q21 (H1 := []) rfl rfl rfl rfl rfl (valuesOf_ok e0.fs e0.v e0.k e0.l hek _ hrec) ?_)
  intro v14 I15 H16 hle17 hp18
  have hb1i := hle17 _ _ hb1i
  have hb2i := hle17 _ _ hb2i
  obtain ⟨vv, h, hvs, rfl⟩ := hp18; cases h
  obtain ⟨xs, hrow, hX⟩ := hvs
  obtain ⟨vp, vc, rfl, hvc, -⟩ := id hrow
  have hvok := vok_of hek
  have hxl := hX.len
  have hvl := hvok.1
  refine ⟨⟨(Le.trans (Le.refl _) hle17), (HSub.c 1 rfl HSub.n), CSub.n⟩, ?_⟩
  refine q4 9 rfl (op_insert (kv := kvR) (a := e0.t) 0 (.inr rfl) rfl rfl rfl rfl rfl tU110 keyR rfl LSet.z ?_)
  refine ⟨⟨(Le.trans (Le.refl _) hle17), (HSub.c 1 rfl HSub.n), CSub.n⟩, ?_⟩
  refine q8 ?_
  refine Ej.seq (Cj.seq ?_)
  have hY0 : YP ib vb wb kb [] e0.t (Ix.vals e0.fs) 0 ((ib, cel 114 (ixC vb wb kb)) :: (setH wb [] 0 [] ++ setH kb [] 0 [])) := ⟨[], 0, [], [], 0, [], (by rw [List.take_zero]; have h := (NestS.nil : NestS ([] : ML Ix.Pl) 0 ([] : Nest Ix.Pl Ix.Rec) (fun _ _ => 0)); exact (show (Ix.way (Ix.cnt Ix.plW []) e0.t fun p => (Ix.plW []).count p) = (fun _ _ => 0) by funext p u; unfold Ix.way; split <;> rfl) ▸ h), (by rw [List.take_zero]; have h := (NestS.nil : NestS ([] : ML Ix.Pl) 0 ([] : Nest Ix.Pl Ix.Rec) (fun _ _ => 0)); exact (show (Ix.way (Ix.cnt Ix.plK []) e0.t fun p => (Ix.plK []).count p) = (fun _ _ => 0) by funext p u; unfold Ix.way; split <;> rfl) ▸ h), rfl⟩
  refine Cj.drawSel [0, 1] [] 9 (by kernel_rfl) ?_
  refine JA.fix ⟨(HSub.c 0 rfl (HSub.c 1 rfl HSub.n)), CSub.n, (Le.refl _)⟩ (fun fx19 => ?_)
  refine JA.tk 0 rfl fx19 (q5 tA26 (Blk.immC hb1i)) ?_
  refine JA.tk 1 rfl fx19 q6 ?_
  refine JA.tk 2 rfl fx19 (q2 (off' := 0) tU114 tS110) ?_
  refine JA.tk 3 rfl fx19 (q5 tA110 (Blk.atC 1 rfl)) ?_
  refine JA.tk 4 rfl fx19 (q2 (off' := 0) tU59 tS54) ?_
  refine JA.tk 5 rfl fx19 (q19 tA54 tS54 (Blk.immC hb2i)) ?_
  refine JA.tk 6 rfl fx19 (q31 (kv := kvR) (l := (mset ([] : ML Ix.Rec) e0.t (.slice vp xs.length vc) 0)) (a := e0.t) tU110 keyR tZ140 (Blk.atC 0 rfl)) ?_
  refine JA.eqv 44 rfl (show _ = .slice vp xs.length vc from getD_set) ?_
  refine JA.tk 7 rfl fx19 (q13 tU140) ?_
  refine JA.tk 8 rfl fx19 q0 ?_
  refine q8 ?_
  refine Ej.seq (Cj.block (Cj.loop (ι := DA) (fun y => y.i ≤ xs.length ∧ Le I15 y.J ∧ YP ib vb wb kb [] e0.t (Ix.vals e0.fs) y.i y.Y) (fun y => xs.length - y.i) (fun y => [(2, ptr b1 0), (3, ptr b2 0), (44, .slice vp xs.length vc), (45, i64 (xs.length : Int)), (46, i64 (y.i : Int))]) (fun y => y.J) (fun y => (vb, mobj kvR (mset ([] : ML Ix.Rec) e0.t (.slice vp xs.length vc) 0) (mclk ([] : ML Ix.Rec) e0.t 0)) :: y.Y) ⟨0, _, (ib, cel 114 (ixC vb wb kb)) :: (setH _ _ _ _ ++ setH _ _ _ _)⟩ ⟨Nat.zero_le _, Le.refl _, hY0⟩ ⟨rfl, rfl, rfl, rfl, rfl, trivial⟩ rfl rfl ?_))
  rintro ⟨i, Jh, Y9⟩ ⟨hi, hIJ, hY⟩
  dsimp only at hi hIJ hY ⊢
  have hrow := hrow.mono hIJ
  have hX := hX.mono hIJ
  have hb1i := hIJ _ _ hb1i
  have hb2i := hIJ _ _ hb2i
  refine Cj.sr (J.z q18 ?_)
  refine J.nss (Cj.cond rfl (fun hc20 => ?_) (fun hc20 => ?_))
  ·
   have hc20p := odt hc20
   have hlt : i < xs.length := by omega
   obtain ⟨x, hget⟩ : ∃ x, xs[i]? = some x := ⟨_, lgg hlt⟩
   obtain ⟨vp1, vc1, hve, -, hvb⟩ := id hrow
   cases hve
   obtain ⟨rb, rsp, rfl, hrb⟩ := hvb (ne_nil_of hlt)
   have hws := hX.2 x (lmg hget)
   have hgv := (congrArg (fun l => l[i]?) hX.1).symm.trans ((List.getElem?_map).trans (congrArg (Option.map (·.1)) hget))
   dsimp only [Option.map_some] at hgv
   refine Cj.ks (Cj.seq (Cj.block (Cj.sr (J.z (q15 (off' := 0 + i * 3) tU140 tS142) ?_))))
   refine J.z (q30 isAgg142 tS142 (Blk.imm hrb) (row_from vwC_len (o := 0) rfl hget)) ?_
   refine J.op rfl (q23 tZ142 ?_)
   intro b21 hb21
   refine J.op rfl (op_store 0 rfl rfl rfl rfl rfl (vw_one hws rfl rfl) tS142 rfl rfl (LSpl.c (LSpl.c (LSpl.c LSpl.z))) LSet.z ?_)
   refine J.nsr (J.z (q20 isAgg142 tS142) ?_)
   refine J.z q37 ?_
   refine J.z q37 ?_
   refine J.op rfl (op_callR (H1 := Y9) [_, _] rfl rfl rfl rfl rfl rfl (each_put b1 b2 ib vb wb kb e0.k e0.l e0.v [] e0.t (Ix.vals e0.fs) hvok i x.1 x.2 hgv _ hws hb1i hb2i _ hY) ?_ (fun _ _ _ _ h => by cases h.1) (fun _ _ h => by cases h.1))
   intro v22 I23 H24 hle25 hp26
   have hIJ := hIJ.mono hle25
   obtain ⟨h, hY1⟩ := hp26; cases h
   refine J.nb (Cj.region (J.z q7 ?_))
   refine J.z q0 ?_
   refine J.nil (Ej.keep (Keeps.d (Keeps.k Keeps.r)) ?_)
   refine Ej.round ⟨i + 1, _, H24⟩ ⟨by dsimp only; omega, hIJ, hY1⟩ (by dsimp only; omega) ⟨rfl, rfl, rfl, rfl, rfl, trivial⟩ rfl rfl
  have hc20p := odf hc20
  have hil : i = (Ix.vals e0.fs).length := by omega
  obtain ⟨lw2, cw2, Nw2, lk2, ck2, Nk2, hw2, hk2, rfl⟩ := hY
  rw [hil, List.take_length] at hw2 hk2
  refine Cj.exit (Ej.seqExit (Ej.loopExit (Ej.blkExit (q32 ?_))))
  exact ⟨⟨vb, wb, kb, (mset ([] : ML Ix.Rec) e0.t (.slice vp xs.length vc) 0), (mclk ([] : ML Ix.Rec) e0.t 0), lw2, cw2, Nw2, lk2, ck2, Nk2⟩, rfl, iput_end (L := []) (ist_new _ vb wb kb) List.Pairwise.nil (by decide) hvok ⟨xs, hrow, hX⟩ hIJ hw2 hk2, rfl⟩
 refine Cj.sr (J.z (q5 tA26 (Blk.imm hb1i)) ?_)
 refine J.z q6 ?_
 refine J.z (q2 (off' := 0) tU114 tS110) ?_
 refine J.z (q17 tA110) ?_
 refine J.z (yl_eqlMap _ rfl rfl rfl tU110) ?_
 refine J.c1 (fun hc27 => ?_)
 refine Cj.drawSel [] [] 15 (by kernel_rfl) ?_
 refine JA.fix fx1 (fun fx28 => ?_)
 refine JA.tk 0 rfl fx28 (q5 tA26 (Blk.immC hb1i)) ?_
 refine JA.tk 1 rfl fx28 (q5 tA26 (Blk.immC hb1i)) ?_
 refine JA.tk 2 rfl fx28 (q5 tA26 (Blk.immC hb1i)) ?_
 refine JA.all [3, 4, 5] (by kernel_rfl) (by simp) ?_
 intro i hi
 simp only [List.mem_cons, List.not_mem_nil, or_false] at hi
 rcases hi with rfl | rfl | rfl
 ·
  refine ⟨_, rfl, rfl, ?_⟩
  refine op_makeMap rfl rfl rfl ?_
  intro b29 hb29
  refine ⟨fx0, ?_⟩
  refine JA.fix fx1 (fun fx30 => ?_)
  refine JA.tk 6 rfl fx30 q6 ?_
  refine JA.tk 7 rfl fx30 (q2 (off' := 0) tU114 tS110) ?_
  refine JA.all [4, 5, 8] (by kernel_rfl) (by simp) ?_
  intro i hi
  simp only [List.mem_cons, List.not_mem_nil, or_false] at hi
  rcases hi with rfl | rfl | rfl
  ·
   refine ⟨_, rfl, rfl, ?_⟩
   refine op_makeMap rfl rfl rfl ?_
   intro b31 hb31
   refine ⟨fx0, ?_⟩
   refine JA.all [5, 8] (by kernel_rfl) (by simp) ?_
   intro i hi
   simp only [List.mem_cons, List.not_mem_nil, or_false] at hi
   rcases hi with rfl | rfl
   ·
    refine ⟨_, rfl, rfl, ?_⟩
    refine op_makeMap rfl rfl rfl ?_
    intro b32 hb32
    refine ⟨fx0, ?_⟩
    refine q4 8 rfl (q10 3 tS110 (LSpl.c LSpl.z) (LSet.s (LSet.s (LSet.s LSet.z))) ?_)
    refine ⟨fx0, ?_⟩
    refine JA.fix fx1 (fun fx33 => ?_)
    refine JA.tk 9 rfl fx33 q6 ?_
    refine JA.tk 10 rfl fx33 (q2 (off' := 1) tU114 tS112) ?_
    refine q4 11 rfl (q10 3 tS112 (LSpl.s (LSpl.c LSpl.z)) (LSet.s (LSet.s (LSet.s LSet.z))) ?_)
    refine ⟨fx0, ?_⟩
    refine JA.fix fx1 (fun fx34 => ?_)
    refine JA.tk 12 rfl fx34 q6 ?_
    refine JA.tk 13 rfl fx34 (q2 (off' := 2) tU114 tS112) ?_
    refine q4 14 rfl (q10 3 tS112 (LSpl.s (LSpl.s (LSpl.c LSpl.z))) (LSet.s (LSet.s (LSet.s LSet.z))) ?_)
    refine ⟨fx0, ?_⟩
    refine q8 ?_
    refine Ej.keep (Keeps.k (Keeps.k (Keeps.k (Keeps.k Keeps.n)))) ?_
    refine Ej.pull Pull.z ?_
    refine Ej.pull (Pull.s Pull.z) ?_
    refine Ej.pull (Pull.s (Pull.s (Pull.s Pull.z))) ?_
    refine Ej.pull (Pull.s (Pull.s (Pull.s Pull.z))) ?_
    exact hcut (b29, b31, b32) _ _ _ trivial ⟨rfl, rfl, trivial⟩ rfl rfl
   refine ⟨_, rfl, rfl, ?_⟩
   refine q10 2 tS110 (LSpl.c LSpl.z) (LSet.s (LSet.s LSet.z)) ?_
   refine ⟨fx0, ?_⟩
   refine JA.fix fx1 (fun fx35 => ?_)
   refine JA.tk 9 rfl fx35 q6 ?_
   refine JA.tk 10 rfl fx35 (q2 (off' := 1) tU114 tS112) ?_
   refine JA.all [5, 11] (by kernel_rfl) (by simp) ?_
   intro i hi
   simp only [List.mem_cons, List.not_mem_nil, or_false] at hi
   rcases hi with rfl | rfl
   ·
    refine ⟨_, rfl, rfl, ?_⟩
    refine op_makeMap rfl rfl rfl ?_
    intro b36 hb36
    refine ⟨fx0, ?_⟩
    refine q4 11 rfl (q10 3 tS112 (LSpl.s (LSpl.c LSpl.z)) (LSet.s (LSet.s (LSet.s LSet.z))) ?_)
    refine ⟨fx0, ?_⟩
    refine JA.fix fx1 (fun fx37 => ?_)
    refine JA.tk 12 rfl fx37 q6 ?_
    refine JA.tk 13 rfl fx37 (q2 (off' := 2) tU114 tS112) ?_
    refine q4 14 rfl (q10 3 tS112 (LSpl.s (LSpl.s (LSpl.c LSpl.z))) (LSet.s (LSet.s (LSet.s LSet.z))) ?_)
    refine ⟨fx0, ?_⟩
    refine q8 ?_
    refine Ej.keep (Keeps.k (Keeps.k (Keeps.k (Keeps.k Keeps.n)))) ?_
    refine Ej.pull Pull.z ?_
    refine Ej.pull (Pull.s Pull.z) ?_
    refine Ej.pull (Pull.s (Pull.s (Pull.s Pull.z))) ?_
    refine Ej.pull (Pull.s (Pull.s (Pull.s Pull.z))) ?_
    exact hcut (b29, b31, b36) _ _ _ trivial ⟨rfl, rfl, trivial⟩ rfl rfl
   refine ⟨_, rfl, rfl, ?_⟩
   refine q10 2 tS112 (LSpl.s (LSpl.c LSpl.z)) (LSet.s (LSet.s LSet.z)) ?_
   refine ⟨fx0, ?_⟩
   refine q4 5 rfl (op_makeMap rfl rfl rfl ?_)
   intro b38 hb38
   refine ⟨fx0, ?_⟩
   refine JA.fix fx1 (fun fx39 => ?_)
   refine JA.tk 12 rfl fx39 q6 ?_
   refine JA.tk 13 rfl fx39 (q2 (off' := 2) tU114 tS112) ?_
   refine q4 14 rfl (q10 3 tS112 (LSpl.s (LSpl.s (LSpl.c LSpl.z))) (LSet.s (LSet.s (LSet.s LSet.z))) ?_)
   refine ⟨fx0, ?_⟩
   refine q8 ?_
   refine Ej.keep (Keeps.k (Keeps.k (Keeps.k (Keeps.k Keeps.n)))) ?_
   refine Ej.pull Pull.z ?_
   refine Ej.pull (Pull.s Pull.z) ?_
   refine Ej.pull (Pull.s (Pull.s (Pull.s Pull.z))) ?_
   refine Ej.pull (Pull.s (Pull.s (Pull.s Pull.z))) ?_
   exact hcut (b29, b31, b38) _ _ _ trivial ⟨rfl, rfl, trivial⟩ rfl rfl
  ·
   refine ⟨_, rfl, rfl, ?_⟩
   refine op_makeMap rfl rfl rfl ?_
   intro b40 hb40
   refine ⟨fx0, ?_⟩
   refine JA.all [4, 8] (by kernel_rfl) (by simp) ?_
   intro i hi
   simp only [List.mem_cons, List.not_mem_nil, or_false] at hi
   rcases hi with rfl | rfl
   ·
    refine ⟨_, rfl, rfl, ?_⟩
    refine op_makeMap rfl rfl rfl ?_
    intro b41 hb41
    refine ⟨fx0, ?_⟩
    refine q4 8 rfl (q10 3 tS110 (LSpl.c LSpl.z) (LSet.s (LSet.s (LSet.s LSet.z))) ?_)
    refine ⟨fx0, ?_⟩
    refine JA.fix fx1 (fun fx42 => ?_)
    refine JA.tk 9 rfl fx42 q6 ?_
    refine JA.tk 10 rfl fx42 (q2 (off' := 1) tU114 tS112) ?_
    refine q4 11 rfl (q10 3 tS112 (LSpl.s (LSpl.c LSpl.z)) (LSet.s (LSet.s (LSet.s LSet.z))) ?_)
    refine ⟨fx0, ?_⟩
    refine JA.fix fx1 (fun fx43 => ?_)
    refine JA.tk 12 rfl fx43 q6 ?_
    refine JA.tk 13 rfl fx43 (q2 (off' := 2) tU114 tS112) ?_
    refine q4 14 rfl (q10 3 tS112 (LSpl.s (LSpl.s (LSpl.c LSpl.z))) (LSet.s (LSet.s (LSet.s LSet.z))) ?_)
    refine ⟨fx0, ?_⟩
    refine q8 ?_
    refine Ej.keep (Keeps.k (Keeps.k (Keeps.k (Keeps.k Keeps.n)))) ?_
    refine Ej.pull (Pull.s Pull.z) ?_
    refine Ej.pull (Pull.s Pull.z) ?_
    refine Ej.pull (Pull.s (Pull.s (Pull.s Pull.z))) ?_
    refine Ej.pull (Pull.s (Pull.s (Pull.s Pull.z))) ?_
    exact hcut (b29, b41, b40) _ _ _ trivial ⟨rfl, rfl, trivial⟩ rfl rfl
   refine ⟨_, rfl, rfl, ?_⟩
   refine q10 2 tS110 (LSpl.c LSpl.z) (LSet.s (LSet.s LSet.z)) ?_
   refine ⟨fx0, ?_⟩
   refine q4 4 rfl (op_makeMap rfl rfl rfl ?_)
   intro b44 hb44
   refine ⟨fx0, ?_⟩
   refine JA.fix fx1 (fun fx45 => ?_)
   refine JA.tk 9 rfl fx45 q6 ?_
   refine JA.tk 10 rfl fx45 (q2 (off' := 1) tU114 tS112) ?_
   refine q4 11 rfl (q10 3 tS112 (LSpl.s (LSpl.c LSpl.z)) (LSet.s (LSet.s (LSet.s LSet.z))) ?_)
   refine ⟨fx0, ?_⟩
   refine JA.fix fx1 (fun fx46 => ?_)
   refine JA.tk 12 rfl fx46 q6 ?_
   refine JA.tk 13 rfl fx46 (q2 (off' := 2) tU114 tS112) ?_
   refine q4 14 rfl (q10 3 tS112 (LSpl.s (LSpl.s (LSpl.c LSpl.z))) (LSet.s (LSet.s (LSet.s LSet.z))) ?_)
   refine ⟨fx0, ?_⟩
   refine q8 ?_
   refine Ej.keep (Keeps.k (Keeps.k (Keeps.k (Keeps.k Keeps.n)))) ?_
   refine Ej.pull (Pull.s Pull.z) ?_
   refine Ej.pull (Pull.s Pull.z) ?_
   refine Ej.pull (Pull.s (Pull.s (Pull.s Pull.z))) ?_
   refine Ej.pull (Pull.s (Pull.s (Pull.s Pull.z))) ?_
   exact hcut (b29, b44, b40) _ _ _ trivial ⟨rfl, rfl, trivial⟩ rfl rfl
  refine ⟨_, rfl, rfl, ?_⟩
  refine q10 1 tS110 (LSpl.c LSpl.z) (LSet.s LSet.z) ?_
  refine ⟨fx0, ?_⟩
  refine JA.all [4, 5] (by kernel_rfl) (by simp) ?_
  intro i hi
  simp only [List.mem_cons, List.not_mem_nil, or_false] at hi
  rcases hi with rfl | rfl
  ·
   refine ⟨_, rfl, rfl, ?_⟩
   refine op_makeMap rfl rfl rfl ?_
   intro b47 hb47
   refine ⟨fx0, ?_⟩
   refine JA.fix fx1 (fun fx48 => ?_)
   refine JA.tk 9 rfl fx48 q6 ?_
   refine JA.tk 10 rfl fx48 (q2 (off' := 1) tU114 tS112) ?_
   refine JA.all [5, 11] (by kernel_rfl) (by simp) ?_
   intro i hi
   simp only [List.mem_cons, List.not_mem_nil, or_false] at hi
   rcases hi with rfl | rfl
   ·
    refine ⟨_, rfl, rfl, ?_⟩
    refine op_makeMap rfl rfl rfl ?_
    intro b49 hb49
    refine ⟨fx0, ?_⟩
    refine q4 11 rfl (q10 3 tS112 (LSpl.s (LSpl.c LSpl.z)) (LSet.s (LSet.s (LSet.s LSet.z))) ?_)
    refine ⟨fx0, ?_⟩
    refine JA.fix fx1 (fun fx50 => ?_)
    refine JA.tk 12 rfl fx50 q6 ?_
    refine JA.tk 13 rfl fx50 (q2 (off' := 2) tU114 tS112) ?_
    refine q4 14 rfl (q10 3 tS112 (LSpl.s (LSpl.s (LSpl.c LSpl.z))) (LSet.s (LSet.s (LSet.s LSet.z))) ?_)
    refine ⟨fx0, ?_⟩
    refine q8 ?_
    refine Ej.keep (Keeps.k (Keeps.k (Keeps.k (Keeps.k Keeps.n)))) ?_
    refine Ej.pull Pull.z ?_
    refine Ej.pull (Pull.s Pull.z) ?_
    refine Ej.pull (Pull.s (Pull.s (Pull.s Pull.z))) ?_
    refine Ej.pull (Pull.s (Pull.s (Pull.s Pull.z))) ?_
    exact hcut (b29, b47, b49) _ _ _ trivial ⟨rfl, rfl, trivial⟩ rfl rfl
   refine ⟨_, rfl, rfl, ?_⟩
   refine q10 2 tS112 (LSpl.s (LSpl.c LSpl.z)) (LSet.s (LSet.s LSet.z)) ?_
   refine ⟨fx0, ?_⟩
   refine q4 5 rfl (op_makeMap rfl rfl rfl ?_)
   intro b51 hb51
   refine ⟨fx0, ?_⟩
   refine JA.fix fx1 (fun fx52 => ?_)
   refine JA.tk 12 rfl fx52 q6 ?_
   refine JA.tk 13 rfl fx52 (q2 (off' := 2) tU114 tS112) ?_
   refine q4 14 rfl (q10 3 tS112 (LSpl.s (LSpl.s (LSpl.c LSpl.z))) (LSet.s (LSet.s (LSet.s LSet.z))) ?_)
   refine ⟨fx0, ?_⟩
   refine q8 ?_
   refine Ej.keep (Keeps.k (Keeps.k (Keeps.k (Keeps.k Keeps.n)))) ?_
   refine Ej.pull Pull.z ?_
   refine Ej.pull (Pull.s Pull.z) ?_
   refine Ej.pull (Pull.s (Pull.s (Pull.s Pull.z))) ?_
   refine Ej.pull (Pull.s (Pull.s (Pull.s Pull.z))) ?_
   exact hcut (b29, b47, b51) _ _ _ trivial ⟨rfl, rfl, trivial⟩ rfl rfl
  refine ⟨_, rfl, rfl, ?_⟩
  refine op_makeMap rfl rfl rfl ?_
  intro b53 hb53
  refine ⟨fx0, ?_⟩
  refine q4 4 rfl (op_makeMap rfl rfl rfl ?_)
  intro b54 hb54
  refine ⟨fx0, ?_⟩
  refine JA.fix fx1 (fun fx55 => ?_)
  refine JA.tk 9 rfl fx55 q6 ?_
  refine JA.tk 10 rfl fx55 (q2 (off' := 1) tU114 tS112) ?_
  refine q4 11 rfl (q10 3 tS112 (LSpl.s (LSpl.c LSpl.z)) (LSet.s (LSet.s (LSet.s LSet.z))) ?_)
  refine ⟨fx0, ?_⟩
  refine JA.fix fx1 (fun fx56 => ?_)
  refine JA.tk 12 rfl fx56 q6 ?_
  refine JA.tk 13 rfl fx56 (q2 (off' := 2) tU114 tS112) ?_
  refine q4 14 rfl (q10 3 tS112 (LSpl.s (LSpl.s (LSpl.c LSpl.z))) (LSet.s (LSet.s (LSet.s LSet.z))) ?_)
  refine ⟨fx0, ?_⟩
  refine q8 ?_
  refine Ej.keep (Keeps.k (Keeps.k (Keeps.k (Keeps.k Keeps.n)))) ?_
  refine Ej.pull (Pull.s Pull.z) ?_
  refine Ej.pull (Pull.s Pull.z) ?_
  refine Ej.pull (Pull.s (Pull.s (Pull.s Pull.z))) ?_
  refine Ej.pull (Pull.s (Pull.s (Pull.s Pull.z))) ?_
  exact hcut (b29, b54, b53) _ _ _ trivial ⟨rfl, rfl, trivial⟩ rfl rfl
 ·
  refine ⟨_, rfl, rfl, ?_⟩
  refine op_makeMap rfl rfl rfl ?_
  intro b57 hb57
  refine ⟨fx0, ?_⟩
  refine JA.all [3, 5] (by kernel_rfl) (by simp) ?_
  intro i hi
  simp only [List.mem_cons, List.not_mem_nil, or_false] at hi
  rcases hi with rfl | rfl
  ·
   refine ⟨_, rfl, rfl, ?_⟩
   refine op_makeMap rfl rfl rfl ?_
   intro b58 hb58
   refine ⟨fx0, ?_⟩
   refine JA.fix fx1 (fun fx59 => ?_)
   refine JA.tk 6 rfl fx59 q6 ?_
   refine JA.tk 7 rfl fx59 (q2 (off' := 0) tU114 tS110) ?_
   refine JA.all [5, 8] (by kernel_rfl) (by simp) ?_
   intro i hi
   simp only [List.mem_cons, List.not_mem_nil, or_false] at hi
   rcases hi with rfl | rfl
   ·
    refine ⟨_, rfl, rfl, ?_⟩
    refine op_makeMap rfl rfl rfl ?_
    intro b60 hb60
    refine ⟨fx0, ?_⟩
    refine q4 8 rfl (q10 3 tS110 (LSpl.c LSpl.z) (LSet.s (LSet.s (LSet.s LSet.z))) ?_)
    refine ⟨fx0, ?_⟩
    refine JA.fix fx1 (fun fx61 => ?_)
    refine JA.tk 9 rfl fx61 q6 ?_
    refine JA.tk 10 rfl fx61 (q2 (off' := 1) tU114 tS112) ?_
    refine q4 11 rfl (q10 3 tS112 (LSpl.s (LSpl.c LSpl.z)) (LSet.s (LSet.s (LSet.s LSet.z))) ?_)
    refine ⟨fx0, ?_⟩
    refine JA.fix fx1 (fun fx62 => ?_)
    refine JA.tk 12 rfl fx62 q6 ?_
    refine JA.tk 13 rfl fx62 (q2 (off' := 2) tU114 tS112) ?_
    refine q4 14 rfl (q10 3 tS112 (LSpl.s (LSpl.s (LSpl.c LSpl.z))) (LSet.s (LSet.s (LSet.s LSet.z))) ?_)
    refine ⟨fx0, ?_⟩
    refine q8 ?_
    refine Ej.keep (Keeps.k (Keeps.k (Keeps.k (Keeps.k Keeps.n)))) ?_
    refine Ej.pull Pull.z ?_
    refine Ej.pull (Pull.s (Pull.s Pull.z)) ?_
    refine Ej.pull (Pull.s (Pull.s (Pull.s Pull.z))) ?_
    refine Ej.pull (Pull.s (Pull.s (Pull.s Pull.z))) ?_
    exact hcut (b58, b57, b60) _ _ _ trivial ⟨rfl, rfl, trivial⟩ rfl rfl
   refine ⟨_, rfl, rfl, ?_⟩
   refine q10 2 tS110 (LSpl.c LSpl.z) (LSet.s (LSet.s LSet.z)) ?_
   refine ⟨fx0, ?_⟩
   refine JA.fix fx1 (fun fx63 => ?_)
   refine JA.tk 9 rfl fx63 q6 ?_
   refine JA.tk 10 rfl fx63 (q2 (off' := 1) tU114 tS112) ?_
   refine JA.all [5, 11] (by kernel_rfl) (by simp) ?_
   intro i hi
   simp only [List.mem_cons, List.not_mem_nil, or_false] at hi
   rcases hi with rfl | rfl
   ·
    refine ⟨_, rfl, rfl, ?_⟩
    refine op_makeMap rfl rfl rfl ?_
    intro b64 hb64
    refine ⟨fx0, ?_⟩
    refine q4 11 rfl (q10 3 tS112 (LSpl.s (LSpl.c LSpl.z)) (LSet.s (LSet.s (LSet.s LSet.z))) ?_)
    refine ⟨fx0, ?_⟩
    refine JA.fix fx1 (fun fx65 => ?_)
    refine JA.tk 12 rfl fx65 q6 ?_
    refine JA.tk 13 rfl fx65 (q2 (off' := 2) tU114 tS112) ?_
    refine q4 14 rfl (q10 3 tS112 (LSpl.s (LSpl.s (LSpl.c LSpl.z))) (LSet.s (LSet.s (LSet.s LSet.z))) ?_)
    refine ⟨fx0, ?_⟩
    refine q8 ?_
    refine Ej.keep (Keeps.k (Keeps.k (Keeps.k (Keeps.k Keeps.n)))) ?_
    refine Ej.pull Pull.z ?_
    refine Ej.pull (Pull.s (Pull.s Pull.z)) ?_
    refine Ej.pull (Pull.s (Pull.s (Pull.s Pull.z))) ?_
    refine Ej.pull (Pull.s (Pull.s (Pull.s Pull.z))) ?_
    exact hcut (b58, b57, b64) _ _ _ trivial ⟨rfl, rfl, trivial⟩ rfl rfl
   refine ⟨_, rfl, rfl, ?_⟩
   refine q10 2 tS112 (LSpl.s (LSpl.c LSpl.z)) (LSet.s (LSet.s LSet.z)) ?_
   refine ⟨fx0, ?_⟩
   refine q4 5 rfl (op_makeMap rfl rfl rfl ?_)
   intro b66 hb66
   refine ⟨fx0, ?_⟩
   refine JA.fix fx1 (fun fx67 => ?_)
   refine JA.tk 12 rfl fx67 q6 ?_
   refine JA.tk 13 rfl fx67 (q2 (off' := 2) tU114 tS112) ?_
   refine q4 14 rfl (q10 3 tS112 (LSpl.s (LSpl.s (LSpl.c LSpl.z))) (LSet.s (LSet.s (LSet.s LSet.z))) ?_)
   refine ⟨fx0, ?_⟩
   refine q8 ?_
   refine Ej.keep (Keeps.k (Keeps.k (Keeps.k (Keeps.k Keeps.n)))) ?_
   refine Ej.pull Pull.z ?_
   refine Ej.pull (Pull.s (Pull.s Pull.z)) ?_
   refine Ej.pull (Pull.s (Pull.s (Pull.s Pull.z))) ?_
   refine Ej.pull (Pull.s (Pull.s (Pull.s Pull.z))) ?_
   exact hcut (b58, b57, b66) _ _ _ trivial ⟨rfl, rfl, trivial⟩ rfl rfl
  refine ⟨_, rfl, rfl, ?_⟩
  refine op_makeMap rfl rfl rfl ?_
  intro b68 hb68
  refine ⟨fx0, ?_⟩
  refine q4 3 rfl (op_makeMap rfl rfl rfl ?_)
  intro b69 hb69
  refine ⟨fx0, ?_⟩
  refine JA.fix fx1 (fun fx70 => ?_)
  refine JA.tk 6 rfl fx70 q6 ?_
  refine JA.tk 7 rfl fx70 (q2 (off' := 0) tU114 tS110) ?_
  refine q4 8 rfl (q10 3 tS110 (LSpl.c LSpl.z) (LSet.s (LSet.s (LSet.s LSet.z))) ?_)
  refine ⟨fx0, ?_⟩
  refine JA.fix fx1 (fun fx71 => ?_)
  refine JA.tk 9 rfl fx71 q6 ?_
  refine JA.tk 10 rfl fx71 (q2 (off' := 1) tU114 tS112) ?_
  refine q4 11 rfl (q10 3 tS112 (LSpl.s (LSpl.c LSpl.z)) (LSet.s (LSet.s (LSet.s LSet.z))) ?_)
  refine ⟨fx0, ?_⟩
  refine JA.fix fx1 (fun fx72 => ?_)
  refine JA.tk 12 rfl fx72 q6 ?_
  refine JA.tk 13 rfl fx72 (q2 (off' := 2) tU114 tS112) ?_
  refine q4 14 rfl (q10 3 tS112 (LSpl.s (LSpl.s (LSpl.c LSpl.z))) (LSet.s (LSet.s (LSet.s LSet.z))) ?_)
  refine ⟨fx0, ?_⟩
  refine q8 ?_
  refine Ej.keep (Keeps.k (Keeps.k (Keeps.k (Keeps.k Keeps.n)))) ?_
  refine Ej.pull (Pull.s Pull.z) ?_
  refine Ej.pull (Pull.s (Pull.s Pull.z)) ?_
  refine Ej.pull (Pull.s (Pull.s (Pull.s Pull.z))) ?_
  refine Ej.pull (Pull.s (Pull.s (Pull.s Pull.z))) ?_
  exact hcut (b69, b57, b68) _ _ _ trivial ⟨rfl, rfl, trivial⟩ rfl rfl
 refine ⟨_, rfl, rfl, ?_⟩
 refine op_makeMap rfl rfl rfl ?_
 intro b73 hb73
 refine ⟨fx0, ?_⟩
 refine JA.all [3, 4] (by kernel_rfl) (by simp) ?_
 intro i hi
 simp only [List.mem_cons, List.not_mem_nil, or_false] at hi
 rcases hi with rfl | rfl
 ·
  refine ⟨_, rfl, rfl, ?_⟩
  refine op_makeMap rfl rfl rfl ?_
  intro b74 hb74
  refine ⟨fx0, ?_⟩
  refine JA.fix fx1 (fun fx75 => ?_)
  refine JA.tk 6 rfl fx75 q6 ?_
  refine JA.tk 7 rfl fx75 (q2 (off' := 0) tU114 tS110) ?_
  refine JA.all [4, 8] (by kernel_rfl) (by simp) ?_
  intro i hi
  simp only [List.mem_cons, List.not_mem_nil, or_false] at hi
  rcases hi with rfl | rfl
  ·
   refine ⟨_, rfl, rfl, ?_⟩
   refine op_makeMap rfl rfl rfl ?_
   intro b76 hb76
   refine ⟨fx0, ?_⟩
   refine q4 8 rfl (q10 3 tS110 (LSpl.c LSpl.z) (LSet.s (LSet.s (LSet.s LSet.z))) ?_)
   refine ⟨fx0, ?_⟩
   refine JA.fix fx1 (fun fx77 => ?_)
   refine JA.tk 9 rfl fx77 q6 ?_
   refine JA.tk 10 rfl fx77 (q2 (off' := 1) tU114 tS112) ?_
   refine q4 11 rfl (q10 3 tS112 (LSpl.s (LSpl.c LSpl.z)) (LSet.s (LSet.s (LSet.s LSet.z))) ?_)
   refine ⟨fx0, ?_⟩
   refine JA.fix fx1 (fun fx78 => ?_)
   refine JA.tk 12 rfl fx78 q6 ?_
   refine JA.tk 13 rfl fx78 (q2 (off' := 2) tU114 tS112) ?_
   refine q4 14 rfl (q10 3 tS112 (LSpl.s (LSpl.s (LSpl.c LSpl.z))) (LSet.s (LSet.s (LSet.s LSet.z))) ?_)
   refine ⟨fx0, ?_⟩
   refine q8 ?_
   refine Ej.keep (Keeps.k (Keeps.k (Keeps.k (Keeps.k Keeps.n)))) ?_
   refine Ej.pull (Pull.s (Pull.s Pull.z)) ?_
   refine Ej.pull (Pull.s Pull.z) ?_
   refine Ej.pull (Pull.s (Pull.s (Pull.s Pull.z))) ?_
   refine Ej.pull (Pull.s (Pull.s (Pull.s Pull.z))) ?_
   exact hcut (b74, b76, b73) _ _ _ trivial ⟨rfl, rfl, trivial⟩ rfl rfl
  refine ⟨_, rfl, rfl, ?_⟩
  refine q10 2 tS110 (LSpl.c LSpl.z) (LSet.s (LSet.s LSet.z)) ?_
  refine ⟨fx0, ?_⟩
  refine q4 4 rfl (op_makeMap rfl rfl rfl ?_)
  intro b79 hb79
  refine ⟨fx0, ?_⟩
  refine JA.fix fx1 (fun fx80 => ?_)
  refine JA.tk 9 rfl fx80 q6 ?_
  refine JA.tk 10 rfl fx80 (q2 (off' := 1) tU114 tS112) ?_
  refine q4 11 rfl (q10 3 tS112 (LSpl.s (LSpl.c LSpl.z)) (LSet.s (LSet.s (LSet.s LSet.z))) ?_)
  refine ⟨fx0, ?_⟩
  refine JA.fix fx1 (fun fx81 => ?_)
  refine JA.tk 12 rfl fx81 q6 ?_
  refine JA.tk 13 rfl fx81 (q2 (off' := 2) tU114 tS112) ?_
  refine q4 14 rfl (q10 3 tS112 (LSpl.s (LSpl.s (LSpl.c LSpl.z))) (LSet.s (LSet.s (LSet.s LSet.z))) ?_)
  refine ⟨fx0, ?_⟩
  refine q8 ?_
  refine Ej.keep (Keeps.k (Keeps.k (Keeps.k (Keeps.k Keeps.n)))) ?_
  refine Ej.pull (Pull.s (Pull.s Pull.z)) ?_
  refine Ej.pull (Pull.s Pull.z) ?_
  refine Ej.pull (Pull.s (Pull.s (Pull.s Pull.z))) ?_
  refine Ej.pull (Pull.s (Pull.s (Pull.s Pull.z))) ?_
  exact hcut (b74, b79, b73) _ _ _ trivial ⟨rfl, rfl, trivial⟩ rfl rfl
 refine ⟨_, rfl, rfl, ?_⟩
 refine op_makeMap rfl rfl rfl ?_
 intro b82 hb82
 refine ⟨fx0, ?_⟩
 refine q4 3 rfl (op_makeMap rfl rfl rfl ?_)
 intro b83 hb83
 refine ⟨fx0, ?_⟩
 refine JA.fix fx1 (fun fx84 => ?_)
 refine JA.tk 6 rfl fx84 q6 ?_
 refine JA.tk 7 rfl fx84 (q2 (off' := 0) tU114 tS110) ?_
 refine q4 8 rfl (q10 3 tS110 (LSpl.c LSpl.z) (LSet.s (LSet.s (LSet.s LSet.z))) ?_)
 refine ⟨fx0, ?_⟩
 refine JA.fix fx1 (fun fx85 => ?_)
 refine JA.tk 9 rfl fx85 q6 ?_
 refine JA.tk 10 rfl fx85 (q2 (off' := 1) tU114 tS112) ?_
 refine q4 11 rfl (q10 3 tS112 (LSpl.s (LSpl.c LSpl.z)) (LSet.s (LSet.s (LSet.s LSet.z))) ?_)
 refine ⟨fx0, ?_⟩
 refine JA.fix fx1 (fun fx86 => ?_)
 refine JA.tk 12 rfl fx86 q6 ?_
 refine JA.tk 13 rfl fx86 (q2 (off' := 2) tU114 tS112) ?_
 refine q4 14 rfl (q10 3 tS112 (LSpl.s (LSpl.s (LSpl.c LSpl.z))) (LSet.s (LSet.s (LSet.s LSet.z))) ?_)
 refine ⟨fx0, ?_⟩
 refine q8 ?_
 refine Ej.keep (Keeps.k (Keeps.k (Keeps.k (Keeps.k Keeps.n)))) ?_
 refine Ej.pull (Pull.s (Pull.s Pull.z)) ?_
 refine Ej.pull (Pull.s (Pull.s Pull.z)) ?_
 refine Ej.pull (Pull.s (Pull.s (Pull.s Pull.z))) ?_
 refine Ej.pull (Pull.s (Pull.s (Pull.s Pull.z))) ?_
 exact hcut (b83, b82, b73) _ _ _ trivial ⟨rfl, rfl, trivial⟩ rfl rfl
end Go.Proofs.YtekmeaoblpfnpaaGreatDoor
end
section
namespace Go.SxD
open Go
abbrev Heap := Nat → Option Obj
abbrev HL := List (Nat × Obj)
abbrev Env := List (Nat × Value)
def eg : Env → Nat → Option Value
  | [], _ => none
  | (k, v) :: r, t => bif Nat.beq k t then some v else eg r t
def ev (e : Env) : Operand → Option Value
  | .tmp t => eg e t
  | .const v => some v
  | .global g => some (.pointer (some ⟨g, 0, none⟩))
  | .func f => some (.func (.func f) #[] #[])
def evs (e : Env) : List Operand → Option (List Value)
  | [] => some []
  | x :: r => match ev e x, evs e r with
    | some v, some vs => some (v :: vs)
    | _, _ => none
structure Has (a : Act) (n : Nat) (e : Env) (ds : List Deferred) : Prop where
  size : a.tmps.size = n
  defs : a.defers = ds
  get : ∀ t v, eg e t = some v → a.tmps[t]? = some v
theorem eg_cons (k : Nat) (v : Value) (r : Env) (t : Nat) : eg ((k, v) :: r) t = if k = t then some v else eg r t := by
  show (bif Nat.beq k t then some v else eg r t) = _
  by_cases h : k = t
  · subst h; simp
  have : Nat.beq k t = false := by
    cases hb : Nat.beq k t with
    | false => rfl
    | true => exact absurd (Nat.eq_of_beq_eq_true hb) h
  rw [this, if_neg h]; rfl
section has
variable {a : Act} {n : Nat} {e : Env} {ds : List Deferred}
theorem Has.eval (h : Has a n e ds) {x : Operand} {v : Value} (hx : ev e x = some v) : a.eval x = v := by
  cases x with
  | tmp t =>
    have := h.get t v hx
    simp [Act.eval, this]
  | const c => simpa [ev, Act.eval] using hx
  | global g => simpa [ev, Act.eval] using hx
  | func f => simpa [ev, Act.eval] using hx
theorem Has.evals (h : Has a n e ds) : ∀ {xs : List Operand} {vs : List Value}, evs e xs = some vs → xs.map a.eval = vs
  | [], vs, hx => by simp [evs] at hx; subst hx; rfl
  | x :: r, vs, hx => by
    simp only [evs] at hx
    split at hx
    · rename_i v vs' h1 h2
      cases hx
      simp [h.eval h1, Has.evals h h2]
    cases hx
theorem Has.put (h : Has a n e ds) {d : Nat} {v : Value} (hd : Nat.blt d n = true) : Has (a.put (some d) v) n ((d, v) :: e) ds := by
  have hd' : d < n := by simpa [Nat.blt_eq] using hd
  refine ⟨by simpa [Act.put] using h.size, by simpa [Act.put] using h.defs, fun t u hu => ?_⟩
  rw [eg_cons] at hu
  have hs := h.size
  by_cases hk : d = t
  · subst hk
    simp at hu; subst hu
    simp [Act.put, hs, hd']
  simp only [hk, if_false] at hu
  simp [Act.put, hk]
  have := h.get t u hu
  simpa using this
end has
def argsEnv : Nat → List Value → Env
  | _, [] => []
  | k, v :: r => (k, v) :: argsEnv (k + 1) r
theorem argsEnv_get : ∀ (l : List Value) (k t : Nat) (v : Value), eg (argsEnv k l) t = some v → k ≤ t ∧ l[t - k]? = some v
  | [], k, t, v, h => by simp [argsEnv, eg] at h
  | u :: r, k, t, v, h => by
    simp only [argsEnv] at h
    rw [eg_cons] at h
    by_cases hk : k = t
    · subst hk; simp at h; subst h; simp
    simp only [hk, if_false] at h
    obtain ⟨h1, h2⟩ := argsEnv_get r (k + 1) t v h
    refine ⟨by omega, ?_⟩
    have : t - k = (t - (k + 1)) + 1 := by omega
    rw [this]; simpa using h2
theorem Has.start (l : List Value) (n : Nat) (hn : l.length ≤ n) :
    Has { tmps := l.toArray ++ Array.replicate (n - l.toArray.size) undef, defers := [] } n (argsEnv 0 l) [] := by
  refine ⟨by simp; omega, rfl, fun t v h => ?_⟩
  obtain ⟨_, h2⟩ := argsEnv_get l 0 t v h
  have ht : t < l.length := by
    rcases Nat.lt_or_ge t l.length with h' | h'
    · exact h'
    simp [List.getElem?_eq_none h'] at h2
  simp only [Nat.sub_zero] at h2
  rw [Array.getElem?_append_left (by simpa using ht)]
  simpa using h2
def Le (I I' : Heap) : Prop := ∀ b o, I b = some o → I' b = some o
theorem Le.refl (I : Heap) : Le I I := fun _ _ h => h
theorem Le.trans {I J K : Heap} (h : Le I J) (k : Le J K) : Le I K := fun b o x => k b o (h b o x)
structure St (w0 : World) (D : List Nat) (I0 I : Heap) (H : HL) (w : World) : Prop where
  os : w.os = w0.os
  tape : w.tape = w0.tape
  output : w.output = w0.output
  size : w0.heap.size ≤ w.heap.size
  frm : ∀ b, b < w0.heap.size → b ∉ D → w.heap[b]? = w0.heap[b]?
  sub : ∀ b o, I b = some o → w.heap[b]? = some o
  own : ∀ p ∈ H, w.heap[p.1]? = some p.2
  nodup : (H.map (·.1)).Nodup
  dis : ∀ p ∈ H, I p.1 = none
  new : ∀ p ∈ H, p.1 ∈ D ∨ w0.heap.size ≤ p.1
  ifr : ∀ b, b < w0.heap.size → I b = I0 b
  le : Le I0 I
  drw : w0.drawn ≤ w.drawn
theorem St.start (w : World) (I : Heap) (H : HL) (h1 : ∀ b o, I b = some o → w.heap[b]? = some o) (h2 : ∀ p ∈ H, w.heap[p.1]? = some p.2)
    (h3 : (H.map (·.1)).Nodup) (h4 : ∀ p ∈ H, I p.1 = none) : St w (H.map (·.1)) I I H w :=
  ⟨rfl, rfl, rfl, Nat.le_refl _, fun _ _ _ => rfl, h1, h2, h3, h4, fun _p hp => .inl (List.mem_map_of_mem hp), fun _ _ => rfl, Le.refl _, Nat.le_refl _⟩
section st
variable {w0 : World} {D : List Nat} {I0 I : Heap} {H : HL} {w : World}
theorem St.lt (h : St w0 D I0 I H w) {p : Nat × Obj} (hp : p ∈ H) : p.1 < w.heap.size := by
  have := h.own p hp
  rcases Nat.lt_or_ge p.1 w.heap.size with h' | h'
  · exact h'
  simp [Array.getElem?_eq_none h'] at this
theorem St.drew (h : St w0 D I0 I H w) : St w0 D I0 I H { w with drawn := w.drawn + 1 } :=
  ⟨h.os, h.tape, h.output, h.size, h.frm, h.sub, h.own, h.nodup, h.dis, h.new, h.ifr, h.le, Nat.le_succ_of_le h.drw⟩
theorem St.keep {H' : HL} (h : St w0 D I0 I H w) (hs : ∀ p ∈ H', p ∈ H) (hn : (H'.map (·.1)).Nodup) : St w0 D I0 I H' w :=
  ⟨h.os, h.tape, h.output, h.size, h.frm, h.sub, fun p hp => h.own p (hs p hp), hn, fun p hp => h.dis p (hs p hp), fun p hp => h.new p (hs p hp), h.ifr, h.le, h.drw⟩
theorem St.sublist {H' : HL} (h : St w0 D I0 I H w) (hs : H'.Sublist H) : St w0 D I0 I H' w :=
  h.keep (fun _ hp => hs.subset hp) (h.nodup.sublist (hs.map _))
theorem St.perm {H' : HL} (h : St w0 D I0 I H w) (hs : H'.Perm H) : St w0 D I0 I H' w :=
  h.keep (fun _ hp => hs.mem_iff.1 hp) ((hs.map _).nodup_iff.2 h.nodup)
theorem St.alloc (h : St w0 D I0 I H w) (o : Obj) : St w0 D I0 I ((w.heap.size, o) :: H) { w with heap := w.heap.push o } := by
  have hlt : ∀ {b : Nat} {o' : Obj}, w.heap[b]? = some o' → b < w.heap.size := fun {b o'} hb => by
    rcases Nat.lt_or_ge b w.heap.size with h' | h'
    · exact h'
    simp [Array.getElem?_eq_none h'] at hb
  have hold : ∀ {b : Nat} {o' : Obj}, w.heap[b]? = some o' → (w.heap.push o)[b]? = some o' := fun {b o'} hb => by
    rw [Array.getElem?_push, if_neg (by have := hlt hb; omega)]; exact hb
  refine ⟨h.os, h.tape, h.output, by have := h.size; simp; omega, fun b hb hd => ?_, fun b o' hb => hold (h.sub b o' hb), ?_, ?_, ?_, ?_, h.ifr, h.le, h.drw⟩
  · rw [← h.frm b hb hd]
    show (w.heap.push o)[b]? = _
    rw [Array.getElem?_push, if_neg (by have := h.size; omega)]
  · intro p hp
    cases hp with
    | head => simp
    | tail _ hp => exact hold (h.own p hp)
  · simp only [List.map_cons, List.nodup_cons]
    refine ⟨fun hm => ?_, h.nodup⟩
    obtain ⟨p, hp, he⟩ := List.mem_map.1 hm
    have := h.lt hp
    omega
  · intro p hp
    cases hp with
    | head =>
      cases hi : I w.heap.size with
      | none => rfl
      | some o' => have := hlt (h.sub _ _ hi); omega
    | tail _ hp => exact h.dis p hp
  intro p hp
  cases hp with
  | head => exact .inr h.size
  | tail _ hp => exact h.new p hp
end st
theorem St.call {w0 w w' : World} {D : List Nat} {I0 I I' : Heap} {H1 H1' R : HL} (h : St w0 D I0 I (H1 ++ R) w) (k : St w (H1.map (·.1)) I I' H1' w') :
    St w0 D I0 I' (H1' ++ R) w' := by
  have hnd := h.nodup
  rw [List.map_append, List.nodup_append] at hnd
  obtain ⟨n1, n2, n3⟩ := hnd
  have hR : ∀ p ∈ R, p.1 < w.heap.size := fun p hp => h.lt (List.mem_append_right _ hp)
  have hRD : ∀ p ∈ R, p.1 ∉ H1.map (·.1) := fun p hp hm => n3 _ hm _ (List.mem_map_of_mem hp) rfl
  refine ⟨k.os.trans h.os, k.tape.trans h.tape, k.output.trans h.output, Nat.le_trans h.size k.size, fun b hb hd => ?_, k.sub, fun p hp => ?_, ?_, fun p hp => ?_, fun p hp => ?_, fun b hb => ?_, h.le.trans k.le, Nat.le_trans h.drw k.drw⟩
  · have hnot : b ∉ H1.map (·.1) := fun hm => by
      obtain ⟨p, hp, he⟩ := List.mem_map.1 hm
      rcases h.new p (List.mem_append_left _ hp) with h' | h'
      · exact hd (he ▸ h')
      omega
    rw [k.frm b (Nat.lt_of_lt_of_le hb h.size) hnot]
    exact h.frm b hb hd
  · rcases List.mem_append.1 hp with hp | hp
    · exact k.own p hp
    rw [k.frm _ (hR p hp) (hRD p hp)]
    exact h.own p (List.mem_append_right _ hp)
  · rw [List.map_append, List.nodup_append]
    refine ⟨k.nodup, n2, fun x hx y hy he => ?_⟩
    obtain ⟨p, hp, hpx⟩ := List.mem_map.1 hx
    obtain ⟨q, hq, hqy⟩ := List.mem_map.1 hy
    rcases k.new p hp with h' | h'
    · exact hRD q hq (by rw [hqy, ← he, ← hpx]; exact h')
    have := hR q hq; omega
  · rcases List.mem_append.1 hp with hp | hp
    · exact k.dis p hp
    rw [k.ifr _ (hR p hp)]; exact h.dis p (List.mem_append_right _ hp)
  · rcases List.mem_append.1 hp with hp | hp
    · rcases k.new p hp with h' | h'
      · obtain ⟨q, hq, he⟩ := List.mem_map.1 h'
        rw [← he]; exact h.new q (List.mem_append_left _ hq)
      exact .inr (Nat.le_trans h.size h')
    exact h.new p (List.mem_append_right _ hp)
  rw [k.ifr b (Nat.lt_of_lt_of_le hb h.size)]; exact h.ifr b hb
def SS (I : Heap) (H : HL) (w : World) : Prop := (∀ b o, I b = some o → w.heap[b]? = some o) ∧ ∀ p ∈ H, w.heap[p.1]? = some p.2
theorem St.ss {w0 w : World} {D : List Nat} {I0 I : Heap} {H : HL} (h : St w0 D I0 I H w) : SS I H w := ⟨h.sub, h.own⟩
def Blk (S : World → Prop) (b : Nat) (o : Obj) : Prop := ∀ w, S w → w.heap[b]? = some o
theorem Blk.at {I : Heap} {H : HL} {b : Nat} {o : Obj} (i : Nat) (h : H[i]? = some (b, o)) : Blk (SS I H) b o := fun _ hs => hs.2 _ (List.mem_of_getElem? h)
abbrev CL := List (Nat × Nat × Value)
def SC (I : Heap) (A : HL) (Z : CL) (w : World) : Prop := SS I A w ∧ ∀ c ∈ Z, w.cell? ⟨c.1, c.2.1, none⟩ = some c.2.2
theorem Blk.atC {I : Heap} {A : HL} {Z : CL} {b : Nat} {o : Obj} (i : Nat) (h : A[i]? = some (b, o)) : Blk (SC I A Z) b o := fun _ hs => hs.1.2 _ (List.mem_of_getElem? h)
structure Cx where
  P : Program
  n : Nat
  w0 : World
  D : List Nat
  I0 : Heap
  ds : List Deferred
  rd : Option Nat := none
def Cx.F (cx : Cx) : Fence := { Fence.wide with round := cx.rd }
abbrev Qt := Exit → Act → World → Prop
def Cj (cx : Cx) (Q : Qt) (c : Code) (e : Env) (I : Heap) (H : HL) : Prop :=
  ∀ a w, Has a cx.n e cx.ds → St cx.w0 cx.D cx.I0 I H w → c.wpIn cx.F 0 cx.P Q a w
def Ej (cx : Cx) (Q : Qt) (x : Exit) (e : Env) (I : Heap) (H : HL) : Prop :=
  ∀ a w, Has a cx.n e cx.ds → St cx.w0 cx.D cx.I0 I H w → Q x a w
def J (cx : Cx) (Q : Qt) (ops : Array Oper) (l : List Oper) (e : Env) (I : Heap) (H : HL) : Prop :=
  ∀ a w, Has a cx.n e cx.ds → St cx.w0 cx.D cx.I0 I H w → wpListIn cx.F 0 cx.P ops Q l a w
abbrev Ct := Env → Heap → HL → Prop
def OpJ (cx : Cx) (Q : Qt) (o : Oper) (e : Env) (I : Heap) (H : HL) (C : Ct) : Prop :=
  ∀ K : Act → World → Prop, (∀ e' I' H', C e' I' H' → ∀ a w, Has a cx.n e' cx.ds → St cx.w0 cx.D cx.I0 I' H' w → K a w) →
    ∀ a w, Has a cx.n e cx.ds → St cx.w0 cx.D cx.I0 I H w → o.wp cx.P a w K Q
theorem fence_calls {rd : Option Nat} {n : Nat} {P : Program} {f : FuncId} {args : Array Value} {w : World} {R : Ending → World → Prop} (h : Calls P f args w R) : CallsIn { Fence.wide with round := rd } n P f args w R := by
  have := (callsIn_wide (n := n)).2 h
  cases rd with
  | none => exact this
  | some l => exact this
theorem fence_rows {rd : Option Nat} {n : Nat} {P : Program} {row : String} {args : Array Value} {w : World} {R : Value → World → Prop} (h : Rows P row args w R) : RowsIn { Fence.wide with round := rd } n P row args w R := by
  have : RowsIn Fence.wide n P row args w R := fun c cs _ => let ⟨v, w', hr, hs⟩ := h c cs; ⟨v, w', hr, stepsIn_wide.2 hs⟩
  cases rd with
  | none => exact this
  | some l => exact this
theorem fence_upon {rd : Option Nat} {n : Nat} {P : Program} {o : Oper} {a : Act} {K : Act → World → Prop} {Q : Qt} {r : Result Next} (h : o.upon P a K Q r) : o.uponIn { Fence.wide with round := rd } n P a K Q r := by
  cases r with
  | ok x w' =>
    cases x <;> simp only [Oper.upon, Oper.uponIn] at h ⊢ <;>
      first
        | exact h
        | exact ⟨fun h => by simp [Fence.wide] at h, fence_calls h⟩
        | exact ⟨fun h => by simp [Fence.wide] at h, fence_rows h⟩
  | halt x w' => cases x <;> simp only [Oper.upon, Oper.uponIn] at h ⊢ <;> exact h
theorem fence_wp {rd : Option Nat} {n : Nat} {P : Program} {o : Oper} {a : Act} {w : World} {K : Act → World → Prop} {Q : Qt} (hd : rd = none ∨ ∀ c, o.op ≠ .defer c) (h : o.wp P a w K Q) : o.wpIn { Fence.wide with round := rd } n P a w K Q := by
  refine ⟨fun _ _ => trivial, ?_⟩
  have he : o.semAt rd a.eval = execOp a.eval o := by
    rcases hd with rfl | hd
    · rfl
    exact Oper.semAt_eq rd a.eval o hd
  show o.uponIn _ n P a K Q ((o.semAt rd a.eval).run P w)
  rw [he]
  exact fence_upon h
theorem OpJ.toIn {cx : Cx} {Q : Qt} {o : Oper} {e : Env} {I : Heap} {H : HL} {C : Ct} (h : OpJ cx Q o e I H C) (K : Act → World → Prop)
    (hK : ∀ e' I' H', C e' I' H' → ∀ a w, Has a cx.n e' cx.ds → St cx.w0 cx.D cx.I0 I' H' w → K a w) (a : Act) (w : World) (ha : Has a cx.n e cx.ds) (hs : St cx.w0 cx.D cx.I0 I H w) : o.wpIn cx.F 0 cx.P a w K Q := by
  by_cases hd : ∃ c, o.op = .defer c
  · obtain ⟨c, hc⟩ := hd
    have h1 := h (fun a' w' => K a' w' ∧ a'.defers = cx.ds) (fun e' I' H' hC a w ha' hs' => ⟨hK e' I' H' hC a w ha' hs', ha'.defs⟩) a w ha hs
    refine ⟨fun _ _ => trivial, ?_⟩
    unfold Oper.wp at h1
    have hx : (execOp a.eval o).run cx.P w = ((resolve a.eval c o.type).run cx.P w).andThen fun d w' => .ok (.defer d) w' := by
      simp only [execOp, hc, Sem.run_bind]
      rfl
    rw [hx] at h1
    cases hr : (resolve a.eval c o.type).run cx.P w with
    | ok d w' =>
      rw [hr] at h1
      simp only [Result.andThen_ok, Oper.upon] at h1
      have h2 := h1.2
      have h3 : ({ a with defers := d :: a.defers }.put o.dst undef).defers = d :: a.defers := by
        cases o.dst <;> rfl
      rw [h3, ha.defs] at h2
      exact absurd (congrArg List.length h2) (by simp)
    | halt x w' =>
      rw [hr] at h1
      have hy : (o.semAt cx.F.round a.eval).run cx.P w = .halt x w' := by
        unfold Oper.semAt
        cases cx.F.round with
        | none => simp only [hx, hr]; rfl
        | some l => simp only [hc, Sem.run_bind, hr]; rfl
      rw [hy]
      have h4 : (Result.andThen (.halt x w' : Result Deferred) fun d w' => (.ok (.defer d) w' : Result Next)) = .halt x w' := rfl
      rw [h4] at h1
      cases x <;> simp only [Oper.upon, Oper.uponIn] at h1 ⊢ <;> exact h1
  have h1 := h K hK a w ha hs
  exact fence_wp (rd := cx.rd) (.inr fun c hc => hd ⟨c, hc⟩) h1
theorem Cx.wide {cx : Cx} (h : cx.rd = none) : cx.F = Fence.wide := by
  unfold Cx.F; rw [h]; rfl
theorem Cj.of_wp {cx : Cx} {Q : Qt} {c : Code} {e : Env} {I : Heap} {H : HL} (hr : cx.rd = none) (h : ∀ a w, Has a cx.n e cx.ds → St cx.w0 cx.D cx.I0 I H w → c.wp cx.P Q a w) : Cj cx Q c e I H := fun a w ha hs => by
  rw [Cx.wide hr]; exact wpIn_wide.2 (h a w ha hs)
theorem Cj.wp {cx : Cx} {Q : Qt} {c : Code} {e : Env} {I : Heap} {H : HL} (h : Cj cx Q c e I H) (hr : cx.rd = none) {a : Act} {w : World} (ha : Has a cx.n e cx.ds) (hs : St cx.w0 cx.D cx.I0 I H w) : c.wp cx.P Q a w := by
  have := h a w ha hs
  rw [Cx.wide hr] at this; exact wpIn_wide.1 this
section rules
variable {cx : Cx} {Q : Qt} {e : Env} {I : Heap} {H : HL}
theorem Cj.region {id : Nat} {l : List Oper} (h : J cx Q l.toArray l e I H) : Cj cx Q (.region id l.toArray false) e I H :=
  fun a w ha hs => wpIn_region_lit (h a w ha hs)
theorem J.nil {ops : Array Oper} (h : Ej cx Q .normal e I H) : J cx Q ops [] e I H := fun a w ha hs => wpListIn_nil (h a w ha hs)
theorem J.op {ops : Array Oper} {o : Oper} {l : List Oper} (hg : o.guard = none) (h : OpJ cx Q o e I H (J cx Q ops l)) : J cx Q ops (o :: l) e I H :=
  fun a w ha hs => wpListIn_plain hg fun K hK => h.toIn K (fun _ _ _ hc a w ha hs => hK a w (hc a w ha hs)) a w ha hs
theorem Cj.seq {x y : Code} (h : Cj cx (Exit.then (y.wpIn cx.F 0 cx.P Q) Q) x e I H) : Cj cx Q (.seq x y) e I H := fun a w ha hs => wpIn_seq (h a w ha hs)
theorem Ej.seq {y : Code} (h : Cj cx Q y e I H) : Ej cx (Exit.then (y.wpIn cx.F 0 cx.P Q) Q) .normal e I H := fun a w ha hs => h a w ha hs
theorem Ej.seqRet {K : Act → World → Prop} (h : Ej cx Q .ret e I H) : Ej cx (Exit.then K Q) .ret e I H := fun a w ha hs => h a w ha hs
theorem Cj.skip (h : Ej cx Q .normal e I H) : Cj cx Q .skip e I H := fun a w ha hs => wpIn_skip (h a w ha hs)
theorem Cj.ret (h : Ej cx Q .ret e I H) : Cj cx Q .ret e I H := fun a w ha hs => wpIn_ret (h a w ha hs)
theorem Cj.cond {c : Operand} {x y : Code} {t : Bool} (hc : ev e c = some (.bool t)) (h1 : t = true → Cj cx Q x e I H) (h2 : t = false → Cj cx Q y e I H) : Cj cx Q (.cond c x y) e I H :=
  fun a w ha hs => wpIn_cond_split (ha.eval hc) (fun h => h1 h a w ha hs) (fun h => h2 h a w ha hs)
theorem Ej.keep {x : Exit} {H' : HL} (hs : H'.Sublist H) (h : Ej cx Q x e I H') : Ej cx Q x e I H := fun a w ha h1 => h a w ha (h1.sublist hs)
section round
variable {ι : Type} {pre : ι → Prop} {μ : ι → Nat} {i : ι} {env : ι → Env} {hp : ι → Heap} {hl : ι → HL}
end round
end rules
end Go.SxD
namespace Go.SxD
open Go
def Yld (cx : Cx) (o : Oper) (e : Env) (S : World → Prop) (v : Value) : Prop :=
  ∀ a w, Has a cx.n e cx.ds → S w → (execOp a.eval o).run cx.P w = .ok (.value v) w
def str (l : List UInt8) : Value := .string ⟨l.toArray⟩
abbrev i64 (n : Int) : Value := .int .i64 n
abbrev ptr (b o : Nat) : Value := .pointer (some ⟨b, o, none⟩)
def cel (t : TypeId) (l : List Value) : Obj := .cells l.toArray t (0, 0)
section
variable {cx : Cx} {Q : Qt} {o : Oper} {e : Env} {I : Heap} {H : HL} {C : Ct} {S : World → Prop}
theorem op_yld {d : Nat} {v : Value} (hy : Yld cx o e (SS I H) v) (ho : o.dst = some d) (hd : Nat.blt d cx.n = true) (k : C ((d, v) :: e) I H) : OpJ cx Q o e I H C := by
  intro K hK a w ha hs
  unfold Oper.wp
  rw [hy a w ha hs.ss]
  simp only [Oper.upon, ho]
  exact hK _ _ _ k _ _ (ha.put hd) hs
theorem J.y {ops : Array Oper} {l : List Oper} {d : Nat} {v : Value} (hy : Yld cx o e (SS I H) v) (hg : o.guard = none) (ho : o.dst = some d) (hd : Nat.blt d cx.n = true)
    (k : J cx Q ops l ((d, v) :: e) I H) : J cx Q ops (o :: l) e I H := J.op hg (op_yld hy ho hd k)
theorem J.z {ops : Array Oper} {l : List Oper} {d : Nat} {v : Value} (hy : Yld cx o e (SS I H) v) (k : J cx Q ops l ((d, v) :: e) I H) (hg : o.guard = none := by rfl) (ho : o.dst = some d := by rfl) (hd : Nat.blt d cx.n = true := by rfl) : J cx Q ops (o :: l) e I H := J.y hy hg ho hd k
theorem yl_move {x : Operand} {v : Value} (ho : o.op = .move x) (hx : ev e x = some v) : Yld cx o e S v := by
  intro a w ha _
  simp only [execOp, ho, Sem.run_pure, ha.eval hx]
theorem yl_assign {x : Operand} {v : Value} (ho : o.op = .assign x) (hx : ev e x = some v) : Yld cx o e S v := by
  intro a w ha _
  simp only [execOp, ho, Sem.run_pure, ha.eval hx]
theorem yl_fieldAddr {x : Operand} {T k b off off' m : Nat} {fs : Array Field} {f : Field} (ho : o.op = .fieldAddr T x k) (hx : ev e x = some (ptr b off))
    (hu : cx.P.underlying T = some (.struct fs)) (hf : fs[k]? = some f) (hsz : ∀ w, (sizeOf f.type).run cx.P w = .ok (m + 1) w) (hoff : off + f.offset = off') :
    Yld cx o e S (ptr b off') := by
  intro a w ha _
  subst hoff
  simp [execOp, ho, ha.eval hx, Instr.fieldAt, run_underlying hu, hf, Instr.sureAddr, fieldPlace, hsz, Addr.add_lit]
theorem cell_of_heap {w : World} {b off : Nat} {cs : List Value} {t : TypeId} {fr : Nat × Nat} {v : Value} (h : w.heap[b]? = some (.cells cs.toArray t fr)) (hv : cs[off]? = some v) :
    w.cell? ⟨b, off, none⟩ = some v := by
  simp [World.cell?, h, hv]
theorem yl_load {x : Operand} {T b off : Nat} {cs : List Value} {t : TypeId} {fr : Nat × Nat} {v : Value} (ho : o.op = .load T x) (hx : ev e x = some (ptr b off))
    (ha0 : ∀ w, (isAgg T).run cx.P w = .ok false w) (hb : Blk S b (.cells cs.toArray t fr)) (hv : cs[off]? = some v) : Yld cx o e S v := by
  intro a w ha hs
  have hc := cell_of_heap (hb w hs) hv
  simp [execOp, ho, ha.eval hx, Instr.loadAt, Instr.sureAddr, loadVar, ha0, hc]
theorem yl_neqStr {x y : Operand} {T U : Nat} {l m : List UInt8} (ho : o.op = .binOp .neq T x y U) (hx : ev e x = some (str l)) (hy : ev e y = some (str m)) : Yld cx o e S (.bool (l != m)) := by
  intro a w ha _
  simp [execOp, ho, ha.eval hx, ha.eval hy, str, eqGuard_at_string, binOp, Op.stringOp, bne]
end
end Go.SxD
namespace Go.SxD
open Go
def LCat (vs : List Value) (sz : Nat) (cs : List Value) : Prop := (∀ v ∈ vs, v.cells.size = sz) ∧ vs.flatMap (fun v => v.cells.toList) = cs
theorem LCat.none {sz : Nat} : LCat [] sz [] := ⟨by simp, rfl⟩
theorem LCat.one {v : Value} {vs cs : List Value} (h1 : v.cells = #[v]) (h : LCat vs 1 cs) : LCat (v :: vs) 1 (v :: cs) :=
  ⟨fun u hu => by cases hu with | head => rw [h1]; rfl | tail _ hu => exact h.1 u hu, by rw [List.flatMap_cons, h1, h.2]; rfl⟩
theorem foldl_put : ∀ (xs : List Value) (k : Nat) (pre old post : List Value) (off : Nat), old.length = xs.length → pre.length = off + k →
    (xs.zipIdx k).foldl (fun cs (x : Value × Nat) => cs.setIfInBounds (off + x.2) x.1) (pre ++ old ++ post).toArray = (pre ++ xs ++ post).toArray
  | [], k, pre, old, post, off, h, _ => by
    have : old = [] := List.length_eq_zero_iff.1 (by simpa using h)
    subst this; simp
  | x :: xs, k, pre, old, post, off, h, hp => by
    obtain ⟨y, r, rfl⟩ : ∃ y r, old = y :: r := by
      cases old with
      | nil => simp at h
      | cons y r => exact ⟨y, r, rfl⟩
    simp only [List.zipIdx_cons, List.foldl_cons]
    have h1 : (pre ++ y :: r ++ post).toArray.setIfInBounds (off + k) x = ((pre ++ [x]) ++ r ++ post).toArray := by
      rw [List.setIfInBounds_toArray]
      congr 1
      rw [List.append_assoc, List.set_append_right _ _ (by omega), hp, Nat.sub_self]
      simp
    rw [h1, foldl_put xs (k + 1) (pre ++ [x]) r post off (by simpa using h) (by simp; omega)]
    simp
theorem fill_cat {sz : Nat} : ∀ (vs : List Value) (k : Nat) (pre rest : List Value), (∀ v ∈ vs, v.cells.size = sz) → pre.length = k * sz → rest.length = vs.length * sz →
    Instr.fill (fun i => some (i * sz, sz)) (pre ++ rest).toArray ((List.range' k vs.length).zip vs) = some (pre ++ vs.flatMap (fun v => v.cells.toList)).toArray
  | [], k, pre, rest, _, _, hr => by
    have : rest = [] := List.length_eq_zero_iff.1 (by simpa using hr)
    subst this; simp [Instr.fill]
  | v :: vs, k, pre, rest, hv, hp, hr => by
    have h1 : v.cells.toList.length = sz := by simpa using hv v (.head _)
    have hr' : rest.length = sz + vs.length * sz := by rw [hr]; simp [Nat.add_mul]; omega
    have hs1 : v.cells.size = sz := hv v (.head _)
    simp only [List.length_cons, List.range'_succ, List.zip_cons_cons, Instr.fill]
    rw [if_neg (by simp [hs1, hp]; omega)]
    have h2 : v.cells.zipIdx.foldl (fun cs (x : Value × Nat) => cs.setIfInBounds (k * sz + x.2) x.1) (pre ++ rest).toArray = (pre ++ v.cells.toList ++ rest.drop sz).toArray := by
      rw [← foldl_put v.cells.toList 0 pre (rest.take sz) (rest.drop sz) (k * sz) (by simp; omega) (by omega)]
      rw [List.append_assoc pre, List.take_append_drop]
      rw [← Array.foldl_toList, Array.toList_zipIdx]
    rw [h2, fill_cat vs (k + 1) (pre ++ v.cells.toList) (rest.drop sz) (fun u hu => hv u (.tail _ hu)) (by simp [hs1, hp, Nat.add_mul]) (by simp; omega)]
    simp [List.flatMap_cons]
section
variable {cx : Cx} {Q : Qt} {o : Oper} {e : Env} {I : Heap} {H : HL} {C : Ct}
theorem op_box {T d : Nat} {x : Operand} {z : Value} {zs : List Value} (ho : o.op = .box T x) (hd : o.dst = some d) (hn : Nat.blt d cx.n = true) (hx : ev e x = some z) (hc : z.cells = zs.toArray)
    (k : ∀ b, cx.w0.heap.size ≤ b → C ((d, ptr b 0) :: e) I ((b, cel T zs) :: H)) : OpJ cx Q o e I H C := by
  intro K hK a w ha hs
  unfold Oper.wp
  have : (execOp a.eval o).run cx.P w = .ok (.value (ptr w.heap.size 0)) { w with heap := w.heap.push (cel T zs) } := by
    simp [execOp, ho, Instr.box, ha.eval hx, newVar, newRow, hc, cel]
  rw [this]
  simp only [Oper.upon, hd]
  exact hK _ _ _ (k _ hs.size) _ _ (ha.put hn) (hs.alloc _)
theorem op_buildSlice {T E d len sz : Nat} {parts : List (Nat × Operand)} {vs : List Value} {z : Value} {cells : List Value} (ho : o.op = .buildSlice T len parts.toArray) (hd : o.dst = some d) (hn : Nat.blt d cx.n = true)
    (hu : cx.P.underlying T = some (.slice E)) (hsz : ∀ w, (sizeOf E).run cx.P w = .ok sz w) (hz : ∀ w, (zeroValue E).run cx.P w = .ok z w) (hbig : (Nat.ble (len * sz) (2 ^ 24) && Nat.blt 0 (len * sz)) = true)
    (hv : evs e (parts.map (·.2)) = some vs) (hi : parts.map (·.1) = List.range' 0 vs.length) (hl : vs.length = len) (hf : LCat vs sz cells)
    (k : ∀ b, cx.w0.heap.size ≤ b → C ((d, .slice (some ⟨b, 0, none⟩) len len) :: e) I ((b, cel E cells) :: H)) : OpJ cx Q o e I H C := by
  intro K hK a w ha hs
  unfold Oper.wp
  have hp : (parts.toArray.map fun (i, x) => (i, a.eval x)).toList = (List.range' 0 vs.length).zip vs := by
    have h := ha.evals hv
    rw [← hi, ← h]
    simp [List.zip_map', List.map_map]
  have hb1 : ¬ (len * sz > 2 ^ 24) := by
    simp only [Bool.and_eq_true, Nat.ble_eq] at hbig; omega
  have hb2 : ¬ (len * sz = 0) := by
    simp only [Bool.and_eq_true, Nat.blt_eq] at hbig; omega
  have hfl : Instr.fill (fun i => some (i * sz, sz)) ((Array.range (len * sz)).map (z.cells[· % z.cells.size]!)) ((List.range' 0 vs.length).zip vs) = some cells.toArray := by
    have h0 : ((Array.range (len * sz)).map (z.cells[· % z.cells.size]!)) = ([] ++ ((Array.range (len * sz)).map (z.cells[· % z.cells.size]!)).toList).toArray := by rw [List.nil_append, Array.toArray_toList]
    rw [h0, fill_cat vs 0 [] _ hf.1 (by simp) (by simp [hl]), hf.2]
    simp
  have : (execOp a.eval o).run cx.P w = .ok (.value (.slice (some ⟨w.heap.size, 0, none⟩) len len)) { w with heap := w.heap.push (cel E cells) } := by
    simp only [execOp, ho, Instr.buildSlice, Sem.run_bind, run_underlying hu, Result.andThen_ok, hsz, hb1, hb2, if_false, Sem.run_pure, hz, hp, hfl, newRow, run_newObj, cel]
  rw [this]
  simp only [Oper.upon, hd]
  exact hK _ _ _ (k _ hs.size) _ _ (ha.put hn) (hs.alloc _)
end
def Enters (P : Program) (f : FuncId) : Prop := ∃ fn, P.funcs[f]? = some fn ∧ fn.name ≠ "runtime.NumGoroutine" ∧ fn.body.isNone = false
def Ready (I : Heap) (H : HL) (w : World) : Prop := (∀ b o, I b = some o → w.heap[b]? = some o) ∧ (∀ p ∈ H, w.heap[p.1]? = some p.2) ∧ (H.map (·.1)).Nodup ∧ ∀ p ∈ H, I p.1 = none
def RR (w0 : World) (D : List Nat) (I0 : Heap) (post : Ending → Heap → HL → Prop) : Ending → World → Prop :=
  fun e w' => ∃ I' H', St w0 D I0 I' H' w' ∧ post e I' H'
def Ctr (P : Program) (f : FuncId) (args : List Value) (I : Heap) (H : HL) (post : Ending → Heap → HL → Prop) : Prop :=
  Enters P f ∧ ∀ w, Ready I H w → Calls P f args.toArray w (RR w (H.map (·.1)) I post)
theorem run_callFunc {P : Program} {f : FuncId} (h : Enters P f) (args : Array Value) (w : World) : (callFunc f args).run P w = .ok (.enter f args) w := by
  obtain ⟨fn, h1, h2, h3⟩ := h
  have h4 : (fn.name == "runtime.NumGoroutine") = false := by simpa using h2
  simp only [callFunc, Sem.run_bind, run_program, Result.andThen_ok, h1, h4, h3, Bool.false_eq_true, if_false, Sem.run_pure]
section
variable {cx : Cx} {Q : Qt} {o : Oper} {e : Env} {I : Heap} {C : Ct}
theorem op_call {H1 R : HL} {d f : Nat} {fo : Operand} {xs : List Operand} {ts : Array TypeId} {fst cap vs : List Value} {post : Ending → Heap → HL → Prop}
    (ho : o.op = .call ⟨.value fo, xs.toArray, ts⟩) (hd : o.dst = some d) (hn : Nat.blt d cx.n = true) (hf : ev e fo = some (.func (.func f) fst.toArray cap.toArray)) (hx : evs e xs = some vs)
    (hs : Ctr cx.P f (fst ++ vs ++ cap) I H1 post)
    (k : ∀ v I' H1', Le I I' → post (.returned v) I' H1' → C ((d, v) :: e) I' (H1' ++ R))
    (kp : ∀ ch I' H1', Le I I' → post (.panicked ch) I' H1' → Ej cx Q (.panic ch) e I' (H1' ++ R))
    (ko : ∀ I' H1', ¬ post .outgrown I' H1') : OpJ cx Q o e I (H1 ++ R) C := by
  intro K hK a w ha hst
  unfold Oper.wp
  have hr : (execOp a.eval o).run cx.P w = .ok (.enter f (fst ++ vs ++ cap).toArray) w := by
    have hxs : xs.toArray.map a.eval = vs.toArray := by
      rw [List.map_toArray, ha.evals hx]
    simp only [execOp, ho, resolve, hxs, ha.eval hf, Deferred.ofValue, invoke, Sem.run_bind, Sem.run_pure, Result.andThen_ok, run_callFunc hs.1]
    simp
  rw [hr]
  simp only [Oper.upon]
  have hready : Ready I H1 w := ⟨hst.sub, fun p hp => hst.own p (List.mem_append_left _ hp), by
    have := hst.nodup; rw [List.map_append, List.nodup_append] at this; exact this.1, fun p hp => hst.dis p (List.mem_append_left _ hp)⟩
  refine (hs.2 w hready).mono ?_
  rintro en w' ⟨I', H1', hs', hp⟩
  have hle := hs'.le
  have hst' := hst.call hs'
  cases en with
  | returned v =>
    rw [hd]
    exact hK _ _ _ (k v I' H1' hle hp) _ _ (ha.put hn) hst'
  | panicked ch => exact kp ch I' H1' hle hp _ _ ha hst'
  | outgrown => exact (ko _ _ hp).elim
end
theorem Ctr.of_body {P : Program} {f : FuncId} {fn : Func} {c : Code} {args : List Value} {I : Heap} {H : HL} {post : Ending → Heap → HL → Prop} (hf : P.funcs[f]? = some fn) (hb : fn.body = some c) (hname : fn.name ≠ "runtime.NumGoroutine")
    (hn : args.length ≤ fn.ntmps)
    (h : ∀ w0, Ready I H w0 → Cj ⟨P, fn.ntmps, w0, H.map (·.1), I, [], none⟩ (bodyPost P fn (RR w0 (H.map (·.1)) I post)) c (argsEnv 0 args) I H) : Ctr P f args I H post := by
  refine ⟨⟨fn, hf, hname, by simp [hb]⟩, fun w hw => ?_⟩
  refine calls_of_wp hf hb ?_
  exact (h w hw).wp rfl (Has.start args fn.ntmps hn) (St.start w I H hw.1 hw.2.1 hw.2.2.1 hw.2.2.2)
section
variable {cx : Cx} {fn : Func} {post : Ending → Heap → HL → Prop} {e : Env} {I : Heap} {H : HL}
theorem Ej.ret1 {t : Nat} {v : Value} (hr : fn.results = #[.tmp t]) (hds : cx.ds = []) (hv : eg e t = some v) (hp : post (.returned v) I H) : Ej cx (bodyPost cx.P fn (RR cx.w0 cx.D cx.I0 post)) .ret e I H := by
  intro a w ha hs
  refine ⟨ha.defs.trans hds, v, ?_, I, H, hs, hp⟩
  rw [results_tmp hr]
  have := ha.get t v hv
  simp [this]
end
def Pull (H : HL) (p : Nat × Obj) (H' : HL) : Prop := (p :: H').Perm H
theorem Pull.z {p : Nat × Obj} {r : HL} : Pull (p :: r) p r := List.Perm.refl _
section
variable {cx : Cx} {Q : Qt} {e : Env} {I : Heap} {H H' : HL} {p : Nat × Obj}
theorem Ej.bare {x : Exit} (k : Ej cx Q x e I []) : Ej cx Q x e I H := Ej.keep (List.nil_sublist _) k
end
def sel : List Nat → HL → HL
  | [], _ => []
  | i :: r, H => match H[i]? with
    | some p => p :: sel r H
    | none => sel r H
def HSub : HL → HL → Prop
  | [], _ => True
  | p :: r, H => p ∈ H ∧ HSub r H
theorem HSub.mem : ∀ {A H : HL}, HSub A H → ∀ p ∈ A, p ∈ H
  | _ :: _, _, ⟨h, _⟩, _, .head _ => h
  | _ :: _, _, ⟨_, h⟩, _, .tail _ hp => HSub.mem h _ hp
theorem HSub.n {H : HL} : HSub [] H := trivial
theorem HSub.c {p : Nat × Obj} {r H : HL} (i : Nat) (h : H[i]? = some p) (t : HSub r H) : HSub (p :: r) H := ⟨List.mem_of_getElem? h, t⟩
def CSub : CL → HL → Prop
  | [], _ => True
  | c :: r, H => (∃ cs t fr, (c.1, Obj.cells (List.toArray cs) t fr) ∈ H ∧ cs[c.2.1]? = some c.2.2) ∧ CSub r H
theorem CSub.n {H : HL} : CSub [] H := trivial
theorem CSub.cell : ∀ {Z : CL} {H : HL} {w : World}, CSub Z H → (∀ p ∈ H, w.heap[p.1]? = some p.2) → ∀ c ∈ Z, w.cell? ⟨c.1, c.2.1, none⟩ = some c.2.2
  | _ :: _, _, _, ⟨⟨_, _, _, h1, h2⟩, _⟩, hw, _, .head _ => cell_of_heap (hw _ h1) h2
  | _ :: _, _, _, ⟨_, h⟩, hw, _, .tail _ hc => CSub.cell h hw _ hc
def waits (ops : Array Oper) (i : Nat) : Nat → Nat → Bool
  | 0, _ => false
  | f + 1, j => match ops[j]? with
    | none => false
    | some o => o.after.any (fun e => Region.binds .any e && (e.on == i || waits ops i f e.on))
def Closed (ops : Array Oper) (listed : Array Bool) : Prop := ∀ j o, ops[j]? = some o → listed.getD j false = true → ∀ e ∈ o.after, Region.binds .any e = true → listed.getD e.on false = true
def closedB (ops : Array Oper) (listed : Array Bool) : Bool := (List.range ops.size).all fun j => !(listed.getD j false) || (match ops[j]? with
  | none => true
  | some o => o.after.all fun e => !(Region.binds .any e) || listed.getD e.on false)
theorem Closed.of {ops : Array Oper} {listed : Array Bool} (h : closedB ops listed = true) : Closed ops listed := by
  intro j o ho hj e he hb
  have hlt : j < ops.size := (Array.getElem?_eq_some_iff.1 ho).1
  have h1 := List.all_eq_true.1 h j (List.mem_range.2 hlt)
  rw [hj, ho] at h1
  simp only [Bool.not_true, Bool.false_or] at h1
  have h2 := Array.all_eq_true'.1 h1 e he
  rw [hb] at h2
  simpa using h2
theorem Closed.set {ops : Array Oper} {listed : Array Bool} {j : Nat} {oj : Oper} (h : Closed ops listed) (hj : ops[j]? = some oj) (hall : ∀ e ∈ oj.after, Region.binds .any e = true → listed.getD e.on false = true) : Closed ops (listed.setIfInBounds j true) := by
  intro k o ho hk e he hb
  by_cases hjk : j = k
  · subst hjk
    rw [hj] at ho; cases ho
    exact getD_set_true (hall e he hb)
  rw [getD_set_ne false hjk] at hk
  exact getD_set_true (h k o ho hk e he hb)
theorem waits_not {ops : Array Oper} {listed : Array Bool} {i : Nat} (hc : Closed ops listed) (hi : listed.getD i false = false) : ∀ (f j : Nat) (o : Oper), ops[j]? = some o → waits ops i f j = true → ∃ e ∈ o.after, Region.binds .any e = true ∧ listed.getD e.on false = false
  | 0, _, _, _, h => by cases h
  | f + 1, j, o, ho, h => by
    simp only [waits, ho] at h
    obtain ⟨e, he, hb⟩ := Array.any_eq_true'.1 h
    rw [Bool.and_eq_true, Bool.or_eq_true, beq_iff_eq] at hb
    refine ⟨e, he, hb.1, ?_⟩
    rcases hb.2 with h1 | h1
    · rw [h1]; exact hi
    cases hl : listed.getD e.on false with
    | false => rfl
    | true =>
      cases ho2 : ops[e.on]? with
      | none => cases f <;> simp [waits, ho2] at h1
      | some o2 =>
        obtain ⟨e2, he2, hb2, hn⟩ := waits_not hc hi f e.on o2 ho2 h1
        rw [hc e.on o2 ho2 hl e2 he2 hb2] at hn; cases hn
def zok (ops : Array Oper) (listed : Array Bool) (z i : Nat) : Bool := match ops[z]? with
  | none => true
  | some _ => closedB ops listed && (i != z && waits ops i ops.size z)
def wpAnyZ (P : Program) (ops : Array Oper) (Q : Qt) (S : World → Prop) (z : Nat) : Nat → Array Bool → Act → World → Prop
  | 0, listed, a, w => Region.ready .any ops listed = [] ∧ Q .normal a w
  | fuel + 1, listed, a, w => (Region.ready .any ops listed = [] → Q .normal a w) ∧
    ∀ i ∈ Region.ready .any ops listed, wpOp P ops Q i (fun a' w' => (i ≠ z → S w') ∧ wpAnyZ P ops Q S z fuel (listed.setIfInBounds i true) a' w') a w
theorem wpAny_of_Z {P : Program} {ops : Array Oper} {Q : Qt} {S : World → Prop} {z : Nat} : ∀ (fuel : Nat) (listed : Array Bool) (a : Act) (w : World), wpAnyZ P ops Q S z fuel listed a w → wpAny P .any ops Q fuel listed a w
  | 0, _, _, _, h => h
  | fuel + 1, _, _, _, h => ⟨h.1, fun i hi => wpOp_mono (fun a' w' h' => wpAny_of_Z fuel _ a' w' h'.2) (h.2 i hi)⟩
theorem wait_unlisted {listed : Array Bool} {i : Nat} {oj : Oper} (hr : listed.getD i true = false) (hall : ∀ e ∈ oj.after, Region.binds .any e = true → listed.getD e.on false = true) : ∀ e ∈ oj.after, Region.binds .any e = true → e.on ≠ i := fun e he hb heq => by
  have h1 := hall e he hb
  rw [heq] at h1
  rcases Nat.lt_or_ge i listed.size with h' | h'
  · simp [h'] at hr h1; rw [hr] at h1; cases h1
  simp [Array.getElem?_eq_none h'] at h1
theorem wpAnyZ_first {P : Program} {ops : Array Oper} {Q : Qt} {S : World → Prop} {z i : Nat} {oi : Oper} {v : Value} (hz : ∀ oz, ops[z]? = some oz → i ≠ z ∧ waits ops i ops.size z = true) (hi : ops[i]? = some oi) (hsel : ∀ (j : Nat) (o : Oper) cs b, ops[j]? = some o → o.op ≠ .select cs b)
    (hQ : ∀ c a w, Q (.panic c) (a.put oi.dst v) w → Q (.panic c) a w) : ∀ (fuel : Nat) (listed : Array Bool) (a : Act) (w : World),
      (∀ j oj, ops[j]? = some oj → j ≠ i → listed.getD j true = false → (∀ e ∈ oj.after, Region.binds .any e = true → e.on ≠ i) → oi.apart ops oj = true) →
      (∀ oz, ops[z]? = some oz → Closed ops listed) → i ∈ Region.ready .any ops listed → YieldsIf P ops S oi v a → S w →
      wpAnyZ P ops Q S z fuel (listed.setIfInBounds i true) (a.put oi.dst v) w → wpAnyZ P ops Q S z (fuel + 1) listed a w := by
  intro fuel
  induction fuel with
  | zero =>
    intro listed a w _ _ hr hy hS H
    refine ⟨fun h => (by rw [h] at hr; cases hr), fun j hj => ?_⟩
    by_cases hji : j = i
    · subst hji; exact hy.wpOp hi hS ⟨fun _ => hS, H⟩
    have := ready_mono hj hji
    rw [H.1] at this
    cases this
  | succ fuel ih =>
    intro listed a w hfree hcl hr hy hS H
    refine ⟨fun h => (by rw [h] at hr; cases hr), fun j hj => ?_⟩
    by_cases hji : j = i
    · subst hji; exact hy.wpOp hi hS ⟨fun _ => hS, H⟩
    have h1 := H.2 j (ready_mono hj hji)
    obtain ⟨hjun, oj, hoj, hall⟩ := mem_ready.1 hj
    have hnot := wait_unlisted (i := i) (mem_ready.1 hr).1 hall
    have hi0 : listed.getD i false = false := by
      have h0 := (mem_ready.1 hr).1
      rcases Nat.lt_or_ge i listed.size with h' | h'
      · simp [h'] at h0 ⊢; exact h0
      simp [Array.getElem?_eq_none h']
    have hjz : j ≠ z := fun he => by
      subst he
      obtain ⟨e, he, hb, hn⟩ := waits_not (hcl oj hoj) hi0 _ j oj hoj (hz oj hoj).2
      rw [hall e he hb] at hn; cases hn
    have h2 := wpOp_putIf hoj (hfree j oj hoj hji hjun hnot) (fun cs b => hsel i oi cs b hi) (fun cs b => hsel j oj cs b hoj) hQ hy h1
    have hfree' : ∀ k ok, ops[k]? = some ok → k ≠ i → (listed.setIfInBounds j true).getD k true = false →
        (∀ e ∈ ok.after, Region.binds .any e = true → e.on ≠ i) → oi.apart ops ok = true := fun k ok hk hki hun hno => by
      refine hfree k ok hk hki ?_ hno
      by_cases hjk : j = k
      · subst hjk; exact hjun
      rw [getD_set_ne true hjk] at hun; exact hun
    refine wpOp_mono (fun a' w' h3 => ⟨fun _ => h3.2.1 hjz, ih (listed.setIfInBounds j true) a' w' hfree' (fun oz hoz => (hcl oz hoz).set hoj hall) (ready_mono hr (Ne.symm hji)) h3.1 (h3.2.1 hjz) ?_⟩) h2
    rw [Array.setIfInBounds_comm _ _ hji]
    exact h3.2.2
theorem wpAnyZ_take {P : Program} {ops : Array Oper} {Q : Qt} {S : World → Prop} {z i : Nat} {oi : Oper} {v : Value} {fuel : Nat} {listed : Array Bool} {a : Act} {w : World} (hz : zok ops listed z i = true) (hi : ops[i]? = some oi)
    (hs : Region.noSelect ops = true) (hf : Region.free .any ops listed i = true) (hr : (Region.ready .any ops listed).contains i = true)
    (hQ : ∀ c a w, Q (.panic c) (a.put oi.dst v) w → Q (.panic c) a w) (hy : YieldsIf P ops S oi v a) (hS : S w)
    (h : wpAnyZ P ops Q S z fuel (listed.setIfInBounds i true) (a.put oi.dst v) w) : wpAnyZ P ops Q S z (fuel + 1) listed a w :=
  wpAnyZ_first (fun oz ho => by
    simp only [zok, ho, Bool.and_eq_true, bne_iff_ne] at hz
    exact hz.2) hi (Region.noSelect_spec hs) hQ fuel listed a w (Region.free_spec hi hf) (fun oz ho => by
    simp only [zok, ho, Bool.and_eq_true] at hz
    exact Closed.of hz.1) (by simpa using hr) hy hS h
theorem wpAnyZ_all {P : Program} {ops : Array Oper} {Q : Qt} {S : World → Prop} {z : Nat} {rs : List Nat} {fuel : Nat} {listed : Array Bool} {a : Act} {w : World} (hr : Region.ready .any ops listed = rs) (hne : rs ≠ [])
    (h : ∀ i ∈ rs, wpOp P ops Q i (fun a' w' => (i ≠ z → S w') ∧ wpAnyZ P ops Q S z fuel (listed.setIfInBounds i true) a' w') a w) : wpAnyZ P ops Q S z (fuel + 1) listed a w :=
  ⟨fun h0 => absurd (hr ▸ h0) hne, hr ▸ h⟩
theorem wpAnyZ_done {P : Program} {ops : Array Oper} {Q : Qt} {S : World → Prop} {z : Nat} {listed : Array Bool} {a : Act} {w : World} (hr : Region.ready .any ops listed = []) (h : Q .normal a w) : ∀ fuel, wpAnyZ P ops Q S z fuel listed a w
  | 0 => ⟨hr, h⟩
  | _ + 1 => ⟨fun _ => h, by rw [hr]; simp⟩
def JA (cx : Cx) (Q : Qt) (l : List Oper) (I1 : Heap) (A : HL) (Z : CL) (z : Nat) (fuel : Nat) (listed : Array Bool) (e : Env) (I : Heap) (H : HL) : Prop :=
  ∀ a w, Has a cx.n e cx.ds → St cx.w0 cx.D cx.I0 I H w → wpAnyZ cx.P l.toArray Q (SC I1 A Z) z fuel listed a w
section
variable {cx : Cx} {Q : Qt} {e : Env} {I I1 : Heap} {H A : HL} {Z : CL} {z : Nat} {l : List Oper}
def noDefer (ops : Array Oper) : Bool := ops.toList.all fun o => match o.op with
  | .defer _ => false
  | _ => true
theorem noDefer_at {ops : Array Oper} (h : noDefer ops = true) {i : Nat} {o : Oper} (ho : ops[i]? = some o) : ∀ c, o.op ≠ .defer c := by
  intro c hc
  have := List.all_eq_true.1 h o (by have := Array.mem_of_getElem? ho; simpa using this)
  simp [hc] at this
theorem fence_any {rd : Option Nat} {P : Program} {md : Region.Mode} {ops : Array Oper} {Q : Qt} (hd : noDefer ops = true) (hq : ¬ LetsOut Q) : ∀ (fuel : Nat) (listed : Array Bool) (a : Act) (w : World), wpAny P md ops Q fuel listed a w → wpAnyIn { Fence.wide with round := rd } 0 P md ops Q fuel listed a w
  | 0, _, _, _, h => h
  | fuel + 1, listed, a, w, h => ⟨h.1, fun i hi => by
    have h2 := h.2 i hi
    unfold wpOp at h2
    unfold wpOpIn
    cases ho : ops[i]? with
    | none => simp only [ho] at h2 ⊢; exact fence_any hd hq fuel _ _ _ h2
    | some o =>
      simp only [ho] at h2 ⊢
      split
      · rename_i hw
        rw [if_pos hw] at h2
        have hd' : rd = none ∨ ∀ c, o.op ≠ .defer c := .inr (noDefer_at hd ho)
        rcases h2 with h2 | ⟨_, h2⟩
        · exact Oper.wpIn_mono (fun a' w' h3 => fence_any hd hq fuel _ a' w' h3) (fence_wp hd' h2)
        exact (hq h2).elim
      rename_i hw
      rw [if_neg hw] at h2
      exact ⟨fun _ _ => trivial, fence_any hd hq fuel _ _ _ h2⟩⟩
theorem Cj.draw {id : Nat} (A : HL) (Z : CL) (z : Nat) (hm : cx.P.follows .mixedOrders = true) (h : JA cx Q l I A Z z l.toArray.size (Array.replicate l.toArray.size false) e I H) (hnd : cx.rd = none ∨ (noDefer l.toArray = true ∧ ¬ LetsOut Q) := by first | exact .inl rfl | exact .inr ⟨rfl, fun h => h.elim fun _ h => h.elim fun _ h => h⟩) : Cj cx Q (.region id l.toArray true) e I H :=
  hnd.elim (fun hr => Cj.of_wp hr fun a _w ha hs => wp_region_any hm (wpAny_of_Z _ _ _ _ (h a _ ha hs.drew))) fun hd => fun a _w ha hs => wpIn_region_any hm (fence_any hd.1 hd.2 _ _ _ _ (wpAny_of_Z _ _ _ _ (h a _ ha hs.drew)))
theorem Cj.drawSel {id : Nat} (is : List Nat) (Z : CL) (z : Nat) (hm : cx.P.follows .mixedOrders = true) (h : JA cx Q l I (sel is H) Z z l.toArray.size (Array.replicate l.toArray.size false) e I H) (hnd : cx.rd = none ∨ (noDefer l.toArray = true ∧ ¬ LetsOut Q) := by first | exact .inl rfl | exact .inr ⟨rfl, fun h => h.elim fun _ h => h.elim fun _ h => h⟩) : Cj cx Q (.region id l.toArray true) e I H := Cj.draw _ _ z hm h hnd
theorem JA.pull {H' : HL} {p : Nat × Obj} {fuel : Nat} {listed : Array Bool} (h : Pull H p H') (k : JA cx Q l I1 A Z z fuel listed e I (p :: H')) : JA cx Q l I1 A Z z fuel listed e I H := fun a w ha h1 => k a w ha (h1.perm h)
theorem JA.done {fuel : Nat} {listed : Array Bool} (hr : Region.ready .any l.toArray listed = []) (h : Ej cx Q .normal e I H) : JA cx Q l I1 A Z z fuel listed e I H :=
  fun a w ha hs => wpAnyZ_done hr (h a w ha hs) fuel
theorem JA.take {fuel : Nat} {listed : Array Bool} (i : Nat) {o : Oper} {d : Nat} {v : Value} (hz : zok l.toArray listed z i = true) (hi : l.toArray[i]? = some o) (hs : Region.noSelect l.toArray = true) (hf : Region.free .any l.toArray listed i = true)
    (hr : (Region.ready .any l.toArray listed).contains i = true) (hq : ∀ c a w, Q (.panic c) (a.put (some d) v) w → Q (.panic c) a w) (hg : o.guard = none) (hd : o.dst = some d) (hn : Nat.blt d cx.n = true) (hA : HSub A H) (hZ : CSub Z H) (hle : Le I1 I)
    (hy : Yld cx o e (SC I1 A Z) v) (k : JA cx Q l I1 A Z z fuel (listed.setIfInBounds i true) ((d, v) :: e) I H) : JA cx Q l I1 A Z z (fuel + 1) listed e I H := by
  intro a w ha hst
  have hss : SC I1 A Z w := ⟨⟨fun b o h => hst.sub b o (hle b o h), fun p hp => hst.own p (hA.mem p hp)⟩, hZ.cell hst.own⟩
  refine wpAnyZ_take (oi := o) hz (v := v) hi hs hf hr (by rw [hd]; exact hq) (.inl ⟨by simp [Region.wanted, hg], fun w' hs' => hy a w' ha hs'⟩) hss ?_
  rw [hd]
  exact k _ _ (ha.put hn) hst
def JFix (I1 : Heap) (A : HL) (Z : CL) (I : Heap) (H : HL) : Prop := HSub A H ∧ CSub Z H ∧ Le I1 I
theorem JA.fix {fuel : Nat} {listed : Array Bool} (h : JFix I1 A Z I H) (k : JFix I1 A Z I H → JA cx Q l I1 A Z z fuel listed e I H) : JA cx Q l I1 A Z z fuel listed e I H := k h
theorem JA.tk {fuel : Nat} {listed : Array Bool} (i : Nat) {o : Oper} {d : Nat} {v : Value} (hi : l.toArray[i]? = some o) (hx : JFix I1 A Z I H) (hy : Yld cx o e (SC I1 A Z) v) (k : JA cx Q l I1 A Z z fuel (listed.setIfInBounds i true) ((d, v) :: e) I H)
    (hd : o.dst = some d := by rfl) (hg : o.guard = none := by rfl) (hn : Nat.blt d cx.n = true := by rfl) (hz : zok l.toArray listed z i = true := by first | rfl | kernel_rfl) (hs : Region.noSelect l.toArray = true := by kernel_rfl) (hf : Region.free .any l.toArray listed i = true := by kernel_rfl)
    (hr : (Region.ready .any l.toArray listed).contains i = true := by kernel_rfl) (hq : ∀ c a w, Q (.panic c) (a.put (some d) v) w → Q (.panic c) a w := by exact fun _ _ _ h => h) : JA cx Q l I1 A Z z (fuel + 1) listed e I H :=
  JA.take i hz hi hs hf hr hq hg hd hn hx.1 hx.2.1 hx.2.2 hy k
theorem JA.step {fuel : Nat} {listed : Array Bool} (i : Nat) {o : Oper} (hr : Region.ready .any l.toArray listed = [i]) (hi : l.toArray[i]? = some o) (hg : o.guard = none)
    (k : OpJ cx Q o e I H (fun e' I' H' => (Le I1 I' ∧ HSub A H' ∧ CSub Z H') ∧ JA cx Q l I1 A Z z fuel (listed.setIfInBounds i true) e' I' H')) : JA cx Q l I1 A Z z (fuel + 1) listed e I H := by
  intro a w ha hst
  refine wpAnyZ_all hr (by simp) fun j hj => ?_
  obtain rfl : j = i := by simpa using hj
  unfold wpOp
  simp only [hi]
  rw [if_pos (by simp [Region.wanted, hg])]
  refine .inl (k _ (fun e' I' H' ⟨⟨hle, hA, hZ⟩, hj⟩ a' w' ha' hs' => ⟨fun _ => ⟨⟨fun b o h => hs'.sub b o (hle b o h), fun p hp => hs'.own p (hA.mem p hp)⟩, hZ.cell hs'.own⟩, hj a' w' ha' hs'⟩) a w ha hst)
end
end Go.SxD
namespace Go.SxD
open Go
section
variable {cx : Cx} {Q : Qt} {o : Oper} {e : Env} {I : Heap} {H : HL} {C : Ct} {S : World → Prop}
theorem yl_lssStr {x y : Operand} {T U : Nat} {l m : List UInt8} (ho : o.op = .binOp .lss T x y U) (hx : ev e x = some (str l)) (hy : ev e y = some (str m)) : Yld cx o e S (.bool (decide (l < m))) := by
  intro a w ha _
  have h := Go.Proofs.bytesLess_eq l m
  simp [execOp, ho, ha.eval hx, ha.eval hy, str, eqGuard_at_string, binOp, Op.stringOp, h]
theorem yl_gtrStr {x y : Operand} {T U : Nat} {l m : List UInt8} (ho : o.op = .binOp .gtr T x y U) (hx : ev e x = some (str l)) (hy : ev e y = some (str m)) : Yld cx o e S (.bool (!(decide (l < m) || l == m))) := by
  intro a w ha _
  have h := Go.Proofs.bytesLess_eq l m
  simp [execOp, ho, ha.eval hx, ha.eval hy, str, eqGuard_at_string, binOp, Op.stringOp, h]
end
theorem Ctr.same {P : Program} {f : FuncId} {args : List Value} {I : Heap} {H : HL} {v : Value} (he : Enters P f) (h : ∀ w, Ready I H w → Calls P f args.toArray w fun e w' => e = .returned v ∧ w' = w) : Ctr P f args I H (fun e I' H' => e = .returned v ∧ I' = I ∧ H' = H) :=
  ⟨he, fun w hw => (h w hw).mono fun _e w' ⟨h1, h2⟩ => ⟨I, H, by subst h2; exact St.start w' I H hw.1 hw.2.1 hw.2.2.1 hw.2.2.2, h1, rfl, rfl⟩⟩
theorem Ctr.grows {P : Program} {f : FuncId} {args : List Value} {v : Value} {post : Ending → Heap → HL → Prop} (h : Ctr P f args (fun _ => none) [] post) (hp : ∀ e I' H', post e I' H' → e = .returned v) (w : World) : Calls P f args.toArray w fun e w' => e = .returned v ∧ ∃ q os', w' = Sort.grow (w.drewN q) os' :=
  have hr : Ready (fun _ => none) [] w := by
    unfold Ready
    exact ⟨(fun b o hb => by cases hb), (fun p hp => by cases hp), List.Pairwise.nil, (fun p hp => by cases hp)⟩
  (h.2 w hr).mono fun e w' ⟨I', H', hs, hq⟩ => ⟨hp e I' H' hq, w'.drawn - w.drawn, w'.heap.extract w.heap.size w'.heap.size, by
    have hh : w'.heap = w.heap ++ w'.heap.extract w.heap.size w'.heap.size := by
      apply Array.ext_getElem?
      intro i
      rw [Array.getElem?_append]
      split
      · rename_i hi; exact hs.frm i hi (by simp)
      rename_i hi
      rw [Array.getElem?_extract]
      split
      · congr 1; omega
      rw [Array.getElem?_eq_none (by omega)]
    have h1 := hs.os
    have h2 := hs.tape
    have h3 := hs.output
    have h4 := hs.drw
    have h5 : w.drawn + (w'.drawn - w.drawn) = w'.drawn := by omega
    unfold Sort.grow World.drewN
    rw [h5]
    cases w'
    cases w
    simp only at h1 h2 h3 hh ⊢
    subst h1 h2 h3
    rw [← hh]⟩
end Go.SxD
end
