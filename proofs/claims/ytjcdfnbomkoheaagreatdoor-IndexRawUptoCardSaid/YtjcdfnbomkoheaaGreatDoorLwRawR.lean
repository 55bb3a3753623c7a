/-
  The law IndexRaw. Own text, printed by a program. Conditions: none.
-/
import Derived.Test.YtjcdfnbomkoheaaGreatDoorNmR
import Derived.Test.YtjcdfnbomkoheaaGreatDoorPR17
set_option maxRecDepth 100000
set_option maxHeartbeats 4000000
namespace Go.Proofs.YtjcdfnbomkoheaaGreatDoor
open _root_.Go.Proofs.Tryz
open Go Go.Sx
def raw5 (t0 t1 t2 t3 : List UInt8) : List Ke.Sub := [⟨97, t0⟩, ⟨97, t1⟩, ⟨98, t2⟩, ⟨99, t3⟩, ⟨120, t0⟩]
def RawOk (I : Heap) (es : List Ent) : Prop := (∀ e ∈ es, RecS I e.fs e.v) ∧ ∀ e ∈ es, EOK e.fs
theorem RawOk.mono {I I' : Heap} {es : List Ent} (h : RawOk I es) (hle : Le I I') : RawOk I' es := ⟨fun e he => (h.1 e he).mono hle, h.2⟩
theorem RawOk.nil {I : Heap} : RawOk I [] := ⟨fun _ h => (by cases h), fun _ h => (by cases h)⟩
theorem RawOk.add {I : Heap} {es : List Ent} {e : Ent} (h : RawOk I es) (h1 : RecS I e.fs e.v) (h2 : EOK e.fs) : RawOk I (es ++ [e]) :=
  ⟨fun x hx => (List.mem_append.1 hx).elim (h.1 x) (fun g => by rw [List.mem_singleton.1 g]; exact h1), fun x hx => (List.mem_append.1 hx).elim (h.2 x) (fun g => by rw [List.mem_singleton.1 g]; exact h2)⟩
theorem raw_eok {tag ind t0 t1 t2 t3 : List UInt8} {w : Value} (hi : ind.length ≤ 1100000) (h : t0.length + t1.length + t2.length + t3.length ≤ 1100000) : EOK [⟨tag, ind, [], w, raw5 t0 t1 t2 t3⟩] := by
  refine ⟨by simp, fun f hf => ?_⟩
  rw [List.mem_singleton.1 hf]
  refine ⟨by simp [raw5], ?_, by dsimp only; omega⟩
  simp only [raw5, textsLen, List.map_cons, List.map_nil, List.sum_cons, List.sum_nil]
  omega
theorem row_part {α : Type} {f : α → List Value} {n : Nat} (hf : ∀ x, (f x).length = n) {cs sp : List Value} {o : Nat} {l : List α} (h : cs.drop o = l.flatMap f ++ sp) {k : Nat} {x : α} (hx : l[k]? = some x) (j m : Nat) (hj : j + m ≤ n) : (cs.drop (o + k * n + j)).take m = ((f x).drop j).take m := by
  have h1 := row_from hf h hx
  rw [← h1, List.drop_take, List.drop_drop, List.take_take, Nat.min_eq_left (by omega)]
theorem IndexRaw_ok (f0 f1 t0 t1 t2 t3 a0 a1 : List UInt8) (_hf0 : f0.length ≤ 1100000) (hfl : f1.length ≤ 1100000) (htl : t0.length + t1.length + t2.length + t3.length ≤ 1100000) (hal : a0.length + a1.length ≤ 1100000) (I : Heap) : Pure Tryz.prog 3 [.agg #[str f0, str f1], .agg #[str t0, str t1, str t2, str t3], .agg #[str a0, str a1]] I (.bool true) := by
 refine Ctr.toPure ?_
 refine Ctr.ob func3 ?_
 intro w0 hw0
 refine Cj.sr (J.op rfl (q26 ?_))
 intro b1 hb1
 refine J.op rfl (q26 ?_)
 intro b2 hb2
 refine J.op rfl (q26 ?_)
 intro b3 hb3
 refine J.z q1 ?_
 refine J.nss (Cj.pull (Pull.s (Pull.s Pull.z)) ?_)
 refine Cj.persist hb1 (fun I5 hle4 hb1i => ?_)
 refine Cj.pull (Pull.s Pull.z) ?_
 refine Cj.persist hb2 (fun I7 hle6 hb2i => ?_)
 have hb1i := hle6 _ _ hb1i
 refine Cj.persist hb3 (fun I9 hle8 hb3i => ?_)
 have hb1i := hle8 _ _ hb1i
 have hb2i := hle8 _ _ hb2i
 refine Cj.region (J.op rfl (op_pure rfl rfl rfl rfl rfl (sanity_ok _) ?_))
 refine J.z q1 ?_
 refine J.nssr (J.z (yl_buildS (pl := #[(0, 1), (1, 1)]) rfl rfl tZ26 rfl tU26 (fun w => by simp []) (LBld.part rfl rfl rfl (LSpl.c LSpl.z) (LBld.part rfl rfl rfl (LSpl.s (LSpl.c LSpl.z)) LBld.none))) ?_)
 refine J.op rfl (op_alloc rfl rfl rfl tZ26 rfl ?_)
 intro b10 hb10
 refine J.op rfl (q24 0 tS26 (LSpl.c (LSpl.c LSpl.z)) LSet.z ?_)
 refine J.nss (Cj.persist hb10 (fun I12 hle11 hb10i => ?_))
 have hb1i := hle11 _ _ hb1i
 have hb2i := hle11 _ _ hb2i
 have hb3i := hle11 _ _ hb3i
 refine Cj.region (J.z q1 ?_)
 refine J.nsss (Cj.region (J.z (q32 (off' := 0) tU22 tS9) ?_))
 refine J.z (q10 tA9 (Blk.imm hb1i)) ?_
 refine J.op rfl (op_buildSlice rfl rfl rfl tU28 tS9 tZ9 rfl rfl rfl rfl (LCat.one rfl (LCat.one rfl (LCat.one rfl (LCat.one rfl (LCat.one rfl LCat.none))))) ?_)
 intro b13 hb13
 refine J.z (q14 tU28) ?_
 refine J.z q0 ?_
 refine J.ns (Cj.persist hb13 (fun I15 hle14 hb13i => ?_))
 have hb1i := hle14 _ _ hb1i
 have hb2i := hle14 _ _ hb2i
 have hb3i := hle14 _ _ hb3i
 have hb10i := hle14 _ _ hb10i
 have htb : I15 b13 = some (cel 9 ([f0, [50, 52, 53], [48, 50, 48], [50, 54, 48], [54, 53, 48]].map str ++ [])) := hb13i
 refine Cj.block (Cj.loop (ι := Nat × Heap × List Ent × Gs) (fun y => y.1 ≤ 5 ∧ Le I15 y.2.1 ∧ RawOk y.2.1 y.2.2.1 ∧ y.2.2.1.length = y.1 ∧ gOk w0.heap.size 5 y.1 (y.2.2.1.flatMap entC) y.2.2.2) (fun y => 5 - y.1) (fun y => [(3, ptr b1 0), (4, ptr b2 0), (5, ptr b3 0), (7, .bool true), (8, ptr b10 0), (9, gV y.1 y.2.2.2), (22, .slice (some ⟨b13, 0, none⟩) 5 5), (23, i64 5), (24, i64 (y.1 : Int))]) (fun y => y.2.1) (fun y => gH 37 (y.2.2.1.flatMap entC) y.2.2.2) (0, _, [], none) ⟨Nat.zero_le _, Le.refl _, RawOk.nil, rfl, rfl, rfl⟩ ⟨rfl, rfl, rfl, rfl, rfl, rfl, rfl, rfl, rfl, trivial⟩ rfl rfl ?_)
 rintro ⟨k, J1, es, g⟩ ⟨hk, hIJ, hR, hel, hg⟩
 dsimp only at hk hIJ hR hel hg ⊢
 have hb1i := hIJ _ _ hb1i
 have hb2i := hIJ _ _ hb2i
 have hb3i := hIJ _ _ hb3i
 have hb10i := hIJ _ _ hb10i
 have htb := hIJ _ _ htb
 refine Cj.sr (J.z q16 ?_)
 refine J.nss (Cj.cond rfl (fun hc16 => ?_) (fun hc16 => ?_))
 ·
  have hc16p := odt hc16
  refine Cj.ks (Cj.seq (Cj.block (Cj.seq ?_)))
  have hkl : k < 5 := by omega
  obtain ⟨tg, htg⟩ : ∃ x, ([f0, [50, 52, 53], [48, 50, 48], [50, 54, 48], [54, 53, 48]] : List (List UInt8))[k]? = some x := ⟨_, lgg (by show k < 5; exact hkl)⟩
  refine Cj.region (J.z q0 ?_)
  refine J.z (yl_indexAddr (off' := k) rfl rfl rfl tU28 tS9 (by omega) (by omega) (by omega)) ?_
  refine J.z (yl_load rfl rfl tA9 (Blk.imm htb) (str_get htg)) ?_
  refine J.z q1 ?_
  refine J.z q1 ?_
  refine J.ns (Cj.drawSel [] [] 26 (by kernel_rfl) ?_)
  have hb1i_7 := hb1i
  have hb2i_7 := hb2i
  have hb3i_7 := hb3i
  have hb10i_7 := hb10i
  have htb_7 := htb
  refine JA.fix fx1 (fun fx17 => ?_)
  refine JA.tk 0 rfl fx17 q0 ?_
  refine JA.tk 1 rfl fx17 (q5 (off' := 0) tU26 tS3) ?_
  refine JA.tk 2 rfl fx17 (q10 tA3 (Blk.immC hb10i_7)) ?_
  refine JA.tk 3 rfl fx17 q0 ?_
  refine JA.tk 4 rfl fx17 (yl_buildS (pl := #[(0, 1), (1, 1)]) rfl rfl tZ26 rfl tU26 (fun w => by simp []) (LBld.part rfl rfl rfl (LSpl.c LSpl.z) (LBld.part rfl rfl rfl (LSpl.s (LSpl.c LSpl.z)) LBld.none))) ?_
  refine JA.tk 5 rfl fx17 q0 ?_
  refine JA.tk 6 rfl fx17 (q32 (off' := 1) tU22 tS9) ?_
  refine JA.tk 7 rfl fx17 (q10 tA9 (Blk.immC hb1i_7)) ?_
  refine JA.tk 8 rfl fx17 (q32 (off' := 0) tU23 tS9) ?_
  refine JA.tk 9 rfl fx17 (q10 tA9 (Blk.immC hb2i_7)) ?_
  refine JA.tk 10 rfl fx17 (q32 (off' := 1) tU23 tS9) ?_
  refine JA.tk 11 rfl fx17 (q10 tA9 (Blk.immC hb2i_7)) ?_
  refine JA.tk 12 rfl fx17 (q32 (off' := 2) tU23 tS9) ?_
  refine JA.tk 13 rfl fx17 (q10 tA9 (Blk.immC hb2i_7)) ?_
  refine JA.tk 14 rfl fx17 (q32 (off' := 3) tU23 tS9) ?_
  refine JA.tk 15 rfl fx17 (q10 tA9 (Blk.immC hb2i_7)) ?_
  refine JA.tk 16 rfl fx17 (q32 (off' := 0) tU23 tS9) ?_
  refine JA.tk 17 rfl fx17 (q10 tA9 (Blk.immC hb2i_7)) ?_
  refine q13 18 rfl (op_buildSlice rfl rfl rfl tU28 tS9 tZ9 rfl rfl rfl rfl (LCat.one rfl (LCat.one rfl (LCat.one rfl (LCat.one rfl (LCat.one rfl (LCat.one rfl (LCat.one rfl (LCat.one rfl (LCat.one rfl (LCat.one rfl LCat.none)))))))))) ?_)
  intro b18 hb18
  refine ⟨fx0, ?_⟩
  refine JA.persist hb18 (fun I20 hle19 hb18i => ?_)
  have hIJ := hIJ.mono hle19
  have hR := hR.mono hle19
  have hps : StrP I20 (prs (raw5 t0 t1 t2 t3)) (.slice (some ⟨b18, 0, none⟩) 10 10) := ⟨_, 10, rfl, (show 10 ≤ 10 from Nat.le_refl _), fun _ => ⟨b18, 0, _, _, _, [], rfl, hb18i, (List.append_nil _).symm⟩⟩
  refine q13 19 rfl (q37 (H1 := []) rfl rfl rfl rfl rfl (field_ok tg f1 (raw5 t0 t1 t2 t3) _ (show 5 ≤ 1000 by decide) _ hps) ?_)
  intro v21 I22 H23 hle24 hp25
  have hIJ := hIJ.mono hle24
  have hR := hR.mono hle24
  obtain ⟨w, h, hw, rfl⟩ := hp25; cases h
  obtain ⟨wp, wc, rfl⟩ := RowS.len hw
  refine ⟨⟨(Le.trans (Le.trans (Le.refl _) hle19) hle24), HSub.n, CSub.n⟩, ?_⟩
  refine q13 20 rfl (q44 tU33 tS31 tZ31 ?_)
  intro b26 hb26
  refine ⟨⟨(Le.trans (Le.trans (Le.refl _) hle19) hle24), HSub.n, CSub.n⟩, ?_⟩
  refine JA.persist hb26 (fun I28 hle27 hb26i => ?_)
  have hIJ := hIJ.mono hle27
  have hR := hR.mono hle27
  have hw := hw.mono hle27
  have hR1 : RawOk I28 (es ++ [⟨(-1, (k : Int)), 0, 0, .slice (some ⟨b26, 0, none⟩) 1 1, [(⟨tg, f1, [], .slice wp (raw5 t0 t1 t2 t3).length wc, raw5 t0 t1 t2 t3⟩ : Ke.Fld)]⟩]) := hR.add ⟨RowS.of (l := [(⟨tg, f1, [], .slice wp (raw5 t0 t1 t2 t3).length wc, raw5 t0 t1 t2 t3⟩ : Ke.Fld)]) (sp := []) (Nat.le_refl _) hb26i, fun f hf => by rw [List.mem_singleton.1 hf]; exact hw⟩ (raw_eok hfl htl)
  refine JA.fix ⟨HSub.n, CSub.n, (Le.trans (Le.trans (Le.trans (Le.refl _) hle19) hle24) hle27)⟩ (fun fx29 => ?_)
  refine JA.tk 21 rfl fx29 (yl_buildS (pl := #[(0, 1), (1, 1), (2, 1)]) rfl rfl zeroValue35 rfl tU35 (fun w => by simp [sizeOf33]) (LBld.part rfl rfl rfl (LSpl.s (LSpl.s (LSpl.c LSpl.z))) LBld.none)) ?_
  refine JA.tk 22 rfl fx29 (yl_buildS (pl := #[(0, 2), (2, 3)]) rfl rfl tZ37 rfl tU37 (fun w => by simp []) (LBld.part rfl rfl rfl (LSpl.c (LSpl.c LSpl.z)) (LBld.part rfl rfl rfl (LSpl.s (LSpl.s (LSpl.c (LSpl.c (LSpl.c LSpl.z))))) LBld.none))) ?_
  refine q13 23 rfl (q44 tU27 tS37 tZ37 ?_)
  intro b30 hb30
  refine ⟨⟨(Le.trans (Le.trans (Le.trans (Le.refl _) hle19) hle24) hle27), HSub.n, CSub.n⟩, ?_⟩
  refine q13 24 rfl (op_append (by' := 47) [_] rfl rfl rfl rfl rfl tU27 (.inr ⟨_, tU27⟩) (by kernel_rfl) tS37 tZ37 rfl hg rfl (Src.slice (Blk.at 0 rfl) rfl rfl rfl) (by omega) ?_)
  intro g31 hg31
  refine ⟨⟨(Le.trans (Le.trans (Le.trans (Le.refl _) hle19) hle24) hle27), HSub.n, CSub.n⟩, ?_⟩
  refine JA.fix ⟨HSub.n, CSub.n, (Le.trans (Le.trans (Le.trans (Le.refl _) hle19) hle24) hle27)⟩ (fun fx32 => ?_)
  refine JA.tk 25 rfl fx32 q1 ?_
  refine q12 ?_
  refine Ej.blkNormal (Ej.seq (Cj.region (J.z q7 ?_)))
  refine J.z q0 ?_
  refine J.nil (Ej.keep (Keeps.d Keeps.r) ?_)
  refine Ej.round (k + 1, _, es ++ [⟨(-1, (k : Int)), 0, 0, .slice (some ⟨b26, 0, none⟩) 1 1, [(⟨tg, f1, [], .slice wp (raw5 t0 t1 t2 t3).length wc, raw5 t0 t1 t2 t3⟩ : Ke.Fld)]⟩], g31) ⟨by dsimp only; omega, hIJ, hR1, by dsimp only; rw [List.length_append, hel]; rfl, by dsimp only; rw [flat_one]; exact hg31⟩ (by dsimp only; omega) ⟨rfl, rfl, rfl, rfl, rfl, rfl, rfl, rfl, rfl, trivial⟩ rfl (by dsimp only; rw [flat_one]; rfl)
 have hc16p := odf hc16
 refine Cj.xl (Cj.seq ?_)
 have hk5 : k = 5 := by omega
 subst hk5
 refine Cj.perm (H' := gH 37 _ g ++ []) (.of_eq (List.append_nil _)) ?_
 refine Cj.keepR entC_len (by decide) hg hel.symm (fun I8 hle8 hv => ?_)
 have hb1i := hle8 _ _ hb1i
 have hb2i := hle8 _ _ hb2i
 have hb3i := hle8 _ _ hb3i
 have hb10i := hle8 _ _ hb10i
 have htb := hle8 _ _ htb
 have hIJ := hIJ.mono hle8
 have hR := hR.mono hle8
 have hE : EntsS I8 es (gV 5 g) := ⟨hv, hR.1⟩
 have hek := hR.2
 obtain ⟨pe, ce, hee⟩ := RowS.len hE.1
 rw [hel] at hee
 rw [hee] at hE
 refine Cj.eqv 9 rfl hee ?_
 obtain ⟨es2, hes2⟩ : ∃ L, L = es.foldl eput [] := ⟨_, rfl⟩
 have hput : Ix.rputs (es.map entL) [] = es2.map entL := by rw [hes2]; exact (eputs_puts es []).symm
 have hes2l : es2.length ≤ 5 := by rw [hes2]; have h := eputs_len es []; rw [List.length_nil] at h; omega
 refine Cj.region (J.z q0 ?_)
 refine J.op rfl (q52 rfl rfl rfl rfl rfl (Build_ok (es) _ (by omega) hek _ hE) ?_)
 intro v34 I35 H36 hle37 hn33 hp38
 have hb1i := hle37 _ _ hb1i
 have hb2i := hle37 _ _ hb2i
 have hb3i := hle37 _ _ hb3i
 have hb10i := hle37 _ _ hb10i
 have htb := hle37 _ _ htb
 have hIJ := hIJ.mono hle37
 have hE := hE.mono hle37
 obtain ⟨ib, o, h, hok, rfl⟩ := hp38; cases h
 refine J.persists (ixH ib o) hn33 (fun Ip hlep hK => ?_)
 have hb1i := hlep _ _ hb1i
 have hb2i := hlep _ _ hb2i
 have hb3i := hlep _ _ hb3i
 have hb10i := hlep _ _ hb10i
 have htb := hlep _ _ htb
 have hIJ := hIJ.mono hlep
 have hE := hE.mono hlep
 have hx : IxP Ip ib (Ix.rputs ((es).map entL) []) := ⟨o, hok.mono hlep, hK⟩
 clear hok hK
 rw [hput] at hx
 refine J.z q0 ?_
 refine J.op rfl (q52 rfl rfl rfl rfl rfl (rBuild_ok (es) _ (by omega) _ hE) ?_)
 intro v40 I41 H42 hle43 hn39 hp44
 have hb1i := hle43 _ _ hb1i
 have hb2i := hle43 _ _ hb2i
 have hb3i := hle43 _ _ hb3i
 have hb10i := hle43 _ _ hb10i
 have htb := hle43 _ _ htb
 have hIJ := hIJ.mono hle43
 have hE := hE.mono hle43
 have hx := hx.mono hle43
 obtain ⟨rb, w, h, hE9, rfl⟩ := hp44; cases h
 refine J.persists [(rb, _)] hn39 (fun Iq hleq hK => ?_)
 have hb1i := hleq _ _ hb1i
 have hb2i := hleq _ _ hb2i
 have hb3i := hleq _ _ hb3i
 have hb10i := hleq _ _ hb10i
 have htb := hleq _ _ htb
 have hIJ := hIJ.mono hleq
 have hE := hE.mono hleq
 have hx := hx.mono hleq
 have hel9 := eputs_len (es) []
 rw [List.length_nil] at hel9
 have hy : RxP Iq rb ((es).foldl eput []) := RxP.of (hK (rb, _) (.head _)) (hE9.mono hleq) (by omega) (fun e he => (eputs_mem he).elim (hek e) (fun g => by cases g)) (by rw [eputs_puts]; exact Ix.rputs_srt _ List.Pairwise.nil)
 clear hE9 hK
 rw [← hes2] at hy
 refine J.z q1 ?_
 refine J.z q1 ?_
 refine J.nsss (Cj.drawSel [] [] 7 (by kernel_rfl) ?_)
 have hb1i_10 := hb1i
 have hb2i_10 := hb2i
 have hb3i_10 := hb3i
 have hb10i_10 := hb10i
 have htb_10 := htb
 refine JA.fix fx1 (fun fx45 => ?_)
 refine JA.tk 1 rfl fx45 (q32 (off' := 0) tU22 tS9) ?_
 refine JA.tk 2 rfl fx45 (q10 tA9 (Blk.immC hb1i_10)) ?_
 refine JA.tk 6 rfl fx45 q0 ?_
 refine JA.all [0, 3] (by kernel_rfl) (by simp) ?_
 intro i hi
 simp only [List.mem_cons, List.not_mem_nil, or_false] at hi
 rcases hi with rfl | rfl
 ·
  refine ⟨_, rfl, rfl, ?_⟩
  refine q39 rfl rfl rfl rfl rfl (Names_ok _) ?_
  intro v47 I48 H49 hle50 hn46 hp51
  have hb1i := hle50 _ _ hb1i
  have hb2i := hle50 _ _ hb2i
  have hb3i := hle50 _ _ hb3i
  have hb10i := hle50 _ _ hb10i
  have htb := hle50 _ _ htb
  have hIJ := hIJ.mono hle50
  have hE := hE.mono hle50
  have hx := hx.mono hle50
  have hy := hy.mono hle50
  obtain ⟨nb, h, rfl⟩ := hp51; cases h
  have hnb := hn46 _ (.head _)
  refine ⟨⟨(Le.trans (Le.refl _) hle50), HSub.n, CSub.n⟩, ?_⟩
  refine q13 3 rfl (q23 tU28 tS9 tZ9 ?_)
  intro b52 hb52
  refine ⟨⟨(Le.trans (Le.refl _) hle50), HSub.n, CSub.n⟩, ?_⟩
  refine q13 4 rfl (op_append (by' := 15) (n := 6) (g := some (nb, 6, [])) (xs := Ix.names.map str) [_] rfl rfl rfl rfl rfl tU28 (.inr ⟨_, tU28⟩) (by kernel_rfl) tS9 tZ9 rfl ⟨hnb, rfl, rfl⟩ rfl (Src.slice (Blk.at 0 rfl) rfl rfl rfl) (by omega) ?_)
  intro g53 hg53
  refine ⟨⟨(Le.trans (Le.refl _) hle50), HSub.n, CSub.n⟩, ?_⟩
  refine JA.fix ⟨HSub.n, CSub.n, (Le.trans (Le.refl _) hle50)⟩ (fun fx54 => ?_)
  refine JA.tk 5 rfl fx54 (yl_lenG hg53 rfl rfl tU28) ?_
  refine q12 ?_
  refine Ej.seq (Cj.perm (H' := gH 9 ((Ix.names ++ [f0]).map str) g53 ++ [_]) List.perm_append_comm ?_)
  refine Cj.keepS hg53 (fun I7 hle7 hns => ?_)
  have hb1i := hle7 _ _ hb1i
  have hb2i := hle7 _ _ hb2i
  have hb3i := hle7 _ _ hb3i
  have hb10i := hle7 _ _ hb10i
  have htb := hle7 _ _ htb
  have hIJ := hIJ.mono hle7
  have hE := hE.mono hle7
  have hx := hx.mono hle7
  have hy := hy.mono hle7
  have hn := StrP.of hns
  obtain ⟨pn, cn, hne⟩ := StrP.len hn
  rw [hne] at hn
  refine Cj.eqv 63 rfl hne ?_
  refine Cj.named (fun In hIn => ?_)
  subst hIn
  refine Cj.keep (List.nil_sublist _) ?_
  refine Cj.block (Cj.loop (ι := Nat × Heap) (fun y => y.1 ≤ (Ix.names ++ [f0]).length ∧ Le In y.2) (fun y => (Ix.names ++ [f0]).length - y.1) (fun y => [(3, ptr b1 0), (4, ptr b2 0), (5, ptr b3 0), (7, .bool true), (9, .slice pe 5 ce), (12, ptr ib 0), (13, ptr rb 0), (63, .slice pn (Ix.names ++ [f0]).length cn), (64, i64 ((Ix.names ++ [f0]).length : Int)), (65, i64 (y.1 : Int))]) (fun y => y.2) (fun y => []) (0, _) ⟨Nat.zero_le _, Le.refl _⟩ ⟨rfl, rfl, rfl, rfl, rfl, rfl, rfl, rfl, rfl, rfl, trivial⟩ rfl rfl ?_)
  rintro ⟨q, J2⟩ ⟨hq, hIJ⟩
  dsimp only at hq hIJ ⊢
  have hNl : (Ix.names ++ [f0]).length = 7 := rfl
  have hx := hx.mono hIJ
  have hy := hy.mono hIJ
  have hn := hn.mono hIJ
  have hE := hE.mono hIJ
  have hb1i := hIJ _ _ hb1i
  have hb2i := hIJ _ _ hb2i
  have hb3i := hIJ _ _ hb3i
  refine Cj.sr (J.z q16 ?_)
  refine J.nss (Cj.cond rfl (fun hc55 => ?_) (fun hc55 => ?_))
  ·
   have hc55p := odt hc55
   refine Cj.ks (Cj.seq (Cj.block (Cj.seq ?_)))
   have hql : q < (Ix.names ++ [f0]).length := by omega
   obtain ⟨nm, hgn⟩ : ∃ x, (Ix.names ++ [f0])[q]? = some x := ⟨_, lgg hql⟩
   obtain ⟨p4, c4, hpe4, hc4, hp4⟩ := id hn
   cases hpe4
   obtain ⟨nbk, no, ncs, nty, nfr, nsp, rfl, hnbk, hnd⟩ := hp4 (ne_nil_of hql)
   refine Cj.region (J.z (q20 (off' := no + q) tU28 tS9) ?_)
   refine J.z (yl_load rfl rfl tA9 (Blk.imm hnbk) (str_from hnd hgn)) ?_
   refine J.z q1 ?_
   refine J.nssr (J.z (q32 (off' := 0) tU22 tS9) ?_)
   refine J.z (q10 tA9 (Blk.imm hb3i)) ?_
   refine J.z (q32 (off' := 1) tU22 tS9) ?_
   refine J.z (q10 tA9 (Blk.imm hb3i)) ?_
   refine J.z (q32 (off' := 0) tU23 tS9) ?_
   refine J.z (q10 tA9 (Blk.imm hb2i)) ?_
   refine J.z (q32 (off' := 3) tU23 tS9) ?_
   refine J.z (q10 tA9 (Blk.imm hb2i)) ?_
   refine J.op rfl (op_buildSlice rfl rfl rfl tU28 tS9 tZ9 rfl rfl rfl rfl (LCat.one rfl (LCat.one rfl (LCat.one rfl (LCat.one rfl LCat.none)))) ?_)
   intro b56 hb56
   refine J.z (q14 tU28) ?_
   refine J.z q0 ?_
   refine J.ns (Cj.persist hb56 (fun I58 hle57 hb56i => ?_))
   have hIJ := hIJ.mono hle57
   have hx := hx.mono hle57
   have hy := hy.mono hle57
   have hab : _ = some (cel 9 ([a0, a1, t0, t3].map str ++ [])) := hb56i
   refine Cj.named (fun Im hIm => ?_)
   subst hIm
   refine Cj.block (Cj.loop (ι := Nat × Heap) (fun y => y.1 ≤ 4 ∧ Le Im y.2) (fun y => 4 - y.1) (fun y => [(3, ptr b1 0), (4, ptr b2 0), (5, ptr b3 0), (7, .bool true), (9, .slice pe 5 ce), (12, ptr ib 0), (13, ptr rb 0), (15, str nm), (63, .slice (some ⟨nbk, no, none⟩) (Ix.names ++ [f0]).length cn), (64, i64 ((Ix.names ++ [f0]).length : Int)), (65, i64 (q : Int)), (77, .slice (some ⟨b56, 0, none⟩) 4 4), (78, i64 4), (79, i64 (y.1 : Int))]) (fun y => y.2) (fun y => []) (0, _) ⟨Nat.zero_le _, Le.refl _⟩ ⟨rfl, rfl, rfl, rfl, rfl, rfl, rfl, rfl, rfl, rfl, rfl, rfl, rfl, rfl, trivial⟩ rfl rfl ?_)
   rintro ⟨j, J3⟩ ⟨hj, hIJ2⟩
   dsimp only at hj hIJ2 ⊢
   have hIJ := hIJ.trans hIJ2
   have hIJ2 := hIJ2
   have hx := hx.mono hIJ2
   have hy := hy.mono hIJ2
   have hab := hIJ2 _ _ hab
   refine Cj.sr (J.z q16 ?_)
   refine J.nss (Cj.cond rfl (fun hc59 => ?_) (fun hc59 => ?_))
   ·
    have hc59p := odt hc59
    refine Cj.ks (Cj.seq (Cj.block (Cj.seq ?_)))
    have hjl : j < 4 := by omega
    obtain ⟨sx, hgs⟩ : ∃ x, ([a0, a1, t0, t3] : List (List UInt8))[j]? = some x := ⟨_, lgg (by show j < 4; exact hjl)⟩
    have hsm := lmg hgs
    have hsl : sx.length ≤ 1100000 := by simp only [List.mem_cons, List.not_mem_nil, or_false] at hsm; rcases hsm with rfl | rfl | rfl | rfl <;> omega
    have hw1 := word_small es2 nm sx
    have hw2 := phrase_small es2 nm (Ke.words sx)
    have hw3 := withK_len es2 nm (Ix.keyOf nm sx)
    refine Cj.region (J.z (yl_indexAddr (off' := j) rfl rfl rfl tU28 tS9 (by omega) (by omega) (by omega)) ?_)
    refine J.z (yl_load rfl rfl tA9 (Blk.imm hab) (str_get hgs)) ?_
    refine J.z q1 ?_
    refine J.nssr (J.z q0 ?_)
    refine J.z q0 ?_
    refine J.z q0 ?_
    refine J.op rfl (q39 rfl rfl rfl rfl rfl (Word_ok ib (es2.map entL) nm sx (by omega) _ hx) ?_)
    intro v61 I62 H63 hle64 hn60 hp65
    have hx := hx.mono hle64
    have hy := hy.mono hle64
    have hIJ2 := hIJ2.mono hle64
    obtain ⟨wa, h, hoa⟩ := hp65; cases h
    refine J.keepO hoa hn60 (fun Ia hlea hra => ?_)
    have hx := hx.mono hlea
    have hy := hy.mono hlea
    have hIJ2 := hIJ2.mono hlea
    replace hra := hra.row
    refine J.z q0 ?_
    refine J.z q0 ?_
    refine J.z q0 ?_
    refine J.op rfl (q37 (H1 := []) rfl rfl rfl rfl rfl (rWord_ok rb es2 nm sx (by omega) _ hy) ?_)
    intro v66 I67 H68 hle69 hp70
    have hx := hx.mono hle69
    have hy := hy.mono hle69
    have hIJ2 := hIJ2.mono hle69
    have hra := hra.mono hle69
    obtain ⟨vqa, h, qa, rfl⟩ := hp70; cases h
    refine J.op rfl (op_pure rfl rfl rfl rfl rfl (rRecs_ok (Ix.word (es2.map entL) nm sx) (Ix.word (es2.map entL) nm sx) _ _ (by omega) _ hra qa) ?_)
    refine J.eqv 91 rfl (show _ = .bool true from (congrArg Value.bool (decide_eq_true rfl))) ?_
    refine J.z q42 ?_
    refine J.z q0 ?_
    refine q3 10 93 false (congrArg not rfl) (q2 q0 ?_)
    refine q3 10 93 false (congrArg not rfl) (q2 q0 ?_)
    refine q3 10 93 false (congrArg not rfl) (q2 q0 ?_)
    refine J.opG 10 93 false _ rfl rfl rfl (congrArg not rfl) (q39 rfl rfl rfl rfl rfl (Phrase_ok ib (es2.map entL) nm sx (by omega) _ hx) ?_)
    intro v72 I73 H74 hle75 hn71 hp76
    have hx := hx.mono hle75
    have hy := hy.mono hle75
    have hIJ2 := hIJ2.mono hle75
    obtain ⟨wb, h, hob⟩ := hp76; cases h
    refine J.keepO hob hn71 (fun Ib hleb hrb => ?_)
    have hx := hx.mono hleb
    have hy := hy.mono hleb
    have hIJ2 := hIJ2.mono hleb
    replace hrb := hrb.row
    refine q3 10 93 false (congrArg not rfl) (q2 q0 ?_)
    refine q3 10 93 false (congrArg not rfl) (q2 q0 ?_)
    refine q3 10 93 false (congrArg not rfl) (q2 q0 ?_)
    refine J.opG 10 93 false _ rfl rfl rfl (congrArg not rfl) (q37 (H1 := []) rfl rfl rfl rfl rfl (rPhrase_ok rb es2 nm sx (by omega) _ hy) ?_)
    intro v77 I78 H79 hle80 hp81
    have hx := hx.mono hle80
    have hy := hy.mono hle80
    have hIJ2 := hIJ2.mono hle80
    have hrb := hrb.mono hle80
    obtain ⟨vqb, h, qb, rfl⟩ := hp81; cases h
    refine J.opG 10 93 false _ rfl rfl rfl (congrArg not rfl) (op_pure rfl rfl rfl rfl rfl (rRecs_ok (Ix.phrase (es2.map entL) nm (Ke.words sx)) (Ix.phrase (es2.map entL) nm (Ke.words sx)) _ _ (by omega) _ hrb qb) ?_)
    refine J.eqv 102 rfl (show _ = .bool true from (congrArg Value.bool (decide_eq_true rfl))) ?_
    refine q3 10 93 false (congrArg not rfl) (q2 q42 ?_)
    refine J.z (q9 (congrArg not rfl)) ?_
    refine J.z q0 ?_
    refine q3 22 105 false (congrArg not rfl) (q2 q0 ?_)
    refine q3 22 105 false (congrArg not rfl) (q2 q0 ?_)
    refine q3 22 105 false (congrArg not rfl) (q2 q0 ?_)
    refine J.opG 22 105 false _ rfl rfl rfl (congrArg not rfl) (q39 rfl rfl rfl rfl rfl (Key_ok ib (es2.map entL) nm sx (by omega) _ hx) ?_)
    intro v83 I84 H85 hle86 hn82 hp87
    have hx := hx.mono hle86
    have hy := hy.mono hle86
    have hIJ2 := hIJ2.mono hle86
    obtain ⟨wc, h, hoc⟩ := hp87; cases h
    refine J.keepO hoc hn82 (fun Ic hlec hrc => ?_)
    have hx := hx.mono hlec
    have hy := hy.mono hlec
    have hIJ2 := hIJ2.mono hlec
    replace hrc := hrc.row
    refine q3 22 105 false (congrArg not rfl) (q2 q0 ?_)
    refine q3 22 105 false (congrArg not rfl) (q2 q0 ?_)
    refine q3 22 105 false (congrArg not rfl) (q2 q0 ?_)
    refine J.opG 22 105 false _ rfl rfl rfl (congrArg not rfl) (q37 (H1 := []) rfl rfl rfl rfl rfl (rKey_ok rb es2 nm sx (by omega) _ hy) ?_)
    intro v88 I89 H90 hle91 hp92
    have hx := hx.mono hle91
    have hy := hy.mono hle91
    have hIJ2 := hIJ2.mono hle91
    have hrc := hrc.mono hle91
    obtain ⟨vqc, h, qc, rfl⟩ := hp92; cases h
    refine J.opG 22 105 false _ rfl rfl rfl (congrArg not rfl) (op_pure rfl rfl rfl rfl rfl (rRecs_ok (Ix.withK (es2.map entL) nm (Ix.keyOf nm sx)) (Ix.withK (es2.map entL) nm (Ix.keyOf nm sx)) _ _ (by omega) _ hrc qc) ?_)
    refine J.eqv 114 rfl (show _ = .bool true from (congrArg Value.bool (decide_eq_true rfl))) ?_
    refine q3 22 105 false (congrArg not rfl) (q2 q42 ?_)
    refine J.z (q9 (congrArg not rfl)) ?_
    refine J.z q0 ?_
    refine q3 34 117 false (congrArg not rfl) (q2 q0 ?_)
    refine q3 34 117 false (congrArg not rfl) (q2 q0 ?_)
    refine q3 34 117 false (congrArg not rfl) (q2 q0 ?_)
    refine J.opG 34 117 false _ rfl rfl rfl (congrArg not rfl) (q39 rfl rfl rfl rfl rfl (Scan_ok ib (es2.map entL) nm sx (by omega) 9 _ hx) ?_)
    intro v94 I95 H96 hle97 hn93 hp98
    have hy := hy.mono hle97
    have hIJ2 := hIJ2.mono hle97
    obtain ⟨wd, h, hod⟩ := hp98; cases h
    refine J.keepO hod hn93 (fun Id hled hrd => ?_)
    have hy := hy.mono hled
    have hIJ2 := hIJ2.mono hled
    replace hrd := hrd.row
    refine q3 34 117 false (congrArg not rfl) (q2 q0 ?_)
    refine q3 34 117 false (congrArg not rfl) (q2 q0 ?_)
    refine q3 34 117 false (congrArg not rfl) (q2 q0 ?_)
    refine J.opG 34 117 false _ rfl rfl rfl (congrArg not rfl) (q37 (H1 := []) rfl rfl rfl rfl rfl (rScan_ok rb es2 nm sx (by omega) 9 _ hy) ?_)
    intro v99 I100 H101 hle102 hp103
    have hIJ2 := hIJ2.mono hle102
    have hrd := hrd.mono hle102
    obtain ⟨vqd, h, qd, rfl⟩ := hp103; cases h
    refine J.opG 34 117 false _ rfl rfl rfl (congrArg not rfl) (op_pure rfl rfl rfl rfl rfl (rLines_ok ((Ix.scan (es2.map entL) nm sx 9).map lineI) ((Ix.scan (es2.map entL) nm sx 9).map lineI) _ _ (by have := scan_small (es2.map entL) nm sx 9; omega) _ hrd qd) ?_)
    refine J.eqv 126 rfl (show _ = .bool true from (congrArg Value.bool (decide_eq_true rfl))) ?_
    refine q3 34 117 false (congrArg not rfl) (q2 q42 ?_)
    refine J.z (q9 (congrArg not rfl)) ?_
    refine J.ns (Cj.cond rfl (fun hc104 => Bool.noConfusion (Eq.trans (Eq.symm (congrArg not rfl)) hc104)) (fun hc104 => ?_))
    refine Cj.kb (Cj.region (J.z q7 ?_))
    refine J.z q0 ?_
    refine J.nil (Ej.round (j + 1, _) ⟨by dsimp only; omega, hIJ2⟩ (by dsimp only; omega) ⟨rfl, rfl, rfl, rfl, rfl, rfl, rfl, rfl, rfl, rfl, rfl, rfl, rfl, rfl, trivial⟩ rfl rfl)
   have hc59p := odf hc59
   refine Cj.exit (Ej.seqExit (Ej.loopExit (Ej.blkExit (Ej.blkNormal (Ej.seq (Cj.region (J.z q7 ?_)))))))
   refine J.z q0 ?_
   refine J.nil (Ej.round (q + 1, _) ⟨by dsimp only; omega, hIJ⟩ (by dsimp only; omega) ⟨rfl, rfl, rfl, rfl, rfl, rfl, rfl, rfl, rfl, rfl, trivial⟩ rfl rfl)
  have hc55p := odf hc55
  refine Cj.xl (Cj.seq ?_)
  obtain ⟨e1, hge⟩ : ∃ x, es[1]? = some x := ⟨_, lgg (by omega)⟩
  obtain ⟨p5, c5, hpe5, hc5, hp5⟩ := id hE.1
  rw [hel] at hpe5
  cases hpe5
  obtain ⟨eb, eo, ecs, ety, efr, esp, rfl, heb, hed⟩ := hp5 (ne_nil_of (k := 1) (by omega))
  refine Cj.drawSel [] [] 17 (by kernel_rfl) ?_
  have hb1i_20 := hb1i
  have hb2i_20 := hb2i
  have hb3i_20 := hb3i
  have hb10i_20 := hb10i
  have htb_20 := htb
  have heb_20 := heb
  refine JA.fix fx1 (fun fx105 => ?_)
  refine JA.tk 0 rfl fx105 q0 ?_
  refine JA.tk 1 rfl fx105 q0 ?_
  refine JA.tkG 2 1 132 true _ rfl fx105 rfl rfl rfl q0 ?_
  refine JA.tkG 3 1 132 true _ rfl fx105 rfl rfl rfl q0 ?_
  refine JA.tkG 4 1 132 true _ rfl fx105 rfl rfl rfl (yl_indexAddr (off' := eo + 1 * 5) rfl rfl rfl tU27 tS37 (by decide) (by decide) (by simp)) ?_
  refine JA.tkG 5 1 132 true _ rfl fx105 rfl rfl rfl (q5 tU37 tS26) ?_
  refine JA.tkG 6 1 132 true _ rfl fx105 rfl rfl rfl (yl_loadAgg rfl rfl tA26 tS26 (Blk.immC heb_20) (row_part entC_len hed hge 0 2 (by decide)) rfl) ?_
  refine JA.tkG 8 1 132 true _ rfl fx105 rfl rfl rfl q0 ?_
  refine JA.tkG 9 1 132 true _ rfl fx105 rfl rfl rfl q0 ?_
  refine JA.tkG 10 1 132 true _ rfl fx105 rfl rfl rfl (yl_indexAddr (off' := eo + 1 * 5) rfl rfl rfl tU27 tS37 (by decide) (by decide) (by simp)) ?_
  refine JA.tkG 11 1 132 true _ rfl fx105 rfl rfl rfl (q5 tU37 tS26) ?_
  refine JA.tkG 12 1 132 true _ rfl fx105 rfl rfl rfl (yl_loadAgg rfl rfl tA26 tS26 (Blk.immC heb_20) (row_part entC_len hed hge 0 2 (by decide)) rfl) ?_
  refine JA.stepG 7 1 132 true _ (by kernel_rfl) rfl rfl rfl rfl rfl (op_pure rfl rfl rfl rfl rfl (Sort_ok' ib (es2.map entL) e1.t _ hx) ?_)
  refine ⟨fx0, ?_⟩
  refine JA.stepG 13 1 132 true _ (by kernel_rfl) rfl rfl rfl rfl rfl (op_pure rfl rfl rfl rfl rfl (Ctr.toPure (rSortT_ok rb es2 e1.t _ hy)) ?_)
  refine ⟨fx0, ?_⟩
  refine JA.fix fx1 (fun fx106 => ?_)
  refine JA.tkG 14 1 132 true _ rfl fx106 rfl rfl rfl q31 ?_
  refine JA.eqv 145 rfl (show _ = .bool true from (congrArg Value.bool (beq_self_eq_true _))) ?_
  refine JA.tk 15 rfl fx106 (yl_pick1 rfl rfl rfl rfl) ?_
  refine JA.tk 16 rfl fx106 q1 ?_
  refine q12 ?_
  refine Ej.seq (Cj.ret (q6 ?_))
  exact ⟨rfl, rfl⟩
 refine ⟨_, rfl, rfl, ?_⟩
 refine q23 tU28 tS9 tZ9 ?_
 intro b107 hb107
 refine ⟨fx0, ?_⟩
 refine q13 0 rfl (q39 rfl rfl rfl rfl rfl (Names_ok _) ?_)
 intro v109 I110 H111 hle112 hn108 hp113
 have hb1i := hle112 _ _ hb1i
 have hb2i := hle112 _ _ hb2i
 have hb3i := hle112 _ _ hb3i
 have hb10i := hle112 _ _ hb10i
 have htb := hle112 _ _ htb
 have hIJ := hIJ.mono hle112
 have hE := hE.mono hle112
 have hx := hx.mono hle112
 have hy := hy.mono hle112
 obtain ⟨nb, h, rfl⟩ := hp113; cases h
 have hnb := hn108 _ (.head _)
 refine ⟨⟨(Le.trans (Le.refl _) hle112), HSub.n, CSub.n⟩, ?_⟩
 refine JA.pull (Pull.s Pull.z) ?_
 refine q13 4 rfl (op_append (by' := 15) (n := 6) (g := some (nb, 6, [])) (xs := Ix.names.map str) [_] rfl rfl rfl rfl rfl tU28 (.inr ⟨_, tU28⟩) (by kernel_rfl) tS9 tZ9 rfl ⟨hnb, rfl, rfl⟩ rfl (Src.slice (Blk.at 0 rfl) rfl rfl rfl) (by omega) ?_)
 intro g114 hg114
 refine ⟨⟨(Le.trans (Le.refl _) hle112), HSub.n, CSub.n⟩, ?_⟩
 refine JA.fix ⟨HSub.n, CSub.n, (Le.trans (Le.refl _) hle112)⟩ (fun fx115 => ?_)
 refine JA.tk 5 rfl fx115 (yl_lenG hg114 rfl rfl tU28) ?_
 refine q12 ?_
 refine Ej.seq (Cj.perm (H' := gH 9 ((Ix.names ++ [f0]).map str) g114 ++ [_]) List.perm_append_comm ?_)
 refine Cj.keepS hg114 (fun I7 hle7 hns => ?_)
 have hb1i := hle7 _ _ hb1i
 have hb2i := hle7 _ _ hb2i
 have hb3i := hle7 _ _ hb3i
 have hb10i := hle7 _ _ hb10i
 have htb := hle7 _ _ htb
 have hIJ := hIJ.mono hle7
 have hE := hE.mono hle7
 have hx := hx.mono hle7
 have hy := hy.mono hle7
 have hn := StrP.of hns
 obtain ⟨pn, cn, hne⟩ := StrP.len hn
 rw [hne] at hn
 refine Cj.eqv 63 rfl hne ?_
 refine Cj.named (fun In hIn => ?_)
 subst hIn
 refine Cj.keep (List.nil_sublist _) ?_
 refine Cj.block (Cj.loop (ι := Nat × Heap) (fun y => y.1 ≤ (Ix.names ++ [f0]).length ∧ Le In y.2) (fun y => (Ix.names ++ [f0]).length - y.1) (fun y => [(3, ptr b1 0), (4, ptr b2 0), (5, ptr b3 0), (7, .bool true), (9, .slice pe 5 ce), (12, ptr ib 0), (13, ptr rb 0), (63, .slice pn (Ix.names ++ [f0]).length cn), (64, i64 ((Ix.names ++ [f0]).length : Int)), (65, i64 (y.1 : Int))]) (fun y => y.2) (fun y => []) (0, _) ⟨Nat.zero_le _, Le.refl _⟩ ⟨rfl, rfl, rfl, rfl, rfl, rfl, rfl, rfl, rfl, rfl, trivial⟩ rfl rfl ?_)
 rintro ⟨q, J2⟩ ⟨hq, hIJ⟩
 dsimp only at hq hIJ ⊢
 have hNl : (Ix.names ++ [f0]).length = 7 := rfl
 have hx := hx.mono hIJ
 have hy := hy.mono hIJ
 have hn := hn.mono hIJ
 have hE := hE.mono hIJ
 have hb1i := hIJ _ _ hb1i
 have hb2i := hIJ _ _ hb2i
 have hb3i := hIJ _ _ hb3i
 refine Cj.sr (J.z q16 ?_)
 refine J.nss (Cj.cond rfl (fun hc116 => ?_) (fun hc116 => ?_))
 ·
  have hc116p := odt hc116
  refine Cj.ks (Cj.seq (Cj.block (Cj.seq ?_)))
  have hql : q < (Ix.names ++ [f0]).length := by omega
  obtain ⟨nm, hgn⟩ : ∃ x, (Ix.names ++ [f0])[q]? = some x := ⟨_, lgg hql⟩
  obtain ⟨p4, c4, hpe4, hc4, hp4⟩ := id hn
  cases hpe4
  obtain ⟨nbk, no, ncs, nty, nfr, nsp, rfl, hnbk, hnd⟩ := hp4 (ne_nil_of hql)
  refine Cj.region (J.z (q20 (off' := no + q) tU28 tS9) ?_)
  refine J.z (yl_load rfl rfl tA9 (Blk.imm hnbk) (str_from hnd hgn)) ?_
  refine J.z q1 ?_
  refine J.nssr (J.z (q32 (off' := 0) tU22 tS9) ?_)
  refine J.z (q10 tA9 (Blk.imm hb3i)) ?_
  refine J.z (q32 (off' := 1) tU22 tS9) ?_
  refine J.z (q10 tA9 (Blk.imm hb3i)) ?_
  refine J.z (q32 (off' := 0) tU23 tS9) ?_
  refine J.z (q10 tA9 (Blk.imm hb2i)) ?_
  refine J.z (q32 (off' := 3) tU23 tS9) ?_
  refine J.z (q10 tA9 (Blk.imm hb2i)) ?_
  refine J.op rfl (op_buildSlice rfl rfl rfl tU28 tS9 tZ9 rfl rfl rfl rfl (LCat.one rfl (LCat.one rfl (LCat.one rfl (LCat.one rfl LCat.none)))) ?_)
  intro b117 hb117
  refine J.z (q14 tU28) ?_
  refine J.z q0 ?_
  refine J.ns (Cj.persist hb117 (fun I119 hle118 hb117i => ?_))
  have hIJ := hIJ.mono hle118
  have hx := hx.mono hle118
  have hy := hy.mono hle118
  have hab : _ = some (cel 9 ([a0, a1, t0, t3].map str ++ [])) := hb117i
  refine Cj.named (fun Im hIm => ?_)
  subst hIm
  refine Cj.block (Cj.loop (ι := Nat × Heap) (fun y => y.1 ≤ 4 ∧ Le Im y.2) (fun y => 4 - y.1) (fun y => [(3, ptr b1 0), (4, ptr b2 0), (5, ptr b3 0), (7, .bool true), (9, .slice pe 5 ce), (12, ptr ib 0), (13, ptr rb 0), (15, str nm), (63, .slice (some ⟨nbk, no, none⟩) (Ix.names ++ [f0]).length cn), (64, i64 ((Ix.names ++ [f0]).length : Int)), (65, i64 (q : Int)), (77, .slice (some ⟨b117, 0, none⟩) 4 4), (78, i64 4), (79, i64 (y.1 : Int))]) (fun y => y.2) (fun y => []) (0, _) ⟨Nat.zero_le _, Le.refl _⟩ ⟨rfl, rfl, rfl, rfl, rfl, rfl, rfl, rfl, rfl, rfl, rfl, rfl, rfl, rfl, trivial⟩ rfl rfl ?_)
  rintro ⟨j, J3⟩ ⟨hj, hIJ2⟩
  dsimp only at hj hIJ2 ⊢
  have hIJ := hIJ.trans hIJ2
  have hIJ2 := hIJ2
  have hx := hx.mono hIJ2
  have hy := hy.mono hIJ2
  have hab := hIJ2 _ _ hab
  refine Cj.sr (J.z q16 ?_)
  refine J.nss (Cj.cond rfl (fun hc120 => ?_) (fun hc120 => ?_))
  ·
   have hc120p := odt hc120
   refine Cj.ks (Cj.seq (Cj.block (Cj.seq ?_)))
   have hjl : j < 4 := by omega
   obtain ⟨sx, hgs⟩ : ∃ x, ([a0, a1, t0, t3] : List (List UInt8))[j]? = some x := ⟨_, lgg (by show j < 4; exact hjl)⟩
   have hsm := lmg hgs
   have hsl : sx.length ≤ 1100000 := by simp only [List.mem_cons, List.not_mem_nil, or_false] at hsm; rcases hsm with rfl | rfl | rfl | rfl <;> omega
   have hw1 := word_small es2 nm sx
   have hw2 := phrase_small es2 nm (Ke.words sx)
   have hw3 := withK_len es2 nm (Ix.keyOf nm sx)
   refine Cj.region (J.z (yl_indexAddr (off' := j) rfl rfl rfl tU28 tS9 (by omega) (by omega) (by omega)) ?_)
   refine J.z (yl_load rfl rfl tA9 (Blk.imm hab) (str_get hgs)) ?_
   refine J.z q1 ?_
   refine J.nssr (J.z q0 ?_)
   refine J.z q0 ?_
   refine J.z q0 ?_
   refine J.op rfl (q39 rfl rfl rfl rfl rfl (Word_ok ib (es2.map entL) nm sx (by omega) _ hx) ?_)
   intro v122 I123 H124 hle125 hn121 hp126
   have hx := hx.mono hle125
   have hy := hy.mono hle125
   have hIJ2 := hIJ2.mono hle125
   obtain ⟨wa, h, hoa⟩ := hp126; cases h
   refine J.keepO hoa hn121 (fun Ia hlea hra => ?_)
   have hx := hx.mono hlea
   have hy := hy.mono hlea
   have hIJ2 := hIJ2.mono hlea
   replace hra := hra.row
   refine J.z q0 ?_
   refine J.z q0 ?_
   refine J.z q0 ?_
   refine J.op rfl (q37 (H1 := []) rfl rfl rfl rfl rfl (rWord_ok rb es2 nm sx (by omega) _ hy) ?_)
   intro v127 I128 H129 hle130 hp131
   have hx := hx.mono hle130
   have hy := hy.mono hle130
   have hIJ2 := hIJ2.mono hle130
   have hra := hra.mono hle130
   obtain ⟨vqa, h, qa, rfl⟩ := hp131; cases h
   refine J.op rfl (op_pure rfl rfl rfl rfl rfl (rRecs_ok (Ix.word (es2.map entL) nm sx) (Ix.word (es2.map entL) nm sx) _ _ (by omega) _ hra qa) ?_)
   refine J.eqv 91 rfl (show _ = .bool true from (congrArg Value.bool (decide_eq_true rfl))) ?_
   refine J.z q42 ?_
   refine J.z q0 ?_
   refine q3 10 93 false (congrArg not rfl) (q2 q0 ?_)
   refine q3 10 93 false (congrArg not rfl) (q2 q0 ?_)
   refine q3 10 93 false (congrArg not rfl) (q2 q0 ?_)
   refine J.opG 10 93 false _ rfl rfl rfl (congrArg not rfl) (q39 rfl rfl rfl rfl rfl (Phrase_ok ib (es2.map entL) nm sx (by omega) _ hx) ?_)
   intro v133 I134 H135 hle136 hn132 hp137
   have hx := hx.mono hle136
   have hy := hy.mono hle136
   have hIJ2 := hIJ2.mono hle136
   obtain ⟨wb, h, hob⟩ := hp137; cases h
   refine J.keepO hob hn132 (fun Ib hleb hrb => ?_)
   have hx := hx.mono hleb
   have hy := hy.mono hleb
   have hIJ2 := hIJ2.mono hleb
   replace hrb := hrb.row
   refine q3 10 93 false (congrArg not rfl) (q2 q0 ?_)
   refine q3 10 93 false (congrArg not rfl) (q2 q0 ?_)
   refine q3 10 93 false (congrArg not rfl) (q2 q0 ?_)
   refine J.opG 10 93 false _ rfl rfl rfl (congrArg not rfl) (q37 (H1 := []) rfl rfl rfl rfl rfl (rPhrase_ok rb es2 nm sx (by omega) _ hy) ?_)
   intro v138 I139 H140 hle141 hp142
   have hx := hx.mono hle141
   have hy := hy.mono hle141
   have hIJ2 := hIJ2.mono hle141
   have hrb := hrb.mono hle141
   obtain ⟨vqb, h, qb, rfl⟩ := hp142; cases h
   refine J.opG 10 93 false _ rfl rfl rfl (congrArg not rfl) (op_pure rfl rfl rfl rfl rfl (rRecs_ok (Ix.phrase (es2.map entL) nm (Ke.words sx)) (Ix.phrase (es2.map entL) nm (Ke.words sx)) _ _ (by omega) _ hrb qb) ?_)
   refine J.eqv 102 rfl (show _ = .bool true from (congrArg Value.bool (decide_eq_true rfl))) ?_
   refine q3 10 93 false (congrArg not rfl) (q2 q42 ?_)
   refine J.z (q9 (congrArg not rfl)) ?_
   refine J.z q0 ?_
   refine q3 22 105 false (congrArg not rfl) (q2 q0 ?_)
   refine q3 22 105 false (congrArg not rfl) (q2 q0 ?_)
   refine q3 22 105 false (congrArg not rfl) (q2 q0 ?_)
   refine J.opG 22 105 false _ rfl rfl rfl (congrArg not rfl) (q39 rfl rfl rfl rfl rfl (Key_ok ib (es2.map entL) nm sx (by omega) _ hx) ?_)
   intro v144 I145 H146 hle147 hn143 hp148
   have hx := hx.mono hle147
   have hy := hy.mono hle147
   have hIJ2 := hIJ2.mono hle147
   obtain ⟨wc, h, hoc⟩ := hp148; cases h
   refine J.keepO hoc hn143 (fun Ic hlec hrc => ?_)
   have hx := hx.mono hlec
   have hy := hy.mono hlec
   have hIJ2 := hIJ2.mono hlec
   replace hrc := hrc.row
   refine q3 22 105 false (congrArg not rfl) (q2 q0 ?_)
   refine q3 22 105 false (congrArg not rfl) (q2 q0 ?_)
   refine q3 22 105 false (congrArg not rfl) (q2 q0 ?_)
   refine J.opG 22 105 false _ rfl rfl rfl (congrArg not rfl) (q37 (H1 := []) rfl rfl rfl rfl rfl (rKey_ok rb es2 nm sx (by omega) _ hy) ?_)
   intro v149 I150 H151 hle152 hp153
   have hx := hx.mono hle152
   have hy := hy.mono hle152
   have hIJ2 := hIJ2.mono hle152
   have hrc := hrc.mono hle152
   obtain ⟨vqc, h, qc, rfl⟩ := hp153; cases h
   refine J.opG 22 105 false _ rfl rfl rfl (congrArg not rfl) (op_pure rfl rfl rfl rfl rfl (rRecs_ok (Ix.withK (es2.map entL) nm (Ix.keyOf nm sx)) (Ix.withK (es2.map entL) nm (Ix.keyOf nm sx)) _ _ (by omega) _ hrc qc) ?_)
   refine J.eqv 114 rfl (show _ = .bool true from (congrArg Value.bool (decide_eq_true rfl))) ?_
   refine q3 22 105 false (congrArg not rfl) (q2 q42 ?_)
   refine J.z (q9 (congrArg not rfl)) ?_
   refine J.z q0 ?_
   refine q3 34 117 false (congrArg not rfl) (q2 q0 ?_)
   refine q3 34 117 false (congrArg not rfl) (q2 q0 ?_)
   refine q3 34 117 false (congrArg not rfl) (q2 q0 ?_)
   refine J.opG 34 117 false _ rfl rfl rfl (congrArg not rfl) (q39 rfl rfl rfl rfl rfl (Scan_ok ib (es2.map entL) nm sx (by omega) 9 _ hx) ?_)
   intro v155 I156 H157 hle158 hn154 hp159
   have hy := hy.mono hle158
   have hIJ2 := hIJ2.mono hle158
   obtain ⟨wd, h, hod⟩ := hp159; cases h
   refine J.keepO hod hn154 (fun Id hled hrd => ?_)
   have hy := hy.mono hled
   have hIJ2 := hIJ2.mono hled
   replace hrd := hrd.row
   refine q3 34 117 false (congrArg not rfl) (q2 q0 ?_)
   refine q3 34 117 false (congrArg not rfl) (q2 q0 ?_)
   refine q3 34 117 false (congrArg not rfl) (q2 q0 ?_)
   refine J.opG 34 117 false _ rfl rfl rfl (congrArg not rfl) (q37 (H1 := []) rfl rfl rfl rfl rfl (rScan_ok rb es2 nm sx (by omega) 9 _ hy) ?_)
   intro v160 I161 H162 hle163 hp164
   have hIJ2 := hIJ2.mono hle163
   have hrd := hrd.mono hle163
   obtain ⟨vqd, h, qd, rfl⟩ := hp164; cases h
   refine J.opG 34 117 false _ rfl rfl rfl (congrArg not rfl) (op_pure rfl rfl rfl rfl rfl (rLines_ok ((Ix.scan (es2.map entL) nm sx 9).map lineI) ((Ix.scan (es2.map entL) nm sx 9).map lineI) _ _ (by have := scan_small (es2.map entL) nm sx 9; omega) _ hrd qd) ?_)
   refine J.eqv 126 rfl (show _ = .bool true from (congrArg Value.bool (decide_eq_true rfl))) ?_
   refine q3 34 117 false (congrArg not rfl) (q2 q42 ?_)
   refine J.z (q9 (congrArg not rfl)) ?_
   refine J.ns (Cj.cond rfl (fun hc165 => Bool.noConfusion (Eq.trans (Eq.symm (congrArg not rfl)) hc165)) (fun hc165 => ?_))
   refine Cj.kb (Cj.region (J.z q7 ?_))
   refine J.z q0 ?_
   refine J.nil (Ej.round (j + 1, _) ⟨by dsimp only; omega, hIJ2⟩ (by dsimp only; omega) ⟨rfl, rfl, rfl, rfl, rfl, rfl, rfl, rfl, rfl, rfl, rfl, rfl, rfl, rfl, trivial⟩ rfl rfl)
  have hc120p := odf hc120
  refine Cj.exit (Ej.seqExit (Ej.loopExit (Ej.blkExit (Ej.blkNormal (Ej.seq (Cj.region (J.z q7 ?_)))))))
  refine J.z q0 ?_
  refine J.nil (Ej.round (q + 1, _) ⟨by dsimp only; omega, hIJ⟩ (by dsimp only; omega) ⟨rfl, rfl, rfl, rfl, rfl, rfl, rfl, rfl, rfl, rfl, trivial⟩ rfl rfl)
 have hc116p := odf hc116
 refine Cj.xl (Cj.seq ?_)
 obtain ⟨e1, hge⟩ : ∃ x, es[1]? = some x := ⟨_, lgg (by omega)⟩
 obtain ⟨p5, c5, hpe5, hc5, hp5⟩ := id hE.1
 rw [hel] at hpe5
 cases hpe5
 obtain ⟨eb, eo, ecs, ety, efr, esp, rfl, heb, hed⟩ := hp5 (ne_nil_of (k := 1) (by omega))
 refine Cj.drawSel [] [] 17 (by kernel_rfl) ?_
 have hb1i_20 := hb1i
 have hb2i_20 := hb2i
 have hb3i_20 := hb3i
 have hb10i_20 := hb10i
 have htb_20 := htb
 have heb_20 := heb
 refine JA.fix fx1 (fun fx166 => ?_)
 refine JA.tk 0 rfl fx166 q0 ?_
 refine JA.tk 1 rfl fx166 q0 ?_
 refine JA.tkG 2 1 132 true _ rfl fx166 rfl rfl rfl q0 ?_
 refine JA.tkG 3 1 132 true _ rfl fx166 rfl rfl rfl q0 ?_
 refine JA.tkG 4 1 132 true _ rfl fx166 rfl rfl rfl (yl_indexAddr (off' := eo + 1 * 5) rfl rfl rfl tU27 tS37 (by decide) (by decide) (by simp)) ?_
 refine JA.tkG 5 1 132 true _ rfl fx166 rfl rfl rfl (q5 tU37 tS26) ?_
 refine JA.tkG 6 1 132 true _ rfl fx166 rfl rfl rfl (yl_loadAgg rfl rfl tA26 tS26 (Blk.immC heb_20) (row_part entC_len hed hge 0 2 (by decide)) rfl) ?_
 refine JA.tkG 8 1 132 true _ rfl fx166 rfl rfl rfl q0 ?_
 refine JA.tkG 9 1 132 true _ rfl fx166 rfl rfl rfl q0 ?_
 refine JA.tkG 10 1 132 true _ rfl fx166 rfl rfl rfl (yl_indexAddr (off' := eo + 1 * 5) rfl rfl rfl tU27 tS37 (by decide) (by decide) (by simp)) ?_
 refine JA.tkG 11 1 132 true _ rfl fx166 rfl rfl rfl (q5 tU37 tS26) ?_
 refine JA.tkG 12 1 132 true _ rfl fx166 rfl rfl rfl (yl_loadAgg rfl rfl tA26 tS26 (Blk.immC heb_20) (row_part entC_len hed hge 0 2 (by decide)) rfl) ?_
 refine JA.stepG 7 1 132 true _ (by kernel_rfl) rfl rfl rfl rfl rfl (op_pure rfl rfl rfl rfl rfl (Sort_ok' ib (es2.map entL) e1.t _ hx) ?_)
 refine ⟨fx0, ?_⟩
 refine JA.stepG 13 1 132 true _ (by kernel_rfl) rfl rfl rfl rfl rfl (op_pure rfl rfl rfl rfl rfl (Ctr.toPure (rSortT_ok rb es2 e1.t _ hy)) ?_)
 refine ⟨fx0, ?_⟩
 refine JA.fix fx1 (fun fx167 => ?_)
 refine JA.tkG 14 1 132 true _ rfl fx167 rfl rfl rfl q31 ?_
 refine JA.eqv 145 rfl (show _ = .bool true from (congrArg Value.bool (beq_self_eq_true _))) ?_
 refine JA.tk 15 rfl fx167 (yl_pick1 rfl rfl rfl rfl) ?_
 refine JA.tk 16 rfl fx167 q1 ?_
 refine q12 ?_
 refine Ej.seq (Cj.ret (q6 ?_))
 exact ⟨rfl, rfl⟩
end Go.Proofs.YtjcdfnbomkoheaaGreatDoor
