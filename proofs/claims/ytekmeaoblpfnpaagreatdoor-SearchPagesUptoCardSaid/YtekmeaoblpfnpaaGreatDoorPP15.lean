/-
  Own texts on the laws of the seat, joined: the logic, and contracts of functions. Conditions: none.
-/
import Derived.Test.YtekmeaoblpfnpaaGreatDoorNmP
import Derived.Test.YtekmeaoblpfnpaaGreatDoorPP14
set_option maxRecDepth 100000
set_option maxHeartbeats 40000000
set_option maxRecDepth 100000
set_option maxHeartbeats 40000000
namespace Go.Proofs.YtekmeaoblpfnpaaGreatDoor
open _root_.Go.Proofs.Tryz
open Go Go.Sx
theorem codes_at {ps : List Ke.Sub} {i : Nat} {x : Ke.Sub} (h : ps[i]? = some x) : (ps.map (·.code))[i]? = some x.code := by rw [List.getElem?_map, h]; rfl
theorem texts_at {ps : List Ke.Sub} {i : Nat} {x : Ke.Sub} (h : ps[i]? = some x) : (ps.map (·.text))[i]? = some x.text := by rw [List.getElem?_map, h]; rfl
theorem bothQ_ps {I : Heap} {k : Int} {qa qb : Cq.Qn} {pa pb : Option Addr} {ca cb bl : Nat} {T : TypeId} (ha : PS I qa.ps pa) (hb : PS I qb.ps pb) (h : I bl = some (cel T (qCells qa pa ca ++ (qCells qb pb cb ++ [])))) : PS I (Ix.bothQ k qa qb).ps (some ⟨bl, 0, none⟩) := PS.two ha hb h
theorem text_ok (tag ind : List UInt8) (ps : List Ke.Sub) (v : Value) (hps : ps.length ≤ 1000) (I : Heap) (hv : StrP I (ps.map (·.text)) v) : Ctr Tryz.prog 49 [str tag, str ind, str (ps.map (·.code)), v] I [] (fun e I' H' => ∃ w, e = .returned (.agg (fldC ⟨tag, ind, [], w, ps⟩).toArray) ∧ RowS subC I' ps w ∧ H' = []) := by
 obtain ⟨p, c, rfl, hc, hp⟩ := hv
 have hpl : (ps.map (·.text)).length = ps.length := List.length_map _
 refine Ctr.ob func49 ?_
 intro w0 hw0
 refine Cj.sr (J.op rfl (q21 tZ108 ?_))
 intro b1 hb1
 refine J.nssr (J.z q0 ?_)
 refine J.z q0 ?_
 refine J.z (yl_buildS (pl := #[(0, 1), (1, 1), (2, 1), (3, 1)]) rfl rfl tZ108 rfl tU108 (fun w => by simp []) (LBld.part rfl rfl rfl (LSpl.c LSpl.z) (LBld.part rfl rfl rfl (LSpl.s (LSpl.c LSpl.z)) LBld.none))) ?_
 refine J.op rfl (q21 tZ108 ?_)
 intro b2 hb2
 refine J.op rfl (q9 0 tS108 (LSpl.c (LSpl.c (LSpl.c (LSpl.c LSpl.z)))) LSet.z ?_)
 refine J.nsss (Cj.region (J.z q1 ?_))
 refine J.ns (Cj.block (Cj.loop (ι := Nat × Gs) (fun y => y.1 ≤ ps.length ∧ gOk w0.heap.size 2 (ps.take y.1).length ((ps.take y.1).flatMap subC) y.2) (fun y => ps.length - y.1) (fun y => [(2, str (ps.map (·.code))), (3, .slice p (ps.map (·.text)).length c), (8, ptr b1 0), (9, ptr b2 0), (10, i64 (y.1 : Int))]) (fun y => _) (fun y => (b2, cel 108 [str tag, str ind, str [], gV (ps.take y.1).length y.2]) :: (b1, cel 108 [str [], str [], str [], .slice none 0 0]) :: gH 176 ((ps.take y.1).flatMap subC) y.2) (0, none) ⟨Nat.zero_le _, rfl, rfl⟩ ⟨rfl, rfl, rfl, rfl, rfl, trivial⟩ rfl rfl ?_))
 rintro ⟨i, g⟩ ⟨hi, hg⟩
 dsimp only at hi hg ⊢
 have hsl : (ps.take i).length = i := by rw [List.length_take]; omega
 refine Cj.seq (Cj.sr (J.z q0 ?_))
 refine J.z q0 ?_
 refine J.z (q14 tU69) ?_
 refine J.z q18 ?_
 refine J.cd (fun hc3 => ?_) (fun hc3 => ?_)
 ·have hc3p := odt hc3
  refine Cj.skip (Ej.seq (Cj.seq (Cj.block ?_)))
  have hlt : i < ps.length := by omega
  obtain ⟨x, hsget⟩ : ∃ x, ps[i]? = some x := ⟨_, lgg hlt⟩
  have hsl1 : (ps.take (i + 1)).length = (ps.take i).length + 1 := by rw [List.length_take, List.length_take]; omega
  obtain ⟨lb, lo, lcs, lty, lfr, sp, rfl, hlb, hld⟩ := hp (ne_nil_of (k := i) (by omega))
  refine Cj.drawSel [0, 1] [] 13 (by kernel_rfl) ?_
  refine JA.fix ⟨(HSub.c 0 rfl (HSub.c 1 rfl HSub.n)), CSub.n, (Le.refl _)⟩ (fun fx4 => ?_)
  refine JA.tk 0 rfl fx4 (q2 (off' := 3) tU108 tS106) ?_
  refine JA.tk 1 rfl fx4 (q3 isAgg106 (Blk.atC 0 rfl)) ?_
  refine JA.tk 2 rfl fx4 q0 ?_
  refine JA.tk 3 rfl fx4 q0 ?_
  refine JA.tk 4 rfl fx4 (yl_index rfl rfl rfl tU9 (by omega) (codes_at hsget)) ?_
  refine JA.tk 5 rfl fx4 q0 ?_
  refine JA.tk 6 rfl fx4 q0 ?_
  refine JA.tk 7 rfl fx4 (yl_indexAddr (off' := lo + i) rfl rfl rfl tU69 tS9 (by omega) (by omega) (by omega)) ?_
  refine JA.tk 8 rfl fx4 (yl_load rfl rfl tA9 (Blk.immC hlb) (str_from hld (texts_at hsget))) ?_
  refine JA.tk 9 rfl fx4 (yl_buildS (pl := #[(0, 1), (1, 1)]) rfl rfl tZ176 rfl tU176 (fun w => by simp []) (LBld.part rfl rfl rfl (LSpl.c LSpl.z) (LBld.part rfl rfl rfl (LSpl.s (LSpl.c LSpl.z)) LBld.none))) ?_
  refine q4 10 rfl (q17 tU106 tS176 tZ176 (LCat.agg rfl LCat.none) ?_)
  intro b5 hb5
  refine ⟨⟨(Le.refl _), (HSub.c 1 rfl (HSub.c 2 rfl HSub.n)), CSub.n⟩, ?_⟩
  refine q4 11 rfl (op_append (by' := 23) [_, _, _] rfl rfl rfl rfl rfl tU106 (.inr ⟨_, tU106⟩) (by kernel_rfl) tS176 tZ176 rfl hg rfl (Src.slice (Blk.at 0 rfl) rfl rfl rfl) (by omega) ?_)
  intro g6 hg6
  refine ⟨⟨(Le.refl _), (HSub.c 1 rfl (HSub.c 2 rfl HSub.n)), CSub.n⟩, ?_⟩
  refine JA.fix ⟨(HSub.c 1 rfl (HSub.c 2 rfl HSub.n)), CSub.n, (Le.refl _)⟩ (fun fx7 => ?_)
  refine JA.tk 12 rfl fx7 (q2 (off' := 3) tU108 tS106) ?_
  refine JA.last 13 (by kernel_rfl) rfl rfl rfl (op_store 1 rfl rfl rfl rfl (gV_cells _ _) (gV_one _ _) tS106 rfl rfl (LSpl.s (LSpl.s (LSpl.s (LSpl.c LSpl.z)))) (LSet.s LSet.z) ?_)
  refine q8 ?_
  refine Ej.blkNormal (Ej.seq (Cj.region (J.z q0 ?_)))
  refine J.z (yl_add rfl rfl rfl (w64 (by omega))) ?_
  refine J.z q1 ?_
  refine J.nil (Ej.keep (Keeps.d (Keeps.k (Keeps.k Keeps.r))) ?_)
  refine Ej.round (i + 1, g6) ⟨by dsimp only; omega, by dsimp only; rw [hsl1, flat_next subC hsget]; exact hg6⟩ (by dsimp only; omega) ⟨rfl, rfl, rfl, rfl, rfl, trivial⟩ rfl (by dsimp only; rw [hsl1, flat_next subC hsget]; rfl)
 have hc3p := odf hc3
 refine Cj.exit (Ej.seqExit (Ej.loopExit (Ej.blkExit (Ej.seq (Cj.sr (J.z (q10 tA108 tS108 (Blk.at 0 rfl)) ?_))))))
 refine J.op rfl (op_store 1 rfl rfl rfl rfl rfl (by show [str tag, str ind, str [], gV _ _].all Value.oneCell' = true; simp only [List.all_cons, List.all_nil, gV_one', Bool.and_true]; rfl) tS108 rfl rfl (LSpl.c (LSpl.c (LSpl.c (LSpl.c LSpl.z)))) (LSet.s LSet.z) ?_)
 refine J.ns (Cj.ret ?_)
 have hfull : ps.take i = ps := List.take_of_length_le (by omega)
 rw [hfull] at hg ⊢
 refine Ej.perm (H' := gH _ _ _ ++ [_, _]) List.perm_append_comm ?_
 refine Ej.keepR subC_len (by decide) hg rfl (fun I9 hle9 hfs => ?_)
 refine Ej.retC (Keeps.d (Keeps.d Keeps.n)) rfl rfl rfl (Blk.at 1 rfl) tA108 tS108 rfl ?_
 exact ⟨_, rfl, hfs, rfl⟩
theorem term_ok (i r t : List UInt8) (I : Heap) : Ctr Tryz.prog 23 [str i, str r, str t] I [] (fun e _ H' => e = .returned (.agg (qCells (Ix.termQ i r t) none 0).toArray) ∧ H' = []) := by
 refine Ctr.ob func23 ?_
 intro w0 hw0
 refine Cj.sr (J.op rfl (q21 tZ32 ?_))
 intro b1 hb1
 refine J.nssr (J.z q0 ?_)
 refine J.z q0 ?_
 refine J.z q0 ?_
 refine J.z (yl_buildS (pl := #[(0, 1), (1, 1), (2, 1), (3, 1), (4, 1)]) rfl rfl tZ32 rfl tU32 (fun w => by simp []) (LBld.part rfl rfl rfl (LSpl.c LSpl.z) (LBld.part rfl rfl rfl (LSpl.s (LSpl.c LSpl.z)) (LBld.part rfl rfl rfl (LSpl.s (LSpl.s (LSpl.c LSpl.z))) (LBld.part rfl rfl rfl (LSpl.s (LSpl.s (LSpl.s (LSpl.c LSpl.z)))) LBld.none))))) ?_
 refine J.op rfl (q9 0 tS32 (LSpl.c (LSpl.c (LSpl.c (LSpl.c (LSpl.c LSpl.z))))) LSet.z ?_)
 refine J.ns (Cj.ret (Ej.retC (Keeps.d Keeps.n) rfl rfl rfl (Blk.at 0 rfl) tA32 tS32 rfl ?_))
 exact ⟨rfl, rfl⟩
theorem both_ok (k : Int) (qa qb : Cq.Qn) (pa pb : Option Addr) (ca cb : Nat) (I : Heap) (ha : PS I qa.ps pa) (hb : PS I qb.ps pb) : Ctr Tryz.prog 35 [i64 k, .agg (qCells qa pa ca).toArray, .agg (qCells qb pb cb).toArray] I [] (fun e I' H' => (∃ p c, e = .returned (.agg (qCells (Ix.bothQ k qa qb) p c).toArray) ∧ PS I' (Ix.bothQ k qa qb).ps p) ∧ H' = []) := by
 refine Ctr.ob func35 ?_
 intro w0 hw0
 refine Cj.sr (J.op rfl (q15 ?_))
 intro b1 hb1
 refine J.op rfl (q15 ?_)
 intro b2 hb2
 refine J.op rfl (q21 tZ32 ?_)
 intro b3 hb3
 refine J.nssr (J.z q0 ?_)
 refine J.z (q10 tA32 tS32 (Blk.at 2 rfl)) ?_
 refine J.z (q10 tA32 tS32 (Blk.at 1 rfl)) ?_
 refine J.op rfl (q17 tU30 tS32 tZ32 (LCat.agg rfl (LCat.agg rfl LCat.none)) ?_)
 intro b4 hb4
 refine J.persist hb4 (fun I6 hle5 hb4i => ?_)
 have ha := ha.mono hle5
 have hb := hb.mono hle5
 refine J.z (yl_buildS (pl := #[(0, 1), (1, 1), (2, 1), (3, 1), (4, 1)]) rfl rfl tZ32 rfl tU32 (fun w => by simp []) (LBld.part rfl rfl rfl (LSpl.c LSpl.z) (LBld.part rfl rfl rfl (LSpl.s (LSpl.s (LSpl.s (LSpl.s (LSpl.c LSpl.z))))) LBld.none))) ?_
 refine J.op rfl (q9 0 tS32 (LSpl.c (LSpl.c (LSpl.c (LSpl.c (LSpl.c LSpl.z))))) LSet.z ?_)
 refine J.ns (Cj.ret (Ej.retC (Keeps.d (Keeps.d (Keeps.d Keeps.n))) rfl rfl rfl (Blk.at 0 rfl) tA32 tS32 rfl ?_))
 exact ⟨⟨_, _, rfl, bothQ_ps (ca := ca) (cb := cb) ha hb hb4i⟩, rfl⟩
theorem rindexes_ok (I : Heap) : Ctr Tryz.prog 65 [] I [] (fun e I' H' => (∃ v, e = .returned v ∧ StrSl 9 I' Cq.indexes v) ∧ H' = []) := by
 refine Ctr.ob func65 ?_
 intro w0 hw0
 refine Cj.sr (J.z q1 ?_)
 refine J.nssr (J.op rfl (q17 tU69 tS9 tZ9 (LCat.one rfl (LCat.one rfl (LCat.one rfl (LCat.one rfl (LCat.one rfl (LCat.one rfl LCat.none)))))) ?_))
 intro b1 hb1
 refine J.z q1 ?_
 refine J.ns (Cj.ret (Ej.persist hb1 (fun I3 hle2 hb1i => ?_)))
 refine q5 ?_
 exact ⟨⟨_, rfl, b1, 6, [], rfl, hb1i⟩, rfl⟩
theorem rrelations_ok (I : Heap) : Ctr Tryz.prog 66 [] I [] (fun e I' H' => (∃ v, e = .returned v ∧ StrSl 9 I' Cq.relations v) ∧ H' = []) := by
 refine Ctr.ob func66 ?_
 intro w0 hw0
 refine Cj.sr (J.z q1 ?_)
 refine J.nssr (J.op rfl (q17 tU69 tS9 tZ9 (LCat.one rfl (LCat.one rfl (LCat.one rfl (LCat.one rfl (LCat.one rfl (LCat.one rfl LCat.none)))))) ?_))
 intro b1 hb1
 refine J.z q1 ?_
 refine J.ns (Cj.ret (Ej.persist hb1 (fun I3 hle2 hb1i => ?_)))
 refine q5 ?_
 exact ⟨⟨_, rfl, b1, 6, [], rfl, hb1i⟩, rfl⟩
theorem act_t {L : Ix.Ix} {a : Ix.ActL} (h : a.drop = true) : Ix.act L a = Ix.rdrop a.title L := if_pos h
theorem act_f {L : Ix.Ix} {a : Ix.ActL} (h : a.drop = false) : Ix.act L a = Ix.rput a.title a.vs L := if_neg (by rw [h]; decide)
theorem act_len (L : Ix.Ix) (a : Ix.ActL) : (Ix.act L a).length ≤ L.length + 1 := by
  unfold Ix.act
  split
  · exact Nat.le_succ_of_le (List.length_filter_le _ _)
  exact rput_len _ _ _
theorem acts_lenF : ∀ (l : List Ix.ActL) (L : Ix.Ix), (l.foldl Ix.act L).length ≤ L.length + l.length
  | [], _ => Nat.le_refl _
  | a :: r, L => by
    have h1 := acts_lenF r (Ix.act L a)
    have h2 := act_len L a
    rw [List.foldl_cons, List.length_cons]; omega
theorem acts_len (xs : List Act) : ((acts xs).foldl Ix.act []).length ≤ xs.length := by
  have := acts_lenF (acts xs) []
  rw [List.length_map, List.length_nil] at this; omega
theorem play_eq {xs : List Act} {k : Nat} (hk : k ≤ xs.length) (h : k ≤ 20 ∧ (xs.length ≤ k ∨ 20 ≤ k)) : (acts (xs.take k)).foldl Ix.act [] = Ix.play (acts xs) := by
  rw [made_take hk h, acts_take]; rfl
theorem play_len (xs : List Act) : (Ix.play (acts xs)).length ≤ 20 := by
  have := acts_lenF ((acts xs).take 20) []
  rw [List.length_take, List.length_nil] at this
  unfold Ix.play; omega
theorem built_ok (xs : List Act) (v : Value) (hao : ActsOk xs) (I : Heap) (hA0 : ActsS I xs v) : Ctr Tryz.prog 15 [v] I [] (fun ev I' H' => ∃ ib o rb es w, ev = .returned (.tuple #[ptr ib 0, ptr rb 0]) ∧ IxOk I' o (Ix.play (acts xs)) ∧ EntsS I' es w ∧ es.map entL = Ix.play (acts xs) ∧ (∀ e ∈ es, EOK e.fs) ∧ es.length ≤ 20 ∧ H' = (rb, cel 50 [w]) :: ixH ib o) := by
 obtain ⟨p, c, rfl⟩ := RowS.len hA0.1
 refine Ctr.ob func15 ?_
 intro w0 hw0
 refine Cj.sr (J.z q1 ?_)
 refine J.z q1 ?_
 refine J.nssr (J.z (yl_buildS (pl := #[(0, 1), (1, 1), (2, 1)]) rfl rfl zeroValue114 rfl tU114 (fun w => by simp []) LBld.none) ?_)
 refine J.op rfl (q15 ?_)
 intro b1 hb1
 refine J.z q1 ?_
 refine J.nsss (Cj.region (J.z q1 ?_))
 refine J.ns (Cj.block (Cj.loop (ι := Nat × Heap × Option Ist) (fun y => y.1 ≤ xs.length ∧ y.1 ≤ 20 ∧ Le I y.2.1 ∧ IxOk y.2.1 y.2.2 ((acts (xs.take y.1)).foldl Ix.act [])) (fun y => 20 - y.1) (fun y => [(0, .slice p xs.length c), (4, ptr b1 0), (5, i64 (y.1 : Int))]) (fun y => y.2.1) (fun y => ixH b1 y.2.2) (0, _, none) ⟨Nat.zero_le _, Nat.zero_le _, Le.refl _, rfl⟩ ⟨rfl, rfl, rfl, trivial⟩ rfl rfl ?_))
 rintro ⟨k, Jh, o⟩ ⟨hk, hk20, hIJ, hok⟩
 dsimp only at hk hk20 hIJ hok ⊢
 have hA := hA0.mono hIJ
 have hll := acts_len (xs.take k)
 rw [List.length_take, Nat.min_eq_left hk] at hll
 refine Cj.seq (Cj.sr (J.z q0 ?_))
 refine J.z q0 ?_
 refine J.z (q14 tU22) ?_
 refine J.z q18 ?_
 refine J.z q0 ?_
 refine J.split 12 rfl (fun hg2 => ?_) (fun hg2 => ?_)
 rotate_left
 ·have hg2p := odf hg2
  refine q12 4 12 13 true hg2 ?_
  refine q12 4 12 14 true hg2 ?_
  refine J.z (q23 hg2) ?_
  refine J.c0 (fun hc30 => ?_)
  refine Cj.exit (Ej.seqExit (Ej.loopExit (Ej.blkExit (Ej.seq (Cj.seq ?_)))))
  have hpl := play_eq hk (by omega)
  rw [hpl] at hok
  refine Cj.region (J.z q0 ?_)
  refine J.z q0 ?_
  refine J.op rfl (op_call (H1 := []) rfl rfl rfl rfl rfl (rPlay_ok xs _ hao _ hA) ?_ (fun _ _ _ _ ⟨_, _, _, h, _⟩ => by cases h) (fun _ _ ⟨_, _, _, h, _⟩ => by cases h))
  intro v31 I32 H33 hle34 hp35
  have hok := hok.mono hle34
  obtain ⟨rb, es, w, h, hE, hL, hek, hel, rfl⟩ := hp35; cases h
  refine J.z q1 ?_
  refine J.z q1 ?_
  refine J.ns (Cj.ret (q20 ?_))
  exact ⟨b1, o, rb, es, w, rfl, hok, hE, hL, hek, by omega, rfl⟩
 have hg2p := odt hg2
 refine q13 4 12 true hg2 (q7 q0 ?_)
 refine q13 4 12 true hg2 (q7 q18 ?_)
 refine J.z (q22 hg2) ?_
 refine J.cd (fun hc3 => ?_) (fun hc3 => ?_)
 ·have hc3p := odt hc3
  refine Cj.skip (Ej.seq (Cj.seq (Cj.block (Cj.seq ?_))))
  have hIJ9 := hIJ
  have hlt : k < xs.length := by omega
  have hlt2 : k < 20 := by omega
  obtain ⟨x, hget⟩ : ∃ x, xs[k]? = some x := ⟨_, lgg hlt⟩
  have hxm := lmg hget
  obtain ⟨p1, c1, hpe, hc1, hp⟩ := id hA.1
  cases hpe
  obtain ⟨ab, ao, acs, aty, afr, asp, rfl, hab, had⟩ := hp (ne_nil_of hlt)
  have hfv := hA.2 x hxm
  obtain ⟨vp, vc, hxv⟩ := RowS.len hfv
  have hnx : acts (xs.take (k + 1)) = acts (xs.take k) ++ [x.a] := map_next _ hget
  refine Cj.region (J.z q0 ?_)
  refine J.z q0 ?_
  refine J.z (q16 (off' := ao + k * 4) tU22 tS93) ?_
  refine J.z (q2 tU93 tS4) ?_
  refine J.z (yl_load rfl rfl tA4 (Blk.imm hab) (row_fcell actC_len had hget 0 (by decide))) ?_
  refine J.cd (fun hc4 => ?_) (fun hc4 => ?_)
  ·have hdr : x.a.drop = true := hc4
   refine Cj.region (J.z q0 ?_)
   refine J.z q0 ?_
   refine J.z q0 ?_
   refine J.z (q16 (off' := ao + k * 4) tU22 tS93) ?_
   refine J.z (yl_loadAgg rfl rfl isAgg93 tS93 (Blk.imm hab) (row_from actC_len had hget) rfl) ?_
   refine J.op rfl (op_call (H1 := []) rfl rfl rfl rfl rfl (Entry_ok x (hao x hxm) _ hfv) ?_ (fun _ _ _ _ ⟨_, h, _⟩ => by cases h) (fun _ _ ⟨_, h, _⟩ => by cases h))
   intro v5 I6 H7 hle8 hp9
   have hIJ := hIJ.mono hle8
   have hok := hok.mono hle8
   obtain ⟨e0, h, he0, rfl⟩ := hp9; cases h
   refine J.z (yl_fieldR (v := kvR e0.t) rfl rfl (fun _ => by kernel_rfl)) ?_
   refine J.op rfl (op_callR (H1 := ixH _ _) [] rfl rfl rfl rfl rfl rfl (Drop_ok b1 o _ e0.t _ hok) ?_ (fun _ _ _ _ ⟨_, h, _⟩ => by cases h) (fun _ _ ⟨_, h, _⟩ => by cases h))
   intro v10 I11 H12 hle13 hp14
   have hIJ := hIJ.mono hle13
   have he0 := he0.mono hle13
   obtain ⟨o1, h, hok1, rfl⟩ := hp14; cases h
   refine J.nil (Ej.blkNormal (Ej.seq (Cj.region (J.z q0 ?_))))
   refine J.z (yl_add rfl rfl rfl (w64 (by omega))) ?_
   refine J.z q1 ?_
   refine J.nil (Ej.round (k + 1, _, o1) ⟨by dsimp only; omega, by dsimp only; omega, hIJ, by dsimp only; rw [hnx, List.foldl_append]; rw [he0.t] at hok1; show IxOk _ _ (Ix.act _ x.a); rw [act_t hdr]; exact hok1⟩ (by dsimp only; omega) ⟨rfl, rfl, rfl, trivial⟩ rfl rfl)
  have hdr : x.a.drop = false := hc4
  refine Cj.region (J.z q0 ?_)
  refine J.z q0 ?_
  refine J.z q0 ?_
  refine J.z (q16 (off' := ao + k * 4) tU22 tS93) ?_
  refine J.z (yl_loadAgg rfl rfl isAgg93 tS93 (Blk.imm hab) (row_from actC_len had hget) rfl) ?_
  refine J.op rfl (op_call (H1 := []) rfl rfl rfl rfl rfl (Entry_ok x (hao x hxm) _ hfv) ?_ (fun _ _ _ _ ⟨_, h, _⟩ => by cases h) (fun _ _ ⟨_, h, _⟩ => by cases h))
  intro v15 I16 H17 hle18 hp19
  have hIJ := hIJ.mono hle18
  have hok := hok.mono hle18
  obtain ⟨e0, h, he0, rfl⟩ := hp19; cases h
  refine J.op rfl (op_callR (H1 := ixH _ _) [] rfl rfl rfl rfl rfl rfl (Put_ok b1 o _ e0 _ hok (by omega) he0.eok he0.r) ?_ (fun _ _ _ _ ⟨_, h, _⟩ => by cases h) (fun _ _ ⟨_, h, _⟩ => by cases h))
  intro v20 I21 H22 hle23 hp24
  have hIJ := hIJ.mono hle23
  have he0 := he0.mono hle23
  obtain ⟨o1, h, hok1, rfl⟩ := hp24; cases h
  refine J.nil (Ej.blkNormal (Ej.seq (Cj.region (J.z q0 ?_))))
  refine J.z (yl_add rfl rfl rfl (w64 (by omega))) ?_
  refine J.z q1 ?_
  refine J.nil (Ej.round (k + 1, _, o1) ⟨by dsimp only; omega, by dsimp only; omega, hIJ, by dsimp only; rw [hnx, List.foldl_append]; rw [he0.t, he0.vals] at hok1; show IxOk _ _ (Ix.act _ x.a); rw [act_f hdr]; exact hok1⟩ (by dsimp only; omega) ⟨rfl, rfl, rfl, trivial⟩ rfl rfl)
 have hc3p := odf hc3
 refine Cj.exit (Ej.seqExit (Ej.loopExit (Ej.blkExit (Ej.seq (Cj.seq ?_)))))
 have hpl := play_eq hk (by omega)
 rw [hpl] at hok
 refine Cj.region (J.z q0 ?_)
 refine J.z q0 ?_
 refine J.op rfl (op_call (H1 := []) rfl rfl rfl rfl rfl (rPlay_ok xs _ hao _ hA) ?_ (fun _ _ _ _ ⟨_, _, _, h, _⟩ => by cases h) (fun _ _ ⟨_, _, _, h, _⟩ => by cases h))
 intro v25 I26 H27 hle28 hp29
 have hok := hok.mono hle28
 obtain ⟨rb, es, w, h, hE, hL, hek, hel, rfl⟩ := hp29; cases h
 refine J.z q1 ?_
 refine J.z q1 ?_
 refine J.ns (Cj.ret (q20 ?_))
 exact ⟨b1, o, rb, es, w, rfl, hok, hE, hL, hek, by omega, rfl⟩
end Go.Proofs.YtekmeaoblpfnpaaGreatDoor
namespace Go.Sx
open Go
structure Fact where
  p : Value → Heap → Prop
  m : ∀ v I I', p v I → Le I I' → p v I'
def Fact.is (v0 : Value) : Fact := ⟨fun v _ => v = v0, fun _ _ _ h _ => h⟩
theorem countP_lt {α : Type} {p q : α → Bool} : ∀ {l : List α} {i : α}, (∀ x ∈ l, q x = true → p x = true) → i ∈ l → p i = true → q i = false → l.countP q < l.countP p
  | [], _, _, h, _, _ => by cases h
  | a :: r, i, hs, hi, hp, hq => by
    have hs' : ∀ x ∈ r, q x = true → p x = true := fun x hx => hs x (.tail _ hx)
    have hle : r.countP q ≤ r.countP p := List.countP_mono_left hs'
    rw [List.countP_cons, List.countP_cons]
    by_cases ha : a = i
    · subst ha; rw [hp, hq]; simp; omega
    have hr : i ∈ r := by
      rcases List.mem_cons.1 hi with g | g
      · exact absurd g.symm ha
      exact g
    have := countP_lt hs' hr hp hq
    have h2 := hs a (.head _)
    cases hqa : q a with
    | false => simp; omega
    | true => rw [h2 hqa]; simp; omega
theorem OpJ.mono {cx : Cx} {Q : Qt} {o : Oper} {e : Env} {I : Heap} {H : HL} {C C' : Ct} (h : OpJ cx Q o e I H C) (hc : ∀ e' I' H', C e' I' H' → C' e' I' H') : OpJ cx Q o e I H C' :=
  fun K hK a w ha hs => h K (fun e' I' H' h1 => hK e' I' H' (hc e' I' H' h1)) a w ha hs
def waitsFor (l : List Oper) (k j : Nat) : Bool := match l[k]? with
  | none => false
  | some o => o.after.any fun ed => Region.binds .any ed && ed.on == j
def backwards (l : List Oper) : Bool := (List.range l.length).all fun k => match l[k]? with
  | none => true
  | some o => o.after.all fun ed => !Region.binds .any ed || Nat.blt ed.on k
def dsts (l : List Oper) : List Nat := l.filterMap (·.dst)
def dstAll (l : List Oper) : Bool := l.all (·.dst.isSome) && decide (dsts l).Nodup
theorem dst_inj : ∀ {l : List Oper}, (∀ o ∈ l, o.dst.isSome = true) → (dsts l).Nodup → ∀ {j k : Nat} {oj ok : Oper} {d : Nat}, l[j]? = some oj → l[k]? = some ok → oj.dst = some d → ok.dst = some d → j = k
  | [], _, _, j, _, _, _, _, h, _, _, _ => by simp at h
  | a :: r, hs, hn, j, k, oj, ok, d, hj, hk, h1, h2 => by
    obtain ⟨x, hx⟩ := Option.isSome_iff_exists.1 (hs a (.head _))
    have hc : dsts (a :: r) = x :: dsts r := by unfold dsts; rw [List.filterMap_cons, hx]
    rw [hc, List.nodup_cons] at hn
    have hs' : ∀ o ∈ r, o.dst.isSome = true := fun o ho => hs o (.tail _ ho)
    have hin : ∀ {i : Nat} {o : Oper}, r[i]? = some o → o.dst = some x → False := fun {i o} hi ho => hn.1 (List.mem_filterMap.2 ⟨o, List.mem_of_getElem? hi, ho⟩)
    match j, k with
    | 0, 0 => rfl
    | 0, k + 1 =>
      cases hj
      rw [List.getElem?_cons_succ] at hk
      exact absurd (by rw [h2, ← h1, hx]) fun g => hin hk g
    | j + 1, 0 =>
      cases hk
      rw [List.getElem?_cons_succ] at hj
      exact absurd (by rw [h1, ← h2, hx]) fun g => hin hj g
    | j + 1, k + 1 =>
      rw [List.getElem?_cons_succ] at hj hk
      rw [dst_inj hs' hn.2 hj hk h1 h2]
section
variable {cx : Cx} {Q : Qt} {l : List Oper} {I1 : Heap} {H : HL} {e0 : Env}
def Base (l : List Oper) (e0 e : Env) : Prop := ∀ t, t ∉ dsts l → eg e t = eg e0 t
def FlowT (cx : Cx) (_l : List Oper) (F : Nat → Fact) (k d : Nat) (e : Env) (I : Heap) (H : HL) : Ct := fun e' I' H' =>
  ∃ v K, e' = (d, v) :: e ∧ H' = K ++ H ∧ (∀ p ∈ K, cx.w0.heap.size ≤ p.1) ∧ Le I I' ∧ ∀ I'', Le I' I'' → (∀ p ∈ K, I'' p.1 = some p.2) → (F k).p v I''
def Known (l : List Oper) (F : Nat → Fact) (e : Env) (I : Heap) (j : Nat) : Prop := ∀ oj dj, l[j]? = some oj → oj.dst = some dj → ∃ v, eg e dj = some v ∧ (F j).p v I
theorem JA.flowN (F : Nat → Fact) (hb : backwards l = true) (hd : dstAll l = true)
    (step : ∀ k o d, l[k]? = some o → o.dst = some d → ∀ e I, Le I1 I → Base l e0 e → (∀ j, waitsFor l k j = true → Known l F e I j) → o.guard = none ∧ OpJ cx Q o e I H (FlowT cx l F k d e I H))
    (fin : ∀ e I, Le I1 I → Base l e0 e → (∀ k, Known l F e I k) → Ej cx Q .normal e I H) :
    ∀ (fuel : Nat) (listed : Array Bool) (e : Env) (I : Heap), listed.size = l.length → (List.range l.length).countP (fun i => !listed.getD i true) ≤ fuel → Le I1 I → Base l e0 e →
      (∀ k, listed.getD k false = true → Known l F e I k) → JA cx Q l I1 [] [] l.length fuel listed e I H := by
  have hds := hd
  unfold dstAll at hds
  rw [Bool.and_eq_true, List.all_eq_true, decide_eq_true_eq] at hds
  have hall : ∀ (listed : Array Bool) (e : Env) (I : Heap), listed.size = l.length → Region.ready .any l.toArray listed = [] → (∀ k, listed.getD k false = true → Known l F e I k) → ∀ k, Known l F e I k := by
    intro listed e I hsz hr hk k
    have hL : ∀ k, k < l.length → listed.getD k false = true := by
      intro k
      induction k using Nat.strongRecOn with
      | ind k ih =>
        intro hk
        refine Classical.byContradiction fun hn => ?_
        have hlt : k < listed.size := by omega
        have h1 : listed.getD k true = false := by
          rw [Array.getD, dif_pos hlt] at hn ⊢
          simpa using hn
        have h2 : k ∈ Region.ready .any l.toArray listed := by
          rw [mem_ready]
          refine ⟨h1, l[k], by simp [hk], fun ed hed hbd => ?_⟩
          have h3 := List.all_eq_true.1 hb k (List.mem_range.2 hk)
          rw [List.getElem?_eq_getElem hk] at h3
          have h4 := Array.all_eq_true_iff_forall_mem.1 h3 ed hed
          rw [hbd] at h4
          have h5 : ed.on < k := Nat.le_of_ble_eq_true (by simpa [Nat.blt] using h4)
          exact ih ed.on h5 (by omega)
        rw [hr] at h2; cases h2
    rcases Nat.lt_or_ge k l.length with g | g
    · exact hk k (hL k g)
    intro oj dj hj _
    rw [List.getElem?_eq_none g] at hj; cases hj
  intro fuel
  induction fuel with
  | zero =>
    intro listed e I hsz hc hle hba hk
    have hr : Region.ready .any l.toArray listed = [] := by
      refine List.eq_nil_iff_forall_not_mem.2 fun i hi => ?_
      obtain ⟨h1, o, h2, _⟩ := mem_ready.1 hi
      have h3 : i < l.length := by
        rcases Nat.lt_or_ge i l.length with g | g
        · exact g
        simp [List.getElem?_eq_none g] at h2
      have h4 : 0 < (List.range l.length).countP (fun i => !listed.getD i true) := List.countP_pos_iff.2 ⟨i, List.mem_range.2 h3, by rw [h1]; rfl⟩
      omega
    exact JA.done hr (fin e I hle hba (hall listed e I hsz hr hk))
  | succ fuel ih =>
    intro listed e I hsz hc hle hba hk
    by_cases hr : Region.ready .any l.toArray listed = []
    · exact JA.done hr (fin e I hle hba (hall listed e I hsz hr hk))
    refine JA.all _ rfl hr fun i hi => ?_
    obtain ⟨h1, o, h2, h3⟩ := mem_ready.1 hi
    have h2' : l[i]? = some o := by simpa using h2
    have hil : i < l.length := (List.getElem?_eq_some_iff.1 h2').1
    obtain ⟨d, hod⟩ := Option.isSome_iff_exists.1 (hds.1 o (List.mem_of_getElem? h2'))
    have hst := step i o d h2' hod e I hle hba fun j hj => by
      unfold waitsFor at hj
      rw [h2'] at hj
      obtain ⟨ed, hed, hp⟩ := Array.any_eq_true'.1 hj
      rw [Bool.and_eq_true, beq_iff_eq] at hp
      rw [← hp.2]
      exact hk _ (h3 ed hed hp.1)
    refine ⟨o, h2, hst.1, hst.2.mono ?_⟩
    rintro e' I' H' ⟨v, K, rfl, rfl, hK, hle', hF⟩
    refine ⟨⟨hle.trans hle', trivial, trivial⟩, ?_⟩
    refine persists_any (X := fun I H => JA cx Q l I1 [] [] l.length fuel (listed.setIfInBounds i true) ((d, v) :: e) I H) (base := cx.w0.heap.size) (fun _ _ _ _ hb k => JA.persist hb k) K I' hK fun I'' hle'' hKI => ?_
    have hdm : d ∈ dsts l := List.mem_filterMap.2 ⟨o, List.mem_of_getElem? h2', hod⟩
    refine ih _ _ _ (by simpa using hsz) ?_ ((hle.trans hle').trans hle'') (fun t ht => ?_) fun k hkl => ?_
    · have hlt := countP_lt (l := List.range l.length) (p := fun i => !listed.getD i true) (q := fun j => !(listed.setIfInBounds i true).getD j true) (i := i) (fun x _ hx => ?_) (List.mem_range.2 hil) (by rw [h1]; rfl) ?_
      · omega
      · by_cases hxi : i = x
        · subst hxi; rw [h1]; rfl
        rwa [getD_set_ne true hxi] at hx
      have : i < (listed.setIfInBounds i true).size := by rw [Array.size_setIfInBounds]; omega
      rw [Array.getD, dif_pos this]
      simp
    · have hne : Nat.beq d t = false := by
        refine Bool.eq_false_iff.2 fun g => ht ?_
        rw [← Nat.eq_of_beq_eq_true g]; exact hdm
      show (bif Nat.beq d t then some v else eg e t) = _
      rw [hne]; exact hba t ht
    by_cases hki : i = k
    · subst hki
      intro oj dj hj hdj
      rw [h2'] at hj; cases hj
      rw [hod] at hdj; cases hdj
      refine ⟨v, ?_, hF I'' hle'' hKI⟩
      show (bif Nat.beq d d then some v else eg e d) = _
      rw [Nat.beq_refl]; rfl
    rw [getD_set_ne false hki] at hkl
    intro oj dj hj hdj
    obtain ⟨u, hu, hp⟩ := hk k hkl oj dj hj hdj
    refine ⟨u, ?_, (F k).m _ _ _ hp (hle'.trans hle'')⟩
    have hne : Nat.beq d dj = false := by
      refine Bool.eq_false_iff.2 fun g => hki ?_
      have := Nat.eq_of_beq_eq_true g
      subst this
      exact dst_inj hds.1 hds.2 h2' hj hod hdj
    show (bif Nat.beq d dj then some v else eg e dj) = _
    rw [hne]; exact hu
theorem Cj.flow {id : Nat} (F : Nat → Fact) (hm : cx.P.follows .mixedOrders = true) (hb : backwards l = true) (hd : dstAll l = true)
    (step : ∀ k o d, l[k]? = some o → o.dst = some d → ∀ e I, Le I1 I → Base l e0 e → (∀ j, waitsFor l k j = true → Known l F e I j) → o.guard = none ∧ OpJ cx Q o e I H (FlowT cx l F k d e I H))
    (fin : ∀ e I, Le I1 I → Base l e0 e → (∀ k, Known l F e I k) → Ej cx Q .normal e I H)
    (hnd : cx.rd = none ∨ (noDefer l.toArray = true ∧ ¬ LetsOut Q) := by first | exact .inl rfl | exact .inr ⟨rfl, fun h => h.elim fun _ h => h.elim fun _ h => h⟩) : Cj cx Q (.region id l.toArray true) e0 I1 H := by
  refine Cj.draw [] [] l.length hm (JA.flowN F hb hd step fin _ _ _ _ (by simp) ?_ (Le.refl _) (fun _ _ => rfl) fun k hk => ?_) hnd
  · exact Nat.le_trans List.countP_le_length (by simp)
  rw [Array.getD] at hk
  split at hk
  · simp at hk
  cases hk
end
end Go.Sx
namespace Go.Proofs.YtekmeaoblpfnpaaGreatDoor
open _root_.Go.Proofs.Tryz
open Go Go.Sx
def ss2 : List Ke.Sub := [⟨97, [84, 104, 101, 32, 115, 101, 97, 32, 58]⟩, ⟨98, [97, 32, 115, 116, 111, 114, 121]⟩]
def ff2 (w : Value) : Ke.Fld := ⟨[50, 52, 53], [49, 52], [], w, ss2⟩
def ss4 : List Ke.Sub := [⟨97, [48, 45, 51, 48, 54, 45, 52, 48, 54, 49, 53, 45, 50]⟩]
def ff4 (w : Value) : Ke.Fld := ⟨[48, 50, 48], [32, 32], [], w, ss4⟩
def ss6 : List Ke.Sub := [⟨99, [99, 49, 57, 57, 57, 46]⟩]
def ff6 (w : Value) : Ke.Fld := ⟨[50, 54, 48], [32, 32], [], w, ss6⟩
def ss12 : List Ke.Sub := [⟨97, [83, 101, 97, 32, 115, 116, 111, 114, 105, 101, 115]⟩]
def ff12 (w : Value) : Ke.Fld := ⟨[50, 52, 53], [49, 48], [], w, ss12⟩
def ss14 : List Ke.Sub := [⟨97, [87, 111, 111, 108, 102, 44, 32, 86, 105, 114, 103, 105, 110, 105, 97]⟩]
def ff14 (w : Value) : Ke.Fld := ⟨[49, 48, 48], [49, 32], [], w, ss14⟩
def ss16 : List Ke.Sub := [⟨97, [83, 101, 97]⟩, ⟨120, [72, 105, 115, 116, 111, 114, 121]⟩]
def ff16 (w : Value) : Ke.Fld := ⟨[54, 53, 48], [32, 32], [], w, ss16⟩
def fs1 (a b c : Value) : List Ke.Fld := [ff2 a, ff4 b, ff6 c]
def fs2 (a b c : Value) : List Ke.Fld := [ff12 a, ff14 b, ff16 c]
def ns1 : List Ke.Fld := fs1 (.slice none 0 0) (.slice none 0 0) (.slice none 0 0)
def ns2 : List Ke.Fld := fs2 (.slice none 0 0) (.slice none 0 0) (.slice none 0 0)
def LS : Ix.Ix := [((1, 1), Ix.vals ns1), ((2, 1), Ix.vals ns2)]
theorem vals1_n (a b c : Value) : Ix.vals (fs1 a b c) = Ix.vals ns1 := by rw [← vals_nrm]; rfl
theorem vals2_n (a b c : Value) : Ix.vals (fs2 a b c) = Ix.vals ns2 := by rw [← vals_nrm]; rfl
theorem eok1 (a b c : Value) : EOK (fs1 a b c) := ⟨odt rfl, fun f hf => by
  simp only [fs1, List.mem_cons, List.not_mem_nil, or_false] at hf
  rcases hf with rfl | rfl | rfl <;> exact ⟨odt rfl, odt rfl, odt rfl⟩⟩
theorem eok2 (a b c : Value) : EOK (fs2 a b c) := ⟨odt rfl, fun f hf => by
  simp only [fs2, List.mem_cons, List.not_mem_nil, or_false] at hf
  rcases hf with rfl | rfl | rfl <;> exact ⟨odt rfl, odt rfl, odt rfl⟩⟩
theorem tok_eok {fs : List Ke.Fld} (h : EOK fs) : ∀ v ∈ Ix.vals fs, v.text.length ≤ 4000000 := fun v hv => by
  unfold Ix.vals at hv
  obtain ⟨f, hf, hv⟩ := List.mem_flatMap.1 hv
  obtain ⟨k1, k2, k3⟩ := h.2 f hf
  unfold Ix.vals1 at hv
  rcases List.mem_append.1 hv with g | g
  · obtain ⟨s, hs, rfl⟩ := List.mem_map.1 g
    have := named_text hs
    dsimp only; omega
  split at g
  · rw [List.mem_singleton] at g
    subst g
    have := textX_len f []
    rw [textX_all] at this
    dsimp only; omega
  cases g
theorem ls_tok : Ix.TOK LS := fun e he => by
  have he : e = ((1, 1), Ix.vals ns1) ∨ e = ((2, 1), Ix.vals ns2) := by simpa [LS] using he
  rcases he with rfl | rfl
  · exact tok_eok (eok1 _ _ _)
  exact tok_eok (eok2 _ _ _)
theorem tok_few {L : Ix.Ix} (h : Ix.Few L) : Ix.TOK L := fun e he => by
  obtain ⟨a, ha⟩ := h.2 e he
  rw [ha]
  unfold Ix.ActL.vs
  exact tok_eok (made_eok (l := a.fs.take 8) (by show Ke.nrm (Ix.madeR _) = Ix.madeR _; unfold Ix.madeR Ke.nrm; rw [List.map_map]; refine List.map_congr_left fun q _ => ?_; unfold Function.comp Ke.nrm1 Ix.fldN; split <;> rfl))
def fStrs (l : List (List UInt8)) : Fact := ⟨fun v I => StrP I l v, fun _ _ _ h hle => h.mono hle⟩
def fFld (f : Value → Ke.Fld) (ss : List Ke.Sub) : Fact := ⟨fun v I => ∃ w, v = .agg (fldC (f w)).toArray ∧ RowS subC I ss w, fun _ _ _ ⟨w, h1, h2⟩ hle => ⟨w, h1, h2.mono hle⟩⟩
def fRow (fs : Value → Value → Value → List Ke.Fld) : Fact := ⟨fun v I => ∃ a b c, RecS I (fs a b c) v, fun _ _ _ ⟨a, b, c, h⟩ hle => ⟨a, b, c, h.mono hle⟩⟩
def fRcd (fs : Value → Value → Value → List Ke.Fld) : Fact := ⟨fun v I => ∃ w a b c, v = recV 0 0 w ∧ RecS I (fs a b c) w, fun _ _ _ ⟨w, a, b, c, h1, h⟩ hle => ⟨w, a, b, c, h1, h.mono hle⟩⟩
def fEnt (t : Ix.Rec) (fs : Value → Value → Value → List Ke.Fld) : Fact := ⟨fun v I => ∃ w a b c, v = .agg (entC ⟨t, 0, 0, w, fs a b c⟩).toArray ∧ RecS I (fs a b c) w, fun _ _ _ ⟨w, a, b, c, h1, h⟩ hle => ⟨w, a, b, c, h1, h.mono hle⟩⟩
def fEnts : Fact := ⟨fun v I => ∃ es, EntsS I es v ∧ es.length = 2 ∧ (∀ e ∈ es, EOK e.fs) ∧ Ix.rputs (es.map entL) [] = LS, fun _ _ _ ⟨es, h1, h2⟩ hle => ⟨es, h1.mono hle, h2⟩⟩
def fIxp : Fact := ⟨fun v I => ∃ ib, v = ptr ib 0 ∧ IxP I ib LS, fun _ _ _ ⟨ib, h1, h2⟩ hle => ⟨ib, h1, h2.mono hle⟩⟩
def fAny : Fact := ⟨fun _ _ => True, fun _ _ _ _ _ => trivial⟩
theorem strP_blk {I : Heap} {b : Nat} {l : List (List UInt8)} (h : I b = some (cel 9 (l.map str))) : StrP I l (.slice (some ⟨b, 0, none⟩) l.length l.length) :=
  strC_row.2 (RowS.of (sp := []) (Nat.le_refl _) (by rw [h, List.append_nil]; congr 1; congr 1; rw [← List.flatMap_singleton' (l.map str), List.flatMap_map]))
theorem one_ge {n b : Nat} {o : Obj} (h : n ≤ b) : ∀ p ∈ [(b, o)], n ≤ p.1 := fun p hp => by rw [List.mem_singleton.1 hp]; exact h
theorem none_ge {n : Nat} : ∀ p ∈ ([] : HL), n ≤ p.1 := fun p hp => by cases hp
theorem ls_eq (a b c x y z w u : Value) : Ix.rputs ([(⟨(1, 1), 0, 0, w, fs1 a b c⟩ : Ent), ⟨(2, 1), 0, 0, u, fs2 x y z⟩].map entL) [] = LS := by
  show Ix.rputs [((1, 1), Ix.vals (fs1 a b c)), ((2, 1), Ix.vals (fs2 x y z))] [] = LS
  rw [vals1_n, vals2_n]
  generalize hv : Ix.vals ns1 = v
  generalize hu : Ix.vals ns2 = u
  have : LS = [((1, 1), v), ((2, 1), u)] := by unfold LS; rw [hv, hu]
  rw [this]; rfl
theorem ssort : Ix.sortOf LS (1, 1) < Ix.sortOf LS (2, 1) := by decide +kernel
theorem sr1 : Ix.IsRun LS (Ix.bothQ 2 (Ix.termQ [116, 105, 116, 108, 101] [61] [115, 101, 97]) (Ix.termQ [97, 117, 116, 104, 111, 114] [61] [119, 111, 111, 108, 102])) [(2, 1)] := by
  refine Ix.isRun_by ?_ ?_ ?_
  · exact List.pairwise_singleton _ _
  · intro t ht
    have ht : t ∈ [((1, 1) : Ix.Rec), (2, 1)] := ht
    simp only [List.mem_cons, List.not_mem_nil, or_false] at ht
    rcases ht with rfl | rfl <;> decide +kernel
  intro t ht
  revert t
  decide +kernel
theorem sr2 : Ix.IsRun LS (Ix.termQ [97, 110, 121] [97, 110, 121] [104, 105, 115, 116, 111, 114, 121, 32, 115, 116, 111, 114, 121]) [(1, 1), (2, 1)] := by
  refine Ix.isRun_by ?_ ?_ ?_
  · exact List.pairwise_cons.2 ⟨fun t ht => by rw [List.mem_singleton.1 ht]; exact .inl ssort, List.pairwise_singleton _ _⟩
  · intro t ht
    have ht : t ∈ [((1, 1) : Ix.Rec), (2, 1)] := ht
    simp only [List.mem_cons, List.not_mem_nil, or_false] at ht
    rcases ht with rfl | rfl <;> decide +kernel
  intro t ht
  revert t
  decide +kernel
theorem sr3 : Ix.IsRun LS (Ix.termQ [121, 101, 97, 114] [60] [50, 48, 48, 48]) [(1, 1)] := by
  refine Ix.isRun_by ?_ ?_ ?_
  · exact List.pairwise_singleton _ _
  · intro t ht
    have ht : t ∈ [((1, 1) : Ix.Rec), (2, 1)] := ht
    simp only [List.mem_cons, List.not_mem_nil, or_false] at ht
    rcases ht with rfl | rfl <;> decide +kernel
  intro t ht
  revert t
  decide +kernel
theorem sr4 : Ix.IsRun LS (Ix.termQ [121, 101, 97, 114] [62, 61] [50, 48, 48, 48]) [] := by
  refine Ix.isRun_by ?_ ?_ ?_
  · exact List.Pairwise.nil
  · intro t ht
    have ht : t ∈ [((1, 1) : Ix.Rec), (2, 1)] := ht
    simp only [List.mem_cons, List.not_mem_nil, or_false] at ht
    rcases ht with rfl | rfl <;> decide +kernel
  intro t ht
  revert t
  decide +kernel
theorem sr5 : Ix.IsRun LS (Ix.bothQ 4 (Ix.termQ [116, 105, 116, 108, 101] [97, 108, 108] [115, 101, 97, 32, 115, 116, 111, 114, 105, 101, 115]) (Ix.termQ [97, 117, 116, 104, 111, 114] [61] [119, 111, 111, 108, 102])) [] := by
  refine Ix.isRun_by ?_ ?_ ?_
  · exact List.Pairwise.nil
  · intro t ht
    have ht : t ∈ [((1, 1) : Ix.Rec), (2, 1)] := ht
    simp only [List.mem_cons, List.not_mem_nil, or_false] at ht
    rcases ht with rfl | rfl <;> decide +kernel
  intro t ht
  revert t
  decide +kernel
def flow3 : Nat → Fact
  | 0 => .is (.agg #[i64 1, i64 1])
  | 1 => fStrs (ss2.map (·.text))
  | 2 => fFld ff2 ss2
  | 3 => fStrs (ss4.map (·.text))
  | 4 => fFld ff4 ss4
  | 5 => fStrs (ss6.map (·.text))
  | 6 => fFld ff6 ss6
  | 7 => fRow fs1
  | 8 => fRcd fs1
  | 9 => fEnt (1, 1) fs1
  | 10 => .is (.agg #[i64 2, i64 1])
  | 11 => fStrs (ss12.map (·.text))
  | 12 => fFld ff12 ss12
  | 13 => fStrs (ss14.map (·.text))
  | 14 => fFld ff14 ss14
  | 15 => fStrs (ss16.map (·.text))
  | 16 => fFld ff16 ss16
  | 17 => fRow fs2
  | 18 => fRcd fs2
  | 19 => fEnt (2, 1) fs2
  | 20 => fEnts
  | 21 => fIxp
  | 22 => fIxp
  | _ => fAny
theorem sanity_ok (I : Heap) (hT : STab I) : Pure Tryz.prog 14 [] I (.bool true) := by
 refine Ctr.toPure ?_
 refine Ctr.ob func14 ?_
 intro w0 hw0
 refine Cj.sr (J.z q1 ?_)
 refine J.nssr (J.z (yl_buildS (pl := #[(0, 1), (1, 1)]) rfl rfl tZ54 rfl tU54 (fun w => by simp []) (LBld.part rfl rfl rfl (LSpl.c LSpl.z) (LBld.part rfl rfl rfl (LSpl.s (LSpl.c LSpl.z)) LBld.none))) ?_)
 refine J.op rfl (q21 tZ54 ?_)
 intro b1 hb1
 refine J.op rfl (q9 0 tS54 (LSpl.c (LSpl.c LSpl.z)) LSet.z ?_)
 refine J.nssr (J.z (yl_buildS (pl := #[(0, 1), (1, 1)]) rfl rfl tZ54 rfl tU54 (fun w => by simp []) (LBld.part rfl rfl rfl (LSpl.c LSpl.z) (LBld.part rfl rfl rfl (LSpl.s (LSpl.c LSpl.z)) LBld.none))) ?_)
 refine J.op rfl (q21 tZ54 ?_)
 intro b2 hb2
 refine J.op rfl (q9 0 tS54 (LSpl.c (LSpl.c LSpl.z)) LSet.z ?_)
 refine J.nss (Cj.flow flow3 (by kernel_rfl) (by kernel_rfl) (by kernel_rfl) (fun k o d hk hd e I2 hle hba hdep => ?_) (fun e I2 hle hba hkn => ?_))
 ·match k, hk with
  | 0, hk =>
   obtain rfl := Option.some.inj hk
   obtain rfl := Option.some.inj hd
   have ht : eg e 1 = some (ptr b1 0) := (hba 1 (by decide)).trans rfl
   exact ⟨rfl, q7 (yl_loadAgg (vs := [i64 1, i64 1]) rfl ht tA54 tS54 (Blk.at 1 rfl) rfl rfl) ⟨_, [], rfl, rfl, none_ge, Le.refl _, fun _ _ _ => rfl⟩⟩
  | 1, hk =>
   obtain rfl := Option.some.inj hk
   obtain rfl := Option.some.inj hd
   exact ⟨rfl, q17 tU69 tS9 tZ9 (LCat.one rfl (LCat.one rfl LCat.none)) (fun b hb => ⟨_, [(b, _)], rfl, rfl, one_ge hb, Le.refl _, fun I3 _ hK => strP_blk (l := ss2.map Ke.Sub.text) (hK _ (.head _))⟩)⟩
  | 2, hk =>
   obtain rfl := Option.some.inj hk
   obtain rfl := Option.some.inj hd
   obtain ⟨va, ha, pa⟩ := hdep 1 (by kernel_rfl) _ _ rfl rfl
   refine ⟨rfl, op_callN (vs := [str [50, 52, 53], str [49, 52], str [97, 98], va]) (fst := []) (cap := []) rfl rfl rfl rfl (by simp only [evs, ev, ha]; rfl) (text_ok [50, 52, 53] [49, 52] ss2 va (by decide) _ pa) (fun v I3 H3 hle3 _ hp => ?_) (fun _ _ _ _ ⟨_, h, _⟩ => by cases h) (fun _ _ ⟨_, h, _⟩ => by cases h)⟩
   obtain ⟨w, h, hw, rfl⟩ := hp; cases h
   exact ⟨_, [], rfl, rfl, none_ge, hle3, fun I4 hle4 _ => ⟨w, rfl, hw.mono hle4⟩⟩
  | 3, hk =>
   obtain rfl := Option.some.inj hk
   obtain rfl := Option.some.inj hd
   exact ⟨rfl, q17 tU69 tS9 tZ9 (LCat.one rfl LCat.none) (fun b hb => ⟨_, [(b, _)], rfl, rfl, one_ge hb, Le.refl _, fun I3 _ hK => strP_blk (l := ss4.map Ke.Sub.text) (hK _ (.head _))⟩)⟩
  | 4, hk =>
   obtain rfl := Option.some.inj hk
   obtain rfl := Option.some.inj hd
   obtain ⟨va, ha, pa⟩ := hdep 3 (by kernel_rfl) _ _ rfl rfl
   refine ⟨rfl, op_callN (vs := [str [48, 50, 48], str [32, 32], str [97], va]) (fst := []) (cap := []) rfl rfl rfl rfl (by simp only [evs, ev, ha]; rfl) (text_ok [48, 50, 48] [32, 32] ss4 va (by decide) _ pa) (fun v I3 H3 hle3 _ hp => ?_) (fun _ _ _ _ ⟨_, h, _⟩ => by cases h) (fun _ _ ⟨_, h, _⟩ => by cases h)⟩
   obtain ⟨w, h, hw, rfl⟩ := hp; cases h
   exact ⟨_, [], rfl, rfl, none_ge, hle3, fun I4 hle4 _ => ⟨w, rfl, hw.mono hle4⟩⟩
  | 5, hk =>
   obtain rfl := Option.some.inj hk
   obtain rfl := Option.some.inj hd
   exact ⟨rfl, q17 tU69 tS9 tZ9 (LCat.one rfl LCat.none) (fun b hb => ⟨_, [(b, _)], rfl, rfl, one_ge hb, Le.refl _, fun I3 _ hK => strP_blk (l := ss6.map Ke.Sub.text) (hK _ (.head _))⟩)⟩
  | 6, hk =>
   obtain rfl := Option.some.inj hk
   obtain rfl := Option.some.inj hd
   obtain ⟨va, ha, pa⟩ := hdep 5 (by kernel_rfl) _ _ rfl rfl
   refine ⟨rfl, op_callN (vs := [str [50, 54, 48], str [32, 32], str [99], va]) (fst := []) (cap := []) rfl rfl rfl rfl (by simp only [evs, ev, ha]; rfl) (text_ok [50, 54, 48] [32, 32] ss6 va (by decide) _ pa) (fun v I3 H3 hle3 _ hp => ?_) (fun _ _ _ _ ⟨_, h, _⟩ => by cases h) (fun _ _ ⟨_, h, _⟩ => by cases h)⟩
   obtain ⟨w, h, hw, rfl⟩ := hp; cases h
   exact ⟨_, [], rfl, rfl, none_ge, hle3, fun I4 hle4 _ => ⟨w, rfl, hw.mono hle4⟩⟩
  | 7, hk =>
   obtain rfl := Option.some.inj hk
   obtain rfl := Option.some.inj hd
   obtain ⟨va, ha, pa⟩ := hdep 2 (by kernel_rfl) _ _ rfl rfl
   obtain ⟨wa, rfl, hwa⟩ := pa
   obtain ⟨vb, hb, pb⟩ := hdep 4 (by kernel_rfl) _ _ rfl rfl
   obtain ⟨wb, rfl, hwb⟩ := pb
   obtain ⟨vc, hc, pc⟩ := hdep 6 (by kernel_rfl) _ _ rfl rfl
   obtain ⟨wc, rfl, hwc⟩ := pc
   refine ⟨rfl, op_buildSlice (vs := [.agg (fldC (ff2 wa)).toArray, .agg (fldC (ff4 wb)).toArray, .agg (fldC (ff6 wc)).toArray]) rfl rfl rfl tU55 tS108 tZ108 rfl (by simp only [List.map, evs, ev, ha, hb, hc]) rfl rfl (LCat.agg rfl (LCat.agg rfl (LCat.agg rfl LCat.none))) (fun b hbb => ⟨_, [(b, _)], rfl, rfl, one_ge hbb, Le.refl _, fun I3 hle3 hK => ⟨wa, wb, wc, RowS.of (l := fs1 wa wb wc) (sp := []) (Nat.le_refl _) (hK _ (.head _)), fun f hf => ?_⟩⟩)⟩
   simp only [fs1, List.mem_cons, List.not_mem_nil, or_false] at hf
   rcases hf with rfl | rfl | rfl
   · exact hwa.mono hle3
   · exact hwb.mono hle3
   exact hwc.mono hle3
  | 8, hk =>
   obtain rfl := Option.some.inj hk
   obtain rfl := Option.some.inj hd
   obtain ⟨va, ha, pa⟩ := hdep 7 (by kernel_rfl) _ _ rfl rfl
   obtain ⟨wa, wb, wc, hw⟩ := pa
   obtain ⟨qp, qc, rfl⟩ := RowS.len hw.1
   exact ⟨rfl, op_yld (yl_buildS (vs := [.slice qp (fs1 wa wb wc).length qc]) (pl := #[(0, 1), (1, 1), (2, 1)]) rfl (by simp only [List.map, evs, ev, ha]) tZ57 rfl tU57 (fun w => by simp []) (LBld.part rfl rfl rfl (LSpl.s (LSpl.s (LSpl.c LSpl.z))) LBld.none)) rfl rfl ⟨_, [], rfl, rfl, none_ge, Le.refl _, fun I3 hle3 _ => ⟨_, wa, wb, wc, rfl, hw.mono hle3⟩⟩⟩
  | 9, hk =>
   obtain rfl := Option.some.inj hk
   obtain rfl := Option.some.inj hd
   obtain ⟨va, ha, pa⟩ := hdep 0 (by kernel_rfl) _ _ rfl rfl
   have pa : va = .agg [i64 1, i64 1].toArray := pa
   subst pa
   obtain ⟨vb, hb, pb⟩ := hdep 8 (by kernel_rfl) _ _ rfl rfl
   obtain ⟨w, wa, wb, wc, rfl, hw⟩ := pb
   exact ⟨rfl, op_yld (yl_buildS (vs := [.agg [i64 1, i64 1].toArray, recV 0 0 w]) (pl := #[(0, 2), (2, 3)]) rfl (by simp only [List.map, evs, ev, ha, hb]) tZ59 rfl tU59 (fun w => by simp []) (LBld.part rfl rfl rfl (LSpl.c (LSpl.c LSpl.z)) (LBld.part rfl rfl rfl (LSpl.s (LSpl.s (LSpl.c (LSpl.c (LSpl.c LSpl.z))))) LBld.none))) rfl rfl ⟨_, [], rfl, rfl, none_ge, Le.refl _, fun I3 hle3 _ => ⟨w, wa, wb, wc, rfl, hw.mono hle3⟩⟩⟩
  | 10, hk =>
   obtain rfl := Option.some.inj hk
   obtain rfl := Option.some.inj hd
   have ht : eg e 2 = some (ptr b2 0) := (hba 2 (by decide)).trans rfl
   exact ⟨rfl, q7 (yl_loadAgg (vs := [i64 2, i64 1]) rfl ht tA54 tS54 (Blk.at 0 rfl) rfl rfl) ⟨_, [], rfl, rfl, none_ge, Le.refl _, fun _ _ _ => rfl⟩⟩
  | 11, hk =>
   obtain rfl := Option.some.inj hk
   obtain rfl := Option.some.inj hd
   exact ⟨rfl, q17 tU69 tS9 tZ9 (LCat.one rfl LCat.none) (fun b hb => ⟨_, [(b, _)], rfl, rfl, one_ge hb, Le.refl _, fun I3 _ hK => strP_blk (l := ss12.map Ke.Sub.text) (hK _ (.head _))⟩)⟩
  | 12, hk =>
   obtain rfl := Option.some.inj hk
   obtain rfl := Option.some.inj hd
   obtain ⟨va, ha, pa⟩ := hdep 11 (by kernel_rfl) _ _ rfl rfl
   refine ⟨rfl, op_callN (vs := [str [50, 52, 53], str [49, 48], str [97], va]) (fst := []) (cap := []) rfl rfl rfl rfl (by simp only [evs, ev, ha]; rfl) (text_ok [50, 52, 53] [49, 48] ss12 va (by decide) _ pa) (fun v I3 H3 hle3 _ hp => ?_) (fun _ _ _ _ ⟨_, h, _⟩ => by cases h) (fun _ _ ⟨_, h, _⟩ => by cases h)⟩
   obtain ⟨w, h, hw, rfl⟩ := hp; cases h
   exact ⟨_, [], rfl, rfl, none_ge, hle3, fun I4 hle4 _ => ⟨w, rfl, hw.mono hle4⟩⟩
  | 13, hk =>
   obtain rfl := Option.some.inj hk
   obtain rfl := Option.some.inj hd
   exact ⟨rfl, q17 tU69 tS9 tZ9 (LCat.one rfl LCat.none) (fun b hb => ⟨_, [(b, _)], rfl, rfl, one_ge hb, Le.refl _, fun I3 _ hK => strP_blk (l := ss14.map Ke.Sub.text) (hK _ (.head _))⟩)⟩
  | 14, hk =>
   obtain rfl := Option.some.inj hk
   obtain rfl := Option.some.inj hd
   obtain ⟨va, ha, pa⟩ := hdep 13 (by kernel_rfl) _ _ rfl rfl
   refine ⟨rfl, op_callN (vs := [str [49, 48, 48], str [49, 32], str [97], va]) (fst := []) (cap := []) rfl rfl rfl rfl (by simp only [evs, ev, ha]; rfl) (text_ok [49, 48, 48] [49, 32] ss14 va (by decide) _ pa) (fun v I3 H3 hle3 _ hp => ?_) (fun _ _ _ _ ⟨_, h, _⟩ => by cases h) (fun _ _ ⟨_, h, _⟩ => by cases h)⟩
   obtain ⟨w, h, hw, rfl⟩ := hp; cases h
   exact ⟨_, [], rfl, rfl, none_ge, hle3, fun I4 hle4 _ => ⟨w, rfl, hw.mono hle4⟩⟩
  | 15, hk =>
   obtain rfl := Option.some.inj hk
   obtain rfl := Option.some.inj hd
   exact ⟨rfl, q17 tU69 tS9 tZ9 (LCat.one rfl (LCat.one rfl LCat.none)) (fun b hb => ⟨_, [(b, _)], rfl, rfl, one_ge hb, Le.refl _, fun I3 _ hK => strP_blk (l := ss16.map Ke.Sub.text) (hK _ (.head _))⟩)⟩
  | 16, hk =>
   obtain rfl := Option.some.inj hk
   obtain rfl := Option.some.inj hd
   obtain ⟨va, ha, pa⟩ := hdep 15 (by kernel_rfl) _ _ rfl rfl
   refine ⟨rfl, op_callN (vs := [str [54, 53, 48], str [32, 32], str [97, 120], va]) (fst := []) (cap := []) rfl rfl rfl rfl (by simp only [evs, ev, ha]; rfl) (text_ok [54, 53, 48] [32, 32] ss16 va (by decide) _ pa) (fun v I3 H3 hle3 _ hp => ?_) (fun _ _ _ _ ⟨_, h, _⟩ => by cases h) (fun _ _ ⟨_, h, _⟩ => by cases h)⟩
   obtain ⟨w, h, hw, rfl⟩ := hp; cases h
   exact ⟨_, [], rfl, rfl, none_ge, hle3, fun I4 hle4 _ => ⟨w, rfl, hw.mono hle4⟩⟩
  | 17, hk =>
   obtain rfl := Option.some.inj hk
   obtain rfl := Option.some.inj hd
   obtain ⟨va, ha, pa⟩ := hdep 12 (by kernel_rfl) _ _ rfl rfl
   obtain ⟨wa, rfl, hwa⟩ := pa
   obtain ⟨vb, hb, pb⟩ := hdep 14 (by kernel_rfl) _ _ rfl rfl
   obtain ⟨wb, rfl, hwb⟩ := pb
   obtain ⟨vc, hc, pc⟩ := hdep 16 (by kernel_rfl) _ _ rfl rfl
   obtain ⟨wc, rfl, hwc⟩ := pc
   refine ⟨rfl, op_buildSlice (vs := [.agg (fldC (ff12 wa)).toArray, .agg (fldC (ff14 wb)).toArray, .agg (fldC (ff16 wc)).toArray]) rfl rfl rfl tU55 tS108 tZ108 rfl (by simp only [List.map, evs, ev, ha, hb, hc]) rfl rfl (LCat.agg rfl (LCat.agg rfl (LCat.agg rfl LCat.none))) (fun b hbb => ⟨_, [(b, _)], rfl, rfl, one_ge hbb, Le.refl _, fun I3 hle3 hK => ⟨wa, wb, wc, RowS.of (l := fs2 wa wb wc) (sp := []) (Nat.le_refl _) (hK _ (.head _)), fun f hf => ?_⟩⟩)⟩
   simp only [fs2, List.mem_cons, List.not_mem_nil, or_false] at hf
   rcases hf with rfl | rfl | rfl
   · exact hwa.mono hle3
   · exact hwb.mono hle3
   exact hwc.mono hle3
  | 18, hk =>
   obtain rfl := Option.some.inj hk
   obtain rfl := Option.some.inj hd
   obtain ⟨va, ha, pa⟩ := hdep 17 (by kernel_rfl) _ _ rfl rfl
   obtain ⟨wa, wb, wc, hw⟩ := pa
   obtain ⟨qp, qc, rfl⟩ := RowS.len hw.1
   exact ⟨rfl, op_yld (yl_buildS (vs := [.slice qp (fs2 wa wb wc).length qc]) (pl := #[(0, 1), (1, 1), (2, 1)]) rfl (by simp only [List.map, evs, ev, ha]) tZ57 rfl tU57 (fun w => by simp []) (LBld.part rfl rfl rfl (LSpl.s (LSpl.s (LSpl.c LSpl.z))) LBld.none)) rfl rfl ⟨_, [], rfl, rfl, none_ge, Le.refl _, fun I3 hle3 _ => ⟨_, wa, wb, wc, rfl, hw.mono hle3⟩⟩⟩
  | 19, hk =>
   obtain rfl := Option.some.inj hk
   obtain rfl := Option.some.inj hd
   obtain ⟨va, ha, pa⟩ := hdep 10 (by kernel_rfl) _ _ rfl rfl
   have pa : va = .agg [i64 2, i64 1].toArray := pa
   subst pa
   obtain ⟨vb, hb, pb⟩ := hdep 18 (by kernel_rfl) _ _ rfl rfl
   obtain ⟨w, wa, wb, wc, rfl, hw⟩ := pb
   exact ⟨rfl, op_yld (yl_buildS (vs := [.agg [i64 2, i64 1].toArray, recV 0 0 w]) (pl := #[(0, 2), (2, 3)]) rfl (by simp only [List.map, evs, ev, ha, hb]) tZ59 rfl tU59 (fun w => by simp []) (LBld.part rfl rfl rfl (LSpl.c (LSpl.c LSpl.z)) (LBld.part rfl rfl rfl (LSpl.s (LSpl.s (LSpl.c (LSpl.c (LSpl.c LSpl.z))))) LBld.none))) rfl rfl ⟨_, [], rfl, rfl, none_ge, Le.refl _, fun I3 hle3 _ => ⟨w, wa, wb, wc, rfl, hw.mono hle3⟩⟩⟩
  | 20, hk =>
   obtain rfl := Option.some.inj hk
   obtain rfl := Option.some.inj hd
   obtain ⟨va, ha, pa⟩ := hdep 9 (by kernel_rfl) _ _ rfl rfl
   obtain ⟨w, wa, wb, wc, rfl, hw⟩ := pa
   obtain ⟨vb, hb, pb⟩ := hdep 19 (by kernel_rfl) _ _ rfl rfl
   obtain ⟨u, ua, ub, uc, rfl, hu⟩ := pb
   obtain ⟨qp, qc, hq⟩ := RowS.len hw.1
   obtain ⟨rp, rc, hr⟩ := RowS.len hu.1
   refine ⟨rfl, op_buildSlice (vs := [.agg (entC ⟨(1, 1), 0, 0, w, fs1 wa wb wc⟩).toArray, .agg (entC ⟨(2, 1), 0, 0, u, fs2 ua ub uc⟩).toArray]) rfl rfl rfl tU48 tS59 tZ59 rfl (by simp only [List.map, evs, ev, ha, hb]) rfl rfl (LCat.agg rfl (LCat.agg rfl LCat.none)) (fun b hbb => ⟨_, [(b, _)], rfl, rfl, one_ge hbb, Le.refl _, fun I3 hle3 hK => ⟨[⟨(1, 1), 0, 0, w, fs1 wa wb wc⟩, ⟨(2, 1), 0, 0, u, fs2 ua ub uc⟩], ⟨RowS.of (sp := []) (Nat.le_refl _) (hK _ (.head _)), fun x hx => ?_⟩, rfl, fun x hx => ?_, ls_eq _ _ _ _ _ _ _ _⟩⟩)⟩
   · simp only [List.mem_cons, List.not_mem_nil, or_false] at hx
     rcases hx with rfl | rfl
     · exact hw.mono hle3
     exact hu.mono hle3
   simp only [List.mem_cons, List.not_mem_nil, or_false] at hx
   rcases hx with rfl | rfl
   · exact eok1 _ _ _
   exact eok2 _ _ _
  | 21, hk =>
   obtain rfl := Option.some.inj hk
   obtain rfl := Option.some.inj hd
   obtain ⟨va, ha, pa⟩ := hdep 20 (by kernel_rfl) _ _ rfl rfl
   obtain ⟨es, hE, hl, hek, hls⟩ := pa
   refine ⟨rfl, op_callN (vs := [va]) (fst := []) (cap := []) rfl rfl rfl rfl (by simp only [evs, ev, ha]) (Build_ok es va (by omega) hek _ hE) (fun v I3 H3 hle3 hn hp => ?_) (fun _ _ _ _ ⟨_, _, h, _⟩ => by cases h) (fun _ _ ⟨_, _, h, _⟩ => by cases h)⟩
   obtain ⟨ib, o, h, hok, rfl⟩ := hp; cases h
   rw [hls] at hok
   exact ⟨_, ixH ib o, rfl, rfl, hn, hle3, fun I4 hle4 hK => ⟨ib, rfl, o, hok.mono hle4, hK⟩⟩
  | 22, hk =>
   obtain rfl := Option.some.inj hk
   obtain rfl := Option.some.inj hd
   obtain ⟨va, ha, pa⟩ := hdep 21 (by kernel_rfl) _ _ rfl rfl
   obtain ⟨ib, rfl, hx⟩ := pa
   exact ⟨rfl, q7 (yl_assign rfl (show ev e (.tmp 37) = some (ptr ib 0) from ha)) ⟨_, [], rfl, rfl, none_ge, Le.refl _, fun I3 hle3 _ => ⟨ib, rfl, hx.mono hle3⟩⟩⟩
  | k + 23, hk => exact absurd hk (by simp)
 obtain ⟨v3, h3, ib, rfl, hx⟩ := hkn 22 _ _ rfl rfl
 refine Ej.weak (e' := [(3, ptr ib 0), (1, ptr b1 0), (2, ptr b2 0)]) ⟨h3, (hba 1 (by decide)).trans rfl, (hba 2 (by decide)).trans rfl, trivial⟩ ?_
 have hT := hT.mono hle
 refine Ej.seq (Cj.sr (J.z q0 ?_))
 refine J.op rfl (op_call (H1 := []) rfl rfl rfl rfl rfl (term_ok [116, 105, 116, 108, 101] [61] [115, 101, 97] _) ?_ (fun _ _ _ _ ⟨h, _⟩ => by cases h) (fun _ _ ⟨h, _⟩ => by cases h))
 intro v3 I4 H5 hle6 hp7
 have hT := hT.mono hle6
 have hx := hx.mono hle6
 obtain ⟨h, rfl⟩ := hp7; cases h
 refine J.op rfl (op_call (H1 := []) rfl rfl rfl rfl rfl (term_ok [97, 117, 116, 104, 111, 114] [61] [119, 111, 111, 108, 102] _) ?_ (fun _ _ _ _ ⟨h, _⟩ => by cases h) (fun _ _ ⟨h, _⟩ => by cases h))
 intro v8 I9 H10 hle11 hp12
 have hT := hT.mono hle11
 have hx := hx.mono hle11
 obtain ⟨h, rfl⟩ := hp12; cases h
 refine J.op rfl (op_call (H1 := []) rfl rfl rfl rfl rfl (both_ok 2 (Ix.termQ [116, 105, 116, 108, 101] [61] [115, 101, 97]) (Ix.termQ [97, 117, 116, 104, 111, 114] [61] [119, 111, 111, 108, 102]) none none 0 0 _ (.inl rfl) (.inl rfl)) ?_ (fun _ _ _ _ h => by obtain ⟨⟨_, _, h, _⟩, _⟩ := h; cases h) (fun _ _ h => by obtain ⟨⟨_, _, h, _⟩, _⟩ := h; cases h))
 intro v13 I14 H15 hle16 hp17
 have hT := hT.mono hle16
 have hx := hx.mono hle16
 obtain ⟨⟨pqa, cqa, h, hqa⟩, rfl⟩ := hp17; cases h
 refine J.op rfl (op_callN rfl rfl rfl rfl rfl (Run_ok (ptr ib 0) LS (Ix.bothQ 2 (Ix.termQ [116, 105, 116, 108, 101] [61] [115, 101, 97]) (Ix.termQ [97, 117, 116, 104, 111, 114] [61] [119, 111, 111, 108, 102])) pqa cqa (by decide) (by decide) (Ix.right_both (by decide) (by decide) (Ix.termQ_form (by decide) (by decide) _) (Ix.termQ_form (by decide) (by decide) _) (by decide) (by decide)) ls_tok _ hqa (.inr ⟨ib, rfl, hx⟩) hT) ?_ (fun _ _ _ _ ⟨_, _, h, _⟩ => by cases h) (fun _ _ ⟨_, _, h, _⟩ => by cases h))
 intro v19 I20 H21 hle22 hn18 hp23
 have hT := hT.mono hle22
 have hx := hx.mono hle22
 obtain ⟨wa, ra, h, hruna, hoa⟩ := hp23; cases h
 obtain rfl := hruna.eq sr1
 refine J.keepO hoa hn18 (fun Ia hlea hra => ?_)
 have hT := hT.mono hlea
 have hx := hx.mono hlea
 replace hra := hra.row
 obtain ⟨pa, ca, rfl⟩ := rowS_len hra
 refine J.z q0 ?_
 refine J.z q11 ?_
 refine J.z q11 ?_
 refine J.z q1 ?_
 refine J.z q1 ?_
 refine J.nssr (J.z q0 ?_)
 refine J.op rfl (op_call (H1 := []) rfl rfl rfl rfl rfl (term_ok [97, 110, 121] [97, 110, 121] [104, 105, 115, 116, 111, 114, 121, 32, 115, 116, 111, 114, 121] _) ?_ (fun _ _ _ _ ⟨h, _⟩ => by cases h) (fun _ _ ⟨h, _⟩ => by cases h))
 intro v24 I25 H26 hle27 hp28
 have hT := hT.mono hle27
 have hx := hx.mono hle27
 have hra := hra.mono hle27
 obtain ⟨h, rfl⟩ := hp28; cases h
 refine J.op rfl (op_callN rfl rfl rfl rfl rfl (Run_ok (ptr ib 0) LS (Ix.termQ [97, 110, 121] [97, 110, 121] [104, 105, 115, 116, 111, 114, 121, 32, 115, 116, 111, 114, 121]) none 0 (by decide) (by decide) (Ix.right_term (by decide) (by decide) _) ls_tok _ (.inl rfl) (.inr ⟨ib, rfl, hx⟩) hT) ?_ (fun _ _ _ _ ⟨_, _, h, _⟩ => by cases h) (fun _ _ ⟨_, _, h, _⟩ => by cases h))
 intro v30 I31 H32 hle33 hn29 hp34
 have hT := hT.mono hle33
 have hx := hx.mono hle33
 have hra := hra.mono hle33
 obtain ⟨wb, rb, h, hrunb, hob⟩ := hp34; cases h
 obtain rfl := hrunb.eq sr2
 refine J.keepO hob hn29 (fun Ib hleb hrb => ?_)
 have hT := hT.mono hleb
 have hx := hx.mono hleb
 have hra := hra.mono hleb
 replace hrb := hrb.row
 obtain ⟨pb, cb, rfl⟩ := rowS_len hrb
 refine J.z q0 ?_
 refine J.z q11 ?_
 refine J.z q11 ?_
 refine J.z q1 ?_
 refine J.z q1 ?_
 refine J.nssr (J.z q0 ?_)
 refine J.op rfl (op_call (H1 := []) rfl rfl rfl rfl rfl (term_ok [121, 101, 97, 114] [60] [50, 48, 48, 48] _) ?_ (fun _ _ _ _ ⟨h, _⟩ => by cases h) (fun _ _ ⟨h, _⟩ => by cases h))
 intro v35 I36 H37 hle38 hp39
 have hT := hT.mono hle38
 have hx := hx.mono hle38
 have hra := hra.mono hle38
 have hrb := hrb.mono hle38
 obtain ⟨h, rfl⟩ := hp39; cases h
 refine J.op rfl (op_callN rfl rfl rfl rfl rfl (Run_ok (ptr ib 0) LS (Ix.termQ [121, 101, 97, 114] [60] [50, 48, 48, 48]) none 0 (by decide) (by decide) (Ix.right_term (by decide) (by decide) _) ls_tok _ (.inl rfl) (.inr ⟨ib, rfl, hx⟩) hT) ?_ (fun _ _ _ _ ⟨_, _, h, _⟩ => by cases h) (fun _ _ ⟨_, _, h, _⟩ => by cases h))
 intro v41 I42 H43 hle44 hn40 hp45
 have hT := hT.mono hle44
 have hx := hx.mono hle44
 have hra := hra.mono hle44
 have hrb := hrb.mono hle44
 obtain ⟨wc, rc, h, hrunc, hoc⟩ := hp45; cases h
 obtain rfl := hrunc.eq sr3
 refine J.keepO hoc hn40 (fun Ic hlec hrc => ?_)
 have hT := hT.mono hlec
 have hx := hx.mono hlec
 have hra := hra.mono hlec
 have hrb := hrb.mono hlec
 replace hrc := hrc.row
 obtain ⟨pc, cc, rfl⟩ := rowS_len hrc
 refine J.z q0 ?_
 refine J.z q11 ?_
 refine J.z q11 ?_
 refine J.z q1 ?_
 refine J.z q1 ?_
 refine J.nssr (J.z q0 ?_)
 refine J.op rfl (op_call (H1 := []) rfl rfl rfl rfl rfl (term_ok [121, 101, 97, 114] [62, 61] [50, 48, 48, 48] _) ?_ (fun _ _ _ _ ⟨h, _⟩ => by cases h) (fun _ _ ⟨h, _⟩ => by cases h))
 intro v46 I47 H48 hle49 hp50
 have hT := hT.mono hle49
 have hx := hx.mono hle49
 have hra := hra.mono hle49
 have hrb := hrb.mono hle49
 have hrc := hrc.mono hle49
 obtain ⟨h, rfl⟩ := hp50; cases h
 refine J.op rfl (op_callN rfl rfl rfl rfl rfl (Run_ok (ptr ib 0) LS (Ix.termQ [121, 101, 97, 114] [62, 61] [50, 48, 48, 48]) none 0 (by decide) (by decide) (Ix.right_term (by decide) (by decide) _) ls_tok _ (.inl rfl) (.inr ⟨ib, rfl, hx⟩) hT) ?_ (fun _ _ _ _ ⟨_, _, h, _⟩ => by cases h) (fun _ _ ⟨_, _, h, _⟩ => by cases h))
 intro v52 I53 H54 hle55 hn51 hp56
 have hT := hT.mono hle55
 have hx := hx.mono hle55
 have hra := hra.mono hle55
 have hrb := hrb.mono hle55
 have hrc := hrc.mono hle55
 obtain ⟨wd, rd, h, hrund, hod⟩ := hp56; cases h
 obtain rfl := hrund.eq sr4
 refine J.keepO hod hn51 (fun Id hled hrd => ?_)
 have hT := hT.mono hled
 have hx := hx.mono hled
 have hra := hra.mono hled
 have hrb := hrb.mono hled
 have hrc := hrc.mono hled
 replace hrd := hrd.row
 obtain ⟨pd, cd, rfl⟩ := rowS_len hrd
 refine J.z q0 ?_
 refine J.z q11 ?_
 refine J.z q11 ?_
 refine J.z q1 ?_
 refine J.z q1 ?_
 refine J.nssr (J.z q0 ?_)
 refine J.op rfl (op_call (H1 := []) rfl rfl rfl rfl rfl (term_ok [116, 105, 116, 108, 101] [97, 108, 108] [115, 101, 97, 32, 115, 116, 111, 114, 105, 101, 115] _) ?_ (fun _ _ _ _ ⟨h, _⟩ => by cases h) (fun _ _ ⟨h, _⟩ => by cases h))
 intro v57 I58 H59 hle60 hp61
 have hT := hT.mono hle60
 have hx := hx.mono hle60
 have hra := hra.mono hle60
 have hrb := hrb.mono hle60
 have hrc := hrc.mono hle60
 obtain ⟨h, rfl⟩ := hp61; cases h
 refine J.op rfl (op_call (H1 := []) rfl rfl rfl rfl rfl (term_ok [97, 117, 116, 104, 111, 114] [61] [119, 111, 111, 108, 102] _) ?_ (fun _ _ _ _ ⟨h, _⟩ => by cases h) (fun _ _ ⟨h, _⟩ => by cases h))
 intro v62 I63 H64 hle65 hp66
 have hT := hT.mono hle65
 have hx := hx.mono hle65
 have hra := hra.mono hle65
 have hrb := hrb.mono hle65
 have hrc := hrc.mono hle65
 obtain ⟨h, rfl⟩ := hp66; cases h
 refine J.op rfl (op_call (H1 := []) rfl rfl rfl rfl rfl (both_ok 4 (Ix.termQ [116, 105, 116, 108, 101] [97, 108, 108] [115, 101, 97, 32, 115, 116, 111, 114, 105, 101, 115]) (Ix.termQ [97, 117, 116, 104, 111, 114] [61] [119, 111, 111, 108, 102]) none none 0 0 _ (.inl rfl) (.inl rfl)) ?_ (fun _ _ _ _ h => by obtain ⟨⟨_, _, h, _⟩, _⟩ := h; cases h) (fun _ _ h => by obtain ⟨⟨_, _, h, _⟩, _⟩ := h; cases h))
 intro v67 I68 H69 hle70 hp71
 have hT := hT.mono hle70
 have hx := hx.mono hle70
 have hra := hra.mono hle70
 have hrb := hrb.mono hle70
 have hrc := hrc.mono hle70
 obtain ⟨⟨pqe, cqe, h, hqe⟩, rfl⟩ := hp71; cases h
 refine J.op rfl (op_callN rfl rfl rfl rfl rfl (Run_ok (ptr ib 0) LS (Ix.bothQ 4 (Ix.termQ [116, 105, 116, 108, 101] [97, 108, 108] [115, 101, 97, 32, 115, 116, 111, 114, 105, 101, 115]) (Ix.termQ [97, 117, 116, 104, 111, 114] [61] [119, 111, 111, 108, 102])) pqe cqe (by decide) (by decide) (Ix.right_both (by decide) (by decide) (Ix.termQ_form (by decide) (by decide) _) (Ix.termQ_form (by decide) (by decide) _) (by decide) (by decide)) ls_tok _ hqe (.inr ⟨ib, rfl, hx⟩) hT) ?_ (fun _ _ _ _ ⟨_, _, h, _⟩ => by cases h) (fun _ _ ⟨_, _, h, _⟩ => by cases h))
 intro v73 I74 H75 hle76 hn72 hp77
 have hra := hra.mono hle76
 have hrb := hrb.mono hle76
 have hrc := hrc.mono hle76
 obtain ⟨we, re, h, hrune, hoe⟩ := hp77; cases h
 obtain rfl := hrune.eq sr5
 refine J.keepO hoe hn72 (fun Ie hlee hre => ?_)
 have hra := hra.mono hlee
 have hrb := hrb.mono hlee
 have hrc := hrc.mono hlee
 replace hre := hre.row
 obtain ⟨pe, ce, rfl⟩ := rowS_len hre
 refine J.z q0 ?_
 refine J.z q11 ?_
 refine J.z q11 ?_
 refine J.z q1 ?_
 refine J.z q1 ?_
 refine J.nssr (J.z q0 ?_)
 refine J.z q19 ?_
 refine J.z q0 ?_
 refine J.opG 2 74 true _ rfl rfl rfl (by first | rfl | decide) (q7 q0 ?_)
 refine J.opG 2 74 true _ rfl rfl rfl (by first | rfl | decide) (q7 (q10 tA54 tS54 (Blk.at 0 rfl)) ?_)
 refine J.opG 2 74 true _ rfl rfl rfl (by first | rfl | decide) (q17 tU36 tS54 tZ54 (LCat.agg rfl LCat.none) ?_)
 intro b78 hb78
 refine J.persist hb78 (fun I80 hle79 hb78i => ?_)
 have hra := hra.mono hle79
 have hrb := hrb.mono hle79
 have hrc := hrc.mono hle79
 have hL78 : RowS recC _ ([(2, 1)] : List Ix.Rec) (.slice (some ⟨b78, 0, none⟩) 1 1) := RowS.of (l := ([(2, 1)] : List Ix.Rec)) (sp := []) (Nat.le_refl _) hb78i
 refine J.opG 2 74 true _ rfl rfl rfl (by first | rfl | decide) (op_pure rfl rfl rfl rfl rfl (rRecs_ok [(2, 1)] [(2, 1)] _ _ (by decide) _ hra hL78) ?_)
 refine J.eqv 78 rfl (show _ = .bool true from (congrArg Value.bool (by decide))) ?_
 refine J.z (yl_pick1 rfl rfl (by first | rfl | decide) rfl) ?_
 refine J.z q0 ?_
 refine J.opG 8 80 true _ rfl rfl rfl rfl (q7 q0 ?_)
 refine J.opG 8 80 true _ rfl rfl rfl rfl (q7 (q10 tA54 tS54 (Blk.at 1 rfl)) ?_)
 refine J.opG 8 80 true _ rfl rfl rfl rfl (q7 (q10 tA54 tS54 (Blk.at 0 rfl)) ?_)
 refine J.opG 8 80 true _ rfl rfl rfl rfl (q17 tU36 tS54 tZ54 (LCat.agg rfl (LCat.agg rfl LCat.none)) ?_)
 intro b81 hb81
 refine J.persist hb81 (fun I83 hle82 hb81i => ?_)
 have hrb := hrb.mono hle82
 have hrc := hrc.mono hle82
 have hL85 : RowS recC _ ([(1, 1), (2, 1)] : List Ix.Rec) (.slice (some ⟨b81, 0, none⟩) 2 2) := RowS.of (l := ([(1, 1), (2, 1)] : List Ix.Rec)) (sp := []) (Nat.le_refl _) hb81i
 refine J.opG 8 80 true _ rfl rfl rfl rfl (op_pure rfl rfl rfl rfl rfl (rRecs_ok [(1, 1), (2, 1)] [(1, 1), (2, 1)] _ _ (by decide) _ hrb hL85) ?_)
 refine J.eqv 85 rfl (show _ = .bool true from (congrArg Value.bool (by decide))) ?_
 refine J.z (yl_pick1 rfl rfl rfl rfl) ?_
 refine J.z q0 ?_
 refine J.opG 15 87 true _ rfl rfl rfl rfl (q7 q0 ?_)
 refine J.opG 15 87 true _ rfl rfl rfl rfl (q7 (q10 tA54 tS54 (Blk.at 1 rfl)) ?_)
 refine J.opG 15 87 true _ rfl rfl rfl rfl (q17 tU36 tS54 tZ54 (LCat.agg rfl LCat.none) ?_)
 intro b84 hb84
 refine J.persist hb84 (fun I86 hle85 hb84i => ?_)
 have hrc := hrc.mono hle85
 have hL91 : RowS recC _ ([(1, 1)] : List Ix.Rec) (.slice (some ⟨b84, 0, none⟩) 1 1) := RowS.of (l := ([(1, 1)] : List Ix.Rec)) (sp := []) (Nat.le_refl _) hb84i
 refine J.opG 15 87 true _ rfl rfl rfl rfl (op_pure rfl rfl rfl rfl rfl (rRecs_ok [(1, 1)] [(1, 1)] _ _ (by decide) _ hrc hL91) ?_)
 refine J.eqv 91 rfl (show _ = .bool true from (congrArg Value.bool (by decide))) ?_
 refine J.z (yl_pick1 rfl rfl rfl rfl) ?_
 refine J.z q0 ?_
 refine J.opG 21 93 true _ rfl rfl rfl rfl (q7 q0 ?_)
 refine J.opG 21 93 true _ rfl rfl rfl rfl (q7 (q14 tU36) ?_)
 refine J.eqv 95 rfl (show _ = i64 0 from rfl) ?_
 refine J.opG 21 93 true _ rfl rfl rfl rfl (q7 q0 ?_)
 refine J.opG 21 93 true _ rfl rfl rfl rfl (q7 (q14 tU36) ?_)
 refine J.eqv 97 rfl (show _ = i64 0 from rfl) ?_
 refine J.opG 21 93 true _ rfl rfl rfl rfl (op_yld (yl_add rfl rfl rfl (w64 (by omega))) rfl rfl ?_)
 refine J.opG 21 93 true _ rfl rfl rfl rfl (q7 q19 ?_)
 refine J.eqv 99 rfl (show _ = .bool true from rfl) ?_
 refine J.z (yl_pick1 rfl rfl rfl rfl) ?_
 refine J.z q1 ?_
 refine J.ns (Cj.ret (Ej.bare ?_))
 refine q5 ?_
 exact ⟨rfl, rfl⟩
end Go.Proofs.YtekmeaoblpfnpaaGreatDoor
namespace Cq
def pickN (x : Int) (n : Nat) : Nat := ((x.tmod n + n).tmod n).toNat
theorem pick_eq (x : Int) {n : Nat} (hn : 0 < n) : (x.tmod n + n).tmod n = (pickN x n : Int) ∧ pickN x n < n ∧ -(n : Int) < x.tmod n ∧ x.tmod n < n := by
  have h1 : -(n : Int) < x.tmod n ∧ x.tmod n < n := by
    have h2 := Int.tmod_lt_of_pos x (b := n) (by omega)
    have h3 := Int.tmod_lt_of_pos (-x) (b := n) (by omega)
    rw [Int.neg_tmod] at h3
    omega
  have h4 := Int.tmod_nonneg (a := x.tmod n + n) n (by omega)
  have h5 := Int.tmod_lt_of_pos (x.tmod n + n) (b := n) (by omega)
  unfold pickN
  omega
def next (l : List Int) (k n : Nat) : Nat × Nat :=
  match l[k]? with
  | some x => (pickN x n, k + 1)
  | none => (0, k)
theorem next_lt (l : List Int) (k : Nat) {n : Nat} (hn : 0 < n) : (next l k n).1 < n := by grind [next, pick_eq]
theorem next_le (l : List Int) {k : Nat} (n : Nat) (h : k ≤ l.length) : (next l k n).2 ≤ l.length := by grind [next]
def texts : List (List UInt8) := [[99, 97, 116], [116, 104, 101, 32, 99, 97, 116], [], [49, 57, 57, 48], [97, 34, 98], [92], [97, 110, 100], [57, 55, 56, 48, 51, 48, 54, 52, 48, 54, 49, 53, 55], [120, 32, 121, 32, 40, 122, 41]]
def leaf (l : List Int) (k : Nat) : Qn × Nat :=
  (⟨1, indexes.getD (next l k 6).1 [], relations.getD (next l (next l k 6).2 6).1 [], texts.getD (next l (next l (next l k 6).2 6).2 9).1 [], .nil⟩, (next l (next l (next l k 6).2 6).2 9).2)
def made : Nat → List Int → Nat → Qn × Nat
  | 0, l, k => leaf l (next l k 5).2
  | deep + 1, l, k =>
    if (next l k 5).1 < 2 then leaf l (next l k 5).2
    else (two (next l k 5).1 (made deep l (next l k 5).2).1 (made deep l (made deep l (next l k 5).2).2).1, (made deep l (made deep l (next l k 5).2).2).2)
def madeQ (l : List Int) : Qn := (made (next l 0 7).1 l (next l 0 7).2).1
theorem two_Two (k : Nat) (a b : Qn) : (two k a b).Two a b := rfl
theorem leaf_form (l : List Int) (k : Nat) : form (leaf l k).1 = true ∧ depth (leaf l k).1 = 0 ∧ (write (leaf l k).1).length ≤ 60 := by
  have h1 := next_lt l k (n := 6) (by omega)
  have h2 := next_lt l (next l k 6).2 (n := 6) (by omega)
  have h3 := next_lt l (next l (next l k 6).2 6).2 (n := 9) (by omega)
  unfold leaf
  revert h1 h2 h3
  generalize (next l k 6).1 = a
  generalize (next l (next l k 6).2 6).1 = b
  generalize (next l (next l (next l k 6).2 6).2 9).1 = c
  intro h1 h2 h3
  have ha : indexes.getD a [] ∈ indexes := by rw [List.getD_eq_getElem?_getD, List.getElem?_eq_getElem (by exact h1)]; exact List.getElem_mem _
  have hb : relations.getD b [] ∈ relations := by rw [List.getD_eq_getElem?_getD, List.getElem?_eq_getElem (by exact h2)]; exact List.getElem_mem _
  have hc : texts.getD c [] ∈ texts := by rw [List.getD_eq_getElem?_getD, List.getElem?_eq_getElem (by exact h3)]; exact List.getElem_mem _
  refine ⟨by rw [form_term rfl]; show (indexes.contains _ && relations.contains _ && _) = true; rw [List.contains_iff_mem.2 ha, List.contains_iff_mem.2 hb]; rfl, depth_term rfl, ?_⟩
  rw [write_term rfl]
  have h4 : (indexes.getD a []).length ≤ 7 := (by decide : ∀ x ∈ indexes, x.length ≤ 7) _ ha
  have h5 : (relations.getD b []).length ≤ 3 := (by decide : ∀ x ∈ relations, x.length ≤ 3) _ hb
  have h6 : (texts.getD c []).length ≤ 13 := (by decide : ∀ x ∈ texts, x.length ≤ 13) _ hc
  have h7 := (escape_len (texts.getD c [])).2
  simp only [text, List.length_append, List.length_cons, List.length_nil]
  omega
theorem word_len (k : Int) : (word k).length ≤ 3 := by unfold word; split <;> (try split) <;> simp
theorem paren_len2 (k : Int) (x : List UInt8) : (paren k x).length ≤ x.length + 2 := by unfold paren; split <;> simp <;> omega
theorem form_mk {k : Nat} {a b : Qn} (h2 : 2 ≤ k) (h4 : k ≤ 4) : form (two k a b) = (form a && form b) :=
  form_two (show (k : Int) ≠ 1 by omega) (by
    rintro (h | h | h | h | h | h)
    · simp only [two] at h; omega
    · simp only [two] at h; omega
    · exact h rfl
    · exact h rfl
    · exact h rfl
    exact h rfl) (two_Two k a b)
theorem up_le (k : Int) : up k ≤ 1 := by unfold up; split <;> omega
theorem made_form : ∀ (deep : Nat) (l : List Int) (k : Nat), form (made deep l k).1 = true ∧ depth (made deep l k).1 ≤ deep ∧ (write (made deep l k).1).length + 7 ≤ 67 * 2 ^ deep ∧ (made deep l k).1.size + 2 ≤ 2 * 2 ^ deep
  | 0, l, k => by
    obtain ⟨h1, h2, h3⟩ := leaf_form l (next l k 5).2
    exact ⟨h1, by simp only [made]; omega, by simp only [made]; omega, by simp [made, leaf, Qn.size, Qs.size]⟩
  | deep + 1, l, k => by
    have hp : 0 < 2 ^ deep := Nat.pow_pos (by omega)
    by_cases h : (next l k 5).1 < 2
    · obtain ⟨h1, h2, h3⟩ := leaf_form l (next l k 5).2
      simp only [made, if_pos h]
      refine ⟨h1, by omega, by rw [Nat.pow_succ]; omega, by simp [leaf, Qn.size, Qs.size, Nat.pow_succ]; omega⟩
    have h5 := next_lt l k (n := 5) (by omega)
    obtain ⟨a1, a2, a3, a4⟩ := made_form deep l (next l k 5).2
    obtain ⟨b1, b2, b3, b4⟩ := made_form deep l (made deep l (next l k 5).2).2
    simp only [made, if_neg h]
    generalize (made deep l (next l k 5).2).1 = a at *
    generalize (made deep l (made deep l (next l k 5).2).2).1 = b at *
    have hk : ((two (next l k 5).1 a b).k) ≠ 1 := by show ((next l k 5).1 : Int) ≠ 1; omega
    refine ⟨by rw [form_mk (by omega) (by omega), a1, b1]; rfl, ?_, ?_, ?_⟩
    · rw [depth_two hk (two_Two _ a b)]; have := up_le b.k; omega
    · rw [write_two hk (two_Two _ a b)]
      have h6 := paren_len2 b.k (write b)
      have h7 := word_len (two (next l k 5).1 a b).k
      simp only [List.length_append, List.length_cons, List.length_nil, Nat.pow_succ]
      omega
    simp only [Qn.size, two, Qn.push, Qs.size, Nat.pow_succ] at *; omega
theorem madeQ_form (l : List Int) : form (madeQ l) = true ∧ depth (madeQ l) ≤ 6 ∧ (write (madeQ l)).length ≤ 10000 ∧ (madeQ l).size ≤ 200 := by
  have h := next_lt l 0 (n := 7) (by omega)
  obtain ⟨h1, h2, h3, h4⟩ := made_form (next l 0 7).1 l (next l 0 7).2
  have hp : 2 ^ (next l 0 7).1 ≤ 2 ^ 6 := Nat.pow_le_pow_right (by omega) (by omega)
  exact ⟨h1, by unfold madeQ; omega, by unfold madeQ; omega, by unfold madeQ; omega⟩
theorem depth_any : ∀ (n : Nat) (q : Qn), q.size < n → depth q ≤ q.size
  | 0, q, h => by omega
  | n + 1, q, h => by
    by_cases hk : q.k = 1
    · rw [depth_term hk]; exact Nat.zero_le _
    by_cases hl : q.ps.len = 2
    · obtain ⟨a, b, htw⟩ := Qs.two_of hl
      have htw' : q.Two a b := htw
      have h1 := htw'.size
      have ha := depth_any n a (by omega)
      have hb := depth_any n b (by omega)
      have hu : up b.k ≤ 1 := by unfold up; split <;> omega
      rw [depth_two hk htw']
      omega
    have : depth q = 0 := by
      obtain ⟨k, i, r, t, ps⟩ := q
      unfold depth depth1
      rw [if_neg hk]
      match ps, hl with
      | .nil, _ => rfl
      | .cons _ _ _ _ _ .nil, _ => rfl
      | .cons _ _ _ _ _ (.cons _ _ _ _ _ .nil), h => exact absurd rfl h
      | .cons _ _ _ _ _ (.cons _ _ _ _ _ (.cons _ _ _ _ _ _)), _ => rfl
    omega
theorem Qn.Two.sizes {q a b : Qn} (h : q.Two a b) : q.size = a.size + b.size + 2 ∧ q.ps.wide = a.wide + b.wide := by
  have h' : q.ps = a.push (b.push .nil) := h
  unfold Qn.size Qn.wide
  rw [h']
  simp only [Qn.push, Qs.size, Qs.wide]
  omega
theorem form_good {q : Qn} (h : form q = true) (hk : q.k ≠ 1) : ∃ a b : Qn, q.Two a b ∧ 2 ≤ q.k ∧ q.k ≤ 4 ∧ form a = true ∧ form b = true ∧ q = two q.k.toNat a b := by
  obtain ⟨_, h2, h4, a, b, htw, ha, hb⟩ := (form_tree h).resolve_left hk
  have hn : ¬ (q.k < 2 ∨ q.k > 4 ∨ q.i ≠ [] ∨ q.r ≠ [] ∨ q.t ≠ [] ∨ q.ps.len ≠ 2) := fun hbad => by rw [form_bad hk hbad] at h; cases h
  simp only [not_or, Decidable.not_not] at hn
  obtain ⟨_, _, hi, hr, ht, _⟩ := hn
  refine ⟨a, b, htw, h2, h4, ha, hb, ?_⟩
  have hps : q.ps = a.push (b.push .nil) := htw
  obtain ⟨k, i, r, t, ps⟩ := q
  simp only at hi hr ht hps h2
  subst hi hr ht hps
  simp only [two, Qn.mk.injEq, and_self, and_true]
  omega
theorem form_leaf {q : Qn} (h : form q = true) (hk : q.k = 1) : q.i ∈ indexes ∧ q.r ∈ relations ∧ q = ⟨1, q.i, q.r, q.t, .nil⟩ := by
  rw [form_term hk] at h
  simp only [Bool.and_eq_true, beq_iff_eq, List.contains_iff_mem] at h
  obtain ⟨⟨h1, h2⟩, h3⟩ := h
  refine ⟨h1, h2, ?_⟩
  obtain ⟨k, i, r, t, ps⟩ := q
  cases ps with
  | nil => simp only at hk; subst hk; rfl
  | cons _ _ _ _ _ _ => simp [Qs.len] at h3
theorem two_size (k : Nat) (a b : Qn) : (two k a b).size = a.size + b.size + 2 := by
  simp only [two, Qn.size, Qn.push, Qs.size]; omega
theorem two_wide (k : Nat) (a b : Qn) : (two k a b).wide = a.wide + b.wide := by grind [two, Qn.wide, Qn.push, Qs.wide, List.length_nil]
theorem write_len : ∀ (n : Nat) (q : Qn), q.size < n → form q = true → (write q).length + 7 ≤ 2 * q.wide + 11 * (q.size + 1)
  | 0, q, h, _ => by omega
  | n + 1, q, hn, hf => by
    by_cases hk : q.k = 1
    · rw [write_term hk]
      have h := (escape_len q.t).2
      simp only [text, List.length_append, List.length_cons, List.length_nil, Qn.wide]
      omega
    obtain ⟨a, b, htw, h2, h4, ha, hb, hq⟩ := form_good hf hk
    have hsz := htw.size
    have h1 := write_len n a (by omega) ha
    have h3 := write_len n b (by omega) hb
    have hw : (word q.k).length ≤ 3 := by unfold word; split <;> (try split) <;> simp
    have hp : (paren b.k (write b)).length ≤ (write b).length + 2 := by unfold paren; split <;> simp <;> omega
    have e1 : q.wide = a.wide + b.wide := by rw [hq, two_wide]
    have e2 : q.size = a.size + b.size + 2 := by rw [hq, two_size]
    rw [write_two hk htw, e1, e2]
    simp only [List.length_append, List.length_cons, List.length_nil]
    omega
theorem wide_le : ∀ (n : Nat) (q : Qn), q.size < n → form q = true → q.wide ≤ (write q).length
  | 0, q, h, _ => by omega
  | n + 1, q, hn, hf => by
    by_cases hk : q.k = 1
    · obtain ⟨_, _, hq⟩ := form_leaf hf hk
      have hw : q.wide = q.i.length + q.r.length + q.t.length := by rw [hq]; simp [Qn.wide, Qs.wide]
      rw [write_term hk, hw]
      have h := (escape_len q.t).1
      simp only [text, List.length_append, List.length_cons, List.length_nil]
      omega
    obtain ⟨a, b, htw, h2, h4, ha, hb, hq⟩ := form_good hf hk
    have hsz := htw.size
    have h1 := wide_le n a (by omega) ha
    have h3 := wide_le n b (by omega) hb
    have hp := paren_len b.k (write b)
    have e1 : q.wide = a.wide + b.wide := by rw [hq, two_wide]
    rw [write_two hk htw, e1]
    simp only [List.length_append, List.length_cons, List.length_nil]
    omega
theorem wide_write {q : Qn} (h : form q = true) : q.wide ≤ (write q).length := wide_le _ q (Nat.lt_succ_self _) h
end Cq
namespace Go.Sx
open Cq
