/-
  Own texts on the laws of the seat, joined: the logic, and contracts of functions. Conditions: none.
-/
import Derived.Test.YtjcdfnbomkoheaaGreatDoorNmP
import Derived.Test.YtjcdfnbomkoheaaGreatDoorPP7
set_option maxRecDepth 100000
set_option maxHeartbeats 4000000
section
namespace Go.Proofs.YtjcdfnbomkoheaaGreatDoor
open _root_.Go.Proofs.Tryz
open Go Go.Sx
def nms : List (List UInt8) := Ix.names ++ [[120]]
def nameN (n : UInt8) : List UInt8 := nms.getD (n.toNat % 7) []
theorem nms_at (n : UInt8) (sp : List Value) : (Ix.names.map str ++ [str [120]] ++ sp)[n.toNat % 7]? = some (str (nameN n)) := by
  have h : n.toNat % 7 < 7 := Nat.mod_lt _ (by decide)
  rw [List.getElem?_append_left (by show n.toNat % 7 < 7; exact h)]
  have h2 : Ix.names.map str ++ [str [120]] = nms.map str := rfl
  rw [h2, List.getElem?_map]
  unfold nameN
  rw [lgg (by show n.toNat % 7 < 7; exact h), List.getD_eq_getElem?_getD, lgg (by show n.toNat % 7 < 7; exact h)]; rfl
theorem name_ok (n : UInt8) (I : Heap) : Pure Tryz.prog 31 [u8 n] I (str (nameN n)) := by
 refine Ctr.toPure ?_
 have hnl := n.toNat_lt
 refine Ctr.ob func31 ?_
 intro w0 hw0
 refine Cj.sr (J.z q1 ?_)
 refine J.nssr (J.op rfl (q44 rfl rfl rfl rfl rfl (Names_ok _) ?_))
 intro v2 I3 H4 hle5 hn1 hp6
 obtain ⟨nb, h, rfl⟩ := hp6; cases h
 have hnb := hn1 _ (.head _)
 refine J.op rfl (q24 tU28 tS9 tZ9 ?_)
 intro b7 hb7
 refine J.op rfl (op_append (by' := 15) (n := 6) (g := some (nb, 6, [])) (xs := Ix.names.map str) [_] rfl rfl rfl rfl rfl tU28 (.inr ⟨_, tU28⟩) (by kernel_rfl) tS9 tZ9 rfl ⟨hnb, rfl, rfl⟩ rfl (Src.slice (Blk.at 0 rfl) rfl rfl rfl) (by omega) ?_)
 intro g8 hg8
 refine J.z q0 ?_
 refine J.z (yl_convInt rfl rfl tU5 tU3) ?_
 refine J.eqv 7 rfl (show _ = i64 ((n.toNat : Nat) : Int) from (congrArg i64 (w64 (by omega)))) ?_
 obtain ⟨bg9, cg10, sp11, rfl, hbg9⟩ := hg8.some (by decide)
 refine J.op rfl (q44 rfl rfl rfl rfl rfl (Names_ok _) ?_)
 intro v13 I14 H15 hle16 hn12 hp17
 obtain ⟨nc, h, rfl⟩ := hp17; cases h
 have hnc := hn12 _ (.head _)
 refine J.z (q15 tU28) ?_
 refine J.z q7 ?_
 refine J.z q53 ?_
 refine J.eqv 11 rfl (show _ = i64 ((n.toNat % 7 : Nat) : Int) from (congrArg i64 (by rw [Int.tmod_eq_emod_of_nonneg (by omega)]; omega))) ?_
 refine J.z (yl_indexAddr (off' := n.toNat % 7) rfl rfl rfl tU28 tS9 (by omega) (by simp; omega) (by omega)) ?_
 refine J.z (q37 tA9 (Blk.at 2 rfl) (nms_at n _)) ?_
 refine J.z q1 ?_
 refine J.ns (Cj.ret (Ej.bare ?_))
 refine q6 ?_
 exact ⟨rfl, rfl⟩
theorem act_t {L : Ix.Ix} {a : Ix.ActL} (h : a.drop = true) : Ix.act L a = Ix.rdrop a.title L := if_pos h
theorem act_f {L : Ix.Ix} {a : Ix.ActL} (h : a.drop = false) : Ix.act L a = Ix.rput a.title a.vs L := if_neg (by rw [h]; decide)
theorem act_len (L : Ix.Ix) (a : Ix.ActL) : (Ix.act L a).length ≤ L.length + 1 := by
  unfold Ix.act
  split
  · exact Nat.le_succ_of_le (List.length_filter_le _ _)
  exact rput_len _ _ _
theorem acts_lenF : ∀ (l : List Ix.ActL) (L : Ix.Ix), (l.foldl Ix.act L).length ≤ L.length + l.length
  | [], _ => Nat.le_refl _
  | a :: r, L => by
    have h1 := acts_lenF r (Ix.act L a)
    have h2 := act_len L a
    rw [List.foldl_cons, List.length_cons]; omega
theorem acts_len (xs : List Act) : ((acts xs).foldl Ix.act []).length ≤ xs.length := by
  have := acts_lenF (acts xs) []
  rw [List.length_map, List.length_nil] at this; omega
theorem play_eq {xs : List Act} {k : Nat} (hk : k ≤ xs.length) (h : k ≤ 20 ∧ (xs.length ≤ k ∨ 20 ≤ k)) : (acts (xs.take k)).foldl Ix.act [] = Ix.play (acts xs) := by
  rw [made_take hk h, acts_take]; rfl
theorem play_ok (xs : List Act) (v : Value) (hao : ActsOk xs) (I : Heap) (hA0 : ActsS I xs v) : Ctr Tryz.prog 30 [v] I [] (fun ev I' H' => ∃ ib o, ev = .returned (ptr ib 0) ∧ IxOk I' o (Ix.play (acts xs)) ∧ H' = ixH ib o) := by
 obtain ⟨p, c, rfl⟩ := RowS.len hA0.1
 refine Ctr.ob func30 ?_
 intro w0 hw0
 refine Cj.sr (J.z q1 ?_)
 refine J.nssr (J.op rfl (op_callR (H1 := []) [] rfl rfl rfl rfl rfl rfl (Build_ok [] _ (by simp) (fun e h => (by cases h)) _ EntsS.nil) ?_ (fun _ _ _ _ ⟨_, _, h, _⟩ => nomatch h) (fun _ _ ⟨_, _, h, _⟩ => nomatch h)))
 intro v1 I2 H3 hle4 hp5
 obtain ⟨ib, o0, h, hok0, rfl⟩ := hp5; cases h
 have hIJ0 := hle4
 refine J.z q1 ?_
 refine J.nsss (Cj.region (J.z q1 ?_))
 refine J.ns (Cj.block (Cj.keep Keeps.r ?_))
 refine Cj.loop (ι := Nat × Heap × Option Ist) (fun y => y.1 ≤ xs.length ∧ y.1 ≤ 20 ∧ Le I y.2.1 ∧ IxOk y.2.1 y.2.2 ((acts (xs.take y.1)).foldl Ix.act [])) (fun y => 20 - y.1) (fun y => [(0, .slice p xs.length c), (3, ptr ib 0), (4, i64 (y.1 : Int))]) (fun y => y.2.1) (fun y => ixH ib y.2.2) (0, _, o0) ⟨Nat.zero_le _, Nat.zero_le _, hIJ0, hok0⟩ ⟨rfl, rfl, rfl, trivial⟩ rfl rfl ?_
 rintro ⟨k, Jh, o⟩ ⟨hk, hk20, hIJ, hok⟩
 dsimp only at hk hk20 hIJ hok ⊢
 have hA := hA0.mono hIJ
 have hll := acts_len (xs.take k)
 rw [List.length_take, Nat.min_eq_left hk] at hll
 refine Cj.seq (Cj.sr (J.z q0 ?_))
 refine J.z q0 ?_
 refine J.z (q15 tU51) ?_
 refine J.z q17 ?_
 refine J.z q0 ?_
 refine q16 10 (fun hg6 => ?_) (fun hg6 => ?_)
 ·
  have hg6p := odt hg6
  refine q5 4 10 true hg6 (q2 q0 ?_)
  refine q5 4 10 true hg6 (q2 q17 ?_)
  refine J.z (q11 hg6) ?_
  refine J.cd (fun hc7 => ?_) (fun hc7 => ?_)
  ·
   have hc7p := odt hc7
   refine Cj.ks (Cj.seq (Cj.block (Cj.seq ?_)))
   have hlt : k < xs.length := by omega
   have hlt2 : k < 20 := by omega
   obtain ⟨x, hget⟩ : ∃ x, xs[k]? = some x := ⟨_, lgg hlt⟩
   have hxm := lmg hget
   obtain ⟨p1, c1, hpe, hc1, hp⟩ := id hA.1
   cases hpe
   obtain ⟨ab, ao, acs, aty, afr, asp, rfl, hab, had⟩ := hp (ne_nil_of hlt)
   have hfv := hA.2 x hxm
   obtain ⟨vp, vc, hxv⟩ := RowS.len hfv
   have hnx : acts (xs.take (k + 1)) = acts (xs.take k) ++ [x.a] := map_next _ hget
   refine Cj.region (J.z q0 ?_)
   refine J.z q0 ?_
   refine J.z (q19 (off' := ao + k * 4) tU51 tS80) ?_
   refine J.z (q4 tU80 tS4) ?_
   refine J.z (yl_load rfl rfl tA4 (Blk.imm hab) (row_fcell actC_len had hget 0 (by decide))) ?_
   refine J.cd (fun hc8 => ?_) (fun hc8 => ?_)
   ·
    have hdr : x.a.drop = true := hc8
    refine Cj.region (J.z q0 ?_)
    refine J.z q0 ?_
    refine J.z q0 ?_
    refine J.z (q19 (off' := ao + k * 4) tU51 tS80) ?_
    refine J.z (q43 isAgg80 tS80 (Blk.imm hab) (row_from actC_len had hget)) ?_
    refine J.op rfl (q36 (H1 := []) rfl rfl rfl rfl rfl (Entry_ok x (hao x hxm) _ hfv) ?_)
    intro v9 I10 H11 hle12 hp13
    have hIJ := hIJ.mono hle12
    have hok := hok.mono hle12
    obtain ⟨e0, h, he0, rfl⟩ := hp13; cases h
    refine J.z (yl_fieldR (v := kvR e0.t) rfl rfl (fun _ => by kernel_rfl)) ?_
    refine J.op rfl (op_callR (H1 := ixH _ _) [] rfl rfl rfl rfl rfl rfl (Drop_ok ib o _ e0.t _ hok) ?_ (fun _ _ _ _ ⟨_, h, _⟩ => nomatch h) (fun _ _ ⟨_, h, _⟩ => nomatch h))
    intro v14 I15 H16 hle17 hp18
    have hIJ := hIJ.mono hle17
    have he0 := he0.mono hle17
    obtain ⟨o1, h, hok1, rfl⟩ := hp18; cases h
    refine J.nb (Cj.region (J.z q0 ?_))
    refine J.z q7 ?_
    refine J.z q1 ?_
    refine J.nil (Ej.round (k + 1, _, o1) ⟨by dsimp only; omega, by dsimp only; omega, hIJ, by dsimp only; rw [hnx, List.foldl_append]; rw [he0.t] at hok1; show IxOk _ _ (Ix.act _ x.a); rw [act_t hdr]; exact hok1⟩ (by dsimp only; omega) ⟨rfl, rfl, rfl, trivial⟩ rfl rfl)
   have hdr : x.a.drop = false := hc8
   refine Cj.region (J.z q0 ?_)
   refine J.z q0 ?_
   refine J.z q0 ?_
   refine J.z (q19 (off' := ao + k * 4) tU51 tS80) ?_
   refine J.z (q43 isAgg80 tS80 (Blk.imm hab) (row_from actC_len had hget)) ?_
   refine J.op rfl (q36 (H1 := []) rfl rfl rfl rfl rfl (Entry_ok x (hao x hxm) _ hfv) ?_)
   intro v19 I20 H21 hle22 hp23
   have hIJ := hIJ.mono hle22
   have hok := hok.mono hle22
   obtain ⟨e0, h, he0, rfl⟩ := hp23; cases h
   refine J.op rfl (op_callR (H1 := ixH _ _) [] rfl rfl rfl rfl rfl rfl (Put_ok ib o _ e0 _ hok (by omega) he0.eok he0.r) ?_ (fun _ _ _ _ ⟨_, h, _⟩ => nomatch h) (fun _ _ ⟨_, h, _⟩ => nomatch h))
   intro v24 I25 H26 hle27 hp28
   have hIJ := hIJ.mono hle27
   have he0 := he0.mono hle27
   obtain ⟨o1, h, hok1, rfl⟩ := hp28; cases h
   refine J.nb (Cj.region (J.z q0 ?_))
   refine J.z q7 ?_
   refine J.z q1 ?_
   refine J.nil (Ej.round (k + 1, _, o1) ⟨by dsimp only; omega, by dsimp only; omega, hIJ, by dsimp only; rw [hnx, List.foldl_append]; rw [he0.t, he0.vals] at hok1; show IxOk _ _ (Ix.act _ x.a); rw [act_f hdr]; exact hok1⟩ (by dsimp only; omega) ⟨rfl, rfl, rfl, trivial⟩ rfl rfl)
  have hc7p := odf hc7
  refine Cj.xl (Cj.sr (J.z q0 ?_))
  refine J.z q1 ?_
  refine J.ns (Cj.ret ?_)
  have hpl := play_eq hk (by omega)
  rw [hpl] at hok
  refine q6 ?_
  exact ⟨ib, o, rfl, hok, rfl⟩
 have hg6p := odf hg6
 refine q3 4 10 11 true hg6 ?_
 refine q3 4 10 12 true hg6 ?_
 refine J.z (q10 hg6) ?_
 refine J.c0 (fun hc29 => ?_)
 refine Cj.xl (Cj.sr (J.z q0 ?_))
 refine J.z q1 ?_
 refine J.ns (Cj.ret ?_)
 have hpl := play_eq hk (by omega)
 rw [hpl] at hok
 refine q6 ?_
 exact ⟨ib, o, rfl, hok, rfl⟩
def prs (ps : List Ke.Sub) : List (List UInt8) := ps.flatMap fun s => [[s.code], s.text]
theorem prs_len (ps : List Ke.Sub) : (prs ps).length = 2 * ps.length := by
  unfold prs
  induction ps with
  | nil => rfl
  | cons a r ih => rw [List.flatMap_cons, List.length_append, ih, List.length_cons]; simp; omega
theorem prs_at : ∀ {ps : List Ke.Sub} {i : Nat} {s : Ke.Sub}, ps[i]? = some s → (prs ps)[2 * i]? = some [s.code] ∧ (prs ps)[2 * i + 1]? = some s.text
  | [], i, _, h => by simp at h
  | a :: r, 0, s, h => by cases h; exact ⟨rfl, rfl⟩
  | a :: r, i + 1, s, h => by
    have := prs_at (ps := r) (i := i) (s := s) h
    have e : prs (a :: r) = [a.code] :: a.text :: prs r := rfl
    rw [e, show 2 * (i + 1) = 2 * i + 1 + 1 by omega, List.getElem?_cons_succ, List.getElem?_cons_succ, List.getElem?_cons_succ, List.getElem?_cons_succ]
    exact this
theorem field_ok (tag ind : List UInt8) (ps : List Ke.Sub) (v : Value) (hps : ps.length ≤ 1000) (I : Heap) (hv : StrP I (prs ps) v) : Ctr Tryz.prog 14 [str tag, str ind, v] I [] (fun e I' H' => ∃ w, e = .returned (.agg (fldC ⟨tag, ind, [], w, ps⟩).toArray) ∧ RowS subC I' ps w ∧ H' = []) := by
 obtain ⟨p, c, rfl, hc, hp⟩ := hv
 have hpl := prs_len ps
 refine Ctr.ob func14 ?_
 intro w0 hw0
 refine Cj.sr (J.op rfl (q46 tZ31 ?_))
 intro b1 hb1
 refine J.nssr (J.z q0 ?_)
 refine J.z q0 ?_
 refine J.z (yl_buildS (pl := #[(0, 1), (1, 1), (2, 1), (3, 1)]) rfl rfl tZ31 rfl tU31 (fun w => by simp []) (LBld.part rfl rfl rfl (LSpl.c LSpl.z) (LBld.part rfl rfl rfl (LSpl.s (LSpl.c LSpl.z)) LBld.none))) ?_
 refine J.op rfl (q46 tZ31 ?_)
 intro b2 hb2
 refine J.op rfl (q21 0 tS31 (LSpl.c (LSpl.c (LSpl.c (LSpl.c LSpl.z)))) LSet.z ?_)
 refine J.nsss (Cj.region (J.z q1 ?_))
 refine J.ns (Cj.block (Cj.loop (ι := Nat × Gs) (fun y => y.1 ≤ ps.length ∧ gOk w0.heap.size 2 (ps.take y.1).length ((ps.take y.1).flatMap subC) y.2) (fun y => ps.length - y.1) (fun y => [(0, str tag), (2, .slice p (prs ps).length c), (6, ptr b1 0), (7, ptr b2 0), (8, i64 ((2 * y.1 + 1 : Nat) : Int))]) (fun y => _) (fun y => (b2, cel 31 [str tag, str ind, str [], gV (ps.take y.1).length y.2]) :: (b1, cel 31 [str [], str [], str [], .slice none 0 0]) :: gH 65 ((ps.take y.1).flatMap subC) y.2) (0, none) ⟨Nat.zero_le _, rfl, rfl⟩ ⟨rfl, rfl, rfl, rfl, rfl, trivial⟩ rfl rfl ?_))
 rintro ⟨i, g⟩ ⟨hi, hg⟩
 dsimp only at hi hg ⊢
 have hsl : (ps.take i).length = i := by rw [List.length_take]; omega
 refine Cj.seq (Cj.sr (J.z q0 ?_))
 refine J.z q0 ?_
 refine J.z (q15 tU28) ?_
 refine J.z q17 ?_
 refine J.cd (fun hc3 => ?_) (fun hc3 => ?_)
 ·
  have hc3p := odt hc3
  refine Cj.ks (Cj.seq (Cj.block ?_))
  have hlt : i < ps.length := by omega
  obtain ⟨x, hsget⟩ : ∃ x, ps[i]? = some x := ⟨_, lgg hlt⟩
  have hsl1 : (ps.take (i + 1)).length = (ps.take i).length + 1 := by rw [List.length_take, List.length_take]; omega
  obtain ⟨hg1, hg2⟩ := prs_at hsget
  obtain ⟨lb, lo, lcs, lty, lfr, sp, rfl, hlb, hld⟩ := hp (ne_nil_of (k := 2 * i) (by omega))
  refine Cj.drawSel [0, 1] [] 16 (by kernel_rfl) ?_
  refine JA.fix ⟨(HSub.c 0 rfl (HSub.c 1 rfl HSub.n)), CSub.n, (Le.refl _)⟩ (fun fx4 => ?_)
  refine JA.tk 0 rfl fx4 (q4 (off' := 3) tU31 tS29) ?_
  refine JA.tk 1 rfl fx4 (q9 tA29 (Blk.atC 0 rfl)) ?_
  refine JA.tk 2 rfl fx4 q0 ?_
  refine JA.tk 3 rfl fx4 q0 ?_
  refine JA.tk 4 rfl fx4 q49 ?_
  refine JA.eqv 22 rfl (show _ = i64 ((2 * i : Nat) : Int) from (congrArg i64 (by omega))) ?_
  refine JA.tk 5 rfl fx4 (yl_indexAddr (off' := lo + 2 * i) rfl rfl rfl tU28 tS9 (by omega) (by omega) (by omega)) ?_
  refine JA.tk 6 rfl fx4 (q37 tA9 (Blk.immC hlb) (str_from hld hg1)) ?_
  refine JA.tk 7 rfl fx4 (yl_index rfl rfl rfl tU9 (by decide) rfl) ?_
  refine JA.tk 8 rfl fx4 q0 ?_
  refine JA.tk 9 rfl fx4 q0 ?_
  refine JA.tk 10 rfl fx4 (yl_indexAddr (off' := lo + (2 * i + 1)) rfl rfl rfl tU28 tS9 (by omega) (by omega) (by omega)) ?_
  refine JA.tk 11 rfl fx4 (q37 tA9 (Blk.immC hlb) (str_from hld hg2)) ?_
  refine JA.tk 12 rfl fx4 (yl_buildS (pl := #[(0, 1), (1, 1)]) rfl rfl tZ65 rfl tU65 (fun w => by simp []) (LBld.part rfl rfl rfl (LSpl.c LSpl.z) (LBld.part rfl rfl rfl (LSpl.s (LSpl.c LSpl.z)) LBld.none))) ?_
  refine q13 13 rfl (q41 tU29 tS65 tZ65 ?_)
  intro b5 hb5
  refine ⟨⟨(Le.refl _), (HSub.c 1 rfl (HSub.c 2 rfl HSub.n)), CSub.n⟩, ?_⟩
  refine q13 14 rfl (op_append (by' := 23) [_, _, _] rfl rfl rfl rfl rfl tU29 (.inr ⟨_, tU29⟩) (by kernel_rfl) tS65 tZ65 rfl hg rfl (Src.slice (Blk.at 0 rfl) rfl rfl rfl) (by omega) ?_)
  intro g6 hg6
  refine ⟨⟨(Le.refl _), (HSub.c 1 rfl (HSub.c 2 rfl HSub.n)), CSub.n⟩, ?_⟩
  refine JA.fix ⟨(HSub.c 1 rfl (HSub.c 2 rfl HSub.n)), CSub.n, (Le.refl _)⟩ (fun fx7 => ?_)
  refine JA.tk 15 rfl fx7 (q4 (off' := 3) tU31 tS29) ?_
  refine JA.last 16 (by kernel_rfl) rfl rfl rfl (op_store 1 rfl rfl rfl rfl (gV_cells _ _) (gV_one _ _) tS29 rfl rfl (LSpl.s (LSpl.s (LSpl.s (LSpl.c LSpl.z)))) (LSet.s LSet.z) ?_)
  refine q14 ?_
  refine Ej.blkNormal (Ej.seq (Cj.region (J.z q0 ?_)))
  refine J.z q7 ?_
  refine J.eqv 17 rfl (show _ = i64 ((2 * (i + 1) + 1 : Nat) : Int) from (congrArg i64 (by omega))) ?_
  refine J.z q1 ?_
  refine J.nil (Ej.keep (Keeps.d (Keeps.k (Keeps.k Keeps.r))) ?_)
  refine Ej.round (i + 1, g6) ⟨by dsimp only; omega, by dsimp only; rw [hsl1, flat_next subC hsget]; exact hg6⟩ (by dsimp only; omega) ⟨rfl, rfl, rfl, rfl, rfl, trivial⟩ rfl (by dsimp only; rw [hsl1, flat_next subC hsget]; rfl)
 have hc3p := odf hc3
 refine Cj.xl (Cj.sr (J.z (q33 tA31 tS31) ?_))
 refine J.op rfl (op_store 1 rfl rfl rfl rfl rfl (by show [str tag, str ind, str [], gV _ _].all Value.oneCell' = true; simp only [List.all_cons, List.all_nil, gV_one', Bool.and_true]; rfl) tS31 rfl rfl (LSpl.c (LSpl.c (LSpl.c (LSpl.c LSpl.z)))) (LSet.s LSet.z) ?_)
 refine J.ns (Cj.ret ?_)
 have hfull : ps.take i = ps := List.take_of_length_le (by omega)
 rw [hfull] at hg ⊢
 refine Ej.perm (H' := gH _ _ _ ++ [_, _]) List.perm_append_comm ?_
 refine Ej.keepR subC_len (by decide) hg rfl (fun I9 hle9 hfs => ?_)
 refine Ej.retC (Keeps.d (Keeps.d Keeps.n)) rfl rfl rfl (Blk.at 1 rfl) tA31 tS31 rfl ?_
 exact ⟨_, rfl, hfs, rfl⟩
def Asks (al : List (List UInt8)) (k j : Nat) : Prop := al.length ≤ 1 + k * 4000000 + j * 4 ∧ ∀ s ∈ al, s.length ≤ 100000000
theorem Asks.start {s : List UInt8} (h : s.length ≤ 100000000) : Asks [s] 0 0 := ⟨by simp, fun x hx => by rw [List.mem_singleton.1 hx]; exact h⟩
theorem Asks.one {al : List (List UInt8)} {k j : Nat} {s : List UInt8} (h : Asks al k j) (hs : s.length ≤ 100000000) : Asks (al ++ [s]) k (j + 1) := by
  refine ⟨by rw [List.length_append, List.length_singleton]; have := h.1; omega, fun x hx => ?_⟩
  rcases List.mem_append.1 hx with g | g
  · exact h.2 x g
  rw [List.mem_singleton.1 g]; exact hs
theorem Asks.four {al : List (List UInt8)} {k j : Nat} {s a b c : List UInt8} (h : Asks al k j) (hs : s.length ≤ 100000000) (ha : a.length ≤ 100000000) (hb : b.length ≤ 100000000) (hc : c.length ≤ 100000000) : Asks (al ++ [s] ++ [a, b, c]) k (j + 1) := by
  refine ⟨by simp only [List.length_append, List.length_cons, List.length_nil]; have := h.1; omega, fun x hx => ?_⟩
  rcases List.mem_append.1 hx with g | g
  · rcases List.mem_append.1 g with g | g
    · exact h.2 x g
    rw [List.mem_singleton.1 g]; exact hs
  simp only [List.mem_cons, List.not_mem_nil, or_false] at g
  rcases g with rfl | rfl | rfl
  · exact ha
  · exact hb
  exact hc
theorem Asks.next {al : List (List UInt8)} {k j : Nat} (h : Asks al k j) (hj : j ≤ 1000000) : Asks al (k + 1) 0 := by
  obtain ⟨h1, h2⟩ := h
  have h3 : (k + 1) * 4000000 = k * 4000000 + 4000000 := by rw [Nat.add_mul, Nat.one_mul]
  have h4 : al.length ≤ 1 + (k + 1) * 4000000 + 0 * 4 := by
    rw [h3]
    generalize k * 4000000 = m at h1 ⊢
    omega
  exact And.intro h4 h2
theorem Asks.len {al : List (List UInt8)} {k j : Nat} (h : Asks al k j) (hk : k ≤ 1000) (hj : j ≤ 1000000) : al.length ≤ 5000000000 := by have := h.1; omega
theorem phrase_small (es : List Ent) (n : List UInt8) (w : Ke.Row) : (Ix.phrase (es.map entL) n w).length ≤ es.length := by
  unfold Ix.phrase
  split
  · simp
  rw [List.length_map]
  exact nlt (List.length_filter_le _ _) (by rw [List.length_map]; exact Nat.le_refl _)
theorem word_small (es : List Ent) (n s : List UInt8) : (Ix.word (es.map entL) n s).length ≤ es.length := by
  unfold Ix.word
  split
  · exact phrase_small es n _
  simp
theorem scan_small (L : Ix.Ix) (n s : List UInt8) (most : Int) : ((Ix.scan L n s most).map lineI).length ≤ most.toNat := by
  unfold Ix.scan
  rw [List.length_map, List.length_map, List.length_take]; omega
theorem tit_eq (es : List Ent) : (es.map entL).map Prod.fst = es.map (·.t) := by rw [List.map_map]; rfl
theorem same_ok (ib rb : Nat) (es : List Ent) (n text : List UInt8) (htl : text.length ≤ 100000000) (I : Heap) (hx0 : IxP I ib (es.map entL)) (hy0 : RxP I rb es) : Pure Tryz.prog 35 [ptr ib 0, ptr rb 0, str n, str text] I (.bool true) := by
 refine Ctr.toPure ?_
 have hlen := hy0.len
 obtain ⟨p, c, hR0⟩ := hy0.ex
 have hrb := hR0.1
 refine Ctr.ob func35 ?_
 intro w0 hw0
 refine Cj.sr (J.z q1 ?_)
 refine J.nssr (J.z q0 ?_)
 refine J.op rfl (q24 tU28 tS9 tZ9 ?_)
 intro b1 hb1
 refine J.z q1 ?_
 refine J.nsss (Cj.region (J.z q0 ?_))
 refine J.z q8 ?_
 refine J.z (q4 (off' := 0) tU73 tS27) ?_
 refine J.z (q9 tA27 (Blk.imm hrb)) ?_
 refine J.z (q15 tU27) ?_
 refine J.z q0 ?_
 refine J.ns (Cj.block (Cj.loop (ι := Nat × Heap × List (List UInt8) × Gs) (fun y => y.1 ≤ es.length ∧ Le I y.2.1 ∧ Asks y.2.2.1 y.1 0 ∧ gOk w0.heap.size 1 y.2.2.1.length (y.2.2.1.map str) y.2.2.2) (fun y => es.length - y.1) (fun y => [(0, ptr ib 0), (1, ptr rb 0), (2, str n), (3, str text), (9, gV y.2.2.1.length y.2.2.2), (22, .slice p es.length c), (23, i64 (es.length : Int)), (24, i64 (y.1 : Int))]) (fun y => y.2.1) (fun y => gH 9 (y.2.2.1.map str) y.2.2.2) (0, _, [text], some (b1, 1, [])) ⟨Nat.zero_le _, Le.refl _, Asks.start htl, ⟨hb1, rfl, rfl⟩⟩ ⟨rfl, rfl, rfl, rfl, rfl, rfl, rfl, rfl, trivial⟩ rfl rfl ?_))
 rintro ⟨k, J1, al, g⟩ ⟨hk, hIJ, hal, hg⟩
 dsimp only at hk hIJ hal hg ⊢
 have hall := hal.len (by omega) (by decide)
 have hx := hx0.mono hIJ
 have hy := hy0.mono hIJ
 have hR := hR0.mono hIJ
 refine Cj.sr (J.z q17 ?_)
 refine J.nss (Cj.cond rfl (fun hc2 => ?_) (fun hc2 => ?_))
 ·
  have hc2p := odt hc2
  refine Cj.ks (Cj.seq (Cj.block (Cj.seq ?_)))
  have hlt : k < es.length := by omega
  obtain ⟨e0, hget⟩ : ∃ x, es[k]? = some x := ⟨_, lgg hlt⟩
  have hek := hy.eok e0 (lmg hget)
  obtain ⟨p1, c1, hpe, hc1, hp⟩ := id hR.2.1
  cases hpe
  obtain ⟨eb, eo, ecs, ety, efr, esp, rfl, heb, hed⟩ := hp (ne_nil_of hlt)
  have hrec := hR.2.2 e0 (lmg hget)
  obtain ⟨vp0, vc0, hev, -, -⟩ := id hrec.1
  refine Cj.region (J.z (q19 (off' := eo + k * 5) tU27 tS37) ?_)
  refine J.z (q43 isAgg37 tS37 (Blk.imm heb) (row_from entC_len hed hget)) ?_
  refine J.op rfl (q46 tZ37 ?_)
  intro b3 hb3
  refine J.op rfl (op_store 0 rfl rfl rfl rfl rfl (ent_one hev) tS37 rfl rfl (LSpl.c (LSpl.c (LSpl.c (LSpl.c (LSpl.c LSpl.z))))) LSet.z ?_)
  refine J.nssr (J.z (q4 (off' := 2) tU37 tS35) ?_)
  refine J.z (q33 isAgg35 tS35) ?_
  refine J.z q0 ?_
  refine J.op rfl (q36 (H1 := []) rfl rfl rfl rfl rfl (rValues_ok e0.fs e0.v e0.k e0.l n hek _ hrec) ?_)
  intro v4 I5 H6 hle7 hp8
  have hIJ := hIJ.mono hle7
  obtain ⟨vv, h, hvals, rfl⟩ := hp8; cases h
  obtain ⟨pv, cv, rfl⟩ := RowS.len hvals
  have hvl : (Ix.valsN e0.fs n).length ≤ 1000000 := by have h1 := valsN_len n e0.fs (fun f hf => (hek.2 f hf).1); have h2 := hek.1; omega
  refine J.z (q15 tU101) ?_
  refine J.z q0 ?_
  refine J.ns (Cj.block (Cj.keep (Keeps.k Keeps.r) ?_))
  refine Cj.loop (ι := Nat × Heap × List (List UInt8) × Gs) (fun y => y.1 ≤ (Ix.valsN e0.fs n).length ∧ Le I5 y.2.1 ∧ Asks y.2.2.1 k y.1 ∧ gOk w0.heap.size 1 y.2.2.1.length (y.2.2.1.map str) y.2.2.2) (fun y => (Ix.valsN e0.fs n).length - y.1) (fun y => [(0, ptr ib 0), (1, ptr rb 0), (2, str n), (3, str text), (9, gV y.2.2.1.length y.2.2.2), (22, .slice (some ⟨eb, eo, none⟩) es.length c), (23, i64 (es.length : Int)), (24, i64 (k : Int)), (31, .slice pv (Ix.valsN e0.fs n).length cv), (32, i64 ((Ix.valsN e0.fs n).length : Int)), (33, i64 (y.1 : Int))]) (fun y => y.2.1) (fun y => (b3, cel 37 (entC e0)) :: gH 9 (y.2.2.1.map str) y.2.2.2) (0, _, al, g) ⟨Nat.zero_le _, Le.refl _, hal, hg⟩ ⟨rfl, rfl, rfl, rfl, rfl, rfl, rfl, rfl, rfl, rfl, rfl, trivial⟩ rfl rfl ?_
  rintro ⟨j, J2, al, g⟩ ⟨hj, hIJ2, hal, hg⟩
  dsimp only at hj hIJ2 hal hg ⊢
  have hall := hal.len (by omega) (by omega)
  have hIJ := hIJ.trans hIJ2
  have hvals := hvals.mono hIJ2
  refine Cj.sr (J.z q17 ?_)
  refine J.nss (Cj.cond rfl (fun hc9 => ?_) (fun hc9 => ?_))
  ·
   have hc9p := odt hc9
   refine Cj.ks (Cj.seq (Cj.block (Cj.seq ?_)))
   have hjlt : j < (Ix.valsN e0.fs n).length := by omega
   obtain ⟨x, hvget⟩ : ∃ x, (Ix.valsN e0.fs n)[j]? = some x := ⟨_, lgg hjlt⟩
   have hxt := valsN_text hek (lmg hvget)
   obtain ⟨p2, c2, hpe2, hc2, hp2⟩ := id hvals
   cases hpe2
   obtain ⟨vb, vo, vcs, vty, vfr, vsp, rfl, hvb, hvd⟩ := hp2 (ne_nil_of hjlt)
   refine Cj.region (J.z (q19 (off' := vo + j * 2) tU101 tS104) ?_)
   refine J.z (q43 isAgg104 tS104 (Blk.imm hvb) (row_from valC_len hvd hvget)) ?_
   refine J.op rfl (q46 tZ104 ?_)
   intro b10 hb10
   refine J.op rfl (q21 0 tS104 (LSpl.c (LSpl.c LSpl.z)) LSet.z ?_)
   refine J.nssr (J.z q0 ?_)
   refine J.z (q4 (off' := 0) tU104 tS9) ?_
   refine J.z (q18 tA9) ?_
   refine J.op rfl (q24 tU28 tS9 tZ9 ?_)
   intro b11 hb11
   refine J.op rfl (op_append (by' := 15) [_, _, _] rfl rfl rfl rfl rfl tU28 (.inr ⟨_, tU28⟩) (by kernel_rfl) tS9 tZ9 rfl hg rfl (Src.slice (Blk.at 0 rfl) rfl rfl rfl) (by omega) ?_)
   intro g12 hg12
   refine J.z q1 ?_
   refine J.nssr (J.z (q4 (off' := 0) tU104 tS9) ?_)
   refine J.z (q9 tA9 (Blk.at 1 rfl)) ?_
   refine J.op rfl (q57 rfl rfl rfl rfl rfl (rWords_ok x.1 (by omega) _) ?_)
   intro v14 I15 H16 hle17 hn13 hp18
   have hIJ2 := hIJ2.mono hle17
   obtain ⟨gw, hgw, h, rfl⟩ := hp18; cases h
   refine J.keepS (hgw.base hn13) (fun Iw hlew hw => ?_)
   have hIJ2 := hIJ2.mono hlew
   obtain ⟨pw, cw, hwe⟩ := StrS_sl hw
   refine J.eqv 44 rfl hwe ?_
   rw [hwe] at hw
   replace hw := StrP.of hw
   refine J.z q1 ?_
   refine J.nssr (J.z q0 ?_)
   refine J.z (q15 tU28) ?_
   refine J.z (yl_gtr rfl rfl rfl) ?_
   refine J.cd (fun hc19 => ?_) (fun hc19 => ?_)
   ·
    have hc19p := odt hc19
    have hwl := (Ke.words_len x.1).1
    have hwn : 1 < (Ke.words x.1).length := by omega
    obtain ⟨a0, hw0⟩ : ∃ a, (Ke.words x.1)[0]? = some a := ⟨_, lgg (by omega)⟩
    obtain ⟨a1, hw1⟩ : ∃ a, (Ke.words x.1)[1]? = some a := ⟨_, lgg hwn⟩
    obtain ⟨a2, hw2⟩ : ∃ a, (Ke.words x.1)[(Ke.words x.1).length - 1]? = some a := ⟨_, lgg (by omega)⟩
    have hl0 := Ke.words_each _ a0 (lmg hw0)
    have hl1 := Ke.words_each _ a1 (lmg hw1)
    have hl2 := Ke.words_each _ a2 (lmg hw2)
    obtain ⟨p3, c3, hpe3, hc3, hp3⟩ := id hw
    cases hpe3
    obtain ⟨wb, wo, wcs, wty, wfr, wsp, rfl, hwb, hwd⟩ := hp3 (ne_nil_of hwn)
    refine Cj.drawSel [0, 1, 2] [] 21 (by kernel_rfl) ?_
    refine JA.fix ⟨(HSub.c 0 rfl (HSub.c 1 rfl (HSub.c 2 rfl HSub.n))), CSub.n, (Le.refl _)⟩ (fun fx20 => ?_)
    refine JA.tk 0 rfl fx20 q0 ?_
    refine JA.tk 1 rfl fx20 q0 ?_
    refine JA.tk 2 rfl fx20 (q19 (off' := wo + 1) tU28 tS9) ?_
    refine JA.tk 3 rfl fx20 (q37 tA9 (Blk.immC hwb) (str_from hwd hw1)) ?_
    refine JA.tk 4 rfl fx20 q0 ?_
    refine JA.tk 5 rfl fx20 (q19 (off' := wo + 0) tU28 tS9) ?_
    refine JA.tk 6 rfl fx20 (q37 tA9 (Blk.immC hwb) (str_from hwd hw0)) ?_
    refine JA.tk 7 rfl fx20 (yl_cat rfl rfl rfl (by first | omega | (simp only [List.length_append]; omega) | (simp; omega))) ?_
    refine JA.tk 8 rfl fx20 q0 ?_
    refine JA.tk 9 rfl fx20 (q19 (off' := wo + 1) tU28 tS9) ?_
    refine JA.tk 10 rfl fx20 (q37 tA9 (Blk.immC hwb) (str_from hwd hw1)) ?_
    refine JA.tk 11 rfl fx20 (yl_cat rfl rfl rfl (by first | omega | (simp only [List.length_append]; omega) | (simp; omega))) ?_
    refine JA.tk 12 rfl fx20 q0 ?_
    refine JA.tk 13 rfl fx20 q0 ?_
    refine JA.tk 14 rfl fx20 (q15 tU28) ?_
    refine JA.tk 15 rfl fx20 q49 ?_
    refine JA.eqv 63 rfl (show _ = i64 (((Ke.words x.1).length - 1 : Nat) : Int) from (congrArg i64 (by omega))) ?_
    refine JA.tk 16 rfl fx20 (yl_indexAddr (off' := wo + ((Ke.words x.1).length - 1)) rfl rfl rfl tU28 tS9 (by omega) (by omega) (by omega)) ?_
    refine JA.tk 17 rfl fx20 (q37 tA9 (Blk.immC hwb) (str_from hwd hw2)) ?_
    refine q13 18 rfl (op_buildSlice rfl rfl rfl tU28 tS9 tZ9 rfl rfl rfl rfl (LCat.one rfl (LCat.one rfl (LCat.one rfl LCat.none))) ?_)
    intro b21 hb21
    refine ⟨⟨(Le.refl _), (HSub.c 1 rfl (HSub.c 2 rfl (HSub.c 3 rfl HSub.n))), CSub.n⟩, ?_⟩
    refine q13 19 rfl (op_append (by' := 15) [_, _, _, _] rfl rfl rfl rfl rfl tU28 (.inr ⟨_, tU28⟩) (by kernel_rfl) tS9 tZ9 rfl hg12 rfl (Src.slice (Blk.at 0 rfl) rfl rfl rfl) (by omega) ?_)
    intro g22 hg22
    refine ⟨⟨(Le.refl _), (HSub.c 1 rfl (HSub.c 2 rfl (HSub.c 3 rfl HSub.n))), CSub.n⟩, ?_⟩
    refine JA.fix ⟨(HSub.c 1 rfl (HSub.c 2 rfl (HSub.c 3 rfl HSub.n))), CSub.n, (Le.refl _)⟩ (fun fx23 => ?_)
    refine JA.tk 20 rfl fx23 q1 ?_
    refine q14 ?_
    refine Ej.blkNormal (Ej.seq (Cj.region (J.z q7 ?_)))
    refine J.z q0 ?_
    refine J.nil (Ej.keep (Keeps.d (Keeps.d (Keeps.d (Keeps.k Keeps.r)))) ?_)
    refine Ej.round (j + 1, _, al ++ [x.1] ++ [a1, a0 ++ [32] ++ a1, a2], g22) ⟨by dsimp only; omega, hIJ2, hal.four (by omega) (by omega) (by simp only [List.length_append, List.length_cons, List.length_nil]; omega) (by omega), by dsimp only; rw [List.map_append, List.map_append, List.length_append, List.length_append]; exact hg22⟩ (by dsimp only; omega) ⟨rfl, rfl, rfl, rfl, by dsimp only; rw [List.length_append, List.length_append]; rfl, rfl, rfl, rfl, rfl, rfl, rfl, trivial⟩ rfl (by dsimp only; rw [List.map_append, List.map_append]; rfl)
   have hc19p := odf hc19
   refine Cj.kb (Cj.region (J.z q7 ?_))
   refine J.z q0 ?_
   refine J.nil (Ej.keep (Keeps.d (Keeps.d (Keeps.k Keeps.r))) ?_)
   refine Ej.round (j + 1, _, al ++ [x.1], g12) ⟨by dsimp only; omega, hIJ2, hal.one (by omega), by dsimp only; rw [List.map_append, List.length_append]; exact hg12⟩ (by dsimp only; omega) ⟨rfl, rfl, rfl, rfl, by dsimp only; rw [List.length_append]; rfl, rfl, rfl, rfl, rfl, rfl, rfl, trivial⟩ rfl (by dsimp only; rw [List.map_append]; rfl)
  have hc9p := odf hc9
  refine Cj.exit (Ej.seqExit (Ej.loopExit (Ej.blkExit (Ej.blkNormal (Ej.seq (Cj.region (J.z q7 ?_)))))))
  refine J.z q0 ?_
  refine J.nil (Ej.keep (Keeps.d Keeps.r) ?_)
  refine Ej.round (k + 1, _, al, g) ⟨by dsimp only; omega, hIJ, hal.next (by omega), hg⟩ (by dsimp only; omega) ⟨rfl, rfl, rfl, rfl, rfl, rfl, rfl, rfl, trivial⟩ rfl rfl
 have hc2p := odf hc2
 refine Cj.xl (Cj.seq (Cj.seq (Cj.perm (H' := gH 9 (al.map str) g ++ []) (.of_eq (List.append_nil _)) ?_)))
 refine Cj.keepS hg (fun I8 hle8 hv => ?_)
 have hIJ := hIJ.mono hle8
 have hx := hx.mono hle8
 have hy := hy.mono hle8
 replace hv := StrP.of hv
 obtain ⟨pa, ca, hae⟩ := StrP.len hv
 rw [hae] at hv
 rw [hae]
 obtain ⟨J8, hJ8⟩ : ∃ J, J = I8 := ⟨_, rfl⟩
 refine Cj.region (J.z q0 ?_)
 refine J.z (q15 tU28) ?_
 refine J.z q0 ?_
 refine J.ns (Cj.block (Cj.loop (ι := Nat × Heap) (fun y => y.1 ≤ al.length ∧ Le I8 y.2) (fun y => al.length - y.1) (fun y => [(0, ptr ib 0), (1, ptr rb 0), (2, str n), (3, str text), (70, .slice pa al.length ca), (71, i64 (al.length : Int)), (72, i64 (y.1 : Int))]) (fun y => y.2) (fun y => []) (0, _) ⟨Nat.zero_le _, Le.refl _⟩ ⟨rfl, rfl, rfl, rfl, rfl, rfl, rfl, trivial⟩ rfl rfl ?_))
 rintro ⟨i, J3⟩ ⟨hi, hIJ⟩
 dsimp only at hi hIJ ⊢
 have hx := hx.mono hIJ
 have hy := hy.mono hIJ
 have hv := hv.mono hIJ
 refine Cj.sr (J.z q17 ?_)
 refine J.nss (Cj.cond rfl (fun hc24 => ?_) (fun hc24 => ?_))
 ·
  have hc24p := odt hc24
  refine Cj.ks (Cj.seq (Cj.block (Cj.seq ?_)))
  have hilt : i < al.length := by omega
  obtain ⟨s, hsget⟩ : ∃ x, al[i]? = some x := ⟨_, lgg hilt⟩
  have hsl := hal.2 s (lmg hsget)
  obtain ⟨p4, c4, hpe4, hc4, hp4⟩ := id hv
  cases hpe4
  obtain ⟨ab, ao, acs, aty, afr, asp, rfl, hab, had⟩ := hp4 (ne_nil_of hilt)
  refine Cj.region (J.z q0 ?_)
  refine J.z (q19 (off' := ao + i) tU28 tS9) ?_
  refine J.z (q37 tA9 (Blk.imm hab) (str_from had hsget)) ?_
  refine J.z q1 ?_
  refine J.z q1 ?_
  refine J.nsss (Cj.region (J.z q0 ?_))
  refine J.z (yl_gtr rfl rfl rfl) ?_
  refine J.cd (fun hc25 => ?_) (fun hc25 => ?_)
  ·
   have hc25p := odt hc25
   refine Cj.exit (Ej.seqExit (Ej.blkOther rfl ?_))
   refine Ej.seqExit (Ej.loopExit (Ej.blkExit (Ej.seq (Cj.seq ?_))))
   obtain ⟨pf, cf, hRf⟩ := hy.ex
   refine Cj.region (J.z q0 ?_)
   refine J.z q0 ?_
   refine J.op rfl (q44 rfl rfl rfl rfl rfl (Scan_ok ib (es.map entL) n [] (by decide) 100 _ hx) ?_)
   intro v27 I28 H29 hle30 hn26 hp31
   have hx := hx.mono hle30
   have hy := hy.mono hle30
   have hRf := hRf.mono hle30
   obtain ⟨wd, h, hod⟩ := hp31; cases h
   refine J.keepO hod hn26 (fun Id hled hrd => ?_)
   have hx := hx.mono hled
   have hy := hy.mono hled
   have hRf := hRf.mono hled
   replace hrd := hrd.row
   refine J.z q0 ?_
   refine J.z q0 ?_
   refine J.op rfl (q36 (H1 := []) rfl rfl rfl rfl rfl (rScan_ok rb es n [] (by decide) 100 _ hy) ?_)
   intro v32 I33 H34 hle35 hp36
   have hx := hx.mono hle35
   have hy := hy.mono hle35
   have hRf := hRf.mono hle35
   have hrd := hrd.mono hle35
   obtain ⟨vqd, h, qd, rfl⟩ := hp36; cases h
   refine J.op rfl (op_pure rfl rfl rfl rfl rfl (rLines_ok ((Ix.scan (es.map entL) n [] 100).map lineI) ((Ix.scan (es.map entL) n [] 100).map lineI) _ _ (by have := scan_small (es.map entL) n [] 100; omega) _ hrd qd) ?_)
   refine J.eqv 120 rfl (show _ = .bool true from (congrArg Value.bool (decide_eq_true rfl))) ?_
   refine J.z q0 ?_
   refine q12 7 121 true (q2 q0 ?_)
   refine q12 7 121 true (q2 q0 ?_)
   refine q12 7 121 true (q2 q0 ?_)
   refine J.opG 7 121 true _ rfl rfl rfl rfl (q44 rfl rfl rfl rfl rfl (Scan_ok ib (es.map entL) n text htl 3 _ hx) ?_)
   intro v38 I39 H40 hle41 hn37 hp42
   have hx := hx.mono hle41
   have hy := hy.mono hle41
   have hRf := hRf.mono hle41
   obtain ⟨we, h, hoe⟩ := hp42; cases h
   refine J.keepO hoe hn37 (fun Ie hlee hre => ?_)
   have hx := hx.mono hlee
   have hy := hy.mono hlee
   have hRf := hRf.mono hlee
   replace hre := hre.row
   refine q12 7 121 true (q2 q0 ?_)
   refine q12 7 121 true (q2 q0 ?_)
   refine q12 7 121 true (q2 q0 ?_)
   refine J.opG 7 121 true _ rfl rfl rfl rfl (q36 (H1 := []) rfl rfl rfl rfl rfl (rScan_ok rb es n text htl 3 _ hy) ?_)
   intro v43 I44 H45 hle46 hp47
   have hx := hx.mono hle46
   have hRf := hRf.mono hle46
   have hre := hre.mono hle46
   obtain ⟨vqe, h, qe, rfl⟩ := hp47; cases h
   refine J.opG 7 121 true _ rfl rfl rfl rfl (op_pure rfl rfl rfl rfl rfl (rLines_ok ((Ix.scan (es.map entL) n text 3).map lineI) ((Ix.scan (es.map entL) n text 3).map lineI) _ _ (by have := scan_small (es.map entL) n text 3; omega) _ hre qe) ?_)
   refine J.eqv 130 rfl (show _ = .bool true from (congrArg Value.bool (decide_eq_true rfl))) ?_
   refine J.z q51 ?_
   refine J.z q0 ?_
   refine q12 18 132 true (q2 q0 ?_)
   refine J.opG 18 132 true _ rfl rfl rfl rfl (q57 rfl rfl rfl rfl rfl (Titles_ok ib (es.map entL) _ hx) ?_)
   intro v49 I50 H51 hle52 hn48 hp53
   have hRf := hRf.mono hle52
   obtain ⟨gf, hgf, h, rfl⟩ := hp53; cases h
   refine J.keepR recC_len (by decide) (hgf.base hn48) (by simp) (fun If hlef hrf => ?_)
   have hRf := hRf.mono hlef
   refine q12 18 132 true (q2 q0 ?_)
   refine J.opG 18 132 true _ rfl rfl rfl rfl (q36 (H1 := []) rfl rfl rfl rfl rfl (rTitles_ok rb _ es (by omega) _ hRf.1 hRf.2) ?_)
   intro v54 I55 H56 hle57 hp58
   have hrf := hrf.mono hle57
   obtain ⟨vqf, h, qf, rfl⟩ := hp58; cases h
   refine J.opG 18 132 true _ rfl rfl rfl rfl (op_pure rfl rfl rfl rfl rfl (rRecs_ok (es.map (·.t)) (es.map (·.t)) _ _ (by rw [List.length_map]; omega) _ (tit_eq es ▸ hrf) qf) ?_)
   refine J.eqv 137 rfl (show _ = .bool true from (congrArg Value.bool (decide_eq_true rfl))) ?_
   refine J.z q51 ?_
   refine J.z q1 ?_
   refine J.ns (Cj.ret (q6 ?_))
   exact ⟨rfl, rfl⟩
  have hc25p := odf hc25
  refine Cj.ks (Cj.sr (J.z q0 ?_))
  refine J.z q0 ?_
  refine J.z q0 ?_
  refine J.op rfl (q44 rfl rfl rfl rfl rfl (Word_ok ib (es.map entL) n s hsl _ hx) ?_)
  intro v60 I61 H62 hle63 hn59 hp64
  have hIJ := hIJ.mono hle63
  have hx := hx.mono hle63
  have hy := hy.mono hle63
  obtain ⟨wa, h, hoa⟩ := hp64; cases h
  refine J.keepO hoa hn59 (fun Ia hlea hra => ?_)
  have hIJ := hIJ.mono hlea
  have hx := hx.mono hlea
  have hy := hy.mono hlea
  replace hra := hra.row
  refine J.z q0 ?_
  refine J.z q0 ?_
  refine J.z q0 ?_
  refine J.op rfl (q36 (H1 := []) rfl rfl rfl rfl rfl (rWord_ok rb es n s (by omega) _ hy) ?_)
  intro v65 I66 H67 hle68 hp69
  have hIJ := hIJ.mono hle68
  have hx := hx.mono hle68
  have hy := hy.mono hle68
  have hra := hra.mono hle68
  obtain ⟨vqa, h, qa, rfl⟩ := hp69; cases h
  refine J.op rfl (op_pure rfl rfl rfl rfl rfl (rRecs_ok (Ix.word (es.map entL) n s) (Ix.word (es.map entL) n s) _ _ (by have := word_small es n s; omega) _ hra qa) ?_)
  refine J.eqv 87 rfl (show _ = .bool true from (congrArg Value.bool (decide_eq_true rfl))) ?_
  refine J.z q50 ?_
  refine J.z q0 ?_
  refine q5 10 89 false (congrArg not rfl) (q2 q0 ?_)
  refine q5 10 89 false (congrArg not rfl) (q2 q0 ?_)
  refine q5 10 89 false (congrArg not rfl) (q2 q0 ?_)
  refine J.opG 10 89 false _ rfl rfl rfl (congrArg not rfl) (q44 rfl rfl rfl rfl rfl (Phrase_ok ib (es.map entL) n s hsl _ hx) ?_)
  intro v71 I72 H73 hle74 hn70 hp75
  have hIJ := hIJ.mono hle74
  have hx := hx.mono hle74
  have hy := hy.mono hle74
  obtain ⟨wz, h, hoz⟩ := hp75; cases h
  refine J.keepO hoz hn70 (fun Iz hlez hrz => ?_)
  have hIJ := hIJ.mono hlez
  have hx := hx.mono hlez
  have hy := hy.mono hlez
  replace hrz := hrz.row
  refine q5 10 89 false (congrArg not rfl) (q2 q0 ?_)
  refine q5 10 89 false (congrArg not rfl) (q2 q0 ?_)
  refine q5 10 89 false (congrArg not rfl) (q2 q0 ?_)
  refine J.opG 10 89 false _ rfl rfl rfl (congrArg not rfl) (q36 (H1 := []) rfl rfl rfl rfl rfl (rPhrase_ok rb es n s (by omega) _ hy) ?_)
  intro v76 I77 H78 hle79 hp80
  have hIJ := hIJ.mono hle79
  have hx := hx.mono hle79
  have hy := hy.mono hle79
  have hrz := hrz.mono hle79
  obtain ⟨vqz, h, qz, rfl⟩ := hp80; cases h
  refine J.opG 10 89 false _ rfl rfl rfl (congrArg not rfl) (op_pure rfl rfl rfl rfl rfl (rRecs_ok (Ix.phrase (es.map entL) n (Ke.words s)) (Ix.phrase (es.map entL) n (Ke.words s)) _ _ (by have := phrase_small es n (Ke.words s); omega) _ hrz qz) ?_)
  refine J.eqv 98 rfl (show _ = .bool true from (congrArg Value.bool (decide_eq_true rfl))) ?_
  refine q5 10 89 false (congrArg not rfl) (q2 q50 ?_)
  refine J.z (q10 (congrArg not rfl)) ?_
  refine J.z q0 ?_
  refine q5 22 101 false (congrArg not rfl) (q2 q0 ?_)
  refine q5 22 101 false (congrArg not rfl) (q2 q0 ?_)
  refine q5 22 101 false (congrArg not rfl) (q2 q0 ?_)
  refine J.opG 22 101 false _ rfl rfl rfl (congrArg not rfl) (q44 rfl rfl rfl rfl rfl (Key_ok ib (es.map entL) n s hsl _ hx) ?_)
  intro v82 I83 H84 hle85 hn81 hp86
  have hIJ := hIJ.mono hle85
  have hy := hy.mono hle85
  obtain ⟨wc, h, hoc⟩ := hp86; cases h
  refine J.keepO hoc hn81 (fun Ic hlec hrc => ?_)
  have hIJ := hIJ.mono hlec
  have hy := hy.mono hlec
  replace hrc := hrc.row
  refine q5 22 101 false (congrArg not rfl) (q2 q0 ?_)
  refine q5 22 101 false (congrArg not rfl) (q2 q0 ?_)
  refine q5 22 101 false (congrArg not rfl) (q2 q0 ?_)
  refine J.opG 22 101 false _ rfl rfl rfl (congrArg not rfl) (q36 (H1 := []) rfl rfl rfl rfl rfl (rKey_ok rb es n s hsl _ hy) ?_)
  intro v87 I88 H89 hle90 hp91
  have hIJ := hIJ.mono hle90
  have hrc := hrc.mono hle90
  obtain ⟨vqc, h, qc, rfl⟩ := hp91; cases h
  refine J.opG 22 101 false _ rfl rfl rfl (congrArg not rfl) (op_pure rfl rfl rfl rfl rfl (rRecs_ok (Ix.withK (es.map entL) n (Ix.keyOf n s)) (Ix.withK (es.map entL) n (Ix.keyOf n s)) _ _ (by have := withK_len es n (Ix.keyOf n s); omega) _ hrc qc) ?_)
  refine J.eqv 110 rfl (show _ = .bool true from (congrArg Value.bool (decide_eq_true rfl))) ?_
  refine q5 22 101 false (congrArg not rfl) (q2 q50 ?_)
  refine J.z (q10 (congrArg not rfl)) ?_
  refine J.ns (Cj.cond rfl (fun hc92 => Bool.noConfusion (Eq.trans (Eq.symm (congrArg not rfl)) hc92)) (fun hc92 => ?_))
  refine Cj.kb (Cj.region (J.z q7 ?_))
  refine J.z q0 ?_
  refine J.nil (Ej.round (i + 1, _) ⟨by dsimp only; omega, hIJ⟩ (by dsimp only; omega) ⟨rfl, rfl, rfl, rfl, rfl, rfl, rfl, trivial⟩ rfl rfl)
 have hc24p := odf hc24
 refine Cj.xl (Cj.seq ?_)
 obtain ⟨pf, cf, hRf⟩ := hy.ex
 refine Cj.region (J.z q0 ?_)
 refine J.z q0 ?_
 refine J.op rfl (q44 rfl rfl rfl rfl rfl (Scan_ok ib (es.map entL) n [] (by decide) 100 _ hx) ?_)
 intro v94 I95 H96 hle97 hn93 hp98
 have hx := hx.mono hle97
 have hy := hy.mono hle97
 have hRf := hRf.mono hle97
 obtain ⟨wd, h, hod⟩ := hp98; cases h
 refine J.keepO hod hn93 (fun Id hled hrd => ?_)
 have hx := hx.mono hled
 have hy := hy.mono hled
 have hRf := hRf.mono hled
 replace hrd := hrd.row
 refine J.z q0 ?_
 refine J.z q0 ?_
 refine J.op rfl (q36 (H1 := []) rfl rfl rfl rfl rfl (rScan_ok rb es n [] (by decide) 100 _ hy) ?_)
 intro v99 I100 H101 hle102 hp103
 have hx := hx.mono hle102
 have hy := hy.mono hle102
 have hRf := hRf.mono hle102
 have hrd := hrd.mono hle102
 obtain ⟨vqd, h, qd, rfl⟩ := hp103; cases h
 refine J.op rfl (op_pure rfl rfl rfl rfl rfl (rLines_ok ((Ix.scan (es.map entL) n [] 100).map lineI) ((Ix.scan (es.map entL) n [] 100).map lineI) _ _ (by have := scan_small (es.map entL) n [] 100; omega) _ hrd qd) ?_)
 refine J.eqv 120 rfl (show _ = .bool true from (congrArg Value.bool (decide_eq_true rfl))) ?_
 refine J.z q0 ?_
 refine q12 7 121 true (q2 q0 ?_)
 refine q12 7 121 true (q2 q0 ?_)
 refine q12 7 121 true (q2 q0 ?_)
 refine J.opG 7 121 true _ rfl rfl rfl rfl (q44 rfl rfl rfl rfl rfl (Scan_ok ib (es.map entL) n text htl 3 _ hx) ?_)
 intro v105 I106 H107 hle108 hn104 hp109
 have hx := hx.mono hle108
 have hy := hy.mono hle108
 have hRf := hRf.mono hle108
 obtain ⟨we, h, hoe⟩ := hp109; cases h
 refine J.keepO hoe hn104 (fun Ie hlee hre => ?_)
 have hx := hx.mono hlee
 have hy := hy.mono hlee
 have hRf := hRf.mono hlee
 replace hre := hre.row
 refine q12 7 121 true (q2 q0 ?_)
 refine q12 7 121 true (q2 q0 ?_)
 refine q12 7 121 true (q2 q0 ?_)
 refine J.opG 7 121 true _ rfl rfl rfl rfl (q36 (H1 := []) rfl rfl rfl rfl rfl (rScan_ok rb es n text htl 3 _ hy) ?_)
 intro v110 I111 H112 hle113 hp114
 have hx := hx.mono hle113
 have hRf := hRf.mono hle113
 have hre := hre.mono hle113
 obtain ⟨vqe, h, qe, rfl⟩ := hp114; cases h
 refine J.opG 7 121 true _ rfl rfl rfl rfl (op_pure rfl rfl rfl rfl rfl (rLines_ok ((Ix.scan (es.map entL) n text 3).map lineI) ((Ix.scan (es.map entL) n text 3).map lineI) _ _ (by have := scan_small (es.map entL) n text 3; omega) _ hre qe) ?_)
 refine J.eqv 130 rfl (show _ = .bool true from (congrArg Value.bool (decide_eq_true rfl))) ?_
 refine J.z q51 ?_
 refine J.z q0 ?_
 refine q12 18 132 true (q2 q0 ?_)
 refine J.opG 18 132 true _ rfl rfl rfl rfl (q57 rfl rfl rfl rfl rfl (Titles_ok ib (es.map entL) _ hx) ?_)
 intro v116 I117 H118 hle119 hn115 hp120
 have hRf := hRf.mono hle119
 obtain ⟨gf, hgf, h, rfl⟩ := hp120; cases h
 refine J.keepR recC_len (by decide) (hgf.base hn115) (by simp) (fun If hlef hrf => ?_)
 have hRf := hRf.mono hlef
 refine q12 18 132 true (q2 q0 ?_)
 refine J.opG 18 132 true _ rfl rfl rfl rfl (q36 (H1 := []) rfl rfl rfl rfl rfl (rTitles_ok rb _ es (by omega) _ hRf.1 hRf.2) ?_)
 intro v121 I122 H123 hle124 hp125
 have hrf := hrf.mono hle124
 obtain ⟨vqf, h, qf, rfl⟩ := hp125; cases h
 refine J.opG 18 132 true _ rfl rfl rfl rfl (op_pure rfl rfl rfl rfl rfl (rRecs_ok (es.map (·.t)) (es.map (·.t)) _ _ (by rw [List.length_map]; omega) _ (tit_eq es ▸ hrf) qf) ?_)
 refine J.eqv 137 rfl (show _ = .bool true from (congrArg Value.bool (decide_eq_true rfl))) ?_
 refine J.z q51 ?_
 refine J.z q1 ?_
 refine J.ns (Cj.ret (q6 ?_))
 exact ⟨rfl, rfl⟩
end Go.Proofs.YtjcdfnbomkoheaaGreatDoor
end
section
namespace Go.Sx
open Go
structure Fact where
  p : Value → Heap → Prop
  m : ∀ v I I', p v I → Le I I' → p v I'
def Fact.is (v0 : Value) : Fact := ⟨fun v _ => v = v0, fun _ _ _ h _ => h⟩
theorem countP_lt {α : Type} {p q : α → Bool} : ∀ {l : List α} {i : α}, (∀ x ∈ l, q x = true → p x = true) → i ∈ l → p i = true → q i = false → l.countP q < l.countP p
  | [], _, _, h, _, _ => by cases h
  | a :: r, i, hs, hi, hp, hq => by
    have hs' : ∀ x ∈ r, q x = true → p x = true := fun x hx => hs x (.tail _ hx)
    have hle : r.countP q ≤ r.countP p := List.countP_mono_left hs'
    rw [List.countP_cons, List.countP_cons]
    by_cases ha : a = i
    · subst ha; rw [hp, hq]; simp; omega
    have hr : i ∈ r := by
      rcases List.mem_cons.1 hi with g | g
      · exact absurd g.symm ha
      exact g
    have := countP_lt hs' hr hp hq
    have h2 := hs a (.head _)
    cases hqa : q a with
    | false => simp; omega
    | true => rw [h2 hqa]; simp; omega
theorem OpJ.mono {cx : Cx} {Q : Qt} {o : Oper} {e : Env} {I : Heap} {H : HL} {C C' : Ct} (h : OpJ cx Q o e I H C) (hc : ∀ e' I' H', C e' I' H' → C' e' I' H') : OpJ cx Q o e I H C' :=
  fun K hK a w ha hs => h K (fun e' I' H' h1 => hK e' I' H' (hc e' I' H' h1)) a w ha hs
def waitsFor (l : List Oper) (k j : Nat) : Bool := match l[k]? with
  | none => false
  | some o => o.after.any fun ed => Region.binds .any ed && ed.on == j
def backwards (l : List Oper) : Bool := (List.range l.length).all fun k => match l[k]? with
  | none => true
  | some o => o.after.all fun ed => !Region.binds .any ed || Nat.blt ed.on k
def dsts (l : List Oper) : List Nat := l.filterMap (·.dst)
def dstAll (l : List Oper) : Bool := l.all (·.dst.isSome) && decide (dsts l).Nodup
theorem dst_inj : ∀ {l : List Oper}, (∀ o ∈ l, o.dst.isSome = true) → (dsts l).Nodup → ∀ {j k : Nat} {oj ok : Oper} {d : Nat}, l[j]? = some oj → l[k]? = some ok → oj.dst = some d → ok.dst = some d → j = k
  | [], _, _, j, _, _, _, _, h, _, _, _ => by simp at h
  | a :: r, hs, hn, j, k, oj, ok, d, hj, hk, h1, h2 => by
    obtain ⟨x, hx⟩ := Option.isSome_iff_exists.1 (hs a (.head _))
    have hc : dsts (a :: r) = x :: dsts r := by unfold dsts; rw [List.filterMap_cons, hx]
    rw [hc, List.nodup_cons] at hn
    have hs' : ∀ o ∈ r, o.dst.isSome = true := fun o ho => hs o (.tail _ ho)
    have hin : ∀ {i : Nat} {o : Oper}, r[i]? = some o → o.dst = some x → False := fun {i o} hi ho => hn.1 (List.mem_filterMap.2 ⟨o, List.mem_of_getElem? hi, ho⟩)
    match j, k with
    | 0, 0 => rfl
    | 0, k + 1 =>
      cases hj
      rw [List.getElem?_cons_succ] at hk
      exact absurd (by rw [h2, ← h1, hx]) fun g => hin hk g
    | j + 1, 0 =>
      cases hk
      rw [List.getElem?_cons_succ] at hj
      exact absurd (by rw [h1, ← h2, hx]) fun g => hin hj g
    | j + 1, k + 1 =>
      rw [List.getElem?_cons_succ] at hj hk
      rw [dst_inj hs' hn.2 hj hk h1 h2]
section
variable {cx : Cx} {Q : Qt} {l : List Oper} {I1 : Heap} {H : HL} {e0 : Env}
def Base (l : List Oper) (e0 e : Env) : Prop := ∀ t, t ∉ dsts l → eg e t = eg e0 t
def FlowT (cx : Cx) (_l : List Oper) (F : Nat → Fact) (k d : Nat) (e : Env) (I : Heap) (H : HL) : Ct := fun e' I' H' =>
  ∃ v K, e' = (d, v) :: e ∧ H' = K ++ H ∧ (∀ p ∈ K, cx.w0.heap.size ≤ p.1) ∧ Le I I' ∧ ∀ I'', Le I' I'' → (∀ p ∈ K, I'' p.1 = some p.2) → (F k).p v I''
def Known (l : List Oper) (F : Nat → Fact) (e : Env) (I : Heap) (j : Nat) : Prop := ∀ oj dj, l[j]? = some oj → oj.dst = some dj → ∃ v, eg e dj = some v ∧ (F j).p v I
theorem JA.flowN (F : Nat → Fact) (hb : backwards l = true) (hd : dstAll l = true)
    (step : ∀ k o d, l[k]? = some o → o.dst = some d → ∀ e I, Le I1 I → Base l e0 e → (∀ j, waitsFor l k j = true → Known l F e I j) → o.guard = none ∧ OpJ cx Q o e I H (FlowT cx l F k d e I H))
    (fin : ∀ e I, Le I1 I → Base l e0 e → (∀ k, Known l F e I k) → Ej cx Q .normal e I H) :
    ∀ (fuel : Nat) (listed : Array Bool) (e : Env) (I : Heap), listed.size = l.length → (List.range l.length).countP (fun i => !listed.getD i true) ≤ fuel → Le I1 I → Base l e0 e →
      (∀ k, listed.getD k false = true → Known l F e I k) → JA cx Q l I1 [] [] l.length fuel listed e I H := by
  have hds := hd
  unfold dstAll at hds
  rw [Bool.and_eq_true, List.all_eq_true, decide_eq_true_eq] at hds
  have hall : ∀ (listed : Array Bool) (e : Env) (I : Heap), listed.size = l.length → Region.ready .any l.toArray listed = [] → (∀ k, listed.getD k false = true → Known l F e I k) → ∀ k, Known l F e I k := by
    intro listed e I hsz hr hk k
    have hL : ∀ k, k < l.length → listed.getD k false = true := by
      intro k
      induction k using Nat.strongRecOn with
      | ind k ih =>
        intro hk
        refine Classical.byContradiction fun hn => ?_
        have hlt : k < listed.size := by omega
        have h1 : listed.getD k true = false := by
          rw [Array.getD, dif_pos hlt] at hn ⊢
          simpa using hn
        have h2 : k ∈ Region.ready .any l.toArray listed := by
          rw [mem_ready]
          refine ⟨h1, l[k], by simp [hk], fun ed hed hbd => ?_⟩
          have h3 := List.all_eq_true.1 hb k (List.mem_range.2 hk)
          rw [List.getElem?_eq_getElem hk] at h3
          have h4 := Array.all_eq_true_iff_forall_mem.1 h3 ed hed
          rw [hbd] at h4
          have h5 : ed.on < k := Nat.le_of_ble_eq_true (by simpa [Nat.blt] using h4)
          exact ih ed.on h5 (by omega)
        rw [hr] at h2; cases h2
    rcases Nat.lt_or_ge k l.length with g | g
    · exact hk k (hL k g)
    intro oj dj hj _
    rw [List.getElem?_eq_none g] at hj; cases hj
  intro fuel
  induction fuel with
  | zero =>
    intro listed e I hsz hc hle hba hk
    have hr : Region.ready .any l.toArray listed = [] := by
      refine List.eq_nil_iff_forall_not_mem.2 fun i hi => ?_
      obtain ⟨h1, o, h2, _⟩ := mem_ready.1 hi
      have h3 : i < l.length := by
        rcases Nat.lt_or_ge i l.length with g | g
        · exact g
        simp [List.getElem?_eq_none g] at h2
      have h4 : 0 < (List.range l.length).countP (fun i => !listed.getD i true) := List.countP_pos_iff.2 ⟨i, List.mem_range.2 h3, by rw [h1]; rfl⟩
      omega
    exact JA.done hr (fin e I hle hba (hall listed e I hsz hr hk))
  | succ fuel ih =>
    intro listed e I hsz hc hle hba hk
    by_cases hr : Region.ready .any l.toArray listed = []
    · exact JA.done hr (fin e I hle hba (hall listed e I hsz hr hk))
    refine JA.all _ rfl hr fun i hi => ?_
    obtain ⟨h1, o, h2, h3⟩ := mem_ready.1 hi
    have h2' : l[i]? = some o := by simpa using h2
    have hil : i < l.length := (List.getElem?_eq_some_iff.1 h2').1
    obtain ⟨d, hod⟩ := Option.isSome_iff_exists.1 (hds.1 o (List.mem_of_getElem? h2'))
    have hst := step i o d h2' hod e I hle hba fun j hj => by
      unfold waitsFor at hj
      rw [h2'] at hj
      obtain ⟨ed, hed, hp⟩ := Array.any_eq_true'.1 hj
      rw [Bool.and_eq_true, beq_iff_eq] at hp
      rw [← hp.2]
      exact hk _ (h3 ed hed hp.1)
    refine ⟨o, h2, hst.1, hst.2.mono ?_⟩
    rintro e' I' H' ⟨v, K, rfl, rfl, hK, hle', hF⟩
    refine ⟨⟨hle.trans hle', trivial, trivial⟩, ?_⟩
    refine persists_any (X := fun I H => JA cx Q l I1 [] [] l.length fuel (listed.setIfInBounds i true) ((d, v) :: e) I H) (base := cx.w0.heap.size) (fun _ _ _ _ hb k => JA.persist hb k) K I' hK fun I'' hle'' hKI => ?_
    have hdm : d ∈ dsts l := List.mem_filterMap.2 ⟨o, List.mem_of_getElem? h2', hod⟩
    refine ih _ _ _ (by simpa using hsz) ?_ ((hle.trans hle').trans hle'') (fun t ht => ?_) fun k hkl => ?_
    · have hlt := countP_lt (l := List.range l.length) (p := fun i => !listed.getD i true) (q := fun j => !(listed.setIfInBounds i true).getD j true) (i := i) (fun x _ hx => ?_) (List.mem_range.2 hil) (by rw [h1]; rfl) ?_
      · omega
      · by_cases hxi : i = x
        · subst hxi; rw [h1]; rfl
        rwa [getD_set_ne true hxi] at hx
      have : i < (listed.setIfInBounds i true).size := by rw [Array.size_setIfInBounds]; omega
      rw [Array.getD, dif_pos this]
      simp
    · have hne : Nat.beq d t = false := by
        refine Bool.eq_false_iff.2 fun g => ht ?_
        rw [← Nat.eq_of_beq_eq_true g]; exact hdm
      show (bif Nat.beq d t then some v else eg e t) = _
      rw [hne]; exact hba t ht
    by_cases hki : i = k
    · subst hki
      intro oj dj hj hdj
      rw [h2'] at hj; cases hj
      rw [hod] at hdj; cases hdj
      refine ⟨v, ?_, hF I'' hle'' hKI⟩
      show (bif Nat.beq d d then some v else eg e d) = _
      rw [Nat.beq_refl]; rfl
    rw [getD_set_ne false hki] at hkl
    intro oj dj hj hdj
    obtain ⟨u, hu, hp⟩ := hk k hkl oj dj hj hdj
    refine ⟨u, ?_, (F k).m _ _ _ hp (hle'.trans hle'')⟩
    have hne : Nat.beq d dj = false := by
      refine Bool.eq_false_iff.2 fun g => hki ?_
      have := Nat.eq_of_beq_eq_true g
      subst this
      exact dst_inj hds.1 hds.2 h2' hj hod hdj
    show (bif Nat.beq d dj then some v else eg e dj) = _
    rw [hne]; exact hu
theorem Cj.flow {id : Nat} (F : Nat → Fact) (hm : cx.P.follows .mixedOrders = true) (hb : backwards l = true) (hd : dstAll l = true)
    (step : ∀ k o d, l[k]? = some o → o.dst = some d → ∀ e I, Le I1 I → Base l e0 e → (∀ j, waitsFor l k j = true → Known l F e I j) → o.guard = none ∧ OpJ cx Q o e I H (FlowT cx l F k d e I H))
    (fin : ∀ e I, Le I1 I → Base l e0 e → (∀ k, Known l F e I k) → Ej cx Q .normal e I H)
    (hnd : cx.rd = none ∨ (noDefer l.toArray = true ∧ ¬ LetsOut Q) := by first | exact .inl rfl | exact .inr ⟨rfl, fun h => h.elim fun _ h => h.elim fun _ h => h⟩) : Cj cx Q (.region id l.toArray true) e0 I1 H := by
  refine Cj.draw [] [] l.length hm (JA.flowN F hb hd step fin _ _ _ _ (by simp) ?_ (Le.refl _) (fun _ _ => rfl) fun k hk => ?_) hnd
  · exact Nat.le_trans List.countP_le_length (by simp)
  rw [Array.getD] at hk
  split at hk
  · simp at hk
  cases hk
end
end Go.Sx
end
section
namespace Go.Proofs.YtjcdfnbomkoheaaGreatDoor
open _root_.Go.Proofs.Tryz
open Go Go.Sx
def ss2 : List Ke.Sub := [⟨97, [83, 101, 97, 32, 115, 116, 111, 114, 105, 101, 115]⟩]
def ff2 (w : Value) : Ke.Fld := ⟨[50, 52, 53], [49, 48], [], w, ss2⟩
def ss4 : List Ke.Sub := [⟨97, [87, 111, 111, 108, 102, 44, 32, 86, 105, 114, 103, 105, 110, 105, 97]⟩]
def ff4 (w : Value) : Ke.Fld := ⟨[49, 48, 48], [49, 32], [], w, ss4⟩
def ss6 : List Ke.Sub := [⟨97, [83, 101, 97]⟩, ⟨120, [72, 105, 115, 116, 111, 114, 121]⟩]
def ff6 (w : Value) : Ke.Fld := ⟨[54, 53, 48], [32, 48], [], w, ss6⟩
def ss12 : List Ke.Sub := [⟨97, [84, 104, 101, 32, 115, 101, 97, 32, 58]⟩, ⟨98, [97, 32, 115, 116, 111, 114, 121]⟩]
def ff12 (w : Value) : Ke.Fld := ⟨[50, 52, 53], [49, 52], [], w, ss12⟩
def ss14 : List Ke.Sub := [⟨97, [48, 45, 51, 48, 54, 45, 52, 48, 54, 49, 53, 45, 50]⟩]
def ff14 (w : Value) : Ke.Fld := ⟨[48, 50, 48], [32, 32], [], w, ss14⟩
def ss16 : List Ke.Sub := [⟨99, [99, 49, 57, 57, 57, 46]⟩]
def ff16 (w : Value) : Ke.Fld := ⟨[50, 54, 48], [32, 32], [], w, ss16⟩
def fs1 (a b c : Value) : List Ke.Fld := [ff2 a, ff4 b, ff6 c]
def fs2 (a b c : Value) : List Ke.Fld := [ff12 a, ff14 b, ff16 c]
def ns1 : List Ke.Fld := fs1 (.slice none 0 0) (.slice none 0 0) (.slice none 0 0)
def ns2 : List Ke.Fld := fs2 (.slice none 0 0) (.slice none 0 0) (.slice none 0 0)
def LS : Ix.Ix := [((1, 1), Ix.vals ns2), ((2, 1), Ix.vals ns1)]
theorem vals1_n (a b c : Value) : Ix.vals (fs1 a b c) = Ix.vals ns1 := by rw [← vals_nrm]; rfl
theorem vals2_n (a b c : Value) : Ix.vals (fs2 a b c) = Ix.vals ns2 := by rw [← vals_nrm]; rfl
theorem eok1 (a b c : Value) : EOK (fs1 a b c) := ⟨odt rfl, fun f hf => by
  simp only [fs1, List.mem_cons, List.not_mem_nil, or_false] at hf
  rcases hf with rfl | rfl | rfl <;> exact ⟨odt rfl, odt rfl, odt rfl⟩⟩
theorem eok2 (a b c : Value) : EOK (fs2 a b c) := ⟨odt rfl, fun f hf => by
  simp only [fs2, List.mem_cons, List.not_mem_nil, or_false] at hf
  rcases hf with rfl | rfl | rfl <;> exact ⟨odt rfl, odt rfl, odt rfl⟩⟩
def fStrs (l : List (List UInt8)) : Fact := ⟨fun v I => StrP I l v, fun _ _ _ h hle => h.mono hle⟩
def fFld (f : Value → Ke.Fld) (ss : List Ke.Sub) : Fact := ⟨fun v I => ∃ w, v = .agg (fldC (f w)).toArray ∧ RowS subC I ss w, fun _ _ _ ⟨w, h1, h2⟩ hle => ⟨w, h1, h2.mono hle⟩⟩
def fRow (fs : Value → Value → Value → List Ke.Fld) : Fact := ⟨fun v I => ∃ a b c, RecS I (fs a b c) v, fun _ _ _ ⟨a, b, c, h⟩ hle => ⟨a, b, c, h.mono hle⟩⟩
def fRcd (fs : Value → Value → Value → List Ke.Fld) : Fact := ⟨fun v I => ∃ w a b c, v = recV 0 0 w ∧ RecS I (fs a b c) w, fun _ _ _ ⟨w, a, b, c, h1, h⟩ hle => ⟨w, a, b, c, h1, h.mono hle⟩⟩
def fEnt (t : Ix.Rec) (fs : Value → Value → Value → List Ke.Fld) : Fact := ⟨fun v I => ∃ w a b c, v = .agg (entC ⟨t, 0, 0, w, fs a b c⟩).toArray ∧ RecS I (fs a b c) w, fun _ _ _ ⟨w, a, b, c, h1, h⟩ hle => ⟨w, a, b, c, h1, h.mono hle⟩⟩
def fEnts : Fact := ⟨fun v I => ∃ es, EntsS I es v ∧ es.length = 2 ∧ (∀ e ∈ es, EOK e.fs) ∧ Ix.rputs (es.map entL) [] = LS, fun _ _ _ ⟨es, h1, h2⟩ hle => ⟨es, h1.mono hle, h2⟩⟩
def fIxp : Fact := ⟨fun v I => ∃ ib, v = ptr ib 0 ∧ IxP I ib LS, fun _ _ _ ⟨ib, h1, h2⟩ hle => ⟨ib, h1, h2.mono hle⟩⟩
def fRecs (l : List Ix.Rec) : Fact := ⟨fun v I => RowS recC I l v, fun _ _ _ h hle => h.mono hle⟩
def fAny : Fact := ⟨fun _ _ => True, fun _ _ _ _ _ => trivial⟩
theorem strP_blk {I : Heap} {b : Nat} {l : List (List UInt8)} (h : I b = some (cel 9 (l.map str))) : StrP I l (.slice (some ⟨b, 0, none⟩) l.length l.length) :=
  strC_row.2 (RowS.of (sp := []) (Nat.le_refl _) (by rw [h, List.append_nil]; congr 1; congr 1; rw [← List.flatMap_singleton' (l.map str), List.flatMap_map]))
theorem one_ge {n b : Nat} {o : Obj} (h : n ≤ b) : ∀ p ∈ [(b, o)], n ≤ p.1 := fun p hp => by rw [List.mem_singleton.1 hp]; exact h
theorem none_ge {n : Nat} : ∀ p ∈ ([] : HL), n ≤ p.1 := fun p hp => by cases hp
theorem ls_eq (a b c x y z w u : Value) : Ix.rputs ([(⟨(2, 1), 0, 0, w, fs1 a b c⟩ : Ent), ⟨(1, 1), 0, 0, u, fs2 x y z⟩].map entL) [] = LS := by
  show Ix.rputs [((2, 1), Ix.vals (fs1 a b c)), ((1, 1), Ix.vals (fs2 x y z))] [] = LS
  rw [vals1_n, vals2_n]
  generalize hv : Ix.vals ns1 = v
  generalize hu : Ix.vals ns2 = u
  have : LS = [((1, 1), u), ((2, 1), v)] := by unfold LS; rw [hv, hu]
  rw [this]; rfl
def flow2 : Nat → Fact
  | 0 => .is (.agg #[i64 2, i64 1])
  | 1 => fStrs (prs ss2)
  | 2 => fFld ff2 ss2
  | 3 => fStrs (prs ss4)
  | 4 => fFld ff4 ss4
  | 5 => fStrs (prs ss6)
  | 6 => fFld ff6 ss6
  | 7 => fRow fs1
  | 8 => fRcd fs1
  | 9 => fEnt (2, 1) fs1
  | 10 => .is (.agg #[i64 1, i64 1])
  | 11 => fStrs (prs ss12)
  | 12 => fFld ff12 ss12
  | 13 => fStrs (prs ss14)
  | 14 => fFld ff14 ss14
  | 15 => fStrs (prs ss16)
  | 16 => fFld ff16 ss16
  | 17 => fRow fs2
  | 18 => fRcd fs2
  | 19 => fEnt (1, 1) fs2
  | 20 => fEnts
  | 21 => fIxp
  | 22 => fIxp
  | _ => fAny
def flow3 : Nat → Fact
  | 0 => .is (.agg #[i64 1, i64 1])
  | 1 => .is (.agg #[i64 2, i64 1])
  | 2 => fRecs [(1, 1), (2, 1)]
  | 3 => .is (.agg #[i64 1, i64 1])
  | 4 => fRecs [(1, 1)]
  | 5 => fRecs [(1, 1), (2, 1)]
  | 6 => fRecs [(1, 1)]
  | _ => fAny
theorem sw1 : Ix.word LS [116, 105, 116, 108, 101] [83, 69, 65] = [(1, 1), (2, 1)] := by decide +kernel
theorem sw2 : Ix.word LS [97, 110, 121] [115, 116, 111, 114, 121] = [(1, 1)] := by decide +kernel
theorem sw3 : Ix.word LS [97, 117, 116, 104, 111, 114] [115, 101, 97] = [] := by decide +kernel
theorem sw4 : Ix.phrase LS [116, 105, 116, 108, 101] (Ke.words [115, 101, 97, 32, 97, 32, 115, 116, 111, 114, 121]) = [(1, 1)] := by decide +kernel
theorem sw5 : Ix.phrase LS [116, 105, 116, 108, 101] (Ke.words [116, 104, 101, 32, 115, 116, 111, 114, 121]) = [] := by decide +kernel
theorem sw6 : Ix.withK LS [116, 105, 116, 108, 101] (Ix.keyOf [116, 105, 116, 108, 101] [83, 101, 97, 58, 32, 97, 32, 115, 116, 111, 114, 121]) = [(1, 1)] := by decide +kernel
theorem sw7 : Ix.withK LS [105, 115, 98, 110] (Ix.keyOf [105, 115, 98, 110] [57, 55, 56, 48, 51, 48, 54, 52, 48, 54, 49, 53, 55]) = [(1, 1)] := by decide +kernel
theorem sw8 : Ix.withK LS [121, 101, 97, 114] (Ix.keyOf [121, 101, 97, 114] [49, 57, 57, 57]) = [(1, 1)] := by decide +kernel
theorem sw9 : (Ix.scan LS [116, 105, 116, 108, 101] [115, 101, 97, 32, 98] 5).map lineI = [([115, 101, 97, 32, 115, 116, 111, 114, 105, 101, 115], 1)] := by decide +kernel
theorem sw10 : Ix.sortOf LS (1, 1) = [115, 101, 97, 32, 97, 32, 115, 116, 111, 114, 121] := by decide +kernel
theorem sanity_ok (I : Heap) : Pure Tryz.prog 13 [] I (.bool true) := by
 refine Ctr.toPure ?_
 refine Ctr.ob func13 ?_
 intro w0 hw0
 refine Cj.sr (J.z q1 ?_)
 refine J.nssr (J.z (yl_buildS (pl := #[(0, 1), (1, 1)]) rfl rfl tZ26 rfl tU26 (fun w => by simp []) (LBld.part rfl rfl rfl (LSpl.c LSpl.z) (LBld.part rfl rfl rfl (LSpl.s (LSpl.c LSpl.z)) LBld.none))) ?_)
 refine J.z (yl_buildS (pl := #[(0, 1), (1, 1)]) rfl rfl tZ26 rfl tU26 (fun w => by simp []) (LBld.part rfl rfl rfl (LSpl.c LSpl.z) (LBld.part rfl rfl rfl (LSpl.s (LSpl.c LSpl.z)) LBld.none))) ?_
 refine J.op rfl (q46 tZ26 ?_)
 intro b1 hb1
 refine J.op rfl (q46 tZ26 ?_)
 intro b2 hb2
 refine J.op rfl (q21 1 tS26 (LSpl.c (LSpl.c LSpl.z)) (LSet.s LSet.z) ?_)
 refine J.op rfl (q21 0 tS26 (LSpl.c (LSpl.c LSpl.z)) LSet.z ?_)
 refine J.nss (Cj.flow flow2 (by kernel_rfl) (by kernel_rfl) (by kernel_rfl) (fun k o d hk hd e I2 hle hba hdep => ?_) (fun e I2 hle hba hkn => ?_))
 ·
  match k, hk with
  | 0, hk =>
   obtain rfl := Option.some.inj hk
   obtain rfl := Option.some.inj hd
   have ht : eg e 2 = some (ptr b2 0) := (hba 2 (by decide)).trans rfl
   exact ⟨rfl, q2 (yl_loadAgg (vs := [i64 2, i64 1]) rfl ht tA26 tS26 (Blk.at 0 rfl) rfl rfl) ⟨_, [], rfl, rfl, none_ge, Le.refl _, fun _ _ _ => rfl⟩⟩
  | 1, hk =>
   obtain rfl := Option.some.inj hk
   obtain rfl := Option.some.inj hd
   exact ⟨rfl, op_buildSlice rfl rfl rfl tU28 tS9 tZ9 rfl rfl rfl rfl (LCat.one rfl (LCat.one rfl LCat.none)) (fun b hb => ⟨_, [(b, _)], rfl, rfl, one_ge hb, Le.refl _, fun I3 _ hK => strP_blk (l := prs ss2) (hK _ (.head _))⟩)⟩
  | 2, hk =>
   obtain rfl := Option.some.inj hk
   obtain rfl := Option.some.inj hd
   obtain ⟨va, ha, pa⟩ := hdep 1 (by kernel_rfl) _ _ rfl rfl
   refine ⟨rfl, q44 (vs := [str [50, 52, 53], str [49, 48], va]) (fst := []) (cap := []) rfl rfl rfl rfl (by simp only [evs, ev, ha]; rfl) (field_ok [50, 52, 53] [49, 48] ss2 va (by decide) _ pa) (fun v I3 H3 hle3 _ hp => ?_)⟩
   obtain ⟨w, h, hw, rfl⟩ := hp; cases h
   exact ⟨_, [], rfl, rfl, none_ge, hle3, fun I4 hle4 _ => ⟨w, rfl, hw.mono hle4⟩⟩
  | 3, hk =>
   obtain rfl := Option.some.inj hk
   obtain rfl := Option.some.inj hd
   exact ⟨rfl, op_buildSlice rfl rfl rfl tU28 tS9 tZ9 rfl rfl rfl rfl (LCat.one rfl (LCat.one rfl LCat.none)) (fun b hb => ⟨_, [(b, _)], rfl, rfl, one_ge hb, Le.refl _, fun I3 _ hK => strP_blk (l := prs ss4) (hK _ (.head _))⟩)⟩
  | 4, hk =>
   obtain rfl := Option.some.inj hk
   obtain rfl := Option.some.inj hd
   obtain ⟨va, ha, pa⟩ := hdep 3 (by kernel_rfl) _ _ rfl rfl
   refine ⟨rfl, q44 (vs := [str [49, 48, 48], str [49, 32], va]) (fst := []) (cap := []) rfl rfl rfl rfl (by simp only [evs, ev, ha]; rfl) (field_ok [49, 48, 48] [49, 32] ss4 va (by decide) _ pa) (fun v I3 H3 hle3 _ hp => ?_)⟩
   obtain ⟨w, h, hw, rfl⟩ := hp; cases h
   exact ⟨_, [], rfl, rfl, none_ge, hle3, fun I4 hle4 _ => ⟨w, rfl, hw.mono hle4⟩⟩
  | 5, hk =>
   obtain rfl := Option.some.inj hk
   obtain rfl := Option.some.inj hd
   exact ⟨rfl, op_buildSlice rfl rfl rfl tU28 tS9 tZ9 rfl rfl rfl rfl (LCat.one rfl (LCat.one rfl (LCat.one rfl (LCat.one rfl LCat.none)))) (fun b hb => ⟨_, [(b, _)], rfl, rfl, one_ge hb, Le.refl _, fun I3 _ hK => strP_blk (l := prs ss6) (hK _ (.head _))⟩)⟩
  | 6, hk =>
   obtain rfl := Option.some.inj hk
   obtain rfl := Option.some.inj hd
   obtain ⟨va, ha, pa⟩ := hdep 5 (by kernel_rfl) _ _ rfl rfl
   refine ⟨rfl, q44 (vs := [str [54, 53, 48], str [32, 48], va]) (fst := []) (cap := []) rfl rfl rfl rfl (by simp only [evs, ev, ha]; rfl) (field_ok [54, 53, 48] [32, 48] ss6 va (by decide) _ pa) (fun v I3 H3 hle3 _ hp => ?_)⟩
   obtain ⟨w, h, hw, rfl⟩ := hp; cases h
   exact ⟨_, [], rfl, rfl, none_ge, hle3, fun I4 hle4 _ => ⟨w, rfl, hw.mono hle4⟩⟩
  | 7, hk =>
   obtain rfl := Option.some.inj hk
   obtain rfl := Option.some.inj hd
   obtain ⟨va, ha, pa⟩ := hdep 2 (by kernel_rfl) _ _ rfl rfl
   obtain ⟨wa, rfl, hwa⟩ := pa
   obtain ⟨vb, hb, pb⟩ := hdep 4 (by kernel_rfl) _ _ rfl rfl
   obtain ⟨wb, rfl, hwb⟩ := pb
   obtain ⟨vc, hc, pc⟩ := hdep 6 (by kernel_rfl) _ _ rfl rfl
   obtain ⟨wc, rfl, hwc⟩ := pc
   refine ⟨rfl, op_buildSlice (vs := [.agg (fldC (ff2 wa)).toArray, .agg (fldC (ff4 wb)).toArray, .agg (fldC (ff6 wc)).toArray]) rfl rfl rfl tU33 tS31 tZ31 rfl (by simp only [List.map, evs, ev, ha, hb, hc]) rfl rfl (LCat.agg rfl (LCat.agg rfl (LCat.agg rfl LCat.none))) (fun b hbb => ⟨_, [(b, _)], rfl, rfl, one_ge hbb, Le.refl _, fun I3 hle3 hK => ⟨wa, wb, wc, RowS.of (l := fs1 wa wb wc) (sp := []) (Nat.le_refl _) (hK _ (.head _)), fun f hf => ?_⟩⟩)⟩
   simp only [fs1, List.mem_cons, List.not_mem_nil, or_false] at hf
   rcases hf with rfl | rfl | rfl
   · exact hwa.mono hle3
   · exact hwb.mono hle3
   exact hwc.mono hle3
  | 8, hk =>
   obtain rfl := Option.some.inj hk
   obtain rfl := Option.some.inj hd
   obtain ⟨va, ha, pa⟩ := hdep 7 (by kernel_rfl) _ _ rfl rfl
   obtain ⟨wa, wb, wc, hw⟩ := pa
   obtain ⟨qp, qc, rfl⟩ := RowS.len hw.1
   exact ⟨rfl, op_yld (yl_buildS (vs := [.slice qp (fs1 wa wb wc).length qc]) (pl := #[(0, 1), (1, 1), (2, 1)]) rfl (by simp only [List.map, evs, ev, ha]) zeroValue35 rfl tU35 (fun w => by simp []) (LBld.part rfl rfl rfl (LSpl.s (LSpl.s (LSpl.c LSpl.z))) LBld.none)) rfl rfl ⟨_, [], rfl, rfl, none_ge, Le.refl _, fun I3 hle3 _ => ⟨_, wa, wb, wc, rfl, hw.mono hle3⟩⟩⟩
  | 9, hk =>
   obtain rfl := Option.some.inj hk
   obtain rfl := Option.some.inj hd
   obtain ⟨va, ha, pa⟩ := hdep 0 (by kernel_rfl) _ _ rfl rfl
   have pa : va = .agg [i64 2, i64 1].toArray := pa
   subst pa
   obtain ⟨vb, hb, pb⟩ := hdep 8 (by kernel_rfl) _ _ rfl rfl
   obtain ⟨w, wa, wb, wc, rfl, hw⟩ := pb
   exact ⟨rfl, op_yld (yl_buildS (vs := [.agg [i64 2, i64 1].toArray, recV 0 0 w]) (pl := #[(0, 2), (2, 3)]) rfl (by simp only [List.map, evs, ev, ha, hb]) tZ37 rfl tU37 (fun w => by simp []) (LBld.part rfl rfl rfl (LSpl.c (LSpl.c LSpl.z)) (LBld.part rfl rfl rfl (LSpl.s (LSpl.s (LSpl.c (LSpl.c (LSpl.c LSpl.z))))) LBld.none))) rfl rfl ⟨_, [], rfl, rfl, none_ge, Le.refl _, fun I3 hle3 _ => ⟨w, wa, wb, wc, rfl, hw.mono hle3⟩⟩⟩
  | 10, hk =>
   obtain rfl := Option.some.inj hk
   obtain rfl := Option.some.inj hd
   have ht : eg e 1 = some (ptr b1 0) := (hba 1 (by decide)).trans rfl
   exact ⟨rfl, q2 (yl_loadAgg (vs := [i64 1, i64 1]) rfl ht tA26 tS26 (Blk.at 1 rfl) rfl rfl) ⟨_, [], rfl, rfl, none_ge, Le.refl _, fun _ _ _ => rfl⟩⟩
  | 11, hk =>
   obtain rfl := Option.some.inj hk
   obtain rfl := Option.some.inj hd
   exact ⟨rfl, op_buildSlice rfl rfl rfl tU28 tS9 tZ9 rfl rfl rfl rfl (LCat.one rfl (LCat.one rfl (LCat.one rfl (LCat.one rfl LCat.none)))) (fun b hb => ⟨_, [(b, _)], rfl, rfl, one_ge hb, Le.refl _, fun I3 _ hK => strP_blk (l := prs ss12) (hK _ (.head _))⟩)⟩
  | 12, hk =>
   obtain rfl := Option.some.inj hk
   obtain rfl := Option.some.inj hd
   obtain ⟨va, ha, pa⟩ := hdep 11 (by kernel_rfl) _ _ rfl rfl
   refine ⟨rfl, q44 (vs := [str [50, 52, 53], str [49, 52], va]) (fst := []) (cap := []) rfl rfl rfl rfl (by simp only [evs, ev, ha]; rfl) (field_ok [50, 52, 53] [49, 52] ss12 va (by decide) _ pa) (fun v I3 H3 hle3 _ hp => ?_)⟩
   obtain ⟨w, h, hw, rfl⟩ := hp; cases h
   exact ⟨_, [], rfl, rfl, none_ge, hle3, fun I4 hle4 _ => ⟨w, rfl, hw.mono hle4⟩⟩
  | 13, hk =>
   obtain rfl := Option.some.inj hk
   obtain rfl := Option.some.inj hd
   exact ⟨rfl, op_buildSlice rfl rfl rfl tU28 tS9 tZ9 rfl rfl rfl rfl (LCat.one rfl (LCat.one rfl LCat.none)) (fun b hb => ⟨_, [(b, _)], rfl, rfl, one_ge hb, Le.refl _, fun I3 _ hK => strP_blk (l := prs ss14) (hK _ (.head _))⟩)⟩
  | 14, hk =>
   obtain rfl := Option.some.inj hk
   obtain rfl := Option.some.inj hd
   obtain ⟨va, ha, pa⟩ := hdep 13 (by kernel_rfl) _ _ rfl rfl
   refine ⟨rfl, q44 (vs := [str [48, 50, 48], str [32, 32], va]) (fst := []) (cap := []) rfl rfl rfl rfl (by simp only [evs, ev, ha]; rfl) (field_ok [48, 50, 48] [32, 32] ss14 va (by decide) _ pa) (fun v I3 H3 hle3 _ hp => ?_)⟩
   obtain ⟨w, h, hw, rfl⟩ := hp; cases h
   exact ⟨_, [], rfl, rfl, none_ge, hle3, fun I4 hle4 _ => ⟨w, rfl, hw.mono hle4⟩⟩
  | 15, hk =>
   obtain rfl := Option.some.inj hk
   obtain rfl := Option.some.inj hd
   exact ⟨rfl, op_buildSlice rfl rfl rfl tU28 tS9 tZ9 rfl rfl rfl rfl (LCat.one rfl (LCat.one rfl LCat.none)) (fun b hb => ⟨_, [(b, _)], rfl, rfl, one_ge hb, Le.refl _, fun I3 _ hK => strP_blk (l := prs ss16) (hK _ (.head _))⟩)⟩
  | 16, hk =>
   obtain rfl := Option.some.inj hk
   obtain rfl := Option.some.inj hd
   obtain ⟨va, ha, pa⟩ := hdep 15 (by kernel_rfl) _ _ rfl rfl
   refine ⟨rfl, q44 (vs := [str [50, 54, 48], str [32, 32], va]) (fst := []) (cap := []) rfl rfl rfl rfl (by simp only [evs, ev, ha]; rfl) (field_ok [50, 54, 48] [32, 32] ss16 va (by decide) _ pa) (fun v I3 H3 hle3 _ hp => ?_)⟩
   obtain ⟨w, h, hw, rfl⟩ := hp; cases h
   exact ⟨_, [], rfl, rfl, none_ge, hle3, fun I4 hle4 _ => ⟨w, rfl, hw.mono hle4⟩⟩
  | 17, hk =>
   obtain rfl := Option.some.inj hk
   obtain rfl := Option.some.inj hd
   obtain ⟨va, ha, pa⟩ := hdep 12 (by kernel_rfl) _ _ rfl rfl
   obtain ⟨wa, rfl, hwa⟩ := pa
   obtain ⟨vb, hb, pb⟩ := hdep 14 (by kernel_rfl) _ _ rfl rfl
   obtain ⟨wb, rfl, hwb⟩ := pb
   obtain ⟨vc, hc, pc⟩ := hdep 16 (by kernel_rfl) _ _ rfl rfl
   obtain ⟨wc, rfl, hwc⟩ := pc
   refine ⟨rfl, op_buildSlice (vs := [.agg (fldC (ff12 wa)).toArray, .agg (fldC (ff14 wb)).toArray, .agg (fldC (ff16 wc)).toArray]) rfl rfl rfl tU33 tS31 tZ31 rfl (by simp only [List.map, evs, ev, ha, hb, hc]) rfl rfl (LCat.agg rfl (LCat.agg rfl (LCat.agg rfl LCat.none))) (fun b hbb => ⟨_, [(b, _)], rfl, rfl, one_ge hbb, Le.refl _, fun I3 hle3 hK => ⟨wa, wb, wc, RowS.of (l := fs2 wa wb wc) (sp := []) (Nat.le_refl _) (hK _ (.head _)), fun f hf => ?_⟩⟩)⟩
   simp only [fs2, List.mem_cons, List.not_mem_nil, or_false] at hf
   rcases hf with rfl | rfl | rfl
   · exact hwa.mono hle3
   · exact hwb.mono hle3
   exact hwc.mono hle3
  | 18, hk =>
   obtain rfl := Option.some.inj hk
   obtain rfl := Option.some.inj hd
   obtain ⟨va, ha, pa⟩ := hdep 17 (by kernel_rfl) _ _ rfl rfl
   obtain ⟨wa, wb, wc, hw⟩ := pa
   obtain ⟨qp, qc, rfl⟩ := RowS.len hw.1
   exact ⟨rfl, op_yld (yl_buildS (vs := [.slice qp (fs2 wa wb wc).length qc]) (pl := #[(0, 1), (1, 1), (2, 1)]) rfl (by simp only [List.map, evs, ev, ha]) zeroValue35 rfl tU35 (fun w => by simp []) (LBld.part rfl rfl rfl (LSpl.s (LSpl.s (LSpl.c LSpl.z))) LBld.none)) rfl rfl ⟨_, [], rfl, rfl, none_ge, Le.refl _, fun I3 hle3 _ => ⟨_, wa, wb, wc, rfl, hw.mono hle3⟩⟩⟩
  | 19, hk =>
   obtain rfl := Option.some.inj hk
   obtain rfl := Option.some.inj hd
   obtain ⟨va, ha, pa⟩ := hdep 10 (by kernel_rfl) _ _ rfl rfl
   have pa : va = .agg [i64 1, i64 1].toArray := pa
   subst pa
   obtain ⟨vb, hb, pb⟩ := hdep 18 (by kernel_rfl) _ _ rfl rfl
   obtain ⟨w, wa, wb, wc, rfl, hw⟩ := pb
   exact ⟨rfl, op_yld (yl_buildS (vs := [.agg [i64 1, i64 1].toArray, recV 0 0 w]) (pl := #[(0, 2), (2, 3)]) rfl (by simp only [List.map, evs, ev, ha, hb]) tZ37 rfl tU37 (fun w => by simp []) (LBld.part rfl rfl rfl (LSpl.c (LSpl.c LSpl.z)) (LBld.part rfl rfl rfl (LSpl.s (LSpl.s (LSpl.c (LSpl.c (LSpl.c LSpl.z))))) LBld.none))) rfl rfl ⟨_, [], rfl, rfl, none_ge, Le.refl _, fun I3 hle3 _ => ⟨w, wa, wb, wc, rfl, hw.mono hle3⟩⟩⟩
  | 20, hk =>
   obtain rfl := Option.some.inj hk
   obtain rfl := Option.some.inj hd
   obtain ⟨va, ha, pa⟩ := hdep 9 (by kernel_rfl) _ _ rfl rfl
   obtain ⟨w, wa, wb, wc, rfl, hw⟩ := pa
   obtain ⟨vb, hb, pb⟩ := hdep 19 (by kernel_rfl) _ _ rfl rfl
   obtain ⟨u, ua, ub, uc, rfl, hu⟩ := pb
   obtain ⟨qp, qc, hq⟩ := RowS.len hw.1
   obtain ⟨rp, rc, hr⟩ := RowS.len hu.1
   refine ⟨rfl, op_buildSlice (vs := [.agg (entC ⟨(2, 1), 0, 0, w, fs1 wa wb wc⟩).toArray, .agg (entC ⟨(1, 1), 0, 0, u, fs2 ua ub uc⟩).toArray]) rfl rfl rfl tU27 tS37 tZ37 rfl (by simp only [List.map, evs, ev, ha, hb]) rfl rfl (LCat.agg rfl (LCat.agg rfl LCat.none)) (fun b hbb => ⟨_, [(b, _)], rfl, rfl, one_ge hbb, Le.refl _, fun I3 hle3 hK => ⟨[⟨(2, 1), 0, 0, w, fs1 wa wb wc⟩, ⟨(1, 1), 0, 0, u, fs2 ua ub uc⟩], ⟨RowS.of (sp := []) (Nat.le_refl _) (hK _ (.head _)), fun x hx => ?_⟩, rfl, fun x hx => ?_, ls_eq _ _ _ _ _ _ _ _⟩⟩)⟩
   · simp only [List.mem_cons, List.not_mem_nil, or_false] at hx
     rcases hx with rfl | rfl
     · exact hw.mono hle3
     exact hu.mono hle3
   simp only [List.mem_cons, List.not_mem_nil, or_false] at hx
   rcases hx with rfl | rfl
   · exact eok1 _ _ _
   exact eok2 _ _ _
  | 21, hk =>
   obtain rfl := Option.some.inj hk
   obtain rfl := Option.some.inj hd
   obtain ⟨va, ha, pa⟩ := hdep 20 (by kernel_rfl) _ _ rfl rfl
   obtain ⟨es, hE, hl, hek, hls⟩ := pa
   refine ⟨rfl, q57 (vs := [va]) (fst := []) (cap := []) rfl rfl rfl rfl (by simp only [evs, ev, ha]) (Build_ok es va (by omega) hek _ hE) (fun v I3 H3 hle3 hn hp => ?_)⟩
   obtain ⟨ib, o, h, hok, rfl⟩ := hp; cases h
   rw [hls] at hok
   exact ⟨_, ixH ib o, rfl, rfl, hn, hle3, fun I4 hle4 hK => ⟨ib, rfl, o, hok.mono hle4, hK⟩⟩
  | 22, hk =>
   obtain rfl := Option.some.inj hk
   obtain rfl := Option.some.inj hd
   obtain ⟨va, ha, pa⟩ := hdep 21 (by kernel_rfl) _ _ rfl rfl
   obtain ⟨ib, rfl, hx⟩ := pa
   exact ⟨rfl, q2 (yl_assign rfl (show ev e (.tmp 29) = some (ptr ib 0) from ha)) ⟨_, [], rfl, rfl, none_ge, Le.refl _, fun I3 hle3 _ => ⟨ib, rfl, hx.mono hle3⟩⟩⟩
  | k + 23, hk => exact absurd hk (by simp)
 obtain ⟨v3, h3, ib, rfl, hx⟩ := hkn 22 _ _ rfl rfl
 refine Ej.weak (e' := [(3, ptr ib 0), (1, ptr b1 0), (2, ptr b2 0)]) ⟨h3, (hba 1 (by decide)).trans rfl, (hba 2 (by decide)).trans rfl, trivial⟩ ?_
 refine Ej.seq (Cj.seq (Cj.flow flow3 (by kernel_rfl) (by kernel_rfl) (by kernel_rfl) (fun k o d hk hd e I2 hle hba hdep => ?_) (fun e I2 hle hba hkn => ?_)))
 ·
  match k, hk with
  | 0, hk =>
   obtain rfl := Option.some.inj hk
   obtain rfl := Option.some.inj hd
   have ht : eg e 1 = some (ptr b1 0) := (hba 1 (by decide)).trans rfl
   exact ⟨rfl, q2 (yl_loadAgg (vs := [i64 1, i64 1]) rfl ht tA26 tS26 (Blk.at 1 rfl) rfl rfl) ⟨_, [], rfl, rfl, none_ge, Le.refl _, fun _ _ _ => rfl⟩⟩
  | 1, hk =>
   obtain rfl := Option.some.inj hk
   obtain rfl := Option.some.inj hd
   have ht : eg e 2 = some (ptr b2 0) := (hba 2 (by decide)).trans rfl
   exact ⟨rfl, q2 (yl_loadAgg (vs := [i64 2, i64 1]) rfl ht tA26 tS26 (Blk.at 0 rfl) rfl rfl) ⟨_, [], rfl, rfl, none_ge, Le.refl _, fun _ _ _ => rfl⟩⟩
  | 2, hk =>
   obtain rfl := Option.some.inj hk
   obtain rfl := Option.some.inj hd
   obtain ⟨va, ha, pa⟩ := hdep 0 (by kernel_rfl) _ _ rfl rfl
   have pa : va = .agg #[i64 1, i64 1] := pa
   subst pa
   obtain ⟨vb, hb, pb⟩ := hdep 1 (by kernel_rfl) _ _ rfl rfl
   have pb : vb = .agg #[i64 2, i64 1] := pb
   subst pb
   exact ⟨rfl, op_buildSlice (vs := [.agg [i64 1, i64 1].toArray, .agg [i64 2, i64 1].toArray]) rfl rfl rfl tU44 tS26 tZ26 rfl (by simp only [List.map, evs, ev, ha, hb]) rfl rfl (LCat.agg rfl (LCat.agg rfl LCat.none)) (fun b hbb => ⟨_, [(b, _)], rfl, rfl, one_ge hbb, Le.refl _, fun I3 hle3 hK => RowS.of (l := [((1, 1) : Ix.Rec), (2, 1)]) (sp := []) (Nat.le_refl _) (hK _ (.head _))⟩)⟩
  | 3, hk =>
   obtain rfl := Option.some.inj hk
   obtain rfl := Option.some.inj hd
   have ht : eg e 1 = some (ptr b1 0) := (hba 1 (by decide)).trans rfl
   exact ⟨rfl, q2 (yl_loadAgg (vs := [i64 1, i64 1]) rfl ht tA26 tS26 (Blk.at 1 rfl) rfl rfl) ⟨_, [], rfl, rfl, none_ge, Le.refl _, fun _ _ _ => rfl⟩⟩
  | 4, hk =>
   obtain rfl := Option.some.inj hk
   obtain rfl := Option.some.inj hd
   obtain ⟨va, ha, pa⟩ := hdep 3 (by kernel_rfl) _ _ rfl rfl
   have pa : va = .agg #[i64 1, i64 1] := pa
   subst pa
   exact ⟨rfl, op_buildSlice (vs := [.agg [i64 1, i64 1].toArray]) rfl rfl rfl tU44 tS26 tZ26 rfl (by simp only [List.map, evs, ev, ha]) rfl rfl (LCat.agg rfl LCat.none) (fun b hbb => ⟨_, [(b, _)], rfl, rfl, one_ge hbb, Le.refl _, fun I3 hle3 hK => RowS.of (l := [((1, 1) : Ix.Rec)]) (sp := []) (Nat.le_refl _) (hK _ (.head _))⟩)⟩
  | 5, hk =>
   obtain rfl := Option.some.inj hk
   obtain rfl := Option.some.inj hd
   obtain ⟨va, ha, pa⟩ := hdep 2 (by kernel_rfl) _ _ rfl rfl
   exact ⟨rfl, q2 (yl_assign rfl (show ev e (.tmp 32) = some va from ha)) ⟨_, [], rfl, rfl, none_ge, Le.refl _, fun I3 hle3 _ => RowS.mono pa hle3⟩⟩
  | 6, hk =>
   obtain rfl := Option.some.inj hk
   obtain rfl := Option.some.inj hd
   obtain ⟨va, ha, pa⟩ := hdep 4 (by kernel_rfl) _ _ rfl rfl
   exact ⟨rfl, q2 (yl_assign rfl (show ev e (.tmp 34) = some va from ha)) ⟨_, [], rfl, rfl, none_ge, Le.refl _, fun I3 hle3 _ => RowS.mono pa hle3⟩⟩
  | k + 7, hk => exact absurd hk (by simp)
 obtain ⟨v4, h4, hv4⟩ := hkn 5 _ _ rfl rfl
 obtain ⟨v5, h5, hv5⟩ := hkn 6 _ _ rfl rfl
 have hv4 : RowS recC I2 [(1, 1), (2, 1)] v4 := hv4
 have hv5 : RowS recC I2 [(1, 1)] v5 := hv5
 have hx := hx.mono hle
 refine Ej.weak (e' := [(3, ptr ib 0), (4, v4), (5, v5), (1, ptr b1 0), (2, ptr b2 0)]) ⟨(hba 3 (by decide)).trans rfl, h4, h5, (hba 1 (by decide)).trans rfl, (hba 2 (by decide)).trans rfl, trivial⟩ ?_
 refine Ej.seq (Cj.sr (J.z q0 ?_))
 refine J.op rfl (q44 rfl rfl rfl rfl rfl (Word_ok ib LS [116, 105, 116, 108, 101] [83, 69, 65] (by decide) _ hx) ?_)
 intro v4 I5 H6 hle7 hn3 hp8
 have hx := hx.mono hle7
 have hv4 := hv4.mono hle7
 have hv5 := hv5.mono hle7
 obtain ⟨wa, h, hoa⟩ := hp8; cases h
 refine J.keepO hoa hn3 (fun Ia hlea hra => ?_)
 have hx := hx.mono hlea
 have hv4 := hv4.mono hlea
 have hv5 := hv5.mono hlea
 replace hra := hra.row
 refine J.z q0 ?_
 refine J.op rfl (op_pure rfl rfl rfl rfl rfl (rRecs_ok (Ix.word LS [116, 105, 116, 108, 101] [83, 69, 65]) [(1, 1), (2, 1)] _ _ (by rw [sw1]; decide) _ hra hv4) ?_)
 refine J.eqv 38 rfl (show _ = .bool true from (congrArg Value.bool (decide_eq_true sw1))) ?_
 refine J.z q0 ?_
 refine q12 4 39 true (q2 q0 ?_)
 refine J.opG 4 39 true _ rfl rfl rfl rfl (q44 rfl rfl rfl rfl rfl (Word_ok ib LS [97, 110, 121] [115, 116, 111, 114, 121] (by decide) _ hx) ?_)
 intro v10 I11 H12 hle13 hn9 hp14
 have hx := hx.mono hle13
 have hv5 := hv5.mono hle13
 obtain ⟨wc, h, hoc⟩ := hp14; cases h
 refine J.keepO hoc hn9 (fun Ic hlec hrc => ?_)
 have hx := hx.mono hlec
 have hv5 := hv5.mono hlec
 replace hrc := hrc.row
 refine q12 4 39 true (q2 q0 ?_)
 refine J.opG 4 39 true _ rfl rfl rfl rfl (op_pure rfl rfl rfl rfl rfl (rRecs_ok (Ix.word LS [97, 110, 121] [115, 116, 111, 114, 121]) [(1, 1)] _ _ (by rw [sw2]; decide) _ hrc hv5) ?_)
 refine J.eqv 43 rfl (show _ = .bool true from (congrArg Value.bool (decide_eq_true sw2))) ?_
 refine J.z q51 ?_
 refine J.z q0 ?_
 refine q12 10 45 true (q2 q0 ?_)
 refine J.opG 10 45 true _ rfl rfl rfl rfl (q44 rfl rfl rfl rfl rfl (Word_ok ib LS [97, 117, 116, 104, 111, 114] [115, 101, 97] (by decide) _ hx) ?_)
 intro v16 I17 H18 hle19 hn15 hp20
 have hx := hx.mono hle19
 have hv5 := hv5.mono hle19
 obtain ⟨wd, h, hod⟩ := hp20; cases h
 refine J.keepO hod hn15 (fun Id hled hrd => ?_)
 have hx := hx.mono hled
 have hv5 := hv5.mono hled
 replace hrd := hrd.row
 obtain ⟨pd, cd, hvd⟩ := RowS.len hrd
 refine J.eqv 47 rfl hvd ?_
 refine q12 10 45 true (q2 (q15 tU44) ?_)
 refine q12 10 45 true (q2 q23 ?_)
 refine J.eqv 49 rfl (show _ = .bool true from (congrArg Value.bool (by rw [sw3]; rfl))) ?_
 refine J.z q51 ?_
 refine J.z q0 ?_
 refine q12 16 51 true (q2 q0 ?_)
 refine J.opG 16 51 true _ rfl rfl rfl rfl (q44 rfl rfl rfl rfl rfl (Phrase_ok ib LS [116, 105, 116, 108, 101] [115, 101, 97, 32, 97, 32, 115, 116, 111, 114, 121] (by decide) _ hx) ?_)
 intro v22 I23 H24 hle25 hn21 hp26
 have hx := hx.mono hle25
 have hv5 := hv5.mono hle25
 obtain ⟨we, h, hoe⟩ := hp26; cases h
 refine J.keepO hoe hn21 (fun Ie hlee hre => ?_)
 have hx := hx.mono hlee
 have hv5 := hv5.mono hlee
 replace hre := hre.row
 refine q12 16 51 true (q2 q0 ?_)
 refine J.opG 16 51 true _ rfl rfl rfl rfl (op_pure rfl rfl rfl rfl rfl (rRecs_ok (Ix.phrase LS [116, 105, 116, 108, 101] (Ke.words [115, 101, 97, 32, 97, 32, 115, 116, 111, 114, 121])) [(1, 1)] _ _ (by rw [sw4]; decide) _ hre hv5) ?_)
 refine J.eqv 55 rfl (show _ = .bool true from (congrArg Value.bool (decide_eq_true sw4))) ?_
 refine J.z q51 ?_
 refine J.z q0 ?_
 refine q12 22 57 true (q2 q0 ?_)
 refine J.opG 22 57 true _ rfl rfl rfl rfl (q44 rfl rfl rfl rfl rfl (Phrase_ok ib LS [116, 105, 116, 108, 101] [116, 104, 101, 32, 115, 116, 111, 114, 121] (by decide) _ hx) ?_)
 intro v28 I29 H30 hle31 hn27 hp32
 have hx := hx.mono hle31
 have hv5 := hv5.mono hle31
 obtain ⟨wf, h, hof⟩ := hp32; cases h
 refine J.keepO hof hn27 (fun If hlef hrf => ?_)
 have hx := hx.mono hlef
 have hv5 := hv5.mono hlef
 replace hrf := hrf.row
 obtain ⟨pf, cf, hvf⟩ := RowS.len hrf
 refine J.eqv 59 rfl hvf ?_
 refine q12 22 57 true (q2 (q15 tU44) ?_)
 refine q12 22 57 true (q2 q23 ?_)
 refine J.eqv 61 rfl (show _ = .bool true from (congrArg Value.bool (by rw [sw5]; rfl))) ?_
 refine J.z q51 ?_
 refine J.z q0 ?_
 refine q12 28 63 true (q2 q0 ?_)
 refine J.opG 28 63 true _ rfl rfl rfl rfl (q44 rfl rfl rfl rfl rfl (Key_ok ib LS [116, 105, 116, 108, 101] [83, 101, 97, 58, 32, 97, 32, 115, 116, 111, 114, 121] (by decide) _ hx) ?_)
 intro v34 I35 H36 hle37 hn33 hp38
 have hx := hx.mono hle37
 have hv5 := hv5.mono hle37
 obtain ⟨wg, h, hog⟩ := hp38; cases h
 refine J.keepO hog hn33 (fun Ig hleg hrg => ?_)
 have hx := hx.mono hleg
 have hv5 := hv5.mono hleg
 replace hrg := hrg.row
 refine q12 28 63 true (q2 q0 ?_)
 refine J.opG 28 63 true _ rfl rfl rfl rfl (op_pure rfl rfl rfl rfl rfl (rRecs_ok (Ix.withK LS [116, 105, 116, 108, 101] (Ix.keyOf [116, 105, 116, 108, 101] [83, 101, 97, 58, 32, 97, 32, 115, 116, 111, 114, 121])) [(1, 1)] _ _ (by rw [sw6]; decide) _ hrg hv5) ?_)
 refine J.eqv 67 rfl (show _ = .bool true from (congrArg Value.bool (decide_eq_true sw6))) ?_
 refine J.z q51 ?_
 refine J.z q0 ?_
 refine q12 34 69 true (q2 q0 ?_)
 refine J.opG 34 69 true _ rfl rfl rfl rfl (q44 rfl rfl rfl rfl rfl (Key_ok ib LS [105, 115, 98, 110] [57, 55, 56, 48, 51, 48, 54, 52, 48, 54, 49, 53, 55] (by decide) _ hx) ?_)
 intro v40 I41 H42 hle43 hn39 hp44
 have hx := hx.mono hle43
 have hv5 := hv5.mono hle43
 obtain ⟨wh, h, hoh⟩ := hp44; cases h
 refine J.keepO hoh hn39 (fun Ih hleh hrh => ?_)
 have hx := hx.mono hleh
 have hv5 := hv5.mono hleh
 replace hrh := hrh.row
 refine q12 34 69 true (q2 q0 ?_)
 refine J.opG 34 69 true _ rfl rfl rfl rfl (op_pure rfl rfl rfl rfl rfl (rRecs_ok (Ix.withK LS [105, 115, 98, 110] (Ix.keyOf [105, 115, 98, 110] [57, 55, 56, 48, 51, 48, 54, 52, 48, 54, 49, 53, 55])) [(1, 1)] _ _ (by rw [sw7]; decide) _ hrh hv5) ?_)
 refine J.eqv 73 rfl (show _ = .bool true from (congrArg Value.bool (decide_eq_true sw7))) ?_
 refine J.z q51 ?_
 refine J.z q0 ?_
 refine q12 40 75 true (q2 q0 ?_)
 refine J.opG 40 75 true _ rfl rfl rfl rfl (q44 rfl rfl rfl rfl rfl (Key_ok ib LS [121, 101, 97, 114] [49, 57, 57, 57] (by decide) _ hx) ?_)
 intro v46 I47 H48 hle49 hn45 hp50
 have hx := hx.mono hle49
 have hv5 := hv5.mono hle49
 obtain ⟨wi, h, hoi⟩ := hp50; cases h
 refine J.keepO hoi hn45 (fun Ii hlei hri => ?_)
 have hx := hx.mono hlei
 have hv5 := hv5.mono hlei
 replace hri := hri.row
 refine q12 40 75 true (q2 q0 ?_)
 refine J.opG 40 75 true _ rfl rfl rfl rfl (op_pure rfl rfl rfl rfl rfl (rRecs_ok (Ix.withK LS [121, 101, 97, 114] (Ix.keyOf [121, 101, 97, 114] [49, 57, 57, 57])) [(1, 1)] _ _ (by rw [sw8]; decide) _ hri hv5) ?_)
 refine J.eqv 79 rfl (show _ = .bool true from (congrArg Value.bool (decide_eq_true sw8))) ?_
 refine J.z q51 ?_
 refine J.z q0 ?_
 refine q12 46 81 true (q2 q0 ?_)
 refine J.opG 46 81 true _ rfl rfl rfl rfl (q44 rfl rfl rfl rfl rfl (Scan_ok ib LS [116, 105, 116, 108, 101] [115, 101, 97, 32, 98] (by decide) 5 _ hx) ?_)
 intro v52 I53 H54 hle55 hn51 hp56
 have hx := hx.mono hle55
 obtain ⟨wj, h, hoj⟩ := hp56; cases h
 refine J.keepO hoj hn51 (fun Ij hlej hrj => ?_)
 have hx := hx.mono hlej
 replace hrj := hrj.row
 refine J.opG 46 81 true _ rfl rfl rfl rfl (op_yld (yl_buildS (pl := #[(0, 1), (1, 1)]) rfl rfl tZ57 rfl tU57 (fun w => by simp []) (LBld.part rfl rfl rfl (LSpl.c LSpl.z) (LBld.part rfl rfl rfl (LSpl.s (LSpl.c LSpl.z)) LBld.none))) rfl rfl ?_)
 refine q12 46 81 true (q41 tU47 tS57 tZ57 ?_)
 intro b57 hb57
 refine J.persist hb57 (fun I59 hle58 hb57i => ?_)
 have hx := hx.mono hle58
 have hrj := hrj.mono hle58
 have hL85 : RowS lineC _ [([115, 101, 97, 32, 115, 116, 111, 114, 105, 101, 115], (1 : Int))] (.slice (some ⟨b57, 0, none⟩) 1 1) := RowS.of (l := [([115, 101, 97, 32, 115, 116, 111, 114, 105, 101, 115], (1 : Int))]) (sp := []) (Nat.le_refl _) hb57i
 refine J.opG 46 81 true _ rfl rfl rfl rfl (op_pure rfl rfl rfl rfl rfl (rLines_ok ((Ix.scan LS [116, 105, 116, 108, 101] [115, 101, 97, 32, 98] 5).map lineI) [([115, 101, 97, 32, 115, 116, 111, 114, 105, 101, 115], (1 : Int))] _ _ (by rw [sw9]; decide) _ hrj hL85) ?_)
 refine J.eqv 86 rfl (show _ = .bool true from (congrArg Value.bool (decide_eq_true sw9))) ?_
 refine J.z q51 ?_
 refine J.z q0 ?_
 refine q12 53 88 true (q2 q0 ?_)
 refine q12 53 88 true (q2 (q27 tA26 tS26 (Blk.at 1 rfl)) ?_)
 refine q12 53 88 true (op_pure rfl rfl rfl rfl rfl (Sort_ok' ib LS (1, 1) _ hx) ?_)
 refine q12 53 88 true (q2 q31 ?_)
 refine J.eqv 92 rfl (show _ = .bool true from (congrArg Value.bool (by rw [sw10]; rfl))) ?_
 refine J.z q51 ?_
 refine J.z q1 ?_
 refine J.ns (Cj.ret (Ej.bare ?_))
 refine q6 ?_
 exact ⟨rfl, rfl⟩
end Go.Proofs.YtjcdfnbomkoheaaGreatDoor
end
section
namespace Go.Proofs.YtjcdfnbomkoheaaGreatDoor
open Go.ChangeShapes Go.WideShapes Go.ChangeAt Go.RowKit Go.Sx Go.Lib Go.ChangeMaps Go.WideMaps
section
variable {H : Type} {enc : TypeId × Value → H} {W : World} {base : Nat}
theorem Arg.field {fs : Array Field} {cs : List Value} {ms : List Nat} (h : ∀ (i : Nat) f m', fs[i]? = some f → ms[i]? = some m' → Arg enc W f.type ((cs.drop f.offset).take (Tryz.prog.cellsOf f.type)) m') (i : Nat) {f : Field} {m t o k : Nat}
    (hf : fs[i]? = some f) (hm : ms[i]? = some m) (ht : f.type = t) (ho : f.offset = o) (hc : Tryz.prog.cellsOf t = k) : Arg enc W t ((cs.drop o).take k) m := by
  subst ht ho hc
  exact h i f m hf hm
theorem list4 {α : Type} {l : List α} (h : l.length = 4) : ∃ a b c d, l = [a, b, c, d] := by
  match l, h with
  | [a, b, c, d], _ => exact ⟨a, b, c, d, rfl⟩
theorem wf_in64 {n : Int} (h : (Lit.int .i64 n).wf = true) : In64 n := by
  have h1 : (decide (-9223372036854775808 ≤ n) && decide (n ≤ 9223372036854775807)) = true := h
  rw [Bool.and_eq_true, decide_eq_true_eq, decide_eq_true_eq] at h1
  exact h1
theorem Arg.elem {e k : Nat} {cs : List Value} {ms : List Nat} (h : ∀ (i m' : Nat), ms[i]? = some m' → Arg enc W e ((cs.drop (i * 1)).take 1) m') (he : Tryz.prog.underlying e = some (.int .i64)) (hml : ms.length = k) (i : Nat) (hi : i < k) : ∃ z : Int, cs[i]? = some (i64 z) ∧ In64 z := by
  have hm : ms[i]? = some (ms[i]'(by omega)) := List.getElem?_eq_getElem _
  obtain ⟨z, hz, hw, _⟩ := (h i _ hm).int he
  refine ⟨z, ?_, wf_in64 hw⟩
  have := congrArg (fun l => l[0]?) hz
  simpa [List.getElem?_drop] using this
theorem list_four {cs : List Value} (hl : cs.length = 4) (h : ∀ i, i < 4 → ∃ z : Int, cs[i]? = some (i64 z) ∧ In64 z) : ∃ q : Ix.Four, cs = fourC q ∧ FourOk q := by
  match cs, hl with
  | [a, b, c, d], _ =>
    obtain ⟨z0, e0, w0⟩ := h 0 (by decide)
    obtain ⟨z1, e1, w1⟩ := h 1 (by decide)
    obtain ⟨z2, e2, w2⟩ := h 2 (by decide)
    obtain ⟨z3, e3, w3⟩ := h 3 (by decide)
    cases e0; cases e1; cases e2; cases e3
    exact ⟨⟨z0, z1, z2, z3⟩, rfl, ⟨w0, w1, w2, w3⟩⟩
theorem Arg.four {cs : List Value} {m : Nat} (h : Arg enc W 143 cs m) : ∃ q : Ix.Four, cs = fourC q ∧ FourOk q := by
  obtain ⟨hl, ms, hml, _, hf⟩ := h.array Tryz.underlying143
  rw [show Tryz.prog.cellsOf 143 = 4 by kernel_rfl] at hl
  rw [show Tryz.prog.cellsOf 3 = 1 by kernel_rfl] at hf
  exact list_four hl fun i hi => Arg.elem hf Tryz.underlying3 hml i hi
theorem Arg.act {cs : List Value} {m : Nat} (h : Arg enc W 80 cs m) : ∃ x : Act, cs = actC x ∧ RowS fourC (HW W) x.a.fs x.v ∧ ∀ q ∈ x.a.fs, FourOk q := by
  obtain ⟨hl, ms, hml, hms, hf⟩ := h.struct Tryz.underlying80
  rw [show Tryz.prog.cellsOf 80 = 4 by kernel_rfl] at hl
  obtain ⟨a, b, c, d, rfl⟩ := list4 hl
  obtain ⟨m0, m1, m2, m3, rfl⟩ := list4 hml
  have cI : Tryz.prog.cellsOf 3 = 1 := by kernel_rfl
  obtain ⟨b0, h0⟩ := (Arg.field hf (o := 0) 0 rfl rfl rfl rfl (show Tryz.prog.cellsOf 4 = 1 by kernel_rfl)).bool Tryz.underlying4
  obtain ⟨z1, h1, _, _⟩ := (Arg.field hf (o := 1) 1 rfl rfl rfl rfl cI).int Tryz.underlying3
  obtain ⟨z2, h2, _, _⟩ := (Arg.field hf (o := 2) 2 rfl rfl rfl rfl cI).int Tryz.underlying3
  obtain ⟨l, v, h3, hr, _, _, hq⟩ := (Arg.field hf (o := 3) 3 rfl rfl rfl rfl (show Tryz.prog.cellsOf 78 = 1 by kernel_rfl)).row (f := fourC) (size := fun _ => 0) Tryz.underlying78 (show Tryz.prog.cellsOf 143 = 4 by kernel_rfl) (by decide) FourOk fun cs m' _ h => by
    obtain ⟨q, h1, h2⟩ := h.four
    exact ⟨q, h1, Nat.zero_le _, h2⟩
  simp only [List.drop_zero, List.drop_succ_cons, List.take_succ_cons, List.take_zero, List.cons.injEq, and_true] at h0 h1 h2 h3
  subst h0 h1 h2 h3
  exact ⟨⟨⟨b0, z1, z2, l⟩, d⟩, rfl, hr, hq⟩
theorem arg_acts {v : Value} {d : DataW H} {p : List MemPlace} (hval : Value.okWide Tryz.prog W .any base 51 v) (h : DataW.Trod enc Tryz.prog W 0 (fun _ => true) true 51 v d p) (hlt : ∀ x ∈ p, x.block < W.heap.size) :
    ∃ xs : List Act, ActsS (HW W) xs v ∧ ActsOk xs ∧ Again enc W 51 v d p := by
  have hag := again (by kernel_rfl) (of_decide_eq_true (by kernel_rfl)) h hlt
  obtain ⟨a, len, cap, rfl⟩ := okWide_slice Tryz.underlying51 hval
  obtain ⟨xs, v', h1, h2, _, _, h4⟩ := (Arg.of h).row (f := actC) (size := fun _ => 0) Tryz.underlying51 (show Tryz.prog.cellsOf 80 = 4 by kernel_rfl) (by decide) (fun x => RowS fourC (HW W) x.a.fs x.v ∧ ∀ q ∈ x.a.fs, FourOk q) fun cs m' _ h => by
    obtain ⟨x, h1, h2, h3⟩ := h.act
    exact ⟨x, h1, Nat.zero_le _, h2, h3⟩
  obtain rfl : Value.slice a len cap = v' := by simpa [Value.cells] using h1
  exact ⟨xs, ⟨h2, fun x hx => (h4 x hx).1⟩, fun x hx => (h4 x hx).2, hag⟩
end
end Go.Proofs.YtjcdfnbomkoheaaGreatDoor
end
