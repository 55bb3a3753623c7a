/-
  Own texts on the laws of the seat, joined: the logic, and contracts of functions. Conditions: none.
-/
import Derived.Test.YtekmeaoblpfnpaaGreatDoorNmP
import Derived.Test.YtekmeaoblpfnpaaGreatDoorPP13
set_option maxRecDepth 100000
set_option maxHeartbeats 40000000
set_option maxRecDepth 100000
set_option maxHeartbeats 40000000
namespace Go.Proofs.YtekmeaoblpfnpaaGreatDoor
open _root_.Go.Proofs.Tryz
open Go Go.Sx
theorem Ctr.setOut {f : FuncId} {args : List Value} {I : Heap} {S : Ix.Rec → Bool} (h : Ctr Tryz.prog f args I [] (fun e I' H' => ∃ w, e = .returned w ∧ (OwnS w S H' ∨ (SetV I' w S ∧ H' = [])))) : Ctr Tryz.prog f args I [] (fun e I' H' => ∃ w, e = .returned w ∧ SetV I' w S ∧ H' = []) := by
  refine ⟨h.1, fun w hw => (h.2 w hw).mono ?_⟩
  rintro e w' ⟨I', H', hst, u, rfl, ho | ⟨hv, rfl⟩⟩
  · obtain ⟨b, m, k, rfl, hm, rfl⟩ := ho
    have hb : w.heap.size ≤ b := (hst.new _ (.head _)).resolve_left (by simp)
    exact ⟨_, _, hst.persist hb, _, rfl, .inr ⟨b, m, k, rfl, hm, hput_at _ _ _⟩, rfl⟩
  exact ⟨_, _, hst, _, rfl, hv, rfl⟩
theorem Ctr.setOwn {f : FuncId} {args : List Value} {I : Heap} {S S' : Ix.Rec → Bool} (h : Ctr Tryz.prog f args I [] (fun e _ H' => ∃ w, e = .returned w ∧ OwnS w S H')) (he : ∀ t, S t = S' t) : Ctr Tryz.prog f args I [] (fun e I' H' => ∃ w, e = .returned w ∧ SetV I' w S' ∧ H' = []) :=
  Ctr.setOut (h.mono fun _ _ _ _ ⟨w, h1, b, m, k, h2, h3, h4⟩ => ⟨w, h1, .inl ⟨b, m, k, h2, h3.congr he, h4⟩⟩)
theorem rel_all (xv : Value) (L : Ix.Ix) (q : Cq.Qn) (p : Option Addr) (c kb : Nat) (hq : q.t.length ≤ 10000000) (htk : Ix.TOK L) (hr : Cq.relations.contains q.r = true) (I : Heap) (hx : IxV I xv L) (hT : STab I) (hkb : I kb = some (cel 121 [.func (.func 151) #[] #[]])) :
    ∃ F caps, (mget (relM kb) q.r).getD .nilFunc = .func (.func F) #[] (List.toArray caps) ∧ Ctr Tryz.prog F (xv :: .agg (qCells q p c).toArray :: caps) I [] (fun e I' H' => ∃ w, e = .returned w ∧ SetV I' w (fun t => Ix.satT L q.i q.r q.t t) ∧ H' = []) := by
  have hm : q.r ∈ Cq.relations := List.contains_iff_mem.1 hr
  simp only [Cq.relations, List.mem_cons, List.not_mem_nil, or_false] at hm
  rcases hm with h | h | h | h | h | h <;> rw [h]
  · exact ⟨_, [ptr kb 0], rfl, Ctr.setOwn (rel2_ok xv L q p c hq I hx kb hkb) fun t => rfl⟩
  · exact ⟨_, [], rfl, Ctr.setOwn (rel1_ok xv L q p c hq I hx) fun t => rfl⟩
  · exact ⟨_, [], rfl, Ctr.setOwn (rel6_ok xv L q p c hq I hx hT htk) fun t => rfl⟩
  · exact ⟨_, [], rfl, Ctr.setOwn (rel5_ok xv L q p c hq I hx hT htk) fun t => rfl⟩
  · exact ⟨_, [], rfl, Ctr.setOwn (rel3_ok xv L q p c hq I hx) fun t => rfl⟩
  exact ⟨_, [], rfl, rel4_ok xv L q p c hq I hx⟩
def SatSpec (xv : Value) (L : Ix.Ix) (q : Cq.Qn) : Prop := ∀ (p : Option Addr) (c : Nat) (I : Heap), PS I q.ps p → IxV I xv L → STab I → q.wide ≤ 10000000 → Cq.form q = true → Ctr Tryz.prog 54 [xv, .agg (qCells q p c).toArray] I [] (fun e I' H' => ∃ w, e = .returned w ∧ SetV I' w (Ix.sat L q) ∧ H' = [])
theorem satisfy_step (xv : Value) (L : Ix.Ix) (htk : Ix.TOK L) (q : Cq.Qn) (ih : ∀ q', Cq.Qn.size q' < q.size → SatSpec xv L q') : SatSpec xv L q := by
 intro p c I hps hx hT hwd hform
 refine Ctr.setOut ?_
 refine Ctr.ob func54 ?_
 intro w0 hw0
 refine Cj.sr (J.op rfl (q15 ?_))
 intro b1 hb1
 refine J.z q1 ?_
 refine J.nsss (Cj.region (J.z (q2 (off' := 0) tU32 tS3) ?_))
 refine J.z (q3 tA3 (Blk.at 0 rfl)) ?_
 refine J.z q19 ?_
 refine J.cd (fun hc2 => ?_) (fun hc2 => ?_)
 ·have hc2p := ebq hc2
  have hk : q.k = 1 := by omega
  have hrel : Cq.relations.contains q.r = true := by
    rw [Cq.form_term hk, Bool.and_eq_true, Bool.and_eq_true] at hform
    exact hform.1.2
  have htl : q.t.length ≤ 10000000 := by unfold Cq.Qn.wide at hwd; omega
  refine Cj.seq (Cj.drawSel [0] [] 8 (by kernel_rfl) ?_)
  refine JA.fix ⟨(HSub.c 0 rfl HSub.n), CSub.n, (Le.refl _)⟩ (fun fx3 => ?_)
  refine JA.tk 1 rfl fx3 (q2 (off' := 2) tU32 tS9) ?_
  refine JA.tk 2 rfl fx3 (q3 tA9 (Blk.atC 0 rfl)) ?_
  refine JA.tk 4 rfl fx3 q0 ?_
  refine JA.tk 5 rfl fx3 (q10 tA32 tS32 (Blk.atC 0 rfl)) ?_
  refine q4 0 rfl (op_call (H1 := []) rfl rfl rfl rfl rfl (relations_ok _) ?_ (fun _ _ _ _ ⟨_, _, h, _⟩ => by cases h) (fun _ _ ⟨_, _, h, _⟩ => by cases h))
  intro v4 I5 H6 hle7 hp8
  have hx := hx.mono hle7
  have hT := hT.mono hle7
  obtain ⟨kb1, mb1, h, hkb1, hmb1, rfl⟩ := hp8; cases h
  obtain ⟨F, caps, hF, hcl⟩ := rel_all xv L q p c kb1 htl htk hrel _ hx hT hkb1
  refine ⟨⟨(Le.trans (Le.refl _) hle7), (HSub.c 0 rfl HSub.n), CSub.n⟩, ?_⟩
  refine q4 3 rfl (q7 (yl_lookup1 (kv := (fun a : List UInt8 => str a)) (l := (relM kb1)) (a := q.r) rfl rfl rfl rfl tU183 (KeyK.text tU9) zeroValue121 (Blk.imm hmb1)) ?_)
  refine ⟨⟨(Le.trans (Le.refl _) hle7), (HSub.c 0 rfl HSub.n), CSub.n⟩, ?_⟩
  refine JA.eqv 15 rfl (show _ = .func (.func F) #[] caps.toArray from hF) ?_
  refine q4 6 rfl (op_call (H1 := []) rfl rfl rfl rfl rfl (hcl) ?_ (fun _ _ _ _ ⟨_, h, _⟩ => by cases h) (fun _ _ ⟨_, h, _⟩ => by cases h))
  intro v9 I10 H11 hle12 hp13
  obtain ⟨wt, h, hset, rfl⟩ := hp13; cases h
  refine ⟨⟨(Le.trans (Le.trans (Le.refl _) hle7) hle12), (HSub.c 0 rfl HSub.n), CSub.n⟩, ?_⟩
  refine JA.fix ⟨(HSub.c 0 rfl HSub.n), CSub.n, (Le.trans (Le.trans (Le.refl _) hle7) hle12)⟩ (fun fx14 => ?_)
  refine JA.tk 7 rfl fx14 q1 ?_
  refine q8 ?_
  refine Ej.seq (Cj.rs (Ej.bare ?_))
  refine q5 ?_
  exact ⟨_, rfl, .inr ⟨hset.congr fun t => (Ix.sat_term hk).symm, rfl⟩⟩
 have hc2p := nbf hc2
 have hk : q.k ≠ 1 := by omega
 obtain ⟨_, hk2, hk4, qa, qb, htw, hfa, hfb⟩ := (Cq.form_tree hform).resolve_left hk
 obtain ⟨bl, off, cs', T, fr, pa, ca, pb, cb, rfl, hbl, hca, hcb, hkb, hpa, hpb⟩ := hps.two_at htw
 have hsz2 := htw.size
 have hwd2 := htw.wide
 have hln := htw.len
 have hsat : ∀ t, Ix.sat L q t = Ix.comb q.k (Ix.sat L qa t) (Ix.sat L qb t) := fun t => Ix.sat_two hk htw
 refine Cj.ks (Cj.sr (J.z q0 ?_))
 refine J.z (q2 (off' := 4) tU32 tS30) ?_
 refine J.z (q3 tA30 (Blk.at 0 rfl)) ?_
 refine J.z (q16 (off' := off) tU30 tS32) ?_
 refine J.z (yl_loadAgg rfl rfl tA32 tS32 (Blk.imm hbl) hca rfl) ?_
 refine J.op rfl (op_call (H1 := []) rfl rfl rfl rfl rfl (ih qa hsz2.1 pa ca _ hpa hx hT (by omega) hfa) ?_ (fun _ _ _ _ ⟨_, h, _⟩ => by cases h) (fun _ _ ⟨_, h, _⟩ => by cases h))
 intro v15 I16 H17 hle18 hp19
 have hx := hx.mono hle18
 have hT := hT.mono hle18
 have hbl := hle18 _ _ hbl
 have hpb := hpb.mono hle18
 obtain ⟨wa, h, hsa, rfl⟩ := hp19; cases h
 rcases id hsa with ⟨rfl, hSa⟩ | ⟨ab, am, ak, rfl, hma, hab⟩
 ·have hz : ∀ t, Ix.sat L qa t = false := hSa
  refine J.z q1 ?_
  refine J.nsss (Cj.region (J.z q0 ?_))
  refine J.z (yl_lenMapNil rfl rfl tU120) ?_
  refine J.z q19 ?_
  refine J.z q0 ?_
  refine J.opG 3 28 true _ rfl rfl rfl rfl (q7 (q2 (off' := 0) tU32 tS3) ?_)
  refine J.opG 3 28 true _ rfl rfl rfl rfl (q7 (q3 tA3 (Blk.at 0 rfl)) ?_)
  refine J.opG 3 28 true _ rfl rfl rfl rfl (q7 (yl_neq rfl rfl rfl) ?_)
  refine J.z (yl_pick1 rfl rfl rfl rfl) ?_
  refine J.cd (fun hc20 => ?_) (fun hc20 => ?_)
  ·have hc20p := bne_iff_ne.1 hc20
   refine Cj.sr (J.z q1 ?_)
   refine J.ns (Cj.rs ?_)
   have hk3 : q.k ≠ 3 := bne_iff_ne.1 hc20
   refine Ej.bare ?_
   refine q5 ?_
   exact ⟨_, rfl, .inr ⟨.inl ⟨rfl, fun t => by rw [hsat t, hz t]; unfold Ix.comb; rw [if_neg hk3]; split <;> rfl⟩, rfl⟩⟩
  have hc20p := bne_f hc20
  refine Cj.ks (Cj.sr (J.z q0 ?_))
  refine J.z (q2 (off' := 4) tU32 tS30) ?_
  refine J.z (q3 tA30 (Blk.at 0 rfl)) ?_
  refine J.z (q16 (off' := off + 5) tU30 tS32) ?_
  refine J.z (yl_loadAgg rfl rfl tA32 tS32 (Blk.imm hbl) hcb rfl) ?_
  refine J.op rfl (op_call (H1 := []) rfl rfl rfl rfl rfl (ih qb hsz2.2 pb cb _ hpb hx hT (by omega) hfb) ?_ (fun _ _ _ _ ⟨_, h, _⟩ => by cases h) (fun _ _ ⟨_, h, _⟩ => by cases h))
  intro v21 I22 H23 hle24 hp25
  have hsa := hsa.mono hle24
  obtain ⟨wb, h, hsb, rfl⟩ := hp25; cases h
  obtain ⟨bo, rfl⟩ := hsb.shape
  refine J.op rfl (q21 zeroValue120 ?_)
  intro b26 hb26
  refine J.op rfl (q9 0 sizeOf120 (LSpl.c LSpl.z) LSet.z ?_)
  refine J.nsss (Cj.region (J.z (q2 (off' := 0) tU32 tS3) ?_))
  refine J.z (q3 tA3 (Blk.at 1 rfl)) ?_
  refine J.ns (Cj.block (Cj.sr (J.z q19 ?_)))
  refine J.z q1 ?_
  refine J.cd (fun hc27 => ?_) (fun hc27 => ?_)
  ·have hc27p := ebq hc27
   have hk9 : q.k = 2 := ebq hc27
   refine Cj.seq (Cj.persist hb26 (fun I29 hle28 hb26i => ?_))
   have hsa := hsa.mono hle28
   have hsb := hsb.mono hle28
   refine Cj.region (J.z q0 ?_)
   refine J.z (yl_makeFunc rfl rfl rfl) ?_
   refine J.op rfl (op_call (H1 := []) rfl rfl rfl rfl rfl (only_ok _ (Ix.sat L qa) (Ix.sat L qb) _ [ptr b26 0] _ hsa (fun t _ => and1_ok b26 _ (Ix.sat L qb) t _ hb26i hsb)) ?_ (fun _ _ _ _ ⟨_, h, _⟩ => by cases h) (fun _ _ ⟨_, h, _⟩ => by cases h))
   intro v30 I31 H32 hle33 hp34
   obtain ⟨wd, h, od, md, kd, rfl, hmd, rfl⟩ := hp34; cases h
   refine J.z q1 ?_
   refine J.ns (Cj.ret (Ej.blkRet (Ej.seqRet (Ej.keep (Keeps.k (Keeps.d Keeps.n)) ?_))))
   refine q5 ?_
   exact ⟨_, rfl, .inl ⟨od, md, kd, rfl, hmd.congr fun t => by rw [hsat t, hk9]; rfl, rfl⟩⟩
  have hc27p := nbf hc27
  have hkn2 : q.k ≠ 2 := nbf hc27
  refine Cj.sr (J.z q19 ?_)
  refine J.z q1 ?_
  refine J.cd (fun hc35 => ?_) (fun hc35 => ?_)
  ·have hc35p := ebq hc35
   have hk9 : q.k = 4 := ebq hc35
   refine Cj.seq (Cj.persist hb26 (fun I37 hle36 hb26i => ?_))
   have hsa := hsa.mono hle36
   have hsb := hsb.mono hle36
   refine Cj.region (J.z q0 ?_)
   refine J.z (yl_makeFunc rfl rfl rfl) ?_
   refine J.op rfl (op_call (H1 := []) rfl rfl rfl rfl rfl (only_ok _ (Ix.sat L qa) (fun t => !Ix.sat L qb t) _ [ptr b26 0] _ hsa (fun t _ => not1_ok b26 _ (Ix.sat L qb) t _ hb26i hsb)) ?_ (fun _ _ _ _ ⟨_, h, _⟩ => by cases h) (fun _ _ ⟨_, h, _⟩ => by cases h))
   intro v38 I39 H40 hle41 hp42
   obtain ⟨wd, h, od, md, kd, rfl, hmd, rfl⟩ := hp42; cases h
   refine J.z q1 ?_
   refine J.ns (Cj.ret (Ej.blkRet (Ej.seqRet (Ej.keep (Keeps.k (Keeps.d Keeps.n)) ?_))))
   refine q5 ?_
   exact ⟨_, rfl, .inl ⟨od, md, kd, rfl, hmd.congr fun t => by rw [hsat t, hk9]; rfl, rfl⟩⟩
  have hc35p := nbf hc35
  have hkn4 : q.k ≠ 4 := nbf hc35
  refine Cj.kb (Cj.seq (Cj.persist hb26 (fun I44 hle43 hb26i => ?_)))
  have hsa := hsa.mono hle43
  have hsb := hsb.mono hle43
  refine Cj.region (J.z q0 ?_)
  refine J.op rfl (op_call (H1 := []) rfl rfl rfl rfl rfl (only_ok _ (Ix.sat L qa) (fun _ => true) _ [] _ hsa (fun t _ => yes_ok t _)) ?_ (fun _ _ _ _ ⟨_, h, _⟩ => by cases h) (fun _ _ ⟨_, h, _⟩ => by cases h))
  intro v45 I46 H47 hle48 hp49
  have hsb := hsb.mono hle48
  have hb26i := hle48 _ _ hb26i
  obtain ⟨wd, h, od, md, kd, rfl, hmd, rfl⟩ := hp49; cases h
  refine J.z q1 ?_
  refine J.nsss (Cj.region (J.z (q3 isAgg120 (Blk.imm hb26i)) ?_))
  rcases id hsb with ⟨hbo, hSb⟩ | ⟨bb, bm, bk, hbo, hmbb, hbb⟩
  ·cases hbo
   refine J.op rfl (op_rangeNil rfl rfl rfl rfl tU120 ?_)
   intro b50 hb50
   refine J.ns (Cj.block (Cj.rounds 1 ?_))
   refine Rj.succ ?_
   refine Cj.sr (J.op rfl (op_nextNil 0 rfl rfl rfl rfl rfl ?_))
   refine J.z q11 ?_
   refine J.nss (Cj.cond rfl (fun hc51 => Bool.noConfusion (Eq.trans (Eq.symm rfl) hc51)) (fun hc51 => ?_))
   refine Cj.exit (Ej.seqExit (Ej.seqExit (Ej.blkExit (Ej.seq (Cj.sr (J.z q0 ?_))))))
   refine J.z q1 ?_
   refine J.ns (Cj.ret (Ej.keep (Keeps.d (Keeps.k (Keeps.d Keeps.n))) ?_))
   have hk9 : q.k = 3 := by omega
   refine q5 ?_
   exact ⟨_, rfl, .inl ⟨od, md, kd, rfl, hmd.congr fun t => by rw [hsat t, hk9, Bool.and_true]; show _ = (_ || _); rw [hSb t, Bool.or_false], rfl⟩⟩
  cases hbo
  refine J.op rfl (op_rangeMap (kv := kvR) (l := bm) rfl rfl rfl rfl tU120 (Blk.imm hbb) ?_)
  intro b52 hb52
  refine J.ns (Cj.block (Cj.keep (Keeps.k (Keeps.k (Keeps.d Keeps.n))) ?_))
  refine Cj.loop (ι := TC) (fun y => (y.vis ++ y.rest).Perm bm ∧ SetM y.l y.c (withS y.vis (fun t => Ix.sat L qa t && true))) (fun y => y.rest.length) (fun y => [(7, .map (some od)), (54, ptr b52 0)]) (fun y => _) (fun y => [(b52, mit bb bk y.vis bk), (od, mobj kvR y.l y.c)]) ⟨[], bm, md, kd⟩ ⟨.refl _, hmd.congr fun t => by unfold withS; simp⟩ ⟨rfl, rfl, trivial⟩ rfl rfl ?_
  rintro ⟨vis, rest, l, cc⟩ ⟨hp, hM⟩
  dsimp only at hp hM ⊢
  refine Cj.sr (J.op rfl (op_nextMap (kv := kvR) (l := bm) 0 rfl rfl rfl rfl rfl (Blk.imm hbb) hmbb.1.2.2 (Nat.le_refl _) hmbb.1.2.1 hp ?_ ?_))
  ·rintro x rest2 H9 hrx hpx ⟨-, hset⟩; simp only [List.set_cons_zero] at hset; subst hset
   have hxm : x ∈ bm := hpx.mem_iff.1 (List.mem_append_left _ (List.mem_append_right _ (.head _)))
   refine J.z q11 ?_
   refine J.nss (Cj.cond rfl (fun hc53 => ?_) (fun hc53 => Bool.noConfusion (Eq.trans (Eq.symm rfl) hc53)))
   refine Cj.ks (Cj.block (Cj.sr (J.z (yl_entry (kv := kvR) (l := bm) rfl rfl (Blk.at 0 rfl) (Blk.imm hbb) hxm hmbb.1.2.1) ?_)))
   refine J.z q11 ?_
   refine J.op rfl (q21 tZ54 ?_)
   intro b54 hb54
   refine J.op rfl (q9 0 tS54 (LSpl.c (LSpl.c LSpl.z)) LSet.z ?_)
   refine J.nsr (J.z q0 ?_)
   refine J.z (q10 tA54 tS54 (Blk.at 0 rfl)) ?_
   refine J.op rfl (op_insert (kv := kvR) (a := x.1) 2 (.inr rfl) rfl rfl rfl rfl rfl tU120 keyR rfl (LSet.s (LSet.s LSet.z)) ?_)
   refine J.nil (Ej.blkNormal (Ej.keep (Keeps.d (Keeps.k (Keeps.k Keeps.n))) ?_))
   refine Ej.round ⟨vis ++ [x], rest2, _, _⟩ ⟨hpx, hM.add x.1 withS_next⟩ (by have h := hrx.length_eq; simp only [List.length_cons] at h; dsimp only; omega) ⟨rfl, rfl, trivial⟩ rfl rfl
  intro hend
  have hpv : vis.Perm bm := by rw [hend, List.append_nil] at hp; exact hp
  refine J.z q11 ?_
  refine J.nss (Cj.cond rfl (fun hc55 => Bool.noConfusion (Eq.trans (Eq.symm rfl) hc55)) (fun hc55 => ?_))
  refine Cj.xl (Cj.sr (J.z q0 ?_))
  refine J.z q1 ?_
  refine J.ns (Cj.ret (Ej.keep (Keeps.d (Keeps.k Keeps.n)) ?_))
  have hk9 : q.k = 3 := by omega
  refine q5 ?_
  exact ⟨_, rfl, .inl ⟨od, l, cc, rfl, hM.congr fun t => by rw [hsat t, hk9, withS_all hmbb hpv, Bool.and_true]; rfl, rfl⟩⟩

 refine J.z q1 ?_
 refine J.nsss (Cj.region (J.z q0 ?_))
 refine J.z (yl_lenMap (kv := kvR) (l := am) rfl rfl tU120 (Blk.imm hab)) ?_
 refine J.z q19 ?_
 refine J.z q0 ?_
 refine J.split 28 rfl (fun hg56 => ?_) (fun hg56 => ?_)
 rotate_left
 ·have hg56p := nbf hg56
  refine q12 3 28 29 true hg56 ?_
  refine q12 3 28 30 true hg56 ?_
  refine q12 3 28 31 true hg56 ?_
  refine J.z (q23 hg56) ?_
  refine J.c0 (fun hc93 => ?_)
  refine Cj.ks (Cj.sr (J.z q0 ?_))
  refine J.z (q2 (off' := 4) tU32 tS30) ?_
  refine J.z (q3 tA30 (Blk.at 0 rfl)) ?_
  refine J.z (q16 (off' := off + 5) tU30 tS32) ?_
  refine J.z (yl_loadAgg rfl rfl tA32 tS32 (Blk.imm hbl) hcb rfl) ?_
  refine J.op rfl (op_call (H1 := []) rfl rfl rfl rfl rfl (ih qb hsz2.2 pb cb _ hpb hx hT (by omega) hfb) ?_ (fun _ _ _ _ ⟨_, h, _⟩ => by cases h) (fun _ _ ⟨_, h, _⟩ => by cases h))
  intro v94 I95 H96 hle97 hp98
  have hsa := hsa.mono hle97
  obtain ⟨wb, h, hsb, rfl⟩ := hp98; cases h
  obtain ⟨bo, rfl⟩ := hsb.shape
  refine J.op rfl (q21 zeroValue120 ?_)
  intro b99 hb99
  refine J.op rfl (q9 0 sizeOf120 (LSpl.c LSpl.z) LSet.z ?_)
  refine J.nsss (Cj.region (J.z (q2 (off' := 0) tU32 tS3) ?_))
  refine J.z (q3 tA3 (Blk.at 1 rfl)) ?_
  refine J.ns (Cj.block (Cj.sr (J.z q19 ?_)))
  refine J.z q1 ?_
  refine J.cd (fun hc100 => ?_) (fun hc100 => ?_)
  ·have hc100p := ebq hc100
   have hk9 : q.k = 2 := ebq hc100
   refine Cj.seq (Cj.persist hb99 (fun I102 hle101 hb99i => ?_))
   have hsa := hsa.mono hle101
   have hsb := hsb.mono hle101
   refine Cj.region (J.z q0 ?_)
   refine J.z (yl_makeFunc rfl rfl rfl) ?_
   refine J.op rfl (op_call (H1 := []) rfl rfl rfl rfl rfl (only_ok _ (Ix.sat L qa) (Ix.sat L qb) _ [ptr b99 0] _ hsa (fun t _ => and1_ok b99 _ (Ix.sat L qb) t _ hb99i hsb)) ?_ (fun _ _ _ _ ⟨_, h, _⟩ => by cases h) (fun _ _ ⟨_, h, _⟩ => by cases h))
   intro v103 I104 H105 hle106 hp107
   obtain ⟨wd, h, od, md, kd, rfl, hmd, rfl⟩ := hp107; cases h
   refine J.z q1 ?_
   refine J.ns (Cj.ret (Ej.blkRet (Ej.seqRet (Ej.keep (Keeps.k (Keeps.d Keeps.n)) ?_))))
   refine q5 ?_
   exact ⟨_, rfl, .inl ⟨od, md, kd, rfl, hmd.congr fun t => by rw [hsat t, hk9]; rfl, rfl⟩⟩
  have hc100p := nbf hc100
  have hkn2 : q.k ≠ 2 := nbf hc100
  refine Cj.sr (J.z q19 ?_)
  refine J.z q1 ?_
  refine J.cd (fun hc108 => ?_) (fun hc108 => ?_)
  ·have hc108p := ebq hc108
   have hk9 : q.k = 4 := ebq hc108
   refine Cj.seq (Cj.persist hb99 (fun I110 hle109 hb99i => ?_))
   have hsa := hsa.mono hle109
   have hsb := hsb.mono hle109
   refine Cj.region (J.z q0 ?_)
   refine J.z (yl_makeFunc rfl rfl rfl) ?_
   refine J.op rfl (op_call (H1 := []) rfl rfl rfl rfl rfl (only_ok _ (Ix.sat L qa) (fun t => !Ix.sat L qb t) _ [ptr b99 0] _ hsa (fun t _ => not1_ok b99 _ (Ix.sat L qb) t _ hb99i hsb)) ?_ (fun _ _ _ _ ⟨_, h, _⟩ => by cases h) (fun _ _ ⟨_, h, _⟩ => by cases h))
   intro v111 I112 H113 hle114 hp115
   obtain ⟨wd, h, od, md, kd, rfl, hmd, rfl⟩ := hp115; cases h
   refine J.z q1 ?_
   refine J.ns (Cj.ret (Ej.blkRet (Ej.seqRet (Ej.keep (Keeps.k (Keeps.d Keeps.n)) ?_))))
   refine q5 ?_
   exact ⟨_, rfl, .inl ⟨od, md, kd, rfl, hmd.congr fun t => by rw [hsat t, hk9]; rfl, rfl⟩⟩
  have hc108p := nbf hc108
  have hkn4 : q.k ≠ 4 := nbf hc108
  refine Cj.kb (Cj.seq (Cj.persist hb99 (fun I117 hle116 hb99i => ?_)))
  have hsa := hsa.mono hle116
  have hsb := hsb.mono hle116
  refine Cj.region (J.z q0 ?_)
  refine J.op rfl (op_call (H1 := []) rfl rfl rfl rfl rfl (only_ok _ (Ix.sat L qa) (fun _ => true) _ [] _ hsa (fun t _ => yes_ok t _)) ?_ (fun _ _ _ _ ⟨_, h, _⟩ => by cases h) (fun _ _ ⟨_, h, _⟩ => by cases h))
  intro v118 I119 H120 hle121 hp122
  have hsb := hsb.mono hle121
  have hb99i := hle121 _ _ hb99i
  obtain ⟨wd, h, od, md, kd, rfl, hmd, rfl⟩ := hp122; cases h
  refine J.z q1 ?_
  refine J.nsss (Cj.region (J.z (q3 isAgg120 (Blk.imm hb99i)) ?_))
  rcases id hsb with ⟨hbo, hSb⟩ | ⟨bb, bm, bk, hbo, hmbb, hbb⟩
  ·cases hbo
   refine J.op rfl (op_rangeNil rfl rfl rfl rfl tU120 ?_)
   intro b123 hb123
   refine J.ns (Cj.block (Cj.rounds 1 ?_))
   refine Rj.succ ?_
   refine Cj.sr (J.op rfl (op_nextNil 0 rfl rfl rfl rfl rfl ?_))
   refine J.z q11 ?_
   refine J.nss (Cj.cond rfl (fun hc124 => Bool.noConfusion (Eq.trans (Eq.symm rfl) hc124)) (fun hc124 => ?_))
   refine Cj.exit (Ej.seqExit (Ej.seqExit (Ej.blkExit (Ej.seq (Cj.sr (J.z q0 ?_))))))
   refine J.z q1 ?_
   refine J.ns (Cj.ret (Ej.keep (Keeps.d (Keeps.k (Keeps.d Keeps.n))) ?_))
   have hk9 : q.k = 3 := by omega
   refine q5 ?_
   exact ⟨_, rfl, .inl ⟨od, md, kd, rfl, hmd.congr fun t => by rw [hsat t, hk9, Bool.and_true]; show _ = (_ || _); rw [hSb t, Bool.or_false], rfl⟩⟩
  cases hbo
  refine J.op rfl (op_rangeMap (kv := kvR) (l := bm) rfl rfl rfl rfl tU120 (Blk.imm hbb) ?_)
  intro b125 hb125
  refine J.ns (Cj.block (Cj.keep (Keeps.k (Keeps.k (Keeps.d Keeps.n))) ?_))
  refine Cj.loop (ι := TC) (fun y => (y.vis ++ y.rest).Perm bm ∧ SetM y.l y.c (withS y.vis (fun t => Ix.sat L qa t && true))) (fun y => y.rest.length) (fun y => [(7, .map (some od)), (54, ptr b125 0)]) (fun y => _) (fun y => [(b125, mit bb bk y.vis bk), (od, mobj kvR y.l y.c)]) ⟨[], bm, md, kd⟩ ⟨.refl _, hmd.congr fun t => by unfold withS; simp⟩ ⟨rfl, rfl, trivial⟩ rfl rfl ?_
  rintro ⟨vis, rest, l, cc⟩ ⟨hp, hM⟩
  dsimp only at hp hM ⊢
  refine Cj.sr (J.op rfl (op_nextMap (kv := kvR) (l := bm) 0 rfl rfl rfl rfl rfl (Blk.imm hbb) hmbb.1.2.2 (Nat.le_refl _) hmbb.1.2.1 hp ?_ ?_))
  ·rintro x rest2 H9 hrx hpx ⟨-, hset⟩; simp only [List.set_cons_zero] at hset; subst hset
   have hxm : x ∈ bm := hpx.mem_iff.1 (List.mem_append_left _ (List.mem_append_right _ (.head _)))
   refine J.z q11 ?_
   refine J.nss (Cj.cond rfl (fun hc126 => ?_) (fun hc126 => Bool.noConfusion (Eq.trans (Eq.symm rfl) hc126)))
   refine Cj.ks (Cj.block (Cj.sr (J.z (yl_entry (kv := kvR) (l := bm) rfl rfl (Blk.at 0 rfl) (Blk.imm hbb) hxm hmbb.1.2.1) ?_)))
   refine J.z q11 ?_
   refine J.op rfl (q21 tZ54 ?_)
   intro b127 hb127
   refine J.op rfl (q9 0 tS54 (LSpl.c (LSpl.c LSpl.z)) LSet.z ?_)
   refine J.nsr (J.z q0 ?_)
   refine J.z (q10 tA54 tS54 (Blk.at 0 rfl)) ?_
   refine J.op rfl (op_insert (kv := kvR) (a := x.1) 2 (.inr rfl) rfl rfl rfl rfl rfl tU120 keyR rfl (LSet.s (LSet.s LSet.z)) ?_)
   refine J.nil (Ej.blkNormal (Ej.keep (Keeps.d (Keeps.k (Keeps.k Keeps.n))) ?_))
   refine Ej.round ⟨vis ++ [x], rest2, _, _⟩ ⟨hpx, hM.add x.1 withS_next⟩ (by have h := hrx.length_eq; simp only [List.length_cons] at h; dsimp only; omega) ⟨rfl, rfl, trivial⟩ rfl rfl
  intro hend
  have hpv : vis.Perm bm := by rw [hend, List.append_nil] at hp; exact hp
  refine J.z q11 ?_
  refine J.nss (Cj.cond rfl (fun hc128 => Bool.noConfusion (Eq.trans (Eq.symm rfl) hc128)) (fun hc128 => ?_))
  refine Cj.xl (Cj.sr (J.z q0 ?_))
  refine J.z q1 ?_
  refine J.ns (Cj.ret (Ej.keep (Keeps.d (Keeps.k Keeps.n)) ?_))
  have hk9 : q.k = 3 := by omega
  refine q5 ?_
  exact ⟨_, rfl, .inl ⟨od, l, cc, rfl, hM.congr fun t => by rw [hsat t, hk9, withS_all hmbb hpv, Bool.and_true]; rfl, rfl⟩⟩
 have hg56p := ebq hg56
 refine q13 3 28 true hg56 (q7 (q2 (off' := 0) tU32 tS3) ?_)
 refine q13 3 28 true hg56 (q7 (q3 tA3 (Blk.at 0 rfl)) ?_)
 refine q13 3 28 true hg56 (q7 (yl_neq rfl rfl rfl) ?_)
 refine J.z (q22 hg56) ?_
 refine J.cd (fun hc57 => ?_) (fun hc57 => ?_)
 ·have hc57p := bne_iff_ne.1 hc57
  refine Cj.sr (J.z q1 ?_)
  refine J.ns (Cj.rs ?_)
  have hz : ∀ t, Ix.sat L qa t = false := hma.empty (by have h := ebq hg56; omega)
  have hk3 : q.k ≠ 3 := bne_iff_ne.1 hc57
  refine Ej.bare ?_
  refine q5 ?_
  exact ⟨_, rfl, .inr ⟨.inl ⟨rfl, fun t => by rw [hsat t, hz t]; unfold Ix.comb; rw [if_neg hk3]; split <;> rfl⟩, rfl⟩⟩
 have hc57p := bne_f hc57
 refine Cj.ks (Cj.sr (J.z q0 ?_))
 refine J.z (q2 (off' := 4) tU32 tS30) ?_
 refine J.z (q3 tA30 (Blk.at 0 rfl)) ?_
 refine J.z (q16 (off' := off + 5) tU30 tS32) ?_
 refine J.z (yl_loadAgg rfl rfl tA32 tS32 (Blk.imm hbl) hcb rfl) ?_
 refine J.op rfl (op_call (H1 := []) rfl rfl rfl rfl rfl (ih qb hsz2.2 pb cb _ hpb hx hT (by omega) hfb) ?_ (fun _ _ _ _ ⟨_, h, _⟩ => by cases h) (fun _ _ ⟨_, h, _⟩ => by cases h))
 intro v58 I59 H60 hle61 hp62
 have hsa := hsa.mono hle61
 obtain ⟨wb, h, hsb, rfl⟩ := hp62; cases h
 obtain ⟨bo, rfl⟩ := hsb.shape
 refine J.op rfl (q21 zeroValue120 ?_)
 intro b63 hb63
 refine J.op rfl (q9 0 sizeOf120 (LSpl.c LSpl.z) LSet.z ?_)
 refine J.nsss (Cj.region (J.z (q2 (off' := 0) tU32 tS3) ?_))
 refine J.z (q3 tA3 (Blk.at 1 rfl)) ?_
 refine J.ns (Cj.block (Cj.sr (J.z q19 ?_)))
 refine J.z q1 ?_
 refine J.cd (fun hc64 => ?_) (fun hc64 => ?_)
 ·have hc64p := ebq hc64
  have hk9 : q.k = 2 := ebq hc64
  refine Cj.seq (Cj.persist hb63 (fun I66 hle65 hb63i => ?_))
  have hsa := hsa.mono hle65
  have hsb := hsb.mono hle65
  refine Cj.region (J.z q0 ?_)
  refine J.z (yl_makeFunc rfl rfl rfl) ?_
  refine J.op rfl (op_call (H1 := []) rfl rfl rfl rfl rfl (only_ok _ (Ix.sat L qa) (Ix.sat L qb) _ [ptr b63 0] _ hsa (fun t _ => and1_ok b63 _ (Ix.sat L qb) t _ hb63i hsb)) ?_ (fun _ _ _ _ ⟨_, h, _⟩ => by cases h) (fun _ _ ⟨_, h, _⟩ => by cases h))
  intro v67 I68 H69 hle70 hp71
  obtain ⟨wd, h, od, md, kd, rfl, hmd, rfl⟩ := hp71; cases h
  refine J.z q1 ?_
  refine J.ns (Cj.ret (Ej.blkRet (Ej.seqRet (Ej.keep (Keeps.k (Keeps.d Keeps.n)) ?_))))
  refine q5 ?_
  exact ⟨_, rfl, .inl ⟨od, md, kd, rfl, hmd.congr fun t => by rw [hsat t, hk9]; rfl, rfl⟩⟩
 have hc64p := nbf hc64
 have hkn2 : q.k ≠ 2 := nbf hc64
 refine Cj.sr (J.z q19 ?_)
 refine J.z q1 ?_
 refine J.cd (fun hc72 => ?_) (fun hc72 => ?_)
 ·have hc72p := ebq hc72
  have hk9 : q.k = 4 := ebq hc72
  refine Cj.seq (Cj.persist hb63 (fun I74 hle73 hb63i => ?_))
  have hsa := hsa.mono hle73
  have hsb := hsb.mono hle73
  refine Cj.region (J.z q0 ?_)
  refine J.z (yl_makeFunc rfl rfl rfl) ?_
  refine J.op rfl (op_call (H1 := []) rfl rfl rfl rfl rfl (only_ok _ (Ix.sat L qa) (fun t => !Ix.sat L qb t) _ [ptr b63 0] _ hsa (fun t _ => not1_ok b63 _ (Ix.sat L qb) t _ hb63i hsb)) ?_ (fun _ _ _ _ ⟨_, h, _⟩ => by cases h) (fun _ _ ⟨_, h, _⟩ => by cases h))
  intro v75 I76 H77 hle78 hp79
  obtain ⟨wd, h, od, md, kd, rfl, hmd, rfl⟩ := hp79; cases h
  refine J.z q1 ?_
  refine J.ns (Cj.ret (Ej.blkRet (Ej.seqRet (Ej.keep (Keeps.k (Keeps.d Keeps.n)) ?_))))
  refine q5 ?_
  exact ⟨_, rfl, .inl ⟨od, md, kd, rfl, hmd.congr fun t => by rw [hsat t, hk9]; rfl, rfl⟩⟩
 have hc72p := nbf hc72
 have hkn4 : q.k ≠ 4 := nbf hc72
 refine Cj.kb (Cj.seq (Cj.persist hb63 (fun I81 hle80 hb63i => ?_)))
 have hsa := hsa.mono hle80
 have hsb := hsb.mono hle80
 refine Cj.region (J.z q0 ?_)
 refine J.op rfl (op_call (H1 := []) rfl rfl rfl rfl rfl (only_ok _ (Ix.sat L qa) (fun _ => true) _ [] _ hsa (fun t _ => yes_ok t _)) ?_ (fun _ _ _ _ ⟨_, h, _⟩ => by cases h) (fun _ _ ⟨_, h, _⟩ => by cases h))
 intro v82 I83 H84 hle85 hp86
 have hsb := hsb.mono hle85
 have hb63i := hle85 _ _ hb63i
 obtain ⟨wd, h, od, md, kd, rfl, hmd, rfl⟩ := hp86; cases h
 refine J.z q1 ?_
 refine J.nsss (Cj.region (J.z (q3 isAgg120 (Blk.imm hb63i)) ?_))
 rcases id hsb with ⟨hbo, hSb⟩ | ⟨bb, bm, bk, hbo, hmbb, hbb⟩
 ·cases hbo
  refine J.op rfl (op_rangeNil rfl rfl rfl rfl tU120 ?_)
  intro b87 hb87
  refine J.ns (Cj.block (Cj.rounds 1 ?_))
  refine Rj.succ ?_
  refine Cj.sr (J.op rfl (op_nextNil 0 rfl rfl rfl rfl rfl ?_))
  refine J.z q11 ?_
  refine J.nss (Cj.cond rfl (fun hc88 => Bool.noConfusion (Eq.trans (Eq.symm rfl) hc88)) (fun hc88 => ?_))
  refine Cj.exit (Ej.seqExit (Ej.seqExit (Ej.blkExit (Ej.seq (Cj.sr (J.z q0 ?_))))))
  refine J.z q1 ?_
  refine J.ns (Cj.ret (Ej.keep (Keeps.d (Keeps.k (Keeps.d Keeps.n))) ?_))
  have hk9 : q.k = 3 := by omega
  refine q5 ?_
  exact ⟨_, rfl, .inl ⟨od, md, kd, rfl, hmd.congr fun t => by rw [hsat t, hk9, Bool.and_true]; show _ = (_ || _); rw [hSb t, Bool.or_false], rfl⟩⟩
 cases hbo
 refine J.op rfl (op_rangeMap (kv := kvR) (l := bm) rfl rfl rfl rfl tU120 (Blk.imm hbb) ?_)
 intro b89 hb89
 refine J.ns (Cj.block (Cj.keep (Keeps.k (Keeps.k (Keeps.d Keeps.n))) ?_))
 refine Cj.loop (ι := TC) (fun y => (y.vis ++ y.rest).Perm bm ∧ SetM y.l y.c (withS y.vis (fun t => Ix.sat L qa t && true))) (fun y => y.rest.length) (fun y => [(7, .map (some od)), (54, ptr b89 0)]) (fun y => _) (fun y => [(b89, mit bb bk y.vis bk), (od, mobj kvR y.l y.c)]) ⟨[], bm, md, kd⟩ ⟨.refl _, hmd.congr fun t => by unfold withS; simp⟩ ⟨rfl, rfl, trivial⟩ rfl rfl ?_
 rintro ⟨vis, rest, l, cc⟩ ⟨hp, hM⟩
 dsimp only at hp hM ⊢
 refine Cj.sr (J.op rfl (op_nextMap (kv := kvR) (l := bm) 0 rfl rfl rfl rfl rfl (Blk.imm hbb) hmbb.1.2.2 (Nat.le_refl _) hmbb.1.2.1 hp ?_ ?_))
 ·rintro x rest2 H9 hrx hpx ⟨-, hset⟩; simp only [List.set_cons_zero] at hset; subst hset
  have hxm : x ∈ bm := hpx.mem_iff.1 (List.mem_append_left _ (List.mem_append_right _ (.head _)))
  refine J.z q11 ?_
  refine J.nss (Cj.cond rfl (fun hc90 => ?_) (fun hc90 => Bool.noConfusion (Eq.trans (Eq.symm rfl) hc90)))
  refine Cj.ks (Cj.block (Cj.sr (J.z (yl_entry (kv := kvR) (l := bm) rfl rfl (Blk.at 0 rfl) (Blk.imm hbb) hxm hmbb.1.2.1) ?_)))
  refine J.z q11 ?_
  refine J.op rfl (q21 tZ54 ?_)
  intro b91 hb91
  refine J.op rfl (q9 0 tS54 (LSpl.c (LSpl.c LSpl.z)) LSet.z ?_)
  refine J.nsr (J.z q0 ?_)
  refine J.z (q10 tA54 tS54 (Blk.at 0 rfl)) ?_
  refine J.op rfl (op_insert (kv := kvR) (a := x.1) 2 (.inr rfl) rfl rfl rfl rfl rfl tU120 keyR rfl (LSet.s (LSet.s LSet.z)) ?_)
  refine J.nil (Ej.blkNormal (Ej.keep (Keeps.d (Keeps.k (Keeps.k Keeps.n))) ?_))
  refine Ej.round ⟨vis ++ [x], rest2, _, _⟩ ⟨hpx, hM.add x.1 withS_next⟩ (by have h := hrx.length_eq; simp only [List.length_cons] at h; dsimp only; omega) ⟨rfl, rfl, trivial⟩ rfl rfl
 intro hend
 have hpv : vis.Perm bm := by rw [hend, List.append_nil] at hp; exact hp
 refine J.z q11 ?_
 refine J.nss (Cj.cond rfl (fun hc92 => Bool.noConfusion (Eq.trans (Eq.symm rfl) hc92)) (fun hc92 => ?_))
 refine Cj.xl (Cj.sr (J.z q0 ?_))
 refine J.z q1 ?_
 refine J.ns (Cj.ret (Ej.keep (Keeps.d (Keeps.k Keeps.n)) ?_))
 have hk9 : q.k = 3 := by omega
 refine q5 ?_
 exact ⟨_, rfl, .inl ⟨od, l, cc, rfl, hM.congr fun t => by rw [hsat t, hk9, withS_all hmbb hpv, Bool.and_true]; rfl, rfl⟩⟩
theorem satisfy_ok (xv : Value) (L : Ix.Ix) (htk : Ix.TOK L) (q : Cq.Qn) : SatSpec xv L q := by
  suffices ∀ n (q : Cq.Qn), q.size < n → SatSpec xv L q from this _ q (Nat.lt_succ_self _)
  intro n
  induction n with
  | zero => intro q h; omega
  | succ n ih => intro q h; exact satisfy_step xv L htk q fun q' h' => ih q' (by omega)
attribute [local instance] yesDR
section
open Go.Shelf Go.RowKit Go.Lib
theorem or3_ok (b : Nat) (r0 r1 r2 : Int) (w : World) (h0 : w.cell? ⟨b, 0, none⟩ = some (.int .i64 r0)) (h1 : w.cell? ⟨b, 1, none⟩ = some (.int .i64 r1)) (h2 : w.cell? ⟨b, 2, none⟩ = some (.int .i64 r2)) :
    Calls Tryz.prog 57 #[.slice (some ⟨b, 0, none⟩) 3 3] w fun e w' => e = .returned (.int .i64 (orR r0 (orR r1 r2))) ∧ w' = w := by
  go_enter func57, Tryz.ntmps57
  go_wp2
  refine wp_loop_rounds 4 ?_
  rw [rounds_succ]
  go_wp2
  · have hr : (r0 != 0) = true := by assumption
    have hc : orR r0 (orR r1 r2) = r0 := if_pos (by simpa using hr)
    go_ret
    exact ⟨by rw [hc]; rfl, rfl⟩
  have hr : (r0 != 0) = false := by assumption
  have hc : orR r0 (orR r1 r2) = orR r1 r2 := if_neg (by simpa using hr)
  rw [rounds_succ]
  go_wp2
  · have hs : (r1 != 0) = true := by assumption
    have hd : orR r1 r2 = r1 := if_pos (by simpa using hs)
    go_ret
    exact ⟨by rw [hc, hd]; rfl, rfl⟩
  have hs : (r1 != 0) = false := by assumption
  have hd : orR r1 r2 = r2 := if_neg (by simpa using hs)
  rw [rounds_succ]
  go_wp2
  · go_ret
    exact ⟨by rw [hc, hd]; rfl, rfl⟩
  have ht : (r2 != 0) = false := by assumption
  have ht1 : r2 = 0 := by simpa using ht
  rw [rounds_succ]
  go_wp2
  go_ret
  exact ⟨by rw [hc, hd, ht1]; rfl, rfl⟩
end
theorem cmpOr3_ok (b : Nat) (r0 r1 r2 : Int) (I : Heap) : Ctr Tryz.prog 57 [.slice (some ⟨b, 0, none⟩) 3 3] I [(b, cel 3 [i64 r0, i64 r1, i64 r2])] (fun e I' H' => e = .returned (i64 (orR r0 (orR r1 r2))) ∧ I' = I ∧ H' = [(b, cel 3 [i64 r0, i64 r1, i64 r2])]) :=
  Ctr.same ⟨_, func57, by decide, rfl⟩ fun w hw => by
    have hb := hw.2.1 _ (.head _)
    refine or3_ok b r0 r1 r2 w ?_ ?_ ?_ <;> simp [World.cell?, hb, cel]
theorem compareB_eq : ∀ a b : List UInt8, Lib.compareBytes a b = cmpS a b
  | [], [] => rfl
  | [], _ :: _ => rfl
  | _ :: _, [] => rfl
  | a :: u, b :: v => by
    have ih := compareB_eq u v
    unfold Lib.compareBytes cmpS
    rw [ih]
    unfold cmpS
    by_cases h1 : a < b
    · rw [if_pos h1, if_pos (List.cons_lt_cons_iff.2 (.inl h1))]
    rw [if_neg h1]
    by_cases h2 : b < a
    · have hne : a ≠ b := fun e => by subst e; exact h1 h2
      rw [if_pos h2, if_neg (fun g => (List.cons_lt_cons_iff.1 g).elim h1 fun g => hne g.1), if_pos (List.cons_lt_cons_iff.2 (.inl h2))]
    have he : a = b := UInt8.toNat_inj.1 (by have := UInt8.not_lt.1 h1; have := UInt8.not_lt.1 h2; rw [UInt8.le_iff_toNat_le] at *; omega)
    subst he
    rw [if_neg h2]
    have e1 : (a :: u < a :: v) ↔ u < v := by rw [List.cons_lt_cons_iff]; simp [h1]
    have e2 : (a :: v < a :: u) ↔ v < u := by rw [List.cons_lt_cons_iff]; simp [h1]
    by_cases g1 : u < v
    · rw [if_pos g1, if_pos (e1.2 g1)]
    rw [if_neg g1, if_neg (fun g => g1 (e1.1 g))]
    by_cases g2 : v < u
    · rw [if_pos g2, if_pos (e2.2 g2)]
    rw [if_neg g2, if_neg (fun g => g2 (e2.1 g))]
theorem scmp_ok (a b : List UInt8) (I : Heap) : Ctr Tryz.prog 58 [str a, str b] I [] (fun e I' H' => e = .returned (i64 (cmpS a b)) ∧ I' = I ∧ H' = []) :=
  Ctr.same ⟨_, func58, by decide, rfl⟩ fun w _ => by
    have h := Tryz.strings_Compare ⟨a.toArray⟩ ⟨b.toArray⟩ w
    rw [show (⟨a.toArray⟩ : ByteArray).data.toList = a by simp, show (⟨b.toArray⟩ : ByteArray).data.toList = b by simp, compareB_eq] at h
    exact h
theorem run1D_ok (a b : List UInt8) (x0 x1 y0 y1 : Int) (I : Heap) : Ctr Tryz.prog 56 [.agg #[str a, i64 x0, i64 x1], .agg #[str b, i64 y0, i64 y1]] I [] (fun e _ H' => e = .returned (i64 (orR (cmpS a b) (orR (Lib.compareInt x0 y0) (Lib.compareInt x1 y1)))) ∧ H' = []) := by
 refine Ctr.ob func56 ?_
 intro w0 hw0
 refine Cj.sr (J.op rfl (q15 ?_))
 intro b1 hb1
 refine J.op rfl (q15 ?_)
 intro b2 hb2
 refine J.z q1 ?_
 refine J.nss (Cj.drawSel [0, 1] [] 22 (by kernel_rfl) ?_)
 refine JA.fix ⟨(HSub.c 0 rfl (HSub.c 1 rfl HSub.n)), CSub.n, (Le.refl _)⟩ (fun fx3 => ?_)
 refine JA.tk 0 rfl fx3 (q2 (off' := 0) underlying123 sizeOf9) ?_
 refine JA.tk 1 rfl fx3 (q3 isAgg9 (Blk.atC 1 rfl)) ?_
 refine JA.tk 2 rfl fx3 (q2 (off' := 0) underlying123 sizeOf9) ?_
 refine JA.tk 3 rfl fx3 (q3 isAgg9 (Blk.atC 0 rfl)) ?_
 refine JA.tk 5 rfl fx3 (q2 (off' := 1) underlying123 sizeOf54) ?_
 refine JA.tk 6 rfl fx3 (q2 (off' := 1) underlying54 sizeOf3) ?_
 refine JA.tk 7 rfl fx3 (q3 isAgg3 (Blk.atC 1 rfl)) ?_
 refine JA.tk 8 rfl fx3 (q2 (off' := 1) underlying123 sizeOf54) ?_
 refine JA.tk 9 rfl fx3 (q2 (off' := 1) underlying54 sizeOf3) ?_
 refine JA.tk 10 rfl fx3 (q3 isAgg3 (Blk.atC 0 rfl)) ?_
 refine JA.tk 12 rfl fx3 (q2 (off' := 1) underlying123 sizeOf54) ?_
 refine JA.tk 13 rfl fx3 (q2 (off' := 2) underlying54 sizeOf3) ?_
 refine JA.tk 14 rfl fx3 (q3 isAgg3 (Blk.atC 1 rfl)) ?_
 refine JA.tk 15 rfl fx3 (q2 (off' := 1) underlying123 sizeOf54) ?_
 refine JA.tk 16 rfl fx3 (q2 (off' := 2) underlying54 sizeOf3) ?_
 refine JA.tk 17 rfl fx3 (q3 isAgg3 (Blk.atC 0 rfl)) ?_
 refine q4 4 rfl (op_call (H1 := []) rfl rfl rfl rfl rfl (scmp_ok a b _) ?_ (fun _ _ _ _ h => by cases h.1) (fun _ _ h => by cases h.1))
 intro v4 I5 H6 hle7 hp8
 obtain ⟨h, rfl, rfl⟩ := hp8; cases h
 refine ⟨⟨(Le.trans (Le.refl _) hle7), (HSub.c 0 rfl (HSub.c 1 rfl HSub.n)), CSub.n⟩, ?_⟩
 refine q4 11 rfl (op_call (H1 := []) rfl rfl rfl rfl rfl (ceq_ok x0 y0 _) ?_ (fun _ _ _ _ h => by cases h.1) (fun _ _ h => by cases h.1))
 intro v9 I10 H11 hle12 hp13
 obtain ⟨h, rfl, rfl⟩ := hp13; cases h
 refine ⟨⟨(Le.trans (Le.trans (Le.refl _) hle7) hle12), (HSub.c 0 rfl (HSub.c 1 rfl HSub.n)), CSub.n⟩, ?_⟩
 refine q4 18 rfl (op_call (H1 := []) rfl rfl rfl rfl rfl (ceq_ok x1 y1 _) ?_ (fun _ _ _ _ h => by cases h.1) (fun _ _ h => by cases h.1))
 intro v14 I15 H16 hle17 hp18
 obtain ⟨h, rfl, rfl⟩ := hp18; cases h
 refine ⟨⟨(Le.trans (Le.trans (Le.trans (Le.refl _) hle7) hle12) hle17), (HSub.c 0 rfl (HSub.c 1 rfl HSub.n)), CSub.n⟩, ?_⟩
 refine q4 19 rfl (q17 underlying23 sizeOf3 zeroValue3 (LCat.one rfl (LCat.one rfl (LCat.one rfl LCat.none))) ?_)
 intro b19 hb19
 refine ⟨⟨(Le.trans (Le.trans (Le.trans (Le.refl _) hle7) hle12) hle17), (HSub.c 1 rfl (HSub.c 2 rfl HSub.n)), CSub.n⟩, ?_⟩
 refine JA.pull Pull.z ?_
 refine q4 20 rfl (op_call (H1 := [_]) rfl rfl rfl rfl rfl (cmpOr3_ok _ (cmpS a b) (Lib.compareInt x0 y0) (Lib.compareInt x1 y1) _) ?_ (fun _ _ _ _ h => by cases h.1) (fun _ _ h => by cases h.1))
 intro v20 I21 H22 hle23 hp24
 obtain ⟨h, rfl, rfl⟩ := hp24; cases h
 refine ⟨⟨(Le.trans (Le.trans (Le.trans (Le.trans (Le.refl _) hle7) hle12) hle17) hle23), (HSub.c 1 rfl (HSub.c 2 rfl HSub.n)), CSub.n⟩, ?_⟩
 refine JA.fix ⟨(HSub.c 1 rfl (HSub.c 2 rfl HSub.n)), CSub.n, (Le.trans (Le.trans (Le.trans (Le.trans (Le.refl _) hle7) hle12) hle17) hle23)⟩ (fun fx25 => ?_)
 refine JA.tk 21 rfl fx25 q1 ?_
 refine q8 ?_
 refine Ej.seq (Cj.ret (Ej.bare ?_))
 refine q5 ?_
 exact ⟨rfl, rfl⟩
theorem run1_ok (a b : List UInt8) (x0 x1 y0 y1 : Int) (w : World) : Calls Tryz.prog 56 #[.agg #[str a, i64 x0, i64 x1], .agg #[str b, i64 y0, i64 y1]] w fun e w' => e = .returned (i64 (orR (cmpS a b) (orR (Lib.compareInt x0 y0) (Lib.compareInt x1 y1)))) ∧ ∃ q os', w' = Sort.grow (w.drewN q) os' :=
  Ctr.grows (run1D_ok a b x0 x1 y0 y1 _) (fun _ _ _ h => h.1) w
end Go.Proofs.YtekmeaoblpfnpaaGreatDoor
namespace Go.Proofs.YtekmeaoblpfnpaaGreatDoor
open Go Go.Shelf Go.RowKit Go.Lib Go.Sort
abbrev FW := List UInt8 × Ix.Rec
abbrev foundC (x : FW) : List Value := [Sx.str x.1, .int .i64 x.2.1, .int .i64 x.2.2]
theorem foundC_len (x : FW) : (foundC x).length = 3 := rfl
def cmpF (x y : FW) : Int := orR (cmpS x.1 y.1) (cmpRec x.2 y.2)
def lessF (x y : FW) : Prop := x.1 < y.1 ∨ (x.1 = y.1 ∧ Ix.lessR x.2 y.2 = true)
theorem lessF_irr (x : FW) : ¬ lessF x x := by
  rintro (h | ⟨_, h⟩)
  · exact List.lt_irrefl _ h
  rw [Ix.lessR_irr] at h; cases h
theorem lessF_trans {x y z : FW} (h1 : lessF x y) (h2 : lessF y z) : lessF x z := by
  rcases h1 with h1 | ⟨h1, h1'⟩ <;> rcases h2 with h2 | ⟨h2, h2'⟩
  · exact .inl (List.lt_trans h1 h2)
  · exact .inl (h2 ▸ h1)
  · exact .inl (h1 ▸ h2)
  exact .inr ⟨h1.trans h2, Ix.lessR_trans h1' h2'⟩
theorem lessF_tri (x y : FW) : lessF x y ∨ x = y ∨ lessF y x := by
  by_cases h : x.1 < y.1
  · exact .inl (.inl h)
  by_cases h2 : y.1 < x.1
  · exact .inr (.inr (.inl h2))
  have he : x.1 = y.1 := List.le_antisymm (List.not_lt.1 h2) (List.not_lt.1 h)
  rcases Ix.lessR_tri x.2 y.2 with g | g | g
  · exact .inl (.inr ⟨he, g⟩)
  · exact .inr (.inl (Prod.ext he g))
  exact .inr (.inr (.inr ⟨he.symm, g⟩))
theorem cmpF_lt (x y : FW) : ltOf cmpF x y = true ↔ lessF x y := by
  have hr := cmpRec_lt x.2 y.2
  unfold ltOf at hr ⊢
  unfold cmpF lessF orR cmpS
  rw [decide_eq_true_eq]
  by_cases h : x.1 < y.1
  · rw [if_pos h]; simp [h]
  rw [if_neg h]
  by_cases h2 : y.1 < x.1
  · have hne : x.1 ≠ y.1 := fun e => h (e ▸ h2)
    rw [if_pos h2]; simp [h, hne]
  have he : x.1 = y.1 := List.le_antisymm (List.not_lt.1 h2) (List.not_lt.1 h)
  rw [if_neg h2, if_neg (by simp), ← hr, decide_eq_true_eq]
  exact ⟨fun g => .inr ⟨he, g⟩, fun g => g.elim (fun g => absurd g h) fun g => g.2⟩
theorem cmpF_swo : SWO (ltOf cmpF) where
  irrefl x := Bool.eq_false_iff.2 fun h => lessF_irr x ((cmpF_lt x x).1 h)
  trans x y z h1 h2 := (cmpF_lt x z).2 (lessF_trans ((cmpF_lt x y).1 h1) ((cmpF_lt y z).1 h2))
  ntrans x y z h1 h2 := by
    rw [Bool.eq_false_iff, Ne, cmpF_lt] at *
    intro h
    rcases lessF_tri x y with g | g | g
    · exact h1 g
    · subst g; exact h2 h
    exact h2 (lessF_trans g h)
theorem SortFound_ok {base : Nat} (l : List FW) (g : Sx.Gs) (hg : Sx.gOk base 3 l.length (l.flatMap foundC) g) (hl : l.length ≤ 100000000000000) (I : Sx.Heap) : Sx.Ctr Tryz.prog 55 [Sx.gV l.length g, .func (.func 56) #[] #[]] I (Sx.gH 123 (l.flatMap foundC) g)
    (fun e _I' H' => ∃ l' : List FW, l'.Perm l ∧ l'.Pairwise (fun p q => ¬ lessF q p) ∧ e = .returned (.tuple #[]) ∧ H' = Sx.gH 123 (l'.flatMap foundC) g) := by
  cases g with
  | none =>
    obtain ⟨h1, h2⟩ := hg
    have h0 : l = [] := List.length_eq_zero_iff.1 h1
    subst h0
    exact (Sx.Pure.of_same (Sx.Enters.of Tryz.func55 (by decide) rfl) (fun w _ => AnyF.slices_SortFunc_none Tryz.sortR none 0 (.func (.func 56) #[] #[]) w)).mono fun e I' H' _ ⟨h1, _, h3⟩ => ⟨[], List.Perm.refl _, List.Pairwise.nil, h1, h3⟩
  | some q =>
    obtain ⟨b, c, sp⟩ := q
    refine ⟨Sx.Enters.of Tryz.func55 (by decide) rfl, fun w hw => ?_⟩
    have hb := hw.2.1 _ (.head _)
    have hlt : b < w.heap.size := by
      rcases Nat.lt_or_ge b w.heap.size with h | h
      · exact h
      rw [Array.getElem?_eq_none h] at hb; cases hb
    have eg : ∀ args w, (callFunc 56 args).run Tryz.prog w = .ok (.enter 56 args) w := enters_of Tryz.func56 (by kernel_rfl) rfl
    have hH : HoldsK foundC 3 w b 0 l.toArray := by
      unfold HoldsK
      rw [Sx.flatK_list foundC_len]
      exact Sx.row_holdsV hb
    have hcmp : CmpLays Tryz.prog 56 #[] foundC 3 cmpF b 0 l.toArray.size w := fun m os dk _ x y => run1_ok x.1 y.1 x.2.1 x.2.2 y.2.1 y.2.2 _
    have hcon := AnyQ.slices_SortFunc Tryz.sortR 3 Tryz.isAgg123 Tryz.sizeOf123 foundC foundC_len (fun x v hv => by
      simp only [List.mem_cons, List.not_mem_nil, or_false] at hv
      rcases hv with rfl | rfl | rfl <;> rfl) cmpF cmpF_swo 56 #[] b 0 c l.toArray w eg hcmp hH hlt (by simp; omega)
    refine hcon.mono fun e w' ⟨h1, d', n, os, h2, h3, h4⟩ => ?_
    rw [List.size_toArray] at h2 h3
    have hp := Sx.perm_in h2
    have hds : d'.size = l.length := by have := hp.length_eq; simpa using this
    rw [← hds] at h3
    refine ⟨I, _, ?_, d'.toList, hp, (Sx.sorted_in h3).imp fun h => ?_, h1, rfl⟩
    · rw [h4]
      unfold sortWorldK putRowK
      rw [show d' = d'.toList.toArray from (Array.toArray_toList (xs := d')).symm, Sx.flatK_list foundC_len]
      exact Sx.St.rowV n os hw (by rw [Sx.flat_len foundC_len, Sx.flat_len foundC_len, hp.length_eq])
    exact fun g => Bool.eq_false_iff.1 h ((cmpF_lt _ _).2 g)
theorem found_run {L : Ix.Ix} {ts : List Ix.Rec} (hn : ts.Nodup) {l : List FW} (hp : l.Perm (ts.map fun t => (Ix.sortOf L t, t))) (ho : l.Pairwise fun p q => ¬ lessF q p) : (l.map (·.2)).Pairwise (Ix.lessS L) ∧ ∀ t, t ∈ l.map (·.2) ↔ t ∈ ts := by
  have hk : ∀ x ∈ l, x.1 = Ix.sortOf L x.2 := fun x hx => by
    obtain ⟨t, _, rfl⟩ := List.mem_map.1 (hp.mem_iff.1 hx)
    rfl
  have hm : (l.map (·.2)).Perm ts := by
    have := hp.map (·.2)
    rw [List.map_map] at this
    exact this.trans (.of_eq (List.map_id _))
  refine ⟨?_, fun t => hm.mem_iff⟩
  have hnd := List.nodup_iff_pairwise_ne.1 (hm.nodup_iff.2 hn)
  rw [List.pairwise_map] at hnd ⊢
  refine (List.pairwise_iff_forall_sublist.2 fun {x y} hs => ?_)
  have h1 := List.pairwise_iff_forall_sublist.1 ho hs
  have h2 := List.pairwise_iff_forall_sublist.1 hnd hs
  have hx := hk x (hs.subset (.head _))
  have hy := hk y (hs.subset (.tail _ (.head _)))
  rcases lessF_tri x y with g | g | g
  · unfold lessF at g; unfold Ix.lessS; rwa [hx, hy] at g
  · subst g; exact absurd rfl h2
  exact absurd g h1
end Go.Proofs.YtekmeaoblpfnpaaGreatDoor
namespace Go.Proofs.YtekmeaoblpfnpaaGreatDoor
open _root_.Go.Proofs.Tryz
open Go Go.Sx
theorem Contains_ok (l : List (List UInt8)) (x : List UInt8) (v : Value) (hl : l.length ≤ 1000000) (I : Heap) (hv : StrSl 9 I l v) : Pure Tryz.prog 116 [v, str x] I (.bool (l.contains x)) := by
  obtain ⟨b, c, sp, rfl, hb⟩ := hv
  refine Pure.of_same (Enters.of func116 (by decide) rfl) fun w hw => ?_
  have h := Tryz.slices_Contains_string b 0 l.length c (l.map fun y => ⟨y.toArray⟩) ⟨x.toArray⟩ w (by simp) (by omega) (fun j hj => by
    rw [Nat.zero_add]
    simp at hj
    refine cell_of_heap (hw.1 _ _ hb) ?_
    rw [str_get (x := l[j]) (lgg hj)]
    simp [str, lgg hj])
  rw [List.take_of_length_le (by simp)] at h
  have e : Lib.containsS (l.map fun y => (⟨y.toArray⟩ : ByteArray)) ⟨x.toArray⟩ = l.contains x := by
    rw [Bool.eq_iff_iff, Lib.containsS_iff, List.contains_iff_mem, List.mem_map]
    constructor
    · rintro ⟨y, hy, he⟩
      have e : y = x := by simpa using congrArg ByteArray.data he
      exact e ▸ hy
    exact fun h => ⟨x, h, rfl⟩
  rw [e] at h
  exact h
def DeepSpec (q : Cq.Qn) : Prop := ∀ (p : Option Addr) (c : Nat) (I : Heap), PS I q.ps p → q.size ≤ 1000000000 → q.wide ≤ 1000000000 → Pure Tryz.prog 64 [.agg (qCells q p c).toArray] I (i64 (Cq.deep q))
theorem cindexes_ok (I : Heap) : Ctr Tryz.prog 117 [] I [] (fun e I' H' => (∃ v, e = .returned v ∧ StrSl 9 I' Cq.indexes v) ∧ H' = []) := by
 refine Ctr.ob func117 ?_
 intro w0 hw0
 refine Cj.sr (J.z q1 ?_)
 refine J.nssr (J.op rfl (q17 tU69 tS9 tZ9 (LCat.one rfl (LCat.one rfl (LCat.one rfl (LCat.one rfl (LCat.one rfl (LCat.one rfl LCat.none)))))) ?_))
 intro b1 hb1
 refine J.z q1 ?_
 refine J.ns (Cj.ret (Ej.persist hb1 (fun I3 hle2 hb1i => ?_)))
 refine q5 ?_
 exact ⟨⟨_, rfl, b1, 6, [], rfl, hb1i⟩, rfl⟩
theorem crelations_ok (I : Heap) : Ctr Tryz.prog 118 [] I [] (fun e I' H' => (∃ v, e = .returned v ∧ StrSl 9 I' Cq.relations v) ∧ H' = []) := by
 refine Ctr.ob func118 ?_
 intro w0 hw0
 refine Cj.sr (J.z q1 ?_)
 refine J.nssr (J.op rfl (q17 tU69 tS9 tZ9 (LCat.one rfl (LCat.one rfl (LCat.one rfl (LCat.one rfl (LCat.one rfl (LCat.one rfl LCat.none)))))) ?_))
 intro b1 hb1
 refine J.z q1 ?_
 refine J.ns (Cj.ret (Ej.persist hb1 (fun I3 hle2 hb1i => ?_)))
 refine q5 ?_
 exact ⟨⟨_, rfl, b1, 6, [], rfl, hb1i⟩, rfl⟩
theorem deep_step (q : Cq.Qn) (ih : ∀ q', Cq.Qn.size q' < q.size → DeepSpec q') : DeepSpec q := by
 intro p c I hps hsz hwd
 have hwi : q.i.length + q.r.length + q.t.length ≤ 1000000000 := by unfold Cq.Qn.wide at hwd; omega
 refine Ctr.toPure ?_
 refine Ctr.ob func64 ?_
 intro w0 hw0
 refine Cj.sr (J.op rfl (q15 ?_))
 intro b1 hb1
 refine J.z q1 ?_
 refine J.nsss (Cj.region (J.z (q2 (off' := 0) tU32 tS3) ?_))
 refine J.z (q3 tA3 (Blk.at 0 rfl)) ?_
 refine J.z q19 ?_
 refine J.cd (fun hc2 => ?_) (fun hc2 => ?_)
 ·have hc2p := ebq hc2
  have hk : q.k = 1 := by omega
  refine Cj.seq (Cj.seq (Cj.drawSel [0] [] 18 (by kernel_rfl) ?_))
  refine JA.fix ⟨(HSub.c 0 rfl HSub.n), CSub.n, (Le.refl _)⟩ (fun fx3 => ?_)
  refine JA.tk 1 rfl fx3 (q2 (off' := 1) tU32 tS9) ?_
  refine JA.tk 2 rfl fx3 (q3 tA9 (Blk.atC 0 rfl)) ?_
  refine q4 0 rfl (op_call (H1 := []) rfl rfl rfl rfl rfl (cindexes_ok _) ?_ (fun _ _ _ _ h => by obtain ⟨⟨_, h, _⟩, _⟩ := h; cases h) (fun _ _ h => by obtain ⟨⟨_, h, _⟩, _⟩ := h; cases h))
  intro v4 I5 H6 hle7 hp8
  obtain ⟨⟨v4x, hv4, hsv4⟩, rfl⟩ := hp8; cases hv4
  refine ⟨⟨(Le.trans (Le.refl _) hle7), (HSub.c 0 rfl HSub.n), CSub.n⟩, ?_⟩
  refine q4 3 rfl (op_pure rfl rfl rfl rfl rfl (Contains_ok Cq.indexes _ _ (by decide) _ hsv4) ?_)
  refine ⟨⟨(Le.trans (Le.refl _) hle7), (HSub.c 0 rfl HSub.n), CSub.n⟩, ?_⟩
  refine JA.fix ⟨(HSub.c 0 rfl HSub.n), CSub.n, (Le.trans (Le.refl _) hle7)⟩ (fun fx9 => ?_)
  refine JA.tk 4 rfl fx9 (yl_not rfl rfl) ?_
  refine JA.tk 5 rfl fx9 q0 ?_
  refine JA.split 13 rfl (fun hg10 => ?_) (fun hg10 => ?_)
  ·refine JA.tkS 6 5 13 false _ rfl fx9 rfl rfl (.inl (congrArg Value.bool hg10)) ?_
   refine JA.tkS 7 5 13 false _ rfl fx9 rfl rfl (.inl (congrArg Value.bool hg10)) ?_
   refine JA.tkS 8 5 13 false _ rfl fx9 rfl rfl (.inl (congrArg Value.bool hg10)) ?_
   refine JA.tkS 9 5 13 false _ rfl fx9 rfl rfl (.inl (congrArg Value.bool hg10)) ?_
   refine JA.tkS 10 5 13 false _ rfl fx9 rfl rfl (.inl (congrArg Value.bool hg10)) ?_
   refine JA.tk 11 rfl fx9 (q22 hg10) ?_
   refine JA.tk 12 rfl fx9 q0 ?_
   refine JA.tkS 13 12 20 false _ rfl fx9 rfl rfl (.inl (congrArg Value.bool rfl)) ?_
   refine JA.tkS 14 12 20 false _ rfl fx9 rfl rfl (.inl (congrArg Value.bool rfl)) ?_
   refine JA.tkS 15 12 20 false _ rfl fx9 rfl rfl (.inl (congrArg Value.bool rfl)) ?_
   refine JA.tkS 16 12 20 false _ rfl fx9 rfl rfl (.inl (congrArg Value.bool rfl)) ?_
   refine JA.tk 17 rfl fx9 (yl_pick1 rfl rfl rfl rfl) ?_
   refine q8 ?_
   refine Ej.seq (Cj.cond rfl (fun hc11 => ?_) (fun hc11 => Bool.noConfusion (Eq.trans (Eq.symm rfl) hc11)))
   refine Cj.sr (J.z q1 ?_)
   refine J.ns (Cj.rs (Ej.seqRet (Ej.bare ?_)))
   refine q5 ?_
   refine ⟨?_, rfl⟩
   rw [Cq.deep_term hk]
   simp_all <;> omega
  refine JA.tkG 7 5 13 false _ rfl fx9 rfl rfl hg10 (q2 (off' := 2) tU32 tS9) ?_
  refine JA.tkG 8 5 13 false _ rfl fx9 rfl rfl hg10 (q3 tA9 (Blk.atC 0 rfl)) ?_
  refine JA.stepG 6 5 13 false _ (by kernel_rfl) rfl rfl rfl rfl hg10 (op_call (H1 := []) rfl rfl rfl rfl rfl (crelations_ok _) ?_ (fun _ _ _ _ h => by obtain ⟨⟨_, h, _⟩, _⟩ := h; cases h) (fun _ _ h => by obtain ⟨⟨_, h, _⟩, _⟩ := h; cases h))
  intro v12 I13 H14 hle15 hp16
  obtain ⟨⟨v12x, hv12, hsv12⟩, rfl⟩ := hp16; cases hv12
  refine ⟨⟨(Le.trans (Le.trans (Le.refl _) hle7) hle15), (HSub.c 0 rfl HSub.n), CSub.n⟩, ?_⟩
  refine JA.stepG 9 5 13 false _ (by kernel_rfl) rfl rfl rfl rfl hg10 (op_pure rfl rfl rfl rfl rfl (Contains_ok Cq.relations _ _ (by decide) _ hsv12) ?_)
  refine ⟨⟨(Le.trans (Le.trans (Le.refl _) hle7) hle15), (HSub.c 0 rfl HSub.n), CSub.n⟩, ?_⟩
  refine JA.fix ⟨(HSub.c 0 rfl HSub.n), CSub.n, (Le.trans (Le.trans (Le.refl _) hle7) hle15)⟩ (fun fx17 => ?_)
  refine JA.tkG 10 5 13 false _ rfl fx17 rfl rfl hg10 (yl_not rfl rfl) ?_
  refine JA.tk 11 rfl fx17 (q23 hg10) ?_
  refine JA.tk 12 rfl fx17 q0 ?_
  refine JA.split 20 rfl (fun hg18 => ?_) (fun hg18 => ?_)
  ·refine JA.tkS 13 12 20 false _ rfl fx17 rfl rfl (.inl (congrArg Value.bool hg18)) ?_
   refine JA.tkS 14 12 20 false _ rfl fx17 rfl rfl (.inl (congrArg Value.bool hg18)) ?_
   refine JA.tkS 15 12 20 false _ rfl fx17 rfl rfl (.inl (congrArg Value.bool hg18)) ?_
   refine JA.tkS 16 12 20 false _ rfl fx17 rfl rfl (.inl (congrArg Value.bool hg18)) ?_
   refine JA.tk 17 rfl fx17 (q22 hg18) ?_
   refine q8 ?_
   refine Ej.seq (Cj.cond rfl (fun hc19 => ?_) (fun hc19 => Bool.noConfusion (Eq.trans (Eq.symm rfl) hc19)))
   refine Cj.sr (J.z q1 ?_)
   refine J.ns (Cj.rs (Ej.seqRet (Ej.bare ?_)))
   refine q5 ?_
   refine ⟨?_, rfl⟩
   rw [Cq.deep_term hk]
   simp_all <;> omega
  refine JA.tkG 13 12 20 false _ rfl fx17 rfl rfl hg18 (q2 (off' := 4) tU32 tS30) ?_
  refine JA.tkG 14 12 20 false _ rfl fx17 rfl rfl hg18 (q3 tA30 (Blk.atC 0 rfl)) ?_
  refine JA.tkG 15 12 20 false _ rfl fx17 rfl rfl hg18 (q14 tU30) ?_
  refine JA.tkG 16 12 20 false _ rfl fx17 rfl rfl hg18 (yl_gtr rfl rfl rfl) ?_
  refine JA.tk 17 rfl fx17 (q23 hg18) ?_
  refine q8 ?_
  refine Ej.seq (Cj.cond rfl (fun hc20 => ?_) (fun hc20 => ?_))
  ·have hc20p := odt hc20
   refine Cj.sr (J.z q1 ?_)
   refine J.ns (Cj.rs (Ej.seqRet (Ej.bare ?_)))
   refine q5 ?_
   refine ⟨?_, rfl⟩
   rw [Cq.deep_term hk]
   simp_all <;> omega
  have hc20p := odf hc20
  refine Cj.ks (Cj.sr (J.z q1 ?_))
  refine J.ns (Cj.rs (Ej.bare ?_))
  refine q5 ?_
  refine ⟨?_, rfl⟩
  rw [Cq.deep_term hk]
  simp_all <;> omega
 have hc2p := nbf hc2
 have hk : q.k ≠ 1 := by omega
 refine Cj.ks (Cj.seq (Cj.sr (J.z (q2 (off' := 0) tU32 tS3) ?_)))
 refine J.z (q3 tA3 (Blk.at 0 rfl)) ?_
 refine J.z q18 ?_
 refine J.z q0 ?_
 refine J.split 29 rfl (fun hg21 => ?_) (fun hg21 => ?_)
 ·refine q12 3 29 30 false hg21 ?_
  refine q12 3 29 31 false hg21 ?_
  refine q12 3 29 32 false hg21 ?_
  refine J.z (q22 hg21) ?_
  refine J.z q0 ?_
  refine q25 8 34 35 false ?_
  refine q25 8 34 36 false ?_
  refine q25 8 34 37 false ?_
  refine q25 8 34 38 false ?_
  refine q25 8 34 39 false ?_
  refine q25 8 34 40 false ?_
  refine q25 8 34 41 false ?_
  refine q25 8 34 42 false ?_
  refine q25 8 34 43 false ?_
  refine J.z (yl_pick1 rfl rfl rfl rfl) ?_
  refine J.z q0 ?_
  refine q25 19 45 46 false ?_
  refine q25 19 45 47 false ?_
  refine q25 19 45 48 false ?_
  refine q25 19 45 49 false ?_
  refine J.z (yl_pick1 rfl rfl rfl rfl) ?_
  refine J.c1 (fun hc22 => ?_)
  refine Cj.sr (J.z q1 ?_)
  refine J.ns (Cj.rs (Ej.bare ?_))
  refine q5 ?_
  rw [Cq.deep_bad hk (.inl (by have h := hg21; simp at h; omega))]; exact ⟨rfl, rfl⟩
 refine q13 3 29 false hg21 (q7 (q2 (off' := 0) tU32 tS3) ?_)
 refine q13 3 29 false hg21 (q7 (q3 tA3 (Blk.at 0 rfl)) ?_)
 refine q13 3 29 false hg21 (q7 (yl_gtr rfl rfl rfl) ?_)
 refine J.z (q23 hg21) ?_
 refine J.z q0 ?_
 refine J.split 34 rfl (fun hg23 => ?_) (fun hg23 => ?_)
 ·refine q12 8 34 35 false hg23 ?_
  refine q12 8 34 36 false hg23 ?_
  refine q12 8 34 37 false hg23 ?_
  refine q12 8 34 38 false hg23 ?_
  refine q12 8 34 39 false hg23 ?_
  refine q12 8 34 40 false hg23 ?_
  refine q12 8 34 41 false hg23 ?_
  refine q12 8 34 42 false hg23 ?_
  refine q12 8 34 43 false hg23 ?_
  refine J.z (q22 hg23) ?_
  refine J.z q0 ?_
  refine q25 19 45 46 false ?_
  refine q25 19 45 47 false ?_
  refine q25 19 45 48 false ?_
  refine q25 19 45 49 false ?_
  refine J.z (yl_pick1 rfl rfl rfl rfl) ?_
  refine J.c1 (fun hc24 => ?_)
  refine Cj.sr (J.z q1 ?_)
  refine J.ns (Cj.rs (Ej.bare ?_))
  refine q5 ?_
  rw [Cq.deep_bad hk (.inr (.inl (by have h := hg23; simp at h; omega)))]; exact ⟨rfl, rfl⟩
 refine q13 8 34 false hg23 (q7 (q2 (off' := 1) tU32 tS9) ?_)
 refine q13 8 34 false hg23 (q7 (q3 tA9 (Blk.at 0 rfl)) ?_)
 refine q13 8 34 false hg23 (q7 (q2 (off' := 2) tU32 tS9) ?_)
 refine q13 8 34 false hg23 (q7 (q3 tA9 (Blk.at 0 rfl)) ?_)
 refine J.opG 8 34 false _ rfl rfl rfl hg23 (op_yld (yl_cat rfl rfl rfl (by first | omega | (simp only [List.length_append]; omega) | (simp; omega))) rfl rfl ?_)
 refine q13 8 34 false hg23 (q7 (q2 (off' := 3) tU32 tS9) ?_)
 refine q13 8 34 false hg23 (q7 (q3 tA9 (Blk.at 0 rfl)) ?_)
 refine J.opG 8 34 false _ rfl rfl rfl hg23 (op_yld (yl_cat rfl rfl rfl (by first | omega | (simp only [List.length_append]; omega) | (simp; omega))) rfl rfl ?_)
 refine q13 8 34 false hg23 (q7 (yl_neqStr rfl rfl rfl) ?_)
 refine J.z (q23 hg23) ?_
 refine J.z q0 ?_
 refine J.split 45 rfl (fun hg25 => ?_) (fun hg25 => ?_)
 ·refine q12 19 45 46 false hg25 ?_
  refine q12 19 45 47 false hg25 ?_
  refine q12 19 45 48 false hg25 ?_
  refine q12 19 45 49 false hg25 ?_
  refine J.z (q22 hg25) ?_
  refine J.c1 (fun hc26 => ?_)
  refine Cj.sr (J.z q1 ?_)
  refine J.ns (Cj.rs (Ej.bare ?_))
  refine q5 ?_
  rw [Cq.deep_bad hk (.inr (.inr (.inl (bne_iff_ne.1 hg25))))]; exact ⟨rfl, rfl⟩
 refine q13 19 45 false hg25 (q7 (q2 (off' := 4) tU32 tS30) ?_)
 refine q13 19 45 false hg25 (q7 (q3 tA30 (Blk.at 0 rfl)) ?_)
 refine q13 19 45 false hg25 (q7 (q14 tU30) ?_)
 refine q13 19 45 false hg25 (q7 (yl_neq rfl rfl rfl) ?_)
 refine J.z (q23 hg25) ?_
 refine J.cd (fun hc27 => ?_) (fun hc27 => ?_)
 ·have hc27p := bne_iff_ne.1 hc27
  refine Cj.sr (J.z q1 ?_)
  refine J.ns (Cj.rs (Ej.bare ?_))
  refine q5 ?_
  rw [Cq.deep_bad hk (.inr (.inr (.inr (by have h := hc27; simp at h; omega))))]; exact ⟨rfl, rfl⟩
 have hc27p := bne_f hc27
 have hg29 := hg21
 have hg34 := hg23
 have hg45 := hg25
 have hg50 := hc27
 have hgood : ¬ (q.k < 2 ∨ q.k > 4 ∨ q.i ≠ [] ∨ q.r ≠ [] ∨ q.t ≠ [] ∨ q.ps.len ≠ 2) := by
   simp at hg29 hg34 hg45 hg50
   simp [hg45]; omega
 obtain ⟨qa, qb, htw⟩ := Cq.Qs.two_of (ps := q.ps) (by omega)
 change q.Two qa qb at htw
 have hdt := Cq.deep_two hk hgood htw
 have hsz2 := htw.size
 have hwd2 := htw.wide
 have hdb := Cq.deep_le qb
 have hda := Cq.deep_le qa
 have hga := Cq.deep_ge qa
 have hgb := Cq.deep_ge qb
 have hln := htw.len
 obtain ⟨bl, off, cs', T, fr, pa, ca, pb, cb, rfl, hbl, hca, hcb, hkb, hpa, hpb⟩ := hps.two_at htw
 refine Cj.ks (Cj.seq (Cj.drawSel [0] [] 12 (by kernel_rfl) ?_))
 have hbl_7 := hbl
 refine JA.fix ⟨(HSub.c 0 rfl HSub.n), CSub.n, (Le.refl _)⟩ (fun fx28 => ?_)
 refine JA.tk 0 rfl fx28 (q2 (off' := 4) tU32 tS30) ?_
 refine JA.tk 1 rfl fx28 (q3 tA30 (Blk.atC 0 rfl)) ?_
 refine JA.tk 2 rfl fx28 (q16 (off' := off) tU30 tS32) ?_
 refine JA.tk 3 rfl fx28 (yl_loadAgg rfl rfl tA32 tS32 (Blk.immC hbl_7) hca rfl) ?_
 refine JA.tk 5 rfl fx28 (q2 (off' := 4) tU32 tS30) ?_
 refine JA.tk 6 rfl fx28 (q3 tA30 (Blk.atC 0 rfl)) ?_
 refine JA.tk 7 rfl fx28 (q16 (off' := off + 5) tU30 tS32) ?_
 refine JA.tk 8 rfl fx28 (yl_loadAgg rfl rfl tA32 tS32 (Blk.immC hbl_7) hcb rfl) ?_
 refine q4 4 rfl (op_pure rfl rfl rfl rfl rfl (ih qa hsz2.1 pa ca _ hpa (by omega) (by omega)) ?_)
 refine ⟨⟨(Le.refl _), (HSub.c 0 rfl HSub.n), CSub.n⟩, ?_⟩
 refine q4 9 rfl (op_pure rfl rfl rfl rfl rfl (ih qb hsz2.2 pb cb _ hpb (by omega) (by omega)) ?_)
 refine ⟨⟨(Le.refl _), (HSub.c 0 rfl HSub.n), CSub.n⟩, ?_⟩
 refine JA.fix ⟨(HSub.c 0 rfl HSub.n), CSub.n, (Le.refl _)⟩ (fun fx29 => ?_)
 refine JA.tk 10 rfl fx29 q1 ?_
 refine JA.tk 11 rfl fx29 q1 ?_
 refine q8 ?_
 refine Ej.seq (Cj.seq (Cj.sr (J.z q0 ?_)))
 refine J.z q0 ?_
 refine J.z (yl_min2 rfl rfl rfl) ?_
 refine J.eqv 63 rfl (show _ = i64 (min (Cq.deep qa) (Cq.deep qb)) from (by congr 1; omega)) ?_
 refine J.z q18 ?_
 refine J.cd (fun hc30 => ?_) (fun hc30 => ?_)
 ·have hc30p := odt hc30
  refine Cj.sr (J.z q1 ?_)
  refine J.ns (Cj.rs (Ej.bare ?_))
  refine q5 ?_
  rw [hdt, if_pos (by omega)]; exact ⟨rfl, rfl⟩
 have hc30p := odf hc30
 refine Cj.ks (Cj.seq (Cj.sr (J.z (q2 (off' := 4) tU32 tS30) ?_)))
 refine J.z (q3 tA30 (Blk.at 0 rfl)) ?_
 refine J.z (q16 (off' := off + 5) tU30 tS32) ?_
 refine J.z (q2 tU32 tS3) ?_
 refine J.z (yl_load rfl rfl tA3 (Blk.imm hbl) hkb) ?_
 refine J.z (yl_neq rfl rfl rfl) ?_
 refine J.cd (fun hc31 => ?_) (fun hc31 => ?_)
 ·have hc31p := bne_iff_ne.1 hc31
  have hku : Cq.up qb.k = 1 := by have h := hc31; simp at h; simp [Cq.up, h]
  refine Cj.region (J.z q0 ?_)
  refine J.z (yl_add rfl rfl rfl (w64 (by omega))) ?_
  refine J.z q1 ?_
  refine J.nssr (J.z q0 ?_)
  refine J.z q0 ?_
  refine J.z (yl_max2 rfl rfl rfl) ?_
  refine J.eqv 75 rfl (show _ = i64 (max (Cq.deep qa) (Cq.deep qb + 1)) from (by congr 1; omega)) ?_
  refine J.z q1 ?_
  refine J.ns (Cj.ret (Ej.bare ?_))
  refine q5 ?_
  refine ⟨?_, rfl⟩
  rw [hdt, if_neg (by omega), hku]
  simp
 have hc31p := bne_f hc31
 have hku : Cq.up qb.k = 0 := by have h := hc31; simp at h; simp [Cq.up, h]
 refine Cj.ks (Cj.sr (J.z q0 ?_))
 refine J.z q0 ?_
 refine J.z (yl_max2 rfl rfl rfl) ?_
 refine J.eqv 75 rfl (show _ = i64 (max (Cq.deep qa) (Cq.deep qb)) from (by congr 1; omega)) ?_
 refine J.z q1 ?_
 refine J.ns (Cj.ret (Ej.bare ?_))
 refine q5 ?_
 refine ⟨?_, rfl⟩
 rw [hdt, if_neg (by omega), hku]
 simp
theorem deep_ok (q : Cq.Qn) : DeepSpec q := by
  suffices ∀ n (q : Cq.Qn), q.size < n → DeepSpec q from this _ q (Nat.lt_succ_self _)
  intro n
  induction n with
  | zero => intro q h; omega
  | succ n ih => intro q h; exact deep_step q fun q' h' => ih q' (by omega)
theorem cRight_ok (q : Cq.Qn) (p : Option Addr) (c : Nat) (hsz : q.size ≤ 1000000000) (hwd : q.wide ≤ 1000000000) (I : Heap) (hps : PS I q.ps p) : Pure Tryz.prog 21 [.agg (qCells q p c).toArray] I (.bool (Cq.right q)) := by
 refine Ctr.toPure ?_
 refine Ctr.ob func21 ?_
 intro w0 hw0
 refine Cj.sr (J.op rfl (q15 ?_))
 intro b1 hb1
 refine J.z q1 ?_
 refine J.nssr (J.z (q10 tA32 tS32 (Blk.at 0 rfl)) ?_)
 refine J.op rfl (op_pure rfl rfl rfl rfl rfl (deep_ok q p c _ hps hsz hwd) ?_)
 refine J.z q1 ?_
 refine J.nssr (J.z q0 ?_)
 refine J.z (yl_geq rfl rfl rfl) ?_
 refine J.z q0 ?_
 refine J.split 8 rfl (fun hg2 => ?_) (fun hg2 => ?_)
 ·refine q13 2 8 true hg2 (q7 q0 ?_)
  refine q13 2 8 true hg2 (q7 (yl_leq rfl rfl rfl) ?_)
  refine J.z (q22 hg2) ?_
  refine J.z q1 ?_
  refine J.ns (Cj.ret (Ej.bare ?_))
  refine q5 ?_
  refine ⟨?_, rfl⟩
  rw [← Cq.deep_right]
  simp_all <;> omega
 refine q12 2 8 9 true hg2 ?_
 refine q12 2 8 10 true hg2 ?_
 refine J.z (q23 hg2) ?_
 refine J.z q1 ?_
 refine J.ns (Cj.ret (Ej.bare ?_))
 refine q5 ?_
 refine ⟨?_, rfl⟩
 rw [← Cq.deep_right]
 simp_all <;> omega
structure TF where
  vis : ML Ix.Rec
  rest : ML Ix.Rec
  g : Gs
def fnd (L : Ix.Ix) (vis : ML Ix.Rec) : List FW := (vis.map (·.1)).map fun t => (Ix.sortOf L t, t)
theorem fnd_next (L : Ix.Ix) (vis : ML Ix.Rec) (x : Ix.Rec × Value × Nat) : fnd L (vis ++ [x]) = fnd L vis ++ [(Ix.sortOf L x.1, x.1)] := by
  unfold fnd; rw [List.map_append, List.map_append]; rfl
theorem fnd_len (L : Ix.Ix) (vis : ML Ix.Rec) : (fnd L vis).length = vis.length := by unfold fnd; rw [List.length_map, List.length_map]
theorem isRun_none {L : Ix.Ix} {q : Cq.Qn} (hf : Cq.form q = true) (h : ∀ t, Ix.sat L q t = false) : Ix.IsRun L q [] :=
  Ix.isRun_of hf List.Pairwise.nil fun t => by rw [h t]; simp
theorem isRun_some {L : Ix.Ix} {q : Cq.Qn} (hf : Cq.form q = true) {m : ML Ix.Rec} {k : Nat} (hm : SetM m k (Ix.sat L q)) {vis : ML Ix.Rec} (hp : vis.Perm m) {ls : List FW} (hpp : ls.Perm (fnd L vis)) (ho : ls.Pairwise fun p q => ¬ lessF q p) : Ix.IsRun L q (ls.map (·.2)) := by
  have hn : (vis.map (·.1)).Nodup := ((hp.map _).nodup_iff.2 hm.1.1)
  obtain ⟨h1, h2⟩ := found_run hn hpp ho
  exact Ix.isRun_of hf h1 fun t => by rw [h2, (hp.map _).mem_iff, hm.mem]
theorem run_next {ls : List FW} {k : Nat} {x : FW} (h : ls[k]? = some x) : (ls.take (k + 1)).map (·.2) = (ls.take k).map (·.2) ++ [x.2] := map_take_next _ h
theorem perm_nil3 {ls : List FW} (h : ls.Perm []) : ls = [] := h.eq_nil
theorem RunG_ok (xv : Value) (L : Ix.Ix) (q : Cq.Qn) (p : Option Addr) (c : Nat) (hsz : q.size ≤ 1000000000) (hwd : q.wide ≤ 10000000) (hR : Cq.right q = true) (htk : Ix.TOK L) (I : Heap) (hps : PS I q.ps p) (hx : IxV I xv L) (hT : STab I) : Ctr Tryz.prog 18 [xv, .agg (qCells q p c).toArray] I []
    (fun e _ H' => ∃ (r : List Ix.Rec) (g : Gs), Ix.IsRun L q r ∧ gOk 0 2 r.length (r.flatMap recC) g ∧ e = .returned (.tuple #[gV r.length g, i64 0]) ∧ H' = gH 54 (r.flatMap recC) g) := by
 have hform : Cq.form q = true := by unfold Cq.right at hR; rw [Bool.and_eq_true] at hR; exact hR.1
 have hbig := hx.big
 refine Ctr.ob func18 ?_
 intro w0 hw0
 refine Cj.sr (J.op rfl (q15 ?_))
 intro b1 hb1
 refine J.z q1 ?_
 refine J.z q1 ?_
 refine J.nsss (Cj.region (J.z (q10 tA32 tS32 (Blk.at 0 rfl)) ?_))
 refine J.op rfl (op_pure rfl rfl rfl rfl rfl (cRight_ok q p c hsz (by omega) _ hps) ?_)
 refine J.eqv 12 rfl (show _ = .bool true from (congrArg Value.bool hR)) ?_
 refine J.z (yl_not rfl rfl) ?_
 refine J.ns (Cj.cond rfl (fun hc2 => Bool.noConfusion (Eq.trans (Eq.symm (congrArg not rfl)) hc2)) (fun hc2 => ?_))
 refine Cj.ks (Cj.sr (J.z q1 ?_))
 refine J.nsss (Cj.region (J.z q0 ?_))
 refine J.z (q10 tA32 tS32 (Blk.at 0 rfl)) ?_
 refine J.op rfl (op_call (H1 := []) rfl rfl rfl rfl rfl (satisfy_ok xv L htk q p c _ hps hx hT hwd hform) ?_ (fun _ _ _ _ ⟨_, h, _⟩ => by cases h) (fun _ _ ⟨_, h, _⟩ => by cases h))
 intro v3 I4 H5 hle6 hp7
 have hx := hx.mono hle6
 obtain ⟨ws, h, hset, rfl⟩ := hp7; cases h
 rcases id hset with ⟨rfl, hS⟩ | ⟨sb, sm, sk, rfl, hm, hsb⟩
 ·

  refine J.op rfl (op_rangeNil rfl rfl rfl rfl tU120 ?_)
  intro b8 hb8
  refine J.ns (Cj.block (Cj.rounds 1 ?_))
  refine Rj.succ ?_
  refine Cj.sr (J.op rfl (op_nextNil 0 rfl rfl rfl rfl rfl ?_))
  refine J.z q11 ?_
  refine J.nss (Cj.cond rfl (fun hc9 => Bool.noConfusion (Eq.trans (Eq.symm rfl) hc9)) (fun hc9 => ?_))
  refine Cj.exit (Ej.seqExit (Ej.seqExit (Ej.blkExit (Ej.seq (Cj.sr (J.z q0 ?_))))))
  refine J.op rfl (op_callR (H1 := []) [_, _] rfl rfl rfl rfl rfl rfl (SortFound_ok (base := 0) [] none ⟨rfl, rfl⟩ (by decide) _) ?_ (fun _ _ _ _ ⟨_, _, _, h, _⟩ => by cases h) (fun _ _ ⟨_, _, _, h, _⟩ => by cases h))
  rintro v9 I9 H9 hle9 ⟨ls, hpp, hpo, h, rfl⟩; cases h
  have hls := perm_nil3 hpp
  subst hls
  have hrun : Ix.IsRun L q (([] : List FW).map (·.2)) := isRun_none hform hS
  refine J.nssr (J.z q1 ?_)
  refine J.nsss (Cj.region (J.z q0 ?_))
  refine J.z (q14 tU118) ?_
  refine J.z q0 ?_
  refine J.ns (Cj.block (Cj.rounds 1 ?_))
  refine Rj.succ ?_
  refine Cj.sr (J.z q18 ?_)
  refine J.nss (Cj.cond rfl (fun hc10 => Bool.noConfusion (Eq.trans (Eq.symm (by first | rfl | decide)) hc10)) (fun hc10 => ?_))
  refine Cj.exit (Ej.seqExit (Ej.seqExit (Ej.blkExit (Ej.seq (Cj.sr (J.z q0 ?_))))))
  refine J.z q1 ?_
  refine J.z q1 ?_
  refine J.ns (Cj.ret (Ej.bare ?_))
  refine q20 ?_
  exact ⟨_, none, hrun, ⟨rfl, rfl⟩, rfl, rfl⟩
 have hml : sm.length ≤ 100000 := by
   have h9 := hm.len (l := L.map (·.1)) fun t ht => Ix.sat_in L _ q (Nat.lt_succ_self _) hform ht
   rw [List.length_map] at h9
   omega
 refine J.op rfl (op_rangeMap (kv := kvR) (l := sm) rfl rfl rfl rfl tU120 (Blk.imm hsb) ?_)
 intro b11 hb11
 refine J.ns (Cj.block (Cj.keep (Keeps.k (Keeps.d Keeps.n)) ?_))
 refine Cj.loop (ι := TF) (fun y => (y.vis ++ y.rest).Perm sm ∧ gOk w0.heap.size 3 (fnd L y.vis).length ((fnd L y.vis).flatMap foundC) y.g) (fun y => y.rest.length) (fun y => [(0, xv), (6, gV (fnd L y.vis).length y.g), (17, ptr b11 0)]) (fun y => _) (fun y => (b11, mit sb sk y.vis sk) :: gH 123 ((fnd L y.vis).flatMap foundC) y.g) ⟨[], sm, none⟩ ⟨.refl _, rfl, rfl⟩ ⟨rfl, rfl, rfl, trivial⟩ rfl rfl ?_
 rintro ⟨vis, rest, g⟩ ⟨hp, hg⟩
 dsimp only at hp hg ⊢
 have hpl0 := hp.length_eq
 rw [List.length_append] at hpl0
 have hfl := fnd_len L vis
 refine Cj.sr (J.op rfl (op_nextMap (kv := kvR) (l := sm) 0 rfl rfl rfl rfl rfl (Blk.imm hsb) hm.1.2.2 (Nat.le_refl _) hm.1.2.1 hp ?_ ?_))
 ·rintro x rest2 H9 hrx hpx ⟨-, hset⟩; simp only [List.set_cons_zero] at hset; subst hset
  have hxm : x ∈ sm := hpx.mem_iff.1 (List.mem_append_left _ (List.mem_append_right _ (.head _)))
  refine J.z q11 ?_
  refine J.nss (Cj.cond rfl (fun hc12 => ?_) (fun hc12 => Bool.noConfusion (Eq.trans (Eq.symm rfl) hc12)))
  refine Cj.ks (Cj.block (Cj.sr (J.z (yl_entry (kv := kvR) (l := sm) rfl rfl (Blk.at 0 rfl) (Blk.imm hsb) hxm hm.1.2.1) ?_)))
  refine J.z q11 ?_
  refine J.op rfl (q21 tZ54 ?_)
  intro b13 hb13
  refine J.op rfl (q9 0 tS54 (LSpl.c (LSpl.c LSpl.z)) LSet.z ?_)
  refine J.ns (Cj.drawSel [0, 1] [] 9 (by kernel_rfl) ?_)
  have hsb_7 := hsb
  refine JA.fix ⟨(HSub.c 0 rfl (HSub.c 1 rfl HSub.n)), CSub.n, (Le.refl _)⟩ (fun fx14 => ?_)
  refine JA.tk 0 rfl fx14 q0 ?_
  refine JA.tk 1 rfl fx14 q0 ?_
  refine JA.tk 2 rfl fx14 (q10 tA54 tS54 (Blk.atC 0 rfl)) ?_
  refine JA.tk 4 rfl fx14 (q10 tA54 tS54 (Blk.atC 0 rfl)) ?_
  refine q4 3 rfl (op_pure rfl rfl rfl rfl rfl (SortV_ok xv L x.1 _ hx) ?_)
  refine ⟨⟨(Le.refl _), (HSub.c 0 rfl (HSub.c 1 rfl HSub.n)), CSub.n⟩, ?_⟩
  refine JA.fix ⟨(HSub.c 0 rfl (HSub.c 1 rfl HSub.n)), CSub.n, (Le.refl _)⟩ (fun fx15 => ?_)
  refine JA.tk 5 rfl fx15 (yl_buildS (pl := #[(0, 1), (1, 2)]) rfl rfl zeroValue123 rfl tU123 (fun w => by simp []) (LBld.part rfl rfl rfl (LSpl.c LSpl.z) (LBld.part rfl rfl rfl (LSpl.s (LSpl.c (LSpl.c LSpl.z))) LBld.none))) ?_
  refine q4 6 rfl (q17 tU118 sizeOf123 zeroValue123 (LCat.agg rfl LCat.none) ?_)
  intro b16 hb16
  refine ⟨⟨(Le.refl _), (HSub.c 1 rfl (HSub.c 2 rfl HSub.n)), CSub.n⟩, ?_⟩
  refine q4 7 rfl (op_append (by' := 31) [_, _, _] rfl rfl rfl rfl rfl tU118 (.inr ⟨_, tU118⟩) (by kernel_rfl) sizeOf123 zeroValue123 rfl hg rfl (Src.slice (Blk.at 0 rfl) rfl rfl rfl) (by omega) ?_)
  intro g17 hg17
  refine ⟨⟨(Le.refl _), (HSub.c 1 rfl (HSub.c 2 rfl HSub.n)), CSub.n⟩, ?_⟩
  refine JA.fix ⟨(HSub.c 1 rfl (HSub.c 2 rfl HSub.n)), CSub.n, (Le.refl _)⟩ (fun fx18 => ?_)
  refine JA.tk 8 rfl fx18 q1 ?_
  refine q8 ?_
  refine Ej.blkNormal (Ej.keep (Keeps.d (Keeps.d (Keeps.k Keeps.r))) ?_)
  refine Ej.round ⟨vis ++ [x], rest2, g17⟩ ⟨hpx, by dsimp only; rw [fnd_next, List.length_append, List.flatMap_append]; exact hg17⟩ (by have h := hrx.length_eq; simp only [List.length_cons] at h; dsimp only; omega) ⟨rfl, by dsimp only; rw [fnd_next, List.length_append]; rfl, rfl, trivial⟩ rfl (by dsimp only; rw [fnd_next, List.flatMap_append]; rfl)
 intro hend
 have hpv : vis.Perm sm := by rw [hend, List.append_nil] at hp; exact hp
 refine J.z q11 ?_
 refine J.nss (Cj.cond rfl (fun hc19 => Bool.noConfusion (Eq.trans (Eq.symm rfl) hc19)) (fun hc19 => ?_))
 refine Cj.xl (Cj.sr (J.z q0 ?_))
 refine J.op rfl (op_callR (H1 := gH 123 ((fnd L vis).flatMap foundC) g) [_] rfl rfl rfl rfl rfl rfl (SortFound_ok (fnd L vis) g hg (by omega) _) ?_ (fun _ _ _ _ ⟨_, _, _, h, _⟩ => by cases h) (fun _ _ ⟨_, _, _, h, _⟩ => by cases h))
 rintro v9 I9 H9 hle9 ⟨ls, hpp, hpo, h, rfl⟩; cases h
 have hll : (fnd L vis).length = ls.length := hpp.length_eq.symm
 have hgl : gOk w0.heap.size 3 ls.length (ls.flatMap foundC) g := by rw [← hll]; exact gOk_len hg (by rw [flat_len foundC_len, flat_len foundC_len, hll])
 have hrun := isRun_some hform hm hpv hpp hpo
 refine J.nss (Cj.perm (H' := gH 123 (ls.flatMap foundC) g ++ [_]) List.perm_append_comm ?_)
 refine Cj.keepR (f := foundC) foundC_len (by decide) hgl rfl (fun I8 hle8 hv => ?_)
 obtain ⟨pv, cv, hve⟩ := rowS_len hv
 refine Cj.eqv 6 rfl (show _ = .slice pv ls.length cv from by rw [hll]; exact hve) ?_
 rw [hve] at hv
 refine Cj.region (J.z q1 ?_)
 refine J.nsss (Cj.region (J.z q0 ?_))
 refine J.z (q14 tU118) ?_
 refine J.z q0 ?_
 refine J.ns (Cj.block (Cj.keep (Keeps.d Keeps.n) ?_))
 refine Cj.loop (ι := Nat × Gs) (fun y => y.1 ≤ ls.length ∧ gOk w0.heap.size 2 ((ls.take y.1).map (·.2)).length (((ls.take y.1).map (·.2)).flatMap recC) y.2) (fun y => ls.length - y.1) (fun y => [(8, gV ((ls.take y.1).map (·.2)).length y.2), (32, .slice pv ls.length cv), (33, i64 (ls.length : Int)), (34, i64 (y.1 : Int))]) (fun y => _) (fun y => gH 54 (((ls.take y.1).map (·.2)).flatMap recC) y.2) (0, none) ⟨Nat.zero_le _, rfl, rfl⟩ ⟨rfl, rfl, rfl, rfl, trivial⟩ rfl rfl ?_
 clear hg
 rintro ⟨j, g⟩ ⟨hj, hg⟩
 dsimp only at hj hg ⊢
 have hrl : ((ls.take j).map (·.2)).length = j := by rw [List.length_map, List.length_take]; omega
 refine Cj.sr (J.z q18 ?_)
 refine J.nss (Cj.cond rfl (fun hc20 => ?_) (fun hc20 => ?_))
 ·have hc20p := odt hc20
  have hlt : j < ls.length := by omega
  obtain ⟨x, hget⟩ : ∃ x, ls[j]? = some x := ⟨_, lgg hlt⟩
  obtain ⟨p1, c1, hpe, hc1, hp1⟩ := id hv
  cases hpe
  obtain ⟨fb, fo, fcs, fty, ffr, fsp, rfl, hfb, hfd⟩ := hp1 (ne_nil_of hlt)
  refine Cj.ks (Cj.seq (Cj.block (Cj.sr (J.z (q16 (off' := fo + j * 3) tU118 sizeOf123) ?_))))
  refine J.z (yl_loadAgg rfl rfl isAgg123 sizeOf123 (Blk.imm hfb) (row_from foundC_len hfd hget) rfl) ?_
  refine J.op rfl (q21 zeroValue123 ?_)
  intro b21 hb21
  refine J.op rfl (q9 0 sizeOf123 (LSpl.c (LSpl.c (LSpl.c LSpl.z))) LSet.z ?_)
  refine J.nsr (J.z q0 ?_)
  refine J.z (q2 (off' := 1) tU123 tS54) ?_
  refine J.z (q10 tA54 tS54 (Blk.at 0 rfl)) ?_
  refine J.op rfl (q17 tU36 tS54 tZ54 (LCat.agg rfl LCat.none) ?_)
  intro b22 hb22
  refine J.op rfl (op_append (by' := 15) [_, _] rfl rfl rfl rfl rfl tU36 (.inr ⟨_, tU36⟩) (by kernel_rfl) tS54 tZ54 rfl hg rfl (Src.slice (Blk.at 0 rfl) rfl rfl rfl) (by omega) ?_)
  intro g23 hg23
  refine J.z q1 ?_
  refine J.nb (Cj.region (J.z (yl_add rfl rfl rfl (w64 (by omega))) ?_))
  refine J.z q0 ?_
  refine J.nil (Ej.keep (Keeps.d (Keeps.d Keeps.r)) ?_)
  refine Ej.round (j + 1, g23) ⟨by dsimp only; omega, by dsimp only; rw [run_next hget, List.length_append, List.flatMap_append]; exact hg23⟩ (by dsimp only; omega) ⟨by dsimp only; rw [run_next hget, List.length_append]; rfl, rfl, rfl, rfl, trivial⟩ rfl (by dsimp only; rw [run_next hget, List.flatMap_append]; rfl)
 have hc20p := odf hc20
 refine Cj.xl (Cj.sr (J.z q0 ?_))
 refine J.z q1 ?_
 refine J.z q1 ?_
 refine J.ns (Cj.ret ?_)
 rw [List.take_of_length_le (by omega : ls.length ≤ j)] at hg ⊢
 refine q20 ?_
 exact ⟨_, g, hrun, gOk_zero hg, rfl, rfl⟩
theorem Run_ok (xv : Value) (L : Ix.Ix) (q : Cq.Qn) (p : Option Addr) (c : Nat) (hsz : q.size ≤ 1000000000) (hwd : q.wide ≤ 10000000) (hR : Cq.right q = true) (htk : Ix.TOK L) (I : Heap) (hps : PS I q.ps p) (hx : IxV I xv L) (hT : STab I) : Ctr Tryz.prog 18 [xv, .agg (qCells q p c).toArray] I []
    (fun e _ H' => ∃ (w : Value) (r : List Ix.Rec), e = .returned (.tuple #[w, i64 0]) ∧ Ix.IsRun L q r ∧ OwnT r w H') :=
  (RunG_ok xv L q p c hsz hwd hR htk I hps hx hT).mono fun _ _ _ _ ⟨r, g, h1, h2, h3, h4⟩ => ⟨_, r, h3, h1, by rw [h4]; exact own_g rfl h2⟩
