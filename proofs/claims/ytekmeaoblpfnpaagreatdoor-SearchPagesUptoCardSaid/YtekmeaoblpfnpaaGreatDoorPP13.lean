/-
  Own texts on the laws of the seat, joined: the logic, and contracts of functions. Conditions: none.
-/
import Derived.Test.YtekmeaoblpfnpaaGreatDoorNmP
import Derived.Test.YtekmeaoblpfnpaaGreatDoorPP12
set_option maxRecDepth 100000
set_option maxHeartbeats 40000000
set_option maxRecDepth 100000
set_option maxHeartbeats 40000000
namespace Go.Proofs.YtekmeaoblpfnpaaGreatDoor
open _root_.Go.Proofs.Tryz
open Go Go.Sx
structure TC where
  vis : ML Ix.Rec
  rest : ML Ix.Rec
  l : ML Ix.Rec
  c : Nat
theorem of_ok (ls : List LR) (v : Value) (hll : ls.length ≤ 1000000000000) (hlen : ∀ x ∈ ls, x.1.length ≤ 1000000) (I : Heap) (hls : LLS I ls v) : Ctr Tryz.prog 152 [v] I [] (fun e _ H' => ∃ w, e = .returned w ∧ OwnS w (inL (ls.flatMap (·.1))) H') := by
 obtain ⟨⟨p, c, rfl, hc, hp⟩, hrs⟩ := hls
 refine Ctr.ob func152 ?_
 intro w0 hw0
 refine Cj.sr (J.z q1 ?_)
 refine J.nssr (J.op rfl (op_makeMap rfl rfl rfl ?_))
 intro b1 hb1
 refine J.z q1 ?_
 refine J.nsss (Cj.region (J.z q0 ?_))
 refine J.z (q14 tU225) ?_
 refine J.z q0 ?_
 refine J.ns (Cj.block (Cj.loop (ι := Nat × ML Ix.Rec × Nat) (fun y => y.1 ≤ ls.length ∧ SetM y.2.1 y.2.2 (inL ((ls.take y.1).flatMap (·.1)))) (fun y => ls.length - y.1) (fun y => [(3, .map (some b1)), (9, .slice p ls.length c), (10, i64 (ls.length : Int)), (11, i64 (y.1 : Int))]) (fun y => _) (fun y => [(b1, mobj kvR y.2.1 y.2.2)]) (0, [], 0) ⟨Nat.zero_le _, SetM.nil⟩ ⟨rfl, rfl, rfl, rfl, trivial⟩ rfl rfl ?_))
 rintro ⟨i, l, cc⟩ ⟨hi, hM⟩
 dsimp only at hi hM ⊢
 refine Cj.sr (J.z q18 ?_)
 refine J.nss (Cj.cond rfl (fun hc2 => ?_) (fun hc2 => ?_))
 ·have hc2p := odt hc2
  have hlt : i < ls.length := by omega
  obtain ⟨⟨xs, xv⟩, hget⟩ : ∃ x, ls[i]? = some x := ⟨_, lgg hlt⟩
  obtain ⟨fb, fo, fcs, fty, ffr, fsp, rfl, hfb, hfd⟩ := hp (ne_nil_of hlt)
  have hx2 := hrs _ (lmg hget)
  obtain ⟨p2, c2, hxe, hc2, hp2⟩ := id hx2
  dsimp only at hxe hc2 hp2
  subst hxe
  have hxl := hlen _ (lmg hget)
  dsimp only at hxl
  refine Cj.skip (Ej.seq (Cj.seq (Cj.block (Cj.sr (J.z (q16 (off' := fo + i) tU225 tS36) ?_)))))
  refine J.z (yl_load rfl rfl isAgg36 (Blk.imm hfb) (sl_of_row hfd hget)) ?_
  refine J.z q1 ?_
  refine J.nssr (J.z q0 ?_)
  refine J.z (q14 tU36) ?_
  refine J.z q0 ?_
  refine J.ns (Cj.block (Cj.loop (ι := Nat × ML Ix.Rec × Nat) (fun y => y.1 ≤ xs.length ∧ SetM y.2.1 y.2.2 (inL (((ls.take i).flatMap (·.1)) ++ xs.take y.1))) (fun y => xs.length - y.1) (fun y => [(3, .map (some b1)), (9, .slice (some ⟨fb, fo, none⟩) ls.length c), (10, i64 (ls.length : Int)), (11, i64 (i : Int)), (15, .slice p2 xs.length c2), (16, i64 (xs.length : Int)), (17, i64 (y.1 : Int))]) (fun y => _) (fun y => [(b1, mobj kvR y.2.1 y.2.2)]) (0, _, _) ⟨Nat.zero_le _, by rw [List.take_zero, List.append_nil]; exact hM⟩ ⟨rfl, rfl, rfl, rfl, rfl, rfl, rfl, trivial⟩ rfl rfl ?_))
  clear hM
  rintro ⟨j, l, cc⟩ ⟨hj, hM⟩
  dsimp only at hj hM ⊢
  refine Cj.sr (J.z q18 ?_)
  refine J.nss (Cj.cond rfl (fun hc3 => ?_) (fun hc3 => ?_))
  ·have hc3p := odt hc3
   have hlj : j < xs.length := by omega
   obtain ⟨y, hgy⟩ : ∃ y, xs[j]? = some y := ⟨_, lgg hlj⟩
   obtain ⟨qb, qo, qcs, qty, qfr, qsp, rfl, hqb, hqd⟩ := hp2 (ne_nil_of hlj)
   refine Cj.skip (Ej.seq (Cj.seq (Cj.block (Cj.sr (J.z (q16 (off' := qo + j * 2) tU36 tS54) ?_)))))
   refine J.z (yl_loadAgg rfl rfl tA54 tS54 (Blk.imm hqb) (row_from recC_len hqd hgy) rfl) ?_
   refine J.op rfl (q21 tZ54 ?_)
   intro b4 hb4
   refine J.op rfl (q9 0 tS54 (LSpl.c (LSpl.c LSpl.z)) LSet.z ?_)
   refine J.nsr (J.z q0 ?_)
   refine J.z (q10 tA54 tS54 (Blk.at 0 rfl)) ?_
   refine J.op rfl (op_insert (kv := kvR) (a := y) 1 (.inr rfl) rfl rfl rfl rfl rfl tU120 keyR rfl (LSet.s LSet.z) ?_)
   refine J.nil (Ej.blkNormal (Ej.seq (Cj.region (J.z (yl_add rfl rfl rfl (w64 (by omega))) ?_))))
   refine J.z q0 ?_
   refine J.nil (Ej.keep (Keeps.d (Keeps.k Keeps.n)) ?_)
   refine Ej.round (j + 1, _, _) ⟨by dsimp only; omega, by dsimp only; rw [rec_next hgy]; exact hM.push y⟩ (by dsimp only; omega) ⟨rfl, rfl, rfl, rfl, rfl, rfl, rfl, trivial⟩ rfl rfl
  have hc3p := odf hc3
  refine Cj.exit (Ej.seqExit (Ej.loopExit (Ej.blkExit (Ej.blkNormal (Ej.seq (Cj.region (J.z (yl_add rfl rfl rfl (w64 (by omega))) ?_)))))))
  refine J.z q0 ?_
  refine J.nil (Ej.round (i + 1, _, _) ⟨by dsimp only; omega, by dsimp only; rw [lr_next hget]; rw [List.take_of_length_le (by omega : xs.length ≤ j)] at hM; exact hM⟩ (by dsimp only; omega) ⟨rfl, rfl, rfl, rfl, trivial⟩ rfl rfl)
 have hc2p := odf hc2
 refine Cj.exit (Ej.seqExit (Ej.loopExit (Ej.blkExit (Ej.seq (Cj.sr (J.z q0 ?_))))))
 refine J.z q1 ?_
 refine J.ns (Cj.ret ?_)
 rw [List.take_of_length_le (by omega : ls.length ≤ i)] at hM
 refine q5 ?_
 exact ⟨_, rfl, b1, l, cc, rfl, hM, rfl⟩
theorem only_some (mb : Nat) (m : ML Ix.Rec) (k : Nat) (S P : Ix.Rec → Bool) (g : Nat) (cap : List Value) (hm : SetM m k S) (I : Heap) (hmb : I mb = some (mobj kvR m k)) (hcl : ∀ t, S t = true → Pure Tryz.prog g (kvR t :: cap) I (.bool (P t))) : Ctr Tryz.prog 103 [.map (some mb), .func (.func g) #[] cap.toArray] I [] (fun e _ H' => ∃ w, e = .returned w ∧ OwnS w (fun t => S t && P t) H') := by
 have hms := hm.1
 refine Ctr.ob func103 ?_
 intro w0 hw0
 refine Cj.sr (J.z q1 ?_)
 refine J.nssr (J.op rfl (op_makeMap rfl rfl rfl ?_))
 intro b1 hb1
 refine J.z q1 ?_
 refine J.nsss (Cj.region (J.z q0 ?_))
 refine J.op rfl (op_rangeMap (kv := kvR) (l := m) rfl rfl rfl rfl tU120 (Blk.imm hmb) ?_)
 intro b2 hb2
 refine J.ns (Cj.block (Cj.loop (ι := TC) (fun y => (y.vis ++ y.rest).Perm m ∧ SetM y.l y.c (onlyS y.vis P)) (fun y => y.rest.length) (fun y => [(1, .func (.func g) #[] cap.toArray), (5, .map (some b1)), (9, ptr b2 0)]) (fun y => _) (fun y => [(b2, mit mb k y.vis k), (b1, mobj kvR y.l y.c)]) ⟨[], m, [], 0⟩ ⟨.refl _, SetM.nil.congr fun _ => rfl⟩ ⟨rfl, rfl, rfl, trivial⟩ rfl rfl ?_))
 rintro ⟨vis, rest, l, cc⟩ ⟨hp, hM⟩
 dsimp only at hp hM ⊢
 refine Cj.sr (J.op rfl (op_nextMap (kv := kvR) (l := m) 0 rfl rfl rfl rfl rfl (Blk.imm hmb) hms.2.2 (Nat.le_refl _) hms.2.1 hp ?_ ?_))
 ·rintro x rest2 H9 hrx hpx ⟨-, hset⟩; simp only [List.set_cons_zero] at hset; subst hset
  have hxm : x ∈ m := hpx.mem_iff.1 (List.mem_append_left _ (List.mem_append_right _ (.head _)))
  have hSx : S x.1 = true := (hm.mem x.1).1 (List.mem_map_of_mem hxm)
  refine J.z q11 ?_
  refine J.nss (Cj.cond rfl (fun hc3 => ?_) (fun hc3 => Bool.noConfusion (Eq.trans (Eq.symm rfl) hc3)))
  refine Cj.skip (Ej.seq (Cj.block (Cj.sr (J.z (yl_entry (kv := kvR) (l := m) rfl rfl (Blk.at 0 rfl) (Blk.imm hmb) hxm hms.2.1) ?_))))
  refine J.z q11 ?_
  refine J.op rfl (q21 tZ54 ?_)
  intro b4 hb4
  refine J.op rfl (q9 0 tS54 (LSpl.c (LSpl.c LSpl.z)) LSet.z ?_)
  refine J.nssr (J.z q0 ?_)
  refine J.z (q10 tA54 tS54 (Blk.at 0 rfl)) ?_
  refine J.op rfl (op_pure rfl rfl rfl rfl rfl (hcl x.1 hSx) ?_)
  refine J.cd (fun hc16 => ?_) (fun hc16 => ?_)
  ·have hPx : P x.1 = true := hc16
   refine Cj.region (J.z q0 ?_)
   refine J.z (q10 tA54 tS54 (Blk.at 0 rfl)) ?_
   refine J.op rfl (op_insert (kv := kvR) (a := x.1) 2 (.inr rfl) rfl rfl rfl rfl rfl tU120 keyR rfl (LSet.s (LSet.s LSet.z)) ?_)
   refine J.nil (Ej.blkNormal (Ej.keep (Keeps.d (Keeps.k (Keeps.k Keeps.n))) ?_))
   refine Ej.round ⟨vis ++ [x], rest2, _, _⟩ ⟨hpx, hM.add x.1 (onlyS_yes hPx)⟩ (by have h := hrx.length_eq; simp only [List.length_cons] at h; dsimp only; omega) ⟨rfl, rfl, rfl, trivial⟩ rfl rfl
  have hPx : P x.1 = false := hc16
  refine Cj.skip (Ej.blkNormal (Ej.keep (Keeps.d (Keeps.k (Keeps.k Keeps.n))) ?_))
  refine Ej.round ⟨vis ++ [x], rest2, l, cc⟩ ⟨hpx, hM.congr fun t => (onlyS_no hPx t).symm⟩ (by have h := hrx.length_eq; simp only [List.length_cons] at h; dsimp only; omega) ⟨rfl, rfl, rfl, trivial⟩ rfl rfl
 intro hend
 have hpv : vis.Perm m := by rw [hend, List.append_nil] at hp; exact hp
 refine J.z q11 ?_
 refine J.nss (Cj.cond rfl (fun hc5 => Bool.noConfusion (Eq.trans (Eq.symm rfl) hc5)) (fun hc5 => ?_))
 refine Cj.exit (Ej.seqExit (Ej.loopExit (Ej.blkExit (Ej.seq (Cj.sr (J.z q0 ?_))))))
 refine J.z q1 ?_
 refine J.ns (Cj.ret (Ej.keep (Keeps.d (Keeps.k Keeps.n)) ?_))
 refine q5 ?_
 exact ⟨_, rfl, b1, l, cc, rfl, hM.congr (onlyS_all hm hpv), rfl⟩
theorem only_none (g : Nat) (cap : List Value) (S P : Ix.Rec → Bool) (hS : ∀ t, S t = false) (I : Heap) : Ctr Tryz.prog 103 [.map none, .func (.func g) #[] cap.toArray] I [] (fun e _ H' => ∃ w, e = .returned w ∧ OwnS w (fun t => S t && P t) H') := by
 refine Ctr.ob func103 ?_
 intro w0 hw0
 refine Cj.sr (J.z q1 ?_)
 refine J.nssr (J.op rfl (op_makeMap rfl rfl rfl ?_))
 intro b1 hb1
 refine J.z q1 ?_
 refine J.nsss (Cj.region (J.z q0 ?_))
 refine J.op rfl (op_rangeNil rfl rfl rfl rfl tU120 ?_)
 intro b2 hb2
 refine J.ns (Cj.block (Cj.rounds 1 ?_))
 refine Rj.succ ?_
 refine Cj.sr (J.op rfl (op_nextNil 0 rfl rfl rfl rfl rfl ?_))
 refine J.z q11 ?_
 refine J.nss (Cj.cond rfl (fun hc3 => Bool.noConfusion (Eq.trans (Eq.symm rfl) hc3)) (fun hc3 => ?_))
 refine Cj.exit (Ej.seqExit (Ej.seqExit (Ej.blkExit (Ej.seq (Cj.sr (J.z q0 ?_))))))
 refine J.z q1 ?_
 refine J.ns (Cj.ret (Ej.keep (Keeps.d (Keeps.k Keeps.n)) ?_))
 refine q5 ?_
 exact ⟨_, rfl, _, [], 0, rfl, SetM.nil.congr (fun t => by rw [hS t]; rfl), rfl⟩
theorem only_ok (v : Value) (S P : Ix.Rec → Bool) (g : Nat) (cap : List Value) (I : Heap) (h : SetV I v S) (hcl : ∀ t, S t = true → Pure Tryz.prog g (kvR t :: cap) I (.bool (P t))) : Ctr Tryz.prog 103 [v, .func (.func g) #[] cap.toArray] I [] (fun e _ H' => ∃ w, e = .returned w ∧ OwnS w (fun t => S t && P t) H') := by
  rcases h with ⟨rfl, hS⟩ | ⟨b, m, k, rfl, hm, hb⟩
  · exact only_none g cap S P hS I
  exact only_some b m k S P g cap hm I hb hcl
theorem shas_some (xb : Nat) (S : Ix.Rec → Bool) (mb : Nat) (m : ML Ix.Rec) (k : Nat) (hm : SetM m k S) (t : Ix.Rec) (I : Heap) (hxb : I xb = some (cel 120 [.map (some mb)])) (hmb : I mb = some (mobj kvR m k)) : Pure Tryz.prog 157 [kvR t, ptr xb 0] I (.bool (S t)) := by
 refine Ctr.toPure ?_
 have hget := hm.get t
 refine Ctr.ob func157 ?_
 intro w0 hw0
 refine Cj.sr (J.op rfl (q15 ?_))
 intro b1 hb1
 refine J.z q1 ?_
 refine J.nssr (J.z (q3 isAgg120 (Blk.imm hxb)) ?_)
 refine J.z (q10 tA54 tS54 (Blk.at 0 rfl)) ?_
 refine J.z (yl_lookup1 (kv := kvR) (l := m) (a := t) rfl rfl rfl rfl tU120 keyR tZ4 (Blk.imm hmb)) ?_
 refine J.eqv 6 rfl (show _ = .bool (S t) from hget) ?_
 refine J.z q1 ?_
 refine J.ns (Cj.ret (Ej.bare ?_))
 refine q5 ?_
 exact ⟨rfl, rfl⟩
theorem shas_none (xb : Nat) (S : Ix.Rec → Bool) (hS : ∀ t, S t = false) (t : Ix.Rec) (I : Heap) (hxb : I xb = some (cel 120 [.map none])) : Pure Tryz.prog 157 [kvR t, ptr xb 0] I (.bool (S t)) := by
 refine Ctr.toPure ?_
 have hget : Value.bool false = .bool (S t) := by rw [hS t]
 refine Ctr.ob func157 ?_
 intro w0 hw0
 refine Cj.sr (J.op rfl (q15 ?_))
 intro b1 hb1
 refine J.z q1 ?_
 refine J.nssr (J.z (q3 isAgg120 (Blk.imm hxb)) ?_)
 refine J.z (q10 tA54 tS54 (Blk.at 0 rfl)) ?_
 refine J.z (yl_lookupNil1 (kv := kvR) (a := t) rfl rfl rfl rfl tU120 keyR tZ4) ?_
 refine J.eqv 6 rfl (show _ = .bool (S t) from hget) ?_
 refine J.z q1 ?_
 refine J.ns (Cj.ret (Ej.bare ?_))
 refine q5 ?_
 exact ⟨rfl, rfl⟩
theorem shas_ok (xb : Nat) (v : Value) (S : Ix.Rec → Bool) (t : Ix.Rec) (I : Heap) (hxb : I xb = some (cel 120 [v])) (h : SetV I v S) : Pure Tryz.prog 157 [kvR t, ptr xb 0] I (.bool (S t)) := by
  rcases h with ⟨rfl, hS⟩ | ⟨b, m, k, rfl, hm, hb⟩
  · exact shas_none xb S hS t I hxb
  exact shas_some xb S b m k hm t I hxb hb
theorem and1_some (xb : Nat) (S : Ix.Rec → Bool) (mb : Nat) (m : ML Ix.Rec) (k : Nat) (hm : SetM m k S) (t : Ix.Rec) (I : Heap) (hxb : I xb = some (cel 120 [.map (some mb)])) (hmb : I mb = some (mobj kvR m k)) : Pure Tryz.prog 104 [kvR t, ptr xb 0] I (.bool (S t)) := by
 refine Ctr.toPure ?_
 have hget := hm.get t
 refine Ctr.ob func104 ?_
 intro w0 hw0
 refine Cj.sr (J.op rfl (q15 ?_))
 intro b1 hb1
 refine J.z q1 ?_
 refine J.nssr (J.z (q3 isAgg120 (Blk.imm hxb)) ?_)
 refine J.z (q10 tA54 tS54 (Blk.at 0 rfl)) ?_
 refine J.z (yl_lookup1 (kv := kvR) (l := m) (a := t) rfl rfl rfl rfl tU120 keyR tZ4 (Blk.imm hmb)) ?_
 refine J.eqv 6 rfl (show _ = .bool (S t) from hget) ?_
 refine J.z q1 ?_
 refine J.ns (Cj.ret (Ej.bare ?_))
 refine q5 ?_
 exact ⟨rfl, rfl⟩
theorem and1_none (xb : Nat) (S : Ix.Rec → Bool) (hS : ∀ t, S t = false) (t : Ix.Rec) (I : Heap) (hxb : I xb = some (cel 120 [.map none])) : Pure Tryz.prog 104 [kvR t, ptr xb 0] I (.bool (S t)) := by
 refine Ctr.toPure ?_
 have hget : Value.bool false = .bool (S t) := by rw [hS t]
 refine Ctr.ob func104 ?_
 intro w0 hw0
 refine Cj.sr (J.op rfl (q15 ?_))
 intro b1 hb1
 refine J.z q1 ?_
 refine J.nssr (J.z (q3 isAgg120 (Blk.imm hxb)) ?_)
 refine J.z (q10 tA54 tS54 (Blk.at 0 rfl)) ?_
 refine J.z (yl_lookupNil1 (kv := kvR) (a := t) rfl rfl rfl rfl tU120 keyR tZ4) ?_
 refine J.eqv 6 rfl (show _ = .bool (S t) from hget) ?_
 refine J.z q1 ?_
 refine J.ns (Cj.ret (Ej.bare ?_))
 refine q5 ?_
 exact ⟨rfl, rfl⟩
theorem and1_ok (xb : Nat) (v : Value) (S : Ix.Rec → Bool) (t : Ix.Rec) (I : Heap) (hxb : I xb = some (cel 120 [v])) (h : SetV I v S) : Pure Tryz.prog 104 [kvR t, ptr xb 0] I (.bool (S t)) := by
  rcases h with ⟨rfl, hS⟩ | ⟨b, m, k, rfl, hm, hb⟩
  · exact and1_none xb S hS t I hxb
  exact and1_some xb S b m k hm t I hxb hb
theorem not1_some (xb : Nat) (S : Ix.Rec → Bool) (mb : Nat) (m : ML Ix.Rec) (k : Nat) (hm : SetM m k S) (t : Ix.Rec) (I : Heap) (hxb : I xb = some (cel 120 [.map (some mb)])) (hmb : I mb = some (mobj kvR m k)) : Pure Tryz.prog 105 [kvR t, ptr xb 0] I (.bool (!S t)) := by
 refine Ctr.toPure ?_
 have hget := hm.get t
 refine Ctr.ob func105 ?_
 intro w0 hw0
 refine Cj.sr (J.op rfl (q15 ?_))
 intro b1 hb1
 refine J.z q1 ?_
 refine J.nssr (J.z (q3 isAgg120 (Blk.imm hxb)) ?_)
 refine J.z (q10 tA54 tS54 (Blk.at 0 rfl)) ?_
 refine J.z (yl_lookup1 (kv := kvR) (l := m) (a := t) rfl rfl rfl rfl tU120 keyR tZ4 (Blk.imm hmb)) ?_
 refine J.eqv 6 rfl (show _ = .bool (S t) from hget) ?_
 refine J.z (yl_not rfl rfl) ?_
 refine J.z q1 ?_
 refine J.ns (Cj.ret (Ej.bare ?_))
 refine q5 ?_
 exact ⟨rfl, rfl⟩
theorem not1_none (xb : Nat) (S : Ix.Rec → Bool) (hS : ∀ t, S t = false) (t : Ix.Rec) (I : Heap) (hxb : I xb = some (cel 120 [.map none])) : Pure Tryz.prog 105 [kvR t, ptr xb 0] I (.bool (!S t)) := by
 refine Ctr.toPure ?_
 have hget : Value.bool false = .bool (S t) := by rw [hS t]
 refine Ctr.ob func105 ?_
 intro w0 hw0
 refine Cj.sr (J.op rfl (q15 ?_))
 intro b1 hb1
 refine J.z q1 ?_
 refine J.nssr (J.z (q3 isAgg120 (Blk.imm hxb)) ?_)
 refine J.z (q10 tA54 tS54 (Blk.at 0 rfl)) ?_
 refine J.z (yl_lookupNil1 (kv := kvR) (a := t) rfl rfl rfl rfl tU120 keyR tZ4) ?_
 refine J.eqv 6 rfl (show _ = .bool (S t) from hget) ?_
 refine J.z (yl_not rfl rfl) ?_
 refine J.z q1 ?_
 refine J.ns (Cj.ret (Ej.bare ?_))
 refine q5 ?_
 exact ⟨rfl, rfl⟩
theorem not1_ok (xb : Nat) (v : Value) (S : Ix.Rec → Bool) (t : Ix.Rec) (I : Heap) (hxb : I xb = some (cel 120 [v])) (h : SetV I v S) : Pure Tryz.prog 105 [kvR t, ptr xb 0] I (.bool (!S t)) := by
  rcases h with ⟨rfl, hS⟩ | ⟨b, m, k, rfl, hm, hb⟩
  · exact not1_none xb S hS t I hxb
  exact not1_some xb S b m k hm t I hxb hb
theorem yes_ok (t : Ix.Rec) (I : Heap) : Pure Tryz.prog 106 [kvR t] I (.bool true) := by
 refine Ctr.toPure ?_
 refine Ctr.ob func106 ?_
 intro w0 hw0
 refine Cj.sr (J.op rfl (q15 ?_))
 intro b1 hb1
 refine J.z q1 ?_
 refine J.nssr (J.z q1 ?_)
 refine J.ns (Cj.ret (Ej.bare ?_))
 refine q5 ?_
 exact ⟨rfl, rfl⟩
end Go.Proofs.YtekmeaoblpfnpaaGreatDoor
namespace Cq
def Qs.kinds : Qs → List Int
  | .nil => []
  | .cons k _ _ _ _ rest => k :: rest.kinds
def form1 (k : Int) (i r t : List UInt8) (n : Nat) (ps : Bool) : Bool :=
  if k = 1 then indexes.contains i && relations.contains r && n == 0
  else if k < 2 ∨ k > 4 ∨ i ≠ [] ∨ r ≠ [] ∨ t ≠ [] ∨ n ≠ 2 then false else ps
def Qs.forms : Qs → Bool
  | .nil => true
  | .cons k i r t ps rest => form1 k i r t ps.len ps.forms && rest.forms
def form (q : Qn) : Bool := form1 q.k q.i q.r q.t q.ps.len q.ps.forms
def up (k : Int) : Nat := if k = 1 then 0 else 1
def depth1 (k : Int) (ks : List Int) (ds : List Nat) : Nat :=
  if k = 1 then 0 else match ks, ds with
    | [_, k1], [a, b] => max (b + up k1) a
    | _, _ => 0
def Qs.depths : Qs → List Nat
  | .nil => []
  | .cons k _ _ _ ps rest => depth1 k ps.kinds ps.depths :: rest.depths
def depth (q : Qn) : Nat := depth1 q.k q.ps.kinds q.ps.depths
def right (q : Qn) : Bool := form q && decide (depth q ≤ 50)
def escape (s : List UInt8) : List UInt8 := s.flatMap fun c => if c = 34 ∨ c = 92 then [92, c] else [c]
def text (s : List UInt8) : List UInt8 := 34 :: escape s ++ [34]
def word (k : Int) : List UInt8 := if k = 2 then [97, 110, 100] else if k = 3 then [111, 114] else [110, 111, 116]
def paren (k : Int) (x : List UInt8) : List UInt8 := if k = 1 then x else 40 :: x ++ [41]
def print1 (k : Int) (i r t : List UInt8) (ks : List Int) (ds : List (List UInt8)) : List UInt8 :=
  if k = 1 then i ++ [32] ++ r ++ [32] ++ text t else match ks, ds with
    | [_, k1], [a, b] => a ++ [32] ++ word k ++ [32] ++ paren k1 b
    | _, _ => []
def Qs.prints : Qs → List (List UInt8)
  | .nil => []
  | .cons k i r t ps rest => print1 k i r t ps.kinds ps.prints :: rest.prints
def write (q : Qn) : List UInt8 := print1 q.k q.i q.r q.t q.ps.kinds q.ps.prints
def Qs.size : Qs → Nat
  | .nil => 0
  | .cons _ _ _ _ ps rest => ps.size + rest.size + 1
def Qn.size (q : Qn) : Nat := q.ps.size
def Qn.Two (q a b : Qn) : Prop := q.ps = a.push (b.push .nil)
theorem Qs.two_of : ∀ {ps : Qs}, ps.len = 2 → ∃ a b : Qn, ps = a.push (b.push .nil)
  | .nil, h => by simp [Qs.len] at h
  | .cons _ _ _ _ _ .nil, h => by simp [Qs.len] at h
  | .cons k i r t ps (.cons k' i' r' t' ps' .nil), _ => ⟨⟨k, i, r, t, ps⟩, ⟨k', i', r', t', ps'⟩, rfl⟩
  | .cons _ _ _ _ _ (.cons _ _ _ _ _ (.cons _ _ _ _ _ _)), h => by simp [Qs.len] at h
theorem Qn.Two.size {q a b : Qn} (h : q.Two a b) : a.size < q.size ∧ b.size < q.size := by
  simp only [Qn.size, show q.ps = _ from h, Qn.push, Qs.size]; omega
theorem Qn.Two.len {q a b : Qn} (h : q.Two a b) : q.ps.len = 2 := by rw [show q.ps = _ from h]; rfl
theorem form_term {q : Qn} (h : q.k = 1) : form q = (indexes.contains q.i && relations.contains q.r && q.ps.len == 0) := by simp [form, form1, h]
theorem form_bad {q : Qn} (h : q.k ≠ 1) (h2 : q.k < 2 ∨ q.k > 4 ∨ q.i ≠ [] ∨ q.r ≠ [] ∨ q.t ≠ [] ∨ q.ps.len ≠ 2) : form q = false := by unfold form form1; rw [if_neg h, if_pos h2]
theorem form_two {q a b : Qn} (h : q.k ≠ 1) (h2 : ¬ (q.k < 2 ∨ q.k > 4 ∨ q.i ≠ [] ∨ q.r ≠ [] ∨ q.t ≠ [] ∨ q.ps.len ≠ 2)) (ht : q.Two a b) : form q = (form a && form b) := by
  unfold form form1
  rw [if_neg h, if_neg h2, show q.ps = _ from ht]
  simp [Qn.push, Qs.forms, form1]
theorem form_tree {q : Qn} (h : form q = true) : q.k = 1 ∨ (q.k ≠ 1 ∧ 2 ≤ q.k ∧ q.k ≤ 4 ∧ ∃ a b, q.Two a b ∧ form a = true ∧ form b = true) := by
  by_cases h1 : q.k = 1
  · exact .inl h1
  by_cases h2 : q.k < 2 ∨ q.k > 4 ∨ q.i ≠ [] ∨ q.r ≠ [] ∨ q.t ≠ [] ∨ q.ps.len ≠ 2
  · rw [form_bad h1 h2] at h; cases h
  obtain ⟨a, b, hab⟩ := Qs.two_of (ps := q.ps) (by omega)
  rw [form_two h1 h2 hab, Bool.and_eq_true] at h
  exact .inr ⟨h1, by omega, by omega, a, b, hab, h.1, h.2⟩
theorem depth_term {q : Qn} (h : q.k = 1) : depth q = 0 := by simp [depth, depth1, h]
theorem depth_two {q a b : Qn} (h : q.k ≠ 1) (ht : q.Two a b) : depth q = max (depth b + up b.k) (depth a) := by
  unfold depth
  rw [show q.ps = _ from ht]
  simp [Qn.push, Qs.depths, Qs.kinds, depth1, h]
theorem write_term {q : Qn} (h : q.k = 1) : write q = q.i ++ [32] ++ q.r ++ [32] ++ text q.t := by simp [write, print1, h]
theorem write_two {q a b : Qn} (h : q.k ≠ 1) (ht : q.Two a b) : write q = write a ++ [32] ++ word q.k ++ [32] ++ paren b.k (write b) := by
  unfold write
  rw [show q.ps = _ from ht]
  simp [Qn.push, Qs.prints, Qs.kinds, print1, h]
theorem escape_len (s : List UInt8) : s.length ≤ (escape s).length ∧ (escape s).length ≤ 2 * s.length := by induction s <;> grind [escape, List.length_append, List.length_cons, List.length_nil]
theorem paren_len (k : Int) (x : List UInt8) : x.length ≤ (paren k x).length := by unfold paren; split <;> simp <;> omega
def Qs.wide : Qs → Nat
  | .nil => 0
  | .cons _ i r t ps rest => i.length + r.length + t.length + ps.wide + rest.wide
def Qn.wide (q : Qn) : Nat := q.i.length + q.r.length + q.t.length + q.ps.wide
theorem Qn.Two.wide {q a b : Qn} (h : q.Two a b) : a.wide ≤ q.wide ∧ b.wide ≤ q.wide := by
  unfold Qn.wide; rw [show q.ps = _ from h]; simp only [Qn.push, Qs.wide]; omega
def deep (q : Qn) : Int := if form q then (depth q : Int) else -1
theorem deep_term {q : Qn} (h : q.k = 1) : deep q = if (indexes.contains q.i && relations.contains q.r && q.ps.len == 0) then 0 else -1 := by
  unfold deep; rw [form_term h, depth_term h]; rfl
theorem deep_bad {q : Qn} (h : q.k ≠ 1) (h2 : q.k < 2 ∨ q.k > 4 ∨ q.i ++ q.r ++ q.t ≠ [] ∨ q.ps.len ≠ 2) : deep q = -1 := by
  unfold deep
  rw [form_bad h (by
    rcases h2 with h2 | h2 | h2 | h2
    · exact .inl h2
    · exact .inr (.inl h2)
    · by_cases hi : q.i = []
      · by_cases hr : q.r = []
        · exact .inr (.inr (.inr (.inr (.inl fun ht => h2 (by simp [hi, hr, ht])))))
        exact .inr (.inr (.inr (.inl hr)))
      exact .inr (.inr (.inl hi))
    exact .inr (.inr (.inr (.inr (.inr h2)))))]
  rfl
theorem deep_two {q a b : Qn} (h : q.k ≠ 1) (h2 : ¬ (q.k < 2 ∨ q.k > 4 ∨ q.i ≠ [] ∨ q.r ≠ [] ∨ q.t ≠ [] ∨ q.ps.len ≠ 2)) (ht : q.Two a b) : deep q = if min (deep a) (deep b) < 0 then -1 else max (deep a) (deep b + up b.k) := by
  unfold deep
  rw [form_two h h2 ht, depth_two h ht]
  cases form a <;> cases form b <;> simp <;> omega
theorem deep_ge (q : Qn) : -1 ≤ deep q := by unfold deep; split <;> omega
theorem depth_size : ∀ (n : Nat) (q : Qn), q.size < n → form q = true → depth q ≤ q.size
  | 0, q, h, _ => by omega
  | n + 1, q, h, hf => by
    rcases form_tree hf with hk | ⟨hk, _, _, a, b, htw, ha, hb⟩
    · rw [depth_term hk]; exact Nat.zero_le _
    have h1 := htw.size
    have ha' := depth_size n a (by omega) ha
    have hb' := depth_size n b (by omega) hb
    have hu : up b.k ≤ 1 := by unfold up; split <;> omega
    rw [depth_two hk htw]
    omega
theorem deep_le (q : Qn) : deep q ≤ q.size := by
  unfold deep
  split
  · rename_i h; have := depth_size _ q (Nat.lt_succ_self _) h; omega
  omega
theorem deep_right (q : Qn) : (decide (deep q ≥ 0) && decide (deep q ≤ 50)) = right q := by
  unfold deep right
  cases form q <;> simp
  omega
end Cq
namespace Go.Sx
open Cq
def QC (I : Heap) : Qs → List Value → Prop
  | .nil, _ => True
  | .cons k i r t ps rest, cs => ∃ p c tl, cs = i64 k :: str i :: str r :: str t :: .slice p ps.len c :: tl ∧
      (ps = .nil ∨ ∃ (b off : Nat) (cs' : List Value) (T : TypeId) (fr : Nat × Nat), p = some ⟨b, off, none⟩ ∧ I b = some (.cells cs'.toArray T fr) ∧ QC I ps (cs'.drop off)) ∧ QC I rest tl
theorem QC.mono {I I' : Heap} (hle : Le I I') : ∀ {q : Qs} {cs : List Value}, QC I q cs → QC I' q cs
  | .nil, _, _ => trivial
  | .cons _ _ _ _ _ps _rest, _, ⟨p, c, tl, h1, h2, h3⟩ => ⟨p, c, tl, h1, h2.imp id fun ⟨b, off, cs', T, fr, g1, g2, g3⟩ => ⟨b, off, cs', T, fr, g1, hle _ _ g2, QC.mono hle g3⟩, QC.mono hle h3⟩
def PS (I : Heap) (ps : Qs) (p : Option Addr) : Prop := ps = .nil ∨ ∃ (b off : Nat) (cs' : List Value) (T : TypeId) (fr : Nat × Nat), p = some ⟨b, off, none⟩ ∧ I b = some (.cells cs'.toArray T fr) ∧ QC I ps (cs'.drop off)
theorem PS.mono {I I' : Heap} {ps : Qs} {p : Option Addr} (h : PS I ps p) (hle : Le I I') : PS I' ps p :=
  h.imp id fun ⟨b, off, cs', T, fr, g1, g2, g3⟩ => ⟨b, off, cs', T, fr, g1, hle _ _ g2, QC.mono hle g3⟩
abbrev qCells (q : Qn) (p : Option Addr) (c : Nat) : List Value := [i64 q.k, str q.i, str q.r, str q.t, .slice p q.ps.len c]
def QV (I : Heap) (q : Qn) (v : Value) : Prop := ∃ p c, v = .agg (qCells q p c).toArray ∧ PS I q.ps p
theorem PS.two {I : Heap} {a b : Qn} {pa pb : Option Addr} {ca cb : Nat} {bl T : Nat} (ha : PS I a.ps pa) (hb : PS I b.ps pb) (h : I bl = some (cel T (qCells a pa ca ++ (qCells b pb cb ++ [])))) : PS I (a.push (b.push .nil)) (some ⟨bl, 0, none⟩) :=
  .inr ⟨bl, 0, _, T, (0, 0), rfl, h, pa, ca, _, rfl, ha, pb, cb, _, rfl, hb, trivial⟩
theorem PS.two_at {I : Heap} {q a b : Qn} {p : Option Addr} (h : PS I q.ps p) (ht : q.Two a b) :
    ∃ bl off cs' T fr pa ca pb cb, p = some ⟨bl, off, none⟩ ∧ I bl = some (.cells (List.toArray cs') T fr) ∧ (cs'.drop off).take 5 = qCells a pa ca ∧ (cs'.drop (off + 5)).take 5 = qCells b pb cb ∧ cs'[off + 5]? = some (i64 b.k) ∧ PS I a.ps pa ∧ PS I b.ps pb := by
  rw [show q.ps = _ from ht] at h
  rcases h with h | ⟨bl, off, cs', T, fr, rfl, hI, pa, ca, tl, hcs, hpa, pb, cb, tl2, htl, hpb, _⟩
  · cases h
  subst htl
  refine ⟨bl, off, cs', T, fr, pa, ca, pb, cb, rfl, hI, ?_, ?_, ?_, hpa, hpb⟩
  · rw [hcs]; rfl
  · rw [← List.drop_drop, hcs]; rfl
  rw [← List.getElem?_drop, hcs]; rfl
end Go.Sx
namespace Go.Proofs.YtekmeaoblpfnpaaGreatDoor
open _root_.Go.Proofs.Tryz
open Go Go.Sx
structure VL where
  i : Nat
  J : Heap
  ls : List LR
  g : Gs
theorem map_take_next {α β : Type} (f : α → β) {l : List α} {k : Nat} {x : α} (h : l[k]? = some x) : (l.take (k + 1)).map f = (l.take k).map f ++ [f x] := by
  obtain ⟨hlt, hg⟩ := List.getElem?_eq_some_iff.1 h
  rw [List.take_succ_eq_append_getElem hlt, hg, List.map_append]; rfl
theorem lls_add {J : Heap} {ls : List LR} (h : ∀ x ∈ ls, RowS recC J x.1 x.2) {l : List Ix.Rec} {w : Value} (hw : RowS recC J l w) : ∀ x ∈ ls ++ [(l, w)], RowS recC J x.1 x.2 := fun x hx => by
  rcases List.mem_append.1 hx with g | g
  · exact h x g
  rw [List.mem_singleton.1 g]; exact hw
theorem lr_flat {ls : List LR} {l : List (List Ix.Rec)} (h : ls.map (·.1) = l) : ls.flatMap (·.1) = l.flatMap id := by
  rw [← h, List.flatMap_map]; rfl
theorem word_le (L : Ix.Ix) (n s : List UInt8) : (Ix.word L n s).length ≤ L.length := by
  unfold Ix.word Ix.phrase
  split
  · split
    · exact Nat.zero_le _
    rw [List.length_map]; exact List.length_filter_le _ _
  exact Nat.zero_le _
theorem phrase_le' (L : Ix.Ix) (n : List UInt8) (w : Ke.Row) : (Ix.phrase L n w).length ≤ L.length := by
  unfold Ix.phrase
  split
  · exact Nat.zero_le _
  rw [List.length_map]; exact List.length_filter_le _ _
theorem swords_ok (xv : Value) (L : Ix.Ix) (q : Cq.Qn) (p : Option Addr) (c : Nat) (hq : q.t.length ≤ 10000000) (I : Heap) (hx : IxV I xv L) : Ctr Tryz.prog 155 [xv, .agg (qCells q p c).toArray] I [] (fun e I' H' => ∃ w ls, e = .returned w ∧ ls.map (·.1) = (Ke.words q.t).map (Ix.word L q.i) ∧ LLS I' ls w ∧ H' = []) := by
 have hwl := Ke.words_len q.t
 refine Ctr.ob func155 ?_
 intro w0 hw0
 refine Cj.sr (J.op rfl (q15 ?_))
 intro b1 hb1
 refine J.z q1 ?_
 refine J.nssr (J.z q1 ?_)
 refine J.nsss (Cj.region (J.z (q2 (off' := 3) tU32 tS9) ?_))
 refine J.z (q3 tA9 (Blk.at 0 rfl)) ?_
 refine J.op rfl (op_call (H1 := []) rfl rfl rfl rfl rfl (Words_ok q.t (by omega) _) ?_ (fun _ _ _ _ ⟨_, h, _⟩ => by cases h) (fun _ _ ⟨_, h, _⟩ => by cases h))
 intro v2 I3 H4 hle5 hp6
 have hx := hx.mono hle5
 obtain ⟨wv, h, hw, rfl⟩ := hp6; cases h
 obtain ⟨pw, cw, rfl⟩ := StrS_sl hw
 refine J.z (q14 tU69) ?_
 refine J.z q0 ?_
 refine J.ns (Cj.block (Cj.loop (ι := VL) (fun y => y.i ≤ (Ke.words q.t).length ∧ Le I3 y.J ∧ y.ls.map (·.1) = ((Ke.words q.t).take y.i).map (Ix.word L q.i) ∧ (∀ x ∈ y.ls, RowS recC y.J x.1 x.2) ∧ gOk w0.heap.size 1 y.ls.length (y.ls.flatMap lrC) y.g) (fun y => (Ke.words q.t).length - y.i) (fun y => [(5, gV y.ls.length y.g), (0, xv), (3, ptr b1 0), (10, .slice pw (Ke.words q.t).length cw), (11, i64 ((Ke.words q.t).length : Int)), (12, i64 (y.i : Int))]) (fun y => y.J) (fun y => (b1, cel 32 (qCells q p c)) :: gH 36 (y.ls.flatMap lrC) y.g) ⟨0, _, [], none⟩ ⟨Nat.zero_le _, Le.refl _, rfl, (fun x hx => by cases hx), rfl, rfl⟩ ⟨rfl, rfl, rfl, rfl, rfl, rfl, trivial⟩ rfl rfl ?_))
 rintro ⟨i, J1, ls, g⟩ ⟨hi, hIJ, hmp, hR, hg⟩
 dsimp only at hi hIJ hmp hR hg ⊢
 have hx := hx.mono hIJ
 have hw := hw.mono hIJ
 have hll : ls.length = i := by have h := congrArg List.length hmp; rw [List.length_map, List.length_map, List.length_take] at h; omega
 refine Cj.sr (J.z q18 ?_)
 refine J.nss (Cj.cond rfl (fun hc7 => ?_) (fun hc7 => ?_))
 ·have hc7p := odt hc7
  have hlt : i < (Ke.words q.t).length := by omega
  obtain ⟨x, hget⟩ : ∃ x, (Ke.words q.t)[i]? = some x := ⟨_, lgg hlt⟩
  have hxl := Ke.words_each _ x (lmg hget)
  obtain ⟨wb, wc1, wsp, hwe, hwb⟩ := hw.some (ne_nil_of hlt)
  cases hwe
  refine Cj.skip (Ej.seq (Cj.seq (Cj.block (Cj.sr (J.z (q16 (off' := i) tU69 tS9) ?_)))))
  refine J.z (yl_load rfl rfl tA9 (Blk.imm hwb) (str_get hget)) ?_
  refine J.z q1 ?_
  refine J.nsr (J.z q0 ?_)
  refine J.z q0 ?_
  refine J.z (q2 (off' := 1) tU32 tS9) ?_
  refine J.z (q3 tA9 (Blk.at 0 rfl)) ?_
  refine J.z q0 ?_
  refine J.op rfl (op_callN rfl rfl rfl rfl rfl (WordV_ok xv L q.i x (by omega) _ hx) ?_ (fun _ _ _ _ ⟨_, h, _⟩ => by cases h) (fun _ _ ⟨_, h, _⟩ => by cases h))
  intro v9 I10 H11 hle12 hn8 hp13
  have hIJ := hIJ.mono hle12
  have hR := fun x9 hx9 => (hR x9 hx9).mono hle12
  obtain ⟨wa, h, hoa⟩ := hp13; cases h
  refine J.keepO hoa hn8 (fun Ia hlea hra => ?_)
  have hIJ := hIJ.mono hlea
  have hR := fun x9 hx9 => (hR x9 hx9).mono hlea
  replace hra := hra.row
  obtain ⟨pa, ca, rfl⟩ := rowS_len hra
  refine J.op rfl (q17 tU225 tS36 tZ36 (LCat.one rfl LCat.none) ?_)
  intro b14 hb14
  refine J.op rfl (op_append (by' := 23) [_, _] rfl rfl rfl rfl rfl tU225 (.inr ⟨_, tU225⟩) (by kernel_rfl) tS36 tZ36 rfl hg rfl (Src.slice (Blk.at 0 rfl) rfl rfl rfl) (by omega) ?_)
  intro g15 hg15
  refine J.z q1 ?_
  refine J.nil (Ej.blkNormal (Ej.seq (Cj.region (J.z (yl_add rfl rfl rfl (w64 (by omega))) ?_))))
  refine J.z q0 ?_
  refine J.nil (Ej.keep (Keeps.d (Keeps.k Keeps.r)) ?_)
  refine Ej.round ⟨i + 1, _, ls ++ [(Ix.word L q.i x, _)], g15⟩ ⟨by dsimp only; omega, hIJ, by dsimp only; rw [List.map_append, hmp, map_take_next _ hget]; rfl, lls_add hR hra, by dsimp only; rw [List.length_append, List.flatMap_append]; exact hg15⟩ (by dsimp only; omega) ⟨by dsimp only; rw [List.length_append]; rfl, rfl, rfl, rfl, rfl, rfl, trivial⟩ rfl (by dsimp only; rw [List.flatMap_append]; rfl)
 have hc7p := odf hc7
 refine Cj.exit (Ej.seqExit (Ej.loopExit (Ej.blkExit (Ej.seq (Cj.seq ?_)))))
 rw [List.take_of_length_le (by omega : (Ke.words q.t).length ≤ i)] at hmp
 refine Cj.perm (H' := gH 36 (ls.flatMap lrC) g ++ [_]) List.perm_append_comm ?_
 refine Cj.keepR (f := lrC) (fun _ => rfl) (by decide) hg rfl (fun I8 hle8 hv => ?_)
 have hR := fun x9 hx9 => (hR x9 hx9).mono hle8
 refine Cj.region (J.z q0 ?_)
 refine J.z q1 ?_
 refine J.ns (Cj.ret (Ej.bare ?_))
 refine q5 ?_
 exact ⟨_, ls, rfl, hmp, ⟨hv, hR⟩, rfl⟩
theorem keyed_ok (xv : Value) (L : Ix.Ix) (n : List UInt8) (ks : List (List UInt8 × Int)) (v : Value) (hk : ∀ x ∈ ks, Ke.KeyT x.1) (hkl : ks.length ≤ 1000000000000) (I : Heap) (hx : IxV I xv L) (hT : STab I) (hr : RowS lineC I ks v) : Ctr Tryz.prog 159 [xv, str n, v] I [] (fun e _ H' => ∃ w, e = .returned w ∧ OwnS w (inL (Ix.keyed L n (ks.map (·.1)))) H') := by
 have hbig := hx.big
 obtain ⟨p, c, rfl⟩ := rowS_len hr
 refine Ctr.ob func159 ?_
 intro w0 hw0
 refine Cj.sr (J.z q1 ?_)
 refine J.nssr (J.z q1 ?_)
 refine J.nsss (Cj.region (J.z q0 ?_))
 refine J.z (q14 tU228) ?_
 refine J.z q0 ?_
 refine J.ns (Cj.block (Cj.loop (ι := VL) (fun y => y.i ≤ ks.length ∧ Le I y.J ∧ y.ls.map (·.1) = (ks.take y.i).map (fun x => Ix.withK L n (Ix.keyOf n (Ke.plainK x.1))) ∧ (∀ x ∈ y.ls, RowS recC y.J x.1 x.2) ∧ gOk w0.heap.size 1 y.ls.length (y.ls.flatMap lrC) y.g) (fun y => ks.length - y.i) (fun y => [(7, gV y.ls.length y.g), (0, xv), (1, str n), (10, .slice p ks.length c), (11, i64 (ks.length : Int)), (12, i64 (y.i : Int))]) (fun y => y.J) (fun y => gH 36 (y.ls.flatMap lrC) y.g) ⟨0, _, [], none⟩ ⟨Nat.zero_le _, Le.refl _, rfl, (fun x hx => by cases hx), rfl, rfl⟩ ⟨rfl, rfl, rfl, rfl, rfl, rfl, trivial⟩ rfl rfl ?_))
 rintro ⟨i, J1, ls, g⟩ ⟨hi, hIJ, hmp, hR, hg⟩
 dsimp only at hi hIJ hmp hR hg ⊢
 have hx := hx.mono hIJ
 have hT := hT.mono hIJ
 have hr := hr.mono hIJ
 have hll : ls.length = i := by have h := congrArg List.length hmp; rw [List.length_map, List.length_map, List.length_take] at h; omega
 refine Cj.sr (J.z q18 ?_)
 refine J.nss (Cj.cond rfl (fun hc1 => ?_) (fun hc1 => ?_))
 ·have hc1p := odt hc1
  have hlt : i < ks.length := by omega
  obtain ⟨x, hget⟩ : ∃ x, ks[i]? = some x := ⟨_, lgg hlt⟩
  have hkx := hk x (lmg hget)
  have hkx2 := hkx.2.2.1
  obtain ⟨p1, c1, hpe, hc1, hp⟩ := id hr
  cases hpe
  obtain ⟨fb, fo, fcs, fty, ffr, fsp, rfl, hfb, hfd⟩ := hp (ne_nil_of hlt)
  refine Cj.skip (Ej.seq (Cj.seq (Cj.block (Cj.sr (J.z (q16 (off' := fo + i * 2) tU228 tS268) ?_)))))
  refine J.z (yl_loadAgg rfl rfl isAgg268 tS268 (Blk.imm hfb) (row_from lineC_len hfd hget) rfl) ?_
  refine J.op rfl (q21 zeroValue268 ?_)
  intro b2 hb2
  refine J.op rfl (q9 0 tS268 (LSpl.c (LSpl.c LSpl.z)) LSet.z ?_)
  refine J.nsr (J.z q0 ?_)
  refine J.z q0 ?_
  refine J.z q0 ?_
  refine J.z (q2 (off' := 0) tU268 tS9) ?_
  refine J.z (q3 tA9 (Blk.at 0 rfl)) ?_
  refine J.op rfl (op_pure rfl rfl rfl rfl rfl (plain_ok x.1 hkx _ hT) ?_)
  refine J.op rfl (op_callN rfl rfl rfl rfl rfl (KeyV_ok xv L n (Ke.plainK x.1) (by omega) _ hx) ?_ (fun _ _ _ _ ⟨_, h, _⟩ => by cases h) (fun _ _ ⟨_, h, _⟩ => by cases h))
  intro v4 I5 H6 hle7 hn3 hp8
  have hIJ := hIJ.mono hle7
  have hR := fun x9 hx9 => (hR x9 hx9).mono hle7
  obtain ⟨wa, h, hoa⟩ := hp8; cases h
  refine J.keepO hoa hn3 (fun Ia hlea hra => ?_)
  have hIJ := hIJ.mono hlea
  have hR := fun x9 hx9 => (hR x9 hx9).mono hlea
  replace hra := hra.row
  obtain ⟨pa, ca, rfl⟩ := rowS_len hra
  refine J.op rfl (q17 tU225 tS36 tZ36 (LCat.one rfl LCat.none) ?_)
  intro b9 hb9
  refine J.op rfl (op_append (by' := 23) [_, _] rfl rfl rfl rfl rfl tU225 (.inr ⟨_, tU225⟩) (by kernel_rfl) tS36 tZ36 rfl hg rfl (Src.slice (Blk.at 0 rfl) rfl rfl rfl) (by omega) ?_)
  intro g10 hg10
  refine J.z q1 ?_
  refine J.nil (Ej.blkNormal (Ej.seq (Cj.region (J.z (yl_add rfl rfl rfl (w64 (by omega))) ?_))))
  refine J.z q0 ?_
  refine J.nil (Ej.keep (Keeps.d (Keeps.d Keeps.r)) ?_)
  refine Ej.round ⟨i + 1, _, ls ++ [(Ix.withK L n (Ix.keyOf n (Ke.plainK x.1)), _)], g10⟩ ⟨by dsimp only; omega, hIJ, by dsimp only; rw [List.map_append, hmp, map_take_next _ hget]; rfl, lls_add hR hra, by dsimp only; rw [List.length_append, List.flatMap_append]; exact hg10⟩ (by dsimp only; omega) ⟨by dsimp only; rw [List.length_append]; rfl, rfl, rfl, rfl, rfl, rfl, trivial⟩ rfl (by dsimp only; rw [List.flatMap_append]; rfl)
 have hc1p := odf hc1
 refine Cj.exit (Ej.seqExit (Ej.loopExit (Ej.blkExit (Ej.seq (Cj.seq ?_)))))
 rw [List.take_of_length_le (by omega : ks.length ≤ i)] at hmp
 refine Cj.perm (H' := gH 36 (ls.flatMap lrC) g ++ []) (.of_eq (List.append_nil _)) ?_
 refine Cj.keepR (f := lrC) (fun _ => rfl) (by decide) hg rfl (fun I8 hle8 hv => ?_)
 have hx := hx.mono hle8
 have hR := fun x9 hx9 => (hR x9 hx9).mono hle8
 have hlen : ∀ x ∈ ls, x.1.length ≤ 1000000 := fun x hx => by
   have h9 : x.1 ∈ ls.map (·.1) := List.mem_map_of_mem hx
   rw [hmp] at h9
   obtain ⟨y, _, hy⟩ := List.mem_map.1 h9
   rw [← hy]
   exact nlt (Ix.withK_le _ _ _) (by omega)
 refine Cj.region (J.z q0 ?_)
 refine J.op rfl (op_call (H1 := []) rfl rfl rfl rfl rfl (of_ok ls _ (by omega) hlen _ ⟨hv, hR⟩) ?_ (fun _ _ _ _ ⟨_, h, _⟩ => by cases h) (fun _ _ ⟨_, h, _⟩ => by cases h))
 intro v11 I12 H13 hle14 hp15
 have hR := fun x9 hx9 => (hR x9 hx9).mono hle14
 obtain ⟨wb, h, ob, mb, kb, rfl, hmb, rfl⟩ := hp15; cases h
 refine J.z q1 ?_
 refine J.ns (Cj.ret (Ej.keep (Keeps.k Keeps.n) ?_))
 refine q5 ?_
 refine ⟨_, rfl, ob, mb, kb, rfl, hmb.congr fun t => ?_, rfl⟩
 rw [show Ix.keyed L n (ks.map (·.1)) = ls.flatMap (·.1) from ?_]
 rw [lr_flat hmp, List.flatMap_map]
 unfold Ix.keyed
 rw [List.flatMap_map]
 rfl
theorem IxV.vok {I : Heap} {v : Value} {L : Ix.Ix} (h : IxV I v L) : ∀ e ∈ L, VOK e.2 := by
  rcases h with ⟨_, rfl⟩ | ⟨ib, _, o, h, _⟩
  · exact fun e he => by cases he
  cases o with
  | none => rw [show L = [] from h]; exact fun e he => by cases he
  | some s => exact IstOk.vok h
theorem keysAll_len {L : Ix.Ix} (hs : Ix.Srt L) (hv : ∀ e ∈ L, VOK e.2) (hL : L.length ≤ 100000) (n b : List UInt8) : (Ix.keysAll L n b).length ≤ 1000000000000 := by
  have h1 : ((Ix.keysAll L n b).map fun k => (n, k)).length ≤ (L.flatMap fun e => Ix.plK e.2).length := by
    refine sub_lenG ?_ fun p hp => ?_
    · rw [List.nodup_iff_pairwise_ne, List.pairwise_map]
      refine (Ix.keysAll_inc L n b).imp fun {x y} h e => ?_
      have := congrArg Prod.snd e
      dsimp only at this
      rw [this] at h
      exact List.lt_irrefl _ h
    obtain ⟨k, hk, rfl⟩ := List.mem_map.1 hp
    obtain ⟨e, he, hpe⟩ := (Ix.cnt_pos hs).1 ((Ix.keysAll_mem hs).1 hk).2
    exact List.mem_flatMap.2 ⟨e, he, hpe⟩
  have h2 : ∀ M : Ix.Ix, (∀ e ∈ M, VOK e.2) → (M.flatMap fun e => Ix.plK e.2).length ≤ M.length * 10000000 := by
    intro M
    induction M with
    | nil => intro _; simp
    | cons a r ih =>
      intro hM
      have := ih fun e he => hM e (.tail _ he)
      have h3 := (hM a (.head _)).k
      rw [List.flatMap_cons, List.length_append, List.length_cons, Nat.add_mul]; omega
  rw [List.length_map] at h1
  exact nlt (nlt h1 (h2 L hv)) (Nat.mul_le_mul_right 10000000 hL)
abbrev mostI : Int := 9223372036854775807
theorem scan_all {L : Ix.Ix} (hs : Ix.Srt L) (hv : ∀ e ∈ L, VOK e.2) (hL : L.length ≤ 100000) (n s : List UInt8) : ((Ix.scan L n s mostI).map lineI).map (·.1) = Ix.keysAll L n (Ix.keyOf n s) := by
  have h := keysAll_len hs hv hL n (Ix.keyOf n s)
  rw [List.map_map]
  exact Ix.scan_keys (by show _ ≤ 9223372036854775807; omega)
theorem scan_lens {L : Ix.Ix} (hs : Ix.Srt L) (hv : ∀ e ∈ L, VOK e.2) (hL : L.length ≤ 100000) (n s : List UInt8) : ((Ix.scan L n s mostI).map lineI).length = (Ix.keysAll L n (Ix.keyOf n s)).length ∧ (Ix.keysAll L n (Ix.keyOf n s)).length ≤ 1000000000000 := by
  have h1 := congrArg List.length (scan_all hs hv hL n s)
  rw [List.length_map] at h1
  exact ⟨h1, keysAll_len hs hv hL n _⟩
theorem scan_keyT {L : Ix.Ix} (ht : Ix.TOK L) (hs : Ix.Srt L) (hv : ∀ e ∈ L, VOK e.2) (hL : L.length ≤ 100000) (n s : List UInt8) : ∀ x ∈ (Ix.scan L n s mostI).map lineI, Ke.KeyT x.1 := fun x hx => by
  have h : x.1 ∈ ((Ix.scan L n s mostI).map lineI).map (·.1) := List.mem_map_of_mem hx
  rw [scan_all hs hv hL] at h
  exact ht.key hs h
theorem keys_le2 {L : Ix.Ix} (hs : Ix.Srt L) (n b : List UInt8) : (Ix.keysAll L n b).length ≤ (Ix.keysAll L n []).length := by
  rw [Ix.keysAll_from hs n b]; exact List.length_filter_le _ _
theorem flat_one (l : List Ix.Rec) (v : Value) : ([((l, v) : LR)].flatMap (·.1)) = l := List.append_nil l
def relM (kb : Nat) : ML (List UInt8) := [([61], .func (.func 153) #[] #[ptr kb 0], 0), ([61, 61], .func (.func 151) #[] #[], 1), ([97, 110, 121], .func (.func 154) #[] #[], 2), ([97, 108, 108], .func (.func 156) #[] #[], 3), ([62, 61], .func (.func 158) #[] #[], 4), ([60], .func (.func 161) #[] #[], 5)]
theorem anyL {ls : List LR} {L : Ix.Ix} {i : List UInt8} {ws : Ke.Row} (h : ls.map (·.1) = ws.map (Ix.word L i)) (t : Ix.Rec) : inL (ls.flatMap (·.1)) t = ws.any fun w => decide (t ∈ Ix.word L i w) := by
  unfold inL
  rw [lr_flat h, Bool.eq_iff_iff, decide_eq_true_eq, List.mem_flatMap, List.any_eq_true]
  constructor
  · rintro ⟨l, hl, ht⟩
    obtain ⟨w, hw, rfl⟩ := List.mem_map.1 hl
    exact ⟨w, hw, decide_eq_true ht⟩
  rintro ⟨w, hw, ht⟩
  exact ⟨_, List.mem_map_of_mem hw, odt ht⟩
def allS (ls : List LR) (t : Ix.Rec) : Bool := ls.all fun x => decide (t ∈ x.1)
theorem allS_next {ls : List LR} {i : Nat} {x : LR} (h : ls[i]? = some x) (t : Ix.Rec) : allS (ls.take (i + 1)) t = (allS (ls.take i) t && decide (t ∈ x.1)) := by
  obtain ⟨hlt, hg⟩ := List.getElem?_eq_some_iff.1 h
  unfold allS
  rw [List.take_succ_eq_append_getElem hlt, hg, List.all_append, List.all_cons, List.all_nil, Bool.and_true]
theorem allL {ls : List LR} {L : Ix.Ix} {i : List UInt8} {ws : Ke.Row} (h : ls.map (·.1) = ws.map (Ix.word L i)) (t : Ix.Rec) : allS ls t = ws.all fun w => decide (t ∈ Ix.word L i w) := by
  have : allS ls t = (ls.map (·.1)).all fun l => decide (t ∈ l) := by unfold allS; rw [List.all_map]; rfl
  rw [this, h, List.all_map]; rfl
theorem rel1_ok (xv : Value) (L : Ix.Ix) (q : Cq.Qn) (p : Option Addr) (c : Nat) (hq : q.t.length ≤ 10000000) (I : Heap) (hx : IxV I xv L) : Ctr Tryz.prog 151 [xv, .agg (qCells q p c).toArray] I [] (fun e _ H' => ∃ w, e = .returned w ∧ OwnS w (inL (Ix.withK L q.i (Ix.keyOf q.i q.t))) H') := by
 have hbig := hx.big
 refine Ctr.ob func151 ?_
 intro w0 hw0
 refine Cj.sr (J.op rfl (q15 ?_))
 intro b1 hb1
 refine J.z q1 ?_
 refine J.nssr (J.z q0 ?_)
 refine J.z (q2 (off' := 1) tU32 tS9) ?_
 refine J.z (q3 tA9 (Blk.at 0 rfl)) ?_
 refine J.z (q2 (off' := 3) tU32 tS9) ?_
 refine J.z (q3 tA9 (Blk.at 0 rfl)) ?_
 refine J.op rfl (op_callN rfl rfl rfl rfl rfl (KeyV_ok xv L q.i q.t (by omega) _ hx) ?_ (fun _ _ _ _ ⟨_, h, _⟩ => by cases h) (fun _ _ ⟨_, h, _⟩ => by cases h))
 intro v3 I4 H5 hle6 hn2 hp7
 have hx := hx.mono hle6
 obtain ⟨wa, h, hoa⟩ := hp7; cases h
 refine J.keepO hoa hn2 (fun Ia hlea hra => ?_)
 have hx := hx.mono hlea
 replace hra := hra.row
 obtain ⟨pa, ca, rfl⟩ := rowS_len hra
 refine J.op rfl (q17 tU225 tS36 tZ36 (LCat.one rfl LCat.none) ?_)
 intro b8 hb8
 refine J.persist hb8 (fun I10 hle9 hb8i => ?_)
 have hx := hx.mono hle9
 have hra := hra.mono hle9
 have hls : LLS _ [((Ix.withK L q.i (Ix.keyOf q.i q.t)), .slice pa _ ca)] (.slice (some ⟨b8, 0, none⟩) 1 1) := ⟨RowS.of (l := [(((Ix.withK L q.i (Ix.keyOf q.i q.t)), .slice pa _ ca) : LR)]) (sp := []) (Nat.le_refl _) hb8i, fun x hx => by rw [List.mem_singleton.1 hx]; exact hra⟩
 refine J.op rfl (op_call (H1 := []) rfl rfl rfl rfl rfl (of_ok [((Ix.withK L q.i (Ix.keyOf q.i q.t)), _)] _ (by show 1 ≤ _; decide) (fun x hx => by rw [List.mem_singleton.1 hx]; exact nlt (Ix.withK_le _ _ _) (by omega)) _ hls) ?_ (fun _ _ _ _ ⟨_, h, _⟩ => by cases h) (fun _ _ ⟨_, h, _⟩ => by cases h))
 intro v11 I12 H13 hle14 hp15
 obtain ⟨wb, h, ob, mb, kb, rfl, hmb, rfl⟩ := hp15; cases h
 refine J.z q1 ?_
 refine J.ns (Cj.ret (Ej.keep (Keeps.k (Keeps.d Keeps.n)) ?_))
 refine q5 ?_
 exact ⟨_, rfl, ob, mb, kb, rfl, hmb.congr fun t => congrArg (fun l => inL l t) (flat_one _ _), rfl⟩
theorem rel2_ok (xv : Value) (L : Ix.Ix) (q : Cq.Qn) (p : Option Addr) (c : Nat) (hq : q.t.length ≤ 10000000) (I : Heap) (hx : IxV I xv L) (kb' : Nat) (hkb : I kb' = some (cel 121 [.func (.func 151) #[] #[]])) : Ctr Tryz.prog 153 [xv, .agg (qCells q p c).toArray, ptr kb' 0] I [] (fun e _ H' => ∃ w, e = .returned w ∧ OwnS w (fun t => if q.i = Ix.nIsbn then inL (Ix.withK L q.i (Ix.keyOf q.i q.t)) t else inL (Ix.phrase L q.i (Ke.words q.t)) t) H') := by
 have hbig := hx.big
 refine Ctr.ob func153 ?_
 intro w0 hw0
 refine Cj.sr (J.op rfl (q15 ?_))
 intro b1 hb1
 refine J.z q1 ?_
 refine J.nsss (Cj.region (J.z (q2 (off' := 1) tU32 tS9) ?_))
 refine J.z (q3 tA9 (Blk.at 0 rfl)) ?_
 refine J.z (yl_eqlStr rfl rfl rfl) ?_
 refine J.cd (fun hc2 => ?_) (fun hc2 => ?_)
 ·have hc2p := ebq hc2
  refine Cj.sr (J.z (q3 isAgg121 (Blk.imm hkb)) ?_)
  refine J.z q0 ?_
  refine J.z (q10 tA32 tS32 (Blk.at 0 rfl)) ?_
  refine J.op rfl (op_call (H1 := []) rfl rfl rfl rfl rfl (rel1_ok xv L q p c hq _ hx) ?_ (fun _ _ _ _ ⟨_, h, _⟩ => by cases h) (fun _ _ ⟨_, h, _⟩ => by cases h))
  intro v3 I4 H5 hle6 hp7
  obtain ⟨wb, h, ob, mb, kb, rfl, hmb, rfl⟩ := hp7; cases h
  refine J.z q1 ?_
  refine J.ns (Cj.ret (Ej.seqRet (Ej.keep (Keeps.k (Keeps.d Keeps.n)) ?_)))
  have hi : q.i = Ix.nIsbn := ebq hc2
  refine q5 ?_
  exact ⟨_, rfl, ob, mb, kb, rfl, hmb.congr fun t => by rw [if_pos hi], rfl⟩
 have hc2p := nbf hc2
 refine Cj.skip (Ej.seq (Cj.sr (J.z q0 ?_)))
 refine J.z (q2 (off' := 1) tU32 tS9) ?_
 refine J.z (q3 tA9 (Blk.at 0 rfl)) ?_
 refine J.z (q2 (off' := 3) tU32 tS9) ?_
 refine J.z (q3 tA9 (Blk.at 0 rfl)) ?_
 refine J.op rfl (op_callN rfl rfl rfl rfl rfl (PhraseV_ok xv L q.i q.t (by omega) _ hx) ?_ (fun _ _ _ _ ⟨_, h, _⟩ => by cases h) (fun _ _ ⟨_, h, _⟩ => by cases h))
 intro v9 I10 H11 hle12 hn8 hp13
 have hx := hx.mono hle12
 obtain ⟨wa, h, hoa⟩ := hp13; cases h
 refine J.keepO hoa hn8 (fun Ia hlea hra => ?_)
 have hx := hx.mono hlea
 replace hra := hra.row
 obtain ⟨pa, ca, rfl⟩ := rowS_len hra
 refine J.op rfl (q17 tU225 tS36 tZ36 (LCat.one rfl LCat.none) ?_)
 intro b14 hb14
 refine J.persist hb14 (fun I16 hle15 hb14i => ?_)
 have hx := hx.mono hle15
 have hra := hra.mono hle15
 have hls : LLS _ [((Ix.phrase L q.i (Ke.words q.t)), .slice pa _ ca)] (.slice (some ⟨b14, 0, none⟩) 1 1) := ⟨RowS.of (l := [(((Ix.phrase L q.i (Ke.words q.t)), .slice pa _ ca) : LR)]) (sp := []) (Nat.le_refl _) hb14i, fun x hx => by rw [List.mem_singleton.1 hx]; exact hra⟩
 refine J.op rfl (op_call (H1 := []) rfl rfl rfl rfl rfl (of_ok [((Ix.phrase L q.i (Ke.words q.t)), _)] _ (by show 1 ≤ _; decide) (fun x hx => by rw [List.mem_singleton.1 hx]; exact nlt (phrase_le' _ _ _) (by omega)) _ hls) ?_ (fun _ _ _ _ ⟨_, h, _⟩ => by cases h) (fun _ _ ⟨_, h, _⟩ => by cases h))
 intro v17 I18 H19 hle20 hp21
 obtain ⟨wb, h, ob, mb, kb, rfl, hmb, rfl⟩ := hp21; cases h
 refine J.z q1 ?_
 refine J.ns (Cj.ret (Ej.keep (Keeps.k (Keeps.d Keeps.n)) ?_))
 have hi : q.i ≠ Ix.nIsbn := nbf hc2
 refine q5 ?_
 exact ⟨_, rfl, ob, mb, kb, rfl, hmb.congr fun t => by rw [if_neg hi]; exact congrArg (fun l => inL l t) (flat_one _ _), rfl⟩
theorem rel3_ok (xv : Value) (L : Ix.Ix) (q : Cq.Qn) (p : Option Addr) (c : Nat) (hq : q.t.length ≤ 10000000) (I : Heap) (hx : IxV I xv L) : Ctr Tryz.prog 154 [xv, .agg (qCells q p c).toArray] I [] (fun e _ H' => ∃ w, e = .returned w ∧ OwnS w (fun t => (Ke.words q.t).any fun w => decide (t ∈ Ix.word L q.i w)) H') := by
 have hbig := hx.big
 have hwl := Ke.words_len q.t
 refine Ctr.ob func154 ?_
 intro w0 hw0
 refine Cj.sr (J.op rfl (q15 ?_))
 intro b1 hb1
 refine J.z q1 ?_
 refine J.nssr (J.z q0 ?_)
 refine J.z (q10 tA32 tS32 (Blk.at 0 rfl)) ?_
 refine J.op rfl (op_call (H1 := []) rfl rfl rfl rfl rfl (swords_ok xv L q p c hq _ hx) ?_ (fun _ _ _ _ ⟨_, _, h, _⟩ => by cases h) (fun _ _ ⟨_, _, h, _⟩ => by cases h))
 intro v2 I3 H4 hle5 hp6
 have hx := hx.mono hle5
 obtain ⟨wl, ls, h, hmp, hls, rfl⟩ := hp6; cases h
 have hlen : ∀ x ∈ ls, x.1.length ≤ 1000000 := fun x hx => by
   have h9 : x.1 ∈ ls.map (·.1) := List.mem_map_of_mem hx
   rw [hmp] at h9
   obtain ⟨y, _, hy⟩ := List.mem_map.1 h9
   rw [← hy]
   exact nlt (word_le _ _ _) (by omega)
 have hll : ls.length = (Ke.words q.t).length := by have h := congrArg List.length hmp; rw [List.length_map, List.length_map] at h; exact h
 obtain ⟨pl, cl, hpcl, hcl, -⟩ := id hls.1
 subst hpcl
 refine J.op rfl (op_call (H1 := []) rfl rfl rfl rfl rfl (of_ok ls _ (by omega) hlen _ hls) ?_ (fun _ _ _ _ ⟨_, h, _⟩ => by cases h) (fun _ _ ⟨_, h, _⟩ => by cases h))
 intro v7 I8 H9 hle10 hp11
 obtain ⟨wb, h, ob, mb, kb, rfl, hmb, rfl⟩ := hp11; cases h
 refine J.z q1 ?_
 refine J.ns (Cj.ret (Ej.keep (Keeps.k (Keeps.d Keeps.n)) ?_))
 refine q5 ?_
 exact ⟨_, rfl, ob, mb, kb, rfl, hmb.congr (anyL hmp), rfl⟩
theorem SetV.congr {I : Heap} {v : Value} {S S' : Ix.Rec → Bool} (h : SetV I v S) (he : ∀ t, S t = S' t) : SetV I v S' :=
  h.imp (fun ⟨h1, h2⟩ => ⟨h1, fun t => by rw [← he t]; exact h2 t⟩) fun ⟨b, m, k, h1, h2, h3⟩ => ⟨b, m, k, h1, h2.congr he, h3⟩
theorem allS_one {ls : List LR} {x : LR} (h : ls[0]? = some x) (t : Ix.Rec) : allS (ls.take (0 + 1)) t = inL x.1 t := by
  rw [allS_next h t]; rfl
theorem rel4_ok (xv : Value) (L : Ix.Ix) (q : Cq.Qn) (p : Option Addr) (c : Nat) (hq : q.t.length ≤ 10000000) (I : Heap) (hx : IxV I xv L) : Ctr Tryz.prog 156 [xv, .agg (qCells q p c).toArray] I [] (fun e I' H' => ∃ w, e = .returned w ∧ SetV I' w (fun t => !(Ke.words q.t).isEmpty && (Ke.words q.t).all fun w => decide (t ∈ Ix.word L q.i w)) ∧ H' = []) := by
 have hbig := hx.big
 have hwl := Ke.words_len q.t
 refine Ctr.ob func156 ?_
 intro w0 hw0
 refine Cj.sr (J.op rfl (q15 ?_))
 intro b1 hb1
 refine J.z q1 ?_
 refine J.nssr (J.z q0 ?_)
 refine J.z (q10 tA32 tS32 (Blk.at 0 rfl)) ?_
 refine J.op rfl (op_call (H1 := []) rfl rfl rfl rfl rfl (swords_ok xv L q p c hq _ hx) ?_ (fun _ _ _ _ ⟨_, _, h, _⟩ => by cases h) (fun _ _ ⟨_, _, h, _⟩ => by cases h))
 intro v2 I3 H4 hle5 hp6
 have hx := hx.mono hle5
 obtain ⟨wl, ls, h, hmp, hls, rfl⟩ := hp6; cases h
 have hlen : ∀ x ∈ ls, x.1.length ≤ 1000000 := fun x hx => by
   have h9 : x.1 ∈ ls.map (·.1) := List.mem_map_of_mem hx
   rw [hmp] at h9
   obtain ⟨y, _, hy⟩ := List.mem_map.1 h9
   rw [← hy]
   exact nlt (word_le _ _ _) (by omega)
 have hll : ls.length = (Ke.words q.t).length := by have h := congrArg List.length hmp; rw [List.length_map, List.length_map] at h; exact h
 obtain ⟨pl, cl, hpcl, hcl, -⟩ := id hls.1
 subst hpcl
 refine J.z q1 ?_
 refine J.nsss (Cj.region (J.z q0 ?_))
 refine J.z (q14 tU225) ?_
 refine J.z q19 ?_
 refine J.cd (fun hc7 => ?_) (fun hc7 => ?_)
 ·have hc7p := ebq hc7
  refine Cj.sr (J.z q1 ?_)
  refine J.ns (Cj.ret (Ej.seqRet (Ej.bare ?_)))
  refine q5 ?_
  exact ⟨_, rfl, .inl ⟨rfl, fun t => by rw [show Ke.words q.t = [] from List.length_eq_zero_iff.1 (by have h := ebq hc7; omega)]; rfl⟩, rfl⟩
 have hc7p := nbf hc7
 have hl0 : 0 < ls.length := by have h := nbf hc7; omega
 obtain ⟨⟨xs0, xv0⟩, hget0⟩ : ∃ x, ls[0]? = some x := ⟨_, lgg hl0⟩
 obtain ⟨p1, c1, hpe, hc1, hp⟩ := id hls.1
 cases hpe
 obtain ⟨lb, lo, lcs, lty, lfr, lsp, rfl, hlb, hld⟩ := hp (ne_nil_of hl0)
 have hra := hls.2 _ (lmg hget0)
 dsimp only at hra
 have hxl0 := hlen _ (lmg hget0)
 dsimp only at hxl0
 obtain ⟨pa, ca, rfl⟩ := rowS_len hra
 have hts := RowS.cut (f := lrC) (sz := 1) (fun _ => rfl) hls.1 (j := 1) (k := ls.length) hl0 (Nat.le_refl _)
 rw [List.take_of_length_le (by simp)] at hts
 obtain ⟨p4, c4, he4⟩ := rowS_len hts
 rw [he4] at hts
 refine Cj.skip (Ej.seq (Cj.sr (J.z q0 ?_)))
 refine J.z (q16 (off' := lo + 0) tU225 tS36) ?_
 refine J.z (yl_load rfl rfl isAgg36 (Blk.imm hlb) (sl_of_row hld hget0)) ?_
 refine J.op rfl (q17 tU225 tS36 tZ36 (LCat.one rfl LCat.none) ?_)
 intro b8 hb8
 refine J.persist hb8 (fun I10 hle9 hb8i => ?_)
 have hx := hx.mono hle9
 have hls := hls.mono hle9
 have hra := hra.mono hle9
 have hts := hts.mono hle9
 have hls1 : LLS _ [(xs0, .slice pa _ ca)] (.slice (some ⟨b8, 0, none⟩) 1 1) := ⟨RowS.of (l := [((xs0, .slice pa _ ca) : LR)]) (sp := []) (Nat.le_refl _) hb8i, fun x hx => by rw [List.mem_singleton.1 hx]; exact hra⟩
 refine J.op rfl (op_call (H1 := []) rfl rfl rfl rfl rfl (of_ok [(xs0, _)] _ (by show 1 ≤ _; decide) (fun x hx => by rw [List.mem_singleton.1 hx]; exact hxl0) _ hls1) ?_ (fun _ _ _ _ ⟨_, h, _⟩ => by cases h) (fun _ _ ⟨_, h, _⟩ => by cases h))
 intro v11 I12 H13 hle14 hp15
 have hx := hx.mono hle14
 have hts := hts.mono hle14
 have hls := hls.mono hle14
 obtain ⟨wb, h, ob, mb, kb, rfl, hmb, rfl⟩ := hp15; cases h
 refine J.z q1 ?_
 refine J.nsss (Cj.isNew rfl (fun hnew7 => ?_))
 refine Cj.persist (hnew7 _ (.head _)) (fun I7 hle7 hb7 => ?_)
 have hx := hx.mono hle7
 have hts := hts.mono hle7
 have hls := hls.mono hle7
 have hset : SetV I7 (.map (some ob)) (allS (ls.take (0 + 1))) := .inr ⟨ob, mb, kb, rfl, hmb.congr (fun t => by rw [allS_one hget0 t, flat_one]), hb7⟩
 refine Cj.region (J.z q0 ?_)
 refine J.z (yl_slice1 (j := 1) rfl rfl rfl tU225 tS36 rfl hl0 hcl) ?_
 refine J.eqv 22 rfl (show _ = .slice p4 (ls.drop 1).length c4 from he4) ?_
 refine J.z (q14 tU225) ?_
 refine J.z q0 ?_
 refine J.ns (Cj.block (Cj.loop (ι := Nat × Heap × Value) (fun y => y.1 + 1 ≤ ls.length ∧ Le I7 y.2.1 ∧ SetV y.2.1 y.2.2 (allS (ls.take (y.1 + 1)))) (fun y => ls.length - y.1) (fun y => [(3, ptr b1 0), (6, y.2.2), (22, .slice p4 (ls.drop 1).length c4), (23, i64 ((ls.drop 1).length : Int)), (24, i64 (y.1 : Int))]) (fun y => y.2.1) (fun y => [(b1, cel 32 (qCells q p c))]) (0, _, _) ⟨hl0, Le.refl _, hset⟩ ⟨rfl, rfl, rfl, rfl, rfl, trivial⟩ rfl rfl ?_))
 clear hset
 rintro ⟨i, J1, sv⟩ ⟨hi, hIJ, hset⟩
 dsimp only at hi hIJ hset ⊢
 have hls := hls.mono hIJ
 have hts := hts.mono hIJ
 have hdl : (ls.drop 1).length = ls.length - 1 := List.length_drop
 refine Cj.sr (J.z q18 ?_)
 refine J.nss (Cj.cond rfl (fun hc16 => ?_) (fun hc16 => ?_))
 ·have hc16p := odt hc16
  have hlt : i + 1 < ls.length := by omega
  obtain ⟨⟨xs, xv1⟩, hget⟩ : ∃ x, ls[i + 1]? = some x := ⟨_, lgg hlt⟩
  have hgd : (ls.drop 1)[i]? = some (xs, xv1) := by rw [List.getElem?_drop, Nat.add_comm]; exact hget
  obtain ⟨p5, c5, hpe5, hc5, hp5⟩ := id hts
  cases hpe5
  obtain ⟨tb, tof, tcs, tty, tfr, tsp, rfl, htb, htd⟩ := hp5 (ne_nil_of (by omega : i < (ls.drop 1).length))
  have hrb := hls.2 _ (lmg hget)
  dsimp only at hrb
  have hxl := hlen _ (lmg hget)
  dsimp only at hxl
  obtain ⟨pb, cb, rfl⟩ := rowS_len hrb
  have hnx := allS_next hget
  refine Cj.skip (Ej.seq (Cj.seq (Cj.block (Cj.sr (J.z (q16 (off' := tof + i) tU225 tS36) ?_)))))
  refine J.z (yl_load rfl rfl isAgg36 (Blk.imm htb) (sl_of_row htd hgd)) ?_
  refine J.z q1 ?_
  refine J.nssr (J.z q0 ?_)
  refine J.op rfl (q17 tU225 tS36 tZ36 (LCat.one rfl LCat.none) ?_)
  intro b17 hb17
  refine J.persist hb17 (fun I19 hle18 hb17i => ?_)
  have hset := hset.mono hle18
  have hIJ := hIJ.mono hle18
  have hrb := hrb.mono hle18
  have hls2 : LLS _ [(xs, .slice pb _ cb)] (.slice (some ⟨b17, 0, none⟩) 1 1) := ⟨RowS.of (l := [((xs, .slice pb _ cb) : LR)]) (sp := []) (Nat.le_refl _) hb17i, fun x hx => by rw [List.mem_singleton.1 hx]; exact hrb⟩
  refine J.op rfl (op_call (H1 := []) rfl rfl rfl rfl rfl (of_ok [(xs, _)] _ (by show 1 ≤ _; decide) (fun x hx => by rw [List.mem_singleton.1 hx]; exact hxl) _ hls2) ?_ (fun _ _ _ _ ⟨_, h, _⟩ => by cases h) (fun _ _ ⟨_, h, _⟩ => by cases h))
  intro v20 I21 H22 hle23 hp24
  have hset := hset.mono hle23
  have hIJ := hIJ.mono hle23
  obtain ⟨wc, h, oc, mc, kc, rfl, hmc, rfl⟩ := hp24; cases h
  refine J.op rfl (q21 zeroValue120 ?_)
  intro b25 hb25
  refine J.op rfl (q9 0 sizeOf120 (LSpl.c LSpl.z) LSet.z ?_)
  refine J.ns (Cj.pull (Pull.s Pull.z) ?_)
  refine Cj.isNew rfl (fun hnew6 => ?_)
  refine Cj.persist (hnew6 _ (.head _)) (fun I6 hle6 hb6 => ?_)
  have hset := hset.mono hle6
  have hIJ := hIJ.mono hle6
  have hset2 : SetV I6 (.map (some oc)) (inL xs) := .inr ⟨oc, mc, kc, rfl, hmc.congr (fun t => congrArg (fun l => inL l t) (flat_one _ _)), hb6⟩
  refine Cj.persist hb25 (fun I27 hle26 hb25i => ?_)
  have hset := hset.mono hle26
  have hIJ := hIJ.mono hle26
  have hset2 := hset2.mono hle26
  refine Cj.region (J.z q0 ?_)
  refine J.z (yl_makeFunc rfl rfl rfl) ?_
  refine J.op rfl (op_call (H1 := []) rfl rfl rfl rfl rfl (only_ok _ (allS (ls.take (i + 1))) (inL xs) _ [ptr b25 0] _ hset (fun t _ => shas_ok b25 _ (inL xs) t _ hb25i hset2)) ?_ (fun _ _ _ _ ⟨_, h, _⟩ => by cases h) (fun _ _ ⟨_, h, _⟩ => by cases h))
  intro v28 I29 H30 hle31 hp32
  have hIJ := hIJ.mono hle31
  obtain ⟨wd, h, od, md, kd, rfl, hmd, rfl⟩ := hp32; cases h
  refine J.z q1 ?_
  refine J.nil (Ej.blkNormal (Ej.seq (Cj.isNew rfl (fun hnew8 => ?_))))
  refine Cj.persist (hnew8 _ (.head _)) (fun I8 hle8 hb8 => ?_)
  have hIJ := hIJ.mono hle8
  have hset3 : SetV I8 (.map (some od)) (allS (ls.take (i + 1 + 1))) := .inr ⟨od, md, kd, rfl, hmd.congr (fun t => (hnx t).symm), hb8⟩
  refine Cj.region (J.z (yl_add rfl rfl rfl (w64 (by omega))) ?_)
  refine J.z q0 ?_
  refine J.nil (Ej.round (i + 1, _, _) ⟨by dsimp only; omega, hIJ, hset3⟩ (by dsimp only; omega) ⟨rfl, rfl, rfl, rfl, rfl, trivial⟩ rfl rfl)
 have hc16p := odf hc16
 refine Cj.exit (Ej.seqExit (Ej.loopExit (Ej.blkExit (Ej.seq (Cj.sr (J.z q0 ?_))))))
 refine J.z q1 ?_
 refine J.ns (Cj.ret (Ej.bare ?_))
 refine q5 ?_
 refine ⟨_, rfl, ?_, rfl⟩
 rw [List.take_of_length_le (by omega : ls.length ≤ i + 1)] at hset
 refine hset.congr fun t => ?_
 rw [allL hmp]
 rw [show (Ke.words q.t).isEmpty = false from by
   cases hw : Ke.words q.t with
   | nil => rw [hw] at hll; rw [hll] at hl0; exact absurd hl0 (Nat.lt_irrefl 0)
   | cons a r => rfl]
 rfl
theorem rel5_ok (xv : Value) (L : Ix.Ix) (q : Cq.Qn) (p : Option Addr) (c : Nat) (hq : q.t.length ≤ 10000000) (I : Heap) (hx : IxV I xv L) (hT : STab I) (htk : Ix.TOK L) : Ctr Tryz.prog 158 [xv, .agg (qCells q p c).toArray] I [] (fun e _ H' => ∃ w, e = .returned w ∧ OwnS w (fun t => decide (t ∈ Ix.keyed L q.i (Ix.keysAll L q.i (Ix.keyOf q.i q.t)))) H') := by
 have hbig := hx.big
 have hsrt := hx.srt
 have hvok := hx.vok
 obtain ⟨hsl, hsl2⟩ := scan_lens hsrt hvok hbig q.i q.t
 refine Ctr.ob func158 ?_
 intro w0 hw0
 refine Cj.sr (J.op rfl (q15 ?_))
 intro b1 hb1
 refine J.z q1 ?_
 refine J.nss (Cj.persist hb1 (fun I3 hle2 hb1i => ?_))
 have hx := hx.mono hle2
 have hT := hT.mono hle2
 refine Cj.drawSel [] [] 11 (by kernel_rfl) ?_
 have hb1i_1 := hb1i
 refine JA.fix fx1 (fun fx4 => ?_)
 refine JA.tk 0 rfl fx4 q0 ?_
 refine JA.tk 1 rfl fx4 (q2 (off' := 1) tU32 tS9) ?_
 refine JA.tk 2 rfl fx4 (q3 tA9 (Blk.immC hb1i_1)) ?_
 refine JA.tk 3 rfl fx4 q0 ?_
 refine JA.tk 4 rfl fx4 (q2 (off' := 1) tU32 tS9) ?_
 refine JA.tk 5 rfl fx4 (q3 tA9 (Blk.immC hb1i_1)) ?_
 refine JA.tk 6 rfl fx4 (q2 (off' := 3) tU32 tS9) ?_
 refine JA.tk 7 rfl fx4 (q3 tA9 (Blk.immC hb1i_1)) ?_
 refine q4 8 rfl (op_callN rfl rfl rfl rfl rfl (ScanV_ok xv L q.i q.t (by omega) mostI _ hx) ?_ (fun _ _ _ _ ⟨_, h, _⟩ => by cases h) (fun _ _ ⟨_, h, _⟩ => by cases h))
 intro v6 I7 H8 hle9 hn5 hp10
 have hx := hx.mono hle9
 have hT := hT.mono hle9
 obtain ⟨wa, h, hoa⟩ := hp10; cases h
 have hna := hn5
 refine ⟨⟨(Le.trans (Le.refl _) hle9), HSub.n, CSub.n⟩, ?_⟩
 refine JA.keepO hoa hna (fun Ia hlea hra => ?_)
 have hx := hx.mono hlea
 have hT := hT.mono hlea
 replace hra := hra.row
 obtain ⟨pa, ca, hpa, hca, -⟩ := id hra
 subst hpa
 refine q4 9 rfl (op_call (H1 := []) rfl rfl rfl rfl rfl (keyed_ok xv L q.i ((Ix.scan L q.i q.t mostI).map lineI) _ (scan_keyT htk hsrt hvok hbig q.i q.t) (by omega) _ hx hT hra) ?_ (fun _ _ _ _ ⟨_, h, _⟩ => by cases h) (fun _ _ ⟨_, h, _⟩ => by cases h))
 intro v11 I12 H13 hle14 hp15
 obtain ⟨wb, h, ob, mb, kb, rfl, hmb, rfl⟩ := hp15; cases h
 refine ⟨⟨(Le.trans (Le.trans (Le.trans (Le.refl _) hle9) hlea) hle14), HSub.n, CSub.n⟩, ?_⟩
 refine JA.fix ⟨HSub.n, CSub.n, (Le.trans (Le.trans (Le.trans (Le.refl _) hle9) hlea) hle14)⟩ (fun fx16 => ?_)
 refine JA.tk 10 rfl fx16 q1 ?_
 refine q8 ?_
 refine Ej.seq (Cj.ret (Ej.keep (Keeps.k Keeps.n) ?_))
 refine q5 ?_
 exact ⟨_, rfl, ob, mb, kb, rfl, hmb.congr fun t => congrArg (fun l => inL (Ix.keyed L q.i l) t) (scan_all hsrt hvok hbig q.i q.t), rfl⟩
theorem rel6_ok (xv : Value) (L : Ix.Ix) (q : Cq.Qn) (p : Option Addr) (c : Nat) (hq : q.t.length ≤ 10000000) (I : Heap) (hx : IxV I xv L) (hT : STab I) (htk : Ix.TOK L) : Ctr Tryz.prog 161 [xv, .agg (qCells q p c).toArray] I [] (fun e _ H' => ∃ w, e = .returned w ∧ OwnS w (fun t => decide (t ∈ Ix.keyed L q.i ((Ix.keysAll L q.i []).take ((Ix.keysAll L q.i []).length - (Ix.keysAll L q.i (Ix.keyOf q.i q.t)).length)))) H') := by
 have hbig := hx.big
 have hsrt := hx.srt
 have hvok := hx.vok
 obtain ⟨hsl, hsl2⟩ := scan_lens hsrt hvok hbig q.i q.t
 obtain ⟨hsm, hsm2⟩ := scan_lens hsrt hvok hbig q.i []
 rw [Ix.keyOf_nil] at hsm hsm2
 have hkl := keys_le2 hsrt q.i (Ix.keyOf q.i q.t)
 refine Ctr.ob func161 ?_
 intro w0 hw0
 refine Cj.sr (J.op rfl (q15 ?_))
 intro b1 hb1
 refine J.z q1 ?_
 refine J.nss (Cj.persist hb1 (fun I3 hle2 hb1i => ?_))
 have hx := hx.mono hle2
 have hT := hT.mono hle2
 refine Cj.drawSel [] [] 12 (by kernel_rfl) ?_
 have hb1i_1 := hb1i
 refine JA.fix fx1 (fun fx4 => ?_)
 refine JA.tk 0 rfl fx4 q0 ?_
 refine JA.tk 1 rfl fx4 (q2 (off' := 1) tU32 tS9) ?_
 refine JA.tk 2 rfl fx4 (q3 tA9 (Blk.immC hb1i_1)) ?_
 refine JA.tk 4 rfl fx4 q0 ?_
 refine JA.tk 5 rfl fx4 (q2 (off' := 1) tU32 tS9) ?_
 refine JA.tk 6 rfl fx4 (q3 tA9 (Blk.immC hb1i_1)) ?_
 refine JA.tk 7 rfl fx4 (q2 (off' := 3) tU32 tS9) ?_
 refine JA.tk 8 rfl fx4 (q3 tA9 (Blk.immC hb1i_1)) ?_
 refine q4 3 rfl (op_callN rfl rfl rfl rfl rfl (ScanV_ok xv L q.i [] (by decide) mostI _ hx) ?_ (fun _ _ _ _ ⟨_, h, _⟩ => by cases h) (fun _ _ ⟨_, h, _⟩ => by cases h))
 intro v6 I7 H8 hle9 hn5 hp10
 have hx := hx.mono hle9
 have hT := hT.mono hle9
 have hb1i := hle9 _ _ hb1i
 obtain ⟨wa, h, hoa⟩ := hp10; cases h
 have hna := hn5
 refine ⟨⟨(Le.trans (Le.refl _) hle9), HSub.n, CSub.n⟩, ?_⟩
 refine JA.keepO hoa hna (fun Ia hlea hra => ?_)
 have hx := hx.mono hlea
 have hT := hT.mono hlea
 have hb1i := hlea _ _ hb1i
 replace hra := hra.row
 obtain ⟨pa, ca, hpa, hca, -⟩ := id hra
 subst hpa
 refine q4 9 rfl (op_callN rfl rfl rfl rfl rfl (ScanV_ok xv L q.i q.t (by omega) mostI _ hx) ?_ (fun _ _ _ _ ⟨_, h, _⟩ => by cases h) (fun _ _ ⟨_, h, _⟩ => by cases h))
 intro v12 I13 H14 hle15 hn11 hp16
 have hx := hx.mono hle15
 have hT := hT.mono hle15
 have hb1i := hle15 _ _ hb1i
 have hra := hra.mono hle15
 obtain ⟨wd, h, hod⟩ := hp16; cases h
 have hnd := hn11
 refine ⟨⟨(Le.trans (Le.trans (Le.trans (Le.refl _) hle9) hlea) hle15), HSub.n, CSub.n⟩, ?_⟩
 refine JA.keepO hod hnd (fun Id hled hrd => ?_)
 have hx := hx.mono hled
 have hT := hT.mono hled
 have hb1i := hled _ _ hb1i
 have hra := hra.mono hled
 replace hrd := hrd.row
 obtain ⟨pd, cd, hpd, hcd, -⟩ := id hrd
 subst hpd
 refine JA.fix ⟨HSub.n, CSub.n, (Le.trans (Le.trans (Le.trans (Le.trans (Le.refl _) hle9) hlea) hle15) hled)⟩ (fun fx17 => ?_)
 refine JA.tk 10 rfl fx17 q1 ?_
 refine JA.tk 11 rfl fx17 q1 ?_
 refine q8 ?_
 refine Ej.seq (Cj.seq (Cj.drawSel [] [] 12 (by kernel_rfl) ?_))
 have hb1i_2 := hb1i
 refine JA.fix fx1 (fun fx18 => ?_)
 refine JA.tk 0 rfl fx18 q0 ?_
 refine JA.tk 1 rfl fx18 (q2 (off' := 1) tU32 tS9) ?_
 refine JA.tk 2 rfl fx18 (q3 tA9 (Blk.immC hb1i_2)) ?_
 refine JA.tk 3 rfl fx18 q0 ?_
 refine JA.tk 4 rfl fx18 q0 ?_
 refine JA.tk 5 rfl fx18 (q14 tU228) ?_
 refine JA.tk 6 rfl fx18 q0 ?_
 refine JA.tk 7 rfl fx18 (q14 tU228) ?_
 refine JA.tk 8 rfl fx18 (yl_sub rfl rfl rfl (w64 (by omega))) ?_
 refine JA.eqv 25 rfl (show _ = i64 ((((Ix.scan L q.i [] mostI).map lineI).length - ((Ix.scan L q.i q.t mostI).map lineI).length) : Nat) from (congrArg i64 (by omega))) ?_
 refine JA.tk 9 rfl fx18 (yl_sliceTo rfl rfl rfl tU228 tS268 (by omega)) ?_
 refine q4 10 rfl (op_call (H1 := []) rfl rfl rfl rfl rfl (keyed_ok xv L q.i (((Ix.scan L q.i [] mostI).map lineI).take (((Ix.scan L q.i [] mostI).map lineI).length - ((Ix.scan L q.i q.t mostI).map lineI).length)) _ (fun x hx => scan_keyT htk hsrt hvok hbig q.i [] x (List.mem_of_mem_take hx)) (by rw [List.length_take]; omega) _ hx hT (RowS.take hra (Nat.sub_le _ _))) ?_ (fun _ _ _ _ ⟨_, h, _⟩ => by cases h) (fun _ _ ⟨_, h, _⟩ => by cases h))
 intro v19 I20 H21 hle22 hp23
 obtain ⟨wb, h, ob, mb, kb, rfl, hmb, rfl⟩ := hp23; cases h
 refine ⟨⟨(Le.trans (Le.refl _) hle22), HSub.n, CSub.n⟩, ?_⟩
 refine JA.fix ⟨HSub.n, CSub.n, (Le.trans (Le.refl _) hle22)⟩ (fun fx24 => ?_)
 refine JA.tk 11 rfl fx24 q1 ?_
 refine q8 ?_
 refine Ej.seq (Cj.ret (Ej.keep (Keeps.k Keeps.n) ?_))
 refine q5 ?_
 exact ⟨_, rfl, ob, mb, kb, rfl, hmb.congr fun t => by rw [List.map_take, scan_all hsrt hvok hbig q.i [], hsl, hsm, Ix.keyOf_nil]; rfl, rfl⟩
theorem relations_ok (I : Heap) : Ctr Tryz.prog 102 [] I [] (fun e I' H' => ∃ kb mb, e = .returned (.map (some mb)) ∧ I' kb = some (cel 121 [.func (.func 151) #[] #[]]) ∧ I' mb = some (mobj (fun a : List UInt8 => str a) (relM kb) 6) ∧ H' = []) := by
 refine Ctr.ob func102 ?_
 intro w0 hw0
 refine Cj.sr (J.z q1 ?_)
 refine J.nssr (J.op rfl (q21 zeroValue121 ?_))
 intro b1 hb1
 refine J.op rfl (q9 0 sizeOf121 (LSpl.c LSpl.z) LSet.z ?_)
 refine J.nssr (J.op rfl (op_makeMap rfl rfl rfl ?_))
 intro b2 hb2
 refine J.z (yl_makeFunc rfl rfl rfl) ?_
 refine J.op rfl (op_insert (kv := (fun a : List UInt8 => str a)) (l := []) (c := 0) (a := [61]) 0 (.inl rfl) rfl rfl rfl rfl rfl tU183 (KeyK.text tU9) rfl LSet.z ?_)
 refine J.z (q3 isAgg121 (Blk.at 1 rfl)) ?_
 refine J.op rfl (op_insert (kv := (fun a : List UInt8 => str a)) (a := [61, 61]) 0 (.inl rfl) rfl rfl rfl rfl rfl tU183 (KeyK.text tU9) rfl LSet.z ?_)
 refine J.op rfl (op_insert (kv := (fun a : List UInt8 => str a)) (a := [97, 110, 121]) 0 (.inl rfl) rfl rfl rfl rfl rfl tU183 (KeyK.text tU9) rfl LSet.z ?_)
 refine J.op rfl (op_insert (kv := (fun a : List UInt8 => str a)) (a := [97, 108, 108]) 0 (.inl rfl) rfl rfl rfl rfl rfl tU183 (KeyK.text tU9) rfl LSet.z ?_)
 refine J.op rfl (op_insert (kv := (fun a : List UInt8 => str a)) (a := [62, 61]) 0 (.inl rfl) rfl rfl rfl rfl rfl tU183 (KeyK.text tU9) rfl LSet.z ?_)
 refine J.op rfl (op_insert (kv := (fun a : List UInt8 => str a)) (a := [60]) 0 (.inl rfl) rfl rfl rfl rfl rfl tU183 (KeyK.text tU9) rfl LSet.z ?_)
 refine J.z q0 ?_
 refine J.z q1 ?_
 refine J.ns (Cj.ret (Ej.pull (Pull.s Pull.z) ?_))
 refine Ej.persist hb1 (fun I4 hle3 hb1i => ?_)
 refine Ej.persist hb2 (fun I6 hle5 hb2i => ?_)
 have hb1i := hle5 _ _ hb1i
 refine Ej.bare ?_
 refine q5 ?_
 exact ⟨b1, b2, rfl, hb1i, hb2i, rfl⟩
end Go.Proofs.YtekmeaoblpfnpaaGreatDoor
namespace Ix
open Ke
def termQ (i r s : Bs) : Cq.Qn := ⟨1, i, r, s, .nil⟩
def bothQ (k : Int) (a b : Cq.Qn) : Cq.Qn := ⟨k, [], [], [], a.push (b.push .nil)⟩
theorem sat_in (L : Ix) {t : Rec} : ∀ (n : Nat) (q : Cq.Qn), q.size < n → Cq.form q = true → sat L q t = true → t ∈ L.map (·.1)
  | 0, _, h, _, _ => absurd h (Nat.not_lt_zero _)
  | n + 1, q, hn, hf, h => by
    rcases Cq.form_tree hf with hk | ⟨hk, h2, h4, a, b, htw, ha, hb⟩
    · rw [sat_term hk] at h; exact satT_in h
    rw [sat_two hk htw] at h
    have hs := htw.size
    unfold comb at h
    split at h
    · rw [Bool.and_eq_true] at h; exact sat_in L n a (by omega) ha h.1
    split at h
    · rw [Bool.or_eq_true] at h
      exact h.elim (sat_in L n a (by omega) ha) (sat_in L n b (by omega) hb)
    rw [Bool.and_eq_true] at h; exact sat_in L n a (by omega) ha h.1
theorem isRun_of {L : Ix} {q : Cq.Qn} (hf : Cq.form q = true) {l : List Rec} (hp : l.Pairwise (lessS L)) (hm : ∀ t, t ∈ l ↔ sat L q t = true) : IsRun L q l :=
  ⟨hp, fun t => ⟨fun h => ⟨sat_in L _ q (Nat.lt_succ_self _) hf ((hm t).1 h), (hm t).1 h⟩, fun h => (hm t).2 h.2⟩⟩
end Ix
namespace Ix
open Ke
theorem bothQ_size (k : Int) (a b : Cq.Qn) : (bothQ k a b).size = a.size + b.size + 2 := by grind [bothQ, Cq.Qn.size, Cq.Qn.push, Cq.Qs.size]
theorem bothQ_wide (k : Int) (a b : Cq.Qn) : (bothQ k a b).wide = a.wide + b.wide := by grind [bothQ, Cq.Qn.wide, Cq.Qn.push, Cq.Qs.wide, List.length_nil]
theorem termQ_form {i r : Bs} (hi : i ∈ Cq.indexes) (hr : r ∈ Cq.relations) (s : Bs) : Cq.form (termQ i r s) = true := by
  rw [Cq.form_term (q := termQ i r s) rfl, Bool.and_eq_true, Bool.and_eq_true]
  exact ⟨⟨List.contains_iff_mem.2 hi, List.contains_iff_mem.2 hr⟩, rfl⟩
theorem bothQ_form {k : Int} (h2 : 2 ≤ k) (h4 : k ≤ 4) {a b : Cq.Qn} (ha : Cq.form a = true) (hb : Cq.form b = true) : Cq.form (bothQ k a b) = true := by
  rw [Cq.form_two (q := bothQ k a b) (a := a) (b := b) (by show k ≠ 1; omega) (by show ¬ (k < 2 ∨ k > 4 ∨ ([] : Bs) ≠ [] ∨ ([] : Bs) ≠ [] ∨ ([] : Bs) ≠ [] ∨ (a.push (b.push .nil)).len ≠ 2); simp [Cq.Qn.push, Cq.Qs.len]; omega) rfl, ha, hb]
  rfl
theorem right_of {q : Cq.Qn} (h : Cq.form q = true) (hd : Cq.depth q ≤ 50) : Cq.right q = true := by
  unfold Cq.right; rw [h, decide_eq_true hd]; rfl
theorem right_term {i r : Bs} (hi : i ∈ Cq.indexes) (hr : r ∈ Cq.relations) (s : Bs) : Cq.right (termQ i r s) = true :=
  right_of (termQ_form hi hr s) (by rw [Cq.depth_term (q := termQ i r s) rfl]; exact Nat.zero_le _)
theorem bothQ_depth {k : Int} (hk : k ≠ 1) (a b : Cq.Qn) : Cq.depth (bothQ k a b) ≤ max (Cq.depth b + 1) (Cq.depth a) := by
  rw [Cq.depth_two (q := bothQ k a b) (a := a) (b := b) hk rfl]
  have : Cq.up b.k ≤ 1 := by unfold Cq.up; split <;> omega
  omega
theorem right_both {k : Int} (h2 : 2 ≤ k) (h4 : k ≤ 4) {a b : Cq.Qn} (ha : Cq.form a = true) (hb : Cq.form b = true) (da : Cq.depth a ≤ 49) (db : Cq.depth b ≤ 49) : Cq.right (bothQ k a b) = true := by grind [right_of, bothQ_form, Nat.le_trans, bothQ_depth]
theorem isRun_by {L : Ix} {q : Cq.Qn} {l : List Rec} (h1 : l.Pairwise (lessS L)) (h2 : ∀ t ∈ L.map (·.1), (t ∈ l ↔ sat L q t = true)) (h3 : ∀ t ∈ l, t ∈ L.map (·.1)) : IsRun L q l :=
  ⟨h1, fun t => ⟨fun h => ⟨h3 t h, (h2 t (h3 t h)).1 h⟩, fun h => (h2 t h.1).2 h.2⟩⟩
