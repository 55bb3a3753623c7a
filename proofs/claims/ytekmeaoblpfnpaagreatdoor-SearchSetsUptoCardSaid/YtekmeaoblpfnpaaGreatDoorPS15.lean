/-
  Own texts on the laws of the seat, joined: the logic, and contracts of functions. Conditions: none.
-/
import Derived.Test.YtekmeaoblpfnpaaGreatDoorNmS
import Derived.Test.YtekmeaoblpfnpaaGreatDoorPS14
set_option linter.all false
set_option maxRecDepth 100000
set_option maxHeartbeats 40000000
section
namespace Go.Proofs.YtekmeaoblpfnpaaGreatDoor
open _root_.Go.Proofs.Tryz
open Go Go.Sx
def a3o (k : Int) (a b : Bool) : Bool := if k = 2 then a && b else if k = 3 then a || b else if k = 4 then a && !b else a
theorem b0z {k} (h2 : 2 ≤ k) (h4 : k ≤ 4) a b : a3o k a b = Ix.comb k a b := by
  have h : k = 2 ∨ k = 3 ∨ k = 4 := by omega
  rcases h with rfl | rfl | rfl <;> rfl
theorem a1u {L q t} (ht : t ∈ L.map (·.1)) : decide (t ∈ Ix.TR L q) = Ix.sat L q t := by
  rw [Bool.eq_iff_iff, decide_eq_true_eq, Ix.a5x]
  exact ⟨fun h => h.2, fun h => ⟨ht, h⟩⟩
theorem b1Q {es : List nM} {i : Nat} {t} (h : (es.map (·.t))[i]? = some t) : t ∈ (es.map jQ).map (·.1) := by rw [a1h]; exact lV h
def b3q (rb : Nat) (es : List nM) (q : Cq.Qn) (e : Ending) (I' : Heap) (H' : HL) : Prop := ∃ v l, e = .returned v ∧ (∀ t ∈ (es.map jQ).map (·.1), decide (t ∈ l) = Ix.sat (es.map jQ) q t) ∧ jU recC I' l v ∧ l.length ≤ 1000000 ∧ H' = []
theorem b7j (a b : Nat) : ((a : Int) == (b : Int)) = decide (a = b) := by rw [Bool.eq_iff_iff, beq_iff_eq, decide_eq_true_eq]; omega
theorem b4r (rb : Nat) (es : List nM) (q : Cq.Qn) (p : Option Addr) (c : Nat) (hk : q.k = 1) (hrm : q.r ∈ Cq.relations) (hwd : q.wide ≤ 10000000) (hfew : Ix.QL (es.map jQ)) (htk : Ix.TOK (es.map jQ)) (I : Heap) (hx : AO I rb es) : jO Tryz.prog 113 [ptr rb 0, .agg (kP q p c).toArray] I [] (b3q rb es q) := by
 have htl : q.t.length ≤ 10000000 := by unfold Cq.Qn.wide at hwd; omega
 have hwl := Ke.rE q.t
 have hLl : (es.map jQ).length ≤ 1000 := by rw [List.length_map]; exact hx.len
 have hTl : (es.map (·.t)).length ≤ 1000 := by rw [List.length_map]; exact hx.len
 have hsrt := hx.oG
 obtain ⟨hsl, hsl2⟩ := a2J hfew q.i q.t
 obtain ⟨hsm, hsm2⟩ := a2J hfew q.i []
 rw [Ix.KN] at hsm hsm2
 have hkl := b3d hsrt q.i (Ix.keyOf q.i q.t)
 refine jT func113 fun w0 hw0 => ?_
 refine jL 3 ?_
 intro b1 hb1
 refine jR (fun hc2 hc2p => ?_) (fun hc2 hc2p => ?_)
 ·have hrel : q.r = [61] := lQ hc2
  refine jR (fun hc3 hc3p => ?_) (fun hc3 hc3p => ?_)
  ·refine kH (a0L rb es q.i q.t (by omega) _ hx) ?_
   intro v4 I5 H6 hle7 hp8
   have hx := hx.mono hle7
   obtain ⟨va, h, hra, rfl⟩ := hp8; cases h
   obtain ⟨pa, ca, rfl⟩ := kS hra
   refine kF ?_
   exact ⟨_, _, rfl, fun t ht => by rw [Ix.XT hk, hrel]; show _ = Ix.LM _ _ Ix.rEq _ _; rw [Ix.a9K, if_pos (show q.i = Ix.uX from lQ hc3)], hra, (mY (Ix.CZ _ _ _) (by omega)), rfl⟩
  refine kH (a0r rb es q.i q.t (by omega) _ hx) ?_
  intro v9 I10 H11 hle12 hp13
  have hx := hx.mono hle12
  obtain ⟨va, h, hra, rfl⟩ := hp13; cases h
  obtain ⟨pa, ca, rfl⟩ := kS hra
  refine kF ?_
  exact ⟨_, _, rfl, fun t ht => by rw [Ix.XT hk, hrel]; show _ = Ix.LM _ _ Ix.rEq _ _; rw [Ix.a9K, if_neg (show q.i ≠ Ix.uX from lW hc3)], hra, (mY (ZX _ _ _) (by omega)), rfl⟩
 have hn1 : q.r ≠ [61] := lW hc2
 refine jR (fun hc14 hc14p => ?_) (fun hc14 hc14p => ?_)
 ·have hrel : q.r = [61, 61] := lQ hc14
  refine kH (a0L rb es q.i q.t (by omega) _ hx) ?_
  intro v15 I16 H17 hle18 hp19
  have hx := hx.mono hle18
  obtain ⟨va, h, hra, rfl⟩ := hp19; cases h
  obtain ⟨pa, ca, rfl⟩ := kS hra
  refine kF ?_
  exact ⟨_, _, rfl, fun t ht => by rw [Ix.XT hk, hrel]; exact (Ix.b5Q _ _ _ _).symm, hra, (mY (Ix.CZ _ _ _) (by omega)), rfl⟩
 have hn2 : q.r ≠ [61, 61] := lW hc14
 refine jR (fun hc20 hc20p => ?_) (fun hc20 hc20p => ?_)
 ·have hrel : q.r = [62, 61] := lQ hc20
  refine jL 1 ?_
  refine Cj.persist hb1 (fun I22 hle21 hb1i => ?_)
  have hx := hx.mono hle21
  refine Cj.qJ [] [] 11 (by kernel_rfl) ?_
  have hb1i_9 := hb1i
  refine kH (XQ rb es q.i q.t (by first | omega | decide) tN _ hx) ?_
  intro v24 I25 H26 hle27 hp28
  have hx := hx.mono hle27
  have hb1i := hle27 _ _ hb1i
  obtain ⟨va, h, hra, rfl⟩ := hp28; cases h
  obtain ⟨pa, ca, hppa, hcca, -⟩ := id hra
  subst hppa
  refine uF (a2a rb es _ rfl q.i ((Ix.scan (es.map jQ) q.i q.t tN).map lZ) _ (a1G htk hfew hsrt q.i q.t) (by omega) _ hx hra) ?_
  intro v30 I31 H32 hle33 hn29 hp34
  have hx := hx.mono hle33
  have hb1i := hle33 _ _ hb1i
  have hra := hra.mono hle33
  obtain ⟨wb1, h, hob1⟩ := hp34; cases h
  have hnb1 := hn29
  refine jL 1 ?_
  refine JA.FT hob1 hnb1 (fun Ib1 hleb1 hrb1 => ?_)
  have hx := hx.mono hleb1
  have hb1i := hleb1 _ _ hb1i
  have hra := hra.mono hleb1
  replace hrb1 := hrb1.row
  refine kF ?_
  exact ⟨_, _, rfl, fun t ht => by rw [Ix.XT hk, hrel, JJ hfew]; rfl, hrb1, (mY (KH _ _ _) (mY (Nat.mul_le_mul (by rw [List.length_map]; omega : _ ≤ 480) hLl) (by decide))), rfl⟩
 have hn3 : q.r ≠ [62, 61] := lW hc20
 refine jR (fun hc36 hc36p => ?_) (fun hc36 hc36p => ?_)
 ·have hrel : q.r = [60] := lQ hc36
  refine kH (XQ rb es q.i [] (by first | omega | decide) tN _ hx) ?_
  intro v37 I38 H39 hle40 hp41
  have hx := hx.mono hle40
  obtain ⟨va, h, hra, rfl⟩ := hp41; cases h
  obtain ⟨pa, ca, hppa, hcca, -⟩ := id hra
  subst hppa
  refine kH (XQ rb es q.i q.t (by first | omega | decide) tN _ hx) ?_
  intro v42 I43 H44 hle45 hp46
  have hx := hx.mono hle45
  have hra := hra.mono hle45
  obtain ⟨vd, h, hrd, rfl⟩ := hp46; cases h
  obtain ⟨pd, cd, hppd, hccd, -⟩ := id hrd
  subst hppd
  refine jL 4 ?_
  refine Cj.persist hb1 (fun I48 hle47 hb1i => ?_)
  have hx := hx.mono hle47
  have hra := hra.mono hle47
  have hrd := hrd.mono hle47
  refine Cj.qJ [] [] 12 (by kernel_rfl) ?_
  have hb1i_13 := hb1i
  refine jL 9 ?_
  refine JA.ev 72 (i64 ((((Ix.scan (es.map jQ) q.i [] tN).map lZ).length - ((Ix.scan (es.map jQ) q.i q.t tN).map lZ).length) : Nat)) rfl (congrArg i64 (by omega)) ?_
  refine JA.zt 9 rfl (NW rfl rfl rfl BD BH (by omega)) ?_
  refine uF (a2a rb es _ rfl q.i (((Ix.scan (es.map jQ) q.i [] tN).map lZ).take (((Ix.scan (es.map jQ) q.i [] tN).map lZ).length - ((Ix.scan (es.map jQ) q.i q.t tN).map lZ).length)) _ (fun x hx => a1G htk hfew hsrt q.i [] x (List.mem_of_mem_take hx)) (by rw [List.length_take]; omega) _ hx (jU.take hra (Nat.sub_le _ _))) ?_
  intro v51 I52 H53 hle54 hn50 hp55
  have hx := hx.mono hle54
  have hra := hra.mono hle54
  have hrd := hrd.mono hle54
  have hb1i := hle54 _ _ hb1i
  obtain ⟨wb1, h, hob1⟩ := hp55; cases h
  have hnb1 := hn50
  refine jL 1 ?_
  refine JA.FT hob1 hnb1 (fun Ib1 hleb1 hrb1 => ?_)
  have hx := hx.mono hleb1
  have hra := hra.mono hleb1
  have hrd := hrd.mono hleb1
  have hb1i := hleb1 _ _ hb1i
  replace hrb1 := hrb1.row
  refine kF ?_
  exact ⟨_, _, rfl, fun t ht => by rw [Ix.XT hk, hrel, List.map_take, JJ hfew, hsl, hsm, Ix.KN]; rfl, hrb1, (mY (KH _ _ _) (mY (Nat.mul_le_mul (by rw [List.length_map, List.length_take]; omega : _ ≤ 480) hLl) (by decide))), rfl⟩
 have hn4 : q.r ≠ [60] := lW hc36
 refine jL 4 ?_
 have hr6 : q.r = [97, 110, 121] ∨ q.r = [97, 108, 108] := by
   simp only [Cq.relations, List.mem_cons, List.not_mem_nil, or_false] at hrm
   rcases hrm with h | h | h | h | h | h
   · exact absurd h hn1
   · exact absurd h hn2
   · exact absurd h hn4
   · exact absurd h hn3
   · exact .inl h
   exact .inr h
 refine uF (AP q.t (by omega) _) ?_
 intro v58 I59 H60 hle61 hn57 hp62
 have hx := hx.mono hle61
 obtain ⟨gw, hgw, h, rfl⟩ := hp62; cases h
 refine J.yX (hgw.base hn57) (fun Iw hlew hw => ?_)
 have hx := hx.mono hlew
 obtain ⟨pw, cw, hwe⟩ := qL hw
 refine J.eqv 77 rfl hwe ?_
 rw [hwe] at hw
 refine kH ((let ⟨_, _, hR⟩ := hx.ex; YK rb _ es (by have := hx.len; omega) _ hR.1 hR.2)) ?_
 intro v63 I64 H65 hle66 hp67
 have hx := hx.mono hle66
 have hw := hw.mono hle66
 obtain ⟨vt, h, htr, rfl⟩ := hp67; cases h
 obtain ⟨pt, ct, rfl⟩ := kS htr
 refine jL 10 ?_
 refine Cj.loop (ι := Nat × Heap × Gs) (fun y => y.1 ≤ (es.map (·.t)).length ∧ Le I64 y.2.1 ∧ kZ w0.heap.size 2 (((es.map (·.t)).take y.1).filter fun t => Ix.sat (es.map jQ) q t).length ((((es.map (·.t)).take y.1).filter fun t => Ix.sat (es.map jQ) q t).flatMap recC) y.2.2) (fun y => (es.map (·.t)).length - y.1) (fun y => [(0, ptr rb 0), (3, ptr b1 0), (7, .slice pw (Ke.words q.t).length cw), (9, .slice pt (es.map (·.t)).length ct), (8, gV (((es.map (·.t)).take y.1).filter fun t => Ix.sat (es.map jQ) q t).length y.2.2), (10, i64 (y.1 : Int))]) (fun y => y.2.1) (fun y => (b1, jM 32 (kP q p c)) :: gH 54 ((((es.map (·.t)).take y.1).filter fun t => Ix.sat (es.map jQ) q t).flatMap recC) y.2.2) (0, _, none) ⟨Nat.zero_le _, Le.refl _, rfl, rfl⟩ ⟨rfl, rfl, rfl, rfl, rfl, rfl, trivial⟩ rfl rfl ?_
 rintro ⟨i, J1, g⟩ ⟨hi, hIJ, hg⟩
 dsimp only at hi hIJ hg ⊢
 have hx := hx.mono hIJ
 have hw := hw.mono hIJ
 have htr := htr.mono hIJ
 have hfl := ZQ (fun t => Ix.sat (es.map jQ) q t) (es.map (·.t)) i
 refine jR (fun hc68 hc68p => ?_) (fun hc68 hc68p => ?_)
 ·have hlt : i < (es.map (·.t)).length := by omega
  obtain ⟨t, hgt⟩ : ∃ x, (es.map (·.t))[i]? = some x := ⟨_, kV hlt⟩
  have htm := b1Q hgt
  obtain ⟨p5, c5, hpe5, hc5, hp5⟩ := id htr
  cases hpe5
  obtain ⟨tb, tof, tcs, tty, tfr, tsp, rfl, htb, htd⟩ := hp5 (jS hlt)
  refine jL 16 ?_
  refine Cj.keep (Keeps.k Keeps.r) ?_
  refine Cj.loop (ι := Nat × Heap) (fun y => y.1 ≤ (Ke.words q.t).length ∧ Le J1 y.2) (fun y => (Ke.words q.t).length - y.1) (fun y => [(0, ptr rb 0), (3, ptr b1 0), (7, .slice pw (Ke.words q.t).length cw), (9, .slice (some ⟨tb, tof, none⟩) (es.map (·.t)).length ct), (8, gV (((es.map (·.t)).take i).filter fun t => Ix.sat (es.map jQ) q t).length g), (10, i64 (i : Int)), (11, i64 ((Ix.JY (es.map jQ) q.i q.t t y.1) : Int)), (12, i64 (y.1 : Int))]) (fun y => y.2) (fun y => (b1, jM 32 (kP q p c)) :: gH 54 ((((es.map (·.t)).take i).filter fun t => Ix.sat (es.map jQ) q t).flatMap recC) g) (0, _) ⟨Nat.zero_le _, Le.refl _⟩ ⟨rfl, rfl, rfl, rfl, rfl, rfl, rfl, rfl, trivial⟩ rfl rfl ?_
  rintro ⟨k, K1⟩ ⟨hk9, hIK⟩
  dsimp only at hk9 hIK ⊢
  have hIJ := hIJ.trans hIK
  have htb := hIK _ _ htb
  have hx := hx.mono hIK
  have hw := hw.mono hIK
  have htr := htr.mono hIK
  have hhk := Ix.b3N (es.map jQ) q.i q.t t k
  refine jR (fun hc69 hc69p => ?_) (fun hc69 hc69p => ?_)
  ·have hlk : k < (Ke.words q.t).length := by omega
   obtain ⟨x, hgw⟩ : ∃ x, (Ke.words q.t)[k]? = some x := ⟨_, kV hlk⟩
   have hxl := Ke.xZ _ x (lV hgw)
   obtain ⟨wb, wc1, wsp, hwe, hwb⟩ := hw.some (jS hlk)
   cases hwe
   have hwl2 := a1o (es.map jQ) q.i x
   refine jL 5 ?_
   refine Cj.qJ [0] [] 13 (by kernel_rfl) ?_
   have htb_24 := htb
   have hwb_24 := hwb
   refine jL 5 ?_
   refine JA.fix lG (fun fx70 => ?_)
   refine JA.tk 5 rfl fx70 (q7 (off' := k) lI kY) ?_
   refine JA.tk 6 rfl fx70 (jP rfl rfl lN (jV.BN hwb_24) (nR hgw)) ?_
   refine JA.tk 8 rfl fx70 q1 ?_
   refine JA.tk 9 rfl fx70 q1 ?_
   refine JA.tk 10 rfl fx70 (q7 (off' := tof + i * 2) mX kX) ?_
   refine JA.tk 11 rfl fx70 (q3 oC kX (jV.BN htb_24) (kQ jY htd hgt)) ?_
   refine q0 7 rfl (kU (H1 := []) rfl rfl rfl rfl rfl (b4g rb es q.i x (by omega) _ hx) ?_ (fun _ _ _ _ ⟨_, h, _⟩ => by cases h) (fun _ _ ⟨_, h, _⟩ => by cases h))
   intro v71 I72 H73 hle74 hp75
   have hx := hx.mono hle74
   have hw := hw.mono hle74
   have htr := htr.mono hle74
   have hIJ := hIJ.mono hle74
   have htb := hle74 _ _ htb
   have hIK := hIK.mono hle74
   have hwb := hle74 _ _ hwb
   obtain ⟨vc, h, hrc, rfl⟩ := hp75; cases h
   obtain ⟨pc, cc, rfl⟩ := kS hrc
   refine kC (a0N (Ix.word (es.map jQ) q.i x) t _ (mY hwl2 (by omega)) _ hrc) ?_
   refine mQ (fun hc76 => ?_) (fun hc76 => ?_)
   ·have hin : t ∈ Ix.word (es.map jQ) q.i x := lY hc76
    refine jL 12 ?_
    refine Ej.round (k + 1, _) ⟨by dsimp only; omega, hIK⟩ (by dsimp only; omega) ⟨rfl, rfl, rfl, rfl, rfl, rfl, congrArg (fun x => some (i64 x)) (by dsimp only; rw [Ix.ZT hgw, if_pos hin]; omega), rfl, trivial⟩ rfl rfl
   have hin : ¬ t ∈ Ix.word (es.map jQ) q.i x := nD hc76
   refine jL 8 ?_
   refine Ej.round (k + 1, _) ⟨by dsimp only; omega, hIK⟩ (by dsimp only; omega) ⟨rfl, rfl, rfl, rfl, rfl, rfl, congrArg (fun x => some (i64 x)) (by dsimp only; rw [Ix.ZT hgw, if_neg hin]; omega), rfl, trivial⟩ rfl rfl
  refine jL 6 ?_
  have hall : (Ix.JY (es.map jQ) q.i q.t t k) = Ix.hits (es.map jQ) q.i q.t t := Ix.b0O _ _ _ _ (by omega)
  refine mP (fun hg77 hg77p => ?_) (fun hg77 hg77p => ?_)
  ·refine mP (fun hg78 hg78p => ?_) (fun hg78 hg78p => ?_)
   ·refine jL 14 ?_
    refine J.ev 128 (.bool (Ix.sat (es.map jQ) q t)) rfl (congrArg Value.bool (by have hrel : q.r = [97, 110, 121] := lQ hg77; rw [Ix.XT hk, hrel]; show _ = Ix.LM _ _ Ix.a8r _ _; rw [Ix.a7A, decide_eq_true (by rw [← hall]; have h2 := lY hg78; omega)])) ?_
    refine mQ (fun hc79 => ?_) (fun hc79 => ?_)
    ·have hsat : (Ix.sat (es.map jQ) q t) = true := hc79
     refine kG (tof + i * 2) ?_
     refine J.z (q3 oC kX (jV.BU htb) (kQ jY htd hgt)) ?_
     refine jL 1 ?_
     intro b80 hb80
     refine yR 15 [_, _] hg ?_
     intro g81 hg81
     refine jL 9 ?_
     refine Ej.keep (Keeps.d (Keeps.k Keeps.r)) ?_
     refine Ej.round (i + 1, _, g81) ⟨by dsimp only; omega, hIJ, by dsimp only; rw [kL _ hgt, if_pos hsat, List.length_append, List.flatMap_append]; exact hg81⟩ (by dsimp only; omega) ⟨rfl, rfl, rfl, rfl, by dsimp only; rw [kL _ hgt, if_pos hsat, List.length_append]; rfl, rfl, trivial⟩ rfl (by dsimp only; rw [kL _ hgt, if_pos hsat, List.flatMap_append]; rfl)
    have hsat : ¬ (Ix.sat (es.map jQ) q t) = true := by rw [hc79]; decide
    refine jL 8 ?_
    refine Ej.round (i + 1, _, g) ⟨by dsimp only; omega, hIJ, by dsimp only; rw [kL _ hgt, if_neg hsat, List.append_nil]; exact hg⟩ (by dsimp only; omega) ⟨rfl, rfl, rfl, rfl, by dsimp only; rw [kL _ hgt, if_neg hsat, List.append_nil]; rfl, rfl, trivial⟩ rfl (by dsimp only; rw [kL _ hgt, if_neg hsat, List.append_nil])
   refine jL 4 ?_
   refine J.skip 11 118 119 true _ rfl rfl rfl (by rw [show q.r = [97, 110, 121] from lQ hg77]; rfl) rfl rfl ?_
   refine J.skip 11 118 120 true _ rfl rfl rfl (by rw [show q.r = [97, 110, 121] from lQ hg77]; rfl) rfl rfl ?_
   refine J.zg (zK rfl rfl (by rw [show q.r = [97, 110, 121] from lQ hg77]; rfl) rfl) ?_
   refine jL 7 ?_
   refine J.ev 128 (.bool (Ix.sat (es.map jQ) q t)) rfl (congrArg Value.bool (by have hrel : q.r = [97, 110, 121] := lQ hg77; rw [Ix.XT hk, hrel]; show _ = Ix.LM _ _ Ix.a8r _ _; rw [Ix.a7A, decide_eq_false (by rw [← hall]; have h2 := nD hg78; omega)])) ?_
   refine mQ (fun hc82 => ?_) (fun hc82 => ?_)
   ·have hsat : (Ix.sat (es.map jQ) q t) = true := hc82
    refine kG (tof + i * 2) ?_
    refine J.z (q3 oC kX (jV.BU htb) (kQ jY htd hgt)) ?_
    refine jL 1 ?_
    intro b83 hb83
    refine yR 15 [_, _] hg ?_
    intro g84 hg84
    refine jL 9 ?_
    refine Ej.keep (Keeps.d (Keeps.k Keeps.r)) ?_
    refine Ej.round (i + 1, _, g84) ⟨by dsimp only; omega, hIJ, by dsimp only; rw [kL _ hgt, if_pos hsat, List.length_append, List.flatMap_append]; exact hg84⟩ (by dsimp only; omega) ⟨rfl, rfl, rfl, rfl, by dsimp only; rw [kL _ hgt, if_pos hsat, List.length_append]; rfl, rfl, trivial⟩ rfl (by dsimp only; rw [kL _ hgt, if_pos hsat, List.flatMap_append]; rfl)
   have hsat : ¬ (Ix.sat (es.map jQ) q t) = true := by rw [hc82]; decide
   refine jL 8 ?_
   refine Ej.round (i + 1, _, g) ⟨by dsimp only; omega, hIJ, by dsimp only; rw [kL _ hgt, if_neg hsat, List.append_nil]; exact hg⟩ (by dsimp only; omega) ⟨rfl, rfl, rfl, rfl, by dsimp only; rw [kL _ hgt, if_neg hsat, List.append_nil]; rfl, rfl, trivial⟩ rfl (by dsimp only; rw [kL _ hgt, if_neg hsat, List.append_nil])
  refine mP (fun hg85 hg85p => ?_) (fun hg85 hg85p => ?_)
  ·refine mP (fun hg86 hg86p => ?_) (fun hg86 hg86p => ?_)
   ·refine jL 6 ?_
    refine J.ev 128 (.bool (Ix.sat (es.map jQ) q t)) rfl (congrArg Value.bool (by have hrel : q.r = [97, 108, 108] := lQ hg85; rw [Ix.XT hk, hrel]; show _ = Ix.LM _ _ Ix.a9i _ _; rw [Ix.a7F, decide_eq_true (by rw [← hall]; have h2 := lY hg86; omega), Bool.true_and, hall]; exact b7j _ _)) ?_
    refine mQ (fun hc87 => ?_) (fun hc87 => ?_)
    ·have hsat : (Ix.sat (es.map jQ) q t) = true := hc87
     refine kG (tof + i * 2) ?_
     refine J.z (q3 oC kX (jV.BU htb) (kQ jY htd hgt)) ?_
     refine jL 1 ?_
     intro b88 hb88
     refine yR 15 [_, _] hg ?_
     intro g89 hg89
     refine jL 9 ?_
     refine Ej.keep (Keeps.d (Keeps.k Keeps.r)) ?_
     refine Ej.round (i + 1, _, g89) ⟨by dsimp only; omega, hIJ, by dsimp only; rw [kL _ hgt, if_pos hsat, List.length_append, List.flatMap_append]; exact hg89⟩ (by dsimp only; omega) ⟨rfl, rfl, rfl, rfl, by dsimp only; rw [kL _ hgt, if_pos hsat, List.length_append]; rfl, rfl, trivial⟩ rfl (by dsimp only; rw [kL _ hgt, if_pos hsat, List.flatMap_append]; rfl)
    have hsat : ¬ (Ix.sat (es.map jQ) q t) = true := by rw [hc87]; decide
    refine jL 8 ?_
    refine Ej.round (i + 1, _, g) ⟨by dsimp only; omega, hIJ, by dsimp only; rw [kL _ hgt, if_neg hsat, List.append_nil]; exact hg⟩ (by dsimp only; omega) ⟨rfl, rfl, rfl, rfl, by dsimp only; rw [kL _ hgt, if_neg hsat, List.append_nil]; rfl, rfl, trivial⟩ rfl (by dsimp only; rw [kL _ hgt, if_neg hsat, List.append_nil])
   refine jL 6 ?_
   refine J.ev 128 (.bool (Ix.sat (es.map jQ) q t)) rfl (congrArg Value.bool (by have hrel : q.r = [97, 108, 108] := lQ hg85; rw [Ix.XT hk, hrel]; show _ = Ix.LM _ _ Ix.a9i _ _; rw [Ix.a7F, decide_eq_false (by rw [← hall]; have h2 := nD hg86; omega), Bool.false_and])) ?_
   refine mQ (fun hc90 => ?_) (fun hc90 => ?_)
   ·have hsat : (Ix.sat (es.map jQ) q t) = true := hc90
    refine kG (tof + i * 2) ?_
    refine J.z (q3 oC kX (jV.BU htb) (kQ jY htd hgt)) ?_
    refine jL 1 ?_
    intro b91 hb91
    refine yR 15 [_, _] hg ?_
    intro g92 hg92
    refine jL 9 ?_
    refine Ej.keep (Keeps.d (Keeps.k Keeps.r)) ?_
    refine Ej.round (i + 1, _, g92) ⟨by dsimp only; omega, hIJ, by dsimp only; rw [kL _ hgt, if_pos hsat, List.length_append, List.flatMap_append]; exact hg92⟩ (by dsimp only; omega) ⟨rfl, rfl, rfl, rfl, by dsimp only; rw [kL _ hgt, if_pos hsat, List.length_append]; rfl, rfl, trivial⟩ rfl (by dsimp only; rw [kL _ hgt, if_pos hsat, List.flatMap_append]; rfl)
   have hsat : ¬ (Ix.sat (es.map jQ) q t) = true := by rw [hc90]; decide
   refine jL 8 ?_
   refine Ej.round (i + 1, _, g) ⟨by dsimp only; omega, hIJ, by dsimp only; rw [kL _ hgt, if_neg hsat, List.append_nil]; exact hg⟩ (by dsimp only; omega) ⟨rfl, rfl, rfl, rfl, by dsimp only; rw [kL _ hgt, if_neg hsat, List.append_nil]; rfl, rfl, trivial⟩ rfl (by dsimp only; rw [kL _ hgt, if_neg hsat, List.append_nil])
  exact absurd (hr6.resolve_left (lW hg77)) (lW hg85)
 refine jL 12 ?_
 rw [List.take_of_length_le (by omega : (es.map (·.t)).length ≤ i)] at hg ⊢
 refine Ej.keep (Keeps.d Keeps.r) ?_
 refine Ej.perm (H' := gH 54 (((es.map (·.t)).filter fun t => Ix.sat (es.map jQ) q t).flatMap recC) g ++ []) (.of_eq (List.append_nil _)) ?_
 refine Ej.keepR jY (by decide) hg rfl (fun I8 hle8 hv => ?_)
 refine jW ?_
 exact ⟨_, _, rfl, fun t ht => by rw [← a1h]; exact a1u ht, hv, mY (List.length_filter_le _ _) (by omega), rfl⟩
structure SaS where
  J : Heap
  la : List Ix.Rec
  lb : List Ix.Rec
  p1 : Option Addr
  c1 : Nat
  p2 : Option Addr
  c2 : Nat
  P : Option Addr
def a8l (rb : Nat) (es : List nM) (q : Cq.Qn) : Prop := ∀ (p : Option Addr) (c : Nat) (tv : Value) (I : Heap), PS I q.ps p → AO I rb es → jU recC I (es.map (·.t)) tv → q.wide ≤ 10000000 → Cq.form q = true →
  jO Tryz.prog 61 [ptr rb 0, .agg (kP q p c).toArray, tv] I [] (fun e I' H' => ∃ v, e = .returned v ∧ jU recC I' (Ix.TR (es.map jQ) q) v ∧ H' = [])
theorem a3l rb es (hfew : Ix.QL (es.map jQ)) (htk : Ix.TOK (es.map jQ)) q (ih : ∀ q', Cq.Qn.size q' < q.size → a8l rb es q') : a8l rb es q := by
 intro p c tv I hps hx htr hwd hform
 have hTl : (es.map (·.t)).length ≤ 1000 := by rw [List.length_map]; exact hx.len
 have hLl : (es.map jQ).length ≤ 1000 := by rw [List.length_map]; exact hx.len
 obtain ⟨pt, ct, rfl⟩ := kS htr
 refine jT func61 fun w0 hw0 => ?_
 refine jL 3 ?_
 intro b1 hb1
 refine jL 18 ?_
 refine Cj.join (ι := SaS) (fun y => y.la.length ≤ 1000000 ∧ y.lb.length ≤ 1000000 ∧ jU recC y.J y.la (.slice y.p1 y.la.length y.c1) ∧ jU recC y.J y.lb (.slice y.p2 y.lb.length y.c2) ∧ jU recC y.J (es.map (·.t)) (.slice pt (es.map (·.t)).length ct) ∧ ∀ t ∈ (es.map jQ).map (·.1), a3o q.k (decide (t ∈ y.la)) (decide (t ∈ y.lb)) = Ix.sat (es.map jQ) q t) (fun y => [(2, .slice pt (es.map (·.t)).length ct), (4, ptr b1 0), (7, .slice none 0 0), (8, .slice y.p1 y.la.length y.c1), (9, .slice y.p2 y.lb.length y.c2)]) (fun y => y.J) (fun y => [(b1, jM 32 (kP q y.P c))]) ?_ (fun hcut => ?_)
 ·rintro ⟨J8, la, lb, p1, c1, p2, c2, P8⟩ ⟨hlal, hlbl, hra, hrb, htr, hcomb⟩
  dsimp only at hlal hlbl hra hrb htr hcomb ⊢
  refine jL 7 ?_
  refine Cj.loop (ι := Nat × Gs) (fun y => y.1 ≤ (es.map (·.t)).length ∧ kZ w0.heap.size 2 (((es.map (·.t)).take y.1).filter fun t => Ix.sat (es.map jQ) q t).length ((((es.map (·.t)).take y.1).filter fun t => Ix.sat (es.map jQ) q t).flatMap recC) y.2) (fun y => (es.map (·.t)).length - y.1) (fun y => [(2, .slice pt (es.map (·.t)).length ct), (4, ptr b1 0), (7, gV (((es.map (·.t)).take y.1).filter fun t => Ix.sat (es.map jQ) q t).length y.2), (8, .slice p1 la.length c1), (9, .slice p2 lb.length c2), (10, i64 (y.1 : Int))]) (fun y => _) (fun y => (b1, jM 32 (kP q P8 c)) :: gH 54 ((((es.map (·.t)).take y.1).filter fun t => Ix.sat (es.map jQ) q t).flatMap recC) y.2) (0, none) ⟨Nat.zero_le _, rfl, rfl⟩ ⟨rfl, rfl, rfl, rfl, rfl, rfl, trivial⟩ rfl rfl ?_
  rintro ⟨i, g⟩ ⟨hi, hg⟩
  dsimp only at hi hg ⊢
  have hfl := ZQ (fun t => Ix.sat (es.map jQ) q t) (es.map (·.t)) i
  refine jR (fun hc2 hc2p => ?_) (fun hc2 hc2p => ?_)
  ·have hlt : i < (es.map (·.t)).length := by omega
   obtain ⟨t, hgt⟩ : ∃ x, (es.map (·.t))[i]? = some x := ⟨_, kV hlt⟩
   have htm := b1Q hgt
   have hct := hcomb t htm
   obtain ⟨p5, c5, hpe5, hc5, hp5⟩ := id htr
   cases hpe5
   obtain ⟨tb, tof, tcs, tty, tfr, tsp, rfl, htb, htd⟩ := hp5 (jS hlt)
   refine kG (tof + i * 2) ?_
   refine J.z (q3 oC kX (jV.BU htb) (kQ jY htd hgt)) ?_
   refine kC (a0N la t _ (by omega) _ hra) ?_
   refine kG (tof + i * 2) ?_
   refine J.z (q3 oC kX (jV.BU htb) (kQ jY htd hgt)) ?_
   refine kC (a0N lb t _ (by omega) _ hrb) ?_
   refine jL 3 ?_
   refine Cj.join (ι := Unit) (fun _y => True) (fun _y => [(2, .slice (some ⟨tb, tof, none⟩) (es.map (·.t)).length ct), (4, ptr b1 0), (7, gV (((es.map (·.t)).take i).filter fun t => Ix.sat (es.map jQ) q t).length g), (8, .slice p1 la.length c1), (9, .slice p2 lb.length c2), (10, i64 (i : Int)), (11, .bool (Ix.sat (es.map jQ) q t))]) (fun _y => J8) (fun _y => (b1, jM 32 (kP q P8 c)) :: gH 54 ((((es.map (·.t)).take i).filter fun t => Ix.sat (es.map jQ) q t).flatMap recC) g) ?_ (fun hcut => ?_)
   ·rintro _ -
    refine mQ (fun hc3 => ?_) (fun hc3 => ?_)
    ·have hsat : (Ix.sat (es.map jQ) q t) = true := hc3
     refine kG (tof + i * 2) ?_
     refine J.z (q3 oC kX (jV.BU htb) (kQ jY htd hgt)) ?_
     refine jL 1 ?_
     intro b4 hb4
     refine yR 15 [_, _] hg ?_
     intro g5 hg5
     refine jL 9 ?_
     refine Ej.keep (Keeps.d (Keeps.k Keeps.r)) ?_
     refine Ej.round (i + 1, g5) ⟨by dsimp only; omega, by dsimp only; rw [kL _ hgt, if_pos hsat, List.length_append, List.flatMap_append]; exact hg5⟩ (by dsimp only; omega) ⟨rfl, rfl, by dsimp only; rw [kL _ hgt, if_pos hsat, List.length_append]; rfl, rfl, rfl, rfl, trivial⟩ rfl (by dsimp only; rw [kL _ hgt, if_pos hsat, List.flatMap_append]; rfl)
    have hsat : ¬ (Ix.sat (es.map jQ) q t) = true := by rw [hc3]; decide
    refine jL 8 ?_
    refine Ej.round (i + 1, g) ⟨by dsimp only; omega, by dsimp only; rw [kL _ hgt, if_neg hsat, List.append_nil]; exact hg⟩ (by dsimp only; omega) ⟨rfl, rfl, by dsimp only; rw [kL _ hgt, if_neg hsat, List.append_nil]; rfl, rfl, rfl, rfl, trivial⟩ rfl (by dsimp only; rw [kL _ hgt, if_neg hsat, List.append_nil])
   refine jR (fun hc6 hc6p => ?_) (fun hc6 hc6p => ?_)
   ·have hk9 : q.k = 2 := lQ hc6
    rw [hk9] at hct
    refine pR (fun hg7 => ?_) (fun hg7 => ?_)
    ·refine jL 5 ?_
     exact hcut () _ _ _ trivial ⟨rfl, rfl, rfl, rfl, rfl, rfl, (congrArg (fun b => some (Value.bool b)) (by rw [← hct, hg7]; first | rfl | exact (Bool.true_and _).symm | exact (Bool.false_and _).symm)), trivial⟩ rfl rfl
    refine jL 5 ?_
    exact hcut () _ _ _ trivial ⟨rfl, rfl, rfl, rfl, rfl, rfl, (congrArg (fun b => some (Value.bool b)) (by rw [← hct, hg7]; first | rfl | exact (Bool.true_and _).symm | exact (Bool.false_and _).symm)), trivial⟩ rfl rfl
   have hkn2 : q.k ≠ 2 := lW hc6
   refine jR (fun hc8 hc8p => ?_) (fun hc8 hc8p => ?_)
   ·have hk9 : q.k = 3 := lQ hc8
    rw [hk9] at hct
    refine pR (fun hg9 => ?_) (fun hg9 => ?_)
    ·refine jL 5 ?_
     exact hcut () _ _ _ trivial ⟨rfl, rfl, rfl, rfl, rfl, rfl, (congrArg (fun b => some (Value.bool b)) (by rw [← hct, hg9]; first | rfl | exact (Bool.true_or _).symm | exact (Bool.false_or _).symm)), trivial⟩ rfl rfl
    refine jL 5 ?_
    exact hcut () _ _ _ trivial ⟨rfl, rfl, rfl, rfl, rfl, rfl, (congrArg (fun b => some (Value.bool b)) (by rw [← hct, hg9]; first | rfl | exact (Bool.true_or _).symm | exact (Bool.false_or _).symm)), trivial⟩ rfl rfl
   have hkn3 : q.k ≠ 3 := lW hc8
   refine jR (fun hc10 hc10p => ?_) (fun hc10 hc10p => ?_)
   ·have hk9 : q.k = 4 := lQ hc10
    rw [hk9] at hct
    refine pR (fun hg11 => ?_) (fun hg11 => ?_)
    ·refine jL 6 ?_
     exact hcut () _ _ _ trivial ⟨rfl, rfl, rfl, rfl, rfl, rfl, (congrArg (fun b => some (Value.bool b)) (by rw [← hct, hg11]; first | rfl | exact (Bool.true_and _).symm | exact (Bool.false_and _).symm)), trivial⟩ rfl rfl
    refine jL 6 ?_
    exact hcut () _ _ _ trivial ⟨rfl, rfl, rfl, rfl, rfl, rfl, (congrArg (fun b => some (Value.bool b)) (by rw [← hct, hg11]; first | rfl | exact (Bool.true_and _).symm | exact (Bool.false_and _).symm)), trivial⟩ rfl rfl
   have hkn4 : q.k ≠ 4 := lW hc10
   refine jL 2 ?_
   exact hcut () _ _ _ trivial ⟨rfl, rfl, rfl, rfl, rfl, rfl, (congrArg (fun b => some (Value.bool b)) (by rw [← hct]; unfold a3o; rw [if_neg hkn2, if_neg hkn3, if_neg hkn4])), trivial⟩ rfl rfl
  refine jL 12 ?_
  rw [List.take_of_length_le (by omega : (es.map (·.t)).length ≤ i)] at hg ⊢
  refine Ej.keep (Keeps.d Keeps.r) ?_
  refine Ej.perm (H' := gH 54 (((es.map (·.t)).filter fun t => Ix.sat (es.map jQ) q t).flatMap recC) g ++ []) (.of_eq (List.append_nil _)) ?_
  refine Ej.keepR jY (by decide) hg rfl (fun I8 hle8 hv => ?_)
  refine jW ?_
  exact ⟨_, rfl, by unfold Ix.TR; rw [a1h]; exact hv, rfl⟩
 refine jR (fun hc12 hc12p => ?_) (fun hc12 hc12p => ?_)
 ·have hk : q.k = 1 := by omega
  have hrm : q.r ∈ Cq.relations := by
    rw [Cq.xJ hk, Bool.and_eq_true, Bool.and_eq_true] at hform
    exact List.contains_iff_mem.1 hform.1.2
  refine kH (b4r rb es q p c hk hrm hwd hfew htk _ hx) ?_
  intro v13 I14 H15 hle16 hp17
  have hx := hx.mono hle16
  have hps := hps.mono hle16
  have htr := htr.mono hle16
  obtain ⟨v1, la, h, hsa, hra, hlal, rfl⟩ := hp17; cases h
  obtain ⟨p1, c1, rfl⟩ := kS hra
  have hcomb : ∀ t ∈ (es.map jQ).map (·.1), a3o q.k (decide (t ∈ la)) (decide (t ∈ ([] : List Ix.Rec))) = Ix.sat (es.map jQ) q t := fun t ht => by rw [hk, hsa t ht]; rfl
  refine jL 2 ?_
  exact hcut ⟨_, la, [], p1, c1, none, 0, p⟩ _ _ _ ⟨hlal, Nat.zero_le _, hra, jU.nil, htr, hcomb⟩ ⟨rfl, rfl, rfl, rfl, rfl, trivial⟩ rfl rfl
 have hk : q.k ≠ 1 := by omega
 obtain ⟨_, hk2, hk4, qa, qb, htw, hfa, hfb⟩ := (Cq.wV hform).resolve_left hk
 obtain ⟨bl, off, cs', T, fr, pa, ca, pb, cb, rfl, hbl, hca, hcb, hkb, hpa, hpb⟩ := hps.ND htw
 have hsz2 := htw.size
 have hwd2 := htw.wide
 have hln := htw.len
 refine kG off ?_
 refine J.z (q3 nZ lU (jV.BU hbl) hca) ?_
 refine kH (ih qa (by omega) pa ca _ _ hpa hx htr (by omega) hfa) ?_
 intro v18 I19 H20 hle21 hp22
 have hx := hx.mono hle21
 have htr := htr.mono hle21
 have hbl := hle21 _ _ hbl
 have hpa := hpa.mono hle21
 have hpb := hpb.mono hle21
 obtain ⟨va, h, hra, rfl⟩ := hp22; cases h
 obtain ⟨pa1, ca1, rfl⟩ := kS hra
 refine kG (off + 5) ?_
 refine J.z (q3 nZ lU (jV.BU hbl) hcb) ?_
 refine kH (ih qb (by omega) pb cb _ _ hpb hx htr (by omega) hfb) ?_
 intro v23 I24 H25 hle26 hp27
 have hx := hx.mono hle26
 have htr := htr.mono hle26
 have hbl := hle26 _ _ hbl
 have hpa := hpa.mono hle26
 have hpb := hpb.mono hle26
 have hra := hra.mono hle26
 obtain ⟨vb, h, hrb, rfl⟩ := hp27; cases h
 obtain ⟨pb1, cb1, rfl⟩ := kS hrb
 refine jL 2 ?_
 exact hcut ⟨_, Ix.TR (es.map jQ) qa, Ix.TR (es.map jQ) qb, pa1, ca1, pb1, cb1, some ⟨bl, off, none⟩⟩ _ _ _ ⟨mY (Ix.b4o _ _) (by omega), mY (Ix.b4o _ _) (by omega), hra, hrb, htr, fun t ht => by rw [b0z hk2 hk4, a1u ht, a1u ht, Ix.a0V hk htw]⟩ ⟨rfl, rfl, rfl, rfl, rfl, trivial⟩ rfl rfl
theorem a6f rb es (hfew : Ix.QL (es.map jQ)) (htk : Ix.TOK (es.map jQ)) q : a8l rb es q := by
  suffices ∀ n (q : Cq.Qn), q.size < n → a8l rb es q from this _ q (Nat.lt_succ_self _)
  intro n
  induction n with
  | zero => intro q h; omega
  | succ n ih => intro q h; exact a3l rb es hfew htk q fun q' h' => ih q' (by omega)
theorem b3c rb es a b I (hx : AO I rb es) : jO Tryz.prog 63 [ptr rb 0, jZ a, jZ b] I [] (fun e _ H' => e = .returned (.bool (Ix.UM (es.map jQ) a b)) ∧ H' = []) := by
 refine jT func63 fun w0 hw0 => ?_
 refine jL 3 ?_
 intro b1 hb1
 refine jL 1 ?_
 intro b2 hb2
 refine kH (a2t rb es a _ hx) ?_
 intro v3 I4 H5 hle6 hp7
 have hx := hx.mono hle6
 obtain ⟨h, rfl⟩ := hp7; cases h
 refine kH (a2t rb es b _ hx) ?_
 intro v8 I9 H10 hle11 hp12
 have hx := hx.mono hle11
 obtain ⟨h, rfl⟩ := hp12; cases h
 refine jR (fun hc13 hc13p => ?_) (fun hc13 hc13p => ?_)
 ·refine jL 4 ?_
  refine J.z (RP rfl rfl rfl) ?_
  refine kF ?_
  have hne := bne_iff_ne.1 hc13
  refine ⟨?_, rfl⟩
  unfold Ix.UM; rw [if_neg hne]
 refine kC (a5w a b _) ?_
 refine kF ?_
 have he := sF hc13
 refine ⟨?_, rfl⟩
 unfold Ix.UM; rw [if_pos he]
structure RW where
  i : Nat
  J : Heap
  out : List Ix.Rec
  v : Value
theorem a7L rb es q p c (hsz : q.size ≤ 1000000) (hwd : q.wide ≤ 10000000) (hR : Cq.right q = true) (hfew : Ix.QL (es.map jQ)) (htk : Ix.TOK (es.map jQ)) I (hps : PS I q.ps p) (hx : AO I rb es) : jO Tryz.prog 19 [ptr rb 0, .agg (kP q p c).toArray] I [] (fun e I' H' => ∃ v r, e = .returned (.tuple #[v, i64 0]) ∧ Ix.yU (es.map jQ) q r ∧ jU recC I' r v ∧ H' = []) := by
 have hform : Cq.form q = true := by unfold Cq.right at hR; rw [Bool.and_eq_true] at hR; exact hR.1
 have hsll := Ix.b4o (es.map jQ) q
 have hLl : (es.map jQ).length ≤ 1000 := by rw [List.length_map]; exact hx.len
 refine jT func19 fun w0 hw0 => ?_
 refine jL 3 ?_
 intro b1 hb1
 refine kC (a3K q p c (by have := Cq.a3b q; omega) _ hps) ?_
 refine J.ev 13 (.bool true) rfl (congrArg Value.bool hR) ?_
 refine jL 24 ?_
 refine Cj.qJ [0] [] 6 (by kernel_rfl) ?_
 refine kH ((let ⟨_, _, hR⟩ := hx.ex; YK rb _ es (by have := hx.len; omega) _ hR.1 hR.2)) ?_
 intro v5 I6 H7 hle8 hp9
 have hx := hx.mono hle8
 have hps := hps.mono hle8
 obtain ⟨vt, h, htr, rfl⟩ := hp9; cases h
 obtain ⟨pt, ct, rfl⟩ := kS htr
 refine kH (a6f rb es hfew htk q p c _ _ hps hx htr hwd hform) ?_
 intro v10 I11 H12 hle13 hp14
 have hx := hx.mono hle13
 have hps := hps.mono hle13
 have htr := htr.mono hle13
 obtain ⟨vl, h, hrl, rfl⟩ := hp14; cases h
 obtain ⟨pl, cl, rfl⟩ := kS hrl
 refine jL 16 ?_
 refine Cj.keep (Keeps.d Keeps.n) ?_
 refine Cj.loop (ι := RW) (fun y => y.i ≤ (Ix.TR (es.map jQ) q).length ∧ Le I11 y.J ∧ Ix.FZ (es.map jQ) (Ix.TR (es.map jQ) q) y.out y.i ∧ jU recC y.J y.out y.v) (fun y => (Ix.TR (es.map jQ) q).length - y.i) (fun y => [(0, ptr rb 0), (7, .slice pl (Ix.TR (es.map jQ) q).length cl), (8, y.v), (9, i64 (y.i : Int))]) (fun y => y.J) (fun y => []) ⟨0, _, [], _⟩ ⟨Nat.zero_le _, Le.refl _, Ix.FZ.nil _ _, jU.nil⟩ ⟨rfl, rfl, rfl, rfl, trivial⟩ rfl rfl ?_
 rintro ⟨i, J1, out, ov⟩ ⟨hi, hIJ, hins, hro⟩
 dsimp only at hi hIJ hins hro ⊢
 have hx := hx.mono hIJ
 have hrl := hrl.mono hIJ
 obtain ⟨po, co, rfl⟩ := kS hro
 have hol := hins.len
 refine jR (fun hc16 hc16p => ?_) (fun hc16 hc16p => ?_)
 ·have hlt : i < (Ix.TR (es.map jQ) q).length := by omega
  obtain ⟨t, hgt⟩ : ∃ x, (Ix.TR (es.map jQ) q)[i]? = some x := ⟨_, kV hlt⟩
  obtain ⟨p5, c5, hpe5, hc5, hp5⟩ := id hrl
  cases hpe5
  obtain ⟨lb, lo, lcs, lty, lfr, lsp, rfl, hlb, hld⟩ := hp5 (jS hlt)
  refine jL 11 ?_
  refine Cj.loop (ι := Nat × Heap) (fun y => y.1 ≤ out.length ∧ Le J1 y.2 ∧ ∀ x ∈ out.take y.1, Ix.oN (es.map jQ) x t) (fun y => out.length - y.1) (fun y => [(0, ptr rb 0), (7, .slice (some ⟨lb, lo, none⟩) (Ix.TR (es.map jQ) q).length cl), (8, .slice po out.length co), (9, i64 (i : Int)), (10, i64 (y.1 : Int))]) (fun y => y.2) (fun y => []) (0, _) ⟨Nat.zero_le _, Le.refl _, fun x hx => by simp at hx⟩ ⟨rfl, rfl, rfl, rfl, rfl, trivial⟩ rfl rfl ?_
  rintro ⟨k, K1⟩ ⟨hk9, hIK, hall⟩
  dsimp only at hk9 hIK hall ⊢
  have hIJ := hIJ.trans hIK
  have hlb := hIK _ _ hlb
  have hx := hx.mono hIK
  have hrl := hrl.mono hIK
  have hro := hro.mono hIK
  refine jL 2 ?_
  refine Cj.qJ [] [] 16 (by kernel_rfl) ?_
  have hlb_12 := hlb
  refine jL 5 ?_
  refine JA.split 33 rfl (fun hg18 => ?_) (fun hg18 => ?_)
  rotate_left
  ·have hg18p := nD hg18
   refine jL 20 ?_
   have hstop : ∀ x, out[k]? = some x → Ix.UM (es.map jQ) x t = false := fun x hx9 => absurd (List.getElem?_eq_some_iff.1 hx9).1 (by have h := nD hg18; omega)
   have hins2 := hins.next (Ix.a0a hx.oG q) hgt hall hstop hk9
   refine Cj.qJ [] [] 10 (by kernel_rfl) ?_
   refine jL 2 ?_
   refine JA.fix lG (fun fx34 => ?_)
   refine JA.tk 2 rfl fx34 (q7 (off' := lo + i * 2) mX kX) ?_
   refine JA.tk 3 rfl fx34 (q3 oC kX (jV.BN hlb) (kQ jY hld hgt)) ?_
   refine JA.tk 5 rfl fx34 q1 ?_
   refine JA.tk 6 rfl fx34 q1 ?_
   refine JA.tk 7 rfl fx34 (qB (j := k) rfl rfl rfl mX kX rfl hk9 (by obtain ⟨_, _, he9, hc9, _⟩ := id hro; cases he9; exact hc9)) ?_
   refine q0 4 rfl (q6 mX kX tK (xG.agg rfl xG.none) ?_)
   intro b35 hb35
   refine ⟨fx0, ?_⟩
   refine q0 8 rfl (kK (by' := 15) (n := 1) (g := some (b35, 1, [])) (xs := recC t) [] rfl rfl rfl rfl rfl mX (.inr ⟨_, mX⟩) (by kernel_rfl) kX tK rfl ⟨hb35, rfl, rfl⟩ rfl (Src.row jY (jU.from jY hro hk9) (fun x _ => wS x)) (by rw [List.length_drop]; omega) ?_)
   intro g36 hg36
   refine jL 4 ?_
   have hrt : ([t] ++ out.drop k).length = 1 + (out.drop k).length := by rw [List.length_append]; rfl
   refine Cj.perm (H' := gH 54 (([t] ++ out.drop k).flatMap recC) g36 ++ []) (.of_eq (List.append_nil _)) ?_
   refine Cj.keepR jY (by decide) hg36 hrt.symm (fun I7 hle7 hrs => ?_)
   have hIJ := hIJ.mono hle7
   have hx := hx.mono hle7
   have hrl := hrl.mono hle7
   have hro := hro.mono hle7
   have hlb := hle7 _ _ hlb
   have hIK := hIK.mono hle7
   obtain ⟨ps, cs, hse⟩ := kS hrs
   refine Cj.ev 11 (.slice ps ([t] ++ out.drop k).length cs) rfl hse ?_
   rw [hse] at hrs
   refine jL 1 ?_
   refine J.op rfl (CJ rfl rfl rfl mX kX ?_)
   intro b38 hb38
   refine jL 2 ?_
   refine J.z (qF (k := k) rfl rfl rfl mX kX rfl (by obtain ⟨_, _, he9, hc9, _⟩ := id hro; cases he9; omega)) ?_
   refine J.op rfl (kK (by' := 15) (n := 0) (g := some (b38, 0, [])) (xs := []) [] rfl rfl rfl rfl rfl mX (.inr ⟨_, mX⟩) (by kernel_rfl) kX tK rfl ⟨hb38, rfl, rfl⟩ rfl (Src.row jY (jU.take hro hk9) (fun x _ => wS x)) (by rw [List.length_take]; omega) ?_)
   intro g39 hg39
   refine jL 1 ?_
   refine J.op rfl (kK (by' := 15) [] rfl rfl rfl rfl rfl mX (.inr ⟨_, mX⟩) (by kernel_rfl) kX tK rfl hg39 rfl (Src.row jY hrs (fun x _ => wS x)) (by rw [List.length_take, List.length_append, List.length_drop]; simp only [List.length_cons, List.length_nil]; omega) ?_)
   intro g40 hg40
   refine jL 4 ?_
   have h3 : (out.take k ++ ([t] ++ out.drop k)).length = 0 + (out.take k).length + ([t] ++ out.drop k).length := by rw [List.length_append, Nat.zero_add]
   refine Cj.perm (H' := gH 54 ((out.take k ++ ([t] ++ out.drop k)).flatMap recC) g40 ++ []) (by rw [List.flatMap_append]; exact .of_eq (List.append_nil _)) ?_
   refine Cj.keepR jY (by decide) (by rw [List.flatMap_append]; exact hg40) h3.symm (fun I6 hle6 hro2 => ?_)
   have hIJ := hIJ.mono hle6
   have hx := hx.mono hle6
   have hrl := hrl.mono hle6
   have hro := hro.mono hle6
   have hlb := hle6 _ _ hlb
   have hIK := hIK.mono hle6
   have hrs := hrs.mono hle6
   rw [← List.append_assoc] at hro2
   refine jL 5 ?_
   refine Ej.round ⟨i + 1, _, _, _⟩ ⟨by dsimp only; omega, hIJ, hins2, hro2⟩ (by dsimp only; omega) ⟨rfl, rfl, rfl, rfl, trivial⟩ rfl rfl
  have hg18p := lY hg18
  have hko : k < out.length := by omega
  obtain ⟨o, hgo⟩ : ∃ x, out[k]? = some x := ⟨_, kV hko⟩
  obtain ⟨p6, c6, hpe6, hc6, hp6⟩ := id hro
  cases hpe6
  obtain ⟨ob, oo, ocs, oty, ofr, osp, rfl, hob, hod⟩ := hp6 (jS hko)
  refine jL 3 ?_
  refine JA.fix lG (fun fx17 => ?_)
  refine JA.tkG 8 4 33 true _ rfl fx17 rfl rfl hg18 (q7 (off' := oo + k * 2) mX kX) ?_
  refine jL 2 ?_
  refine JA.fix lG (fun fx17 => ?_)
  refine JA.tkG 12 4 33 true _ rfl fx17 rfl rfl hg18 (q7 (off' := lo + i * 2) mX kX) ?_
  refine JA.tkG 13 4 33 true _ rfl fx17 rfl rfl hg18 (q3 oC kX (jV.BN hlb_12) (kQ jY hld hgt)) ?_
  refine JA.stepG 9 4 33 true _ (by kernel_rfl) rfl rfl rfl rfl hg18 (kT (q3 oC kX (jV.BU hob) (kQ jY hod hgo)) rfl rfl ?_)
  refine kH (b3c rb es o t _ hx) ?_
  intro v19 I20 H21 hle22 hp23
  have hIJ := hIJ.mono hle22
  have hx := hx.mono hle22
  have hrl := hrl.mono hle22
  have hro := hro.mono hle22
  have hlb := hle22 _ _ hlb
  have hIK := hIK.mono hle22
  have hob := hle22 _ _ hob
  obtain ⟨h, rfl⟩ := hp23; cases h
  refine mQ (fun hc25 => ?_) (fun hc25 => ?_)
  ·have hls : Ix.UM (es.map jQ) o t = true := hc25
   refine jL 9 ?_
   refine Ej.round (k + 1, _) ⟨by dsimp only; omega, hIK, Ix.a8f hall hgo hls⟩ (by dsimp only; omega) ⟨rfl, rfl, rfl, rfl, rfl, trivial⟩ rfl rfl
  refine jL 6 ?_
  have hstop : ∀ x, out[k]? = some x → Ix.UM (es.map jQ) x t = false := fun x hx9 => by rw [hgo] at hx9; cases hx9; exact hc25
  have hins2 := hins.next (Ix.a0a hx.oG q) hgt hall hstop hk9
  refine Cj.qJ [] [] 10 (by kernel_rfl) ?_
  refine jL 2 ?_
  refine JA.fix lG (fun fx26 => ?_)
  refine JA.tk 2 rfl fx26 (q7 (off' := lo + i * 2) mX kX) ?_
  refine JA.tk 3 rfl fx26 (q3 oC kX (jV.BN hlb) (kQ jY hld hgt)) ?_
  refine JA.tk 5 rfl fx26 q1 ?_
  refine JA.tk 6 rfl fx26 q1 ?_
  refine JA.tk 7 rfl fx26 (qB (j := k) rfl rfl rfl mX kX rfl hk9 (by obtain ⟨_, _, he9, hc9, _⟩ := id hro; cases he9; exact hc9)) ?_
  refine q0 4 rfl (q6 mX kX tK (xG.agg rfl xG.none) ?_)
  intro b27 hb27
  refine ⟨fx0, ?_⟩
  refine q0 8 rfl (kK (by' := 15) (n := 1) (g := some (b27, 1, [])) (xs := recC t) [] rfl rfl rfl rfl rfl mX (.inr ⟨_, mX⟩) (by kernel_rfl) kX tK rfl ⟨hb27, rfl, rfl⟩ rfl (Src.row jY (jU.from jY hro hk9) (fun x _ => wS x)) (by rw [List.length_drop]; omega) ?_)
  intro g28 hg28
  refine jL 4 ?_
  have hrt : ([t] ++ out.drop k).length = 1 + (out.drop k).length := by rw [List.length_append]; rfl
  refine Cj.perm (H' := gH 54 (([t] ++ out.drop k).flatMap recC) g28 ++ []) (.of_eq (List.append_nil _)) ?_
  refine Cj.keepR jY (by decide) hg28 hrt.symm (fun I7 hle7 hrs => ?_)
  have hIJ := hIJ.mono hle7
  have hx := hx.mono hle7
  have hrl := hrl.mono hle7
  have hro := hro.mono hle7
  have hlb := hle7 _ _ hlb
  have hIK := hIK.mono hle7
  have hob := hle7 _ _ hob
  obtain ⟨ps, cs, hse⟩ := kS hrs
  refine Cj.ev 11 (.slice ps ([t] ++ out.drop k).length cs) rfl hse ?_
  rw [hse] at hrs
  refine jL 1 ?_
  refine J.op rfl (CJ rfl rfl rfl mX kX ?_)
  intro b30 hb30
  refine jL 2 ?_
  refine J.z (qF (k := k) rfl rfl rfl mX kX rfl (by obtain ⟨_, _, he9, hc9, _⟩ := id hro; cases he9; omega)) ?_
  refine J.op rfl (kK (by' := 15) (n := 0) (g := some (b30, 0, [])) (xs := []) [] rfl rfl rfl rfl rfl mX (.inr ⟨_, mX⟩) (by kernel_rfl) kX tK rfl ⟨hb30, rfl, rfl⟩ rfl (Src.row jY (jU.take hro hk9) (fun x _ => wS x)) (by rw [List.length_take]; omega) ?_)
  intro g31 hg31
  refine jL 1 ?_
  refine J.op rfl (kK (by' := 15) [] rfl rfl rfl rfl rfl mX (.inr ⟨_, mX⟩) (by kernel_rfl) kX tK rfl hg31 rfl (Src.row jY hrs (fun x _ => wS x)) (by rw [List.length_take, List.length_append, List.length_drop]; simp only [List.length_cons, List.length_nil]; omega) ?_)
  intro g32 hg32
  refine jL 4 ?_
  have h3 : (out.take k ++ ([t] ++ out.drop k)).length = 0 + (out.take k).length + ([t] ++ out.drop k).length := by rw [List.length_append, Nat.zero_add]
  refine Cj.perm (H' := gH 54 ((out.take k ++ ([t] ++ out.drop k)).flatMap recC) g32 ++ []) (by rw [List.flatMap_append]; exact .of_eq (List.append_nil _)) ?_
  refine Cj.keepR jY (by decide) (by rw [List.flatMap_append]; exact hg32) h3.symm (fun I6 hle6 hro2 => ?_)
  have hIJ := hIJ.mono hle6
  have hx := hx.mono hle6
  have hrl := hrl.mono hle6
  have hro := hro.mono hle6
  have hlb := hle6 _ _ hlb
  have hIK := hIK.mono hle6
  have hob := hle6 _ _ hob
  have hrs := hrs.mono hle6
  rw [← List.append_assoc] at hro2
  refine jL 5 ?_
  refine Ej.round ⟨i + 1, _, _, _⟩ ⟨by dsimp only; omega, hIJ, hins2, hro2⟩ (by dsimp only; omega) ⟨rfl, rfl, rfl, rfl, trivial⟩ rfl rfl
 refine kF ?_
 exact ⟨_, out, rfl, hins.run (by omega), hro, rfl⟩
end Go.Proofs.YtekmeaoblpfnpaaGreatDoor
end
section
namespace Go.Proofs.YtekmeaoblpfnpaaGreatDoor
open _root_.Go.Proofs.Tryz
open Go Go.Sx
def pG (most : Int) (fs : List (List Ix.Rec)) (n : Int) : Option (List Ix.Rec) := if (fs.length : Int) - max most 1 < n ∧ 0 < n then fs[(n - 1).toNat]? else none
theorem a2y most fs r n : pG most (fs ++ [r]) n = if n = (fs.length : Int) + 1 then some r else if n = (fs.length : Int) + 1 - max most 1 then none else pG most fs n := by
  unfold pG
  have hl : (fs ++ [r]).length = fs.length + 1 := by rw [List.length_append]; rfl
  rw [hl]
  by_cases h1 : n = (fs.length : Int) + 1
  · rw [if_pos h1, if_pos ⟨by omega, by omega⟩, List.getElem?_append_right (by omega)]
    have : (n - 1).toNat - fs.length = 0 := by omega
    rw [this]; rfl
  rw [if_neg h1]
  by_cases h2 : n = (fs.length : Int) + 1 - max most 1
  · rw [if_pos h2, if_neg (by omega)]
  rw [if_neg h2]
  by_cases h3 : (fs.length : Int) - max most 1 < n ∧ 0 < n
  · rw [if_pos h3, if_pos ⟨by omega, h3.2⟩]
    by_cases h4 : (n - 1).toNat < fs.length
    · rw [List.getElem?_append_left h4]
    rw [List.getElem?_eq_none (by rw [hl]; omega), List.getElem?_eq_none (by omega)]
  rw [if_neg h3, if_neg (by omega)]
theorem a5o most n : pG most [] n = none := by
  unfold pG; split
  · rfl
  rfl
abbrev kvI (a : Int) : Value := i64 a
def sN (I : Heap) (m : ML Int) (k : Nat) (most : Int) (fs : List (List Ix.Rec)) : Prop := MS m k ∧ (∀ n, pG most fs n = none → kE m n = none) ∧ ∀ n r, pG most fs n = some r → ∃ w, kE m n = some w ∧ rC 54 recC I r w
theorem sN.mono {I I' m k most fs} (h : sN I m k most fs) (hle : Le I I') : sN I' m k most fs := ⟨h.1, h.2.1, fun n r hn => let ⟨w, h1, h2⟩ := h.2.2 n r hn; ⟨w, h1, h2.mono hle⟩⟩
theorem sN.nil I most : sN I [] 0 most [] := ⟨MS.nil, fun _ _ => rfl, fun n r h => by rw [a5o] at h; cases h⟩
theorem sN.next {I m k most fs} (h : sN I m k most fs) {r w} (hr : rC 54 recC I r w) :
    sN I (nU (kJ m ((fs.length : Int) + 1) w k) ((fs.length : Int) + 1 - max most 1)) (mM m ((fs.length : Int) + 1) k) most (fs ++ [r]) := by
  have h1 := h.1.set ((fs.length : Int) + 1) w
  refine ⟨h1.del _, fun n hn => ?_, fun n r2 hn => ?_⟩
  · rw [a2y] at hn
    rw [EM h1.1, sH]
    split at hn
    · cases hn
    rename_i g
    split at hn
    · rename_i g2; rw [if_pos (by simpa using g2)]
    rename_i g2; rw [if_neg (by simpa using g2), if_neg (by simpa using g)]; exact h.2.1 n hn
  rw [a2y] at hn
  rw [EM h1.1, sH]
  split at hn
  · rename_i g
    cases hn
    exact ⟨w, by rw [if_neg (by simp only [beq_iff_eq]; omega), if_pos (by simpa using g)], hr⟩
  rename_i g
  split at hn
  · cases hn
  rename_i g2
  obtain ⟨w2, g3, g4⟩ := h.2.2 n r2 hn
  exact ⟨w2, by rw [if_neg (by simpa using g2), if_neg (by simpa using g)]; exact g3, g4⟩
abbrev So := Option (Nat × ML Int × Nat)
def b3p : So → Value
  | none => .map none
  | some (b, _, _) => .map (some b)
def b2f : So → HL
  | none => []
  | some (b, m, k) => [(b, kD kvI m k)]
def vN (I : Heap) (most : Int) (fs : List (List Ix.Rec)) : So → Prop
  | none => fs = []
  | some (_, m, k) => sN I m k most fs
theorem vN.mono {I I' most fs} : ∀ {o : So}, vN I most fs o → Le I I' → vN I' most fs o
  | none, h, _ => h
  | some (_, _, _), h, hle => sN.mono h hle
def qH (sb : Nat) (most : Int) (fs : List (List Ix.Rec)) (o : So) : HL := (sb, jM 82 [i64 most, i64 (fs.length : Int), b3p o]) :: b2f o
def nG (most : Int) (fs : List (List Ix.Rec)) (n fr many : Int) : List Ix.Rec × Int := match pG most fs n with
  | none => ([], 32)
  | some r => if fr < 0 ∨ many < 0 then ([], 1) else ((r.drop fr.toNat).take many.toNat, 0)
theorem KF {most fs n} (h : pG most fs n = none) fr many : nG most fs n fr many = ([], 32) := by unfold nG; rw [h]
theorem OH {most fs n fr many r} (h : pG most fs n = some r) (hb : fr < 0 ∨ many < 0) : nG most fs n fr many = ([], 1) := by unfold nG; rw [h]; exact if_pos hb
theorem a0D {most fs n fr many r} (h : pG most fs n = some r) (hb : ¬ (fr < 0 ∨ many < 0)) : nG most fs n fr many = ((r.drop fr.toNat).take many.toNat, 0) := by unfold nG; rw [h]; exact if_neg hb
theorem b5U {α : Type} (l : List α) a : l.drop (min a l.length) = l.drop a := by
  rcases Nat.le_total a l.length with h | h
  · rw [Nat.min_eq_left h]
  rw [Nat.min_eq_right h, List.drop_length, List.drop_eq_nil_of_le h]
theorem b6J {α : Type} (l : List α) a : l.take (min a l.length) = l.take a := by
  rcases Nat.le_total a l.length with h | h
  · rw [Nat.min_eq_left h]
  rw [Nat.min_eq_right h, List.take_length, List.take_of_length_le h]
theorem b1F l a c (hl : l.length ≤ 1000000000) I (hr : jU recC I l (.slice a l.length c)) : jO Tryz.prog 86 [.slice a l.length c] I [] (fun e _ H' => ∃ w, e = .returned w ∧ tJ l w H') := by
 refine jT func86 fun w0 hw0 => ?_
 refine jL 9 ?_
 rcases a with _ | a
 ·have hz : l = [] := by
    obtain ⟨p9, c9, he9, _, hp9⟩ := hr
    cases he9
    refine Classical.byContradiction fun hn => ?_
    obtain ⟨b9, o9, cs9, T9, fr9, sp9, h9, _⟩ := hp9 hn
    cases h9
  refine kF ?_
  exact ⟨_, rfl, by rw [hz]; exact rG⟩
 skip
 refine jL 8 ?_
 refine J.op rfl (CJ rfl rfl rfl mX kX ?_)
 intro b3 hb3
 refine jL 1 ?_
 refine J.op rfl (kK (by' := 15) (n := 0) (g := some (b3, 0, [])) (xs := []) [] rfl rfl rfl rfl rfl mX (.inr ⟨_, mX⟩) (by kernel_rfl) kX tK rfl ⟨hb3, rfl, rfl⟩ rfl (Src.row jY hr (fun x _ => wS x)) (by omega) ?_)
 intro g4 hg4
 refine jL 4 ?_
 refine Ej.keep Keeps.r ?_
 refine jW ?_
 exact ⟨_, rfl, KJ (Nat.zero_add _) (zU hg4)⟩
theorem b5W most I : jO Tryz.prog 40 [i64 most] I [] (fun e _ H' => ∃ sb, e = .returned (ptr sb 0) ∧ H' = qH sb most [] none) := by
 refine jT func40 fun w0 hw0 => ?_
 refine Cj.sr (J.as ?_)
 refine J.wY (J.z q1 ?_)
 refine J.z (jX (pl := #[(0, 1), (1, 1), (2, 1)]) rfl rfl zeroValue82 rfl underlying82 (fun w => by simp [oJ, sizeOf80]) (pU.part rfl rfl rfl (nV.c nV.z) pU.none)) ?_
 refine J.op rfl (qU rfl rfl rfl rfl rfl ?_)
 intro b1 hb1
 refine J.as ?_
 refine J.ns (Cj.ret ?_)
 refine Ej.JD rfl rfl rfl ?_
 exact ⟨b1, rfl, rfl⟩
theorem a9A sb xv L q p c most fs (hsz : q.size ≤ 1000000000) (hwd : q.wide ≤ 10000000) (hmost : most ≤ 9223372036854775807) (hfl : fs.length ≤ 1000000) (hfs : fs = []) (hR : Cq.right q = true) (htk : Ix.TOK L) I (hps : PS I q.ps p) (hx : wQ I xv L) (hT : uD I)  :
    jO Tryz.prog 36 [ptr sb 0, xv, .agg (kP q p c).toArray] I (qH sb most fs none) (fun e I' H' => ∃ r o', e = .returned (.tuple #[i64 ((fs.length : Int) + 1), i64 (r.length : Int), i64 0]) ∧ Ix.yU L q r ∧ vN I' most (fs ++ [r]) o' ∧ H' = qH sb most (fs ++ [r]) o') := by
 have hbig := hx.big
 have hok : sN I [] 0 most fs := by rw [hfs]; exact sN.nil I most
 unfold qH b2f b3p
 refine jT func36 fun w0 hw0 => ?_
 refine jL 3 ?_
 intro b1 hb1
 refine uF (IU xv L (q) p c hsz hwd hR htk _ hps hx hT) ?_
 intro v4 I5 H6 hle7 hn3 hp8
 have hps := hps.mono hle7
 have hx := hx.mono hle7
 have hT := hT.mono hle7
 have hok := hok.mono hle7
 obtain ⟨wa, ra, h, hruna, hoa⟩ := hp8; cases h
 refine J.FT hoa hn3 (fun Ia hlea hra => ?_)
 have hps := hps.mono hlea
 have hx := hx.mono hlea
 have hT := hT.mono hlea
 have hok := hok.mono hlea
 have hrt := hra
 replace hra := hra.row
 obtain ⟨pa, ca, rfl⟩ := kS hra
 refine jL 30 ?_
 refine J.op rfl (kN rfl rfl rfl ?_)
 intro b11 hb11
 refine jL 18 ?_
 have hral : ra.length ≤ L.length := hruna.len
 refine Cj.qJ [1, 2] [] 10 (by kernel_rfl) ?_
 refine jL 9 ?_
 refine q0 9 rfl (nI (kv := kvI) (l := []) (c := 0) (a := ((fs.length : Int) + 1)) 0 (.inr rfl) rfl rfl rfl rfl rfl XA (mV.int WR) rfl lF.z ?_)
 refine jL 4 ?_
 refine Cj.qJ [1, 2] [] 15 (by kernel_rfl) ?_
 refine jL 12 ?_
 refine JA.zt 12 rfl (rY rfl rfl rfl) ?_
 refine jL 1 ?_
 refine q0 14 rfl (uY (kv := kvI) (a := (((fs.length : Int) + 1) - max most 1)) 0 rfl rfl rfl rfl (congrArg i64 (by omega)) XA (mV.int WR) rfl lF.z ?_)
 refine jL 17 ?_
 refine Ej.keep (Keeps.k (Keeps.d (Keeps.k Keeps.n))) ?_
 refine Ej.pull Pull.z ?_
 refine Ej.pull (Pull.s Pull.z) ?_
 refine Ej.a9h rfl rfl rfl rfl rfl ?_
 exact ⟨ra, some (b11, _, _), rfl, hruna, sN.next hok hrt, by rw [List.length_append]; rfl⟩
theorem b0i sb xv L q p c most fs (hsz : q.size ≤ 1000000000) (hwd : q.wide ≤ 10000000) mb m k (hmost : most ≤ 9223372036854775807) (hfl : fs.length ≤ 1000000)  (hR : Cq.right q = true) (htk : Ix.TOK L) I (hps : PS I q.ps p) (hx : wQ I xv L) (hT : uD I) (hok : sN I m k most fs) :
    jO Tryz.prog 36 [ptr sb 0, xv, .agg (kP q p c).toArray] I (qH sb most fs (some (mb, m, k))) (fun e I' H' => ∃ r o', e = .returned (.tuple #[i64 ((fs.length : Int) + 1), i64 (r.length : Int), i64 0]) ∧ Ix.yU L q r ∧ vN I' most (fs ++ [r]) o' ∧ H' = qH sb most (fs ++ [r]) o') := by
 have hbig := hx.big
 unfold qH b2f b3p
 refine jT func36 fun w0 hw0 => ?_
 refine jL 3 ?_
 intro b1 hb1
 refine uF (IU xv L (q) p c hsz hwd hR htk _ hps hx hT) ?_
 intro v4 I5 H6 hle7 hn3 hp8
 have hps := hps.mono hle7
 have hx := hx.mono hle7
 have hT := hT.mono hle7
 have hok := hok.mono hle7
 obtain ⟨wa, ra, h, hruna, hoa⟩ := hp8; cases h
 refine J.FT hoa hn3 (fun Ia hlea hra => ?_)
 have hps := hps.mono hlea
 have hx := hx.mono hlea
 have hT := hT.mono hlea
 have hok := hok.mono hlea
 have hrt := hra
 replace hra := hra.row
 obtain ⟨pa, ca, rfl⟩ := kS hra
 refine jL 43 ?_
 have hral : ra.length ≤ L.length := hruna.len
 refine Cj.qJ [0, 1] [] 10 (by kernel_rfl) ?_
 refine jL 9 ?_
 refine q0 9 rfl (nI (kv := kvI) (a := ((fs.length : Int) + 1)) 2 (.inr rfl) rfl rfl rfl rfl rfl XA (mV.int WR) rfl (lF.s (lF.s lF.z)) ?_)
 refine jL 4 ?_
 refine Cj.qJ [0, 1] [] 15 (by kernel_rfl) ?_
 refine jL 12 ?_
 refine JA.zt 12 rfl (rY rfl rfl rfl) ?_
 refine jL 1 ?_
 refine q0 14 rfl (uY (kv := kvI) (a := (((fs.length : Int) + 1) - max most 1)) 2 rfl rfl rfl rfl (congrArg i64 (by omega)) XA (mV.int WR) rfl (lF.s (lF.s lF.z)) ?_)
 refine jL 17 ?_
 refine Ej.keep (Keeps.d (Keeps.k (Keeps.k Keeps.n))) ?_
 refine Ej.a9h rfl rfl rfl rfl rfl ?_
 exact ⟨ra, some (mb, _, _), rfl, hruna, sN.next hok hrt, by rw [List.length_append]; rfl⟩
theorem b6A sb xv L q p c most fs (hsz : q.size ≤ 1000000000) (hwd : q.wide ≤ 10000000) o (hmost : most ≤ 9223372036854775807) (hfl : fs.length ≤ 1000000) (hR : Cq.right q = true) (htk : Ix.TOK L) I (hps : PS I q.ps p) (hx : wQ I xv L) (hT : uD I) (hok : vN I most fs o) :
    jO Tryz.prog 36 [ptr sb 0, xv, .agg (kP q p c).toArray] I (qH sb most fs o) (fun e I' H' => ∃ r o', e = .returned (.tuple #[i64 ((fs.length : Int) + 1), i64 (r.length : Int), i64 0]) ∧ Ix.yU L q r ∧ vN I' most (fs ++ [r]) o' ∧ H' = qH sb most (fs ++ [r]) o') := by
  rcases o with _ | ⟨mb, m, k⟩
  · exact a9A sb xv L q p c most fs hsz hwd hmost hfl hok hR htk I hps hx hT
  exact b0i sb xv L q p c most fs hsz hwd mb m k hmost hfl hR htk I hps hx hT hok
theorem b4j sb xv (L : Ix.Ix) q p c (hsz : q.size ≤ 1000000000) (hwd : q.wide ≤ 10000000) (hR : Cq.right q = false) I (hps : PS I q.ps p) : Pure Tryz.prog 36 [ptr sb 0, xv, .agg (kP q p c).toArray] I (.tuple #[i64 0, i64 0, i64 1]) := by
 refine jO.toPure ?_
 refine jT func36 fun w0 hw0 => ?_
 refine jL 3 ?_
 intro b1 hb1
 refine kC (b6N xv L q p c hsz hwd hR _ hps) ?_
 refine jL 25 ?_
 refine Ej.bare ?_
 refine Ej.a9h rfl rfl rfl rfl rfl ?_
 exact ⟨rfl, rfl⟩
theorem b0L sb most fs n fr many (hfl : ∀ r, pG most fs n = some r → r.length ≤ 1000000) (hfs : fs = []) I (hsb : I sb = some (jM 82 [i64 most, i64 (fs.length : Int), .map none]))  :
    jO Tryz.prog 37 [ptr sb 0, i64 n, i64 fr, i64 many] I [] (fun e _ H' => ∃ w, e = .returned (.tuple #[w, i64 (nG most fs n fr many).2]) ∧ tJ (nG most fs n fr many).1 w H') := by
 have hkn : pG most fs n = none := by rw [hfs]; exact a5o _ _
 refine jT func37 fun w0 hw0 => ?_
 refine jL 23 ?_
 refine J.z (a3k (kv := kvI) (a := n) rfl rfl rfl rfl XA (mV.int WR) zeroValue36) ?_
 refine kF ?_
 rw [KF hkn]
 exact ⟨_, rfl, rG⟩
theorem b1M sb most fs n fr many mb m k (hfl : ∀ r, pG most fs n = some r → r.length ≤ 1000000)  I (hsb : I sb = some (jM 82 [i64 most, i64 (fs.length : Int), .map (some mb)])) (hmb : I mb = some (kD kvI m k)) (hok : sN I m k most fs) :
    jO Tryz.prog 37 [ptr sb 0, i64 n, i64 fr, i64 many] I [] (fun e _ H' => ∃ w, e = .returned (.tuple #[w, i64 (nG most fs n fr many).2]) ∧ tJ (nG most fs n fr many).1 w H') := by

 refine jT func37 fun w0 hw0 => ?_
 refine jL 23 ?_
 rcases hkn : pG most fs n with _ | r
 ·have hg : kE m n = none := hok.2.1 n hkn
  refine J.z (PZ (kv := kvI) (l := m) (a := n) rfl rfl rfl rfl XA (mV.int WR) zeroValue36 (jV.BU hmb)) ?_
  refine jL 3 ?_
  refine J.ev 22 (.bool false) rfl (by rw [hg]; rfl) ?_
  refine kF ?_
  rw [KF hkn]
  exact ⟨_, rfl, rG⟩
 obtain ⟨wr, hg, hrowt⟩ := hok.2.2 n r hkn
 have hrow := hrowt.row
 obtain ⟨pw, cw, rfl⟩ := kS hrow
 have hrl := hfl r hkn
 have hcw : r.length ≤ cw := by obtain ⟨p9, c9, he9, hc9, _⟩ := hrow; cases he9; exact hc9
 refine J.z (PZ (kv := kvI) (l := m) (a := n) rfl rfl rfl rfl XA (mV.int WR) zeroValue36 (jV.BU hmb)) ?_
 refine jL 2 ?_
 refine J.ev 21 (.slice pw r.length cw) rfl (by rw [hg]; rfl) ?_
 refine jL 1 ?_
 refine J.ev 22 (.bool true) rfl (by rw [hg]; rfl) ?_
 refine mP (fun hg4 hg4p => ?_) (fun hg4 hg4p => ?_)
 ·refine kF ?_
  rw [OH hkn (.inl (lY hg4))]
  exact ⟨_, rfl, rG⟩
 refine jR (fun hc6 hc6p => ?_) (fun hc6 hc6p => ?_)
 ·refine kF ?_
  rw [OH hkn (.inr (by have h := hc6; exact lY h))]
  exact ⟨_, rfl, rG⟩
 refine jL 4 ?_
 skip
 refine jL 5 ?_
 refine J.z (rX rfl rfl rfl) ?_
 refine J.ev 37 (i64 ((min fr.toNat r.length) : Nat)) rfl (congrArg i64 (by omega)) ?_
 refine J.z (qB (j := (min fr.toNat r.length)) rfl rfl rfl mX kX rfl (Nat.min_le_right _ _) hcw) ?_
 refine J.ev 38 (.slice (zQ pw cw (min fr.toNat r.length) 2) (r.drop (min fr.toNat r.length)).length (cw - (min fr.toNat r.length))) rfl (by rw [List.length_drop]) ?_
 refine jL 4 ?_
 have hrw1 : jU recC I (r.drop (min fr.toNat r.length)) (.slice (zQ pw cw (min fr.toNat r.length) 2) (r.drop (min fr.toNat r.length)).length (cw - (min fr.toNat r.length))) := by rw [List.length_drop]; exact jU.from jY hrow (Nat.min_le_right _ _)
 have hrw2 : jU recC I ((r.drop (min fr.toNat r.length)).take (min many.toNat (r.drop (min fr.toNat r.length)).length)) (.slice (zQ pw cw (min fr.toNat r.length) 2) ((r.drop (min fr.toNat r.length)).take (min many.toNat (r.drop (min fr.toNat r.length)).length)).length (cw - (min fr.toNat r.length))) := by rw [List.length_take, Nat.min_eq_left (Nat.min_le_right _ _)]; exact jU.take hrw1 (Nat.min_le_right _ _)
 have hfin : (r.drop (min fr.toNat r.length)).take (min many.toNat (r.drop (min fr.toNat r.length)).length) = (r.drop fr.toNat).take many.toNat := by rw [b6J, b5U]
 have hdl : (r.drop (min fr.toNat r.length)).length = r.length - (min fr.toNat r.length) := List.length_drop
 refine jL 5 ?_
 refine J.z (rX rfl rfl rfl) ?_
 refine J.ev 43 (i64 ((min many.toNat (r.drop (min fr.toNat r.length)).length) : Nat)) rfl (congrArg i64 (by rw [List.length_drop]; omega)) ?_
 refine J.z (qF (k := (min many.toNat (r.drop (min fr.toNat r.length)).length)) rfl rfl rfl mX kX rfl (by rw [List.length_drop]; omega)) ?_
 refine J.ev 44 (.slice (zQ pw cw (min fr.toNat r.length) 2) ((r.drop (min fr.toNat r.length)).take (min many.toNat (r.drop (min fr.toNat r.length)).length)).length (cw - (min fr.toNat r.length))) rfl (by rw [List.length_take, Nat.min_eq_left (Nat.min_le_right _ _)]) ?_
 refine kH (b1F ((r.drop (min fr.toNat r.length)).take (min many.toNat (r.drop (min fr.toNat r.length)).length)) _ _ (by rw [List.length_take, List.length_drop]; omega) _ hrw2) ?_
 intro v7 I8 H9 hle10 hp11
 have hsb := hle10 _ _ hsb
 have hmb := hle10 _ _ hmb
 have hok := hok.mono hle10
 have hrow := hrow.mono hle10
 have hrw2 := hrw2.mono hle10
 obtain ⟨wa, h, hoa⟩ := hp11; cases h
 refine jW ?_
 rw [a0D hkn (by omega), ← hfin, List.append_nil]
 exact ⟨_, rfl, hoa⟩
def b8e (I : Heap) (sb : Nat) (most : Int) (fs : List (List Ix.Rec)) : Prop := ∃ o, vN I most fs o ∧ ∀ p ∈ qH sb most fs o, I p.1 = some p.2
theorem PO {most fs n r} (h : pG most fs n = some r) : r ∈ fs := by
  unfold pG at h
  split at h
  · exact lV h
  cases h
theorem b5o sb most fs n fr many (hfl : ∀ r ∈ fs, r.length ≤ 1000000) I (h : b8e I sb most fs) : jO Tryz.prog 37 [ptr sb 0, i64 n, i64 fr, i64 many] I [] (fun e _ H' => ∃ w, e = .returned (.tuple #[w, i64 (nG most fs n fr many).2]) ∧ tJ (nG most fs n fr many).1 w H') := by
  obtain ⟨o, h1, h2⟩ := h
  rcases o with _ | ⟨mb, m, k⟩
  · exact b0L sb most fs n fr many (fun r hr => hfl r (PO hr)) h1 I (h2 _ (.head _))
  exact b1M sb most fs n fr many mb m k (fun r hr => hfl r (PO hr)) I (h2 _ (.head _)) (h2 _ (.tail _ (.head _))) h1
end Go.Proofs.YtekmeaoblpfnpaaGreatDoor
end
namespace Go.Sx
open Go
section
variable {cx:Cx} {Q:Qt} {o:Oper} {e:Env} {I:Heap} {H:HL} {C:Ct} {S:World→Prop}
theorem a8J {T E d sz by' n m b c x y U pr xs sp ys yv z} R (ho : o.op = .call ⟨.builtin .append, #[x, y], #[T, U]⟩) (hd : o.dst = some d) (hn : Nat.blt d cx.n = true)
    (hx : ev e x = some (.slice (some ⟨b, pr.length, none⟩) n c)) (hy : ev e y = some yv) (hu : cx.P.underlying T = some (.slice E)) (hU : cx.P.underlying U = some .string ∨ ∃ E', cx.P.underlying U = some (.slice E'))
    (hi0 : (cx.P.info? E).map (·.bytes) = some (by' + 1)) (hsz : ∀ w, (sizeOf E).run cx.P w = .ok sz w) (hz : ∀ w, (zeroValue E).run cx.P w = .ok z w) (hzs : z.cells.size = sz)
    (hxl : xs.length = n * sz) (hcl : xs.length + sp.length = c * sz) (hH : H = R ++ [(b, jM E (pr ++ (xs ++ sp)))]) (hs : Src cx.P I H sz m yv ys) (hroom : (2 * (n + m) + 768) * (by' + 1) ≤ 281474976710656)
    (k : ∀ b' pr' c' sp', (b' = b ∨ cx.w0.heap.size ≤ b') → (xs ++ ys).length + sp'.length = c' * sz → C ((d, .slice (some ⟨b', List.length pr', none⟩) (n + m) c') :: e) I (R ++ [(b', jM E (pr' ++ ((xs ++ ys) ++ sp')))])) : lX cx Q o e I H C := by
  intro K hK a w ha hst
  obtain ⟨hs1, hs2, hs3, hs4⟩ := hs
  obtain ⟨i, hi, hby⟩ : ∃ i, cx.P.info? E = some i ∧ i.bytes = by' + 1 := by
    cases h : cx.P.info? E with
    | none => rw [h] at hi0; cases hi0
    | some i => rw [h] at hi0; exact ⟨i, rfl, by simpa using hi0⟩
  have hss := hst.ss
  unfold Oper.wp
  have key : ∃ w' b' pr' c' sp', (execOp a.eval o).run cx.P w = .ok (.value (.slice (some ⟨b', List.length pr', none⟩) (n + m) c')) w' ∧ (b' = b ∨ cx.w0.heap.size ≤ b') ∧ (xs ++ ys).length + List.length sp' = c' * sz ∧ St cx.w0 cx.D cx.I0 I (R ++ [(b', jM E (pr' ++ ((xs ++ ys) ++ sp')))]) w' := by
    have hti : ∀ w', (typeInfo E).run cx.P w' = .ok i w' := fun w' => by simp [typeInfo, hi]
    have pre : (execOp a.eval o).run cx.P w =
        ((Builtin.append_ #[T, U] o.type #[.slice (some ⟨b, pr.length, none⟩) n c, yv]).run cx.P w).andThen fun v w' => .ok (.value v) w' := by
      simp only [execOp, ho, resolve, invoke, builtin, Sem.run_bind, Sem.run_pure, Result.andThen_ok, List.map_toArray, List.map_cons, List.map_nil, ha.eval hx, ha.eval hy]
    have hmem : (b, jM E (pr ++ (xs ++ sp))) ∈ H := by rw [hH]; simp
    have hblk := hst.own _ hmem
    rw [pre]
    by_cases hfit : n + m ≤ c
    · have fits : (Builtin.append_ #[T, U] o.type #[.slice (some ⟨b, pr.length, none⟩) n c, yv]).run cx.P w =
          ((storeCells ((⟨b, pr.length, none⟩ : Addr).add (n * sz)) ys).run cx.P w).andThen fun _ w' => .ok (.slice (some ⟨b, pr.length, none⟩) (n + m) c) w' := by
        rcases hU with hU1 | ⟨E', hU1⟩ <;> simp [Builtin.append_, run_underlying hu, run_underlying hU1, hsz, hs3 w hss, hs4 w hss, hfit]
      rw [fits]
      have hle : ys.length ≤ sp.length := by
        have : (n + m) * sz ≤ c * sz := Nat.mul_le_mul_right sz hfit
        rw [Nat.add_mul] at this; omega
      have hspl : nV (pr ++ (xs ++ sp)) (pr.length + n * sz + 0) ys (pr ++ ((xs ++ ys) ++ sp.drop ys.length)) := by
        refine ⟨by simp only [List.length_append]; omega, ?_⟩
        have e1 : (pr ++ (xs ++ sp)).take (pr.length + n * sz) = pr ++ xs := by
          rw [← hxl, ← List.append_assoc, ← List.length_append, List.take_left' rfl]
        have e2 : (pr ++ (xs ++ sp)).drop (pr.length + n * sz + ys.length) = sp.drop ys.length := by
          rw [← hxl, ← List.append_assoc, ← List.length_append, ← List.drop_drop, List.drop_left' rfl]
        rw [Nat.add_zero, e1, e2]
        simp only [List.append_assoc]
      have hrun := pV (P := cx.P) (b := b) (off := pr.length + n * sz) (t := E) ys 0 w (pr ++ (xs ++ sp)) hblk (.inl rfl) (by simp only [List.length_append]; omega) (fun u hu => (List.all_eq_true.1 hs2) u hu) _ hspl
      refine ⟨World.block w b (.cells (pr ++ ((xs ++ ys) ++ sp.drop ys.length)).toArray E (0, 0)), b, pr, c, sp.drop ys.length, ?_, .inl rfl, ?_, ?_⟩
      · simp only [Result.andThen_ok, Addr.add_lit, hrun]
      · simp [hs1, hxl]; omega
      subst hH
      have hidx : (R ++ [(b, jM E (pr ++ (xs ++ sp)))])[R.length]? = some (b, jM E (pr ++ (xs ++ sp))) := by simp
      have hset : lF (R ++ [(b, jM E (pr ++ (xs ++ sp)))]) R.length (b, jM E (pr ++ ((xs ++ ys) ++ sp.drop ys.length))) (R ++ [(b, jM E (pr ++ ((xs ++ ys) ++ sp.drop ys.length)))]) := by
        refine ⟨by simp, ?_⟩
        rw [List.set_append_right _ _ (Nat.le_refl _)]
        simp
      exact hst.block hidx hset
    have hold : ∀ w', SS I H w' → (Builtin.firstCells sz n (.slice (some ⟨b, pr.length, none⟩) n c)).run cx.P w' = .ok xs.toArray w' := fun w' hw' =>
      yL (cs := pr ++ (xs ++ sp)) (hw'.2 _ hmem) (by rw [List.drop_left' rfl, ← hxl, List.take_left' rfl]) hxl
    have hc : c < n + m := by omega
    have hb1 : ¬ (2 ^ 48 < Builtin.nextslicecap (n + m) c * i.bytes) := by
      have := ZO (n + m) c hc
      rw [hby]
      have h2 := Nat.mul_le_mul_right (by' + 1) this
      have h3 : (2 : Nat) ^ 48 = 281474976710656 := by decide
      omega
    have hb2 : ¬ i.bytes = 0 := by omega
    have hss1 : SS I H { w with drawn := w.drawn + 1 } := hss
    have grows : (Builtin.append_ #[T, U] o.type #[.slice (some ⟨b, pr.length, none⟩) n c, yv]).run cx.P w =
        let cap := (Question.appendCap (n + m) c E).cut (w.tape w.drawn (.appendCap (n + m) c E))
        .ok (.slice (some ⟨w.heap.size, 0, none⟩) (n + m) cap) { { w with drawn := w.drawn + 1 } with heap := w.heap.push (.cells (xs.toArray ++ ys.toArray ++ Builtin.zeroCells z.cells (cap - (n + m))) E (0, 0)) } := by
      rcases hU with hU1 | ⟨E', hU1⟩ <;> simp only [Builtin.append_, List.getElem?_toArray, List.getElem?_cons_zero, List.getElem?_cons_succ, Sem.run_bind, Sem.run_pure, run_underlying hu, run_underlying hU1, Result.andThen_ok, hsz, hs3 w hss, Bool.false_eq_true, if_false, Sem.run_ite, hfit, hti, hb1, hb2, false_or, and_false, gt_iff_lt, run_choose, Question.forced, run_askRoom, hold _ hss1, Bool.not_false, if_true, hs4 _ hss1, hz, newRow, run_newObj]
    rw [grows]
    let cap := (Question.appendCap (n + m) c E).cut (w.tape w.drawn (.appendCap (n + m) c E))
    refine ⟨{ { w with drawn := w.drawn + 1 } with heap := w.heap.push (.cells (xs.toArray ++ ys.toArray ++ Builtin.zeroCells z.cells (cap - (n + m))) E (0, 0)) }, w.heap.size, [], cap, (Builtin.zeroCells z.cells (cap - (n + m))).toList, ?_, .inr hst.size, ?_, ?_⟩
    · rfl
    · have hcap : n + m ≤ cap := by simp only [cap, Question.cut]; omega
      simp only [Builtin.zeroCells, Array.length_toList, Array.size_map, Array.size_range, List.length_append, hxl, hs1, hzs]
      rw [← Nat.add_mul, ← Nat.add_mul]
      congr 1; omega
    have h0 := (hst.drewN (w.drawn + 1)).alloc (.cells (xs.toArray ++ ys.toArray ++ Builtin.zeroCells z.cells (cap - (n + m))) E (0, 0))
    have hcell : (Obj.cells (xs.toArray ++ ys.toArray ++ Builtin.zeroCells z.cells (cap - (n + m))) E (0, 0)) = jM E ([] ++ ((xs ++ ys) ++ (Builtin.zeroCells z.cells (cap - (n + m))).toList)) := by
      simp [jM]
    rw [hcell] at h0 ⊢
    subst hH
    have h1 := h0.sublist (H' := (w.heap.size, jM E ([] ++ ((xs ++ ys) ++ (Builtin.zeroCells z.cells (cap - (n + m))).toList))) :: R) (List.Sublist.cons_cons _ (List.sublist_append_left _ _))
    refine h1.perm ?_
    exact List.perm_append_comm
  obtain ⟨w', b', pr', c', sp', h1, h2, h3, h4⟩ := key
  rw [h1]
  simp only [Oper.upon, hd]
  exact hK _ _ _ (k b' pr' c' sp' h2 h3) _ _ (ha.put hn) h4
end
end Go.Sx
section
namespace Go.Proofs.YtekmeaoblpfnpaaGreatDoor
open _root_.Go.Proofs.Tryz
open Go Go.Sx
def LV (fs : List (List Ix.Rec)) : List (Int × List Ix.Rec) := fs.zipIdx.map fun p => ((p.2 : Int) + 1, p.1)
theorem JH fs : (LV fs).length = fs.length := by unfold LV; rw [List.length_map, List.length_zipIdx]
theorem a2w fs r : LV (fs ++ [r]) = LV fs ++ [((fs.length : Int) + 1, r)] := by
  unfold LV
  rw [List.zipIdx_append, List.map_append]
  simp
theorem a5R fs (j : Nat) : (LV fs)[j]? = (fs[j]?).map fun r => ((j : Int) + 1, r) := by
  unfold LV
  rw [List.getElem?_map, List.getElem?_zipIdx]
  cases fs[j]? <;> simp
def sK (most : Int) (fs : List (List Ix.Rec)) : List (Int × List Ix.Rec) := (LV fs).drop (fs.length - (max most 1).toNat)
theorem b0Q most : sK most [] = [] := by unfold sK LV; simp
theorem b0P {most fs r} (h : ¬ (max most 1 < ((sK most fs).length : Int) + 1)) : sK most (fs ++ [r]) = sK most fs ++ [((fs.length : Int) + 1, r)] := by
  unfold sK at h ⊢
  rw [List.length_drop, JH] at h
  rw [a2w, List.length_append, List.length_singleton, show fs.length + 1 - (max most 1).toNat = 0 by omega, show fs.length - (max most 1).toNat = 0 by omega, List.drop_zero, List.drop_zero]
theorem b1D {most fs r} (h : max most 1 < ((sK most fs).length : Int) + 1) : sK most (fs ++ [r]) = (sK most fs ++ [((fs.length : Int) + 1, r)]).drop 1 := by
  unfold sK at h ⊢
  rw [List.length_drop, JH] at h
  have hk : fs.length - (max most 1).toNat ≤ (LV fs).length := by rw [JH]; omega
  rw [a2w, List.length_append, List.length_singleton, ← List.drop_append_of_le_length hk, List.drop_drop]
  congr 1; omega
theorem a3S {most fs n r} : (n, r) ∈ sK most fs ↔ pG most fs n = some r := by
  unfold sK pG
  rw [List.mem_iff_getElem?]
  constructor
  · rintro ⟨i, hi⟩
    rw [List.getElem?_drop, a5R] at hi
    cases hf : fs[fs.length - (max most 1).toNat + i]? with
    | none => rw [hf] at hi; cases hi
    | some x =>
      rw [hf] at hi
      simp only [Option.map_some, Option.some.injEq, Prod.mk.injEq] at hi
      obtain ⟨h1, rfl⟩ := hi
      have hlt := (List.getElem?_eq_some_iff.1 hf).1
      rw [if_pos ⟨by omega, by omega⟩, show (n - 1).toNat = fs.length - (max most 1).toNat + i by omega]
      exact hf
  intro h
  split at h
  · rename_i hc
    have hlt := (List.getElem?_eq_some_iff.1 h).1
    refine ⟨(n - 1).toNat - (fs.length - (max most 1).toNat), ?_⟩
    rw [List.getElem?_drop, a5R, show fs.length - (max most 1).toNat + ((n - 1).toNat - (fs.length - (max most 1).toNat)) = (n - 1).toNat by omega, h]
    simp only [Option.map_some, Option.some.injEq, Prod.mk.injEq, and_true]; omega
  cases h
structure RS where
  n : Int
  l : List Ix.Rec
  v : Value
abbrev yM (x : RS) : List Value := [i64 x.n, x.v]
theorem wL x : (yM x).length = 2 := rfl
abbrev rsP (x : RS) : Int × List Ix.Rec := (x.n, x.l)
def rV (I : Heap) (most : Int) (fs : List (List Ix.Rec)) (ks : List RS) : Prop := ks.map rsP = sK most fs ∧ ∀ x ∈ ks, jU recC I x.l x.v
theorem rV.mono {I I' most fs ks} (h : rV I most fs ks) (hle : Le I I') : rV I' most fs ks := ⟨h.1, fun x hx => (h.2 x hx).mono hle⟩
abbrev Ro := Option (Nat × List Value × Nat × List Value)
def rsV (n : Nat) : Ro → Value
  | none => .slice none 0 0
  | some (b, pr, c, _) => .slice (some ⟨b, pr.length, none⟩) n c
def rsO (ks : List RS) : Ro → HL
  | none => []
  | some (b, pr, _, sp) => [(b, jM 163 (pr ++ (ks.flatMap yM ++ sp)))]
def a0K (ks : List RS) : Ro → Prop
  | none => ks = []
  | some (_, _, c, sp) => (ks.flatMap yM).length + sp.length = c * 2
def yG (sb : Nat) (most : Int) (fs : List (List Ix.Rec)) (ks : List RS) (o : Ro) : HL := (sb, jM 161 [i64 most, i64 (fs.length : Int), rsV ks.length o]) :: rsO ks o
theorem rV.all {I most fs ks r w} (h : rV I most fs ks) (hr : jU recC I r w) (hc : ¬ (max most 1 < (ks.length : Int) + 1)) : rV I most (fs ++ [r]) (ks ++ [⟨(fs.length : Int) + 1, r, w⟩]) := by
  have hl : (sK most fs).length = ks.length := by rw [← h.1, List.length_map]
  refine ⟨by rw [List.map_append, h.1, b0P (by rw [hl]; exact hc)]; rfl, fun x hx => ?_⟩
  rcases List.mem_append.1 hx with g | g
  · exact h.2 x g
  rw [List.mem_singleton.1 g]; exact hr
theorem rV.cut {I most fs ks kt r w x0} (h : rV I most fs ks) (hr : jU recC I r w) (hc : max most 1 < (ks.length : Int) + 1) (he : ks ++ [⟨(fs.length : Int) + 1, r, w⟩] = x0 :: kt) : rV I most (fs ++ [r]) kt := by
  have hl : (sK most fs).length = ks.length := by rw [← h.1, List.length_map]
  refine ⟨?_, fun x hx => ?_⟩
  · have h1 := congrArg (List.map rsP) he
    rw [List.map_append, h.1] at h1
    rw [b1D (by rw [hl]; exact hc)]
    have h2 := congrArg (List.drop 1) h1
    exact h2.symm
  have hm : x ∈ ks ++ [⟨(fs.length : Int) + 1, r, w⟩] := by rw [he]; exact .tail _ hx
  rcases List.mem_append.1 hm with g | g
  · exact h.2 x g
  rw [List.mem_singleton.1 g]; exact hr
theorem QE ks x : (ks ++ [x]).flatMap yM = ks.flatMap yM ++ yM x := by simp
theorem b6K b n c (hc : c ≠ 1) : zQ (some ⟨b, n, none⟩) c 1 2 = some ⟨b, n + 2, none⟩ := by unfold zQ; rw [if_neg hc]; rfl
theorem b2r xv q p c (hsz : q.size ≤ 1000000) (hR : Cq.right q = false) I (hps : PS I q.ps p) : Pure Tryz.prog 19 [xv, .agg (kP q p c).toArray] I (.tuple #[.slice none 0 0, i64 1]) := by
 refine jO.toPure ?_
 refine jT func19 fun w0 hw0 => ?_
 refine jL 3 ?_
 intro b1 hb1
 refine kC (a3K q p c (by have := Cq.a3b q; omega) _ hps) ?_
 refine J.ev 13 (.bool false) rfl (congrArg Value.bool hR) ?_
 refine kF ?_
 exact ⟨rfl, rfl⟩
theorem b6a most I : jO Tryz.prog 38 [i64 most] I [] (fun e _ H' => ∃ sb, e = .returned (ptr sb 0) ∧ H' = yG sb most [] [] none) := by
 refine jT func38 fun w0 hw0 => ?_
 refine Cj.sr (J.as ?_)
 refine J.wY (J.z q1 ?_)
 refine J.z (jX (pl := #[(0, 1), (1, 1), (2, 1)]) rfl rfl zeroValue161 rfl GN (fun w => by simp [sizeOf159, oJ]) (pU.part rfl rfl rfl (nV.c nV.z) pU.none)) ?_
 refine J.op rfl (qU rfl rfl rfl rfl rfl ?_)
 intro b1 hb1
 refine J.as ?_
 refine J.ns (Cj.ret ?_)
 refine Ej.JD rfl rfl rfl ?_
 exact ⟨b1, rfl, rfl⟩
theorem a8n sb rb es q p c (hsz : q.size ≤ 1000000) (hwd : q.wide ≤ 10000000) most fs ks (hmost : most ≤ 9223372036854775807) (hfl : fs.length ≤ 1000000) (hkl : ks.length ≤ 1000000) (hks : ks = []) (hR : Cq.right q = true) (hfew : Ix.QL (es.map jQ)) (htk : Ix.TOK (es.map jQ)) I (hps : PS I q.ps p) (hx : AO I rb es) (hok : rV I most fs ks) :
    jO Tryz.prog 39 [ptr sb 0, ptr rb 0, .agg (kP q p c).toArray] I (yG sb most fs ks none) (fun e I' H' => ∃ r ks' o', e = .returned (.tuple #[i64 ((fs.length : Int) + 1), i64 (r.length : Int), i64 0]) ∧ Ix.yU (es.map jQ) q r ∧ rV I' most (fs ++ [r]) ks' ∧ a0K ks' o' ∧ H' = yG sb most (fs ++ [r]) ks' o') := by
 subst hks
 refine jO.perm (H1 := [(sb, jM 161 [i64 most, i64 (fs.length : Int), .slice none 0 0])]) (.refl _) ?_
 refine jT func39 fun w0 hw0 => ?_
 refine jL 3 ?_
 intro b1 hb1
 refine kH (a7L rb es q p c hsz hwd hR hfew htk _ hps hx) ?_
 intro v2 I3 H4 hle5 hp6
 have hps := hps.mono hle5
 have hx := hx.mono hle5
 have hok := hok.mono hle5
 obtain ⟨va, ra, h, hruna, hra, rfl⟩ := hp6; cases h
 obtain ⟨pa, ca, rfl⟩ := kS hra
 refine jL 30 ?_
 refine Cj.qJ [0, 1] [] 15 (by kernel_rfl) ?_
 refine JA.fix lG (fun fx8 => ?_)
 refine JA.tk 0 rfl fx8 q1 ?_
 refine JA.tk 1 rfl fx8 q1 ?_
 refine JA.tk 2 rfl fx8 (mG rfl rfl) ?_
 refine JA.tk 3 rfl fx8 (q2 (off' := 2) GN sizeOf159) ?_
 refine JA.tk 4 rfl fx8 (q4 isAgg159 (jV.atC 1 rfl)) ?_
 refine JA.tk 5 rfl fx8 q1 ?_
 refine JA.tk 6 rfl fx8 (mG rfl rfl) ?_
 refine JA.tk 7 rfl fx8 (q2 (off' := 1) GN oJ) ?_
 refine JA.tk 8 rfl fx8 (q4 IY (jV.atC 1 rfl)) ?_
 refine JA.tk 9 rfl fx8 q1 ?_
 refine JA.tk 10 rfl fx8 (jX (pl := #[(0, 1), (1, 1)]) rfl rfl UY rfl a3q (fun w => by simp [oJ, sizeOf36]) (pU.part rfl rfl rfl (nV.c nV.z) (pU.part rfl rfl rfl (nV.s (nV.c nV.z)) pU.none))) ?_
 refine q0 11 rfl (q6 FH sizeOf163 UY (xG.agg rfl xG.none) ?_)
 intro b9 hb9
 refine ⟨⟨(Le.refl _), (HSub.c 1 rfl (HSub.c 2 rfl HSub.n)), CSub.n⟩, ?_⟩
 refine q0 12 rfl (kK (by' := 31) (n := 0) (g := none) (xs := []) (ys := yM (⟨((fs.length : Int) + 1), ra, .slice pa ra.length ca⟩ : RS)) [_, _, _] rfl rfl rfl rfl rfl FH (.inr ⟨_, FH⟩) (by kernel_rfl) sizeOf163 UY rfl ⟨rfl, rfl⟩ (List.append_nil _).symm (Src.slice (jV.at 0 rfl) rfl rfl rfl) (by omega) ?_)
 intro g9 hg9
 obtain ⟨nb, nc, nsp, rfl, _⟩ := hg9.some (by decide)
 have hncl := hg9.2.2
 refine jL 3 ?_
 refine JA.last 15 (by kernel_rfl) rfl rfl rfl (q5 2 sizeOf159 (nV.s (nV.s (nV.c nV.z))) (lF.s (lF.s lF.z)) ?_)
 refine jL 4 ?_
 refine Cj.qJ [0, 1, 2, 3] [] 11 (by kernel_rfl) ?_
 refine JA.fix lG (fun fx11 => ?_)
 refine JA.tk 0 rfl fx11 q1 ?_
 refine JA.tk 1 rfl fx11 (mG rfl rfl) ?_
 refine JA.tk 2 rfl fx11 (q2 (off' := 2) GN sizeOf159) ?_
 refine JA.tk 3 rfl fx11 (q4 isAgg159 (jV.atC 2 rfl)) ?_
 refine JA.tk 4 rfl fx11 (sZ rfl rfl FH) ?_
 refine JA.tk 5 rfl fx11 q1 ?_
 refine JA.tk 6 rfl fx11 (mG rfl rfl) ?_
 refine JA.tk 7 rfl fx11 (q2 (off' := 0) GN oJ) ?_
 refine JA.tk 8 rfl fx11 (q4 IY (jV.atC 2 rfl)) ?_
 refine JA.tk 9 rfl fx11 (rY rfl rfl rfl) ?_
 refine jL 3 ?_
 refine Cj.cond rfl (fun hc12 => Bool.noConfusion (Eq.trans (Eq.symm (decide_eq_false (by omega))) hc12)) (fun hc12 => ?_)
 refine jL 16 ?_
 refine Ej.keep (Keeps.d (Keeps.d (Keeps.k (Keeps.k Keeps.n)))) ?_
 refine Ej.a9h rfl rfl rfl rfl rfl ?_
 exact ⟨ra, [(⟨((fs.length : Int) + 1), ra, .slice pa ra.length ca⟩ : RS)], some (nb, [], nc, nsp), rfl, hruna, by have h9 := rV.all hok hra (by rw [List.length_nil]; omega); exact h9, hncl, by unfold yG; rw [List.length_append]; rfl⟩
theorem a7Y sb rb es q p c (hsz : q.size ≤ 1000000) (hwd : q.wide ≤ 10000000) most fs ks lb pr lc sp (hmost : most ≤ 9223372036854775807) (hfl : fs.length ≤ 1000000) (hkl : ks.length ≤ 1000000) (hcl : (ks.flatMap yM).length + sp.length = lc * 2) (hR : Cq.right q = true) (hfew : Ix.QL (es.map jQ)) (htk : Ix.TOK (es.map jQ)) I (hps : PS I q.ps p) (hx : AO I rb es) (hok : rV I most fs ks) :
    jO Tryz.prog 39 [ptr sb 0, ptr rb 0, .agg (kP q p c).toArray] I (yG sb most fs ks (some (lb, pr, lc, sp))) (fun e I' H' => ∃ r ks' o', e = .returned (.tuple #[i64 ((fs.length : Int) + 1), i64 (r.length : Int), i64 0]) ∧ Ix.yU (es.map jQ) q r ∧ rV I' most (fs ++ [r]) ks' ∧ a0K ks' o' ∧ H' = yG sb most (fs ++ [r]) ks' o') := by
 refine jO.perm (H1 := [(sb, jM 161 [i64 most, i64 (fs.length : Int), .slice (some ⟨lb, pr.length, none⟩) ks.length lc]), (lb, jM 163 (pr ++ (ks.flatMap yM ++ sp)))]) (.refl _) ?_
 refine jT func39 fun w0 hw0 => ?_
 refine jL 3 ?_
 intro b1 hb1
 refine kH (a7L rb es q p c hsz hwd hR hfew htk _ hps hx) ?_
 intro v2 I3 H4 hle5 hp6
 have hps := hps.mono hle5
 have hx := hx.mono hle5
 have hok := hok.mono hle5
 obtain ⟨va, ra, h, hruna, hra, rfl⟩ := hp6; cases h
 obtain ⟨pa, ca, rfl⟩ := kS hra
 refine jL 30 ?_
 refine Cj.qJ [0, 1] [] 15 (by kernel_rfl) ?_
 refine JA.fix lG (fun fx8 => ?_)
 refine JA.tk 0 rfl fx8 q1 ?_
 refine JA.tk 1 rfl fx8 q1 ?_
 refine JA.tk 2 rfl fx8 (mG rfl rfl) ?_
 refine JA.tk 3 rfl fx8 (q2 (off' := 2) GN sizeOf159) ?_
 refine JA.tk 4 rfl fx8 (q4 isAgg159 (jV.atC 1 rfl)) ?_
 refine JA.tk 5 rfl fx8 q1 ?_
 refine JA.tk 6 rfl fx8 (mG rfl rfl) ?_
 refine JA.tk 7 rfl fx8 (q2 (off' := 1) GN oJ) ?_
 refine JA.tk 8 rfl fx8 (q4 IY (jV.atC 1 rfl)) ?_
 refine JA.tk 9 rfl fx8 q1 ?_
 refine JA.tk 10 rfl fx8 (jX (pl := #[(0, 1), (1, 1)]) rfl rfl UY rfl a3q (fun w => by simp [oJ, sizeOf36]) (pU.part rfl rfl rfl (nV.c nV.z) (pU.part rfl rfl rfl (nV.s (nV.c nV.z)) pU.none))) ?_
 refine q0 11 rfl (q6 FH sizeOf163 UY (xG.agg rfl xG.none) ?_)
 intro b9 hb9
 refine ⟨⟨(Le.refl _), (HSub.c 1 rfl (HSub.c 2 rfl HSub.n)), CSub.n⟩, ?_⟩
 refine JA.pull (Pull.s (Pull.s Pull.z)) ?_
 refine JA.pull (Pull.s (Pull.s Pull.z)) ?_
 refine JA.pull (Pull.s (Pull.s Pull.z)) ?_
 refine q0 12 rfl (a8J (by' := 31) (pr := pr) (xs := ks.flatMap yM) (sp := sp) (ys := yM (⟨((fs.length : Int) + 1), ra, .slice pa ra.length ca⟩ : RS)) [_, _, _] rfl rfl rfl rfl rfl FH (.inr ⟨_, FH⟩) (by kernel_rfl) sizeOf163 UY rfl (lS wL ks) hcl rfl (Src.slice (jV.at 0 rfl) rfl rfl rfl) (by omega) ?_)
 intro nb npr nc nsp _ hncl
 refine jL 3 ?_
 refine JA.last 15 (by kernel_rfl) rfl rfl rfl (q5 2 sizeOf159 (nV.s (nV.s (nV.c nV.z))) (lF.s (lF.s lF.z)) ?_)
 refine jL 4 ?_
 refine Cj.qJ [0, 1, 2, 3] [] 11 (by kernel_rfl) ?_
 refine JA.fix lG (fun fx11 => ?_)
 refine JA.tk 0 rfl fx11 q1 ?_
 refine JA.tk 1 rfl fx11 (mG rfl rfl) ?_
 refine JA.tk 2 rfl fx11 (q2 (off' := 2) GN sizeOf159) ?_
 refine JA.tk 3 rfl fx11 (q4 isAgg159 (jV.atC 2 rfl)) ?_
 refine JA.tk 4 rfl fx11 (sZ rfl rfl FH) ?_
 refine JA.tk 5 rfl fx11 q1 ?_
 refine JA.tk 6 rfl fx11 (mG rfl rfl) ?_
 refine JA.tk 7 rfl fx11 (q2 (off' := 0) GN oJ) ?_
 refine JA.tk 8 rfl fx11 (q4 IY (jV.atC 2 rfl)) ?_
 refine JA.tk 9 rfl fx11 (rY rfl rfl rfl) ?_
 refine jR (fun hc12 hc12p => ?_) (fun hc12 hc12p => ?_)
 ·have hover : max most 1 < (ks.length : Int) + 1 := by have h := lY hc12; omega
  obtain ⟨x0, kt, hcons⟩ : ∃ x0 kt, ks ++ [(⟨((fs.length : Int) + 1), ra, .slice pa ra.length ca⟩ : RS)] = x0 :: kt := by cases ks with | nil => exact ⟨_, _, rfl⟩ | cons a r => exact ⟨_, _, rfl⟩
  have hktl : kt.length = ks.length := by have h := congrArg List.length hcons; rw [List.length_append] at h; simp only [List.length_cons, List.length_nil] at h; omega
  have hnc : ks.length + 1 ≤ nc := by have h9 := lS wL ks; rw [List.length_append, h9, wL] at hncl; omega
  have hks1 : 1 ≤ ks.length := by omega
  refine jL 6 ?_
  refine J.z (qB (j := 1) rfl rfl rfl FH sizeOf163 rfl (by omega) hnc) ?_
  refine J.ev 58 (.slice (some ⟨nb, (npr ++ yM x0).length, none⟩) kt.length (nc - 1)) rfl (by rw [b6K _ _ _ (by omega), List.length_append, hktl]; rfl) ?_
  refine jL 19 ?_
  refine Ej.keep (Keeps.d (Keeps.d (Keeps.k (Keeps.k Keeps.n)))) ?_
  refine Ej.a9h rfl rfl rfl rfl rfl ?_
  exact ⟨ra, kt, some (nb, npr ++ yM x0, nc - 1, nsp), rfl, hruna, hok.cut hra hover hcons, by show _ = (nc - 1) * 2; have h9 := lS wL kt; have h8 := lS wL (x0 :: kt); rw [← QE, hcons] at hncl; rw [List.length_cons] at h8; omega, by unfold yG rsO rsV; rw [← QE, hcons]; simp only [List.flatMap_cons, List.append_assoc, List.length_append]; rfl⟩
 have hover : ¬ (max most 1 < (ks.length : Int) + 1) := by have h := nD hc12; omega
 refine jL 16 ?_
 refine Ej.keep (Keeps.d (Keeps.d (Keeps.k (Keeps.k Keeps.n)))) ?_
 refine Ej.a9h rfl rfl rfl rfl rfl ?_
 exact ⟨ra, ks ++ [(⟨((fs.length : Int) + 1), ra, .slice pa ra.length ca⟩ : RS)], some (nb, npr, nc, nsp), rfl, hruna, hok.all hra hover, by show _ = _; rw [QE]; exact hncl, by unfold yG rsO rsV; rw [List.length_append, List.length_append, QE]; rfl⟩
theorem b3Q sb rb es q p c (hsz : q.size ≤ 1000000) (hwd : q.wide ≤ 10000000) most fs ks o (hmost : most ≤ 9223372036854775807) (hfl : fs.length ≤ 1000000) (hkl : ks.length ≤ 1000000) (hR : Cq.right q = true) (hfew : Ix.QL (es.map jQ)) (htk : Ix.TOK (es.map jQ)) I (hps : PS I q.ps p) (hx : AO I rb es) (hok : rV I most fs ks) (ho : a0K ks o) :
    jO Tryz.prog 39 [ptr sb 0, ptr rb 0, .agg (kP q p c).toArray] I (yG sb most fs ks o) (fun e I' H' => ∃ r ks' o', e = .returned (.tuple #[i64 ((fs.length : Int) + 1), i64 (r.length : Int), i64 0]) ∧ Ix.yU (es.map jQ) q r ∧ rV I' most (fs ++ [r]) ks' ∧ a0K ks' o' ∧ H' = yG sb most (fs ++ [r]) ks' o') := by
  rcases o with _ | ⟨lb, pr, lc, sp⟩
  · exact a8n sb rb es q p c hsz hwd most fs ks hmost hfl hkl ho hR hfew htk I hps hx hok
  exact a7Y sb rb es q p c hsz hwd most fs ks lb pr lc sp hmost hfl hkl ho hR hfew htk I hps hx hok
theorem b1z sb xv q p c (hsz : q.size ≤ 1000000) (hR : Cq.right q = false) I (hps : PS I q.ps p) : Pure Tryz.prog 39 [ptr sb 0, xv, .agg (kP q p c).toArray] I (.tuple #[i64 0, i64 0, i64 1]) := by
 refine jO.toPure ?_
 refine jT func39 fun w0 hw0 => ?_
 refine jL 3 ?_
 intro b1 hb1
 refine kC (b2r xv q p c hsz hR _ hps) ?_
 refine jL 25 ?_
 refine Ej.bare ?_
 refine Ej.a9h rfl rfl rfl rfl rfl ?_
 exact ⟨rfl, rfl⟩
theorem b4u {most fs ks I} (h : rV I most fs ks) {i : Nat} {x} (hx : ks[i]? = some x) : pG most fs x.n = some x.l := by
  refine a3S.1 ?_
  rw [← h.1]
  exact List.mem_map.2 ⟨x, lV hx, rfl⟩
theorem a3O {most fs ks I} (h : rV I most fs ks) {n} (hn : ∀ x ∈ ks, x.n ≠ n) : pG most fs n = none := by
  cases hk : pG most fs n with
  | none => rfl
  | some r =>
    have h1 := a3S.2 hk
    rw [← h.1] at h1
    obtain ⟨x, hx, he⟩ := List.mem_map.1 h1
    exact absurd (congrArg Prod.fst he) (hn x hx)
theorem b6x {ks : List RS} {i x n} (h : ∀ y ∈ ks.take i, y.n ≠ n) (hg : ks[i]? = some x) (hx : x.n ≠ n) : ∀ y ∈ ks.take (i + 1), y.n ≠ n := by
  obtain ⟨hlt, hg⟩ := List.getElem?_eq_some_iff.1 hg
  rw [List.take_succ_eq_append_getElem hlt, hg]
  intro y hy
  rcases List.mem_append.1 hy with g | g
  · exact h y g
  rw [List.mem_singleton.1 g]; exact hx
theorem SE {l : List Ix.Rec} {a j t} (h : l[a + j]? = some t) : (l.drop a).take (j + 1) = (l.drop a).take j ++ [t] := by
  have h2 : (l.drop a)[j]? = some t := by rw [List.getElem?_drop]; exact h
  obtain ⟨hlt, hg⟩ := List.getElem?_eq_some_iff.1 h2
  rw [List.take_succ_eq_append_getElem hlt, hg]
theorem a9t sb most fs ks n fr many lb pr lc sp (hkl : ks.length ≤ 1000000) (hfl : ∀ r, pG most fs n = some r → r.length ≤ 1000000) (hfr : fr ≤ 9223372036854775807) I (hsb : I sb = some (jM 161 [i64 most, i64 (fs.length : Int), .slice (some ⟨lb, pr.length, none⟩) ks.length lc])) (hlb : I lb = some (jM 163 (pr ++ (ks.flatMap yM ++ sp)))) (hok : rV I most fs ks) :
    jO Tryz.prog 41 [ptr sb 0, i64 n, i64 fr, i64 many] I [] (fun e _ H' => ∃ w, e = .returned (.tuple #[w, i64 (nG most fs n fr many).2]) ∧ tJ (nG most fs n fr many).1 w H') := by
 refine jT func41 fun w0 hw0 => ?_
 refine jL 13 ?_
 refine Cj.loop (ι := Nat) (fun y => y ≤ ks.length ∧ ∀ x ∈ ks.take y, x.n ≠ n) (fun y => ks.length - y) (fun y => [(0, ptr sb 0), (1, i64 n), (2, i64 fr), (3, i64 many), (10, i64 (y : Int))]) (fun y => _) (fun y => []) 0 ⟨Nat.zero_le _, fun x hx => by simp at hx⟩ ⟨rfl, rfl, rfl, rfl, rfl, trivial⟩ rfl rfl ?_
 rintro i ⟨hi, hno⟩
 refine jR (fun hc1 hc1p => ?_) (fun hc1 hc1p => ?_)
 ·have hlt : i < ks.length := by omega
  obtain ⟨⟨xn, xl, xv⟩, hget⟩ : ∃ x, ks[i]? = some x := ⟨_, kV hlt⟩
  have hkept := b4u hok hget
  have hrow := hok.2 _ (lV hget)
  dsimp only at hkept hrow
  skip
  have hdr : (pr ++ (ks.flatMap yM ++ sp)).drop pr.length = ks.flatMap yM ++ sp := List.drop_left' rfl
  refine kG (pr.length + i * 2) ?_
  refine jL 1 ?_
  refine J.z (jP rfl rfl IY (jV.BU hlb) (lK wL hdr hget 0 (by decide))) ?_
  refine jR (fun hc2 hc2p => ?_) (fun hc2 hc2p => ?_)
  ·have hne : xn ≠ n := bne_iff_ne.1 hc2
   refine jL 9 ?_
   refine Ej.round (i + 1) ⟨by omega, b6x hno hget hne⟩ (by omega) ⟨rfl, rfl, rfl, rfl, rfl, trivial⟩ rfl rfl
  have hxn : xn = n := sF hc2
  obtain ⟨pw, cw, rfl⟩ := kS hrow
  have hxl2 := hfl xl (hxn ▸ hkept)
  refine mP (fun hg3 hg3p => ?_) (fun hg3 hg3p => ?_)
  ·refine kF ?_
   rw [OH (hxn ▸ hkept) (.inl (lY hg3))]
   exact ⟨_, rfl, rG⟩
  refine jR (fun hc5 hc5p => ?_) (fun hc5 hc5p => ?_)
  ·refine kF ?_
   rw [OH (hxn ▸ hkept) (.inr (lY hc5))]
   exact ⟨_, rfl, rG⟩
  refine jL 15 ?_
  refine Cj.loop (ι := Nat × Gs) (fun y => y.1 ≤ xl.length - fr.toNat ∧ y.1 ≤ many.toNat ∧ kZ w0.heap.size 2 ((xl.drop fr.toNat).take y.1).length (((xl.drop fr.toNat).take y.1).flatMap recC) y.2) (fun y => xl.length - fr.toNat - y.1) (fun y => [(0, ptr sb 0), (3, i64 many), (10, i64 (i : Int)), (11, gV ((xl.drop fr.toNat).take y.1).length y.2), (12, i64 (fr + (y.1 : Int)))]) (fun y => _) (fun y => gH 54 (((xl.drop fr.toNat).take y.1).flatMap recC) y.2) (0, none) ⟨Nat.zero_le _, Nat.zero_le _, rfl, rfl⟩ ⟨rfl, rfl, rfl, rfl, congrArg (fun x => some (i64 x)) (by dsimp only; omega), trivial⟩ rfl rfl ?_
  rintro ⟨j, g⟩ ⟨hj, hjm, hg⟩
  dsimp only at hj hjm hg ⊢
  have hol : ((xl.drop fr.toNat).take j).length = j := by rw [List.length_take, List.length_drop]; omega
  refine kG (pr.length + i * 2) ?_
  refine J.z (q2 (off' := pr.length + i * 2 + 1) a3q sizeOf36) ?_
  refine J.z (jP (v := .slice pw xl.length cw) rfl rfl isAgg36 (jV.BU hlb) (lK wL hdr hget 1 (by decide))) ?_
  refine mP (fun hg6 hg6p => ?_) (fun hg6 hg6p => ?_)
  ·refine jL 1 ?_
   refine J.zg (a1m hg rfl rfl mX) ?_
   refine jR (fun hc7 hc7p => ?_) (fun hc7 hc7p => ?_)
   ·have hlen : fr.toNat + j < xl.length := by have h := lY hg6; omega
    have hmj : j < many.toNat := by have h := lY hc7; omega
    obtain ⟨t, hgt⟩ : ∃ x, xl[fr.toNat + j]? = some x := ⟨_, kV hlen⟩
    obtain ⟨p5, c5, hpe5, hc5, hp5⟩ := id hrow
    cases hpe5
    obtain ⟨tb, tof, tcs, tty, tfr, tsp, rfl, htb, htd⟩ := hp5 (jS hlen)
    refine kG (pr.length + i * 2) ?_
    refine J.z (q2 (off' := pr.length + i * 2 + 1) a3q sizeOf36) ?_
    refine J.z (jP (v := .slice (some ⟨tb, tof, none⟩) xl.length cw) rfl rfl isAgg36 (jV.BU hlb) (lK wL hdr hget 1 (by decide))) ?_
    refine jL 1 ?_
    refine J.z (pF (off' := tof + (fr.toNat + j) * 2) rfl rfl rfl mX kX (by omega) (by omega) (by have h9 : (fr + (j : Int)).toNat = fr.toNat + j := (by omega); exact congrArg (fun z => tof + z * 2) h9)) ?_
    refine J.z (q3 oC kX (jV.BU htb) (kQ jY htd hgt)) ?_
    refine jL 1 ?_
    intro b8 hb8
    refine yR 15 [_] hg ?_
    intro g9 hg9
    refine jL 9 ?_
    refine Ej.keep (Keeps.d Keeps.r) ?_
    refine Ej.round (j + 1, g9) ⟨by dsimp only; omega, by dsimp only; omega, by dsimp only; rw [SE hgt, List.length_append, List.flatMap_append]; exact hg9⟩ (by dsimp only; omega) ⟨rfl, rfl, rfl, by dsimp only; rw [SE hgt, List.length_append]; rfl, congrArg (fun x => some (i64 x)) (by dsimp only; omega), trivial⟩ rfl (by dsimp only; rw [SE hgt, List.flatMap_append]; rfl)
   refine jL 18 ?_
   have hstop : xl.length - fr.toNat ≤ j ∨ many.toNat ≤ j := by have h := nD hc7; omega
   have hfin : ((xl.drop fr.toNat).take j) = (xl.drop fr.toNat).take many.toNat := by
     rcases hstop with h | h
     · rw [List.take_of_length_le (by rw [List.length_drop]; exact h), List.take_of_length_le (by rw [List.length_drop]; omega)]
     rw [show j = many.toNat by omega]
   rw [hfin] at hg ⊢
   refine jW ?_
   rw [a0D (hxn ▸ hkept) (by omega)]
   exact ⟨_, rfl, KJ rfl (zU hg)⟩
  refine jL 26 ?_
  have hstop : xl.length - fr.toNat ≤ j ∨ many.toNat ≤ j := by have h := nD hg6; omega
  have hfin : ((xl.drop fr.toNat).take j) = (xl.drop fr.toNat).take many.toNat := by
    rcases hstop with h | h
    · rw [List.take_of_length_le (by rw [List.length_drop]; exact h), List.take_of_length_le (by rw [List.length_drop]; omega)]
    rw [show j = many.toNat by omega]
  rw [hfin] at hg ⊢
  refine jW ?_
  rw [a0D (hxn ▸ hkept) (by omega)]
  exact ⟨_, rfl, KJ rfl (zU hg)⟩
 refine kF ?_
 rw [KF (a3O hok (by rw [List.take_of_length_le (by omega : ks.length ≤ i)] at hno; exact hno))]
 exact ⟨_, rfl, rG⟩
theorem a9d sb most fs n fr many I (hsb : I sb = some (jM 161 [i64 most, i64 (fs.length : Int), .slice none 0 0])) (hok : rV I most fs []) :
    jO Tryz.prog 41 [ptr sb 0, i64 n, i64 fr, i64 many] I [] (fun e _ H' => ∃ w, e = .returned (.tuple #[w, i64 (nG most fs n fr many).2]) ∧ tJ (nG most fs n fr many).1 w H') := by
 refine jT func41 fun w0 hw0 => ?_
 refine jL 13 ?_
 refine Cj.rounds 1 ?_
 refine Rj.succ ?_
 refine jL 12 ?_
 refine Cj.cond rfl (fun hc1 => Bool.noConfusion (Eq.trans (Eq.symm (by first | rfl | decide)) hc1)) (fun hc1 => ?_)
 refine kF ?_
 rw [KF (a3O hok (fun x hx => by cases hx))]
 exact ⟨_, rfl, rG⟩
theorem b4O sb most fs n fr many (hfn : fs.length ≤ 1000000) (hfl : ∀ r ∈ fs, r.length ≤ 1000000) (hfr : fr ≤ 9223372036854775807) I ks o (ho : a0K ks o) (hok : rV I most fs ks) (h : ∀ p ∈ yG sb most fs ks o, I p.1 = some p.2) :
    jO Tryz.prog 41 [ptr sb 0, i64 n, i64 fr, i64 many] I [] (fun e _ H' => ∃ w, e = .returned (.tuple #[w, i64 (nG most fs n fr many).2]) ∧ tJ (nG most fs n fr many).1 w H') := by
  have hkl : ks.length ≤ 1000000 := by
    have h1 := congrArg List.length hok.1
    unfold sK at h1
    rw [List.length_map, List.length_drop, JH] at h1; omega
  rcases o with _ | ⟨lb, pr, lc, sp⟩
  · have h0 : ks = [] := ho
    subst h0
    exact a9d sb most fs n fr many I (h _ (.head _)) hok
  exact a9t sb most fs ks n fr many lb pr lc sp hkl (fun r hr => hfl r (PO hr)) hfr I (h _ (.head _)) (h _ (.tail _ (.head _))) hok
