/-
  Own texts on the laws of the seat, joined: the logic, and contracts of functions. Conditions: none.
-/
import Derived.Test.YtekmeaoblpfnpaaGreatDoorNmN
import Derived.Test.YtekmeaoblpfnpaaGreatDoorPN14
import Derived.Lib.LaidU8
set_option linter.all false
set_option maxRecDepth 100000
set_option maxHeartbeats 40000000
section
namespace Go.Proofs.YtekmeaoblpfnpaaGreatDoor
open _root_.Go.Proofs.Tryz
open Go Go.Sx
def a2W (k : Int) (a b : Bool) : Bool := if k = 2 then a && b else if k = 3 then a || b else if k = 4 then a && !b else a
theorem b0t {k} (h2 : 2 ≤ k) (h4 : k ≤ 4) a b : a2W k a b = Ix.comb k a b := by
  have h : k = 2 ∨ k = 3 ∨ k = 4 := by omega
  rcases h with rfl | rfl | rfl <;> rfl
theorem a0J {L q t} (ht : t ∈ L.map (·.1)) : decide (t ∈ Ix.SK L q) = Ix.sat L q t := by
  rw [Bool.eq_iff_iff, decide_eq_true_eq, Ix.a3M]
  exact ⟨fun h => h.2, fun h => ⟨ht, h⟩⟩
theorem b0f {es : List nH} {i : Nat} {t} (h : (es.map (·.t))[i]? = some t) : t ∈ (es.map jQ).map (·.1) := by rw [a0M]; exact lV h
def b1Z (rb : Nat) (es : List nH) (q : Cq.Qn) (e : Ending) (I' : Heap) (H' : HL) : Prop := ∃ v l, e = .returned v ∧ (∀ t ∈ (es.map jQ).map (·.1), decide (t ∈ l) = Ix.sat (es.map jQ) q t) ∧ jU recC I' l v ∧ l.length ≤ 1000000 ∧ H' = []
theorem b6D (a b : Nat) : ((a : Int) == (b : Int)) = decide (a = b) := by rw [Bool.eq_iff_iff, beq_iff_eq, decide_eq_true_eq]; omega
theorem b1M (rb : Nat) (es : List nH) (q : Cq.Qn) (p : Option Addr) (c : Nat) (hk : q.k = 1) (hrm : q.r ∈ Cq.relations) (hwd : q.wide ≤ 10000000) (hfew : Ix.Few (es.map jQ)) (htk : Ix.TOK (es.map jQ)) (I : Heap) (hx : yE I rb es) : jO Tryz.prog 113 [ptr rb 0, .agg (kS q p c).toArray] I [] (b1Z rb es q) := by
 have htl : q.t.length ≤ 10000000 := by unfold Cq.Qn.wide at hwd; omega
 have hwl := Ke.qV q.t
 have hLl : (es.map jQ).length ≤ 1000 := by rw [List.length_map]; exact hx.len
 have hTl : (es.map (·.t)).length ≤ 1000 := by rw [List.length_map]; exact hx.len
 have hsrt := hx.pR
 obtain ⟨hsl, hsl2⟩ := a2w hfew q.i q.t
 obtain ⟨hsm, hsm2⟩ := a2w hfew q.i []
 rw [Ix.JH] at hsm hsm2
 have hkl := b3D hsrt q.i (Ix.keyOf q.i q.t)
 refine jT func113 fun w0 hw0 => ?_
 refine jL 3 ?_
 intro b1 hb1
 refine jR (fun hc2 hc2p => ?_) (fun hc2 hc2p => ?_)
 ·have hrel : q.r = [61] := lN hc2
  refine jR (fun hc3 hc3p => ?_) (fun hc3 hc3p => ?_)
  ·refine kJ (a0S rb es q.i q.t (by omega) _ hx) ?_
   intro v4 I5 H6 hle7 hp8
   have hx := hx.mono hle7
   obtain ⟨va, h, hra, rfl⟩ := hp8; cases h
   obtain ⟨pa, ca, rfl⟩ := kQ hra
   refine kF ?_
   exact ⟨_, _, rfl, fun t ht => by rw [Ix.WJ hk, hrel]; show _ = Ix.KW _ _ Ix.rEq _ _; rw [Ix.a9E, if_pos (show q.i = Ix.uK from lN hc3)], hra, (nO (Ix.BX _ _ _) (by omega)), rfl⟩
  refine kJ (ZA rb es q.i q.t (by omega) _ hx) ?_
  intro v9 I10 H11 hle12 hp13
  have hx := hx.mono hle12
  obtain ⟨va, h, hra, rfl⟩ := hp13; cases h
  obtain ⟨pa, ca, rfl⟩ := kQ hra
  refine kF ?_
  exact ⟨_, _, rfl, fun t ht => by rw [Ix.WJ hk, hrel]; show _ = Ix.KW _ _ Ix.rEq _ _; rw [Ix.a9E, if_neg (show q.i ≠ Ix.uK from lX hc3)], hra, (nO (a0i _ _ _) (by omega)), rfl⟩
 have hn1 : q.r ≠ [61] := lX hc2
 refine jR (fun hc14 hc14p => ?_) (fun hc14 hc14p => ?_)
 ·have hrel : q.r = [61, 61] := lN hc14
  refine kJ (a0S rb es q.i q.t (by omega) _ hx) ?_
  intro v15 I16 H17 hle18 hp19
  have hx := hx.mono hle18
  obtain ⟨va, h, hra, rfl⟩ := hp19; cases h
  obtain ⟨pa, ca, rfl⟩ := kQ hra
  refine kF ?_
  exact ⟨_, _, rfl, fun t ht => by rw [Ix.WJ hk, hrel]; exact (Ix.b4I _ _ _ _).symm, hra, (nO (Ix.BX _ _ _) (by omega)), rfl⟩
 have hn2 : q.r ≠ [61, 61] := lX hc14
 refine jR (fun hc20 hc20p => ?_) (fun hc20 hc20p => ?_)
 ·have hrel : q.r = [62, 61] := lN hc20
  refine jL 1 ?_
  refine Cj.persist hb1 (fun I22 hle21 hb1i => ?_)
  have hx := hx.mono hle21
  refine Cj.qC [] [] 11 (by kernel_rfl) ?_
  have hb1i_9 := hb1i
  refine kJ (XK rb es q.i q.t (by first | omega | decide) sQ _ hx) ?_
  intro v24 I25 H26 hle27 hp28
  have hx := hx.mono hle27
  have hb1i := hle27 _ _ hb1i
  obtain ⟨va, h, hra, rfl⟩ := hp28; cases h
  obtain ⟨pa, ca, hppa, hcca, -⟩ := id hra
  subst hppa
  refine rU (a1Q rb es _ rfl q.i ((Ix.scan (es.map jQ) q.i q.t sQ).map lY) _ (a2f htk hfew hsrt q.i q.t) (by omega) _ hx hra) ?_
  intro v30 I31 H32 hle33 hn29 hp34
  have hx := hx.mono hle33
  have hb1i := hle33 _ _ hb1i
  have hra := hra.mono hle33
  obtain ⟨wb1, h, hob1⟩ := hp34; cases h
  have hnb1 := hn29
  refine jL 1 ?_
  refine JA.FH hob1 hnb1 (fun Ib1 hleb1 hrb1 => ?_)
  have hx := hx.mono hleb1
  have hb1i := hleb1 _ _ hb1i
  have hra := hra.mono hleb1
  replace hrb1 := hrb1.row
  refine kF ?_
  exact ⟨_, _, rfl, fun t ht => by rw [Ix.WJ hk, hrel, JC hfew]; rfl, hrb1, (nO (JM _ _ _) (nO (Nat.mul_le_mul (by rw [List.length_map]; omega : _ ≤ 480) hLl) (by decide))), rfl⟩
 have hn3 : q.r ≠ [62, 61] := lX hc20
 refine jR (fun hc36 hc36p => ?_) (fun hc36 hc36p => ?_)
 ·have hrel : q.r = [60] := lN hc36
  refine kJ (XK rb es q.i [] (by first | omega | decide) sQ _ hx) ?_
  intro v37 I38 H39 hle40 hp41
  have hx := hx.mono hle40
  obtain ⟨va, h, hra, rfl⟩ := hp41; cases h
  obtain ⟨pa, ca, hppa, hcca, -⟩ := id hra
  subst hppa
  refine kJ (XK rb es q.i q.t (by first | omega | decide) sQ _ hx) ?_
  intro v42 I43 H44 hle45 hp46
  have hx := hx.mono hle45
  have hra := hra.mono hle45
  obtain ⟨vd, h, hrd, rfl⟩ := hp46; cases h
  obtain ⟨pd, cd, hppd, hccd, -⟩ := id hrd
  subst hppd
  refine jL 4 ?_
  refine Cj.persist hb1 (fun I48 hle47 hb1i => ?_)
  have hx := hx.mono hle47
  have hra := hra.mono hle47
  have hrd := hrd.mono hle47
  refine Cj.qC [] [] 12 (by kernel_rfl) ?_
  have hb1i_13 := hb1i
  refine jL 9 ?_
  refine JA.ev 72 (i64 ((((Ix.scan (es.map jQ) q.i [] sQ).map lY).length - ((Ix.scan (es.map jQ) q.i q.t sQ).map lY).length) : Nat)) rfl (congrArg i64 (by omega)) ?_
  refine JA.zt 9 rfl (NW rfl rfl rfl AB BD (by omega)) ?_
  refine rU (a1Q rb es _ rfl q.i (((Ix.scan (es.map jQ) q.i [] sQ).map lY).take (((Ix.scan (es.map jQ) q.i [] sQ).map lY).length - ((Ix.scan (es.map jQ) q.i q.t sQ).map lY).length)) _ (fun x hx => a2f htk hfew hsrt q.i [] x (List.mem_of_mem_take hx)) (by rw [List.length_take]; omega) _ hx (jU.take hra (Nat.sub_le _ _))) ?_
  intro v51 I52 H53 hle54 hn50 hp55
  have hx := hx.mono hle54
  have hra := hra.mono hle54
  have hrd := hrd.mono hle54
  have hb1i := hle54 _ _ hb1i
  obtain ⟨wb1, h, hob1⟩ := hp55; cases h
  have hnb1 := hn50
  refine jL 1 ?_
  refine JA.FH hob1 hnb1 (fun Ib1 hleb1 hrb1 => ?_)
  have hx := hx.mono hleb1
  have hra := hra.mono hleb1
  have hrd := hrd.mono hleb1
  have hb1i := hleb1 _ _ hb1i
  replace hrb1 := hrb1.row
  refine kF ?_
  exact ⟨_, _, rfl, fun t ht => by rw [Ix.WJ hk, hrel, List.map_take, JC hfew, hsl, hsm, Ix.JH]; rfl, hrb1, (nO (JM _ _ _) (nO (Nat.mul_le_mul (by rw [List.length_map, List.length_take]; omega : _ ≤ 480) hLl) (by decide))), rfl⟩
 have hn4 : q.r ≠ [60] := lX hc36
 refine jL 4 ?_
 have hr6 : q.r = [97, 110, 121] ∨ q.r = [97, 108, 108] := by
   simp only [Cq.relations, List.mem_cons, List.not_mem_nil, or_false] at hrm
   rcases hrm with h | h | h | h | h | h
   · exact absurd h hn1
   · exact absurd h hn2
   · exact absurd h hn4
   · exact absurd h hn3
   · exact .inl h
   exact .inr h
 refine rU (zL q.t (by omega) _) ?_
 intro v58 I59 H60 hle61 hn57 hp62
 have hx := hx.mono hle61
 obtain ⟨gw, hgw, h, rfl⟩ := hp62; cases h
 refine J.yN (hgw.base hn57) (fun Iw hlew hw => ?_)
 have hx := hx.mono hlew
 obtain ⟨pw, cw, hwe⟩ := qG hw
 refine J.eqv 77 rfl hwe ?_
 rw [hwe] at hw
 refine kJ ((let ⟨_, _, hR⟩ := hx.ex; ZI rb _ es (by have := hx.len; omega) _ hR.1 hR.2)) ?_
 intro v63 I64 H65 hle66 hp67
 have hx := hx.mono hle66
 have hw := hw.mono hle66
 obtain ⟨vt, h, htr, rfl⟩ := hp67; cases h
 obtain ⟨pt, ct, rfl⟩ := kQ htr
 refine jL 10 ?_
 refine Cj.loop (ι := Nat × Heap × Gs) (fun y => y.1 ≤ (es.map (·.t)).length ∧ Le I64 y.2.1 ∧ kY w0.heap.size 2 (((es.map (·.t)).take y.1).filter fun t => Ix.sat (es.map jQ) q t).length ((((es.map (·.t)).take y.1).filter fun t => Ix.sat (es.map jQ) q t).flatMap recC) y.2.2) (fun y => (es.map (·.t)).length - y.1) (fun y => [(0, ptr rb 0), (3, ptr b1 0), (7, .slice pw (Ke.words q.t).length cw), (9, .slice pt (es.map (·.t)).length ct), (8, gV (((es.map (·.t)).take y.1).filter fun t => Ix.sat (es.map jQ) q t).length y.2.2), (10, i64 (y.1 : Int))]) (fun y => y.2.1) (fun y => (b1, jM 32 (kS q p c)) :: gH 54 ((((es.map (·.t)).take y.1).filter fun t => Ix.sat (es.map jQ) q t).flatMap recC) y.2.2) (0, _, none) ⟨Nat.zero_le _, Le.refl _, rfl, rfl⟩ ⟨rfl, rfl, rfl, rfl, rfl, rfl, trivial⟩ rfl rfl ?_
 rintro ⟨i, J1, g⟩ ⟨hi, hIJ, hg⟩
 dsimp only at hi hIJ hg ⊢
 have hx := hx.mono hIJ
 have hw := hw.mono hIJ
 have htr := htr.mono hIJ
 have hfl := a0n (fun t => Ix.sat (es.map jQ) q t) (es.map (·.t)) i
 refine jR (fun hc68 hc68p => ?_) (fun hc68 hc68p => ?_)
 ·have hlt : i < (es.map (·.t)).length := by omega
  obtain ⟨t, hgt⟩ : ∃ x, (es.map (·.t))[i]? = some x := ⟨_, kV hlt⟩
  have htm := b0f hgt
  obtain ⟨p5, c5, hpe5, hc5, hp5⟩ := id htr
  cases hpe5
  obtain ⟨tb, tof, tcs, tty, tfr, tsp, rfl, htb, htd⟩ := hp5 (jS hlt)
  refine jL 16 ?_
  refine Cj.keep (Keeps.k Keeps.r) ?_
  refine Cj.loop (ι := Nat × Heap) (fun y => y.1 ≤ (Ke.words q.t).length ∧ Le J1 y.2) (fun y => (Ke.words q.t).length - y.1) (fun y => [(0, ptr rb 0), (3, ptr b1 0), (7, .slice pw (Ke.words q.t).length cw), (9, .slice (some ⟨tb, tof, none⟩) (es.map (·.t)).length ct), (8, gV (((es.map (·.t)).take i).filter fun t => Ix.sat (es.map jQ) q t).length g), (10, i64 (i : Int)), (11, i64 ((Ix.JY (es.map jQ) q.i q.t t y.1) : Int)), (12, i64 (y.1 : Int))]) (fun y => y.2) (fun y => (b1, jM 32 (kS q p c)) :: gH 54 ((((es.map (·.t)).take i).filter fun t => Ix.sat (es.map jQ) q t).flatMap recC) g) (0, _) ⟨Nat.zero_le _, Le.refl _⟩ ⟨rfl, rfl, rfl, rfl, rfl, rfl, rfl, rfl, trivial⟩ rfl rfl ?_
  rintro ⟨k, K1⟩ ⟨hk9, hIK⟩
  dsimp only at hk9 hIK ⊢
  have hIJ := hIJ.trans hIK
  have htb := hIK _ _ htb
  have hx := hx.mono hIK
  have hw := hw.mono hIK
  have htr := htr.mono hIK
  have hhk := Ix.b2i (es.map jQ) q.i q.t t k
  refine jR (fun hc69 hc69p => ?_) (fun hc69 hc69p => ?_)
  ·have hlk : k < (Ke.words q.t).length := by omega
   obtain ⟨x, hgw⟩ : ∃ x, (Ke.words q.t)[k]? = some x := ⟨_, kV hlk⟩
   have hxl := Ke.xQ _ x (lV hgw)
   obtain ⟨wb, wc1, wsp, hwe, hwb⟩ := hw.some (jS hlk)
   cases hwe
   have hwl2 := a0R (es.map jQ) q.i x
   refine jL 5 ?_
   refine Cj.qC [0] [] 13 (by kernel_rfl) ?_
   have htb_24 := htb
   have hwb_24 := hwb
   refine jL 5 ?_
   refine JA.fix lF (fun fx70 => ?_)
   refine JA.tk 5 rfl fx70 (q7 (off' := k) lG kW) ?_
   refine JA.tk 6 rfl fx70 (jP rfl rfl lM (jV.AZ hwb_24) (nN hgw)) ?_
   refine JA.tk 8 rfl fx70 q1 ?_
   refine JA.tk 9 rfl fx70 q1 ?_
   refine JA.tk 10 rfl fx70 (q7 (off' := tof + i * 2) mY kX) ?_
   refine JA.tk 11 rfl fx70 (q3 nZ kX (jV.AZ htb_24) (kU jZ htd hgt)) ?_
   refine q0 7 rfl (kP (H1 := []) rfl rfl rfl rfl rfl (b3N rb es q.i x (by omega) _ hx) ?_ (fun _ _ _ _ ⟨_, h, _⟩ => by cases h) (fun _ _ ⟨_, h, _⟩ => by cases h))
   intro v71 I72 H73 hle74 hp75
   have hx := hx.mono hle74
   have hw := hw.mono hle74
   have htr := htr.mono hle74
   have hIJ := hIJ.mono hle74
   have htb := hle74 _ _ htb
   have hIK := hIK.mono hle74
   have hwb := hle74 _ _ hwb
   obtain ⟨vc, h, hrc, rfl⟩ := hp75; cases h
   obtain ⟨pc, cc, rfl⟩ := kQ hrc
   refine kC (a0s (Ix.word (es.map jQ) q.i x) t _ (nO hwl2 (by omega)) _ hrc) ?_
   refine mP (fun hc76 => ?_) (fun hc76 => ?_)
   ·have hin : t ∈ Ix.word (es.map jQ) q.i x := mD hc76
    refine jL 12 ?_
    refine Ej.round (k + 1, _) ⟨by dsimp only; omega, hIK⟩ (by dsimp only; omega) ⟨rfl, rfl, rfl, rfl, rfl, rfl, congrArg (fun x => some (i64 x)) (by dsimp only; rw [Ix.a0a hgw, if_pos hin]; omega), rfl, trivial⟩ rfl rfl
   have hin : ¬ t ∈ Ix.word (es.map jQ) q.i x := nI hc76
   refine jL 8 ?_
   refine Ej.round (k + 1, _) ⟨by dsimp only; omega, hIK⟩ (by dsimp only; omega) ⟨rfl, rfl, rfl, rfl, rfl, rfl, congrArg (fun x => some (i64 x)) (by dsimp only; rw [Ix.a0a hgw, if_neg hin]; omega), rfl, trivial⟩ rfl rfl
  refine jL 6 ?_
  have hall : (Ix.JY (es.map jQ) q.i q.t t k) = Ix.hits (es.map jQ) q.i q.t t := Ix.b0s _ _ _ _ (by omega)
  refine mV (fun hg77 hg77p => ?_) (fun hg77 hg77p => ?_)
  ·refine mV (fun hg78 hg78p => ?_) (fun hg78 hg78p => ?_)
   ·refine jL 14 ?_
    refine J.ev 128 (.bool (Ix.sat (es.map jQ) q t)) rfl (congrArg Value.bool (by have hrel : q.r = [97, 110, 121] := lN hg77; rw [Ix.WJ hk, hrel]; show _ = Ix.KW _ _ Ix.a7Z _ _; rw [Ix.a7o, decide_eq_true (by rw [← hall]; have h2 := mD hg78; omega)])) ?_
    refine mP (fun hc79 => ?_) (fun hc79 => ?_)
    ·have hsat : (Ix.sat (es.map jQ) q t) = true := hc79
     refine kH (tof + i * 2) ?_
     refine J.z (q3 nZ kX (jV.ET htb) (kU jZ htd hgt)) ?_
     refine jL 1 ?_
     intro b80 hb80
     refine zS 15 [_, _] hg ?_
     intro g81 hg81
     refine jL 9 ?_
     refine Ej.keep (Keeps.d (Keeps.k Keeps.r)) ?_
     refine Ej.round (i + 1, _, g81) ⟨by dsimp only; omega, hIJ, by dsimp only; rw [kL _ hgt, if_pos hsat, List.length_append, List.flatMap_append]; exact hg81⟩ (by dsimp only; omega) ⟨rfl, rfl, rfl, rfl, by dsimp only; rw [kL _ hgt, if_pos hsat, List.length_append]; rfl, rfl, trivial⟩ rfl (by dsimp only; rw [kL _ hgt, if_pos hsat, List.flatMap_append]; rfl)
    have hsat : ¬ (Ix.sat (es.map jQ) q t) = true := by rw [hc79]; decide
    refine jL 8 ?_
    refine Ej.round (i + 1, _, g) ⟨by dsimp only; omega, hIJ, by dsimp only; rw [kL _ hgt, if_neg hsat, List.append_nil]; exact hg⟩ (by dsimp only; omega) ⟨rfl, rfl, rfl, rfl, by dsimp only; rw [kL _ hgt, if_neg hsat, List.append_nil]; rfl, rfl, trivial⟩ rfl (by dsimp only; rw [kL _ hgt, if_neg hsat, List.append_nil])
   refine jL 4 ?_
   refine J.skip 11 118 119 true _ rfl rfl rfl (by rw [show q.r = [97, 110, 121] from lN hg77]; rfl) rfl rfl ?_
   refine J.skip 11 118 120 true _ rfl rfl rfl (by rw [show q.r = [97, 110, 121] from lN hg77]; rfl) rfl rfl ?_
   refine J.zg (NT rfl rfl (by rw [show q.r = [97, 110, 121] from lN hg77]; rfl) rfl) ?_
   refine jL 7 ?_
   refine J.ev 128 (.bool (Ix.sat (es.map jQ) q t)) rfl (congrArg Value.bool (by have hrel : q.r = [97, 110, 121] := lN hg77; rw [Ix.WJ hk, hrel]; show _ = Ix.KW _ _ Ix.a7Z _ _; rw [Ix.a7o, decide_eq_false (by rw [← hall]; have h2 := nI hg78; omega)])) ?_
   refine mP (fun hc82 => ?_) (fun hc82 => ?_)
   ·have hsat : (Ix.sat (es.map jQ) q t) = true := hc82
    refine kH (tof + i * 2) ?_
    refine J.z (q3 nZ kX (jV.ET htb) (kU jZ htd hgt)) ?_
    refine jL 1 ?_
    intro b83 hb83
    refine zS 15 [_, _] hg ?_
    intro g84 hg84
    refine jL 9 ?_
    refine Ej.keep (Keeps.d (Keeps.k Keeps.r)) ?_
    refine Ej.round (i + 1, _, g84) ⟨by dsimp only; omega, hIJ, by dsimp only; rw [kL _ hgt, if_pos hsat, List.length_append, List.flatMap_append]; exact hg84⟩ (by dsimp only; omega) ⟨rfl, rfl, rfl, rfl, by dsimp only; rw [kL _ hgt, if_pos hsat, List.length_append]; rfl, rfl, trivial⟩ rfl (by dsimp only; rw [kL _ hgt, if_pos hsat, List.flatMap_append]; rfl)
   have hsat : ¬ (Ix.sat (es.map jQ) q t) = true := by rw [hc82]; decide
   refine jL 8 ?_
   refine Ej.round (i + 1, _, g) ⟨by dsimp only; omega, hIJ, by dsimp only; rw [kL _ hgt, if_neg hsat, List.append_nil]; exact hg⟩ (by dsimp only; omega) ⟨rfl, rfl, rfl, rfl, by dsimp only; rw [kL _ hgt, if_neg hsat, List.append_nil]; rfl, rfl, trivial⟩ rfl (by dsimp only; rw [kL _ hgt, if_neg hsat, List.append_nil])
  refine mV (fun hg85 hg85p => ?_) (fun hg85 hg85p => ?_)
  ·refine mV (fun hg86 hg86p => ?_) (fun hg86 hg86p => ?_)
   ·refine jL 6 ?_
    refine J.ev 128 (.bool (Ix.sat (es.map jQ) q t)) rfl (congrArg Value.bool (by have hrel : q.r = [97, 108, 108] := lN hg85; rw [Ix.WJ hk, hrel]; show _ = Ix.KW _ _ Ix.a8E _ _; rw [Ix.a6I, decide_eq_true (by rw [← hall]; have h2 := mD hg86; omega), Bool.true_and, hall]; exact b6D _ _)) ?_
    refine mP (fun hc87 => ?_) (fun hc87 => ?_)
    ·have hsat : (Ix.sat (es.map jQ) q t) = true := hc87
     refine kH (tof + i * 2) ?_
     refine J.z (q3 nZ kX (jV.ET htb) (kU jZ htd hgt)) ?_
     refine jL 1 ?_
     intro b88 hb88
     refine zS 15 [_, _] hg ?_
     intro g89 hg89
     refine jL 9 ?_
     refine Ej.keep (Keeps.d (Keeps.k Keeps.r)) ?_
     refine Ej.round (i + 1, _, g89) ⟨by dsimp only; omega, hIJ, by dsimp only; rw [kL _ hgt, if_pos hsat, List.length_append, List.flatMap_append]; exact hg89⟩ (by dsimp only; omega) ⟨rfl, rfl, rfl, rfl, by dsimp only; rw [kL _ hgt, if_pos hsat, List.length_append]; rfl, rfl, trivial⟩ rfl (by dsimp only; rw [kL _ hgt, if_pos hsat, List.flatMap_append]; rfl)
    have hsat : ¬ (Ix.sat (es.map jQ) q t) = true := by rw [hc87]; decide
    refine jL 8 ?_
    refine Ej.round (i + 1, _, g) ⟨by dsimp only; omega, hIJ, by dsimp only; rw [kL _ hgt, if_neg hsat, List.append_nil]; exact hg⟩ (by dsimp only; omega) ⟨rfl, rfl, rfl, rfl, by dsimp only; rw [kL _ hgt, if_neg hsat, List.append_nil]; rfl, rfl, trivial⟩ rfl (by dsimp only; rw [kL _ hgt, if_neg hsat, List.append_nil])
   refine jL 6 ?_
   refine J.ev 128 (.bool (Ix.sat (es.map jQ) q t)) rfl (congrArg Value.bool (by have hrel : q.r = [97, 108, 108] := lN hg85; rw [Ix.WJ hk, hrel]; show _ = Ix.KW _ _ Ix.a8E _ _; rw [Ix.a6I, decide_eq_false (by rw [← hall]; have h2 := nI hg86; omega), Bool.false_and])) ?_
   refine mP (fun hc90 => ?_) (fun hc90 => ?_)
   ·have hsat : (Ix.sat (es.map jQ) q t) = true := hc90
    refine kH (tof + i * 2) ?_
    refine J.z (q3 nZ kX (jV.ET htb) (kU jZ htd hgt)) ?_
    refine jL 1 ?_
    intro b91 hb91
    refine zS 15 [_, _] hg ?_
    intro g92 hg92
    refine jL 9 ?_
    refine Ej.keep (Keeps.d (Keeps.k Keeps.r)) ?_
    refine Ej.round (i + 1, _, g92) ⟨by dsimp only; omega, hIJ, by dsimp only; rw [kL _ hgt, if_pos hsat, List.length_append, List.flatMap_append]; exact hg92⟩ (by dsimp only; omega) ⟨rfl, rfl, rfl, rfl, by dsimp only; rw [kL _ hgt, if_pos hsat, List.length_append]; rfl, rfl, trivial⟩ rfl (by dsimp only; rw [kL _ hgt, if_pos hsat, List.flatMap_append]; rfl)
   have hsat : ¬ (Ix.sat (es.map jQ) q t) = true := by rw [hc90]; decide
   refine jL 8 ?_
   refine Ej.round (i + 1, _, g) ⟨by dsimp only; omega, hIJ, by dsimp only; rw [kL _ hgt, if_neg hsat, List.append_nil]; exact hg⟩ (by dsimp only; omega) ⟨rfl, rfl, rfl, rfl, by dsimp only; rw [kL _ hgt, if_neg hsat, List.append_nil]; rfl, rfl, trivial⟩ rfl (by dsimp only; rw [kL _ hgt, if_neg hsat, List.append_nil])
  exact absurd (hr6.resolve_left (lX hg77)) (lX hg85)
 refine jL 12 ?_
 rw [List.take_of_length_le (by omega : (es.map (·.t)).length ≤ i)] at hg ⊢
 refine Ej.keep (Keeps.d Keeps.r) ?_
 refine Ej.perm (H' := gH 54 (((es.map (·.t)).filter fun t => Ix.sat (es.map jQ) q t).flatMap recC) g ++ []) (.of_eq (List.append_nil _)) ?_
 refine Ej.keepR jZ (by decide) hg rfl (fun I8 hle8 hv => ?_)
 refine jW ?_
 exact ⟨_, _, rfl, fun t ht => by rw [← a0M]; exact a0J ht, hv, nO (List.length_filter_le _ _) (by omega), rfl⟩
structure SaS where
  J : Heap
  la : List Ix.Rec
  lb : List Ix.Rec
  p1 : Option Addr
  c1 : Nat
  p2 : Option Addr
  c2 : Nat
  P : Option Addr
def a7I (rb : Nat) (es : List nH) (q : Cq.Qn) : Prop := ∀ (p : Option Addr) (c : Nat) (tv : Value) (I : Heap), PS I q.ps p → yE I rb es → jU recC I (es.map (·.t)) tv → q.wide ≤ 10000000 → Cq.form q = true →
  jO Tryz.prog 61 [ptr rb 0, .agg (kS q p c).toArray, tv] I [] (fun e I' H' => ∃ v, e = .returned v ∧ jU recC I' (Ix.SK (es.map jQ) q) v ∧ H' = [])
theorem a2H rb es (hfew : Ix.Few (es.map jQ)) (htk : Ix.TOK (es.map jQ)) q (ih : ∀ q', Cq.Qn.size q' < q.size → a7I rb es q') : a7I rb es q := by
 intro p c tv I hps hx htr hwd hform
 have hTl : (es.map (·.t)).length ≤ 1000 := by rw [List.length_map]; exact hx.len
 have hLl : (es.map jQ).length ≤ 1000 := by rw [List.length_map]; exact hx.len
 obtain ⟨pt, ct, rfl⟩ := kQ htr
 refine jT func61 fun w0 hw0 => ?_
 refine jL 3 ?_
 intro b1 hb1
 refine jL 18 ?_
 refine Cj.join (ι := SaS) (fun y => y.la.length ≤ 1000000 ∧ y.lb.length ≤ 1000000 ∧ jU recC y.J y.la (.slice y.p1 y.la.length y.c1) ∧ jU recC y.J y.lb (.slice y.p2 y.lb.length y.c2) ∧ jU recC y.J (es.map (·.t)) (.slice pt (es.map (·.t)).length ct) ∧ ∀ t ∈ (es.map jQ).map (·.1), a2W q.k (decide (t ∈ y.la)) (decide (t ∈ y.lb)) = Ix.sat (es.map jQ) q t) (fun y => [(2, .slice pt (es.map (·.t)).length ct), (4, ptr b1 0), (7, .slice none 0 0), (8, .slice y.p1 y.la.length y.c1), (9, .slice y.p2 y.lb.length y.c2)]) (fun y => y.J) (fun y => [(b1, jM 32 (kS q y.P c))]) ?_ (fun hcut => ?_)
 ·rintro ⟨J8, la, lb, p1, c1, p2, c2, P8⟩ ⟨hlal, hlbl, hra, hrb, htr, hcomb⟩
  dsimp only at hlal hlbl hra hrb htr hcomb ⊢
  refine jL 7 ?_
  refine Cj.loop (ι := Nat × Gs) (fun y => y.1 ≤ (es.map (·.t)).length ∧ kY w0.heap.size 2 (((es.map (·.t)).take y.1).filter fun t => Ix.sat (es.map jQ) q t).length ((((es.map (·.t)).take y.1).filter fun t => Ix.sat (es.map jQ) q t).flatMap recC) y.2) (fun y => (es.map (·.t)).length - y.1) (fun y => [(2, .slice pt (es.map (·.t)).length ct), (4, ptr b1 0), (7, gV (((es.map (·.t)).take y.1).filter fun t => Ix.sat (es.map jQ) q t).length y.2), (8, .slice p1 la.length c1), (9, .slice p2 lb.length c2), (10, i64 (y.1 : Int))]) (fun y => _) (fun y => (b1, jM 32 (kS q P8 c)) :: gH 54 ((((es.map (·.t)).take y.1).filter fun t => Ix.sat (es.map jQ) q t).flatMap recC) y.2) (0, none) ⟨Nat.zero_le _, rfl, rfl⟩ ⟨rfl, rfl, rfl, rfl, rfl, rfl, trivial⟩ rfl rfl ?_
  rintro ⟨i, g⟩ ⟨hi, hg⟩
  dsimp only at hi hg ⊢
  have hfl := a0n (fun t => Ix.sat (es.map jQ) q t) (es.map (·.t)) i
  refine jR (fun hc2 hc2p => ?_) (fun hc2 hc2p => ?_)
  ·have hlt : i < (es.map (·.t)).length := by omega
   obtain ⟨t, hgt⟩ : ∃ x, (es.map (·.t))[i]? = some x := ⟨_, kV hlt⟩
   have htm := b0f hgt
   have hct := hcomb t htm
   obtain ⟨p5, c5, hpe5, hc5, hp5⟩ := id htr
   cases hpe5
   obtain ⟨tb, tof, tcs, tty, tfr, tsp, rfl, htb, htd⟩ := hp5 (jS hlt)
   refine kH (tof + i * 2) ?_
   refine J.z (q3 nZ kX (jV.ET htb) (kU jZ htd hgt)) ?_
   refine kC (a0s la t _ (by omega) _ hra) ?_
   refine kH (tof + i * 2) ?_
   refine J.z (q3 nZ kX (jV.ET htb) (kU jZ htd hgt)) ?_
   refine kC (a0s lb t _ (by omega) _ hrb) ?_
   refine jL 3 ?_
   refine Cj.join (ι := Unit) (fun _y => True) (fun _y => [(2, .slice (some ⟨tb, tof, none⟩) (es.map (·.t)).length ct), (4, ptr b1 0), (7, gV (((es.map (·.t)).take i).filter fun t => Ix.sat (es.map jQ) q t).length g), (8, .slice p1 la.length c1), (9, .slice p2 lb.length c2), (10, i64 (i : Int)), (11, .bool (Ix.sat (es.map jQ) q t))]) (fun _y => J8) (fun _y => (b1, jM 32 (kS q P8 c)) :: gH 54 ((((es.map (·.t)).take i).filter fun t => Ix.sat (es.map jQ) q t).flatMap recC) g) ?_ (fun hcut => ?_)
   ·rintro _ -
    refine mP (fun hc3 => ?_) (fun hc3 => ?_)
    ·have hsat : (Ix.sat (es.map jQ) q t) = true := hc3
     refine kH (tof + i * 2) ?_
     refine J.z (q3 nZ kX (jV.ET htb) (kU jZ htd hgt)) ?_
     refine jL 1 ?_
     intro b4 hb4
     refine zS 15 [_, _] hg ?_
     intro g5 hg5
     refine jL 9 ?_
     refine Ej.keep (Keeps.d (Keeps.k Keeps.r)) ?_
     refine Ej.round (i + 1, g5) ⟨by dsimp only; omega, by dsimp only; rw [kL _ hgt, if_pos hsat, List.length_append, List.flatMap_append]; exact hg5⟩ (by dsimp only; omega) ⟨rfl, rfl, by dsimp only; rw [kL _ hgt, if_pos hsat, List.length_append]; rfl, rfl, rfl, rfl, trivial⟩ rfl (by dsimp only; rw [kL _ hgt, if_pos hsat, List.flatMap_append]; rfl)
    have hsat : ¬ (Ix.sat (es.map jQ) q t) = true := by rw [hc3]; decide
    refine jL 8 ?_
    refine Ej.round (i + 1, g) ⟨by dsimp only; omega, by dsimp only; rw [kL _ hgt, if_neg hsat, List.append_nil]; exact hg⟩ (by dsimp only; omega) ⟨rfl, rfl, by dsimp only; rw [kL _ hgt, if_neg hsat, List.append_nil]; rfl, rfl, rfl, rfl, trivial⟩ rfl (by dsimp only; rw [kL _ hgt, if_neg hsat, List.append_nil])
   refine jR (fun hc6 hc6p => ?_) (fun hc6 hc6p => ?_)
   ·have hk9 : q.k = 2 := lN hc6
    rw [hk9] at hct
    refine pI (fun hg7 => ?_) (fun hg7 => ?_)
    ·refine jL 5 ?_
     exact hcut () _ _ _ trivial ⟨rfl, rfl, rfl, rfl, rfl, rfl, (congrArg (fun b => some (Value.bool b)) (by rw [← hct, hg7]; first | rfl | exact (Bool.true_and _).symm | exact (Bool.false_and _).symm)), trivial⟩ rfl rfl
    refine jL 5 ?_
    exact hcut () _ _ _ trivial ⟨rfl, rfl, rfl, rfl, rfl, rfl, (congrArg (fun b => some (Value.bool b)) (by rw [← hct, hg7]; first | rfl | exact (Bool.true_and _).symm | exact (Bool.false_and _).symm)), trivial⟩ rfl rfl
   have hkn2 : q.k ≠ 2 := lX hc6
   refine jR (fun hc8 hc8p => ?_) (fun hc8 hc8p => ?_)
   ·have hk9 : q.k = 3 := lN hc8
    rw [hk9] at hct
    refine pI (fun hg9 => ?_) (fun hg9 => ?_)
    ·refine jL 5 ?_
     exact hcut () _ _ _ trivial ⟨rfl, rfl, rfl, rfl, rfl, rfl, (congrArg (fun b => some (Value.bool b)) (by rw [← hct, hg9]; first | rfl | exact (Bool.true_or _).symm | exact (Bool.false_or _).symm)), trivial⟩ rfl rfl
    refine jL 5 ?_
    exact hcut () _ _ _ trivial ⟨rfl, rfl, rfl, rfl, rfl, rfl, (congrArg (fun b => some (Value.bool b)) (by rw [← hct, hg9]; first | rfl | exact (Bool.true_or _).symm | exact (Bool.false_or _).symm)), trivial⟩ rfl rfl
   have hkn3 : q.k ≠ 3 := lX hc8
   refine jR (fun hc10 hc10p => ?_) (fun hc10 hc10p => ?_)
   ·have hk9 : q.k = 4 := lN hc10
    rw [hk9] at hct
    refine pI (fun hg11 => ?_) (fun hg11 => ?_)
    ·refine jL 6 ?_
     exact hcut () _ _ _ trivial ⟨rfl, rfl, rfl, rfl, rfl, rfl, (congrArg (fun b => some (Value.bool b)) (by rw [← hct, hg11]; first | rfl | exact (Bool.true_and _).symm | exact (Bool.false_and _).symm)), trivial⟩ rfl rfl
    refine jL 6 ?_
    exact hcut () _ _ _ trivial ⟨rfl, rfl, rfl, rfl, rfl, rfl, (congrArg (fun b => some (Value.bool b)) (by rw [← hct, hg11]; first | rfl | exact (Bool.true_and _).symm | exact (Bool.false_and _).symm)), trivial⟩ rfl rfl
   have hkn4 : q.k ≠ 4 := lX hc10
   refine jL 2 ?_
   exact hcut () _ _ _ trivial ⟨rfl, rfl, rfl, rfl, rfl, rfl, (congrArg (fun b => some (Value.bool b)) (by rw [← hct]; unfold a2W; rw [if_neg hkn2, if_neg hkn3, if_neg hkn4])), trivial⟩ rfl rfl
  refine jL 12 ?_
  rw [List.take_of_length_le (by omega : (es.map (·.t)).length ≤ i)] at hg ⊢
  refine Ej.keep (Keeps.d Keeps.r) ?_
  refine Ej.perm (H' := gH 54 (((es.map (·.t)).filter fun t => Ix.sat (es.map jQ) q t).flatMap recC) g ++ []) (.of_eq (List.append_nil _)) ?_
  refine Ej.keepR jZ (by decide) hg rfl (fun I8 hle8 hv => ?_)
  refine jW ?_
  exact ⟨_, rfl, by unfold Ix.SK; rw [a0M]; exact hv, rfl⟩
 refine jR (fun hc12 hc12p => ?_) (fun hc12 hc12p => ?_)
 ·have hk : q.k = 1 := by omega
  have hrm : q.r ∈ Cq.relations := by
    rw [Cq.wJ hk, Bool.and_eq_true, Bool.and_eq_true] at hform
    exact List.contains_iff_mem.1 hform.1.2
  refine kJ (b1M rb es q p c hk hrm hwd hfew htk _ hx) ?_
  intro v13 I14 H15 hle16 hp17
  have hx := hx.mono hle16
  have hps := hps.mono hle16
  have htr := htr.mono hle16
  obtain ⟨v1, la, h, hsa, hra, hlal, rfl⟩ := hp17; cases h
  obtain ⟨p1, c1, rfl⟩ := kQ hra
  have hcomb : ∀ t ∈ (es.map jQ).map (·.1), a2W q.k (decide (t ∈ la)) (decide (t ∈ ([] : List Ix.Rec))) = Ix.sat (es.map jQ) q t := fun t ht => by rw [hk, hsa t ht]; rfl
  refine jL 2 ?_
  exact hcut ⟨_, la, [], p1, c1, none, 0, p⟩ _ _ _ ⟨hlal, Nat.zero_le _, hra, jU.nil, htr, hcomb⟩ ⟨rfl, rfl, rfl, rfl, rfl, trivial⟩ rfl rfl
 have hk : q.k ≠ 1 := by omega
 obtain ⟨_, hk2, hk4, qa, qb, htw, hfa, hfb⟩ := (Cq.wR hform).resolve_left hk
 obtain ⟨bl, off, cs', T, fr, pa, ca, pb, cb, rfl, hbl, hca, hcb, hkb, hpa, hpb⟩ := hps.KZ htw
 have hsz2 := htw.size
 have hwd2 := htw.wide
 have hln := htw.len
 refine kH off ?_
 refine J.z (q3 nR lS (jV.ET hbl) hca) ?_
 refine kJ (ih qa (by omega) pa ca _ _ hpa hx htr (by omega) hfa) ?_
 intro v18 I19 H20 hle21 hp22
 have hx := hx.mono hle21
 have htr := htr.mono hle21
 have hbl := hle21 _ _ hbl
 have hpa := hpa.mono hle21
 have hpb := hpb.mono hle21
 obtain ⟨va, h, hra, rfl⟩ := hp22; cases h
 obtain ⟨pa1, ca1, rfl⟩ := kQ hra
 refine kH (off + 5) ?_
 refine J.z (q3 nR lS (jV.ET hbl) hcb) ?_
 refine kJ (ih qb (by omega) pb cb _ _ hpb hx htr (by omega) hfb) ?_
 intro v23 I24 H25 hle26 hp27
 have hx := hx.mono hle26
 have htr := htr.mono hle26
 have hbl := hle26 _ _ hbl
 have hpa := hpa.mono hle26
 have hpb := hpb.mono hle26
 have hra := hra.mono hle26
 obtain ⟨vb, h, hrb, rfl⟩ := hp27; cases h
 obtain ⟨pb1, cb1, rfl⟩ := kQ hrb
 refine jL 2 ?_
 exact hcut ⟨_, Ix.SK (es.map jQ) qa, Ix.SK (es.map jQ) qb, pa1, ca1, pb1, cb1, some ⟨bl, off, none⟩⟩ _ _ _ ⟨nO (Ix.b3b _ _) (by omega), nO (Ix.b3b _ _) (by omega), hra, hrb, htr, fun t ht => by rw [b0t hk2 hk4, a0J ht, a0J ht, Ix.a0B hk htw]⟩ ⟨rfl, rfl, rfl, rfl, rfl, trivial⟩ rfl rfl
theorem a5U rb es (hfew : Ix.Few (es.map jQ)) (htk : Ix.TOK (es.map jQ)) q : a7I rb es q := by
  suffices ∀ n (q : Cq.Qn), q.size < n → a7I rb es q from this _ q (Nat.lt_succ_self _)
  intro n
  induction n with
  | zero => intro q h; omega
  | succ n ih => intro q h; exact a2H rb es hfew htk q fun q' h' => ih q' (by omega)
theorem b2l rb es a b I (hx : yE I rb es) : jO Tryz.prog 63 [ptr rb 0, jY a, jY b] I [] (fun e _ H' => e = .returned (.bool (Ix.TY (es.map jQ) a b)) ∧ H' = []) := by
 refine jT func63 fun w0 hw0 => ?_
 refine jL 3 ?_
 intro b1 hb1
 refine jL 1 ?_
 intro b2 hb2
 refine kJ (a1C rb es a _ hx) ?_
 intro v3 I4 H5 hle6 hp7
 have hx := hx.mono hle6
 obtain ⟨h, rfl⟩ := hp7; cases h
 refine kJ (a1C rb es b _ hx) ?_
 intro v8 I9 H10 hle11 hp12
 have hx := hx.mono hle11
 obtain ⟨h, rfl⟩ := hp12; cases h
 refine jR (fun hc13 hc13p => ?_) (fun hc13 hc13p => ?_)
 ·refine jL 4 ?_
  refine J.z (SB rfl rfl rfl) ?_
  refine kF ?_
  have hne := bne_iff_ne.1 hc13
  refine ⟨?_, rfl⟩
  unfold Ix.TY; rw [if_neg hne]
 refine kC (a3q a b _) ?_
 refine kF ?_
 have he := sN hc13
 refine ⟨?_, rfl⟩
 unfold Ix.TY; rw [if_pos he]
structure RW where
  i : Nat
  J : Heap
  out : List Ix.Rec
  v : Value
theorem a7n rb es q p c (hsz : q.size ≤ 1000000) (hwd : q.wide ≤ 10000000) (hR : Cq.right q = true) (hfew : Ix.Few (es.map jQ)) (htk : Ix.TOK (es.map jQ)) I (hps : PS I q.ps p) (hx : yE I rb es) : jO Tryz.prog 19 [ptr rb 0, .agg (kS q p c).toArray] I [] (fun e I' H' => ∃ v r, e = .returned (.tuple #[v, i64 0]) ∧ Ix.CY (es.map jQ) q r ∧ jU recC I' r v ∧ H' = []) := by
 have hform : Cq.form q = true := by unfold Cq.right at hR; rw [Bool.and_eq_true] at hR; exact hR.1
 have hsll := Ix.b3b (es.map jQ) q
 have hLl : (es.map jQ).length ≤ 1000 := by rw [List.length_map]; exact hx.len
 refine jT func19 fun w0 hw0 => ?_
 refine jL 3 ?_
 intro b1 hb1
 refine kC (b3k q p c (by have := Cq.a2M q; omega) _ hps) ?_
 refine J.ev 13 (.bool true) rfl (congrArg Value.bool hR) ?_
 refine jL 24 ?_
 refine Cj.qC [0] [] 6 (by kernel_rfl) ?_
 refine kJ ((let ⟨_, _, hR⟩ := hx.ex; ZI rb _ es (by have := hx.len; omega) _ hR.1 hR.2)) ?_
 intro v5 I6 H7 hle8 hp9
 have hx := hx.mono hle8
 have hps := hps.mono hle8
 obtain ⟨vt, h, htr, rfl⟩ := hp9; cases h
 obtain ⟨pt, ct, rfl⟩ := kQ htr
 refine kJ (a5U rb es hfew htk q p c _ _ hps hx htr hwd hform) ?_
 intro v10 I11 H12 hle13 hp14
 have hx := hx.mono hle13
 have hps := hps.mono hle13
 have htr := htr.mono hle13
 obtain ⟨vl, h, hrl, rfl⟩ := hp14; cases h
 obtain ⟨pl, cl, rfl⟩ := kQ hrl
 refine jL 16 ?_
 refine Cj.keep (Keeps.d Keeps.n) ?_
 refine Cj.loop (ι := RW) (fun y => y.i ≤ (Ix.SK (es.map jQ) q).length ∧ Le I11 y.J ∧ Ix.FI (es.map jQ) (Ix.SK (es.map jQ) q) y.out y.i ∧ jU recC y.J y.out y.v) (fun y => (Ix.SK (es.map jQ) q).length - y.i) (fun y => [(0, ptr rb 0), (7, .slice pl (Ix.SK (es.map jQ) q).length cl), (8, y.v), (9, i64 (y.i : Int))]) (fun y => y.J) (fun y => []) ⟨0, _, [], _⟩ ⟨Nat.zero_le _, Le.refl _, Ix.FI.nil _ _, jU.nil⟩ ⟨rfl, rfl, rfl, rfl, trivial⟩ rfl rfl ?_
 rintro ⟨i, J1, out, ov⟩ ⟨hi, hIJ, hins, hro⟩
 dsimp only at hi hIJ hins hro ⊢
 have hx := hx.mono hIJ
 have hrl := hrl.mono hIJ
 obtain ⟨po, co, rfl⟩ := kQ hro
 have hol := hins.len
 refine jR (fun hc16 hc16p => ?_) (fun hc16 hc16p => ?_)
 ·have hlt : i < (Ix.SK (es.map jQ) q).length := by omega
  obtain ⟨t, hgt⟩ : ∃ x, (Ix.SK (es.map jQ) q)[i]? = some x := ⟨_, kV hlt⟩
  obtain ⟨p5, c5, hpe5, hc5, hp5⟩ := id hrl
  cases hpe5
  obtain ⟨lb, lo, lcs, lty, lfr, lsp, rfl, hlb, hld⟩ := hp5 (jS hlt)
  refine jL 11 ?_
  refine Cj.loop (ι := Nat × Heap) (fun y => y.1 ≤ out.length ∧ Le J1 y.2 ∧ ∀ x ∈ out.take y.1, Ix.oJ (es.map jQ) x t) (fun y => out.length - y.1) (fun y => [(0, ptr rb 0), (7, .slice (some ⟨lb, lo, none⟩) (Ix.SK (es.map jQ) q).length cl), (8, .slice po out.length co), (9, i64 (i : Int)), (10, i64 (y.1 : Int))]) (fun y => y.2) (fun y => []) (0, _) ⟨Nat.zero_le _, Le.refl _, fun x hx => by simp at hx⟩ ⟨rfl, rfl, rfl, rfl, rfl, trivial⟩ rfl rfl ?_
  rintro ⟨k, K1⟩ ⟨hk9, hIK, hall⟩
  dsimp only at hk9 hIK hall ⊢
  have hIJ := hIJ.trans hIK
  have hlb := hIK _ _ hlb
  have hx := hx.mono hIK
  have hrl := hrl.mono hIK
  have hro := hro.mono hIK
  refine jL 2 ?_
  refine Cj.qC [] [] 16 (by kernel_rfl) ?_
  have hlb_12 := hlb
  refine jL 5 ?_
  refine JA.split 33 rfl (fun hg18 => ?_) (fun hg18 => ?_)
  rotate_left
  ·have hg18p := nI hg18
   refine jL 20 ?_
   have hstop : ∀ x, out[k]? = some x → Ix.TY (es.map jQ) x t = false := fun x hx9 => absurd (List.getElem?_eq_some_iff.1 hx9).1 (by have h := nI hg18; omega)
   have hins2 := hins.next (Ix.YU hx.pR q) hgt hall hstop hk9
   refine Cj.qC [] [] 10 (by kernel_rfl) ?_
   refine jL 2 ?_
   refine JA.fix lF (fun fx34 => ?_)
   refine JA.tk 2 rfl fx34 (q7 (off' := lo + i * 2) mY kX) ?_
   refine JA.tk 3 rfl fx34 (q3 nZ kX (jV.AZ hlb) (kU jZ hld hgt)) ?_
   refine JA.tk 5 rfl fx34 q1 ?_
   refine JA.tk 6 rfl fx34 q1 ?_
   refine JA.tk 7 rfl fx34 (pW (j := k) rfl rfl rfl mY kX rfl hk9 (by obtain ⟨_, _, he9, hc9, _⟩ := id hro; cases he9; exact hc9)) ?_
   refine q0 4 rfl (q6 mY kX tN (vV.agg rfl vV.none) ?_)
   intro b35 hb35
   refine ⟨fx0, ?_⟩
   refine q0 8 rfl (kK (by' := 15) (n := 1) (g := some (b35, 1, [])) (xs := recC t) [] rfl rfl rfl rfl rfl mY (.inr ⟨_, mY⟩) (by kernel_rfl) kX tN rfl ⟨hb35, rfl, rfl⟩ rfl (Src.row jZ (jU.from jZ hro hk9) (fun x _ => vY x)) (by rw [List.length_drop]; omega) ?_)
   intro g36 hg36
   refine jL 4 ?_
   have hrt : ([t] ++ out.drop k).length = 1 + (out.drop k).length := by rw [List.length_append]; rfl
   refine Cj.perm (H' := gH 54 (([t] ++ out.drop k).flatMap recC) g36 ++ []) (.of_eq (List.append_nil _)) ?_
   refine Cj.keepR jZ (by decide) hg36 hrt.symm (fun I7 hle7 hrs => ?_)
   have hIJ := hIJ.mono hle7
   have hx := hx.mono hle7
   have hrl := hrl.mono hle7
   have hro := hro.mono hle7
   have hlb := hle7 _ _ hlb
   have hIK := hIK.mono hle7
   obtain ⟨ps, cs, hse⟩ := kQ hrs
   refine Cj.ev 11 (.slice ps ([t] ++ out.drop k).length cs) rfl hse ?_
   rw [hse] at hrs
   refine jL 1 ?_
   refine J.op rfl (BO rfl rfl rfl mY kX ?_)
   intro b38 hb38
   refine jL 2 ?_
   refine J.z (qB (k := k) rfl rfl rfl mY kX rfl (by obtain ⟨_, _, he9, hc9, _⟩ := id hro; cases he9; omega)) ?_
   refine J.op rfl (kK (by' := 15) (n := 0) (g := some (b38, 0, [])) (xs := []) [] rfl rfl rfl rfl rfl mY (.inr ⟨_, mY⟩) (by kernel_rfl) kX tN rfl ⟨hb38, rfl, rfl⟩ rfl (Src.row jZ (jU.take hro hk9) (fun x _ => vY x)) (by rw [List.length_take]; omega) ?_)
   intro g39 hg39
   refine jL 1 ?_
   refine J.op rfl (kK (by' := 15) [] rfl rfl rfl rfl rfl mY (.inr ⟨_, mY⟩) (by kernel_rfl) kX tN rfl hg39 rfl (Src.row jZ hrs (fun x _ => vY x)) (by rw [List.length_take, List.length_append, List.length_drop]; simp only [List.length_cons, List.length_nil]; omega) ?_)
   intro g40 hg40
   refine jL 4 ?_
   have h3 : (out.take k ++ ([t] ++ out.drop k)).length = 0 + (out.take k).length + ([t] ++ out.drop k).length := by rw [List.length_append, Nat.zero_add]
   refine Cj.perm (H' := gH 54 ((out.take k ++ ([t] ++ out.drop k)).flatMap recC) g40 ++ []) (by rw [List.flatMap_append]; exact .of_eq (List.append_nil _)) ?_
   refine Cj.keepR jZ (by decide) (by rw [List.flatMap_append]; exact hg40) h3.symm (fun I6 hle6 hro2 => ?_)
   have hIJ := hIJ.mono hle6
   have hx := hx.mono hle6
   have hrl := hrl.mono hle6
   have hro := hro.mono hle6
   have hlb := hle6 _ _ hlb
   have hIK := hIK.mono hle6
   have hrs := hrs.mono hle6
   rw [← List.append_assoc] at hro2
   refine jL 5 ?_
   refine Ej.round ⟨i + 1, _, _, _⟩ ⟨by dsimp only; omega, hIJ, hins2, hro2⟩ (by dsimp only; omega) ⟨rfl, rfl, rfl, rfl, trivial⟩ rfl rfl
  have hg18p := mD hg18
  have hko : k < out.length := by omega
  obtain ⟨o, hgo⟩ : ∃ x, out[k]? = some x := ⟨_, kV hko⟩
  obtain ⟨p6, c6, hpe6, hc6, hp6⟩ := id hro
  cases hpe6
  obtain ⟨ob, oo, ocs, oty, ofr, osp, rfl, hob, hod⟩ := hp6 (jS hko)
  refine jL 3 ?_
  refine JA.fix lF (fun fx17 => ?_)
  refine JA.tkG 8 4 33 true _ rfl fx17 rfl rfl hg18 (q7 (off' := oo + k * 2) mY kX) ?_
  refine jL 2 ?_
  refine JA.fix lF (fun fx17 => ?_)
  refine JA.tkG 12 4 33 true _ rfl fx17 rfl rfl hg18 (q7 (off' := lo + i * 2) mY kX) ?_
  refine JA.tkG 13 4 33 true _ rfl fx17 rfl rfl hg18 (q3 nZ kX (jV.AZ hlb_12) (kU jZ hld hgt)) ?_
  refine JA.stepG 9 4 33 true _ (by kernel_rfl) rfl rfl rfl rfl hg18 (lC (q3 nZ kX (jV.ET hob) (kU jZ hod hgo)) rfl rfl ?_)
  refine kJ (b2l rb es o t _ hx) ?_
  intro v19 I20 H21 hle22 hp23
  have hIJ := hIJ.mono hle22
  have hx := hx.mono hle22
  have hrl := hrl.mono hle22
  have hro := hro.mono hle22
  have hlb := hle22 _ _ hlb
  have hIK := hIK.mono hle22
  have hob := hle22 _ _ hob
  obtain ⟨h, rfl⟩ := hp23; cases h
  refine mP (fun hc25 => ?_) (fun hc25 => ?_)
  ·have hls : Ix.TY (es.map jQ) o t = true := hc25
   refine jL 9 ?_
   refine Ej.round (k + 1, _) ⟨by dsimp only; omega, hIK, Ix.a8i hall hgo hls⟩ (by dsimp only; omega) ⟨rfl, rfl, rfl, rfl, rfl, trivial⟩ rfl rfl
  refine jL 6 ?_
  have hstop : ∀ x, out[k]? = some x → Ix.TY (es.map jQ) x t = false := fun x hx9 => by rw [hgo] at hx9; cases hx9; exact hc25
  have hins2 := hins.next (Ix.YU hx.pR q) hgt hall hstop hk9
  refine Cj.qC [] [] 10 (by kernel_rfl) ?_
  refine jL 2 ?_
  refine JA.fix lF (fun fx26 => ?_)
  refine JA.tk 2 rfl fx26 (q7 (off' := lo + i * 2) mY kX) ?_
  refine JA.tk 3 rfl fx26 (q3 nZ kX (jV.AZ hlb) (kU jZ hld hgt)) ?_
  refine JA.tk 5 rfl fx26 q1 ?_
  refine JA.tk 6 rfl fx26 q1 ?_
  refine JA.tk 7 rfl fx26 (pW (j := k) rfl rfl rfl mY kX rfl hk9 (by obtain ⟨_, _, he9, hc9, _⟩ := id hro; cases he9; exact hc9)) ?_
  refine q0 4 rfl (q6 mY kX tN (vV.agg rfl vV.none) ?_)
  intro b27 hb27
  refine ⟨fx0, ?_⟩
  refine q0 8 rfl (kK (by' := 15) (n := 1) (g := some (b27, 1, [])) (xs := recC t) [] rfl rfl rfl rfl rfl mY (.inr ⟨_, mY⟩) (by kernel_rfl) kX tN rfl ⟨hb27, rfl, rfl⟩ rfl (Src.row jZ (jU.from jZ hro hk9) (fun x _ => vY x)) (by rw [List.length_drop]; omega) ?_)
  intro g28 hg28
  refine jL 4 ?_
  have hrt : ([t] ++ out.drop k).length = 1 + (out.drop k).length := by rw [List.length_append]; rfl
  refine Cj.perm (H' := gH 54 (([t] ++ out.drop k).flatMap recC) g28 ++ []) (.of_eq (List.append_nil _)) ?_
  refine Cj.keepR jZ (by decide) hg28 hrt.symm (fun I7 hle7 hrs => ?_)
  have hIJ := hIJ.mono hle7
  have hx := hx.mono hle7
  have hrl := hrl.mono hle7
  have hro := hro.mono hle7
  have hlb := hle7 _ _ hlb
  have hIK := hIK.mono hle7
  have hob := hle7 _ _ hob
  obtain ⟨ps, cs, hse⟩ := kQ hrs
  refine Cj.ev 11 (.slice ps ([t] ++ out.drop k).length cs) rfl hse ?_
  rw [hse] at hrs
  refine jL 1 ?_
  refine J.op rfl (BO rfl rfl rfl mY kX ?_)
  intro b30 hb30
  refine jL 2 ?_
  refine J.z (qB (k := k) rfl rfl rfl mY kX rfl (by obtain ⟨_, _, he9, hc9, _⟩ := id hro; cases he9; omega)) ?_
  refine J.op rfl (kK (by' := 15) (n := 0) (g := some (b30, 0, [])) (xs := []) [] rfl rfl rfl rfl rfl mY (.inr ⟨_, mY⟩) (by kernel_rfl) kX tN rfl ⟨hb30, rfl, rfl⟩ rfl (Src.row jZ (jU.take hro hk9) (fun x _ => vY x)) (by rw [List.length_take]; omega) ?_)
  intro g31 hg31
  refine jL 1 ?_
  refine J.op rfl (kK (by' := 15) [] rfl rfl rfl rfl rfl mY (.inr ⟨_, mY⟩) (by kernel_rfl) kX tN rfl hg31 rfl (Src.row jZ hrs (fun x _ => vY x)) (by rw [List.length_take, List.length_append, List.length_drop]; simp only [List.length_cons, List.length_nil]; omega) ?_)
  intro g32 hg32
  refine jL 4 ?_
  have h3 : (out.take k ++ ([t] ++ out.drop k)).length = 0 + (out.take k).length + ([t] ++ out.drop k).length := by rw [List.length_append, Nat.zero_add]
  refine Cj.perm (H' := gH 54 ((out.take k ++ ([t] ++ out.drop k)).flatMap recC) g32 ++ []) (by rw [List.flatMap_append]; exact .of_eq (List.append_nil _)) ?_
  refine Cj.keepR jZ (by decide) (by rw [List.flatMap_append]; exact hg32) h3.symm (fun I6 hle6 hro2 => ?_)
  have hIJ := hIJ.mono hle6
  have hx := hx.mono hle6
  have hrl := hrl.mono hle6
  have hro := hro.mono hle6
  have hlb := hle6 _ _ hlb
  have hIK := hIK.mono hle6
  have hob := hle6 _ _ hob
  have hrs := hrs.mono hle6
  rw [← List.append_assoc] at hro2
  refine jL 5 ?_
  refine Ej.round ⟨i + 1, _, _, _⟩ ⟨by dsimp only; omega, hIJ, hins2, hro2⟩ (by dsimp only; omega) ⟨rfl, rfl, rfl, rfl, trivial⟩ rfl rfl
 refine kF ?_
 exact ⟨_, out, rfl, hins.run (by omega), hro, rfl⟩
end Go.Proofs.YtekmeaoblpfnpaaGreatDoor
end
section
namespace Go.Proofs.YtekmeaoblpfnpaaGreatDoor
open _root_.Go.Proofs.Tryz
open Go Go.Sx
def rF (most : Int) (fs : List (List Ix.Rec)) (n : Int) : Option (List Ix.Rec) := if (fs.length : Int) - max most 1 < n ∧ 0 < n then fs[(n - 1).toNat]? else none
theorem a1S most fs r n : rF most (fs ++ [r]) n = if n = (fs.length : Int) + 1 then some r else if n = (fs.length : Int) + 1 - max most 1 then none else rF most fs n := by
  unfold rF
  have hl : (fs ++ [r]).length = fs.length + 1 := by rw [List.length_append]; rfl
  rw [hl]
  by_cases h1 : n = (fs.length : Int) + 1
  · rw [if_pos h1, if_pos ⟨by omega, by omega⟩, List.getElem?_append_right (by omega)]
    have : (n - 1).toNat - fs.length = 0 := by omega
    rw [this]; rfl
  rw [if_neg h1]
  by_cases h2 : n = (fs.length : Int) + 1 - max most 1
  · rw [if_pos h2, if_neg (by omega)]
  rw [if_neg h2]
  by_cases h3 : (fs.length : Int) - max most 1 < n ∧ 0 < n
  · rw [if_pos h3, if_pos ⟨by omega, h3.2⟩]
    by_cases h4 : (n - 1).toNat < fs.length
    · rw [List.getElem?_append_left h4]
    rw [List.getElem?_eq_none (by rw [hl]; omega), List.getElem?_eq_none (by omega)]
  rw [if_neg h3, if_neg (by omega)]
theorem a3n most n : rF most [] n = none := by
  unfold rF; split
  · rfl
  rfl
abbrev XU (a : Int) : Value := i64 a
def sO (I : Heap) (m : ML Int) (k : Nat) (most : Int) (fs : List (List Ix.Rec)) : Prop := MS m k ∧ (∀ n, rF most fs n = none → kE m n = none) ∧ ∀ n r, rF most fs n = some r → ∃ w, kE m n = some w ∧ uH 54 recC I r w
theorem sO.mono {I I' m k most fs} (h : sO I m k most fs) (hle : Le I I') : sO I' m k most fs := ⟨h.1, h.2.1, fun n r hn => let ⟨w, h1, h2⟩ := h.2.2 n r hn; ⟨w, h1, h2.mono hle⟩⟩
theorem sO.nil I most : sO I [] 0 most [] := ⟨MS.nil, fun _ _ => rfl, fun n r h => by rw [a3n] at h; cases h⟩
theorem sO.next {I m k most fs} (h : sO I m k most fs) {r w} (hr : uH 54 recC I r w) :
    sO I (nV (kG m ((fs.length : Int) + 1) w k) ((fs.length : Int) + 1 - max most 1)) (mO m ((fs.length : Int) + 1) k) most (fs ++ [r]) := by
  have h1 := h.1.set ((fs.length : Int) + 1) w
  refine ⟨h1.del _, fun n hn => ?_, fun n r2 hn => ?_⟩
  · rw [a1S] at hn
    rw [EI h1.1, rP]
    split at hn
    · cases hn
    rename_i g
    split at hn
    · rename_i g2; rw [if_pos (by simpa using g2)]
    rename_i g2; rw [if_neg (by simpa using g2), if_neg (by simpa using g)]; exact h.2.1 n hn
  rw [a1S] at hn
  rw [EI h1.1, rP]
  split at hn
  · rename_i g
    cases hn
    exact ⟨w, by rw [if_neg (by simp only [beq_iff_eq]; omega), if_pos (by simpa using g)], hr⟩
  rename_i g
  split at hn
  · cases hn
  rename_i g2
  obtain ⟨w2, g3, g4⟩ := h.2.2 n r2 hn
  exact ⟨w2, by rw [if_neg (by simpa using g2), if_neg (by simpa using g)]; exact g3, g4⟩
abbrev So := Option (Nat × ML Int × Nat)
def b2p : So → Value
  | none => .map none
  | some (b, _, _) => .map (some b)
def b2G : So → HL
  | none => []
  | some (b, m, k) => [(b, kD XU m k)]
def yI (I : Heap) (most : Int) (fs : List (List Ix.Rec)) : So → Prop
  | none => fs = []
  | some (_, m, k) => sO I m k most fs
theorem yI.mono {I I' most fs} : ∀ {o : So}, yI I most fs o → Le I I' → yI I' most fs o
  | none, h, _ => h
  | some (_, _, _), h, hle => sO.mono h hle
def uN (sb : Nat) (most : Int) (fs : List (List Ix.Rec)) (o : So) : HL := (sb, jM 82 [i64 most, i64 (fs.length : Int), b2p o]) :: b2G o
def rW (most : Int) (fs : List (List Ix.Rec)) (n fr many : Int) : List Ix.Rec × Int := match rF most fs n with
  | none => ([], 32)
  | some r => if fr < 0 ∨ many < 0 then ([], 1) else ((r.drop fr.toNat).take many.toNat, 0)
theorem TD {most fs n} (h : rF most fs n = none) fr many : rW most fs n fr many = ([], 32) := by unfold rW; rw [h]
theorem a5u {most fs n fr many r} (h : rF most fs n = some r) (hb : fr < 0 ∨ many < 0) : rW most fs n fr many = ([], 1) := by unfold rW; rw [h]; exact if_pos hb
theorem b5Y {most fs n fr many r} (h : rF most fs n = some r) (hb : ¬ (fr < 0 ∨ many < 0)) : rW most fs n fr many = ((r.drop fr.toNat).take many.toNat, 0) := by unfold rW; rw [h]; exact if_neg hb
theorem b4r {α : Type} (l : List α) a : l.drop (min a l.length) = l.drop a := by
  rcases Nat.le_total a l.length with h | h
  · rw [Nat.min_eq_left h]
  rw [Nat.min_eq_right h, List.drop_length, List.drop_eq_nil_of_le h]
theorem b5Z {α : Type} (l : List α) a : l.take (min a l.length) = l.take a := by
  rcases Nat.le_total a l.length with h | h
  · rw [Nat.min_eq_left h]
  rw [Nat.min_eq_right h, List.take_length, List.take_of_length_le h]
theorem a9X l a c (hl : l.length ≤ 1000000000) I (hr : jU recC I l (.slice a l.length c)) : jO Tryz.prog 86 [.slice a l.length c] I [] (fun e _ H' => ∃ w, e = .returned w ∧ AL l w H') := by
 refine jT func86 fun w0 hw0 => ?_
 refine jL 9 ?_
 rcases a with _ | a
 ·have hz : l = [] := by
    obtain ⟨p9, c9, he9, _, hp9⟩ := hr
    cases he9
    refine Classical.byContradiction fun hn => ?_
    obtain ⟨b9, o9, cs9, T9, fr9, sp9, h9, _⟩ := hp9 hn
    cases h9
  refine kF ?_
  exact ⟨_, rfl, by rw [hz]; exact xO⟩
 skip
 refine jL 8 ?_
 refine J.op rfl (BO rfl rfl rfl mY kX ?_)
 intro b3 hb3
 refine jL 1 ?_
 refine J.op rfl (kK (by' := 15) (n := 0) (g := some (b3, 0, [])) (xs := []) [] rfl rfl rfl rfl rfl mY (.inr ⟨_, mY⟩) (by kernel_rfl) kX tN rfl ⟨hb3, rfl, rfl⟩ rfl (Src.row jZ hr (fun x _ => vY x)) (by omega) ?_)
 intro g4 hg4
 refine jL 4 ?_
 refine Ej.keep Keeps.r ?_
 refine jW ?_
 exact ⟨_, rfl, UJ (Nat.zero_add _) (GZ hg4)⟩
theorem b1l sb xv L q p c most fs (hsz : q.size ≤ 1000000000) (hwd : q.wide ≤ 10000000) (hmost : most ≤ 9223372036854775807) (hfl : fs.length ≤ 1000000) (hfs : fs = []) (hR : Cq.right q = true) (htk : Ix.TOK L) I (hps : PS I q.ps p) (hx : wF I xv L) (hT : uD I)  :
    jO Tryz.prog 36 [ptr sb 0, xv, .agg (kS q p c).toArray] I (uN sb most fs none) (fun e I' H' => ∃ r o', e = .returned (.tuple #[i64 ((fs.length : Int) + 1), i64 (r.length : Int), i64 0]) ∧ Ix.CY L q r ∧ yI I' most (fs ++ [r]) o' ∧ H' = uN sb most (fs ++ [r]) o') := by
 have hbig := hx.big
 have hok : sO I [] 0 most fs := by rw [hfs]; exact sO.nil I most
 unfold uN b2G b2p
 refine jT func36 fun w0 hw0 => ?_
 refine jL 3 ?_
 intro b1 hb1
 refine rU (DT xv L (q) p c hsz hwd hR htk _ hps hx hT) ?_
 intro v4 I5 H6 hle7 hn3 hp8
 have hps := hps.mono hle7
 have hx := hx.mono hle7
 have hT := hT.mono hle7
 have hok := hok.mono hle7
 obtain ⟨wa, ra, h, hruna, hoa⟩ := hp8; cases h
 refine J.FH hoa hn3 (fun Ia hlea hra => ?_)
 have hps := hps.mono hlea
 have hx := hx.mono hlea
 have hT := hT.mono hlea
 have hok := hok.mono hlea
 have hrt := hra
 replace hra := hra.row
 obtain ⟨pa, ca, rfl⟩ := kQ hra
 refine jL 30 ?_
 refine J.op rfl (kM rfl rfl rfl ?_)
 intro b11 hb11
 refine jL 18 ?_
 have hral : ra.length ≤ L.length := hruna.len
 refine Cj.qC [1, 2] [] 10 (by kernel_rfl) ?_
 refine jL 9 ?_
 refine q0 9 rfl (nD (kv := XU) (l := []) (c := 0) (a := ((fs.length : Int) + 1)) 0 (.inr rfl) rfl rfl rfl rfl rfl XB (mQ.int UY) rfl lK.z ?_)
 refine jL 4 ?_
 refine Cj.qC [1, 2] [] 15 (by kernel_rfl) ?_
 refine jL 12 ?_
 refine JA.zt 12 rfl (rO rfl rfl rfl) ?_
 refine jL 1 ?_
 refine q0 14 rfl (uT (kv := XU) (a := (((fs.length : Int) + 1) - max most 1)) 0 rfl rfl rfl rfl (congrArg i64 (by omega)) XB (mQ.int UY) rfl lK.z ?_)
 refine jL 17 ?_
 refine Ej.keep (Keeps.k (Keeps.d (Keeps.k Keeps.n))) ?_
 refine Ej.pull Pull.z ?_
 refine Ej.pull (Pull.s Pull.z) ?_
 refine Ej.a8r rfl rfl rfl rfl rfl ?_
 exact ⟨ra, some (b11, _, _), rfl, hruna, sO.next hok hrt, by rw [List.length_append]; rfl⟩
theorem a9i sb xv L q p c most fs (hsz : q.size ≤ 1000000000) (hwd : q.wide ≤ 10000000) mb m k (hmost : most ≤ 9223372036854775807) (hfl : fs.length ≤ 1000000)  (hR : Cq.right q = true) (htk : Ix.TOK L) I (hps : PS I q.ps p) (hx : wF I xv L) (hT : uD I) (hok : sO I m k most fs) :
    jO Tryz.prog 36 [ptr sb 0, xv, .agg (kS q p c).toArray] I (uN sb most fs (some (mb, m, k))) (fun e I' H' => ∃ r o', e = .returned (.tuple #[i64 ((fs.length : Int) + 1), i64 (r.length : Int), i64 0]) ∧ Ix.CY L q r ∧ yI I' most (fs ++ [r]) o' ∧ H' = uN sb most (fs ++ [r]) o') := by
 have hbig := hx.big
 unfold uN b2G b2p
 refine jT func36 fun w0 hw0 => ?_
 refine jL 3 ?_
 intro b1 hb1
 refine rU (DT xv L (q) p c hsz hwd hR htk _ hps hx hT) ?_
 intro v4 I5 H6 hle7 hn3 hp8
 have hps := hps.mono hle7
 have hx := hx.mono hle7
 have hT := hT.mono hle7
 have hok := hok.mono hle7
 obtain ⟨wa, ra, h, hruna, hoa⟩ := hp8; cases h
 refine J.FH hoa hn3 (fun Ia hlea hra => ?_)
 have hps := hps.mono hlea
 have hx := hx.mono hlea
 have hT := hT.mono hlea
 have hok := hok.mono hlea
 have hrt := hra
 replace hra := hra.row
 obtain ⟨pa, ca, rfl⟩ := kQ hra
 refine jL 43 ?_
 have hral : ra.length ≤ L.length := hruna.len
 refine Cj.qC [0, 1] [] 10 (by kernel_rfl) ?_
 refine jL 9 ?_
 refine q0 9 rfl (nD (kv := XU) (a := ((fs.length : Int) + 1)) 2 (.inr rfl) rfl rfl rfl rfl rfl XB (mQ.int UY) rfl (lK.s (lK.s lK.z)) ?_)
 refine jL 4 ?_
 refine Cj.qC [0, 1] [] 15 (by kernel_rfl) ?_
 refine jL 12 ?_
 refine JA.zt 12 rfl (rO rfl rfl rfl) ?_
 refine jL 1 ?_
 refine q0 14 rfl (uT (kv := XU) (a := (((fs.length : Int) + 1) - max most 1)) 2 rfl rfl rfl rfl (congrArg i64 (by omega)) XB (mQ.int UY) rfl (lK.s (lK.s lK.z)) ?_)
 refine jL 17 ?_
 refine Ej.keep (Keeps.d (Keeps.k (Keeps.k Keeps.n))) ?_
 refine Ej.a8r rfl rfl rfl rfl rfl ?_
 exact ⟨ra, some (mb, _, _), rfl, hruna, sO.next hok hrt, by rw [List.length_append]; rfl⟩
theorem b5H sb xv L q p c most fs (hsz : q.size ≤ 1000000000) (hwd : q.wide ≤ 10000000) o (hmost : most ≤ 9223372036854775807) (hfl : fs.length ≤ 1000000) (hR : Cq.right q = true) (htk : Ix.TOK L) I (hps : PS I q.ps p) (hx : wF I xv L) (hT : uD I) (hok : yI I most fs o) :
    jO Tryz.prog 36 [ptr sb 0, xv, .agg (kS q p c).toArray] I (uN sb most fs o) (fun e I' H' => ∃ r o', e = .returned (.tuple #[i64 ((fs.length : Int) + 1), i64 (r.length : Int), i64 0]) ∧ Ix.CY L q r ∧ yI I' most (fs ++ [r]) o' ∧ H' = uN sb most (fs ++ [r]) o') := by
  rcases o with _ | ⟨mb, m, k⟩
  · exact b1l sb xv L q p c most fs hsz hwd hmost hfl hok hR htk I hps hx hT
  exact a9i sb xv L q p c most fs hsz hwd mb m k hmost hfl hR htk I hps hx hT hok
theorem b3g xv q p c I : Pure Tryz.prog 36 [.pointer none, xv, .agg (kS q p c).toArray] I (.tuple #[i64 0, i64 0, i64 1]) := by
 refine jO.toPure ?_
 refine jT func36 fun w0 hw0 => ?_
 refine jL 3 ?_
 intro b1 hb1
 refine jL 22 ?_
 refine Ej.bare ?_
 refine Ej.a8r rfl rfl rfl rfl rfl ?_
 exact ⟨rfl, rfl⟩
theorem b3w n fr many I : Pure Tryz.prog 37 [.pointer none, i64 n, i64 fr, i64 many] I (.tuple #[.slice none 0 0, i64 32]) := by
 refine jO.toPure ?_
 refine jT func37 fun w0 hw0 => ?_
 refine jW ?_
 exact ⟨rfl, rfl⟩
theorem b0Z sb most fs n fr many (hfl : ∀ r, rF most fs n = some r → r.length ≤ 1000000) (hfs : fs = []) I (hsb : I sb = some (jM 82 [i64 most, i64 (fs.length : Int), .map none]))  :
    jO Tryz.prog 37 [ptr sb 0, i64 n, i64 fr, i64 many] I [] (fun e _ H' => ∃ w, e = .returned (.tuple #[w, i64 (rW most fs n fr many).2]) ∧ AL (rW most fs n fr many).1 w H') := by
 have hkn : rF most fs n = none := by rw [hfs]; exact a3n _ _
 refine jT func37 fun w0 hw0 => ?_
 refine jL 23 ?_
 refine J.z (a2G (kv := XU) (a := n) rfl rfl rfl rfl XB (mQ.int UY) zeroValue36) ?_
 refine kF ?_
 rw [TD hkn]
 exact ⟨_, rfl, xO⟩
theorem b1s sb most fs n fr many mb m k (hfl : ∀ r, rF most fs n = some r → r.length ≤ 1000000)  I (hsb : I sb = some (jM 82 [i64 most, i64 (fs.length : Int), .map (some mb)])) (hmb : I mb = some (kD XU m k)) (hok : sO I m k most fs) :
    jO Tryz.prog 37 [ptr sb 0, i64 n, i64 fr, i64 many] I [] (fun e _ H' => ∃ w, e = .returned (.tuple #[w, i64 (rW most fs n fr many).2]) ∧ AL (rW most fs n fr many).1 w H') := by

 refine jT func37 fun w0 hw0 => ?_
 refine jL 23 ?_
 rcases hkn : rF most fs n with _ | r
 ·have hg : kE m n = none := hok.2.1 n hkn
  refine J.z (ND (kv := XU) (l := m) (a := n) rfl rfl rfl rfl XB (mQ.int UY) zeroValue36 (jV.ET hmb)) ?_
  refine jL 3 ?_
  refine J.ev 22 (.bool false) rfl (by rw [hg]; rfl) ?_
  refine kF ?_
  rw [TD hkn]
  exact ⟨_, rfl, xO⟩
 obtain ⟨wr, hg, hrowt⟩ := hok.2.2 n r hkn
 have hrow := hrowt.row
 obtain ⟨pw, cw, rfl⟩ := kQ hrow
 have hrl := hfl r hkn
 have hcw : r.length ≤ cw := by obtain ⟨p9, c9, he9, hc9, _⟩ := hrow; cases he9; exact hc9
 refine J.z (ND (kv := XU) (l := m) (a := n) rfl rfl rfl rfl XB (mQ.int UY) zeroValue36 (jV.ET hmb)) ?_
 refine jL 2 ?_
 refine J.ev 21 (.slice pw r.length cw) rfl (by rw [hg]; rfl) ?_
 refine jL 1 ?_
 refine J.ev 22 (.bool true) rfl (by rw [hg]; rfl) ?_
 refine mV (fun hg4 hg4p => ?_) (fun hg4 hg4p => ?_)
 ·refine kF ?_
  rw [a5u hkn (.inl (mD hg4))]
  exact ⟨_, rfl, xO⟩
 refine jR (fun hc6 hc6p => ?_) (fun hc6 hc6p => ?_)
 ·refine kF ?_
  rw [a5u hkn (.inr (by have h := hc6; exact mD h))]
  exact ⟨_, rfl, xO⟩
 refine jL 4 ?_
 skip
 refine jL 5 ?_
 refine J.z (rJ rfl rfl rfl) ?_
 refine J.ev 37 (i64 ((min fr.toNat r.length) : Nat)) rfl (congrArg i64 (by omega)) ?_
 refine J.z (pW (j := (min fr.toNat r.length)) rfl rfl rfl mY kX rfl (Nat.min_le_right _ _) hcw) ?_
 refine J.ev 38 (.slice (yS pw cw (min fr.toNat r.length) 2) (r.drop (min fr.toNat r.length)).length (cw - (min fr.toNat r.length))) rfl (by rw [List.length_drop]) ?_
 refine jL 4 ?_
 have hrw1 : jU recC I (r.drop (min fr.toNat r.length)) (.slice (yS pw cw (min fr.toNat r.length) 2) (r.drop (min fr.toNat r.length)).length (cw - (min fr.toNat r.length))) := by rw [List.length_drop]; exact jU.from jZ hrow (Nat.min_le_right _ _)
 have hrw2 : jU recC I ((r.drop (min fr.toNat r.length)).take (min many.toNat (r.drop (min fr.toNat r.length)).length)) (.slice (yS pw cw (min fr.toNat r.length) 2) ((r.drop (min fr.toNat r.length)).take (min many.toNat (r.drop (min fr.toNat r.length)).length)).length (cw - (min fr.toNat r.length))) := by rw [List.length_take, Nat.min_eq_left (Nat.min_le_right _ _)]; exact jU.take hrw1 (Nat.min_le_right _ _)
 have hfin : (r.drop (min fr.toNat r.length)).take (min many.toNat (r.drop (min fr.toNat r.length)).length) = (r.drop fr.toNat).take many.toNat := by rw [b5Z, b4r]
 have hdl : (r.drop (min fr.toNat r.length)).length = r.length - (min fr.toNat r.length) := List.length_drop
 refine jL 5 ?_
 refine J.z (rJ rfl rfl rfl) ?_
 refine J.ev 43 (i64 ((min many.toNat (r.drop (min fr.toNat r.length)).length) : Nat)) rfl (congrArg i64 (by rw [List.length_drop]; omega)) ?_
 refine J.z (qB (k := (min many.toNat (r.drop (min fr.toNat r.length)).length)) rfl rfl rfl mY kX rfl (by rw [List.length_drop]; omega)) ?_
 refine J.ev 44 (.slice (yS pw cw (min fr.toNat r.length) 2) ((r.drop (min fr.toNat r.length)).take (min many.toNat (r.drop (min fr.toNat r.length)).length)).length (cw - (min fr.toNat r.length))) rfl (by rw [List.length_take, Nat.min_eq_left (Nat.min_le_right _ _)]) ?_
 refine kJ (a9X ((r.drop (min fr.toNat r.length)).take (min many.toNat (r.drop (min fr.toNat r.length)).length)) _ _ (by rw [List.length_take, List.length_drop]; omega) _ hrw2) ?_
 intro v7 I8 H9 hle10 hp11
 have hsb := hle10 _ _ hsb
 have hmb := hle10 _ _ hmb
 have hok := hok.mono hle10
 have hrow := hrow.mono hle10
 have hrw2 := hrw2.mono hle10
 obtain ⟨wa, h, hoa⟩ := hp11; cases h
 refine jW ?_
 rw [b5Y hkn (by omega), ← hfin, List.append_nil]
 exact ⟨_, rfl, hoa⟩
def b7t (I : Heap) (sb : Nat) (most : Int) (fs : List (List Ix.Rec)) : Prop := ∃ o, yI I most fs o ∧ ∀ p ∈ uN sb most fs o, I p.1 = some p.2
theorem a3X {most fs n r} (h : rF most fs n = some r) : r ∈ fs := by
  unfold rF at h
  split at h
  · exact lV h
  cases h
theorem b5f sb most fs n fr many (hfl : ∀ r ∈ fs, r.length ≤ 1000000) I (h : b7t I sb most fs) : jO Tryz.prog 37 [ptr sb 0, i64 n, i64 fr, i64 many] I [] (fun e _ H' => ∃ w, e = .returned (.tuple #[w, i64 (rW most fs n fr many).2]) ∧ AL (rW most fs n fr many).1 w H') := by
  obtain ⟨o, h1, h2⟩ := h
  rcases o with _ | ⟨mb, m, k⟩
  · exact b0Z sb most fs n fr many (fun r hr => hfl r (a3X hr)) h1 I (h2 _ (.head _))
  exact b1s sb most fs n fr many mb m k (fun r hr => hfl r (a3X hr)) I (h2 _ (.head _)) (h2 _ (.tail _ (.head _))) h1
end Go.Proofs.YtekmeaoblpfnpaaGreatDoor
end
namespace Go.Sx
open Go
section
variable {cx:Cx} {Q:Qt} {o:Oper} {e:Env} {I:Heap} {H:HL} {C:Ct} {S:World→Prop}
theorem a7D {T E d sz by' n m b c x y U pr xs sp ys yv z} R (ho : o.op = .call ⟨.builtin .append, #[x, y], #[T, U]⟩) (hd : o.dst = some d) (hn : Nat.blt d cx.n = true)
    (hx : ev e x = some (.slice (some ⟨b, pr.length, none⟩) n c)) (hy : ev e y = some yv) (hu : cx.P.underlying T = some (.slice E)) (hU : cx.P.underlying U = some .string ∨ ∃ E', cx.P.underlying U = some (.slice E'))
    (hi0 : (cx.P.info? E).map (·.bytes) = some (by' + 1)) (hsz : ∀ w, (sizeOf E).run cx.P w = .ok sz w) (hz : ∀ w, (zeroValue E).run cx.P w = .ok z w) (hzs : z.cells.size = sz)
    (hxl : xs.length = n * sz) (hcl : xs.length + sp.length = c * sz) (hH : H = R ++ [(b, jM E (pr ++ (xs ++ sp)))]) (hs : Src cx.P I H sz m yv ys) (hroom : (2 * (n + m) + 768) * (by' + 1) ≤ 281474976710656)
    (k : ∀ b' pr' c' sp', (b' = b ∨ cx.w0.heap.size ≤ b') → (xs ++ ys).length + sp'.length = c' * sz → C ((d, .slice (some ⟨b', List.length pr', none⟩) (n + m) c') :: e) I (R ++ [(b', jM E (pr' ++ ((xs ++ ys) ++ sp')))])) : lW cx Q o e I H C := by
  intro K hK a w ha hst
  obtain ⟨hs1, hs2, hs3, hs4⟩ := hs
  obtain ⟨i, hi, hby⟩ : ∃ i, cx.P.info? E = some i ∧ i.bytes = by' + 1 := by
    cases h : cx.P.info? E with
    | none => rw [h] at hi0; cases hi0
    | some i => rw [h] at hi0; exact ⟨i, rfl, by simpa using hi0⟩
  have hss := hst.ss
  unfold Oper.wp
  have key : ∃ w' b' pr' c' sp', (execOp a.eval o).run cx.P w = .ok (.value (.slice (some ⟨b', List.length pr', none⟩) (n + m) c')) w' ∧ (b' = b ∨ cx.w0.heap.size ≤ b') ∧ (xs ++ ys).length + List.length sp' = c' * sz ∧ St cx.w0 cx.D cx.I0 I (R ++ [(b', jM E (pr' ++ ((xs ++ ys) ++ sp')))]) w' := by
    have hti : ∀ w', (typeInfo E).run cx.P w' = .ok i w' := fun w' => by simp [typeInfo, hi]
    have pre : (execOp a.eval o).run cx.P w =
        ((Builtin.append_ #[T, U] o.type #[.slice (some ⟨b, pr.length, none⟩) n c, yv]).run cx.P w).andThen fun v w' => .ok (.value v) w' := by
      simp only [execOp, ho, resolve, invoke, builtin, Sem.run_bind, Sem.run_pure, Result.andThen_ok, List.map_toArray, List.map_cons, List.map_nil, ha.eval hx, ha.eval hy]
    have hmem : (b, jM E (pr ++ (xs ++ sp))) ∈ H := by rw [hH]; simp
    have hblk := hst.own _ hmem
    rw [pre]
    by_cases hfit : n + m ≤ c
    · have fits : (Builtin.append_ #[T, U] o.type #[.slice (some ⟨b, pr.length, none⟩) n c, yv]).run cx.P w =
          ((storeCells ((⟨b, pr.length, none⟩ : Addr).add (n * sz)) ys).run cx.P w).andThen fun _ w' => .ok (.slice (some ⟨b, pr.length, none⟩) (n + m) c) w' := by
        rcases hU with hU1 | ⟨E', hU1⟩ <;> simp [Builtin.append_, run_underlying hu, run_underlying hU1, hsz, hs3 w hss, hs4 w hss, hfit]
      rw [fits]
      have hle : ys.length ≤ sp.length := by
        have : (n + m) * sz ≤ c * sz := Nat.mul_le_mul_right sz hfit
        rw [Nat.add_mul] at this; omega
      have hspl : nX (pr ++ (xs ++ sp)) (pr.length + n * sz + 0) ys (pr ++ ((xs ++ ys) ++ sp.drop ys.length)) := by
        refine ⟨by simp only [List.length_append]; omega, ?_⟩
        have e1 : (pr ++ (xs ++ sp)).take (pr.length + n * sz) = pr ++ xs := by
          rw [← hxl, ← List.append_assoc, ← List.length_append, List.take_left' rfl]
        have e2 : (pr ++ (xs ++ sp)).drop (pr.length + n * sz + ys.length) = sp.drop ys.length := by
          rw [← hxl, ← List.append_assoc, ← List.length_append, ← List.drop_drop, List.drop_left' rfl]
        rw [Nat.add_zero, e1, e2]
        simp only [List.append_assoc]
      have hrun := pK (P := cx.P) (b := b) (off := pr.length + n * sz) (t := E) ys 0 w (pr ++ (xs ++ sp)) hblk (.inl rfl) (by simp only [List.length_append]; omega) (fun u hu => (List.all_eq_true.1 hs2) u hu) _ hspl
      refine ⟨World.block w b (.cells (pr ++ ((xs ++ ys) ++ sp.drop ys.length)).toArray E (0, 0)), b, pr, c, sp.drop ys.length, ?_, .inl rfl, ?_, ?_⟩
      · simp only [Result.andThen_ok, Addr.add_lit, hrun]
      · simp [hs1, hxl]; omega
      subst hH
      have hidx : (R ++ [(b, jM E (pr ++ (xs ++ sp)))])[R.length]? = some (b, jM E (pr ++ (xs ++ sp))) := by simp
      have hset : lK (R ++ [(b, jM E (pr ++ (xs ++ sp)))]) R.length (b, jM E (pr ++ ((xs ++ ys) ++ sp.drop ys.length))) (R ++ [(b, jM E (pr ++ ((xs ++ ys) ++ sp.drop ys.length)))]) := by
        refine ⟨by simp, ?_⟩
        rw [List.set_append_right _ _ (Nat.le_refl _)]
        simp
      exact hst.block hidx hset
    have hold : ∀ w', SS I H w' → (Builtin.firstCells sz n (.slice (some ⟨b, pr.length, none⟩) n c)).run cx.P w' = .ok xs.toArray w' := fun w' hw' =>
      xW (cs := pr ++ (xs ++ sp)) (hw'.2 _ hmem) (by rw [List.drop_left' rfl, ← hxl, List.take_left' rfl]) hxl
    have hc : c < n + m := by omega
    have hb1 : ¬ (2 ^ 48 < Builtin.nextslicecap (n + m) c * i.bytes) := by
      have := XY (n + m) c hc
      rw [hby]
      have h2 := Nat.mul_le_mul_right (by' + 1) this
      have h3 : (2 : Nat) ^ 48 = 281474976710656 := by decide
      omega
    have hb2 : ¬ i.bytes = 0 := by omega
    have hss1 : SS I H { w with drawn := w.drawn + 1 } := hss
    have grows : (Builtin.append_ #[T, U] o.type #[.slice (some ⟨b, pr.length, none⟩) n c, yv]).run cx.P w =
        let cap := (Question.appendCap (n + m) c E).cut (w.tape w.drawn (.appendCap (n + m) c E))
        .ok (.slice (some ⟨w.heap.size, 0, none⟩) (n + m) cap) { { w with drawn := w.drawn + 1 } with heap := w.heap.push (.cells (xs.toArray ++ ys.toArray ++ Builtin.zeroCells z.cells (cap - (n + m))) E (0, 0)) } := by
      rcases hU with hU1 | ⟨E', hU1⟩ <;> simp only [Builtin.append_, List.getElem?_toArray, List.getElem?_cons_zero, List.getElem?_cons_succ, Sem.run_bind, Sem.run_pure, run_underlying hu, run_underlying hU1, Result.andThen_ok, hsz, hs3 w hss, Bool.false_eq_true, if_false, Sem.run_ite, hfit, hti, hb1, hb2, false_or, and_false, gt_iff_lt, run_choose, Question.forced, run_askRoom, hold _ hss1, Bool.not_false, if_true, hs4 _ hss1, hz, newRow, run_newObj]
    rw [grows]
    let cap := (Question.appendCap (n + m) c E).cut (w.tape w.drawn (.appendCap (n + m) c E))
    refine ⟨{ { w with drawn := w.drawn + 1 } with heap := w.heap.push (.cells (xs.toArray ++ ys.toArray ++ Builtin.zeroCells z.cells (cap - (n + m))) E (0, 0)) }, w.heap.size, [], cap, (Builtin.zeroCells z.cells (cap - (n + m))).toList, ?_, .inr hst.size, ?_, ?_⟩
    · rfl
    · have hcap : n + m ≤ cap := by simp only [cap, Question.cut]; omega
      simp only [Builtin.zeroCells, Array.length_toList, Array.size_map, Array.size_range, List.length_append, hxl, hs1, hzs]
      rw [← Nat.add_mul, ← Nat.add_mul]
      congr 1; omega
    have h0 := (hst.drewN (w.drawn + 1)).alloc (.cells (xs.toArray ++ ys.toArray ++ Builtin.zeroCells z.cells (cap - (n + m))) E (0, 0))
    have hcell : (Obj.cells (xs.toArray ++ ys.toArray ++ Builtin.zeroCells z.cells (cap - (n + m))) E (0, 0)) = jM E ([] ++ ((xs ++ ys) ++ (Builtin.zeroCells z.cells (cap - (n + m))).toList)) := by
      simp [jM]
    rw [hcell] at h0 ⊢
    subst hH
    have h1 := h0.sublist (H' := (w.heap.size, jM E ([] ++ ((xs ++ ys) ++ (Builtin.zeroCells z.cells (cap - (n + m))).toList))) :: R) (List.Sublist.cons_cons _ (List.sublist_append_left _ _))
    refine h1.perm ?_
    exact List.perm_append_comm
  obtain ⟨w', b', pr', c', sp', h1, h2, h3, h4⟩ := key
  rw [h1]
  simp only [Oper.upon, hd]
  exact hK _ _ _ (k b' pr' c' sp' h2 h3) _ _ (ha.put hn) h4
end
end Go.Sx
section
namespace Go.Proofs.YtekmeaoblpfnpaaGreatDoor
open _root_.Go.Proofs.Tryz
open Go Go.Sx
def QH (fs : List (List Ix.Rec)) : List (Int × List Ix.Rec) := fs.zipIdx.map fun p => ((p.2 : Int) + 1, p.1)
theorem NC fs : (QH fs).length = fs.length := by unfold QH; rw [List.length_map, List.length_zipIdx]
theorem a2g fs r : QH (fs ++ [r]) = QH fs ++ [((fs.length : Int) + 1, r)] := by
  unfold QH
  rw [List.zipIdx_append, List.map_append]
  simp
def vT (most : Int) (fs : List (List Ix.Rec)) : List (Int × List Ix.Rec) := (QH fs).drop (fs.length - (max most 1).toNat)
theorem a9d most : vT most [] = [] := by unfold vT QH; simp
theorem a9Q {most fs r} (h : ¬ (max most 1 < ((vT most fs).length : Int) + 1)) : vT most (fs ++ [r]) = vT most fs ++ [((fs.length : Int) + 1, r)] := by
  unfold vT at h ⊢
  rw [List.length_drop, NC] at h
  rw [a2g, List.length_append, List.length_singleton, show fs.length + 1 - (max most 1).toNat = 0 by omega, show fs.length - (max most 1).toNat = 0 by omega, List.drop_zero, List.drop_zero]
theorem a9H {most fs r} (h : max most 1 < ((vT most fs).length : Int) + 1) : vT most (fs ++ [r]) = (vT most fs ++ [((fs.length : Int) + 1, r)]).drop 1 := by
  unfold vT at h ⊢
  rw [List.length_drop, NC] at h
  have hk : fs.length - (max most 1).toNat ≤ (QH fs).length := by rw [NC]; omega
  rw [a2g, List.length_append, List.length_singleton, ← List.drop_append_of_le_length hk, List.drop_drop]
  congr 1; omega
structure RS where
  n : Int
  l : List Ix.Rec
  v : Value
abbrev CQ (x : RS) : List Value := [i64 x.n, x.v]
theorem IK x : (CQ x).length = 2 := rfl
abbrev rsP (x : RS) : Int × List Ix.Rec := (x.n, x.l)
def vW (I : Heap) (most : Int) (fs : List (List Ix.Rec)) (ks : List RS) : Prop := ks.map rsP = vT most fs ∧ ∀ x ∈ ks, jU recC I x.l x.v
theorem vW.mono {I I' most fs ks} (h : vW I most fs ks) (hle : Le I I') : vW I' most fs ks := ⟨h.1, fun x hx => (h.2 x hx).mono hle⟩
abbrev Ro := Option (Nat × List Value × Nat × List Value)
def rsV (n : Nat) : Ro → Value
  | none => .slice none 0 0
  | some (b, pr, c, _) => .slice (some ⟨b, pr.length, none⟩) n c
def rsO (ks : List RS) : Ro → HL
  | none => []
  | some (b, pr, _, sp) => [(b, jM 163 (pr ++ (ks.flatMap CQ ++ sp)))]
def a3G (ks : List RS) : Ro → Prop
  | none => ks = []
  | some (_, _, c, sp) => (ks.flatMap CQ).length + sp.length = c * 2
def KI (sb : Nat) (most : Int) (fs : List (List Ix.Rec)) (ks : List RS) (o : Ro) : HL := (sb, jM 161 [i64 most, i64 (fs.length : Int), rsV ks.length o]) :: rsO ks o
theorem vW.all {I most fs ks r w} (h : vW I most fs ks) (hr : jU recC I r w) (hc : ¬ (max most 1 < (ks.length : Int) + 1)) : vW I most (fs ++ [r]) (ks ++ [⟨(fs.length : Int) + 1, r, w⟩]) := by
  have hl : (vT most fs).length = ks.length := by rw [← h.1, List.length_map]
  refine ⟨by rw [List.map_append, h.1, a9Q (by rw [hl]; exact hc)]; rfl, fun x hx => ?_⟩
  rcases List.mem_append.1 hx with g | g
  · exact h.2 x g
  rw [List.mem_singleton.1 g]; exact hr
theorem vW.cut {I most fs ks kt r w x0} (h : vW I most fs ks) (hr : jU recC I r w) (hc : max most 1 < (ks.length : Int) + 1) (he : ks ++ [⟨(fs.length : Int) + 1, r, w⟩] = x0 :: kt) : vW I most (fs ++ [r]) kt := by
  have hl : (vT most fs).length = ks.length := by rw [← h.1, List.length_map]
  refine ⟨?_, fun x hx => ?_⟩
  · have h1 := congrArg (List.map rsP) he
    rw [List.map_append, h.1] at h1
    rw [a9H (by rw [hl]; exact hc)]
    have h2 := congrArg (List.drop 1) h1
    exact h2.symm
  have hm : x ∈ ks ++ [⟨(fs.length : Int) + 1, r, w⟩] := by rw [he]; exact .tail _ hx
  rcases List.mem_append.1 hm with g | g
  · exact h.2 x g
  rw [List.mem_singleton.1 g]; exact hr
theorem NJ ks x : (ks ++ [x]).flatMap CQ = ks.flatMap CQ ++ CQ x := by simp
theorem b5d b n c (hc : c ≠ 1) : yS (some ⟨b, n, none⟩) c 1 2 = some ⟨b, n + 2, none⟩ := by unfold yS; rw [if_neg hc]; rfl
theorem b5l most I : jO Tryz.prog 38 [i64 most] I [] (fun e _ H' => ∃ sb, e = .returned (ptr sb 0) ∧ H' = KI sb most [] [] none) := by
 refine jT func38 fun w0 hw0 => ?_
 refine Cj.sr (J.as ?_)
 refine J.yB (J.z q1 ?_)
 refine J.z (jX (pl := #[(0, 1), (1, 1), (2, 1)]) rfl rfl zeroValue161 rfl GK (fun w => by simp [sizeOf159, oL]) (pX.part rfl rfl rfl (nX.c nX.z) pX.none)) ?_
 refine J.op rfl (qY rfl rfl rfl rfl rfl ?_)
 intro b1 hb1
 refine J.as ?_
 refine J.ns (Cj.ret ?_)
 refine Ej.KN rfl rfl rfl ?_
 exact ⟨b1, rfl, rfl⟩
theorem a7w sb rb es q p c (hsz : q.size ≤ 1000000) (hwd : q.wide ≤ 10000000) most fs ks (hmost : most ≤ 9223372036854775807) (hfl : fs.length ≤ 1000000) (hkl : ks.length ≤ 1000000) (hks : ks = []) (hR : Cq.right q = true) (hfew : Ix.Few (es.map jQ)) (htk : Ix.TOK (es.map jQ)) I (hps : PS I q.ps p) (hx : yE I rb es) (hok : vW I most fs ks) :
    jO Tryz.prog 39 [ptr sb 0, ptr rb 0, .agg (kS q p c).toArray] I (KI sb most fs ks none) (fun e I' H' => ∃ r ks' o', e = .returned (.tuple #[i64 ((fs.length : Int) + 1), i64 (r.length : Int), i64 0]) ∧ Ix.CY (es.map jQ) q r ∧ vW I' most (fs ++ [r]) ks' ∧ a3G ks' o' ∧ H' = KI sb most (fs ++ [r]) ks' o') := by
 subst hks
 refine jO.perm (H1 := [(sb, jM 161 [i64 most, i64 (fs.length : Int), .slice none 0 0])]) (.refl _) ?_
 refine jT func39 fun w0 hw0 => ?_
 refine jL 3 ?_
 intro b1 hb1
 refine kJ (a7n rb es q p c hsz hwd hR hfew htk _ hps hx) ?_
 intro v2 I3 H4 hle5 hp6
 have hps := hps.mono hle5
 have hx := hx.mono hle5
 have hok := hok.mono hle5
 obtain ⟨va, ra, h, hruna, hra, rfl⟩ := hp6; cases h
 obtain ⟨pa, ca, rfl⟩ := kQ hra
 refine jL 30 ?_
 refine Cj.qC [0, 1] [] 15 (by kernel_rfl) ?_
 refine JA.fix lF (fun fx8 => ?_)
 refine JA.tk 0 rfl fx8 q1 ?_
 refine JA.tk 1 rfl fx8 q1 ?_
 refine JA.tk 2 rfl fx8 (mG rfl rfl) ?_
 refine JA.tk 3 rfl fx8 (q2 (off' := 2) GK sizeOf159) ?_
 refine JA.tk 4 rfl fx8 (q4 isAgg159 (jV.atC 1 rfl)) ?_
 refine JA.tk 5 rfl fx8 q1 ?_
 refine JA.tk 6 rfl fx8 (mG rfl rfl) ?_
 refine JA.tk 7 rfl fx8 (q2 (off' := 1) GK oL) ?_
 refine JA.tk 8 rfl fx8 (q4 JR (jV.atC 1 rfl)) ?_
 refine JA.tk 9 rfl fx8 q1 ?_
 refine JA.tk 10 rfl fx8 (jX (pl := #[(0, 1), (1, 1)]) rfl rfl TM rfl underlying163 (fun w => by simp [oL, sizeOf36]) (pX.part rfl rfl rfl (nX.c nX.z) (pX.part rfl rfl rfl (nX.s (nX.c nX.z)) pX.none))) ?_
 refine q0 11 rfl (q6 FN sizeOf163 TM (vV.agg rfl vV.none) ?_)
 intro b9 hb9
 refine ⟨⟨(Le.refl _), (HSub.c 1 rfl (HSub.c 2 rfl HSub.n)), CSub.n⟩, ?_⟩
 refine q0 12 rfl (kK (by' := 31) (n := 0) (g := none) (xs := []) (ys := CQ (⟨((fs.length : Int) + 1), ra, .slice pa ra.length ca⟩ : RS)) [_, _, _] rfl rfl rfl rfl rfl FN (.inr ⟨_, FN⟩) (by kernel_rfl) sizeOf163 TM rfl ⟨rfl, rfl⟩ (List.append_nil _).symm (Src.slice (jV.at 0 rfl) rfl rfl rfl) (by omega) ?_)
 intro g9 hg9
 obtain ⟨nb, nc, nsp, rfl, _⟩ := hg9.some (by decide)
 have hncl := hg9.2.2
 refine jL 3 ?_
 refine JA.last 15 (by kernel_rfl) rfl rfl rfl (q5 2 sizeOf159 (nX.s (nX.s (nX.c nX.z))) (lK.s (lK.s lK.z)) ?_)
 refine jL 4 ?_
 refine Cj.qC [0, 1, 2, 3] [] 11 (by kernel_rfl) ?_
 refine JA.fix lF (fun fx11 => ?_)
 refine JA.tk 0 rfl fx11 q1 ?_
 refine JA.tk 1 rfl fx11 (mG rfl rfl) ?_
 refine JA.tk 2 rfl fx11 (q2 (off' := 2) GK sizeOf159) ?_
 refine JA.tk 3 rfl fx11 (q4 isAgg159 (jV.atC 2 rfl)) ?_
 refine JA.tk 4 rfl fx11 (rY rfl rfl FN) ?_
 refine JA.tk 5 rfl fx11 q1 ?_
 refine JA.tk 6 rfl fx11 (mG rfl rfl) ?_
 refine JA.tk 7 rfl fx11 (q2 (off' := 0) GK oL) ?_
 refine JA.tk 8 rfl fx11 (q4 JR (jV.atC 2 rfl)) ?_
 refine JA.tk 9 rfl fx11 (rO rfl rfl rfl) ?_
 refine jL 3 ?_
 refine Cj.cond rfl (fun hc12 => Bool.noConfusion (Eq.trans (Eq.symm (decide_eq_false (by omega))) hc12)) (fun hc12 => ?_)
 refine jL 16 ?_
 refine Ej.keep (Keeps.d (Keeps.d (Keeps.k (Keeps.k Keeps.n)))) ?_
 refine Ej.a8r rfl rfl rfl rfl rfl ?_
 exact ⟨ra, [(⟨((fs.length : Int) + 1), ra, .slice pa ra.length ca⟩ : RS)], some (nb, [], nc, nsp), rfl, hruna, by have h9 := vW.all hok hra (by rw [List.length_nil]; omega); exact h9, hncl, by unfold KI; rw [List.length_append]; rfl⟩
theorem a7P sb rb es q p c (hsz : q.size ≤ 1000000) (hwd : q.wide ≤ 10000000) most fs ks lb pr lc sp (hmost : most ≤ 9223372036854775807) (hfl : fs.length ≤ 1000000) (hkl : ks.length ≤ 1000000) (hcl : (ks.flatMap CQ).length + sp.length = lc * 2) (hR : Cq.right q = true) (hfew : Ix.Few (es.map jQ)) (htk : Ix.TOK (es.map jQ)) I (hps : PS I q.ps p) (hx : yE I rb es) (hok : vW I most fs ks) :
    jO Tryz.prog 39 [ptr sb 0, ptr rb 0, .agg (kS q p c).toArray] I (KI sb most fs ks (some (lb, pr, lc, sp))) (fun e I' H' => ∃ r ks' o', e = .returned (.tuple #[i64 ((fs.length : Int) + 1), i64 (r.length : Int), i64 0]) ∧ Ix.CY (es.map jQ) q r ∧ vW I' most (fs ++ [r]) ks' ∧ a3G ks' o' ∧ H' = KI sb most (fs ++ [r]) ks' o') := by
 refine jO.perm (H1 := [(sb, jM 161 [i64 most, i64 (fs.length : Int), .slice (some ⟨lb, pr.length, none⟩) ks.length lc]), (lb, jM 163 (pr ++ (ks.flatMap CQ ++ sp)))]) (.refl _) ?_
 refine jT func39 fun w0 hw0 => ?_
 refine jL 3 ?_
 intro b1 hb1
 refine kJ (a7n rb es q p c hsz hwd hR hfew htk _ hps hx) ?_
 intro v2 I3 H4 hle5 hp6
 have hps := hps.mono hle5
 have hx := hx.mono hle5
 have hok := hok.mono hle5
 obtain ⟨va, ra, h, hruna, hra, rfl⟩ := hp6; cases h
 obtain ⟨pa, ca, rfl⟩ := kQ hra
 refine jL 30 ?_
 refine Cj.qC [0, 1] [] 15 (by kernel_rfl) ?_
 refine JA.fix lF (fun fx8 => ?_)
 refine JA.tk 0 rfl fx8 q1 ?_
 refine JA.tk 1 rfl fx8 q1 ?_
 refine JA.tk 2 rfl fx8 (mG rfl rfl) ?_
 refine JA.tk 3 rfl fx8 (q2 (off' := 2) GK sizeOf159) ?_
 refine JA.tk 4 rfl fx8 (q4 isAgg159 (jV.atC 1 rfl)) ?_
 refine JA.tk 5 rfl fx8 q1 ?_
 refine JA.tk 6 rfl fx8 (mG rfl rfl) ?_
 refine JA.tk 7 rfl fx8 (q2 (off' := 1) GK oL) ?_
 refine JA.tk 8 rfl fx8 (q4 JR (jV.atC 1 rfl)) ?_
 refine JA.tk 9 rfl fx8 q1 ?_
 refine JA.tk 10 rfl fx8 (jX (pl := #[(0, 1), (1, 1)]) rfl rfl TM rfl underlying163 (fun w => by simp [oL, sizeOf36]) (pX.part rfl rfl rfl (nX.c nX.z) (pX.part rfl rfl rfl (nX.s (nX.c nX.z)) pX.none))) ?_
 refine q0 11 rfl (q6 FN sizeOf163 TM (vV.agg rfl vV.none) ?_)
 intro b9 hb9
 refine ⟨⟨(Le.refl _), (HSub.c 1 rfl (HSub.c 2 rfl HSub.n)), CSub.n⟩, ?_⟩
 refine JA.pull (Pull.s (Pull.s Pull.z)) ?_
 refine JA.pull (Pull.s (Pull.s Pull.z)) ?_
 refine JA.pull (Pull.s (Pull.s Pull.z)) ?_
 refine q0 12 rfl (a7D (by' := 31) (pr := pr) (xs := ks.flatMap CQ) (sp := sp) (ys := CQ (⟨((fs.length : Int) + 1), ra, .slice pa ra.length ca⟩ : RS)) [_, _, _] rfl rfl rfl rfl rfl FN (.inr ⟨_, FN⟩) (by kernel_rfl) sizeOf163 TM rfl (lQ IK ks) hcl rfl (Src.slice (jV.at 0 rfl) rfl rfl rfl) (by omega) ?_)
 intro nb npr nc nsp _ hncl
 refine jL 3 ?_
 refine JA.last 15 (by kernel_rfl) rfl rfl rfl (q5 2 sizeOf159 (nX.s (nX.s (nX.c nX.z))) (lK.s (lK.s lK.z)) ?_)
 refine jL 4 ?_
 refine Cj.qC [0, 1, 2, 3] [] 11 (by kernel_rfl) ?_
 refine JA.fix lF (fun fx11 => ?_)
 refine JA.tk 0 rfl fx11 q1 ?_
 refine JA.tk 1 rfl fx11 (mG rfl rfl) ?_
 refine JA.tk 2 rfl fx11 (q2 (off' := 2) GK sizeOf159) ?_
 refine JA.tk 3 rfl fx11 (q4 isAgg159 (jV.atC 2 rfl)) ?_
 refine JA.tk 4 rfl fx11 (rY rfl rfl FN) ?_
 refine JA.tk 5 rfl fx11 q1 ?_
 refine JA.tk 6 rfl fx11 (mG rfl rfl) ?_
 refine JA.tk 7 rfl fx11 (q2 (off' := 0) GK oL) ?_
 refine JA.tk 8 rfl fx11 (q4 JR (jV.atC 2 rfl)) ?_
 refine JA.tk 9 rfl fx11 (rO rfl rfl rfl) ?_
 refine jR (fun hc12 hc12p => ?_) (fun hc12 hc12p => ?_)
 ·have hover : max most 1 < (ks.length : Int) + 1 := by have h := mD hc12; omega
  obtain ⟨x0, kt, hcons⟩ : ∃ x0 kt, ks ++ [(⟨((fs.length : Int) + 1), ra, .slice pa ra.length ca⟩ : RS)] = x0 :: kt := by cases ks with | nil => exact ⟨_, _, rfl⟩ | cons a r => exact ⟨_, _, rfl⟩
  have hktl : kt.length = ks.length := by have h := congrArg List.length hcons; rw [List.length_append] at h; simp only [List.length_cons, List.length_nil] at h; omega
  have hnc : ks.length + 1 ≤ nc := by have h9 := lQ IK ks; rw [List.length_append, h9, IK] at hncl; omega
  have hks1 : 1 ≤ ks.length := by omega
  refine jL 6 ?_
  refine J.z (pW (j := 1) rfl rfl rfl FN sizeOf163 rfl (by omega) hnc) ?_
  refine J.ev 58 (.slice (some ⟨nb, (npr ++ CQ x0).length, none⟩) kt.length (nc - 1)) rfl (by rw [b5d _ _ _ (by omega), List.length_append, hktl]; rfl) ?_
  refine jL 19 ?_
  refine Ej.keep (Keeps.d (Keeps.d (Keeps.k (Keeps.k Keeps.n)))) ?_
  refine Ej.a8r rfl rfl rfl rfl rfl ?_
  exact ⟨ra, kt, some (nb, npr ++ CQ x0, nc - 1, nsp), rfl, hruna, hok.cut hra hover hcons, by show _ = (nc - 1) * 2; have h9 := lQ IK kt; have h8 := lQ IK (x0 :: kt); rw [← NJ, hcons] at hncl; rw [List.length_cons] at h8; omega, by unfold KI rsO rsV; rw [← NJ, hcons]; simp only [List.flatMap_cons, List.append_assoc, List.length_append]; rfl⟩
 have hover : ¬ (max most 1 < (ks.length : Int) + 1) := by have h := nI hc12; omega
 refine jL 16 ?_
 refine Ej.keep (Keeps.d (Keeps.d (Keeps.k (Keeps.k Keeps.n)))) ?_
 refine Ej.a8r rfl rfl rfl rfl rfl ?_
 exact ⟨ra, ks ++ [(⟨((fs.length : Int) + 1), ra, .slice pa ra.length ca⟩ : RS)], some (nb, npr, nc, nsp), rfl, hruna, hok.all hra hover, by show _ = _; rw [NJ]; exact hncl, by unfold KI rsO rsV; rw [List.length_append, List.length_append, NJ]; rfl⟩
theorem b3G sb rb es q p c (hsz : q.size ≤ 1000000) (hwd : q.wide ≤ 10000000) most fs ks o (hmost : most ≤ 9223372036854775807) (hfl : fs.length ≤ 1000000) (hkl : ks.length ≤ 1000000) (hR : Cq.right q = true) (hfew : Ix.Few (es.map jQ)) (htk : Ix.TOK (es.map jQ)) I (hps : PS I q.ps p) (hx : yE I rb es) (hok : vW I most fs ks) (ho : a3G ks o) :
    jO Tryz.prog 39 [ptr sb 0, ptr rb 0, .agg (kS q p c).toArray] I (KI sb most fs ks o) (fun e I' H' => ∃ r ks' o', e = .returned (.tuple #[i64 ((fs.length : Int) + 1), i64 (r.length : Int), i64 0]) ∧ Ix.CY (es.map jQ) q r ∧ vW I' most (fs ++ [r]) ks' ∧ a3G ks' o' ∧ H' = KI sb most (fs ++ [r]) ks' o') := by
  rcases o with _ | ⟨lb, pr, lc, sp⟩
  · exact a7w sb rb es q p c hsz hwd most fs ks hmost hfl hkl ho hR hfew htk I hps hx hok
  exact a7P sb rb es q p c hsz hwd most fs ks lb pr lc sp hmost hfl hkl ho hR hfew htk I hps hx hok
end Go.Proofs.YtekmeaoblpfnpaaGreatDoor
end
section
namespace Go.Proofs.YtekmeaoblpfnpaaGreatDoor
open Go Go.Sx
theorem OA {α : Type} (A G G' : List α) : ((A ++ G) ++ G').Perm ((A ++ G') ++ G) := by
  rw [List.append_assoc, List.append_assoc]
  exact List.Perm.append_left A List.perm_append_comm
theorem b1Q sb most fs o n fr many (hfl : ∀ r ∈ fs, r.length ≤ 1000000) I (hok : yI I most fs o) : jO Tryz.prog 37 [ptr sb 0, i64 n, i64 fr, i64 many] I (uN sb most fs o) (fun e _ H' => (∃ w, e = .returned (.tuple #[w, i64 (rW most fs n fr many).2])) ∧ H' = uN sb most fs o) :=
  jO.QK (Enters.of Tryz.func37 (by decide) rfl) fun hn hd =>
    jO.leave (jO.borrow (b5f sb most fs n fr many hfl _ ⟨o, hok.mono (XE hd), CU hn⟩)) fun _ _ _ _ ⟨_, K, ⟨w, h1, _⟩, h3, _⟩ => ⟨_, K, by rw [h3], ⟨w, h1⟩, rfl⟩
theorem b2r {most fs n} (hm : most ≤ 1) (hn : n < (fs.length : Int)) fr many : rW most fs n fr many = ([], 32) := by
  refine TD ?_ _ _
  unfold rF
  rw [if_neg (by omega)]
structure NlS where
  k : Nat
  J : Heap
  fs : List (List Ix.Rec)
  o : So
  ks : List RS
  ro : Ro
theorem a5l l w xs v (hao : ZW xs) (hll : l.length ≤ 1000000000000) I (hT : uD I) (hA : PE I xs v) (hl : ZX I l w) : Pure Tryz.prog 8 [w, v] I (.bool true) := by
 refine jO.toPure ?_
 have hp20 := b2x xs
 refine jT Tryz.func8 fun w0 hw0 => ?_
 refine kC (a9V _ hT) ?_
 refine rU (b1w xs _ hao _ hA) ?_
 intro v2 I3 H4 hle5 hn1 hp6
 have hA := hA.mono hle5
 have hT := hT.mono hle5
 have hl := hl.mono hle5
 obtain ⟨ib, o, rb, es, w, h, hok, hE, hL, hek, hel, rfl⟩ := hp6; cases h
 refine J.persists ((rb, _) :: QU ib o) hn1 (fun Ip hlep hK => ?_)
 have hA := hA.mono hlep
 have hT := hT.mono hlep
 have hl := hl.mono hlep
 have hx : zX Ip ib (Ix.play (acts xs)) := ⟨o, hok.mono hlep, fun p hp => hK p (.tail _ hp)⟩
 have hy : yE Ip rb es := yE.of (hK (rb, _) (.head _)) (hE.mono hlep) (by omega) hek (hL ▸ Ix.b1W _)
 clear hok hE hK
 refine kJ (b0h _ l hll _ hl) ?_
 intro v7 I8 H9 hle10 hp11
 have hA := hA.mono hle10
 have hT := hT.mono hle10
 have hl := hl.mono hle10
 have hx := hx.mono hle10
 have hy := hy.mono hle10
 obtain ⟨⟨q, v7x, hv7, ⟨pq, cq, rfl, hq⟩, hm⟩, rfl⟩ := hp11; cases hv7
 have hmd := hm.depth
 have hms := hm.size
 have hmw := hm.wide
 refine jL 1 ?_
 intro b12 hb12
 refine rU (DT (.pointer none) ([] : Ix.Ix) (q) pq cq (by omega) (by omega) hm.right (fun e he => by cases he) _ hq (.inl ⟨rfl, rfl⟩) hT) ?_
 intro v14 I15 H16 hle17 hn13 hp18
 have hA := hA.mono hle17
 have hT := hT.mono hle17
 have hl := hl.mono hle17
 have hx := hx.mono hle17
 have hy := hy.mono hle17
 have hq := hq.mono hle17
 obtain ⟨wa, ra, h, hruna, hoa⟩ := hp18; cases h
 refine J.FH hoa hn13 (fun Ia hlea hra => ?_)
 have hA := hA.mono hlea
 have hT := hT.mono hlea
 have hl := hl.mono hlea
 have hx := hx.mono hlea
 have hy := hy.mono hlea
 have hq := hq.mono hlea
 replace hra := hra.row
 obtain ⟨pa, ca, rfl⟩ := kQ hra
 refine jL 8 ?_
 have hra0 : ra.length = 0 := Nat.le_zero.1 hruna.len
 refine kC (b3g (ptr ib 0) q pq cq _) ?_
 refine kC (b3w 1 0 5 _) ?_
 refine jL 9 ?_
 refine J.z (jX (pl := #[(0, 1), (1, 1), (2, 1)]) rfl rfl Tryz.zeroValue82 rfl Tryz.underlying82 (fun w => by simp [oL, Tryz.sizeOf80]) pX.none) ?_
 refine jL 1 ?_
 intro b19 hb19
 refine jL 4 ?_
 refine Cj.perm (H' := [_] ++ uN b19 0 [] none) List.perm_append_comm ?_
 refine kJ (b5l 1 _) ?_
 intro v20 I21 H22 hle23 hp24
 have hA := hA.mono hle23
 have hT := hT.mono hle23
 have hl := hl.mono hle23
 have hx := hx.mono hle23
 have hy := hy.mono hle23
 have hq := hq.mono hle23
 have hra := hra.mono hle23
 obtain ⟨rsb, h, rfl⟩ := hp24; cases h
 refine J.perm (H' := [_] ++ uN b19 0 [] none ++ KI rsb 1 [] [] none) List.perm_append_comm ?_
 refine jL 10 ?_
 refine Cj.loop (ι := NlS) (fun y => y.k ≤ 3 ∧ Le I21 y.J ∧ y.fs.length = y.k ∧ yI y.J 0 y.fs y.o ∧ vW y.J 1 y.fs y.ks ∧ a3G y.ks y.ro ∧ ∀ r ∈ y.fs, r.length ≤ 1000000) (fun y => 3 - y.k) (fun y => [(5, .bool true), (6, ptr ib 0), (7, ptr rb 0), (8, ptr b12 0), (9, .slice pa ra.length ca), (10, i64 0), (12, i64 0), (13, i64 0), (14, i64 1), (15, .slice none 0 0), (16, i64 32), (17, ptr b19 0), (18, ptr rsb 0), (19, i64 (y.k : Int))]) (fun y => y.J) (fun y => [(b12, jM 32 (kS q pq cq))] ++ uN b19 0 y.fs y.o ++ KI rsb 1 y.fs y.ks y.ro) ⟨0, _, [], none, [], none⟩ ⟨Nat.zero_le _, Le.refl _, rfl, rfl, ⟨(a9d 1).symm, fun _ h => by cases h⟩, rfl, fun _ h => by cases h⟩ ⟨rfl, rfl, rfl, rfl, rfl, rfl, rfl, rfl, rfl, rfl, rfl, rfl, rfl, rfl, trivial⟩ rfl rfl ?_
 rintro ⟨k, J1, fs, o, ks, ro⟩ ⟨hk, hIJ, hfl, hok, hrk, hro, hbig⟩
 dsimp only at hk hIJ hfl hok hrk hro hbig ⊢
 have hx := hx.mono hIJ
 have hy := hy.mono hIJ
 have hq := hq.mono hIJ
 have hT := hT.mono hIJ
 refine jR (fun hc25 hc25p => ?_) (fun hc25 hc25p => ?_)
 ·have hk3 : k < 3 := by omega
  have hkl : ks.length ≤ 1000000 := by have h1 := congrArg List.length hrk.1; unfold vT at h1; rw [List.length_map, List.length_drop, NC] at h1; omega
  refine jL 9 ?_
  refine J.perm (OA [_] _ _) ?_
  refine DY ([_] ++ KI rsb 1 fs ks ro) (b5H b19 (ptr ib 0) (Ix.play (acts xs)) q pq cq 0 fs (by omega) (by omega) o (by decide) (by omega) hm.right (a6n (Ix.b4a _)) _ hq (.inr ⟨ib, rfl, hx⟩) hT hok) ?_
  intro v26 I27 H28 hle29 hp30
  have hIJ := hIJ.mono hle29
  have hx := hx.mono hle29
  have hy := hy.mono hle29
  have hq := hq.mono hle29
  have hT := hT.mono hle29
  have hok := hok.mono hle29
  have hrk := hrk.mono hle29
  obtain ⟨r2, o2, h, hrun2, hok2, rfl⟩ := hp30; cases h
  refine jL 2 ?_
  refine J.ev 66 (i64 ((k : Int) + 1)) rfl (by rw [hfl]) ?_
  refine jL 12 ?_
  refine J.perm (OA [_] _ _) ?_
  refine DY ([_] ++ uN b19 0 (fs ++ [r2]) o2) (b3G rsb rb es q pq cq (by omega) (by omega) 1 fs ks ro (by decide) (by omega) hkl hm.right (by rw [hL]; exact Ix.b4a _) (by rw [hL]; exact a6n (Ix.b4a _)) _ hq hy hrk hro) ?_
  intro v31 I32 H33 hle34 hp35
  have hIJ := hIJ.mono hle34
  have hx := hx.mono hle34
  have hy := hy.mono hle34
  have hq := hq.mono hle34
  have hT := hT.mono hle34
  have hok := hok.mono hle34
  have hrk := hrk.mono hle34
  have hok2 := hok2.mono hle34
  obtain ⟨r3, ks2, ro2, h, hrun3, hrk2, hro2, rfl⟩ := hp35; cases h
  rw [hL] at hrun3
  obtain rfl : r2 = r3 := hrun2.eq hrun3
  refine jL 2 ?_
  refine J.ev 74 (i64 ((k : Int) + 1)) rfl (by rw [hfl]) ?_
  refine jL 11 ?_
  have hbig2 : ∀ r ∈ fs ++ [r2], r.length ≤ 1000000 := fun r hr => (List.mem_append.1 hr).elim (hbig r) fun g => by rw [List.mem_singleton.1 g]; exact nO hrun2.len (by omega)
  refine J.perm (OA [_] _ _) ?_
  refine DY ([_] ++ KI rsb 1 (fs ++ [r2]) ks2 ro2) (b1Q b19 0 (fs ++ [r2]) o2 (k : Int) 0 9 hbig2 _ hok2) ?_
  intro v36 I37 H38 hle39 hp40
  have hIJ := hIJ.mono hle39
  have hx := hx.mono hle39
  have hy := hy.mono hle39
  have hq := hq.mono hle39
  have hT := hT.mono hle39
  have hok := hok.mono hle39
  have hrk := hrk.mono hle39
  have hok2 := hok2.mono hle39
  have hrk2 := hrk2.mono hle39
  obtain ⟨⟨wp, h⟩, rfl⟩ := hp40; cases h
  refine jL 3 ?_
  refine J.ev 82 (i64 32) rfl (congrArg (fun x => i64 x) (congrArg Prod.snd (b2r (by decide) (by rw [List.length_append, hfl]; simp only [List.length_cons, List.length_nil]; omega) 0 9))) ?_
  refine jL 10 ?_
  refine J.LM 3 86 false _ rfl rfl rfl (bne_self_eq_false _) (lC q1 rfl rfl ?_)
  refine J.LM 3 86 false _ rfl rfl rfl (bne_self_eq_false _) (lC q1 rfl rfl ?_)
  refine J.LM 3 86 false _ rfl rfl rfl (bne_self_eq_false _) (lC (a3H rfl rfl rfl) rfl rfl ?_)
  refine J.z (NT rfl rfl (bne_self_eq_false _) rfl) ?_
  refine jL 1 ?_
  refine J.LM 8 91 false _ rfl rfl rfl (bne_self_eq_false _) (lC q1 rfl rfl ?_)
  refine J.LM 8 91 false _ rfl rfl rfl (bne_self_eq_false _) (lC q1 rfl rfl ?_)
  refine J.LM 8 91 false _ rfl rfl rfl (bne_self_eq_false _) (lC (a3H rfl rfl rfl) rfl rfl ?_)
  refine J.z (NT rfl rfl (bne_self_eq_false _) rfl) ?_
  refine jL 6 ?_
  refine Cj.cond rfl (fun hc41 => Bool.noConfusion (Eq.trans (Eq.symm (by first | rfl | decide)) hc41)) (fun hc41 => ?_)
  refine jL 8 ?_
  refine Ej.perm (OA [_] _ _) ?_
  refine Ej.round ⟨k + 1, _, fs ++ [r2], o2, ks2, ro2⟩ ⟨by dsimp only; omega, hIJ, by dsimp only; rw [List.length_append, hfl]; rfl, hok2, hrk2, hro2, hbig2⟩ (by dsimp only; omega) ⟨rfl, rfl, rfl, rfl, rfl, rfl, rfl, rfl, rfl, rfl, rfl, rfl, rfl, rfl, trivial⟩ rfl rfl
 refine jL 14 ?_
 refine J.LM 6 106 true _ rfl rfl rfl (by rw [hra0]; rfl) (lC q1 rfl rfl ?_)
 refine J.LM 6 106 true _ rfl rfl rfl (by rw [hra0]; rfl) (lC (b1k rfl rfl rfl) rfl rfl ?_)
 refine J.z (XC rfl rfl (by rw [hra0]; rfl) rfl) ?_
 refine kF ?_
 exact ⟨rfl, rfl⟩
end Go.Proofs.YtekmeaoblpfnpaaGreatDoor
end
namespace Go.Proofs.YtekmeaoblpfnpaaGreatDoor
open Go.ChangeShapes Go.WideShapes Go.ChangeAt Go.RowKit Go.Sx Go.Lib Go.ChangeMaps
theorem a4U {P W name k zs g t e n}
    (hg : P.globalNamed name = some g) (hty : (P.globals[g]?).map (·.type) = some t) (ht : P.underlying t = some (.array n e)) (he : P.underlying e = some (.int k)) (hce : P.cellsOf e = 1) (hct : P.cellsOf t = n)
    (h : VarReads P W name (tabData k zs)) : TabIs P W name k zs := by
  obtain ⟨g', t', cs, fuel, p, hg', ht', hvar, hd⟩ := h
  obtain rfl := Option.some.inj (hg.symm.trans hg')
  obtain rfl := Option.some.inj (hty.symm.trans ht')
  unfold TabIs
  rw [hvar, ← cells_of_tab ht he hce hct hd]
theorem b5s {W L} (hL : laidMet Tryz.prog L W) (hw : ("unicode.White_Space", Rows.laid_unicode_White_Space) ∈ L) (ha : ("strings.asciiSpace", Rows.laid_strings_asciiSpace) ∈ L) : uD (HW W) := by
  have e1 : (Rows.laid_unicode_White_Space : DataW Unit) = whiteData := by kernel_rfl
  have e2 : (Rows.laid_strings_asciiSpace : DataW Unit) = tabData .u8 asciiSpaceTab := by kernel_rfl
  have hT : TabIs Tryz.prog W "strings.asciiSpace" .u8 asciiSpaceTab := a4U (g := 1) (t := Tryz.lays157_ren.t 119) (e := Tryz.lays157_ren.t 5) (n := 256) (by kernel_rfl) (by kernel_rfl) Tryz.lays157.t119 Tryz.lays157.t5 (by kernel_rfl) (by kernel_rfl) (e2 ▸ laidMet.reads hL ha)
  have hS : WhiteTab 3 W := whiteTab_of_reads (ρ := Tryz.lays157_ren) { Tryz.lays157 with } ⟨by kernel_rfl, by kernel_rfl, by kernel_rfl, by kernel_rfl, by kernel_rfl, by kernel_rfl, by kernel_rfl, by kernel_rfl⟩ (e1 ▸ laidMet.reads hL hw)
  intro w hwW
  have key : ∀ (a : Addr) (v : Value), W.cell? a = some v → w.cell? a = some v := fun a v h => by
    have h0 := h
    unfold World.cell? at h
    cases hb : W.heap[a.block]? with
    | none => rw [hb] at h; cases h
    | some o =>
      have := World.cell?_of_block (w := w) (w' := W) (a := a) (by rw [hwW _ _ hb, hb])
      rw [← this]; exact h0
  refine ⟨?_, ?_⟩
  · unfold TabIs World.var? at hT ⊢
    have hg : Tryz.prog.globalNamed "strings.asciiSpace" = some 1 := by kernel_rfl
    rw [hg] at hT ⊢
    simp only [Option.bind_some] at hT ⊢
    cases hb : W.heap[(1 : Nat)]? with
    | none => rw [hb] at hT; cases hT
    | some o => rw [hwW _ _ hb]; rw [hb] at hT; exact hT
  obtain ⟨T, oT, R, oR, h1, h2, h3, h4, h5⟩ := hS
  exact ⟨T, oT, R, oR, key _ _ h1, key _ _ h2, key _ _ h3, key _ _ h4, fun i hi => key _ _ (h5 i hi)⟩
end Go.Proofs.YtekmeaoblpfnpaaGreatDoor
namespace Go.Proofs.YtekmeaoblpfnpaaGreatDoor
open Go.ChangeShapes Go.WideShapes Go.ChangeAt Go.RowKit Go.Sx Go.Lib Go.ChangeMaps Go.WideMaps
section
variable {H:Type} {enc:TypeId×Value→H} {W:World} {base:Nat}
theorem Arg.field {fs : Array Field} {cs : List Value} {ms : List Nat} (h : ∀ (i : Nat) f m', fs[i]? = some f → ms[i]? = some m' → Arg enc W f.type ((cs.drop f.offset).take (Tryz.prog.cellsOf f.type)) m') (i : Nat) {f m t o k}
    (hf : fs[i]? = some f) (hm : ms[i]? = some m) (ht : f.type = t) (ho : f.offset = o) (hc : Tryz.prog.cellsOf t = k) : Arg enc W t ((cs.drop o).take k) m := by
  subst ht ho hc
  exact h i f m hf hm
theorem list4 {α : Type} {l : List α} (h : l.length = 4) : ∃ a b c d, l = [a, b, c, d] := by
  match l, h with
  | [a, b, c, d], _ => exact ⟨a, b, c, d, rfl⟩
theorem b4Z {n} (h : (Lit.int .i64 n).wf = true) : In64 n := by
  have h1 : (decide (-9223372036854775808 ≤ n) && decide (n ≤ 9223372036854775807)) = true := h
  rw [Bool.and_eq_true, decide_eq_true_eq, decide_eq_true_eq] at h1
  exact h1
theorem Arg.elem {e k} {cs : List Value} {ms : List Nat} (h : ∀ (i m' : Nat), ms[i]? = some m' → Arg enc W e ((cs.drop (i * 1)).take 1) m') (he : Tryz.prog.underlying e = some (.int .i64)) (hml : ms.length = k) i (hi : i < k) : ∃ z : Int, cs[i]? = some (i64 z) ∧ In64 z := by
  have hm : ms[i]? = some (ms[i]'(by omega)) := List.getElem?_eq_getElem _
  obtain ⟨z, hz, hw, _⟩ := (h i _ hm).int he
  refine ⟨z, ?_, b4Z hw⟩
  have := congrArg (fun l => l[0]?) hz
  simpa [List.getElem?_drop] using this
theorem b0K {cs} (hl : cs.length = 4) (h : ∀ i, i < 4 → ∃ z : Int, cs[i]? = some (i64 z) ∧ In64 z) : ∃ q : Ix.Four, cs = xJ q ∧ zW q := by
  match cs, hl with
  | [a, b, c, d], _ =>
    obtain ⟨z0, e0, w0⟩ := h 0 (by decide)
    obtain ⟨z1, e1, w1⟩ := h 1 (by decide)
    obtain ⟨z2, e2, w2⟩ := h 2 (by decide)
    obtain ⟨z3, e3, w3⟩ := h 3 (by decide)
    cases e0; cases e1; cases e2; cases e3
    exact ⟨⟨z0, z1, z2, z3⟩, rfl, ⟨w0, w1, w2, w3⟩⟩
theorem Arg.four {cs m} (h : Arg enc W 215 cs m) : ∃ q : Ix.Four, cs = xJ q ∧ zW q := by
  obtain ⟨hl, ms, hml, _, hf⟩ := h.array Tryz.underlying215
  rw [show Tryz.prog.cellsOf 215 = 4 by kernel_rfl] at hl
  rw [show Tryz.prog.cellsOf 3 = 1 by kernel_rfl] at hf
  exact b0K hl fun i hi => Arg.elem hf Tryz.underlying3 hml i hi
theorem Arg.act {cs m} (h : Arg enc W 93 cs m) : ∃ x : Act, cs = a0A x ∧ jU xJ (HW W) x.a.fs x.v ∧ ∀ q ∈ x.a.fs, zW q := by
  obtain ⟨hl, ms, hml, hms, hf⟩ := h.struct Tryz.underlying93
  rw [show Tryz.prog.cellsOf 93 = 4 by kernel_rfl] at hl
  obtain ⟨a, b, c, d, rfl⟩ := list4 hl
  obtain ⟨m0, m1, m2, m3, rfl⟩ := list4 hml
  have cI : Tryz.prog.cellsOf 3 = 1 := by kernel_rfl
  obtain ⟨b0, h0⟩ := (Arg.field hf (o := 0) 0 rfl rfl rfl rfl (show Tryz.prog.cellsOf 4 = 1 by kernel_rfl)).bool Tryz.underlying4
  obtain ⟨z1, h1, _, _⟩ := (Arg.field hf (o := 1) 1 rfl rfl rfl rfl cI).int Tryz.underlying3
  obtain ⟨z2, h2, _, _⟩ := (Arg.field hf (o := 2) 2 rfl rfl rfl rfl cI).int Tryz.underlying3
  obtain ⟨l, v, h3, hr, _, _, hq⟩ := (Arg.field hf (o := 3) 3 rfl rfl rfl rfl (show Tryz.prog.cellsOf 91 = 1 by kernel_rfl)).row (f := xJ) (size := fun _ => 0) Tryz.underlying91 (show Tryz.prog.cellsOf 215 = 4 by kernel_rfl) (by decide) zW fun cs m' _ h => by
    obtain ⟨q, h1, h2⟩ := h.four
    exact ⟨q, h1, Nat.zero_le _, h2⟩
  simp only [List.drop_zero, List.drop_succ_cons, List.take_succ_cons, List.take_zero, List.cons.injEq, and_true] at h0 h1 h2 h3
  subst h0 h1 h2 h3
  exact ⟨⟨⟨b0, z1, z2, l⟩, d⟩, rfl, hr, hq⟩
theorem b2j {v d p} (hval : Value.okWide Tryz.prog W .any base 22 v) (h : DataW.Trod enc Tryz.prog W 0 (fun _ => true) true 22 v d p) (hlt : ∀ x ∈ p, x.block < W.heap.size) :
    ∃ xs : List Act, PE (HW W) xs v ∧ ZW xs ∧ Again enc W 22 v d p := by
  have hag := again (by kernel_rfl) (of_decide_eq_true (by kernel_rfl)) h hlt
  obtain ⟨a, len, cap, rfl⟩ := okWide_slice Tryz.underlying22 hval
  obtain ⟨xs, v', h1, h2, _, _, h4⟩ := (Arg.of h).row (f := a0A) (size := fun _ => 0) Tryz.underlying22 (show Tryz.prog.cellsOf 93 = 4 by kernel_rfl) (by decide) (fun x => jU xJ (HW W) x.a.fs x.v ∧ ∀ q ∈ x.a.fs, zW q) fun cs m' _ h => by
    obtain ⟨x, h1, h2, h3⟩ := h.act
    exact ⟨x, h1, Nat.zero_le _, h2, h3⟩
  obtain rfl : Value.slice a len cap = v' := by simpa [Value.cells] using h1
  exact ⟨xs, ⟨h2, fun x hx => (h4 x hx).1⟩, fun x hx => (h4 x hx).2, hag⟩
