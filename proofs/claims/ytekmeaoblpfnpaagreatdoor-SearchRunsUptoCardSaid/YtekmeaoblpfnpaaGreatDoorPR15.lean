/-
  Own texts on the laws of the seat, joined: the logic, and contracts of functions. Conditions: none.
-/
import Derived.Test.YtekmeaoblpfnpaaGreatDoorNmR
import Derived.Test.YtekmeaoblpfnpaaGreatDoorPR14
import Derived.Lib.LaidU8
set_option linter.all false
set_option maxRecDepth 100000
set_option maxHeartbeats 40000000
section
namespace Go.Proofs.YtekmeaoblpfnpaaGreatDoor
open _root_.Go.Proofs.Tryz
open Go Go.Sx
def a2J (k : Int) (a b : Bool) : Bool := if k = 2 then a && b else if k = 3 then a || b else if k = 4 then a && !b else a
theorem a9v {k} (h2 : 2 ≤ k) (h4 : k ≤ 4) a b : a2J k a b = Ix.comb k a b := by
  have h : k = 2 ∨ k = 3 ∨ k = 4 := by omega
  rcases h with rfl | rfl | rfl <;> rfl
theorem a0h {L q t} (ht : t ∈ L.map (·.1)) : decide (t ∈ Ix.PY L q) = Ix.sat L q t := by
  rw [Bool.eq_iff_iff, decide_eq_true_eq, Ix.a3y]
  exact ⟨fun h => h.2, fun h => ⟨ht, h⟩⟩
theorem b0F {es : List nI} {i : Nat} {t} (h : (es.map (·.t))[i]? = some t) : t ∈ (es.map jQ).map (·.1) := by rw [a0i]; exact lX h
def b3y (rb : Nat) (es : List nI) (q : Cq.Qn) (e : Ending) (I' : Heap) (H' : HL) : Prop := ∃ v l, e = .returned v ∧ (∀ t ∈ (es.map jQ).map (·.1), decide (t ∈ l) = Ix.sat (es.map jQ) q t) ∧ jW recC I' l v ∧ l.length ≤ 1000000 ∧ H' = []
theorem b6a (a b : Nat) : ((a : Int) == (b : Int)) = decide (a = b) := by rw [Bool.eq_iff_iff, beq_iff_eq, decide_eq_true_eq]; omega
theorem b1G rb es q p c (hk : q.k = 1) (hrm : q.r ∈ Cq.relations) (hwd : q.wide ≤ 10000000) (hfew : Ix.Few (es.map jQ)) (htk : Ix.TOK (es.map jQ)) I (hx : zQ I rb es) : jO Tryz.prog 113 [ptr rb 0, .agg (kD q p c).toArray] I [] (b3y rb es q) := by
 have htl : q.t.length ≤ 10000000 := by unfold Cq.Qn.wide at hwd; omega
 have hwl := Ke.qX q.t
 have hLl : (es.map jQ).length ≤ 1000 := by rw [List.length_map]; exact hx.len
 have hTl : (es.map (·.t)).length ≤ 1000 := by rw [List.length_map]; exact hx.len
 have hsrt := hx.pU
 obtain ⟨hsl, hsl2⟩ := a1S hfew q.i q.t
 obtain ⟨hsm, hsm2⟩ := a1S hfew q.i []
 rw [Ix.JU] at hsm hsm2
 have hkl := b2J hsrt q.i (Ix.keyOf q.i q.t)
 refine jU func113 fun w0 hw0 => ?_
 refine jL 3 ?_
 intro b1 hb1
 refine jS (fun hc2 hc2p => ?_) (fun hc2 hc2p => ?_)
 ·have hrel : q.r = [61] := lU hc2
  refine jS (fun hc3 hc3p => ?_) (fun hc3 hc3p => ?_)
  ·refine kL (a0Q rb es q.i q.t (by omega) _ hx) ?_
   intro v4 I5 H6 hle7 hp8
   have hx := hx.mono hle7
   obtain ⟨va, h, hra, rfl⟩ := hp8; cases h
   obtain ⟨pa, ca, rfl⟩ := lC hra
   refine kM ?_
   exact ⟨_, _, rfl, fun t ht => by rw [Ix.WX hk, hrel]; show _ = Ix.JZ _ _ Ix.rEq _ _; rw [Ix.b0M, if_pos (show q.i = Ix.uH from lU hc3)], hra, (nP (Ix.BU _ _ _) (by omega)), rfl⟩
  refine kL (YG rb es q.i q.t (by omega) _ hx) ?_
  intro v9 I10 H11 hle12 hp13
  have hx := hx.mono hle12
  obtain ⟨va, h, hra, rfl⟩ := hp13; cases h
  obtain ⟨pa, ca, rfl⟩ := lC hra
  refine kM ?_
  exact ⟨_, _, rfl, fun t ht => by rw [Ix.WX hk, hrel]; show _ = Ix.JZ _ _ Ix.rEq _ _; rw [Ix.b0M, if_neg (show q.i ≠ Ix.uH from lY hc3)], hra, (nP (YL _ _ _) (by omega)), rfl⟩
 have hn1 : q.r ≠ [61] := lY hc2
 refine jS (fun hc14 hc14p => ?_) (fun hc14 hc14p => ?_)
 ·have hrel : q.r = [61, 61] := lU hc14
  refine kL (a0Q rb es q.i q.t (by omega) _ hx) ?_
  intro v15 I16 H17 hle18 hp19
  have hx := hx.mono hle18
  obtain ⟨va, h, hra, rfl⟩ := hp19; cases h
  obtain ⟨pa, ca, rfl⟩ := lC hra
  refine kM ?_
  exact ⟨_, _, rfl, fun t ht => by rw [Ix.WX hk, hrel]; exact (Ix.b3O _ _ _ _).symm, hra, (nP (Ix.BU _ _ _) (by omega)), rfl⟩
 have hn2 : q.r ≠ [61, 61] := lY hc14
 refine jS (fun hc20 hc20p => ?_) (fun hc20 hc20p => ?_)
 ·have hrel : q.r = [62, 61] := lU hc20
  refine jL 1 ?_
  refine Cj.persist hb1 (fun I22 hle21 hb1i => ?_)
  have hx := hx.mono hle21
  refine Cj.qC [] [] 11 (by kernel_rfl) ?_
  have hb1i_9 := hb1i
  refine kL (VZ rb es q.i q.t (by first | omega | decide) sS _ hx) ?_
  intro v24 I25 H26 hle27 hp28
  have hx := hx.mono hle27
  have hb1i := hle27 _ _ hb1i
  obtain ⟨va, h, hra, rfl⟩ := hp28; cases h
  obtain ⟨pa, ca, hppa, hcca, -⟩ := id hra
  subst hppa
  refine sV (a1j rb es _ rfl q.i ((Ix.scan (es.map jQ) q.i q.t sS).map lZ) _ (a1F htk hfew hsrt q.i q.t) (by omega) _ hx hra) ?_
  intro v30 I31 H32 hle33 hn29 hp34
  have hx := hx.mono hle33
  have hb1i := hle33 _ _ hb1i
  have hra := hra.mono hle33
  obtain ⟨wb1, h, hob1⟩ := hp34; cases h
  have hnb1 := hn29
  refine jL 1 ?_
  refine JA.MR hob1 hnb1 (fun Ib1 hleb1 hrb1 => ?_)
  have hx := hx.mono hleb1
  have hb1i := hleb1 _ _ hb1i
  have hra := hra.mono hleb1
  replace hrb1 := hrb1.row
  refine kM ?_
  exact ⟨_, _, rfl, fun t ht => by rw [Ix.WX hk, hrel, JD hfew]; rfl, hrb1, (nP (IK _ _ _) (nP (Nat.mul_le_mul (by rw [List.length_map]; omega : _ ≤ 480) hLl) (by decide))), rfl⟩
 have hn3 : q.r ≠ [62, 61] := lY hc20
 refine jS (fun hc36 hc36p => ?_) (fun hc36 hc36p => ?_)
 ·have hrel : q.r = [60] := lU hc36
  refine kL (VZ rb es q.i [] (by first | omega | decide) sS _ hx) ?_
  intro v37 I38 H39 hle40 hp41
  have hx := hx.mono hle40
  obtain ⟨va, h, hra, rfl⟩ := hp41; cases h
  obtain ⟨pa, ca, hppa, hcca, -⟩ := id hra
  subst hppa
  refine kL (VZ rb es q.i q.t (by first | omega | decide) sS _ hx) ?_
  intro v42 I43 H44 hle45 hp46
  have hx := hx.mono hle45
  have hra := hra.mono hle45
  obtain ⟨vd, h, hrd, rfl⟩ := hp46; cases h
  obtain ⟨pd, cd, hppd, hccd, -⟩ := id hrd
  subst hppd
  refine jL 4 ?_
  refine Cj.persist hb1 (fun I48 hle47 hb1i => ?_)
  have hx := hx.mono hle47
  have hra := hra.mono hle47
  have hrd := hrd.mono hle47
  refine Cj.qC [] [] 12 (by kernel_rfl) ?_
  have hb1i_13 := hb1i
  refine jL 9 ?_
  refine JA.ev 72 (i64 ((((Ix.scan (es.map jQ) q.i [] sS).map lZ).length - ((Ix.scan (es.map jQ) q.i q.t sS).map lZ).length) : Nat)) rfl (congrArg i64 (by omega)) ?_
  refine JA.zt 9 rfl (OH rfl rfl rfl zO AP (by omega)) ?_
  refine sV (a1j rb es _ rfl q.i (((Ix.scan (es.map jQ) q.i [] sS).map lZ).take (((Ix.scan (es.map jQ) q.i [] sS).map lZ).length - ((Ix.scan (es.map jQ) q.i q.t sS).map lZ).length)) _ (fun x hx => a1F htk hfew hsrt q.i [] x (List.mem_of_mem_take hx)) (by rw [List.length_take]; omega) _ hx (jW.take hra (Nat.sub_le _ _))) ?_
  intro v51 I52 H53 hle54 hn50 hp55
  have hx := hx.mono hle54
  have hra := hra.mono hle54
  have hrd := hrd.mono hle54
  have hb1i := hle54 _ _ hb1i
  obtain ⟨wb1, h, hob1⟩ := hp55; cases h
  have hnb1 := hn50
  refine jL 1 ?_
  refine JA.MR hob1 hnb1 (fun Ib1 hleb1 hrb1 => ?_)
  have hx := hx.mono hleb1
  have hra := hra.mono hleb1
  have hrd := hrd.mono hleb1
  have hb1i := hleb1 _ _ hb1i
  replace hrb1 := hrb1.row
  refine kM ?_
  exact ⟨_, _, rfl, fun t ht => by rw [Ix.WX hk, hrel, List.map_take, JD hfew, hsl, hsm, Ix.JU]; rfl, hrb1, (nP (IK _ _ _) (nP (Nat.mul_le_mul (by rw [List.length_map, List.length_take]; omega : _ ≤ 480) hLl) (by decide))), rfl⟩
 have hn4 : q.r ≠ [60] := lY hc36
 refine jL 4 ?_
 have hr6 : q.r = [97, 110, 121] ∨ q.r = [97, 108, 108] := by
   simp only [Cq.relations, List.mem_cons, List.not_mem_nil, or_false] at hrm
   rcases hrm with h | h | h | h | h | h
   · exact absurd h hn1
   · exact absurd h hn2
   · exact absurd h hn4
   · exact absurd h hn3
   · exact .inl h
   exact .inr h
 refine sV (yO q.t (by omega) _) ?_
 intro v58 I59 H60 hle61 hn57 hp62
 have hx := hx.mono hle61
 obtain ⟨gw, hgw, h, rfl⟩ := hp62; cases h
 refine J.xY (hgw.base hn57) (fun Iw hlew hw => ?_)
 have hx := hx.mono hlew
 obtain ⟨pw, cw, hwe⟩ := qB hw
 refine J.eqv 77 rfl hwe ?_
 rw [hwe] at hw
 refine kL ((let ⟨_, _, hR⟩ := hx.ex; ZI rb _ es (by have := hx.len; omega) _ hR.1 hR.2)) ?_
 intro v63 I64 H65 hle66 hp67
 have hx := hx.mono hle66
 have hw := hw.mono hle66
 obtain ⟨vt, h, htr, rfl⟩ := hp67; cases h
 obtain ⟨pt, ct, rfl⟩ := lC htr
 refine jL 10 ?_
 refine Cj.loop (ι := Nat × Heap × Gs) (fun y => y.1 ≤ (es.map (·.t)).length ∧ Le I64 y.2.1 ∧ kZ w0.heap.size 2 (((es.map (·.t)).take y.1).filter fun t => Ix.sat (es.map jQ) q t).length ((((es.map (·.t)).take y.1).filter fun t => Ix.sat (es.map jQ) q t).flatMap recC) y.2.2) (fun y => (es.map (·.t)).length - y.1) (fun y => [(0, ptr rb 0), (3, ptr b1 0), (7, .slice pw (Ke.words q.t).length cw), (9, .slice pt (es.map (·.t)).length ct), (8, gV (((es.map (·.t)).take y.1).filter fun t => Ix.sat (es.map jQ) q t).length y.2.2), (10, i64 (y.1 : Int))]) (fun y => y.2.1) (fun y => (b1, jM 32 (kD q p c)) :: gH 54 ((((es.map (·.t)).take y.1).filter fun t => Ix.sat (es.map jQ) q t).flatMap recC) y.2.2) (0, _, none) ⟨Nat.zero_le _, Le.refl _, rfl, rfl⟩ ⟨rfl, rfl, rfl, rfl, rfl, rfl, trivial⟩ rfl rfl ?_
 rintro ⟨i, J1, g⟩ ⟨hi, hIJ, hg⟩
 dsimp only at hi hIJ hg ⊢
 have hx := hx.mono hIJ
 have hw := hw.mono hIJ
 have htr := htr.mono hIJ
 have hfl := ZE (fun t => Ix.sat (es.map jQ) q t) (es.map (·.t)) i
 refine jS (fun hc68 hc68p => ?_) (fun hc68 hc68p => ?_)
 ·have hlt : i < (es.map (·.t)).length := by omega
  obtain ⟨t, hgt⟩ : ∃ x, (es.map (·.t))[i]? = some x := ⟨_, kW hlt⟩
  have htm := b0F hgt
  obtain ⟨p5, c5, hpe5, hc5, hp5⟩ := id htr
  cases hpe5
  obtain ⟨tb, tof, tcs, tty, tfr, tsp, rfl, htb, htd⟩ := hp5 (jT hlt)
  refine jL 16 ?_
  refine Cj.keep (Keeps.k Keeps.r) ?_
  refine Cj.loop (ι := Nat × Heap) (fun y => y.1 ≤ (Ke.words q.t).length ∧ Le J1 y.2) (fun y => (Ke.words q.t).length - y.1) (fun y => [(0, ptr rb 0), (3, ptr b1 0), (7, .slice pw (Ke.words q.t).length cw), (9, .slice (some ⟨tb, tof, none⟩) (es.map (·.t)).length ct), (8, gV (((es.map (·.t)).take i).filter fun t => Ix.sat (es.map jQ) q t).length g), (10, i64 (i : Int)), (11, i64 ((Ix.JK (es.map jQ) q.i q.t t y.1) : Int)), (12, i64 (y.1 : Int))]) (fun y => y.2) (fun y => (b1, jM 32 (kD q p c)) :: gH 54 ((((es.map (·.t)).take i).filter fun t => Ix.sat (es.map jQ) q t).flatMap recC) g) (0, _) ⟨Nat.zero_le _, Le.refl _⟩ ⟨rfl, rfl, rfl, rfl, rfl, rfl, rfl, rfl, trivial⟩ rfl rfl ?_
  rintro ⟨k, K1⟩ ⟨hk9, hIK⟩
  dsimp only at hk9 hIK ⊢
  have hIJ := hIJ.trans hIK
  have htb := hIK _ _ htb
  have hx := hx.mono hIK
  have hw := hw.mono hIK
  have htr := htr.mono hIK
  have hhk := Ix.b1A (es.map jQ) q.i q.t t k
  refine jS (fun hc69 hc69p => ?_) (fun hc69 hc69p => ?_)
  ·have hlk : k < (Ke.words q.t).length := by omega
   obtain ⟨x, hgw⟩ : ∃ x, (Ke.words q.t)[k]? = some x := ⟨_, kW hlk⟩
   have hxl := Ke.xB _ x (lX hgw)
   obtain ⟨wb, wc1, wsp, hwe, hwb⟩ := hw.some (jT hlk)
   cases hwe
   have hwl2 := a0u (es.map jQ) q.i x
   refine jL 5 ?_
   refine Cj.qC [0] [] 13 (by kernel_rfl) ?_
   have htb_24 := htb
   have hwb_24 := hwb
   refine jL 5 ?_
   refine JA.fix lI (fun fx70 => ?_)
   refine JA.tk 5 rfl fx70 (q6 (off' := k) lJ kU) ?_
   refine JA.tk 6 rfl fx70 (jP rfl rfl lQ (jR.zL hwb_24) (nN hgw)) ?_
   refine JA.tk 8 rfl fx70 q3 ?_
   refine JA.tk 9 rfl fx70 q3 ?_
   refine JA.tk 10 rfl fx70 (q6 (off' := tof + i * 2) nV lG) ?_
   refine JA.tk 11 rfl fx70 (q2 oC lG (jR.zL htb_24) (kY kF htd hgt)) ?_
   refine q0 7 rfl (kT (H1 := []) rfl rfl rfl rfl rfl (b1D rb es q.i x (by omega) _ hx) ?_ (fun _ _ _ _ ⟨_, h, _⟩ => by cases h) (fun _ _ ⟨_, h, _⟩ => by cases h))
   intro v71 I72 H73 hle74 hp75
   have hx := hx.mono hle74
   have hw := hw.mono hle74
   have htr := htr.mono hle74
   have hIJ := hIJ.mono hle74
   have htb := hle74 _ _ htb
   have hIK := hIK.mono hle74
   have hwb := hle74 _ _ hwb
   obtain ⟨vc, h, hrc, rfl⟩ := hp75; cases h
   obtain ⟨pc, cc, rfl⟩ := lC hrc
   refine kC (a0W (Ix.word (es.map jQ) q.i x) t _ (nP hwl2 (by omega)) _ hrc) ?_
   refine mW (fun hc76 => ?_) (fun hc76 => ?_)
   ·have hin : t ∈ Ix.word (es.map jQ) q.i x := mO hc76
    refine jL 12 ?_
    refine Ej.round (k + 1, _) ⟨by dsimp only; omega, hIK⟩ (by dsimp only; omega) ⟨rfl, rfl, rfl, rfl, rfl, rfl, congrArg (fun x => some (i64 x)) (by dsimp only; rw [Ix.XR hgw, if_pos hin]; omega), rfl, trivial⟩ rfl rfl
   have hin : ¬ t ∈ Ix.word (es.map jQ) q.i x := nM hc76
   refine jL 8 ?_
   refine Ej.round (k + 1, _) ⟨by dsimp only; omega, hIK⟩ (by dsimp only; omega) ⟨rfl, rfl, rfl, rfl, rfl, rfl, congrArg (fun x => some (i64 x)) (by dsimp only; rw [Ix.XR hgw, if_neg hin]; omega), rfl, trivial⟩ rfl rfl
  refine jL 6 ?_
  have hall : (Ix.JK (es.map jQ) q.i q.t t k) = Ix.hits (es.map jQ) q.i q.t t := Ix.a9r _ _ _ _ (by omega)
  refine mX (fun hg77 hg77p => ?_) (fun hg77 hg77p => ?_)
  ·refine mX (fun hg78 hg78p => ?_) (fun hg78 hg78p => ?_)
   ·refine jL 14 ?_
    refine J.ev 128 (.bool (Ix.sat (es.map jQ) q t)) rfl (congrArg Value.bool (by have hrel : q.r = [97, 110, 121] := lU hg77; rw [Ix.WX hk, hrel]; show _ = Ix.JZ _ _ Ix.a8o _ _; rw [Ix.a6l, decide_eq_true (by rw [← hall]; have h2 := mO hg78; omega)])) ?_
    refine mW (fun hc79 => ?_) (fun hc79 => ?_)
    ·have hsat : (Ix.sat (es.map jQ) q t) = true := hc79
     refine kJ (tof + i * 2) ?_
     refine J.z (q2 oC lG (jR.EH htb) (kY kF htd hgt)) ?_
     refine jL 1 ?_
     intro b80 hb80
     refine yQ 15 [_, _] hg ?_
     intro g81 hg81
     refine jL 9 ?_
     refine Ej.keep (Keeps.d (Keeps.k Keeps.r)) ?_
     refine Ej.round (i + 1, _, g81) ⟨by dsimp only; omega, hIJ, by dsimp only; rw [kP _ hgt, if_pos hsat, List.length_append, List.flatMap_append]; exact hg81⟩ (by dsimp only; omega) ⟨rfl, rfl, rfl, rfl, by dsimp only; rw [kP _ hgt, if_pos hsat, List.length_append]; rfl, rfl, trivial⟩ rfl (by dsimp only; rw [kP _ hgt, if_pos hsat, List.flatMap_append]; rfl)
    have hsat : ¬ (Ix.sat (es.map jQ) q t) = true := by rw [hc79]; decide
    refine jL 8 ?_
    refine Ej.round (i + 1, _, g) ⟨by dsimp only; omega, hIJ, by dsimp only; rw [kP _ hgt, if_neg hsat, List.append_nil]; exact hg⟩ (by dsimp only; omega) ⟨rfl, rfl, rfl, rfl, by dsimp only; rw [kP _ hgt, if_neg hsat, List.append_nil]; rfl, rfl, trivial⟩ rfl (by dsimp only; rw [kP _ hgt, if_neg hsat, List.append_nil])
   refine jL 4 ?_
   refine J.skip 11 118 119 true _ rfl rfl rfl (by rw [show q.r = [97, 110, 121] from lU hg77]; rfl) rfl rfl ?_
   refine J.skip 11 118 120 true _ rfl rfl rfl (by rw [show q.r = [97, 110, 121] from lU hg77]; rfl) rfl rfl ?_
   refine J.zg (OA rfl rfl (by rw [show q.r = [97, 110, 121] from lU hg77]; rfl) rfl) ?_
   refine jL 7 ?_
   refine J.ev 128 (.bool (Ix.sat (es.map jQ) q t)) rfl (congrArg Value.bool (by have hrel : q.r = [97, 110, 121] := lU hg77; rw [Ix.WX hk, hrel]; show _ = Ix.JZ _ _ Ix.a8o _ _; rw [Ix.a6l, decide_eq_false (by rw [← hall]; have h2 := nM hg78; omega)])) ?_
   refine mW (fun hc82 => ?_) (fun hc82 => ?_)
   ·have hsat : (Ix.sat (es.map jQ) q t) = true := hc82
    refine kJ (tof + i * 2) ?_
    refine J.z (q2 oC lG (jR.EH htb) (kY kF htd hgt)) ?_
    refine jL 1 ?_
    intro b83 hb83
    refine yQ 15 [_, _] hg ?_
    intro g84 hg84
    refine jL 9 ?_
    refine Ej.keep (Keeps.d (Keeps.k Keeps.r)) ?_
    refine Ej.round (i + 1, _, g84) ⟨by dsimp only; omega, hIJ, by dsimp only; rw [kP _ hgt, if_pos hsat, List.length_append, List.flatMap_append]; exact hg84⟩ (by dsimp only; omega) ⟨rfl, rfl, rfl, rfl, by dsimp only; rw [kP _ hgt, if_pos hsat, List.length_append]; rfl, rfl, trivial⟩ rfl (by dsimp only; rw [kP _ hgt, if_pos hsat, List.flatMap_append]; rfl)
   have hsat : ¬ (Ix.sat (es.map jQ) q t) = true := by rw [hc82]; decide
   refine jL 8 ?_
   refine Ej.round (i + 1, _, g) ⟨by dsimp only; omega, hIJ, by dsimp only; rw [kP _ hgt, if_neg hsat, List.append_nil]; exact hg⟩ (by dsimp only; omega) ⟨rfl, rfl, rfl, rfl, by dsimp only; rw [kP _ hgt, if_neg hsat, List.append_nil]; rfl, rfl, trivial⟩ rfl (by dsimp only; rw [kP _ hgt, if_neg hsat, List.append_nil])
  refine mX (fun hg85 hg85p => ?_) (fun hg85 hg85p => ?_)
  ·refine mX (fun hg86 hg86p => ?_) (fun hg86 hg86p => ?_)
   ·refine jL 6 ?_
    refine J.ev 128 (.bool (Ix.sat (es.map jQ) q t)) rfl (congrArg Value.bool (by have hrel : q.r = [97, 108, 108] := lU hg85; rw [Ix.WX hk, hrel]; show _ = Ix.JZ _ _ Ix.a7v _ _; rw [Ix.a6q, decide_eq_true (by rw [← hall]; have h2 := mO hg86; omega), Bool.true_and, hall]; exact b6a _ _)) ?_
    refine mW (fun hc87 => ?_) (fun hc87 => ?_)
    ·have hsat : (Ix.sat (es.map jQ) q t) = true := hc87
     refine kJ (tof + i * 2) ?_
     refine J.z (q2 oC lG (jR.EH htb) (kY kF htd hgt)) ?_
     refine jL 1 ?_
     intro b88 hb88
     refine yQ 15 [_, _] hg ?_
     intro g89 hg89
     refine jL 9 ?_
     refine Ej.keep (Keeps.d (Keeps.k Keeps.r)) ?_
     refine Ej.round (i + 1, _, g89) ⟨by dsimp only; omega, hIJ, by dsimp only; rw [kP _ hgt, if_pos hsat, List.length_append, List.flatMap_append]; exact hg89⟩ (by dsimp only; omega) ⟨rfl, rfl, rfl, rfl, by dsimp only; rw [kP _ hgt, if_pos hsat, List.length_append]; rfl, rfl, trivial⟩ rfl (by dsimp only; rw [kP _ hgt, if_pos hsat, List.flatMap_append]; rfl)
    have hsat : ¬ (Ix.sat (es.map jQ) q t) = true := by rw [hc87]; decide
    refine jL 8 ?_
    refine Ej.round (i + 1, _, g) ⟨by dsimp only; omega, hIJ, by dsimp only; rw [kP _ hgt, if_neg hsat, List.append_nil]; exact hg⟩ (by dsimp only; omega) ⟨rfl, rfl, rfl, rfl, by dsimp only; rw [kP _ hgt, if_neg hsat, List.append_nil]; rfl, rfl, trivial⟩ rfl (by dsimp only; rw [kP _ hgt, if_neg hsat, List.append_nil])
   refine jL 6 ?_
   refine J.ev 128 (.bool (Ix.sat (es.map jQ) q t)) rfl (congrArg Value.bool (by have hrel : q.r = [97, 108, 108] := lU hg85; rw [Ix.WX hk, hrel]; show _ = Ix.JZ _ _ Ix.a7v _ _; rw [Ix.a6q, decide_eq_false (by rw [← hall]; have h2 := nM hg86; omega), Bool.false_and])) ?_
   refine mW (fun hc90 => ?_) (fun hc90 => ?_)
   ·have hsat : (Ix.sat (es.map jQ) q t) = true := hc90
    refine kJ (tof + i * 2) ?_
    refine J.z (q2 oC lG (jR.EH htb) (kY kF htd hgt)) ?_
    refine jL 1 ?_
    intro b91 hb91
    refine yQ 15 [_, _] hg ?_
    intro g92 hg92
    refine jL 9 ?_
    refine Ej.keep (Keeps.d (Keeps.k Keeps.r)) ?_
    refine Ej.round (i + 1, _, g92) ⟨by dsimp only; omega, hIJ, by dsimp only; rw [kP _ hgt, if_pos hsat, List.length_append, List.flatMap_append]; exact hg92⟩ (by dsimp only; omega) ⟨rfl, rfl, rfl, rfl, by dsimp only; rw [kP _ hgt, if_pos hsat, List.length_append]; rfl, rfl, trivial⟩ rfl (by dsimp only; rw [kP _ hgt, if_pos hsat, List.flatMap_append]; rfl)
   have hsat : ¬ (Ix.sat (es.map jQ) q t) = true := by rw [hc90]; decide
   refine jL 8 ?_
   refine Ej.round (i + 1, _, g) ⟨by dsimp only; omega, hIJ, by dsimp only; rw [kP _ hgt, if_neg hsat, List.append_nil]; exact hg⟩ (by dsimp only; omega) ⟨rfl, rfl, rfl, rfl, by dsimp only; rw [kP _ hgt, if_neg hsat, List.append_nil]; rfl, rfl, trivial⟩ rfl (by dsimp only; rw [kP _ hgt, if_neg hsat, List.append_nil])
  exact absurd (hr6.resolve_left (lY hg77)) (lY hg85)
 refine jL 12 ?_
 rw [List.take_of_length_le (by omega : (es.map (·.t)).length ≤ i)] at hg ⊢
 refine Ej.keep (Keeps.d Keeps.r) ?_
 refine Ej.perm (H' := gH 54 (((es.map (·.t)).filter fun t => Ix.sat (es.map jQ) q t).flatMap recC) g ++ []) (.of_eq (List.append_nil _)) ?_
 refine Ej.keepR kF (by decide) hg rfl (fun I8 hle8 hv => ?_)
 refine jV ?_
 exact ⟨_, _, rfl, fun t ht => by rw [← a0i]; exact a0h ht, hv, nP (List.length_filter_le _ _) (by omega), rfl⟩
structure SaS where
  J : Heap
  la : List Ix.Rec
  lb : List Ix.Rec
  p1 : Option Addr
  c1 : Nat
  p2 : Option Addr
  c2 : Nat
  P : Option Addr
def a7W (rb : Nat) (es : List nI) (q : Cq.Qn) : Prop := ∀ (p : Option Addr) (c : Nat) (tv : Value) (I : Heap), PS I q.ps p → zQ I rb es → jW recC I (es.map (·.t)) tv → q.wide ≤ 10000000 → Cq.form q = true →
  jO Tryz.prog 61 [ptr rb 0, .agg (kD q p c).toArray, tv] I [] (fun e I' H' => ∃ v, e = .returned v ∧ jW recC I' (Ix.PY (es.map jQ) q) v ∧ H' = [])
theorem a2A rb es (hfew : Ix.Few (es.map jQ)) (htk : Ix.TOK (es.map jQ)) q (ih : ∀ q', Cq.Qn.size q' < q.size → a7W rb es q') : a7W rb es q := by
 intro p c tv I hps hx htr hwd hform
 have hTl : (es.map (·.t)).length ≤ 1000 := by rw [List.length_map]; exact hx.len
 have hLl : (es.map jQ).length ≤ 1000 := by rw [List.length_map]; exact hx.len
 obtain ⟨pt, ct, rfl⟩ := lC htr
 refine jU func61 fun w0 hw0 => ?_
 refine jL 3 ?_
 intro b1 hb1
 refine jL 18 ?_
 refine Cj.join (ι := SaS) (fun y => y.la.length ≤ 1000000 ∧ y.lb.length ≤ 1000000 ∧ jW recC y.J y.la (.slice y.p1 y.la.length y.c1) ∧ jW recC y.J y.lb (.slice y.p2 y.lb.length y.c2) ∧ jW recC y.J (es.map (·.t)) (.slice pt (es.map (·.t)).length ct) ∧ ∀ t ∈ (es.map jQ).map (·.1), a2J q.k (decide (t ∈ y.la)) (decide (t ∈ y.lb)) = Ix.sat (es.map jQ) q t) (fun y => [(2, .slice pt (es.map (·.t)).length ct), (4, ptr b1 0), (7, .slice none 0 0), (8, .slice y.p1 y.la.length y.c1), (9, .slice y.p2 y.lb.length y.c2)]) (fun y => y.J) (fun y => [(b1, jM 32 (kD q y.P c))]) ?_ (fun hcut => ?_)
 ·rintro ⟨J8, la, lb, p1, c1, p2, c2, P8⟩ ⟨hlal, hlbl, hra, hrb, htr, hcomb⟩
  dsimp only at hlal hlbl hra hrb htr hcomb ⊢
  refine jL 7 ?_
  refine Cj.loop (ι := Nat × Gs) (fun y => y.1 ≤ (es.map (·.t)).length ∧ kZ w0.heap.size 2 (((es.map (·.t)).take y.1).filter fun t => Ix.sat (es.map jQ) q t).length ((((es.map (·.t)).take y.1).filter fun t => Ix.sat (es.map jQ) q t).flatMap recC) y.2) (fun y => (es.map (·.t)).length - y.1) (fun y => [(2, .slice pt (es.map (·.t)).length ct), (4, ptr b1 0), (7, gV (((es.map (·.t)).take y.1).filter fun t => Ix.sat (es.map jQ) q t).length y.2), (8, .slice p1 la.length c1), (9, .slice p2 lb.length c2), (10, i64 (y.1 : Int))]) (fun y => _) (fun y => (b1, jM 32 (kD q P8 c)) :: gH 54 ((((es.map (·.t)).take y.1).filter fun t => Ix.sat (es.map jQ) q t).flatMap recC) y.2) (0, none) ⟨Nat.zero_le _, rfl, rfl⟩ ⟨rfl, rfl, rfl, rfl, rfl, rfl, trivial⟩ rfl rfl ?_
  rintro ⟨i, g⟩ ⟨hi, hg⟩
  dsimp only at hi hg ⊢
  have hfl := ZE (fun t => Ix.sat (es.map jQ) q t) (es.map (·.t)) i
  refine jS (fun hc2 hc2p => ?_) (fun hc2 hc2p => ?_)
  ·have hlt : i < (es.map (·.t)).length := by omega
   obtain ⟨t, hgt⟩ : ∃ x, (es.map (·.t))[i]? = some x := ⟨_, kW hlt⟩
   have htm := b0F hgt
   have hct := hcomb t htm
   obtain ⟨p5, c5, hpe5, hc5, hp5⟩ := id htr
   cases hpe5
   obtain ⟨tb, tof, tcs, tty, tfr, tsp, rfl, htb, htd⟩ := hp5 (jT hlt)
   refine kJ (tof + i * 2) ?_
   refine J.z (q2 oC lG (jR.EH htb) (kY kF htd hgt)) ?_
   refine kC (a0W la t _ (by omega) _ hra) ?_
   refine kJ (tof + i * 2) ?_
   refine J.z (q2 oC lG (jR.EH htb) (kY kF htd hgt)) ?_
   refine kC (a0W lb t _ (by omega) _ hrb) ?_
   refine jL 3 ?_
   refine Cj.join (ι := Unit) (fun _y => True) (fun _y => [(2, .slice (some ⟨tb, tof, none⟩) (es.map (·.t)).length ct), (4, ptr b1 0), (7, gV (((es.map (·.t)).take i).filter fun t => Ix.sat (es.map jQ) q t).length g), (8, .slice p1 la.length c1), (9, .slice p2 lb.length c2), (10, i64 (i : Int)), (11, .bool (Ix.sat (es.map jQ) q t))]) (fun _y => J8) (fun _y => (b1, jM 32 (kD q P8 c)) :: gH 54 ((((es.map (·.t)).take i).filter fun t => Ix.sat (es.map jQ) q t).flatMap recC) g) ?_ (fun hcut => ?_)
   ·rintro _ -
    refine mW (fun hc3 => ?_) (fun hc3 => ?_)
    ·have hsat : (Ix.sat (es.map jQ) q t) = true := hc3
     refine kJ (tof + i * 2) ?_
     refine J.z (q2 oC lG (jR.EH htb) (kY kF htd hgt)) ?_
     refine jL 1 ?_
     intro b4 hb4
     refine yQ 15 [_, _] hg ?_
     intro g5 hg5
     refine jL 9 ?_
     refine Ej.keep (Keeps.d (Keeps.k Keeps.r)) ?_
     refine Ej.round (i + 1, g5) ⟨by dsimp only; omega, by dsimp only; rw [kP _ hgt, if_pos hsat, List.length_append, List.flatMap_append]; exact hg5⟩ (by dsimp only; omega) ⟨rfl, rfl, by dsimp only; rw [kP _ hgt, if_pos hsat, List.length_append]; rfl, rfl, rfl, rfl, trivial⟩ rfl (by dsimp only; rw [kP _ hgt, if_pos hsat, List.flatMap_append]; rfl)
    have hsat : ¬ (Ix.sat (es.map jQ) q t) = true := by rw [hc3]; decide
    refine jL 8 ?_
    refine Ej.round (i + 1, g) ⟨by dsimp only; omega, by dsimp only; rw [kP _ hgt, if_neg hsat, List.append_nil]; exact hg⟩ (by dsimp only; omega) ⟨rfl, rfl, by dsimp only; rw [kP _ hgt, if_neg hsat, List.append_nil]; rfl, rfl, rfl, rfl, trivial⟩ rfl (by dsimp only; rw [kP _ hgt, if_neg hsat, List.append_nil])
   refine jS (fun hc6 hc6p => ?_) (fun hc6 hc6p => ?_)
   ·have hk9 : q.k = 2 := lU hc6
    rw [hk9] at hct
    refine oW (fun hg7 => ?_) (fun hg7 => ?_)
    ·refine jL 5 ?_
     exact hcut () _ _ _ trivial ⟨rfl, rfl, rfl, rfl, rfl, rfl, (congrArg (fun b => some (Value.bool b)) (by rw [← hct, hg7]; first | rfl | exact (Bool.true_and _).symm | exact (Bool.false_and _).symm)), trivial⟩ rfl rfl
    refine jL 5 ?_
    exact hcut () _ _ _ trivial ⟨rfl, rfl, rfl, rfl, rfl, rfl, (congrArg (fun b => some (Value.bool b)) (by rw [← hct, hg7]; first | rfl | exact (Bool.true_and _).symm | exact (Bool.false_and _).symm)), trivial⟩ rfl rfl
   have hkn2 : q.k ≠ 2 := lY hc6
   refine jS (fun hc8 hc8p => ?_) (fun hc8 hc8p => ?_)
   ·have hk9 : q.k = 3 := lU hc8
    rw [hk9] at hct
    refine oW (fun hg9 => ?_) (fun hg9 => ?_)
    ·refine jL 5 ?_
     exact hcut () _ _ _ trivial ⟨rfl, rfl, rfl, rfl, rfl, rfl, (congrArg (fun b => some (Value.bool b)) (by rw [← hct, hg9]; first | rfl | exact (Bool.true_or _).symm | exact (Bool.false_or _).symm)), trivial⟩ rfl rfl
    refine jL 5 ?_
    exact hcut () _ _ _ trivial ⟨rfl, rfl, rfl, rfl, rfl, rfl, (congrArg (fun b => some (Value.bool b)) (by rw [← hct, hg9]; first | rfl | exact (Bool.true_or _).symm | exact (Bool.false_or _).symm)), trivial⟩ rfl rfl
   have hkn3 : q.k ≠ 3 := lY hc8
   refine jS (fun hc10 hc10p => ?_) (fun hc10 hc10p => ?_)
   ·have hk9 : q.k = 4 := lU hc10
    rw [hk9] at hct
    refine oW (fun hg11 => ?_) (fun hg11 => ?_)
    ·refine jL 6 ?_
     exact hcut () _ _ _ trivial ⟨rfl, rfl, rfl, rfl, rfl, rfl, (congrArg (fun b => some (Value.bool b)) (by rw [← hct, hg11]; first | rfl | exact (Bool.true_and _).symm | exact (Bool.false_and _).symm)), trivial⟩ rfl rfl
    refine jL 6 ?_
    exact hcut () _ _ _ trivial ⟨rfl, rfl, rfl, rfl, rfl, rfl, (congrArg (fun b => some (Value.bool b)) (by rw [← hct, hg11]; first | rfl | exact (Bool.true_and _).symm | exact (Bool.false_and _).symm)), trivial⟩ rfl rfl
   have hkn4 : q.k ≠ 4 := lY hc10
   refine jL 2 ?_
   exact hcut () _ _ _ trivial ⟨rfl, rfl, rfl, rfl, rfl, rfl, (congrArg (fun b => some (Value.bool b)) (by rw [← hct]; unfold a2J; rw [if_neg hkn2, if_neg hkn3, if_neg hkn4])), trivial⟩ rfl rfl
  refine jL 12 ?_
  rw [List.take_of_length_le (by omega : (es.map (·.t)).length ≤ i)] at hg ⊢
  refine Ej.keep (Keeps.d Keeps.r) ?_
  refine Ej.perm (H' := gH 54 (((es.map (·.t)).filter fun t => Ix.sat (es.map jQ) q t).flatMap recC) g ++ []) (.of_eq (List.append_nil _)) ?_
  refine Ej.keepR kF (by decide) hg rfl (fun I8 hle8 hv => ?_)
  refine jV ?_
  exact ⟨_, rfl, by unfold Ix.PY; rw [a0i]; exact hv, rfl⟩
 refine jS (fun hc12 hc12p => ?_) (fun hc12 hc12p => ?_)
 ·have hk : q.k = 1 := by omega
  have hrm : q.r ∈ Cq.relations := by
    rw [Cq.wJ hk, Bool.and_eq_true, Bool.and_eq_true] at hform
    exact List.contains_iff_mem.1 hform.1.2
  refine kL (b1G rb es q p c hk hrm hwd hfew htk _ hx) ?_
  intro v13 I14 H15 hle16 hp17
  have hx := hx.mono hle16
  have hps := hps.mono hle16
  have htr := htr.mono hle16
  obtain ⟨v1, la, h, hsa, hra, hlal, rfl⟩ := hp17; cases h
  obtain ⟨p1, c1, rfl⟩ := lC hra
  have hcomb : ∀ t ∈ (es.map jQ).map (·.1), a2J q.k (decide (t ∈ la)) (decide (t ∈ ([] : List Ix.Rec))) = Ix.sat (es.map jQ) q t := fun t ht => by rw [hk, hsa t ht]; rfl
  refine jL 2 ?_
  exact hcut ⟨_, la, [], p1, c1, none, 0, p⟩ _ _ _ ⟨hlal, Nat.zero_le _, hra, jW.nil, htr, hcomb⟩ ⟨rfl, rfl, rfl, rfl, rfl, trivial⟩ rfl rfl
 have hk : q.k ≠ 1 := by omega
 obtain ⟨_, hk2, hk4, qa, qb, htw, hfa, hfb⟩ := (Cq.vZ hform).resolve_left hk
 obtain ⟨bl, off, cs', T, fr, pa, ca, pb, cb, rfl, hbl, hca, hcb, hkb, hpa, hpb⟩ := hps.GY htw
 have hsz2 := htw.size
 have hwd2 := htw.wide
 have hln := htw.len
 refine kJ off ?_
 refine J.z (q2 lT kE (jR.EH hbl) hca) ?_
 refine kL (ih qa (by omega) pa ca _ _ hpa hx htr (by omega) hfa) ?_
 intro v18 I19 H20 hle21 hp22
 have hx := hx.mono hle21
 have htr := htr.mono hle21
 have hbl := hle21 _ _ hbl
 have hpa := hpa.mono hle21
 have hpb := hpb.mono hle21
 obtain ⟨va, h, hra, rfl⟩ := hp22; cases h
 obtain ⟨pa1, ca1, rfl⟩ := lC hra
 refine kJ (off + 5) ?_
 refine J.z (q2 lT kE (jR.EH hbl) hcb) ?_
 refine kL (ih qb (by omega) pb cb _ _ hpb hx htr (by omega) hfb) ?_
 intro v23 I24 H25 hle26 hp27
 have hx := hx.mono hle26
 have htr := htr.mono hle26
 have hbl := hle26 _ _ hbl
 have hpa := hpa.mono hle26
 have hpb := hpb.mono hle26
 have hra := hra.mono hle26
 obtain ⟨vb, h, hrb, rfl⟩ := hp27; cases h
 obtain ⟨pb1, cb1, rfl⟩ := lC hrb
 refine jL 2 ?_
 exact hcut ⟨_, Ix.PY (es.map jQ) qa, Ix.PY (es.map jQ) qb, pa1, ca1, pb1, cb1, some ⟨bl, off, none⟩⟩ _ _ _ ⟨nP (Ix.b1R _ _) (by omega), nP (Ix.b1R _ _) (by omega), hra, hrb, htr, fun t ht => by rw [a9v hk2 hk4, a0h ht, a0h ht, Ix.a0Z hk htw]⟩ ⟨rfl, rfl, rfl, rfl, rfl, trivial⟩ rfl rfl
theorem a5R rb es (hfew : Ix.Few (es.map jQ)) (htk : Ix.TOK (es.map jQ)) q : a7W rb es q := by
  suffices ∀ n (q : Cq.Qn), q.size < n → a7W rb es q from this _ q (Nat.lt_succ_self _)
  intro n
  induction n with
  | zero => intro q h; omega
  | succ n ih => intro q h; exact a2A rb es hfew htk q fun q' h' => ih q' (by omega)
theorem b2y rb es a b I (hx : zQ I rb es) : jO Tryz.prog 63 [ptr rb 0, jZ a, jZ b] I [] (fun e _ H' => e = .returned (.bool (Ix.SQ (es.map jQ) a b)) ∧ H' = []) := by
 refine jU func63 fun w0 hw0 => ?_
 refine jL 3 ?_
 intro b1 hb1
 refine jL 1 ?_
 intro b2 hb2
 refine kL (a1Z rb es a _ hx) ?_
 intro v3 I4 H5 hle6 hp7
 have hx := hx.mono hle6
 obtain ⟨h, rfl⟩ := hp7; cases h
 refine kL (a1Z rb es b _ hx) ?_
 intro v8 I9 H10 hle11 hp12
 have hx := hx.mono hle11
 obtain ⟨h, rfl⟩ := hp12; cases h
 refine jS (fun hc13 hc13p => ?_) (fun hc13 hc13p => ?_)
 ·refine jL 4 ?_
  refine J.z (SK rfl rfl rfl) ?_
  refine kM ?_
  have hne := bne_iff_ne.1 hc13
  refine ⟨?_, rfl⟩
  unfold Ix.SQ; rw [if_neg hne]
 refine kC (a3Z a b _) ?_
 refine kM ?_
 have he := sJ hc13
 refine ⟨?_, rfl⟩
 unfold Ix.SQ; rw [if_pos he]
structure RW where
  i : Nat
  J : Heap
  out : List Ix.Rec
  v : Value
theorem b5x rb es q p c (hsz : q.size ≤ 1000000) (hwd : q.wide ≤ 10000000) (hR : Cq.right q = true) (hfew : Ix.Few (es.map jQ)) (htk : Ix.TOK (es.map jQ)) I (hps : PS I q.ps p) (hx : zQ I rb es) : jO Tryz.prog 19 [ptr rb 0, .agg (kD q p c).toArray] I [] (fun e I' H' => ∃ v r, e = .returned (.tuple #[v, i64 0]) ∧ Ix.CJ (es.map jQ) q r ∧ jW recC I' r v ∧ H' = []) := by
 have hform : Cq.form q = true := by unfold Cq.right at hR; rw [Bool.and_eq_true] at hR; exact hR.1
 have hsll := Ix.b1R (es.map jQ) q
 have hLl : (es.map jQ).length ≤ 1000 := by rw [List.length_map]; exact hx.len
 refine jU func19 fun w0 hw0 => ?_
 refine jL 3 ?_
 intro b1 hb1
 refine kC (a3g q p c (by have := Cq.a2z q; omega) _ hps) ?_
 refine J.ev 13 (.bool true) rfl (congrArg Value.bool hR) ?_
 refine jL 24 ?_
 refine Cj.qC [0] [] 6 (by kernel_rfl) ?_
 refine kL ((let ⟨_, _, hR⟩ := hx.ex; ZI rb _ es (by have := hx.len; omega) _ hR.1 hR.2)) ?_
 intro v5 I6 H7 hle8 hp9
 have hx := hx.mono hle8
 have hps := hps.mono hle8
 obtain ⟨vt, h, htr, rfl⟩ := hp9; cases h
 obtain ⟨pt, ct, rfl⟩ := lC htr
 refine kL (a5R rb es hfew htk q p c _ _ hps hx htr hwd hform) ?_
 intro v10 I11 H12 hle13 hp14
 have hx := hx.mono hle13
 have hps := hps.mono hle13
 have htr := htr.mono hle13
 obtain ⟨vl, h, hrl, rfl⟩ := hp14; cases h
 obtain ⟨pl, cl, rfl⟩ := lC hrl
 refine jL 16 ?_
 refine Cj.keep (Keeps.d Keeps.n) ?_
 refine Cj.loop (ι := RW) (fun y => y.i ≤ (Ix.PY (es.map jQ) q).length ∧ Le I11 y.J ∧ Ix.ER (es.map jQ) (Ix.PY (es.map jQ) q) y.out y.i ∧ jW recC y.J y.out y.v) (fun y => (Ix.PY (es.map jQ) q).length - y.i) (fun y => [(0, ptr rb 0), (7, .slice pl (Ix.PY (es.map jQ) q).length cl), (8, y.v), (9, i64 (y.i : Int))]) (fun y => y.J) (fun y => []) ⟨0, _, [], _⟩ ⟨Nat.zero_le _, Le.refl _, Ix.ER.nil _ _, jW.nil⟩ ⟨rfl, rfl, rfl, rfl, trivial⟩ rfl rfl ?_
 rintro ⟨i, J1, out, ov⟩ ⟨hi, hIJ, hins, hro⟩
 dsimp only at hi hIJ hins hro ⊢
 have hx := hx.mono hIJ
 have hrl := hrl.mono hIJ
 obtain ⟨po, co, rfl⟩ := lC hro
 have hol := hins.len
 refine jS (fun hc16 hc16p => ?_) (fun hc16 hc16p => ?_)
 ·have hlt : i < (Ix.PY (es.map jQ) q).length := by omega
  obtain ⟨t, hgt⟩ : ∃ x, (Ix.PY (es.map jQ) q)[i]? = some x := ⟨_, kW hlt⟩
  obtain ⟨p5, c5, hpe5, hc5, hp5⟩ := id hrl
  cases hpe5
  obtain ⟨lb, lo, lcs, lty, lfr, lsp, rfl, hlb, hld⟩ := hp5 (jT hlt)
  refine jL 11 ?_
  refine Cj.loop (ι := Nat × Heap) (fun y => y.1 ≤ out.length ∧ Le J1 y.2 ∧ ∀ x ∈ out.take y.1, Ix.oL (es.map jQ) x t) (fun y => out.length - y.1) (fun y => [(0, ptr rb 0), (7, .slice (some ⟨lb, lo, none⟩) (Ix.PY (es.map jQ) q).length cl), (8, .slice po out.length co), (9, i64 (i : Int)), (10, i64 (y.1 : Int))]) (fun y => y.2) (fun y => []) (0, _) ⟨Nat.zero_le _, Le.refl _, fun x hx => by simp at hx⟩ ⟨rfl, rfl, rfl, rfl, rfl, trivial⟩ rfl rfl ?_
  rintro ⟨k, K1⟩ ⟨hk9, hIK, hall⟩
  dsimp only at hk9 hIK hall ⊢
  have hIJ := hIJ.trans hIK
  have hlb := hIK _ _ hlb
  have hx := hx.mono hIK
  have hrl := hrl.mono hIK
  have hro := hro.mono hIK
  refine jL 2 ?_
  refine Cj.qC [] [] 16 (by kernel_rfl) ?_
  have hlb_12 := hlb
  refine jL 5 ?_
  refine JA.split 33 rfl (fun hg18 => ?_) (fun hg18 => ?_)
  rotate_left
  ·have hg18p := nM hg18
   refine jL 20 ?_
   have hstop : ∀ x, out[k]? = some x → Ix.SQ (es.map jQ) x t = false := fun x hx9 => absurd (List.getElem?_eq_some_iff.1 hx9).1 (by have h := nM hg18; omega)
   have hins2 := hins.next (Ix.YB hx.pU q) hgt hall hstop hk9
   refine Cj.qC [] [] 10 (by kernel_rfl) ?_
   refine jL 2 ?_
   refine JA.fix lI (fun fx34 => ?_)
   refine JA.tk 2 rfl fx34 (q6 (off' := lo + i * 2) nV lG) ?_
   refine JA.tk 3 rfl fx34 (q2 oC lG (jR.zL hlb) (kY kF hld hgt)) ?_
   refine JA.tk 5 rfl fx34 q3 ?_
   refine JA.tk 6 rfl fx34 q3 ?_
   refine JA.tk 7 rfl fx34 (rQ (j := k) rfl rfl rfl nV lG rfl hk9 (by obtain ⟨_, _, he9, hc9, _⟩ := id hro; cases he9; exact hc9)) ?_
   refine q0 4 rfl (jY rfl rfl rfl nV lG vF rfl rfl rfl rfl (xM.agg rfl xM.none) ?_)
   intro b35 hb35
   refine ⟨fx0, ?_⟩
   refine q0 8 rfl (kK (by' := 15) (n := 1) (g := some (b35, 1, [])) (xs := recC t) [] rfl rfl rfl rfl rfl nV (.inr ⟨_, nV⟩) (by kernel_rfl) lG vF rfl ⟨hb35, rfl, rfl⟩ rfl (Src.row kF (jW.from kF hro hk9) (fun x _ => yI x)) (by rw [List.length_drop]; omega) ?_)
   intro g36 hg36
   refine jL 4 ?_
   have hrt : ([t] ++ out.drop k).length = 1 + (out.drop k).length := by rw [List.length_append]; rfl
   refine Cj.perm (H' := gH 54 (([t] ++ out.drop k).flatMap recC) g36 ++ []) (.of_eq (List.append_nil _)) ?_
   refine Cj.keepR kF (by decide) hg36 hrt.symm (fun I7 hle7 hrs => ?_)
   have hIJ := hIJ.mono hle7
   have hx := hx.mono hle7
   have hrl := hrl.mono hle7
   have hro := hro.mono hle7
   have hlb := hle7 _ _ hlb
   have hIK := hIK.mono hle7
   obtain ⟨ps, cs, hse⟩ := lC hrs
   refine Cj.ev 11 (.slice ps ([t] ++ out.drop k).length cs) rfl hse ?_
   rw [hse] at hrs
   refine jL 1 ?_
   refine J.op rfl (sO rfl rfl rfl nV lG ?_)
   intro b38 hb38
   refine jL 2 ?_
   refine J.z (qV (k := k) rfl rfl rfl nV lG rfl (by obtain ⟨_, _, he9, hc9, _⟩ := id hro; cases he9; omega)) ?_
   refine J.op rfl (kK (by' := 15) (n := 0) (g := some (b38, 0, [])) (xs := []) [] rfl rfl rfl rfl rfl nV (.inr ⟨_, nV⟩) (by kernel_rfl) lG vF rfl ⟨hb38, rfl, rfl⟩ rfl (Src.row kF (jW.take hro hk9) (fun x _ => yI x)) (by rw [List.length_take]; omega) ?_)
   intro g39 hg39
   refine jL 1 ?_
   refine J.op rfl (kK (by' := 15) [] rfl rfl rfl rfl rfl nV (.inr ⟨_, nV⟩) (by kernel_rfl) lG vF rfl hg39 rfl (Src.row kF hrs (fun x _ => yI x)) (by rw [List.length_take, List.length_append, List.length_drop]; simp only [List.length_cons, List.length_nil]; omega) ?_)
   intro g40 hg40
   refine jL 4 ?_
   have h3 : (out.take k ++ ([t] ++ out.drop k)).length = 0 + (out.take k).length + ([t] ++ out.drop k).length := by rw [List.length_append, Nat.zero_add]
   refine Cj.perm (H' := gH 54 ((out.take k ++ ([t] ++ out.drop k)).flatMap recC) g40 ++ []) (by rw [List.flatMap_append]; exact .of_eq (List.append_nil _)) ?_
   refine Cj.keepR kF (by decide) (by rw [List.flatMap_append]; exact hg40) h3.symm (fun I6 hle6 hro2 => ?_)
   have hIJ := hIJ.mono hle6
   have hx := hx.mono hle6
   have hrl := hrl.mono hle6
   have hro := hro.mono hle6
   have hlb := hle6 _ _ hlb
   have hIK := hIK.mono hle6
   have hrs := hrs.mono hle6
   rw [← List.append_assoc] at hro2
   refine jL 5 ?_
   refine Ej.round ⟨i + 1, _, _, _⟩ ⟨by dsimp only; omega, hIJ, hins2, hro2⟩ (by dsimp only; omega) ⟨rfl, rfl, rfl, rfl, trivial⟩ rfl rfl
  have hg18p := mO hg18
  have hko : k < out.length := by omega
  obtain ⟨o, hgo⟩ : ∃ x, out[k]? = some x := ⟨_, kW hko⟩
  obtain ⟨p6, c6, hpe6, hc6, hp6⟩ := id hro
  cases hpe6
  obtain ⟨ob, oo, ocs, oty, ofr, osp, rfl, hob, hod⟩ := hp6 (jT hko)
  refine jL 3 ?_
  refine JA.fix lI (fun fx17 => ?_)
  refine JA.tkG 8 4 33 true _ rfl fx17 rfl rfl hg18 (q6 (off' := oo + k * 2) nV lG) ?_
  refine jL 2 ?_
  refine JA.fix lI (fun fx17 => ?_)
  refine JA.tkG 12 4 33 true _ rfl fx17 rfl rfl hg18 (q6 (off' := lo + i * 2) nV lG) ?_
  refine JA.tkG 13 4 33 true _ rfl fx17 rfl rfl hg18 (q2 oC lG (jR.zL hlb_12) (kY kF hld hgt)) ?_
  refine JA.stepG 9 4 33 true _ (by kernel_rfl) rfl rfl rfl rfl hg18 (kV (q2 oC lG (jR.EH hob) (kY kF hod hgo)) rfl rfl ?_)
  refine kL (b2y rb es o t _ hx) ?_
  intro v19 I20 H21 hle22 hp23
  have hIJ := hIJ.mono hle22
  have hx := hx.mono hle22
  have hrl := hrl.mono hle22
  have hro := hro.mono hle22
  have hlb := hle22 _ _ hlb
  have hIK := hIK.mono hle22
  have hob := hle22 _ _ hob
  obtain ⟨h, rfl⟩ := hp23; cases h
  refine mW (fun hc25 => ?_) (fun hc25 => ?_)
  ·have hls : Ix.SQ (es.map jQ) o t = true := hc25
   refine jL 9 ?_
   refine Ej.round (k + 1, _) ⟨by dsimp only; omega, hIK, Ix.a7T hall hgo hls⟩ (by dsimp only; omega) ⟨rfl, rfl, rfl, rfl, rfl, trivial⟩ rfl rfl
  refine jL 6 ?_
  have hstop : ∀ x, out[k]? = some x → Ix.SQ (es.map jQ) x t = false := fun x hx9 => by rw [hgo] at hx9; cases hx9; exact hc25
  have hins2 := hins.next (Ix.YB hx.pU q) hgt hall hstop hk9
  refine Cj.qC [] [] 10 (by kernel_rfl) ?_
  refine jL 2 ?_
  refine JA.fix lI (fun fx26 => ?_)
  refine JA.tk 2 rfl fx26 (q6 (off' := lo + i * 2) nV lG) ?_
  refine JA.tk 3 rfl fx26 (q2 oC lG (jR.zL hlb) (kY kF hld hgt)) ?_
  refine JA.tk 5 rfl fx26 q3 ?_
  refine JA.tk 6 rfl fx26 q3 ?_
  refine JA.tk 7 rfl fx26 (rQ (j := k) rfl rfl rfl nV lG rfl hk9 (by obtain ⟨_, _, he9, hc9, _⟩ := id hro; cases he9; exact hc9)) ?_
  refine q0 4 rfl (jY rfl rfl rfl nV lG vF rfl rfl rfl rfl (xM.agg rfl xM.none) ?_)
  intro b27 hb27
  refine ⟨fx0, ?_⟩
  refine q0 8 rfl (kK (by' := 15) (n := 1) (g := some (b27, 1, [])) (xs := recC t) [] rfl rfl rfl rfl rfl nV (.inr ⟨_, nV⟩) (by kernel_rfl) lG vF rfl ⟨hb27, rfl, rfl⟩ rfl (Src.row kF (jW.from kF hro hk9) (fun x _ => yI x)) (by rw [List.length_drop]; omega) ?_)
  intro g28 hg28
  refine jL 4 ?_
  have hrt : ([t] ++ out.drop k).length = 1 + (out.drop k).length := by rw [List.length_append]; rfl
  refine Cj.perm (H' := gH 54 (([t] ++ out.drop k).flatMap recC) g28 ++ []) (.of_eq (List.append_nil _)) ?_
  refine Cj.keepR kF (by decide) hg28 hrt.symm (fun I7 hle7 hrs => ?_)
  have hIJ := hIJ.mono hle7
  have hx := hx.mono hle7
  have hrl := hrl.mono hle7
  have hro := hro.mono hle7
  have hlb := hle7 _ _ hlb
  have hIK := hIK.mono hle7
  have hob := hle7 _ _ hob
  obtain ⟨ps, cs, hse⟩ := lC hrs
  refine Cj.ev 11 (.slice ps ([t] ++ out.drop k).length cs) rfl hse ?_
  rw [hse] at hrs
  refine jL 1 ?_
  refine J.op rfl (sO rfl rfl rfl nV lG ?_)
  intro b30 hb30
  refine jL 2 ?_
  refine J.z (qV (k := k) rfl rfl rfl nV lG rfl (by obtain ⟨_, _, he9, hc9, _⟩ := id hro; cases he9; omega)) ?_
  refine J.op rfl (kK (by' := 15) (n := 0) (g := some (b30, 0, [])) (xs := []) [] rfl rfl rfl rfl rfl nV (.inr ⟨_, nV⟩) (by kernel_rfl) lG vF rfl ⟨hb30, rfl, rfl⟩ rfl (Src.row kF (jW.take hro hk9) (fun x _ => yI x)) (by rw [List.length_take]; omega) ?_)
  intro g31 hg31
  refine jL 1 ?_
  refine J.op rfl (kK (by' := 15) [] rfl rfl rfl rfl rfl nV (.inr ⟨_, nV⟩) (by kernel_rfl) lG vF rfl hg31 rfl (Src.row kF hrs (fun x _ => yI x)) (by rw [List.length_take, List.length_append, List.length_drop]; simp only [List.length_cons, List.length_nil]; omega) ?_)
  intro g32 hg32
  refine jL 4 ?_
  have h3 : (out.take k ++ ([t] ++ out.drop k)).length = 0 + (out.take k).length + ([t] ++ out.drop k).length := by rw [List.length_append, Nat.zero_add]
  refine Cj.perm (H' := gH 54 ((out.take k ++ ([t] ++ out.drop k)).flatMap recC) g32 ++ []) (by rw [List.flatMap_append]; exact .of_eq (List.append_nil _)) ?_
  refine Cj.keepR kF (by decide) (by rw [List.flatMap_append]; exact hg32) h3.symm (fun I6 hle6 hro2 => ?_)
  have hIJ := hIJ.mono hle6
  have hx := hx.mono hle6
  have hrl := hrl.mono hle6
  have hro := hro.mono hle6
  have hlb := hle6 _ _ hlb
  have hIK := hIK.mono hle6
  have hob := hle6 _ _ hob
  have hrs := hrs.mono hle6
  rw [← List.append_assoc] at hro2
  refine jL 5 ?_
  refine Ej.round ⟨i + 1, _, _, _⟩ ⟨by dsimp only; omega, hIJ, hins2, hro2⟩ (by dsimp only; omega) ⟨rfl, rfl, rfl, rfl, trivial⟩ rfl rfl
 refine kM ?_
 exact ⟨_, out, rfl, hins.run (by omega), hro, rfl⟩
end Go.Proofs.YtekmeaoblpfnpaaGreatDoor
end
section
namespace Go.Proofs.YtekmeaoblpfnpaaGreatDoor
open Go Go.Sx
end Go.Proofs.YtekmeaoblpfnpaaGreatDoor
end
namespace Go.Sx
open Go
section
variable {cx:Cx} {Q:Qt} {o:Oper} {e:Env} {I:Heap} {H:HL} {C:Ct} {S:World→Prop}
end
end Go.Sx
section
namespace Go.Proofs.YtekmeaoblpfnpaaGreatDoor
open Go Go.Sx
theorem b3l xv q p c (hsz : q.size ≤ 1000000) (hR : Cq.right q = false) I (hps : PS I q.ps p) : Pure Tryz.prog 19 [xv, .agg (kD q p c).toArray] I (.tuple #[.slice none 0 0, i64 1]) := by
 refine jO.toPure ?_
 refine jU Tryz.func19 fun w0 hw0 => ?_
 refine jL 3 ?_
 intro b1 hb1
 refine kC (a3g q p c (by have := Cq.a2z q; omega) _ hps) ?_
 refine J.ev 13 (.bool false) rfl (congrArg Value.bool hR) ?_
 refine kM ?_
 exact ⟨rfl, rfl⟩
end Go.Proofs.YtekmeaoblpfnpaaGreatDoor
end
section
namespace Go.Proofs.YtekmeaoblpfnpaaGreatDoor
open _root_.Go.Proofs.Tryz
open Go Go.Sx
abbrev Rng (x : Int) : Prop := -9223372036854775808 ≤ x ∧ x ≤ 9223372036854775807
def XI (q : Cq.Qn) : Prop := ∀ (p : Option Addr) (c : Nat) (x y : Int) (I : Heap), PS I q.ps p → q.size ≤ 1000000 → Rng x → Rng y →
  jO Tryz.prog 17 [.agg (kD q p c).toArray, .agg #[i64 x, i64 y]] I [] (fun e I' H' => (∃ q' u, e = .returned u ∧ QV I' q' u ∧ q'.size ≤ q.size + 1 ∧ q'.wide ≤ q.wide + 7) ∧ H' = [])
def spI : List (List UInt8) := [[], [99, 111, 108, 111, 114], [84, 105, 116, 108, 101]]
def spR : List (List UInt8) := [[], [62], [65, 78, 89], [61]]
theorem a9Y {l : List (List UInt8)} {n} (h : n < l.length) : (l.map str)[n]? = some (str (l.getD n [])) := by
  simp [List.getD, kW h]
theorem getD_in {l : List (List UInt8)} {n} (h : n < l.length) : l.getD n [] ∈ l := by
  rw [List.getD, kW h]; exact List.getElem_mem h
theorem b4y {n} (h : n < spI.length) : (spI.getD n []).length ≤ 7 := (by decide : ∀ w ∈ spI, w.length ≤ 7) _ (getD_in h)
theorem b4J {n} (h : n < spR.length) : (spR.getD n []).length ≤ 7 := (by decide : ∀ w ∈ spR, w.length ≤ 7) _ (getD_in h)
theorem a3d q (ih : ∀ q', Cq.Qn.size q' < q.size → XI q') : XI q := by
 intro p c x y I hps hsz hx hy
 have hx9 := Cq.a0z x (n := 9) (by omega)
 have hy2 := Cq.a0z y (n := 2) (by omega)
 have hy7 := Cq.a0z y (n := 7) (by omega)
 have hy3 := Cq.a0z y (n := 3) (by omega)
 have hy4 := Cq.a0z y (n := 4) (by omega)
 simp only [Int.cast_ofNat_Int] at hx9 hy2 hy7 hy3 hy4
 have hi3 := b4y (n := Cq.OC y 3) hy3.2.1
 have hr4 := b4J (n := Cq.OC y 4) hy4.2.1
 have htx := a4o (n := 9) (by decide) hx
 have hty := a4o (n := 2) (by decide) hy
 refine jU func17 fun w0 hw0 => ?_
 refine jL 3 ?_
 intro b1 hb1
 refine jL 1 ?_
 intro b2 hb2
 refine jL 1 ?_
 intro b3 hb3
 refine jL 9 ?_
 refine J.ev 11 (i64 (Cq.OC x 9 : Nat)) rfl (by rw [← hx9.1]) ?_
 refine jL 3 ?_
 refine Cj.join (ι := Unit) (fun _y => True) (fun _y => [(2, ptr b1 0), (3, ptr b2 0), (4, ptr b3 0), (5, i64 (Cq.OC x 9 : Nat))]) (fun _y => I) (fun _y => [(b3, jM 32 (kD Cq.zero none 0)), (b2, jM 24 [i64 x, i64 y]), (b1, jM 32 (kD q p c))]) ?_ (fun hcut => ?_)
 ·rintro _ -
  refine jS (fun hc4 hc4p => ?_) (fun hc4 hc4p => ?_)
  ·refine jL 6 ?_
   refine J.ev 55 (i64 (Cq.OC y 7 : Nat)) rfl (by rw [← hy7.1]) ?_
   refine J.z (FZ rfl rfl rfl (qW (by omega))) ?_
   refine J.z (q1 (off' := 0) tU32 oJ) ?_
   refine J.op rfl (q5 2 oJ (oD.c oD.z) (lS.s (lS.s lS.z)) ?_)
   refine J.nil (Ej.yU (Ej.seq (Cj.sr (J.z (lF rfl rfl lT kE (jR.at 2 rfl) rfl rfl) ?_))))
   refine J.op rfl (q5 0 kE (oD.c (oD.c (oD.c (oD.c (oD.c oD.z))))) lS.z ?_)
   refine J.ns (Cj.ret ?_)
   refine Ej.a4V (Keeps.d (Keeps.d (Keeps.d Keeps.n))) rfl rfl rfl (jR.at 0 rfl) lT kE rfl ?_
   exact ⟨⟨⟨(Cq.OC y 7 : Int) - 1, q.i, q.r, q.t, q.ps⟩, _, rfl, ⟨p, c, rfl, hps⟩, by simp only [Cq.Qn.size]; omega, by simp only [Cq.Qn.wide]; omega⟩, rfl⟩
  refine jS (fun hc5 hc5p => ?_) (fun hc5 hc5p => ?_)
  ·refine jL 2 ?_
   intro b6 hb6
   refine jL 5 ?_
   refine J.ev 65 (i64 (Cq.OC y 3 : Nat)) rfl (by rw [← hy3.1]) ?_
   refine kJ ((Cq.OC y 3)) ?_
   refine J.z (jP rfl rfl lQ (jR.at 0 rfl) (a9Y (l := spI) hy3.2.1)) ?_
   refine J.z (q1 (off' := 1) tU32 kU) ?_
   refine J.op rfl (q5 3 kU (oD.s (oD.c oD.z)) (lS.s (lS.s (lS.s lS.z))) ?_)
   refine J.nil (Ej.yU (Ej.seq (Cj.sr (J.z (lF rfl rfl lT kE (jR.at 3 rfl) rfl rfl) ?_))))
   refine J.op rfl (q5 1 kE (oD.c (oD.c (oD.c (oD.c (oD.c oD.z))))) (lS.s lS.z) ?_)
   refine J.ns (Cj.ret ?_)
   refine Ej.a4V (Keeps.d (Keeps.d (Keeps.d (Keeps.d Keeps.n)))) rfl rfl rfl (jR.at 1 rfl) lT kE rfl ?_
   exact ⟨⟨⟨q.k, spI.getD (Cq.OC y 3) [], q.r, q.t, q.ps⟩, _, rfl, ⟨p, c, rfl, hps⟩, by simp only [Cq.Qn.size]; omega, by simp only [Cq.Qn.wide]; omega⟩, rfl⟩
  refine jS (fun hc7 hc7p => ?_) (fun hc7 hc7p => ?_)
  ·refine jL 2 ?_
   intro b8 hb8
   refine jL 5 ?_
   refine J.ev 76 (i64 (Cq.OC y 4 : Nat)) rfl (by rw [← hy4.1]) ?_
   refine kJ ((Cq.OC y 4)) ?_
   refine J.z (jP rfl rfl lQ (jR.at 0 rfl) (a9Y (l := spR) hy4.2.1)) ?_
   refine J.z (q1 (off' := 2) tU32 kU) ?_
   refine J.op rfl (q5 3 kU (oD.s (oD.s (oD.c oD.z))) (lS.s (lS.s (lS.s lS.z))) ?_)
   refine J.nil (Ej.yU (Ej.seq (Cj.sr (J.z (lF rfl rfl lT kE (jR.at 3 rfl) rfl rfl) ?_))))
   refine J.op rfl (q5 1 kE (oD.c (oD.c (oD.c (oD.c (oD.c oD.z))))) (lS.s lS.z) ?_)
   refine J.ns (Cj.ret ?_)
   refine Ej.a4V (Keeps.d (Keeps.d (Keeps.d (Keeps.d Keeps.n)))) rfl rfl rfl (jR.at 1 rfl) lT kE rfl ?_
   exact ⟨⟨⟨q.k, q.i, spR.getD (Cq.OC y 4) [], q.t, q.ps⟩, _, rfl, ⟨p, c, rfl, hps⟩, by simp only [Cq.Qn.size]; omega, by simp only [Cq.Qn.wide]; omega⟩, rfl⟩
  refine jS (fun hc9 hc9p => ?_) (fun hc9 hc9p => ?_)
  ·refine jL 1 ?_
   refine J.op rfl (sO rfl rfl rfl rZ kE ?_)
   intro b10 hb10
   refine J.z (q1 (off' := 4) tU32 qQ) ?_
   refine J.z (q4 isAgg30 (jR.at 3 rfl)) ?_
   obtain ⟨ys, hysl, hysq, hsrc⟩ := hps.src c
   refine J.pull (Pull.s (Pull.s (Pull.s Pull.z))) ?_
   refine J.pull (Pull.s (Pull.s (Pull.s Pull.z))) ?_
   refine J.pull (Pull.s (Pull.s (Pull.s Pull.z))) ?_
   refine J.op rfl (kK (by' := 79) (n := 0) (g := some (b10, 0, [])) (xs := []) [_, _, _] rfl rfl rfl rfl rfl rZ (.inr ⟨_, rZ⟩) (by kernel_rfl) kE rJ rfl ⟨hb10, rfl, rfl⟩ rfl (hsrc _) (by have := Cq.Qs.a2O (ps := q.ps); unfold Cq.Qn.size at hsz; omega) ?_)
   intro g11 hg11
   refine J.z (jX (pl := #[(0, 1), (1, 1), (2, 1), (3, 1), (4, 1)]) rfl rfl rJ rfl tU32 (fun w => by simp [oJ, qQ, kU]) (pR.part rfl rfl rfl (oD.c oD.z) (pR.part rfl rfl rfl (oD.s (oD.c oD.z)) (pR.part rfl rfl rfl (oD.s (oD.s (oD.c oD.z))) pR.none)))) ?_
   refine J.op rfl (jY rfl rfl rfl rZ kE rJ rfl rfl rfl rfl (xM.agg rfl xM.none) ?_)
   intro b12 hb12
   refine J.op rfl (kK (by' := 79) [_, _, _, _] rfl rfl rfl rfl rfl rZ (.inr ⟨_, rZ⟩) (by kernel_rfl) kE rJ rfl hg11 rfl (Src.slice (jR.at 0 rfl) rfl rfl rfl) (by have := Cq.Qs.a2O (ps := q.ps); unfold Cq.Qn.size at hsz; omega) ?_)
   intro g13 hg13
   obtain ⟨bg14, cg15, sp16, rfl, hbg14⟩ := hg13.some (by omega)
   refine J.ev 88 (.slice (some ⟨bg14, 0, none⟩) (q.ps.app ((⟨1, [97, 110, 121], [61], [], .nil⟩ : Cq.Qn).push .nil)).len cg15) rfl (by rw [Cq.Qs.a6V]; simp only [Nat.zero_add, gV]; rfl) ?_
   refine jL 7 ?_
   refine J.pull (Pull.s (Pull.s (Pull.s (Pull.s Pull.z)))) ?_
   refine J.persist hbg14 (fun I18 hle17 hbg14i => ?_)
   have hps := hps.mono hle17
   have hysq := hysq.mono hle17
   refine J.z (lF rfl rfl lT kE (jR.at 3 rfl) rfl rfl) ?_
   refine J.op rfl (q5 1 kE (oD.c (oD.c (oD.c (oD.c (oD.c oD.z))))) (lS.s lS.z) ?_)
   refine J.ns (Cj.ret ?_)
   refine Ej.a4V (Keeps.d (Keeps.d (Keeps.d (Keeps.d Keeps.n)))) rfl rfl rfl (jR.at 1 rfl) lT kE rfl ?_
   exact ⟨⟨⟨q.k, q.i, q.r, q.t, q.ps.app ((⟨1, [97, 110, 121], [61], [], .nil⟩ : Cq.Qn).push .nil)⟩, _, rfl, ⟨some ⟨bg14, 0, none⟩, cg15, rfl, PS.snoc hysl hysq (.inl rfl) hbg14i⟩, by simp only [Cq.Qn.size, Cq.Qs.a4n, Cq.Qn.push, Cq.Qs.size]; omega, by simp only [Cq.Qn.wide, Cq.Qs.a3O, Cq.Qn.push, Cq.Qs.wide, List.length_cons, List.length_nil]; omega⟩, rfl⟩
  refine jS (fun hc19 hc19p => ?_) (fun hc19 hc19p => ?_)
  ·refine Cj.region (J.z (q1 (off' := 3) tU32 kU) ?_)
   refine J.op rfl (q5 2 kU (oD.s (oD.s (oD.s (oD.c oD.z)))) (lS.s (lS.s lS.z)) ?_)
   refine J.nil (Ej.yU (Ej.seq (Cj.sr (J.z (lF rfl rfl lT kE (jR.at 2 rfl) rfl rfl) ?_))))
   refine J.op rfl (q5 0 kE (oD.c (oD.c (oD.c (oD.c (oD.c oD.z))))) lS.z ?_)
   refine J.ns (Cj.ret ?_)
   refine Ej.a4V (Keeps.d (Keeps.d (Keeps.d Keeps.n))) rfl rfl rfl (jR.at 0 rfl) lT kE rfl ?_
   exact ⟨⟨⟨q.k, q.i, q.r, [109, 111, 114, 101], q.ps⟩, _, rfl, ⟨p, c, rfl, hps⟩, by simp only [Cq.Qn.size]; omega, by simp only [Cq.Qn.wide, List.length_cons, List.length_nil]; omega⟩, rfl⟩
  refine Cj.skip (Ej.yU (Ej.seq (Cj.sr (J.z (lF rfl rfl lT kE (jR.at 2 rfl) rfl rfl) ?_))))
  refine J.op rfl (q5 0 kE (oD.c (oD.c (oD.c (oD.c (oD.c oD.z))))) lS.z ?_)
  refine J.ns (Cj.ret ?_)
  refine Ej.a4V (Keeps.d (Keeps.d (Keeps.d Keeps.n))) rfl rfl rfl (jR.at 0 rfl) lT kE rfl ?_
  exact ⟨⟨⟨q.k, q.i, q.r, q.t, q.ps⟩, _, rfl, ⟨p, c, rfl, hps⟩, by simp only [Cq.Qn.size]; omega, by simp only [Cq.Qn.wide]; omega⟩, rfl⟩
 refine oW (fun hg20 => ?_) (fun hg20 => ?_)
 ·have hln : q.ps.len = 2 := by have h := hg20; simp at h; omega
  refine jS (fun hc21 hc21p => ?_) (fun hc21 hc21p => ?_)
  ·obtain ⟨qa, qb, htw⟩ := Cq.Qs.XV hln
   change q.Two qa qb at htw
   have hsz2 := htw.size
   have hsz3 := htw.sizes
   obtain ⟨bl, off, cs', TT, fr, pa, ca, pb, cb, rfl, hbl, hca, hcb, hkb, hpa, hpb⟩ := hps.GY htw
   have hten := b6d hca hcb
   refine jL 6 ?_
   rcases (show Cq.OC y 2 = 0 ∨ Cq.OC y 2 = 1 by omega) with hk0 | hk0
   ·skip
    refine jL 1 ?_
    refine J.ev 24 (i64 0) rfl (by rw [hy2.1, hk0]; rfl) ?_
    refine jL 5 ?_
    refine J.op rfl (sO rfl rfl rfl rZ kE ?_)
    intro b22 hb22
    refine J.z (q1 (off' := 4) tU32 qQ) ?_
    refine J.z (q4 isAgg30 (jR.at 3 rfl)) ?_
    refine J.eqv 27 rfl (show _ = .slice (some ⟨bl, off, none⟩) 2 c from (by rw [hln])) ?_
    refine J.pull (Pull.s (Pull.s (Pull.s Pull.z))) ?_
    refine J.pull (Pull.s (Pull.s (Pull.s Pull.z))) ?_
    refine J.pull (Pull.s (Pull.s (Pull.s Pull.z))) ?_
    refine J.op rfl (kK (by' := 79) (n := 0) (g := some (b22, 0, [])) (xs := []) [_, _, _] rfl rfl rfl rfl rfl rZ (.inr ⟨_, rZ⟩) (by kernel_rfl) kE rJ rfl ⟨hb22, rfl, rfl⟩ rfl (Src.slice (jR.EH hbl) hten rfl rfl) (by omega) ?_)
    intro g23 hg23
    obtain ⟨bg24, cg25, sp26, rfl, hbg24⟩ := hg23.some (by omega)
    refine J.ev 28 (.slice (some ⟨bg24, 0, none⟩) 2 cg25) rfl rfl ?_
    refine jL 5 ?_
    refine Cj.qC [0, 1, 2, 3] [] 17 (by kernel_rfl) ?_
    have hbl_5 := hbl
    refine JA.fix lI (fun fx27 => ?_)
    refine JA.tk 0 rfl fx27 (q1 (off' := 4) tU32 qQ) ?_
    refine JA.tk 1 rfl fx27 (q4 isAgg30 (jR.atC 2 rfl)) ?_
    refine JA.tk 2 rfl fx27 q3 ?_
    refine JA.tk 3 rfl fx27 (q1 (off' := 4) tU32 qQ) ?_
    refine JA.tk 4 rfl fx27 (q4 isAgg30 (jR.atC 2 rfl)) ?_
    refine JA.tk 5 rfl fx27 q3 ?_
    refine JA.tk 6 rfl fx27 (nG (off' := 0) rfl rfl rfl rZ kE (by decide) (by decide) (by decide)) ?_
    refine JA.tk 7 rfl fx27 (lF rfl rfl lT kE (jR.atC 3 rfl) rfl rfl) ?_
    refine JA.tk 8 rfl fx27 (mD (off' := 0) rfl rfl rfl a0R oJ (by decide) (by decide) (by decide)) ?_
    refine JA.tk 9 rfl fx27 (q4 JF (jR.atC 1 rfl)) ?_
    refine JA.tk 10 rfl fx27 (zZ rfl rfl rfl (by decide) (qW htx)) ?_
    refine JA.tk 11 rfl fx27 (mD (off' := 1) rfl rfl rfl a0R oJ (by decide) (by decide) (by decide)) ?_
    refine JA.tk 12 rfl fx27 (q4 JF (jR.atC 1 rfl)) ?_
    refine JA.tk 13 rfl fx27 (zZ rfl rfl rfl (by decide) (qW hty)) ?_
    refine JA.tk 14 rfl fx27 (vT (zs := [(.int .i64 0), (.int .i64 0)]) rfl rfl zeroValue24 rfl a0R oJ rfl) ?_
    refine q0 15 rfl (kT (H1 := []) rfl rfl rfl rfl rfl (ih qa hsz2.1 pa ca (x.tdiv 9) (y.tdiv 2) _ hpa (by omega) htx hty) ?_ (fun _ _ _ _ h => by obtain ⟨⟨_, _, h, _⟩, _⟩ := h; cases h) (fun _ _ h => by obtain ⟨⟨_, _, h, _⟩, _⟩ := h; cases h))
    intro v28 I29 H30 hle31 hp32
    have hbl := hle31 _ _ hbl
    have hpa := hpa.mono hle31
    have hpb := hpb.mono hle31
    obtain ⟨⟨q2, v28x, hv28, ⟨p2, c2, rfl, hps2⟩, hz2, hw2⟩, rfl⟩ := hp32; cases hv28
    refine ⟨⟨(Le.trans (Le.refl _) hle31), (HSub.c 0 rfl (HSub.c 1 rfl (HSub.c 2 rfl (HSub.c 3 rfl HSub.n)))), CSub.n⟩, ?_⟩
    refine JA.fix lI (fun fx33 => ?_)
    refine JA.tk 16 rfl fx33 (nG (off' := 0) rfl rfl rfl rZ kE (by decide) (by decide) (by decide)) ?_
    refine JA.last 17 (by kernel_rfl) rfl rfl rfl (q5 3 kE (oD.c (oD.c (oD.c (oD.c (oD.c oD.z))))) (lS.s (lS.s (lS.s lS.z))) ?_)
    refine jL 4 ?_
    refine J.pull (Pull.s (Pull.s (Pull.s Pull.z))) ?_
    refine J.persist hbg24 (fun I35 hle34 hbg24i => ?_)
    have hbl := hle34 _ _ hbl
    have hpa := hpa.mono hle34
    have hpb := hpb.mono hle34
    have hps2 := hps2.mono hle34
    refine J.z (lF rfl rfl lT kE (jR.at 2 rfl) rfl rfl) ?_
    refine J.op rfl (q5 0 kE (oD.c (oD.c (oD.c (oD.c (oD.c oD.z))))) lS.z ?_)
    refine J.ns (Cj.ret (Ej.LQ ?_))
    refine Ej.a4V (Keeps.d (Keeps.d (Keeps.d Keeps.n))) rfl rfl rfl (jR.at 0 rfl) lT kE rfl ?_
    exact ⟨⟨⟨q.k, q.i, q.r, q.t, q2.push (qb.push .nil)⟩, _, rfl, ⟨some ⟨bg24, 0, none⟩, cg25, rfl, PS.twoS hps2 hpb hbg24i⟩, by simp only [Cq.Qn.size, Cq.Qn.wide, Cq.Qn.push, Cq.Qs.size] at *; omega, by simp only [Cq.Qn.size, Cq.Qn.wide, Cq.Qn.push, Cq.Qs.wide] at *; omega⟩, rfl⟩
   skip
   refine jL 1 ?_
   refine J.ev 24 (i64 1) rfl (by rw [hy2.1, hk0]; rfl) ?_
   refine jL 5 ?_
   refine J.op rfl (sO rfl rfl rfl rZ kE ?_)
   intro b36 hb36
   refine J.z (q1 (off' := 4) tU32 qQ) ?_
   refine J.z (q4 isAgg30 (jR.at 3 rfl)) ?_
   refine J.eqv 27 rfl (show _ = .slice (some ⟨bl, off, none⟩) 2 c from (by rw [hln])) ?_
   refine J.pull (Pull.s (Pull.s (Pull.s Pull.z))) ?_
   refine J.pull (Pull.s (Pull.s (Pull.s Pull.z))) ?_
   refine J.pull (Pull.s (Pull.s (Pull.s Pull.z))) ?_
   refine J.op rfl (kK (by' := 79) (n := 0) (g := some (b36, 0, [])) (xs := []) [_, _, _] rfl rfl rfl rfl rfl rZ (.inr ⟨_, rZ⟩) (by kernel_rfl) kE rJ rfl ⟨hb36, rfl, rfl⟩ rfl (Src.slice (jR.EH hbl) hten rfl rfl) (by omega) ?_)
   intro g37 hg37
   obtain ⟨bg38, cg39, sp40, rfl, hbg38⟩ := hg37.some (by omega)
   refine J.ev 28 (.slice (some ⟨bg38, 0, none⟩) 2 cg39) rfl rfl ?_
   refine jL 5 ?_
   refine Cj.qC [0, 1, 2, 3] [] 17 (by kernel_rfl) ?_
   have hbl_5 := hbl
   refine JA.fix lI (fun fx41 => ?_)
   refine JA.tk 0 rfl fx41 (q1 (off' := 4) tU32 qQ) ?_
   refine JA.tk 1 rfl fx41 (q4 isAgg30 (jR.atC 2 rfl)) ?_
   refine JA.tk 2 rfl fx41 q3 ?_
   refine JA.tk 3 rfl fx41 (q1 (off' := 4) tU32 qQ) ?_
   refine JA.tk 4 rfl fx41 (q4 isAgg30 (jR.atC 2 rfl)) ?_
   refine JA.tk 5 rfl fx41 q3 ?_
   refine JA.tk 6 rfl fx41 (nG (off' := 5) rfl rfl rfl rZ kE (by decide) (by decide) (by decide)) ?_
   refine JA.tk 7 rfl fx41 (lF rfl rfl lT kE (jR.atC 3 rfl) rfl rfl) ?_
   refine JA.tk 8 rfl fx41 (mD (off' := 0) rfl rfl rfl a0R oJ (by decide) (by decide) (by decide)) ?_
   refine JA.tk 9 rfl fx41 (q4 JF (jR.atC 1 rfl)) ?_
   refine JA.tk 10 rfl fx41 (zZ rfl rfl rfl (by decide) (qW htx)) ?_
   refine JA.tk 11 rfl fx41 (mD (off' := 1) rfl rfl rfl a0R oJ (by decide) (by decide) (by decide)) ?_
   refine JA.tk 12 rfl fx41 (q4 JF (jR.atC 1 rfl)) ?_
   refine JA.tk 13 rfl fx41 (zZ rfl rfl rfl (by decide) (qW hty)) ?_
   refine JA.tk 14 rfl fx41 (vT (zs := [(.int .i64 0), (.int .i64 0)]) rfl rfl zeroValue24 rfl a0R oJ rfl) ?_
   refine q0 15 rfl (kT (H1 := []) rfl rfl rfl rfl rfl (ih qb hsz2.2 pb cb (x.tdiv 9) (y.tdiv 2) _ hpb (by omega) htx hty) ?_ (fun _ _ _ _ h => by obtain ⟨⟨_, _, h, _⟩, _⟩ := h; cases h) (fun _ _ h => by obtain ⟨⟨_, _, h, _⟩, _⟩ := h; cases h))
   intro v42 I43 H44 hle45 hp46
   have hbl := hle45 _ _ hbl
   have hpa := hpa.mono hle45
   have hpb := hpb.mono hle45
   obtain ⟨⟨q2, v42x, hv42, ⟨p2, c2, rfl, hps2⟩, hz2, hw2⟩, rfl⟩ := hp46; cases hv42
   refine ⟨⟨(Le.trans (Le.refl _) hle45), (HSub.c 0 rfl (HSub.c 1 rfl (HSub.c 2 rfl (HSub.c 3 rfl HSub.n)))), CSub.n⟩, ?_⟩
   refine JA.fix lI (fun fx47 => ?_)
   refine JA.tk 16 rfl fx47 (nG (off' := 5) rfl rfl rfl rZ kE (by decide) (by decide) (by decide)) ?_
   refine JA.last 17 (by kernel_rfl) rfl rfl rfl (q5 3 kE (oD.s (oD.s (oD.s (oD.s (oD.s (oD.c (oD.c (oD.c (oD.c (oD.c oD.z)))))))))) (lS.s (lS.s (lS.s lS.z))) ?_)
   refine jL 4 ?_
   refine J.pull (Pull.s (Pull.s (Pull.s Pull.z))) ?_
   refine J.persist hbg38 (fun I49 hle48 hbg38i => ?_)
   have hbl := hle48 _ _ hbl
   have hpa := hpa.mono hle48
   have hpb := hpb.mono hle48
   have hps2 := hps2.mono hle48
   refine J.z (lF rfl rfl lT kE (jR.at 2 rfl) rfl rfl) ?_
   refine J.op rfl (q5 0 kE (oD.c (oD.c (oD.c (oD.c (oD.c oD.z))))) lS.z ?_)
   refine J.ns (Cj.ret (Ej.LQ ?_))
   refine Ej.a4V (Keeps.d (Keeps.d (Keeps.d Keeps.n))) rfl rfl rfl (jR.at 0 rfl) lT kE rfl ?_
   exact ⟨⟨⟨q.k, q.i, q.r, q.t, qa.push (q2.push .nil)⟩, _, rfl, ⟨some ⟨bg38, 0, none⟩, cg39, rfl, PS.twoS hpa hps2 hbg38i⟩, by simp only [Cq.Qn.size, Cq.Qn.wide, Cq.Qn.push, Cq.Qs.size] at *; omega, by simp only [Cq.Qn.size, Cq.Qn.wide, Cq.Qn.push, Cq.Qs.wide] at *; omega⟩, rfl⟩
  refine jL 1 ?_
  exact hcut () _ _ _ trivial ⟨rfl, rfl, rfl, rfl, trivial⟩ rfl rfl
 refine jL 7 ?_
 exact hcut () _ _ _ trivial ⟨rfl, rfl, rfl, rfl, trivial⟩ rfl rfl
theorem FD q : XI q := by
  suffices ∀ n (q : Cq.Qn), q.size < n → XI q from this _ q (Nat.lt_succ_self _)
  intro n
  induction n with
  | zero => intro q h; omega
  | succ n ih => intro q h; exact a3d q fun q' h' => ih q' (by omega)
end Go.Proofs.YtekmeaoblpfnpaaGreatDoor
end
section
namespace Go.Proofs.YtekmeaoblpfnpaaGreatDoor
open _root_.Go.Proofs.Tryz
open Go Go.Sx
structure RQ where
  q : Cq.Qn
  p : Option Addr
  c : Nat
abbrev rqC (x : RQ) : List Value := kD x.q x.p x.c
theorem LJ x : (rqC x).length = 5 := rfl
structure RnS where
  J : Heap
  b : Nat
  q1 : Cq.Qn
  p1 : Option Addr
  c1 : Nat
  q3 : Cq.Qn
  p3 : Option Addr
  c3 : Nat
theorem MW q1 q3 p1 p3 c1 c3 : Instr.fill (fun i => some (i * 5, 5)) [i64 0, str [], str [], str [], .slice none 0 0, i64 0, str [], str [], str [], .slice none 0 0].toArray (([0, 1] : List Nat).zip [Value.agg (kD q1 p1 c1).toArray, Value.agg (kD q3 p3 c3).toArray]) = some (kD q1 p1 c1 ++ kD q3 p3 c3).toArray := by
  simp [Instr.fill, Value.cells]
theorem a2x xs v (hao : XG xs) l w x y (hll : l.length ≤ 1000000000000) (hcx : Rng x) (hcy : Rng y) I (hT : vU I) (hA : OO I xs v) (hl : a0c I l w) : Pure Tryz.prog 3 [v, w, .agg #[i64 x, i64 y]] I (.bool true) := by
 refine jO.toPure ?_
 have hp20 := b2I xs
 refine jU func3 fun w0 hw0 => ?_
 refine jL 3 ?_
 intro b1 hb1
 refine kC (a9Z _ hT) ?_
 refine sV (b2k xs _ hao _ hA) ?_
 intro v3 I4 H5 hle6 hn2 hp7
 have hA := hA.mono hle6
 have hT := hT.mono hle6
 have hl := hl.mono hle6
 obtain ⟨ib, o, rb, es, w, h, hok, hE, hL, hek, hel, rfl⟩ := hp7; cases h
 refine J.persists ((rb, _) :: RH ib o) hn2 (fun Ip hlep hK => ?_)
 have hA := hA.mono hlep
 have hT := hT.mono hlep
 have hl := hl.mono hlep
 have hx : zJ Ip ib (Ix.play (acts xs)) := ⟨o, hok.mono hlep, fun p hp => hK p (.tail _ hp)⟩
 have hy : zQ Ip rb es := zQ.of (hK (rb, _) (.head _)) (hE.mono hlep) (by omega) hek (hL ▸ Ix.b1T _)
 clear hok hE hK
 refine jL 8 ?_
 refine Cj.persist hb1 (fun I9 hle8 hb1i => ?_)
 have hA := hA.mono hle8
 have hT := hT.mono hle8
 have hl := hl.mono hle8
 have hx := hx.mono hle8
 have hy := hy.mono hle8
 refine Cj.named (fun Is hIs => ?_)
 subst hIs
 refine Cj.qC [] [] 9 (by kernel_rfl) ?_
 have hb1i_3 := hb1i
 refine JA.join (ι := RnS) (fun y => Le Is y.J ∧ w0.heap.size ≤ y.b ∧ PS y.J y.q1.ps y.p1 ∧ b0T y.q1 ∧ PS y.J y.q3.ps y.p3 ∧ y.q3.size ≤ 201 ∧ y.q3.wide ≤ 12007) (fun y => [(7, .bool true), (8, ptr ib 0), (9, ptr rb 0), (28, .agg (kD y.q1 y.p1 y.c1 ++ kD y.q3 y.p3 y.c3).toArray), (10, ptr y.b 0)]) (fun y => y.J) (fun y => [(y.b, jM 35 [i64 0, str [], str [], str [], .slice none 0 0, i64 0, str [], str [], str [], .slice none 0 0])]) #[true, true, true, true, true, true, true, true, false] 1 ?_ (fun hshare => ?_)
 ·rintro ⟨Jt, tb, qv, pq1, cq1, qw, pq3, cq3⟩ ⟨hleT, htb, hq1, hm1, hq3, hz3, hw3⟩
  dsimp only at hleT htb hq1 hm1 hq3 hz3 hw3 ⊢
  have hx := hx.mono hleT
  have hy := hy.mono hleT
  have hT := hT.mono hleT
  have hms1 := hm1.size
  have hmw1 := hm1.wide
  refine jL 1 ?_
  refine ⟨⟨hleT, HSub.n, CSub.n⟩, ?_⟩
  refine jL 4 ?_
  refine Cj.persist htb (fun I11 hle10 htbi => ?_)
  have hx := hx.mono hle10
  have hy := hy.mono hle10
  have hT := hT.mono hle10
  have hq1 := hq1.mono hle10
  have hq3 := hq3.mono hle10
  have hq13 : ∀ x ∈ ([⟨qv, pq1, cq1⟩, ⟨qw, pq3, cq3⟩] : List RQ), PS _ x.q.ps x.p := fun x hx => (List.mem_cons.1 hx).elim (fun e => by rw [e]; exact hq1) fun h => by rw [List.mem_singleton.1 h]; exact hq3
  refine jL 5 ?_
  refine Cj.loop (ι := Nat × Heap) (fun y => y.1 ≤ 2 ∧ zJ y.2 ib (Ix.play (acts xs)) ∧ zQ y.2 rb es ∧ vU y.2 ∧ (∀ x ∈ ([⟨qv, pq1, cq1⟩, ⟨qw, pq3, cq3⟩] : List RQ), PS y.2 x.q.ps x.p) ∧ y.2 tb = some (jM 35 (([⟨qv, pq1, cq1⟩, ⟨qw, pq3, cq3⟩] : List RQ).flatMap rqC ++ []))) (fun y => 2 - y.1) (fun y => [(7, .bool true), (8, ptr ib 0), (9, ptr rb 0), (10, ptr tb 0), (11, i64 (y.1 : Int))]) (fun y => y.2) (fun y => []) (0, _) ⟨Nat.zero_le _, hx, hy, hT, hq13, htbi⟩ ⟨rfl, rfl, rfl, rfl, rfl, trivial⟩ rfl rfl ?_
  rintro ⟨i, J2⟩ ⟨hi, hx, hy, hT, hqs, htbi⟩
  dsimp only at hi hx hy hT hqs htbi ⊢
  refine jS (fun hc12 hc12p => ?_) (fun hc12 hc12p => ?_)
  ·have hlt : i < 2 := by omega
   obtain ⟨x, hget⟩ : ∃ x, ([⟨qv, pq1, cq1⟩, ⟨qw, pq3, cq3⟩] : List RQ)[i]? = some x := ⟨_, kW hlt⟩
   have hxm := lX hget
   have hxp := hqs x hxm
   have hxz : x.q.size ≤ 201 ∧ x.q.wide ≤ 12007 := by
     rcases List.mem_cons.1 hxm with rfl | hx
     · exact ⟨by dsimp only; omega, by dsimp only; omega⟩
     rw [List.mem_singleton.1 hx]; exact ⟨hz3, hw3⟩
   refine kJ (i * 5) ?_
   refine J.z (q2 lT kE (jR.EH htbi) ((DW LJ hget).trans rfl)) ?_
   rcases hR : Cq.right x.q with _ | _
   ·skip
    refine kC (b4U (ptr ib 0) (Ix.play (acts xs)) x.q x.p x.c (by omega) (by omega) hR _ hxp) ?_
    refine kJ (i * 5) ?_
    refine J.z (q2 lT kE (jR.EH htbi) ((DW LJ hget).trans rfl)) ?_
    refine kC (b3l (ptr rb 0) x.q x.p x.c (by omega) hR _ hxp) ?_
    refine kC (GU [] [] _ _ (Nat.zero_le _) _ jW.nil jW.nil) ?_
    refine J.ev 55 (.bool true) rfl (congrArg Value.bool (decide_eq_true rfl)) ?_
    refine jL 3 ?_
    refine J.KT 9 58 false _ rfl rfl rfl (congrArg not rfl) (kV q3 rfl rfl ?_)
    refine J.KT 9 58 false _ rfl rfl rfl (congrArg not rfl) (kV (a3C rfl rfl rfl) rfl rfl ?_)
    refine J.KT 9 58 false _ rfl rfl rfl (congrArg not rfl) (kV q3 rfl rfl ?_)
    refine J.KT 9 58 false _ rfl rfl rfl (congrArg not rfl) (kV (mD (off' := i * 5) rfl rfl rfl a0X kE (by omega) (by omega) (by simp)) rfl rfl ?_)
    refine J.KT 9 58 false _ rfl rfl rfl (congrArg not rfl) (kV (q2 lT kE (jR.EH htbi) ((DW LJ hget).trans rfl)) rfl rfl ?_)
    refine kC (IJ x.q x.p x.c (by omega) (by omega) _ hxp) ?_
    refine J.KT 9 58 false _ rfl rfl rfl (congrArg not rfl) (kV (NJ rfl rfl rfl tU4) rfl rfl ?_)
    refine J.ev 65 (.bool false) rfl (congrArg Value.bool (by rw [hR]; rfl)) ?_
    refine J.z (OA rfl rfl (congrArg not rfl) rfl) ?_
    refine jL 11 ?_
    refine Ej.round (i + 1, _) ⟨by dsimp only; omega, hx, hy, hT, hqs, htbi⟩ (by dsimp only; omega) ⟨rfl, rfl, rfl, rfl, rfl, trivial⟩ rfl rfl
   skip
   refine sV (KN (ptr ib 0) (Ix.play (acts xs)) (x.q) x.p x.c (by omega) (by omega) hR (a6a (Ix.b2a _)) _ hxp (.inr ⟨ib, rfl, hx⟩) hT) ?_
   intro v15 I16 H17 hle18 hn14 hp19
   have hx := hx.mono hle18
   have hy := hy.mono hle18
   have hT := hT.mono hle18
   have hqs := fun x9 hx9 => (hqs x9 hx9).mono hle18
   have htbi := hle18 _ _ htbi
   have hxp := hxp.mono hle18
   obtain ⟨wc, rc, h, hrunc, hoc⟩ := hp19; cases h
   refine J.MR hoc hn14 (fun Ic hlec hrc => ?_)
   have hx := hx.mono hlec
   have hy := hy.mono hlec
   have hT := hT.mono hlec
   have hqs := fun x9 hx9 => (hqs x9 hx9).mono hlec
   have htbi := hlec _ _ htbi
   have hxp := hxp.mono hlec
   replace hrc := hrc.row
   obtain ⟨pc, cc, rfl⟩ := lC hrc
   refine kJ (i * 5) ?_
   refine J.z (q2 lT kE (jR.EH htbi) ((DW LJ hget).trans rfl)) ?_
   refine kL (b5x rb es x.q x.p x.c (by omega) (by omega) hR (by rw [hL]; exact Ix.b2a _) (by rw [hL]; exact a6a (Ix.b2a _)) _ hxp hy) ?_
   intro v20 I21 H22 hle23 hp24
   have hx := hx.mono hle23
   have hy := hy.mono hle23
   have hT := hT.mono hle23
   have hqs := fun x9 hx9 => (hqs x9 hx9).mono hle23
   have htbi := hle23 _ _ htbi
   have hxp := hxp.mono hle23
   have hrc := hrc.mono hle23
   obtain ⟨vd, rc0, h, hrund, hrd, rfl⟩ := hp24; cases h
   rw [hL] at hrund
   obtain rfl : rc = rc0 := hrunc.eq hrund
   obtain ⟨pd, cd, rfl⟩ := lC hrd
   refine kC (GU rc rc _ _ (nP hrunc.len (by omega)) _ hrc hrd) ?_
   refine J.ev 55 (.bool true) rfl (congrArg Value.bool (decide_eq_true rfl)) ?_
   refine jL 3 ?_
   refine J.KT 9 58 false _ rfl rfl rfl (congrArg not rfl) (kV q3 rfl rfl ?_)
   refine J.KT 9 58 false _ rfl rfl rfl (congrArg not rfl) (kV (a3C rfl rfl rfl) rfl rfl ?_)
   refine J.KT 9 58 false _ rfl rfl rfl (congrArg not rfl) (kV q3 rfl rfl ?_)
   refine J.KT 9 58 false _ rfl rfl rfl (congrArg not rfl) (kV (mD (off' := i * 5) rfl rfl rfl a0X kE (by omega) (by omega) (by simp)) rfl rfl ?_)
   refine J.KT 9 58 false _ rfl rfl rfl (congrArg not rfl) (kV (q2 lT kE (jR.EH htbi) ((DW LJ hget).trans rfl)) rfl rfl ?_)
   refine kC (IJ x.q x.p x.c (by omega) (by omega) _ hxp) ?_
   refine J.KT 9 58 false _ rfl rfl rfl (congrArg not rfl) (kV (NJ rfl rfl rfl tU4) rfl rfl ?_)
   refine J.ev 65 (.bool false) rfl (congrArg Value.bool (by rw [hR]; rfl)) ?_
   refine J.z (OA rfl rfl (congrArg not rfl) rfl) ?_
   refine jL 11 ?_
   refine Ej.round (i + 1, _) ⟨by dsimp only; omega, hx, hy, hT, hqs, htbi⟩ (by dsimp only; omega) ⟨rfl, rfl, rfl, rfl, rfl, trivial⟩ rfl rfl
  refine jV ?_
  exact ⟨rfl, rfl⟩
 refine jL 3 ?_
 refine JA.all [1, 7] (by kernel_rfl) (by simp) ?_
 intro i hi
 simp only [List.mem_cons, List.not_mem_nil, or_false] at hi
 rcases hi with rfl | rfl
 ·refine ⟨_, rfl, rfl, ?_⟩
  refine kL (CW _ l hll _ hl) ?_
  intro v27 I28 H29 hle30 hp31
  have hA := hA.mono hle30
  have hT := hT.mono hle30
  have hl := hl.mono hle30
  have hx := hx.mono hle30
  have hy := hy.mono hle30
  have hb1i := hle30 _ _ hb1i
  obtain ⟨⟨qv, v27x, hv27, ⟨pq1, cq1, rfl, hq1⟩, hm1⟩, rfl⟩ := hp31; cases hv27
  have hmd1 := hm1.depth
  have hms1 := hm1.size
  have hmw1 := hm1.wide
  refine jL 1 ?_
  refine JA.all [3, 7] (by kernel_rfl) (by simp) ?_
  intro i hi
  simp only [List.mem_cons, List.not_mem_nil, or_false] at hi
  rcases hi with rfl | rfl
  ·refine ⟨_, rfl, rfl, ?_⟩
   refine kL (CW _ l hll _ hl) ?_
   intro v32 I33 H34 hle35 hp36
   have hA := hA.mono hle35
   have hT := hT.mono hle35
   have hl := hl.mono hle35
   have hx := hx.mono hle35
   have hy := hy.mono hle35
   have hb1i := hle35 _ _ hb1i
   have hq1 := hq1.mono hle35
   obtain ⟨⟨q2, v32x, hv32, ⟨pq2, cq2, rfl, hq2⟩, hm2⟩, rfl⟩ := hp36; cases hv32
   have hmd2 := hm2.depth
   have hms2 := hm2.size
   have hmw2 := hm2.wide
   refine jL 1 ?_
   refine JA.all [5, 7] (by kernel_rfl) (by simp) ?_
   intro i hi
   simp only [List.mem_cons, List.not_mem_nil, or_false] at hi
   rcases hi with rfl | rfl
   ·refine ⟨_, rfl, rfl, ?_⟩
    refine kL (FD q2 pq2 cq2 x y _ hq2 (by omega) hcx hcy) ?_
    intro v37 I38 H39 hle40 hp41
    have hA := hA.mono hle40
    have hT := hT.mono hle40
    have hl := hl.mono hle40
    have hx := hx.mono hle40
    have hy := hy.mono hle40
    have hb1i := hle40 _ _ hb1i
    have hq1 := hq1.mono hle40
    have hq2 := hq2.mono hle40
    obtain ⟨⟨qw, v37x, hv37, ⟨pq3, cq3, rfl, hq3⟩, hz3, hw3⟩, rfl⟩ := hp41; cases hv37
    refine jL 1 ?_
    refine JA.zt 6 rfl (vT (zs := [i64 0, str [], str [], str [], .slice none 0 0, i64 0, str [], str [], str [], .slice none 0 0]) (vs := [.agg (kD qv pq1 cq1).toArray, .agg (kD qw pq3 cq3).toArray]) (cs := kD qv pq1 cq1 ++ kD qw pq3 cq3) rfl rfl WC rfl a0X kE (MW qv qw pq1 pq3 cq1 cq3)) ?_
    refine jL 1 ?_
    intro b43 hb43
    refine jL 1 ?_
    exact hshare ⟨_, b43, qv, pq1, cq1, qw, pq3, cq3⟩ _ _ _ _ _ ⟨(Le.trans (Le.trans (Le.trans (Le.refl _) hle30) hle35) hle40), hb43, hq1, hm1, hq3, by dsimp only; omega, by dsimp only; omega⟩ (by kernel_rfl) rfl ⟨rfl, rfl, rfl, rfl, rfl, trivial⟩ rfl rfl
   refine ⟨_, rfl, rfl, ?_⟩
   refine qI rfl rfl rfl WC rfl ?_
   intro b44 hb44
   refine kL (FD q2 pq2 cq2 x y _ hq2 (by omega) hcx hcy) ?_
   intro v45 I46 H47 hle48 hp49
   have hA := hA.mono hle48
   have hT := hT.mono hle48
   have hl := hl.mono hle48
   have hx := hx.mono hle48
   have hy := hy.mono hle48
   have hb1i := hle48 _ _ hb1i
   have hq1 := hq1.mono hle48
   have hq2 := hq2.mono hle48
   obtain ⟨⟨qw, v45x, hv45, ⟨pq3, cq3, rfl, hq3⟩, hz3, hw3⟩, rfl⟩ := hp49; cases hv45
   refine jL 1 ?_
   refine JA.zt 6 rfl (vT (zs := [i64 0, str [], str [], str [], .slice none 0 0, i64 0, str [], str [], str [], .slice none 0 0]) (vs := [.agg (kD qv pq1 cq1).toArray, .agg (kD qw pq3 cq3).toArray]) (cs := kD qv pq1 cq1 ++ kD qw pq3 cq3) rfl rfl WC rfl a0X kE (MW qv qw pq1 pq3 cq1 cq3)) ?_
   exact hshare ⟨_, b44, qv, pq1, cq1, qw, pq3, cq3⟩ _ _ _ _ _ ⟨(Le.trans (Le.trans (Le.trans (Le.refl _) hle30) hle35) hle48), hb44, hq1, hm1, hq3, by dsimp only; omega, by dsimp only; omega⟩ (by kernel_rfl) rfl ⟨rfl, rfl, rfl, rfl, rfl, trivial⟩ rfl rfl
  refine ⟨_, rfl, rfl, ?_⟩
  refine qI rfl rfl rfl WC rfl ?_
  intro b51 hb51
  refine kL (CW _ l hll _ hl) ?_
  intro v52 I53 H54 hle55 hp56
  have hA := hA.mono hle55
  have hT := hT.mono hle55
  have hl := hl.mono hle55
  have hx := hx.mono hle55
  have hy := hy.mono hle55
  have hb1i := hle55 _ _ hb1i
  have hq1 := hq1.mono hle55
  obtain ⟨⟨q2, v52x, hv52, ⟨pq2, cq2, rfl, hq2⟩, hm2⟩, rfl⟩ := hp56; cases hv52
  have hmd2 := hm2.depth
  have hms2 := hm2.size
  have hmw2 := hm2.wide
  refine kL (FD q2 pq2 cq2 x y _ hq2 (by omega) hcx hcy) ?_
  intro v57 I58 H59 hle60 hp61
  have hA := hA.mono hle60
  have hT := hT.mono hle60
  have hl := hl.mono hle60
  have hx := hx.mono hle60
  have hy := hy.mono hle60
  have hb1i := hle60 _ _ hb1i
  have hq1 := hq1.mono hle60
  have hq2 := hq2.mono hle60
  obtain ⟨⟨qw, v57x, hv57, ⟨pq3, cq3, rfl, hq3⟩, hz3, hw3⟩, rfl⟩ := hp61; cases hv57
  refine jL 1 ?_
  refine JA.zt 6 rfl (vT (zs := [i64 0, str [], str [], str [], .slice none 0 0, i64 0, str [], str [], str [], .slice none 0 0]) (vs := [.agg (kD qv pq1 cq1).toArray, .agg (kD qw pq3 cq3).toArray]) (cs := kD qv pq1 cq1 ++ kD qw pq3 cq3) rfl rfl WC rfl a0X kE (MW qv qw pq1 pq3 cq1 cq3)) ?_
  exact hshare ⟨_, b51, qv, pq1, cq1, qw, pq3, cq3⟩ _ _ _ _ _ ⟨(Le.trans (Le.trans (Le.trans (Le.refl _) hle30) hle55) hle60), hb51, hq1, hm1, hq3, by dsimp only; omega, by dsimp only; omega⟩ (by kernel_rfl) rfl ⟨rfl, rfl, rfl, rfl, rfl, trivial⟩ rfl rfl
 refine ⟨_, rfl, rfl, ?_⟩
 refine qI rfl rfl rfl WC rfl ?_
 intro b63 hb63
 refine kL (CW _ l hll _ hl) ?_
 intro v64 I65 H66 hle67 hp68
 have hA := hA.mono hle67
 have hT := hT.mono hle67
 have hl := hl.mono hle67
 have hx := hx.mono hle67
 have hy := hy.mono hle67
 have hb1i := hle67 _ _ hb1i
 obtain ⟨⟨qv, v64x, hv64, ⟨pq1, cq1, rfl, hq1⟩, hm1⟩, rfl⟩ := hp68; cases hv64
 have hmd1 := hm1.depth
 have hms1 := hm1.size
 have hmw1 := hm1.wide
 refine kL (CW _ l hll _ hl) ?_
 intro v69 I70 H71 hle72 hp73
 have hA := hA.mono hle72
 have hT := hT.mono hle72
 have hl := hl.mono hle72
 have hx := hx.mono hle72
 have hy := hy.mono hle72
 have hb1i := hle72 _ _ hb1i
 have hq1 := hq1.mono hle72
 obtain ⟨⟨q2, v69x, hv69, ⟨pq2, cq2, rfl, hq2⟩, hm2⟩, rfl⟩ := hp73; cases hv69
 have hmd2 := hm2.depth
 have hms2 := hm2.size
 have hmw2 := hm2.wide
 refine kL (FD q2 pq2 cq2 x y _ hq2 (by omega) hcx hcy) ?_
 intro v74 I75 H76 hle77 hp78
 have hA := hA.mono hle77
 have hT := hT.mono hle77
 have hl := hl.mono hle77
 have hx := hx.mono hle77
 have hy := hy.mono hle77
 have hb1i := hle77 _ _ hb1i
 have hq1 := hq1.mono hle77
 have hq2 := hq2.mono hle77
 obtain ⟨⟨qw, v74x, hv74, ⟨pq3, cq3, rfl, hq3⟩, hz3, hw3⟩, rfl⟩ := hp78; cases hv74
 refine jL 1 ?_
 refine JA.zt 6 rfl (vT (zs := [i64 0, str [], str [], str [], .slice none 0 0, i64 0, str [], str [], str [], .slice none 0 0]) (vs := [.agg (kD qv pq1 cq1).toArray, .agg (kD qw pq3 cq3).toArray]) (cs := kD qv pq1 cq1 ++ kD qw pq3 cq3) rfl rfl WC rfl a0X kE (MW qv qw pq1 pq3 cq1 cq3)) ?_
 exact hshare ⟨_, b63, qv, pq1, cq1, qw, pq3, cq3⟩ _ _ _ _ _ ⟨(Le.trans (Le.trans (Le.trans (Le.refl _) hle67) hle72) hle77), hb63, hq1, hm1, hq3, by dsimp only; omega, by dsimp only; omega⟩ (by kernel_rfl) rfl ⟨rfl, rfl, rfl, rfl, rfl, trivial⟩ rfl rfl
end Go.Proofs.YtekmeaoblpfnpaaGreatDoor
end
namespace Go.Proofs.YtekmeaoblpfnpaaGreatDoor
open Go.ChangeShapes Go.WideShapes Go.ChangeAt Go.RowKit Go.Sx Go.Lib Go.ChangeMaps
theorem a4b {P W name k zs g t e n}
    (hg : P.globalNamed name = some g) (hty : (P.globals[g]?).map (·.type) = some t) (ht : P.underlying t = some (.array n e)) (he : P.underlying e = some (.int k)) (hce : P.cellsOf e = 1) (hct : P.cellsOf t = n)
    (h : VarReads P W name (tabData k zs)) : TabIs P W name k zs := by
  obtain ⟨g', t', cs, fuel, p, hg', ht', hvar, hd⟩ := h
  obtain rfl := Option.some.inj (hg.symm.trans hg')
  obtain rfl := Option.some.inj (hty.symm.trans ht')
  unfold TabIs
  rw [hvar, ← cells_of_tab ht he hce hct hd]
theorem b5l {W L} (hL : laidMet Tryz.prog L W) (hw : ("unicode.White_Space", Rows.laid_unicode_White_Space) ∈ L) (ha : ("strings.asciiSpace", Rows.laid_strings_asciiSpace) ∈ L) : vU (HW W) := by
  have e1 : (Rows.laid_unicode_White_Space : DataW Unit) = whiteData := by kernel_rfl
  have e2 : (Rows.laid_strings_asciiSpace : DataW Unit) = tabData .u8 asciiSpaceTab := by kernel_rfl
  have hT : TabIs Tryz.prog W "strings.asciiSpace" .u8 asciiSpaceTab := a4b (g := 1) (t := Tryz.lays157_ren.t 119) (e := Tryz.lays157_ren.t 5) (n := 256) (by kernel_rfl) (by kernel_rfl) Tryz.lays157.t119 Tryz.lays157.t5 (by kernel_rfl) (by kernel_rfl) (e2 ▸ laidMet.reads hL ha)
  have hS : WhiteTab 3 W := whiteTab_of_reads (ρ := Tryz.lays157_ren) { Tryz.lays157 with } ⟨by kernel_rfl, by kernel_rfl, by kernel_rfl, by kernel_rfl, by kernel_rfl, by kernel_rfl, by kernel_rfl, by kernel_rfl⟩ (e1 ▸ laidMet.reads hL hw)
  intro w hwW
  have key : ∀ (a : Addr) (v : Value), W.cell? a = some v → w.cell? a = some v := fun a v h => by
    have h0 := h
    unfold World.cell? at h
    cases hb : W.heap[a.block]? with
    | none => rw [hb] at h; cases h
    | some o =>
      have := World.cell?_of_block (w := w) (w' := W) (a := a) (by rw [hwW _ _ hb, hb])
      rw [← this]; exact h0
  refine ⟨?_, ?_⟩
  · unfold TabIs World.var? at hT ⊢
    have hg : Tryz.prog.globalNamed "strings.asciiSpace" = some 1 := by kernel_rfl
    rw [hg] at hT ⊢
    simp only [Option.bind_some] at hT ⊢
    cases hb : W.heap[(1 : Nat)]? with
    | none => rw [hb] at hT; cases hT
    | some o => rw [hwW _ _ hb]; rw [hb] at hT; exact hT
  obtain ⟨T, oT, R, oR, h1, h2, h3, h4, h5⟩ := hS
  exact ⟨T, oT, R, oR, key _ _ h1, key _ _ h2, key _ _ h3, key _ _ h4, fun i hi => key _ _ (h5 i hi)⟩
end Go.Proofs.YtekmeaoblpfnpaaGreatDoor
namespace Go.Proofs.YtekmeaoblpfnpaaGreatDoor
open Go.ChangeShapes Go.WideShapes Go.ChangeAt Go.RowKit Go.Sx Go.Lib Go.ChangeMaps Go.WideMaps
section
variable {H:Type} {enc:TypeId×Value→H} {W:World} {base:Nat}
theorem Arg.field {fs : Array Field} {cs : List Value} {ms : List Nat} (h : ∀ (i : Nat) f m', fs[i]? = some f → ms[i]? = some m' → Arg enc W f.type ((cs.drop f.offset).take (Tryz.prog.cellsOf f.type)) m') (i : Nat) {f m t o k}
    (hf : fs[i]? = some f) (hm : ms[i]? = some m) (ht : f.type = t) (ho : f.offset = o) (hc : Tryz.prog.cellsOf t = k) : Arg enc W t ((cs.drop o).take k) m := by
  subst ht ho hc
  exact h i f m hf hm
theorem list4 {α : Type} {l : List α} (h : l.length = 4) : ∃ a b c d, l = [a, b, c, d] := by
  match l, h with
  | [a, b, c, d], _ => exact ⟨a, b, c, d, rfl⟩
theorem b6R {α : Type} {l : List α} (h : l.length = 2) : ∃ a b, l = [a, b] := by
  match l, h with
  | [a, b], _ => exact ⟨a, b, rfl⟩
theorem b4K {n} (h : (Lit.int .i64 n).wf = true) : In64 n := by
  have h1 : (decide (-9223372036854775808 ≤ n) && decide (n ≤ 9223372036854775807)) = true := h
  rw [Bool.and_eq_true, decide_eq_true_eq, decide_eq_true_eq] at h1
  exact h1
theorem Arg.elem {e k} {cs : List Value} {ms : List Nat} (h : ∀ (i m' : Nat), ms[i]? = some m' → Arg enc W e ((cs.drop (i * 1)).take 1) m') (he : Tryz.prog.underlying e = some (.int .i64)) (hml : ms.length = k) i (hi : i < k) : ∃ z : Int, cs[i]? = some (i64 z) ∧ In64 z := by
  have hm : ms[i]? = some (ms[i]'(by omega)) := List.getElem?_eq_getElem _
  obtain ⟨z, hz, hw, _⟩ := (h i _ hm).int he
  refine ⟨z, ?_, b4K hw⟩
  have := congrArg (fun l => l[0]?) hz
  simpa [List.getElem?_drop] using this
theorem b0v {cs} (hl : cs.length = 4) (h : ∀ i, i < 4 → ∃ z : Int, cs[i]? = some (i64 z) ∧ In64 z) : ∃ q : Ix.Four, cs = wY q ∧ AL q := by
  match cs, hl with
  | [a, b, c, d], _ =>
    obtain ⟨z0, e0, w0⟩ := h 0 (by decide)
    obtain ⟨z1, e1, w1⟩ := h 1 (by decide)
    obtain ⟨z2, e2, w2⟩ := h 2 (by decide)
    obtain ⟨z3, e3, w3⟩ := h 3 (by decide)
    cases e0; cases e1; cases e2; cases e3
    exact ⟨⟨z0, z1, z2, z3⟩, rfl, ⟨w0, w1, w2, w3⟩⟩
theorem Arg.four {cs m} (h : Arg enc W 215 cs m) : ∃ q : Ix.Four, cs = wY q ∧ AL q := by
  obtain ⟨hl, ms, hml, _, hf⟩ := h.array Tryz.underlying215
  rw [show Tryz.prog.cellsOf 215 = 4 by kernel_rfl] at hl
  rw [show Tryz.prog.cellsOf 3 = 1 by kernel_rfl] at hf
  exact b0v hl fun i hi => Arg.elem hf Tryz.underlying3 hml i hi
theorem Arg.act {cs m} (h : Arg enc W 93 cs m) : ∃ x : Act, cs = a0N x ∧ jW wY (HW W) x.a.fs x.v ∧ ∀ q ∈ x.a.fs, AL q := by
  obtain ⟨hl, ms, hml, hms, hf⟩ := h.struct Tryz.underlying93
  rw [show Tryz.prog.cellsOf 93 = 4 by kernel_rfl] at hl
  obtain ⟨a, b, c, d, rfl⟩ := list4 hl
  obtain ⟨m0, m1, m2, m3, rfl⟩ := list4 hml
  have cI : Tryz.prog.cellsOf 3 = 1 := by kernel_rfl
  obtain ⟨b0, h0⟩ := (Arg.field hf (o := 0) 0 rfl rfl rfl rfl (show Tryz.prog.cellsOf 4 = 1 by kernel_rfl)).bool Tryz.underlying4
  obtain ⟨z1, h1, _, _⟩ := (Arg.field hf (o := 1) 1 rfl rfl rfl rfl cI).int Tryz.underlying3
  obtain ⟨z2, h2, _, _⟩ := (Arg.field hf (o := 2) 2 rfl rfl rfl rfl cI).int Tryz.underlying3
  obtain ⟨l, v, h3, hr, _, _, hq⟩ := (Arg.field hf (o := 3) 3 rfl rfl rfl rfl (show Tryz.prog.cellsOf 91 = 1 by kernel_rfl)).row (f := wY) (size := fun _ => 0) Tryz.underlying91 (show Tryz.prog.cellsOf 215 = 4 by kernel_rfl) (by decide) AL fun cs m' _ h => by
    obtain ⟨q, h1, h2⟩ := h.four
    exact ⟨q, h1, Nat.zero_le _, h2⟩
  simp only [List.drop_zero, List.drop_succ_cons, List.take_succ_cons, List.take_zero, List.cons.injEq, and_true] at h0 h1 h2 h3
  subst h0 h1 h2 h3
  exact ⟨⟨⟨b0, z1, z2, l⟩, d⟩, rfl, hr, hq⟩
theorem b2G {v d p} (hval : Value.okWide Tryz.prog W .any base 22 v) (h : DataW.Trod enc Tryz.prog W 0 (fun _ => true) true 22 v d p) (hlt : ∀ x ∈ p, x.block < W.heap.size) :
    ∃ xs : List Act, OO (HW W) xs v ∧ XG xs ∧ Again enc W 22 v d p := by
  have hag := again (by kernel_rfl) (of_decide_eq_true (by kernel_rfl)) h hlt
  obtain ⟨a, len, cap, rfl⟩ := okWide_slice Tryz.underlying22 hval
  obtain ⟨xs, v', h1, h2, _, _, h4⟩ := (Arg.of h).row (f := a0N) (size := fun _ => 0) Tryz.underlying22 (show Tryz.prog.cellsOf 93 = 4 by kernel_rfl) (by decide) (fun x => jW wY (HW W) x.a.fs x.v ∧ ∀ q ∈ x.a.fs, AL q) fun cs m' _ h => by
    obtain ⟨x, h1, h2, h3⟩ := h.act
    exact ⟨x, h1, Nat.zero_le _, h2, h3⟩
  obtain rfl : Value.slice a len cap = v' := by simpa [Value.cells] using h1
  exact ⟨xs, ⟨h2, fun x hx => (h4 x hx).1⟩, fun x hx => (h4 x hx).2, hag⟩
end
section
variable {H:Type} {enc:TypeId×Value→H} {W:World} {base:Nat}
theorem b2q {v d p} (hval : Value.okWide Tryz.prog W .any base 24 v) (h : DataW.Trod enc Tryz.prog W 0 (fun _ => true) true 24 v d p) (hlt : ∀ x ∈ p, x.block < W.heap.size) :
    ∃ a b : Int, v = .agg #[i64 a, i64 b] ∧ Rng a ∧ Rng b ∧ Again enc W 24 v d p := by
  have hag := again (by kernel_rfl) (of_decide_eq_true (by kernel_rfl)) h hlt
  obtain ⟨xs, rfl, _⟩ := okWide_arr ⟨Tryz.underlying24, (by kernel_rfl), (by kernel_rfl), (by kernel_rfl)⟩ hval
  obtain ⟨hl, ms, hml, _, hf⟩ := (Arg.of h).array Tryz.underlying24
  rw [show Tryz.prog.cellsOf 3 = 1 by kernel_rfl] at hf
  have hxl : xs.toList.length = 2 := by rw [show Tryz.prog.cellsOf 24 = 2 by kernel_rfl] at hl; exact hl
  obtain ⟨x, y, hxs⟩ := b6R hxl
  obtain rfl : xs = #[x, y] := by rw [← Array.toArray_toList (xs := xs), hxs]
  obtain ⟨a, ha, wa⟩ := Arg.elem hf Tryz.underlying3 hml 0 (by decide)
  obtain ⟨b, hb, wb⟩ := Arg.elem hf Tryz.underlying3 hml 1 (by decide)
  cases ha; cases hb
  exact ⟨a, b, rfl, wa, wb, hag⟩
