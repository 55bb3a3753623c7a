/-
  Own texts on the laws of the seat, joined: the logic, and contracts of functions. Conditions: none.
-/
import Derived.Test.YtekmeaoblpfnpaaGreatDoorNmC
import Derived.Test.YtekmeaoblpfnpaaGreatDoorPC13
import Derived.Lib.LaidU8
set_option linter.all false
set_option maxRecDepth 100000
set_option maxHeartbeats 40000000
section
namespace Ix
open _root_.Go.Proofs.Tryz
open Cq
theorem a7z {α : Type} (f : α → Nat) : ∀ {l : List α} {x : α}, x ∈ l → f x ≤ (l.map f).sum
  | y :: l, x, h => by
    rw [List.map_cons, List.sum_cons]
    rcases List.mem_cons.1 h with g | g
    · rw [g]; omega
    have := a7z f g; omega
theorem b2Z {kind q x} (hk : kind ≠ 1) (hq : form q = true) (h : x ∈ lst kind q) : form x = true ∧ x.wide ≤ q.wide ∧ x.size ≤ q.size := by
  obtain ⟨h1, _, h3⟩ := QO JW hk _ q (Nat.lt_succ_self _) hq
  obtain ⟨h4, _, _⟩ := QO FY hk _ q (Nat.lt_succ_self _) hq
  have h5 := a7z Qn.wide h
  have h6 := a7z (fun q : Qn => q.size + 2) h
  exact ⟨h3 x h, by omega, by omega⟩
end Ix
namespace Go.Proofs.YtekmeaoblpfnpaaGreatDoor
open Go Go.Sx Go.Stab
structure PlA where
  J : Heap
  pA : Option Addr
  cA : Nat
  pB : Option Addr
  cB : Nat
  b5 : Nat
  b6 : Nat
  m : ML (List UInt8)
  k : Nat
structure PlC where
  J : Heap
  pC : Option Addr
  cC : Nat
  b7 : Nat
  m : ML (List UInt8)
  k : Nat
def a3a (xv : Value) (L : Ix.Ix) (pb mb n : Nat) : Prop := ∀ (q : Cq.Qn) (p : Option Addr) (c : Nat) (m0 : ML (List UInt8)) (k0 : Nat) (I : Heap), q.size < n → Cq.form q = true → q.wide ≤ 10000000 → q.size ≤ 10000000 → PS I q.ps p → Pnr I xv L pb mb → WC L m0 →
  yY Tryz.prog 93 [ptr pb 0, .agg (zW q p c).toArray] I (mpH mb (m0, k0)) (fun e I' H' => ∃ (p' : Option Addr) (c' : Nat) (s' : MpS), e = .returned (.agg (zW (Ix.BO (DZ L) n q) p' c').toArray) ∧ PS I' (Ix.BO (DZ L) n q).ps p' ∧ WC L s'.1 ∧ H' = mpH mb s')
theorem QL.ok {I l v kind q} (h : QL I l v) (he : l.map QI.q = Ix.lst kind q) (hk : kind ≠ 1) (hq : Cq.form q = true) (hw : q.wide ≤ 10000000) (hs : q.size ≤ 10000000) : ∀ x ∈ l, QOk I x := fun x hx => by
  obtain ⟨h1, h2, h3⟩ := Ix.b2Z hk hq (he ▸ List.mem_map_of_mem hx : x.q ∈ Ix.lst kind q)
  exact ⟨h.2 x hx, h1, by omega, by omega⟩
theorem b3I xv L (htk : Ix.RU L) (hL : Ix.AL L) pb mb n (ih : a3a xv L pb mb n) : a3a xv L pb mb (n + 1) := by
 intro q p c m0 k0 I hn hform hwd hsz hps hP hm0
 refine yY.ob Tryz.func93 ?_
 intro w0 hw0
 refine Cj.sr (J.op rfl (IU rfl rfl rfl rfl rfl ?_))
 intro b1 hb1
 refine J.op rfl (BM rfl rfl rfl DW rfl ?_)
 intro b2 hb2
 refine J.a0G (Cj.region (J.z (DJ (off' := 0) tU32 OL) ?_))
 refine J.z (DN XJ (yZ.at 1 rfl)) ?_
 refine J.z (a4h rfl rfl rfl) ?_
 refine J.cd (fun hc3 => ?_) (fun hc3 => ?_)
 ·have hc3p := IC hc3
  refine Cj.sr (J.z (AY rfl rfl BG zK (yZ.at 1 rfl) rfl rfl) ?_)
  refine J.op rfl (DV 0 zK (yV.c (yV.c (yV.c (yV.c (yV.c yV.z))))) yX.z ?_)
  refine J.ns (Cj.rs ?_)
  have hk : q.k = 1 := IC hc3
  refine Ej.NC (Keeps.d (Keeps.d (Keeps.k Keeps.n))) rfl rfl rfl (yZ.at 0 rfl) BG zK rfl ?_
  rw [Ix.a1r _ hk]
  exact ⟨p, c, (m0, k0), rfl, hps, hm0, rfl⟩
 have hc3p := JY hc3
 have hk1 : q.k ≠ 1 := JY hc3
 obtain ⟨_, hk2, hk4, qa, qb, htw, hfa, hfb⟩ := (Cq.EO hform).resolve_left hk1
 obtain ⟨bl, off, cs', T, fr, pa, ca, pb2, cb, rfl, hbl, hca, hcb, hkb, hpa, hpb⟩ := hps.WL htw
 have hsz2 := htw.size
 have hwd2 := htw.wide
 have hln := htw.len
 obtain ⟨hA1, hA2, hA3⟩ := Ix.TD Ix.JW Ix.FY (DZ L) n qa (by omega) hfa
 obtain ⟨hB1, hB2, hB3⟩ := Ix.TD Ix.JW Ix.FY (DZ L) n qb (by omega) hfb
 have hfq := Ix.JW.two htw hk1 hform
 have hzq := Ix.FY.two htw hk1 hform
 obtain ⟨A, hAe⟩ : ∃ A, A = Ix.BO (DZ L) n qa := ⟨_, rfl⟩
 obtain ⟨Bq, hBe⟩ : ∃ B, B = Ix.BO (DZ L) n qb := ⟨_, rfl⟩
 rw [← hAe] at hA1 hA2 hA3
 rw [← hBe] at hB1 hB2 hB3
 refine Cj.ks (Cj.join (ι := PlA) (fun y => PS y.J A.ps y.pA ∧ PS y.J Bq.ps y.pB ∧ WC L y.m ∧ Pnr y.J xv L pb mb) (fun y => [(0, ptr pb 0), (3, ptr b1 0), (4, ptr b2 0), (5, ptr y.b5 0), (6, ptr y.b6 0)]) (fun y => y.J) (fun y => [(y.b5, zJ 32 (zW A y.pA y.cA)), (y.b6, zJ 32 (zW Bq y.pB y.cB)), (b2, zJ 32 (zW Cq.zero none 0)), (b1, zJ 32 (zW q (some ⟨bl, off, none⟩) c)), (mb, zQ (fun a : List UInt8 => str a) y.m y.k)]) ?_ (fun hcut => ?_))
 ·rintro ⟨J1, pA, cA, pB, cB, b5, b6, m2, k2⟩ ⟨hpA, hpB, hm2, hP⟩
  dsimp only at hpA hpB hm2 hP ⊢
  refine Cj.seq (Cj.block (Cj.sr (J.z (DJ (off' := 0) tU32 OL) ?_)))
  refine J.z (DN XJ (yZ.at 3 rfl)) ?_
  refine J.z (a7m rfl rfl rfl) ?_
  refine J.z GH ?_
  refine J.cd (fun hc4 => ?_) (fun hc4 => ?_)
  ·have hc4p := bne_iff_ne.1 hc4
   have hk4 : q.k ≠ 4 := bne_iff_ne.1 hc4
   refine Cj.seq (Cj.AU [0, 1, 3] [] 15 (by kernel_rfl) ?_)
   have hbl_5 := hbl
   refine JA.fix ⟨(HSub.c 0 rfl (HSub.c 1 rfl (HSub.c 3 rfl HSub.n))), CSub.n, (Le.refl _)⟩ (fun fx5 => ?_)
   refine JA.tk 0 rfl fx5 BQ ?_
   refine JA.tk 1 rfl fx5 (AY rfl rfl BG zK (yZ.EZ 0 rfl) rfl rfl) ?_
   refine JA.tk 2 rfl fx5 (DJ (off' := 0) tU32 OL) ?_
   refine JA.tk 3 rfl fx5 (DN XJ (yZ.EZ 2 rfl)) ?_
   refine JA.tk 5 rfl fx5 (AY rfl rfl BG zK (yZ.EZ 1 rfl) rfl rfl) ?_
   refine JA.tk 6 rfl fx5 (DJ (off' := 0) tU32 OL) ?_
   refine JA.tk 7 rfl fx5 (DN XJ (yZ.EZ 2 rfl)) ?_
   refine JA.tk 11 rfl fx5 (DJ (off' := 0) tU32 OL) ?_
   refine JA.tk 12 rfl fx5 (DN XJ (yZ.EZ 2 rfl)) ?_
   refine zT 4 rfl (zN (H1 := []) rfl rfl rfl rfl rfl (b0c A q.k pA cA _ hpA hA1 hk1 (by omega)) ?_ (fun _ _ _ _ h => by obtain ⟨⟨_, _, h, _⟩, _⟩ := h; cases h) (fun _ _ h => by obtain ⟨⟨_, _, h, _⟩, _⟩ := h; cases h))
   intro v6 I7 H8 hle9 hp10
   have hpA := hpA.mono hle9
   have hpB := hpB.mono hle9
   have hP := hP.mono hle9
   obtain ⟨⟨lA, vA, h, hlA, heA⟩, rfl⟩ := hp10; cases h
   have hzA := Ix.a2y hk1 hA1
   rw [← heA, List.length_map] at hzA
   obtain ⟨pA', cA', hvA, -, -⟩ := id hlA.1
   subst hvA
   refine ⟨⟨(Le.trans (Le.refl _) hle9), (HSub.c 0 rfl (HSub.c 1 rfl (HSub.c 3 rfl HSub.n))), CSub.n⟩, ?_⟩
   refine zT 8 rfl (zN (H1 := []) rfl rfl rfl rfl rfl (b0c Bq q.k pB cB _ hpB hB1 hk1 (by omega)) ?_ (fun _ _ _ _ h => by obtain ⟨⟨_, _, h, _⟩, _⟩ := h; cases h) (fun _ _ h => by obtain ⟨⟨_, _, h, _⟩, _⟩ := h; cases h))
   intro v11 I12 H13 hle14 hp15
   have hpA := hpA.mono hle14
   have hpB := hpB.mono hle14
   have hP := hP.mono hle14
   have hlA := hlA.mono hle14
   obtain ⟨⟨lB, vB, h, hlB, heB⟩, rfl⟩ := hp15; cases h
   have hzB := Ix.a2y hk1 hB1
   rw [← heB, List.length_map] at hzB
   obtain ⟨pB', cB', hvB, -, -⟩ := id hlB.1
   subst hvB
   refine ⟨⟨(Le.trans (Le.trans (Le.refl _) hle9) hle14), (HSub.c 0 rfl (HSub.c 1 rfl (HSub.c 3 rfl HSub.n))), CSub.n⟩, ?_⟩
   refine zT 9 rfl (zY rfl rfl rfl Tryz.underlying262 MV Tryz.zeroValue30 rfl rfl rfl rfl (zM.one rfl (zM.one rfl zM.none)) ?_)
   intro b16 hb16
   refine ⟨⟨(Le.trans (Le.trans (Le.refl _) hle9) hle14), (HSub.c 1 rfl (HSub.c 2 rfl (HSub.c 4 rfl HSub.n))), CSub.n⟩, ?_⟩
   refine JA.pull Pull.z ?_
   refine zT 10 rfl (zN (H1 := [_]) rfl rfl rfl rfl rfl (a5t lA lB _ _ _ (by omega) (by omega) _ hlA.1 hlB.1) ?_ (fun _ _ _ _ ⟨_, h, _⟩ => by cases h) (fun _ _ ⟨_, h, _⟩ => by cases h))
   intro v17 I18 H19 hle20 hp21
   have hpA := hpA.mono hle20
   have hpB := hpB.mono hle20
   have hP := hP.mono hle20
   have hlA := hlA.mono hle20
   have hlB := hlB.mono hle20
   obtain ⟨w, h, hw, rfl⟩ := hp21; cases h
   refine ⟨⟨(Le.trans (Le.trans (Le.trans (Le.refl _) hle9) hle14) hle20), (HSub.c 0 rfl (HSub.c 1 rfl (HSub.c 3 rfl HSub.n))), CSub.n⟩, ?_⟩
   refine JA.pull (Pull.s (Pull.s (Pull.s (Pull.s Pull.z)))) ?_
   refine zT 13 rfl (zN (H1 := [_]) rfl rfl rfl rfl rfl (a2f xv L htk hL pb mb q.k (lA ++ lB) _ (List.ne_nil_of_length_pos (by rw [List.length_append]; omega)) (by rw [List.length_append]; omega) m2 k2 hm2 _ hP hw (fun x hx => (List.mem_append.1 hx).elim (hlA.ok heA hk1 hA1 (by omega) (by omega) x) (hlB.ok heB hk1 hB1 (by omega) (by omega) x))) ?_ (fun _ _ _ _ ⟨_, _, _, h, _⟩ => by cases h) (fun _ _ ⟨_, _, _, h, _⟩ => by cases h))
   intro v22 I23 H24 hle25 hp26
   have hpA := hpA.mono hle25
   have hpB := hpB.mono hle25
   have hP := hP.mono hle25
   have hlA := hlA.mono hle25
   have hlB := hlB.mono hle25
   have hw := hw.mono hle25
   obtain ⟨pj, cj, ⟨m3, k3⟩, h, hpj, hm3, rfl⟩ := hp26; cases h
   have hjn : Ix.BO (DZ L) (n + 1) q = Ix.OD (DZ L) q.k ((lA ++ lB).map QI.q) := by rw [Ix.a1T _ hk1 hk4 htw, ← hAe, ← hBe, List.map_append, heA, heB]
   refine ⟨⟨(Le.trans (Le.trans (Le.trans (Le.trans (Le.refl _) hle9) hle14) hle20) hle25), (HSub.c 1 rfl (HSub.c 2 rfl (HSub.c 4 rfl HSub.n))), CSub.n⟩, ?_⟩
   refine zT 14 rfl (DV 3 zK (yV.c (yV.c (yV.c (yV.c (yV.c yV.z))))) (yX.s (yX.s (yX.s yX.z))) ?_)
   refine ⟨⟨(Le.trans (Le.trans (Le.trans (Le.trans (Le.refl _) hle9) hle14) hle20) hle25), (HSub.c 1 rfl (HSub.c 2 rfl (HSub.c 4 rfl HSub.n))), CSub.n⟩, ?_⟩
   refine JG ?_
   refine Ej.seq (Cj.ret (Ej.a8l (Ej.ZP (Ej.NC (Keeps.k (Keeps.d (Keeps.d (Keeps.d (Keeps.d Keeps.n))))) rfl rfl rfl (yZ.at 3 rfl) BG zK rfl ?_))))
   rw [hjn]
   exact ⟨pj, cj, (m3, k3), rfl, hpj, hm3, rfl⟩
  have hc4p := TU hc4
  have hq4 : q.k = 4 := TU hc4
  refine Cj.sr (J.z (DJ (off' := 0) tU32 OL) ?_)
  refine J.z (DN XJ (yZ.at 0 rfl)) ?_
  refine J.z (a4h rfl rfl rfl) ?_
  refine J.z GH ?_
  refine J.cd (fun hc27 => ?_) (fun hc27 => ?_)
  ·have hc27p := IC hc27
   have hak : A.k = 4 := IC hc27
   obtain ⟨hAk1, _, _, qc, qd, htA, hfc, hfd⟩ := (Cq.EO hA1).resolve_left (by omega)
   obtain ⟨bk, of2, cs2, T2, fr2, pc, cc, pd, cd, rfl, hbk, hcc, hcd, hkd, hpc, hpd⟩ := hpA.WL htA
   have hlA := htA.len
   have hfA := Ix.JW.two htA hAk1 hA1
   have hzA := Ix.FY.two htA hAk1 hA1
   have hwb := Ix.JW.both 3 qd Bq
   have hzb := Ix.FY.both 3 qd Bq
   have hfb3 : Cq.form (Ix.AA 3 qd Bq) = true := (Ix.OC Ix.JW (k := 3) (by decide) (by decide) [Bq] qd hfd (fun y hy => by rw [List.mem_singleton.1 hy]; exact hB1)).1
   have hjn : Ix.BO (DZ L) (n + 1) q = Ix.AA 4 qc (Ix.BO (DZ L) n (Ix.AA 3 qd Bq)) := by rw [Ix.a8e _ hq4 htw (hAe ▸ hak) (hAe ▸ htA), ← hBe]
   refine Cj.join (ι := PlC) (fun y => PS y.J (Ix.BO (DZ L) n (Ix.AA 3 qd Bq)).ps y.pC ∧ WC L y.m ∧ PS y.J qc.ps pc ∧ y.J bk = some (.cells (List.toArray cs2) T2 fr2)) (fun y => [(4, ptr b2 0), (5, ptr b5 0), (7, ptr y.b7 0)]) (fun y => y.J) (fun y => [(y.b7, zJ 32 (zW (Ix.BO (DZ L) n (Ix.AA 3 qd Bq)) y.pC y.cC)), (b5, zJ 32 (zW A (some ⟨bk, of2, none⟩) cA)), (b2, zJ 32 (zW Cq.zero none 0)), (mb, zQ (fun a : List UInt8 => str a) y.m y.k)]) ?_ (fun hcut => ?_)
   ·rintro ⟨J3, pC, cC, b7, m3, k3⟩ ⟨hpC, hm3, hpc, hbk⟩
    dsimp only at hpC hm3 hpc hbk ⊢
    refine Cj.seq (Cj.AU [0, 1] [] 8 (by kernel_rfl) ?_)
    refine JA.fix ⟨(HSub.c 0 rfl (HSub.c 1 rfl HSub.n)), CSub.n, (Le.refl _)⟩ (fun fx28 => ?_)
    refine JA.tk 0 rfl fx28 (DJ (off' := 4) tU32 MV) ?_
    refine JA.tk 1 rfl fx28 (DN Tryz.isAgg30 (yZ.EZ 1 rfl)) ?_
    refine JA.tk 2 rfl fx28 (zX (off' := of2) rfl rfl rfl EG zK (by omega) (by omega) (by simp)) ?_
    refine JA.tk 3 rfl fx28 (qq2 BG zK (yZ.GY hbk) hcc) ?_
    refine JA.tk 4 rfl fx28 (AY rfl rfl BG zK (yZ.EZ 0 rfl) rfl rfl) ?_
    refine zT 5 rfl (zY rfl rfl rfl EG zK DW rfl rfl rfl rfl (zM.agg rfl (zM.agg rfl zM.none)) ?_)
    intro b29 hb29
    refine ⟨⟨(Le.refl _), (HSub.c 1 rfl (HSub.c 2 rfl HSub.n)), CSub.n⟩, ?_⟩
    refine JA.persist hb29 (fun I31 hle30 hb29i => ?_)
    have hpC := hpC.mono hle30
    have hpc := hpc.mono hle30
    have hbk := hle30 _ _ hbk
    refine JA.fix ⟨(HSub.c 0 rfl (HSub.c 1 rfl HSub.n)), CSub.n, (Le.trans (Le.refl _) hle30)⟩ (fun fx32 => ?_)
    refine JA.tk 6 rfl fx32 (AQ (pl := #[(0, 1), (1, 1), (2, 1), (3, 1), (4, 1)]) rfl rfl DW rfl tU32 (fun w => by simp [OL, MV, EI]) (AO.part rfl rfl rfl (yV.c yV.z) (AO.part rfl rfl rfl (yV.s (yV.s (yV.s (yV.s (yV.c yV.z))))) AO.none))) ?_
    refine zT 7 rfl (DV 2 zK (yV.c (yV.c (yV.c (yV.c (yV.c yV.z))))) (yX.s (yX.s yX.z)) ?_)
    refine ⟨⟨(Le.trans (Le.refl _) hle30), (HSub.c 0 rfl (HSub.c 1 rfl HSub.n)), CSub.n⟩, ?_⟩
    refine JG ?_
    refine Ej.seq (Cj.ret (Ej.a8l (Ej.ZP (Ej.NC (Keeps.d (Keeps.d (Keeps.d (Keeps.k Keeps.n)))) rfl rfl rfl (yZ.at 2 rfl) BG zK rfl ?_))))
    rw [hjn]
    exact ⟨some ⟨b29, 0, none⟩, 2, (m3, k3), rfl, PS.two hpc hpC hb29i, hm3, rfl⟩
   refine Cj.AU [0, 1, 3] [] 11 (by kernel_rfl) ?_
   have hbl_7 := hbl
   have hbk_7 := hbk
   refine JA.fix ⟨(HSub.c 0 rfl (HSub.c 1 rfl (HSub.c 3 rfl HSub.n))), CSub.n, (Le.refl _)⟩ (fun fx33 => ?_)
   refine JA.tk 0 rfl fx33 BQ ?_
   refine JA.tk 1 rfl fx33 (DJ (off' := 4) tU32 MV) ?_
   refine JA.tk 2 rfl fx33 (DN Tryz.isAgg30 (yZ.EZ 0 rfl)) ?_
   refine JA.tk 3 rfl fx33 (zX (off' := of2 + 5) rfl rfl rfl EG zK (by omega) (by omega) (by simp)) ?_
   refine JA.tk 4 rfl fx33 (qq2 BG zK (yZ.GY hbk_7) hcd) ?_
   refine JA.tk 5 rfl fx33 (AY rfl rfl BG zK (yZ.EZ 1 rfl) rfl rfl) ?_
   refine JA.all [6, 9] (by kernel_rfl) (by simp) ?_
   intro i hi
   simp only [List.mem_cons, List.not_mem_nil, or_false] at hi
   rcases hi with rfl | rfl
   ·refine ⟨_, rfl, rfl, ?_⟩
    refine zY rfl rfl rfl EG zK DW rfl rfl rfl rfl (zM.agg rfl (zM.agg rfl zM.none)) ?_
    intro b34 hb34
    refine ⟨⟨(Le.refl _), (HSub.c 1 rfl (HSub.c 2 rfl (HSub.c 4 rfl HSub.n))), CSub.n⟩, ?_⟩
    refine JA.persist hb34 (fun I36 hle35 hb34i => ?_)
    have hpB := hpB.mono hle35
    have hP := hP.mono hle35
    have hbk := hle35 _ _ hbk
    have hpc := hpc.mono hle35
    have hpd := hpd.mono hle35
    refine JA.fix ⟨(HSub.c 0 rfl (HSub.c 1 rfl (HSub.c 3 rfl HSub.n))), CSub.n, (Le.trans (Le.refl _) hle35)⟩ (fun fx37 => ?_)
    refine JA.tk 7 rfl fx37 (AQ (pl := #[(0, 1), (1, 1), (2, 1), (3, 1), (4, 1)]) rfl rfl DW rfl tU32 (fun w => by simp [OL, MV, EI]) (AO.part rfl rfl rfl (yV.c yV.z) (AO.part rfl rfl rfl (yV.s (yV.s (yV.s (yV.s (yV.c yV.z))))) AO.none))) ?_
    refine JA.all [8, 9] (by kernel_rfl) (by simp) ?_
    intro i hi
    simp only [List.mem_cons, List.not_mem_nil, or_false] at hi
    rcases hi with rfl | rfl
    ·refine ⟨_, rfl, rfl, ?_⟩
     refine BZ.pull (Pull.s (Pull.s (Pull.s (Pull.s Pull.z)))) ?_
     refine zN (H1 := [_]) rfl rfl rfl rfl rfl (ih (Ix.AA 3 qd Bq) (some ⟨b34, 0, none⟩) 2 m2 k2 _ (by omega) hfb3 (by omega) (by omega) (PS.two hpd hpB hb34i) hP hm2) ?_ (fun _ _ _ _ ⟨_, _, _, h, _⟩ => by cases h) (fun _ _ ⟨_, _, _, h, _⟩ => by cases h)
     intro v38 I39 H40 hle41 hp42
     have hpB := hpB.mono hle41
     have hP := hP.mono hle41
     have hbk := hle41 _ _ hbk
     have hpc := hpc.mono hle41
     have hpd := hpd.mono hle41
     have hb34i := hle41 _ _ hb34i
     obtain ⟨pC, cC, ⟨m3, k3⟩, h, hpC, hm3, rfl⟩ := hp42; cases h
     refine ⟨⟨(Le.trans (Le.trans (Le.refl _) hle35) hle41), (HSub.c 1 rfl (HSub.c 2 rfl (HSub.c 4 rfl HSub.n))), CSub.n⟩, ?_⟩
     refine zT 9 rfl (BM rfl rfl rfl DW rfl ?_)
     intro b43 hb43
     refine ⟨⟨(Le.trans (Le.trans (Le.refl _) hle35) hle41), (HSub.c 2 rfl (HSub.c 3 rfl (HSub.c 5 rfl HSub.n))), CSub.n⟩, ?_⟩
     refine zT 10 rfl (DV 0 zK (yV.c (yV.c (yV.c (yV.c (yV.c yV.z))))) yX.z ?_)
     refine ⟨⟨(Le.trans (Le.trans (Le.refl _) hle35) hle41), (HSub.c 2 rfl (HSub.c 3 rfl (HSub.c 5 rfl HSub.n))), CSub.n⟩, ?_⟩
     refine JG ?_
     refine Ej.keep (Keeps.k (Keeps.k (Keeps.k (Keeps.d (Keeps.k (Keeps.d Keeps.n)))))) ?_
     refine Ej.pull (Pull.s Pull.z) ?_
     refine Ej.pull (Pull.s (Pull.s (Pull.s Pull.z))) ?_
     refine Ej.pull (Pull.s (Pull.s (Pull.s Pull.z))) ?_
     refine Ej.pull (Pull.s (Pull.s (Pull.s Pull.z))) ?_
     exact hcut ⟨_, pC, cC, b43, m3, k3⟩ _ _ _ ⟨hpC, hm3, hpc, hbk⟩ ⟨rfl, rfl, rfl, trivial⟩ rfl rfl
    refine ⟨_, rfl, rfl, ?_⟩
    refine BM rfl rfl rfl DW rfl ?_
    intro b44 hb44
    refine ⟨⟨(Le.trans (Le.refl _) hle35), (HSub.c 1 rfl (HSub.c 2 rfl (HSub.c 4 rfl HSub.n))), CSub.n⟩, ?_⟩
    refine JA.pull (Pull.s (Pull.s (Pull.s (Pull.s (Pull.s Pull.z))))) ?_
    refine zT 8 rfl (zN (H1 := [_]) rfl rfl rfl rfl rfl (ih (Ix.AA 3 qd Bq) (some ⟨b34, 0, none⟩) 2 m2 k2 _ (by omega) hfb3 (by omega) (by omega) (PS.two hpd hpB hb34i) hP hm2) ?_ (fun _ _ _ _ ⟨_, _, _, h, _⟩ => by cases h) (fun _ _ ⟨_, _, _, h, _⟩ => by cases h))
    intro v45 I46 H47 hle48 hp49
    have hpB := hpB.mono hle48
    have hP := hP.mono hle48
    have hbk := hle48 _ _ hbk
    have hpc := hpc.mono hle48
    have hpd := hpd.mono hle48
    have hb34i := hle48 _ _ hb34i
    obtain ⟨pC, cC, ⟨m3, k3⟩, h, hpC, hm3, rfl⟩ := hp49; cases h
    refine ⟨⟨(Le.trans (Le.trans (Le.refl _) hle35) hle48), (HSub.c 2 rfl (HSub.c 3 rfl (HSub.c 5 rfl HSub.n))), CSub.n⟩, ?_⟩
    refine zT 10 rfl (DV 1 zK (yV.c (yV.c (yV.c (yV.c (yV.c yV.z))))) (yX.s yX.z) ?_)
    refine ⟨⟨(Le.trans (Le.trans (Le.refl _) hle35) hle48), (HSub.c 2 rfl (HSub.c 3 rfl (HSub.c 5 rfl HSub.n))), CSub.n⟩, ?_⟩
    refine JG ?_
    refine Ej.keep (Keeps.k (Keeps.k (Keeps.k (Keeps.d (Keeps.k (Keeps.d Keeps.n)))))) ?_
    refine Ej.pull Pull.z ?_
    refine Ej.pull (Pull.s (Pull.s (Pull.s Pull.z))) ?_
    refine Ej.pull (Pull.s (Pull.s (Pull.s Pull.z))) ?_
    refine Ej.pull (Pull.s (Pull.s (Pull.s Pull.z))) ?_
    exact hcut ⟨_, pC, cC, b44, m3, k3⟩ _ _ _ ⟨hpC, hm3, hpc, hbk⟩ ⟨rfl, rfl, rfl, trivial⟩ rfl rfl
   refine ⟨_, rfl, rfl, ?_⟩
   refine BM rfl rfl rfl DW rfl ?_
   intro b50 hb50
   refine ⟨⟨(Le.refl _), (HSub.c 1 rfl (HSub.c 2 rfl (HSub.c 4 rfl HSub.n))), CSub.n⟩, ?_⟩
   refine zT 6 rfl (zY rfl rfl rfl EG zK DW rfl rfl rfl rfl (zM.agg rfl (zM.agg rfl zM.none)) ?_)
   intro b51 hb51
   refine ⟨⟨(Le.refl _), (HSub.c 2 rfl (HSub.c 3 rfl (HSub.c 5 rfl HSub.n))), CSub.n⟩, ?_⟩
   refine JA.persist hb51 (fun I53 hle52 hb51i => ?_)
   have hpB := hpB.mono hle52
   have hP := hP.mono hle52
   have hbk := hle52 _ _ hbk
   have hpc := hpc.mono hle52
   have hpd := hpd.mono hle52
   refine JA.fix ⟨(HSub.c 1 rfl (HSub.c 2 rfl (HSub.c 4 rfl HSub.n))), CSub.n, (Le.trans (Le.refl _) hle52)⟩ (fun fx54 => ?_)
   refine JA.tk 7 rfl fx54 (AQ (pl := #[(0, 1), (1, 1), (2, 1), (3, 1), (4, 1)]) rfl rfl DW rfl tU32 (fun w => by simp [OL, MV, EI]) (AO.part rfl rfl rfl (yV.c yV.z) (AO.part rfl rfl rfl (yV.s (yV.s (yV.s (yV.s (yV.c yV.z))))) AO.none))) ?_
   refine JA.pull (Pull.s (Pull.s (Pull.s (Pull.s (Pull.s Pull.z))))) ?_
   refine zT 8 rfl (zN (H1 := [_]) rfl rfl rfl rfl rfl (ih (Ix.AA 3 qd Bq) (some ⟨b51, 0, none⟩) 2 m2 k2 _ (by omega) hfb3 (by omega) (by omega) (PS.two hpd hpB hb51i) hP hm2) ?_ (fun _ _ _ _ ⟨_, _, _, h, _⟩ => by cases h) (fun _ _ ⟨_, _, _, h, _⟩ => by cases h))
   intro v55 I56 H57 hle58 hp59
   have hpB := hpB.mono hle58
   have hP := hP.mono hle58
   have hbk := hle58 _ _ hbk
   have hpc := hpc.mono hle58
   have hpd := hpd.mono hle58
   have hb51i := hle58 _ _ hb51i
   obtain ⟨pC, cC, ⟨m3, k3⟩, h, hpC, hm3, rfl⟩ := hp59; cases h
   refine ⟨⟨(Le.trans (Le.trans (Le.refl _) hle52) hle58), (HSub.c 2 rfl (HSub.c 3 rfl (HSub.c 5 rfl HSub.n))), CSub.n⟩, ?_⟩
   refine zT 10 rfl (DV 1 zK (yV.c (yV.c (yV.c (yV.c (yV.c yV.z))))) (yX.s yX.z) ?_)
   refine ⟨⟨(Le.trans (Le.trans (Le.refl _) hle52) hle58), (HSub.c 2 rfl (HSub.c 3 rfl (HSub.c 5 rfl HSub.n))), CSub.n⟩, ?_⟩
   refine JG ?_
   refine Ej.keep (Keeps.k (Keeps.k (Keeps.k (Keeps.d (Keeps.k (Keeps.d Keeps.n)))))) ?_
   refine Ej.pull Pull.z ?_
   refine Ej.pull (Pull.s (Pull.s (Pull.s Pull.z))) ?_
   refine Ej.pull (Pull.s (Pull.s (Pull.s Pull.z))) ?_
   refine Ej.pull (Pull.s (Pull.s (Pull.s Pull.z))) ?_
   exact hcut ⟨_, pC, cC, b50, m3, k3⟩ _ _ _ ⟨hpC, hm3, hpc, hbk⟩ ⟨rfl, rfl, rfl, trivial⟩ rfl rfl
  have hc27p := JY hc27
  refine Cj.kb (Cj.sr (J.z (AY rfl rfl BG zK (yZ.at 0 rfl) rfl rfl) ?_))
  refine J.z (AY rfl rfl BG zK (yZ.at 1 rfl) rfl rfl) ?_
  refine J.op rfl (zY rfl rfl rfl EG zK DW rfl rfl rfl rfl (zM.agg rfl (zM.agg rfl zM.none)) ?_)
  intro b60 hb60
  refine J.persist hb60 (fun I62 hle61 hb60i => ?_)
  have hpA := hpA.mono hle61
  have hpB := hpB.mono hle61
  have hP := hP.mono hle61
  refine J.z (AQ (pl := #[(0, 1), (1, 1), (2, 1), (3, 1), (4, 1)]) rfl rfl DW rfl tU32 (fun w => by simp [OL, MV, EI]) (AO.part rfl rfl rfl (yV.c yV.z) (AO.part rfl rfl rfl (yV.s (yV.s (yV.s (yV.s (yV.c yV.z))))) AO.none))) ?_
  refine J.op rfl (DV 2 zK (yV.c (yV.c (yV.c (yV.c (yV.c yV.z))))) (yX.s (yX.s yX.z)) ?_)
  refine J.ns (Cj.ret ?_)
  have hak : A.k ≠ 4 := JY hc27
  have hjn : Ix.BO (DZ L) (n + 1) q = Ix.AA 4 A Bq := by rw [Ix.a5B _ hq4 htw (hAe ▸ hak), ← hAe, ← hBe]
  refine Ej.NC (Keeps.d (Keeps.d (Keeps.d (Keeps.d (Keeps.k Keeps.n))))) rfl rfl rfl (yZ.at 2 rfl) BG zK rfl ?_
  rw [hjn]
  exact ⟨some ⟨b60, 0, none⟩, 2, (m2, k2), rfl, PS.two hpA hpB hb60i, hm2, rfl⟩
 refine Cj.AU [1] [] 16 (by kernel_rfl) ?_
 have hbl_3 := hbl
 refine JA.fix ⟨(HSub.c 1 rfl HSub.n), CSub.n, (Le.refl _)⟩ (fun fx63 => ?_)
 refine JA.tk 0 rfl fx63 BQ ?_
 refine JA.tk 1 rfl fx63 (DJ (off' := 4) tU32 MV) ?_
 refine JA.tk 2 rfl fx63 (DN Tryz.isAgg30 (yZ.EZ 0 rfl)) ?_
 refine JA.tk 3 rfl fx63 (zX (off' := off) rfl rfl rfl EG zK (by omega) (by omega) (by simp)) ?_
 refine JA.tk 4 rfl fx63 (qq2 BG zK (yZ.GY hbl_3) hca) ?_
 refine JA.tk 6 rfl fx63 BQ ?_
 refine JA.tk 7 rfl fx63 (DJ (off' := 4) tU32 MV) ?_
 refine JA.tk 8 rfl fx63 (DN Tryz.isAgg30 (yZ.EZ 0 rfl)) ?_
 refine JA.tk 9 rfl fx63 (zX (off' := off + 5) rfl rfl rfl EG zK (by omega) (by omega) (by simp)) ?_
 refine JA.tk 10 rfl fx63 (qq2 BG zK (yZ.GY hbl_3) hcb) ?_
 refine JA.all [5, 12, 13] (by kernel_rfl) (by simp) ?_
 intro i hi
 simp only [List.mem_cons, List.not_mem_nil, or_false] at hi
 rcases hi with rfl | rfl | rfl
 ·refine ⟨_, rfl, rfl, ?_⟩
  refine BZ.pull (Pull.s (Pull.s Pull.z)) ?_
  refine zN (H1 := [_]) rfl rfl rfl rfl rfl (ih qa pa ca m0 k0 _ (by omega) hfa (by omega) (by omega) hpa hP hm0) ?_ (fun _ _ _ _ ⟨_, _, _, h, _⟩ => by cases h) (fun _ _ ⟨_, _, _, h, _⟩ => by cases h)
  intro v64 I65 H66 hle67 hp68
  have hP := hP.mono hle67
  have hbl := hle67 _ _ hbl
  have hpa := hpa.mono hle67
  have hpb := hpb.mono hle67
  obtain ⟨pA, cA, ⟨m1, k1⟩, h, hpA, hm1, rfl⟩ := hp68; cases h
  rw [← hAe] at *
  refine ⟨⟨(Le.trans (Le.refl _) hle67), (HSub.c 2 rfl HSub.n), CSub.n⟩, ?_⟩
  refine JA.all [11, 12, 13] (by kernel_rfl) (by simp) ?_
  intro i hi
  simp only [List.mem_cons, List.not_mem_nil, or_false] at hi
  rcases hi with rfl | rfl | rfl
  ·refine ⟨_, rfl, rfl, ?_⟩
   refine BZ.pull Pull.z ?_
   refine zN (H1 := [_]) rfl rfl rfl rfl rfl (ih qb pb2 cb m1 k1 _ (by omega) hfb (by omega) (by omega) hpb hP hm1) ?_ (fun _ _ _ _ ⟨_, _, _, h, _⟩ => by cases h) (fun _ _ ⟨_, _, _, h, _⟩ => by cases h)
   intro v69 I70 H71 hle72 hp73
   have hP := hP.mono hle72
   have hbl := hle72 _ _ hbl
   have hpa := hpa.mono hle72
   have hpb := hpb.mono hle72
   have hpA := hpA.mono hle72
   obtain ⟨pB, cB, ⟨m2, k2⟩, h, hpB, hm2, rfl⟩ := hp73; cases h
   rw [← hBe] at *
   refine ⟨⟨(Le.trans (Le.trans (Le.refl _) hle67) hle72), (HSub.c 2 rfl HSub.n), CSub.n⟩, ?_⟩
   refine JA.all [12, 13] (by kernel_rfl) (by simp) ?_
   intro i hi
   simp only [List.mem_cons, List.not_mem_nil, or_false] at hi
   rcases hi with rfl | rfl
   ·refine ⟨_, rfl, rfl, ?_⟩
    refine BM rfl rfl rfl DW rfl ?_
    intro b74 hb74
    refine ⟨⟨(Le.trans (Le.trans (Le.refl _) hle67) hle72), (HSub.c 3 rfl HSub.n), CSub.n⟩, ?_⟩
    refine zT 13 rfl (BM rfl rfl rfl DW rfl ?_)
    intro b75 hb75
    refine ⟨⟨(Le.trans (Le.trans (Le.refl _) hle67) hle72), (HSub.c 4 rfl HSub.n), CSub.n⟩, ?_⟩
    refine zT 14 rfl (DV 1 zK (yV.c (yV.c (yV.c (yV.c (yV.c yV.z))))) (yX.s yX.z) ?_)
    refine ⟨⟨(Le.trans (Le.trans (Le.refl _) hle67) hle72), (HSub.c 4 rfl HSub.n), CSub.n⟩, ?_⟩
    refine zT 15 rfl (DV 0 zK (yV.c (yV.c (yV.c (yV.c (yV.c yV.z))))) yX.z ?_)
    refine ⟨⟨(Le.trans (Le.trans (Le.refl _) hle67) hle72), (HSub.c 4 rfl HSub.n), CSub.n⟩, ?_⟩
    refine JG ?_
    refine Ej.keep (Keeps.k (Keeps.k (Keeps.k (Keeps.k (Keeps.k Keeps.n))))) ?_
    refine Ej.pull (Pull.s (Pull.s Pull.z)) ?_
    refine Ej.pull (Pull.s (Pull.s (Pull.s (Pull.s Pull.z)))) ?_
    refine Ej.pull (Pull.s (Pull.s (Pull.s (Pull.s Pull.z)))) ?_
    refine Ej.pull (Pull.s (Pull.s (Pull.s Pull.z))) ?_
    refine Ej.pull (Pull.s (Pull.s (Pull.s (Pull.s Pull.z)))) ?_
    exact hcut ⟨_, pA, cA, pB, cB, b74, b75, m2, k2⟩ _ _ _ ⟨hpA, hpB, hm2, hP⟩ ⟨rfl, rfl, rfl, rfl, rfl, trivial⟩ rfl rfl
   refine ⟨_, rfl, rfl, ?_⟩
   refine BM rfl rfl rfl DW rfl ?_
   intro b76 hb76
   refine ⟨⟨(Le.trans (Le.trans (Le.refl _) hle67) hle72), (HSub.c 3 rfl HSub.n), CSub.n⟩, ?_⟩
   refine zT 12 rfl (BM rfl rfl rfl DW rfl ?_)
   intro b77 hb77
   refine ⟨⟨(Le.trans (Le.trans (Le.refl _) hle67) hle72), (HSub.c 4 rfl HSub.n), CSub.n⟩, ?_⟩
   refine zT 14 rfl (DV 0 zK (yV.c (yV.c (yV.c (yV.c (yV.c yV.z))))) yX.z ?_)
   refine ⟨⟨(Le.trans (Le.trans (Le.refl _) hle67) hle72), (HSub.c 4 rfl HSub.n), CSub.n⟩, ?_⟩
   refine zT 15 rfl (DV 1 zK (yV.c (yV.c (yV.c (yV.c (yV.c yV.z))))) (yX.s yX.z) ?_)
   refine ⟨⟨(Le.trans (Le.trans (Le.refl _) hle67) hle72), (HSub.c 4 rfl HSub.n), CSub.n⟩, ?_⟩
   refine JG ?_
   refine Ej.keep (Keeps.k (Keeps.k (Keeps.k (Keeps.k (Keeps.k Keeps.n))))) ?_
   refine Ej.pull (Pull.s (Pull.s Pull.z)) ?_
   refine Ej.pull (Pull.s (Pull.s (Pull.s (Pull.s Pull.z)))) ?_
   refine Ej.pull (Pull.s (Pull.s (Pull.s (Pull.s Pull.z)))) ?_
   refine Ej.pull (Pull.s (Pull.s (Pull.s (Pull.s Pull.z)))) ?_
   refine Ej.pull (Pull.s (Pull.s (Pull.s (Pull.s Pull.z)))) ?_
   exact hcut ⟨_, pA, cA, pB, cB, b77, b76, m2, k2⟩ _ _ _ ⟨hpA, hpB, hm2, hP⟩ ⟨rfl, rfl, rfl, rfl, rfl, trivial⟩ rfl rfl
  ·refine ⟨_, rfl, rfl, ?_⟩
   refine BM rfl rfl rfl DW rfl ?_
   intro b78 hb78
   refine ⟨⟨(Le.trans (Le.refl _) hle67), (HSub.c 3 rfl HSub.n), CSub.n⟩, ?_⟩
   refine JA.all [11, 13] (by kernel_rfl) (by simp) ?_
   intro i hi
   simp only [List.mem_cons, List.not_mem_nil, or_false] at hi
   rcases hi with rfl | rfl
   ·refine ⟨_, rfl, rfl, ?_⟩
    refine BZ.pull (Pull.s Pull.z) ?_
    refine zN (H1 := [_]) rfl rfl rfl rfl rfl (ih qb pb2 cb m1 k1 _ (by omega) hfb (by omega) (by omega) hpb hP hm1) ?_ (fun _ _ _ _ ⟨_, _, _, h, _⟩ => by cases h) (fun _ _ ⟨_, _, _, h, _⟩ => by cases h)
    intro v79 I80 H81 hle82 hp83
    have hP := hP.mono hle82
    have hbl := hle82 _ _ hbl
    have hpa := hpa.mono hle82
    have hpb := hpb.mono hle82
    have hpA := hpA.mono hle82
    obtain ⟨pB, cB, ⟨m2, k2⟩, h, hpB, hm2, rfl⟩ := hp83; cases h
    rw [← hBe] at *
    refine ⟨⟨(Le.trans (Le.trans (Le.refl _) hle67) hle82), (HSub.c 3 rfl HSub.n), CSub.n⟩, ?_⟩
    refine zT 13 rfl (BM rfl rfl rfl DW rfl ?_)
    intro b84 hb84
    refine ⟨⟨(Le.trans (Le.trans (Le.refl _) hle67) hle82), (HSub.c 4 rfl HSub.n), CSub.n⟩, ?_⟩
    refine zT 14 rfl (DV 2 zK (yV.c (yV.c (yV.c (yV.c (yV.c yV.z))))) (yX.s (yX.s yX.z)) ?_)
    refine ⟨⟨(Le.trans (Le.trans (Le.refl _) hle67) hle82), (HSub.c 4 rfl HSub.n), CSub.n⟩, ?_⟩
    refine zT 15 rfl (DV 0 zK (yV.c (yV.c (yV.c (yV.c (yV.c yV.z))))) yX.z ?_)
    refine ⟨⟨(Le.trans (Le.trans (Le.refl _) hle67) hle82), (HSub.c 4 rfl HSub.n), CSub.n⟩, ?_⟩
    refine JG ?_
    refine Ej.keep (Keeps.k (Keeps.k (Keeps.k (Keeps.k (Keeps.k Keeps.n))))) ?_
    refine Ej.pull (Pull.s Pull.z) ?_
    refine Ej.pull (Pull.s (Pull.s (Pull.s (Pull.s Pull.z)))) ?_
    refine Ej.pull (Pull.s (Pull.s (Pull.s (Pull.s Pull.z)))) ?_
    refine Ej.pull (Pull.s (Pull.s (Pull.s Pull.z))) ?_
    refine Ej.pull (Pull.s (Pull.s (Pull.s (Pull.s Pull.z)))) ?_
    exact hcut ⟨_, pA, cA, pB, cB, b78, b84, m2, k2⟩ _ _ _ ⟨hpA, hpB, hm2, hP⟩ ⟨rfl, rfl, rfl, rfl, rfl, trivial⟩ rfl rfl
   refine ⟨_, rfl, rfl, ?_⟩
   refine BM rfl rfl rfl DW rfl ?_
   intro b85 hb85
   refine ⟨⟨(Le.trans (Le.refl _) hle67), (HSub.c 4 rfl HSub.n), CSub.n⟩, ?_⟩
   refine JA.pull (Pull.s (Pull.s Pull.z)) ?_
   refine zT 11 rfl (zN (H1 := [_]) rfl rfl rfl rfl rfl (ih qb pb2 cb m1 k1 _ (by omega) hfb (by omega) (by omega) hpb hP hm1) ?_ (fun _ _ _ _ ⟨_, _, _, h, _⟩ => by cases h) (fun _ _ ⟨_, _, _, h, _⟩ => by cases h))
   intro v86 I87 H88 hle89 hp90
   have hP := hP.mono hle89
   have hbl := hle89 _ _ hbl
   have hpa := hpa.mono hle89
   have hpb := hpb.mono hle89
   have hpA := hpA.mono hle89
   obtain ⟨pB, cB, ⟨m2, k2⟩, h, hpB, hm2, rfl⟩ := hp90; cases h
   rw [← hBe] at *
   refine ⟨⟨(Le.trans (Le.trans (Le.refl _) hle67) hle89), (HSub.c 4 rfl HSub.n), CSub.n⟩, ?_⟩
   refine zT 14 rfl (DV 2 zK (yV.c (yV.c (yV.c (yV.c (yV.c yV.z))))) (yX.s (yX.s yX.z)) ?_)
   refine ⟨⟨(Le.trans (Le.trans (Le.refl _) hle67) hle89), (HSub.c 4 rfl HSub.n), CSub.n⟩, ?_⟩
   refine zT 15 rfl (DV 1 zK (yV.c (yV.c (yV.c (yV.c (yV.c yV.z))))) (yX.s yX.z) ?_)
   refine ⟨⟨(Le.trans (Le.trans (Le.refl _) hle67) hle89), (HSub.c 4 rfl HSub.n), CSub.n⟩, ?_⟩
   refine JG ?_
   refine Ej.keep (Keeps.k (Keeps.k (Keeps.k (Keeps.k (Keeps.k Keeps.n))))) ?_
   refine Ej.pull Pull.z ?_
   refine Ej.pull (Pull.s (Pull.s (Pull.s (Pull.s Pull.z)))) ?_
   refine Ej.pull (Pull.s (Pull.s (Pull.s (Pull.s Pull.z)))) ?_
   refine Ej.pull (Pull.s (Pull.s (Pull.s Pull.z))) ?_
   refine Ej.pull (Pull.s (Pull.s (Pull.s (Pull.s Pull.z)))) ?_
   exact hcut ⟨_, pA, cA, pB, cB, b78, b85, m2, k2⟩ _ _ _ ⟨hpA, hpB, hm2, hP⟩ ⟨rfl, rfl, rfl, rfl, rfl, trivial⟩ rfl rfl
  refine ⟨_, rfl, rfl, ?_⟩
  refine BM rfl rfl rfl DW rfl ?_
  intro b91 hb91
  refine ⟨⟨(Le.trans (Le.refl _) hle67), (HSub.c 3 rfl HSub.n), CSub.n⟩, ?_⟩
  refine JA.all [11, 12] (by kernel_rfl) (by simp) ?_
  intro i hi
  simp only [List.mem_cons, List.not_mem_nil, or_false] at hi
  rcases hi with rfl | rfl
  ·refine ⟨_, rfl, rfl, ?_⟩
   refine BZ.pull (Pull.s Pull.z) ?_
   refine zN (H1 := [_]) rfl rfl rfl rfl rfl (ih qb pb2 cb m1 k1 _ (by omega) hfb (by omega) (by omega) hpb hP hm1) ?_ (fun _ _ _ _ ⟨_, _, _, h, _⟩ => by cases h) (fun _ _ ⟨_, _, _, h, _⟩ => by cases h)
   intro v92 I93 H94 hle95 hp96
   have hP := hP.mono hle95
   have hbl := hle95 _ _ hbl
   have hpa := hpa.mono hle95
   have hpb := hpb.mono hle95
   have hpA := hpA.mono hle95
   obtain ⟨pB, cB, ⟨m2, k2⟩, h, hpB, hm2, rfl⟩ := hp96; cases h
   rw [← hBe] at *
   refine ⟨⟨(Le.trans (Le.trans (Le.refl _) hle67) hle95), (HSub.c 3 rfl HSub.n), CSub.n⟩, ?_⟩
   refine zT 12 rfl (BM rfl rfl rfl DW rfl ?_)
   intro b97 hb97
   refine ⟨⟨(Le.trans (Le.trans (Le.refl _) hle67) hle95), (HSub.c 4 rfl HSub.n), CSub.n⟩, ?_⟩
   refine zT 14 rfl (DV 0 zK (yV.c (yV.c (yV.c (yV.c (yV.c yV.z))))) yX.z ?_)
   refine ⟨⟨(Le.trans (Le.trans (Le.refl _) hle67) hle95), (HSub.c 4 rfl HSub.n), CSub.n⟩, ?_⟩
   refine zT 15 rfl (DV 2 zK (yV.c (yV.c (yV.c (yV.c (yV.c yV.z))))) (yX.s (yX.s yX.z)) ?_)
   refine ⟨⟨(Le.trans (Le.trans (Le.refl _) hle67) hle95), (HSub.c 4 rfl HSub.n), CSub.n⟩, ?_⟩
   refine JG ?_
   refine Ej.keep (Keeps.k (Keeps.k (Keeps.k (Keeps.k (Keeps.k Keeps.n))))) ?_
   refine Ej.pull (Pull.s Pull.z) ?_
   refine Ej.pull (Pull.s (Pull.s (Pull.s (Pull.s Pull.z)))) ?_
   refine Ej.pull (Pull.s (Pull.s (Pull.s (Pull.s Pull.z)))) ?_
   refine Ej.pull (Pull.s (Pull.s (Pull.s (Pull.s Pull.z)))) ?_
   refine Ej.pull (Pull.s (Pull.s (Pull.s (Pull.s Pull.z)))) ?_
   exact hcut ⟨_, pA, cA, pB, cB, b97, b91, m2, k2⟩ _ _ _ ⟨hpA, hpB, hm2, hP⟩ ⟨rfl, rfl, rfl, rfl, rfl, trivial⟩ rfl rfl
  refine ⟨_, rfl, rfl, ?_⟩
  refine BM rfl rfl rfl DW rfl ?_
  intro b98 hb98
  refine ⟨⟨(Le.trans (Le.refl _) hle67), (HSub.c 4 rfl HSub.n), CSub.n⟩, ?_⟩
  refine JA.pull (Pull.s (Pull.s Pull.z)) ?_
  refine zT 11 rfl (zN (H1 := [_]) rfl rfl rfl rfl rfl (ih qb pb2 cb m1 k1 _ (by omega) hfb (by omega) (by omega) hpb hP hm1) ?_ (fun _ _ _ _ ⟨_, _, _, h, _⟩ => by cases h) (fun _ _ ⟨_, _, _, h, _⟩ => by cases h))
  intro v99 I100 H101 hle102 hp103
  have hP := hP.mono hle102
  have hbl := hle102 _ _ hbl
  have hpa := hpa.mono hle102
  have hpb := hpb.mono hle102
  have hpA := hpA.mono hle102
  obtain ⟨pB, cB, ⟨m2, k2⟩, h, hpB, hm2, rfl⟩ := hp103; cases h
  rw [← hBe] at *
  refine ⟨⟨(Le.trans (Le.trans (Le.refl _) hle67) hle102), (HSub.c 4 rfl HSub.n), CSub.n⟩, ?_⟩
  refine zT 14 rfl (DV 1 zK (yV.c (yV.c (yV.c (yV.c (yV.c yV.z))))) (yX.s yX.z) ?_)
  refine ⟨⟨(Le.trans (Le.trans (Le.refl _) hle67) hle102), (HSub.c 4 rfl HSub.n), CSub.n⟩, ?_⟩
  refine zT 15 rfl (DV 2 zK (yV.c (yV.c (yV.c (yV.c (yV.c yV.z))))) (yX.s (yX.s yX.z)) ?_)
  refine ⟨⟨(Le.trans (Le.trans (Le.refl _) hle67) hle102), (HSub.c 4 rfl HSub.n), CSub.n⟩, ?_⟩
  refine JG ?_
  refine Ej.keep (Keeps.k (Keeps.k (Keeps.k (Keeps.k (Keeps.k Keeps.n))))) ?_
  refine Ej.pull Pull.z ?_
  refine Ej.pull (Pull.s (Pull.s (Pull.s (Pull.s Pull.z)))) ?_
  refine Ej.pull (Pull.s (Pull.s (Pull.s (Pull.s Pull.z)))) ?_
  refine Ej.pull (Pull.s (Pull.s (Pull.s (Pull.s Pull.z)))) ?_
  refine Ej.pull (Pull.s (Pull.s (Pull.s (Pull.s Pull.z)))) ?_
  exact hcut ⟨_, pA, cA, pB, cB, b98, b91, m2, k2⟩ _ _ _ ⟨hpA, hpB, hm2, hP⟩ ⟨rfl, rfl, rfl, rfl, rfl, trivial⟩ rfl rfl
 ·refine ⟨_, rfl, rfl, ?_⟩
  refine BM rfl rfl rfl DW rfl ?_
  intro b104 hb104
  refine ⟨⟨(Le.refl _), (HSub.c 2 rfl HSub.n), CSub.n⟩, ?_⟩
  refine JA.all [5, 13] (by kernel_rfl) (by simp) ?_
  intro i hi
  simp only [List.mem_cons, List.not_mem_nil, or_false] at hi
  rcases hi with rfl | rfl
  ·refine ⟨_, rfl, rfl, ?_⟩
   refine BZ.pull (Pull.s (Pull.s (Pull.s Pull.z))) ?_
   refine zN (H1 := [_]) rfl rfl rfl rfl rfl (ih qa pa ca m0 k0 _ (by omega) hfa (by omega) (by omega) hpa hP hm0) ?_ (fun _ _ _ _ ⟨_, _, _, h, _⟩ => by cases h) (fun _ _ ⟨_, _, _, h, _⟩ => by cases h)
   intro v105 I106 H107 hle108 hp109
   have hP := hP.mono hle108
   have hbl := hle108 _ _ hbl
   have hpa := hpa.mono hle108
   have hpb := hpb.mono hle108
   obtain ⟨pA, cA, ⟨m1, k1⟩, h, hpA, hm1, rfl⟩ := hp109; cases h
   rw [← hAe] at *
   refine ⟨⟨(Le.trans (Le.refl _) hle108), (HSub.c 3 rfl HSub.n), CSub.n⟩, ?_⟩
   refine JA.all [11, 13] (by kernel_rfl) (by simp) ?_
   intro i hi
   simp only [List.mem_cons, List.not_mem_nil, or_false] at hi
   rcases hi with rfl | rfl
   ·refine ⟨_, rfl, rfl, ?_⟩
    refine BZ.pull Pull.z ?_
    refine zN (H1 := [_]) rfl rfl rfl rfl rfl (ih qb pb2 cb m1 k1 _ (by omega) hfb (by omega) (by omega) hpb hP hm1) ?_ (fun _ _ _ _ ⟨_, _, _, h, _⟩ => by cases h) (fun _ _ ⟨_, _, _, h, _⟩ => by cases h)
    intro v110 I111 H112 hle113 hp114
    have hP := hP.mono hle113
    have hbl := hle113 _ _ hbl
    have hpa := hpa.mono hle113
    have hpb := hpb.mono hle113
    have hpA := hpA.mono hle113
    obtain ⟨pB, cB, ⟨m2, k2⟩, h, hpB, hm2, rfl⟩ := hp114; cases h
    rw [← hBe] at *
    refine ⟨⟨(Le.trans (Le.trans (Le.refl _) hle108) hle113), (HSub.c 3 rfl HSub.n), CSub.n⟩, ?_⟩
    refine zT 13 rfl (BM rfl rfl rfl DW rfl ?_)
    intro b115 hb115
    refine ⟨⟨(Le.trans (Le.trans (Le.refl _) hle108) hle113), (HSub.c 4 rfl HSub.n), CSub.n⟩, ?_⟩
    refine zT 14 rfl (DV 2 zK (yV.c (yV.c (yV.c (yV.c (yV.c yV.z))))) (yX.s (yX.s yX.z)) ?_)
    refine ⟨⟨(Le.trans (Le.trans (Le.refl _) hle108) hle113), (HSub.c 4 rfl HSub.n), CSub.n⟩, ?_⟩
    refine zT 15 rfl (DV 0 zK (yV.c (yV.c (yV.c (yV.c (yV.c yV.z))))) yX.z ?_)
    refine ⟨⟨(Le.trans (Le.trans (Le.refl _) hle108) hle113), (HSub.c 4 rfl HSub.n), CSub.n⟩, ?_⟩
    refine JG ?_
    refine Ej.keep (Keeps.k (Keeps.k (Keeps.k (Keeps.k (Keeps.k Keeps.n))))) ?_
    refine Ej.pull (Pull.s Pull.z) ?_
    refine Ej.pull (Pull.s (Pull.s (Pull.s (Pull.s Pull.z)))) ?_
    refine Ej.pull (Pull.s (Pull.s (Pull.s (Pull.s Pull.z)))) ?_
    refine Ej.pull (Pull.s (Pull.s (Pull.s Pull.z))) ?_
    refine Ej.pull (Pull.s (Pull.s (Pull.s (Pull.s Pull.z)))) ?_
    exact hcut ⟨_, pA, cA, pB, cB, b104, b115, m2, k2⟩ _ _ _ ⟨hpA, hpB, hm2, hP⟩ ⟨rfl, rfl, rfl, rfl, rfl, trivial⟩ rfl rfl
   refine ⟨_, rfl, rfl, ?_⟩
   refine BM rfl rfl rfl DW rfl ?_
   intro b116 hb116
   refine ⟨⟨(Le.trans (Le.refl _) hle108), (HSub.c 4 rfl HSub.n), CSub.n⟩, ?_⟩
   refine JA.pull (Pull.s Pull.z) ?_
   refine zT 11 rfl (zN (H1 := [_]) rfl rfl rfl rfl rfl (ih qb pb2 cb m1 k1 _ (by omega) hfb (by omega) (by omega) hpb hP hm1) ?_ (fun _ _ _ _ ⟨_, _, _, h, _⟩ => by cases h) (fun _ _ ⟨_, _, _, h, _⟩ => by cases h))
   intro v117 I118 H119 hle120 hp121
   have hP := hP.mono hle120
   have hbl := hle120 _ _ hbl
   have hpa := hpa.mono hle120
   have hpb := hpb.mono hle120
   have hpA := hpA.mono hle120
   obtain ⟨pB, cB, ⟨m2, k2⟩, h, hpB, hm2, rfl⟩ := hp121; cases h
   rw [← hBe] at *
   refine ⟨⟨(Le.trans (Le.trans (Le.refl _) hle108) hle120), (HSub.c 4 rfl HSub.n), CSub.n⟩, ?_⟩
   refine zT 14 rfl (DV 2 zK (yV.c (yV.c (yV.c (yV.c (yV.c yV.z))))) (yX.s (yX.s yX.z)) ?_)
   refine ⟨⟨(Le.trans (Le.trans (Le.refl _) hle108) hle120), (HSub.c 4 rfl HSub.n), CSub.n⟩, ?_⟩
   refine zT 15 rfl (DV 1 zK (yV.c (yV.c (yV.c (yV.c (yV.c yV.z))))) (yX.s yX.z) ?_)
   refine ⟨⟨(Le.trans (Le.trans (Le.refl _) hle108) hle120), (HSub.c 4 rfl HSub.n), CSub.n⟩, ?_⟩
   refine JG ?_
   refine Ej.keep (Keeps.k (Keeps.k (Keeps.k (Keeps.k (Keeps.k Keeps.n))))) ?_
   refine Ej.pull Pull.z ?_
   refine Ej.pull (Pull.s (Pull.s (Pull.s (Pull.s Pull.z)))) ?_
   refine Ej.pull (Pull.s (Pull.s (Pull.s (Pull.s Pull.z)))) ?_
   refine Ej.pull (Pull.s (Pull.s (Pull.s Pull.z))) ?_
   refine Ej.pull (Pull.s (Pull.s (Pull.s (Pull.s Pull.z)))) ?_
   exact hcut ⟨_, pA, cA, pB, cB, b104, b116, m2, k2⟩ _ _ _ ⟨hpA, hpB, hm2, hP⟩ ⟨rfl, rfl, rfl, rfl, rfl, trivial⟩ rfl rfl
  refine ⟨_, rfl, rfl, ?_⟩
  refine BM rfl rfl rfl DW rfl ?_
  intro b122 hb122
  refine ⟨⟨(Le.refl _), (HSub.c 3 rfl HSub.n), CSub.n⟩, ?_⟩
  refine JA.pull (Pull.s (Pull.s (Pull.s (Pull.s Pull.z)))) ?_
  refine zT 5 rfl (zN (H1 := [_]) rfl rfl rfl rfl rfl (ih qa pa ca m0 k0 _ (by omega) hfa (by omega) (by omega) hpa hP hm0) ?_ (fun _ _ _ _ ⟨_, _, _, h, _⟩ => by cases h) (fun _ _ ⟨_, _, _, h, _⟩ => by cases h))
  intro v123 I124 H125 hle126 hp127
  have hP := hP.mono hle126
  have hbl := hle126 _ _ hbl
  have hpa := hpa.mono hle126
  have hpb := hpb.mono hle126
  obtain ⟨pA, cA, ⟨m1, k1⟩, h, hpA, hm1, rfl⟩ := hp127; cases h
  rw [← hAe] at *
  refine ⟨⟨(Le.trans (Le.refl _) hle126), (HSub.c 4 rfl HSub.n), CSub.n⟩, ?_⟩
  refine JA.pull Pull.z ?_
  refine zT 11 rfl (zN (H1 := [_]) rfl rfl rfl rfl rfl (ih qb pb2 cb m1 k1 _ (by omega) hfb (by omega) (by omega) hpb hP hm1) ?_ (fun _ _ _ _ ⟨_, _, _, h, _⟩ => by cases h) (fun _ _ ⟨_, _, _, h, _⟩ => by cases h))
  intro v128 I129 H130 hle131 hp132
  have hP := hP.mono hle131
  have hbl := hle131 _ _ hbl
  have hpa := hpa.mono hle131
  have hpb := hpb.mono hle131
  have hpA := hpA.mono hle131
  obtain ⟨pB, cB, ⟨m2, k2⟩, h, hpB, hm2, rfl⟩ := hp132; cases h
  rw [← hBe] at *
  refine ⟨⟨(Le.trans (Le.trans (Le.refl _) hle126) hle131), (HSub.c 4 rfl HSub.n), CSub.n⟩, ?_⟩
  refine zT 14 rfl (DV 2 zK (yV.c (yV.c (yV.c (yV.c (yV.c yV.z))))) (yX.s (yX.s yX.z)) ?_)
  refine ⟨⟨(Le.trans (Le.trans (Le.refl _) hle126) hle131), (HSub.c 4 rfl HSub.n), CSub.n⟩, ?_⟩
  refine zT 15 rfl (DV 1 zK (yV.c (yV.c (yV.c (yV.c (yV.c yV.z))))) (yX.s yX.z) ?_)
  refine ⟨⟨(Le.trans (Le.trans (Le.refl _) hle126) hle131), (HSub.c 4 rfl HSub.n), CSub.n⟩, ?_⟩
  refine JG ?_
  refine Ej.keep (Keeps.k (Keeps.k (Keeps.k (Keeps.k (Keeps.k Keeps.n))))) ?_
  refine Ej.pull Pull.z ?_
  refine Ej.pull (Pull.s (Pull.s (Pull.s (Pull.s Pull.z)))) ?_
  refine Ej.pull (Pull.s (Pull.s (Pull.s (Pull.s Pull.z)))) ?_
  refine Ej.pull (Pull.s (Pull.s (Pull.s Pull.z))) ?_
  refine Ej.pull (Pull.s (Pull.s (Pull.s (Pull.s Pull.z)))) ?_
  exact hcut ⟨_, pA, cA, pB, cB, b104, b122, m2, k2⟩ _ _ _ ⟨hpA, hpB, hm2, hP⟩ ⟨rfl, rfl, rfl, rfl, rfl, trivial⟩ rfl rfl
 refine ⟨_, rfl, rfl, ?_⟩
 refine BM rfl rfl rfl DW rfl ?_
 intro b133 hb133
 refine ⟨⟨(Le.refl _), (HSub.c 2 rfl HSub.n), CSub.n⟩, ?_⟩
 refine JA.all [5, 12] (by kernel_rfl) (by simp) ?_
 intro i hi
 simp only [List.mem_cons, List.not_mem_nil, or_false] at hi
 rcases hi with rfl | rfl
 ·refine ⟨_, rfl, rfl, ?_⟩
  refine BZ.pull (Pull.s (Pull.s (Pull.s Pull.z))) ?_
  refine zN (H1 := [_]) rfl rfl rfl rfl rfl (ih qa pa ca m0 k0 _ (by omega) hfa (by omega) (by omega) hpa hP hm0) ?_ (fun _ _ _ _ ⟨_, _, _, h, _⟩ => by cases h) (fun _ _ ⟨_, _, _, h, _⟩ => by cases h)
  intro v134 I135 H136 hle137 hp138
  have hP := hP.mono hle137
  have hbl := hle137 _ _ hbl
  have hpa := hpa.mono hle137
  have hpb := hpb.mono hle137
  obtain ⟨pA, cA, ⟨m1, k1⟩, h, hpA, hm1, rfl⟩ := hp138; cases h
  rw [← hAe] at *
  refine ⟨⟨(Le.trans (Le.refl _) hle137), (HSub.c 3 rfl HSub.n), CSub.n⟩, ?_⟩
  refine JA.all [11, 12] (by kernel_rfl) (by simp) ?_
  intro i hi
  simp only [List.mem_cons, List.not_mem_nil, or_false] at hi
  rcases hi with rfl | rfl
  ·refine ⟨_, rfl, rfl, ?_⟩
   refine BZ.pull Pull.z ?_
   refine zN (H1 := [_]) rfl rfl rfl rfl rfl (ih qb pb2 cb m1 k1 _ (by omega) hfb (by omega) (by omega) hpb hP hm1) ?_ (fun _ _ _ _ ⟨_, _, _, h, _⟩ => by cases h) (fun _ _ ⟨_, _, _, h, _⟩ => by cases h)
   intro v139 I140 H141 hle142 hp143
   have hP := hP.mono hle142
   have hbl := hle142 _ _ hbl
   have hpa := hpa.mono hle142
   have hpb := hpb.mono hle142
   have hpA := hpA.mono hle142
   obtain ⟨pB, cB, ⟨m2, k2⟩, h, hpB, hm2, rfl⟩ := hp143; cases h
   rw [← hBe] at *
   refine ⟨⟨(Le.trans (Le.trans (Le.refl _) hle137) hle142), (HSub.c 3 rfl HSub.n), CSub.n⟩, ?_⟩
   refine zT 12 rfl (BM rfl rfl rfl DW rfl ?_)
   intro b144 hb144
   refine ⟨⟨(Le.trans (Le.trans (Le.refl _) hle137) hle142), (HSub.c 4 rfl HSub.n), CSub.n⟩, ?_⟩
   refine zT 14 rfl (DV 0 zK (yV.c (yV.c (yV.c (yV.c (yV.c yV.z))))) yX.z ?_)
   refine ⟨⟨(Le.trans (Le.trans (Le.refl _) hle137) hle142), (HSub.c 4 rfl HSub.n), CSub.n⟩, ?_⟩
   refine zT 15 rfl (DV 2 zK (yV.c (yV.c (yV.c (yV.c (yV.c yV.z))))) (yX.s (yX.s yX.z)) ?_)
   refine ⟨⟨(Le.trans (Le.trans (Le.refl _) hle137) hle142), (HSub.c 4 rfl HSub.n), CSub.n⟩, ?_⟩
   refine JG ?_
   refine Ej.keep (Keeps.k (Keeps.k (Keeps.k (Keeps.k (Keeps.k Keeps.n))))) ?_
   refine Ej.pull (Pull.s Pull.z) ?_
   refine Ej.pull (Pull.s (Pull.s (Pull.s (Pull.s Pull.z)))) ?_
   refine Ej.pull (Pull.s (Pull.s (Pull.s (Pull.s Pull.z)))) ?_
   refine Ej.pull (Pull.s (Pull.s (Pull.s (Pull.s Pull.z)))) ?_
   refine Ej.pull (Pull.s (Pull.s (Pull.s (Pull.s Pull.z)))) ?_
   exact hcut ⟨_, pA, cA, pB, cB, b144, b133, m2, k2⟩ _ _ _ ⟨hpA, hpB, hm2, hP⟩ ⟨rfl, rfl, rfl, rfl, rfl, trivial⟩ rfl rfl
  refine ⟨_, rfl, rfl, ?_⟩
  refine BM rfl rfl rfl DW rfl ?_
  intro b145 hb145
  refine ⟨⟨(Le.trans (Le.refl _) hle137), (HSub.c 4 rfl HSub.n), CSub.n⟩, ?_⟩
  refine JA.pull (Pull.s Pull.z) ?_
  refine zT 11 rfl (zN (H1 := [_]) rfl rfl rfl rfl rfl (ih qb pb2 cb m1 k1 _ (by omega) hfb (by omega) (by omega) hpb hP hm1) ?_ (fun _ _ _ _ ⟨_, _, _, h, _⟩ => by cases h) (fun _ _ ⟨_, _, _, h, _⟩ => by cases h))
  intro v146 I147 H148 hle149 hp150
  have hP := hP.mono hle149
  have hbl := hle149 _ _ hbl
  have hpa := hpa.mono hle149
  have hpb := hpb.mono hle149
  have hpA := hpA.mono hle149
  obtain ⟨pB, cB, ⟨m2, k2⟩, h, hpB, hm2, rfl⟩ := hp150; cases h
  rw [← hBe] at *
  refine ⟨⟨(Le.trans (Le.trans (Le.refl _) hle137) hle149), (HSub.c 4 rfl HSub.n), CSub.n⟩, ?_⟩
  refine zT 14 rfl (DV 1 zK (yV.c (yV.c (yV.c (yV.c (yV.c yV.z))))) (yX.s yX.z) ?_)
  refine ⟨⟨(Le.trans (Le.trans (Le.refl _) hle137) hle149), (HSub.c 4 rfl HSub.n), CSub.n⟩, ?_⟩
  refine zT 15 rfl (DV 2 zK (yV.c (yV.c (yV.c (yV.c (yV.c yV.z))))) (yX.s (yX.s yX.z)) ?_)
  refine ⟨⟨(Le.trans (Le.trans (Le.refl _) hle137) hle149), (HSub.c 4 rfl HSub.n), CSub.n⟩, ?_⟩
  refine JG ?_
  refine Ej.keep (Keeps.k (Keeps.k (Keeps.k (Keeps.k (Keeps.k Keeps.n))))) ?_
  refine Ej.pull Pull.z ?_
  refine Ej.pull (Pull.s (Pull.s (Pull.s (Pull.s Pull.z)))) ?_
  refine Ej.pull (Pull.s (Pull.s (Pull.s (Pull.s Pull.z)))) ?_
  refine Ej.pull (Pull.s (Pull.s (Pull.s (Pull.s Pull.z)))) ?_
  refine Ej.pull (Pull.s (Pull.s (Pull.s (Pull.s Pull.z)))) ?_
  exact hcut ⟨_, pA, cA, pB, cB, b145, b133, m2, k2⟩ _ _ _ ⟨hpA, hpB, hm2, hP⟩ ⟨rfl, rfl, rfl, rfl, rfl, trivial⟩ rfl rfl
 refine ⟨_, rfl, rfl, ?_⟩
 refine BM rfl rfl rfl DW rfl ?_
 intro b151 hb151
 refine ⟨⟨(Le.refl _), (HSub.c 3 rfl HSub.n), CSub.n⟩, ?_⟩
 refine JA.pull (Pull.s (Pull.s (Pull.s (Pull.s Pull.z)))) ?_
 refine zT 5 rfl (zN (H1 := [_]) rfl rfl rfl rfl rfl (ih qa pa ca m0 k0 _ (by omega) hfa (by omega) (by omega) hpa hP hm0) ?_ (fun _ _ _ _ ⟨_, _, _, h, _⟩ => by cases h) (fun _ _ ⟨_, _, _, h, _⟩ => by cases h))
 intro v152 I153 H154 hle155 hp156
 have hP := hP.mono hle155
 have hbl := hle155 _ _ hbl
 have hpa := hpa.mono hle155
 have hpb := hpb.mono hle155
 obtain ⟨pA, cA, ⟨m1, k1⟩, h, hpA, hm1, rfl⟩ := hp156; cases h
 rw [← hAe] at *
 refine ⟨⟨(Le.trans (Le.refl _) hle155), (HSub.c 4 rfl HSub.n), CSub.n⟩, ?_⟩
 refine JA.pull Pull.z ?_
 refine zT 11 rfl (zN (H1 := [_]) rfl rfl rfl rfl rfl (ih qb pb2 cb m1 k1 _ (by omega) hfb (by omega) (by omega) hpb hP hm1) ?_ (fun _ _ _ _ ⟨_, _, _, h, _⟩ => by cases h) (fun _ _ ⟨_, _, _, h, _⟩ => by cases h))
 intro v157 I158 H159 hle160 hp161
 have hP := hP.mono hle160
 have hbl := hle160 _ _ hbl
 have hpa := hpa.mono hle160
 have hpb := hpb.mono hle160
 have hpA := hpA.mono hle160
 obtain ⟨pB, cB, ⟨m2, k2⟩, h, hpB, hm2, rfl⟩ := hp161; cases h
 rw [← hBe] at *
 refine ⟨⟨(Le.trans (Le.trans (Le.refl _) hle155) hle160), (HSub.c 4 rfl HSub.n), CSub.n⟩, ?_⟩
 refine zT 14 rfl (DV 1 zK (yV.c (yV.c (yV.c (yV.c (yV.c yV.z))))) (yX.s yX.z) ?_)
 refine ⟨⟨(Le.trans (Le.trans (Le.refl _) hle155) hle160), (HSub.c 4 rfl HSub.n), CSub.n⟩, ?_⟩
 refine zT 15 rfl (DV 2 zK (yV.c (yV.c (yV.c (yV.c (yV.c yV.z))))) (yX.s (yX.s yX.z)) ?_)
 refine ⟨⟨(Le.trans (Le.trans (Le.refl _) hle155) hle160), (HSub.c 4 rfl HSub.n), CSub.n⟩, ?_⟩
 refine JG ?_
 refine Ej.keep (Keeps.k (Keeps.k (Keeps.k (Keeps.k (Keeps.k Keeps.n))))) ?_
 refine Ej.pull Pull.z ?_
 refine Ej.pull (Pull.s (Pull.s (Pull.s (Pull.s Pull.z)))) ?_
 refine Ej.pull (Pull.s (Pull.s (Pull.s (Pull.s Pull.z)))) ?_
 refine Ej.pull (Pull.s (Pull.s (Pull.s (Pull.s Pull.z)))) ?_
 refine Ej.pull (Pull.s (Pull.s (Pull.s (Pull.s Pull.z)))) ?_
 exact hcut ⟨_, pA, cA, pB, cB, b151, b133, m2, k2⟩ _ _ _ ⟨hpA, hpB, hm2, hP⟩ ⟨rfl, rfl, rfl, rfl, rfl, trivial⟩ rfl rfl
end Go.Proofs.YtekmeaoblpfnpaaGreatDoor
end
namespace Go.Proofs.YtekmeaoblpfnpaaGreatDoor
open _root_.Go.Proofs.Tryz
open Go Go.Sx Go.Stab
theorem a8z xv L (htk : Ix.RU L) (hL : Ix.AL L) pb mb : ∀ n, a3a xv L pb mb n
  | 0 => fun _ _ _ _ _ _ h => absurd h (Nat.not_lt_zero _)
  | n + 1 => b3I xv L htk hL pb mb n (a8z xv L htk hL pb mb n)
theorem b7R xv L (htk : Ix.RU L) (hL : Ix.AL L) q p c (hwd : q.wide ≤ 10000000) (hsz : q.size ≤ 10000000) I (hps : PS I q.ps p) (hx : JI I xv L) (hT : IX I) :
    yY Tryz.prog 46 [xv, .agg (zW q p c).toArray] I [] (fun e I' H' => ∃ (p' : Option Addr) (c' : Nat), e = .returned (.agg (zW (Ix.MF (DZ L) q) p' c').toArray) ∧ PS I' (Ix.MF (DZ L) q).ps p' ∧ H' = []) := by
 obtain ⟨pa, rfl⟩ : ∃ pa, xv = .pointer pa := by
   rcases hx with ⟨rfl, _⟩ | ⟨b, rfl, _⟩ <;> exact ⟨_, rfl⟩
 refine yY.ob Tryz.func46 ?_
 intro w0 hw0
 refine Cj.sr (J.op rfl (IU rfl rfl rfl rfl rfl ?_))
 intro b1 hb1
 refine J.op rfl (BM rfl rfl rfl DW rfl ?_)
 intro b2 hb2
 refine J.a0G (Cj.region (J.z (AY rfl rfl BG zK (yZ.at 1 rfl) rfl rfl) ?_))
 refine J.op rfl (NR rfl rfl rfl rfl rfl (XD q p c (by omega) (by omega) _ hps) ?_)
 refine J.z (b4c rfl rfl) ?_
 refine J.cd (fun hc3 => ?_) (fun hc3 => ?_)
 ·refine Cj.sr (J.z (AQ (pl := #[(0, 1), (1, 1), (2, 1), (3, 1), (4, 1)]) rfl rfl DW rfl tU32 (fun w => by simp [OL, MV, EI]) AO.none) ?_)
  refine J.op rfl (DV 0 zK (yV.c (yV.c (yV.c (yV.c (yV.c yV.z))))) yX.z ?_)
  refine J.ns (Cj.rs ?_)
  have hR : Cq.right q = false := by have h := hc3; simpa using h
  have he : Ix.MF (DZ L) q = Cq.zero := by unfold Ix.MF; rw [hR]; rfl
  refine Ej.NC (Keeps.d (Keeps.d Keeps.n)) rfl rfl rfl (yZ.at 0 rfl) BG zK rfl ?_
  rw [he]
  exact ⟨none, 0, rfl, .inl rfl, rfl⟩
 have hR : Cq.right q = true := by have h := hc3; simpa using h
 have hform : Cq.form q = true := by unfold Cq.right at hR; rw [Bool.and_eq_true] at hR; exact hR.1
 obtain ⟨hF1, hF2, hF3⟩ := Ix.TD Ix.JW Ix.FY (DZ L) (q.size + 1) q (Nat.lt_succ_self _) hform
 refine Cj.ks (Cj.sr (J.z BQ ?_))
 refine J.op rfl (AV rfl rfl rfl ?_)
 intro b4 hb4
 refine J.z (AQ (pl := #[(0, 1), (1, 1)]) rfl rfl Tryz.zeroValue173 rfl XT (fun w => by simp [Tryz.sizeOf171, Tryz.sizeOf26]) (AO.part rfl rfl rfl (yV.c yV.z) (AO.part rfl rfl rfl (yV.s (yV.c yV.z)) AO.none))) ?_
 refine J.op rfl (IU rfl rfl rfl rfl rfl ?_)
 intro b5 hb5
 refine J.z GH ?_
 refine J.a0G (Cj.persist hb5 (fun I7 hle6 hb5i => ?_))
 have hps := hps.mono hle6
 have hx := hx.mono hle6
 have hT := hT.mono hle6
 refine Cj.region (J.z BQ ?_)
 refine J.z (AY rfl rfl BG zK (yZ.at 2 rfl) rfl rfl) ?_
 refine J.pull Pull.z ?_
 refine J.op rfl (zN (H1 := [_]) rfl rfl rfl rfl rfl (a8z _ L htk hL b5 b4 (q.size + 1) q p c [] 0 _ (Nat.lt_succ_self _) hform hwd hsz hps ⟨hb5i, hx, hT⟩ (WC.nil L)) ?_ (fun _ _ _ _ ⟨_, _, _, h, _⟩ => by cases h) (fun _ _ ⟨_, _, _, h, _⟩ => by cases h))
 intro v8 I9 H10 hle11 hp12
 have hps := hps.mono hle11
 have hx := hx.mono hle11
 have hT := hT.mono hle11
 have hb5i := hle11 _ _ hb5i
 obtain ⟨p2, c2, ⟨m2, k2⟩, h, hp2, hm2, rfl⟩ := hp12; cases h
 refine J.op rfl (BM rfl rfl rfl DW rfl ?_)
 intro b13 hb13
 refine J.op rfl (DV 0 zK (yV.c (yV.c (yV.c (yV.c (yV.c yV.z))))) yX.z ?_)
 refine J.UQ (J.z (AY rfl rfl BG zK (yZ.at 0 rfl) rfl rfl) ?_)
 refine J.op rfl (NR rfl rfl rfl rfl rfl (XD (Ix.BO (DZ L) (q.size + 1) q) p2 c2 (by omega) (by omega) _ hp2) ?_)
 refine J.cd (fun hc14 => ?_) (fun hc14 => ?_)
 ·refine Cj.sr (J.z (AY rfl rfl BG zK (yZ.at 0 rfl) rfl rfl) ?_)
  refine J.op rfl (DV 2 zK (yV.c (yV.c (yV.c (yV.c (yV.c yV.z))))) (yX.s (yX.s yX.z)) ?_)
  refine J.ns (Cj.rs ?_)
  have hR2 : Cq.right (Ix.BO (DZ L) (q.size + 1) q) = true := hc14
  have he : Ix.MF (DZ L) q = Ix.BO (DZ L) (q.size + 1) q := by unfold Ix.MF Ix.a2e; rw [if_pos hR, if_pos hR2]
  refine Ej.NC (Keeps.d (Keeps.d (Keeps.d (Keeps.d Keeps.n)))) rfl rfl rfl (yZ.at 2 rfl) BG zK rfl ?_
  rw [he]
  exact ⟨p2, c2, rfl, hp2, rfl⟩
 refine Cj.ks (Cj.sr (J.z (AY rfl rfl BG zK (yZ.at 3 rfl) rfl rfl) ?_))
 refine J.op rfl (DV 2 zK (yV.c (yV.c (yV.c (yV.c (yV.c yV.z))))) (yX.s (yX.s yX.z)) ?_)
 refine J.ns (Cj.ret ?_)
 have hR2 : Cq.right (Ix.BO (DZ L) (q.size + 1) q) = false := hc14
 have he : Ix.MF (DZ L) q = q := by unfold Ix.MF Ix.a2e; rw [if_pos hR, if_neg (by rw [hR2]; decide)]
 refine Ej.NC (Keeps.d (Keeps.d (Keeps.d (Keeps.d Keeps.n)))) rfl rfl rfl (yZ.at 2 rfl) BG zK rfl ?_
 rw [he]
 exact ⟨p, c, rfl, hps, rfl⟩
end Go.Proofs.YtekmeaoblpfnpaaGreatDoor
namespace Ix
open Ke Go.Stab Cq
end Ix
namespace Ix
open Ke Go.Stab Cq
structure CQ (ts : List Qn) (q : Qn) : Prop where
  form : form q = true
  mem : ∀ x, x ∈ lst 2 q ↔ x ∈ ts
  size : q.size + 2 ≤ 2 * ts.length
  deep : depth q ≤ ts.length
  wide : q.wide ≤ 30 * ts.length
def Tm (x : Qn) : Prop := x.k = 1 ∧ Cq.form x = true ∧ x.wide ≤ 30 ∧ x.size = 0
theorem CQ.one {x} (h : Tm x) : CQ [x] x := ⟨h.2.1, fun y => by rw [QX (by rw [h.1]; decide)], by rw [h.2.2.2]; simp, by rw [GX h.1]; exact Nat.zero_le _, by simpa using h.2.2.1⟩
theorem b7B k : Cq.up k ≤ 1 := by unfold Cq.up; split <;> simp
theorem a8Z {a b} (ha : Cq.form a = true) (hb : Cq.form b = true) : Cq.form (AA 2 a b) = true := (OC FY (k := 2) (by decide) (by decide) [b] a ha (fun y hy => by rw [List.mem_singleton.1 hy]; exact hb)).1
theorem CQ.back {ts q x} (h : CQ ts q) (hx : Tm x) : CQ (ts ++ [x]) (AA 2 q x) := by
  have e : lst 2 (AA 2 q x) = lst 2 q ++ lst 2 x := VX rfl rfl
  have hs := a4e 2 q x
  have hw := a3X 2 q x
  have hd : depth (AA 2 q x) = max (depth x + Cq.up x.k) (depth q) := QE (show (2 : Int) ≠ 1 by decide) rfl
  have h1 := h.size
  have h2 := h.deep
  have h3 := h.wide
  have h4 := b7B x.k
  have h5 := GX hx.1
  refine ⟨a8Z h.form hx.2.1, fun y => by rw [e, QX (q := x) (by rw [hx.1]; decide), List.mem_append, List.mem_append, h.mem], ?_, ?_, ?_⟩
  · rw [List.length_append, List.length_singleton, hs, hx.2.2.2]; omega
  · rw [List.length_append, List.length_singleton, hd]; omega
  rw [List.length_append, List.length_singleton, hw]; have := hx.2.2.1; omega
theorem CQ.front {ts q x} (h : CQ ts q) (hx : Tm x) : CQ (ts ++ [x]) (AA 2 x q) := by
  have e : lst 2 (AA 2 x q) = lst 2 x ++ lst 2 q := VX rfl rfl
  have hs := a4e 2 x q
  have hw := a3X 2 x q
  have hd : depth (AA 2 x q) = max (depth q + Cq.up q.k) (depth x) := QE (show (2 : Int) ≠ 1 by decide) rfl
  have h1 := h.size
  have h2 := h.deep
  have h3 := h.wide
  have h4 := b7B q.k
  have h5 := GX hx.1
  refine ⟨a8Z hx.2.1 h.form, fun y => by rw [e, QX (q := x) (by rw [hx.1]; decide), List.mem_append, List.mem_append, h.mem, or_comm], ?_, ?_, ?_⟩
  · rw [List.length_append, List.length_singleton, hs, hx.2.2.2]; omega
  · rw [List.length_append, List.length_singleton, hd]; omega
  rw [List.length_append, List.length_singleton, hw]; have := hx.2.2.1; omega
theorem a7C : ∀ (r : List Qn) (x : Qn), (∀ y ∈ r, y.k ≠ 2) → lst 2 (r.foldl (AA 2) x) = lst 2 x ++ r
  | [], x, _ => by simp
  | y :: r, x, h => by
    rw [List.foldl_cons, a7C r _ fun z hz => h z (.tail _ hz), show lst 2 (AA 2 x y) = lst 2 x ++ lst 2 y from VX rfl rfl, QX (h y (.head _)), List.append_assoc]; rfl
theorem a5M {l} (hl : l ≠ []) (h : ∀ y ∈ l, y.k ≠ 2) : lst 2 (NP 2 l) = l := by
  cases l with
  | nil => exact absurd rfl hl
  | cons x r =>
    show lst 2 (r.foldl (AA 2) x) = x :: r
    rw [a7C r x fun z hz => h z (.tail _ hz), QX (h x (.head _))]; rfl
theorem TI {sz k l} y : y ∈ JD (ord sz k) l ↔ y ∈ l := (TM (XC sz k) l).mem_iff.trans XG
theorem ZH {sz k l} (h : l ≠ []) : JD (ord sz k) l ≠ [] := fun e => by
  obtain ⟨y, hy⟩ := List.exists_mem_of_ne_nil l h
  have := (TI (sz := sz) (k := k) y).2 hy
  rw [e] at this; cases this
theorem a1C sz : ∀ (n : Nat) (q : Qn), q.size < n → Cq.form q = true → (∀ x ∈ lst 2 q, x.k = 1) → ∃ l, l ≠ [] ∧ (∀ x, x ∈ l ↔ x ∈ lst 2 q) ∧ BO sz n q = OD sz 2 l
  | 0, _, h, _, _ => absurd h (Nat.not_lt_zero _)
  | n + 1, q, h, hq, ht => by
    rcases EO hq with h1 | ⟨h1, h2, h4, a, b, hab, ha, hb⟩
    · exact ⟨[q], by simp, fun x => by rw [QX (by omega)], by rw [a1r sz h1]; rfl⟩
    have hk : q.k = 2 := Decidable.byContradiction fun hk => by
      have := ht q (by rw [QX hk]; exact .head _)
      omega
    have hs := hab.size
    have e : lst 2 q = lst 2 a ++ lst 2 b := VX hk hab
    obtain ⟨la, a1, a2, a3⟩ := a1C sz n a (by omega) ha fun x hx => ht x (by rw [e]; exact List.mem_append_left _ hx)
    obtain ⟨lb, b1, b2, b3⟩ := a1C sz n b (by omega) hb fun x hx => ht x (by rw [e]; exact List.mem_append_right _ hx)
    have ka : ∀ y ∈ JD (ord sz 2) la, y.k ≠ 2 := fun y hy => by
      have := ht y (by rw [e]; exact List.mem_append_left _ ((a2 y).1 ((TI y).1 hy)))
      omega
    have kb : ∀ y ∈ JD (ord sz 2) lb, y.k ≠ 2 := fun y hy => by
      have := ht y (by rw [e]; exact List.mem_append_right _ ((b2 y).1 ((TI y).1 hy)))
      omega
    refine ⟨JD (ord sz 2) la ++ JD (ord sz 2) lb, fun e2 => ZH a1 (List.append_eq_nil_iff.1 e2).1, fun x => ?_, ?_⟩
    · rw [e, List.mem_append, List.mem_append, TI, TI, a2, b2]
    rw [a1T sz h1 (by omega) hab, hk, a3, b3]
    unfold OD
    rw [a5M (ZH a1) ka, a5M (ZH b1) kb]
theorem b2i {l : List Qn} {x} (h : l.Nodup) : (PG l x).Nodup := by
  unfold PG
  split
  · exact h
  rename_i hx
  rw [List.nodup_append]
  exact ⟨h, by simp, fun a ha b hb => by rw [List.mem_singleton.1 hb]; intro e; exact hx (e ▸ ha)⟩
theorem YR : ∀ (l out : List Qn), out.Nodup → (l.foldl PG out).Nodup
  | [], _, h => h
  | _ :: l, _, h => YR l _ (b2i h)
structure Chp (sz : Qn → Nat) (ts : List Qn) (s : List Qn) : Prop where
  ne : s ≠ []
  nd : s.Nodup
  mem : ∀ x, x ∈ s ↔ x ∈ ts
  FD : s.Pairwise fun x y => sz x ≤ sz y
theorem b6R sz l : (JD (ord sz 2) l).Pairwise fun x y => sz x ≤ sz y := by
  obtain ⟨t, ht, _, hs⟩ := a0o (XC sz 2) l [] [] Stab.nil
  show (l.foldl (b1V (ord sz 2)) []).Pairwise _
  rw [← ht, List.pairwise_map]
  refine hs.imp fun {a b} h => ?_
  rcases h with h | ⟨h, _⟩
  · have h : (if (2 : Int) = 2 then decide (sz a.1 < sz b.1) else _) = true := h
    rw [if_pos rfl, decide_eq_true_eq] at h; omega
  have h : (if (2 : Int) = 2 then decide (sz b.1 < sz a.1) else _) = false := h
  rw [if_pos rfl, decide_eq_false_iff_not] at h; omega
theorem Chp.len {sz ts s} (h : Chp sz ts s) : s.length = (dedup ts).length :=
  ((List.perm_ext_iff_of_nodup h.nd (YR ts [] List.nodup_nil)).2 fun x => (h.mem x).trans XG.symm).length_eq
theorem a6j : ∀ (r : List Qn) (x : Qn), (∀ y ∈ r, y.k = 1) → depth (r.foldl (AA 2) x) = depth x
  | [], _, _ => rfl
  | y :: r, x, h => by
    rw [List.foldl_cons, a6j r _ fun z hz => h z (.tail _ hz), show depth (AA 2 x y) = max (depth y + Cq.up y.k) (depth x) from QE (show (2 : Int) ≠ 1 by decide) rfl, GX (h y (.head _)), h y (.head _)]
    unfold Cq.up
    simp
theorem CQ.plan sz {ts q} (h : CQ ts q) (ht : ∀ x ∈ ts, x.k = 1) (hl : ts.length ≤ 50) : right q = true ∧ ∃ s, Chp sz ts s ∧ MF sz q = NP 2 s := by
  have hr : right q = true := SK h.form (Nat.le_trans h.deep hl)
  refine ⟨hr, ?_⟩
  obtain ⟨l, l1, l2, l3⟩ := a1C sz (q.size + 1) q (Nat.lt_succ_self _) h.form fun x hx => ht x ((h.mem x).1 hx)
  have hp := TM (XC sz 2) l
  have hm : ∀ x, x ∈ JD (ord sz 2) l ↔ x ∈ ts := fun x => (TI x).trans ((l2 x).trans (h.mem x))
  refine ⟨JD (ord sz 2) l, ⟨ZH l1, hp.nodup_iff.2 (YR l [] List.nodup_nil), hm, b6R sz l⟩, ?_⟩
  have hf : Cq.form (a2e sz q) = true := (TD FY FY sz (q.size + 1) q (Nat.lt_succ_self _) h.form).1
  have hd : depth (a2e sz q) = 0 := by
    show depth (BO sz (q.size + 1) q) = 0
    rw [l3]
    unfold OD
    cases hi : JD (ord sz 2) l with
    | nil => exact absurd hi (ZH l1)
    | cons x r =>
      rw [hi] at hm
      show depth (r.foldl (AA 2) x) = 0
      rw [a6j r x fun y hy => ht y ((hm y).1 (.tail _ hy)), GX (ht x ((hm x).1 (.head _)))]
  unfold MF
  rw [if_pos hr, if_pos (SK hf (by omega))]
  exact l3
theorem b1Z {l} (h : l ≠ []) y : NP 2 (l ++ [y]) = AA 2 (NP 2 l) y := by
  cases l with
  | nil => exact absurd rfl h
  | cons x r => show (r ++ [y]).foldl (AA 2) x = _; rw [List.foldl_append]; rfl
theorem b6H {s : List Qn} {k y} (h : s[k + 1]? = some y) : NP 2 (s.take (k + 2)) = AA 2 (NP 2 (s.take (k + 1))) y := by
  rw [show k + 2 = (k + 1) + 1 from rfl, List.take_add_one, h]
  refine b1Z (fun e => ?_) y
  have := (List.getElem?_eq_some_iff.1 h).1
  have h2 := congrArg List.length e
  rw [List.length_take] at h2
  simp only [List.length_nil] at h2
  omega
theorem JQ.card {L} (hL : AL L) {q l} (h : JQ L q l) : l.length = (a3E L q).length := by
  have hn : l.Nodup := h.1.imp fun {a b} hab e => by
    subst e
    exact a5U L a hab
  exact ((List.perm_ext_iff_of_nodup hn (a3I hL q)).2 fun t => (h.2 t).trans a9f.symm).length_eq
end Ix
section
namespace Go.Proofs.YtekmeaoblpfnpaaGreatDoor
open _root_.Go.Proofs.Tryz
open Go Go.Sx
open Go.Stab
structure T3 where
  a : UInt8
  b : UInt8
  c : UInt8
abbrev t3C (x : T3) : List Value := [u8 x.a, u8 x.b, u8 x.c]
theorem a2k x : (t3C x).length = 3 := rfl
def chW : List (List UInt8) := [[115, 101, 97], [69, 109, 109, 97], [116, 104, 101], [49, 57, 56, 52], [104, 105, 115, 116, 111, 114, 121], [97]]
theorem b9E n : (chW.map str ++ [])[n % 6]? = some (str (chW.getD (n % 6) [])) := by
  have h : n % 6 < 6 := Nat.mod_lt _ (by decide)
  generalize n % 6 = k at h
  rcases (by omega : k = 0 ∨ k = 1 ∨ k = 2 ∨ k = 3 ∨ k = 4 ∨ k = 5) with rfl | rfl | rfl | rfl | rfl | rfl <;> rfl
theorem b7O n : (chW.getD (n % 6) []).length ≤ 7 := by
  have h : n % 6 < 6 := Nat.mod_lt _ (by decide)
  generalize n % 6 = k at h
  rcases (by omega : k = 0 ∨ k = 1 ∨ k = 2 ∨ k = 3 ∨ k = 4 ∨ k = 5) with rfl | rfl | rfl | rfl | rfl | rfl <;> decide
def NI (x : T3) : Cq.Qn := Ix.EP (a4z x.a) (a4w x.b) (chW.getD (x.c.toNat % 6) [])
def IB (x : T3) : QI := ⟨NI x, none, 0⟩
theorem b6L {x} (h : x ∈ Cq.indexes) : x.length ≤ 7 := by revert x; decide
theorem b5k {x} (h : x ∈ Cq.relations) : x.length ≤ 7 := by revert x; decide
theorem a6O x : Ix.Tm (NI x) := ⟨rfl, Ix.NS (a5L _) (a5C _) _, by
  have h1 := b6L (a5L x.a)
  have h2 := b5k (a5C x.b)
  have h3 := b7O x.c.toNat
  unfold NI
  rw [Ix.b1G]; omega, rfl⟩
theorem b9U (ts : List T3) : (ts.map IB).map QI.q = ts.map NI := by rw [List.map_map]; rfl
theorem b6e {ts : List T3} {i x} (h : ts[i]? = some x) : (ts.take (i + 1)).map NI = (ts.take i).map NI ++ [NI x] := by
  rw [List.take_add_one, h, List.map_append]; rfl
theorem a5v {α : Type} {R : α → α → Prop} {l : List α} (h : l.Pairwise R) {i a b} (ha : l[i]? = some a) (hb : l[i + 1]? = some b) : R a b := by
  obtain ⟨h1, e1⟩ := List.getElem?_eq_some_iff.1 ha
  obtain ⟨h2, e2⟩ := List.getElem?_eq_some_iff.1 hb
  have := List.pairwise_iff_getElem.1 h i (i + 1) h1 h2 (Nat.lt_succ_self _)
  rwa [e1, e2] at this
structure ChS where
  i : Nat
  J : Heap
  g : Gs
  q : Cq.Qn
  p : Option Addr
  c : Nat
structure ChT where
  n : Nat
  J : Heap
  p : Option Addr
  c : Nat
  z : Int
theorem a3m xs v (hao : a3P xs) ts tv (htl9 : ts.length ≤ 1000000000000) I (hT : IX I) (hA : a0y I xs v) (htr : zL t3C I ts tv) : Pure Tryz.prog 13 [v, tv] I (.bool true) := by
 refine yY.toPure ?_
 have hp20 := b6J xs
 obtain ⟨pt, ct, rfl⟩ := zL.len htr
 refine zO Tryz.func13 fun w0 hw0 => ?_
 refine BD (b3D _ hT) ?_
 refine QB (b6u xs _ hao _ hA) ?_
 intro v2 I3 H4 hle5 hn1 hp6
 have hA := hA.mono hle5
 have hT := hT.mono hle5
 have htr := htr.mono hle5
 obtain ⟨ib, o, rb, es, w, h, hok, hE, hL, hek, hel, rfl⟩ := hp6; cases h
 refine J.persists ((rb, _) :: ixH ib o) hn1 (fun Ip hlep hK => ?_)
 have hA := hA.mono hlep
 have hT := hT.mono hlep
 have htr := htr.mono hlep
 have hx : MX Ip ib (Ix.play (acts xs)) := ⟨o, hok.mono hlep, fun p hp => hK p (.tail _ hp)⟩
 clear hok hE hK
 refine yU 10 ?_
 intro b7 hb7
 refine yU 4 ?_
 refine Cj.persist hb7 (fun I9 hle8 hb7i => ?_)
 have hA := hA.mono hle8
 have hT := hT.mono hle8
 have htr := htr.mono hle8
 have hx := hx.mono hle8
 refine yU 2 ?_
 intro b10 hb10
 refine yU 7 ?_
 refine Cj.join (ι := ChS) (fun y => y.i ≤ ts.length ∧ y.i ≤ 8 ∧ BN w0.heap.size 5 (dd ((ts.map IB).take y.i)).length ((dd ((ts.map IB).take y.i)).flatMap IE) y.g ∧ PS y.J y.q.ps y.p ∧ (0 < y.i → Ix.CQ ((ts.take y.i).map NI) y.q) ∧ MX y.J ib (Ix.play (acts xs)) ∧ IX y.J) (fun y => [(5, .bool true), (6, ptr ib 0), (9, ptr b10 0), (10, gV (dd ((ts.map IB).take y.i)).length y.g)]) (fun y => y.J) (fun y => [(b10, zJ 32 (zW y.q y.p y.c))] ++ gH 32 ((dd ((ts.map IB).take y.i)).flatMap IE) y.g) ?_ (fun hcut => ?_)
 ·rintro ⟨i, J1, g, q, p, c⟩ ⟨hi, hi8, hg, hpq, hcq, hx, hT⟩
  dsimp only at hi hi8 hg hpq hcq hx hT ⊢
  have hdl := a1p (ts.map IB) i
  refine yU 4 ?_
  refine J.z (b0j hg rfl rfl EG) ?_
  refine AB (fun hc11 hc11p => ?_) (fun hc11 hc11p => ?_)
  ·refine BL ?_
   exact ⟨rfl, rfl⟩
  obtain ⟨bg12, cg13, sp14, rfl, hbg12⟩ := hg.some (by have h := hc11; simp at h; exact List.length_pos_iff.2 h)
  have hi1 : 0 < i := by
    have h := hc11
    rcases Nat.eq_zero_or_pos i with h0 | h0
    · subst h0; simp [dd] at h
    exact h0
  have hcq2 := hcq hi1
  have htl : ((ts.take i).map NI).length = i := by rw [List.length_map, List.length_take, Nat.min_eq_left hi]
  have hqw := hcq2.wide
  have hqs := hcq2.size
  rw [htl] at hqw hqs
  obtain ⟨hRq, s0, hs0, hse⟩ := hcq2.plan (DZ (Ix.play (acts xs))) (fun x hx => by obtain ⟨y, _, rfl⟩ := List.mem_map.1 hx; rfl) (by omega)
  have hst : ∀ y ∈ s0, Ix.Tm y := fun y hy => by obtain ⟨z, _, rfl⟩ := List.mem_map.1 ((hs0.mem y).1 hy); exact a6O z
  have hsl : s0.length = (dd ((ts.map IB).take i)).length := by rw [hs0.len, ← List.length_map (f := QI.q), a7b, List.map_take, List.map_take, b9U]
  refine BJ (b7R (ptr ib 0) (Ix.play (acts xs)) (a5e (Ix.a3B _)) (Ix.a3r _) q p c (by omega) (by omega) _ hpq (.inr ⟨ib, rfl, hx⟩) hT) ?_
  intro v15 I16 H17 hle18 hp19
  have hx := hx.mono hle18
  have hT := hT.mono hle18
  have hpq := hpq.mono hle18
  obtain ⟨pd, cd, h, hpd, rfl⟩ := hp19; cases h
  rw [hse] at hpd ⊢
  refine yU 1 ?_
  intro b20 hb20
  refine yU 15 ?_
  refine Cj.loop (ι := ChT) (fun y => y.n < s0.length ∧ PS y.J (Ix.NP 2 (s0.take (s0.length - y.n))).ps y.p ∧ ((y.n = 0 ∧ y.z = -1) ∨ ∃ w, s0[s0.length - y.n]? = some w ∧ y.z = (DZ (Ix.play (acts xs)) w : Nat)) ∧ MX y.J ib (Ix.play (acts xs)) ∧ IX y.J) (fun y => s0.length - y.n) (fun y => [(5, .bool true), (6, ptr ib 0), (10, .slice (some ⟨bg12, 0, none⟩) (dd ((ts.map IB).take i)).length cg13), (17, ptr b20 0), (18, i64 y.z), (19, i64 (y.n : Int))]) (fun y => y.J) (fun y => [(b20, zJ 32 (zW (Ix.NP 2 (s0.take (s0.length - y.n))) y.p y.c)), (b10, zJ 32 (zW q p c)), (bg12, zJ 32 ((dd ((ts.map IB).take i)).flatMap IE ++ sp14))]) ⟨0, _, pd, cd, -1⟩ ⟨List.length_pos_iff.2 hs0.ne, by dsimp only; rw [Nat.sub_zero, List.take_length]; exact hpd, .inl ⟨rfl, rfl⟩, hx, hT⟩ ⟨rfl, rfl, rfl, rfl, rfl, rfl, trivial⟩ rfl (by dsimp only; rw [Nat.sub_zero, List.take_length]; rfl) ?_
  rintro ⟨n, J2, pu, cu, z⟩ ⟨hn, hps, hz, hx, hT⟩
  dsimp only at hn hps hz hx hT ⊢
  have hcase : (s0.length - n = 1 ∧ ∃ x0, s0[0]? = some x0 ∧ Ix.NP 2 (s0.take (s0.length - n)) = x0) ∨ ∃ j w, s0.length - n = j + 2 ∧ s0[j + 1]? = some w ∧ Ix.NP 2 (s0.take (s0.length - n)) = Ix.AA 2 (Ix.NP 2 (s0.take (j + 1))) w := by
    rcases (by omega : s0.length - n = 1 ∨ s0.length - n = (s0.length - n - 2) + 2) with h1 | hj
    · obtain ⟨x0, hx0⟩ : ∃ x, s0[0]? = some x := ⟨_, CO (by omega)⟩
      refine .inl ⟨h1, x0, hx0, ?_⟩
      rw [h1]
      cases s0 with
      | nil => cases hx0
      | cons a r => cases hx0; rfl
    generalize s0.length - n - 2 = j at hj
    obtain ⟨w, hw⟩ : ∃ x, s0[j + 1]? = some x := ⟨_, CO (by omega)⟩
    exact .inr ⟨j, w, hj, hw, by rw [hj]; exact Ix.b6H hw⟩
  refine yU 3 ?_
  rcases hcase with ⟨h1, x0, hx0, hu⟩ | ⟨j, w, hj, hw, hu⟩
  ·rw [hu] at hps ⊢
   refine yU 4 ?_
   refine J.skip 3 114 115 true _ rfl rfl rfl (by rw [(hst x0 (CG hx0)).1]; rfl) rfl rfl ?_
   refine J.skip 3 114 116 true _ rfl rfl rfl (by rw [(hst x0 (CG hx0)).1]; rfl) rfl rfl ?_
   refine J.skip 3 114 117 true _ rfl rfl rfl (by rw [(hst x0 (CG hx0)).1]; rfl) rfl rfl ?_
   refine J.skip 3 114 118 true _ rfl rfl rfl (by rw [(hst x0 (CG hx0)).1]; rfl) rfl rfl ?_
   refine J.z (SX rfl rfl (by rw [(hst x0 (CG hx0)).1]; rfl) rfl) ?_
   refine QB (WQ (ptr ib 0) (Ix.play (acts xs)) (x0) pu cu (by rw [(hst x0 (CG hx0)).2.2.2]; omega) (IQ (hst x0 (CG hx0)).2.2.1 (by decide)) (Ix.SK (hst x0 (CG hx0)).2.1 (by rw [Cq.GX (hst x0 (CG hx0)).1]; exact Nat.zero_le _)) (a5e (Ix.a3B _)) _ hps (.inr ⟨ib, rfl, hx⟩) hT) ?_
   intro v23 I24 H25 hle26 hn22 hp27
   have hx := hx.mono hle26
   have hT := hT.mono hle26
   have hps := hps.mono hle26
   obtain ⟨we, re, h, hrune, hoe⟩ := hp27; cases h
   have hle0 := hrune.card (Ix.a3r _)
   change _ = DZ _ x0 at hle0
   have hzl : z < 0 ∨ (re.length : Int) ≤ z := by
     rcases hz with ⟨_, h⟩ | ⟨w2, hw2, h⟩
     · exact .inl (by omega)
     have h9 : DZ (Ix.play (acts xs)) x0 ≤ DZ (Ix.play (acts xs)) w2 := a5v hs0.FD hx0 (by rw [show 0 + 1 = s0.length - n by omega]; exact hw2)
     exact .inr (by omega)
   refine J.LH hoe hn22 (fun Ie hlee hre => ?_)
   have hx := hx.mono hlee
   have hT := hT.mono hlee
   have hps := hps.mono hlee
   replace hre := hre.row
   obtain ⟨pe, ce, rfl⟩ := EN hre
   refine yU 16 ?_
   refine J.KH 6 169 true _ rfl rfl rfl (by rw [(hst x0 (CG hx0)).1]; rfl) (DY BQ ?_)
   refine J.KH 6 169 true _ rfl rfl rfl (by rw [(hst x0 (CG hx0)).1]; rfl) (DY (ZK rfl rfl rfl) ?_)
   refine J.KH 6 169 true _ rfl rfl rfl (by rw [(hst x0 (CG hx0)).1]; rfl) (DY BQ ?_)
   refine QF (fun hg28 hg28p => ?_) (fun hg28 hg28p => ?_)
   ·refine yU 4 ?_
    refine J.KH 6 169 true _ rfl rfl rfl (by rw [(hst x0 (CG hx0)).1]; rfl) (DY (PO rfl rfl hg28 rfl) ?_)
    refine J.z (PO rfl rfl (by rw [(hst x0 (CG hx0)).1]; rfl) rfl) ?_
    refine yU 6 ?_
    refine J.ev 184 (.bool true) rfl (congrArg Value.bool (by rw [beq_iff_eq]; omega)) ?_
    refine BL ?_
    exact ⟨rfl, rfl⟩
   refine yU 4 ?_
   refine J.KH 6 169 true _ rfl rfl rfl (by rw [(hst x0 (CG hx0)).1]; rfl) (DY (SX rfl rfl hg28 rfl) ?_)
   refine J.z (PO rfl rfl (by rw [(hst x0 (CG hx0)).1]; rfl) rfl) ?_
   refine yU 1 ?_
   refine J.KH 16 179 true _ rfl rfl rfl (decide_eq_true (hzl.resolve_left (JE hg28))) (DY BQ ?_)
   refine J.KH 16 179 true _ rfl rfl rfl (decide_eq_true (hzl.resolve_left (JE hg28))) (DY BQ ?_)
   refine J.KH 16 179 true _ rfl rfl rfl (decide_eq_true (hzl.resolve_left (JE hg28))) (DY (LY rfl rfl EG) ?_)
   refine J.KH 16 179 true _ rfl rfl rfl (decide_eq_true (hzl.resolve_left (JE hg28))) (OQ (a0a rfl rfl rfl (MQ (by omega))) rfl rfl ?_)
   refine J.KH 16 179 true _ rfl rfl rfl (decide_eq_true (hzl.resolve_left (JE hg28))) (DY (a4h rfl rfl rfl) ?_)
   refine J.ev 184 (.bool true) rfl (congrArg Value.bool (by rw [beq_iff_eq]; omega)) ?_
   refine J.z (PO rfl rfl (decide_eq_true (hzl.resolve_left (JE hg28))) rfl) ?_
   refine BL ?_
   exact ⟨rfl, rfl⟩
  rw [hu] at hps ⊢
  refine yU 15 ?_
  refine Cj.cond rfl (fun hc29 => ?_) (fun hc29 => Bool.noConfusion (Eq.trans (Eq.symm (decide_eq_true (by omega))) hc29))
  refine yU 4 ?_
  obtain ⟨bl, off, cs', T, fr, pa, ca, pb, cb, rfl, hbl, hca, hcb, hkb, hpa, hpb⟩ := hps.WL (a := Ix.NP 2 (s0.take (j + 1))) (b := w) rfl
  have htw := hst w (CG hw)
  refine yU 4 ?_
  refine J.z (zX (off' := off + 5) rfl rfl rfl EG zK (by omega) (by show _ < (2 : Int); decide) (by simp)) ?_
  refine J.z (qq2 BG zK (yZ.BR hbl) hcb) ?_
  refine QB (WQ (ptr ib 0) (Ix.play (acts xs)) (w) pb cb (by rw [(hst w (CG hw)).2.2.2]; omega) (IQ (hst w (CG hw)).2.2.1 (by decide)) (Ix.SK (hst w (CG hw)).2.1 (by rw [Cq.GX (hst w (CG hw)).1]; exact Nat.zero_le _)) (a5e (Ix.a3B _)) _ hpb (.inr ⟨ib, rfl, hx⟩) hT) ?_
  intro v31 I32 H33 hle34 hn30 hp35
  have hx := hx.mono hle34
  have hT := hT.mono hle34
  have hbl := hle34 _ _ hbl
  have hpa := hpa.mono hle34
  have hpb := hpb.mono hle34
  obtain ⟨wr, rr, h, hrunr, hor⟩ := hp35; cases h
  have hlr := hrunr.card (Ix.a3r _)
  change _ = DZ _ w at hlr
  have hzl : z < 0 ∨ (rr.length : Int) ≤ z := by
    rcases hz with ⟨_, h⟩ | ⟨w2, hw2, h⟩
    · exact .inl (by omega)
    have h9 : DZ (Ix.play (acts xs)) w ≤ DZ (Ix.play (acts xs)) w2 := a5v hs0.FD hw (by rw [show j + 1 + 1 = s0.length - n by omega]; exact hw2)
    exact .inr (by omega)
  refine J.LH hor hn30 (fun Ir hler hrr => ?_)
  have hx := hx.mono hler
  have hT := hT.mono hler
  have hbl := hler _ _ hbl
  have hpa := hpa.mono hler
  have hpb := hpb.mono hler
  replace hrr := hrr.row
  obtain ⟨pr, cr, rfl⟩ := EN hrr
  refine QF (fun hg36 hg36p => ?_) (fun hg36 hg36p => ?_)
  ·refine yU 6 ?_
   refine J.KH 8 141 false _ rfl rfl rfl (decide_eq_false (by have := EX hg36; omega)) (DY (DJ (off' := 4) tU32 MV) ?_)
   refine J.KH 8 141 false _ rfl rfl rfl (decide_eq_false (by have := EX hg36; omega)) (DY (DN Tryz.isAgg30 (yZ.at 0 rfl)) ?_)
   refine J.KH 8 141 false _ rfl rfl rfl (decide_eq_false (by have := EX hg36; omega)) (OQ (zX (off' := off + 5) rfl rfl rfl EG zK (by omega) (by show _ < (2 : Int); decide) (by simp)) rfl rfl ?_)
   refine J.KH 8 141 false _ rfl rfl rfl (decide_eq_false (by have := EX hg36; omega)) (DY (DJ tU32 OL) ?_)
   refine J.KH 8 141 false _ rfl rfl rfl (decide_eq_false (by have := EX hg36; omega)) (DY (zU rfl rfl XJ (yZ.BR hbl) hkb) ?_)
   refine J.KH 8 141 false _ rfl rfl rfl (decide_eq_false (by have := EX hg36; omega)) (DY (a7m rfl rfl rfl) ?_)
   refine J.z (SX rfl rfl (decide_eq_false (by have := EX hg36; omega)) rfl) ?_
   refine yU 2 ?_
   refine Cj.cond rfl (fun hc37 => Bool.noConfusion (Eq.trans (Eq.symm (by rw [htw.1])) hc37)) (fun hc37 => ?_)
   refine yU 13 ?_
   refine J.z (zX (off' := off) rfl rfl rfl EG zK (by omega) (by show _ < (2 : Int); decide) (by simp)) ?_
   refine J.z (qq2 BG zK (yZ.BR hbl) hca) ?_
   refine yU 9 ?_
   refine Ej.round ⟨n + 1, _, pa, ca, _⟩ ⟨by dsimp only; omega, by dsimp only; rw [show s0.length - (n + 1) = j + 1 by omega]; exact hpa, .inr ⟨w, by dsimp only; rw [show s0.length - (n + 1) = j + 1 by omega]; exact hw, by dsimp only; rw [hlr]⟩, hx, hT⟩ (by dsimp only; omega) ⟨rfl, rfl, rfl, rfl, rfl, rfl, trivial⟩ rfl (by dsimp only; rw [show s0.length - (n + 1) = j + 1 by omega])
  refine yU 8 ?_
  refine J.zg (zX (off' := off + 5) rfl rfl rfl EG zK (by omega) (by show _ < (2 : Int); decide) (by simp)) ?_
  refine yU 1 ?_
  refine J.zg (zU rfl rfl XJ (yZ.BR hbl) hkb) ?_
  refine yU 4 ?_
  refine Cj.cond rfl (fun hc38 => Bool.noConfusion (Eq.trans (Eq.symm (by rw [htw.1])) hc38)) (fun hc38 => ?_)
  refine yU 13 ?_
  refine J.z (zX (off' := off) rfl rfl rfl EG zK (by omega) (by show _ < (2 : Int); decide) (by simp)) ?_
  refine J.z (qq2 BG zK (yZ.BR hbl) hca) ?_
  refine yU 9 ?_
  refine Ej.round ⟨n + 1, _, pa, ca, _⟩ ⟨by dsimp only; omega, by dsimp only; rw [show s0.length - (n + 1) = j + 1 by omega]; exact hpa, .inr ⟨w, by dsimp only; rw [show s0.length - (n + 1) = j + 1 by omega]; exact hw, by dsimp only; rw [hlr]⟩, hx, hT⟩ (by dsimp only; omega) ⟨rfl, rfl, rfl, rfl, rfl, rfl, trivial⟩ rfl (by dsimp only; rw [show s0.length - (n + 1) = j + 1 by omega])
 refine yU 6 ?_
 refine Cj.loop (ι := ChS) (fun y => y.i ≤ ts.length ∧ y.i ≤ 8 ∧ BN w0.heap.size 5 (dd ((ts.map IB).take y.i)).length ((dd ((ts.map IB).take y.i)).flatMap IE) y.g ∧ PS y.J y.q.ps y.p ∧ (0 < y.i → Ix.CQ ((ts.take y.i).map NI) y.q) ∧ MX y.J ib (Ix.play (acts xs)) ∧ IX y.J ∧ zL t3C y.J ts (.slice pt ts.length ct) ∧ y.J b7 = some (zJ 9 (chW.map str ++ []))) (fun y => ts.length - y.i) (fun y => [(1, .slice pt ts.length ct), (5, .bool true), (6, ptr ib 0), (8, .slice (some ⟨b7, 0, none⟩) 6 6), (9, ptr b10 0), (10, gV (dd ((ts.map IB).take y.i)).length y.g), (11, i64 (y.i : Int))]) (fun y => y.J) (fun y => [(b10, zJ 32 (zW y.q y.p y.c))] ++ gH 32 ((dd ((ts.map IB).take y.i)).flatMap IE) y.g) ⟨0, _, none, Cq.zero, none, 0⟩ ⟨Nat.zero_le _, Nat.zero_le _, ⟨rfl, rfl⟩, .inl rfl, fun h => absurd h (Nat.lt_irrefl 0), hx, hT, htr, hb7i⟩ ⟨rfl, rfl, rfl, rfl, rfl, rfl, rfl, trivial⟩ rfl rfl ?_
 rintro ⟨i, J1, g, q, p, c⟩ ⟨hi, hi8, hg, hpq, hcq, hx, hT, htr, hb7i⟩
 dsimp only at hi hi8 hg hpq hcq hx hT htr hb7i ⊢
 have hdl := a1p (ts.map IB) i
 refine Cj.seq (Cj.sr (J.z BQ ?_))
 refine J.z BQ ?_
 refine J.z (LY rfl rfl a4s) ?_
 refine J.z (ZK rfl rfl rfl) ?_
 refine J.z BQ ?_
 refine QF (fun hg39 hg39p => ?_) (fun hg39 hg39p => ?_)
 ·have hlt : i < ts.length := by omega
  obtain ⟨x, hgx⟩ : ∃ x, ts[i]? = some x := ⟨_, CO hlt⟩
  have hgm : (ts.map IB)[i]? = some (IB x) := by rw [List.getElem?_map, hgx]; rfl
  have hxs := b6e hgx
  obtain ⟨p5, c5, hpe5, hc5, hp5⟩ := id htr
  cases hpe5
  obtain ⟨tb, tof, tcs, tty, tfr, tsp, rfl, htb, htd⟩ := hp5 (BF hlt)
  refine yU 5 ?_
  refine Cj.cond rfl (fun hc40 => ?_) (fun hc40 => ?_)
  rotate_left
  ·have hc40p := JE hc40
   refine Cj.exit (Ej.VZ (Ej.SB (Ej.SA ?_)))
   exact hcut ⟨i, _, g, q, p, c⟩ _ _ _ ⟨hi, hi8, hg, hpq, hcq, hx, hT⟩ ⟨rfl, rfl, rfl, rfl, trivial⟩ rfl rfl
  have hc40p := EX hc40
  have hlt8 : i < 8 := by omega
  refine Cj.ks (Cj.seq (Cj.block (Cj.seq ?_)))
  refine Cj.AU [0] [] 16 (by kernel_rfl) ?_
  have hb7i_9 := hb7i
  have htb_9 := htb
  refine JA.fix CS (fun fx41 => ?_)
  refine JA.tk 0 rfl fx41 BQ ?_
  refine JA.tk 1 rfl fx41 BQ ?_
  refine JA.tk 2 rfl fx41 (zX (off' := tof + i * 3) rfl rfl rfl a4s Tryz.sizeOf103 (by omega) (by omega) (by simp)) ?_
  refine JA.tk 3 rfl fx41 (EJ (off' := tof + i * 3 + 0) rfl rfl rfl a6Q ZM (by decide) (by decide) (by simp)) ?_
  refine JA.tk 4 rfl fx41 (zU rfl rfl tA5 (yZ.GY htb_9) (KW a2k htd hgx 0 (by decide))) ?_
  refine yU 2 ?_
  refine JA.fix CS (fun fx41 => ?_)
  refine JA.tk 7 rfl fx41 (zX (off' := tof + i * 3) rfl rfl rfl a4s Tryz.sizeOf103 (by omega) (by omega) (by simp)) ?_
  refine JA.tk 8 rfl fx41 (EJ (off' := tof + i * 3 + 1) rfl rfl rfl a6Q ZM (by decide) (by decide) (by simp)) ?_
  refine JA.tk 9 rfl fx41 (zU rfl rfl tA5 (yZ.GY htb_9) (KW a2k htd hgx 1 (by decide))) ?_
  refine zT 10 rfl (zN (H1 := []) rfl rfl rfl rfl rfl (b6Z x.a x.b _) ?_ (fun _ _ _ _ ⟨h, _⟩ => by cases h) (fun _ _ ⟨h, _⟩ => by cases h))
  intro v42 I43 H44 hle45 hp46
  have hx := hx.mono hle45
  have hT := hT.mono hle45
  have htr := htr.mono hle45
  have hpq := hpq.mono hle45
  have hb7i := hle45 _ _ hb7i
  have htb := hle45 _ _ htb
  obtain ⟨h, rfl⟩ := hp46; cases h
  refine ⟨⟨(Le.trans (Le.refl _) hle45), (HSub.c 0 rfl HSub.n), CSub.n⟩, ?_⟩
  refine JA.fix CS (fun fx47 => ?_)
  refine JA.tk 11 rfl fx47 BQ ?_
  refine JA.tk 12 rfl fx47 (a0i rfl rfl rfl) ?_
  refine JA.tk 13 rfl fx47 (a0i rfl rfl rfl) ?_
  refine JA.tk 14 rfl fx47 GH ?_
  refine JA.tk 15 rfl fx47 GH ?_
  refine JG ?_
  refine Ej.seq (Cj.sr (J.z BQ ?_))
  refine J.z BQ ?_
  refine J.z BQ ?_
  refine J.z BQ ?_
  refine J.z BQ ?_
  refine J.z (zX (off' := tof + i * 3) rfl rfl rfl a4s Tryz.sizeOf103 (by omega) (by omega) (by simp)) ?_
  refine J.z (EJ (off' := tof + i * 3 + 2) rfl rfl rfl a6Q ZM (by decide) (by decide) (by simp)) ?_
  refine J.z (zU rfl rfl tA5 (yZ.BR htb) (KW a2k htd hgx 2 (by decide))) ?_
  refine yU 1 ?_
  refine J.ev 63 (.int .u8 ((x.c.toNat % 6 : Nat) : Int)) rfl (congrArg (Value.int .u8) (by rw [Int.tmod_eq_emod_of_nonneg (by omega)]; omega)) ?_
  refine J.z (zX (off' := x.c.toNat % 6) rfl rfl rfl FQ EI (by omega) (by have : x.c.toNat % 6 < 6 := Nat.mod_lt _ (by decide); omega) (by simp; omega)) ?_
  refine J.z (zU rfl rfl JK (yZ.BR hb7i) (b9E _)) ?_
  refine BJ (PV (a4z x.a) (a4w x.b) (chW.getD (x.c.toNat % 6) []) _) ?_
  intro v48 I49 H50 hle51 hp52
  have hx := hx.mono hle51
  have hT := hT.mono hle51
  have htr := htr.mono hle51
  have hpq := hpq.mono hle51
  have hb7i := hle51 _ _ hb7i
  have htb := hle51 _ _ htb
  obtain ⟨h, rfl⟩ := hp52; cases h
  refine yU 1 ?_
  intro b53 hb53
  refine yU 15 ?_
  refine Cj.keep (Keeps.k (Keeps.k Keeps.r)) ?_
  refine Cj.loop (ι := Nat) (fun y => y ≤ (dd ((ts.map IB).take i)).length) (fun y => (dd ((ts.map IB).take i)).length - y) (fun y => [(1, .slice (some ⟨tb, tof, none⟩) ts.length ct), (5, .bool true), (6, ptr ib 0), (8, .slice (some ⟨b7, 0, none⟩) 6 6), (9, ptr b10 0), (10, gV (dd ((ts.map IB).take i)).length g), (11, i64 (i : Int)), (14, ptr b53 0), (15, .bool (((dd ((ts.map IB).take i)).take y).any fun z => decide (z.q = NI x))), (16, i64 (y : Int))]) (fun y => _) (fun y => [(b53, zJ 32 (zW (NI x) none 0)), (b10, zJ 32 (zW q p c))] ++ gH 32 ((dd ((ts.map IB).take i)).flatMap IE) g) 0 (Nat.zero_le _) ⟨rfl, rfl, rfl, rfl, rfl, rfl, rfl, rfl, rfl, rfl, trivial⟩ rfl rfl ?_
  intro k hk
  refine yU 5 ?_
  refine J.z (b0j hg rfl rfl EG) ?_
  refine AB (fun hc54 hc54p => ?_) (fun hc54 hc54p => ?_)
  ·obtain ⟨bg55, cg56, sp57, rfl, hbg55⟩ := hg.some (by omega)
   have hlk : k < (dd ((ts.map IB).take i)).length := by omega
   obtain ⟨z, hz⟩ : ∃ z, (dd ((ts.map IB).take i))[k]? = some z := ⟨_, CO hlk⟩
   have hzm := a3L _ z (CG hz)
   obtain ⟨x9, -, hx9⟩ := List.mem_map.1 (List.mem_of_mem_take hzm)
   have hzt : z = ⟨NI x9, none, 0⟩ := hx9.symm
   refine yU 4 ?_
   refine Cj.AU [0, 1, 2] [] 10 (by kernel_rfl) ?_
   have hb7i_15 := hb7i
   have htb_15 := htb
   refine yU 2 ?_
   refine JA.split 74 rfl (fun hg59 => ?_) (fun hg59 => ?_)
   ·refine yU 16 ?_
    refine Ej.round (k + 1) (by omega) (by omega) ⟨rfl, rfl, rfl, rfl, rfl, rfl, rfl, rfl, (congrArg (fun b => some (Value.bool b)) (by rw [a6V hz, hg59]; rfl)), rfl, trivial⟩ rfl rfl
   refine yU 2 ?_
   refine JA.fix CS (fun fx58 => ?_)
   refine JA.RS 4 1 74 false _ rfl fx58 rfl rfl hg59 (zX (off' := k * 5) rfl rfl rfl EG zK (by omega) (by omega) (by simp)) ?_
   refine JA.RS 5 1 74 false _ rfl fx58 rfl rfl hg59 (AY rfl rfl BG zK (yZ.EZ 2 rfl) ((CZ QG hz).trans (by rw [hzt])) rfl) ?_
   refine BD (b5R (NI x9) (NI x) none none 0 0 _ (.inl rfl) (.inl rfl) (Nat.zero_le _)) ?_
   refine yU 11 ?_
   refine Ej.round (k + 1) (by omega) (by omega) ⟨rfl, rfl, rfl, rfl, rfl, rfl, rfl, rfl, (congrArg (fun b => some (Value.bool b)) (by rw [a6V hz, hg59, hzt]; exact (Bool.false_or _).symm)), rfl, trivial⟩ rfl rfl
  have hful : (dd ((ts.map IB).take i)).take k = (dd ((ts.map IB).take i)) := List.take_of_length_le (by omega)
  rw [hful, b0F]
  refine yU 5 ?_
  refine Cj.join (ι := Heap × Gs) (fun y => BN w0.heap.size 5 (dd ((ts.map IB).take (i + 1))).length ((dd ((ts.map IB).take (i + 1))).flatMap IE) y.2 ∧ PS y.1 q.ps p ∧ MX y.1 ib (Ix.play (acts xs)) ∧ IX y.1 ∧ zL t3C y.1 ts (.slice (some ⟨tb, tof, none⟩) ts.length ct) ∧ y.1 b7 = some (zJ 9 (chW.map str ++ [])) ∧ y.1 tb = some (.cells tcs.toArray tty tfr)) (fun y => [(1, .slice (some ⟨tb, tof, none⟩) ts.length ct), (5, .bool true), (6, ptr ib 0), (8, .slice (some ⟨b7, 0, none⟩) 6 6), (9, ptr b10 0), (10, gV (dd ((ts.map IB).take (i + 1))).length y.2), (11, i64 (i : Int)), (14, ptr b53 0)]) (fun y => y.1) (fun y => [(b53, zJ 32 (zW (NI x) none 0)), (b10, zJ 32 (zW q p c))] ++ gH 32 ((dd ((ts.map IB).take (i + 1))).flatMap IE) y.2) ?_ (fun hcut => ?_)
  ·rintro ⟨J6, g⟩ ⟨hg, hpq, hx, hT, htr, hb7i, htb⟩
   dsimp only at hg hpq hx hT htr hb7i htb ⊢
   refine yU 6 ?_
   refine AB (fun hc61 hc61p => ?_) (fun hc61 hc61p => ?_)
   ·have hi0 : i = 0 := by have h := hc61; simp at h; omega
    refine Cj.region (J.z (AY rfl rfl BG zK (yZ.at 0 rfl) rfl rfl) ?_)
    refine J.op rfl (DV 1 zK (yV.c (yV.c (yV.c (yV.c (yV.c yV.z))))) (yX.s yX.z) ?_)
    refine J.nb (Cj.region (J.z BQ ?_))
    refine J.z (OT rfl rfl rfl (MQ (by omega))) ?_
    refine J.z GH ?_
    refine J.nil ?_
    refine Ej.keep (Keeps.d (Keeps.k Keeps.r)) ?_
    refine Ej.round ⟨i + 1, _, g, (NI x), none, 0⟩ ⟨by dsimp only; omega, by dsimp only; omega, hg, .inl rfl, fun _ => (by rw [hxs, hi0]; exact Ix.CQ.one (a6O x)), hx, hT, htr, hb7i⟩ (by dsimp only; omega) ⟨rfl, rfl, rfl, rfl, rfl, rfl, rfl, trivial⟩ rfl rfl
   have hi1 : 0 < i := by have h := JY hc61; omega
   refine Cj.sr (J.z BQ ?_)
   refine J.z BQ ?_
   refine J.z (zX (off' := tof + i * 3) rfl rfl rfl a4s Tryz.sizeOf103 (by omega) (by omega) (by simp)) ?_
   refine J.z (EJ (off' := tof + i * 3 + 2) rfl rfl rfl a6Q ZM (by decide) (by decide) (by simp)) ?_
   refine J.z (zU rfl rfl tA5 (yZ.BR htb) (KW a2k htd hgx 2 (by decide))) ?_
   refine AB (fun hc62 hc62p => ?_) (fun hc62 hc62p => ?_)
   ·refine BJ (both_ok 2 q (NI x) p none c 0 _ hpq (.inl rfl)) ?_
    intro v63 I64 H65 hle66 hp67
    have hx := hx.mono hle66
    have hT := hT.mono hle66
    have htr := htr.mono hle66
    have hpq := hpq.mono hle66
    have hb7i := hle66 _ _ hb7i
    have htb := hle66 _ _ htb
    obtain ⟨⟨pq9, cq9, h, hpq9⟩, rfl⟩ := hp67; cases h
    refine yU 9 ?_
    refine Ej.keep (Keeps.d (Keeps.k Keeps.r)) ?_
    refine Ej.round ⟨i + 1, _, g, (Ix.AA 2 q (NI x)), pq9, cq9⟩ ⟨by dsimp only; omega, by dsimp only; omega, hg, hpq9, fun _ => (by rw [hxs]; exact (hcq hi1).back (a6O x)), hx, hT, htr, hb7i⟩ (by dsimp only; omega) ⟨rfl, rfl, rfl, rfl, rfl, rfl, rfl, trivial⟩ rfl rfl
   refine BJ (both_ok 2 (NI x) q none p 0 c _ (.inl rfl) hpq) ?_
   intro v68 I69 H70 hle71 hp72
   have hx := hx.mono hle71
   have hT := hT.mono hle71
   have htr := htr.mono hle71
   have hpq := hpq.mono hle71
   have hb7i := hle71 _ _ hb7i
   have htb := hle71 _ _ htb
   obtain ⟨⟨pq9, cq9, h, hpq9⟩, rfl⟩ := hp72; cases h
   refine yU 9 ?_
   refine Ej.keep (Keeps.d (Keeps.k Keeps.r)) ?_
   refine Ej.round ⟨i + 1, _, g, (Ix.AA 2 (NI x) q), pq9, cq9⟩ ⟨by dsimp only; omega, by dsimp only; omega, hg, hpq9, fun _ => (by rw [hxs]; exact (hcq hi1).front (a6O x)), hx, hT, htr, hb7i⟩ (by dsimp only; omega) ⟨rfl, rfl, rfl, rfl, rfl, rfl, rfl, trivial⟩ rfl rfl
  refine FB (fun hc73 => ?_) (fun hc73 => ?_)
  ·have hmm : ¬ (IB x).q ∈ (dd ((ts.map IB).take i)).map QI.q := by have h := hc73; show ¬ NI x ∈ _; simpa using h
   have hnx := (ZC hgm).trans (if_neg hmm)
   refine yU 4 ?_
   intro b74 hb74
   refine J.op rfl (CP (by' := 79) [_, _, _] rfl rfl rfl rfl rfl EG (.inr ⟨_, EG⟩) (by kernel_rfl) zK DW rfl hg rfl (Src.slice (yZ.at 0 rfl) rfl rfl (a2d (IB x))) (by omega) ?_)
   intro g75 hg75
   refine yU 2 ?_
   refine Ej.keep (Keeps.d (Keeps.k (Keeps.k Keeps.r))) ?_
   exact hcut (_, g75) _ _ _ ⟨by rw [hnx, List.length_append, List.flatMap_append]; exact hg75, hpq, hx, hT, htr, hb7i, htb⟩ ⟨rfl, rfl, rfl, rfl, rfl, (by dsimp only; rw [hnx, List.length_append]; rfl), rfl, rfl, trivial⟩ rfl (by dsimp only; rw [hnx, List.flatMap_append]; rfl)
  have hmm : (IB x).q ∈ (dd ((ts.map IB).take i)).map QI.q := by have h := hc73; show NI x ∈ _; simpa using h
  have hnx := (ZC hgm).trans (if_pos hmm)
  refine yU 1 ?_
  exact hcut (_, g) _ _ _ ⟨by rw [hnx]; exact hg, hpq, hx, hT, htr, hb7i, htb⟩ ⟨rfl, rfl, rfl, rfl, rfl, (by dsimp only; rw [hnx]; rfl), rfl, rfl, trivial⟩ rfl (by dsimp only; rw [hnx])
 refine J.sk 4 35 36 hg39 ?_
 refine J.sk 4 35 37 hg39 ?_
 refine J.z (SX rfl rfl hg39 rfl) ?_
 refine J.c0 (fun hc76 => ?_)
 refine Cj.exit (Ej.VZ (Ej.SB (Ej.SA ?_)))
 exact hcut ⟨i, _, g, q, p, c⟩ _ _ _ ⟨hi, hi8, hg, hpq, hcq, hx, hT⟩ ⟨rfl, rfl, rfl, rfl, trivial⟩ rfl rfl
end Go.Proofs.YtekmeaoblpfnpaaGreatDoor
end
namespace Go.Proofs.YtekmeaoblpfnpaaGreatDoor
open Go.ChangeShapes Go.WideShapes Go.ChangeAt Go.RowKit Go.Sx Go.Lib Go.ChangeMaps
theorem a9d {P W name k zs g t e n}
    (hg : P.globalNamed name = some g) (hty : (P.globals[g]?).map (·.type) = some t) (ht : P.underlying t = some (.array n e)) (he : P.underlying e = some (.int k)) (hce : P.cellsOf e = 1) (hct : P.cellsOf t = n)
    (h : VarReads P W name (tabData k zs)) : TabIs P W name k zs := by
  obtain ⟨g', t', cs, fuel, p, hg', ht', hvar, hd⟩ := h
  obtain rfl := Option.some.inj (hg.symm.trans hg')
  obtain rfl := Option.some.inj (hty.symm.trans ht')
  unfold TabIs
  rw [hvar, ← cells_of_tab ht he hce hct hd]
theorem b8k {W L} (hL : laidMet Tryz.prog L W) (hw : ("unicode.White_Space", Rows.laid_unicode_White_Space) ∈ L) (ha : ("strings.asciiSpace", Rows.laid_strings_asciiSpace) ∈ L) : IX (HW W) := by
  have e1 : (Rows.laid_unicode_White_Space : DataW Unit) = whiteData := by kernel_rfl
  have e2 : (Rows.laid_strings_asciiSpace : DataW Unit) = tabData .u8 asciiSpaceTab := by kernel_rfl
  have hT : TabIs Tryz.prog W "strings.asciiSpace" .u8 asciiSpaceTab := a9d (g := 1) (t := Tryz.lays157_ren.t 119) (e := Tryz.lays157_ren.t 5) (n := 256) (by kernel_rfl) (by kernel_rfl) Tryz.lays157.t119 Tryz.lays157.t5 (by kernel_rfl) (by kernel_rfl) (e2 ▸ laidMet.reads hL ha)
  have hS : WhiteTab 3 W := whiteTab_of_reads (ρ := Tryz.lays157_ren) { Tryz.lays157 with } ⟨by kernel_rfl, by kernel_rfl, by kernel_rfl, by kernel_rfl, by kernel_rfl, by kernel_rfl, by kernel_rfl, by kernel_rfl⟩ (e1 ▸ laidMet.reads hL hw)
  intro w hwW
  have key : ∀ (a : Addr) (v : Value), W.cell? a = some v → w.cell? a = some v := fun a v h => by
    have h0 := h
    unfold World.cell? at h
    cases hb : W.heap[a.block]? with
    | none => rw [hb] at h; cases h
    | some o =>
      have := World.cell?_of_block (w := w) (w' := W) (a := a) (by rw [hwW _ _ hb, hb])
      rw [← this]; exact h0
  refine ⟨?_, ?_⟩
  · unfold TabIs World.var? at hT ⊢
    have hg : Tryz.prog.globalNamed "strings.asciiSpace" = some 1 := by kernel_rfl
    rw [hg] at hT ⊢
    simp only [Option.bind_some] at hT ⊢
    cases hb : W.heap[(1 : Nat)]? with
    | none => rw [hb] at hT; cases hT
    | some o => rw [hwW _ _ hb]; rw [hb] at hT; exact hT
  obtain ⟨T, oT, R, oR, h1, h2, h3, h4, h5⟩ := hS
  exact ⟨T, oT, R, oR, key _ _ h1, key _ _ h2, key _ _ h3, key _ _ h4, fun i hi => key _ _ (h5 i hi)⟩
end Go.Proofs.YtekmeaoblpfnpaaGreatDoor
namespace Go.Proofs.YtekmeaoblpfnpaaGreatDoor
open Go.ChangeShapes Go.WideShapes Go.ChangeAt Go.RowKit Go.Sx Go.Lib Go.ChangeMaps Go.WideMaps
section
variable {H:Type} {enc:TypeId×Value→H} {W:World} {base:Nat}
theorem Arg.field {fs : Array Field} {cs : List Value} {ms : List Nat} (h : ∀ (i : Nat) f m', fs[i]? = some f → ms[i]? = some m' → Arg enc W f.type ((cs.drop f.offset).take (Tryz.prog.cellsOf f.type)) m') (i : Nat) {f m t o k}
    (hf : fs[i]? = some f) (hm : ms[i]? = some m) (ht : f.type = t) (ho : f.offset = o) (hc : Tryz.prog.cellsOf t = k) : Arg enc W t ((cs.drop o).take k) m := by
  subst ht ho hc
  exact h i f m hf hm
theorem list4 {α : Type} {l : List α} (h : l.length = 4) : ∃ a b c d, l = [a, b, c, d] := by
  match l, h with
  | [a, b, c, d], _ => exact ⟨a, b, c, d, rfl⟩
theorem b8J {n} (h : (Lit.int .i64 n).wf = true) : In64 n := by
  have h1 : (decide (-9223372036854775808 ≤ n) && decide (n ≤ 9223372036854775807)) = true := h
  rw [Bool.and_eq_true, decide_eq_true_eq, decide_eq_true_eq] at h1
  exact h1
theorem Arg.elem {e k} {cs : List Value} {ms : List Nat} (h : ∀ (i m' : Nat), ms[i]? = some m' → Arg enc W e ((cs.drop (i * 1)).take 1) m') (he : Tryz.prog.underlying e = some (.int .i64)) (hml : ms.length = k) i (hi : i < k) : ∃ z : Int, cs[i]? = some (i64 z) ∧ In64 z := by
  have hm : ms[i]? = some (ms[i]'(by omega)) := List.getElem?_eq_getElem _
  obtain ⟨z, hz, hw, _⟩ := (h i _ hm).int he
  refine ⟨z, ?_, b8J hw⟩
  have := congrArg (fun l => l[0]?) hz
  simpa [List.getElem?_drop] using this
theorem b3d {cs} (hl : cs.length = 4) (h : ∀ i, i < 4 → ∃ z : Int, cs[i]? = some (i64 z) ∧ In64 z) : ∃ q : Ix.Four, cs = OA q ∧ RP q := by
  match cs, hl with
  | [a, b, c, d], _ =>
    obtain ⟨z0, e0, w0⟩ := h 0 (by decide)
    obtain ⟨z1, e1, w1⟩ := h 1 (by decide)
    obtain ⟨z2, e2, w2⟩ := h 2 (by decide)
    obtain ⟨z3, e3, w3⟩ := h 3 (by decide)
    cases e0; cases e1; cases e2; cases e3
    exact ⟨⟨z0, z1, z2, z3⟩, rfl, ⟨w0, w1, w2, w3⟩⟩
theorem Arg.four {cs m} (h : Arg enc W 215 cs m) : ∃ q : Ix.Four, cs = OA q ∧ RP q := by
  obtain ⟨hl, ms, hml, _, hf⟩ := h.array Tryz.underlying215
  rw [show Tryz.prog.cellsOf 215 = 4 by kernel_rfl] at hl
  rw [show Tryz.prog.cellsOf 3 = 1 by kernel_rfl] at hf
  exact b3d hl fun i hi => Arg.elem hf Tryz.underlying3 hml i hi
theorem Arg.act {cs m} (h : Arg enc W 93 cs m) : ∃ x : Act, cs = a5d x ∧ zL OA (HW W) x.a.fs x.v ∧ ∀ q ∈ x.a.fs, RP q := by
  obtain ⟨hl, ms, hml, hms, hf⟩ := h.struct Tryz.underlying93
  rw [show Tryz.prog.cellsOf 93 = 4 by kernel_rfl] at hl
  obtain ⟨a, b, c, d, rfl⟩ := list4 hl
  obtain ⟨m0, m1, m2, m3, rfl⟩ := list4 hml
  have cI : Tryz.prog.cellsOf 3 = 1 := by kernel_rfl
  obtain ⟨b0, h0⟩ := (Arg.field hf (o := 0) 0 rfl rfl rfl rfl (show Tryz.prog.cellsOf 4 = 1 by kernel_rfl)).bool Tryz.underlying4
  obtain ⟨z1, h1, _, _⟩ := (Arg.field hf (o := 1) 1 rfl rfl rfl rfl cI).int Tryz.underlying3
  obtain ⟨z2, h2, _, _⟩ := (Arg.field hf (o := 2) 2 rfl rfl rfl rfl cI).int Tryz.underlying3
  obtain ⟨l, v, h3, hr, _, _, hq⟩ := (Arg.field hf (o := 3) 3 rfl rfl rfl rfl (show Tryz.prog.cellsOf 91 = 1 by kernel_rfl)).row (f := OA) (size := fun _ => 0) Tryz.underlying91 (show Tryz.prog.cellsOf 215 = 4 by kernel_rfl) (by decide) RP fun cs m' _ h => by
    obtain ⟨q, h1, h2⟩ := h.four
    exact ⟨q, h1, Nat.zero_le _, h2⟩
  simp only [List.drop_zero, List.drop_succ_cons, List.take_succ_cons, List.take_zero, List.cons.injEq, and_true] at h0 h1 h2 h3
  subst h0 h1 h2 h3
  exact ⟨⟨⟨b0, z1, z2, l⟩, d⟩, rfl, hr, hq⟩
theorem b6v {v d p} (hval : Value.okWide Tryz.prog W .any base 22 v) (h : DataW.Trod enc Tryz.prog W 0 (fun _ => true) true 22 v d p) (hlt : ∀ x ∈ p, x.block < W.heap.size) :
    ∃ xs : List Act, a0y (HW W) xs v ∧ a3P xs ∧ Again enc W 22 v d p := by
  have hag := again (by kernel_rfl) (of_decide_eq_true (by kernel_rfl)) h hlt
  obtain ⟨a, len, cap, rfl⟩ := okWide_slice Tryz.underlying22 hval
  obtain ⟨xs, v', h1, h2, _, _, h4⟩ := (Arg.of h).row (f := a5d) (size := fun _ => 0) Tryz.underlying22 (show Tryz.prog.cellsOf 93 = 4 by kernel_rfl) (by decide) (fun x => zL OA (HW W) x.a.fs x.v ∧ ∀ q ∈ x.a.fs, RP q) fun cs m' _ h => by
    obtain ⟨x, h1, h2, h3⟩ := h.act
    exact ⟨x, h1, Nat.zero_le _, h2, h3⟩
  obtain rfl : Value.slice a len cap = v' := by simpa [Value.cells] using h1
  exact ⟨xs, ⟨h2, fun x hx => (h4 x hx).1⟩, fun x hx => (h4 x hx).2, hag⟩
