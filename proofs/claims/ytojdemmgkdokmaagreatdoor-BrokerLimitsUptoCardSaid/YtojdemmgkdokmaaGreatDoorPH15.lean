/-
  Own texts on the laws of the seat, joined: the logic, and contracts of functions. Conditions: none.
-/
import Derived.Test.YtojdemmgkdokmaaGreatDoorNmH
import Derived.Test.YtojdemmgkdokmaaGreatDoorPH14
import Derived.Lib.FieldsU
set_option linter.all false
set_option maxRecDepth 100000
set_option maxHeartbeats 40000000
open List renaming length_map -> aA,take_succ_eq_append_getElem -> aH,getElem?_eq_some_iff -> aJ,all_eq_true -> aK,append_assoc -> aQ,length_take -> aT,mem_append -> aU,map_append -> aV,length_append -> bC,mem_singleton -> bD,mem_cons -> bF,length_cons -> bG,append_nil -> bJ,nil_append -> bK,mem_map -> bQ,length_drop -> bT,mem_filter -> bU,getElem_cons_drop -> bY,singleton_append -> cO,map_cons -> cZ,mem_map_of_mem -> dA,map_nil -> dD,cons_append -> dG,any_eq_true -> dH,take_length -> dI,drop_length -> dJ
open Go.Sx.J renaming z -> aB,op -> aX
open Bool renaming and_eq_true -> aC,eq_iff_iff -> aP,or_eq_true -> aW,false_ne_true -> dB,and_true -> dR
open Go.Sx.zM renaming c -> aF,z -> bI
open Ke renaming words -> aG
open Go.Proofs.Tryz renaming prog -> aI
open Go.Sx.AV renaming s -> aN,z -> bM
open Ix renaming Rec -> aO
open Go.Sx.Keeps renaming d -> aS,n -> dN,k -> eH
open Go.Sx.Cj renaming region -> aY
open Cq renaming parse -> aZ,Tok -> bZ,Cur -> dK,tokens -> dQ,query -> dU,lex -> dZ
open Nat renaming le_of_ble_eq_true -> bH,min_eq_left -> bV,le_refl -> bW,zero_le -> dF
open Cq.Cur renaming start -> bP
open Go.Sx.a4m renaming c7j -> dL
open Go.Sx.Le renaming refl -> dM
open Go.Sx.GN renaming none -> dP
open Go.Sx.JA renaming tk -> dS
open Go.Sx.XA renaming recover -> dV
open Go.Sx.HSub renaming c -> dW,n -> dX
open Go.Sx.CSub renaming n -> dY
open Go.Sx.Ej renaming leave -> eF
open UInt8 renaming ofNat -> eG
namespace Go.Proofs.YtojdemmgkdokmaaGreatDoor
open _root_.Go.Proofs.Tryz
open Go Go.Sx
def OW (pb:Nat) (s:List UInt8) (deep:Nat) (res:Cq.Res):Ending→Heap→HL→Prop:=fun e I' H'=>
 match res with
 | .ok q ts2=>∃v i2 t2,e= .returned v∧QV I' q v∧H'=PH pb s i2 t2 deep∧dK s i2 t2 ts2
 | .err p er=>e= .panicked (a5f p er)∧H'=[]
def b1z (f:Nat):Prop:=∀(pb i deep:Nat) (s:List UInt8) (t:bZ) (ts:List bZ) (I:Heap),dK s i t ts→Tabs I→s.length≤1000000000→2*ts.length+1≤f→deep≤50→
 yT aI 183 [ptr pb 0] I (PH pb s i t deep) (OW pb s deep (Cq.clause f deep ts))
def a7f (f:Nat):Prop:=∀(pb i deep:Nat) (s:List UInt8) (t:bZ) (ts:List bZ) (I:Heap),dK s i t ts→Tabs I→s.length≤1000000000→2*ts.length+2≤f→deep≤50→
 yT aI 102 [ptr pb 0] I (PH pb s i t deep) (OW pb s deep (dU f deep ts))
def b8p (f:Nat):Prop:=∀(pb i deep:Nat) (s:List UInt8) (t:bZ) (r:List bZ) (I:Heap),dK s i t (t::r)→Tabs I→s.length≤1000000000→2*r.length+2≤f→deep≤50→Cq.lp t=true→
 yT aI 241 [ptr pb 0] I (PH pb s i t deep) (OW pb s deep (Cq.clause (f+1) deep (t::r)))
theorem b5S (f : Nat) (ih : a7f f) : b8p f := by
 intro pb i deep s t r I hcur ht hs hf hd hlp
 obtain ⟨hi, hcur2⟩ := hcur.next (Cq.a2O hlp)
 refine yT.ob func241 ?_
 intro w0 hw0
 refine Cj.sr (J.op rfl (BP FQ ?_))
 intro b1 hb1
 refine J.yV (J.z yP ?_)
 refine J.z zW ?_
 refine J.z (qq2 (off' := 5) IX AB) ?_
 refine J.z (yX DT (yR.at 1 rfl)) ?_
 refine J.z (yZ rfl rfl rfl (AA (by omega))) ?_
 refine J.eqv 8 rfl (show _ = i64 ((deep + 1 : Nat) : Int) from (by simp)) ?_
 refine J.z zW ?_
 refine J.z (qq2 (off' := 5) IX AB) ?_
 refine J.op rfl (zS 1 AB (zM.s (zM.s (zM.s (zM.s (zM.s (zM.c zM.z)))))) (AV.s AV.z) ?_)
 refine J.AO (Cj.region (J.z yP ?_))
 refine J.z zW ?_
 refine J.z (qq2 (off' := 5) IX AB) ?_
 refine J.z (yX DT (yR.at 1 rfl)) ?_
 refine J.z (KO rfl rfl rfl) ?_
 refine J.cd (fun hc2 => ?_) (fun hc2 => ?_)
 ·have hc2p := BH hc2
  refine Cj.region (J.z yP ?_)
  refine J.z yP ?_
  refine J.z zW ?_
  refine J.z (qq2 (off' := 0) IX KE) ?_
  refine J.z (qq2 (off' := 2) EG DJ) ?_
  refine J.z (zX JF DJ (yR.at 1 rfl)) ?_
  refine J.op rfl (yS (H1 := []) rfl rfl rfl rfl rfl (UR _ _ _ _) (fun _ _ _ _ h => by cases h.1) ?_ (fun _ _ h => by cases h.1))
  intro v3 I4 H5 hle6 hp7
  have ht := ht.mono hle6
  obtain ⟨h, rfl⟩ := hp7; cases h
  refine Ej.JU ?_
  refine Ej.bare ?_
  refine Ej.pan rfl ?_
  show OW pb s deep (Cq.clause (f + 1) deep (t :: r)) _ _ _
  have hev : Cq.clause (f + 1) deep (t :: r) = .err t.pos 41 := by simp [Cq.clause, hlp]; omega
  rw [hev]
  exact ⟨rfl, rfl⟩
 have hc2p := BN hc2
 refine Cj.ks (Cj.sr (J.z yP ?_))
 refine J.z zW ?_
 refine J.z (qq2 (off' := 0) IX KE) ?_
 refine J.pull (Pull.s Pull.z) ?_
 refine J.op rfl (yS (H1 := [_]) rfl rfl rfl rfl rfl (scan_ok _ _ s _ _ _ _ _ hi hs _) ?_ (fun _ _ _ _ h => by cases h.1) (fun _ _ h => by cases h.1))
 intro v8 I9 H10 hle11 hp12
 have ht := ht.mono hle11
 obtain ⟨h, rfl⟩ := hp12; cases h
 refine J.yV (J.z yP ?_)
 rcases hq : Cq.query f (deep + 1) r with ⟨q, ts2⟩ | ⟨pe, ee⟩
 ·skip
  refine J.pull Pull.z ?_
  refine J.op rfl (yS (H1 := [_]) rfl rfl rfl rfl rfl ((by have h := ih pb (Cq.lex s i).2 (deep + 1) s (Cq.lex s i).1 r _ hcur2 ht hs hf (by omega); rw [hq] at h; exact h)) ?_ (fun _ _ _ _ h => by obtain ⟨_, _, _, h, _⟩ := h; cases h) (fun _ _ h => by obtain ⟨_, _, _, h, _⟩ := h; cases h))
  intro v13 I14 H15 hle16 hp17
  have ht := ht.mono hle16
  obtain ⟨vq, i2, t2, h, ⟨pq, cq, rfl, hps⟩, rfl, hcur3⟩ := hp17; cases h
  obtain ⟨r2, rfl⟩ := hcur3.cons
  refine J.op rfl (BP FQ ?_)
  intro b18 hb18
  refine J.op rfl (zS 0 zZ (zM.c (zM.c (zM.c (zM.c (zM.c zM.z))))) AV.z ?_)
  refine J.AO (Cj.region (J.z yP ?_))
  refine J.z zW ?_
  refine J.z (qq2 (off' := 0) IX KE) ?_
  refine J.pull (Pull.s Pull.z) ?_
  refine J.op rfl (yS (H1 := [_]) rfl rfl rfl rfl rfl (c6X pb s i2 t2 (deep + 1) [41] _) ?_ (fun _ _ _ _ h => by cases h.1) (fun _ _ h => by cases h.1))
  intro v19 I20 H21 hle22 hp23
  have ht := ht.mono hle22
  have hps := hps.mono hle22
  obtain ⟨h, rfl⟩ := hp23; cases h
  refine J.z (ER rfl rfl) ?_
  refine J.cd (fun hc24 => ?_) (fun hc24 => ?_)
  ·have hrp : Cq.rp t2 = false := by have h := hc24; rw [Bool.not_eq_true'] at h; exact h
   refine Cj.region (J.z yP ?_)
   refine J.z yP ?_
   refine J.z zW ?_
   refine J.z (qq2 (off' := 0) IX KE) ?_
   refine J.z (qq2 (off' := 2) EG DJ) ?_
   refine J.z (zX JF DJ (yR.at 0 rfl)) ?_
   refine J.op rfl (yS (H1 := []) rfl rfl rfl rfl rfl (UR _ _ _ _) (fun _ _ _ _ h => by cases h.1) ?_ (fun _ _ h => by cases h.1))
   intro v25 I26 H27 hle28 hp29
   have ht := ht.mono hle28
   have hps := hps.mono hle28
   obtain ⟨h, rfl⟩ := hp29; cases h
   refine Ej.JU ?_
   refine Ej.bare ?_
   refine Ej.pan rfl ?_
   show OW pb s deep (Cq.clause (f + 1) deep (t :: r)) _ _ _
   have hev : Cq.clause (f + 1) deep (t :: r) = .err t2.pos 40 := by simp only [Cq.clause, hlp, if_true, hq, hrp]; rw [if_neg (by omega)]; rfl
   rw [hev]
   exact ⟨rfl, rfl⟩
  have hrp : Cq.rp t2 = true := by have h := hc24; simpa [Cq.rp] using h
  obtain ⟨hi2, hcur4⟩ := hcur3.next (Cq.b5H hrp)
  refine Cj.ks (Cj.sr (J.z yP ?_))
  refine J.z zW ?_
  refine J.z (qq2 (off' := 5) IX AB) ?_
  refine J.z (yX DT (yR.at 0 rfl)) ?_
  refine J.z (IC rfl rfl rfl (AA (by omega))) ?_
  refine J.eqv 45 rfl (show _ = i64 (deep : Int) from (by congr 1; omega)) ?_
  refine J.z zW ?_
  refine J.z (qq2 (off' := 5) IX AB) ?_
  refine J.op rfl (zS 0 AB (zM.s (zM.s (zM.s (zM.s (zM.s (zM.c zM.z)))))) AV.z ?_)
  refine J.yV (J.z yP ?_)
  refine J.z zW ?_
  refine J.z (qq2 (off' := 0) IX KE) ?_
  refine J.pull Pull.z ?_
  refine J.op rfl (yS (H1 := [_]) rfl rfl rfl rfl rfl (scan_ok _ _ s _ _ _ _ _ hi2 hs _) ?_ (fun _ _ _ _ h => by cases h.1) (fun _ _ h => by cases h.1))
  intro v30 I31 H32 hle33 hp34
  have ht := ht.mono hle33
  have hps := hps.mono hle33
  obtain ⟨h, rfl⟩ := hp34; cases h
  refine J.yV (J.z (zX CP zZ (yR.at 1 rfl)) ?_)
  refine J.op rfl (zS 2 zZ (zM.c (zM.c (zM.c (zM.c (zM.c zM.z))))) (AV.s (AV.s AV.z)) ?_)
  refine J.ns (Cj.ret (Ej.OI (Keeps.k (Keeps.d (Keeps.d Keeps.n))) rfl rfl rfl (yR.at 2 rfl) CP zZ rfl ?_))
  show OW pb s deep (Cq.clause (f + 1) deep (t :: r)) _ _ _
  have hev : Cq.clause (f + 1) deep (t :: r) = .ok q r2 := by simp only [Cq.clause, hlp, if_true, hq, hrp]; rw [if_neg (by omega)]
  rw [hev]
  exact ⟨_, _, _, rfl, ⟨pq, cq, rfl, hps⟩, rfl, hcur4⟩
 skip
 refine J.pull Pull.z ?_
 refine J.op rfl (yS (H1 := [_]) rfl rfl rfl rfl rfl ((by have h := ih pb (Cq.lex s i).2 (deep + 1) s (Cq.lex s i).1 r _ hcur2 ht hs hf (by omega); rw [hq] at h; exact h)) (fun _ _ _ _ h => by cases h.1) ?_ (fun _ _ h => by cases h.1))
 intro v35 I36 H37 hle38 hp39
 have ht := ht.mono hle38
 obtain ⟨h, rfl⟩ := hp39; cases h
 refine Ej.JU ?_
 refine Ej.bare ?_
 refine Ej.pan rfl ?_
 show OW pb s deep (Cq.clause (f + 1) deep (t :: r)) _ _ _
 have hev : Cq.clause (f + 1) deep (t :: r) = .err pe ee := by simp only [Cq.clause, hlp, if_true, hq]; rw [if_neg (by omega)]
 rw [hev]
 exact ⟨rfl, rfl⟩
theorem b2s (f : Nat) (ih : b8p f) : b1z (f + 1) := by
 intro pb i deep s t ts I hcur ht hs hf hd
 obtain ⟨r, rfl⟩ := hcur.cons
 have htx := hcur.txt
 refine yT.ob func183 ?_
 intro w0 hw0
 refine Cj.sr (J.op rfl (BP FQ ?_))
 intro b1 hb1
 refine J.yV (J.op rfl (CB rfl rfl rfl ?_))
 intro b2 hb2
 refine J.z yP ?_
 refine J.z (EH rfl rfl rfl) ?_
 refine J.op rfl (b5Y 0 rfl rfl rfl rfl rfl underlying339 BF rfl AV.z ?_)
 refine J.z yP ?_
 refine J.z yQ ?_
 refine J.yV (J.z yP ?_)
 refine J.z zW ?_
 refine J.z (qq2 (off' := 0) IX KE) ?_
 refine J.z (qq2 (off' := 2) EG DJ) ?_
 refine J.z (zX JF DJ (yR.at 2 rfl)) ?_
 refine J.op rfl (BP zeroValue208 ?_)
 intro b3 hb3
 refine J.op rfl (zS 0 DJ (zM.c (zM.c (zM.c zM.z))) AV.z ?_)
 refine J.AO (Cj.region (J.z yP ?_))
 refine J.z (qq2 (off' := 1) EF zL) ?_
 refine J.z (yX BX (yR.at 0 rfl)) ?_
 by_cases htx0 : t.text = [40]
 ·skip
  refine J.z (b2f rfl rfl (congrArg (fun z => some (str z)) htx0) underlying339 BF (yR.at 1 rfl)) ?_
  refine J.z yP ?_
  refine J.z AQ ?_
  refine J.z AQ ?_
  refine J.z yQ ?_
  refine J.z yQ ?_
  refine J.yV (J.z yP ?_)
  refine J.z yP ?_
  refine CZ 1 25 true (zK (qq2 (off' := 0) EF ET) ?_)
  refine CZ 1 25 true (zK (yX KD (yR.at 0 rfl)) ?_)
  refine CZ 1 25 true (zK BO ?_)
  refine J.z JV ?_
  refine J.cd (fun hc4 => ?_) (fun hc4 => ?_)
  ·have hc4p := CS hc4
   have hk1 : t.kind = 1 := by have := CS hc4; omega
   have hlp : Cq.lp t = true := by simp [Cq.lp, hk1, htx0]
   refine Cj.sr (J.z yP ?_)
   rcases hq : Cq.clause (f + 1) deep (t :: r) with ⟨q, ts2⟩ | ⟨pe, ee⟩
   ·skip
    refine J.pull (Pull.s (Pull.s (Pull.s Pull.z))) ?_
    refine J.op rfl (yS (H1 := [_]) rfl rfl rfl rfl rfl ((by have h := ih pb i deep s t r _ hcur ht hs (by simp at hf; omega) hd hlp; rw [hq] at h; exact h)) ?_ (fun _ _ _ _ h => by obtain ⟨_, _, _, h, _⟩ := h; cases h) (fun _ _ h => by obtain ⟨_, _, _, h, _⟩ := h; cases h))
    intro v5 I6 H7 hle8 hp9
    have ht := ht.mono hle8
    obtain ⟨vq, i2, t2, h, ⟨pq, cq, rfl, hps⟩, rfl, hcur3⟩ := hp9; cases h
    refine J.op rfl (zS 3 zZ (zM.c (zM.c (zM.c (zM.c (zM.c zM.z))))) (AV.s (AV.s (AV.s AV.z))) ?_)
    refine J.ns (Cj.rs (Ej.OI (Keeps.k (Keeps.d (Keeps.d (Keeps.d Keeps.n)))) rfl rfl rfl (yR.at 3 rfl) CP zZ rfl ?_))
    exact ⟨_, _, _, rfl, ⟨pq, cq, rfl, hps⟩, rfl, hcur3⟩
   skip
   refine J.pull (Pull.s (Pull.s (Pull.s Pull.z))) ?_
   refine J.op rfl (yS (H1 := [_]) rfl rfl rfl rfl rfl ((by have h := ih pb i deep s t r _ hcur ht hs (by simp at hf; omega) hd hlp; rw [hq] at h; exact h)) (fun _ _ _ _ h => by cases h.1) ?_ (fun _ _ h => by cases h.1))
   intro v10 I11 H12 hle13 hp14
   have ht := ht.mono hle13
   obtain ⟨h, rfl⟩ := hp14; cases h
   refine Ej.JU ?_
   refine Ej.JU ?_
   refine Ej.bare ?_
   refine Ej.pan rfl ?_
   exact ⟨rfl, rfl⟩
  have hc4p := CX hc4
  have hlp : Cq.lp t = false := by have := CX hc4; simp [Cq.lp]; omega
  refine Cj.ks (Cj.sr (J.z yP ?_))
  refine J.z (zX JF DJ (yR.at 0 rfl)) ?_
  rcases hT : Cq.isTerm t with _ | _
  ·skip
   refine J.op rfl (yS (H1 := []) rfl rfl rfl rfl rfl ((by have h := UZ (ptr pb 0) t (by omega) _ ht; rw [hT] at h; exact h)) (fun _ _ _ _ h => by cases h.1) ?_ (fun _ _ h => by cases h.1))
   intro v15 I16 H17 hle18 hp19
   have ht := ht.mono hle18
   obtain ⟨h, rfl⟩ := hp19; cases h
   refine Ej.JU ?_
   refine Ej.bare ?_
   refine Ej.pan rfl ?_
   show OW pb s deep (Cq.clause (f + 1) deep (t :: r)) _ _ _
   have hev : Cq.clause (f + 1) deep (t :: r) = .err t.pos 40 := by simp [Cq.clause, hlp, hT]
   rw [hev]
   exact ⟨rfl, rfl⟩
  obtain ⟨hi, hcur2⟩ := hcur.next (Cq.RI hT)
  obtain ⟨r2, rfl⟩ := hcur2.cons
  have htx2 := hcur2.txt
  refine J.op rfl (yS (H1 := []) rfl rfl rfl rfl rfl ((by have h := UZ (ptr pb 0) t (by omega) _ ht; rw [hT] at h; exact h)) ?_ (fun _ _ _ _ h => by cases h.1) (fun _ _ h => by cases h.1))
  intro v20 I21 H22 hle23 hp24
  have ht := ht.mono hle23
  obtain ⟨h, rfl⟩ := hp24; cases h
  refine J.z (zV (pl := #[(0, 1), (1, 1), (2, 1), (3, 1), (4, 1)]) rfl rfl FQ rfl DI (fun w => by simp [AB, MH, zL]) (GN.part rfl rfl rfl (zM.c zM.z) (GN.part rfl rfl rfl (zM.s (zM.c zM.z)) (GN.part rfl rfl rfl (zM.s (zM.s (zM.c zM.z))) (GN.part rfl rfl rfl (zM.s (zM.s (zM.s (zM.c zM.z)))) GN.none))))) ?_
  refine J.op rfl (BP FQ ?_)
  intro b25 hb25
  refine J.op rfl (zS 0 zZ (zM.c (zM.c (zM.c (zM.c (zM.c zM.z))))) AV.z ?_)
  refine J.yV (J.z yP ?_)
  refine J.z zW ?_
  refine J.z (qq2 (off' := 0) IX KE) ?_
  refine J.pull (Pull.s (Pull.s (Pull.s (Pull.s Pull.z)))) ?_
  refine J.op rfl (yS (H1 := [_]) rfl rfl rfl rfl rfl (scan_ok _ _ s _ _ _ _ _ hi hs _) ?_ (fun _ _ _ _ h => by cases h.1) (fun _ _ h => by cases h.1))
  intro v26 I27 H28 hle29 hp30
  have ht := ht.mono hle29
  obtain ⟨h, rfl⟩ := hp30; cases h
  refine J.AO (Cj.region (J.z (qq2 (off' := 0) EF ET) ?_))
  refine J.z (yX KD (yR.at 2 rfl)) ?_
  refine J.z EY ?_
  refine J.z yP ?_
  refine J.split 43 rfl (fun hg31 => ?_) (fun hg31 => ?_)
  ·have hk3 : t.kind ≠ 3 := by have := bne_iff_ne.1 hg31; omega
   refine zO 3 43 44 false hg31 ?_
   refine zO 3 43 45 false hg31 ?_
   refine zO 3 43 46 false hg31 ?_
   refine zO 3 43 47 false hg31 ?_
   refine zO 3 43 48 false hg31 ?_
   refine zO 3 43 49 false hg31 ?_
   refine zO 3 43 50 false hg31 ?_
   refine J.z (DY hg31) ?_
   refine J.c1 (fun hc32 => ?_)
   refine Cj.sr (J.z (zX CP zZ (yR.at 1 rfl)) ?_)
   refine J.op rfl (zS 4 zZ (zM.c (zM.c (zM.c (zM.c (zM.c zM.z))))) (AV.s (AV.s (AV.s (AV.s AV.z)))) ?_)
   refine J.ns (Cj.rs (Ej.OI (Keeps.k (Keeps.d (Keeps.d (Keeps.d (Keeps.d Keeps.n))))) rfl rfl rfl (yR.at 4 rfl) CP zZ rfl ?_))
   show OW pb s deep (Cq.clause (f + 1) deep (t :: (Cq.lex s i).1 :: r2)) _ _ _
   have hev : Cq.clause (f + 1) deep (t :: (Cq.lex s i).1 :: r2) = .ok ⟨1, [97, 110, 121], [61], t.text, .nil⟩ ((Cq.lex s i).1 :: r2) := by simp [Cq.clause, hlp, hT, hk3]
   rw [hev]
   exact ⟨_, _, _, rfl, ⟨none, 0, rfl, .inl rfl⟩, rfl, hcur2⟩
  have hk3 : t.kind = 3 := by have := EC hg31; omega
  refine zU 3 43 false hg31 (zK yP ?_)
  refine zU 3 43 false hg31 (zK zW ?_)
  refine zU 3 43 false hg31 (zK (qq2 (off' := 0) IX KE) ?_)
  refine zU 3 43 false hg31 (zK (qq2 (off' := 2) EG DJ) ?_)
  refine zU 3 43 false hg31 (zK (zX JF DJ (yR.at 0 rfl)) ?_)
  refine J.QD 3 43 false _ rfl rfl rfl hg31 (yU rfl rfl rfl rfl rfl (a4U (Cq.lex s i).1 (by omega) _ ht) ?_)
  refine zU 3 43 false hg31 (zK (ER rfl rfl) ?_)
  refine J.z (DV hg31) ?_
  refine J.cd (fun hc33 => ?_) (fun hc33 => ?_)
  ·have hrel : Cq.relation (Cq.lex s i).1 = false := by have h := hc33; rw [Bool.not_eq_true'] at h; exact h
   refine Cj.sr (J.z (zX CP zZ (yR.at 1 rfl)) ?_)
   refine J.op rfl (zS 4 zZ (zM.c (zM.c (zM.c (zM.c (zM.c zM.z))))) (AV.s (AV.s (AV.s (AV.s AV.z)))) ?_)
   refine J.ns (Cj.rs (Ej.OI (Keeps.k (Keeps.d (Keeps.d (Keeps.d (Keeps.d Keeps.n))))) rfl rfl rfl (yR.at 4 rfl) CP zZ rfl ?_))
   show OW pb s deep (Cq.clause (f + 1) deep (t :: (Cq.lex s i).1 :: r2)) _ _ _
   have hev : Cq.clause (f + 1) deep (t :: (Cq.lex s i).1 :: r2) = .ok ⟨1, [97, 110, 121], [61], t.text, .nil⟩ ((Cq.lex s i).1 :: r2) := by simp [Cq.clause, hlp, hT, hk3, hrel]
   rw [hev]
   exact ⟨_, _, _, rfl, ⟨none, 0, rfl, .inl rfl⟩, rfl, hcur2⟩
  have hrel : Cq.relation (Cq.lex s i).1 = true := by have h := hc33; rw [Bool.not_eq_false'] at h; exact h
  obtain ⟨hi2, hcur3⟩ := hcur2.next (Cq.a1C hrel)
  obtain ⟨r3, rfl⟩ := hcur3.cons
  have htx3 := hcur3.txt
  refine Cj.ks (Cj.seq (Cj.FT [0, 2, 3, 4] [] 14 (by kernel_rfl) ?_))
  refine JA.fix ⟨(HSub.c 0 rfl (HSub.c 2 rfl (HSub.c 3 rfl (HSub.c 4 rfl HSub.n)))), CSub.n, (Le.refl _)⟩ (fun fx34 => ?_)
  refine JA.tk 0 rfl fx34 (qq2 (off' := 1) EF zL) ?_
  refine JA.tk 1 rfl fx34 (yX BX (yR.QE 1 rfl)) ?_
  refine JA.tk 3 rfl fx34 yP ?_
  refine JA.tk 4 rfl fx34 zW ?_
  refine JA.tk 5 rfl fx34 (qq2 (off' := 0) IX KE) ?_
  refine JA.tk 6 rfl fx34 (qq2 (off' := 2) EG DJ) ?_
  refine JA.tk 7 rfl fx34 (qq2 (off' := 3) EF zL) ?_
  refine JA.tk 8 rfl fx34 (yX BX (yR.QE 0 rfl)) ?_
  refine zT 2 rfl (yU rfl rfl rfl rfl rfl (VG t.text (by omega) _ ht) ?_)
  refine ⟨⟨(Le.refl _), (HSub.c 0 rfl (HSub.c 2 rfl (HSub.c 3 rfl (HSub.c 4 rfl HSub.n)))), CSub.n⟩, ?_⟩
  refine JA.fix ⟨(HSub.c 0 rfl (HSub.c 2 rfl (HSub.c 3 rfl (HSub.c 4 rfl HSub.n)))), CSub.n, (Le.refl _)⟩ (fun fx35 => ?_)
  refine JA.tk 10 rfl fx35 (qq2 (off' := 1) DI zL) ?_
  refine zT 9 rfl (yU rfl rfl rfl rfl rfl (VG (Cq.lex s i).1.text (by omega) _ ht) ?_)
  refine ⟨⟨(Le.refl _), (HSub.c 0 rfl (HSub.c 2 rfl (HSub.c 3 rfl (HSub.c 4 rfl HSub.n)))), CSub.n⟩, ?_⟩
  refine zT 11 rfl (zS 1 zL (zM.s (zM.c zM.z)) (AV.s AV.z) ?_)
  refine ⟨⟨(Le.refl _), (HSub.c 0 rfl (HSub.c 2 rfl (HSub.c 3 rfl (HSub.c 4 rfl HSub.n)))), CSub.n⟩, ?_⟩
  refine JA.fix ⟨(HSub.c 0 rfl (HSub.c 2 rfl (HSub.c 3 rfl (HSub.c 4 rfl HSub.n)))), CSub.n, (Le.refl _)⟩ (fun fx36 => ?_)
  refine JA.tk 12 rfl fx36 (qq2 (off' := 2) DI zL) ?_
  refine zT 13 rfl (zS 1 zL (zM.s (zM.s (zM.c zM.z))) (AV.s AV.z) ?_)
  refine ⟨⟨(Le.refl _), (HSub.c 0 rfl (HSub.c 2 rfl (HSub.c 3 rfl (HSub.c 4 rfl HSub.n)))), CSub.n⟩, ?_⟩
  refine AL ?_
  refine Ej.seq (Cj.seq (Cj.seq (Cj.FT [0, 1, 2, 3, 4] [] 5 (by kernel_rfl) ?_)))
  refine JA.fix ⟨(HSub.c 0 rfl (HSub.c 1 rfl (HSub.c 2 rfl (HSub.c 3 rfl (HSub.c 4 rfl HSub.n))))), CSub.n, (Le.refl _)⟩ (fun fx37 => ?_)
  refine JA.tk 1 rfl fx37 (qq2 (off' := 1) DI zL) ?_
  refine JA.tk 2 rfl fx37 (yX BX (yR.QE 1 rfl)) ?_
  refine zT 0 rfl (yS (H1 := []) rfl rfl rfl rfl rfl (a4O _) ?_ (fun _ _ _ _ h => by obtain ⟨⟨_, h, _⟩, _⟩ := h; cases h) (fun _ _ h => by obtain ⟨⟨_, h, _⟩, _⟩ := h; cases h))
  intro v38 I39 H40 hle41 hp42
  have ht := ht.mono hle41
  obtain ⟨⟨v38x, hv38, hsv38⟩, rfl⟩ := hp42; cases hv38
  refine ⟨⟨(Le.trans (Le.refl _) hle41), (HSub.c 0 rfl (HSub.c 1 rfl (HSub.c 2 rfl (HSub.c 3 rfl (HSub.c 4 rfl HSub.n))))), CSub.n⟩, ?_⟩
  refine zT 3 rfl (yU rfl rfl rfl rfl rfl (YH Cq.indexes _ _ (by decide) _ hsv38) ?_)
  refine ⟨⟨(Le.trans (Le.refl _) hle41), (HSub.c 0 rfl (HSub.c 1 rfl (HSub.c 2 rfl (HSub.c 3 rfl (HSub.c 4 rfl HSub.n))))), CSub.n⟩, ?_⟩
  refine JA.eqv 68 rfl (show _ = .bool (Cq.indexes.contains (Cq.small t.text)) from (by rw [(RH (l := Cq.indexes) (by decide) t.text).1])) ?_
  refine JA.fix ⟨(HSub.c 0 rfl (HSub.c 1 rfl (HSub.c 2 rfl (HSub.c 3 rfl (HSub.c 4 rfl HSub.n))))), CSub.n, (Le.trans (Le.refl _) hle41)⟩ (fun fx43 => ?_)
  refine JA.tk 4 rfl fx43 (ER rfl rfl) ?_
  refine AL ?_
  refine Ej.seq (Cj.cond rfl (fun hc44 => ?_) (fun hc44 => ?_))
  ·have hix : ¬ Cq.small t.text ∈ Cq.indexes := by have h := hc44; rw [Bool.not_eq_true'] at h; simpa using h
   refine Cj.region (J.z yP ?_)
   refine J.z (zX JF DJ (yR.at 2 rfl)) ?_
   refine J.op rfl (yS (H1 := []) rfl rfl rfl rfl rfl (UR _ _ _ _) (fun _ _ _ _ h => by cases h.1) ?_ (fun _ _ h => by cases h.1))
   intro v45 I46 H47 hle48 hp49
   have ht := ht.mono hle48
   have hsv38 := hsv38.mono hle48
   obtain ⟨h, rfl⟩ := hp49; cases h
   refine Ej.JU ?_
   refine Ej.bare ?_
   refine Ej.pan rfl ?_
   show OW pb s deep (Cq.clause (f + 1) deep (t :: (Cq.lex s i).1 :: (Cq.lex s (Cq.lex s i).2).1 :: r3)) _ _ _
   have hev : Cq.clause (f + 1) deep (t :: (Cq.lex s i).1 :: (Cq.lex s (Cq.lex s i).2).1 :: r3) = .err t.pos 42 := by simp [Cq.clause, hlp, hT, hk3, hrel, hix]
   rw [hev]
   exact ⟨rfl, rfl⟩
  have hix0 : Cq.indexes.contains (Cq.small t.text) = true := by have h := hc44; rw [Bool.not_eq_false'] at h; exact h
  have hix : Cq.small t.text ∈ Cq.indexes := by simpa using hix0
  have hs1 := (RH (l := Cq.indexes) (by decide) t.text).2 hix0
  have hs2 := (RH (l := Cq.relations) (by decide) (Cq.lex s i).1.text).2 (by have h := hrel; simp only [Cq.relation, Bool.and_eq_true] at h; exact h.1)
  refine Cj.ks (Cj.sr (J.z yP ?_))
  refine J.z zW ?_
  refine J.z (qq2 (off' := 0) IX KE) ?_
  refine J.pull Pull.z ?_
  refine J.op rfl (yS (H1 := [_]) rfl rfl rfl rfl rfl (scan_ok _ _ s _ _ _ _ _ hi2 hs _) ?_ (fun _ _ _ _ h => by cases h.1) (fun _ _ h => by cases h.1))
  intro v50 I51 H52 hle53 hp54
  have ht := ht.mono hle53
  have hsv38 := hsv38.mono hle53
  obtain ⟨h, rfl⟩ := hp54; cases h
  refine J.yV (J.z yP ?_)
  refine J.z yP ?_
  refine J.z zW ?_
  refine J.z (qq2 (off' := 0) IX KE) ?_
  refine J.z (qq2 (off' := 2) EG DJ) ?_
  refine J.z (zX JF DJ (yR.at 0 rfl)) ?_
  rcases hT3 : Cq.isTerm (Cq.lex s (Cq.lex s i).2).1 with _ | _
  ·skip
   refine J.op rfl (yS (H1 := []) rfl rfl rfl rfl rfl ((by have h := UZ (ptr pb 0) (Cq.lex s (Cq.lex s i).2).1 (by omega) _ ht; rw [hT3] at h; exact h)) (fun _ _ _ _ h => by cases h.1) ?_ (fun _ _ h => by cases h.1))
   intro v55 I56 H57 hle58 hp59
   have ht := ht.mono hle58
   have hsv38 := hsv38.mono hle58
   obtain ⟨h, rfl⟩ := hp59; cases h
   refine Ej.JU ?_
   refine Ej.bare ?_
   refine Ej.pan rfl ?_
   show OW pb s deep (Cq.clause (f + 1) deep (t :: (Cq.lex s i).1 :: (Cq.lex s (Cq.lex s i).2).1 :: r3)) _ _ _
   have hev : Cq.clause (f + 1) deep (t :: (Cq.lex s i).1 :: (Cq.lex s (Cq.lex s i).2).1 :: r3) = .err (Cq.lex s (Cq.lex s i).2).1.pos 40 := by simp [Cq.clause, hlp, hT, hk3, hrel, hix, hT3]
   rw [hev]
   exact ⟨rfl, rfl⟩
  obtain ⟨hi3, hcur4⟩ := hcur3.next (Cq.RI hT3)
  refine J.op rfl (yS (H1 := []) rfl rfl rfl rfl rfl ((by have h := UZ (ptr pb 0) (Cq.lex s (Cq.lex s i).2).1 (by omega) _ ht; rw [hT3] at h; exact h)) ?_ (fun _ _ _ _ h => by cases h.1) (fun _ _ h => by cases h.1))
  intro v60 I61 H62 hle63 hp64
  have ht := ht.mono hle63
  have hsv38 := hsv38.mono hle63
  obtain ⟨h, rfl⟩ := hp64; cases h
  refine J.z (qq2 (off' := 3) DI zL) ?_
  refine J.op rfl (zS 1 zL (zM.s (zM.s (zM.s (zM.c zM.z)))) (AV.s AV.z) ?_)
  refine J.yV (J.z yP ?_)
  refine J.z zW ?_
  refine J.z (qq2 (off' := 0) IX KE) ?_
  refine J.pull Pull.z ?_
  refine J.op rfl (yS (H1 := [_]) rfl rfl rfl rfl rfl (scan_ok _ _ s _ _ _ _ _ hi3 hs _) ?_ (fun _ _ _ _ h => by cases h.1) (fun _ _ h => by cases h.1))
  intro v65 I66 H67 hle68 hp69
  have ht := ht.mono hle68
  have hsv38 := hsv38.mono hle68
  obtain ⟨h, rfl⟩ := hp69; cases h
  refine J.yV (J.z (zX CP zZ (yR.at 1 rfl)) ?_)
  refine J.op rfl (zS 4 zZ (zM.c (zM.c (zM.c (zM.c (zM.c zM.z))))) (AV.s (AV.s (AV.s (AV.s AV.z)))) ?_)
  refine J.ns (Cj.ret (Ej.OI (Keeps.k (Keeps.d (Keeps.d (Keeps.d (Keeps.d Keeps.n))))) rfl rfl rfl (yR.at 4 rfl) CP zZ rfl ?_))
  show OW pb s deep (Cq.clause (f + 1) deep (t :: (Cq.lex s i).1 :: (Cq.lex s (Cq.lex s i).2).1 :: r3)) _ _ _
  have hev : Cq.clause (f + 1) deep (t :: (Cq.lex s i).1 :: (Cq.lex s (Cq.lex s i).2).1 :: r3) = .ok ⟨1, Cq.small t.text, Cq.small (Cq.lex s i).1.text, (Cq.lex s (Cq.lex s i).2).1.text, .nil⟩ r3 := by simp [Cq.clause, hlp, hT, hk3, hrel, hix, hT3]
  rw [hev]
  exact ⟨_, _, _, rfl, ⟨none, 0, by rw [hs1, hs2]; rfl, .inl rfl⟩, rfl, hcur4⟩
 have hlp : Cq.lp t = false := by simp [Cq.lp, htx0]
 refine J.z (b0M htx0 rfl rfl rfl underlying339 BF zeroValue118 (yR.at 1 rfl)) ?_
 refine J.z yP ?_
 refine J.z AQ ?_
 refine J.z AQ ?_
 refine J.z yQ ?_
 refine J.z yQ ?_
 refine J.yV (J.z yP ?_)
 refine J.z yP ?_
 refine CQ 1 25 26 true ?_
 refine CQ 1 25 27 true ?_
 refine CQ 1 25 28 true ?_
 refine J.z IL ?_
 refine J.c0 (fun hc70 => ?_)
 refine Cj.ks (Cj.sr (J.z yP ?_))
 refine J.z (zX JF DJ (yR.at 0 rfl)) ?_
 rcases hT : Cq.isTerm t with _ | _
 ·skip
  refine J.op rfl (yS (H1 := []) rfl rfl rfl rfl rfl ((by have h := UZ (ptr pb 0) t (by omega) _ ht; rw [hT] at h; exact h)) (fun _ _ _ _ h => by cases h.1) ?_ (fun _ _ h => by cases h.1))
  intro v71 I72 H73 hle74 hp75
  have ht := ht.mono hle74
  obtain ⟨h, rfl⟩ := hp75; cases h
  refine Ej.JU ?_
  refine Ej.bare ?_
  refine Ej.pan rfl ?_
  show OW pb s deep (Cq.clause (f + 1) deep (t :: r)) _ _ _
  have hev : Cq.clause (f + 1) deep (t :: r) = .err t.pos 40 := by simp [Cq.clause, hlp, hT]
  rw [hev]
  exact ⟨rfl, rfl⟩
 obtain ⟨hi, hcur2⟩ := hcur.next (Cq.RI hT)
 obtain ⟨r2, rfl⟩ := hcur2.cons
 have htx2 := hcur2.txt
 refine J.op rfl (yS (H1 := []) rfl rfl rfl rfl rfl ((by have h := UZ (ptr pb 0) t (by omega) _ ht; rw [hT] at h; exact h)) ?_ (fun _ _ _ _ h => by cases h.1) (fun _ _ h => by cases h.1))
 intro v76 I77 H78 hle79 hp80
 have ht := ht.mono hle79
 obtain ⟨h, rfl⟩ := hp80; cases h
 refine J.z (zV (pl := #[(0, 1), (1, 1), (2, 1), (3, 1), (4, 1)]) rfl rfl FQ rfl DI (fun w => by simp [AB, MH, zL]) (GN.part rfl rfl rfl (zM.c zM.z) (GN.part rfl rfl rfl (zM.s (zM.c zM.z)) (GN.part rfl rfl rfl (zM.s (zM.s (zM.c zM.z))) (GN.part rfl rfl rfl (zM.s (zM.s (zM.s (zM.c zM.z)))) GN.none))))) ?_
 refine J.op rfl (BP FQ ?_)
 intro b81 hb81
 refine J.op rfl (zS 0 zZ (zM.c (zM.c (zM.c (zM.c (zM.c zM.z))))) AV.z ?_)
 refine J.yV (J.z yP ?_)
 refine J.z zW ?_
 refine J.z (qq2 (off' := 0) IX KE) ?_
 refine J.pull (Pull.s (Pull.s (Pull.s (Pull.s Pull.z)))) ?_
 refine J.op rfl (yS (H1 := [_]) rfl rfl rfl rfl rfl (scan_ok _ _ s _ _ _ _ _ hi hs _) ?_ (fun _ _ _ _ h => by cases h.1) (fun _ _ h => by cases h.1))
 intro v82 I83 H84 hle85 hp86
 have ht := ht.mono hle85
 obtain ⟨h, rfl⟩ := hp86; cases h
 refine J.AO (Cj.region (J.z (qq2 (off' := 0) EF ET) ?_))
 refine J.z (yX KD (yR.at 2 rfl)) ?_
 refine J.z EY ?_
 refine J.z yP ?_
 refine J.split 43 rfl (fun hg87 => ?_) (fun hg87 => ?_)
 ·have hk3 : t.kind ≠ 3 := by have := bne_iff_ne.1 hg87; omega
  refine zO 3 43 44 false hg87 ?_
  refine zO 3 43 45 false hg87 ?_
  refine zO 3 43 46 false hg87 ?_
  refine zO 3 43 47 false hg87 ?_
  refine zO 3 43 48 false hg87 ?_
  refine zO 3 43 49 false hg87 ?_
  refine zO 3 43 50 false hg87 ?_
  refine J.z (DY hg87) ?_
  refine J.c1 (fun hc88 => ?_)
  refine Cj.sr (J.z (zX CP zZ (yR.at 1 rfl)) ?_)
  refine J.op rfl (zS 4 zZ (zM.c (zM.c (zM.c (zM.c (zM.c zM.z))))) (AV.s (AV.s (AV.s (AV.s AV.z)))) ?_)
  refine J.ns (Cj.rs (Ej.OI (Keeps.k (Keeps.d (Keeps.d (Keeps.d (Keeps.d Keeps.n))))) rfl rfl rfl (yR.at 4 rfl) CP zZ rfl ?_))
  show OW pb s deep (Cq.clause (f + 1) deep (t :: (Cq.lex s i).1 :: r2)) _ _ _
  have hev : Cq.clause (f + 1) deep (t :: (Cq.lex s i).1 :: r2) = .ok ⟨1, [97, 110, 121], [61], t.text, .nil⟩ ((Cq.lex s i).1 :: r2) := by simp [Cq.clause, hlp, hT, hk3]
  rw [hev]
  exact ⟨_, _, _, rfl, ⟨none, 0, rfl, .inl rfl⟩, rfl, hcur2⟩
 have hk3 : t.kind = 3 := by have := EC hg87; omega
 refine zU 3 43 false hg87 (zK yP ?_)
 refine zU 3 43 false hg87 (zK zW ?_)
 refine zU 3 43 false hg87 (zK (qq2 (off' := 0) IX KE) ?_)
 refine zU 3 43 false hg87 (zK (qq2 (off' := 2) EG DJ) ?_)
 refine zU 3 43 false hg87 (zK (zX JF DJ (yR.at 0 rfl)) ?_)
 refine J.QD 3 43 false _ rfl rfl rfl hg87 (yU rfl rfl rfl rfl rfl (a4U (Cq.lex s i).1 (by omega) _ ht) ?_)
 refine zU 3 43 false hg87 (zK (ER rfl rfl) ?_)
 refine J.z (DV hg87) ?_
 refine J.cd (fun hc89 => ?_) (fun hc89 => ?_)
 ·have hrel : Cq.relation (Cq.lex s i).1 = false := by have h := hc89; rw [Bool.not_eq_true'] at h; exact h
  refine Cj.sr (J.z (zX CP zZ (yR.at 1 rfl)) ?_)
  refine J.op rfl (zS 4 zZ (zM.c (zM.c (zM.c (zM.c (zM.c zM.z))))) (AV.s (AV.s (AV.s (AV.s AV.z)))) ?_)
  refine J.ns (Cj.rs (Ej.OI (Keeps.k (Keeps.d (Keeps.d (Keeps.d (Keeps.d Keeps.n))))) rfl rfl rfl (yR.at 4 rfl) CP zZ rfl ?_))
  show OW pb s deep (Cq.clause (f + 1) deep (t :: (Cq.lex s i).1 :: r2)) _ _ _
  have hev : Cq.clause (f + 1) deep (t :: (Cq.lex s i).1 :: r2) = .ok ⟨1, [97, 110, 121], [61], t.text, .nil⟩ ((Cq.lex s i).1 :: r2) := by simp [Cq.clause, hlp, hT, hk3, hrel]
  rw [hev]
  exact ⟨_, _, _, rfl, ⟨none, 0, rfl, .inl rfl⟩, rfl, hcur2⟩
 have hrel : Cq.relation (Cq.lex s i).1 = true := by have h := hc89; rw [Bool.not_eq_false'] at h; exact h
 obtain ⟨hi2, hcur3⟩ := hcur2.next (Cq.a1C hrel)
 obtain ⟨r3, rfl⟩ := hcur3.cons
 have htx3 := hcur3.txt
 refine Cj.ks (Cj.seq (Cj.FT [0, 2, 3, 4] [] 14 (by kernel_rfl) ?_))
 refine JA.fix ⟨(HSub.c 0 rfl (HSub.c 2 rfl (HSub.c 3 rfl (HSub.c 4 rfl HSub.n)))), CSub.n, (Le.refl _)⟩ (fun fx90 => ?_)
 refine JA.tk 0 rfl fx90 (qq2 (off' := 1) EF zL) ?_
 refine JA.tk 1 rfl fx90 (yX BX (yR.QE 1 rfl)) ?_
 refine JA.tk 3 rfl fx90 yP ?_
 refine JA.tk 4 rfl fx90 zW ?_
 refine JA.tk 5 rfl fx90 (qq2 (off' := 0) IX KE) ?_
 refine JA.tk 6 rfl fx90 (qq2 (off' := 2) EG DJ) ?_
 refine JA.tk 7 rfl fx90 (qq2 (off' := 3) EF zL) ?_
 refine JA.tk 8 rfl fx90 (yX BX (yR.QE 0 rfl)) ?_
 refine zT 2 rfl (yU rfl rfl rfl rfl rfl (VG t.text (by omega) _ ht) ?_)
 refine ⟨⟨(Le.refl _), (HSub.c 0 rfl (HSub.c 2 rfl (HSub.c 3 rfl (HSub.c 4 rfl HSub.n)))), CSub.n⟩, ?_⟩
 refine JA.fix ⟨(HSub.c 0 rfl (HSub.c 2 rfl (HSub.c 3 rfl (HSub.c 4 rfl HSub.n)))), CSub.n, (Le.refl _)⟩ (fun fx91 => ?_)
 refine JA.tk 10 rfl fx91 (qq2 (off' := 1) DI zL) ?_
 refine zT 9 rfl (yU rfl rfl rfl rfl rfl (VG (Cq.lex s i).1.text (by omega) _ ht) ?_)
 refine ⟨⟨(Le.refl _), (HSub.c 0 rfl (HSub.c 2 rfl (HSub.c 3 rfl (HSub.c 4 rfl HSub.n)))), CSub.n⟩, ?_⟩
 refine zT 11 rfl (zS 1 zL (zM.s (zM.c zM.z)) (AV.s AV.z) ?_)
 refine ⟨⟨(Le.refl _), (HSub.c 0 rfl (HSub.c 2 rfl (HSub.c 3 rfl (HSub.c 4 rfl HSub.n)))), CSub.n⟩, ?_⟩
 refine JA.fix ⟨(HSub.c 0 rfl (HSub.c 2 rfl (HSub.c 3 rfl (HSub.c 4 rfl HSub.n)))), CSub.n, (Le.refl _)⟩ (fun fx92 => ?_)
 refine JA.tk 12 rfl fx92 (qq2 (off' := 2) DI zL) ?_
 refine zT 13 rfl (zS 1 zL (zM.s (zM.s (zM.c zM.z))) (AV.s AV.z) ?_)
 refine ⟨⟨(Le.refl _), (HSub.c 0 rfl (HSub.c 2 rfl (HSub.c 3 rfl (HSub.c 4 rfl HSub.n)))), CSub.n⟩, ?_⟩
 refine AL ?_
 refine Ej.seq (Cj.seq (Cj.seq (Cj.FT [0, 1, 2, 3, 4] [] 5 (by kernel_rfl) ?_)))
 refine JA.fix ⟨(HSub.c 0 rfl (HSub.c 1 rfl (HSub.c 2 rfl (HSub.c 3 rfl (HSub.c 4 rfl HSub.n))))), CSub.n, (Le.refl _)⟩ (fun fx93 => ?_)
 refine JA.tk 1 rfl fx93 (qq2 (off' := 1) DI zL) ?_
 refine JA.tk 2 rfl fx93 (yX BX (yR.QE 1 rfl)) ?_
 refine zT 0 rfl (yS (H1 := []) rfl rfl rfl rfl rfl (a4O _) ?_ (fun _ _ _ _ h => by obtain ⟨⟨_, h, _⟩, _⟩ := h; cases h) (fun _ _ h => by obtain ⟨⟨_, h, _⟩, _⟩ := h; cases h))
 intro v94 I95 H96 hle97 hp98
 have ht := ht.mono hle97
 obtain ⟨⟨v94x, hv94, hsv94⟩, rfl⟩ := hp98; cases hv94
 refine ⟨⟨(Le.trans (Le.refl _) hle97), (HSub.c 0 rfl (HSub.c 1 rfl (HSub.c 2 rfl (HSub.c 3 rfl (HSub.c 4 rfl HSub.n))))), CSub.n⟩, ?_⟩
 refine zT 3 rfl (yU rfl rfl rfl rfl rfl (YH Cq.indexes _ _ (by decide) _ hsv94) ?_)
 refine ⟨⟨(Le.trans (Le.refl _) hle97), (HSub.c 0 rfl (HSub.c 1 rfl (HSub.c 2 rfl (HSub.c 3 rfl (HSub.c 4 rfl HSub.n))))), CSub.n⟩, ?_⟩
 refine JA.eqv 68 rfl (show _ = .bool (Cq.indexes.contains (Cq.small t.text)) from (by rw [(RH (l := Cq.indexes) (by decide) t.text).1])) ?_
 refine JA.fix ⟨(HSub.c 0 rfl (HSub.c 1 rfl (HSub.c 2 rfl (HSub.c 3 rfl (HSub.c 4 rfl HSub.n))))), CSub.n, (Le.trans (Le.refl _) hle97)⟩ (fun fx99 => ?_)
 refine JA.tk 4 rfl fx99 (ER rfl rfl) ?_
 refine AL ?_
 refine Ej.seq (Cj.cond rfl (fun hc100 => ?_) (fun hc100 => ?_))
 ·have hix : ¬ Cq.small t.text ∈ Cq.indexes := by have h := hc100; rw [Bool.not_eq_true'] at h; simpa using h
  refine Cj.region (J.z yP ?_)
  refine J.z (zX JF DJ (yR.at 2 rfl)) ?_
  refine J.op rfl (yS (H1 := []) rfl rfl rfl rfl rfl (UR _ _ _ _) (fun _ _ _ _ h => by cases h.1) ?_ (fun _ _ h => by cases h.1))
  intro v101 I102 H103 hle104 hp105
  have ht := ht.mono hle104
  have hsv94 := hsv94.mono hle104
  obtain ⟨h, rfl⟩ := hp105; cases h
  refine Ej.JU ?_
  refine Ej.bare ?_
  refine Ej.pan rfl ?_
  show OW pb s deep (Cq.clause (f + 1) deep (t :: (Cq.lex s i).1 :: (Cq.lex s (Cq.lex s i).2).1 :: r3)) _ _ _
  have hev : Cq.clause (f + 1) deep (t :: (Cq.lex s i).1 :: (Cq.lex s (Cq.lex s i).2).1 :: r3) = .err t.pos 42 := by simp [Cq.clause, hlp, hT, hk3, hrel, hix]
  rw [hev]
  exact ⟨rfl, rfl⟩
 have hix0 : Cq.indexes.contains (Cq.small t.text) = true := by have h := hc100; rw [Bool.not_eq_false'] at h; exact h
 have hix : Cq.small t.text ∈ Cq.indexes := by simpa using hix0
 have hs1 := (RH (l := Cq.indexes) (by decide) t.text).2 hix0
 have hs2 := (RH (l := Cq.relations) (by decide) (Cq.lex s i).1.text).2 (by have h := hrel; simp only [Cq.relation, Bool.and_eq_true] at h; exact h.1)
 refine Cj.ks (Cj.sr (J.z yP ?_))
 refine J.z zW ?_
 refine J.z (qq2 (off' := 0) IX KE) ?_
 refine J.pull Pull.z ?_
 refine J.op rfl (yS (H1 := [_]) rfl rfl rfl rfl rfl (scan_ok _ _ s _ _ _ _ _ hi2 hs _) ?_ (fun _ _ _ _ h => by cases h.1) (fun _ _ h => by cases h.1))
 intro v106 I107 H108 hle109 hp110
 have ht := ht.mono hle109
 have hsv94 := hsv94.mono hle109
 obtain ⟨h, rfl⟩ := hp110; cases h
 refine J.yV (J.z yP ?_)
 refine J.z yP ?_
 refine J.z zW ?_
 refine J.z (qq2 (off' := 0) IX KE) ?_
 refine J.z (qq2 (off' := 2) EG DJ) ?_
 refine J.z (zX JF DJ (yR.at 0 rfl)) ?_
 rcases hT3 : Cq.isTerm (Cq.lex s (Cq.lex s i).2).1 with _ | _
 ·skip
  refine J.op rfl (yS (H1 := []) rfl rfl rfl rfl rfl ((by have h := UZ (ptr pb 0) (Cq.lex s (Cq.lex s i).2).1 (by omega) _ ht; rw [hT3] at h; exact h)) (fun _ _ _ _ h => by cases h.1) ?_ (fun _ _ h => by cases h.1))
  intro v111 I112 H113 hle114 hp115
  have ht := ht.mono hle114
  have hsv94 := hsv94.mono hle114
  obtain ⟨h, rfl⟩ := hp115; cases h
  refine Ej.JU ?_
  refine Ej.bare ?_
  refine Ej.pan rfl ?_
  show OW pb s deep (Cq.clause (f + 1) deep (t :: (Cq.lex s i).1 :: (Cq.lex s (Cq.lex s i).2).1 :: r3)) _ _ _
  have hev : Cq.clause (f + 1) deep (t :: (Cq.lex s i).1 :: (Cq.lex s (Cq.lex s i).2).1 :: r3) = .err (Cq.lex s (Cq.lex s i).2).1.pos 40 := by simp [Cq.clause, hlp, hT, hk3, hrel, hix, hT3]
  rw [hev]
  exact ⟨rfl, rfl⟩
 obtain ⟨hi3, hcur4⟩ := hcur3.next (Cq.RI hT3)
 refine J.op rfl (yS (H1 := []) rfl rfl rfl rfl rfl ((by have h := UZ (ptr pb 0) (Cq.lex s (Cq.lex s i).2).1 (by omega) _ ht; rw [hT3] at h; exact h)) ?_ (fun _ _ _ _ h => by cases h.1) (fun _ _ h => by cases h.1))
 intro v116 I117 H118 hle119 hp120
 have ht := ht.mono hle119
 have hsv94 := hsv94.mono hle119
 obtain ⟨h, rfl⟩ := hp120; cases h
 refine J.z (qq2 (off' := 3) DI zL) ?_
 refine J.op rfl (zS 1 zL (zM.s (zM.s (zM.s (zM.c zM.z)))) (AV.s AV.z) ?_)
 refine J.yV (J.z yP ?_)
 refine J.z zW ?_
 refine J.z (qq2 (off' := 0) IX KE) ?_
 refine J.pull Pull.z ?_
 refine J.op rfl (yS (H1 := [_]) rfl rfl rfl rfl rfl (scan_ok _ _ s _ _ _ _ _ hi3 hs _) ?_ (fun _ _ _ _ h => by cases h.1) (fun _ _ h => by cases h.1))
 intro v121 I122 H123 hle124 hp125
 have ht := ht.mono hle124
 have hsv94 := hsv94.mono hle124
 obtain ⟨h, rfl⟩ := hp125; cases h
 refine J.yV (J.z (zX CP zZ (yR.at 1 rfl)) ?_)
 refine J.op rfl (zS 4 zZ (zM.c (zM.c (zM.c (zM.c (zM.c zM.z))))) (AV.s (AV.s (AV.s (AV.s AV.z)))) ?_)
 refine J.ns (Cj.ret (Ej.OI (Keeps.k (Keeps.d (Keeps.d (Keeps.d (Keeps.d Keeps.n))))) rfl rfl rfl (yR.at 4 rfl) CP zZ rfl ?_))
 show OW pb s deep (Cq.clause (f + 1) deep (t :: (Cq.lex s i).1 :: (Cq.lex s (Cq.lex s i).2).1 :: r3)) _ _ _
 have hev : Cq.clause (f + 1) deep (t :: (Cq.lex s i).1 :: (Cq.lex s (Cq.lex s i).2).1 :: r3) = .ok ⟨1, Cq.small t.text, Cq.small (Cq.lex s i).1.text, (Cq.lex s (Cq.lex s i).2).1.text, .nil⟩ r3 := by simp [Cq.clause, hlp, hT, hk3, hrel, hix, hT3]
 rw [hev]
 exact ⟨_, _, _, rfl, ⟨none, 0, by rw [hs1, hs2]; rfl, .inl rfl⟩, rfl, hcur4⟩
structure CSt where
  f:Nat
  q:Cq.Qn
  p:Option Addr
  c:Nat
  i:Nat
  t:Cq.Tok
  ts:List Cq.Tok
  I:Heap
def c7g (s:List UInt8) (f deep:Nat) (ts:List bZ) (j:CSt):Prop:=
 dK s j.i j.t j.ts∧dU (f+1) deep ts=Cq.more j.f deep j.q j.ts∧PS j.I j.q.ps j.p∧2*j.ts.length+1≤j.f∧j.f≤f∧Tabs j.I
theorem b4o (f : Nat) (ih : ∀ g, g ≤ f → b1z g) : a7f (f + 1) := by
 intro pb i deep s t ts I hcur ht hs hf hd
 refine yT.ob func102 ?_
 intro w0 hw0
 refine Cj.sr (J.op rfl (BP FQ ?_))
 intro b1 hb1
 refine J.yV (J.z yP ?_)
 rcases hq : Cq.clause f deep ts with ⟨q, ts2⟩ | ⟨pe, ee⟩
 ·skip
  refine J.pull (Pull.s Pull.z) ?_
  refine J.op rfl (yS (H1 := [_]) rfl rfl rfl rfl rfl ((by have h := ih f (Nat.le_refl _) pb i deep s t ts _ hcur ht hs (by omega) hd; rw [hq] at h; exact h)) ?_ (fun _ _ _ _ h => by obtain ⟨_, _, _, h, _⟩ := h; cases h) (fun _ _ h => by obtain ⟨_, _, _, h, _⟩ := h; cases h))
  intro v2 I3 H4 hle5 hp6
  have ht := ht.mono hle5
  obtain ⟨vq, i2, t2, h, ⟨pq, cq, rfl, hps⟩, rfl, hcur2⟩ := hp6; cases h
  refine J.op rfl (BP FQ ?_)
  intro b7 hb7
  refine J.op rfl (zS 0 zZ (zM.c (zM.c (zM.c (zM.c (zM.c zM.z))))) AV.z ?_)
  refine J.nss (Cj.block (Cj.loop (ι := CSt) (fun j => c7g s f deep ts j) (fun j => j.ts.length) (fun j => [(0, ptr pb 0), (2, ptr b1 0), (3, ptr b7 0)]) (fun j => j.I) (fun j => [(b7, yY 66 (EX j.q j.p j.c)), (pb, yY 212 (str s :: i64 j.i :: a0K j.t [i64 deep])), (b1, yY 66 (EX Cq.zero none 0))]) ⟨f, q, pq, cq, i2, t2, ts2, _⟩ ⟨hcur2, by simp only [Cq.query, hq], hps, by have h := (Cq.less f).1 deep ts hcur.good; rw [hq] at h; have := h.2; dsimp only; omega, Nat.le_refl _, ht⟩ ⟨rfl, rfl, rfl, trivial⟩ rfl rfl ?_))
  clear hps ht
  rintro ⟨f', q, p, c, i', t, ts', I1⟩ ⟨hcur1, heq, hps, hf', hff, ht⟩
  dsimp only at hcur1 heq hps hf' hff ht ⊢
  obtain ⟨r, rfl⟩ := hcur1.cons
  obtain ⟨g, rfl⟩ : ∃ g, f' = g + 1 := ⟨f' - 1, by simp at hf'; omega⟩
  have htx := hcur1.txt
  refine Cj.seq (Cj.sr (J.z yP ?_))
  refine J.z zW ?_
  refine J.z (qq2 (off' := 0) IX KE) ?_
  refine J.z (qq2 (off' := 2) EG DJ) ?_
  refine J.z (zX JF DJ (yR.at 1 rfl)) ?_
  refine J.op rfl (yU rfl rfl rfl rfl rfl (XV t (by omega) _ ht) ?_)
  refine J.z (KO rfl rfl rfl) ?_
  refine J.cd (fun hc8 => ?_) (fun hc8 => ?_)
  ·have hc8p := BH hc8
   have hop : Cq.operator t ≠ 0 := by have := BH hc8; omega
   obtain ⟨hi, hcur2⟩ := hcur1.next (Cq.a5m hop)
   refine Cj.ks (Cj.block (Cj.sr (J.z yP ?_)))
   refine J.z zW ?_
   refine J.z (qq2 (off' := 0) IX KE) ?_
   refine J.z (qq2 (off' := 2) EG DJ) ?_
   refine J.z (zX JF DJ (yR.at 1 rfl)) ?_
   refine J.op rfl (yU rfl rfl rfl rfl rfl (XV t (by omega) _ ht) ?_)
   refine J.z yQ ?_
   refine J.yV (J.z yP ?_)
   refine J.z zW ?_
   refine J.z (qq2 (off' := 0) IX KE) ?_
   refine J.pull (Pull.s Pull.z) ?_
   refine J.op rfl (yS (H1 := [_]) rfl rfl rfl rfl rfl (scan_ok _ _ s _ _ _ _ _ hi hs _) ?_ (fun _ _ _ _ h => by cases h.1) (fun _ _ h => by cases h.1))
   intro v9 I10 H11 hle12 hp13
   have ht := ht.mono hle12
   have hps := hps.mono hle12
   obtain ⟨h, rfl⟩ := hp13; cases h
   refine J.ns (Cj.FT [1, 2] [] 6 (by kernel_rfl) ?_)
   refine JA.fix ⟨(HSub.c 1 rfl (HSub.c 2 rfl HSub.n)), CSub.n, (Le.refl _)⟩ (fun fx14 => ?_)
   refine JA.tk 0 rfl fx14 yP ?_
   refine JA.tk 1 rfl fx14 (zX CP zZ (yR.QE 0 rfl)) ?_
   refine JA.tk 2 rfl fx14 yP ?_
   rcases hq : Cq.clause g deep r with ⟨q2, ts2⟩ | ⟨pe, ee⟩
   ·skip
    refine JA.pull Pull.z ?_
    refine zT 3 rfl (yS (H1 := [_]) rfl rfl rfl rfl rfl ((by have h := ih g (by omega) pb (Cq.lex s i').2 deep s (Cq.lex s i').1 r _ hcur2 ht hs (by simp at hf'; omega) hd; rw [hq] at h; exact h)) ?_ (fun _ _ _ _ h => by obtain ⟨_, _, _, h, _⟩ := h; cases h) (fun _ _ h => by obtain ⟨_, _, _, h, _⟩ := h; cases h))
    intro v15 I16 H17 hle18 hp19
    have ht := ht.mono hle18
    have hps := hps.mono hle18
    obtain ⟨vq, i2, t2, h, ⟨pq, cq, rfl, hps2⟩, rfl, hcur3⟩ := hp19; cases h
    refine ⟨⟨(Le.trans (Le.refl _) hle18), (HSub.c 1 rfl (HSub.c 2 rfl HSub.n)), CSub.n⟩, ?_⟩
    refine zT 4 rfl (AZ tU64 zZ FQ (CG.agg rfl (CG.agg rfl CG.none)) ?_)
    intro b20 hb20
    refine ⟨⟨(Le.trans (Le.refl _) hle18), (HSub.c 2 rfl (HSub.c 3 rfl HSub.n)), CSub.n⟩, ?_⟩
    refine JA.persist hb20 (fun I22 hle21 hb20i => ?_)
    have ht := ht.mono hle21
    have hps := hps.mono hle21
    have hps2 := hps2.mono hle21
    refine JA.fix ⟨(HSub.c 1 rfl (HSub.c 2 rfl HSub.n)), CSub.n, (Le.trans (Le.trans (Le.refl _) hle18) hle21)⟩ (fun fx23 => ?_)
    refine JA.tk 5 rfl fx23 (zV (pl := #[(0, 1), (1, 1), (2, 1), (3, 1), (4, 1)]) rfl rfl FQ rfl DI (fun w => by simp [AB, MH, zL]) (GN.part rfl rfl rfl (zM.c zM.z) (GN.part rfl rfl rfl (zM.s (zM.s (zM.s (zM.s (zM.c zM.z))))) GN.none))) ?_
    refine JA.last 6 (by kernel_rfl) rfl rfl rfl (zS 1 zZ (zM.c (zM.c (zM.c (zM.c (zM.c zM.z))))) (AV.s AV.z) ?_)
    refine AL ?_
    refine Ej.FN (Ej.keep (Keeps.k (Keeps.k (Keeps.k Keeps.n))) ?_)
    refine Ej.pull (Pull.s (Pull.s Pull.z)) ?_
    refine Ej.pull (Pull.s Pull.z) ?_
    refine Ej.pull (Pull.s (Pull.s Pull.z)) ?_
    refine Ej.round ⟨g, Cq.two (Cq.operator t) q q2, some ⟨b20, 0, none⟩, 2, i2, t2, ts2, _⟩ ⟨hcur3, by rw [heq]; simp only [Cq.more, hop, if_false, hq], PS.two hps hps2 hb20i, by have h := (Cq.less g).1 deep r hcur2.good; rw [hq] at h; have := h.2; simp at hf' ⊢; omega, by dsimp only; omega, ht⟩ (by have h := (Cq.less g).1 deep r hcur2.good; rw [hq] at h; have := h.2; simp; omega) ⟨rfl, rfl, rfl, trivial⟩ rfl rfl
   skip
   refine JA.pull Pull.z ?_
   refine zT 3 rfl (yS (H1 := [_]) rfl rfl rfl rfl rfl ((by have h := ih g (by omega) pb (Cq.lex s i').2 deep s (Cq.lex s i').1 r _ hcur2 ht hs (by simp at hf'; omega) hd; rw [hq] at h; exact h)) (fun _ _ _ _ h => by cases h.1) ?_ (fun _ _ h => by cases h.1))
   intro v24 I25 H26 hle27 hp28
   have ht := ht.mono hle27
   have hps := hps.mono hle27
   obtain ⟨h, rfl⟩ := hp28; cases h
   refine Ej.b1Z ?_
   refine Ej.b8D ?_
   refine Ej.b1Z ?_
   refine Ej.JU ?_
   refine Ej.bare ?_
   refine Ej.pan rfl ?_
   show OW pb s deep (Cq.query (f + 1) deep ts) _ _ _
   have hev : Cq.query (f + 1) deep ts = .err pe ee := by rw [heq]; simp only [Cq.more, hop, if_false, hq]
   rw [hev]
   exact ⟨rfl, rfl⟩
  have hc8p := BN hc8
  have hop : Cq.operator t = 0 := by have := BN hc8; omega
  refine Cj.xl (Cj.sr (J.z (zX CP zZ (yR.at 0 rfl)) ?_))
  refine J.op rfl (zS 2 zZ (zM.c (zM.c (zM.c (zM.c (zM.c zM.z))))) (AV.s (AV.s AV.z)) ?_)
  refine J.ns (Cj.ret (Ej.OI (Keeps.d (Keeps.k (Keeps.d Keeps.n))) rfl rfl rfl (yR.at 2 rfl) CP zZ rfl ?_))
  show OW pb s deep (Cq.query (f + 1) deep ts) _ _ _
  rw [heq]
  simp only [Cq.more, hop, if_true]
  exact ⟨_, _, _, rfl, ⟨p, c, rfl, hps⟩, rfl, hcur1⟩
 skip
 refine J.pull (Pull.s Pull.z) ?_
 refine J.op rfl (yS (H1 := [_]) rfl rfl rfl rfl rfl ((by have h := ih f (Nat.le_refl _) pb i deep s t ts _ hcur ht hs (by omega) hd; rw [hq] at h; exact h)) (fun _ _ _ _ h => by cases h.1) ?_ (fun _ _ h => by cases h.1))
 intro v29 I30 H31 hle32 hp33
 have ht := ht.mono hle32
 obtain ⟨h, rfl⟩ := hp33; cases h
 refine Ej.JU ?_
 refine Ej.bare ?_
 refine Ej.pan rfl ?_
 show OW pb s deep (Cq.query (f + 1) deep ts) _ _ _
 have hev : Cq.query (f + 1) deep ts = .err pe ee := by simp only [Cq.query, hq]
 rw [hev]
 exact ⟨rfl, rfl⟩
theorem a2J : ∀ f, (∀ g, g ≤ f → b1z g) ∧ ∀ g, g ≤ f → a7f g
  | 0 => ⟨fun g hg => by obtain rfl : g = 0 := by omega
                         intro pb i deep s t ts I hcur ht hs hf hd; omega, fun g hg => by obtain rfl : g = 0 := by omega
                                                                                          intro pb i deep s t ts I hcur ht hs hf hd; omega⟩
  | f + 1 => by
    obtain ⟨h1, h2⟩ := a2J f
    refine ⟨fun g hg => ?_, fun g hg => ?_⟩
    · rcases Nat.lt_or_ge f g with h | h
      · obtain rfl : g = f + 1 := by omega
        exact b2s f (b5S f (h2 f (Nat.le_refl _)))
      exact h1 g h
    rcases Nat.lt_or_ge f g with h | h
    · obtain rfl : g = f + 1 := by omega
      exact b4o f h1
    exact h2 g h
theorem b0k f:a7f f:=(a2J f).2 f (bW _)
theorem b4w h A G I:XA aI 100 [ptr h 0,ptr A 0,ptr G 0] .returning I [] (fun O I' H'=>O= .returning∧H'=[]):=by
 refine dV .nilIface .returning func100 rfl dE (bH rfl) rfl rfl rfl rfl rfl rfl rfl rfl (fun _ cs Z=> .inr ⟨by simp[recoverD,Z],rfl,rfl⟩) ?_;intro w0 _;refine Cj.sr (aB yP ?_);refine aB (b7z rfl rfl rfl c6W) ?_;refine J.c0 (fun _=>?_);refine Cj.skip (Ej.TK rfl rfl ?_);exact⟨⟨_,rfl⟩,rfl,rfl⟩
theorem a4E O Z z4 p A y0 y1 y2 y3 y4 x3 x4 I:XA aI 100 [ptr O 0,ptr Z 0,ptr z4 0] (.panicking (a5f p A)) I [(z4,yY 36 [x4]),(Z,yY 3 [x3]),(O,yY 66 [y0,y1,y2,y3,y4])]
 (fun u' I' H'=>u'= .panicking [{ v:= .iface 203 (.agg #[i64 p,i64 A]),recovered:=true }]∧H'=[(z4,yY 36 [i64 A]),(Z,yY 3 [i64 p]),(O,yY 66 (EX Cq.zero none 0))]):=by
 refine dV (.iface 203 (.agg #[i64 p,i64 A])) (.panicking [{ v:= .iface 203 (.agg #[i64 p,i64 A]),recovered:=true }]) func100 rfl dE (bH rfl) rfl rfl rfl rfl rfl rfl rfl rfl (fun _ cs hc=> .inl (by simp[recoverD,hc,a5f])) ?_;intro w0 _;refine Cj.sr (aB yP ?_);refine aB (b7i rfl rfl rfl c6W) ?_;refine J.c1 (fun _=>?_);refine Cj.sr (aB yP ?_);refine aB (a7c rfl rfl a8o rfl) ?_;refine aB yP ?_;refine aB AQ ?_;refine aB AQ ?_;refine aX rfl (BP zeroValue203 ?_);intro _ _;refine aX rfl (zS 0 sizeOf203 (aF (aF bI)) bM ?_);refine aB yQ ?_;refine J.AO (aY (aB yP ?_));refine aB (ER rfl rfl) ?_;refine J.ns (Cj.cond rfl (fun G=>Bool.noConfusion (Eq.trans (Eq.symm (zD not rfl)) G)) (fun G=>?_));refine Cj.ks (Cj.FT [0] [] 8 kR ?_);refine JA.fix ⟨(dW 0 rfl dX),dY,(dM _)⟩ (fun h=>?_);refine dS 0 rfl h (zV (pl:= #[(0,1),(1,1),(2,1),(3,1),(4,1)]) rfl rfl FQ rfl DI (fun w=>by simp[AB,MH,zL]) dP) ?_;refine dS 1 rfl h (qq2 (off':=0) a8o AB) ?_;refine dS 2 rfl h (yX DT (yR.QE 0 rfl)) ?_;refine dS 3 rfl h (qq2 (off':=1) a8o JJ) ?_;refine dS 4 rfl h (yX MR (yR.QE 0 rfl)) ?_;refine zT 5 rfl (zS 3 zZ (aF (aF (aF (aF (aF bI))))) (aN (aN (aN bM))) ?_);refine⟨⟨(dM _),(dW 0 rfl dX),dY⟩,?_⟩;refine zT 6 rfl (zS 2 AB (aF bI) (aN (aN bM)) ?_);refine⟨⟨(dM _),(dW 0 rfl dX),dY⟩,?_⟩;refine zT 7 rfl (zS 1 JJ (aF bI) (aN bM) ?_);refine⟨⟨(dM _),(dW 0 rfl dX),dY⟩,?_⟩;refine AL ?_;refine Ej.keep (aS Keeps.r) ?_;refine Ej.TK rfl rfl ?_;exact⟨⟨_,rfl⟩,rfl,rfl⟩
theorem b9P s (hs:s.length≤1000000000) I (O:Tabs I):yT aI 58 [str s] I []
 (fun e I' H'=>(∃v,e= .returned (.tuple #[v,i64 (aZ s).2.1,i64 (aZ s).2.2])∧QV I' (aZ s).1 v)∧H'=[]):=by
 refine yT.b3i func58 rfl (by decide) (bH rfl) ?_;intro w0 _;refine Cj.sr (aX rfl (BP FQ ?_));intro b1 _;refine aX rfl (BP RQ ?_);intro b2 _;refine aX rfl (BP a4I ?_);intro b3 _;refine J.yV (aB (EH rfl rfl rfl) ?_);refine J.defer rfl rfl rfl rfl rfl ?_;refine J.yV (aB yP ?_);refine aB (zV (pl:= #[(0,1),(1,1),(2,3)]) rfl rfl zeroValue210 rfl EG (fun w=>by simp[DJ,AB,zL]) (GN.part rfl rfl rfl (aF bI) dP)) ?_;refine aB (zV (pl:= #[(0,5),(5,1)]) rfl rfl zeroValue212 rfl IX (fun w=>by simp[KE,AB]) (GN.part rfl rfl rfl (aF (aF (aF (aF (aF bI))))) dP)) ?_;refine aX rfl (BL ?_);intro b4 _;refine aB yQ ?_;refine J.yV (aB yP ?_);refine aB zW ?_;refine aB (qq2 (off':=0) IX KE) ?_;refine J.pull Pull.z ?_;refine aX rfl (yS (H1:=[_]) rfl rfl rfl rfl rfl (scan_ok _ _ s 0 _ _ _ _ (by omega) hs _) ?_ (fun _ _ _ _ h=>by cases h.1) (fun _ _ h=>by cases h.1));intro _ _ _ a7 ab;have O:=O.mono a7;obtain⟨h,rfl⟩:=ab;cases h;refine J.yV (aB yP ?_);rcases hq:dU (4*s.length+9) 0 (dQ s)with⟨q,ac⟩|⟨pe,ee⟩
 ·skip
  refine J.pull Pull.z ?_;refine aX rfl (yS (H1:=[_]) rfl rfl rfl rfl rfl ((by have h:=b0k (4*s.length+9) b4 (dZ s 0).2 0 s (dZ s 0).1 (dQ s) _ (bP s) O hs (by have:=(bP s).len;omega) (by omega);rw[hq]at h;exact h)) ?_ (fun _ _ _ _ h=>by obtain⟨_,_,_,h,_⟩:=h;cases h) (fun _ _ h=>by obtain⟨_,_,_,h,_⟩:=h;cases h));intro _ _ _ a3 a8;have O:=O.mono a3;obtain⟨_,_,t2,h,⟨pq,cq,rfl,Z⟩,rfl,a4⟩:=a8;cases h;obtain⟨_,rfl⟩:=a4.cons;refine aX rfl (zS 3 zZ (aF (aF (aF (aF (aF bI))))) (aN (aN (aN bM))) ?_);refine J.AO (aY (aB yP ?_));refine aB zW ?_;refine aB (qq2 (off':=0) IX KE) ?_;refine aB (qq2 (off':=2) EG DJ) ?_;refine aB (qq2 (off':=2) EF ET) ?_;refine aB (yX KD (yR.at 0 rfl)) ?_;refine aB EY ?_;refine J.cd (fun A=>?_) (fun A=>?_)
  ·have a5:=bne_iff_ne.1 A;have a2:t2.kind≠0:=by have:=bne_iff_ne.1 A;omega
   refine aY (aB yP ?_);refine aB yP ?_;refine aB zW ?_;refine aB (qq2 (off':=0) IX KE) ?_;refine aB (qq2 (off':=2) EG DJ) ?_;refine aB (zX JF DJ (yR.at 0 rfl)) ?_;refine aX rfl (yS (H1:=[]) rfl rfl rfl rfl rfl (UR _ _ _ _) (fun _ _ _ _ h=>by cases h.1) ?_ (fun _ _ h=>by cases h.1));intro _ _ _ a1 a9;have O:=O.mono a1;have Z:=Z.mono a1;obtain⟨h,rfl⟩:=a9;cases h;refine Ej.JU ?_;refine Ej.keep (aS (eH (eH (eH dN)))) ?_;refine eF (H1:=[_,_,_]) (R1:=[]) (.inr (.inr ⟨_,rfl,rfl⟩)) rfl (a4E b1 b2 b3 t2.pos 40 _ _ _ _ _ _ _ _) ?_;rintro u2 I2 H2 a0 ⟨rfl,rfl⟩;have G:aZ s=(Cq.zero,t2.pos,40):=by unfold aZ;rw[hq];simp[a2]
   refine⟨rfl,dL (aS (aS (aS dN))) rfl rfl rfl rfl (yR.at 2 rfl) (yR.at 1 rfl) (yR.at 0 rfl) CP DT MR zZ rfl ?_⟩;rw[G];exact⟨⟨_,rfl,none,0,rfl,.inl rfl⟩,rfl⟩
  have a5:=EC A;have a2:t2.kind=0:=by have:=EC A;omega
  refine Cj.ks (Cj.sr (aB (zX CP zZ (yR.at 3 rfl)) ?_));refine aX rfl (zS 3 zZ (aF (aF (aF (aF (aF bI))))) (aN (aN (aN bM))) ?_);refine aX rfl (zS 2 AB (aF bI) (aN (aN bM)) ?_);refine aX rfl (zS 1 JJ (aF bI) (aN bM) ?_);refine J.ns (Cj.ret (eF (H1:=[]) (.inl rT) rfl (b4w b1 b2 b3 _) ?_));rintro u2 I2 H2 a0 ⟨rfl,rfl⟩;have Z:=Z.mono a0;have G:aZ s=(q,0,0):=by unfold aZ;rw[hq];simp[a2]
  refine⟨rfl,dL (aS (aS (aS (aS dN)))) rfl rfl rfl rfl (yR.at 3 rfl) (yR.at 2 rfl) (yR.at 1 rfl) CP DT MR zZ rfl ?_⟩;rw[G];exact⟨⟨_,rfl,pq,cq,rfl,Z⟩,rfl⟩
 skip
 refine J.pull Pull.z ?_;refine aX rfl (yS (H1:=[_]) rfl rfl rfl rfl rfl ((by have h:=b0k (4*s.length+9) b4 (dZ s 0).2 0 s (dZ s 0).1 (dQ s) _ (bP s) O hs (by have:=(bP s).len;omega) (by omega);rw[hq]at h;exact h)) (fun _ _ _ _ h=>by cases h.1) ?_ (fun _ _ h=>by cases h.1));intro _ _ _ a6 aa;have O:=O.mono a6;obtain⟨h,rfl⟩:=aa;cases h;refine Ej.JU ?_;refine eF (H1:=[_,_,_]) (R1:=[]) (.inr (.inr ⟨_,rfl,rfl⟩)) rfl (a4E b1 b2 b3 pe ee _ _ _ _ _ _ _ _) ?_;rintro u2 I2 H2 a0 ⟨rfl,rfl⟩;have G:aZ s=(Cq.zero,pe,ee):=by unfold aZ;rw[hq]
 refine⟨rfl,dL (aS (aS (aS dN))) rfl rfl rfl rfl (yR.at 2 rfl) (yR.at 1 rfl) (yR.at 0 rfl) CP DT MR zZ rfl ?_⟩;rw[G];exact⟨⟨_,rfl,none,0,rfl,.inl rfl⟩,rfl⟩
end Go.Proofs.YtojdemmgkdokmaaGreatDoor
namespace Ke
def closed (c:Nat):Prop:=(97≤c∧c≤122)∨(48≤c∧c≤57)∨((945≤c∧c≤969)∧c≠962)∨(1072≤c∧c≤1103)
instance (c:Nat):Decidable (closed c):=by unfold closed;infer_instance
theorem YQ{c}(h:closed c):okc c:=by unfold closed at h;unfold okc;omega
theorem b9V{c}(h:945≤c∧c≤969):tab.lookup c=none:=by
 have h1:∀k<25,tab.lookup (945+k)=none:=by decide +kernel
 have:=h1 (c-945) oM
 rwa [show 945+(c-945)=c by omega]at this
theorem c5K{c:Nat}(h:1072≤c∧c≤1103):tab.lookup c=none:=by
 have h1:∀k<32,tab.lookup (1072+k)=none:=by decide +kernel
 have:=h1 (c-1072) oM
 rwa [show 1072+(c-1072)=c by omega]at this
theorem b4k{c}(h:closed c):char c=enc c:=by
 unfold char;unfold closed at h
 by_cases h1:(97≤c∧c≤122)∨(48≤c∧c≤57)
 ·rw[zG h1]
 have h2:((945≤c∧c≤969)∧c≠962)∨(1072≤c∧c≤1103):=oM;rw[zF h1,zF oM,zF oM,zF oM];have h3:tab.lookup c=none:=by
  rcases h2 with h2|h2
  ·exact b9V h2.1
  exact c5K h2
 rw[h3];simp only;rw[zF oM,zG oM]
theorem b3E{c}(h:closed c):enc c≠[32]:=by
 intro A;have h1:=a9y (YQ h);rw[A]at h1;have h2:runes [32]=[32]:=kR;rw[h2]at h1;have:c=32:=(List.cons.inj h1).1.symm;unfold closed at h;omega
def b9K (s:Bs):Bool:=decide (encs (runes s)=s) && (runes s).all fun c=>decide (closed c)
theorem c5x:tab.all (fun p=>b9K p.2)=true:=by decide +kernel
theorem a7x:∀{l:List (Nat×Bs)} {c:Nat} {s:Bs},l.lookup c=some s→(c,s)∈l
 |[],_,_,h=>by cases h
 |(a,b)::r,c,s,h=>by
  rw[List.lookup_cons]at h
  split at h
  ·rename_i A
   have:=zC A;subst this;cases h;exact .head _
  exact .tail _ (a7x h)
theorem c1K c:char c=[32]∨∃l,char c=encs l∧∀d∈l,closed d:=by
 have one:∀d,closed d→∃l,enc d=encs l∧∀x∈l,closed x:=fun d hd=>⟨[d],by simp[encs],fun x A=>by simp at A;subst A;exact hd⟩;unfold char
 split
 ·rename_i h;exact .inr (one c (by unfold closed;omega))
 split
 ·exact .inr (one (c+32) (by unfold closed;omega))
 split
 ·exact .inl rfl
 split
 ·exact .inr ⟨[],rfl,fun _ h=>by cases h⟩
 split
 ·rename_i s hs
  have h1:=aK.1 c5x _ (a7x hs);simp only[b9K,aC,zH]at h1;exact .inr ⟨runes s,h1.1.symm,fun d hd=>zB (aK.1 h1.2 d hd)⟩
 split
 ·exact .inr (one 963 dE)
 split
 ·exact .inr (one c (by unfold closed;omega))
 split
 ·exact .inr (one (c+32) (by unfold closed;omega))
 exact .inl rfl
def NC (w:Bs):Prop:=∃l,w=encs l∧∀d∈l,closed d
theorem c1Z a b:encs (a++b)=encs a++encs b:=by simp[encs]
theorem a7t{a b}(h:NC a)(A:NC b):NC (a++b):=by
 obtain⟨l,rfl,h1⟩:=h;obtain⟨m,rfl,h2⟩:=A;exact⟨l++m,(c1Z l m).symm,fun d hd=>(aU.1 hd).elim (h1 d) (h2 d)⟩
theorem a1P:∀(l:List Nat) (w:Bs),NC w→∀x∈wf w l,NC x
 |[],w,hw,x,h=>by
  unfold wf at h
  split at h
  ·cases h
  simp at h;subst h;exact hw
 |c::r,w,hw,x,h=>by
  have h0:NC []:=⟨[],rfl,fun _ h=>by cases h⟩;unfold wf at h
  split at h
  ·split at h
   ·exact a1P r [] h0 x h
   rcases bF.1 h with rfl|h
   ·exact hw
   exact a1P r [] h0 x h
  rename_i G
  rcases c1K c with A|A
  ·exact absurd A G
  exact a1P r _ (a7t hw A) x h
theorem a1w s:∀x∈words s,NC x:=a1P _ _ ⟨[],rfl,fun _ h=>by cases h⟩
theorem b0z:∀(l:List Nat) (w:Bs) (r:List Nat),(∀d∈l,closed d)→wf w (l++r)=wf (w++encs l) r
 |[],w,r,_=>by simp[encs]
 |c::l,w,r,h=>by
  have A:=h c (.head _);show(if char c=[32]then _ else wf (w++char c) (l++r))=_;rw[b4k A,zF (b3E A),b0z l _ r fun d hd=>h d (.tail _ hd)];simp[encs]
theorem b6w{w}(h:NC w):∃l,w=encs l∧runes w=l∧∀d∈l,closed d:=by
 obtain⟨l,rfl,h1⟩:=h;exact⟨l,rfl,a7E l fun c A=>YQ (h1 c A),h1⟩
theorem a3k{w}(h:NC w)(A:w≠[]):words w=[w]:=by
 obtain⟨l,rfl,h2,h3⟩:=b6w h;unfold words;rw[h2];have:=b0z l [] [] h3;rw[bJ]at this;rw[this,bK];unfold wf;rw[zF A]
theorem a7V{c}(h:char c=[32]):∀(l:List Nat) (w:Bs) (r:List Nat),wf w (l++c::r)=wf w l++wf [] r
 |[],w,r=>by
  simp only[bK,wf,h,if_true]
  split<;>simp
 |d::l,w,r=>by
  simp only[dG,wf]
  split
  ·split
   ·exact a7V h l [] r
   rw[a7V h l [] r,dG]
  exact a7V h l _ r
theorem b5Z:char 32=[32]:=dE
theorem b8J c s t (h:c.toNat<128)(A:char c.toNat=[32]):words (s++c::t)=words s++words t:=by
 unfold words;rw[a9Y s (c::t) (ZF oM),b3L t h,a7V A]
theorem a8e:∀(l:List Bs),(∀w∈l,NC w∧w≠[])→words (join l)=l
 |[],_=>rfl
 |[a],h=>a3k (h a (.head _)).1 (h a (.head _)).2
 |a::b::r,h=>by
  show words (a++[32]++join (b::r))=_;rw[aQ,cO,b8J 32 a _ dE b5Z,a3k (h a (.head _)).1 (h a (.head _)).2,a8e (b::r) fun w A=>h w (.tail _ A)];rfl
theorem b0d{s w}(h:w∈words s):w≠[]∧words w=[w]:=
 ⟨a0j _ _ w h,a3k (a1w s w h) (a0j _ _ w h)⟩
end Ke
namespace Ke
theorem ofNat_toNat{k}(h:k<256):(eG k).toNat=k:=by simp;omega
theorem b2u{w}(h:digits w=true):NC w:=by
 induction w with
 |nil=>exact⟨[],rfl,fun _ h=>by cases h⟩
 |cons c r A=>
  rw[b3R,aC]at h;have G:=a4u.1 h.1;have h1:NC [c]:=⟨[c.toNat],by
   have:enc c.toNat=[c]:=by rw[enc1 oM];simp
   simp[encs,this],fun d hd=>by simp at hd;subst hd;unfold closed;omega⟩
  exact a7t h1 (A h.2)
end Ke
namespace Ke
def plainW (w:Bs):Bs:=if digits w then w.drop 2 else w
def a2y (k:Bs):Bs:=join ((words k).map plainW)
theorem b2R{w}(h:digits w=true):digits (strip w)=true:=by
 unfold strip;rw[a3E,aC];refine⟨aK.2 fun c A=>aK.1 h c ?_,aK.2 fun c A=>aK.1 h c (List.mem_of_mem_drop A)⟩;exact(List.dropLast_sublist _).subset ((List.dropWhile_sublist _).subset A)
theorem b0Q{w}(h:digits w=true):digits (number w)=true:=by
 unfold number;show digits ([_,_]++strip w)=true;rw[a3E,b2R h,dR];have hd:∀n,n<10→digit (eG (48+n))=true:=dE;simp only[digits,List.all_cons,List.all_nil,dR,aC];exact⟨hd _ oM,hd _ oM⟩
theorem a1S{w}(h:NC w)(A:w≠[]):NC (OB w)∧OB w≠[]:=by
 unfold OB
 split
 ·rename_i hd
  exact⟨b2u (b0Q hd),by unfold number;simp⟩
 exact⟨h,A⟩
theorem b0p s skip:words (KC s skip)=(words (cut s skip)).map OB:=by
 unfold KC;refine a8e _ fun x A=>?_;obtain⟨w,h,rfl⟩:=bQ.1 A;exact a1S (a1w _ w h) (b0d h).1
end Ke
namespace Ke
open Go.Lib (decodeL fieldsGoD fieldsD isSpaceR fieldsGoD_nil)
theorem b9A{c}(h:closed c):isSpaceR c=false:=by
 unfold closed at h;unfold isSpaceR;simp only[Bool.or_eq_false_iff,Bool.and_eq_false_iff,decide_eq_false_iff_not,beq_eq_false_iff_ne];omega
theorem a6X:∀(l:List Nat) (A t:Bs) (f:Nat),(∀d∈l,closed d)→opens t→(encs l++t).length<f→∃g,t.length<g∧fieldsGoD f A (encs l++t)=fieldsGoD g (A++encs l) t
 |[],A,t,f,_,_,hf=>⟨f,hf,by simp[encs]⟩
 |c::l,A,t,0,_,_,hf=>absurd hf (Nat.not_lt_zero _)
 |c::l,A,t,f+1,h,ht,hf=>by
  have G:=h c (.head _);have O:=a1X (YQ G);have e:encs (c::l)++t=enc c++(encs l++t):=by simp[encs]
  have Z:opens (encs l++t):=b6I (a7I l fun d hd=>YQ (h d (.tail _ hd))) ht;have hp:0<(enc c).length:=List.length_pos_iff.2 O.2;rw[e,bC]at hf;obtain⟨g,hg,he⟩:=a6X l (A++enc c) t f (fun d hd=>h d (.tail _ hd)) ht oM;refine⟨g,hg,?_⟩;rw[e]
  conv=>lhs;unfold fieldsGoD
  rw[zF (by intro h0;exact O.2 (List.append_eq_nil_iff.1 h0).1),a5H _ _ O.2 Z,a6g (YQ G)];dsimp only;rw[b9A G,zF dB,List.take_left,List.drop_left,he];simp[encs]
theorem b3b:∀(ws:List Bs) (f:Nat),(∀w∈ws,NC w∧w≠[])→(join ws).length<f→fieldsGoD f [] (join ws)=ws
 |[],f,_,_=>by rw[show join []=[] from rfl,fieldsGoD_nil,zG rfl]
 |[a],f,h,hf=>by
  obtain⟨⟨l,rfl,O⟩,A⟩:=h a (.head _);show fieldsGoD f [] (encs l)=_;have Z:(encs l++[]).length<f:=by rw[bJ];exact hf
  obtain⟨g,_,G⟩:=a6X l [] [] f O b0t Z;rw[bJ,bK]at G;rw[G,fieldsGoD_nil,zF A]
 |a::b::r,f,h,hf=>by
  obtain⟨⟨l,rfl,O⟩,A⟩:=h a (.head _);have e:join (encs l::b::r)=encs l++(32::join (b::r)):=by
   show encs l++[32]++join (b::r)=_;rw[aQ,cO]
  rw[e]at hf ⊢;obtain⟨g,hg,G⟩:=a6X l [] (32::join (b::r)) f O (ZF dE) hf;rw[G,bK]
  match g,hg with
  |g+1,hg=>
   rw[bG]at hg;have hd:decodeL (32::join (b::r))=(32,1):=Go.Lib.decodeL_ascii 32 _ dE
   conv=>lhs;unfold fieldsGoD
   rw[zF sI,hd];dsimp only;rw[show isSpaceR 32=true from rfl,zG rfl,zF A,List.drop_one,List.tail_cons,b3b (b::r) g (fun w hw=>h w (.tail _ hw)) oM];rfl
theorem b4x ws (h:∀w∈ws,NC w∧w≠[]):fieldsD (join ws)=ws:=b3b ws _ h oM
theorem b7l s skip:fieldsD (KC s skip)=words (KC s skip):=by
 rw[b0p];unfold KC;refine b4x _ fun x A=>?_;obtain⟨w,h,rfl⟩:=bQ.1 A;exact a1S (a1w _ w h) (b0d h).1
theorem a6i f (hf:∀w,(f w).length≤w.length):∀ws:List Bs,(join (ws.map f)).length≤(join ws).length
 |[]=>bW _
 |[a]=>hf a
 |a::b::r=>by
  have h1:=hf a;have h2:=a6i f hf (b::r);show(f a++[32]++join ((b::r).map f)).length≤(a++[32]++join (b::r)).length;simp only[bC,List.length_singleton];omega
theorem b7b w:(plainW w).length≤w.length:=by
 unfold plainW
 split
 ·rw[bT];omega
 exact bW _
def b2b (k:Bs):Prop:=k.length≤40000000∧fieldsD k=words k∧(a2y k).length≤40000000∧(join (words k)).length≤40000000
theorem c5M{s skip}(h:s.length≤4000000):b2b (KC s skip):=by
 have G:(cut s skip).length≤s.length:=by unfold cut;rw[bT];omega
 have h1:(KC s skip).length≤40000000:=by
  have:=a6p (cut s skip);unfold KC;omega
 have A:join (words (KC s skip))=KC s skip:=by rw[b0p];rfl
 refine⟨h1,b7l s skip,?_,by rw[A];exact h1⟩;have h2:=a6i plainW b7b (words (KC s skip));rw[A]at h2;unfold a2y;omega
end Ke
namespace Ix
open Ke
theorem b0w n:keyOf n []=[]:=by
 unfold keyOf;rw[zF (fun h=>absurd h.1 (by decide +kernel))];decide +kernel
theorem b3r{L}(h:MN L) n b:IZ L n b=(IZ L n []).filter fun k=>decide (¬k<b):=by
 refine a7p (a0s L n b) ((a0s L n []).filter _) fun k=>?_;rw[bU,WB h,WB h,zH];constructor
 ·rintro⟨h1,h2⟩;exact⟨⟨List.not_lt_nil k,h2⟩,h1⟩
 rintro⟨⟨_,h2⟩,h1⟩;exact⟨h1,h2⟩
theorem b8R s:∀(l:Row) (d:Bool),(pg s d l).length≤l.length+1
 |[],d=>by cases d<;>simp[pg]
 |x::r,true=>by rw[a2F];omega
 |x::r,false=>by
  have h1:=b8R s r false;have h2:pg s true r=r:=a2F s r;simp only[pg,h2]
  repeat' split
  all_goals simp only[bG];omega
theorem c4n l s:(put l s).length≤l.length+1:=by
 unfold put
 repeat' split
 all_goals first
  |exact b8R s l _
  |omega
theorem b2Z:∀(xs l:Row),(xs.foldl put l).length≤l.length+xs.length
 |[],l=>sI
 |x::r,l=>by
  have h1:=b2Z r (put l x);have h2:=c4n l x;rw[List.foldl_cons,bG];omega
end Ix
namespace Ix
open Ke
def rEq:Bs:=[61]
def c7G:Bs:=[61,61]
def rGe:Bs:=[62,61]
def c7F:Bs:=[97,110,121]
def c7A:Bs:=[97,108,108]
def keyed (L:Ix) (n:Bs) (ks:Row):List Rec:=ks.flatMap fun k=>LY L n (keyOf n (a2y k))
def b2z (L:Ix) (i r s:Bs) (t:Rec):Bool:=
 if r=rEq then(if i=a8s then decide (t∈LY L i (keyOf i s))else decide (t∈phrase L i (words s)))
 else if r=c7G then decide (t∈LY L i (keyOf i s))
 else if r=c7F then(words s).any fun w=>decide (t∈word L i w)
 else if r=c7A then !(words s).isEmpty && (words s).all fun w=>decide (t∈word L i w)
 else if r=rGe then decide (t∈keyed L i (IZ L i (keyOf i s)))
 else decide (t∈keyed L i ((IZ L i []).take ((IZ L i []).length-(IZ L i (keyOf i s)).length)))
def comb (k:Int) (a b:Bool):Bool:=if k=2 then a && b else if k=3 then a || b else a && !b
def c1k (L:Ix) (t:Rec) (k:Int) (i r x:Bs) (bs:List Bool):Bool:=if k=1 then b2z L i r x t else match bs with
 |[a,b]=>comb k a b
 |_=>false
def b6a (L:Ix) (t:Rec):Cq.Qs→List Bool
 | .nil=>[]
 | .cons k i r x ps rest=>c1k L t k i r x (b6a L t ps)::b6a L t rest
def sat (L:Ix) (q:Cq.Qn) (t:Rec):Bool:=c1k L t q.k q.i q.r q.t (b6a L t q.ps)
theorem b3d{L q t}(h:q.k=1):sat L q t=b2z L q.i q.r q.t t:=zG h
theorem b5q{L q a b t}(h:q.k≠1)(A:q.ps=a.push (b.push .nil)):sat L q t=comb q.k (sat L a t) (sat L b t):=by
 unfold sat c1k;rw[zF h,A];rfl
def a0X (L:Ix) (a b:Rec):Prop:=WJ L a<WJ L b∨(WJ L a=WJ L b∧IW a b=true)
theorem b0h L a:¬a0X L a a:=by
 rintro(h|⟨_,h⟩)
 ·exact List.lt_irrefl _ h
 rw[JI]at h;cases h
theorem b4D{L a b c}(h1:a0X L a b)(h2:a0X L b c):a0X L a c:=by
 rcases h1 with h1|⟨h1,h⟩<;>rcases h2 with h2|⟨h2,A⟩
 ·exact .inl (List.lt_trans h1 h2)
 ·exact .inl (h2▸h1)
 ·exact .inl (h1▸h2)
 exact .inr ⟨h1.trans h2,NU h A⟩
theorem b5x{α:Type}{r:α→α→Prop}(G:∀a,¬r a a)(O:∀{a b c},r a b→r b c→r a c):∀{l m:List α},l.Pairwise r→m.Pairwise r→(∀x,x∈l↔x∈m)→l=m
 |[],[],_,_,_=>rfl
 |[],b::m,_,_,h=>absurd ((h b).2 (.head _)) sI
 |a::l,[],_,_,h=>absurd ((h a).1 (.head _)) sI
 |a::l,b::m,hl,hm,h=>by
  rw[List.pairwise_cons]at hl hm;have Z:a=b:=by
   rcases bF.1 ((h a).1 (.head _))with e|h1
   ·exact e
   rcases bF.1 ((h b).2 (.head _))with e|h2
   ·exact e.symm
   exact absurd (O (hl.1 b h2) (hm.1 a h1)) (G a)
  subst Z
  congr 1
  refine b5x G O hl.2 hm.2 fun x=>⟨fun A=>?_,fun A=>?_⟩
  ·rcases bF.1 ((h x).1 (.tail _ A))with e|g
   ·exact absurd (e▸hl.1 x A) (G a)
   exact g
  rcases bF.1 ((h x).2 (.tail _ A))with e|g
  ·exact absurd (e▸hm.1 x A) (G a)
  exact g
theorem c2b{l m:List Rec}(A:l.Nodup)(h:∀x∈l,x∈m):l.length≤m.length:=by
 induction l generalizing m with
 |nil=>simp
 |cons a r ih=>
  rw[List.nodup_cons]at A;have G:=h a (.head _);have:=ih (m:=m.erase a) A.2 fun x O=>by
   have Z:x≠a:=fun e=>A.1 (e▸O);exact(List.mem_erase_of_ne Z).2 (h x (.tail _ O))
  rw[List.length_erase_of_mem G]at this;have h0:0<m.length:=List.length_pos_of_mem G;rw[bG];omega
def QI (L:Ix) (q:Cq.Qn) (l:List Rec):Prop:=l.Pairwise (a0X L)∧∀t,t∈l↔t∈L.map (·.1)∧sat L q t=true
theorem QI.eq{L q l m}(h1:QI L q l)(h2:QI L q m):l=m:=
 b5x (b0h L) b4D h1.1 h2.1 fun x=>(h1.2 x).trans (h2.2 x).symm
theorem QI.len{L q l}(h:QI L q l):l.length≤L.length:=by
 have hn:l.Nodup:=List.nodup_iff_pairwise_ne.2 (h.1.imp fun {a b} g e=>by subst e;exact b0h L a g);have hs:∀x∈l,x∈L.map (·.1):=fun x A=>((h.2 x).1 A).1;have:=c2b hn hs
 rwa [aA]at this
theorem a3f{L n k t}(h:t∈LY L n k):t∈L.map (·.1):=by
 unfold LY at h
 split at h
 ·cases h
 obtain⟨e,A,rfl⟩:=bQ.1 h;exact dA (bU.1 A).1
theorem a4A{L n w t}(h:t∈phrase L n w):t∈L.map (·.1):=by
 unfold phrase at h
 split at h
 ·cases h
 obtain⟨e,A,rfl⟩:=bQ.1 h;exact dA (bU.1 A).1
theorem a8C{L n s t}(h:t∈word L n s):t∈L.map (·.1):=by
 unfold word at h
 split at h
 ·exact a4A h
 cases h
theorem c2a{L n ks t}(h:t∈keyed L n ks):t∈L.map (·.1):=by
 obtain⟨k,_,h⟩:=List.mem_flatMap.1 h;exact a3f h
theorem c5f{L i r s t}(h:b2z L i r s t=true):t∈L.map (·.1):=by
 unfold b2z at h
 split at h
 ·split at h
  ·exact a3f (zB h)
  exact a4A (zB h)
 split at h
 ·exact a3f (zB h)
 split at h
 ·obtain⟨w,_,h⟩:=dH.1 h;exact a8C (zB h)
 split at h
 ·rw[aC]at h;cases hw:words s with
  |nil=>rw[hw]at h;simp at h
  |cons a r=>rw[hw]at h;exact a8C (zB (aK.1 h.2 a (.head _)))
 split at h<;>exact c2a (zB h)
theorem c2o{n k vs}:hasK n k vs=true↔∃v∈vs,v.name=n∧v.key=k:=by
 unfold hasK;rw[dH];constructor
 ·rintro⟨v,h,g⟩;rw[aC,zH,zH]at g;exact⟨v,h,g.1,g.2⟩
 rintro⟨v,h,A,G⟩;exact⟨v,h,by rw[aC,zH,zH];exact⟨A,G⟩⟩
end Ix
namespace Ix
open Ke
def TOK (L:Ix):Prop:=∀e∈L,∀v∈e.2,v.text.length≤4000000
theorem b4B{L}(hs:MN L){n b k}(h:k∈IZ L n b):∃e∈L,∃v∈e.2,v.name=n∧v.key=k:=by
 obtain⟨_,h2⟩:=(WB hs).1 h;obtain⟨e,A,G⟩:=(a2Q hs).1 h2;obtain⟨_,O⟩:=ZN.1 G;obtain⟨v,Z,h5,h6⟩:=c2o.1 O;exact⟨e,A,v,Z,h5,h6⟩
theorem TOK.key{L}(h:TOK L)(hs:MN L){n b k}(A:k∈IZ L n b):b2b k:=by
 obtain⟨e,G,v,O,_,rfl⟩:=b4B hs A;exact c5M (h e G v O)
theorem b3n L n k:(LY L n k).length≤L.length:=by
 unfold LY
 split
 ·exact dF _
 rw[aA];exact List.length_filter_le _ _
theorem b7R{L n s most}(h:(IZ L n (keyOf n s)).length≤most.toNat):(scan L n s most).map (·.1)=IZ L n (keyOf n s):=by
 unfold scan;rw[List.take_of_length_le h,List.map_map];exact List.map_id _
end Ix
namespace Go.Proofs.YtojdemmgkdokmaaGreatDoor
open _root_.Go.Proofs.Tryz
open Go Go.Sx
def MW (I:Heap):Prop:=∀w:World,(∀b o,I b=some o→w.heap[b]?=some o)→Lib.TabIs aI w "strings.asciiSpace" .u8 Lib.asciiSpaceTab∧Lib.WhiteTab 3 w
theorem MW.mono{I A}(h:MW I)(G:Le I A):MW A:=fun w O=>h w fun b o Z=>O b o (G b o Z)
theorem b8E s ws (hf:Lib.fieldsD s=ws)(hs:s.length≤4000000000) I (A:MW I):yT aI 259 [str s] I [] (fun e _ H'=>∃b sp,e= .returned (.slice (some ⟨b,0,none⟩) ws.length ws.length)∧H'=[(b,yY 9 (ws.map str++sp))]):=
 yT.c3W (vals:=ws.map fun x=>Value.string ⟨x.toArray⟩) rfl (Enters.of func259 dE rfl) fun w G=>by
  have h:=Tryz.strings_Fields_any ⟨s.toArray⟩ w (by rw[size_mk];omega) (A w G).1 (A w G).2;rw[show(⟨s.toArray⟩:ByteArray).data.toList=s by simp,hf]at h;exact h
def YB (ws:List (List UInt8)) (i:Nat):List (List UInt8):=(ws.take i).map Ke.plainW++ws.drop i
theorem b3g ws i:(YB ws i).length=ws.length:=by
 unfold YB;rw[bC,aA,aT,bT];omega
theorem c1E{ws i x}(h:ws[i]?=some x):(YB ws i)[i]?=some x:=by
 have A:=(aJ.1 h).1;unfold YB;rw[List.getElem?_append_right (by rw[aA,aT];omega),aA,aT,bV (Nat.le_of_lt A),Nat.sub_self,List.getElem?_drop];exact h
theorem c1r{ws i x}(h:ws[i]?=some x) sp:((YB ws i).map str++sp).set i (str (Ke.plainW x))=(YB ws (i+1)).map str++sp:=by
 obtain⟨A,hg⟩:=aJ.1 h;rw[List.set_append_left _ _ (by rw[aA,b3g];exact A),List.map_set.symm]
 congr 2
 unfold YB;rw[List.set_append_right _ _ (by rw[aA,aT];omega),aA,aT,bV (Nat.le_of_lt A),Nat.sub_self,←bY A,List.set_cons_zero,aH A,hg,aV,aQ];rfl
theorem c4G{ws i x}(h:ws[i]?=some x)(G:Ke.plainW x=x):YB ws i=YB ws (i+1):=by
 obtain⟨A,hg⟩:=aJ.1 h;unfold YB;rw[←bY A,aH A,hg,aV,aQ];show _=_++([Ke.plainW x]++_);rw[G];rfl
theorem c0O k (hk:Ke.b2b k) I (hT:MW I):Pure aI 202 [str k] I (str (Ke.a2y k)):=by
 refine yT.toPure ?_;have ab:=hk.1;have ac:=Ke.TY k;have ad:=hk.2.2.1;refine yT.ob func202 ?_;intro w0 _;refine Cj.sr (aB yQ ?_);refine J.yV (aB yP ?_);refine aX rfl (yS (H1:=[]) rfl rfl rfl rfl rfl (b8E k (aG k) hk.2.1 oM _ hT) ?_ (fun _ _ _ _ ⟨_,_,h,_⟩=>by cases h) (fun _ _ ⟨_,_,h,_⟩=>by cases h));intro _ _ _ _ a5;obtain⟨O,a2,h,rfl⟩:=a5;cases h;refine aB yQ ?_;refine J.AO (aY (aB yP ?_));refine aB (AU AP) ?_;refine aB yP ?_;refine J.ns (Cj.block (Cj.loop (ι:=Nat) (fun i=>i≤(aG k).length) (fun i=>(aG k).length-i) (fun i=>[(3,.slice (some ⟨O,0,none⟩) (aG k).length (aG k).length),(8,.slice (some ⟨O,0,none⟩) (aG k).length (aG k).length),(9,i64 ((aG k).length:Int)),(10,i64 (i:Int))]) (fun i=>_) (fun i=>[(O,yY 9 ((YB (aG k) i).map str++a2))]) 0 (dF _) rT rfl (by unfold YB;simp) ?_));rintro i _;have a6:=b3g (aG k) i;refine Cj.sr (aB BM ?_);refine J.nss (Cj.cond rfl (fun Z=>?_) (fun Z=>?_))
 ·have a3:=BH Z;have a7:i<(aG k).length:=oM;obtain⟨x,A⟩:∃x,(aG k)[i]?=some x:=⟨_,DX a7⟩;have a8:=FB A;have ae:=Ke.a0Y _ x a8;refine Cj.ks (Cj.seq (Cj.block (Cj.sr (aB yP ?_))));refine aB (BG (off':=i) AP zL) ?_;refine aB (EN BX (yR.at 0 rfl) (JO (c1E A))) ?_;refine aB yQ ?_;refine aB yQ ?_;refine J.yV (aB yP ?_);refine aX rfl (yU rfl rfl rfl rfl rfl (b5L x oM _) ?_);refine aB (ED rfl rfl rfl) ?_;refine J.eqv 17 rfl (show _= .bool (Ke.digits x) from(zD Value.bool (Ke.a5W x))) ?_;refine J.cd (fun G=>?_) (fun G=>?_)
  ·refine aY (aB yP ?_);refine aB yP ?_;refine aB yP ?_;refine aB yP ?_;refine aB (GK BF) ?_;refine aB (LV rfl rfl rfl) ?_;refine J.eqv 23 rfl (show _=i64 ((min 2 x.length:Nat):Int) from(zD i64 oM)) ?_;refine aB (CY (p:=min 2 x.length) (q:=x.length) rfl rfl BF ⟨_,rfl⟩ rfl oM oM) ?_;refine J.eqv 24 rfl (show _=str (Ke.plainW x) from(by rw[dI];unfold Ke.plainW;rw[zG G];congr 1;rcases Nat.le_total 2 x.length with h|h;rw[bV h];rw[Nat.min_eq_right h,dJ,List.drop_eq_nil_of_le h])) ?_;refine aB (BG (off':=i) AP zL) ?_;refine aX rfl (MK 0 rfl rfl rfl rfl rfl rfl zL rfl (.inl rfl) (by rw[bC,aA,a6];omega) bM ?_);refine J.nb (aY (aB (yZ rfl rfl rfl (AA oM)) ?_));refine aB yP ?_;refine J.nil (Ej.round (i+1) oM oM rT rfl (by rw[c1r A];rfl))
  have a9:Ke.plainW x=x:=by unfold Ke.plainW;rw[G];rfl
  refine Cj.kb (aY (aB (yZ rfl rfl rfl (AA oM)) ?_));refine aB yP ?_;refine J.nil (Ej.round (i+1) oM oM rT rfl (by rw[c4G A a9]))
 have a3:=BN Z;refine Cj.xl (Cj.seq (Cj.b0Z rfl (fun a4=>?_)));refine Cj.persist (a4 _ (.head _)) (fun I9 _ a0=>?_);have aa:i=(aG k).length:=oM;have a1:YB (aG k) i=(aG k).map Ke.plainW:=by rw[aa];unfold YB;rw[dI,dJ,bJ]
 rw[a1]at a0;have hv:JX 9 I9 ((aG k).map Ke.plainW) (.slice (some ⟨O,0,none⟩) (aG k).length (aG k).length):= .inr ⟨O,_,a2,by rw[aA],by rw[aA];exact bW _,a0⟩;refine aY (aB yP ?_);refine aX rfl (yU rfl rfl rfl rfl rfl (a5n ((aG k).map Ke.plainW) _ (by rw[aA];omega) (by show(Ke.a2y k).length≤_;omega) _ hv) ?_);refine aB yQ ?_;refine J.ns (Cj.ret (zN ?_));exact rT
end Go.Proofs.YtojdemmgkdokmaaGreatDoor
namespace Go.Proofs.YtojdemmgkdokmaaGreatDoor
open Go Go.Sx
def JQ (m:ML aO) (k:Nat) (S:aO→Bool):Prop:=MS m k∧∀t,BK m t=if S t=true then some (.bool true)else none
def NM (I:Heap) (v:Value) (S:aO→Bool):Prop:=(v= .map none∧∀t,S t=false)∨∃b m k,v= .map (some b)∧JQ m k S∧I b=some (BD BI m k)
def a0P (v:Value) (S:aO→Bool) (H:HL):Prop:=∃b m k,v= .map (some b)∧JQ m k S∧H=[(b,BD BI m k)]
theorem NM.mono{I A v S}(h:NM I v S)(G:Le I A):NM A v S:=
 h.imp id fun⟨b,m,k,h1,h2,h3⟩=>⟨b,m,k,h1,h2,G _ _ h3⟩
theorem NM.shape{I v S}(h:NM I v S):∃o,v= .map o:=h.elim (fun g=>⟨none,g.1⟩) fun⟨b,_,_,g,_⟩=>⟨some b,g⟩
def VQ (l:List aO) (t:aO):Bool:=decide (t∈l)
theorem JQ.nil:JQ [] 0 (VQ []):=⟨MS.nil,fun t=>by rw[show VQ [] t=false from zJ sI];rfl⟩
theorem JQ.congr{m k S A}(h:JQ m k S)(G:∀t,S t=A t):JQ m k A:=⟨h.1,fun t=>by rw[←G t];exact h.2 t⟩
theorem JQ.add{m k S A}(h:JQ m k S) u (G:∀t,A t=(t == u || S t)):JQ (BU m u (.bool true) k) (FI m u k) A:=by
 refine⟨h.1.set u _,fun t=>?_⟩;rw[NT,G t]
 by_cases ht:(t == u)=true
 ·rw[zG ht,ht];rfl
 rw[zF ht,h.2 t,Bool.eq_false_iff.2 ht];rfl
theorem JQ.push{m k l}(h:JQ m k (VQ l)) u:JQ (BU m u (.bool true) k) (FI m u k) (VQ (l++[u])):=h.add u fun t=>by
 unfold VQ;rw[aP,aW,zH,zH,aU,bD,beq_iff_eq];exact Or.comm
theorem JQ.get{m k S}(h:JQ m k S) t:(BK m t).getD (.bool false)= .bool (S t):=by
 rw[h.2 t];cases S t<;>rfl
theorem JQ.mem{m k S}(h:JQ m k S) t:t∈m.map (·.1)↔S t=true:=by
 have h1:=h.2 t;constructor
 ·intro A;cases hs:S t with
  |true=>rfl
  |false=>
   rw[hs,zF dB]at h1;exact absurd A (JH.1 h1)
 intro hs;rw[zG hs]at h1;refine Classical.byContradiction fun hn=>?_;rw[JH.2 hn]at h1;cases h1
theorem JQ.empty{m k S}(h:JQ m k S)(h0:m.length=0) t:S t=false:=by
 have A:m=[]:=List.length_eq_zero_iff.1 h0;cases hs:S t with
 |false=>rfl
 |true=>have:=(h.mem t).2 hs;rw[A]at this;cases this
theorem JQ.len{m k S}(h:JQ m k S){l:List aO}(A:∀t,S t=true→t∈l):m.length≤l.length:=by
 have:=a0h (l:=m.map (·.1)) (m:=l) h.1.1 fun t G=>A t ((h.mem t).1 G)
 rwa [aA]at this
def a1b (vis:ML aO) (P:aO→Bool) (t:aO):Bool:=decide (t∈vis.map (·.1)) && P t
theorem b9J{vis P x}(h:P x.1=true) t:a1b (vis++[x]) P t=(t == x.1 || a1b vis P t):=by
 unfold a1b;rw[aP,aW,aC,aC,zH,zH,beq_iff_eq,aV,aU,cZ,dD,bD];constructor
 ·rintro⟨h1|h1,h2⟩
  ·exact .inr ⟨h1,h2⟩
  exact .inl h1
 rintro(rfl|⟨h1,h2⟩)
 ·exact⟨.inr rfl,h⟩
 exact⟨.inl h1,h2⟩
theorem c1p{vis P x}(h:P x.1=false) t:a1b (vis++[x]) P t=a1b vis P t:=by
 unfold a1b;rw[aP,aC,aC,zH,zH,aV,aU,cZ,dD,bD];constructor
 ·rintro⟨h1|h1,h2⟩
  ·exact⟨h1,h2⟩
  rw[h1,h]at h2;cases h2
 rintro⟨h1,h2⟩;exact⟨.inl h1,h2⟩
theorem b8t{vis m k S P}(h:JQ m k S)(A:vis.Perm m) t:a1b vis P t=(S t && P t):=by
 unfold a1b
 congr 1
 rw[aP,zH,(A.map _).mem_iff,h.mem]
def a0T (vis:ML aO) (A:aO→Bool) (t:aO):Bool:=A t || decide (t∈vis.map (·.1))
theorem a8m{vis A x} t:a0T (vis++[x]) A t=(t == x.1 || a0T vis A t):=by
 unfold a0T;rw[aP,aW,aW,aW,zH,zH,beq_iff_eq,aV,aU,cZ,dD,bD];constructor
 ·rintro(h|h|h)
  ·exact .inr (.inl h)
  ·exact .inr (.inr h)
  exact .inl h
 rintro(h|h|h)
 ·exact .inr (.inr h)
 ·exact .inl h
 exact .inr (.inl h)
theorem b0v{vis m k S A}(h:JQ m k S)(G:vis.Perm m) t:a0T vis A t=(A t || S t):=by
 unfold a0T
 congr 1
 rw[aP,zH,(G.map _).mem_iff,h.mem]
abbrev LR:=List aO×Value
abbrev lrC (x:LR):List Value:=[x.2]
def LLS (I:Heap) (l:List LR) (v:Value):Prop:=zY lrC I l v∧∀x∈l,zY recC I x.1 x.2
theorem LLS.mono{I G l v}(h:LLS I l v)(A:Le I G):LLS G l v:=⟨h.1.mono A,fun x O=>(h.2 x O).mono A⟩
theorem a4l{ls:List LR}{A G:List Value}{lo}(h:A.drop lo=ls.flatMap lrC++G){i x}(Z:ls[i]?=some x):A[lo+i]?=some x.2:=by
 have O:=GU (f:=lrC) (n:=1) (fun _=>rfl) h Z 0 Nat.zero_lt_one;rw[Nat.mul_one,Nat.add_zero]at O;exact O
theorem c4K{l:List LR}{i x}(h:l[i]?=some x):(l.take (i+1)).flatMap (·.1)=(l.take i).flatMap (·.1)++x.1:=by
 obtain⟨A,hg⟩:=aJ.1 h;rw[aH A,hg,List.flatMap_append];simp
theorem c1j{l:List aO}{i x}(h:l[i]?=some x) P:P++l.take (i+1)=(P++l.take i)++[x]:=by
 obtain⟨A,hg⟩:=aJ.1 h;rw[aH A,hg,aQ]
theorem RS{α:Type}{f:α→List Value}{I:Heap}{l:List α}{v:Value}(h:zY f I l v):∃p c,v= .slice p l.length c:=let ⟨p,c,h1,_⟩:=h;⟨p,c,h1⟩
def QB (I:Heap) (v:Value) (L:Ix.Ix):Prop:=(v= .pointer none∧L=[])∨∃ib,v=ptr ib 0∧UW I ib L
theorem QB.mono{I A v L}(h:QB I v L)(G:Le I A):QB A v L:=h.imp id fun⟨O,h1,h2⟩=>⟨O,h1,h2.mono G⟩
theorem QB.LD{I v L}(h:QB I v L):Ix.MN L:=by
 rcases h with⟨_,rfl⟩|⟨A,_,h⟩
 ·exact List.Pairwise.nil
 exact h.LD
theorem QB.big{I v L}(h:QB I v L):L.length≤100000:=by
 rcases h with⟨_,rfl⟩|⟨A,_,h⟩
 ·exact dF _
 exact h.big
theorem a9k{l}(h:∀t,t∈l→t∈([]:Ix.Ix).map (·.1)):l=[]:=List.eq_nil_iff_forall_not_mem.2 fun t A=>by have:=h t A;cases this
theorem c2r A L n s (hs:s.length≤100000000) I (h:QB I A L):yT aI 201 [A,str n,str s] I [] (fun e _ H'=>∃v,e= .returned v∧a3P (Ix.word L n s) v H'):=by
 rcases h with⟨rfl,rfl⟩|⟨G,rfl,h⟩
 ·refine(c2T n s hs I).mono fun e _ H' _ ⟨h1,h2⟩=>⟨_,h1,?_⟩;rw[a9k fun t O=>Ix.a8C (L:=[]) O,h2];exact a5o
 exact c4q G L n s hs I h
theorem b6Q A L n s (hs:s.length≤100000000) I (h:QB I A L):yT aI 131 [A,str n,str s] I [] (fun e _ H'=>∃v,e= .returned v∧a3P (Ix.phrase L n (aG s)) v H'):=by
 rcases h with⟨rfl,rfl⟩|⟨G,rfl,h⟩
 ·refine(b6y n s hs I).mono fun e _ H' _ ⟨h1,h2⟩=>⟨_,h1,?_⟩;rw[a9k fun t O=>Ix.a4A (L:=[]) O,h2];exact a5o
 exact c0j G L n s hs I h
theorem b4P A L n s (hs:s.length≤100000000) I (h:QB I A L):yT aI 129 [A,str n,str s] I [] (fun e _ H'=>∃v,e= .returned v∧a3P (Ix.LY L n (Ix.keyOf n s)) v H'):=by
 rcases h with⟨rfl,rfl⟩|⟨G,rfl,h⟩
 ·refine(c5R n s I).mono fun e _ H' _ ⟨h1,h2⟩=>⟨_,h1,?_⟩;rw[a9k fun t O=>Ix.a3f (L:=[]) O,h2];exact a5o
 exact c6v G L n s hs I h
theorem a6Y A L n s (hs:s.length≤100000000) most I (h:QB I A L):yT aI 138 [A,str n,str s,i64 most] I [] (fun e _ H'=>∃v,e= .returned v∧b6i (Ix.scan L n s most) v H'):=by
 rcases h with⟨rfl,rfl⟩|⟨G,rfl,h⟩
 ·refine(c2n n s most I).mono fun e _ H' _ ⟨h1,h2⟩=>⟨_,h1,.inl ⟨?_,rfl,h2⟩⟩;unfold Ix.scan Ix.IZ;simp
 exact c3Y G L n s hs most I h
theorem c2P A L t I (h:QB I A L):Pure aI 44 [A,BI t] I (str (Ix.WJ L t)):=by
 rcases h with⟨rfl,rfl⟩|⟨G,rfl,h⟩
 ·exact c0S t I
 exact c2B G L t I h
