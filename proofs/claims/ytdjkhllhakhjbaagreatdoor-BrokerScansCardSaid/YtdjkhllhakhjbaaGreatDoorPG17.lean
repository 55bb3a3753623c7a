/-
  Own texts on the laws of the seat, joined: the logic, and contracts of functions. Conditions: none.
-/
import Derived.Test.YtdjkhllhakhjbaaGreatDoorNmG
import Derived.Test.YtdjkhllhakhjbaaGreatDoorPG16
import Derived.Lib.FieldsU
set_option linter.all false
set_option maxRecDepth 100000
set_option maxHeartbeats 40000000
open List renaming length_map -> aA,take_succ_eq_append_getElem -> aH,getElem?_eq_some_iff -> aJ,all_eq_true -> aK,append_assoc -> aQ,length_take -> aT,mem_append -> aU,map_append -> aV,length_append -> bC,mem_singleton -> bD,mem_cons -> bF,length_cons -> bG,append_nil -> bJ,nil_append -> bK,mem_map -> bQ,length_drop -> bT,mem_filter -> bU,getElem_cons_drop -> bY,singleton_append -> cO,map_cons -> cZ,mem_map_of_mem -> dA,map_nil -> dD,cons_append -> dG,any_eq_true -> dH,take_length -> dI,drop_length -> dJ
open Go.Sx.J renaming z -> aB,op -> aX
open Bool renaming and_eq_true -> aC,eq_iff_iff -> aP,or_eq_true -> aW,false_ne_true -> dB,and_true -> dR
open Go.Sx.EW renaming c -> aF,z -> bI
open Ke renaming words -> aG
open Go.Proofs.Tryz renaming prog -> aI
open Go.Sx.DZ renaming s -> aN,z -> bM
open Ix renaming Rec -> aO
open Go.Sx.Keeps renaming d -> aS,n -> dN,k -> eH
open Go.Sx.Cj renaming region -> aY
open Cq renaming parse -> aZ,Tok -> bZ,Cur -> dK,tokens -> dQ,query -> dU,lex -> dZ
open Nat renaming le_of_ble_eq_true -> bH,min_eq_left -> bV,le_refl -> bW,zero_le -> dF
open Cq.Cur renaming start -> bP
open Go.Sx.a4e renaming c5h -> dL
open Go.Sx.Le renaming refl -> dM
open Go.Sx.KP renaming none -> dP
open Go.Sx.JA renaming tk -> dS
open Go.Sx.UZ renaming recover -> dV
open Go.Sx.HSub renaming c -> dW,n -> dX
open Go.Sx.CSub renaming n -> dY
open Go.Sx.Ej renaming leave -> eF
open UInt8 renaming ofNat -> eG
namespace Go.Proofs.YtdjkhllhakhjbaaGreatDoor
open _root_.Go.Proofs.Tryz
open Go Go.Sx
def NP (pb:Nat) (s:List UInt8) (deep:Nat) (res:Cq.Res):Ending→Heap→HL→Prop:=fun e I' H'=>
 match res with
 | .ok q ts2=>∃v i2 t2,e= .returned v∧QV I' q v∧H'=PH pb s i2 t2 deep∧dK s i2 t2 ts2
 | .err p er=>e= .panicked (a4f p er)∧H'=[]
def b0Q (f:Nat):Prop:=∀(pb i deep:Nat) (s:List UInt8) (t:bZ) (ts:List bZ) (I:Heap),dK s i t ts→Tabs I→s.length≤1000000000→2*ts.length+1≤f→deep≤50→
 yS aI 139 [ptr pb 0] I (PH pb s i t deep) (NP pb s deep (Cq.clause f deep ts))
def a6R (f:Nat):Prop:=∀(pb i deep:Nat) (s:List UInt8) (t:bZ) (ts:List bZ) (I:Heap),dK s i t ts→Tabs I→s.length≤1000000000→2*ts.length+2≤f→deep≤50→
 yS aI 95 [ptr pb 0] I (PH pb s i t deep) (NP pb s deep (dU f deep ts))
def b6s (f:Nat):Prop:=∀(pb i deep:Nat) (s:List UInt8) (t:bZ) (r:List bZ) (I:Heap),dK s i t (t::r)→Tabs I→s.length≤1000000000→2*r.length+2≤f→deep≤50→Cq.lp t=true→
 yS aI 194 [ptr pb 0] I (PH pb s i t deep) (NP pb s deep (Cq.clause (f+1) deep (t::r)))
theorem b5y (f : Nat) (ih : a6R f) : b6s f := by
 intro pb i deep s t r I hcur ht hs hf hd hlp
 obtain ⟨hi, hcur2⟩ := hcur.next (Cq.a8j hlp)
 refine yS.ob func194 ?_
 intro w0 hw0
 refine Cj.sr (J.op rfl (CU QX ?_))
 intro b1 hb1
 refine J.yX (J.z yP ?_)
 refine J.z zQ ?_
 refine J.z (qq2 (off' := 5) IG BO) ?_
 refine J.z (yV FY (yR.at 1 rfl)) ?_
 refine J.z (yY rfl rfl rfl (zV (by omega))) ?_
 refine J.eqv 8 rfl (show _ = i64 ((deep + 1 : Nat) : Int) from (by simp)) ?_
 refine J.z zQ ?_
 refine J.z (qq2 (off' := 5) IG BO) ?_
 refine J.op rfl (AB 1 BO (EW.s (EW.s (EW.s (EW.s (EW.s (EW.c EW.z)))))) (DZ.s DZ.z) ?_)
 refine J.zX (Cj.region (J.z yP ?_))
 refine J.z zQ ?_
 refine J.z (qq2 (off' := 5) IG BO) ?_
 refine J.z (yV FY (yR.at 1 rfl)) ?_
 refine J.z (NV rfl rfl rfl) ?_
 refine J.cd (fun hc2 => ?_) (fun hc2 => ?_)
 ·have hc2p := BH hc2
  refine Cj.region (J.z yP ?_)
  refine J.z yP ?_
  refine J.z zQ ?_
  refine J.z (qq2 (off' := 0) IG JV) ?_
  refine J.z (qq2 (off' := 2) DX CJ) ?_
  refine J.z (zW IX CJ (yR.at 1 rfl)) ?_
  refine J.op rfl (yT (H1 := []) rfl rfl rfl rfl rfl (SH _ _ _ _) (fun _ _ _ _ h => by cases h.1) ?_ (fun _ _ h => by cases h.1))
  intro v3 I4 H5 hle6 hp7
  have ht := ht.mono hle6
  obtain ⟨h, rfl⟩ := hp7; cases h
  refine Ej.b2h ?_
  refine Ej.bare ?_
  refine Ej.pan rfl ?_
  show NP pb s deep (Cq.clause (f + 1) deep (t :: r)) _ _ _
  have hev : Cq.clause (f + 1) deep (t :: r) = .err t.pos 41 := by simp [Cq.clause, hlp]; omega
  rw [hev]
  exact ⟨rfl, rfl⟩
 have hc2p := BJ hc2
 refine Cj.ks (Cj.sr (J.z yP ?_))
 refine J.z zQ ?_
 refine J.z (qq2 (off' := 0) IG JV) ?_
 refine J.pull (Pull.s Pull.z) ?_
 refine J.op rfl (yT (H1 := [_]) rfl rfl rfl rfl rfl (scan_ok _ _ s _ _ _ _ _ hi hs _) ?_ (fun _ _ _ _ h => by cases h.1) (fun _ _ h => by cases h.1))
 intro v8 I9 H10 hle11 hp12
 have ht := ht.mono hle11
 obtain ⟨h, rfl⟩ := hp12; cases h
 refine J.yX (J.z yP ?_)
 rcases hq : Cq.query f (deep + 1) r with ⟨q, ts2⟩ | ⟨pe, ee⟩
 ·skip
  refine J.pull Pull.z ?_
  refine J.op rfl (yT (H1 := [_]) rfl rfl rfl rfl rfl ((by have h := ih pb (Cq.lex s i).2 (deep + 1) s (Cq.lex s i).1 r _ hcur2 ht hs hf (by omega); rw [hq] at h; exact h)) ?_ (fun _ _ _ _ h => by obtain ⟨_, _, _, h, _⟩ := h; cases h) (fun _ _ h => by obtain ⟨_, _, _, h, _⟩ := h; cases h))
  intro v13 I14 H15 hle16 hp17
  have ht := ht.mono hle16
  obtain ⟨vq, i2, t2, h, ⟨pq, cq, rfl, hps⟩, rfl, hcur3⟩ := hp17; cases h
  obtain ⟨r2, rfl⟩ := hcur3.cons
  refine J.op rfl (CU QX ?_)
  intro b18 hb18
  refine J.op rfl (AB 0 CX (EW.c (EW.c (EW.c (EW.c (EW.c EW.z))))) DZ.z ?_)
  refine J.zX (Cj.region (J.z yP ?_))
  refine J.z zQ ?_
  refine J.z (qq2 (off' := 0) IG JV) ?_
  refine J.pull (Pull.s Pull.z) ?_
  refine J.op rfl (yT (H1 := [_]) rfl rfl rfl rfl rfl (c4R pb s i2 t2 (deep + 1) [41] _) ?_ (fun _ _ _ _ h => by cases h.1) (fun _ _ h => by cases h.1))
  intro v19 I20 H21 hle22 hp23
  have ht := ht.mono hle22
  have hps := hps.mono hle22
  obtain ⟨h, rfl⟩ := hp23; cases h
  refine J.z (ER rfl rfl) ?_
  refine J.cd (fun hc24 => ?_) (fun hc24 => ?_)
  ·have hrp : Cq.rp t2 = false := by have h := hc24; rw [Bool.not_eq_true'] at h; exact h
   refine Cj.region (J.z yP ?_)
   refine J.z yP ?_
   refine J.z zQ ?_
   refine J.z (qq2 (off' := 0) IG JV) ?_
   refine J.z (qq2 (off' := 2) DX CJ) ?_
   refine J.z (zW IX CJ (yR.at 0 rfl)) ?_
   refine J.op rfl (yT (H1 := []) rfl rfl rfl rfl rfl (SH _ _ _ _) (fun _ _ _ _ h => by cases h.1) ?_ (fun _ _ h => by cases h.1))
   intro v25 I26 H27 hle28 hp29
   have ht := ht.mono hle28
   have hps := hps.mono hle28
   obtain ⟨h, rfl⟩ := hp29; cases h
   refine Ej.b2h ?_
   refine Ej.bare ?_
   refine Ej.pan rfl ?_
   show NP pb s deep (Cq.clause (f + 1) deep (t :: r)) _ _ _
   have hev : Cq.clause (f + 1) deep (t :: r) = .err t2.pos 40 := by simp only [Cq.clause, hlp, if_true, hq, hrp]; rw [if_neg (by omega)]; rfl
   rw [hev]
   exact ⟨rfl, rfl⟩
  have hrp : Cq.rp t2 = true := by have h := hc24; simpa [Cq.rp] using h
  obtain ⟨hi2, hcur4⟩ := hcur3.next (Cq.b3K hrp)
  refine Cj.ks (Cj.sr (J.z yP ?_))
  refine J.z zQ ?_
  refine J.z (qq2 (off' := 5) IG BO) ?_
  refine J.z (yV FY (yR.at 0 rfl)) ?_
  refine J.z (EP rfl rfl rfl (zV (by omega))) ?_
  refine J.eqv 45 rfl (show _ = i64 (deep : Int) from (by congr 1; omega)) ?_
  refine J.z zQ ?_
  refine J.z (qq2 (off' := 5) IG BO) ?_
  refine J.op rfl (AB 0 BO (EW.s (EW.s (EW.s (EW.s (EW.s (EW.c EW.z)))))) DZ.z ?_)
  refine J.yX (J.z yP ?_)
  refine J.z zQ ?_
  refine J.z (qq2 (off' := 0) IG JV) ?_
  refine J.pull Pull.z ?_
  refine J.op rfl (yT (H1 := [_]) rfl rfl rfl rfl rfl (scan_ok _ _ s _ _ _ _ _ hi2 hs _) ?_ (fun _ _ _ _ h => by cases h.1) (fun _ _ h => by cases h.1))
  intro v30 I31 H32 hle33 hp34
  have ht := ht.mono hle33
  have hps := hps.mono hle33
  obtain ⟨h, rfl⟩ := hp34; cases h
  refine J.yX (J.z (zW FT CX (yR.at 1 rfl)) ?_)
  refine J.op rfl (AB 2 CX (EW.c (EW.c (EW.c (EW.c (EW.c EW.z))))) (DZ.s (DZ.s DZ.z)) ?_)
  refine J.ns (Cj.ret (Ej.a9Y (Keeps.k (Keeps.d (Keeps.d Keeps.n))) rfl rfl rfl (yR.at 2 rfl) FT CX rfl ?_))
  show NP pb s deep (Cq.clause (f + 1) deep (t :: r)) _ _ _
  have hev : Cq.clause (f + 1) deep (t :: r) = .ok q r2 := by simp only [Cq.clause, hlp, if_true, hq, hrp]; rw [if_neg (by omega)]
  rw [hev]
  exact ⟨_, _, _, rfl, ⟨pq, cq, rfl, hps⟩, rfl, hcur4⟩
 skip
 refine J.pull Pull.z ?_
 refine J.op rfl (yT (H1 := [_]) rfl rfl rfl rfl rfl ((by have h := ih pb (Cq.lex s i).2 (deep + 1) s (Cq.lex s i).1 r _ hcur2 ht hs hf (by omega); rw [hq] at h; exact h)) (fun _ _ _ _ h => by cases h.1) ?_ (fun _ _ h => by cases h.1))
 intro v35 I36 H37 hle38 hp39
 have ht := ht.mono hle38
 obtain ⟨h, rfl⟩ := hp39; cases h
 refine Ej.b2h ?_
 refine Ej.bare ?_
 refine Ej.pan rfl ?_
 show NP pb s deep (Cq.clause (f + 1) deep (t :: r)) _ _ _
 have hev : Cq.clause (f + 1) deep (t :: r) = .err pe ee := by simp only [Cq.clause, hlp, if_true, hq]; rw [if_neg (by omega)]
 rw [hev]
 exact ⟨rfl, rfl⟩
theorem b0H (f : Nat) (ih : b6s f) : b0Q (f + 1) := by
 intro pb i deep s t ts I hcur ht hs hf hd
 obtain ⟨r, rfl⟩ := hcur.cons
 have htx := hcur.txt
 refine yS.ob func139 ?_
 intro w0 hw0
 refine Cj.sr (J.op rfl (CU QX ?_))
 intro b1 hb1
 refine J.yX (J.op rfl (BK rfl rfl rfl ?_))
 intro b2 hb2
 refine J.z yP ?_
 refine J.z (DY rfl rfl rfl) ?_
 refine J.op rfl (b6d 0 rfl rfl rfl rfl rfl underlying299 BU rfl DZ.z ?_)
 refine J.z yP ?_
 refine J.z yQ ?_
 refine J.yX (J.z yP ?_)
 refine J.z zQ ?_
 refine J.z (qq2 (off' := 0) IG JV) ?_
 refine J.z (qq2 (off' := 2) DX CJ) ?_
 refine J.z (zW IX CJ (yR.at 2 rfl)) ?_
 refine J.op rfl (CU zeroValue180 ?_)
 intro b3 hb3
 refine J.op rfl (AB 0 CJ (EW.c (EW.c (EW.c EW.z))) DZ.z ?_)
 refine J.zX (Cj.region (J.z yP ?_))
 refine J.z (qq2 (off' := 1) DV zS) ?_
 refine J.z (yV BR (yR.at 0 rfl)) ?_
 by_cases htx0 : t.text = [40]
 ·skip
  refine J.z (b0z rfl rfl (congrArg (fun z => some (str z)) htx0) underlying299 BU (yR.at 1 rfl)) ?_
  refine J.z yP ?_
  refine J.z AZ ?_
  refine J.z AZ ?_
  refine J.z yQ ?_
  refine J.z yQ ?_
  refine J.yX (J.z yP ?_)
  refine J.z yP ?_
  refine CO 1 25 true (zK (qq2 (off' := 0) DV EM) ?_)
  refine CO 1 25 true (zK (yV JW (yR.at 0 rfl)) ?_)
  refine CO 1 25 true (zK DW ?_)
  refine J.z (EH rfl rfl rfl rfl) ?_
  refine J.cd (fun hc4 => ?_) (fun hc4 => ?_)
  ·have hc4p := DF hc4
   have hk1 : t.kind = 1 := by have := DF hc4; omega
   have hlp : Cq.lp t = true := by simp [Cq.lp, hk1, htx0]
   refine Cj.sr (J.z yP ?_)
   rcases hq : Cq.clause (f + 1) deep (t :: r) with ⟨q, ts2⟩ | ⟨pe, ee⟩
   ·skip
    refine J.pull (Pull.s (Pull.s (Pull.s Pull.z))) ?_
    refine J.op rfl (yT (H1 := [_]) rfl rfl rfl rfl rfl ((by have h := ih pb i deep s t r _ hcur ht hs (by simp at hf; omega) hd hlp; rw [hq] at h; exact h)) ?_ (fun _ _ _ _ h => by obtain ⟨_, _, _, h, _⟩ := h; cases h) (fun _ _ h => by obtain ⟨_, _, _, h, _⟩ := h; cases h))
    intro v5 I6 H7 hle8 hp9
    have ht := ht.mono hle8
    obtain ⟨vq, i2, t2, h, ⟨pq, cq, rfl, hps⟩, rfl, hcur3⟩ := hp9; cases h
    refine J.op rfl (AB 3 CX (EW.c (EW.c (EW.c (EW.c (EW.c EW.z))))) (DZ.s (DZ.s (DZ.s DZ.z))) ?_)
    refine J.ns (Cj.rs (Ej.a9Y (Keeps.k (Keeps.d (Keeps.d (Keeps.d Keeps.n)))) rfl rfl rfl (yR.at 3 rfl) FT CX rfl ?_))
    exact ⟨_, _, _, rfl, ⟨pq, cq, rfl, hps⟩, rfl, hcur3⟩
   skip
   refine J.pull (Pull.s (Pull.s (Pull.s Pull.z))) ?_
   refine J.op rfl (yT (H1 := [_]) rfl rfl rfl rfl rfl ((by have h := ih pb i deep s t r _ hcur ht hs (by simp at hf; omega) hd hlp; rw [hq] at h; exact h)) (fun _ _ _ _ h => by cases h.1) ?_ (fun _ _ h => by cases h.1))
   intro v10 I11 H12 hle13 hp14
   have ht := ht.mono hle13
   obtain ⟨h, rfl⟩ := hp14; cases h
   refine Ej.b2h ?_
   refine Ej.b2h ?_
   refine Ej.bare ?_
   refine Ej.pan rfl ?_
   exact ⟨rfl, rfl⟩
  have hc4p := DU hc4
  have hlp : Cq.lp t = false := by have := DU hc4; simp [Cq.lp]; omega
  refine Cj.ks (Cj.sr (J.z yP ?_))
  refine J.z (zW IX CJ (yR.at 0 rfl)) ?_
  rcases hT : Cq.isTerm t with _ | _
  ·skip
   refine J.op rfl (yT (H1 := []) rfl rfl rfl rfl rfl ((by have h := RP (ptr pb 0) t (by omega) _ ht; rw [hT] at h; exact h)) (fun _ _ _ _ h => by cases h.1) ?_ (fun _ _ h => by cases h.1))
   intro v15 I16 H17 hle18 hp19
   have ht := ht.mono hle18
   obtain ⟨h, rfl⟩ := hp19; cases h
   refine Ej.b2h ?_
   refine Ej.bare ?_
   refine Ej.pan rfl ?_
   show NP pb s deep (Cq.clause (f + 1) deep (t :: r)) _ _ _
   have hev : Cq.clause (f + 1) deep (t :: r) = .err t.pos 40 := by simp [Cq.clause, hlp, hT]
   rw [hev]
   exact ⟨rfl, rfl⟩
  obtain ⟨hi, hcur2⟩ := hcur.next (Cq.a1f hT)
  obtain ⟨r2, rfl⟩ := hcur2.cons
  have htx2 := hcur2.txt
  refine J.op rfl (yT (H1 := []) rfl rfl rfl rfl rfl ((by have h := RP (ptr pb 0) t (by omega) _ ht; rw [hT] at h; exact h)) ?_ (fun _ _ _ _ h => by cases h.1) (fun _ _ h => by cases h.1))
  intro v20 I21 H22 hle23 hp24
  have ht := ht.mono hle23
  obtain ⟨h, rfl⟩ := hp24; cases h
  refine J.z (BD (pl := #[(0, 1), (1, 1), (2, 1), (3, 1), (4, 1)]) rfl rfl QX rfl EG (fun w => by simp [UM, BO, zS]) (KP.part rfl rfl rfl (EW.c EW.z) (KP.part rfl rfl rfl (EW.s (EW.c EW.z)) (KP.part rfl rfl rfl (EW.s (EW.s (EW.c EW.z))) (KP.part rfl rfl rfl (EW.s (EW.s (EW.s (EW.c EW.z)))) KP.none))))) ?_
  refine J.op rfl (CU QX ?_)
  intro b25 hb25
  refine J.op rfl (AB 0 CX (EW.c (EW.c (EW.c (EW.c (EW.c EW.z))))) DZ.z ?_)
  refine J.yX (J.z yP ?_)
  refine J.z zQ ?_
  refine J.z (qq2 (off' := 0) IG JV) ?_
  refine J.pull (Pull.s (Pull.s (Pull.s (Pull.s Pull.z)))) ?_
  refine J.op rfl (yT (H1 := [_]) rfl rfl rfl rfl rfl (scan_ok _ _ s _ _ _ _ _ hi hs _) ?_ (fun _ _ _ _ h => by cases h.1) (fun _ _ h => by cases h.1))
  intro v26 I27 H28 hle29 hp30
  have ht := ht.mono hle29
  obtain ⟨h, rfl⟩ := hp30; cases h
  refine J.zX (Cj.region (J.z (qq2 (off' := 0) DV EM) ?_))
  refine J.z (yV JW (yR.at 2 rfl)) ?_
  refine J.z (GH rfl rfl rfl) ?_
  refine J.z yP ?_
  refine J.split 43 rfl (fun hg31 => ?_) (fun hg31 => ?_)
  ·have hk3 : t.kind ≠ 3 := by have := bne_iff_ne.1 hg31; omega
   refine AP 3 43 44 false hg31 ?_
   refine AP 3 43 45 false hg31 ?_
   refine AP 3 43 46 false hg31 ?_
   refine AP 3 43 47 false hg31 ?_
   refine AP 3 43 48 false hg31 ?_
   refine AP 3 43 49 false hg31 ?_
   refine AP 3 43 50 false hg31 ?_
   refine J.z (EO hg31) ?_
   refine J.c1 (fun hc32 => ?_)
   refine Cj.sr (J.z (zW FT CX (yR.at 1 rfl)) ?_)
   refine J.op rfl (AB 4 CX (EW.c (EW.c (EW.c (EW.c (EW.c EW.z))))) (DZ.s (DZ.s (DZ.s (DZ.s DZ.z)))) ?_)
   refine J.ns (Cj.rs (Ej.a9Y (Keeps.k (Keeps.d (Keeps.d (Keeps.d (Keeps.d Keeps.n))))) rfl rfl rfl (yR.at 4 rfl) FT CX rfl ?_))
   show NP pb s deep (Cq.clause (f + 1) deep (t :: (Cq.lex s i).1 :: r2)) _ _ _
   have hev : Cq.clause (f + 1) deep (t :: (Cq.lex s i).1 :: r2) = .ok ⟨1, [97, 110, 121], [61], t.text, .nil⟩ ((Cq.lex s i).1 :: r2) := by simp [Cq.clause, hlp, hT, hk3]
   rw [hev]
   exact ⟨_, _, _, rfl, ⟨none, 0, rfl, .inl rfl⟩, rfl, hcur2⟩
  have hk3 : t.kind = 3 := by have := DI hg31; omega
  refine zU 3 43 false hg31 (zK yP ?_)
  refine zU 3 43 false hg31 (zK zQ ?_)
  refine zU 3 43 false hg31 (zK (qq2 (off' := 0) IG JV) ?_)
  refine zU 3 43 false hg31 (zK (qq2 (off' := 2) DX CJ) ?_)
  refine zU 3 43 false hg31 (zK (zW IX CJ (yR.at 0 rfl)) ?_)
  refine J.KY 3 43 false _ rfl rfl rfl hg31 (yU rfl rfl rfl rfl rfl (a3v (Cq.lex s i).1 (by omega) _ ht) ?_)
  refine zU 3 43 false hg31 (zK (ER rfl rfl) ?_)
  refine J.z (ED hg31) ?_
  refine J.cd (fun hc33 => ?_) (fun hc33 => ?_)
  ·have hrel : Cq.relation (Cq.lex s i).1 = false := by have h := hc33; rw [Bool.not_eq_true'] at h; exact h
   refine Cj.sr (J.z (zW FT CX (yR.at 1 rfl)) ?_)
   refine J.op rfl (AB 4 CX (EW.c (EW.c (EW.c (EW.c (EW.c EW.z))))) (DZ.s (DZ.s (DZ.s (DZ.s DZ.z)))) ?_)
   refine J.ns (Cj.rs (Ej.a9Y (Keeps.k (Keeps.d (Keeps.d (Keeps.d (Keeps.d Keeps.n))))) rfl rfl rfl (yR.at 4 rfl) FT CX rfl ?_))
   show NP pb s deep (Cq.clause (f + 1) deep (t :: (Cq.lex s i).1 :: r2)) _ _ _
   have hev : Cq.clause (f + 1) deep (t :: (Cq.lex s i).1 :: r2) = .ok ⟨1, [97, 110, 121], [61], t.text, .nil⟩ ((Cq.lex s i).1 :: r2) := by simp [Cq.clause, hlp, hT, hk3, hrel]
   rw [hev]
   exact ⟨_, _, _, rfl, ⟨none, 0, rfl, .inl rfl⟩, rfl, hcur2⟩
  have hrel : Cq.relation (Cq.lex s i).1 = true := by have h := hc33; rw [Bool.not_eq_false'] at h; exact h
  obtain ⟨hi2, hcur3⟩ := hcur2.next (Cq.a2w hrel)
  obtain ⟨r3, rfl⟩ := hcur3.cons
  have htx3 := hcur3.txt
  refine Cj.ks (Cj.seq (Cj.JD [0, 2, 3, 4] [] 14 (by kernel_rfl) ?_))
  refine JA.fix ⟨(HSub.c 0 rfl (HSub.c 2 rfl (HSub.c 3 rfl (HSub.c 4 rfl HSub.n)))), CSub.n, (Le.refl _)⟩ (fun fx34 => ?_)
  refine JA.tk 0 rfl fx34 (qq2 (off' := 1) DV zS) ?_
  refine JA.tk 1 rfl fx34 (yV BR (yR.ZU 1 rfl)) ?_
  refine JA.tk 3 rfl fx34 yP ?_
  refine JA.tk 4 rfl fx34 zQ ?_
  refine JA.tk 5 rfl fx34 (qq2 (off' := 0) IG JV) ?_
  refine JA.tk 6 rfl fx34 (qq2 (off' := 2) DX CJ) ?_
  refine JA.tk 7 rfl fx34 (qq2 (off' := 3) DV zS) ?_
  refine JA.tk 8 rfl fx34 (yV BR (yR.ZU 0 rfl)) ?_
  refine zO 2 rfl (yU rfl rfl rfl rfl rfl (SG t.text (by omega) _ ht) ?_)
  refine ⟨⟨(Le.refl _), (HSub.c 0 rfl (HSub.c 2 rfl (HSub.c 3 rfl (HSub.c 4 rfl HSub.n)))), CSub.n⟩, ?_⟩
  refine JA.fix ⟨(HSub.c 0 rfl (HSub.c 2 rfl (HSub.c 3 rfl (HSub.c 4 rfl HSub.n)))), CSub.n, (Le.refl _)⟩ (fun fx35 => ?_)
  refine JA.tk 10 rfl fx35 (qq2 (off' := 1) EG zS) ?_
  refine zO 9 rfl (yU rfl rfl rfl rfl rfl (SG (Cq.lex s i).1.text (by omega) _ ht) ?_)
  refine ⟨⟨(Le.refl _), (HSub.c 0 rfl (HSub.c 2 rfl (HSub.c 3 rfl (HSub.c 4 rfl HSub.n)))), CSub.n⟩, ?_⟩
  refine zO 11 rfl (AB 1 zS (EW.s (EW.c EW.z)) (DZ.s DZ.z) ?_)
  refine ⟨⟨(Le.refl _), (HSub.c 0 rfl (HSub.c 2 rfl (HSub.c 3 rfl (HSub.c 4 rfl HSub.n)))), CSub.n⟩, ?_⟩
  refine JA.fix ⟨(HSub.c 0 rfl (HSub.c 2 rfl (HSub.c 3 rfl (HSub.c 4 rfl HSub.n)))), CSub.n, (Le.refl _)⟩ (fun fx36 => ?_)
  refine JA.tk 12 rfl fx36 (qq2 (off' := 2) EG zS) ?_
  refine zO 13 rfl (AB 1 zS (EW.s (EW.s (EW.c EW.z))) (DZ.s DZ.z) ?_)
  refine ⟨⟨(Le.refl _), (HSub.c 0 rfl (HSub.c 2 rfl (HSub.c 3 rfl (HSub.c 4 rfl HSub.n)))), CSub.n⟩, ?_⟩
  refine AA ?_
  refine Ej.seq (Cj.seq (Cj.seq (Cj.JD [0, 1, 2, 3, 4] [] 5 (by kernel_rfl) ?_)))
  refine JA.fix ⟨(HSub.c 0 rfl (HSub.c 1 rfl (HSub.c 2 rfl (HSub.c 3 rfl (HSub.c 4 rfl HSub.n))))), CSub.n, (Le.refl _)⟩ (fun fx37 => ?_)
  refine JA.tk 1 rfl fx37 (qq2 (off' := 1) EG zS) ?_
  refine JA.tk 2 rfl fx37 (yV BR (yR.ZU 1 rfl)) ?_
  refine zO 0 rfl (yT (H1 := []) rfl rfl rfl rfl rfl (a3M _) ?_ (fun _ _ _ _ h => by obtain ⟨⟨_, h, _⟩, _⟩ := h; cases h) (fun _ _ h => by obtain ⟨⟨_, h, _⟩, _⟩ := h; cases h))
  intro v38 I39 H40 hle41 hp42
  have ht := ht.mono hle41
  obtain ⟨⟨v38x, hv38, hsv38⟩, rfl⟩ := hp42; cases hv38
  refine ⟨⟨(Le.trans (Le.refl _) hle41), (HSub.c 0 rfl (HSub.c 1 rfl (HSub.c 2 rfl (HSub.c 3 rfl (HSub.c 4 rfl HSub.n))))), CSub.n⟩, ?_⟩
  refine zO 3 rfl (yU rfl rfl rfl rfl rfl (WV Cq.indexes _ _ (by decide) _ hsv38) ?_)
  refine ⟨⟨(Le.trans (Le.refl _) hle41), (HSub.c 0 rfl (HSub.c 1 rfl (HSub.c 2 rfl (HSub.c 3 rfl (HSub.c 4 rfl HSub.n))))), CSub.n⟩, ?_⟩
  refine JA.eqv 68 rfl (show _ = .bool (Cq.indexes.contains (Cq.small t.text)) from (by rw [(PK (l := Cq.indexes) (by decide) t.text).1])) ?_
  refine JA.fix ⟨(HSub.c 0 rfl (HSub.c 1 rfl (HSub.c 2 rfl (HSub.c 3 rfl (HSub.c 4 rfl HSub.n))))), CSub.n, (Le.trans (Le.refl _) hle41)⟩ (fun fx43 => ?_)
  refine JA.tk 4 rfl fx43 (ER rfl rfl) ?_
  refine AA ?_
  refine Ej.seq (Cj.cond rfl (fun hc44 => ?_) (fun hc44 => ?_))
  ·have hix : ¬ Cq.small t.text ∈ Cq.indexes := by have h := hc44; rw [Bool.not_eq_true'] at h; simpa using h
   refine Cj.region (J.z yP ?_)
   refine J.z (zW IX CJ (yR.at 2 rfl)) ?_
   refine J.op rfl (yT (H1 := []) rfl rfl rfl rfl rfl (SH _ _ _ _) (fun _ _ _ _ h => by cases h.1) ?_ (fun _ _ h => by cases h.1))
   intro v45 I46 H47 hle48 hp49
   have ht := ht.mono hle48
   have hsv38 := hsv38.mono hle48
   obtain ⟨h, rfl⟩ := hp49; cases h
   refine Ej.b2h ?_
   refine Ej.bare ?_
   refine Ej.pan rfl ?_
   show NP pb s deep (Cq.clause (f + 1) deep (t :: (Cq.lex s i).1 :: (Cq.lex s (Cq.lex s i).2).1 :: r3)) _ _ _
   have hev : Cq.clause (f + 1) deep (t :: (Cq.lex s i).1 :: (Cq.lex s (Cq.lex s i).2).1 :: r3) = .err t.pos 42 := by simp [Cq.clause, hlp, hT, hk3, hrel, hix]
   rw [hev]
   exact ⟨rfl, rfl⟩
  have hix0 : Cq.indexes.contains (Cq.small t.text) = true := by have h := hc44; rw [Bool.not_eq_false'] at h; exact h
  have hix : Cq.small t.text ∈ Cq.indexes := by simpa using hix0
  have hs1 := (PK (l := Cq.indexes) (by decide) t.text).2 hix0
  have hs2 := (PK (l := Cq.relations) (by decide) (Cq.lex s i).1.text).2 (by have h := hrel; simp only [Cq.relation, Bool.and_eq_true] at h; exact h.1)
  refine Cj.ks (Cj.sr (J.z yP ?_))
  refine J.z zQ ?_
  refine J.z (qq2 (off' := 0) IG JV) ?_
  refine J.pull Pull.z ?_
  refine J.op rfl (yT (H1 := [_]) rfl rfl rfl rfl rfl (scan_ok _ _ s _ _ _ _ _ hi2 hs _) ?_ (fun _ _ _ _ h => by cases h.1) (fun _ _ h => by cases h.1))
  intro v50 I51 H52 hle53 hp54
  have ht := ht.mono hle53
  have hsv38 := hsv38.mono hle53
  obtain ⟨h, rfl⟩ := hp54; cases h
  refine J.yX (J.z yP ?_)
  refine J.z yP ?_
  refine J.z zQ ?_
  refine J.z (qq2 (off' := 0) IG JV) ?_
  refine J.z (qq2 (off' := 2) DX CJ) ?_
  refine J.z (zW IX CJ (yR.at 0 rfl)) ?_
  rcases hT3 : Cq.isTerm (Cq.lex s (Cq.lex s i).2).1 with _ | _
  ·skip
   refine J.op rfl (yT (H1 := []) rfl rfl rfl rfl rfl ((by have h := RP (ptr pb 0) (Cq.lex s (Cq.lex s i).2).1 (by omega) _ ht; rw [hT3] at h; exact h)) (fun _ _ _ _ h => by cases h.1) ?_ (fun _ _ h => by cases h.1))
   intro v55 I56 H57 hle58 hp59
   have ht := ht.mono hle58
   have hsv38 := hsv38.mono hle58
   obtain ⟨h, rfl⟩ := hp59; cases h
   refine Ej.b2h ?_
   refine Ej.bare ?_
   refine Ej.pan rfl ?_
   show NP pb s deep (Cq.clause (f + 1) deep (t :: (Cq.lex s i).1 :: (Cq.lex s (Cq.lex s i).2).1 :: r3)) _ _ _
   have hev : Cq.clause (f + 1) deep (t :: (Cq.lex s i).1 :: (Cq.lex s (Cq.lex s i).2).1 :: r3) = .err (Cq.lex s (Cq.lex s i).2).1.pos 40 := by simp [Cq.clause, hlp, hT, hk3, hrel, hix, hT3]
   rw [hev]
   exact ⟨rfl, rfl⟩
  obtain ⟨hi3, hcur4⟩ := hcur3.next (Cq.a1f hT3)
  refine J.op rfl (yT (H1 := []) rfl rfl rfl rfl rfl ((by have h := RP (ptr pb 0) (Cq.lex s (Cq.lex s i).2).1 (by omega) _ ht; rw [hT3] at h; exact h)) ?_ (fun _ _ _ _ h => by cases h.1) (fun _ _ h => by cases h.1))
  intro v60 I61 H62 hle63 hp64
  have ht := ht.mono hle63
  have hsv38 := hsv38.mono hle63
  obtain ⟨h, rfl⟩ := hp64; cases h
  refine J.z (qq2 (off' := 3) EG zS) ?_
  refine J.op rfl (AB 1 zS (EW.s (EW.s (EW.s (EW.c EW.z)))) (DZ.s DZ.z) ?_)
  refine J.yX (J.z yP ?_)
  refine J.z zQ ?_
  refine J.z (qq2 (off' := 0) IG JV) ?_
  refine J.pull Pull.z ?_
  refine J.op rfl (yT (H1 := [_]) rfl rfl rfl rfl rfl (scan_ok _ _ s _ _ _ _ _ hi3 hs _) ?_ (fun _ _ _ _ h => by cases h.1) (fun _ _ h => by cases h.1))
  intro v65 I66 H67 hle68 hp69
  have ht := ht.mono hle68
  have hsv38 := hsv38.mono hle68
  obtain ⟨h, rfl⟩ := hp69; cases h
  refine J.yX (J.z (zW FT CX (yR.at 1 rfl)) ?_)
  refine J.op rfl (AB 4 CX (EW.c (EW.c (EW.c (EW.c (EW.c EW.z))))) (DZ.s (DZ.s (DZ.s (DZ.s DZ.z)))) ?_)
  refine J.ns (Cj.ret (Ej.a9Y (Keeps.k (Keeps.d (Keeps.d (Keeps.d (Keeps.d Keeps.n))))) rfl rfl rfl (yR.at 4 rfl) FT CX rfl ?_))
  show NP pb s deep (Cq.clause (f + 1) deep (t :: (Cq.lex s i).1 :: (Cq.lex s (Cq.lex s i).2).1 :: r3)) _ _ _
  have hev : Cq.clause (f + 1) deep (t :: (Cq.lex s i).1 :: (Cq.lex s (Cq.lex s i).2).1 :: r3) = .ok ⟨1, Cq.small t.text, Cq.small (Cq.lex s i).1.text, (Cq.lex s (Cq.lex s i).2).1.text, .nil⟩ r3 := by simp [Cq.clause, hlp, hT, hk3, hrel, hix, hT3]
  rw [hev]
  exact ⟨_, _, _, rfl, ⟨none, 0, by rw [hs1, hs2]; rfl, .inl rfl⟩, rfl, hcur4⟩
 have hlp : Cq.lp t = false := by simp [Cq.lp, htx0]
 refine J.z (a9K htx0 rfl rfl rfl underlying299 BU zeroValue185 (yR.at 1 rfl)) ?_
 refine J.z yP ?_
 refine J.z AZ ?_
 refine J.z AZ ?_
 refine J.z yQ ?_
 refine J.z yQ ?_
 refine J.yX (J.z yP ?_)
 refine J.z yP ?_
 refine EJ 1 25 26 true ?_
 refine EJ 1 25 27 true ?_
 refine EJ 1 25 28 true ?_
 refine J.z (ET rfl rfl rfl rfl) ?_
 refine J.c0 (fun hc70 => ?_)
 refine Cj.ks (Cj.sr (J.z yP ?_))
 refine J.z (zW IX CJ (yR.at 0 rfl)) ?_
 rcases hT : Cq.isTerm t with _ | _
 ·skip
  refine J.op rfl (yT (H1 := []) rfl rfl rfl rfl rfl ((by have h := RP (ptr pb 0) t (by omega) _ ht; rw [hT] at h; exact h)) (fun _ _ _ _ h => by cases h.1) ?_ (fun _ _ h => by cases h.1))
  intro v71 I72 H73 hle74 hp75
  have ht := ht.mono hle74
  obtain ⟨h, rfl⟩ := hp75; cases h
  refine Ej.b2h ?_
  refine Ej.bare ?_
  refine Ej.pan rfl ?_
  show NP pb s deep (Cq.clause (f + 1) deep (t :: r)) _ _ _
  have hev : Cq.clause (f + 1) deep (t :: r) = .err t.pos 40 := by simp [Cq.clause, hlp, hT]
  rw [hev]
  exact ⟨rfl, rfl⟩
 obtain ⟨hi, hcur2⟩ := hcur.next (Cq.a1f hT)
 obtain ⟨r2, rfl⟩ := hcur2.cons
 have htx2 := hcur2.txt
 refine J.op rfl (yT (H1 := []) rfl rfl rfl rfl rfl ((by have h := RP (ptr pb 0) t (by omega) _ ht; rw [hT] at h; exact h)) ?_ (fun _ _ _ _ h => by cases h.1) (fun _ _ h => by cases h.1))
 intro v76 I77 H78 hle79 hp80
 have ht := ht.mono hle79
 obtain ⟨h, rfl⟩ := hp80; cases h
 refine J.z (BD (pl := #[(0, 1), (1, 1), (2, 1), (3, 1), (4, 1)]) rfl rfl QX rfl EG (fun w => by simp [UM, BO, zS]) (KP.part rfl rfl rfl (EW.c EW.z) (KP.part rfl rfl rfl (EW.s (EW.c EW.z)) (KP.part rfl rfl rfl (EW.s (EW.s (EW.c EW.z))) (KP.part rfl rfl rfl (EW.s (EW.s (EW.s (EW.c EW.z)))) KP.none))))) ?_
 refine J.op rfl (CU QX ?_)
 intro b81 hb81
 refine J.op rfl (AB 0 CX (EW.c (EW.c (EW.c (EW.c (EW.c EW.z))))) DZ.z ?_)
 refine J.yX (J.z yP ?_)
 refine J.z zQ ?_
 refine J.z (qq2 (off' := 0) IG JV) ?_
 refine J.pull (Pull.s (Pull.s (Pull.s (Pull.s Pull.z)))) ?_
 refine J.op rfl (yT (H1 := [_]) rfl rfl rfl rfl rfl (scan_ok _ _ s _ _ _ _ _ hi hs _) ?_ (fun _ _ _ _ h => by cases h.1) (fun _ _ h => by cases h.1))
 intro v82 I83 H84 hle85 hp86
 have ht := ht.mono hle85
 obtain ⟨h, rfl⟩ := hp86; cases h
 refine J.zX (Cj.region (J.z (qq2 (off' := 0) DV EM) ?_))
 refine J.z (yV JW (yR.at 2 rfl)) ?_
 refine J.z (GH rfl rfl rfl) ?_
 refine J.z yP ?_
 refine J.split 43 rfl (fun hg87 => ?_) (fun hg87 => ?_)
 ·have hk3 : t.kind ≠ 3 := by have := bne_iff_ne.1 hg87; omega
  refine AP 3 43 44 false hg87 ?_
  refine AP 3 43 45 false hg87 ?_
  refine AP 3 43 46 false hg87 ?_
  refine AP 3 43 47 false hg87 ?_
  refine AP 3 43 48 false hg87 ?_
  refine AP 3 43 49 false hg87 ?_
  refine AP 3 43 50 false hg87 ?_
  refine J.z (EO hg87) ?_
  refine J.c1 (fun hc88 => ?_)
  refine Cj.sr (J.z (zW FT CX (yR.at 1 rfl)) ?_)
  refine J.op rfl (AB 4 CX (EW.c (EW.c (EW.c (EW.c (EW.c EW.z))))) (DZ.s (DZ.s (DZ.s (DZ.s DZ.z)))) ?_)
  refine J.ns (Cj.rs (Ej.a9Y (Keeps.k (Keeps.d (Keeps.d (Keeps.d (Keeps.d Keeps.n))))) rfl rfl rfl (yR.at 4 rfl) FT CX rfl ?_))
  show NP pb s deep (Cq.clause (f + 1) deep (t :: (Cq.lex s i).1 :: r2)) _ _ _
  have hev : Cq.clause (f + 1) deep (t :: (Cq.lex s i).1 :: r2) = .ok ⟨1, [97, 110, 121], [61], t.text, .nil⟩ ((Cq.lex s i).1 :: r2) := by simp [Cq.clause, hlp, hT, hk3]
  rw [hev]
  exact ⟨_, _, _, rfl, ⟨none, 0, rfl, .inl rfl⟩, rfl, hcur2⟩
 have hk3 : t.kind = 3 := by have := DI hg87; omega
 refine zU 3 43 false hg87 (zK yP ?_)
 refine zU 3 43 false hg87 (zK zQ ?_)
 refine zU 3 43 false hg87 (zK (qq2 (off' := 0) IG JV) ?_)
 refine zU 3 43 false hg87 (zK (qq2 (off' := 2) DX CJ) ?_)
 refine zU 3 43 false hg87 (zK (zW IX CJ (yR.at 0 rfl)) ?_)
 refine J.KY 3 43 false _ rfl rfl rfl hg87 (yU rfl rfl rfl rfl rfl (a3v (Cq.lex s i).1 (by omega) _ ht) ?_)
 refine zU 3 43 false hg87 (zK (ER rfl rfl) ?_)
 refine J.z (ED hg87) ?_
 refine J.cd (fun hc89 => ?_) (fun hc89 => ?_)
 ·have hrel : Cq.relation (Cq.lex s i).1 = false := by have h := hc89; rw [Bool.not_eq_true'] at h; exact h
  refine Cj.sr (J.z (zW FT CX (yR.at 1 rfl)) ?_)
  refine J.op rfl (AB 4 CX (EW.c (EW.c (EW.c (EW.c (EW.c EW.z))))) (DZ.s (DZ.s (DZ.s (DZ.s DZ.z)))) ?_)
  refine J.ns (Cj.rs (Ej.a9Y (Keeps.k (Keeps.d (Keeps.d (Keeps.d (Keeps.d Keeps.n))))) rfl rfl rfl (yR.at 4 rfl) FT CX rfl ?_))
  show NP pb s deep (Cq.clause (f + 1) deep (t :: (Cq.lex s i).1 :: r2)) _ _ _
  have hev : Cq.clause (f + 1) deep (t :: (Cq.lex s i).1 :: r2) = .ok ⟨1, [97, 110, 121], [61], t.text, .nil⟩ ((Cq.lex s i).1 :: r2) := by simp [Cq.clause, hlp, hT, hk3, hrel]
  rw [hev]
  exact ⟨_, _, _, rfl, ⟨none, 0, rfl, .inl rfl⟩, rfl, hcur2⟩
 have hrel : Cq.relation (Cq.lex s i).1 = true := by have h := hc89; rw [Bool.not_eq_false'] at h; exact h
 obtain ⟨hi2, hcur3⟩ := hcur2.next (Cq.a2w hrel)
 obtain ⟨r3, rfl⟩ := hcur3.cons
 have htx3 := hcur3.txt
 refine Cj.ks (Cj.seq (Cj.JD [0, 2, 3, 4] [] 14 (by kernel_rfl) ?_))
 refine JA.fix ⟨(HSub.c 0 rfl (HSub.c 2 rfl (HSub.c 3 rfl (HSub.c 4 rfl HSub.n)))), CSub.n, (Le.refl _)⟩ (fun fx90 => ?_)
 refine JA.tk 0 rfl fx90 (qq2 (off' := 1) DV zS) ?_
 refine JA.tk 1 rfl fx90 (yV BR (yR.ZU 1 rfl)) ?_
 refine JA.tk 3 rfl fx90 yP ?_
 refine JA.tk 4 rfl fx90 zQ ?_
 refine JA.tk 5 rfl fx90 (qq2 (off' := 0) IG JV) ?_
 refine JA.tk 6 rfl fx90 (qq2 (off' := 2) DX CJ) ?_
 refine JA.tk 7 rfl fx90 (qq2 (off' := 3) DV zS) ?_
 refine JA.tk 8 rfl fx90 (yV BR (yR.ZU 0 rfl)) ?_
 refine zO 2 rfl (yU rfl rfl rfl rfl rfl (SG t.text (by omega) _ ht) ?_)
 refine ⟨⟨(Le.refl _), (HSub.c 0 rfl (HSub.c 2 rfl (HSub.c 3 rfl (HSub.c 4 rfl HSub.n)))), CSub.n⟩, ?_⟩
 refine JA.fix ⟨(HSub.c 0 rfl (HSub.c 2 rfl (HSub.c 3 rfl (HSub.c 4 rfl HSub.n)))), CSub.n, (Le.refl _)⟩ (fun fx91 => ?_)
 refine JA.tk 10 rfl fx91 (qq2 (off' := 1) EG zS) ?_
 refine zO 9 rfl (yU rfl rfl rfl rfl rfl (SG (Cq.lex s i).1.text (by omega) _ ht) ?_)
 refine ⟨⟨(Le.refl _), (HSub.c 0 rfl (HSub.c 2 rfl (HSub.c 3 rfl (HSub.c 4 rfl HSub.n)))), CSub.n⟩, ?_⟩
 refine zO 11 rfl (AB 1 zS (EW.s (EW.c EW.z)) (DZ.s DZ.z) ?_)
 refine ⟨⟨(Le.refl _), (HSub.c 0 rfl (HSub.c 2 rfl (HSub.c 3 rfl (HSub.c 4 rfl HSub.n)))), CSub.n⟩, ?_⟩
 refine JA.fix ⟨(HSub.c 0 rfl (HSub.c 2 rfl (HSub.c 3 rfl (HSub.c 4 rfl HSub.n)))), CSub.n, (Le.refl _)⟩ (fun fx92 => ?_)
 refine JA.tk 12 rfl fx92 (qq2 (off' := 2) EG zS) ?_
 refine zO 13 rfl (AB 1 zS (EW.s (EW.s (EW.c EW.z))) (DZ.s DZ.z) ?_)
 refine ⟨⟨(Le.refl _), (HSub.c 0 rfl (HSub.c 2 rfl (HSub.c 3 rfl (HSub.c 4 rfl HSub.n)))), CSub.n⟩, ?_⟩
 refine AA ?_
 refine Ej.seq (Cj.seq (Cj.seq (Cj.JD [0, 1, 2, 3, 4] [] 5 (by kernel_rfl) ?_)))
 refine JA.fix ⟨(HSub.c 0 rfl (HSub.c 1 rfl (HSub.c 2 rfl (HSub.c 3 rfl (HSub.c 4 rfl HSub.n))))), CSub.n, (Le.refl _)⟩ (fun fx93 => ?_)
 refine JA.tk 1 rfl fx93 (qq2 (off' := 1) EG zS) ?_
 refine JA.tk 2 rfl fx93 (yV BR (yR.ZU 1 rfl)) ?_
 refine zO 0 rfl (yT (H1 := []) rfl rfl rfl rfl rfl (a3M _) ?_ (fun _ _ _ _ h => by obtain ⟨⟨_, h, _⟩, _⟩ := h; cases h) (fun _ _ h => by obtain ⟨⟨_, h, _⟩, _⟩ := h; cases h))
 intro v94 I95 H96 hle97 hp98
 have ht := ht.mono hle97
 obtain ⟨⟨v94x, hv94, hsv94⟩, rfl⟩ := hp98; cases hv94
 refine ⟨⟨(Le.trans (Le.refl _) hle97), (HSub.c 0 rfl (HSub.c 1 rfl (HSub.c 2 rfl (HSub.c 3 rfl (HSub.c 4 rfl HSub.n))))), CSub.n⟩, ?_⟩
 refine zO 3 rfl (yU rfl rfl rfl rfl rfl (WV Cq.indexes _ _ (by decide) _ hsv94) ?_)
 refine ⟨⟨(Le.trans (Le.refl _) hle97), (HSub.c 0 rfl (HSub.c 1 rfl (HSub.c 2 rfl (HSub.c 3 rfl (HSub.c 4 rfl HSub.n))))), CSub.n⟩, ?_⟩
 refine JA.eqv 68 rfl (show _ = .bool (Cq.indexes.contains (Cq.small t.text)) from (by rw [(PK (l := Cq.indexes) (by decide) t.text).1])) ?_
 refine JA.fix ⟨(HSub.c 0 rfl (HSub.c 1 rfl (HSub.c 2 rfl (HSub.c 3 rfl (HSub.c 4 rfl HSub.n))))), CSub.n, (Le.trans (Le.refl _) hle97)⟩ (fun fx99 => ?_)
 refine JA.tk 4 rfl fx99 (ER rfl rfl) ?_
 refine AA ?_
 refine Ej.seq (Cj.cond rfl (fun hc100 => ?_) (fun hc100 => ?_))
 ·have hix : ¬ Cq.small t.text ∈ Cq.indexes := by have h := hc100; rw [Bool.not_eq_true'] at h; simpa using h
  refine Cj.region (J.z yP ?_)
  refine J.z (zW IX CJ (yR.at 2 rfl)) ?_
  refine J.op rfl (yT (H1 := []) rfl rfl rfl rfl rfl (SH _ _ _ _) (fun _ _ _ _ h => by cases h.1) ?_ (fun _ _ h => by cases h.1))
  intro v101 I102 H103 hle104 hp105
  have ht := ht.mono hle104
  have hsv94 := hsv94.mono hle104
  obtain ⟨h, rfl⟩ := hp105; cases h
  refine Ej.b2h ?_
  refine Ej.bare ?_
  refine Ej.pan rfl ?_
  show NP pb s deep (Cq.clause (f + 1) deep (t :: (Cq.lex s i).1 :: (Cq.lex s (Cq.lex s i).2).1 :: r3)) _ _ _
  have hev : Cq.clause (f + 1) deep (t :: (Cq.lex s i).1 :: (Cq.lex s (Cq.lex s i).2).1 :: r3) = .err t.pos 42 := by simp [Cq.clause, hlp, hT, hk3, hrel, hix]
  rw [hev]
  exact ⟨rfl, rfl⟩
 have hix0 : Cq.indexes.contains (Cq.small t.text) = true := by have h := hc100; rw [Bool.not_eq_false'] at h; exact h
 have hix : Cq.small t.text ∈ Cq.indexes := by simpa using hix0
 have hs1 := (PK (l := Cq.indexes) (by decide) t.text).2 hix0
 have hs2 := (PK (l := Cq.relations) (by decide) (Cq.lex s i).1.text).2 (by have h := hrel; simp only [Cq.relation, Bool.and_eq_true] at h; exact h.1)
 refine Cj.ks (Cj.sr (J.z yP ?_))
 refine J.z zQ ?_
 refine J.z (qq2 (off' := 0) IG JV) ?_
 refine J.pull Pull.z ?_
 refine J.op rfl (yT (H1 := [_]) rfl rfl rfl rfl rfl (scan_ok _ _ s _ _ _ _ _ hi2 hs _) ?_ (fun _ _ _ _ h => by cases h.1) (fun _ _ h => by cases h.1))
 intro v106 I107 H108 hle109 hp110
 have ht := ht.mono hle109
 have hsv94 := hsv94.mono hle109
 obtain ⟨h, rfl⟩ := hp110; cases h
 refine J.yX (J.z yP ?_)
 refine J.z yP ?_
 refine J.z zQ ?_
 refine J.z (qq2 (off' := 0) IG JV) ?_
 refine J.z (qq2 (off' := 2) DX CJ) ?_
 refine J.z (zW IX CJ (yR.at 0 rfl)) ?_
 rcases hT3 : Cq.isTerm (Cq.lex s (Cq.lex s i).2).1 with _ | _
 ·skip
  refine J.op rfl (yT (H1 := []) rfl rfl rfl rfl rfl ((by have h := RP (ptr pb 0) (Cq.lex s (Cq.lex s i).2).1 (by omega) _ ht; rw [hT3] at h; exact h)) (fun _ _ _ _ h => by cases h.1) ?_ (fun _ _ h => by cases h.1))
  intro v111 I112 H113 hle114 hp115
  have ht := ht.mono hle114
  have hsv94 := hsv94.mono hle114
  obtain ⟨h, rfl⟩ := hp115; cases h
  refine Ej.b2h ?_
  refine Ej.bare ?_
  refine Ej.pan rfl ?_
  show NP pb s deep (Cq.clause (f + 1) deep (t :: (Cq.lex s i).1 :: (Cq.lex s (Cq.lex s i).2).1 :: r3)) _ _ _
  have hev : Cq.clause (f + 1) deep (t :: (Cq.lex s i).1 :: (Cq.lex s (Cq.lex s i).2).1 :: r3) = .err (Cq.lex s (Cq.lex s i).2).1.pos 40 := by simp [Cq.clause, hlp, hT, hk3, hrel, hix, hT3]
  rw [hev]
  exact ⟨rfl, rfl⟩
 obtain ⟨hi3, hcur4⟩ := hcur3.next (Cq.a1f hT3)
 refine J.op rfl (yT (H1 := []) rfl rfl rfl rfl rfl ((by have h := RP (ptr pb 0) (Cq.lex s (Cq.lex s i).2).1 (by omega) _ ht; rw [hT3] at h; exact h)) ?_ (fun _ _ _ _ h => by cases h.1) (fun _ _ h => by cases h.1))
 intro v116 I117 H118 hle119 hp120
 have ht := ht.mono hle119
 have hsv94 := hsv94.mono hle119
 obtain ⟨h, rfl⟩ := hp120; cases h
 refine J.z (qq2 (off' := 3) EG zS) ?_
 refine J.op rfl (AB 1 zS (EW.s (EW.s (EW.s (EW.c EW.z)))) (DZ.s DZ.z) ?_)
 refine J.yX (J.z yP ?_)
 refine J.z zQ ?_
 refine J.z (qq2 (off' := 0) IG JV) ?_
 refine J.pull Pull.z ?_
 refine J.op rfl (yT (H1 := [_]) rfl rfl rfl rfl rfl (scan_ok _ _ s _ _ _ _ _ hi3 hs _) ?_ (fun _ _ _ _ h => by cases h.1) (fun _ _ h => by cases h.1))
 intro v121 I122 H123 hle124 hp125
 have ht := ht.mono hle124
 have hsv94 := hsv94.mono hle124
 obtain ⟨h, rfl⟩ := hp125; cases h
 refine J.yX (J.z (zW FT CX (yR.at 1 rfl)) ?_)
 refine J.op rfl (AB 4 CX (EW.c (EW.c (EW.c (EW.c (EW.c EW.z))))) (DZ.s (DZ.s (DZ.s (DZ.s DZ.z)))) ?_)
 refine J.ns (Cj.ret (Ej.a9Y (Keeps.k (Keeps.d (Keeps.d (Keeps.d (Keeps.d Keeps.n))))) rfl rfl rfl (yR.at 4 rfl) FT CX rfl ?_))
 show NP pb s deep (Cq.clause (f + 1) deep (t :: (Cq.lex s i).1 :: (Cq.lex s (Cq.lex s i).2).1 :: r3)) _ _ _
 have hev : Cq.clause (f + 1) deep (t :: (Cq.lex s i).1 :: (Cq.lex s (Cq.lex s i).2).1 :: r3) = .ok ⟨1, Cq.small t.text, Cq.small (Cq.lex s i).1.text, (Cq.lex s (Cq.lex s i).2).1.text, .nil⟩ r3 := by simp [Cq.clause, hlp, hT, hk3, hrel, hix, hT3]
 rw [hev]
 exact ⟨_, _, _, rfl, ⟨none, 0, by rw [hs1, hs2]; rfl, .inl rfl⟩, rfl, hcur4⟩
structure CSt where
  f:Nat
  q:Cq.Qn
  p:Option Addr
  c:Nat
  i:Nat
  t:Cq.Tok
  ts:List Cq.Tok
  I:Heap
def c5d (s:List UInt8) (f deep:Nat) (ts:List bZ) (j:CSt):Prop:=
 dK s j.i j.t j.ts∧dU (f+1) deep ts=Cq.more j.f deep j.q j.ts∧PS j.I j.q.ps j.p∧2*j.ts.length+1≤j.f∧j.f≤f∧Tabs j.I
theorem b2x (f : Nat) (ih : ∀ g, g ≤ f → b0Q g) : a6R (f + 1) := by
 intro pb i deep s t ts I hcur ht hs hf hd
 refine yS.ob func95 ?_
 intro w0 hw0
 refine Cj.sr (J.op rfl (CU QX ?_))
 intro b1 hb1
 refine J.yX (J.z yP ?_)
 rcases hq : Cq.clause f deep ts with ⟨q, ts2⟩ | ⟨pe, ee⟩
 ·skip
  refine J.pull (Pull.s Pull.z) ?_
  refine J.op rfl (yT (H1 := [_]) rfl rfl rfl rfl rfl ((by have h := ih f (Nat.le_refl _) pb i deep s t ts _ hcur ht hs (by omega) hd; rw [hq] at h; exact h)) ?_ (fun _ _ _ _ h => by obtain ⟨_, _, _, h, _⟩ := h; cases h) (fun _ _ h => by obtain ⟨_, _, _, h, _⟩ := h; cases h))
  intro v2 I3 H4 hle5 hp6
  have ht := ht.mono hle5
  obtain ⟨vq, i2, t2, h, ⟨pq, cq, rfl, hps⟩, rfl, hcur2⟩ := hp6; cases h
  refine J.op rfl (CU QX ?_)
  intro b7 hb7
  refine J.op rfl (AB 0 CX (EW.c (EW.c (EW.c (EW.c (EW.c EW.z))))) DZ.z ?_)
  refine J.nss (Cj.block (Cj.loop (ι := CSt) (fun j => c5d s f deep ts j) (fun j => j.ts.length) (fun j => [(0, ptr pb 0), (2, ptr b1 0), (3, ptr b7 0)]) (fun j => j.I) (fun j => [(b7, yZ 129 (FX j.q j.p j.c)), (pb, yZ 184 (str s :: i64 j.i :: ZO j.t [i64 deep])), (b1, yZ 129 (FX Cq.zero none 0))]) ⟨f, q, pq, cq, i2, t2, ts2, _⟩ ⟨hcur2, by simp only [Cq.query, hq], hps, by have h := (Cq.less f).1 deep ts hcur.good; rw [hq] at h; have := h.2; dsimp only; omega, Nat.le_refl _, ht⟩ ⟨rfl, rfl, rfl, trivial⟩ rfl rfl ?_))
  clear hps ht
  rintro ⟨f', q, p, c, i', t, ts', I1⟩ ⟨hcur1, heq, hps, hf', hff, ht⟩
  dsimp only at hcur1 heq hps hf' hff ht ⊢
  obtain ⟨r, rfl⟩ := hcur1.cons
  obtain ⟨g, rfl⟩ : ∃ g, f' = g + 1 := ⟨f' - 1, by simp at hf'; omega⟩
  have htx := hcur1.txt
  refine Cj.seq (Cj.sr (J.z yP ?_))
  refine J.z zQ ?_
  refine J.z (qq2 (off' := 0) IG JV) ?_
  refine J.z (qq2 (off' := 2) DX CJ) ?_
  refine J.z (zW IX CJ (yR.at 1 rfl)) ?_
  refine J.op rfl (yU rfl rfl rfl rfl rfl (WE t (by omega) _ ht) ?_)
  refine J.z (NV rfl rfl rfl) ?_
  refine J.cd (fun hc8 => ?_) (fun hc8 => ?_)
  ·have hc8p := BH hc8
   have hop : Cq.operator t ≠ 0 := by have := BH hc8; omega
   obtain ⟨hi, hcur2⟩ := hcur1.next (Cq.a8c hop)
   refine Cj.ks (Cj.block (Cj.sr (J.z yP ?_)))
   refine J.z zQ ?_
   refine J.z (qq2 (off' := 0) IG JV) ?_
   refine J.z (qq2 (off' := 2) DX CJ) ?_
   refine J.z (zW IX CJ (yR.at 1 rfl)) ?_
   refine J.op rfl (yU rfl rfl rfl rfl rfl (WE t (by omega) _ ht) ?_)
   refine J.z yQ ?_
   refine J.yX (J.z yP ?_)
   refine J.z zQ ?_
   refine J.z (qq2 (off' := 0) IG JV) ?_
   refine J.pull (Pull.s Pull.z) ?_
   refine J.op rfl (yT (H1 := [_]) rfl rfl rfl rfl rfl (scan_ok _ _ s _ _ _ _ _ hi hs _) ?_ (fun _ _ _ _ h => by cases h.1) (fun _ _ h => by cases h.1))
   intro v9 I10 H11 hle12 hp13
   have ht := ht.mono hle12
   have hps := hps.mono hle12
   obtain ⟨h, rfl⟩ := hp13; cases h
   refine J.ns (Cj.JD [1, 2] [] 6 (by kernel_rfl) ?_)
   refine JA.fix ⟨(HSub.c 1 rfl (HSub.c 2 rfl HSub.n)), CSub.n, (Le.refl _)⟩ (fun fx14 => ?_)
   refine JA.tk 0 rfl fx14 yP ?_
   refine JA.tk 1 rfl fx14 (zW FT CX (yR.ZU 0 rfl)) ?_
   refine JA.tk 2 rfl fx14 yP ?_
   rcases hq : Cq.clause g deep r with ⟨q2, ts2⟩ | ⟨pe, ee⟩
   ·skip
    refine JA.pull Pull.z ?_
    refine zO 3 rfl (yT (H1 := [_]) rfl rfl rfl rfl rfl ((by have h := ih g (by omega) pb (Cq.lex s i').2 deep s (Cq.lex s i').1 r _ hcur2 ht hs (by simp at hf'; omega) hd; rw [hq] at h; exact h)) ?_ (fun _ _ _ _ h => by obtain ⟨_, _, _, h, _⟩ := h; cases h) (fun _ _ h => by obtain ⟨_, _, _, h, _⟩ := h; cases h))
    intro v15 I16 H17 hle18 hp19
    have ht := ht.mono hle18
    have hps := hps.mono hle18
    obtain ⟨vq, i2, t2, h, ⟨pq, cq, rfl, hps2⟩, rfl, hcur3⟩ := hp19; cases h
    refine ⟨⟨(Le.trans (Le.refl _) hle18), (HSub.c 1 rfl (HSub.c 2 rfl HSub.n)), CSub.n⟩, ?_⟩
    refine zO 4 rfl (BQ a0k CX QX (IC.agg rfl (IC.agg rfl IC.none)) ?_)
    intro b20 hb20
    refine ⟨⟨(Le.trans (Le.refl _) hle18), (HSub.c 2 rfl (HSub.c 3 rfl HSub.n)), CSub.n⟩, ?_⟩
    refine JA.persist hb20 (fun I22 hle21 hb20i => ?_)
    have ht := ht.mono hle21
    have hps := hps.mono hle21
    have hps2 := hps2.mono hle21
    refine JA.fix ⟨(HSub.c 1 rfl (HSub.c 2 rfl HSub.n)), CSub.n, (Le.trans (Le.trans (Le.refl _) hle18) hle21)⟩ (fun fx23 => ?_)
    refine JA.tk 5 rfl fx23 (BD (pl := #[(0, 1), (1, 1), (2, 1), (3, 1), (4, 1)]) rfl rfl QX rfl EG (fun w => by simp [UM, BO, zS]) (KP.part rfl rfl rfl (EW.c EW.z) (KP.part rfl rfl rfl (EW.s (EW.s (EW.s (EW.s (EW.c EW.z))))) KP.none))) ?_
    refine JA.last 6 (by kernel_rfl) rfl rfl rfl (AB 1 CX (EW.c (EW.c (EW.c (EW.c (EW.c EW.z))))) (DZ.s DZ.z) ?_)
    refine AA ?_
    refine Ej.FM (Ej.keep (Keeps.k (Keeps.k (Keeps.k Keeps.n))) ?_)
    refine Ej.pull (Pull.s (Pull.s Pull.z)) ?_
    refine Ej.pull (Pull.s Pull.z) ?_
    refine Ej.pull (Pull.s (Pull.s Pull.z)) ?_
    refine Ej.round ⟨g, Cq.two (Cq.operator t) q q2, some ⟨b20, 0, none⟩, 2, i2, t2, ts2, _⟩ ⟨hcur3, by rw [heq]; simp only [Cq.more, hop, if_false, hq], PS.two hps hps2 hb20i, by have h := (Cq.less g).1 deep r hcur2.good; rw [hq] at h; have := h.2; simp at hf' ⊢; omega, by dsimp only; omega, ht⟩ (by have h := (Cq.less g).1 deep r hcur2.good; rw [hq] at h; have := h.2; simp; omega) ⟨rfl, rfl, rfl, trivial⟩ rfl rfl
   skip
   refine JA.pull Pull.z ?_
   refine zO 3 rfl (yT (H1 := [_]) rfl rfl rfl rfl rfl ((by have h := ih g (by omega) pb (Cq.lex s i').2 deep s (Cq.lex s i').1 r _ hcur2 ht hs (by simp at hf'; omega) hd; rw [hq] at h; exact h)) (fun _ _ _ _ h => by cases h.1) ?_ (fun _ _ h => by cases h.1))
   intro v24 I25 H26 hle27 hp28
   have ht := ht.mono hle27
   have hps := hps.mono hle27
   obtain ⟨h, rfl⟩ := hp28; cases h
   refine Ej.b1r ?_
   refine Ej.b6w ?_
   refine Ej.b1r ?_
   refine Ej.b2h ?_
   refine Ej.bare ?_
   refine Ej.pan rfl ?_
   show NP pb s deep (Cq.query (f + 1) deep ts) _ _ _
   have hev : Cq.query (f + 1) deep ts = .err pe ee := by rw [heq]; simp only [Cq.more, hop, if_false, hq]
   rw [hev]
   exact ⟨rfl, rfl⟩
  have hc8p := BJ hc8
  have hop : Cq.operator t = 0 := by have := BJ hc8; omega
  refine Cj.xl (Cj.sr (J.z (zW FT CX (yR.at 0 rfl)) ?_))
  refine J.op rfl (AB 2 CX (EW.c (EW.c (EW.c (EW.c (EW.c EW.z))))) (DZ.s (DZ.s DZ.z)) ?_)
  refine J.ns (Cj.ret (Ej.a9Y (Keeps.d (Keeps.k (Keeps.d Keeps.n))) rfl rfl rfl (yR.at 2 rfl) FT CX rfl ?_))
  show NP pb s deep (Cq.query (f + 1) deep ts) _ _ _
  rw [heq]
  simp only [Cq.more, hop, if_true]
  exact ⟨_, _, _, rfl, ⟨p, c, rfl, hps⟩, rfl, hcur1⟩
 skip
 refine J.pull (Pull.s Pull.z) ?_
 refine J.op rfl (yT (H1 := [_]) rfl rfl rfl rfl rfl ((by have h := ih f (Nat.le_refl _) pb i deep s t ts _ hcur ht hs (by omega) hd; rw [hq] at h; exact h)) (fun _ _ _ _ h => by cases h.1) ?_ (fun _ _ h => by cases h.1))
 intro v29 I30 H31 hle32 hp33
 have ht := ht.mono hle32
 obtain ⟨h, rfl⟩ := hp33; cases h
 refine Ej.b2h ?_
 refine Ej.bare ?_
 refine Ej.pan rfl ?_
 show NP pb s deep (Cq.query (f + 1) deep ts) _ _ _
 have hev : Cq.query (f + 1) deep ts = .err pe ee := by simp only [Cq.query, hq]
 rw [hev]
 exact ⟨rfl, rfl⟩
theorem a1N : ∀ f, (∀ g, g ≤ f → b0Q g) ∧ ∀ g, g ≤ f → a6R g
  | 0 => ⟨fun g hg => by obtain rfl : g = 0 := by omega
                         intro pb i deep s t ts I hcur ht hs hf hd; omega, fun g hg => by obtain rfl : g = 0 := by omega
                                                                                          intro pb i deep s t ts I hcur ht hs hf hd; omega⟩
  | f + 1 => by
    obtain ⟨h1, h2⟩ := a1N f
    refine ⟨fun g hg => ?_, fun g hg => ?_⟩
    · rcases Nat.lt_or_ge f g with h | h
      · obtain rfl : g = f + 1 := by omega
        exact b0H f (b5y f (h2 f (Nat.le_refl _)))
      exact h1 g h
    rcases Nat.lt_or_ge f g with h | h
    · obtain rfl : g = f + 1 := by omega
      exact b2x f h1
    exact h2 g h
theorem a8S f:a6R f:=(a1N f).2 f (bW _)
theorem b2C h A G I:UZ aI 93 [ptr h 0,ptr A 0,ptr G 0] .returning I [] (fun N Q H'=>N= .returning∧H'=[]):=by
 refine dV .nilIface .returning func93 rfl dE (bH rfl) rfl rfl rfl rfl rfl rfl rfl rfl (fun _ cs O=> .inr ⟨by simp[recoverD,O],rfl,rfl⟩) ?_;intro w0 _;refine Cj.sr (aB yP ?_);refine aB (b6j rfl rfl rfl c4l) ?_;refine J.c0 (fun _=>?_);refine Cj.skip (Ej.RY rfl rfl ?_);exact⟨⟨_,rfl⟩,rfl,rfl⟩
theorem a4n N O Q p A y0 y1 Z y3 y4 x3 x4 I:UZ aI 93 [ptr N 0,ptr O 0,ptr Q 0] (.panicking (a4f p A)) I [(Q,yZ 59 [x4]),(O,yZ 3 [x3]),(N,yZ 129 [y0,y1,Z,y3,y4])]
 (fun u' I' H'=>u'= .panicking [{ v:= .iface 175 (.agg #[i64 p,i64 A]),recovered:=true }]∧H'=[(Q,yZ 59 [i64 A]),(O,yZ 3 [i64 p]),(N,yZ 129 (FX Cq.zero none 0))]):=by
 refine dV (.iface 175 (.agg #[i64 p,i64 A])) (.panicking [{ v:= .iface 175 (.agg #[i64 p,i64 A]),recovered:=true }]) func93 rfl dE (bH rfl) rfl rfl rfl rfl rfl rfl rfl rfl (fun _ cs hc=> .inl (by simp[recoverD,hc,a4f])) ?_;intro w0 _;refine Cj.sr (aB yP ?_);refine aB (b5T rfl rfl rfl c4l) ?_;refine J.c1 (fun _=>?_);refine Cj.sr (aB yP ?_);refine aB (a5y rfl rfl a6r rfl) ?_;refine aB yP ?_;refine aB AZ ?_;refine aB AZ ?_;refine aX rfl (CU zeroValue175 ?_);intro _ _;refine aX rfl (AB 0 sizeOf175 (aF (aF bI)) bM ?_);refine aB yQ ?_;refine J.zX (aY (aB yP ?_));refine aB (ER rfl rfl) ?_;refine J.ns (Cj.cond rfl (fun G=>Bool.noConfusion (Eq.trans (Eq.symm (zD not rfl)) G)) (fun G=>?_));refine Cj.ks (Cj.JD [0] [] 8 kR ?_);refine JA.fix ⟨(dW 0 rfl dX),dY,(dM _)⟩ (fun h=>?_);refine dS 0 rfl h (BD (pl:= #[(0,1),(1,1),(2,1),(3,1),(4,1)]) rfl rfl QX rfl EG (fun w=>by simp[UM,BO,zS]) dP) ?_;refine dS 1 rfl h (qq2 (off':=0) a6r BO) ?_;refine dS 2 rfl h (yV FY (yR.ZU 0 rfl)) ?_;refine dS 3 rfl h (qq2 (off':=1) a6r a0Q) ?_;refine dS 4 rfl h (yV isAgg59 (yR.ZU 0 rfl)) ?_;refine zO 5 rfl (AB 3 CX (aF (aF (aF (aF (aF bI))))) (aN (aN (aN bM))) ?_);refine⟨⟨(dM _),(dW 0 rfl dX),dY⟩,?_⟩;refine zO 6 rfl (AB 2 BO (aF bI) (aN (aN bM)) ?_);refine⟨⟨(dM _),(dW 0 rfl dX),dY⟩,?_⟩;refine zO 7 rfl (AB 1 a0Q (aF bI) (aN bM) ?_);refine⟨⟨(dM _),(dW 0 rfl dX),dY⟩,?_⟩;refine AA ?_;refine Ej.keep (aS Keeps.r) ?_;refine Ej.RY rfl rfl ?_;exact⟨⟨_,rfl⟩,rfl,rfl⟩
theorem b7U(s:List UInt8)(hs:s.length≤1000000000)(I:Heap)(N:Tabs I):yS aI 58 [str s] I []
 (fun e I' H'=>(∃v,e= .returned (.tuple #[v,i64 (aZ s).2.1,i64 (aZ s).2.2])∧QV I' (aZ s).1 v)∧H'=[]):=by
 refine yS.b1Q func58 rfl (by decide) (bH rfl) ?_;intro w0 _;refine Cj.sr (aX rfl (CU QX ?_));intro b1 _;refine aX rfl (CU MV ?_);intro b2 _;refine aX rfl (CU a7J ?_);intro b3 _;refine J.yX (aB (DY rfl rfl rfl) ?_);refine J.defer rfl rfl rfl rfl rfl ?_;refine J.yX (aB yP ?_);refine aB (BD (pl:= #[(0,1),(1,1),(2,3)]) rfl rfl zeroValue182 rfl DX (fun w=>by simp[CJ,BO,zS]) (KP.part rfl rfl rfl (aF bI) dP)) ?_;refine aB (BD (pl:= #[(0,5),(5,1)]) rfl rfl zeroValue184 rfl IG (fun w=>by simp[JV,BO]) (KP.part rfl rfl rfl (aF (aF (aF (aF (aF bI))))) dP)) ?_;refine aX rfl (BG ?_);intro b4 _;refine aB yQ ?_;refine J.yX (aB yP ?_);refine aB zQ ?_;refine aB (qq2 (off':=0) IG JV) ?_;refine J.pull Pull.z ?_;refine aX rfl (yT (H1:=[_]) rfl rfl rfl rfl rfl (scan_ok _ _ s 0 _ _ _ _ (by omega) hs _) ?_ (fun _ _ _ _ h=>by cases h.1) (fun _ _ h=>by cases h.1));intro _ _ _ a5 a9;have N:=N.mono a5;obtain⟨h,rfl⟩:=a9;cases h;refine J.yX (aB yP ?_);rcases hq:dU (4*s.length+9) 0 (dQ s)with⟨q,aa⟩|⟨pe,ee⟩
 ·skip
  refine J.pull Pull.z ?_;refine aX rfl (yT (H1:=[_]) rfl rfl rfl rfl rfl ((by have h:=a8S (4*s.length+9) b4 (dZ s 0).2 0 s (dZ s 0).1 (dQ s) _ (bP s) N hs (by have:=(bP s).len;omega) (by omega);rw[hq]at h;exact h)) ?_ (fun _ _ _ _ h=>by obtain⟨_,_,_,h,_⟩:=h;cases h) (fun _ _ h=>by obtain⟨_,_,_,h,_⟩:=h;cases h));intro _ _ _ a1 a6;have N:=N.mono a1;obtain⟨_,_,t2,h,⟨pq,cq,rfl,O⟩,rfl,a2⟩:=a6;cases h;obtain⟨_,rfl⟩:=a2.cons;refine aX rfl (AB 3 CX (aF (aF (aF (aF (aF bI))))) (aN (aN (aN bM))) ?_);refine J.zX (aY (aB yP ?_));refine aB zQ ?_;refine aB (qq2 (off':=0) IG JV) ?_;refine aB (qq2 (off':=2) DX CJ) ?_;refine aB (qq2 (off':=2) DV EM) ?_;refine aB (yV JW (yR.at 0 rfl)) ?_;refine aB (GH rfl rfl rfl) ?_;refine J.cd (fun A=>?_) (fun A=>?_)
  ·have a3:=bne_iff_ne.1 A;have a0:t2.kind≠0:=by have:=bne_iff_ne.1 A;omega
   refine aY (aB yP ?_);refine aB yP ?_;refine aB zQ ?_;refine aB (qq2 (off':=0) IG JV) ?_;refine aB (qq2 (off':=2) DX CJ) ?_;refine aB (zW IX CJ (yR.at 0 rfl)) ?_;refine aX rfl (yT (H1:=[]) rfl rfl rfl rfl rfl (SH _ _ _ _) (fun _ _ _ _ h=>by cases h.1) ?_ (fun _ _ h=>by cases h.1));intro _ _ _ Z a7;have N:=N.mono Z;have O:=O.mono Z;obtain⟨h,rfl⟩:=a7;cases h;refine Ej.b2h ?_;refine Ej.keep (aS (eH (eH (eH dN)))) ?_;refine eF (H1:=[_,_,_]) (R1:=[]) (.inr (.inr ⟨_,rfl,rfl⟩)) rfl (a4n b1 b2 b3 t2.pos 40 _ _ _ _ _ _ _ _) ?_;rintro u2 I2 H2 Q ⟨rfl,rfl⟩;have G:aZ s=(Cq.zero,t2.pos,40):=by unfold aZ;rw[hq];simp[a0]
   refine⟨rfl,dL (aS (aS (aS dN))) rfl rfl rfl rfl (yR.at 2 rfl) (yR.at 1 rfl) (yR.at 0 rfl) FT FY isAgg59 CX rfl ?_⟩;rw[G];exact⟨⟨_,rfl,none,0,rfl,.inl rfl⟩,rfl⟩
  have a3:=DI A;have a0:t2.kind=0:=by have:=DI A;omega
  refine Cj.ks (Cj.sr (aB (zW FT CX (yR.at 3 rfl)) ?_));refine aX rfl (AB 3 CX (aF (aF (aF (aF (aF bI))))) (aN (aN (aN bM))) ?_);refine aX rfl (AB 2 BO (aF bI) (aN (aN bM)) ?_);refine aX rfl (AB 1 a0Q (aF bI) (aN bM) ?_);refine J.ns (Cj.ret (eF (H1:=[]) (.inl rT) rfl (b2C b1 b2 b3 _) ?_));rintro u2 I2 H2 Q ⟨rfl,rfl⟩;have O:=O.mono Q;have G:aZ s=(q,0,0):=by unfold aZ;rw[hq];simp[a0]
  refine⟨rfl,dL (aS (aS (aS (aS dN)))) rfl rfl rfl rfl (yR.at 3 rfl) (yR.at 2 rfl) (yR.at 1 rfl) FT FY isAgg59 CX rfl ?_⟩;rw[G];exact⟨⟨_,rfl,pq,cq,rfl,O⟩,rfl⟩
 skip
 refine J.pull Pull.z ?_;refine aX rfl (yT (H1:=[_]) rfl rfl rfl rfl rfl ((by have h:=a8S (4*s.length+9) b4 (dZ s 0).2 0 s (dZ s 0).1 (dQ s) _ (bP s) N hs (by have:=(bP s).len;omega) (by omega);rw[hq]at h;exact h)) (fun _ _ _ _ h=>by cases h.1) ?_ (fun _ _ h=>by cases h.1));intro _ _ _ a4 a8;have N:=N.mono a4;obtain⟨h,rfl⟩:=a8;cases h;refine Ej.b2h ?_;refine eF (H1:=[_,_,_]) (R1:=[]) (.inr (.inr ⟨_,rfl,rfl⟩)) rfl (a4n b1 b2 b3 pe ee _ _ _ _ _ _ _ _) ?_;rintro u2 I2 H2 Q ⟨rfl,rfl⟩;have G:aZ s=(Cq.zero,pe,ee):=by unfold aZ;rw[hq]
 refine⟨rfl,dL (aS (aS (aS dN))) rfl rfl rfl rfl (yR.at 2 rfl) (yR.at 1 rfl) (yR.at 0 rfl) FT FY isAgg59 CX rfl ?_⟩;rw[G];exact⟨⟨_,rfl,none,0,rfl,.inl rfl⟩,rfl⟩
end Go.Proofs.YtdjkhllhakhjbaaGreatDoor
namespace Ke
def closed (c:Nat):Prop:=(97≤c∧c≤122)∨(48≤c∧c≤57)∨((945≤c∧c≤969)∧c≠962)∨(1072≤c∧c≤1103)
instance (c:Nat):Decidable (closed c):=by unfold closed;infer_instance
theorem XF{c}(h:closed c):okc c:=by unfold closed at h;unfold okc;omega
theorem b6z{c}(h:945≤c∧c≤969):tab.lookup c=none:=by
 have A:∀k<25,tab.lookup (945+k)=none:=by decide +kernel
 have:=A (c-945) oM
 rwa [show 945+(c-945)=c by omega]at this
theorem c3B{c:Nat}(h:1072≤c∧c≤1103):tab.lookup c=none:=by
 have A:∀k<32,tab.lookup (1072+k)=none:=by decide +kernel
 have:=A (c-1072) oM
 rwa [show 1072+(c-1072)=c by omega]at this
theorem b2D{c}(h:closed c):char c=enc c:=by
 unfold char;unfold closed at h
 by_cases h1:(97≤c∧c≤122)∨(48≤c∧c≤57)
 ·rw[zG h1]
 have A:((945≤c∧c≤969)∧c≠962)∨(1072≤c∧c≤1103):=oM;rw[zF h1,zF oM,zF oM,zF oM];have G:tab.lookup c=none:=by
  rcases A with A|A
  ·exact b6z A.1
  exact c3B A
 rw[G];simp only;rw[zF oM,zG oM]
theorem b1n{c}(h:closed c):enc c≠[32]:=by
 intro G;have A:=a9g (XF h);rw[G]at A;have N:runes [32]=[32]:=kR;rw[N]at A;have:c=32:=(List.cons.inj A).1.symm;unfold closed at h;omega
def b6B (s:Bs):Bool:=decide (encs (runes s)=s) && (runes s).all fun c=>decide (closed c)
theorem c2T:tab.all (fun p=>b6B p.2)=true:=by decide +kernel
theorem a6W:∀{l:List (Nat×Bs)} {c:Nat} {s:Bs},l.lookup c=some s→(c,s)∈l
 |[],_,_,h=>by cases h
 |(a,b)::r,c,s,h=>by
  rw[List.lookup_cons]at h
  split at h
  ·rename_i A
   have:=zC A;subst this;cases h;exact .head _
  exact .tail _ (a6W h)
theorem c1p c:char c=[32]∨∃l,char c=encs l∧∀d∈l,closed d:=by
 have one:∀d,closed d→∃l,enc d=encs l∧∀x∈l,closed x:=fun d hd=>⟨[d],by simp[encs],fun x G=>by simp at G;subst G;exact hd⟩;unfold char
 split
 ·rename_i h;exact .inr (one c (by unfold closed;omega))
 split
 ·exact .inr (one (c+32) (by unfold closed;omega))
 split
 ·exact .inl rfl
 split
 ·exact .inr ⟨[],rfl,fun _ h=>by cases h⟩
 split
 ·rename_i s hs
  have A:=aK.1 c2T _ (a6W hs);simp only[b6B,aC,zH]at A;exact .inr ⟨runes s,A.1.symm,fun d hd=>zA (aK.1 A.2 d hd)⟩
 split
 ·exact .inr (one 963 dE)
 split
 ·exact .inr (one c (by unfold closed;omega))
 split
 ·exact .inr (one (c+32) (by unfold closed;omega))
 exact .inl rfl
def MG (w:Bs):Prop:=∃l,w=encs l∧∀d∈l,closed d
theorem c0p a b:encs (a++b)=encs a++encs b:=by simp[encs]
theorem a6P{a b}(h:MG a)(A:MG b):MG (a++b):=by
 obtain⟨l,rfl,G⟩:=h;obtain⟨m,rfl,N⟩:=A;exact⟨l++m,(c0p l m).symm,fun d hd=>(aU.1 hd).elim (G d) (N d)⟩
theorem a1o:∀(l:List Nat) (w:Bs),MG w→∀x∈wf w l,MG x
 |[],w,hw,x,h=>by
  unfold wf at h
  split at h
  ·cases h
  simp at h;subst h;exact hw
 |c::r,w,hw,x,h=>by
  have G:MG []:=⟨[],rfl,fun _ h=>by cases h⟩;unfold wf at h
  split at h
  ·split at h
   ·exact a1o r [] G x h
   rcases bF.1 h with rfl|h
   ·exact hw
   exact a1o r [] G x h
  rename_i N
  rcases c1p c with A|A
  ·exact absurd A N
  exact a1o r _ (a6P hw A) x h
theorem a0F s:∀x∈words s,MG x:=a1o _ _ ⟨[],rfl,fun _ h=>by cases h⟩
theorem a9e:∀(l:List Nat) (w:Bs) (r:List Nat),(∀d∈l,closed d)→wf w (l++r)=wf (w++encs l) r
 |[],w,r,_=>by simp[encs]
 |c::l,w,r,h=>by
  have A:=h c (.head _);show(if char c=[32]then _ else wf (w++char c) (l++r))=_;rw[b2D A,zF (b1n A),a9e l _ r fun d hd=>h d (.tail _ hd)];simp[encs]
theorem b5P{w}(h:MG w):∃l,w=encs l∧runes w=l∧∀d∈l,closed d:=by
 obtain⟨l,rfl,A⟩:=h;exact⟨l,rfl,a7l l fun c G=>XF (A c G),A⟩
theorem a2g{w}(h:MG w)(A:w≠[]):words w=[w]:=by
 obtain⟨l,rfl,G,N⟩:=b5P h;unfold words;rw[G];have:=a9e l [] [] N;rw[bJ]at this;rw[this,bK];unfold wf;rw[zF A]
theorem a7c{c}(h:char c=[32]):∀(l:List Nat) (w:Bs) (r:List Nat),wf w (l++c::r)=wf w l++wf [] r
 |[],w,r=>by
  simp only[bK,wf,h,if_true]
  split<;>simp
 |d::l,w,r=>by
  simp only[dG,wf]
  split
  ·split
   ·exact a7c h l [] r
   rw[a7c h l [] r,dG]
  exact a7c h l _ r
theorem b4S:char 32=[32]:=dE
theorem b6T c s t (h:c.toNat<128)(A:char c.toNat=[32]):words (s++c::t)=words s++words t:=by
 unfold words;rw[a8C s (c::t) (WC oM),b2B t h,a7c A]
theorem a6L:∀(l:List Bs),(∀w∈l,MG w∧w≠[])→words (join l)=l
 |[],_=>rfl
 |[a],h=>a2g (h a (.head _)).1 (h a (.head _)).2
 |a::b::r,h=>by
  show words (a++[32]++join (b::r))=_;rw[aQ,cO,b6T 32 a _ dE b4S,a2g (h a (.head _)).1 (h a (.head _)).2,a6L (b::r) fun w A=>h w (.tail _ A)];rfl
theorem a8F{s w}(h:w∈words s):w≠[]∧words w=[w]:=
 ⟨XZ _ _ w h,a2g (a0F s w h) (XZ _ _ w h)⟩
end Ke
namespace Ke
theorem ofNat_toNat{k}(h:k<256):(eG k).toNat=k:=by simp;omega
theorem b2p{w}(h:digits w=true):MG w:=by
 induction w with
 |nil=>exact⟨[],rfl,fun _ h=>by cases h⟩
 |cons c r A=>
  rw[b2Z,aC]at h;have N:=a4d.1 h.1;have G:MG [c]:=⟨[c.toNat],by
   have:enc c.toNat=[c]:=by rw[enc1 oM];simp
   simp[encs,this],fun d hd=>by simp at hd;subst hd;unfold closed;omega⟩
  exact a6P G (A h.2)
end Ke
namespace Ke
def plainW (w:Bs):Bs:=if digits w then w.drop 2 else w
def a1V (k:Bs):Bs:=join ((words k).map plainW)
theorem b0O{w}(h:digits w=true):digits (strip w)=true:=by
 unfold strip;rw[a2z,aC];refine⟨aK.2 fun c A=>aK.1 h c ?_,aK.2 fun c A=>aK.1 h c (List.mem_of_mem_drop A)⟩;exact(List.dropLast_sublist _).subset ((List.dropWhile_sublist _).subset A)
theorem a9L{w}(h:digits w=true):digits (number w)=true:=by
 unfold number;show digits ([_,_]++strip w)=true;rw[a2z,b0O h,dR];have hd:∀n,n<10→digit (eG (48+n))=true:=dE;simp only[digits,List.all_cons,List.all_nil,dR,aC];exact⟨hd _ oM,hd _ oM⟩
theorem a0U{w}(h:MG w)(A:w≠[]):MG (NG w)∧NG w≠[]:=by
 unfold NG
 split
 ·rename_i hd
  exact⟨b2p (a9L hd),by unfold number;simp⟩
 exact⟨h,A⟩
theorem a8y s skip:words (JK s skip)=(words (cut s skip)).map NG:=by
 unfold JK;refine a6L _ fun x A=>?_;obtain⟨w,h,rfl⟩:=bQ.1 A;exact a0U (a0F _ w h) (a8F h).1
end Ke
namespace Ke
open Go.Lib (decodeL fieldsGoD fieldsD isSpaceR fieldsGoD_nil)
theorem b7W{c}(h:closed c):isSpaceR c=false:=by
 unfold closed at h;unfold isSpaceR;simp only[Bool.or_eq_false_iff,Bool.and_eq_false_iff,decide_eq_false_iff_not,beq_eq_false_iff_ne];omega
theorem a5v:∀(l:List Nat) (A t:Bs) (f:Nat),(∀d∈l,closed d)→opens t→(encs l++t).length<f→∃g,t.length<g∧fieldsGoD f A (encs l++t)=fieldsGoD g (A++encs l) t
 |[],A,t,f,_,_,hf=>⟨f,hf,by simp[encs]⟩
 |c::l,A,t,0,_,_,hf=>absurd hf (Nat.not_lt_zero _)
 |c::l,A,t,f+1,h,ht,hf=>by
  have G:=h c (.head _);have N:=a1t (XF G);have e:encs (c::l)++t=enc c++(encs l++t):=by simp[encs]
  have O:opens (encs l++t):=b5q (a7a l fun d hd=>XF (h d (.tail _ hd))) ht;have hp:0<(enc c).length:=List.length_pos_iff.2 N.2;rw[e,bC]at hf;obtain⟨g,hg,Q⟩:=a5v l (A++enc c) t f (fun d hd=>h d (.tail _ hd)) ht oM;refine⟨g,hg,?_⟩;rw[e]
  conv=>lhs;unfold fieldsGoD
  rw[zF (by intro Z;exact N.2 (List.append_eq_nil_iff.1 Z).1),a4Z _ _ N.2 O,a5e (XF G)];dsimp only;rw[b7W G,zF dB,List.take_left,List.drop_left,Q];simp[encs]
theorem b1U:∀(ws:List Bs) (f:Nat),(∀w∈ws,MG w∧w≠[])→(join ws).length<f→fieldsGoD f [] (join ws)=ws
 |[],f,_,_=>by rw[show join []=[] from rfl,fieldsGoD_nil,zG rfl]
 |[a],f,h,hf=>by
  obtain⟨⟨l,rfl,N⟩,A⟩:=h a (.head _);show fieldsGoD f [] (encs l)=_;have O:(encs l++[]).length<f:=by rw[bJ];exact hf
  obtain⟨g,_,G⟩:=a5v l [] [] f N a8L O;rw[bJ,bK]at G;rw[G,fieldsGoD_nil,zF A]
 |a::b::r,f,h,hf=>by
  obtain⟨⟨l,rfl,N⟩,A⟩:=h a (.head _);have e:join (encs l::b::r)=encs l++(32::join (b::r)):=by
   show encs l++[32]++join (b::r)=_;rw[aQ,cO]
  rw[e]at hf ⊢;obtain⟨g,hg,G⟩:=a5v l [] (32::join (b::r)) f N (WC dE) hf;rw[G,bK]
  match g,hg with
  |g+1,hg=>
   rw[bG]at hg;have hd:decodeL (32::join (b::r))=(32,1):=Go.Lib.decodeL_ascii 32 _ dE
   conv=>lhs;unfold fieldsGoD
   rw[zF sI,hd];dsimp only;rw[show isSpaceR 32=true from rfl,zG rfl,zF A,List.drop_one,List.tail_cons,b1U (b::r) g (fun w Q=>h w (.tail _ Q)) oM];rfl
theorem b2y ws (h:∀w∈ws,MG w∧w≠[]):fieldsD (join ws)=ws:=b1U ws _ h oM
theorem b6b s skip:fieldsD (JK s skip)=words (JK s skip):=by
 rw[a8y];unfold JK;refine b2y _ fun x A=>?_;obtain⟨w,h,rfl⟩:=bQ.1 A;exact a0U (a0F _ w h) (a8F h).1
theorem a5b f (hf:∀w,(f w).length≤w.length):∀ws:List Bs,(join (ws.map f)).length≤(join ws).length
 |[]=>bW _
 |[a]=>hf a
 |a::b::r=>by
  have h:=hf a;have A:=a5b f hf (b::r);show(f a++[32]++join ((b::r).map f)).length≤(a++[32]++join (b::r)).length;simp only[bC,List.length_singleton];omega
theorem b5r w:(plainW w).length≤w.length:=by
 unfold plainW
 split
 ·rw[bT];omega
 exact bW _
def b0r (k:Bs):Prop:=k.length≤40000000∧fieldsD k=words k∧(a1V k).length≤40000000∧(join (words k)).length≤40000000
theorem c2t{s skip}(h:s.length≤4000000):b0r (JK s skip):=by
 have O:(cut s skip).length≤s.length:=by unfold cut;rw[bT];omega
 have A:(JK s skip).length≤40000000:=by
  have:=a5P (cut s skip);unfold JK;omega
 have G:join (words (JK s skip))=JK s skip:=by rw[a8y];rfl
 refine⟨A,b6b s skip,?_,by rw[G];exact A⟩;have N:=a5b plainW b5r (words (JK s skip));rw[G]at N;unfold a1V;omega
end Ke
namespace Ix
open Ke
theorem a8X n:keyOf n []=[]:=by
 unfold keyOf;rw[zF (fun h=>absurd h.1 (by decide +kernel))];decide +kernel
theorem b1v{L}(h:LU L) n b:IK L n b=(IK L n []).filter fun k=>decide (¬k<b):=by
 refine a6U (YT L n b) ((YT L n []).filter _) fun k=>?_;rw[bU,UE h,UE h,zH];constructor
 ·rintro⟨A,G⟩;exact⟨⟨List.not_lt_nil k,G⟩,A⟩
 rintro⟨⟨_,G⟩,A⟩;exact⟨A,G⟩
theorem b8s s:∀(l:Row) (d:Bool),(pg s d l).length≤l.length+1
 |[],d=>by cases d<;>simp[pg]
 |x::r,true=>by rw[a1O];omega
 |x::r,false=>by
  have A:=b8s s r false;have h:pg s true r=r:=a1O s r;simp only[pg,h]
  repeat' split
  all_goals simp only[bG];omega
theorem c4b l s:(put l s).length≤l.length+1:=by
 unfold put
 repeat' split
 all_goals first
  |exact b8s s l _
  |omega
theorem b2m:∀(xs l:Row),(xs.foldl put l).length≤l.length+xs.length
 |[],l=>sI
 |x::r,l=>by
  have h:=b2m r (put l x);have A:=c4b l x;rw[List.foldl_cons,bG];omega
end Ix
namespace Ix
open Ke
def rEq:Bs:=[61]
def c5u:Bs:=[61,61]
def rGe:Bs:=[62,61]
def c5w:Bs:=[97,110,121]
def c5x:Bs:=[97,108,108]
def keyed (L:Ix) (n:Bs) (ks:Row):List Rec:=ks.flatMap fun k=>LJ L n (keyOf n (a1V k))
def b1c (L:Ix) (i r s:Bs) (t:Rec):Bool:=
 if r=rEq then(if i=a7m then decide (t∈LJ L i (keyOf i s))else decide (t∈phrase L i (words s)))
 else if r=c5u then decide (t∈LJ L i (keyOf i s))
 else if r=c5w then(words s).any fun w=>decide (t∈word L i w)
 else if r=c5x then !(words s).isEmpty && (words s).all fun w=>decide (t∈word L i w)
 else if r=rGe then decide (t∈keyed L i (IK L i (keyOf i s)))
 else decide (t∈keyed L i ((IK L i []).take ((IK L i []).length-(IK L i (keyOf i s)).length)))
def comb (k:Int) (a b:Bool):Bool:=if k=2 then a && b else if k=3 then a || b else a && !b
def b9T (L:Ix) (t:Rec) (k:Int) (i r x:Bs) (bs:List Bool):Bool:=if k=1 then b1c L i r x t else match bs with
 |[a,b]=>comb k a b
 |_=>false
def b5L (L:Ix) (t:Rec):Cq.Qs→List Bool
 | .nil=>[]
 | .cons k i r x ps rest=>b9T L t k i r x (b5L L t ps)::b5L L t rest
def sat (L:Ix) (q:Cq.Qn) (t:Rec):Bool:=b9T L t q.k q.i q.r q.t (b5L L t q.ps)
theorem b1Y{L q t}(h:q.k=1):sat L q t=b1c L q.i q.r q.t t:=zG h
theorem b3C{L q a b t}(h:q.k≠1)(A:q.ps=a.push (b.push .nil)):sat L q t=comb q.k (sat L a t) (sat L b t):=by
 unfold sat b9T;rw[zF h,A];rfl
def a0g (L:Ix) (a b:Rec):Prop:=UG L a<UG L b∨(UG L a=UG L b∧FZ a b=true)
theorem a8H L a:¬a0g L a a:=by
 rintro(h|⟨_,h⟩)
 ·exact List.lt_irrefl _ h
 rw[IQ]at h;cases h
theorem b2W{L a b c}(h:a0g L a b)(A:a0g L b c):a0g L a c:=by
 rcases h with h|⟨h,G⟩<;>rcases A with A|⟨A,N⟩
 ·exact .inl (List.lt_trans h A)
 ·exact .inl (A▸h)
 ·exact .inl (h▸A)
 exact .inr ⟨h.trans A,LH G N⟩
theorem b3W{α:Type}{r:α→α→Prop}(G:∀a,¬r a a)(N:∀{a b c},r a b→r b c→r a c):∀{l m:List α},l.Pairwise r→m.Pairwise r→(∀x,x∈l↔x∈m)→l=m
 |[],[],_,_,_=>rfl
 |[],b::m,_,_,h=>absurd ((h b).2 (.head _)) sI
 |a::l,[],_,_,h=>absurd ((h a).1 (.head _)) sI
 |a::l,b::m,hl,hm,h=>by
  rw[List.pairwise_cons]at hl hm;have O:a=b:=by
   rcases bF.1 ((h a).1 (.head _))with e|Q
   ·exact e
   rcases bF.1 ((h b).2 (.head _))with e|Z
   ·exact e.symm
   exact absurd (N (hl.1 b Z) (hm.1 a Q)) (G a)
  subst O
  congr 1
  refine b3W G N hl.2 hm.2 fun x=>⟨fun A=>?_,fun A=>?_⟩
  ·rcases bF.1 ((h x).1 (.tail _ A))with e|g
   ·exact absurd (e▸hl.1 x A) (G a)
   exact g
  rcases bF.1 ((h x).2 (.tail _ A))with e|g
  ·exact absurd (e▸hm.1 x A) (G a)
  exact g
theorem c1l{l m:List Rec}(A:l.Nodup)(h:∀x∈l,x∈m):l.length≤m.length:=by
 induction l generalizing m with
 |nil=>simp
 |cons a r Q=>
  rw[List.nodup_cons]at A;have G:=h a (.head _);have:=Q (m:=m.erase a) A.2 fun x N=>by
   have O:x≠a:=fun e=>A.1 (e▸N);exact(List.mem_erase_of_ne O).2 (h x (.tail _ N))
  rw[List.length_erase_of_mem G]at this;have Z:0<m.length:=List.length_pos_of_mem G;rw[bG];omega
def PV (L:Ix) (q:Cq.Qn) (l:List Rec):Prop:=l.Pairwise (a0g L)∧∀t,t∈l↔t∈L.map (·.1)∧sat L q t=true
theorem PV.eq{L q l m}(h:PV L q l)(A:PV L q m):l=m:=
 b3W (a8H L) b2W h.1 A.1 fun x=>(h.2 x).trans (A.2 x).symm
theorem PV.len{L q l}(h:PV L q l):l.length≤L.length:=by
 have hn:l.Nodup:=List.nodup_iff_pairwise_ne.2 (h.1.imp fun {a b} g e=>by subst e;exact a8H L a g);have hs:∀x∈l,x∈L.map (·.1):=fun x A=>((h.2 x).1 A).1;have:=c1l hn hs
 rwa [aA]at this
theorem a2J{L n k t}(h:t∈LJ L n k):t∈L.map (·.1):=by
 unfold LJ at h
 split at h
 ·cases h
 obtain⟨e,A,rfl⟩:=bQ.1 h;exact dA (bU.1 A).1
theorem a4k{L n w t}(h:t∈phrase L n w):t∈L.map (·.1):=by
 unfold phrase at h
 split at h
 ·cases h
 obtain⟨e,A,rfl⟩:=bQ.1 h;exact dA (bU.1 A).1
theorem a7C{L n s t}(h:t∈word L n s):t∈L.map (·.1):=by
 unfold word at h
 split at h
 ·exact a4k h
 cases h
theorem b9E{L n ks t}(h:t∈keyed L n ks):t∈L.map (·.1):=by
 obtain⟨k,_,h⟩:=List.mem_flatMap.1 h;exact a2J h
theorem c3g{L i r s t}(h:b1c L i r s t=true):t∈L.map (·.1):=by
 unfold b1c at h
 split at h
 ·split at h
  ·exact a2J (zA h)
  exact a4k (zA h)
 split at h
 ·exact a2J (zA h)
 split at h
 ·obtain⟨w,_,h⟩:=dH.1 h;exact a7C (zA h)
 split at h
 ·rw[aC]at h;cases hw:words s with
  |nil=>rw[hw]at h;simp at h
  |cons a r=>rw[hw]at h;exact a7C (zA (aK.1 h.2 a (.head _)))
 split at h<;>exact b9E (zA h)
theorem YA{n k vs}:hasK n k vs=true↔∃v∈vs,v.name=n∧v.key=k:=by
 unfold hasK;rw[dH];constructor
 ·rintro⟨v,h,g⟩;rw[aC,zH,zH]at g;exact⟨v,h,g.1,g.2⟩
 rintro⟨v,h,A,G⟩;exact⟨v,h,by rw[aC,zH,zH];exact⟨A,G⟩⟩
end Ix
namespace Ix
open Ke
def TOK (L:Ix):Prop:=∀e∈L,∀v∈e.2,v.text.length≤4000000
theorem b2L{L}(hs:LU L){n b k}(h:k∈IK L n b):∃e∈L,∃v∈e.2,v.name=n∧v.key=k:=by
 obtain⟨_,A⟩:=(UE hs).1 h;obtain⟨e,G,N⟩:=(a1S hs).1 A;obtain⟨_,O⟩:=XM.1 N;obtain⟨v,Q,Z,h6⟩:=YA.1 O;exact⟨e,G,v,Q,Z,h6⟩
theorem TOK.key{L}(h:TOK L)(hs:LU L){n b k}(A:k∈IK L n b):b0r k:=by
 obtain⟨e,G,v,N,_,rfl⟩:=b2L hs A;exact c2t (h e G v N)
theorem b0n L n k:(LJ L n k).length≤L.length:=by
 unfold LJ
 split
 ·exact dF _
 rw[aA];exact List.length_filter_le _ _
theorem b7h{L n s A}(h:(IK L n (keyOf n s)).length≤A.toNat):(scan L n s A).map (·.1)=IK L n (keyOf n s):=by
 unfold scan;rw[List.take_of_length_le h,List.map_map];exact List.map_id _
end Ix
namespace Go.Proofs.YtdjkhllhakhjbaaGreatDoor
open _root_.Go.Proofs.Tryz
open Go Go.Sx
def LZ (I:Heap):Prop:=∀w:World,(∀b o,I b=some o→w.heap[b]?=some o)→Lib.TabIs aI w "strings.asciiSpace" .u8 Lib.asciiSpaceTab∧Lib.WhiteTab 5 w
theorem LZ.mono{I A}(h:LZ I)(G:Le I A):LZ A:=fun w N=>h w fun b o O=>N b o (G b o O)
theorem b6K s ws (hf:Lib.fieldsD s=ws)(hs:s.length≤4000000000) I (A:LZ I):yS aI 312 [str s] I [] (fun e _ H'=>∃b sp,e= .returned (.slice (some ⟨b,0,none⟩) ws.length ws.length)∧H'=[(b,yZ 9 (ws.map str++sp))]):=
 yS.c3l (vals:=ws.map fun x=>Value.string ⟨x.toArray⟩) rfl (Enters.of func312 dE rfl) fun w G=>by
  have h:=Tryz.strings_Fields_any ⟨s.toArray⟩ w (by rw[size_mk];omega) (A w G).1 (A w G).2;rw[show(⟨s.toArray⟩:ByteArray).data.toList=s by simp,hf]at h;exact h
def WW (ws:List (List UInt8)) (i:Nat):List (List UInt8):=(ws.take i).map Ke.plainW++ws.drop i
theorem b0l ws i:(WW ws i).length=ws.length:=by
 unfold WW;rw[bC,aA,aT,bT];omega
theorem b9o{ws i x}(h:ws[i]?=some x):(WW ws i)[i]?=some x:=by
 have A:=(aJ.1 h).1;unfold WW;rw[List.getElem?_append_right (by rw[aA,aT];omega),aA,aT,bV (Nat.le_of_lt A),Nat.sub_self,List.getElem?_drop];exact h
theorem b9h{ws i x}(h:ws[i]?=some x) sp:((WW ws i).map str++sp).set i (str (Ke.plainW x))=(WW ws (i+1)).map str++sp:=by
 obtain⟨A,hg⟩:=aJ.1 h;rw[List.set_append_left _ _ (by rw[aA,b0l];exact A),List.map_set.symm]
 congr 2
 unfold WW;rw[List.set_append_right _ _ (by rw[aA,aT];omega),aA,aT,bV (Nat.le_of_lt A),Nat.sub_self,←bY A,List.set_cons_zero,aH A,hg,aV,aQ];rfl
theorem c4d{ws i x}(h:ws[i]?=some x)(G:Ke.plainW x=x):WW ws i=WW ws (i+1):=by
 obtain⟨A,hg⟩:=aJ.1 h;unfold WW;rw[←bY A,aH A,hg,aV,aQ];show _=_++([Ke.plainW x]++_);rw[G];rfl
theorem c0n k (hk:Ke.b0r k) I (hT:LZ I):Pure aI 291 [str k] I (str (Ke.a1V k)):=by
 refine yS.toPure ?_;have a9:=hk.1;have aa:=Ke.SQ k;have ab:=hk.2.2.1;refine yS.ob func291 ?_;intro w0 _;refine Cj.sr (aB yQ ?_);refine J.yX (aB yP ?_);refine aX rfl (yT (H1:=[]) rfl rfl rfl rfl rfl (b6K k (aG k) hk.2.1 oM _ hT) ?_ (fun _ _ _ _ ⟨_,_,h,_⟩=>by cases h) (fun _ _ ⟨_,_,h,_⟩=>by cases h));intro _ _ _ _ a3;obtain⟨N,a0,h,rfl⟩:=a3;cases h;refine aB yQ ?_;refine J.zX (aY (aB yP ?_));refine aB (zZ AO) ?_;refine aB yP ?_;refine J.ns (Cj.block (Cj.loop (ι:=Nat) (fun i=>i≤(aG k).length) (fun i=>(aG k).length-i) (fun i=>[(3,.slice (some ⟨N,0,none⟩) (aG k).length (aG k).length),(8,.slice (some ⟨N,0,none⟩) (aG k).length (aG k).length),(9,i64 ((aG k).length:Int)),(10,i64 (i:Int))]) (fun i=>_) (fun i=>[(N,yZ 9 ((WW (aG k) i).map str++a0))]) 0 (dF _) rT rfl (by unfold WW;simp) ?_));rintro i _;have a4:=b0l (aG k) i;refine Cj.sr (aB AV ?_);refine J.nss (Cj.cond rfl (fun O=>?_) (fun O=>?_))
 ·have a1:=BH O;have a5:i<(aG k).length:=oM;obtain⟨x,A⟩:∃x,(aG k)[i]?=some x:=⟨_,DC a5⟩;have a6:=FQ A;have ac:=Ke.ZW _ x a6;refine Cj.ks (Cj.seq (Cj.block (Cj.sr (aB yP ?_))));refine aB (AU (off':=i) AO zS) ?_;refine aB (EF BR (yR.at 0 rfl) (JL (b9o A))) ?_;refine aB yQ ?_;refine aB yQ ?_;refine J.yX (aB yP ?_);refine aX rfl (yU rfl rfl rfl rfl rfl (b3v x oM _) ?_);refine aB IW ?_;refine J.eqv 17 rfl (show _= .bool (Ke.digits x) from(zD Value.bool (Ke.a4T x))) ?_;refine J.cd (fun G=>?_) (fun G=>?_)
  ·refine aY (aB yP ?_);refine aB yP ?_;refine aB yP ?_;refine aB yP ?_;refine aB (CG rfl rfl BU) ?_;refine aB (OZ rfl rfl rfl) ?_;refine J.eqv 23 rfl (show _=i64 ((min 2 x.length:Nat):Int) from(zD i64 oM)) ?_;refine aB (EC (p:=min 2 x.length) (q:=x.length) rfl rfl BU ⟨_,rfl⟩ rfl oM oM) ?_;refine J.eqv 24 rfl (show _=str (Ke.plainW x) from(by rw[dI];unfold Ke.plainW;rw[zG G];congr 1;rcases Nat.le_total 2 x.length with h|h;rw[bV h];rw[Nat.min_eq_right h,dJ,List.drop_eq_nil_of_le h])) ?_;refine aB (AU (off':=i) AO zS) ?_;refine aX rfl (RU 0 rfl rfl rfl rfl rfl rfl zS rfl (.inl rfl) (by rw[bC,aA,a4];omega) bM ?_);refine J.nb (aY (aB (yY rfl rfl rfl (zV oM)) ?_));refine aB yP ?_;refine J.nil (Ej.round (i+1) oM oM rT rfl (by rw[b9h A];rfl))
  have a7:Ke.plainW x=x:=by unfold Ke.plainW;rw[G];rfl
  refine Cj.kb (aY (aB (yY rfl rfl rfl (zV oM)) ?_));refine aB yP ?_;refine J.nil (Ej.round (i+1) oM oM rT rfl (by rw[c4d A a7]))
 have a1:=BJ O;refine Cj.xl (Cj.seq (Cj.a3b rfl (fun a2=>?_)));refine Cj.persist (a2 _ (.head _)) (fun I9 _ Q=>?_);have a8:i=(aG k).length:=oM;have Z:WW (aG k) i=(aG k).map Ke.plainW:=by rw[a8];unfold WW;rw[dI,dJ,bJ]
 rw[Z]at Q;have hv:KA 9 I9 ((aG k).map Ke.plainW) (.slice (some ⟨N,0,none⟩) (aG k).length (aG k).length):= .inr ⟨N,_,a0,by rw[aA],by rw[aA];exact bW _,Q⟩;refine aY (aB yP ?_);refine aX rfl (yU rfl rfl rfl rfl rfl (a4E ((aG k).map Ke.plainW) _ (by rw[aA];omega) (by show(Ke.a1V k).length≤_;omega) _ hv) ?_);refine aB yQ ?_;refine J.ns (Cj.ret (zM ?_));exact rT
end Go.Proofs.YtdjkhllhakhjbaaGreatDoor
namespace Go.Proofs.YtdjkhllhakhjbaaGreatDoor
open Go Go.Sx
def JF (m:ML aO) (k:Nat) (S:aO→Bool):Prop:=MS m k∧∀t,BF m t=if S t=true then some (.bool true)else none
def MQ (I:Heap) (v:Value) (S:aO→Bool):Prop:=(v= .map none∧∀t,S t=false)∨∃b m k,v= .map (some b)∧JF m k S∧I b=some (zY AQ m k)
def ZL (v:Value) (S:aO→Bool) (H:HL):Prop:=∃b m k,v= .map (some b)∧JF m k S∧H=[(b,zY AQ m k)]
theorem MQ.mono{I A v S}(h:MQ I v S)(G:Le I A):MQ A v S:=
 h.imp id fun⟨b,m,k,N,O,Q⟩=>⟨b,m,k,N,O,G _ _ Q⟩
theorem MQ.shape{I v S}(h:MQ I v S):∃o,v= .map o:=h.elim (fun g=>⟨none,g.1⟩) fun⟨b,_,_,g,_⟩=>⟨some b,g⟩
def TU (l:List aO) (t:aO):Bool:=decide (t∈l)
theorem JF.nil:JF [] 0 (TU []):=⟨MS.nil,fun t=>by rw[show TU [] t=false from zJ sI];rfl⟩
theorem JF.congr{m k S A}(h:JF m k S)(G:∀t,S t=A t):JF m k A:=⟨h.1,fun t=>by rw[←G t];exact h.2 t⟩
theorem JF.add{m k S A}(h:JF m k S) u (G:∀t,A t=(t == u || S t)):JF (BN m u (.bool true) k) (EU m u k) A:=by
 refine⟨h.1.set u _,fun t=>?_⟩;rw[LM,G t]
 by_cases ht:(t == u)=true
 ·rw[zG ht,ht];rfl
 rw[zF ht,h.2 t,Bool.eq_false_iff.2 ht];rfl
theorem JF.push{m k l}(h:JF m k (TU l)) u:JF (BN m u (.bool true) k) (EU m u k) (TU (l++[u])):=h.add u fun t=>by
 unfold TU;rw[aP,aW,zH,zH,aU,bD,beq_iff_eq];exact Or.comm
theorem JF.get{m k S}(h:JF m k S) t:(BF m t).getD (.bool false)= .bool (S t):=by
 rw[h.2 t];cases S t<;>rfl
theorem JF.mem{m k S}(h:JF m k S) t:t∈m.map (·.1)↔S t=true:=by
 have A:=h.2 t;constructor
 ·intro G;cases hs:S t with
  |true=>rfl
  |false=>
   rw[hs,zF dB]at A;exact absurd G (JC.1 A)
 intro hs;rw[zG hs]at A;refine Classical.byContradiction fun hn=>?_;rw[JC.2 hn]at A;cases A
theorem JF.empty{m k S}(h:JF m k S)(A:m.length=0) t:S t=false:=by
 have G:m=[]:=List.length_eq_zero_iff.1 A;cases hs:S t with
 |false=>rfl
 |true=>have:=(h.mem t).2 hs;rw[G]at this;cases this
theorem JF.len{m k S}(h:JF m k S){l:List aO}(A:∀t,S t=true→t∈l):m.length≤l.length:=by
 have:=YK (l:=m.map (·.1)) (m:=l) h.1.1 fun t G=>A t ((h.mem t).1 G)
 rwa [aA]at this
def a0b (vis:ML aO) (P:aO→Bool) (t:aO):Bool:=decide (t∈vis.map (·.1)) && P t
theorem b8I{vis P x}(h:P x.1=true) t:a0b (vis++[x]) P t=(t == x.1 || a0b vis P t):=by
 unfold a0b;rw[aP,aW,aC,aC,zH,zH,beq_iff_eq,aV,aU,cZ,dD,bD];constructor
 ·rintro⟨A|A,G⟩
  ·exact .inr ⟨A,G⟩
  exact .inl A
 rintro(rfl|⟨A,G⟩)
 ·exact⟨.inr rfl,h⟩
 exact⟨.inl A,G⟩
theorem b9N{vis P x}(h:P x.1=false) t:a0b (vis++[x]) P t=a0b vis P t:=by
 unfold a0b;rw[aP,aC,aC,zH,zH,aV,aU,cZ,dD,bD];constructor
 ·rintro⟨A|A,G⟩
  ·exact⟨A,G⟩
  rw[A,h]at G;cases G
 rintro⟨A,G⟩;exact⟨.inl A,G⟩
theorem b7v{vis m k S P}(h:JF m k S)(A:vis.Perm m) t:a0b vis P t=(S t && P t):=by
 unfold a0b
 congr 1
 rw[aP,zH,(A.map _).mem_iff,h.mem]
def a0m (vis:ML aO) (A:aO→Bool) (t:aO):Bool:=A t || decide (t∈vis.map (·.1))
theorem a6M{vis A x} t:a0m (vis++[x]) A t=(t == x.1 || a0m vis A t):=by
 unfold a0m;rw[aP,aW,aW,aW,zH,zH,beq_iff_eq,aV,aU,cZ,dD,bD];constructor
 ·rintro(h|h|h)
  ·exact .inr (.inl h)
  ·exact .inr (.inr h)
  exact .inl h
 rintro(h|h|h)
 ·exact .inr (.inr h)
 ·exact .inl h
 exact .inr (.inl h)
theorem a8M{vis m k S A}(h:JF m k S)(G:vis.Perm m) t:a0m vis A t=(A t || S t):=by
 unfold a0m
 congr 1
 rw[aP,zH,(G.map _).mem_iff,h.mem]
abbrev LR:=List aO×Value
abbrev lrC (x:LR):List Value:=[x.2]
def LLS (I:Heap) (l:List LR) (v:Value):Prop:=zN lrC I l v∧∀x∈l,zN recC I x.1 x.2
theorem LLS.mono{I G l v}(h:LLS I l v)(A:Le I G):LLS G l v:=⟨h.1.mono A,fun x N=>(h.2 x N).mono A⟩
theorem a3E{ls:List LR}{A G:List Value}{lo}(h:A.drop lo=ls.flatMap lrC++G){i x}(O:ls[i]?=some x):A[lo+i]?=some x.2:=by
 have N:=JB (f:=lrC) (n:=1) (fun _=>rfl) h O 0 Nat.zero_lt_one;rw[Nat.mul_one,Nat.add_zero]at N;exact N
theorem c2n{l:List LR}{i x}(h:l[i]?=some x):(l.take (i+1)).flatMap (·.1)=(l.take i).flatMap (·.1)++x.1:=by
 obtain⟨A,hg⟩:=aJ.1 h;rw[aH A,hg,List.flatMap_append];simp
theorem c1t{l:List aO}{i x}(h:l[i]?=some x) P:P++l.take (i+1)=(P++l.take i)++[x]:=by
 obtain⟨A,hg⟩:=aJ.1 h;rw[aH A,hg,aQ]
theorem PN{α:Type}{f:α→List Value}{I:Heap}{l:List α}{v:Value}(h:zN f I l v):∃p c,v= .slice p l.length c:=let ⟨p,c,A,_⟩:=h;⟨p,c,A⟩
def OJ (I:Heap) (v:Value) (L:Ix.Ix):Prop:=(v= .pointer none∧L=[])∨∃ib,v=ptr ib 0∧VX I ib L
theorem OJ.mono{I A v L}(h:OJ I v L)(G:Le I A):OJ A v L:=h.imp id fun⟨N,O,Q⟩=>⟨N,O,Q.mono G⟩
theorem OJ.KQ{I v L}(h:OJ I v L):Ix.LU L:=by
 rcases h with⟨_,rfl⟩|⟨A,_,h⟩
 ·exact List.Pairwise.nil
 exact h.KQ
theorem OJ.big{I v L}(h:OJ I v L):L.length≤100000:=by
 rcases h with⟨_,rfl⟩|⟨A,_,h⟩
 ·exact dF _
 exact h.big
theorem a7K{l}(h:∀t,t∈l→t∈([]:Ix.Ix).map (·.1)):l=[]:=List.eq_nil_iff_forall_not_mem.2 fun t A=>by have:=h t A;cases this
theorem b9y A L n s (hs:s.length≤100000000) I (h:OJ I A L):yS aI 290 [A,str n,str s] I [] (fun e _ H'=>∃v,e= .returned v∧a2H (Ix.word L n s) v H'):=by
 rcases h with⟨rfl,rfl⟩|⟨G,rfl,h⟩
 ·refine(b9l n s hs I).mono fun e _ H' _ ⟨N,O⟩=>⟨_,N,?_⟩;rw[a7K fun t Q=>Ix.a7C (L:=[]) Q,O];exact a4Q
 exact c3N G L n s hs I h
theorem b4O A L n s (hs:s.length≤100000000) I (h:OJ I A L):yS aI 251 [A,str n,str s] I [] (fun e _ H'=>∃v,e= .returned v∧a2H (Ix.phrase L n (aG s)) v H'):=by
 rcases h with⟨rfl,rfl⟩|⟨G,rfl,h⟩
 ·refine(b6c n s hs I).mono fun e _ H' _ ⟨N,O⟩=>⟨_,N,?_⟩;rw[a7K fun t Q=>Ix.a4k (L:=[]) Q,O];exact a4Q
 exact b6l G L n s hs I h
theorem b3J A L n s (hs:s.length≤100000000) I (h:OJ I A L):yS aI 249 [A,str n,str s] I [] (fun e _ H'=>∃v,e= .returned v∧a2H (Ix.LJ L n (Ix.keyOf n s)) v H'):=by
 rcases h with⟨rfl,rfl⟩|⟨G,rfl,h⟩
 ·refine(c3T n s I).mono fun e _ H' _ ⟨N,O⟩=>⟨_,N,?_⟩;rw[a7K fun t Q=>Ix.a2J (L:=[]) Q,O];exact a4Q
 exact c4F G L n s hs I h
theorem a6d G L n s (hs:s.length≤100000000) h I (A:OJ I G L):yS aI 258 [G,str n,str s,i64 h] I [] (fun e _ H'=>∃v,e= .returned v∧b4N (Ix.scan L n s h) v H'):=by
 rcases A with⟨rfl,rfl⟩|⟨N,rfl,A⟩
 ·refine(c0A n s h I).mono fun e _ H' _ ⟨O,Q⟩=>⟨_,O,.inl ⟨?_,rfl,Q⟩⟩;unfold Ix.scan Ix.IK;simp
 exact c2Z N L n s hs h I A
theorem c1i A L t I (h:OJ I A L):Pure aI 143 [A,AQ t] I (str (Ix.UG L t)):=by
 rcases h with⟨rfl,rfl⟩|⟨G,rfl,h⟩
 ·exact c0k t I
 exact c0Q G L t I h
