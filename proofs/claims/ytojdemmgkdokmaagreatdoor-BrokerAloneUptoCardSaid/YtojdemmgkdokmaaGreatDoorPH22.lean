/-
  Own texts on the laws of the seat, joined: the logic, and contracts of functions. Conditions: none.
-/
import Derived.Test.YtojdemmgkdokmaaGreatDoorNmH
import Derived.Test.YtojdemmgkdokmaaGreatDoorPH14
set_option linter.all false
set_option maxRecDepth 100000
set_option maxHeartbeats 40000000
open Go.Sx.J renaming z -> aA,nil -> aI,op -> aJ,split -> aX,QD -> dI
open Go.Sx.Cj renaming region -> aB,seq -> aP,skip -> bF,block -> bM,exit -> dK,loop -> dX,cond -> eH
open Go.Sx.Ej renaming seq -> aC,FN -> aF,LM -> aQ,QL -> aU,round -> aW,keep -> bK,bare -> bT,KH -> bZ,LC -> cO,JK -> cZ,persist -> dD,OX -> dJ,pull -> eG
open Go.Sx.zM renaming c -> aG,s -> aK,z -> aN
open List renaming length_append -> aH,length_cons -> aY,length_nil -> bC,getElem?_eq_some_iff -> bI,contains_iff_mem -> dQ
open Go.Sx.GN renaming part -> aO,none -> bY
open Cq renaming ZO -> aS,plain -> aV,blank -> bD,isTerm -> bJ,ZY -> bU,OE -> bV,operator -> dA,relation -> dP,low -> dW,c5A -> eF
open Go.Sx.Keeps renaming d -> aT,r -> dH,k -> dU,n -> dV
open Go.Sx.CG renaming none -> aZ,one -> bP,agg -> bQ
open Go.Proofs.Tryz renaming prog -> bG
open Go.Sx.Src renaming slice -> bH
open Go.Sx.AV renaming z -> bW,s -> eP
open Go.Sx.JA renaming tk -> dB
open Go.Sx.Pull renaming s -> dF,z -> dR
open Go.Sx.Le renaming refl -> dG,trans -> dY
open Go.Sx.HSub renaming c -> dL,n -> dM
open Go.Sx.CSub renaming n -> dN
open Nat renaming le_of_ble_eq_true -> dS
open Bool renaming noConfusion -> dZ
namespace Bk
open Ix
theorem JR.forth{xs r:List Fd}(h:JR xs r){x:Fd}(A:x∈xs):∃f∈r,DF f=DF x:=by
 obtain⟨f,hf,e⟩:=List.mem_map.1 ((h.ids (DF x)).2 (List.mem_map_of_mem A));exact⟨f,hf,e⟩
end Bk
namespace Go.Proofs.YtojdemmgkdokmaaGreatDoor
open _root_.Go.Proofs.Tryz
open Go Go.Sx
theorem a7u c I:Pure bG 68 [u8 c] I (.bool (bD c)):=by
 refine yT.ob func68 ?_;intro w0 _;refine Cj.sr (aA yQ ?_);refine J.yV (aA yP ?_);refine aA BO ?_;refine aA yP ?_;refine aX 5 rfl (fun h=>?_) (fun h=>?_)
 ·refine zO 2 5 6 false h ?_;refine zO 2 5 7 false h ?_;refine aA (DY h) ?_;refine aA yP ?_;refine CQ 6 9 10 false ?_;refine CQ 6 9 11 false ?_;refine aA JV ?_;refine aA yP ?_;refine CQ 10 13 14 false ?_;refine CQ 10 13 15 false ?_;refine aA JV ?_;refine aA yQ ?_;refine J.ns (Cj.ret (zN ?_));refine⟨?_,rfl,rfl⟩;simp_all[bD,aV]
 refine zU 2 5 false h (zK yP ?_);refine zU 2 5 false h (zK BO ?_);refine aA (DV h) ?_;refine aA yP ?_;refine aX 9 rfl (fun A=>?_) (fun A=>?_)
 ·refine zO 6 9 10 false A ?_;refine zO 6 9 11 false A ?_;refine aA (DY A) ?_;refine aA yP ?_;refine CQ 10 13 14 false ?_;refine CQ 10 13 15 false ?_;refine aA JV ?_;refine aA yQ ?_;refine J.ns (Cj.ret (zN ?_));refine⟨?_,rfl,rfl⟩;simp_all[bD,aV]
 refine zU 6 9 false A (zK yP ?_);refine zU 6 9 false A (zK BO ?_);refine aA (DV A) ?_;refine aA yP ?_;refine aX 13 rfl (fun G=>?_) (fun G=>?_)
 ·refine zO 10 13 14 false G ?_;refine zO 10 13 15 false G ?_;refine aA (DY G) ?_;refine aA yQ ?_;refine J.ns (Cj.ret (zN ?_));refine⟨?_,rfl,rfl⟩;simp_all[bD,aV]
 refine zU 10 13 false G (zK yP ?_);refine zU 10 13 false G (zK BO ?_);refine aA (DV G) ?_;refine aA yQ ?_;refine J.ns (Cj.ret (zN ?_));refine⟨?_,rfl,rfl⟩;simp_all[bD,aV]
theorem a8j c I:Pure bG 69 [u8 c] I (.bool (aV c)):=by
 refine yT.ob func69 ?_;intro w0 _;refine Cj.sr (aA yQ ?_);refine J.yV (aA yP ?_);refine aJ rfl (yU rfl rfl rfl rfl rfl (a7u _ _) ?_);refine aA yQ ?_;refine J.yV (aA yP ?_);refine aA (ER rfl rfl) ?_;refine aA yP ?_;refine aX 8 rfl (fun h=>?_) (fun h=>?_)
 rotate_left
 ·refine zO 2 8 9 true h ?_;refine zO 2 8 10 true h ?_;refine aA (DV h) ?_;refine aA yP ?_;refine CQ 6 12 13 true ?_;refine CQ 6 12 14 true ?_;refine aA IL ?_;refine aA yP ?_;refine CQ 10 16 17 true ?_;refine CQ 10 16 18 true ?_;refine aA IL ?_;refine aA yP ?_;refine CQ 14 20 21 true ?_;refine CQ 14 20 22 true ?_;refine aA IL ?_;refine aA yP ?_;refine CQ 18 24 25 true ?_;refine CQ 18 24 26 true ?_;refine aA IL ?_;refine aA yP ?_;refine CQ 22 28 29 true ?_;refine CQ 22 28 30 true ?_;refine aA IL ?_;refine aA yQ ?_;refine J.ns (Cj.ret (zN ?_));refine⟨?_,rfl,rfl⟩;simp_all[bD,aV]
 refine zU 2 8 true h (zK yP ?_);refine zU 2 8 true h (zK EY ?_);refine aA (DY h) ?_;refine aA yP ?_;refine aX 12 rfl (fun A=>?_) (fun A=>?_)
 rotate_left
 ·refine zO 6 12 13 true A ?_;refine zO 6 12 14 true A ?_;refine aA (DV A) ?_;refine aA yP ?_;refine CQ 10 16 17 true ?_;refine CQ 10 16 18 true ?_;refine aA IL ?_;refine aA yP ?_;refine CQ 14 20 21 true ?_;refine CQ 14 20 22 true ?_;refine aA IL ?_;refine aA yP ?_;refine CQ 18 24 25 true ?_;refine CQ 18 24 26 true ?_;refine aA IL ?_;refine aA yP ?_;refine CQ 22 28 29 true ?_;refine CQ 22 28 30 true ?_;refine aA IL ?_;refine aA yQ ?_;refine J.ns (Cj.ret (zN ?_));refine⟨?_,rfl,rfl⟩;simp_all[bD,aV]
 refine zU 6 12 true A (zK yP ?_);refine zU 6 12 true A (zK EY ?_);refine aA (DY A) ?_;refine aA yP ?_;refine aX 16 rfl (fun G=>?_) (fun G=>?_)
 ·refine zU 10 16 true G (zK yP ?_);refine zU 10 16 true G (zK EY ?_);refine aA (DY G) ?_;refine aA yP ?_;refine aX 20 rfl (fun O=>?_) (fun O=>?_)
  ·refine zU 14 20 true O (zK yP ?_);refine zU 14 20 true O (zK EY ?_);refine aA (DY O) ?_;refine aA yP ?_;refine aX 24 rfl (fun Z=>?_) (fun Z=>?_)
   ·refine zU 18 24 true Z (zK yP ?_);refine zU 18 24 true Z (zK EY ?_);refine aA (DY Z) ?_;refine aA yP ?_;refine aX 28 rfl (fun a0=>?_) (fun a0=>?_)
    ·refine zU 22 28 true a0 (zK yP ?_);refine zU 22 28 true a0 (zK EY ?_);refine aA (DY a0) ?_;refine aA yQ ?_;refine J.ns (Cj.ret (zN ?_));refine⟨?_,rfl,rfl⟩;simp_all[bD,aV]
    ·refine zO 22 28 29 true a0 ?_;refine zO 22 28 30 true a0 ?_;refine aA (DV a0) ?_;refine aA yQ ?_;refine J.ns (Cj.ret (zN ?_));refine⟨?_,rfl,rfl⟩;simp_all[bD,aV]
   ·refine zO 18 24 25 true Z ?_;refine zO 18 24 26 true Z ?_;refine aA (DV Z) ?_;refine aA yP ?_;refine CQ 22 28 29 true ?_;refine CQ 22 28 30 true ?_;refine aA IL ?_;refine aA yQ ?_;refine J.ns (Cj.ret (zN ?_));refine⟨?_,rfl,rfl⟩;simp_all[bD,aV]
  ·refine zO 14 20 21 true O ?_;refine zO 14 20 22 true O ?_;refine aA (DV O) ?_;refine aA yP ?_;refine CQ 18 24 25 true ?_;refine CQ 18 24 26 true ?_;refine aA IL ?_;refine aA yP ?_;refine CQ 22 28 29 true ?_;refine CQ 22 28 30 true ?_;refine aA IL ?_;refine aA yQ ?_;refine J.ns (Cj.ret (zN ?_));refine⟨?_,rfl,rfl⟩;simp_all[bD,aV]
 ·refine zO 10 16 17 true G ?_;refine zO 10 16 18 true G ?_;refine aA (DV G) ?_;refine aA yP ?_;refine CQ 14 20 21 true ?_;refine CQ 14 20 22 true ?_;refine aA IL ?_;refine aA yP ?_;refine CQ 18 24 25 true ?_;refine CQ 18 24 26 true ?_;refine aA IL ?_;refine aA yP ?_;refine CQ 22 28 29 true ?_;refine CQ 22 28 30 true ?_;refine aA IL ?_;refine aA yQ ?_;refine J.ns (Cj.ret (zN ?_));refine⟨?_,rfl,rfl⟩;simp_all[bD,aV]
theorem b9h(s:List UInt8)(i:Nat)(hi:i<s.length)(hs:s.length≤281474976710656) I:Pure bG 70 [str s,i64 i] I (.tuple #[str (bV s i).1,i64 (bV s i).2]):=by
 refine yT.ob func70 ?_;intro w0 _;refine Cj.sr (aA yQ ?_);refine aA yQ ?_;refine J.yV (aA yQ ?_);refine J.yV (aA yP ?_);refine aA (yZ rfl rfl rfl (AA oM)) ?_;refine aA yQ ?_;refine J.nss (bM (dX (ι:=Nat×List UInt8) (fun j=>Cq.SA s i j.1 j.2) (fun j=>s.length+2-j.1) (fun j=>[(0,str s),(1,i64 (j.1:Int)),(6,str j.2)]) (fun j=>I) (fun j=>[]) (i+1,[]) (Cq.SA.start s i hi) rT rfl rfl ?_));rintro⟨k,out⟩ A;dsimp only at A ⊢;have ab:=A.le;have ac:=A.ol;refine aP (Cj.sr (aA yP ?_));refine aA yP ?_;refine aA (GK BF) ?_;refine aA BM ?_;refine J.cd (fun a2=>?_) (fun a2=>?_)
 ·have a8:=BH a2;have G:k<s.length:=oM;obtain⟨c,h⟩:∃c,s[k]?=some c:=⟨_,DX G⟩;refine bF (aC (bM (aP (Cj.sr (aA yP ?_)))));refine aA yP ?_;refine aA (DU rfl rfl rfl BF oM (by simpa using h)) ?_;refine aA BO ?_;refine J.cd (fun a3=>?_) (fun a3=>?_)
  ·have O:=CS a3;have a4:c=34:=QJ (d:=34) O;refine Cj.sr (aA yP ?_);refine aA yP ?_;refine aA (yZ rfl rfl rfl (AA oM)) ?_;refine aA yQ ?_;refine aA yQ ?_;refine J.ns (Cj.ret (aQ (aU (dJ (aU (aQ (Ej.a0L rfl rfl rfl rfl ?_)))))));rw[A.quote c h a4];exact rT
  have O:=CX a3;have a4:c≠34:=NG (d:=34) O;refine bF (aC (aP (Cj.sr (aA yP ?_))));refine aA yP ?_;refine aA (DU rfl rfl rfl BF oM (by simpa using h)) ?_;refine aA BO ?_;refine J.cd (fun a5=>?_) (fun a5=>?_)
  ·have Z:=CS a5;have a0:c=92:=QJ (d:=92) Z;refine aB (aA yP ?_);refine aA (yZ rfl rfl rfl (AA oM)) ?_;refine aA yQ ?_;refine J.AO (aB (aA yP ?_));refine aA yP ?_;refine aA (GK BF) ?_;refine aA BM ?_;refine J.cd (fun a6=>?_) (fun a6=>?_)
   ·have a9:=BH a6;obtain⟨d,a1⟩:∃d,s[k+1]?=some d:=⟨_,DX oM⟩;refine aB (aA yP ?_);refine aA yP ?_;refine aA yP ?_;refine aA yP ?_;refine aA (yZ rfl rfl rfl (AA oM)) ?_;refine aA (CY (p:=k+1) (q:=k+2) rfl rfl BF ⟨_,rfl⟩ ⟨_,rfl⟩ oM oM) ?_;refine J.eqv 35 rfl (show _=str [d] from zD str (a6P a1)) ?_;refine aA (EZ rfl rfl rfl (by first|omega|(simp only[aH];omega)|(simp;omega))) ?_;refine aA yQ ?_;refine J.GL (aA yP ?_);refine aA (yZ rfl rfl rfl (AA oM)) ?_;refine aA yQ ?_;refine aI (aF (aW (k+2,out++[d]) (A.esc G c h a0 d a1) (by simp;omega) rT rfl rfl))
   have a9:=BN a6;refine bF (aC (aB (aA yP ?_)));refine aA (yZ rfl rfl rfl (AA oM)) ?_;refine aA yQ ?_;refine aI (aF (aW (k+2,out) (A.fin G c h a0 oM) (by simp;omega) rT rfl rfl))
  have Z:=CX a5;have a0:c≠92:=NG (d:=92) Z;refine bF (aC (aP (Cj.sr (aA yP ?_))));refine aA yP ?_;refine aA (GK BF) ?_;refine aA BM ?_;refine J.cd (fun a7=>?_) (fun a7=>?_)
  ·have aa:=BH a7;refine aB (aA yP ?_);refine aA yP ?_;refine aA yP ?_;refine aA yP ?_;refine aA (yZ rfl rfl rfl (AA oM)) ?_;refine aA (CY (p:=k) (q:=k+1) rfl rfl BF ⟨_,rfl⟩ ⟨_,rfl⟩ oM oM) ?_;refine J.eqv 35 rfl (show _=str [c] from zD str (a6P h)) ?_;refine aA (EZ rfl rfl rfl (by first|omega|(simp only[aH];omega)|(simp;omega))) ?_;refine aA yQ ?_;refine J.GL (aA yP ?_);refine aA (yZ rfl rfl rfl (AA oM)) ?_;refine aA yQ ?_;refine aI (aF (aW (k+1,out++[c]) (A.byte G c h a4 a0) (by simp;omega) rT rfl rfl))
  have aa:=BN a7;exact absurd G oM
 have a8:=BN a2;refine dK (bZ (cZ (cO (aC (Cj.sr (aA yQ ?_))))));refine aA yQ ?_;refine J.ns (Cj.ret (Ej.a0L rfl rfl rfl rfl ?_));rw[A.past oM];exact rT
theorem a0i s (hs:s.length≤4000000000) I:Pure bG 120 [str s] I (str (Cq.small s)):=by
 refine yT.ob func120 ?_;intro w0 _;refine Cj.sr (aA yQ ?_);refine J.yV (aA yP ?_);refine aJ rfl (YE rfl rfl rfl rfl BF ES ZJ ?_);intro b1 c2 a2 a3 _ a5;refine aA yQ ?_;refine J.AO (aB (aA yQ ?_));refine J.ns (bM (dX (ι:=Nat×List UInt8) (fun j=>Cq.a0b s j.1 j.2) (fun j=>s.length-j.1) (fun j=>[(0,str s),(3,.slice (some ⟨b1,0,none⟩) s.length c2),(4,i64 (j.1:Int))]) (fun j=>I) (fun j=>[(b1,.cells (EP j.2++a2).toArray 5 (a3,a3+1))]) (0,s) ⟨oM,sI⟩ rT rfl rfl ?_));rintro⟨k,l⟩ O;dsimp only at O ⊢;have a9:=O.le;have a4:=O.len;refine aP (Cj.sr (aA yP ?_));refine aA yP ?_;refine aA (AU ES) ?_;refine aA BM ?_;refine J.cd (fun a0=>?_) (fun a0=>?_)
 ·have a6:=BH a0;have a8:k<s.length:=oM;obtain⟨c,G⟩:∃c,s[k]?=some c:=⟨_,DX a8⟩;have a1:=c4f l a2 k c (O.get G);refine bF (aC (aP (bM (Cj.sr (aA yP ?_)))));refine aA yP ?_;refine aA (BG (off':=k) ES RF) ?_;refine aA (EN tA5 (yR.at 0 rfl) a1) ?_;refine aA (MC rfl rfl rfl) ?_;refine aA yP ?_;refine aX 18 rfl (fun h=>?_) (fun h=>?_)
  rotate_left
  ·refine zO 5 18 19 true h ?_;refine zO 5 18 20 true h ?_;refine zO 5 18 21 true h ?_;refine zO 5 18 22 true h ?_;refine zO 5 18 23 true h ?_;refine aA (DV h) ?_;refine J.c0 (fun _=>?_);refine bF (aF (aC (aB (aA yP ?_))));refine aA (yZ rfl rfl rfl (AA oM)) ?_;refine aA yQ ?_;refine aI ?_;have A:dW c=c:=by unfold dW;rw[zF];have:=BN h;omega
   refine aW (k+1,l) (O.same G A) (by simp;omega) rT rfl rfl
  refine zU 5 18 true h (zK yP ?_);refine zU 5 18 true h (zK yP ?_);refine dI 5 18 true _ rfl rfl rfl h (IE (BG (off':=k) ES RF) rfl rfl ?_);refine zU 5 18 true h (zK (EN tA5 (yR.at 0 rfl) a1) ?_);refine zU 5 18 true h (zK (WA rfl rfl rfl) ?_);refine aA (DY h) ?_;refine J.cd (fun Z=>?_) (fun Z=>?_)
  ·have a7:=BH Z;refine aB (aA yP ?_);refine aA yP ?_;refine aA yP ?_;refine aA yP ?_;refine aA (BG (off':=k) ES RF) ?_;refine aA (EN tA5 (yR.at 0 rfl) a1) ?_;refine aA (c5y 32 rfl rfl rfl rfl) ?_;refine aA (BG (off':=k) ES RF) ?_;refine aJ rfl (MK 0 rfl rfl rfl rfl rfl rfl RF rfl (.inr (by simp only[aH,PG,a4]at a5 ⊢;omega)) (by simp only[aH,PG];omega) bW ?_);refine aI (aF (aC (aB (aA yP ?_))));refine aA (yZ rfl rfl rfl (AA oM)) ?_;refine aA yQ ?_;refine aI ?_;have A:dW c=c+32:=by unfold dW;rw[zG];have:=BH h;have:=BH Z;omega
   refine aW (k+1,l.set k (c+32)) (A▸O.next G) (by simp;omega) rT rfl (by dsimp only;rw[c4e _ _ _ _ oM])
  have a7:=BN Z;refine bF (aF (aC (aB (aA yP ?_))));refine aA (yZ rfl rfl rfl (AA oM)) ?_;refine aA yQ ?_;refine aI ?_;have A:dW c=c:=by unfold dW;rw[zF];have:=BN Z;omega
  refine aW (k+1,l) (O.same G A) (by simp;omega) rT rfl rfl
 have a6:=BN a0;refine dK (bZ (cZ (cO (aC (Cj.sr (aA yP ?_))))));refine aA (ZV l rfl rfl a4 ES BF ZJ (yR.at 0 rfl) (by rw[List.drop_zero,List.take_left' (by rw[PG])])) ?_;refine aA yQ ?_;refine J.ns (Cj.ret (bT ?_));refine zN ?_;rw[←O.done oM];exact rT
theorem a8g I:yT bG 122 [] I [] (fun e G H'=>(∃v,e= .returned v∧KI 9 G Cq.indexes v)∧H'=[]):=by
 refine yT.ob func122 ?_;intro w0 _;refine Cj.sr (aA yQ ?_);refine J.yV (aJ rfl (AZ AP zL JG (bP rfl (bP rfl (bP rfl (bP rfl (bP rfl (bP rfl aZ)))))) ?_));intro O A;refine aA yQ ?_;refine J.ns (Cj.ret (dD A (fun _ _ h=>?_)));refine zN ?_;exact⟨⟨_,rfl,O,6,[],rfl,h⟩,rfl⟩
theorem b1J I:yT bG 192 [] I [] (fun e G H'=>(∃v,e= .returned v∧KI 9 G Cq.relations v)∧H'=[]):=by
 refine yT.ob func192 ?_;intro w0 _;refine Cj.sr (aA yQ ?_);refine J.yV (aJ rfl (AZ AP zL JG (bP rfl (bP rfl (bP rfl (bP rfl (bP rfl (bP rfl aZ)))))) ?_));intro O A;refine aA yQ ?_;refine J.ns (Cj.ret (dD A (fun _ _ h=>?_)));refine zN ?_;exact⟨⟨_,rfl,O,6,[],rfl,h⟩,rfl⟩
theorem a6C l x v (hl:l.length≤1000000) I (hv:KI 9 I l v):Pure bG 121 [v,str x] I (.bool (l.contains x)):=by
 obtain⟨bb,cc,sp,rfl,a2⟩:=hv;refine yT.ob func121 ?_;intro w0 _;refine Cj.sr (aA yQ ?_);refine J.AO (aB (aA yQ ?_));refine J.ns (bM (dX (ι:=Nat) (fun k=>k≤l.length∧∀j y,j<k→l[j]?=some y→y≠x) (fun k=>l.length-k) (fun k=>[(0,.slice (some ⟨bb,0,none⟩) l.length cc),(1,str x),(5,i64 (k:Int))]) (fun k=>I) (fun k=>[]) 0 ⟨oM,fun j y h=>absurd h oM⟩ rT rfl rfl ?_));rintro k ⟨_,O⟩;refine aP (Cj.sr (aA yP ?_));refine aA yP ?_;refine aA (AU AP) ?_;refine aA BM ?_;refine J.cd (fun Z=>?_) (fun Z=>?_)
 ·have a1:=BH Z;have a3:k<l.length:=oM;obtain⟨y,A⟩:∃y,l[k]?=some y:=⟨_,DX a3⟩;refine bF (aC (aP (bM (Cj.sr (aA yP ?_)))));refine aA yP ?_;refine aA (BG (off':=k) AP zL) ?_;refine aA (EN BX (yR.TS a2) (JO A)) ?_;refine aA yP ?_;refine aA (ED rfl rfl rfl) ?_;refine J.cd (fun a0=>?_) (fun a0=>?_)
  ·have G:=CS a0;refine Cj.sr (aA yQ ?_);refine J.ns (Cj.ret (aU (aQ (dJ (aU (aQ (zN ?_)))))));have:l.contains x=true:=by rw[dQ];exact FB (G▸A)
   rw[this];exact rT
  have G:=CX a0;refine bF (aF (aC (aB (aA yP ?_))));refine aA (yZ rfl rfl rfl (AA oM)) ?_;refine aA yQ ?_;refine aI (aW (k+1) ⟨oM,fun j y hj hy=>by rcases Nat.lt_succ_iff_lt_or_eq.1 hj with h|rfl;exact O j y h hy;rw[A]at hy;cases hy;exact G⟩ oM rT rfl rfl)
 have a1:=BN Z;refine dK (bZ (cZ (cO (aC (Cj.sr (aA yQ ?_))))));refine J.ns (Cj.ret (zN ?_));have:l.contains x=false:=by
  rw[Bool.eq_false_iff];intro h;rw[dQ]at h;obtain⟨j,hj⟩:=List.mem_iff_getElem?.1 h;obtain⟨_,_⟩:=bI.1 hj;exact O j x oM hj rfl
 rw[this];exact rT
theorem NW t (ht:t.text.length≤4000000000) I:Pure bG 72 [a6M t] I (i64 (dA t:Nat)):=by
 refine yT.ob func72 ?_;intro w0 _;refine Cj.sr (aJ rfl (BL ?_));intro _ _;refine aA yQ ?_;refine J.yV (aA (qq2 (off':=1) IJ zL) ?_);refine aA (yX BX (yR.at 0 rfl)) ?_;refine aJ rfl (yU rfl rfl rfl rfl rfl (a0i _ oM _) ?_);refine aA yQ ?_;refine J.nss (bM (Cj.sr (aA (qq2 (off':=0) IJ AB) ?_)));refine aA (yX DT (yR.at 0 rfl)) ?_;refine aA EY ?_;refine aA yQ ?_;refine J.cd (fun h=>?_) (fun h=>?_)
 ·have Z:=bne_iff_ne.1 h;have hk:¬t.kind=3:=oM;refine Cj.sr (aA yQ ?_);refine J.ns (Cj.ret (aU (aQ (bT ?_))));refine zN ?_;refine⟨?_,rfl,rfl⟩
  simp_all[dA]
 have Z:=EC h;have hk:t.kind=3:=oM;refine Cj.sr (aA yP ?_);refine aA (ED rfl rfl rfl) ?_;refine aA yQ ?_;refine J.cd (fun A=>?_) (fun A=>?_)
 ·have a0:=CS A;refine Cj.sr (aA yQ ?_);refine J.ns (Cj.ret (aU (aQ (bT ?_))));refine zN ?_;refine⟨?_,rfl,rfl⟩
  simp_all[dA]
 have a0:=CX A;refine Cj.sr (aA yP ?_);refine aA (ED rfl rfl rfl) ?_;refine aA yQ ?_;refine J.cd (fun G=>?_) (fun G=>?_)
 ·have a1:=CS G;refine Cj.sr (aA yQ ?_);refine J.ns (Cj.ret (aU (aQ (bT ?_))));refine zN ?_;refine⟨?_,rfl,rfl⟩
  simp_all[dA]
 have a1:=CX G;refine Cj.sr (aA yP ?_);refine aA (ED rfl rfl rfl) ?_;refine aA yQ ?_;refine J.cd (fun O=>?_) (fun O=>?_)
 ·have a2:=CS O;refine Cj.sr (aA yQ ?_);refine J.ns (Cj.ret (aU (aQ (bT ?_))));refine zN ?_;refine⟨?_,rfl,rfl⟩
  simp_all[dA]
 have a2:=CX O;refine bF (aF (aC (Cj.sr (aA yQ ?_))));refine J.ns (Cj.ret (bT ?_));refine zN ?_;refine⟨?_,rfl,rfl⟩
 simp_all[dA]
theorem a5J t (ht:t.text.length≤4000000000) I:yT bG 119 [a6M t] I [] (fun e I' H'=>e= .returned (.bool (dP t))∧H'=[]):=by
 refine yT.ob func119 ?_;intro w0 _;refine Cj.sr (aJ rfl (BL ?_));intro _ _;refine aA yQ ?_;refine J.nss (Cj.FT [0] [] 6 kR ?_);refine JA.fix ⟨(dL 0 rfl dM),dN,(dG _)⟩ (fun Z=>?_);refine dB 1 rfl Z (qq2 (off':=1) IJ zL) ?_;refine dB 2 rfl Z (yX BX (yR.QE 0 rfl)) ?_;refine zT 0 rfl (yS (H1:=[]) rfl rfl rfl rfl rfl (b1J _) ?_ (fun _ _ _ _ h=>by obtain⟨⟨_,h,_⟩,_⟩:=h;cases h) (fun _ _ h=>by obtain⟨⟨_,h,_⟩,_⟩:=h;cases h));intro _ _ _ O a1;obtain⟨⟨_,a2,a0⟩,rfl⟩:=a1;cases a2;refine⟨⟨(dY (dG _) O),(dL 0 rfl dM),dN⟩,?_⟩;refine zT 3 rfl (yU rfl rfl rfl rfl rfl (a0i _ oM _) ?_);refine⟨⟨(dY (dG _) O),(dL 0 rfl dM),dN⟩,?_⟩;refine zT 4 rfl (yU rfl rfl rfl rfl rfl (a6C Cq.relations _ _ dE _ a0) ?_);refine⟨⟨(dY (dG _) O),(dL 0 rfl dM),dN⟩,?_⟩;refine JA.fix ⟨(dL 0 rfl dM),dN,(dY (dG _) O)⟩ (fun a3=>?_);refine dB 5 rfl a3 yQ ?_;refine AL ?_;refine aC (Cj.sr (aA yP ?_));refine aA yP ?_;refine aX 10 rfl (fun A=>?_) (fun A=>?_)
 rotate_left
 ·refine zO 1 10 11 true A ?_;refine zO 1 10 12 true A ?_;refine zO 1 10 13 true A ?_;refine zO 1 10 14 true A ?_;refine J.b5P 5 14 15 false rfl rfl rfl rfl rfl ?_;refine J.b5P 5 14 16 false rfl rfl rfl rfl rfl ?_;refine J.b5P 5 14 17 false rfl rfl rfl rfl rfl ?_;refine zO 1 10 18 true A ?_;refine aA (DV A) ?_;refine aA yQ ?_;refine J.ns (Cj.ret (bT ?_));refine zN ?_;refine⟨?_,rfl⟩
  simp_all[dP,nb1]
 refine zU 1 10 true A (zK (qq2 (off':=0) IJ AB) ?_);refine zU 1 10 true A (zK (yX DT (yR.at 0 rfl)) ?_);refine zU 1 10 true A (zK BO ?_);refine zU 1 10 true A (zK yP ?_);refine aX 14 rfl (fun G=>?_) (fun G=>?_)
 ·have hk:t.kind=3:=by have:=CS G;omega
  refine zO 5 14 15 false G ?_;refine zO 5 14 16 false G ?_;refine zO 5 14 17 false G ?_;refine zU 1 10 true A (zK (DY G) ?_);refine aA (DY A) ?_;refine aA yQ ?_;refine J.ns (Cj.ret (bT ?_));refine zN ?_;refine⟨?_,rfl⟩
  simp_all[dP,nb1]
 have hk:¬t.kind=3:=by have:=CX G;omega
 refine zU 5 14 false G (zK (qq2 (off':=0) IJ AB) ?_);refine zU 5 14 false G (zK (yX DT (yR.at 0 rfl)) ?_);refine zU 5 14 false G (zK BO ?_);refine zU 1 10 true A (zK (DV G) ?_);refine aA (DY A) ?_;refine aA yQ ?_;refine J.ns (Cj.ret (bT ?_));refine zN ?_;refine⟨?_,rfl⟩
 simp_all[dP,nb1]
theorem b9k s (hs:s.length≤1000000000) I:yT bG 39 [str s] I [] (fun e I' H'=>(∃v,e= .returned v∧c7e 120 I' (Cq.tokens s) v)∧H'=[]):=by
 refine yT.ob func39 ?_;intro w0 _;refine Cj.sr (aA yQ ?_);refine J.yV (aA yQ ?_);refine J.yV (aA yQ ?_);refine J.nss (bM (dX (ι:=Nat×List Cq.Tok×Gs) (fun j=>Cq.a0G s j.1 j.2.1∧CU w0.heap.size 3 j.2.1.length (j.2.1.flatMap aS) j.2.2) (fun j=>s.length+1-j.1) (fun j=>[(0,str s),(3,gV j.2.1.length j.2.2),(4,i64 (j.1:Int))]) (fun j=>I) (fun j=>gH 120 (j.2.1.flatMap aS) j.2.2) (0,[],none) ⟨Cq.a0G.start s,rfl,rfl⟩ rT rfl rfl ?_));rintro⟨k,a7,g⟩ ⟨hk,hg⟩;dsimp only at hk hg ⊢;have ad:=hk.le;have ce:=hk.num;refine aP (Cj.sr (aA yP ?_));refine aA yP ?_;refine aA (GK BF) ?_;refine aA BM ?_;refine J.cd (fun b9=>?_) (fun b9=>?_)
 ·have bi:=BH b9;have bx:k<s.length:=oM;obtain⟨c,G⟩:∃c,s[k]?=some c:=⟨_,DX bx⟩;have a6:s[(k:Int).toNat]?=some c:=by simpa using G
  refine bF (aC (bM (Cj.sr (aA yP ?_))));refine aA yP ?_;refine aA (DU rfl rfl rfl BF oM a6) ?_;refine aJ rfl (yU rfl rfl rfl rfl rfl (a7u _ _) ?_);refine aA yQ ?_;refine J.AO (aB (aA yP ?_));refine J.cd (fun ba=>?_) (fun ba=>?_)
  ·have a8:bD c=true:=ba;refine Cj.sr (aA yP ?_);refine aA (yZ rfl rfl rfl (AA oM)) ?_;refine aA yQ ?_;refine J.ns (dK (bZ (cO (aW (k+1,a7,g) ⟨hk.blank G a8,hg⟩ dO rT rfl rfl))))
  have a8:bD c=false:=ba;refine bF (aC (Cj.sr (aA yP ?_)));refine aA yP ?_;refine aA yP ?_;refine aA yP ?_;refine aA (yZ rfl rfl rfl (AA oM)) ?_;refine aA (CY (p:=k) (q:=k+1) rfl rfl BF ⟨_,rfl⟩ ⟨_,rfl⟩ oM oM) ?_;refine J.eqv 27 rfl (show _=str [c] from zD str (a6P G)) ?_;refine aA (zV (pl:= #[(0,1),(1,1),(2,1)]) rfl rfl FX rfl IJ (fun w=>by simp[AB,zL]) (aO rfl rfl rfl (aK (aK (aG aN))) (aO rfl rfl rfl (aG aN) (aO rfl rfl rfl (aK (aG aN)) bY)))) ?_;refine aJ rfl (BP FX ?_);intro b3 _;refine aJ rfl (zS 0 BR (aG (aG (aG aN))) bW ?_);refine J.yV (aA yP ?_);refine aA yP ?_;refine aA (DU rfl rfl rfl BF oM a6) ?_;refine aJ rfl (yU rfl rfl rfl rfl rfl (a8j _ _) ?_);refine aA yQ ?_;refine J.nss (bM (Cj.sr (aA yP ?_)));refine aA yP ?_;refine aA (DU rfl rfl rfl BF oM a6) ?_;refine aA BO ?_;refine aA yQ ?_;refine J.cd (fun hc4=>?_) (fun hc4=>?_)
  ·have ay:=CS hc4;have al:c=34:=QJ (d:=34) ay;refine Cj.sr (aA yP ?_);refine aA yP ?_;refine aJ rfl (yU rfl rfl rfl rfl rfl (b9h _ _ oM oM _) ?_);refine aA yP ?_;refine aA AQ ?_;refine aA AQ ?_;refine aA yQ ?_;refine aA yQ ?_;refine J.yV (aA yP ?_);refine aA yP ?_;refine aA (zV (pl:= #[(0,1),(1,1),(2,1)]) rfl rfl FX rfl IJ (fun w=>by simp[AB,zL]) (aO rfl rfl rfl (aK (aK (aG aN))) (aO rfl rfl rfl (aG aN) (aO rfl rfl rfl (aK (aG aN)) bY)))) ?_;refine aJ rfl (zS 0 BR (aG (aG (aG aN))) bW ?_);refine J.AO (aB (aA yP ?_));refine aA BO ?_;refine J.cd (fun bc=>?_) (fun bc=>?_)
   ·have az:=CS bc;have bz:(bV s k).2=0:=by have:=az;omega
    refine Cj.sr (aA yP ?_);refine aA yP ?_;refine aA (zV (pl:= #[(0,1),(1,1),(2,1)]) rfl rfl FX rfl IJ (fun w=>by simp[AB,zL]) (aO rfl rfl rfl (aK (aK (aG aN))) (aO rfl rfl rfl (aG aN) bY))) ?_;refine aJ rfl (AZ EK BR FX (bQ rfl aZ) ?_);intro _ _;refine aJ rfl (BJ (by':=31) [_,_] rfl rfl rfl rfl rfl EK (.inr ⟨_,EK⟩) kR BR FX rfl hg rfl (bH (yR.at 0 rfl) rfl rfl rfl) oM ?_);intro _ c2;refine aA yQ ?_;refine J.ns (Cj.ret (aQ (aU (aQ (aU (dJ (aU (aQ ?_))))))));obtain⟨bb,cc,sp,rfl,ae⟩:=c2.some oM;refine eG (dF (dF dR)) ?_;refine dD ae (fun I9 b0 af=>?_);refine bT ?_;refine zN ?_;have a2:=(hk.last ((Cq.a9J G a8 al).1 bz) rfl);exact⟨⟨_,rfl,bb,cc,sp,by rw[a2];simp[gV],by rw[af,a2];simp[aS,str]⟩,rfl⟩
   have az:=CX bc;have hq1:(bV s k).2≠0:=by have:=az;omega
   refine bF (aC (aB (aA yP ?_)));refine aA yQ ?_;refine aI (aF (aC (aB (aA yP ?_))));refine aA (zX II BR (yR.at 0 rfl)) ?_;refine aJ rfl (AZ EK BR FX (bQ rfl aZ) ?_);intro _ _;refine aJ rfl (BJ (by':=31) [_,_] rfl rfl rfl rfl rfl EK (.inr ⟨_,EK⟩) kR BR FX rfl hg rfl (bH (yR.at 0 rfl) rfl rfl rfl) oM ?_);intro g9 c4;refine aA yQ ?_;refine aI (aF ?_);have O:=((Cq.a9J G a8 al).2 hq1);have ag:k<(bV s k).2:=by have:=(bU s k ad (by rw[O];rfl)).1;rw[O]at this;exact this
   have A:=hk.push O rfl;have aa:=A.le;refine bK (aT (aT dH)) ?_;refine aW ((bV s k).2,a7++[⟨2,(bV s k).1,k⟩],g9) ⟨A,by simpa[aS,str]using c4⟩ dO ⟨rfl,by simp only[aH,aY,bC];rfl,rfl,trivial⟩ rfl (by simp[aS,str])
  have ay:=CX hc4;have al:c≠34:=NG (d:=34) ay;refine Cj.sr (aA yP ?_);refine aA yQ ?_;refine J.cd (fun b1=>?_) (fun b1=>?_)
  ·have am:aV c=true:=b1;refine Cj.sr (aA yP ?_);refine aA yQ ?_;refine J.nss (bM (dX (ι:=Nat) (fun n=>Cq.LJ s k n) (fun n=>s.length-n) (fun n=>[(0,str s),(3,gV a7.length g),(4,i64 (k:Int)),(6,ptr b3 0),(10,i64 (n:Int))]) (fun n=>I) (fun n=>(b3,yY 120 [i64 1,str [c],i64 (k:Int)])::gH 120 (a7.flatMap aS) g) k (Cq.LJ.start oM) rT rfl rfl ?_));intro n hw;have cf:=hw.lo;have ch:=hw.le;refine aP (Cj.sr (aA yP ?_));refine aA yP ?_;refine aA (GK BF) ?_;refine aA BM ?_;refine aA yP ?_;refine aX 64 rfl (fun a4=>?_) (fun a4=>?_)
   rotate_left
   ·have bj:=BN a4;refine zO 4 64 65 true a4 ?_;refine zO 4 64 66 true a4 ?_;refine zO 4 64 67 true a4 ?_;refine zO 4 64 68 true a4 ?_;refine aA (DV a4) ?_;refine J.c0 (fun _=>?_);refine dK (bZ (cZ (cO (aC ?_))));have bd:∀c,s[n]?=some c→aV c=false:=fun c' h=>by obtain⟨h1,_⟩:=bI.1 h;omega
    refine Cj.sr (aA yP ?_);refine aA yP ?_;refine aA yP ?_;refine aA yP ?_;refine aA (CY (p:=k) (q:=n) rfl rfl BF ⟨_,rfl⟩ ⟨_,rfl⟩ oM oM) ?_;refine aA (zV (pl:= #[(0,1),(1,1),(2,1)]) rfl rfl FX rfl IJ (fun w=>by simp[AB,zL]) (aO rfl rfl rfl (aK (aK (aG aN))) (aO rfl rfl rfl (aG aN) (aO rfl rfl rfl (aK (aG aN)) bY)))) ?_;refine aJ rfl (zS 0 BR (aG (aG (aG aN))) bW ?_);refine J.GL (aA yP ?_);refine aA yQ ?_;refine aI (aF (aC (aB (aA yP ?_))));refine aA (zX II BR (yR.at 0 rfl)) ?_;refine aJ rfl (AZ EK BR FX (bQ rfl aZ) ?_);intro _ _;refine aJ rfl (BJ (by':=31) [_,_] rfl rfl rfl rfl rfl EK (.inr ⟨_,EK⟩) kR BR FX rfl hg rfl (bH (yR.at 0 rfl) rfl rfl rfl) oM ?_);intro c5 bl;refine aA yQ ?_;refine aI (aF ?_);have O:=(Cq.b1L G a8 am hw bd);have ag:k<n:=by have:=(bU s k ad (by rw[O];rfl)).1;rw[O]at this;exact this
    have A:=hk.push O rfl;have aa:=A.le;refine bK (aT (aT dH)) ?_;refine aW (n,a7++[⟨3,(s.take n).drop k,k⟩],c5) ⟨A,by simpa[aS,str]using bl⟩ dO ⟨rfl,by simp only[aH,aY,bC];rfl,rfl,trivial⟩ rfl (by simp[aS,str])
   have bj:=BH a4;obtain⟨c3,an⟩:∃c3,s[n]?=some c3:=⟨_,DX oM⟩;have be:s[(n:Int).toNat]?=some c3:=by simpa using an
   refine zU 4 64 true a4 (zK yP ?_);refine zU 4 64 true a4 (zK yP ?_);refine dI 4 64 true _ rfl rfl rfl a4 (IE (DU rfl rfl rfl BF oM be) rfl rfl ?_);refine zU 4 64 true a4 (yU rfl rfl rfl rfl rfl (a8j _ _) ?_);refine aA (DY a4) ?_;refine J.cd (fun b2=>?_) (fun b2=>?_)
   ·have bm:aV c3=true:=b2;refine bF (aC (bM (aB (aA yP ?_))));refine aA (yZ rfl rfl rfl (AA oM)) ?_;refine aA yQ ?_;refine aI (aF (aW (n+1) (hw.next an bm) oM rT rfl rfl))
   refine dK (bZ (cZ (cO (aC ?_))));have bd:∀c,s[n]?=some c→aV c=false:=fun c' h=>by rw[an]at h;cases h;exact b2
   refine Cj.sr (aA yP ?_);refine aA yP ?_;refine aA yP ?_;refine aA yP ?_;refine aA (CY (p:=k) (q:=n) rfl rfl BF ⟨_,rfl⟩ ⟨_,rfl⟩ oM oM) ?_;refine aA (zV (pl:= #[(0,1),(1,1),(2,1)]) rfl rfl FX rfl IJ (fun w=>by simp[AB,zL]) (aO rfl rfl rfl (aK (aK (aG aN))) (aO rfl rfl rfl (aG aN) (aO rfl rfl rfl (aK (aG aN)) bY)))) ?_;refine aJ rfl (zS 0 BR (aG (aG (aG aN))) bW ?_);refine J.GL (aA yP ?_);refine aA yQ ?_;refine aI (aF (aC (aB (aA yP ?_))));refine aA (zX II BR (yR.at 0 rfl)) ?_;refine aJ rfl (AZ EK BR FX (bQ rfl aZ) ?_);intro _ _;refine aJ rfl (BJ (by':=31) [_,_] rfl rfl rfl rfl rfl EK (.inr ⟨_,EK⟩) kR BR FX rfl hg rfl (bH (yR.at 0 rfl) rfl rfl rfl) oM ?_);intro c6 bn;refine aA yQ ?_;refine aI (aF ?_);have O:=(Cq.b1L G a8 am hw bd);have ag:k<n:=by have:=(bU s k ad (by rw[O];rfl)).1;rw[O]at this;exact this
   have A:=hk.push O rfl;have aa:=A.le;refine bK (aT (aT dH)) ?_;refine aW (n,a7++[⟨3,(s.take n).drop k,k⟩],c6) ⟨A,by simpa[aS,str]using bn⟩ dO ⟨rfl,by simp only[aH,aY,bC];rfl,rfl,trivial⟩ rfl (by simp[aS,str])
  have am:aV c=false:=b1;refine Cj.sr (aA yP ?_);refine aA yP ?_;refine aA (DU rfl rfl rfl BF oM a6) ?_;refine aA BO ?_;refine aA yP ?_;refine aX 84 rfl (fun a5=>?_) (fun a5=>?_)
  ·have aw:c=61:=QJ (d:=61) (CS a5);have bf:c=61∨c=62:= .inl aw;refine zO 4 84 85 false a5 ?_;refine zO 4 84 86 false a5 ?_;refine zO 4 84 87 false a5 ?_;refine zO 4 84 88 false a5 ?_;refine aA (DY a5) ?_;refine aA yP ?_;refine CZ 10 90 true (zK yP ?_);refine dI 10 90 true _ rfl rfl rfl rfl (IE (yZ rfl rfl rfl (AA oM)) rfl rfl ?_);refine CZ 10 90 true (zK yP ?_);refine CZ 10 90 true (zK (GK BF) ?_);refine CZ 10 90 true (zK BM ?_);refine aA JV ?_;refine aA yP ?_;refine aX 97 rfl (fun Z=>?_) (fun Z=>?_)
   rotate_left
   ·have hlt2:=BN Z;refine zO 17 97 98 true Z ?_;refine zO 17 97 99 true Z ?_;refine zO 17 97 100 true Z ?_;refine zO 17 97 101 true Z ?_;refine zO 17 97 102 true Z ?_;refine aA (DV Z) ?_;refine aA yQ ?_;refine J.c0 (fun _=>?_);refine Cj.sr (aA yP ?_);refine aA yP ?_;refine aA (DU rfl rfl rfl BF oM a6) ?_;refine aA BO ?_;refine aA yQ ?_;refine J.cd (fun b4=>?_) (fun b4=>?_)
    ·have ao:=CS b4;have a3:c=62:=QJ (d:=62) ao;exact absurd (aw.symm.trans a3) dE
    have ao:=CX b4;have a3:c≠62:=NG (d:=62) ao;have ac:c≠62:=a3;have ah:s[k+1]?≠some 61:=by
     intro h;obtain⟨h1,_⟩:=bI.1 h;omega
    have ax:¬(c=61∧s[k+1]?=some 61):=fun h=>ah h.2;refine aB (aA yP ?_);refine aA (yZ rfl rfl rfl (AA oM)) ?_;refine aA yQ ?_;refine aI (aF (aC (aB (aA yP ?_))));refine aA (zX II BR (yR.at 0 rfl)) ?_;refine aJ rfl (AZ EK BR FX (bQ rfl aZ) ?_);intro _ _;refine aJ rfl (BJ (by':=31) [_,_] rfl rfl rfl rfl rfl EK (.inr ⟨_,EK⟩) kR BR FX rfl hg rfl (bH (yR.at 0 rfl) rfl rfl rfl) oM ?_);intro c7 bo;refine aA yQ ?_;refine aI (aF ?_);have O:=(eF G a8 al am ac ax);have ag:k<k+1:=by have:=(bU s k ad (by rw[O];rfl)).1;rw[O]at this;exact this
    have A:=hk.push O rfl;have aa:=A.le;refine bK (aT (aT dH)) ?_;refine aW (k+1,a7++[⟨1,[c],k⟩],c7) ⟨A,by simpa[aS,str]using bo⟩ dO ⟨rfl,by simp only[aH,aY,bC];rfl,rfl,trivial⟩ rfl (by simp[aS,str])
   have hlt2:=BH Z;obtain⟨d,a9⟩:∃d,s[k+1]?=some d:=⟨_,DX oM⟩;have ai:s[((k:Int)+1).toNat]?=some d:=by rw[show((k:Int)+1).toNat=k+1 by omega];exact a9
   refine zU 17 97 true Z (zK yP ?_);refine zU 17 97 true Z (zK yP ?_);refine dI 17 97 true _ rfl rfl rfl Z (IE (yZ rfl rfl rfl (AA oM)) rfl rfl ?_);refine dI 17 97 true _ rfl rfl rfl Z (IE (DU rfl rfl rfl BF oM ai) rfl rfl ?_);refine zU 17 97 true Z (zK BO ?_);refine aA (DY Z) ?_;refine aA yQ ?_;refine J.cd (fun aj=>?_) (fun aj=>?_)
   ·have bg:=CS aj;have ab:d=61:=QJ (d:=61) (CS aj);have h2:s[k+1]?=some 61:=ab▸a9;refine Cj.sr (aA yP ?_);refine aA yP ?_;refine aA yP ?_;refine aA (yZ rfl rfl rfl (AA oM)) ?_;refine aA (CY (p:=k) (q:=k+2) rfl rfl BF ⟨_,rfl⟩ ⟨_,rfl⟩ oM oM) ?_;refine J.eqv 108 rfl (show _=str [c,61] from zD str (c6n G h2)) ?_;refine aA (qq2 (off':=1) IJ zL) ?_;refine aJ rfl (zS 0 zL (aK (aG aN)) bW ?_);refine J.GL (aA yP ?_);refine aA (yZ rfl rfl rfl (AA oM)) ?_;refine aA yQ ?_;refine aI (aF (aC (aB (aA yP ?_))));refine aA (zX II BR (yR.at 0 rfl)) ?_;refine aJ rfl (AZ EK BR FX (bQ rfl aZ) ?_);intro _ _;refine aJ rfl (BJ (by':=31) [_,_] rfl rfl rfl rfl rfl EK (.inr ⟨_,EK⟩) kR BR FX rfl hg rfl (bH (yR.at 0 rfl) rfl rfl rfl) oM ?_);intro c8 bp;refine aA yQ ?_;refine aI (aF ?_);have O:=(Cq.b5w G a8 bf h2);have ag:k<k+2:=by have:=(bU s k ad (by rw[O];rfl)).1;rw[O]at this;exact this
    have A:=hk.push O rfl;have aa:=A.le;refine bK (aT (aT dH)) ?_;refine aW (k+2,a7++[⟨1,[c,61],k⟩],c8) ⟨A,by simpa[aS,str]using bp⟩ dO ⟨rfl,by simp only[aH,aY,bC];rfl,rfl,trivial⟩ rfl (by simp[aS,str])
   have bg:=CX aj;have ab:d≠61:=NG (d:=61) (CX aj);refine Cj.sr (aA yP ?_);refine aA yP ?_;refine aA (DU rfl rfl rfl BF oM a6) ?_;refine aA BO ?_;refine aA yQ ?_;refine J.cd (fun b5=>?_) (fun b5=>?_)
   ·have ap:=CS b5;have a3:c=62:=QJ (d:=62) ap;exact absurd (aw.symm.trans a3) dE
   have ap:=CX b5;have a3:c≠62:=NG (d:=62) ap;have ac:c≠62:=a3;have ah:s[k+1]?≠some 61:=by
    intro h;rw[a9]at h;cases h;exact ab rfl
   have ax:¬(c=61∧s[k+1]?=some 61):=fun h=>ah h.2;refine aB (aA yP ?_);refine aA (yZ rfl rfl rfl (AA oM)) ?_;refine aA yQ ?_;refine aI (aF (aC (aB (aA yP ?_))));refine aA (zX II BR (yR.at 0 rfl)) ?_;refine aJ rfl (AZ EK BR FX (bQ rfl aZ) ?_);intro _ _;refine aJ rfl (BJ (by':=31) [_,_] rfl rfl rfl rfl rfl EK (.inr ⟨_,EK⟩) kR BR FX rfl hg rfl (bH (yR.at 0 rfl) rfl rfl rfl) oM ?_);intro c9 bq;refine aA yQ ?_;refine aI (aF ?_);have O:=(eF G a8 al am ac ax);have ag:k<k+1:=by have:=(bU s k ad (by rw[O];rfl)).1;rw[O]at this;exact this
   have A:=hk.push O rfl;have aa:=A.le;refine bK (aT (aT dH)) ?_;refine aW (k+1,a7++[⟨1,[c],k⟩],c9) ⟨A,by simpa[aS,str]using bq⟩ dO ⟨rfl,by simp only[aH,aY,bC];rfl,rfl,trivial⟩ rfl (by simp[aS,str])
  have aw:c≠61:=NG (d:=61) (CX a5);refine zU 4 84 false a5 (zK yP ?_);refine zU 4 84 false a5 (zK yP ?_);refine dI 4 84 false _ rfl rfl rfl a5 (IE (DU rfl rfl rfl BF oM a6) rfl rfl ?_);refine zU 4 84 false a5 (zK BO ?_);refine aA (DV a5) ?_;refine aA yP ?_;refine aX 90 rfl (fun a0=>?_) (fun a0=>?_)
  rotate_left
  ·have ac:c≠62:=NG (d:=62) (CX a0);refine zO 10 90 91 true a0 ?_;refine zO 10 90 92 true a0 ?_;refine zO 10 90 93 true a0 ?_;refine zO 10 90 94 true a0 ?_;refine zO 10 90 95 true a0 ?_;refine aA (DV a0) ?_;refine aA yP ?_;refine CQ 17 97 98 true ?_;refine CQ 17 97 99 true ?_;refine CQ 17 97 100 true ?_;refine CQ 17 97 101 true ?_;refine CQ 17 97 102 true ?_;refine aA IL ?_;refine aA yQ ?_;refine J.c0 (fun _=>?_);refine Cj.sr (aA yP ?_);refine aA yP ?_;refine aA (DU rfl rfl rfl BF oM a6) ?_;refine aA BO ?_;refine aA yQ ?_;refine J.cd (fun b6=>?_) (fun b6=>?_)
   ·have aq:=CS b6;have a3:c=62:=QJ (d:=62) aq;exact absurd a3 ac
   have aq:=CX b6;have a3:c≠62:=NG (d:=62) aq;have ax:¬(c=61∧s[k+1]?=some 61):=fun h=>aw h.1;refine aB (aA yP ?_);refine aA (yZ rfl rfl rfl (AA oM)) ?_;refine aA yQ ?_;refine aI (aF (aC (aB (aA yP ?_))));refine aA (zX II BR (yR.at 0 rfl)) ?_;refine aJ rfl (AZ EK BR FX (bQ rfl aZ) ?_);intro _ _;refine aJ rfl (BJ (by':=31) [_,_] rfl rfl rfl rfl rfl EK (.inr ⟨_,EK⟩) kR BR FX rfl hg rfl (bH (yR.at 0 rfl) rfl rfl rfl) oM ?_);intro ca br;refine aA yQ ?_;refine aI (aF ?_);have O:=(eF G a8 al am ac ax);have ag:k<k+1:=by have:=(bU s k ad (by rw[O];rfl)).1;rw[O]at this;exact this
   have A:=hk.push O rfl;have aa:=A.le;refine bK (aT (aT dH)) ?_;refine aW (k+1,a7++[⟨1,[c],k⟩],ca) ⟨A,by simpa[aS,str]using br⟩ dO ⟨rfl,by simp only[aH,aY,bC];rfl,rfl,trivial⟩ rfl (by simp[aS,str])
  have ar:c=62:=QJ (d:=62) (CS a0);have bf:c=61∨c=62:= .inr ar;refine zU 10 90 true a0 (zK yP ?_);refine dI 10 90 true _ rfl rfl rfl a0 (IE (yZ rfl rfl rfl (AA oM)) rfl rfl ?_);refine zU 10 90 true a0 (zK yP ?_);refine zU 10 90 true a0 (zK (GK BF) ?_);refine zU 10 90 true a0 (zK BM ?_);refine aA (DY a0) ?_;refine aA yP ?_;refine aX 97 rfl (fun a1=>?_) (fun a1=>?_)
  rotate_left
  ·have hlt2:=BN a1;refine zO 17 97 98 true a1 ?_;refine zO 17 97 99 true a1 ?_;refine zO 17 97 100 true a1 ?_;refine zO 17 97 101 true a1 ?_;refine zO 17 97 102 true a1 ?_;refine aA (DV a1) ?_;refine aA yQ ?_;refine J.c0 (fun _=>?_);refine Cj.sr (aA yP ?_);refine aA yP ?_;refine aA (DU rfl rfl rfl BF oM a6) ?_;refine aA BO ?_;refine aA yQ ?_;refine J.cd (fun b7=>?_) (fun b7=>?_)
   ·have au:=CS b7;have a3:c=62:=QJ (d:=62) au;have ah:s[k+1]?≠some 61:=by
     intro h;obtain⟨h1,_⟩:=bI.1 h;omega
    refine Cj.sr (aA yP ?_);refine aA yP ?_;refine aA (zV (pl:= #[(0,1),(1,1),(2,1)]) rfl rfl FX rfl IJ (fun w=>by simp[AB,zL]) (aO rfl rfl rfl (aK (aK (aG aN))) (aO rfl rfl rfl (aG aN) bY))) ?_;refine aJ rfl (AZ EK BR FX (bQ rfl aZ) ?_);intro _ _;refine aJ rfl (BJ (by':=31) [_,_] rfl rfl rfl rfl rfl EK (.inr ⟨_,EK⟩) kR BR FX rfl hg rfl (bH (yR.at 0 rfl) rfl rfl rfl) oM ?_);intro _ bt;refine aA yQ ?_;refine J.ns (Cj.ret (aU (aQ (aU (dJ (aU (aQ ?_)))))));obtain⟨bb,cc,sp,rfl,ae⟩:=bt.some oM;refine eG (dF (dF dR)) ?_;refine dD ae (fun I9 b0 af=>?_);refine bT ?_;refine zN ?_;have a2:=(hk.last (Cq.b5N G a8 a3 ah) rfl);exact⟨⟨_,rfl,bb,cc,sp,by rw[a2];simp[gV],by rw[af,a2];simp[aS,str]⟩,rfl⟩
   have au:=CX b7;have a3:c≠62:=NG (d:=62) au;exact absurd ar a3
  have hlt2:=BH a1;obtain⟨d,a9⟩:∃d,s[k+1]?=some d:=⟨_,DX oM⟩;have ai:s[((k:Int)+1).toNat]?=some d:=by rw[show((k:Int)+1).toNat=k+1 by omega];exact a9
  refine zU 17 97 true a1 (zK yP ?_);refine zU 17 97 true a1 (zK yP ?_);refine dI 17 97 true _ rfl rfl rfl a1 (IE (yZ rfl rfl rfl (AA oM)) rfl rfl ?_);refine dI 17 97 true _ rfl rfl rfl a1 (IE (DU rfl rfl rfl BF oM ai) rfl rfl ?_);refine zU 17 97 true a1 (zK BO ?_);refine aA (DY a1) ?_;refine aA yQ ?_;refine J.cd (fun ak=>?_) (fun ak=>?_)
  ·have bh:=CS ak;have ab:d=61:=QJ (d:=61) (CS ak);have h2:s[k+1]?=some 61:=ab▸a9;refine Cj.sr (aA yP ?_);refine aA yP ?_;refine aA yP ?_;refine aA (yZ rfl rfl rfl (AA oM)) ?_;refine aA (CY (p:=k) (q:=k+2) rfl rfl BF ⟨_,rfl⟩ ⟨_,rfl⟩ oM oM) ?_;refine J.eqv 108 rfl (show _=str [c,61] from zD str (c6n G h2)) ?_;refine aA (qq2 (off':=1) IJ zL) ?_;refine aJ rfl (zS 0 zL (aK (aG aN)) bW ?_);refine J.GL (aA yP ?_);refine aA (yZ rfl rfl rfl (AA oM)) ?_;refine aA yQ ?_;refine aI (aF (aC (aB (aA yP ?_))));refine aA (zX II BR (yR.at 0 rfl)) ?_;refine aJ rfl (AZ EK BR FX (bQ rfl aZ) ?_);intro _ _;refine aJ rfl (BJ (by':=31) [_,_] rfl rfl rfl rfl rfl EK (.inr ⟨_,EK⟩) kR BR FX rfl hg rfl (bH (yR.at 0 rfl) rfl rfl rfl) oM ?_);intro cb bu;refine aA yQ ?_;refine aI (aF ?_);have O:=(Cq.b5w G a8 bf h2);have ag:k<k+2:=by have:=(bU s k ad (by rw[O];rfl)).1;rw[O]at this;exact this
   have A:=hk.push O rfl;have aa:=A.le;refine bK (aT (aT dH)) ?_;refine aW (k+2,a7++[⟨1,[c,61],k⟩],cb) ⟨A,by simpa[aS,str]using bu⟩ dO ⟨rfl,by simp only[aH,aY,bC];rfl,rfl,trivial⟩ rfl (by simp[aS,str])
  ·have bh:=CX ak;have ab:d≠61:=NG (d:=61) (CX ak);refine Cj.sr (aA yP ?_);refine aA yP ?_;refine aA (DU rfl rfl rfl BF oM a6) ?_;refine aA BO ?_;refine aA yQ ?_;refine J.cd (fun b8=>?_) (fun b8=>?_)
   ·have av:=CS b8;have a3:c=62:=QJ (d:=62) av;have ah:s[k+1]?≠some 61:=by
     intro h;rw[a9]at h;cases h;exact ab rfl
    refine Cj.sr (aA yP ?_);refine aA yP ?_;refine aA (zV (pl:= #[(0,1),(1,1),(2,1)]) rfl rfl FX rfl IJ (fun w=>by simp[AB,zL]) (aO rfl rfl rfl (aK (aK (aG aN))) (aO rfl rfl rfl (aG aN) bY))) ?_;refine aJ rfl (AZ EK BR FX (bQ rfl aZ) ?_);intro _ _;refine aJ rfl (BJ (by':=31) [_,_] rfl rfl rfl rfl rfl EK (.inr ⟨_,EK⟩) kR BR FX rfl hg rfl (bH (yR.at 0 rfl) rfl rfl rfl) oM ?_);intro _ bv;refine aA yQ ?_;refine J.ns (Cj.ret (aU (aQ (aU (dJ (aU (aQ ?_)))))));obtain⟨bb,cc,sp,rfl,ae⟩:=bv.some oM;refine eG (dF (dF dR)) ?_;refine dD ae (fun I9 b0 af=>?_);refine bT ?_;refine zN ?_;have a2:=(hk.last (Cq.b5N G a8 a3 ah) rfl);exact⟨⟨_,rfl,bb,cc,sp,by rw[a2];simp[gV],by rw[af,a2];simp[aS,str]⟩,rfl⟩
   ·have av:=CX b8;have a3:c≠62:=NG (d:=62) av;exact absurd ar a3
 have bi:=BN b9;obtain rfl:k=s.length:=oM;refine dK (bZ (cZ (cO (aC (Cj.sr (aA yP ?_))))));refine aA yP ?_;refine aA (GK BF) ?_;refine aA (zV (pl:= #[(0,1),(1,1),(2,1)]) rfl rfl FX rfl IJ (fun w=>by simp[AB,zL]) (aO rfl rfl rfl (aK (aK (aG aN))) (aO rfl rfl rfl (aG aN) bY))) ?_;refine aJ rfl (AZ EK BR FX (bQ rfl aZ) ?_);intro _ _;refine aJ rfl (BJ (by':=31) [_] rfl rfl rfl rfl rfl EK (.inr ⟨_,EK⟩) kR BR FX rfl hg rfl (bH (yR.at 0 rfl) rfl rfl rfl) oM ?_);intro _ bw;refine aA yQ ?_;refine J.ns (Cj.ret ?_);obtain⟨bb,cc,sp,rfl,ae⟩:=bw.some oM;refine eG (dF dR) ?_;refine dD ae (fun I9 b0 af=>?_);refine bT ?_;refine zN ?_;have a2:=(hk.last (Cq.c4j s) rfl);exact⟨⟨_,rfl,bb,cc,sp,by rw[a2];simp[gV],by rw[af,a2];simp[aS,str]⟩,rfl⟩
end Go.Proofs.YtojdemmgkdokmaaGreatDoor
section
namespace Go.Sx
open Cq
abbrev RP (pb bt ct n:Nat) (k deep a e:Nat):HL:=[(pb,yY 117 [.slice (some ⟨bt,0,none⟩) n ct,i64 k,i64 deep,i64 a,i64 e])]
def LU (pb bt ct:Nat) (all:List Tok) (deep:Nat) (res:Res):Ending→Heap→HL→Prop:=fun en I' H'=>
 match res with
 | .ok q ts2=>∃v k2,en= .returned v∧QV I' q v∧H'=RP pb bt ct all.length k2 deep 0 0∧all.drop k2=ts2
 | .err pos e=>∃q p c k2 deep2,en= .returned (.agg (EX q p c).toArray)∧H'=RP pb bt ct all.length k2 deep2 pos e∧e≠0
theorem LU.ret{O Z ct all deep A G I' H'}(h:LU O Z ct all deep A G I' H'):∃v,G= .returned v:=by
 cases A with
 |ok q ts=>obtain⟨v,_,h,_⟩:=h;exact⟨v,h⟩
 |err p e=>obtain⟨_,_,_,_,_,h,_⟩:=h;exact⟨_,h⟩
structure a0R (I:Heap) (bt:Nat) (all:List Tok) (spt:List Value) (k:Nat) (ts:List Tok):Prop where
  blk:I bt=some (yY 120 (all.flatMap ZO++spt))
  drop:all.drop k=ts
  good:YK ts
  len:all.length≤1000000001
  txt:∀t∈all,t.text.length≤1000000000
theorem a0R.mono{I G O all A k ts}(h:a0R I O all A k ts)(Z:Le I G):a0R G O all A k ts:=⟨Z _ _ h.blk,h.drop,h.good,h.len,h.txt⟩
theorem a0R.to{I O all G k Z ts A}(h:a0R I O all G k ts)(h1:all.drop Z=A)(h2:YK A):a0R I O all G Z A:=⟨h.blk,h1,h2,h.len,h.txt⟩
theorem a0R.tx{I G all A k t r}(h:a0R I G all A k (t::r)):t.text.length≤1000000000:=
 h.txt t (List.mem_of_mem_drop (by rw[h.drop];exact .head _))
end Go.Sx
namespace Go.Proofs.YtojdemmgkdokmaaGreatDoor
open Go Go.Sx
theorem SK A G k deep a t (O:Nat) I:yT bG 41 [ptr A 0,a6M t,i64 O] I [(A,yY 117 [G,k,deep,a,i64 0])]
 (fun e Z H'=>e= .returned (.tuple #[])∧H'=[(A,yY 117 [G,k,deep,i64 t.pos,i64 O])]):=by
 refine yT.a9d Tryz.func41 rfl dE (dS rfl) ?_;intro w0 _;refine aP (aB (aJ rfl (BL ?_)));intro _ _;refine aI (aC (aP (aB (aA (yP) ?_))));refine aA (zW) ?_;refine aA (qq2 (off':=4) CV JJ) ?_;refine aA (yX MR (yR.at 1 rfl)) ?_;refine aA (BO) ?_;refine aI (aC (eH rfl (fun h=>?_) (fun h=>dZ (Eq.trans (Eq.symm rfl) h))));refine aP (aB (aA (yP) ?_));refine aA (qq2 (off':=2) IJ AB) ?_;refine aA (yX DT (yR.at 0 rfl)) ?_;refine aA (zW) ?_;refine aA (qq2 (off':=3) CV AB) ?_;refine aJ rfl (zS 1 AB (aK (aK (aK (aG aN)))) (eP bW) ?_);refine aI (aC (aB (aA (yP) ?_)));refine aA (yP) ?_;refine aA (zW) ?_;refine aA (qq2 (off':=4) CV JJ) ?_;refine aJ rfl (zS 1 JJ (aK (aK (aK (aK (aG aN))))) (eP bW) ?_);refine aI (bK (aT (dU dV)) ?_);refine Ej.TK rfl rfl ?_;exact rT
theorem VB pb bt ct k deep all ab t r I (O:a0R I bt all ab k (t::r)):
 yT bG 123 [ptr pb 0] I (RP pb bt ct all.length k deep 0 0) (fun e I' H'=>if bJ t then e= .returned (str t.text)∧H'=RP pb bt ct all.length (k+1) deep 0 0 else e= .returned (str [])∧H'=RP pb bt ct all.length k deep t.pos 40):=by
 have ac:=O.blk;have ae:=PE O.drop;have af:=O.tx;have ag:=O.len;refine yT.a9d Tryz.func123 rfl dE (dS rfl) ?_;intro w0 _;refine aP (aB (aA (yQ) ?_));refine aI (aC (aP (Cj.FT [0] [] 12 kR ?_)));refine JA.fix ⟨(dL 0 rfl dM),dN,(dG _)⟩ (fun BQ=>?_);refine dB 0 rfl BQ (yP) ?_;refine dB 1 rfl BQ (zW) ?_;refine dB 2 rfl BQ (qq2 (off':=0) CV SG) ?_;refine dB 3 rfl BQ (yX TW (yR.QE 0 rfl)) ?_;refine dB 4 rfl BQ (yP) ?_;refine dB 5 rfl BQ (zW) ?_;refine dB 6 rfl BQ (qq2 (off':=1) CV AB) ?_;refine dB 7 rfl BQ (yX DT (yR.QE 0 rfl)) ?_;refine dB 8 rfl BQ (BG (off':=k*3) EK BR) ?_;refine dB 9 rfl BQ (FH II BR (yR.TN ac) (QN O.drop)) ?_;refine zT 10 rfl (BP FX ?_);intro _ _;refine⟨⟨(dG _),(dL 1 rfl dM),dN⟩,?_⟩;refine zT 11 rfl (zS 0 BR (aG (aG (aG aN))) bW ?_);refine⟨⟨(dG _),(dL 1 rfl dM),dN⟩,?_⟩;refine AL ?_;refine aC (aP (aP (aB (aA (qq2 (off':=0) IJ AB) ?_))));refine aA (yX DT (yR.at 0 rfl)) ?_;refine aA (EY) ?_;refine aA (yP) ?_;refine aX 17 rfl (fun A=>?_) (fun A=>?_)
 rotate_left
 ·have a3:t.kind=2:=by have:=EC A;omega
  refine zO 3 17 18 true A ?_;refine zO 3 17 19 true A ?_;refine zO 3 17 20 true A ?_;refine aA (DV A) ?_;refine aA (yP) ?_;refine CZ 8 22 false (zK (zX II BR (yR.at 0 rfl)) ?_);refine dI 8 22 false _ rfl rfl rfl rfl (yU rfl rfl rfl rfl rfl (NW _ oM _) ?_);refine CZ 8 22 false (zK (KO rfl rfl rfl) ?_);refine aA (IL) ?_;refine aI (aC (eH rfl (fun Z=>?_) (fun Z=>?_)))
  ·have a1:=BH Z;have hT:bJ t=false:=by have:=BH Z;simp[bJ];omega
   refine aP (aB (aA (yP) ?_));refine aA (zX II BR (yR.at 0 rfl)) ?_;refine J.pull (dF dR) ?_;refine aJ rfl (yS (H1:=[_]) rfl rfl rfl rfl rfl (SK _ _ _ _ _ _ _ _) ?_ (fun _ _ _ _ h=>by cases h.1) (fun _ _ h=>by cases h.1));intro _ _ _ _ a6;obtain⟨a7,rfl⟩:=a6;cases a7;refine aI (aC (aP (aB (aA (yQ) ?_))));refine aI (aC (Cj.ret (aQ (bK (dU (aT dV)) ?_))));refine zN ?_;simp only[hT];exact⟨by trivial,by trivial⟩
  have a1:=BN Z;have hT:bJ t=true:=by have:=BN Z;simp[bJ];omega
  refine bF (aC (aP (aB (aA (yP) ?_))));refine aA (zW) ?_;refine aA (qq2 (off':=1) CV AB) ?_;refine aA (yX DT (yR.at 1 rfl)) ?_;refine aA (yZ rfl rfl rfl (AA oM)) ?_;refine aA (zW) ?_;refine aA (qq2 (off':=1) CV AB) ?_;refine aJ rfl (zS 1 AB (aK (aG aN)) (eP bW) ?_);refine aI (aC (aP (aB (aA (qq2 (off':=1) IJ zL) ?_))));refine aA (yX BX (yR.at 0 rfl)) ?_;refine aA (yQ) ?_;refine aI (aC (Cj.ret (bK (aT (dU dV)) ?_)));refine zN ?_;simp only[hT];exact⟨by trivial,by trivial⟩
 have a3:t.kind≠2:=by have:=bne_iff_ne.1 A;omega
 refine zU 3 17 true A (zK (qq2 (off':=0) IJ AB) ?_);refine zU 3 17 true A (zK (yX DT (yR.at 0 rfl)) ?_);refine zU 3 17 true A (zK (EY) ?_);refine aA (DY A) ?_;refine aA (yP) ?_;refine aX 22 rfl (fun G=>?_) (fun G=>?_)
 ·have a4:t.kind≠3:=by have:=bne_iff_ne.1 G;omega
  have hT:bJ t=false:=by simp[bJ,a3,a4]
  refine zO 8 22 23 false G ?_;refine zO 8 22 24 false G ?_;refine zO 8 22 25 false G ?_;refine aA (DY G) ?_;refine aI (aC (eH rfl (fun a5=>?_) (fun a5=>dZ (Eq.trans (Eq.symm rfl) a5))));refine aP (aB (aA (yP) ?_));refine aA (zX II BR (yR.at 0 rfl)) ?_;refine J.pull (dF dR) ?_;refine aJ rfl (yS (H1:=[_]) rfl rfl rfl rfl rfl (SK _ _ _ _ _ _ _ _) ?_ (fun _ _ _ _ h=>by cases h.1) (fun _ _ h=>by cases h.1));intro _ _ _ _ a8;obtain⟨ad,rfl⟩:=a8;cases ad;refine aI (aC (aP (aB (aA (yQ) ?_))));refine aI (aC (Cj.ret (aQ (bK (dU (aT dV)) ?_))));refine zN ?_;simp only[hT];exact⟨by trivial,by trivial⟩
 have a4:t.kind=3:=by have:=EC G;omega
 refine zU 8 22 false G (zK (zX II BR (yR.at 0 rfl)) ?_);refine dI 8 22 false _ rfl rfl rfl G (yU rfl rfl rfl rfl rfl (NW _ oM _) ?_);refine zU 8 22 false G (zK (KO rfl rfl rfl) ?_);refine aA (DV G) ?_;refine aI (aC (eH rfl (fun a0=>?_) (fun a0=>?_)))
 ·have a2:=BH a0;have hT:bJ t=false:=by have:=BH a0;simp[bJ];omega
  refine aP (aB (aA (yP) ?_));refine aA (zX II BR (yR.at 0 rfl)) ?_;refine J.pull (dF dR) ?_;refine aJ rfl (yS (H1:=[_]) rfl rfl rfl rfl rfl (SK _ _ _ _ _ _ _ _) ?_ (fun _ _ _ _ h=>by cases h.1) (fun _ _ h=>by cases h.1));intro _ _ _ _ a9;obtain⟨aa,rfl⟩:=a9;cases aa;refine aI (aC (aP (aB (aA (yQ) ?_))));refine aI (aC (Cj.ret (aQ (bK (dU (aT dV)) ?_))));refine zN ?_;simp only[hT];exact⟨by trivial,by trivial⟩
 have a2:=BN a0;have hT:bJ t=true:=by have:=BN a0;simp[bJ];omega
 refine bF (aC (aP (aB (aA (yP) ?_))));refine aA (zW) ?_;refine aA (qq2 (off':=1) CV AB) ?_;refine aA (yX DT (yR.at 1 rfl)) ?_;refine aA (yZ rfl rfl rfl (AA oM)) ?_;refine aA (zW) ?_;refine aA (qq2 (off':=1) CV AB) ?_;refine aJ rfl (zS 1 AB (aK (aG aN)) (eP bW) ?_);refine aI (aC (aP (aB (aA (qq2 (off':=1) IJ zL) ?_))));refine aA (yX BX (yR.at 0 rfl)) ?_;refine aA (yQ) ?_;refine aI (aC (Cj.ret (bK (aT (dU dV)) ?_)));refine zN ?_;simp only[hT];exact⟨by trivial,by trivial⟩
