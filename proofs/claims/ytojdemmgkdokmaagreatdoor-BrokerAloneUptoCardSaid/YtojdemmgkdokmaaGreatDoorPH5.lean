/-
  Own texts on the laws of the seat, joined: the logic, and contracts of functions. Conditions: none.
-/
import Derived.Test.YtojdemmgkdokmaaGreatDoorNmH
import Derived.Test.YtojdemmgkdokmaaGreatDoorPH4
import Derived.Shelf.Strings.SlTrimAscii
import Derived.Lib.SlicesCompact
set_option linter.all false
set_option maxRecDepth 100000
set_option maxHeartbeats 40000000
open Go.Sx.J renaming z -> aA,op -> aK,eqv -> aP,nil -> dR,QD -> iM
open List renaming getElem?_eq_some_iff -> aB,take_succ_eq_append_getElem -> aN,length_append -> aU,take_of_length_le -> aX,length_take -> bC,nil_sublist -> bG,append_nil -> bJ,mem_cons -> bQ,take_length -> bV,all_eq_true -> bW,length_map -> bZ,map_append -> cO,pairwise_cons -> dB,drop_zero -> dU,length_filter_le -> eG,takeWhile_prefix -> eH,take_append_of_le_length -> eY,mem_singleton -> fE,takeWhile_cons_of_pos -> fF,length_cons -> fO,perm_append_comm -> gB,lt_irrefl -> gI,mem_of_mem_take -> gK,map_cons -> gU,sum_cons -> gW,map_congr_left -> gX,take_succ_cons -> gY,all_takeWhile -> iE,getElem?_map -> iG,not_lt -> iJ,mem_filter -> iQ,mem_append -> iT,all_cons -> iZ,lt_trans -> jA
open Ke renaming norm -> aC,okb -> aO,digits -> aQ,strip -> bK,check -> bM,a8k -> bP,cut -> dG,a4g -> dH,words -> dI,val -> dJ,OB -> dL,a4s -> dN,join -> dY,a0g -> fB,rep -> iF,dropLast_take -> iK,digit -> jD,b1a -> jE
open Go.Sx.Cj renaming region -> aF,block -> aS,ret -> aT,cond -> bF,seq -> cZ,FT -> fH,loop -> fK
open Go.Proofs.Tryz renaming prog -> aG
open Go.Utf8 renaming encode -> aH,decode -> bH,valid -> fJ
open Go.Sx.JA renaming tk -> aI,fix -> eX,eqv -> gG,tkG -> iR
open Bool renaming noConfusion -> aJ,and_eq_true -> dX
open Nat renaming zero_le -> aV,lt_or_ge -> bI,min_eq_left -> dP,mul_le_mul -> fA,le_of_ble_eq_true -> fQ,zero_add -> gZ
open UInt8 renaming ofNat -> aW,ofNat_toNat -> fG,toNat_inj -> iP
open Go.Lib renaming indexByte -> aY,compact -> gJ,validRune -> iY
open Go.Value renaming bool -> aZ,int -> fD
open Go.Sx.Ej renaming FN -> bD,QL -> bU,keep -> dK,round -> dW,LM -> eF,seq -> fC,bare -> fM,a3D -> iI,OX -> iO
open Go.Sx.zM renaming c -> bT,z -> fU
open Go.Sx.Keeps renaming d -> bY,k -> dS,r -> fZ
open Int renaming natCast_mul -> dA
open Go.Sx.CG renaming one -> dD,none -> dZ
open Eq renaming trans -> dF,symm -> dM
open Go.Sx.Enters renaming of -> dQ
open Go.Sx.AV renaming z -> dV,s -> fV
open Go.Sx.Pure renaming of_same -> eP,of_below -> gQ
open Go.Sx.yT renaming toPure -> eU
open Go.Ending renaming returned -> fP
open Go.Sx.Src renaming slice -> iC
open Go.Sx.Pull renaming z -> iD,s -> iL
open List.Pairwise renaming nil -> iH
open Go.IntKind renaming signed -> iU,wrap -> jB,bits -> jC,u8 -> jI
open Go.Sx.yR renaming TS -> iV
open Go.Sx.Le renaming refl -> iW
open Go.Sx.HSub renaming c -> jF,n -> jG
open Go.Sx.CSub renaming n -> jH
namespace Go.Proofs.YtojdemmgkdokmaaGreatDoor
open _root_.Go.Proofs.Tryz
open Go Go.Sx
theorem a5n l v (hl:l.length≤1000000000000)(Z:(dY l).length≤1000000000000) I (hv:JX 9 I l v):Pure aG 171 [v,str [32]] I (str (dY l)):=by
 rcases hv with⟨rfl,rfl⟩|⟨b,c,sp,rfl,hc,hb⟩
 ·exact eP (dQ func171 dE rfl) fun w _=>(Tryz.strings_Join_none none 0 ⟨#[32]⟩ w).mono fun e w' ⟨h1,h2⟩=>⟨by rw[h1];rfl,h2⟩
 refine gQ (dQ func171 dE rfl) fun w hw=>?_;have a0:=hw.1 _ _ hb;have a1:b<w.heap.size:=by
  rcases bI b w.heap.size with h'|h'
  ·exact h'
  simp[Array.getElem?_eq_none h']at a0
 have G:(l.map fun x=>(⟨x.toArray⟩:ByteArray)).map (fun x=>x.data.toList)=l:=by
  rw[List.map_map];exact(gX fun x _=>sI).trans (List.map_id l)
 have A:Lib.join l [32]=dY l:=Ke.b3c l;have h:=Tryz.strings_Join b 0 c (l.map fun x=>⟨x.toArray⟩) ⟨#[32]⟩ w (fun j x O=>by
  rw[iG]at O;cases Z:l[j]? with
  |none=>rw[Z]at O;cases O
  |some y=>
   rw[Z]at O;cases O;rw[gZ];exact cell_of_heap a0 (JO Z)) a1 (by simp;omega) (by simpa using hc) (by rw[G,show(⟨#[32]⟩:ByteArray).data.toList=[32] from rfl,A];omega)
 rw[G,show(⟨#[32]⟩:ByteArray).data.toList=[32] from rfl,A,bZ]at h;exact h
theorem a6j s I:yT aG 96 [str s] I [] (fun e A H'=>∃b,e= .returned (.func (.func 172) #[] #[ptr b 0])∧H'=[(b,yY 9 [str s])]):=by
 refine yT.ob func96 ?_;intro w0 _;refine Cj.sr (aK rfl (BL ?_));intro h _;refine aA yQ ?_;refine J.yV (aA (EH rfl rfl rfl) ?_);refine aA yQ ?_;refine J.ns (aT (zN ?_));exact⟨h,rfl,rfl⟩
theorem RN{l:List (List UInt8)}{k x}(h:l[k]?=some x):(l.take (k+1)).map str=(l.take k).map str++[str x]:=by
 obtain⟨A,hg⟩:=aB.1 h;rw[aN A,hg,cO];rfl
theorem b2n(ws:List (List UInt8)) f G O I (hl:ws.length≤1000000000000)(Z:Gen aG f G O I (ws.map fun w=>[str w])):yT aG 266 [.slice none 0 0,.func (.func f) G.toArray O.toArray] I []
 (fun e I' H'=>∃g,CU 0 1 ws.length (ws.map str) g∧e= .returned (gV ws.length g)∧H'=gH 9 (ws.map str) g):=by
 refine yT.ZR func266 rfl dE (fQ rfl) ?_;intro w0 _;refine Cj.sr (aK rfl (BL ?_));intro b1 _;refine aA yQ ?_;refine J.AO (aF (aA yP ?_));refine J.ns (aS (Cj.rangeFunc (ps:=[7]) (H1:=[_]) (R:=[]) (ws.map fun w=>[str w]) (fun k I' H'=>k≤ws.length∧∃g,CU 0 1 k ((ws.take k).map str) g∧H'=(b1,yY 144 [gV k g])::gH 9 ((ws.take k).map str) g) (fun _ _ _=>False) rfl (a2E rfl) (seq1 _ _) rfl Z (fun _ _ _ _ _ h=>h) ⟨aV _,none,⟨rfl,rfl⟩,rfl⟩ ?_ ?_ ?_))
 ·intro l r k args _ _ _ hk a0 A;obtain⟨x,hx,rfl⟩:=a9j hk;obtain⟨a1,g,hg,rfl⟩:=A;have a2:=(aB.1 hx).1;refine aF (aA yQ ?_);refine dR (Ej.asg ?_);refine aS (aF (aA (yX RX (yR.at 1 rfl)) ?_));refine aA yP ?_;refine aK rfl (AZ AP zL JG (dD rfl dZ) ?_);intro _ _;refine aK rfl (MB 0 (aV _) (by':=15) [_,_,_] rfl rfl rfl rfl rfl AP (.inr ⟨_,AP⟩) kR zL JG rfl hg rfl (iC (yR.at 0 rfl) rfl rfl rfl) oM ?_);intro _ a3;refine aK rfl (EM 2 rfl rfl rfl rfl (KR _ _) (QO _ _) LK rfl rfl (bT fU) (fV (fV dV)) ?_);refine dR (bD (Ej.pull (iL iD) ?_));refine dK (dS (bY (dS fZ))) ?_;exact iI ⟨a2,_,by rw[RN hx];exact a3,by rw[RN hx];rfl⟩
 ·intro _ _ _ a0 A;rw[bZ]at A;obtain⟨a1,g,hg,rfl⟩:=A;rw[bV]at hg;rw[bV];refine bD (fC (Cj.sr (aA (yX RX (yR.at 1 rfl)) ?_)));refine aA yQ ?_;refine J.ns (aT (Ej.a2G (.inl rfl) ?_));refine QM.mark 0 rfl dV ?_;refine QM.keep (bY (bY fZ)) ?_;exact QM.a6L rfl rfl ⟨g,hg,rfl,bJ _⟩
 exact fun _ _ _ _ _ hZ=>hZ.elim
theorem b7A(ws:List (List UInt8)) f A G I (hl:ws.length≤1000000000000)(O:Gen aG f A G I (ws.map fun w=>[str w])):yT aG 210 [.func (.func f) A.toArray G.toArray] I []
 (fun e I' H'=>∃g,CU 0 1 ws.length (ws.map str) g∧e= .returned (gV ws.length g)∧H'=gH 9 (ws.map str) g):=by
 refine yT.ob func210 ?_;intro w0 _;refine Cj.sr (aA yQ ?_);refine J.yV (aA yP ?_);refine aK rfl (yS (H1:=[]) rfl rfl rfl rfl rfl (b2n ws f A G _ hl O) ?_ (fun _ _ _ _ ⟨_,_,h,_⟩=>by cases h) (fun _ _ ⟨_,_,h,_⟩=>by cases h));intro _ _ _ _ Z;obtain⟨g,hg,h,rfl⟩:=Z;cases h;refine aA yQ ?_;refine J.ns (aT (zN ?_));exact⟨g,hg,rfl,bJ _⟩
theorem WV s (hs:s.length≤1000000000) I:yT aG 154 [str s] I [] (fun e I' H'=>∃v,e= .returned v∧JX 9 I' (dI s) v∧H'=[]):=by
 have a2:=Ke.TY s;refine yT.ob func154 ?_;intro w0 _;refine Cj.sr (aA yQ ?_);refine J.yV (aA yP ?_);refine aK rfl (FU rfl rfl rfl rfl rfl (a6j s _) ?_ (fun _ _ _ _ ⟨_,h,_⟩=>by cases h) (fun _ _ ⟨_,h,_⟩=>by cases h));intro _ _ _ _ Z a0;obtain⟨sb,h,rfl⟩:=a0;cases h;refine J.persist (Z _ (.head _)) (fun I9 _ A=>?_);refine aK rfl (FU rfl rfl rfl rfl rfl (b7A (dI s) _ [] [ptr sb 0] _ oM (a5d sb s hs _ A)) ?_ (fun _ _ _ _ ⟨_,_,h,_⟩=>by cases h) (fun _ _ ⟨_,_,h,_⟩=>by cases h));intro _ I9 _ G a1 O;have A:=G _ _ A;obtain⟨g,hg,h,rfl⟩:=O;cases h;refine J.a0U (hg.base a1) (fun _ _ hv=>?_);refine aA yQ ?_;refine J.ns (aT (zN ?_));exact⟨_,rfl,hv,rfl⟩
theorem ascii_of_all{l:List UInt8}(h:l.all (fun b=>decide (b.toNat<128))=true):∀(j:Nat) b,(⟨l.toArray⟩:ByteArray).data.toList[j]?=some b→b.toNat<128:=fun j b A=>by
 rw[IY]at A;exact BH (bW.1 h b (FB A))
theorem b5L s (hs:s.length≤1000000000000) I:Pure aG 221 [str s,str Ke.a2p] I (str (Lib.trimS s Ke.a2p)):=
 gQ (dQ func221 dE rfl) fun w _=>by
  have h:=Any.strings_Trim_laid Tryz.lays160 kR ⟨s.toArray⟩ ⟨Ke.a2p.toArray⟩ w (by rw[size_mk];omega) dE (ascii_of_all dE);rw[IY,IY]at h;exact h
theorem b3q s I:Pure aG 180 [str s,str [48]] I (str (s.dropWhile (· == 48))):=
 eP (dQ func180 dE rfl) fun w _=>by
  have h:=Tryz.strings_TrimLeft_one ⟨s.toArray⟩ 48 dE w;rw[IY]at h;exact h
theorem b6k{a b:Nat×Obj}{G:HL}:(G++[a,b]).Perm (a::(b::G++[])):=by
 rw[bJ];exact gB
theorem b6z{n:Nat}(h:n<256):jI.wrap (n:Int)=((aW n).toNat:Int):=by
 rw[show(aW n).toNat=n by simp;omega];simp[jB,jC,iU];omega
theorem a1f{f}{l:List (List UInt8)}{k x}(h:l[k]?=some x):((l.take (k+1)).map f).map str=((l.take k).map f).map str++[str (f x)]:=by
 obtain⟨A,hg⟩:=aB.1 h;rw[aN A,hg,cO,cO];rfl
theorem a0v s (hs:s.length≤1000000000000) I:Pure aG 167 [str s] I (.bool (aQ s)):=by
 refine yT.ob func167 ?_;intro w0 _;refine Cj.sr (aA yQ ?_);refine J.yV (aA yP ?_);refine aK rfl (yU rfl rfl rfl rfl rfl (b5L s hs _) ?_);refine aA (ED rfl rfl rfl) ?_;refine aA yQ ?_;refine J.ns (aT (zN ?_));exact⟨zD (fun b=>fP (.bool b)) (Ke.a5W s),rfl,rfl⟩
theorem XR s skip (hs:s.length≤100000000) I:Pure aG 152 [str s,i64 skip] I (str (Ke.KC s skip)):=by
 refine eU ?_;have ad:(dG s skip).length≤s.length:=by unfold dG;simp
 have ae:=Ke.TY (dG s skip);have af:=Ke.a6p (dG s skip);refine yT.ZR func152 rfl dE (fQ rfl) ?_;intro w0 _;refine Cj.sr (aA yQ ?_);refine J.yV (aA yP ?_);refine aA yP ?_;refine aA (KG rfl rfl rfl) ?_;refine aA yP ?_;refine aA (GK BF) ?_;refine aA (LV rfl rfl rfl) ?_;refine aP 13 rfl (show _=i64 (((min (max skip 0) (s.length:Int)).toNat:Nat):Int) from(zD i64 oM)) ?_;refine aA (CY (p:=(min (max skip 0) (s.length:Int)).toNat) (q:=s.length) rfl rfl BF ⟨_,rfl⟩ rfl oM oM) ?_;refine aP 14 rfl (show _=str (dG s skip) from(by rw[bV];rfl)) ?_;refine aA yQ ?_;refine J.yV (aK rfl (BP b6f ?_));intro b1 _;refine J.AO (aF (aA yP ?_));refine aK rfl (FU rfl rfl rfl rfl rfl (a6j (dG s skip) _) ?_ (fun _ _ _ _ ⟨_,h,_⟩=>by cases h) (fun _ _ ⟨_,h,_⟩=>by cases h));intro _ _ _ _ a9 aa;obtain⟨sb,h,rfl⟩:=aa;cases h;refine J.persist (a9 _ (.head _)) (fun _ _ G=>?_);refine J.ns (aS (Cj.rangeFunc (ps:=[17]) (H1:=[_]) (R:=[]) ((dI (dG s skip)).map fun w=>[str w]) (fun k _ H'=>k≤(dI (dG s skip)).length∧∃g,CU 0 1 k ((((dI (dG s skip)).take k).map dL).map str) g∧H'=(b1,yY 144 [gV k g])::gH 9 ((((dI (dG s skip)).take k).map dL).map str) g) (fun _ _ _=>False) rfl (a2E rfl) (seq1 _ _) rfl (a5d sb _ oM _ G) (fun _ _ _ _ _ h=>h) ⟨aV _,none,⟨rfl,rfl⟩,rfl⟩ ?_ ?_ ?_))
 ·intro l r k args _ _ _ hk a0 hY;have G:=a0 _ _ G;obtain⟨x,Z,rfl⟩:=a9j hk;obtain⟨ab,g,hg,rfl⟩:=hY;have a4:=(aB.1 Z).1;have a5:=FB Z;have ag:=Ke.a0Y _ x a5;have ah:0<x.length:=List.length_pos_iff.2 (Ke.a0j _ _ x a5);have ac:=Ke.a9P x;refine aF (aA yQ ?_);refine dR (Ej.asg ?_);refine aS (cZ (Cj.sr (aA yP ?_)));refine aK rfl (yU rfl rfl rfl rfl rfl (a0v x oM _) ?_);refine J.cd (fun a1=>?_) (fun a1=>?_)
  ·have a2:aQ x=true:=a1;have O:dL x=Ke.number x:=by unfold dL;rw[a2];rfl
   refine cZ (fH [] [] 13 kR ?_);refine eX BQ (fun A=>?_);refine aI 0 rfl A yP ?_;refine aI 1 rfl A yP ?_;refine aI 2 rfl A (GK BF) ?_;refine aI 3 rfl A (IC rfl rfl rfl (AA oM)) ?_;refine gG 23 rfl (show _=i64 ((x.length-1:Nat):Int) from(zD i64 oM)) ?_;refine aI 4 rfl A (CY (p:=0) (q:=x.length-1) rfl rfl BF rfl ⟨_,rfl⟩ oM oM) ?_;refine gG 24 rfl (show _=str (x.take (x.length-1)) from(by rw[dU])) ?_;refine aI 6 rfl A yP ?_;refine aI 7 rfl A yP ?_;refine aI 8 rfl A (GK BF) ?_;refine aI 9 rfl A (IC rfl rfl rfl (AA oM)) ?_;refine gG 29 rfl (show _=i64 ((x.length-1:Nat):Int) from(zD i64 oM)) ?_;refine aI 10 rfl A (CY (p:=x.length-1) (q:=x.length) rfl rfl BF ⟨_,rfl⟩ rfl oM oM) ?_;refine gG 30 rfl (show _=str (x.drop (x.length-1)) from(by rw[bV])) ?_;refine zT 5 rfl (yU rfl rfl rfl rfl rfl (b3q (x.take (x.length-1)) _) ?_);refine⟨EU,?_⟩;refine eX BQ (fun a3=>?_);refine aI 11 rfl a3 (EZ rfl rfl rfl (by rw[iK];have:=ac;unfold bK at this;rw[aU]at this;omega)) ?_;refine gG 31 rfl (show _=str (bK x) from(by rw[iK];rfl)) ?_;refine aI 12 rfl a3 yQ ?_;refine AL ?_;refine fC (Cj.sr (aA yP ?_));refine aA (GK BF) ?_;refine aA (LV rfl rfl rfl) ?_;refine aP 34 rfl (show _=i64 ((min (bK x).length 99:Nat):Int) from(zD i64 (by split<;>omega))) ?_;refine aA yQ ?_;refine J.GL (aA yP ?_);refine aA (b2j rfl rfl rfl dE (AA (by show _≤((min (bK x).length 99 / 10:Nat):Int)∧((min (bK x).length 99 / 10:Nat):Int)≤_;omega))) ?_;refine aP 36 rfl (show _=i64 ((min (bK x).length 99 / 10:Nat):Int) from rfl) ?_;refine aA (yZ rfl rfl rfl (AA oM)) ?_;refine aP 37 rfl (show _=i64 ((48+min (bK x).length 99 / 10:Nat):Int) from(zD i64 oM)) ?_;refine aA (NJ rfl rfl tU3 ZJ) ?_;refine aP 38 rfl (show _=u8 (aW (48+min (bK x).length 99 / 10)) from(zD (fD .u8) (b6z oM))) ?_;refine aA yP ?_;refine aA (UN rfl rfl rfl dE) ?_;refine aP 40 rfl (show _=i64 ((min (bK x).length 99 % 10:Nat):Int) from rfl) ?_;refine aA (yZ rfl rfl rfl (AA oM)) ?_;refine aP 41 rfl (show _=i64 ((48+min (bK x).length 99 % 10:Nat):Int) from(zD i64 oM)) ?_;refine aA (NJ rfl rfl tU3 ZJ) ?_;refine aP 42 rfl (show _=u8 (aW (48+min (bK x).length 99 % 10)) from(zD (fD .u8) (b6z oM))) ?_;refine aK rfl (AZ ES RF tZ5 (dD rfl (dD rfl dZ)) ?_);intro _ _;refine aA (ZV [aW (48+min (bK x).length 99 / 10),aW (48+min (bK x).length 99 % 10)] rfl rfl rfl ES BF ZJ (yR.at 0 rfl) rfl) ?_;refine aA yP ?_;refine aA (EZ rfl rfl rfl (by first|omega|(simp only[aU];omega)|(simp;omega))) ?_;refine aP 46 rfl (show _=str (Ke.number x) from rfl) ?_;refine aA yQ ?_;refine J.GL (aA (yX RX (yR.at 2 rfl)) ?_);refine aA yP ?_;refine aK rfl (AZ AP zL JG (dD rfl dZ) ?_);intro _ _;refine aK rfl (MB 0 (aV _) (by':=15) [_,_,_,_] rfl rfl rfl rfl rfl AP (.inr ⟨_,AP⟩) kR zL JG rfl hg rfl (iC (yR.at 0 rfl) rfl rfl rfl) oM ?_);intro _ a6;refine aK rfl (EM 3 rfl rfl rfl rfl (KR _ _) (QO _ _) LK rfl rfl (bT fU) (fV (fV (fV dV))) ?_);refine dR (bD (Ej.pull (iL (iL iD)) ?_));refine dK (dS (bY (bY (dS fZ)))) ?_;exact iI ⟨a4,_,by rw[a1f Z,O];exact a6,by rw[a1f Z,O];rfl⟩
  have a2:aQ x=false:=a1;have O:dL x=x:=by unfold dL;rw[a2];rfl
  refine Cj.ks (aF (aA (yX RX (yR.at 1 rfl)) ?_));refine aA yP ?_;refine aK rfl (AZ AP zL JG (dD rfl dZ) ?_);intro _ _;refine aK rfl (MB 0 (aV _) (by':=15) [_,_,_] rfl rfl rfl rfl rfl AP (.inr ⟨_,AP⟩) kR zL JG rfl hg rfl (iC (yR.at 0 rfl) rfl rfl rfl) oM ?_);intro _ a7;refine aK rfl (EM 2 rfl rfl rfl rfl (KR _ _) (QO _ _) LK rfl rfl (bT fU) (fV (fV dV)) ?_);refine dR (bD (Ej.pull (iL iD) ?_));refine dK (dS (bY (dS fZ))) ?_;exact iI ⟨a4,_,by rw[a1f Z,O];exact a7,by rw[a1f Z,O];rfl⟩
 ·intro _ _ _ a0 hY;have G:=a0 _ _ G;rw[bZ]at hY;obtain⟨ab,g,hg,rfl⟩:=hY;rw[bV]at hg;rw[show(dI (dG s skip)).take (dI (dG s skip)).length=dI (dG s skip) from bV];refine bD (fC (cZ (Cj.b0Z rfl (fun a8=>?_))));refine Cj.perm (H':=gH _ _ _++[_,_]) b6k ?_;refine Cj.a0U (hg.base (fun p hp=>a8 p (.tail _ (.tail _ (List.mem_append_left _ hp))))) (fun _ _ hv=>?_);refine aF (aA (yX RX (yR.at 1 rfl)) ?_);refine aK rfl (yU rfl rfl rfl rfl rfl (a5n ((dI (dG s skip)).map dL) _ (by rw[bZ];omega) oM _ hv) ?_);refine aA yQ ?_;refine J.ns (aT (Ej.a2G (.inl rfl) ?_));refine QM.mark 0 rfl dV ?_;refine QM.keep (bG _) ?_;exact QM.a6L rfl rfl rT
 exact fun _ _ _ _ _ hZ=>hZ.elim
theorem b2Y r (h:iY r=true):fJ r=true:=by
 unfold iY at h;unfold fJ;simp at h ⊢;omega
theorem b1C r I:∃b,Pure aG 275 [.int .i32 r] I (.bool b)∧(b=true→fJ r=true):=
 ⟨_,eP (dQ func275 dE rfl) fun w _=>Tryz.utf8_ValidRune r w,b2Y r⟩
theorem a1x l c I:Pure aG 170 [str l,u8 c] I (i64 (aY l c)):=
 eP (dQ func170 dE rfl) fun w _=>by
  have h:=Tryz.strings_IndexByte ⟨l.toArray⟩ c.toNat w;have e:((c.toNat:Int)).toNat.toUInt8=c:=sI;rw[IY,e]at h;exact h
theorem indexByte_none{l c}(h:∀d∈l,d.toNat<128)(O:128≤c.toNat):aY l c= -1:=by
 induction l with
 |nil=>rfl
 |cons d l A=>
  have hd:=h d (.head _);have hn:(d == c)=false:=by rw[beq_eq_false_iff_ne];intro e;subst e;omega
  rw[aY,hn,A fun x G=>h x (.tail _ G)];rfl
theorem c1C{r}(G:fJ r=true)(A:128≤r):2≤(aH r).data.toList.length∧(aH r).data.toList.length≤4∧∃c,(aH r).data.toList[(aH r).data.toList.length-1]?=some c∧128≤c.toNat:=by
 obtain⟨h1,h2,h3⟩:=encode_facts r G A;have hs:(aH r).data.toList.length=(aH r).size:=rfl;rw[hs];have h:(aH r).size-1<(aH r).size:=oM;exact⟨h1,h2,_,Lib.data_getElem? (aH r) _ h,h3 h⟩
theorem a4H{l:List UInt8}{i c}(h:l[i]?=some c)(O:c.toNat<128):bH ⟨l.toArray⟩ i=(c.toNat,1):=by
 obtain⟨A,hg⟩:=aB.1 h;have hs:i<(⟨l.toArray⟩:ByteArray).size:=by rw[size_mk];exact A
 have G:(⟨l.toArray⟩:ByteArray)[i]'hs=c:=by simp[ByteArray.getElem_eq_getElem_data,hg]
 rw[decode_ascii _ _ hs (by rw[G];exact O),G]
theorem a9t h (a0:∀c∈h,c.toNat<128)(h4:4≤h.length)(aj:h.length≤1000000) r (ad:128≤r)(hr:r≤2147483647) I:Pure aG 214 [str h,.int .i32 r] I (i64 (-1)):=by
 refine eU ?_;obtain⟨_,a3⟩:=b1C r I;refine yT.ob func214 ?_;intro w0 _;refine Cj.sr (aA yQ ?_);refine J.ns (aS (Cj.sr (aA yP ?_)));refine aA (WA rfl rfl rfl) ?_;refine aA yP ?_;refine iM 2 163 true _ rfl rfl rfl (zI oM) (zK yP ?_);refine iM 2 163 true _ rfl rfl rfl (zI oM) (zK BM ?_);refine aA (a3N rfl rfl (zI oM) rfl) ?_;refine aA yQ ?_;refine J.ns (bF rfl (fun a4=>aJ (dF (dM (zJ oM)) a4)) (fun a4=>?_));refine Cj.sr (aA yP ?_);refine aA BO ?_;refine aA yQ ?_;refine J.cd (fun O=>?_) (fun O=>?_)
 ·have ae:=CS O;refine cZ (Cj.sr (aA yP ?_));refine aK rfl (PV rfl rfl rfl rfl BF ?_);intro b3 _;refine J.ns (aS (fK (ι:=Nat) (fun i=>True) (fun i=>h.length-i) (fun i=>[(0,str h),(1,.int .i32 r),(174,str h),(175,ptr b3 0)]) (fun i=>I) (fun i=>[(b3,.stringIter ⟨h.toArray⟩ i)]) 0 trivial rT rfl rfl ?_));rintro i -;rcases bI i h.length with hp|hp
  ·obtain⟨c,Z⟩:∃c,h[i]?=some c:=⟨_,DX hp⟩;have a5:=a4H Z (a0 c (FB Z));refine Cj.sr (aK rfl (a0a 0 rfl rfl rfl rfl rfl (by rw[size_mk];omega) dV ?_));refine aA AQ ?_;refine J.nss (bF rfl (fun a8=>?_) (fun a8=>aJ (dF (dM rfl) a8)));refine Cj.ks (aS (Cj.sr (aA AQ ?_)));refine aA AQ ?_;refine aA yQ ?_;refine aA yQ ?_;refine J.yV (aA yP ?_);refine aA BO ?_;refine J.ns (bF rfl (fun a9=>aJ (dF (dM (beq_eq_false_iff_ne.2 (by rw[a5];dsimp only;have:=a0 c (FB Z);omega))) a9)) (fun a9=>?_));refine Cj.skip (bD (dW (i+(bH ⟨h.toArray⟩ i).2) trivial (by rw[a5];dsimp only;omega) rT rfl rfl))

  refine Cj.sr (aK rfl (VK 0 rfl rfl rfl rfl rfl (by rw[size_mk];omega) ?_));refine aA AQ ?_;refine J.nss (bF rfl (fun aa=>aJ (dF (dM rfl) aa)) (fun aa=>?_));refine Cj.xl (Cj.sr (aA yQ ?_));refine J.ns (aT (bU (fM ?_)));refine zN ?_;exact rT
 have ae:=CX O;refine Cj.sr (aA yP ?_);refine aK rfl (yU rfl rfl rfl rfl rfl (a3.1) ?_);refine aA (ER rfl rfl) ?_;refine aA yQ ?_;refine J.cd (fun ab=>?_) (fun ab=>?_)
 ·refine Cj.sr (aA yQ ?_);refine J.ns (aT (bU (zN ?_)));exact rT
 have ah:fJ r=true:=a3.2 (by simpa using ab);obtain⟨_,_,c2,a1,O⟩:=c1C ah ad;obtain⟨c1,a2⟩:∃c,h[(aH r).data.toList.length-1]?=some c:=⟨_,DX oM⟩;have a4:=a0 c1 (FB a2);have ai:(c1.toNat:Int)≠c2.toNat:=oM;have af:∀d∈(h.take h.length).drop ((aH r).data.toList.length-1+1),d.toNat<128:=fun d hd=>a0 d (gK (List.mem_of_mem_drop hd));refine Cj.scope ?_;refine Cj.sr (aA yP ?_);refine aA (LW rfl rfl a0Q BF) ?_;refine aA yQ ?_;refine J.yV (aA yP ?_);refine aA (GK BF) ?_;refine aA (IC rfl rfl rfl (AA oM)) ?_;refine aA yQ ?_;refine J.yV (aA yP ?_);refine aA yQ ?_;refine J.yV (aA yQ ?_);refine J.nss (aS (fK (ι:=Unit) (fun i=>True) (fun i=>0) (fun i=>[(0,str h),(7,str (aH r).data.toList),(8,i64 ((aH r).data.toList.length-1:Int)),(9,i64 ((aH r).data.toList.length-1:Int))]) (fun i=>I) (fun i=>[]) () trivial rT rfl rfl ?_));rintro _ -;refine cZ (Cj.sr (aA yP ?_));refine aA yP ?_;refine aA (GK BF) ?_;refine aA BM ?_;refine J.ns (bF rfl (fun ac=>?_) (fun ac=>aJ (dF (dM (zI oM)) ac)));refine Cj.ks (aS (Cj.scope ?_));refine cZ (cZ (fH [] [] 7 kR ?_));refine eX BQ (fun G=>?_);refine aI 0 rfl G yP ?_;refine aI 1 rfl G yP ?_;refine aI 2 rfl G (DU rfl rfl rfl BF oM (by rw[show((((aH r).data.toList.length:Int)-1).toNat)=(aH r).data.toList.length-1 by omega];exact a2)) ?_;refine aI 3 rfl G yP ?_;refine aI 4 rfl G yP ?_;refine aI 5 rfl G (DU rfl rfl rfl BF oM (by rw[show((((aH r).data.toList.length:Int)-1).toNat)=(aH r).data.toList.length-1 by omega];exact a1)) ?_;refine aI 6 rfl G EY ?_;refine AL ?_;refine fC (bF rfl (fun a6=>?_) (fun a6=>aJ (dF (dM (bne_iff_ne.2 ai)) a6)));refine cZ (fH [] [] 9 kR ?_);refine eX BQ (fun A=>?_);refine aI 0 rfl A yP ?_;refine aI 1 rfl A yP ?_;refine aI 2 rfl A (yZ rfl rfl rfl (AA oM)) ?_;refine gG 36 rfl (show _=i64 ((aH r).data.toList.length-1+1:Nat) from(by congr 1;omega)) ?_;refine aI 3 rfl A (CY (p:=(aH r).data.toList.length-1+1) (q:=h.length) rfl rfl BF ⟨_,rfl⟩ rfl oM oM) ?_;refine aI 4 rfl A yP ?_;refine aI 5 rfl A yP ?_;refine aI 6 rfl A (DU rfl rfl rfl BF oM (by rw[show((((aH r).data.toList.length:Int)-1).toNat)=(aH r).data.toList.length-1 by omega];exact a1)) ?_;refine zT 7 rfl (yU rfl rfl rfl rfl rfl (a1x _ _ _) ?_);refine⟨EU,?_⟩;refine gG 41 rfl (show _=i64 (-1) from(by rw[indexByte_none af O])) ?_;refine eX BQ (fun ag=>?_);refine aI 8 rfl ag yQ ?_;refine AL ?_;refine fC (cZ (Cj.sr (aA yP ?_)));refine aA BM ?_;refine J.ns (bF rfl (fun a7=>?_) (fun a7=>aJ (dF (dM (zI oM)) a7)));refine Cj.sr (aA yQ ?_);refine J.ns (Cj.rs (eF (Ej.b1g ?_)));refine bU (iO (bU (eF (Ej.b1g ?_))));refine bU (zN ?_);exact rT
theorem a5G h (O:∀c∈h,c.toNat<128)(Z:4≤h.length)(A:h.length≤1000000) r (G:128≤r)(hr:r≤2147483647) I:Pure aG 161 [str h,.int .i32 r] I (.bool false):=by
 refine yT.ob func161 ?_;intro w0 _;refine Cj.sr (aA yQ ?_);refine J.yV (aA yP ?_);refine aA yP ?_;refine aK rfl (yU rfl rfl rfl rfl rfl (a9t h O Z A r G hr _) ?_);refine aA (MC rfl rfl rfl) ?_;refine aA yQ ?_;refine J.ns (aT (zN ?_));exact rT
def b2x:List UInt8:=[48,49,50,51,52,53,54,55,56,57,88,120,32,45]
theorem c1y c:decide (0≤aY b2x c)=aO c:=by
 have h:∀n<256,decide (0≤aY b2x (aW n))=aO (aW n):=by decide +kernel
 have:=h c.toNat c.toNat_lt
 rwa [fG]at this
def okr (r:Nat):Bool:=decide (r<128) && aO (aW r)
theorem a8v(r:Nat)(hr:r≤1114111) I:Pure aG 161 [str b2x,.int .i32 (r:Int)] I (.bool (okr r)):=by
 rcases bI r 128 with h|h
 ·refine eP (dQ func161 dE rfl) fun w _=>?_;have h1:=Tryz.strings_ContainsRune_ascii ⟨b2x.toArray⟩ (r:Int) w oM oM;have e:((r:Int)).toNat.toUInt8=aW r:=rfl;rw[IY,e,c1y]at h1;have A:okr r=aO (aW r):=by simp[okr,h]
  rw[A];exact h1
 have A:okr r=false:=by simp[okr];omega
 rw[A];exact a5G b2x dE dE dE (r:Int) oM oM I
theorem c1R(r:Nat)(hr:r≤1114111) I:Pure aG 160 [.int .i32 (r:Int)] I (.bool (!okr r)):=by
 refine yT.ob func160 ?_;intro w0 _;refine Cj.sr (aA yQ ?_);refine J.yV (aA yP ?_);refine aK rfl (yU rfl rfl rfl rfl rfl (a8v r hr _) ?_);refine aA (ER rfl rfl) ?_;refine aA yQ ?_;refine J.ns (aT (zN ?_));exact rT
theorem c6d{l:List UInt8}{i c}(h:l[i]?=some c)(A:128≤c.toNat):128≤(bH ⟨l.toArray⟩ i).1:=by
 have h1:Lib.decodeL (l.drop i)=bH ⟨l.toArray⟩ i:=Lib.decodeL_drop ⟨l.toArray⟩ i;rw[←h1,drop_cons h,Lib.decodeL_N];simp only[List.getD_cons_zero];unfold Lib.decodeN;rw[zF oM]
 split
 ·split
  ·assumption
  decide
 split
 ·split
  ·rename_i h2;exact IU dE h2.1
  decide
 split
 ·split
  ·rename_i h2;exact IU dE h2.1
  decide
 decide
theorem b4G{l:List UInt8}{i c}(h:l[i]?=some c)(A:okr (bH ⟨l.toArray⟩ i).1=true):aO c=true∧(bH ⟨l.toArray⟩ i).2=1:=by
 rcases bI c.toNat 128 with G|G
 ·rw[a4H h G]at A ⊢;simp only[okr,dX,fG]at A;exact⟨A.2,rfl⟩
 have:=c6d h G;simp only[okr,dX,zH]at A;omega
theorem c1l{l:List UInt8}{i c}(h:l[i]?=some c)(G:okr (bH ⟨l.toArray⟩ i).1=false):aO c=false:=by
 rcases bI c.toNat 128 with A|A
 ·rw[a4H h A]at G;simpa[okr,A]using G
 have h1:∀n<256,128≤n→aO (aW n)=false:=by decide +kernel
 have:=h1 c.toNat c.toNat_lt A
 rwa [fG]at this
theorem c1x{l:List UInt8}{i c}(h:(l.take i).all aO=true)(O:l[i]?=some c)(A:aO c=true):(l.take (i+1)).all aO=true:=by
 obtain⟨G,hg⟩:=aB.1 O;rw[aN G,hg,List.all_append,h];simp[A]
theorem b7c{l:List UInt8}:∀{i:Nat} {c:UInt8},(l.take i).all aO=true→l[i]?=some c→aO c=false→l.takeWhile aO=l.take i:=by
 induction l with
 |nil=>intro i c _ h;simp at h
 |cons a r O=>
  intro i c h G A;cases i with
  |zero=>simp at G;subst G;rw[List.takeWhile_cons_of_neg (by simp[A])];rfl
  |succ i=>
   simp only[gY,iZ,dX]at h;rw[fF h.1,O h.2 (by simpa using G) A,gY]
theorem a8I{l:List UInt8}(h:l.all aO=true):l.takeWhile aO=l:=by
 induction l with
 |nil=>rfl
 |cons a r A=>
  rw[iZ,dX]at h;rw[fF h.1,A h.2]
def b8Q (s:List UInt8) (n:Int):Prop:=(n= -1∧s.takeWhile aO=s)∨∃k:Nat,n=k∧k≤s.length∧s.takeWhile aO=s.take k
theorem b3y s I:yT aG 213 [str s,.func (.func 160) #[] #[],.bool true] I [] (fun e I' H'=>∃n,e= .returned (i64 n)∧b8Q s n∧H'=[]):=by
 refine yT.ob func213 ?_;intro w0 _;refine Cj.sr (aA yQ ?_);refine J.AO (aF (aA yP ?_));refine aK rfl (PV rfl rfl rfl rfl BF ?_);intro b1 _;refine J.ns (aS (fK (ι:=Nat) (fun i=>i≤s.length∧(s.take i).all aO=true) (fun i=>s.length-i) (fun i=>[(1,.func (.func 160) #[] #[]),(2,.bool true),(10,ptr b1 0)]) (fun i=>I) (fun i=>[(b1,.stringIter ⟨s.toArray⟩ i)]) 0 ⟨aV _,rfl⟩ rT rfl rfl ?_));rintro i ⟨hi,G⟩;rcases bI i s.length with hp|hp
 ·have hd:=Ke.VD s hp;have a2:=Ke.decode_le s i;obtain⟨c,A⟩:∃c,s[i]?=some c:=⟨_,DX hp⟩;refine Cj.sr (aK rfl (a0a 0 rfl rfl rfl rfl rfl (by rw[size_mk];omega) dV ?_));refine aA AQ ?_;refine J.nss (bF rfl (fun a0=>?_) (fun a0=>aJ (dF (dM rfl) a0)));refine Cj.ks (aS (Cj.sr (aA AQ ?_)));refine aA AQ ?_;refine aA yQ ?_;refine aA yQ ?_;refine J.yV (aA yP ?_);refine aA yP ?_;refine aK rfl (yU rfl rfl rfl rfl rfl (c1R _ a2 _) ?_);refine aA yP ?_;refine aA (a3Q rfl rfl rfl tU4) ?_;refine J.cd (fun Z=>?_) (fun Z=>?_)
  ·have O:okr (bH ⟨s.toArray⟩ i).1=false:=by have h:=Z;simpa using h
   refine Cj.sr (aA yP ?_);refine aA yQ ?_;refine J.ns (aT (bU (iO (bU (eF (fM ?_))))));refine zN ?_;exact⟨_,rfl,.inr ⟨i,rfl,hi,b7c G A (c1l A O)⟩,rfl⟩
  have O:okr (bH ⟨s.toArray⟩ i).1=true:=by have h:=Z;simpa using h
  refine Cj.skip (bD (dW (i+(bH ⟨s.toArray⟩ i).2) ⟨hd.2,by rw[(b4G A O).2];exact c1x G A (b4G A O).1⟩ oM rT rfl rfl))

 refine Cj.sr (aK rfl (VK 0 rfl rfl rfl rfl rfl (by rw[size_mk];omega) ?_));refine aA AQ ?_;refine J.nss (bF rfl (fun a1=>aJ (dF (dM rfl) a1)) (fun a1=>?_));refine Cj.xl (Cj.sr (aA yQ ?_));refine J.ns (aT (fM ?_));refine zN ?_;exact⟨_,rfl,.inl ⟨rfl,a8I (by rw[aX oM]at G;exact G)⟩,rfl⟩
theorem b3f s I:yT aG 159 [str s,.func (.func 160) #[] #[]] I [] (fun e G H'=>∃n,e= .returned (i64 n)∧b8Q s n∧H'=[]):=by
 refine yT.ob func159 ?_;intro w0 _;refine Cj.sr (aA yQ ?_);refine J.yV (aA yP ?_);refine aA yP ?_;refine aK rfl (yS (H1:=[]) rfl rfl rfl rfl rfl (b3y s _) ?_ (fun _ _ _ _ ⟨_,h,_⟩=>by cases h) (fun _ _ ⟨_,h,_⟩=>by cases h));intro _ _ _ _ A;obtain⟨n,h,hn,rfl⟩:=A;cases h;refine aA yQ ?_;refine J.ns (aT (zN ?_));exact⟨_,rfl,hn,rfl⟩
theorem c0J{l sp}{k:Nat}{c}(h:l[k]?=some c):(EP l++sp)[k]?=some (u8 c):=by
 obtain⟨A,_⟩:=aB.1 h;rw[List.getElem?_append_left (by rw[PG];exact A),EP,iG,h];rfl
theorem w8{x}(h:0≤x∧x≤255):jI.wrap x=x:=by
 simp[jB,jC,iU];omega
theorem b5B:∀(l:List UInt8) (k:Nat),dH k l≤1000*l.length
 |[],_=>by simp[dH]
 |c::r,k=>by
  have h1:=b5B r (k+1);have h2:=c.toNat_lt;have h3:(c.toNat-48)*(1+2*(k % 2))≤255*3:=fA oM oM;simp only[dH,fO];omega
theorem b9e{l:List UInt8}{k c}(h:l[k]?=some c):dH 0 (l.take (k+1))=dH 0 (l.take k)+(c.toNat-48)*(1+2*(k % 2)):=by
 obtain⟨A,hg⟩:=aB.1 h;rw[aN A,hg,Ke.b1N,dH,dH,bC,dP oM,gZ,Nat.add_zero]
theorem b9r c:dJ c≤255:=by
 have h2:=c.toNat_lt;unfold dJ;split<;>omega
theorem b5v:∀(l:List UInt8) (k:Nat),dN k l≤2550*l.length
 |[],_=>by simp[dN]
 |c::r,k=>by
  have h1:=b5v r (k+1);have h3:(10-k)*dJ c≤10*255:=fA oM (b9r c);simp only[dN,fO];omega
theorem b0q{l:List UInt8}{k c}(h:l[k]?=some c):dN 0 (l.take (k+1))=dN 0 (l.take k)+(10-k)*dJ c:=by
 obtain⟨A,hg⟩:=aB.1 h;rw[aN A,hg,Ke.b3e,dN,dN,bC,dP oM,gZ,Nat.add_zero]
theorem b0a{l}{k:Nat}{c}(hd:aQ l=true)(h:l[k]?=some c):48≤c.toNat∧c.toNat≤57:=Ke.a4u.1 (bW.1 hd c (FB h))
theorem b2k s (a3:12≤s.length)(hs:s.length≤1000000)(hd:aQ (s.take 12)=true) I:Pure aG 166 [str s] I (u8 (bM s)):=by
 refine eU ?_;have a4:(s.take 12).length=12:=by rw[bC];omega
 refine yT.ob func166 ?_;intro w0 _;refine Cj.sr (aA yQ ?_);refine J.yV (aA yQ ?_);refine J.AO (aF (aA yP ?_));refine aA (CY (p:=0) (q:=12) rfl rfl BF rfl ⟨_,rfl⟩ oM oM) ?_;refine aP 7 rfl (show _=str (s.take 12) from(by rw[dU])) ?_;refine aK rfl (YE rfl rfl rfl rfl BF ES ZJ ?_);intro b1 c2 a0 O _ _;refine aA (AU ES) ?_;refine aA yP ?_;refine J.ns (aS (fK (ι:=Nat) (fun j=>j≤(s.take 12).length) (fun j=>(s.take 12).length-j) (fun j=>[(0,str s),(3,i64 ((dH 0 ((s.take 12).take j):Nat):Int)),(8,.slice (some ⟨b1,0,none⟩) (s.take 12).length c2),(9,i64 ((s.take 12).length:Int)),(10,i64 (j:Int))]) (fun j=>I) (fun j=>[(b1,.cells (EP (s.take 12)++a0).toArray 5 (O,O+1))]) 0 (aV _) rT rfl rfl ?_));intro j hj;have a1:=b5B ((s.take 12).take j) 0;rw[bC,dP hj]at a1;refine Cj.sr (aA BM ?_);refine J.nss (bF rfl (fun A=>?_) (fun A=>?_))
 ·have Z:=BH A;have a2:j<(s.take 12).length:=oM;obtain⟨c,h⟩:∃c,(s.take 12)[j]?=some c:=⟨_,DX a2⟩;have hc:=b0a hd h;have hm:(c.toNat-48)*(1+2*(j % 2))≤9*3:=fA oM oM;refine Cj.ks (cZ (aS (Cj.sr (aA yP ?_))));refine aA (BG (off':=j) ES RF) ?_;refine aA (EN tA5 (yR.at 0 rfl) (c0J h)) ?_;refine aA yQ ?_;refine aA yQ ?_;refine J.GL (aA yP ?_);refine aA yP ?_;refine aA (IC rfl rfl rfl (w8 oM)) ?_;refine aA (NJ rfl rfl ZJ tU3) ?_;refine aP 18 rfl (show _=i64 ((c.toNat-48:Nat):Int) from(zD i64 ((AA oM).trans oM))) ?_;refine aA yP ?_;refine aA (UN rfl rfl rfl dE) ?_;refine aP 20 rfl (show _=i64 ((j % 2:Nat):Int) from rfl) ?_;refine aA (a0y rfl rfl rfl (AA oM)) ?_;refine aA (yZ rfl rfl rfl (AA oM)) ?_;refine aP 22 rfl (show _=i64 ((1+2*(j % 2):Nat):Int) from(zD i64 oM)) ?_;refine aA (a0y rfl rfl rfl (AA (by rw[←dA];omega))) ?_;refine aP 23 rfl (show _=i64 (((c.toNat-48)*(1+2*(j % 2)):Nat):Int) from(zD i64 (dA _ _).symm)) ?_;refine aA (yZ rfl rfl rfl (AA oM)) ?_;refine aA yQ ?_;refine J.nb (aF (aA (yZ rfl rfl rfl (AA oM)) ?_));refine aA yP ?_;refine dR (dW (j+1) oM oM ⟨rfl,by rw[b9e h];exact zD (fun z=>some (fD .i64 z)) oM,rfl,rfl,rfl,trivial⟩ rfl rfl)
 have Z:=BN A;have G:(s.take 12).take j=s.take 12:=aX oM;refine Cj.xl (Cj.sr (aA yP ?_));refine aA (UN rfl rfl rfl dE) ?_;refine aP 27 rfl (show _=i64 ((dH 0 (s.take 12) % 10:Nat):Int) from(by rw[G];rfl)) ?_;refine aA (IC rfl rfl rfl (AA oM)) ?_;refine aP 28 rfl (show _=i64 ((10-dH 0 (s.take 12) % 10:Nat):Int) from(zD i64 oM)) ?_;refine aA (UN rfl rfl rfl dE) ?_;refine aP 29 rfl (show _=i64 (((10-dH 0 (s.take 12) % 10) % 10:Nat):Int) from rfl) ?_;refine aA (yZ rfl rfl rfl (AA oM)) ?_;refine aP 30 rfl (show _=i64 ((48+(10-dH 0 (s.take 12) % 10) % 10:Nat):Int) from(zD i64 oM)) ?_;refine aA (NJ rfl rfl tU3 ZJ) ?_;refine aP 31 rfl (show _=u8 (bM s) from(zD (fD .u8) (b6z oM))) ?_;refine aA yQ ?_;refine J.ns (aT (dK (bG _) ?_));refine zN ?_;exact rT
theorem b0G s (a8:s.length=10)(hx:∀c∈s,jD c=true∨c=88) I:Pure aG 165 [str s] I (.bool (bP s)):=by
 refine eU ?_;refine yT.ob func165 ?_;intro w0 _;refine Cj.sr (aA yQ ?_);refine J.yV (aA yQ ?_);refine J.AO (aF (aA yP ?_));refine aK rfl (YE rfl rfl rfl rfl BF ES ZJ ?_);intro b1 c2 a4 a1 _ _;refine aA (AU ES) ?_;refine aA yP ?_;refine J.ns (aS (fK (ι:=Nat) (fun j=>j≤s.length) (fun j=>s.length-j) (fun j=>[(0,str s),(3,i64 ((dN 0 (s.take j):Nat):Int)),(8,.slice (some ⟨b1,0,none⟩) s.length c2),(9,i64 (s.length:Int)),(10,i64 (j:Int))]) (fun j=>I) (fun j=>[(b1,.cells (EP s++a4).toArray 5 (a1,a1+1))]) 0 (aV _) rT rfl rfl ?_));intro j hj;have a5:=b5v (s.take j) 0;rw[bC,dP hj]at a5;refine Cj.sr (aA BM ?_);refine J.nss (bF rfl (fun Z=>?_) (fun Z=>?_))
 ·have a2:=BH Z;have a6:j<s.length:=oM;obtain⟨c,G⟩:∃c,s[j]?=some c:=⟨_,DX a6⟩;have hc:48≤c.toNat:=(hx c (FB G)).elim (fun h=>(Ke.a4u.1 h).1) (fun h=>by subst h;decide);have a9:=c.toNat_lt;have hm:(10-j)*dJ c≤10*255:=fA oM (b9r c);refine Cj.ks (cZ (aS (Cj.sr (aA yP ?_))));refine aA (BG (off':=j) ES RF) ?_;refine aA (EN tA5 (yR.at 0 rfl) (c0J G)) ?_;refine aA yQ ?_;refine aA yQ ?_;refine J.yV (aA yP ?_);refine aA (IC rfl rfl rfl (w8 oM)) ?_;refine aA (NJ rfl rfl ZJ tU3) ?_;refine aP 17 rfl (show _=i64 ((c.toNat-48:Nat):Int) from(zD i64 ((AA oM).trans oM))) ?_;refine aA yQ ?_;refine J.AO (aF (aA yP ?_));refine aA BO ?_;refine J.cd (fun O=>?_) (fun O=>?_)
  ·have a3:=CS O;have a7:dJ c=10:=by
    have h:(c.toNat:Int)=88:=CS O;unfold dJ;rw[zG (iP.1 (by rw[show(88:UInt8).toNat=88 from rfl];omega))]
   refine aF (aA yQ ?_);refine J.GL (aA yP ?_);refine aA yP ?_;refine aA (IC rfl rfl rfl (AA oM)) ?_;refine aP 22 rfl (show _=i64 ((10-j:Nat):Int) from(zD i64 oM)) ?_;refine aA yP ?_;refine aP 23 rfl (show _=i64 ((dJ c:Nat):Int) from(zD i64 oM)) ?_;refine aA (a0y rfl rfl rfl (AA (by rw[←dA];omega))) ?_;refine aP 24 rfl (show _=i64 (((10-j)*dJ c:Nat):Int) from(zD i64 (dA _ _).symm)) ?_;refine aA (yZ rfl rfl rfl (AA oM)) ?_;refine aA yQ ?_;refine J.nb (aF (aA (yZ rfl rfl rfl (AA oM)) ?_));refine aA yP ?_;refine dR (dW (j+1) oM oM ⟨rfl,by rw[b0q G];exact zD (fun z=>some (fD .i64 z)) oM,rfl,rfl,rfl,trivial⟩ rfl rfl)
  have a3:=CX O;have a7:dJ c=c.toNat-48:=by
   have h:¬(c.toNat:Int)=88:=CX O;unfold dJ;rw[zF (fun e=>h (by subst e;rfl))]
  refine Cj.ks (aF (aA yP ?_));refine aA yP ?_;refine aA (IC rfl rfl rfl (AA oM)) ?_;refine aP 22 rfl (show _=i64 ((10-j:Nat):Int) from(zD i64 oM)) ?_;refine aA yP ?_;refine aP 23 rfl (show _=i64 ((dJ c:Nat):Int) from(zD i64 oM)) ?_;refine aA (a0y rfl rfl rfl (AA (by rw[←dA];omega))) ?_;refine aP 24 rfl (show _=i64 (((10-j)*dJ c:Nat):Int) from(zD i64 (dA _ _).symm)) ?_;refine aA (yZ rfl rfl rfl (AA oM)) ?_;refine aA yQ ?_;refine J.nb (aF (aA (yZ rfl rfl rfl (AA oM)) ?_));refine aA yP ?_;refine dR (dW (j+1) oM oM ⟨rfl,by rw[b0q G];exact zD (fun z=>some (fD .i64 z)) oM,rfl,rfl,rfl,trivial⟩ rfl rfl)
 have a2:=BN Z;have a0:s.take j=s:=aX oM;refine Cj.xl (Cj.sr (aA yP ?_));refine aA (UN rfl rfl rfl dE) ?_;refine aP 28 rfl (show _=i64 ((dN 0 s % 11:Nat):Int) from(by rw[a0];rfl)) ?_;refine aA BO ?_;refine aA yP ?_;refine J.split 30 rfl (fun A=>?_) (fun A=>?_)
 ·have hr:(dN 0 s % 11 == 0)=true:=beq_iff_eq.2 (by have h:=CS A;omega);refine zU 3 30 true A (zK yP ?_);refine iM 3 30 true _ rfl rfl rfl A (IE (CY (p:=0) (q:=9) rfl rfl BF rfl ⟨_,rfl⟩ oM oM) rfl rfl ?_);refine aP 32 rfl (show _=str (s.take 9) from(by rw[dU])) ?_;refine iM 3 30 true _ rfl rfl rfl A (yU rfl rfl rfl rfl rfl (a0v (s.take 9) (by rw[bC];omega) _) ?_);refine aA (DY A) ?_;refine aA yQ ?_;refine J.ns (aT (dK (bG _) ?_));refine zN ?_;exact⟨zD (fun b=>fP (.bool b)) (by unfold bP;rw[hr];rfl),rfl⟩
 have hr:(dN 0 s % 11 == 0)=false:=beq_eq_false_iff_ne.2 (fun e=>CX A (by rw[e];rfl));refine zO 3 30 31 true A ?_;refine zO 3 30 32 true A ?_;refine zO 3 30 33 true A ?_;refine aA (DV A) ?_;refine aA yQ ?_;refine J.ns (aT (dK (bG _) ?_));refine zN ?_;exact⟨zD (fun b=>fP (.bool b)) (by unfold bP;rw[hr];rfl),rfl⟩
theorem b7n s:∀c∈aC s,jD c=true∨c=88:=fun c h=>by
 obtain⟨d,hd,rfl⟩:=List.mem_map.1 h;obtain⟨h1,h2⟩:=iQ.1 hd;have h3:aO d=true:=bW.1 (iE (p:=aO)) d h1;revert h2 h3;exact Ke.b1M (p:=fun d=>Ke.nb d=true→aO d=true→jD (Ke.up d)=true∨Ke.up d=88) (by decide +kernel) d
theorem b1t s:(aC s).length≤s.length:=by
 unfold aC;rw[bZ];exact IU (eG _ _) (eH _).length_le
theorem b6s s (hs:s.length≤1000000000) I:Pure aG 162 [str (iF (s.takeWhile aO))] I (str (aC s)):=by
 refine gQ (dQ func162 dE rfl) fun w _=>?_;have A:∀c∈iF (s.takeWhile aO),c.toNat<128∧Lib.upperB c=Ke.up c:=fun c G=>by
  obtain⟨h1,h2⟩:=iQ.1 G;have h3:aO c=true:=bW.1 (iE (p:=aO)) c h1;revert h3;exact Ke.b1M (p:=fun c=>aO c=true→c.toNat<128∧Lib.upperB c=Ke.up c) (by decide +kernel) c
 have Z:(iF (s.takeWhile aO)).length≤s.length:=IU (eG _ _) (eH _).length_le;have h:=Tryz.strings_ToUpper_ascii ⟨(iF (s.takeWhile aO)).toArray⟩ w (by rw[size_mk];omega) (fun j b O=>by rw[IY]at O;exact(A b (FB O)).1);rw[IY]at h;have e:Lib.toUpperA (iF (s.takeWhile aO))=aC s:=gX fun c G=>(A c G).2;rw[e]at h;exact h
theorem c0y{a b}(h:a.length=12):bM (a++b)=bM a:=by
 unfold bM;rw[eY oM]
theorem b8O{a b}(h:aQ a=true)(A:a.length=9):aQ (([57,55,56]++a++b).take 12)=true:=by
 rw[eY (by simp;omega),aX (by simp;omega),Ke.a3E,h];rfl
theorem a8N s (hs:s.length≤100000000) I:Pure aG 93 [str s] I (.tuple #[str (fB s).1,.bool (fB s).2]):=by
 refine eU ?_;have ap:=b7n s;have ax:=b1t s;have ay:(s.takeWhile aO).length≤s.length:=(eH _).length_le;refine yT.ob func93 ?_;intro w0 _;refine Cj.sr (aA yQ ?_);refine aA yQ ?_;refine J.yV (aA yP ?_);refine aK rfl (yS (H1:=[]) rfl rfl rfl rfl rfl (b3f s _) ?_ (fun _ _ _ _ ⟨_,h,_⟩=>by cases h) (fun _ _ ⟨_,h,_⟩=>by cases h));intro _ _ _ _ aq;obtain⟨n,h,hn,rfl⟩:=aq;cases h;refine aA yQ ?_;refine J.ns (Cj.join (ι:=Heap) (fun J4=>True) (fun J4=>[(0,str (s.takeWhile aO))]) (fun J4=>J4) (fun J4=>[]) ?_ (fun Z=>?_))
 ·rintro J4 -;refine Cj.sr (aK rfl (AZ AP zL JG (dD rfl (dD rfl (dD rfl (dD rfl dZ)))) ?_));intro b6 _;refine J.pull iD ?_;refine aK rfl (yS (H1:=[_]) rfl rfl rfl rfl rfl (a8F _ _ _ _ b6 _ _) ?_ (fun _ _ _ _ ⟨_,_,h,_⟩=>by cases h) (fun _ _ ⟨_,_,h,_⟩=>by cases h));intro _ _ _ _ al;obtain⟨rb,ar,h,rfl,ho⟩:=al;cases h;refine aA yP ?_;refine J.pull iD ?_;refine aK rfl (yS (H1:=[_]) rfl rfl rfl rfl rfl (b4n rb ar (s.takeWhile aO) oM _ ho) ?_ (fun _ _ _ _ h=>by cases h.1) (fun _ _ h=>by cases h.1));intro _ _ _ ad am;have ho:=ho.mono ad;obtain⟨h,rfl⟩:=am;cases h;refine aP 15 rfl (show _=str (iF (s.takeWhile aO)) from rfl) ?_;refine aK rfl (yU rfl rfl rfl rfl rfl (b6s s oM _) ?_);refine aA yQ ?_;refine J.ns (Cj.join (ι:=Heap) (fun J8=>¬((aC s).length=10∧bP (aC s)=true)∧¬((aC s).length=13∧aQ (aC s)=true∧bM (aC s)=(aC s).getD 12 0)) (fun J8=>[(0,str (aC s))]) (fun J8=>J8) (fun J8=>[]) ?_ (fun Z=>?_))
  ·rintro J8 ⟨a3,a2⟩;refine Cj.sr (aA yQ ?_);refine aA yQ ?_;refine J.ns (aT (dK (bG _) ?_));refine Ej.a0L rfl rfl rfl rfl ?_;have he:fB s=([],false):=by unfold fB jE;rw[zF a3,zF a2]
   rw[he];exact rT
  refine aS (Cj.join (ι:=Bool×Heap) (fun y=>(y.1=true→(aC s).length=10∧bP (aC s)=true)∧(y.1=false→¬((aC s).length=10∧bP (aC s)=true))) (fun y=>[(0,str (aC s)),(17,.bool y.1)]) (fun y=>y.2) (fun y=>[]) ?_ (fun Z=>?_))
  ·rintro⟨y,_⟩ ⟨ag,ah⟩;dsimp only at ag ah ⊢;refine bF rfl ?_ ?_<;>intro a6
   ·obtain⟨a8,ai⟩:=ag a6;have au:aQ ((aC s).take 9)=true:=(Bool.and_eq_true_iff.1 ai).2;have an:=b8O (b:=[48]) au (by rw[bC];omega);refine Cj.sr (aA yP ?_);refine aA (CY (p:=0) (q:=9) rfl rfl BF rfl ⟨_,rfl⟩ oM oM) ?_;refine aP 26 rfl (show _=str ((aC s).take 9) from(by rw[dU])) ?_;refine aA (EZ rfl rfl rfl (by first|omega|(simp only[aU];omega)|(simp;omega))) ?_;refine aA yQ ?_;refine J.yV (aA yP ?_);refine aA yP ?_;refine aA (EZ rfl rfl rfl (by first|omega|(simp only[aU];omega)|(simp;omega))) ?_;refine aK rfl (yU rfl rfl rfl rfl rfl (b2k _ (by simp;omega) (by simp;omega) an _) ?_);refine aP 31 rfl (show _=u8 (bM ([57,55,56]++(aC s).take 9)) from(by rw[c0y (by simp;omega)])) ?_;refine aK rfl (AZ ES RF tZ5 (dD rfl dZ) ?_);intro _ _;refine aA (ZV [bM ([57,55,56]++(aC s).take 9)] rfl rfl rfl ES BF ZJ (yR.at 0 rfl) rfl) ?_;refine aA (EZ rfl rfl rfl (by first|omega|(simp only[aU];omega)|(simp;omega))) ?_;refine aA yQ ?_;refine aA yQ ?_;refine J.ns (aT (bU (eF (dK (bG _) ?_))));refine Ej.a0L rfl rfl rfl rfl ?_;have he:fB s=([57,55,56]++(aC s).take 9++[bM ([57,55,56]++(aC s).take 9)],true):=by unfold fB jE;rw[zG ⟨a8,ai⟩]
    rw[he];exact rT
   have a3:=ah a6;refine cZ (fH [] [] 15 kR ?_);refine eX BQ (fun A=>?_);refine aI 0 rfl A yP ?_;refine aI 1 rfl A (GK BF) ?_;refine aI 2 rfl A BO ?_;refine aI 3 rfl A yP ?_;refine JA.split 39 rfl (fun a0=>?_) (fun a0=>?_)
   rotate_left
   ·have a2:¬((aC s).length=13∧aQ (aC s)=true∧bM (aC s)=(aC s).getD 12 0):=fun e=>CX a0 (by rw[e.1];rfl);refine CJ 4 3 39 true A (.inl (zD aZ a0)) ?_;refine CJ 5 3 39 true A (.inl (zD aZ a0)) ?_;refine aI 6 rfl A (DV a0) ?_;refine aI 7 rfl A yP ?_;refine CJ 8 7 43 true A (.inl (zD aZ rfl)) ?_;refine CJ 9 7 43 true A (.inl (zD aZ rfl)) ?_;refine CJ 10 7 43 true A (.inl (zD aZ rfl)) ?_;refine CJ 11 7 43 true A (.inl (zD aZ rfl)) ?_;refine CJ 12 7 43 true A (.inl (zD aZ rfl)) ?_;refine aI 13 rfl A IL ?_;refine aI 14 rfl A yQ ?_;refine AL ?_;refine fC (bF rfl (fun a9=>aJ (dF (dM rfl) a9)) (fun a9=>?_));refine Cj.skip (bD ?_);exact Z _ _ _ _ ⟨a3,a2⟩ rT rfl rfl
   have av:(aC s).length=13:=by have h:=CS a0;omega
   refine iR 4 3 39 true _ rfl A rfl rfl a0 yP ?_;refine JA.stepG 5 3 39 true _ kR rfl rfl rfl rfl a0 (yU rfl rfl rfl rfl rfl (a0v (aC s) oM _) ?_);refine⟨EU,?_⟩;refine eX BQ (fun O=>?_);refine aI 6 rfl O (DY a0) ?_;refine aI 7 rfl O yP ?_;refine JA.split 43 rfl (fun G=>?_) (fun G=>?_)
   rotate_left
   ·have a2:¬((aC s).length=13∧aQ (aC s)=true∧bM (aC s)=(aC s).getD 12 0):=fun e=>aJ (e.2.1.symm.trans G);refine CJ 8 7 43 true O (.inl (zD aZ G)) ?_;refine CJ 9 7 43 true O (.inl (zD aZ G)) ?_;refine CJ 10 7 43 true O (.inl (zD aZ G)) ?_;refine CJ 11 7 43 true O (.inl (zD aZ G)) ?_;refine CJ 12 7 43 true O (.inl (zD aZ G)) ?_;refine aI 13 rfl O (DV G) ?_;refine aI 14 rfl O yQ ?_;refine AL ?_;refine fC (bF rfl (fun aa=>aJ (dF (dM rfl) aa)) (fun aa=>?_));refine Cj.skip (bD ?_);exact Z _ _ _ _ ⟨a3,a2⟩ rT rfl rfl
   have aj:aQ (aC s)=true:=G;have ao:aQ ((aC s).take 12)=true:=bW.2 fun c hc=>bW.1 aj c (gK hc);obtain⟨c,ab⟩:∃c,(aC s)[12]?=some c:=⟨_,DX oM⟩;have ak:(aC s).getD 12 0=c:=by rw[List.getD,ab];rfl
   refine iR 8 7 43 true _ rfl O rfl rfl G yP ?_;refine iR 10 7 43 true _ rfl O rfl rfl G yP ?_;refine iR 11 7 43 true _ rfl O rfl rfl G (DU rfl rfl rfl BF oM ab) ?_;refine JA.stepG 9 7 43 true _ kR rfl rfl rfl rfl G (yU rfl rfl rfl rfl rfl (b2k (aC s) oM oM ao _) ?_);refine⟨EU,?_⟩;refine eX BQ (fun a7=>?_);refine iR 12 7 43 true _ rfl a7 rfl rfl G BO ?_;refine aI 13 rfl a7 (DY G) ?_;refine aI 14 rfl a7 yQ ?_;refine AL ?_;refine fC (bF rfl (fun a4=>?_) (fun a4=>?_))
   ·have ae:=CS a4;have aw:bM (aC s)=(aC s).getD 12 0:=by have h:=CS a4;rw[ak];exact iP.1 oM
    refine Cj.sr (aA yP ?_);refine aA yQ ?_;refine aA yQ ?_;refine J.ns (aT (bU (eF (dK (bG _) ?_))));refine Ej.a0L rfl rfl rfl rfl ?_;have he:fB s=(aC s,true):=by unfold fB jE;rw[zF a3,zG ⟨av,aj,aw⟩]
    rw[he];exact rT
   ·have ae:=CX a4;have a2:¬((aC s).length=13∧aQ (aC s)=true∧bM (aC s)=(aC s).getD 12 0):=fun e=>CX a4 (by rw[e.2.2,ak]);refine Cj.skip (bD ?_);exact Z _ _ _ _ ⟨a3,a2⟩ rT rfl rfl
  refine aF (aA yP ?_);refine aA (GK BF) ?_;refine aA BO ?_;refine aA yP ?_;refine J.split 21 rfl (fun a1=>?_) (fun a1=>?_)
  ·have a8:(aC s).length=10:=by have h:=CS a1;omega
   refine zU 3 21 true a1 (zK yP ?_);refine zU 3 21 true a1 (yU rfl rfl rfl rfl rfl (b0G (aC s) a8 ap _) ?_);refine aA (DY a1) ?_;refine aA yQ ?_;refine dR ?_;exact Z (bP (aC s),_) _ _ _ ⟨fun h=>⟨a8,h⟩,fun h e=>aJ (e.2.symm.trans h)⟩ rT rfl rfl
  have a3:¬((aC s).length=10∧bP (aC s)=true):=fun e=>CX a1 (by rw[e.1];rfl);refine zO 3 21 22 true a1 ?_;refine zO 3 21 23 true a1 ?_;refine aA (DV a1) ?_;refine aA yQ ?_;refine dR ?_;exact Z (false,_) _ _ _ ⟨fun h=>(by cases h),fun _=>a3⟩ ⟨rfl,by first|rfl|exact zD (fun b=>some (aZ b)) (by assumption),trivial⟩ rfl rfl
 refine Cj.sr (aA yP ?_);refine aA (MC rfl rfl rfl) ?_;refine J.cd (fun a5=>?_) (fun a5=>?_)
 ·have af:=BH a5;obtain⟨k,rfl,_,ac⟩:∃k:Nat,n=k∧k≤s.length∧s.takeWhile aO=s.take k:=hn.elim (fun h=>absurd (BH a5) (by rw[h.1];decide)) id;refine aF (aA yP ?_);refine aA yP ?_;refine aA (CY (p:=0) (q:=k) rfl rfl BF rfl ⟨_,rfl⟩ oM oM) ?_;refine aP 11 rfl (show _=str (s.takeWhile aO) from(by rw[ac,dU])) ?_;refine aA yQ ?_;refine dR ?_;exact Z _ _ _ _ trivial rT rfl rfl
 have af:=BN a5;have ac:s.takeWhile aO=s:=hn.elim (fun h=>h.2) (fun⟨k,h,_⟩=>absurd (BN a5) (by rw[h];simp));refine Cj.skip ?_;exact Z _ _ _ _ trivial ⟨(zD (fun l=>some (str l)) ac.symm),trivial⟩ rfl rfl
end Go.Proofs.YtojdemmgkdokmaaGreatDoor
namespace Ke
abbrev Row:=List Bs
def pg (s:Bs):Bool→Row→Row
 |true,[]=>[]
 |false,[]=>[s]
 |d,x::r=>if s<x∧d=false then s::x::pg s true r else x::pg s d r
def put (l:Row) (s:Bs):Row:=if s∈l then l else pg s false l
def Inc (l:Row):Prop:=l.Pairwise (· <·)
theorem a2F s:∀l,pg s true l=l
 |[]=>rfl
 |x::r=>by unfold pg;rw[zF sI,a2F s r]
theorem b1I s:∀(l:Row) (x:Bs),x∈pg s false l↔x=s∨x∈l
 |[],x=>by simp[pg]
 |y::r,x=>by
  unfold pg
  by_cases h:s<y
  ·rw[zG ⟨h,rfl⟩,a2F];simp
  rw[zF (fun e=>h e.1),bQ,b1I s r x,bQ];constructor
  ·rintro(h|h|h)<;>simp[h]
  rintro(h|h|h)<;>simp[h]
theorem c3E{a b:Bs}(h:¬b<a)(A:a≠b):a<b:=by
 have h1:a≤b:=iJ.1 h;rcases Decidable.em (a<b)with h2|h2
 ·exact h2
 exact absurd (List.le_antisymm h1 (iJ.1 h2)) A
theorem b7M s:∀{l:Row},Inc l→s ∉ l→Inc (pg s false l)
 |[],_,_=>by simp[pg,Inc]
 |y::r,hl,hn=>by
  have A:=dB.1 hl;unfold pg
  by_cases h:s<y
  ·rw[zG ⟨h,rfl⟩,a2F];refine dB.2 ⟨fun z hz=>?_,hl⟩;rcases bQ.1 hz with rfl|hz
   ·exact h
   exact jA h (A.1 z hz)
  rw[zF (fun e=>h e.1)];refine dB.2 ⟨fun z hz=>?_,b7M s A.2 fun e=>hn (.tail _ e)⟩;rcases(b1I s r z).1 hz with rfl|hz
  ·exact c3E h fun e=>hn (e▸ .head _)
  exact A.1 z hz
theorem put_mem l s x:x∈put l s↔x=s∨x∈l:=by
 unfold put
 split
 ·rename_i h
  exact⟨.inr,fun e=>e.elim (fun e=>e▸h) id⟩
 exact b1I s l x
theorem c5j{l} s (h:Inc l):Inc (put l s):=by
 unfold put
 split
 ·exact h
 rename_i hn;exact b7M s h hn
theorem a6y:∀(xs:Row) {l:Row},Inc l→Inc (xs.foldl put l)
 |[],_,h=>h
 |x::r,_,h=>a6y r (c5j x h)
theorem a6T:∀(xs l:Row) (x:Bs),x∈xs.foldl put l↔x∈xs∨x∈l
 |[],_,_=>sI
 |y::r,l,x=>by
  rw[List.foldl_cons,a6T r,put_mem,bQ];constructor
  ·rintro(h|h|h)<;>simp[h]
  rintro((h|h)|h)<;>simp[h]
theorem a7p:∀{a b:Row},Inc a→Inc b→(∀x,x∈a↔x∈b)→a=b
 |[],[],_,_,_=>rfl
 |[],y::_,_,_,h=>absurd ((h y).2 (.head _)) sI
 |x::_,[],_,_,h=>absurd ((h x).1 (.head _)) sI
 |x::r,y::t,ha,hb,h=>by
  have A:=dB.1 ha;have G:=dB.1 hb;have Z:x=y:=by
   rcases bQ.1 ((h x).1 (.head _))with e|e
   ·exact e
   rcases bQ.1 ((h y).2 (.head _))with O|O
   ·exact O.symm
   exact absurd (jA (G.1 x e) (A.1 y O)) (gI _)
  subst Z;rw[a7p A.2 G.2 fun z=>⟨fun hz=>?_,fun hz=>?_⟩]
  ·rcases bQ.1 ((h z).1 (.tail _ hz))with rfl|e
   ·exact absurd (A.1 z hz) (gI _)
   exact e
  rcases bQ.1 ((h z).2 (.tail _ hz))with rfl|e
  ·exact absurd (G.1 z hz) (gI _)
  exact e
open Go.Lib in
theorem VE(d:Array Bs)(hs:∀i j,i<j→j<d.size→d[i]! ≤d[j]!):∀m,m≤d.size→Inc (compactUpTo d m)∧∀x,x∈compactUpTo d m↔∃j,j<m∧x=d[j]!
 |0,_=>⟨iH,fun x=>by simp[compactUpTo]⟩
 |m+1,hm=>by
  obtain⟨h1,h2⟩:=VE d hs m oM;rw[compactUpTo_succ]
  by_cases hk:keeps d m=true
  ·rw[zG hk];refine⟨List.pairwise_append.2 ⟨h1,List.pairwise_singleton _ _,fun a ha b hb=>?_⟩,fun x=>?_⟩
   ·rw[fE.1 hb];obtain⟨j,G,rfl⟩:=(h2 a).1 ha;have A:m=0∨d[m]! ≠d[m-1]! :=zB hk;have Z:=A.resolve_left oM;have h3:d[m-1]! ≤d[m]! :=hs _ _ oM oM;have h4:d[m-1]! <d[m]! :=c3E (iJ.2 h3) Z.symm;rcases bI j (m-1)with h|h
    ·have O:d[j]! ≤d[m-1]! :=hs _ _ h oM;exact List.lt_of_le_of_lt O h4
    have:j=m-1:=oM;rw[this];exact h4
   rw[iT,h2,fE];constructor
   ·rintro(⟨j,G,rfl⟩|rfl)
    ·exact⟨j,oM,rfl⟩
    exact⟨m,oM,rfl⟩
   rintro⟨j,G,rfl⟩;rcases bI j m with h|h
   ·exact .inl ⟨j,h,rfl⟩
   have:j=m:=oM;exact .inr (by rw[this])
  rw[zF hk,bJ];refine⟨h1,fun x=>(h2 x).trans ⟨fun⟨j,G,e⟩=>⟨j,oM,e⟩,fun⟨j,G,e⟩=>?_⟩⟩;rcases bI j m with h|h
  ·exact⟨j,h,e⟩
  have A:¬(m=0∨d[m]! ≠d[m-1]!):=fun e=>hk (zI e);have a0:j=m:=oM;subst a0;have O:d[j]! =d[j-1]! :=Decidable.not_not.1 fun e=>A (.inr e);have h6:j≠0:=fun e=>A (.inl e);exact⟨j-1,oM,e.trans O⟩
theorem a0d(l:Row):gJ (l.mergeSort fun x y=>decide (x≤y))=l.foldl put []:=by
 have hp:(l.mergeSort fun x y=>decide (x≤y)).Pairwise (fun a b=>decide (a≤b)=true):=
  List.pairwise_mergeSort (le:=fun x y:Bs=>decide (x≤y)) (fun a b c h1 h2=>zI (List.le_trans (zB h1) (zB h2))) (fun a b=>by
   rcases List.le_total a b with h|h<;>simp[h]) l
 have O:=VE (l.mergeSort fun x y=>decide (x≤y)).toArray (fun i j G A=>by
  have Z:j<(l.mergeSort fun x y=>decide (x≤y)).length:=by simpa using A
  have a0:i<(l.mergeSort fun x y=>decide (x≤y)).toArray.size:=Nat.lt_trans G A;rw[getElem!_pos _ i a0,getElem!_pos _ j A];simp only[List.getElem_toArray];exact zB (List.pairwise_iff_getElem.1 hp i j oM Z G)) _ (Nat.le_refl _)
 refine a7p ?_ (a6y l iH) fun x=>?_
 ·unfold gJ;simpa using O.1
 have h2:=O.2 x;simp only[List.size_toArray]at h2;unfold gJ;rw[h2,a6T];have hm:x∈l↔x∈l.mergeSort fun x y=>decide (x≤y):=List.mem_mergeSort.symm;rw[show(x∈l∨x∈[])=(x∈l) by simp,hm,List.mem_iff_getElem];constructor
 ·rintro⟨j,A,rfl⟩;refine⟨j,A,?_⟩;rw[getElem!_pos _ j (by simpa using A)];simp
 rintro⟨j,A,rfl⟩;refine⟨j,A,?_⟩;rw[getElem!_pos _ j (by simpa using A)];simp
structure Sub where
  code:UInt8
  text:Bs
structure JC where
  tag:Bs
  ind:Bs
  data:Bs
  sv:Go.Value
  subs:List Sub
def zf:JC:=⟨[],[],[],.slice none 0 0,[]⟩
def find (fs:List JC) (tag:Bs):Option JC:=fs.find? fun f=>decide (f.tag=tag)
def first(fs:List JC) (tag:Bs):JC:=(find fs tag).getD zf
def texts (f:JC) (codes:Bs):Row:=(f.subs.filter fun s=>codes.contains s.code).map (·.text)
def textOf (f:JC) (codes:Bs):Bs:=join (texts f codes)
def skip (f:JC):Nat:=match f.ind[1]? with
 |some c=>if digit c then c.toNat-48 else 0
 |none=>0
def title (fs:List JC):Bs:=KC (textOf (first fs [50,52,53]) [97,98]) (skip (first fs [50,52,53]))
def b4Z:Bs:=[105,115,98,110,32]
def book (s:Sub):Option Bs:=if (a0g s.text).2=true∧s.code=97 then some (b4Z++(a0g s.text).1)else none
def books (f:JC):Row:=if f.tag=[48,50,48]then f.subs.filterMap book else[]
def a0x (fs:List JC):Row:=if title fs=[]then[]else[[116,105,116,108,101,32]++title fs++[32,47,32]++((words (textOf (first fs [49,48,48]) [97])).head?.getD [])]
def raw (fs:List JC):Row:=fs.flatMap books++a0x fs
def all (fs:List JC):Row:=(raw fs).foldl put []
end Ke
namespace Go.Proofs.YtojdemmgkdokmaaGreatDoor
open _root_.Go.Proofs.Tryz
open Go Go.Sx
def a2x (s:Ke.Sub):List Value:=[u8 s.code,str s.text]
def SB (f:Ke.JC):List Value:=[str f.tag,str f.ind,str f.data,f.sv]
theorem ZW s:(a2x s).length=2:=rfl
theorem PY f:(SB f).length=4:=rfl
def QW (I:Heap) (fs:List Ke.JC) (v:Value):Prop:=zY SB I fs v∧∀f∈fs,zY a2x I f.subs f.sv
theorem QW.mono{I G fs v}(h:QW I fs v)(A:Le I G):QW G fs v:=⟨h.1.mono A,fun f hf=>(h.2 f hf).mono A⟩
def a8V (k l:UInt8) (v:Value):Value:= .agg #[u8 k,u8 l,v]
def FM (ss:List Ke.Sub):Nat:=(ss.map (·.text.length)).sum
def FOK (fs:List Ke.JC):Prop:=fs.length≤2000000∧∀f∈fs,f.subs.length≤2000000∧FM f.subs≤3000000∧f.ind.length≤2000000
theorem b9v{fs tag}(h:∀f∈fs,f.tag≠tag):Ke.find fs tag=none:=List.find?_eq_none.2 fun f hf=>by simp[h f hf]
theorem b7J{fs tag k f}(h:∀g∈fs.take k,g.tag≠tag)(hf:fs[k]?=some f)(G:f.tag=tag):Ke.find fs tag=some f:=by
 obtain⟨_,hg⟩:=aB.1 hf;unfold Ke.find;rw[List.find?_eq_some_iff_append];refine⟨zI G,fs.take k,fs.drop (k+1),?_,fun g A=>by simp[h g A]⟩;rw[←hg,List.getElem_cons_drop,List.take_append_drop]
def foundAt (fs:List Ke.JC) (tag:List UInt8) (n:Int):Prop:=(n= -1∧Ke.find fs tag=none)∨∃(k:Nat) (f:Ke.JC),n=k∧fs[k]?=some f∧Ke.find fs tag=some f
theorem b8F{fs:List Ke.JC}{tag k f}(h:∀g∈fs.take k,g.tag≠tag)(hf:fs[k]?=some f)(O:f.tag≠tag):∀g∈fs.take (k+1),g.tag≠tag:=fun g hg=>by
 obtain⟨A,G⟩:=aB.1 hf;rw[aN A,iT,fE]at hg;rcases hg with hg|rfl
 ·exact h g hg
 rw[G];exact O
theorem VI{base sz n xs ys g}(h:CU base sz n xs g)(A:ys.length=xs.length):CU base sz n ys g:=by
 cases g with
 |none=>
  obtain⟨h1,h2⟩:=h;exact⟨h1,List.length_eq_zero_iff.1 (by rw[A,h2];rfl)⟩
 |some q=>
  obtain⟨b,c,sp⟩:=q;obtain⟨h1,h2,h3⟩:=h;exact⟨h1,by rw[A];exact h2,by rw[A];exact h3⟩
theorem c0P f tb tag I (h:I tb=some (yY 9 [str tag])):Pure aG 169 [.agg (SB f).toArray,ptr tb 0] I (.bool (f.tag == tag)):=by
 refine yT.ob func169 ?_;intro w0 _;refine Cj.sr (aK rfl (BL ?_));intro _ _;refine aA yQ ?_;refine J.yV (aA (qq2 (off':=0) KW zL) ?_);refine aA (yX BX (yR.at 0 rfl)) ?_;refine aA (yX BX (iV h)) ?_;refine aA (ED rfl rfl rfl) ?_;refine aA yQ ?_;refine J.ns (aT (fM ?_));refine zN ?_;exact rT
theorem b0V fs v (a6:fs.length≤2000000) tb tag I (hr:QW I fs v)(a2:I tb=some (yY 9 [str tag])):yT aG 168 [v,.func (.func 169) #[] #[ptr tb 0]] I []
 (fun e I' H'=>∃n,e= .returned (i64 n)∧foundAt fs tag n∧H'=[]):=by
 obtain⟨⟨p,c,rfl,_,hp⟩,_⟩:=hr;refine yT.ob func168 ?_;intro w0 _;refine Cj.sr (aA yQ ?_);refine J.AO (aF (aA yP ?_));refine aA (AU QA) ?_;refine aA yP ?_;refine J.ns (aS (fK (ι:=Nat) (fun j=>j≤fs.length∧∀g∈fs.take j,g.tag≠tag) (fun j=>fs.length-j) (fun j=>[(0,.slice p fs.length c),(1,.func (.func 169) #[] #[ptr tb 0]),(7,i64 (fs.length:Int)),(8,i64 (j:Int))]) (fun j=>I) (fun j=>[]) 0 ⟨aV _,fun g hg=>by simp at hg⟩ rT rfl rfl ?_));rintro j ⟨_,h⟩;refine Cj.sr (aA BM ?_);refine J.nss (bF rfl (fun G=>?_) (fun G=>?_))
 ·have a1:=BH G;have a0:j<fs.length:=oM;obtain⟨f,A⟩:∃f,fs[j]?=some f:=⟨_,DX a0⟩;obtain⟨_,fo,_,_,_,sp,rfl,a3,a4⟩:=hp (AX a0);refine Cj.ks (cZ (aS (Cj.sr (aA yP ?_))));refine aA yQ ?_;refine J.yV (aA yP ?_);refine aA yP ?_;refine aA yP ?_;refine aA (BG (off':=fo+j*4) QA GV) ?_;refine aA (FH QY GV (iV a3) (EJ PY a4 A)) ?_;refine aK rfl (yU rfl rfl rfl rfl rfl (c0P f tb tag _ a2) ?_);refine J.cd (fun O=>?_) (fun O=>?_)
  ·have ht:f.tag=tag:=CS O;refine Cj.sr (aA yP ?_);refine aA yQ ?_;refine J.ns (aT (bU (eF (iO (bU (eF (zN ?_)))))));exact⟨_,rfl,.inr ⟨j,f,rfl,A,b7J h A ht⟩,rfl⟩
  have a5:f.tag≠tag:=CX O;refine Cj.kb (aF (aA (yZ rfl rfl rfl (AA oM)) ?_));refine aA yP ?_;refine dR (dW (j+1) ⟨oM,b8F h A a5⟩ oM rT rfl rfl)
 have a1:=BN G;have Z:fs.take j=fs:=aX oM;rw[Z]at h;refine Cj.xl (Cj.sr (aA yQ ?_));refine J.ns (aT (zN ?_));exact⟨_,rfl,.inl ⟨rfl,b9v h⟩,rfl⟩
theorem a1n{f p n c}(h:f.sv= .slice p n c):(SB f).all Value.oneCell'=true:=by
 unfold SB;rw[h];rfl
def tx (codes:List UInt8) (ss:List Ke.Sub):List (List UInt8):=(ss.filter fun s=>codes.contains s.code).map (·.text)
theorem c6a{codes}{ss:List Ke.Sub}{k s}(h:ss[k]?=some s):tx codes (ss.take (k+1))=tx codes (ss.take k)++(if codes.contains s.code then[s.text]else[]):=by
 obtain⟨A,hg⟩:=aB.1 h;unfold tx;rw[aN A,hg,List.filter_append,cO]
 by_cases hc:codes.contains s.code=true
 ·rw[zG hc,List.filter_cons_of_pos (p:=fun s:Ke.Sub=>codes.contains s.code) hc];rfl
 rw[zF hc,List.filter_cons_of_neg (p:=fun s:Ke.Sub=>codes.contains s.code) hc];rfl
theorem b2V codes ss:(tx codes ss).length≤ss.length:=by
 unfold tx;rw[bZ];exact eG _ _
theorem XB:∀l:List (List UInt8),(dY l).length≤(l.map List.length).sum+l.length
 |[]=>by simp[dY]
 |[a]=>by simp[dY]
 |a::b::r=>by
  have:=XB (b::r);simp only[dY,aU,gU,gW,fO,List.length_nil]at this ⊢;omega
theorem c0w codes:∀ss:List Ke.Sub,((tx codes ss).map List.length).sum≤FM ss
 |[]=>by simp[tx]
 |s::r=>by
  have:=c0w codes r;unfold tx FM at this ⊢;rw[List.filter_cons]
  split
  ·simp only[gU,gW];omega
  simp only[gU,gW];omega
theorem YN f codes:(Ke.textOf f codes).length≤FM f.subs+f.subs.length:=by
 have h1:=XB (tx codes f.subs);have h2:=c0w codes f.subs;have h3:=b2V codes f.subs;have:Ke.textOf f codes=dY (tx codes f.subs):=rfl;rw[this];omega
theorem a2b l c:decide (0≤aY l c)=l.contains c:=by
 induction l with
 |nil=>rfl
 |cons d r A=>
  rw[aY,List.contains_cons];simp only[beq_iff_eq]
  by_cases h:d=c
  ·subst h;simp
  rw[zF h,show(c == d)=false from beq_eq_false_iff_ne.2 (Ne.symm h),Bool.false_or,←A]
  by_cases h0:aY r c<0
  ·have:¬0≤aY r c:=oM;rw[zJ this];exact zJ (by split<;>omega)
  have:0≤aY r c:=oM;rw[zI this];exact zI (by split<;>omega)
theorem b5f fs v rk rl tag codes (ae:FOK fs) I (hr:QW I fs v):yT aG 95 [a8V rk rl v,str tag,str codes] I []
 (fun e I' H'=>e= .returned (.tuple #[str (Ke.textOf (Ke.first fs tag) codes),.agg (SB (Ke.first fs tag)).toArray])∧H'=[]):=by
 have ar:=ae.1;refine yT.ob func95 ?_;intro w0 _;refine Cj.sr (aK rfl (BL ?_));intro b1 _;refine aK rfl (BL ?_);intro b2 au;refine aA yQ ?_;refine aK rfl (BP UC ?_);intro b3 _;refine J.nss (Cj.pull (iL iD) ?_);refine Cj.persist au (fun _ aj a4=>?_);have hr:=hr.mono aj;refine aF (aA (qq2 (off':=2) VX SQ) ?_);refine aA (yX a1z (yR.at 1 rfl)) ?_;refine aA (EH rfl rfl rfl) ?_;refine aK rfl (yS (H1:=[]) rfl rfl rfl rfl rfl (b0V fs v ar b2 tag _ hr a4) ?_ (fun _ _ _ _ ⟨_,h,_⟩=>by cases h) (fun _ _ ⟨_,h,_⟩=>by cases h));intro _ _ _ a7 av;have hr:=hr.mono a7;have a4:=a7 _ _ a4;obtain⟨n,h,hn,rfl⟩:=av;cases h;refine aA yQ ?_;refine J.AO (aF (aA yP ?_));refine aA BM ?_;refine J.cd (fun a2=>?_) (fun a2=>?_)
 ·have ak:=BH a2;have a8:=BH a2;have a0:Ke.find fs tag=none:=(hn.resolve_right (fun⟨k,f,h,_⟩=>by rw[h]at a8;omega)).2;refine Cj.sr (aA (zV (pl:= #[(0,1),(1,1),(2,1),(3,1)]) rfl rfl UC rfl KW (fun w=>by simp[ZU,zL]) GN.none) ?_);refine aA yQ ?_;refine aK rfl (zS 0 GV (bT (bT (bT (bT fU)))) dV ?_);refine J.ns (Cj.rs ?_);have O:Ke.first fs tag=Ke.zf:=by unfold Ke.first;rw[a0];rfl
  rw[O];refine Ej.c3J (bY (bY Keeps.n)) rfl rfl rfl (yR.at 0 rfl) QY GV rfl rfl ?_;exact rT
 have ak:=BN a2;have a8:=BN a2;obtain⟨k,f,rfl,a1,a0⟩:=hn.resolve_left (fun h=>a8 (by rw[h.1];decide));have af:=FB a1;have al:=(aB.1 a1).1;have am:=hr.2 f af;have hfk:=ae.2 f af;obtain⟨⟨p,c,rfl,_,hp⟩,-⟩:=hr;obtain⟨fb,fo,_,_,_,sp,rfl,a5,ag⟩:=hp (AX al);obtain⟨p2,c2,ah,_,aw⟩:=am;refine Cj.ks (Cj.sr (aA yQ ?_));refine J.AO (aF (aA (qq2 (off':=2) VX SQ) ?_));refine aA (yX a1z (yR.at 1 rfl)) ?_;refine aA yP ?_;refine aA (BG (off':=fo+k*4) QA GV) ?_;refine aA (qq2 (off':=fo+k*4+3) KW ZU) ?_;refine aA (FY rfl rfl isAgg58 (iV a5) (GU PY ag a1 3 dE)) ?_;refine aP 24 rfl (show _= .slice p2 f.subs.length c2 from ah) ?_;refine aA (AU WY) ?_;refine aA yP ?_;refine J.ns (aS (fK (ι:=Nat×Gs) (fun j=>j.1≤f.subs.length∧CU w0.heap.size 1 (tx codes (f.subs.take j.1)).length ((tx codes (f.subs.take j.1)).map str) j.2) (fun j=>f.subs.length-j.1) (fun j=>[(2,str codes),(3,ptr b1 0),(7,ptr b3 0),(8,i64 (k:Int)),(9,gV (tx codes (f.subs.take j.1)).length j.2),(24,.slice p2 f.subs.length c2),(25,i64 (f.subs.length:Int)),(26,i64 (j.1:Int))]) (fun j=>_) (fun j=>(b3,yY 60 (SB Ke.zf))::(b1,yY 55 [u8 rk,u8 rl,.slice (some ⟨fb,fo,none⟩) fs.length c])::gH 9 ((tx codes (f.subs.take j.1)).map str) j.2) (0,none) ⟨aV _,rfl,rfl⟩ rT rfl rfl ?_));rintro⟨j,g⟩ ⟨hj,hg⟩;dsimp only at hj hg ⊢;have ax:=b2V codes (f.subs.take j);rw[bC,dP hj]at ax;refine Cj.sr (aA BM ?_);refine J.nss (bF rfl (fun a3=>?_) (fun a3=>?_))
 ·have ab:=BH a3;have ai:j<f.subs.length:=oM;obtain⟨sb,a6⟩:∃x,f.subs[j]?=some x:=⟨_,DX ai⟩;obtain⟨_,so,_,_,_,_,rfl,an,ay⟩:=aw (AX ai);have G:=c6a (codes:=codes) a6;refine Cj.ks (cZ (aS (Cj.sr (aA (BG (off':=so+j*2) WY UK) ?_))));refine aA (FH isAgg62 UK (iV an) (EJ ZW ay a6)) ?_;refine aK rfl (BP a1y ?_);intro _ _;refine aK rfl (zS 0 UK (bT (bT fU)) dV ?_);refine J.yV (aA yP ?_);refine aA (qq2 (off':=0) a0o RF) ?_;refine aA (yX tA5 (yR.at 0 rfl)) ?_;refine aK rfl (yU rfl rfl rfl rfl rfl (a1x _ _ _) ?_);refine aA (MC rfl rfl rfl) ?_;refine J.cd (fun Z=>?_) (fun Z=>?_)
  ·have ac:=BH Z;have a9:codes.contains sb.code=true:=(a2b _ _).symm.trans Z;rw[zG a9]at G;refine aF (aA yP ?_);refine aA (qq2 (off':=1) a0o zL) ?_;refine aA (yX BX (yR.at 0 rfl)) ?_;refine aK rfl (AZ AP zL JG (dD rfl dZ) ?_);intro _ _;refine aK rfl (BJ (by':=15) [_,_,_,_] rfl rfl rfl rfl rfl AP (.inr ⟨_,AP⟩) kR zL JG rfl hg rfl (iC (yR.at 0 rfl) rfl rfl rfl) oM ?_);intro az ao;refine aA yQ ?_;refine J.nb (aF (aA (yZ rfl rfl rfl (AA oM)) ?_));refine aA yP ?_;refine dR (dK (bY (bY (dS (dS fZ)))) ?_);refine dW (j+1,az) ⟨dO,by dsimp only;rw[G,cO,aU];exact ao⟩ dO ⟨rfl,rfl,rfl,rfl,by dsimp only;rw[G,aU];rfl,rfl,rfl,rfl,trivial⟩ rfl (by dsimp only;rw[G,cO];rfl)
  have ac:=BN Z;have a9:¬codes.contains sb.code=true:=fun e=>aJ (e.symm.trans ((a2b _ _).symm.trans Z));rw[zF a9]at G;refine Cj.kb (aF (aA (yZ rfl rfl rfl (AA oM)) ?_));refine aA yP ?_;refine dR (dK (bY (dS (dS fZ))) ?_);refine dW (j+1,g) ⟨dO,by dsimp only;rw[G,bJ];exact hg⟩ dO ⟨rfl,rfl,rfl,rfl,by dsimp only;rw[G,bJ];rfl,rfl,rfl,rfl,trivial⟩ rfl (by dsimp only;rw[G,bJ])
 have ab:=BN a3;refine Cj.xl (cZ ?_);have ad:f.subs.take j=f.subs:=aX oM;rw[ad]at hg ⊢;have htl2:=YN f codes;refine Cj.perm (H':=gH _ _ _++[_,_]) gB ?_;refine Cj.a0U hg (fun _ ap hv=>?_);have a5:=ap _ _ a5;refine fH [1] [] 9 kR ?_;have b0:=a4;have aa:=a5;refine eX ⟨(jF 1 rfl jG),jH,(iW _)⟩ (fun A=>?_);refine aI 0 rfl A yP ?_;refine aI 2 rfl A (qq2 (off':=2) VX SQ) ?_;refine aI 3 rfl A (yX a1z (yR.QE 0 rfl)) ?_;refine aI 4 rfl A yP ?_;refine aI 5 rfl A (BG (off':=fo+k*4) QA GV) ?_;refine aI 6 rfl A (FH QY GV (yR.TN aa) (EJ PY ag a1)) ?_;refine zT 1 rfl (yU rfl rfl rfl rfl rfl (a5n (tx codes f.subs) _ (by have:=b2V codes f.subs;omega) (by have e:dY (tx codes f.subs)=Ke.textOf f codes:=rfl;rw[e];omega) _ hv) ?_);refine⟨⟨(iW _),(jF 1 rfl jG),jH⟩,?_⟩;refine eX ⟨(jF 1 rfl jG),jH,(iW _)⟩ (fun aq=>?_);refine aI 7 rfl aq yQ ?_;refine zT 8 rfl (EM 0 rfl rfl rfl rfl rfl (a1n ah) GV rfl rfl (bT (bT (bT (bT fU)))) dV ?_);refine⟨⟨(iW _),(jF 1 rfl jG),jH⟩,?_⟩;refine AL ?_;refine fC (aT ?_);have O:Ke.first fs tag=f:=by unfold Ke.first;rw[a0];rfl
 rw[O];refine Ej.c3J (bY (bY Keeps.n)) rfl rfl rfl (yR.at 0 rfl) QY GV rfl rfl ?_;exact rT
theorem b2g fs tag:Ke.first fs tag=Ke.zf∨Ke.first fs tag∈fs:=by
 unfold Ke.first;cases h:Ke.find fs tag with
 |none=>exact .inl rfl
 |some f=>exact .inr (List.mem_of_find?_eq_some h)
theorem b1y{I fs v} tag (h:QW I fs v):∃p n c,(Ke.first fs tag).sv= .slice p n c:=by
 rcases b2g fs tag with e|e
 ·rw[e];exact⟨_,_,_,rfl⟩
 obtain⟨p,c,h1,_⟩:=h.2 _ e;exact⟨p,_,c,h1⟩
theorem a6m{fs} tag (h:FOK fs):(Ke.first fs tag).subs.length≤2000000∧FM (Ke.first fs tag).subs≤3000000∧(Ke.first fs tag).ind.length≤2000000:=by
 rcases b2g fs tag with e|e
 ·rw[e];exact⟨aV _,aV _,aV _⟩
 exact h.2 _ e
theorem c6y{l:List UInt8}{c}(h:l[1]?=some c):(l.take 2).drop 1=[c]:=by
 obtain⟨_,hg⟩:=aB.1 h;rw[List.drop_take,drop_cons h];rfl
theorem b5t{f c}(h:f.ind[1]?=some c):Ke.skip f=if aQ [c]=true then c.toNat-48 else 0:=by
 unfold Ke.skip;rw[h];simp[aQ]
theorem b5i{f}(h:¬1<f.ind.length):Ke.skip f=0:=by
 unfold Ke.skip;rw[List.getElem?_eq_none oM]
theorem c0Y fs v rk rl (a1:FOK fs) I (hr:QW I fs v):Pure aG 94 [a8V rk rl v] I (str (Ke.title fs)):=by
 refine eU ?_;have a5:=a6m [50,52,53] a1;have a6:=YN (Ke.first fs [50,52,53]) [97,98];obtain⟨p,n,c0,a3⟩:=b1y [50,52,53] hr;refine yT.ob func94 ?_;intro w0 _;refine Cj.sr (aK rfl (BL ?_));intro _ _;refine aA yQ ?_;refine J.yV (aA (zX a0n MG (yR.at 0 rfl)) ?_);refine aK rfl (yS (H1:=[]) rfl rfl rfl rfl rfl (b5f fs v rk rl [50,52,53] [97,98] a1 _ hr) ?_ (fun _ _ _ _ h=>by cases h.1) (fun _ _ h=>by cases h.1));intro _ _ _ a2 a4;have hr:=hr.mono a2;obtain⟨h,rfl⟩:=a4;cases h;refine aA yP ?_;refine aA AQ ?_;refine aA AQ ?_;refine aK rfl (BP UC ?_);intro _ _;refine aA yQ ?_;refine aK rfl (EM 0 rfl rfl rfl rfl rfl (a1n a3) GV rfl rfl (bT (bT (bT (bT fU)))) dV ?_);refine J.yV (aA yQ ?_);refine J.AO (aF (aA (qq2 (off':=1) KW zL) ?_));refine aA (yX BX (yR.at 0 rfl)) ?_;refine aA (GK BF) ?_;refine aA (KO rfl rfl rfl) ?_;refine aA yP ?_;refine J.split 15 rfl (fun A=>?_) (fun A=>?_)
 rotate_left
 ·have Z:¬1<(Ke.first fs [50,52,53]).ind.length:=by have h:=BN A;omega
  refine zO 4 15 16 true A ?_;refine zO 4 15 17 true A ?_;refine zO 4 15 18 true A ?_;refine zO 4 15 19 true A ?_;refine aA (DV A) ?_;refine J.c0 (fun _=>?_);refine Cj.ks (Cj.sr (aA yP ?_));refine aA yP ?_;refine aK rfl (yU rfl rfl rfl rfl rfl (XR (Ke.textOf (Ke.first fs [50,52,53]) [97,98]) _ oM _) ?_);refine aA yQ ?_;refine J.ns (aT (fM ?_));refine zN ?_;have O:=b5i Z;unfold Ke.title;rw[O];exact rT
 have Z:1<(Ke.first fs [50,52,53]).ind.length:=by have h:=BH A;omega
 obtain⟨c,G⟩:∃c,(Ke.first fs [50,52,53]).ind[1]?=some c:=⟨_,DX Z⟩;refine zU 4 15 true A (zK (qq2 (off':=1) KW zL) ?_);refine zU 4 15 true A (zK (yX BX (yR.at 0 rfl)) ?_);refine iM 4 15 true _ rfl rfl rfl A (IE (CY (p:=1) (q:=2) rfl rfl BF ⟨_,rfl⟩ ⟨_,rfl⟩ oM oM) rfl rfl ?_);refine aP 18 rfl (show _=str [c] from(by rw[c6y G])) ?_;refine iM 4 15 true _ rfl rfl rfl A (yU rfl rfl rfl rfl rfl (a0v [c] sI _) ?_);refine aA (DY A) ?_;refine J.cd (fun a0=>?_) (fun a0=>?_)
 ·have hd:aQ [c]=true:=a0;have a7:=b0a (k:=0) hd rfl;refine aF (aA (qq2 (off':=1) KW zL) ?_);refine aA (yX BX (yR.at 0 rfl)) ?_;refine aA (DU rfl rfl rfl BF oM G) ?_;refine aA (IC rfl rfl rfl (w8 oM)) ?_;refine aA (NJ rfl rfl ZJ tU3) ?_;refine aP 25 rfl (show _=i64 ((c.toNat-48:Nat):Int) from(zD i64 ((AA oM).trans oM))) ?_;refine aA yQ ?_;refine J.yV (aA yP ?_);refine aA yP ?_;refine aK rfl (yU rfl rfl rfl rfl rfl (XR (Ke.textOf (Ke.first fs [50,52,53]) [97,98]) _ oM _) ?_);refine aA yQ ?_;refine J.ns (aT (fM ?_));refine zN ?_;have O:=(b5t G).trans (zG hd);unfold Ke.title;rw[O];exact rT
 have hd:¬aQ [c]=true:=fun e=>aJ (e.symm.trans a0);refine Cj.ks (Cj.sr (aA yP ?_));refine aA yP ?_;refine aK rfl (yU rfl rfl rfl rfl rfl (XR (Ke.textOf (Ke.first fs [50,52,53]) [97,98]) _ oM _) ?_);refine aA yQ ?_;refine J.ns (aT (fM ?_));refine zN ?_;have O:=(b5t G).trans (zF hd);unfold Ke.title;rw[O];exact rT
