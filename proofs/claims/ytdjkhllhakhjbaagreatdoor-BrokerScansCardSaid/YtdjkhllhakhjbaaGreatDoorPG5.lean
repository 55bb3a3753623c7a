/-
  Own texts on the laws of the seat, joined: the logic, and contracts of functions. Conditions: none.
-/
import Derived.Test.YtdjkhllhakhjbaaGreatDoorNmG
import Derived.Test.YtdjkhllhakhjbaaGreatDoorPG4
import Derived.Shelf.Strings.SlTrimAscii
import Derived.Lib.SlicesCompact
set_option linter.all false
set_option maxRecDepth 100000
set_option maxHeartbeats 40000000
open Go.Sx.J renaming z -> aA,op -> aK,eqv -> aP,nil -> dR,KY -> iM
open List renaming getElem?_eq_some_iff -> aB,take_succ_eq_append_getElem -> aN,length_append -> aU,take_of_length_le -> aX,length_take -> bC,nil_sublist -> bG,append_nil -> bJ,mem_cons -> bQ,take_length -> bV,all_eq_true -> bW,length_map -> bZ,map_append -> cO,pairwise_cons -> dB,drop_zero -> dU,length_filter_le -> eG,takeWhile_prefix -> eH,take_append_of_le_length -> eY,mem_singleton -> fE,takeWhile_cons_of_pos -> fF,length_cons -> fO,perm_append_comm -> gB,lt_irrefl -> gI,mem_of_mem_take -> gK,map_cons -> gU,sum_cons -> gW,map_congr_left -> gX,take_succ_cons -> gY,all_takeWhile -> iE,getElem?_map -> iG,not_lt -> iJ,mem_filter -> iQ,mem_append -> iT,all_cons -> iZ,lt_trans -> jA
open Ke renaming norm -> aC,okb -> aO,digits -> aQ,strip -> bK,check -> bM,a6A -> bP,cut -> dG,a3C -> dH,words -> dI,val -> dJ,NG -> dL,a4s -> dN,join -> dY,YB -> fB,rep -> iF,dropLast_take -> iK,digit -> jD,a9M -> jE
open Go.Sx.Cj renaming region -> aF,block -> aS,ret -> aT,cond -> bF,seq -> cZ,JD -> fH,loop -> fK
open Go.Proofs.Tryz renaming prog -> aG
open Go.Utf8 renaming encode -> aH,decode -> bH,valid -> fJ
open Go.Sx.JA renaming tk -> aI,fix -> eX,eqv -> gG,tkG -> iR
open Bool renaming noConfusion -> aJ,and_eq_true -> dX
open Nat renaming zero_le -> aV,lt_or_ge -> bI,min_eq_left -> dP,mul_le_mul -> fA,le_of_ble_eq_true -> fQ,zero_add -> gZ
open UInt8 renaming ofNat -> aW,ofNat_toNat -> fG,toNat_inj -> iP
open Go.Lib renaming indexByte -> aY,compact -> gJ,validRune -> iY
open Go.Value renaming bool -> aZ,int -> fD
open Go.Sx.Ej renaming FM -> bD,OY -> bU,keep -> dK,round -> dW,KU -> eF,seq -> fC,bare -> fM,a2y -> iI,NC -> iO
open Go.Sx.EW renaming c -> bT,z -> fU
open Go.Sx.Keeps renaming d -> bY,k -> dS,r -> fZ
open Int renaming natCast_mul -> dA
open Go.Sx.IC renaming one -> dD,none -> dZ
open Eq renaming trans -> dF,symm -> dM
open Go.Sx.Enters renaming of -> dQ
open Go.Sx.DZ renaming z -> dV,s -> fV
open Go.Sx.Pure renaming of_same -> eP,of_below -> gQ
open Go.Sx.yS renaming toPure -> eU
open Go.Ending renaming returned -> fP
open Go.Sx.Src renaming slice -> iC
open Go.Sx.Pull renaming z -> iD,s -> iL
open List.Pairwise renaming nil -> iH
open Go.IntKind renaming signed -> iU,wrap -> jB,bits -> jC,u8 -> jI
open Go.Sx.yR renaming PL -> iV
open Go.Sx.Le renaming refl -> iW
open Go.Sx.HSub renaming c -> jF,n -> jG
open Go.Sx.CSub renaming n -> jH
namespace Go.Proofs.YtdjkhllhakhjbaaGreatDoor
open _root_.Go.Proofs.Tryz
open Go Go.Sx
theorem a4E l v (hl:l.length≤1000000000000)(O:(dY l).length≤1000000000000) I (hv:KA 9 I l v):Pure aG 127 [v,str [32]] I (str (dY l)):=by
 rcases hv with⟨rfl,rfl⟩|⟨b,c,sp,rfl,hc,hb⟩
 ·exact eP (dQ func127 dE rfl) fun w _=>(Tryz.strings_Join_none none 0 ⟨#[32]⟩ w).mono fun e w' ⟨h1,h2⟩=>⟨by rw[h1];rfl,h2⟩
 refine gQ (dQ func127 dE rfl) fun w hw=>?_;have Q:=hw.1 _ _ hb;have Z:b<w.heap.size:=by
  rcases bI b w.heap.size with h'|h'
  ·exact h'
  simp[Array.getElem?_eq_none h']at Q
 have G:(l.map fun x=>(⟨x.toArray⟩:ByteArray)).map (fun x=>x.data.toList)=l:=by
  rw[List.map_map];exact(gX fun x _=>sI).trans (List.map_id l)
 have A:Lib.join l [32]=dY l:=Ke.b1C l;have h:=Tryz.strings_Join b 0 c (l.map fun x=>⟨x.toArray⟩) ⟨#[32]⟩ w (fun j x N=>by
  rw[iG]at N;cases O:l[j]? with
  |none=>rw[O]at N;cases N
  |some y=>
   rw[O]at N;cases N;rw[gZ];exact cell_of_heap Q (JL O)) Z (by simp;omega) (by simpa using hc) (by rw[G,show(⟨#[32]⟩:ByteArray).data.toList=[32] from rfl,A];omega)
 rw[G,show(⟨#[32]⟩:ByteArray).data.toList=[32] from rfl,A,bZ]at h;exact h
theorem a5r s I:yS aG 89 [str s] I [] (fun e A H'=>∃b,e= .returned (.func (.func 128) #[] #[ptr b 0])∧H'=[(b,yZ 9 [str s])]):=by
 refine yS.ob func89 ?_;intro w0 _;refine Cj.sr (aK rfl (BG ?_));intro h _;refine aA yQ ?_;refine J.yX (aA (DY rfl rfl rfl) ?_);refine aA yQ ?_;refine J.ns (aT (zM ?_));exact⟨h,rfl,rfl⟩
theorem PI{l:List (List UInt8)}{k x}(h:l[k]?=some x):(l.take (k+1)).map str=(l.take k).map str++[str x]:=by
 obtain⟨A,hg⟩:=aB.1 h;rw[aN A,hg,cO];rfl
theorem b0B(ws:List (List UInt8)) f G N I (hl:ws.length≤1000000000000)(O:Gen aG f G N I (ws.map fun w=>[str w])):yS aG 221 [.slice none 0 0,.func (.func f) G.toArray N.toArray] I []
 (fun e I' H'=>∃g,BM 0 1 ws.length (ws.map str) g∧e= .returned (gV ws.length g)∧H'=gH 9 (ws.map str) g):=by
 refine yS.XY func221 rfl dE (fQ rfl) ?_;intro w0 _;refine Cj.sr (aK rfl (BG ?_));intro b1 _;refine aA yQ ?_;refine J.zX (aF (aA yP ?_));refine J.ns (aS (Cj.rangeFunc (ps:=[7]) (H1:=[_]) (R:=[]) (ws.map fun w=>[str w]) (fun k I' H'=>k≤ws.length∧∃g,BM 0 1 k ((ws.take k).map str) g∧H'=(b1,yZ 123 [gV k g])::gH 9 ((ws.take k).map str) g) (fun _ _ _=>False) rfl (a1Y rfl) (seq1 _ _) rfl O (fun _ _ _ _ _ h=>h) ⟨aV _,none,⟨rfl,rfl⟩,rfl⟩ ?_ ?_ ?_))
 ·intro l r k args _ _ _ hk Z A;obtain⟨x,Q,rfl⟩:=a7z hk;obtain⟨a0,g,hg,rfl⟩:=A;have a1:=(aB.1 Q).1;refine aF (aA yQ ?_);refine dR (Ej.asg ?_);refine aS (aF (aA (yV PY (yR.at 1 rfl)) ?_));refine aA yP ?_;refine aK rfl (BQ AO zS JY (dD rfl dZ) ?_);intro _ _;refine aK rfl (JX 0 (aV _) (by':=15) [_,_,_] rfl rfl rfl rfl rfl AO (.inr ⟨_,AO⟩) kR zS JY rfl hg rfl (iC (yR.at 0 rfl) rfl rfl rfl) oM ?_);intro _ a2;refine aK rfl (EN 2 rfl rfl rfl rfl (NH _ _) (UF _ _) KR rfl rfl (bT fU) (fV (fV dV)) ?_);refine dR (bD (Ej.pull (iL iD) ?_));refine dK (dS (bY (dS fZ))) ?_;exact iI ⟨a1,_,by rw[PI Q];exact a2,by rw[PI Q];rfl⟩
 ·intro _ _ _ Z A;rw[bZ]at A;obtain⟨a0,g,hg,rfl⟩:=A;rw[bV]at hg;rw[bV];refine bD (fC (Cj.sr (aA (yV PY (yR.at 1 rfl)) ?_)));refine aA yQ ?_;refine J.ns (aT (Ej.a1R (.inl rfl) ?_));refine OU.mark 0 rfl dV ?_;refine OU.keep (bY (bY fZ)) ?_;exact OU.a5M rfl rfl ⟨g,hg,rfl,bJ _⟩
 exact fun _ _ _ _ _ hZ=>hZ.elim
theorem b4Z(ws:List (List UInt8)) f A G I (Q:ws.length≤1000000000000)(N:Gen aG f A G I (ws.map fun w=>[str w])):yS aG 165 [.func (.func f) A.toArray G.toArray] I []
 (fun e Z H'=>∃g,BM 0 1 ws.length (ws.map str) g∧e= .returned (gV ws.length g)∧H'=gH 9 (ws.map str) g):=by
 refine yS.ob func165 ?_;intro w0 _;refine Cj.sr (aA yQ ?_);refine J.yX (aA yP ?_);refine aK rfl (yT (H1:=[]) rfl rfl rfl rfl rfl (b0B ws f A G _ Q N) ?_ (fun _ _ _ _ ⟨_,_,h,_⟩=>by cases h) (fun _ _ ⟨_,_,h,_⟩=>by cases h));intro _ _ _ _ O;obtain⟨g,hg,h,rfl⟩:=O;cases h;refine aA yQ ?_;refine J.ns (aT (zM ?_));exact⟨g,hg,rfl,bJ _⟩
theorem VF s (hs:s.length≤1000000000) I:yS aG 113 [str s] I [] (fun e I' H'=>∃v,e= .returned v∧KA 9 I' (dI s) v∧H'=[]):=by
 have a1:=Ke.SQ s;refine yS.ob func113 ?_;intro w0 _;refine Cj.sr (aA yQ ?_);refine J.yX (aA yP ?_);refine aK rfl (EX rfl rfl rfl rfl rfl (a5r s _) ?_ (fun _ _ _ _ ⟨_,h,_⟩=>by cases h) (fun _ _ ⟨_,h,_⟩=>by cases h));intro _ _ _ _ O Q;obtain⟨Z,h,rfl⟩:=Q;cases h;refine J.persist (O _ (.head _)) (fun I9 _ A=>?_);refine aK rfl (EX rfl rfl rfl rfl rfl (b4Z (dI s) _ [] [ptr Z 0] _ oM (a3u Z s hs _ A)) ?_ (fun _ _ _ _ ⟨_,_,h,_⟩=>by cases h) (fun _ _ ⟨_,_,h,_⟩=>by cases h));intro _ I9 _ G a0 N;have A:=G _ _ A;obtain⟨g,hg,h,rfl⟩:=N;cases h;refine J.ZY (hg.base a0) (fun _ _ hv=>?_);refine aA yQ ?_;refine J.ns (aT (zM ?_));exact⟨_,rfl,hv,rfl⟩
theorem ascii_of_all{l:List UInt8}(h:l.all (fun b=>decide (b.toNat<128))=true):∀(j:Nat) b,(⟨l.toArray⟩:ByteArray).data.toList[j]?=some b→b.toNat<128:=fun j b A=>by
 rw[IJ]at A;exact BH (bW.1 h b (FQ A))
theorem b3v s (hs:s.length≤1000000000000) I:Pure aG 174 [str s,str Ke.a1I] I (str (Lib.trimS s Ke.a1I)):=
 gQ (dQ func174 dE rfl) fun w _=>by
  have h:=Any.strings_Trim_laid Tryz.lays160 kR ⟨s.toArray⟩ ⟨Ke.a1I.toArray⟩ w (by rw[size_mk];omega) dE (ascii_of_all dE);rw[IJ,IJ]at h;exact h
theorem b1L s I:Pure aG 136 [str s,str [48]] I (str (s.dropWhile (· == 48))):=
 eP (dQ func136 dE rfl) fun w _=>by
  have h:=Tryz.strings_TrimLeft_one ⟨s.toArray⟩ 48 dE w;rw[IJ]at h;exact h
theorem b6k{a b:Nat×Obj}{G:HL}:(G++[a,b]).Perm (a::(b::G++[])):=by
 rw[bJ];exact gB
theorem b4D{n:Nat}(h:n<256):jI.wrap (n:Int)=((aW n).toNat:Int):=by
 rw[show(aW n).toNat=n by simp;omega];simp[jB,jC,iU];omega
theorem ZX{f}{l:List (List UInt8)}{k x}(h:l[k]?=some x):((l.take (k+1)).map f).map str=((l.take k).map f).map str++[str (f x)]:=by
 obtain⟨A,hg⟩:=aB.1 h;rw[aN A,hg,cO,cO];rfl
theorem YR s (hs:s.length≤1000000000000) I:Pure aG 123 [str s] I (.bool (aQ s)):=by
 refine yS.ob func123 ?_;intro w0 _;refine Cj.sr (aA yQ ?_);refine J.yX (aA yP ?_);refine aK rfl (yU rfl rfl rfl rfl rfl (b3v s hs _) ?_);refine aA IW ?_;refine aA yQ ?_;refine J.ns (aT (zM ?_));exact⟨zD (fun b=>fP (.bool b)) (Ke.a4T s),rfl,rfl⟩
theorem VQ s skip (hs:s.length≤100000000) I:Pure aG 111 [str s,i64 skip] I (str (Ke.JK s skip)):=by
 refine eU ?_;have ab:(dG s skip).length≤s.length:=by unfold dG;simp
 have ac:=Ke.SQ (dG s skip);have ad:=Ke.a5P (dG s skip);refine yS.XY func111 rfl dE (fQ rfl) ?_;intro w0 _;refine Cj.sr (aA yQ ?_);refine J.yX (aA yP ?_);refine aA yP ?_;refine aA (KE rfl rfl rfl) ?_;refine aA yP ?_;refine aA (CG rfl rfl BU) ?_;refine aA (OZ rfl rfl rfl) ?_;refine aP 13 rfl (show _=i64 (((min (max skip 0) (s.length:Int)).toNat:Nat):Int) from(zD i64 oM)) ?_;refine aA (EC (p:=(min (max skip 0) (s.length:Int)).toNat) (q:=s.length) rfl rfl BU ⟨_,rfl⟩ rfl oM oM) ?_;refine aP 14 rfl (show _=str (dG s skip) from(by rw[bV];rfl)) ?_;refine aA yQ ?_;refine J.yX (aK rfl (CU b5V ?_));intro b1 _;refine J.zX (aF (aA yP ?_));refine aK rfl (EX rfl rfl rfl rfl rfl (a5r (dG s skip) _) ?_ (fun _ _ _ _ ⟨_,h,_⟩=>by cases h) (fun _ _ ⟨_,h,_⟩=>by cases h));intro _ _ _ _ a7 a8;obtain⟨sb,h,rfl⟩:=a8;cases h;refine J.persist (a7 _ (.head _)) (fun _ _ G=>?_);refine J.ns (aS (Cj.rangeFunc (ps:=[17]) (H1:=[_]) (R:=[]) ((dI (dG s skip)).map fun w=>[str w]) (fun k _ H'=>k≤(dI (dG s skip)).length∧∃g,BM 0 1 k ((((dI (dG s skip)).take k).map dL).map str) g∧H'=(b1,yZ 123 [gV k g])::gH 9 ((((dI (dG s skip)).take k).map dL).map str) g) (fun _ _ _=>False) rfl (a1Y rfl) (seq1 _ _) rfl (a3u sb _ oM _ G) (fun _ _ _ _ _ h=>h) ⟨aV _,none,⟨rfl,rfl⟩,rfl⟩ ?_ ?_ ?_))
 ·intro l r k args _ _ _ hk Q hY;have G:=Q _ _ G;obtain⟨x,O,rfl⟩:=a7z hk;obtain⟨a9,g,hg,rfl⟩:=hY;have a2:=(aB.1 O).1;have a3:=FQ O;have ae:=Ke.ZW _ x a3;have af:0<x.length:=List.length_pos_iff.2 (Ke.XZ _ _ x a3);have aa:=Ke.a8o x;refine aF (aA yQ ?_);refine dR (Ej.asg ?_);refine aS (cZ (Cj.sr (aA yP ?_)));refine aK rfl (yU rfl rfl rfl rfl rfl (YR x oM _) ?_);refine J.cd (fun Z=>?_) (fun Z=>?_)
  ·have a0:aQ x=true:=Z;have N:dL x=Ke.number x:=by unfold dL;rw[a0];rfl
   refine cZ (fH [] [] 13 kR ?_);refine eX BX (fun A=>?_);refine aI 0 rfl A yP ?_;refine aI 1 rfl A yP ?_;refine aI 2 rfl A (CG rfl rfl BU) ?_;refine aI 3 rfl A (EP rfl rfl rfl (zV oM)) ?_;refine gG 23 rfl (show _=i64 ((x.length-1:Nat):Int) from(zD i64 oM)) ?_;refine aI 4 rfl A (EC (p:=0) (q:=x.length-1) rfl rfl BU rfl ⟨_,rfl⟩ oM oM) ?_;refine gG 24 rfl (show _=str (x.take (x.length-1)) from(by rw[dU])) ?_;refine aI 6 rfl A yP ?_;refine aI 7 rfl A yP ?_;refine aI 8 rfl A (CG rfl rfl BU) ?_;refine aI 9 rfl A (EP rfl rfl rfl (zV oM)) ?_;refine gG 29 rfl (show _=i64 ((x.length-1:Nat):Int) from(zD i64 oM)) ?_;refine aI 10 rfl A (EC (p:=x.length-1) (q:=x.length) rfl rfl BU ⟨_,rfl⟩ rfl oM oM) ?_;refine gG 30 rfl (show _=str (x.drop (x.length-1)) from(by rw[bV])) ?_;refine zO 5 rfl (yU rfl rfl rfl rfl rfl (b1L (x.take (x.length-1)) _) ?_);refine⟨EK,?_⟩;refine eX BX (fun a1=>?_);refine aI 11 rfl a1 (OB rfl rfl rfl (by rw[iK];have:=aa;unfold bK at this;rw[aU]at this;omega)) ?_;refine gG 31 rfl (show _=str (bK x) from(by rw[iK];rfl)) ?_;refine aI 12 rfl a1 yQ ?_;refine AA ?_;refine fC (Cj.sr (aA yP ?_));refine aA (CG rfl rfl BU) ?_;refine aA (OZ rfl rfl rfl) ?_;refine aP 34 rfl (show _=i64 ((min (bK x).length 99:Nat):Int) from(zD i64 (by split<;>omega))) ?_;refine aA yQ ?_;refine J.GI (aA yP ?_);refine aA (b6S rfl rfl rfl dE (zV (by show _≤((min (bK x).length 99 / 10:Nat):Int)∧((min (bK x).length 99 / 10:Nat):Int)≤_;omega))) ?_;refine aP 36 rfl (show _=i64 ((min (bK x).length 99 / 10:Nat):Int) from rfl) ?_;refine aA (yY rfl rfl rfl (zV oM)) ?_;refine aP 37 rfl (show _=i64 ((48+min (bK x).length 99 / 10:Nat):Int) from(zD i64 oM)) ?_;refine aA (NZ rfl rfl tU3 XL) ?_;refine aP 38 rfl (show _=u8 (aW (48+min (bK x).length 99 / 10)) from(zD (fD .u8) (b4D oM))) ?_;refine aA yP ?_;refine aA (a0M rfl rfl rfl dE) ?_;refine aP 40 rfl (show _=i64 ((min (bK x).length 99 % 10:Nat):Int) from rfl) ?_;refine aA (yY rfl rfl rfl (zV oM)) ?_;refine aP 41 rfl (show _=i64 ((48+min (bK x).length 99 % 10:Nat):Int) from(zD i64 oM)) ?_;refine aA (NZ rfl rfl tU3 XL) ?_;refine aP 42 rfl (show _=u8 (aW (48+min (bK x).length 99 % 10)) from(zD (fD .u8) (b4D oM))) ?_;refine aK rfl (BQ FK VN tZ5 (dD rfl (dD rfl dZ)) ?_);intro _ _;refine aA (a0t [aW (48+min (bK x).length 99 / 10),aW (48+min (bK x).length 99 % 10)] rfl rfl rfl FK BU XL (yR.at 0 rfl) rfl) ?_;refine aA yP ?_;refine aA (OB rfl rfl rfl (by first|omega|(simp only[aU];omega)|(simp;omega))) ?_;refine aP 46 rfl (show _=str (Ke.number x) from rfl) ?_;refine aA yQ ?_;refine J.GI (aA (yV PY (yR.at 2 rfl)) ?_);refine aA yP ?_;refine aK rfl (BQ AO zS JY (dD rfl dZ) ?_);intro _ _;refine aK rfl (JX 0 (aV _) (by':=15) [_,_,_,_] rfl rfl rfl rfl rfl AO (.inr ⟨_,AO⟩) kR zS JY rfl hg rfl (iC (yR.at 0 rfl) rfl rfl rfl) oM ?_);intro _ a4;refine aK rfl (EN 3 rfl rfl rfl rfl (NH _ _) (UF _ _) KR rfl rfl (bT fU) (fV (fV (fV dV))) ?_);refine dR (bD (Ej.pull (iL (iL iD)) ?_));refine dK (dS (bY (bY (dS fZ)))) ?_;exact iI ⟨a2,_,by rw[ZX O,N];exact a4,by rw[ZX O,N];rfl⟩
  have a0:aQ x=false:=Z;have N:dL x=x:=by unfold dL;rw[a0];rfl
  refine Cj.ks (aF (aA (yV PY (yR.at 1 rfl)) ?_));refine aA yP ?_;refine aK rfl (BQ AO zS JY (dD rfl dZ) ?_);intro _ _;refine aK rfl (JX 0 (aV _) (by':=15) [_,_,_] rfl rfl rfl rfl rfl AO (.inr ⟨_,AO⟩) kR zS JY rfl hg rfl (iC (yR.at 0 rfl) rfl rfl rfl) oM ?_);intro _ a5;refine aK rfl (EN 2 rfl rfl rfl rfl (NH _ _) (UF _ _) KR rfl rfl (bT fU) (fV (fV dV)) ?_);refine dR (bD (Ej.pull (iL iD) ?_));refine dK (dS (bY (dS fZ))) ?_;exact iI ⟨a2,_,by rw[ZX O,N];exact a5,by rw[ZX O,N];rfl⟩
 ·intro _ _ _ Q hY;have G:=Q _ _ G;rw[bZ]at hY;obtain⟨a9,g,hg,rfl⟩:=hY;rw[bV]at hg;rw[show(dI (dG s skip)).take (dI (dG s skip)).length=dI (dG s skip) from bV];refine bD (fC (cZ (Cj.a3b rfl (fun a6=>?_))));refine Cj.perm (H':=gH _ _ _++[_,_]) b6k ?_;refine Cj.ZY (hg.base (fun p hp=>a6 p (.tail _ (.tail _ (List.mem_append_left _ hp))))) (fun _ _ hv=>?_);refine aF (aA (yV PY (yR.at 1 rfl)) ?_);refine aK rfl (yU rfl rfl rfl rfl rfl (a4E ((dI (dG s skip)).map dL) _ (by rw[bZ];omega) oM _ hv) ?_);refine aA yQ ?_;refine J.ns (aT (Ej.a1R (.inl rfl) ?_));refine OU.mark 0 rfl dV ?_;refine OU.keep (bG _) ?_;exact OU.a5M rfl rfl rT
 exact fun _ _ _ _ _ hZ=>hZ.elim
theorem b0E r (h:iY r=true):fJ r=true:=by
 unfold iY at h;unfold fJ;simp at h ⊢;omega
theorem b0h r I:∃b,Pure aG 222 [.int .i32 r] I (.bool b)∧(b=true→fJ r=true):=
 ⟨_,eP (dQ func222 dE rfl) fun w _=>Tryz.utf8_ValidRune r w,b0E r⟩
theorem a0P l c I:Pure aG 126 [str l,u8 c] I (i64 (aY l c)):=
 eP (dQ func126 dE rfl) fun w _=>by
  have h:=Tryz.strings_IndexByte ⟨l.toArray⟩ c.toNat w;have e:((c.toNat:Int)).toNat.toUInt8=c:=sI;rw[IJ,e]at h;exact h
theorem indexByte_none{l c}(h:∀d∈l,d.toNat<128)(N:128≤c.toNat):aY l c= -1:=by
 induction l with
 |nil=>rfl
 |cons d l A=>
  have hd:=h d (.head _);have hn:(d == c)=false:=by rw[beq_eq_false_iff_ne];intro e;subst e;omega
  rw[aY,hn,A fun x G=>h x (.tail _ G)];rfl
theorem b9e{r}(G:fJ r=true)(A:128≤r):2≤(aH r).data.toList.length∧(aH r).data.toList.length≤4∧∃c,(aH r).data.toList[(aH r).data.toList.length-1]?=some c∧128≤c.toNat:=by
 obtain⟨N,O,Q⟩:=encode_facts r G A;have hs:(aH r).data.toList.length=(aH r).size:=rfl;rw[hs];have h:(aH r).size-1<(aH r).size:=oM;exact⟨N,O,_,Lib.data_getElem? (aH r) _ h,Q h⟩
theorem a3q{l:List UInt8}{i c}(h:l[i]?=some c)(N:c.toNat<128):bH ⟨l.toArray⟩ i=(c.toNat,1):=by
 obtain⟨A,hg⟩:=aB.1 h;have hs:i<(⟨l.toArray⟩:ByteArray).size:=by rw[size_mk];exact A
 have G:(⟨l.toArray⟩:ByteArray)[i]'hs=c:=by simp[ByteArray.getElem_eq_getElem_data,hg]
 rw[decode_ascii _ _ hs (by rw[G];exact N),G]
theorem a7S h (Q:∀c∈h,c.toNat<128)(h4:4≤h.length)(ah:h.length≤1000000) r (ab:128≤r)(hr:r≤2147483647) I:Pure aG 167 [str h,.int .i32 r] I (i64 (-1)):=by
 refine eU ?_;obtain⟨_,a1⟩:=b0h r I;refine yS.ob func167 ?_;intro w0 _;refine Cj.sr (aA yQ ?_);refine J.ns (aS (Cj.sr (aA yP ?_)));refine aA (ZC rfl rfl rfl) ?_;refine aA yP ?_;refine iM 2 163 true _ rfl rfl rfl (zI oM) (zK yP ?_);refine iM 2 163 true _ rfl rfl rfl (zI oM) (zK AV ?_);refine aA (EH rfl rfl (zI oM) rfl) ?_;refine aA yQ ?_;refine J.ns (bF rfl (fun a2=>aJ (dF (dM (zJ oM)) a2)) (fun a2=>?_));refine Cj.sr (aA yP ?_);refine aA DW ?_;refine aA yQ ?_;refine J.cd (fun N=>?_) (fun N=>?_)
 ·have ac:=DF N;refine cZ (Cj.sr (aA yP ?_));refine aK rfl (OH rfl rfl rfl rfl BU ?_);intro b3 _;refine J.ns (aS (fK (ι:=Nat) (fun i=>True) (fun i=>h.length-i) (fun i=>[(0,str h),(1,.int .i32 r),(174,str h),(175,ptr b3 0)]) (fun i=>I) (fun i=>[(b3,.stringIter ⟨h.toArray⟩ i)]) 0 trivial rT rfl rfl ?_));rintro i -;rcases bI i h.length with hp|hp
  ·obtain⟨c,O⟩:∃c,h[i]?=some c:=⟨_,DC hp⟩;have a3:=a3q O (Q c (FQ O));refine Cj.sr (aK rfl (XV 0 rfl rfl rfl rfl rfl (by rw[size_mk];omega) dV ?_));refine aA AZ ?_;refine J.nss (bF rfl (fun a6=>?_) (fun a6=>aJ (dF (dM rfl) a6)));refine Cj.ks (aS (Cj.sr (aA AZ ?_)));refine aA AZ ?_;refine aA yQ ?_;refine aA yQ ?_;refine J.yX (aA yP ?_);refine aA DW ?_;refine J.ns (bF rfl (fun a7=>aJ (dF (dM (beq_eq_false_iff_ne.2 (by rw[a3];dsimp only;have:=Q c (FQ O);omega))) a7)) (fun a7=>?_));refine Cj.skip (bD (dW (i+(bH ⟨h.toArray⟩ i).2) trivial (by rw[a3];dsimp only;omega) rT rfl rfl))

  refine Cj.sr (aK rfl (TL 0 rfl rfl rfl rfl rfl (by rw[size_mk];omega) ?_));refine aA AZ ?_;refine J.nss (bF rfl (fun a8=>aJ (dF (dM rfl) a8)) (fun a8=>?_));refine Cj.xl (Cj.sr (aA yQ ?_));refine J.ns (aT (bU (fM ?_)));refine zM ?_;exact rT
 have ac:=DU N;refine Cj.sr (aA yP ?_);refine aK rfl (yU rfl rfl rfl rfl rfl (a1.1) ?_);refine aA (ER rfl rfl) ?_;refine aA yQ ?_;refine J.cd (fun a9=>?_) (fun a9=>?_)
 ·refine Cj.sr (aA yQ ?_);refine J.ns (aT (bU (zM ?_)));exact rT
 have af:fJ r=true:=a1.2 (by simpa using a9);obtain⟨_,_,c2,Z,N⟩:=b9e af ab;obtain⟨c1,a0⟩:∃c,h[(aH r).data.toList.length-1]?=some c:=⟨_,DC oM⟩;have a2:=Q c1 (FQ a0);have ag:(c1.toNat:Int)≠c2.toNat:=oM;have ad:∀d∈(h.take h.length).drop ((aH r).data.toList.length-1+1),d.toNat<128:=fun d hd=>Q d (gK (List.mem_of_mem_drop hd));refine Cj.scope ?_;refine Cj.sr (aA yP ?_);refine aA (LC rfl rfl ZN BU) ?_;refine aA yQ ?_;refine J.yX (aA yP ?_);refine aA (CG rfl rfl BU) ?_;refine aA (EP rfl rfl rfl (zV oM)) ?_;refine aA yQ ?_;refine J.yX (aA yP ?_);refine aA yQ ?_;refine J.yX (aA yQ ?_);refine J.nss (aS (fK (ι:=Unit) (fun i=>True) (fun i=>0) (fun i=>[(0,str h),(7,str (aH r).data.toList),(8,i64 ((aH r).data.toList.length-1:Int)),(9,i64 ((aH r).data.toList.length-1:Int))]) (fun i=>I) (fun i=>[]) () trivial rT rfl rfl ?_));rintro _ -;refine cZ (Cj.sr (aA yP ?_));refine aA yP ?_;refine aA (CG rfl rfl BU) ?_;refine aA AV ?_;refine J.ns (bF rfl (fun aa=>?_) (fun aa=>aJ (dF (dM (zI oM)) aa)));refine Cj.ks (aS (Cj.scope ?_));refine cZ (cZ (fH [] [] 7 kR ?_));refine eX BX (fun G=>?_);refine aI 0 rfl G yP ?_;refine aI 1 rfl G yP ?_;refine aI 2 rfl G (GK rfl rfl rfl BU oM (by rw[show((((aH r).data.toList.length:Int)-1).toNat)=(aH r).data.toList.length-1 by omega];exact a0)) ?_;refine aI 3 rfl G yP ?_;refine aI 4 rfl G yP ?_;refine aI 5 rfl G (GK rfl rfl rfl BU oM (by rw[show((((aH r).data.toList.length:Int)-1).toNat)=(aH r).data.toList.length-1 by omega];exact Z)) ?_;refine aI 6 rfl G (GH rfl rfl rfl) ?_;refine AA ?_;refine fC (bF rfl (fun a4=>?_) (fun a4=>aJ (dF (dM (bne_iff_ne.2 ag)) a4)));refine cZ (fH [] [] 9 kR ?_);refine eX BX (fun A=>?_);refine aI 0 rfl A yP ?_;refine aI 1 rfl A yP ?_;refine aI 2 rfl A (yY rfl rfl rfl (zV oM)) ?_;refine gG 36 rfl (show _=i64 ((aH r).data.toList.length-1+1:Nat) from(by congr 1;omega)) ?_;refine aI 3 rfl A (EC (p:=(aH r).data.toList.length-1+1) (q:=h.length) rfl rfl BU ⟨_,rfl⟩ rfl oM oM) ?_;refine aI 4 rfl A yP ?_;refine aI 5 rfl A yP ?_;refine aI 6 rfl A (GK rfl rfl rfl BU oM (by rw[show((((aH r).data.toList.length:Int)-1).toNat)=(aH r).data.toList.length-1 by omega];exact Z)) ?_;refine zO 7 rfl (yU rfl rfl rfl rfl rfl (a0P _ _ _) ?_);refine⟨EK,?_⟩;refine gG 41 rfl (show _=i64 (-1) from(by rw[indexByte_none ad N])) ?_;refine eX BX (fun ae=>?_);refine aI 8 rfl ae yQ ?_;refine AA ?_;refine fC (cZ (Cj.sr (aA yP ?_)));refine aA AV ?_;refine J.ns (bF rfl (fun a5=>?_) (fun a5=>aJ (dF (dM (zI oM)) a5)));refine Cj.sr (aA yQ ?_);refine J.ns (Cj.rs (eF (Ej.a9R ?_)));refine bU (iO (bU (eF (Ej.a9R ?_))));refine bU (zM ?_);exact rT
theorem a4R h (N:∀c∈h,c.toNat<128)(O:4≤h.length)(A:h.length≤1000000) r (G:128≤r)(hr:r≤2147483647) I:Pure aG 117 [str h,.int .i32 r] I (.bool false):=by
 refine yS.ob func117 ?_;intro w0 _;refine Cj.sr (aA yQ ?_);refine J.yX (aA yP ?_);refine aA yP ?_;refine aK rfl (yU rfl rfl rfl rfl rfl (a7S h N O A r G hr _) ?_);refine aA (JQ rfl rfl rfl) ?_;refine aA yQ ?_;refine J.ns (aT (zM ?_));exact rT
def b1j:List UInt8:=[48,49,50,51,52,53,54,55,56,57,88,120,32,45]
theorem c1e c:decide (0≤aY b1j c)=aO c:=by
 have h:∀n<256,decide (0≤aY b1j (aW n))=aO (aW n):=by decide +kernel
 have:=h c.toNat c.toNat_lt
 rwa [fG]at this
def okr (r:Nat):Bool:=decide (r<128) && aO (aW r)
theorem a7G(r:Nat)(hr:r≤1114111) I:Pure aG 117 [str b1j,.int .i32 (r:Int)] I (.bool (okr r)):=by
 rcases bI r 128 with h|h
 ·refine eP (dQ func117 dE rfl) fun w _=>?_;have G:=Tryz.strings_ContainsRune_ascii ⟨b1j.toArray⟩ (r:Int) w oM oM;have e:((r:Int)).toNat.toUInt8=aW r:=rfl;rw[IJ,e,c1e]at G;have A:okr r=aO (aW r):=by simp[okr,h]
  rw[A];exact G
 have A:okr r=false:=by simp[okr];omega
 rw[A];exact a4R b1j dE dE dE (r:Int) oM oM I
theorem c1h(r:Nat)(hr:r≤1114111) I:Pure aG 116 [.int .i32 (r:Int)] I (.bool (!okr r)):=by
 refine yS.ob func116 ?_;intro w0 _;refine Cj.sr (aA yQ ?_);refine J.yX (aA yP ?_);refine aK rfl (yU rfl rfl rfl rfl rfl (a7G r hr _) ?_);refine aA (ER rfl rfl) ?_;refine aA yQ ?_;refine J.ns (aT (zM ?_));exact rT
theorem c1V{l:List UInt8}{i c}(h:l[i]?=some c)(N:128≤c.toNat):128≤(bH ⟨l.toArray⟩ i).1:=by
 have G:Lib.decodeL (l.drop i)=bH ⟨l.toArray⟩ i:=Lib.decodeL_drop ⟨l.toArray⟩ i;rw[←G,drop_cons h,Lib.decodeL_N];simp only[List.getD_cons_zero];unfold Lib.decodeN;rw[zF oM]
 split
 ·split
  ·assumption
  decide
 split
 ·split
  ·rename_i A;exact KT dE A.1
  decide
 split
 ·split
  ·rename_i A;exact KT dE A.1
  decide
 decide
theorem b3P{l:List UInt8}{i c}(h:l[i]?=some c)(A:okr (bH ⟨l.toArray⟩ i).1=true):aO c=true∧(bH ⟨l.toArray⟩ i).2=1:=by
 rcases bI c.toNat 128 with G|G
 ·rw[a3q h G]at A ⊢;simp only[okr,dX,fG]at A;exact⟨A.2,rfl⟩
 have:=c1V h G;simp only[okr,dX,zH]at A;omega
theorem b9A{l:List UInt8}{i c}(h:l[i]?=some c)(G:okr (bH ⟨l.toArray⟩ i).1=false):aO c=false:=by
 rcases bI c.toNat 128 with A|A
 ·rw[a3q h A]at G;simpa[okr,A]using G
 have N:∀n<256,128≤n→aO (aW n)=false:=by decide +kernel
 have:=N c.toNat c.toNat_lt A
 rwa [fG]at this
theorem b9W{l:List UInt8}{i c}(h:(l.take i).all aO=true)(N:l[i]?=some c)(A:aO c=true):(l.take (i+1)).all aO=true:=by
 obtain⟨G,hg⟩:=aB.1 N;rw[aN G,hg,List.all_append,h];simp[A]
theorem b5p{l:List UInt8}:∀{i:Nat} {c:UInt8},(l.take i).all aO=true→l[i]?=some c→aO c=false→l.takeWhile aO=l.take i:=by
 induction l with
 |nil=>intro i c _ h;simp at h
 |cons a r N=>
  intro i c h G A;cases i with
  |zero=>simp at G;subst G;rw[List.takeWhile_cons_of_neg (by simp[A])];rfl
  |succ i=>
   simp only[gY,iZ,dX]at h;rw[fF h.1,N h.2 (by simpa using G) A,gY]
theorem a7u{l:List UInt8}(h:l.all aO=true):l.takeWhile aO=l:=by
 induction l with
 |nil=>rfl
 |cons a r A=>
  rw[iZ,dX]at h;rw[fF h.1,A h.2]
def b8K (s:List UInt8) (n:Int):Prop:=(n= -1∧s.takeWhile aO=s)∨∃k:Nat,n=k∧k≤s.length∧s.takeWhile aO=s.take k
theorem b1T s I:yS aG 166 [str s,.func (.func 116) #[] #[],.bool true] I [] (fun e I' H'=>∃n,e= .returned (i64 n)∧b8K s n∧H'=[]):=by
 refine yS.ob func166 ?_;intro w0 _;refine Cj.sr (aA yQ ?_);refine J.zX (aF (aA yP ?_));refine aK rfl (OH rfl rfl rfl rfl BU ?_);intro b1 _;refine J.ns (aS (fK (ι:=Nat) (fun i=>i≤s.length∧(s.take i).all aO=true) (fun i=>s.length-i) (fun i=>[(1,.func (.func 116) #[] #[]),(2,.bool true),(10,ptr b1 0)]) (fun i=>I) (fun i=>[(b1,.stringIter ⟨s.toArray⟩ i)]) 0 ⟨aV _,rfl⟩ rT rfl rfl ?_));rintro i ⟨hi,G⟩;rcases bI i s.length with hp|hp
 ·have hd:=Ke.SV s hp;have a0:=Ke.decode_le s i;obtain⟨c,A⟩:∃c,s[i]?=some c:=⟨_,DC hp⟩;refine Cj.sr (aK rfl (XV 0 rfl rfl rfl rfl rfl (by rw[size_mk];omega) dV ?_));refine aA AZ ?_;refine J.nss (bF rfl (fun Q=>?_) (fun Q=>aJ (dF (dM rfl) Q)));refine Cj.ks (aS (Cj.sr (aA AZ ?_)));refine aA AZ ?_;refine aA yQ ?_;refine aA yQ ?_;refine J.yX (aA yP ?_);refine aA yP ?_;refine aK rfl (yU rfl rfl rfl rfl rfl (c1h _ a0 _) ?_);refine aA yP ?_;refine aA (b5U rfl rfl rfl tU4) ?_;refine J.cd (fun O=>?_) (fun O=>?_)
  ·have N:okr (bH ⟨s.toArray⟩ i).1=false:=by have h:=O;simpa using h
   refine Cj.sr (aA yP ?_);refine aA yQ ?_;refine J.ns (aT (bU (iO (bU (eF (fM ?_))))));refine zM ?_;exact⟨_,rfl,.inr ⟨i,rfl,hi,b5p G A (b9A A N)⟩,rfl⟩
  have N:okr (bH ⟨s.toArray⟩ i).1=true:=by have h:=O;simpa using h
  refine Cj.skip (bD (dW (i+(bH ⟨s.toArray⟩ i).2) ⟨hd.2,by rw[(b3P A N).2];exact b9W G A (b3P A N).1⟩ oM rT rfl rfl))

 refine Cj.sr (aK rfl (TL 0 rfl rfl rfl rfl rfl (by rw[size_mk];omega) ?_));refine aA AZ ?_;refine J.nss (bF rfl (fun Z=>aJ (dF (dM rfl) Z)) (fun Z=>?_));refine Cj.xl (Cj.sr (aA yQ ?_));refine J.ns (aT (fM ?_));refine zM ?_;exact⟨_,rfl,.inl ⟨rfl,a7u (by rw[aX oM]at G;exact G)⟩,rfl⟩
theorem b1a s I:yS aG 115 [str s,.func (.func 116) #[] #[]] I [] (fun e G H'=>∃n,e= .returned (i64 n)∧b8K s n∧H'=[]):=by
 refine yS.ob func115 ?_;intro w0 _;refine Cj.sr (aA yQ ?_);refine J.yX (aA yP ?_);refine aA yP ?_;refine aK rfl (yT (H1:=[]) rfl rfl rfl rfl rfl (b1T s _) ?_ (fun _ _ _ _ ⟨_,h,_⟩=>by cases h) (fun _ _ ⟨_,h,_⟩=>by cases h));intro _ _ _ _ A;obtain⟨n,h,hn,rfl⟩:=A;cases h;refine aA yQ ?_;refine J.ns (aT (zM ?_));exact⟨_,rfl,hn,rfl⟩
theorem b6q{l sp}{k:Nat}{c}(h:l[k]?=some c):(EY l++sp)[k]?=some (u8 c):=by
 obtain⟨A,_⟩:=aB.1 h;rw[List.getElem?_append_left (by rw[TD];exact A),EY,iG,h];rfl
theorem w8{x}(h:0≤x∧x≤255):jI.wrap x=x:=by
 simp[jB,jC,iU];omega
theorem b3R:∀(l:List UInt8) (k:Nat),dH k l≤1000*l.length
 |[],_=>by simp[dH]
 |c::r,k=>by
  have h:=b3R r (k+1);have A:=c.toNat_lt;have G:(c.toNat-48)*(1+2*(k % 2))≤255*3:=fA oM oM;simp only[dH,fO];omega
theorem b8m{l:List UInt8}{k c}(h:l[k]?=some c):dH 0 (l.take (k+1))=dH 0 (l.take k)+(c.toNat-48)*(1+2*(k % 2)):=by
 obtain⟨A,hg⟩:=aB.1 h;rw[aN A,hg,Ke.b2e,dH,dH,bC,dP oM,gZ,Nat.add_zero]
theorem b8P c:dJ c≤255:=by
 have h:=c.toNat_lt;unfold dJ;split<;>omega
theorem b4y:∀(l:List UInt8) (k:Nat),dN k l≤2550*l.length
 |[],_=>by simp[dN]
 |c::r,k=>by
  have h:=b4y r (k+1);have A:(10-k)*dJ c≤10*255:=fA oM (b8P c);simp only[dN,fO];omega
theorem a8K{l:List UInt8}{k c}(h:l[k]?=some c):dN 0 (l.take (k+1))=dN 0 (l.take k)+(10-k)*dJ c:=by
 obtain⟨A,hg⟩:=aB.1 h;rw[aN A,hg,Ke.b1Z,dN,dN,bC,dP oM,gZ,Nat.add_zero]
theorem a8z{l}{k:Nat}{c}(hd:aQ l=true)(h:l[k]?=some c):48≤c.toNat∧c.toNat≤57:=Ke.a4d.1 (bW.1 hd c (FQ h))
theorem b1B s (a2:12≤s.length)(hs:s.length≤1000000)(hd:aQ (s.take 12)=true) I:Pure aG 122 [str s] I (u8 (bM s)):=by
 refine eU ?_;have a3:(s.take 12).length=12:=by rw[bC];omega
 refine yS.ob func122 ?_;intro w0 _;refine Cj.sr (aA yQ ?_);refine J.yX (aA yQ ?_);refine J.zX (aF (aA yP ?_));refine aA (EC (p:=0) (q:=12) rfl rfl BU rfl ⟨_,rfl⟩ oM oM) ?_;refine aP 7 rfl (show _=str (s.take 12) from(by rw[dU])) ?_;refine aK rfl (a0i rfl rfl rfl rfl BU FK XL ?_);intro Q c2 Z N _ _;refine aA (zZ FK) ?_;refine aA yP ?_;refine J.ns (aS (fK (ι:=Nat) (fun j=>j≤(s.take 12).length) (fun j=>(s.take 12).length-j) (fun j=>[(0,str s),(3,i64 ((dH 0 ((s.take 12).take j):Nat):Int)),(8,.slice (some ⟨Q,0,none⟩) (s.take 12).length c2),(9,i64 ((s.take 12).length:Int)),(10,i64 (j:Int))]) (fun j=>I) (fun j=>[(Q,.cells (EY (s.take 12)++Z).toArray 5 (N,N+1))]) 0 (aV _) rT rfl rfl ?_));intro j hj;have a0:=b3R ((s.take 12).take j) 0;rw[bC,dP hj]at a0;refine Cj.sr (aA AV ?_);refine J.nss (bF rfl (fun A=>?_) (fun A=>?_))
 ·have O:=BH A;have a1:j<(s.take 12).length:=oM;obtain⟨c,h⟩:∃c,(s.take 12)[j]?=some c:=⟨_,DC a1⟩;have hc:=a8z hd h;have hm:(c.toNat-48)*(1+2*(j % 2))≤9*3:=fA oM oM;refine Cj.ks (cZ (aS (Cj.sr (aA yP ?_))));refine aA (AU (off':=j) FK VN) ?_;refine aA (EF tA5 (yR.at 0 rfl) (b6q h)) ?_;refine aA yQ ?_;refine aA yQ ?_;refine J.GI (aA yP ?_);refine aA yP ?_;refine aA (EP rfl rfl rfl (w8 oM)) ?_;refine aA (NZ rfl rfl XL tU3) ?_;refine aP 18 rfl (show _=i64 ((c.toNat-48:Nat):Int) from(zD i64 ((zV oM).trans oM))) ?_;refine aA yP ?_;refine aA (a0M rfl rfl rfl dE) ?_;refine aP 20 rfl (show _=i64 ((j % 2:Nat):Int) from rfl) ?_;refine aA (a1W rfl rfl rfl (zV oM)) ?_;refine aA (yY rfl rfl rfl (zV oM)) ?_;refine aP 22 rfl (show _=i64 ((1+2*(j % 2):Nat):Int) from(zD i64 oM)) ?_;refine aA (a1W rfl rfl rfl (zV (by rw[←dA];omega))) ?_;refine aP 23 rfl (show _=i64 (((c.toNat-48)*(1+2*(j % 2)):Nat):Int) from(zD i64 (dA _ _).symm)) ?_;refine aA (yY rfl rfl rfl (zV oM)) ?_;refine aA yQ ?_;refine J.nb (aF (aA (yY rfl rfl rfl (zV oM)) ?_));refine aA yP ?_;refine dR (dW (j+1) oM oM ⟨rfl,by rw[b8m h];exact zD (fun z=>some (fD .i64 z)) oM,rfl,rfl,rfl,trivial⟩ rfl rfl)
 have O:=BJ A;have G:(s.take 12).take j=s.take 12:=aX oM;refine Cj.xl (Cj.sr (aA yP ?_));refine aA (a0M rfl rfl rfl dE) ?_;refine aP 27 rfl (show _=i64 ((dH 0 (s.take 12) % 10:Nat):Int) from(by rw[G];rfl)) ?_;refine aA (EP rfl rfl rfl (zV oM)) ?_;refine aP 28 rfl (show _=i64 ((10-dH 0 (s.take 12) % 10:Nat):Int) from(zD i64 oM)) ?_;refine aA (a0M rfl rfl rfl dE) ?_;refine aP 29 rfl (show _=i64 (((10-dH 0 (s.take 12) % 10) % 10:Nat):Int) from rfl) ?_;refine aA (yY rfl rfl rfl (zV oM)) ?_;refine aP 30 rfl (show _=i64 ((48+(10-dH 0 (s.take 12) % 10) % 10:Nat):Int) from(zD i64 oM)) ?_;refine aA (NZ rfl rfl tU3 XL) ?_;refine aP 31 rfl (show _=u8 (bM s) from(zD (fD .u8) (b4D oM))) ?_;refine aA yQ ?_;refine J.ns (aT (dK (bG _) ?_));refine zM ?_;exact rT
theorem a9v s (a6:s.length=10)(hx:∀c∈s,jD c=true∨c=88) I:Pure aG 121 [str s] I (.bool (bP s)):=by
 refine eU ?_;refine yS.ob func121 ?_;intro w0 _;refine Cj.sr (aA yQ ?_);refine J.yX (aA yQ ?_);refine J.zX (aF (aA yP ?_));refine aK rfl (a0i rfl rfl rfl rfl BU FK XL ?_);intro b1 c2 a2 Z _ _;refine aA (zZ FK) ?_;refine aA yP ?_;refine J.ns (aS (fK (ι:=Nat) (fun j=>j≤s.length) (fun j=>s.length-j) (fun j=>[(0,str s),(3,i64 ((dN 0 (s.take j):Nat):Int)),(8,.slice (some ⟨b1,0,none⟩) s.length c2),(9,i64 (s.length:Int)),(10,i64 (j:Int))]) (fun j=>I) (fun j=>[(b1,.cells (EY s++a2).toArray 5 (Z,Z+1))]) 0 (aV _) rT rfl rfl ?_));intro j hj;have a3:=b4y (s.take j) 0;rw[bC,dP hj]at a3;refine Cj.sr (aA AV ?_);refine J.nss (bF rfl (fun O=>?_) (fun O=>?_))
 ·have a0:=BH O;have a4:j<s.length:=oM;obtain⟨c,G⟩:∃c,s[j]?=some c:=⟨_,DC a4⟩;have hc:48≤c.toNat:=(hx c (FQ G)).elim (fun h=>(Ke.a4d.1 h).1) (fun h=>by subst h;decide);have a7:=c.toNat_lt;have hm:(10-j)*dJ c≤10*255:=fA oM (b8P c);refine Cj.ks (cZ (aS (Cj.sr (aA yP ?_))));refine aA (AU (off':=j) FK VN) ?_;refine aA (EF tA5 (yR.at 0 rfl) (b6q G)) ?_;refine aA yQ ?_;refine aA yQ ?_;refine J.yX (aA yP ?_);refine aA (EP rfl rfl rfl (w8 oM)) ?_;refine aA (NZ rfl rfl XL tU3) ?_;refine aP 17 rfl (show _=i64 ((c.toNat-48:Nat):Int) from(zD i64 ((zV oM).trans oM))) ?_;refine aA yQ ?_;refine J.zX (aF (aA yP ?_));refine aA DW ?_;refine J.cd (fun N=>?_) (fun N=>?_)
  ·have a1:=DF N;have a5:dJ c=10:=by
    have h:(c.toNat:Int)=88:=DF N;unfold dJ;rw[zG (iP.1 (by rw[show(88:UInt8).toNat=88 from rfl];omega))]
   refine aF (aA yQ ?_);refine J.GI (aA yP ?_);refine aA yP ?_;refine aA (EP rfl rfl rfl (zV oM)) ?_;refine aP 22 rfl (show _=i64 ((10-j:Nat):Int) from(zD i64 oM)) ?_;refine aA yP ?_;refine aP 23 rfl (show _=i64 ((dJ c:Nat):Int) from(zD i64 oM)) ?_;refine aA (a1W rfl rfl rfl (zV (by rw[←dA];omega))) ?_;refine aP 24 rfl (show _=i64 (((10-j)*dJ c:Nat):Int) from(zD i64 (dA _ _).symm)) ?_;refine aA (yY rfl rfl rfl (zV oM)) ?_;refine aA yQ ?_;refine J.nb (aF (aA (yY rfl rfl rfl (zV oM)) ?_));refine aA yP ?_;refine dR (dW (j+1) oM oM ⟨rfl,by rw[a8K G];exact zD (fun z=>some (fD .i64 z)) oM,rfl,rfl,rfl,trivial⟩ rfl rfl)
  have a1:=DU N;have a5:dJ c=c.toNat-48:=by
   have h:¬(c.toNat:Int)=88:=DU N;unfold dJ;rw[zF (fun e=>h (by subst e;rfl))]
  refine Cj.ks (aF (aA yP ?_));refine aA yP ?_;refine aA (EP rfl rfl rfl (zV oM)) ?_;refine aP 22 rfl (show _=i64 ((10-j:Nat):Int) from(zD i64 oM)) ?_;refine aA yP ?_;refine aP 23 rfl (show _=i64 ((dJ c:Nat):Int) from(zD i64 oM)) ?_;refine aA (a1W rfl rfl rfl (zV (by rw[←dA];omega))) ?_;refine aP 24 rfl (show _=i64 (((10-j)*dJ c:Nat):Int) from(zD i64 (dA _ _).symm)) ?_;refine aA (yY rfl rfl rfl (zV oM)) ?_;refine aA yQ ?_;refine J.nb (aF (aA (yY rfl rfl rfl (zV oM)) ?_));refine aA yP ?_;refine dR (dW (j+1) oM oM ⟨rfl,by rw[a8K G];exact zD (fun z=>some (fD .i64 z)) oM,rfl,rfl,rfl,trivial⟩ rfl rfl)
 have a0:=BJ O;have Q:s.take j=s:=aX oM;refine Cj.xl (Cj.sr (aA yP ?_));refine aA (a0M rfl rfl rfl dE) ?_;refine aP 28 rfl (show _=i64 ((dN 0 s % 11:Nat):Int) from(by rw[Q];rfl)) ?_;refine aA DW ?_;refine aA yP ?_;refine J.split 30 rfl (fun A=>?_) (fun A=>?_)
 ·have hr:(dN 0 s % 11 == 0)=true:=beq_iff_eq.2 (by have h:=DF A;omega);refine zU 3 30 true A (zK yP ?_);refine iM 3 30 true _ rfl rfl rfl A (JR (EC (p:=0) (q:=9) rfl rfl BU rfl ⟨_,rfl⟩ oM oM) rfl rfl ?_);refine aP 32 rfl (show _=str (s.take 9) from(by rw[dU])) ?_;refine iM 3 30 true _ rfl rfl rfl A (yU rfl rfl rfl rfl rfl (YR (s.take 9) (by rw[bC];omega) _) ?_);refine aA (EO A) ?_;refine aA yQ ?_;refine J.ns (aT (dK (bG _) ?_));refine zM ?_;exact⟨zD (fun b=>fP (.bool b)) (by unfold bP;rw[hr];rfl),rfl⟩
 have hr:(dN 0 s % 11 == 0)=false:=beq_eq_false_iff_ne.2 (fun e=>DU A (by rw[e];rfl));refine AP 3 30 31 true A ?_;refine AP 3 30 32 true A ?_;refine AP 3 30 33 true A ?_;refine aA (ED A) ?_;refine aA yQ ?_;refine J.ns (aT (dK (bG _) ?_));refine zM ?_;exact⟨zD (fun b=>fP (.bool b)) (by unfold bP;rw[hr];rfl),rfl⟩
theorem b5J s:∀c∈aC s,jD c=true∨c=88:=fun c h=>by
 obtain⟨d,hd,rfl⟩:=List.mem_map.1 h;obtain⟨A,G⟩:=iQ.1 hd;have N:aO d=true:=bW.1 (iE (p:=aO)) d A;revert G N;exact Ke.b1E (p:=fun d=>Ke.nb d=true→aO d=true→jD (Ke.up d)=true∨Ke.up d=88) (by decide +kernel) d
theorem b2c s:(aC s).length≤s.length:=by
 unfold aC;rw[bZ];exact KT (eG _ _) (eH _).length_le
theorem b5n s (hs:s.length≤1000000000) I:Pure aG 118 [str (iF (s.takeWhile aO))] I (str (aC s)):=by
 refine gQ (dQ func118 dE rfl) fun w _=>?_;have A:∀c∈iF (s.takeWhile aO),c.toNat<128∧Lib.upperB c=Ke.up c:=fun c G=>by
  obtain⟨O,_⟩:=iQ.1 G;have Q:aO c=true:=bW.1 (iE (p:=aO)) c O;revert Q;exact Ke.b1E (p:=fun c=>aO c=true→c.toNat<128∧Lib.upperB c=Ke.up c) (by decide +kernel) c
 have Z:(iF (s.takeWhile aO)).length≤s.length:=KT (eG _ _) (eH _).length_le;have h:=Tryz.strings_ToUpper_ascii ⟨(iF (s.takeWhile aO)).toArray⟩ w (by rw[size_mk];omega) (fun j b N=>by rw[IJ]at N;exact(A b (FQ N)).1);rw[IJ]at h;have e:Lib.toUpperA (iF (s.takeWhile aO))=aC s:=gX fun c G=>(A c G).2;rw[e]at h;exact h
theorem b8A{a b}(h:a.length=12):bM (a++b)=bM a:=by
 unfold bM;rw[eY oM]
theorem b7x{a b}(h:aQ a=true)(A:a.length=9):aQ (([57,55,56]++a++b).take 12)=true:=by
 rw[eY (by simp;omega),aX (by simp;omega),Ke.a2z,h];rfl
theorem a7w s (hs:s.length≤100000000) I:Pure aG 86 [str s] I (.tuple #[str (fB s).1,.bool (fB s).2]):=by
 refine eU ?_;have an:=b5J s;have av:=b2c s;have aw:(s.takeWhile aO).length≤s.length:=(eH _).length_le;refine yS.ob func86 ?_;intro w0 _;refine Cj.sr (aA yQ ?_);refine aA yQ ?_;refine J.yX (aA yP ?_);refine aK rfl (yT (H1:=[]) rfl rfl rfl rfl rfl (b1a s _) ?_ (fun _ _ _ _ ⟨_,h,_⟩=>by cases h) (fun _ _ ⟨_,h,_⟩=>by cases h));intro _ _ _ _ ao;obtain⟨n,h,hn,rfl⟩:=ao;cases h;refine aA yQ ?_;refine J.ns (Cj.join (ι:=Heap) (fun J4=>True) (fun J4=>[(0,str (s.takeWhile aO))]) (fun J4=>J4) (fun J4=>[]) ?_ (fun O=>?_))
 ·rintro J4 -;refine Cj.sr (aK rfl (BQ AO zS JY (dD rfl (dD rfl (dD rfl (dD rfl dZ)))) ?_));intro b6 _;refine J.pull iD ?_;refine aK rfl (yT (H1:=[_]) rfl rfl rfl rfl rfl (a7O _ _ _ _ b6 _ _) ?_ (fun _ _ _ _ ⟨_,_,h,_⟩=>by cases h) (fun _ _ ⟨_,_,h,_⟩=>by cases h));intro _ _ _ _ aj;obtain⟨rb,ap,h,rfl,ho⟩:=aj;cases h;refine aA yP ?_;refine J.pull iD ?_;refine aK rfl (yT (H1:=[_]) rfl rfl rfl rfl rfl (b2R rb ap (s.takeWhile aO) oM _ ho) ?_ (fun _ _ _ _ h=>by cases h.1) (fun _ _ h=>by cases h.1));intro _ _ _ ab ak;have ho:=ho.mono ab;obtain⟨h,rfl⟩:=ak;cases h;refine aP 15 rfl (show _=str (iF (s.takeWhile aO)) from rfl) ?_;refine aK rfl (yU rfl rfl rfl rfl rfl (b5n s oM _) ?_);refine aA yQ ?_;refine J.ns (Cj.join (ι:=Heap) (fun J8=>¬((aC s).length=10∧bP (aC s)=true)∧¬((aC s).length=13∧aQ (aC s)=true∧bM (aC s)=(aC s).getD 12 0)) (fun J8=>[(0,str (aC s))]) (fun J8=>J8) (fun J8=>[]) ?_ (fun O=>?_))
  ·rintro J8 ⟨a1,a0⟩;refine Cj.sr (aA yQ ?_);refine aA yQ ?_;refine J.ns (aT (dK (bG _) ?_));refine Ej.a4h rfl rfl rfl rfl ?_;have he:fB s=([],false):=by unfold fB jE;rw[zF a1,zF a0]
   rw[he];exact rT
  refine aS (Cj.join (ι:=Bool×Heap) (fun y=>(y.1=true→(aC s).length=10∧bP (aC s)=true)∧(y.1=false→¬((aC s).length=10∧bP (aC s)=true))) (fun y=>[(0,str (aC s)),(17,.bool y.1)]) (fun y=>y.2) (fun y=>[]) ?_ (fun O=>?_))
  ·rintro⟨y,_⟩ ⟨ae,af⟩;dsimp only at ae af ⊢;refine bF rfl ?_ ?_<;>intro a4
   ·obtain⟨a6,ag⟩:=ae a4;have aq:aQ ((aC s).take 9)=true:=(Bool.and_eq_true_iff.1 ag).2;have al:=b7x (b:=[48]) aq (by rw[bC];omega);refine Cj.sr (aA yP ?_);refine aA (EC (p:=0) (q:=9) rfl rfl BU rfl ⟨_,rfl⟩ oM oM) ?_;refine aP 26 rfl (show _=str ((aC s).take 9) from(by rw[dU])) ?_;refine aA (OB rfl rfl rfl (by first|omega|(simp only[aU];omega)|(simp;omega))) ?_;refine aA yQ ?_;refine J.yX (aA yP ?_);refine aA yP ?_;refine aA (OB rfl rfl rfl (by first|omega|(simp only[aU];omega)|(simp;omega))) ?_;refine aK rfl (yU rfl rfl rfl rfl rfl (b1B _ (by simp;omega) (by simp;omega) al _) ?_);refine aP 31 rfl (show _=u8 (bM ([57,55,56]++(aC s).take 9)) from(by rw[b8A (by simp;omega)])) ?_;refine aK rfl (BQ FK VN tZ5 (dD rfl dZ) ?_);intro _ _;refine aA (a0t [bM ([57,55,56]++(aC s).take 9)] rfl rfl rfl FK BU XL (yR.at 0 rfl) rfl) ?_;refine aA (OB rfl rfl rfl (by first|omega|(simp only[aU];omega)|(simp;omega))) ?_;refine aA yQ ?_;refine aA yQ ?_;refine J.ns (aT (bU (eF (dK (bG _) ?_))));refine Ej.a4h rfl rfl rfl rfl ?_;have he:fB s=([57,55,56]++(aC s).take 9++[bM ([57,55,56]++(aC s).take 9)],true):=by unfold fB jE;rw[zG ⟨a6,ag⟩]
    rw[he];exact rT
   have a1:=af a4;refine cZ (fH [] [] 15 kR ?_);refine eX BX (fun A=>?_);refine aI 0 rfl A yP ?_;refine aI 1 rfl A (CG rfl rfl BU) ?_;refine aI 2 rfl A DW ?_;refine aI 3 rfl A yP ?_;refine JA.split 39 rfl (fun Q=>?_) (fun Q=>?_)
   rotate_left
   ·have a0:¬((aC s).length=13∧aQ (aC s)=true∧bM (aC s)=(aC s).getD 12 0):=fun e=>DU Q (by rw[e.1];rfl);refine AY 4 3 39 true A (.inl (zD aZ Q)) ?_;refine AY 5 3 39 true A (.inl (zD aZ Q)) ?_;refine aI 6 rfl A (ED Q) ?_;refine aI 7 rfl A yP ?_;refine AY 8 7 43 true A (.inl (zD aZ rfl)) ?_;refine AY 9 7 43 true A (.inl (zD aZ rfl)) ?_;refine AY 10 7 43 true A (.inl (zD aZ rfl)) ?_;refine AY 11 7 43 true A (.inl (zD aZ rfl)) ?_;refine AY 12 7 43 true A (.inl (zD aZ rfl)) ?_;refine aI 13 rfl A (ET rfl rfl rfl rfl) ?_;refine aI 14 rfl A yQ ?_;refine AA ?_;refine fC (bF rfl (fun a7=>aJ (dF (dM rfl) a7)) (fun a7=>?_));refine Cj.skip (bD ?_);exact O _ _ _ _ ⟨a1,a0⟩ rT rfl rfl
   have ar:(aC s).length=13:=by have h:=DF Q;omega
   refine iR 4 3 39 true _ rfl A rfl rfl Q yP ?_;refine JA.stepG 5 3 39 true _ kR rfl rfl rfl rfl Q (yU rfl rfl rfl rfl rfl (YR (aC s) oM _) ?_);refine⟨EK,?_⟩;refine eX BX (fun N=>?_);refine aI 6 rfl N (EO Q) ?_;refine aI 7 rfl N yP ?_;refine JA.split 43 rfl (fun G=>?_) (fun G=>?_)
   rotate_left
   ·have a0:¬((aC s).length=13∧aQ (aC s)=true∧bM (aC s)=(aC s).getD 12 0):=fun e=>aJ (e.2.1.symm.trans G);refine AY 8 7 43 true N (.inl (zD aZ G)) ?_;refine AY 9 7 43 true N (.inl (zD aZ G)) ?_;refine AY 10 7 43 true N (.inl (zD aZ G)) ?_;refine AY 11 7 43 true N (.inl (zD aZ G)) ?_;refine AY 12 7 43 true N (.inl (zD aZ G)) ?_;refine aI 13 rfl N (ED G) ?_;refine aI 14 rfl N yQ ?_;refine AA ?_;refine fC (bF rfl (fun a8=>aJ (dF (dM rfl) a8)) (fun a8=>?_));refine Cj.skip (bD ?_);exact O _ _ _ _ ⟨a1,a0⟩ rT rfl rfl
   have ah:aQ (aC s)=true:=G;have am:aQ ((aC s).take 12)=true:=bW.2 fun c hc=>bW.1 ah c (gK hc);obtain⟨c,a9⟩:∃c,(aC s)[12]?=some c:=⟨_,DC oM⟩;have ai:(aC s).getD 12 0=c:=by rw[List.getD,a9];rfl
   refine iR 8 7 43 true _ rfl N rfl rfl G yP ?_;refine iR 10 7 43 true _ rfl N rfl rfl G yP ?_;refine iR 11 7 43 true _ rfl N rfl rfl G (GK rfl rfl rfl BU oM a9) ?_;refine JA.stepG 9 7 43 true _ kR rfl rfl rfl rfl G (yU rfl rfl rfl rfl rfl (b1B (aC s) oM oM am _) ?_);refine⟨EK,?_⟩;refine eX BX (fun a5=>?_);refine iR 12 7 43 true _ rfl a5 rfl rfl G DW ?_;refine aI 13 rfl a5 (EO G) ?_;refine aI 14 rfl a5 yQ ?_;refine AA ?_;refine fC (bF rfl (fun a2=>?_) (fun a2=>?_))
   ·have ac:=DF a2;have au:bM (aC s)=(aC s).getD 12 0:=by have h:=DF a2;rw[ai];exact iP.1 oM
    refine Cj.sr (aA yP ?_);refine aA yQ ?_;refine aA yQ ?_;refine J.ns (aT (bU (eF (dK (bG _) ?_))));refine Ej.a4h rfl rfl rfl rfl ?_;have he:fB s=(aC s,true):=by unfold fB jE;rw[zF a1,zG ⟨ar,ah,au⟩]
    rw[he];exact rT
   ·have ac:=DU a2;have a0:¬((aC s).length=13∧aQ (aC s)=true∧bM (aC s)=(aC s).getD 12 0):=fun e=>DU a2 (by rw[e.2.2,ai]);refine Cj.skip (bD ?_);exact O _ _ _ _ ⟨a1,a0⟩ rT rfl rfl
  refine aF (aA yP ?_);refine aA (CG rfl rfl BU) ?_;refine aA DW ?_;refine aA yP ?_;refine J.split 21 rfl (fun Z=>?_) (fun Z=>?_)
  ·have a6:(aC s).length=10:=by have h:=DF Z;omega
   refine zU 3 21 true Z (zK yP ?_);refine zU 3 21 true Z (yU rfl rfl rfl rfl rfl (a9v (aC s) a6 an _) ?_);refine aA (EO Z) ?_;refine aA yQ ?_;refine dR ?_;exact O (bP (aC s),_) _ _ _ ⟨fun h=>⟨a6,h⟩,fun h e=>aJ (e.2.symm.trans h)⟩ rT rfl rfl
  have a1:¬((aC s).length=10∧bP (aC s)=true):=fun e=>DU Z (by rw[e.1];rfl);refine AP 3 21 22 true Z ?_;refine AP 3 21 23 true Z ?_;refine aA (ED Z) ?_;refine aA yQ ?_;refine dR ?_;exact O (false,_) _ _ _ ⟨fun h=>(by cases h),fun _=>a1⟩ ⟨rfl,by first|rfl|exact zD (fun b=>some (aZ b)) (by assumption),trivial⟩ rfl rfl
 refine Cj.sr (aA yP ?_);refine aA (JQ rfl rfl rfl) ?_;refine J.cd (fun a3=>?_) (fun a3=>?_)
 ·have ad:=BH a3;obtain⟨k,rfl,_,aa⟩:∃k:Nat,n=k∧k≤s.length∧s.takeWhile aO=s.take k:=hn.elim (fun h=>absurd (BH a3) (by rw[h.1];decide)) id;refine aF (aA yP ?_);refine aA yP ?_;refine aA (EC (p:=0) (q:=k) rfl rfl BU rfl ⟨_,rfl⟩ oM oM) ?_;refine aP 11 rfl (show _=str (s.takeWhile aO) from(by rw[aa,dU])) ?_;refine aA yQ ?_;refine dR ?_;exact O _ _ _ _ trivial rT rfl rfl
 have ad:=BJ a3;have aa:s.takeWhile aO=s:=hn.elim (fun h=>h.2) (fun⟨k,h,_⟩=>absurd (BJ a3) (by rw[h];simp));refine Cj.skip ?_;exact O _ _ _ _ trivial ⟨(zD (fun l=>some (str l)) aa.symm),trivial⟩ rfl rfl
end Go.Proofs.YtdjkhllhakhjbaaGreatDoor
namespace Ke
abbrev Row:=List Bs
def pg (s:Bs):Bool→Row→Row
 |true,[]=>[]
 |false,[]=>[s]
 |d,x::r=>if s<x∧d=false then s::x::pg s true r else x::pg s d r
def put (l:Row) (s:Bs):Row:=if s∈l then l else pg s false l
def Inc (l:Row):Prop:=l.Pairwise (· <·)
theorem a1O s:∀l,pg s true l=l
 |[]=>rfl
 |x::r=>by unfold pg;rw[zF sI,a1O s r]
theorem b1m s:∀(l:Row) (x:Bs),x∈pg s false l↔x=s∨x∈l
 |[],x=>by simp[pg]
 |y::r,x=>by
  unfold pg
  by_cases h:s<y
  ·rw[zG ⟨h,rfl⟩,a1O];simp
  rw[zF (fun e=>h e.1),bQ,b1m s r x,bQ];constructor
  ·rintro(h|h|h)<;>simp[h]
  rintro(h|h|h)<;>simp[h]
theorem c1K{a b:Bs}(h:¬b<a)(G:a≠b):a<b:=by
 have N:a≤b:=iJ.1 h;rcases Decidable.em (a<b)with A|A
 ·exact A
 exact absurd (List.le_antisymm N (iJ.1 A)) G
theorem b8e s:∀{l:Row},Inc l→s ∉ l→Inc (pg s false l)
 |[],_,_=>by simp[pg,Inc]
 |y::r,hl,hn=>by
  have A:=dB.1 hl;unfold pg
  by_cases h:s<y
  ·rw[zG ⟨h,rfl⟩,a1O];refine dB.2 ⟨fun z hz=>?_,hl⟩;rcases bQ.1 hz with rfl|hz
   ·exact h
   exact jA h (A.1 z hz)
  rw[zF (fun e=>h e.1)];refine dB.2 ⟨fun z hz=>?_,b8e s A.2 fun e=>hn (.tail _ e)⟩;rcases(b1m s r z).1 hz with rfl|hz
  ·exact c1K h fun e=>hn (e▸ .head _)
  exact A.1 z hz
theorem put_mem l s x:x∈put l s↔x=s∨x∈l:=by
 unfold put
 split
 ·rename_i h
  exact⟨.inr,fun e=>e.elim (fun e=>e▸h) id⟩
 exact b1m s l x
theorem c2j{l} s (h:Inc l):Inc (put l s):=by
 unfold put
 split
 ·exact h
 rename_i hn;exact b8e s h hn
theorem a6a:∀(xs:Row) {l:Row},Inc l→Inc (xs.foldl put l)
 |[],_,h=>h
 |x::r,_,h=>a6a r (c2j x h)
theorem a5O:∀(xs l:Row) (x:Bs),x∈xs.foldl put l↔x∈xs∨x∈l
 |[],_,_=>sI
 |y::r,l,x=>by
  rw[List.foldl_cons,a5O r,put_mem,bQ];constructor
  ·rintro(h|h|h)<;>simp[h]
  rintro((h|h)|h)<;>simp[h]
theorem a6U:∀{a b:Row},Inc a→Inc b→(∀x,x∈a↔x∈b)→a=b
 |[],[],_,_,_=>rfl
 |[],y::_,_,_,h=>absurd ((h y).2 (.head _)) sI
 |x::_,[],_,_,h=>absurd ((h x).1 (.head _)) sI
 |x::r,y::t,ha,hb,h=>by
  have A:=dB.1 ha;have G:=dB.1 hb;have O:x=y:=by
   rcases bQ.1 ((h x).1 (.head _))with e|e
   ·exact e
   rcases bQ.1 ((h y).2 (.head _))with N|N
   ·exact N.symm
   exact absurd (jA (G.1 x e) (A.1 y N)) (gI _)
  subst O;rw[a6U A.2 G.2 fun z=>⟨fun hz=>?_,fun hz=>?_⟩]
  ·rcases bQ.1 ((h z).1 (.tail _ hz))with rfl|e
   ·exact absurd (A.1 z hz) (gI _)
   exact e
  rcases bQ.1 ((h z).2 (.tail _ hz))with rfl|e
  ·exact absurd (G.1 z hz) (gI _)
  exact e
open Go.Lib in
theorem SB(d:Array Bs)(hs:∀i j,i<j→j<d.size→d[i]! ≤d[j]!):∀m,m≤d.size→Inc (compactUpTo d m)∧∀x,x∈compactUpTo d m↔∃j,j<m∧x=d[j]!
 |0,_=>⟨iH,fun x=>by simp[compactUpTo]⟩
 |m+1,hm=>by
  obtain⟨Q,N⟩:=SB d hs m oM;rw[compactUpTo_succ]
  by_cases hk:keeps d m=true
  ·rw[zG hk];refine⟨List.pairwise_append.2 ⟨Q,List.pairwise_singleton _ _,fun a ha b hb=>?_⟩,fun x=>?_⟩
   ·rw[fE.1 hb];obtain⟨j,G,rfl⟩:=(N a).1 ha;have A:m=0∨d[m]! ≠d[m-1]! :=zA hk;have Z:=A.resolve_left oM;have h3:d[m-1]! ≤d[m]! :=hs _ _ oM oM;have h4:d[m-1]! <d[m]! :=c1K (iJ.2 h3) Z.symm;rcases bI j (m-1)with h|h
    ·have O:d[j]! ≤d[m-1]! :=hs _ _ h oM;exact List.lt_of_le_of_lt O h4
    have:j=m-1:=oM;rw[this];exact h4
   rw[iT,N,fE];constructor
   ·rintro(⟨j,G,rfl⟩|rfl)
    ·exact⟨j,oM,rfl⟩
    exact⟨m,oM,rfl⟩
   rintro⟨j,G,rfl⟩;rcases bI j m with h|h
   ·exact .inl ⟨j,h,rfl⟩
   have:j=m:=oM;exact .inr (by rw[this])
  rw[zF hk,bJ];refine⟨Q,fun x=>(N x).trans ⟨fun⟨j,G,e⟩=>⟨j,oM,e⟩,fun⟨j,G,e⟩=>?_⟩⟩;rcases bI j m with h|h
  ·exact⟨j,h,e⟩
  have A:¬(m=0∨d[m]! ≠d[m-1]!):=fun e=>hk (zI e);have a0:j=m:=oM;subst a0;have O:d[j]! =d[j-1]! :=Decidable.not_not.1 fun e=>A (.inr e);have h6:j≠0:=fun e=>A (.inl e);exact⟨j-1,oM,e.trans O⟩
theorem XU(l:Row):gJ (l.mergeSort fun x y=>decide (x≤y))=l.foldl put []:=by
 have hp:(l.mergeSort fun x y=>decide (x≤y)).Pairwise (fun a b=>decide (a≤b)=true):=
  List.pairwise_mergeSort (le:=fun x y:Bs=>decide (x≤y)) (fun a b c h1 G=>zI (List.le_trans (zA h1) (zA G))) (fun a b=>by
   rcases List.le_total a b with h|h<;>simp[h]) l
 have O:=SB (l.mergeSort fun x y=>decide (x≤y)).toArray (fun i j N A=>by
  have Q:j<(l.mergeSort fun x y=>decide (x≤y)).length:=by simpa using A
  have Z:i<(l.mergeSort fun x y=>decide (x≤y)).toArray.size:=Nat.lt_trans N A;rw[getElem!_pos _ i Z,getElem!_pos _ j A];simp only[List.getElem_toArray];exact zA (List.pairwise_iff_getElem.1 hp i j oM Q N)) _ (Nat.le_refl _)
 refine a6U ?_ (a6a l iH) fun x=>?_
 ·unfold gJ;simpa using O.1
 have G:=O.2 x;simp only[List.size_toArray]at G;unfold gJ;rw[G,a5O];have hm:x∈l↔x∈l.mergeSort fun x y=>decide (x≤y):=List.mem_mergeSort.symm;rw[show(x∈l∨x∈[])=(x∈l) by simp,hm,List.mem_iff_getElem];constructor
 ·rintro⟨j,A,rfl⟩;refine⟨j,A,?_⟩;rw[getElem!_pos _ j (by simpa using A)];simp
 rintro⟨j,A,rfl⟩;refine⟨j,A,?_⟩;rw[getElem!_pos _ j (by simpa using A)];simp
structure Sub where
  code:UInt8
  text:Bs
structure KG where
  tag:Bs
  ind:Bs
  data:Bs
  sv:Go.Value
  subs:List Sub
def zf:KG:=⟨[],[],[],.slice none 0 0,[]⟩
def find (fs:List KG) (tag:Bs):Option KG:=fs.find? fun f=>decide (f.tag=tag)
def first(fs:List KG) (tag:Bs):KG:=(find fs tag).getD zf
def texts (f:KG) (codes:Bs):Row:=(f.subs.filter fun s=>codes.contains s.code).map (·.text)
def textOf (f:KG) (codes:Bs):Bs:=join (texts f codes)
def skip (f:KG):Nat:=match f.ind[1]? with
 |some c=>if digit c then c.toNat-48 else 0
 |none=>0
def title (fs:List KG):Bs:=JK (textOf (first fs [50,52,53]) [97,98]) (skip (first fs [50,52,53]))
def b4d:Bs:=[105,115,98,110,32]
def book (s:Sub):Option Bs:=if (YB s.text).2=true∧s.code=97 then some (b4d++(YB s.text).1)else none
def books (f:KG):Row:=if f.tag=[48,50,48]then f.subs.filterMap book else[]
def SN (fs:List KG):Row:=if title fs=[]then[]else[[116,105,116,108,101,32]++title fs++[32,47,32]++((words (textOf (first fs [49,48,48]) [97])).head?.getD [])]
def raw (fs:List KG):Row:=fs.flatMap books++SN fs
def all (fs:List KG):Row:=(raw fs).foldl put []
end Ke
namespace Go.Proofs.YtdjkhllhakhjbaaGreatDoor
open _root_.Go.Proofs.Tryz
open Go Go.Sx
def b2f (s:Ke.Sub):List Value:=[u8 s.code,str s.text]
def XH (f:Ke.KG):List Value:=[str f.tag,str f.ind,str f.data,f.sv]
theorem a2i s:(b2f s).length=2:=rfl
theorem XR f:(XH f).length=4:=rfl
def QS (I:Heap) (fs:List Ke.KG) (v:Value):Prop:=zN XH I fs v∧∀f∈fs,zN b2f I f.subs f.sv
theorem QS.mono{I G fs v}(h:QS I fs v)(A:Le I G):QS G fs v:=⟨h.1.mono A,fun f hf=>(h.2 f hf).mono A⟩
def b0I (k l:UInt8) (v:Value):Value:= .agg #[u8 k,u8 l,v]
def IU (ss:List Ke.Sub):Nat:=(ss.map (·.text.length)).sum
def FOK (fs:List Ke.KG):Prop:=fs.length≤2000000∧∀f∈fs,f.subs.length≤2000000∧IU f.subs≤3000000∧f.ind.length≤2000000
theorem b8n{fs tag}(h:∀f∈fs,f.tag≠tag):Ke.find fs tag=none:=List.find?_eq_none.2 fun f hf=>by simp[h f hf]
theorem b7V{fs tag k f}(h:∀g∈fs.take k,g.tag≠tag)(hf:fs[k]?=some f)(G:f.tag=tag):Ke.find fs tag=some f:=by
 obtain⟨_,hg⟩:=aB.1 hf;unfold Ke.find;rw[List.find?_eq_some_iff_append];refine⟨zI G,fs.take k,fs.drop (k+1),?_,fun g A=>by simp[h g A]⟩;rw[←hg,List.getElem_cons_drop,List.take_append_drop]
def foundAt (fs:List Ke.KG) (tag:List UInt8) (n:Int):Prop:=(n= -1∧Ke.find fs tag=none)∨∃(k:Nat) (f:Ke.KG),n=k∧fs[k]?=some f∧Ke.find fs tag=some f
theorem b7i{fs:List Ke.KG}{tag k f}(h:∀g∈fs.take k,g.tag≠tag)(hf:fs[k]?=some f)(N:f.tag≠tag):∀g∈fs.take (k+1),g.tag≠tag:=fun g hg=>by
 obtain⟨A,G⟩:=aB.1 hf;rw[aN A,iT,fE]at hg;rcases hg with hg|rfl
 ·exact h g hg
 rw[G];exact N
theorem TK{base sz n xs ys g}(h:BM base sz n xs g)(A:ys.length=xs.length):BM base sz n ys g:=by
 cases g with
 |none=>
  obtain⟨G,N⟩:=h;exact⟨G,List.length_eq_zero_iff.1 (by rw[A,N];rfl)⟩
 |some q=>
  obtain⟨b,c,sp⟩:=q;obtain⟨G,N,O⟩:=h;exact⟨G,by rw[A];exact N,by rw[A];exact O⟩
theorem c1w f tb tag I (h:I tb=some (yZ 9 [str tag])):Pure aG 125 [.agg (XH f).toArray,ptr tb 0] I (.bool (f.tag == tag)):=by
 refine yS.ob func125 ?_;intro w0 _;refine Cj.sr (aK rfl (BG ?_));intro _ _;refine aA yQ ?_;refine J.yX (aA (qq2 (off':=0) OX zS) ?_);refine aA (yV BR (yR.at 0 rfl)) ?_;refine aA (yV BR (iV h)) ?_;refine aA IW ?_;refine aA yQ ?_;refine J.ns (aT (fM ?_));refine zM ?_;exact rT
theorem a9I fs v (a4:fs.length≤2000000) tb tag I (hr:QS I fs v)(a0:I tb=some (yZ 9 [str tag])):yS aG 124 [v,.func (.func 125) #[] #[ptr tb 0]] I []
 (fun e I' H'=>∃n,e= .returned (i64 n)∧foundAt fs tag n∧H'=[]):=by
 obtain⟨⟨p,c,rfl,_,hp⟩,_⟩:=hr;refine yS.ob func124 ?_;intro w0 _;refine Cj.sr (aA yQ ?_);refine J.zX (aF (aA yP ?_));refine aA (zZ ZQ) ?_;refine aA yP ?_;refine J.ns (aS (fK (ι:=Nat) (fun j=>j≤fs.length∧∀g∈fs.take j,g.tag≠tag) (fun j=>fs.length-j) (fun j=>[(0,.slice p fs.length c),(1,.func (.func 125) #[] #[ptr tb 0]),(7,i64 (fs.length:Int)),(8,i64 (j:Int))]) (fun j=>I) (fun j=>[]) 0 ⟨aV _,fun g hg=>by simp at hg⟩ rT rfl rfl ?_));rintro j ⟨_,h⟩;refine Cj.sr (aA AV ?_);refine J.nss (bF rfl (fun G=>?_) (fun G=>?_))
 ·have Z:=BH G;have Q:j<fs.length:=oM;obtain⟨f,A⟩:∃f,fs[j]?=some f:=⟨_,DC Q⟩;obtain⟨_,fo,_,_,_,sp,rfl,a1,a2⟩:=hp (zT Q);refine Cj.ks (cZ (aS (Cj.sr (aA yP ?_))));refine aA yQ ?_;refine J.yX (aA yP ?_);refine aA yP ?_;refine aA yP ?_;refine aA (AU (off':=fo+j*4) ZQ JO) ?_;refine aA (FN QT JO (iV a1) (DN XR a2 A)) ?_;refine aK rfl (yU rfl rfl rfl rfl rfl (c1w f tb tag _ a0) ?_);refine J.cd (fun N=>?_) (fun N=>?_)
  ·have ht:f.tag=tag:=DF N;refine Cj.sr (aA yP ?_);refine aA yQ ?_;refine J.ns (aT (bU (eF (iO (bU (eF (zM ?_)))))));exact⟨_,rfl,.inr ⟨j,f,rfl,A,b7V h A ht⟩,rfl⟩
  have a3:f.tag≠tag:=DU N;refine Cj.kb (aF (aA (yY rfl rfl rfl (zV oM)) ?_));refine aA yP ?_;refine dR (dW (j+1) ⟨oM,b7i h A a3⟩ oM rT rfl rfl)
 have Z:=BJ G;have O:fs.take j=fs:=aX oM;rw[O]at h;refine Cj.xl (Cj.sr (aA yQ ?_));refine J.ns (aT (zM ?_));exact⟨_,rfl,.inl ⟨rfl,b8n h⟩,rfl⟩
theorem a0y{f p n c}(h:f.sv= .slice p n c):(XH f).all Value.oneCell'=true:=by
 unfold XH;rw[h];rfl
def tx (codes:List UInt8) (ss:List Ke.Sub):List (List UInt8):=(ss.filter fun s=>codes.contains s.code).map (·.text)
theorem c2i{codes}{ss:List Ke.Sub}{k s}(h:ss[k]?=some s):tx codes (ss.take (k+1))=tx codes (ss.take k)++(if codes.contains s.code then[s.text]else[]):=by
 obtain⟨A,hg⟩:=aB.1 h;unfold tx;rw[aN A,hg,List.filter_append,cO]
 by_cases hc:codes.contains s.code=true
 ·rw[zG hc,List.filter_cons_of_pos (p:=fun s:Ke.Sub=>codes.contains s.code) hc];rfl
 rw[zF hc,List.filter_cons_of_neg (p:=fun s:Ke.Sub=>codes.contains s.code) hc];rfl
theorem b0M codes ss:(tx codes ss).length≤ss.length:=by
 unfold tx;rw[bZ];exact eG _ _
theorem VH:∀l:List (List UInt8),(dY l).length≤(l.map List.length).sum+l.length
 |[]=>by simp[dY]
 |[a]=>by simp[dY]
 |a::b::r=>by
  have:=VH (b::r);simp only[dY,aU,gU,gW,fO,List.length_nil]at this ⊢;omega
theorem b8G codes:∀ss:List Ke.Sub,((tx codes ss).map List.length).sum≤IU ss
 |[]=>by simp[tx]
 |s::r=>by
  have:=b8G codes r;unfold tx IU at this ⊢;rw[List.filter_cons]
  split
  ·simp only[gU,gW];omega
  simp only[gU,gW];omega
theorem WR f codes:(Ke.textOf f codes).length≤IU f.subs+f.subs.length:=by
 have h:=VH (tx codes f.subs);have A:=b8G codes f.subs;have G:=b0M codes f.subs;have:Ke.textOf f codes=dY (tx codes f.subs):=rfl;rw[this];omega
theorem a1a l c:decide (0≤aY l c)=l.contains c:=by
 induction l with
 |nil=>rfl
 |cons d r A=>
  rw[aY,List.contains_cons];simp only[beq_iff_eq]
  by_cases h:d=c
  ·subst h;simp
  rw[zF h,show(c == d)=false from beq_eq_false_iff_ne.2 (Ne.symm h),Bool.false_or,←A]
  by_cases h0:aY r c<0
  ·have:¬0≤aY r c:=oM;rw[zJ this];exact zJ (by split<;>omega)
  have:0≤aY r c:=oM;rw[zI this];exact zI (by split<;>omega)
theorem b4n fs v rk rl tag codes (ac:FOK fs) I (hr:QS I fs v):yS aG 88 [b0I rk rl v,str tag,str codes] I []
 (fun e I' H'=>e= .returned (.tuple #[str (Ke.textOf (Ke.first fs tag) codes),.agg (XH (Ke.first fs tag)).toArray])∧H'=[]):=by
 have ap:=ac.1;refine yS.ob func88 ?_;intro w0 _;refine Cj.sr (aK rfl (BG ?_));intro b1 _;refine aK rfl (BG ?_);intro b2 aq;refine aA yQ ?_;refine aK rfl (CU a0r ?_);intro b3 _;refine J.nss (Cj.pull (iL iD) ?_);refine Cj.persist aq (fun _ ah a2=>?_);have hr:=hr.mono ah;refine aF (aA (qq2 (off':=2) a3x a2M) ?_);refine aA (yV isAgg47 (yR.at 1 rfl)) ?_;refine aA (DY rfl rfl rfl) ?_;refine aK rfl (yT (H1:=[]) rfl rfl rfl rfl rfl (a9I fs v ap b2 tag _ hr a2) ?_ (fun _ _ _ _ ⟨_,h,_⟩=>by cases h) (fun _ _ ⟨_,h,_⟩=>by cases h));intro _ _ _ a5 ar;have hr:=hr.mono a5;have a2:=a5 _ _ a2;obtain⟨n,h,hn,rfl⟩:=ar;cases h;refine aA yQ ?_;refine J.zX (aF (aA yP ?_));refine aA AV ?_;refine J.cd (fun a0=>?_) (fun a0=>?_)
 ·have ai:=BH a0;have a6:=BH a0;have Q:Ke.find fs tag=none:=(hn.resolve_right (fun⟨k,f,h,_⟩=>by rw[h]at a6;omega)).2;refine Cj.sr (aA (BD (pl:= #[(0,1),(1,1),(2,1),(3,1)]) rfl rfl a0r rfl OX (fun w=>by simp[zS,sizeOf90]) KP.none) ?_);refine aA yQ ?_;refine aK rfl (AB 0 JO (bT (bT (bT (bT fU)))) dV ?_);refine J.ns (Cj.rs ?_);have N:Ke.first fs tag=Ke.zf:=by unfold Ke.first;rw[Q];rfl
  rw[N];refine Ej.c1B (bY (bY Keeps.n)) rfl rfl rfl (yR.at 0 rfl) QT JO rfl rfl ?_;exact rT
 have ai:=BJ a0;have a6:=BJ a0;obtain⟨k,f,rfl,Z,Q⟩:=hn.resolve_left (fun h=>a6 (by rw[h.1];decide));have ad:=FQ Z;have aj:=(aB.1 Z).1;have ak:=hr.2 f ad;have b0:=ac.2 f ad;obtain⟨⟨p,c,rfl,_,hp⟩,-⟩:=hr;obtain⟨fb,fo,_,_,_,sp,rfl,a3,ae⟩:=hp (zT aj);obtain⟨p2,c2,af,_,au⟩:=ak;refine Cj.ks (Cj.sr (aA yQ ?_));refine J.zX (aF (aA (qq2 (off':=2) a3x a2M) ?_));refine aA (yV isAgg47 (yR.at 1 rfl)) ?_;refine aA yP ?_;refine aA (AU (off':=fo+k*4) ZQ JO) ?_;refine aA (qq2 (off':=fo+k*4+3) OX sizeOf90) ?_;refine aA (II rfl rfl isAgg90 (iV a3) (JB XR ae Z 3 dE)) ?_;refine aP 24 rfl (show _= .slice p2 f.subs.length c2 from af) ?_;refine aA (zZ a1D) ?_;refine aA yP ?_;refine J.ns (aS (fK (ι:=Nat×Gs) (fun j=>j.1≤f.subs.length∧BM w0.heap.size 1 (tx codes (f.subs.take j.1)).length ((tx codes (f.subs.take j.1)).map str) j.2) (fun j=>f.subs.length-j.1) (fun j=>[(2,str codes),(3,ptr b1 0),(7,ptr b3 0),(8,i64 (k:Int)),(9,gV (tx codes (f.subs.take j.1)).length j.2),(24,.slice p2 f.subs.length c2),(25,i64 (f.subs.length:Int)),(26,i64 (j.1:Int))]) (fun j=>_) (fun j=>(b3,yZ 92 (XH Ke.zf))::(b1,yZ 49 [u8 rk,u8 rl,.slice (some ⟨fb,fo,none⟩) fs.length c])::gH 9 ((tx codes (f.subs.take j.1)).map str) j.2) (0,none) ⟨aV _,rfl,rfl⟩ rT rfl rfl ?_));rintro⟨j,g⟩ ⟨hj,hg⟩;dsimp only at hj hg ⊢;have av:=b0M codes (f.subs.take j);rw[bC,dP hj]at av;refine Cj.sr (aA AV ?_);refine J.nss (bF rfl (fun a1=>?_) (fun a1=>?_))
 ·have a9:=BH a1;have ag:j<f.subs.length:=oM;obtain⟨sb,a4⟩:∃x,f.subs[j]?=some x:=⟨_,DC ag⟩;obtain⟨_,so,_,_,_,_,rfl,al,aw⟩:=au (zT ag);have G:=c2i (codes:=codes) a4;refine Cj.ks (cZ (aS (Cj.sr (aA (AU (off':=so+j*2) a1D WI) ?_))));refine aA (FN isAgg89 WI (iV al) (DN a2i aw a4)) ?_;refine aK rfl (CU a4g ?_);intro _ _;refine aK rfl (AB 0 WI (bT (bT fU)) dV ?_);refine J.yX (aA yP ?_);refine aA (qq2 (off':=0) a0z VN) ?_;refine aA (yV tA5 (yR.at 0 rfl)) ?_;refine aK rfl (yU rfl rfl rfl rfl rfl (a0P _ _ _) ?_);refine aA (JQ rfl rfl rfl) ?_;refine J.cd (fun O=>?_) (fun O=>?_)
  ·have aa:=BH O;have a7:codes.contains sb.code=true:=(a1a _ _).symm.trans O;rw[zG a7]at G;refine aF (aA yP ?_);refine aA (qq2 (off':=1) a0z zS) ?_;refine aA (yV BR (yR.at 0 rfl)) ?_;refine aK rfl (BQ AO zS JY (dD rfl dZ) ?_);intro _ _;refine aK rfl (BI (by':=15) [_,_,_,_] rfl rfl rfl rfl rfl AO (.inr ⟨_,AO⟩) kR zS JY rfl hg rfl (iC (yR.at 0 rfl) rfl rfl rfl) oM ?_);intro ax am;refine aA yQ ?_;refine J.nb (aF (aA (yY rfl rfl rfl (zV oM)) ?_));refine aA yP ?_;refine dR (dK (bY (bY (dS (dS fZ)))) ?_);refine dW (j+1,ax) ⟨dO,by dsimp only;rw[G,cO,aU];exact am⟩ dO ⟨rfl,rfl,rfl,rfl,by dsimp only;rw[G,aU];rfl,rfl,rfl,rfl,trivial⟩ rfl (by dsimp only;rw[G,cO];rfl)
  have aa:=BJ O;have a7:¬codes.contains sb.code=true:=fun e=>aJ (e.symm.trans ((a1a _ _).symm.trans O));rw[zF a7]at G;refine Cj.kb (aF (aA (yY rfl rfl rfl (zV oM)) ?_));refine aA yP ?_;refine dR (dK (bY (dS (dS fZ))) ?_);refine dW (j+1,g) ⟨dO,by dsimp only;rw[G,bJ];exact hg⟩ dO ⟨rfl,rfl,rfl,rfl,by dsimp only;rw[G,bJ];rfl,rfl,rfl,rfl,trivial⟩ rfl (by dsimp only;rw[G,bJ])
 have a9:=BJ a1;refine Cj.xl (cZ ?_);have ab:f.subs.take j=f.subs:=aX oM;rw[ab]at hg ⊢;have az:=WR f codes;refine Cj.perm (H':=gH _ _ _++[_,_]) gB ?_;refine Cj.ZY hg (fun _ an hv=>?_);have a3:=an _ _ a3;refine fH [1] [] 9 kR ?_;have ay:=a2;have a8:=a3;refine eX ⟨(jF 1 rfl jG),jH,(iW _)⟩ (fun A=>?_);refine aI 0 rfl A yP ?_;refine aI 2 rfl A (qq2 (off':=2) a3x a2M) ?_;refine aI 3 rfl A (yV isAgg47 (yR.ZU 0 rfl)) ?_;refine aI 4 rfl A yP ?_;refine aI 5 rfl A (AU (off':=fo+k*4) ZQ JO) ?_;refine aI 6 rfl A (FN QT JO (yR.WH a8) (DN XR ae Z)) ?_;refine zO 1 rfl (yU rfl rfl rfl rfl rfl (a4E (tx codes f.subs) _ (by have:=b0M codes f.subs;omega) (by have e:dY (tx codes f.subs)=Ke.textOf f codes:=rfl;rw[e];omega) _ hv) ?_);refine⟨⟨(iW _),(jF 1 rfl jG),jH⟩,?_⟩;refine eX ⟨(jF 1 rfl jG),jH,(iW _)⟩ (fun ao=>?_);refine aI 7 rfl ao yQ ?_;refine zO 8 rfl (EN 0 rfl rfl rfl rfl rfl (a0y af) JO rfl rfl (bT (bT (bT (bT fU)))) dV ?_);refine⟨⟨(iW _),(jF 1 rfl jG),jH⟩,?_⟩;refine AA ?_;refine fC (aT ?_);have N:Ke.first fs tag=f:=by unfold Ke.first;rw[Q];rfl
 rw[N];refine Ej.c1B (bY (bY Keeps.n)) rfl rfl rfl (yR.at 0 rfl) QT JO rfl rfl ?_;exact rT
theorem b2g fs tag:Ke.first fs tag=Ke.zf∨Ke.first fs tag∈fs:=by
 unfold Ke.first;cases h:Ke.find fs tag with
 |none=>exact .inl rfl
 |some f=>exact .inr (List.mem_of_find?_eq_some h)
theorem b0U{I fs v} tag (h:QS I fs v):∃p n c,(Ke.first fs tag).sv= .slice p n c:=by
 rcases b2g fs tag with e|e
 ·rw[e];exact⟨_,_,_,rfl⟩
 obtain⟨p,c,A,_⟩:=h.2 _ e;exact⟨p,_,c,A⟩
theorem a5E{fs} tag (h:FOK fs):(Ke.first fs tag).subs.length≤2000000∧IU (Ke.first fs tag).subs≤3000000∧(Ke.first fs tag).ind.length≤2000000:=by
 rcases b2g fs tag with e|e
 ·rw[e];exact⟨aV _,aV _,aV _⟩
 exact h.2 _ e
theorem c4f{l:List UInt8}{c}(h:l[1]?=some c):(l.take 2).drop 1=[c]:=by
 obtain⟨_,hg⟩:=aB.1 h;rw[List.drop_take,drop_cons h];rfl
theorem b3U{f c}(h:f.ind[1]?=some c):Ke.skip f=if aQ [c]=true then c.toNat-48 else 0:=by
 unfold Ke.skip;rw[h];simp[aQ]
theorem b3T{f}(h:¬1<f.ind.length):Ke.skip f=0:=by
 unfold Ke.skip;rw[List.getElem?_eq_none oM]
theorem c0N fs v rk rl (Z:FOK fs) I (hr:QS I fs v):Pure aG 87 [b0I rk rl v] I (str (Ke.title fs)):=by
 refine eU ?_;have a3:=a5E [50,52,53] Z;have a4:=WR (Ke.first fs [50,52,53]) [97,98];obtain⟨p,n,c0,a1⟩:=b0U [50,52,53] hr;refine yS.ob func87 ?_;intro w0 _;refine Cj.sr (aK rfl (BG ?_));intro _ _;refine aA yQ ?_;refine J.yX (aA (zW isAgg49 UU (yR.at 0 rfl)) ?_);refine aK rfl (yT (H1:=[]) rfl rfl rfl rfl rfl (b4n fs v rk rl [50,52,53] [97,98] Z _ hr) ?_ (fun _ _ _ _ h=>by cases h.1) (fun _ _ h=>by cases h.1));intro _ _ _ a0 a2;have hr:=hr.mono a0;obtain⟨h,rfl⟩:=a2;cases h;refine aA yP ?_;refine aA AZ ?_;refine aA AZ ?_;refine aK rfl (CU a0r ?_);intro _ _;refine aA yQ ?_;refine aK rfl (EN 0 rfl rfl rfl rfl rfl (a0y a1) JO rfl rfl (bT (bT (bT (bT fU)))) dV ?_);refine J.yX (aA yQ ?_);refine J.zX (aF (aA (qq2 (off':=1) OX zS) ?_));refine aA (yV BR (yR.at 0 rfl)) ?_;refine aA (CG rfl rfl BU) ?_;refine aA (NV rfl rfl rfl) ?_;refine aA yP ?_;refine J.split 15 rfl (fun A=>?_) (fun A=>?_)
 rotate_left
 ·have O:¬1<(Ke.first fs [50,52,53]).ind.length:=by have h:=BJ A;omega
  refine AP 4 15 16 true A ?_;refine AP 4 15 17 true A ?_;refine AP 4 15 18 true A ?_;refine AP 4 15 19 true A ?_;refine aA (ED A) ?_;refine J.c0 (fun _=>?_);refine Cj.ks (Cj.sr (aA yP ?_));refine aA yP ?_;refine aK rfl (yU rfl rfl rfl rfl rfl (VQ (Ke.textOf (Ke.first fs [50,52,53]) [97,98]) _ oM _) ?_);refine aA yQ ?_;refine J.ns (aT (fM ?_));refine zM ?_;have N:=b3T O;unfold Ke.title;rw[N];exact rT
 have O:1<(Ke.first fs [50,52,53]).ind.length:=by have h:=BH A;omega
 obtain⟨c,G⟩:∃c,(Ke.first fs [50,52,53]).ind[1]?=some c:=⟨_,DC O⟩;refine zU 4 15 true A (zK (qq2 (off':=1) OX zS) ?_);refine zU 4 15 true A (zK (yV BR (yR.at 0 rfl)) ?_);refine iM 4 15 true _ rfl rfl rfl A (JR (EC (p:=1) (q:=2) rfl rfl BU ⟨_,rfl⟩ ⟨_,rfl⟩ oM oM) rfl rfl ?_);refine aP 18 rfl (show _=str [c] from(by rw[c4f G])) ?_;refine iM 4 15 true _ rfl rfl rfl A (yU rfl rfl rfl rfl rfl (YR [c] sI _) ?_);refine aA (EO A) ?_;refine J.cd (fun Q=>?_) (fun Q=>?_)
 ·have hd:aQ [c]=true:=Q;have a5:=a8z (k:=0) hd rfl;refine aF (aA (qq2 (off':=1) OX zS) ?_);refine aA (yV BR (yR.at 0 rfl)) ?_;refine aA (GK rfl rfl rfl BU oM G) ?_;refine aA (EP rfl rfl rfl (w8 oM)) ?_;refine aA (NZ rfl rfl XL tU3) ?_;refine aP 25 rfl (show _=i64 ((c.toNat-48:Nat):Int) from(zD i64 ((zV oM).trans oM))) ?_;refine aA yQ ?_;refine J.yX (aA yP ?_);refine aA yP ?_;refine aK rfl (yU rfl rfl rfl rfl rfl (VQ (Ke.textOf (Ke.first fs [50,52,53]) [97,98]) _ oM _) ?_);refine aA yQ ?_;refine J.ns (aT (fM ?_));refine zM ?_;have N:=(b3U G).trans (zG hd);unfold Ke.title;rw[N];exact rT
 have hd:¬aQ [c]=true:=fun e=>aJ (e.symm.trans Q);refine Cj.ks (Cj.sr (aA yP ?_));refine aA yP ?_;refine aK rfl (yU rfl rfl rfl rfl rfl (VQ (Ke.textOf (Ke.first fs [50,52,53]) [97,98]) _ oM _) ?_);refine aA yQ ?_;refine J.ns (aT (fM ?_));refine zM ?_;have N:=(b3U G).trans (zF hd);unfold Ke.title;rw[N];exact rT
