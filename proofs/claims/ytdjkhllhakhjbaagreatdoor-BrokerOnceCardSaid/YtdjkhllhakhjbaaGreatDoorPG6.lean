/-
  Own texts on the laws of the seat, joined: the logic, and contracts of functions. Conditions: none.
-/
import Derived.Test.YtdjkhllhakhjbaaGreatDoorNmG
import Derived.Test.YtdjkhllhakhjbaaGreatDoorPG5
import Derived.Sort.Walk0
import Derived.Deep.Draws
import Derived.Shelf.SlGeneric
import Derived.Shelf.SlLaysF0
import Derived.Ground.SlsfProg
import Derived.Shelf.GgSortFunc.InsertionK
import Derived.Shelf.SlSortCmp.WholeK
import Derived.Shelf.SlSortCmp.NoneTotal
set_option linter.all false
set_option maxRecDepth 100000
set_option maxHeartbeats 40000000
open Go.Sx.Le renaming trans -> aA,refl -> aO
open Go.Sx.J renaming z -> aB,op -> aQ,nil -> gI,eqv -> gJ
open Go.Lib renaming compareInt -> aC,compact -> bT,compareBytes -> gZ
open Go.Sx.HSub renaming c -> aF,n -> aS
open Go.Proofs.Tryz renaming prog -> aG,ntmps25 -> iV,func308 -> iZ
open List renaming length_append -> aH,append_nil -> aI,mem_cons -> aK,length_mergeSort -> aN,getElem?_eq_getElem -> aV,pairwise_cons -> aW,mem_singleton -> bD,map_append -> bF,cons_lt_cons_iff -> bH,length_eq_zero_iff -> bK,append_assoc -> bM,getElem?_append_left -> bV,size_toArray -> dA,take_succ_eq_append_getElem -> dD,length_take -> dF,perm_append_comm -> dH,getElem?_append_right -> dP,flatMap_cons -> dR,getElem?_eq_some_iff -> dW,mem_of_find?_eq_some -> dX,length_filterMap_le -> eP,nil_sublist -> eY,take_of_length_le -> fE,flatMap_append -> fU,not_lt -> gW,length_cons -> gX,not_mem_nil -> iC,length_map -> iD,find?_some -> iH,replicate -> iI
open Go.Sx.JA renaming tk -> aJ,fix -> fA,pull -> iL
open Ke renaming raw -> aP,first -> bI,textOf -> bY,books -> dL,XU -> dS,book -> dZ,YB -> eF,title -> eU,words -> gY,SN -> iO,all -> iR
open Go.Sx.CSub renaming n -> aT
open Go.Sx.Cj renaming region -> aU,ret -> bQ,skip -> cO,block -> eX,seq -> fF,JD -> fO,exit -> gG,keep -> iK
open Go.Sx.yR renaming ZU -> aX
open Go.Sx.Ej renaming seq -> aY,FM -> dK,bare -> fH,JM -> fK,round -> fM,JE -> iG,keep -> iJ,a1R -> iP
open Option renaming toList -> aZ,map_some -> fD
open Array renaming getElem?_eq_none -> bC,getElem?_append_left -> dQ,getElem?_modify -> fJ,toArray_toList -> fQ,ext_getElem? -> fZ,extract_size -> gB
open Go.Sx.Keeps renaming d -> bG,r -> dM,k -> eG
open Go.Sx.IC renaming one -> bJ,none -> dG
open Go.Proofs.SlLaysF0 renaming n6 -> bP
open Nat renaming zero_le -> bU,lt_or_ge -> dJ,min_eq_left -> fC
open Go.Sx.Enters renaming of -> bW
open Go.Sx.EW renaming c -> bZ,z -> iF
open Go.Sort renaming ahead -> cZ,grow -> dI
open Go.Proofs renaming bytesLess_eq -> dB
open Go.Value renaming oneCell' -> dN
open List.Pairwise renaming nil -> dU
open Bool renaming eq_false_iff -> dV
open Go.Proofs.AnyF renaming slices_SortFunc_none -> dY
open Go.Sx.Pure renaming of_same -> eH
open Go.Shelf renaming Ren -> fB
open Go.Sx.DZ renaming z -> fG
open Go.Proofs.AnyQ renaming slices_SortFunc -> fP
open Go.Sx.Src renaming slice -> fV
open Go.Instr renaming sliceBounds -> gK,sliceAt -> iQ,slice -> jA
open Go.Op renaming stringOp -> gQ
open Go.World renaming cell? -> gU
open UInt8 renaming toNat_inj -> iE,not_lt -> iY
open List.Perm renaming refl -> iM
open Go.Sx.OU renaming keep -> iT,a5M -> iU
open Go.Sx.Pull renaming z -> iW
namespace Go.Proofs.YtdjkhllhakhjbaaGreatDoor
open _root_.Go.Proofs.Tryz
open Go Go.Sx
theorem a5U{base}(l:List (List UInt8)) g (hg:BM base 1 l.length (l.map str) g)(hl:l.length≤100000000000000) I:yS aG 90 [gV l.length g] I (gH 9 (l.map str) g)
 (fun e Z H'=>e= .returned (.tuple #[])∧H'=gH 9 ((l.mergeSort fun x y=>decide (x≤y)).map str) g):=by
 cases g with
 |none=>
  obtain⟨A,N⟩:=a8i hg;subst A;exact(eH (bW func90 dE rfl) (fun w _=>Tryz.slices_Sort_string_none none 0 w)).mono fun e Z H' _ ⟨A,_,h3⟩=>⟨A,h3⟩
 |some q=>
  obtain⟨b,c,sp⟩:=q;refine⟨bW func90 dE rfl,fun w O=>?_⟩;have G:=O.2.1 _ (.head _);have Q:b<w.heap.size:=by
   rcases dJ b w.heap.size with h|h
   ·exact h
   rw[bC h]at G;cases G
  exact(Tryz.slices_Sort_string b 0 c l w (a9m G) Q oM).mono fun e w' ⟨A,n,os,N⟩=>⟨I,_,N▸St.row n os O sI,A,rfl⟩
theorem a1z{base} l g (hg:BM base 1 l.length (l.map str) g)(hl:l.length≤100000000000000) I:yS aG 91 [gV l.length g] I (gH 9 (l.map str) g)
 (fun e Q H'=>∃G,BM base 1 (bT l).length ((bT l).map str) G∧e= .returned (gV (bT l).length G)∧H'=gH 9 ((bT l).map str) G):=by
 cases g with
 |none=>
  obtain⟨h,N⟩:=a8i hg;subst h;exact(eH (bW func91 dE rfl) (fun w _=>Tryz.slices_Compact_string_empty none 0 w)).mono fun e Q H' _ ⟨h,_,A⟩=>⟨none,⟨rfl,rfl⟩,h,A⟩
 |some q=>
  obtain⟨b,c,sp⟩:=q;obtain⟨Z,g2,g3⟩:=hg;rw[iD]at g2 g3;have a0:=Lib.compact_length_le l;refine⟨bW func91 dE rfl,fun w O=>?_⟩;refine(Tryz.slices_Compact_string b 0 c l w (a9m (O.2.1 _ (.head _))) oM oM).mono fun e w' ⟨h,n,N⟩=>?_;have A:=St.row (l':=bT l++iI (l.length-(bT l).length) []) n #[] O (by simp;omega);rw[Go.Sort.grow_empty,←N,bF,bM]at A;refine⟨I,_,A,some (b,c,(iI (l.length-(bT l).length) []).map str++sp),⟨Z,sI,by simp;omega⟩,h,rfl⟩
theorem b4l{α:Type}(l:List α)(x:α):(l++[x]).length=l.length+1:=sI
def NR (l:List Ke.KG):List (List UInt8):=l.flatMap dL
theorem b7q{fs:List Ke.KG}{k f}(h:fs[k]?=some f):NR (fs.take (k+1))=NR (fs.take k)++dL f:=by
 obtain⟨A,hg⟩:=dW.1 h;unfold NR;rw[dD A,hg,fU];simp
def bk (l:List Ke.Sub):List (List UInt8):=l.filterMap dZ
theorem c2P{ss:List Ke.Sub}{k s}(h:ss[k]?=some s):bk (ss.take (k+1))=bk (ss.take k)++(dZ s).toList:=by
 obtain⟨A,hg⟩:=dW.1 h;unfold bk;rw[dD A,hg,List.filterMap_append];cases hb:dZ s<;>simp[hb]
theorem c4t l:(bk l).length≤l.length:=eP _ _
theorem b7S f:(dL f).length≤f.subs.length:=by
 unfold dL;split
 ·exact eP _ _
 exact bU _
theorem a5V:∀{l:List Ke.KG},(∀f∈l,f.subs.length≤2000000)→(NR l).length≤2000000*l.length
 |[],_=>bU _
 |f::r,h=>by
  have G:=b7S f;have N:=h f (.head _);have A:=a5V fun g hg=>h g (.tail _ hg);unfold NR at A ⊢;simp only[dR,aH,gX];omega
theorem c2W{ss s}(h:s∈ss):s.text.length≤IU ss:=by
 induction ss with
 |nil=>cases h
 |cons t r A=>
  unfold IU at A ⊢;rw[List.map_cons,List.sum_cons];rcases aK.1 h with rfl|h
  ·omega
  have:=A h;omega
theorem b7H s:(eF s).1.length≤s.length+13:=by
 have h:=b2c s;unfold eF Ke.a9M
 split
 ·simp;omega
 split
 ·exact KT h (Nat.le_add_right _ _)
 exact bU _
theorem b6I{s}(h:(eF s.text).2=true)(A:((s.code.toNat:Int) == 97)=true):dZ s=some (Ke.b4d++(eF s.text).1):=by
 have G:(s.code.toNat:Int)=97:=DF A;exact zG ⟨h,iE.1 (by rw[show(97:UInt8).toNat=97 from rfl];omega)⟩
theorem a8x{s}(h:((eF s.text).2 && ((s.code.toNat:Int) == 97))=false):dZ s=none:=by
 refine zF fun⟨A,G⟩=>?_;rw[A,G]at h;exact absurd h dE
theorem c2g{l:List (List UInt8)}{x:List UInt8}(h:l[0]?=some x):l=x::l.tail:=by
 cases l with
 |nil=>simp at h
 |cons a r=>simp at h;subst h;rfl
theorem b8d{fs}(h:FOK fs):(eU fs).length≤100000000:=by
 have A:=a5E [50,52,53] h;have G:=WR (bI fs [50,52,53]) [97,98];have N:=Ke.a5P (Ke.cut (bY (bI fs [50,52,53]) [97,98]) (Ke.skip (bI fs [50,52,53]):Int));have O:(Ke.cut (bY (bI fs [50,52,53]) [97,98]) (Ke.skip (bI fs [50,52,53]):Int)).length≤(bY (bI fs [50,52,53]) [97,98]).length:=by unfold Ke.cut;simp
 unfold eU Ke.JK;omega
theorem c4X fs v rk rl (a0:FOK fs) I (hr:QS I fs v):yS aG 55 [b0I rk rl v] I [] (fun e I' H'=>∃w,e= .returned w∧KA 9 I' (iR fs) w∧H'=[]):=by
 have bl:=a0.1;obtain⟨p,c,rfl,_,hp⟩:=id hr.1;have bm:=b8d a0;have bn:=a5E [49,48,48] a0;have bj:=WR (bI fs [49,48,48]) [97];obtain⟨p1,_,c1,aw⟩:=b0U [49,48,48] hr;refine yS.XY func55 rfl dE (Nat.le_of_ble_eq_true rfl) ?_;intro w0 _;refine Cj.sr (aQ rfl (BG ?_));intro b1 _;refine aB yQ ?_;refine J.yX (aB yQ ?_);refine J.zX (aU (aB (qq2 (off':=2) a3x a2M) ?_));refine aB (yV isAgg47 (yR.at 0 rfl)) ?_;refine aB (zZ ZQ) ?_;refine aB yP ?_;refine J.ns (eX (Cj.loop (ι:=Nat×Gs) (fun j=>j.1≤fs.length∧BM w0.heap.size 1 (NR (fs.take j.1)).length ((NR (fs.take j.1)).map str) j.2) (fun j=>fs.length-j.1) (fun j=>[(1,ptr b1 0),(3,gV (NR (fs.take j.1)).length j.2),(16,.slice p fs.length c),(17,i64 (fs.length:Int)),(18,i64 (j.1:Int))]) (fun j=>_) (fun j=>(b1,yZ 49 [u8 rk,u8 rl,.slice p fs.length c])::gH 9 ((NR (fs.take j.1)).map str) j.2) (0,none) ⟨bU _,rfl,rfl⟩ rT rfl rfl ?_));rintro⟨j,g⟩ ⟨hj,hg⟩;dsimp only at hj hg ⊢;have b8:=a5V (l:=fs.take j) fun f hf=>(a0.2 f (List.mem_of_mem_take hf)).1;rw[dF,fC hj]at b8;refine Cj.sr (aB AV ?_);refine J.nss (Cj.cond rfl (fun ae=>?_) (fun ae=>?_))
 ·have ax:=BH ae;have ap:j<fs.length:=oM;obtain⟨f,ac⟩:∃f,fs[j]?=some f:=⟨_,DC ap⟩;have a3:=b7q ac;have aq:=FQ ac;have bo:=a0.2 f aq;obtain⟨p2,c2,ar,ae,b9⟩:=hr.2 f aq;obtain⟨fb,fo,_,_,_,sp,rfl,ba,bb⟩:=hp (zT ap);refine cO (aY (fF (eX (Cj.sr (aB (AU (off':=fo+j*4) ZQ JO) ?_)))));refine aB (FN QT JO (yR.PL ba) (DN XR bb ac)) ?_;refine aQ rfl (CU a0r ?_);intro _ _;refine aQ rfl (EN 0 rfl rfl rfl rfl rfl (a0y ar) JO rfl rfl (bZ (bZ (bZ (bZ iF)))) fG ?_);refine J.zX (aU (aB (qq2 (off':=0) OX zS) ?_));refine aB (yV BR (yR.at 0 rfl)) ?_;refine aB (KC rfl rfl rfl) ?_;refine J.cd (fun a8=>?_) (fun a8=>?_)
  ·have ay:=bne_iff_ne.1 a8;have af:dL f=[]:=zF (bne_iff_ne.1 a8);refine gG (iG (fK (aY (aU (aB (yY rfl rfl rfl (zV oM)) ?_)))));refine aB yP ?_;refine gI (iJ (bG (eG dM)) ?_);refine fM (j+1,g) ⟨dO,by dsimp only;rw[a3,af,aI];exact hg⟩ dO ⟨rfl,by dsimp only;rw[a3,af,aI];rfl,rfl,rfl,rfl,trivial⟩ rfl (by dsimp only;rw[a3,af,aI])
  have ay:=DI a8;have bc:f.tag=[48,50,48]:=by have h:=a8;simpa using h
  refine cO (aY (Cj.sr (aB (qq2 (off':=3) OX sizeOf90) ?_)));refine aB (yV isAgg90 (yR.at 0 rfl)) ?_;refine gJ 26 rfl (show _= .slice p2 f.subs.length c2 from ar) ?_;refine aB (zZ a1D) ?_;refine aB yP ?_;refine J.ns (eX (iK (bG (eG dM)) ?_));refine Cj.loop (ι:=Nat×Gs) (fun k=>k.1≤f.subs.length∧BM w0.heap.size 1 (NR (fs.take j)++bk (f.subs.take k.1)).length ((NR (fs.take j)++bk (f.subs.take k.1)).map str) k.2) (fun k=>f.subs.length-k.1) (fun k=>[(1,ptr b1 0),(3,gV (NR (fs.take j)++bk (f.subs.take k.1)).length k.2),(16,.slice (some ⟨fb,fo,none⟩) fs.length c),(17,i64 (fs.length:Int)),(18,i64 (j:Int)),(26,.slice p2 f.subs.length c2),(27,i64 (f.subs.length:Int)),(28,i64 (k.1:Int))]) (fun k=>_) (fun k=>(b1,yZ 49 [u8 rk,u8 rl,.slice (some ⟨fb,fo,none⟩) fs.length c])::gH 9 ((NR (fs.take j)++bk (f.subs.take k.1)).map str) k.2) (0,g) ⟨bU _,by rw[show bk (f.subs.take 0)=[] from rfl,aI];exact hg⟩ ⟨rfl,by rw[show bk (f.subs.take 0)=[] from rfl,aI];rfl,rfl,rfl,rfl,rfl,rfl,rfl,trivial⟩ rfl (by rw[show bk (f.subs.take 0)=[] from rfl,aI]) ?_;rintro⟨k,h⟩ ⟨hk,hh⟩;dsimp only at hk hh ⊢;have bd:=c4t (f.subs.take k);rw[dF,fC hk]at bd;have bp:(NR (fs.take j)++bk (f.subs.take k)).length=(NR (fs.take j)).length+(bk (f.subs.take k)).length:=aH;refine Cj.sr (aB AV ?_);refine J.nss (Cj.cond rfl (fun ag=>?_) (fun ag=>?_))
  ·have az:=BH ag;have ah:k<f.subs.length:=oM;obtain⟨x,a6⟩:∃x,f.subs[k]?=some x:=⟨_,DC ah⟩;obtain⟨_,so,_,_,_,_,rfl,b0,be⟩:=b9 (zT ah);have O:=c2P a6;have bf:=c2W (FQ a6);have bq:=b7H x.text;refine cO (aY (fF (eX (Cj.sr (aB (AU (off':=so+k*2) a1D WI) ?_)))));refine aB (FN isAgg89 WI (yR.PL b0) (DN a2i be a6)) ?_;refine aQ rfl (CU a4g ?_);intro _ _;refine aQ rfl (AB 0 WI (bZ (bZ iF)) fG ?_);refine J.yX (aB (qq2 (off':=1) a0z zS) ?_);refine aB (yV BR (yR.at 0 rfl)) ?_;refine aQ rfl (yU rfl rfl rfl rfl rfl (a7w x.text oM _) ?_);refine aB yP ?_;refine aB AZ ?_;refine aB AZ ?_;refine aB yQ ?_;refine aB yQ ?_;refine J.yX (aB yP ?_);refine aB yP ?_;refine J.split 39 rfl (fun G=>?_) (fun G=>?_)
   rotate_left
   ·have hi:(eF x.text).2=false:=G;have N:dZ x=none:=a8x (by rw[hi];rfl);refine AP 1 39 40 true G ?_;refine AP 1 39 41 true G ?_;refine AP 1 39 42 true G ?_;refine aB (ED G) ?_;refine J.c0 (fun _=>?_);refine cO (dK (aY (aU (aB (yY rfl rfl rfl (zV oM)) ?_))));refine aB yP ?_;refine gI (iJ (bG (eG dM)) ?_);refine fM (k+1,h) ⟨dO,by dsimp only;rw[O,N,aZ,aI];exact hh⟩ dO ⟨rfl,by dsimp only;rw[O,N,aZ,aI];rfl,rfl,rfl,rfl,rfl,rfl,rfl,trivial⟩ rfl (by dsimp only;rw[O,N,aZ,aI])
   have hi:(eF x.text).2=true:=G;refine zU 1 39 true G (zK (qq2 (off':=0) a0z VN) ?_);refine zU 1 39 true G (zK (yV tA5 (yR.at 0 rfl)) ?_);refine zU 1 39 true G (zK DW ?_);refine aB (EO G) ?_;refine J.cd (fun a9=>?_) (fun a9=>?_)
   ·have hc8p:=DF a9;have N:=b6I hi a9;refine aU (aB yP ?_);refine aB yP ?_;refine aB (OB rfl rfl rfl (by first|omega|(simp only[aH];omega)|(simp;omega))) ?_;refine aQ rfl (BQ AO zS JY (bJ rfl dG) ?_);intro _ _;refine aQ rfl (BI (by':=15) [_,_,_] rfl rfl rfl rfl rfl AO (.inr ⟨_,AO⟩) kR zS JY rfl hh rfl (fV (yR.at 0 rfl) rfl rfl rfl) oM ?_);intro bg b2;refine aB yQ ?_;refine gI (dK (aY (aU (aB (yY rfl rfl rfl (zV oM)) ?_))));refine aB yP ?_;refine gI (iJ (bG (bG (eG dM))) ?_);refine fM (k+1,bg) ⟨dO,by dsimp only;rw[O,N,aZ,←bM,bF,b4l];exact b2⟩ dO ⟨rfl,by dsimp only;rw[O,N,aZ,←bM,b4l];rfl,rfl,rfl,rfl,rfl,rfl,rfl,trivial⟩ rfl (by dsimp only;rw[O,N,aZ,←bM,bF];rfl)
   have hc8p:=DU a9;have N:dZ x=none:=a8x (by rw[hi];exact a9);refine cO (dK (aY (aU (aB (yY rfl rfl rfl (zV oM)) ?_))));refine aB yP ?_;refine gI (iJ (bG (eG dM)) ?_);refine fM (k+1,h) ⟨dO,by dsimp only;rw[O,N,aZ,aI];exact hh⟩ dO ⟨rfl,by dsimp only;rw[O,N,aZ,aI];rfl,rfl,rfl,rfl,rfl,rfl,rfl,trivial⟩ rfl (by dsimp only;rw[O,N,aZ,aI])
  have az:=BJ ag;have bh:f.subs.take k=f.subs:=fE oM;have ai:NR (fs.take j)++dL f=NR (fs.take j)++bk (f.subs.take k):=by rw[bh];unfold dL;rw[zG bc];rfl
  refine gG (iG (Ej.IB (fK (dK (aY (aU (aB (yY rfl rfl rfl (zV oM)) ?_)))))));refine aB yP ?_;refine gI (fM (j+1,h) ⟨dO,by dsimp only;rw[a3,ai];exact hh⟩ dO ⟨rfl,by dsimp only;rw[a3,ai];rfl,rfl,rfl,rfl,trivial⟩ rfl (by dsimp only;rw[a3,ai]))
 have ax:=BJ ae;have a7:fs.take j=fs:=fE oM;refine gG (iG (Ej.IB (fK (aY (fF (Cj.sr (aB (zW isAgg49 UU (yR.at 0 rfl)) ?_)))))));refine aQ rfl (yU rfl rfl rfl rfl rfl (c0N fs _ rk rl a0 _ hr) ?_);refine aB yQ ?_;refine J.yX (aB yP ?_);refine aB (KC rfl rfl rfl) ?_;refine J.cd (fun a1=>?_) (fun a1=>?_)
 ·have am:=bne_iff_ne.1 a1;have hT:eU fs≠[]:=bne_iff_ne.1 a1;refine Cj.sr (aB (zW isAgg49 UU (yR.at 0 rfl)) ?_);refine aQ rfl (yT (H1:=[]) rfl rfl rfl rfl rfl (b4n fs _ rk rl [49,48,48] [97] a0 _ hr) ?_ (fun _ _ _ _ h=>by cases h.1) (fun _ _ h=>by cases h.1));intro _ _ _ an b3;have hr:=hr.mono an;obtain⟨h,rfl⟩:=b3;cases h;refine aB yP ?_;refine aB AZ ?_;refine aB AZ ?_;refine aQ rfl (CU a0r ?_);intro _ _;refine aB yQ ?_;refine aQ rfl (EN 0 rfl rfl rfl rfl rfl (a0y aw) JO rfl rfl (bZ (bZ (bZ (bZ iF)))) fG ?_);refine J.yX (aQ rfl (CU JY ?_));intro au _;refine aQ rfl (AB 0 zS (bZ iF) fG ?_);refine J.zX (aU (aB yP ?_));refine aQ rfl (EX rfl rfl rfl rfl rfl (a5r (bY (bI fs [49,48,48]) [97]) _) ?_ (fun _ _ _ _ ⟨_,h,_⟩=>by cases h) (fun _ _ ⟨_,h,_⟩=>by cases h));intro _ _ _ ao b4 b5;have hr:=hr.mono ao;obtain⟨sb,h,rfl⟩:=b5;cases h;refine J.persist (b4 _ (.head _)) (fun I9 ad a2=>?_);refine J.ns (eX (Cj.rangeFunc (ps:=[62]) (H1:=[_]) (R:=(_::_::gH _ _ _)) ((gY (bY (bI fs [49,48,48]) [97])).map fun w=>[str w]) (fun k I' H'=>k=0∧H'=[(au,yZ 9 [str []])]) (fun cc I' H'=>cc= .exit 4∧∃x r,gY (bY (bI fs [49,48,48]) [97])=x::r∧H'=[(au,yZ 9 [str x])]) rfl (a1Y rfl) (seq1 _ _) rfl (a3u sb _ oM _ a2) (fun _ _ _ _ _ h=>h) rT ?_ ?_ ?_))
  ·intro l r k args _ _ _ hk aa hY;have a2:=aa _ _ a2;obtain⟨x,hx,rfl⟩:=a7z hk;obtain⟨rfl,rfl⟩:=hY;refine aU (aB yQ ?_);refine gI (Ej.asg ?_);refine eX (Cj.sr (aB yP ?_));refine aQ rfl (AB 1 zS (bZ iF) (DZ.s fG) ?_);refine J.ns (gG (Ej.a6c rfl ?_));exact Ej.c4v ⟨rfl,x,_,c2g hx,rfl⟩
  ·intro _ I2 H2 aa hY;have a2:=aa _ _ a2;rw[iD]at hY;obtain⟨bi,rfl⟩:=hY;have aj:((gY (bY (bI fs [49,48,48]) [97])).head?.getD [])=[]:=by rw[bK.1 bi];rfl
   refine dK (aY (aU (aB yP ?_)));refine aB yP ?_;refine aB (OB rfl rfl rfl (by first|omega|(simp only[aH];omega)|(simp;omega))) ?_;refine aB (OB rfl rfl rfl (by first|omega|(simp only[aH];omega)|(simp;omega))) ?_;refine aB (yV BR (yR.at 1 rfl)) ?_;refine aB (OB rfl rfl rfl (by first|omega|(simp only[aH];omega)|(simp;omega))) ?_;refine aQ rfl (BQ AO zS JY (bJ rfl dG) ?_);intro _ _;refine aQ rfl (BI (by':=15) [_,_,_,_,_] rfl rfl rfl rfl rfl AO (.inr ⟨_,AO⟩) kR zS JY rfl hg rfl (fV (yR.at 0 rfl) rfl rfl rfl) oM ?_);intro a4 b6;refine aB yQ ?_;refine J.nss (iK (bG (eG (bG (bG (bG dM))))) ?_);refine Cj.perm (H':=gH _ _ _++[_]) dH ?_;have A:NR (fs.take j)++[[116,105,116,108,101,32]++eU fs++[32,47,32]++[]]=aP fs:=by unfold aP iO;rw[a7,zF hT,aj];rfl
   have Q:BM w0.heap.size 1 (aP fs).length ((aP fs).map str) a4:=by rw[←A,bF,aH];exact b6
   have Z:(aP fs).length≤100000000000000:=by rw[←A];simp;omega
   refine aU (aB yP ?_);refine gJ 72 rfl (show _=gV (aP fs).length a4 from(by rw[←A,aH];rfl)) ?_;rw[show gH 9 _ a4=gH 9 ((aP fs).map str) a4 from zD (fun l=>gH 9 l a4) (by rw[←A,bF];rfl)];refine aQ rfl (yT (H1:=gH _ _ _) rfl rfl rfl rfl rfl (a5U (aP fs) _ Q Z _) ?_ (fun _ _ _ _ h=>by cases h.1) (fun _ _ h=>by cases h.1));rintro v9 I9 H9 ad ⟨h,rfl⟩;cases h;refine J.yX (aB yP ?_);refine gJ 74 rfl (show _=gV ((aP fs).mergeSort fun x y=>decide (x≤y)).length a4 from(by rw[aN,←A,aH];rfl)) ?_;refine aQ rfl (yT (H1:=gH _ _ _) rfl rfl rfl rfl rfl (a1z ((aP fs).mergeSort fun x y=>decide (x≤y)) _ (by rw[aN];exact TK Q sI) (by rw[aN];exact Z) _) ?_ (fun _ _ _ _ h=>by obtain⟨_,_,h,_⟩:=h;cases h) (fun _ _ h=>by obtain⟨_,_,h,_⟩:=h;cases h));rintro v8 I8 H8 ak ⟨g2,ab,h,rfl⟩;cases h;refine J.ZY ab (fun I7 al hv=>?_);refine aB yQ ?_;refine J.ns (bQ (iP (.inl rfl) ?_));refine OU.mark 0 rfl fG ?_;refine iT (eY _) ?_;exact iU rfl rfl ⟨_,rfl,(by rw[show iR fs=_ from(dS _).symm];exact hv),rfl⟩
  intro _ cc I2 H2 aa hY;have a2:=aa _ _ a2;obtain⟨rfl,x,r,av,rfl⟩:=hY;have aj:((gY (bY (bI fs [49,48,48]) [97])).head?.getD [])=x:=by rw[av];rfl
  have bf:=Ke.ZW _ x (by rw[av];exact List.mem_cons_self);refine gG (fK (aY (aU (aB yP ?_))));refine aB yP ?_;refine aB (OB rfl rfl rfl (by first|omega|(simp only[aH];omega)|(simp;omega))) ?_;refine aB (OB rfl rfl rfl (by first|omega|(simp only[aH];omega)|(simp;omega))) ?_;refine aB (yV BR (yR.at 1 rfl)) ?_;refine aB (OB rfl rfl rfl (by first|omega|(simp only[aH];omega)|(simp;omega))) ?_;refine aQ rfl (BQ AO zS JY (bJ rfl dG) ?_);intro _ _;refine aQ rfl (BI (by':=15) [_,_,_,_,_] rfl rfl rfl rfl rfl AO (.inr ⟨_,AO⟩) kR zS JY rfl hg rfl (fV (yR.at 0 rfl) rfl rfl rfl) oM ?_);intro a5 b7;refine aB yQ ?_;refine J.nss (iK (bG (eG (bG (bG (bG dM))))) ?_);refine Cj.perm (H':=gH _ _ _++[_]) dH ?_;have A:NR (fs.take j)++[[116,105,116,108,101,32]++eU fs++[32,47,32]++x]=aP fs:=by unfold aP iO;rw[a7,zF hT,aj];rfl
  have Q:BM w0.heap.size 1 (aP fs).length ((aP fs).map str) a5:=by rw[←A,bF,aH];exact b7
  have Z:(aP fs).length≤100000000000000:=by rw[←A];simp;omega
  refine aU (aB yP ?_);refine gJ 72 rfl (show _=gV (aP fs).length a5 from(by rw[←A,aH];rfl)) ?_;rw[show gH 9 _ a5=gH 9 ((aP fs).map str) a5 from zD (fun l=>gH 9 l a5) (by rw[←A,bF];rfl)];refine aQ rfl (yT (H1:=gH _ _ _) rfl rfl rfl rfl rfl (a5U (aP fs) _ Q Z _) ?_ (fun _ _ _ _ h=>by cases h.1) (fun _ _ h=>by cases h.1));rintro v9 I9 H9 ad ⟨h,rfl⟩;cases h;refine J.yX (aB yP ?_);refine gJ 74 rfl (show _=gV ((aP fs).mergeSort fun x y=>decide (x≤y)).length a5 from(by rw[aN,←A,aH];rfl)) ?_;refine aQ rfl (yT (H1:=gH _ _ _) rfl rfl rfl rfl rfl (a1z ((aP fs).mergeSort fun x y=>decide (x≤y)) _ (by rw[aN];exact TK Q sI) (by rw[aN];exact Z) _) ?_ (fun _ _ _ _ h=>by obtain⟨_,_,h,_⟩:=h;cases h) (fun _ _ h=>by obtain⟨_,_,h,_⟩:=h;cases h));rintro v8 I8 H8 ak ⟨g2,ab,h,rfl⟩;cases h;refine J.ZY ab (fun I7 al hv=>?_);refine aB yQ ?_;refine J.ns (bQ (iP (.inl rfl) ?_));refine OU.mark 0 rfl fG ?_;refine iT (eY _) ?_;exact iU rfl rfl ⟨_,rfl,(by rw[show iR fs=_ from(dS _).symm];exact hv),rfl⟩
 have am:=DI a1;have hT:eU fs=[]:=by have h:=a1;simpa using h
 refine cO (aY (fF (iK (bG dM) ?_)));refine Cj.perm (H':=gH _ _ _++[]) (by rw[aI]) ?_;have A:NR (fs.take j)=aP fs:=by unfold aP iO;rw[a7,zG hT,aI];rfl
 have Q:BM w0.heap.size 1 (aP fs).length ((aP fs).map str) g:=by rw[←A];exact hg
 have Z:(aP fs).length≤100000000000000:=by rw[←A];omega
 refine aU (aB yP ?_);refine gJ 72 rfl (show _=gV (aP fs).length g from(by rw[←A])) ?_;rw[show gH 9 _ g=gH 9 ((aP fs).map str) g from zD (fun l=>gH 9 l g) (by rw[←A])];refine aQ rfl (yT (H1:=gH _ _ _) rfl rfl rfl rfl rfl (a5U (aP fs) _ Q Z _) ?_ (fun _ _ _ _ h=>by cases h.1) (fun _ _ h=>by cases h.1));rintro v9 I9 H9 ad ⟨h,rfl⟩;cases h;refine J.yX (aB yP ?_);refine gJ 74 rfl (show _=gV ((aP fs).mergeSort fun x y=>decide (x≤y)).length g from(by rw[aN,←A])) ?_;refine aQ rfl (yT (H1:=gH _ _ _) rfl rfl rfl rfl rfl (a1z ((aP fs).mergeSort fun x y=>decide (x≤y)) _ (by rw[aN];exact TK Q sI) (by rw[aN];exact Z) _) ?_ (fun _ _ _ _ h=>by obtain⟨_,_,h,_⟩:=h;cases h) (fun _ _ h=>by obtain⟨_,_,h,_⟩:=h;cases h));rintro v8 I8 H8 ak ⟨g2,ab,h,rfl⟩;cases h;refine J.ZY ab (fun I7 al hv=>?_);refine aB yQ ?_;refine J.ns (bQ (iP (.inl rfl) ?_));refine iT (eY _) ?_;exact iU rfl rfl ⟨_,rfl,(by rw[show iR fs=_ from(dS _).symm];exact hv),rfl⟩
end Go.Proofs.YtdjkhllhakhjbaaGreatDoor
namespace Go.Sx
open Go
@[reducible] def a7q:DR:=⟨true⟩
attribute [local instance] a7q
theorem yS.same{P f args I H v}(G:Enters P f)(h:∀w,Ready I H w→Calls P f args.toArray w fun e w'=>e= .returned v∧w'=w):yS P f args I H (fun e N H'=>e= .returned v∧N=I∧H'=H):=
 ⟨G,fun w A=>(h w A).mono fun _ w' ⟨O,Q⟩=>⟨I,H,by subst Q;exact St.start w' I H A.1 A.2.1 A.2.2.1 A.2.2.2,O,rfl,rfl⟩⟩
theorem yS.grows{P f args v}{A:Ending→Heap→HL→Prop}(h:yS P f args (fun _=>none) [] A)(G:∀e N H',A e N H'→e= .returned v) w:Calls P f args.toArray w fun e w'=>e= .returned v∧∃q O,w'=dI (w.drewN q) O:=
 have hr:Ready (fun _=>none) [] w:=by
  unfold Ready;exact⟨(fun b o hb=>by cases hb),(fun p G=>by cases G),dU,(fun p G=>by cases G)⟩
 (h.2 w hr).mono fun e w' ⟨N,H',hs,hq⟩=>⟨G e N H' hq,w'.drawn-w.drawn,w'.heap.extract w.heap.size w'.heap.size,by
  have Q:w'.heap=w.heap++w'.heap.extract w.heap.size w'.heap.size:=by
   apply fZ
   intro i;rw[Array.getElem?_append]
   split
   ·rename_i Z;exact hs.frm i Z sI
   rename_i Z
   rw[Array.getElem?_extract]
   split
   ·congr 1;omega
   rw[bC oM]
  have h1:=hs.os;have h2:=hs.tape;have h3:=hs.output;have h4:=hs.drw rfl;have h5:w.drawn+(w'.drawn-w.drawn)=w'.drawn:=oM;unfold dI World.drewN;rw[h5];cases w';cases w;simp only at h1 h2 h3 Q ⊢;subst h1 h2 h3;rw[←Q]⟩
end Go.Sx
namespace Go.Sx
open Go
section
variable {cx:Cx} {Q:Qt} {o:Oper} {e:Env} {I:Heap} {H:HL} {C:Ct} {S:World→Prop}
end
section
variable {cx:Cx} {Q:Qt} {o:Oper} {e:Env} {I:Heap} {H:HL} {C:Ct} {S:World→Prop}
theorem a3r{x y T U l m}(G:o.op= .binOp .lss T x y U)(N:ev e x=some (str l))(O:ev e y=some (str m)):CW cx o e S (.bool (decide (l<m))):=by
 intro a w A _;have h:=dB l m;simp[execOp,G,A.eval N,A.eval O,str,eqGuard_at_string,binOp,gQ,h]
theorem b6U{x y T U l m}(G:o.op= .binOp .geq T x y U)(N:ev e x=some (str l))(O:ev e y=some (str m)):CW cx o e S (.bool (!decide (l<m))):=by
 intro a w A _;have h:=dB l m;simp[execOp,G,A.eval N,A.eval O,str,eqGuard_at_string,binOp,gQ,h]
theorem a3h{x y T U l m}(G:o.op= .binOp .gtr T x y U)(N:ev e x=some (str l))(O:ev e y=some (str m)):CW cx o e S (.bool (!(decide (l<m) || l == m))):=by
 intro a w A _;have h:=dB l m;simp[execOp,G,A.eval N,A.eval O,str,eqGuard_at_string,binOp,gQ,h]
end
theorem Le.mono{I J K}(h:Le I J)(k:Le J K):Le I K:=h.trans k
theorem Ej.c4Q{h fn}{A:Ending→Heap→HL→Prop}{e I H H' t T b n}{cs:List Value}{ty fr}(hk:Keeps H' H)(hr:fn.results= #[.cell t T])(G:h.ds=[])(hv:eg e t=some (ptr b 0))
 (hb:yR (SS I H) b (.cells cs.toArray ty fr))(N:∀w,(isAgg T).run h.P w= .ok true w)(O:∀w,(sizeOf T).run h.P w= .ok n w)(hn:cs.length=n)(hp:A (.returned (.agg cs.toArray)) I H'):
 Ej h (bodyPost h.P fn (RR h.w0 h.D h.I0 A)) .ret e I H:=by
 intro a w Q hs;refine⟨Q.defs.trans G,_,?_,I,H',hs.sublist hk,hp⟩;have h1:=Q.get t _ hv;have hc:∀j v,cs[j]?=some v→w.cell? ((⟨b,0,none⟩:Addr).add j)=some v:=fun j v hj=>by
  rw[Addr.add_lit];exact cell_of_heap (hb w hs.ss) (by simpa using hj)
 have Z:=run_loadCells_list (P:=h.P) (w:=w) ⟨b,0,none⟩ cs hc;rw[hn]at Z;simp[results,hr,h1,asAddr,loadVar,N,O,Z]
end Go.Sx
namespace Go.Proofs.YtdjkhllhakhjbaaGreatDoor
open _root_.Go.Proofs.Tryz
open Go Go.Sx
attribute [local instance] a7q
def MH (r s:Int):Int:=if r≠0 then r else s
section
open Go.Shelf Go.RowKit Go.Lib
theorem c4E b h A w (O:w.cell? ⟨b,0,none⟩=some (.int .i64 h))(Q:w.cell? ⟨b,1,none⟩=some (.int .i64 A)):
 Calls aG 25 #[.slice (some ⟨b,0,none⟩) 2 2] w fun e w'=>e= .returned (.int .i64 (MH h A))∧w'=w:=by
 go_enter func25,iV
 go_wp2
 refine wp_loop_rounds 3 ?_;rw[rounds_succ]
 go_wp2
 ·have hr:(h != 0)=true:=by assumption
  have G:MH h A=h:=zG (by simpa using hr)
  go_ret
  exact⟨by rw[G];rfl,rfl⟩
 have hr:(h != 0)=false:=by assumption
 have G:MH h A=A:=zF (by simpa using hr);rw[rounds_succ]
 go_wp2
 ·go_ret
  exact⟨by rw[G];rfl,rfl⟩
 have hs:(A != 0)=false:=by assumption
 have N:A=0:=by simpa using hs
 rw[rounds_succ]
 go_wp2
 go_ret
 exact⟨by rw[G,N];rfl,rfl⟩
end
def MO (a b:List UInt8):Int:=if a<b then -1 else if b<a then 1 else 0
theorem b6F{a b:List UInt8}(h:¬a<b){t}(A:(!(decide (a<b) || a == b))=t):if t then b<a else ¬b<a:=by
 rw[zJ h,Bool.false_or]at A;subst A
 by_cases he:a=b
 ·subst he;simp
 have G:(a == b)=false:=by simpa using he
 rw[G];simp only[Bool.not_false,if_true];exact Std.lt_of_le_of_ne (Std.not_lt.1 h) (Ne.symm he)
theorem a6k b h A I:yS aG 25 [.slice (some ⟨b,0,none⟩) 2 2] I [(b,yZ 3 [i64 h,i64 A])] (fun e G H'=>e= .returned (i64 (MH h A))∧G=I∧H'=[(b,yZ 3 [i64 h,i64 A])]):=
 yS.same ⟨_,func25,dE,rfl⟩ fun w N=>by
  have O:=N.2.1 _ (.head _);refine c4E b h A w ?_ ?_<;>simp[gU,O,yZ]
theorem a1T x y I:yS aG 43 [i64 x,i64 y] I [] (fun e h H'=>e= .returned (i64 (aC x y))∧h=I∧H'=[]):=
 yS.same ⟨_,func43,dE,rfl⟩ fun w _=>Tryz.cmp_Compare_int x y w
theorem b3b x0 x1 y0 y1 I:yS aG 309 [.agg #[i64 x0,i64 x1],.agg #[i64 y0,i64 y1]] I [] (fun e _ H'=>e= .returned (i64 (MH (aC x0 y0) (aC x1 y1)))∧H'=[]):=by
 refine yS.ob func309 ?_;intro w0 _;refine Cj.sr (aQ rfl (BG ?_));intro _ _;refine aQ rfl (BG ?_);intro _ _;refine aB yQ ?_;refine J.nss (fO [0,1] [] 13 kR ?_);refine fA ⟨(aF 0 rfl (aF 1 rfl aS)),aT,(aO _)⟩ (fun A=>?_);refine aJ 0 rfl A (qq2 (off':=0) underlying34 sizeOf3) ?_;refine aJ 1 rfl A (yV isAgg3 (aX 1 rfl)) ?_;refine aJ 2 rfl A (qq2 (off':=0) underlying34 sizeOf3) ?_;refine aJ 3 rfl A (yV isAgg3 (aX 0 rfl)) ?_;refine aJ 5 rfl A (qq2 (off':=1) underlying34 sizeOf3) ?_;refine aJ 6 rfl A (yV isAgg3 (aX 1 rfl)) ?_;refine aJ 7 rfl A (qq2 (off':=1) underlying34 sizeOf3) ?_;refine aJ 8 rfl A (yV isAgg3 (aX 0 rfl)) ?_;refine zO 4 rfl (yT (H1:=[]) rfl rfl rfl rfl rfl (a1T x0 y0 _) ?_ (fun _ _ _ _ h=>by cases h.1) (fun _ _ h=>by cases h.1));intro _ _ _ N a1;obtain⟨h,rfl,rfl⟩:=a1;cases h;refine⟨⟨(aA (aO _) N),(aF 0 rfl (aF 1 rfl aS)),aT⟩,?_⟩;refine zO 9 rfl (yT (H1:=[]) rfl rfl rfl rfl rfl (a1T x1 y1 _) ?_ (fun _ _ _ _ h=>by cases h.1) (fun _ _ h=>by cases h.1));intro _ _ _ G Q;obtain⟨h,rfl,rfl⟩:=Q;cases h;refine⟨⟨(aA (aA (aO _) N) G),(aF 0 rfl (aF 1 rfl aS)),aT⟩,?_⟩;refine zO 10 rfl (BQ underlying35 sizeOf3 zeroValue3 (bJ rfl (bJ rfl dG)) ?_);intro _ _;refine⟨⟨(aA (aA (aO _) N) G),(aF 1 rfl (aF 2 rfl aS)),aT⟩,?_⟩;refine iL iW ?_;refine zO 11 rfl (yT (H1:=[_]) rfl rfl rfl rfl rfl (a6k _ (aC x0 y0) (aC x1 y1) _) ?_ (fun _ _ _ _ h=>by cases h.1) (fun _ _ h=>by cases h.1));intro _ _ _ O Z;obtain⟨h,rfl,rfl⟩:=Z;cases h;refine⟨⟨(aA (aA (aA (aO _) N) G) O),(aF 1 rfl (aF 2 rfl aS)),aT⟩,?_⟩;refine fA ⟨(aF 1 rfl (aF 2 rfl aS)),aT,(aA (aA (aA (aO _) N) G) O)⟩ (fun a0=>?_);refine aJ 12 rfl a0 yQ ?_;refine AA ?_;refine aY (bQ (fH ?_));refine zM ?_;exact rT
theorem a8w s I:yS aG 243 [str s] I [] (fun e h H'=>e= .returned (.bool false)∧h=I∧H'=[]):=by
 refine yS.ob func243 ?_;intro w0 _;refine Cj.sr (aB yQ ?_);refine J.yX (aB yP ?_);refine aB yP ?_;refine aB (KC rfl rfl rfl) ?_;refine aB yQ ?_;refine J.ns (bQ (zM ?_));exact⟨by rw[bne_self_eq_false],rfl,rfl⟩
theorem b2K a b I:yS aG 293 [str a,str b] I [] (fun e Z H'=>e= .returned (i64 (MO a b))∧Z=I∧H'=[]):=by
 refine yS.ob func293 ?_;intro w0 _;refine Cj.sr (aB yQ ?_);refine J.yX (aB yP ?_);refine aQ rfl (yT (H1:=[]) rfl rfl rfl rfl rfl (a8w a _) ?_ (fun _ _ _ _ h=>by cases h.1) (fun _ _ h=>by cases h.1));intro _ _ _ _ Q;obtain⟨h,rfl,rfl⟩:=Q;cases h;refine aB yQ ?_;refine J.yX (aB yP ?_);refine aQ rfl (yT (H1:=[]) rfl rfl rfl rfl rfl (a8w b _) ?_ (fun _ _ _ _ h=>by cases h.1) (fun _ _ h=>by cases h.1));intro _ _ _ _ O;obtain⟨h,rfl,rfl⟩:=O;cases h;refine aB yQ ?_;refine J.zX (aU (aB yP ?_));refine J.c0 (fun _=>?_);refine cO (aY (fF (Cj.sr (aB yP ?_))));refine J.c0 (fun _=>?_);refine cO (aY (fF (Cj.sr (aB yP ?_))));refine aB yP ?_;refine aB (a3r rfl rfl rfl) ?_;refine J.cd (fun G=>?_) (fun G=>?_)
 ·have A:=zA G;refine Cj.sr (aB yQ ?_);refine J.ns (bQ (Ej.KU (zM ?_)));rw[MO,zG A];exact rT
 have A:=zB G;refine cO (aY (fF (Cj.sr (aB yP ?_))));refine aB yP ?_;refine aB (a3h rfl rfl rfl) ?_;refine J.cd (fun N=>?_) (fun N=>?_)
 ·refine Cj.sr (aB yQ ?_);refine J.ns (bQ (Ej.KU (zM ?_)));rw[MO,zF A,zG (by have h:=b6F A N;simpa using h)];exact rT
 refine cO (aY (Cj.sr (aB yQ ?_)));refine J.ns (bQ (zM ?_));rw[MO,zF A,zF (by have h:=b6F A N;simpa using h)];exact rT
theorem b8v a b n m I:yS aG 292 [.agg #[str a,i64 n],.agg #[str b,i64 m]] I [] (fun e _ H'=>e= .returned (i64 (MO a b))∧H'=[]):=by
 refine yS.ob func292 ?_;intro w0 _;refine Cj.sr (aQ rfl (BG ?_));intro _ _;refine aQ rfl (BG ?_);intro _ _;refine aB yQ ?_;refine J.yX (aB (qq2 (off':=0) underlying41 sizeOf9) ?_);refine aB (yV isAgg9 (yR.at 1 rfl)) ?_;refine aB (qq2 (off':=0) underlying41 sizeOf9) ?_;refine aB (yV isAgg9 (yR.at 0 rfl)) ?_;refine aQ rfl (yT (H1:=[]) rfl rfl rfl rfl rfl (b2K a b _) ?_ (fun _ _ _ _ h=>by cases h.1) (fun _ _ h=>by cases h.1));intro _ _ _ _ A;obtain⟨h,rfl,rfl⟩:=A;cases h;refine aB yQ ?_;refine J.ns (bQ (fH ?_));refine zM ?_;exact rT
theorem b2S x0 x1 y0 y1 w:Calls aG 309 #[.agg #[i64 x0,i64 x1],.agg #[i64 y0,i64 y1]] w fun e w'=>e= .returned (i64 (MH (aC x0 y0) (aC x1 y1)))∧∃q A,w'=dI (w.drewN q) A:=
 yS.grows (b3b x0 x1 y0 y1 _) (fun _ _ _ h=>h.1) w
theorem c1x a b n m w:Calls aG 292 #[.agg #[str a,i64 n],.agg #[str b,i64 m]] w fun e w'=>e= .returned (i64 (MO a b))∧∃q A,w'=dI (w.drewN q) A:=
 yS.grows (b8v a b n m _) (fun _ _ _ h=>h.1) w
end Go.Proofs.YtdjkhllhakhjbaaGreatDoor
namespace Go.Proofs.YtdjkhllhakhjbaaGreatDoor
open _root_.Go.Proofs.Tryz
open Go Go.Sx
attribute [local instance] a7q
section
open Go.Shelf Go.RowKit Go.Lib
theorem c4H b G h A w (Z:w.cell? ⟨b,0,none⟩=some (.int .i64 G))(h1:w.cell? ⟨b,1,none⟩=some (.int .i64 h))(h2:w.cell? ⟨b,2,none⟩=some (.int .i64 A)):
 Calls aG 25 #[.slice (some ⟨b,0,none⟩) 3 3] w fun e w'=>e= .returned (.int .i64 (MH G (MH h A)))∧w'=w:=by
 go_enter func25,iV
 go_wp2
 refine wp_loop_rounds 4 ?_;rw[rounds_succ]
 go_wp2
 ·have hr:(G != 0)=true:=by assumption
  have N:MH G (MH h A)=G:=zG (by simpa using hr)
  go_ret
  exact⟨by rw[N];rfl,rfl⟩
 have hr:(G != 0)=false:=by assumption
 have N:MH G (MH h A)=MH h A:=zF (by simpa using hr);rw[rounds_succ]
 go_wp2
 ·have hs:(h != 0)=true:=by assumption
  have hd:MH h A=h:=zG (by simpa using hs)
  go_ret
  exact⟨by rw[N,hd];rfl,rfl⟩
 have hs:(h != 0)=false:=by assumption
 have hd:MH h A=A:=zF (by simpa using hs);rw[rounds_succ]
 go_wp2
 ·go_ret
  exact⟨by rw[N,hd];rfl,rfl⟩
 have Q:(A != 0)=false:=by assumption
 have O:A=0:=by simpa using Q
 rw[rounds_succ]
 go_wp2
 go_ret
 exact⟨by rw[N,hd,O];rfl,rfl⟩
end
theorem b8b b h A G I:yS aG 25 [.slice (some ⟨b,0,none⟩) 3 3] I [(b,yZ 3 [i64 h,i64 A,i64 G])] (fun e N H'=>e= .returned (i64 (MH h (MH A G)))∧N=I∧H'=[(b,yZ 3 [i64 h,i64 A,i64 G])]):=
 yS.same ⟨_,func25,dE,rfl⟩ fun w O=>by
  have Q:=O.2.1 _ (.head _);refine c4H b h A G w ?_ ?_ ?_<;>simp[gU,Q,yZ]
theorem a5m:∀a b:List UInt8,gZ a b=MO a b
 |[],[]=>rfl
 |[],_::_=>rfl
 |_::_,[]=>rfl
 |a::u,b::v=>by
  have N:=a5m u v;unfold gZ MO;rw[N];unfold MO
  by_cases h1:a<b
  ·rw[zG h1,zG (bH.2 (.inl h1))]
  rw[zF h1]
  by_cases h2:b<a
  ·have h:a≠b:=fun e=>by subst e;exact h1 h2
   rw[zG h2,zF (fun g=>(bH.1 g).elim h1 fun g=>h g.1),zG (bH.2 (.inl h2))]
  have O:a=b:=iE.1 (by have:=iY.1 h1;have:=iY.1 h2;rw[UInt8.le_iff_toNat_le]at *;omega);subst O;rw[zF h2];have A:(a::u<a::v)↔u<v:=by rw[bH];simp[h1]
  have G:(a::v<a::u)↔v<u:=by rw[bH];simp[h1]
  by_cases g1:u<v
  ·rw[zG g1,zG (A.2 g1)]
  rw[zF g1,zF (fun g=>g1 (A.1 g))]
  by_cases g2:v<u
  ·rw[zG g2,zG (G.2 g2)]
  rw[zF g2,zF (fun g=>g2 (G.1 g))]
theorem a7I a b I:yS aG 26 [str a,str b] I [] (fun e A H'=>e= .returned (i64 (MO a b))∧A=I∧H'=[]):=
 yS.same ⟨_,func26,dE,rfl⟩ fun w _=>by
  have h:=Tryz.strings_Compare ⟨a.toArray⟩ ⟨b.toArray⟩ w;rw[show(⟨a.toArray⟩:ByteArray).data.toList=a by simp,show(⟨b.toArray⟩:ByteArray).data.toList=b by simp,a5m]at h;exact h
theorem b9q a b x0 x1 y0 y1 I:yS aG 145 [.agg #[str a,i64 x0,i64 x1],.agg #[str b,i64 y0,i64 y1]] I [] (fun e _ H'=>e= .returned (i64 (MH (MO a b) (MH (aC x0 y0) (aC x1 y1))))∧H'=[]):=by
 refine yS.ob func145 ?_;intro w0 _;refine Cj.sr (aQ rfl (BG ?_));intro _ _;refine aQ rfl (BG ?_);intro _ _;refine aB yQ ?_;refine J.nss (fO [0,1] [] 22 kR ?_);refine fA ⟨(aF 0 rfl (aF 1 rfl aS)),aT,(aO _)⟩ (fun A=>?_);refine aJ 0 rfl A (qq2 (off':=0) underlying243 sizeOf9) ?_;refine aJ 1 rfl A (yV isAgg9 (aX 1 rfl)) ?_;refine aJ 2 rfl A (qq2 (off':=0) underlying243 sizeOf9) ?_;refine aJ 3 rfl A (yV isAgg9 (aX 0 rfl)) ?_;refine aJ 5 rfl A (qq2 (off':=1) underlying243 sizeOf34) ?_;refine aJ 6 rfl A (qq2 (off':=1) underlying34 sizeOf3) ?_;refine aJ 7 rfl A (yV isAgg3 (aX 1 rfl)) ?_;refine aJ 8 rfl A (qq2 (off':=1) underlying243 sizeOf34) ?_;refine aJ 9 rfl A (qq2 (off':=1) underlying34 sizeOf3) ?_;refine aJ 10 rfl A (yV isAgg3 (aX 0 rfl)) ?_;refine aJ 12 rfl A (qq2 (off':=1) underlying243 sizeOf34) ?_;refine aJ 13 rfl A (qq2 (off':=2) underlying34 sizeOf3) ?_;refine aJ 14 rfl A (yV isAgg3 (aX 1 rfl)) ?_;refine aJ 15 rfl A (qq2 (off':=1) underlying243 sizeOf34) ?_;refine aJ 16 rfl A (qq2 (off':=2) underlying34 sizeOf3) ?_;refine aJ 17 rfl A (yV isAgg3 (aX 0 rfl)) ?_;refine zO 4 rfl (yT (H1:=[]) rfl rfl rfl rfl rfl (a7I a b _) ?_ (fun _ _ _ _ h=>by cases h.1) (fun _ _ h=>by cases h.1));intro _ _ _ N a3;obtain⟨h,rfl,rfl⟩:=a3;cases h;refine⟨⟨(aA (aO _) N),(aF 0 rfl (aF 1 rfl aS)),aT⟩,?_⟩;refine zO 11 rfl (yT (H1:=[]) rfl rfl rfl rfl rfl (a1T x0 y0 _) ?_ (fun _ _ _ _ h=>by cases h.1) (fun _ _ h=>by cases h.1));intro _ _ _ G Z;obtain⟨h,rfl,rfl⟩:=Z;cases h;refine⟨⟨(aA (aA (aO _) N) G),(aF 0 rfl (aF 1 rfl aS)),aT⟩,?_⟩;refine zO 18 rfl (yT (H1:=[]) rfl rfl rfl rfl rfl (a1T x1 y1 _) ?_ (fun _ _ _ _ h=>by cases h.1) (fun _ _ h=>by cases h.1));intro _ _ _ O a0;obtain⟨h,rfl,rfl⟩:=a0;cases h;refine⟨⟨(aA (aA (aA (aO _) N) G) O),(aF 0 rfl (aF 1 rfl aS)),aT⟩,?_⟩;refine zO 19 rfl (BQ underlying35 sizeOf3 zeroValue3 (bJ rfl (bJ rfl (bJ rfl dG))) ?_);intro _ _;refine⟨⟨(aA (aA (aA (aO _) N) G) O),(aF 1 rfl (aF 2 rfl aS)),aT⟩,?_⟩;refine iL iW ?_;refine zO 20 rfl (yT (H1:=[_]) rfl rfl rfl rfl rfl (b8b _ (MO a b) (aC x0 y0) (aC x1 y1) _) ?_ (fun _ _ _ _ h=>by cases h.1) (fun _ _ h=>by cases h.1));intro _ _ _ Q a1;obtain⟨h,rfl,rfl⟩:=a1;cases h;refine⟨⟨(aA (aA (aA (aA (aO _) N) G) O) Q),(aF 1 rfl (aF 2 rfl aS)),aT⟩,?_⟩;refine fA ⟨(aF 1 rfl (aF 2 rfl aS)),aT,(aA (aA (aA (aA (aO _) N) G) O) Q)⟩ (fun a2=>?_);refine aJ 21 rfl a2 yQ ?_;refine AA ?_;refine aY (bQ (fH ?_));refine zM ?_;exact rT
theorem c1P a b x0 x1 y0 y1 w:Calls aG 145 #[.agg #[str a,i64 x0,i64 x1],.agg #[str b,i64 y0,i64 y1]] w fun e w'=>e= .returned (i64 (MH (MO a b) (MH (aC x0 y0) (aC x1 y1))))∧∃q A,w'=dI (w.drewN q) A:=
 yS.grows (b9q a b x0 x1 y0 y1 _) (fun _ _ _ h=>h.1) w
end Go.Proofs.YtdjkhllhakhjbaaGreatDoor
namespace Go.Proofs.YtdjkhllhakhjbaaGreatDoor
open _root_.Go.Proofs.Tryz
open Go Go.Sx
theorem yS.c5y{P f args I H}{A:Ending→Heap→HL→Prop}(h:@yS a7q P f args I H A):@yS c5s P f args I H A:=by
 refine⟨h.1,fun w G=>?_⟩;refine(h.2 w G).mono ?_;rintro e w' ⟨N,H',hs,O⟩;refine⟨N,H',?_,O⟩;obtain⟨Q,Z,a3,a4,a5,a6,a7,a8,a9,b1,b2,b3,_⟩:=hs;exact⟨Q,Z,a3,a4,a5,a6,a7,a8,a9,b1,b2,b3,fun h=>nomatch h⟩
attribute [local instance] a7q
theorem a4o x0 x1 y0 y1 I:yS aG 22 [.agg #[i64 x0,i64 x1],.agg #[i64 y0,i64 y1]] I [] (fun e _ H'=>e= .returned (i64 (MH (aC x0 y0) (aC x1 y1)))∧H'=[]):=by
 refine yS.ob func22 ?_;intro w0 _;refine Cj.sr (aQ rfl (BG ?_));intro _ _;refine aQ rfl (BG ?_);intro _ _;refine aB yQ ?_;refine J.nss (fO [0,1] [] 13 kR ?_);refine fA ⟨(aF 0 rfl (aF 1 rfl aS)),aT,(aO _)⟩ (fun A=>?_);refine aJ 0 rfl A (qq2 (off':=0) XJ BO) ?_;refine aJ 1 rfl A (yV FY (aX 1 rfl)) ?_;refine aJ 2 rfl A (qq2 (off':=0) XJ BO) ?_;refine aJ 3 rfl A (yV FY (aX 0 rfl)) ?_;refine aJ 5 rfl A (qq2 (off':=1) XJ BO) ?_;refine aJ 6 rfl A (yV FY (aX 1 rfl)) ?_;refine aJ 7 rfl A (qq2 (off':=1) XJ BO) ?_;refine aJ 8 rfl A (yV FY (aX 0 rfl)) ?_;refine zO 4 rfl (yT (H1:=[]) rfl rfl rfl rfl rfl (a1T x0 y0 _) ?_ (fun _ _ _ _ h=>by cases h.1) (fun _ _ h=>by cases h.1));intro _ _ _ N a1;obtain⟨h,rfl,rfl⟩:=a1;cases h;refine⟨⟨(aA (aO _) N),(aF 0 rfl (aF 1 rfl aS)),aT⟩,?_⟩;refine zO 9 rfl (yT (H1:=[]) rfl rfl rfl rfl rfl (a1T x1 y1 _) ?_ (fun _ _ _ _ h=>by cases h.1) (fun _ _ h=>by cases h.1));intro _ _ _ G Q;obtain⟨h,rfl,rfl⟩:=Q;cases h;refine⟨⟨(aA (aA (aO _) N) G),(aF 0 rfl (aF 1 rfl aS)),aT⟩,?_⟩;refine zO 10 rfl (BQ ES BO MV (bJ rfl (bJ rfl dG)) ?_);intro _ _;refine⟨⟨(aA (aA (aO _) N) G),(aF 1 rfl (aF 2 rfl aS)),aT⟩,?_⟩;refine iL iW ?_;refine zO 11 rfl (yT (H1:=[_]) rfl rfl rfl rfl rfl (a6k _ (aC x0 y0) (aC x1 y1) _) ?_ (fun _ _ _ _ h=>by cases h.1) (fun _ _ h=>by cases h.1));intro _ _ _ O Z;obtain⟨h,rfl,rfl⟩:=Z;cases h;refine⟨⟨(aA (aA (aA (aO _) N) G) O),(aF 1 rfl (aF 2 rfl aS)),aT⟩,?_⟩;refine fA ⟨(aF 1 rfl (aF 2 rfl aS)),aT,(aA (aA (aA (aO _) N) G) O)⟩ (fun a0=>?_);refine aJ 12 rfl a0 yQ ?_;refine AA ?_;refine aY (bQ (fH ?_));refine zM ?_;exact rT
theorem b4V a b x0 x1 y0 y1 v w I:yS aG 24 [.agg #[i64 x0,i64 x1,str a,v],.agg #[i64 y0,i64 y1,str b,w]] I [] (fun e _ H'=>e= .returned (i64 (MH (MO a b) (MH (aC x0 y0) (aC x1 y1))))∧H'=[]):=by
 refine yS.ob func24 ?_;intro w0 _;refine Cj.sr (aQ rfl (BG ?_));intro _ _;refine aQ rfl (BG ?_);intro _ _;refine aB yQ ?_;refine J.nss (fO [0,1] [] 13 kR ?_);refine fA ⟨(aF 0 rfl (aF 1 rfl aS)),aT,(aO _)⟩ (fun A=>?_);refine aJ 0 rfl A (qq2 (off':=2) DT zS) ?_;refine aJ 1 rfl A (yV BR (aX 1 rfl)) ?_;refine aJ 2 rfl A (qq2 (off':=2) DT zS) ?_;refine aJ 3 rfl A (yV BR (aX 0 rfl)) ?_;refine aJ 5 rfl A (qq2 (off':=0) DT AL) ?_;refine aJ 6 rfl A (zW DJ AL (aX 1 rfl)) ?_;refine aJ 7 rfl A (qq2 (off':=0) DT AL) ?_;refine aJ 8 rfl A (zW DJ AL (aX 0 rfl)) ?_;refine zO 4 rfl (yT (H1:=[]) rfl rfl rfl rfl rfl (a7I a b _) ?_ (fun _ _ _ _ h=>by cases h.1) (fun _ _ h=>by cases h.1));intro _ _ _ N a1;obtain⟨h,rfl,rfl⟩:=a1;cases h;refine⟨⟨(aA (aO _) N),(aF 0 rfl (aF 1 rfl aS)),aT⟩,?_⟩;refine zO 9 rfl (yT (H1:=[]) rfl rfl rfl rfl rfl (a4o x0 x1 y0 y1 _) ?_ (fun _ _ _ _ h=>by cases h.1) (fun _ _ h=>by cases h.1));intro _ _ _ G Q;obtain⟨h,rfl⟩:=Q;cases h;refine⟨⟨(aA (aA (aO _) N) G),(aF 0 rfl (aF 1 rfl aS)),aT⟩,?_⟩;refine zO 10 rfl (BQ ES BO MV (bJ rfl (bJ rfl dG)) ?_);intro _ _;refine⟨⟨(aA (aA (aO _) N) G),(aF 1 rfl (aF 2 rfl aS)),aT⟩,?_⟩;refine iL iW ?_;refine zO 11 rfl (yT (H1:=[_]) rfl rfl rfl rfl rfl (a6k _ (MO a b) (MH (aC x0 y0) (aC x1 y1)) _) ?_ (fun _ _ _ _ h=>by cases h.1) (fun _ _ h=>by cases h.1));intro _ _ _ O Z;obtain⟨h,rfl,rfl⟩:=Z;cases h;refine⟨⟨(aA (aA (aA (aO _) N) G) O),(aF 1 rfl (aF 2 rfl aS)),aT⟩,?_⟩;refine fA ⟨(aF 1 rfl (aF 2 rfl aS)),aT,(aA (aA (aA (aO _) N) G) O)⟩ (fun a0=>?_);refine aJ 12 rfl a0 yQ ?_;refine AA ?_;refine aY (bQ (fH ?_));refine zM ?_;exact rT
theorem b7Q a b n m I:yS aG 36 [.agg #[str a,i64 n],.agg #[str b,i64 m]] I [] (fun e _ H'=>e= .returned (i64 (MO a b))∧H'=[]):=by
 refine yS.ob func36 ?_;intro w0 _;refine Cj.sr (aQ rfl (BG ?_));intro _ _;refine aQ rfl (BG ?_);intro _ _;refine aB yQ ?_;refine J.yX (aB (qq2 (off':=0) LY zS) ?_);refine aB (yV BR (yR.at 1 rfl)) ?_;refine aB (qq2 (off':=0) LY zS) ?_;refine aB (yV BR (yR.at 0 rfl)) ?_;refine aQ rfl (yT (H1:=[]) rfl rfl rfl rfl rfl (a7I a b _) ?_ (fun _ _ _ _ h=>by cases h.1) (fun _ _ h=>by cases h.1));intro _ _ _ _ A;obtain⟨h,rfl,rfl⟩:=A;cases h;refine aB yQ ?_;refine J.ns (bQ (fH ?_));refine zM ?_;exact rT
theorem b8N a b x0 x1 y0 y1 v u w:Calls aG 24 #[.agg #[i64 x0,i64 x1,str a,v],.agg #[i64 y0,i64 y1,str b,u]] w fun e w'=>e= .returned (i64 (MH (MO a b) (MH (aC x0 y0) (aC x1 y1))))∧∃q A,w'=dI (w.drewN q) A:=
 yS.grows (b4V a b x0 x1 y0 y1 v u _) (fun _ _ _ h=>h.1) w
theorem b9V a b n m w:Calls aG 36 #[.agg #[str a,i64 n],.agg #[str b,i64 m]] w fun e w'=>e= .returned (i64 (MO a b))∧∃q A,w'=dI (w.drewN q) A:=
 yS.grows (b7Q a b n m _) (fun _ _ _ h=>h.1) w
end Go.Proofs.YtdjkhllhakhjbaaGreatDoor
namespace Go.Proofs
open _root_.Go.Proofs.Tryz
open Go.Shelf
def Tryz.sortR_ren:fB:=⟨fun|6=>144|15=>47|14=>210|28=>75|29=>76|20=>260|21=>261|22=>262|23=>263|24=>264|25=>265|26=>266|27=>267|46=>294|47=>101|48=>102|49=>295|50=>296|57=>313|n=>n,fun|22=>238|24=>243|25=>245|3=>3|39=>108|0=>0|53=>149|55=>151|4=>4|46=>141|45=>140|50=>146|5=>5|9=>9|66=>192|70=>196|76=>251|77=>252|n=>n,fun|n=>n⟩
theorem Tryz.sortR:bP aG Tryz.sortR_ren:={
 mixed:=kR
 f6:=⟨Tryz.f144.name,dE,func144.trans (zD some kR)⟩
 f14:=⟨Tryz.f210.name,dE,func210.trans (zD some kR)⟩
 f15:=func47.trans (zD some kR)
 f20:=⟨Tryz.f260.name,dE,func260.trans (zD some kR)⟩
 f21:=⟨Tryz.f261.name,dE,func261.trans (zD some kR)⟩
 f22:=⟨Tryz.f262.name,dE,func262.trans (zD some kR)⟩
 f23:=⟨Tryz.f263.name,dE,func263.trans (zD some kR)⟩
 f24:=⟨Tryz.f264.name,dE,func264.trans (zD some kR)⟩
 f25:=⟨Tryz.f265.name,dE,func265.trans (zD some kR)⟩
 f26:=⟨Tryz.f266.name,dE,func266.trans (zD some kR)⟩
 f27:=⟨Tryz.f267.name,dE,func267.trans (zD some kR)⟩
 f28:=func75.trans (zD some kR)
 f29:=func76.trans (zD some kR)
 f46:=⟨Tryz.f294.name,dE,func294.trans (zD some kR)⟩
 f47:=func101.trans (zD some kR)
 f48:=func102.trans (zD some kR)
 f49:=⟨Tryz.f295.name,dE,func295.trans (zD some kR)⟩
 f50:=⟨Tryz.f296.name,dE,func296.trans (zD some kR)⟩
 f57:=⟨Tryz.f313.name,dE,func313.trans (zD some kR)⟩
 t0:=underlying0
 a0:=isAgg0
 z0:=sizeOf0
 v0:=zeroValue0
 t3:=underlying3
 a3:=isAgg3
 z3:=sizeOf3
 v3:=zeroValue3
 t4:=underlying4
 a4:=isAgg4
 z4:=sizeOf4
 v4:=zeroValue4
 t5:=underlying5
 a5:=isAgg5
 z5:=sizeOf5
 v5:=zeroValue5
 t9:=underlying9
 a9:=isAgg9
 z9:=sizeOf9
 v9:=zeroValue9
 t22:=underlying238
 a22:=isAgg238
 z22:=sizeOf238
 v22:=zeroValue238
 t25:=underlying245
 a25:=isAgg245
 z25:=sizeOf245
 v25:=zeroValue245
 t39:=underlying108
 a39:=isAgg108
 z39:=sizeOf108
 v39:=zeroValue108
 t45:=underlying140
 a45:=isAgg140
 z45:=sizeOf140
 v45:=zeroValue140
 t46:=underlying141
 a46:=isAgg141
 z46:=sizeOf141
 v46:=zeroValue141
 t50:=underlying146
 a50:=isAgg146
 z50:=sizeOf146
 v50:=zeroValue146
 t53:=underlying149
 a53:=isAgg149
 z53:=sizeOf149
 v53:=zeroValue149
 t55:=underlying151
 a55:=isAgg151
 z55:=sizeOf151
 v55:=zeroValue151
 t66:=underlying192
 a66:=isAgg192
 z66:=sizeOf192
 v66:=zeroValue192
 t70:=underlying196
 a70:=isAgg196
 z70:=sizeOf196
 v70:=zeroValue196
 t76:=underlying251
 a76:=isAgg251
 z76:=sizeOf251
 v76:=zeroValue251
 t77:=underlying252
 a77:=isAgg252
 z77:=sizeOf252
 v77:=zeroValue252 }
def Tryz.sortD_ren:fB:=⟨fun|6=>62|15=>47|14=>99|28=>75|29=>76|20=>146|21=>147|22=>148|23=>149|24=>150|25=>151|26=>152|27=>153|46=>211|47=>101|48=>102|49=>212|50=>213|57=>268|n=>n,fun|22=>25|24=>37|25=>69|3=>3|39=>108|0=>0|53=>149|55=>151|4=>4|46=>141|45=>140|50=>146|5=>5|9=>9|66=>192|70=>196|76=>251|77=>252|n=>n,fun|n=>n⟩
theorem Tryz.sortD:bP aG Tryz.sortD_ren:={
 mixed:=kR
 f6:=⟨Tryz.f62.name,dE,func62.trans (zD some kR)⟩
 f14:=⟨Tryz.f99.name,dE,func99.trans (zD some kR)⟩
 f15:=func47.trans (zD some kR)
 f20:=⟨Tryz.f146.name,dE,func146.trans (zD some kR)⟩
 f21:=⟨Tryz.f147.name,dE,func147.trans (zD some kR)⟩
 f22:=⟨Tryz.f148.name,dE,func148.trans (zD some kR)⟩
 f23:=⟨Tryz.f149.name,dE,func149.trans (zD some kR)⟩
 f24:=⟨Tryz.f150.name,dE,func150.trans (zD some kR)⟩
 f25:=⟨Tryz.f151.name,dE,func151.trans (zD some kR)⟩
 f26:=⟨Tryz.f152.name,dE,func152.trans (zD some kR)⟩
 f27:=⟨Tryz.f153.name,dE,func153.trans (zD some kR)⟩
 f28:=func75.trans (zD some kR)
 f29:=func76.trans (zD some kR)
 f46:=⟨Tryz.f211.name,dE,func211.trans (zD some kR)⟩
 f47:=func101.trans (zD some kR)
 f48:=func102.trans (zD some kR)
 f49:=⟨Tryz.f212.name,dE,func212.trans (zD some kR)⟩
 f50:=⟨Tryz.f213.name,dE,func213.trans (zD some kR)⟩
 f57:=⟨Tryz.f268.name,dE,func268.trans (zD some kR)⟩
 t0:=underlying0
 a0:=isAgg0
 z0:=sizeOf0
 v0:=zeroValue0
 t3:=underlying3
 a3:=isAgg3
 z3:=sizeOf3
 v3:=zeroValue3
 t4:=underlying4
 a4:=isAgg4
 z4:=sizeOf4
 v4:=zeroValue4
 t5:=underlying5
 a5:=isAgg5
 z5:=sizeOf5
 v5:=zeroValue5
 t9:=underlying9
 a9:=isAgg9
 z9:=sizeOf9
 v9:=zeroValue9
 t22:=underlying25
 a22:=isAgg25
 z22:=sizeOf25
 v22:=zeroValue25
 t25:=underlying69
 a25:=isAgg69
 z25:=sizeOf69
 v25:=zeroValue69
 t39:=underlying108
 a39:=isAgg108
 z39:=sizeOf108
 v39:=zeroValue108
 t45:=underlying140
 a45:=isAgg140
 z45:=sizeOf140
 v45:=zeroValue140
 t46:=underlying141
 a46:=isAgg141
 z46:=sizeOf141
 v46:=zeroValue141
 t50:=underlying146
 a50:=isAgg146
 z50:=sizeOf146
 v50:=zeroValue146
 t53:=underlying149
 a53:=isAgg149
 z53:=sizeOf149
 v53:=zeroValue149
 t55:=underlying151
 a55:=isAgg151
 z55:=sizeOf151
 v55:=zeroValue151
 t66:=underlying192
 a66:=isAgg192
 z66:=sizeOf192
 v66:=zeroValue192
 t70:=underlying196
 a70:=isAgg196
 z70:=sizeOf196
 v70:=zeroValue196
 t76:=underlying251
 a76:=isAgg251
 z76:=sizeOf251
 v76:=zeroValue251
 t77:=underlying252
 a77:=isAgg252
 z77:=sizeOf252
 v77:=zeroValue252 }
def Tryz.sortL_ren:fB:=⟨fun|6=>78|15=>47|14=>106|28=>75|29=>76|20=>155|21=>156|22=>157|23=>158|24=>159|25=>160|26=>161|27=>162|46=>214|47=>101|48=>102|49=>215|50=>216|57=>269|n=>n,fun|22=>39|24=>41|25=>81|3=>3|39=>108|0=>0|53=>149|55=>151|4=>4|46=>141|45=>140|50=>146|5=>5|9=>9|66=>192|70=>196|76=>251|77=>252|n=>n,fun|n=>n⟩
theorem Tryz.sortL:bP aG Tryz.sortL_ren:={
 mixed:=kR
 f6:=⟨Tryz.f78.name,dE,func78.trans (zD some kR)⟩
 f14:=⟨Tryz.f106.name,dE,func106.trans (zD some kR)⟩
 f15:=func47.trans (zD some kR)
 f20:=⟨Tryz.f155.name,dE,func155.trans (zD some kR)⟩
 f21:=⟨Tryz.f156.name,dE,func156.trans (zD some kR)⟩
 f22:=⟨Tryz.f157.name,dE,func157.trans (zD some kR)⟩
 f23:=⟨Tryz.f158.name,dE,func158.trans (zD some kR)⟩
 f24:=⟨Tryz.f159.name,dE,func159.trans (zD some kR)⟩
 f25:=⟨Tryz.f160.name,dE,func160.trans (zD some kR)⟩
 f26:=⟨Tryz.f161.name,dE,func161.trans (zD some kR)⟩
 f27:=⟨Tryz.f162.name,dE,func162.trans (zD some kR)⟩
 f28:=func75.trans (zD some kR)
 f29:=func76.trans (zD some kR)
 f46:=⟨Tryz.f214.name,dE,func214.trans (zD some kR)⟩
 f47:=func101.trans (zD some kR)
 f48:=func102.trans (zD some kR)
 f49:=⟨Tryz.f215.name,dE,func215.trans (zD some kR)⟩
 f50:=⟨Tryz.f216.name,dE,func216.trans (zD some kR)⟩
 f57:=⟨Tryz.f269.name,dE,func269.trans (zD some kR)⟩
 t0:=underlying0
 a0:=isAgg0
 z0:=sizeOf0
 v0:=zeroValue0
 t3:=underlying3
 a3:=isAgg3
 z3:=sizeOf3
 v3:=zeroValue3
 t4:=underlying4
 a4:=isAgg4
 z4:=sizeOf4
 v4:=zeroValue4
 t5:=underlying5
 a5:=isAgg5
 z5:=sizeOf5
 v5:=zeroValue5
 t9:=underlying9
 a9:=isAgg9
 z9:=sizeOf9
 v9:=zeroValue9
 t22:=underlying39
 a22:=isAgg39
 z22:=sizeOf39
 v22:=zeroValue39
 t25:=underlying81
 a25:=isAgg81
 z25:=sizeOf81
 v25:=zeroValue81
 t39:=underlying108
 a39:=isAgg108
 z39:=sizeOf108
 v39:=zeroValue108
 t45:=underlying140
 a45:=isAgg140
 z45:=sizeOf140
 v45:=zeroValue140
 t46:=underlying141
 a46:=isAgg141
 z46:=sizeOf141
 v46:=zeroValue141
 t50:=underlying146
 a50:=isAgg146
 z50:=sizeOf146
 v50:=zeroValue146
 t53:=underlying149
 a53:=isAgg149
 z53:=sizeOf149
 v53:=zeroValue149
 t55:=underlying151
 a55:=isAgg151
 z55:=sizeOf151
 v55:=zeroValue151
 t66:=underlying192
 a66:=isAgg192
 z66:=sizeOf192
 v66:=zeroValue192
 t70:=underlying196
 a70:=isAgg196
 z70:=sizeOf196
 v70:=zeroValue196
 t76:=underlying251
 a76:=isAgg251
 z76:=sizeOf251
 v76:=zeroValue251
 t77:=underlying252
 a77:=isAgg252
 z77:=sizeOf252
 v77:=zeroValue252 }
def Tryz.sortF_ren:fB:=⟨fun|6=>308|15=>47|14=>324|28=>75|29=>76|20=>334|21=>335|22=>336|23=>337|24=>338|25=>339|26=>340|27=>341|46=>343|47=>101|48=>102|49=>344|50=>345|57=>348|n=>n,fun|22=>187|24=>34|25=>64|3=>3|39=>108|0=>0|53=>149|55=>151|4=>4|46=>141|45=>140|50=>146|5=>5|9=>9|66=>192|70=>196|76=>251|77=>252|n=>n,fun|n=>n⟩
theorem Tryz.sortF:bP aG Tryz.sortF_ren:={
 mixed:=kR
 f6:=⟨Tryz.f308.name,dE,func308.trans (zD some kR)⟩
 f14:=⟨Tryz.f324.name,dE,func324.trans (zD some kR)⟩
 f15:=func47.trans (zD some kR)
 f20:=⟨Tryz.f334.name,dE,func334.trans (zD some kR)⟩
 f21:=⟨Tryz.f335.name,dE,func335.trans (zD some kR)⟩
 f22:=⟨Tryz.f336.name,dE,func336.trans (zD some kR)⟩
 f23:=⟨Tryz.f337.name,dE,func337.trans (zD some kR)⟩
 f24:=⟨Tryz.f338.name,dE,func338.trans (zD some kR)⟩
 f25:=⟨Tryz.f339.name,dE,func339.trans (zD some kR)⟩
 f26:=⟨Tryz.f340.name,dE,func340.trans (zD some kR)⟩
 f27:=⟨Tryz.f341.name,dE,func341.trans (zD some kR)⟩
 f28:=func75.trans (zD some kR)
 f29:=func76.trans (zD some kR)
 f46:=⟨Tryz.f343.name,dE,func343.trans (zD some kR)⟩
 f47:=func101.trans (zD some kR)
 f48:=func102.trans (zD some kR)
 f49:=⟨Tryz.f344.name,dE,func344.trans (zD some kR)⟩
 f50:=⟨Tryz.f345.name,dE,func345.trans (zD some kR)⟩
 f57:=⟨Tryz.f348.name,dE,func348.trans (zD some kR)⟩
 t0:=underlying0
 a0:=isAgg0
 z0:=sizeOf0
 v0:=zeroValue0
 t3:=underlying3
 a3:=isAgg3
 z3:=sizeOf3
 v3:=zeroValue3
 t4:=underlying4
 a4:=isAgg4
 z4:=sizeOf4
 v4:=zeroValue4
 t5:=underlying5
 a5:=isAgg5
 z5:=sizeOf5
 v5:=zeroValue5
 t9:=underlying9
 a9:=isAgg9
 z9:=sizeOf9
 v9:=zeroValue9
 t22:=underlying187
 a22:=isAgg187
 z22:=sizeOf187
 v22:=zeroValue187
 t25:=underlying64
 a25:=isAgg64
 z25:=sizeOf64
 v25:=zeroValue64
 t39:=underlying108
 a39:=isAgg108
 z39:=sizeOf108
 v39:=zeroValue108
 t45:=underlying140
 a45:=isAgg140
 z45:=sizeOf140
 v45:=zeroValue140
 t46:=underlying141
 a46:=isAgg141
 z46:=sizeOf141
 v46:=zeroValue141
 t50:=underlying146
 a50:=isAgg146
 z50:=sizeOf146
 v50:=zeroValue146
 t53:=underlying149
 a53:=isAgg149
 z53:=sizeOf149
 v53:=zeroValue149
 t55:=underlying151
 a55:=isAgg151
 z55:=sizeOf151
 v55:=zeroValue151
 t66:=underlying192
 a66:=isAgg192
 z66:=sizeOf192
 v66:=zeroValue192
 t70:=underlying196
 a70:=isAgg196
 z70:=sizeOf196
 v70:=zeroValue196
 t76:=underlying251
 a76:=isAgg251
 z76:=sizeOf251
 v76:=zeroValue251
 t77:=underlying252
 a77:=isAgg252
 z77:=sizeOf252
 v77:=zeroValue252 }
end Go.Proofs
namespace Go.Sx
open Go
theorem BP{α:Type}{f:α→List Value}{sz}(hf:∀x,(f x).length=sz):∀l:List α,(l.flatMap f).length=l.length*sz
 |[]=>sI
 |a::r=>by rw[dR,aH,hf a,BP hf r,gX,Nat.add_mul];omega
section
variable {cx:Cx} {Q:Qt} {e:Env} {I:Heap} {R:HL} {T:TypeId} {α:Type} {l:List α} {f:α→List Value} {sz n base:Nat} {g:Gs}
theorem b1S{X:Heap→HL→Prop}(hf:∀x,(f x).length=sz)(A:0<sz)(hg:BM base sz n (l.flatMap f) g)(hn:n=l.length)(O:∀b o,base≤b→(∀h,Le I h→h b=some o→X h R)→X I ((b,o)::R))(k:∀h,Le I h→zN f h l (gV n g)→X h R):X I (gH T (l.flatMap f) g++R):=by
 subst hn;cases g with
 |none=>
  obtain⟨G,Q⟩:=hg;have:l=[]:=bK.1 G;subst this;exact k I (aO _) zN.nil
 |some q=>
  obtain⟨b,c,sp⟩:=q;obtain⟨G,Q,Z⟩:=hg;have hc:l.length≤c:=by
   rw[BP hf]at Z;exact Nat.le_of_mul_le_mul_right (oM:l.length*sz≤c*sz) A
  exact O b _ G fun h N hb=>k h N ⟨_,c,rfl,hc,fun _=>⟨b,0,_,T,_,sp,rfl,hb,rfl⟩⟩
theorem Cj.keepR{c}(hf:∀x,(f x).length=sz)(h:0<sz)(hg:BM cx.w0.heap.size sz n (l.flatMap f) g)(hn:n=l.length)(k:∀A,Le I A→zN f A l (gV n g)→Cj cx Q c e A R):Cj cx Q c e I (gH T (l.flatMap f) g++R):=
 b1S (X:=fun I H=>Cj cx Q c e I H) hf h hg hn (fun _ _ G k=>Cj.persist G k) k
theorem Ej.keepR{x}(hf:∀x,(f x).length=sz)(h:0<sz)(hg:BM cx.w0.heap.size sz n (l.flatMap f) g)(hn:n=l.length)(k:∀A,Le I A→zN f A l (gV n g)→Ej cx Q x e A R):Ej cx Q x e I (gH T (l.flatMap f) g++R):=
 b1S (X:=fun I H=>Ej cx Q x e I H) hf h hg hn (fun _ _ G k=>Ej.persist G k) k
theorem b3S n g:dN (gV n g)=true:=by
 cases g with
 |none=>rfl
 |some q=>obtain⟨b,c,sp⟩:=q;rfl
end
section
variable {cx:Cx} {o:Oper} {e:Env} {S:World→Prop}
theorem a6T{x y}{T E n c sz j:Nat}{b kl}(G:o.op= .slice T x none (some y) none)(N:ev e x=some (.slice b n c))(O:ev e y=some (.int kl (j:Int)))(Q:cx.P.underlying T=some (.slice E))(A:∀w,(sizeOf E).run cx.P w= .ok sz w)(hj:j≤c):
 CW cx o e S (.slice b j c):=by
 intro a w h _;have Z:(j:Int)≤c:=oM;cases b with
 |none=>simp[execOp,G,h.eval N,h.eval O,iQ,jA,run_underlying Q,gK,run_sliceBound,Z,A]
 |some q=>
  simp[execOp,G,h.eval N,h.eval O,iQ,jA,run_underlying Q,gK,run_sliceBound,Z,A,Addr.add]
end
theorem zN.take{α:Type}{f:α→List Value}{I:Heap}{l:List α}{p:Option Addr}{c:Nat}(h:zN f I l (.slice p l.length c)){m:Nat}(A:m≤l.length):zN f I (l.take m) (.slice p m c):=by
 obtain⟨_,_,G,_,N⟩:=h;cases G;refine⟨p,c,by rw[dF,fC A],by rw[dF];omega,fun hn=>?_⟩;have O:l≠[]:=fun e=>hn (by rw[e];simp);obtain⟨b,o,cs,t,fr,sp,Q,Z,h3⟩:=N O;refine⟨b,o,cs,t,fr,(l.drop m).flatMap f++sp,Q,Z,?_⟩;rw[h3,←bM,←fU,List.take_append_drop]
theorem a1k{α:Type}(A G h:List α):(A++(h++G)).Perm (A++(G++h)):=List.Perm.append_left A dH
theorem b2b{α:Type}{f}:∀{l:List α},(∀x∈l,(f x).all dN=true)→(l.flatMap f).all dN=true
 |[],_=>rfl
 |a::r,h=>by rw[dR,List.all_append,h a (.head _),b2b fun x A=>h x (.tail _ A)];rfl
theorem Src.row{P I H}{α:Type}{f:α→List Value}{sz:Nat}{l v}(hf:∀x,(f x).length=sz)(h:zN f I l v)(G:∀x∈l,(f x).all dN=true):Src P I H sz l.length v (l.flatMap f):=by
 obtain⟨p,c,rfl,_,N⟩:=h;cases l with
 |nil=>exact Src.nil
 |cons a r=>
  obtain⟨b,o,cs,t,fr,sp,rfl,O,Q⟩:=N sI;have A:=BP hf (a::r);exact fV (yR.PL O) (by rw[Q,←A,List.take_left]) A (b2b G)
end Go.Sx
namespace Go.Sx
open Go Go.Sort Go.Proofs
theorem XC{w b T vs sp}(h:w.heap[b]?=some (yZ T (vs++sp))):Holds id w b 0 vs.toArray:=fun j G=>by
 have A:j<vs.length:=by simpa using G
 have N:(vs++sp)[j]?=some vs[j]:=by rw[bV A];exact aV A
 have O:vs.toArray[j]! =vs[j]:=by rw[getElem!_pos _ j G];simp
 refine⟨?_,?_⟩
 ·rw[O];simp only[gU,h,yZ,Nat.zero_add];simpa using N
 simp only[World.frozen?,h,yZ];simp
theorem c0y{vs A sp:List Value}(G:A.length=vs.length):putCells id 0 A.toArray (vs++sp).toArray=(A++sp).toArray:=by
 apply fZ
 intro k;simp only[putCells,Array.getElem?_mapIdx,List.getElem?_toArray,dA,bU,true_and,Nat.zero_add,Nat.sub_zero];rcases dJ k vs.length with h|h
 ·have N:(vs++sp)[k]?=some vs[k]:=by rw[bV h];exact aV h
  have O:(A++sp)[k]?=some (A[k]'oM):=by rw[bV oM];exact aV _
  have Q:A.toArray[k]! =A[k]'oM:=by rw[getElem!_pos _ k (by simpa using(oM:k<A.length))];simp
  rw[N,O,fD,zG oM,Q];rfl
 rw[dP h,dP oM,G];cases sp[k-vs.length]? with
 |none=>rfl
 |some v=>rw[fD,zF oM]
theorem St.b1N{w I b T vs h sp} n os (hr:Ready I [(b,yZ T (vs++sp))] w)(hl:h.length=vs.length):
 St w [b] I I [(b,yZ T (h++sp))] (grow (putRow id (cZ w n) b 0 h.toArray) os):=by
 obtain⟨r1,r2,_,r4⟩:=hr;have hb:=r2 _ (bD.2 rfl);have O:∀{c:Nat} {o':Obj},w.heap[c]?=some o'→c<w.heap.size:=fun {c o'} A=>by
  rcases dJ c w.heap.size with Q|Q
  ·exact Q
  simp[bC Q]at A
 have a1:(putRow id (cZ w n) b 0 h.toArray).heap.size=w.heap.size:=by simp[putRow,mapBlock,cZ]
 have G:∀c,c<w.heap.size→c≠b→(grow (putRow id (cZ w n) b 0 h.toArray) os).heap[c]?=w.heap[c]?:=fun c A a0=>by
  simp only[grow];rw[dQ oM];simp only[putRow,mapBlock,cZ,fJ,zF (Ne.symm a0)]
 have Z:(grow (putRow id (cZ w n) b 0 h.toArray) os).heap[b]?=some (yZ T (h++sp)):=by
  have a2:=O hb;simp only[grow];rw[dQ oM];simp only[putRow,mapBlock,cZ,fJ,if_true];rw[hb];simp only[fD,onCells,yZ];rw[c0y hl]
 refine⟨rfl,rfl,rfl,?_,?_,?_,?_,sI,?_,?_,fun _ _=>rfl,aO _,a1J⟩
 ·simp only[grow,Array.size_append];omega
 ·intro c A hd;exact G c A (by simpa using hd)
 ·intro c o A;have h1:=r1 c o A;refine(G c (O h1) ?_).trans h1;rintro rfl;have:=r4 _ (bD.2 rfl);rw[this]at A;cases A
 ·intro p N;rw[bD.1 N];exact Z
 ·intro p N;rw[bD.1 N];exact r4 (b,yZ T (vs++sp)) (bD.2 rfl)
 intro p N;rw[bD.1 N];exact .inl (.head _)
section
variable {α:Type} [Inhabited α] {enc:α→List Value} {k:Nat}
theorem QE(A:∀x,(enc x).length=k)(l:List α):flatK enc k l.toArray=(l.flatMap enc).toArray:=by
 refine ext_get! (by simp[BP A]) fun t Z=>?_;have h:t<l.length*k:=by simpa using Z
 have O:0<k:=by
  rcases Nat.eq_zero_or_pos k with e|e
  ·subst e;simp at h
  exact e
 have hd:t / k<l.length:=(Nat.div_lt_iff_lt_mul O).2 h;have G:t % k<k:=Nat.mod_lt _ O;rw[get_flatK _ _ _ _ (by simpa using h)];have h1:l.toArray[t / k]! =l[t / k]:=by rw[getElem!_pos _ _ (by simpa using hd)];simp
 have h2:l[t / k]?=some l[t / k]:=aV hd;have N:=RV A (sp:=[]) h2 (t % k) G;rw[aI,Nat.mul_comm,Nat.div_add_mod]at N;have Q:t<(l.flatMap enc).length:=by rw[BP A];exact h
 rw[h1,getElem!_pos _ t (by simpa using Q),List.getElem_toArray,getElem!_pos _ _ (by rw[A];exact G)];rw[aV Q,aV (by rw[A];exact G)]at N;exact(Option.some.inj N).symm
theorem TT{l:List α}{G}(h:PermIn 0 l.length l.toArray G):G.toList.Perm l:=by
 obtain⟨O,_,A⟩:=h;have N:G.size=l.length:=by rw[O];simp
 rw[←N]at A;simp only[gB]at A;rw[N]at A;have Q:l.toArray.extract 0 l.length=l.toArray:=by
  have:=gB (xs:=l.toArray)
  rwa [dA]at this
 rw[Q]at A;simpa using A
theorem sorted_in{lt}{A:Array α}(h:SortedIn lt 0 A.size A):A.toList.Pairwise fun x y=>lt y x=false:=by
 rw[List.pairwise_iff_getElem];intro i j Q Z N;have O:i<A.size:=by simpa using Q
 have G:j<A.size:=by simpa using Z
 have:=h i j (bU _) N G;rw[getElem!_pos A i O,getElem!_pos A j G]at this;simpa using this
end
end Go.Sx
namespace Ix
open Ke
abbrev Rec:=Int×Int
def FZ (a b:Rec):Bool:=decide (a.1<b.1) || (decide (a.1=b.1) && decide (a.2<b.2))
theorem VT{a b}:FZ a b=true↔a.1<b.1∨(a.1=b.1∧a.2<b.2):=by simp[FZ]
theorem IQ a:FZ a a=false:=by rw[dV,Ne,VT];omega
theorem LH{a b c}(h:FZ a b=true)(A:FZ b c=true):FZ a c=true:=by
 rw[VT]at *;omega
theorem RF a b:FZ a b=true∨a=b∨FZ b a=true:=by
 rw[VT,VT]
 by_cases h:a=b
 ·exact .inr (.inl h)
 have:a.1≠b.1∨a.2≠b.2:=by
  by_cases h1:a.1=b.1
  ·exact .inr fun A=>h (Prod.ext h1 A)
  exact .inl h1
 omega
theorem a5q{a b}(h:FZ a b=true):FZ b a=false:=by
 rw[dV];intro g;have:=LH h g;rw[IQ]at this;cases this
section
variable {β:Type}
abbrev Ls (β:Type):=List (Rec×β)
def LU (l:Ls β):Prop:=l.Pairwise fun a b=>FZ a.1 b.1=true
def QN (t:Rec) (v:β):Ls β→Ls β
 |[]=>[(t,v)]
 |(u,x)::r=>if FZ u t then(u,x)::QN t v r else if u=t then(t,v)::r else(t,v)::(u,x)::r
def a1l (t:Rec) (l:Ls β):Ls β:=l.filter fun e=>decide (e.1≠t)
def NQ (l:Ls β) (t:Rec):Option β:=(l.find? fun e=>decide (e.1=t)).map (·.2)
theorem SK t v:∀{l:Ls β},LU l→∀e,e∈QN t v l↔e=(t,v)∨(e∈l∧e.1≠t)
 |[],_,e=>by simp[QN]
 |(u,x)::r,h,e=>by
  have N:=aW.1 h;unfold QN
  by_cases h1:FZ u t=true
  ·rw[zG h1,aK,SK t v N.2,aK];have Q:u≠t:=fun g=>by rw[g,IQ]at h1;cases h1
   constructor
   ·rintro(g|g|g)
    ·exact .inr ⟨.inl g,by rw[g];exact Q⟩
    ·exact .inl g
    exact .inr ⟨.inr g.1,g.2⟩
   rintro(g|⟨g|g,A⟩)
   ·exact .inr (.inl g)
   ·exact .inl g
   exact .inr (.inr ⟨g,A⟩)
  rw[zF h1]
  by_cases A:u=t
  ·rw[zG A,aK,aK];subst A;constructor
   ·rintro(g|g)
    ·exact .inl g
    refine .inr ⟨.inr g,fun G=>?_⟩;have:=N.1 e g;rw[G]at this;simp only[IQ]at this;cases this
   rintro(g|⟨g|g,G⟩)
   ·exact .inl g
   ·exact absurd (by rw[g]) G
   exact .inr g
  rw[zF A,aK];have G:FZ t u=true:=((RF u t).resolve_left h1).resolve_left A;constructor
  ·rintro(g|g)
   ·exact .inl g
   refine .inr ⟨g,fun O=>?_⟩;rcases aK.1 g with g|g
   ·rw[g]at O;exact A O
   have:=LH G (N.1 e g);rw[O,IQ]at this;cases this
  rintro(g|g)
  ·exact .inl g
  exact .inr g.1
theorem XW t v:∀{l:Ls β},LU l→LU (QN t v l)
 |[],_=>List.pairwise_singleton _ _
 |(u,x)::r,h=>by
  have A:=aW.1 h;unfold QN
  by_cases h1:FZ u t=true
  ·rw[zG h1];refine aW.2 ⟨fun e G=>?_,XW t v A.2⟩;rcases(SK t v A.2 e).1 G with g|g
   ·rw[g];exact h1
   exact A.1 e g.1
  rw[zF h1]
  by_cases h2:u=t
  ·rw[zG h2];subst h2;exact aW.2 ⟨fun e G=>A.1 e G,A.2⟩
  rw[zF h2];have N:FZ t u=true:=((RF u t).resolve_left h1).resolve_left h2;refine aW.2 ⟨fun e G=>?_,h⟩;rcases aK.1 G with g|g
  ·rw[g];exact N
  exact LH N (A.1 e g)
theorem a1w t {l:Ls β}(h:LU l):LU (a1l t l):=h.filter _
theorem ZA t l (e:Rec×β):e∈a1l t l↔e∈l∧e.1≠t:=by simp[a1l]
theorem b7B{a b:Ls β}(Q:LU a)(Z:LU b)(h:∀e,e∈a↔e∈b):a=b:=by
 induction a generalizing b with
 |nil=>
  rcases b with _|⟨y,t⟩
  ·rfl
  exact absurd ((h y).2 (.head _)) sI
 |cons x r ih=>
  rcases b with _|⟨y,t⟩
  ·exact absurd ((h x).1 (.head _)) sI
  have A:=aW.1 Q;have G:=aW.1 Z;have O:x=y:=by
   rcases aK.1 ((h x).1 (.head _))with e|e
   ·exact e
   rcases aK.1 ((h y).2 (.head _))with N|N
   ·exact N.symm
   have:=LH (G.1 x e) (A.1 y N);rw[IQ]at this;cases this
  subst O;rw[ih A.2 G.2 fun z=>⟨fun hz=>?_,fun hz=>?_⟩]
  ·rcases aK.1 ((h z).1 (.tail _ hz))with rfl|e
   ·have:=A.1 z hz;rw[IQ]at this;cases this
   exact e
  rcases aK.1 ((h z).2 (.tail _ hz))with rfl|e
  ·have:=G.1 z hz;rw[IQ]at this;cases this
  exact e
theorem c3e{l}(h:LU l){a b:Rec×β}(O:a∈l)(Z:b∈l)(Q:a.1=b.1):a=b:=by
 induction l with
 |nil=>cases O
 |cons x r ih=>
  have N:=aW.1 h;rcases aK.1 O with A|A<;>rcases aK.1 Z with G|G
  ·rw[A,G]
  ·have:=N.1 b G;rw[←A,Q,IQ]at this;cases this
  ·have:=N.1 a A;rw[←G,←Q,IQ]at this;cases this
  exact ih N.2 A G
theorem b8p{l:Ls β}(h:LU l):(l.map (·.1)).Nodup:=by
 rw[List.nodup_iff_pairwise_ne,List.pairwise_map];exact h.imp fun {a b} g e=>by rw[e,IQ]at g;cases g
theorem KH{l}(h:LU l){t:Rec}{v:β}:NQ l t=some v↔(t,v)∈l:=by
 unfold NQ;constructor
 ·intro g;obtain⟨e,A,rfl⟩:=Option.map_eq_some_iff.1 g;have G:=iH A;have N:e.1=t:=zA G;have:=dX A;rw[←N];exact this
 intro g;have hs:(l.find? fun e=>decide (e.1=t)).isSome=true:=by
  rw[List.find?_isSome];exact⟨_,g,sI⟩
 obtain⟨e,A⟩:=Option.isSome_iff_exists.1 hs;have O:=iH A;have G:e.1=t:=zA O;have N:=c3e h (dX A) g G;rw[A,N];rfl
theorem a3Q{l:Ls β}{t}:NQ l t=none↔∀e∈l,e.1≠t:=by
 unfold NQ;rw[Option.map_eq_none_iff,List.find?_eq_none];simp
def a4A (es l:Ls β):Ls β:=es.foldl (fun l e=>QN e.1 e.2 l) l
end
end Ix
namespace Go.Proofs.YtdjkhllhakhjbaaGreatDoor
open Go Go.Shelf Go.RowKit Go.Lib Go.Sort
abbrev recC (x:Ix.Rec):List Value:=[.int .i64 x.1,.int .i64 x.2]
theorem GZ x:(recC x).length=2:=rfl
abbrev AX (x:List UInt8×Int):List Value:=[Sx.str x.1,.int .i64 x.2]
theorem BL x:(AX x).length=2:=rfl
def ZI (x y:Ix.Rec):Int:=MH (compareInt x.1 y.1) (compareInt x.2 y.2)
def XT (x y:List UInt8×Int):Int:=MO x.1 y.1
theorem RD x y:ltOf ZI x y=Ix.FZ x y:=by
 rw[Bool.eq_iff_iff,Ix.VT];unfold ltOf ZI MH compareInt;rw[zH]
 repeat(first|omega|split)
theorem b5a:SWO (ltOf ZI) where
 irrefl x:=by rw[RD];exact Ix.IQ x
 trans x y z h1 h2:=by rw[RD]at *;exact Ix.LH h1 h2
 ntrans x y z h1 h2:=by
  rw[RD,dV,Ne,Ix.VT]at *;omega
theorem WS x y:ltOf XT x y=decide (x.1<y.1):=by
 unfold ltOf XT MO;rw[decide_eq_decide]
 by_cases h:x.1<y.1
 ·rw[zG h];simp[h]
 rw[zF h]
 by_cases h2:y.1<x.1
 ·rw[zG h2];simp[h]
 rw[zF h2];simp[h]
theorem a4S:SWO (ltOf XT) where
 irrefl x:=by rw[WS];exact zJ (List.lt_irrefl _)
 trans x y z h1 h2:=by
  rw[WS]at *;exact zI (List.lt_trans (BH h1) (BH h2))
 ntrans x y z h1 h2:=by
  rw[WS]at *;have h:=gW.1 (BJ h1);have A:=gW.1 (BJ h2);exact zJ (gW.2 (List.le_trans A h))
theorem a2E{base} l g (hg:Sx.BM base 2 l.length (l.flatMap recC) g)(hl:l.length≤100000000000000) I:Sx.yS aG 308 [Sx.gV l.length g,.func (.func 309) #[] #[]] I (Sx.gH 34 (l.flatMap recC) g)
 (fun e a3 H'=>∃l':List Ix.Rec,l'.Perm l∧l'.Pairwise (fun p q=>Ix.FZ q p=false)∧e= .returned (.tuple #[])∧H'=Sx.gH 34 (l'.flatMap recC) g):=by
 cases g with
 |none=>
  obtain⟨A,O⟩:=hg;have h0:l=[]:=bK.1 A;subst h0;exact(eH (bW iZ dE rfl) (fun w _=>dY Tryz.sortF none 0 (.func (.func 309) #[] #[]) w)).mono fun e _ H' _ ⟨A,_,G⟩=>⟨[],iM _,dU,A,G⟩
 |some q=>
  obtain⟨b,c,sp⟩:=q;refine⟨bW iZ dE rfl,fun w hw=>?_⟩;have Q:=hw.2.1 _ (.head _);have a1:b<w.heap.size:=by
   rcases dJ b w.heap.size with h|h
   ·exact h
   rw[bC h]at Q;cases Q
  have eg:∀args w,(callFunc 309 args).run aG w= .ok (.enter 309 args) w:=enters_of Tryz.func309 kR rfl;have hH:HoldsK recC 2 w b 0 l.toArray:=by
   unfold HoldsK;rw[Sx.QE GZ];exact Sx.XC Q
  have Z:CmpLays aG 309 #[] recC 2 ZI b 0 l.toArray.size w:=fun m os _ _ x y=>b2S x.1 x.2 y.1 y.2 _;have a0:=fP Tryz.sortF 2 DJ AL recC GZ (fun x v hv=>by
   simp only[aK,iC,or_false]at hv;rcases hv with rfl|rfl<;>rfl) ZI b5a 309 #[] b 0 c l.toArray w eg Z hH a1 (by simp;omega)
  refine a0.mono fun e w' ⟨A,N,n,os,O,G,h4⟩=>?_;rw[dA]at O G;have hp:=Sx.TT O;have a2:N.size=l.length:=by have:=hp.length_eq;simpa using this
  rw[←a2]at G;refine⟨I,_,?_,N.toList,hp,(Sx.sorted_in G).imp fun h=>?_,A,rfl⟩
  ·rw[h4];unfold sortWorldK putRowK;rw[show N=N.toList.toArray from(fQ (xs:=N)).symm,Sx.QE GZ];exact Sx.St.b1N n os hw (by rw[Sx.BP GZ,Sx.BP GZ,hp.length_eq])
  rw[RD]at h;exact h
theorem a5f{base} l g (hg:Sx.BM base 2 l.length (l.flatMap AX) g)(hl:l.length≤100000000000000) I:Sx.yS aG 78 [Sx.gV l.length g,.func (.func 292) #[] #[]] I (Sx.gH 41 (l.flatMap AX) g)
 (fun e a3 H'=>∃l':List (List UInt8×Int),l'.Perm l∧l'.Pairwise (fun p q=>¬q.1<p.1)∧e= .returned (.tuple #[])∧H'=Sx.gH 41 (l'.flatMap AX) g):=by
 cases g with
 |none=>
  obtain⟨A,O⟩:=hg;have h0:l=[]:=bK.1 A;subst h0;exact(eH (bW Tryz.func78 dE rfl) (fun w _=>dY Tryz.sortL none 0 (.func (.func 292) #[] #[]) w)).mono fun e _ H' _ ⟨A,_,G⟩=>⟨[],iM _,dU,A,G⟩
 |some q=>
  obtain⟨b,c,sp⟩:=q;refine⟨bW Tryz.func78 dE rfl,fun w hw=>?_⟩;have Q:=hw.2.1 _ (.head _);have a1:b<w.heap.size:=by
   rcases dJ b w.heap.size with h|h
   ·exact h
   rw[bC h]at Q;cases Q
  have eg:∀args w,(callFunc 292 args).run aG w= .ok (.enter 292 args) w:=enters_of Tryz.func292 kR rfl;have hH:HoldsK AX 2 w b 0 l.toArray:=by
   unfold HoldsK;rw[Sx.QE BL];exact Sx.XC Q
  have Z:CmpLays aG 292 #[] AX 2 XT b 0 l.toArray.size w:=fun m os _ _ x y=>c1x x.1 y.1 x.2 y.2 _;have a0:=fP Tryz.sortL 2 NS CQ AX BL (fun x v hv=>by
   simp only[aK,iC,or_false]at hv;rcases hv with rfl|rfl<;>rfl) XT a4S 292 #[] b 0 c l.toArray w eg Z hH a1 (by simp;omega)
  refine a0.mono fun e w' ⟨A,N,n,os,O,G,h4⟩=>?_;rw[dA]at O G;have hp:=Sx.TT O;have a2:N.size=l.length:=by have:=hp.length_eq;simpa using this
  rw[←a2]at G;refine⟨I,_,?_,N.toList,hp,(Sx.sorted_in G).imp fun h=>?_,A,rfl⟩
  ·rw[h4];unfold sortWorldK putRowK;rw[show N=N.toList.toArray from(fQ (xs:=N)).symm,Sx.QE BL];exact Sx.St.b1N n os hw (by rw[Sx.BP BL,Sx.BP BL,hp.length_eq])
  rw[WS]at h;exact BJ h
