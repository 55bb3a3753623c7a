/-
  Own texts on the laws of the seat, joined: the logic, and contracts of functions. Conditions: none.
-/
import Derived.Test.YtojdemmgkdokmaaGreatDoorNmH
import Derived.Test.YtojdemmgkdokmaaGreatDoorPH5
import Derived.Sort.Walk0
import Derived.Deep.Draws
import Derived.Shelf.SlGeneric
import Derived.Shelf.SlLaysF0
import Derived.Ground.SlsfProg
import Derived.Shelf.GgSortFunc.InsertionK
import Derived.Shelf.SlSortCmp.WholeK
import Derived.Shelf.SlSortCmp.NoneTotal
set_option linter.all false
set_option maxRecDepth 100000
set_option maxHeartbeats 40000000
open Go.Sx.Le renaming trans -> aA,refl -> aO
open Go.Sx.J renaming z -> aB,op -> aQ,nil -> gG,eqv -> gI
open Go.Lib renaming compareInt -> aC,compact -> bT,compareBytes -> gZ
open Go.Sx.HSub renaming c -> aF,n -> aS
open Go.Proofs.Tryz renaming prog -> aG,ntmps34 -> iW,func255 -> jA,func157 -> jB
open List renaming length_append -> aH,append_nil -> aI,mem_cons -> aK,length_mergeSort -> aN,getElem?_eq_getElem -> aV,pairwise_cons -> aW,mem_singleton -> bD,map_append -> bF,cons_lt_cons_iff -> bH,length_eq_zero_iff -> bK,append_assoc -> bM,getElem?_append_left -> bV,size_toArray -> dA,take_succ_eq_append_getElem -> dD,length_take -> dF,perm_append_comm -> dH,getElem?_append_right -> dP,flatMap_cons -> dR,getElem?_eq_some_iff -> dV,mem_of_find?_eq_some -> dW,length_filterMap_le -> eH,nil_sublist -> eX,take_of_length_le -> fD,flatMap_append -> fQ,not_lt -> gW,length_cons -> gX,not_mem_nil -> iC,length_map -> iD,find?_some -> iH,replicate -> iI
open Go.Sx.JA renaming tk -> aJ,fix -> eY,pull -> iL
open Ke renaming raw -> aP,first -> bI,textOf -> bY,books -> dL,a0d -> dS,book -> dY,a0g -> dZ,title -> eP,words -> gY,a0x -> iO,all -> iR
open Go.Sx.CSub renaming n -> aT
open Go.Sx.Cj renaming region -> aU,ret -> bQ,skip -> cO,block -> eU,seq -> fE,FT -> fM,exit -> gB,keep -> iK
open Go.Sx.yR renaming QE -> aX
open Go.Sx.Ej renaming seq -> aY,FN -> dK,bare -> fG,LC -> fJ,round -> fK,KH -> iG,keep -> iJ,a2G -> iP
open Option renaming toList -> aZ,map_some -> fC
open Array renaming getElem?_eq_none -> bC,getElem?_append_left -> dQ,getElem?_modify -> fH,toArray_toList -> fP,ext_getElem? -> fV,extract_size -> fZ
open Go.Sx.Keeps renaming d -> bG,r -> dM,k -> eF
open Go.Sx.CG renaming one -> bJ,none -> dG
open Go.Proofs.SlLaysF0 renaming n6 -> bP
open Nat renaming zero_le -> bU,lt_or_ge -> dJ,min_eq_left -> fB
open Go.Sx.Enters renaming of -> bW
open Go.Sx.zM renaming c -> bZ,z -> iF
open Go.Sort renaming ahead -> cZ,grow -> dI
open Go.Proofs renaming bytesLess_eq -> dB
open Go.Value renaming oneCell' -> dN
open List.Pairwise renaming nil -> dU
open Go.Proofs.AnyF renaming slices_SortFunc_none -> dX
open Go.Sx.Pure renaming of_same -> eG
open Go.Shelf renaming Ren -> fA
open Go.Sx.AV renaming z -> fF
open Go.Proofs.AnyQ renaming slices_SortFunc -> fO
open Go.Sx.Src renaming slice -> fU
open Go.Instr renaming sliceBounds -> gJ,sliceAt -> iQ,slice -> jC
open Bool renaming eq_false_iff -> gK
open Go.Op renaming stringOp -> gQ
open Go.World renaming cell? -> gU
open UInt8 renaming toNat_inj -> iE,not_lt -> iZ
open List.Perm renaming refl -> iM
open Go.Sx.QM renaming keep -> iT,a6L -> iU
open BitVec renaming ofInt -> iV
open Go.Sx.Pull renaming z -> iY
namespace Go.Proofs.YtojdemmgkdokmaaGreatDoor
open _root_.Go.Proofs.Tryz
open Go Go.Sx
theorem a6l{base}(l:List (List UInt8)) g (hg:CU base 1 l.length (l.map str) g)(hl:l.length≤100000000000000) I:yT aG 97 [gV l.length g] I (gH 9 (l.map str) g)
 (fun e Z H'=>e= .returned (.tuple #[])∧H'=gH 9 ((l.mergeSort fun x y=>decide (x≤y)).map str) g):=by
 cases g with
 |none=>
  obtain⟨h1,h2⟩:=a8Q hg;subst h1;exact(eG (bW func97 dE rfl) (fun w _=>Tryz.slices_Sort_string_none none 0 w)).mono fun e Z H' _ ⟨h1,_,h3⟩=>⟨h1,h3⟩
 |some q=>
  obtain⟨b,c,sp⟩:=q;refine⟨bW func97 dE rfl,fun w G=>?_⟩;have A:=G.2.1 _ (.head _);have O:b<w.heap.size:=by
   rcases dJ b w.heap.size with h|h
   ·exact h
   rw[bC h]at A;cases A
  exact(Tryz.slices_Sort_string b 0 c l w (a9O A) O oM).mono fun e w' ⟨h1,n,os,h2⟩=>⟨I,_,h2▸St.row n os G sI,h1,rfl⟩
theorem a2o{base} l g (hg:CU base 1 l.length (l.map str) g)(hl:l.length≤100000000000000) I:yT aG 98 [gV l.length g] I (gH 9 (l.map str) g)
 (fun e G H'=>∃h,CU base 1 (bT l).length ((bT l).map str) h∧e= .returned (gV (bT l).length h)∧H'=gH 9 ((bT l).map str) h):=by
 cases g with
 |none=>
  obtain⟨h1,h2⟩:=a8Q hg;subst h1;exact(eG (bW func98 dE rfl) (fun w _=>Tryz.slices_Compact_string_empty none 0 w)).mono fun e G H' _ ⟨h1,_,h3⟩=>⟨none,⟨rfl,rfl⟩,h1,h3⟩
 |some q=>
  obtain⟨b,c,sp⟩:=q;obtain⟨O,Z,g3⟩:=hg;rw[iD]at Z g3;have a0:=Lib.compact_length_le l;refine⟨bW func98 dE rfl,fun w A=>?_⟩;refine(Tryz.slices_Compact_string b 0 c l w (a9O (A.2.1 _ (.head _))) oM oM).mono fun e w' ⟨h1,n,h2⟩=>?_;have h3:=St.row (l':=bT l++iI (l.length-(bT l).length) []) n #[] A (by simp;omega);rw[Go.Sort.grow_empty,←h2,bF,bM]at h3;refine⟨I,_,h3,some (b,c,(iI (l.length-(bT l).length) []).map str++sp),⟨O,sI,by simp;omega⟩,h1,rfl⟩
theorem b5o{α:Type}(l:List α)(x:α):(l++[x]).length=l.length+1:=sI
def OV (l:List Ke.JC):List (List UInt8):=l.flatMap dL
theorem c0l{fs:List Ke.JC}{k f}(h:fs[k]?=some f):OV (fs.take (k+1))=OV (fs.take k)++dL f:=by
 obtain⟨A,hg⟩:=dV.1 h;unfold OV;rw[dD A,hg,fQ];simp
def bk (l:List Ke.Sub):List (List UInt8):=l.filterMap dY
theorem c5h{ss:List Ke.Sub}{k s}(h:ss[k]?=some s):bk (ss.take (k+1))=bk (ss.take k)++(dY s).toList:=by
 obtain⟨A,hg⟩:=dV.1 h;unfold bk;rw[dD A,hg,List.filterMap_append];cases hb:dY s<;>simp[hb]
theorem c6G l:(bk l).length≤l.length:=eH _ _
theorem c0s f:(dL f).length≤f.subs.length:=by
 unfold dL;split
 ·exact eH _ _
 exact bU _
theorem a6U:∀{l:List Ke.JC},(∀f∈l,f.subs.length≤2000000)→(OV l).length≤2000000*l.length
 |[],_=>bU _
 |f::r,h=>by
  have h1:=c0s f;have h2:=h f (.head _);have h3:=a6U fun g hg=>h g (.tail _ hg);unfold OV at h3 ⊢;simp only[dR,aH,gX];omega
theorem c5v{ss s}(h:s∈ss):s.text.length≤FM ss:=by
 induction ss with
 |nil=>cases h
 |cons t r A=>
  unfold FM at A ⊢;rw[List.map_cons,List.sum_cons];rcases aK.1 h with rfl|h
  ·omega
  have:=A h;omega
theorem c0n s:(dZ s).1.length≤s.length+13:=by
 have h:=b1t s;unfold dZ Ke.b1a
 split
 ·simp;omega
 split
 ·exact IU h (Nat.le_add_right _ _)
 exact bU _
theorem b8c{s}(h1:(dZ s.text).2=true)(h2:((s.code.toNat:Int) == 97)=true):dY s=some (Ke.b4Z++(dZ s.text).1):=by
 have h3:(s.code.toNat:Int)=97:=CS h2;exact zG ⟨h1,iE.1 (by rw[show(97:UInt8).toNat=97 from rfl];omega)⟩
theorem a9x{s}(h:((dZ s.text).2 && ((s.code.toNat:Int) == 97))=false):dY s=none:=by
 refine zF fun⟨h1,h2⟩=>?_;rw[h1,h2]at h;exact absurd h dE
theorem c4Q{l:List (List UInt8)}{x:List UInt8}(h:l[0]?=some x):l=x::l.tail:=by
 cases l with
 |nil=>simp at h
 |cons a r=>simp at h;subst h;rfl
theorem b9Z{fs}(h:FOK fs):(eP fs).length≤100000000:=by
 have h1:=a6m [50,52,53] h;have h2:=YN (bI fs [50,52,53]) [97,98];have h3:=Ke.a6p (Ke.cut (bY (bI fs [50,52,53]) [97,98]) (Ke.skip (bI fs [50,52,53]):Int));have A:(Ke.cut (bY (bI fs [50,52,53]) [97,98]) (Ke.skip (bI fs [50,52,53]):Int)).length≤(bY (bI fs [50,52,53]) [97,98]).length:=by unfold Ke.cut;simp
 unfold eP Ke.KC;omega
theorem c6D fs v rk rl (a2:FOK fs) I (hr:QW I fs v):yT aG 55 [a8V rk rl v] I [] (fun e I' H'=>∃w,e= .returned w∧JX 9 I' (iR fs) w∧H'=[]):=by
 have bn:=a2.1;obtain⟨p,c,rfl,_,hp⟩:=id hr.1;have bo:=b9Z a2;have bp:=a6m [49,48,48] a2;have bm:=YN (bI fs [49,48,48]) [97];obtain⟨p1,_,c1,ay⟩:=b1y [49,48,48] hr;refine yT.ZR func55 rfl dE (Nat.le_of_ble_eq_true rfl) ?_;intro w0 _;refine Cj.sr (aQ rfl (BL ?_));intro b1 _;refine aB yQ ?_;refine J.yV (aB yQ ?_);refine J.AO (aU (aB (qq2 (off':=2) VX SQ) ?_));refine aB (yX a1z (yR.at 0 rfl)) ?_;refine aB (AU QA) ?_;refine aB yP ?_;refine J.ns (eU (Cj.loop (ι:=Nat×Gs) (fun j=>j.1≤fs.length∧CU w0.heap.size 1 (OV (fs.take j.1)).length ((OV (fs.take j.1)).map str) j.2) (fun j=>fs.length-j.1) (fun j=>[(1,ptr b1 0),(3,gV (OV (fs.take j.1)).length j.2),(16,.slice p fs.length c),(17,i64 (fs.length:Int)),(18,i64 (j.1:Int))]) (fun j=>_) (fun j=>(b1,yY 55 [u8 rk,u8 rl,.slice p fs.length c])::gH 9 ((OV (fs.take j.1)).map str) j.2) (0,none) ⟨bU _,rfl,rfl⟩ rT rfl rfl ?_));rintro⟨j,g⟩ ⟨hj,hg⟩;dsimp only at hj hg ⊢;have ba:=a6U (l:=fs.take j) fun f hf=>(a2.2 f (List.mem_of_mem_take hf)).1;rw[dF,fB hj]at ba;refine Cj.sr (aB BM ?_);refine J.nss (Cj.cond rfl (fun ag=>?_) (fun ag=>?_))
 ·have az:=BH ag;have ar:j<fs.length:=oM;obtain⟨f,ae⟩:∃f,fs[j]?=some f:=⟨_,DX ar⟩;have a5:=c0l ae;have au:=FB ae;have bq:=a2.2 f au;obtain⟨p2,c2,av,ag,bb⟩:=hr.2 f au;obtain⟨fb,fo,_,_,_,sp,rfl,bc,bd⟩:=hp (AX ar);refine cO (aY (fE (eU (Cj.sr (aB (BG (off':=fo+j*4) QA GV) ?_)))));refine aB (FH QY GV (yR.TS bc) (EJ PY bd ae)) ?_;refine aQ rfl (BP UC ?_);intro _ _;refine aQ rfl (EM 0 rfl rfl rfl rfl rfl (a1n av) GV rfl rfl (bZ (bZ (bZ (bZ iF)))) fF ?_);refine J.AO (aU (aB (qq2 (off':=0) KW zL) ?_));refine aB (yX BX (yR.at 0 rfl)) ?_;refine aB (LH rfl rfl rfl) ?_;refine J.cd (fun aa=>?_) (fun aa=>?_)
  ·have b0:=bne_iff_ne.1 aa;have ah:dL f=[]:=zF (bne_iff_ne.1 aa);refine gB (iG (fJ (aY (aU (aB (yZ rfl rfl rfl (AA oM)) ?_)))));refine aB yP ?_;refine gG (iJ (bG (eF dM)) ?_);refine fK (j+1,g) ⟨dO,by dsimp only;rw[a5,ah,aI];exact hg⟩ dO ⟨rfl,by dsimp only;rw[a5,ah,aI];rfl,rfl,rfl,rfl,trivial⟩ rfl (by dsimp only;rw[a5,ah,aI])
  have b0:=EC aa;have be:f.tag=[48,50,48]:=by have h:=aa;simpa using h
  refine cO (aY (Cj.sr (aB (qq2 (off':=3) KW ZU) ?_)));refine aB (yX isAgg58 (yR.at 0 rfl)) ?_;refine gI 26 rfl (show _= .slice p2 f.subs.length c2 from av) ?_;refine aB (AU WY) ?_;refine aB yP ?_;refine J.ns (eU (iK (bG (eF dM)) ?_));refine Cj.loop (ι:=Nat×Gs) (fun k=>k.1≤f.subs.length∧CU w0.heap.size 1 (OV (fs.take j)++bk (f.subs.take k.1)).length ((OV (fs.take j)++bk (f.subs.take k.1)).map str) k.2) (fun k=>f.subs.length-k.1) (fun k=>[(1,ptr b1 0),(3,gV (OV (fs.take j)++bk (f.subs.take k.1)).length k.2),(16,.slice (some ⟨fb,fo,none⟩) fs.length c),(17,i64 (fs.length:Int)),(18,i64 (j:Int)),(26,.slice p2 f.subs.length c2),(27,i64 (f.subs.length:Int)),(28,i64 (k.1:Int))]) (fun k=>_) (fun k=>(b1,yY 55 [u8 rk,u8 rl,.slice (some ⟨fb,fo,none⟩) fs.length c])::gH 9 ((OV (fs.take j)++bk (f.subs.take k.1)).map str) k.2) (0,g) ⟨bU _,by rw[show bk (f.subs.take 0)=[] from rfl,aI];exact hg⟩ ⟨rfl,by rw[show bk (f.subs.take 0)=[] from rfl,aI];rfl,rfl,rfl,rfl,rfl,rfl,rfl,trivial⟩ rfl (by rw[show bk (f.subs.take 0)=[] from rfl,aI]) ?_;rintro⟨k,h⟩ ⟨hk,hh⟩;dsimp only at hk hh ⊢;have bf:=c6G (f.subs.take k);rw[dF,fB hk]at bf;have br:(OV (fs.take j)++bk (f.subs.take k)).length=(OV (fs.take j)).length+(bk (f.subs.take k)).length:=aH;refine Cj.sr (aB BM ?_);refine J.nss (Cj.cond rfl (fun ai=>?_) (fun ai=>?_))
  ·have hc5p:=BH ai;have aj:k<f.subs.length:=oM;obtain⟨x,a8⟩:∃x,f.subs[k]?=some x:=⟨_,DX aj⟩;obtain⟨_,so,_,_,_,_,rfl,b2,bg⟩:=bb (AX aj);have Z:=c5h a8;have bh:=c5v (FB a8);have bt:=c0n x.text;refine cO (aY (fE (eU (Cj.sr (aB (BG (off':=so+k*2) WY UK) ?_)))));refine aB (FH isAgg62 UK (yR.TS b2) (EJ ZW bg a8)) ?_;refine aQ rfl (BP a1y ?_);intro _ _;refine aQ rfl (zS 0 UK (bZ (bZ iF)) fF ?_);refine J.yV (aB (qq2 (off':=1) a0o zL) ?_);refine aB (yX BX (yR.at 0 rfl)) ?_;refine aQ rfl (yU rfl rfl rfl rfl rfl (a8N x.text oM _) ?_);refine aB yP ?_;refine aB AQ ?_;refine aB AQ ?_;refine aB yQ ?_;refine aB yQ ?_;refine J.yV (aB yP ?_);refine aB yP ?_;refine J.split 39 rfl (fun G=>?_) (fun G=>?_)
   rotate_left
   ·have hi:(dZ x.text).2=false:=G;have O:dY x=none:=a9x (by rw[hi];rfl);refine zO 1 39 40 true G ?_;refine zO 1 39 41 true G ?_;refine zO 1 39 42 true G ?_;refine aB (DV G) ?_;refine J.c0 (fun _=>?_);refine cO (dK (aY (aU (aB (yZ rfl rfl rfl (AA oM)) ?_))));refine aB yP ?_;refine gG (iJ (bG (eF dM)) ?_);refine fK (k+1,h) ⟨dO,by dsimp only;rw[Z,O,aZ,aI];exact hh⟩ dO ⟨rfl,by dsimp only;rw[Z,O,aZ,aI];rfl,rfl,rfl,rfl,rfl,rfl,rfl,trivial⟩ rfl (by dsimp only;rw[Z,O,aZ,aI])
   have hi:(dZ x.text).2=true:=G;refine zU 1 39 true G (zK (qq2 (off':=0) a0o RF) ?_);refine zU 1 39 true G (zK (yX tA5 (yR.at 0 rfl)) ?_);refine zU 1 39 true G (zK BO ?_);refine aB (DY G) ?_;refine J.cd (fun ab=>?_) (fun ab=>?_)
   ·have b3:=CS ab;have O:=b8c hi ab;refine aU (aB yP ?_);refine aB yP ?_;refine aB (EZ rfl rfl rfl (by first|omega|(simp only[aH];omega)|(simp;omega))) ?_;refine aQ rfl (AZ AP zL JG (bJ rfl dG) ?_);intro _ _;refine aQ rfl (BJ (by':=15) [_,_,_] rfl rfl rfl rfl rfl AP (.inr ⟨_,AP⟩) kR zL JG rfl hh rfl (fU (yR.at 0 rfl) rfl rfl rfl) oM ?_);intro bi b4;refine aB yQ ?_;refine gG (dK (aY (aU (aB (yZ rfl rfl rfl (AA oM)) ?_))));refine aB yP ?_;refine gG (iJ (bG (bG (eF dM))) ?_);refine fK (k+1,bi) ⟨dO,by dsimp only;rw[Z,O,aZ,←bM,bF,b5o];exact b4⟩ dO ⟨rfl,by dsimp only;rw[Z,O,aZ,←bM,b5o];rfl,rfl,rfl,rfl,rfl,rfl,rfl,trivial⟩ rfl (by dsimp only;rw[Z,O,aZ,←bM,bF];rfl)
   have b3:=CX ab;have O:dY x=none:=a9x (by rw[hi];exact ab);refine cO (dK (aY (aU (aB (yZ rfl rfl rfl (AA oM)) ?_))));refine aB yP ?_;refine gG (iJ (bG (eF dM)) ?_);refine fK (k+1,h) ⟨dO,by dsimp only;rw[Z,O,aZ,aI];exact hh⟩ dO ⟨rfl,by dsimp only;rw[Z,O,aZ,aI];rfl,rfl,rfl,rfl,rfl,rfl,rfl,trivial⟩ rfl (by dsimp only;rw[Z,O,aZ,aI])
  have hc5p:=BN ai;have bj:f.subs.take k=f.subs:=fD oM;have ak:OV (fs.take j)++dL f=OV (fs.take j)++bk (f.subs.take k):=by rw[bj];unfold dL;rw[zG be];rfl
  refine gB (iG (Ej.JK (fJ (dK (aY (aU (aB (yZ rfl rfl rfl (AA oM)) ?_)))))));refine aB yP ?_;refine gG (fK (j+1,h) ⟨dO,by dsimp only;rw[a5,ak];exact hh⟩ dO ⟨rfl,by dsimp only;rw[a5,ak];rfl,rfl,rfl,rfl,trivial⟩ rfl (by dsimp only;rw[a5,ak]))
 have az:=BN ag;have a9:fs.take j=fs:=fD oM;refine gB (iG (Ej.JK (fJ (aY (fE (Cj.sr (aB (zX a0n MG (yR.at 0 rfl)) ?_)))))));refine aQ rfl (yU rfl rfl rfl rfl rfl (c0Y fs _ rk rl a2 _ hr) ?_);refine aB yQ ?_;refine J.yV (aB yP ?_);refine aB (LH rfl rfl rfl) ?_;refine J.cd (fun a3=>?_) (fun a3=>?_)
 ·have ao:=bne_iff_ne.1 a3;have hT:eP fs≠[]:=bne_iff_ne.1 a3;refine Cj.sr (aB (zX a0n MG (yR.at 0 rfl)) ?_);refine aQ rfl (yS (H1:=[]) rfl rfl rfl rfl rfl (b5f fs _ rk rl [49,48,48] [97] a2 _ hr) ?_ (fun _ _ _ _ h=>by cases h.1) (fun _ _ h=>by cases h.1));intro _ _ _ ap b5;have hr:=hr.mono ap;obtain⟨h,rfl⟩:=b5;cases h;refine aB yP ?_;refine aB AQ ?_;refine aB AQ ?_;refine aQ rfl (BP UC ?_);intro _ _;refine aB yQ ?_;refine aQ rfl (EM 0 rfl rfl rfl rfl rfl (a1n ay) GV rfl rfl (bZ (bZ (bZ (bZ iF)))) fF ?_);refine J.yV (aQ rfl (BP JG ?_));intro aw _;refine aQ rfl (zS 0 zL (bZ iF) fF ?_);refine J.AO (aU (aB yP ?_));refine aQ rfl (FU rfl rfl rfl rfl rfl (a6j (bY (bI fs [49,48,48]) [97]) _) ?_ (fun _ _ _ _ ⟨_,h,_⟩=>by cases h) (fun _ _ ⟨_,h,_⟩=>by cases h));intro _ _ _ aq b6 b7;have hr:=hr.mono aq;obtain⟨sb,h,rfl⟩:=b7;cases h;refine J.persist (b6 _ (.head _)) (fun I9 af a4=>?_);refine J.ns (eU (Cj.rangeFunc (ps:=[62]) (H1:=[_]) (R:=(_::_::gH _ _ _)) ((gY (bY (bI fs [49,48,48]) [97])).map fun w=>[str w]) (fun k I' H'=>k=0∧H'=[(aw,yY 9 [str []])]) (fun cc I' H'=>cc= .exit 4∧∃x r,gY (bY (bI fs [49,48,48]) [97])=x::r∧H'=[(aw,yY 9 [str x])]) rfl (a2E rfl) (seq1 _ _) rfl (a5d sb _ oM _ a4) (fun _ _ _ _ _ h=>h) rT ?_ ?_ ?_))
  ·intro l r k args _ _ _ hk ac hY;have a4:=ac _ _ a4;obtain⟨x,hx,rfl⟩:=a9j hk;obtain⟨rfl,rfl⟩:=hY;refine aU (aB yQ ?_);refine gG (Ej.asg ?_);refine eU (Cj.sr (aB yP ?_));refine aQ rfl (zS 1 zL (bZ iF) (AV.s fF) ?_);refine J.ns (gB (Ej.b3j rfl ?_));exact Ej.c6u ⟨rfl,x,_,c4Q hx,rfl⟩
  ·intro _ I2 H2 ac hY;have a4:=ac _ _ a4;rw[iD]at hY;obtain⟨bl,rfl⟩:=hY;have al:((gY (bY (bI fs [49,48,48]) [97])).head?.getD [])=[]:=by rw[bK.1 bl];rfl
   refine dK (aY (aU (aB yP ?_)));refine aB yP ?_;refine aB (EZ rfl rfl rfl (by first|omega|(simp only[aH];omega)|(simp;omega))) ?_;refine aB (EZ rfl rfl rfl (by first|omega|(simp only[aH];omega)|(simp;omega))) ?_;refine aB (yX BX (yR.at 1 rfl)) ?_;refine aB (EZ rfl rfl rfl (by first|omega|(simp only[aH];omega)|(simp;omega))) ?_;refine aQ rfl (AZ AP zL JG (bJ rfl dG) ?_);intro _ _;refine aQ rfl (BJ (by':=15) [_,_,_,_,_] rfl rfl rfl rfl rfl AP (.inr ⟨_,AP⟩) kR zL JG rfl hg rfl (fU (yR.at 0 rfl) rfl rfl rfl) oM ?_);intro a6 b8;refine aB yQ ?_;refine J.nss (iK (bG (eF (bG (bG (bG dM))))) ?_);refine Cj.perm (H':=gH _ _ _++[_]) dH ?_;have A:OV (fs.take j)++[[116,105,116,108,101,32]++eP fs++[32,47,32]++[]]=aP fs:=by unfold aP iO;rw[a9,zF hT,al];rfl
   have a0:CU w0.heap.size 1 (aP fs).length ((aP fs).map str) a6:=by rw[←A,bF,aH];exact b8
   have a1:(aP fs).length≤100000000000000:=by rw[←A];simp;omega
   refine aU (aB yP ?_);refine gI 72 rfl (show _=gV (aP fs).length a6 from(by rw[←A,aH];rfl)) ?_;rw[show gH 9 _ a6=gH 9 ((aP fs).map str) a6 from zD (fun l=>gH 9 l a6) (by rw[←A,bF];rfl)];refine aQ rfl (yS (H1:=gH _ _ _) rfl rfl rfl rfl rfl (a6l (aP fs) _ a0 a1 _) ?_ (fun _ _ _ _ h=>by cases h.1) (fun _ _ h=>by cases h.1));rintro v9 I9 H9 af ⟨h,rfl⟩;cases h;refine J.yV (aB yP ?_);refine gI 74 rfl (show _=gV ((aP fs).mergeSort fun x y=>decide (x≤y)).length a6 from(by rw[aN,←A,aH];rfl)) ?_;refine aQ rfl (yS (H1:=gH _ _ _) rfl rfl rfl rfl rfl (a2o ((aP fs).mergeSort fun x y=>decide (x≤y)) _ (by rw[aN];exact VI a0 sI) (by rw[aN];exact a1) _) ?_ (fun _ _ _ _ h=>by obtain⟨_,_,h,_⟩:=h;cases h) (fun _ _ h=>by obtain⟨_,_,h,_⟩:=h;cases h));rintro v8 I8 H8 am ⟨g2,ad,h,rfl⟩;cases h;refine J.a0U ad (fun I7 an hv=>?_);refine aB yQ ?_;refine J.ns (bQ (iP (.inl rfl) ?_));refine QM.mark 0 rfl fF ?_;refine iT (eX _) ?_;exact iU rfl rfl ⟨_,rfl,(by rw[show iR fs=_ from(dS _).symm];exact hv),rfl⟩
  intro _ cc I2 H2 ac hY;have a4:=ac _ _ a4;obtain⟨rfl,x,r,ax,rfl⟩:=hY;have al:((gY (bY (bI fs [49,48,48]) [97])).head?.getD [])=x:=by rw[ax];rfl
  have bh:=Ke.a0Y _ x (by rw[ax];exact List.mem_cons_self);refine gB (fJ (aY (aU (aB yP ?_))));refine aB yP ?_;refine aB (EZ rfl rfl rfl (by first|omega|(simp only[aH];omega)|(simp;omega))) ?_;refine aB (EZ rfl rfl rfl (by first|omega|(simp only[aH];omega)|(simp;omega))) ?_;refine aB (yX BX (yR.at 1 rfl)) ?_;refine aB (EZ rfl rfl rfl (by first|omega|(simp only[aH];omega)|(simp;omega))) ?_;refine aQ rfl (AZ AP zL JG (bJ rfl dG) ?_);intro _ _;refine aQ rfl (BJ (by':=15) [_,_,_,_,_] rfl rfl rfl rfl rfl AP (.inr ⟨_,AP⟩) kR zL JG rfl hg rfl (fU (yR.at 0 rfl) rfl rfl rfl) oM ?_);intro a7 b9;refine aB yQ ?_;refine J.nss (iK (bG (eF (bG (bG (bG dM))))) ?_);refine Cj.perm (H':=gH _ _ _++[_]) dH ?_;have A:OV (fs.take j)++[[116,105,116,108,101,32]++eP fs++[32,47,32]++x]=aP fs:=by unfold aP iO;rw[a9,zF hT,al];rfl
  have a0:CU w0.heap.size 1 (aP fs).length ((aP fs).map str) a7:=by rw[←A,bF,aH];exact b9
  have a1:(aP fs).length≤100000000000000:=by rw[←A];simp;omega
  refine aU (aB yP ?_);refine gI 72 rfl (show _=gV (aP fs).length a7 from(by rw[←A,aH];rfl)) ?_;rw[show gH 9 _ a7=gH 9 ((aP fs).map str) a7 from zD (fun l=>gH 9 l a7) (by rw[←A,bF];rfl)];refine aQ rfl (yS (H1:=gH _ _ _) rfl rfl rfl rfl rfl (a6l (aP fs) _ a0 a1 _) ?_ (fun _ _ _ _ h=>by cases h.1) (fun _ _ h=>by cases h.1));rintro v9 I9 H9 af ⟨h,rfl⟩;cases h;refine J.yV (aB yP ?_);refine gI 74 rfl (show _=gV ((aP fs).mergeSort fun x y=>decide (x≤y)).length a7 from(by rw[aN,←A,aH];rfl)) ?_;refine aQ rfl (yS (H1:=gH _ _ _) rfl rfl rfl rfl rfl (a2o ((aP fs).mergeSort fun x y=>decide (x≤y)) _ (by rw[aN];exact VI a0 sI) (by rw[aN];exact a1) _) ?_ (fun _ _ _ _ h=>by obtain⟨_,_,h,_⟩:=h;cases h) (fun _ _ h=>by obtain⟨_,_,h,_⟩:=h;cases h));rintro v8 I8 H8 am ⟨g2,ad,h,rfl⟩;cases h;refine J.a0U ad (fun I7 an hv=>?_);refine aB yQ ?_;refine J.ns (bQ (iP (.inl rfl) ?_));refine QM.mark 0 rfl fF ?_;refine iT (eX _) ?_;exact iU rfl rfl ⟨_,rfl,(by rw[show iR fs=_ from(dS _).symm];exact hv),rfl⟩
 have ao:=EC a3;have hT:eP fs=[]:=by have h:=a3;simpa using h
 refine cO (aY (fE (iK (bG dM) ?_)));refine Cj.perm (H':=gH _ _ _++[]) (by rw[aI]) ?_;have A:OV (fs.take j)=aP fs:=by unfold aP iO;rw[a9,zG hT,aI];rfl
 have a0:CU w0.heap.size 1 (aP fs).length ((aP fs).map str) g:=by rw[←A];exact hg
 have a1:(aP fs).length≤100000000000000:=by rw[←A];omega
 refine aU (aB yP ?_);refine gI 72 rfl (show _=gV (aP fs).length g from(by rw[←A])) ?_;rw[show gH 9 _ g=gH 9 ((aP fs).map str) g from zD (fun l=>gH 9 l g) (by rw[←A])];refine aQ rfl (yS (H1:=gH _ _ _) rfl rfl rfl rfl rfl (a6l (aP fs) _ a0 a1 _) ?_ (fun _ _ _ _ h=>by cases h.1) (fun _ _ h=>by cases h.1));rintro v9 I9 H9 af ⟨h,rfl⟩;cases h;refine J.yV (aB yP ?_);refine gI 74 rfl (show _=gV ((aP fs).mergeSort fun x y=>decide (x≤y)).length g from(by rw[aN,←A])) ?_;refine aQ rfl (yS (H1:=gH _ _ _) rfl rfl rfl rfl rfl (a2o ((aP fs).mergeSort fun x y=>decide (x≤y)) _ (by rw[aN];exact VI a0 sI) (by rw[aN];exact a1) _) ?_ (fun _ _ _ _ h=>by obtain⟨_,_,h,_⟩:=h;cases h) (fun _ _ h=>by obtain⟨_,_,h,_⟩:=h;cases h));rintro v8 I8 H8 am ⟨g2,ad,h,rfl⟩;cases h;refine J.a0U ad (fun I7 an hv=>?_);refine aB yQ ?_;refine J.ns (bQ (iP (.inl rfl) ?_));refine iT (eX _) ?_;exact iU rfl rfl ⟨_,rfl,(by rw[show iR fs=_ from(dS _).symm];exact hv),rfl⟩
end Go.Proofs.YtojdemmgkdokmaaGreatDoor
namespace Go.Sx
open Go
@[reducible] def a7l:DR:=⟨true⟩
attribute [local instance] a7l
theorem yT.same{P f args I H v}(G:Enters P f)(h:∀w,Ready I H w→Calls P f args.toArray w fun e w'=>e= .returned v∧w'=w):yT P f args I H (fun e O H'=>e= .returned v∧O=I∧H'=H):=
 ⟨G,fun w A=>(h w A).mono fun _ w' ⟨h1,h2⟩=>⟨I,H,by subst h2;exact St.start w' I H A.1 A.2.1 A.2.2.1 A.2.2.2,h1,rfl,rfl⟩⟩
theorem yT.grows{P f args v}{A:Ending→Heap→HL→Prop}(h:yT P f args (fun _=>none) [] A)(G:∀e O H',A e O H'→e= .returned v) w:Calls P f args.toArray w fun e w'=>e= .returned v∧∃q Z,w'=dI (w.drewN q) Z:=
 have hr:Ready (fun _=>none) [] w:=by
  unfold Ready;exact⟨(fun b o hb=>by cases hb),(fun p G=>by cases G),dU,(fun p G=>by cases G)⟩
 (h.2 w hr).mono fun e w' ⟨O,H',hs,hq⟩=>⟨G e O H' hq,w'.drawn-w.drawn,w'.heap.extract w.heap.size w'.heap.size,by
  have hh:w'.heap=w.heap++w'.heap.extract w.heap.size w'.heap.size:=by
   apply fV
   intro i;rw[Array.getElem?_append]
   split
   ·rename_i hi;exact hs.frm i hi sI
   rename_i hi
   rw[Array.getElem?_extract]
   split
   ·congr 1;omega
   rw[bC oM]
  have h1:=hs.os;have h2:=hs.tape;have h3:=hs.output;have h4:=hs.drw rfl;have h5:w.drawn+(w'.drawn-w.drawn)=w'.drawn:=oM;unfold dI World.drewN;rw[h5];cases w';cases w;simp only at h1 h2 h3 hh ⊢;subst h1 h2 h3;rw[←hh]⟩
end Go.Sx
namespace Go.Sx
open Go
section
variable {cx:Cx} {Q:Qt} {o:Oper} {e:Env} {I:Heap} {H:HL} {C:Ct} {S:World→Prop}
end
section
variable {cx:Cx} {Q:Qt} {o:Oper} {e:Env} {I:Heap} {H:HL} {C:Ct} {S:World→Prop}
theorem b8v{x y T U l m}(G:o.op= .binOp .lss T x y U)(O:ev e x=some (str l))(Z:ev e y=some (str m)):DK cx o e S (.bool (decide (l<m))):=by
 intro a w A _;have h:=dB l m;simp[execOp,G,A.eval O,A.eval Z,str,eqGuard_at_string,binOp,gQ,h]
theorem c0I{x y T U l m}(G:o.op= .binOp .geq T x y U)(O:ev e x=some (str l))(Z:ev e y=some (str m)):DK cx o e S (.bool (!decide (l<m))):=by
 intro a w A _;have h:=dB l m;simp[execOp,G,A.eval O,A.eval Z,str,eqGuard_at_string,binOp,gQ,h]
theorem b8j{x y T U l m}(G:o.op= .binOp .gtr T x y U)(O:ev e x=some (str l))(Z:ev e y=some (str m)):DK cx o e S (.bool (!(decide (l<m) || l == m))):=by
 intro a w A _;have h:=dB l m;simp[execOp,G,A.eval O,A.eval Z,str,eqGuard_at_string,binOp,gQ,h]
theorem c6V{x y T U k p q}(A:o.op= .binOp .and T x y U)(G:ev e x=some (.int k p))(O:ev e y=some (.int k q)):
 DK cx o e S (.int k (k.wrap ((iV k.bits p &&& iV k.bits q).toNat:Int))):=by
 intro a w h _;simp[execOp,A,h.eval G,h.eval O,eqGuard,binOp,Op.intBits]
end
theorem Le.mono{I J K}(h:Le I J)(k:Le J K):Le I K:=h.trans k
theorem Ej.b3s{h fn}{A:Ending→Heap→HL→Prop}{e I H H' t T b n}{cs:List Value}{ty fr}(hk:Keeps H' H)(hr:fn.results= #[.cell t T])(G:h.ds=[])(hv:eg e t=some (ptr b 0))
 (hb:yR (SS I H) b (.cells cs.toArray ty fr))(O:∀w,(isAgg T).run h.P w= .ok true w)(Z:∀w,(sizeOf T).run h.P w= .ok n w)(hn:cs.length=n)(hp:A (.returned (.agg cs.toArray)) I H'):
 Ej h (bodyPost h.P fn (RR h.w0 h.D h.I0 A)) .ret e I H:=by
 intro a w ha hs;refine⟨ha.defs.trans G,_,?_,I,H',hs.sublist hk,hp⟩;have h1:=ha.get t _ hv;have hc:∀j v,cs[j]?=some v→w.cell? ((⟨b,0,none⟩:Addr).add j)=some v:=fun j v hj=>by
  rw[Addr.add_lit];exact cell_of_heap (hb w hs.ss) (by simpa using hj)
 have h2:=run_loadCells_list (P:=h.P) (w:=w) ⟨b,0,none⟩ cs hc;rw[hn]at h2;simp[results,hr,h1,asAddr,loadVar,O,Z,h2]
end Go.Sx
namespace Go.Proofs.YtojdemmgkdokmaaGreatDoor
open _root_.Go.Proofs.Tryz
open Go Go.Sx
attribute [local instance] a7l
def NH (r s:Int):Int:=if r≠0 then r else s
section
open Go.Shelf Go.RowKit Go.Lib
theorem c6C b h A w (h0:w.cell? ⟨b,0,none⟩=some (.int .i64 h))(h1:w.cell? ⟨b,1,none⟩=some (.int .i64 A)):
 Calls aG 34 #[.slice (some ⟨b,0,none⟩) 2 2] w fun e w'=>e= .returned (.int .i64 (NH h A))∧w'=w:=by
 go_enter func34,iW
 go_wp2
 refine wp_loop_rounds 3 ?_;rw[rounds_succ]
 go_wp2
 ·have hr:(h != 0)=true:=by assumption
  have G:NH h A=h:=zG (by simpa using hr)
  go_ret
  exact⟨by rw[G];rfl,rfl⟩
 have hr:(h != 0)=false:=by assumption
 have G:NH h A=A:=zF (by simpa using hr);rw[rounds_succ]
 go_wp2
 ·go_ret
  exact⟨by rw[G];rfl,rfl⟩
 have hs:(A != 0)=false:=by assumption
 have O:A=0:=by simpa using hs
 rw[rounds_succ]
 go_wp2
 go_ret
 exact⟨by rw[G,O];rfl,rfl⟩
end
def NR (a b:List UInt8):Int:=if a<b then -1 else if b<a then 1 else 0
theorem b9H{a b:List UInt8}(h:¬a<b){t}(A:(!(decide (a<b) || a == b))=t):if t then b<a else ¬b<a:=by
 rw[zJ h,Bool.false_or]at A;subst A
 by_cases he:a=b
 ·subst he;simp
 have G:(a == b)=false:=by simpa using he
 rw[G];simp only[Bool.not_false,if_true];exact Std.lt_of_le_of_ne (Std.not_lt.1 h) (Ne.symm he)
theorem a6W b h A I:yT aG 34 [.slice (some ⟨b,0,none⟩) 2 2] I [(b,yY 3 [i64 h,i64 A])] (fun e G H'=>e= .returned (i64 (NH h A))∧G=I∧H'=[(b,yY 3 [i64 h,i64 A])]):=
 yT.same ⟨_,func34,dE,rfl⟩ fun w O=>by
  have Z:=O.2.1 _ (.head _);refine c6C b h A w ?_ ?_<;>simp[gU,Z,yY]
theorem a2z x y I:yT aG 47 [i64 x,i64 y] I [] (fun e h H'=>e= .returned (i64 (aC x y))∧h=I∧H'=[]):=
 yT.same ⟨_,func47,dE,rfl⟩ fun w _=>Tryz.cmp_Compare_int x y w
theorem b4m x0 x1 y0 y1 I:yT aG 256 [.agg #[i64 x0,i64 x1],.agg #[i64 y0,i64 y1]] I [] (fun e _ H'=>e= .returned (i64 (NH (aC x0 y0) (aC x1 y1)))∧H'=[]):=by
 refine yT.ob func256 ?_;intro w0 _;refine Cj.sr (aQ rfl (BL ?_));intro _ _;refine aQ rfl (BL ?_);intro _ _;refine aB yQ ?_;refine J.nss (fM [0,1] [] 13 kR ?_);refine eY ⟨(aF 0 rfl (aF 1 rfl aS)),aT,(aO _)⟩ (fun A=>?_);refine aJ 0 rfl A (qq2 (off':=0) underlying38 sizeOf3) ?_;refine aJ 1 rfl A (yX isAgg3 (aX 1 rfl)) ?_;refine aJ 2 rfl A (qq2 (off':=0) underlying38 sizeOf3) ?_;refine aJ 3 rfl A (yX isAgg3 (aX 0 rfl)) ?_;refine aJ 5 rfl A (qq2 (off':=1) underlying38 sizeOf3) ?_;refine aJ 6 rfl A (yX isAgg3 (aX 1 rfl)) ?_;refine aJ 7 rfl A (qq2 (off':=1) underlying38 sizeOf3) ?_;refine aJ 8 rfl A (yX isAgg3 (aX 0 rfl)) ?_;refine zT 4 rfl (yS (H1:=[]) rfl rfl rfl rfl rfl (a2z x0 y0 _) ?_ (fun _ _ _ _ h=>by cases h.1) (fun _ _ h=>by cases h.1));intro _ _ _ O a3;obtain⟨h,rfl,rfl⟩:=a3;cases h;refine⟨⟨(aA (aO _) O),(aF 0 rfl (aF 1 rfl aS)),aT⟩,?_⟩;refine zT 9 rfl (yS (H1:=[]) rfl rfl rfl rfl rfl (a2z x1 y1 _) ?_ (fun _ _ _ _ h=>by cases h.1) (fun _ _ h=>by cases h.1));intro _ _ _ G a0;obtain⟨h,rfl,rfl⟩:=a0;cases h;refine⟨⟨(aA (aA (aO _) O) G),(aF 0 rfl (aF 1 rfl aS)),aT⟩,?_⟩;refine zT 10 rfl (AZ underlying39 sizeOf3 zeroValue3 (bJ rfl (bJ rfl dG)) ?_);intro _ _;refine⟨⟨(aA (aA (aO _) O) G),(aF 1 rfl (aF 2 rfl aS)),aT⟩,?_⟩;refine iL iY ?_;refine zT 11 rfl (yS (H1:=[_]) rfl rfl rfl rfl rfl (a6W _ (aC x0 y0) (aC x1 y1) _) ?_ (fun _ _ _ _ h=>by cases h.1) (fun _ _ h=>by cases h.1));intro _ _ _ Z a1;obtain⟨h,rfl,rfl⟩:=a1;cases h;refine⟨⟨(aA (aA (aA (aO _) O) G) Z),(aF 1 rfl (aF 2 rfl aS)),aT⟩,?_⟩;refine eY ⟨(aF 1 rfl (aF 2 rfl aS)),aT,(aA (aA (aA (aO _) O) G) Z)⟩ (fun a2=>?_);refine aJ 12 rfl a2 yQ ?_;refine AL ?_;refine aY (bQ (fG ?_));refine zN ?_;exact rT
theorem a9U s I:yT aG 260 [str s] I [] (fun e h H'=>e= .returned (.bool false)∧h=I∧H'=[]):=by
 refine yT.ob func260 ?_;intro w0 _;refine Cj.sr (aB yQ ?_);refine J.yV (aB yP ?_);refine aB yP ?_;refine aB (LH rfl rfl rfl) ?_;refine aB yQ ?_;refine J.ns (bQ (zN ?_));exact⟨by rw[bne_self_eq_false],rfl,rfl⟩
theorem b4f a b I:yT aG 204 [str a,str b] I [] (fun e I' H'=>e= .returned (i64 (NR a b))∧I'=I∧H'=[]):=by
 refine yT.ob func204 ?_;intro w0 _;refine Cj.sr (aB yQ ?_);refine J.yV (aB yP ?_);refine aQ rfl (yS (H1:=[]) rfl rfl rfl rfl rfl (a9U a _) ?_ (fun _ _ _ _ h=>by cases h.1) (fun _ _ h=>by cases h.1));intro _ _ _ _ a0;obtain⟨h,rfl,rfl⟩:=a0;cases h;refine aB yQ ?_;refine J.yV (aB yP ?_);refine aQ rfl (yS (H1:=[]) rfl rfl rfl rfl rfl (a9U b _) ?_ (fun _ _ _ _ h=>by cases h.1) (fun _ _ h=>by cases h.1));intro _ _ _ _ Z;obtain⟨h,rfl,rfl⟩:=Z;cases h;refine aB yQ ?_;refine J.AO (aU (aB yP ?_));refine J.c0 (fun _=>?_);refine cO (aY (fE (Cj.sr (aB yP ?_))));refine J.c0 (fun _=>?_);refine cO (aY (fE (Cj.sr (aB yP ?_))));refine aB yP ?_;refine aB (b8v rfl rfl rfl) ?_;refine J.cd (fun G=>?_) (fun G=>?_)
 ·have A:=zB G;refine Cj.sr (aB yQ ?_);refine J.ns (bQ (Ej.LM (zN ?_)));rw[NR,zG A];exact rT
 have A:=of_decide_eq_false G;refine cO (aY (fE (Cj.sr (aB yP ?_))));refine aB yP ?_;refine aB (b8j rfl rfl rfl) ?_;refine J.cd (fun O=>?_) (fun O=>?_)
 ·refine Cj.sr (aB yQ ?_);refine J.ns (bQ (Ej.LM (zN ?_)));rw[NR,zF A,zG (by have h:=b9H A O;simpa using h)];exact rT
 refine cO (aY (Cj.sr (aB yQ ?_)));refine J.ns (bQ (zN ?_));rw[NR,zF A,zF (by have h:=b9H A O;simpa using h)];exact rT
theorem b9p a b n m I:yT aG 203 [.agg #[str a,i64 n],.agg #[str b,i64 m]] I [] (fun e _ H'=>e= .returned (i64 (NR a b))∧H'=[]):=by
 refine yT.ob func203 ?_;intro w0 _;refine Cj.sr (aQ rfl (BL ?_));intro _ _;refine aQ rfl (BL ?_);intro _ _;refine aB yQ ?_;refine J.yV (aB (qq2 (off':=0) underlying80 sizeOf9) ?_);refine aB (yX isAgg9 (yR.at 1 rfl)) ?_;refine aB (qq2 (off':=0) underlying80 sizeOf9) ?_;refine aB (yX isAgg9 (yR.at 0 rfl)) ?_;refine aQ rfl (yS (H1:=[]) rfl rfl rfl rfl rfl (b4f a b _) ?_ (fun _ _ _ _ h=>by cases h.1) (fun _ _ h=>by cases h.1));intro _ _ _ _ A;obtain⟨h,rfl,rfl⟩:=A;cases h;refine aB yQ ?_;refine J.ns (bQ (fG ?_));refine zN ?_;exact rT
theorem b3U x0 x1 y0 y1 w:Calls aG 256 #[.agg #[i64 x0,i64 x1],.agg #[i64 y0,i64 y1]] w fun e w'=>e= .returned (i64 (NH (aC x0 y0) (aC x1 y1)))∧∃q A,w'=dI (w.drewN q) A:=
 yT.grows (b4m x0 x1 y0 y1 _) (fun _ _ _ h=>h.1) w
theorem c3z a b n m w:Calls aG 203 #[.agg #[str a,i64 n],.agg #[str b,i64 m]] w fun e w'=>e= .returned (i64 (NR a b))∧∃q A,w'=dI (w.drewN q) A:=
 yT.grows (b9p a b n m _) (fun _ _ _ h=>h.1) w
end Go.Proofs.YtojdemmgkdokmaaGreatDoor
namespace Go.Proofs.YtojdemmgkdokmaaGreatDoor
open _root_.Go.Proofs.Tryz
open Go Go.Sx
attribute [local instance] a7l
section
open Go.Shelf Go.RowKit Go.Lib
theorem c6Z b G h A w (h0:w.cell? ⟨b,0,none⟩=some (.int .i64 G))(h1:w.cell? ⟨b,1,none⟩=some (.int .i64 h))(h2:w.cell? ⟨b,2,none⟩=some (.int .i64 A)):
 Calls aG 34 #[.slice (some ⟨b,0,none⟩) 3 3] w fun e w'=>e= .returned (.int .i64 (NH G (NH h A)))∧w'=w:=by
 go_enter func34,iW
 go_wp2
 refine wp_loop_rounds 4 ?_;rw[rounds_succ]
 go_wp2
 ·have hr:(G != 0)=true:=by assumption
  have O:NH G (NH h A)=G:=zG (by simpa using hr)
  go_ret
  exact⟨by rw[O];rfl,rfl⟩
 have hr:(G != 0)=false:=by assumption
 have O:NH G (NH h A)=NH h A:=zF (by simpa using hr);rw[rounds_succ]
 go_wp2
 ·have hs:(h != 0)=true:=by assumption
  have hd:NH h A=h:=zG (by simpa using hs)
  go_ret
  exact⟨by rw[O,hd];rfl,rfl⟩
 have hs:(h != 0)=false:=by assumption
 have hd:NH h A=A:=zF (by simpa using hs);rw[rounds_succ]
 go_wp2
 ·go_ret
  exact⟨by rw[O,hd];rfl,rfl⟩
 have ht:(A != 0)=false:=by assumption
 have Z:A=0:=by simpa using ht
 rw[rounds_succ]
 go_wp2
 go_ret
 exact⟨by rw[O,hd,Z];rfl,rfl⟩
end
theorem b8H b h A G I:yT aG 34 [.slice (some ⟨b,0,none⟩) 3 3] I [(b,yY 3 [i64 h,i64 A,i64 G])] (fun e O H'=>e= .returned (i64 (NH h (NH A G)))∧O=I∧H'=[(b,yY 3 [i64 h,i64 A,i64 G])]):=
 yT.same ⟨_,func34,dE,rfl⟩ fun w Z=>by
  have hb:=Z.2.1 _ (.head _);refine c6Z b h A G w ?_ ?_ ?_<;>simp[gU,hb,yY]
theorem a6h:∀a b:List UInt8,gZ a b=NR a b
 |[],[]=>rfl
 |[],_::_=>rfl
 |_::_,[]=>rfl
 |a::u,b::v=>by
  have O:=a6h u v;unfold gZ NR;rw[O];unfold NR
  by_cases h1:a<b
  ·rw[zG h1,zG (bH.2 (.inl h1))]
  rw[zF h1]
  by_cases h2:b<a
  ·have h:a≠b:=fun e=>by subst e;exact h1 h2
   rw[zG h2,zF (fun g=>(bH.1 g).elim h1 fun g=>h g.1),zG (bH.2 (.inl h2))]
  have Z:a=b:=iE.1 (by have:=iZ.1 h1;have:=iZ.1 h2;rw[UInt8.le_iff_toNat_le]at *;omega);subst Z;rw[zF h2];have A:(a::u<a::v)↔u<v:=by rw[bH];simp[h1]
  have G:(a::v<a::u)↔v<u:=by rw[bH];simp[h1]
  by_cases g1:u<v
  ·rw[zG g1,zG (A.2 g1)]
  rw[zF g1,zF (fun g=>g1 (A.1 g))]
  by_cases g2:v<u
  ·rw[zG g2,zG (G.2 g2)]
  rw[zF g2,zF (fun g=>g2 (G.1 g))]
theorem a8W a b I:yT aG 35 [str a,str b] I [] (fun e A H'=>e= .returned (i64 (NR a b))∧A=I∧H'=[]):=
 yT.same ⟨_,func35,dE,rfl⟩ fun w _=>by
  have h:=Tryz.strings_Compare ⟨a.toArray⟩ ⟨b.toArray⟩ w;rw[show(⟨a.toArray⟩:ByteArray).data.toList=a by simp,show(⟨b.toArray⟩:ByteArray).data.toList=b by simp,a6h]at h;exact h
theorem c1M a b x0 x1 y0 y1 I:yT aG 46 [.agg #[str a,i64 x0,i64 x1],.agg #[str b,i64 y0,i64 y1]] I [] (fun e _ H'=>e= .returned (i64 (NH (NR a b) (NH (aC x0 y0) (aC x1 y1))))∧H'=[]):=by
 refine yT.ob func46 ?_;intro w0 _;refine Cj.sr (aQ rfl (BL ?_));intro _ _;refine aQ rfl (BL ?_);intro _ _;refine aB yQ ?_;refine J.nss (fM [0,1] [] 22 kR ?_);refine eY ⟨(aF 0 rfl (aF 1 rfl aS)),aT,(aO _)⟩ (fun A=>?_);refine aJ 0 rfl A (qq2 (off':=0) underlying128 sizeOf9) ?_;refine aJ 1 rfl A (yX isAgg9 (aX 1 rfl)) ?_;refine aJ 2 rfl A (qq2 (off':=0) underlying128 sizeOf9) ?_;refine aJ 3 rfl A (yX isAgg9 (aX 0 rfl)) ?_;refine aJ 5 rfl A (qq2 (off':=1) underlying128 sizeOf38) ?_;refine aJ 6 rfl A (qq2 (off':=1) underlying38 sizeOf3) ?_;refine aJ 7 rfl A (yX isAgg3 (aX 1 rfl)) ?_;refine aJ 8 rfl A (qq2 (off':=1) underlying128 sizeOf38) ?_;refine aJ 9 rfl A (qq2 (off':=1) underlying38 sizeOf3) ?_;refine aJ 10 rfl A (yX isAgg3 (aX 0 rfl)) ?_;refine aJ 12 rfl A (qq2 (off':=1) underlying128 sizeOf38) ?_;refine aJ 13 rfl A (qq2 (off':=2) underlying38 sizeOf3) ?_;refine aJ 14 rfl A (yX isAgg3 (aX 1 rfl)) ?_;refine aJ 15 rfl A (qq2 (off':=1) underlying128 sizeOf38) ?_;refine aJ 16 rfl A (qq2 (off':=2) underlying38 sizeOf3) ?_;refine aJ 17 rfl A (yX isAgg3 (aX 0 rfl)) ?_;refine zT 4 rfl (yS (H1:=[]) rfl rfl rfl rfl rfl (a8W a b _) ?_ (fun _ _ _ _ h=>by cases h.1) (fun _ _ h=>by cases h.1));intro _ _ _ O a5;obtain⟨h,rfl,rfl⟩:=a5;cases h;refine⟨⟨(aA (aO _) O),(aF 0 rfl (aF 1 rfl aS)),aT⟩,?_⟩;refine zT 11 rfl (yS (H1:=[]) rfl rfl rfl rfl rfl (a2z x0 y0 _) ?_ (fun _ _ _ _ h=>by cases h.1) (fun _ _ h=>by cases h.1));intro _ _ _ G a1;obtain⟨h,rfl,rfl⟩:=a1;cases h;refine⟨⟨(aA (aA (aO _) O) G),(aF 0 rfl (aF 1 rfl aS)),aT⟩,?_⟩;refine zT 18 rfl (yS (H1:=[]) rfl rfl rfl rfl rfl (a2z x1 y1 _) ?_ (fun _ _ _ _ h=>by cases h.1) (fun _ _ h=>by cases h.1));intro _ _ _ Z a2;obtain⟨h,rfl,rfl⟩:=a2;cases h;refine⟨⟨(aA (aA (aA (aO _) O) G) Z),(aF 0 rfl (aF 1 rfl aS)),aT⟩,?_⟩;refine zT 19 rfl (AZ underlying39 sizeOf3 zeroValue3 (bJ rfl (bJ rfl (bJ rfl dG))) ?_);intro _ _;refine⟨⟨(aA (aA (aA (aO _) O) G) Z),(aF 1 rfl (aF 2 rfl aS)),aT⟩,?_⟩;refine iL iY ?_;refine zT 20 rfl (yS (H1:=[_]) rfl rfl rfl rfl rfl (b8H _ (NR a b) (aC x0 y0) (aC x1 y1) _) ?_ (fun _ _ _ _ h=>by cases h.1) (fun _ _ h=>by cases h.1));intro _ _ _ a0 a3;obtain⟨h,rfl,rfl⟩:=a3;cases h;refine⟨⟨(aA (aA (aA (aA (aO _) O) G) Z) a0),(aF 1 rfl (aF 2 rfl aS)),aT⟩,?_⟩;refine eY ⟨(aF 1 rfl (aF 2 rfl aS)),aT,(aA (aA (aA (aA (aO _) O) G) Z) a0)⟩ (fun a4=>?_);refine aJ 21 rfl a4 yQ ?_;refine AL ?_;refine aY (bQ (fG ?_));refine zN ?_;exact rT
theorem c4r a b x0 x1 y0 y1 w:Calls aG 46 #[.agg #[str a,i64 x0,i64 x1],.agg #[str b,i64 y0,i64 y1]] w fun e w'=>e= .returned (i64 (NH (NR a b) (NH (aC x0 y0) (aC x1 y1))))∧∃q A,w'=dI (w.drewN q) A:=
 yT.grows (c1M a b x0 x1 y0 y1 _) (fun _ _ _ h=>h.1) w
end Go.Proofs.YtojdemmgkdokmaaGreatDoor
namespace Go.Proofs.YtojdemmgkdokmaaGreatDoor
open _root_.Go.Proofs.Tryz
open Go Go.Sx
theorem yT.c7E{P f args I H}{A:Ending→Heap→HL→Prop}(h:@yT a7l P f args I H A):@yT c7y P f args I H A:=by
 refine⟨h.1,fun w G=>?_⟩;refine(h.2 w G).mono ?_;rintro e w' ⟨O,H',hs,Z⟩;refine⟨O,H',?_,Z⟩;obtain⟨a1,a2,a3,a4,a5,a6,a7,a8,a9,b1,b2,b3,_⟩:=hs;exact⟨a1,a2,a3,a4,a5,a6,a7,a8,a9,b1,b2,b3,fun h=>nomatch h⟩
attribute [local instance] a7l
theorem a4z x0 x1 y0 y1 I:yT aG 31 [.agg #[i64 x0,i64 x1],.agg #[i64 y0,i64 y1]] I [] (fun e _ H'=>e= .returned (i64 (NH (aC x0 y0) (aC x1 y1)))∧H'=[]):=by
 refine yT.ob func31 ?_;intro w0 _;refine Cj.sr (aQ rfl (BL ?_));intro _ _;refine aQ rfl (BL ?_);intro _ _;refine aB yQ ?_;refine J.nss (fM [0,1] [] 13 kR ?_);refine eY ⟨(aF 0 rfl (aF 1 rfl aS)),aT,(aO _)⟩ (fun A=>?_);refine aJ 0 rfl A (qq2 (off':=0) WX AB) ?_;refine aJ 1 rfl A (yX DT (aX 1 rfl)) ?_;refine aJ 2 rfl A (qq2 (off':=0) WX AB) ?_;refine aJ 3 rfl A (yX DT (aX 0 rfl)) ?_;refine aJ 5 rfl A (qq2 (off':=1) WX AB) ?_;refine aJ 6 rfl A (yX DT (aX 1 rfl)) ?_;refine aJ 7 rfl A (qq2 (off':=1) WX AB) ?_;refine aJ 8 rfl A (yX DT (aX 0 rfl)) ?_;refine zT 4 rfl (yS (H1:=[]) rfl rfl rfl rfl rfl (a2z x0 y0 _) ?_ (fun _ _ _ _ h=>by cases h.1) (fun _ _ h=>by cases h.1));intro _ _ _ O a3;obtain⟨h,rfl,rfl⟩:=a3;cases h;refine⟨⟨(aA (aO _) O),(aF 0 rfl (aF 1 rfl aS)),aT⟩,?_⟩;refine zT 9 rfl (yS (H1:=[]) rfl rfl rfl rfl rfl (a2z x1 y1 _) ?_ (fun _ _ _ _ h=>by cases h.1) (fun _ _ h=>by cases h.1));intro _ _ _ G a0;obtain⟨h,rfl,rfl⟩:=a0;cases h;refine⟨⟨(aA (aA (aO _) O) G),(aF 0 rfl (aF 1 rfl aS)),aT⟩,?_⟩;refine zT 10 rfl (AZ JW AB RQ (bJ rfl (bJ rfl dG)) ?_);intro _ _;refine⟨⟨(aA (aA (aO _) O) G),(aF 1 rfl (aF 2 rfl aS)),aT⟩,?_⟩;refine iL iY ?_;refine zT 11 rfl (yS (H1:=[_]) rfl rfl rfl rfl rfl (a6W _ (aC x0 y0) (aC x1 y1) _) ?_ (fun _ _ _ _ h=>by cases h.1) (fun _ _ h=>by cases h.1));intro _ _ _ Z a1;obtain⟨h,rfl,rfl⟩:=a1;cases h;refine⟨⟨(aA (aA (aA (aO _) O) G) Z),(aF 1 rfl (aF 2 rfl aS)),aT⟩,?_⟩;refine eY ⟨(aF 1 rfl (aF 2 rfl aS)),aT,(aA (aA (aA (aO _) O) G) Z)⟩ (fun a2=>?_);refine aJ 12 rfl a2 yQ ?_;refine AL ?_;refine aY (bQ (fG ?_));refine zN ?_;exact rT
theorem b7d a b x0 x1 y0 y1 v w I:yT aG 33 [.agg #[i64 x0,i64 x1,str a,v],.agg #[i64 y0,i64 y1,str b,w]] I [] (fun e _ H'=>e= .returned (i64 (NH (NR a b) (NH (aC x0 y0) (aC x1 y1))))∧H'=[]):=by
 refine yT.ob func33 ?_;intro w0 _;refine Cj.sr (aQ rfl (BL ?_));intro _ _;refine aQ rfl (BL ?_);intro _ _;refine aB yQ ?_;refine J.nss (fM [0,1] [] 13 kR ?_);refine eY ⟨(aF 0 rfl (aF 1 rfl aS)),aT,(aO _)⟩ (fun A=>?_);refine aJ 0 rfl A (qq2 (off':=2) GI zL) ?_;refine aJ 1 rfl A (yX BX (aX 1 rfl)) ?_;refine aJ 2 rfl A (qq2 (off':=2) GI zL) ?_;refine aJ 3 rfl A (yX BX (aX 0 rfl)) ?_;refine aJ 5 rfl A (qq2 (off':=0) GI AY) ?_;refine aJ 6 rfl A (zX EI AY (aX 1 rfl)) ?_;refine aJ 7 rfl A (qq2 (off':=0) GI AY) ?_;refine aJ 8 rfl A (zX EI AY (aX 0 rfl)) ?_;refine zT 4 rfl (yS (H1:=[]) rfl rfl rfl rfl rfl (a8W a b _) ?_ (fun _ _ _ _ h=>by cases h.1) (fun _ _ h=>by cases h.1));intro _ _ _ O a3;obtain⟨h,rfl,rfl⟩:=a3;cases h;refine⟨⟨(aA (aO _) O),(aF 0 rfl (aF 1 rfl aS)),aT⟩,?_⟩;refine zT 9 rfl (yS (H1:=[]) rfl rfl rfl rfl rfl (a4z x0 x1 y0 y1 _) ?_ (fun _ _ _ _ h=>by cases h.1) (fun _ _ h=>by cases h.1));intro _ _ _ G a0;obtain⟨h,rfl⟩:=a0;cases h;refine⟨⟨(aA (aA (aO _) O) G),(aF 0 rfl (aF 1 rfl aS)),aT⟩,?_⟩;refine zT 10 rfl (AZ JW AB RQ (bJ rfl (bJ rfl dG)) ?_);intro _ _;refine⟨⟨(aA (aA (aO _) O) G),(aF 1 rfl (aF 2 rfl aS)),aT⟩,?_⟩;refine iL iY ?_;refine zT 11 rfl (yS (H1:=[_]) rfl rfl rfl rfl rfl (a6W _ (NR a b) (NH (aC x0 y0) (aC x1 y1)) _) ?_ (fun _ _ _ _ h=>by cases h.1) (fun _ _ h=>by cases h.1));intro _ _ _ Z a1;obtain⟨h,rfl,rfl⟩:=a1;cases h;refine⟨⟨(aA (aA (aA (aO _) O) G) Z),(aF 1 rfl (aF 2 rfl aS)),aT⟩,?_⟩;refine eY ⟨(aF 1 rfl (aF 2 rfl aS)),aT,(aA (aA (aA (aO _) O) G) Z)⟩ (fun a2=>?_);refine aJ 12 rfl a2 yQ ?_;refine AL ?_;refine aY (bQ (fG ?_));refine zN ?_;exact rT
theorem b7L a b n m I:yT aG 53 [.agg #[str a,i64 n],.agg #[str b,i64 m]] I [] (fun e _ H'=>e= .returned (i64 (NR a b))∧H'=[]):=by
 refine yT.ob func53 ?_;intro w0 _;refine Cj.sr (aQ rfl (BL ?_));intro _ _;refine aQ rfl (BL ?_);intro _ _;refine aB yQ ?_;refine J.yV (aB (qq2 (off':=0) VT zL) ?_);refine aB (yX BX (yR.at 1 rfl)) ?_;refine aB (qq2 (off':=0) VT zL) ?_;refine aB (yX BX (yR.at 0 rfl)) ?_;refine aQ rfl (yS (H1:=[]) rfl rfl rfl rfl rfl (a8W a b _) ?_ (fun _ _ _ _ h=>by cases h.1) (fun _ _ h=>by cases h.1));intro _ _ _ _ A;obtain⟨h,rfl,rfl⟩:=A;cases h;refine aB yQ ?_;refine J.ns (bQ (fG ?_));refine zN ?_;exact rT
theorem b7W a b x0 x1 y0 y1 v u w:Calls aG 33 #[.agg #[i64 x0,i64 x1,str a,v],.agg #[i64 y0,i64 y1,str b,u]] w fun e w'=>e= .returned (i64 (NH (NR a b) (NH (aC x0 y0) (aC x1 y1))))∧∃q A,w'=dI (w.drewN q) A:=
 yT.grows (b7d a b x0 x1 y0 y1 v u _) (fun _ _ _ h=>h.1) w
theorem c2s a b n m w:Calls aG 53 #[.agg #[str a,i64 n],.agg #[str b,i64 m]] w fun e w'=>e= .returned (i64 (NR a b))∧∃q A,w'=dI (w.drewN q) A:=
 yT.grows (b7L a b n m _) (fun _ _ _ h=>h.1) w
end Go.Proofs.YtojdemmgkdokmaaGreatDoor
namespace Go.Proofs
open _root_.Go.Proofs.Tryz
open Go.Shelf
def Tryz.sortR_ren:fA:=⟨fun|6=>45|15=>67|14=>81|28=>117|29=>118|20=>140|21=>141|22=>142|23=>143|24=>144|25=>145|26=>146|27=>147|46=>205|47=>188|48=>189|49=>206|50=>207|57=>261|n=>n,fun|22=>123|24=>128|25=>131|3=>3|39=>161|0=>0|53=>227|55=>229|4=>4|46=>219|45=>218|50=>224|5=>5|9=>9|66=>285|70=>289|76=>347|77=>348|n=>n,fun|n=>n⟩
theorem Tryz.sortR:bP aG Tryz.sortR_ren:={
 mixed:=kR
 f6:=⟨Tryz.f45.name,dE,func45.trans (zD some kR)⟩
 f14:=⟨Tryz.f81.name,dE,func81.trans (zD some kR)⟩
 f15:=func67.trans (zD some kR)
 f20:=⟨Tryz.f140.name,dE,func140.trans (zD some kR)⟩
 f21:=⟨Tryz.f141.name,dE,func141.trans (zD some kR)⟩
 f22:=⟨Tryz.f142.name,dE,func142.trans (zD some kR)⟩
 f23:=⟨Tryz.f143.name,dE,func143.trans (zD some kR)⟩
 f24:=⟨Tryz.f144.name,dE,func144.trans (zD some kR)⟩
 f25:=⟨Tryz.f145.name,dE,func145.trans (zD some kR)⟩
 f26:=⟨Tryz.f146.name,dE,func146.trans (zD some kR)⟩
 f27:=⟨Tryz.f147.name,dE,func147.trans (zD some kR)⟩
 f28:=func117.trans (zD some kR)
 f29:=func118.trans (zD some kR)
 f46:=⟨Tryz.f205.name,dE,func205.trans (zD some kR)⟩
 f47:=func188.trans (zD some kR)
 f48:=func189.trans (zD some kR)
 f49:=⟨Tryz.f206.name,dE,func206.trans (zD some kR)⟩
 f50:=⟨Tryz.f207.name,dE,func207.trans (zD some kR)⟩
 f57:=⟨Tryz.f261.name,dE,func261.trans (zD some kR)⟩
 t0:=underlying0
 a0:=isAgg0
 z0:=sizeOf0
 v0:=zeroValue0
 t3:=underlying3
 a3:=isAgg3
 z3:=sizeOf3
 v3:=zeroValue3
 t4:=underlying4
 a4:=isAgg4
 z4:=sizeOf4
 v4:=zeroValue4
 t5:=underlying5
 a5:=isAgg5
 z5:=sizeOf5
 v5:=zeroValue5
 t9:=underlying9
 a9:=isAgg9
 z9:=sizeOf9
 v9:=zeroValue9
 t22:=underlying123
 a22:=isAgg123
 z22:=sizeOf123
 v22:=zeroValue123
 t25:=underlying131
 a25:=isAgg131
 z25:=sizeOf131
 v25:=zeroValue131
 t39:=underlying161
 a39:=isAgg161
 z39:=sizeOf161
 v39:=zeroValue161
 t45:=underlying218
 a45:=isAgg218
 z45:=sizeOf218
 v45:=zeroValue218
 t46:=underlying219
 a46:=isAgg219
 z46:=sizeOf219
 v46:=zeroValue219
 t50:=underlying224
 a50:=isAgg224
 z50:=sizeOf224
 v50:=zeroValue224
 t53:=underlying227
 a53:=isAgg227
 z53:=sizeOf227
 v53:=zeroValue227
 t55:=underlying229
 a55:=isAgg229
 z55:=sizeOf229
 v55:=zeroValue229
 t66:=underlying285
 a66:=isAgg285
 z66:=sizeOf285
 v66:=zeroValue285
 t70:=underlying289
 a70:=isAgg289
 z70:=sizeOf289
 v70:=zeroValue289
 t76:=underlying347
 a76:=isAgg347
 z76:=sizeOf347
 v76:=zeroValue347
 t77:=underlying348
 a77:=isAgg348
 z77:=sizeOf348
 v77:=zeroValue348 }
def Tryz.sortD_ren:fA:=⟨fun|6=>105|15=>67|14=>186|28=>117|29=>118|20=>246|21=>247|22=>248|23=>249|24=>250|25=>251|26=>252|27=>253|46=>298|47=>188|48=>189|49=>299|50=>300|57=>319|n=>n,fun|22=>30|24=>41|25=>110|3=>3|39=>161|0=>0|53=>227|55=>229|4=>4|46=>219|45=>218|50=>224|5=>5|9=>9|66=>285|70=>289|76=>347|77=>348|n=>n,fun|n=>n⟩
theorem Tryz.sortD:bP aG Tryz.sortD_ren:={
 mixed:=kR
 f6:=⟨Tryz.f105.name,dE,func105.trans (zD some kR)⟩
 f14:=⟨Tryz.f186.name,dE,func186.trans (zD some kR)⟩
 f15:=func67.trans (zD some kR)
 f20:=⟨Tryz.f246.name,dE,func246.trans (zD some kR)⟩
 f21:=⟨Tryz.f247.name,dE,func247.trans (zD some kR)⟩
 f22:=⟨Tryz.f248.name,dE,func248.trans (zD some kR)⟩
 f23:=⟨Tryz.f249.name,dE,func249.trans (zD some kR)⟩
 f24:=⟨Tryz.f250.name,dE,func250.trans (zD some kR)⟩
 f25:=⟨Tryz.f251.name,dE,func251.trans (zD some kR)⟩
 f26:=⟨Tryz.f252.name,dE,func252.trans (zD some kR)⟩
 f27:=⟨Tryz.f253.name,dE,func253.trans (zD some kR)⟩
 f28:=func117.trans (zD some kR)
 f29:=func118.trans (zD some kR)
 f46:=⟨Tryz.f298.name,dE,func298.trans (zD some kR)⟩
 f47:=func188.trans (zD some kR)
 f48:=func189.trans (zD some kR)
 f49:=⟨Tryz.f299.name,dE,func299.trans (zD some kR)⟩
 f50:=⟨Tryz.f300.name,dE,func300.trans (zD some kR)⟩
 f57:=⟨Tryz.f319.name,dE,func319.trans (zD some kR)⟩
 t0:=underlying0
 a0:=isAgg0
 z0:=sizeOf0
 v0:=zeroValue0
 t3:=underlying3
 a3:=isAgg3
 z3:=sizeOf3
 v3:=zeroValue3
 t4:=underlying4
 a4:=isAgg4
 z4:=sizeOf4
 v4:=zeroValue4
 t5:=underlying5
 a5:=isAgg5
 z5:=sizeOf5
 v5:=zeroValue5
 t9:=underlying9
 a9:=isAgg9
 z9:=sizeOf9
 v9:=zeroValue9
 t22:=underlying30
 a22:=isAgg30
 z22:=sizeOf30
 v22:=zeroValue30
 t25:=underlying110
 a25:=isAgg110
 z25:=sizeOf110
 v25:=zeroValue110
 t39:=underlying161
 a39:=isAgg161
 z39:=sizeOf161
 v39:=zeroValue161
 t45:=underlying218
 a45:=isAgg218
 z45:=sizeOf218
 v45:=zeroValue218
 t46:=underlying219
 a46:=isAgg219
 z46:=sizeOf219
 v46:=zeroValue219
 t50:=underlying224
 a50:=isAgg224
 z50:=sizeOf224
 v50:=zeroValue224
 t53:=underlying227
 a53:=isAgg227
 z53:=sizeOf227
 v53:=zeroValue227
 t55:=underlying229
 a55:=isAgg229
 z55:=sizeOf229
 v55:=zeroValue229
 t66:=underlying285
 a66:=isAgg285
 z66:=sizeOf285
 v66:=zeroValue285
 t70:=underlying289
 a70:=isAgg289
 z70:=sizeOf289
 v70:=zeroValue289
 t76:=underlying347
 a76:=isAgg347
 z76:=sizeOf347
 v76:=zeroValue347
 t77:=underlying348
 a77:=isAgg348
 z77:=sizeOf348
 v77:=zeroValue348 }
def Tryz.sortL_ren:fA:=⟨fun|6=>157|15=>67|14=>212|28=>117|29=>118|20=>267|21=>268|22=>269|23=>270|24=>271|25=>272|26=>273|27=>274|46=>303|47=>188|48=>189|49=>304|50=>305|57=>329|n=>n,fun|22=>77|24=>80|25=>142|3=>3|39=>161|0=>0|53=>227|55=>229|4=>4|46=>219|45=>218|50=>224|5=>5|9=>9|66=>285|70=>289|76=>347|77=>348|n=>n,fun|n=>n⟩
theorem Tryz.sortL:bP aG Tryz.sortL_ren:={
 mixed:=kR
 f6:=⟨Tryz.f157.name,dE,func157.trans (zD some kR)⟩
 f14:=⟨Tryz.f212.name,dE,func212.trans (zD some kR)⟩
 f15:=func67.trans (zD some kR)
 f20:=⟨Tryz.f267.name,dE,func267.trans (zD some kR)⟩
 f21:=⟨Tryz.f268.name,dE,func268.trans (zD some kR)⟩
 f22:=⟨Tryz.f269.name,dE,func269.trans (zD some kR)⟩
 f23:=⟨Tryz.f270.name,dE,func270.trans (zD some kR)⟩
 f24:=⟨Tryz.f271.name,dE,func271.trans (zD some kR)⟩
 f25:=⟨Tryz.f272.name,dE,func272.trans (zD some kR)⟩
 f26:=⟨Tryz.f273.name,dE,func273.trans (zD some kR)⟩
 f27:=⟨Tryz.f274.name,dE,func274.trans (zD some kR)⟩
 f28:=func117.trans (zD some kR)
 f29:=func118.trans (zD some kR)
 f46:=⟨Tryz.f303.name,dE,func303.trans (zD some kR)⟩
 f47:=func188.trans (zD some kR)
 f48:=func189.trans (zD some kR)
 f49:=⟨Tryz.f304.name,dE,func304.trans (zD some kR)⟩
 f50:=⟨Tryz.f305.name,dE,func305.trans (zD some kR)⟩
 f57:=⟨Tryz.f329.name,dE,func329.trans (zD some kR)⟩
 t0:=underlying0
 a0:=isAgg0
 z0:=sizeOf0
 v0:=zeroValue0
 t3:=underlying3
 a3:=isAgg3
 z3:=sizeOf3
 v3:=zeroValue3
 t4:=underlying4
 a4:=isAgg4
 z4:=sizeOf4
 v4:=zeroValue4
 t5:=underlying5
 a5:=isAgg5
 z5:=sizeOf5
 v5:=zeroValue5
 t9:=underlying9
 a9:=isAgg9
 z9:=sizeOf9
 v9:=zeroValue9
 t22:=underlying77
 a22:=isAgg77
 z22:=sizeOf77
 v22:=zeroValue77
 t25:=underlying142
 a25:=isAgg142
 z25:=sizeOf142
 v25:=zeroValue142
 t39:=underlying161
 a39:=isAgg161
 z39:=sizeOf161
 v39:=zeroValue161
 t45:=underlying218
 a45:=isAgg218
 z45:=sizeOf218
 v45:=zeroValue218
 t46:=underlying219
 a46:=isAgg219
 z46:=sizeOf219
 v46:=zeroValue219
 t50:=underlying224
 a50:=isAgg224
 z50:=sizeOf224
 v50:=zeroValue224
 t53:=underlying227
 a53:=isAgg227
 z53:=sizeOf227
 v53:=zeroValue227
 t55:=underlying229
 a55:=isAgg229
 z55:=sizeOf229
 v55:=zeroValue229
 t66:=underlying285
 a66:=isAgg285
 z66:=sizeOf285
 v66:=zeroValue285
 t70:=underlying289
 a70:=isAgg289
 z70:=sizeOf289
 v70:=zeroValue289
 t76:=underlying347
 a76:=isAgg347
 z76:=sizeOf347
 v76:=zeroValue347
 t77:=underlying348
 a77:=isAgg348
 z77:=sizeOf348
 v77:=zeroValue348 }
def Tryz.sortF_ren:fA:=⟨fun|6=>255|15=>67|14=>301|28=>117|29=>118|20=>320|21=>321|22=>322|23=>323|24=>324|25=>325|26=>326|27=>327|46=>341|47=>188|48=>189|49=>342|50=>343|57=>356|n=>n,fun|22=>70|24=>38|25=>105|3=>3|39=>161|0=>0|53=>227|55=>229|4=>4|46=>219|45=>218|50=>224|5=>5|9=>9|66=>285|70=>289|76=>347|77=>348|n=>n,fun|n=>n⟩
theorem Tryz.sortF:bP aG Tryz.sortF_ren:={
 mixed:=kR
 f6:=⟨Tryz.f255.name,dE,func255.trans (zD some kR)⟩
 f14:=⟨Tryz.f301.name,dE,func301.trans (zD some kR)⟩
 f15:=func67.trans (zD some kR)
 f20:=⟨Tryz.f320.name,dE,func320.trans (zD some kR)⟩
 f21:=⟨Tryz.f321.name,dE,func321.trans (zD some kR)⟩
 f22:=⟨Tryz.f322.name,dE,func322.trans (zD some kR)⟩
 f23:=⟨Tryz.f323.name,dE,func323.trans (zD some kR)⟩
 f24:=⟨Tryz.f324.name,dE,func324.trans (zD some kR)⟩
 f25:=⟨Tryz.f325.name,dE,func325.trans (zD some kR)⟩
 f26:=⟨Tryz.f326.name,dE,func326.trans (zD some kR)⟩
 f27:=⟨Tryz.f327.name,dE,func327.trans (zD some kR)⟩
 f28:=func117.trans (zD some kR)
 f29:=func118.trans (zD some kR)
 f46:=⟨Tryz.f341.name,dE,func341.trans (zD some kR)⟩
 f47:=func188.trans (zD some kR)
 f48:=func189.trans (zD some kR)
 f49:=⟨Tryz.f342.name,dE,func342.trans (zD some kR)⟩
 f50:=⟨Tryz.f343.name,dE,func343.trans (zD some kR)⟩
 f57:=⟨Tryz.f356.name,dE,func356.trans (zD some kR)⟩
 t0:=underlying0
 a0:=isAgg0
 z0:=sizeOf0
 v0:=zeroValue0
 t3:=underlying3
 a3:=isAgg3
 z3:=sizeOf3
 v3:=zeroValue3
 t4:=underlying4
 a4:=isAgg4
 z4:=sizeOf4
 v4:=zeroValue4
 t5:=underlying5
 a5:=isAgg5
 z5:=sizeOf5
 v5:=zeroValue5
 t9:=underlying9
 a9:=isAgg9
 z9:=sizeOf9
 v9:=zeroValue9
 t22:=underlying70
 a22:=isAgg70
 z22:=sizeOf70
 v22:=zeroValue70
 t25:=underlying105
 a25:=isAgg105
 z25:=sizeOf105
 v25:=zeroValue105
 t39:=underlying161
 a39:=isAgg161
 z39:=sizeOf161
 v39:=zeroValue161
 t45:=underlying218
 a45:=isAgg218
 z45:=sizeOf218
 v45:=zeroValue218
 t46:=underlying219
 a46:=isAgg219
 z46:=sizeOf219
 v46:=zeroValue219
 t50:=underlying224
 a50:=isAgg224
 z50:=sizeOf224
 v50:=zeroValue224
 t53:=underlying227
 a53:=isAgg227
 z53:=sizeOf227
 v53:=zeroValue227
 t55:=underlying229
 a55:=isAgg229
 z55:=sizeOf229
 v55:=zeroValue229
 t66:=underlying285
 a66:=isAgg285
 z66:=sizeOf285
 v66:=zeroValue285
 t70:=underlying289
 a70:=isAgg289
 z70:=sizeOf289
 v70:=zeroValue289
 t76:=underlying347
 a76:=isAgg347
 z76:=sizeOf347
 v76:=zeroValue347
 t77:=underlying348
 a77:=isAgg348
 z77:=sizeOf348
 v77:=zeroValue348 }
end Go.Proofs
namespace Go.Sx
open Go
theorem DN{α:Type}{f:α→List Value}{sz}(hf:∀x,(f x).length=sz):∀l:List α,(l.flatMap f).length=l.length*sz
 |[]=>sI
 |a::r=>by rw[dR,aH,hf a,DN hf r,gX,Nat.add_mul];omega
theorem ZQ{α:Type}(f:α→List Value)(l:List α)(x:α):(l++[x]).flatMap f=l.flatMap f++f x:=sI
section
variable {cx:Cx} {Q:Qt} {e:Env} {I:Heap} {R:HL} {T:TypeId} {α:Type} {l:List α} {f:α→List Value} {sz n base:Nat} {g:Gs}
theorem b2P{X:Heap→HL→Prop}(hf:∀x,(f x).length=sz)(A:0<sz)(hg:CU base sz n (l.flatMap f) g)(hn:n=l.length)(O:∀b o,base≤b→(∀h,Le I h→h b=some o→X h R)→X I ((b,o)::R))(k:∀h,Le I h→zY f h l (gV n g)→X h R):X I (gH T (l.flatMap f) g++R):=by
 subst hn;cases g with
 |none=>
  obtain⟨h1,h2⟩:=hg;have:l=[]:=bK.1 h1;subst this;exact k I (aO _) zY.nil
 |some q=>
  obtain⟨b,c,sp⟩:=q;obtain⟨h1,h2,h3⟩:=hg;have Z:l.length≤c:=by
   rw[DN hf]at h3;exact Nat.le_of_mul_le_mul_right (oM:l.length*sz≤c*sz) A
  exact O b _ h1 fun h G hb=>k h G ⟨_,c,rfl,Z,fun _=>⟨b,0,_,T,_,sp,rfl,hb,rfl⟩⟩
theorem Cj.keepR{c}(hf:∀x,(f x).length=sz)(h:0<sz)(hg:CU cx.w0.heap.size sz n (l.flatMap f) g)(hn:n=l.length)(k:∀A,Le I A→zY f A l (gV n g)→Cj cx Q c e A R):Cj cx Q c e I (gH T (l.flatMap f) g++R):=
 b2P (X:=fun I H=>Cj cx Q c e I H) hf h hg hn (fun _ _ G k=>Cj.persist G k) k
theorem Ej.keepR{x}(hf:∀x,(f x).length=sz)(h:0<sz)(hg:CU cx.w0.heap.size sz n (l.flatMap f) g)(hn:n=l.length)(k:∀A,Le I A→zY f A l (gV n g)→Ej cx Q x e A R):Ej cx Q x e I (gH T (l.flatMap f) g++R):=
 b2P (X:=fun I H=>Ej cx Q x e I H) hf h hg hn (fun _ _ G k=>Ej.persist G k) k
theorem a2H n g:dN (gV n g)=true:=by
 cases g with
 |none=>rfl
 |some q=>obtain⟨b,c,sp⟩:=q;rfl
end
section
variable {cx:Cx} {o:Oper} {e:Env} {S:World→Prop}
theorem a7k{x y}{T E n c sz j:Nat}{b kl}(G:o.op= .slice T x none (some y) none)(O:ev e x=some (.slice b n c))(Z:ev e y=some (.int kl (j:Int)))(hu:cx.P.underlying T=some (.slice E))(A:∀w,(sizeOf E).run cx.P w= .ok sz w)(hj:j≤c):
 DK cx o e S (.slice b j c):=by
 intro a w h _;have h1:(j:Int)≤c:=oM;cases b with
 |none=>simp[execOp,G,h.eval O,h.eval Z,iQ,jC,run_underlying hu,gJ,run_sliceBound,h1,A]
 |some q=>
  simp[execOp,G,h.eval O,h.eval Z,iQ,jC,run_underlying hu,gJ,run_sliceBound,h1,A,Addr.add]
end
theorem zY.take{α:Type}{f:α→List Value}{I:Heap}{l:List α}{p:Option Addr}{c:Nat}(h:zY f I l (.slice p l.length c)){m:Nat}(A:m≤l.length):zY f I (l.take m) (.slice p m c):=by
 obtain⟨_,_,G,_,O⟩:=h;cases G;refine⟨p,c,by rw[dF,fB A],by rw[dF];omega,fun hn=>?_⟩;have Z:l≠[]:=fun e=>hn (by rw[e];simp);obtain⟨b,o,cs,t,fr,sp,h1,h2,h3⟩:=O Z;refine⟨b,o,cs,t,fr,(l.drop m).flatMap f++sp,h1,h2,?_⟩;rw[h3,←bM,←fQ,List.take_append_drop]
theorem NV{α:Type}(A G h:List α):(A++(h++G)).Perm (A++(G++h)):=List.Perm.append_left A dH
theorem b3D{α:Type}{f}:∀{l:List α},(∀x∈l,(f x).all dN=true)→(l.flatMap f).all dN=true
 |[],_=>rfl
 |a::r,h=>by rw[dR,List.all_append,h a (.head _),b3D fun x A=>h x (.tail _ A)];rfl
theorem Src.row{P I H}{α:Type}{f:α→List Value}{sz:Nat}{l v}(hf:∀x,(f x).length=sz)(h:zY f I l v)(h1:∀x∈l,(f x).all dN=true):Src P I H sz l.length v (l.flatMap f):=by
 obtain⟨p,c,rfl,_,G⟩:=h;cases l with
 |nil=>exact Src.nil
 |cons a r=>
  obtain⟨b,o,cs,t,fr,sp,rfl,h2,h3⟩:=G sI;have A:=DN hf (a::r);exact fU (yR.TS h2) (by rw[h3,←A,List.take_left]) A (b3D h1)
end Go.Sx
namespace Go.Sx
open Go Go.Sort Go.Proofs
theorem XY{w b T vs sp}(h:w.heap[b]?=some (yY T (vs++sp))):Holds id w b 0 vs.toArray:=fun j G=>by
 have A:j<vs.length:=by simpa using G
 have h1:(vs++sp)[j]?=some vs[j]:=by rw[bV A];exact aV A
 have h2:vs.toArray[j]! =vs[j]:=by rw[getElem!_pos _ j G];simp
 refine⟨?_,?_⟩
 ·rw[h2];simp only[gU,h,yY,Nat.zero_add];simpa using h1
 simp only[World.frozen?,h,yY];simp
theorem c2N{vs A sp:List Value}(G:A.length=vs.length):putCells id 0 A.toArray (vs++sp).toArray=(A++sp).toArray:=by
 apply fV
 intro k;simp only[putCells,Array.getElem?_mapIdx,List.getElem?_toArray,dA,bU,true_and,Nat.zero_add,Nat.sub_zero];rcases dJ k vs.length with h|h
 ·have h1:(vs++sp)[k]?=some vs[k]:=by rw[bV h];exact aV h
  have h2:(A++sp)[k]?=some (A[k]'oM):=by rw[bV oM];exact aV _
  have h3:A.toArray[k]! =A[k]'oM:=by rw[getElem!_pos _ k (by simpa using(oM:k<A.length))];simp
  rw[h1,h2,fC,zG oM,h3];rfl
 rw[dP h,dP oM,G];cases sp[k-vs.length]? with
 |none=>rfl
 |some v=>rw[fC,zF oM]
theorem St.b1u{w I b T vs h sp} n os (hr:Ready I [(b,yY T (vs++sp))] w)(hl:h.length=vs.length):
 St w [b] I I [(b,yY T (h++sp))] (grow (putRow id (cZ w n) b 0 h.toArray) os):=by
 obtain⟨r1,r2,_,r4⟩:=hr;have hb:=r2 _ (bD.2 rfl);have Z:∀{c:Nat} {o':Obj},w.heap[c]?=some o'→c<w.heap.size:=fun {c o'} A=>by
  rcases dJ c w.heap.size with h'|h'
  ·exact h'
  simp[bC h']at A
 have a2:(putRow id (cZ w n) b 0 h.toArray).heap.size=w.heap.size:=by simp[putRow,mapBlock,cZ]
 have G:∀c,c<w.heap.size→c≠b→(grow (putRow id (cZ w n) b 0 h.toArray) os).heap[c]?=w.heap[c]?:=fun c A a1=>by
  simp only[grow];rw[dQ oM];simp only[putRow,mapBlock,cZ,fH,zF (Ne.symm a1)]
 have a0:(grow (putRow id (cZ w n) b 0 h.toArray) os).heap[b]?=some (yY T (h++sp)):=by
  have a3:=Z hb;simp only[grow];rw[dQ oM];simp only[putRow,mapBlock,cZ,fH,if_true];rw[hb];simp only[fC,onCells,yY];rw[c2N hl]
 refine⟨rfl,rfl,rfl,?_,?_,?_,?_,sI,?_,?_,fun _ _=>rfl,aO _,a2j⟩
 ·simp only[grow,Array.size_append];omega
 ·intro c A hd;exact G c A (by simpa using hd)
 ·intro c o A;have h1:=r1 c o A;refine(G c (Z h1) ?_).trans h1;rintro rfl;have:=r4 _ (bD.2 rfl);rw[this]at A;cases A
 ·intro p O;rw[bD.1 O];exact a0
 ·intro p O;rw[bD.1 O];exact r4 (b,yY T (vs++sp)) (bD.2 rfl)
 intro p O;rw[bD.1 O];exact .inl (.head _)
section
variable {α:Type} [Inhabited α] {enc:α→List Value} {k:Nat}
theorem SE(A:∀x,(enc x).length=k)(l:List α):flatK enc k l.toArray=(l.flatMap enc).toArray:=by
 refine ext_get! (by simp[DN A]) fun t Z=>?_;have h:t<l.length*k:=by simpa using Z
 have h0:0<k:=by
  rcases Nat.eq_zero_or_pos k with e|e
  ·subst e;simp at h
  exact e
 have hd:t / k<l.length:=(Nat.div_lt_iff_lt_mul h0).2 h;have G:t % k<k:=Nat.mod_lt _ h0;rw[get_flatK _ _ _ _ (by simpa using h)];have h1:l.toArray[t / k]! =l[t / k]:=by rw[getElem!_pos _ _ (by simpa using hd)];simp
 have h2:l[t / k]?=some l[t / k]:=aV hd;have h3:=XC A (sp:=[]) h2 (t % k) G;rw[aI,Nat.mul_comm,Nat.div_add_mod]at h3;have O:t<(l.flatMap enc).length:=by rw[DN A];exact h
 rw[h1,getElem!_pos _ t (by simpa using O),List.getElem_toArray,getElem!_pos _ _ (by rw[A];exact G)];rw[aV O,aV (by rw[A];exact G)]at h3;exact(Option.some.inj h3).symm
theorem VN{l:List α}{A}(h:PermIn 0 l.length l.toArray A):A.toList.Perm l:=by
 obtain⟨h1,_,h3⟩:=h;have G:A.size=l.length:=by rw[h1];simp
 rw[←G]at h3;simp only[fZ]at h3;rw[G]at h3;have O:l.toArray.extract 0 l.length=l.toArray:=by
  have:=fZ (xs:=l.toArray)
  rwa [dA]at this
 rw[O]at h3;simpa using h3
theorem sorted_in{lt}{A:Array α}(h:SortedIn lt 0 A.size A):A.toList.Pairwise fun x y=>lt y x=false:=by
 rw[List.pairwise_iff_getElem];intro i j hi hj O;have Z:i<A.size:=by simpa using hi
 have G:j<A.size:=by simpa using hj
 have:=h i j (bU _) O G;rw[getElem!_pos A i Z,getElem!_pos A j G]at this;simpa using this
end
end Go.Sx
namespace Ix
open Ke
abbrev Rec:=Int×Int
def IW (a b:Rec):Bool:=decide (a.1<b.1) || (decide (a.1=b.1) && decide (a.2<b.2))
theorem XJ{a b}:IW a b=true↔a.1<b.1∨(a.1=b.1∧a.2<b.2):=by simp[IW]
theorem JI a:IW a a=false:=by rw[gK,Ne,XJ];omega
theorem NU{a b c}(h1:IW a b=true)(h2:IW b c=true):IW a c=true:=by
 rw[XJ]at *;omega
theorem XL a b:IW a b=true∨a=b∨IW b a=true:=by
 rw[XJ,XJ]
 by_cases h:a=b
 ·exact .inr (.inl h)
 have:a.1≠b.1∨a.2≠b.2:=by
  by_cases h1:a.1=b.1
  ·exact .inr fun h2=>h (Prod.ext h1 h2)
  exact .inl h1
 omega
section
variable {β:Type}
abbrev Ls (β:Type):=List (Rec×β)
def MN (l:Ls β):Prop:=l.Pairwise fun a b=>IW a.1 b.1=true
def RG (t:Rec) (v:β):Ls β→Ls β
 |[]=>[(t,v)]
 |(u,x)::r=>if IW u t then(u,x)::RG t v r else if u=t then(t,v)::r else(t,v)::(u,x)::r
def a2f (t:Rec) (l:Ls β):Ls β:=l.filter fun e=>decide (e.1≠t)
def OT (l:Ls β) (t:Rec):Option β:=(l.find? fun e=>decide (e.1=t)).map (·.2)
theorem UQ t v:∀{l:Ls β},MN l→∀e,e∈RG t v l↔e=(t,v)∨(e∈l∧e.1≠t)
 |[],_,e=>by simp[RG]
 |(u,x)::r,h,e=>by
  have A:=aW.1 h;unfold RG
  by_cases h1:IW u t=true
  ·rw[zG h1,aK,UQ t v A.2,aK];have O:u≠t:=fun g=>by rw[g,JI]at h1;cases h1
   constructor
   ·rintro(g|g|g)
    ·exact .inr ⟨.inl g,by rw[g];exact O⟩
    ·exact .inl g
    exact .inr ⟨.inr g.1,g.2⟩
   rintro(g|⟨g|g,h2⟩)
   ·exact .inr (.inl g)
   ·exact .inl g
   exact .inr (.inr ⟨g,h2⟩)
  rw[zF h1]
  by_cases h2:u=t
  ·rw[zG h2,aK,aK];subst h2;constructor
   ·rintro(g|g)
    ·exact .inl g
    refine .inr ⟨.inr g,fun h3=>?_⟩;have:=A.1 e g;rw[h3]at this;simp only[JI]at this;cases this
   rintro(g|⟨g|g,h3⟩)
   ·exact .inl g
   ·exact absurd (by rw[g]) h3
   exact .inr g
  rw[zF h2,aK];have h3:IW t u=true:=((XL u t).resolve_left h1).resolve_left h2;constructor
  ·rintro(g|g)
   ·exact .inl g
   refine .inr ⟨g,fun G=>?_⟩;rcases aK.1 g with g|g
   ·rw[g]at G;exact h2 G
   have:=NU h3 (A.1 e g);rw[G,JI]at this;cases this
  rintro(g|g)
  ·exact .inl g
  exact .inr g.1
theorem a0c t v:∀{l:Ls β},MN l→MN (RG t v l)
 |[],_=>List.pairwise_singleton _ _
 |(u,x)::r,h=>by
  have A:=aW.1 h;unfold RG
  by_cases h1:IW u t=true
  ·rw[zG h1];refine aW.2 ⟨fun e G=>?_,a0c t v A.2⟩;rcases(UQ t v A.2 e).1 G with g|g
   ·rw[g];exact h1
   exact A.1 e g.1
  rw[zF h1]
  by_cases h2:u=t
  ·rw[zG h2];subst h2;exact aW.2 ⟨fun e G=>A.1 e G,A.2⟩
  rw[zF h2];have h3:IW t u=true:=((XL u t).resolve_left h1).resolve_left h2;refine aW.2 ⟨fun e G=>?_,h⟩;rcases aK.1 G with g|g
  ·rw[g];exact h3
  exact NU h3 (A.1 e g)
theorem a1I t {l:Ls β}(h:MN l):MN (a2f t l):=h.filter _
theorem a0w t l (e:Rec×β):e∈a2f t l↔e∈l∧e.1≠t:=by simp[a2f]
theorem b8l{a b:Ls β}(ha:MN a)(hb:MN b)(h:∀e,e∈a↔e∈b):a=b:=by
 induction a generalizing b with
 |nil=>
  rcases b with _|⟨y,t⟩
  ·rfl
  exact absurd ((h y).2 (.head _)) sI
 |cons x r ih=>
  rcases b with _|⟨y,t⟩
  ·exact absurd ((h x).1 (.head _)) sI
  have A:=aW.1 ha;have G:=aW.1 hb;have Z:x=y:=by
   rcases aK.1 ((h x).1 (.head _))with e|e
   ·exact e
   rcases aK.1 ((h y).2 (.head _))with O|O
   ·exact O.symm
   have:=NU (G.1 x e) (A.1 y O);rw[JI]at this;cases this
  subst Z;rw[ih A.2 G.2 fun z=>⟨fun hz=>?_,fun hz=>?_⟩]
  ·rcases aK.1 ((h z).1 (.tail _ hz))with rfl|e
   ·have:=A.1 z hz;rw[JI]at this;cases this
   exact e
  rcases aK.1 ((h z).2 (.tail _ hz))with rfl|e
  ·have:=G.1 z hz;rw[JI]at this;cases this
  exact e
theorem c5E{l}(h:MN l){a b:Rec×β}(Z:a∈l)(hb:b∈l)(he:a.1=b.1):a=b:=by
 induction l with
 |nil=>cases Z
 |cons x r ih=>
  have O:=aW.1 h;rcases aK.1 Z with A|A<;>rcases aK.1 hb with G|G
  ·rw[A,G]
  ·have:=O.1 b G;rw[←A,he,JI]at this;cases this
  ·have:=O.1 a A;rw[←G,←he,JI]at this;cases this
  exact ih O.2 A G
theorem b9Q{l:Ls β}(h:MN l):(l.map (·.1)).Nodup:=by
 rw[List.nodup_iff_pairwise_ne,List.pairwise_map];exact h.imp fun {a b} g e=>by rw[e,JI]at g;cases g
theorem KZ{l}(h:MN l){t:Rec}{v:β}:OT l t=some v↔(t,v)∈l:=by
 unfold OT;constructor
 ·intro g;obtain⟨e,A,rfl⟩:=Option.map_eq_some_iff.1 g;have h1:=iH A;have h2:e.1=t:=zB h1;have:=dW A;rw[←h2];exact this
 intro g;have hs:(l.find? fun e=>decide (e.1=t)).isSome=true:=by
  rw[List.find?_isSome];exact⟨_,g,sI⟩
 obtain⟨e,A⟩:=Option.isSome_iff_exists.1 hs;have h0:=iH A;have h1:e.1=t:=zB h0;have h2:=c5E h (dW A) g h1;rw[A,h2];rfl
theorem a4W{l:Ls β}{t}:OT l t=none↔∀e∈l,e.1≠t:=by
 unfold OT;rw[Option.map_eq_none_iff,List.find?_eq_none];simp
def a1g (es l:Ls β):Ls β:=es.foldl (fun l e=>RG e.1 e.2 l) l
end
end Ix
namespace Go.Proofs.YtojdemmgkdokmaaGreatDoor
open Go Go.Shelf Go.RowKit Go.Lib Go.Sort
abbrev recC (x:Ix.Rec):List Value:=[.int .i64 x.1,.int .i64 x.2]
theorem GX x:(recC x).length=2:=rfl
abbrev CW (x:List UInt8×Int):List Value:=[Sx.str x.1,.int .i64 x.2]
theorem GH x:(CW x).length=2:=rfl
def a0C (x y:Ix.Rec):Int:=NH (compareInt x.1 y.1) (compareInt x.2 y.2)
def ZM (x y:List UInt8×Int):Int:=NR x.1 y.1
theorem UL x y:ltOf a0C x y=Ix.IW x y:=by
 rw[Bool.eq_iff_iff,Ix.XJ];unfold ltOf a0C NH compareInt;rw[zH]
 repeat(first|omega|split)
theorem b6L:SWO (ltOf a0C) where
 irrefl x:=by rw[UL];exact Ix.JI x
 trans x y z h1 h2:=by rw[UL]at *;exact Ix.NU h1 h2
 ntrans x y z h1 h2:=by
  rw[UL,gK,Ne,Ix.XJ]at *;omega
theorem ZE x y:ltOf ZM x y=decide (x.1<y.1):=by
 unfold ltOf ZM NR;rw[decide_eq_decide]
 by_cases h:x.1<y.1
 ·rw[zG h];simp[h]
 rw[zF h]
 by_cases h2:y.1<x.1
 ·rw[zG h2];simp[h]
 rw[zF h2];simp[h]
theorem a5P:SWO (ltOf ZM) where
 irrefl x:=by rw[ZE];exact zJ (List.lt_irrefl _)
 trans x y z h1 h2:=by
  rw[ZE]at *;exact zI (List.lt_trans (BH h1) (BH h2))
 ntrans x y z h1 h2:=by
  rw[ZE]at *;have h:=gW.1 (BN h1);have A:=gW.1 (BN h2);exact zJ (gW.2 (List.le_trans A h))
theorem a3H{base} l g (hg:Sx.CU base 2 l.length (l.flatMap recC) g)(hl:l.length≤100000000000000) I:Sx.yT aG 255 [Sx.gV l.length g,.func (.func 256) #[] #[]] I (Sx.gH 38 (l.flatMap recC) g)
 (fun e a2 H'=>∃l':List Ix.Rec,l'.Perm l∧l'.Pairwise (fun p q=>Ix.IW q p=false)∧e= .returned (.tuple #[])∧H'=Sx.gH 38 (l'.flatMap recC) g):=by
 cases g with
 |none=>
  obtain⟨h1,h2⟩:=hg;have h0:l=[]:=bK.1 h1;subst h0;exact(eG (bW jA dE rfl) (fun w _=>dX Tryz.sortF none 0 (.func (.func 256) #[] #[]) w)).mono fun e _ H' _ ⟨h1,_,h3⟩=>⟨[],iM _,dU,h1,h3⟩
 |some q=>
  obtain⟨b,c,sp⟩:=q;refine⟨bW jA dE rfl,fun w hw=>?_⟩;have G:=hw.2.1 _ (.head _);have a0:b<w.heap.size:=by
   rcases dJ b w.heap.size with h|h
   ·exact h
   rw[bC h]at G;cases G
  have eg:∀args w,(callFunc 256 args).run aG w= .ok (.enter 256 args) w:=enters_of Tryz.func256 kR rfl;have hH:HoldsK recC 2 w b 0 l.toArray:=by
   unfold HoldsK;rw[Sx.SE GX];exact Sx.XY G
  have O:CmpLays aG 256 #[] recC 2 a0C b 0 l.toArray.size w:=fun m os _ _ x y=>b3U x.1 x.2 y.1 y.2 _;have Z:=fO Tryz.sortF 2 EI AY recC GX (fun x v hv=>by
   simp only[aK,iC,or_false]at hv;rcases hv with rfl|rfl<;>rfl) a0C b6L 256 #[] b 0 c l.toArray w eg O hH a0 (by simp;omega)
  refine Z.mono fun e w' ⟨h1,A,n,os,h2,h3,h4⟩=>?_;rw[dA]at h2 h3;have hp:=Sx.VN h2;have a1:A.size=l.length:=by have:=hp.length_eq;simpa using this
  rw[←a1]at h3;refine⟨I,_,?_,A.toList,hp,(Sx.sorted_in h3).imp fun h=>?_,h1,rfl⟩
  ·rw[h4];unfold sortWorldK putRowK;rw[show A=A.toList.toArray from(fP (xs:=A)).symm,Sx.SE GX];exact Sx.St.b1u n os hw (by rw[Sx.DN GX,Sx.DN GX,hp.length_eq])
  rw[UL]at h;exact h
theorem a6c{base} l g (hg:Sx.CU base 2 l.length (l.flatMap CW) g)(hl:l.length≤100000000000000) I:Sx.yT aG 157 [Sx.gV l.length g,.func (.func 203) #[] #[]] I (Sx.gH 80 (l.flatMap CW) g)
 (fun e a2 H'=>∃l':List (List UInt8×Int),l'.Perm l∧l'.Pairwise (fun p q=>¬q.1<p.1)∧e= .returned (.tuple #[])∧H'=Sx.gH 80 (l'.flatMap CW) g):=by
 cases g with
 |none=>
  obtain⟨h1,h2⟩:=hg;have h0:l=[]:=bK.1 h1;subst h0;exact(eG (bW jB dE rfl) (fun w _=>dX Tryz.sortL none 0 (.func (.func 203) #[] #[]) w)).mono fun e _ H' _ ⟨h1,_,h3⟩=>⟨[],iM _,dU,h1,h3⟩
 |some q=>
  obtain⟨b,c,sp⟩:=q;refine⟨bW jB dE rfl,fun w hw=>?_⟩;have G:=hw.2.1 _ (.head _);have a0:b<w.heap.size:=by
   rcases dJ b w.heap.size with h|h
   ·exact h
   rw[bC h]at G;cases G
  have eg:∀args w,(callFunc 203 args).run aG w= .ok (.enter 203 args) w:=enters_of Tryz.func203 kR rfl;have hH:HoldsK CW 2 w b 0 l.toArray:=by
   unfold HoldsK;rw[Sx.SE GH];exact Sx.XY G
  have O:CmpLays aG 203 #[] CW 2 ZM b 0 l.toArray.size w:=fun m os _ _ x y=>c3z x.1 y.1 x.2 y.2 _;have Z:=fO Tryz.sortL 2 YV IQ CW GH (fun x v hv=>by
   simp only[aK,iC,or_false]at hv;rcases hv with rfl|rfl<;>rfl) ZM a5P 203 #[] b 0 c l.toArray w eg O hH a0 (by simp;omega)
  refine Z.mono fun e w' ⟨h1,A,n,os,h2,h3,h4⟩=>?_;rw[dA]at h2 h3;have hp:=Sx.VN h2;have a1:A.size=l.length:=by have:=hp.length_eq;simpa using this
  rw[←a1]at h3;refine⟨I,_,?_,A.toList,hp,(Sx.sorted_in h3).imp fun h=>?_,h1,rfl⟩
  ·rw[h4];unfold sortWorldK putRowK;rw[show A=A.toList.toArray from(fP (xs:=A)).symm,Sx.SE GH];exact Sx.St.b1u n os hw (by rw[Sx.DN GH,Sx.DN GH,hp.length_eq])
  rw[ZE]at h;exact BN h
