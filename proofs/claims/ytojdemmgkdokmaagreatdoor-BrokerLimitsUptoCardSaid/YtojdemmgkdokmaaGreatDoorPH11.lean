/-
  Own texts on the laws of the seat, joined: the logic, and contracts of functions. Conditions: none.
-/
import Derived.Test.YtojdemmgkdokmaaGreatDoorNmH
import Derived.Test.YtojdemmgkdokmaaGreatDoorPH10
set_option linter.all false
set_option maxRecDepth 100000
set_option maxHeartbeats 40000000
open Go.Sx.J renaming z -> aA,op -> aG,eqv -> eY,nil -> gB
open Go.Sx.JA renaming tk -> aB,fix -> bH,eqv -> iR
open Go.Proofs.Tryz renaming prog -> aC
open Go.Sx.Cj renaming region -> aF,ret -> aJ,block -> aV,seq -> aZ,FT -> bT,cond -> dV,loop -> fB,persist -> iK
open Ix renaming keyOf -> aH,Rec -> aS,within -> bD,phrase -> bI,OT -> dJ,LY -> dM,a1g -> dQ,MN -> dU,a5i -> dX,WJ -> dY,plK -> fF,cnt -> gX,scan -> iE,Pl -> iL,a3F -> iM,word -> iO,b4z -> iP
open Go.Sx.yR renaming TN -> aI,TS -> bM,QE -> iC
open List renaming take_of_length_le -> aK,append_nil -> aQ,length_append -> aT,getElem?_eq_some_iff -> aU,length_map -> aY,mem_map -> bF,pairwise_cons -> bG,take_succ_eq_append_getElem -> bJ,length_take -> bK,mem_cons -> bQ,mem_map_of_mem -> dA,flatMap_append -> dB,filter_append -> dG,map_map -> dI,length_eq_zero_iff -> dK,length_cons -> dN,pairwise_iff_forall_sublist -> dP,drop_drop -> dW,nodup_iff_pairwise_ne -> eG,append_assoc -> eP,pairwise_map -> eU,foldl_append -> eX,length_drop -> fD,sublist_append_left -> fE,prefix_iff_eq_take -> fG,map_append -> fM,mem_filter -> fO,take_append_drop -> fQ,length_filter_le -> fU,mem_append_right -> fV,mem_append_left -> gG,filter_eq_self -> gI,find?_eq_none -> gJ,getElem?_drop -> gK,set_cons_zero -> gU,set_cons_succ -> gW,any_eq_true -> iF,find?_some -> iG,length_set -> iH,find?_cons -> iI
open Go.Sx.Le renaming refl -> aN,trans -> bV
open Ke renaming words -> aO,KC -> iJ
open Go.Sx.yT renaming toPure -> aP
open Go.Sx.HSub renaming n -> aW,c -> bY
open Go.Sx.CSub renaming n -> aX
open Go.Sx.zM renaming c -> bC,z -> bZ,s -> iT
open Go.Sx.Ej renaming bare -> bP,round -> bU,QL -> dD,LM -> dF,keep -> dR,seq -> dS,OX -> fZ,FN -> gY
open Bool renaming noConfusion -> bW,true_and -> eF,eq_false_iff -> eH
open Nat renaming zero_le -> cO,le_refl -> cZ,add_sub_cancel_left -> fH,min_eq_left -> fJ,min_le_left -> fP
open Go.Sx.GN renaming part -> dH,none -> fK
open Std renaming lt_irrefl -> dL,lt_of_le_of_ne -> dZ,lt_trans -> gZ
open Classical renaming byContradiction -> fA
open Go.Sx.Keeps renaming d -> fC,k -> iD,r -> iQ
open Go.Sx.AV renaming z -> gQ
open Prod renaming ext -> iU
open Eq renaming trans -> iV
namespace Go.Proofs.YtojdemmgkdokmaaGreatDoor
open _root_.Go.Proofs.Tryz
open Go Go.Sx
theorem b3l{w l}(h:l.length<w.length):bD w l=false:=by
 rw[eH,Ne,Ix.within_iff];exact fun g=>by have:=g.length_le;omega
theorem b6q{w l}(h:l.take w.length=w):bD w l=true:=by
 rw[Ix.within_iff];exact(fG.2 h.symm).isInfix
theorem b3S{w l:Ke.Row}{k}(Z:k+w.length≤l.length)(h:¬(l.drop k).take w.length=w):bD w (l.drop k)=bD w (l.drop (k+1)):=by
 rcases Nat.lt_or_ge k l.length with A|O
 ·rw[←List.getElem_cons_drop A]at h ⊢
  conv=>lhs;unfold bD
  have:w.isPrefixOf (l[k]::l.drop (k+1))=false:=by
   rw[eH,Ne,List.isPrefixOf_iff_prefix,fG];exact fun e=>h e.symm
  rw[this,Bool.false_or]
 have G:w=[]:=dK.1 oM;subst G;exact absurd rfl h
theorem c4l{a b:List (List UInt8)}{k x y}(h:a.take k=b.take k)(A:a[k]?=some x)(G:b[k]?=some y)(O:x=y):a.take (k+1)=b.take (k+1):=by
 obtain⟨h1,Z⟩:=aU.1 A;obtain⟨h2,e2⟩:=aU.1 G;rw[bJ h1,bJ h2,h,Z,e2,O]
theorem c1T{I l a n c}(h:ZA I l (.slice a n c)){j k}(A:j≤k)(G:k≤l.length):ZA I ((l.drop j).take (k-j)) (.slice (a3Z a c j 1) (k-j) (c-j)):=
 b1K.2 (zY.cut (f:=fun s=>[str s]) (sz:=1) (fun _=>rfl) (b1K.1 h) A G)
theorem c0o a b va vb I (ha:ZA I a va)(hb:ZA I b vb)(ac:a.length≤100000000000000):Pure aC 258 [va,vb] I (.bool (decide (a=b))):=by
 refine aP ?_;obtain⟨p1,c1,rfl,_,a5⟩:=ha;obtain⟨p2,c2,rfl,_,a6⟩:=hb;refine yT.ob func258 ?_;intro w0 _;refine Cj.sr (aA yQ ?_);refine J.AO (aF (aA yP ?_));refine aA (AU AP) ?_;refine aA yP ?_;refine aA (AU AP) ?_;refine aA EY ?_;refine J.cd (fun O=>?_) (fun O=>?_)
 ·have A:=bne_iff_ne.1 O;refine Cj.sr (aA yQ ?_);refine J.ns (Cj.rs (zN ?_));rw[zJ (fun e=>A (by rw[e]))];exact rT
 have A:=EC O;have ab:a.length=b.length:=by have h:=A;omega
 refine Cj.ks (aZ (Cj.sr (aA yP ?_)));refine aA (AU AP) ?_;refine aA yP ?_;refine J.ns (aV (fB (ι:=Nat) (fun j=>j≤a.length∧a.take j=b.take j) (fun j=>a.length-j) (fun j=>[(0,.slice p1 a.length c1),(1,.slice p2 b.length c2),(12,i64 (a.length:Int)),(13,i64 (j:Int))]) (fun j=>I) (fun j=>[]) 0 ⟨cO _,rfl⟩ rT rfl rfl ?_));rintro j ⟨_,Z⟩;refine Cj.sr (aA BM ?_);refine J.nss (dV rfl (fun a0=>?_) (fun a0=>?_))
 ·have a3:=BH a0;have a4:j<a.length:=oM;obtain⟨x,hx⟩:∃x,a[j]?=some x:=⟨_,DX a4⟩;obtain⟨y,hy⟩:∃y,b[j]?=some y:=⟨_,DX oM⟩;obtain⟨_,oa,_,_,_,_,rfl,a7,a8⟩:=a5 (AX a4);obtain⟨_,ob,EP,_,_,_,rfl,a9,aa⟩:=a6 (AX (oM:j<b.length));refine Cj.ks (aZ (aV (Cj.sr (aA yP ?_))));refine aA yQ ?_;refine J.nss (bT [] [] 9 kR ?_);refine bH BQ (fun BQ=>?_);refine aB 0 rfl BQ yP ?_;refine aB 1 rfl BQ yP ?_;refine aB 2 rfl BQ (BG (off':=oa+j) AP zL) ?_;refine aB 3 rfl BQ (EN BX (aI a7) (a6Q a8 hx)) ?_;refine aB 4 rfl BQ yP ?_;refine aB 5 rfl BQ yP ?_;refine aB 6 rfl BQ (BG (off':=ob+j) AP zL) ?_;refine aB 7 rfl BQ (EN BX (aI a9) (a6Q aa hy)) ?_;refine aB 8 rfl BQ (LH rfl rfl rfl) ?_;refine AL ?_;refine dS (dV rfl (fun a1=>?_) (fun a1=>?_))
  ·have G:=bne_iff_ne.1 a1;have a2:x≠y:=G;refine Cj.sr (aA yQ ?_);refine J.ns (aJ (dD (dF (fZ (dD (dF (zN ?_)))))));rw[zJ (fun e=>a2 (by rw[e,hy]at hx;exact(Option.some.inj hx).symm))];exact rT
  have G:=EC a1;have a2:x=y:=G;refine Cj.kb (aF (aA (yZ rfl rfl rfl (AA oM)) ?_));refine aA yP ?_;refine gB (bU (j+1) ⟨oM,c4l Z hx hy a2⟩ oM rT rfl rfl)
 have a3:=BN a0;refine Cj.xl (Cj.sr (aA yQ ?_));refine J.ns (aJ (zN ?_));rw[aK (oM:a.length≤j),aK (oM:b.length≤j)]at Z;rw[zI Z];exact rT
theorem b3N a b va vb I (ha:ZA I a va)(hb:ZA I b vb)(a3:a.length≤100000000000000)(a4:b.length≤100000000000000):Pure aC 200 [va,vb] I (.bool (bD b a)):=by
 refine aP ?_;obtain⟨p1,c1,rfl,_,-⟩:=id ha;obtain⟨p2,c2,rfl,_,-⟩:=id hb;refine yT.ob func200 ?_;intro w0 _;refine Cj.sr (aA yQ ?_);refine J.AO (aF (aA yQ ?_));refine J.ns (aV (fB (ι:=Nat) (fun k=>k≤a.length+1∧(0<k→0<b.length)∧bD b (a.drop k)=bD b a) (fun k=>a.length+1-k) (fun k=>[(0,.slice p1 a.length c1),(1,.slice p2 b.length c2),(5,i64 (k:Int))]) (fun k=>I) (fun k=>[]) 0 ⟨cO _,fun h=>absurd h (Nat.lt_irrefl 0),rfl⟩ rT rfl rfl ?_));rintro k ⟨_,a2,hw⟩;refine aZ (Cj.sr (aA yP ?_));refine aA yP ?_;refine aA (AU AP) ?_;refine aA (yZ rfl rfl rfl (AA oM)) ?_;refine aA yP ?_;refine aA (AU AP) ?_;refine aA (WA rfl rfl rfl) ?_;refine J.cd (fun A=>?_) (fun A=>?_)
 ·have Z:=BH A;have a0:k+b.length≤a.length:=oM;refine Cj.ks (aZ (aV (Cj.sr (aA yP ?_))));refine aA yP ?_;refine aA yP ?_;refine aA yP ?_;refine aA (AU AP) ?_;refine aA (yZ rfl rfl rfl (AA oM)) ?_;refine aA (c0z (j:=k) (k:=(k+b.length)) rfl rfl rfl rfl AP zL rfl oM oM) ?_;refine aA yP ?_;refine aG rfl (yU rfl rfl rfl rfl rfl (c0o _ b _ _ _ (c1T ha (Nat.le_add_right k b.length) a0) hb (by rw[bK,fD];omega)) ?_);refine J.cd (fun G=>?_) (fun G=>?_)
  ·have a1:=BH G;rw[fH]at a1;refine Cj.sr (aA yQ ?_);refine J.ns (aJ (dD (dF (fZ (dD (dF (zN ?_)))))));rw[←hw,b6q a1];exact rT
  have O:=BN G;rw[fH]at O;refine Cj.kb (aF (aA yP ?_));refine aA (yZ rfl rfl rfl (AA oM)) ?_;refine aA yQ ?_;refine gB (bU (k+1) ⟨oM,fun _=>List.length_pos_iff.2 (fun e=>O (by rw[e];rfl)),by rw[←hw,b3S a0 O]⟩ oM rT rfl rfl)
 have Z:=BN A;refine Cj.xl (Cj.sr (aA yQ ?_));refine J.ns (aJ (zN ?_));rw[←hw,b3l (by rw[fD];rcases Nat.eq_zero_or_pos k with h|h<;>(first|omega|(have:=a2 h;omega)))];exact rT
theorem a0N l v G g O (hl:l.length≤100000000000000) I (hr:zY vwC I l v)(hw:∀x∈l,JX 9 I x.1.ws x.2)(a4:∀x∈l,Pure aC g (.agg (vwC x).toArray::O) I (.bool (G x))):Pure aC 79 [v,.func (.func g) #[] O.toArray] I (i64 (ZP G l)):=by
 refine aP ?_;obtain⟨p,c,rfl,_,hp⟩:=hr;refine yT.ob func79 ?_;intro w0 _;refine Cj.sr (aA yQ ?_);refine J.AO (aF (aA yP ?_));refine aA (AU QH) ?_;refine aA yP ?_;refine J.ns (aV (fB (ι:=Nat) (fun j=>j≤l.length∧∀x∈l.take j,G x=false) (fun j=>l.length-j) (fun j=>[(0,.slice p l.length c),(1,.func (.func g) #[] O.toArray),(7,i64 (l.length:Int)),(8,i64 (j:Int))]) (fun j=>I) (fun j=>[]) 0 ⟨cO _,fun g hg=>by simp at hg⟩ rT rfl rfl ?_));rintro j ⟨_,h⟩;refine Cj.sr (aA BM ?_);refine J.nss (dV rfl (fun Z=>?_) (fun Z=>?_))
 ·have a3:=BH Z;have a2:j<l.length:=oM;obtain⟨x,A⟩:∃x,l[j]?=some x:=⟨_,DX a2⟩;obtain⟨_,fo,_,_,_,sp,rfl,a5,a6⟩:=hp (AX a2);refine Cj.ks (aZ (aV (Cj.sr (aA yP ?_))));refine aA yQ ?_;refine J.yV (aA yP ?_);refine aA yP ?_;refine aA yP ?_;refine aA (BG (off':=fo+j*3) QH NP) ?_;refine aA (FH isAgg174 NP (bM a5) (EJ a1k a6 A)) ?_;refine aG rfl (yU rfl rfl rfl rfl rfl (a4 x (FB A)) ?_);refine J.cd (fun a0=>?_) (fun a0=>?_)
  ·have ht:G x=true:=a0;refine Cj.sr (aA yP ?_);refine aA yQ ?_;refine J.ns (aJ (dD (dF (fZ (dD (dF (zN ?_)))))));rw[a5l h A ht];exact rT
  have a7:G x=false:=a0;refine Cj.kb (aF (aA (yZ rfl rfl rfl (AA oM)) ?_));refine aA yP ?_;refine gB (bU (j+1) ⟨oM,a1d h A a7⟩ oM rT rfl rfl)
 have a3:=BN Z;have a1:l.take j=l:=aK oM;rw[a1]at h;refine Cj.xl (Cj.sr (aA yQ ?_));refine J.ns (aJ (zN ?_));rw[a2c h];exact rT
theorem a3V l v G g O (hl:l.length≤100000000000000) I (hr:zY recC I l v)(a4:∀x∈l,Pure aC g (BI x::O) I (.bool (G x))):Pure aC 257 [v,.func (.func g) #[] O.toArray] I (i64 (ZP G l)):=by
 refine aP ?_;obtain⟨p,c,rfl,_,hp⟩:=hr;refine yT.ob func257 ?_;intro w0 _;refine Cj.sr (aA yQ ?_);refine J.AO (aF (aA yP ?_));refine aA (AU OU) ?_;refine aA yP ?_;refine J.ns (aV (fB (ι:=Nat) (fun j=>j≤l.length∧∀x∈l.take j,G x=false) (fun j=>l.length-j) (fun j=>[(0,.slice p l.length c),(1,.func (.func g) #[] O.toArray),(7,i64 (l.length:Int)),(8,i64 (j:Int))]) (fun j=>I) (fun j=>[]) 0 ⟨cO _,fun g hg=>by simp at hg⟩ rT rfl rfl ?_));rintro j ⟨_,h⟩;refine Cj.sr (aA BM ?_);refine J.nss (dV rfl (fun Z=>?_) (fun Z=>?_))
 ·have a3:=BH Z;have a2:j<l.length:=oM;obtain⟨x,A⟩:∃x,l[j]?=some x:=⟨_,DX a2⟩;obtain⟨_,fo,_,_,_,sp,rfl,a5,a6⟩:=hp (AX a2);refine Cj.ks (aZ (aV (Cj.sr (aA yP ?_))));refine aA yQ ?_;refine J.yV (aA yP ?_);refine aA yP ?_;refine aA yP ?_;refine aA (BG (off':=fo+j*2) OU AY) ?_;refine aA (FH EI AY (bM a5) (EJ GX a6 A)) ?_;refine aG rfl (yU rfl rfl rfl rfl rfl (a4 x (FB A)) ?_);refine J.cd (fun a0=>?_) (fun a0=>?_)
  ·have ht:G x=true:=a0;refine Cj.sr (aA yP ?_);refine aA yQ ?_;refine J.ns (aJ (dD (dF (fZ (dD (dF (zN ?_)))))));rw[a5l h A ht];exact rT
  have a7:G x=false:=a0;refine Cj.kb (aF (aA (yZ rfl rfl rfl (AA oM)) ?_));refine aA yP ?_;refine gB (bU (j+1) ⟨oM,a1d h A a7⟩ oM rT rfl rfl)
 have a3:=BN Z;have a1:l.take j=l:=aK oM;rw[a1]at h;refine Cj.xl (Cj.sr (aA yQ ?_));refine J.ns (aJ (zN ?_));rw[a2c h];exact rT
theorem a8B b c sp l (O:l.length≤c) A g h (Z:l.length≤100000000000000) I (G:∀J,Le I J→∀x∈l,Pure aC g (BI x::h) J (.bool (A x))):
 yT aC 257 [.slice (some ⟨b,0,none⟩) l.length c,.func (.func g) #[] h.toArray] I [(b,yY 38 (l.flatMap recC++sp))] (fun e _ H'=>e= .returned (i64 (ZP A l))∧H'=[(b,yY 38 (l.flatMap recC++sp))]):=by
 refine yT.b9f (Enters.of func257 dE rfl) fun hn hd=>?_;have hr:zY recC (a0Z [(b,yY 38 (l.flatMap recC++sp))] I) l (.slice (some ⟨b,0,none⟩) l.length c):=zY.of O (a3A hn _ (.head _));refine(yT.borrow (a3V l _ A g h Z _ hr (G _ (c0N hd)))).mono fun e _ H' _ ⟨J,M,⟨h1,_,h3⟩,h4,_⟩=>⟨h1,?_⟩;rw[h4,h3,aQ]
theorem c5m{α:Type}(p:α→Bool)(l:List α):decide (0≤ZP p l)=l.any p:=by
 rcases SI p l with⟨h1,h2⟩|⟨k,x,h1,h2,h3⟩
 ·rw[h1];have:l.any p=false:=by
   rw[eH,Ne,iF];rintro⟨y,h,A⟩;exact absurd A (by simpa using gJ.1 h2 y h)
  rw[this];rfl
 rw[h1];have:l.any p=true:=iF.2 ⟨x,FB h2,by have:=iG h3;exact this⟩;rw[this];exact zI oM
theorem a1E l v A g h (O:l.length≤100000000000000) I (hr:zY vwC I l v)(Z:∀x∈l,JX 9 I x.1.ws x.2)(G:∀x∈l,Pure aC g (.agg (vwC x).toArray::h) I (.bool (A x))):Pure aC 198 [v,.func (.func g) #[] h.toArray] I (.bool (l.any A)):=by
 refine aP ?_;refine yT.ob func198 ?_;intro w0 _;refine Cj.sr (aA yQ ?_);refine J.yV (aA yP ?_);refine aA yP ?_;refine aG rfl (yU rfl rfl rfl rfl rfl (a0N l v A g h O _ hr Z G) ?_);refine aA (MC rfl rfl rfl) ?_;refine aA yQ ?_;refine J.ns (aJ (zN ?_));rw[←c5m];exact rT
theorem c1S x p n c (h:x.2= .slice p n c) I:Pure aC 80 [.agg (vwC x).toArray] I (.bool (decide (x.1.name=dX))):=by
 refine aP ?_;refine yT.ob func80 ?_;intro w0 _;refine Cj.sr (aG rfl (BL ?_));intro _ _;refine aA yQ ?_;refine J.yV (aA (qq2 (off':=0) YT zL) ?_);refine aA (yX BX (yR.at 0 rfl)) ?_;refine aA (ED rfl rfl rfl) ?_;refine eY 5 rfl (show _= .bool (decide (x.1.name=dX)) from(zD Value.bool (by rw[Bool.eq_iff_iff,beq_iff_eq,zH];exact Iff.rfl))) ?_;refine aA yQ ?_;refine J.ns (aJ (bP ?_));refine zN ?_;exact rT
theorem a5M x nb G n w O I (hx:JX 9 I x.1.ws x.2)(a1:x.1.ws.length≤10000000)(a2:w.length≤1000000000)(hw:JX 9 I w O)(Z:I nb=some (yY 9 [str n]))(a0:I G=some (yY 144 [O])):Pure aC 199 [.agg (vwC x).toArray,ptr nb 0,ptr G 0] I (.bool (decide (x.1.name=n) && bD w x.1.ws)):=by
 refine aP ?_;refine yT.ob func199 ?_;intro w0 _;refine Cj.sr (aG rfl (BL ?_));intro _ _;refine aA yQ ?_;refine J.yV (aA (qq2 (off':=0) YT zL) ?_);refine aA (yX BX (yR.at 0 rfl)) ?_;refine aA (yX BX (bM Z)) ?_;refine aA (ED rfl rfl rfl) ?_;refine aA yP ?_;refine J.split 9 rfl (fun h=>?_) (fun h=>?_)
 ·have A:=CS h;refine zU 4 9 true h (zK (qq2 (off':=2) YT LK) ?_);refine zU 4 9 true h (zK (yX RX (yR.at 0 rfl)) ?_);refine zU 4 9 true h (zK (yX RX (bM a0)) ?_);refine J.QD 4 9 true _ rfl rfl rfl h (yU rfl rfl rfl rfl rfl (b3N x.1.ws w _ _ _ (ZA.of hx) (ZA.of hw) oM oM) ?_);refine aA (DY h) ?_;refine aA yQ ?_;refine J.ns (aJ (bP ?_));refine zN ?_;rw[zI (CS h:x.1.name=n),eF];exact rT
 have A:=CX h;refine zO 4 9 10 true h ?_;refine zO 4 9 11 true h ?_;refine zO 4 9 12 true h ?_;refine zO 4 9 13 true h ?_;refine aA (DV h) ?_;refine aA yQ ?_;refine J.ns (aJ (bP ?_));refine zN ?_;rw[zJ (CX h:x.1.name≠n)];exact rT
theorem c6b{α β:Type} f (p:β→Bool)(l:List α):(l.map f).any p=l.any fun x=>p (f x):=by rw[List.any_map];rfl
theorem b2U{I xs vs}(h:TR I xs vs) n w:xs.any (fun x=>decide (x.1.name=n) && bD w x.1.ws)=iM n w vs:=by
 unfold iM;rw[←h.1,c6b]
def lacks (L:Ix.Ix) (n:List UInt8) (w:Ke.Row) (t:aS):Bool:= !iM n w ((dJ L t).getD [])
theorem b2K xb nb G ib mb m k wm km L n w wv t I (hs:dU L)(a1:MO ((dJ L t).getD []))(a4:w.length≤1000000000)(hw:JX 9 I w wv)(a5:I xb=some (yY 73 [ptr ib 0]))(a6:I nb=some (yY 9 [str n]))(a7:I G=some (yY 144 [wv]))(a8:I ib=some (yY 136 [.map (some mb),.map wm,.map km]))(a9:I mb=some (BD BI m k))(ac:MS m k)(aa:YL I m L):Pure aC 197 [BI t,ptr xb 0,ptr nb 0,ptr G 0] I (.bool (lacks L n w t)):=by
 refine aP ?_;obtain⟨vv,ab,xs,a3,A⟩:=aa.at t;have ad:=A.len;have ae:=a1.1;refine yT.ob func197 ?_;intro w0 _;refine Cj.sr (aG rfl (BL ?_));intro _ _;refine aA yQ ?_;refine J.nss (bT [0] [] 10 kR ?_);have O:=a5;have Z:=a8;have a0:=a9;refine bH ⟨(bY 0 rfl aW),aX,(aN _)⟩ (fun h=>?_);refine aB 0 rfl h (yX KQ (aI O)) ?_;refine aB 1 rfl h zW ?_;refine aB 2 rfl h (qq2 (off':=0) DW IB) ?_;refine aB 3 rfl h (yX RU (aI Z)) ?_;refine aB 4 rfl h (zX EI AY (iC 0 rfl)) ?_;refine aB 5 rfl h (CO (kv:=BI) (l:=m) (a:=t) rfl rfl rfl rfl SV GR a1a (aI a0)) ?_;refine iR 11 rfl (show _=vv from ab) ?_;refine aB 6 rfl h (EH rfl rfl rfl) ?_;refine zT 7 rfl (yU rfl rfl rfl rfl rfl (a1E xs _ (fun x=>decide (x.1.name=n) && bD w x.1.ws) _ [ptr nb 0,ptr G 0] oM _ a3.row A.2 (fun x hx=>a5M x nb G n w wv _ (A.2 x hx) (a1.2 _ (A.1▸dA hx)) a4 hw a6 a7)) ?_);refine⟨⟨(aN _),(bY 0 rfl aW),aX⟩,?_⟩;refine bH ⟨(bY 0 rfl aW),aX,(aN _)⟩ (fun a2=>?_);refine aB 8 rfl a2 (ER rfl rfl) ?_;refine aB 9 rfl a2 yQ ?_;refine AL ?_;refine dS (aJ (bP ?_));refine zN ?_;rw[b2U A];exact rT
theorem b2A xb nb G ib wm km L n w wv t I (hs:dU L)(a0:MO ((dJ L t).getD []))(a3:w.length≤1000000000)(hw:JX 9 I w wv)(a4:I xb=some (yY 73 [ptr ib 0]))(a5:I nb=some (yY 9 [str n]))(a6:I G=some (yY 144 [wv]))(a7:I ib=some (yY 136 [.map none,.map wm,.map km]))(hL:L=[]):Pure aC 197 [BI t,ptr xb 0,ptr nb 0,ptr G 0] I (.bool (lacks L n w t)):=by
 refine aP ?_;subst hL;obtain⟨xs,a2,A⟩:=TU.nil I;have a8:=A.len;rw[List.length_nil]at a8;have a9:=a0.1;refine yT.ob func197 ?_;intro w0 _;refine Cj.sr (aG rfl (BL ?_));intro _ _;refine aA yQ ?_;refine J.nss (bT [0] [] 10 kR ?_);have O:=a4;have Z:=a7;refine bH ⟨(bY 0 rfl aW),aX,(aN _)⟩ (fun h=>?_);refine aB 0 rfl h (yX KQ (aI O)) ?_;refine aB 1 rfl h zW ?_;refine aB 2 rfl h (qq2 (off':=0) DW IB) ?_;refine aB 3 rfl h (yX RU (aI Z)) ?_;refine aB 4 rfl h (zX EI AY (iC 0 rfl)) ?_;refine aB 5 rfl h (MQ (kv:=BI) (a:=t) rfl rfl rfl rfl SV GR a1a) ?_;refine aB 6 rfl h (EH rfl rfl rfl) ?_;refine zT 7 rfl (yU rfl rfl rfl rfl rfl (a1E xs _ (fun x=>decide (x.1.name=n) && bD w x.1.ws) _ [ptr nb 0,ptr G 0] oM _ a2.row A.2 (fun x hx=>a5M x nb G n w wv _ (A.2 x hx) (a0.2 _ (A.1▸dA hx)) a3 hw a5 a6)) ?_);refine⟨⟨(aN _),(bY 0 rfl aW),aX⟩,?_⟩;refine bH ⟨(bY 0 rfl aW),aX,(aN _)⟩ (fun a1=>?_);refine aB 8 rfl a1 (ER rfl rfl) ?_;refine aB 9 rfl a1 yQ ?_;refine AL ?_;refine dS (aJ (bP ?_));refine zN ?_;rw[b2U A];exact rT
structure DL where
  i:Nat
  j:Nat
  zs:List Ix.Rec
theorem b9S{ts:List aS}{A:aS→Bool}{k x}(G:ts[k]?=some x)(O:A x=true)(h:∀y∈ts.take k,A y=false):(ts.take (k+1)).filter (fun t=> !A t)=ts.take k:=by
 rw[take_one G,dG,gI.2 (fun y Z=>by simp[h y Z])];simp[O]
theorem c2x{ts zs:List aS}{A:aS→Bool}{i j x}(h:zs.take i=(ts.take j).filter (fun t=> !A t))(G:ts[j]?=some x)(O:A x=true):zs.take i=(ts.take (j+1)).filter (fun t=> !A t):=by
 rw[take_one G,dG,←h];simp[O]
theorem c1Q{ts zs:List aS}{A:aS→Bool}{i j x}(Z:i<j)(h:zs.take i=(ts.take j).filter (fun t=> !A t))(hd:zs.drop j=ts.drop j)(G:ts[j]?=some x)(O:A x=false)(hl:zs.length=ts.length):(zs.set i x).take (i+1)=(ts.take (j+1)).filter (fun t=> !A t):=by
 have hj:j<ts.length:=(aU.1 G).1;rw[take_one G,dG,←h,bJ (by rw[iH];omega),List.take_set_of_le (cZ i)];simp[O]
theorem c0V{ts:List aS}{A}(h:ts.find? A=none):(ts.filter fun t=> !A t)=ts:=by
 rw[gJ]at h;exact gI.2 fun y G=>by simp[h y G]
theorem c2l{zs:List aS}{n i sp}(_:zs.length=n)(h:i≤zs.length):(zs.flatMap recC++sp).take (0+i*2)=(zs.take i).flatMap recC:=by
 have h1:zs.flatMap recC=(zs.take i).flatMap recC++(zs.drop i).flatMap recC:=by rw[←dB,fQ]
 have h2:((zs.take i).flatMap recC).length=0+i*2:=by rw[DN GX,bK,fJ h];omega
 rw[h1,eP,←h2,List.take_left]
theorem b6Y{A}:∀{l:List aS} {k:Nat},ZP A l=(k:Int)→∀y∈l.take k,A y=false:=fun {l k} h=>by
 unfold ZP at h;cases hf:l.findIdx? A with
 |none=>rw[hf]at h;simp only at h;omega
 |some j=>
  rw[hf]at h;have O:j=k:=by simp only at h;omega
  subst O;obtain⟨h1,h2,h3⟩:=List.findIdx?_eq_some_iff_getElem.1 hf;intro y Z;obtain⟨i,hi,rfl⟩:=List.mem_iff_getElem.1 Z;have G:i<j:=by rw[bK]at hi;omega
  have:=h3 i G;rw[List.getElem_take];simpa using this
theorem b1G{base} b c sp (ts:List aS)(hg:CU base 2 ts.length (ts.flatMap recC) (some (b,c,sp)))(A:aS→Bool) g a1 (hl:ts.length≤100000000000000) I (a2:∀J,Le I J→∀x∈ts,Pure aC g (BI x::a1) J (.bool (A x))):yT aC 196 [.slice (some ⟨b,0,none⟩) ts.length c,.func (.func g) #[] a1.toArray] I [(b,yY 38 (ts.flatMap recC++sp))]
 (fun e _ H'=>∃g':Gs,CU 0 2 (ts.filter fun t=> !A t).length ((ts.filter fun t=> !A t).flatMap recC) g'∧e= .returned (gV (ts.filter fun t=> !A t).length g')∧H'=gH 38 ((ts.filter fun t=> !A t).flatMap recC) g'):=by
 have hc:ts.length≤c:=by
  obtain⟨_,h2,h3⟩:=hg;rw[DN GX]at h3;omega
 obtain⟨-,_,_⟩:=id hg;refine yT.ob func196 ?_;intro w0 _;refine Cj.sr (aA yQ ?_);refine J.yV (aA yP ?_);refine aA yP ?_;refine J.pull Pull.z ?_;refine aG rfl (yS (H1:=[_]) rfl rfl rfl rfl rfl (a8B b c sp ts hc A g a1 hl _ a2) ?_ (fun _ _ _ _ h=>by cases h.1) (fun _ _ h=>by cases h.1));intro _ _ _ ae aj;have a2:=fun J9 h9=>a2 J9 (bV ae h9);obtain⟨h,rfl⟩:=aj;cases h;refine aA yQ ?_;refine J.AO (aF (aA yP ?_));refine aA BO ?_;refine J.cd (fun Z=>?_) (fun Z=>?_)
 ·have af:=CS Z;have a9:ts.find? A=none:=by
   rcases SI A ts with h|⟨k,x,h1,-,-⟩
   ·exact h.2
   have h9:=CS Z;rw[h1]at h9;omega
  refine Cj.sr (aA yP ?_);refine aA yQ ?_;refine J.ns (Cj.rs (zN ?_));rw[c0V a9];exact⟨some (b,c,sp),a6A hg,rfl,rfl⟩
 have af:=CX Z;obtain⟨k,x0,ac,a3,aa⟩:=(SI A ts).resolve_left (fun h=>by have h9:=CX Z;exact h9 h.1);have ag:=b6Y ac;have ak:A x0=true:=by have:=iG aa;exact this
 have ap:=(aU.1 a3).1;rw[ac];refine Cj.ks (aZ (Cj.sr (aA yP ?_)));refine aA (yZ rfl rfl rfl (AA oM)) ?_;refine aA yQ ?_;refine J.ns (aV (fB (ι:=DL) (fun y=>y.i<y.j∧y.j≤ts.length∧y.zs.length=ts.length∧y.zs.take y.i=(ts.take y.j).filter (fun t=> !A t)∧y.zs.drop y.j=ts.drop y.j) (fun y=>ts.length-y.j) (fun y=>[(0,.slice (some ⟨b,0,none⟩) ts.length c),(1,.func (.func g) #[] a1.toArray),(5,i64 (y.i:Int)),(6,i64 (y.j:Int))]) (fun y=>_) (fun y=>[(b,yY 38 (y.zs.flatMap recC++sp))]) ⟨k,k+1,ts⟩ ⟨Nat.lt_succ_self k,dO,rfl,by dsimp only;exact(b9S a3 ak ag).symm,rfl⟩ rT rfl rfl ?_));rintro⟨i,j,zs⟩ ⟨ad,hj,G,a4,a0⟩;dsimp only at ad hj G a4 a0 ⊢;refine aZ (Cj.sr (aA yP ?_));refine aA yP ?_;refine aA (AU OU) ?_;refine aA BM ?_;refine J.cd (fun a5=>?_) (fun a5=>?_)
 ·have ah:=BH a5;have al:j<ts.length:=oM;obtain⟨x,O⟩:∃x,ts[j]?=some x:=⟨_,DX al⟩;have ab:zs[j]?=some x:=by rw[←O,←Nat.add_zero j,←gK,←gK,a0]
  refine Cj.ks (aZ (aV (Cj.sr (aA yP ?_))));refine aA yP ?_;refine aA (BG (off':=0+j*2) OU AY) ?_;refine aA (FH EI AY (yR.at 0 rfl) (EJ GX (o:=0) rfl ab)) ?_;refine aG rfl (BP QZ ?_);intro _ _;refine aG rfl (zS 0 AY (bC (bC bZ)) gQ ?_);refine J.yV (aA yP ?_);refine aA (zX EI AY (yR.at 0 rfl)) ?_;refine aG rfl (yU rfl rfl rfl rfl rfl (a2 _ (aN _) x (FB O)) ?_);refine aA (ER rfl rfl) ?_;refine J.cd (fun a6=>?_) (fun a6=>?_)
  ·have a7:A x=false:=by have h:=a6;simpa using h
   refine Cj.sr (aA yP ?_);refine aA yP ?_;refine aA (zX EI AY (yR.at 0 rfl)) ?_;refine aA (BZ (off':=i*2) rfl rfl rfl OU AY oM oM oM) ?_;refine aG rfl (EM 1 rfl rfl rfl rfl rfl rfl AY rfl rfl (b5n (x:=x) GX oM) (AV.s gQ) ?_);refine J.GL (aA yP ?_);refine aA (yZ rfl rfl rfl (AA oM)) ?_;refine aA yQ ?_;refine J.nb (aF (aA yP ?_));refine aA (yZ rfl rfl rfl (AA oM)) ?_;refine aA yQ ?_;refine gB (dR (fC (iD Keeps.n)) ?_);refine bU ⟨i+1,j+1,zs.set i x⟩ ⟨dO,dO,by dsimp only;rw[iH];exact G,by dsimp only;exact c1Q ad a4 a0 O a7 G,by dsimp only;rw[List.drop_set_of_lt oM,←dW,a0,dW]⟩ dO rT rfl rfl
  have a7:A x=true:=by have h:=a6;simpa using h
  refine Cj.kb (aF (aA yP ?_));refine aA (yZ rfl rfl rfl (AA oM)) ?_;refine aA yQ ?_;refine gB (dR (fC (iD Keeps.n)) ?_);refine bU ⟨i,j+1,zs⟩ ⟨dO,dO,G,by dsimp only;exact c2x a4 O a7,by dsimp only;rw[←dW,a0,dW]⟩ dO rT rfl rfl
 have ah:=BN a5;refine Cj.xl (Cj.sr (aA yP ?_));refine aA yP ?_;refine aA (b0c (j:=i) rfl rfl rfl OU AY rfl oM oM) ?_;refine eY 38 rfl (show _= .slice (some ⟨b,0+i*2,none⟩) (ts.length-i) (c-i) from(by unfold a3Z;rw[zF oM,Option.map_some,Addr.add_lit])) ?_;refine aG rfl (c2h (sz:=2) 0 rfl rfl rfl oM OU QZ rfl dE rfl rfl (by rw[aT,DN GX,G];omega) ?_);rintro am _ ai ⟨-,hset⟩;simp only[gU,gW]at hset;subst hset;refine J.nss ?_;have an:=ai;refine aF (aA yP ?_);refine aA yP ?_;refine aA (LG (k:=i) rfl rfl rfl OU AY rfl oM) ?_;refine aA yQ ?_;refine J.ns (aJ (zN ?_));have ao:(ts.filter fun t=> !A t)=zs.take i:=by rw[a4,aK (oM:ts.length≤j)]
 have a8:(zs.take i).length=i:=by rw[bK];omega
 rw[ao,a8];refine⟨some (b,c,am++(zs.flatMap recC++sp).drop (0+i*2+(ts.length-i)*2)),⟨cO _,by rw[DN GX,a8],?_⟩,rfl,?_⟩
 ·rw[DN GX,a8,aT,an,fD,aT,DN GX,G];omega
 show[_]=[_];rw[c2l G (oM:i≤zs.length),eP]
abbrev a3P (l:List aS) (v:Value) (H:HL):Prop:=SX 38 recC l v H
theorem b1d{base n l g}(hn:n=l.length)(hg:CU base 2 n (l.flatMap recC) g):a3P l (gV n g) (gH 38 (l.flatMap recC) g):=SX.c3a GX dE hn hg
theorem a5o:a3P [] (.slice none 0 0) []:= .inl rT
theorem c6c{L n s}(h:(aO s).length≠1):iO L n s=[]:=zF h
theorem c0T{L n s w}(h:aO s=[w]):iO L n s=bI L n [w]:=by
 unfold iO;rw[h];rfl
theorem c6x{l:Ke.Row}{w:List UInt8}(h:l.length=1)(A:l[0]?=some w):l=[w]:=by
 match l,h with
 |[a],_=>simp at A;rw[A]
theorem b7a{L}(hs:dU L) n x w:(bI L n [x]).filter (fun t=> !lacks L n (x::w) t)=bI L n (x::w):=
 Ix.b8i n x w _ hs fun t vs hg=>by unfold lacks;rw[hg,Bool.not_not];rfl
theorem a9A{L:Ix.Ix}{t:aS}:dY L t=match ((dJ L t).getD []).find? fun v=>decide (v.name=dX)with
 |none=>[]
 |some v=>v.key:=by
 unfold dY;cases dJ L t with
 |none=>rfl
 |some vs=>rfl
theorem a1u{α β}(f:α→β) p (l:List α):(l.map f).find? p=(l.find? fun x=>p (f x)).map f:=by
 induction l with
 |nil=>rfl
 |cons a r h=>
  rw[List.map_cons,iI,iI];cases p (f a)with
  |true=>rfl
  |false=>exact h
theorem a9w{I A L}(h:UW I A L) t:MO ((dJ L t).getD []):=by
 obtain⟨o,h1,_⟩:=h;cases o with
 |none=>rw[show L=[] from h1];exact⟨cO _,fun _ h=>by cases h⟩
 |some s=>exact b2c (JE.LD h1) (JE.vok h1) t
theorem a6G n s (hs:s.length≤100000000) I:Pure aC 195 [str n,str s] I (str (aH n s)):=by
 refine aP ?_;have Z:=b1o s;refine yT.ob func195 ?_;intro w0 _;refine Cj.sr (aA yQ ?_);refine J.AO (aF (aA yP ?_));refine aG rfl (yU rfl rfl rfl rfl rfl (a8N s hs _) ?_);refine aA yP ?_;refine aA AQ ?_;refine aA AQ ?_;refine aA yQ ?_;refine aA yQ ?_;refine J.yV (aA yP ?_);refine aA yP ?_;refine J.split 13 rfl (fun h=>?_) (fun h=>?_)
 rotate_left
 ·have G:aH n s=iJ s 0:=zF (fun g=>bW (g.1.symm.trans h));refine zO 1 13 14 true h ?_;refine zO 1 13 15 true h ?_;refine aA (DV h) ?_;refine J.c0 (fun _=>?_);refine Cj.ks (Cj.sr (aA yP ?_));refine aG rfl (yU rfl rfl rfl rfl rfl (XR s 0 hs _) ?_);refine aA yQ ?_;refine J.ns (aJ (zN ?_));rw[G];exact rT
 refine zU 1 13 true h (zK yP ?_);refine zU 1 13 true h (zK (ED rfl rfl rfl) ?_);refine aA (DY h) ?_;refine J.cd (fun A=>?_) (fun A=>?_)
 ·have O:=CS A;have G:aH n s=iJ (Ke.a0g s).1 0:=zG ⟨h,CS A⟩;refine aF (aA yP ?_);refine aA yQ ?_;refine J.yV (aA yP ?_);refine aG rfl (yU rfl rfl rfl rfl rfl (XR (Ke.a0g s).1 0 oM _) ?_);refine aA yQ ?_;refine J.ns (aJ (zN ?_));rw[G];exact rT
 have O:=CX A;have G:aH n s=iJ s 0:=zF (fun g=>CX A g.2);refine Cj.ks (Cj.sr (aA yP ?_));refine aG rfl (yU rfl rfl rfl rfl rfl (XR s 0 hs _) ?_);refine aA yQ ?_;refine J.ns (aJ (zN ?_));rw[G];exact rT
theorem c4q ib L n s (hs:s.length≤100000000) I (hx:UW I ib L):yT aC 201 [ptr ib 0,str n,str s] I [] (fun e _ H'=>∃v,e= .returned v∧a3P (iO L n s) v H'):=by
 have a0:=hx.LD;have a5:=hx.big;obtain⟨_,wm,_,O,_,hW,_⟩:=hx.parts;have ai:=(Ke.TY s).1;refine yT.ob func201 ?_;intro w0 _;refine Cj.sr (aA yQ ?_);refine J.yV (aA yP ?_);refine aG rfl (yS (H1:=[]) rfl rfl rfl rfl rfl (WV s oM _) ?_ (fun _ _ _ _ ⟨_,h,_⟩=>by cases h) (fun _ _ ⟨_,h,_⟩=>by cases h));intro _ _ _ a1 ab;have O:=a1 _ _ O;have hW:=hW.mono a1;obtain⟨_,h,hw,rfl⟩:=ab;cases h;obtain⟨wp,_,rfl⟩:=OY hw;refine aA yQ ?_;refine J.AO (aF (aA yP ?_));refine aA (RD VU) ?_;refine aA yP ?_;refine CZ 2 12 false (zK yP ?_);refine CZ 2 12 false (zK (AU AP) ?_);refine CZ 2 12 false (zK EY ?_);refine aA IL ?_;refine J.cd (fun Z=>?_) (fun Z=>?_)
 ·have a6:=bne_iff_ne.1 Z;have a7:(aO s).length≠1:=by have h:=bne_iff_ne.1 Z;omega
  refine Cj.sr (aA yQ ?_);refine J.ns (Cj.rs ?_);rw[c6c a7];refine bP ?_;refine zN ?_;exact⟨_,rfl,a5o⟩
 have a6:=EC Z;have ac:(aO s).length=1:=by have h:=EC Z;omega
 obtain⟨w1,a2⟩:∃w,(aO s)[0]?=some w:=⟨_,DX oM⟩;have ad:=c6x ac a2;obtain⟨wb,_,_,ae,af⟩:=hw.some (AX (oM:0<(aO s).length));cases ae;refine Cj.ks (aZ (bT [] [] 11 kR ?_));have a3:=O;have a4:=af;refine bH BQ (fun A=>?_);refine aB 0 rfl A yP ?_;refine aB 1 rfl A zW ?_;refine aB 2 rfl A (qq2 (off':=1) DW DC) ?_;refine aB 3 rfl A (yX isAgg134 (aI a3)) ?_;refine aB 4 rfl A yP ?_;refine aB 5 rfl A yP ?_;refine aB 6 rfl A (BZ (off':=0) rfl rfl rfl AP zL dE oM sI) ?_;refine aB 7 rfl A (EN BX (aI a4) (JO a2)) ?_;refine aB 8 rfl A (zV (pl:= #[(0,1),(1,1)]) rfl rfl a5v rfl a0W (fun w=>by simp[zL]) (dH rfl rfl rfl (bC bZ) (dH rfl rfl rfl (iT (bC bZ)) fK))) ?_;refine zT 9 rfl (yS (H1:=[]) rfl rfl rfl rfl rfl (a4J wm _ L (n,w1) _ hW a0 a5 (b2Q a0 _)) ?_ (fun _ _ _ _ ⟨_,_,_,_,_,h,_⟩=>by cases h) (fun _ _ ⟨_,_,_,_,_,h,_⟩=>by cases h));intro _ _ _ G a8;have O:=G _ _ O;have hW:=hW.mono G;have hw:=hw.mono G;obtain⟨ts,g,ag,a9,hg,h,rfl⟩:=a8;cases h;refine⟨⟨(bV (aN _) G),aW,aX⟩,?_⟩;refine bH ⟨aW,aX,(bV (aN _) G)⟩ (fun aa=>?_);refine aB 10 rfl aa yQ ?_;refine AL ?_;refine dS (aJ ?_);have ah:=iP a0 ag a9;rw[c0T ad];subst ah;refine dR (H':=gH _ _ g) (fE _ _) ?_;refine zN ?_;exact⟨_,rfl,b1d rfl hg⟩
theorem c6v ib L n s (hs:s.length≤100000000) I (hx:UW I ib L):yT aC 129 [ptr ib 0,str n,str s] I [] (fun e _ H'=>∃v,e= .returned v∧a3P (dM L n (aH n s)) v H'):=by
 have O:=hx.LD;have a1:=hx.big;obtain⟨_,_,km,Z,_,_,hK⟩:=hx.parts;refine yT.ob func129 ?_;intro w0 _;refine Cj.sr (aA yQ ?_);refine J.AO (aF (aA yP ?_));refine aA (RD VU) ?_;refine J.c0 (fun _=>?_);refine Cj.ks (aZ (bT [] [] 11 kR ?_));have a0:=Z;refine bH BQ (fun A=>?_);refine aB 0 rfl A yP ?_;refine aB 1 rfl A zW ?_;refine aB 2 rfl A (qq2 (off':=2) DW DC) ?_;refine aB 3 rfl A (yX isAgg134 (aI a0)) ?_;refine aB 4 rfl A yP ?_;refine aB 5 rfl A yP ?_;refine aB 6 rfl A yP ?_;refine zT 7 rfl (yU rfl rfl rfl rfl rfl (a6G n s hs _) ?_);refine⟨EU,?_⟩;refine bH BQ (fun a3=>?_);refine aB 8 rfl a3 (zV (pl:= #[(0,1),(1,1)]) rfl rfl a5v rfl a0W (fun w=>by simp[zL]) (dH rfl rfl rfl (bC bZ) (dH rfl rfl rfl (iT (bC bZ)) fK))) ?_;refine zT 9 rfl (yS (H1:=[]) rfl rfl rfl rfl rfl (a4J km _ L (n,aH n s) _ hK O a1 (b2Q O _)) ?_ (fun _ _ _ _ ⟨_,_,_,_,_,h,_⟩=>by cases h) (fun _ _ ⟨_,_,_,_,_,h,_⟩=>by cases h));intro _ _ _ G a4;have Z:=G _ _ Z;have hK:=hK.mono G;obtain⟨ts,g,a5,a2,hg,h,rfl⟩:=a4;cases h;refine⟨⟨(bV (aN _) G),aW,aX⟩,?_⟩;refine bH ⟨aW,aX,(bV (aN _) G)⟩ (fun a6=>?_);refine aB 10 rfl a6 yQ ?_;refine AL ?_;refine dS (aJ ?_);have a7:=Ix.b5Q O a5 a2;subst a7;refine dR (H':=gH _ _ g) (fE _ _) ?_;refine zN ?_;exact⟨_,rfl,b1d rfl hg⟩
theorem b1D(A:aS→Bool) g (h:List Value) I:yT aC 196 [.slice none 0 0,.func (.func g) #[] h.toArray] I [] (fun e _ H'=>e= .returned (.slice none 0 0)∧H'=[]):=by
 refine yT.ob func196 ?_;intro w0 _;refine Cj.sr (aA yQ ?_);refine J.yV (aA yP ?_);refine aA yP ?_;refine aG rfl (yU rfl rfl rfl rfl rfl (a3V [] _ A g h dE _ zY.nil (fun x G=>by cases G)) ?_);refine eY 10 rfl (show _=i64 (-1) from rfl) ?_;refine aA yQ ?_;refine J.AO (aF (aA yP ?_));refine aA BO ?_;refine J.c1 (fun _=>?_);refine Cj.sr (aA yP ?_);refine aA yQ ?_;refine J.ns (Cj.rs (zN ?_));exact rT
theorem b6o h nb A G vm wm km L n w O t I (hs:dU L)(Z:MO ((dJ L t).getD []))(a0:w.length≤1000000000)(hw:JX 9 I w O)(a1:I h=some (yY 73 [ptr G 0]))(a2:I nb=some (yY 9 [str n]))(a3:I A=some (yY 144 [O]))(a4:I G=some (yY 136 [.map vm,.map wm,.map km]))(hV:b3u I vm L):Pure aC 197 [BI t,ptr h 0,ptr nb 0,ptr A 0] I (.bool (lacks L n w t)):=by
 rcases hV with⟨rfl,hL⟩|⟨b,l,c,rfl,a5,a6,hb⟩
 ·exact b2A h nb A G wm km L n w O t I hs Z a0 hw a1 a2 a3 a4 hL
 exact b2K h nb A G b l c wm km L n w O t I hs Z a0 hw a1 a2 a3 a4 hb a5 a6
theorem b6j{base}(ts:List aS) g (hg:CU base 2 ts.length (ts.flatMap recC) g)(h:aS→Bool) f A (Z:ts.length≤100000000000000) I (O:∀J,Le I J→∀x∈ts,Pure aC f (BI x::A) J (.bool (h x))):yT aC 196 [gV ts.length g,.func (.func f) #[] A.toArray] I (gH 38 (ts.flatMap recC) g)
 (fun e _ H'=>∃G:Gs,CU 0 2 (ts.filter fun t=> !h t).length ((ts.filter fun t=> !h t).flatMap recC) G∧e= .returned (gV (ts.filter fun t=> !h t).length G)∧H'=gH 38 ((ts.filter fun t=> !h t).flatMap recC) G):=by
 cases g with
 |none=>
  have h0:ts=[]:=dK.1 hg.1;subst h0;exact(b1D h f A I).mono fun e _ H' _ ⟨h1,h2⟩=>⟨none,⟨rfl,rfl⟩,h1,h2⟩
 |some q=>
  obtain⟨b,c,sp⟩:=q;exact b1G b c sp ts hg h f A Z I O
theorem c5W{L}(hs:dU L)(h:L.length≤100000) n w:(bI L n w).length≤100000000000000:=by
 unfold bI
 split
 ·simp
 rw[aY];have:=fU (fun e:aS×List Ix.V=>iM n w e.2) L;omega
theorem b6C ib L n s (hs:s.length≤100000000) I (hx:UW I ib L):yT aC 131 [ptr ib 0,str n,str s] I [] (fun e _ H'=>∃g,CU 0 2 (bI L n (aO s)).length ((bI L n (aO s)).flatMap recC) g∧e= .returned (gV (bI L n (aO s)).length g)∧H'=gH 38 ((bI L n (aO s)).flatMap recC) g):=by
 have a5:=hx.LD;have ab:=hx.big;obtain⟨vm,wm,km,O,hV,hW,_⟩:=hx.parts;have al:=fun t=>a9w hx t;have b0:=(Ke.TY s).1;refine yT.ob func131 ?_;intro w0 _;refine Cj.sr (aG rfl (BL ?_));intro b1 au;refine aG rfl (BL ?_);intro b2 av;refine aA yQ ?_;refine J.nss (Cj.pull (Pull.s Pull.z) ?_);refine iK au (fun _ a9 G=>?_);have O:=a9 _ _ O;have hW:=hW.mono a9;have hV:=hV.mono a9;refine iK av (fun _ a7 Z=>?_);have O:=a7 _ _ O;have hW:=hW.mono a7;have hV:=hV.mono a7;have G:=a7 _ _ G;refine aF (aA yP ?_);refine aG rfl (yS (H1:=[]) rfl rfl rfl rfl rfl (WV s oM _) ?_ (fun _ _ _ _ ⟨_,h,_⟩=>by cases h) (fun _ _ ⟨_,h,_⟩=>by cases h));intro _ _ H9 a4 am;have O:=a4 _ _ O;have hW:=hW.mono a4;have hV:=hV.mono a4;have G:=a4 _ _ G;have Z:=a4 _ _ Z;obtain⟨_,h,hw,rfl⟩:=am;cases h;obtain⟨wp,_,rfl⟩:=OY hw;refine aG rfl (BP b6f ?_);intro ah an;refine aG rfl (zS 0 LK (bC bZ) gQ ?_);refine J.AO (iK an (fun _ a3 a2=>?_));have O:=a3 _ _ O;have hW:=hW.mono a3;have hV:=hV.mono a3;have G:=a3 _ _ G;have Z:=a3 _ _ Z;have hw:=hw.mono a3;refine aF (aA (yX KQ (bM G)) ?_);refine aA (RD VU) ?_;refine aA yP ?_;refine CZ 2 12 false (zK (yX RX (bM a2)) ?_);refine CZ 2 12 false (zK (AU AP) ?_);refine CZ 2 12 false (zK BO ?_);refine aA IL ?_;refine J.cd (fun a6=>?_) (fun a6=>?_)
 ·have ae:=CS a6;refine Cj.sr (aA yQ ?_);refine J.ns (Cj.rs ?_);rw[show bI L n (aO s)=[] from zG (dK.1 (by have h:=CS a6;omega))];refine bP ?_;refine zN ?_;exact⟨none,⟨rfl,rfl⟩,rfl,rfl⟩
 have ae:=CX a6;have ai:(aO s).length≠0:=by have h:=CX a6;omega
 obtain⟨x,w,aj⟩:∃x w,aO s=x::w:=by
  cases hc:aO s with
  |nil=>rw[hc]at ai;exact absurd rfl ai
  |cons a r=>exact⟨a,r,rfl⟩
 have ao:(aO s)[0]?=some x:=by rw[aj];rfl
 obtain⟨wb,_,_,aw,a8⟩:=hw.some (AX (oM:0<(aO s).length));cases aw;refine Cj.ks (aZ (bT [] [] 13 kR ?_));have af:=O;have ac:=G;have ad:=Z;have aa:=a2;have ag:=a8;refine bH BQ (fun a0=>?_);refine aB 0 rfl a0 (yX KQ (aI ac)) ?_;refine aB 1 rfl a0 zW ?_;refine aB 2 rfl a0 (qq2 (off':=1) DW DC) ?_;refine aB 3 rfl a0 (yX isAgg134 (aI af)) ?_;refine aB 4 rfl a0 (yX BX (aI ad)) ?_;refine aB 5 rfl a0 (yX RX (aI aa)) ?_;refine aB 6 rfl a0 (BZ (off':=0) rfl rfl rfl AP zL dE oM sI) ?_;refine aB 7 rfl a0 (EN BX (aI ag) (JO ao)) ?_;refine aB 8 rfl a0 (zV (pl:= #[(0,1),(1,1)]) rfl rfl a5v rfl a0W (fun w=>by simp[zL]) (dH rfl rfl rfl (bC bZ) (dH rfl rfl rfl (iT (bC bZ)) fK))) ?_;refine aB 10 rfl a0 (EH rfl rfl rfl) ?_;refine zT 9 rfl (yS (H1:=[]) rfl rfl rfl rfl rfl (a4J wm _ L (n,x) _ hW a5 ab (b2Q a5 _)) ?_ (fun _ _ _ _ ⟨_,_,_,_,_,h,_⟩=>by cases h) (fun _ _ ⟨_,_,_,_,_,h,_⟩=>by cases h));intro _ _ _ A ap;have O:=A _ _ O;have hW:=hW.mono A;have hV:=hV.mono A;have G:=A _ _ G;have Z:=A _ _ Z;have hw:=hw.mono A;have a2:=A _ _ a2;have a8:=A _ _ a8;obtain⟨ts,g,ax,aq,hg,h,rfl⟩:=ap;cases h;have ak:=iP a5 ax aq;have ay:=hg;refine⟨⟨(bV (aN _) A),aW,aX⟩,?_⟩;refine zT 11 rfl (FV (H1:=gH 38 (ts.flatMap recC) g) [] (aQ _) rfl rfl rfl rfl rfl (b6j ts g ay (lacks L n (aO s)) _ [ptr b1 0,ptr b2 0,ptr ah 0] (by rw[ak];exact c5W a5 ab _ _) _ (fun J9 h9 t _=>b6o b1 b2 ah ib vm wm km L n (aO s) _ t J9 a5 (al t) oM (hw.mono h9) (h9 _ _ G) (h9 _ _ Z) (h9 _ _ a2) (h9 _ _ O) (hV.mono h9))) ?_ (fun _ _ _ _ h=>by obtain⟨_,_,h,_⟩:=h;cases h) (fun _ _ h=>by obtain⟨_,_,h,_⟩:=h;cases h));rintro _ _ H9 a1 ⟨g9,az,h,rfl⟩;cases h;have O:=a1 _ _ O;have hW:=hW.mono a1;have hV:=hV.mono a1;have G:=a1 _ _ G;have Z:=a1 _ _ Z;have hw:=hw.mono a1;have a2:=a1 _ _ a2;have a8:=a1 _ _ a8;refine⟨⟨(bV (bV (aN _) A) a1),aW,aX⟩,?_⟩;refine bH ⟨aW,aX,(bV (bV (aN _) A) a1)⟩ (fun ar=>?_);refine aB 12 rfl ar yQ ?_;refine AL ?_;refine dS (aJ ?_);rw[ak,aj,b7a a5 n x w]at *;refine zN ?_;exact⟨g9,az,rfl,rfl⟩
theorem c0j h L n s (hs:s.length≤100000000) I (A:UW I h L):yT aC 131 [ptr h 0,str n,str s] I [] (fun e _ H'=>∃v,e= .returned v∧a3P (bI L n (aO s)) v H'):=
 (b6C h L n s hs I A).mono fun _ _ _ _ ⟨_,h1,h2,h3⟩=>⟨_,h2,by rw[h3];exact b1d rfl h1⟩
theorem c5T{I L t xs}(A:TR I xs ((dJ L t).getD []))(h:xs.find? (fun x=>decide (x.1.name=dX))=none):dY L t=[]:=by
 rw[a9A,←A.1,a1u,h];rfl
theorem c4m{I L t xs x}(A:TR I xs ((dJ L t).getD []))(h:xs.find? (fun x=>decide (x.1.name=dX))=some x):dY L t=x.1.key:=by
 rw[a9A,←A.1,a1u,h];rfl
abbrev isT (x:VW):Bool:=decide (x.1.name=dX)
abbrev KP (x:List UInt8×Nat):List UInt8×Int:=(x.1,(x.2:Int))
abbrev b6i (l:List (List UInt8×Nat)) (v:Value) (H:HL):Prop:=SX 80 CW (l.map KP) v H
def a0l (n b:List UInt8) (p:iL):Bool:=decide (p.1=n) && !decide (p.2<b)
def WI (L:Ix.Ix) (n b:List UInt8) (vis:ML iL):List (List UInt8×Nat):=(vis.filter fun x=>a0l n b x.1).map fun x=>(x.1.2,(dM L n x.1.2).length)
theorem SL L n b vis x:WI L n b (vis++[x])=WI L n b vis++if a0l n b x.1=true then[(x.1.2,(dM L n x.1.2).length)]else[]:=by
 unfold WI;rw[dG,fM]
 by_cases h:a0l n b x.1=true
 ·rw[zG h];simp[h]
 rw[zF h];simp[h]
theorem c4x L n b vis:(WI L n b vis).length≤vis.length:=by
 unfold WI;rw[aY];exact fU _ _
structure TB where
  vis:ML Ix.Pl
  rest:ML Ix.Pl
  g:Gs
theorem c4M{I:Heap}{b l c N f}(h:DZ l c N f)(Z:∀q∈setH b l c N,I q.1=some q.2){x}(hx:x∈l):∃A m k,x.2.1= .map (some A)∧I A=some (BD BI m k)∧MS m k∧m≠[]∧∀t,BK m t=cv (f x.1 t):=by
 have h1:kvp x∈N.map nvp:=by rw[←h.vals];exact dA hx
 obtain⟨⟨a,A,m,k⟩,G,O⟩:=bF.1 h1;have e1:a=x.1:=zD (·.1) O;have e2:Value.map (some A)=x.2.1:=zD (·.2) O;subst e1;obtain⟨g1,g2,g3⟩:=h.inn _ G;exact⟨A,m,k,e2.symm,Z (A,_) (.tail _ (bF.2 ⟨_,G,rfl⟩)),g1,g2,g3⟩
theorem b5z{l:ML iL}{c:Nat}{N:UO iL aS}{f:iL→aS→Nat}(h:DZ l c N f)(p:iL):p∈l.map (·.1)↔∃t,f p t≠0:=by
 rw[h.keys];constructor
 ·intro A;obtain⟨e,G,rfl⟩:=bF.1 A;obtain⟨_,O,Z⟩:=h.inn e G;obtain⟨⟨t,v,n⟩,r,hr⟩:=List.exists_cons_of_ne_nil O;refine⟨t,fun hz=>?_⟩;have h2:=Z t;rw[hz]at h2;have h3:BK e.2.2.1 t=none:=h2;exact JH.1 h3 (by rw[hr];exact .head _)
 rintro⟨t,ht⟩;exact fA fun g=>ht (h.out p g t)
theorem keys_le{L l c N}(h:DZ l c N (gX fF L))(hs:dU L)(Z:L.length≤100000)(hv:∀e∈L,MO e.2):l.length≤1000000000000:=by
 have h1:(l.map (·.1)).length≤(L.flatMap fun e=>fF e.2).length:=by
  refine a0h h.ms.1 fun p hp=>?_;obtain⟨e,A,G⟩:=(Ix.a2Q hs).1 ((b5z h p).1 hp);exact List.mem_flatMap.2 ⟨e,A,G⟩
 have h2:∀M:Ix.Ix,(∀e∈M,MO e.2)→(M.flatMap fun e=>fF e.2).length≤M.length*10000000:=by
  intro M
  induction M with
  |nil=>intro _;simp
  |cons a r ih=>
   intro O;have:=ih fun e A=>O e (.tail _ A);have h3:=(O a (.head _)).k;rw[List.flatMap_cons,aT,dN,Nat.add_mul];omega
 rw[aY]at h1;exact IU (IU h1 (h2 L hv)) (Nat.mul_le_mul_right 10000000 Z)
theorem c3t{a b:List UInt8}(h:¬b<a)(A:a≠b):a<b:=dZ (Std.not_lt.1 h) A
theorem c2Q{L l c N}(h:DZ l c N (gX fF L))(hs:dU L){n b vis}(hp:vis.Perm l){ls}(a1:ls.Perm ((WI L n b vis).map KP))(ho:ls.Pairwise fun p q=>¬q.1<p.1):ls=((Ix.IZ L n b).map fun k=>(k,(dM L n k).length)).map KP:=by
 have G:∀x∈vis.filter (fun x=>a0l n b x.1),x.1.1=n∧¬x.1.2<b:=fun x A=>by
  have:=(fO.1 A).2;unfold a0l at this;rw[Bool.and_eq_true,zH,Bool.not_eq_true',decide_eq_false_iff_not]at this;exact this
 have a4:((WI L n b vis).map (·.1)).Nodup:=by
  unfold WI;rw[dI];have h1:((vis.filter fun x=>a0l n b x.1).map (·.1)).Nodup:=((hp.map _).nodup_iff.2 h.ms.1).sublist (List.filter_sublist.map _);rw[eG,eU]at h1 ⊢;refine(dP.2 fun {x y} O=>?_);have A:=G x (O.subset (.head _));have Z:=G y (O.subset (.tail _ (.head _)));have a5:=dP.1 h1 O;exact fun e=>a5 (iU (A.1.trans Z.1.symm) e)
 have a0:∀x∈ls,x.2=((dM L n x.1).length:Int):=fun x A=>by
  obtain⟨y,Z,rfl⟩:=bF.1 (a1.mem_iff.1 A);obtain⟨z,_,rfl⟩:=bF.1 Z;rfl
 have hk:(ls.map (·.1)).Perm ((WI L n b vis).map (·.1)):=by
  have:=a1.map (·.1)
  rwa [dI]at this
 have a2:Ke.Inc (ls.map (·.1)):=by
  unfold Ke.Inc;have h1:=hk.nodup_iff.2 a4;rw[eG,eU]at h1;rw[eU];exact(List.pairwise_and_iff.2 ⟨ho,h1⟩).imp fun {x y} ⟨h2,h3⟩=>c3t h2 h3
 have a3:=Ix.WW hs (n:=n) (b:=b) (ls:=ls.map fun x=>(x.1,x.2.toNat)) (by rw[dI];exact a2) (fun k=>?_) (fun x A=>?_)
 ·rw[←a3,dI]
  conv=>lhs;rw[←List.map_id ls]
  refine List.map_congr_left fun x A=>?_;have:=a0 x A;show x=(x.1,((x.2.toNat:Nat):Int));refine iU rfl ?_;show x.2=_;omega
 ·rw[dI];show k∈ls.map (·.1)↔_;rw[hk.mem_iff,←b5z h];unfold WI;rw[dI];constructor
  ·intro hm;obtain⟨x,A,rfl⟩:=bF.1 hm;obtain⟨h1,h2⟩:=G x A;refine⟨h2,?_⟩;show(n,x.1.2)∈_;rw[←h1,←(hp.map (·.1)).mem_iff];exact dA (fO.1 A).1
  rintro⟨h1,h2⟩;rw[←(hp.map (·.1)).mem_iff]at h2;obtain⟨x,A,he⟩:=bF.1 h2;refine bF.2 ⟨x,fO.2 ⟨A,?_⟩,?_⟩
  ·unfold a0l;rw[he,zI rfl,eF,zJ h1];rfl
  show x.1.2=k;rw[he]
 obtain⟨y,Z,rfl⟩:=bF.1 A;have:=a0 y Z;show y.2.toNat=_;rw[this];rfl
theorem b7I ib mb m k0 wm km L t I (a9:MO ((dJ L t).getD []))(a5:I ib=some (yY 136 [.map (some mb),.map wm,.map km]))(a6:I mb=some (BD BI m k0))(ah:MS m k0)(aa:YL I m L):Pure aC 44 [ptr ib 0,BI t] I (str (dY L t)):=by
 refine aP ?_;obtain⟨vv,a0,xs,a1,hX⟩:=aa.at t;have ai:=hX.len;have aj:=a9.1;refine yT.ob func44 ?_;intro w0 _;refine Cj.sr (aG rfl (BL ?_));intro _ _;refine aA yQ ?_;refine J.AO (aF (aA yP ?_));refine aA (RD VU) ?_;refine J.c0 (fun _=>?_);refine Cj.ks (aZ (bT [0] [] 8 kR ?_));have a3:=a5;have a4:=a6;refine bH ⟨(bY 0 rfl aW),aX,(aN _)⟩ (fun G=>?_);refine aB 0 rfl G yP ?_;refine aB 1 rfl G zW ?_;refine aB 2 rfl G (qq2 (off':=0) DW IB) ?_;refine aB 3 rfl G (yX RU (aI a3)) ?_;refine aB 4 rfl G (zX EI AY (iC 0 rfl)) ?_;refine aB 5 rfl G (CO (kv:=BI) (l:=m) (a:=t) rfl rfl rfl rfl SV GR a1a (aI a4)) ?_;refine iR 13 rfl (show _=vv from a0) ?_;refine zT 6 rfl (yU rfl rfl rfl rfl rfl (a0N xs _ isT _ [] oM _ a1.row hX.2 (fun x hx=>by obtain⟨p9,c9,h9⟩:=OY (hX.2 x hx);exact c1S x p9 _ c9 h9 _)) ?_);refine⟨⟨(aN _),(bY 0 rfl aW),aX⟩,?_⟩;refine bH ⟨(bY 0 rfl aW),aX,(aN _)⟩ (fun ab=>?_);refine aB 7 rfl ab yQ ?_;refine AL ?_;refine dS (aZ (Cj.sr (aA yP ?_)));refine aA BM ?_;refine J.cd (fun Z=>?_) (fun Z=>?_)
 ·have a7:=BH Z;have O:xs.find? isT=none:=((SI isT xs).resolve_right (fun⟨k,x,h,_⟩=>by have h9:=BH Z;rw[h]at h9;omega)).2;refine Cj.sr (aA yQ ?_);refine J.ns (Cj.rs (bP ?_));refine zN ?_;rw[c5T hX O];exact rT
 have a7:=BN Z;obtain⟨k,x,ac,a2,O⟩:=(SI isT xs).resolve_left (fun h=>by have h9:=BN Z;rw[h.1]at h9;exact h9 dE);have a8:=(aU.1 a2).1;obtain⟨_,ad,ae,_,af⟩:=id a1;rw[ae]at a0 ⊢;obtain⟨rb,_,rfl,ag⟩:=af (AX a8);rw[ac];refine Cj.ks (aZ (bT [0] [] 11 kR ?_));refine bH ⟨(bY 0 rfl aW),aX,(aN _)⟩ (fun A=>?_);refine aB 0 rfl A yP ?_;refine aB 1 rfl A zW ?_;refine aB 2 rfl A (qq2 (off':=0) DW IB) ?_;refine aB 3 rfl A (yX RU (aI a5)) ?_;refine aB 4 rfl A (zX EI AY (iC 0 rfl)) ?_;refine aB 5 rfl A (CO (kv:=BI) (l:=m) (a:=t) rfl rfl rfl rfl SV GR a1a (aI a6)) ?_;refine iR 22 rfl (show _= .slice (some ⟨rb,0,none⟩) xs.length ad from a0) ?_;refine aB 6 rfl A yP ?_;refine aB 7 rfl A (BG (off':=0+k*3) QH NP) ?_;refine aB 8 rfl A (qq2 (off':=0+k*3+1) YT zL) ?_;refine aB 9 rfl A (FY rfl rfl BX (aI ag) (GU a1k (o:=0) rfl a2 1 dE)) ?_;refine aB 10 rfl A yQ ?_;refine AL ?_;refine dS (aJ (bP ?_));refine zN ?_;rw[c4m hX O];exact rT
theorem b8Y O wm km t I (Z:I O=some (yY 136 [.map none,.map wm,.map km])):Pure aC 44 [ptr O 0,BI t] I (str []):=by
 refine aP ?_;refine yT.ob func44 ?_;intro w0 _;refine Cj.sr (aG rfl (BL ?_));intro _ _;refine aA yQ ?_;refine J.AO (aF (aA yP ?_));refine aA (RD VU) ?_;refine J.c0 (fun _=>?_);refine Cj.ks (aZ (bT [0] [] 8 kR ?_));have A:=Z;refine bH ⟨(bY 0 rfl aW),aX,(aN _)⟩ (fun h=>?_);refine aB 0 rfl h yP ?_;refine aB 1 rfl h zW ?_;refine aB 2 rfl h (qq2 (off':=0) DW IB) ?_;refine aB 3 rfl h (yX RU (aI A)) ?_;refine aB 4 rfl h (zX EI AY (iC 0 rfl)) ?_;refine aB 5 rfl h (MQ (kv:=BI) (a:=t) rfl rfl rfl rfl SV GR a1a) ?_;refine zT 6 rfl (yU rfl rfl rfl rfl rfl (a0N [] _ isT _ [] dE _ zY.nil (fun x G=>by cases G) (fun x G=>by cases G)) ?_);refine⟨⟨(aN _),(bY 0 rfl aW),aX⟩,?_⟩;refine iR 14 rfl (show _=i64 (-1) from rfl) ?_;refine bH ⟨(bY 0 rfl aW),aX,(aN _)⟩ (fun a0=>?_);refine aB 7 rfl a0 yQ ?_;refine AL ?_;refine dS (aZ (Cj.sr (aA yP ?_)));refine aA BM ?_;refine J.c1 (fun _=>?_);refine Cj.sr (aA yQ ?_);refine J.ns (Cj.rs (bP ?_));refine zN ?_;exact rT
theorem c2B h L t I (A:UW I h L):Pure aC 44 [ptr h 0,BI t] I (str (dY L t)):=by
 obtain⟨_,G,O,Z,hV,-,-⟩:=A.parts;rcases hV with⟨rfl,rfl⟩|⟨b,l,c,rfl,a0,a1,hb⟩
 ·exact b8Y h G O t I Z
 exact b7I h b l c G O L t I (a9w A t) Z hb a0 a1
theorem a9c a n c (h:n≤c) I:Pure aC 89 [.slice a n c] I (.slice a n n):=by
 refine aP ?_;refine yT.ob func89 ?_;intro w0 _;refine Cj.sr (aA yQ ?_);refine J.yV (aA yP ?_);refine aA yP ?_;refine aA (AU KL) ?_;refine aA yP ?_;refine aA (AU KL) ?_;refine aA (b0j (k:=n) (m:=n) rfl rfl rfl rfl KL IQ (cZ _) h) ?_;refine aA yQ ?_;refine J.ns (aJ (zN ?_));exact rT
theorem b8K{α:Type}{T:TypeId}{f:α→List Value}{l:List α}{v:Value}{H:HL}(h:SX T f l v H):∃a c,v= .slice a l.length c∧l.length≤c:=by
 rcases h with⟨rfl,rfl,rfl⟩|⟨b,c,sp,rfl,A,rfl⟩
 ·exact⟨none,0,rfl,cZ _⟩
 exact⟨_,c,rfl,A⟩
theorem b1k{α:Type}{T:TypeId}{f:α→List Value}{l:List α}{a:Option Addr}{c:Nat}{H:HL}(h:SX T f l (.slice a l.length c) H){k:Nat}(G:k≤l.length):SX T f (l.take k) (.slice a k k) H:=by
 rcases h with⟨rfl,A,rfl⟩|⟨b,c,sp,A,O,rfl⟩
 ·cases A;have:k=0:=by simpa using G
  subst this;exact .inl rT
 cases A;refine .inr ⟨b,k,(l.drop k).flatMap f++sp,by rw[bK,fJ G],by rw[bK];omega,?_⟩;rw[←eP,←dB,fQ]
theorem c2w{L n s most ls a c v H}(A:ls=((Ix.IZ L n (aH n s)).map fun k=>(k,(dM L n k).length)).map KP)(h:SX 80 CW ls v H)(G:v= .slice a ls.length c):b6i (iE L n s most) (.slice a (min ls.length most.toNat) (min ls.length most.toNat)) H:=by
 subst G;have h1:=b1k h (fP ls.length most.toNat);have h2:ls.take (min ls.length most.toNat)=(iE L n s most).map KP:=by
  rw[←Ix.a9F,List.map_take,←A];rcases Nat.le_total ls.length most.toNat with g|g
  ·rw[fJ g,List.take_length,aK g]
  rw[Nat.min_eq_right g]
 rw[h2]at h1;exact h1
theorem c5N{L}(hs:dU L){m k}(G:MS m k){p}(A:∀t,BK m t=cv (gX fF L p t)){n}(hn:p.1=n):((m.length:Nat):Int)=((dM L n p.2).length:Int):=by
 subst hn;have h:=Ix.c2u hs (n:=p.1) (k:=p.2) (ts:=m.map (·.1)) G.1 fun t=>by
  constructor
  ·intro h1;have h2:BK m t≠none:=fun g=>JH.1 g h1;rw[A]at h2;exact fun g=>h2 (by rw[show gX fF L p t=0 from g];rfl)
  intro h1;refine fA fun g=>?_;have h2:=JH.2 g;rw[A,b8x h1]at h2;cases h2
 rw[aY]at h;rw[h]
theorem a7K(n:Nat) most:(if (if (0:Int)>most then(0:Int)else most)<(n:Int)then(if (0:Int)>most then(0:Int)else most)else(n:Int))=((min n most.toNat:Nat):Int):=by
 repeat(first|omega|split)
theorem c0k ib kb vm wm l c N L n s (hs:s.length≤100000000) most I (a0:dU L)(hN:DZ l c N (gX fF L))(ar:l.length≤1000000000000)(ah:I ib=some (yY 136 [.map vm,.map wm,.map (some kb)]))(hI:∀q∈setH kb l c N,I q.1=some q.2):yT aC 138 [ptr ib 0,str n,str s,i64 most] I [] (fun e _ H'=>∃v,e= .returned v∧b6i (iE L n s most) v H'):=by
 have a1:I kb=some (BD IV l c):=hI (kb,_) (.head _);refine yT.ob func138 ?_;intro w0 _;refine Cj.sr (aA yQ ?_);refine J.AO (aF (aA yP ?_));refine aA (RD VU) ?_;refine J.c0 (fun _=>?_);refine Cj.ks (Cj.sr (aA yP ?_));refine aA yP ?_;refine aG rfl (yU rfl rfl rfl rfl rfl (a6G n s hs _) ?_);refine aA yQ ?_;refine J.yV (aA yQ ?_);refine J.AO (aF (aA yP ?_));refine aA zW ?_;refine aA (qq2 (off':=2) DW DC) ?_;refine aA (yX isAgg134 (bM ah)) ?_;refine aG rfl (NZ (kv:=IV) (l:=l) rfl rfl rfl rfl LZ (bM a1) ?_);intro b2 _;refine J.ns (aV (fB (ι:=TB) (fun y=>(y.vis++y.rest).Perm l∧CU w0.heap.size 2 (WI L n (aH n s) y.vis).length (((WI L n (aH n s) y.vis).map KP).flatMap CW) y.g) (fun y=>y.rest.length) (fun y=>[(1,str n),(3,i64 most),(9,str (aH n s)),(10,gV (WI L n (aH n s) y.vis).length y.g),(22,ptr b2 0)]) (fun y=>_) (fun y=>(b2,ZI kb c y.vis c)::gH 80 (((WI L n (aH n s) y.vis).map KP).flatMap CW) y.g) ⟨[],l,none⟩ ⟨.refl _,rfl,rfl⟩ rT rfl rfl ?_));rintro⟨vis,rest,g⟩ ⟨hp,hg⟩;dsimp only at hp hg ⊢;have ae:=hp.length_eq;rw[aT]at ae;have au:=c4x L n (aH n s) vis;refine Cj.sr (aG rfl (PI (kv:=IV) (l:=l) 0 rfl rfl rfl rfl rfl (bM a1) hN.ms.2.2 (cZ _) hN.ms.2.1 hp ?_ ?_))
 ·rintro x O H9 a2 Z ⟨-,hset⟩;simp only[gU,gW]at hset;subst hset;obtain⟨mb,m,k,ai,aj,ak,_,al⟩:=c4M hN hI (Z.mem_iff.1 (gG _ (fV _ (.head _))));refine aA AQ ?_;refine J.nss (dV rfl (fun a8=>?_) (fun a8=>bW (iV (Eq.symm rfl) a8)));refine Cj.ks (aV (Cj.sr (aA (UM (kv:=IV) (l:=l) rfl rfl (yR.at 0 rfl) (bM a1) (Z.mem_iff.1 (gG _ (fV _ (.head _)))) hN.ms.2.1) ?_)));refine aA AQ ?_;refine aA AQ ?_;refine eY 27 rfl (show _= .map (some mb) from ai) ?_;refine aG rfl (BP a5v ?_);intro _ _;refine aG rfl (zS 0 KJ (bC (bC bZ)) gQ ?_);refine aA yQ ?_;refine J.yV (aA (qq2 (off':=0) a0W zL) ?_);refine aA (yX BX (yR.at 0 rfl)) ?_;refine aA yP ?_;refine aA (ED rfl rfl rfl) ?_;refine aA yP ?_;refine J.split 32 rfl (fun A=>?_) (fun A=>?_)
  rotate_left
  ·have af:=CX A;have G:¬a0l n (aH n s) x.1=true:=by unfold a0l;rw[zJ (CX A)];exact Bool.false_ne_true
   refine zO 4 32 33 true A ?_;refine zO 4 32 34 true A ?_;refine zO 4 32 35 true A ?_;refine zO 4 32 36 true A ?_;refine aA (DV A) ?_;refine J.c0 (fun _=>?_);refine Cj.skip (gY (dR (fC (iD iQ)) ?_));refine bU ⟨vis++[x],O,g⟩ ⟨Z,by dsimp only;rw[SL,zF G,aQ];exact hg⟩ (by have h:=a2.length_eq;simp only[dN]at h;dsimp only;omega) ⟨rfl,rfl,rfl,by dsimp only;rw[SL,zF G,aQ];rfl,rfl,trivial⟩ rfl (by dsimp only;rw[SL,zF G,aQ])
  have af:=CS A;have a3:x.1.1=n:=CS A;refine zU 4 32 true A (zK (qq2 (off':=1) a0W zL) ?_);refine zU 4 32 true A (zK (yX BX (yR.at 0 rfl)) ?_);refine zU 4 32 true A (zK yP ?_);refine zU 4 32 true A (zK (c0I rfl rfl rfl) ?_);refine aA (DY A) ?_;refine J.cd (fun a4=>?_) (fun a4=>?_)
  ·have G:a0l n (aH n s) x.1=true:=by unfold a0l;rw[zI a3,eF];exact a4
   refine aF (aA yP ?_);refine aA (qq2 (off':=1) a0W zL) ?_;refine aA (yX BX (yR.at 0 rfl)) ?_;refine aA yP ?_;refine aA (XM (kv:=BI) (l:=m) rfl rfl JZ (bM aj)) ?_;refine eY 42 rfl (show _=i64 ((dM L n x.1.2).length:Int) from(zD i64 (c5N a0 ak al a3))) ?_;refine aA (zV (pl:= #[(0,1),(1,1)]) rfl rfl NS rfl VT (fun w=>by simp[AB,zL]) (dH rfl rfl rfl (bC bZ) (dH rfl rfl rfl (iT (bC bZ)) fK))) ?_;refine aG rfl (AZ KL IQ NS (CG.agg rfl CG.none) ?_);intro _ _;refine aG rfl (BJ (by':=23) [_,_,_] rfl rfl rfl rfl rfl KL (.inr ⟨_,KL⟩) kR IQ NS rfl hg rfl (Src.slice (yR.at 0 rfl) rfl rfl rfl) oM ?_);intro g8 am;refine aA yQ ?_;refine gB (gY (dR (fC (fC (iD iQ))) ?_));refine bU ⟨vis++[x],O,g8⟩ ⟨Z,by dsimp only;rw[SL,zG G,aT,fM,dB];exact am⟩ (by have h:=a2.length_eq;simp only[dN]at h;dsimp only;omega) ⟨rfl,rfl,rfl,by dsimp only;rw[SL,zG G,aT];rfl,rfl,trivial⟩ rfl (by dsimp only;rw[SL,zG G,fM,dB];rfl)
  have G:¬a0l n (aH n s) x.1=true:=by unfold a0l;rw[zI a3,eF];exact fun e=>bW (e.symm.trans a4)
  refine Cj.skip (gY (dR (fC (iD iQ)) ?_));refine bU ⟨vis++[x],O,g⟩ ⟨Z,by dsimp only;rw[SL,zF G,aQ];exact hg⟩ (by have h:=a2.length_eq;simp only[dN]at h;dsimp only;omega) ⟨rfl,rfl,rfl,by dsimp only;rw[SL,zF G,aQ];rfl,rfl,trivial⟩ rfl (by dsimp only;rw[SL,zF G,aQ])
 intro ag;refine aA AQ ?_;refine J.nss (dV rfl (fun a5=>bW (iV (Eq.symm rfl) a5)) (fun a5=>?_));refine Cj.xl (aZ ?_);have an:vis.Perm l:=by rw[ag,aQ]at hp;exact hp
 have a9:CU w0.heap.size 2 ((WI L n (aH n s) vis).map KP).length (((WI L n (aH n s) vis).map KP).flatMap CW) g:=by rw[aY];exact hg
 refine aF (aA yP ?_);refine eY 46 rfl (show _=gV ((WI L n (aH n s) vis).map KP).length g from(by rw[aY])) ?_;refine aG rfl (FV (H1:=gH 80 (((WI L n (aH n s) vis).map KP).flatMap CW) g) [_] rfl rfl rfl rfl rfl rfl (a6c ((WI L n (aH n s) vis).map KP) g a9 (by rw[aY];omega) _) ?_ (fun _ _ _ _ h=>by obtain⟨_,_,_,h,_⟩:=h;cases h) (fun _ _ h=>by obtain⟨_,_,_,h,_⟩:=h;cases h));rintro _ _ H9 _ ⟨ls,aa,ao,h,rfl⟩;cases h;have ap:=c2Q hN a0 an aa ao;have a6:((WI L n (aH n s) vis).map KP).length=ls.length:=aa.length_eq.symm;have aq:CU w0.heap.size 2 ls.length (ls.flatMap CW) g:=by rw[←a6];exact VI a9 (by rw[DN GH,DN GH,a6])
 refine J.nss ?_;obtain⟨a7⟩:Nonempty (SX 80 CW ls (gV ls.length g) (gH 80 (ls.flatMap CW) g)):=⟨SX.c3a GH dE rfl aq⟩;obtain⟨sa,sc,ab,ac⟩:∃a c,gV ls.length g= .slice a ls.length c∧ls.length≤c:=b8K a7;have ad:gV (WI L n (aH n s) vis).length g= .slice sa ls.length sc:=by rw[←ab,←a6,aY]
 refine aF (aA yP ?_);refine eY 48 rfl (show _= .slice sa ls.length sc from ad) ?_;refine aA yP ?_;refine eY 49 rfl (show _= .slice sa ls.length sc from ad) ?_;refine aA (AU KL) ?_;refine aA yP ?_;refine aA (KG rfl rfl rfl) ?_;refine aA (LV rfl rfl rfl) ?_;refine eY 53 rfl (show _=i64 ((min ls.length most.toNat:Nat):Int) from(zD i64 (a7K _ _))) ?_;refine aA (LG (k:=(min ls.length most.toNat)) rfl rfl rfl KL IQ rfl (IU (fP _ _) ac)) ?_;refine aG rfl (yU rfl rfl rfl rfl rfl (a9c sa (min ls.length most.toNat) sc (IU (fP _ _) ac) _) ?_);refine aA yQ ?_;refine J.ns (aJ (dR (H':=gH 80 (ls.flatMap CW) g) (List.sublist_append_right [_] _) ?_));refine zN ?_;exact⟨_,rfl,c2w ap a7 ab⟩
theorem b8I G vm wm n s (hs:s.length≤100000000) most I (O:I G=some (yY 136 [.map vm,.map wm,.map none])):yT aC 138 [ptr G 0,str n,str s,i64 most] I [] (fun e _ H'=>e= .returned (.slice none 0 0)∧H'=[]):=by
 refine yT.ob func138 ?_;intro w0 _;refine Cj.sr (aA yQ ?_);refine J.AO (aF (aA yP ?_));refine aA (RD VU) ?_;refine J.c0 (fun _=>?_);refine Cj.ks (Cj.sr (aA yP ?_));refine aA yP ?_;refine aG rfl (yU rfl rfl rfl rfl rfl (a6G n s hs _) ?_);refine aA yQ ?_;refine J.yV (aA yQ ?_);refine J.AO (aF (aA yP ?_));refine aA zW ?_;refine aA (qq2 (off':=2) DW DC) ?_;refine aA (yX isAgg134 (bM O)) ?_;refine aG rfl (PX rfl rfl rfl rfl LZ ?_);intro _ _;refine J.ns (aV (Cj.rounds 1 ?_));refine Rj.succ ?_;refine Cj.sr (aG rfl (RZ 0 rfl rfl rfl rfl rfl ?_));refine aA AQ ?_;refine J.nss (dV rfl (fun A=>bW (iV (Eq.symm rfl) A)) (fun A=>?_));refine Cj.exit (Ej.KH (Ej.KH (Ej.LC (dS (Cj.sr (aA yP ?_))))));refine aG rfl (FV (H1:=[]) [_] rfl rfl rfl rfl rfl rfl (a6c (base:=0) [] none rT dE _) ?_ (fun _ _ _ _ ⟨_,_,_,h,_⟩=>by cases h) (fun _ _ ⟨_,_,_,h,_⟩=>by cases h));rintro _ _ _ _ ⟨ts,Z,_,h,rfl⟩;cases h;have a0:=Z.eq_nil;subst a0;refine J.yV (aA yP ?_);refine aA yP ?_;refine aA (AU KL) ?_;refine aA yP ?_;refine aA (KG rfl rfl rfl) ?_;refine aA (LV rfl rfl rfl) ?_;refine eY 53 rfl (show _=i64 ((0:Nat):Int) from(zD i64 (a7K 0 most |>.trans (by rw[Nat.zero_min])))) ?_;refine aA (LG (k:=0) rfl rfl rfl KL IQ rfl (cZ _)) ?_;refine aG rfl (yU rfl rfl rfl rfl rfl (a9c none 0 0 (cZ _) _) ?_);refine aA yQ ?_;refine J.ns (aJ (bP ?_));refine zN ?_;exact rT
theorem b8g{L}(hs:dU L)(hz:∀p t,gX fF L p t=0) n s most:iE L n s most=[]:=by
 have h:=Ix.WW hs (n:=n) (b:=aH n s) (ls:=[]) List.Pairwise.nil (fun k=>⟨fun h=>(by cases h),fun⟨_,t,A⟩=>absurd (hz _ t) A⟩) (fun x G=>by cases G);rw[←Ix.a9F,←h,List.take_nil]
theorem c3Y A L n s (hs:s.length≤100000000) most I (h:UW I A L):yT aC 138 [ptr A 0,str n,str s,i64 most] I [] (fun e _ H'=>∃v,e= .returned v∧b6i (iE L n s most) v H'):=by
 obtain⟨G,O,_,Z,-,-,hK⟩:=h.parts;have hv:∀e∈L,MO e.2:=by
  obtain⟨o,h1,_⟩:=h;cases o with
  |none=>rw[show L=[] from h1];intro e he;cases he
  |some s=>exact JE.vok h1
 rcases hK with⟨rfl,hz⟩|⟨b,l,c,N,rfl,hN,hq⟩
 ·rw[b8g h.LD hz];exact(b8I A G O n s hs most I Z).mono fun e _ H' _ ⟨h1,h2⟩=>⟨_,h1,.inl ⟨rfl,rfl,h2⟩⟩
 exact c0k A b G O l c N L n s hs most I h.LD hN (keys_le hN h.LD h.big hv) Z hq
theorem c2T n s (hs:s.length≤100000000) I:yT aC 201 [.pointer none,str n,str s] I [] (fun e _ H'=>e= .returned (.slice none 0 0)∧H'=[]):=by
 refine yT.ob func201 ?_;intro w0 _;refine Cj.sr (aA yQ ?_);refine J.yV (aA yP ?_);refine aG rfl (yS (H1:=[]) rfl rfl rfl rfl rfl (WV s oM _) ?_ (fun _ _ _ _ ⟨_,h,_⟩=>by cases h) (fun _ _ ⟨_,h,_⟩=>by cases h));intro _ _ _ _ A;obtain⟨_,h,G,rfl⟩:=A;cases h;obtain⟨wp,_,rfl⟩:=OY G;refine aA yQ ?_;refine J.AO (aF (aA yP ?_));refine aA (RD VU) ?_;refine aA yP ?_;refine CQ 2 12 13 false ?_;refine CQ 2 12 14 false ?_;refine CQ 2 12 15 false ?_;refine aA JV ?_;refine J.c1 (fun _=>?_);refine Cj.sr (aA yQ ?_);refine J.ns (Cj.rs (zN ?_));exact rT
theorem b6y n s (hs:s.length≤100000000) I:yT aC 131 [.pointer none,str n,str s] I [] (fun e _ H'=>e= .returned (.slice none 0 0)∧H'=[]):=by
 refine yT.ob func131 ?_;intro w0 _;refine Cj.sr (aG rfl (BL ?_));intro _ _;refine aG rfl (BL ?_);intro _ _;refine aA yQ ?_;refine J.yV (aA yP ?_);refine aG rfl (yS (H1:=[]) rfl rfl rfl rfl rfl (WV s oM _) ?_ (fun _ _ _ _ ⟨_,h,_⟩=>by cases h) (fun _ _ ⟨_,h,_⟩=>by cases h));intro _ _ _ _ A;obtain⟨_,h,G,rfl⟩:=A;cases h;obtain⟨wp,_,rfl⟩:=OY G;refine aG rfl (BP b6f ?_);intro _ _;refine aG rfl (zS 0 LK (bC bZ) gQ ?_);refine J.AO (aF (aA (yX KQ (yR.at 2 rfl)) ?_));refine aA (RD VU) ?_;refine aA yP ?_;refine CQ 2 12 13 false ?_;refine CQ 2 12 14 false ?_;refine CQ 2 12 15 false ?_;refine aA JV ?_;refine J.c1 (fun _=>?_);refine Cj.sr (aA yQ ?_);refine J.ns (Cj.rs (bP ?_));refine zN ?_;exact rT
theorem c5R n s I:yT aC 129 [.pointer none,str n,str s] I [] (fun e _ H'=>e= .returned (.slice none 0 0)∧H'=[]):=by
 refine yT.ob func129 ?_;intro w0 _;refine Cj.sr (aA yQ ?_);refine J.AO (aF (aA yP ?_));refine aA (RD VU) ?_;refine J.c1 (fun _=>?_);refine Cj.sr (aA yQ ?_);refine J.ns (Cj.rs (zN ?_));exact rT
theorem c2n n s most I:yT aC 138 [.pointer none,str n,str s,i64 most] I [] (fun e _ H'=>e= .returned (.slice none 0 0)∧H'=[]):=by
 refine yT.ob func138 ?_;intro w0 _;refine Cj.sr (aA yQ ?_);refine J.AO (aF (aA yP ?_));refine aA (RD VU) ?_;refine J.c1 (fun _=>?_);refine Cj.sr (aA yQ ?_);refine J.ns (Cj.rs (zN ?_));exact rT
theorem c0S t I:Pure aC 44 [.pointer none,BI t] I (str []):=by
 refine aP ?_;refine yT.ob func44 ?_;intro w0 _;refine Cj.sr (aG rfl (BL ?_));intro _ _;refine aA yQ ?_;refine J.AO (aF (aA yP ?_));refine aA (RD VU) ?_;refine J.c1 (fun _=>?_);refine Cj.sr (aA yQ ?_);refine J.ns (Cj.rs (bP ?_));refine zN ?_;exact rT
abbrev OJ (e:RJ):aS×List Ix.V:=(e.t,Ix.vals e.fs)
theorem a7m{es:List RJ}{i e}(h:es[i]?=some e):dQ ((es.take (i+1)).map OJ) []=Ix.RG e.t (Ix.vals e.fs) (dQ ((es.take i).map OJ) []):=by
 rw[a1B OJ h];unfold dQ;rw[eX];rfl
def OM (I:Heap) (es:List RJ) (v:Value):Prop:=zY TQ I es v∧∀e∈es,QW I e.fs e.v
theorem OM.mono{I G es v}(h:OM I es v)(A:Le I G):OM G es v:=⟨h.1.mono A,fun e O=>(h.2 e O).mono A⟩
structure BA where
  i:Nat
  J:Heap
  o:Option Ist
theorem a8T{e p n c}(h:e.v= .slice p n c):(TQ e).all Value.oneCell'=true:=by unfold TQ;rw[h];rfl
theorem b1V es v (af:es.length≤1000)(aa:∀e∈es,ZB e.fs) I (a4:OM I es v):yT aC 19 [v] I [] (fun e I' H'=>∃ib o,e= .returned (ptr ib 0)∧XU I' o (dQ (es.map OJ) [])∧H'=ixH ib o):=by
 obtain⟨p,c,rfl,_,-⟩:=id a4.1;refine yT.ob func19 ?_;intro w0 _;refine Cj.sr (aA yQ ?_);refine J.yV (aA (zV (pl:= #[(0,1),(1,1),(2,1)]) rfl rfl zeroValue136 rfl DW (fun w=>by simp[IB,DC]) fK) ?_);refine aG rfl (BL ?_);intro b1 _;refine aA yQ ?_;refine J.AO (aF (aA yP ?_));refine aA (AU WZ) ?_;refine aA yP ?_;refine J.ns (aV (fB (ι:=BA) (fun y=>y.i≤es.length∧Le I y.J∧XU y.J y.o (dQ ((es.take y.i).map OJ) [])∧(dQ ((es.take y.i).map OJ) []).length≤y.i) (fun y=>es.length-y.i) (fun y=>[(3,ptr b1 0),(8,.slice p es.length c),(9,i64 (es.length:Int)),(10,i64 (y.i:Int))]) (fun y=>y.J) (fun y=>ixH b1 y.o) ⟨0,_,none⟩ ⟨cO _,aN _,rfl,cZ _⟩ rT rfl rfl ?_));rintro⟨i,_,o⟩ ⟨hi,a0,G,a7⟩;dsimp only at hi a0 G a7 ⊢;have hE:=a4.mono a0;refine Cj.sr (aA BM ?_);refine J.nss (dV rfl (fun a2=>?_) (fun a2=>?_))
 ·have a8:=BH a2;have a5:i<es.length:=oM;obtain⟨e0,O⟩:∃e,es[i]?=some e:=⟨_,DX a5⟩;have a6:=FB O;obtain⟨⟨p1,c1,ab,_,hp⟩,a1⟩:=id hE;cases ab;obtain⟨_,eo,_,_,_,_,rfl,a3,ac⟩:=hp (AX a5);have Z:=a1 e0 a6;clear a1;obtain⟨_,_,ad,-,-⟩:=id Z.1;refine Cj.ks (aZ (aV (Cj.sr (aA (BG (off':=eo+i*5) WZ OQ) ?_))));refine aA (FH isAgg57 OQ (bM a3) (EJ XE ac O)) ?_;refine aG rfl (BP a1r ?_);intro _ _;refine aG rfl (EM 0 rfl rfl rfl rfl rfl (a8T ad) OQ rfl rfl (bC (bC (bC (bC (bC bZ))))) gQ ?_);refine J.GL (aA yP ?_);refine aA (zX isAgg57 OQ (yR.at 0 rfl)) ?_;refine aG rfl (FV (H1:=ixH _ _) [_] rfl rfl rfl rfl rfl rfl (c6I b1 o (dQ ((es.take i).map OJ) []) e0 _ G oM (aa e0 a6) Z) ?_ (fun _ _ _ _ ⟨_,h,_⟩=>by cases h) (fun _ _ ⟨_,h,_⟩=>by cases h));intro _ _ _ A ae;have hE:=hE.mono A;have G:=G.mono A;have a0:=a0.mono A;have a3:=A _ _ a3;have Z:=Z.mono A;obtain⟨o1,h,a9,rfl⟩:=ae;cases h;refine J.nb (aF (aA (yZ rfl rfl rfl (AA oM)) ?_));refine aA yP ?_;refine gB (dR (fC iQ) ?_);refine bU ⟨i+1,_,o1⟩ ⟨dO,a0,by dsimp only;rw[a7m O];exact a9,by dsimp only;rw[a7m O];have:=a2S e0.t (Ix.vals e0.fs) (dQ ((es.take i).map OJ) []);omega⟩ dO rT rfl rfl
 have a8:=BN a2;rw[aK (oM:es.length≤i)]at G;refine Cj.xl (Cj.sr (aA yP ?_));refine aA yQ ?_;refine J.ns (aJ (zN ?_));exact⟨_,o,rfl,G,rfl⟩
end Go.Proofs.YtojdemmgkdokmaaGreatDoor
namespace Bk
def W (n:Int):Int:=(n+9223372036854775808) % 18446744073709551616-9223372036854775808
abbrev Ln:=List UInt8×Int
def a2d (k:List UInt8) (o:Option Int) (x:Ln):Option Int:=if x.1=k then some (match o with|none=>x.2|some y=>W (y+x.2))else o
def a6r (k:List UInt8) (xs:List Ln):Option Int:=xs.foldl (a2d k) none
theorem a4a k xs x:a6r k (xs++[x])=a2d k (a6r k xs) x:=by
 unfold a6r;rw[eX];rfl
def a0k (k:List UInt8):List Ln→Option Int
 |[]=>none
 |y::r=>if y.1=k then some y.2 else a0k k r
structure IsS (xs r:List Ln):Prop where
  LD:r.Pairwise fun a b=>a.1<b.1
  mem:∀x,x∈r↔a6r x.1 xs=some x.2
theorem IsS.uniq{xs r s}(h:IsS xs r)(g:IsS xs s):r=s:=
 Bk.uniq (R:=fun a b:Ln=>a.1<b.1) (fun _ h=>dL h) (fun _ _ _ h k=>gZ h k) h.LD g.LD fun x=>(h.mem x).trans (g.mem x).symm
theorem c2t{r}(h:r.Pairwise fun a b=>a.1<b.1) x:x∈r↔a0k x.1 r=some x.2:=by
 induction r with
 |nil=>simp[a0k]
 |cons y r G=>
  have A:=bG.1 h;unfold a0k
  by_cases hy:y.1=x.1
  ·rw[zG hy,bQ,Option.some_inj];constructor
   ·rintro(rfl|O)
    ·rfl
    exact absurd (A.1 x O) (by rw[hy];exact dL)
   exact fun e=> .inl (iU hy.symm e.symm)
  rw[zF hy,bQ,G A.2];exact⟨fun e=>e.resolve_left fun e=>hy (by rw[e]),.inr⟩
theorem IsS.c6F{xs r}(h:r.Pairwise fun a b=>a.1<b.1)(g:∀k,a0k k r=a6r k xs):IsS xs r:=⟨h,fun x=>(c2t h x).trans (by rw[g])⟩
def a3J:List Ln→Ln→List Ln
 |[],x=>[x]
 |y::r,x=>if y.1<x.1 then y::a3J r x else if y.1=x.1 then(y.1,W (y.2+x.2))::r else x::y::r
def allL (xs:List Ln):List Ln:=xs.foldl a3J []
theorem b0i xs x:allL (xs++[x])=a3J (allL xs) x:=by unfold allL;rw[eX];rfl
theorem b0A x:∀(r:List Ln) (z:Ln),z∈a3J r x→z.1=x.1∨∃y∈r,y.1=z.1
 |[],z,h=> .inl (by rw[List.mem_singleton.1 h])
 |y::r,z,h=>by
  unfold a3J at h
  split at h
  ·rcases bQ.1 h with rfl|h
   ·exact .inr ⟨_,.head _,rfl⟩
   rcases b0A x r z h with g|⟨w,A,G⟩
   ·exact .inl g
   exact .inr ⟨w,.tail _ A,G⟩
  split at h
  ·rcases bQ.1 h with rfl|h
   ·exact .inr ⟨y,.head _,rfl⟩
   exact .inr ⟨z,.tail _ h,rfl⟩
  rcases bQ.1 h with rfl|h
  ·exact .inl rfl
  exact .inr ⟨z,h,rfl⟩
theorem a4t{a b:List UInt8}(h1:¬a<b)(h2:a≠b):b<a:=by
 rcases Std.le_total (a:=a) (b:=b)with g|g
 ·exact absurd (dZ g h2) h1
 exact dZ g (Ne.symm h2)
theorem b2w x:∀r:List Ln,(r.Pairwise fun a b=>a.1<b.1)→(a3J r x).Pairwise fun a b=>a.1<b.1
 |[],_=>List.pairwise_singleton _ _
 |y::r,h=>by
  have A:=bG.1 h;unfold a3J
  split
  ·rename_i G
   refine bG.2 ⟨fun z hz=>?_,b2w x r A.2⟩;rcases b0A x r z hz with g|⟨w,O,Z⟩
   ·rw[g];exact G
   rw[←Z];exact A.1 w O
  split
  ·exact bG.2 ⟨A.1,A.2⟩
  rename_i h1 h2
  have h3:=a4t h1 h2;refine bG.2 ⟨fun z hz=>?_,h⟩;rcases bQ.1 hz with rfl|hz
  ·exact h3
  exact gZ h3 (A.1 z hz)
theorem c0d{k r}(h:∀y∈r,y.1≠k):a0k k r=none:=by
 induction r with
 |nil=>rfl
 |cons y r A=>
  unfold a0k;rw[zF (h y (.head _))];exact A fun z hz=>h z (.tail _ hz)
theorem b1X k x:∀r:List Ln,(r.Pairwise fun a b=>a.1<b.1)→a0k k (a3J r x)=a2d k (a0k k r) x
 |[],_=>by
  show(if x.1=k then some x.2 else none)=_;unfold a2d;rfl
 |y::r,h=>by
  have A:=bG.1 h;have O:=b1X k x r A.2;unfold a3J
  split
  ·rename_i G
   unfold a0k
   by_cases hk:y.1=k
   ·rw[zG hk,zG hk];unfold a2d;rw[zF];intro e;rw[hk,e]at G;exact dL G
   rw[zF hk,zF hk,O]
  split
  ·rename_i h1 h2
   unfold a0k a2d
   by_cases hk:y.1=k
   ·rw[zG hk,zG hk,zG (h2.symm.trans hk)]
   rw[zF hk,zF hk,zF (fun e=>hk (h2.trans e))]
  rename_i h1 h2
  have h3:=a4t h1 h2;show(if x.1=k then some x.2 else a0k k (y::r))=_;unfold a2d
  by_cases hk:x.1=k
  ·rw[zG hk,zG hk,c0d];intro z hz e;rcases bQ.1 hz with rfl|hz
   ·rw[e,←hk]at h3;exact dL h3
   have:=gZ h3 (A.1 z hz);rw[e,←hk]at this;exact dL this
  rw[zF hk,zF hk]
theorem b2m xs:(allL xs).Pairwise fun a b=>a.1<b.1:=
 MV (P:=fun xs=>(allL xs).Pairwise fun a b=>a.1<b.1) .nil (fun xs x h=>by rw[b0i];exact b2w x _ h) xs
theorem c3b xs:IsS xs (allL xs):=
 IsS.c6F (b2m xs) fun k=>MV (P:=fun xs=>a0k k (allL xs)=a6r k xs) rfl (fun xs x h=>by rw[b0i,b1X k x _ (b2m xs),h,a4a]) xs
