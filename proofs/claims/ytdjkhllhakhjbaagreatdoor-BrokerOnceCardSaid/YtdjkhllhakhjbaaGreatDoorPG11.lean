/-
  Own texts on the laws of the seat, joined: the logic, and contracts of functions. Conditions: none.
-/
import Derived.Test.YtdjkhllhakhjbaaGreatDoorNmG
import Derived.Test.YtdjkhllhakhjbaaGreatDoorPG10
set_option linter.all false
set_option maxRecDepth 100000
set_option maxHeartbeats 40000000
open Go.Sx.J renaming z -> aA,op -> aG,eqv -> eG,nil -> fP
open Go.Sx.JA renaming tk -> aB,fix -> bG,eqv -> iK
open Go.Proofs.Tryz renaming prog -> aC
open Go.Sx.Cj renaming region -> aF,ret -> aJ,block -> aV,seq -> aZ,JD -> bP,cond -> dR,loop -> eP,persist -> iE
open Ix renaming keyOf -> aH,Rec -> aS,within -> bD,phrase -> bH,NQ -> dH,LJ -> dJ,a4A -> dM,LU -> dQ,a3I -> dU,UG -> dV,plK -> fA,cnt -> gJ,scan -> gW,Pl -> iF,a2F -> iG,word -> iH,b3i -> iI
open Go.Sx.yR renaming WH -> aI,PL -> bK,ZU -> gQ
open List renaming take_of_length_le -> aK,append_nil -> aQ,length_append -> aT,getElem?_eq_some_iff -> aU,length_map -> aY,mem_map -> bF,take_succ_eq_append_getElem -> bI,length_take -> bJ,mem_map_of_mem -> cO,flatMap_append -> cZ,filter_append -> dD,map_map -> dG,length_eq_zero_iff -> dI,length_cons -> dK,pairwise_iff_forall_sublist -> dL,drop_drop -> dS,nodup_iff_pairwise_ne -> dX,append_assoc -> dZ,pairwise_map -> eF,length_drop -> eX,sublist_append_left -> eY,prefix_iff_eq_take -> fB,map_append -> fF,mem_filter -> fG,take_append_drop -> fJ,length_filter_le -> fK,mem_append_right -> fM,mem_append_left -> fQ,filter_eq_self -> fU,find?_eq_none -> fV,getElem?_drop -> fZ,set_cons_zero -> gG,set_cons_succ -> gI,any_eq_true -> gX,find?_some -> gY,length_set -> gZ,find?_cons -> iC
open Go.Sx.Le renaming refl -> aN,trans -> bT
open Ke renaming words -> aO,JK -> iD
open Go.Sx.yS renaming toPure -> aP
open Go.Sx.HSub renaming n -> aW,c -> bV
open Go.Sx.CSub renaming n -> aX
open Go.Sx.EW renaming c -> bC,z -> bW,s -> iL
open Go.Sx.Ej renaming bare -> bM,round -> bQ,OY -> dA,KU -> dB,keep -> dN,seq -> dP,NC -> fO,FM -> gK
open Bool renaming noConfusion -> bU,true_and -> dW,eq_false_iff -> dY
open Nat renaming zero_le -> bY,le_refl -> bZ,add_sub_cancel_left -> fC,min_eq_left -> fD,min_le_left -> fH
open Go.Sx.KP renaming part -> dF,none -> fE
open Classical renaming byContradiction -> eH
open Go.Sx.Keeps renaming d -> eU,k -> gU,r -> iJ
open Go.Sx.DZ renaming z -> gB
open Eq renaming trans -> iM
namespace Go.Proofs.YtdjkhllhakhjbaaGreatDoor
open _root_.Go.Proofs.Tryz
open Go Go.Sx
theorem b1M{w l}(h:l.length<w.length):bD w l=false:=by
 rw[dY,Ne,Ix.within_iff];exact fun g=>by have:=g.length_le;omega
theorem b5I{w l}(h:l.take w.length=w):bD w l=true:=by
 rw[Ix.within_iff];exact(fB.2 h.symm).isInfix
theorem b2Y{w l:Ke.Row}{k}(O:k+w.length≤l.length)(h:¬(l.drop k).take w.length=w):bD w (l.drop k)=bD w (l.drop (k+1)):=by
 rcases Nat.lt_or_ge k l.length with A|N
 ·rw[←List.getElem_cons_drop A]at h ⊢
  conv=>lhs;unfold bD
  have:w.isPrefixOf (l[k]::l.drop (k+1))=false:=by
   rw[dY,Ne,List.isPrefixOf_iff_prefix,fB];exact fun e=>h e.symm
  rw[this,Bool.false_or]
 have G:w=[]:=dI.1 oM;subst G;exact absurd rfl h
theorem c2F{a b:List (List UInt8)}{k x y}(h:a.take k=b.take k)(A:a[k]?=some x)(G:b[k]?=some y)(N:x=y):a.take (k+1)=b.take (k+1):=by
 obtain⟨O,Q⟩:=aU.1 A;obtain⟨Z,e2⟩:=aU.1 G;rw[bI O,bI Z,h,Q,e2,N]
theorem c0z{I l a n c}(h:XD I l (.slice a n c)){j k}(A:j≤k)(G:k≤l.length):XD I ((l.drop j).take (k-j)) (.slice (a2S a c j 1) (k-j) (c-j)):=
 b1J.2 (zN.cut (f:=fun s=>[str s]) (sz:=1) (fun _=>rfl) (b1J.1 h) A G)
theorem b7Y a b va vb I (ha:XD I a va)(hb:XD I b vb)(aa:a.length≤100000000000000):Pure aC 311 [va,vb] I (.bool (decide (a=b))):=by
 refine aP ?_;obtain⟨p1,c1,rfl,_,a3⟩:=ha;obtain⟨p2,c2,rfl,_,a4⟩:=hb;refine yS.ob func311 ?_;intro w0 _;refine Cj.sr (aA yQ ?_);refine J.zX (aF (aA yP ?_));refine aA (zZ AO) ?_;refine aA yP ?_;refine aA (zZ AO) ?_;refine aA (GH rfl rfl rfl) ?_;refine J.cd (fun N=>?_) (fun N=>?_)
 ·have A:=bne_iff_ne.1 N;refine Cj.sr (aA yQ ?_);refine J.ns (Cj.rs (zM ?_));rw[zJ (fun e=>A (by rw[e]))];exact rT
 have A:=DI N;have a9:a.length=b.length:=by have h:=A;omega
 refine Cj.ks (aZ (Cj.sr (aA yP ?_)));refine aA (zZ AO) ?_;refine aA yP ?_;refine J.ns (aV (eP (ι:=Nat) (fun j=>j≤a.length∧a.take j=b.take j) (fun j=>a.length-j) (fun j=>[(0,.slice p1 a.length c1),(1,.slice p2 b.length c2),(12,i64 (a.length:Int)),(13,i64 (j:Int))]) (fun j=>I) (fun j=>[]) 0 ⟨bY _,rfl⟩ rT rfl rfl ?_));rintro j ⟨_,O⟩;refine Cj.sr (aA AV ?_);refine J.nss (dR rfl (fun Q=>?_) (fun Q=>?_))
 ·have a1:=BH Q;have a2:j<a.length:=oM;obtain⟨x,hx⟩:∃x,a[j]?=some x:=⟨_,DC a2⟩;obtain⟨y,hy⟩:∃y,b[j]?=some y:=⟨_,DC oM⟩;obtain⟨_,oa,_,_,_,_,rfl,a5,a6⟩:=a3 (zT a2);obtain⟨_,ob,EY,_,_,_,rfl,a7,a8⟩:=a4 (zT (oM:j<b.length));refine Cj.ks (aZ (aV (Cj.sr (aA yP ?_))));refine aA yQ ?_;refine J.nss (bP [] [] 9 kR ?_);refine bG BX (fun BX=>?_);refine aB 0 rfl BX yP ?_;refine aB 1 rfl BX yP ?_;refine aB 2 rfl BX (AU (off':=oa+j) AO zS) ?_;refine aB 3 rfl BX (EF BR (aI a5) (a5w a6 hx)) ?_;refine aB 4 rfl BX yP ?_;refine aB 5 rfl BX yP ?_;refine aB 6 rfl BX (AU (off':=ob+j) AO zS) ?_;refine aB 7 rfl BX (EF BR (aI a7) (a5w a8 hy)) ?_;refine aB 8 rfl BX (KC rfl rfl rfl) ?_;refine AA ?_;refine dP (dR rfl (fun Z=>?_) (fun Z=>?_))
  ·have G:=bne_iff_ne.1 Z;have a0:x≠y:=G;refine Cj.sr (aA yQ ?_);refine J.ns (aJ (dA (dB (fO (dA (dB (zM ?_)))))));rw[zJ (fun e=>a0 (by rw[e,hy]at hx;exact(Option.some.inj hx).symm))];exact rT
  have G:=DI Z;have a0:x=y:=G;refine Cj.kb (aF (aA (yY rfl rfl rfl (zV oM)) ?_));refine aA yP ?_;refine fP (bQ (j+1) ⟨oM,c2F O hx hy a0⟩ oM rT rfl rfl)
 have a1:=BJ Q;refine Cj.xl (Cj.sr (aA yQ ?_));refine J.ns (aJ (zM ?_));rw[aK (oM:a.length≤j),aK (oM:b.length≤j)]at O;rw[zI O];exact rT
theorem b3c a b va vb I (ha:XD I a va)(hb:XD I b vb)(a1:a.length≤100000000000000)(a2:b.length≤100000000000000):Pure aC 289 [va,vb] I (.bool (bD b a)):=by
 refine aP ?_;obtain⟨p1,c1,rfl,_,-⟩:=id ha;obtain⟨p2,c2,rfl,_,-⟩:=id hb;refine yS.ob func289 ?_;intro w0 _;refine Cj.sr (aA yQ ?_);refine J.zX (aF (aA yQ ?_));refine J.ns (aV (eP (ι:=Nat) (fun k=>k≤a.length+1∧(0<k→0<b.length)∧bD b (a.drop k)=bD b a) (fun k=>a.length+1-k) (fun k=>[(0,.slice p1 a.length c1),(1,.slice p2 b.length c2),(5,i64 (k:Int))]) (fun k=>I) (fun k=>[]) 0 ⟨bY _,fun h=>absurd h (Nat.lt_irrefl 0),rfl⟩ rT rfl rfl ?_));rintro k ⟨_,a0,hw⟩;refine aZ (Cj.sr (aA yP ?_));refine aA yP ?_;refine aA (zZ AO) ?_;refine aA (yY rfl rfl rfl (zV oM)) ?_;refine aA yP ?_;refine aA (zZ AO) ?_;refine aA (ZC rfl rfl rfl) ?_;refine J.cd (fun A=>?_) (fun A=>?_)
 ·have O:=BH A;have Q:k+b.length≤a.length:=oM;refine Cj.ks (aZ (aV (Cj.sr (aA yP ?_))));refine aA yP ?_;refine aA yP ?_;refine aA yP ?_;refine aA (zZ AO) ?_;refine aA (yY rfl rfl rfl (zV oM)) ?_;refine aA (b8J (j:=k) (k:=(k+b.length)) rfl rfl rfl rfl AO zS rfl oM oM) ?_;refine aA yP ?_;refine aG rfl (yU rfl rfl rfl rfl rfl (b7Y _ b _ _ _ (c0z ha (Nat.le_add_right k b.length) Q) hb (by rw[bJ,eX];omega)) ?_);refine J.cd (fun G=>?_) (fun G=>?_)
  ·have Z:=BH G;rw[fC]at Z;refine Cj.sr (aA yQ ?_);refine J.ns (aJ (dA (dB (fO (dA (dB (zM ?_)))))));rw[←hw,b5I Z];exact rT
  have N:=BJ G;rw[fC]at N;refine Cj.kb (aF (aA yP ?_));refine aA (yY rfl rfl rfl (zV oM)) ?_;refine aA yQ ?_;refine fP (bQ (k+1) ⟨oM,fun _=>List.length_pos_iff.2 (fun e=>N (by rw[e];rfl)),by rw[←hw,b2Y Q N]⟩ oM rT rfl rfl)
 have O:=BJ A;refine Cj.xl (Cj.sr (aA yQ ?_));refine J.ns (aJ (zM ?_));rw[←hw,b1M (by rw[eX];rcases Nat.eq_zero_or_pos k with h|h<;>(first|omega|(have:=a0 h;omega)))];exact rT
theorem ZJ l v G g N (hl:l.length≤100000000000000) I (hr:zN vwC I l v)(hw:∀x∈l,KA 9 I x.1.ws x.2)(a2:∀x∈l,Pure aC g (.agg (vwC x).toArray::N) I (.bool (G x))):Pure aC 208 [v,.func (.func g) #[] N.toArray] I (i64 (YL G l)):=by
 refine aP ?_;obtain⟨p,c,rfl,_,hp⟩:=hr;refine yS.ob func208 ?_;intro w0 _;refine Cj.sr (aA yQ ?_);refine J.zX (aF (aA yP ?_));refine aA (zZ OM) ?_;refine aA yP ?_;refine J.ns (aV (eP (ι:=Nat) (fun j=>j≤l.length∧∀x∈l.take j,G x=false) (fun j=>l.length-j) (fun j=>[(0,.slice p l.length c),(1,.func (.func g) #[] N.toArray),(7,i64 (l.length:Int)),(8,i64 (j:Int))]) (fun j=>I) (fun j=>[]) 0 ⟨bY _,fun g hg=>by simp at hg⟩ rT rfl rfl ?_));rintro j ⟨_,h⟩;refine Cj.sr (aA AV ?_);refine J.nss (dR rfl (fun O=>?_) (fun O=>?_))
 ·have a1:=BH O;have a0:j<l.length:=oM;obtain⟨x,A⟩:∃x,l[j]?=some x:=⟨_,DC a0⟩;obtain⟨_,fo,_,_,_,sp,rfl,a3,a4⟩:=hp (zT a0);refine Cj.ks (aZ (aV (Cj.sr (aA yP ?_))));refine aA yQ ?_;refine J.yX (aA yP ?_);refine aA yP ?_;refine aA yP ?_;refine aA (AU (off':=fo+j*3) OM MN) ?_;refine aA (FN isAgg159 MN (bK a3) (DN a0q a4 A)) ?_;refine aG rfl (yU rfl rfl rfl rfl rfl (a2 x (FQ A)) ?_);refine J.cd (fun Q=>?_) (fun Q=>?_)
  ·have ht:G x=true:=Q;refine Cj.sr (aA yP ?_);refine aA yQ ?_;refine J.ns (aJ (dA (dB (fO (dA (dB (zM ?_)))))));rw[a4D h A ht];exact rT
  have a5:G x=false:=Q;refine Cj.kb (aF (aA (yY rfl rfl rfl (zV oM)) ?_));refine aA yP ?_;refine fP (bQ (j+1) ⟨oM,a0f h A a5⟩ oM rT rfl rfl)
 have a1:=BJ O;have Z:l.take j=l:=aK oM;rw[Z]at h;refine Cj.xl (Cj.sr (aA yQ ?_));refine J.ns (aJ (zM ?_));rw[a1y h];exact rT
theorem a3e l v G g N (hl:l.length≤100000000000000) I (hr:zN recC I l v)(a2:∀x∈l,Pure aC g (AQ x::N) I (.bool (G x))):Pure aC 310 [v,.func (.func g) #[] N.toArray] I (i64 (YL G l)):=by
 refine aP ?_;obtain⟨p,c,rfl,_,hp⟩:=hr;refine yS.ob func310 ?_;intro w0 _;refine Cj.sr (aA yQ ?_);refine J.zX (aF (aA yP ?_));refine aA (zZ NM) ?_;refine aA yP ?_;refine J.ns (aV (eP (ι:=Nat) (fun j=>j≤l.length∧∀x∈l.take j,G x=false) (fun j=>l.length-j) (fun j=>[(0,.slice p l.length c),(1,.func (.func g) #[] N.toArray),(7,i64 (l.length:Int)),(8,i64 (j:Int))]) (fun j=>I) (fun j=>[]) 0 ⟨bY _,fun g hg=>by simp at hg⟩ rT rfl rfl ?_));rintro j ⟨_,h⟩;refine Cj.sr (aA AV ?_);refine J.nss (dR rfl (fun O=>?_) (fun O=>?_))
 ·have a1:=BH O;have a0:j<l.length:=oM;obtain⟨x,A⟩:∃x,l[j]?=some x:=⟨_,DC a0⟩;obtain⟨_,fo,_,_,_,sp,rfl,a3,a4⟩:=hp (zT a0);refine Cj.ks (aZ (aV (Cj.sr (aA yP ?_))));refine aA yQ ?_;refine J.yX (aA yP ?_);refine aA yP ?_;refine aA yP ?_;refine aA (AU (off':=fo+j*2) NM AL) ?_;refine aA (FN DJ AL (bK a3) (DN GZ a4 A)) ?_;refine aG rfl (yU rfl rfl rfl rfl rfl (a2 x (FQ A)) ?_);refine J.cd (fun Q=>?_) (fun Q=>?_)
  ·have ht:G x=true:=Q;refine Cj.sr (aA yP ?_);refine aA yQ ?_;refine J.ns (aJ (dA (dB (fO (dA (dB (zM ?_)))))));rw[a4D h A ht];exact rT
  have a5:G x=false:=Q;refine Cj.kb (aF (aA (yY rfl rfl rfl (zV oM)) ?_));refine aA yP ?_;refine fP (bQ (j+1) ⟨oM,a0f h A a5⟩ oM rT rfl rfl)
 have a1:=BJ O;have Z:l.take j=l:=aK oM;rw[Z]at h;refine Cj.xl (Cj.sr (aA yQ ?_));refine J.ns (aJ (zM ?_));rw[a1y h];exact rT
theorem a7A b c sp l (N:l.length≤c) A g h (O:l.length≤100000000000000) I (G:∀J,Le I J→∀x∈l,Pure aC g (AQ x::h) J (.bool (A x))):
 yS aC 310 [.slice (some ⟨b,0,none⟩) l.length c,.func (.func g) #[] h.toArray] I [(b,yZ 34 (l.flatMap recC++sp))] (fun e _ H'=>e= .returned (i64 (YL A l))∧H'=[(b,yZ 34 (l.flatMap recC++sp))]):=by
 refine yS.b7l (Enters.of func310 dE rfl) fun hn hd=>?_;have hr:zN recC (a0h [(b,yZ 34 (l.flatMap recC++sp))] I) l (.slice (some ⟨b,0,none⟩) l.length c):=zN.of N (a2Z hn _ (.head _));refine(yS.borrow (a3e l _ A g h O _ hr (G _ (c0G hd)))).mono fun e _ H' _ ⟨J,M,⟨Q,_,Z⟩,h4,_⟩=>⟨Q,?_⟩;rw[h4,Z,aQ]
theorem c3F{α:Type}(p:α→Bool)(l:List α):decide (0≤YL p l)=l.any p:=by
 rcases QG p l with⟨h,A⟩|⟨k,x,h,A,G⟩
 ·rw[h];have:l.any p=false:=by
   rw[dY,Ne,gX];rintro⟨y,N,O⟩;exact absurd O (by simpa using fV.1 A y N)
  rw[this];rfl
 rw[h];have:l.any p=true:=gX.2 ⟨x,FQ A,by have:=gY G;exact this⟩;rw[this];exact zI oM
theorem a0w l v A g h (N:l.length≤100000000000000) I (hr:zN vwC I l v)(O:∀x∈l,KA 9 I x.1.ws x.2)(G:∀x∈l,Pure aC g (.agg (vwC x).toArray::h) I (.bool (A x))):Pure aC 287 [v,.func (.func g) #[] h.toArray] I (.bool (l.any A)):=by
 refine aP ?_;refine yS.ob func287 ?_;intro w0 _;refine Cj.sr (aA yQ ?_);refine J.yX (aA yP ?_);refine aA yP ?_;refine aG rfl (yU rfl rfl rfl rfl rfl (ZJ l v A g h N _ hr O G) ?_);refine aA (JQ rfl rfl rfl) ?_;refine aA yQ ?_;refine J.ns (aJ (zM ?_));rw[←c3F];exact rT
theorem c0I x p n c (h:x.2= .slice p n c) I:Pure aC 209 [.agg (vwC x).toArray] I (.bool (decide (x.1.name=dU))):=by
 refine aP ?_;refine yS.ob func209 ?_;intro w0 _;refine Cj.sr (aG rfl (BG ?_));intro _ _;refine aA yQ ?_;refine J.yX (aA (qq2 (off':=0) WM zS) ?_);refine aA (yV BR (yR.at 0 rfl)) ?_;refine aA IW ?_;refine eG 5 rfl (show _= .bool (decide (x.1.name=dU)) from(zD Value.bool (by rw[Bool.eq_iff_iff,beq_iff_eq,zH];exact Iff.rfl))) ?_;refine aA yQ ?_;refine J.ns (aJ (bM ?_));refine zM ?_;exact rT
theorem a5h x nb lb n w G I (Q:KA 9 I x.1.ws x.2)(a0:x.1.ws.length≤10000000)(a1:w.length≤1000000000)(Z:KA 9 I w G)(N:I nb=some (yZ 9 [str n]))(O:I lb=some (yZ 123 [G])):Pure aC 288 [.agg (vwC x).toArray,ptr nb 0,ptr lb 0] I (.bool (decide (x.1.name=n) && bD w x.1.ws)):=by
 refine aP ?_;refine yS.ob func288 ?_;intro w0 _;refine Cj.sr (aG rfl (BG ?_));intro _ _;refine aA yQ ?_;refine J.yX (aA (qq2 (off':=0) WM zS) ?_);refine aA (yV BR (yR.at 0 rfl)) ?_;refine aA (yV BR (bK N)) ?_;refine aA IW ?_;refine aA yP ?_;refine J.split 9 rfl (fun h=>?_) (fun h=>?_)
 ·have A:=DF h;refine zU 4 9 true h (zK (qq2 (off':=2) WM KR) ?_);refine zU 4 9 true h (zK (yV PY (yR.at 0 rfl)) ?_);refine zU 4 9 true h (zK (yV PY (bK O)) ?_);refine J.KY 4 9 true _ rfl rfl rfl h (yU rfl rfl rfl rfl rfl (b3c x.1.ws w _ _ _ (XD.of Q) (XD.of Z) oM oM) ?_);refine aA (EO h) ?_;refine aA yQ ?_;refine J.ns (aJ (bM ?_));refine zM ?_;rw[zI (DF h:x.1.name=n),dW];exact rT
 have A:=DU h;refine AP 4 9 10 true h ?_;refine AP 4 9 11 true h ?_;refine AP 4 9 12 true h ?_;refine AP 4 9 13 true h ?_;refine aA (ED h) ?_;refine aA yQ ?_;refine J.ns (aJ (bM ?_));refine zM ?_;rw[zJ (DU h:x.1.name≠n)];exact rT
theorem c3p{α β:Type} f (p:β→Bool)(l:List α):(l.map f).any p=l.any fun x=>p (f x):=by rw[List.any_map];rfl
theorem b1u{I xs vs}(h:QY I xs vs) n w:xs.any (fun x=>decide (x.1.name=n) && bD w x.1.ws)=iG n w vs:=by
 unfold iG;rw[←h.1,c3p]
def lacks (L:Ix.Ix) (n:List UInt8) (w:Ke.Row) (t:aS):Bool:= !iG n w ((dH L t).getD [])
theorem b1P xb nb lb ib mb m k wm km L n w wv t I (hs:dQ L)(Q:MI ((dH L t).getD []))(a1:w.length≤1000000000)(hw:KA 9 I w wv)(a2:I xb=some (yZ 82 [ptr ib 0]))(a3:I nb=some (yZ 9 [str n]))(a4:I lb=some (yZ 123 [wv]))(a5:I ib=some (yZ 121 [.map (some mb),.map wm,.map km]))(a6:I mb=some (zY AQ m k))(a9:MS m k)(a7:WJ I m L):Pure aC 286 [AQ t,ptr xb 0,ptr nb 0,ptr lb 0] I (.bool (lacks L n w t)):=by
 refine aP ?_;obtain⟨vv,a8,xs,a0,A⟩:=a7.at t;have aa:=A.len;have ab:=Q.1;refine yS.ob func286 ?_;intro w0 _;refine Cj.sr (aG rfl (BG ?_));intro _ _;refine aA yQ ?_;refine J.nss (bP [0] [] 10 kR ?_);have G:=a2;have N:=a5;have O:=a6;refine bG ⟨(bV 0 rfl aW),aX,(aN _)⟩ (fun h=>?_);refine aB 0 rfl h (yV KJ (aI G)) ?_;refine aB 1 rfl h zQ ?_;refine aB 2 rfl h (qq2 (off':=0) CZ GN) ?_;refine aB 3 rfl h (yV QB (aI N)) ?_;refine aB 4 rfl h (zW DJ AL (gQ 0 rfl)) ?_;refine aB 5 rfl h (IV (kv:=AQ) (l:=m) (a:=t) QF FU a0a (aI O)) ?_;refine iK 11 rfl (show _=vv from a8) ?_;refine aB 6 rfl h (DY rfl rfl rfl) ?_;refine zO 7 rfl (yU rfl rfl rfl rfl rfl (a0w xs _ (fun x=>decide (x.1.name=n) && bD w x.1.ws) _ [ptr nb 0,ptr lb 0] oM _ a0.row A.2 (fun x hx=>a5h x nb lb n w wv _ (A.2 x hx) (Q.2 _ (A.1▸cO hx)) a1 hw a3 a4)) ?_);refine⟨⟨(aN _),(bV 0 rfl aW),aX⟩,?_⟩;refine bG ⟨(bV 0 rfl aW),aX,(aN _)⟩ (fun Z=>?_);refine aB 8 rfl Z (ER rfl rfl) ?_;refine aB 9 rfl Z yQ ?_;refine AA ?_;refine dP (aJ (bM ?_));refine zM ?_;rw[b1u A];exact rT
theorem b0N xb nb lb ib wm km L n w Z t I (hs:dQ L)(O:MI ((dH L t).getD []))(a1:w.length≤1000000000)(hw:KA 9 I w Z)(a2:I xb=some (yZ 82 [ptr ib 0]))(a3:I nb=some (yZ 9 [str n]))(a4:I lb=some (yZ 123 [Z]))(a5:I ib=some (yZ 121 [.map none,.map wm,.map km]))(hL:L=[]):Pure aC 286 [AQ t,ptr xb 0,ptr nb 0,ptr lb 0] I (.bool (lacks L n w t)):=by
 refine aP ?_;subst hL;obtain⟨xs,a0,A⟩:=UN.nil I;have a6:=A.len;rw[List.length_nil]at a6;have a7:=O.1;refine yS.ob func286 ?_;intro w0 _;refine Cj.sr (aG rfl (BG ?_));intro _ _;refine aA yQ ?_;refine J.nss (bP [0] [] 10 kR ?_);have G:=a2;have N:=a5;refine bG ⟨(bV 0 rfl aW),aX,(aN _)⟩ (fun h=>?_);refine aB 0 rfl h (yV KJ (aI G)) ?_;refine aB 1 rfl h zQ ?_;refine aB 2 rfl h (qq2 (off':=0) CZ GN) ?_;refine aB 3 rfl h (yV QB (aI N)) ?_;refine aB 4 rfl h (zW DJ AL (gQ 0 rfl)) ?_;refine aB 5 rfl h (MF (kv:=AQ) (a:=t) rfl rfl rfl rfl QF FU a0a) ?_;refine aB 6 rfl h (DY rfl rfl rfl) ?_;refine zO 7 rfl (yU rfl rfl rfl rfl rfl (a0w xs _ (fun x=>decide (x.1.name=n) && bD w x.1.ws) _ [ptr nb 0,ptr lb 0] oM _ a0.row A.2 (fun x hx=>a5h x nb lb n w Z _ (A.2 x hx) (O.2 _ (A.1▸cO hx)) a1 hw a3 a4)) ?_);refine⟨⟨(aN _),(bV 0 rfl aW),aX⟩,?_⟩;refine bG ⟨(bV 0 rfl aW),aX,(aN _)⟩ (fun Q=>?_);refine aB 8 rfl Q (ER rfl rfl) ?_;refine aB 9 rfl Q yQ ?_;refine AA ?_;refine dP (aJ (bM ?_));refine zM ?_;rw[b1u A];exact rT
structure DL where
  i:Nat
  j:Nat
  zs:List Ix.Rec
theorem b6L{ts:List aS}{A:aS→Bool}{k x}(G:ts[k]?=some x)(N:A x=true)(h:∀y∈ts.take k,A y=false):(ts.take (k+1)).filter (fun t=> !A t)=ts.take k:=by
 rw[take_one G,dD,fU.2 (fun y O=>by simp[h y O])];simp[N]
theorem b9b{ts zs:List aS}{A:aS→Bool}{i j x}(h:zs.take i=(ts.take j).filter (fun t=> !A t))(G:ts[j]?=some x)(N:A x=true):zs.take i=(ts.take (j+1)).filter (fun t=> !A t):=by
 rw[take_one G,dD,←h];simp[N]
theorem c1s{ts zs:List aS}{A:aS→Bool}{i j x}(O:i<j)(h:zs.take i=(ts.take j).filter (fun t=> !A t))(hd:zs.drop j=ts.drop j)(G:ts[j]?=some x)(N:A x=false)(Q:zs.length=ts.length):(zs.set i x).take (i+1)=(ts.take (j+1)).filter (fun t=> !A t):=by
 have Z:j<ts.length:=(aU.1 G).1;rw[take_one G,dD,←h,bI (by rw[gZ];omega),List.take_set_of_le (bZ i)];simp[N]
theorem c1q{ts:List aS}{A}(h:ts.find? A=none):(ts.filter fun t=> !A t)=ts:=by
 rw[fV]at h;exact fU.2 fun y G=>by simp[h y G]
theorem c1c{zs:List aS}{n i sp}(_:zs.length=n)(h:i≤zs.length):(zs.flatMap recC++sp).take (0+i*2)=(zs.take i).flatMap recC:=by
 have A:zs.flatMap recC=(zs.take i).flatMap recC++(zs.drop i).flatMap recC:=by rw[←cZ,fJ]
 have G:((zs.take i).flatMap recC).length=0+i*2:=by rw[BP GZ,bJ,fD h];omega
 rw[A,dZ,←G,List.take_left]
theorem b4M{A}:∀{l:List aS} {k:Nat},YL A l=(k:Int)→∀y∈l.take k,A y=false:=fun {l k} h=>by
 unfold YL at h;cases hf:l.findIdx? A with
 |none=>rw[hf]at h;simp only at h;omega
 |some j=>
  rw[hf]at h;have N:j=k:=by simp only at h;omega
  subst N;obtain⟨_,_,O⟩:=List.findIdx?_eq_some_iff_getElem.1 hf;intro y Q;obtain⟨i,Z,rfl⟩:=List.mem_iff_getElem.1 Q;have G:i<j:=by rw[bJ]at Z;omega
  have:=O i G;rw[List.getElem_take];simpa using this
theorem b0f{base} b c sp (ts:List aS)(hg:BM base 2 ts.length (ts.flatMap recC) (some (b,c,sp)))(A:aS→Bool) g Z (hl:ts.length≤100000000000000) I (a0:∀J,Le I J→∀x∈ts,Pure aC g (AQ x::Z) J (.bool (A x))):yS aC 285 [.slice (some ⟨b,0,none⟩) ts.length c,.func (.func g) #[] Z.toArray] I [(b,yZ 34 (ts.flatMap recC++sp))]
 (fun e _ H'=>∃g':Gs,BM 0 2 (ts.filter fun t=> !A t).length ((ts.filter fun t=> !A t).flatMap recC) g'∧e= .returned (gV (ts.filter fun t=> !A t).length g')∧H'=gH 34 ((ts.filter fun t=> !A t).flatMap recC) g'):=by
 have hc:ts.length≤c:=by
  obtain⟨_,_,h3⟩:=hg;rw[BP GZ]at h3;omega
 obtain⟨-,_,_⟩:=id hg;refine yS.ob func285 ?_;intro w0 _;refine Cj.sr (aA yQ ?_);refine J.yX (aA yP ?_);refine aA yP ?_;refine J.pull Pull.z ?_;refine aG rfl (yT (H1:=[_]) rfl rfl rfl rfl rfl (a7A b c sp ts hc A g Z hl _ a0) ?_ (fun _ _ _ _ h=>by cases h.1) (fun _ _ h=>by cases h.1));intro _ _ _ ac ah;have a0:=fun J9 h9=>a0 J9 (bT ac h9);obtain⟨h,rfl⟩:=ah;cases h;refine aA yQ ?_;refine J.zX (aF (aA yP ?_));refine aA DW ?_;refine J.cd (fun O=>?_) (fun O=>?_)
 ·have ad:=DF O;have a7:ts.find? A=none:=by
   rcases QG A ts with h|⟨k,x,h1,-,-⟩
   ·exact h.2
   have h9:=DF O;rw[h1]at h9;omega
  refine Cj.sr (aA yP ?_);refine aA yQ ?_;refine J.ns (Cj.rs (zM ?_));rw[c1q a7];exact⟨some (b,c,sp),a5A hg,rfl,rfl⟩
 have ad:=DU O;obtain⟨k,x0,aa,a1,a8⟩:=(QG A ts).resolve_left (fun h=>by have h9:=DU O;exact h9 h.1);have ae:=b4M aa;have ai:A x0=true:=by have:=gY a8;exact this
 have an:=(aU.1 a1).1;rw[aa];refine Cj.ks (aZ (Cj.sr (aA yP ?_)));refine aA (yY rfl rfl rfl (zV oM)) ?_;refine aA yQ ?_;refine J.ns (aV (eP (ι:=DL) (fun y=>y.i<y.j∧y.j≤ts.length∧y.zs.length=ts.length∧y.zs.take y.i=(ts.take y.j).filter (fun t=> !A t)∧y.zs.drop y.j=ts.drop y.j) (fun y=>ts.length-y.j) (fun y=>[(0,.slice (some ⟨b,0,none⟩) ts.length c),(1,.func (.func g) #[] Z.toArray),(5,i64 (y.i:Int)),(6,i64 (y.j:Int))]) (fun y=>_) (fun y=>[(b,yZ 34 (y.zs.flatMap recC++sp))]) ⟨k,k+1,ts⟩ ⟨Nat.lt_succ_self k,dO,rfl,by dsimp only;exact(b6L a1 ai ae).symm,rfl⟩ rT rfl rfl ?_));rintro⟨i,j,zs⟩ ⟨ab,hj,G,a2,Q⟩;dsimp only at ab hj G a2 Q ⊢;refine aZ (Cj.sr (aA yP ?_));refine aA yP ?_;refine aA (zZ NM) ?_;refine aA AV ?_;refine J.cd (fun a3=>?_) (fun a3=>?_)
 ·have af:=BH a3;have aj:j<ts.length:=oM;obtain⟨x,N⟩:∃x,ts[j]?=some x:=⟨_,DC aj⟩;have a9:zs[j]?=some x:=by rw[←N,←Nat.add_zero j,←fZ,←fZ,Q]
  refine Cj.ks (aZ (aV (Cj.sr (aA yP ?_))));refine aA yP ?_;refine aA (AU (off':=0+j*2) NM AL) ?_;refine aA (FN DJ AL (yR.at 0 rfl) (DN GZ (o:=0) rfl a9)) ?_;refine aG rfl (CU QU ?_);intro _ _;refine aG rfl (AB 0 AL (bC (bC bW)) gB ?_);refine J.yX (aA yP ?_);refine aA (zW DJ AL (yR.at 0 rfl)) ?_;refine aG rfl (yU rfl rfl rfl rfl rfl (a0 _ (aN _) x (FQ N)) ?_);refine aA (ER rfl rfl) ?_;refine J.cd (fun a4=>?_) (fun a4=>?_)
  ·have a5:A x=false:=by have h:=a4;simpa using h
   refine Cj.sr (aA yP ?_);refine aA yP ?_;refine aA (zW DJ AL (yR.at 0 rfl)) ?_;refine aA (EL (off':=i*2) rfl rfl rfl NM AL oM oM oM) ?_;refine aG rfl (EN 1 rfl rfl rfl rfl rfl rfl AL rfl rfl (a4z (x:=x) GZ oM) (DZ.s gB) ?_);refine J.GI (aA yP ?_);refine aA (yY rfl rfl rfl (zV oM)) ?_;refine aA yQ ?_;refine J.nb (aF (aA yP ?_));refine aA (yY rfl rfl rfl (zV oM)) ?_;refine aA yQ ?_;refine fP (dN (eU (gU Keeps.n)) ?_);refine bQ ⟨i+1,j+1,zs.set i x⟩ ⟨dO,dO,by dsimp only;rw[gZ];exact G,by dsimp only;exact c1s ab a2 Q N a5 G,by dsimp only;rw[List.drop_set_of_lt oM,←dS,Q,dS]⟩ dO rT rfl rfl
  have a5:A x=true:=by have h:=a4;simpa using h
  refine Cj.kb (aF (aA yP ?_));refine aA (yY rfl rfl rfl (zV oM)) ?_;refine aA yQ ?_;refine fP (dN (eU (gU Keeps.n)) ?_);refine bQ ⟨i,j+1,zs⟩ ⟨dO,dO,G,by dsimp only;exact b9b a2 N a5,by dsimp only;rw[←dS,Q,dS]⟩ dO rT rfl rfl
 have af:=BJ a3;refine Cj.xl (Cj.sr (aA yP ?_));refine aA yP ?_;refine aA (PD (j:=i) rfl rfl rfl NM AL rfl oM oM) ?_;refine eG 38 rfl (show _= .slice (some ⟨b,0+i*2,none⟩) (ts.length-i) (c-i) from(by unfold a2S;rw[zF oM,Option.map_some,Addr.add_lit])) ?_;refine aG rfl (b9s (sz:=2) 0 rfl rfl rfl oM NM QU rfl dE rfl rfl (by rw[aT,BP GZ,G];omega) ?_);rintro ak _ ag ⟨-,hset⟩;simp only[gG,gI]at hset;subst hset;refine J.nss ?_;have al:=ag;refine aF (aA yP ?_);refine aA yP ?_;refine aA (JI (k:=i) rfl rfl rfl NM AL rfl oM) ?_;refine aA yQ ?_;refine J.ns (aJ (zM ?_));have am:(ts.filter fun t=> !A t)=zs.take i:=by rw[a2,aK (oM:ts.length≤j)]
 have a6:(zs.take i).length=i:=by rw[bJ];omega
 rw[am,a6];refine⟨some (b,c,ak++(zs.flatMap recC++sp).drop (0+i*2+(ts.length-i)*2)),⟨bY _,by rw[BP GZ,a6],?_⟩,rfl,?_⟩
 ·rw[BP GZ,a6,aT,al,eX,aT,BP GZ,G];omega
 show[_]=[_];rw[c1c G (oM:i≤zs.length),dZ]
abbrev a2H (l:List aS) (v:Value) (H:HL):Prop:=PZ 34 recC l v H
theorem a9Q{base n l g}(hn:n=l.length)(hg:BM base 2 n (l.flatMap recC) g):a2H l (gV n g) (gH 34 (l.flatMap recC) g):=PZ.c0x GZ dE hn hg
theorem a4Q:a2H [] (.slice none 0 0) []:= .inl rT
theorem c2r{L n s}(h:(aO s).length≠1):iH L n s=[]:=zF h
theorem c0l{L n s w}(h:aO s=[w]):iH L n s=bH L n [w]:=by
 unfold iH;rw[h];rfl
theorem c4I{l:Ke.Row}{w:List UInt8}(h:l.length=1)(A:l[0]?=some w):l=[w]:=by
 match l,h with
 |[a],_=>simp at A;rw[A]
theorem b6a{L}(hs:dQ L) n x w:(bH L n [x]).filter (fun t=> !lacks L n (x::w) t)=bH L n (x::w):=
 Ix.b6D n x w _ hs fun t vs hg=>by unfold lacks;rw[hg,Bool.not_not];rfl
theorem a8O{L:Ix.Ix}{t:aS}:dV L t=match ((dH L t).getD []).find? fun v=>decide (v.name=dU)with
 |none=>[]
 |some v=>v.key:=by
 unfold dV;cases dH L t with
 |none=>rfl
 |some vs=>rfl
theorem a0s{α β}(f:α→β) p (l:List α):(l.map f).find? p=(l.find? fun x=>p (f x)).map f:=by
 induction l with
 |nil=>rfl
 |cons a r h=>
  rw[List.map_cons,iC,iC];cases p (f a)with
  |true=>rfl
  |false=>exact h
theorem a8P{I G L}(h:VX I G L) t:MI ((dH L t).getD []):=by
 obtain⟨o,A,_⟩:=h;cases o with
 |none=>rw[show L=[] from A];exact⟨bY _,fun _ h=>by cases h⟩
 |some s=>exact b0J (JH.KQ A) (JH.vok A) t
theorem a5R n s (hs:s.length≤100000000) I:Pure aC 284 [str n,str s] I (str (aH n s)):=by
 refine aP ?_;have O:=b0m s;refine yS.ob func284 ?_;intro w0 _;refine Cj.sr (aA yQ ?_);refine J.zX (aF (aA yP ?_));refine aG rfl (yU rfl rfl rfl rfl rfl (a7w s hs _) ?_);refine aA yP ?_;refine aA AZ ?_;refine aA AZ ?_;refine aA yQ ?_;refine aA yQ ?_;refine J.yX (aA yP ?_);refine aA yP ?_;refine J.split 13 rfl (fun h=>?_) (fun h=>?_)
 rotate_left
 ·have G:aH n s=iD s 0:=zF (fun g=>bU (g.1.symm.trans h));refine AP 1 13 14 true h ?_;refine AP 1 13 15 true h ?_;refine aA (ED h) ?_;refine J.c0 (fun _=>?_);refine Cj.ks (Cj.sr (aA yP ?_));refine aG rfl (yU rfl rfl rfl rfl rfl (VQ s 0 hs _) ?_);refine aA yQ ?_;refine J.ns (aJ (zM ?_));rw[G];exact rT
 refine zU 1 13 true h (zK yP ?_);refine zU 1 13 true h (zK IW ?_);refine aA (EO h) ?_;refine J.cd (fun A=>?_) (fun A=>?_)
 ·have N:=DF A;have G:aH n s=iD (Ke.YB s).1 0:=zG ⟨h,DF A⟩;refine aF (aA yP ?_);refine aA yQ ?_;refine J.yX (aA yP ?_);refine aG rfl (yU rfl rfl rfl rfl rfl (VQ (Ke.YB s).1 0 oM _) ?_);refine aA yQ ?_;refine J.ns (aJ (zM ?_));rw[G];exact rT
 have N:=DU A;have G:aH n s=iD s 0:=zF (fun g=>DU A g.2);refine Cj.ks (Cj.sr (aA yP ?_));refine aG rfl (yU rfl rfl rfl rfl rfl (VQ s 0 hs _) ?_);refine aA yQ ?_;refine J.ns (aJ (zM ?_));rw[G];exact rT
theorem c3N ib L n s (hs:s.length≤100000000) I (hx:VX I ib L):yS aC 290 [ptr ib 0,str n,str s] I [] (fun e _ H'=>∃v,e= .returned v∧a2H (iH L n s) v H'):=by
 have Q:=hx.KQ;have a4:=hx.big;obtain⟨_,wm,_,N,_,Z,_⟩:=hx.parts;have ah:=(Ke.SQ s).1;refine yS.ob func290 ?_;intro w0 _;refine Cj.sr (aA yQ ?_);refine J.yX (aA yP ?_);refine aG rfl (yT (H1:=[]) rfl rfl rfl rfl rfl (VF s oM _) ?_ (fun _ _ _ _ ⟨_,h,_⟩=>by cases h) (fun _ _ ⟨_,h,_⟩=>by cases h));intro _ _ _ a0 aa;have N:=a0 _ _ N;have Z:=Z.mono a0;obtain⟨_,h,hw,rfl⟩:=aa;cases h;obtain⟨wp,_,rfl⟩:=NT hw;refine aA yQ ?_;refine J.zX (aF (aA yP ?_));refine aA (OV TY) ?_;refine aA yP ?_;refine CO 2 12 false (zK yP ?_);refine CO 2 12 false (zK (zZ AO) ?_);refine CO 2 12 false (zK (GH rfl rfl rfl) ?_);refine aA (ET rfl rfl rfl rfl) ?_;refine J.cd (fun O=>?_) (fun O=>?_)
 ·have a5:=bne_iff_ne.1 O;have a6:(aO s).length≠1:=by have h:=bne_iff_ne.1 O;omega
  refine Cj.sr (aA yQ ?_);refine J.ns (Cj.rs ?_);rw[c2r a6];refine bM ?_;refine zM ?_;exact⟨_,rfl,a4Q⟩
 have a5:=DI O;have ab:(aO s).length=1:=by have h:=DI O;omega
 obtain⟨w1,a1⟩:∃w,(aO s)[0]?=some w:=⟨_,DC oM⟩;have ac:=c4I ab a1;obtain⟨wb,_,_,ad,ae⟩:=hw.some (zT (oM:0<(aO s).length));cases ad;refine Cj.ks (aZ (bP [] [] 11 kR ?_));have a2:=N;have a3:=ae;refine bG BX (fun A=>?_);refine aB 0 rfl A yP ?_;refine aB 1 rfl A zQ ?_;refine aB 2 rfl A (qq2 (off':=1) CZ CB) ?_;refine aB 3 rfl A (yV isAgg119 (aI a2)) ?_;refine aB 4 rfl A yP ?_;refine aB 5 rfl A yP ?_;refine aB 6 rfl A (EL (off':=0) rfl rfl rfl AO zS dE oM sI) ?_;refine aB 7 rfl A (EF BR (aI a3) (JL a1)) ?_;refine aB 8 rfl A (BD (pl:= #[(0,1),(1,1)]) rfl rfl a4u rfl a0c (fun w=>by simp[zS]) (dF rfl rfl rfl (bC bW) (dF rfl rfl rfl (iL (bC bW)) fE))) ?_;refine zO 9 rfl (yT (H1:=[]) rfl rfl rfl rfl rfl (a3t wm _ L (n,w1) _ Z Q a4 (b1I Q _)) ?_ (fun _ _ _ _ ⟨_,_,_,_,_,h,_⟩=>by cases h) (fun _ _ ⟨_,_,_,_,_,h,_⟩=>by cases h));intro _ _ _ G a7;have N:=G _ _ N;have Z:=Z.mono G;have hw:=hw.mono G;obtain⟨ts,g,af,a8,hg,h,rfl⟩:=a7;cases h;refine⟨⟨(bT (aN _) G),aW,aX⟩,?_⟩;refine bG ⟨aW,aX,(bT (aN _) G)⟩ (fun a9=>?_);refine aB 10 rfl a9 yQ ?_;refine AA ?_;refine dP (aJ ?_);have ag:=iI Q af a8;rw[c0l ac];subst ag;refine dN (H':=gH _ _ g) (eY _ _) ?_;refine zM ?_;exact⟨_,rfl,a9Q rfl hg⟩
theorem c4F ib L n s (hs:s.length≤100000000) I (Z:VX I ib L):yS aC 249 [ptr ib 0,str n,str s] I [] (fun e _ H'=>∃v,e= .returned v∧a2H (dJ L n (aH n s)) v H'):=by
 have N:=Z.KQ;have a0:=Z.big;obtain⟨_,_,km,O,_,_,hK⟩:=Z.parts;refine yS.ob func249 ?_;intro w0 _;refine Cj.sr (aA yQ ?_);refine J.zX (aF (aA yP ?_));refine aA (OV TY) ?_;refine J.c0 (fun _=>?_);refine Cj.ks (aZ (bP [] [] 11 kR ?_));have Q:=O;refine bG BX (fun A=>?_);refine aB 0 rfl A yP ?_;refine aB 1 rfl A zQ ?_;refine aB 2 rfl A (qq2 (off':=2) CZ CB) ?_;refine aB 3 rfl A (yV isAgg119 (aI Q)) ?_;refine aB 4 rfl A yP ?_;refine aB 5 rfl A yP ?_;refine aB 6 rfl A yP ?_;refine zO 7 rfl (yU rfl rfl rfl rfl rfl (a5R n s hs _) ?_);refine⟨EK,?_⟩;refine bG BX (fun a2=>?_);refine aB 8 rfl a2 (BD (pl:= #[(0,1),(1,1)]) rfl rfl a4u rfl a0c (fun w=>by simp[zS]) (dF rfl rfl rfl (bC bW) (dF rfl rfl rfl (iL (bC bW)) fE))) ?_;refine zO 9 rfl (yT (H1:=[]) rfl rfl rfl rfl rfl (a3t km _ L (n,aH n s) _ hK N a0 (b1I N _)) ?_ (fun _ _ _ _ ⟨_,_,_,_,_,h,_⟩=>by cases h) (fun _ _ ⟨_,_,_,_,_,h,_⟩=>by cases h));intro _ _ _ G a3;have O:=G _ _ O;have hK:=hK.mono G;obtain⟨ts,g,a4,a1,hg,h,rfl⟩:=a3;cases h;refine⟨⟨(bT (aN _) G),aW,aX⟩,?_⟩;refine bG ⟨aW,aX,(bT (aN _) G)⟩ (fun a5=>?_);refine aB 10 rfl a5 yQ ?_;refine AA ?_;refine dP (aJ ?_);have a6:=Ix.b5j N a4 a1;subst a6;refine dN (H':=gH _ _ g) (eY _ _) ?_;refine zM ?_;exact⟨_,rfl,a9Q rfl hg⟩
theorem b0Y(A:aS→Bool) g (h:List Value) I:yS aC 285 [.slice none 0 0,.func (.func g) #[] h.toArray] I [] (fun e _ H'=>e= .returned (.slice none 0 0)∧H'=[]):=by
 refine yS.ob func285 ?_;intro w0 _;refine Cj.sr (aA yQ ?_);refine J.yX (aA yP ?_);refine aA yP ?_;refine aG rfl (yU rfl rfl rfl rfl rfl (a3e [] _ A g h dE _ zN.nil (fun x G=>by cases G)) ?_);refine eG 10 rfl (show _=i64 (-1) from rfl) ?_;refine aA yQ ?_;refine J.zX (aF (aA yP ?_));refine aA DW ?_;refine J.c1 (fun _=>?_);refine Cj.sr (aA yP ?_);refine aA yQ ?_;refine J.ns (Cj.rs (zM ?_));exact rT
theorem b5l h nb lb A vm wm km L n w G t I (hs:dQ L)(N:MI ((dH L t).getD []))(O:w.length≤1000000000)(hw:KA 9 I w G)(Q:I h=some (yZ 82 [ptr A 0]))(Z:I nb=some (yZ 9 [str n]))(a0:I lb=some (yZ 123 [G]))(a1:I A=some (yZ 121 [.map vm,.map wm,.map km]))(hV:b1y I vm L):Pure aC 286 [AQ t,ptr h 0,ptr nb 0,ptr lb 0] I (.bool (lacks L n w t)):=by
 rcases hV with⟨rfl,hL⟩|⟨b,l,c,rfl,a2,a3,hb⟩
 ·exact b0N h nb lb A wm km L n w G t I hs N O hw Q Z a0 a1 hL
 exact b1P h nb lb A b l c wm km L n w G t I hs N O hw Q Z a0 a1 hb a2 a3
theorem b4P{base}(ts:List aS) g (hg:BM base 2 ts.length (ts.flatMap recC) g)(h:aS→Bool) f A (O:ts.length≤100000000000000) I (N:∀J,Le I J→∀x∈ts,Pure aC f (AQ x::A) J (.bool (h x))):yS aC 285 [gV ts.length g,.func (.func f) #[] A.toArray] I (gH 34 (ts.flatMap recC) g)
 (fun e _ H'=>∃G:Gs,BM 0 2 (ts.filter fun t=> !h t).length ((ts.filter fun t=> !h t).flatMap recC) G∧e= .returned (gV (ts.filter fun t=> !h t).length G)∧H'=gH 34 ((ts.filter fun t=> !h t).flatMap recC) G):=by
 cases g with
 |none=>
  have Q:ts=[]:=dI.1 hg.1;subst Q;exact(b0Y h f A I).mono fun e _ H' _ ⟨Z,h2⟩=>⟨none,⟨rfl,rfl⟩,Z,h2⟩
 |some q=>
  obtain⟨b,c,sp⟩:=q;exact b0f b c sp ts hg h f A O I N
theorem c1X{L}(hs:dQ L)(h:L.length≤100000) n w:(bH L n w).length≤100000000000000:=by
 unfold bH
 split
 ·simp
 rw[aY];have:=fK (fun e:aS×List Ix.V=>iG n w e.2) L;omega
theorem b4J ib L n s (hs:s.length≤100000000) I (hx:VX I ib L):yS aC 251 [ptr ib 0,str n,str s] I [] (fun e _ H'=>∃g,BM 0 2 (bH L n (aO s)).length ((bH L n (aO s)).flatMap recC) g∧e= .returned (gV (bH L n (aO s)).length g)∧H'=gH 34 ((bH L n (aO s)).flatMap recC) g):=by
 have a3:=hx.KQ;have a9:=hx.big;obtain⟨vm,wm,km,N,hV,hW,_⟩:=hx.parts;have aj:=fun t=>a8P hx t;have ay:=(Ke.SQ s).1;refine yS.ob func251 ?_;intro w0 _;refine Cj.sr (aG rfl (BG ?_));intro b1 aq;refine aG rfl (BG ?_);intro b2 ar;refine aA yQ ?_;refine J.nss (Cj.pull (Pull.s Pull.z) ?_);refine iE aq (fun _ a7 G=>?_);have N:=a7 _ _ N;have hW:=hW.mono a7;have hV:=hV.mono a7;refine iE ar (fun _ a5 O=>?_);have N:=a5 _ _ N;have hW:=hW.mono a5;have hV:=hV.mono a5;have G:=a5 _ _ G;refine aF (aA yP ?_);refine aG rfl (yT (H1:=[]) rfl rfl rfl rfl rfl (VF s oM _) ?_ (fun _ _ _ _ ⟨_,h,_⟩=>by cases h) (fun _ _ ⟨_,h,_⟩=>by cases h));intro _ _ H9 a2 ak;have N:=a2 _ _ N;have hW:=hW.mono a2;have hV:=hV.mono a2;have G:=a2 _ _ G;have O:=a2 _ _ O;obtain⟨_,h,hw,rfl⟩:=ak;cases h;obtain⟨wp,_,rfl⟩:=NT hw;refine aG rfl (CU b5V ?_);intro af al;refine aG rfl (AB 0 KR (bC bW) gB ?_);refine J.zX (iE al (fun _ a1 a0=>?_));have N:=a1 _ _ N;have hW:=hW.mono a1;have hV:=hV.mono a1;have G:=a1 _ _ G;have O:=a1 _ _ O;have hw:=hw.mono a1;refine aF (aA (yV KJ (bK G)) ?_);refine aA (OV TY) ?_;refine aA yP ?_;refine CO 2 12 false (zK (yV PY (bK a0)) ?_);refine CO 2 12 false (zK (zZ AO) ?_);refine CO 2 12 false (zK DW ?_);refine aA (ET rfl rfl rfl rfl) ?_;refine J.cd (fun a4=>?_) (fun a4=>?_)
 ·have ac:=DF a4;refine Cj.sr (aA yQ ?_);refine J.ns (Cj.rs ?_);rw[show bH L n (aO s)=[] from zG (dI.1 (by have h:=DF a4;omega))];refine bM ?_;refine zM ?_;exact⟨none,⟨rfl,rfl⟩,rfl,rfl⟩
 have ac:=DU a4;have ag:(aO s).length≠0:=by have h:=DU a4;omega
 obtain⟨x,w,ah⟩:∃x w,aO s=x::w:=by
  cases hc:aO s with
  |nil=>rw[hc]at ag;exact absurd rfl ag
  |cons a r=>exact⟨a,r,rfl⟩
 have am:(aO s)[0]?=some x:=by rw[ah];rfl
 obtain⟨wb,_,_,au,a6⟩:=hw.some (zT (oM:0<(aO s).length));cases au;refine Cj.ks (aZ (bP [] [] 13 kR ?_));have ad:=N;have aa:=G;have ab:=O;have a8:=a0;have ae:=a6;refine bG BX (fun Q=>?_);refine aB 0 rfl Q (yV KJ (aI aa)) ?_;refine aB 1 rfl Q zQ ?_;refine aB 2 rfl Q (qq2 (off':=1) CZ CB) ?_;refine aB 3 rfl Q (yV isAgg119 (aI ad)) ?_;refine aB 4 rfl Q (yV BR (aI ab)) ?_;refine aB 5 rfl Q (yV PY (aI a8)) ?_;refine aB 6 rfl Q (EL (off':=0) rfl rfl rfl AO zS dE oM sI) ?_;refine aB 7 rfl Q (EF BR (aI ae) (JL am)) ?_;refine aB 8 rfl Q (BD (pl:= #[(0,1),(1,1)]) rfl rfl a4u rfl a0c (fun w=>by simp[zS]) (dF rfl rfl rfl (bC bW) (dF rfl rfl rfl (iL (bC bW)) fE))) ?_;refine aB 10 rfl Q (DY rfl rfl rfl) ?_;refine zO 9 rfl (yT (H1:=[]) rfl rfl rfl rfl rfl (a3t wm _ L (n,x) _ hW a3 a9 (b1I a3 _)) ?_ (fun _ _ _ _ ⟨_,_,_,_,_,h,_⟩=>by cases h) (fun _ _ ⟨_,_,_,_,_,h,_⟩=>by cases h));intro _ _ _ A an;have N:=A _ _ N;have hW:=hW.mono A;have hV:=hV.mono A;have G:=A _ _ G;have O:=A _ _ O;have hw:=hw.mono A;have a0:=A _ _ a0;have a6:=A _ _ a6;obtain⟨ts,g,av,ao,hg,h,rfl⟩:=an;cases h;have ai:=iI a3 av ao;have aw:=hg;refine⟨⟨(bT (aN _) A),aW,aX⟩,?_⟩;refine zO 11 rfl (FB (H1:=gH 34 (ts.flatMap recC) g) [] (aQ _) rfl rfl rfl rfl rfl (b4P ts g aw (lacks L n (aO s)) _ [ptr b1 0,ptr b2 0,ptr af 0] (by rw[ai];exact c1X a3 a9 _ _) _ (fun J9 h9 t _=>b5l b1 b2 af ib vm wm km L n (aO s) _ t J9 a3 (aj t) oM (hw.mono h9) (h9 _ _ G) (h9 _ _ O) (h9 _ _ a0) (h9 _ _ N) (hV.mono h9))) ?_ (fun _ _ _ _ ⟨_,_,h,_⟩=>by cases h) (fun _ _ ⟨_,_,h,_⟩=>by cases h));rintro _ _ H9 Z ⟨g9,ax,h,rfl⟩;cases h;have N:=Z _ _ N;have hW:=hW.mono Z;have hV:=hV.mono Z;have G:=Z _ _ G;have O:=Z _ _ O;have hw:=hw.mono Z;have a0:=Z _ _ a0;have a6:=Z _ _ a6;refine⟨⟨(bT (bT (aN _) A) Z),aW,aX⟩,?_⟩;refine bG ⟨aW,aX,(bT (bT (aN _) A) Z)⟩ (fun ap=>?_);refine aB 12 rfl ap yQ ?_;refine AA ?_;refine dP (aJ ?_);rw[ai,ah,b6a a3 n x w]at *;refine zM ?_;exact⟨g9,ax,rfl,rfl⟩
theorem b6l h L n s (hs:s.length≤100000000) I (A:VX I h L):yS aC 251 [ptr h 0,str n,str s] I [] (fun e _ H'=>∃v,e= .returned v∧a2H (bH L n (aO s)) v H'):=
 (b4J h L n s hs I A).mono fun _ _ _ _ ⟨_,G,N,O⟩=>⟨_,N,by rw[O];exact a9Q rfl G⟩
theorem c4c{I L t xs}(A:QY I xs ((dH L t).getD []))(h:xs.find? (fun x=>decide (x.1.name=dU))=none):dV L t=[]:=by
 rw[a8O,←A.1,a0s,h];rfl
theorem c3O{I L t xs x}(A:QY I xs ((dH L t).getD []))(h:xs.find? (fun x=>decide (x.1.name=dU))=some x):dV L t=x.1.key:=by
 rw[a8O,←A.1,a0s,h];rfl
abbrev isT (x:VW):Bool:=decide (x.1.name=dU)
abbrev KN (x:List UInt8×Nat):List UInt8×Int:=(x.1,(x.2:Int))
abbrev b4N (l:List (List UInt8×Nat)) (v:Value) (H:HL):Prop:=PZ 41 AX (l.map KN) v H
def YE (n b:List UInt8) (p:iF):Bool:=decide (p.1=n) && !decide (p.2<b)
def UC (L:Ix.Ix) (n b:List UInt8) (vis:ML iF):List (List UInt8×Nat):=(vis.filter fun x=>YE n b x.1).map fun x=>(x.1.2,(dJ L n x.1.2).length)
theorem PO L n b vis x:UC L n b (vis++[x])=UC L n b vis++if YE n b x.1=true then[(x.1.2,(dJ L n x.1.2).length)]else[]:=by
 unfold UC;rw[dD,fF]
 by_cases h:YE n b x.1=true
 ·rw[zG h];simp[h]
 rw[zF h];simp[h]
theorem c2w L n b vis:(UC L n b vis).length≤vis.length:=by
 unfold UC;rw[aY];exact fK _ _
structure TB where
  vis:ML Ix.Pl
  rest:ML Ix.Pl
  g:Gs
theorem c2I{I:Heap}{b l c N f}(h:DK l c N f)(Q:∀q∈setH b l c N,I q.1=some q.2){x}(Z:x∈l):∃A m k,x.2.1= .map (some A)∧I A=some (zY AQ m k)∧MS m k∧m≠[]∧∀t,BF m t=cv (f x.1 t):=by
 have h1:kvp x∈N.map nvp:=by rw[←h.vals];exact cO Z
 obtain⟨⟨a,A,m,k⟩,G,O⟩:=bF.1 h1;have e1:a=x.1:=zD (·.1) O;have e2:Value.map (some A)=x.2.1:=zD (·.2) O;subst e1;obtain⟨g1,g2,g3⟩:=h.inn _ G;exact⟨A,m,k,e2.symm,Q (A,_) (.tail _ (bF.2 ⟨_,G,rfl⟩)),g1,g2,g3⟩
theorem b3X{l:ML iF}{c:Nat}{N:RQ iF aS}{f:iF→aS→Nat}(h:DK l c N f)(p:iF):p∈l.map (·.1)↔∃t,f p t≠0:=by
 rw[h.keys];constructor
 ·intro G;obtain⟨e,O,rfl⟩:=bF.1 G;obtain⟨_,Q,Z⟩:=h.inn e O;obtain⟨⟨t,v,n⟩,r,hr⟩:=List.exists_cons_of_ne_nil Q;refine⟨t,fun hz=>?_⟩;have A:=Z t;rw[hz]at A;have h3:BF e.2.2.1 t=none:=A;exact JC.1 h3 (by rw[hr];exact .head _)
 rintro⟨t,ht⟩;exact eH fun g=>ht (h.out p g t)
theorem keys_le{L l c N}(h:DK l c N (gJ fA L))(hs:dQ L)(Z:L.length≤100000)(hv:∀e∈L,MI e.2):l.length≤1000000000000:=by
 have G:(l.map (·.1)).length≤(L.flatMap fun e=>fA e.2).length:=by
  refine YK h.ms.1 fun p hp=>?_;obtain⟨e,A,O⟩:=(Ix.a1S hs).1 ((b3X h p).1 hp);exact List.mem_flatMap.2 ⟨e,A,O⟩
 have h2:∀M:Ix.Ix,(∀e∈M,MI e.2)→(M.flatMap fun e=>fA e.2).length≤M.length*10000000:=by
  intro M
  induction M with
  |nil=>intro _;simp
  |cons a r ih=>
   intro Q;have:=ih fun e A=>Q e (.tail _ A);have h3:=(Q a (.head _)).k;rw[List.flatMap_cons,aT,dK,Nat.add_mul];omega
 rw[aY]at G;exact KT (KT G (h2 L hv)) (Nat.mul_le_mul_right 10000000 Z)
theorem b9t{a b:List UInt8}(h:¬b<a)(A:a≠b):a<b:=Std.lt_of_le_of_ne (Std.not_lt.1 h) A
theorem c1g{L l c N}(h:DK l c N (gJ fA L))(hs:dQ L){n b vis}(hp:vis.Perm l){ls}(a1:ls.Perm ((UC L n b vis).map KN))(ho:ls.Pairwise fun p q=>¬q.1<p.1):ls=((Ix.IK L n b).map fun k=>(k,(dJ L n k).length)).map KN:=by
 have O:∀x∈vis.filter (fun x=>YE n b x.1),x.1.1=n∧¬x.1.2<b:=fun x A=>by
  have:=(fG.1 A).2;unfold YE at this;rw[Bool.and_eq_true,zH,Bool.not_eq_true',decide_eq_false_iff_not]at this;exact this
 have a4:((UC L n b vis).map (·.1)).Nodup:=by
  unfold UC;rw[dG];have G:((vis.filter fun x=>YE n b x.1).map (·.1)).Nodup:=((hp.map _).nodup_iff.2 h.ms.1).sublist (List.filter_sublist.map _);rw[dX,eF]at G ⊢;refine(dL.2 fun {x y} Z=>?_);have A:=O x (Z.subset (.head _));have hy:=O y (Z.subset (.tail _ (.head _)));have a5:=dL.1 G Z;exact fun e=>a5 (Prod.ext (A.1.trans hy.1.symm) e)
 have a0:∀x∈ls,x.2=((dJ L n x.1).length:Int):=fun x A=>by
  obtain⟨y,hy,rfl⟩:=bF.1 (a1.mem_iff.1 A);obtain⟨z,_,rfl⟩:=bF.1 hy;rfl
 have hk:(ls.map (·.1)).Perm ((UC L n b vis).map (·.1)):=by
  have:=a1.map (·.1)
  rwa [dG]at this
 have a2:Ke.Inc (ls.map (·.1)):=by
  unfold Ke.Inc;have G:=hk.nodup_iff.2 a4;rw[dX,eF]at G;rw[eF];exact(List.pairwise_and_iff.2 ⟨ho,G⟩).imp fun {x y} ⟨Q,h3⟩=>b9t Q h3
 have a3:=Ix.VD hs (n:=n) (b:=b) (ls:=ls.map fun x=>(x.1,x.2.toNat)) (by rw[dG];exact a2) (fun k=>?_) (fun x A=>?_)
 ·rw[←a3,dG]
  conv=>lhs;rw[←List.map_id ls]
  refine List.map_congr_left fun x A=>?_;have:=a0 x A;show x=(x.1,((x.2.toNat:Nat):Int));refine Prod.ext rfl ?_;show x.2=_;omega
 ·rw[dG];show k∈ls.map (·.1)↔_;rw[hk.mem_iff,←b3X h];unfold UC;rw[dG];constructor
  ·intro hm;obtain⟨x,A,rfl⟩:=bF.1 hm;obtain⟨G,Q⟩:=O x A;refine⟨Q,?_⟩;show(n,x.1.2)∈_;rw[←G,←(hp.map (·.1)).mem_iff];exact cO (fG.1 A).1
  rintro⟨G,Q⟩;rw[←(hp.map (·.1)).mem_iff]at Q;obtain⟨x,A,he⟩:=bF.1 Q;refine bF.2 ⟨x,fG.2 ⟨A,?_⟩,?_⟩
  ·unfold YE;rw[he,zI rfl,dW,zJ G];rfl
  show x.1.2=k;rw[he]
 obtain⟨y,hy,rfl⟩:=bF.1 A;have:=a0 y hy;show y.2.toNat=_;rw[this];rfl
theorem b7J ib mb m k0 wm km L t I (a8:MI ((dH L t).getD []))(a4:I ib=some (yZ 121 [.map (some mb),.map wm,.map km]))(a5:I mb=some (zY AQ m k0))(ag:MS m k0)(a9:WJ I m L):Pure aC 143 [ptr ib 0,AQ t] I (str (dV L t)):=by
 refine aP ?_;obtain⟨vv,Z,xs,a0,hX⟩:=a9.at t;have ah:=hX.len;have ai:=a8.1;refine yS.ob func143 ?_;intro w0 _;refine Cj.sr (aG rfl (BG ?_));intro _ _;refine aA yQ ?_;refine J.zX (aF (aA yP ?_));refine aA (OV TY) ?_;refine J.c0 (fun _=>?_);refine Cj.ks (aZ (bP [0] [] 8 kR ?_));have a2:=a4;have a3:=a5;refine bG ⟨(bV 0 rfl aW),aX,(aN _)⟩ (fun G=>?_);refine aB 0 rfl G yP ?_;refine aB 1 rfl G zQ ?_;refine aB 2 rfl G (qq2 (off':=0) CZ GN) ?_;refine aB 3 rfl G (yV QB (aI a2)) ?_;refine aB 4 rfl G (zW DJ AL (gQ 0 rfl)) ?_;refine aB 5 rfl G (IV (kv:=AQ) (l:=m) (a:=t) QF FU a0a (aI a3)) ?_;refine iK 13 rfl (show _=vv from Z) ?_;refine zO 6 rfl (yU rfl rfl rfl rfl rfl (ZJ xs _ isT _ [] oM _ a0.row hX.2 (fun x hx=>by obtain⟨p9,c9,Q⟩:=NT (hX.2 x hx);exact c0I x p9 _ c9 Q _)) ?_);refine⟨⟨(aN _),(bV 0 rfl aW),aX⟩,?_⟩;refine bG ⟨(bV 0 rfl aW),aX,(aN _)⟩ (fun aa=>?_);refine aB 7 rfl aa yQ ?_;refine AA ?_;refine dP (aZ (Cj.sr (aA yP ?_)));refine aA AV ?_;refine J.cd (fun O=>?_) (fun O=>?_)
 ·have a6:=BH O;have N:xs.find? isT=none:=((QG isT xs).resolve_right (fun⟨k,x,h,_⟩=>by have Q:=BH O;rw[h]at Q;omega)).2;refine Cj.sr (aA yQ ?_);refine J.ns (Cj.rs (bM ?_));refine zM ?_;rw[c4c hX N];exact rT
 have a6:=BJ O;obtain⟨k,x,ab,a1,N⟩:=(QG isT xs).resolve_left (fun h=>by have Q:=BJ O;rw[h.1]at Q;exact Q dE);have a7:=(aU.1 a1).1;obtain⟨_,ac,ad,_,ae⟩:=id a0;rw[ad]at Z ⊢;obtain⟨rb,_,rfl,af⟩:=ae (zT a7);rw[ab];refine Cj.ks (aZ (bP [0] [] 11 kR ?_));refine bG ⟨(bV 0 rfl aW),aX,(aN _)⟩ (fun A=>?_);refine aB 0 rfl A yP ?_;refine aB 1 rfl A zQ ?_;refine aB 2 rfl A (qq2 (off':=0) CZ GN) ?_;refine aB 3 rfl A (yV QB (aI a4)) ?_;refine aB 4 rfl A (zW DJ AL (gQ 0 rfl)) ?_;refine aB 5 rfl A (IV (kv:=AQ) (l:=m) (a:=t) QF FU a0a (aI a5)) ?_;refine iK 22 rfl (show _= .slice (some ⟨rb,0,none⟩) xs.length ac from Z) ?_;refine aB 6 rfl A yP ?_;refine aB 7 rfl A (AU (off':=0+k*3) OM MN) ?_;refine aB 8 rfl A (qq2 (off':=0+k*3+1) WM zS) ?_;refine aB 9 rfl A (II rfl rfl BR (aI af) (JB a0q (o:=0) rfl a1 1 dE)) ?_;refine aB 10 rfl A yQ ?_;refine AA ?_;refine dP (aJ (bM ?_));refine zM ?_;rw[c3O hX N];exact rT
theorem b6M N Z km t I (O:I N=some (yZ 121 [.map none,.map Z,.map km])):Pure aC 143 [ptr N 0,AQ t] I (str []):=by
 refine aP ?_;refine yS.ob func143 ?_;intro w0 _;refine Cj.sr (aG rfl (BG ?_));intro _ _;refine aA yQ ?_;refine J.zX (aF (aA yP ?_));refine aA (OV TY) ?_;refine J.c0 (fun _=>?_);refine Cj.ks (aZ (bP [0] [] 8 kR ?_));have A:=O;refine bG ⟨(bV 0 rfl aW),aX,(aN _)⟩ (fun h=>?_);refine aB 0 rfl h yP ?_;refine aB 1 rfl h zQ ?_;refine aB 2 rfl h (qq2 (off':=0) CZ GN) ?_;refine aB 3 rfl h (yV QB (aI A)) ?_;refine aB 4 rfl h (zW DJ AL (gQ 0 rfl)) ?_;refine aB 5 rfl h (MF (kv:=AQ) (a:=t) rfl rfl rfl rfl QF FU a0a) ?_;refine zO 6 rfl (yU rfl rfl rfl rfl rfl (ZJ [] _ isT _ [] dE _ zN.nil (fun x G=>by cases G) (fun x G=>by cases G)) ?_);refine⟨⟨(aN _),(bV 0 rfl aW),aX⟩,?_⟩;refine iK 14 rfl (show _=i64 (-1) from rfl) ?_;refine bG ⟨(bV 0 rfl aW),aX,(aN _)⟩ (fun Q=>?_);refine aB 7 rfl Q yQ ?_;refine AA ?_;refine dP (aZ (Cj.sr (aA yP ?_)));refine aA AV ?_;refine J.c1 (fun _=>?_);refine Cj.sr (aA yQ ?_);refine J.ns (Cj.rs (bM ?_));refine zM ?_;exact rT
theorem c0Q h L t I (A:VX I h L):Pure aC 143 [ptr h 0,AQ t] I (str (dV L t)):=by
 obtain⟨_,G,N,O,hV,-,-⟩:=A.parts;rcases hV with⟨rfl,rfl⟩|⟨b,l,c,rfl,Q,Z,hb⟩
 ·exact b6M h G N t I O
 exact b7J h b l c G N L t I (a8P A t) O hb Q Z
theorem a7U a n c (h:n≤c) I:Pure aC 51 [.slice a n c] I (.slice a n n):=by
 refine aP ?_;refine yS.ob func51 ?_;intro w0 _;refine Cj.sr (aA yQ ?_);refine J.yX (aA yP ?_);refine aA yP ?_;refine aA (zZ CP) ?_;refine aA yP ?_;refine aA (zZ CP) ?_;refine aA (a8Z (k:=n) (m:=n) rfl rfl rfl rfl CP CQ (bZ _) h) ?_;refine aA yQ ?_;refine J.ns (aJ (zM ?_));exact rT
theorem b6u{α:Type}{T:TypeId}{f:α→List Value}{l:List α}{v:Value}{H:HL}(h:PZ T f l v H):∃a c,v= .slice a l.length c∧l.length≤c:=by
 rcases h with⟨rfl,rfl,rfl⟩|⟨b,c,sp,rfl,A,rfl⟩
 ·exact⟨none,0,rfl,bZ _⟩
 exact⟨_,c,rfl,A⟩
theorem b1x{α:Type}{T:TypeId}{f:α→List Value}{l:List α}{a:Option Addr}{c:Nat}{H:HL}(h:PZ T f l (.slice a l.length c) H){k:Nat}(G:k≤l.length):PZ T f (l.take k) (.slice a k k) H:=by
 rcases h with⟨rfl,A,rfl⟩|⟨b,c,sp,A,N,rfl⟩
 ·cases A;have:k=0:=by simpa using G
  subst this;exact .inl rT
 cases A;refine .inr ⟨b,k,(l.drop k).flatMap f++sp,by rw[bJ,fD G],by rw[bJ];omega,?_⟩;rw[←dZ,←cZ,fJ]
theorem b9I{L n s A ls a c v H}(G:ls=((Ix.IK L n (aH n s)).map fun k=>(k,(dJ L n k).length)).map KN)(h:PZ 41 AX ls v H)(O:v= .slice a ls.length c):b4N (gW L n s A) (.slice a (min ls.length A.toNat) (min ls.length A.toNat)) H:=by
 subst O;have N:=b1x h (fH ls.length A.toNat);have Q:ls.take (min ls.length A.toNat)=(gW L n s A).map KN:=by
  rw[←Ix.a8J,List.map_take,←G];rcases Nat.le_total ls.length A.toNat with g|g
  ·rw[fD g,List.take_length,aK g]
  rw[Nat.min_eq_right g]
 rw[Q]at N;exact N
theorem c1Y{L}(hs:dQ L){m k}(O:MS m k){p}(N:∀t,BF m t=cv (gJ fA L p t)){n}(hn:p.1=n):((m.length:Nat):Int)=((dJ L n p.2).length:Int):=by
 subst hn;have h:=Ix.c0U hs (n:=p.1) (k:=p.2) (ts:=m.map (·.1)) O.1 fun t=>by
  constructor
  ·intro G;have A:BF m t≠none:=fun g=>JC.1 g G;rw[N]at A;exact fun g=>A (by rw[show gJ fA L p t=0 from g];rfl)
  intro G;refine eH fun g=>?_;have A:=JC.2 g;rw[N,b7u G]at A;cases A
 rw[aY]at h;rw[h]
theorem a7j(n:Nat) h:(if (if (0:Int)>h then(0:Int)else h)<(n:Int)then(if (0:Int)>h then(0:Int)else h)else(n:Int))=((min n h.toNat:Nat):Int):=by
 repeat(first|omega|split)
theorem b6Q ib kb vm wm l c N L n s (hs:s.length≤100000000) O I (a0:dQ L)(hN:DK l c N (gJ fA L))(ar:l.length≤1000000000000)(ah:I ib=some (yZ 121 [.map vm,.map wm,.map (some kb)]))(hI:∀q∈setH kb l c N,I q.1=some q.2):yS aC 258 [ptr ib 0,str n,str s,i64 O] I [] (fun e _ H'=>∃v,e= .returned v∧b4N (gW L n s O) v H'):=by
 have a1:I kb=some (zY IE l c):=hI (kb,_) (.head _);refine yS.ob func258 ?_;intro w0 _;refine Cj.sr (aA yQ ?_);refine J.zX (aF (aA yP ?_));refine aA (OV TY) ?_;refine J.c0 (fun _=>?_);refine Cj.ks (Cj.sr (aA yP ?_));refine aA yP ?_;refine aG rfl (yU rfl rfl rfl rfl rfl (a5R n s hs _) ?_);refine aA yQ ?_;refine J.yX (aA yQ ?_);refine J.zX (aF (aA yP ?_));refine aA zQ ?_;refine aA (qq2 (off':=2) CZ CB) ?_;refine aA (yV isAgg119 (bK ah)) ?_;refine aG rfl (MW (kv:=IE) (l:=l) rfl rfl rfl rfl LG (bK a1) ?_);intro b2 _;refine J.ns (aV (eP (ι:=TB) (fun y=>(y.vis++y.rest).Perm l∧BM w0.heap.size 2 (UC L n (aH n s) y.vis).length (((UC L n (aH n s) y.vis).map KN).flatMap AX) y.g) (fun y=>y.rest.length) (fun y=>[(1,str n),(3,i64 O),(9,str (aH n s)),(10,gV (UC L n (aH n s) y.vis).length y.g),(22,ptr b2 0)]) (fun y=>_) (fun y=>(b2,XB kb c y.vis c)::gH 41 (((UC L n (aH n s) y.vis).map KN).flatMap AX) y.g) ⟨[],l,none⟩ ⟨.refl _,rfl,rfl⟩ rT rfl rfl ?_));rintro⟨vis,rest,g⟩ ⟨hp,hg⟩;dsimp only at hp hg ⊢;have ae:=hp.length_eq;rw[aT]at ae;have au:=c2w L n (aH n s) vis;refine Cj.sr (aG rfl (OD (kv:=IE) (l:=l) 0 rfl rfl rfl rfl rfl (bK a1) hN.ms.2.2 (bZ _) hN.ms.2.1 hp ?_ ?_))
 ·rintro x Q H9 a2 Z ⟨-,hset⟩;simp only[gG,gI]at hset;subst hset;obtain⟨mb,m,k,ai,aj,ak,_,al⟩:=c2I hN hI (Z.mem_iff.1 (fQ _ (fM _ (.head _))));refine aA AZ ?_;refine J.nss (dR rfl (fun a8=>?_) (fun a8=>bU (iM (Eq.symm rfl) a8)));refine Cj.ks (aV (Cj.sr (aA (RJ (kv:=IE) (l:=l) rfl rfl (yR.at 0 rfl) (bK a1) (Z.mem_iff.1 (fQ _ (fM _ (.head _)))) hN.ms.2.1) ?_)));refine aA AZ ?_;refine aA AZ ?_;refine eG 27 rfl (show _= .map (some mb) from ai) ?_;refine aG rfl (CU a4u ?_);intro _ _;refine aG rfl (AB 0 KF (bC (bC bW)) gB ?_);refine aA yQ ?_;refine J.yX (aA (qq2 (off':=0) a0c zS) ?_);refine aA (yV BR (yR.at 0 rfl)) ?_;refine aA yP ?_;refine aA IW ?_;refine aA yP ?_;refine J.split 32 rfl (fun A=>?_) (fun A=>?_)
  rotate_left
  ·have af:=DU A;have G:¬YE n (aH n s) x.1=true:=by unfold YE;rw[zJ (DU A)];exact Bool.false_ne_true
   refine AP 4 32 33 true A ?_;refine AP 4 32 34 true A ?_;refine AP 4 32 35 true A ?_;refine AP 4 32 36 true A ?_;refine aA (ED A) ?_;refine J.c0 (fun _=>?_);refine Cj.skip (gK (dN (eU (gU iJ)) ?_));refine bQ ⟨vis++[x],Q,g⟩ ⟨Z,by dsimp only;rw[PO,zF G,aQ];exact hg⟩ (by have h:=a2.length_eq;simp only[dK]at h;dsimp only;omega) ⟨rfl,rfl,rfl,by dsimp only;rw[PO,zF G,aQ];rfl,rfl,trivial⟩ rfl (by dsimp only;rw[PO,zF G,aQ])
  have af:=DF A;have a3:x.1.1=n:=DF A;refine zU 4 32 true A (zK (qq2 (off':=1) a0c zS) ?_);refine zU 4 32 true A (zK (yV BR (yR.at 0 rfl)) ?_);refine zU 4 32 true A (zK yP ?_);refine zU 4 32 true A (zK (b6U rfl rfl rfl) ?_);refine aA (EO A) ?_;refine J.cd (fun a4=>?_) (fun a4=>?_)
  ·have G:YE n (aH n s) x.1=true:=by unfold YE;rw[zI a3,dW];exact a4
   refine aF (aA yP ?_);refine aA (qq2 (off':=1) a0c zS) ?_;refine aA (yV BR (yR.at 0 rfl)) ?_;refine aA yP ?_;refine aA (PG (kv:=AQ) (l:=m) rfl rfl JJ (bK aj)) ?_;refine eG 42 rfl (show _=i64 ((dJ L n x.1.2).length:Int) from(zD i64 (c1Y a0 ak al a3))) ?_;refine aA (BD (pl:= #[(0,1),(1,1)]) rfl rfl GL rfl LY (fun w=>by simp[BO,zS]) (dF rfl rfl rfl (bC bW) (dF rfl rfl rfl (iL (bC bW)) fE))) ?_;refine aG rfl (BQ CP CQ GL (IC.agg rfl IC.none) ?_);intro _ _;refine aG rfl (BI (by':=23) [_,_,_] rfl rfl rfl rfl rfl CP (.inr ⟨_,CP⟩) kR CQ GL rfl hg rfl (Src.slice (yR.at 0 rfl) rfl rfl rfl) oM ?_);intro g8 am;refine aA yQ ?_;refine fP (gK (dN (eU (eU (gU iJ))) ?_));refine bQ ⟨vis++[x],Q,g8⟩ ⟨Z,by dsimp only;rw[PO,zG G,aT,fF,cZ];exact am⟩ (by have h:=a2.length_eq;simp only[dK]at h;dsimp only;omega) ⟨rfl,rfl,rfl,by dsimp only;rw[PO,zG G,aT];rfl,rfl,trivial⟩ rfl (by dsimp only;rw[PO,zG G,fF,cZ];rfl)
  have G:¬YE n (aH n s) x.1=true:=by unfold YE;rw[zI a3,dW];exact fun e=>bU (e.symm.trans a4)
  refine Cj.skip (gK (dN (eU (gU iJ)) ?_));refine bQ ⟨vis++[x],Q,g⟩ ⟨Z,by dsimp only;rw[PO,zF G,aQ];exact hg⟩ (by have h:=a2.length_eq;simp only[dK]at h;dsimp only;omega) ⟨rfl,rfl,rfl,by dsimp only;rw[PO,zF G,aQ];rfl,rfl,trivial⟩ rfl (by dsimp only;rw[PO,zF G,aQ])
 intro ag;refine aA AZ ?_;refine J.nss (dR rfl (fun a5=>bU (iM (Eq.symm rfl) a5)) (fun a5=>?_));refine Cj.xl (aZ ?_);have an:vis.Perm l:=by rw[ag,aQ]at hp;exact hp
 have a9:BM w0.heap.size 2 ((UC L n (aH n s) vis).map KN).length (((UC L n (aH n s) vis).map KN).flatMap AX) g:=by rw[aY];exact hg
 refine aF (aA yP ?_);refine eG 46 rfl (show _=gV ((UC L n (aH n s) vis).map KN).length g from(by rw[aY])) ?_;refine aG rfl (FB (H1:=gH 41 (((UC L n (aH n s) vis).map KN).flatMap AX) g) [_] rfl rfl rfl rfl rfl rfl (a5f ((UC L n (aH n s) vis).map KN) g a9 (by rw[aY];omega) _) ?_ (fun _ _ _ _ ⟨_,_,_,h,_⟩=>by cases h) (fun _ _ ⟨_,_,_,h,_⟩=>by cases h));rintro _ _ H9 _ ⟨ls,aa,ao,h,rfl⟩;cases h;have ap:=c1g hN a0 an aa ao;have a6:((UC L n (aH n s) vis).map KN).length=ls.length:=aa.length_eq.symm;have aq:BM w0.heap.size 2 ls.length (ls.flatMap AX) g:=by rw[←a6];exact TK a9 (by rw[BP BL,BP BL,a6])
 refine J.nss ?_;obtain⟨a7⟩:Nonempty (PZ 41 AX ls (gV ls.length g) (gH 41 (ls.flatMap AX) g)):=⟨PZ.c0x BL dE rfl aq⟩;obtain⟨sa,sc,ab,ac⟩:∃a c,gV ls.length g= .slice a ls.length c∧ls.length≤c:=b6u a7;have ad:gV (UC L n (aH n s) vis).length g= .slice sa ls.length sc:=by rw[←ab,←a6,aY]
 refine aF (aA yP ?_);refine eG 48 rfl (show _= .slice sa ls.length sc from ad) ?_;refine aA yP ?_;refine eG 49 rfl (show _= .slice sa ls.length sc from ad) ?_;refine aA (zZ CP) ?_;refine aA yP ?_;refine aA (KE rfl rfl rfl) ?_;refine aA (OZ rfl rfl rfl) ?_;refine eG 53 rfl (show _=i64 ((min ls.length O.toNat:Nat):Int) from(zD i64 (a7j _ _))) ?_;refine aA (JI (k:=(min ls.length O.toNat)) rfl rfl rfl CP CQ rfl (KT (fH _ _) ac)) ?_;refine aG rfl (yU rfl rfl rfl rfl rfl (a7U sa (min ls.length O.toNat) sc (KT (fH _ _) ac) _) ?_);refine aA yQ ?_;refine J.ns (aJ (dN (H':=gH 41 (ls.flatMap AX) g) (List.sublist_append_right [_] _) ?_));refine zM ?_;exact⟨_,rfl,b9I ap a7 ab⟩
theorem b7K N vm wm n s (hs:s.length≤100000000) A I (O:I N=some (yZ 121 [.map vm,.map wm,.map none])):yS aC 258 [ptr N 0,str n,str s,i64 A] I [] (fun e _ H'=>e= .returned (.slice none 0 0)∧H'=[]):=by
 refine yS.ob func258 ?_;intro w0 _;refine Cj.sr (aA yQ ?_);refine J.zX (aF (aA yP ?_));refine aA (OV TY) ?_;refine J.c0 (fun _=>?_);refine Cj.ks (Cj.sr (aA yP ?_));refine aA yP ?_;refine aG rfl (yU rfl rfl rfl rfl rfl (a5R n s hs _) ?_);refine aA yQ ?_;refine J.yX (aA yQ ?_);refine J.zX (aF (aA yP ?_));refine aA zQ ?_;refine aA (qq2 (off':=2) CZ CB) ?_;refine aA (yV isAgg119 (bK O)) ?_;refine aG rfl (OI rfl rfl rfl rfl LG ?_);intro _ _;refine J.ns (aV (Cj.rounds 1 ?_));refine Rj.succ ?_;refine Cj.sr (aG rfl (QD 0 rfl rfl rfl rfl rfl ?_));refine aA AZ ?_;refine J.nss (dR rfl (fun G=>bU (iM (Eq.symm rfl) G)) (fun G=>?_));refine Cj.exit (Ej.JE (Ej.JE (Ej.JM (dP (Cj.sr (aA yP ?_))))));refine aG rfl (FB (H1:=[]) [_] rfl rfl rfl rfl rfl rfl (a5f (base:=0) [] none rT dE _) ?_ (fun _ _ _ _ ⟨_,_,_,h,_⟩=>by cases h) (fun _ _ ⟨_,_,_,h,_⟩=>by cases h));rintro _ _ _ _ ⟨ts,Q,_,h,rfl⟩;cases h;have Z:=Q.eq_nil;subst Z;refine J.yX (aA yP ?_);refine aA yP ?_;refine aA (zZ CP) ?_;refine aA yP ?_;refine aA (KE rfl rfl rfl) ?_;refine aA (OZ rfl rfl rfl) ?_;refine eG 53 rfl (show _=i64 ((0:Nat):Int) from(zD i64 (a7j 0 A |>.trans (by rw[Nat.zero_min])))) ?_;refine aA (JI (k:=0) rfl rfl rfl CP CQ rfl (bZ _)) ?_;refine aG rfl (yU rfl rfl rfl rfl rfl (a7U none 0 0 (bZ _) _) ?_);refine aA yQ ?_;refine J.ns (aJ (bM ?_));refine zM ?_;exact rT
theorem b6O{L}(hs:dQ L)(hz:∀p t,gJ fA L p t=0) n s A:gW L n s A=[]:=by
 have h:=Ix.VD hs (n:=n) (b:=aH n s) (ls:=[]) List.Pairwise.nil (fun k=>⟨fun h=>(by cases h),fun⟨_,t,G⟩=>absurd (hz _ t) G⟩) (fun x N=>by cases N);rw[←Ix.a8J,←h,List.take_nil]
theorem c2Z G L n s (hs:s.length≤100000000) h I (A:VX I G L):yS aC 258 [ptr G 0,str n,str s,i64 h] I [] (fun e _ H'=>∃v,e= .returned v∧b4N (gW L n s h) v H'):=by
 obtain⟨Q,Z,_,hI,-,-,hK⟩:=A.parts;have hv:∀e∈L,MI e.2:=by
  obtain⟨o,O,_⟩:=A;cases o with
  |none=>rw[show L=[] from O];intro e he;cases he
  |some s=>exact JH.vok O
 rcases hK with⟨rfl,hz⟩|⟨b,l,c,N,rfl,hN,hq⟩
 ·rw[b6O A.KQ hz];exact(b7K G Q Z n s hs h I hI).mono fun e _ H' _ ⟨O,h2⟩=>⟨_,O,.inl ⟨rfl,rfl,h2⟩⟩
 exact b6Q G b Q Z l c N L n s hs h I A.KQ hN (keys_le hN A.KQ A.big hv) hI hq
theorem b9l n s (hs:s.length≤100000000) I:yS aC 290 [.pointer none,str n,str s] I [] (fun e _ H'=>e= .returned (.slice none 0 0)∧H'=[]):=by
 refine yS.ob func290 ?_;intro w0 _;refine Cj.sr (aA yQ ?_);refine J.yX (aA yP ?_);refine aG rfl (yT (H1:=[]) rfl rfl rfl rfl rfl (VF s oM _) ?_ (fun _ _ _ _ ⟨_,h,_⟩=>by cases h) (fun _ _ ⟨_,h,_⟩=>by cases h));intro _ _ _ _ A;obtain⟨_,h,G,rfl⟩:=A;cases h;obtain⟨wp,_,rfl⟩:=NT G;refine aA yQ ?_;refine J.zX (aF (aA yP ?_));refine aA (OV TY) ?_;refine aA yP ?_;refine EJ 2 12 13 false ?_;refine EJ 2 12 14 false ?_;refine EJ 2 12 15 false ?_;refine aA (EH rfl rfl rfl rfl) ?_;refine J.c1 (fun _=>?_);refine Cj.sr (aA yQ ?_);refine J.ns (Cj.rs (zM ?_));exact rT
theorem b6c n s (hs:s.length≤100000000) I:yS aC 251 [.pointer none,str n,str s] I [] (fun e _ H'=>e= .returned (.slice none 0 0)∧H'=[]):=by
 refine yS.ob func251 ?_;intro w0 _;refine Cj.sr (aG rfl (BG ?_));intro _ _;refine aG rfl (BG ?_);intro _ _;refine aA yQ ?_;refine J.yX (aA yP ?_);refine aG rfl (yT (H1:=[]) rfl rfl rfl rfl rfl (VF s oM _) ?_ (fun _ _ _ _ ⟨_,h,_⟩=>by cases h) (fun _ _ ⟨_,h,_⟩=>by cases h));intro _ _ _ _ A;obtain⟨_,h,G,rfl⟩:=A;cases h;obtain⟨wp,_,rfl⟩:=NT G;refine aG rfl (CU b5V ?_);intro _ _;refine aG rfl (AB 0 KR (bC bW) gB ?_);refine J.zX (aF (aA (yV KJ (yR.at 2 rfl)) ?_));refine aA (OV TY) ?_;refine aA yP ?_;refine EJ 2 12 13 false ?_;refine EJ 2 12 14 false ?_;refine EJ 2 12 15 false ?_;refine aA (EH rfl rfl rfl rfl) ?_;refine J.c1 (fun _=>?_);refine Cj.sr (aA yQ ?_);refine J.ns (Cj.rs (bM ?_));refine zM ?_;exact rT
theorem c3T n s I:yS aC 249 [.pointer none,str n,str s] I [] (fun e _ H'=>e= .returned (.slice none 0 0)∧H'=[]):=by
 refine yS.ob func249 ?_;intro w0 _;refine Cj.sr (aA yQ ?_);refine J.zX (aF (aA yP ?_));refine aA (OV TY) ?_;refine J.c1 (fun _=>?_);refine Cj.sr (aA yQ ?_);refine J.ns (Cj.rs (zM ?_));exact rT
theorem c0A n s h I:yS aC 258 [.pointer none,str n,str s,i64 h] I [] (fun e _ H'=>e= .returned (.slice none 0 0)∧H'=[]):=by
 refine yS.ob func258 ?_;intro w0 _;refine Cj.sr (aA yQ ?_);refine J.zX (aF (aA yP ?_));refine aA (OV TY) ?_;refine J.c1 (fun _=>?_);refine Cj.sr (aA yQ ?_);refine J.ns (Cj.rs (zM ?_));exact rT
theorem c0k t I:Pure aC 143 [.pointer none,AQ t] I (str []):=by
 refine aP ?_;refine yS.ob func143 ?_;intro w0 _;refine Cj.sr (aG rfl (BG ?_));intro _ _;refine aA yQ ?_;refine J.zX (aF (aA yP ?_));refine aA (OV TY) ?_;refine J.c1 (fun _=>?_);refine Cj.sr (aA yQ ?_);refine J.ns (Cj.rs (bM ?_));refine zM ?_;exact rT
abbrev WB (e:Ent):aS×List Ix.V:=(e.t,Ix.vals e.fs)
theorem a6Q{A:List Ent}{i e}(h:A[i]?=some e):dM ((A.take (i+1)).map WB) []=Ix.QN e.t (Ix.vals e.fs) (dM ((A.take i).map WB) []):=by
 rw[a9V WB h];unfold dM;rw[List.foldl_append];rfl
def YM (I:Heap) (es:List Ent) (v:Value):Prop:=zN a0S I es v∧∀e∈es,QS I e.fs e.v
theorem YM.mono{I G N v}(h:YM I N v)(A:Le I G):YM G N v:=⟨h.1.mono A,fun e O=>(h.2 e O).mono A⟩
structure BA where
  i:Nat
  J:Heap
  o:Option Ist
theorem b3A{e p n c}(h:e.v= .slice p n c):(a0S e).all Value.oneCell'=true:=by unfold a0S;rw[h];rfl
theorem b9u A v (ae:A.length≤1000)(a9:∀e∈A,EOK e.fs) I (a3:YM I A v):yS aC 37 [v] I [] (fun e I' H'=>∃ib o,e= .returned (ptr ib 0)∧ZP I' o (dM (A.map WB) [])∧H'=ixH ib o):=by
 obtain⟨p,c,rfl,_,-⟩:=id a3.1;refine yS.ob func37 ?_;intro w0 _;refine Cj.sr (aA yQ ?_);refine J.yX (aA (BD (pl:= #[(0,1),(1,1),(2,1)]) rfl rfl zeroValue121 rfl CZ (fun w=>by simp[GN,CB]) fE) ?_);refine aG rfl (BG ?_);intro b1 _;refine aA yQ ?_;refine J.zX (aF (aA yP ?_));refine aA (zZ a8k) ?_;refine aA yP ?_;refine J.ns (aV (eP (ι:=BA) (fun y=>y.i≤A.length∧Le I y.J∧ZP y.J y.o (dM ((A.take y.i).map WB) [])∧(dM ((A.take y.i).map WB) []).length≤y.i) (fun y=>A.length-y.i) (fun y=>[(3,ptr b1 0),(8,.slice p A.length c),(9,i64 (A.length:Int)),(10,i64 (y.i:Int))]) (fun y=>y.J) (fun y=>ixH b1 y.o) ⟨0,_,none⟩ ⟨bY _,aN _,rfl,bZ _⟩ rT rfl rfl ?_));rintro⟨i,_,o⟩ ⟨hi,Z,N,a6⟩;dsimp only at hi Z N a6 ⊢;have hE:=a3.mono Z;refine Cj.sr (aA AV ?_);refine J.nss (dR rfl (fun a1=>?_) (fun a1=>?_))
 ·have a7:=BH a1;have a4:i<A.length:=oM;obtain⟨e0,O⟩:∃e,A[i]?=some e:=⟨_,DC a4⟩;have a5:=FQ O;obtain⟨⟨p1,c1,aa,_,hp⟩,a0⟩:=id hE;cases aa;obtain⟨_,eo,_,_,_,_,rfl,a2,ab⟩:=hp (zT a4);have Q:=a0 e0 a5;clear a0;obtain⟨_,_,ac,-,-⟩:=id Q.1;refine Cj.ks (aZ (aV (Cj.sr (aA (AU (off':=eo+i*5) a8k YG) ?_))));refine aA (FN isAgg51 YG (bK a2) (DN b1X ab O)) ?_;refine aG rfl (CU a6f ?_);intro _ _;refine aG rfl (EN 0 rfl rfl rfl rfl rfl (b3A ac) YG rfl rfl (bC (bC (bC (bC (bC bW))))) gB ?_);refine J.GI (aA yP ?_);refine aA (zW isAgg51 YG (yR.at 0 rfl)) ?_;refine aG rfl (FB (H1:=ixH _ _) [_] rfl rfl rfl rfl rfl rfl (c4p b1 o (dM ((A.take i).map WB) []) e0 _ N oM (a9 e0 a5) Q) ?_ (fun _ _ _ _ ⟨_,h,_⟩=>by cases h) (fun _ _ ⟨_,h,_⟩=>by cases h));intro _ _ _ G ad;have hE:=hE.mono G;have N:=N.mono G;have Z:=Z.mono G;have a2:=G _ _ a2;have Q:=Q.mono G;obtain⟨o1,h,a8,rfl⟩:=ad;cases h;refine J.nb (aF (aA (yY rfl rfl rfl (zV oM)) ?_));refine aA yP ?_;refine fP (dN (eU iJ) ?_);refine bQ ⟨i+1,_,o1⟩ ⟨dO,Z,by dsimp only;rw[a6Q O];exact a8,by dsimp only;rw[a6Q O];have:=a5Q e0.t (Ix.vals e0.fs) (dM ((A.take i).map WB) []);omega⟩ dO rT rfl rfl
 have a7:=BJ a1;rw[aK (oM:A.length≤i)]at N;refine Cj.xl (Cj.sr (aA yP ?_));refine aA yQ ?_;refine J.ns (aJ (zM ?_));exact⟨_,o,rfl,N,rfl⟩
