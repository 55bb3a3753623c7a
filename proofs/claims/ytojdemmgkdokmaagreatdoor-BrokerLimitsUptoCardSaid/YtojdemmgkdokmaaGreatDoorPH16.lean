/-
  Own texts on the laws of the seat, joined: the logic, and contracts of functions. Conditions: none.
-/
import Derived.Test.YtojdemmgkdokmaaGreatDoorNmH
import Derived.Test.YtojdemmgkdokmaaGreatDoorPH15
set_option linter.all false
set_option maxRecDepth 100000
set_option maxHeartbeats 40000000
open Go.Sx.J renaming z -> aA,op -> aB,nil -> fK,persist -> fU,eqv -> gG,a5B -> iD
open Go.Proofs.Tryz renaming prog -> aC
open Go.Sx.Cj renaming region -> aF,block -> aO,ret -> aT,persist -> aY,cond -> bH,seq -> bK,loop -> dU,FT -> fO,exit -> gZ,skip -> iC,rounds -> iG,b0Z -> iP
open Go.Sx.yR renaming TS -> aG,TN -> dW
open Go.Sx.Keeps renaming k -> aH,d -> aJ,n -> aQ
open Go.Sx.Le renaming trans -> aI,refl -> bD
open List renaming length_map -> aK,mem_singleton -> aU,take_of_length_le -> aX,mem_map_of_mem -> bC,pairwise_iff_forall_sublist -> bJ,append_nil -> bM,length_append -> bP,length_cons -> bU,flatMap_append -> cO,mem_map -> dB,take_succ_eq_append_getElem -> dJ,mem_append_right -> dL,length_filter_le -> dP,mem_append_left -> dS,length -> dX,set_cons_zero -> dZ,set_cons_succ -> eF,nodup_iff_pairwise_ne -> eH,getElem?_eq_some_iff -> eU,flatMap_map -> eY,length_take -> fA,length_eq_zero_iff -> fF,map_append -> fG,not_lt -> fH,toArray -> fV,pairwise_map -> gI,mem_flatMap -> gJ,not_mem_nil -> gQ,le_antisymm -> gU,lt_irrefl -> iE,mem_cons -> iI,map_map -> iL,all_map -> iM
open Go.Sx.JA renaming tk -> aN,fix -> fD,a5B -> iQ
open Go.Sx.Ej renaming keep -> aP,bare -> bI,round -> cZ,KH -> dD,FN -> dR,seq -> eX,LC -> fM,QL -> fZ,LM -> gB
open Ke renaming words -> aS,TY -> fP,a2y -> iH
open Bool renaming noConfusion -> aV,and_true -> dI,and_eq_true -> dK,eq_false_iff -> eP,or_false -> iJ
open Ix renaming sat -> aW,keyOf -> bF,IZ -> bG,word -> bZ,scan -> dG,Rec -> dH,phrase -> dN,LY -> dV,keyed -> fC,TOK -> fQ,MN -> gX,a8s -> iO
open Go.Sx.AV renaming z -> aZ,s -> fJ
open Nat renaming le_refl -> bQ,zero_le -> bY,lt_succ_self -> gK
open Go.Sx.zM renaming c -> bT,z -> dY
open Go.Sx.HSub renaming n -> bV,c -> gY
open Go.Sx.CSub renaming n -> bW
open Eq renaming trans -> dA,symm -> dM
open Go.Sx.yT renaming toPure -> dF
open Go.Sx.IK renaming text -> dQ
open Go.Sx.CG renaming none -> eG,one -> fB
open Cq renaming relations -> fE
open Go.Value renaming bool -> gW
open Go.Sx.zY renaming of -> iF
open Go.Proofs.YtojdemmgkdokmaaGreatDoor.JQ renaming nil -> iK
open Go.Sx.Enters renaming of -> iR
namespace Go.Proofs.YtojdemmgkdokmaaGreatDoor
open _root_.Go.Proofs.Tryz
open Go Go.Sx
structure TC where
  vis:ML Ix.Rec
  rest:ML Ix.Rec
  l:ML Ix.Rec
  c:Nat
theorem a5p ls v (ag:ls.length≤1000000000000)(a5:∀x∈ls,x.1.length≤1000000) I (a8:LLS I ls v):yT aC 128 [v] I [] (fun e _ H'=>∃w,e= .returned w∧a0P w (VQ (ls.flatMap (·.1))) H'):=by
 obtain⟨⟨p,c,rfl,_,hp⟩,a9⟩:=a8;refine yT.ob func128 ?_;intro w0 _;refine Cj.sr (aA yQ ?_);refine J.yV (aB rfl (CB rfl rfl rfl ?_));intro O _;refine aA yQ ?_;refine J.AO (aF (aA yP ?_));refine aA (AU PL) ?_;refine aA yP ?_;refine J.ns (aO (dU (ι:=Nat×ML dH×Nat) (fun y=>y.1≤ls.length∧JQ y.2.1 y.2.2 (VQ ((ls.take y.1).flatMap (·.1)))) (fun y=>ls.length-y.1) (fun y=>[(3,.map (some O)),(9,.slice p ls.length c),(10,i64 (ls.length:Int)),(11,i64 (y.1:Int))]) (fun y=>_) (fun y=>[(O,BD BI y.2.1 y.2.2)]) (0,[],0) ⟨bY _,iK⟩ rT rfl rfl ?_));rintro⟨i,l,cc⟩ ⟨hi,h⟩;dsimp only at hi h ⊢;refine Cj.sr (aA BM ?_);refine J.nss (bH rfl (fun G=>?_) (fun G=>?_))
 ·have a6:=BH G;have a0:i<ls.length:=oM;obtain⟨⟨xs,_⟩,A⟩:∃x,ls[i]?=some x:=⟨_,DX a0⟩;obtain⟨fb,fo,_,_,_,_,rfl,aa,ab⟩:=hp (AX a0);have ac:=a9 _ (FB A);obtain⟨p2,c2,a1,G,a2⟩:=id ac;dsimp only at a1 G a2;subst a1;have ad:=a5 _ (FB A);dsimp only at ad;refine Cj.ks (bK (aO (Cj.sr (aA (BG (off':=fo+i) PL a0O) ?_))));refine aA (EN isAgg70 (aG aa) (a4l ab A)) ?_;refine aA yQ ?_;refine J.yV (aA yP ?_);refine aA (AU OU) ?_;refine aA yP ?_;refine J.ns (aO (dU (ι:=Nat×ML dH×Nat) (fun y=>y.1≤xs.length∧JQ y.2.1 y.2.2 (VQ (((ls.take i).flatMap (·.1))++xs.take y.1))) (fun y=>xs.length-y.1) (fun y=>[(3,.map (some O)),(9,.slice (some ⟨fb,fo,none⟩) ls.length c),(10,i64 (ls.length:Int)),(11,i64 (i:Int)),(15,.slice p2 xs.length c2),(16,i64 (xs.length:Int)),(17,i64 (y.1:Int))]) (fun y=>_) (fun y=>[(O,BD BI y.2.1 y.2.2)]) (0,_,_) ⟨bY _,by rw[List.take_zero,bM];exact h⟩ rT rfl rfl ?_));clear h;rintro⟨j,l,cc⟩ ⟨hj,h⟩;dsimp only at hj h ⊢;refine Cj.sr (aA BM ?_);refine J.nss (bH rfl (fun Z=>?_) (fun Z=>?_))
  ·have a7:=BH Z;have a3:j<xs.length:=oM;obtain⟨y,a4⟩:∃y,xs[j]?=some y:=⟨_,DX a3⟩;obtain⟨_,qo,_,_,_,_,rfl,ae,af⟩:=a2 (AX a3);refine Cj.ks (bK (aO (Cj.sr (aA (BG (off':=qo+j*2) OU AY) ?_))));refine aA (FH EI AY (aG ae) (EJ GX af a4)) ?_;refine aB rfl (BP QZ ?_);intro _ _;refine aB rfl (zS 0 AY (bT (bT dY)) aZ ?_);refine J.GL (aA yP ?_);refine aA (zX EI AY (yR.at 0 rfl)) ?_;refine aB rfl (FZ (kv:=BI) (a:=y) 1 (.inr rfl) rfl rfl rfl rfl rfl MP GR rfl (fJ aZ) ?_);refine J.nb (aF (aA (yZ rfl rfl rfl (AA oM)) ?_));refine aA yP ?_;refine fK (aP (aJ (aH aQ)) ?_);refine cZ (j+1,_,_) ⟨dO,by dsimp only;rw[c1j a4];exact h.push y⟩ dO rT rfl rfl
  have a7:=BN Z;refine gZ (dD (Ej.JK (fM (dR (eX (aF (aA (yZ rfl rfl rfl (AA oM)) ?_)))))));refine aA yP ?_;refine fK (cZ (i+1,_,_) ⟨dO,by dsimp only;rw[c4K A];rw[aX (oM:xs.length≤j)]at h;exact h⟩ dO rT rfl rfl)
 have a6:=BN G;refine Cj.xl (Cj.sr (aA yP ?_));refine aA yQ ?_;refine J.ns (aT ?_);rw[aX (oM:ls.length≤i)]at h;refine zN ?_;exact⟨_,rfl,O,l,cc,rfl,h,rfl⟩
theorem b9B mb m k (S P:dH→Bool) g O (hm:JQ m k S) I (Z:I mb=some (BD BI m k))(a8:∀t,S t=true→Pure aC g (BI t::O) I (.bool (P t))):yT aC 75 [.map (some mb),.func (.func g) #[] O.toArray] I [] (fun e _ H'=>∃w,e= .returned w∧a0P w (fun t=>S t && P t) H'):=by
 have a0:=hm.1;refine yT.ob func75 ?_;intro w0 _;refine Cj.sr (aA yQ ?_);refine J.yV (aB rfl (CB rfl rfl rfl ?_));intro b1 _;refine aA yQ ?_;refine J.AO (aF (aA yP ?_));refine aB rfl (NZ (kv:=BI) (l:=m) rfl rfl rfl rfl MP (aG Z) ?_);intro b2 _;refine J.ns (aO (dU (ι:=TC) (fun y=>(y.vis++y.rest).Perm m∧JQ y.l y.c (a1b y.vis P)) (fun y=>y.rest.length) (fun y=>[(1,.func (.func g) #[] O.toArray),(5,.map (some b1)),(9,ptr b2 0)]) (fun y=>_) (fun y=>[(b2,ZI mb k y.vis k),(b1,BD BI y.l y.c)]) ⟨[],m,[],0⟩ ⟨.refl _,iK.congr fun _=>rfl⟩ rT rfl rfl ?_));rintro⟨vis,rest,l,cc⟩ ⟨hp,hM⟩;dsimp only at hp hM ⊢;refine Cj.sr (aB rfl (PI (kv:=BI) (l:=m) 0 rfl rfl rfl rfl rfl (aG Z) a0.2.2 (bQ _) a0.2.1 hp ?_ ?_))
 ·rintro x G _ a3 a1 ⟨-,hset⟩;simp only[dZ,eF]at hset;subst hset;have a4:x∈m:=a1.mem_iff.1 (dS _ (dL _ (.head _)));have a9:S x.1=true:=(hm.mem x.1).1 (bC a4);refine aA AQ ?_;refine J.nss (bH rfl (fun a5=>?_) (fun a5=>aV (dA (dM rfl) a5)));refine Cj.ks (aO (Cj.sr (aA (UM (kv:=BI) (l:=m) rfl rfl (yR.at 0 rfl) (aG Z) a4 a0.2.1) ?_)));refine aA AQ ?_;refine aB rfl (BP QZ ?_);intro _ _;refine aB rfl (zS 0 AY (bT (bT dY)) aZ ?_);refine J.yV (aA yP ?_);refine aA (zX EI AY (yR.at 0 rfl)) ?_;refine aB rfl (yU rfl rfl rfl rfl rfl (a8 x.1 a9) ?_);refine J.cd (fun A=>?_) (fun A=>?_)
  ·have a2:P x.1=true:=A;refine aF (aA yP ?_);refine aA (zX EI AY (yR.at 0 rfl)) ?_;refine aB rfl (FZ (kv:=BI) (a:=x.1) 2 (.inr rfl) rfl rfl rfl rfl rfl MP GR rfl (fJ (fJ aZ)) ?_);refine fK (dR (aP (aJ (aH (aH aQ))) ?_));refine cZ ⟨vis++[x],G,_,_⟩ ⟨a1,hM.add x.1 (b9J a2)⟩ (by have h:=a3.length_eq;simp only[bU]at h;dsimp only;omega) rT rfl rfl
  have a2:P x.1=false:=A;refine iC (dR (aP (aJ (aH (aH aQ))) ?_));refine cZ ⟨vis++[x],G,l,cc⟩ ⟨a1,hM.congr fun t=>(c1p a2 t).symm⟩ (by have h:=a3.length_eq;simp only[bU]at h;dsimp only;omega) rT rfl rfl
 intro a7;have aa:vis.Perm m:=by rw[a7,bM]at hp;exact hp
 refine aA AQ ?_;refine J.nss (bH rfl (fun a6=>aV (dA (dM rfl) a6)) (fun a6=>?_));refine Cj.xl (Cj.sr (aA yP ?_));refine aA yQ ?_;refine J.ns (aT (aP (aJ (aH aQ)) ?_));refine zN ?_;exact⟨_,rfl,b1,l,cc,rfl,hM.congr (b8t hm aa),rfl⟩
theorem b7T g (A:List Value)(S P:dH→Bool)(G:∀t,S t=false) I:yT aC 75 [.map none,.func (.func g) #[] A.toArray] I [] (fun e _ H'=>∃w,e= .returned w∧a0P w (fun t=>S t && P t) H'):=by
 refine yT.ob func75 ?_;intro w0 _;refine Cj.sr (aA yQ ?_);refine J.yV (aB rfl (CB rfl rfl rfl ?_));intro _ _;refine aA yQ ?_;refine J.AO (aF (aA yP ?_));refine aB rfl (PX rfl rfl rfl rfl MP ?_);intro _ _;refine J.ns (aO (iG 1 ?_));refine Rj.succ ?_;refine Cj.sr (aB rfl (RZ 0 rfl rfl rfl rfl rfl ?_));refine aA AQ ?_;refine J.nss (bH rfl (fun h=>aV (dA (dM rfl) h)) (fun h=>?_));refine gZ (dD (dD (fM (eX (Cj.sr (aA yP ?_))))));refine aA yQ ?_;refine J.ns (aT (aP (aJ (aH aQ)) ?_));refine zN ?_;exact⟨_,rfl,_,[],0,rfl,iK.congr (fun t=>by rw[G t];rfl),rfl⟩
theorem a0f v (S P:dH→Bool) g A I (h:NM I v S)(G:∀t,S t=true→Pure aC g (BI t::A) I (.bool (P t))):yT aC 75 [v,.func (.func g) #[] A.toArray] I [] (fun e _ H'=>∃w,e= .returned w∧a0P w (fun t=>S t && P t) H'):=by
 rcases h with⟨rfl,O⟩|⟨b,m,k,rfl,Z,hb⟩
 ·exact b7T g A S P O I
 exact b9B b m k S P g A Z I hb G
theorem b8Z A S G m k (hm:JQ m k S) t I (O:I A=some (yY 124 [.map (some G)]))(Z:I G=some (BD BI m k)):Pure aC 135 [BI t,ptr A 0] I (.bool (S t)):=by
 refine dF ?_;have h:=hm.get t;refine yT.ob func135 ?_;intro w0 _;refine Cj.sr (aB rfl (BL ?_));intro _ _;refine aA yQ ?_;refine J.yV (aA (yX isAgg124 (aG O)) ?_);refine aA (zX EI AY (yR.at 0 rfl)) ?_;refine aA (CO (kv:=BI) (l:=m) (a:=t) rfl rfl rfl rfl MP GR tZ4 (aG Z)) ?_;refine gG 6 rfl (show _= .bool (S t) from h) ?_;refine aA yQ ?_;refine J.ns (aT (bI ?_));refine zN ?_;exact rT
theorem b7S A (S:dH→Bool)(O:∀t,S t=false) t I (G:I A=some (yY 124 [.map none])):Pure aC 135 [BI t,ptr A 0] I (.bool (S t)):=by
 refine dF ?_;have h:gW false= .bool (S t):=by rw[O t]
 refine yT.ob func135 ?_;intro w0 _;refine Cj.sr (aB rfl (BL ?_));intro _ _;refine aA yQ ?_;refine J.yV (aA (yX isAgg124 (aG G)) ?_);refine aA (zX EI AY (yR.at 0 rfl)) ?_;refine aA (MQ (kv:=BI) (a:=t) rfl rfl rfl rfl MP GR tZ4) ?_;refine gG 6 rfl (show _= .bool (S t) from h) ?_;refine aA yQ ?_;refine J.ns (aT (bI ?_));refine zN ?_;exact rT
theorem c5X A v S t I (G:I A=some (yY 124 [v]))(h:NM I v S):Pure aC 135 [BI t,ptr A 0] I (.bool (S t)):=by
 rcases h with⟨rfl,O⟩|⟨b,m,k,rfl,Z,hb⟩
 ·exact b7S A S O t I G
 exact b8Z A S b m k Z t I G hb
theorem b8z A S G m k (hm:JQ m k S) t I (O:I A=some (yY 124 [.map (some G)]))(Z:I G=some (BD BI m k)):Pure aC 76 [BI t,ptr A 0] I (.bool (S t)):=by
 refine dF ?_;have h:=hm.get t;refine yT.ob func76 ?_;intro w0 _;refine Cj.sr (aB rfl (BL ?_));intro _ _;refine aA yQ ?_;refine J.yV (aA (yX isAgg124 (aG O)) ?_);refine aA (zX EI AY (yR.at 0 rfl)) ?_;refine aA (CO (kv:=BI) (l:=m) (a:=t) rfl rfl rfl rfl MP GR tZ4 (aG Z)) ?_;refine gG 6 rfl (show _= .bool (S t) from h) ?_;refine aA yQ ?_;refine J.ns (aT (bI ?_));refine zN ?_;exact rT
theorem b8B A (S:dH→Bool)(O:∀t,S t=false) t I (G:I A=some (yY 124 [.map none])):Pure aC 76 [BI t,ptr A 0] I (.bool (S t)):=by
 refine dF ?_;have h:gW false= .bool (S t):=by rw[O t]
 refine yT.ob func76 ?_;intro w0 _;refine Cj.sr (aB rfl (BL ?_));intro _ _;refine aA yQ ?_;refine J.yV (aA (yX isAgg124 (aG G)) ?_);refine aA (zX EI AY (yR.at 0 rfl)) ?_;refine aA (MQ (kv:=BI) (a:=t) rfl rfl rfl rfl MP GR tZ4) ?_;refine gG 6 rfl (show _= .bool (S t) from h) ?_;refine aA yQ ?_;refine J.ns (aT (bI ?_));refine zN ?_;exact rT
theorem b5m A v S t I (G:I A=some (yY 124 [v]))(h:NM I v S):Pure aC 76 [BI t,ptr A 0] I (.bool (S t)):=by
 rcases h with⟨rfl,O⟩|⟨b,m,k,rfl,Z,hb⟩
 ·exact b8B A S O t I G
 exact b8z A S b m k Z t I G hb
theorem c0t A S G m k (hm:JQ m k S) t I (O:I A=some (yY 124 [.map (some G)]))(Z:I G=some (BD BI m k)):Pure aC 77 [BI t,ptr A 0] I (.bool (!S t)):=by
 refine dF ?_;have h:=hm.get t;refine yT.ob func77 ?_;intro w0 _;refine Cj.sr (aB rfl (BL ?_));intro _ _;refine aA yQ ?_;refine J.yV (aA (yX isAgg124 (aG O)) ?_);refine aA (zX EI AY (yR.at 0 rfl)) ?_;refine aA (CO (kv:=BI) (l:=m) (a:=t) rfl rfl rfl rfl MP GR tZ4 (aG Z)) ?_;refine gG 6 rfl (show _= .bool (S t) from h) ?_;refine aA (ER rfl rfl) ?_;refine aA yQ ?_;refine J.ns (aT (bI ?_));refine zN ?_;exact rT
theorem c0q A (S:dH→Bool)(O:∀t,S t=false) t I (G:I A=some (yY 124 [.map none])):Pure aC 77 [BI t,ptr A 0] I (.bool (!S t)):=by
 refine dF ?_;have h:gW false= .bool (S t):=by rw[O t]
 refine yT.ob func77 ?_;intro w0 _;refine Cj.sr (aB rfl (BL ?_));intro _ _;refine aA yQ ?_;refine J.yV (aA (yX isAgg124 (aG G)) ?_);refine aA (zX EI AY (yR.at 0 rfl)) ?_;refine aA (MQ (kv:=BI) (a:=t) rfl rfl rfl rfl MP GR tZ4) ?_;refine gG 6 rfl (show _= .bool (S t) from h) ?_;refine aA (ER rfl rfl) ?_;refine aA yQ ?_;refine J.ns (aT (bI ?_));refine zN ?_;exact rT
theorem b4U A v S t I (G:I A=some (yY 124 [v]))(h:NM I v S):Pure aC 77 [BI t,ptr A 0] I (.bool (!S t)):=by
 rcases h with⟨rfl,O⟩|⟨b,m,k,rfl,Z,hb⟩
 ·exact c0q A S O t I G
 exact c0t A S b m k Z t I G hb
theorem b8A t I:Pure aC 78 [BI t] I (.bool true):=by
 refine dF ?_;refine yT.ob func78 ?_;intro w0 _;refine Cj.sr (aB rfl (BL ?_));intro _ _;refine aA yQ ?_;refine J.yV (aA yQ ?_);refine J.ns (aT (bI ?_));refine zN ?_;exact rT
structure VL where
  i:Nat
  J:Heap
  ls:List LR
  g:Gs
theorem a0H{α β:Type}(f:α→β){l:List α}{k x}(h:l[k]?=some x):(l.take (k+1)).map f=(l.take k).map f++[f x]:=by
 obtain⟨A,hg⟩:=eU.1 h;rw[dJ A,hg,fG];rfl
theorem b5D{J ls}(h:∀x∈ls,zY recC J x.1 x.2){l w}(A:zY recC J l w):∀x∈ls++[(l,w)],zY recC J x.1 x.2:=fun x G=>by
 rcases List.mem_append.1 G with g|g
 ·exact h x g
 rw[aU.1 g];exact A
theorem b4L{ls:List LR}{l}(h:ls.map (·.1)=l):ls.flatMap (·.1)=l.flatMap id:=by
 rw[←h,eY];rfl
theorem b5F L n s:(bZ L n s).length≤L.length:=by
 unfold bZ dN
 split
 ·split
  ·exact bY _
  rw[aK];exact dP _ _
 exact bY _
theorem b6T L n w:(dN L n w).length≤L.length:=by
 unfold dN
 split
 ·exact bY _
 rw[aK];exact dP _ _
theorem a9K xv L q p c (hq:q.t.length≤10000000) I (O:QB I xv L):yT aC 133 [xv,.agg (EX q p c).toArray] I [] (fun e I' H'=>∃w ls,e= .returned w∧ls.map (·.1)=(aS q.t).map (bZ L q.i)∧LLS I' ls w∧H'=[]):=by
 have ah:=fP q.t;refine yT.ob func133 ?_;intro w0 _;refine Cj.sr (aB rfl (BL ?_));intro b1 _;refine aA yQ ?_;refine J.yV (aA yQ ?_);refine J.AO (aF (aA (qq2 (off':=3) DI zL) ?_));refine aA (yX BX (yR.at 0 rfl)) ?_;refine aB rfl (yS (H1:=[]) rfl rfl rfl rfl rfl (WV q.t oM _) ?_ (fun _ _ _ _ ⟨_,h,_⟩=>by cases h) (fun _ _ ⟨_,h,_⟩=>by cases h));intro _ I3 _ a8 ac;have O:=O.mono a8;obtain⟨_,h,hw,rfl⟩:=ac;cases h;obtain⟨pw,cw,rfl⟩:=OY hw;refine aA (AU AP) ?_;refine aA yP ?_;refine J.ns (aO (dU (ι:=VL) (fun y=>y.i≤(aS q.t).length∧Le I3 y.J∧y.ls.map (·.1)=((aS q.t).take y.i).map (bZ L q.i)∧(∀x∈y.ls,zY recC y.J x.1 x.2)∧CU w0.heap.size 1 y.ls.length (y.ls.flatMap lrC) y.g) (fun y=>(aS q.t).length-y.i) (fun y=>[(5,gV y.ls.length y.g),(0,xv),(3,ptr b1 0),(10,.slice pw (aS q.t).length cw),(11,i64 ((aS q.t).length:Int)),(12,i64 (y.i:Int))]) (fun y=>y.J) (fun y=>(b1,yY 66 (EX q p c))::gH 70 (y.ls.flatMap lrC) y.g) ⟨0,_,[],none⟩ ⟨bY _,bD _,rfl,(fun x O=>by cases O),rfl,rfl⟩ rT rfl rfl ?_));rintro⟨i,_,ls,g⟩ ⟨hi,A,a1,hR,hg⟩;dsimp only at hi A a1 hR hg ⊢;have O:=O.mono A;have hw:=hw.mono A;have ai:ls.length=i:=by have h:=zD dX a1;rw[aK,aK,fA]at h;omega
 refine Cj.sr (aA BM ?_);refine J.nss (bH rfl (fun a6=>?_) (fun a6=>?_))
 ·have a9:=BH a6;have a7:i<(aS q.t).length:=oM;obtain⟨x,a4⟩:∃x,(aS q.t)[i]?=some x:=⟨_,DX a7⟩;have aj:=Ke.a0Y _ x (FB a4);obtain⟨wb,_,_,ad,a2⟩:=hw.some (AX a7);cases ad;refine Cj.ks (bK (aO (Cj.sr (aA (BG (off':=i) AP zL) ?_))));refine aA (EN BX (aG a2) (JO a4)) ?_;refine aA yQ ?_;refine J.GL (aA yP ?_);refine aA yP ?_;refine aA (qq2 (off':=1) DI zL) ?_;refine aA (yX BX (yR.at 0 rfl)) ?_;refine aA yP ?_;refine aB rfl (FU rfl rfl rfl rfl rfl (c2r xv L q.i x oM _ O) ?_ (fun _ _ _ _ ⟨_,h,_⟩=>by cases h) (fun _ _ ⟨_,h,_⟩=>by cases h));intro _ _ _ G ae aa;have O:=O.mono G;have hw:=hw.mono G;have A:=A.mono G;have hR:=fun x9 a3=>(hR x9 a3).mono G;have a2:=G _ _ a2;obtain⟨_,h,af⟩:=aa;cases h;refine iD af ae (fun _ Z a5=>?_);have O:=O.mono Z;have hw:=hw.mono Z;have A:=A.mono Z;have hR:=fun x9 a3=>(hR x9 a3).mono Z;have a2:=Z _ _ a2;replace a5:=a5.row;obtain⟨_,_,rfl⟩:=RS a5;refine aB rfl (AZ PL a0O a4D (fB rfl eG) ?_);intro _ _;refine aB rfl (BJ (by':=23) [_,_] rfl rfl rfl rfl rfl PL (.inr ⟨_,PL⟩) kR a0O a4D rfl hg rfl (Src.slice (yR.at 0 rfl) rfl rfl rfl) oM ?_);intro ag ab;refine aA yQ ?_;refine J.nb (aF (aA (yZ rfl rfl rfl (AA oM)) ?_));refine aA yP ?_;refine fK (aP (aJ (aH Keeps.r)) ?_);refine cZ ⟨i+1,_,ls++[(bZ L q.i x,_)],ag⟩ ⟨dO,A,by dsimp only;rw[fG,a1,a0H _ a4];rfl,b5D hR a5,by dsimp only;rw[bP,cO];exact ab⟩ dO ⟨by dsimp only;rw[bP];rfl,rfl,rfl,rfl,rfl,rfl,trivial⟩ rfl (by dsimp only;rw[cO];rfl)
 have a9:=BN a6;refine Cj.xl (bK ?_);rw[aX (oM:(aS q.t).length≤i)]at a1;refine Cj.perm (H':=gH 70 (ls.flatMap lrC) g++[_]) List.perm_append_comm ?_;refine Cj.keepR (f:=lrC) (fun _=>rfl) dE hg rfl (fun _ a0 hv=>?_);have O:=O.mono a0;have hw:=hw.mono a0;have A:=A.mono a0;have hR:=fun x9 a3=>(hR x9 a3).mono a0;refine aF (aA yP ?_);refine aA yQ ?_;refine J.ns (aT (bI ?_));refine zN ?_;exact⟨_,ls,rfl,a1,⟨hv,hR⟩,rfl⟩
theorem b2v xv L n ks v (hk:∀x∈ks,Ke.b2b x.1)(an:ks.length≤1000000000000) I (O:QB I xv L)(hT:MW I)(hr:zY CW I ks v):yT aC 137 [xv,str n,v] I [] (fun e _ H'=>∃w,e= .returned w∧a0P w (VQ (fC L n (ks.map (·.1)))) H'):=by
 have al:=O.big;obtain⟨p,c,rfl⟩:=RS hr;refine yT.ob func137 ?_;intro w0 _;refine Cj.sr (aA yQ ?_);refine J.yV (aA yQ ?_);refine J.AO (aF (aA yP ?_));refine aA (AU KL) ?_;refine aA yP ?_;refine J.ns (aO (dU (ι:=VL) (fun y=>y.i≤ks.length∧Le I y.J∧y.ls.map (·.1)=(ks.take y.i).map (fun x=>dV L n (bF n (iH x.1)))∧(∀x∈y.ls,zY recC y.J x.1 x.2)∧CU w0.heap.size 1 y.ls.length (y.ls.flatMap lrC) y.g) (fun y=>ks.length-y.i) (fun y=>[(7,gV y.ls.length y.g),(0,xv),(1,str n),(10,.slice p ks.length c),(11,i64 (ks.length:Int)),(12,i64 (y.i:Int))]) (fun y=>y.J) (fun y=>gH 70 (y.ls.flatMap lrC) y.g) ⟨0,_,[],none⟩ ⟨bY _,bD _,rfl,(fun x O=>by cases O),rfl,rfl⟩ rT rfl rfl ?_));rintro⟨i,_,ls,g⟩ ⟨hi,A,a3,hR,hg⟩;dsimp only at hi A a3 hR hg ⊢;have O:=O.mono A;have hT:=hT.mono A;have hr:=hr.mono A;have ao:ls.length=i:=by have h:=zD dX a3;rw[aK,aK,fA]at h;omega
 refine Cj.sr (aA BM ?_);refine J.nss (bH rfl (fun a6=>?_) (fun a6=>?_))
 ·have aa:=BH a6;have a8:i<ks.length:=oM;obtain⟨x,a5⟩:∃x,ks[i]?=some x:=⟨_,DX a8⟩;have a9:=hk x (FB a5);have am:=a9.2.2.1;obtain⟨p1,c1,ae,a6,hp⟩:=id hr;cases ae;obtain⟨_,fo,_,_,_,_,rfl,a4,af⟩:=hp (AX a8);refine Cj.ks (bK (aO (Cj.sr (aA (BG (off':=fo+i*2) KL IQ) ?_))));refine aA (FH YV IQ (aG a4) (EJ GH af a5)) ?_;refine aB rfl (BP NS ?_);intro _ _;refine aB rfl (zS 0 IQ (bT (bT dY)) aZ ?_);refine J.GL (aA yP ?_);refine aA yP ?_;refine aA yP ?_;refine aA (qq2 (off':=0) VT zL) ?_;refine aA (yX BX (yR.at 0 rfl)) ?_;refine aB rfl (yU rfl rfl rfl rfl rfl (c0O x.1 a9 _ hT) ?_);refine aB rfl (FU rfl rfl rfl rfl rfl (b4P xv L n (iH x.1) oM _ O) ?_ (fun _ _ _ _ ⟨_,h,_⟩=>by cases h) (fun _ _ ⟨_,h,_⟩=>by cases h));intro _ _ _ Z ag ah;have O:=O.mono Z;have hT:=hT.mono Z;have hr:=hr.mono Z;have A:=A.mono Z;have hR:=fun x9 a1=>(hR x9 a1).mono Z;have a4:=Z _ _ a4;obtain⟨_,h,ai⟩:=ah;cases h;refine iD ai ag (fun _ a0 a7=>?_);have O:=O.mono a0;have hT:=hT.mono a0;have hr:=hr.mono a0;have A:=A.mono a0;have hR:=fun x9 a1=>(hR x9 a1).mono a0;have a4:=a0 _ _ a4;replace a7:=a7.row;obtain⟨_,_,rfl⟩:=RS a7;refine aB rfl (AZ PL a0O a4D (fB rfl eG) ?_);intro _ _;refine aB rfl (BJ (by':=23) [_,_] rfl rfl rfl rfl rfl PL (.inr ⟨_,PL⟩) kR a0O a4D rfl hg rfl (Src.slice (yR.at 0 rfl) rfl rfl rfl) oM ?_);intro aj ab;refine aA yQ ?_;refine J.nb (aF (aA (yZ rfl rfl rfl (AA oM)) ?_));refine aA yP ?_;refine fK (aP (aJ (aJ Keeps.r)) ?_);refine cZ ⟨i+1,_,ls++[(dV L n (bF n (iH x.1)),_)],aj⟩ ⟨dO,A,by dsimp only;rw[fG,a3,a0H _ a5];rfl,b5D hR a7,by dsimp only;rw[bP,cO];exact ab⟩ dO ⟨by dsimp only;rw[bP];rfl,rfl,rfl,rfl,rfl,rfl,trivial⟩ rfl (by dsimp only;rw[cO];rfl)
 have aa:=BN a6;refine Cj.xl (bK ?_);rw[aX (oM:ks.length≤i)]at a3;refine Cj.perm (H':=gH 70 (ls.flatMap lrC) g++[]) (.of_eq (bM _)) ?_;refine Cj.keepR (f:=lrC) (fun _=>rfl) dE hg rfl (fun _ a2 hv=>?_);have O:=O.mono a2;have hT:=hT.mono a2;have hr:=hr.mono a2;have A:=A.mono a2;have hR:=fun x9 a1=>(hR x9 a1).mono a2;have ac:∀x∈ls,x.1.length≤1000000:=fun x O=>by
  have h9:x.1∈ls.map (·.1):=bC O;rw[a3]at h9;obtain⟨y,_,hy⟩:=dB.1 h9;rw[←hy];exact IU (Ix.b3n _ _ _) oM
 refine aF (aA yP ?_);refine aB rfl (yS (H1:=[]) rfl rfl rfl rfl rfl (a5p ls _ oM ac _ ⟨hv,hR⟩) ?_ (fun _ _ _ _ ⟨_,h,_⟩=>by cases h) (fun _ _ ⟨_,h,_⟩=>by cases h));intro _ _ _ G ad;have O:=O.mono G;have hT:=hT.mono G;have hr:=hr.mono G;have A:=A.mono G;have hR:=fun x9 a1=>(hR x9 a1).mono G;have hv:=hv.mono G;obtain⟨wb,h,ob,mb,kb,rfl,ak,rfl⟩:=ad;cases h;refine aA yQ ?_;refine J.ns (aT (aP (aH aQ) ?_));refine zN ?_;refine⟨_,rfl,ob,mb,kb,rfl,ak.congr fun t=>?_,rfl⟩;rw[show fC L n (ks.map (·.1))=ls.flatMap (·.1) from ?_];rw[b4L a3,eY];unfold fC;rw[eY];rfl
theorem QB.vok{I v L}(h:QB I v L):∀e∈L,MO e.2:=by
 rcases h with⟨_,rfl⟩|⟨G,_,o,h,_⟩
 ·exact fun e A=>by cases A
 cases o with
 |none=>rw[show L=[] from h];exact fun e A=>by cases A
 |some s=>exact JE.vok h
theorem a6e{L}(hs:gX L)(Z:∀e∈L,MO e.2)(hL:L.length≤100000) n b:(bG L n b).length≤1000000000000:=by
 have h1:((bG L n b).map fun k=>(n,k)).length≤(L.flatMap fun e=>Ix.plK e.2).length:=by
  refine a0h ?_ fun p hp=>?_
  ·rw[eH,gI];refine(Ix.a0s L n b).imp fun {x y} h e=>?_;have:=zD Prod.snd e;dsimp only at this;rw[this]at h;exact iE _ h
  obtain⟨k,hk,rfl⟩:=dB.1 hp;obtain⟨e,A,G⟩:=(Ix.a2Q hs).1 ((Ix.WB hs).1 hk).2;exact gJ.2 ⟨e,A,G⟩
 have h2:∀M:Ix.Ix,(∀e∈M,MO e.2)→(M.flatMap fun e=>Ix.plK e.2).length≤M.length*10000000:=by
  intro M
  induction M with
  |nil=>intro _;simp
  |cons a r ih=>
   intro O;have:=ih fun e A=>O e (.tail _ A);have h3:=(O a (.head _)).k;rw[List.flatMap_cons,bP,bU,Nat.add_mul];omega
 rw[aK]at h1;exact IU (IU h1 (h2 L Z)) (Nat.mul_le_mul_right 10000000 hL)
abbrev VJ:Int:=9223372036854775807
theorem WW{L:Ix.Ix}(hs:gX L)(A:∀e∈L,MO e.2)(G:L.length≤100000)(n s:List UInt8):((dG L n s VJ).map KP).map (·.1)=bG L n (bF n s):=by
 have h:=a6e hs A G n (bF n s);rw[iL];exact Ix.b7R (by show _≤9223372036854775807;omega)
theorem a4M{L}(hs:gX L)(h:∀e∈L,MO e.2)(A:L.length≤100000) n s:((dG L n s VJ).map KP).length=(bG L n (bF n s)).length∧(bG L n (bF n s)).length≤1000000000000:=by
 have h1:=zD dX (WW hs h A n s);rw[aK]at h1;exact⟨h1,a6e hs h A n _⟩
theorem b0u{L}(A:fQ L)(hs:gX L)(G:∀e∈L,MO e.2)(O:L.length≤100000) n s:∀x∈(dG L n s VJ).map KP,Ke.b2b x.1:=fun x Z=>by
 have h:x.1∈((dG L n s VJ).map KP).map (·.1):=bC Z;rw[WW hs G O]at h;exact A.key hs h
theorem c3s{L}(hs:gX L) n b:(bG L n b).length≤(bG L n []).length:=by
 rw[Ix.b3r hs n b];exact dP _ _
theorem a1O l v:([((l,v):LR)].flatMap (·.1))=l:=bM l
def c3l (kb:Nat):ML (List UInt8):=[([61],.func (.func 130) #[] #[ptr kb 0],0),([61,61],.func (.func 127) #[] #[],1),([97,110,121],.func (.func 132) #[] #[],2),([97,108,108],.func (.func 134) #[] #[],3),([62,61],.func (.func 136) #[] #[],4),([60],.func (.func 139) #[] #[],5)]
theorem c7z{ls:List LR}{L i}{ws:Ke.Row}(h:ls.map (·.1)=ws.map (bZ L i)) t:VQ (ls.flatMap (·.1)) t=ws.any fun w=>decide (t∈bZ L i w):=by
 unfold VQ;rw[b4L h,Bool.eq_iff_iff,zH,gJ,List.any_eq_true];constructor
 ·rintro⟨l,O,A⟩;obtain⟨w,G,rfl⟩:=dB.1 O;exact⟨w,G,zI A⟩
 rintro⟨w,G,A⟩;exact⟨_,bC G,BH A⟩
def a1p (ls:List LR) (t:dH):Bool:=ls.all fun x=>decide (t∈x.1)
theorem a9X{ls:List LR}{i x}(h:ls[i]?=some x) t:a1p (ls.take (i+1)) t=(a1p (ls.take i) t && decide (t∈x.1)):=by
 obtain⟨A,hg⟩:=eU.1 h;unfold a1p;rw[dJ A,hg,List.all_append,List.all_cons,List.all_nil,dI]
theorem allL{ls L i}{ws:Ke.Row}(h:ls.map (·.1)=ws.map (bZ L i)) t:a1p ls t=ws.all fun w=>decide (t∈bZ L i w):=by
 have:a1p ls t=(ls.map (·.1)).all fun l=>decide (t∈l):=by unfold a1p;rw[iM];rfl
 rw[this,h,iM];rfl
theorem b5k xv L q p c (hq:q.t.length≤10000000) I (A:QB I xv L):yT aC 127 [xv,.agg (EX q p c).toArray] I [] (fun e _ H'=>∃w,e= .returned w∧a0P w (VQ (dV L q.i (bF q.i q.t))) H'):=by
 have aa:=A.big;refine yT.ob func127 ?_;intro w0 _;refine Cj.sr (aB rfl (BL ?_));intro _ _;refine aA yQ ?_;refine J.yV (aA yP ?_);refine aA (qq2 (off':=1) DI zL) ?_;refine aA (yX BX (yR.at 0 rfl)) ?_;refine aA (qq2 (off':=3) DI zL) ?_;refine aA (yX BX (yR.at 0 rfl)) ?_;refine aB rfl (FU rfl rfl rfl rfl rfl (b4P xv L q.i q.t oM _ A) ?_ (fun _ _ _ _ ⟨_,h,_⟩=>by cases h) (fun _ _ ⟨_,h,_⟩=>by cases h));intro _ _ _ a2 a5 a6;have A:=A.mono a2;obtain⟨_,h,a7⟩:=a6;cases h;refine iD a7 a5 (fun _ a3 G=>?_);have A:=A.mono a3;replace G:=G.row;obtain⟨pa,ca,rfl⟩:=RS G;refine aB rfl (AZ PL a0O a4D (fB rfl eG) ?_);intro b8 a8;refine fU a8 (fun _ a0 Z=>?_);have A:=A.mono a0;have G:=G.mono a0;have a1:LLS _ [((dV L q.i (bF q.i q.t)),.slice pa _ ca)] (.slice (some ⟨b8,0,none⟩) 1 1):=⟨iF (l:=[(((dV L q.i (bF q.i q.t)),.slice pa _ ca):LR)]) (sp:=[]) (bQ _) Z,fun x A=>by rw[aU.1 A];exact G⟩;refine aB rfl (yS (H1:=[]) rfl rfl rfl rfl rfl (a5p [((dV L q.i (bF q.i q.t)),_)] _ (by show 1≤_;decide) (fun x A=>by rw[aU.1 A];exact IU (Ix.b3n _ _ _) oM) _ a1) ?_ (fun _ _ _ _ ⟨_,h,_⟩=>by cases h) (fun _ _ ⟨_,h,_⟩=>by cases h));intro _ _ _ O a4;have A:=A.mono O;have G:=G.mono O;have Z:=O _ _ Z;have a1:=a1.mono O;obtain⟨wb,h,ob,mb,kb,rfl,a9,rfl⟩:=a4;cases h;refine aA yQ ?_;refine J.ns (aT (aP (aH (aJ aQ)) ?_));refine zN ?_;exact⟨_,rfl,ob,mb,kb,rfl,a9.congr fun t=>zD (fun l=>VQ l t) (a1O _ _),rfl⟩
theorem c5z xv L q p c (hq:q.t.length≤10000000) I (A:QB I xv L) a8 (G:I a8=some (yY 125 [.func (.func 127) #[] #[]])):yT aC 130 [xv,.agg (EX q p c).toArray,ptr a8 0] I [] (fun e _ H'=>∃w,e= .returned w∧a0P w (fun t=>if q.i=iO then VQ (dV L q.i (bF q.i q.t)) t else VQ (dN L q.i (aS q.t)) t) H'):=by
 have ah:=A.big;refine yT.ob func130 ?_;intro w0 _;refine Cj.sr (aB rfl (BL ?_));intro _ _;refine aA yQ ?_;refine J.AO (aF (aA (qq2 (off':=1) DI zL) ?_));refine aA (yX BX (yR.at 0 rfl)) ?_;refine aA (ED rfl rfl rfl) ?_;refine J.cd (fun a2=>?_) (fun a2=>?_)
 ·have a9:=CS a2;refine Cj.sr (aA (yX isAgg125 (aG G)) ?_);refine aA yP ?_;refine aA (zX CP zZ (yR.at 0 rfl)) ?_;refine aB rfl (yS (H1:=[]) rfl rfl rfl rfl rfl (b5k xv L q p c hq _ A) ?_ (fun _ _ _ _ ⟨_,h,_⟩=>by cases h) (fun _ _ ⟨_,h,_⟩=>by cases h));intro _ _ _ a4 ad;have A:=A.mono a4;have G:=a4 _ _ G;obtain⟨wb,h,ob,mb,kb,rfl,a5,rfl⟩:=ad;cases h;refine aA yQ ?_;refine J.ns (Cj.rs (aP (aH (aJ aQ)) ?_));have hi:q.i=iO:=CS a2;refine zN ?_;exact⟨_,rfl,ob,mb,kb,rfl,a5.congr fun t=>by rw[zG hi],rfl⟩
 have a9:=CX a2;refine Cj.ks (Cj.sr (aA yP ?_));refine aA (qq2 (off':=1) DI zL) ?_;refine aA (yX BX (yR.at 0 rfl)) ?_;refine aA (qq2 (off':=3) DI zL) ?_;refine aA (yX BX (yR.at 0 rfl)) ?_;refine aB rfl (FU rfl rfl rfl rfl rfl (b6Q xv L q.i q.t oM _ A) ?_ (fun _ _ _ _ ⟨_,h,_⟩=>by cases h) (fun _ _ ⟨_,h,_⟩=>by cases h));intro _ _ _ a3 ae aa;have A:=A.mono a3;have G:=a3 _ _ G;obtain⟨_,h,af⟩:=aa;cases h;refine iD af ae (fun _ a6 Z=>?_);have A:=A.mono a6;have G:=a6 _ _ G;replace Z:=Z.row;obtain⟨pa,ca,rfl⟩:=RS Z;refine aB rfl (AZ PL a0O a4D (fB rfl eG) ?_);intro ag ab;refine fU ab (fun _ a0 a1=>?_);have A:=A.mono a0;have G:=a0 _ _ G;have Z:=Z.mono a0;have a7:LLS _ [((dN L q.i (aS q.t)),.slice pa _ ca)] (.slice (some ⟨ag,0,none⟩) 1 1):=⟨iF (l:=[(((dN L q.i (aS q.t)),.slice pa _ ca):LR)]) (sp:=[]) (bQ _) a1,fun x A=>by rw[aU.1 A];exact Z⟩;refine aB rfl (yS (H1:=[]) rfl rfl rfl rfl rfl (a5p [((dN L q.i (aS q.t)),_)] _ (by show 1≤_;decide) (fun x A=>by rw[aU.1 A];exact IU (b6T _ _ _) oM) _ a7) ?_ (fun _ _ _ _ ⟨_,h,_⟩=>by cases h) (fun _ _ ⟨_,h,_⟩=>by cases h));intro _ _ _ O ac;have A:=A.mono O;have G:=O _ _ G;have Z:=Z.mono O;have a1:=O _ _ a1;have a7:=a7.mono O;obtain⟨wb,h,ob,mb,kb,rfl,a5,rfl⟩:=ac;cases h;refine aA yQ ?_;refine J.ns (aT (aP (aH (aJ aQ)) ?_));have hi:q.i≠iO:=CX a2;refine zN ?_;exact⟨_,rfl,ob,mb,kb,rfl,a5.congr fun t=>by rw[zF hi];exact zD (fun l=>VQ l t) (a1O _ _),rfl⟩
theorem c5o xv L q p c (hq:q.t.length≤10000000) I (A:QB I xv L):yT aC 132 [xv,.agg (EX q p c).toArray] I [] (fun e _ H'=>∃w,e= .returned w∧a0P w (fun t=>(aS q.t).any fun w=>decide (t∈bZ L q.i w)) H'):=by
 have a6:=A.big;have a7:=fP q.t;refine yT.ob func132 ?_;intro w0 _;refine Cj.sr (aB rfl (BL ?_));intro _ _;refine aA yQ ?_;refine J.yV (aA yP ?_);refine aA (zX CP zZ (yR.at 0 rfl)) ?_;refine aB rfl (yS (H1:=[]) rfl rfl rfl rfl rfl (a9K xv L q p c hq _ A) ?_ (fun _ _ _ _ ⟨_,_,h,_⟩=>by cases h) (fun _ _ ⟨_,_,h,_⟩=>by cases h));intro _ _ _ a0 a4;have A:=A.mono a0;obtain⟨wl,ls,h,Z,G,rfl⟩:=a4;cases h;have a1:∀x∈ls,x.1.length≤1000000:=fun x A=>by
  have h9:x.1∈ls.map (·.1):=bC A;rw[Z]at h9;obtain⟨y,_,hy⟩:=dB.1 h9;rw[←hy];exact IU (b5F _ _ _) oM
 have a8:ls.length=(aS q.t).length:=by have h:=zD dX Z;rw[aK,aK]at h;exact h
 obtain⟨pl,cl,a2,_,-⟩:=id G.1;subst a2;refine aB rfl (yS (H1:=[]) rfl rfl rfl rfl rfl (a5p ls _ oM a1 _ G) ?_ (fun _ _ _ _ ⟨_,h,_⟩=>by cases h) (fun _ _ ⟨_,h,_⟩=>by cases h));intro _ _ _ O a3;have A:=A.mono O;have G:=G.mono O;obtain⟨wb,h,ob,mb,kb,rfl,a5,rfl⟩:=a3;cases h;refine aA yQ ?_;refine J.ns (aT (aP (aH (aJ aQ)) ?_));refine zN ?_;exact⟨_,rfl,ob,mb,kb,rfl,a5.congr (c7z Z),rfl⟩
theorem NM.congr{I v S A}(h:NM I v S)(G:∀t,S t=A t):NM I v A:=
 h.imp (fun⟨h1,h2⟩=>⟨h1,fun t=>by rw[←G t];exact h2 t⟩) fun⟨b,m,k,h1,h2,h3⟩=>⟨b,m,k,h1,h2.congr G,h3⟩
theorem c3B{ls:List LR}{x}(h:ls[0]?=some x) t:a1p (ls.take (0+1)) t=VQ x.1 t:=by
 rw[a9X h t];rfl
theorem c4H xv L q p c (hq:q.t.length≤10000000) I (hx:QB I xv L):yT aC 134 [xv,.agg (EX q p c).toArray] I [] (fun e I' H'=>∃w,e= .returned w∧NM I' w (fun t=> !(aS q.t).isEmpty && (aS q.t).all fun w=>decide (t∈bZ L q.i w))∧H'=[]):=by
 have bv:=hx.big;have bw:=fP q.t;refine yT.ob func134 ?_;intro w0 _;refine Cj.sr (aB rfl (BL ?_));intro b1 _;refine aA yQ ?_;refine J.yV (aA yP ?_);refine aA (zX CP zZ (yR.at 0 rfl)) ?_;refine aB rfl (yS (H1:=[]) rfl rfl rfl rfl rfl (a9K xv L q p c hq _ hx) ?_ (fun _ _ _ _ ⟨_,_,h,_⟩=>by cases h) (fun _ _ ⟨_,_,h,_⟩=>by cases h));intro _ _ _ b3 bc;have hx:=hx.mono b3;obtain⟨wl,ls,h,an,A,rfl⟩:=bc;cases h;have ao:∀x∈ls,x.1.length≤1000000:=fun x hx=>by
  have h9:x.1∈ls.map (·.1):=bC hx;rw[an]at h9;obtain⟨y,_,hy⟩:=dB.1 h9;rw[←hy];exact IU (b5F _ _ _) oM
 have az:ls.length=(aS q.t).length:=by have h:=zD dX an;rw[aK,aK]at h;exact h
 obtain⟨pl,cl,b4,bd,-⟩:=id A.1;subst b4;refine aA yQ ?_;refine J.AO (aF (aA yP ?_));refine aA (AU PL) ?_;refine aA BO ?_;refine J.cd (fun al=>?_) (fun al=>?_)
 ·have b5:=CS al;refine Cj.sr (aA yQ ?_);refine J.ns (Cj.rs (bI ?_));refine zN ?_;exact⟨_,rfl,.inl ⟨rfl,fun t=>by rw[show aS q.t=[] from fF.1 (by have h:=CS al;omega)];rfl⟩,rfl⟩
 have b5:=CX al;have af:0<ls.length:=by have h:=CX al;omega
 obtain⟨⟨ap,_⟩,ae⟩:∃x,ls[0]?=some x:=⟨_,DX af⟩;obtain⟨p1,c1,be,_,hp⟩:=id A.1;cases be;obtain⟨_,lo,_,_,_,_,rfl,ag,bf⟩:=hp (AX af);have ac:=A.2 _ (FB ae);dsimp only at ac;have aq:=ao _ (FB ae);dsimp only at aq;obtain⟨pa,ca,rfl⟩:=RS ac;have G:=zY.cut (f:=lrC) (sz:=1) (fun _=>rfl) A.1 (j:=1) (k:=ls.length) af (bQ _);rw[aX sI]at G;obtain⟨p4,c4,b0⟩:=RS G;rw[b0]at G;refine Cj.ks (Cj.sr (aA yP ?_));refine aA (BG (off':=lo+0) PL a0O) ?_;refine aA (EN isAgg70 (aG ag) (a4l bf ae)) ?_;refine aB rfl (AZ PL a0O a4D (fB rfl eG) ?_);intro b8 ar;refine fU ar (fun _ ah ai=>?_);have hx:=hx.mono ah;have A:=A.mono ah;have ag:=ah _ _ ag;have ac:=ac.mono ah;have G:=G.mono ah;have aj:LLS _ [(ap,.slice pa _ ca)] (.slice (some ⟨b8,0,none⟩) 1 1):=⟨iF (l:=[((ap,.slice pa _ ca):LR)]) (sp:=[]) (bQ _) ai,fun x hx=>by rw[aU.1 hx];exact ac⟩;refine aB rfl (yS (H1:=[]) rfl rfl rfl rfl rfl (a5p [(ap,_)] _ (by show 1≤_;decide) (fun x hx=>by rw[aU.1 hx];exact aq) _ aj) ?_ (fun _ _ _ _ ⟨_,h,_⟩=>by cases h) (fun _ _ ⟨_,h,_⟩=>by cases h));intro _ _ _ a7 b6;have hx:=hx.mono a7;have ag:=a7 _ _ ag;have ac:=ac.mono a7;have G:=G.mono a7;have ai:=a7 _ _ ai;have aj:=aj.mono a7;have A:=A.mono a7;obtain⟨wb,h,ob,mb,kb,rfl,bg,rfl⟩:=b6;cases h;refine aA yQ ?_;refine J.AO (iP rfl (fun au=>?_));refine aY (au _ (.head _)) (fun I7 ab bh=>?_);have hx:=hx.mono ab;have ag:=ab _ _ ag;have ac:=ac.mono ab;have G:=G.mono ab;have ai:=ab _ _ ai;have aj:=aj.mono ab;have A:=A.mono ab;have hset:NM I7 (.map (some ob)) (a1p (ls.take (0+1))):= .inr ⟨ob,mb,kb,rfl,bg.congr (fun t=>by rw[c3B ae t,a1O]),bh⟩;refine aF (aA yP ?_);refine aA (b0c (j:=1) rfl rfl rfl PL a0O rfl af bd) ?_;refine gG 22 rfl (show _= .slice p4 (ls.drop 1).length c4 from b0) ?_;refine aA (AU PL) ?_;refine aA yP ?_;refine J.ns (aO (dU (ι:=Nat×Heap×Value) (fun y=>y.1+1≤ls.length∧Le I7 y.2.1∧NM y.2.1 y.2.2 (a1p (ls.take (y.1+1)))) (fun y=>ls.length-y.1) (fun y=>[(3,ptr b1 0),(6,y.2.2),(22,.slice p4 (ls.drop 1).length c4),(23,i64 ((ls.drop 1).length:Int)),(24,i64 (y.1:Int))]) (fun y=>y.2.1) (fun y=>[(b1,yY 66 (EX q p c))]) (0,_,_) ⟨af,bD _,hset⟩ rT rfl rfl ?_));clear hset;rintro⟨i,_,sv⟩ ⟨hi,a0,hset⟩;dsimp only at hi a0 hset ⊢;have A:=A.mono a0;have G:=G.mono a0;have bx:(ls.drop 1).length=ls.length-1:=List.length_drop;refine Cj.sr (aA BM ?_);refine J.nss (bH rfl (fun am=>?_) (fun am=>?_))
 ·have av:=BH am;have bi:i+1<ls.length:=oM;obtain⟨⟨xs,bj⟩,ak⟩:∃x,ls[i+1]?=some x:=⟨_,DX bi⟩;have bl:(ls.drop 1)[i]?=some (xs,bj):=by rw[List.getElem?_drop,Nat.add_comm];exact ak
  obtain⟨_,_,b7,_,bm⟩:=id G;cases b7;obtain⟨tb,bn,_,_,_,_,rfl,a6,bo⟩:=bm (AX (oM:i<(ls.drop 1).length));have a2:=A.2 _ (FB ak);dsimp only at a2;have hxl:=ao _ (FB ak);dsimp only at hxl;obtain⟨pb,cb,rfl⟩:=RS a2;have bp:=a9X ak;refine Cj.ks (bK (aO (Cj.sr (aA (BG (off':=bn+i) PL a0O) ?_))));refine aA (EN isAgg70 (aG a6) (a4l bo bl)) ?_;refine aA yQ ?_;refine J.yV (aA yP ?_);refine aB rfl (AZ PL a0O a4D (fB rfl eG) ?_);intro bq hb17;refine fU hb17 (fun _ aa O=>?_);have A:=A.mono aa;have G:=G.mono aa;have hset:=hset.mono aa;have a0:=a0.mono aa;have a6:=aa _ _ a6;have a2:=a2.mono aa;have a3:LLS _ [(xs,.slice pb _ cb)] (.slice (some ⟨bq,0,none⟩) 1 1):=⟨iF (l:=[((xs,.slice pb _ cb):LR)]) (sp:=[]) (bQ _) O,fun x hx=>by rw[aU.1 hx];exact a2⟩;refine aB rfl (yS (H1:=[]) rfl rfl rfl rfl rfl (a5p [(xs,_)] _ (by show 1≤_;decide) (fun x hx=>by rw[aU.1 hx];exact hxl) _ a3) ?_ (fun _ _ _ _ ⟨_,h,_⟩=>by cases h) (fun _ _ ⟨_,h,_⟩=>by cases h));intro _ _ _ a4 b9;have G:=G.mono a4;have hset:=hset.mono a4;have a0:=a0.mono a4;have a6:=a4 _ _ a6;have a2:=a2.mono a4;have O:=a4 _ _ O;have a3:=a3.mono a4;have A:=A.mono a4;obtain⟨_,h,oc,mc,kc,rfl,br,rfl⟩:=b9;cases h;refine aB rfl (BP zeroValue124 ?_);intro b2 ba;refine aB rfl (zS 0 sizeOf124 (bT dY) aZ ?_);refine J.ns (Cj.pull (Pull.s Pull.z) ?_);refine iP rfl (fun aw=>?_);refine aY (aw _ (.head _)) (fun I6 a9 bt=>?_);have G:=G.mono a9;have hset:=hset.mono a9;have a0:=a0.mono a9;have a6:=a9 _ _ a6;have a2:=a2.mono a9;have O:=a9 _ _ O;have a3:=a3.mono a9;have A:=A.mono a9;have a8:NM I6 (.map (some oc)) (VQ xs):= .inr ⟨oc,mc,kc,rfl,br.congr (fun t=>zD (fun l=>VQ l t) (a1O _ _)),bt⟩;refine aY ba (fun _ a1 ad=>?_);have G:=G.mono a1;have hset:=hset.mono a1;have a0:=a0.mono a1;have a6:=a1 _ _ a6;have a2:=a2.mono a1;have O:=a1 _ _ O;have a3:=a3.mono a1;have A:=A.mono a1;have a8:=a8.mono a1;refine aF (aA yP ?_);refine aA (EH rfl rfl rfl) ?_;refine aB rfl (yS (H1:=[]) rfl rfl rfl rfl rfl (a0f _ (a1p (ls.take (i+1))) (VQ xs) _ [ptr b2 0] _ hset (fun t _=>c5X b2 _ (VQ xs) t _ ad a8)) ?_ (fun _ _ _ _ ⟨_,h,_⟩=>by cases h) (fun _ _ ⟨_,h,_⟩=>by cases h));intro _ _ _ Z bb;have G:=G.mono Z;have hset:=hset.mono Z;have a0:=a0.mono Z;have a6:=Z _ _ a6;have a2:=a2.mono Z;have O:=Z _ _ O;have a3:=a3.mono Z;have A:=A.mono Z;have a8:=a8.mono Z;have ad:=Z _ _ ad;obtain⟨_,h,od,md,kd,rfl,bu,rfl⟩:=bb;cases h;refine aA yQ ?_;refine J.nb (iP rfl (fun ax=>?_));refine aY (ax _ (.head _)) (fun I8 a5 ar=>?_);have G:=G.mono a5;have hset:=hset.mono a5;have a0:=a0.mono a5;have a6:=a5 _ _ a6;have a2:=a2.mono a5;have O:=a5 _ _ O;have a3:=a3.mono a5;have A:=A.mono a5;have a8:=a8.mono a5;have ad:=a5 _ _ ad;have ay:NM I8 (.map (some od)) (a1p (ls.take (i+1+1))):= .inr ⟨od,md,kd,rfl,bu.congr (fun t=>(bp t).symm),ar⟩;refine aF (aA (yZ rfl rfl rfl (AA oM)) ?_);refine aA yP ?_;refine fK (cZ (i+1,_,_) ⟨dO,a0,ay⟩ dO rT rfl rfl)
 have av:=BN am;refine Cj.xl (Cj.sr (aA yP ?_));refine aA yQ ?_;refine J.ns (aT (bI ?_));refine zN ?_;refine⟨_,rfl,?_,rfl⟩;rw[aX (oM:ls.length≤i+1)]at hset;refine hset.congr fun t=>?_;rw[allL an];rw[show(aS q.t).isEmpty=false from by
  cases hw:aS q.t with
  |nil=>rw[hw]at az;rw[az]at af;exact absurd af (Nat.lt_irrefl 0)
  |cons a r=>rfl]
 rfl
theorem c5S xv L q p c (hq:q.t.length≤10000000) I (O:QB I xv L)(hT:MW I)(ab:fQ L):yT aC 136 [xv,.agg (EX q p c).toArray] I [] (fun e _ H'=>∃w,e= .returned w∧a0P w (fun t=>decide (t∈fC L q.i (bG L q.i (bF q.i q.t)))) H'):=by
 have a4:=O.big;have a5:=O.LD;have a6:=O.vok;obtain⟨_,_⟩:=a4M a5 a6 a4 q.i q.t;refine yT.ob func136 ?_;intro w0 _;refine Cj.sr (aB rfl (BL ?_));intro _ ac;refine aA yQ ?_;refine J.nss (aY ac (fun _ a7 G=>?_));have O:=O.mono a7;have hT:=hT.mono a7;refine fO [] [] 11 kR ?_;have a1:=G;refine fD BQ (fun a0=>?_);refine aN 0 rfl a0 yP ?_;refine aN 1 rfl a0 (qq2 (off':=1) DI zL) ?_;refine aN 2 rfl a0 (yX BX (dW a1)) ?_;refine aN 3 rfl a0 yP ?_;refine aN 4 rfl a0 (qq2 (off':=1) DI zL) ?_;refine aN 5 rfl a0 (yX BX (dW a1)) ?_;refine aN 6 rfl a0 (qq2 (off':=3) DI zL) ?_;refine aN 7 rfl a0 (yX BX (dW a1)) ?_;refine zT 8 rfl (FU rfl rfl rfl rfl rfl (a6Y xv L q.i q.t oM VJ _ O) ?_ (fun _ _ _ _ ⟨_,h,_⟩=>by cases h) (fun _ _ ⟨_,h,_⟩=>by cases h));intro _ _ _ Z ad a8;have O:=O.mono Z;have hT:=hT.mono Z;have G:=Z _ _ G;obtain⟨_,h,ae⟩:=a8;cases h;have af:=ad;refine⟨⟨(aI (bD _) Z),bV,bW⟩,?_⟩;refine iQ ae af (fun _ a2 a3=>?_);have O:=O.mono a2;have hT:=hT.mono a2;have G:=a2 _ _ G;replace a3:=a3.row;obtain⟨_,_,ag,_,-⟩:=id a3;subst ag;refine zT 9 rfl (yS (H1:=[]) rfl rfl rfl rfl rfl (b2v xv L q.i ((dG L q.i q.t VJ).map KP) _ (b0u ab a5 a6 a4 q.i q.t) oM _ O hT a3) ?_ (fun _ _ _ _ ⟨_,h,_⟩=>by cases h) (fun _ _ ⟨_,h,_⟩=>by cases h));intro _ _ _ A a9;have O:=O.mono A;have hT:=hT.mono A;have G:=A _ _ G;have a3:=a3.mono A;obtain⟨wb,h,ob,mb,kb,rfl,ah,rfl⟩:=a9;cases h;refine⟨⟨(aI (aI (aI (bD _) Z) a2) A),bV,bW⟩,?_⟩;refine fD ⟨bV,bW,(aI (aI (aI (bD _) Z) a2) A)⟩ (fun aa=>?_);refine aN 10 rfl aa yQ ?_;refine AL ?_;refine eX (aT (aP (aH aQ) ?_));refine zN ?_;exact⟨_,rfl,ob,mb,kb,rfl,ah.congr fun t=>zD (fun l=>VQ (fC L q.i l) t) (WW a5 a6 a4 q.i q.t),rfl⟩
theorem c4J xv L q p c (hq:q.t.length≤10000000) I (O:QB I xv L)(hT:MW I)(al:fQ L):yT aC 139 [xv,.agg (EX q p c).toArray] I [] (fun e _ H'=>∃w,e= .returned w∧a0P w (fun t=>decide (t∈fC L q.i ((bG L q.i []).take ((bG L q.i []).length-(bG L q.i (bF q.i q.t)).length)))) H'):=by
 have a8:=O.big;have a4:=O.LD;have a9:=O.vok;obtain⟨am,_⟩:=a4M a4 a9 a8 q.i q.t;obtain⟨ae,af⟩:=a4M a4 a9 a8 q.i [];rw[Ix.b0w]at ae af;have ay:=c3s a4 q.i (bF q.i q.t);refine yT.ob func139 ?_;intro w0 _;refine Cj.sr (aB rfl (BL ?_));intro _ an;refine aA yQ ?_;refine J.nss (aY an (fun _ ab A=>?_));have O:=O.mono ab;have hT:=hT.mono ab;refine fO [] [] 12 kR ?_;have a5:=A;refine fD BQ (fun a3=>?_);refine aN 0 rfl a3 yP ?_;refine aN 1 rfl a3 (qq2 (off':=1) DI zL) ?_;refine aN 2 rfl a3 (yX BX (dW a5)) ?_;refine aN 4 rfl a3 yP ?_;refine aN 5 rfl a3 (qq2 (off':=1) DI zL) ?_;refine aN 6 rfl a3 (yX BX (dW a5)) ?_;refine aN 7 rfl a3 (qq2 (off':=3) DI zL) ?_;refine aN 8 rfl a3 (yX BX (dW a5)) ?_;refine zT 3 rfl (FU rfl rfl rfl rfl rfl (a6Y xv L q.i [] dE VJ _ O) ?_ (fun _ _ _ _ ⟨_,h,_⟩=>by cases h) (fun _ _ ⟨_,h,_⟩=>by cases h));intro _ _ _ a2 ao ag;have O:=O.mono a2;have hT:=hT.mono a2;have A:=a2 _ _ A;obtain⟨_,h,ap⟩:=ag;cases h;have aq:=ao;refine⟨⟨(aI (bD _) a2),bV,bW⟩,?_⟩;refine iQ ap aq (fun _ a6 a1=>?_);have O:=O.mono a6;have hT:=hT.mono a6;have A:=a6 _ _ A;replace a1:=a1.row;obtain⟨_,_,ar,_,-⟩:=id a1;subst ar;refine zT 9 rfl (FU rfl rfl rfl rfl rfl (a6Y xv L q.i q.t oM VJ _ O) ?_ (fun _ _ _ _ ⟨_,h,_⟩=>by cases h) (fun _ _ ⟨_,h,_⟩=>by cases h));intro _ _ _ a0 ah ai;have O:=O.mono a0;have hT:=hT.mono a0;have A:=a0 _ _ A;have a1:=a1.mono a0;obtain⟨_,h,au⟩:=ai;cases h;have av:=ah;refine⟨⟨(aI (aI (aI (bD _) a2) a6) a0),bV,bW⟩,?_⟩;refine iQ au av (fun _ a7 aa=>?_);have O:=O.mono a7;have hT:=hT.mono a7;have A:=a7 _ _ A;have a1:=a1.mono a7;replace aa:=aa.row;obtain⟨_,cd,aw,_,-⟩:=id aa;subst aw;refine fD ⟨bV,bW,(aI (aI (aI (aI (bD _) a2) a6) a0) a7)⟩ (fun ac=>?_);refine aN 10 rfl ac yQ ?_;refine aN 11 rfl ac yQ ?_;refine AL ?_;refine eX (bK (fO [] [] 12 kR ?_));have ad:=A;refine fD BQ (fun G=>?_);refine aN 0 rfl G yP ?_;refine aN 1 rfl G (qq2 (off':=1) DI zL) ?_;refine aN 2 rfl G (yX BX (dW ad)) ?_;refine aN 3 rfl G yP ?_;refine aN 4 rfl G yP ?_;refine aN 5 rfl G (AU KL) ?_;refine aN 6 rfl G yP ?_;refine aN 7 rfl G (AU KL) ?_;refine aN 8 rfl G (IC rfl rfl rfl (AA oM)) ?_;refine JA.eqv 25 rfl (show _=i64 ((((dG L q.i [] VJ).map KP).length-((dG L q.i q.t VJ).map KP).length):Nat) from(zD i64 oM)) ?_;refine aN 9 rfl G (a7k rfl rfl rfl KL IQ oM) ?_;refine zT 10 rfl (yS (H1:=[]) rfl rfl rfl rfl rfl (b2v xv L q.i (((dG L q.i [] VJ).map KP).take (((dG L q.i [] VJ).map KP).length-((dG L q.i q.t VJ).map KP).length)) _ (fun x O=>b0u al a4 a9 a8 q.i [] x (List.mem_of_mem_take O)) (by rw[fA];omega) _ O hT (zY.take a1 (Nat.sub_le _ _))) ?_ (fun _ _ _ _ h=>by obtain⟨_,h,_⟩:=h;cases h) (fun _ _ h=>by obtain⟨_,h,_⟩:=h;cases h));intro _ _ _ Z aj;have O:=O.mono Z;have hT:=hT.mono Z;have A:=Z _ _ A;have a1:=a1.mono Z;have aa:=aa.mono Z;obtain⟨wb,h,ob,mb,kb,rfl,ax,rfl⟩:=aj;cases h;refine⟨⟨(aI (bD _) Z),bV,bW⟩,?_⟩;refine fD ⟨bV,bW,(aI (bD _) Z)⟩ (fun ak=>?_);refine aN 11 rfl ak yQ ?_;refine AL ?_;refine eX (aT (aP (aH aQ) ?_));refine zN ?_;exact⟨_,rfl,ob,mb,kb,rfl,ax.congr fun t=>by rw[List.map_take,WW a4 a9 a8 q.i [],am,ae,Ix.b0w];rfl,rfl⟩
theorem b2S I:yT aC 74 [] I [] (fun e O H'=>∃kb Z,e= .returned (.map (some Z))∧O kb=some (yY 125 [.func (.func 127) #[] #[]])∧O Z=some (BD (fun a:List UInt8=>str a) (c3l kb) 6)∧H'=[]):=by
 refine yT.ob func74 ?_;intro w0 _;refine Cj.sr (aA yQ ?_);refine J.yV (aB rfl (BP zeroValue125 ?_));intro b1 a0;refine aB rfl (zS 0 sizeOf125 (bT dY) aZ ?_);refine J.yV (aB rfl (CB rfl rfl rfl ?_));intro b2 a1;refine aA (EH rfl rfl rfl) ?_;refine aB rfl (FZ (kv:=(fun a:List UInt8=>str a)) (l:=[]) (c:=0) (a:=[61]) 0 (.inl rfl) rfl rfl rfl rfl rfl a3r (dQ BF) rfl aZ ?_);refine aA (yX isAgg125 (yR.at 1 rfl)) ?_;refine aB rfl (FZ (kv:=(fun a:List UInt8=>str a)) (a:=[61,61]) 0 (.inl rfl) rfl rfl rfl rfl rfl a3r (dQ BF) rfl aZ ?_);refine aB rfl (FZ (kv:=(fun a:List UInt8=>str a)) (a:=[97,110,121]) 0 (.inl rfl) rfl rfl rfl rfl rfl a3r (dQ BF) rfl aZ ?_);refine aB rfl (FZ (kv:=(fun a:List UInt8=>str a)) (a:=[97,108,108]) 0 (.inl rfl) rfl rfl rfl rfl rfl a3r (dQ BF) rfl aZ ?_);refine aB rfl (FZ (kv:=(fun a:List UInt8=>str a)) (a:=[62,61]) 0 (.inl rfl) rfl rfl rfl rfl rfl a3r (dQ BF) rfl aZ ?_);refine aB rfl (FZ (kv:=(fun a:List UInt8=>str a)) (a:=[60]) 0 (.inl rfl) rfl rfl rfl rfl rfl a3r (dQ BF) rfl aZ ?_);refine aA yP ?_;refine aA yQ ?_;refine J.ns (aT (Ej.pull (Pull.s Pull.z) ?_));refine Ej.persist a0 (fun _ _ h=>?_);refine Ej.persist a1 (fun _ A G=>?_);have h:=A _ _ h;refine bI ?_;refine zN ?_;exact⟨b1,b2,rfl,h,G,rfl⟩
end Go.Proofs.YtojdemmgkdokmaaGreatDoor
namespace Ix
open Ke
theorem a2M L {t}:∀(n:Nat) (q:Cq.Qn),q.size<n→Cq.form q=true→sat L q t=true→t∈L.map (·.1)
 |0,_,h,_,_=>absurd h (Nat.not_lt_zero _)
 |n+1,q,hn,hf,h=>by
  rcases Cq.a1T hf with G|⟨G,h2,h4,a,b,A,O,Z⟩
  ·rw[b3d G]at h;exact c5f h
  rw[b5q G A]at h;have hs:=A.size;unfold comb at h
  split at h
  ·rw[dK]at h;exact a2M L n a oM O h.1
  split at h
  ·rw[Bool.or_eq_true]at h;exact h.elim (a2M L n a oM O) (a2M L n b oM Z)
  rw[dK]at h;exact a2M L n a oM O h.1
theorem b3x{L q}(hf:Cq.form q=true){l}(G:l.Pairwise (a0X L))(A:∀t,t∈l↔sat L q t=true):QI L q l:=
 ⟨G,fun t=>⟨fun h=>⟨a2M L _ q (gK _) hf ((A t).1 h),(A t).1 h⟩,fun h=>(A t).2 h.2⟩⟩
end Ix
namespace Ix
open Ke
theorem a1s{L q l}(h1:l.Pairwise (a0X L))(h2:∀t∈L.map (·.1),(t∈l↔sat L q t=true))(h3:∀t∈l,t∈L.map (·.1)):QI L q l:=
 ⟨h1,fun t=>⟨fun h=>⟨h3 t h,(h2 t (h3 t h)).1 h⟩,fun h=>(h2 t h.1).2 h.2⟩⟩
end Ix
namespace Go.Proofs.YtojdemmgkdokmaaGreatDoor
open _root_.Go.Proofs.Tryz
open Go Go.Sx
theorem yT.b8y{f args I S}(h:yT aC f args I [] (fun e G H'=>∃w,e= .returned w∧(a0P w S H'∨(NM G w S∧H'=[])))):yT aC f args I [] (fun e G H'=>∃w,e= .returned w∧NM G w S∧H'=[]):=by
 refine⟨h.1,fun w O=>(h.2 w O).mono ?_⟩;rintro e w' ⟨G,H',A,u,rfl,Z|⟨hv,rfl⟩⟩
 ·obtain⟨b,m,k,rfl,hm,rfl⟩:=Z;have hb:w.heap.size≤b:=(A.new _ (.head _)).resolve_left sI;exact⟨_,_,A.persist hb,_,rfl,.inr ⟨b,m,k,rfl,hm,a1i _ _ _⟩,rfl⟩
 exact⟨_,_,A,_,rfl,hv,rfl⟩
theorem yT.a4V{f args I S A}(h:yT aC f args I [] (fun e _ H'=>∃w,e= .returned w∧a0P w S H'))(G:∀t,S t=A t):yT aC f args I [] (fun e O H'=>∃w,e= .returned w∧NM O w A∧H'=[]):=
 yT.b8y (h.mono fun _ _ _ _ ⟨w,h1,b,m,k,h2,h3,Z⟩=>⟨w,h1,.inl ⟨b,m,k,h2,h3.congr G,Z⟩⟩)
theorem c5G A L q p c kb (hq:q.t.length≤10000000)(Z:fQ L)(hr:fE.contains q.r=true) I (G:QB I A L)(hT:MW I)(a0:I kb=some (yY 125 [.func (.func 127) #[] #[]])):
 ∃F O,(BK (c3l kb) q.r).getD .nilFunc= .func (.func F) #[] (fV O)∧yT aC F (A:: .agg (EX q p c).toArray::O) I [] (fun e I' H'=>∃w,e= .returned w∧NM I' w (fun t=>Ix.b2z L q.i q.r q.t t)∧H'=[]):=by
 have hm:q.r∈fE:=List.contains_iff_mem.1 hr;simp only[fE,iI,gQ,or_false]at hm;rcases hm with h|h|h|h|h|h<;>rw[h]
 ·exact⟨_,[ptr kb 0],rfl,yT.a4V (c5z A L q p c hq I G kb a0) fun t=>rfl⟩
 ·exact⟨_,[],rfl,yT.a4V (b5k A L q p c hq I G) fun t=>rfl⟩
 ·exact⟨_,[],rfl,yT.a4V (c4J A L q p c hq I G hT Z) fun t=>rfl⟩
 ·exact⟨_,[],rfl,yT.a4V (c5S A L q p c hq I G hT Z) fun t=>rfl⟩
 ·exact⟨_,[],rfl,yT.a4V (c5o A L q p c hq I G) fun t=>rfl⟩
 exact⟨_,[],rfl,c4H A L q p c hq I G⟩
def a5k (xv:Value) (L:Ix.Ix) (q:Cq.Qn):Prop:=∀(p:Option Addr) (c:Nat) (I:Heap),PS I q.ps p→QB I xv L→MW I→q.wide≤10000000→Cq.form q=true→yT aC 43 [xv,.agg (EX q p c).toArray] I [] (fun e I' H'=>∃w,e= .returned w∧NM I' w (aW L q)∧H'=[])
theorem b2I xv L (cu:fQ L) q (ih:∀q',Cq.Qn.size q'<q.size→a5k xv L q'):a5k xv L q:=by
 intro p c I hps hx hT cx aw;refine yT.b8y ?_;refine yT.ob func43 ?_;intro w0 _;refine Cj.sr (aB rfl (BL ?_));intro b1 _;refine aA yQ ?_;refine J.AO (aF (aA (qq2 (off':=0) DI AB) ?_));refine aA (yX DT (yR.at 0 rfl)) ?_;refine aA BO ?_;refine J.cd (fun bd=>?_) (fun bd=>?_)
 ·have c7:=CS bd;have hk:q.k=1:=oM;have c8:fE.contains q.r=true:=by
   rw[Cq.a4d hk,dK,dK]at aw;exact aw.1.2
  have cy:q.t.length≤10000000:=by unfold Cq.Qn.wide at cx;omega
  refine bK (fO [0] [] 8 kR ?_);refine fD ⟨(gY 0 rfl bV),bW,(bD _)⟩ (fun ba=>?_);refine aN 1 rfl ba (qq2 (off':=2) DI zL) ?_;refine aN 2 rfl ba (yX BX (yR.QE 0 rfl)) ?_;refine aN 4 rfl ba yP ?_;refine aN 5 rfl ba (zX CP zZ (yR.QE 0 rfl)) ?_;refine zT 0 rfl (yS (H1:=[]) rfl rfl rfl rfl rfl (b2S _) ?_ (fun _ _ _ _ ⟨_,_,h,_⟩=>by cases h) (fun _ _ ⟨_,_,h,_⟩=>by cases h));intro _ _ _ hle7 cz;have hps:=hps.mono hle7;have hx:=hx.mono hle7;have hT:=hT.mono hle7;obtain⟨c2,_,h,b4,b5,rfl⟩:=cz;cases h;obtain⟨F,c9,hF,d0⟩:=c5G xv L q p c c2 cy cu c8 _ hx hT b4;refine⟨⟨(aI (bD _) hle7),(gY 0 rfl bV),bW⟩,?_⟩;refine zT 3 rfl (zK (CO (kv:=(fun a:List UInt8=>str a)) (l:=(c3l c2)) (a:=q.r) rfl rfl rfl rfl a3r (dQ BF) zeroValue125 (aG b5)) ?_);refine⟨⟨(aI (bD _) hle7),(gY 0 rfl bV),bW⟩,?_⟩;refine JA.eqv 15 rfl (show _= .func (.func F) #[] c9.toArray from hF) ?_;refine zT 6 rfl (yS (H1:=[]) rfl rfl rfl rfl rfl (d0) ?_ (fun _ _ _ _ ⟨_,h,_⟩=>by cases h) (fun _ _ ⟨_,h,_⟩=>by cases h));intro _ _ _ a6 hp13;have hps:=hps.mono a6;have hx:=hx.mono a6;have hT:=hT.mono a6;have b4:=a6 _ _ b4;have b5:=a6 _ _ b5;obtain⟨_,h,hset,rfl⟩:=hp13;cases h;refine⟨⟨(aI (aI (bD _) hle7) a6),(gY 0 rfl bV),bW⟩,?_⟩;refine fD ⟨(gY 0 rfl bV),bW,(aI (aI (bD _) hle7) a6)⟩ (fun fx14=>?_);refine aN 7 rfl fx14 yQ ?_;refine AL ?_;refine eX (Cj.rs (bI ?_));refine zN ?_;exact⟨_,rfl,.inr ⟨hset.congr fun t=>(Ix.b3d hk).symm,rfl⟩⟩
 have c7:=CX bd;have hk:q.k≠1:=oM;obtain⟨_,_,_,qa,qb,b2,d1,c3⟩:=(Cq.a1T aw).resolve_left hk;obtain⟨bl,off,cs',T,fr,pa,ca,pb,cb,rfl,G,d2,c4,_,be,O⟩:=hps.b7Y b2;have b6:=b2.size;have d6:=b2.wide;have d7:=b2.len;have a4:∀t,aW L q t=Ix.comb q.k (aW L qa t) (aW L qb t):=fun t=>Ix.b5q hk b2;refine Cj.ks (Cj.sr (aA yP ?_));refine aA (qq2 (off':=4) DI MH) ?_;refine aA (yX isAgg64 (yR.at 0 rfl)) ?_;refine aA (BG (off':=off) tU64 zZ) ?_;refine aA (FH CP zZ (aG G) d2) ?_;refine aB rfl (yS (H1:=[]) rfl rfl rfl rfl rfl (ih qa b6.1 pa ca _ be hx hT oM d1) ?_ (fun _ _ _ _ ⟨_,h,_⟩=>by cases h) (fun _ _ ⟨_,h,_⟩=>by cases h));intro _ _ _ al ce;have hx:=hx.mono al;have hT:=hT.mono al;have G:=al _ _ G;have be:=be.mono al;have O:=O.mono al;obtain⟨_,h,A,rfl⟩:=ce;cases h;rcases id A with⟨rfl,d3⟩|⟨ab,am,ak,rfl,d4,d5⟩
 ·have hz:∀t,aW L qa t=false:=d3;refine aA yQ ?_;refine J.ns (Cj.join (ι:=Heap×Option Nat) (fun y=>NM y.1 (.map y.2) (aW L qa)∧PS y.1 qb.ps pb∧QB y.1 xv L∧MW y.1∧y.1 bl=some (.cells (fV cs') T fr)) (fun y=>[(0,xv),(3,ptr b1 0),(5,.map y.2)]) (fun y=>y.1) (fun y=>[(b1,yY 66 (EX q (some ⟨bl,off,none⟩) c))]) ?_ (fun ax=>?_))
  ·rintro⟨J6,oa⟩ ⟨A,O,hx,hT,G⟩;dsimp only at A O hx hT G ⊢;refine Cj.sr (aA yP ?_);refine aA (qq2 (off':=4) DI MH) ?_;refine aA (yX isAgg64 (yR.at 0 rfl)) ?_;refine aA (BG (off':=off+5) tU64 zZ) ?_;refine aA (FH CP zZ (aG G) c4) ?_;refine aB rfl (yS (H1:=[]) rfl rfl rfl rfl rfl (ih qb b6.2 pb cb _ O hx hT oM c3) ?_ (fun _ _ _ _ ⟨_,h,_⟩=>by cases h) (fun _ _ ⟨_,h,_⟩=>by cases h));intro _ _ _ hle23 cf;have A:=A.mono hle23;have O:=O.mono hle23;have hx:=hx.mono hle23;have hT:=hT.mono hle23;have G:=hle23 _ _ G;obtain⟨wb,h,Z,rfl⟩:=cf;cases h;obtain⟨bo,rfl⟩:=Z.shape;refine aB rfl (BP zeroValue124 ?_);intro b25 b7;refine aB rfl (zS 0 sizeOf124 (bT dY) aZ ?_);refine J.AO (aF (aA (qq2 (off':=0) DI AB) ?_));refine aA (yX DT (yR.at 1 rfl)) ?_;refine J.ns (aO (Cj.sr (aA BO ?_)));refine aA yQ ?_;refine J.cd (fun ao=>?_) (fun ao=>?_)
   ·have br:=CS ao;have a3:q.k=2:=CS ao;refine bK (aY b7 (fun _ ae a0=>?_));have A:=A.mono ae;have O:=O.mono ae;have hx:=hx.mono ae;have hT:=hT.mono ae;have G:=ae _ _ G;have Z:=Z.mono ae;refine aF (aA yP ?_);refine aA (EH rfl rfl rfl) ?_;refine aB rfl (yS (H1:=[]) rfl rfl rfl rfl rfl (a0f _ (aW L qa) (aW L qb) _ [ptr b25 0] _ A (fun t _=>b5m b25 _ (aW L qb) t _ a0 Z)) ?_ (fun _ _ _ _ ⟨_,h,_⟩=>by cases h) (fun _ _ ⟨_,h,_⟩=>by cases h));intro _ _ _ a7 ch;have A:=A.mono a7;have O:=O.mono a7;have hx:=hx.mono a7;have hT:=hT.mono a7;have G:=a7 _ _ G;have Z:=Z.mono a7;have a0:=a7 _ _ a0;obtain⟨wd,h,od,md,kd,rfl,a5,rfl⟩:=ch;cases h;refine aA yQ ?_;refine J.ns (aT (fZ (gB (aP (aH (aJ aQ)) ?_))));refine zN ?_;exact⟨_,rfl,.inl ⟨od,md,kd,rfl,a5.congr fun t=>by rw[a4 t,a3];rfl,rfl⟩⟩
   have br:=CX ao;have ci:q.k≠2:=CX ao;refine Cj.sr (aA BO ?_);refine aA yQ ?_;refine J.cd (fun ap=>?_) (fun ap=>?_)
   ·have bt:=CS ap;have a3:q.k=4:=CS ap;refine bK (aY b7 (fun _ af a0=>?_));have A:=A.mono af;have O:=O.mono af;have hx:=hx.mono af;have hT:=hT.mono af;have G:=af _ _ G;have Z:=Z.mono af;refine aF (aA yP ?_);refine aA (EH rfl rfl rfl) ?_;refine aB rfl (yS (H1:=[]) rfl rfl rfl rfl rfl (a0f _ (aW L qa) (fun t=> !aW L qb t) _ [ptr b25 0] _ A (fun t _=>b4U b25 _ (aW L qb) t _ a0 Z)) ?_ (fun _ _ _ _ ⟨_,h,_⟩=>by cases h) (fun _ _ ⟨_,h,_⟩=>by cases h));intro _ _ _ a8 cj;have A:=A.mono a8;have O:=O.mono a8;have hx:=hx.mono a8;have hT:=hT.mono a8;have G:=a8 _ _ G;have Z:=Z.mono a8;have a0:=a8 _ _ a0;obtain⟨wd,h,od,md,kd,rfl,a5,rfl⟩:=cj;cases h;refine aA yQ ?_;refine J.ns (aT (fZ (gB (aP (aH (aJ aQ)) ?_))));refine zN ?_;exact⟨_,rfl,.inl ⟨od,md,kd,rfl,a5.congr fun t=>by rw[a4 t,a3];rfl,rfl⟩⟩
   have bt:=CX ap;have cm:q.k≠4:=CX ap;refine Cj.kb (bK (aY b7 (fun _ ag a0=>?_)));have A:=A.mono ag;have O:=O.mono ag;have hx:=hx.mono ag;have hT:=hT.mono ag;have G:=ag _ _ G;have Z:=Z.mono ag;refine aF (aA yP ?_);refine aB rfl (yS (H1:=[]) rfl rfl rfl rfl rfl (a0f _ (aW L qa) (fun _=>true) _ [] _ A (fun t _=>b8A t _)) ?_ (fun _ _ _ _ ⟨_,h,_⟩=>by cases h) (fun _ _ ⟨_,h,_⟩=>by cases h));intro _ _ _ a9 co;have A:=A.mono a9;have O:=O.mono a9;have hx:=hx.mono a9;have hT:=hT.mono a9;have G:=a9 _ _ G;have Z:=Z.mono a9;have a0:=a9 _ _ a0;obtain⟨wd,h,od,md,kd,rfl,a5,rfl⟩:=co;cases h;refine aA yQ ?_;refine J.AO (aF (aA (yX isAgg124 (aG a0)) ?_));rcases id Z with⟨aq,bf⟩|⟨bb,bm,bk,aq,aa,ar⟩
   ·cases aq;refine aB rfl (PX rfl rfl rfl rfl MP ?_);intro _ _;refine J.ns (aO (iG 1 ?_));refine Rj.succ ?_;refine Cj.sr (aB rfl (RZ 0 rfl rfl rfl rfl rfl ?_));refine aA AQ ?_;refine J.nss (bH rfl (fun bg=>aV (dA (dM rfl) bg)) (fun bg=>?_));refine gZ (dD (dD (fM (eX (Cj.sr (aA yP ?_))))));refine aA yQ ?_;refine J.ns (aT (aP (aJ (aH (aJ aQ))) ?_));have a3:q.k=3:=oM;refine zN ?_;exact⟨_,rfl,.inl ⟨od,md,kd,rfl,a5.congr fun t=>by rw[a4 t,a3,dI];show _=(_ || _);rw[bf t,iJ],rfl⟩⟩
   cases aq;refine aB rfl (NZ (kv:=BI) (l:=bm) rfl rfl rfl rfl MP (aG ar) ?_);intro c5 _;refine J.ns (aO (Cj.keep (aH (aH (aJ aQ))) ?_));refine dU (ι:=TC) (fun y=>(y.vis++y.rest).Perm bm∧JQ y.l y.c (a0T y.vis (fun t=>aW L qa t && true))) (fun y=>y.rest.length) (fun y=>[(7,.map (some od)),(54,ptr c5 0)]) (fun y=>_) (fun y=>[(c5,ZI bb bk y.vis bk),(od,BD BI y.l y.c)]) ⟨[],bm,md,kd⟩ ⟨.refl _,a5.congr fun t=>by unfold a0T;simp⟩ rT rfl rfl ?_;rintro⟨vis,rest,l,cc⟩ ⟨hp,hM⟩;dsimp only at hp hM ⊢;refine Cj.sr (aB rfl (PI (kv:=BI) (l:=bm) 0 rfl rfl rfl rfl rfl (aG ar) aa.1.2.2 (bQ _) aa.1.2.1 hp ?_ ?_))
   ·rintro x ay H9 bh b3 ⟨-,hset⟩;simp only[dZ,eF]at hset;subst hset;have bi:x∈bm:=b3.mem_iff.1 (dS _ (dL _ (.head _)));refine aA AQ ?_;refine J.nss (bH rfl (fun bj=>?_) (fun bj=>aV (dA (dM rfl) bj)));refine Cj.ks (aO (Cj.sr (aA (UM (kv:=BI) (l:=bm) rfl rfl (yR.at 0 rfl) (aG ar) bi aa.1.2.1) ?_)));refine aA AQ ?_;refine aB rfl (BP QZ ?_);intro _ _;refine aB rfl (zS 0 AY (bT (bT dY)) aZ ?_);refine J.GL (aA yP ?_);refine aA (zX EI AY (yR.at 0 rfl)) ?_;refine aB rfl (FZ (kv:=BI) (a:=x.1) 2 (.inr rfl) rfl rfl rfl rfl rfl MP GR rfl (fJ (fJ aZ)) ?_);refine fK (dR (aP (aJ (aH (aH aQ))) ?_));refine cZ ⟨vis++[x],ay,_,_⟩ ⟨b3,hM.add x.1 a8m⟩ (by have h:=bh.length_eq;simp only[bU]at h;dsimp only;omega) rT rfl rfl
   intro b8;have hpv:vis.Perm bm:=by rw[b8,bM]at hp;exact hp
   refine aA AQ ?_;refine J.nss (bH rfl (fun hc54=>aV (dA (dM rfl) hc54)) (fun hc54=>?_));refine Cj.xl (Cj.sr (aA yP ?_));refine aA yQ ?_;refine J.ns (aT (aP (aJ (aH aQ)) ?_));have a3:q.k=3:=oM;refine zN ?_;exact⟨_,rfl,.inl ⟨od,l,cc,rfl,hM.congr fun t=>by rw[a4 t,a3,b0v aa hpv,dI];rfl,rfl⟩⟩
  refine Cj.sr (aA yP ?_);refine aA (b1x rfl rfl MP) ?_;refine aA BO ?_;refine aA yP ?_;refine CZ 3 28 true (zK (qq2 (off':=0) DI AB) ?_);refine CZ 3 28 true (zK (yX DT (yR.at 0 rfl)) ?_);refine CZ 3 28 true (zK EY ?_);refine aA JV ?_;refine J.cd (fun az=>?_) (fun az=>?_)
  ·have bu:=bne_iff_ne.1 az;refine Cj.sr (aA yQ ?_);refine J.ns (Cj.rs ?_);have bn:q.k≠3:=bne_iff_ne.1 az;refine bI ?_;refine zN ?_;exact⟨_,rfl,.inr ⟨.inl ⟨rfl,fun t=>by rw[a4 t,hz t];unfold Ix.comb;rw[zF bn];split<;>rfl⟩,rfl⟩⟩
  have bu:=EC az;refine iC ?_;exact ax (_,none) _ _ _ ⟨A,O,hx,hT,G⟩ rT rfl rfl

 refine aA yQ ?_;refine J.ns (Cj.join (ι:=Heap×Option Nat) (fun y=>NM y.1 (.map y.2) (aW L qa)∧PS y.1 qb.ps pb∧QB y.1 xv L∧MW y.1∧y.1 bl=some (.cells (fV cs') T fr)) (fun y=>[(0,xv),(3,ptr b1 0),(5,.map y.2)]) (fun y=>y.1) (fun y=>[(b1,yY 66 (EX q (some ⟨bl,off,none⟩) c))]) ?_ (fun ax=>?_))
 ·rintro⟨J6,oa⟩ ⟨A,O,hx,hT,G⟩;dsimp only at A O hx hT G ⊢;refine Cj.sr (aA yP ?_);refine aA (qq2 (off':=4) DI MH) ?_;refine aA (yX isAgg64 (yR.at 0 rfl)) ?_;refine aA (BG (off':=off+5) tU64 zZ) ?_;refine aA (FH CP zZ (aG G) c4) ?_;refine aB rfl (yS (H1:=[]) rfl rfl rfl rfl rfl (ih qb b6.2 pb cb _ O hx hT oM c3) ?_ (fun _ _ _ _ ⟨_,h,_⟩=>by cases h) (fun _ _ ⟨_,h,_⟩=>by cases h));intro _ _ _ an cp;have A:=A.mono an;have O:=O.mono an;have hx:=hx.mono an;have hT:=hT.mono an;have G:=an _ _ G;obtain⟨wb,h,Z,rfl⟩:=cp;cases h;obtain⟨bo,rfl⟩:=Z.shape;refine aB rfl (BP zeroValue124 ?_);intro bc b9;refine aB rfl (zS 0 sizeOf124 (bT dY) aZ ?_);refine J.AO (aF (aA (qq2 (off':=0) DI AB) ?_));refine aA (yX DT (yR.at 1 rfl)) ?_;refine J.ns (aO (Cj.sr (aA BO ?_)));refine aA yQ ?_;refine J.cd (fun au=>?_) (fun au=>?_)
  ·have bv:=CS au;have a3:q.k=2:=CS au;refine bK (aY b9 (fun _ ah a1=>?_));have A:=A.mono ah;have O:=O.mono ah;have hx:=hx.mono ah;have hT:=hT.mono ah;have G:=ah _ _ G;have Z:=Z.mono ah;refine aF (aA yP ?_);refine aA (EH rfl rfl rfl) ?_;refine aB rfl (yS (H1:=[]) rfl rfl rfl rfl rfl (a0f _ (aW L qa) (aW L qb) _ [ptr bc 0] _ A (fun t _=>b5m bc _ (aW L qb) t _ a1 Z)) ?_ (fun _ _ _ _ ⟨_,h,_⟩=>by cases h) (fun _ _ ⟨_,h,_⟩=>by cases h));intro _ _ _ hle68 cq;have A:=A.mono hle68;have O:=O.mono hle68;have hx:=hx.mono hle68;have hT:=hT.mono hle68;have G:=hle68 _ _ G;have Z:=Z.mono hle68;have a1:=hle68 _ _ a1;obtain⟨wd,h,od,md,kd,rfl,a5,rfl⟩:=cq;cases h;refine aA yQ ?_;refine J.ns (aT (fZ (gB (aP (aH (aJ aQ)) ?_))));refine zN ?_;exact⟨_,rfl,.inl ⟨od,md,kd,rfl,a5.congr fun t=>by rw[a4 t,a3];rfl,rfl⟩⟩
  have bv:=CX au;have ci:q.k≠2:=CX au;refine Cj.sr (aA BO ?_);refine aA yQ ?_;refine J.cd (fun av=>?_) (fun av=>?_)
  ·have bw:=CS av;have a3:q.k=4:=CS av;refine bK (aY b9 (fun _ ai a1=>?_));have A:=A.mono ai;have O:=O.mono ai;have hx:=hx.mono ai;have hT:=hT.mono ai;have G:=ai _ _ G;have Z:=Z.mono ai;refine aF (aA yP ?_);refine aA (EH rfl rfl rfl) ?_;refine aB rfl (yS (H1:=[]) rfl rfl rfl rfl rfl (a0f _ (aW L qa) (fun t=> !aW L qb t) _ [ptr bc 0] _ A (fun t _=>b4U bc _ (aW L qb) t _ a1 Z)) ?_ (fun _ _ _ _ ⟨_,h,_⟩=>by cases h) (fun _ _ ⟨_,h,_⟩=>by cases h));intro _ _ _ ac cr;have A:=A.mono ac;have O:=O.mono ac;have hx:=hx.mono ac;have hT:=hT.mono ac;have G:=ac _ _ G;have Z:=Z.mono ac;have a1:=ac _ _ a1;obtain⟨wd,h,od,md,kd,rfl,a5,rfl⟩:=cr;cases h;refine aA yQ ?_;refine J.ns (aT (fZ (gB (aP (aH (aJ aQ)) ?_))));refine zN ?_;exact⟨_,rfl,.inl ⟨od,md,kd,rfl,a5.congr fun t=>by rw[a4 t,a3];rfl,rfl⟩⟩
  have bw:=CX av;have cm:q.k≠4:=CX av;refine Cj.kb (bK (aY b9 (fun _ aj a1=>?_)));have A:=A.mono aj;have O:=O.mono aj;have hx:=hx.mono aj;have hT:=hT.mono aj;have G:=aj _ _ G;have Z:=Z.mono aj;refine aF (aA yP ?_);refine aB rfl (yS (H1:=[]) rfl rfl rfl rfl rfl (a0f _ (aW L qa) (fun _=>true) _ [] _ A (fun t _=>b8A t _)) ?_ (fun _ _ _ _ ⟨_,h,_⟩=>by cases h) (fun _ _ ⟨_,h,_⟩=>by cases h));intro _ _ _ ad ct;have A:=A.mono ad;have O:=O.mono ad;have hx:=hx.mono ad;have hT:=hT.mono ad;have G:=ad _ _ G;have Z:=Z.mono ad;have a1:=ad _ _ a1;obtain⟨wd,h,od,md,kd,rfl,a5,rfl⟩:=ct;cases h;refine aA yQ ?_;refine J.AO (aF (aA (yX isAgg124 (aG a1)) ?_));rcases id Z with⟨aq,bf⟩|⟨bb,bm,bk,aq,aa,ar⟩
  ·cases aq;refine aB rfl (PX rfl rfl rfl rfl MP ?_);intro _ _;refine J.ns (aO (iG 1 ?_));refine Rj.succ ?_;refine Cj.sr (aB rfl (RZ 0 rfl rfl rfl rfl rfl ?_));refine aA AQ ?_;refine J.nss (bH rfl (fun hc86=>aV (dA (dM rfl) hc86)) (fun hc86=>?_));refine gZ (dD (dD (fM (eX (Cj.sr (aA yP ?_))))));refine aA yQ ?_;refine J.ns (aT (aP (aJ (aH (aJ aQ))) ?_));have a3:q.k=3:=oM;refine zN ?_;exact⟨_,rfl,.inl ⟨od,md,kd,rfl,a5.congr fun t=>by rw[a4 t,a3,dI];show _=(_ || _);rw[bf t,iJ],rfl⟩⟩
  cases aq;refine aB rfl (NZ (kv:=BI) (l:=bm) rfl rfl rfl rfl MP (aG ar) ?_);intro c6 _;refine J.ns (aO (Cj.keep (aH (aH (aJ aQ))) ?_));refine dU (ι:=TC) (fun y=>(y.vis++y.rest).Perm bm∧JQ y.l y.c (a0T y.vis (fun t=>aW L qa t && true))) (fun y=>y.rest.length) (fun y=>[(7,.map (some od)),(54,ptr c6 0)]) (fun y=>_) (fun y=>[(c6,ZI bb bk y.vis bk),(od,BD BI y.l y.c)]) ⟨[],bm,md,kd⟩ ⟨.refl _,a5.congr fun t=>by unfold a0T;simp⟩ rT rfl rfl ?_;rintro⟨vis,rest,l,cc⟩ ⟨hp,hM⟩;dsimp only at hp hM ⊢;refine Cj.sr (aB rfl (PI (kv:=BI) (l:=bm) 0 rfl rfl rfl rfl rfl (aG ar) aa.1.2.2 (bQ _) aa.1.2.1 hp ?_ ?_))
  ·rintro x ay H9 bh b3 ⟨-,hset⟩;simp only[dZ,eF]at hset;subst hset;have bi:x∈bm:=b3.mem_iff.1 (dS _ (dL _ (.head _)));refine aA AQ ?_;refine J.nss (bH rfl (fun bp=>?_) (fun bp=>aV (dA (dM rfl) bp)));refine Cj.ks (aO (Cj.sr (aA (UM (kv:=BI) (l:=bm) rfl rfl (yR.at 0 rfl) (aG ar) bi aa.1.2.1) ?_)));refine aA AQ ?_;refine aB rfl (BP QZ ?_);intro _ _;refine aB rfl (zS 0 AY (bT (bT dY)) aZ ?_);refine J.GL (aA yP ?_);refine aA (zX EI AY (yR.at 0 rfl)) ?_;refine aB rfl (FZ (kv:=BI) (a:=x.1) 2 (.inr rfl) rfl rfl rfl rfl rfl MP GR rfl (fJ (fJ aZ)) ?_);refine fK (dR (aP (aJ (aH (aH aQ))) ?_));refine cZ ⟨vis++[x],ay,_,_⟩ ⟨b3,hM.add x.1 a8m⟩ (by have h:=bh.length_eq;simp only[bU]at h;dsimp only;omega) rT rfl rfl
  intro b8;have hpv:vis.Perm bm:=by rw[b8,bM]at hp;exact hp
  refine aA AQ ?_;refine J.nss (bH rfl (fun bq=>aV (dA (dM rfl) bq)) (fun bq=>?_));refine Cj.xl (Cj.sr (aA yP ?_));refine aA yQ ?_;refine J.ns (aT (aP (aJ (aH aQ)) ?_));have a3:q.k=3:=oM;refine zN ?_;exact⟨_,rfl,.inl ⟨od,l,cc,rfl,hM.congr fun t=>by rw[a4 t,a3,b0v aa hpv,dI];rfl,rfl⟩⟩
 refine Cj.sr (aA yP ?_);refine aA (XM (kv:=BI) (l:=am) rfl rfl MP (aG d5)) ?_;refine aA BO ?_;refine aA yP ?_;refine J.split 28 rfl (fun a2=>?_) (fun a2=>?_)
 rotate_left
 ·have bx:=CX a2;refine zO 3 28 29 true a2 ?_;refine zO 3 28 30 true a2 ?_;refine zO 3 28 31 true a2 ?_;refine aA (DV a2) ?_;refine J.c0 (fun _=>?_);refine iC ?_;exact ax (_,some ab) _ _ _ ⟨A,O,hx,hT,G⟩ rT rfl rfl
 have bx:=CS a2;refine zU 3 28 true a2 (zK (qq2 (off':=0) DI AB) ?_);refine zU 3 28 true a2 (zK (yX DT (yR.at 0 rfl)) ?_);refine zU 3 28 true a2 (zK EY ?_);refine aA (DY a2) ?_;refine J.cd (fun b0=>?_) (fun b0=>?_)
 ·have bz:=bne_iff_ne.1 b0;refine Cj.sr (aA yQ ?_);refine J.ns (Cj.rs ?_);have hz:∀t,aW L qa t=false:=d4.empty (by have h:=CS a2;omega);have bn:q.k≠3:=bne_iff_ne.1 b0;refine bI ?_;refine zN ?_;exact⟨_,rfl,.inr ⟨.inl ⟨rfl,fun t=>by rw[a4 t,hz t];unfold Ix.comb;rw[zF bn];split<;>rfl⟩,rfl⟩⟩
 have bz:=EC b0;refine iC ?_;exact ax (_,some ab) _ _ _ ⟨A,O,hx,hT,G⟩ rT rfl rfl
theorem b6G A L (G:fQ L) q:a5k A L q:=by
 suffices ∀n (q:Cq.Qn),q.size<n→a5k A L q from this _ q (gK _)
 intro n
 induction n with
 |zero=>intro q h;omega
 |succ n O=>intro q h;exact b2I A L G q fun Z _=>O Z oM
end Go.Proofs.YtojdemmgkdokmaaGreatDoor
namespace Go.Proofs.YtojdemmgkdokmaaGreatDoor
open Go Go.Shelf Go.RowKit Go.Lib Go.Sort
abbrev FW:=List UInt8×dH
abbrev QT (x:FW):List Value:=[Sx.str x.1,.int .i64 x.2.1,.int .i64 x.2.2]
theorem NK x:(QT x).length=3:=rfl
def b3C (x y:FW):Int:=NH (NR x.1 y.1) (a0C x.2 y.2)
def WM (x y:FW):Prop:=x.1<y.1∨(x.1=y.1∧Ix.IW x.2 y.2=true)
theorem b8C x:¬WM x x:=by
 rintro(h|⟨_,h⟩)
 ·exact iE _ h
 rw[Ix.JI]at h;cases h
theorem a5Q{x y z}(h1:WM x y)(h2:WM y z):WM x z:=by
 rcases h1 with h1|⟨h1,h⟩<;>rcases h2 with h2|⟨h2,A⟩
 ·exact .inl (List.lt_trans h1 h2)
 ·exact .inl (h2▸h1)
 ·exact .inl (h1▸h2)
 exact .inr ⟨h1.trans h2,Ix.NU h A⟩
theorem a9S x y:WM x y∨x=y∨WM y x:=by
 by_cases h:x.1<y.1
 ·exact .inl (.inl h)
 by_cases h2:y.1<x.1
 ·exact .inr (.inr (.inl h2))
 have A:x.1=y.1:=gU (fH.1 h2) (fH.1 h);rcases Ix.XL x.2 y.2 with g|g|g
 ·exact .inl (.inr ⟨A,g⟩)
 ·exact .inr (.inl (Prod.ext A g))
 exact .inr (.inr (.inr ⟨A.symm,g⟩))
theorem a1l x y:ltOf b3C x y=true↔WM x y:=by
 have hr:=UL x.2 y.2;unfold ltOf at hr ⊢;unfold b3C WM NH NR;rw[zH]
 by_cases h:x.1<y.1
 ·rw[zG h];simp[h]
 rw[zF h]
 by_cases h2:y.1<x.1
 ·have A:x.1≠y.1:=fun e=>h (e▸h2);rw[zG h2];simp[h,A]
 have G:x.1=y.1:=gU (fH.1 h2) (fH.1 h);rw[zF h2,zF sI,←hr,zH];exact⟨fun g=> .inr ⟨G,g⟩,fun g=>g.elim (fun g=>absurd g h) fun g=>g.2⟩
theorem c2O:SWO (ltOf b3C) where
 irrefl x:=eP.2 fun h=>b8C x ((a1l x x).1 h)
 trans x y z h1 h2:=(a1l x z).2 (a5Q ((a1l x y).1 h1) ((a1l y z).1 h2))
 ntrans x y z h1 h2:=by
  rw[eP,Ne,a1l]at *;intro h;rcases a9S x y with g|g|g
  ·exact h1 g
  ·subst g;exact h2 h
  exact h2 (a5Q g h)
theorem a4x{base} l g (hg:Sx.CU base 3 l.length (l.flatMap QT) g)(hl:l.length≤100000000000000) I:Sx.yT aC 45 [Sx.gV l.length g,.func (.func 46) #[] #[]] I (Sx.gH 128 (l.flatMap QT) g)
 (fun e a2 H'=>∃l':List FW,l'.Perm l∧l'.Pairwise (fun p q=>¬WM q p)∧e= .returned (.tuple #[])∧H'=Sx.gH 128 (l'.flatMap QT) g):=by
 cases g with
 |none=>
  obtain⟨h1,h2⟩:=hg;have h0:l=[]:=fF.1 h1;subst h0;exact(Sx.Pure.of_same (iR Tryz.func45 dE rfl) (fun w _=>AnyF.slices_SortFunc_none Tryz.sortR none 0 (.func (.func 46) #[] #[]) w)).mono fun e _ H' _ ⟨h1,_,h3⟩=>⟨[],List.Perm.refl _,List.Pairwise.nil,h1,h3⟩
 |some q=>
  obtain⟨b,c,sp⟩:=q;refine⟨iR Tryz.func45 dE rfl,fun w hw=>?_⟩;have G:=hw.2.1 _ (.head _);have a0:b<w.heap.size:=by
   rcases Nat.lt_or_ge b w.heap.size with h|h
   ·exact h
   rw[Array.getElem?_eq_none h]at G;cases G
  have eg:∀args w,(callFunc 46 args).run aC w= .ok (.enter 46 args) w:=enters_of Tryz.func46 kR rfl;have hH:HoldsK QT 3 w b 0 l.toArray:=by
   unfold HoldsK;rw[Sx.SE NK];exact Sx.XY G
  have O:CmpLays aC 46 #[] QT 3 b3C b 0 l.toArray.size w:=fun m os _ _ x y=>c4r x.1 y.1 x.2.1 x.2.2 y.2.1 y.2.2 _;have Z:=AnyQ.slices_SortFunc Tryz.sortR 3 Tryz.isAgg128 Tryz.sizeOf128 QT NK (fun x v hv=>by
   simp only[iI,gQ,or_false]at hv;rcases hv with rfl|rfl|rfl<;>rfl) b3C c2O 46 #[] b 0 c l.toArray w eg O hH a0 (by simp;omega)
  refine Z.mono fun e w' ⟨h1,A,n,os,h2,h3,h4⟩=>?_;rw[List.size_toArray]at h2 h3;have hp:=Sx.VN h2;have a1:A.size=l.length:=by have:=hp.length_eq;simpa using this
  rw[←a1]at h3;refine⟨I,_,?_,A.toList,hp,(Sx.sorted_in h3).imp fun h=>?_,h1,rfl⟩
  ·rw[h4];unfold sortWorldK putRowK;rw[show A=A.toList.toArray from(Array.toArray_toList (xs:=A)).symm,Sx.SE NK];exact Sx.St.b1u n os hw (by rw[Sx.DN NK,Sx.DN NK,hp.length_eq])
  exact fun g=>eP.1 h ((a1l _ _).2 g)
theorem b7U{L}{ts:List dH}(hn:ts.Nodup){l:List FW}(G:l.Perm (ts.map fun t=>(Ix.WJ L t,t)))(ho:l.Pairwise fun p q=>¬WM q p):(l.map (·.2)).Pairwise (Ix.a0X L)∧∀t,t∈l.map (·.2)↔t∈ts:=by
 have O:∀x∈l,x.1=Ix.WJ L x.2:=fun x A=>by
  obtain⟨t,_,rfl⟩:=dB.1 (G.mem_iff.1 A);rfl
 have Z:(l.map (·.2)).Perm ts:=by
  have:=G.map (·.2);rw[iL]at this;exact this.trans (.of_eq (List.map_id _))
 refine⟨?_,fun t=>Z.mem_iff⟩;have h:=eH.1 (Z.nodup_iff.2 hn);rw[gI]at h ⊢;refine(bJ.2 fun {x y} hs=>?_);have h1:=bJ.1 ho hs;have h2:=bJ.1 h hs;have A:=O x (hs.subset (.head _));have hy:=O y (hs.subset (.tail _ (.head _)));rcases a9S x y with g|g|g
 ·unfold WM at g;unfold Ix.a0X;rwa [A,hy]at g
 ·subst g;exact absurd rfl h2
 exact absurd g h1
