/-
  Own texts on the laws of the seat, joined: the logic, and contracts of functions. Conditions: none.
-/
import Derived.Test.YtdjkhllhakhjbaaGreatDoorNmG
import Derived.Test.YtdjkhllhakhjbaaGreatDoorPG17
set_option linter.all false
set_option maxRecDepth 100000
set_option maxHeartbeats 40000000
open Go.Sx.J renaming z -> aA,op -> aB,nil -> fK,persist -> fU,eqv -> gG,a4y -> iD
open Go.Proofs.Tryz renaming prog -> aC,func144 -> iT
open Go.Sx.Cj renaming region -> aF,block -> aO,ret -> aT,persist -> aY,cond -> bH,seq -> bK,loop -> dU,JD -> fO,exit -> gZ,skip -> iC,rounds -> iG,a3b -> iP
open Go.Sx.yR renaming PL -> aG,WH -> dW
open Go.Sx.Keeps renaming k -> aH,d -> aJ,n -> aQ
open Go.Sx.Le renaming trans -> aI,refl -> bD
open List renaming length_map -> aK,mem_singleton -> aU,take_of_length_le -> aX,mem_map_of_mem -> bC,pairwise_iff_forall_sublist -> bJ,append_nil -> bM,length_append -> bP,length_cons -> bU,flatMap_append -> cO,mem_map -> dB,take_succ_eq_append_getElem -> dJ,mem_append_right -> dL,length_filter_le -> dP,mem_append_left -> dS,length -> dX,set_cons_zero -> dZ,set_cons_succ -> eF,nodup_iff_pairwise_ne -> eH,getElem?_eq_some_iff -> eU,flatMap_map -> eY,length_take -> fA,length_eq_zero_iff -> fF,map_append -> fG,not_lt -> fH,toArray -> fV,pairwise_map -> gI,mem_flatMap -> gJ,not_mem_nil -> gQ,le_antisymm -> gU,lt_irrefl -> iE,mem_cons -> iI,map_map -> iL,all_map -> iM
open Go.Sx.JA renaming tk -> aN,fix -> fD,a4y -> iQ
open Go.Sx.Ej renaming keep -> aP,bare -> bI,round -> cZ,JE -> dD,FM -> dR,seq -> eX,JM -> fM,OY -> fZ,KU -> gB
open Ke renaming words -> aS,SQ -> fP,a1V -> iH
open Bool renaming noConfusion -> aV,and_true -> dI,and_eq_true -> dK,eq_false_iff -> eP,or_false -> iJ
open Ix renaming sat -> aW,keyOf -> bF,IK -> bG,word -> bZ,scan -> dG,Rec -> dH,phrase -> dN,LJ -> dV,keyed -> fC,TOK -> fQ,LU -> gX,a7m -> iO
open Go.Sx.DZ renaming z -> aZ,s -> fJ
open Nat renaming le_refl -> bQ,zero_le -> bY,lt_succ_self -> gK
open Go.Sx.EW renaming c -> bT,z -> dY
open Go.Sx.HSub renaming n -> bV,c -> gY
open Go.Sx.CSub renaming n -> bW
open Eq renaming trans -> dA,symm -> dM
open Go.Sx.yS renaming toPure -> dF
open Go.Sx.GU renaming text -> dQ
open Go.Sx.IC renaming none -> eG,one -> fB
open Cq renaming relations -> fE
open Go.Value renaming bool -> gW
open Go.Sx.zN renaming of -> iF
open Go.Proofs.YtdjkhllhakhjbaaGreatDoor.JF renaming nil -> iK
open Go.Sx.Enters renaming of -> iR
namespace Go.Proofs.YtdjkhllhakhjbaaGreatDoor
open _root_.Go.Proofs.Tryz
open Go Go.Sx
structure TC where
  vis:ML Ix.Rec
  rest:ML Ix.Rec
  l:ML Ix.Rec
  c:Nat
theorem a4I ls v (ae:ls.length≤1000000000000)(a3:∀x∈ls,x.1.length≤1000000) I (a6:LLS I ls v):yS aC 248 [v] I [] (fun e _ H'=>∃w,e= .returned w∧ZL w (TU (ls.flatMap (·.1))) H'):=by
 obtain⟨⟨p,c,rfl,_,hp⟩,a7⟩:=a6;refine yS.ob func248 ?_;intro w0 _;refine Cj.sr (aA yQ ?_);refine J.yX (aB rfl (BK rfl rfl rfl ?_));intro N _;refine aA yQ ?_;refine J.zX (aF (aA yP ?_));refine aA (zZ OA) ?_;refine aA yP ?_;refine J.ns (aO (dU (ι:=Nat×ML dH×Nat) (fun y=>y.1≤ls.length∧JF y.2.1 y.2.2 (TU ((ls.take y.1).flatMap (·.1)))) (fun y=>ls.length-y.1) (fun y=>[(3,.map (some N)),(9,.slice p ls.length c),(10,i64 (ls.length:Int)),(11,i64 (y.1:Int))]) (fun y=>_) (fun y=>[(N,zY AQ y.2.1 y.2.2)]) (0,[],0) ⟨bY _,iK⟩ rT rfl rfl ?_));rintro⟨i,l,cc⟩ ⟨hi,h⟩;dsimp only at hi h ⊢;refine Cj.sr (aA AV ?_);refine J.nss (bH rfl (fun G=>?_) (fun G=>?_))
 ·have a4:=BH G;have Q:i<ls.length:=oM;obtain⟨⟨xs,_⟩,A⟩:∃x,ls[i]?=some x:=⟨_,DC Q⟩;obtain⟨fb,fo,_,_,_,_,rfl,a8,a9⟩:=hp (zT Q);have aa:=a7 _ (FQ A);obtain⟨p2,c2,Z,G,a0⟩:=id aa;dsimp only at Z G a0;subst Z;have ab:=a3 _ (FQ A);dsimp only at ab;refine Cj.ks (bK (aO (Cj.sr (aA (AU (off':=fo+i) OA UO) ?_))));refine aA (EF isAgg187 (aG a8) (a3E a9 A)) ?_;refine aA yQ ?_;refine J.yX (aA yP ?_);refine aA (zZ NM) ?_;refine aA yP ?_;refine J.ns (aO (dU (ι:=Nat×ML dH×Nat) (fun y=>y.1≤xs.length∧JF y.2.1 y.2.2 (TU (((ls.take i).flatMap (·.1))++xs.take y.1))) (fun y=>xs.length-y.1) (fun y=>[(3,.map (some N)),(9,.slice (some ⟨fb,fo,none⟩) ls.length c),(10,i64 (ls.length:Int)),(11,i64 (i:Int)),(15,.slice p2 xs.length c2),(16,i64 (xs.length:Int)),(17,i64 (y.1:Int))]) (fun y=>_) (fun y=>[(N,zY AQ y.2.1 y.2.2)]) (0,_,_) ⟨bY _,by rw[List.take_zero,bM];exact h⟩ rT rfl rfl ?_));clear h;rintro⟨j,l,cc⟩ ⟨hj,h⟩;dsimp only at hj h ⊢;refine Cj.sr (aA AV ?_);refine J.nss (bH rfl (fun O=>?_) (fun O=>?_))
  ·have a5:=BH O;have a1:j<xs.length:=oM;obtain⟨y,a2⟩:∃y,xs[j]?=some y:=⟨_,DC a1⟩;obtain⟨_,qo,_,_,_,_,rfl,ac,ad⟩:=a0 (zT a1);refine Cj.ks (bK (aO (Cj.sr (aA (AU (off':=qo+j*2) NM AL) ?_))));refine aA (FN DJ AL (aG ac) (DN GZ ad a2)) ?_;refine aB rfl (CU QU ?_);intro _ _;refine aB rfl (AB 0 AL (bT (bT dY)) aZ ?_);refine J.GI (aA yP ?_);refine aA (zW DJ AL (yR.at 0 rfl)) ?_;refine aB rfl (FH (kv:=AQ) (a:=y) 1 (.inr rfl) rfl rfl rfl rfl rfl LW FU rfl (fJ aZ) ?_);refine J.nb (aF (aA (yY rfl rfl rfl (zV oM)) ?_));refine aA yP ?_;refine fK (aP (aJ (aH aQ)) ?_);refine cZ (j+1,_,_) ⟨dO,by dsimp only;rw[c1t a2];exact h.push y⟩ dO rT rfl rfl
  have a5:=BJ O;refine gZ (dD (Ej.IB (fM (dR (eX (aF (aA (yY rfl rfl rfl (zV oM)) ?_)))))));refine aA yP ?_;refine fK (cZ (i+1,_,_) ⟨dO,by dsimp only;rw[c2n A];rw[aX (oM:xs.length≤j)]at h;exact h⟩ dO rT rfl rfl)
 have a4:=BJ G;refine Cj.xl (Cj.sr (aA yP ?_));refine aA yQ ?_;refine J.ns (aT ?_);rw[aX (oM:ls.length≤i)]at h;refine zM ?_;exact⟨_,rfl,N,l,cc,rfl,h,rfl⟩
theorem b8k mb m k (S P:dH→Bool) g N (hm:JF m k S) I (O:I mb=some (zY AQ m k))(a6:∀t,S t=true→Pure aC g (AQ t::N) I (.bool (P t))):yS aC 204 [.map (some mb),.func (.func g) #[] N.toArray] I [] (fun e _ H'=>∃w,e= .returned w∧ZL w (fun t=>S t && P t) H'):=by
 have Q:=hm.1;refine yS.ob func204 ?_;intro w0 _;refine Cj.sr (aA yQ ?_);refine J.yX (aB rfl (BK rfl rfl rfl ?_));intro b1 _;refine aA yQ ?_;refine J.zX (aF (aA yP ?_));refine aB rfl (MW (kv:=AQ) (l:=m) rfl rfl rfl rfl LW (aG O) ?_);intro b2 _;refine J.ns (aO (dU (ι:=TC) (fun y=>(y.vis++y.rest).Perm m∧JF y.l y.c (a0b y.vis P)) (fun y=>y.rest.length) (fun y=>[(1,.func (.func g) #[] N.toArray),(5,.map (some b1)),(9,ptr b2 0)]) (fun y=>_) (fun y=>[(b2,XB mb k y.vis k),(b1,zY AQ y.l y.c)]) ⟨[],m,[],0⟩ ⟨.refl _,iK.congr fun _=>rfl⟩ rT rfl rfl ?_));rintro⟨vis,rest,l,cc⟩ ⟨hp,hM⟩;dsimp only at hp hM ⊢;refine Cj.sr (aB rfl (OD (kv:=AQ) (l:=m) 0 rfl rfl rfl rfl rfl (aG O) Q.2.2 (bQ _) Q.2.1 hp ?_ ?_))
 ·rintro x G _ a1 Z ⟨-,hset⟩;simp only[dZ,eF]at hset;subst hset;have a2:x∈m:=Z.mem_iff.1 (dS _ (dL _ (.head _)));have a7:S x.1=true:=(hm.mem x.1).1 (bC a2);refine aA AZ ?_;refine J.nss (bH rfl (fun a3=>?_) (fun a3=>aV (dA (dM rfl) a3)));refine Cj.ks (aO (Cj.sr (aA (RJ (kv:=AQ) (l:=m) rfl rfl (yR.at 0 rfl) (aG O) a2 Q.2.1) ?_)));refine aA AZ ?_;refine aB rfl (CU QU ?_);intro _ _;refine aB rfl (AB 0 AL (bT (bT dY)) aZ ?_);refine J.yX (aA yP ?_);refine aA (zW DJ AL (yR.at 0 rfl)) ?_;refine aB rfl (yU rfl rfl rfl rfl rfl (a6 x.1 a7) ?_);refine J.cd (fun A=>?_) (fun A=>?_)
  ·have a0:P x.1=true:=A;refine aF (aA yP ?_);refine aA (zW DJ AL (yR.at 0 rfl)) ?_;refine aB rfl (FH (kv:=AQ) (a:=x.1) 2 (.inr rfl) rfl rfl rfl rfl rfl LW FU rfl (fJ (fJ aZ)) ?_);refine fK (dR (aP (aJ (aH (aH aQ))) ?_));refine cZ ⟨vis++[x],G,_,_⟩ ⟨Z,hM.add x.1 (b8I a0)⟩ (by have h:=a1.length_eq;simp only[bU]at h;dsimp only;omega) rT rfl rfl
  have a0:P x.1=false:=A;refine iC (dR (aP (aJ (aH (aH aQ))) ?_));refine cZ ⟨vis++[x],G,l,cc⟩ ⟨Z,hM.congr fun t=>(b9N a0 t).symm⟩ (by have h:=a1.length_eq;simp only[bU]at h;dsimp only;omega) rT rfl rfl
 intro a5;have a8:vis.Perm m:=by rw[a5,bM]at hp;exact hp
 refine aA AZ ?_;refine J.nss (bH rfl (fun a4=>aV (dA (dM rfl) a4)) (fun a4=>?_));refine Cj.xl (Cj.sr (aA yP ?_));refine aA yQ ?_;refine J.ns (aT (aP (aJ (aH aQ)) ?_));refine zM ?_;exact⟨_,rfl,b1,l,cc,rfl,hM.congr (b7v hm a8),rfl⟩
theorem b8O g (A:List Value)(S P:dH→Bool)(G:∀t,S t=false) I:yS aC 204 [.map none,.func (.func g) #[] A.toArray] I [] (fun e _ H'=>∃w,e= .returned w∧ZL w (fun t=>S t && P t) H'):=by
 refine yS.ob func204 ?_;intro w0 _;refine Cj.sr (aA yQ ?_);refine J.yX (aB rfl (BK rfl rfl rfl ?_));intro _ _;refine aA yQ ?_;refine J.zX (aF (aA yP ?_));refine aB rfl (OI rfl rfl rfl rfl LW ?_);intro _ _;refine J.ns (aO (iG 1 ?_));refine Rj.succ ?_;refine Cj.sr (aB rfl (QD 0 rfl rfl rfl rfl rfl ?_));refine aA AZ ?_;refine J.nss (bH rfl (fun h=>aV (dA (dM rfl) h)) (fun h=>?_));refine gZ (dD (dD (fM (eX (Cj.sr (aA yP ?_))))));refine aA yQ ?_;refine J.ns (aT (aP (aJ (aH aQ)) ?_));refine zM ?_;exact⟨_,rfl,_,[],0,rfl,iK.congr (fun t=>by rw[G t];rfl),rfl⟩
theorem XO v (S P:dH→Bool) g A I (h:MQ I v S)(G:∀t,S t=true→Pure aC g (AQ t::A) I (.bool (P t))):yS aC 204 [v,.func (.func g) #[] A.toArray] I [] (fun e _ H'=>∃w,e= .returned w∧ZL w (fun t=>S t && P t) H'):=by
 rcases h with⟨rfl,N⟩|⟨b,m,k,rfl,O,Q⟩
 ·exact b8O g A S P N I
 exact b8k b m k S P g A O I Q G
theorem b8l A S G m k (Q:JF m k S) t I (N:I A=some (yZ 239 [.map (some G)]))(O:I G=some (zY AQ m k)):Pure aC 255 [AQ t,ptr A 0] I (.bool (S t)):=by
 refine dF ?_;have h:=Q.get t;refine yS.ob func255 ?_;intro w0 _;refine Cj.sr (aB rfl (BG ?_));intro _ _;refine aA yQ ?_;refine J.yX (aA (yV isAgg239 (aG N)) ?_);refine aA (zW DJ AL (yR.at 0 rfl)) ?_;refine aA (IV (kv:=AQ) (l:=m) (a:=t) LW FU tZ4 (aG O)) ?_;refine gG 6 rfl (show _= .bool (S t) from h) ?_;refine aA yQ ?_;refine J.ns (aT (bI ?_));refine zM ?_;exact rT
theorem b8V A (S:dH→Bool)(N:∀t,S t=false) t I (G:I A=some (yZ 239 [.map none])):Pure aC 255 [AQ t,ptr A 0] I (.bool (S t)):=by
 refine dF ?_;have h:gW false= .bool (S t):=by rw[N t]
 refine yS.ob func255 ?_;intro w0 _;refine Cj.sr (aB rfl (BG ?_));intro _ _;refine aA yQ ?_;refine J.yX (aA (yV isAgg239 (aG G)) ?_);refine aA (zW DJ AL (yR.at 0 rfl)) ?_;refine aA (MF (kv:=AQ) (a:=t) rfl rfl rfl rfl LW FU tZ4) ?_;refine gG 6 rfl (show _= .bool (S t) from h) ?_;refine aA yQ ?_;refine J.ns (aT (bI ?_));refine zM ?_;exact rT
theorem c3z A v S t I (G:I A=some (yZ 239 [v]))(h:MQ I v S):Pure aC 255 [AQ t,ptr A 0] I (.bool (S t)):=by
 rcases h with⟨rfl,N⟩|⟨b,m,k,rfl,O,Q⟩
 ·exact b8V A S N t I G
 exact b8l A S b m k O t I G Q
theorem b8i A S G m k (Q:JF m k S) t I (N:I A=some (yZ 239 [.map (some G)]))(O:I G=some (zY AQ m k)):Pure aC 205 [AQ t,ptr A 0] I (.bool (S t)):=by
 refine dF ?_;have h:=Q.get t;refine yS.ob func205 ?_;intro w0 _;refine Cj.sr (aB rfl (BG ?_));intro _ _;refine aA yQ ?_;refine J.yX (aA (yV isAgg239 (aG N)) ?_);refine aA (zW DJ AL (yR.at 0 rfl)) ?_;refine aA (IV (kv:=AQ) (l:=m) (a:=t) LW FU tZ4 (aG O)) ?_;refine gG 6 rfl (show _= .bool (S t) from h) ?_;refine aA yQ ?_;refine J.ns (aT (bI ?_));refine zM ?_;exact rT
theorem b7w A (S:dH→Bool)(N:∀t,S t=false) t I (G:I A=some (yZ 239 [.map none])):Pure aC 205 [AQ t,ptr A 0] I (.bool (S t)):=by
 refine dF ?_;have h:gW false= .bool (S t):=by rw[N t]
 refine yS.ob func205 ?_;intro w0 _;refine Cj.sr (aB rfl (BG ?_));intro _ _;refine aA yQ ?_;refine J.yX (aA (yV isAgg239 (aG G)) ?_);refine aA (zW DJ AL (yR.at 0 rfl)) ?_;refine aA (MF (kv:=AQ) (a:=t) rfl rfl rfl rfl LW FU tZ4) ?_;refine gG 6 rfl (show _= .bool (S t) from h) ?_;refine aA yQ ?_;refine J.ns (aT (bI ?_));refine zM ?_;exact rT
theorem b3H A v S t I (G:I A=some (yZ 239 [v]))(h:MQ I v S):Pure aC 205 [AQ t,ptr A 0] I (.bool (S t)):=by
 rcases h with⟨rfl,N⟩|⟨b,m,k,rfl,O,Q⟩
 ·exact b7w A S N t I G
 exact b8i A S b m k O t I G Q
theorem b8E A S G m k (Q:JF m k S) t I (N:I A=some (yZ 239 [.map (some G)]))(O:I G=some (zY AQ m k)):Pure aC 206 [AQ t,ptr A 0] I (.bool (!S t)):=by
 refine dF ?_;have h:=Q.get t;refine yS.ob func206 ?_;intro w0 _;refine Cj.sr (aB rfl (BG ?_));intro _ _;refine aA yQ ?_;refine J.yX (aA (yV isAgg239 (aG N)) ?_);refine aA (zW DJ AL (yR.at 0 rfl)) ?_;refine aA (IV (kv:=AQ) (l:=m) (a:=t) LW FU tZ4 (aG O)) ?_;refine gG 6 rfl (show _= .bool (S t) from h) ?_;refine aA (ER rfl rfl) ?_;refine aA yQ ?_;refine J.ns (aT (bI ?_));refine zM ?_;exact rT
theorem b7F A (S:dH→Bool)(N:∀t,S t=false) t I (G:I A=some (yZ 239 [.map none])):Pure aC 206 [AQ t,ptr A 0] I (.bool (!S t)):=by
 refine dF ?_;have h:gW false= .bool (S t):=by rw[N t]
 refine yS.ob func206 ?_;intro w0 _;refine Cj.sr (aB rfl (BG ?_));intro _ _;refine aA yQ ?_;refine J.yX (aA (yV isAgg239 (aG G)) ?_);refine aA (zW DJ AL (yR.at 0 rfl)) ?_;refine aA (MF (kv:=AQ) (a:=t) rfl rfl rfl rfl LW FU tZ4) ?_;refine gG 6 rfl (show _= .bool (S t) from h) ?_;refine aA (ER rfl rfl) ?_;refine aA yQ ?_;refine J.ns (aT (bI ?_));refine zM ?_;exact rT
theorem b3u A v S t I (G:I A=some (yZ 239 [v]))(h:MQ I v S):Pure aC 206 [AQ t,ptr A 0] I (.bool (!S t)):=by
 rcases h with⟨rfl,N⟩|⟨b,m,k,rfl,O,Q⟩
 ·exact b7F A S N t I G
 exact b8E A S b m k O t I G Q
theorem b7N t I:Pure aC 207 [AQ t] I (.bool true):=by
 refine dF ?_;refine yS.ob func207 ?_;intro w0 _;refine Cj.sr (aB rfl (BG ?_));intro _ _;refine aA yQ ?_;refine J.yX (aA yQ ?_);refine J.ns (aT (bI ?_));refine zM ?_;exact rT
structure VL where
  i:Nat
  J:Heap
  ls:List LR
  g:Gs
theorem ZM{α β:Type}(f:α→β){l:List α}{k x}(h:l[k]?=some x):(l.take (k+1)).map f=(l.take k).map f++[f x]:=by
 obtain⟨A,hg⟩:=eU.1 h;rw[dJ A,hg,fG];rfl
theorem b3y{J ls}(h:∀x∈ls,zN recC J x.1 x.2){l w}(A:zN recC J l w):∀x∈ls++[(l,w)],zN recC J x.1 x.2:=fun x G=>by
 rcases List.mem_append.1 G with g|g
 ·exact h x g
 rw[aU.1 g];exact A
theorem b3w{ls:List LR}{l}(h:ls.map (·.1)=l):ls.flatMap (·.1)=l.flatMap id:=by
 rw[←h,eY];rfl
theorem b3Y L n s:(bZ L n s).length≤L.length:=by
 unfold bZ dN
 split
 ·split
  ·exact bY _
  rw[aK];exact dP _ _
 exact bY _
theorem b5z L n w:(dN L n w).length≤L.length:=by
 unfold dN
 split
 ·exact bY _
 rw[aK];exact dP _ _
theorem a9b xv L q p c (hq:q.t.length≤10000000) I (N:OJ I xv L):yS aC 253 [xv,.agg (FX q p c).toArray] I [] (fun e I' H'=>∃w ls,e= .returned w∧ls.map (·.1)=(aS q.t).map (bZ L q.i)∧LLS I' ls w∧H'=[]):=by
 have ah:=fP q.t;refine yS.ob func253 ?_;intro w0 _;refine Cj.sr (aB rfl (BG ?_));intro b1 _;refine aA yQ ?_;refine J.yX (aA yQ ?_);refine J.zX (aF (aA (qq2 (off':=3) EG zS) ?_));refine aA (yV BR (yR.at 0 rfl)) ?_;refine aB rfl (yT (H1:=[]) rfl rfl rfl rfl rfl (VF q.t oM _) ?_ (fun _ _ _ _ ⟨_,h,_⟩=>by cases h) (fun _ _ ⟨_,h,_⟩=>by cases h));intro _ I3 _ a8 ac;have N:=N.mono a8;obtain⟨_,h,Q,rfl⟩:=ac;cases h;obtain⟨pw,cw,rfl⟩:=NT Q;refine aA (zZ AO) ?_;refine aA yP ?_;refine J.ns (aO (dU (ι:=VL) (fun y=>y.i≤(aS q.t).length∧Le I3 y.J∧y.ls.map (·.1)=((aS q.t).take y.i).map (bZ L q.i)∧(∀x∈y.ls,zN recC y.J x.1 x.2)∧BM w0.heap.size 1 y.ls.length (y.ls.flatMap lrC) y.g) (fun y=>(aS q.t).length-y.i) (fun y=>[(5,gV y.ls.length y.g),(0,xv),(3,ptr b1 0),(10,.slice pw (aS q.t).length cw),(11,i64 ((aS q.t).length:Int)),(12,i64 (y.i:Int))]) (fun y=>y.J) (fun y=>(b1,yZ 129 (FX q p c))::gH 187 (y.ls.flatMap lrC) y.g) ⟨0,_,[],none⟩ ⟨bY _,bD _,rfl,(fun x N=>by cases N),rfl,rfl⟩ rT rfl rfl ?_));rintro⟨i,_,ls,g⟩ ⟨hi,A,a1,Z,hg⟩;dsimp only at hi A a1 Z hg ⊢;have N:=N.mono A;have Q:=Q.mono A;have ai:ls.length=i:=by have h:=zD dX a1;rw[aK,aK,fA]at h;omega
 refine Cj.sr (aA AV ?_);refine J.nss (bH rfl (fun a6=>?_) (fun a6=>?_))
 ·have a9:=BH a6;have a7:i<(aS q.t).length:=oM;obtain⟨x,a4⟩:∃x,(aS q.t)[i]?=some x:=⟨_,DC a7⟩;have aj:=Ke.ZW _ x (FQ a4);obtain⟨wb,_,_,ad,a2⟩:=Q.some (zT a7);cases ad;refine Cj.ks (bK (aO (Cj.sr (aA (AU (off':=i) AO zS) ?_))));refine aA (EF BR (aG a2) (JL a4)) ?_;refine aA yQ ?_;refine J.GI (aA yP ?_);refine aA yP ?_;refine aA (qq2 (off':=1) EG zS) ?_;refine aA (yV BR (yR.at 0 rfl)) ?_;refine aA yP ?_;refine aB rfl (EX rfl rfl rfl rfl rfl (b9y xv L q.i x oM _ N) ?_ (fun _ _ _ _ ⟨_,h,_⟩=>by cases h) (fun _ _ ⟨_,h,_⟩=>by cases h));intro _ _ _ G ae aa;have N:=N.mono G;have Q:=Q.mono G;have A:=A.mono G;have Z:=fun x9 a3=>(Z x9 a3).mono G;have a2:=G _ _ a2;obtain⟨_,h,af⟩:=aa;cases h;refine iD af ae (fun _ O a5=>?_);have N:=N.mono O;have Q:=Q.mono O;have A:=A.mono O;have Z:=fun x9 a3=>(Z x9 a3).mono O;have a2:=O _ _ a2;replace a5:=a5.row;obtain⟨_,ca,rfl⟩:=PN a5;refine aB rfl (BQ OA UO a1u (fB rfl eG) ?_);intro _ _;refine aB rfl (BI (by':=23) [_,_] rfl rfl rfl rfl rfl OA (.inr ⟨_,OA⟩) kR UO a1u rfl hg rfl (Src.slice (yR.at 0 rfl) rfl rfl rfl) oM ?_);intro ag ab;refine aA yQ ?_;refine J.nb (aF (aA (yY rfl rfl rfl (zV oM)) ?_));refine aA yP ?_;refine fK (aP (aJ (aH Keeps.r)) ?_);refine cZ ⟨i+1,_,ls++[(bZ L q.i x,_)],ag⟩ ⟨dO,A,by dsimp only;rw[fG,a1,ZM _ a4];rfl,b3y Z a5,by dsimp only;rw[bP,cO];exact ab⟩ dO ⟨by dsimp only;rw[bP];rfl,rfl,rfl,rfl,rfl,rfl,trivial⟩ rfl (by dsimp only;rw[cO];rfl)
 have a9:=BJ a6;refine Cj.xl (bK ?_);rw[aX (oM:(aS q.t).length≤i)]at a1;refine Cj.perm (H':=gH 187 (ls.flatMap lrC) g++[_]) List.perm_append_comm ?_;refine Cj.keepR (f:=lrC) (fun _=>rfl) dE hg rfl (fun _ a0 hv=>?_);have N:=N.mono a0;have Q:=Q.mono a0;have A:=A.mono a0;have Z:=fun x9 a3=>(Z x9 a3).mono a0;refine aF (aA yP ?_);refine aA yQ ?_;refine J.ns (aT (bI ?_));refine zM ?_;exact⟨_,ls,rfl,a1,⟨hv,Z⟩,rfl⟩
theorem b1t xv L n ks v (hk:∀x∈ks,Ke.b0r x.1)(am:ks.length≤1000000000000) I (N:OJ I xv L)(Z:LZ I)(hr:zN AX I ks v):yS aC 257 [xv,str n,v] I [] (fun e _ H'=>∃w,e= .returned w∧ZL w (TU (fC L n (ks.map (·.1)))) H'):=by
 have ak:=N.big;obtain⟨p,c,rfl⟩:=PN hr;refine yS.ob func257 ?_;intro w0 _;refine Cj.sr (aA yQ ?_);refine J.yX (aA yQ ?_);refine J.zX (aF (aA yP ?_));refine aA (zZ CP) ?_;refine aA yP ?_;refine J.ns (aO (dU (ι:=VL) (fun y=>y.i≤ks.length∧Le I y.J∧y.ls.map (·.1)=(ks.take y.i).map (fun x=>dV L n (bF n (iH x.1)))∧(∀x∈y.ls,zN recC y.J x.1 x.2)∧BM w0.heap.size 1 y.ls.length (y.ls.flatMap lrC) y.g) (fun y=>ks.length-y.i) (fun y=>[(7,gV y.ls.length y.g),(0,xv),(1,str n),(10,.slice p ks.length c),(11,i64 (ks.length:Int)),(12,i64 (y.i:Int))]) (fun y=>y.J) (fun y=>gH 187 (y.ls.flatMap lrC) y.g) ⟨0,_,[],none⟩ ⟨bY _,bD _,rfl,(fun x N=>by cases N),rfl,rfl⟩ rT rfl rfl ?_));rintro⟨i,_,ls,g⟩ ⟨hi,A,a2,hR,hg⟩;dsimp only at hi A a2 hR hg ⊢;have N:=N.mono A;have Z:=Z.mono A;have hr:=hr.mono A;have an:ls.length=i:=by have h:=zD dX a2;rw[aK,aK,fA]at h;omega
 refine Cj.sr (aA AV ?_);refine J.nss (bH rfl (fun a5=>?_) (fun a5=>?_))
 ·have a9:=BH a5;have a7:i<ks.length:=oM;obtain⟨x,a4⟩:∃x,ks[i]?=some x:=⟨_,DC a7⟩;have a8:=hk x (FQ a4);have al:=a8.2.2.1;obtain⟨p1,c1,ad,a5,hp⟩:=id hr;cases ad;obtain⟨_,fo,_,_,_,_,rfl,a3,ae⟩:=hp (zT a7);refine Cj.ks (bK (aO (Cj.sr (aA (AU (off':=fo+i*2) CP CQ) ?_))));refine aA (FN NS CQ (aG a3) (DN BL ae a4)) ?_;refine aB rfl (CU GL ?_);intro _ _;refine aB rfl (AB 0 CQ (bT (bT dY)) aZ ?_);refine J.GI (aA yP ?_);refine aA yP ?_;refine aA yP ?_;refine aA (qq2 (off':=0) LY zS) ?_;refine aA (yV BR (yR.at 0 rfl)) ?_;refine aB rfl (yU rfl rfl rfl rfl rfl (c0n x.1 a8 _ Z) ?_);refine aB rfl (EX rfl rfl rfl rfl rfl (b3J xv L n (iH x.1) oM _ N) ?_ (fun _ _ _ _ ⟨_,h,_⟩=>by cases h) (fun _ _ ⟨_,h,_⟩=>by cases h));intro _ _ _ O af ag;have N:=N.mono O;have Z:=Z.mono O;have hr:=hr.mono O;have A:=A.mono O;have hR:=fun x9 a0=>(hR x9 a0).mono O;have a3:=O _ _ a3;obtain⟨_,h,ah⟩:=ag;cases h;refine iD ah af (fun _ Q a6=>?_);have N:=N.mono Q;have Z:=Z.mono Q;have hr:=hr.mono Q;have A:=A.mono Q;have hR:=fun x9 a0=>(hR x9 a0).mono Q;have a3:=Q _ _ a3;replace a6:=a6.row;obtain⟨_,ca,rfl⟩:=PN a6;refine aB rfl (BQ OA UO a1u (fB rfl eG) ?_);intro _ _;refine aB rfl (BI (by':=23) [_,_] rfl rfl rfl rfl rfl OA (.inr ⟨_,OA⟩) kR UO a1u rfl hg rfl (Src.slice (yR.at 0 rfl) rfl rfl rfl) oM ?_);intro ai aa;refine aA yQ ?_;refine J.nb (aF (aA (yY rfl rfl rfl (zV oM)) ?_));refine aA yP ?_;refine fK (aP (aJ (aJ Keeps.r)) ?_);refine cZ ⟨i+1,_,ls++[(dV L n (bF n (iH x.1)),_)],ai⟩ ⟨dO,A,by dsimp only;rw[fG,a2,ZM _ a4];rfl,b3y hR a6,by dsimp only;rw[bP,cO];exact aa⟩ dO ⟨by dsimp only;rw[bP];rfl,rfl,rfl,rfl,rfl,rfl,trivial⟩ rfl (by dsimp only;rw[cO];rfl)
 have a9:=BJ a5;refine Cj.xl (bK ?_);rw[aX (oM:ks.length≤i)]at a2;refine Cj.perm (H':=gH 187 (ls.flatMap lrC) g++[]) (.of_eq (bM _)) ?_;refine Cj.keepR (f:=lrC) (fun _=>rfl) dE hg rfl (fun _ a1 hv=>?_);have N:=N.mono a1;have Z:=Z.mono a1;have hr:=hr.mono a1;have A:=A.mono a1;have hR:=fun x9 a0=>(hR x9 a0).mono a1;have ab:∀x∈ls,x.1.length≤1000000:=fun x N=>by
  have h9:x.1∈ls.map (·.1):=bC N;rw[a2]at h9;obtain⟨y,_,hy⟩:=dB.1 h9;rw[←hy];exact KT (Ix.b0n _ _ _) oM
 refine aF (aA yP ?_);refine aB rfl (yT (H1:=[]) rfl rfl rfl rfl rfl (a4I ls _ oM ab _ ⟨hv,hR⟩) ?_ (fun _ _ _ _ ⟨_,h,_⟩=>by cases h) (fun _ _ ⟨_,h,_⟩=>by cases h));intro _ _ _ G ac;have N:=N.mono G;have Z:=Z.mono G;have hr:=hr.mono G;have A:=A.mono G;have hR:=fun x9 a0=>(hR x9 a0).mono G;have hv:=hv.mono G;obtain⟨wb,h,ob,mb,kb,rfl,aj,rfl⟩:=ac;cases h;refine aA yQ ?_;refine J.ns (aT (aP (aH aQ) ?_));refine zM ?_;refine⟨_,rfl,ob,mb,kb,rfl,aj.congr fun t=>?_,rfl⟩;rw[show fC L n (ks.map (·.1))=ls.flatMap (·.1) from ?_];rw[b3w a2,eY];unfold fC;rw[eY];rfl
theorem OJ.vok{I v L}(h:OJ I v L):∀e∈L,MI e.2:=by
 rcases h with⟨_,rfl⟩|⟨G,_,o,h,_⟩
 ·exact fun e A=>by cases A
 cases o with
 |none=>rw[show L=[] from h];exact fun e A=>by cases A
 |some s=>exact JH.vok h
theorem a5g{L}(hs:gX L)(Q:∀e∈L,MI e.2)(Z:L.length≤100000) n b:(bG L n b).length≤1000000000000:=by
 have G:((bG L n b).map fun k=>(n,k)).length≤(L.flatMap fun e=>Ix.plK e.2).length:=by
  refine YK ?_ fun p hp=>?_
  ·rw[eH,gI];refine(Ix.YT L n b).imp fun {x y} h e=>?_;have:=zD Prod.snd e;dsimp only at this;rw[this]at h;exact iE _ h
  obtain⟨k,hk,rfl⟩:=dB.1 hp;obtain⟨e,A,N⟩:=(Ix.a1S hs).1 ((Ix.UE hs).1 hk).2;exact gJ.2 ⟨e,A,N⟩
 have h2:∀M:Ix.Ix,(∀e∈M,MI e.2)→(M.flatMap fun e=>Ix.plK e.2).length≤M.length*10000000:=by
  intro M
  induction M with
  |nil=>intro _;simp
  |cons a r ih=>
   intro O;have:=ih fun e A=>O e (.tail _ A);have h3:=(O a (.head _)).k;rw[List.flatMap_cons,bP,bU,Nat.add_mul];omega
 rw[aK]at G;exact KT (KT G (h2 L Q)) (Nat.mul_le_mul_right 10000000 Z)
abbrev TG:Int:=9223372036854775807
theorem VD{L:Ix.Ix}(hs:gX L)(A:∀e∈L,MI e.2)(G:L.length≤100000)(n s:List UInt8):((dG L n s TG).map KN).map (·.1)=bG L n (bF n s):=by
 have h:=a5g hs A G n (bF n s);rw[iL];exact Ix.b7h (by show _≤9223372036854775807;omega)
theorem a3K{L}(hs:gX L)(h:∀e∈L,MI e.2)(A:L.length≤100000) n s:((dG L n s TG).map KN).length=(bG L n (bF n s)).length∧(bG L n (bF n s)).length≤1000000000000:=by
 have G:=zD dX (VD hs h A n s);rw[aK]at G;exact⟨G,a5g hs h A n _⟩
theorem a8u{L}(A:fQ L)(hs:gX L)(G:∀e∈L,MI e.2)(N:L.length≤100000) n s:∀x∈(dG L n s TG).map KN,Ke.b0r x.1:=fun x O=>by
 have h:x.1∈((dG L n s TG).map KN).map (·.1):=bC O;rw[VD hs G N]at h;exact A.key hs h
theorem c0H{L}(hs:gX L) n b:(bG L n b).length≤(bG L n []).length:=by
 rw[Ix.b1v hs n b];exact dP _ _
theorem a3a l v:([((l,v):LR)].flatMap (·.1))=l:=bM l
def c0Y (kb:Nat):ML (List UInt8):=[([61],.func (.func 250) #[] #[ptr kb 0],0),([61,61],.func (.func 247) #[] #[],1),([97,110,121],.func (.func 252) #[] #[],2),([97,108,108],.func (.func 254) #[] #[],3),([62,61],.func (.func 256) #[] #[],4),([60],.func (.func 259) #[] #[],5)]
theorem c5v{ls:List LR}{L i}{ws:Ke.Row}(h:ls.map (·.1)=ws.map (bZ L i)) t:TU (ls.flatMap (·.1)) t=ws.any fun w=>decide (t∈bZ L i w):=by
 unfold TU;rw[b3w h,Bool.eq_iff_iff,zH,gJ,List.any_eq_true];constructor
 ·rintro⟨l,N,A⟩;obtain⟨w,G,rfl⟩:=dB.1 N;exact⟨w,G,zI A⟩
 rintro⟨w,G,A⟩;exact⟨_,bC G,BH A⟩
def a0G (ls:List LR) (t:dH):Bool:=ls.all fun x=>decide (t∈x.1)
theorem a8N{ls:List LR}{i x}(h:ls[i]?=some x) t:a0G (ls.take (i+1)) t=(a0G (ls.take i) t && decide (t∈x.1)):=by
 obtain⟨A,hg⟩:=eU.1 h;unfold a0G;rw[dJ A,hg,List.all_append,List.all_cons,List.all_nil,dI]
theorem allL{ls L i}{ws:Ke.Row}(h:ls.map (·.1)=ws.map (bZ L i)) t:a0G ls t=ws.all fun w=>decide (t∈bZ L i w):=by
 have:a0G ls t=(ls.map (·.1)).all fun l=>decide (t∈l):=by unfold a0G;rw[iM];rfl
 rw[this,h,iM];rfl
theorem b3r xv L q p c (hq:q.t.length≤10000000) I (A:OJ I xv L):yS aC 247 [xv,.agg (FX q p c).toArray] I [] (fun e _ H'=>∃w,e= .returned w∧ZL w (TU (dV L q.i (bF q.i q.t))) H'):=by
 have a8:=A.big;refine yS.ob func247 ?_;intro w0 _;refine Cj.sr (aB rfl (BG ?_));intro _ _;refine aA yQ ?_;refine J.yX (aA yP ?_);refine aA (qq2 (off':=1) EG zS) ?_;refine aA (yV BR (yR.at 0 rfl)) ?_;refine aA (qq2 (off':=3) EG zS) ?_;refine aA (yV BR (yR.at 0 rfl)) ?_;refine aB rfl (EX rfl rfl rfl rfl rfl (b3J xv L q.i q.t oM _ A) ?_ (fun _ _ _ _ ⟨_,h,_⟩=>by cases h) (fun _ _ ⟨_,h,_⟩=>by cases h));intro _ _ _ a0 a3 a4;have A:=A.mono a0;obtain⟨_,h,a5⟩:=a4;cases h;refine iD a5 a3 (fun _ a1 G=>?_);have A:=A.mono a1;replace G:=G.row;obtain⟨pa,ca,rfl⟩:=PN G;refine aB rfl (BQ OA UO a1u (fB rfl eG) ?_);intro b8 a6;refine fU a6 (fun _ Q O=>?_);have A:=A.mono Q;have G:=G.mono Q;have Z:LLS _ [((dV L q.i (bF q.i q.t)),.slice pa _ ca)] (.slice (some ⟨b8,0,none⟩) 1 1):=⟨iF (l:=[(((dV L q.i (bF q.i q.t)),.slice pa _ ca):LR)]) (sp:=[]) (bQ _) O,fun x A=>by rw[aU.1 A];exact G⟩;refine aB rfl (yT (H1:=[]) rfl rfl rfl rfl rfl (a4I [((dV L q.i (bF q.i q.t)),_)] _ (by show 1≤_;decide) (fun x A=>by rw[aU.1 A];exact KT (Ix.b0n _ _ _) oM) _ Z) ?_ (fun _ _ _ _ ⟨_,h,_⟩=>by cases h) (fun _ _ ⟨_,h,_⟩=>by cases h));intro _ _ _ N a2;have A:=A.mono N;have G:=G.mono N;have O:=N _ _ O;have Z:=Z.mono N;obtain⟨wb,h,ob,mb,kb,rfl,a7,rfl⟩:=a2;cases h;refine aA yQ ?_;refine J.ns (aT (aP (aH (aJ aQ)) ?_));refine zM ?_;exact⟨_,rfl,ob,mb,kb,rfl,a7.congr fun t=>zD (fun l=>TU l t) (a3a _ _),rfl⟩
theorem c3x xv L q p c (hq:q.t.length≤10000000) I (A:OJ I xv L) a6 (G:I a6=some (yZ 240 [.func (.func 247) #[] #[]])):yS aC 250 [xv,.agg (FX q p c).toArray,ptr a6 0] I [] (fun e _ H'=>∃w,e= .returned w∧ZL w (fun t=>if q.i=iO then TU (dV L q.i (bF q.i q.t)) t else TU (dN L q.i (aS q.t)) t) H'):=by
 have af:=A.big;refine yS.ob func250 ?_;intro w0 _;refine Cj.sr (aB rfl (BG ?_));intro _ _;refine aA yQ ?_;refine J.zX (aF (aA (qq2 (off':=1) EG zS) ?_));refine aA (yV BR (yR.at 0 rfl)) ?_;refine aA IW ?_;refine J.cd (fun a0=>?_) (fun a0=>?_)
 ·have a7:=DF a0;refine Cj.sr (aA (yV isAgg240 (aG G)) ?_);refine aA yP ?_;refine aA (zW FT CX (yR.at 0 rfl)) ?_;refine aB rfl (yT (H1:=[]) rfl rfl rfl rfl rfl (b3r xv L q p c hq _ A) ?_ (fun _ _ _ _ ⟨_,h,_⟩=>by cases h) (fun _ _ ⟨_,h,_⟩=>by cases h));intro _ _ _ a2 ab;have A:=A.mono a2;have G:=a2 _ _ G;obtain⟨wb,h,ob,mb,kb,rfl,a3,rfl⟩:=ab;cases h;refine aA yQ ?_;refine J.ns (Cj.rs (aP (aH (aJ aQ)) ?_));have hi:q.i=iO:=DF a0;refine zM ?_;exact⟨_,rfl,ob,mb,kb,rfl,a3.congr fun t=>by rw[zG hi],rfl⟩
 have a7:=DU a0;refine Cj.ks (Cj.sr (aA yP ?_));refine aA (qq2 (off':=1) EG zS) ?_;refine aA (yV BR (yR.at 0 rfl)) ?_;refine aA (qq2 (off':=3) EG zS) ?_;refine aA (yV BR (yR.at 0 rfl)) ?_;refine aB rfl (EX rfl rfl rfl rfl rfl (b4O xv L q.i q.t oM _ A) ?_ (fun _ _ _ _ ⟨_,h,_⟩=>by cases h) (fun _ _ ⟨_,h,_⟩=>by cases h));intro _ _ _ a1 ac a8;have A:=A.mono a1;have G:=a1 _ _ G;obtain⟨_,h,ad⟩:=a8;cases h;refine iD ad ac (fun _ a4 O=>?_);have A:=A.mono a4;have G:=a4 _ _ G;replace O:=O.row;obtain⟨pa,ca,rfl⟩:=PN O;refine aB rfl (BQ OA UO a1u (fB rfl eG) ?_);intro ae a9;refine fU a9 (fun _ Q Z=>?_);have A:=A.mono Q;have G:=Q _ _ G;have O:=O.mono Q;have a5:LLS _ [((dN L q.i (aS q.t)),.slice pa _ ca)] (.slice (some ⟨ae,0,none⟩) 1 1):=⟨iF (l:=[(((dN L q.i (aS q.t)),.slice pa _ ca):LR)]) (sp:=[]) (bQ _) Z,fun x A=>by rw[aU.1 A];exact O⟩;refine aB rfl (yT (H1:=[]) rfl rfl rfl rfl rfl (a4I [((dN L q.i (aS q.t)),_)] _ (by show 1≤_;decide) (fun x A=>by rw[aU.1 A];exact KT (b5z _ _ _) oM) _ a5) ?_ (fun _ _ _ _ ⟨_,h,_⟩=>by cases h) (fun _ _ ⟨_,h,_⟩=>by cases h));intro _ _ _ N aa;have A:=A.mono N;have G:=N _ _ G;have O:=O.mono N;have Z:=N _ _ Z;have a5:=a5.mono N;obtain⟨wb,h,ob,mb,kb,rfl,a3,rfl⟩:=aa;cases h;refine aA yQ ?_;refine J.ns (aT (aP (aH (aJ aQ)) ?_));have hi:q.i≠iO:=DU a0;refine zM ?_;exact⟨_,rfl,ob,mb,kb,rfl,a3.congr fun t=>by rw[zF hi];exact zD (fun l=>TU l t) (a3a _ _),rfl⟩
theorem c1W Q L q p c (hq:q.t.length≤10000000) I (A:OJ I Q L):yS aC 252 [Q,.agg (FX q p c).toArray] I [] (fun e _ H'=>∃w,e= .returned w∧ZL w (fun t=>(aS q.t).any fun w=>decide (t∈bZ L q.i w)) H'):=by
 have a5:=A.big;have a6:=fP q.t;refine yS.ob func252 ?_;intro w0 _;refine Cj.sr (aB rfl (BG ?_));intro _ _;refine aA yQ ?_;refine J.yX (aA yP ?_);refine aA (zW FT CX (yR.at 0 rfl)) ?_;refine aB rfl (yT (H1:=[]) rfl rfl rfl rfl rfl (a9b Q L q p c hq _ A) ?_ (fun _ _ _ _ ⟨_,_,h,_⟩=>by cases h) (fun _ _ ⟨_,_,h,_⟩=>by cases h));intro _ _ _ Z a3;have A:=A.mono Z;obtain⟨wl,ls,h,O,G,rfl⟩:=a3;cases h;have a0:∀x∈ls,x.1.length≤1000000:=fun x A=>by
  have h9:x.1∈ls.map (·.1):=bC A;rw[O]at h9;obtain⟨y,_,hy⟩:=dB.1 h9;rw[←hy];exact KT (b3Y _ _ _) oM
 have a7:ls.length=(aS q.t).length:=by have h:=zD dX O;rw[aK,aK]at h;exact h
 obtain⟨pl,_,a1,_,-⟩:=id G.1;subst a1;refine aB rfl (yT (H1:=[]) rfl rfl rfl rfl rfl (a4I ls _ oM a0 _ G) ?_ (fun _ _ _ _ ⟨_,h,_⟩=>by cases h) (fun _ _ ⟨_,h,_⟩=>by cases h));intro _ _ _ N a2;have A:=A.mono N;have G:=G.mono N;obtain⟨wb,h,ob,mb,kb,rfl,a4,rfl⟩:=a2;cases h;refine aA yQ ?_;refine J.ns (aT (aP (aH (aJ aQ)) ?_));refine zM ?_;exact⟨_,rfl,ob,mb,kb,rfl,a4.congr (c5v O),rfl⟩
theorem MQ.congr{I v S N}(h:MQ I v S)(O:∀t,S t=N t):MQ I v N:=
 h.imp (fun⟨A,G⟩=>⟨A,fun t=>by rw[←O t];exact G t⟩) fun⟨b,m,k,A,G,Q⟩=>⟨b,m,k,A,G.congr O,Q⟩
theorem b9L{ls:List LR}{x}(h:ls[0]?=some x) t:a0G (ls.take (0+1)) t=TU x.1 t:=by
 rw[a8N h t];rfl
theorem c3G xv L q p c (hq:q.t.length≤10000000) I (hx:OJ I xv L):yS aC 254 [xv,.agg (FX q p c).toArray] I [] (fun e I' H'=>∃w,e= .returned w∧MQ I' w (fun t=> !(aS q.t).isEmpty && (aS q.t).all fun w=>decide (t∈bZ L q.i w))∧H'=[]):=by
 have bs:=hx.big;have bt:=fP q.t;refine yS.ob func254 ?_;intro w0 _;refine Cj.sr (aB rfl (BG ?_));intro b1 _;refine aA yQ ?_;refine J.yX (aA yP ?_);refine aA (zW FT CX (yR.at 0 rfl)) ?_;refine aB rfl (yT (H1:=[]) rfl rfl rfl rfl rfl (a9b xv L q p c hq _ hx) ?_ (fun _ _ _ _ ⟨_,_,h,_⟩=>by cases h) (fun _ _ ⟨_,_,h,_⟩=>by cases h));intro _ _ _ hle5 ba;have hx:=hx.mono hle5;obtain⟨wl,ls,h,al,A,rfl⟩:=ba;cases h;have am:∀x∈ls,x.1.length≤1000000:=fun x hx=>by
  have h9:x.1∈ls.map (·.1):=bC hx;rw[al]at h9;obtain⟨y,_,hy⟩:=dB.1 h9;rw[←hy];exact KT (b3Y _ _ _) oM
 have ax:ls.length=(aS q.t).length:=by have h:=zD dX al;rw[aK,aK]at h;exact h
 obtain⟨pl,_,b2,bb,-⟩:=id A.1;subst b2;refine aA yQ ?_;refine J.zX (aF (aA yP ?_));refine aA (zZ OA) ?_;refine aA DW ?_;refine J.cd (fun aj=>?_) (fun aj=>?_)
 ·have b3:=DF aj;refine Cj.sr (aA yQ ?_);refine J.ns (Cj.rs (bI ?_));refine zM ?_;exact⟨_,rfl,.inl ⟨rfl,fun t=>by rw[show aS q.t=[] from fF.1 (by have h:=DF aj;omega)];rfl⟩,rfl⟩
 have b3:=DU aj;have ad:0<ls.length:=by have h:=DU aj;omega
 obtain⟨⟨an,_⟩,ac⟩:∃x,ls[0]?=some x:=⟨_,DC ad⟩;obtain⟨p1,c1,bc,_,hp⟩:=id A.1;cases bc;obtain⟨lb,lo,_,_,_,_,rfl,ae,bd⟩:=hp (zT ad);have aa:=A.2 _ (FQ ac);dsimp only at aa;have ao:=am _ (FQ ac);dsimp only at ao;obtain⟨pa,ca,rfl⟩:=PN aa;have G:=zN.cut (f:=lrC) (sz:=1) (fun _=>rfl) A.1 (j:=1) (k:=ls.length) ad (bQ _);rw[aX sI]at G;obtain⟨p4,c4,ay⟩:=PN G;rw[ay]at G;refine Cj.ks (Cj.sr (aA yP ?_));refine aA (AU (off':=lo+0) OA UO) ?_;refine aA (EF isAgg187 (aG ae) (a3E bd ac)) ?_;refine aB rfl (BQ OA UO a1u (fB rfl eG) ?_);intro b8 ap;refine fU ap (fun _ af ag=>?_);have hx:=hx.mono af;have A:=A.mono af;have ae:=af _ _ ae;have aa:=aa.mono af;have G:=G.mono af;have ah:LLS _ [(an,.slice pa _ ca)] (.slice (some ⟨b8,0,none⟩) 1 1):=⟨iF (l:=[((an,.slice pa _ ca):LR)]) (sp:=[]) (bQ _) ag,fun x hx=>by rw[aU.1 hx];exact aa⟩;refine aB rfl (yT (H1:=[]) rfl rfl rfl rfl rfl (a4I [(an,_)] _ (by show 1≤_;decide) (fun x hx=>by rw[aU.1 hx];exact ao) _ ah) ?_ (fun _ _ _ _ ⟨_,h,_⟩=>by cases h) (fun _ _ ⟨_,h,_⟩=>by cases h));intro _ _ _ a5 b4;have hx:=hx.mono a5;have ae:=a5 _ _ ae;have aa:=aa.mono a5;have G:=G.mono a5;have ag:=a5 _ _ ag;have ah:=ah.mono a5;have A:=A.mono a5;obtain⟨wb,h,ob,mb,kb,rfl,be,rfl⟩:=b4;cases h;refine aA yQ ?_;refine J.zX (iP rfl (fun aq=>?_));refine aY (aq _ (.head _)) (fun I7 a9 bf=>?_);have hx:=hx.mono a9;have ae:=a9 _ _ ae;have aa:=aa.mono a9;have G:=G.mono a9;have ag:=a9 _ _ ag;have ah:=ah.mono a9;have A:=A.mono a9;have hset:MQ I7 (.map (some ob)) (a0G (ls.take (0+1))):= .inr ⟨ob,mb,kb,rfl,be.congr (fun t=>by rw[b9L ac t,a3a]),bf⟩;refine aF (aA yP ?_);refine aA (PD (j:=1) rfl rfl rfl OA UO rfl ad bb) ?_;refine gG 22 rfl (show _= .slice p4 (ls.drop 1).length c4 from ay) ?_;refine aA (zZ OA) ?_;refine aA yP ?_;refine J.ns (aO (dU (ι:=Nat×Heap×Value) (fun y=>y.1+1≤ls.length∧Le I7 y.2.1∧MQ y.2.1 y.2.2 (a0G (ls.take (y.1+1)))) (fun y=>ls.length-y.1) (fun y=>[(3,ptr b1 0),(6,y.2.2),(22,.slice p4 (ls.drop 1).length c4),(23,i64 ((ls.drop 1).length:Int)),(24,i64 (y.1:Int))]) (fun y=>y.2.1) (fun y=>[(b1,yZ 129 (FX q p c))]) (0,_,_) ⟨ad,bD _,hset⟩ rT rfl rfl ?_));clear hset;rintro⟨i,_,sv⟩ ⟨hi,Q,hset⟩;dsimp only at hi Q hset ⊢;have A:=A.mono Q;have G:=G.mono Q;have bu:(ls.drop 1).length=ls.length-1:=List.length_drop;refine Cj.sr (aA AV ?_);refine J.nss (bH rfl (fun ak=>?_) (fun ak=>?_))
 ·have ar:=BH ak;have bg:i+1<ls.length:=oM;obtain⟨⟨xs,bh⟩,ai⟩:∃x,ls[i+1]?=some x:=⟨_,DC bg⟩;have bi:(ls.drop 1)[i]?=some (xs,bh):=by rw[List.getElem?_drop,Nat.add_comm];exact ai
  obtain⟨_,_,b5,_,bj⟩:=id G;cases b5;obtain⟨tb,bl,_,_,_,_,rfl,a4,bm⟩:=bj (zT (oM:i<(ls.drop 1).length));have a0:=A.2 _ (FQ ai);dsimp only at a0;have az:=am _ (FQ ai);dsimp only at az;obtain⟨pb,cb,rfl⟩:=PN a0;have bn:=a8N ai;refine Cj.ks (bK (aO (Cj.sr (aA (AU (off':=bl+i) OA UO) ?_))));refine aA (EF isAgg187 (aG a4) (a3E bm bi)) ?_;refine aA yQ ?_;refine J.yX (aA yP ?_);refine aB rfl (BQ OA UO a1u (fB rfl eG) ?_);intro bo b6;refine fU b6 (fun _ a8 N=>?_);have A:=A.mono a8;have G:=G.mono a8;have hset:=hset.mono a8;have Q:=Q.mono a8;have a4:=a8 _ _ a4;have a0:=a0.mono a8;have a1:LLS _ [(xs,.slice pb _ cb)] (.slice (some ⟨bo,0,none⟩) 1 1):=⟨iF (l:=[((xs,.slice pb _ cb):LR)]) (sp:=[]) (bQ _) N,fun x hx=>by rw[aU.1 hx];exact a0⟩;refine aB rfl (yT (H1:=[]) rfl rfl rfl rfl rfl (a4I [(xs,_)] _ (by show 1≤_;decide) (fun x hx=>by rw[aU.1 hx];exact az) _ a1) ?_ (fun _ _ _ _ ⟨_,h,_⟩=>by cases h) (fun _ _ ⟨_,h,_⟩=>by cases h));intro _ _ _ a2 b7;have G:=G.mono a2;have hset:=hset.mono a2;have Q:=Q.mono a2;have a4:=a2 _ _ a4;have a0:=a0.mono a2;have N:=a2 _ _ N;have a1:=a1.mono a2;have A:=A.mono a2;obtain⟨_,h,oc,mc,kc,rfl,bp,rfl⟩:=b7;cases h;refine aB rfl (CU zeroValue239 ?_);intro b0 hb25;refine aB rfl (AB 0 sizeOf239 (bT dY) aZ ?_);refine J.ns (Cj.pull (Pull.s Pull.z) ?_);refine iP rfl (fun au=>?_);refine aY (au _ (.head _)) (fun I6 a7 bq=>?_);have G:=G.mono a7;have hset:=hset.mono a7;have Q:=Q.mono a7;have a4:=a7 _ _ a4;have a0:=a0.mono a7;have N:=a7 _ _ N;have a1:=a1.mono a7;have A:=A.mono a7;have a6:MQ I6 (.map (some oc)) (TU xs):= .inr ⟨oc,mc,kc,rfl,bp.congr (fun t=>zD (fun l=>TU l t) (a3a _ _)),bq⟩;refine aY hb25 (fun _ Z ab=>?_);have G:=G.mono Z;have hset:=hset.mono Z;have Q:=Q.mono Z;have a4:=Z _ _ a4;have a0:=a0.mono Z;have N:=Z _ _ N;have a1:=a1.mono Z;have A:=A.mono Z;have a6:=a6.mono Z;refine aF (aA yP ?_);refine aA (DY rfl rfl rfl) ?_;refine aB rfl (yT (H1:=[]) rfl rfl rfl rfl rfl (XO _ (a0G (ls.take (i+1))) (TU xs) _ [ptr b0 0] _ hset (fun t _=>c3z b0 _ (TU xs) t _ ab a6)) ?_ (fun _ _ _ _ ⟨_,h,_⟩=>by cases h) (fun _ _ ⟨_,h,_⟩=>by cases h));intro _ _ _ O b9;have G:=G.mono O;have hset:=hset.mono O;have Q:=Q.mono O;have a4:=O _ _ a4;have a0:=a0.mono O;have N:=O _ _ N;have a1:=a1.mono O;have A:=A.mono O;have a6:=a6.mono O;have ab:=O _ _ ab;obtain⟨_,h,od,md,kd,rfl,br,rfl⟩:=b9;cases h;refine aA yQ ?_;refine J.nb (iP rfl (fun av=>?_));refine aY (av _ (.head _)) (fun I8 a3 ap=>?_);have G:=G.mono a3;have hset:=hset.mono a3;have Q:=Q.mono a3;have a4:=a3 _ _ a4;have a0:=a0.mono a3;have N:=a3 _ _ N;have a1:=a1.mono a3;have A:=A.mono a3;have a6:=a6.mono a3;have ab:=a3 _ _ ab;have aw:MQ I8 (.map (some od)) (a0G (ls.take (i+1+1))):= .inr ⟨od,md,kd,rfl,br.congr (fun t=>(bn t).symm),ap⟩;refine aF (aA (yY rfl rfl rfl (zV oM)) ?_);refine aA yP ?_;refine fK (cZ (i+1,_,_) ⟨dO,Q,aw⟩ dO rT rfl rfl)
 have ar:=BJ ak;refine Cj.xl (Cj.sr (aA yP ?_));refine aA yQ ?_;refine J.ns (aT (bI ?_));refine zM ?_;refine⟨_,rfl,?_,rfl⟩;rw[aX (oM:ls.length≤i+1)]at hset;refine hset.congr fun t=>?_;rw[allL al];rw[show(aS q.t).isEmpty=false from by
  cases hw:aS q.t with
  |nil=>rw[hw]at ax;rw[ax]at ad;exact absurd ad (Nat.lt_irrefl 0)
  |cons a r=>rfl]
 rfl
theorem c1O xv L q p c (hq:q.t.length≤10000000) I (N:OJ I xv L)(hT:LZ I)(a9:fQ L):yS aC 256 [xv,.agg (FX q p c).toArray] I [] (fun e _ H'=>∃w,e= .returned w∧ZL w (fun t=>decide (t∈fC L q.i (bG L q.i (bF q.i q.t)))) H'):=by
 have a2:=N.big;have a3:=N.KQ;have a4:=N.vok;obtain⟨_,_⟩:=a3K a3 a4 a2 q.i q.t;refine yS.ob func256 ?_;intro w0 _;refine Cj.sr (aB rfl (BG ?_));intro _ aa;refine aA yQ ?_;refine J.nss (aY aa (fun _ a5 G=>?_));have N:=N.mono a5;have hT:=hT.mono a5;refine fO [] [] 11 kR ?_;have Z:=G;refine fD BX (fun Q=>?_);refine aN 0 rfl Q yP ?_;refine aN 1 rfl Q (qq2 (off':=1) EG zS) ?_;refine aN 2 rfl Q (yV BR (dW Z)) ?_;refine aN 3 rfl Q yP ?_;refine aN 4 rfl Q (qq2 (off':=1) EG zS) ?_;refine aN 5 rfl Q (yV BR (dW Z)) ?_;refine aN 6 rfl Q (qq2 (off':=3) EG zS) ?_;refine aN 7 rfl Q (yV BR (dW Z)) ?_;refine zO 8 rfl (EX rfl rfl rfl rfl rfl (a6d xv L q.i q.t oM TG _ N) ?_ (fun _ _ _ _ ⟨_,h,_⟩=>by cases h) (fun _ _ ⟨_,h,_⟩=>by cases h));intro _ _ _ O ab a6;have N:=N.mono O;have hT:=hT.mono O;have G:=O _ _ G;obtain⟨_,h,ac⟩:=a6;cases h;have ad:=ab;refine⟨⟨(aI (bD _) O),bV,bW⟩,?_⟩;refine iQ ac ad (fun _ a0 a1=>?_);have N:=N.mono a0;have hT:=hT.mono a0;have G:=a0 _ _ G;replace a1:=a1.row;obtain⟨_,ca,ae,_,-⟩:=id a1;subst ae;refine zO 9 rfl (yT (H1:=[]) rfl rfl rfl rfl rfl (b1t xv L q.i ((dG L q.i q.t TG).map KN) _ (a8u a9 a3 a4 a2 q.i q.t) oM _ N hT a1) ?_ (fun _ _ _ _ ⟨_,h,_⟩=>by cases h) (fun _ _ ⟨_,h,_⟩=>by cases h));intro _ _ _ A a7;have N:=N.mono A;have hT:=hT.mono A;have G:=A _ _ G;have a1:=a1.mono A;obtain⟨wb,h,ob,mb,kb,rfl,af,rfl⟩:=a7;cases h;refine⟨⟨(aI (aI (aI (bD _) O) a0) A),bV,bW⟩,?_⟩;refine fD ⟨bV,bW,(aI (aI (aI (bD _) O) a0) A)⟩ (fun a8=>?_);refine aN 10 rfl a8 yQ ?_;refine AA ?_;refine eX (aT (aP (aH aQ) ?_));refine zM ?_;exact⟨_,rfl,ob,mb,kb,rfl,af.congr fun t=>zD (fun l=>TU (fC L q.i l) t) (VD a3 a4 a2 q.i q.t),rfl⟩
theorem c2E xv L q p c (hq:q.t.length≤10000000) I (N:OJ I xv L)(hT:LZ I)(aj:fQ L):yS aC 259 [xv,.agg (FX q p c).toArray] I [] (fun e _ H'=>∃w,e= .returned w∧ZL w (fun t=>decide (t∈fC L q.i ((bG L q.i []).take ((bG L q.i []).length-(bG L q.i (bF q.i q.t)).length)))) H'):=by
 have a6:=N.big;have a2:=N.KQ;have a7:=N.vok;obtain⟨ak,_⟩:=a3K a2 a7 a6 q.i q.t;obtain⟨ac,ad⟩:=a3K a2 a7 a6 q.i [];rw[Ix.a8X]at ac ad;have aw:=c0H a2 q.i (bF q.i q.t);refine yS.ob func259 ?_;intro w0 _;refine Cj.sr (aB rfl (BG ?_));intro _ al;refine aA yQ ?_;refine J.nss (aY al (fun _ a9 A=>?_));have N:=N.mono a9;have hT:=hT.mono a9;refine fO [] [] 12 kR ?_;have a3:=A;refine fD BX (fun a1=>?_);refine aN 0 rfl a1 yP ?_;refine aN 1 rfl a1 (qq2 (off':=1) EG zS) ?_;refine aN 2 rfl a1 (yV BR (dW a3)) ?_;refine aN 4 rfl a1 yP ?_;refine aN 5 rfl a1 (qq2 (off':=1) EG zS) ?_;refine aN 6 rfl a1 (yV BR (dW a3)) ?_;refine aN 7 rfl a1 (qq2 (off':=3) EG zS) ?_;refine aN 8 rfl a1 (yV BR (dW a3)) ?_;refine zO 3 rfl (EX rfl rfl rfl rfl rfl (a6d xv L q.i [] dE TG _ N) ?_ (fun _ _ _ _ ⟨_,h,_⟩=>by cases h) (fun _ _ ⟨_,h,_⟩=>by cases h));intro _ _ _ a0 am ae;have N:=N.mono a0;have hT:=hT.mono a0;have A:=a0 _ _ A;obtain⟨_,h,an⟩:=ae;cases h;have ao:=am;refine⟨⟨(aI (bD _) a0),bV,bW⟩,?_⟩;refine iQ an ao (fun _ a4 Z=>?_);have N:=N.mono a4;have hT:=hT.mono a4;have A:=a4 _ _ A;replace Z:=Z.row;obtain⟨_,ca,ap,_,-⟩:=id Z;subst ap;refine zO 9 rfl (EX rfl rfl rfl rfl rfl (a6d xv L q.i q.t oM TG _ N) ?_ (fun _ _ _ _ ⟨_,h,_⟩=>by cases h) (fun _ _ ⟨_,h,_⟩=>by cases h));intro _ _ _ Q af ag;have N:=N.mono Q;have hT:=hT.mono Q;have A:=Q _ _ A;have Z:=Z.mono Q;obtain⟨_,h,aq⟩:=ag;cases h;have ar:=af;refine⟨⟨(aI (aI (aI (bD _) a0) a4) Q),bV,bW⟩,?_⟩;refine iQ aq ar (fun _ a5 a8=>?_);have N:=N.mono a5;have hT:=hT.mono a5;have A:=a5 _ _ A;have Z:=Z.mono a5;replace a8:=a8.row;obtain⟨_,cd,au,_,-⟩:=id a8;subst au;refine fD ⟨bV,bW,(aI (aI (aI (aI (bD _) a0) a4) Q) a5)⟩ (fun aa=>?_);refine aN 10 rfl aa yQ ?_;refine aN 11 rfl aa yQ ?_;refine AA ?_;refine eX (bK (fO [] [] 12 kR ?_));have ab:=A;refine fD BX (fun G=>?_);refine aN 0 rfl G yP ?_;refine aN 1 rfl G (qq2 (off':=1) EG zS) ?_;refine aN 2 rfl G (yV BR (dW ab)) ?_;refine aN 3 rfl G yP ?_;refine aN 4 rfl G yP ?_;refine aN 5 rfl G (zZ CP) ?_;refine aN 6 rfl G yP ?_;refine aN 7 rfl G (zZ CP) ?_;refine aN 8 rfl G (EP rfl rfl rfl (zV oM)) ?_;refine JA.eqv 25 rfl (show _=i64 ((((dG L q.i [] TG).map KN).length-((dG L q.i q.t TG).map KN).length):Nat) from(zD i64 oM)) ?_;refine aN 9 rfl G (a6T rfl rfl rfl CP CQ oM) ?_;refine zO 10 rfl (yT (H1:=[]) rfl rfl rfl rfl rfl (b1t xv L q.i (((dG L q.i [] TG).map KN).take (((dG L q.i [] TG).map KN).length-((dG L q.i q.t TG).map KN).length)) _ (fun x N=>a8u aj a2 a7 a6 q.i [] x (List.mem_of_mem_take N)) (by rw[fA];omega) _ N hT (zN.take Z (Nat.sub_le _ _))) ?_ (fun _ _ _ _ ⟨_,h,_⟩=>by cases h) (fun _ _ ⟨_,h,_⟩=>by cases h));intro _ _ _ O ah;have N:=N.mono O;have hT:=hT.mono O;have A:=O _ _ A;have Z:=Z.mono O;have a8:=a8.mono O;obtain⟨wb,h,ob,mb,kb,rfl,av,rfl⟩:=ah;cases h;refine⟨⟨(aI (bD _) O),bV,bW⟩,?_⟩;refine fD ⟨bV,bW,(aI (bD _) O)⟩ (fun ai=>?_);refine aN 11 rfl ai yQ ?_;refine AA ?_;refine eX (aT (aP (aH aQ) ?_));refine zM ?_;exact⟨_,rfl,ob,mb,kb,rfl,av.congr fun t=>by rw[List.map_take,VD a2 a7 a6 q.i [],ak,ac,Ix.a8X];rfl,rfl⟩
theorem b2d I:yS aC 203 [] I [] (fun e N H'=>∃kb O,e= .returned (.map (some O))∧N kb=some (yZ 240 [.func (.func 247) #[] #[]])∧N O=some (zY (fun a:List UInt8=>str a) (c0Y kb) 6)∧H'=[]):=by
 refine yS.ob func203 ?_;intro w0 _;refine Cj.sr (aA yQ ?_);refine J.yX (aB rfl (CU zeroValue240 ?_));intro b1 Q;refine aB rfl (AB 0 sizeOf240 (bT dY) aZ ?_);refine J.yX (aB rfl (BK rfl rfl rfl ?_));intro b2 Z;refine aA (DY rfl rfl rfl) ?_;refine aB rfl (FH (kv:=(fun a:List UInt8=>str a)) (l:=[]) (c:=0) (a:=[61]) 0 (.inl rfl) rfl rfl rfl rfl rfl a2D (dQ BU) rfl aZ ?_);refine aA (yV isAgg240 (yR.at 1 rfl)) ?_;refine aB rfl (FH (kv:=(fun a:List UInt8=>str a)) (a:=[61,61]) 0 (.inl rfl) rfl rfl rfl rfl rfl a2D (dQ BU) rfl aZ ?_);refine aB rfl (FH (kv:=(fun a:List UInt8=>str a)) (a:=[97,110,121]) 0 (.inl rfl) rfl rfl rfl rfl rfl a2D (dQ BU) rfl aZ ?_);refine aB rfl (FH (kv:=(fun a:List UInt8=>str a)) (a:=[97,108,108]) 0 (.inl rfl) rfl rfl rfl rfl rfl a2D (dQ BU) rfl aZ ?_);refine aB rfl (FH (kv:=(fun a:List UInt8=>str a)) (a:=[62,61]) 0 (.inl rfl) rfl rfl rfl rfl rfl a2D (dQ BU) rfl aZ ?_);refine aB rfl (FH (kv:=(fun a:List UInt8=>str a)) (a:=[60]) 0 (.inl rfl) rfl rfl rfl rfl rfl a2D (dQ BU) rfl aZ ?_);refine aA yP ?_;refine aA yQ ?_;refine J.ns (aT (Ej.pull (Pull.s Pull.z) ?_));refine Ej.persist Q (fun _ _ h=>?_);refine Ej.persist Z (fun _ A G=>?_);have h:=A _ _ h;refine bI ?_;refine zM ?_;exact⟨b1,b2,rfl,h,G,rfl⟩
end Go.Proofs.YtdjkhllhakhjbaaGreatDoor
namespace Ix
open Ke
theorem a2d L {t}:∀(n:Nat) (q:Cq.Qn),q.size<n→Cq.form q=true→sat L q t=true→t∈L.map (·.1)
 |0,_,h,_,_=>absurd h (Nat.not_lt_zero _)
 |n+1,q,hn,hf,h=>by
  rcases Cq.a1p hf with G|⟨G,Q,Z,a,b,A,N,O⟩
  ·rw[b1Y G]at h;exact c3g h
  rw[b3C G A]at h;have hs:=A.size;unfold comb at h
  split at h
  ·rw[dK]at h;exact a2d L n a oM N h.1
  split at h
  ·rw[Bool.or_eq_true]at h;exact h.elim (a2d L n a oM N) (a2d L n b oM O)
  rw[dK]at h;exact a2d L n a oM N h.1
theorem b0G{L q}(hf:Cq.form q=true){l}(G:l.Pairwise (a0g L))(A:∀t,t∈l↔sat L q t=true):PV L q l:=
 ⟨G,fun t=>⟨fun h=>⟨a2d L _ q (gK _) hf ((A t).1 h),(A t).1 h⟩,fun h=>(A t).2 h.2⟩⟩
end Ix
namespace Ix
open Ke
theorem a0L{L q l}(N:l.Pairwise (a0g L))(A:∀t∈L.map (·.1),(t∈l↔sat L q t=true))(G:∀t∈l,t∈L.map (·.1)):PV L q l:=
 ⟨N,fun t=>⟨fun h=>⟨G t h,(A t (G t h)).1 h⟩,fun h=>(A t h.1).2 h.2⟩⟩
end Ix
namespace Go.Proofs.YtdjkhllhakhjbaaGreatDoor
open _root_.Go.Proofs.Tryz
open Go Go.Sx
theorem yS.b8S{f args I S}(h:yS aC f args I [] (fun e G H'=>∃w,e= .returned w∧(ZL w S H'∨(MQ G w S∧H'=[])))):yS aC f args I [] (fun e G H'=>∃w,e= .returned w∧MQ G w S∧H'=[]):=by
 refine⟨h.1,fun w N=>(h.2 w N).mono ?_⟩;rintro e w' ⟨G,H',A,u,rfl,O|⟨Q,rfl⟩⟩
 ·obtain⟨b,m,k,rfl,Z,rfl⟩:=O;have hb:w.heap.size≤b:=(A.new _ (.head _)).resolve_left sI;exact⟨_,_,A.persist hb,_,rfl,.inr ⟨b,m,k,rfl,Z,a0o _ _ _⟩,rfl⟩
 exact⟨_,_,A,_,rfl,Q,rfl⟩
theorem yS.a4l{f args I S A}(h:yS aC f args I [] (fun e _ H'=>∃w,e= .returned w∧ZL w S H'))(G:∀t,S t=A t):yS aC f args I [] (fun e N H'=>∃w,e= .returned w∧MQ N w A∧H'=[]):=
 yS.b8S (h.mono fun _ _ _ _ ⟨w,O,b,m,k,Q,Z,h4⟩=>⟨w,O,.inl ⟨b,m,k,Q,Z.congr G,h4⟩⟩)
theorem c1Q A L q p c kb (hq:q.t.length≤10000000)(O:fQ L)(hr:fE.contains q.r=true) I (G:OJ I A L)(Q:LZ I)(Z:I kb=some (yZ 240 [.func (.func 247) #[] #[]])):
 ∃F N,(BF (c0Y kb) q.r).getD .nilFunc= .func (.func F) #[] (fV N)∧yS aC F (A:: .agg (FX q p c).toArray::N) I [] (fun e I' H'=>∃w,e= .returned w∧MQ I' w (fun t=>Ix.b1c L q.i q.r q.t t)∧H'=[]):=by
 have hm:q.r∈fE:=List.contains_iff_mem.1 hr;simp only[fE,iI,gQ,or_false]at hm;rcases hm with h|h|h|h|h|h<;>rw[h]
 ·exact⟨_,[ptr kb 0],rfl,yS.a4l (c3x A L q p c hq I G kb Z) fun t=>rfl⟩
 ·exact⟨_,[],rfl,yS.a4l (b3r A L q p c hq I G) fun t=>rfl⟩
 ·exact⟨_,[],rfl,yS.a4l (c2E A L q p c hq I G Q O) fun t=>rfl⟩
 ·exact⟨_,[],rfl,yS.a4l (c1O A L q p c hq I G Q O) fun t=>rfl⟩
 ·exact⟨_,[],rfl,yS.a4l (c1W A L q p c hq I G) fun t=>rfl⟩
 exact⟨_,[],rfl,c3G A L q p c hq I G⟩
def a4N (xv:Value) (L:Ix.Ix) (q:Cq.Qn):Prop:=∀(p:Option Addr) (c:Nat) (I:Heap),PS I q.ps p→OJ I xv L→LZ I→q.wide≤10000000→Cq.form q=true→yS aC 142 [xv,.agg (FX q p c).toArray] I [] (fun e I' H'=>∃w,e= .returned w∧MQ I' w (aW L q)∧H'=[])
theorem b0u xv L (cu:fQ L) q (ih:∀q',Cq.Qn.size q'<q.size→a4N xv L q'):a4N xv L q:=by
 intro p c I hps Q Z cx aw;refine yS.b8S ?_;refine yS.ob func142 ?_;intro w0 _;refine Cj.sr (aB rfl (BG ?_));intro b1 _;refine aA yQ ?_;refine J.zX (aF (aA (qq2 (off':=0) EG BO) ?_));refine aA (yV FY (yR.at 0 rfl)) ?_;refine aA DW ?_;refine J.cd (fun bd=>?_) (fun bd=>?_)
 ·have c6:=DF bd;have hk:q.k=1:=oM;have c7:fE.contains q.r=true:=by
   rw[Cq.a4c hk,dK,dK]at aw;exact aw.1.2
  have cy:q.t.length≤10000000:=by unfold Cq.Qn.wide at cx;omega
  refine bK (fO [0] [] 8 kR ?_);refine fD ⟨(gY 0 rfl bV),bW,(bD _)⟩ (fun ba=>?_);refine aN 1 rfl ba (qq2 (off':=2) EG zS) ?_;refine aN 2 rfl ba (yV BR (yR.ZU 0 rfl)) ?_;refine aN 4 rfl ba yP ?_;refine aN 5 rfl ba (zW FT CX (yR.ZU 0 rfl)) ?_;refine zO 0 rfl (yT (H1:=[]) rfl rfl rfl rfl rfl (b2d _) ?_ (fun _ _ _ _ ⟨_,_,h,_⟩=>by cases h) (fun _ _ ⟨_,_,h,_⟩=>by cases h));intro _ _ _ hle7 cz;have hps:=hps.mono hle7;have Q:=Q.mono hle7;have Z:=Z.mono hle7;obtain⟨bz,_,h,b4,b5,rfl⟩:=cz;cases h;obtain⟨F,c8,hF,d0⟩:=c1Q xv L q p c bz cy cu c7 _ Q Z b4;refine⟨⟨(aI (bD _) hle7),(gY 0 rfl bV),bW⟩,?_⟩;refine zO 3 rfl (zK (IV (kv:=(fun a:List UInt8=>str a)) (l:=(c0Y bz)) (a:=q.r) a2D (dQ BU) zeroValue240 (aG b5)) ?_);refine⟨⟨(aI (bD _) hle7),(gY 0 rfl bV),bW⟩,?_⟩;refine JA.eqv 15 rfl (show _= .func (.func F) #[] c8.toArray from hF) ?_;refine zO 6 rfl (yT (H1:=[]) rfl rfl rfl rfl rfl (d0) ?_ (fun _ _ _ _ ⟨_,h,_⟩=>by cases h) (fun _ _ ⟨_,h,_⟩=>by cases h));intro _ _ _ a6 c9;have hps:=hps.mono a6;have Q:=Q.mono a6;have Z:=Z.mono a6;have b4:=a6 _ _ b4;have b5:=a6 _ _ b5;obtain⟨_,h,hset,rfl⟩:=c9;cases h;refine⟨⟨(aI (aI (bD _) hle7) a6),(gY 0 rfl bV),bW⟩,?_⟩;refine fD ⟨(gY 0 rfl bV),bW,(aI (aI (bD _) hle7) a6)⟩ (fun ce=>?_);refine aN 7 rfl ce yQ ?_;refine AA ?_;refine eX (Cj.rs (bI ?_));refine zM ?_;exact⟨_,rfl,.inr ⟨hset.congr fun t=>(Ix.b1Y hk).symm,rfl⟩⟩
 have c6:=DU bd;have hk:q.k≠1:=oM;obtain⟨_,_,_,qa,qb,b2,d1,c2⟩:=(Cq.a1p aw).resolve_left hk;obtain⟨bl,off,cs',T,fr,pa,ca,pb,cb,rfl,G,d2,c3,_,be,N⟩:=hps.b7O b2;have b6:=b2.size;have d6:=b2.wide;have d7:=b2.len;have a4:∀t,aW L q t=Ix.comb q.k (aW L qa t) (aW L qb t):=fun t=>Ix.b3C hk b2;refine Cj.ks (Cj.sr (aA yP ?_));refine aA (qq2 (off':=4) EG UM) ?_;refine aA (yV isAgg127 (yR.at 0 rfl)) ?_;refine aA (AU (off':=off) a0k CX) ?_;refine aA (FN FT CX (aG G) d2) ?_;refine aB rfl (yT (H1:=[]) rfl rfl rfl rfl rfl (ih qa b6.1 pa ca _ be Q Z oM d1) ?_ (fun _ _ _ _ ⟨_,h,_⟩=>by cases h) (fun _ _ ⟨_,h,_⟩=>by cases h));intro _ _ _ al cf;have Q:=Q.mono al;have Z:=Z.mono al;have G:=al _ _ G;have be:=be.mono al;have N:=N.mono al;obtain⟨_,h,A,rfl⟩:=cf;cases h;rcases id A with⟨rfl,d3⟩|⟨ab,am,ak,rfl,d4,d5⟩
 ·have hz:∀t,aW L qa t=false:=d3;refine aA yQ ?_;refine J.ns (Cj.join (ι:=Heap×Option Nat) (fun y=>MQ y.1 (.map y.2) (aW L qa)∧PS y.1 qb.ps pb∧OJ y.1 xv L∧LZ y.1∧y.1 bl=some (.cells (fV cs') T fr)) (fun y=>[(0,xv),(3,ptr b1 0),(5,.map y.2)]) (fun y=>y.1) (fun y=>[(b1,yZ 129 (FX q (some ⟨bl,off,none⟩) c))]) ?_ (fun ax=>?_))
  ·rintro⟨J6,oa⟩ ⟨A,N,Q,Z,G⟩;dsimp only at A N Q Z G ⊢;refine Cj.sr (aA yP ?_);refine aA (qq2 (off':=4) EG UM) ?_;refine aA (yV isAgg127 (yR.at 0 rfl)) ?_;refine aA (AU (off':=off+5) a0k CX) ?_;refine aA (FN FT CX (aG G) c3) ?_;refine aB rfl (yT (H1:=[]) rfl rfl rfl rfl rfl (ih qb b6.2 pb cb _ N Q Z oM c2) ?_ (fun _ _ _ _ ⟨_,h,_⟩=>by cases h) (fun _ _ ⟨_,h,_⟩=>by cases h));intro _ _ _ hle23 ch;have A:=A.mono hle23;have N:=N.mono hle23;have Q:=Q.mono hle23;have Z:=Z.mono hle23;have G:=hle23 _ _ G;obtain⟨wb,h,O,rfl⟩:=ch;cases h;obtain⟨bo,rfl⟩:=O.shape;refine aB rfl (CU zeroValue239 ?_);intro b25 b7;refine aB rfl (AB 0 sizeOf239 (bT dY) aZ ?_);refine J.zX (aF (aA (qq2 (off':=0) EG BO) ?_));refine aA (yV FY (yR.at 1 rfl)) ?_;refine J.ns (aO (Cj.sr (aA DW ?_)));refine aA yQ ?_;refine J.cd (fun ao=>?_) (fun ao=>?_)
   ·have br:=DF ao;have a3:q.k=2:=DF ao;refine bK (aY b7 (fun _ ae a0=>?_));have A:=A.mono ae;have N:=N.mono ae;have Q:=Q.mono ae;have Z:=Z.mono ae;have G:=ae _ _ G;have O:=O.mono ae;refine aF (aA yP ?_);refine aA (DY rfl rfl rfl) ?_;refine aB rfl (yT (H1:=[]) rfl rfl rfl rfl rfl (XO _ (aW L qa) (aW L qb) _ [ptr b25 0] _ A (fun t _=>b3H b25 _ (aW L qb) t _ a0 O)) ?_ (fun _ _ _ _ ⟨_,h,_⟩=>by cases h) (fun _ _ ⟨_,h,_⟩=>by cases h));intro _ _ _ a7 ci;have A:=A.mono a7;have N:=N.mono a7;have Q:=Q.mono a7;have Z:=Z.mono a7;have G:=a7 _ _ G;have O:=O.mono a7;have a0:=a7 _ _ a0;obtain⟨wd,h,od,md,kd,rfl,a5,rfl⟩:=ci;cases h;refine aA yQ ?_;refine J.ns (aT (fZ (gB (aP (aH (aJ aQ)) ?_))));refine zM ?_;exact⟨_,rfl,.inl ⟨od,md,kd,rfl,a5.congr fun t=>by rw[a4 t,a3];rfl,rfl⟩⟩
   have br:=DU ao;have cj:q.k≠2:=DU ao;refine Cj.sr (aA DW ?_);refine aA yQ ?_;refine J.cd (fun ap=>?_) (fun ap=>?_)
   ·have bs:=DF ap;have a3:q.k=4:=DF ap;refine bK (aY b7 (fun _ af a0=>?_));have A:=A.mono af;have N:=N.mono af;have Q:=Q.mono af;have Z:=Z.mono af;have G:=af _ _ G;have O:=O.mono af;refine aF (aA yP ?_);refine aA (DY rfl rfl rfl) ?_;refine aB rfl (yT (H1:=[]) rfl rfl rfl rfl rfl (XO _ (aW L qa) (fun t=> !aW L qb t) _ [ptr b25 0] _ A (fun t _=>b3u b25 _ (aW L qb) t _ a0 O)) ?_ (fun _ _ _ _ ⟨_,h,_⟩=>by cases h) (fun _ _ ⟨_,h,_⟩=>by cases h));intro _ _ _ a8 cl;have A:=A.mono a8;have N:=N.mono a8;have Q:=Q.mono a8;have Z:=Z.mono a8;have G:=a8 _ _ G;have O:=O.mono a8;have a0:=a8 _ _ a0;obtain⟨wd,h,od,md,kd,rfl,a5,rfl⟩:=cl;cases h;refine aA yQ ?_;refine J.ns (aT (fZ (gB (aP (aH (aJ aQ)) ?_))));refine zM ?_;exact⟨_,rfl,.inl ⟨od,md,kd,rfl,a5.congr fun t=>by rw[a4 t,a3];rfl,rfl⟩⟩
   have bs:=DU ap;have cm:q.k≠4:=DU ap;refine Cj.kb (bK (aY b7 (fun _ ag a0=>?_)));have A:=A.mono ag;have N:=N.mono ag;have Q:=Q.mono ag;have Z:=Z.mono ag;have G:=ag _ _ G;have O:=O.mono ag;refine aF (aA yP ?_);refine aB rfl (yT (H1:=[]) rfl rfl rfl rfl rfl (XO _ (aW L qa) (fun _=>true) _ [] _ A (fun t _=>b7N t _)) ?_ (fun _ _ _ _ ⟨_,h,_⟩=>by cases h) (fun _ _ ⟨_,h,_⟩=>by cases h));intro _ _ _ a9 co;have A:=A.mono a9;have N:=N.mono a9;have Q:=Q.mono a9;have Z:=Z.mono a9;have G:=a9 _ _ G;have O:=O.mono a9;have a0:=a9 _ _ a0;obtain⟨wd,h,od,md,kd,rfl,a5,rfl⟩:=co;cases h;refine aA yQ ?_;refine J.zX (aF (aA (yV isAgg239 (aG a0)) ?_));rcases id O with⟨aq,bf⟩|⟨bb,bm,bk,aq,aa,ar⟩
   ·cases aq;refine aB rfl (OI rfl rfl rfl rfl LW ?_);intro _ _;refine J.ns (aO (iG 1 ?_));refine Rj.succ ?_;refine Cj.sr (aB rfl (QD 0 rfl rfl rfl rfl rfl ?_));refine aA AZ ?_;refine J.nss (bH rfl (fun bg=>aV (dA (dM rfl) bg)) (fun bg=>?_));refine gZ (dD (dD (fM (eX (Cj.sr (aA yP ?_))))));refine aA yQ ?_;refine J.ns (aT (aP (aJ (aH (aJ aQ))) ?_));have a3:q.k=3:=oM;refine zM ?_;exact⟨_,rfl,.inl ⟨od,md,kd,rfl,a5.congr fun t=>by rw[a4 t,a3,dI];show _=(_ || _);rw[bf t,iJ],rfl⟩⟩
   cases aq;refine aB rfl (MW (kv:=AQ) (l:=bm) rfl rfl rfl rfl LW (aG ar) ?_);intro c4 _;refine J.ns (aO (Cj.keep (aH (aH (aJ aQ))) ?_));refine dU (ι:=TC) (fun y=>(y.vis++y.rest).Perm bm∧JF y.l y.c (a0m y.vis (fun t=>aW L qa t && true))) (fun y=>y.rest.length) (fun y=>[(7,.map (some od)),(54,ptr c4 0)]) (fun y=>_) (fun y=>[(c4,XB bb bk y.vis bk),(od,zY AQ y.l y.c)]) ⟨[],bm,md,kd⟩ ⟨.refl _,a5.congr fun t=>by unfold a0m;simp⟩ rT rfl rfl ?_;rintro⟨vis,rest,l,cc⟩ ⟨hp,hM⟩;dsimp only at hp hM ⊢;refine Cj.sr (aB rfl (OD (kv:=AQ) (l:=bm) 0 rfl rfl rfl rfl rfl (aG ar) aa.1.2.2 (bQ _) aa.1.2.1 hp ?_ ?_))
   ·rintro x ay H9 bh b3 ⟨-,hset⟩;simp only[dZ,eF]at hset;subst hset;have bi:x∈bm:=b3.mem_iff.1 (dS _ (dL _ (.head _)));refine aA AZ ?_;refine J.nss (bH rfl (fun bj=>?_) (fun bj=>aV (dA (dM rfl) bj)));refine Cj.ks (aO (Cj.sr (aA (RJ (kv:=AQ) (l:=bm) rfl rfl (yR.at 0 rfl) (aG ar) bi aa.1.2.1) ?_)));refine aA AZ ?_;refine aB rfl (CU QU ?_);intro _ _;refine aB rfl (AB 0 AL (bT (bT dY)) aZ ?_);refine J.GI (aA yP ?_);refine aA (zW DJ AL (yR.at 0 rfl)) ?_;refine aB rfl (FH (kv:=AQ) (a:=x.1) 2 (.inr rfl) rfl rfl rfl rfl rfl LW FU rfl (fJ (fJ aZ)) ?_);refine fK (dR (aP (aJ (aH (aH aQ))) ?_));refine cZ ⟨vis++[x],ay,_,_⟩ ⟨b3,hM.add x.1 a6M⟩ (by have h:=bh.length_eq;simp only[bU]at h;dsimp only;omega) rT rfl rfl
   intro b8;have hpv:vis.Perm bm:=by rw[b8,bM]at hp;exact hp
   refine aA AZ ?_;refine J.nss (bH rfl (fun hc54=>aV (dA (dM rfl) hc54)) (fun hc54=>?_));refine Cj.xl (Cj.sr (aA yP ?_));refine aA yQ ?_;refine J.ns (aT (aP (aJ (aH aQ)) ?_));have a3:q.k=3:=oM;refine zM ?_;exact⟨_,rfl,.inl ⟨od,l,cc,rfl,hM.congr fun t=>by rw[a4 t,a3,a8M aa hpv,dI];rfl,rfl⟩⟩
  refine Cj.sr (aA yP ?_);refine aA (b0o rfl rfl LW) ?_;refine aA DW ?_;refine aA yP ?_;refine CO 3 28 true (zK (qq2 (off':=0) EG BO) ?_);refine CO 3 28 true (zK (yV FY (yR.at 0 rfl)) ?_);refine CO 3 28 true (zK (GH rfl rfl rfl) ?_);refine aA (EH rfl rfl rfl rfl) ?_;refine J.cd (fun az=>?_) (fun az=>?_)
  ·have bt:=bne_iff_ne.1 az;refine Cj.sr (aA yQ ?_);refine J.ns (Cj.rs ?_);have bn:q.k≠3:=bne_iff_ne.1 az;refine bI ?_;refine zM ?_;exact⟨_,rfl,.inr ⟨.inl ⟨rfl,fun t=>by rw[a4 t,hz t];unfold Ix.comb;rw[zF bn];split<;>rfl⟩,rfl⟩⟩
  have bt:=DI az;refine iC ?_;exact ax (_,none) _ _ _ ⟨A,N,Q,Z,G⟩ rT rfl rfl

 refine aA yQ ?_;refine J.ns (Cj.join (ι:=Heap×Option Nat) (fun y=>MQ y.1 (.map y.2) (aW L qa)∧PS y.1 qb.ps pb∧OJ y.1 xv L∧LZ y.1∧y.1 bl=some (.cells (fV cs') T fr)) (fun y=>[(0,xv),(3,ptr b1 0),(5,.map y.2)]) (fun y=>y.1) (fun y=>[(b1,yZ 129 (FX q (some ⟨bl,off,none⟩) c))]) ?_ (fun ax=>?_))
 ·rintro⟨J6,oa⟩ ⟨A,N,Q,Z,G⟩;dsimp only at A N Q Z G ⊢;refine Cj.sr (aA yP ?_);refine aA (qq2 (off':=4) EG UM) ?_;refine aA (yV isAgg127 (yR.at 0 rfl)) ?_;refine aA (AU (off':=off+5) a0k CX) ?_;refine aA (FN FT CX (aG G) c3) ?_;refine aB rfl (yT (H1:=[]) rfl rfl rfl rfl rfl (ih qb b6.2 pb cb _ N Q Z oM c2) ?_ (fun _ _ _ _ ⟨_,h,_⟩=>by cases h) (fun _ _ ⟨_,h,_⟩=>by cases h));intro _ _ _ an cp;have A:=A.mono an;have N:=N.mono an;have Q:=Q.mono an;have Z:=Z.mono an;have G:=an _ _ G;obtain⟨wb,h,O,rfl⟩:=cp;cases h;obtain⟨bo,rfl⟩:=O.shape;refine aB rfl (CU zeroValue239 ?_);intro bc b9;refine aB rfl (AB 0 sizeOf239 (bT dY) aZ ?_);refine J.zX (aF (aA (qq2 (off':=0) EG BO) ?_));refine aA (yV FY (yR.at 1 rfl)) ?_;refine J.ns (aO (Cj.sr (aA DW ?_)));refine aA yQ ?_;refine J.cd (fun au=>?_) (fun au=>?_)
  ·have bu:=DF au;have a3:q.k=2:=DF au;refine bK (aY b9 (fun _ ah a1=>?_));have A:=A.mono ah;have N:=N.mono ah;have Q:=Q.mono ah;have Z:=Z.mono ah;have G:=ah _ _ G;have O:=O.mono ah;refine aF (aA yP ?_);refine aA (DY rfl rfl rfl) ?_;refine aB rfl (yT (H1:=[]) rfl rfl rfl rfl rfl (XO _ (aW L qa) (aW L qb) _ [ptr bc 0] _ A (fun t _=>b3H bc _ (aW L qb) t _ a1 O)) ?_ (fun _ _ _ _ ⟨_,h,_⟩=>by cases h) (fun _ _ ⟨_,h,_⟩=>by cases h));intro _ _ _ hle68 cq;have A:=A.mono hle68;have N:=N.mono hle68;have Q:=Q.mono hle68;have Z:=Z.mono hle68;have G:=hle68 _ _ G;have O:=O.mono hle68;have a1:=hle68 _ _ a1;obtain⟨wd,h,od,md,kd,rfl,a5,rfl⟩:=cq;cases h;refine aA yQ ?_;refine J.ns (aT (fZ (gB (aP (aH (aJ aQ)) ?_))));refine zM ?_;exact⟨_,rfl,.inl ⟨od,md,kd,rfl,a5.congr fun t=>by rw[a4 t,a3];rfl,rfl⟩⟩
  have bu:=DU au;have cj:q.k≠2:=DU au;refine Cj.sr (aA DW ?_);refine aA yQ ?_;refine J.cd (fun av=>?_) (fun av=>?_)
  ·have bv:=DF av;have a3:q.k=4:=DF av;refine bK (aY b9 (fun _ ai a1=>?_));have A:=A.mono ai;have N:=N.mono ai;have Q:=Q.mono ai;have Z:=Z.mono ai;have G:=ai _ _ G;have O:=O.mono ai;refine aF (aA yP ?_);refine aA (DY rfl rfl rfl) ?_;refine aB rfl (yT (H1:=[]) rfl rfl rfl rfl rfl (XO _ (aW L qa) (fun t=> !aW L qb t) _ [ptr bc 0] _ A (fun t _=>b3u bc _ (aW L qb) t _ a1 O)) ?_ (fun _ _ _ _ ⟨_,h,_⟩=>by cases h) (fun _ _ ⟨_,h,_⟩=>by cases h));intro _ _ _ ac cr;have A:=A.mono ac;have N:=N.mono ac;have Q:=Q.mono ac;have Z:=Z.mono ac;have G:=ac _ _ G;have O:=O.mono ac;have a1:=ac _ _ a1;obtain⟨wd,h,od,md,kd,rfl,a5,rfl⟩:=cr;cases h;refine aA yQ ?_;refine J.ns (aT (fZ (gB (aP (aH (aJ aQ)) ?_))));refine zM ?_;exact⟨_,rfl,.inl ⟨od,md,kd,rfl,a5.congr fun t=>by rw[a4 t,a3];rfl,rfl⟩⟩
  have bv:=DU av;have cm:q.k≠4:=DU av;refine Cj.kb (bK (aY b9 (fun _ aj a1=>?_)));have A:=A.mono aj;have N:=N.mono aj;have Q:=Q.mono aj;have Z:=Z.mono aj;have G:=aj _ _ G;have O:=O.mono aj;refine aF (aA yP ?_);refine aB rfl (yT (H1:=[]) rfl rfl rfl rfl rfl (XO _ (aW L qa) (fun _=>true) _ [] _ A (fun t _=>b7N t _)) ?_ (fun _ _ _ _ ⟨_,h,_⟩=>by cases h) (fun _ _ ⟨_,h,_⟩=>by cases h));intro _ _ _ ad ct;have A:=A.mono ad;have N:=N.mono ad;have Q:=Q.mono ad;have Z:=Z.mono ad;have G:=ad _ _ G;have O:=O.mono ad;have a1:=ad _ _ a1;obtain⟨wd,h,od,md,kd,rfl,a5,rfl⟩:=ct;cases h;refine aA yQ ?_;refine J.zX (aF (aA (yV isAgg239 (aG a1)) ?_));rcases id O with⟨aq,bf⟩|⟨bb,bm,bk,aq,aa,ar⟩
  ·cases aq;refine aB rfl (OI rfl rfl rfl rfl LW ?_);intro _ _;refine J.ns (aO (iG 1 ?_));refine Rj.succ ?_;refine Cj.sr (aB rfl (QD 0 rfl rfl rfl rfl rfl ?_));refine aA AZ ?_;refine J.nss (bH rfl (fun hc86=>aV (dA (dM rfl) hc86)) (fun hc86=>?_));refine gZ (dD (dD (fM (eX (Cj.sr (aA yP ?_))))));refine aA yQ ?_;refine J.ns (aT (aP (aJ (aH (aJ aQ))) ?_));have a3:q.k=3:=oM;refine zM ?_;exact⟨_,rfl,.inl ⟨od,md,kd,rfl,a5.congr fun t=>by rw[a4 t,a3,dI];show _=(_ || _);rw[bf t,iJ],rfl⟩⟩
  cases aq;refine aB rfl (MW (kv:=AQ) (l:=bm) rfl rfl rfl rfl LW (aG ar) ?_);intro c5 _;refine J.ns (aO (Cj.keep (aH (aH (aJ aQ))) ?_));refine dU (ι:=TC) (fun y=>(y.vis++y.rest).Perm bm∧JF y.l y.c (a0m y.vis (fun t=>aW L qa t && true))) (fun y=>y.rest.length) (fun y=>[(7,.map (some od)),(54,ptr c5 0)]) (fun y=>_) (fun y=>[(c5,XB bb bk y.vis bk),(od,zY AQ y.l y.c)]) ⟨[],bm,md,kd⟩ ⟨.refl _,a5.congr fun t=>by unfold a0m;simp⟩ rT rfl rfl ?_;rintro⟨vis,rest,l,cc⟩ ⟨hp,hM⟩;dsimp only at hp hM ⊢;refine Cj.sr (aB rfl (OD (kv:=AQ) (l:=bm) 0 rfl rfl rfl rfl rfl (aG ar) aa.1.2.2 (bQ _) aa.1.2.1 hp ?_ ?_))
  ·rintro x ay H9 bh b3 ⟨-,hset⟩;simp only[dZ,eF]at hset;subst hset;have bi:x∈bm:=b3.mem_iff.1 (dS _ (dL _ (.head _)));refine aA AZ ?_;refine J.nss (bH rfl (fun bp=>?_) (fun bp=>aV (dA (dM rfl) bp)));refine Cj.ks (aO (Cj.sr (aA (RJ (kv:=AQ) (l:=bm) rfl rfl (yR.at 0 rfl) (aG ar) bi aa.1.2.1) ?_)));refine aA AZ ?_;refine aB rfl (CU QU ?_);intro _ _;refine aB rfl (AB 0 AL (bT (bT dY)) aZ ?_);refine J.GI (aA yP ?_);refine aA (zW DJ AL (yR.at 0 rfl)) ?_;refine aB rfl (FH (kv:=AQ) (a:=x.1) 2 (.inr rfl) rfl rfl rfl rfl rfl LW FU rfl (fJ (fJ aZ)) ?_);refine fK (dR (aP (aJ (aH (aH aQ))) ?_));refine cZ ⟨vis++[x],ay,_,_⟩ ⟨b3,hM.add x.1 a6M⟩ (by have h:=bh.length_eq;simp only[bU]at h;dsimp only;omega) rT rfl rfl
  intro b8;have hpv:vis.Perm bm:=by rw[b8,bM]at hp;exact hp
  refine aA AZ ?_;refine J.nss (bH rfl (fun bq=>aV (dA (dM rfl) bq)) (fun bq=>?_));refine Cj.xl (Cj.sr (aA yP ?_));refine aA yQ ?_;refine J.ns (aT (aP (aJ (aH aQ)) ?_));have a3:q.k=3:=oM;refine zM ?_;exact⟨_,rfl,.inl ⟨od,l,cc,rfl,hM.congr fun t=>by rw[a4 t,a3,a8M aa hpv,dI];rfl,rfl⟩⟩
 refine Cj.sr (aA yP ?_);refine aA (PG (kv:=AQ) (l:=am) rfl rfl LW (aG d5)) ?_;refine aA DW ?_;refine aA yP ?_;refine J.split 28 rfl (fun a2=>?_) (fun a2=>?_)
 rotate_left
 ·have bw:=DU a2;refine AP 3 28 29 true a2 ?_;refine AP 3 28 30 true a2 ?_;refine AP 3 28 31 true a2 ?_;refine aA (ED a2) ?_;refine J.c0 (fun _=>?_);refine iC ?_;exact ax (_,some ab) _ _ _ ⟨A,N,Q,Z,G⟩ rT rfl rfl
 have bw:=DF a2;refine zU 3 28 true a2 (zK (qq2 (off':=0) EG BO) ?_);refine zU 3 28 true a2 (zK (yV FY (yR.at 0 rfl)) ?_);refine zU 3 28 true a2 (zK (GH rfl rfl rfl) ?_);refine aA (EO a2) ?_;refine J.cd (fun b0=>?_) (fun b0=>?_)
 ·have bx:=bne_iff_ne.1 b0;refine Cj.sr (aA yQ ?_);refine J.ns (Cj.rs ?_);have hz:∀t,aW L qa t=false:=d4.empty (by have h:=DF a2;omega);have bn:q.k≠3:=bne_iff_ne.1 b0;refine bI ?_;refine zM ?_;exact⟨_,rfl,.inr ⟨.inl ⟨rfl,fun t=>by rw[a4 t,hz t];unfold Ix.comb;rw[zF bn];split<;>rfl⟩,rfl⟩⟩
 have bx:=DI b0;refine iC ?_;exact ax (_,some ab) _ _ _ ⟨A,N,Q,Z,G⟩ rT rfl rfl
theorem b5K A L (G:fQ L) q:a4N A L q:=by
 suffices ∀n (q:Cq.Qn),q.size<n→a4N A L q from this _ q (gK _)
 intro n
 induction n with
 |zero=>intro q h;omega
 |succ n N=>intro q h;exact b0u A L G q fun O _=>N O oM
end Go.Proofs.YtdjkhllhakhjbaaGreatDoor
namespace Go.Proofs.YtdjkhllhakhjbaaGreatDoor
open Go Go.Shelf Go.RowKit Go.Lib Go.Sort
abbrev FW:=List UInt8×dH
abbrev OW (x:FW):List Value:=[Sx.str x.1,.int .i64 x.2.1,.int .i64 x.2.2]
theorem MP x:(OW x).length=3:=rfl
def b0S (x y:FW):Int:=MH (MO x.1 y.1) (ZI x.2 y.2)
def UL (x y:FW):Prop:=x.1<y.1∨(x.1=y.1∧Ix.FZ x.2 y.2=true)
theorem b6J x:¬UL x x:=by
 rintro(h|⟨_,h⟩)
 ·exact iE _ h
 rw[Ix.IQ]at h;cases h
theorem a4W{x y z}(h:UL x y)(A:UL y z):UL x z:=by
 rcases h with h|⟨h,G⟩<;>rcases A with A|⟨A,N⟩
 ·exact .inl (List.lt_trans h A)
 ·exact .inl (A▸h)
 ·exact .inl (h▸A)
 exact .inr ⟨h.trans A,Ix.LH G N⟩
theorem a9a x y:UL x y∨x=y∨UL y x:=by
 by_cases h:x.1<y.1
 ·exact .inl (.inl h)
 by_cases h2:y.1<x.1
 ·exact .inr (.inr (.inl h2))
 have A:x.1=y.1:=gU (fH.1 h2) (fH.1 h);rcases Ix.RF x.2 y.2 with g|g|g
 ·exact .inl (.inr ⟨A,g⟩)
 ·exact .inr (.inl (Prod.ext A g))
 exact .inr (.inr (.inr ⟨A.symm,g⟩))
theorem a0p x y:ltOf b0S x y=true↔UL x y:=by
 have hr:=RD x.2 y.2;unfold ltOf at hr ⊢;unfold b0S UL MH MO;rw[zH]
 by_cases h:x.1<y.1
 ·rw[zG h];simp[h]
 rw[zF h]
 by_cases h2:y.1<x.1
 ·have A:x.1≠y.1:=fun e=>h (e▸h2);rw[zG h2];simp[h,A]
 have G:x.1=y.1:=gU (fH.1 h2) (fH.1 h);rw[zF h2,zF sI,←hr,zH];exact⟨fun g=> .inr ⟨G,g⟩,fun g=>g.elim (fun g=>absurd g h) fun g=>g.2⟩
theorem c0L:SWO (ltOf b0S) where
 irrefl x:=eP.2 fun h=>b6J x ((a0p x x).1 h)
 trans x y z h1 h2:=(a0p x z).2 (a4W ((a0p x y).1 h1) ((a0p y z).1 h2))
 ntrans x y z h1 h2:=by
  rw[eP,Ne,a0p]at *;intro h;rcases a9a x y with g|g|g
  ·exact h1 g
  ·subst g;exact h2 h
  exact h2 (a4W g h)
theorem a4q{base} l g (hg:Sx.BM base 3 l.length (l.flatMap OW) g)(hl:l.length≤100000000000000) I:Sx.yS aC 144 [Sx.gV l.length g,.func (.func 145) #[] #[]] I (Sx.gH 243 (l.flatMap OW) g)
 (fun e a3 H'=>∃l':List FW,l'.Perm l∧l'.Pairwise (fun p q=>¬UL q p)∧e= .returned (.tuple #[])∧H'=Sx.gH 243 (l'.flatMap OW) g):=by
 cases g with
 |none=>
  obtain⟨A,O⟩:=hg;have h0:l=[]:=fF.1 A;subst h0;exact(Sx.Pure.of_same (iR iT dE rfl) (fun w _=>AnyF.slices_SortFunc_none Tryz.sortR none 0 (.func (.func 145) #[] #[]) w)).mono fun e _ H' _ ⟨A,_,G⟩=>⟨[],List.Perm.refl _,List.Pairwise.nil,A,G⟩
 |some q=>
  obtain⟨b,c,sp⟩:=q;refine⟨iR iT dE rfl,fun w hw=>?_⟩;have Q:=hw.2.1 _ (.head _);have a1:b<w.heap.size:=by
   rcases Nat.lt_or_ge b w.heap.size with h|h
   ·exact h
   rw[Array.getElem?_eq_none h]at Q;cases Q
  have eg:∀args w,(callFunc 145 args).run aC w= .ok (.enter 145 args) w:=enters_of Tryz.func145 kR rfl;have hH:HoldsK OW 3 w b 0 l.toArray:=by
   unfold HoldsK;rw[Sx.QE MP];exact Sx.XC Q
  have Z:CmpLays aC 145 #[] OW 3 b0S b 0 l.toArray.size w:=fun m os _ _ x y=>c1P x.1 y.1 x.2.1 x.2.2 y.2.1 y.2.2 _;have a0:=AnyQ.slices_SortFunc Tryz.sortR 3 Tryz.isAgg243 Tryz.sizeOf243 OW MP (fun x v hv=>by
   simp only[iI,gQ,or_false]at hv;rcases hv with rfl|rfl|rfl<;>rfl) b0S c0L 145 #[] b 0 c l.toArray w eg Z hH a1 (by simp;omega)
  refine a0.mono fun e w' ⟨A,N,n,os,O,G,h4⟩=>?_;rw[List.size_toArray]at O G;have hp:=Sx.TT O;have a2:N.size=l.length:=by have:=hp.length_eq;simpa using this
  rw[←a2]at G;refine⟨I,_,?_,N.toList,hp,(Sx.sorted_in G).imp fun h=>?_,A,rfl⟩
  ·rw[h4];unfold sortWorldK putRowK;rw[show N=N.toList.toArray from(Array.toArray_toList (xs:=N)).symm,Sx.QE MP];exact Sx.St.b1N n os hw (by rw[Sx.BP MP,Sx.BP MP,hp.length_eq])
  exact fun g=>eP.1 h ((a0p _ _).2 g)
theorem b8x{L}{ts:List dH}(hn:ts.Nodup){l:List FW}(G:l.Perm (ts.map fun t=>(Ix.UG L t,t)))(Q:l.Pairwise fun p q=>¬UL q p):(l.map (·.2)).Pairwise (Ix.a0g L)∧∀t,t∈l.map (·.2)↔t∈ts:=by
 have N:∀x∈l,x.1=Ix.UG L x.2:=fun x A=>by
  obtain⟨t,_,rfl⟩:=dB.1 (G.mem_iff.1 A);rfl
 have O:(l.map (·.2)).Perm ts:=by
  have:=G.map (·.2);rw[iL]at this;exact this.trans (.of_eq (List.map_id _))
 refine⟨?_,fun t=>O.mem_iff⟩;have h:=eH.1 (O.nodup_iff.2 hn);rw[gI]at h ⊢;refine(bJ.2 fun {x y} hs=>?_);have Z:=bJ.1 Q hs;have h2:=bJ.1 h hs;have A:=N x (hs.subset (.head _));have hy:=N y (hs.subset (.tail _ (.head _)));rcases a9a x y with g|g|g
 ·unfold UL at g;unfold Ix.a0g;rwa [A,hy]at g
 ·subst g;exact absurd rfl h2
 exact absurd g Z
