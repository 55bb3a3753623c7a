/-
  Own texts on the laws of the seat, joined: the logic, and contracts of functions. Conditions: none.
-/
import Derived.Test.YtojdemmgkdokmaaGreatDoorNmH
import Derived.Test.YtojdemmgkdokmaaGreatDoorPH18
set_option linter.all false
set_option maxRecDepth 100000
set_option maxHeartbeats 40000000
open List renaming length_append -> aA,length_map -> aK,take_of_length_le -> aV,getD_eq_getElem?_getD -> aW,mem_singleton -> bH,map_append -> bQ,mem_append -> bT,getElem?_eq_getElem -> cO,getElem?_eq_none -> dH,perm_append_comm -> dI,mem_of_mem_take -> dP,append_nil -> dQ,getElem?_map -> eG,getElem?_eq_some_iff -> eP,length_take -> eY,length_cons -> fC,length_singleton -> fH,all_cons -> fM,mem_map_of_mem -> fP,flatMap_append -> fQ,all_nil -> fV,append_assoc -> gG,length_nil -> iH,drop_zero -> iK,mem_map -> iO
open Go.Sx.J renaming z -> aB,op -> aH,split -> iJ
open Go.Sx.HSub renaming c -> aC,n -> aS
open Go.Sx.JA renaming tk -> aF,fix -> bY,eqv -> fZ
open Go.Sx.zM renaming c -> aG,z -> aP,s -> bF
open Go.Sx.Le renaming refl -> aI,trans -> gY
open Nat renaming zero_le -> aJ,lt_or_ge -> eX,min_eq_left -> fD,min_eq_right -> gX,min_le_left -> iG
open Go.Sx.Cj renaming region -> aN,ret -> aX,block -> bV,seq -> bW,exit -> dL,skip -> dS,FT -> fJ,loop -> iI
open Go.Sx.Keeps renaming d -> aO,k -> bK,r -> dU,n -> iV
open Go.Sx.Ej renaming seq -> aQ,KH -> bI,LC -> bJ,JK -> bP,bare -> dJ,FN -> dN,QL -> dX,LM -> dY,perm -> eU,round -> fB,keep -> fG,XZ -> gW,keepR -> iE
open Go.Sx.CSub renaming n -> aT
open Ix renaming b6d -> aU,c3G -> bU,c3M -> dF,isC -> fE,c6h -> fF,b9m -> fU,a7R -> gQ,c3P -> gU
open Go.Proofs.Tryz renaming underlying34 -> aY,underlying44 -> aZ,zeroValue97 -> bG,prog -> bM,underlying24 -> dA,zeroValue28 -> dG,sizeOf28 -> dZ,sizeOf97 -> eF,underlying43 -> eH,sizeOf5 -> gB,underlying22 -> gI,underlying97 -> gJ,isAgg5 -> gK,underlying5 -> gZ,underlying3 -> iC,sizeOf22 -> iL,sizeOf26 -> iM,isAgg22 -> iT,sizeOf4 -> iU
open Go.Sx.CG renaming none -> bC,agg -> fA
open Go.Sx.GN renaming part -> bD,none -> dK
open Go.Sx.Src renaming slice -> bZ
open Go.Sx.yR renaming QE -> cZ
open Ke renaming nrm -> dB
open Go.Sx.AV renaming z -> dD,s -> dM
open Go.Value renaming oneCell' -> dR
open Go.Proofs.YtojdemmgkdokmaaGreatDoor.Fv renaming f -> dV
open Prod renaming fst -> dW,snd -> iR
open Go.IntKind renaming u8 -> fK,wrap_i64 -> iD
open Bool renaming and_true -> fO
open Go.Sx.yT renaming toPure -> iF
open BitVec renaming ofInt -> iP
open Bk renaming PN -> iQ
namespace Go.Proofs.YtojdemmgkdokmaaGreatDoor
open _root_.Go.Proofs.Tryz
open Go Go.Sx
def In64 (a:Int):Prop:= -9223372036854775808≤a∧a≤9223372036854775807
theorem b7H{a}(h:In64 a) m (A:2≤m): -4611686018427387904≤a.tdiv m∧a.tdiv m≤4611686018427387904:=by
 unfold In64 at h;have h1:(a.tdiv m).natAbs=a.natAbs / m.natAbs:=Int.natAbs_tdiv a m;have h2:a.natAbs / m.natAbs≤a.natAbs / 2:=Nat.div_le_div_left oM dE;omega
theorem b0y{j:Nat}{m}(h:j≤3)(h0:0≤m)(h1:m≤2):0≤(j:Int)*(1+m)∧(j:Int)*(1+m)≤9:=by
 match j,h with
 |0,_=>simp
 |1,_=>simp;omega
 |2,_=>simp;omega
 |3,_=>simp;omega
abbrev VO (q:Ix.Four):List Value:=[i64 q.x0,i64 q.x1,i64 q.x2,i64 q.x3]
theorem c0g q:(VO q).length=4:=rfl
structure YA (q:Ix.Four):Prop where
  h0:In64 q.x0
  h1:In64 q.x1
  h2:In64 q.x2
  h3:In64 q.x3
theorem a8z{l:List (List UInt8)}{n}(h0:0≤n)(h1:n<(l.length:Int)):(l.map str)[n.toNat]?=some (str (l.getD n.toNat [])):=by
 have h2:n.toNat<l.length:=oM;rw[eG,DX h2,aW,DX h2];rfl
theorem c2i{l:List UInt8}{n}(h0:0≤n)(h1:n<(l.length:Int)):l[n.toNat]?=some (l.getD n.toNat 0):=by
 have h2:n.toNat<l.length:=oM;rw[DX h2,aW,DX h2];rfl
theorem b5g fs f:dB (fs++[f])=dB fs++[Ke.b1O f]:=by unfold dB;rw[bQ];rfl
theorem c5e fs:(dB fs).length=fs.length:=aK _
theorem c2e fs:Ix.vals (dB fs)=Ix.vals fs:=by
 unfold Ix.vals dB;rw[List.flatMap_map];rfl
def TV (q:Ix.Four) (n:Nat):List Ke.Sub:=(List.range n).map fun j=>Ix.b6F q j
theorem a3B q n:TV q (n+1)=TV q n++[Ix.b6F q n]:=by unfold TV;rw[List.range_succ,bQ];rfl
theorem a9u q n:(TV q n).length=n:=by unfold TV;rw[aK,List.length_range]
theorem c3K{q}(h:fE (aU q.x0)):fF q=⟨aU q.x0,[],gQ q.x3,.slice none 0 0,[]⟩:=zG h
theorem c3R{q}(h:¬fE (aU q.x0)):fF q=⟨aU q.x0,bU.getD (q.x1 % 8).toNat [],[],.slice none 0 0,TV q (1+(q.x2 % 3).toNat)⟩:=zF h
theorem c2d n:(aU n).length≤3:=by
 unfold aU;generalize (n % 20).toNat=k;rcases eX k 20 with h|h
 ·have:∀k,k<20→(gU.getD k []).length≤3:=dE;exact this k h
 rw[aW,dH (by simpa[gU]using h)];simp
theorem c3r n:(bU.getD n []).length≤2:=by
 rcases eX n 8 with h|h
 ·have:∀k,k<8→(bU.getD k []).length≤2:=dE;exact this n h
 rw[aW,dH (by simpa[bU]using h)];simp
theorem b6e q:(fF q).subs.length≤3∧FM (fF q).subs≤51∧(fF q).ind.length≤2:=by
 by_cases h:fE (aU q.x0)
 ·rw[c3K h];exact⟨sI,by simp[FM],sI⟩
 rw[c3R h];refine⟨by dsimp only;rw[a9u];omega,?_,c3r _⟩;dsimp only;have hn:∀n,FM (TV q n)≤n*17:=by
  intro n
  induction n with
  |zero=>simp[FM,TV]
  |succ n A=>
   rw[a3B];unfold FM at A ⊢;rw[bQ,List.sum_append];have h1:(Ix.b6F q n).text.length≤17:=fU _;simp only[List.map_cons,List.map_nil,List.sum_cons,List.sum_nil];omega
 have:=hn (1+(q.x2 % 3).toNat);omega
theorem c1H{l fs}(h:dB fs=dF l):ZB fs:=by
 have G:fs.length≤20:=by
  rw[←c5e,h];unfold dF;rw[aK,eY];omega
 refine⟨oM,fun f hf=>?_⟩;have h1:Ke.b1O f∈dF l:=by rw[←h];exact fP hf
 obtain⟨q,_,A⟩:=iO.1 h1;have h2:=b6e q;rw[A]at h2;exact⟨by have:f.subs.length≤3:=h2.1;omega,by have:FM f.subs≤51:=h2.2.1;omega,by have:f.ind.length≤2:=h2.2.2;omega⟩
theorem b5U{α:Type}(A S Z:List α):(S++(A++Z)).Perm (A++(S++Z)):=by
 rw[←gG,←gG];exact List.Perm.append_right Z dI
def YU (N:Nat→Prop) (I:Heap) (fs:List Ke.JC) (v:Value):Prop:=KF N 60 SB I fs v∧∀f∈fs,KF N 62 a2x I f.subs f.sv
theorem YU.mono{N:Nat→Prop}{I G fs v}(h:YU N I fs v)(A:Le I G):YU N G fs v:=⟨h.1.mono A,fun f hf=>(h.2 f hf).mono A⟩
theorem YU.imp{N M:Nat→Prop}{I fs v}(h:YU N I fs v)(A:∀b,N b→M b):YU M I fs v:=⟨h.1.imp A,fun f hf=>(h.2 f hf).imp A⟩
theorem YU.rec{N:Nat→Prop}{I fs v}(h:YU N I fs v):QW I fs v:=⟨h.1.row,fun f hf=>(h.2 f hf).row⟩
def WT (N:Nat→Prop) (I:Heap) (fs:List Ke.JC):Prop:=∀f∈fs,KF N 62 a2x I f.subs f.sv
theorem WT.mono{N:Nat→Prop}{I A fs}(h:WT N I fs)(G:Le I A):WT N A fs:=fun f hf=>(h f hf).mono G
theorem WT.nil{N:Nat→Prop}{I}:WT N I []:=fun _ h=>by cases h
theorem WT.add{N:Nat→Prop}{I fs f}(h:WT N I fs)(h1:KF N 62 a2x I f.subs f.sv):WT N I (fs++[f]):=fun x A=>by
 rcases bT.1 A with g|g
 ·exact h x g
 rw[bH.1 g];exact h1
theorem a1j n m (h:0<m)(A:m≤1000000000) I:Pure bM 61 [i64 n,i64 m] I (i64 (n % m)):=by
 have h1:=Int.tmod_lt_of_pos n h;have h2:=Int.lt_tmod_of_pos n h;refine yT.ob func61 ?_;intro w0 _;refine Cj.sr (aB yQ ?_);refine J.yV (aB yP ?_);refine aB yP ?_;refine aB (UN rfl rfl rfl oM) ?_;refine aB yP ?_;refine aB (yZ rfl rfl rfl (AA oM)) ?_;refine aB yP ?_;refine aB (UN rfl rfl rfl oM) ?_;refine J.eqv 11 rfl (show _=i64 (n % m) from(zD i64 (mod_eq n h))) ?_;refine aB yQ ?_;refine J.ns (aX (zN ?_));exact rT
theorem c5t n I:Pure bM 92 [i64 n] I (str (aU n)):=by
 refine iF ?_;refine yT.ob func92 ?_;intro w0 _;refine Cj.sr (aB yQ ?_);refine J.yV (aH rfl (AZ AP zL JG (CG.one rfl (CG.one rfl (CG.one rfl (CG.one rfl (CG.one rfl (CG.one rfl (CG.one rfl (CG.one rfl (CG.one rfl (CG.one rfl (CG.one rfl (CG.one rfl (CG.one rfl (CG.one rfl (CG.one rfl (CG.one rfl (CG.one rfl (CG.one rfl (CG.one rfl (CG.one rfl bC)))))))))))))))))))) ?_));intro _ _;refine aB yQ ?_;refine J.yV (aB yP ?_);refine aB yP ?_;refine aB yP ?_;refine aB (AU AP) ?_;refine aH rfl (yU rfl rfl rfl rfl rfl (a1j n 20 dE dE _) ?_);refine aB (BZ (off':=(n % 20).toNat) rfl rfl rfl AP zL oM oM oM) ?_;refine aB (FY rfl rfl BX (yR.at 0 rfl) (a8z (l:=gU) oM (by simp[gU];omega))) ?_;refine aB yQ ?_;refine J.ns (aX (dJ ?_));refine zN ?_;exact rT
theorem a3C n I:Pure bM 27 [i64 n] I (str (gQ n)):=by
 refine iF ?_;refine yT.ob func27 ?_;intro w0 _;refine Cj.sr (aB yQ ?_);refine J.yV (aH rfl (AZ AP zL JG (CG.one rfl (CG.one rfl (CG.one rfl (CG.one rfl (CG.one rfl (CG.one rfl (CG.one rfl (CG.one rfl (CG.one rfl (CG.one rfl (CG.one rfl (CG.one rfl (CG.one rfl (CG.one rfl (CG.one rfl (CG.one rfl (CG.one rfl (CG.one rfl (CG.one rfl (CG.one rfl bC)))))))))))))))))))) ?_));intro _ _;refine aB yQ ?_;refine J.yV (aB yP ?_);refine aB yP ?_;refine aB yP ?_;refine aB (AU AP) ?_;refine aH rfl (yU rfl rfl rfl rfl rfl (a1j n 20 dE dE _) ?_);refine aB (BZ (off':=(n % 20).toNat) rfl rfl rfl AP zL oM oM oM) ?_;refine aB (FY rfl rfl BX (yR.at 0 rfl) (a8z (l:=Ix.a7w) oM (by simp[Ix.a7w];omega))) ?_;refine aB yQ ?_;refine J.ns (aX (dJ ?_));refine zN ?_;exact rT
theorem a4b{α:Type}{l:List α}{k}(A:k≤l.length)(h:k≤20∧(l.length≤k∨20≤k)):l.take k=l.take 20:=by
 rcases h.2 with g|g
 ·rw[aV g,aV oM]
 rw[show k=20 by omega]
theorem b9s l v (au:∀q∈l,YA q) I (af:zY VO I l v):yT bM 54 [v] I [] (fun e I' H'=>∃fs w,e= .returned (a8V 97 109 w)∧YU (I · =none) I' fs w∧dB fs=dF l∧H'=[]):=by
 obtain⟨p,c,rfl,_,-⟩:=id af;refine yT.ob func54 ?_;intro w0 ag;refine Cj.sr (aH rfl (BP zeroValue55 ?_));intro b1 _;refine J.yV (aB (zV (pl:= #[(0,1),(1,1),(2,1)]) rfl rfl zeroValue55 rfl VX (fun w=>by simp[RF,SQ]) (bD rfl rfl rfl (aG aP) (bD rfl rfl rfl (bF (aG aP)) dK))) ?_);refine aH rfl (BP zeroValue55 ?_);intro b2 _;refine aH rfl (zS 0 MG (aG (aG (aG aP))) dD ?_);refine J.AO (aN (aB yQ ?_));refine J.ns (bV (iI (ι:=Nat×Heap×List Ke.JC×Gs) (fun y=>y.1≤l.length∧y.1≤20∧Le I y.2.1∧WT (w0.heap.size≤·) y.2.1 y.2.2.1∧dB y.2.2.1=(l.take y.1).map fF∧y.2.2.1.length=y.1∧CU w0.heap.size 4 y.2.2.1.length (y.2.2.1.flatMap SB) y.2.2.2) (fun y=>20-y.1) (fun y=>[(0,.slice p l.length c),(2,ptr b1 0),(3,ptr b2 0),(4,i64 (y.1:Int))]) (fun y=>y.2.1) (fun y=>(b2,yY 55 [u8 97,u8 109,gV y.2.2.1.length y.2.2.2])::(b1,yY 55 [u8 0,u8 0,.slice none 0 0])::gH 60 (y.2.2.1.flatMap SB) y.2.2.2) (0,_,[],none) ⟨aJ _,aJ _,aI _,WT.nil,rfl,rfl,rfl,rfl⟩ rT rfl rfl ?_));rintro⟨k,Jh,fs,g⟩ ⟨hk,ai,a0,hS,hN,a7,hg⟩;dsimp only at hk ai a0 hS hN a7 hg ⊢;have hv:=af.mono a0;refine bW (Cj.sr (aB yP ?_));refine aB yP ?_;refine aB (AU b6N) ?_;refine aB BM ?_;refine aB yP ?_;refine iJ 14 rfl (fun O=>?_) (fun O=>?_)
 rotate_left
 ·have aj:=BN O;refine zO 4 14 15 true O ?_;refine zO 4 14 16 true O ?_;refine aB (DV O) ?_;refine J.c0 (fun _=>?_);refine dL (bI (bP (bJ (aQ (Cj.sr (aB (zX a0n MG (yR.at 0 rfl)) ?_))))));refine aH rfl (EM 1 rfl rfl rfl rfl rfl (by show[u8 97,u8 109,gV _ _].all dR=true;simp only[fM,fV,a2H,fO];rfl) MG rfl rfl (aG (aG (aG aP))) (dM dD) ?_);refine J.ns (aX ?_);have a1:dB fs=dF l:=by rw[hN];unfold dF;rw[a4b hk oM]
  refine eU (H':=gH _ _ _++[_,_]) dI ?_;refine gW PY dE hg rfl (fun I9 a4 a8=>?_);refine Ej.b3s (aO (aO iV)) rfl rfl rfl (yR.at 1 rfl) a0n MG rfl ?_;exact⟨fs,_,rfl,YU.imp ⟨a8,fun f hf=>((hS f hf).mono a4)⟩ (fun b hb=>ag.dom hb),a1,rfl⟩
 have aj:=BH O;refine zU 4 14 true O (zK yP ?_);refine zU 4 14 true O (zK BM ?_);refine aB (DY O) ?_;refine J.cd (fun a9=>?_) (fun a9=>?_)
 ·have ak:=BH a9;refine dS (aQ (bW (bV (bW ?_))));have ah:k<l.length:=oM;have b4:k<20:=oM;obtain⟨q,a2⟩:∃x,l[k]?=some x:=⟨_,DX ah⟩;have hq:=au q (FB a2);obtain⟨p1,c1,av,_,hp⟩:=id hv;cases av;obtain⟨lb,lo,_,_,_,sp,rfl,a6,aw⟩:=hp (AX ah);have htl:=c2d q.x0;refine aN (aB yP ?_);refine aB yP ?_;refine aB (BG (off':=lo+k*4) b6N sizeOf192) ?_;refine aB (FH isAgg192 sizeOf192 (yR.TS a6) (EJ c0g aw a2)) ?_;refine aH rfl (BP zeroValue192 ?_);intro b5 _;refine aH rfl (zS 0 sizeOf192 (aG (aG (aG (aG aP)))) dD ?_);refine J.yV (aB (FD (off':=0) rfl rfl rfl a3b AB dE dE dE) ?_);refine aB (yX DT (yR.at 0 rfl)) ?_;refine aH rfl (yU rfl rfl rfl rfl rfl (c5t q.x0 _) ?_);refine aB (zV (pl:= #[(0,1),(1,1),(2,1),(3,1)]) rfl rfl UC rfl KW (fun w=>by simp[ZU,zL]) (bD rfl rfl rfl (aG aP) dK)) ?_;refine aH rfl (BP UC ?_);intro b6 _;refine aH rfl (zS 0 GV (aG (aG (aG (aG aP)))) dD ?_);refine J.ns (Cj.join (ι:=Unit) (fun _=>¬fE (aU q.x0)) (fun _=>[(0,.slice (some ⟨lb,lo,none⟩) l.length c),(2,ptr b1 0),(3,ptr b2 0),(4,i64 (k:Int)),(5,ptr b5 0),(6,ptr b6 0)]) (fun _=>Jh) (fun _=>(b6,yY 60 [str (aU q.x0),str [],str [],.slice none 0 0])::(b5,yY 192 (VO q))::(b2,yY 55 [u8 97,u8 109,gV fs.length g])::(b1,yY 55 [u8 0,u8 0,.slice none 0 0])::gH 60 (fs.flatMap SB) g) ?_ (fun aa=>?_))
  ·rintro _ hC;refine Cj.sr (aH rfl (AZ AP zL JG (CG.one rfl (CG.one rfl (CG.one rfl (CG.one rfl (CG.one rfl (CG.one rfl (CG.one rfl (CG.one rfl bC)))))))) ?_));intro _ _;refine aB (FD (off':=1) rfl rfl rfl a3b AB dE dE dE) ?_;refine aB (yX DT (yR.at 2 rfl)) ?_;refine aH rfl (yU rfl rfl rfl rfl rfl (a1j q.x1 8 dE dE _) ?_);refine aB (BZ (off':=(q.x1 % 8).toNat) rfl rfl rfl AP zL oM oM oM) ?_;refine aB (FY rfl rfl BX (yR.at 0 rfl) (a8z (l:=bU) oM (by simp[bU];omega))) ?_;refine aB (qq2 (off':=1) KW zL) ?_;refine aH rfl (zS 1 zL (bF (aG aP)) (dM dD) ?_);refine J.nss ?_;obtain⟨nn,ax⟩:∃nn:Nat,nn=1+(q.x2 % 3).toNat:=⟨_,rfl⟩;have hn3:nn≤3:=oM;refine aN (aB (FD (off':=2) rfl rfl rfl a3b AB dE dE dE) ?_);refine aB (yX DT (yR.at 2 rfl)) ?_;refine aH rfl (yU rfl rfl rfl rfl rfl (a1j q.x2 3 dE dE _) ?_);refine aB (yZ rfl rfl rfl (AA oM)) ?_;refine J.eqv 58 rfl (show _=i64 (nn:Int) from(zD i64 oM)) ?_;refine aB yQ ?_;refine J.AO (Cj.keep (aO dU) ?_);refine aN (aB yQ ?_);refine J.ns (bV (Cj.keep (bK (bK (bK (bK dU)))) ?_));refine iI (ι:=Nat×Gs) (fun y=>y.1≤nn∧CU w0.heap.size 2 (TV q y.1).length ((TV q y.1).flatMap a2x) y.2) (fun y=>nn-y.1) (fun y=>[(0,.slice (some ⟨lb,lo,none⟩) l.length c),(2,ptr b1 0),(3,ptr b2 0),(4,i64 (k:Int)),(5,ptr b5 0),(6,ptr b6 0),(7,i64 (nn:Int)),(8,i64 (y.1:Int))]) (fun y=>_) (fun y=>(b6,yY 60 [str (aU q.x0),str (bU.getD (q.x1 % 8).toNat []),str [],gV (TV q y.1).length y.2])::(b5,yY 192 (VO q))::(b2,yY 55 [u8 97,u8 109,gV fs.length g])::(b1,yY 55 [u8 0,u8 0,.slice none 0 0])::(gH 62 ((TV q y.1).flatMap a2x) y.2++gH 60 (fs.flatMap SB) g)) (0,none) ⟨aJ _,rfl,rfl⟩ rT rfl rfl ?_;rintro⟨j,g2⟩ ⟨hj,ab⟩;dsimp only at hj ab ⊢;have b7:=a9u q j;refine bW (Cj.sr (aB yP ?_));refine aB yP ?_;refine aB BM ?_;refine J.cd (fun ac=>?_) (fun ac=>?_)
   ·have al:=BH ac;refine dS (aQ (bW (bV (fJ [0,1,2,3] [] 24 kR ?_))));have ay:=a6;refine bY ⟨(aC 0 rfl (aC 1 rfl (aC 2 rfl (aC 3 rfl aS)))),aT,(aI _)⟩ (fun G=>?_);refine aF 0 rfl G (qq2 (off':=3) KW ZU) ?_;refine aF 1 rfl G (yX isAgg58 (cZ 0 rfl)) ?_;refine aF 2 rfl G (FD (off':=2) rfl rfl rfl a3b AB dE dE dE) ?_;refine aF 3 rfl G (yX DT (cZ 1 rfl)) ?_;refine aF 4 rfl G (b2j rfl rfl rfl dE (AA (by have h:=b7H hq.h2 3 dE;omega))) ?_;refine aF 5 rfl G yP ?_;refine aF 6 rfl G (FD (off':=1) rfl rfl rfl a3b AB dE dE dE) ?_;refine aF 7 rfl G (yX DT (cZ 1 rfl)) ?_;refine aF 14 rfl G (FD (off':=3) rfl rfl rfl a3b AB dE dE dE) ?_;refine aF 15 rfl G (yX DT (cZ 1 rfl)) ?_;refine aF 16 rfl G yP ?_;refine aF 17 rfl G (a0y rfl rfl rfl (AA oM)) ?_;refine aF 18 rfl G (a8x rfl rfl rfl) ?_;refine zT 8 rfl (yU rfl rfl rfl rfl rfl (a1j q.x1 3 dE dE _) ?_);refine⟨⟨(aI _),(aC 0 rfl (aC 1 rfl (aC 2 rfl (aC 3 rfl aS)))),aT⟩,?_⟩;refine bY ⟨(aC 0 rfl (aC 1 rfl (aC 2 rfl (aC 3 rfl aS)))),aT,(aI _)⟩ (fun a5=>?_);refine aF 9 rfl a5 (yZ rfl rfl rfl (AA oM)) ?_;refine aF 10 rfl a5 (a0y rfl rfl rfl (AA (by have h:=b0y (j:=j) (m:=q.x1 % 3) oM oM oM;omega))) ?_;refine aF 11 rfl a5 (yZ rfl rfl rfl (AA (by have h:=b7H hq.h2 3 dE;have h2:=b0y (j:=j) (m:=q.x1 % 3) oM oM oM;omega))) ?_;refine zT 12 rfl (yU rfl rfl rfl rfl rfl (a1j (q.x2.tdiv 3+(j:Int)*(1+q.x1 % 3)) 8 dE dE _) ?_);refine⟨⟨(aI _),(aC 0 rfl (aC 1 rfl (aC 2 rfl (aC 3 rfl aS)))),aT⟩,?_⟩;refine bY ⟨(aC 0 rfl (aC 1 rfl (aC 2 rfl (aC 3 rfl aS)))),aT,(aI _)⟩ (fun am=>?_);refine aF 13 rfl am (DU rfl rfl rfl BF oM (c2i (l:=Ix.b3B) oM (by simp[Ix.b3B];omega))) ?_;refine zT 19 rfl (yU rfl rfl rfl rfl rfl (a3C _ _) ?_);refine⟨⟨(aI _),(aC 0 rfl (aC 1 rfl (aC 2 rfl (aC 3 rfl aS)))),aT⟩,?_⟩;refine bY ⟨(aC 0 rfl (aC 1 rfl (aC 2 rfl (aC 3 rfl aS)))),aT,(aI _)⟩ (fun an=>?_);refine aF 20 rfl an (zV (pl:= #[(0,1),(1,1)]) rfl rfl a1y rfl a0o (fun w=>by simp[RF,zL]) (bD rfl rfl rfl (aG aP) (bD rfl rfl rfl (bF (aG aP)) dK))) ?_;refine zT 21 rfl (AZ WY UK a1y (fA rfl bC) ?_);intro _ _;refine⟨⟨(aI _),(aC 1 rfl (aC 2 rfl (aC 3 rfl (aC 4 rfl aS)))),aT⟩,?_⟩;refine JA.perm (H':=[_,_,_,_,_]++(gH _ _ _++gH _ _ _)) (NV [_,_,_,_,_] _ _) ?_;refine zT 22 rfl (BJ (by':=23) ([_,_,_,_,_]++gH _ _ _) rfl rfl rfl rfl rfl WY (.inr ⟨_,WY⟩) kR UK a1y rfl ab rfl (bZ (yR.at 0 rfl) rfl rfl rfl) oM ?_);intro az ao;refine⟨⟨(aI _),(aC 1 rfl (aC 2 rfl (aC 3 rfl (aC 4 rfl aS)))),aT⟩,?_⟩;refine bY ⟨(aC 1 rfl (aC 2 rfl (aC 3 rfl (aC 4 rfl aS)))),aT,(aI _)⟩ (fun ap=>?_);refine aF 23 rfl ap (qq2 (off':=3) KW ZU) ?_;refine JA.last 24 kR rfl rfl rfl (EM 1 rfl rfl rfl rfl (KR _ _) (QO _ _) ZU rfl rfl (bF (bF (bF (aG aP)))) (dM dD) ?_);refine AL ?_;refine dN (aQ (aN (aB yP ?_)));refine aB (yZ rfl rfl rfl (AA oM)) ?_;refine aB yQ ?_;refine J.nil (eU (NV [_,_,_,_,_] (gH _ _ _) (gH _ _ _)) ?_);refine fG (aO (bK (bK (bK (bK dU))))) ?_;refine fB (j+1,az) ⟨dO,by dsimp only;rw[a3B,aA,fQ];exact ao⟩ dO rT rfl (by dsimp only;rw[a3B,aA,fQ];rfl)
   have al:=BN ac;refine dL (bI (bP (bJ (aQ ?_))));have b0:j=nn:=oM;subst b0;refine Cj.perm (b5U [_,_,_,_] (gH _ _ _) (gH _ _ _)) ?_;refine Cj.XZ ZW dE ab rfl (fun _ a3 hss=>?_);have a0:=a0.mono a3;have hS:=hS.mono a3;have hv:=hv.mono a3;have a6:=a3 _ _ a6;refine aN (aB (qq2 (off':=2) VX SQ) ?_);refine aB (yX a1z (yR.at 2 rfl)) ?_;refine aB (zX QY GV (yR.at 0 rfl)) ?_;refine aH rfl (AZ QA GV UC (fA rfl bC) ?_);intro _ _;refine aH rfl (BJ (by':=71) [_,_,_,_,_] rfl rfl rfl rfl rfl QA (.inr ⟨_,QA⟩) kR GV UC rfl hg rfl (bZ (yR.at 0 rfl) rfl rfl (by show[str (aU q.x0),str (bU.getD (q.x1 % 8).toNat []),str [],gV _ _].all dR=true;simp only[fM,fV,a2H,fO];rfl)) oM ?_);intro g17 aq;refine aB (qq2 (off':=2) VX SQ) ?_;refine aH rfl (EM 3 rfl rfl rfl rfl (KR _ _) (QO _ _) SQ rfl rfl (bF (bF (aG aP))) (dM (dM (dM dD))) ?_);refine J.nil (dN (aQ (aN (aB yP ?_))));refine aB (yZ rfl rfl rfl (AA oM)) ?_;refine aB yQ ?_;refine J.nil (fG (aO (aO (aO (bK (bK dU))))) ?_);refine fB (k+1,_,fs++[⟨aU q.x0,bU.getD (q.x1 % 8).toNat [],[],gV (TV q j).length g2,TV q j⟩],g17) ⟨dO,dO,a0,WT.add hS hss,by dsimp only;rw[b5g,a1B _ a2,hN,c3R hC,←ax];rfl,by dsimp only;rw[aA,a7];rfl,by dsimp only;rw[ZQ,aA];exact aq⟩ dO rT rfl (by dsimp only;rw[ZQ,aA];rfl)
  refine Cj.sr (aB (qq2 (off':=0) KW zL) ?_);refine aB (yX BX (yR.at 0 rfl)) ?_;refine aB (GK BF) ?_;refine aB (KO rfl rfl rfl) ?_;refine aB yP ?_;refine iJ 32 rfl (fun A=>?_) (fun A=>?_)
  rotate_left
  ·have ad:=BN A;have hC:¬fE (aU q.x0):=fun g=>by have h:=BN A;have:=g.1;omega
   refine zO 4 32 33 true A ?_;refine zO 4 32 34 true A ?_;refine zO 4 32 35 true A ?_;refine zO 4 32 36 true A ?_;refine aB (DV A) ?_;refine J.c0 (fun _=>?_);refine dS ?_;exact aa () _ _ _ hC rT rfl rfl
  have ad:=BH A;refine zU 4 32 true A (zK (qq2 (off':=0) KW zL) ?_);refine zU 4 32 true A (zK (yX BX (yR.at 0 rfl)) ?_);refine J.QD 4 32 true _ rfl rfl rfl A (IE (CY (p:=0) (q:=2) rfl rfl BF rfl ⟨_,rfl⟩ oM oM) rfl rfl ?_);refine zU 4 32 true A (zK (ED rfl rfl rfl) ?_);refine aB (DY A) ?_;refine J.cd (fun Z=>?_) (fun Z=>?_)
  ·have ae:=CS Z;have hC:fE (aU q.x0):=⟨oM,by have h:=CS Z;rw[iK]at h;exact h⟩;refine Cj.sr (aB (FD (off':=3) rfl rfl rfl a3b AB dE dE dE) ?_);refine aB (yX DT (yR.at 1 rfl)) ?_;refine aH rfl (yU rfl rfl rfl rfl rfl (a3C q.x3 _) ?_);refine aB (qq2 (off':=2) KW zL) ?_;refine aH rfl (zS 0 zL (bF (bF (aG aP))) dD ?_);refine J.yV (aB (qq2 (off':=2) VX SQ) ?_);refine aB (yX a1z (yR.at 2 rfl)) ?_;refine aB (zX QY GV (yR.at 0 rfl)) ?_;refine aH rfl (AZ QA GV UC (fA rfl bC) ?_);intro _ _;refine aH rfl (BJ (by':=71) [_,_,_,_,_] rfl rfl rfl rfl rfl QA (.inr ⟨_,QA⟩) kR GV UC rfl hg rfl (bZ (yR.at 0 rfl) rfl rfl rfl) oM ?_);intro b3 ar;refine aB (qq2 (off':=2) VX SQ) ?_;refine aH rfl (EM 3 rfl rfl rfl rfl (KR _ _) (QO _ _) SQ rfl rfl (bF (bF (aG aP))) (dM (dM (dM dD))) ?_);refine J.ns (dL (bI (bJ (aQ (aN (aB yP ?_))))));refine aB (yZ rfl rfl rfl (AA oM)) ?_;refine aB yQ ?_;refine J.nil (fG (aO (aO (aO (bK (bK dU))))) ?_);refine fB (k+1,_,fs++[⟨aU q.x0,[],gQ q.x3,.slice none 0 0,[]⟩],b3) ⟨dO,dO,a0,WT.add hS KF.nil,by dsimp only;rw[b5g,a1B _ a2,hN,c3K hC];rfl,by dsimp only;rw[aA,a7];rfl,by dsimp only;rw[ZQ,aA];exact ar⟩ dO rT rfl (by dsimp only;rw[ZQ,aA];rfl)
  ·have ae:=CX Z;have hC:¬fE (aU q.x0):=fun g=>CX Z (by rw[iK];exact g.2);refine dS ?_;exact aa () _ _ _ hC rT rfl rfl
 have ak:=BN a9;refine dL (bI (bP (bJ (aQ (Cj.sr (aB (zX a0n MG (yR.at 0 rfl)) ?_))))));refine aH rfl (EM 1 rfl rfl rfl rfl rfl (by show[u8 97,u8 109,gV _ _].all dR=true;simp only[fM,fV,a2H,fO];rfl) MG rfl rfl (aG (aG (aG aP))) (dM dD) ?_);refine J.ns (aX ?_);have a1:dB fs=dF l:=by rw[hN];unfold dF;rw[a4b hk oM]
 refine eU (H':=gH _ _ _++[_,_]) dI ?_;refine gW PY dE hg rfl (fun I9 a4 a8=>?_);refine Ej.b3s (aO (aO iV)) rfl rfl rfl (yR.at 1 rfl) a0n MG rfl ?_;exact⟨fs,_,rfl,YU.imp ⟨a8,fun f hf=>((hS f hf).mono a4)⟩ (fun b hb=>ag.dom hb),a1,rfl⟩
theorem zY.len{α:Type}{f:α→List Value}{I:Heap}{l:List α}{v:Value}(h:zY f I l v):∃p c,v= .slice p l.length c:=let ⟨p,c,h1,_⟩:=h;⟨p,c,h1⟩
structure Act where
  a:Ix.a0M
  v:Value
def a9r (x:Act):List Value:=[.bool x.a.drop,i64 x.a.src,i64 x.a.num,x.v]
theorem c1c x:(a9r x).length=4:=rfl
def QK (I:Heap) (xs:List Act) (v:Value):Prop:=zY a9r I xs v∧∀x∈xs,zY VO I x.a.fs x.v
theorem QK.mono{I G xs v}(h:QK I xs v)(A:Le I G):QK G xs v:=⟨h.1.mono A,fun x O=>(h.2 x O).mono A⟩
def TD (xs:List Act):Prop:=∀x∈xs,∀q∈x.a.fs,YA q
abbrev acts (xs:List Act):List Ix.a0M:=xs.map (·.a)
theorem c1d{α:Type}(l:List α):l.take (min l.length 8)=l.take 8:=by
 rcases Nat.le_total l.length 8 with h|h
 ·rw[fD h,aV h,aV (Nat.le_refl _)]
 rw[gX h]
structure a1c (I:Heap) (a:Ix.a0M) (e:RJ):Prop where
  t:e.t=a.title
  r:QW I e.fs e.v
  n:Ke.nrm e.fs=a.record
structure a4Q (N:Nat→Prop) (I:Heap) (a:Ix.a0M) (e:RJ):Prop where
  t:e.t=a.title
  r:YU N I e.fs e.v
  n:Ke.nrm e.fs=a.record
theorem a4Q.ent{N:Nat→Prop}{I a e}(h:a4Q N I a e):a1c I a e:=⟨h.t,h.r.rec,h.n⟩
theorem a1c.vals{I a e}(h:a1c I a e):Ix.vals e.fs=a.vs:=by rw[←c2e,h.n];rfl
theorem a1c.l{I a e}(h:a1c I a e):OJ e=(a.title,a.vs):=Prod.ext h.t h.vals
theorem a1c.eok{I a e}(h:a1c I a e):ZB e.fs:=c1H h.n
theorem a1c.one{I a e}(h:a1c I a e):(TQ e).all dR=true:=by
 obtain⟨p,c,A⟩:=zY.len h.r.1;exact a8T A
theorem b9z x (a2:∀q∈x.a.fs,YA q) I (hv:zY VO I x.a.fs x.v):yT bM 23 [.agg (a9r x).toArray] I [] (fun ev I' H'=>∃e,ev= .returned (.agg (TQ e).toArray)∧a4Q (I · =none) I' x.a e∧H'=[]):=by
 obtain⟨p,c,Z⟩:=zY.len hv;have a5:x.a.fs.length≤c:=by obtain⟨p1,c1,h1,h2,_⟩:=hv;rw[Z]at h1;cases h1;exact h2
 have G:zY VO I (x.a.fs.take 8) (.slice p (min x.a.fs.length 8) c):=by rw[←c1d];rw[Z]at hv;exact hv.take (iG _ _)
 refine yT.ob func23 ?_;intro w0 _;refine Cj.sr (aH rfl (BL ?_));intro _ _;refine aH rfl (BP a1r ?_);intro _ _;refine J.nss (fJ [0,1] [] 14 kR ?_);refine bY ⟨(aC 0 rfl (aC 1 rfl aS)),aT,(aI _)⟩ (fun A=>?_);refine aF 0 rfl A (qq2 (off':=1) b7f AB) ?_;refine aF 1 rfl A (yX DT (cZ 1 rfl)) ?_;refine aF 2 rfl A (qq2 (off':=2) b7f AB) ?_;refine aF 3 rfl A (yX DT (cZ 1 rfl)) ?_;refine aF 4 rfl A (zV (pl:= #[(0,1),(1,1)]) rfl rfl QZ rfl WX (fun w=>by simp[AB]) (bD rfl rfl rfl (aG aP) (bD rfl rfl rfl (bF (aG aP)) dK))) ?_;refine aF 5 rfl A (qq2 (off':=3) b7f sizeOf83) ?_;refine aF 6 rfl A (yX isAgg83 (cZ 1 rfl)) ?_;refine fZ 9 rfl (show _= .slice p x.a.fs.length c from Z) ?_;refine aF 7 rfl A (qq2 (off':=3) b7f sizeOf83) ?_;refine aF 8 rfl A (yX isAgg83 (cZ 1 rfl)) ?_;refine fZ 11 rfl (show _= .slice p x.a.fs.length c from Z) ?_;refine aF 9 rfl A (AU b6N) ?_;refine aF 10 rfl A (LV rfl rfl rfl) ?_;refine aF 11 rfl A (LG (k:=(min x.a.fs.length 8)) rfl rfl rfl b6N sizeOf192 (by split<;>omega) oM) ?_;refine zT 12 rfl (yS (H1:=[]) rfl rfl rfl rfl rfl (b9s (x.a.fs.take 8) _ (fun q hq=>a2 q (dP hq)) _ G) ?_ (fun _ _ _ _ ⟨_,_,h,_⟩=>by cases h) (fun _ _ ⟨_,_,h,_⟩=>by cases h));intro _ _ _ O a3;have G:=G.mono O;obtain⟨fs,w,h,a0,a1,rfl⟩:=a3;cases h;obtain⟨wp,_,rfl⟩:=zY.len a0.1.row;refine⟨⟨(gY (aI _) O),(aC 0 rfl (aC 1 rfl aS)),aT⟩,?_⟩;refine bY ⟨(aC 0 rfl (aC 1 rfl aS)),aT,(gY (aI _) O)⟩ (fun a4=>?_);refine aF 13 rfl a4 (zV (pl:= #[(0,2),(2,3)]) rfl rfl a1r rfl QX (fun w=>by simp[AY,MG]) (bD rfl rfl rfl (aG (aG aP)) (bD rfl rfl rfl (bF (bF (aG (aG (aG aP))))) dK))) ?_;refine JA.last 14 kR rfl rfl rfl (zS 0 OQ (aG (aG (aG (aG (aG aP))))) dD ?_);refine AL ?_;refine aQ (aX (Ej.b3s (aO (aO iV)) rfl rfl rfl (yR.at 0 rfl) isAgg57 OQ rfl ?_));exact⟨⟨x.a.title,97,109,_,fs⟩,rfl,⟨rfl,a0,a1⟩,rfl⟩
theorem le_none{I J}(h:Le I J){b}(A:J b=none):I b=none:=by
 cases hI:I b with
 |none=>rfl
 |some o=>rw[h _ _ hI]at A;cases A
def a3u (N:Nat→Prop) (I:Heap) (es:List RJ) (v:Value):Prop:=KF N 57 TQ I es v∧∀e∈es,YU N I e.fs e.v
theorem a3u.mono{N:Nat→Prop}{I G es v}(h:a3u N I es v)(A:Le I G):a3u N G es v:=⟨h.1.mono A,fun e O=>(h.2 e O).mono A⟩
theorem a3u.ents{N:Nat→Prop}{I es v}(h:a3u N I es v):OM I es v:=⟨h.1.row,fun e A=>(h.2 e A).rec⟩
def WO (N:Nat→Prop) (I:Heap) (al:List Ix.a0M) (es:List RJ):Prop:=es.map OJ=al.map (fun a=>(a.title,a.vs))∧(∀e∈es,YU N I e.fs e.v)∧∀e∈es,ZB e.fs
theorem WO.mono{N:Nat→Prop}{I A G es}(h:WO N I G es)(O:Le I A):WO N A G es:=⟨h.1,fun e Z=>(h.2.1 e Z).mono O,h.2.2⟩
theorem WO.add{N:Nat→Prop}{I O es a e}(h:WO N I O es)(A:a4Q N I a e):WO N I (O++[a]) (es++[e]):=by
 refine⟨by rw[bQ,bQ,h.1];exact zD _ (zD (fun z=>[z]) A.ent.l),fun x G=>?_,fun x G=>?_⟩
 ·rcases bT.1 G with g|g
  ·exact h.2.1 x g
  rw[bH.1 g];exact A.r
 rcases bT.1 G with g|g
 ·exact h.2.2 x g
 rw[bH.1 g];exact A.ent.eok
theorem WO.nil{N:Nat→Prop}{I}:WO N I [] []:=⟨rfl,(fun _ h=>by cases h),(fun _ h=>by cases h)⟩
theorem WO.len{N:Nat→Prop}{I A es}(h:WO N I A es):es.length=A.length:=by have:=zD List.length h.1;simpa using this
theorem b9I xs k:acts (xs.take k)=(acts xs).take k:=List.map_take
theorem a9z{xs k}(A:k≤xs.length)(h:k≤20∧(xs.length≤k∨20≤k)):(acts (xs.take k)).map (fun a=>(a.title,a.vs))=Ix.ents (acts xs):=by
 rw[a4b A h,b9I];rfl
theorem a5Z xs v (ai:TD xs) I (a9:QK I xs v):yT bM 8 [v] I [] (fun ev I' H'=>∃es w,ev= .returned w∧a3u (I · =none) I' es w∧es.map OJ=Ix.ents (acts xs)∧(∀e∈es,ZB e.fs)∧es.length≤20∧H'=[]):=by
 obtain⟨p,c,rfl⟩:=zY.len a9.1;refine yT.ob func8 ?_;intro w0 aa;refine Cj.sr (aB yQ ?_);refine J.yV (aB yQ ?_);refine J.AO (aN (aB yQ ?_));refine J.ns (bV (iI (ι:=Nat×Heap×List RJ×Gs) (fun y=>y.1≤xs.length∧y.1≤20∧Le I y.2.1∧WO (I · =none) y.2.1 (acts (xs.take y.1)) y.2.2.1∧CU w0.heap.size 5 y.2.2.1.length (y.2.2.1.flatMap TQ) y.2.2.2) (fun y=>20-y.1) (fun y=>[(0,.slice p xs.length c),(3,gV y.2.2.1.length y.2.2.2),(4,i64 (y.1:Int))]) (fun y=>y.2.1) (fun y=>gH 57 (y.2.2.1.flatMap TQ) y.2.2.2) (0,_,[],none) ⟨aJ _,aJ _,aI _,WO.nil,rfl,rfl⟩ rT rfl rfl ?_));rintro⟨k,_,es,g⟩ ⟨hk,ae,Z,G,hg⟩;dsimp only at hk ae Z G hg ⊢;have hA:=a9.mono Z;have aj:=G.len;rw[aK,eY,fD hk]at aj;refine bW (Cj.sr (aB yP ?_));refine aB yP ?_;refine aB (AU a4N) ?_;refine aB BM ?_;refine aB yP ?_;refine iJ 9 rfl (fun A=>?_) (fun A=>?_)
 rotate_left
 ·have af:=BN A;refine zO 4 9 10 true A ?_;refine zO 4 9 11 true A ?_;refine aB (DV A) ?_;refine J.c0 (fun _=>?_);refine dL (bI (bP (bJ (aQ (Cj.sr (aB yP ?_))))));refine aB yQ ?_;refine J.ns (aX ?_);have a3:=a9z hk oM;have a4:=G.1.trans a3;refine eU (H':=gH 57 (es.flatMap TQ) g++[]) (.of_eq (dQ _)) ?_;refine gW XE dE hg rfl (fun I8 a0 a5=>?_);refine zN ?_;exact⟨es,_,rfl,⟨a5.imp (fun b hb=>aa.dom hb),fun e he=>(G.2.1 e he).mono a0⟩,a4,G.2.2,oM,rfl⟩
 have af:=BH A;refine zU 4 9 true A (zK yP ?_);refine zU 4 9 true A (zK BM ?_);refine aB (DY A) ?_;refine J.cd (fun a6=>?_) (fun a6=>?_)
 ·have ag:=BH a6;refine dS (aQ (bW (bV ?_)));have ah:=Z;have ab:k<xs.length:=oM;have aq:k<20:=oM;obtain⟨x,a1⟩:∃x,xs[k]?=some x:=⟨_,DX ab⟩;have ac:=FB a1;obtain⟨p1,c1,ak,_,hp⟩:=id hA.1;cases ak;obtain⟨_,ao,_,_,_,_,rfl,a7,al⟩:=hp (AX ab);have a2:=hA.2 x ac;obtain⟨_,_,_⟩:=zY.len a2;have am:acts (xs.take (k+1))=acts (xs.take k)++[x.a]:=a1B _ a1;refine aN (aB yP ?_);refine aB yP ?_;refine aB yP ?_;refine aB (BG (off':=ao+k*4) a4N sizeOf85) ?_;refine aB (FH isAgg85 sizeOf85 (yR.TS a7) (EJ c1c al a1)) ?_;refine aH rfl (yS (H1:=[]) rfl rfl rfl rfl rfl (b9z x (ai x ac) _ a2) ?_ (fun _ _ _ _ ⟨_,h,_⟩=>by cases h) (fun _ _ ⟨_,h,_⟩=>by cases h));intro _ _ _ O an;have hA:=hA.mono O;have G:=G.mono O;have Z:=Z.mono O;have a7:=O _ _ a7;have a2:=a2.mono O;obtain⟨e0,h,a8,rfl⟩:=an;cases h;have ad:a4Q (I · =none) _ x.a e0:=⟨a8.t,a8.r.imp (fun b hb=>le_none ah hb),a8.n⟩;have he0:=ad.ent;refine aH rfl (AZ WZ OQ a1r (fA rfl bC) ?_);intro _ _;refine aH rfl (BJ (by':=47) [_] rfl rfl rfl rfl rfl WZ (.inr ⟨_,WZ⟩) kR OQ a1r rfl hg rfl (bZ (yR.at 0 rfl) rfl rfl he0.one) oM ?_);intro g9 ap;refine aB yQ ?_;refine J.nil (dN (aQ (aN (aB yP ?_))));refine aB (yZ rfl rfl rfl (AA oM)) ?_;refine aB yQ ?_;refine J.nil (fG (aO dU) ?_);refine fB (k+1,_,es++[e0],g9) ⟨dO,dO,Z,by dsimp only;rw[am];exact G.add ad,by dsimp only;rw[ZQ,aA];exact ap⟩ dO ⟨rfl,by dsimp only;rw[aA];rfl,rfl,trivial⟩ rfl (by dsimp only;rw[ZQ];rfl)
 have ag:=BN a6;refine dL (bI (bP (bJ (aQ (Cj.sr (aB yP ?_))))));refine aB yQ ?_;refine J.ns (aX ?_);have a3:=a9z hk oM;have a4:=G.1.trans a3;refine eU (H':=gH 57 (es.flatMap TQ) g++[]) (.of_eq (dQ _)) ?_;refine gW XE dE hg rfl (fun I8 a0 a5=>?_);refine zN ?_;exact⟨es,_,rfl,⟨a5.imp (fun b hb=>aa.dom hb),fun e he=>(G.2.1 e he).mono a0⟩,a4,G.2.2,oM,rfl⟩
theorem a2Y xs v (A:TD xs) I (G:QK I xs v):yT bM 8 [v] I [] (fun ev O H'=>∃es w,ev= .returned w∧OM O es w∧es.map OJ=Ix.ents (acts xs)∧(∀e∈es,ZB e.fs)∧es.length≤20∧H'=[]):=
 (a5Z xs v A I G).mono fun _ _ _ _ ⟨es,w,h1,h2,h⟩=>⟨es,w,h1,h2.ents,h⟩
end Go.Proofs.YtojdemmgkdokmaaGreatDoor
namespace Go.Sx
open Go
section
variable {cx:Cx} {o:Oper} {e:Env} {S:World→Prop}
end
end Go.Sx
section
namespace Bk
open _root_.Go.Proofs.Tryz
def q1 (a:UInt8):List UInt8:=([34]++gQ (a.toNat:Int))++[34]
def qt1 (a b:UInt8):List UInt8:=(([116,105,116,108,101,32,61,32]++q1 a)++[32,111,114,32,97,117,116,104,111,114,32,97,110,121,32])++q1 b
def qt2 (a b:UInt8):List UInt8:=(([97,110,121,32,97,110,121,32]++q1 a)++[32,110,111,116,32,116,105,116,108,101,32,61,61,32])++q1 b
def qt3 (a b:UInt8):List UInt8:=(([116,105,116,108,101,32,97,108,108,32]++q1 a)++[32,97,110,100,32,97,110,121,32,61,32])++q1 b
def qt4 (a:UInt8):List UInt8:=[116,105,116,108,101,32,62,61,32]++q1 a
def qt5 (a b:UInt8):List UInt8:=((([115,117,98,106,101,99,116,32,97,110,121,32]++q1 a)++[32,111,114,32,40,105,115,98,110,32,61,32])++q1 b)++[32,111,114,32,121,101,97,114,32,60,32,50,48,48,48,41]
def a0t (k a b:UInt8) (raw:List UInt8):List UInt8:=
 if k.toNat % 7=0 then q1 a else if k.toNat % 7=1 then qt1 a b else if k.toNat % 7=2 then qt2 a b else if k.toNat % 7=3 then qt3 a b else if k.toNat % 7=4 then qt4 a else if k.toNat % 7=5 then qt5 a b else raw
theorem b6O (n : Int) : (Ix.a7R n).length ≤ 40 := by
  unfold Ix.a7R
  rw [List.getD_eq_getElem?_getD]
  cases h : Ix.a7w[(n % 20).toNat]? with
  | none => exact Nat.zero_le _
  | some w => exact (by decide : ∀ w ∈ Ix.a7w, w.length ≤ 40) w (List.mem_of_getElem? h)
theorem b9M a:(q1 a).length≤42:=by
 have:=b6O (a.toNat:Int);unfold q1;rw[aA,aA,fH];omega
theorem a2a k a b raw:(a0t k a b raw).length≤raw.length+200:=by
 have h1:=b9M a;have h2:=b9M b;unfold a0t
 repeat(first|split|(simp only[qt1,qt2,qt3,qt4,qt5,aA,fC,iH];omega)|omega)
end Bk
namespace Go.Proofs.YtojdemmgkdokmaaGreatDoor
open Go Go.Sx
structure Qz where
  k:UInt8
  a:UInt8
  b:UInt8
  raw:List UInt8
  most:Int
abbrev VR (q:Qz):List Value:=[u8 q.k,u8 q.a,u8 q.b,str q.raw,i64 q.most]
abbrev Qz.t (q:Qz):List UInt8:=Bk.a0t q.k q.a q.b q.raw
section
variable {cx:Cx} {o:Oper} {e:Env} {S:World→Prop}
theorem c4W{x y T U k G p}{n:Nat}(O:o.op= .binOp .shr T x y U)(Z:ev e x=some (.int k p))(hy:ev e y=some (.int G (n:Int))):DK cx o e S (.int k (p.fdiv (2 ^ min n k.bits))):=by
 intro a w A _;have h:¬((n:Int)<0):=oM;simp[execOp,O,A.eval Z,A.eval hy,eqGuard,binOp,Op.shift,h]
end
def c7n (c:UInt8) (k:Nat):Bool:=(fK.wrap ((iP fK.bits ((c.toNat:Int).fdiv (2 ^ min k fK.bits)) &&& iP fK.bits 1).toNat:Int) == 1)
def a1t (I:Heap) (L:List (Rw Act)) (v:Value):Prop:=zY WH I L v∧∀x∈L,QK I x.l x.v
theorem a1t.mono{I G L v}(h:a1t I L v)(A:Le I G):a1t G L v:=⟨h.1.mono A,fun x O=>(h.2 x O).mono A⟩
theorem QK.take8{I l a c}(h:QK I l (.slice a l.length c)):QK I (l.take 8) (.slice a (min l.length 8) c):=by
 refine⟨?_,fun x A=>h.2 x (dP A)⟩;have h1:=zY.take h.1 (iG l.length 8)
 rwa [a3K]at h1
theorem b1c{l:List Act}{es:List RJ}(h:es.map OJ=Ix.ents (acts (l.take 8))):es.length≤8:=by
 have h1:=zD List.length h;unfold Ix.ents at h1;simp only[aK,eY]at h1;omega
structure RL where
  es:List RJ
  v:Value
  cl:Bool
abbrev rlC (x:RL):List Value:=[x.v,.bool x.cl]
theorem b4Q x:(rlC x).length=2:=rfl
def c6Y (x:Value×Option Bk.Lb) (r:RL):Prop:=(r.cl=true→x.2=none)∧(r.cl=false→x.2=some (iQ (r.es.map JB))∧r.es.length≤8∧∀e∈r.es,ZB e.fs)
structure TLb where
  k:Nat
  J:Heap
  xs:List (Value×Option Bk.Lb)
  bs:List RL
  ga:Gs
  gb:Gs
def c7x (I:Heap) (bs:List RL) (w:Value):Prop:=zY rlC I bs w∧∀r∈bs,OM I r.es r.v
structure VP (I:Heap) (c:UInt8) (xs:List (Value×Option Bk.Lb)) (bs:List RL):Prop where
  lib:∀x∈xs,a6w I x.1 x.2
  ref:∀r∈bs,OM I r.es r.v
  len:xs.length=bs.length
  few:xs.length≤4
  at_:∀(k:Nat) x r,xs[k]?=some x→bs[k]?=some r→c6Y x r
theorem VP.nil{I c}:VP I c [] []:=⟨fun _ h=>(by cases h),fun _ h=>(by cases h),rfl,dE,fun _ _ _ h=>(by simp at h)⟩
theorem VP.mono{I O c xs bs}(h:VP I c xs bs)(A:Le I O):VP O c xs bs:=⟨fun x G=>(h.lib x G).mono A,fun x G=>(h.ref x G).mono A,h.len,h.few,h.at_⟩
theorem a8u{α:Type}{l:List α}{x y:α}{k:Nat}(h:(l++[x])[k]?=some y):(k<l.length∧l[k]?=some y)∨(k=l.length∧y=x):=by
 rcases eX k l.length with g|g
 ·rw[List.getElem?_append_left g]at h;exact .inl ⟨g,h⟩
 rw[List.getElem?_append_right g]at h;rcases eX 0 (k-l.length)with j|j
 ·rw[dH (by rw[fH];omega)]at h;cases h
 have:k=l.length:=oM;subst this;rw[Nat.sub_self]at h;cases h;exact .inr rT
theorem VP.snoc{I:Heap}{c:UInt8}{xs:List (Value×Option Bk.Lb)}{bs:List RL}(h:VP I c xs bs){x:Value×Option Bk.Lb}{r:RL}(G:a6w I x.1 x.2)(hr:OM I r.es r.v)(O:c6Y x r)(Z:xs.length<4):VP I c (xs++[x]) (bs++[r]) where
 lib y A:=(bT.1 A).elim (h.lib y) fun e=>by rw[bH.1 e];exact G
 ref y A:=(bT.1 A).elim (h.ref y) fun e=>by rw[bH.1 e];exact hr
 len:=by rw[aA,aA,h.len];rfl
 few:=by rw[aA];exact Z
 at_ k y s A hs:=by
  rcases a8u A with⟨g,A⟩|⟨g,rfl⟩
  ·rcases a8u hs with⟨_,hs⟩|⟨k2,_⟩
   ·exact h.at_ k y s A hs
   have:=h.len;omega
  rcases a8u hs with⟨k2,_⟩|⟨_,rfl⟩
  ·have:=h.len;omega
  exact O
theorem KT.same{p os S T}(hS:KT p os S)(hT:KT p os T)(hl:S.length=T.length):flt dV (S.map dW)=flt dV (T.map dW)∧S.map iR=T.map iR:=by
 have key:∀(i:Nat) x y,S[i]?=some x→T[i]?=some y→x.1.l.map dV=y.1.l.map dV∧x.2=y.2:=fun i x y A G=>by
  obtain⟨o,ho,ha⟩:=hS i x A;obtain⟨_,O,hb⟩:=hT i y G;rw[ho]at O;cases O;exact Bk.c6m ha hb
 have two:∀{β:Type} (φ:FE→β),(∀(i:Nat) x y,S[i]?=some x→T[i]?=some y→φ x=φ y)→S.map φ=T.map φ:=fun φ h=>by
  refine List.ext_getElem? fun i=>?_;rw[eG,eG];cases A:S[i]? with
  |none=>
   have:T[i]?=none:=by rw[List.getElem?_eq_none_iff]at A ⊢;omega
   rw[this]
  |some x=>
   have hi:=(eP.1 A).1;have G:T[i]?=some (T[i]'(hl▸hi)):=cO _;rw[G];exact zD some (h i x _ A G)
 have e:∀Z:List FE,flt dV (Z.map dW)=(Z.map fun x=>x.1.l.map dV).flatten:=fun Z=>by
  unfold flt;rw[List.flatMap_def,List.map_map];rfl
 exact⟨by rw[e,e,two _ fun i x y A G=>(key i x y A G).1],two _ fun i x y A G=>(key i x y A G).2⟩
theorem c3o{p o k n fs e}(h:Bk.ans p o k fs e)(A:∀b,o=some b→b.L.length≤n):fs.length≤n∧Bk.MJ fs≤n:=by
 unfold Bk.ans at h
 split at h
 ·obtain⟨rfl,-⟩:=h;exact⟨aJ _,aJ _⟩
 cases o with
 |none=>
  obtain⟨rfl,-⟩:=h;exact⟨aJ _,aJ _⟩
 |some b=>
  obtain⟨-,r,h2,rfl⟩:=h;have h3:=A b rfl;have G:r.length≤b.L.length:=h2.len;rw[Bk.a8c];exact⟨by unfold Bk.found;rw[aK];omega,oM⟩
theorem KT.few{p}{os:List (Option Bk.Lb)}{n}(A:∀b,some b∈os→b.L.length≤n):∀{S:List FE},(∀x∈S,∃o∈os,∃i,Bk.ans p o i (x.1.l.map dV) x.2)→(flt dV (S.map dW)).length≤S.length*n∧Bk.MJ (flt dV (S.map dW))≤S.length*n
 |[],_=>⟨aJ _,aJ _⟩
 |x::S,h=>by
  obtain⟨h1,h2⟩:=KT.few A (S:=S) fun y G=>h y (.tail _ G);obtain⟨o,O,i,Z⟩:=h x (.head _);obtain⟨h3,_⟩:=c3o Z fun b e=>A b (e▸O);have e:flt dV ((x::S).map dW)=x.1.l.map dV++flt dV (S.map dW):=rfl;rw[e,aA,Bk.WC,fC,Nat.add_mul];omega
theorem a5x(es:List RJ):(iQ (es.map JB)).L.length≤es.length:=by
 have h:∀L l:Ix.Ix,(Ix.a1g L l).length≤l.length+L.length:=by
  intro L
  induction L with
  |nil=>intro l;exact Nat.le_add_right _ _
  |cons e L A=>
   intro l;have h1:=A (Ix.RG e.1 e.2 l);have h2:=a2S e.1 e.2 l;show(Ix.a1g L (Ix.RG e.1 e.2 l)).length≤_;rw[fC];omega
 have:=h ((es.map JB).map fun e=>(e.1,Ix.vals e.2)) [];rw[aK,aK,iH,Nat.zero_add]at this;exact this
theorem VP.lens{I c xs bs}(h:VP I c xs bs):∀b,some b∈xs.map iR→b.L.length≤8:=fun b Z=>by
 obtain⟨x,hx,A⟩:=iO.1 Z;obtain⟨i,G⟩:=List.getElem?_of_mem hx;have O:i<bs.length:=by have:=(eP.1 G).1;have:=h.len;omega
 obtain⟨h1,h2⟩:=h.at_ i x _ G (cO O);cases hc:(bs[i]).cl with
 |true=>rw[h1 hc]at A;cases A
 |false=>
  obtain⟨h3,_,_⟩:=h2 hc;rw[h3]at A;cases A;have:=a5x (bs[i]).es;omega
theorem PO{s}(h:s.length≤1500000):(Cq.parse s).1.size≤1000000000∧(Cq.parse s).1.wide≤10000000:=by
 have h1:=Cq.b6J s;have h2:=Cq.b4l s;exact⟨oM,oM⟩
theorem b9n{I}{r:List Fv}{xs}(A:Bk.JR xs (r.map dV))(O:Bk.MJ xs≤1000000000)(G:∀z∈r,ZK I z){l:List Fv}(h:∀z∈l,z∈r):∀z∈l,zY GY I z.f.p z.v∧z.f.p.length≤1000000000:=fun z hz=>⟨(G z (h z hz)).1,by
 have:=A.each z.f (fP (h z hz));omega⟩
theorem b5M{xs}{r:List Fv}(h:Bk.JR xs (r.map dV)):r.length≤xs.length:=by
 have:=h.len
 rwa [aK]at this
theorem b4q{α:Type}(l:List α)(most:Int):l.take (min l.length most.toNat)=l.take most.toNat:=by
 rcases Nat.le_total l.length most.toNat with h|h
 ·rw[fD h,List.take_length,aV h]
 rw[gX h]
theorem c3g(n:Nat) most:(if (0:Int)>(if most<(n:Int)then most else(n:Int))then(0:Int)else(if most<(n:Int)then most else(n:Int)))=((min n most.toNat:Nat):Int):=by
 repeat(first|omega|split)
theorem OC q I:Pure bM 11 [.agg (VR q).toArray] I (str q.t):=by
 refine iF ?_;have ab:q.k.toNat % 7<7:=Nat.mod_lt _ dE;have ac:=fU (q.a.toNat:Int);have ad:=fU (q.b.toNat:Int);refine yT.ob Tryz.func11 ?_;intro w0 _;refine Cj.sr (aH rfl (BL ?_));intro _ _;refine aB yQ ?_;refine J.nss (fJ [0] [] 14 kR ?_);refine bY ⟨(aC 0 rfl aS),aT,(aI _)⟩ (fun A=>?_);refine aF 0 rfl A (qq2 (off':=1) dA gB) ?_;refine aF 1 rfl A (yX gK (cZ 0 rfl)) ?_;refine aF 2 rfl A (NJ rfl rfl gZ iC) ?_;refine fZ 7 rfl (show _=i64 (q.a.toNat:Int) from(zD i64 (by rw[iD];have:=q.a.toNat_lt;omega))) ?_;refine aF 6 rfl A (qq2 (off':=2) dA gB) ?_;refine aF 7 rfl A (yX gK (cZ 0 rfl)) ?_;refine aF 8 rfl A (NJ rfl rfl gZ iC) ?_;refine fZ 13 rfl (show _=i64 (q.b.toNat:Int) from(zD i64 (by rw[iD];have:=q.b.toNat_lt;omega))) ?_;refine zT 3 rfl (yU rfl rfl rfl rfl rfl (a3C (q.a.toNat:Int) _) ?_);refine⟨⟨(aI _),(aC 0 rfl aS),aT⟩,?_⟩;refine bY ⟨(aC 0 rfl aS),aT,(aI _)⟩ (fun a5=>?_);refine aF 4 rfl a5 (EZ rfl rfl rfl (by first|omega|(simp only[aA];omega)|(simp;omega))) ?_;refine aF 5 rfl a5 (EZ rfl rfl rfl (by first|omega|(simp only[aA];omega)|(simp;omega))) ?_;refine zT 9 rfl (yU rfl rfl rfl rfl rfl (a3C (q.b.toNat:Int) _) ?_);refine⟨⟨(aI _),(aC 0 rfl aS),aT⟩,?_⟩;refine bY ⟨(aC 0 rfl aS),aT,(aI _)⟩ (fun O=>?_);refine aF 10 rfl O (EZ rfl rfl rfl (by first|omega|(simp only[aA];omega)|(simp;omega))) ?_;refine aF 11 rfl O (EZ rfl rfl rfl (by first|omega|(simp only[aA];omega)|(simp;omega))) ?_;refine aF 12 rfl O yQ ?_;refine aF 13 rfl O yQ ?_;refine AL ?_;refine aQ (bW (Cj.sr (aB (qq2 (off':=0) dA gB) ?_)));refine aB (yX gK (yR.at 0 rfl)) ?_;refine aB (UN rfl rfl rfl dE) ?_;refine J.eqv 19 rfl (show _= .int .u8 ((q.k.toNat % 7:Nat):Int) from(zD (Value.int .u8) (by rw[Int.tmod_eq_emod_of_nonneg (Int.natCast_nonneg _)];push_cast;rfl))) ?_;refine J.ns (bV (Cj.sr (aB BO ?_)));refine aB yQ ?_;refine J.cd (fun Z=>?_) (fun Z=>?_)
 ·have a6:=zC Z;refine Cj.sr (aB yP ?_);refine aB yQ ?_;refine J.ns (aX (dX (dY (dJ ?_))));refine zN ?_;have h:q.t=Bk.q1 q.a:=by unfold Qz.t Bk.a0t;rw[zG oM]
  rw[h];exact rT
 have a6:=zA Z;refine Cj.sr (aB BO ?_);refine aB yQ ?_;refine J.cd (fun a0=>?_) (fun a0=>?_)
 ·have a7:=zC a0;refine Cj.sr (aB yP ?_);refine aB (EZ rfl rfl rfl (by first|omega|(simp only[aA];omega)|(simp;omega))) ?_;refine aB (EZ rfl rfl rfl (by first|omega|(simp only[aA];omega)|(simp;omega))) ?_;refine aB yP ?_;refine aB (EZ rfl rfl rfl (by first|omega|(simp only[aA];omega)|(simp;omega))) ?_;refine aB yQ ?_;refine J.ns (aX (dX (dY (dJ ?_))));refine zN ?_;have h:q.t=Bk.qt1 q.a q.b:=by unfold Qz.t Bk.a0t;rw[zF oM,zG oM]
  rw[h];exact rT
 have a7:=zA a0;refine Cj.sr (aB BO ?_);refine aB yQ ?_;refine J.cd (fun a1=>?_) (fun a1=>?_)
 ·have a8:=zC a1;refine Cj.sr (aB yP ?_);refine aB (EZ rfl rfl rfl (by first|omega|(simp only[aA];omega)|(simp;omega))) ?_;refine aB (EZ rfl rfl rfl (by first|omega|(simp only[aA];omega)|(simp;omega))) ?_;refine aB yP ?_;refine aB (EZ rfl rfl rfl (by first|omega|(simp only[aA];omega)|(simp;omega))) ?_;refine aB yQ ?_;refine J.ns (aX (dX (dY (dJ ?_))));refine zN ?_;have h:q.t=Bk.qt2 q.a q.b:=by unfold Qz.t Bk.a0t;rw[zF oM,zF oM,zG oM]
  rw[h];exact rT
 have a8:=zA a1;refine Cj.sr (aB BO ?_);refine aB yQ ?_;refine J.cd (fun a2=>?_) (fun a2=>?_)
 ·have a9:=zC a2;refine Cj.sr (aB yP ?_);refine aB (EZ rfl rfl rfl (by first|omega|(simp only[aA];omega)|(simp;omega))) ?_;refine aB (EZ rfl rfl rfl (by first|omega|(simp only[aA];omega)|(simp;omega))) ?_;refine aB yP ?_;refine aB (EZ rfl rfl rfl (by first|omega|(simp only[aA];omega)|(simp;omega))) ?_;refine aB yQ ?_;refine J.ns (aX (dX (dY (dJ ?_))));refine zN ?_;have h:q.t=Bk.qt3 q.a q.b:=by unfold Qz.t Bk.a0t;rw[zF oM,zF oM,zF oM,zG oM]
  rw[h];exact rT
 have a9:=zA a2;refine Cj.sr (aB BO ?_);refine aB yQ ?_;refine J.cd (fun a3=>?_) (fun a3=>?_)
 ·have aa:=zC a3;refine Cj.sr (aB yP ?_);refine aB (EZ rfl rfl rfl (by first|omega|(simp only[aA];omega)|(simp;omega))) ?_;refine aB yQ ?_;refine J.ns (aX (dX (dY (dJ ?_))));refine zN ?_;have h:q.t=Bk.qt4 q.a:=by unfold Qz.t Bk.a0t;rw[zF oM,zF oM,zF oM,zF oM,zG oM]
  rw[h];exact rT
 have aa:=zA a3;refine Cj.sr (aB BO ?_);refine aB yQ ?_;refine J.cd (fun G=>?_) (fun G=>?_)
 ·have a4:=zC G;refine Cj.sr (aB yP ?_);refine aB (EZ rfl rfl rfl (by first|omega|(simp only[aA];omega)|(simp;omega))) ?_;refine aB (EZ rfl rfl rfl (by first|omega|(simp only[aA];omega)|(simp;omega))) ?_;refine aB yP ?_;refine aB (EZ rfl rfl rfl (by first|omega|(simp only[aA];omega)|(simp;omega))) ?_;refine aB (EZ rfl rfl rfl (by first|omega|(simp only[aA];omega)|(simp;omega))) ?_;refine aB yQ ?_;refine J.ns (aX (dX (dY (dJ ?_))));refine zN ?_;have h:q.t=Bk.qt5 q.a q.b:=by unfold Qz.t Bk.a0t;rw[zF oM,zF oM,zF oM,zF oM,zF oM,zG oM]
  rw[h];exact rT
 have a4:=zA G;refine dS (dN (aQ (Cj.sr (aB (qq2 (off':=3) dA Tryz.sizeOf9) ?_))));refine aB (yX Tryz.isAgg9 (yR.at 0 rfl)) ?_;refine aB yQ ?_;refine J.ns (aX (dJ ?_));refine zN ?_;have h:q.t=q.raw:=by unfold Qz.t Bk.a0t;rw[zF oM,zF oM,zF oM,zF oM,zF oM,zF oM]
 rw[h];exact rT
theorem b1p L v c (ar:∀x∈L,TD x.l) I (hL:a1t I L v):yT bM 12 [v,u8 c] I []
 (fun e I' H'=>∃xs bs wa wb,e= .returned (.tuple #[wa,wb])∧MF I' xs wa∧c7x I' bs wb∧VP I' c xs bs∧H'=[]):=by
 obtain⟨pL,cL,rfl,_,-⟩:=id hL.1;refine yT.ob Tryz.func12 ?_;intro w0 _;refine Cj.sr (aB yQ ?_);refine aB yQ ?_;refine J.yV (aB yQ ?_);refine J.yV (aB yQ ?_);refine J.AO (aN (aB yQ ?_));refine J.ns (bV (iI (ι:=TLb) (fun y=>y.k≤L.length∧y.k≤4∧a1t y.J L (.slice pL L.length cL)∧VP y.J c y.xs y.bs∧y.xs.length=y.k∧CU w0.heap.size 1 y.xs.length (y.xs.flatMap lvC) y.ga∧CU w0.heap.size 2 y.bs.length (y.bs.flatMap rlC) y.gb) (fun y=>4-y.k) (fun y=>[(0,.slice pL L.length cL),(1,u8 c),(6,gV y.xs.length y.ga),(7,gV y.bs.length y.gb),(8,i64 (y.k:Int))]) (fun y=>y.J) (fun y=>gH 28 (y.xs.flatMap lvC) y.ga++gH 97 (y.bs.flatMap rlC) y.gb) ⟨0,_,[],[],none,none⟩ ⟨aJ _,aJ _,hL,VP.nil,rfl,⟨rfl,rfl⟩,⟨rfl,rfl⟩⟩ rT rfl rfl ?_));rintro⟨k,_,xs,bs,ga,gb⟩ ⟨hk,au,hA,Z,a8,a2,a3⟩;dsimp only at hk au hA Z a8 a2 a3 ⊢;have b9:=Z.len;refine bW (Cj.sr (aB yP ?_));refine aB yP ?_;refine aB (AU eH) ?_;refine aB BM ?_;refine aB yP ?_;refine iJ 14 rfl (fun a0=>?_) (fun a0=>?_)
 rotate_left
 ·have ah:=of_decide_eq_false a0;refine zO 4 14 15 true a0 ?_;refine zO 4 14 16 true a0 ?_;refine aB (DV a0) ?_;refine J.c0 (fun _=>?_);refine dL (bI (bP (bJ (aQ (Cj.sr (aB yP ?_))))));refine aB yP ?_;refine aB yQ ?_;refine aB yQ ?_;refine J.ns (aX (iE a8Z dE a2 rfl (fun I8 O a9=>?_)));refine eU (H':=gH 97 (bs.flatMap rlC) gb++[]) (.of_eq (dQ _)) ?_;refine iE b4Q dE a3 rfl (fun I7 A aa=>?_);refine Ej.a0L rfl rfl rfl rfl ?_;exact⟨xs,bs,_,_,rfl,⟨a9.mono A,fun x hx=>((Z.lib x hx).mono O).mono A⟩,⟨aa,fun x hx=>((Z.ref x hx).mono O).mono A⟩,(Z.mono O).mono A,rfl⟩
 have ah:=zB a0;refine zU 4 14 true a0 (zK yP ?_);refine zU 4 14 true a0 (zK BM ?_);refine aB (DY a0) ?_;refine J.cd (fun ab=>?_) (fun ab=>?_)
 ·have ai:=zB ab;refine dS (aQ (bW (bV (bW ?_))));have ad:k<L.length:=oM;have b8:k<4:=oM;obtain⟨⟨rl,ra,rc⟩,a5⟩:∃r,L[k]?=some r:=⟨_,cO ad⟩;have ae:=List.mem_of_getElem? a5;have aj:TD rl:=ar _ ae;obtain⟨_,_,av,_,hp⟩:=id hA.1;cases av;obtain⟨_,fo,_,_,_,_,rfl,a4,af⟩:=hp (AX ad);have hx:QK _ rl (.slice ra rl.length rc):=hA.2 _ ae;have ba:rl.length≤rc:=by
   obtain⟨_,_,ak,aw,-⟩:=id hx.1;cases ak;exact aw
  refine fJ [] [] 13 kR ?_;have a7:=a4;refine bY BQ (fun G=>?_);refine aF 0 rfl G yP ?_;refine aF 1 rfl G yP ?_;refine aF 2 rfl G (BG (off':=fo+k) eH iL) ?_;refine aF 3 rfl G (EN iT (yR.TN a7) (XG af a5)) ?_;refine fZ 23 rfl (show _= .slice ra rl.length rc from rfl) ?_;refine aF 4 rfl G yP ?_;refine aF 5 rfl G yP ?_;refine aF 6 rfl G (BG (off':=fo+k) eH iL) ?_;refine aF 7 rfl G (EN iT (yR.TN a7) (XG af a5)) ?_;refine fZ 27 rfl (show _= .slice ra rl.length rc from rfl) ?_;refine aF 8 rfl G (AU gI) ?_;refine aF 9 rfl G (LV rfl rfl rfl) ?_;refine aF 10 rfl G (LG (k:=(min rl.length 8)) rfl rfl rfl gI Tryz.sizeOf85 (by split<;>omega) oM) ?_;refine zT 11 rfl (yS (H1:=[]) rfl rfl rfl rfl rfl (a2Y (rl.take 8) _ (fun x9 ax=>aj x9 (dP ax)) _ hx.take8) ?_ (fun _ _ _ _ ⟨_,_,h,_⟩=>by cases h) (fun _ _ ⟨_,_,h,_⟩=>by cases h));intro _ _ _ A ay;have hA:=hA.mono A;have Z:=Z.mono A;have a4:=A _ _ a4;have hx:=hx.mono A;obtain⟨es,_,h,hE,az,ag,_,rfl⟩:=ay;cases h;have al:=b1c az;obtain⟨pe,ce,b0,_,-⟩:=id hE.1;subst b0;refine⟨⟨(gY (aI _) A),aS,aT⟩,?_⟩;refine bY ⟨aS,aT,(gY (aI _) A)⟩ (fun b1=>?_);refine aF 12 rfl b1 yQ ?_;refine AL ?_;refine aQ (bW (Cj.sr (aB yP ?_)));refine aB yP ?_;refine aB (c4W rfl rfl rfl) ?_;refine aB (c6V rfl rfl rfl) ?_;refine aB BO ?_;refine J.eqv 36 rfl (show _= .bool (c7n c k) from rfl) ?_;refine J.cd (fun a6=>?_) (fun a6=>?_)
  ·have ac:=zC a6;refine Cj.sr (aB yP ?_);refine aH rfl (AZ aY dZ dG (CG.one rfl bC) ?_);intro _ _;refine J.perm (H':=[_]++(gH _ _ _++gH _ _ _)) (NV [_] _ _) ?_;refine aH rfl (BJ (by':=7) ([_]++gH _ _ _) rfl rfl rfl rfl rfl aY (.inr ⟨_,aY⟩) kR dZ dG rfl a2 rfl (bZ (yR.at 0 rfl) rfl rfl rfl) oM ?_);intro b2 am;refine aB yP ?_;refine aB (zV (pl:= #[(0,1),(1,1)]) rfl rfl bG rfl gJ (fun w=>by simp[iM,iU]) (bD rfl rfl rfl (bF (aG aP)) dK)) ?_;refine aH rfl (AZ aZ eF bG (fA rfl bC) ?_);intro _ _;refine J.perm (H':=[_,_]++(gH _ _ _++gH _ _ _)) (NV [_,_] _ _) ?_;refine aH rfl (BJ (by':=31) ([_,_]++gH _ _ _) rfl rfl rfl rfl rfl aZ (.inr ⟨_,aZ⟩) kR eF bG rfl a3 rfl (bZ (yR.at 0 rfl) rfl rfl rfl) oM ?_);intro b3 an;refine aB yQ ?_;refine aB yQ ?_;refine J.ns (dL (bI (bJ (aQ (aN (aB yP ?_))))));refine aB (yZ rfl rfl rfl (AA oM)) ?_;refine aB yQ ?_;refine J.nil (fG (aO (aO dU)) ?_);refine fB ⟨k+1,_,xs++[(.pointer none,none)],bs++[⟨[],.slice none 0 0,true⟩],b2,b3⟩ ⟨dO,dO,hA,Z.snoc (r:=⟨[],.slice none 0 0,true⟩) (.inl rT) OM.nil ⟨fun _=>rfl,fun h=>(by cases h)⟩ oM,by dsimp only;rw[aA,a8];rfl,by dsimp only;rw[KA,aA];exact am,by dsimp only;rw[KA,aA];exact an⟩ dO ⟨rfl,rfl,by dsimp only;rw[aA];rfl,by dsimp only;rw[aA];rfl,rfl,trivial⟩ rfl (by dsimp only;rw[KA,KA];rfl)
  have ac:=zA a6;refine dS (aQ (aN (aB yP ?_)));refine aB yP ?_;refine aH rfl (yS (H1:=[]) rfl rfl rfl rfl rfl (UJ es _ oM ag _ hE) ?_ (fun _ _ _ _ ⟨_,h,_⟩=>by cases h) (fun _ _ ⟨_,h,_⟩=>by cases h));intro _ _ _ a1 ao;have hA:=hA.mono a1;have Z:=Z.mono a1;have a4:=a1 _ _ a4;have hx:=hx.mono a1;have hE:=hE.mono a1;obtain⟨b4,h,b5,rfl⟩:=ao;cases h;refine aH rfl (AZ aY dZ dG (CG.one rfl bC) ?_);intro _ _;refine J.perm (H':=[_]++(gH _ _ _++gH _ _ _)) (NV [_] _ _) ?_;refine aH rfl (BJ (by':=7) ([_]++gH _ _ _) rfl rfl rfl rfl rfl aY (.inr ⟨_,aY⟩) kR dZ dG rfl a2 rfl (bZ (yR.at 0 rfl) rfl rfl rfl) oM ?_);intro b6 ap;refine aB yP ?_;refine aB yP ?_;refine aB (zV (pl:= #[(0,1),(1,1)]) rfl rfl bG rfl gJ (fun w=>by simp[iM,iU]) (bD rfl rfl rfl (aG aP) dK)) ?_;refine aH rfl (AZ aZ eF bG (fA rfl bC) ?_);intro _ _;refine J.perm (H':=[_,_]++(gH _ _ _++gH _ _ _)) (NV [_,_] _ _) ?_;refine aH rfl (BJ (by':=31) ([_,_]++gH _ _ _) rfl rfl rfl rfl rfl aZ (.inr ⟨_,aZ⟩) kR eF bG rfl a3 rfl (bZ (yR.at 0 rfl) rfl rfl rfl) oM ?_);intro b7 aq;refine aB yQ ?_;refine aB yQ ?_;refine J.nil (dN (aQ (aN (aB yP ?_))));refine aB (yZ rfl rfl rfl (AA oM)) ?_;refine aB yQ ?_;refine J.nil (fG (aO (aO dU)) ?_);refine fB ⟨k+1,_,xs++[(ptr b4 0,some (iQ (es.map JB)))],bs++[⟨es,.slice pe es.length ce,false⟩],b6,b7⟩ ⟨dO,dO,hA,Z.snoc (r:=⟨es,.slice pe es.length ce,false⟩) (.inr ⟨_,_,rfl,rfl,b5⟩) hE ⟨fun h=>(by cases h),fun _=>⟨rfl,al,ag⟩⟩ oM,by dsimp only;rw[aA,a8];rfl,by dsimp only;rw[KA,aA];exact ap,by dsimp only;rw[KA,aA];exact aq⟩ dO ⟨rfl,rfl,by dsimp only;rw[aA];rfl,by dsimp only;rw[aA];rfl,rfl,trivial⟩ rfl (by dsimp only;rw[KA,KA];rfl)
 have ai:=of_decide_eq_false ab;refine dL (bI (bP (bJ (aQ (Cj.sr (aB yP ?_))))));refine aB yP ?_;refine aB yQ ?_;refine aB yQ ?_;refine J.ns (aX (iE a8Z dE a2 rfl (fun I8 O a9=>?_)));refine eU (H':=gH 97 (bs.flatMap rlC) gb++[]) (.of_eq (dQ _)) ?_;refine iE b4Q dE a3 rfl (fun I7 A aa=>?_);refine Ej.a0L rfl rfl rfl rfl ?_;exact⟨xs,bs,_,_,rfl,⟨a9.mono A,fun x hx=>((Z.lib x hx).mono O).mono A⟩,⟨aa,fun x hx=>((Z.ref x hx).mono O).mono A⟩,(Z.mono O).mono A,rfl⟩
