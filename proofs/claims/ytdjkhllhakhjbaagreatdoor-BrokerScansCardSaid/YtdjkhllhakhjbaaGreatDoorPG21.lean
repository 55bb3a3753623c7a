/-
  Own texts on the laws of the seat, joined: the logic, and contracts of functions. Conditions: none.
-/
import Derived.Test.YtdjkhllhakhjbaaGreatDoorNmG
import Derived.Test.YtdjkhllhakhjbaaGreatDoorPG20
import Derived.Test.YtdjkhllhakhjbaaGreatDoorCards
import Derived.Test.YtdjkhllhakhjbaaGreatDoorTie
import Derived.ProofKit
import Derived.OpenShut
import Derived.Lay
import Derived.Deep.DeepHandedRow
import Derived.WideKeyArr2
import Derived.Carry
import Derived.Lib.LaidU8T
import Derived.Lib.LaidU8
set_option linter.all false
set_option maxRecDepth 100000
set_option maxHeartbeats 40000000
open Go.Proofs.Tryz renaming prog -> aA,lays157_ren -> bZ,lays157 -> dX
open Nat renaming le_of_ble_eq_true -> aB,le_refl -> aC,zero_le -> aW
open Go.Sx.KP renaming part -> aF,none -> aV
open Go.Sx.EW renaming c -> aG,z -> aN,s -> aP
open Go.Sx.J renaming z -> aH,persist -> aK,op -> aT,KY -> bU,eqv -> dA
open Go.Proofs.YtdjkhllhakhjbaaGreatDoor.Rows renaming uptoBulk -> aI,laid_unicode_utf8_acceptRanges -> bF,laid_unicode_White_Space -> bI,laid_strings_asciiSpace -> bJ,laid_unicode_utf8_first -> bK,uptoBulkAll -> eP
open Go.Sx.IC renaming none -> aJ,one -> aO,agg -> aU
open List renaming mem_singleton -> aQ,mem_cons -> aS,sum_cons -> aZ,not_mem_nil -> bV,length_take -> bY,mem_of_mem_take -> dJ,map_cons -> dQ,getElem?_range -> dR,drop_succ_cons -> dS,take_succ_cons -> dU,getElem?_take -> dW,getElem?_map -> eF,length_range -> eG,drop_zero -> fA,take_zero -> fB,sum_nil -> fD,map_map -> fE
open Bk renaming bk -> aX,Ln -> aY,c1z -> bM,LA -> bQ,a2a -> bT,K1 -> dI,a6X -> dK,a7d -> dL,a6B -> dM,IL -> dV,LB -> dY,b0t -> dZ
open Go.Value renaming bool -> bC,okWide -> bH,cells -> fG
open Go.DataW renaming Trod -> bD,trodStep -> dG,trod -> dN,TrodAll -> fC
open Go.World renaming laidAll -> bG,cell? -> dF,cell?_of_block -> dP
open Option.some renaming injEq -> bP,inj -> eX
open Prod renaming fst -> bW,snd -> dH
open Go.Input renaming okWide_of_okWideB -> cO
open Option renaming bind_eq_some_iff -> cZ,map_eq_some_iff -> dD,map_some -> eU
open Go.Proofs.YtdjkhllhakhjbaaGreatDoor.Fv renaming f -> dB
open Cq renaming parse -> eH
open List.cons renaming injEq -> eY
open Go.Addr renaming add_lit -> fF
namespace Go.Proofs.YtdjkhllhakhjbaaGreatDoor
open _root_.Go.Proofs.Tryz
open Go Go.Sx
theorem b7I{t a}(N:t.length≤1000)(O:a.length≤1000) h A:EOK (aX t a h A):=by
 have G:∀f∈aX t a h A,f=Bk.bkT t h∨f=Bk.bkA a A:=fun f hf=>by
  unfold aX at hf
  split at hf<;>simp only[aS,bV,or_false]at hf
  ·exact hf
  exact .inl hf
 refine⟨?_,fun f hf=>?_⟩
 ·unfold aX;split<;>exact aB rfl
 rcases G f hf with rfl|rfl
 ·refine⟨(dE:1≤1000),?_,(dE:2≤2000000)⟩;show([t.length]:List Nat).sum≤_;simp only[aZ,fD];omega
 refine⟨(dE:1≤1000),?_,(dE:2≤2000000)⟩;show([a.length]:List Nat).sum≤_;simp only[aZ,fD];omega
theorem c1u{I b T x y}(h:QS I x.fs x.v)(A:QS I y.fs y.v)(G:I b=some (yZ T (a0S x++a0S y))):YM I [x,y] (.slice (some ⟨b,0,none⟩) 2 2):=⟨zN.of (l:=[x,y]) (sp:=[]) (aC _) G,fun z hz=>by
 rcases aS.1 hz with g|g
 ·rw[g];exact h
 rw[aQ.1 g];exact A⟩
theorem c1Z{I b T x}(h:QS I x.fs x.v)(A:I b=some (yZ T (a0S x))):YM I [x] (.slice (some ⟨b,0,none⟩) 1 1):=⟨zN.of (l:=[x]) (sp:=[]) (aC _) (by rw[A];rfl),fun z hz=>by rw[aQ.1 hz];exact h⟩
theorem c2s{I b T la lb x y}(h:a0A I la x)(A:a0A I lb y)(G:I b=some (yZ T [ptr la 0,ptr lb 0])):a1A I [(ptr la 0,some x),(ptr lb 0,some y)] (.slice (some ⟨b,0,none⟩) 2 2):=⟨zN.of (l:=[(ptr la 0,some x),(ptr lb 0,some y)]) (sp:=[]) (aC _) G,fun z hz=>by
 rcases aS.1 hz with g|g
 ·rw[g];exact .inr ⟨la,x,rfl,rfl,h⟩
 rw[aQ.1 g];exact .inr ⟨lb,y,rfl,rfl,A⟩⟩
theorem c3b{I b T la x}(h:a0A I la x)(A:I b=some (yZ T [ptr la 0,.pointer none])):a1A I [(ptr la 0,some x),(.pointer none,none)] (.slice (some ⟨b,0,none⟩) 2 2):=⟨zN.of (l:=[(ptr la 0,some x),(.pointer none,none)]) (sp:=[]) (aC _) A,fun z hz=>by
 rcases aS.1 hz with g|g
 ·rw[g];exact .inr ⟨la,x,rfl,rfl,h⟩
 rw[aQ.1 g];exact .inl rT⟩
theorem b5W{p A G S r}(hl:S.length=2)(N:QM p [A,G] S)(O:dV (flt dB (S.map bW)) r):∃Q Z f2 e2,Bk.ans p A 0 Q Z∧Bk.ans p G 1 f2 e2∧dV (Q++f2) r∧S.map dH=[Z,e2]:=by
 match S,hl with
 |[x,y],_=>
  obtain⟨o,h,ha⟩:=N 0 x rfl;cases h;obtain⟨o,h,hb⟩:=N 1 y rfl;cases h;have e:flt dB ([x,y].map bW)=x.1.l.map dB++(y.1.l.map dB++[]):=rfl;rw[e,List.append_nil]at O;exact⟨_,_,_,_,ha,hb,O,rfl⟩
theorem c5a{S r}(h:S.length=2)(A:QM (eH Bk.s1) [some bQ,some dY] S)(G:dV (flt dB (S.map bW)) r):r=[⟨(1,1),dI,[0,1]⟩]∧S.map dH=[0,0]:=by
 obtain⟨_,_,_,_,N,O,Q,Z⟩:=b5W h A G;obtain⟨rfl,rfl⟩:=bM N Bk.p1 Bk.rA1 Bk.fA1;obtain⟨rfl,rfl⟩:=bM O Bk.p1 Bk.rB1 Bk.fB1;exact⟨Bk.m1 Q,Z⟩
theorem c5l{S r}(h:S.length=2)(A:QM (eH Bk.s2) [some bQ,some dY] S)(G:dV (flt dB (S.map bW)) r):r=[⟨(1,2),Bk.K2,[0]⟩]∧S.map dH=[0,0]:=by
 obtain⟨_,_,_,_,N,O,Q,Z⟩:=b5W h A G;obtain⟨rfl,rfl⟩:=bM N Bk.p2 Bk.rA2 Bk.fA2;obtain⟨rfl,rfl⟩:=bM O Bk.p2 Bk.rB2 (gs:=[]) rfl;exact⟨Bk.m2 Q,Z⟩
theorem c4Y{S r}(h:S.length=2)(A:QM (eH Bk.s3) [some bQ,some dY] S)(G:dV (flt dB (S.map bW)) r):r=[]∧S.map dH=[40,40]:=by
 obtain⟨_,_,_,_,N,O,Q,Z⟩:=b5W h A G;obtain⟨rfl,rfl⟩:=Bk.b3V N Bk.p3;obtain⟨rfl,rfl⟩:=Bk.b3V O Bk.p3;exact⟨Bk.m3 Q,Z⟩
theorem c5g{S r}(h:S.length=2)(A:QM (eH Bk.s4) [some bQ,none] S)(G:dV (flt dB (S.map bW)) r):r=[⟨(1,1),dI,[0]⟩]∧S.map dH=[0,32]:=by
 obtain⟨_,_,_,_,N,O,Q,Z⟩:=b5W h A G;obtain⟨rfl,rfl⟩:=bM N Bk.p4 Bk.rA4 Bk.fA1;obtain⟨rfl,rfl⟩:=Bk.c1r O Bk.p4;exact⟨Bk.m4 Q,Z⟩
theorem b4R{I}{r:List Fv}{l}(h:r.map dB=l)(A:∀z∈r,ZF I z)(G:∀f∈l,f.p.length≤1000000000) n:∀z∈r.take n,RN I z∧z.f.p.length≤1000000000:=fun z hz=>⟨(A z (dJ hz)).1,G _ (h▸List.mem_map_of_mem (dJ hz))⟩
theorem b1G{r:List Fv}{l}(h:r.map dB=l){m}(A:l.take 10=m):(r.take 10).map dB=m:=by rw[List.map_take,h,A]
theorem a7Z{I z}(h:zN FI I z.f.p z.v):∀y∈[z],RN I y:=fun y A=>by rw[aQ.1 A];exact h
theorem c3Q{I b T x y}(h:zN AX I x.l x.v)(A:zN AX I y.l y.v)(G:I b=some (yZ T [x.v,y.v])):TW I [x,y] (.slice (some ⟨b,0,none⟩) 2 2):=⟨zN.of (l:=[x,y]) (sp:=[]) (aC _) G,fun z hz=>by
 rcases aS.1 hz with g|g
 ·rw[g];exact h
 rw[aQ.1 g];exact A⟩
theorem a1i I (hT:LZ I)(ht:Tabs I):Pure aA 7 [] I (.bool true):=by
 refine yS.toPure ?_;refine yS.ob func7 ?_;intro w0 _;refine Cj.sr (aH yQ ?_);refine J.yX (aT rfl (yT (H1:=[]) rfl rfl rfl rfl rfl (a7M 1 1 dK bT _) ?_ (fun _ _ _ _ ⟨_,_,_,h,_⟩=>by cases h) (fun _ _ ⟨_,_,_,h,_⟩=>by cases h)));intro _ _ _ cf du;have hT:=hT.mono cf;have ht:=ht.mono cf;obtain⟨_,ua,xa,h,a9,rfl⟩:=du;cases h;obtain⟨pa,ca,rfl⟩:=rowLen a9.1;refine aT rfl (yT (H1:=[]) rfl rfl rfl rfl rfl (a7M 1 2 dZ [] _) ?_ (fun _ _ _ _ ⟨_,_,_,h,_⟩=>by cases h) (fun _ _ ⟨_,_,_,h,_⟩=>by cases h));intro _ _ _ c6 cz;have hT:=hT.mono c6;have ht:=ht.mono c6;have a9:=a9.mono c6;obtain⟨wb,ub,xb,h,ac,rfl⟩:=cz;cases h;obtain⟨pb,cb,rfl⟩:=rowLen ac.1;refine aT rfl (BQ a8k YG a6f (aU rfl (aU rfl aJ)) ?_);intro dv d0;refine aK d0 (fun _ c3 O=>?_);have hT:=hT.mono c3;have ht:=ht.mono c3;have a9:=a9.mono c3;have ac:=ac.mono c3;have ah:YM _ [(⟨(1,1),0,0,.slice pa (aX dK bT ua xa).length ca,aX dK bT ua xa⟩:Ent),(⟨(1,2),0,0,.slice pb (aX dZ [] ub xb).length cb,aX dZ [] ub xb⟩:Ent)] (.slice (some ⟨dv,0,none⟩) 2 2):=c1u a9 ac O;refine aT rfl (yT (H1:=[]) rfl rfl rfl rfl rfl (a8V [(⟨(1,1),0,0,.slice pa (aX dK bT ua xa).length ca,aX dK bT ua xa⟩:Ent),(⟨(1,2),0,0,.slice pb (aX dZ [] ub xb).length cb,aX dZ [] ub xb⟩:Ent)] _ (aB rfl) (fun e he=>by simp only[aS,bV,or_false]at he;rcases he with rfl|rfl<;>(dsimp only;refine b7I ?_ ?_ _ _<;>exact aB rfl)) _ ah) ?_ (fun _ _ _ _ ⟨_,h,_⟩=>by cases h) (fun _ _ ⟨_,h,_⟩=>by cases h));intro _ _ _ bx d1;have hT:=hT.mono bx;have ht:=ht.mono bx;have a9:=a9.mono bx;have ac:=ac.mono bx;have O:=bx _ _ O;have ah:=ah.mono bx;obtain⟨la,h,ag,rfl⟩:=d1;cases h;replace ag:=Eq.mp (zD (a0A _ la) (Bk.c5k ua xa ub xb)) ag;refine aH yQ ?_;refine J.yX (aT rfl (yT (H1:=[]) rfl rfl rfl rfl rfl (a7M 2 7 dL dM _) ?_ (fun _ _ _ _ ⟨_,_,_,h,_⟩=>by cases h) (fun _ _ ⟨_,_,_,h,_⟩=>by cases h)));intro _ _ _ br d2;have hT:=hT.mono br;have ht:=ht.mono br;have a9:=a9.mono br;have ac:=ac.mono br;have O:=br _ _ O;have ah:=ah.mono br;have ag:=ag.mono br;obtain⟨_,uc,xc,h,ak,rfl⟩:=d2;cases h;obtain⟨pc,cc,rfl⟩:=rowLen ak.1;refine aT rfl (BQ a8k YG a6f (aU rfl aJ) ?_);intro dw d3;refine aK d3 (fun _ bq a0=>?_);have hT:=hT.mono bq;have ht:=ht.mono bq;have a9:=a9.mono bq;have ac:=ac.mono bq;have O:=bq _ _ O;have ah:=ah.mono bq;have ag:=ag.mono bq;have ak:=ak.mono bq;have am:YM _ [(⟨(2,7),0,0,.slice pc (aX dL dM uc xc).length cc,aX dL dM uc xc⟩:Ent)] (.slice (some ⟨dw,0,none⟩) 1 1):=c1Z ak a0;refine aT rfl (yT (H1:=[]) rfl rfl rfl rfl rfl (a8V [(⟨(2,7),0,0,.slice pc (aX dL dM uc xc).length cc,aX dL dM uc xc⟩:Ent)] _ (aB rfl) (fun e he=>by simp only[aS,bV,or_false]at he;subst he;dsimp only;refine b7I ?_ ?_ _ _<;>exact aB rfl) _ am) ?_ (fun _ _ _ _ ⟨_,h,_⟩=>by cases h) (fun _ _ ⟨_,h,_⟩=>by cases h));intro _ _ _ bn d4;have hT:=hT.mono bn;have ht:=ht.mono bn;have a9:=a9.mono bn;have ac:=ac.mono bn;have O:=bn _ _ O;have ah:=ah.mono bn;have ag:=ag.mono bn;have ak:=ak.mono bn;have a0:=bn _ _ a0;have am:=am.mono bn;obtain⟨lb,h,an,rfl⟩:=d4;cases h;replace an:=Eq.mp (zD (a0A _ lb) (Bk.c5b uc xc)) an;refine aH yQ ?_;refine J.yX (aH yP ?_);refine aH yP ?_;refine aT rfl (BQ underlying54 sizeOf45 zeroValue45 (aO rfl (aO rfl aJ)) ?_);intro dx d5;refine aK d5 (fun _ bj a3=>?_);have hT:=hT.mono bj;have ht:=ht.mono bj;have a9:=a9.mono bj;have ac:=ac.mono bj;have O:=bj _ _ O;have ah:=ah.mono bj;have ag:=ag.mono bj;have ak:=ak.mono bj;have a0:=bj _ _ a0;have am:=am.mono bj;have an:=an.mono bj;have ap:a1A _ [(ptr la 0,some bQ),(ptr lb 0,some dY)] (.slice (some ⟨dx,0,none⟩) 2 2):=c2s ag an a3;refine aH yQ ?_;refine J.yX (aH (BD (pl:= #[(0,1),(1,1)]) rfl rfl QU rfl XJ (fun w=>by simp[BO]) (aF rfl rfl rfl (aG aN) (aF rfl rfl rfl (aP (aG aN)) aV))) ?_);refine aT rfl (BQ ES BO MV (aO rfl (aO rfl aJ)) ?_);intro c8 d6;refine aK d6 (fun _ bf a5=>?_);have hT:=hT.mono bf;have ht:=ht.mono bf;have a9:=a9.mono bf;have ac:=ac.mono bf;have O:=bf _ _ O;have ah:=ah.mono bf;have ag:=ag.mono bf;have ak:=ak.mono bf;have a0:=bf _ _ a0;have am:=am.mono bf;have an:=an.mono bf;have a3:=bf _ _ a3;have ap:=ap.mono bf;have ad:zN FI _ ([0,1]:List Int) (.slice (some ⟨c8,0,none⟩) 2 2):=zN.of (l:=([0,1]:List Int)) (sp:=[]) (aC _) a5;refine aH (BD (pl:= #[(0,2),(2,1),(3,1)]) rfl rfl JZ rfl DT (fun w=>by simp[AL,EZ,zS]) (aF rfl rfl rfl (aG (aG aN)) (aF rfl rfl rfl (aP (aP (aG aN))) (aF rfl rfl rfl (aP (aP (aP (aG aN)))) aV)))) ?_;refine aT rfl (CU JZ ?_);intro _ _;refine aT rfl (AB 0 CV (aG (aG (aG (aG aN)))) DZ.z ?_);refine J.yX (aH yP ?_);refine aT rfl (yT (H1:=[]) rfl rfl rfl rfl rfl (a6o [(ptr la 0,some bQ),(ptr lb 0,some dY)] _ Bk.s1 10 dE ⟨by decide +kernel,by decide +kernel⟩ (aB rfl) _ ap hT ht) ?_ (fun _ _ _ _ ⟨_,_,_,_,h,_⟩=>by cases h) (fun _ _ ⟨_,_,_,_,h,_⟩=>by cases h));intro _ _ _ bb d7;have hT:=hT.mono bb;have ht:=ht.mono bb;have a9:=a9.mono bb;have ac:=ac.mono bb;have O:=bb _ _ O;have ah:=ah.mono bb;have ag:=ag.mono bb;have ak:=ak.mono bb;have a0:=bb _ _ a0;have am:=am.mono bb;have an:=an.mono bb;have a3:=bb _ _ a3;have ap:=ap.mono bb;have a5:=bb _ _ a5;have ad:=ad.mono bb;obtain⟨Sx,rx,_,_,h,bu,bv,bw,aw,ax,au,rfl⟩:=d7;cases h;obtain⟨cm,co⟩:=c5a bu bv bw;rw[co]at au;clear bu bv bw co;obtain⟨_,_,rfl⟩:=rowLen aw;obtain⟨_,_,rfl⟩:=rowLen au;refine aH yP ?_;refine aH AZ ?_;refine aH AZ ?_;refine aH yQ ?_;refine aH yQ ?_;refine J.yX (aH yP ?_);refine aT rfl (yT (H1:=[]) rfl rfl rfl rfl rfl (a6o [(ptr la 0,some bQ),(ptr lb 0,some dY)] _ Bk.s2 10 dE ⟨by decide +kernel,by decide +kernel⟩ (aB rfl) _ ap hT ht) ?_ (fun _ _ _ _ ⟨_,_,_,_,h,_⟩=>by cases h) (fun _ _ ⟨_,_,_,_,h,_⟩=>by cases h));intro _ _ _ b7 d8;have hT:=hT.mono b7;have ht:=ht.mono b7;have a9:=a9.mono b7;have ac:=ac.mono b7;have O:=b7 _ _ O;have ah:=ah.mono b7;have ag:=ag.mono b7;have ak:=ak.mono b7;have a0:=b7 _ _ a0;have am:=am.mono b7;have an:=an.mono b7;have a3:=b7 _ _ a3;have ap:=ap.mono b7;have a5:=b7 _ _ a5;have ad:=ad.mono b7;have aw:=aw.mono b7;have ax:=fun Q A=>(ax Q A).mono b7;have au:=au.mono b7;obtain⟨_,ry,_,_,h,bu,bv,bw,ay,b1,az,rfl⟩:=d8;cases h;obtain⟨cp,cq⟩:=c5l bu bv bw;rw[cq]at az;clear bu bv bw cq;obtain⟨_,_,rfl⟩:=rowLen ay;obtain⟨_,_,rfl⟩:=rowLen az;refine aH yP ?_;refine aH AZ ?_;refine aH AZ ?_;refine aH yQ ?_;refine aH yQ ?_;refine J.yX (aH yP ?_);refine aT rfl (yT (H1:=[]) rfl rfl rfl rfl rfl (a6o [(ptr la 0,some bQ),(ptr lb 0,some dY)] _ Bk.s3 10 dE ⟨by decide +kernel,by decide +kernel⟩ (aB rfl) _ ap hT ht) ?_ (fun _ _ _ _ ⟨_,_,_,_,h,_⟩=>by cases h) (fun _ _ ⟨_,_,_,_,h,_⟩=>by cases h));intro _ _ _ b0 d9;have hT:=hT.mono b0;have ht:=ht.mono b0;have a9:=a9.mono b0;have ac:=ac.mono b0;have O:=b0 _ _ O;have ah:=ah.mono b0;have ag:=ag.mono b0;have ak:=ak.mono b0;have a0:=b0 _ _ a0;have am:=am.mono b0;have an:=an.mono b0;have a3:=b0 _ _ a3;have ap:=ap.mono b0;have a5:=b0 _ _ a5;have ad:=ad.mono b0;have aw:=aw.mono b0;have ax:=fun Q A=>(ax Q A).mono b0;have au:=au.mono b0;have ay:=ay.mono b0;have b1:=fun Q A=>(b1 Q A).mono b0;have az:=az.mono b0;obtain⟨_,_,_,_,h,bu,bv,bw,b3,b4,b2,rfl⟩:=d9;cases h;obtain⟨dy,cr⟩:=c4Y bu bv bw;rw[cr]at b2;clear bu bv bw cr;obtain rfl:=List.map_eq_nil_iff.1 dy;obtain⟨_,_,rfl⟩:=rowLen b3;obtain⟨_,_,rfl⟩:=rowLen b2;refine aH yP ?_;refine aH AZ ?_;refine aH AZ ?_;refine aH yQ ?_;refine aH yQ ?_;refine J.yX (aH yP ?_);refine aT rfl (BQ underlying54 sizeOf45 zeroValue45 (aO rfl (aO rfl aJ)) ?_);intro dz da;refine aK da (fun _ ar ae=>?_);have hT:=hT.mono ar;have ht:=ht.mono ar;have a9:=a9.mono ar;have ac:=ac.mono ar;have O:=ar _ _ O;have ah:=ah.mono ar;have ag:=ag.mono ar;have ak:=ak.mono ar;have a0:=ar _ _ a0;have am:=am.mono ar;have an:=an.mono ar;have a3:=ar _ _ a3;have ap:=ap.mono ar;have a5:=ar _ _ a5;have ad:=ad.mono ar;have aw:=aw.mono ar;have ax:=fun Q A=>(ax Q A).mono ar;have au:=au.mono ar;have ay:=ay.mono ar;have b1:=fun Q A=>(b1 Q A).mono ar;have az:=az.mono ar;have b3:=b3.mono ar;have b4:=fun Q A=>(b4 Q A).mono ar;have b2:=b2.mono ar;have b5:a1A _ [(ptr la 0,some bQ),(.pointer none,none)] (.slice (some ⟨dz,0,none⟩) 2 2):=c3b ag ae;refine aT rfl (yT (H1:=[]) rfl rfl rfl rfl rfl (a6o [(ptr la 0,some bQ),(.pointer none,none)] _ Bk.s4 10 dE ⟨by decide +kernel,by decide +kernel⟩ (aB rfl) _ b5 hT ht) ?_ (fun _ _ _ _ ⟨_,_,_,_,h,_⟩=>by cases h) (fun _ _ ⟨_,_,_,_,h,_⟩=>by cases h));intro _ _ _ ao db;have hT:=hT.mono ao;have ht:=ht.mono ao;have a9:=a9.mono ao;have ac:=ac.mono ao;have O:=ao _ _ O;have ah:=ah.mono ao;have ag:=ag.mono ao;have ak:=ak.mono ao;have a0:=ao _ _ a0;have am:=am.mono ao;have an:=an.mono ao;have a3:=ao _ _ a3;have ap:=ap.mono ao;have a5:=ao _ _ a5;have ad:=ad.mono ao;have aw:=aw.mono ao;have ax:=fun Q A=>(ax Q A).mono ao;have au:=au.mono ao;have ay:=ay.mono ao;have b1:=fun Q A=>(b1 Q A).mono ao;have az:=az.mono ao;have b3:=b3.mono ao;have b4:=fun Q A=>(b4 Q A).mono ao;have b2:=b2.mono ao;have ae:=ao _ _ ae;have b5:=b5.mono ao;obtain⟨_,rv,_,ev,h,bu,bv,bw,b8,b9,b6,rfl⟩:=db;cases h;obtain⟨ct,cu⟩:=c5g bu bv bw;rw[cu]at b6;clear bu bv bw cu;obtain⟨_,cv,rfl⟩:=rowLen b8;obtain⟨_,_,rfl⟩:=rowLen b6;refine aH yP ?_;refine aH AZ ?_;refine aH AZ ?_;refine aH yQ ?_;refine aH yQ ?_;refine J.yX (aH (BD (pl:= #[(0,1),(1,1)]) rfl rfl GL rfl LY (fun w=>by simp[BO,zS]) (aF rfl rfl rfl (aG aN) (aF rfl rfl rfl (aP (aG aN)) aV))) ?_);refine aH (BD (pl:= #[(0,1),(1,1)]) rfl rfl GL rfl LY (fun w=>by simp[BO,zS]) (aF rfl rfl rfl (aG aN) (aF rfl rfl rfl (aP (aG aN)) aV))) ?_;refine aT rfl (BQ CP CQ GL (aU rfl (aU rfl aJ)) ?_);intro cx dc;refine aH (BD (pl:= #[(0,1),(1,1)]) rfl rfl GL rfl LY (fun w=>by simp[BO,zS]) (aF rfl rfl rfl (aG aN) (aF rfl rfl rfl (aP (aG aN)) aV))) ?_;refine aH (BD (pl:= #[(0,1),(1,1)]) rfl rfl GL rfl LY (fun w=>by simp[BO,zS]) (aF rfl rfl rfl (aG aN) (aF rfl rfl rfl (aP (aG aN)) aV))) ?_;refine aT rfl (BQ CP CQ GL (aU rfl (aU rfl aJ)) ?_);intro cy dd;refine aT rfl (BQ TV a0H zeroValue39 (aO rfl (aO rfl aJ)) ?_);intro e0 de;refine J.pull (Pull.s (Pull.s Pull.z)) ?_;refine aK dc (fun _ aj al=>?_);have hT:=hT.mono aj;have ht:=ht.mono aj;have a9:=a9.mono aj;have ac:=ac.mono aj;have O:=aj _ _ O;have ah:=ah.mono aj;have ag:=ag.mono aj;have ak:=ak.mono aj;have a0:=aj _ _ a0;have am:=am.mono aj;have an:=an.mono aj;have a3:=aj _ _ a3;have ap:=ap.mono aj;have a5:=aj _ _ a5;have ad:=ad.mono aj;have aw:=aw.mono aj;have ax:=fun Q A=>(ax Q A).mono aj;have au:=au.mono aj;have ay:=ay.mono aj;have b1:=fun Q A=>(b1 Q A).mono aj;have az:=az.mono aj;have b3:=b3.mono aj;have b4:=fun Q A=>(b4 Q A).mono aj;have b2:=b2.mono aj;have ae:=aj _ _ ae;have b5:=b5.mono aj;have b8:=b8.mono aj;have b9:=fun Q A=>(b9 Q A).mono aj;have b6:=b6.mono aj;refine J.pull (Pull.s Pull.z) ?_;refine aK dd (fun _ ai aq=>?_);have hT:=hT.mono ai;have ht:=ht.mono ai;have a9:=a9.mono ai;have ac:=ac.mono ai;have O:=ai _ _ O;have ah:=ah.mono ai;have ag:=ag.mono ai;have ak:=ak.mono ai;have a0:=ai _ _ a0;have am:=am.mono ai;have an:=an.mono ai;have a3:=ai _ _ a3;have ap:=ap.mono ai;have a5:=ai _ _ a5;have ad:=ad.mono ai;have aw:=aw.mono ai;have ax:=fun Q A=>(ax Q A).mono ai;have au:=au.mono ai;have ay:=ay.mono ai;have b1:=fun Q A=>(b1 Q A).mono ai;have az:=az.mono ai;have b3:=b3.mono ai;have b4:=fun Q A=>(b4 Q A).mono ai;have b2:=b2.mono ai;have ae:=ai _ _ ae;have b5:=b5.mono ai;have b8:=b8.mono ai;have b9:=fun Q A=>(b9 Q A).mono ai;have b6:=b6.mono ai;have al:=ai _ _ al;refine aK de (fun _ af av=>?_);have hT:=hT.mono af;have ht:=ht.mono af;have a9:=a9.mono af;have ac:=ac.mono af;have O:=af _ _ O;have ah:=ah.mono af;have ag:=ag.mono af;have ak:=ak.mono af;have a0:=af _ _ a0;have am:=am.mono af;have an:=an.mono af;have a3:=af _ _ a3;have ap:=ap.mono af;have a5:=af _ _ a5;have ad:=ad.mono af;have aw:=aw.mono af;have ax:=fun Q A=>(ax Q A).mono af;have au:=au.mono af;have ay:=ay.mono af;have b1:=fun Q A=>(b1 Q A).mono af;have az:=az.mono af;have b3:=b3.mono af;have b4:=fun Q A=>(b4 Q A).mono af;have b2:=b2.mono af;have ae:=af _ _ ae;have b5:=b5.mono af;have b8:=b8.mono af;have b9:=fun Q A=>(b9 Q A).mono af;have b6:=b6.mono af;have al:=af _ _ al;have aq:=af _ _ aq;have bd:TW _ [(⟨([([97],1),([99],2)]:List aY),some ⟨cx,0,none⟩,2⟩:Rw aY),(⟨([([97],3),([98],1)]:List aY),some ⟨cy,0,none⟩,2⟩:Rw aY)] (.slice (some ⟨e0,0,none⟩) 2 2):=c3Q (zN.of (l:=([([97],1),([99],2)]:List aY)) (sp:=[]) (aC _) al) (zN.of (l:=([([97],3),([98],1)]:List aY)) (sp:=[]) (aC _) aq) av;refine aT rfl (EX rfl rfl rfl rfl rfl (a0v [(⟨([([97],1),([99],2)]:List aY),some ⟨cx,0,none⟩,2⟩:Rw aY),(⟨([([97],3),([98],1)]:List aY),some ⟨cy,0,none⟩,2⟩:Rw aY)] _ 2 (aB rfl) (aB rfl) _ bd) ?_ (fun _ _ _ _ ⟨_,h,_⟩=>by cases h) (fun _ _ ⟨_,h,_⟩=>by cases h));intro _ _ _ aa df dg;have hT:=hT.mono aa;have ht:=ht.mono aa;have a9:=a9.mono aa;have ac:=ac.mono aa;have O:=aa _ _ O;have ah:=ah.mono aa;have ag:=ag.mono aa;have ak:=ak.mono aa;have a0:=aa _ _ a0;have am:=am.mono aa;have an:=an.mono aa;have a3:=aa _ _ a3;have ap:=ap.mono aa;have a5:=aa _ _ a5;have ad:=ad.mono aa;have aw:=aw.mono aa;have ax:=fun Q A=>(ax Q A).mono aa;have au:=au.mono aa;have ay:=ay.mono aa;have b1:=fun Q A=>(b1 Q A).mono aa;have az:=az.mono aa;have b3:=b3.mono aa;have b4:=fun Q A=>(b4 Q A).mono aa;have b2:=b2.mono aa;have ae:=aa _ _ ae;have b5:=b5.mono aa;have b8:=b8.mono aa;have b9:=fun Q A=>(b9 Q A).mono aa;have b6:=b6.mono aa;have al:=aa _ _ al;have aq:=aa _ _ aq;have av:=aa _ _ av;have bd:=bd.mono aa;obtain⟨_,h,dh⟩:=dg;cases h;refine J.a4y dh df (fun _ ab bh=>?_);have hT:=hT.mono ab;have ht:=ht.mono ab;have a9:=a9.mono ab;have ac:=ac.mono ab;have O:=ab _ _ O;have ah:=ah.mono ab;have ag:=ag.mono ab;have ak:=ak.mono ab;have a0:=ab _ _ a0;have am:=am.mono ab;have an:=an.mono ab;have a3:=ab _ _ a3;have ap:=ap.mono ab;have a5:=ab _ _ a5;have ad:=ad.mono ab;have aw:=aw.mono ab;have ax:=fun Q A=>(ax Q A).mono ab;have au:=au.mono ab;have ay:=ay.mono ab;have b1:=fun Q A=>(b1 Q A).mono ab;have az:=az.mono ab;have b3:=b3.mono ab;have b4:=fun Q A=>(b4 Q A).mono ab;have b2:=b2.mono ab;have ae:=ab _ _ ae;have b5:=b5.mono ab;have b8:=b8.mono ab;have b9:=fun Q A=>(b9 Q A).mono ab;have b6:=b6.mono ab;have al:=ab _ _ al;have aq:=ab _ _ aq;have av:=ab _ _ av;have bd:=bd.mono ab;replace bh:zN AX _ [([97],4),([98],1)] _:=Bk.sc1▸bh.row;obtain⟨_,_,rfl⟩:=rowLen bh;refine aH yQ ?_;refine J.zX (Cj.region (aH yP ?_));refine aH (zW LX CV (yR.at 0 rfl)) ?_;refine aT rfl (BQ EI CV JZ (aU rfl aJ) ?_);intro e1 di;refine aK di (fun _ a8 ba=>?_);have hT:=hT.mono a8;have ht:=ht.mono a8;have a9:=a9.mono a8;have ac:=ac.mono a8;have O:=a8 _ _ O;have ah:=ah.mono a8;have ag:=ag.mono a8;have ak:=ak.mono a8;have a0:=a8 _ _ a0;have am:=am.mono a8;have an:=an.mono a8;have a3:=a8 _ _ a3;have ap:=ap.mono a8;have a5:=a8 _ _ a5;have ad:=ad.mono a8;have aw:=aw.mono a8;have ax:=fun Q A=>(ax Q A).mono a8;have au:=au.mono a8;have ay:=ay.mono a8;have b1:=fun Q A=>(b1 Q A).mono a8;have az:=az.mono a8;have b3:=b3.mono a8;have b4:=fun Q A=>(b4 Q A).mono a8;have b2:=b2.mono a8;have ae:=a8 _ _ ae;have b5:=b5.mono a8;have b8:=b8.mono a8;have b9:=fun Q A=>(b9 Q A).mono a8;have b6:=b6.mono a8;have al:=a8 _ _ al;have aq:=a8 _ _ aq;have av:=a8 _ _ av;have bd:=bd.mono a8;have bh:=bh.mono a8;have be:zN CY _ [(⟨⟨(1,1),dI,[0,1]⟩,some ⟨c8,0,none⟩,2⟩:Fv)] (.slice (some ⟨e1,0,none⟩) 1 1):=zN.of (l:=[(⟨⟨(1,1),dI,[0,1]⟩,some ⟨c8,0,none⟩,2⟩:Fv)]) (sp:=[]) (aC _) ba;refine aT rfl (yU rfl rfl rfl rfl rfl (VE (rx.take 10) [(⟨⟨(1,1),dI,[0,1]⟩,some ⟨c8,0,none⟩,2⟩:Fv)] _ _ (by rw[bY];omega) _ aw be (b4R cm ax dE 10) (a7Z ad)) ?_);refine dA 59 rfl (show _= .bool true from(zD bC (zI (b1G cm rfl)))) ?_;refine aH (ER rfl rfl) ?_;refine aH yP ?_;refine zU 5 61 false (zD not rfl) (zK yP ?_);refine zU 5 61 false (zD not rfl) (BQ a0I a0Q a7J (aO rfl (aO rfl aJ)) ?_);intro e2 dj;refine aK dj (fun _ a7 bc=>?_);have hT:=hT.mono a7;have ht:=ht.mono a7;have a9:=a9.mono a7;have ac:=ac.mono a7;have O:=a7 _ _ O;have ah:=ah.mono a7;have ag:=ag.mono a7;have ak:=ak.mono a7;have a0:=a7 _ _ a0;have am:=am.mono a7;have an:=an.mono a7;have a3:=a7 _ _ a3;have ap:=ap.mono a7;have a5:=a7 _ _ a5;have ad:=ad.mono a7;have aw:=aw.mono a7;have ax:=fun Q A=>(ax Q A).mono a7;have au:=au.mono a7;have ay:=ay.mono a7;have b1:=fun Q A=>(b1 Q A).mono a7;have az:=az.mono a7;have b3:=b3.mono a7;have b4:=fun Q A=>(b4 Q A).mono a7;have b2:=b2.mono a7;have ae:=a7 _ _ ae;have b5:=b5.mono a7;have b8:=b8.mono a7;have b9:=fun Q A=>(b9 Q A).mono a7;have b6:=b6.mono a7;have al:=a7 _ _ al;have aq:=a7 _ _ aq;have av:=a7 _ _ av;have bd:=bd.mono a7;have bh:=bh.mono a7;have ba:=a7 _ _ ba;have be:=be.mono a7;have bi:zN FI _ ([0,0]:List Int) (.slice (some ⟨e2,0,none⟩) 2 2):=zN.of (l:=([0,0]:List Int)) (sp:=[]) (aC _) bc;refine bU 5 61 false _ rfl rfl rfl (zD not rfl) (yU rfl rfl rfl rfl rfl (a2t [0,0] [0,0] _ _ dE _ au bi) ?_);refine dA 64 rfl (show _= .bool true from(zD bC dE)) ?_;refine zU 5 61 false (zD not rfl) (zK (ER rfl rfl) ?_);refine aH (ED (zD not rfl)) ?_;refine aH yP ?_;refine zU 11 67 false (zD not rfl) (zK yP ?_);refine bU 11 67 false _ rfl rfl rfl (zD not rfl) (JR (BD (pl:= #[(0,1),(1,1)]) rfl rfl QU rfl XJ (fun w=>by simp[BO]) (aF rfl rfl rfl (aG aN) (aF rfl rfl rfl (aP (aG aN)) aV))) rfl rfl ?_);refine zU 11 67 false (zD not rfl) (BQ ES BO MV (aO rfl aJ) ?_);intro c9 dk;refine aK dk (fun _ a6 bg=>?_);have hT:=hT.mono a6;have ht:=ht.mono a6;have a9:=a9.mono a6;have ac:=ac.mono a6;have O:=a6 _ _ O;have ah:=ah.mono a6;have ag:=ag.mono a6;have ak:=ak.mono a6;have a0:=a6 _ _ a0;have am:=am.mono a6;have an:=an.mono a6;have a3:=a6 _ _ a3;have ap:=ap.mono a6;have a5:=a6 _ _ a5;have ad:=ad.mono a6;have aw:=aw.mono a6;have ax:=fun Q A=>(ax Q A).mono a6;have au:=au.mono a6;have ay:=ay.mono a6;have b1:=fun Q A=>(b1 Q A).mono a6;have az:=az.mono a6;have b3:=b3.mono a6;have b4:=fun Q A=>(b4 Q A).mono a6;have b2:=b2.mono a6;have ae:=a6 _ _ ae;have b5:=b5.mono a6;have b8:=b8.mono a6;have b9:=fun Q A=>(b9 Q A).mono a6;have b6:=b6.mono a6;have al:=a6 _ _ al;have aq:=a6 _ _ aq;have av:=a6 _ _ av;have bd:=bd.mono a6;have bh:=bh.mono a6;have ba:=a6 _ _ ba;have be:=be.mono a6;have bc:=a6 _ _ bc;have bi:=bi.mono a6;have bm:zN FI _ ([0]:List Int) (.slice (some ⟨c9,0,none⟩) 1 1):=zN.of (l:=([0]:List Int)) (sp:=[]) (aC _) bg;refine bU 11 67 false _ rfl rfl rfl (zD not rfl) (JR (BD (pl:= #[(0,2),(2,1),(3,1)]) rfl rfl JZ rfl DT (fun w=>by simp[AL,EZ,zS]) (aF rfl rfl rfl (aG (aG aN)) (aF rfl rfl rfl (aP (aP (aG aN))) (aF rfl rfl rfl (aP (aP (aP (aG aN)))) aV)))) rfl rfl ?_);refine zU 11 67 false (zD not rfl) (BQ EI CV JZ (aU rfl aJ) ?_);intro e3 dl;refine aK dl (fun _ a4 bl=>?_);have hT:=hT.mono a4;have ht:=ht.mono a4;have a9:=a9.mono a4;have ac:=ac.mono a4;have O:=a4 _ _ O;have ah:=ah.mono a4;have ag:=ag.mono a4;have ak:=ak.mono a4;have a0:=a4 _ _ a0;have am:=am.mono a4;have an:=an.mono a4;have a3:=a4 _ _ a3;have ap:=ap.mono a4;have a5:=a4 _ _ a5;have ad:=ad.mono a4;have aw:=aw.mono a4;have ax:=fun Q A=>(ax Q A).mono a4;have au:=au.mono a4;have ay:=ay.mono a4;have b1:=fun Q A=>(b1 Q A).mono a4;have az:=az.mono a4;have b3:=b3.mono a4;have b4:=fun Q A=>(b4 Q A).mono a4;have b2:=b2.mono a4;have ae:=a4 _ _ ae;have b5:=b5.mono a4;have b8:=b8.mono a4;have b9:=fun Q A=>(b9 Q A).mono a4;have b6:=b6.mono a4;have al:=a4 _ _ al;have aq:=a4 _ _ aq;have av:=a4 _ _ av;have bd:=bd.mono a4;have bh:=bh.mono a4;have ba:=a4 _ _ ba;have be:=be.mono a4;have bc:=a4 _ _ bc;have bi:=bi.mono a4;have bg:=a4 _ _ bg;have bm:=bm.mono a4;have bp:zN CY _ [(⟨⟨(1,2),Bk.K2,[0]⟩,some ⟨c9,0,none⟩,1⟩:Fv)] (.slice (some ⟨e3,0,none⟩) 1 1):=zN.of (l:=[(⟨⟨(1,2),Bk.K2,[0]⟩,some ⟨c9,0,none⟩,1⟩:Fv)]) (sp:=[]) (aC _) bl;refine bU 11 67 false _ rfl rfl rfl (zD not rfl) (yU rfl rfl rfl rfl rfl (VE (ry.take 10) [(⟨⟨(1,2),Bk.K2,[0]⟩,some ⟨c9,0,none⟩,1⟩:Fv)] _ _ (by rw[bY];omega) _ ay bp (b4R cp b1 dE 10) (a7Z bm)) ?_);refine dA 73 rfl (show _= .bool true from(zD bC (zI (b1G cp rfl)))) ?_;refine zU 11 67 false (zD not rfl) (zK (ER rfl rfl) ?_);refine aH (ED (zD not rfl)) ?_;refine J.ns (Cj.cond rfl (fun ch=>Bool.noConfusion (Eq.trans (Eq.symm (zD not rfl)) ch)) (fun ch=>?_));refine Cj.ks (Cj.sr (aT rfl (BQ ES BO MV (aO rfl aJ) ?_)));intro ce dm;refine aK dm (fun _ a2 bo=>?_);have hT:=hT.mono a2;have ht:=ht.mono a2;have a9:=a9.mono a2;have ac:=ac.mono a2;have O:=a2 _ _ O;have ah:=ah.mono a2;have ag:=ag.mono a2;have ak:=ak.mono a2;have a0:=a2 _ _ a0;have am:=am.mono a2;have an:=an.mono a2;have a3:=a2 _ _ a3;have ap:=ap.mono a2;have a5:=a2 _ _ a5;have ad:=ad.mono a2;have aw:=aw.mono a2;have ax:=fun Q A=>(ax Q A).mono a2;have au:=au.mono a2;have ay:=ay.mono a2;have b1:=fun Q A=>(b1 Q A).mono a2;have az:=az.mono a2;have b3:=b3.mono a2;have b4:=fun Q A=>(b4 Q A).mono a2;have b2:=b2.mono a2;have ae:=a2 _ _ ae;have b5:=b5.mono a2;have b8:=b8.mono a2;have b9:=fun Q A=>(b9 Q A).mono a2;have b6:=b6.mono a2;have al:=a2 _ _ al;have aq:=a2 _ _ aq;have av:=a2 _ _ av;have bd:=bd.mono a2;have bh:=bh.mono a2;have ba:=a2 _ _ ba;have be:=be.mono a2;have bc:=a2 _ _ bc;have bi:=bi.mono a2;have bg:=a2 _ _ bg;have bm:=bm.mono a2;have bl:=a2 _ _ bl;have bp:=bp.mono a2;have bs:zN FI _ ([0]:List Int) (.slice (some ⟨ce,0,none⟩) 1 1):=zN.of (l:=([0]:List Int)) (sp:=[]) (aC _) bo;refine aH (qq2 (off':=3) DT EZ) ?_;refine aT rfl (AB 0 EZ (aP (aP (aP (aG aN)))) DZ.z ?_);refine J.yX (aH yP ?_);refine aH (zZ EI) ?_;refine dA 79 rfl (show _=i64 0 from rfl) ?_;refine aH DW ?_;refine dA 80 rfl (show _= .bool true from rfl) ?_;refine aH yP ?_;refine CO 3 81 true (zK yP ?_);refine CO 3 81 true (BQ a0I a0Q a7J (aO rfl (aO rfl aJ)) ?_);intro e4 dp;refine aK dp (fun _ a1 bt=>?_);have hT:=hT.mono a1;have ht:=ht.mono a1;have a9:=a9.mono a1;have ac:=ac.mono a1;have O:=a1 _ _ O;have ah:=ah.mono a1;have ag:=ag.mono a1;have ak:=ak.mono a1;have a0:=a1 _ _ a0;have am:=am.mono a1;have an:=an.mono a1;have a3:=a1 _ _ a3;have ap:=ap.mono a1;have a5:=a1 _ _ a5;have ad:=ad.mono a1;have aw:=aw.mono a1;have ax:=fun Q A=>(ax Q A).mono a1;have au:=au.mono a1;have ay:=ay.mono a1;have b1:=fun Q A=>(b1 Q A).mono a1;have az:=az.mono a1;have b3:=b3.mono a1;have b4:=fun Q A=>(b4 Q A).mono a1;have b2:=b2.mono a1;have ae:=a1 _ _ ae;have b5:=b5.mono a1;have b8:=b8.mono a1;have b9:=fun Q A=>(b9 Q A).mono a1;have b6:=b6.mono a1;have al:=a1 _ _ al;have aq:=a1 _ _ aq;have av:=a1 _ _ av;have bd:=bd.mono a1;have bh:=bh.mono a1;have ba:=a1 _ _ ba;have be:=be.mono a1;have bc:=a1 _ _ bc;have bi:=bi.mono a1;have bg:=a1 _ _ bg;have bm:=bm.mono a1;have bl:=a1 _ _ bl;have bp:=bp.mono a1;have bo:=a1 _ _ bo;have bs:=bs.mono a1;have bz:zN FI _ ([40,40]:List Int) (.slice (some ⟨e4,0,none⟩) 2 2):=zN.of (l:=([40,40]:List Int)) (sp:=[]) (aC _) bt;refine bU 3 81 true _ rfl rfl rfl rfl (yU rfl rfl rfl rfl rfl (a2t [40,40] [40,40] _ _ dE _ b2 bz) ?_);refine dA 84 rfl (show _= .bool true from(zD bC dE)) ?_;refine aH (EH rfl rfl rfl rfl) ?_;refine aH yP ?_;refine CO 8 86 true (zK yP ?_);refine CO 8 86 true (zK (zW LX CV (yR.at 0 rfl)) ?_);refine CO 8 86 true (BQ EI CV JZ (aU rfl aJ) ?_);intro e5 dq;refine aK dq (fun _ Z c2=>?_);have hT:=hT.mono Z;have ht:=ht.mono Z;have a9:=a9.mono Z;have ac:=ac.mono Z;have O:=Z _ _ O;have ah:=ah.mono Z;have ag:=ag.mono Z;have ak:=ak.mono Z;have a0:=Z _ _ a0;have am:=am.mono Z;have an:=an.mono Z;have a3:=Z _ _ a3;have ap:=ap.mono Z;have a5:=Z _ _ a5;have ad:=ad.mono Z;have aw:=aw.mono Z;have ax:=fun Q A=>(ax Q A).mono Z;have au:=au.mono Z;have ay:=ay.mono Z;have b1:=fun Q A=>(b1 Q A).mono Z;have az:=az.mono Z;have b3:=b3.mono Z;have b4:=fun Q A=>(b4 Q A).mono Z;have b2:=b2.mono Z;have ae:=Z _ _ ae;have b5:=b5.mono Z;have b8:=b8.mono Z;have b9:=fun Q A=>(b9 Q A).mono Z;have b6:=b6.mono Z;have al:=Z _ _ al;have aq:=Z _ _ aq;have av:=Z _ _ av;have bd:=bd.mono Z;have bh:=bh.mono Z;have ba:=Z _ _ ba;have be:=be.mono Z;have bc:=Z _ _ bc;have bi:=bi.mono Z;have bg:=Z _ _ bg;have bm:=bm.mono Z;have bl:=Z _ _ bl;have bp:=bp.mono Z;have bo:=Z _ _ bo;have bs:=bs.mono Z;have bt:=Z _ _ bt;have bz:=bz.mono Z;have c4:zN CY _ [(⟨⟨(1,1),dI,[0]⟩,some ⟨ce,0,none⟩,1⟩:Fv)] (.slice (some ⟨e5,0,none⟩) 1 1):=zN.of (l:=[(⟨⟨(1,1),dI,[0]⟩,some ⟨ce,0,none⟩,1⟩:Fv)]) (sp:=[]) (aC _) c2;refine bU 8 86 true _ rfl rfl rfl rfl (yU rfl rfl rfl rfl rfl (VE (rv.take 10) [(⟨⟨(1,1),dI,[0]⟩,some ⟨ce,0,none⟩,1⟩:Fv)] _ _ (by rw[bY];omega) _ b8 c4 (b4R ct b9 dE 10) (a7Z bs)) ?_);refine dA 90 rfl (show _= .bool true from(zD bC (zI (b1G ct rfl)))) ?_;refine aH (EH rfl rfl rfl rfl) ?_;refine aH yP ?_;refine CO 14 92 true (zK yP ?_);refine CO 14 92 true (BQ a0I a0Q a7J (aO rfl (aO rfl aJ)) ?_);intro e6 dr;refine aK dr (fun _ N c5=>?_);have hT:=hT.mono N;have ht:=ht.mono N;have a9:=a9.mono N;have ac:=ac.mono N;have O:=N _ _ O;have ah:=ah.mono N;have ag:=ag.mono N;have ak:=ak.mono N;have a0:=N _ _ a0;have am:=am.mono N;have an:=an.mono N;have a3:=N _ _ a3;have ap:=ap.mono N;have a5:=N _ _ a5;have ad:=ad.mono N;have aw:=aw.mono N;have ax:=fun Q A=>(ax Q A).mono N;have au:=au.mono N;have ay:=ay.mono N;have b1:=fun Q A=>(b1 Q A).mono N;have az:=az.mono N;have b3:=b3.mono N;have b4:=fun Q A=>(b4 Q A).mono N;have b2:=b2.mono N;have ae:=N _ _ ae;have b5:=b5.mono N;have b8:=b8.mono N;have b9:=fun Q A=>(b9 Q A).mono N;have b6:=b6.mono N;have al:=N _ _ al;have aq:=N _ _ aq;have av:=N _ _ av;have bd:=bd.mono N;have bh:=bh.mono N;have ba:=N _ _ ba;have be:=be.mono N;have bc:=N _ _ bc;have bi:=bi.mono N;have bg:=N _ _ bg;have bm:=bm.mono N;have bl:=N _ _ bl;have bp:=bp.mono N;have bo:=N _ _ bo;have bs:=bs.mono N;have bt:=N _ _ bt;have bz:=bz.mono N;have c2:=N _ _ c2;have c4:=c4.mono N;have c7:zN FI _ ([0,32]:List Int) (.slice (some ⟨e6,0,none⟩) 2 2):=zN.of (l:=([0,32]:List Int)) (sp:=[]) (aC _) c5;refine bU 14 92 true _ rfl rfl rfl rfl (yU rfl rfl rfl rfl rfl (a2t [0,32] [0,32] _ _ dE _ b6 c7) ?_);refine dA 95 rfl (show _= .bool true from(zD bC dE)) ?_;refine aH (EH rfl rfl rfl rfl) ?_;refine aH yP ?_;refine CO 19 97 true (zK yP ?_);refine bU 19 97 true _ rfl rfl rfl rfl (JR (BD (pl:= #[(0,1),(1,1)]) rfl rfl GL rfl LY (fun w=>by simp[BO,zS]) (aF rfl rfl rfl (aG aN) (aF rfl rfl rfl (aP (aG aN)) aV))) rfl rfl ?_);refine bU 19 97 true _ rfl rfl rfl rfl (JR (BD (pl:= #[(0,1),(1,1)]) rfl rfl GL rfl LY (fun w=>by simp[BO,zS]) (aF rfl rfl rfl (aG aN) (aF rfl rfl rfl (aP (aG aN)) aV))) rfl rfl ?_);refine CO 19 97 true (BQ CP CQ GL (aU rfl (aU rfl aJ)) ?_);intro dt cj;refine aK cj (fun _ G ci=>?_);have hT:=hT.mono G;have ht:=ht.mono G;have a9:=a9.mono G;have ac:=ac.mono G;have O:=G _ _ O;have ah:=ah.mono G;have ag:=ag.mono G;have ak:=ak.mono G;have a0:=G _ _ a0;have am:=am.mono G;have an:=an.mono G;have a3:=G _ _ a3;have ap:=ap.mono G;have a5:=G _ _ a5;have ad:=ad.mono G;have aw:=aw.mono G;have ax:=fun Q A=>(ax Q A).mono G;have au:=au.mono G;have ay:=ay.mono G;have b1:=fun Q A=>(b1 Q A).mono G;have az:=az.mono G;have b3:=b3.mono G;have b4:=fun Q A=>(b4 Q A).mono G;have b2:=b2.mono G;have ae:=G _ _ ae;have b5:=b5.mono G;have b8:=b8.mono G;have b9:=fun Q A=>(b9 Q A).mono G;have b6:=b6.mono G;have al:=G _ _ al;have aq:=G _ _ aq;have av:=G _ _ av;have bd:=bd.mono G;have bh:=bh.mono G;have ba:=G _ _ ba;have be:=be.mono G;have bc:=G _ _ bc;have bi:=bi.mono G;have bg:=G _ _ bg;have bm:=bm.mono G;have bl:=G _ _ bl;have bp:=bp.mono G;have bo:=G _ _ bo;have bs:=bs.mono G;have bt:=G _ _ bt;have bz:=bz.mono G;have c2:=G _ _ c2;have c4:=c4.mono G;have c5:=G _ _ c5;have c7:=c7.mono G;have cl:zN AX _ ([([97],4),([98],1)]:List aY) (.slice (some ⟨dt,0,none⟩) 2 2):=zN.of (l:=([([97],4),([98],1)]:List aY)) (sp:=[]) (aC _) ci;refine bU 19 97 true _ rfl rfl rfl rfl (yU rfl rfl rfl rfl rfl (a3l [([97],4),([98],1)] [([97],4),([98],1)] _ _ dE _ bh cl) ?_);refine dA 102 rfl (show _= .bool true from(zD bC dE)) ?_;refine aH (EH rfl rfl rfl rfl) ?_;refine aH yQ ?_;refine J.ns (Cj.ret (Ej.keep (Keeps.d Keeps.n) ?_));refine zM ?_;exact rT
end Go.Proofs.YtdjkhllhakhjbaaGreatDoor
namespace Go.Proofs.YtdjkhllhakhjbaaGreatDoor
open Go.ChangeShapes Go.WideShapes Go.ChangeAt Go.RowKit Go.Sx Go.Lib Go.ChangeMaps Go.WideMaps
theorem own:ownKnob aA.godebug=none:=kR
def HW (W:World):Heap:=fun b=>W.heap[b]?
theorem HW.ready W:Ready (HW W) [] W:=⟨fun _ _ h=>h,sI,sI,sI⟩
theorem HW.below{W w' A H'}(h:St W [] (HW W) A H' w'):Below W.heap.size W w':=⟨h.os,h.tape,h.output,h.size,fun b G=>h.frm b G sI⟩
theorem HW.calls{f args W v}(h:Sx.Pure aA f args (HW W) v):Calls aA f args.toArray W fun e w'=>e= .returned v∧Below W.heap.size W w':=
 (h.2 W (HW.ready W)).mono fun _ _ ⟨_,_,hs,A,_,_⟩=>⟨A,HW.below hs⟩
theorem a1j{H:Type}{enc P f}{s:ChangeSpec}{Q fresh a1 again W W' args v ds gs h G N}
 (hB:Below W.heap.size W W')(hW:DataW.Whole enc P f.params.toList s.vars Q W args.toList ds gs h)(a4:h=G++N)
 (a2:∀(b:Nat) (sp:Nat→Bool) (hd:Bool),fC enc P W' b sp hd f.resultTypes.toList (v.resultList f.resultTypes.size) (s.fn H (ds++gs)).results [])
 (Z:∀sp:Nat→Bool,(∀p∈h,sp p.block=true)→fC enc P W' 0 sp true f.params.toList args.toList (s.fn H (ds++gs)).args G)
 (a0:∀sp:Nat→Bool,(∀p∈h,sp p.block=true)→DataW.TrodVars enc P W' sp s.vars (s.fn H (ds++gs)).vars N)
 (a7:∀(j:Nat) (t:TypeId) (r:Value),f.resultTypes[j]?=some t→(v.resultList f.resultTypes.size)[j]?=some r→bH P W' .any 0 t r):s.post enc P f Q fresh a1 again W args v W':=by
 have a3:∀p∈h,p.block<W.heap.size:=hW.lt;have mem:∀p,p∈h↔p∈G∨p∈N:=fun p=>by rw[a4];exact List.mem_append
 have O:([]++G)++N=h:=by rw[a4];rfl
 refine⟨ds,gs,h,[],G,N,hW,a2 _ _ _,Z _ fun p A=>zI (a3 p A),a0 _ fun p A=>zI (a3 p A),World.keptBut_mono (fun p A=>⟨A,.inr ((mem p).1 A)⟩) (hB.frame (· ∈h)),fun _=>?_⟩;have a8:=Z (fun _=>true) fun _ _=>rfl;obtain⟨_,_,_,_,_,a6,a9⟩:=hW;refine⟨a7,_,_,([]++G)++N,⟨[]++G,N,trodAll_append a8 (a2 _ _ _),a0 _ fun _ _=>rfl,rfl,fun b off A=>?_,fun ha=>?_⟩,fun p A _=>?_⟩
 ·have a5:MemPlace.cell b off∈h:=O▸A;have aa:b<W.heap.size:=a3 _ a5;have hf:=a6 b off a5;unfold World.frozen? at hf ⊢;rw[hB.block b aa];exact hf
 ·exact O▸a9 ha
 exact O▸A
def Again {H:Type} (enc:TypeId×Value→H) (W:World) (t:TypeId) (v:Value) (d:DataW H) (p:List MemPlace):Prop:=
 ∀W',Below W.heap.size W W'→∀sp:Nat→Bool,(∀q∈p,sp q.block=true)→bD enc aA W' 0 sp true t v d p
section
variable {H:Type} {enc:TypeId×Value→H} {W:World} {base:Nat}
theorem c5q{n}(h:(Lit.int .u8 n).wf=true):∃c:UInt8,n=(c.toNat:Int):=by
 simp[Lit.wf,IntKind.min,IntKind.max,IntKind.signed,IntKind.bits]at h;refine⟨UInt8.ofNatLT n.toNat (by show n.toNat<256;omega),?_⟩;rw[UInt8.toNat_ofNatLT];omega
theorem c4G{t v d p}(G:aA.underlying t=some (.int .u8))(A:bH aA W .any base t v)(h:bD enc aA W 0 (fun _=>true) true t v d p):
 ∃c:UInt8,v=u8 c∧d= .lit (.int .u8 (c.toNat:Int))∧p=[]∧Again enc W t v d p:=by
 obtain⟨n,rfl,rfl,rfl,N⟩:=open_int G A h;obtain⟨c,rfl⟩:=c5q N;exact⟨c,rfl,rfl,rfl,fun _ _ sp _=>shut_int G N⟩
end
theorem WO{H:Type}{enc:TypeId×Value→H} os {f fn}{s:OpenSpec}{A G h} args
 (Q:((bG aA os h).forCall (fun _ _=>0) ⟨#[],args,[]⟩).variablesZipB aA=true)
 (hr:(((bG aA os h).forCall (fun _ _=>0) ⟨#[],args,[]⟩).heap.toList.drop aA.globals.size).take ((begin aA (fun _ _=>0) default).world.heap.size-aA.globals.size)=(begin aA (fun _ _=>0) default).world.heap.toList.drop aA.globals.size)
 (N:Input.okWideB aA ((bG aA os h).forCall (fun _ _=>0) ⟨#[],args,[]⟩) f ⟨#[],args,[]⟩=true)
 (O:s.preRow enc aA fn A G h ((bG aA os h).forCall (fun _ _=>0) ⟨#[],args,[]⟩).memory args):
 ∃(w:World) (tape:Tape) (i:Input),w.os=os∧(w.forCall tape i).Shaped aA∧i.vars=[]∧Input.okWide aA (w.forCall tape i) .any w.heap.size f i∧
  s.preRow enc aA fn A G h (w.forCall tape i).memory i.args∧({}:Assume).holds aA (lone (Frame.enter aA f i.args .normal) [] (w.forCall tape i)):=
 ⟨bG aA os h,fun _ _=>0,⟨#[],args,[]⟩,World.laidAll_os _ _ _,World.shaped_of_ZipB Q hr,(cO (base:=0) N).1,(cO N).2,O,by
  simp only[Assume.holds];exact⟨sI,sI,sI,sI,sI⟩⟩
section
variable {H:Type} {enc:TypeId×Value→H} {W:World} {base:Nat}
def Arg (enc:TypeId×Value→H) (W:World) (t:TypeId) (cs:List Value) (m:Nat):Prop:=∃n x,dN enc aA W 0 (fun _=>true) true n t cs=some x∧aI x.1=m
theorem Arg.of{t v d p}(h:bD enc aA W 0 (fun _=>true) true t v d p):Arg enc W t v.cells.toList (aI d):=by
 obtain⟨n,hn⟩:=h;exact⟨n,_,hn,rfl⟩
theorem laidOut:laidOutB aA=true:=kR
theorem again{t v d p}(hr:aA.readableRec t=true)(A:t<aA.types.size)(h:bD enc aA W 0 (fun _=>true) true t v d p)(G:∀x∈p,x.block<W.heap.size):Again enc W t v d p:=
 fun _ O _ N=>WideElems.Trod_stays laidOut hr A h (fun _ Q=>O.same (G _ Q)) N
theorem mapM_some{α β:Type}{g}:∀{l:List α} {ys:List β},l.mapM g=some ys→ys.length=l.length∧∀(i:Nat) x,l[i]?=some x→∃y,ys[i]?=some y∧g x=some y
 |[],ys,h=>by simp at h;subst h;exact⟨rfl,fun i x A=>by simp at A⟩
 |a::l,ys,h=>by
  rw[List.mapM_cons]at h;cases ha:g a with
  |none=>simp[ha]at h
  |some y=>
   cases hl:l.mapM g with
   |none=>simp[ha,hl]at h
   |some zs=>
    simp[ha,hl]at h;subst h;obtain⟨G,N⟩:=mapM_some hl;refine⟨by simp[G],fun i x A=>?_⟩;cases i with
    |zero=>simp at A;subst A;exact⟨y,rfl,ha⟩
    |succ i=>exact N i x (by simpa using A)
theorem a5s:∀(l:List (DataW H)),eP l=(l.map aI).sum
 |[]=>rfl
 |d::r=>by simp only[eP,dQ,aZ,a5s r]
theorem Arg.step{t cs m}(h:Arg enc W t cs m):∃n x,dG enc aA W 0 (fun _=>true) true (dN enc aA W 0 (fun _=>true) true n) t cs=some x∧aI x.1=m:=by
 obtain⟨n,x,h,A⟩:=h;cases n with
 |zero=>simp[dN]at h
 |succ n=>exact⟨n,x,(DataW.trod_step enc aA W 0 (fun _=>true) true n t cs).symm.trans h,A⟩
theorem Arg.int{t k cs m}(G:aA.underlying t=some (.int k))(h:Arg enc W t cs m):∃z,cs=[.int k z]∧(Lit.int k z).wf=true∧m=1:=by
 obtain⟨n,x,h,A⟩:=h;obtain⟨z,rfl,rfl,N⟩:=DataW.trod_int G h;simp only[aI]at A;exact⟨z,rfl,N,A.symm⟩
theorem Arg.str{t cs m}(G:aA.underlying t=some .string)(h:Arg enc W t cs m):∃s:List UInt8,cs=[Sx.str s]∧m=s.length+1:=by
 obtain⟨n,x,h,A⟩:=h;obtain⟨s,rfl,rfl,_⟩:=DataW.trod_string G h;simp only[aI]at A;exact⟨s.data.toList,by cases s;simp[Sx.str],A.symm⟩
theorem Arg.struct{t fs cs m}(N:aA.underlying t=some (.struct fs))(h:Arg enc W t cs m):
 cs.length=aA.cellsOf t∧∃ms:List Nat,ms.length=fs.size∧ms.sum+1=m∧∀(i:Nat) f G,fs[i]?=some f→ms[i]?=some G→Arg enc W f.type ((cs.drop f.offset).take (aA.cellsOf f.type)) G:=by
 obtain⟨n,x,h,O⟩:=h.step;unfold dG at h;simp only[N]at h
 split at h
 ·rename_i Q
  refine⟨Q,?_⟩;simp only[dD]at h;obtain⟨xs,Z,rfl⟩:=h;obtain⟨h1,h2⟩:=mapM_some Z;refine⟨xs.map fun y=>aI y.1,by simp[h1],?_,fun i f G hf A=>?_⟩
  ·rw[←O];simp only[aI,a5s,fE];rfl
  obtain⟨y,hy,hg⟩:=h2 i f (by simpa using hf);rw[eF,hy]at A;simp only[eU,bP]at A;exact⟨n,y,hg,A⟩
 cases h
theorem cells_at{a n cs}(h:W.cells? 0 a n=some cs):cs.length=n∧∀i,i<n→W.cell? (a.add i)=cs[i]?:=by
 unfold World.cells? at h;rw[zG (aW _)]at h;obtain⟨A,G⟩:=mapM_some h;rw[eG]at A;refine⟨A,fun i N=>?_⟩;obtain⟨y,O,hg⟩:=G i i (dR N);rw[hg,O]
theorem Arg.slice{t e sz cs m}(ht:aA.underlying t=some (.slice e))(a3:aA.cellsOf e=sz)(a1:0<sz)(h:Arg enc W t cs m):
 ∃(p:Option Addr) (len N:Nat) (ms:List Nat),cs=[.slice p len N]∧len≤N∧N≤maxLen∧ms.length=len∧ms.sum+1≤m∧(0<len→∃b o cells T fr,p=some ⟨b,o,none⟩∧HW W b=some (.cells (List.toArray cells) T fr)∧
  ∀(i m':Nat),ms[i]?=some m'→((cells.drop (o+i*sz)).take sz).length=sz∧Arg enc W e ((cells.drop (o+i*sz)).take sz) m'):=by
 obtain⟨n,x,g,hm⟩:=h.step;clear h;unfold dG at g;simp only[ht]at g
 split at g<;>first|(exfalso;simp_all;done)|skip
 ·simp only[bP]at g;subst g;exact⟨none,0,0,[],rfl,aC _,aW _,rfl,by rw[←hm];simp[aI],fun h=>absurd h dE⟩
 rename_i a len N he
 cases he
 split at g
 ·rename_i hl
  simp only[if_true,cZ,dD]at g;obtain⟨G,a4,rest,_,rfl⟩:=g;obtain⟨h1,h2⟩:=mapM_some a4;rw[eG]at h1;refine⟨some a,len,N,G.map fun y=>aI y.1,rfl,hl.2.1,hl.2.2,by simp[h1],?_,fun h0=>?_⟩
  ·rw[←hm];simp only[aI,a5s,fE];have:(G.map fun y=>aI y.1).sum=(G.map (aI∘fun x=>x.1)).sum:=rfl;omega
  have Q:∀i,i<len→∃(cs:List Value) (y:DataW H×List MemPlace),W.cells? 0 (a.add (i*sz)) sz=some cs∧G[i]?=some y∧dN enc aA W 0 (fun _=>true) true n e cs=some y:=fun i hi=>by
   obtain⟨y,hy,hg⟩:=h2 i i (dR hi);simp only[cZ]at hg;obtain⟨cs,hc,hg⟩:=hg;rw[a3]at hc;exact⟨cs,y,hc,hy,hg⟩
  obtain⟨_,y0,Z,_,_⟩:=Q 0 h0;obtain⟨_,Z⟩:=cells_at Z;have A:=Z 0 a1;rw[List.getElem?_eq_getElem oM]at A;rw[Nat.zero_mul]at A;have ha:a.add 0=a:=by simp[Addr.add]
  rw[ha,ha]at A;obtain⟨a0,off,a2⟩:=a;cases a2 with
  |some sp=>obtain⟨_,_,_,_,hs⟩:=World.shape?_of_cell? A;cases hs
  |none=>
   have h':=A;unfold dF at h';cases hb:W.heap[a0]? with
   |none=>simp only[hb]at h';cases h'
   |some o=>
    cases o with
    |cells cells T fr=>
     refine⟨a0,off,cells.toList,T,fr,rfl,by show W.heap[a0]?=_;rw[hb],fun i m' O=>?_⟩;have hi:i<len:=by
      have:=(List.getElem?_eq_some_iff.1 O).1;simpa[h1]using this
     obtain⟨cs,y,hc,hy,hg⟩:=Q i hi;obtain⟨a5,a6⟩:=cells_at hc;have a7:(cells.toList.drop (off+i*sz)).take sz=cs:=by
      apply List.ext_getElem?
      intro j;rcases Nat.lt_or_ge j sz with hj|hj
      ·have h3:=a6 j hj;rw[fF,fF]at h3;unfold dF at h3;simp only[hb]at h3;rw[dW,zG hj,List.getElem?_drop,←h3];simp
      rw[dW,zF oM,List.getElem?_eq_none oM]
     rw[a7];rw[eF,hy]at O;simp only[eU,bP]at O;exact⟨a5,n,y,hg,O⟩
    |_=>simp only[hb]at h';cases h'
 cases g
theorem Arg.row{α:Type}{f size t e sz cs m}(ht:aA.underlying t=some (.slice e))(a4:aA.cellsOf e=sz)(a2:0<sz)(Q:α→Prop)
 (he:∀(cs:List Value) (G:Nat),G≤m→Arg enc W e cs G→∃x:α,cs=f x∧size x≤G∧Q x)(h:Arg enc W t cs m):
 ∃(l:List α) (v:Value),cs=[v]∧zN f (HW W) l v∧(l.map size).sum+1≤m∧l.length≤maxLen∧∀x∈l,Q x:=by
 obtain⟨p,len,a0,ms,rfl,a1,_,a5,a6,hb⟩:=h.slice ht a4 a2;rcases Nat.eq_zero_or_pos len with O|O
 ·subst O;exact⟨[],_,rfl,⟨p,a0,rfl,a1,fun h=>absurd rfl h⟩,by simp;omega,aW _,fun x Z=>by cases Z⟩
 obtain⟨b,o,A,T,fr,rfl,a3,N⟩:=hb O
 have key:∀(ms:List Nat) (o:Nat),ms.sum+1≤m→(∀(i G:Nat),ms[i]?=some G→((A.drop (o+i*sz)).take sz).length=sz∧Arg enc W e ((A.drop (o+i*sz)).take sz) G)→
  ∃(l:List α) (sp:List Value),l.length=ms.length∧A.drop o=l.flatMap f++sp∧(l.map size).sum≤ms.sum∧∀x∈l,Q x:=by
  intro ms
  induction ms with
  |nil=>exact fun o _ _=>⟨[],A.drop o,rfl,rfl,aC _,fun x Z=>by cases Z⟩
  |cons a r ih=>
   intro o hs N;rw[aZ]at hs;have O:=N 0 a rfl;rw[Nat.zero_mul,Nat.add_zero]at O;obtain⟨x,Z,_,hq⟩:=he _ a oM O.2;obtain⟨l,sp,h1,h2,h3,h4⟩:=ih (o+sz) oM fun i G hi=>by
    have:=N (i+1) G (by simpa using hi);rw[show o+(i+1)*sz=o+sz+i*sz by rw[Nat.add_mul];omega]at this;exact this
   refine⟨x::l,sp,by simp[h1],?_,by simp only[dQ,aZ];omega,fun y hy=>?_⟩
   ·rw[List.flatMap_cons,List.append_assoc,←h2,←Z,←List.drop_drop];exact(List.take_append_drop sz (A.drop o)).symm
   rcases aS.1 hy with rfl|hy
   ·exact hq
   exact h4 y hy
 obtain⟨l,sp,h1,h2,h3,h4⟩:=key ms o a6 N;have a7:l.length=len:=h1.trans a5;subst a7;exact⟨l,_,rfl,⟨_,a0,rfl,a1,fun _=>⟨b,o,A,T,fr,sp,rfl,a3,h2⟩⟩,oM,oM,h4⟩
theorem b1b{α:Type}{f}:∀{l:List α},(∀x,1≤f x)→l.length≤(l.map f).sum
 |[],_=>aW _
 |a::r,h=>by
  have:=b1b (l:=r) h;have:=h a;simp only[List.length_cons,dQ,aZ];omega
theorem Arg.ints{t e cs m}(G:aA.underlying t=some (.slice e))(N:aA.underlying e=some (.int .i64))(A:aA.cellsOf e=1)(h:Arg enc W t cs m):
 ∃(l:List Int) (v:Value),cs=[v]∧zN (fun n:Int=>[i64 n]) (HW W) l v∧l.length+1≤m:=by
 obtain⟨l,v,O,Q,_,_,_⟩:=h.row (f:=fun n:Int=>[i64 n]) (size:=fun _=>1) G A dE (fun _=>True) fun cs Z _ h=>by
  obtain⟨z,rfl,_,rfl⟩:=h.int N;exact⟨z,rfl,aC _,trivial⟩
 have:=b1b (f:=fun _:Int=>1) (l:=l) fun _=>aC _;exact⟨l,v,O,Q,oM⟩
theorem c2R{k t v d p}(G:aA.underlying t=some (.int k))(A:bH aA W .any base t v)(h:bD enc aA W 0 (fun _=>true) true t v d p):
 ∃n:Int,v= .int k n∧(Lit.int k n).wf=true∧Again enc W t v d p:=by
 obtain⟨n,rfl,rfl,rfl,N⟩:=open_int G A h;exact⟨n,rfl,N,fun _ _ sp _=>shut_int G N⟩
end
end Go.Proofs.YtdjkhllhakhjbaaGreatDoor
namespace Go.Proofs.YtdjkhllhakhjbaaGreatDoor
open Go.ChangeShapes Go.WideShapes Go.ChangeAt Go.RowKit Go.Sx Go.Lib Go.ChangeMaps
theorem b0A{P W name k zs g t e n}
 (hg:P.globalNamed name=some g)(G:(P.globals[g]?).map (·.type)=some t)(ht:P.underlying t=some (.array n e))(he:P.underlying e=some (.int k))(N:P.cellsOf e=1)(O:P.cellsOf t=n)
 (h:VarReads P W name (tabData k zs)):TabIs P W name k zs:=by
 obtain⟨_,_,cs,_,p,Q,Z,A,hd⟩:=h;obtain rfl:=eX (hg.symm.trans Q);obtain rfl:=eX (G.symm.trans Z);unfold TabIs;rw[A,←cells_of_tab ht he N O hd]
theorem a4P{W L}(N:laidMet aA L W)(O:("unicode.White_Space",bI)∈L)(Q:("strings.asciiSpace",bJ)∈L):LZ (HW W):=by
 have Z:(bI:DataW Unit)=whiteData:=kR;have e2:(bJ:DataW Unit)=tabData .u8 asciiSpaceTab:=kR;have A:TabIs aA W "strings.asciiSpace" .u8 asciiSpaceTab:=b0A (g:=4) (t:=bZ.t 119) (e:=bZ.t 5) (n:=256) kR kR dX.t119 dX.t5 kR kR (e2▸laidMet.reads N Q);have hS:WhiteTab 5 W:=whiteTab_of_reads (ρ:=bZ) { dX with } ⟨kR,kR,kR,kR,kR,kR,kR,kR⟩ (Z▸laidMet.reads N O);intro w G;have key:∀(a:Addr) (v:Value),W.cell? a=some v→w.cell? a=some v:=fun a v h=>by
  have h0:=h;unfold dF at h;cases hb:W.heap[a.block]? with
  |none=>rw[hb]at h;cases h
  |some o=>
   have:=dP (w:=w) (w':=W) (a:=a) (by rw[G _ _ hb,hb]);rw[←this];exact h0
 refine⟨?_,?_⟩
 ·unfold TabIs World.var? at A ⊢;have hg:aA.globalNamed "strings.asciiSpace" =some 4:=kR;rw[hg]at A ⊢;simp only[Option.bind_some]at A ⊢;cases hb:W.heap[(4:Nat)]? with
  |none=>rw[hb]at A;cases A
  |some o=>rw[G _ _ hb];rw[hb]at A;exact A
 obtain⟨T,oT,R,oR,h1,h2,h3,h4,h5⟩:=hS;exact⟨T,oT,R,oR,key _ _ h1,key _ _ h2,key _ _ h3,key _ _ h4,fun i hi=>key _ _ (h5 i hi)⟩
theorem a4v{W L}(G:laidMet aA L W)(hf:("unicode/utf8.first",bK)∈L)(O:("unicode/utf8.acceptRanges",bF)∈L):Tabs (HW W):=by
 have Q:(bK:DataW Unit)=firstData:=kR;have Z:(bF:DataW Unit)=acceptData:=kR;have A:Lib.Utf8Tabs 2 3 W:=utf8Tabs_of_readsT (ρ:=Tryz.lays260_ren) (U8Types.of260 Tryz.lays260) ⟨kR,kR,kR,kR,kR,kR,kR⟩ (Q▸laidMet.reads G hf) (Z▸laidMet.reads G O);intro w hw;have key:∀(a:Addr) (v:Value),W.cell? a=some v→w.cell? a=some v:=fun a v h=>by
  have h0:=h;unfold dF at h;cases hb:W.heap[a.block]? with
  |none=>rw[hb]at h;cases h
  |some o=>
   have:=dP (w:=w) (w':=W) (a:=a) (by rw[hw _ _ hb,hb]);rw[←this];exact h0
 exact⟨fun c hc=>key _ _ (A.1 c hc),fun i N=>⟨key _ _ (A.2 i N).1,key _ _ (A.2 i N).2⟩⟩
end Go.Proofs.YtdjkhllhakhjbaaGreatDoor
namespace Go.Proofs.YtdjkhllhakhjbaaGreatDoor
open _root_.Go.Proofs.Tryz
open Go.ChangeShapes Go.WideShapes Go.ChangeAt Go.RowKit Go.Sx Go.Lib Go.ChangeMaps Go.WideMaps
section
variable {H:Type} {enc:TypeId×Value→H} {W:World} {base:Nat}
theorem Arg.a1Z{fs:Array Field}{cs:List Value}{ms:List Nat}(h:∀(i:Nat) f m',fs[i]?=some f→ms[i]?=some m'→Arg enc W f.type ((cs.drop f.offset).take (aA.cellsOf f.type)) m')(i:Nat){f m t o k}
 (hf:fs[i]?=some f)(A:ms[i]?=some m)(G:f.type=t)(N:f.offset=o)(O:aA.cellsOf t=k):Arg enc W t ((cs.drop o).take k) m:=by
 subst G N O;exact h i f m hf A
theorem b7g{α:Type}{l:List α}(h:l.length=2):∃a b,l=[a,b]:=by
 match l,h with
 |[a,b],_=>exact⟨a,b,rfl⟩
theorem b7m{α:Type}{l:List α}(h:l.length=4):∃a b c d,l=[a,b,c,d]:=by
 match l,h with
 |[a,b,c,d],_=>exact⟨a,b,c,d,rfl⟩
theorem zN.a5t{α:Type}{f:α→List Value}{I:Heap}{l:List α}{v:Value}(h:zN f I l v):∃p c,v= .slice p l.length c:=let ⟨p,c,A,_⟩:=h;⟨p,c,A⟩
theorem Arg.item{cs m}(h:Arg enc W 74 cs m):∃x:Fv,cs=CY x∧zN FI (HW W) x.f.p x.v:=by
 obtain⟨G,ms,N,_,hf⟩:=h.struct underlying74;rw[show aA.cellsOf 74=4 by kernel_rfl]at G;obtain⟨a,b,c,d,rfl⟩:=b7m G;obtain⟨_,m1,m2,m3,rfl⟩:=b7m N;have A:aA.cellsOf 3=1:=kR;obtain⟨z0,O,_,_⟩:=(Arg.a1Z hf (o:=0) 0 rfl rfl rfl rfl A).int underlying3;obtain⟨z1,Q,_,_⟩:=(Arg.a1Z hf (o:=1) 1 rfl rfl rfl rfl A).int underlying3;obtain⟨s2,Z,_⟩:=(Arg.a1Z hf (o:=2) 2 rfl rfl rfl rfl (show aA.cellsOf 9=1 by kernel_rfl)).str underlying9;obtain⟨l,v,h3,hr,_⟩:=(Arg.a1Z hf (o:=3) 3 rfl rfl rfl rfl (show aA.cellsOf 35=1 by kernel_rfl)).ints underlying35 underlying3 A;simp only[fA,dS,dU,fB,eY,and_true]at O Q Z h3;subst O Q Z h3;obtain⟨p,k,rfl⟩:=zN.a5t hr;exact⟨⟨⟨(z0,z1),s2,l⟩,p,k⟩,rfl,hr⟩
theorem Arg.items{cs m}(h:Arg enc W 72 cs m):∃x:Rw Fv,cs=OL x∧a7N (HW W) x:=by
 obtain⟨l,v,G,A,_,_,N⟩:=h.row (f:=CY) (size:=fun _=>0) underlying72 (show aA.cellsOf 74=4 by kernel_rfl) dE (fun x=>zN FI (HW W) x.f.p x.v) fun cs O _ h=>by
  obtain⟨x,G,A⟩:=h.item;exact⟨x,G,aW _,A⟩
 obtain⟨p,k,rfl⟩:=zN.a5t A;exact⟨⟨l,p,k⟩,G,A,N⟩
theorem a3y{v d p}(A:bH aA W .any base 22 v)(h:bD enc aA W 0 (fun _=>true) true 22 v d p)(O:∀x∈p,x.block<W.heap.size):
 ∃L:List (Rw Fv),LsA (HW W) L v∧Again enc W 22 v d p:=by
 have Q:=again kR (zA kR) h O;obtain⟨a,len,Z,rfl⟩:=okWide_slice underlying22 A;obtain⟨xs,v',G,N,_,_,h4⟩:=(Arg.of h).row (f:=OL) (size:=fun _=>0) underlying22 (show aA.cellsOf 72=1 by kernel_rfl) dE (fun x:Rw Fv=>a7N (HW W) x) fun cs m' _ h=>by
  obtain⟨x,G,N⟩:=h.items;exact⟨x,G,aW _,N⟩
 obtain rfl:Value.slice a len Z=v':=by simpa[fG]using G
 exact⟨xs,⟨N,h4⟩,Q⟩
theorem Arg.line{cs m}(h:Arg enc W 41 cs m):∃x:aY,cs=AX x:=by
 obtain⟨A,ms,G,_,hf⟩:=h.struct underlying41;rw[show aA.cellsOf 41=2 by kernel_rfl]at A;obtain⟨a,b,rfl⟩:=b7g A;obtain⟨_,m1,rfl⟩:=b7g G;obtain⟨Q,N,_⟩:=(Arg.a1Z hf (o:=0) 0 rfl rfl rfl rfl (show aA.cellsOf 9=1 by kernel_rfl)).str underlying9;obtain⟨Z,O,_,_⟩:=(Arg.a1Z hf (o:=1) 1 rfl rfl rfl rfl (show aA.cellsOf 3=1 by kernel_rfl)).int underlying3;simp only[fA,dS,dU,fB,eY,and_true]at N O;subst N O;exact⟨(Q,Z),rfl⟩
theorem Arg.lines{cs m}(h:Arg enc W 39 cs m):∃x:Rw aY,cs=OL x∧zN AX (HW W) x.l x.v:=by
 obtain⟨l,v,A,G,_,_,_⟩:=h.row (f:=AX) (size:=fun _=>0) underlying39 (show aA.cellsOf 41=2 by kernel_rfl) dE (fun _=>True) fun cs N _ h=>by
  obtain⟨x,A⟩:=h.line;exact⟨x,A,aW _,trivial⟩
 obtain⟨p,k,rfl⟩:=zN.a5t G;exact⟨⟨l,p,k⟩,A,G⟩
theorem b6A{v d p}(A:bH aA W .any base 38 v)(h:bD enc aA W 0 (fun _=>true) true 38 v d p)(O:∀x∈p,x.block<W.heap.size):
 ∃L:List (Rw aY),TW (HW W) L v∧Again enc W 38 v d p:=by
 have Q:=again kR (zA kR) h O;obtain⟨a,len,Z,rfl⟩:=okWide_slice underlying38 A;obtain⟨xs,v',G,N,_,_,h4⟩:=(Arg.of h).row (f:=OL) (size:=fun _=>0) underlying38 (show aA.cellsOf 39=1 by kernel_rfl) dE (fun x:Rw aY=>zN AX (HW W) x.l x.v) fun cs m' _ h=>by
  obtain⟨x,G,N⟩:=h.lines;exact⟨x,G,aW _,N⟩
 obtain rfl:Value.slice a len Z=v':=by simpa[fG]using G
 exact⟨xs,⟨N,h4⟩,Q⟩
