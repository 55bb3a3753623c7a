/-
  Own texts on the laws of the seat, joined: the logic, and contracts of functions. Conditions: none.
-/
import Derived.Test.YtojdemmgkdokmaaGreatDoorNmH
import Derived.Test.YtojdemmgkdokmaaGreatDoorPH19
import Derived.Test.YtojdemmgkdokmaaGreatDoorCards
import Derived.Test.YtojdemmgkdokmaaGreatDoorTie
import Derived.ProofKit
import Derived.OpenShut
import Derived.Lay
import Derived.Deep.DeepHandedRow
import Derived.WideKeyArr2
import Derived.Carry
import Derived.Lib.LaidU8T
import Derived.Lib.LaidU8
set_option linter.all false
set_option maxRecDepth 100000
set_option maxHeartbeats 40000000
open Go.Proofs.Tryz renaming prog -> aA,lays157_ren -> dA,lays157 -> dZ
open Nat renaming le_of_ble_eq_true -> aB,le_refl -> aC,zero_le -> dI
open Go.Sx.GN renaming part -> aF,none -> aV
open Go.Proofs.YtojdemmgkdokmaaGreatDoor.Rows renaming uptoBulk -> aG,laid_unicode_utf8_acceptRanges -> aZ,laid_unicode_White_Space -> bH,laid_strings_asciiSpace -> bJ,laid_unicode_utf8_first -> bK,uptoBulkAll -> eP
open Go.Sx.zM renaming c -> aH,z -> aN,s -> aP
open Go.Sx.J renaming z -> aI,persist -> aK,op -> aT,QD -> bV,eqv -> dF
open Go.Sx.CG renaming none -> aJ,one -> aO,agg -> aU
open List renaming mem_singleton -> aQ,mem_cons -> aS,sum_cons -> aX,getElem?_range -> bI,getElem?_map -> bP,length_range -> bQ,getElem?_eq_some_iff -> bW,not_mem_nil -> bY,length_take -> cO,getElem?_eq_getElem -> cZ,mem_of_mem_take -> dM,map_cons -> dU,map_map -> dW,getElem?_take -> dX,getElem?_drop -> dY,sum_nil -> fA
open Bk renaming bk -> aW,Ln -> bG,c2z -> bM,LA -> bT,a2C -> bU,K1 -> dL,a8d -> dN,a7T -> dP,a8h -> dQ,JR -> dV,LB -> eF,b3G -> eG
open Go.DataW renaming trodStep -> aY,trod -> dR,Trod -> eU,TrodAll -> eY
open Option.some renaming injEq -> bC,inj -> eX
open Option renaming map_eq_some_iff -> bD,bind_eq_some_iff -> dD,map_some -> dG
open Go.World renaming laidAll -> bF,cell? -> dJ,cell?_of_block -> dS
open Prod renaming fst -> bZ,snd -> dK
open Go.Input renaming okWide_of_okWideB -> dB
open Go.Proofs.YtojdemmgkdokmaaGreatDoor.Fv renaming f -> dH
open Cq renaming parse -> eH
open Go.Addr renaming add_lit -> fB
namespace Go.Proofs.YtojdemmgkdokmaaGreatDoor
open _root_.Go.Proofs.Tryz
open _root_.Go.Proofs.Tryz
open Go Go.Sx
theorem b9L{t a}(G:t.length≤1000)(O:a.length≤1000) h A:ZB (aW t a h A):=by
 have h1:∀f∈aW t a h A,f=Bk.bkT t h∨f=Bk.bkA a A:=fun f hf=>by
  unfold aW at hf
  split at hf<;>simp only[aS,bY,or_false]at hf
  ·exact hf
  exact .inl hf
 refine⟨?_,fun f hf=>?_⟩
 ·unfold aW;split<;>exact aB rfl
 rcases h1 f hf with rfl|rfl
 ·refine⟨(dE:1≤1000),?_,(dE:2≤2000000)⟩;show([t.length]:List Nat).sum≤_;simp only[aX,fA];omega
 refine⟨(dE:1≤1000),?_,(dE:2≤2000000)⟩;show([a.length]:List Nat).sum≤_;simp only[aX,fA];omega
theorem c1f{I b T x y}(h:QW I x.fs x.v)(A:QW I y.fs y.v)(G:I b=some (yY T (TQ x++TQ y))):OM I [x,y] (.slice (some ⟨b,0,none⟩) 2 2):=⟨zY.of (l:=[x,y]) (sp:=[]) (aC _) G,fun z hz=>by
 rcases aS.1 hz with g|g
 ·rw[g];exact h
 rw[aQ.1 g];exact A⟩
theorem c4s{I b T x}(h:QW I x.fs x.v)(A:I b=some (yY T (TQ x))):OM I [x] (.slice (some ⟨b,0,none⟩) 1 1):=⟨zY.of (l:=[x]) (sp:=[]) (aC _) (by rw[A];rfl),fun z hz=>by rw[aQ.1 hz];exact h⟩
theorem c5Z{I b T h A x y}(G:TP I h x)(O:TP I A y)(Z:I b=some (yY T [ptr h 0,ptr A 0])):MF I [(ptr h 0,some x),(ptr A 0,some y)] (.slice (some ⟨b,0,none⟩) 2 2):=⟨zY.of (l:=[(ptr h 0,some x),(ptr A 0,some y)]) (sp:=[]) (aC _) Z,fun z hz=>by
 rcases aS.1 hz with g|g
 ·rw[g];exact .inr ⟨h,x,rfl,rfl,G⟩
 rw[aQ.1 g];exact .inr ⟨A,y,rfl,rfl,O⟩⟩
theorem c4B{I b T h x}(A:TP I h x)(G:I b=some (yY T [ptr h 0,.pointer none])):MF I [(ptr h 0,some x),(.pointer none,none)] (.slice (some ⟨b,0,none⟩) 2 2):=⟨zY.of (l:=[(ptr h 0,some x),(.pointer none,none)]) (sp:=[]) (aC _) G,fun z hz=>by
 rcases aS.1 hz with g|g
 ·rw[g];exact .inr ⟨h,x,rfl,rfl,A⟩
 rw[aQ.1 g];exact .inl rT⟩
theorem b6S{p A G S r}(hl:S.length=2)(O:KT p [A,G] S)(Z:dV (flt dH (S.map bZ)) r):∃f1 e1 f2 e2,Bk.ans p A 0 f1 e1∧Bk.ans p G 1 f2 e2∧dV (f1++f2) r∧S.map dK=[e1,e2]:=by
 match S,hl with
 |[x,y],_=>
  obtain⟨o,h,ha⟩:=O 0 x rfl;cases h;obtain⟨o,h,hb⟩:=O 1 y rfl;cases h;have e:flt dH ([x,y].map bZ)=x.1.l.map dH++(y.1.l.map dH++[]):=rfl;rw[e,List.append_nil]at Z;exact⟨_,_,_,_,ha,hb,Z,rfl⟩
theorem c7p{S r}(h:S.length=2)(A:KT (eH Bk.s1) [some bT,some eF] S)(G:dV (flt dH (S.map bZ)) r):r=[⟨(1,1),dL,[0,1]⟩]∧S.map dK=[0,0]:=by
 obtain⟨_,_,_,_,h1,h2,h3,O⟩:=b6S h A G;obtain⟨rfl,rfl⟩:=bM h1 Bk.p1 Bk.rA1 Bk.fA1;obtain⟨rfl,rfl⟩:=bM h2 Bk.p1 Bk.rB1 Bk.fB1;exact⟨Bk.m1 h3,O⟩
theorem c7f{S r}(h:S.length=2)(A:KT (eH Bk.s2) [some bT,some eF] S)(G:dV (flt dH (S.map bZ)) r):r=[⟨(1,2),Bk.K2,[0]⟩]∧S.map dK=[0,0]:=by
 obtain⟨_,_,_,_,h1,h2,h3,O⟩:=b6S h A G;obtain⟨rfl,rfl⟩:=bM h1 Bk.p2 Bk.rA2 Bk.fA2;obtain⟨rfl,rfl⟩:=bM h2 Bk.p2 Bk.rB2 (gs:=[]) rfl;exact⟨Bk.m2 h3,O⟩
theorem c7m{S r}(h:S.length=2)(A:KT (eH Bk.s3) [some bT,some eF] S)(G:dV (flt dH (S.map bZ)) r):r=[]∧S.map dK=[40,40]:=by
 obtain⟨_,_,_,_,h1,h2,h3,O⟩:=b6S h A G;obtain⟨rfl,rfl⟩:=Bk.b5C h1 Bk.p3;obtain⟨rfl,rfl⟩:=Bk.b5C h2 Bk.p3;exact⟨Bk.m3 h3,O⟩
theorem c7d{S r}(h:S.length=2)(A:KT (eH Bk.s4) [some bT,none] S)(G:dV (flt dH (S.map bZ)) r):r=[⟨(1,1),dL,[0]⟩]∧S.map dK=[0,32]:=by
 obtain⟨_,_,_,_,h1,h2,h3,O⟩:=b6S h A G;obtain⟨rfl,rfl⟩:=bM h1 Bk.p4 Bk.rA4 Bk.fA1;obtain⟨rfl,rfl⟩:=Bk.c2J h2 Bk.p4;exact⟨Bk.m4 h3,O⟩
theorem b6x{I}{r:List Fv}{l}(h:r.map dH=l)(A:∀z∈r,ZK I z)(G:∀f∈l,f.p.length≤1000000000) n:∀z∈r.take n,FrS I z∧z.f.p.length≤1000000000:=fun z hz=>⟨(A z (dM hz)).1,G _ (h▸List.mem_map_of_mem (dM hz))⟩
theorem b3t{r:List Fv}{l}(h:r.map dH=l){m}(A:l.take 10=m):(r.take 10).map dH=m:=by rw[List.map_take,h,A]
theorem a8X{I z}(h:zY GY I z.f.p z.v):∀y∈[z],FrS I y:=fun y A=>by rw[aQ.1 A];exact h
theorem c5q{I b T x y}(h:zY CW I x.l x.v)(A:zY CW I y.l y.v)(G:I b=some (yY T [x.v,y.v])):a3I I [x,y] (.slice (some ⟨b,0,none⟩) 2 2):=⟨zY.of (l:=[x,y]) (sp:=[]) (aC _) G,fun z hz=>by
 rcases aS.1 hz with g|g
 ·rw[g];exact h
 rw[aQ.1 g];exact A⟩
theorem a1U I (hT:MW I)(ht:Tabs I):Pure aA 7 [] I (.bool true):=by
 refine yT.toPure ?_;refine yT.ob func7 ?_;intro w0 _;refine Cj.sr (aI yQ ?_);refine J.yV (aT rfl (yS (H1:=[]) rfl rfl rfl rfl rfl (a8J 1 1 dN bU _) ?_ (fun _ _ _ _ ⟨_,_,_,h,_⟩=>by cases h) (fun _ _ ⟨_,_,_,h,_⟩=>by cases h)));intro _ _ _ cf dw;have hT:=hT.mono cf;have ht:=ht.mono cf;obtain⟨_,ua,xa,h,aa,rfl⟩:=dw;cases h;obtain⟨pa,ca,rfl⟩:=rowLen aa.1;refine aT rfl (yS (H1:=[]) rfl rfl rfl rfl rfl (a8J 1 2 eG [] _) ?_ (fun _ _ _ _ ⟨_,_,_,h,_⟩=>by cases h) (fun _ _ ⟨_,_,_,h,_⟩=>by cases h));intro _ _ _ c8 d0;have hT:=hT.mono c8;have ht:=ht.mono c8;have aa:=aa.mono c8;obtain⟨wb,ub,xb,h,ad,rfl⟩:=d0;cases h;obtain⟨pb,cb,rfl⟩:=rowLen ad.1;refine aT rfl (AZ WZ OQ a1r (aU rfl (aU rfl aJ)) ?_);intro dx d1;refine aK d1 (fun _ c5 Z=>?_);have hT:=hT.mono c5;have ht:=ht.mono c5;have aa:=aa.mono c5;have ad:=ad.mono c5;have ai:OM _ [(⟨(1,1),0,0,.slice pa (aW dN bU ua xa).length ca,aW dN bU ua xa⟩:RJ),(⟨(1,2),0,0,.slice pb (aW eG [] ub xb).length cb,aW eG [] ub xb⟩:RJ)] (.slice (some ⟨dx,0,none⟩) 2 2):=c1f aa ad Z;refine aT rfl (yS (H1:=[]) rfl rfl rfl rfl rfl (UJ [(⟨(1,1),0,0,.slice pa (aW dN bU ua xa).length ca,aW dN bU ua xa⟩:RJ),(⟨(1,2),0,0,.slice pb (aW eG [] ub xb).length cb,aW eG [] ub xb⟩:RJ)] _ (aB rfl) (fun e he=>by simp only[aS,bY,or_false]at he;rcases he with rfl|rfl<;>(dsimp only;refine b9L ?_ ?_ _ _<;>exact aB rfl)) _ ai) ?_ (fun _ _ _ _ ⟨_,h,_⟩=>by cases h) (fun _ _ ⟨_,h,_⟩=>by cases h));intro _ _ _ c2 d2;have hT:=hT.mono c2;have ht:=ht.mono c2;have aa:=aa.mono c2;have ad:=ad.mono c2;have Z:=c2 _ _ Z;have ai:=ai.mono c2;obtain⟨la,h,ah,rfl⟩:=d2;cases h;replace ah:=Eq.mp (zD (TP _ la) (Bk.c7b ua xa ub xb)) ah;refine aI yQ ?_;refine J.yV (aT rfl (yS (H1:=[]) rfl rfl rfl rfl rfl (a8J 2 7 dP dQ _) ?_ (fun _ _ _ _ ⟨_,_,_,h,_⟩=>by cases h) (fun _ _ ⟨_,_,_,h,_⟩=>by cases h)));intro _ _ _ bt d3;have hT:=hT.mono bt;have ht:=ht.mono bt;have aa:=aa.mono bt;have ad:=ad.mono bt;have Z:=bt _ _ Z;have ai:=ai.mono bt;have ah:=ah.mono bt;obtain⟨_,uc,xc,h,al,rfl⟩:=d3;cases h;obtain⟨pc,cc,rfl⟩:=rowLen al.1;refine aT rfl (AZ WZ OQ a1r (aU rfl aJ) ?_);intro dy d4;refine aK d4 (fun _ br a1=>?_);have hT:=hT.mono br;have ht:=ht.mono br;have aa:=aa.mono br;have ad:=ad.mono br;have Z:=br _ _ Z;have ai:=ai.mono br;have ah:=ah.mono br;have al:=al.mono br;have an:OM _ [(⟨(2,7),0,0,.slice pc (aW dP dQ uc xc).length cc,aW dP dQ uc xc⟩:RJ)] (.slice (some ⟨dy,0,none⟩) 1 1):=c4s al a1;refine aT rfl (yS (H1:=[]) rfl rfl rfl rfl rfl (UJ [(⟨(2,7),0,0,.slice pc (aW dP dQ uc xc).length cc,aW dP dQ uc xc⟩:RJ)] _ (aB rfl) (fun e he=>by simp only[aS,bY,or_false]at he;subst he;dsimp only;refine b9L ?_ ?_ _ _<;>exact aB rfl) _ an) ?_ (fun _ _ _ _ ⟨_,h,_⟩=>by cases h) (fun _ _ ⟨_,h,_⟩=>by cases h));intro _ _ _ bo d5;have hT:=hT.mono bo;have ht:=ht.mono bo;have aa:=aa.mono bo;have ad:=ad.mono bo;have Z:=bo _ _ Z;have ai:=ai.mono bo;have ah:=ah.mono bo;have al:=al.mono bo;have a1:=bo _ _ a1;have an:=an.mono bo;obtain⟨lb,h,ao,rfl⟩:=d5;cases h;replace ao:=Eq.mp (zD (TP _ lb) (Bk.c7q uc xc)) ao;refine aI yQ ?_;refine J.yV (aI yP ?_);refine aI yP ?_;refine aT rfl (AZ a0I a1G a2w (aO rfl (aO rfl aJ)) ?_);intro dz d6;refine aK d6 (fun _ bl a4=>?_);have hT:=hT.mono bl;have ht:=ht.mono bl;have aa:=aa.mono bl;have ad:=ad.mono bl;have Z:=bl _ _ Z;have ai:=ai.mono bl;have ah:=ah.mono bl;have al:=al.mono bl;have a1:=bl _ _ a1;have an:=an.mono bl;have ao:=ao.mono bl;have aq:MF _ [(ptr la 0,some bT),(ptr lb 0,some eF)] (.slice (some ⟨dz,0,none⟩) 2 2):=c5Z ah ao a4;refine aI yQ ?_;refine J.yV (aI (zV (pl:= #[(0,1),(1,1)]) rfl rfl QZ rfl WX (fun w=>by simp[AB]) (aF rfl rfl rfl (aH aN) (aF rfl rfl rfl (aP (aH aN)) aV))) ?_);refine aT rfl (AZ JW AB RQ (aO rfl (aO rfl aJ)) ?_);intro b35 d7;refine aK d7 (fun _ bg a6=>?_);have hT:=hT.mono bg;have ht:=ht.mono bg;have aa:=aa.mono bg;have ad:=ad.mono bg;have Z:=bg _ _ Z;have ai:=ai.mono bg;have ah:=ah.mono bg;have al:=al.mono bg;have a1:=bg _ _ a1;have an:=an.mono bg;have ao:=ao.mono bg;have a4:=bg _ _ a4;have aq:=aq.mono bg;have ae:zY GY _ ([0,1]:List Int) (.slice (some ⟨b35,0,none⟩) 2 2):=zY.of (l:=([0,1]:List Int)) (sp:=[]) (aC _) a6;refine aI (zV (pl:= #[(0,2),(2,1),(3,1)]) rfl rfl NQ rfl GI (fun w=>by simp[AY,IG,zL]) (aF rfl rfl rfl (aH (aH aN)) (aF rfl rfl rfl (aP (aP (aH aN))) (aF rfl rfl rfl (aP (aP (aP (aH aN)))) aV)))) ?_;refine aT rfl (BP NQ ?_);intro _ _;refine aT rfl (zS 0 EL (aH (aH (aH (aH aN)))) AV.z ?_);refine J.yV (aI yP ?_);refine aT rfl (yS (H1:=[]) rfl rfl rfl rfl rfl (UD [(ptr la 0,some bT),(ptr lb 0,some eF)] _ Bk.s1 10 dE ⟨by decide +kernel,by decide +kernel⟩ (aB rfl) _ aq hT ht) ?_ (fun _ _ _ _ ⟨_,_,_,_,h,_⟩=>by cases h) (fun _ _ ⟨_,_,_,_,h,_⟩=>by cases h));intro _ _ _ bc d8;have hT:=hT.mono bc;have ht:=ht.mono bc;have aa:=aa.mono bc;have ad:=ad.mono bc;have Z:=bc _ _ Z;have ai:=ai.mono bc;have ah:=ah.mono bc;have al:=al.mono bc;have a1:=bc _ _ a1;have an:=an.mono bc;have ao:=ao.mono bc;have a4:=bc _ _ a4;have aq:=aq.mono bc;have a6:=bc _ _ a6;have ae:=ae.mono bc;obtain⟨Sx,rx,_,_,h,bw,bx,bz,ax,ay,av,rfl⟩:=d8;cases h;obtain⟨co,cp⟩:=c7p bw bx bz;rw[cp]at av;clear bw bx bz cp;obtain⟨_,_,rfl⟩:=rowLen ax;obtain⟨_,_,rfl⟩:=rowLen av;refine aI yP ?_;refine aI AQ ?_;refine aI AQ ?_;refine aI yQ ?_;refine aI yQ ?_;refine J.yV (aI yP ?_);refine aT rfl (yS (H1:=[]) rfl rfl rfl rfl rfl (UD [(ptr la 0,some bT),(ptr lb 0,some eF)] _ Bk.s2 10 dE ⟨by decide +kernel,by decide +kernel⟩ (aB rfl) _ aq hT ht) ?_ (fun _ _ _ _ ⟨_,_,_,_,h,_⟩=>by cases h) (fun _ _ ⟨_,_,_,_,h,_⟩=>by cases h));intro _ _ _ b8 d9;have hT:=hT.mono b8;have ht:=ht.mono b8;have aa:=aa.mono b8;have ad:=ad.mono b8;have Z:=b8 _ _ Z;have ai:=ai.mono b8;have ah:=ah.mono b8;have al:=al.mono b8;have a1:=b8 _ _ a1;have an:=an.mono b8;have ao:=ao.mono b8;have a4:=b8 _ _ a4;have aq:=aq.mono b8;have a6:=b8 _ _ a6;have ae:=ae.mono b8;have ax:=ax.mono b8;have ay:=fun x9 A=>(ay x9 A).mono b8;have av:=av.mono b8;obtain⟨_,ry,_,_,h,bw,bx,bz,az,b2,b0,rfl⟩:=d9;cases h;obtain⟨cq,cr⟩:=c7f bw bx bz;rw[cr]at b0;clear bw bx bz cr;obtain⟨_,_,rfl⟩:=rowLen az;obtain⟨_,_,rfl⟩:=rowLen b0;refine aI yP ?_;refine aI AQ ?_;refine aI AQ ?_;refine aI yQ ?_;refine aI yQ ?_;refine J.yV (aI yP ?_);refine aT rfl (yS (H1:=[]) rfl rfl rfl rfl rfl (UD [(ptr la 0,some bT),(ptr lb 0,some eF)] _ Bk.s3 10 dE ⟨by decide +kernel,by decide +kernel⟩ (aB rfl) _ aq hT ht) ?_ (fun _ _ _ _ ⟨_,_,_,_,h,_⟩=>by cases h) (fun _ _ ⟨_,_,_,_,h,_⟩=>by cases h));intro _ _ _ b1 da;have hT:=hT.mono b1;have ht:=ht.mono b1;have aa:=aa.mono b1;have ad:=ad.mono b1;have Z:=b1 _ _ Z;have ai:=ai.mono b1;have ah:=ah.mono b1;have al:=al.mono b1;have a1:=b1 _ _ a1;have an:=an.mono b1;have ao:=ao.mono b1;have a4:=b1 _ _ a4;have aq:=aq.mono b1;have a6:=b1 _ _ a6;have ae:=ae.mono b1;have ax:=ax.mono b1;have ay:=fun x9 A=>(ay x9 A).mono b1;have av:=av.mono b1;have az:=az.mono b1;have b2:=fun x9 A=>(b2 x9 A).mono b1;have b0:=b0.mono b1;obtain⟨_,_,_,_,h,bw,bx,bz,b4,b5,b3,rfl⟩:=da;cases h;obtain⟨e0,ct⟩:=c7m bw bx bz;rw[ct]at b3;clear bw bx bz ct;obtain rfl:=List.map_eq_nil_iff.1 e0;obtain⟨_,_,rfl⟩:=rowLen b4;obtain⟨_,_,rfl⟩:=rowLen b3;refine aI yP ?_;refine aI AQ ?_;refine aI AQ ?_;refine aI yQ ?_;refine aI yQ ?_;refine J.yV (aI yP ?_);refine aT rfl (AZ a0I a1G a2w (aO rfl (aO rfl aJ)) ?_);intro e1 db;refine aK db (fun _ au af=>?_);have hT:=hT.mono au;have ht:=ht.mono au;have aa:=aa.mono au;have ad:=ad.mono au;have Z:=au _ _ Z;have ai:=ai.mono au;have ah:=ah.mono au;have al:=al.mono au;have a1:=au _ _ a1;have an:=an.mono au;have ao:=ao.mono au;have a4:=au _ _ a4;have aq:=aq.mono au;have a6:=au _ _ a6;have ae:=ae.mono au;have ax:=ax.mono au;have ay:=fun x9 A=>(ay x9 A).mono au;have av:=av.mono au;have az:=az.mono au;have b2:=fun x9 A=>(b2 x9 A).mono au;have b0:=b0.mono au;have b4:=b4.mono au;have b5:=fun x9 A=>(b5 x9 A).mono au;have b3:=b3.mono au;have b6:MF _ [(ptr la 0,some bT),(.pointer none,none)] (.slice (some ⟨e1,0,none⟩) 2 2):=c4B ah af;refine aT rfl (yS (H1:=[]) rfl rfl rfl rfl rfl (UD [(ptr la 0,some bT),(.pointer none,none)] _ Bk.s4 10 dE ⟨by decide +kernel,by decide +kernel⟩ (aB rfl) _ b6 hT ht) ?_ (fun _ _ _ _ ⟨_,_,_,_,h,_⟩=>by cases h) (fun _ _ ⟨_,_,_,_,h,_⟩=>by cases h));intro _ _ _ ap dc;have hT:=hT.mono ap;have ht:=ht.mono ap;have aa:=aa.mono ap;have ad:=ad.mono ap;have Z:=ap _ _ Z;have ai:=ai.mono ap;have ah:=ah.mono ap;have al:=al.mono ap;have a1:=ap _ _ a1;have an:=an.mono ap;have ao:=ao.mono ap;have a4:=ap _ _ a4;have aq:=aq.mono ap;have a6:=ap _ _ a6;have ae:=ae.mono ap;have ax:=ax.mono ap;have ay:=fun x9 A=>(ay x9 A).mono ap;have av:=av.mono ap;have az:=az.mono ap;have b2:=fun x9 A=>(b2 x9 A).mono ap;have b0:=b0.mono ap;have b4:=b4.mono ap;have b5:=fun x9 A=>(b5 x9 A).mono ap;have b3:=b3.mono ap;have af:=ap _ _ af;have b6:=b6.mono ap;obtain⟨_,rv,_,ev,h,bw,bx,bz,b9,ba,b7,rfl⟩:=dc;cases h;obtain⟨cu,cx⟩:=c7d bw bx bz;rw[cx]at b7;clear bw bx bz cx;obtain⟨_,cv,rfl⟩:=rowLen b9;obtain⟨_,_,rfl⟩:=rowLen b7;refine aI yP ?_;refine aI AQ ?_;refine aI AQ ?_;refine aI yQ ?_;refine aI yQ ?_;refine J.yV (aI (zV (pl:= #[(0,1),(1,1)]) rfl rfl NS rfl VT (fun w=>by simp[AB,zL]) (aF rfl rfl rfl (aH aN) (aF rfl rfl rfl (aP (aH aN)) aV))) ?_);refine aI (zV (pl:= #[(0,1),(1,1)]) rfl rfl NS rfl VT (fun w=>by simp[AB,zL]) (aF rfl rfl rfl (aH aN) (aF rfl rfl rfl (aP (aH aN)) aV))) ?_;refine aT rfl (AZ KL IQ NS (aU rfl (aU rfl aJ)) ?_);intro cy dd;refine aI (zV (pl:= #[(0,1),(1,1)]) rfl rfl NS rfl VT (fun w=>by simp[AB,zL]) (aF rfl rfl rfl (aH aN) (aF rfl rfl rfl (aP (aH aN)) aV))) ?_;refine aI (zV (pl:= #[(0,1),(1,1)]) rfl rfl NS rfl VT (fun w=>by simp[AB,zL]) (aF rfl rfl rfl (aH aN) (aF rfl rfl rfl (aP (aH aN)) aV))) ?_;refine aT rfl (AZ KL IQ NS (aU rfl (aU rfl aJ)) ?_);intro cz de;refine aT rfl (AZ underlying81 sizeOf77 zeroValue77 (aO rfl (aO rfl aJ)) ?_);intro e2 df;refine J.pull (Pull.s (Pull.s Pull.z)) ?_;refine aK dd (fun _ ak am=>?_);have hT:=hT.mono ak;have ht:=ht.mono ak;have aa:=aa.mono ak;have ad:=ad.mono ak;have Z:=ak _ _ Z;have ai:=ai.mono ak;have ah:=ah.mono ak;have al:=al.mono ak;have a1:=ak _ _ a1;have an:=an.mono ak;have ao:=ao.mono ak;have a4:=ak _ _ a4;have aq:=aq.mono ak;have a6:=ak _ _ a6;have ae:=ae.mono ak;have ax:=ax.mono ak;have ay:=fun x9 A=>(ay x9 A).mono ak;have av:=av.mono ak;have az:=az.mono ak;have b2:=fun x9 A=>(b2 x9 A).mono ak;have b0:=b0.mono ak;have b4:=b4.mono ak;have b5:=fun x9 A=>(b5 x9 A).mono ak;have b3:=b3.mono ak;have af:=ak _ _ af;have b6:=b6.mono ak;have b9:=b9.mono ak;have ba:=fun x9 A=>(ba x9 A).mono ak;have b7:=b7.mono ak;refine J.pull (Pull.s Pull.z) ?_;refine aK de (fun _ aj ar=>?_);have hT:=hT.mono aj;have ht:=ht.mono aj;have aa:=aa.mono aj;have ad:=ad.mono aj;have Z:=aj _ _ Z;have ai:=ai.mono aj;have ah:=ah.mono aj;have al:=al.mono aj;have a1:=aj _ _ a1;have an:=an.mono aj;have ao:=ao.mono aj;have a4:=aj _ _ a4;have aq:=aq.mono aj;have a6:=aj _ _ a6;have ae:=ae.mono aj;have ax:=ax.mono aj;have ay:=fun x9 A=>(ay x9 A).mono aj;have av:=av.mono aj;have az:=az.mono aj;have b2:=fun x9 A=>(b2 x9 A).mono aj;have b0:=b0.mono aj;have b4:=b4.mono aj;have b5:=fun x9 A=>(b5 x9 A).mono aj;have b3:=b3.mono aj;have af:=aj _ _ af;have b6:=b6.mono aj;have b9:=b9.mono aj;have ba:=fun x9 A=>(ba x9 A).mono aj;have b7:=b7.mono aj;have am:=aj _ _ am;refine aK df (fun _ ag aw=>?_);have hT:=hT.mono ag;have ht:=ht.mono ag;have aa:=aa.mono ag;have ad:=ad.mono ag;have Z:=ag _ _ Z;have ai:=ai.mono ag;have ah:=ah.mono ag;have al:=al.mono ag;have a1:=ag _ _ a1;have an:=an.mono ag;have ao:=ao.mono ag;have a4:=ag _ _ a4;have aq:=aq.mono ag;have a6:=ag _ _ a6;have ae:=ae.mono ag;have ax:=ax.mono ag;have ay:=fun x9 A=>(ay x9 A).mono ag;have av:=av.mono ag;have az:=az.mono ag;have b2:=fun x9 A=>(b2 x9 A).mono ag;have b0:=b0.mono ag;have b4:=b4.mono ag;have b5:=fun x9 A=>(b5 x9 A).mono ag;have b3:=b3.mono ag;have af:=ag _ _ af;have b6:=b6.mono ag;have b9:=b9.mono ag;have ba:=fun x9 A=>(ba x9 A).mono ag;have b7:=b7.mono ag;have am:=ag _ _ am;have ar:=ag _ _ ar;have be:a3I _ [(⟨([([97],1),([99],2)]:List bG),some ⟨cy,0,none⟩,2⟩:Rw bG),(⟨([([97],3),([98],1)]:List bG),some ⟨cz,0,none⟩,2⟩:Rw bG)] (.slice (some ⟨e2,0,none⟩) 2 2):=c5q (zY.of (l:=([([97],1),([99],2)]:List bG)) (sp:=[]) (aC _) am) (zY.of (l:=([([97],3),([98],1)]:List bG)) (sp:=[]) (aC _) ar) aw;refine aT rfl (FU rfl rfl rfl rfl rfl (c1A [(⟨([([97],1),([99],2)]:List bG),some ⟨cy,0,none⟩,2⟩:Rw bG),(⟨([([97],3),([98],1)]:List bG),some ⟨cz,0,none⟩,2⟩:Rw bG)] _ 2 (aB rfl) (aB rfl) _ be) ?_ (fun _ _ _ _ ⟨_,h,_⟩=>by cases h) (fun _ _ ⟨_,h,_⟩=>by cases h));intro _ _ _ ab dg dh;have hT:=hT.mono ab;have ht:=ht.mono ab;have aa:=aa.mono ab;have ad:=ad.mono ab;have Z:=ab _ _ Z;have ai:=ai.mono ab;have ah:=ah.mono ab;have al:=al.mono ab;have a1:=ab _ _ a1;have an:=an.mono ab;have ao:=ao.mono ab;have a4:=ab _ _ a4;have aq:=aq.mono ab;have a6:=ab _ _ a6;have ae:=ae.mono ab;have ax:=ax.mono ab;have ay:=fun x9 A=>(ay x9 A).mono ab;have av:=av.mono ab;have az:=az.mono ab;have b2:=fun x9 A=>(b2 x9 A).mono ab;have b0:=b0.mono ab;have b4:=b4.mono ab;have b5:=fun x9 A=>(b5 x9 A).mono ab;have b3:=b3.mono ab;have af:=ab _ _ af;have b6:=b6.mono ab;have b9:=b9.mono ab;have ba:=fun x9 A=>(ba x9 A).mono ab;have b7:=b7.mono ab;have am:=ab _ _ am;have ar:=ab _ _ ar;have aw:=ab _ _ aw;have be:=be.mono ab;obtain⟨_,h,di⟩:=dh;cases h;refine J.a5B di dg (fun _ ac bi=>?_);have hT:=hT.mono ac;have ht:=ht.mono ac;have aa:=aa.mono ac;have ad:=ad.mono ac;have Z:=ac _ _ Z;have ai:=ai.mono ac;have ah:=ah.mono ac;have al:=al.mono ac;have a1:=ac _ _ a1;have an:=an.mono ac;have ao:=ao.mono ac;have a4:=ac _ _ a4;have aq:=aq.mono ac;have a6:=ac _ _ a6;have ae:=ae.mono ac;have ax:=ax.mono ac;have ay:=fun x9 A=>(ay x9 A).mono ac;have av:=av.mono ac;have az:=az.mono ac;have b2:=fun x9 A=>(b2 x9 A).mono ac;have b0:=b0.mono ac;have b4:=b4.mono ac;have b5:=fun x9 A=>(b5 x9 A).mono ac;have b3:=b3.mono ac;have af:=ac _ _ af;have b6:=b6.mono ac;have b9:=b9.mono ac;have ba:=fun x9 A=>(ba x9 A).mono ac;have b7:=b7.mono ac;have am:=ac _ _ am;have ar:=ac _ _ ar;have aw:=ac _ _ aw;have be:=be.mono ac;replace bi:zY CW _ [([97],4),([98],1)] _:=Bk.sc1▸bi.row;obtain⟨_,_,rfl⟩:=rowLen bi;refine aI yQ ?_;refine J.AO (Cj.region (aI yP ?_));refine aI (zX UU EL (yR.at 0 rfl)) ?_;refine aT rfl (AZ EW EL NQ (aU rfl aJ) ?_);intro e3 dj;refine aK dj (fun _ a9 bb=>?_);have hT:=hT.mono a9;have ht:=ht.mono a9;have aa:=aa.mono a9;have ad:=ad.mono a9;have Z:=a9 _ _ Z;have ai:=ai.mono a9;have ah:=ah.mono a9;have al:=al.mono a9;have a1:=a9 _ _ a1;have an:=an.mono a9;have ao:=ao.mono a9;have a4:=a9 _ _ a4;have aq:=aq.mono a9;have a6:=a9 _ _ a6;have ae:=ae.mono a9;have ax:=ax.mono a9;have ay:=fun x9 A=>(ay x9 A).mono a9;have av:=av.mono a9;have az:=az.mono a9;have b2:=fun x9 A=>(b2 x9 A).mono a9;have b0:=b0.mono a9;have b4:=b4.mono a9;have b5:=fun x9 A=>(b5 x9 A).mono a9;have b3:=b3.mono a9;have af:=a9 _ _ af;have b6:=b6.mono a9;have b9:=b9.mono a9;have ba:=fun x9 A=>(ba x9 A).mono a9;have b7:=b7.mono a9;have am:=a9 _ _ am;have ar:=a9 _ _ ar;have aw:=a9 _ _ aw;have be:=be.mono a9;have bi:=bi.mono a9;have bf:zY FK _ [(⟨⟨(1,1),dL,[0,1]⟩,some ⟨b35,0,none⟩,2⟩:Fv)] (.slice (some ⟨e3,0,none⟩) 1 1):=zY.of (l:=[(⟨⟨(1,1),dL,[0,1]⟩,some ⟨b35,0,none⟩,2⟩:Fv)]) (sp:=[]) (aC _) bb;refine aT rfl (yU rfl rfl rfl rfl rfl (ZT (rx.take 10) [(⟨⟨(1,1),dL,[0,1]⟩,some ⟨b35,0,none⟩,2⟩:Fv)] _ _ (by rw[cO];omega) _ ax bf (b6x co ay dE 10) (a8X ae)) ?_);refine dF 59 rfl (show _= .bool true from(zD Value.bool (zI (b3t co rfl)))) ?_;refine aI (ER rfl rfl) ?_;refine aI yP ?_;refine zU 5 61 false (zD not rfl) (zK yP ?_);refine zU 5 61 false (zD not rfl) (AZ RY JJ a4I (aO rfl (aO rfl aJ)) ?_);intro e4 dk;refine aK dk (fun _ a8 bd=>?_);have hT:=hT.mono a8;have ht:=ht.mono a8;have aa:=aa.mono a8;have ad:=ad.mono a8;have Z:=a8 _ _ Z;have ai:=ai.mono a8;have ah:=ah.mono a8;have al:=al.mono a8;have a1:=a8 _ _ a1;have an:=an.mono a8;have ao:=ao.mono a8;have a4:=a8 _ _ a4;have aq:=aq.mono a8;have a6:=a8 _ _ a6;have ae:=ae.mono a8;have ax:=ax.mono a8;have ay:=fun x9 A=>(ay x9 A).mono a8;have av:=av.mono a8;have az:=az.mono a8;have b2:=fun x9 A=>(b2 x9 A).mono a8;have b0:=b0.mono a8;have b4:=b4.mono a8;have b5:=fun x9 A=>(b5 x9 A).mono a8;have b3:=b3.mono a8;have af:=a8 _ _ af;have b6:=b6.mono a8;have b9:=b9.mono a8;have ba:=fun x9 A=>(ba x9 A).mono a8;have b7:=b7.mono a8;have am:=a8 _ _ am;have ar:=a8 _ _ ar;have aw:=a8 _ _ aw;have be:=be.mono a8;have bi:=bi.mono a8;have bb:=a8 _ _ bb;have bf:=bf.mono a8;have bj:zY GY _ ([0,0]:List Int) (.slice (some ⟨e4,0,none⟩) 2 2):=zY.of (l:=([0,0]:List Int)) (sp:=[]) (aC _) bd;refine bV 5 61 false _ rfl rfl rfl (zD not rfl) (yU rfl rfl rfl rfl rfl (YG [0,0] [0,0] _ _ dE _ av bj) ?_);refine dF 64 rfl (show _= .bool true from(zD Value.bool dE)) ?_;refine zU 5 61 false (zD not rfl) (zK (ER rfl rfl) ?_);refine aI (DV (zD not rfl)) ?_;refine aI yP ?_;refine zU 11 67 false (zD not rfl) (zK yP ?_);refine bV 11 67 false _ rfl rfl rfl (zD not rfl) (IE (zV (pl:= #[(0,1),(1,1)]) rfl rfl QZ rfl WX (fun w=>by simp[AB]) (aF rfl rfl rfl (aH aN) (aF rfl rfl rfl (aP (aH aN)) aV))) rfl rfl ?_);refine zU 11 67 false (zD not rfl) (AZ JW AB RQ (aO rfl aJ) ?_);intro b83 dl;refine aK dl (fun _ a7 bh=>?_);have hT:=hT.mono a7;have ht:=ht.mono a7;have aa:=aa.mono a7;have ad:=ad.mono a7;have Z:=a7 _ _ Z;have ai:=ai.mono a7;have ah:=ah.mono a7;have al:=al.mono a7;have a1:=a7 _ _ a1;have an:=an.mono a7;have ao:=ao.mono a7;have a4:=a7 _ _ a4;have aq:=aq.mono a7;have a6:=a7 _ _ a6;have ae:=ae.mono a7;have ax:=ax.mono a7;have ay:=fun x9 A=>(ay x9 A).mono a7;have av:=av.mono a7;have az:=az.mono a7;have b2:=fun x9 A=>(b2 x9 A).mono a7;have b0:=b0.mono a7;have b4:=b4.mono a7;have b5:=fun x9 A=>(b5 x9 A).mono a7;have b3:=b3.mono a7;have af:=a7 _ _ af;have b6:=b6.mono a7;have b9:=b9.mono a7;have ba:=fun x9 A=>(ba x9 A).mono a7;have b7:=b7.mono a7;have am:=a7 _ _ am;have ar:=a7 _ _ ar;have aw:=a7 _ _ aw;have be:=be.mono a7;have bi:=bi.mono a7;have bb:=a7 _ _ bb;have bf:=bf.mono a7;have bd:=a7 _ _ bd;have bj:=bj.mono a7;have bn:zY GY _ ([0]:List Int) (.slice (some ⟨b83,0,none⟩) 1 1):=zY.of (l:=([0]:List Int)) (sp:=[]) (aC _) bh;refine bV 11 67 false _ rfl rfl rfl (zD not rfl) (IE (zV (pl:= #[(0,2),(2,1),(3,1)]) rfl rfl NQ rfl GI (fun w=>by simp[AY,IG,zL]) (aF rfl rfl rfl (aH (aH aN)) (aF rfl rfl rfl (aP (aP (aH aN))) (aF rfl rfl rfl (aP (aP (aP (aH aN)))) aV)))) rfl rfl ?_);refine zU 11 67 false (zD not rfl) (AZ EW EL NQ (aU rfl aJ) ?_);intro e5 dm;refine aK dm (fun _ a5 bm=>?_);have hT:=hT.mono a5;have ht:=ht.mono a5;have aa:=aa.mono a5;have ad:=ad.mono a5;have Z:=a5 _ _ Z;have ai:=ai.mono a5;have ah:=ah.mono a5;have al:=al.mono a5;have a1:=a5 _ _ a1;have an:=an.mono a5;have ao:=ao.mono a5;have a4:=a5 _ _ a4;have aq:=aq.mono a5;have a6:=a5 _ _ a6;have ae:=ae.mono a5;have ax:=ax.mono a5;have ay:=fun x9 A=>(ay x9 A).mono a5;have av:=av.mono a5;have az:=az.mono a5;have b2:=fun x9 A=>(b2 x9 A).mono a5;have b0:=b0.mono a5;have b4:=b4.mono a5;have b5:=fun x9 A=>(b5 x9 A).mono a5;have b3:=b3.mono a5;have af:=a5 _ _ af;have b6:=b6.mono a5;have b9:=b9.mono a5;have ba:=fun x9 A=>(ba x9 A).mono a5;have b7:=b7.mono a5;have am:=a5 _ _ am;have ar:=a5 _ _ ar;have aw:=a5 _ _ aw;have be:=be.mono a5;have bi:=bi.mono a5;have bb:=a5 _ _ bb;have bf:=bf.mono a5;have bd:=a5 _ _ bd;have bj:=bj.mono a5;have bh:=a5 _ _ bh;have bn:=bn.mono a5;have bq:zY FK _ [(⟨⟨(1,2),Bk.K2,[0]⟩,some ⟨b83,0,none⟩,1⟩:Fv)] (.slice (some ⟨e5,0,none⟩) 1 1):=zY.of (l:=[(⟨⟨(1,2),Bk.K2,[0]⟩,some ⟨b83,0,none⟩,1⟩:Fv)]) (sp:=[]) (aC _) bm;refine bV 11 67 false _ rfl rfl rfl (zD not rfl) (yU rfl rfl rfl rfl rfl (ZT (ry.take 10) [(⟨⟨(1,2),Bk.K2,[0]⟩,some ⟨b83,0,none⟩,1⟩:Fv)] _ _ (by rw[cO];omega) _ az bq (b6x cq b2 dE 10) (a8X bn)) ?_);refine dF 73 rfl (show _= .bool true from(zD Value.bool (zI (b3t cq rfl)))) ?_;refine zU 11 67 false (zD not rfl) (zK (ER rfl rfl) ?_);refine aI (DV (zD not rfl)) ?_;refine J.ns (Cj.cond rfl (fun ch=>Bool.noConfusion (Eq.trans (Eq.symm (zD not rfl)) ch)) (fun ch=>?_));refine Cj.ks (Cj.sr (aT rfl (AZ JW AB RQ (aO rfl aJ) ?_)));intro ce dq;refine aK dq (fun _ a3 bp=>?_);have hT:=hT.mono a3;have ht:=ht.mono a3;have aa:=aa.mono a3;have ad:=ad.mono a3;have Z:=a3 _ _ Z;have ai:=ai.mono a3;have ah:=ah.mono a3;have al:=al.mono a3;have a1:=a3 _ _ a1;have an:=an.mono a3;have ao:=ao.mono a3;have a4:=a3 _ _ a4;have aq:=aq.mono a3;have a6:=a3 _ _ a6;have ae:=ae.mono a3;have ax:=ax.mono a3;have ay:=fun x9 A=>(ay x9 A).mono a3;have av:=av.mono a3;have az:=az.mono a3;have b2:=fun x9 A=>(b2 x9 A).mono a3;have b0:=b0.mono a3;have b4:=b4.mono a3;have b5:=fun x9 A=>(b5 x9 A).mono a3;have b3:=b3.mono a3;have af:=a3 _ _ af;have b6:=b6.mono a3;have b9:=b9.mono a3;have ba:=fun x9 A=>(ba x9 A).mono a3;have b7:=b7.mono a3;have am:=a3 _ _ am;have ar:=a3 _ _ ar;have aw:=a3 _ _ aw;have be:=be.mono a3;have bi:=bi.mono a3;have bb:=a3 _ _ bb;have bf:=bf.mono a3;have bd:=a3 _ _ bd;have bj:=bj.mono a3;have bh:=a3 _ _ bh;have bn:=bn.mono a3;have bm:=a3 _ _ bm;have bq:=bq.mono a3;have bu:zY GY _ ([0]:List Int) (.slice (some ⟨ce,0,none⟩) 1 1):=zY.of (l:=([0]:List Int)) (sp:=[]) (aC _) bp;refine aI (qq2 (off':=3) GI IG) ?_;refine aT rfl (zS 0 IG (aP (aP (aP (aH aN)))) AV.z ?_);refine J.yV (aI yP ?_);refine aI (AU EW) ?_;refine dF 79 rfl (show _=i64 0 from rfl) ?_;refine aI BO ?_;refine dF 80 rfl (show _= .bool true from rfl) ?_;refine aI yP ?_;refine CZ 3 81 true (zK yP ?_);refine CZ 3 81 true (AZ RY JJ a4I (aO rfl (aO rfl aJ)) ?_);intro e6 dr;refine aK dr (fun _ a2 bv=>?_);have hT:=hT.mono a2;have ht:=ht.mono a2;have aa:=aa.mono a2;have ad:=ad.mono a2;have Z:=a2 _ _ Z;have ai:=ai.mono a2;have ah:=ah.mono a2;have al:=al.mono a2;have a1:=a2 _ _ a1;have an:=an.mono a2;have ao:=ao.mono a2;have a4:=a2 _ _ a4;have aq:=aq.mono a2;have a6:=a2 _ _ a6;have ae:=ae.mono a2;have ax:=ax.mono a2;have ay:=fun x9 A=>(ay x9 A).mono a2;have av:=av.mono a2;have az:=az.mono a2;have b2:=fun x9 A=>(b2 x9 A).mono a2;have b0:=b0.mono a2;have b4:=b4.mono a2;have b5:=fun x9 A=>(b5 x9 A).mono a2;have b3:=b3.mono a2;have af:=a2 _ _ af;have b6:=b6.mono a2;have b9:=b9.mono a2;have ba:=fun x9 A=>(ba x9 A).mono a2;have b7:=b7.mono a2;have am:=a2 _ _ am;have ar:=a2 _ _ ar;have aw:=a2 _ _ aw;have be:=be.mono a2;have bi:=bi.mono a2;have bb:=a2 _ _ bb;have bf:=bf.mono a2;have bd:=a2 _ _ bd;have bj:=bj.mono a2;have bh:=a2 _ _ bh;have bn:=bn.mono a2;have bm:=a2 _ _ bm;have bq:=bq.mono a2;have bp:=a2 _ _ bp;have bu:=bu.mono a2;have c3:zY GY _ ([40,40]:List Int) (.slice (some ⟨e6,0,none⟩) 2 2):=zY.of (l:=([40,40]:List Int)) (sp:=[]) (aC _) bv;refine bV 3 81 true _ rfl rfl rfl rfl (yU rfl rfl rfl rfl rfl (YG [40,40] [40,40] _ _ dE _ b3 c3) ?_);refine dF 84 rfl (show _= .bool true from(zD Value.bool dE)) ?_;refine aI JV ?_;refine aI yP ?_;refine CZ 8 86 true (zK yP ?_);refine CZ 8 86 true (zK (zX UU EL (yR.at 0 rfl)) ?_);refine CZ 8 86 true (AZ EW EL NQ (aU rfl aJ) ?_);intro e7 dt;refine aK dt (fun _ a0 c4=>?_);have hT:=hT.mono a0;have ht:=ht.mono a0;have aa:=aa.mono a0;have ad:=ad.mono a0;have Z:=a0 _ _ Z;have ai:=ai.mono a0;have ah:=ah.mono a0;have al:=al.mono a0;have a1:=a0 _ _ a1;have an:=an.mono a0;have ao:=ao.mono a0;have a4:=a0 _ _ a4;have aq:=aq.mono a0;have a6:=a0 _ _ a6;have ae:=ae.mono a0;have ax:=ax.mono a0;have ay:=fun x9 A=>(ay x9 A).mono a0;have av:=av.mono a0;have az:=az.mono a0;have b2:=fun x9 A=>(b2 x9 A).mono a0;have b0:=b0.mono a0;have b4:=b4.mono a0;have b5:=fun x9 A=>(b5 x9 A).mono a0;have b3:=b3.mono a0;have af:=a0 _ _ af;have b6:=b6.mono a0;have b9:=b9.mono a0;have ba:=fun x9 A=>(ba x9 A).mono a0;have b7:=b7.mono a0;have am:=a0 _ _ am;have ar:=a0 _ _ ar;have aw:=a0 _ _ aw;have be:=be.mono a0;have bi:=bi.mono a0;have bb:=a0 _ _ bb;have bf:=bf.mono a0;have bd:=a0 _ _ bd;have bj:=bj.mono a0;have bh:=a0 _ _ bh;have bn:=bn.mono a0;have bm:=a0 _ _ bm;have bq:=bq.mono a0;have bp:=a0 _ _ bp;have bu:=bu.mono a0;have bv:=a0 _ _ bv;have c3:=c3.mono a0;have c6:zY FK _ [(⟨⟨(1,1),dL,[0]⟩,some ⟨ce,0,none⟩,1⟩:Fv)] (.slice (some ⟨e7,0,none⟩) 1 1):=zY.of (l:=[(⟨⟨(1,1),dL,[0]⟩,some ⟨ce,0,none⟩,1⟩:Fv)]) (sp:=[]) (aC _) c4;refine bV 8 86 true _ rfl rfl rfl rfl (yU rfl rfl rfl rfl rfl (ZT (rv.take 10) [(⟨⟨(1,1),dL,[0]⟩,some ⟨ce,0,none⟩,1⟩:Fv)] _ _ (by rw[cO];omega) _ b9 c6 (b6x cu ba dE 10) (a8X bu)) ?_);refine dF 90 rfl (show _= .bool true from(zD Value.bool (zI (b3t cu rfl)))) ?_;refine aI JV ?_;refine aI yP ?_;refine CZ 14 92 true (zK yP ?_);refine CZ 14 92 true (AZ RY JJ a4I (aO rfl (aO rfl aJ)) ?_);intro e8 du;refine aK du (fun _ O c7=>?_);have hT:=hT.mono O;have ht:=ht.mono O;have aa:=aa.mono O;have ad:=ad.mono O;have Z:=O _ _ Z;have ai:=ai.mono O;have ah:=ah.mono O;have al:=al.mono O;have a1:=O _ _ a1;have an:=an.mono O;have ao:=ao.mono O;have a4:=O _ _ a4;have aq:=aq.mono O;have a6:=O _ _ a6;have ae:=ae.mono O;have ax:=ax.mono O;have ay:=fun x9 A=>(ay x9 A).mono O;have av:=av.mono O;have az:=az.mono O;have b2:=fun x9 A=>(b2 x9 A).mono O;have b0:=b0.mono O;have b4:=b4.mono O;have b5:=fun x9 A=>(b5 x9 A).mono O;have b3:=b3.mono O;have af:=O _ _ af;have b6:=b6.mono O;have b9:=b9.mono O;have ba:=fun x9 A=>(ba x9 A).mono O;have b7:=b7.mono O;have am:=O _ _ am;have ar:=O _ _ ar;have aw:=O _ _ aw;have be:=be.mono O;have bi:=bi.mono O;have bb:=O _ _ bb;have bf:=bf.mono O;have bd:=O _ _ bd;have bj:=bj.mono O;have bh:=O _ _ bh;have bn:=bn.mono O;have bm:=O _ _ bm;have bq:=bq.mono O;have bp:=O _ _ bp;have bu:=bu.mono O;have bv:=O _ _ bv;have c3:=c3.mono O;have c4:=O _ _ c4;have c6:=c6.mono O;have c9:zY GY _ ([0,32]:List Int) (.slice (some ⟨e8,0,none⟩) 2 2):=zY.of (l:=([0,32]:List Int)) (sp:=[]) (aC _) c7;refine bV 14 92 true _ rfl rfl rfl rfl (yU rfl rfl rfl rfl rfl (YG [0,32] [0,32] _ _ dE _ b7 c9) ?_);refine dF 95 rfl (show _= .bool true from(zD Value.bool dE)) ?_;refine aI JV ?_;refine aI yP ?_;refine CZ 19 97 true (zK yP ?_);refine bV 19 97 true _ rfl rfl rfl rfl (IE (zV (pl:= #[(0,1),(1,1)]) rfl rfl NS rfl VT (fun w=>by simp[AB,zL]) (aF rfl rfl rfl (aH aN) (aF rfl rfl rfl (aP (aH aN)) aV))) rfl rfl ?_);refine bV 19 97 true _ rfl rfl rfl rfl (IE (zV (pl:= #[(0,1),(1,1)]) rfl rfl NS rfl VT (fun w=>by simp[AB,zL]) (aF rfl rfl rfl (aH aN) (aF rfl rfl rfl (aP (aH aN)) aV))) rfl rfl ?_);refine CZ 19 97 true (AZ KL IQ NS (aU rfl (aU rfl aJ)) ?_);intro dv cj;refine aK cj (fun _ G ci=>?_);have hT:=hT.mono G;have ht:=ht.mono G;have aa:=aa.mono G;have ad:=ad.mono G;have Z:=G _ _ Z;have ai:=ai.mono G;have ah:=ah.mono G;have al:=al.mono G;have a1:=G _ _ a1;have an:=an.mono G;have ao:=ao.mono G;have a4:=G _ _ a4;have aq:=aq.mono G;have a6:=G _ _ a6;have ae:=ae.mono G;have ax:=ax.mono G;have ay:=fun x9 A=>(ay x9 A).mono G;have av:=av.mono G;have az:=az.mono G;have b2:=fun x9 A=>(b2 x9 A).mono G;have b0:=b0.mono G;have b4:=b4.mono G;have b5:=fun x9 A=>(b5 x9 A).mono G;have b3:=b3.mono G;have af:=G _ _ af;have b6:=b6.mono G;have b9:=b9.mono G;have ba:=fun x9 A=>(ba x9 A).mono G;have b7:=b7.mono G;have am:=G _ _ am;have ar:=G _ _ ar;have aw:=G _ _ aw;have be:=be.mono G;have bi:=bi.mono G;have bb:=G _ _ bb;have bf:=bf.mono G;have bd:=G _ _ bd;have bj:=bj.mono G;have bh:=G _ _ bh;have bn:=bn.mono G;have bm:=G _ _ bm;have bq:=bq.mono G;have bp:=G _ _ bp;have bu:=bu.mono G;have bv:=G _ _ bv;have c3:=c3.mono G;have c4:=G _ _ c4;have c6:=c6.mono G;have c7:=G _ _ c7;have c9:=c9.mono G;have cm:zY CW _ ([([97],4),([98],1)]:List bG) (.slice (some ⟨dv,0,none⟩) 2 2):=zY.of (l:=([([97],4),([98],1)]:List bG)) (sp:=[]) (aC _) ci;refine bV 19 97 true _ rfl rfl rfl rfl (yU rfl rfl rfl rfl rfl (b9a [([97],4),([98],1)] [([97],4),([98],1)] _ _ dE _ bi cm) ?_);refine dF 102 rfl (show _= .bool true from(zD Value.bool dE)) ?_;refine aI JV ?_;refine aI yQ ?_;refine J.ns (Cj.ret (Ej.keep (Keeps.d Keeps.n) ?_));refine zN ?_;exact rT
end Go.Proofs.YtojdemmgkdokmaaGreatDoor
namespace Go.Proofs.YtojdemmgkdokmaaGreatDoor
open Go.ChangeShapes Go.WideShapes Go.ChangeAt Go.RowKit Go.Sx Go.Lib Go.ChangeMaps Go.WideMaps
theorem own:ownKnob aA.godebug=none:=kR
def HW (W:World):Heap:=fun b=>W.heap[b]?
theorem HW.ready W:Ready (HW W) [] W:=⟨fun _ _ h=>h,sI,sI,sI⟩
theorem HW.below{W w' A H'}(h:St W [] (HW W) A H' w'):Below W.heap.size W w':=⟨h.os,h.tape,h.output,h.size,fun b G=>h.frm b G sI⟩
theorem HW.calls{f args W v}(h:Sx.Pure aA f args (HW W) v):Calls aA f args.toArray W fun e w'=>e= .returned v∧Below W.heap.size W w':=
 (h.2 W (HW.ready W)).mono fun _ _ ⟨_,_,hs,h1,_,_⟩=>⟨h1,HW.below hs⟩
theorem a1Q{H:Type}{enc P f}{s:ChangeSpec}{a0 fresh a3 again W W' args v ds gs h G O}
 (hB:Below W.heap.size W W')(hW:DataW.Whole enc P f.params.toList s.vars a0 W args.toList ds gs h)(a5:h=G++O)
 (a4:∀(b:Nat) (sp:Nat→Bool) (hd:Bool),eY enc P W' b sp hd f.resultTypes.toList (v.resultList f.resultTypes.size) (s.fn H (ds++gs)).results [])
 (a1:∀sp:Nat→Bool,(∀p∈h,sp p.block=true)→eY enc P W' 0 sp true f.params.toList args.toList (s.fn H (ds++gs)).args G)
 (a2:∀sp:Nat→Bool,(∀p∈h,sp p.block=true)→DataW.TrodVars enc P W' sp s.vars (s.fn H (ds++gs)).vars O)
 (a8:∀(j:Nat) (t:TypeId) (r:Value),f.resultTypes[j]?=some t→(v.resultList f.resultTypes.size)[j]?=some r→Value.okWide P W' .any 0 t r):s.post enc P f a0 fresh a3 again W args v W':=by
 have old:∀p∈h,p.block<W.heap.size:=hW.lt;have mem:∀p,p∈h↔p∈G∨p∈O:=fun p=>by rw[a5];exact List.mem_append
 have Z:([]++G)++O=h:=by rw[a5];rfl
 refine⟨ds,gs,h,[],G,O,hW,a4 _ _ _,a1 _ fun p A=>zI (old p A),a2 _ fun p A=>zI (old p A),World.keptBut_mono (fun p A=>⟨A,.inr ((mem p).1 A)⟩) (hB.frame (· ∈h)),fun _=>?_⟩;have a9:=a1 (fun _=>true) fun _ _=>rfl;obtain⟨_,_,_,_,_,a7,aa⟩:=hW;refine⟨a8,_,_,([]++G)++O,⟨[]++G,O,trodAll_append a9 (a4 _ _ _),a2 _ fun _ _=>rfl,rfl,fun b off A=>?_,fun ha=>?_⟩,fun p A _=>?_⟩
 ·have a6:MemPlace.cell b off∈h:=Z▸A;have ab:b<W.heap.size:=old _ a6;have hf:=a7 b off a6;unfold World.frozen? at hf ⊢;rw[hB.block b ab];exact hf
 ·exact Z▸aa ha
 exact Z▸A
def Again {H:Type} (enc:TypeId×Value→H) (W:World) (t:TypeId) (v:Value) (d:DataW H) (p:List MemPlace):Prop:=
 ∀W',Below W.heap.size W W'→∀sp:Nat→Bool,(∀q∈p,sp q.block=true)→eU enc aA W' 0 sp true t v d p
section
variable {H:Type} {enc:TypeId×Value→H} {W:World} {base:Nat}
theorem c7k{n}(h:(Lit.int .u8 n).wf=true):∃c:UInt8,n=(c.toNat:Int):=by
 simp[Lit.wf,IntKind.min,IntKind.max,IntKind.signed,IntKind.bits]at h;refine⟨UInt8.ofNatLT n.toNat (by show n.toNat<256;omega),?_⟩;rw[UInt8.toNat_ofNatLT];omega
end
theorem YZ{H:Type}{enc:TypeId×Value→H} os {f fn}{s:OpenSpec}{A G h} args
 (hv:((bF aA os h).forCall (fun _ _=>0) ⟨#[],args,[]⟩).variablesZipB aA=true)
 (hr:(((bF aA os h).forCall (fun _ _=>0) ⟨#[],args,[]⟩).heap.toList.drop aA.globals.size).take ((begin aA (fun _ _=>0) default).world.heap.size-aA.globals.size)=(begin aA (fun _ _=>0) default).world.heap.toList.drop aA.globals.size)
 (O:Input.okWideB aA ((bF aA os h).forCall (fun _ _=>0) ⟨#[],args,[]⟩) f ⟨#[],args,[]⟩=true)
 (Z:s.preRow enc aA fn A G h ((bF aA os h).forCall (fun _ _=>0) ⟨#[],args,[]⟩).memory args):
 ∃(w:World) (tape:Tape) (i:Input),w.os=os∧(w.forCall tape i).Shaped aA∧i.vars=[]∧Input.okWide aA (w.forCall tape i) .any w.heap.size f i∧
  s.preRow enc aA fn A G h (w.forCall tape i).memory i.args∧({}:Assume).holds aA (lone (Frame.enter aA f i.args .normal) [] (w.forCall tape i)):=
 ⟨bF aA os h,fun _ _=>0,⟨#[],args,[]⟩,World.laidAll_os _ _ _,World.shaped_of_ZipB hv hr,(dB (base:=0) O).1,(dB O).2,Z,by
  simp only[Assume.holds];exact⟨sI,sI,sI,sI,sI⟩⟩
section
variable {H:Type} {enc:TypeId×Value→H} {W:World} {base:Nat}
def Arg (enc:TypeId×Value→H) (W:World) (t:TypeId) (cs:List Value) (m:Nat):Prop:=∃n x,dR enc aA W 0 (fun _=>true) true n t cs=some x∧aG x.1=m
theorem Arg.of{t v d p}(h:eU enc aA W 0 (fun _=>true) true t v d p):Arg enc W t v.cells.toList (aG d):=by
 obtain⟨n,hn⟩:=h;exact⟨n,_,hn,rfl⟩
theorem laidOut:laidOutB aA=true:=kR
theorem again{t v d p}(hr:aA.readableRec t=true)(A:t<aA.types.size)(h:eU enc aA W 0 (fun _=>true) true t v d p)(G:∀x∈p,x.block<W.heap.size):Again enc W t v d p:=
 fun _ Z _ O=>WideElems.Trod_stays laidOut hr A h (fun _ hx=>Z.same (G _ hx)) O
theorem mapM_some{α β:Type}{g}:∀{l:List α} {ys:List β},l.mapM g=some ys→ys.length=l.length∧∀(i:Nat) x,l[i]?=some x→∃y,ys[i]?=some y∧g x=some y
 |[],ys,h=>by simp at h;subst h;exact⟨rfl,fun i x A=>by simp at A⟩
 |a::l,ys,h=>by
  rw[List.mapM_cons]at h;cases ha:g a with
  |none=>simp[ha]at h
  |some y=>
   cases hl:l.mapM g with
   |none=>simp[ha,hl]at h
   |some zs=>
    simp[ha,hl]at h;subst h;obtain⟨h1,h2⟩:=mapM_some hl;refine⟨by simp[h1],fun i x A=>?_⟩;cases i with
    |zero=>simp at A;subst A;exact⟨y,rfl,ha⟩
    |succ i=>exact h2 i x (by simpa using A)
theorem a3T:∀(l:List (DataW H)),eP l=(l.map aG).sum
 |[]=>rfl
 |d::r=>by simp only[eP,dU,aX,a3T r]
theorem Arg.step{t cs m}(h:Arg enc W t cs m):∃n x,aY enc aA W 0 (fun _=>true) true (dR enc aA W 0 (fun _=>true) true n) t cs=some x∧aG x.1=m:=by
 obtain⟨n,x,h,A⟩:=h;cases n with
 |zero=>simp[dR]at h
 |succ n=>exact⟨n,x,(DataW.trod_step enc aA W 0 (fun _=>true) true n t cs).symm.trans h,A⟩
theorem Arg.int{t k cs m}(G:aA.underlying t=some (.int k))(h:Arg enc W t cs m):∃z,cs=[.int k z]∧(Lit.int k z).wf=true∧m=1:=by
 obtain⟨n,x,h,A⟩:=h;obtain⟨z,rfl,rfl,O⟩:=DataW.trod_int G h;simp only[aG]at A;exact⟨z,rfl,O,A.symm⟩
theorem Arg.str{t cs m}(G:aA.underlying t=some .string)(h:Arg enc W t cs m):∃s:List UInt8,cs=[Sx.str s]∧m=s.length+1:=by
 obtain⟨n,x,h,A⟩:=h;obtain⟨s,rfl,rfl,_⟩:=DataW.trod_string G h;simp only[aG]at A;exact⟨s.data.toList,by cases s;simp[Sx.str],A.symm⟩
theorem Arg.bool{t cs m}(A:aA.underlying t=some .bool)(h:Arg enc W t cs m):∃b:Bool,cs=[.bool b]:=by
 obtain⟨n,x,h,_⟩:=h.step;unfold aY at h;rw[A]at h
 split at h<;>simp_all
theorem Arg.struct{t fs cs m}(O:aA.underlying t=some (.struct fs))(h:Arg enc W t cs m):
 cs.length=aA.cellsOf t∧∃ms:List Nat,ms.length=fs.size∧ms.sum+1=m∧∀(i:Nat) f G,fs[i]?=some f→ms[i]?=some G→Arg enc W f.type ((cs.drop f.offset).take (aA.cellsOf f.type)) G:=by
 obtain⟨n,x,h,Z⟩:=h.step;unfold aY at h;simp only[O]at h
 split at h
 ·rename_i hl
  refine⟨hl,?_⟩;simp only[bD]at h;obtain⟨xs,hx,rfl⟩:=h;obtain⟨h1,h2⟩:=mapM_some hx;refine⟨xs.map fun y=>aG y.1,by simp[h1],?_,fun i f G hf A=>?_⟩
  ·rw[←Z];simp only[aG,a3T,dW];rfl
  obtain⟨y,hy,hg⟩:=h2 i f (by simpa using hf);rw[bP,hy]at A;simp only[dG,bC]at A;exact⟨n,y,hg,A⟩
 cases h
theorem Arg.array{t e k cs m}(O:aA.underlying t=some (.array k e))(h:Arg enc W t cs m):
 cs.length=aA.cellsOf t∧∃ms:List Nat,ms.length=k∧ms.sum+1=m∧∀(i G:Nat),ms[i]?=some G→Arg enc W e ((cs.drop (i*aA.cellsOf e)).take (aA.cellsOf e)) G:=by
 obtain⟨n,x,h,Z⟩:=h.step;unfold aY at h;simp only[O]at h
 split at h
 ·rename_i hl
  refine⟨hl,?_⟩;simp only[bD]at h;obtain⟨xs,hx,rfl⟩:=h;obtain⟨h1,h2⟩:=mapM_some hx;rw[bQ]at h1;refine⟨xs.map fun y=>aG y.1,by simp[h1],?_,fun i G A=>?_⟩
  ·rw[←Z];simp only[aG,a3T,dW];rfl
  have hi:i<k:=by
   have:=(bW.1 A).1;simpa[h1]using this
  obtain⟨y,hy,hg⟩:=h2 i i (bI hi);rw[bP,hy]at A;simp only[dG,bC]at A;exact⟨n,y,hg,A⟩
 cases h
theorem cells_at{a n cs}(h:W.cells? 0 a n=some cs):cs.length=n∧∀i,i<n→W.cell? (a.add i)=cs[i]?:=by
 unfold World.cells? at h;rw[zG (dI _)]at h;obtain⟨h1,h2⟩:=mapM_some h;rw[bQ]at h1;refine⟨h1,fun i A=>?_⟩;obtain⟨y,G,hg⟩:=h2 i i (bI A);rw[hg,G]
theorem Arg.slice{t e sz cs m}(ht:aA.underlying t=some (.slice e))(a3:aA.cellsOf e=sz)(a1:0<sz)(h:Arg enc W t cs m):
 ∃(p:Option Addr) (len O:Nat) (ms:List Nat),cs=[.slice p len O]∧len≤O∧O≤maxLen∧ms.length=len∧ms.sum+1≤m∧(0<len→∃b o cells T fr,p=some ⟨b,o,none⟩∧HW W b=some (.cells (List.toArray cells) T fr)∧
  ∀(i m':Nat),ms[i]?=some m'→((cells.drop (o+i*sz)).take sz).length=sz∧Arg enc W e ((cells.drop (o+i*sz)).take sz) m'):=by
 obtain⟨n,x,g,hm⟩:=h.step;clear h;unfold aY at g;simp only[ht]at g
 split at g<;>first|(exfalso;simp_all;done)|skip
 ·simp only[bC]at g;subst g;exact⟨none,0,0,[],rfl,aC _,dI _,rfl,by rw[←hm];simp[aG],fun h=>absurd h dE⟩
 rename_i a len O he
 cases he
 split at g
 ·rename_i hl
  simp only[if_true,dD,bD]at g;obtain⟨G,a4,rest,_,rfl⟩:=g;obtain⟨h1,h2⟩:=mapM_some a4;rw[bQ]at h1;refine⟨some a,len,O,G.map fun y=>aG y.1,rfl,hl.2.1,hl.2.2,by simp[h1],?_,fun h0=>?_⟩
  ·rw[←hm];simp only[aG,a3T,dW];have:(G.map fun y=>aG y.1).sum=(G.map (aG∘fun x=>x.1)).sum:=rfl;omega
  have elem:∀i,i<len→∃(cs:List Value) (y:DataW H×List MemPlace),W.cells? 0 (a.add (i*sz)) sz=some cs∧G[i]?=some y∧dR enc aA W 0 (fun _=>true) true n e cs=some y:=fun i hi=>by
   obtain⟨y,hy,hg⟩:=h2 i i (bI hi);simp only[dD]at hg;obtain⟨cs,hc,hg⟩:=hg;rw[a3]at hc;exact⟨cs,y,hc,hy,hg⟩
  obtain⟨_,y0,a0,_,_⟩:=elem 0 h0;obtain⟨_,a0⟩:=cells_at a0;have A:=a0 0 a1;rw[cZ oM]at A;rw[Nat.zero_mul]at A;have ha:a.add 0=a:=by simp[Addr.add]
  rw[ha,ha]at A;obtain⟨blk,off,a2⟩:=a;cases a2 with
  |some sp=>obtain⟨_,_,_,_,hs⟩:=World.shape?_of_cell? A;cases hs
  |none=>
   have h':=A;unfold dJ at h';cases hb:W.heap[blk]? with
   |none=>simp only[hb]at h';cases h'
   |some o=>
    cases o with
    |cells cells T fr=>
     refine⟨blk,off,cells.toList,T,fr,rfl,by show W.heap[blk]?=_;rw[hb],fun i m' Z=>?_⟩;have hi:i<len:=by
      have:=(bW.1 Z).1;simpa[h1]using this
     obtain⟨cs,y,hc,hy,hg⟩:=elem i hi;obtain⟨a5,a6⟩:=cells_at hc;have a7:(cells.toList.drop (off+i*sz)).take sz=cs:=by
      apply List.ext_getElem?
      intro j;rcases Nat.lt_or_ge j sz with hj|hj
      ·have h3:=a6 j hj;rw[fB,fB]at h3;unfold dJ at h3;simp only[hb]at h3;rw[dX,zG hj,dY,←h3];simp
      rw[dX,zF oM,List.getElem?_eq_none oM]
     rw[a7];rw[bP,hy]at Z;simp only[dG,bC]at Z;exact⟨a5,n,y,hg,Z⟩
    |_=>simp only[hb]at h';cases h'
 cases g
theorem Arg.row{α:Type}{f size t e sz cs m}(ht:aA.underlying t=some (.slice e))(a4:aA.cellsOf e=sz)(a2:0<sz)(Q:α→Prop)
 (he:∀(cs:List Value) (G:Nat),G≤m→Arg enc W e cs G→∃x:α,cs=f x∧size x≤G∧Q x)(h:Arg enc W t cs m):
 ∃(l:List α) (v:Value),cs=[v]∧zY f (HW W) l v∧(l.map size).sum+1≤m∧l.length≤maxLen∧∀x∈l,Q x:=by
 obtain⟨p,len,a0,ms,rfl,a1,_,a5,a6,hb⟩:=h.slice ht a4 a2;rcases Nat.eq_zero_or_pos len with h0|h0
 ·subst h0;exact⟨[],_,rfl,⟨p,a0,rfl,a1,fun h=>absurd rfl h⟩,by simp;omega,dI _,fun x Z=>by cases Z⟩
 obtain⟨b,o,A,T,fr,rfl,a3,O⟩:=hb h0
 have key:∀(ms:List Nat) (o:Nat),ms.sum+1≤m→(∀(i G:Nat),ms[i]?=some G→((A.drop (o+i*sz)).take sz).length=sz∧Arg enc W e ((A.drop (o+i*sz)).take sz) G)→
  ∃(l:List α) (sp:List Value),l.length=ms.length∧A.drop o=l.flatMap f++sp∧(l.map size).sum≤ms.sum∧∀x∈l,Q x:=by
  intro ms
  induction ms with
  |nil=>exact fun o _ _=>⟨[],A.drop o,rfl,rfl,aC _,fun x Z=>by cases Z⟩
  |cons a r ih=>
   intro o hs O;rw[aX]at hs;have h0:=O 0 a rfl;rw[Nat.zero_mul,Nat.add_zero]at h0;obtain⟨x,Z,_,hq⟩:=he _ a oM h0.2;obtain⟨l,sp,h1,h2,h3,h4⟩:=ih (o+sz) oM fun i G hi=>by
    have:=O (i+1) G (by simpa using hi);rw[show o+(i+1)*sz=o+sz+i*sz by rw[Nat.add_mul];omega]at this;exact this
   refine⟨x::l,sp,by simp[h1],?_,by simp only[dU,aX];omega,fun y hy=>?_⟩
   ·rw[List.flatMap_cons,List.append_assoc,←h2,←Z,←List.drop_drop];exact(List.take_append_drop sz (A.drop o)).symm
   rcases aS.1 hy with rfl|hy
   ·exact hq
   exact h4 y hy
 obtain⟨l,sp,h1,h2,h3,h4⟩:=key ms o a6 O;have a7:l.length=len:=h1.trans a5;subst a7;exact⟨l,_,rfl,⟨_,a0,rfl,a1,fun _=>⟨b,o,A,T,fr,sp,rfl,a3,h2⟩⟩,oM,oM,h4⟩
theorem b2F{α:Type}{f}:∀{l:List α},(∀x,1≤f x)→l.length≤(l.map f).sum
 |[],_=>dI _
 |a::r,h=>by
  have:=b2F (l:=r) h;have:=h a;simp only[List.length_cons,dU,aX];omega
theorem Arg.ints{t e cs m}(G:aA.underlying t=some (.slice e))(O:aA.underlying e=some (.int .i64))(A:aA.cellsOf e=1)(h:Arg enc W t cs m):
 ∃(l:List Int) (v:Value),cs=[v]∧zY (fun n:Int=>[i64 n]) (HW W) l v∧l.length+1≤m:=by
 obtain⟨l,v,h1,h2,h3,_,_⟩:=h.row (f:=fun n:Int=>[i64 n]) (size:=fun _=>1) G A dE (fun _=>True) fun cs Z _ h=>by
  obtain⟨z,rfl,_,rfl⟩:=h.int O;exact⟨z,rfl,aC _,trivial⟩
 have:=b2F (f:=fun _:Int=>1) (l:=l) fun _=>aC _;exact⟨l,v,h1,h2,oM⟩
end
end Go.Proofs.YtojdemmgkdokmaaGreatDoor
namespace Go.Proofs.YtojdemmgkdokmaaGreatDoor
open Go.ChangeShapes Go.WideShapes Go.ChangeAt Go.RowKit Go.Sx Go.Lib Go.ChangeMaps
theorem b2t{P W name k zs g t e n}
 (hg:P.globalNamed name=some g)(G:(P.globals[g]?).map (·.type)=some t)(ht:P.underlying t=some (.array n e))(he:P.underlying e=some (.int k))(O:P.cellsOf e=1)(Z:P.cellsOf t=n)
 (h:VarReads P W name (tabData k zs)):TabIs P W name k zs:=by
 obtain⟨_,_,cs,_,p,a0,a1,A,hd⟩:=h;obtain rfl:=eX (hg.symm.trans a0);obtain rfl:=eX (G.symm.trans a1);unfold TabIs;rw[A,←cells_of_tab ht he O Z hd]
theorem a5q{W L}(O:laidMet aA L W)(Z:("unicode.White_Space",bH)∈L)(ha:("strings.asciiSpace",bJ)∈L):MW (HW W):=by
 have e1:(bH:DataW Unit)=whiteData:=kR;have e2:(bJ:DataW Unit)=tabData .u8 asciiSpaceTab:=kR;have A:TabIs aA W "strings.asciiSpace" .u8 asciiSpaceTab:=b2t (g:=1) (t:=dA.t 119) (e:=dA.t 5) (n:=256) kR kR dZ.t119 dZ.t5 kR kR (e2▸laidMet.reads O ha);have hS:WhiteTab 3 W:=whiteTab_of_reads (ρ:=dA) { dZ with } ⟨kR,kR,kR,kR,kR,kR,kR,kR⟩ (e1▸laidMet.reads O Z);intro w G;have key:∀(a:Addr) (v:Value),W.cell? a=some v→w.cell? a=some v:=fun a v h=>by
  have h0:=h;unfold dJ at h;cases hb:W.heap[a.block]? with
  |none=>rw[hb]at h;cases h
  |some o=>
   have:=dS (w:=w) (w':=W) (a:=a) (by rw[G _ _ hb,hb]);rw[←this];exact h0
 refine⟨?_,?_⟩
 ·unfold TabIs World.var? at A ⊢;have hg:aA.globalNamed "strings.asciiSpace" =some 1:=kR;rw[hg]at A ⊢;simp only[Option.bind_some]at A ⊢;cases hb:W.heap[(1:Nat)]? with
  |none=>rw[hb]at A;cases A
  |some o=>rw[G _ _ hb];rw[hb]at A;exact A
 obtain⟨T,oT,R,oR,h1,h2,h3,h4,h5⟩:=hS;exact⟨T,oT,R,oR,key _ _ h1,key _ _ h2,key _ _ h3,key _ _ h4,fun i hi=>key _ _ (h5 i hi)⟩
theorem a5A{W L}(G:laidMet aA L W)(hf:("unicode/utf8.first",bK)∈L)(Z:("unicode/utf8.acceptRanges",aZ)∈L):Tabs (HW W):=by
 have e3:(bK:DataW Unit)=firstData:=kR;have e4:(aZ:DataW Unit)=acceptData:=kR;have A:Lib.Utf8Tabs 4 5 W:=utf8Tabs_of_readsT (ρ:=Tryz.lays260_ren) (U8Types.of260 Tryz.lays260) ⟨kR,kR,kR,kR,kR,kR,kR⟩ (e3▸laidMet.reads G hf) (e4▸laidMet.reads G Z);intro w hw;have key:∀(a:Addr) (v:Value),W.cell? a=some v→w.cell? a=some v:=fun a v h=>by
  have h0:=h;unfold dJ at h;cases hb:W.heap[a.block]? with
  |none=>rw[hb]at h;cases h
  |some o=>
   have:=dS (w:=w) (w':=W) (a:=a) (by rw[hw _ _ hb,hb]);rw[←this];exact h0
 exact⟨fun c hc=>key _ _ (A.1 c hc),fun i O=>⟨key _ _ (A.2 i O).1,key _ _ (A.2 i O).2⟩⟩
end Go.Proofs.YtojdemmgkdokmaaGreatDoor
namespace Go.Proofs.YtojdemmgkdokmaaGreatDoor
open Go.ChangeShapes Go.WideShapes Go.ChangeAt Go.RowKit Go.Sx Go.Lib Go.ChangeMaps Go.WideMaps
section
variable {H:Type} {enc:TypeId×Value→H} {W:World} {base:Nat}
theorem Arg.field{fs:Array Field}{cs:List Value}{ms:List Nat}(h:∀(i:Nat) f m',fs[i]?=some f→ms[i]?=some m'→Arg enc W f.type ((cs.drop f.offset).take (aA.cellsOf f.type)) m')(i:Nat){f m t o k}
 (hf:fs[i]?=some f)(A:ms[i]?=some m)(G:f.type=t)(O:f.offset=o)(Z:aA.cellsOf t=k):Arg enc W t ((cs.drop o).take k) m:=by
 subst G O Z;exact h i f m hf A
theorem list4{α:Type}{l:List α}(h:l.length=4):∃a b c d,l=[a,b,c,d]:=by
 match l,h with
 |[a,b,c,d],_=>exact⟨a,b,c,d,rfl⟩
theorem c5l{n}(h:(Lit.int .i64 n).wf=true):In64 n:=by
 have h1:(decide (-9223372036854775808≤n) && decide (n≤9223372036854775807))=true:=h;rw[Bool.and_eq_true,zH,zH]at h1;exact h1
theorem Arg.elem{e k}{cs:List Value}{ms:List Nat}(h:∀(i A:Nat),ms[i]?=some A→Arg enc W e ((cs.drop (i*1)).take 1) A)(G:aA.underlying e=some (.int .i64))(a0:ms.length=k) i (hi:i<k):∃z:Int,cs[i]?=some (i64 z)∧In64 z:=by
 have O:ms[i]?=some (ms[i]'oM):=cZ _;obtain⟨z,hz,Z,_⟩:=(h i _ O).int G;refine⟨z,?_,c5l Z⟩;have:=zD (fun l=>l[0]?) hz;simpa[dY]using this
theorem b9l{cs}(A:cs.length=4)(h:∀i,i<4→∃z:Int,cs[i]?=some (i64 z)∧In64 z):∃q:Ix.Four,cs=VO q∧YA q:=by
 match cs,A with
 |[a,b,c,d],_=>
  obtain⟨G,O,w0⟩:=h 0 dE;obtain⟨Z,e1,w1⟩:=h 1 dE;obtain⟨z2,e2,w2⟩:=h 2 dE;obtain⟨z3,e3,w3⟩:=h 3 dE;cases O;cases e1;cases e2;cases e3;exact⟨⟨G,Z,z2,z3⟩,rfl,⟨w0,w1,w2,w3⟩⟩
theorem Arg.four {cs : List Value} {m : Nat} (h : Arg enc W 192 cs m) : ∃ q : Ix.Four, cs = VO q ∧ YA q := by
  obtain ⟨hl, ms, hml, _, hf⟩ := h.array Tryz.underlying192
  rw [show Tryz.prog.cellsOf 192 = 4 by kernel_rfl] at hl
  rw [show Tryz.prog.cellsOf 3 = 1 by kernel_rfl] at hf
  exact b9l hl fun i hi => Arg.elem hf Tryz.underlying3 hml i hi
theorem Arg.act {cs : List Value} {m : Nat} (h : Arg enc W 85 cs m) : ∃ x : Act, cs = a9r x ∧ zY VO (HW W) x.a.fs x.v ∧ ∀ q ∈ x.a.fs, YA q := by
  obtain ⟨hl, ms, hml, hms, hf⟩ := h.struct Tryz.underlying85
  rw [show Tryz.prog.cellsOf 85 = 4 by kernel_rfl] at hl
  obtain ⟨a, b, c, d, rfl⟩ := list4 hl
  obtain ⟨m0, m1, m2, m3, rfl⟩ := list4 hml
  have cI : Tryz.prog.cellsOf 3 = 1 := by kernel_rfl
  obtain ⟨b0, h0⟩ := (Arg.field hf (o := 0) 0 rfl rfl rfl rfl (show Tryz.prog.cellsOf 4 = 1 by kernel_rfl)).bool Tryz.underlying4
  obtain ⟨z1, h1, _, _⟩ := (Arg.field hf (o := 1) 1 rfl rfl rfl rfl cI).int Tryz.underlying3
  obtain ⟨z2, h2, _, _⟩ := (Arg.field hf (o := 2) 2 rfl rfl rfl rfl cI).int Tryz.underlying3
  obtain ⟨l, v, h3, hr, _, _, hq⟩ := (Arg.field hf (o := 3) 3 rfl rfl rfl rfl (show Tryz.prog.cellsOf 83 = 1 by kernel_rfl)).row (f := VO) (size := fun _ => 0) Tryz.underlying83 (show Tryz.prog.cellsOf 192 = 4 by kernel_rfl) (by decide) YA fun cs m' _ h => by
    obtain ⟨q, h1, h2⟩ := h.four
    exact ⟨q, h1, Nat.zero_le _, h2⟩
  simp only [List.drop_zero, List.drop_succ_cons, List.take_succ_cons, List.take_zero, List.cons.injEq, and_true] at h0 h1 h2 h3
  subst h0 h1 h2 h3
  exact ⟨⟨⟨b0, z1, z2, l⟩, d⟩, rfl, hr, hq⟩
theorem a6E {v : Value} {d : DataW H} {p : List MemPlace} (hval : Value.okWide Tryz.prog W .any base 22 v) (h : DataW.Trod enc Tryz.prog W 0 (fun _ => true) true 22 v d p) (hlt : ∀ x ∈ p, x.block < W.heap.size) :
    ∃ xs : List Act, QK (HW W) xs v ∧ TD xs ∧ Again enc W 22 v d p := by
  have hag := again (by kernel_rfl) (of_decide_eq_true (by kernel_rfl)) h hlt
  obtain ⟨a, len, cap, rfl⟩ := okWide_slice Tryz.underlying22 hval
  obtain ⟨xs, v', h1, h2, _, _, h4⟩ := (Arg.of h).row (f := a9r) (size := fun _ => 0) Tryz.underlying22 (show Tryz.prog.cellsOf 85 = 4 by kernel_rfl) (by decide) (fun x => zY VO (HW W) x.a.fs x.v ∧ ∀ q ∈ x.a.fs, YA q) fun cs m' _ h => by
    obtain ⟨x, h1, h2, h3⟩ := h.act
    exact ⟨x, h1, Nat.zero_le _, h2, h3⟩
  obtain rfl : Value.slice a len cap = v' := by simpa [Value.cells] using h1
  exact ⟨xs, ⟨h2, fun x hx => (h4 x hx).1⟩, fun x hx => (h4 x hx).2, hag⟩
end
section
variable {H:Type} {enc:TypeId×Value→H} {W:World} {base:Nat}
theorem c0x{α:Type}{l:List α}(h:l.length=5):∃a b c d e,l=[a,b,c,d,e]:=by
 match l,h with
 |[a,b,c,d,e],_=>exact⟨a,b,c,d,e,rfl⟩
theorem Arg.b7u{t cs m}(A:aA.underlying t=some (.int .u8))(h:Arg enc W t cs m):∃c:UInt8,cs=[u8 c]∧m=1:=by
 obtain⟨z,rfl,G,rfl⟩:=h.int A;obtain⟨c,rfl⟩:=c7k G;exact⟨c,rfl,rfl⟩
theorem Arg.c7i {cs : List Value} {m : Nat} (h : Arg enc W 22 cs m) : ∃ x : Rw Act, cs = WH x ∧ QK (HW W) x.l x.v ∧ TD x.l := by
  obtain ⟨xs, v, h1, h2, _, _, h4⟩ := h.row (f := a9r) (size := fun _ => 0) Tryz.underlying22 (show Tryz.prog.cellsOf 85 = 4 by kernel_rfl) (by decide) (fun x => zY VO (HW W) x.a.fs x.v ∧ ∀ q ∈ x.a.fs, YA q) fun cs m' _ h => by
    obtain ⟨x, h1, h2, h3⟩ := h.act
    exact ⟨x, h1, Nat.zero_le _, h2, h3⟩
  obtain ⟨p, k, rfl⟩ := rowLen h2
  exact ⟨⟨xs, p, k⟩, h1, ⟨h2, fun x hx => (h4 x hx).1⟩, fun x hx => (h4 x hx).2⟩
theorem b9b {v : Value} {d : DataW H} {p : List MemPlace} (hval : Value.okWide Tryz.prog W .any base 43 v) (h : DataW.Trod enc Tryz.prog W 0 (fun _ => true) true 43 v d p) (hlt : ∀ x ∈ p, x.block < W.heap.size) :
    ∃ L : List (Rw Act), a1t (HW W) L v ∧ (∀ x ∈ L, TD x.l) ∧ Again enc W 43 v d p := by
  have hag := again (by kernel_rfl) (of_decide_eq_true (by kernel_rfl)) h hlt
  obtain ⟨a, len, cap, rfl⟩ := okWide_slice Tryz.underlying43 hval
  obtain ⟨xs, v', h1, h2, _, _, h4⟩ := (Arg.of h).row (f := WH) (size := fun _ => 0) Tryz.underlying43 (show Tryz.prog.cellsOf 22 = 1 by kernel_rfl) (by decide) (fun x : Rw Act => QK (HW W) x.l x.v ∧ TD x.l) fun cs m' _ h => by
    obtain ⟨x, h1, h2, h3⟩ := h.c7i
    exact ⟨x, h1, Nat.zero_le _, h2, h3⟩
  obtain rfl : Value.slice a len cap = v' := by simpa [Value.cells] using h1
  exact ⟨xs, ⟨h2, fun x hx => (h4 x hx).1⟩, fun x hx => (h4 x hx).2, hag⟩
theorem a7P {v : Value} {d : DataW H} {p : List MemPlace} (hval : Value.okWide Tryz.prog W .any base 24 v) (h : DataW.Trod enc Tryz.prog W 0 (fun _ => true) true 24 v d p) (hlt : ∀ x ∈ p, x.block < W.heap.size) :
    ∃ q : Qz, v = .agg (VR q).toArray ∧ q.raw.length + 1 ≤ Rows.uptoBulk d ∧ Again enc W 24 v d p := by
  have hag := again (by kernel_rfl) (of_decide_eq_true (by kernel_rfl)) h hlt
  obtain ⟨xs, rfl, hx⟩ := okWide_struct Tryz.underlying24 hval
  obtain ⟨hl, ms, hml, hms, hf⟩ := (Arg.of h).struct Tryz.underlying24
  have hxl : xs.toList.length = 5 := by rw [show Tryz.prog.cellsOf 24 = 5 by kernel_rfl] at hx; simpa using hx
  obtain ⟨a, b, c, e, g, hxs⟩ := c0x hxl
  obtain rfl : xs = #[a, b, c, e, g] := by rw [← Array.toArray_toList (xs := xs), hxs]
  obtain ⟨m0, m1, m2, m3, m4, rfl⟩ := c0x hml
  have cU : Tryz.prog.cellsOf 5 = 1 := by kernel_rfl
  obtain ⟨k0, h0, rfl⟩ := (Arg.field hf (o := 0) 0 rfl rfl rfl rfl cU).b7u Tryz.underlying5
  obtain ⟨k1, h1, rfl⟩ := (Arg.field hf (o := 1) 1 rfl rfl rfl rfl cU).b7u Tryz.underlying5
  obtain ⟨k2, h2, rfl⟩ := (Arg.field hf (o := 2) 2 rfl rfl rfl rfl cU).b7u Tryz.underlying5
  obtain ⟨s3, h3, rfl⟩ := (Arg.field hf (o := 3) 3 rfl rfl rfl rfl (show Tryz.prog.cellsOf 9 = 1 by kernel_rfl)).str Tryz.underlying9
  obtain ⟨z4, h4, _, _⟩ := (Arg.field hf (o := 4) 4 rfl rfl rfl rfl (show Tryz.prog.cellsOf 3 = 1 by kernel_rfl)).int Tryz.underlying3
  simp only [Value.cells, List.drop_zero, List.drop_succ_cons, List.take_succ_cons, List.take_zero, List.cons.injEq, and_true] at h0 h1 h2 h3 h4
  subst h0 h1 h2 h3 h4
  simp only [List.sum_cons, List.sum_nil] at hms
  exact ⟨⟨k0, k1, k2, s3, z4⟩, rfl, by dsimp only; omega, hag⟩
