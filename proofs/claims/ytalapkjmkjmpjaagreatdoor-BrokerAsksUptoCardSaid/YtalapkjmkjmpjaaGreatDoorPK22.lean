/-
  Own texts on the laws of the seat, joined: the logic, and contracts of functions. Conditions: none.
-/
import Derived.Test.YtalapkjmkjmpjaaGreatDoorNmK
import Derived.Test.YtalapkjmkjmpjaaGreatDoorPK19
import Derived.Test.YtalapkjmkjmpjaaGreatDoorCards
import Derived.Test.YtalapkjmkjmpjaaGreatDoorTie
import Derived.ProofKit
import Derived.OpenShut
import Derived.Lay
import Derived.Deep.DeepHandedRow
import Derived.WideKeyArr2
import Derived.Carry
import Derived.Lib.LaidU8T
import Derived.Lib.LaidU8
set_option linter.all false
set_option maxRecDepth 100000
set_option maxHeartbeats 40000000
open Go.Proofs.Tryz renaming prog -> aA,lays157_ren -> bM,lays157 -> dG
open Go.Sx.GU renaming part -> aB,none -> aS
open Go.Proofs.YtalapkjmkjmpjaaGreatDoor.Rows renaming uptoBulk -> aC,laid_unicode_utf8_acceptRanges -> aV,laid_unicode_White_Space -> aZ,laid_strings_asciiSpace -> bD,laid_unicode_utf8_first -> bF,uptoBulkAll -> dK
open Go.Sx.AX renaming c -> aF,z -> aJ,s -> aO
open Go.Sx.J renaming z -> aG,persist -> aI,XA -> aK,op -> aP,eqv -> bT
open Go.Sx.DC renaming none -> aH,one -> aN,agg -> aQ
open Bk renaming bk -> aT,Ln -> aY,c4W -> bG,LA -> bI,a2V -> bJ,K1 -> bY,a8H -> bZ,a8D -> cO,a9B -> cZ,NZ -> dF,LB -> dH,b4c -> dI
open Go.DataW renaming trodStep -> aU,Trod -> dA,trod -> dB,TrodAll -> dL
open Option.some renaming injEq -> aW
open Go.World renaming laidAll -> aX,cell? -> bV,cell?_of_block -> dD
open List renaming getElem?_range -> bC,length_range -> bH,sum_nil -> dM
open Prod renaming fst -> bK,snd -> bW
open Go.Input renaming okWide_of_okWideB -> bP
open Option renaming bind_eq_some_iff -> bQ
open Go.Proofs.YtalapkjmkjmpjaaGreatDoor.Fv renaming f -> bU
open Cq renaming parse -> dJ
open Go.Value renaming okWide -> dN
open Go.Addr renaming add_lit -> dP
section
namespace Go.Proofs.YtalapkjmkjmpjaaGreatDoor
open _root_.Go.Proofs.Tryz
open _root_.Go.Proofs.Tryz
open Go Go.Sx
theorem c1V{t a}(N:t.length≤1000)(O:a.length≤1000) G M:RI (aT t a G M):=by
 have h1:∀f∈aT t a G M,f=Bk.bkT t G∨f=Bk.bkA a M:=fun f A=>by
  unfold aT at A
  split at A<;>simp only[vX,vG,or_false]at A
  ·exact A
  exact .inl A
 refine⟨?_,fun f A=>?_⟩
 ·unfold aT;split<;>exact tJ rfl
 rcases h1 f A with rfl|rfl
 ·refine⟨(dE:1≤1000),?_,(dE:2≤2000000)⟩;show([t.length]:List Nat).sum≤_;simp only[uI,dM];omega
 refine⟨(dE:1≤1000),?_,(dE:2≤2000000)⟩;show([a.length]:List Nat).sum≤_;simp only[uI,dM];omega
theorem c4p{I b T x y}(A:KC I x.fs x.v)(G:KC I y.fs y.v)(M:I b=some (yV T (JG x++JG y))):EU I [x,y] (.slice (some ⟨b,0,none⟩) 2 2):=⟨zJ.of (l:=[x,y]) (sp:=[]) (tH _) M,fun z N=>by
 rcases vX.1 N with g|g
 ·rw[g];exact A
 rw[vN.1 g];exact G⟩
theorem c8v{I b T x}(A:KC I x.fs x.v)(G:I b=some (yV T (JG x))):EU I [x] (.slice (some ⟨b,0,none⟩) 1 1):=⟨zJ.of (l:=[x]) (sp:=[]) (tH _) (by rw[G];rfl),fun z M=>by rw[vN.1 M];exact A⟩
theorem c8f{I b T la lb x y}(A:a1l I la x)(G:a1l I lb y)(M:I b=some (yV T [ptr la 0,ptr lb 0])):a1j I [(ptr la 0,some x),(ptr lb 0,some y)] (.slice (some ⟨b,0,none⟩) 2 2):=⟨zJ.of (l:=[(ptr la 0,some x),(ptr lb 0,some y)]) (sp:=[]) (tH _) M,fun z N=>by
 rcases vX.1 N with g|g
 ·rw[g];exact .inr ⟨la,x,rfl,rfl,A⟩
 rw[vN.1 g];exact .inr ⟨lb,y,rfl,rfl,G⟩⟩
theorem c7U{I b T la x}(A:a1l I la x)(G:I b=some (yV T [ptr la 0,.pointer none])):a1j I [(ptr la 0,some x),(.pointer none,none)] (.slice (some ⟨b,0,none⟩) 2 2):=⟨zJ.of (l:=[(ptr la 0,some x),(.pointer none,none)]) (sp:=[]) (tH _) G,fun z M=>by
 rcases vX.1 M with g|g
 ·rw[g];exact .inr ⟨la,x,rfl,rfl,A⟩
 rw[vN.1 g];exact .inl rT⟩
theorem b9I{p G M S r}(hl:S.length=2)(N:JZ p [G,M] S)(O:dF (flt bU (S.map bK)) r):∃Q Z f2 e2,Bk.ans p G 0 Q Z∧Bk.ans p M 1 f2 e2∧dF (Q++f2) r∧S.map bW=[Z,e2]:=by
 match S,hl with
 |[x,y],_=>
  obtain⟨o,A,ha⟩:=N 0 x rfl;cases A;obtain⟨o,A,hb⟩:=N 1 y rfl;cases A;have e:flt bU ([x,y].map bK)=x.1.l.map bU++(y.1.l.map bU++[]):=rfl;rw[e,yD]at O;exact⟨_,_,_,_,ha,hb,O,rfl⟩
theorem d1x{S r}(A:S.length=2)(G:JZ (dJ Bk.s1) [some bI,some dH] S)(M:dF (flt bU (S.map bK)) r):r=[⟨(1,1),bY,[0,1]⟩]∧S.map bW=[0,0]:=by
 obtain⟨_,_,_,_,h1,h2,h3,N⟩:=b9I A G M;obtain⟨rfl,rfl⟩:=bG h1 Bk.p1 Bk.rA1 Bk.fA1;obtain⟨rfl,rfl⟩:=bG h2 Bk.p1 Bk.rB1 Bk.fB1;exact⟨Bk.m1 h3,N⟩
theorem d1o{S r}(A:S.length=2)(G:JZ (dJ Bk.s2) [some bI,some dH] S)(M:dF (flt bU (S.map bK)) r):r=[⟨(1,2),Bk.K2,[0]⟩]∧S.map bW=[0,0]:=by
 obtain⟨_,_,_,_,h1,h2,h3,N⟩:=b9I A G M;obtain⟨rfl,rfl⟩:=bG h1 Bk.p2 Bk.rA2 Bk.fA2;obtain⟨rfl,rfl⟩:=bG h2 Bk.p2 Bk.rB2 (gs:=[]) rfl;exact⟨Bk.m2 h3,N⟩
theorem d1g{S r}(A:S.length=2)(G:JZ (dJ Bk.s3) [some bI,some dH] S)(M:dF (flt bU (S.map bK)) r):r=[]∧S.map bW=[40,40]:=by
 obtain⟨_,_,_,_,h1,h2,h3,N⟩:=b9I A G M;obtain⟨rfl,rfl⟩:=Bk.b7H h1 Bk.p3;obtain⟨rfl,rfl⟩:=Bk.b7H h2 Bk.p3;exact⟨Bk.m3 h3,N⟩
theorem d1b{S r}(A:S.length=2)(G:JZ (dJ Bk.s4) [some bI,none] S)(M:dF (flt bU (S.map bK)) r):r=[⟨(1,1),bY,[0]⟩]∧S.map bW=[0,32]:=by
 obtain⟨_,_,_,_,h1,h2,h3,N⟩:=b9I A G M;obtain⟨rfl,rfl⟩:=bG h1 Bk.p4 Bk.rA4 Bk.fA1;obtain⟨rfl,rfl⟩:=Bk.c5N h2 Bk.p4;exact⟨Bk.m4 h3,N⟩
theorem c0u{I}{r:List Fv}{l}(h:r.map bU=l)(G:∀z∈r,YH I z)(M:∀f∈l,f.p.length≤1000000000) n:∀z∈r.take n,RG I z∧z.f.p.length≤1000000000:=fun z A=>⟨(G z (vO A)).1,M _ (h▸vT (vO A))⟩
theorem b4z{r:List Fv}{l}(h:r.map bU=l){m}(A:l.take 10=m):(r.take 10).map bU=m:=by rw[List.map_take,h,A]
theorem b0i{I z}(h:zJ EP I z.f.p z.v):∀y∈[z],RG I y:=fun y A=>by rw[vN.1 A];exact h
theorem c8b{I b T x y}(A:zJ BH I x.l x.v)(G:zJ BH I y.l y.v)(M:I b=some (yV T [x.v,y.v])):a4f I [x,y] (.slice (some ⟨b,0,none⟩) 2 2):=⟨zJ.of (l:=[x,y]) (sp:=[]) (tH _) M,fun z N=>by
 rcases vX.1 N with g|g
 ·rw[g];exact A
 rw[vN.1 g];exact G⟩
theorem c2z I (hT:NP I)(ht:Tabs I):Pure aA 4 [] I (.bool true):=by
 refine yY.toPure ?_;refine yY.ob func4 ?_;intro w0 _;refine Cj.sr (aG BI ?_);refine J.ER ?_;refine aP rfl (zU (H1:=[]) rfl rfl rfl rfl rfl (b0z 1 1 bZ bJ _) ?_ (fun _ _ _ _ ⟨_,_,_,h,_⟩=>by cases h) (fun _ _ ⟨_,_,_,h,_⟩=>by cases h));intro _ _ _ bv dl;have hT:=hT.mono bv;have ht:=ht.mono bv;obtain⟨_,ua,xa,h,bi,rfl⟩:=dl;cases h;obtain⟨pa,ca,rfl⟩:=rowLen bi.1;refine aP rfl (zU (H1:=[]) rfl rfl rfl rfl rfl (b0z 1 2 dI [] _) ?_ (fun _ _ _ _ ⟨_,_,_,h,_⟩=>by cases h) (fun _ _ ⟨_,_,_,h,_⟩=>by cases h));intro _ _ _ bn ch;have hT:=hT.mono bn;have ht:=ht.mono bn;have bi:=bi.mono bn;obtain⟨wb,ub,xb,h,bp,rfl⟩:=ch;cases h;obtain⟨pb,cb,rfl⟩:=rowLen bp.1;refine aP rfl (CY SY NR a2y (aQ rfl (aQ rfl aH)) ?_);intro dm ci;refine aI ci (fun _ bf A=>?_);have hT:=hT.mono bf;have ht:=ht.mono bf;have bi:=bi.mono bf;have bp:=bp.mono bf;have dq:EU _ [(⟨(1,1),0,0,.slice pa (aT bZ bJ ua xa).length ca,aT bZ bJ ua xa⟩:DT),(⟨(1,2),0,0,.slice pb (aT dI [] ub xb).length cb,aT dI [] ub xb⟩:DT)] (.slice (some ⟨dm,0,none⟩) 2 2):=c4p bi bp A;refine aP rfl (zU (H1:=[]) rfl rfl rfl rfl rfl (a4W [(⟨(1,1),0,0,.slice pa (aT bZ bJ ua xa).length ca,aT bZ bJ ua xa⟩:DT),(⟨(1,2),0,0,.slice pb (aT dI [] ub xb).length cb,aT dI [] ub xb⟩:DT)] _ (tJ rfl) (fun e he=>by simp only[vX,vG,or_false]at he;rcases he with rfl|rfl<;>(dsimp only;refine c1V ?_ ?_ _ _<;>exact tJ rfl)) _ dq) ?_ (fun _ _ _ _ ⟨_,h,_⟩=>by cases h) (fun _ _ ⟨_,h,_⟩=>by cases h));intro _ _ _ bj cj;have hT:=hT.mono bj;have ht:=ht.mono bj;have A:=bj _ _ A;obtain⟨la,h,aw,rfl⟩:=cj;cases h;replace aw:=Eq.mp (zC (a1l _ la) (Bk.d1d ua xa ub xb)) aw;refine aG BI ?_;refine J.ER ?_;refine aP rfl (zU (H1:=[]) rfl rfl rfl rfl rfl (b0z 2 7 cO cZ _) ?_ (fun _ _ _ _ ⟨_,_,_,h,_⟩=>by cases h) (fun _ _ ⟨_,_,_,h,_⟩=>by cases h));intro _ _ _ bg cm;have hT:=hT.mono bg;have ht:=ht.mono bg;have A:=bg _ _ A;have aw:=aw.mono bg;obtain⟨_,uc,xc,h,bq,rfl⟩:=cm;cases h;obtain⟨pc,cc,rfl⟩:=rowLen bq.1;refine aP rfl (CY SY NR a2y (aQ rfl aH) ?_);intro dr co;refine aI co (fun _ bb G=>?_);have hT:=hT.mono bb;have ht:=ht.mono bb;have A:=bb _ _ A;have aw:=aw.mono bb;have bq:=bq.mono bb;have dt:EU _ [(⟨(2,7),0,0,.slice pc (aT cO cZ uc xc).length cc,aT cO cZ uc xc⟩:DT)] (.slice (some ⟨dr,0,none⟩) 1 1):=c8v bq G;refine aP rfl (zU (H1:=[]) rfl rfl rfl rfl rfl (a4W [(⟨(2,7),0,0,.slice pc (aT cO cZ uc xc).length cc,aT cO cZ uc xc⟩:DT)] _ (tJ rfl) (fun e he=>by simp only[vX,vG,or_false]at he;subst he;dsimp only;refine c1V ?_ ?_ _ _<;>exact tJ rfl) _ dt) ?_ (fun _ _ _ _ ⟨_,h,_⟩=>by cases h) (fun _ _ ⟨_,h,_⟩=>by cases h));intro _ _ _ bc cp;have hT:=hT.mono bc;have ht:=ht.mono bc;have A:=bc _ _ A;have aw:=aw.mono bc;have G:=bc _ _ G;obtain⟨lb,h,bm,rfl⟩:=cp;cases h;replace bm:=Eq.mp (zC (a1l _ lb) (Bk.d1t uc xc)) bm;refine aG BI ?_;refine J.ER (aG zS ?_);refine aG zS ?_;refine aP rfl (CY d0l sizeOf39 zeroValue39 (aN rfl (aN rfl aH)) ?_);intro du cq;refine aI cq (fun _ ba M=>?_);have hT:=hT.mono ba;have ht:=ht.mono ba;have A:=ba _ _ A;have aw:=aw.mono ba;have G:=ba _ _ G;have bm:=bm.mono ba;have bd:a1j _ [(ptr la 0,some bI),(ptr lb 0,some dH)] (.slice (some ⟨du,0,none⟩) 2 2):=c8f aw bm M;refine aG BI ?_;refine J.ER (aG (zL (pl:= #[(0,1),(1,1)]) rfl rfl VT rfl a0y (fun w=>by simp[AZ]) (aB rfl rfl rfl (aF aJ) (aB rfl rfl rfl (aO (aF aJ)) aS))) ?_);refine aP rfl (CY JJ AZ OT (aN rfl (aN rfl aH)) ?_);intro br cr;refine aI cr (fun _ b5 O=>?_);have hT:=hT.mono b5;have ht:=ht.mono b5;have A:=b5 _ _ A;have aw:=aw.mono b5;have G:=b5 _ _ G;have M:=b5 _ _ M;have bd:=bd.mono b5;have a8:zJ EP _ ([0,1]:List Int) (.slice (some ⟨br,0,none⟩) 2 2):=zJ.of (l:=([0,1]:List Int)) (sp:=[]) (tH _) O;refine aG (zL (pl:= #[(0,2),(2,1),(3,1)]) rfl rfl LW rfl IB (fun w=>by simp[BM,KD,BD]) (aB rfl rfl rfl (aF (aF aJ)) (aB rfl rfl rfl (aO (aO (aF aJ))) (aB rfl rfl rfl (aO (aO (aO (aF aJ)))) aS)))) ?_;refine aP rfl (EN rfl rfl rfl LW rfl ?_);intro _ _;refine aP rfl (CG 0 FH (aF (aF (aF (aF aJ)))) BL.z ?_);refine J.ER (aG zS ?_);refine aP rfl (zU (H1:=[]) rfl rfl rfl rfl rfl (a5x [(ptr la 0,some bI),(ptr lb 0,some dH)] _ Bk.s1 10 dE ⟨by decide +kernel,by decide +kernel⟩ (tJ rfl) _ bd hT ht) ?_ (fun _ _ _ _ ⟨_,_,_,_,h,_⟩=>by cases h) (fun _ _ ⟨_,_,_,_,h,_⟩=>by cases h));intro _ _ _ b3 ct;have hT:=hT.mono b3;have ht:=ht.mono b3;have A:=b3 _ _ A;have aw:=aw.mono b3;have G:=b3 _ _ G;have M:=b3 _ _ M;have bd:=bd.mono b3;have O:=b3 _ _ O;have a8:=a8.mono b3;obtain⟨Sx,rx,_,ex,h,b7,b8,b9,ax,az,ao,rfl⟩:=ct;cases h;obtain⟨c4,c5⟩:=d1x b7 b8 b9;rw[c5]at ao;clear b7 b8 b9 c5;obtain⟨_,_,rfl⟩:=rowLen ax;obtain⟨_,_,rfl⟩:=rowLen ao;refine aG zS ?_;refine aG (JV rfl rfl rfl) ?_;refine aG (JV rfl rfl rfl) ?_;refine aG BI ?_;refine aG BI ?_;refine J.ER (aG zS ?_);refine aP rfl (zU (H1:=[]) rfl rfl rfl rfl rfl (a5x [(ptr la 0,some bI),(ptr lb 0,some dH)] _ Bk.s2 10 dE ⟨by decide +kernel,by decide +kernel⟩ (tJ rfl) _ bd hT ht) ?_ (fun _ _ _ _ ⟨_,_,_,_,h,_⟩=>by cases h) (fun _ _ ⟨_,_,_,_,h,_⟩=>by cases h));intro _ _ _ b0 cu;have hT:=hT.mono b0;have ht:=ht.mono b0;have A:=b0 _ _ A;have aw:=aw.mono b0;have G:=b0 _ _ G;have M:=b0 _ _ M;have bd:=bd.mono b0;have O:=b0 _ _ O;have a8:=a8.mono b0;have ax:=ax.mono b0;have az:=fun x9 N=>(az x9 N).mono b0;have ao:=ao.mono b0;obtain⟨_,ry,_,_,h,b7,b8,b9,aj,ap,c6,rfl⟩:=cu;cases h;obtain⟨c7,c8⟩:=d1o b7 b8 b9;rw[c8]at c6;clear b7 b8 b9 c8;obtain⟨_,_,rfl⟩:=rowLen aj;obtain⟨_,_,rfl⟩:=rowLen c6;refine aG zS ?_;refine aG (JV rfl rfl rfl) ?_;refine aG (JV rfl rfl rfl) ?_;refine aG BI ?_;refine aG BI ?_;refine J.ER (aG zS ?_);refine aP rfl (zU (H1:=[]) rfl rfl rfl rfl rfl (a5x [(ptr la 0,some bI),(ptr lb 0,some dH)] _ Bk.s3 10 dE ⟨by decide +kernel,by decide +kernel⟩ (tJ rfl) _ bd hT ht) ?_ (fun _ _ _ _ ⟨_,_,_,_,h,_⟩=>by cases h) (fun _ _ ⟨_,_,_,_,h,_⟩=>by cases h));intro _ _ _ au cx;have hT:=hT.mono au;have ht:=ht.mono au;have A:=au _ _ A;have aw:=aw.mono au;have G:=au _ _ G;have M:=au _ _ M;have O:=au _ _ O;have a8:=a8.mono au;have ax:=ax.mono au;have az:=fun x9 N=>(az x9 N).mono au;have ao:=ao.mono au;have aj:=aj.mono au;have ap:=fun x9 N=>(ap x9 N).mono au;obtain⟨_,_,_,ez,h,b7,b8,b9,dv,_,ab,rfl⟩:=cx;cases h;obtain⟨dw,c9⟩:=d1g b7 b8 b9;rw[c9]at ab;clear b7 b8 b9 c9;obtain rfl:=List.map_eq_nil_iff.1 dw;obtain⟨_,_,rfl⟩:=rowLen dv;obtain⟨_,_,rfl⟩:=rowLen ab;refine aG zS ?_;refine aG (JV rfl rfl rfl) ?_;refine aG (JV rfl rfl rfl) ?_;refine aG BI ?_;refine aG BI ?_;refine J.ER (aG zS ?_);refine aP rfl (CY d0l sizeOf39 zeroValue39 (aN rfl (aN rfl aH)) ?_);intro dx cy;refine aI cy (fun _ ar Q=>?_);have hT:=hT.mono ar;have ht:=ht.mono ar;have A:=ar _ _ A;have aw:=aw.mono ar;have G:=ar _ _ G;have M:=ar _ _ M;have O:=ar _ _ O;have a8:=a8.mono ar;have ax:=ax.mono ar;have az:=fun x9 N=>(az x9 N).mono ar;have ao:=ao.mono ar;have aj:=aj.mono ar;have ap:=fun x9 N=>(ap x9 N).mono ar;have ab:=ab.mono ar;have dy:a1j _ [(ptr la 0,some bI),(.pointer none,none)] (.slice (some ⟨dx,0,none⟩) 2 2):=c7U aw Q;refine aP rfl (zU (H1:=[]) rfl rfl rfl rfl rfl (a5x [(ptr la 0,some bI),(.pointer none,none)] _ Bk.s4 10 dE ⟨by decide +kernel,by decide +kernel⟩ (tJ rfl) _ dy hT ht) ?_ (fun _ _ _ _ ⟨_,_,_,_,h,_⟩=>by cases h) (fun _ _ ⟨_,_,_,_,h,_⟩=>by cases h));intro _ _ _ b1 cz;have A:=b1 _ _ A;have G:=b1 _ _ G;have M:=b1 _ _ M;have O:=b1 _ _ O;have a8:=a8.mono b1;have ax:=ax.mono b1;have az:=fun x9 N=>(az x9 N).mono b1;have ao:=ao.mono b1;have aj:=aj.mono b1;have ap:=fun x9 N=>(ap x9 N).mono b1;have ab:=ab.mono b1;have Q:=b1 _ _ Q;obtain⟨_,rv,_,ev,h,b7,b8,b9,al,aq,ac,rfl⟩:=cz;cases h;obtain⟨hrv,hsv⟩:=d1b b7 b8 b9;rw[hsv]at ac;clear b7 b8 b9 hsv;obtain⟨_,cv,rfl⟩:=rowLen al;obtain⟨_,_,rfl⟩:=rowLen ac;refine aG zS ?_;refine aG (JV rfl rfl rfl) ?_;refine aG (JV rfl rfl rfl) ?_;refine aG BI ?_;refine aG BI ?_;refine J.ER (aG (zL (pl:= #[(0,1),(1,1)]) rfl rfl QK rfl a0B (fun w=>by simp[AZ,BD]) (aB rfl rfl rfl (aF aJ) (aB rfl rfl rfl (aO (aF aJ)) aS))) ?_);refine aG (zL (pl:= #[(0,1),(1,1)]) rfl rfl QK rfl a0B (fun w=>by simp[AZ,BD]) (aB rfl rfl rfl (aF aJ) (aB rfl rfl rfl (aO (aF aJ)) aS))) ?_;refine aP rfl (CY RN NQ QK (aQ rfl (aQ rfl aH)) ?_);intro ce d0;refine aG (zL (pl:= #[(0,1),(1,1)]) rfl rfl QK rfl a0B (fun w=>by simp[AZ,BD]) (aB rfl rfl rfl (aF aJ) (aB rfl rfl rfl (aO (aF aJ)) aS))) ?_;refine aG (zL (pl:= #[(0,1),(1,1)]) rfl rfl QK rfl a0B (fun w=>by simp[AZ,BD]) (aB rfl rfl rfl (aF aJ) (aB rfl rfl rfl (aO (aF aJ)) aS))) ?_;refine aP rfl (CY RN NQ QK (aQ rfl (aQ rfl aH)) ?_);intro cf d1;refine aP rfl (CY underlying57 sizeOf53 zeroValue53 (aN rfl (aN rfl aH)) ?_);intro dz d2;refine J.pull (Pull.s (Pull.s Pull.z)) ?_;refine aI d0 (fun _ am Z=>?_);have A:=am _ _ A;have G:=am _ _ G;have M:=am _ _ M;have O:=am _ _ O;have a8:=a8.mono am;have ax:=ax.mono am;have az:=fun x9 N=>(az x9 N).mono am;have ao:=ao.mono am;have aj:=aj.mono am;have ap:=fun x9 N=>(ap x9 N).mono am;have ab:=ab.mono am;have Q:=am _ _ Q;have al:=al.mono am;have aq:=fun x9 N=>(aq x9 N).mono am;have ac:=ac.mono am;refine J.pull (Pull.s Pull.z) ?_;refine aI d1 (fun _ ai a0=>?_);have A:=ai _ _ A;have G:=ai _ _ G;have M:=ai _ _ M;have O:=ai _ _ O;have a8:=a8.mono ai;have ax:=ax.mono ai;have az:=fun x9 N=>(az x9 N).mono ai;have ao:=ao.mono ai;have aj:=aj.mono ai;have ap:=fun x9 N=>(ap x9 N).mono ai;have ab:=ab.mono ai;have Q:=ai _ _ Q;have al:=al.mono ai;have aq:=fun x9 N=>(aq x9 N).mono ai;have ac:=ac.mono ai;have Z:=ai _ _ Z;refine aI d2 (fun _ ad a1=>?_);have A:=ad _ _ A;have G:=ad _ _ G;have M:=ad _ _ M;have O:=ad _ _ O;have a8:=a8.mono ad;have ax:=ax.mono ad;have az:=fun x9 N=>(az x9 N).mono ad;have ao:=ao.mono ad;have aj:=aj.mono ad;have ap:=fun x9 N=>(ap x9 N).mono ad;have ab:=ab.mono ad;have Q:=ad _ _ Q;have al:=al.mono ad;have aq:=fun x9 N=>(aq x9 N).mono ad;have ac:=ac.mono ad;have Z:=ad _ _ Z;have a0:=ad _ _ a0;have e0:a4f _ [(⟨([([97],1),([99],2)]:List aY),some ⟨ce,0,none⟩,2⟩:Rw aY),(⟨([([97],3),([98],1)]:List aY),some ⟨cf,0,none⟩,2⟩:Rw aY)] (.slice (some ⟨dz,0,none⟩) 2 2):=c8b (zJ.of (l:=([([97],1),([99],2)]:List aY)) (sp:=[]) (tH _) Z) (zJ.of (l:=([([97],3),([98],1)]:List aY)) (sp:=[]) (tH _) a0) a1;refine aP rfl (ZF rfl rfl rfl rfl rfl (c4P [(⟨([([97],1),([99],2)]:List aY),some ⟨ce,0,none⟩,2⟩:Rw aY),(⟨([([97],3),([98],1)]:List aY),some ⟨cf,0,none⟩,2⟩:Rw aY)] _ 2 (tJ rfl) (tJ rfl) _ e0) ?_ (fun _ _ _ _ ⟨_,h,_⟩=>by cases h) (fun _ _ ⟨_,h,_⟩=>by cases h));intro _ _ _ a9 d3 d4;have A:=a9 _ _ A;have G:=a9 _ _ G;have M:=a9 _ _ M;have O:=a9 _ _ O;have a8:=a8.mono a9;have ax:=ax.mono a9;have az:=fun x9 N=>(az x9 N).mono a9;have ao:=ao.mono a9;have aj:=aj.mono a9;have ap:=fun x9 N=>(ap x9 N).mono a9;have ab:=ab.mono a9;have Q:=a9 _ _ Q;have al:=al.mono a9;have aq:=fun x9 N=>(aq x9 N).mono a9;have ac:=ac.mono a9;have Z:=a9 _ _ Z;have a0:=a9 _ _ a0;have a1:=a9 _ _ a1;obtain⟨_,h,d5⟩:=d4;cases h;refine J.a3A d5 d3 (fun _ aa ay=>?_);have A:=aa _ _ A;have G:=aa _ _ G;have M:=aa _ _ M;have O:=aa _ _ O;have a8:=a8.mono aa;have ax:=ax.mono aa;have az:=fun x9 N=>(az x9 N).mono aa;have ao:=ao.mono aa;have aj:=aj.mono aa;have ap:=fun x9 N=>(ap x9 N).mono aa;have ab:=ab.mono aa;have Q:=aa _ _ Q;have al:=al.mono aa;have aq:=fun x9 N=>(aq x9 N).mono aa;have ac:=ac.mono aa;have Z:=aa _ _ Z;have a0:=aa _ _ a0;have a1:=aa _ _ a1;replace ay:zJ BH _ [([97],4),([98],1)] _:=Bk.sc1▸ay.row;obtain⟨_,_,rfl⟩:=rowLen ay;refine aG BI ?_;refine J.a2t (Cj.region (aG zS ?_));refine aG (DX XV FH (yX.at 0 rfl)) ?_;refine aP rfl (CY JY FH LW (aQ rfl aH) ?_);intro e1 d6;refine aI d6 (fun _ a4 ae=>?_);have A:=a4 _ _ A;have G:=a4 _ _ G;have M:=a4 _ _ M;have O:=a4 _ _ O;have a8:=a8.mono a4;have ax:=ax.mono a4;have az:=fun x9 N=>(az x9 N).mono a4;have ao:=ao.mono a4;have aj:=aj.mono a4;have ap:=fun x9 N=>(ap x9 N).mono a4;have ab:=ab.mono a4;have Q:=a4 _ _ Q;have al:=al.mono a4;have aq:=fun x9 N=>(aq x9 N).mono a4;have ac:=ac.mono a4;have Z:=a4 _ _ Z;have a0:=a4 _ _ a0;have a1:=a4 _ _ a1;have ay:=ay.mono a4;have d7:zJ CV _ [(⟨⟨(1,1),bY,[0,1]⟩,some ⟨br,0,none⟩,2⟩:Fv)] (.slice (some ⟨e1,0,none⟩) 1 1):=zJ.of (l:=[(⟨⟨(1,1),bY,[0,1]⟩,some ⟨br,0,none⟩,2⟩:Fv)]) (sp:=[]) (tH _) ae;refine aP rfl (EK rfl rfl rfl rfl rfl (a3Q (rx.take 10) [(⟨⟨(1,1),bY,[0,1]⟩,some ⟨br,0,none⟩,2⟩:Fv)] _ _ (by rw[wI];omega) _ ax d7 (c0u c4 az dE 10) (b0i a8)) ?_);refine bT 59 rfl (show _= .bool true from(zC Value.bool (zH (b4z c4 rfl)))) ?_;refine aG (a8m rfl rfl) ?_;refine aG zS ?_;refine aK 5 61 false _ rfl rfl rfl (zC not rfl) (CU zS ?_);refine aK 5 61 false _ rfl rfl rfl (zC not rfl) (CY ZR MW a4j (aN rfl (aN rfl aH)) ?_);intro e2 d8;refine aI d8 (fun _ af an=>?_);have A:=af _ _ A;have G:=af _ _ G;have M:=af _ _ M;have O:=af _ _ O;have ao:=ao.mono af;have aj:=aj.mono af;have ap:=fun x9 N=>(ap x9 N).mono af;have ab:=ab.mono af;have Q:=af _ _ Q;have al:=al.mono af;have aq:=fun x9 N=>(aq x9 N).mono af;have ac:=ac.mono af;have Z:=af _ _ Z;have a0:=af _ _ a0;have a1:=af _ _ a1;have ay:=ay.mono af;have ae:=af _ _ ae;have d9:zJ EP _ ([0,0]:List Int) (.slice (some ⟨e2,0,none⟩) 2 2):=zJ.of (l:=([0,0]:List Int)) (sp:=[]) (tH _) an;refine aK 5 61 false _ rfl rfl rfl (zC not rfl) (EK rfl rfl rfl rfl rfl (a0T [0,0] [0,0] _ _ dE _ ao d9) ?_);refine bT 64 rfl (show _= .bool true from(zC Value.bool dE)) ?_;refine aK 5 61 false _ rfl rfl rfl (zC not rfl) (CU (a8m rfl rfl) ?_);refine aG (SN rfl rfl (zC not rfl) rfl) ?_;refine aG zS ?_;refine aK 11 67 false _ rfl rfl rfl (zC not rfl) (CU zS ?_);refine aK 11 67 false _ rfl rfl rfl (zC not rfl) (YE (zL (pl:= #[(0,1),(1,1)]) rfl rfl VT rfl a0y (fun w=>by simp[AZ]) (aB rfl rfl rfl (aF aJ) (aB rfl rfl rfl (aO (aF aJ)) aS))) rfl rfl ?_);refine aK 11 67 false _ rfl rfl rfl (zC not rfl) (CY JJ AZ OT (aN rfl aH) ?_);intro bt da;refine aI da (fun _ ag av=>?_);have A:=ag _ _ A;have G:=ag _ _ G;have M:=ag _ _ M;have O:=ag _ _ O;have aj:=aj.mono ag;have ap:=fun x9 N=>(ap x9 N).mono ag;have ab:=ab.mono ag;have Q:=ag _ _ Q;have al:=al.mono ag;have aq:=fun x9 N=>(aq x9 N).mono ag;have ac:=ac.mono ag;have Z:=ag _ _ Z;have a0:=ag _ _ a0;have a1:=ag _ _ a1;have ay:=ay.mono ag;have ae:=ag _ _ ae;have an:=ag _ _ an;have bo:zJ EP _ ([0]:List Int) (.slice (some ⟨bt,0,none⟩) 1 1):=zJ.of (l:=([0]:List Int)) (sp:=[]) (tH _) av;refine aK 11 67 false _ rfl rfl rfl (zC not rfl) (YE (zL (pl:= #[(0,2),(2,1),(3,1)]) rfl rfl LW rfl IB (fun w=>by simp[BM,KD,BD]) (aB rfl rfl rfl (aF (aF aJ)) (aB rfl rfl rfl (aO (aO (aF aJ))) (aB rfl rfl rfl (aO (aO (aO (aF aJ)))) aS)))) rfl rfl ?_);refine aK 11 67 false _ rfl rfl rfl (zC not rfl) (CY JY FH LW (aQ rfl aH) ?_);intro e3 db;refine aI db (fun _ a5 b2=>?_);have A:=a5 _ _ A;have G:=a5 _ _ G;have M:=a5 _ _ M;have O:=a5 _ _ O;have aj:=aj.mono a5;have ap:=fun x9 N=>(ap x9 N).mono a5;have ab:=ab.mono a5;have Q:=a5 _ _ Q;have al:=al.mono a5;have aq:=fun x9 N=>(aq x9 N).mono a5;have ac:=ac.mono a5;have Z:=a5 _ _ Z;have a0:=a5 _ _ a0;have a1:=a5 _ _ a1;have ay:=ay.mono a5;have ae:=a5 _ _ ae;have an:=a5 _ _ an;have av:=a5 _ _ av;have bo:=bo.mono a5;have dc:zJ CV _ [(⟨⟨(1,2),Bk.K2,[0]⟩,some ⟨bt,0,none⟩,1⟩:Fv)] (.slice (some ⟨e3,0,none⟩) 1 1):=zJ.of (l:=[(⟨⟨(1,2),Bk.K2,[0]⟩,some ⟨bt,0,none⟩,1⟩:Fv)]) (sp:=[]) (tH _) b2;refine aK 11 67 false _ rfl rfl rfl (zC not rfl) (EK rfl rfl rfl rfl rfl (a3Q (ry.take 10) [(⟨⟨(1,2),Bk.K2,[0]⟩,some ⟨bt,0,none⟩,1⟩:Fv)] _ _ (by rw[wI];omega) _ aj dc (c0u c7 ap dE 10) (b0i bo)) ?_);refine bT 73 rfl (show _= .bool true from(zC Value.bool (zH (b4z c7 rfl)))) ?_;refine aK 11 67 false _ rfl rfl rfl (zC not rfl) (CU (a8m rfl rfl) ?_);refine aG (SN rfl rfl (zC not rfl) rfl) ?_;refine J.ns (Cj.cond rfl (fun bw=>Bool.noConfusion (Eq.trans (Eq.symm (zC not rfl)) bw)) (fun bw=>?_));refine Cj.ks (Cj.sr (aP rfl (CY JJ AZ OT (aN rfl aH) ?_)));intro bu dd;refine aI dd (fun _ ah b4=>?_);have A:=ah _ _ A;have G:=ah _ _ G;have M:=ah _ _ M;have O:=ah _ _ O;have ab:=ab.mono ah;have Q:=ah _ _ Q;have al:=al.mono ah;have aq:=fun x9 N=>(aq x9 N).mono ah;have ac:=ac.mono ah;have Z:=ah _ _ Z;have a0:=ah _ _ a0;have a1:=ah _ _ a1;have ay:=ay.mono ah;have ae:=ah _ _ ae;have an:=ah _ _ an;have av:=ah _ _ av;have b2:=ah _ _ b2;have bh:zJ EP _ ([0]:List Int) (.slice (some ⟨bu,0,none⟩) 1 1):=zJ.of (l:=([0]:List Int)) (sp:=[]) (tH _) b4;refine aG (zY (off':=3) IB KD) ?_;refine aP rfl (CG 0 KD (aO (aO (aO (aF aJ)))) BL.z ?_);refine J.ER (aG zS ?_);refine aG (QT rfl rfl JY) ?_;refine bT 79 rfl (show _=i64 0 from rfl) ?_;refine aG (QO rfl rfl rfl) ?_;refine bT 80 rfl (show _= .bool true from rfl) ?_;refine aG zS ?_;refine aK 3 81 true _ rfl rfl rfl rfl (CU zS ?_);refine aK 3 81 true _ rfl rfl rfl rfl (CY ZR MW a4j (aN rfl (aN rfl aH)) ?_);intro e4 de;refine aI de (fun _ a6 b6=>?_);have A:=a6 _ _ A;have G:=a6 _ _ G;have M:=a6 _ _ M;have O:=a6 _ _ O;have ab:=ab.mono a6;have Q:=a6 _ _ Q;have al:=al.mono a6;have aq:=fun x9 N=>(aq x9 N).mono a6;have ac:=ac.mono a6;have Z:=a6 _ _ Z;have a0:=a6 _ _ a0;have a1:=a6 _ _ a1;have ay:=ay.mono a6;have ae:=a6 _ _ ae;have an:=a6 _ _ an;have av:=a6 _ _ av;have b2:=a6 _ _ b2;have b4:=a6 _ _ b4;have bh:=bh.mono a6;have df:zJ EP _ ([40,40]:List Int) (.slice (some ⟨e4,0,none⟩) 2 2):=zJ.of (l:=([40,40]:List Int)) (sp:=[]) (tH _) b6;refine aK 3 81 true _ rfl rfl rfl rfl (EK rfl rfl rfl rfl rfl (a0T [40,40] [40,40] _ _ dE _ ab df) ?_);refine bT 84 rfl (show _= .bool true from(zC Value.bool dE)) ?_;refine aG (MR rfl rfl rfl rfl) ?_;refine aG zS ?_;refine aK 8 86 true _ rfl rfl rfl rfl (CU zS ?_);refine aK 8 86 true _ rfl rfl rfl rfl (CU (DX XV FH (yX.at 0 rfl)) ?_);refine aK 8 86 true _ rfl rfl rfl rfl (CY JY FH LW (aQ rfl aH) ?_);intro e5 dg;refine aI dg (fun _ a7 be=>?_);have A:=a7 _ _ A;have G:=a7 _ _ G;have M:=a7 _ _ M;have O:=a7 _ _ O;have Q:=a7 _ _ Q;have al:=al.mono a7;have aq:=fun x9 N=>(aq x9 N).mono a7;have ac:=ac.mono a7;have Z:=a7 _ _ Z;have a0:=a7 _ _ a0;have a1:=a7 _ _ a1;have ay:=ay.mono a7;have ae:=a7 _ _ ae;have an:=a7 _ _ an;have av:=a7 _ _ av;have b2:=a7 _ _ b2;have b4:=a7 _ _ b4;have bh:=bh.mono a7;have b6:=a7 _ _ b6;have dh:zJ CV _ [(⟨⟨(1,1),bY,[0]⟩,some ⟨bu,0,none⟩,1⟩:Fv)] (.slice (some ⟨e5,0,none⟩) 1 1):=zJ.of (l:=[(⟨⟨(1,1),bY,[0]⟩,some ⟨bu,0,none⟩,1⟩:Fv)]) (sp:=[]) (tH _) be;refine aK 8 86 true _ rfl rfl rfl rfl (EK rfl rfl rfl rfl rfl (a3Q (rv.take 10) [(⟨⟨(1,1),bY,[0]⟩,some ⟨bu,0,none⟩,1⟩:Fv)] _ _ (by rw[wI];omega) _ al dh (c0u hrv aq dE 10) (b0i bh)) ?_);refine bT 90 rfl (show _= .bool true from(zC Value.bool (zH (b4z hrv rfl)))) ?_;refine aG (MR rfl rfl rfl rfl) ?_;refine aG zS ?_;refine aK 14 92 true _ rfl rfl rfl rfl (CU zS ?_);refine aK 14 92 true _ rfl rfl rfl rfl (CY ZR MW a4j (aN rfl (aN rfl aH)) ?_);intro e6 di;refine aI di (fun _ a2 bl=>?_);have A:=a2 _ _ A;have G:=a2 _ _ G;have M:=a2 _ _ M;have O:=a2 _ _ O;have Q:=a2 _ _ Q;have ac:=ac.mono a2;have Z:=a2 _ _ Z;have a0:=a2 _ _ a0;have a1:=a2 _ _ a1;have ay:=ay.mono a2;have ae:=a2 _ _ ae;have an:=a2 _ _ an;have av:=a2 _ _ av;have b2:=a2 _ _ b2;have b4:=a2 _ _ b4;have b6:=a2 _ _ b6;have be:=a2 _ _ be;have dj:zJ EP _ ([0,32]:List Int) (.slice (some ⟨e6,0,none⟩) 2 2):=zJ.of (l:=([0,32]:List Int)) (sp:=[]) (tH _) bl;refine aK 14 92 true _ rfl rfl rfl rfl (EK rfl rfl rfl rfl rfl (a0T [0,32] [0,32] _ _ dE _ ac dj) ?_);refine bT 95 rfl (show _= .bool true from(zC Value.bool dE)) ?_;refine aG (MR rfl rfl rfl rfl) ?_;refine aG zS ?_;refine aK 19 97 true _ rfl rfl rfl rfl (CU zS ?_);refine aK 19 97 true _ rfl rfl rfl rfl (YE (zL (pl:= #[(0,1),(1,1)]) rfl rfl QK rfl a0B (fun w=>by simp[AZ,BD]) (aB rfl rfl rfl (aF aJ) (aB rfl rfl rfl (aO (aF aJ)) aS))) rfl rfl ?_);refine aK 19 97 true _ rfl rfl rfl rfl (YE (zL (pl:= #[(0,1),(1,1)]) rfl rfl QK rfl a0B (fun w=>by simp[AZ,BD]) (aB rfl rfl rfl (aF aJ) (aB rfl rfl rfl (aO (aF aJ)) aS))) rfl rfl ?_);refine aK 19 97 true _ rfl rfl rfl rfl (CY RN NQ QK (aQ rfl (aQ rfl aH)) ?_);intro dk bz;refine aI bz (fun _ a3 bx=>?_);have A:=a3 _ _ A;have G:=a3 _ _ G;have M:=a3 _ _ M;have O:=a3 _ _ O;have Q:=a3 _ _ Q;have Z:=a3 _ _ Z;have a0:=a3 _ _ a0;have a1:=a3 _ _ a1;have ay:=ay.mono a3;have ae:=a3 _ _ ae;have an:=a3 _ _ an;have av:=a3 _ _ av;have b2:=a3 _ _ b2;have b4:=a3 _ _ b4;have b6:=a3 _ _ b6;have be:=a3 _ _ be;have bl:=a3 _ _ bl;have c3:zJ BH _ ([([97],4),([98],1)]:List aY) (.slice (some ⟨dk,0,none⟩) 2 2):=zJ.of (l:=([([97],4),([98],1)]:List aY)) (sp:=[]) (tH _) bx;refine aK 19 97 true _ rfl rfl rfl rfl (EK rfl rfl rfl rfl rfl (c3h [([97],4),([98],1)] [([97],4),([98],1)] _ _ dE _ ay c3) ?_);refine bT 102 rfl (show _= .bool true from(zC Value.bool dE)) ?_;refine aG (MR rfl rfl rfl rfl) ?_;refine aG BI ?_;refine J.ns (Cj.ret ?_);refine Ej.keep (Keeps.d Keeps.n) ?_;refine Ej.YI rfl rfl rfl ?_;exact rT
end Go.Proofs.YtalapkjmkjmpjaaGreatDoor
end
namespace Go.Proofs.YtalapkjmkjmpjaaGreatDoor
open Go.ChangeShapes Go.WideShapes Go.ChangeAt Go.RowKit Go.Sx Go.Lib Go.ChangeMaps Go.WideMaps
theorem own:ownKnob aA.godebug=none:=kR
def HW (W:World):Heap:=fun b=>W.heap[b]?
theorem HW.ready W:Ready (HW W) [] W:=⟨fun _ _ h=>h,sI,sI,sI⟩
theorem HW.below{W w' A H'}(h:St W [] (HW W) A H' w'):Below W.heap.size W w':=⟨h.os,h.tape,h.output,h.size,fun b G=>h.frm b G sI⟩
theorem HW.calls{f args W v}(h:Sx.Pure aA f args (HW W) v):Calls aA f args.toArray W fun e w'=>e= .returned v∧Below W.heap.size W w':=
 (h.2 W (HW.ready W)).mono fun _ _ ⟨_,_,A,h1,_,_⟩=>⟨h1,HW.below A⟩
theorem c2p{H:Type}{enc P f}{s:ChangeSpec}{Q fresh a1 again W W' args v ds gs A M N}
 (hB:Below W.heap.size W W')(hW:DataW.Whole enc P f.params.toList s.vars Q W args.toList ds gs A)(a4:A=M++N)
 (a2:∀(b:Nat) (sp:Nat→Bool) (hd:Bool),dL enc P W' b sp hd f.resultTypes.toList (v.resultList f.resultTypes.size) (s.fn H (ds++gs)).results [])
 (Z:∀sp:Nat→Bool,(∀p∈A,sp p.block=true)→dL enc P W' 0 sp true f.params.toList args.toList (s.fn H (ds++gs)).args M)
 (a0:∀sp:Nat→Bool,(∀p∈A,sp p.block=true)→DataW.TrodVars enc P W' sp s.vars (s.fn H (ds++gs)).vars N)
 (a7:∀(j:Nat) (t:TypeId) (r:Value),f.resultTypes[j]?=some t→(v.resultList f.resultTypes.size)[j]?=some r→dN P W' .any 0 t r):s.post enc P f Q fresh a1 again W args v W':=by
 have a3:∀p∈A,p.block<W.heap.size:=hW.lt;have mem:∀p,p∈A↔p∈M∨p∈N:=fun p=>by rw[a4];exact wB
 have O:([]++M)++N=A:=by rw[a4];rfl
 refine⟨ds,gs,A,[],M,N,hW,a2 _ _ _,Z _ fun p G=>zH (a3 p G),a0 _ fun p G=>zH (a3 p G),World.keptBut_mono (fun p G=>⟨G,.inr ((mem p).1 G)⟩) (hB.frame (· ∈A)),fun _=>?_⟩;have a8:=Z (fun _=>true) fun _ _=>rfl;obtain⟨_,_,_,_,_,a6,a9⟩:=hW;refine⟨a7,_,_,([]++M)++N,⟨[]++M,N,trodAll_append a8 (a2 _ _ _),a0 _ fun _ _=>rfl,rfl,fun b off G=>?_,fun ha=>?_⟩,fun p G _=>?_⟩
 ·have a5:MemPlace.cell b off∈A:=O▸G;have aa:b<W.heap.size:=a3 _ a5;have hf:=a6 b off a5;unfold World.frozen? at hf ⊢;rw[hB.block b aa];exact hf
 ·exact O▸a9 ha
 exact O▸G
def Again {H:Type} (enc:TypeId×Value→H) (W:World) (t:TypeId) (v:Value) (d:DataW H) (p:List MemPlace):Prop:=
 ∀W',Below W.heap.size W W'→∀sp:Nat→Bool,(∀q∈p,sp q.block=true)→dA enc aA W' 0 sp true t v d p
section
variable {H:Type} {enc:TypeId×Value→H} {W:World} {base:Nat}
theorem c7r{n}(h:(Lit.int .u8 n).wf=true):∃c:UInt8,n=(c.toNat:Int):=by
 simp[Lit.wf,IntKind.min,IntKind.max,IntKind.signed,IntKind.bits]at h;refine⟨UInt8.ofNatLT n.toNat (by show n.toNat<256;omega),?_⟩;rw[UInt8.toNat_ofNatLT];omega
theorem d0I{t v d p}(G:aA.underlying t=some (.int .u8))(A:dN aA W .any base t v)(h:dA enc aA W 0 (fun _=>true) true t v d p):
 ∃c:UInt8,v=u8 c∧d= .lit (.int .u8 (c.toNat:Int))∧p=[]∧Again enc W t v d p:=by
 obtain⟨n,rfl,rfl,rfl,M⟩:=open_int G A h;obtain⟨c,rfl⟩:=c7r M;exact⟨c,rfl,rfl,rfl,fun _ _ sp _=>shut_int G M⟩
end
theorem b4e{H:Type}{enc:TypeId×Value→H} os {f fn}{s:OpenSpec}{G M A} args
 (Q:((aX aA os A).forCall (fun _ _=>0) ⟨#[],args,[]⟩).variablesZipB aA=true)
 (Z:(((aX aA os A).forCall (fun _ _=>0) ⟨#[],args,[]⟩).heap.toList.drop aA.globals.size).take ((begin aA (fun _ _=>0) default).world.heap.size-aA.globals.size)=(begin aA (fun _ _=>0) default).world.heap.toList.drop aA.globals.size)
 (N:Input.okWideB aA ((aX aA os A).forCall (fun _ _=>0) ⟨#[],args,[]⟩) f ⟨#[],args,[]⟩=true)
 (O:s.preRow enc aA fn G M A ((aX aA os A).forCall (fun _ _=>0) ⟨#[],args,[]⟩).memory args):
 ∃(w:World) (tape:Tape) (i:Input),w.os=os∧(w.forCall tape i).Shaped aA∧i.vars=[]∧Input.okWide aA (w.forCall tape i) .any w.heap.size f i∧
  s.preRow enc aA fn G M A (w.forCall tape i).memory i.args∧({}:Assume).holds aA (lone (Frame.enter aA f i.args .normal) [] (w.forCall tape i)):=
 ⟨aX aA os A,fun _ _=>0,⟨#[],args,[]⟩,World.laidAll_os _ _ _,World.shaped_of_ZipB Q Z,(bP (base:=0) N).1,(bP N).2,O,by
  simp only[Assume.holds];exact⟨sI,sI,sI,sI,sI⟩⟩
section
variable {H:Type} {enc:TypeId×Value→H} {W:World} {base:Nat}
def Arg (enc:TypeId×Value→H) (W:World) (t:TypeId) (cs:List Value) (m:Nat):Prop:=∃n x,dB enc aA W 0 (fun _=>true) true n t cs=some x∧aC x.1=m
theorem Arg.of{t v d p}(h:dA enc aA W 0 (fun _=>true) true t v d p):Arg enc W t v.cells.toList (aC d):=by
 obtain⟨n,A⟩:=h;exact⟨n,_,A,rfl⟩
theorem laidOut:laidOutB aA=true:=kR
theorem again{t v d p}(N:aA.readableRec t=true)(A:t<aA.types.size)(h:dA enc aA W 0 (fun _=>true) true t v d p)(G:∀x∈p,x.block<W.heap.size):Again enc W t v d p:=
 fun _ O _ M=>WideElems.Trod_stays laidOut N A h (fun _ Q=>O.same (G _ Q)) M
theorem mapM_some{α β:Type}{g}:∀{l:List α} {ys:List β},l.mapM g=some ys→ys.length=l.length∧∀(i:Nat) x,l[i]?=some x→∃y,ys[i]?=some y∧g x=some y
 |[],ys,h=>by simp at h;subst h;exact⟨rfl,fun i x A=>by simp at A⟩
 |a::l,ys,h=>by
  rw[List.mapM_cons]at h;cases ha:g a with
  |none=>simp[ha]at h
  |some y=>
   cases hl:l.mapM g with
   |none=>simp[ha,hl]at h
   |some zs=>
    simp[ha,hl]at h;subst h;obtain⟨h1,h2⟩:=mapM_some hl;refine⟨by simp[h1],fun i x A=>?_⟩;cases i with
    |zero=>simp at A;subst A;exact⟨y,rfl,ha⟩
    |succ i=>exact h2 i x (by simpa using A)
theorem a4q:∀(l:List (DataW H)),dK l=(l.map aC).sum
 |[]=>rfl
 |d::r=>by simp only[dK,wF,uI,a4q r]
theorem Arg.step{t cs m}(h:Arg enc W t cs m):∃n x,aU enc aA W 0 (fun _=>true) true (dB enc aA W 0 (fun _=>true) true n) t cs=some x∧aC x.1=m:=by
 obtain⟨n,x,h,A⟩:=h;cases n with
 |zero=>simp[dB]at h
 |succ n=>exact⟨n,x,(DataW.trod_step enc aA W 0 (fun _=>true) true n t cs).symm.trans h,A⟩
theorem Arg.int{t k cs m}(G:aA.underlying t=some (.int k))(h:Arg enc W t cs m):∃z,cs=[.int k z]∧(Lit.int k z).wf=true∧m=1:=by
 obtain⟨n,x,h,A⟩:=h;obtain⟨z,rfl,rfl,M⟩:=DataW.trod_int G h;simp only[aC]at A;exact⟨z,rfl,M,A.symm⟩
theorem Arg.str{t cs m}(G:aA.underlying t=some .string)(h:Arg enc W t cs m):∃s:List UInt8,cs=[Sx.str s]∧m=s.length+1:=by
 obtain⟨n,x,h,A⟩:=h;obtain⟨s,rfl,rfl,_⟩:=DataW.trod_string G h;simp only[aC]at A;exact⟨s.data.toList,by cases s;simp[Sx.str],A.symm⟩
theorem Arg.bool{t cs m}(A:aA.underlying t=some .bool)(h:Arg enc W t cs m):∃b:Bool,cs=[.bool b]:=by
 obtain⟨n,x,h,_⟩:=h.step;unfold aU at h;rw[A]at h
 split at h<;>simp_all
theorem Arg.struct{t fs cs m}(M:aA.underlying t=some (.struct fs))(h:Arg enc W t cs m):
 cs.length=aA.cellsOf t∧∃ms:List Nat,ms.length=fs.size∧ms.sum+1=m∧∀(i:Nat) f G,fs[i]?=some f→ms[i]?=some G→Arg enc W f.type ((cs.drop f.offset).take (aA.cellsOf f.type)) G:=by
 obtain⟨n,x,h,N⟩:=h.step;unfold aU at h;simp only[M]at h
 split at h
 ·rename_i O
  refine⟨O,?_⟩;simp only[sO]at h;obtain⟨xs,Q,rfl⟩:=h;obtain⟨h1,h2⟩:=mapM_some Q;refine⟨xs.map fun y=>aC y.1,by simp[h1],?_,fun i f G Z A=>?_⟩
  ·rw[←N];simp only[aC,a4q,wE];rfl
  obtain⟨y,hy,hg⟩:=h2 i f (by simpa using Z);rw[xB,hy]at A;simp only[sN,aW]at A;exact⟨n,y,hg,A⟩
 cases h
theorem Arg.array{t e k cs m}(M:aA.underlying t=some (.array k e))(h:Arg enc W t cs m):
 cs.length=aA.cellsOf t∧∃ms:List Nat,ms.length=k∧ms.sum+1=m∧∀(i G:Nat),ms[i]?=some G→Arg enc W e ((cs.drop (i*aA.cellsOf e)).take (aA.cellsOf e)) G:=by
 obtain⟨n,x,h,N⟩:=h.step;unfold aU at h;simp only[M]at h
 split at h
 ·rename_i O
  refine⟨O,?_⟩;simp only[sO]at h;obtain⟨xs,Q,rfl⟩:=h;obtain⟨h1,h2⟩:=mapM_some Q;rw[bH]at h1;refine⟨xs.map fun y=>aC y.1,by simp[h1],?_,fun i G A=>?_⟩
  ·rw[←N];simp only[aC,a4q,wE];rfl
  have Z:i<k:=by
   have:=(xC.1 A).1;simpa[h1]using this
  obtain⟨y,hy,hg⟩:=h2 i i (bC Z);rw[xB,hy]at A;simp only[sN,aW]at A;exact⟨n,y,hg,A⟩
 cases h
theorem cells_at{a n cs}(h:W.cells? 0 a n=some cs):cs.length=n∧∀i,i<n→W.cell? (a.add i)=cs[i]?:=by
 unfold World.cells? at h;rw[zF (sQ _)]at h;obtain⟨h1,h2⟩:=mapM_some h;rw[bH]at h1;refine⟨h1,fun i A=>?_⟩;obtain⟨y,G,M⟩:=h2 i i (bC A);rw[M,G]
theorem Arg.slice{t e sz cs m}(ht:aA.underlying t=some (.slice e))(a2:aA.cellsOf e=sz)(a0:0<sz)(h:Arg enc W t cs m):
 ∃(p:Option Addr) (len M:Nat) (ms:List Nat),cs=[.slice p len M]∧len≤M∧M≤maxLen∧ms.length=len∧ms.sum+1≤m∧(0<len→∃b o cells T fr,p=some ⟨b,o,none⟩∧HW W b=some (.cells (List.toArray cells) T fr)∧
  ∀(i m':Nat),ms[i]?=some m'→((cells.drop (o+i*sz)).take sz).length=sz∧Arg enc W e ((cells.drop (o+i*sz)).take sz) m'):=by
 obtain⟨n,x,g,hm⟩:=h.step;clear h;unfold aU at g;simp only[ht]at g
 split at g<;>first|(exfalso;simp_all;done)|skip
 ·simp only[aW]at g;subst g;exact⟨none,0,0,[],rfl,tH _,sQ _,rfl,by rw[←hm];simp[aC],fun h=>absurd h dE⟩
 rename_i a len M he
 cases he
 split at g
 ·rename_i hl
  simp only[if_true,bQ,sO]at g;obtain⟨G,a3,rest,_,rfl⟩:=g;obtain⟨h1,h2⟩:=mapM_some a3;rw[bH]at h1;refine⟨some a,len,M,G.map fun y=>aC y.1,rfl,hl.2.1,hl.2.2,by simp[h1],?_,fun h0=>?_⟩
  ·rw[←hm];simp only[aC,a4q,wE];have:(G.map fun y=>aC y.1).sum=(G.map (aC∘fun x=>x.1)).sum:=rfl;omega
  have elem:∀i,i<len→∃(cs:List Value) (y:DataW H×List MemPlace),W.cells? 0 (a.add (i*sz)) sz=some cs∧G[i]?=some y∧dB enc aA W 0 (fun _=>true) true n e cs=some y:=fun i hi=>by
   obtain⟨y,hy,O⟩:=h2 i i (bC hi);simp only[bQ]at O;obtain⟨cs,hc,O⟩:=O;rw[a2]at hc;exact⟨cs,y,hc,hy,O⟩
  obtain⟨_,y0,Q,_,_⟩:=elem 0 h0;obtain⟨_,Q⟩:=cells_at Q;have A:=Q 0 a0;rw[xG oM]at A;rw[Nat.zero_mul]at A;have ha:a.add 0=a:=by simp[Addr.add]
  rw[ha,ha]at A;obtain⟨blk,off,a1⟩:=a;cases a1 with
  |some sp=>obtain⟨_,_,_,_,hs⟩:=World.shape?_of_cell? A;cases hs
  |none=>
   have Z:=A;unfold bV at Z;cases hb:W.heap[blk]? with
   |none=>simp only[hb]at Z;cases Z
   |some o=>
    cases o with
    |cells cells T fr=>
     refine⟨blk,off,cells.toList,T,fr,rfl,by show W.heap[blk]?=_;rw[hb],fun i m' N=>?_⟩;have hi:i<len:=by
      have:=(xC.1 N).1;simpa[h1]using this
     obtain⟨cs,y,hc,hy,O⟩:=elem i hi;obtain⟨a4,a5⟩:=cells_at hc;have a6:(cells.toList.drop (off+i*sz)).take sz=cs:=by
      apply List.ext_getElem?
      intro j;rcases tC j sz with hj|hj
      ·have h3:=a5 j hj;rw[dP,dP]at h3;unfold bV at h3;simp only[hb]at h3;rw[wZ,zF hj,xH,←h3];simp
      rw[wZ,zD oM,xE oM]
     rw[a6];rw[xB,hy]at N;simp only[sN,aW]at N;exact⟨a4,n,y,O,N⟩
    |_=>simp only[hb]at Z;cases Z
 cases g
theorem Arg.row{α:Type}{f size t e sz cs m}(ht:aA.underlying t=some (.slice e))(a2:aA.cellsOf e=sz)(a0:0<sz)(Q:α→Prop)
 (he:∀(cs:List Value) (G:Nat),G≤m→Arg enc W e cs G→∃x:α,cs=f x∧size x≤G∧Q x)(h:Arg enc W t cs m):
 ∃(l:List α) (v:Value),cs=[v]∧zJ f (HW W) l v∧(l.map size).sum+1≤m∧l.length≤maxLen∧∀x∈l,Q x:=by
 obtain⟨p,len,O,ms,rfl,Z,_,a3,a4,hb⟩:=h.slice ht a2 a0;rcases Nat.eq_zero_or_pos len with h0|h0
 ·subst h0;exact⟨[],_,rfl,⟨p,O,rfl,Z,fun h=>absurd rfl h⟩,by simp;omega,sQ _,fun x N=>by cases N⟩
 obtain⟨b,o,A,T,fr,rfl,a1,M⟩:=hb h0
 have key:∀(ms:List Nat) (o:Nat),ms.sum+1≤m→(∀(i G:Nat),ms[i]?=some G→((A.drop (o+i*sz)).take sz).length=sz∧Arg enc W e ((A.drop (o+i*sz)).take sz) G)→
  ∃(l:List α) (sp:List Value),l.length=ms.length∧A.drop o=l.flatMap f++sp∧(l.map size).sum≤ms.sum∧∀x∈l,Q x:=by
  intro ms
  induction ms with
  |nil=>exact fun o _ _=>⟨[],A.drop o,rfl,rfl,tH _,fun x N=>by cases N⟩
  |cons a r ih=>
   intro o hs M;rw[uI]at hs;have h0:=M 0 a rfl;rw[Nat.zero_mul,Nat.add_zero]at h0;obtain⟨x,N,_,hq⟩:=he _ a oM h0.2;obtain⟨l,sp,h1,h2,h3,h4⟩:=ih (o+sz) oM fun i G hi=>by
    have:=M (i+1) G (by simpa using hi);rw[show o+(i+1)*sz=o+sz+i*sz by rw[Nat.add_mul];omega]at this;exact this
   refine⟨x::l,sp,by simp[h1],?_,by simp only[wF,uI];omega,fun y hy=>?_⟩
   ·rw[xO,yE,←h2,←N,←xY];exact(uD sz (A.drop o)).symm
   rcases vX.1 hy with rfl|hy
   ·exact hq
   exact h4 y hy
 obtain⟨l,sp,h1,h2,h3,h4⟩:=key ms o a4 M;have a5:l.length=len:=h1.trans a3;subst a5;exact⟨l,_,rfl,⟨_,O,rfl,Z,fun _=>⟨b,o,A,T,fr,sp,rfl,a1,h2⟩⟩,oM,oM,h4⟩
end
end Go.Proofs.YtalapkjmkjmpjaaGreatDoor
namespace Go.Proofs.YtalapkjmkjmpjaaGreatDoor
open Go.ChangeShapes Go.WideShapes Go.ChangeAt Go.RowKit Go.Sx Go.Lib Go.ChangeMaps
theorem b5k{P W name k zs g t e n}
 (Z:P.globalNamed name=some g)(G:(P.globals[g]?).map (·.type)=some t)(ht:P.underlying t=some (.array n e))(he:P.underlying e=some (.int k))(M:P.cellsOf e=1)(N:P.cellsOf t=n)
 (h:VarReads P W name (tabData k zs)):TabIs P W name k zs:=by
 obtain⟨_,_,cs,_,p,O,Q,A,hd⟩:=h;obtain rfl:=sK (Z.symm.trans O);obtain rfl:=sK (G.symm.trans Q);unfold TabIs;rw[A,←cells_of_tab ht he M N hd]
theorem c9N{W L}(M:laidMet aA L W)(N:("unicode.White_Space",aZ)∈L)(O:("strings.asciiSpace",bD)∈L):NP (HW W):=by
 have Q:(aZ:DataW Unit)=whiteData:=kR;have Z:(bD:DataW Unit)=tabData .u8 asciiSpaceTab:=kR;have A:TabIs aA W "strings.asciiSpace" .u8 asciiSpaceTab:=b5k (g:=4) (t:=bM.t 119) (e:=bM.t 5) (n:=256) kR kR dG.t119 dG.t5 kR kR (Z▸laidMet.reads M O);have hS:WhiteTab 5 W:=whiteTab_of_reads (ρ:=bM) { dG with } ⟨kR,kR,kR,kR,kR,kR,kR,kR⟩ (Q▸laidMet.reads M N);intro w G;have key:∀(a:Addr) (v:Value),W.cell? a=some v→w.cell? a=some v:=fun a v h=>by
  have h0:=h;unfold bV at h;cases hb:W.heap[a.block]? with
  |none=>rw[hb]at h;cases h
  |some o=>
   have:=dD (w:=w) (w':=W) (a:=a) (by rw[G _ _ hb,hb]);rw[←this];exact h0
 refine⟨?_,?_⟩
 ·unfold TabIs World.var? at A ⊢;have hg:aA.globalNamed "strings.asciiSpace" =some 4:=kR;rw[hg]at A ⊢;simp only[Option.bind_some]at A ⊢;cases hb:W.heap[(4:Nat)]? with
  |none=>rw[hb]at A;cases A
  |some o=>rw[G _ _ hb];rw[hb]at A;exact A
 obtain⟨T,oT,R,oR,h1,h2,h3,h4,h5⟩:=hS;exact⟨T,oT,R,oR,key _ _ h1,key _ _ h2,key _ _ h3,key _ _ h4,fun i hi=>key _ _ (h5 i hi)⟩
theorem c7K{W L}(G:laidMet aA L W)(N:("unicode/utf8.first",bF)∈L)(O:("unicode/utf8.acceptRanges",aV)∈L):Tabs (HW W):=by
 have Q:(bF:DataW Unit)=firstData:=kR;have Z:(aV:DataW Unit)=acceptData:=kR;have A:Lib.Utf8Tabs 2 3 W:=utf8Tabs_of_readsT (ρ:=Tryz.a6Q) (U8Types.of260 Tryz.lays260) ⟨kR,kR,kR,kR,kR,kR,kR⟩ (Q▸laidMet.reads G N) (Z▸laidMet.reads G O);intro w hw;have key:∀(a:Addr) (v:Value),W.cell? a=some v→w.cell? a=some v:=fun a v h=>by
  have h0:=h;unfold bV at h;cases hb:W.heap[a.block]? with
  |none=>rw[hb]at h;cases h
  |some o=>
   have:=dD (w:=w) (w':=W) (a:=a) (by rw[hw _ _ hb,hb]);rw[←this];exact h0
 exact⟨fun c hc=>key _ _ (A.1 c hc),fun i M=>⟨key _ _ (A.2 i M).1,key _ _ (A.2 i M).2⟩⟩
end Go.Proofs.YtalapkjmkjmpjaaGreatDoor
namespace Go.Proofs.YtalapkjmkjmpjaaGreatDoor
open Go.ChangeShapes Go.WideShapes Go.ChangeAt Go.RowKit Go.Sx Go.Lib Go.ChangeMaps Go.WideMaps
section
variable {H:Type} {enc:TypeId×Value→H} {W:World} {base:Nat}
theorem Arg.field{fs:Array Field}{cs:List Value}{ms:List Nat}(h:∀(i:Nat) f m',fs[i]?=some f→ms[i]?=some m'→Arg enc W f.type ((cs.drop f.offset).take (aA.cellsOf f.type)) m')(i:Nat){f m t o k}
 (A:fs[i]?=some f)(G:ms[i]?=some m)(M:f.type=t)(N:f.offset=o)(O:aA.cellsOf t=k):Arg enc W t ((cs.drop o).take k) m:=by
 subst M N O;exact h i f m A G
theorem list4{α:Type}{l:List α}(h:l.length=4):∃a b c d,l=[a,b,c,d]:=by
 match l,h with
 |[a,b,c,d],_=>exact⟨a,b,c,d,rfl⟩
theorem c9J{n}(h:(Lit.int .i64 n).wf=true):In64 n:=by
 have h1:(decide (-9223372036854775808≤n) && decide (n≤9223372036854775807))=true:=h;rw[yP,zG,zG]at h1;exact h1
theorem Arg.elem{e k}{cs:List Value}{ms:List Nat}(h:∀(i A:Nat),ms[i]?=some A→Arg enc W e ((cs.drop (i*1)).take 1) A)(G:aA.underlying e=some (.int .i64))(Q:ms.length=k) i (Z:i<k):∃z:Int,cs[i]?=some (i64 z)∧In64 z:=by
 have M:ms[i]?=some (ms[i]'oM):=xG _;obtain⟨z,N,O,_⟩:=(h i _ M).int G;refine⟨z,?_,c9J O⟩;have:=zC (fun l=>l[0]?) N;simpa[xH]using this
theorem c3y{cs}(A:cs.length=4)(h:∀i,i<4→∃z:Int,cs[i]?=some (i64 z)∧In64 z):∃q:Ix.Four,cs=VO q∧a0l q:=by
 match cs,A with
 |[a,b,c,d],_=>
  obtain⟨G,M,w0⟩:=h 0 dE;obtain⟨N,O,Q⟩:=h 1 dE;obtain⟨Z,e2,w2⟩:=h 2 dE;obtain⟨z3,e3,w3⟩:=h 3 dE;cases M;cases O;cases e2;cases e3;exact⟨⟨G,N,Z,z3⟩,rfl,⟨w0,Q,w2,w3⟩⟩
theorem Arg.four {cs : List Value} {m : Nat} (h : Arg enc W 210 cs m) : ∃ q : Ix.Four, cs = VO q ∧ a0l q := by
  obtain ⟨hl, ms, hml, _, hf⟩ := h.array Tryz.underlying210
  rw [show Tryz.prog.cellsOf 210 = 4 by kernel_rfl] at hl
  rw [show Tryz.prog.cellsOf 3 = 1 by kernel_rfl] at hf
  exact c3y hl fun i hi => Arg.elem hf Tryz.underlying3 hml i hi
theorem Arg.act {cs : List Value} {m : Nat} (h : Arg enc W 101 cs m) : ∃ x : Act, cs = b4d x ∧ zJ VO (HW W) x.a.fs x.v ∧ ∀ q ∈ x.a.fs, a0l q := by
  obtain ⟨hl, ms, hml, hms, hf⟩ := h.struct Tryz.underlying101
  rw [show Tryz.prog.cellsOf 101 = 4 by kernel_rfl] at hl
  obtain ⟨a, b, c, d, rfl⟩ := list4 hl
  obtain ⟨m0, m1, m2, m3, rfl⟩ := list4 hml
  have cI : Tryz.prog.cellsOf 3 = 1 := by kernel_rfl
  obtain ⟨b0, h0⟩ := (Arg.field hf (o := 0) 0 rfl rfl rfl rfl (show Tryz.prog.cellsOf 4 = 1 by kernel_rfl)).bool Tryz.underlying4
  obtain ⟨z1, h1, _, _⟩ := (Arg.field hf (o := 1) 1 rfl rfl rfl rfl cI).int Tryz.underlying3
  obtain ⟨z2, h2, _, _⟩ := (Arg.field hf (o := 2) 2 rfl rfl rfl rfl cI).int Tryz.underlying3
  obtain ⟨l, v, h3, hr, _, _, hq⟩ := (Arg.field hf (o := 3) 3 rfl rfl rfl rfl (show Tryz.prog.cellsOf 99 = 1 by kernel_rfl)).row (f := VO) (size := fun _ => 0) Tryz.underlying99 (show Tryz.prog.cellsOf 210 = 4 by kernel_rfl) (by decide) a0l fun cs m' _ h => by
    obtain ⟨q, h1, h2⟩ := h.four
    exact ⟨q, h1, Nat.zero_le _, h2⟩
  simp only [List.drop_zero, List.drop_succ_cons, List.take_succ_cons, List.take_zero, List.cons.injEq, and_true] at h0 h1 h2 h3
  subst h0 h1 h2 h3
  exact ⟨⟨⟨b0, z1, z2, l⟩, d⟩, rfl, hr, hq⟩
end
section
variable {H:Type} {enc:TypeId×Value→H} {W:World} {base:Nat}
theorem c1J{α:Type}{l:List α}(h:l.length=5):∃a b c d e,l=[a,b,c,d,e]:=by
 match l,h with
 |[a,b,c,d,e],_=>exact⟨a,b,c,d,e,rfl⟩
theorem Arg.b9k{t cs m}(A:aA.underlying t=some (.int .u8))(h:Arg enc W t cs m):∃c:UInt8,cs=[u8 c]∧m=1:=by
 obtain⟨z,rfl,G,rfl⟩:=h.int A;obtain⟨c,rfl⟩:=c7r G;exact⟨c,rfl,rfl⟩
theorem Arg.d1r {cs : List Value} {m : Nat} (h : Arg enc W 61 cs m) : ∃ x : Rw Act, cs = rwC x ∧ VK (HW W) x.l x.v ∧ a0u x.l := by
  obtain ⟨xs, v, h1, h2, _, _, h4⟩ := h.row (f := b4d) (size := fun _ => 0) Tryz.underlying61 (show Tryz.prog.cellsOf 101 = 4 by kernel_rfl) (by decide) (fun x => zJ VO (HW W) x.a.fs x.v ∧ ∀ q ∈ x.a.fs, a0l q) fun cs m' _ h => by
    obtain ⟨x, h1, h2, h3⟩ := h.act
    exact ⟨x, h1, Nat.zero_le _, h2, h3⟩
  obtain ⟨p, k, rfl⟩ := rowLen h2
  exact ⟨⟨xs, p, k⟩, h1, ⟨h2, fun x hx => (h4 x hx).1⟩, fun x hx => (h4 x hx).2⟩
theorem c3u {v : Value} {d : DataW H} {p : List MemPlace} (hval : Value.okWide Tryz.prog W .any base 22 v) (h : DataW.Trod enc Tryz.prog W 0 (fun _ => true) true 22 v d p) (hlt : ∀ x ∈ p, x.block < W.heap.size) :
    ∃ L : List (Rw Act), a1o (HW W) L v ∧ (∀ x ∈ L, a0u x.l) ∧ Again enc W 22 v d p := by
  have hag := again (by kernel_rfl) (of_decide_eq_true (by kernel_rfl)) h hlt
  obtain ⟨a, len, cap, rfl⟩ := okWide_slice Tryz.underlying22 hval
  obtain ⟨xs, v', h1, h2, _, _, h4⟩ := (Arg.of h).row (f := rwC) (size := fun _ => 0) Tryz.underlying22 (show Tryz.prog.cellsOf 61 = 1 by kernel_rfl) (by decide) (fun x : Rw Act => VK (HW W) x.l x.v ∧ a0u x.l) fun cs m' _ h => by
    obtain ⟨x, h1, h2, h3⟩ := h.d1r
    exact ⟨x, h1, Nat.zero_le _, h2, h3⟩
  obtain rfl : Value.slice a len cap = v' := by simpa [Value.cells] using h1
  exact ⟨xs, ⟨h2, fun x hx => (h4 x hx).1⟩, fun x hx => (h4 x hx).2, hag⟩
theorem c9X {v : Value} {d : DataW H} {p : List MemPlace} (hval : Value.okWide Tryz.prog W .any base 24 v) (h : DataW.Trod enc Tryz.prog W 0 (fun _ => true) true 24 v d p) (hlt : ∀ x ∈ p, x.block < W.heap.size) :
    ∃ q : Qz, v = .agg (qzC q).toArray ∧ q.raw.length + 1 ≤ Rows.uptoBulk d ∧ Again enc W 24 v d p := by
  have hag := again (by kernel_rfl) (of_decide_eq_true (by kernel_rfl)) h hlt
  obtain ⟨xs, rfl, hx⟩ := okWide_struct Tryz.underlying24 hval
  obtain ⟨hl, ms, hml, hms, hf⟩ := (Arg.of h).struct Tryz.underlying24
  have hxl : xs.toList.length = 5 := by rw [show Tryz.prog.cellsOf 24 = 5 by kernel_rfl] at hx; simpa using hx
  obtain ⟨a, b, c, e, g, hxs⟩ := c1J hxl
  obtain rfl : xs = #[a, b, c, e, g] := by rw [← Array.toArray_toList (xs := xs), hxs]
  obtain ⟨m0, m1, m2, m3, m4, rfl⟩ := c1J hml
  have cU : Tryz.prog.cellsOf 5 = 1 := by kernel_rfl
  obtain ⟨k0, h0, rfl⟩ := (Arg.field hf (o := 0) 0 rfl rfl rfl rfl cU).b9k Tryz.underlying5
  obtain ⟨k1, h1, rfl⟩ := (Arg.field hf (o := 1) 1 rfl rfl rfl rfl cU).b9k Tryz.underlying5
  obtain ⟨k2, h2, rfl⟩ := (Arg.field hf (o := 2) 2 rfl rfl rfl rfl cU).b9k Tryz.underlying5
  obtain ⟨s3, h3, rfl⟩ := (Arg.field hf (o := 3) 3 rfl rfl rfl rfl (show Tryz.prog.cellsOf 9 = 1 by kernel_rfl)).str Tryz.underlying9
  obtain ⟨z4, h4, _, _⟩ := (Arg.field hf (o := 4) 4 rfl rfl rfl rfl (show Tryz.prog.cellsOf 3 = 1 by kernel_rfl)).int Tryz.underlying3
  simp only [Value.cells, List.drop_zero, List.drop_succ_cons, List.take_succ_cons, List.take_zero, List.cons.injEq, and_true] at h0 h1 h2 h3 h4
  subst h0 h1 h2 h3 h4
  simp only [List.sum_cons, List.sum_nil] at hms
  exact ⟨⟨k0, k1, k2, s3, z4⟩, rfl, by dsimp only; omega, hag⟩
