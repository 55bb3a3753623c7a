/-
  Own texts on the laws of the seat, joined: the logic, and contracts of functions. Conditions: none.
-/
import Derived.Test.YtdjkhllhakhjbaaGreatDoorNmG
import Derived.Test.YtdjkhllhakhjbaaGreatDoorPG18
set_option linter.all false
set_option maxRecDepth 100000
set_option maxHeartbeats 40000000
open Go.Sx.J renaming z -> aA,op -> aP,split -> eH,eqv -> fC
open List renaming length_append -> aB,length_singleton -> aU,length_map -> aV,take_of_length_le -> bC,flatMap_append -> bK,length_cons -> bU,map_append -> dL,mem_cons -> dU,length_pos_iff -> dV,mem_map -> dW,mem_singleton -> eF,getElem?_map -> eU,length_take -> fA,append_nil -> fE,mem_append -> fF,map_map -> fV
open Go.Sx.JA renaming tk -> aC,fix -> bG,tkG -> dN
open Go.Sx.HSub renaming c -> aF,n -> aJ
open Go.Sx.Le renaming refl -> aG,trans -> aQ
open Bool renaming noConfusion -> aH,and_eq_true -> eY
open Go.Sx.Cj renaming region -> aI,block -> aY,cond -> aZ,ret -> bF,seq -> bM,JD -> bY,loop -> eP
open Go.Sx.CSub renaming n -> aK
open Go.Sx.EW renaming c -> aN,z -> bP,s -> dP
open Cq renaming parse -> aO,deep -> dF,b8w -> dG,b9r -> dM,right -> dR
open Go.Value renaming bool -> aS
open Go.Proofs.Tryz renaming prog -> aT
open Go.Sx.Ej renaming bare -> aW,keep -> bW,seq -> cZ,JE -> dD,round -> dJ,KU -> dK,persist -> dQ,FM -> dZ,OY -> eG,JM -> fD,a4h -> fG
open Go.Sx.IC renaming one -> aX,none -> cO,agg -> fQ
open Nat renaming zero_le -> bD,lt_succ_self -> eX
open Go.Sx.yR renaming ZU -> bH,PL -> bI,WH -> dH
open Ke renaming all -> bJ,KG -> fU
open Go.Sx.Keeps renaming d -> bQ,k -> fH,n -> fJ,r -> fK
open Eq renaming trans -> bT,symm -> bZ
open Go.Sx.KP renaming part -> bV,none -> fM
open List.Sublist renaming cons -> dA,refl -> dB
open Ix renaming PV -> dI,a4A -> dS,Rec -> dX,TOK -> fP
open Go.Sx.DZ renaming z -> dY
open Go.Sx.yS renaming toPure -> fB
open Go.Sx.Src renaming slice -> fO
namespace Go.Proofs.YtdjkhllhakhjbaaGreatDoor
open _root_.Go.Proofs.Tryz
open Go Go.Sx
theorem a4X l x v (hl:l.length≤1000000) I (G:LD 9 I l v):Pure aT 198 [v,str x] I (.bool (l.contains x)):=by
 obtain⟨b,c,sp,rfl,N⟩:=G;refine Pure.of_same (Enters.of func198 dE rfl) fun w O=>?_;have h:=Tryz.slices_Contains_string b 0 l.length c (l.map fun y=>⟨y.toArray⟩) ⟨x.toArray⟩ w sI oM (fun j A=>by
  rw[Nat.zero_add];simp at A;refine cell_of_heap (O.1 _ _ N) ?_;rw[JL (x:=l[j]) (DC A)];simp[str,DC A])
 rw[bC sI]at h;have e:Lib.containsS (l.map fun y=>(⟨y.toArray⟩:ByteArray)) ⟨x.toArray⟩=l.contains x:=by
  rw[Bool.eq_iff_iff,Lib.containsS_iff,List.contains_iff_mem,dW];constructor
  ·rintro⟨y,Q,Z⟩;have e:y=x:=by simpa using zD ByteArray.data Z
   exact e▸Q
  exact fun h=>⟨x,h,rfl⟩
 rw[e]at h;exact h
def a2n (q:Cq.Qn):Prop:=∀(p:Option Addr) (c:Nat) (I:Heap),PS I q.ps p→q.size≤1000000000→q.wide≤1000000000→Pure aT 202 [.agg (FX q p c).toArray] I (i64 (dF q))
theorem b2U I:yS aT 199 [] I [] (fun e G H'=>(∃v,e= .returned v∧LD 9 G Cq.indexes v)∧H'=[]):=by
 refine yS.ob func199 ?_;intro w0 _;refine Cj.sr (aA yQ ?_);refine J.yX (aP rfl (BQ AO zS JY (aX rfl (aX rfl (aX rfl (aX rfl (aX rfl (aX rfl cO)))))) ?_));intro N A;refine aA yQ ?_;refine J.ns (bF (dQ A (fun _ _ h=>?_)));refine zM ?_;exact⟨⟨_,rfl,N,6,[],rfl,h⟩,rfl⟩
theorem a9G I:yS aT 245 [] I [] (fun e G H'=>(∃v,e= .returned v∧LD 9 G Cq.relations v)∧H'=[]):=by
 refine yS.ob func245 ?_;intro w0 _;refine Cj.sr (aA yQ ?_);refine J.yX (aP rfl (BQ AO zS JY (aX rfl (aX rfl (aX rfl (aX rfl (aX rfl (aX rfl cO)))))) ?_));intro N A;refine aA yQ ?_;refine J.ns (bF (dQ A (fun _ _ h=>?_)));refine zM ?_;exact⟨⟨_,rfl,N,6,[],rfl,h⟩,rfl⟩
theorem b7j q (ih:∀q',Cq.Qn.size q'<q.size→a2n q'):a2n q:=by
 intro p c I a7 _ b0;have b9:q.i.length+q.r.length+q.t.length≤1000000000:=by unfold Cq.Qn.wide at b0;omega
 refine fB ?_;refine yS.ob func202 ?_;intro w0 _;refine Cj.sr (aP rfl (BG ?_));intro _ _;refine aA yQ ?_;refine J.zX (aI (aA (qq2 (off':=0) EG BO) ?_));refine aA (yV FY (yR.at 0 rfl)) ?_;refine aA DW ?_;refine J.cd (fun ac=>?_) (fun ac=>?_)
 ·have au:=DF ac;have hk:q.k=1:=oM;refine bM (bM (bY [0] [] 18 kR ?_));refine bG ⟨(aF 0 rfl aJ),aK,(aG _)⟩ (fun aq=>?_);refine aC 1 rfl aq (qq2 (off':=1) EG zS) ?_;refine aC 2 rfl aq (yV BR (bH 0 rfl)) ?_;refine zO 0 rfl (yT (H1:=[]) rfl rfl rfl rfl rfl (b2U _) ?_ (fun _ _ _ _ h=>by obtain⟨⟨_,h,_⟩,_⟩:=h;cases h) (fun _ _ h=>by obtain⟨⟨_,h,_⟩,_⟩:=h;cases h));intro _ _ _ a2 b1;have a7:=a7.mono a2;obtain⟨⟨_,b2,a8⟩,rfl⟩:=b1;cases b2;refine⟨⟨(aQ (aG _) a2),(aF 0 rfl aJ),aK⟩,?_⟩;refine zO 3 rfl (yU rfl rfl rfl rfl rfl (a4X Cq.indexes _ _ dE _ a8) ?_);refine⟨⟨(aQ (aG _) a2),(aF 0 rfl aJ),aK⟩,?_⟩;refine bG ⟨(aF 0 rfl aJ),aK,(aQ (aG _) a2)⟩ (fun Q=>?_);refine aC 4 rfl Q (ER rfl rfl) ?_;refine aC 5 rfl Q yP ?_;refine JA.split 13 rfl (fun G=>?_) (fun G=>?_)
  ·refine AY 6 5 13 false Q (.inl (zD aS G)) ?_;refine AY 7 5 13 false Q (.inl (zD aS G)) ?_;refine AY 8 5 13 false Q (.inl (zD aS G)) ?_;refine AY 9 5 13 false Q (.inl (zD aS G)) ?_;refine AY 10 5 13 false Q (.inl (zD aS G)) ?_;refine aC 11 rfl Q (EO G) ?_;refine aC 12 rfl Q yP ?_;refine AY 13 12 20 false Q (.inl (zD aS rfl)) ?_;refine AY 14 12 20 false Q (.inl (zD aS rfl)) ?_;refine AY 15 12 20 false Q (.inl (zD aS rfl)) ?_;refine AY 16 12 20 false Q (.inl (zD aS rfl)) ?_;refine aC 17 rfl Q (EH rfl rfl rfl rfl) ?_;refine AA ?_;refine cZ (aZ rfl (fun ad=>?_) (fun ad=>aH (bT (bZ rfl) ad)));refine Cj.sr (aA yQ ?_);refine J.ns (Cj.rs (dK (aW ?_)));refine zM ?_;refine⟨?_,rfl⟩;rw[dG hk]
   simp_all<;>omega
  refine dN 7 5 13 false _ rfl Q rfl rfl G (qq2 (off':=2) EG zS) ?_;refine dN 8 5 13 false _ rfl Q rfl rfl G (yV BR (bH 0 rfl)) ?_;refine JA.stepG 6 5 13 false _ kR rfl rfl rfl rfl G (yT (H1:=[]) rfl rfl rfl rfl rfl (a9G _) ?_ (fun _ _ _ _ h=>by obtain⟨⟨_,h,_⟩,_⟩:=h;cases h) (fun _ _ h=>by obtain⟨⟨_,h,_⟩,_⟩:=h;cases h));intro _ _ _ a3 av;have a7:=a7.mono a3;have a8:=a8.mono a3;obtain⟨⟨_,aw,ak⟩,rfl⟩:=av;cases aw;refine⟨⟨(aQ (aQ (aG _) a2) a3),(aF 0 rfl aJ),aK⟩,?_⟩;refine JA.stepG 9 5 13 false _ kR rfl rfl rfl rfl G (yU rfl rfl rfl rfl rfl (a4X Cq.relations _ _ dE _ ak) ?_);refine⟨⟨(aQ (aQ (aG _) a2) a3),(aF 0 rfl aJ),aK⟩,?_⟩;refine bG ⟨(aF 0 rfl aJ),aK,(aQ (aQ (aG _) a2) a3)⟩ (fun N=>?_);refine dN 10 5 13 false _ rfl N rfl rfl G (ER rfl rfl) ?_;refine aC 11 rfl N (ED G) ?_;refine aC 12 rfl N yP ?_;refine JA.split 20 rfl (fun Z=>?_) (fun Z=>?_)
  ·refine AY 13 12 20 false N (.inl (zD aS Z)) ?_;refine AY 14 12 20 false N (.inl (zD aS Z)) ?_;refine AY 15 12 20 false N (.inl (zD aS Z)) ?_;refine AY 16 12 20 false N (.inl (zD aS Z)) ?_;refine aC 17 rfl N (EO Z) ?_;refine AA ?_;refine cZ (aZ rfl (fun ae=>?_) (fun ae=>aH (bT (bZ rfl) ae)));refine Cj.sr (aA yQ ?_);refine J.ns (Cj.rs (dK (aW ?_)));refine zM ?_;refine⟨?_,rfl⟩;rw[dG hk]
   simp_all<;>omega
  refine dN 13 12 20 false _ rfl N rfl rfl Z (qq2 (off':=4) EG UM) ?_;refine dN 14 12 20 false _ rfl N rfl rfl Z (yV isAgg127 (bH 0 rfl)) ?_;refine dN 15 12 20 false _ rfl N rfl rfl Z (zZ a0k) ?_;refine dN 16 12 20 false _ rfl N rfl rfl Z (NV rfl rfl rfl) ?_;refine aC 17 rfl N (ED Z) ?_;refine AA ?_;refine cZ (aZ rfl (fun a9=>?_) (fun a9=>?_))
  ·have al:=BH a9;refine Cj.sr (aA yQ ?_);refine J.ns (Cj.rs (dK (aW ?_)));refine zM ?_;refine⟨?_,rfl⟩;rw[dG hk]
   simp_all<;>omega
  have al:=BJ a9;refine Cj.ks (Cj.sr (aA yQ ?_));refine J.ns (Cj.rs (aW ?_));refine zM ?_;refine⟨?_,rfl⟩;rw[dG hk]
  simp_all<;>omega
 have au:=DU ac;have hk:q.k≠1:=oM;refine Cj.ks (bM (Cj.sr (aA (qq2 (off':=0) EG BO) ?_)));refine aA (yV FY (yR.at 0 rfl)) ?_;refine aA AV ?_;refine aA yP ?_;refine eH 29 rfl (fun a0=>?_) (fun a0=>?_)
 ·refine AP 3 29 30 false a0 ?_;refine AP 3 29 31 false a0 ?_;refine AP 3 29 32 false a0 ?_;refine aA (EO a0) ?_;refine aA yP ?_;refine EJ 8 34 35 false ?_;refine EJ 8 34 36 false ?_;refine EJ 8 34 37 false ?_;refine EJ 8 34 38 false ?_;refine EJ 8 34 39 false ?_;refine EJ 8 34 40 false ?_;refine EJ 8 34 41 false ?_;refine EJ 8 34 42 false ?_;refine EJ 8 34 43 false ?_;refine aA (EH rfl rfl rfl rfl) ?_;refine aA yP ?_;refine EJ 19 45 46 false ?_;refine EJ 19 45 47 false ?_;refine EJ 19 45 48 false ?_;refine EJ 19 45 49 false ?_;refine aA (EH rfl rfl rfl rfl) ?_;refine J.c1 (fun _=>?_);refine Cj.sr (aA yQ ?_);refine J.ns (Cj.rs (aW ?_));refine zM ?_;rw[dM hk (.inl (by have h:=a0;simp at h;omega))];exact rT
 refine zU 3 29 false a0 (zK (qq2 (off':=0) EG BO) ?_);refine zU 3 29 false a0 (zK (yV FY (yR.at 0 rfl)) ?_);refine zU 3 29 false a0 (zK (NV rfl rfl rfl) ?_);refine aA (ED a0) ?_;refine aA yP ?_;refine eH 34 rfl (fun A=>?_) (fun A=>?_)
 ·refine AP 8 34 35 false A ?_;refine AP 8 34 36 false A ?_;refine AP 8 34 37 false A ?_;refine AP 8 34 38 false A ?_;refine AP 8 34 39 false A ?_;refine AP 8 34 40 false A ?_;refine AP 8 34 41 false A ?_;refine AP 8 34 42 false A ?_;refine AP 8 34 43 false A ?_;refine aA (EO A) ?_;refine aA yP ?_;refine EJ 19 45 46 false ?_;refine EJ 19 45 47 false ?_;refine EJ 19 45 48 false ?_;refine EJ 19 45 49 false ?_;refine aA (EH rfl rfl rfl rfl) ?_;refine J.c1 (fun _=>?_);refine Cj.sr (aA yQ ?_);refine J.ns (Cj.rs (aW ?_));refine zM ?_;rw[dM hk (.inr (.inl (by have h:=A;simp at h;omega)))];exact rT
 refine zU 8 34 false A (zK (qq2 (off':=1) EG zS) ?_);refine zU 8 34 false A (zK (yV BR (yR.at 0 rfl)) ?_);refine zU 8 34 false A (zK (qq2 (off':=2) EG zS) ?_);refine zU 8 34 false A (zK (yV BR (yR.at 0 rfl)) ?_);refine J.KY 8 34 false _ rfl rfl rfl A (JR (OB rfl rfl rfl (by first|omega|(simp only[aB];omega)|(simp;omega))) rfl rfl ?_);refine zU 8 34 false A (zK (qq2 (off':=3) EG zS) ?_);refine zU 8 34 false A (zK (yV BR (yR.at 0 rfl)) ?_);refine J.KY 8 34 false _ rfl rfl rfl A (JR (OB rfl rfl rfl (by first|omega|(simp only[aB];omega)|(simp;omega))) rfl rfl ?_);refine zU 8 34 false A (zK (KC rfl rfl rfl) ?_);refine aA (ED A) ?_;refine aA yP ?_;refine eH 45 rfl (fun O=>?_) (fun O=>?_)
 ·refine AP 19 45 46 false O ?_;refine AP 19 45 47 false O ?_;refine AP 19 45 48 false O ?_;refine AP 19 45 49 false O ?_;refine aA (EO O) ?_;refine J.c1 (fun _=>?_);refine Cj.sr (aA yQ ?_);refine J.ns (Cj.rs (aW ?_));refine zM ?_;rw[dM hk (.inr (.inr (.inl (bne_iff_ne.1 O))))];exact rT
 refine zU 19 45 false O (zK (qq2 (off':=4) EG UM) ?_);refine zU 19 45 false O (zK (yV isAgg127 (yR.at 0 rfl)) ?_);refine zU 19 45 false O (zK (zZ a0k) ?_);refine zU 19 45 false O (zK (GH rfl rfl rfl) ?_);refine aA (ED O) ?_;refine J.cd (fun a4=>?_) (fun a4=>?_)
 ·have am:=bne_iff_ne.1 a4;refine Cj.sr (aA yQ ?_);refine J.ns (Cj.rs (aW ?_));refine zM ?_;rw[dM hk (.inr (.inr (.inr (by have h:=a4;simp at h;omega))))];exact rT
 have am:=DI a4;have ax:=a0;have ay:=A;have af:=O;have az:=a4;have an:¬(q.k<2∨q.k>4∨q.i≠[]∨q.r≠[]∨q.t≠[]∨q.ps.len≠2):=by
  simp at ax ay af az;simp[af];omega
 obtain⟨qa,qb,a6⟩:=Cq.Qs.b7Z (ps:=q.ps) oM
 change q.Two qa qb at a6
 have ag:=Cq.b9H hk an a6;have ah:=a6.size;have b8:=a6.wide;have ba:=Cq.b3L qb;have bb:=Cq.b3L qa;have bc:=Cq.b4f qa;have bd:=Cq.b4f qb;have be:=a6.len;obtain⟨_,off,cs',T,fr,pa,ca,pb,cb,rfl,ar,b3,b4,b5,b6,b7⟩:=a7.b7O a6;refine Cj.ks (bM (bY [0] [] 12 kR ?_));have ab:=ar;refine bG ⟨(aF 0 rfl aJ),aK,(aG _)⟩ (fun a1=>?_);refine aC 0 rfl a1 (qq2 (off':=4) EG UM) ?_;refine aC 1 rfl a1 (yV isAgg127 (bH 0 rfl)) ?_;refine aC 2 rfl a1 (AU (off':=off) a0k CX) ?_;refine aC 3 rfl a1 (FN FT CX (dH ab) b3) ?_;refine aC 5 rfl a1 (qq2 (off':=4) EG UM) ?_;refine aC 6 rfl a1 (yV isAgg127 (bH 0 rfl)) ?_;refine aC 7 rfl a1 (AU (off':=off+5) a0k CX) ?_;refine aC 8 rfl a1 (FN FT CX (dH ab) b4) ?_;refine zO 4 rfl (yU rfl rfl rfl rfl rfl (ih qa ah.1 pa ca _ b6 oM oM) ?_);refine⟨⟨(aG _),(aF 0 rfl aJ),aK⟩,?_⟩;refine zO 9 rfl (yU rfl rfl rfl rfl rfl (ih qb ah.2 pb cb _ b7 oM oM) ?_);refine⟨⟨(aG _),(aF 0 rfl aJ),aK⟩,?_⟩;refine bG ⟨(aF 0 rfl aJ),aK,(aG _)⟩ (fun ai=>?_);refine aC 10 rfl ai yQ ?_;refine aC 11 rfl ai yQ ?_;refine AA ?_;refine cZ (bM (Cj.sr (aA yP ?_)));refine aA yP ?_;refine aA (OZ rfl rfl rfl) ?_;refine fC 63 rfl (show _=i64 (min (dF qa) (dF qb)) from(by congr 1;omega)) ?_;refine aA AV ?_;refine J.cd (fun aa=>?_) (fun aa=>?_)
 ·have ao:=BH aa;refine Cj.sr (aA yQ ?_);refine J.ns (Cj.rs (aW ?_));refine zM ?_;rw[ag,zG oM];exact rT
 have ao:=BJ aa;refine Cj.ks (bM (Cj.sr (aA (qq2 (off':=4) EG UM) ?_)));refine aA (yV isAgg127 (yR.at 0 rfl)) ?_;refine aA (AU (off':=off+5) a0k CX) ?_;refine aA (qq2 EG BO) ?_;refine aA (EF FY (bI ar) b5) ?_;refine aA (GH rfl rfl rfl) ?_;refine J.cd (fun a5=>?_) (fun a5=>?_)
 ·have ap:=bne_iff_ne.1 a5;have aj:Cq.up qb.k=1:=by have h:=a5;simp at h;simp[Cq.up,h]
  refine aI (aA yP ?_);refine aA (yY rfl rfl rfl (zV oM)) ?_;refine aA yQ ?_;refine J.yX (aA yP ?_);refine aA yP ?_;refine aA (KE rfl rfl rfl) ?_;refine fC 75 rfl (show _=i64 (max (dF qa) (dF qb+1)) from(by congr 1;omega)) ?_;refine aA yQ ?_;refine J.ns (bF (aW ?_));refine zM ?_;refine⟨?_,rfl⟩;rw[ag,zF oM,aj];simp
 have ap:=DI a5;have aj:Cq.up qb.k=0:=by have h:=a5;simp at h;simp[Cq.up,h]
 refine Cj.ks (Cj.sr (aA yP ?_));refine aA yP ?_;refine aA (KE rfl rfl rfl) ?_;refine fC 75 rfl (show _=i64 (max (dF qa) (dF qb)) from(by congr 1;omega)) ?_;refine aA yQ ?_;refine J.ns (bF (aW ?_));refine zM ?_;refine⟨?_,rfl⟩;rw[ag,zF oM,aj];simp
theorem c3A q:a2n q:=by
 suffices ∀n (q:Cq.Qn),q.size<n→a2n q from this _ q (eX _)
 intro n
 induction n with
 |zero=>intro q h;omega
 |succ n A=>intro q h;exact b7j q fun G _=>A G oM
theorem b7P q p c (A:q.size≤1000000000)(G:q.wide≤1000000000) I (N:PS I q.ps p):Pure aT 141 [.agg (FX q p c).toArray] I (.bool (dR q)):=by
 refine fB ?_;refine yS.ob func141 ?_;intro w0 _;refine Cj.sr (aP rfl (BG ?_));intro _ _;refine aA yQ ?_;refine J.yX (aA (zW FT CX (yR.at 0 rfl)) ?_);refine aP rfl (yU rfl rfl rfl rfl rfl (c3A q p c _ N A G) ?_);refine aA yQ ?_;refine J.yX (aA yP ?_);refine aA (JQ rfl rfl rfl) ?_;refine aA yP ?_;refine eH 8 rfl (fun h=>?_) (fun h=>?_)
 ·refine zU 2 8 true h (zK yP ?_);refine zU 2 8 true h (zK (ZC rfl rfl rfl) ?_);refine aA (EO h) ?_;refine aA yQ ?_;refine J.ns (bF (aW ?_));refine zM ?_;refine⟨?_,rfl⟩;rw[←Cq.a6n]
  simp_all<;>omega
 refine AP 2 8 9 true h ?_;refine AP 2 8 10 true h ?_;refine aA (ED h) ?_;refine aA yQ ?_;refine J.ns (bF (aW ?_));refine zM ?_;refine⟨?_,rfl⟩;rw[←Cq.a6n]
 simp_all<;>omega
structure TF where
  vis:ML Ix.Rec
  rest:ML Ix.Rec
  g:Gs
def fnd (L:Ix.Ix) (vis:ML dX):List FW:=(vis.map (·.1)).map fun t=>(Ix.UG L t,t)
theorem a6l L vis x:fnd L (vis++[x])=fnd L vis++[(Ix.UG L x.1,x.1)]:=by
 unfold fnd;rw[dL,dL];rfl
theorem c2z L vis:(fnd L vis).length=vis.length:=by unfold fnd;rw[aV,aV]
theorem b4T{L q}(hf:Cq.form q=true)(h:∀t,Ix.sat L q t=false):dI L q []:=
 Ix.b0G hf List.Pairwise.nil fun t=>by rw[h t];simp
theorem b5i{L q}(hf:Cq.form q=true){m k}(h:JF m k (Ix.sat L q)){vis}(A:vis.Perm m){ls:List FW}(G:ls.Perm (fnd L vis))(N:ls.Pairwise fun p q=>¬UL q p):dI L q (ls.map (·.2)):=by
 have hn:(vis.map (·.1)).Nodup:=((A.map _).nodup_iff.2 h.1.1);obtain⟨O,Q⟩:=b8x hn G N;exact Ix.b0G hf O fun t=>by rw[Q,(A.map _).mem_iff,h.mem]
theorem a5F{ls:List FW}{k x}(h:ls[k]?=some x):(ls.take (k+1)).map (·.2)=(ls.take k).map (·.2)++[x.2]:=ZM _ h
theorem b7b{ls:List FW}(h:ls.Perm []):ls=[]:=h.eq_nil
theorem c2G xv L q p c (aq:q.size≤1000000000)(ar:q.wide≤10000000)(hR:dR q=true)(au:fP L) I (G:PS I q.ps p)(Q:OJ I xv L)(Z:LZ I):yS aT 97 [xv,.agg (FX q p c).toArray] I []
 (fun e _ H'=>∃(r:List dX) (g:Gs),dI L q r∧BM 0 2 r.length (r.flatMap recC) g∧e= .returned (.tuple #[gV r.length g,i64 0])∧H'=gH 34 (r.flatMap recC) g):=by
 have O:Cq.form q=true:=by unfold dR at hR;rw[eY]at hR;exact hR.1
 have b8:=Q.big;refine yS.ob func97 ?_;intro w0 _;refine Cj.sr (aP rfl (BG ?_));intro _ _;refine aA yQ ?_;refine aA yQ ?_;refine J.zX (aI (aA (zW FT CX (yR.at 0 rfl)) ?_));refine aP rfl (yU rfl rfl rfl rfl rfl (b7P q p c aq oM _ G) ?_);refine fC 12 rfl (show _= .bool true from(zD aS hR)) ?_;refine aA (ER rfl rfl) ?_;refine J.ns (aZ rfl (fun ad=>aH (bT (bZ (zD not rfl)) ad)) (fun ad=>?_));refine Cj.ks (Cj.sr (aA yQ ?_));refine J.zX (aI (aA yP ?_));refine aA (zW FT CX (yR.at 0 rfl)) ?_;refine aP rfl (yT (H1:=[]) rfl rfl rfl rfl rfl (b5K xv L au q p c _ G Q Z ar O) ?_ (fun _ _ _ _ ⟨_,h,_⟩=>by cases h) (fun _ _ ⟨_,h,_⟩=>by cases h));intro _ _ _ a3 av;have G:=G.mono a3;have Q:=Q.mono a3;have Z:=Z.mono a3;obtain⟨ws,h,hset,rfl⟩:=av;cases h;rcases id hset with⟨rfl,hS⟩|⟨sb,sm,sk,rfl,hm,N⟩
 ·

  refine aP rfl (OI rfl rfl rfl rfl LW ?_);intro _ _;refine J.ns (aY (Cj.rounds 1 ?_));refine Rj.succ ?_;refine Cj.sr (aP rfl (QD 0 rfl rfl rfl rfl rfl ?_));refine aA AZ ?_;refine J.nss (aZ rfl (fun ae=>aH (bT (bZ rfl) ae)) (fun ae=>?_));refine Cj.exit (dD (dD (fD (cZ (Cj.sr (aA yP ?_))))));refine aP rfl (FB (H1:=[]) [_,_] rfl rfl rfl rfl rfl rfl (a4q (base:=0) [] none rT dE _) ?_ (fun _ _ _ _ ⟨_,_,_,h,_⟩=>by cases h) (fun _ _ ⟨_,_,_,h,_⟩=>by cases h));rintro v9 I9 H9 A ⟨ls,a6,af,h,rfl⟩;cases h;have aw:=b7b a6;subst aw;have a4:dI L q (([]:List FW).map (·.2)):=b4T O hS;have G:=G.mono A;have Q:=Q.mono A;have Z:=Z.mono A;refine J.yX (aA yQ ?_);refine J.zX (aI (aA yP ?_));refine aA (zZ a4x) ?_;refine aA yP ?_;refine J.ns (aY (Cj.rounds 1 ?_));refine Rj.succ ?_;refine Cj.sr (aA AV ?_);refine J.nss (aZ rfl (fun a7=>aH (bT (bZ (by first|rfl|decide)) a7)) (fun a7=>?_));refine Cj.exit (dD (dD (fD (cZ (Cj.sr (aA yP ?_))))));refine aA yQ ?_;refine aA yQ ?_;refine J.ns (bF (aW ?_));refine fG rfl rfl rfl rfl ?_;exact⟨_,none,a4,⟨rfl,rfl⟩,rfl,rfl⟩
 have b9:sm.length≤100000:=by
  have h9:=hm.len (l:=L.map (·.1)) fun t ht=>Ix.a2d L _ q (eX _) O ht;rw[aV]at h9;omega
 refine aP rfl (MW (kv:=AQ) (l:=sm) rfl rfl rfl rfl LW (bI N) ?_);intro ag _;refine J.ns (aY (Cj.keep (fH (bQ fJ)) ?_));refine eP (ι:=TF) (fun y=>(y.vis++y.rest).Perm sm∧BM w0.heap.size 3 (fnd L y.vis).length ((fnd L y.vis).flatMap OW) y.g) (fun y=>y.rest.length) (fun y=>[(0,xv),(6,gV (fnd L y.vis).length y.g),(17,ptr ag 0)]) (fun y=>_) (fun y=>(ag,XB sb sk y.vis sk)::gH 243 ((fnd L y.vis).flatMap OW) y.g) ⟨[],sm,none⟩ ⟨.refl _,rfl,rfl⟩ rT rfl rfl ?_;rintro⟨vis,rest,g⟩ ⟨hp,hg⟩;dsimp only at hp hg ⊢;have ak:=hp.length_eq;rw[aB]at ak;have ba:=c2z L vis;refine Cj.sr (aP rfl (OD (kv:=AQ) (l:=sm) 0 rfl rfl rfl rfl rfl (bI N) hm.1.2.2 (Nat.le_refl _) hm.1.2.1 hp ?_ ?_))
 ·rintro x ab H9 ax ah ⟨-,hset⟩;simp only[List.set_cons_zero,List.set_cons_succ]at hset;subst hset;have ay:x∈sm:=ah.mem_iff.1 (List.mem_append_left _ (List.mem_append_right _ (.head _)));refine aA AZ ?_;refine J.nss (aZ rfl (fun a8=>?_) (fun a8=>aH (bT (bZ rfl) a8)));refine Cj.ks (aY (Cj.sr (aA (RJ (kv:=AQ) (l:=sm) rfl rfl (yR.at 0 rfl) (bI N) ay hm.1.2.1) ?_)));refine aA AZ ?_;refine aP rfl (CU QU ?_);intro _ _;refine aP rfl (AB 0 AL (aN (aN bP)) dY ?_);refine J.ns (bY [0,1] [] 9 kR ?_);have b7:=N;refine bG ⟨(aF 0 rfl (aF 1 rfl aJ)),aK,(aG _)⟩ (fun a0=>?_);refine aC 0 rfl a0 yP ?_;refine aC 1 rfl a0 yP ?_;refine aC 2 rfl a0 (zW DJ AL (bH 0 rfl)) ?_;refine aC 4 rfl a0 (zW DJ AL (bH 0 rfl)) ?_;refine zO 3 rfl (yU rfl rfl rfl rfl rfl (c1i xv L x.1 _ Q) ?_);refine⟨⟨(aG _),(aF 0 rfl (aF 1 rfl aJ)),aK⟩,?_⟩;refine bG ⟨(aF 0 rfl (aF 1 rfl aJ)),aK,(aG _)⟩ (fun al=>?_);refine aC 5 rfl al (BD (pl:= #[(0,1),(1,2)]) rfl rfl zeroValue243 rfl c1H (fun w=>by simp[AL,zS]) (bV rfl rfl rfl (aN bP) (bV rfl rfl rfl (dP (aN (aN bP))) fM))) ?_;refine zO 6 rfl (BQ a4x sizeOf243 zeroValue243 (fQ rfl cO) ?_);intro _ _;refine⟨⟨(aG _),(aF 1 rfl (aF 2 rfl aJ)),aK⟩,?_⟩;refine zO 7 rfl (BI (by':=31) [_,_,_] rfl rfl rfl rfl rfl a4x (.inr ⟨_,a4x⟩) kR sizeOf243 zeroValue243 rfl hg rfl (fO (yR.at 0 rfl) rfl rfl rfl) oM ?_);intro az am;refine⟨⟨(aG _),(aF 1 rfl (aF 2 rfl aJ)),aK⟩,?_⟩;refine bG ⟨(aF 1 rfl (aF 2 rfl aJ)),aK,(aG _)⟩ (fun an=>?_);refine aC 8 rfl an yQ ?_;refine AA ?_;refine dZ (bW (bQ (bQ (fH fK))) ?_);refine dJ ⟨vis++[x],ab,az⟩ ⟨ah,by dsimp only;rw[a6l,aB,bK];exact am⟩ (by have h:=ax.length_eq;simp only[bU]at h;dsimp only;omega) ⟨rfl,by dsimp only;rw[a6l,aB];rfl,rfl,trivial⟩ rfl (by dsimp only;rw[a6l,bK];rfl)
 intro ao;have b0:vis.Perm sm:=by rw[ao,fE]at hp;exact hp
 refine aA AZ ?_;refine J.nss (aZ rfl (fun a9=>aH (bT (bZ rfl) a9)) (fun a9=>?_));refine Cj.xl (Cj.sr (aA yP ?_));refine aP rfl (FB (H1:=gH 243 ((fnd L vis).flatMap OW) g) [_] rfl rfl rfl rfl rfl rfl (a4q (fnd L vis) g hg oM _) ?_ (fun _ _ _ _ ⟨_,_,_,h,_⟩=>by cases h) (fun _ _ ⟨_,_,_,h,_⟩=>by cases h));rintro v9 I9 H9 A ⟨ls,a6,af,h,rfl⟩;cases h;have aa:(fnd L vis).length=ls.length:=a6.length_eq.symm;have b1:BM w0.heap.size 3 ls.length (ls.flatMap OW) g:=by rw[←aa];exact TK hg (by rw[BP MP,BP MP,aa])
 have a4:=b5i O hm b0 a6 af;have G:=G.mono A;have Q:=Q.mono A;have Z:=Z.mono A;have N:=A _ _ N;refine J.nss (Cj.perm (H':=gH 243 (ls.flatMap OW) g++[_]) List.perm_append_comm ?_);refine Cj.keepR (f:=OW) MP dE b1 rfl (fun _ a1 hv=>?_);have G:=G.mono a1;have Q:=Q.mono a1;have Z:=Z.mono a1;have N:=a1 _ _ N;obtain⟨pv,cv,ai⟩:=PN hv;refine Cj.eqv 6 rfl (show _= .slice pv ls.length cv from by rw[aa];exact ai) ?_;rw[ai]at hv;refine aI (aA yQ ?_);refine J.zX (aI (aA yP ?_));refine aA (zZ a4x) ?_;refine aA yP ?_;refine J.ns (aY (Cj.keep (bQ fJ) ?_));refine eP (ι:=Nat×Gs) (fun y=>y.1≤ls.length∧BM w0.heap.size 2 ((ls.take y.1).map (·.2)).length (((ls.take y.1).map (·.2)).flatMap recC) y.2) (fun y=>ls.length-y.1) (fun y=>[(8,gV ((ls.take y.1).map (·.2)).length y.2),(32,.slice pv ls.length cv),(33,i64 (ls.length:Int)),(34,i64 (y.1:Int))]) (fun y=>_) (fun y=>gH 34 (((ls.take y.1).map (·.2)).flatMap recC) y.2) (0,none) ⟨bD _,rfl,rfl⟩ rT rfl rfl ?_;clear hg;rintro⟨j,g⟩ ⟨hj,hg⟩;dsimp only at hj hg ⊢;have bb:((ls.take j).map (·.2)).length=j:=by rw[aV,fA];omega
 refine Cj.sr (aA AV ?_);refine J.nss (aZ rfl (fun a5=>?_) (fun a5=>?_))
 ·have ac:=BH a5;have aj:j<ls.length:=oM;obtain⟨x,a2⟩:∃x,ls[j]?=some x:=⟨_,DC aj⟩;obtain⟨p1,c1,b2,_,b3⟩:=id hv;cases b2;obtain⟨_,fo,_,_,_,_,rfl,b4,b5⟩:=b3 (zT aj);refine Cj.ks (bM (aY (Cj.sr (aA (AU (off':=fo+j*3) a4x sizeOf243) ?_))));refine aA (FN isAgg243 sizeOf243 (bI b4) (DN MP b5 a2)) ?_;refine aP rfl (CU zeroValue243 ?_);intro _ _;refine aP rfl (AB 0 sizeOf243 (aN (aN (aN bP))) dY ?_);refine J.GI (aA yP ?_);refine aA (qq2 (off':=1) c1H AL) ?_;refine aA (zW DJ AL (yR.at 0 rfl)) ?_;refine aP rfl (BQ NM AL QU (fQ rfl cO) ?_);intro _ _;refine aP rfl (BI (by':=15) [_,_] rfl rfl rfl rfl rfl NM (.inr ⟨_,NM⟩) kR AL QU rfl hg rfl (fO (yR.at 0 rfl) rfl rfl rfl) oM ?_);intro b6 ap;refine aA yQ ?_;refine J.nb (aI (aA (yY rfl rfl rfl (zV oM)) ?_));refine aA yP ?_;refine J.nil (bW (bQ (bQ fK)) ?_);refine dJ (j+1,b6) ⟨dO,by dsimp only;rw[a5F a2,aB,bK];exact ap⟩ dO ⟨by dsimp only;rw[a5F a2,aB];rfl,rfl,rfl,rfl,trivial⟩ rfl (by dsimp only;rw[a5F a2,bK];rfl)
 have ac:=BJ a5;refine Cj.xl (Cj.sr (aA yP ?_));refine aA yQ ?_;refine aA yQ ?_;refine J.ns (bF ?_);rw[bC (oM:ls.length≤j)]at hg ⊢;refine fG rfl rfl rfl rfl ?_;exact⟨_,g,a4,a5A hg,rfl,rfl⟩
theorem c4g h L q p c (A:q.size≤1000000000)(G:q.wide≤10000000)(Q:dR q=true)(N:fP L) I (O:PS I q.ps p)(Z:OJ I h L)(hT:LZ I):yS aT 97 [h,.agg (FX q p c).toArray] I []
 (fun e _ H'=>∃(w:Value) (r:List dX),e= .returned (.tuple #[w,i64 0])∧dI L q r∧a2H r w H'):=
 (c2G h L q p c A G Q N I O Z hT).mono fun _ _ _ _ ⟨r,g,h1,h2,h3,h4⟩=>⟨_,r,h3,h1,by rw[h4];exact a9Q rfl h2⟩
end Go.Proofs.YtdjkhllhakhjbaaGreatDoor
namespace Bk
open Ix
def a6p:List UInt8:=[116,105,116,108,101,32]
def keyOf (fs:List fU):List UInt8:=match (bJ fs).getLast? with
 |some k=>if a6p.isPrefixOf k=true then k else[]
 |none=>[]
theorem a7p{fs k}(h:(bJ fs).getLast?=some k):keyOf fs=if a6p.isPrefixOf k=true then k else[]:=by unfold keyOf;rw[h]
theorem b4B{fs}(h:bJ fs=[]):keyOf fs=[]:=by unfold keyOf;rw[h];rfl
def a1K (es:List (Rec×List fU)) (t:Rec):Option (List UInt8):=es.foldl (fun o e=>if e.1=t then some (keyOf e.2)else o) none
theorem b6W h e t:a1K (h++[e]) t=if e.1=t then some (keyOf e.2)else a1K h t:=by
 unfold a1K;rw[List.foldl_append];rfl
structure Lb where
  L:Ix
  key:Rec→List UInt8
def TN (es:List (Rec×List fU)):Lb:=⟨a4A (es.map fun e=>(e.1,vals e.2)) [],fun t=>(a1K es t).getD []⟩
def found (b:Lb) (r:List Rec) (k:Nat):List Fd:=r.map fun t=>⟨t,b.key t,[(k:Int)]⟩
def ans (p:Cq.Qn×Nat×Nat) (o:Option Lb) (k:Nat) (fs:List Fd) (e:Int):Prop:=
 if p.2.2≠0 then fs=[]∧e=(p.2.2:Int)else match o with
  |none=>fs=[]∧e=32
  |some b=>e=0∧∃r,PV b.L p.1 r∧fs=found b r k
theorem b1z t v:∀(L:Ix) (x:Rec×List V),x∈QN t v L→x=(t,v)∨x∈L
 |[],x,h=> .inl (by simpa[QN]using h)
 |(u,w)::r,x,h=>by
  unfold QN at h
  split at h
  ·rcases dU.1 h with g|g
   ·exact .inr (by rw[g];exact .head _)
   exact(b1z t v r x g).imp id (.tail _)
  split at h
  ·rcases dU.1 h with g|g
   ·exact .inl g
   exact .inr (.tail _ g)
  rcases dU.1 h with g|g
  ·exact .inl g
  exact .inr g
theorem a8T:∀(A L:Ix) (x:Rec×List V),x∈a4A A L→x∈A∨x∈L
 |[],_,_,h=> .inr h
 |e::A,L,x,h=>by
  have G:x∈a4A A (QN e.1 e.2 L):=h;rcases a8T A _ x G with g|g
  ·exact .inl (.tail _ g)
  rcases b1z _ _ _ _ g with g|g
  ·exact .inl (by rw[g];exact .head _)
  exact .inr g
theorem b5M b r k:MB (found b r k)=r.length:=by
 unfold MB found;rw[fV]
 induction r with
 |nil=>rfl
 |cons t r h=>rw[List.map_cons,List.sum_cons,h,bU];show 1+_=_;omega
theorem c3Z{p o k fs e}(h:ans p o k fs e)(A:∀b,o=some b→b.L.length≤100000):fs.length≤100000∧MB fs≤100000:=by
 unfold ans at h
 split at h
 ·obtain⟨rfl,-⟩:=h;exact⟨bD _,bD _⟩
 cases o with
 |none=>
  obtain⟨rfl,-⟩:=h;exact⟨bD _,bD _⟩
 |some b=>
  obtain⟨-,r,G,rfl⟩:=h;have N:=A b rfl;have O:r.length≤b.L.length:=G.len;rw[b5M];exact⟨by unfold found;rw[aV];omega,oM⟩
end Bk
section

end
namespace Cq
end Cq
namespace Cq
end Cq
namespace Cq
theorem c5r{q}(h:form q=true)(O:q.k≠1):∃a b:Qn,q.Two a b∧2≤q.k∧q.k≤4∧form a=true∧form b=true∧q=two q.k.toNat a b:=by
 obtain⟨_,Q,h4,a,b,A,ha,hb⟩:=(a1p h).resolve_left O;have hn:¬(q.k<2∨q.k>4∨q.i≠[]∨q.r≠[]∨q.t≠[]∨q.ps.len≠2):=fun N=>by rw[a5W O N]at h;cases h
 simp only[not_or,Decidable.not_not]at hn;obtain⟨_,_,Z,hr,ht,_⟩:=hn;refine⟨a,b,A,Q,h4,ha,hb,?_⟩;have G:q.ps=a.push (b.push .nil):=A;obtain⟨k,i,r,t,ps⟩:=q;simp only at Z hr ht G Q;subst Z hr ht G;simp only[two,Qn.mk.injEq,and_self,and_true];omega
theorem b6C{t}(h:relation t=true):relations.contains (small t.text)=true:=by
 simp only[relation,eY]at h;exact h.1
theorem OH t:operator t=0∨operator t=2∨operator t=3∨operator t=4:=by
 unfold operator
 split
 ·exact .inl rfl
 split
 ·exact .inr (.inl rfl)
 split
 ·exact .inr (.inr (.inl rfl))
 split
 ·exact .inr (.inr (.inr rfl))
 exact .inl rfl
theorem c0M{t a b}(h:operator t≠0)(G:form a=true)(N:form b=true):form (two (operator t) a b)=true:=by
 have O:(two (operator t) a b).k≠1:=by
  have:=OH t;simp only[two];omega
 have A:¬((two (operator t) a b).k<2∨(two (operator t) a b).k>4∨(two (operator t) a b).i≠[]∨(two (operator t) a b).r≠[]∨(two (operator t) a b).t≠[]∨(two (operator t) a b).ps.len≠2):=by
  have:=OH t;simp only[two,Qn.push,Qs.len,not_or];refine⟨oM,oM,sI,sI,sI,sI⟩
 rw[a5I O A (rfl:(two (operator t) a b).Two a b),G,N];rfl
theorem b6v{t a b}(h:operator t≠0):depth (two (operator t) a b)=max (depth b+up b.k) (depth a):=by
 refine a3F ?_ (rfl:(two (operator t) a b).Two a b);have:=OH t;simp only[two];omega
def Good (d:Nat):Res→Prop
 | .ok q _=>form q=true∧depth q+d≤50
 | .err _ e=>e≠0
def c1F (d:Nat):Res→Prop
 | .ok q _=>form q=true∧depth q+up q.k+d≤50
 | .err _ e=>e≠0
theorem a8U{i r t d}(h:indexes.contains i=true)(hr:relations.contains r=true)(hd:d≤50):form ⟨1,i,r,t,.nil⟩=true∧depth ⟨1,i,r,t,.nil⟩+up 1+d≤50:=by
 refine⟨?_,?_⟩
 ·rw[a4c rfl];simp only[h,hr];rfl
 rw[a2V rfl];simp[up];omega
theorem c1E:∀f,(∀deep ts,ZV ts→2*ts.length+1≤f→deep≤50→c1F deep (clause f deep ts))∧(∀deep ts,ZV ts→2*ts.length+2≤f→deep≤50→Good deep (query f deep ts))∧∀deep q ts,ZV ts→2*ts.length+1≤f→form q=true→depth q+deep≤50→Good deep (more f deep q ts)
 |0=>⟨fun _ _ _ h=>oM,fun _ _ _ h=>oM,fun _ _ _ _ h=>oM⟩
 |f+1=>by
  obtain⟨Q,hq,Z⟩:=c1E f;refine⟨fun deep ts hg hf hd=>?_,fun deep ts hg hf hd=>?_,fun deep q ts hg hf O a0=>?_⟩
  ·obtain⟨t,r,rfl⟩:=hg.ne;simp only[bU]at hf;unfold clause
   by_cases h1:lp t=true
   ·have hr:=hg.cons (a8j h1);rw[zG h1]
    split
    ·exact(dE:(41:Nat)≠0)
    have A:=hq (deep+1) r hr oM oM;have G:=(less f).2.1 (deep+1) r hr;cases hx:query f (deep+1) r with
    |err p e=>rw[hx]at A;exact A
    |ok q N=>
     rw[hx]at A G;obtain⟨t2,r2,rfl⟩:=G.1.ne;simp only[]
     split
     ·have hu:up q.k≤1:=by unfold up;split<;>omega
      exact⟨A.1,by have:=A.2;omega⟩
     exact(dE:(40:Nat)≠0)
   rw[zF h1]
   by_cases h2:isTerm t=true
   ·have hr:=hg.cons (a1f h2);rw[zF (by simp[h2])];have bare:c1F deep (.ok ⟨1,[97,110,121],[61],t.text,.nil⟩ r):=a8U dE dE hd;obtain⟨t2,r2,rfl⟩:=hr.ne;cases h3:t.kind == 3 with
    |false=>exact bare
    |true=>
     simp only[]
     by_cases h4:relation t2=true
     ·rw[zG h4];have a1:=hr.cons (a2w h4)
      split
      ·exact(dE:(42:Nat)≠0)
      rename_i h5
      obtain⟨_,_,rfl⟩:=a1.ne;simp only[]
      split
      ·exact a8U (by simpa using h5) (b6C h4) hd
      exact(dE:(40:Nat)≠0)
     rw[zF h4];exact bare
   rw[zG (by simpa using h2)];exact(dE:(40:Nat)≠0)
  ·unfold query;have A:=Q deep ts hg oM hd;have G:=(less f).1 deep ts hg;cases hx:clause f deep ts with
   |err p e=>rw[hx]at A;exact A
   |ok q N=>
    rw[hx]at A G;exact Z deep q N G.1 (by have:=G.2;omega) A.1 (by have:=A.2;omega)
  obtain⟨t,r,rfl⟩:=hg.ne;simp only[bU]at hf;unfold more
  by_cases h1:operator t=0
  ·rw[zG h1];exact⟨O,a0⟩
  rw[zF h1];have hr:=hg.cons (a8c h1);have A:=Q deep r hr oM oM;have G:=(less f).1 deep r hr;cases hx:clause f deep r with
  |err p e=>rw[hx]at A;exact A
  |ok q2 N=>
   rw[hx]at A G;simp only[];exact Z deep _ N G.1 (by have:=G.2;omega) (c0M h1 O A.1) (by rw[b6v h1];have:=A.2;omega)
theorem b2G s:((parse s).2.2=0→right (parse s).1=true∧(parse s).2.1=0)∧((parse s).2.2≠0→(parse s).1=zero):=by
 have A:=ZH s (s.length+1) 0 oM oM;have G:ZV (tokens s):=A.1;have O:(tokens s).length≤s.length+1:=A.2.1;have hg:=(c1E (4*s.length+9)).2.1 0 (tokens s) G oM oM;have N:=(less (4*s.length+9)).2.1 0 (tokens s) G;unfold parse;cases hq:query (4*s.length+9) 0 (tokens s)with
 |err p e=>
  rw[hq]at hg;exact⟨fun h=>absurd h hg,fun _=>rfl⟩
 |ok q ts=>
  rw[hq]at hg N;obtain⟨t,r,rfl⟩:=N.1.ne;simp only[]
  split
  ·refine⟨fun _=>⟨?_,rfl⟩,fun h=>absurd rfl h⟩;unfold right;rw[hg.1];have:=hg.2;simp;omega
  exact⟨fun h=>(by cases h),fun _=>rfl⟩
end Cq
section

end
namespace Cq
end Cq
namespace Go.Proofs.YtdjkhllhakhjbaaGreatDoor
open _root_.Go.Proofs.Tryz
open Go Go.Sx
abbrev a1H (e:Ent):dX×List fU:=(e.t,e.fs)
theorem a8p(h:List Ent):(h.map a1H).map (fun e=>(e.1,Ix.vals e.2))=h.map WB:=by rw[fV];rfl
def a0A (I:Heap) (lb:Nat) (b:Bk.Lb):Prop:=∃ib mb l c,I lb=some (yZ 86 [ptr ib 0,.map (some mb)])∧VX I ib b.L∧fP b.L∧MS l c∧(∀t,(BF l t).getD (str [])=str (b.key t))∧I mb=some (zY AQ l c)
theorem a0A.mono{I G lb b}(h:a0A I lb b)(A:Le I G):a0A G lb b:=let ⟨N,O,l,c,Q,Z,h3,h4,h5,h6⟩:=h;⟨N,O,l,c,A _ _ Q,Z.mono A,h3,h4,h5,A _ _ h6⟩
def b1D (I:Heap) (v:Value) (o:Option Bk.Lb):Prop:=(v= .pointer none∧o=none)∨∃lb b,v=ptr lb 0∧o=some b∧a0A I lb b
theorem b1D.mono{I A v o}(h:b1D I v o)(G:Le I A):b1D A v o:=h.imp id fun⟨lb,b,N,O,Q⟩=>⟨lb,b,N,O,Q.mono G⟩
structure TLg where
  i:Nat
  J:Heap
  l:ML Ix.Rec
  c:Nat
theorem c3P{fs}(h:EOK fs):∀v∈Ix.vals fs,v.text.length≤4000000:=fun v A=>by
 unfold Ix.vals at A;obtain⟨f,hf,A⟩:=List.mem_flatMap.1 A;obtain⟨_,_,_⟩:=h.2 f hf;unfold Ix.a9U at A;rcases fF.1 A with g|g
 ·obtain⟨s,hs,rfl⟩:=dW.1 g;have:=a2m hs;dsimp only;omega
 split at g
 ·rw[eF]at g;subst g;have:=a1d f [];rw[a0V]at this;dsimp only;omega
 cases g
theorem c0J{fs}(h:FOK fs):(bJ fs).length≤4300000000000:=by
 have A:=Ix.b2m (Ke.raw fs) [];have G:=a5V (l:=fs) fun f hf=>(h.2 f hf).1;have N:(Ke.raw fs).length≤(NR fs).length+1:=by
  unfold Ke.raw Ke.SN;rw[aB]
  split<;>simp[NR]
 have O:=h.1;unfold bJ;rw[List.length_nil]at A;omega
theorem c4w{A:List Ent}(h:∀e∈A,EOK e.fs):fP (dS (A.map WB) []):=fun x G v N=>by
 rcases Bk.a8T _ _ _ G with g|g
 ·obtain⟨e,O,rfl⟩:=dW.1 g;exact c3P (h e O) v N
 cases g
theorem b7M fs v rk rl (Q:FOK fs) I (hr:QS I fs v):yS aT 38 [b0I rk rl v] I [] (fun e _ H'=>e= .returned (str (Bk.keyOf fs))∧H'=[]):=by
 have a5:=c0J Q;refine yS.ob func38 ?_;intro w0 _;refine Cj.sr (aP rfl (BG ?_));intro _ _;refine aA yQ ?_;refine J.yX (aA (zW isAgg49 UU (yR.at 0 rfl)) ?_);refine aP rfl (yT (H1:=[]) rfl rfl rfl rfl rfl (c4X fs v rk rl Q _ hr) ?_ (fun _ _ _ _ ⟨_,h,_⟩=>by cases h) (fun _ _ ⟨_,h,_⟩=>by cases h));intro _ _ _ a0 a3;have hr:=hr.mono a0;obtain⟨_,h,hw,rfl⟩:=a3;cases h;obtain⟨wp,_,rfl⟩:=NT hw;refine aA yQ ?_;refine J.zX (aI (aA yP ?_));refine aA (zZ AO) ?_;refine aA DW ?_;refine aA yP ?_;refine eH 9 rfl (fun A=>?_) (fun A=>?_)
 ·have a1:=DF A;have a2:(bJ fs)=[]:=List.length_eq_zero_iff.1 (by have h:=DF A;omega);refine AP 3 9 10 false A ?_;refine AP 3 9 11 false A ?_;refine AP 3 9 12 false A ?_;refine AP 3 9 13 false A ?_;refine AP 3 9 14 false A ?_;refine AP 3 9 15 false A ?_;refine AP 3 9 16 false A ?_;refine AP 3 9 17 false A ?_;refine aA (EO A) ?_;refine J.c1 (fun _=>?_);refine Cj.sr (aA yQ ?_);refine J.ns (Cj.rs (aW ?_));refine zM ?_;rw[Bk.b4B a2];exact rT
 have a1:=DU A;have N:(bJ fs)≠[]:=fun e=>DU A (by rw[e];rfl);obtain⟨wb,_,_,a4,Z⟩:=hw.some N;cases a4;obtain⟨z,hz⟩:∃z,(bJ fs)[(bJ fs).length-1]?=some z:=⟨_,DC (by have:=dV.2 N;omega)⟩;have a6:=dV.2 N;have G:(bJ fs).getLast?=some z:=by rw[List.getLast?_eq_getElem?];exact hz
 refine zU 3 9 false A (zK yP ?_);refine zU 3 9 false A (zK yP ?_);refine zU 3 9 false A (zK (zZ AO) ?_);refine J.KY 3 9 false _ rfl rfl rfl A (JR (EP rfl rfl rfl (zV oM)) rfl rfl ?_);refine fC 13 rfl (show _=i64 (((bJ fs).length-1:Nat):Int) from(zD i64 oM)) ?_;refine J.KY 3 9 false _ rfl rfl rfl A (JR (AU (off':=((bJ fs).length-1)) AO zS) rfl rfl ?_);refine zU 3 9 false A (zK (EF BR (bI Z) (JL hz)) ?_);refine J.KY 3 9 false _ rfl rfl rfl A (yU rfl rfl rfl rfl rfl (a0J z [116,105,116,108,101,32] dE _) ?_);refine zU 3 9 false A (zK (ER rfl rfl) ?_);refine aA (ED A) ?_;refine J.cd (fun O=>?_) (fun O=>?_)
 ·refine Cj.sr (aA yQ ?_);refine J.ns (Cj.rs (aW ?_));refine zM ?_;rw[Bk.a7p G,zF (fun g=>by have h:=O;unfold Bk.a6p at g;first|(rw[Bool.not_eq_true']at h;rw[h]at g;cases g)|(rw[h]at g;cases g))];exact rT
 refine Cj.ks (Cj.sr (aA yP ?_));refine aA yP ?_;refine aA (zZ AO) ?_;refine aA (EP rfl rfl rfl (zV oM)) ?_;refine fC 22 rfl (show _=i64 (((bJ fs).length-1:Nat):Int) from(zD i64 oM)) ?_;refine aA (AU (off':=((bJ fs).length-1)) AO zS) ?_;refine aA (EF BR (bI Z) (JL hz)) ?_;refine aA yQ ?_;refine J.ns (bF (aW ?_));refine zM ?_;rw[Bk.a7p G,zG (by have h:=O;unfold Bk.a6p;simpa using h)];exact rT
theorem c0X{G:List Ent}{i A}(N:G[i]?=some A){m c}(h:∀t,BF m t=(Bk.a1K ((G.take i).map a1H) t).map str) t:BF (BN m A.t (str (Bk.keyOf A.fs)) c) t=(Bk.a1K ((G.take (i+1)).map a1H) t).map str:=by
 rw[LM,FD a1H N,Bk.b6W,h t]
 by_cases ht:t=A.t
 ·subst ht;rw[zG sI,zG rfl];rfl
 rw[zF (by simpa using ht),zF (Ne.symm ht)]
theorem a8V A v (ai:A.length≤1000)(a7:∀e∈A,EOK e.fs) I (G:YM I A v):yS aT 15 [v] I [] (fun e I' H'=>∃lb,e= .returned (ptr lb 0)∧a0A I' lb (Bk.TN (A.map a1H))∧H'=[]):=by
 obtain⟨p,c0,rfl,_,-⟩:=id G.1;refine yS.ob func15 ?_;intro w0 _;refine Cj.sr (aA yQ ?_);refine J.yX (aA yP ?_);refine aP rfl (EX rfl rfl rfl rfl rfl (b9u A _ ai a7 _ G) ?_ (fun _ _ _ _ ⟨_,_,h,_⟩=>by cases h) (fun _ _ ⟨_,_,h,_⟩=>by cases h));intro _ _ _ ae aj ak;have G:=G.mono ae;obtain⟨ib,o,h,ab,rfl⟩:=ak;cases h;refine J.persists (ixH ib o) aj (fun Ip a8 hK=>?_);have G:=G.mono a8;have Q:VX Ip ib (dS (A.map WB) []):=⟨o,ab.mono a8,hK⟩;clear ab hK;refine aP rfl (BK rfl rfl rfl ?_);intro b7 al;refine aA (BD (pl:= #[(0,1),(1,1)]) rfl rfl zeroValue86 rfl underlying86 (fun w=>by simp[sizeOf82,sizeOf84]) (bV rfl rfl rfl (aN bP) (bV rfl rfl rfl (dP (aN bP)) fM))) ?_;refine aP rfl (BG ?_);intro b8 am;refine aA yQ ?_;refine J.zX (aI (aA yP ?_));refine aA (zZ a8k) ?_;refine aA yP ?_;refine J.ns (aY (eP (ι:=TLg) (fun y=>y.i≤A.length∧YM y.J A (.slice p A.length c0)∧VX y.J ib (dS (A.map WB) [])∧MS y.l y.c∧(∀t,BF y.l t=(Bk.a1K ((A.take y.i).map a1H) t).map str)) (fun y=>A.length-y.i) (fun y=>[(3,ptr b8 0),(11,.slice p A.length c0),(12,i64 (A.length:Int)),(13,i64 (y.i:Int))]) (fun y=>y.J) (fun y=>[(b8,yZ 86 [ptr ib 0,.map (some b7)]),(b7,zY AQ y.l y.c)]) ⟨0,_,[],0⟩ ⟨bD _,G,Q,MS.nil,fun _=>rfl⟩ rT rfl rfl ?_));rintro⟨i,_,m,c⟩ ⟨hi,G,Q,a9,a3⟩;dsimp only at hi G Q a9 a3 ⊢;refine Cj.sr (aA AV ?_);refine J.nss (aZ rfl (fun aa=>?_) (fun aa=>?_))
 ·have af:=BH aa;have ac:i<A.length:=oM;obtain⟨e0,a1⟩:∃e,A[i]?=some e:=⟨_,DC ac⟩;have ad:=FQ a1;obtain⟨⟨p1,c1,an,_,hp⟩,a4⟩:=id G;cases an;obtain⟨_,eo,_,_,_,_,rfl,a5,ao⟩:=hp (zT ac);have Z:=a4 e0 ad;clear a4;obtain⟨_,_,ap,-,-⟩:=id Z.1;refine Cj.ks (bM (aY (Cj.sr (aA (AU (off':=eo+i*5) a8k YG) ?_))));refine aA (FN isAgg51 YG (bI a5) (DN b1X ao a1)) ?_;refine aP rfl (CU a6f ?_);intro _ _;refine aP rfl (EN 0 rfl rfl rfl rfl rfl (b3A ap) YG rfl rfl (aN (aN (aN (aN (aN bP))))) dY ?_);refine J.ns (bY [0,1] [] 10 kR ?_);have aq:=a5;refine bG ⟨(aF 0 rfl (aF 1 rfl aJ)),aK,(aG _)⟩ (fun N=>?_);refine aC 0 rfl N yP ?_;refine aC 1 rfl N zQ ?_;refine aC 2 rfl N (qq2 (off':=1) underlying86 sizeOf84) ?_;refine aC 3 rfl N (yV isAgg84 (bH 1 rfl)) ?_;refine aC 4 rfl N (qq2 (off':=0) WY AL) ?_;refine aC 5 rfl N (zW DJ AL (bH 0 rfl)) ?_;refine aC 6 rfl N (qq2 (off':=2) WY UU) ?_;refine aC 7 rfl N (zW isAgg49 UU (bH 0 rfl)) ?_;refine zO 8 rfl (yT (H1:=[]) rfl rfl rfl rfl rfl (b7M e0.fs e0.v e0.k e0.l (a7 e0 ad).fok _ Z) ?_ (fun _ _ _ _ ⟨h,_⟩=>by cases h) (fun _ _ ⟨h,_⟩=>by cases h));intro _ _ _ O ag;have G:=G.mono O;have Q:=Q.mono O;have a5:=O _ _ a5;have Z:=Z.mono O;obtain⟨h,rfl⟩:=ag;cases h;refine⟨⟨(aQ (aG _) O),(aF 0 rfl (aF 1 rfl aJ)),aK⟩,?_⟩;refine zO 9 rfl (FH (kv:=AQ) (a:=e0.t) 2 (.inr rfl) rfl rfl rfl rfl rfl underlying84 FU rfl (DZ.s (DZ.s dY)) ?_);refine⟨⟨(aQ (aG _) O),(aF 0 rfl (aF 1 rfl aJ)),aK⟩,?_⟩;refine AA ?_;refine dZ (cZ (aI (aA (yY rfl rfl rfl (zV oM)) ?_)));refine aA yP ?_;refine J.nil (bW (bQ (fH (fH fJ))) ?_);refine dJ ⟨i+1,_,_,_⟩ ⟨dO,G,Q,a9.set e0.t _,fun t=>by dsimp only;exact c0X a1 a3 t⟩ dO rT rfl rfl
 have af:=BJ aa;refine Cj.xl (Cj.sr (aA yP ?_));refine aA yQ ?_;refine J.ns (bF ?_);rw[bC (oM:A.length≤i)]at a3;refine Ej.pull (Pull.s Pull.z) ?_;refine dQ al (fun _ a6 a2=>?_);have G:=G.mono a6;have Q:=Q.mono a6;refine dQ am (fun _ a0 ah=>?_);have G:=G.mono a0;have Q:=Q.mono a0;have a2:=a0 _ _ a2;refine zM ?_;exact⟨_,rfl,⟨ib,_,m,c,ah,by rw[show(Bk.TN (A.map a1H)).L=dS (A.map WB) [] from by unfold Bk.TN;rw[a8p]];exact Q,by rw[show(Bk.TN (A.map a1H)).L=dS (A.map WB) [] from by unfold Bk.TN;rw[a8p]];exact c4w a7,a9,fun t=>by rw[a3 t];show _=str ((Bk.a1K (A.map a1H) t).getD []);cases Bk.a1K (A.map a1H) t<;>rfl,a2⟩,rfl⟩
structure TF9 where
  i:Nat
  J:Heap
  fs:List Fv
  g:Gs
theorem b5Q{b}{r:List dX}{i x}(h:r[i]?=some x) k:Bk.found b (r.take (i+1)) k=Bk.found b (r.take i) k++[⟨x,b.key x,[(k:Int)]⟩]:=by
 unfold Bk.found;rw[FD (fun t=>(⟨t,b.key t,[(k:Int)]⟩:Bk.Fd)) h]
theorem b2r fs z:(fs++[z]).flatMap CY=fs.flatMap CY++CY z:=sI
theorem b5m lb b q p c (k:Nat)(ar:q.size≤1000000000)(au:q.wide≤10000000)(hR:dR q=true) I (a1:PS I q.ps p)(hl:a0A I lb b)(hT:LZ I):yS aT 59 [ptr lb 0,.agg (FX q p c).toArray,i64 (k:Int)] I []
 (fun e I' H'=>∃(x:Rw Fv) (r:List dX),e= .returned (.tuple #[x.v,i64 0])∧dI b.L q r∧x.l.map Fv.f=Bk.found b r k∧VI I' x∧H'=[]):=by
 obtain⟨ib,mb,l,c9,G,hx,av,_,ak,N⟩:=hl;have b6:=hx.big;refine yS.ob func59 ?_;intro w0 _;refine Cj.sr (aP rfl (BG ?_));intro _ aw;refine aA yQ ?_;refine aA yQ ?_;refine J.zX (aI (aA yP ?_));refine aA (OV underlying45) ?_;refine J.c0 (fun _=>?_);refine Cj.ks (bM (Cj.persist aw (fun _ a2 a3=>?_)));have G:=a2 _ _ G;have N:=a2 _ _ N;have hx:=hx.mono a2;have a1:=a1.mono a2;have hT:=hT.mono a2;refine bY [] [] 11 kR ?_;have ag:=G;have b5:=N;have a9:=a3;refine bG BX (fun a6=>?_);refine aC 0 rfl a6 yP ?_;refine aC 1 rfl a6 zQ ?_;refine aC 2 rfl a6 (qq2 (off':=0) underlying86 sizeOf82) ?_;refine aC 3 rfl a6 (yV KJ (dH ag)) ?_;refine aC 4 rfl a6 (zW FT CX (dH a9)) ?_;refine zO 5 rfl (EX rfl rfl rfl rfl rfl (c4g (ptr ib 0) b.L q p c ar au hR av _ a1 (.inr ⟨ib,rfl,hx⟩) hT) ?_ (fun _ _ _ _ ⟨_,_,h,_⟩=>by cases h) (fun _ _ ⟨_,_,h,_⟩=>by cases h));intro _ I8 _ O ax al;have G:=O _ _ G;have N:=O _ _ N;have hx:=hx.mono O;have a1:=a1.mono O;have hT:=hT.mono O;have a3:=O _ _ a3;obtain⟨_,r,h,aa,ho⟩:=al;cases h;have ay:=ax;refine⟨⟨(aQ (aG _) O),aJ,aK⟩,?_⟩;refine JA.a4y ho ay (fun _ a0 Z=>?_);have G:=a0 _ _ G;have N:=a0 _ _ N;have hx:=hx.mono a0;have a1:=a1.mono a0;have hT:=hT.mono a0;have a3:=a0 _ _ a3;replace Z:=Z.row;obtain⟨pr,cr,rfl⟩:=rowLen Z;refine bG ⟨aJ,aK,(aQ (aQ (aG _) O) a0)⟩ (fun a4=>?_);refine aC 6 rfl a4 yP ?_;refine aC 7 rfl a4 AZ ?_;refine aC 8 rfl a4 AZ ?_;refine aC 9 rfl a4 yQ ?_;refine aC 10 rfl a4 yQ ?_;refine AA ?_;refine cZ (bM (Cj.sr (aA yP ?_)));refine aA (GH rfl rfl rfl) ?_;refine J.ns (aZ rfl (fun ab=>aH (bT (bZ (by first|rfl|decide)) ab)) (fun ab=>?_));refine Cj.ks (Cj.sr (aA yQ ?_));refine J.zX (aI (aA yP ?_));refine aA (zZ NM) ?_;refine aA yP ?_;refine J.ns (aY (eP (ι:=TF9) (fun y=>y.i≤r.length∧zN recC y.J r (.slice pr r.length cr)∧y.J lb=some (yZ 86 [ptr ib 0,.map (some mb)])∧y.J mb=some (zY AQ l c9)∧y.fs.map Fv.f=Bk.found b (r.take y.i) k∧(∀z∈y.fs,ZF y.J z)∧BM w0.heap.size 4 y.fs.length (y.fs.flatMap CY) y.g) (fun y=>r.length-y.i) (fun y=>[(0,ptr lb 0),(2,i64 (k:Int)),(10,gV y.fs.length y.g),(27,.slice pr r.length cr),(28,i64 (r.length:Int)),(29,i64 (y.i:Int))]) (fun y=>y.J) (fun y=>gH 37 (y.fs.flatMap CY) y.g) ⟨0,_,[],none⟩ ⟨bD _,Z,G,N,rfl,fun _ h=>(by cases h),rfl,rfl⟩ rT rfl rfl ?_));rintro⟨i,_,fs,g⟩ ⟨hi,Z,G,N,a7,a5,hg⟩;dsimp only at hi Z G N a7 a5 hg ⊢;refine Cj.sr (aA AV ?_);refine J.nss (aZ rfl (fun a8=>?_) (fun a8=>?_))
 ·have ah:=BH a8;have aj:i<r.length:=oM;obtain⟨x,ac⟩:∃x,r[i]?=some x:=⟨_,DC aj⟩;obtain⟨p1,c1,az,_,b0⟩:=id Z;cases az;obtain⟨_,ro,_,_,_,_,rfl,ad,b1⟩:=b0 (zT aj);have b7:fs.length=i:=by have h:=zD List.length a7;unfold Bk.found at h;rw[aV,aV,fA]at h;omega
  have b8:=aa.len;refine Cj.ks (bM (aY (Cj.sr (aA (AU (off':=ro+i*2) NM AL) ?_))));refine aA (FN DJ AL (bI ad) (DN GZ b1 ac)) ?_;refine aP rfl (CU QU ?_);intro _ _;refine aP rfl (AB 0 AL (aN (aN bP)) dY ?_);refine J.ns (bY [0] [] 14 kR ?_);refine bG ⟨(aF 0 rfl aJ),aK,(aG _)⟩ (fun Q=>?_);refine aC 0 rfl Q yP ?_;refine aC 1 rfl Q (zW DJ AL (bH 0 rfl)) ?_;refine aC 2 rfl Q yP ?_;refine aC 3 rfl Q zQ ?_;refine aC 4 rfl Q (qq2 (off':=1) underlying86 sizeOf84) ?_;refine aC 5 rfl Q (yV isAgg84 (dH G)) ?_;refine aC 6 rfl Q (zW DJ AL (bH 0 rfl)) ?_;refine aC 7 rfl Q (IV (kv:=AQ) (l:=l) (a:=x) underlying84 FU JY (dH N)) ?_;refine JA.eqv 40 rfl (show _=str (b.key x) from ak x) ?_;refine aC 8 rfl Q yP ?_;refine zO 9 rfl (BQ ES BO MV (aX rfl cO) ?_);intro b2 am;refine⟨⟨(aG _),(aF 1 rfl aJ),aK⟩,?_⟩;refine JA.persist am (fun _ A ai=>?_);have Z:=Z.mono A;have G:=A _ _ G;have N:=A _ _ N;have a5:=fun x9 ae=>(a5 x9 ae).mono A;have ad:=A _ _ ad;refine bG ⟨(aF 0 rfl aJ),aK,(aQ (aG _) A)⟩ (fun an=>?_);refine aC 10 rfl an (BD (pl:= #[(0,2),(2,1),(3,1)]) rfl rfl JZ rfl DT (fun w=>by simp[AL,EZ,zS]) (bV rfl rfl rfl (aN (aN bP)) (bV rfl rfl rfl (dP (dP (aN bP))) (bV rfl rfl rfl (dP (dP (dP (aN bP)))) fM)))) ?_;refine zO 11 rfl (BQ EI CV JZ (fQ rfl cO) ?_);intro _ _;refine⟨⟨(aQ (aG _) A),(aF 1 rfl aJ),aK⟩,?_⟩;refine zO 12 rfl (BI (by':=55) [_,_] rfl rfl rfl rfl rfl EI (.inr ⟨_,EI⟩) kR CV JZ rfl hg rfl (fO (yR.at 0 rfl) rfl rfl rfl) oM ?_);intro b3 ao;refine⟨⟨(aQ (aG _) A),(aF 1 rfl aJ),aK⟩,?_⟩;refine bG ⟨(aF 1 rfl aJ),aK,(aQ (aG _) A)⟩ (fun ap=>?_);refine aC 13 rfl ap yQ ?_;refine AA ?_;refine dZ (cZ (aI (aA (yY rfl rfl rfl (zV oM)) ?_)));refine aA yP ?_;refine J.nil (bW (bQ (bQ fK)) ?_);refine dJ ⟨i+1,_,fs++[⟨⟨x,b.key x,[(k:Int)]⟩,some ⟨b2,0,none⟩,1⟩],b3⟩ ⟨dO,Z,G,N,by dsimp only;rw[b5Q ac,dL,a7];rfl,fun z hz=>(fF.1 hz).elim (a5 z) fun hz=>by rw[eF.1 hz];exact⟨zN.of (l:=[(k:Int)]) (sp:=[]) (Nat.le_refl _) ai,rfl⟩,by dsimp only;rw[b2r,aB];exact ao⟩ dO ⟨rfl,rfl,by rw[aB];rfl,rfl,rfl,rfl,trivial⟩ rfl (by dsimp only;rw[b2r];rfl)
 have ah:=BJ a8;refine Cj.xl (Cj.sr (aA yP ?_));refine aA yQ ?_;refine aA yQ ?_;refine J.ns (bF (bW fK ?_));rw[bC (oM:r.length≤i)]at a7;refine Ej.perm (H':=gH 37 (fs.flatMap CY) g++[]) (.of_eq (fE _)) ?_;refine Ej.keepR CS dE hg rfl (fun I8 aq af=>?_);have a5:=fun x9 ae=>(a5 x9 ae).mono aq;obtain⟨pw,cw,b4⟩:=rowLen af;refine fG rfl rfl rfl rfl ?_;rw[b4]at af ⊢;exact⟨⟨fs,pw,cw⟩,r,rfl,aa,a7,⟨af,a5⟩,rfl⟩
theorem c0r q p c k I:Pure aT 59 [.pointer none,.agg (FX q p c).toArray,i64 k] I (.tuple #[.slice none 0 0,i64 32]):=by
 refine fB ?_;refine yS.ob func59 ?_;intro w0 _;refine Cj.sr (aP rfl (BG ?_));intro _ _;refine aA yQ ?_;refine aA yQ ?_;refine J.zX (aI (aA yP ?_));refine aA (OV underlying45) ?_;refine J.c1 (fun _=>?_);refine Cj.sr (aA yQ ?_);refine aA yQ ?_;refine J.ns (Cj.rs (bW (bQ fJ) ?_));refine fG rfl rfl rfl rfl ?_;exact rT
theorem find_ok v o s (h0:(aO s).2.2=0) p c (k:Nat)(Q:(aO s).1.size≤1000000000)(Z:(aO s).1.wide≤10000000) I (a0:PS I (aO s).1.ps p)(A:b1D I v o)(hT:LZ I):yS aT 59 [v,.agg (FX (aO s).1 p c).toArray,i64 (k:Int)] I []
 (fun e G H'=>∃(x:Rw Fv) (er:Int),e= .returned (.tuple #[x.v,i64 er])∧Bk.ans (aO s) o k (x.l.map Fv.f) er∧VI G x∧H'=[]):=by
 rcases A with⟨rfl,rfl⟩|⟨lb,b,rfl,rfl,A⟩
 ·exact(c0r _ p c k I).mono fun e G H' _ ⟨N,h2,O⟩=>⟨⟨[],none,0⟩,32,N,by unfold Bk.ans;rw[zF oM];exact rT,⟨zN.nil,fun _ h=>by cases h⟩,O⟩
 exact(b5m lb b _ p c k Q Z ((Cq.b2G s).1 h0).1 I a0 A hT).mono fun e G H' _ ⟨x,r,N,h2,O,h4,h5⟩=>⟨x,0,N,by unfold Bk.ans;rw[zF oM];exact⟨rfl,r,h2,O⟩,h4,h5⟩
abbrev lvC (x:Value×Option Bk.Lb):List Value:=[x.1]
theorem c3q x:(lvC x).length=1:=rfl
def a1A (I:Heap) (xs:List (Value×Option Bk.Lb)) (v:Value):Prop:=zN lvC I xs v∧∀x∈xs,b1D I x.1 x.2
theorem a1A.mono{I G xs v}(h:a1A I xs v)(A:Le I G):a1A G xs v:=⟨h.1.mono A,fun x N=>(h.2 x N).mono A⟩
theorem c3H{cs sp:List Value}{o}{l:List (Value×Option Bk.Lb)}(h:cs.drop o=l.flatMap lvC++sp){k x}(G:l[k]?=some x):cs[o+k]?=some x.1:=by
 have A:=JB (f:=lvC) (n:=1) c3q h G 0 Nat.zero_lt_one;rw[Nat.mul_one,Nat.add_zero]at A;exact A
abbrev FE:=Rw Fv×Int
def nxA (p:Cq.Qn×Nat×Nat) (os:List (Option Bk.Lb)):Heap→List FE→List Value→List FE→Prop:=fun I s args s'=>∃(o:Option Bk.Lb) (x:Rw Fv) (e:Int),os[s.length]?=some o∧args=[x.v,i64 e]∧VI I x∧Bk.ans p o s.length (x.l.map Fv.f) e∧s'=s++[(x,e)]
theorem c3K{p os}:∀I s args A,nxA p os I s args A→args.length=2:=fun _ _ _ _ ⟨_,_,_,_,h,_⟩=>by rw[h];rfl
structure TA9 where
  s:List FE
  J:Heap
  H:HL
theorem b2A qb aj s (hs:s.length≤1000000000)(ak:(aO s).1.size≤1000000000∧(aO s).1.wide≤10000000) xs vl (ax:xs.length≤1000000) I (ab:I qb=some (yZ 9 [str s]))(a7:I aj=some (yZ 54 [vl]))(G:a1A I xs vl)(Q:LZ I)(ht:Tabs I):
 a1L aT 57 [] [ptr qb 0,ptr aj 0] I ([]:List FE) (nxA (aO s) (xs.map Prod.snd)) (fun s9=>s9.length=(xs.map Prod.snd).length):=by
 obtain⟨pl,cl,rfl,_,-⟩:=id G.1;refine⟨Enters.of func57 dE rfl,fun ly Y Z aa al H ac=>?_⟩;refine yS.ob func57 ?_;intro w0 _;refine Cj.sr (aA (yV BR (bI ab)) ?_);refine aP rfl (yT (H1:=[]) rfl rfl rfl rfl rfl (b7U s hs _ ht) ?_ (fun _ _ _ _ h=>by obtain⟨⟨_,h,_⟩,_⟩:=h;cases h) (fun _ _ h=>by obtain⟨⟨_,h,_⟩,_⟩:=h;cases h));intro _ _ H3 a0 ar;have ab:=a0 _ _ ab;have a7:=a0 _ _ a7;have G:=G.mono a0;have Q:=Q.mono a0;have ht:=ht.mono a0;obtain⟨⟨v9,h,pq,cq,rfl,N⟩,rfl⟩:=ar;cases h;have ac:=aa _ _ _ _ a0 ac;refine aA yP ?_;refine aA AZ ?_;refine aA AZ ?_;refine aA AZ ?_;refine aP rfl (CU QX ?_);intro b6 _;refine aP rfl (AB 0 CX (aN (aN (aN (aN (aN bP))))) dY ?_);refine aA yQ ?_;refine aA yQ ?_;refine J.yX (aA (yV isAgg54 (bI a7)) ?_);refine aA (zZ underlying54) ?_;refine aA yP ?_;refine J.ns (aY (eP (ι:=TA9) (fun y=>y.s.length≤xs.length∧PS y.J (aO s).1.ps pq∧a1A y.J xs (.slice pl xs.length cl)∧LZ y.J∧Y y.s y.J y.H) (fun y=>xs.length-y.s.length) (fun y=>[(0,.func (.yield ly) #[] #[]),(4,ptr b6 0),(6,i64 ((aO s).2.2:Int)),(17,.slice pl xs.length cl),(18,i64 (xs.length:Int)),(19,i64 (y.s.length:Int))]) (fun y=>y.J) (fun y=>(b6,yZ 129 (FX (aO s).1 pq cq))::y.H) ⟨[],_,H⟩ ⟨bD _,N,G,Q,ac⟩ rT rfl rfl ?_));rintro⟨S,_,HY⟩ ⟨hi,N,G,Q,hY⟩;dsimp only at hi N G Q hY ⊢;obtain⟨i,a3⟩:∃i,i=S.length:=⟨_,rfl⟩;rw[←a3]at hi ⊢;refine Cj.sr (aA AV ?_);refine J.nss (aZ rfl (fun ad=>?_) (fun ad=>?_))
 ·have an:=BH ad;have am:i<xs.length:=oM;obtain⟨x,a4⟩:∃x,xs[i]?=some x:=⟨_,DC am⟩;have a1:=G.2 x (FQ a4);obtain⟨p1,c1,au,_,av⟩:=id G.1;cases au;obtain⟨_,fo,_,_,_,_,rfl,a2,aw⟩:=av (zT am);refine Cj.ks (bM (aY (Cj.sr (aA yP ?_))));refine aA (AU (off':=fo+i) underlying54 sizeOf45) ?_;refine aA (EF isAgg45 (bI a2) (c3H aw a4)) ?_;refine aA yQ ?_;refine aA yQ ?_;refine J.yX (aA yQ ?_);refine J.yX (aA yP ?_);refine aA yQ ?_;refine J.zX (aI (aA yP ?_));refine aA DW ?_;refine J.cd (fun a5=>?_) (fun a5=>?_)
  ·have ao:=DF a5;have ae:(aO s).2.2=0:=by have h:=DF a5;omega
   refine aI (aA yP ?_);refine aA (zW FT CX (yR.at 0 rfl)) ?_;refine aA yP ?_;refine aP rfl (yT (H1:=[]) rfl rfl rfl rfl rfl (find_ok x.1 x.2 s ae pq cq i ak.1 ak.2 _ N a1 Q) ?_ (fun _ _ _ _ ⟨_,_,h,_⟩=>by cases h) (fun _ _ ⟨_,_,h,_⟩=>by cases h));intro v9 _ _ O ap;have N:=N.mono O;have G:=G.mono O;have Q:=Q.mono O;have a2:=O _ _ a2;have a1:=a1.mono O;obtain⟨x9,e9,h,aq,af,rfl⟩:=ap;cases h;have hY:=aa _ _ _ _ O hY;refine aA yP ?_;refine aA AZ ?_;refine aA AZ ?_;refine aA yQ ?_;refine aA yQ ?_;refine J.yX (aA yP ?_);refine aA yP ?_;refine aA yP ?_;refine J.yield [_] rfl rfl rfl rfl rfl rfl (al S [_,_] (S++[(x9,e9)]) _ HY ⟨x.2,x9,e9,by rw[←a3,eU,a4];rfl,rfl,af,by rw[←a3];exact aq,rfl⟩ hY) ?_ (fun _ _ _ h=>by rcases h with⟨h,_⟩|⟨h,_⟩<;>cases h) (fun _ _ h=>by rcases h with⟨h,_⟩|⟨h,_⟩<;>cases h);intro v3 I3 H3 A ag;have N:=N.mono A;have G:=G.mono A;have Q:=Q.mono A;have a2:=A _ _ a2;have a1:=a1.mono A;have af:=af.mono A;obtain⟨t3,h3,a6⟩:∃t:Bool,v3= .bool t∧((t=true∧Y (S++[(x9,e9)]) I3 H3)∨(t=false∧Z I3 H3)):=by
    rcases ag with⟨h,h2⟩|⟨h,h2⟩
    ·cases h;exact⟨true,rfl,.inl ⟨rfl,h2⟩⟩
    cases h;exact⟨false,rfl,.inr ⟨rfl,h2⟩⟩
   subst h3;refine aA (ER rfl rfl) ?_;refine J.cd (fun a8=>?_) (fun a8=>?_)
   ·have ah:Z I3 H3:=by
     rcases a6 with⟨rfl,_⟩|⟨_,h⟩
     ·exact aH a8
     exact h
    refine bF (eG (dK (Ej.NC (eG (bW (H':=H3) (dA _ (dB _)) ?_)))));exact Ej.b0V rfl rfl ⟨rfl,.inr ah⟩
   have ai:Y (S++[(x9,e9)]) I3 H3:=by
    rcases a6 with⟨_,h⟩|⟨rfl,_⟩
    ·exact h
    exact aH a8
   refine Cj.kb (aI (aA (yY rfl rfl rfl (zV oM)) ?_));refine aA yP ?_;refine J.nil (dJ ⟨S++[(x9,e9)],_,H3⟩ ⟨by dsimp only;rw[aB,aU];omega,N,G,Q,ai⟩ (by dsimp only;rw[aB,aU];omega) ⟨rfl,rfl,rfl,rfl,rfl,by rw[aB,aU,←a3];rfl,trivial⟩ rfl rfl)
  have ao:=DU a5;have ae:(aO s).2.2≠0:=fun e=>DU a5 (by rw[e];rfl);refine Cj.ks (Cj.sr (aA yP ?_));refine aA yP ?_;refine aA yP ?_;refine J.yield [_] rfl rfl rfl rfl rfl rfl (al S [_,_] (S++[((⟨[],none,0⟩:Rw Fv),((aO s).2.2:Int))]) _ HY ⟨x.2,(⟨[],none,0⟩:Rw Fv),((aO s).2.2:Int),by rw[←a3,eU,a4];rfl,rfl,⟨zN.nil,fun _ h=>by cases h⟩,by unfold Bk.ans;rw[zG ae];exact rT,rfl⟩ hY) ?_ (fun _ _ _ h=>by rcases h with⟨h,_⟩|⟨h,_⟩<;>cases h) (fun _ _ h=>by rcases h with⟨h,_⟩|⟨h,_⟩<;>cases h);intro v3 I3 H3 A ag;have N:=N.mono A;have G:=G.mono A;have Q:=Q.mono A;have a2:=A _ _ a2;have a1:=a1.mono A;obtain⟨t3,h3,a6⟩:∃t:Bool,v3= .bool t∧((t=true∧Y (S++[((⟨[],none,0⟩:Rw Fv),((aO s).2.2:Int))]) I3 H3)∨(t=false∧Z I3 H3)):=by
   rcases ag with⟨h,h2⟩|⟨h,h2⟩
   ·cases h;exact⟨true,rfl,.inl ⟨rfl,h2⟩⟩
   cases h;exact⟨false,rfl,.inr ⟨rfl,h2⟩⟩
  subst h3;refine aA (ER rfl rfl) ?_;refine J.cd (fun a9=>?_) (fun a9=>?_)
  ·have ah:Z I3 H3:=by
    rcases a6 with⟨rfl,_⟩|⟨_,h⟩
    ·exact aH a9
    exact h
   refine bF (eG (dK (Ej.NC (eG (bW (H':=H3) (dA _ (dB _)) ?_)))));exact Ej.b0V rfl rfl ⟨rfl,.inr ah⟩
  have ai:Y (S++[((⟨[],none,0⟩:Rw Fv),((aO s).2.2:Int))]) I3 H3:=by
   rcases a6 with⟨_,h⟩|⟨rfl,_⟩
   ·exact h
   exact aH a9
  refine Cj.kb (aI (aA (yY rfl rfl rfl (zV oM)) ?_));refine aA yP ?_;refine J.nil (dJ ⟨S++[((⟨[],none,0⟩:Rw Fv),((aO s).2.2:Int))],_,H3⟩ ⟨by dsimp only;rw[aB,aU];omega,N,G,Q,ai⟩ (by dsimp only;rw[aB,aU];omega) ⟨rfl,rfl,rfl,rfl,rfl,by rw[aB,aU,←a3];rfl,trivial⟩ rfl rfl)
 have an:=BJ ad;refine Cj.exit (dD (Ej.IB (fD (bW (H':=HY) (dA _ (dB _)) ?_))));refine Ej.RY rfl rfl ⟨rfl,.inl ⟨S,by rw[aV];omega,hY⟩⟩
theorem b5h A nv cv s I:yS aT 39 [.slice A nv cv,str s] I [] (fun e _ H'=>∃h G,e= .returned (.func (.func 57) #[] #[ptr G 0,ptr h 0])∧H'=[(G,yZ 9 [str s]),(h,yZ 54 [.slice A nv cv])]):=by
 refine yS.ob func39 ?_;intro w0 _;refine Cj.sr (aP rfl (BG ?_));intro N _;refine aP rfl (BG ?_);intro O _;refine aA yQ ?_;refine J.yX (aA (DY rfl rfl rfl) ?_);refine aA yQ ?_;refine J.ns (bF (zM ?_));exact⟨N,O,rfl,rfl⟩
