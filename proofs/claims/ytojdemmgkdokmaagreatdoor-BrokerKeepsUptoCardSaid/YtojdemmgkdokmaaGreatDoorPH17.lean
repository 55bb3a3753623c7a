/-
  Own texts on the laws of the seat, joined: the logic, and contracts of functions. Conditions: none.
-/
import Derived.Test.YtojdemmgkdokmaaGreatDoorNmH
import Derived.Test.YtojdemmgkdokmaaGreatDoorPH16
set_option linter.all false
set_option maxRecDepth 100000
set_option maxHeartbeats 40000000
open Go.Sx.J renaming z -> aA,op -> aP,split -> eU,eqv -> fF
open List renaming length_append -> aB,length_singleton -> aU,length_map -> aV,length_cons -> aX,take_of_length_le -> bF,flatMap_append -> bP,map_append -> dN,mem_cons -> dW,length_pos_iff -> dX,mem_map -> dY,mem_singleton -> eH,getElem?_map -> eY,length_take -> fD,append_nil -> fH,length_nil -> fJ,mem_append -> fK,map_map -> gI
open Go.Sx.JA renaming tk -> aC,fix -> bI,tkG -> dQ
open Go.Sx.HSub renaming c -> aF,n -> aJ
open Go.Sx.Le renaming refl -> aG,trans -> aQ
open Bool renaming noConfusion -> aH,and_eq_true -> fC
open Go.Sx.Cj renaming region -> aI,block -> aZ,cond -> bC,ret -> bH,seq -> bQ,FT -> bZ,loop -> eX
open Go.Sx.CSub renaming n -> aK
open Go.Sx.zM renaming c -> aN,z -> bT,s -> dR
open Cq renaming parse -> aO,deep -> dH,c0B -> dI,c1Y -> dP,right -> dU
open Go.Value renaming bool -> aS
open Go.Proofs.Tryz renaming prog -> aT
open Go.Sx.Ej renaming bare -> aW,keep -> bY,seq -> dB,KH -> dG,round -> dL,LM -> dM,persist -> dS,FN -> eG,QL -> eP,LC -> fG,a0L -> fM
open Go.Sx.CG renaming one -> aY,none -> dA,agg -> gB
open Cq.Qn renaming size -> bD
open Nat renaming zero_le -> bG,le_refl -> fA,lt_succ_self -> fB
open Go.Sx.yR renaming QE -> bJ,TS -> bK,TN -> dJ
open Ke renaming all -> bM,JC -> gG
open Go.Sx.Keeps renaming d -> bU,k -> fO,n -> fP,r -> fQ
open Eq renaming trans -> bV,symm -> cO
open Go.Sx.GN renaming part -> bW,none -> fU
open Cq.Qs renaming size -> cZ
open List.Sublist renaming cons -> dD,refl -> dF
open Ix renaming QI -> dK,a1g -> dV,Rec -> dZ,TOK -> fZ
open Go.Sx.AV renaming z -> eF
open Go.Sx.yT renaming toPure -> fE
open Go.Sx.Src renaming slice -> fV
namespace Go.Proofs.YtojdemmgkdokmaaGreatDoor
open _root_.Go.Proofs.Tryz
open Go Go.Sx
theorem a5O l x v (hl:l.length≤1000000) I (G:KI 9 I l v):Pure aT 124 [v,str x] I (.bool (l.contains x)):=by
 obtain⟨b,c,sp,rfl,O⟩:=G;refine Pure.of_same (Enters.of func124 dE rfl) fun w Z=>?_;have h:=Tryz.slices_Contains_string b 0 l.length c (l.map fun y=>⟨y.toArray⟩) ⟨x.toArray⟩ w sI oM (fun j A=>by
  rw[Nat.zero_add];simp at A;refine cell_of_heap (Z.1 _ _ O) ?_;rw[JO (x:=l[j]) (DX A)];simp[str,DX A])
 rw[bF sI]at h;have e:Lib.containsS (l.map fun y=>(⟨y.toArray⟩:ByteArray)) ⟨x.toArray⟩=l.contains x:=by
  rw[Bool.eq_iff_iff,Lib.containsS_iff,List.contains_iff_mem,dY];constructor
  ·rintro⟨y,hy,he⟩;have e:y=x:=by simpa using zD ByteArray.data he
   exact e▸hy
  exact fun h=>⟨x,h,rfl⟩
 rw[e]at h;exact h
def a3x (q:Cq.Qn):Prop:=∀(p:Option Addr) (c:Nat) (I:Heap),PS I q.ps p→q.size≤1000000000→q.wide≤1000000000→Pure aT 73 [.agg (EX q p c).toArray] I (i64 (dH q))
theorem b3P I:yT aT 125 [] I [] (fun e G H'=>(∃v,e= .returned v∧KI 9 G Cq.indexes v)∧H'=[]):=by
 refine yT.ob func125 ?_;intro w0 _;refine Cj.sr (aA yQ ?_);refine J.yV (aP rfl (AZ AP zL JG (aY rfl (aY rfl (aY rfl (aY rfl (aY rfl (aY rfl dA)))))) ?_));intro O A;refine aA yQ ?_;refine J.ns (bH (dS A (fun _ _ h=>?_)));refine zN ?_;exact⟨⟨_,rfl,O,6,[],rfl,h⟩,rfl⟩
theorem b0T I:yT aT 126 [] I [] (fun e G H'=>(∃v,e= .returned v∧KI 9 G Cq.relations v)∧H'=[]):=by
 refine yT.ob func126 ?_;intro w0 _;refine Cj.sr (aA yQ ?_);refine J.yV (aP rfl (AZ AP zL JG (aY rfl (aY rfl (aY rfl (aY rfl (aY rfl (aY rfl dA)))))) ?_));intro O A;refine aA yQ ?_;refine J.ns (bH (dS A (fun _ _ h=>?_)));refine zN ?_;exact⟨⟨_,rfl,O,6,[],rfl,h⟩,rfl⟩
theorem b8T q (ih:∀q',bD q'<q.size→a3x q'):a3x q:=by
 intro p c I a9 _ b2;have bb:q.i.length+q.r.length+q.t.length≤1000000000:=by unfold Cq.Qn.wide at b2;omega
 refine fE ?_;refine yT.ob func73 ?_;intro w0 _;refine Cj.sr (aP rfl (BL ?_));intro _ _;refine aA yQ ?_;refine J.AO (aI (aA (qq2 (off':=0) DI AB) ?_));refine aA (yX DT (yR.at 0 rfl)) ?_;refine aA BO ?_;refine J.cd (fun ae=>?_) (fun ae=>?_)
 ·have aw:=CS ae;have hk:q.k=1:=oM;refine bQ (bQ (bZ [0] [] 18 kR ?_));refine bI ⟨(aF 0 rfl aJ),aK,(aG _)⟩ (fun au=>?_);refine aC 1 rfl au (qq2 (off':=1) DI zL) ?_;refine aC 2 rfl au (yX BX (bJ 0 rfl)) ?_;refine zT 0 rfl (yS (H1:=[]) rfl rfl rfl rfl rfl (b3P _) ?_ (fun _ _ _ _ h=>by obtain⟨⟨_,h,_⟩,_⟩:=h;cases h) (fun _ _ h=>by obtain⟨⟨_,h,_⟩,_⟩:=h;cases h));intro _ _ _ a4 b3;have a9:=a9.mono a4;obtain⟨⟨_,b4,aa⟩,rfl⟩:=b3;cases b4;refine⟨⟨(aQ (aG _) a4),(aF 0 rfl aJ),aK⟩,?_⟩;refine zT 3 rfl (yU rfl rfl rfl rfl rfl (a5O Cq.indexes _ _ dE _ aa) ?_);refine⟨⟨(aQ (aG _) a4),(aF 0 rfl aJ),aK⟩,?_⟩;refine bI ⟨(aF 0 rfl aJ),aK,(aQ (aG _) a4)⟩ (fun a0=>?_);refine aC 4 rfl a0 (ER rfl rfl) ?_;refine aC 5 rfl a0 yP ?_;refine JA.split 13 rfl (fun G=>?_) (fun G=>?_)
  ·refine CJ 6 5 13 false a0 (.inl (zD aS G)) ?_;refine CJ 7 5 13 false a0 (.inl (zD aS G)) ?_;refine CJ 8 5 13 false a0 (.inl (zD aS G)) ?_;refine CJ 9 5 13 false a0 (.inl (zD aS G)) ?_;refine CJ 10 5 13 false a0 (.inl (zD aS G)) ?_;refine aC 11 rfl a0 (DY G) ?_;refine aC 12 rfl a0 yP ?_;refine CJ 13 12 20 false a0 (.inl (zD aS rfl)) ?_;refine CJ 14 12 20 false a0 (.inl (zD aS rfl)) ?_;refine CJ 15 12 20 false a0 (.inl (zD aS rfl)) ?_;refine CJ 16 12 20 false a0 (.inl (zD aS rfl)) ?_;refine aC 17 rfl a0 JV ?_;refine AL ?_;refine dB (bC rfl (fun af=>?_) (fun af=>aH (bV (cO rfl) af)));refine Cj.sr (aA yQ ?_);refine J.ns (Cj.rs (dM (aW ?_)));refine zN ?_;refine⟨?_,rfl⟩;rw[dI hk]
   simp_all<;>omega
  refine dQ 7 5 13 false _ rfl a0 rfl rfl G (qq2 (off':=2) DI zL) ?_;refine dQ 8 5 13 false _ rfl a0 rfl rfl G (yX BX (bJ 0 rfl)) ?_;refine JA.stepG 6 5 13 false _ kR rfl rfl rfl rfl G (yS (H1:=[]) rfl rfl rfl rfl rfl (b0T _) ?_ (fun _ _ _ _ h=>by obtain⟨⟨_,h,_⟩,_⟩:=h;cases h) (fun _ _ h=>by obtain⟨⟨_,h,_⟩,_⟩:=h;cases h));intro _ _ _ a5 ax;have a9:=a9.mono a5;have aa:=aa.mono a5;obtain⟨⟨_,ay,am⟩,rfl⟩:=ax;cases ay;refine⟨⟨(aQ (aQ (aG _) a4) a5),(aF 0 rfl aJ),aK⟩,?_⟩;refine JA.stepG 9 5 13 false _ kR rfl rfl rfl rfl G (yU rfl rfl rfl rfl rfl (a5O Cq.relations _ _ dE _ am) ?_);refine⟨⟨(aQ (aQ (aG _) a4) a5),(aF 0 rfl aJ),aK⟩,?_⟩;refine bI ⟨(aF 0 rfl aJ),aK,(aQ (aQ (aG _) a4) a5)⟩ (fun O=>?_);refine dQ 10 5 13 false _ rfl O rfl rfl G (ER rfl rfl) ?_;refine aC 11 rfl O (DV G) ?_;refine aC 12 rfl O yP ?_;refine JA.split 20 rfl (fun a1=>?_) (fun a1=>?_)
  ·refine CJ 13 12 20 false O (.inl (zD aS a1)) ?_;refine CJ 14 12 20 false O (.inl (zD aS a1)) ?_;refine CJ 15 12 20 false O (.inl (zD aS a1)) ?_;refine CJ 16 12 20 false O (.inl (zD aS a1)) ?_;refine aC 17 rfl O (DY a1) ?_;refine AL ?_;refine dB (bC rfl (fun ag=>?_) (fun ag=>aH (bV (cO rfl) ag)));refine Cj.sr (aA yQ ?_);refine J.ns (Cj.rs (dM (aW ?_)));refine zN ?_;refine⟨?_,rfl⟩;rw[dI hk]
   simp_all<;>omega
  refine dQ 13 12 20 false _ rfl O rfl rfl a1 (qq2 (off':=4) DI MH) ?_;refine dQ 14 12 20 false _ rfl O rfl rfl a1 (yX isAgg64 (bJ 0 rfl)) ?_;refine dQ 15 12 20 false _ rfl O rfl rfl a1 (AU tU64) ?_;refine dQ 16 12 20 false _ rfl O rfl rfl a1 (KO rfl rfl rfl) ?_;refine aC 17 rfl O (DV a1) ?_;refine AL ?_;refine dB (bC rfl (fun ab=>?_) (fun ab=>?_))
  ·have an:=BH ab;refine Cj.sr (aA yQ ?_);refine J.ns (Cj.rs (dM (aW ?_)));refine zN ?_;refine⟨?_,rfl⟩;rw[dI hk]
   simp_all<;>omega
  have an:=BN ab;refine Cj.ks (Cj.sr (aA yQ ?_));refine J.ns (Cj.rs (aW ?_));refine zN ?_;refine⟨?_,rfl⟩;rw[dI hk]
  simp_all<;>omega
 have aw:=CX ae;have hk:q.k≠1:=oM;refine Cj.ks (bQ (Cj.sr (aA (qq2 (off':=0) DI AB) ?_)));refine aA (yX DT (yR.at 0 rfl)) ?_;refine aA BM ?_;refine aA yP ?_;refine eU 29 rfl (fun a2=>?_) (fun a2=>?_)
 ·refine zO 3 29 30 false a2 ?_;refine zO 3 29 31 false a2 ?_;refine zO 3 29 32 false a2 ?_;refine aA (DY a2) ?_;refine aA yP ?_;refine CQ 8 34 35 false ?_;refine CQ 8 34 36 false ?_;refine CQ 8 34 37 false ?_;refine CQ 8 34 38 false ?_;refine CQ 8 34 39 false ?_;refine CQ 8 34 40 false ?_;refine CQ 8 34 41 false ?_;refine CQ 8 34 42 false ?_;refine CQ 8 34 43 false ?_;refine aA JV ?_;refine aA yP ?_;refine CQ 19 45 46 false ?_;refine CQ 19 45 47 false ?_;refine CQ 19 45 48 false ?_;refine CQ 19 45 49 false ?_;refine aA JV ?_;refine J.c1 (fun _=>?_);refine Cj.sr (aA yQ ?_);refine J.ns (Cj.rs (aW ?_));refine zN ?_;rw[dP hk (.inl (by have h:=a2;simp at h;omega))];exact rT
 refine zU 3 29 false a2 (zK (qq2 (off':=0) DI AB) ?_);refine zU 3 29 false a2 (zK (yX DT (yR.at 0 rfl)) ?_);refine zU 3 29 false a2 (zK (KO rfl rfl rfl) ?_);refine aA (DV a2) ?_;refine aA yP ?_;refine eU 34 rfl (fun A=>?_) (fun A=>?_)
 ·refine zO 8 34 35 false A ?_;refine zO 8 34 36 false A ?_;refine zO 8 34 37 false A ?_;refine zO 8 34 38 false A ?_;refine zO 8 34 39 false A ?_;refine zO 8 34 40 false A ?_;refine zO 8 34 41 false A ?_;refine zO 8 34 42 false A ?_;refine zO 8 34 43 false A ?_;refine aA (DY A) ?_;refine aA yP ?_;refine CQ 19 45 46 false ?_;refine CQ 19 45 47 false ?_;refine CQ 19 45 48 false ?_;refine CQ 19 45 49 false ?_;refine aA JV ?_;refine J.c1 (fun _=>?_);refine Cj.sr (aA yQ ?_);refine J.ns (Cj.rs (aW ?_));refine zN ?_;rw[dP hk (.inr (.inl (by have h:=A;simp at h;omega)))];exact rT
 refine zU 8 34 false A (zK (qq2 (off':=1) DI zL) ?_);refine zU 8 34 false A (zK (yX BX (yR.at 0 rfl)) ?_);refine zU 8 34 false A (zK (qq2 (off':=2) DI zL) ?_);refine zU 8 34 false A (zK (yX BX (yR.at 0 rfl)) ?_);refine J.QD 8 34 false _ rfl rfl rfl A (IE (EZ rfl rfl rfl (by first|omega|(simp only[aB];omega)|(simp;omega))) rfl rfl ?_);refine zU 8 34 false A (zK (qq2 (off':=3) DI zL) ?_);refine zU 8 34 false A (zK (yX BX (yR.at 0 rfl)) ?_);refine J.QD 8 34 false _ rfl rfl rfl A (IE (EZ rfl rfl rfl (by first|omega|(simp only[aB];omega)|(simp;omega))) rfl rfl ?_);refine zU 8 34 false A (zK (LH rfl rfl rfl) ?_);refine aA (DV A) ?_;refine aA yP ?_;refine eU 45 rfl (fun Z=>?_) (fun Z=>?_)
 ·refine zO 19 45 46 false Z ?_;refine zO 19 45 47 false Z ?_;refine zO 19 45 48 false Z ?_;refine zO 19 45 49 false Z ?_;refine aA (DY Z) ?_;refine J.c1 (fun _=>?_);refine Cj.sr (aA yQ ?_);refine J.ns (Cj.rs (aW ?_));refine zN ?_;rw[dP hk (.inr (.inr (.inl (bne_iff_ne.1 Z))))];exact rT
 refine zU 19 45 false Z (zK (qq2 (off':=4) DI MH) ?_);refine zU 19 45 false Z (zK (yX isAgg64 (yR.at 0 rfl)) ?_);refine zU 19 45 false Z (zK (AU tU64) ?_);refine zU 19 45 false Z (zK EY ?_);refine aA (DV Z) ?_;refine J.cd (fun a6=>?_) (fun a6=>?_)
 ·have ao:=bne_iff_ne.1 a6;refine Cj.sr (aA yQ ?_);refine J.ns (Cj.rs (aW ?_));refine zN ?_;rw[dP hk (.inr (.inr (.inr (by have h:=a6;simp at h;omega))))];exact rT
 have ao:=EC a6;have az:=a2;have b0:=A;have ah:=Z;have b1:=a6;have ap:¬(q.k<2∨q.k>4∨q.i≠[]∨q.r≠[]∨q.t≠[]∨q.ps.len≠2):=by
  simp at az b0 ah b1;simp[ah];omega
 obtain⟨qa,qb,a8⟩:=Cq.Qs.b8f (ps:=q.ps) oM
 change q.Two qa qb at a8
 have ai:=Cq.c1q hk ap a8;have aj:=a8.size;have ba:=a8.wide;have bc:=Cq.b5u qb;have bd:=Cq.b5u qa;have be:=Cq.b5J qa;have bf:=Cq.b5J qb;have bg:=a8.len;obtain⟨_,off,cs',T,fr,pa,ca,pb,cb,rfl,av,b5,b6,b7,b8,b9⟩:=a9.b7Y a8;refine Cj.ks (bQ (bZ [0] [] 12 kR ?_));have ad:=av;refine bI ⟨(aF 0 rfl aJ),aK,(aG _)⟩ (fun a3=>?_);refine aC 0 rfl a3 (qq2 (off':=4) DI MH) ?_;refine aC 1 rfl a3 (yX isAgg64 (bJ 0 rfl)) ?_;refine aC 2 rfl a3 (BG (off':=off) tU64 zZ) ?_;refine aC 3 rfl a3 (FH CP zZ (dJ ad) b5) ?_;refine aC 5 rfl a3 (qq2 (off':=4) DI MH) ?_;refine aC 6 rfl a3 (yX isAgg64 (bJ 0 rfl)) ?_;refine aC 7 rfl a3 (BG (off':=off+5) tU64 zZ) ?_;refine aC 8 rfl a3 (FH CP zZ (dJ ad) b6) ?_;refine zT 4 rfl (yU rfl rfl rfl rfl rfl (ih qa aj.1 pa ca _ b8 oM oM) ?_);refine⟨⟨(aG _),(aF 0 rfl aJ),aK⟩,?_⟩;refine zT 9 rfl (yU rfl rfl rfl rfl rfl (ih qb aj.2 pb cb _ b9 oM oM) ?_);refine⟨⟨(aG _),(aF 0 rfl aJ),aK⟩,?_⟩;refine bI ⟨(aF 0 rfl aJ),aK,(aG _)⟩ (fun ak=>?_);refine aC 10 rfl ak yQ ?_;refine aC 11 rfl ak yQ ?_;refine AL ?_;refine dB (bQ (Cj.sr (aA yP ?_)));refine aA yP ?_;refine aA (LV rfl rfl rfl) ?_;refine fF 63 rfl (show _=i64 (min (dH qa) (dH qb)) from(by congr 1;omega)) ?_;refine aA BM ?_;refine J.cd (fun ac=>?_) (fun ac=>?_)
 ·have aq:=BH ac;refine Cj.sr (aA yQ ?_);refine J.ns (Cj.rs (aW ?_));refine zN ?_;rw[ai,zG oM];exact rT
 have aq:=BN ac;refine Cj.ks (bQ (Cj.sr (aA (qq2 (off':=4) DI MH) ?_)));refine aA (yX isAgg64 (yR.at 0 rfl)) ?_;refine aA (BG (off':=off+5) tU64 zZ) ?_;refine aA (qq2 DI AB) ?_;refine aA (EN DT (bK av) b7) ?_;refine aA EY ?_;refine J.cd (fun a7=>?_) (fun a7=>?_)
 ·have ar:=bne_iff_ne.1 a7;have al:Cq.up qb.k=1:=by have h:=a7;simp at h;simp[Cq.up,h]
  refine aI (aA yP ?_);refine aA (yZ rfl rfl rfl (AA oM)) ?_;refine aA yQ ?_;refine J.yV (aA yP ?_);refine aA yP ?_;refine aA (KG rfl rfl rfl) ?_;refine fF 75 rfl (show _=i64 (max (dH qa) (dH qb+1)) from(by congr 1;omega)) ?_;refine aA yQ ?_;refine J.ns (bH (aW ?_));refine zN ?_;refine⟨?_,rfl⟩;rw[ai,zF oM,al];simp
 have ar:=EC a7;have al:Cq.up qb.k=0:=by have h:=a7;simp at h;simp[Cq.up,h]
 refine Cj.ks (Cj.sr (aA yP ?_));refine aA yP ?_;refine aA (KG rfl rfl rfl) ?_;refine fF 75 rfl (show _=i64 (max (dH qa) (dH qb)) from(by congr 1;omega)) ?_;refine aA yQ ?_;refine J.ns (bH (aW ?_));refine zN ?_;refine⟨?_,rfl⟩;rw[ai,zF oM,al];simp
theorem c4t q:a3x q:=by
 suffices ∀n (q:Cq.Qn),q.size<n→a3x q from this _ q (fB _)
 intro n
 induction n with
 |zero=>intro q h;omega
 |succ n A=>intro q h;exact b8T q fun G _=>A G oM
theorem b8L q p c (A:q.size≤1000000000)(G:q.wide≤1000000000) I (O:PS I q.ps p):Pure aT 42 [.agg (EX q p c).toArray] I (.bool (dU q)):=by
 refine fE ?_;refine yT.ob func42 ?_;intro w0 _;refine Cj.sr (aP rfl (BL ?_));intro _ _;refine aA yQ ?_;refine J.yV (aA (zX CP zZ (yR.at 0 rfl)) ?_);refine aP rfl (yU rfl rfl rfl rfl rfl (c4t q p c _ O A G) ?_);refine aA yQ ?_;refine J.yV (aA yP ?_);refine aA (MC rfl rfl rfl) ?_;refine aA yP ?_;refine eU 8 rfl (fun h=>?_) (fun h=>?_)
 ·refine zU 2 8 true h (zK yP ?_);refine zU 2 8 true h (zK (WA rfl rfl rfl) ?_);refine aA (DY h) ?_;refine aA yQ ?_;refine J.ns (bH (aW ?_));refine zN ?_;refine⟨?_,rfl⟩;rw[←Cq.a8n]
  simp_all<;>omega
 refine zO 2 8 9 true h ?_;refine zO 2 8 10 true h ?_;refine aA (DV h) ?_;refine aA yQ ?_;refine J.ns (bH (aW ?_));refine zN ?_;refine⟨?_,rfl⟩;rw[←Cq.a8n]
 simp_all<;>omega
structure TF where
  vis:ML Ix.Rec
  rest:ML Ix.Rec
  g:Gs
def fnd (L:Ix.Ix) (vis:ML dZ):List FW:=(vis.map (·.1)).map fun t=>(Ix.WJ L t,t)
theorem a6u L vis x:fnd L (vis++[x])=fnd L vis++[(Ix.WJ L x.1,x.1)]:=by
 unfold fnd;rw[dN,dN];rfl
theorem c4h L vis:(fnd L vis).length=vis.length:=by unfold fnd;rw[aV,aV]
theorem b6l{L q}(hf:Cq.form q=true)(h:∀t,Ix.sat L q t=false):dK L q []:=
 Ix.b3x hf List.Pairwise.nil fun t=>by rw[h t];simp
theorem b6b{L q}(hf:Cq.form q=true){m k}(h:JQ m k (Ix.sat L q)){vis}(A:vis.Perm m){ls:List FW}(G:ls.Perm (fnd L vis))(O:ls.Pairwise fun p q=>¬WM q p):dK L q (ls.map (·.2)):=by
 have hn:(vis.map (·.1)).Nodup:=((A.map _).nodup_iff.2 h.1.1);obtain⟨h1,h2⟩:=b7U hn G O;exact Ix.b3x hf h1 fun t=>by rw[h2,(A.map _).mem_iff,h.mem]
theorem a6S{ls:List FW}{k x}(h:ls[k]?=some x):(ls.take (k+1)).map (·.2)=(ls.take k).map (·.2)++[x.2]:=a0H _ h
theorem c0A{ls:List FW}(h:ls.Perm []):ls=[]:=h.eq_nil
theorem c4o xv L q p c (aq:q.size≤1000000000)(ar:q.wide≤10000000)(hR:dU q=true)(au:fZ L) I (G:PS I q.ps p)(hx:QB I xv L)(hT:MW I):yT aT 18 [xv,.agg (EX q p c).toArray] I []
 (fun e _ H'=>∃(r:List dZ) (g:Gs),dK L q r∧CU 0 2 r.length (r.flatMap recC) g∧e= .returned (.tuple #[gV r.length g,i64 0])∧H'=gH 38 (r.flatMap recC) g):=by
 have Z:Cq.form q=true:=by unfold dU at hR;rw[fC]at hR;exact hR.1
 have b8:=hx.big;refine yT.ob func18 ?_;intro w0 _;refine Cj.sr (aP rfl (BL ?_));intro _ _;refine aA yQ ?_;refine aA yQ ?_;refine J.AO (aI (aA (zX CP zZ (yR.at 0 rfl)) ?_));refine aP rfl (yU rfl rfl rfl rfl rfl (b8L q p c aq oM _ G) ?_);refine fF 12 rfl (show _= .bool true from(zD aS hR)) ?_;refine aA (ER rfl rfl) ?_;refine J.ns (bC rfl (fun ad=>aH (bV (cO (zD not rfl)) ad)) (fun ad=>?_));refine Cj.ks (Cj.sr (aA yQ ?_));refine J.AO (aI (aA yP ?_));refine aA (zX CP zZ (yR.at 0 rfl)) ?_;refine aP rfl (yS (H1:=[]) rfl rfl rfl rfl rfl (b6G xv L au q p c _ G hx hT ar Z) ?_ (fun _ _ _ _ ⟨_,h,_⟩=>by cases h) (fun _ _ ⟨_,h,_⟩=>by cases h));intro _ _ _ a3 av;have G:=G.mono a3;have hx:=hx.mono a3;have hT:=hT.mono a3;obtain⟨ws,h,hset,rfl⟩:=av;cases h;rcases id hset with⟨rfl,hS⟩|⟨sb,sm,sk,rfl,hm,O⟩
 ·

  refine aP rfl (PX rfl rfl rfl rfl MP ?_);intro _ _;refine J.ns (aZ (Cj.rounds 1 ?_));refine Rj.succ ?_;refine Cj.sr (aP rfl (RZ 0 rfl rfl rfl rfl rfl ?_));refine aA AQ ?_;refine J.nss (bC rfl (fun ae=>aH (bV (cO rfl) ae)) (fun ae=>?_));refine Cj.exit (dG (dG (fG (dB (Cj.sr (aA yP ?_))))));refine aP rfl (FV (H1:=[]) [_,_] rfl rfl rfl rfl rfl rfl (a4x (base:=0) [] none rT dE _) ?_ (fun _ _ _ _ ⟨_,_,_,h,_⟩=>by cases h) (fun _ _ ⟨_,_,_,h,_⟩=>by cases h));rintro v9 I9 H9 A ⟨ls,a6,af,h,rfl⟩;cases h;have aw:=c0A a6;subst aw;have a4:dK L q (([]:List FW).map (·.2)):=b6l Z hS;have G:=G.mono A;have hx:=hx.mono A;have hT:=hT.mono A;refine J.yV (aA yQ ?_);refine J.AO (aI (aA yP ?_));refine aA (AU a5F) ?_;refine aA yP ?_;refine J.ns (aZ (Cj.rounds 1 ?_));refine Rj.succ ?_;refine Cj.sr (aA BM ?_);refine J.nss (bC rfl (fun a7=>aH (bV (cO (by first|rfl|decide)) a7)) (fun a7=>?_));refine Cj.exit (dG (dG (fG (dB (Cj.sr (aA yP ?_))))));refine aA yQ ?_;refine aA yQ ?_;refine J.ns (bH (aW ?_));refine fM rfl rfl rfl rfl ?_;exact⟨_,none,a4,⟨rfl,rfl⟩,rfl,rfl⟩
 have b9:sm.length≤100000:=by
  have h9:=hm.len (l:=L.map (·.1)) fun t ht=>Ix.a2M L _ q (fB _) Z ht;rw[aV]at h9;omega
 refine aP rfl (NZ (kv:=BI) (l:=sm) rfl rfl rfl rfl MP (bK O) ?_);intro ag _;refine J.ns (aZ (Cj.keep (fO (bU fP)) ?_));refine eX (ι:=TF) (fun y=>(y.vis++y.rest).Perm sm∧CU w0.heap.size 3 (fnd L y.vis).length ((fnd L y.vis).flatMap QT) y.g) (fun y=>y.rest.length) (fun y=>[(0,xv),(6,gV (fnd L y.vis).length y.g),(17,ptr ag 0)]) (fun y=>_) (fun y=>(ag,ZI sb sk y.vis sk)::gH 128 ((fnd L y.vis).flatMap QT) y.g) ⟨[],sm,none⟩ ⟨.refl _,rfl,rfl⟩ rT rfl rfl ?_;rintro⟨vis,rest,g⟩ ⟨hp,hg⟩;dsimp only at hp hg ⊢;have ak:=hp.length_eq;rw[aB]at ak;have ba:=c4h L vis;refine Cj.sr (aP rfl (PI (kv:=BI) (l:=sm) 0 rfl rfl rfl rfl rfl (bK O) hm.1.2.2 (fA _) hm.1.2.1 hp ?_ ?_))
 ·rintro x ab H9 ax ah ⟨-,hset⟩;simp only[List.set_cons_zero,List.set_cons_succ]at hset;subst hset;have ay:x∈sm:=ah.mem_iff.1 (List.mem_append_left _ (List.mem_append_right _ (.head _)));refine aA AQ ?_;refine J.nss (bC rfl (fun a8=>?_) (fun a8=>aH (bV (cO rfl) a8)));refine Cj.ks (aZ (Cj.sr (aA (UM (kv:=BI) (l:=sm) rfl rfl (yR.at 0 rfl) (bK O) ay hm.1.2.1) ?_)));refine aA AQ ?_;refine aP rfl (BP QZ ?_);intro _ _;refine aP rfl (zS 0 AY (aN (aN bT)) eF ?_);refine J.ns (bZ [0,1] [] 9 kR ?_);have b7:=O;refine bI ⟨(aF 0 rfl (aF 1 rfl aJ)),aK,(aG _)⟩ (fun a0=>?_);refine aC 0 rfl a0 yP ?_;refine aC 1 rfl a0 yP ?_;refine aC 2 rfl a0 (zX EI AY (bJ 0 rfl)) ?_;refine aC 4 rfl a0 (zX EI AY (bJ 0 rfl)) ?_;refine zT 3 rfl (yU rfl rfl rfl rfl rfl (c2P xv L x.1 _ hx) ?_);refine⟨⟨(aG _),(aF 0 rfl (aF 1 rfl aJ)),aK⟩,?_⟩;refine bI ⟨(aF 0 rfl (aF 1 rfl aJ)),aK,(aG _)⟩ (fun al=>?_);refine aC 5 rfl al (zV (pl:= #[(0,1),(1,2)]) rfl rfl zeroValue128 rfl c3Q (fun w=>by simp[AY,zL]) (bW rfl rfl rfl (aN bT) (bW rfl rfl rfl (dR (aN (aN bT))) fU))) ?_;refine zT 6 rfl (AZ a5F sizeOf128 zeroValue128 (gB rfl dA) ?_);intro _ _;refine⟨⟨(aG _),(aF 1 rfl (aF 2 rfl aJ)),aK⟩,?_⟩;refine zT 7 rfl (BJ (by':=31) [_,_,_] rfl rfl rfl rfl rfl a5F (.inr ⟨_,a5F⟩) kR sizeOf128 zeroValue128 rfl hg rfl (fV (yR.at 0 rfl) rfl rfl rfl) oM ?_);intro az am;refine⟨⟨(aG _),(aF 1 rfl (aF 2 rfl aJ)),aK⟩,?_⟩;refine bI ⟨(aF 1 rfl (aF 2 rfl aJ)),aK,(aG _)⟩ (fun an=>?_);refine aC 8 rfl an yQ ?_;refine AL ?_;refine eG (bY (bU (bU (fO fQ))) ?_);refine dL ⟨vis++[x],ab,az⟩ ⟨ah,by dsimp only;rw[a6u,aB,bP];exact am⟩ (by have h:=ax.length_eq;simp only[aX]at h;dsimp only;omega) ⟨rfl,by dsimp only;rw[a6u,aB];rfl,rfl,trivial⟩ rfl (by dsimp only;rw[a6u,bP];rfl)
 intro ao;have b0:vis.Perm sm:=by rw[ao,fH]at hp;exact hp
 refine aA AQ ?_;refine J.nss (bC rfl (fun a9=>aH (bV (cO rfl) a9)) (fun a9=>?_));refine Cj.xl (Cj.sr (aA yP ?_));refine aP rfl (FV (H1:=gH 128 ((fnd L vis).flatMap QT) g) [_] rfl rfl rfl rfl rfl rfl (a4x (fnd L vis) g hg oM _) ?_ (fun _ _ _ _ ⟨_,_,_,h,_⟩=>by cases h) (fun _ _ ⟨_,_,_,h,_⟩=>by cases h));rintro v9 I9 H9 A ⟨ls,a6,af,h,rfl⟩;cases h;have aa:(fnd L vis).length=ls.length:=a6.length_eq.symm;have b1:CU w0.heap.size 3 ls.length (ls.flatMap QT) g:=by rw[←aa];exact VI hg (by rw[DN NK,DN NK,aa])
 have a4:=b6b Z hm b0 a6 af;have G:=G.mono A;have hx:=hx.mono A;have hT:=hT.mono A;have O:=A _ _ O;refine J.nss (Cj.perm (H':=gH 128 (ls.flatMap QT) g++[_]) List.perm_append_comm ?_);refine Cj.keepR (f:=QT) NK dE b1 rfl (fun _ a1 hv=>?_);have G:=G.mono a1;have hx:=hx.mono a1;have hT:=hT.mono a1;have O:=a1 _ _ O;obtain⟨pv,cv,ai⟩:=RS hv;refine Cj.eqv 6 rfl (show _= .slice pv ls.length cv from by rw[aa];exact ai) ?_;rw[ai]at hv;refine aI (aA yQ ?_);refine J.AO (aI (aA yP ?_));refine aA (AU a5F) ?_;refine aA yP ?_;refine J.ns (aZ (Cj.keep (bU fP) ?_));refine eX (ι:=Nat×Gs) (fun y=>y.1≤ls.length∧CU w0.heap.size 2 ((ls.take y.1).map (·.2)).length (((ls.take y.1).map (·.2)).flatMap recC) y.2) (fun y=>ls.length-y.1) (fun y=>[(8,gV ((ls.take y.1).map (·.2)).length y.2),(32,.slice pv ls.length cv),(33,i64 (ls.length:Int)),(34,i64 (y.1:Int))]) (fun y=>_) (fun y=>gH 38 (((ls.take y.1).map (·.2)).flatMap recC) y.2) (0,none) ⟨bG _,rfl,rfl⟩ rT rfl rfl ?_;clear hg;rintro⟨j,g⟩ ⟨hj,hg⟩;dsimp only at hj hg ⊢;have bb:((ls.take j).map (·.2)).length=j:=by rw[aV,fD];omega
 refine Cj.sr (aA BM ?_);refine J.nss (bC rfl (fun a5=>?_) (fun a5=>?_))
 ·have ac:=BH a5;have aj:j<ls.length:=oM;obtain⟨x,a2⟩:∃x,ls[j]?=some x:=⟨_,DX aj⟩;obtain⟨p1,c1,b2,_,b3⟩:=id hv;cases b2;obtain⟨_,fo,_,_,_,_,rfl,b4,b5⟩:=b3 (AX aj);refine Cj.ks (bQ (aZ (Cj.sr (aA (BG (off':=fo+j*3) a5F sizeOf128) ?_))));refine aA (FH isAgg128 sizeOf128 (bK b4) (EJ NK b5 a2)) ?_;refine aP rfl (BP zeroValue128 ?_);intro _ _;refine aP rfl (zS 0 sizeOf128 (aN (aN (aN bT))) eF ?_);refine J.GL (aA yP ?_);refine aA (qq2 (off':=1) c3Q AY) ?_;refine aA (zX EI AY (yR.at 0 rfl)) ?_;refine aP rfl (AZ OU AY QZ (gB rfl dA) ?_);intro _ _;refine aP rfl (BJ (by':=15) [_,_] rfl rfl rfl rfl rfl OU (.inr ⟨_,OU⟩) kR AY QZ rfl hg rfl (fV (yR.at 0 rfl) rfl rfl rfl) oM ?_);intro b6 ap;refine aA yQ ?_;refine J.nb (aI (aA (yZ rfl rfl rfl (AA oM)) ?_));refine aA yP ?_;refine J.nil (bY (bU (bU fQ)) ?_);refine dL (j+1,b6) ⟨dO,by dsimp only;rw[a6S a2,aB,bP];exact ap⟩ dO ⟨by dsimp only;rw[a6S a2,aB];rfl,rfl,rfl,rfl,trivial⟩ rfl (by dsimp only;rw[a6S a2,bP];rfl)
 have ac:=BN a5;refine Cj.xl (Cj.sr (aA yP ?_));refine aA yQ ?_;refine aA yQ ?_;refine J.ns (bH ?_);rw[bF (oM:ls.length≤j)]at hg ⊢;refine fM rfl rfl rfl rfl ?_;exact⟨_,g,a4,a6A hg,rfl,rfl⟩
theorem b7Z h L q p c (A:q.size≤1000000000)(G:q.wide≤10000000)(hR:dU q=true)(O:fZ L) I (Z:PS I q.ps p)(hx:QB I h L)(hT:MW I):yT aT 18 [h,.agg (EX q p c).toArray] I []
 (fun e _ H'=>∃(w:Value) (r:List dZ),e= .returned (.tuple #[w,i64 0])∧dK L q r∧a3P r w H'):=
 (c4o h L q p c A G hR O I Z hx hT).mono fun _ _ _ _ ⟨r,g,h1,h2,h3,h4⟩=>⟨_,r,h3,h1,by rw[h4];exact b1d rfl h2⟩
end Go.Proofs.YtojdemmgkdokmaaGreatDoor
namespace Bk
open Ix
def a7N:List UInt8:=[116,105,116,108,101,32]
def keyOf (fs:List gG):List UInt8:=match (bM fs).getLast? with
 |some k=>if a7N.isPrefixOf k=true then k else[]
 |none=>[]
theorem a8p{fs k}(h:(bM fs).getLast?=some k):keyOf fs=if a7N.isPrefixOf k=true then k else[]:=by unfold keyOf;rw[h]
theorem b5X{fs}(h:bM fs=[]):keyOf fs=[]:=by unfold keyOf;rw[h];rfl
def a2k (es:List (Rec×List gG)) (t:Rec):Option (List UInt8):=es.foldl (fun o e=>if e.1=t then some (keyOf e.2)else o) none
theorem c0h es e t:a2k (es++[e]) t=if e.1=t then some (keyOf e.2)else a2k es t:=by
 unfold a2k;rw[List.foldl_append];rfl
structure Lb where
  L:Ix
  key:Rec→List UInt8
def PN (es:List (Rec×List gG)):Lb:=⟨a1g (es.map fun e=>(e.1,vals e.2)) [],fun t=>(a2k es t).getD []⟩
def found (b:Lb) (r:List Rec) (k:Nat):List Fd:=r.map fun t=>⟨t,b.key t,[(k:Int)]⟩
def ans (p:Cq.Qn×Nat×Nat) (o:Option Lb) (k:Nat) (fs:List Fd) (e:Int):Prop:=
 if p.2.2≠0 then fs=[]∧e=(p.2.2:Int)else match o with
  |none=>fs=[]∧e=32
  |some b=>e=0∧∃r,QI b.L p.1 r∧fs=found b r k
theorem c6m{p o k fs gs e d}(h:ans p o k fs e)(g:ans p o k gs d):fs=gs∧e=d:=by
 unfold ans at h g
 split at h
 ·rename_i A
  rw[zG A]at g;exact⟨h.1.trans g.1.symm,h.2.trans g.2.symm⟩
 rename_i A
 rw[zF A]at g;cases o with
 |none=>exact⟨h.1.trans g.1.symm,h.2.trans g.2.symm⟩
 |some b=>
  obtain⟨h1,r,h2,h3⟩:=h;obtain⟨O,s,Z,g3⟩:=g;have G:r=s:=h2.eq Z;exact⟨by rw[h3,g3,G],h1.trans O.symm⟩
theorem b1S t v:∀(L:Ix) (x:Rec×List V),x∈RG t v L→x=(t,v)∨x∈L
 |[],x,h=> .inl (by simpa[RG]using h)
 |(u,w)::r,x,h=>by
  unfold RG at h
  split at h
  ·rcases dW.1 h with g|g
   ·exact .inr (by rw[g];exact .head _)
   exact(b1S t v r x g).imp id (.tail _)
  split at h
  ·rcases dW.1 h with g|g
   ·exact .inl g
   exact .inr (.tail _ g)
  rcases dW.1 h with g|g
  ·exact .inl g
  exact .inr g
theorem a9C:∀(es L:Ix) (x:Rec×List V),x∈a1g es L→x∈es∨x∈L
 |[],_,_,h=> .inr h
 |e::es,L,x,h=>by
  have A:x∈a1g es (RG e.1 e.2 L):=h;rcases a9C es _ x A with g|g
  ·exact .inl (.tail _ g)
  rcases b1S _ _ _ _ g with g|g
  ·exact .inl (by rw[g];exact .head _)
  exact .inr g
theorem a8c b r k:MJ (found b r k)=r.length:=by
 unfold MJ found;rw[gI]
 induction r with
 |nil=>rfl
 |cons t r h=>rw[List.map_cons,List.sum_cons,h,aX];show 1+_=_;omega
theorem c4d{p o k fs e}(h:ans p o k fs e)(A:∀b,o=some b→b.L.length≤100000):fs.length≤100000∧MJ fs≤100000:=by
 unfold ans at h
 split at h
 ·obtain⟨rfl,-⟩:=h;exact⟨bG _,bG _⟩
 cases o with
 |none=>
  obtain⟨rfl,-⟩:=h;exact⟨bG _,bG _⟩
 |some b=>
  obtain⟨-,r,h2,rfl⟩:=h;have h3:=A b rfl;have G:r.length≤b.L.length:=h2.len;rw[a8c];exact⟨by unfold found;rw[aV];omega,oM⟩
end Bk
section

end
namespace Cq
def Fits (ts:List Tok):Res→Prop
 | .ok q ts2=>q.size+2+2*ts2.length≤2*ts.length
 | .err _ _=>True
theorem c2p k a b:(two k a b).size=a.size+b.size+2:=by
 simp only[two,bD,Qn.push,cZ];omega
theorem fits:∀f,(∀deep ts,Fits ts (clause f deep ts))∧(∀deep ts,Fits ts (query f deep ts))∧∀deep q ts O A,more f deep q ts= .ok O A→O.size+2*A.length≤q.size+2*ts.length
 |0=>⟨fun _ _=>by simp[clause,Fits],fun _ _=>by simp[query,Fits],fun _ _ _ _ _ h=>by simp[more]at h⟩
 |f+1=>by
  obtain⟨Z,hq,hm⟩:=fits f;refine⟨fun deep ts=>?_,fun deep ts=>?_,fun deep q ts O A h=>?_⟩
  ·cases ts with
   |nil=>simp[clause,Fits]
   |cons t r=>
    unfold clause
    by_cases h1:lp t=true
    ·rw[zG h1]
     split
     ·trivial
     have:=hq (deep+1) r;cases hx:query f (deep+1) r with
     |err p e=>trivial
     |ok q A=>
      rw[hx]at this;cases A with
      |nil=>trivial
      |cons t2 r2=>
       simp only[]
       split
       ·simp only[Fits,aX]at this ⊢;omega
       trivial
    rw[zF h1]
    split
    ·trivial
    cases r with
    |nil=>cases t.kind == 3<;>simp[Fits,bD,cZ]
    |cons t2 r2=>
     cases t.kind == 3 with
     |false=>simp[Fits,bD,cZ];omega
     |true=>
      simp only[]
      split
      ·split
       ·trivial
       cases r2 with
       |nil=>trivial
       |cons t3 r3=>
        simp only[]
        split
        ·simp[Fits,bD,cZ];omega
        trivial
      simp[Fits,bD,cZ];omega
  ·unfold query;have:=Z deep ts;cases hx:clause f deep ts with
   |err p e=>trivial
   |ok q A=>
    rw[hx]at this;simp only[];cases hy:more f deep q A with
    |err p e=>trivial
    |ok q3 G=>
     have h2:=hm deep q A q3 G hy;simp only[Fits]at this ⊢;omega
  cases ts with
  |nil=>simp[more]at h
  |cons t r=>
   unfold more at h
   by_cases h1:operator t=0
   ·rw[zG h1]at h;cases h;exact fA _
   rw[zF h1]at h;have:=Z deep r;cases hx:clause f deep r with
   |err p e=>rw[hx]at h;cases h
   |ok q3 G=>
    rw[hx]at h this;have h2:=hm deep _ G O A h;rw[c2p]at h2;simp only[Fits,aX]at this ⊢;omega
theorem b6J s:(parse s).1.size≤2*s.length:=by
 have h0:=(UH s (s.length+1) 0 oM oM).2.1;have h:=(fits (4*s.length+9)).2.1 0 (tokens s);unfold parse;cases hq:query (4*s.length+9) 0 (tokens s)with
 |err p e=>simp[zero,bD,cZ]
 |ok q ts=>
  rw[hq]at h
  change q.size+2+2*ts.length≤2*(toks s (s.length+1) 0).length at h
  cases ts with
  |nil=>simp[zero,bD,cZ]
  |cons t r=>
   simp only[]
   split
   ·simp only[aX]at h;show q.size≤_;omega
   simp[zero,bD,cZ]
end Cq
namespace Cq
end Cq
namespace Cq
theorem c7w{q}(h:form q=true)(Z:q.k≠1):∃a b:Qn,q.Two a b∧2≤q.k∧q.k≤4∧form a=true∧form b=true∧q=two q.k.toNat a b:=by
 obtain⟨_,h2,h4,a,b,A,ha,hb⟩:=(a1T h).resolve_left Z;have hn:¬(q.k<2∨q.k>4∨q.i≠[]∨q.r≠[]∨q.t≠[]∨q.ps.len≠2):=fun O=>by rw[a6B Z O]at h;cases h
 simp only[not_or,Decidable.not_not]at hn;obtain⟨_,_,hi,hr,ht,_⟩:=hn;refine⟨a,b,A,h2,h4,ha,hb,?_⟩;have G:q.ps=a.push (b.push .nil):=A;obtain⟨k,i,r,t,ps⟩:=q;simp only at hi hr ht G h2;subst hi hr ht G;simp only[two,Qn.mk.injEq,and_self,and_true];omega
theorem b9y{t}(h:relation t=true):relations.contains (small t.text)=true:=by
 simp only[relation,fC]at h;exact h.1
theorem PV t:operator t=0∨operator t=2∨operator t=3∨operator t=4:=by
 unfold operator
 split
 ·exact .inl rfl
 split
 ·exact .inr (.inl rfl)
 split
 ·exact .inr (.inr (.inl rfl))
 split
 ·exact .inr (.inr (.inr rfl))
 exact .inl rfl
theorem c1o{t a b}(h:operator t≠0)(G:form a=true)(O:form b=true):form (two (operator t) a b)=true:=by
 have Z:(two (operator t) a b).k≠1:=by
  have:=PV t;simp only[two];omega
 have A:¬((two (operator t) a b).k<2∨(two (operator t) a b).k>4∨(two (operator t) a b).i≠[]∨(two (operator t) a b).r≠[]∨(two (operator t) a b).t≠[]∨(two (operator t) a b).ps.len≠2):=by
  have:=PV t;simp only[two,Qn.push,Qs.len,not_or];refine⟨oM,oM,sI,sI,sI,sI⟩
 rw[a6n Z A (rfl:(two (operator t) a b).Two a b),G,O];rfl
theorem b7V{t a b}(h:operator t≠0):depth (two (operator t) a b)=max (depth b+up b.k) (depth a):=by
 refine a4G ?_ (rfl:(two (operator t) a b).Two a b);have:=PV t;simp only[two];omega
def Good (d:Nat):Res→Prop
 | .ok q _=>form q=true∧depth q+d≤50
 | .err _ e=>e≠0
def c3N (d:Nat):Res→Prop
 | .ok q _=>form q=true∧depth q+up q.k+d≤50
 | .err _ e=>e≠0
theorem b0r{i r t d}(h:indexes.contains i=true)(hr:relations.contains r=true)(hd:d≤50):form ⟨1,i,r,t,.nil⟩=true∧depth ⟨1,i,r,t,.nil⟩+up 1+d≤50:=by
 refine⟨?_,?_⟩
 ·rw[a4d rfl];simp only[h,hr];rfl
 rw[a3i rfl];simp[up];omega
theorem c3S:∀f,(∀deep ts,YK ts→2*ts.length+1≤f→deep≤50→c3N deep (clause f deep ts))∧(∀deep ts,YK ts→2*ts.length+2≤f→deep≤50→Good deep (query f deep ts))∧∀deep q ts,YK ts→2*ts.length+1≤f→form q=true→depth q+deep≤50→Good deep (more f deep q ts)
 |0=>⟨fun _ _ _ h=>oM,fun _ _ _ h=>oM,fun _ _ _ _ h=>oM⟩
 |f+1=>by
  obtain⟨hc,hq,hm⟩:=c3S f;refine⟨fun deep ts hg hf hd=>?_,fun deep ts hg hf hd=>?_,fun deep q ts hg hf Z a0=>?_⟩
  ·obtain⟨t,r,rfl⟩:=hg.ne;simp only[aX]at hf;unfold clause
   by_cases h1:lp t=true
   ·have hr:=hg.cons (a2O h1);rw[zG h1]
    split
    ·exact(dE:(41:Nat)≠0)
    have A:=hq (deep+1) r hr oM oM;have G:=(less f).2.1 (deep+1) r hr;cases hx:query f (deep+1) r with
    |err p e=>rw[hx]at A;exact A
    |ok q O=>
     rw[hx]at A G;obtain⟨t2,r2,rfl⟩:=G.1.ne;simp only[]
     split
     ·have hu:up q.k≤1:=by unfold up;split<;>omega
      exact⟨A.1,by have:=A.2;omega⟩
     exact(dE:(40:Nat)≠0)
   rw[zF h1]
   by_cases h2:isTerm t=true
   ·have hr:=hg.cons (RI h2);rw[zF (by simp[h2])];have bare:c3N deep (.ok ⟨1,[97,110,121],[61],t.text,.nil⟩ r):=b0r dE dE hd;obtain⟨t2,r2,rfl⟩:=hr.ne;cases h3:t.kind == 3 with
    |false=>exact bare
    |true=>
     simp only[]
     by_cases h4:relation t2=true
     ·rw[zG h4];have a1:=hr.cons (a1C h4)
      split
      ·exact(dE:(42:Nat)≠0)
      rename_i h5
      obtain⟨_,_,rfl⟩:=a1.ne;simp only[]
      split
      ·exact b0r (by simpa using h5) (b9y h4) hd
      exact(dE:(40:Nat)≠0)
     rw[zF h4];exact bare
   rw[zG (by simpa using h2)];exact(dE:(40:Nat)≠0)
  ·unfold query;have A:=hc deep ts hg oM hd;have G:=(less f).1 deep ts hg;cases hx:clause f deep ts with
   |err p e=>rw[hx]at A;exact A
   |ok q O=>
    rw[hx]at A G;exact hm deep q O G.1 (by have:=G.2;omega) A.1 (by have:=A.2;omega)
  obtain⟨t,r,rfl⟩:=hg.ne;simp only[aX]at hf;unfold more
  by_cases h1:operator t=0
  ·rw[zG h1];exact⟨Z,a0⟩
  rw[zF h1];have hr:=hg.cons (a5m h1);have A:=hc deep r hr oM oM;have G:=(less f).1 deep r hr;cases hx:clause f deep r with
  |err p e=>rw[hx]at A;exact A
  |ok q2 O=>
   rw[hx]at A G;simp only[];exact hm deep _ O G.1 (by have:=G.2;omega) (c1o h1 Z A.1) (by rw[b7V h1];have:=A.2;omega)
theorem a6a s:((parse s).2.2=0→right (parse s).1=true∧(parse s).2.1=0)∧((parse s).2.2≠0→(parse s).1=zero):=by
 have h0:=UH s (s.length+1) 0 oM oM;have A:YK (tokens s):=h0.1;have O:(tokens s).length≤s.length+1:=h0.2.1;have hg:=(c3S (4*s.length+9)).2.1 0 (tokens s) A oM oM;have G:=(less (4*s.length+9)).2.1 0 (tokens s) A;unfold parse;cases hq:query (4*s.length+9) 0 (tokens s)with
 |err p e=>
  rw[hq]at hg;exact⟨fun h=>absurd h hg,fun _=>rfl⟩
 |ok q ts=>
  rw[hq]at hg G;obtain⟨t,r,rfl⟩:=G.1.ne;simp only[]
  split
  ·refine⟨fun _=>⟨?_,rfl⟩,fun h=>absurd rfl h⟩;unfold right;rw[hg.1];have:=hg.2;simp;omega
  exact⟨fun h=>(by cases h),fun _=>rfl⟩
end Cq
section

end
namespace Cq
theorem b8a l:(small l).length=l.length:=by simp[small]
theorem c1P k a b:(two k a b).wide=a.wide+b.wide:=by
 simp only[two,Qn.wide,Qn.push,Qs.wide,fJ];omega
end Cq
namespace Go.Proofs.YtojdemmgkdokmaaGreatDoor
open _root_.Go.Proofs.Tryz
open Go Go.Sx
abbrev JB (e:RJ):dZ×List gG:=(e.t,e.fs)
theorem a9Z(es:List RJ):(es.map JB).map (fun e=>(e.1,Ix.vals e.2))=es.map OJ:=by rw[gI];rfl
def TP (I:Heap) (lb:Nat) (b:Bk.Lb):Prop:=∃ib mb l c,I lb=some (yY 89 [ptr ib 0,.map (some mb)])∧UW I ib b.L∧fZ b.L∧MS l c∧(∀t,(BK l t).getD (str [])=str (b.key t))∧I mb=some (BD BI l c)
theorem TP.mono{I G O b}(h:TP I O b)(A:Le I G):TP G O b:=let ⟨Z,mb,l,c,h1,h2,h3,h4,h5,h6⟩:=h;⟨Z,mb,l,c,A _ _ h1,h2.mono A,h3,h4,h5,A _ _ h6⟩
def a6w (I:Heap) (v:Value) (o:Option Bk.Lb):Prop:=(v= .pointer none∧o=none)∨∃lb b,v=ptr lb 0∧o=some b∧TP I lb b
theorem a6w.mono{I A v o}(h:a6w I v o)(G:Le I A):a6w A v o:=h.imp id fun⟨O,b,h1,h2,h3⟩=>⟨O,b,h1,h2,h3.mono G⟩
structure TLg where
  i:Nat
  J:Heap
  l:ML Ix.Rec
  c:Nat
theorem c4X{fs}(h:ZB fs):∀v∈Ix.vals fs,v.text.length≤4000000:=fun v A=>by
 unfold Ix.vals at A;obtain⟨f,hf,A⟩:=List.mem_flatMap.1 A;obtain⟨_,_,_⟩:=h.2 f hf;unfold Ix.b1f at A;rcases fK.1 A with g|g
 ·obtain⟨s,hs,rfl⟩:=dY.1 g;have:=a3U hs;dsimp only;omega
 split at g
 ·rw[eH]at g;subst g;have:=a1H f [];rw[a2g]at this;dsimp only;omega
 cases g
theorem c3u{fs}(h:FOK fs):(bM fs).length≤4300000000000:=by
 have h1:=Ix.b2Z (Ke.raw fs) [];have h2:=a6U (l:=fs) fun f hf=>(h.2 f hf).1;have h3:(Ke.raw fs).length≤(OV fs).length+1:=by
  unfold Ke.raw Ke.a0x;rw[aB]
  split<;>simp[OV]
 have A:=h.1;unfold bM;rw[fJ]at h1;omega
theorem c6S{es:List RJ}(h:∀e∈es,ZB e.fs):fZ (dV (es.map OJ) []):=fun x A v G=>by
 rcases Bk.a9C _ _ _ A with g|g
 ·obtain⟨e,O,rfl⟩:=dY.1 g;exact c4X (h e O) v G
 cases g
theorem b8q fs v rk rl (a0:FOK fs) I (hr:QW I fs v):yT aT 24 [a8V rk rl v] I [] (fun e _ H'=>e= .returned (str (Bk.keyOf fs))∧H'=[]):=by
 have a7:=c3u a0;refine yT.ob func24 ?_;intro w0 _;refine Cj.sr (aP rfl (BL ?_));intro _ _;refine aA yQ ?_;refine J.yV (aA (zX a0n MG (yR.at 0 rfl)) ?_);refine aP rfl (yS (H1:=[]) rfl rfl rfl rfl rfl (c6D fs v rk rl a0 _ hr) ?_ (fun _ _ _ _ ⟨_,h,_⟩=>by cases h) (fun _ _ ⟨_,h,_⟩=>by cases h));intro _ _ _ a2 a5;have hr:=hr.mono a2;obtain⟨_,h,hw,rfl⟩:=a5;cases h;obtain⟨wp,_,rfl⟩:=OY hw;refine aA yQ ?_;refine J.AO (aI (aA yP ?_));refine aA (AU AP) ?_;refine aA BO ?_;refine aA yP ?_;refine eU 9 rfl (fun A=>?_) (fun A=>?_)
 ·have a3:=CS A;have a4:(bM fs)=[]:=List.length_eq_zero_iff.1 (by have h:=CS A;omega);refine zO 3 9 10 false A ?_;refine zO 3 9 11 false A ?_;refine zO 3 9 12 false A ?_;refine zO 3 9 13 false A ?_;refine zO 3 9 14 false A ?_;refine zO 3 9 15 false A ?_;refine zO 3 9 16 false A ?_;refine zO 3 9 17 false A ?_;refine aA (DY A) ?_;refine J.c1 (fun _=>?_);refine Cj.sr (aA yQ ?_);refine J.ns (Cj.rs (aW ?_));refine zN ?_;rw[Bk.b5X a4];exact rT
 have a3:=CX A;have O:(bM fs)≠[]:=fun e=>CX A (by rw[e];rfl);obtain⟨wb,_,_,a6,a1⟩:=hw.some O;cases a6;obtain⟨z,hz⟩:∃z,(bM fs)[(bM fs).length-1]?=some z:=⟨_,DX (by have:=dX.2 O;omega)⟩;have a8:=dX.2 O;have G:(bM fs).getLast?=some z:=by rw[List.getLast?_eq_getElem?];exact hz
 refine zU 3 9 false A (zK yP ?_);refine zU 3 9 false A (zK yP ?_);refine zU 3 9 false A (zK (AU AP) ?_);refine J.QD 3 9 false _ rfl rfl rfl A (IE (IC rfl rfl rfl (AA oM)) rfl rfl ?_);refine fF 13 rfl (show _=i64 (((bM fs).length-1:Nat):Int) from(zD i64 oM)) ?_;refine J.QD 3 9 false _ rfl rfl rfl A (IE (BG (off':=((bM fs).length-1)) AP zL) rfl rfl ?_);refine zU 3 9 false A (zK (EN BX (bK a1) (JO hz)) ?_);refine J.QD 3 9 false _ rfl rfl rfl A (yU rfl rfl rfl rfl rfl (a1D z [116,105,116,108,101,32] dE _) ?_);refine zU 3 9 false A (zK (ER rfl rfl) ?_);refine aA (DV A) ?_;refine J.cd (fun Z=>?_) (fun Z=>?_)
 ·refine Cj.sr (aA yQ ?_);refine J.ns (Cj.rs (aW ?_));refine zN ?_;rw[Bk.a8p G,zF (fun g=>by have h:=Z;unfold Bk.a7N at g;first|(rw[Bool.not_eq_true']at h;rw[h]at g;cases g)|(rw[h]at g;cases g))];exact rT
 refine Cj.ks (Cj.sr (aA yP ?_));refine aA yP ?_;refine aA (AU AP) ?_;refine aA (IC rfl rfl rfl (AA oM)) ?_;refine fF 22 rfl (show _=i64 (((bM fs).length-1:Nat):Int) from(zD i64 oM)) ?_;refine aA (BG (off':=((bM fs).length-1)) AP zL) ?_;refine aA (EN BX (bK a1) (JO hz)) ?_;refine aA yQ ?_;refine J.ns (bH (aW ?_));refine zN ?_;rw[Bk.a8p G,zG (by have h:=Z;unfold Bk.a7N;simpa using h)];exact rT
theorem c2S{es:List RJ}{i A}(G:es[i]?=some A){m c}(h:∀t,BK m t=(Bk.a2k ((es.take i).map JB) t).map str) t:BK (BU m A.t (str (Bk.keyOf A.fs)) c) t=(Bk.a2k ((es.take (i+1)).map JB) t).map str:=by
 rw[NT,NY JB G,Bk.c0h,h t]
 by_cases ht:t=A.t
 ·subst ht;rw[zG sI,zG rfl];rfl
 rw[zF (by simpa using ht),zF (Ne.symm ht)]
theorem UJ es v (aj:es.length≤1000)(a8:∀e∈es,ZB e.fs) I (A:OM I es v):yT aT 9 [v] I [] (fun e I' H'=>∃lb,e= .returned (ptr lb 0)∧TP I' lb (Bk.PN (es.map JB))∧H'=[]):=by
 obtain⟨p,c0,rfl,_,-⟩:=id A.1;refine yT.ob func9 ?_;intro w0 _;refine Cj.sr (aA yQ ?_);refine J.yV (aA yP ?_);refine aP rfl (FU rfl rfl rfl rfl rfl (b1V es _ aj a8 _ A) ?_ (fun _ _ _ _ ⟨_,_,h,_⟩=>by cases h) (fun _ _ ⟨_,_,h,_⟩=>by cases h));intro _ _ _ af ak al;have A:=A.mono af;obtain⟨ib,o,h,ac,rfl⟩:=al;cases h;refine J.persists (ixH ib o) ak (fun Ip a9 hK=>?_);have A:=A.mono a9;have Z:UW Ip ib (dV (es.map OJ) []):=⟨o,ac.mono a9,hK⟩;clear ac hK;refine aP rfl (CB rfl rfl rfl ?_);intro b7 am;refine aA (zV (pl:= #[(0,1),(1,1)]) rfl rfl zeroValue89 rfl underlying89 (fun w=>by simp[sizeOf73,sizeOf87]) (bW rfl rfl rfl (aN bT) (bW rfl rfl rfl (dR (aN bT)) fU))) ?_;refine aP rfl (BL ?_);intro b8 an;refine aA yQ ?_;refine J.AO (aI (aA yP ?_));refine aA (AU WZ) ?_;refine aA yP ?_;refine J.ns (aZ (eX (ι:=TLg) (fun y=>y.i≤es.length∧OM y.J es (.slice p es.length c0)∧UW y.J ib (dV (es.map OJ) [])∧MS y.l y.c∧(∀t,BK y.l t=(Bk.a2k ((es.take y.i).map JB) t).map str)) (fun y=>es.length-y.i) (fun y=>[(3,ptr b8 0),(11,.slice p es.length c0),(12,i64 (es.length:Int)),(13,i64 (y.i:Int))]) (fun y=>y.J) (fun y=>[(b8,yY 89 [ptr ib 0,.map (some b7)]),(b7,BD BI y.l y.c)]) ⟨0,_,[],0⟩ ⟨bG _,A,Z,MS.nil,fun _=>rfl⟩ rT rfl rfl ?_));rintro⟨i,_,m,c⟩ ⟨hi,A,Z,aa,a4⟩;dsimp only at hi A Z aa a4 ⊢;refine Cj.sr (aA BM ?_);refine J.nss (bC rfl (fun ab=>?_) (fun ab=>?_))
 ·have ag:=BH ab;have ad:i<es.length:=oM;obtain⟨e0,a2⟩:∃e,es[i]?=some e:=⟨_,DX ad⟩;have ae:=FB a2;obtain⟨⟨p1,c1,ao,_,hp⟩,a5⟩:=id A;cases ao;obtain⟨_,eo,_,_,_,_,rfl,a6,ap⟩:=hp (AX ad);have a0:=a5 e0 ae;clear a5;obtain⟨_,_,aq,-,-⟩:=id a0.1;refine Cj.ks (bQ (aZ (Cj.sr (aA (BG (off':=eo+i*5) WZ OQ) ?_))));refine aA (FH isAgg57 OQ (bK a6) (EJ XE ap a2)) ?_;refine aP rfl (BP a1r ?_);intro _ _;refine aP rfl (EM 0 rfl rfl rfl rfl rfl (a8T aq) OQ rfl rfl (aN (aN (aN (aN (aN bT))))) eF ?_);refine J.ns (bZ [0,1] [] 10 kR ?_);have ar:=a6;refine bI ⟨(aF 0 rfl (aF 1 rfl aJ)),aK,(aG _)⟩ (fun G=>?_);refine aC 0 rfl G yP ?_;refine aC 1 rfl G zW ?_;refine aC 2 rfl G (qq2 (off':=1) underlying89 sizeOf87) ?_;refine aC 3 rfl G (yX isAgg87 (bJ 1 rfl)) ?_;refine aC 4 rfl G (qq2 (off':=0) QX AY) ?_;refine aC 5 rfl G (zX EI AY (bJ 0 rfl)) ?_;refine aC 6 rfl G (qq2 (off':=2) QX MG) ?_;refine aC 7 rfl G (zX a0n MG (bJ 0 rfl)) ?_;refine zT 8 rfl (yS (H1:=[]) rfl rfl rfl rfl rfl (b8q e0.fs e0.v e0.k e0.l (a8 e0 ae).fok _ a0) ?_ (fun _ _ _ _ ⟨h,_⟩=>by cases h) (fun _ _ ⟨h,_⟩=>by cases h));intro _ _ _ O ah;have A:=A.mono O;have Z:=Z.mono O;have a6:=O _ _ a6;have a0:=a0.mono O;obtain⟨h,rfl⟩:=ah;cases h;refine⟨⟨(aQ (aG _) O),(aF 0 rfl (aF 1 rfl aJ)),aK⟩,?_⟩;refine zT 9 rfl (FZ (kv:=BI) (a:=e0.t) 2 (.inr rfl) rfl rfl rfl rfl rfl underlying87 GR rfl (AV.s (AV.s eF)) ?_);refine⟨⟨(aQ (aG _) O),(aF 0 rfl (aF 1 rfl aJ)),aK⟩,?_⟩;refine AL ?_;refine eG (dB (aI (aA (yZ rfl rfl rfl (AA oM)) ?_)));refine aA yP ?_;refine J.nil (bY (bU (fO (fO fP))) ?_);refine dL ⟨i+1,_,_,_⟩ ⟨dO,A,Z,aa.set e0.t _,fun t=>by dsimp only;exact c2S a2 a4 t⟩ dO rT rfl rfl
 have ag:=BN ab;refine Cj.xl (Cj.sr (aA yP ?_));refine aA yQ ?_;refine J.ns (bH ?_);rw[bF (oM:es.length≤i)]at a4;refine Ej.pull (Pull.s Pull.z) ?_;refine dS am (fun _ a7 a3=>?_);have A:=A.mono a7;have Z:=Z.mono a7;refine dS an (fun _ a1 ai=>?_);have A:=A.mono a1;have Z:=Z.mono a1;have a3:=a1 _ _ a3;refine zN ?_;exact⟨_,rfl,⟨ib,_,m,c,ai,by rw[show(Bk.PN (es.map JB)).L=dV (es.map OJ) [] from by unfold Bk.PN;rw[a9Z]];exact Z,by rw[show(Bk.PN (es.map JB)).L=dV (es.map OJ) [] from by unfold Bk.PN;rw[a9Z]];exact c6S a8,aa,fun t=>by rw[a4 t];show _=str ((Bk.a2k (es.map JB) t).getD []);cases Bk.a2k (es.map JB) t<;>rfl,a3⟩,rfl⟩
structure TF9 where
  i:Nat
  J:Heap
  fs:List Fv
  g:Gs
theorem b6M{b}{r:List dZ}{i x}(h:r[i]?=some x) k:Bk.found b (r.take (i+1)) k=Bk.found b (r.take i) k++[⟨x,b.key x,[(k:Int)]⟩]:=by
 unfold Bk.found;rw[NY (fun t=>(⟨t,b.key t,[(k:Int)]⟩:Bk.Fd)) h]
theorem b2B fs z:(fs++[z]).flatMap FK=fs.flatMap FK++FK z:=sI
theorem b6V lb b q p c (k:Nat)(av:q.size≤1000000000)(aw:q.wide≤10000000)(hR:dU q=true) I (a3:PS I q.ps p)(hl:TP I lb b)(hT:MW I):yT aT 59 [ptr lb 0,.agg (EX q p c).toArray,i64 (k:Int)] I []
 (fun e I' H'=>∃(x:Rw Fv) (r:List dZ),e= .returned (.tuple #[x.v,i64 0])∧dK b.L q r∧x.l.map Fv.f=Bk.found b r k∧a0m I' x∧H'=[]):=by
 obtain⟨ib,mb,l,c9,G,hx,ax,_,am,O⟩:=hl;have b8:=hx.big;refine yT.ob func59 ?_;intro w0 _;refine Cj.sr (aP rfl (BL ?_));intro _ ay;refine aA yQ ?_;refine aA yQ ?_;refine J.AO (aI (aA yP ?_));refine aA (RD underlying28) ?_;refine J.c0 (fun _=>?_);refine Cj.ks (bQ (Cj.persist ay (fun _ a4 a5=>?_)));have G:=a4 _ _ G;have O:=a4 _ _ O;have hx:=hx.mono a4;have a3:=a3.mono a4;have hT:=hT.mono a4;refine bZ [] [] 11 kR ?_;have ai:=G;have b7:=O;have ab:=a5;refine bI BQ (fun a8=>?_);refine aC 0 rfl a8 yP ?_;refine aC 1 rfl a8 zW ?_;refine aC 2 rfl a8 (qq2 (off':=0) underlying89 sizeOf73) ?_;refine aC 3 rfl a8 (yX KQ (dJ ai)) ?_;refine aC 4 rfl a8 (zX CP zZ (dJ ab)) ?_;refine zT 5 rfl (FU rfl rfl rfl rfl rfl (b7Z (ptr ib 0) b.L q p c av aw hR ax _ a3 (.inr ⟨ib,rfl,hx⟩) hT) ?_ (fun _ _ _ _ ⟨_,_,h,_⟩=>by cases h) (fun _ _ ⟨_,_,h,_⟩=>by cases h));intro _ I8 _ Z az an;have G:=Z _ _ G;have O:=Z _ _ O;have hx:=hx.mono Z;have a3:=a3.mono Z;have hT:=hT.mono Z;have a5:=Z _ _ a5;obtain⟨_,r,h,ac,ho⟩:=an;cases h;have b0:=az;refine⟨⟨(aQ (aG _) Z),aJ,aK⟩,?_⟩;refine JA.a5B ho b0 (fun _ a2 a1=>?_);have G:=a2 _ _ G;have O:=a2 _ _ O;have hx:=hx.mono a2;have a3:=a3.mono a2;have hT:=hT.mono a2;have a5:=a2 _ _ a5;replace a1:=a1.row;obtain⟨pr,cr,rfl⟩:=rowLen a1;refine bI ⟨aJ,aK,(aQ (aQ (aG _) Z) a2)⟩ (fun a6=>?_);refine aC 6 rfl a6 yP ?_;refine aC 7 rfl a6 AQ ?_;refine aC 8 rfl a6 AQ ?_;refine aC 9 rfl a6 yQ ?_;refine aC 10 rfl a6 yQ ?_;refine AL ?_;refine dB (bQ (Cj.sr (aA yP ?_)));refine aA EY ?_;refine J.ns (bC rfl (fun ad=>aH (bV (cO (by first|rfl|decide)) ad)) (fun ad=>?_));refine Cj.ks (Cj.sr (aA yQ ?_));refine J.AO (aI (aA yP ?_));refine aA (AU OU) ?_;refine aA yP ?_;refine J.ns (aZ (eX (ι:=TF9) (fun y=>y.i≤r.length∧zY recC y.J r (.slice pr r.length cr)∧y.J lb=some (yY 89 [ptr ib 0,.map (some mb)])∧y.J mb=some (BD BI l c9)∧y.fs.map Fv.f=Bk.found b (r.take y.i) k∧(∀z∈y.fs,ZK y.J z)∧CU w0.heap.size 4 y.fs.length (y.fs.flatMap FK) y.g) (fun y=>r.length-y.i) (fun y=>[(0,ptr lb 0),(2,i64 (k:Int)),(10,gV y.fs.length y.g),(27,.slice pr r.length cr),(28,i64 (r.length:Int)),(29,i64 (y.i:Int))]) (fun y=>y.J) (fun y=>gH 41 (y.fs.flatMap FK) y.g) ⟨0,_,[],none⟩ ⟨bG _,a1,G,O,rfl,fun _ h=>(by cases h),rfl,rfl⟩ rT rfl rfl ?_));rintro⟨i,_,fs,g⟩ ⟨hi,a1,G,O,a9,a7,hg⟩;dsimp only at hi a1 G O a9 a7 hg ⊢;refine Cj.sr (aA BM ?_);refine J.nss (bC rfl (fun aa=>?_) (fun aa=>?_))
 ·have aj:=BH aa;have al:i<r.length:=oM;obtain⟨x,ae⟩:∃x,r[i]?=some x:=⟨_,DX al⟩;obtain⟨p1,c1,b1,_,b2⟩:=id a1;cases b1;obtain⟨_,ro,_,_,_,_,rfl,af,b3⟩:=b2 (AX al);have b9:fs.length=i:=by have h:=zD List.length a9;unfold Bk.found at h;rw[aV,aV,fD]at h;omega
  have ba:=ac.len;refine Cj.ks (bQ (aZ (Cj.sr (aA (BG (off':=ro+i*2) OU AY) ?_))));refine aA (FH EI AY (bK af) (EJ GX b3 ae)) ?_;refine aP rfl (BP QZ ?_);intro _ _;refine aP rfl (zS 0 AY (aN (aN bT)) eF ?_);refine J.ns (bZ [0] [] 14 kR ?_);refine bI ⟨(aF 0 rfl aJ),aK,(aG _)⟩ (fun a0=>?_);refine aC 0 rfl a0 yP ?_;refine aC 1 rfl a0 (zX EI AY (bJ 0 rfl)) ?_;refine aC 2 rfl a0 yP ?_;refine aC 3 rfl a0 zW ?_;refine aC 4 rfl a0 (qq2 (off':=1) underlying89 sizeOf87) ?_;refine aC 5 rfl a0 (yX isAgg87 (dJ G)) ?_;refine aC 6 rfl a0 (zX EI AY (bJ 0 rfl)) ?_;refine aC 7 rfl a0 (CO (kv:=BI) (l:=l) (a:=x) rfl rfl rfl rfl underlying87 GR JG (dJ O)) ?_;refine JA.eqv 40 rfl (show _=str (b.key x) from am x) ?_;refine aC 8 rfl a0 yP ?_;refine zT 9 rfl (AZ JW AB RQ (aY rfl dA) ?_);intro b4 ao;refine⟨⟨(aG _),(aF 1 rfl aJ),aK⟩,?_⟩;refine JA.persist ao (fun _ A ak=>?_);have a1:=a1.mono A;have G:=A _ _ G;have O:=A _ _ O;have a7:=fun x9 ag=>(a7 x9 ag).mono A;have af:=A _ _ af;refine bI ⟨(aF 0 rfl aJ),aK,(aQ (aG _) A)⟩ (fun ap=>?_);refine aC 10 rfl ap (zV (pl:= #[(0,2),(2,1),(3,1)]) rfl rfl NQ rfl GI (fun w=>by simp[AY,IG,zL]) (bW rfl rfl rfl (aN (aN bT)) (bW rfl rfl rfl (dR (dR (aN bT))) (bW rfl rfl rfl (dR (dR (dR (aN bT)))) fU)))) ?_;refine zT 11 rfl (AZ EW EL NQ (gB rfl dA) ?_);intro _ _;refine⟨⟨(aQ (aG _) A),(aF 1 rfl aJ),aK⟩,?_⟩;refine zT 12 rfl (BJ (by':=55) [_,_] rfl rfl rfl rfl rfl EW (.inr ⟨_,EW⟩) kR EL NQ rfl hg rfl (fV (yR.at 0 rfl) rfl rfl rfl) oM ?_);intro b5 aq;refine⟨⟨(aQ (aG _) A),(aF 1 rfl aJ),aK⟩,?_⟩;refine bI ⟨(aF 1 rfl aJ),aK,(aQ (aG _) A)⟩ (fun ar=>?_);refine aC 13 rfl ar yQ ?_;refine AL ?_;refine eG (dB (aI (aA (yZ rfl rfl rfl (AA oM)) ?_)));refine aA yP ?_;refine J.nil (bY (bU (bU fQ)) ?_);refine dL ⟨i+1,_,fs++[⟨⟨x,b.key x,[(k:Int)]⟩,some ⟨b4,0,none⟩,1⟩],b5⟩ ⟨dO,a1,G,O,by dsimp only;rw[b6M ae,dN,a9];rfl,fun z hz=>(fK.1 hz).elim (a7 z) fun hz=>by rw[eH.1 hz];exact⟨zY.of (l:=[(k:Int)]) (sp:=[]) (fA _) ak,rfl⟩,by dsimp only;rw[b2B,aB];exact aq⟩ dO ⟨rfl,rfl,by rw[aB];rfl,rfl,rfl,rfl,trivial⟩ rfl (by dsimp only;rw[b2B];rfl)
 have aj:=BN aa;refine Cj.xl (Cj.sr (aA yP ?_));refine aA yQ ?_;refine aA yQ ?_;refine J.ns (bH (bY fQ ?_));rw[bF (oM:r.length≤i)]at a9;refine Ej.perm (H':=gH 41 (fs.flatMap FK) g++[]) (.of_eq (fH _)) ?_;refine Ej.keepR EO dE hg rfl (fun I8 au ah=>?_);have a7:=fun x9 ag=>(a7 x9 ag).mono au;obtain⟨pw,cw,b6⟩:=rowLen ah;refine fM rfl rfl rfl rfl ?_;rw[b6]at ah ⊢;exact⟨⟨fs,pw,cw⟩,r,rfl,ac,a9,⟨ah,a7⟩,rfl⟩
theorem c3w q p c k I:Pure aT 59 [.pointer none,.agg (EX q p c).toArray,i64 k] I (.tuple #[.slice none 0 0,i64 32]):=by
 refine fE ?_;refine yT.ob func59 ?_;intro w0 _;refine Cj.sr (aP rfl (BL ?_));intro _ _;refine aA yQ ?_;refine aA yQ ?_;refine J.AO (aI (aA yP ?_));refine aA (RD underlying28) ?_;refine J.c1 (fun _=>?_);refine Cj.sr (aA yQ ?_);refine aA yQ ?_;refine J.ns (Cj.rs (bY (bU fP) ?_));refine fM rfl rfl rfl rfl ?_;exact rT
theorem find_ok v o s (h0:(aO s).2.2=0) p c (k:Nat)(O:(aO s).1.size≤1000000000)(Z:(aO s).1.wide≤10000000) I (a0:PS I (aO s).1.ps p)(A:a6w I v o)(hT:MW I):yT aT 59 [v,.agg (EX (aO s).1 p c).toArray,i64 (k:Int)] I []
 (fun e G H'=>∃(x:Rw Fv) (er:Int),e= .returned (.tuple #[x.v,i64 er])∧Bk.ans (aO s) o k (x.l.map Fv.f) er∧a0m G x∧H'=[]):=by
 rcases A with⟨rfl,rfl⟩|⟨lb,b,rfl,rfl,A⟩
 ·exact(c3w _ p c k I).mono fun e G H' _ ⟨h1,h2,h3⟩=>⟨⟨[],none,0⟩,32,h1,by unfold Bk.ans;rw[zF oM];exact rT,⟨zY.nil,fun _ h=>by cases h⟩,h3⟩
 exact(b6V lb b _ p c k O Z ((Cq.a6a s).1 h0).1 I a0 A hT).mono fun e G H' _ ⟨x,r,h1,h2,h3,h4,h5⟩=>⟨x,0,h1,by unfold Bk.ans;rw[zF oM];exact⟨rfl,r,h2,h3⟩,h4,h5⟩
abbrev lvC (x:Value×Option Bk.Lb):List Value:=[x.1]
theorem a8Z x:(lvC x).length=1:=rfl
def MF (I:Heap) (xs:List (Value×Option Bk.Lb)) (v:Value):Prop:=zY lvC I xs v∧∀x∈xs,a6w I x.1 x.2
theorem MF.mono{I G xs v}(h:MF I xs v)(A:Le I G):MF G xs v:=⟨h.1.mono A,fun x O=>(h.2 x O).mono A⟩
theorem c4a{cs sp:List Value}{o}{l:List (Value×Option Bk.Lb)}(h:cs.drop o=l.flatMap lvC++sp){k x}(G:l[k]?=some x):cs[o+k]?=some x.1:=by
 have A:=GU (f:=lvC) (n:=1) a8Z h G 0 Nat.zero_lt_one;rw[Nat.mul_one,Nat.add_zero]at A;exact A
abbrev FE:=Rw Fv×Int
def nxA (p:Cq.Qn×Nat×Nat) (os:List (Option Bk.Lb)):Heap→List FE→List Value→List FE→Prop:=fun I s args s'=>∃(o:Option Bk.Lb) (x:Rw Fv) (e:Int),os[s.length]?=some o∧args=[x.v,i64 e]∧a0m I x∧Bk.ans p o s.length (x.l.map Fv.f) e∧s'=s++[(x,e)]
theorem c4c{p os}:∀I s args A,nxA p os I s args A→args.length=2:=fun _ _ _ _ ⟨_,_,_,_,h,_⟩=>by rw[h];rfl
structure TA9 where
  s:List FE
  J:Heap
  H:HL
theorem b4y qb ak s (hs:s.length≤1000000000)(al:(aO s).1.size≤1000000000∧(aO s).1.wide≤10000000) xs vl (ay:xs.length≤1000000) I (ac:I qb=some (yY 9 [str s]))(a8:I ak=some (yY 34 [vl]))(G:MF I xs vl)(hT:MW I)(ht:Tabs I):
 a2n aT 57 [] [ptr qb 0,ptr ak 0] I ([]:List FE) (nxA (aO s) (xs.map Prod.snd)) (fun s9=>s9.length=(xs.map Prod.snd).length):=by
 obtain⟨pl,cl,rfl,_,-⟩:=id G.1;refine⟨Enters.of func57 dE rfl,fun ly Y Z ab am H ad=>?_⟩;refine yT.ob func57 ?_;intro w0 _;refine Cj.sr (aA (yX BX (bK ac)) ?_);refine aP rfl (yS (H1:=[]) rfl rfl rfl rfl rfl (b9P s hs _ ht) ?_ (fun _ _ _ _ h=>by obtain⟨⟨_,h,_⟩,_⟩:=h;cases h) (fun _ _ h=>by obtain⟨⟨_,h,_⟩,_⟩:=h;cases h));intro _ _ H3 a1 au;have ac:=a1 _ _ ac;have a8:=a1 _ _ a8;have G:=G.mono a1;have hT:=hT.mono a1;have ht:=ht.mono a1;obtain⟨⟨v9,h,pq,cq,rfl,O⟩,rfl⟩:=au;cases h;have ad:=ab _ _ _ _ a1 ad;refine aA yP ?_;refine aA AQ ?_;refine aA AQ ?_;refine aA AQ ?_;refine aP rfl (BP FQ ?_);intro b6 _;refine aP rfl (zS 0 zZ (aN (aN (aN (aN (aN bT))))) eF ?_);refine aA yQ ?_;refine aA yQ ?_;refine J.yV (aA (yX isAgg34 (bK a8)) ?_);refine aA (AU a0I) ?_;refine aA yP ?_;refine J.ns (aZ (eX (ι:=TA9) (fun y=>y.s.length≤xs.length∧PS y.J (aO s).1.ps pq∧MF y.J xs (.slice pl xs.length cl)∧MW y.J∧Y y.s y.J y.H) (fun y=>xs.length-y.s.length) (fun y=>[(0,.func (.yield ly) #[] #[]),(4,ptr b6 0),(6,i64 ((aO s).2.2:Int)),(17,.slice pl xs.length cl),(18,i64 (xs.length:Int)),(19,i64 (y.s.length:Int))]) (fun y=>y.J) (fun y=>(b6,yY 66 (EX (aO s).1 pq cq))::y.H) ⟨[],_,H⟩ ⟨bG _,O,G,hT,ad⟩ rT rfl rfl ?_));rintro⟨S,_,HY⟩ ⟨hi,O,G,hT,hY⟩;dsimp only at hi O G hT hY ⊢;obtain⟨i,a4⟩:∃i,i=S.length:=⟨_,rfl⟩;rw[←a4]at hi ⊢;refine Cj.sr (aA BM ?_);refine J.nss (bC rfl (fun ae=>?_) (fun ae=>?_))
 ·have ao:=BH ae;have an:i<xs.length:=oM;obtain⟨x,a5⟩:∃x,xs[i]?=some x:=⟨_,DX an⟩;have a2:=G.2 x (FB a5);obtain⟨p1,c1,av,_,aw⟩:=id G.1;cases av;obtain⟨_,fo,_,_,_,_,rfl,a3,ax⟩:=aw (AX an);refine Cj.ks (bQ (aZ (Cj.sr (aA yP ?_))));refine aA (BG (off':=fo+i) a0I a1G) ?_;refine aA (EN isAgg28 (bK a3) (c4a ax a5)) ?_;refine aA yQ ?_;refine aA yQ ?_;refine J.yV (aA yQ ?_);refine J.yV (aA yP ?_);refine aA yQ ?_;refine J.AO (aI (aA yP ?_));refine aA BO ?_;refine J.cd (fun a6=>?_) (fun a6=>?_)
  ·have ap:=CS a6;have af:(aO s).2.2=0:=by have h:=CS a6;omega
   refine aI (aA yP ?_);refine aA (zX CP zZ (yR.at 0 rfl)) ?_;refine aA yP ?_;refine aP rfl (yS (H1:=[]) rfl rfl rfl rfl rfl (find_ok x.1 x.2 s af pq cq i al.1 al.2 _ O a2 hT) ?_ (fun _ _ _ _ ⟨_,_,h,_⟩=>by cases h) (fun _ _ ⟨_,_,h,_⟩=>by cases h));intro v9 _ _ a0 aq;have O:=O.mono a0;have G:=G.mono a0;have hT:=hT.mono a0;have a3:=a0 _ _ a3;have a2:=a2.mono a0;obtain⟨x9,e9,h,ar,ag,rfl⟩:=aq;cases h;have hY:=ab _ _ _ _ a0 hY;refine aA yP ?_;refine aA AQ ?_;refine aA AQ ?_;refine aA yQ ?_;refine aA yQ ?_;refine J.yV (aA yP ?_);refine aA yP ?_;refine aA yP ?_;refine J.yield [_] rfl rfl rfl rfl rfl rfl (am S [_,_] (S++[(x9,e9)]) _ HY ⟨x.2,x9,e9,by rw[←a4,eY,a5];rfl,rfl,ag,by rw[←a4];exact ar,rfl⟩ hY) ?_ (fun _ _ _ h=>by rcases h with⟨h,_⟩|⟨h,_⟩<;>cases h) (fun _ _ h=>by rcases h with⟨h,_⟩|⟨h,_⟩<;>cases h);intro v3 I3 H3 A ah;have O:=O.mono A;have G:=G.mono A;have hT:=hT.mono A;have a3:=A _ _ a3;have a2:=a2.mono A;have ag:=ag.mono A;obtain⟨t3,h3,a7⟩:∃t:Bool,v3= .bool t∧((t=true∧Y (S++[(x9,e9)]) I3 H3)∨(t=false∧Z I3 H3)):=by
    rcases ah with⟨h,h2⟩|⟨h,h2⟩
    ·cases h;exact⟨true,rfl,.inl ⟨rfl,h2⟩⟩
    cases h;exact⟨false,rfl,.inr ⟨rfl,h2⟩⟩
   subst h3;refine aA (ER rfl rfl) ?_;refine J.cd (fun a9=>?_) (fun a9=>?_)
   ·have ai:Z I3 H3:=by
     rcases a7 with⟨rfl,_⟩|⟨_,h⟩
     ·exact aH a9
     exact h
    refine bH (eP (dM (Ej.OX (eP (bY (H':=H3) (dD _ (dF _)) ?_)))));exact Ej.b2J rfl rfl ⟨rfl,.inr ai⟩
   have aj:Y (S++[(x9,e9)]) I3 H3:=by
    rcases a7 with⟨_,h⟩|⟨rfl,_⟩
    ·exact h
    exact aH a9
   refine Cj.kb (aI (aA (yZ rfl rfl rfl (AA oM)) ?_));refine aA yP ?_;refine J.nil (dL ⟨S++[(x9,e9)],_,H3⟩ ⟨by dsimp only;rw[aB,aU];omega,O,G,hT,aj⟩ (by dsimp only;rw[aB,aU];omega) ⟨rfl,rfl,rfl,rfl,rfl,by rw[aB,aU,←a4];rfl,trivial⟩ rfl rfl)
  have ap:=CX a6;have af:(aO s).2.2≠0:=fun e=>CX a6 (by rw[e];rfl);refine Cj.ks (Cj.sr (aA yP ?_));refine aA yP ?_;refine aA yP ?_;refine J.yield [_] rfl rfl rfl rfl rfl rfl (am S [_,_] (S++[((⟨[],none,0⟩:Rw Fv),((aO s).2.2:Int))]) _ HY ⟨x.2,(⟨[],none,0⟩:Rw Fv),((aO s).2.2:Int),by rw[←a4,eY,a5];rfl,rfl,⟨zY.nil,fun _ h=>by cases h⟩,by unfold Bk.ans;rw[zG af];exact rT,rfl⟩ hY) ?_ (fun _ _ _ h=>by rcases h with⟨h,_⟩|⟨h,_⟩<;>cases h) (fun _ _ h=>by rcases h with⟨h,_⟩|⟨h,_⟩<;>cases h);intro v3 I3 H3 A ah;have O:=O.mono A;have G:=G.mono A;have hT:=hT.mono A;have a3:=A _ _ a3;have a2:=a2.mono A;obtain⟨t3,h3,a7⟩:∃t:Bool,v3= .bool t∧((t=true∧Y (S++[((⟨[],none,0⟩:Rw Fv),((aO s).2.2:Int))]) I3 H3)∨(t=false∧Z I3 H3)):=by
   rcases ah with⟨h,h2⟩|⟨h,h2⟩
   ·cases h;exact⟨true,rfl,.inl ⟨rfl,h2⟩⟩
   cases h;exact⟨false,rfl,.inr ⟨rfl,h2⟩⟩
  subst h3;refine aA (ER rfl rfl) ?_;refine J.cd (fun aa=>?_) (fun aa=>?_)
  ·have ai:Z I3 H3:=by
    rcases a7 with⟨rfl,_⟩|⟨_,h⟩
    ·exact aH aa
    exact h
   refine bH (eP (dM (Ej.OX (eP (bY (H':=H3) (dD _ (dF _)) ?_)))));exact Ej.b2J rfl rfl ⟨rfl,.inr ai⟩
  have aj:Y (S++[((⟨[],none,0⟩:Rw Fv),((aO s).2.2:Int))]) I3 H3:=by
   rcases a7 with⟨_,h⟩|⟨rfl,_⟩
   ·exact h
   exact aH aa
  refine Cj.kb (aI (aA (yZ rfl rfl rfl (AA oM)) ?_));refine aA yP ?_;refine J.nil (dL ⟨S++[((⟨[],none,0⟩:Rw Fv),((aO s).2.2:Int))],_,H3⟩ ⟨by dsimp only;rw[aB,aU];omega,O,G,hT,aj⟩ (by dsimp only;rw[aB,aU];omega) ⟨rfl,rfl,rfl,rfl,rfl,by rw[aB,aU,←a4];rfl,trivial⟩ rfl rfl)
 have ao:=BN ae;refine Cj.exit (dG (Ej.JK (fG (bY (H':=HY) (dD _ (dF _)) ?_))));refine Ej.TK rfl rfl ⟨rfl,.inl ⟨S,by rw[aV];omega,hY⟩⟩
theorem b6H A nv cv s I:yT aT 25 [.slice A nv cv,str s] I [] (fun e _ H'=>∃h G,e= .returned (.func (.func 57) #[] #[ptr G 0,ptr h 0])∧H'=[(G,yY 9 [str s]),(h,yY 34 [.slice A nv cv])]):=by
 refine yT.ob func25 ?_;intro w0 _;refine Cj.sr (aP rfl (BL ?_));intro O _;refine aP rfl (BL ?_);intro Z _;refine aA yQ ?_;refine J.yV (aA (EH rfl rfl rfl) ?_);refine aA yQ ?_;refine J.ns (bH (zN ?_));exact⟨O,Z,rfl,rfl⟩
