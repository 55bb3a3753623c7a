/-
  Own texts on the laws of the seat, joined: the logic, and contracts of functions. Conditions: none.
-/
import Derived.Test.YtalapkjmkjmpjaaGreatDoorNmK
import Derived.Test.YtalapkjmkjmpjaaGreatDoorPK6
import Derived.Shelf.SlGeneric
import Derived.Shelf.SlLaysF0
import Derived.Ground.SlsfProg
import Derived.Shelf.GgSortFunc.InsertionK
import Derived.Shelf.SlSortCmp.WholeK
import Derived.Shelf.SlSortCmp.NoneTotal
import Derived.Shelf.Spec.SlicesGrow
import Derived.Ground.Names8Prog
import Derived.Laws.AppendOwn
set_option linter.all false
set_option maxRecDepth 100000
set_option maxHeartbeats 40000000
open Go.Proofs.Tryz renaming prog -> aA,func108 -> bC,func363 -> dA,isAgg56 -> dB,func123 -> dD
open Go.Builtin renaming zeroCells -> aB
open Go.Sort renaming ahead -> aC
open List renaming size_toArray -> aF,mem_of_find?_eq_some -> aZ,pairwise_and_iff -> bH,find?_some -> bU
open Go.Proofs.AnyF renaming slices_SortFunc_none -> aG
open Go.Instr renaming checkKey -> aH,sliceBounds -> aT,sameBits -> aX,sliceAt -> aY,slice -> bF
open Go.Sx.Enters renaming of -> aI
open Go.Sx renaming BZ -> aJ,gH -> bI,AL -> cO,yY -> cZ
open Go.Proofs.SlLaysF0 renaming n6 -> aK
open Go.Proofs.AnyQ renaming slices_SortFunc -> aN
open Array renaming toArray_toList -> aO,getElem?_mapIdx -> bG,extract_size -> bJ,size_append -> bQ
open Std renaming lt_of_le_of_ne -> aP,lt_irrefl -> bZ
open Go.Op renaming equalIn -> aQ
open List.Pairwise renaming nil -> aS
open Go.Shelf renaming Ren -> aU
open Go.Sx.Pure renaming of_same -> aV
open List.Perm renaming refl -> aW
open Go.Sem renaming run_bind -> bD
open Go.Sx.BL renaming z -> bK
open Ne renaming symm -> bM
open Go.Sx.Le renaming refl -> bP
open Go.Result renaming andThen_ok -> bT
open Go.Value renaming func -> bV
open Go.Lib renaming compareInt -> bW
open Go.World renaming frozen? -> bY,cell? -> dF
open Go.Proofs.Lays8 renaming n4 -> dG
section
namespace Go.Proofs.YtalapkjmkjmpjaaGreatDoor
open _root_.Go.Proofs.Tryz
open Go Go.Sx
theorem yY.d1K{P f args I H}{A:Ending→Heap→HL→Prop}(h:@yY a9e P f args I H A):@yY d1I P f args I H A:=by
 refine⟨h.1,fun w G=>?_⟩;refine(h.2 w G).mono ?_;rintro e w' ⟨M,H',N,O⟩;refine⟨M,H',?_,O⟩;obtain⟨Q,Z,a3,a4,a5,a6,a7,a8,a9,b1,b2,b3,_⟩:=N;exact⟨Q,Z,a3,a4,a5,a6,a7,a8,a9,b1,b2,b3,fun h=>nomatch h⟩
attribute [local instance] a9e
theorem a5L(x0 x1 y0 y1:Int)(I:Heap):yY Tryz.prog 41 [.agg #[i64 x0,i64 x1],.agg #[i64 y0,i64 y1]] I [] (fun e _ H'=>e= .returned (i64 (LP (Lib.compareInt x0 y0) (Lib.compareInt x1 y1)))∧H'=[]):=by
 refine yY.ob func41 ?_;intro w0 hw0;refine Cj.sr (J.op rfl (KP rfl rfl rfl rfl rfl ?_));intro b1 hb1;refine J.op rfl (KP rfl rfl rfl rfl rfl ?_);intro b2 hb2;refine J.z BI ?_;refine J.nss ?_;refine Cj.EX [0,1] [] 13 (by kernel_rfl) ?_;refine JA.fix CP (fun fx3=>?_);refine JA.tk 0 rfl fx3 (zY (off':=0) a0y AZ) ?_;refine JA.tk 1 rfl fx3 (BX GZ (yX.NI 1 rfl)) ?_;refine JA.tk 2 rfl fx3 (zY (off':=0) a0y AZ) ?_;refine JA.tk 3 rfl fx3 (BX GZ (yX.NI 0 rfl)) ?_;refine JA.tk 5 rfl fx3 (zY (off':=1) a0y AZ) ?_;refine JA.tk 6 rfl fx3 (BX GZ (yX.NI 1 rfl)) ?_;refine JA.tk 7 rfl fx3 (zY (off':=1) a0y AZ) ?_;refine JA.tk 8 rfl fx3 (BX GZ (yX.NI 0 rfl)) ?_;refine qq2 4 rfl (zU (H1:=[]) rfl rfl rfl rfl rfl (a3f x0 y0 _) ?_ (fun _ _ _ _ h=>by cases h.1) (fun _ _ h=>by cases h.1));intro v4 I5 H6 hle7 hp8;obtain⟨h,rfl,rfl⟩:=hp8;cases h;refine yU 1 ?_;refine qq2 9 rfl (zU (H1:=[]) rfl rfl rfl rfl rfl (a3f x1 y1 _) ?_ (fun _ _ _ _ h=>by cases h.1) (fun _ _ h=>by cases h.1));intro v9 I10 H11 hle12 hp13;obtain⟨h,rfl,rfl⟩:=hp13;cases h;refine⟨⟨(Le.trans (Le.trans (Le.refl _) hle7) hle12),(HSub.c 0 rfl (HSub.c 1 rfl HSub.n)),CSub.n⟩,?_⟩;refine qq2 10 rfl (CY JJ AZ OT (DC.one rfl (DC.one rfl DC.none)) ?_);intro b14 hb14;refine⟨⟨(Le.trans (Le.trans (Le.refl _) hle7) hle12),(HSub.c 1 rfl (HSub.c 2 rfl HSub.n)),CSub.n⟩,?_⟩;refine JA.pull Pull.z ?_;refine qq2 11 rfl (zU (H1:=[_]) rfl rfl rfl rfl rfl (a7x _ (Lib.compareInt x0 y0) (Lib.compareInt x1 y1) _) ?_ (fun _ _ _ _ h=>by cases h.1) (fun _ _ h=>by cases h.1));intro v15 I16 H17 hle18 hp19;obtain⟨h,rfl,rfl⟩:=hp19;cases h;refine⟨⟨(Le.trans (Le.trans (Le.trans (Le.refl _) hle7) hle12) hle18),(HSub.c 1 rfl (HSub.c 2 rfl HSub.n)),CSub.n⟩,?_⟩;refine JA.fix CP (fun fx20=>?_);refine JA.tk 12 rfl fx20 BI ?_;refine JA.done (by kernel_rfl) ?_;refine Ej.seq (Cj.ret ?_);refine zV ?_;exact⟨rfl,rfl⟩
theorem c0w(a b:List UInt8)(x0 x1 y0 y1:Int)(v w:Value)(I:Heap):yY Tryz.prog 43 [.agg #[i64 x0,i64 x1,str a,v],.agg #[i64 y0,i64 y1,str b,w]] I [] (fun e _ H'=>e= .returned (i64 (LP (LY a b) (LP (Lib.compareInt x0 y0) (Lib.compareInt x1 y1))))∧H'=[]):=by
 refine yY.ob func43 ?_;intro w0 hw0;refine Cj.sr (J.op rfl (KP rfl rfl rfl rfl rfl ?_));intro b1 hb1;refine J.op rfl (KP rfl rfl rfl rfl rfl ?_);intro b2 hb2;refine J.z BI ?_;refine J.nss ?_;refine Cj.EX [0,1] [] 13 (by kernel_rfl) ?_;refine JA.fix CP (fun fx3=>?_);refine JA.tk 0 rfl fx3 (zY (off':=2) IB BD) ?_;refine JA.tk 1 rfl fx3 (BX DU (yX.NI 1 rfl)) ?_;refine JA.tk 2 rfl fx3 (zY (off':=2) IB BD) ?_;refine JA.tk 3 rfl fx3 (BX DU (yX.NI 0 rfl)) ?_;refine JA.tk 5 rfl fx3 (zY (off':=0) IB BM) ?_;refine JA.tk 6 rfl fx3 (DX FY BM (yX.NI 1 rfl)) ?_;refine JA.tk 7 rfl fx3 (zY (off':=0) IB BM) ?_;refine JA.tk 8 rfl fx3 (DX FY BM (yX.NI 0 rfl)) ?_;refine qq2 4 rfl (zU (H1:=[]) rfl rfl rfl rfl rfl (a9O a b _) ?_ (fun _ _ _ _ h=>by cases h.1) (fun _ _ h=>by cases h.1));intro v4 I5 H6 hle7 hp8;obtain⟨h,rfl,rfl⟩:=hp8;cases h;refine yU 1 ?_;refine qq2 9 rfl (zU (H1:=[]) rfl rfl rfl rfl rfl (a5L x0 x1 y0 y1 _) ?_ (fun _ _ _ _ h=>by cases h.1) (fun _ _ h=>by cases h.1));intro v9 I10 H11 hle12 hp13;obtain⟨h,rfl⟩:=hp13;cases h;refine⟨⟨(Le.trans (Le.trans (Le.refl _) hle7) hle12),(HSub.c 0 rfl (HSub.c 1 rfl HSub.n)),CSub.n⟩,?_⟩;refine qq2 10 rfl (CY JJ AZ OT (DC.one rfl (DC.one rfl DC.none)) ?_);intro b14 hb14;refine⟨⟨(Le.trans (Le.trans (Le.refl _) hle7) hle12),(HSub.c 1 rfl (HSub.c 2 rfl HSub.n)),CSub.n⟩,?_⟩;refine JA.pull Pull.z ?_;refine qq2 11 rfl (zU (H1:=[_]) rfl rfl rfl rfl rfl (a7x _ (LY a b) (LP (Lib.compareInt x0 y0) (Lib.compareInt x1 y1)) _) ?_ (fun _ _ _ _ h=>by cases h.1) (fun _ _ h=>by cases h.1));intro v15 I16 H17 hle18 hp19;obtain⟨h,rfl,rfl⟩:=hp19;cases h;refine⟨⟨(Le.trans (Le.trans (Le.trans (Le.refl _) hle7) hle12) hle18),(HSub.c 1 rfl (HSub.c 2 rfl HSub.n)),CSub.n⟩,?_⟩;refine JA.fix CP (fun fx20=>?_);refine JA.tk 12 rfl fx20 BI ?_;refine JA.done (by kernel_rfl) ?_;refine Ej.seq (Cj.ret ?_);refine zV ?_;exact⟨rfl,rfl⟩
theorem c1Y a b n m I:yY aA 31 [.agg #[str a,i64 n],.agg #[str b,i64 m]] I [] (fun e _ H'=>e= .returned (i64 (LY a b))∧H'=[]):=by
 refine yY.ob func31 ?_;intro w0 _;refine Cj.sr (J.op rfl (KP rfl rfl rfl rfl rfl ?_));intro _ _;refine J.op rfl (KP rfl rfl rfl rfl rfl ?_);intro _ _;refine J.z BI ?_;refine J.ER (J.z (zY (off':=0) a0B BD) ?_);refine J.z (BX DU (yX.at 1 rfl)) ?_;refine J.z (zY (off':=0) a0B BD) ?_;refine J.z (BX DU (yX.at 0 rfl)) ?_;refine J.op rfl (zU (H1:=[]) rfl rfl rfl rfl rfl (a9O a b _) ?_ (fun _ _ _ _ h=>by cases h.1) (fun _ _ h=>by cases h.1));intro _ _ _ _ A;obtain⟨h,rfl,rfl⟩:=A;cases h;refine J.z BI ?_;refine J.ns (Cj.ret ?_);refine zV ?_;exact rT
theorem c0I a b x0 x1 y0 y1 v u w:Calls aA 43 #[.agg #[i64 x0,i64 x1,str a,v],.agg #[i64 y0,i64 y1,str b,u]] w fun e w'=>e= .returned (i64 (LP (LY a b) (LP (bW x0 y0) (bW x1 y1))))∧∃q A,w'=Sort.grow (w.drewN q) A:=
 yY.grows (c0w a b x0 x1 y0 y1 v u _) (fun _ _ _ h=>h.1) w
theorem c6M a b n m w:Calls aA 31 #[.agg #[str a,i64 n],.agg #[str b,i64 m]] w fun e w'=>e= .returned (i64 (LY a b))∧∃q A,w'=Sort.grow (w.drewN q) A:=
 yY.grows (c1Y a b n m _) (fun _ _ _ h=>h.1) w
end Go.Proofs.YtalapkjmkjmpjaaGreatDoor
end
namespace Go.Proofs
open _root_.Go.Proofs.Tryz
open Go.Shelf
def Tryz.c1h:aU:=⟨fun|6=>120|15=>78|14=>211|28=>135|29=>136|20=>283|21=>284|22=>285|23=>286|24=>287|25=>288|26=>289|27=>290|46=>343|47=>215|48=>216|49=>344|50=>345|57=>368|n=>n,fun|22=>216|24=>221|25=>223|3=>3|39=>176|0=>0|53=>237|55=>239|4=>4|46=>230|45=>229|50=>181|5=>5|9=>9|66=>308|70=>312|76=>372|77=>373|n=>n,fun|n=>n⟩
theorem Tryz.c7v:aK aA Tryz.c1h:={
 mixed:=kR
 f6:=⟨Tryz.f120.name,dE,func120.trans (zC some kR)⟩
 f14:=⟨Tryz.f211.name,dE,func211.trans (zC some kR)⟩
 f15:=func78.trans (zC some kR)
 f20:=⟨Tryz.f283.name,dE,func283.trans (zC some kR)⟩
 f21:=⟨Tryz.f284.name,dE,func284.trans (zC some kR)⟩
 f22:=⟨Tryz.f285.name,dE,func285.trans (zC some kR)⟩
 f23:=⟨Tryz.f286.name,dE,func286.trans (zC some kR)⟩
 f24:=⟨Tryz.f287.name,dE,func287.trans (zC some kR)⟩
 f25:=⟨Tryz.f288.name,dE,func288.trans (zC some kR)⟩
 f26:=⟨Tryz.f289.name,dE,func289.trans (zC some kR)⟩
 f27:=⟨Tryz.f290.name,dE,func290.trans (zC some kR)⟩
 f28:=func135.trans (zC some kR)
 f29:=func136.trans (zC some kR)
 f46:=⟨Tryz.f343.name,dE,func343.trans (zC some kR)⟩
 f47:=func215.trans (zC some kR)
 f48:=func216.trans (zC some kR)
 f49:=⟨Tryz.f344.name,dE,func344.trans (zC some kR)⟩
 f50:=⟨Tryz.f345.name,dE,func345.trans (zC some kR)⟩
 f57:=⟨Tryz.f368.name,dE,func368.trans (zC some kR)⟩
 t0:=underlying0
 a0:=isAgg0
 z0:=sizeOf0
 v0:=zeroValue0
 t3:=underlying3
 a3:=isAgg3
 z3:=sizeOf3
 v3:=zeroValue3
 t4:=underlying4
 a4:=isAgg4
 z4:=sizeOf4
 v4:=zeroValue4
 t5:=underlying5
 a5:=isAgg5
 z5:=sizeOf5
 v5:=zeroValue5
 t9:=underlying9
 a9:=isAgg9
 z9:=sizeOf9
 v9:=zeroValue9
 t22:=underlying216
 a22:=isAgg216
 z22:=sizeOf216
 v22:=zeroValue216
 t25:=underlying223
 a25:=isAgg223
 z25:=sizeOf223
 v25:=zeroValue223
 t39:=underlying176
 a39:=isAgg176
 z39:=sizeOf176
 v39:=zeroValue176
 t45:=underlying229
 a45:=isAgg229
 z45:=sizeOf229
 v45:=zeroValue229
 t46:=underlying230
 a46:=isAgg230
 z46:=sizeOf230
 v46:=zeroValue230
 t50:=underlying181
 a50:=isAgg181
 z50:=sizeOf181
 v50:=zeroValue181
 t53:=underlying237
 a53:=isAgg237
 z53:=sizeOf237
 v53:=zeroValue237
 t55:=underlying239
 a55:=isAgg239
 z55:=sizeOf239
 v55:=zeroValue239
 t66:=underlying308
 a66:=isAgg308
 z66:=sizeOf308
 v66:=zeroValue308
 t70:=underlying312
 a70:=isAgg312
 z70:=sizeOf312
 v70:=zeroValue312
 t76:=underlying372
 a76:=isAgg372
 z76:=sizeOf372
 v76:=zeroValue372
 t77:=underlying373
 a77:=isAgg373
 z77:=sizeOf373
 v77:=zeroValue373 }
def Tryz.c0N:aU:=⟨fun|6=>123|15=>78|14=>213|28=>135|29=>136|20=>291|21=>292|22=>293|23=>294|24=>295|25=>296|26=>297|27=>298|46=>346|47=>215|48=>216|49=>347|50=>348|57=>369|n=>n,fun|22=>30|24=>52|25=>115|3=>3|39=>176|0=>0|53=>237|55=>239|4=>4|46=>230|45=>229|50=>181|5=>5|9=>9|66=>308|70=>312|76=>372|77=>373|n=>n,fun|n=>n⟩
theorem Tryz.c7x:aK aA Tryz.c0N:={
 mixed:=kR
 f6:=⟨Tryz.f123.name,dE,func123.trans (zC some kR)⟩
 f14:=⟨Tryz.f213.name,dE,func213.trans (zC some kR)⟩
 f15:=func78.trans (zC some kR)
 f20:=⟨Tryz.f291.name,dE,func291.trans (zC some kR)⟩
 f21:=⟨Tryz.f292.name,dE,func292.trans (zC some kR)⟩
 f22:=⟨Tryz.f293.name,dE,func293.trans (zC some kR)⟩
 f23:=⟨Tryz.f294.name,dE,func294.trans (zC some kR)⟩
 f24:=⟨Tryz.f295.name,dE,func295.trans (zC some kR)⟩
 f25:=⟨Tryz.f296.name,dE,func296.trans (zC some kR)⟩
 f26:=⟨Tryz.f297.name,dE,func297.trans (zC some kR)⟩
 f27:=⟨Tryz.f298.name,dE,func298.trans (zC some kR)⟩
 f28:=func135.trans (zC some kR)
 f29:=func136.trans (zC some kR)
 f46:=⟨Tryz.f346.name,dE,func346.trans (zC some kR)⟩
 f47:=func215.trans (zC some kR)
 f48:=func216.trans (zC some kR)
 f49:=⟨Tryz.f347.name,dE,func347.trans (zC some kR)⟩
 f50:=⟨Tryz.f348.name,dE,func348.trans (zC some kR)⟩
 f57:=⟨Tryz.f369.name,dE,func369.trans (zC some kR)⟩
 t0:=underlying0
 a0:=isAgg0
 z0:=sizeOf0
 v0:=zeroValue0
 t3:=underlying3
 a3:=isAgg3
 z3:=sizeOf3
 v3:=zeroValue3
 t4:=underlying4
 a4:=isAgg4
 z4:=sizeOf4
 v4:=zeroValue4
 t5:=underlying5
 a5:=isAgg5
 z5:=sizeOf5
 v5:=zeroValue5
 t9:=underlying9
 a9:=isAgg9
 z9:=sizeOf9
 v9:=zeroValue9
 t22:=underlying30
 a22:=isAgg30
 z22:=sizeOf30
 v22:=zeroValue30
 t25:=underlying115
 a25:=isAgg115
 z25:=sizeOf115
 v25:=zeroValue115
 t39:=underlying176
 a39:=isAgg176
 z39:=sizeOf176
 v39:=zeroValue176
 t45:=underlying229
 a45:=isAgg229
 z45:=sizeOf229
 v45:=zeroValue229
 t46:=underlying230
 a46:=isAgg230
 z46:=sizeOf230
 v46:=zeroValue230
 t50:=underlying181
 a50:=isAgg181
 z50:=sizeOf181
 v50:=zeroValue181
 t53:=underlying237
 a53:=isAgg237
 z53:=sizeOf237
 v53:=zeroValue237
 t55:=underlying239
 a55:=isAgg239
 z55:=sizeOf239
 v55:=zeroValue239
 t66:=underlying308
 a66:=isAgg308
 z66:=sizeOf308
 v66:=zeroValue308
 t70:=underlying312
 a70:=isAgg312
 z70:=sizeOf312
 v70:=zeroValue312
 t76:=underlying372
 a76:=isAgg372
 z76:=sizeOf372
 v76:=zeroValue372
 t77:=underlying373
 a77:=isAgg373
 z77:=sizeOf373
 v77:=zeroValue373 }
def Tryz.sortL_ren:aU:=⟨fun|6=>108|15=>78|14=>186|28=>135|29=>136|20=>255|21=>256|22=>257|23=>258|24=>259|25=>260|26=>261|27=>262|46=>328|47=>215|48=>216|49=>329|50=>330|57=>362|n=>n,fun|22=>53|24=>56|25=>98|3=>3|39=>176|0=>0|53=>237|55=>239|4=>4|46=>230|45=>229|50=>181|5=>5|9=>9|66=>308|70=>312|76=>372|77=>373|n=>n,fun|n=>n⟩
theorem Tryz.sortL:aK aA Tryz.sortL_ren:={
 mixed:=kR
 f6:=⟨Tryz.f108.name,dE,func108.trans (zC some kR)⟩
 f14:=⟨Tryz.f186.name,dE,func186.trans (zC some kR)⟩
 f15:=func78.trans (zC some kR)
 f20:=⟨Tryz.f255.name,dE,func255.trans (zC some kR)⟩
 f21:=⟨Tryz.f256.name,dE,func256.trans (zC some kR)⟩
 f22:=⟨Tryz.f257.name,dE,func257.trans (zC some kR)⟩
 f23:=⟨Tryz.f258.name,dE,func258.trans (zC some kR)⟩
 f24:=⟨Tryz.f259.name,dE,func259.trans (zC some kR)⟩
 f25:=⟨Tryz.f260.name,dE,func260.trans (zC some kR)⟩
 f26:=⟨Tryz.f261.name,dE,func261.trans (zC some kR)⟩
 f27:=⟨Tryz.f262.name,dE,func262.trans (zC some kR)⟩
 f28:=func135.trans (zC some kR)
 f29:=func136.trans (zC some kR)
 f46:=⟨Tryz.f328.name,dE,func328.trans (zC some kR)⟩
 f47:=func215.trans (zC some kR)
 f48:=func216.trans (zC some kR)
 f49:=⟨Tryz.f329.name,dE,func329.trans (zC some kR)⟩
 f50:=⟨Tryz.f330.name,dE,func330.trans (zC some kR)⟩
 f57:=⟨Tryz.f362.name,dE,func362.trans (zC some kR)⟩
 t0:=underlying0
 a0:=isAgg0
 z0:=sizeOf0
 v0:=zeroValue0
 t3:=underlying3
 a3:=isAgg3
 z3:=sizeOf3
 v3:=zeroValue3
 t4:=underlying4
 a4:=isAgg4
 z4:=sizeOf4
 v4:=zeroValue4
 t5:=underlying5
 a5:=isAgg5
 z5:=sizeOf5
 v5:=zeroValue5
 t9:=underlying9
 a9:=isAgg9
 z9:=sizeOf9
 v9:=zeroValue9
 t22:=underlying53
 a22:=isAgg53
 z22:=sizeOf53
 v22:=zeroValue53
 t25:=underlying98
 a25:=isAgg98
 z25:=sizeOf98
 v25:=zeroValue98
 t39:=underlying176
 a39:=isAgg176
 z39:=sizeOf176
 v39:=zeroValue176
 t45:=underlying229
 a45:=isAgg229
 z45:=sizeOf229
 v45:=zeroValue229
 t46:=underlying230
 a46:=isAgg230
 z46:=sizeOf230
 v46:=zeroValue230
 t50:=underlying181
 a50:=isAgg181
 z50:=sizeOf181
 v50:=zeroValue181
 t53:=underlying237
 a53:=isAgg237
 z53:=sizeOf237
 v53:=zeroValue237
 t55:=underlying239
 a55:=isAgg239
 z55:=sizeOf239
 v55:=zeroValue239
 t66:=underlying308
 a66:=isAgg308
 z66:=sizeOf308
 v66:=zeroValue308
 t70:=underlying312
 a70:=isAgg312
 z70:=sizeOf312
 v70:=zeroValue312
 t76:=underlying372
 a76:=isAgg372
 z76:=sizeOf372
 v76:=zeroValue372
 t77:=underlying373
 a77:=isAgg373
 z77:=sizeOf373
 v77:=zeroValue373 }
def Tryz.c2k:aU:=⟨fun|6=>363|15=>78|14=>381|28=>135|29=>136|20=>393|21=>394|22=>395|23=>396|24=>397|25=>398|26=>399|27=>400|46=>410|47=>215|48=>216|49=>411|50=>412|57=>415|n=>n,fun|22=>78|24=>42|25=>111|3=>3|39=>176|0=>0|53=>237|55=>239|4=>4|46=>230|45=>229|50=>181|5=>5|9=>9|66=>308|70=>312|76=>372|77=>373|n=>n,fun|n=>n⟩
theorem Tryz.c7y:aK aA Tryz.c2k:={
 mixed:=kR
 f6:=⟨Tryz.f363.name,dE,func363.trans (zC some kR)⟩
 f14:=⟨Tryz.f381.name,dE,func381.trans (zC some kR)⟩
 f15:=func78.trans (zC some kR)
 f20:=⟨Tryz.f393.name,dE,func393.trans (zC some kR)⟩
 f21:=⟨Tryz.f394.name,dE,func394.trans (zC some kR)⟩
 f22:=⟨Tryz.f395.name,dE,func395.trans (zC some kR)⟩
 f23:=⟨Tryz.f396.name,dE,func396.trans (zC some kR)⟩
 f24:=⟨Tryz.f397.name,dE,func397.trans (zC some kR)⟩
 f25:=⟨Tryz.f398.name,dE,func398.trans (zC some kR)⟩
 f26:=⟨Tryz.f399.name,dE,func399.trans (zC some kR)⟩
 f27:=⟨Tryz.f400.name,dE,func400.trans (zC some kR)⟩
 f28:=func135.trans (zC some kR)
 f29:=func136.trans (zC some kR)
 f46:=⟨Tryz.f410.name,dE,func410.trans (zC some kR)⟩
 f47:=func215.trans (zC some kR)
 f48:=func216.trans (zC some kR)
 f49:=⟨Tryz.f411.name,dE,func411.trans (zC some kR)⟩
 f50:=⟨Tryz.f412.name,dE,func412.trans (zC some kR)⟩
 f57:=⟨Tryz.f415.name,dE,func415.trans (zC some kR)⟩
 t0:=underlying0
 a0:=isAgg0
 z0:=sizeOf0
 v0:=zeroValue0
 t3:=underlying3
 a3:=isAgg3
 z3:=sizeOf3
 v3:=zeroValue3
 t4:=underlying4
 a4:=isAgg4
 z4:=sizeOf4
 v4:=zeroValue4
 t5:=underlying5
 a5:=isAgg5
 z5:=sizeOf5
 v5:=zeroValue5
 t9:=underlying9
 a9:=isAgg9
 z9:=sizeOf9
 v9:=zeroValue9
 t22:=underlying78
 a22:=isAgg78
 z22:=sizeOf78
 v22:=zeroValue78
 t25:=underlying111
 a25:=isAgg111
 z25:=sizeOf111
 v25:=zeroValue111
 t39:=underlying176
 a39:=isAgg176
 z39:=sizeOf176
 v39:=zeroValue176
 t45:=underlying229
 a45:=isAgg229
 z45:=sizeOf229
 v45:=zeroValue229
 t46:=underlying230
 a46:=isAgg230
 z46:=sizeOf230
 v46:=zeroValue230
 t50:=underlying181
 a50:=isAgg181
 z50:=sizeOf181
 v50:=zeroValue181
 t53:=underlying237
 a53:=isAgg237
 z53:=sizeOf237
 v53:=zeroValue237
 t55:=underlying239
 a55:=isAgg239
 z55:=sizeOf239
 v55:=zeroValue239
 t66:=underlying308
 a66:=isAgg308
 z66:=sizeOf308
 v66:=zeroValue308
 t70:=underlying312
 a70:=isAgg312
 z70:=sizeOf312
 v70:=zeroValue312
 t76:=underlying372
 a76:=isAgg372
 z76:=sizeOf372
 v76:=zeroValue372
 t77:=underlying373
 a77:=isAgg373
 z77:=sizeOf373
 v77:=zeroValue373 }
end Go.Proofs
namespace Go.Sx
open Go Go.Sort Go.Proofs
theorem XM{w b T vs sp}(h:w.heap[b]?=some (yV T (vs++sp))):Holds id w b 0 vs.toArray:=fun j G=>by
 have A:j<vs.length:=by simpa using G
 have h1:(vs++sp)[j]?=some vs[j]:=by rw[xJ A];exact xG A
 have h2:vs.toArray[j]! =vs[j]:=by rw[getElem!_pos _ j G];simp
 refine⟨?_,?_⟩
 ·rw[h2];simp only[dF,h,yV,sS];simpa using h1
 simp only[bY,h,yV];simp
theorem c6m{vs A sp:List Value}(G:A.length=vs.length):putCells id 0 A.toArray (vs++sp).toArray=(A++sp).toArray:=by
 apply yT
 intro k;simp only[putCells,bG,wY,aF,sQ,true_and,sS,Nat.sub_zero];rcases tC k vs.length with h|h
 ·have h1:(vs++sp)[k]?=some vs[k]:=by rw[xJ h];exact xG h
  have h2:(A++sp)[k]?=some (A[k]'oM):=by rw[xJ oM];exact xG _
  have h3:A.toArray[k]! =A[k]'oM:=by rw[getElem!_pos _ k (by simpa using(oM:k<A.length))];simp
  rw[h1,h2,sN,zF oM,h3];rfl
 rw[xI h,xI oM,G];cases sp[k-vs.length]? with
 |none=>rfl
 |some v=>rw[sN,zD oM]
theorem St.b3V{w I b T vs A sp} n os (hr:Ready I [(b,yV T (vs++sp))] w)(hl:A.length=vs.length):
 St w [b] I I [(b,yV T (A++sp))] (grow (putRow id (aC w n) b 0 A.toArray) os):=by
 obtain⟨r1,r2,_,r4⟩:=hr;have hb:=r2 _ (vN.2 rfl);have O:∀{c:Nat} {o':Obj},w.heap[c]?=some o'→c<w.heap.size:=fun {c o'} G=>by
  rcases tC c w.heap.size with Q|Q
  ·exact Q
  simp[yR Q]at G
 have a1:(putRow id (aC w n) b 0 A.toArray).heap.size=w.heap.size:=by simp[putRow,mapBlock,aC]
 have M:∀c,c<w.heap.size→c≠b→(grow (putRow id (aC w n) b 0 A.toArray) os).heap[c]?=w.heap[c]?:=fun c G a0=>by
  simp only[grow];rw[yS oM];simp only[putRow,mapBlock,aC,yQ,zD (bM a0)]
 have Z:(grow (putRow id (aC w n) b 0 A.toArray) os).heap[b]?=some (yV T (A++sp)):=by
  have a2:=O hb;simp only[grow];rw[yS oM];simp only[putRow,mapBlock,aC,yQ,if_true];rw[hb];simp only[sN,onCells,yV];rw[c6m hl]
 refine⟨rfl,rfl,rfl,?_,?_,?_,?_,sI,?_,?_,fun _ _=>rfl,bP _,a2u⟩
 ·simp only[grow,bQ];omega
 ·intro c G hd;exact M c G (by simpa using hd)
 ·intro c o G;have h1:=r1 c o G;refine(M c (O h1) ?_).trans h1;rintro rfl;have:=r4 _ (vN.2 rfl);rw[this]at G;cases G
 ·intro p N;rw[vN.1 N];exact Z
 ·intro p N;rw[vN.1 N];exact r4 (b,yV T (vs++sp)) (vN.2 rfl)
 intro p N;rw[vN.1 N];exact .inl (.head _)
section
variable {α:Type} [Inhabited α] {enc:α→List Value} {k:Nat}
theorem KN(G:∀x,(enc x).length=k)(l:List α):flatK enc k l.toArray=(l.flatMap enc).toArray:=by
 refine ext_get! (by simp[BZ G]) fun t Q=>?_;have A:t<l.length*k:=by simpa using Q
 have h0:0<k:=by
  rcases Nat.eq_zero_or_pos k with e|e
  ·subst e;simp at A
  exact e
 have N:t / k<l.length:=(Nat.div_lt_iff_lt_mul h0).2 A;have M:t % k<k:=Nat.mod_lt _ h0;rw[get_flatK _ _ _ _ (by simpa using A)];have h1:l.toArray[t / k]! =l[t / k]:=by rw[getElem!_pos _ _ (by simpa using N)];simp
 have h2:l[t / k]?=some l[t / k]:=xG N;have h3:=a1O G (sp:=[]) h2 (t % k) M;rw[yD,Nat.mul_comm,Nat.div_add_mod]at h3;have O:t<(l.flatMap enc).length:=by rw[BZ G];exact A
 rw[h1,getElem!_pos _ t (by simpa using O),List.getElem_toArray,getElem!_pos _ _ (by rw[G];exact M)];rw[xG O,xG (by rw[G];exact M)]at h3;exact(sK h3).symm
theorem UJ{l:List α}{A}(h:PermIn 0 l.length l.toArray A):A.toList.Perm l:=by
 obtain⟨h1,_,h3⟩:=h;have G:A.size=l.length:=by rw[h1];simp
 rw[←G]at h3;simp only[bJ]at h3;rw[G]at h3;have M:l.toArray.extract 0 l.length=l.toArray:=by
  have:=bJ (xs:=l.toArray)
  rwa [aF]at this
 rw[M]at h3;simpa using h3
theorem sorted_in{lt}{A:Array α}(h:SortedIn lt 0 A.size A):A.toList.Pairwise fun x y=>lt y x=false:=by
 rw[List.pairwise_iff_getElem];intro i j O Q M;have N:i<A.size:=by simpa using O
 have G:j<A.size:=by simpa using Q
 have:=h i j (sQ _) M G;rw[getElem!_pos A i N,getElem!_pos A j G]at this;simpa using this
end
end Go.Sx
namespace Ix
open Ke
abbrev Rec:=Int×Int
def FK (a b:Rec):Bool:=decide (a.1<b.1) || (decide (a.1=b.1) && decide (a.2<b.2))
theorem WS{a b}:FK a b=true↔a.1<b.1∨(a.1=b.1∧a.2<b.2):=by simp[FK]
theorem FU a:FK a a=false:=by rw[yN,Ne,WS];omega
theorem MK{a b c}(h1:FK a b=true)(h2:FK b c=true):FK a c=true:=by
 rw[WS]at *;omega
theorem SB a b:FK a b=true∨a=b∨FK b a=true:=by
 rw[WS,WS]
 by_cases h:a=b
 ·exact .inr (.inl h)
 have:a.1≠b.1∨a.2≠b.2:=by
  by_cases h1:a.1=b.1
  ·exact .inr fun h2=>h (Prod.ext h1 h2)
  exact .inl h1
 omega
section
variable {β:Type}
abbrev Ls (β:Type):=List (Rec×β)
def JB (l:Ls β):Prop:=l.Pairwise fun a b=>FK a.1 b.1=true
def OM (t:Rec) (v:β):Ls β→Ls β
 |[]=>[(t,v)]
 |(u,x)::r=>if FK u t then(u,x)::OM t v r else if u=t then(t,v)::r else(t,v)::(u,x)::r
def a3K (t:Rec) (l:Ls β):Ls β:=l.filter fun e=>decide (e.1≠t)
def LX (l:Ls β) (t:Rec):Option β:=(l.find? fun e=>decide (e.1=t)).map (·.2)
theorem TQ t v:∀{l:Ls β},JB l→∀e,e∈OM t v l↔e=(t,v)∨(e∈l∧e.1≠t)
 |[],_,e=>by simp[OM]
 |(u,x)::r,h,e=>by
  have A:=uY.1 h;unfold OM
  by_cases h1:FK u t=true
  ·rw[zF h1,vX,TQ t v A.2,vX];have M:u≠t:=fun g=>by rw[g,FU]at h1;cases h1
   constructor
   ·rintro(g|g|g)
    ·exact .inr ⟨.inl g,by rw[g];exact M⟩
    ·exact .inl g
    exact .inr ⟨.inr g.1,g.2⟩
   rintro(g|⟨g|g,h2⟩)
   ·exact .inr (.inl g)
   ·exact .inl g
   exact .inr (.inr ⟨g,h2⟩)
  rw[zD h1]
  by_cases h2:u=t
  ·rw[zF h2,vX,vX];subst h2;constructor
   ·rintro(g|g)
    ·exact .inl g
    refine .inr ⟨.inr g,fun h3=>?_⟩;have:=A.1 e g;rw[h3]at this;simp only[FU]at this;cases this
   rintro(g|⟨g|g,h3⟩)
   ·exact .inl g
   ·exact absurd (by rw[g]) h3
   exact .inr g
  rw[zD h2,vX];have h3:FK t u=true:=((SB u t).resolve_left h1).resolve_left h2;constructor
  ·rintro(g|g)
   ·exact .inl g
   refine .inr ⟨g,fun G=>?_⟩;rcases vX.1 g with g|g
   ·rw[g]at G;exact h2 G
   have:=MK h3 (A.1 e g);rw[G,FU]at this;cases this
  rintro(g|g)
  ·exact .inl g
  exact .inr g.1
theorem WG t v:∀{l:Ls β},JB l→JB (OM t v l)
 |[],_=>uT _ _
 |(u,x)::r,h=>by
  have A:=uY.1 h;unfold OM
  by_cases h1:FK u t=true
  ·rw[zF h1];refine uY.2 ⟨fun e G=>?_,WG t v A.2⟩;rcases(TQ t v A.2 e).1 G with g|g
   ·rw[g];exact h1
   exact A.1 e g.1
  rw[zD h1]
  by_cases h2:u=t
  ·rw[zF h2];subst h2;exact uY.2 ⟨fun e G=>A.1 e G,A.2⟩
  rw[zD h2];have h3:FK t u=true:=((SB u t).resolve_left h1).resolve_left h2;refine uY.2 ⟨fun e G=>?_,h⟩;rcases vX.1 G with g|g
  ·rw[g];exact h3
  exact MK h3 (A.1 e g)
theorem a2h t {l:Ls β}(h:JB l):JB (a3K t l):=h.filter _
theorem a0k t l (e:Rec×β):e∈a3K t l↔e∈l∧e.1≠t:=by simp[a3K]
theorem c2T{a b:Ls β}(Q:JB a)(Z:JB b)(h:∀e,e∈a↔e∈b):a=b:=by
 induction a generalizing b with
 |nil=>
  rcases b with _|⟨y,t⟩
  ·rfl
  exact absurd ((h y).2 (.head _)) sI
 |cons x r ih=>
  rcases b with _|⟨y,t⟩
  ·exact absurd ((h x).1 (.head _)) sI
  have A:=uY.1 Q;have G:=uY.1 Z;have O:x=y:=by
   rcases vX.1 ((h x).1 (.head _))with e|e
   ·exact e
   rcases vX.1 ((h y).2 (.head _))with N|N
   ·exact N.symm
   have:=MK (G.1 x e) (A.1 y N);rw[FU]at this;cases this
  subst O;rw[ih A.2 G.2 fun z=>⟨fun M=>?_,fun M=>?_⟩]
  ·rcases vX.1 ((h z).1 (.tail _ M))with rfl|e
   ·have:=A.1 z M;rw[FU]at this;cases this
   exact e
  rcases vX.1 ((h z).2 (.tail _ M))with rfl|e
  ·have:=G.1 z M;rw[FU]at this;cases this
  exact e
theorem c9m{l}(h:JB l){a b:Rec×β}(N:a∈l)(Q:b∈l)(O:a.1=b.1):a=b:=by
 induction l with
 |nil=>cases N
 |cons x r Z=>
  have M:=uY.1 h;rcases vX.1 N with A|A<;>rcases vX.1 Q with G|G
  ·rw[A,G]
  ·have:=M.1 b G;rw[←A,O,FU]at this;cases this
  ·have:=M.1 a A;rw[←G,←O,FU]at this;cases this
  exact Z M.2 A G
theorem b2H{l:Ls β}(h:JB l):(l.map (·.1)).Nodup:=by
 rw[vI,uV];exact h.imp fun {a b} g e=>by rw[e,FU]at g;cases g
theorem JU{l}(h:JB l){t:Rec}{v:β}:LX l t=some v↔(t,v)∈l:=by
 unfold LX;constructor
 ·intro g;obtain⟨e,A,rfl⟩:=sO.1 g;have h1:=bU A;have h2:e.1=t:=zA h1;have:=aZ A;rw[←h2];exact this
 intro g;have G:(l.find? fun e=>decide (e.1=t)).isSome=true:=by
  rw[List.find?_isSome];exact⟨_,g,sI⟩
 obtain⟨e,A⟩:=Option.isSome_iff_exists.1 G;have h0:=bU A;have h1:e.1=t:=zA h0;have h2:=c9m h (aZ A) g h1;rw[A,h2];rfl
theorem a2m{l:Ls β}{t}:LX l t=none↔∀e∈l,e.1≠t:=by
 unfold LX;rw[Option.map_eq_none_iff,List.find?_eq_none];simp
def a0e (es l:Ls β):Ls β:=es.foldl (fun l e=>OM e.1 e.2 l) l
theorem b2y:∀(es:Ls β) {l:Ls β},JB l→JB (a0e es l)
 |[],_,h=>h
 |e::r,_,h=>b2y r (WG e.1 e.2 h)
end
end Ix
namespace Go.Proofs.YtalapkjmkjmpjaaGreatDoor
open Go Go.Shelf Go.RowKit Go.Lib Go.Sort
abbrev recC (x:Ix.Rec):List Value:=[.int .i64 x.1,.int .i64 x.2]
theorem AP x:(recC x).length=2:=rfl
abbrev BH (x:List UInt8×Int):List Value:=[Sx.str x.1,.int .i64 x.2]
theorem DW x:(BH x).length=2:=rfl
def a0g (x y:Ix.Rec):Int:=LP (compareInt x.1 y.1) (compareInt x.2 y.2)
def ZI (x y:List UInt8×Int):Int:=LY x.1 y.1
theorem SQ x y:ltOf a0g x y=Ix.FK x y:=by
 rw[yM,Ix.WS];unfold ltOf a0g LP compareInt;rw[zG]
 repeat(first|omega|split)
theorem b9C:SWO (ltOf a0g) where
 irrefl x:=by rw[SQ];exact Ix.FU x
 trans x y z h1 h2:=by rw[SQ]at *;exact Ix.MK h1 h2
 ntrans x y z h1 h2:=by
  rw[SQ,yN,Ne,Ix.WS]at *;omega
theorem XR x y:ltOf ZI x y=decide (x.1<y.1):=by
 unfold ltOf ZI LY;rw[decide_eq_decide]
 by_cases h:x.1<y.1
 ·rw[zF h];simp[h]
 rw[zD h]
 by_cases h2:y.1<x.1
 ·rw[zF h2];simp[h]
 rw[zD h2];simp[h]
theorem a6V:SWO (ltOf ZI) where
 irrefl x:=by rw[XR];exact zI (wH _)
 trans x y z h1 h2:=by
  rw[XR]at *;exact zH (List.lt_trans (DK h1) (DK h2))
 ntrans x y z h1 h2:=by
  rw[XR]at *;have A:=vH.1 (DN h1);have G:=vH.1 (DN h2);exact zI (vH.2 (List.le_trans G A))
theorem a3M{base} l g (hg:cO base 2 l.length (l.flatMap recC) g)(hl:l.length≤100000000000000) I:cZ aA 363 [Sx.gV l.length g,.func (.func 364) #[] #[]] I (bI 42 (l.flatMap recC) g)
 (fun e a1 H'=>∃l':List Ix.Rec,l'.Perm l∧l'.Pairwise (fun p q=>Ix.FK q p=false)∧e= .returned (.tuple #[])∧H'=bI 42 (l'.flatMap recC) g):=by
 cases g with
 |none=>
  obtain⟨h1,h2⟩:=hg;have h0:l=[]:=wR.1 h1;subst h0;exact(aV (aI dA dE rfl) (fun w _=>aG Tryz.c7y none 0 (.func (.func 364) #[] #[]) w)).mono fun e _ H' _ ⟨h1,_,h3⟩=>⟨[],aW _,aS,h1,h3⟩
 |some q=>
  obtain⟨b,c,sp⟩:=q;refine⟨aI dA dE rfl,fun w Q=>?_⟩;have G:=Q.2.1 _ (.head _);have Z:b<w.heap.size:=by
   rcases tC b w.heap.size with h|h
   ·exact h
   rw[yR h]at G;cases G
  have eg:∀args w,(callFunc 364 args).run aA w= .ok (.enter 364 args) w:=enters_of Tryz.func364 kR rfl;have hH:HoldsK recC 2 w b 0 l.toArray:=by
   unfold HoldsK;rw[Sx.KN AP];exact Sx.XM G
  have M:CmpLays aA 364 #[] recC 2 a0g b 0 l.toArray.size w:=fun m os _ _ x y=>b6X x.1 x.2 y.1 y.2 _;have N:=aN Tryz.c7y 2 FY BM recC AP (fun x v hv=>by
   simp only[vX,vG,or_false]at hv;rcases hv with rfl|rfl<;>rfl) a0g b9C 364 #[] b 0 c l.toArray w eg M hH Z (by simp;omega)
  refine N.mono fun e w' ⟨h1,A,n,os,h2,h3,h4⟩=>?_;rw[aF]at h2 h3;have O:=Sx.UJ h2;have a0:A.size=l.length:=by have:=O.length_eq;simpa using this
  rw[←a0]at h3;refine⟨I,_,?_,A.toList,O,(Sx.sorted_in h3).imp fun h=>?_,h1,rfl⟩
  ·rw[h4];unfold sortWorldK putRowK;rw[show A=A.toList.toArray from(aO (xs:=A)).symm,Sx.KN AP];exact Sx.St.b3V n os Q (by rw[aJ AP,aJ AP,O.length_eq])
  rw[SQ]at h;exact h
theorem a6X{base} l g (hg:cO base 2 l.length (l.flatMap BH) g)(hl:l.length≤100000000000000) I:cZ aA 108 [Sx.gV l.length g,.func (.func 341) #[] #[]] I (bI 56 (l.flatMap BH) g)
 (fun e a1 H'=>∃l':List (List UInt8×Int),l'.Perm l∧l'.Pairwise (fun p q=>¬q.1<p.1)∧e= .returned (.tuple #[])∧H'=bI 56 (l'.flatMap BH) g):=by
 cases g with
 |none=>
  obtain⟨h1,h2⟩:=hg;have h0:l=[]:=wR.1 h1;subst h0;exact(aV (aI bC dE rfl) (fun w _=>aG Tryz.sortL none 0 (.func (.func 341) #[] #[]) w)).mono fun e _ H' _ ⟨h1,_,h3⟩=>⟨[],aW _,aS,h1,h3⟩
 |some q=>
  obtain⟨b,c,sp⟩:=q;refine⟨aI bC dE rfl,fun w Q=>?_⟩;have G:=Q.2.1 _ (.head _);have Z:b<w.heap.size:=by
   rcases tC b w.heap.size with h|h
   ·exact h
   rw[yR h]at G;cases G
  have eg:∀args w,(callFunc 341 args).run aA w= .ok (.enter 341 args) w:=enters_of Tryz.func341 kR rfl;have hH:HoldsK BH 2 w b 0 l.toArray:=by
   unfold HoldsK;rw[Sx.KN DW];exact Sx.XM G
  have M:CmpLays aA 341 #[] BH 2 ZI b 0 l.toArray.size w:=fun m os _ _ x y=>c4I x.1 y.1 x.2 y.2 _;have N:=aN Tryz.sortL 2 dB NQ BH DW (fun x v hv=>by
   simp only[vX,vG,or_false]at hv;rcases hv with rfl|rfl<;>rfl) ZI a6V 341 #[] b 0 c l.toArray w eg M hH Z (by simp;omega)
  refine N.mono fun e w' ⟨h1,A,n,os,h2,h3,h4⟩=>?_;rw[aF]at h2 h3;have O:=Sx.UJ h2;have a0:A.size=l.length:=by have:=O.length_eq;simpa using this
  rw[←a0]at h3;refine⟨I,_,?_,A.toList,O,(Sx.sorted_in h3).imp fun h=>?_,h1,rfl⟩
  ·rw[h4];unfold sortWorldK putRowK;rw[show A=A.toList.toArray from(aO (xs:=A)).symm,Sx.KN DW];exact Sx.St.b3V n os Q (by rw[aJ DW,aJ DW,O.length_eq])
  rw[XR]at h;exact DN h
end Go.Proofs.YtalapkjmkjmpjaaGreatDoor
namespace Bk
open Ix
structure Fd where
  t:Rec
  k:List UInt8
  p:List Int
deriving DecidableEq,Inhabited
abbrev Idn:=List UInt8×Rec
def CO (f:Fd):Idn:=if f.k≠[]then(f.k,(0,0))else([],f.t)
def a4k (a b:Fd):Fd:=⟨if FK b.t a.t then b.t else a.t,a.k,a.p++b.p⟩
def step1 (id:Idn) (o:Option Fd) (x:Fd):Option Fd:=if CO x=id then some (match o with|none=>x|some y=>a4k y x)else o
def grp (id:Idn) (xs:List Fd):Option Fd:=xs.foldl (step1 id) none
theorem ZK id xs x:grp id (xs++[x])=step1 id (grp id xs) x:=by
 unfold grp;rw[xM];rfl
theorem b3T{f g}(h:CO f=CO g):f.k=g.k:=by
 unfold CO at h
 by_cases h1:f.k=[]
 ·by_cases h2:g.k=[]
  ·rw[h1,h2]
  rw[zD (by simpa using h1),zF h2]at h;exact absurd (zC (·.1) h).symm h2
 by_cases h2:g.k=[]
 ·rw[zF h1,zD (by simpa using h2)]at h;exact absurd (zC (·.1) h) h1
 rw[zF h1,zF h2]at h;exact zC (·.1) h
theorem a9n{f g}(h:CO f=CO g)(A:f.k=[]):f.t=g.t:=by
 have h2:g.k=[]:=(b3T h)▸A;unfold CO at h;rw[zD (by simpa using A),zD (by simpa using h2)]at h;exact zC (·.2) h
theorem b0v{f g}(A:f.k=g.k)(G:f.k=[]→f.t=g.t):CO f=CO g:=by
 unfold CO;rw[←A]
 by_cases h:f.k=[]
 ·rw[zD (by simpa using h),zD (by simpa using h),G h]
 rw[zF h,zF h]
theorem a5h{a b}(h:CO a=CO b):CO (a4k a b)=CO a:=by
 refine b0v rfl fun A=>?_;have G:=a9n h A;unfold a4k;rw[←G,FU];rfl
theorem ND{α:Type}{P:List α→Prop}(h0:P [])(h1:∀xs x,P xs→P (xs++[x])) xs:P xs:=by
 have h:∀l:List α,P l.reverse:=fun l=>by
  induction l with
  |nil=>exact h0
  |cons x l A=>rw[List.reverse_cons];exact h1 _ x A
 have:=h xs.reverse
 rwa [List.reverse_reverse]at this
theorem a9x{id}:∀{xs:List Fd} {g:Fd},grp id xs=some g→CO g=id:=by
 intro xs;refine ND (P:=fun xs=>∀{g:Fd},grp id xs=some g→CO g=id) (fun {g} h=>by cases h) (fun xs x A=>?_) xs;intro g h;rw[ZK]at h;unfold step1 at h
 split at h
 ·rename_i G
  cases hg:grp id xs with
  |none=>rw[hg]at h;cases h;exact G
  |some y=>
   rw[hg]at h;cases h;rw[a5h ((A hg).trans G.symm)];exact A hg
 exact A h
def WH (n:Int):List Int→List Int
 |[]=>[n]
 |x::r=>if x<n then x::WH n r else if x=n then x::r else n::x::r
def KU (l p:List Int):List Int:=p.foldl (fun l n=>WH n l) l
def QG (p:List Int):List Int:=KU [] p
theorem a4C l a b:KU l (a++b)=KU (KU l a) b:=by unfold KU;rw[xM]
theorem b4E a b:QG (a++b)=KU (QG a) b:=a4C [] a b
theorem a7B n:∀(l:List Int) (x:Int),x∈WH n l↔x=n∨x∈l
 |[],x=>by simp[WH]
 |y::r,x=>by
  unfold WH
  split
  ·rw[vX,a7B n r x,vX];exact⟨fun h=>h.elim (fun h=> .inr (.inl h)) fun h=>h.elim .inl fun h=> .inr (.inr h),fun h=>h.elim (fun h=> .inr (.inl h)) fun h=>h.elim .inl fun h=> .inr (.inr h)⟩
  split
  ·rename_i h;subst h
   exact⟨.inr,fun h=>h.elim (fun h=>h▸ .head _) id⟩
  rw[vX]
theorem b8J n:∀(l:List Int),l.Pairwise (· <·)→(WH n l).Pairwise (· <·)
 |[],_=>by simp[WH]
 |y::r,h=>by
  have G:=uY.1 h;unfold WH
  split
  ·rename_i M
   refine uY.2 ⟨fun z A=>?_,b8J n r G.2⟩;rcases(a7B n r z).1 A with rfl|A
   ·exact M
   exact G.1 z A
  split
  ·exact h
  rename_i h1 h2
  refine uY.2 ⟨fun z A=>?_,h⟩;rcases vX.1 A with rfl|A
  ·omega
  have:=G.1 z A;omega
theorem a8v:∀(p l:List Int) (x:Int),x∈KU l p↔x∈p∨x∈l
 |[],l,x=>by simp[KU]
 |n::r,l,x=>by
  show x∈KU (WH n l) r↔_;rw[a8v r,a7B,vX];exact⟨fun h=>h.elim (fun h=> .inl (.inr h)) fun h=>h.elim (fun h=> .inl (.inl h)) .inr,fun h=>h.elim (fun h=>h.elim (fun h=> .inr (.inl h)) .inl) fun h=> .inr (.inr h)⟩
theorem b1l:∀(p l:List Int),l.Pairwise (· <·)→(KU l p).Pairwise (· <·)
 |[],_,h=>h
 |n::r,l,h=>b1l r (WH n l) (b8J n l h)
theorem c1A p x:x∈QG p↔x∈p:=by
 unfold QG;rw[a8v];simp
theorem c6x p:(QG p).Pairwise (· <·):=b1l p [] .nil
theorem uniq{α:Type}{R:α→α→Prop}(A:∀a,¬R a a)(tr:∀a b c,R a b→R b c→R a c):∀{l m:List α},l.Pairwise R→m.Pairwise R→(∀x,x∈l↔x∈m)→l=m
 |[],[],_,_,_=>rfl
 |[],b::m,_,_,h=>by have:=(h b).2 (.head _);cases this
 |a::l,[],_,_,h=>by have:=(h a).1 (.head _);cases this
 |a::l,b::m,h1,h2,h=>by
  have G:=uY.1 h1;have M:=uY.1 h2;have O:a=b:=by
   rcases vX.1 ((h a).1 (.head _))with g|g
   ·exact g
   rcases vX.1 ((h b).2 (.head _))with k|k
   ·exact k.symm
   exact(A a (tr _ _ _ (G.1 _ k) (M.1 _ g))).elim
  subst O;rw[uniq A tr G.2 M.2 fun x=>⟨fun N=>?_,fun N=>?_⟩]
  ·rcases vX.1 ((h x).1 (.tail _ N))with g|g
   ·subst g;exact(A _ (G.1 _ N)).elim
   exact g
  rcases vX.1 ((h x).2 (.tail _ N))with g|g
  ·subst g;exact(A _ (M.1 _ N)).elim
  exact g
theorem b9Q{p q}(h:q.Pairwise (· <·))(A:∀x,x∈q↔x∈p):q=QG p:=
 uniq (fun a h=>oM) (fun a b c h k=>oM) h (c6x p) fun x=>(A x).trans (c1A p x).symm
def KO (a b:Fd):Bool:=if a.k≠b.k then decide (a.k<b.k)else FK a.t b.t
theorem a6D a:KO a a=false:=by unfold KO;rw[zD sI];exact FU _
theorem a5u{a b c}(h:KO a b=true)(g:KO b c=true):KO a c=true:=by
 unfold KO at*
 by_cases h1:a.k=b.k
 ·rw[zD (by simpa using h1)]at h
  by_cases h2:b.k=c.k
  ·rw[zD (by simpa using h2)]at g;rw[zD (by simpa using h1.trans h2)];exact MK h g
  rw[zF h2]at g;rw[h1,zF h2];exact g
 rw[zF h1,zG]at h
 by_cases h2:b.k=c.k
 ·rw[←h2,zF h1,zG];exact h
 rw[zF h2,zG]at g;have A:=Std.lt_trans h g;have G:a.k≠c.k:=fun e=>by rw[e]at A;exact bZ A
 rw[zF G,zG];exact A
def norm (f:Fd):Fd:=⟨f.t,f.k,QG f.p⟩
theorem a4V f:CO (norm f)=CO f:=rfl
structure NZ (xs r:List Fd):Prop where
  JC:r.Pairwise fun a b=>KO a b=true
  mem:∀f,f∈r↔∃id g,grp id xs=some g∧norm g=f
theorem NZ.uniq{xs r s}(h:NZ xs r)(g:NZ xs s):r=s:=
 Bk.uniq (R:=fun a b=>KO a b=true) (fun a h=>by rw[a6D]at h;cases h) (fun _ _ _ h k=>a5u h k) h.JC g.JC fun x=>(h.mem x).trans (g.mem x).symm
def same (a b:Fd):Bool:=(!(a.k == [])) && a.k == b.k || (a.k == [] && b.k == [] && a.t == b.t)
theorem same_iff{a b}:same a b=true↔CO a=CO b:=by
 constructor
 ·intro h;refine b0v ?_ fun A=>?_
  ·unfold same at h;simp only[Bool.or_eq_true,yP,beq_iff_eq]at h;rcases h with h|h
   ·exact h.2
   rw[h.1.1,h.1.2]
  unfold same at h;rw[A]at h;simp only[beq_self_eq_true,Bool.not_true,Bool.false_and,Bool.false_or,yJ,yP,beq_iff_eq]at h;exact h.2
 intro h;have A:=b3T h;unfold same
 by_cases h0:a.k=[]
 ·rw[←A,h0,a9n h h0];simp
 rw[←A];simp[h0]
def a0I:List Fd→Fd→List Fd
 |[],f=>[⟨f.t,f.k,QG f.p⟩]
 |x::r,f=>if same x f then⟨if FK f.t x.t then f.t else x.t,x.k,KU x.p f.p⟩::r else x::a0I r f
def a1y (xs:List Fd):List Fd:=xs.foldl a0I []
theorem a1T xs x:a1y (xs++[x])=a0I (a1y xs) x:=by unfold a1y;rw[xM];rfl
def at1 (id:Idn) (l:List Fd):Option Fd:=l.find? fun f=>decide (CO f=id)
theorem a1u id x r:at1 id (x::r)=if CO x=id then some x else at1 id r:=by
 unfold at1
 by_cases h:CO x=id<;>simp[h]
theorem b8j id f:∀l:List Fd,at1 id (a0I l f)=if CO f=id then some (match at1 id l with|none=>norm f|some x=>⟨if FK f.t x.t then f.t else x.t,x.k,KU x.p f.p⟩)else at1 id l
 |[]=>by unfold a0I;rw[a1u];rfl
 |x::r=>by
  have M:=b8j id f r;unfold a0I
  by_cases hs:same x f=true
  ·rw[zF hs];have A:=same_iff.1 hs;have N:CO (⟨if FK f.t x.t then f.t else x.t,x.k,KU x.p f.p⟩:Fd)=CO x:=a5h (a:=x) (b:=f) A;rw[a1u,a1u,N,←A]
   by_cases h:CO x=id
   ·simp only[zF h]
   simp only[zD h]
  rw[zD hs,a1u,a1u,M];have G:CO x≠CO f:=fun g=>hs (same_iff.2 g)
  by_cases h:CO x=id
  ·rw[zF h,zD (fun g=>G (h.trans g.symm)),zF h]
  rw[zD h,zD h]
theorem c9d id xs:at1 id (a1y xs)=(grp id xs).map norm:=by
 refine ND (P:=fun xs=>at1 id (a1y xs)=(grp id xs).map norm) rfl (fun xs x A=>?_) xs;rw[a1T,b8j,ZK,A];unfold step1
 by_cases h:CO x=id
 ·rw[zF h,zF h];cases hg:grp id xs with
  |none=>rfl
  |some y=>
   show some (⟨_,_,KU (QG y.p) x.p⟩:Fd)=some (norm (a4k y x));unfold norm a4k;rw[b4E]
 rw[zD h,zD h]
theorem b4R f:∀l:List Fd,((a0I l f).map CO)=if CO f∈l.map CO then l.map CO else l.map CO++[CO f]
 |[]=>by simp[a0I,CO]
 |x::r=>by
  have M:=b4R f r;unfold a0I
  by_cases hs:same x f=true
  ·have A:=same_iff.1 hs;rw[zF hs,wF,wF,zF (c:=CO f∈CO x::r.map CO) (by rw[←A];exact .head _)]
   congr 1
   exact a5h (a:=x) (b:=f) A
  have G:CO f≠CO x:=fun g=>hs (same_iff.2 g.symm);rw[zD hs,wF,wF,M]
  by_cases hm:CO f∈r.map CO
  ·rw[zF hm,zF (.tail _ hm)]
  rw[zD hm,zD (fun g=>(vX.1 g).elim G hm)];rfl
theorem a8R xs:((a1y xs).map CO).Nodup:=by
 refine ND (P:=fun xs=>((a1y xs).map CO).Nodup) List.nodup_nil (fun xs x A=>?_) xs;rw[a1T,b4R]
 split
 ·exact A
 rename_i h
 rw[vK];refine⟨A,sI,fun a M b G=>?_⟩;rw[vN]at G;subst G;exact fun e=>h (e▸M)
theorem c5P{l}(h:(l.map CO).Nodup){f}:f∈l↔at1 (CO f) l=some f:=by
 induction l with
 |nil=>simp[at1]
 |cons x r A=>
  rw[wF,vJ]at h;unfold at1
  by_cases he:CO x=CO f
  ·rw[List.find?_cons_of_pos (by simpa using he),vX,Option.some_inj];constructor
   ·rintro(rfl|G)
    ·rfl
    exact absurd (he▸vT G) h.1
   rintro rfl;exact .inl rfl
  rw[List.find?_cons_of_neg (by simpa using he),vX];rw[show List.find? (fun g=>decide (CO g=CO f)) r=at1 (CO f) r from rfl,←A h.2];exact⟨fun h=>h.elim (fun e=>absurd (e▸rfl) he) id,.inr⟩
theorem b4j xs f:f∈a1y xs↔∃id g,grp id xs=some g∧norm g=f:=by
 rw[c5P (a8R xs),c9d];constructor
 ·intro h;cases A:grp (CO f) xs with
  |none=>rw[A]at h;cases h
  |some g=>rw[A]at h;exact⟨_,g,A,sK h⟩
 rintro⟨id,g,A,rfl⟩;rw[a4V,a9x A,A];rfl
theorem b8B{a b}(h:CO a≠CO b):KO a b=true∨KO b a=true:=by
 unfold KO
 by_cases hk:a.k=b.k
 ·rw[zD (by simpa using hk),zD (by simpa using hk.symm)];rcases SB a.t b.t with g|g|g
  ·exact .inl g
  ·exact absurd (b0v hk fun _=>g) h
  exact .inr g
 rw[zF hk,zF (bM hk),zG,zG];rcases Std.le_total (a:=a.k) (b:=b.k)with h1|h1
 ·exact .inl (aP h1 hk)
 exact .inr (aP h1 (bM hk))
end Bk
namespace Bk
open Ix
theorem c9k{xs ls:List Fd}(O:(ls.map CO).Nodup)(N:∀f,f∈ls↔∃id,grp id xs=some f)(Q:ls.Pairwise fun p q=>KO q p=false):NZ xs (ls.map norm):=by
 refine⟨?_,fun f=>?_⟩
 ·rw[uV];have A:=vI.1 O;rw[uV]at A;exact(bH.2 ⟨Q,A⟩).imp fun {a b} ⟨h1,h2⟩=>(b8B h2).resolve_right (by rw[h1];exact yK)
 rw[vU];exact⟨fun⟨g,Z,G⟩=>let ⟨id,M⟩:=(N g).1 Z;⟨id,g,M,G⟩,fun⟨id,g,M,G⟩=>⟨g,(N g).2 ⟨id,M⟩,G⟩⟩
theorem b0g{xs r}(G:r.Perm (a1y xs))(M:r.Pairwise fun p q=>KO q p=false):NZ xs r:=by
 have N:(r.map CO).Nodup:=(G.map _).nodup_iff.2 (a8R xs);refine⟨?_,fun f=>G.mem_iff.trans (b4j xs f)⟩;have A:=vI.1 N;rw[uV]at A;exact(bH.2 ⟨M,A⟩).imp fun {a b} ⟨h1,h2⟩=>(b8B h2).resolve_right (by rw[h1];exact yK)
theorem b7S x y (h:KO x y=true):KO y x=false:=by
 cases hc:KO y x with
 |false=>rfl
 |true=>have:=a5u h hc;rw[a6D]at this;cases this
theorem b7m x y z (h:KO x z=true):KO x y=true∨KO y z=true:=by
 by_cases h1:x.k=y.k
 ·by_cases h2:y.k=z.k
  ·unfold KO at *;rw[zD (by simpa using h1.trans h2)]at h;rw[zD (by simpa using h1),zD (by simpa using h2)];rcases SB x.t y.t with g|g|g
   ·exact .inl g
   ·rw[←g];exact .inr h
   exact .inr (MK g h)
  right
  unfold KO at *;rw[zF (h1▸h2)]at h;rw[zF h2,←h1];exact h
 rcases Std.le_total (a:=x.k) (b:=y.k)with g|g
 ·left
  unfold KO;rw[zF h1,zG];exact aP g h1
 right
 have M:y.k<x.k:=aP g (bM h1)
 by_cases h3:x.k=z.k
 ·have A:y.k≠z.k:=fun e=>h1 (h3.trans e.symm);unfold KO;rw[zF A,zG,←h3];exact M
 unfold KO at h;rw[zF h3,zG]at h;have G:=Std.lt_trans M h;have A:y.k≠z.k:=fun e=>by rw[e]at G;exact bZ G
 unfold KO;rw[zF A,zG];exact G
def OI (xs:List Fd):Nat:=(xs.map fun f=>f.p.length).sum
theorem VB xs ys:OI (xs++ys)=OI xs+OI ys:=by unfold OI;rw[wG,List.sum_append]
theorem a7M x:OI [x]=x.p.length:=by simp[OI]
theorem a6z{id} xs:∀{g:Fd},grp id xs=some g→g.p.length≤OI xs:=by
 refine ND (P:=fun xs=>∀{g:Fd},grp id xs=some g→g.p.length≤OI xs) (fun {g} h=>by cases h) (fun xs x A=>?_) xs;intro g h;rw[VB,a7M];rw[ZK]at h;unfold step1 at h
 split at h
 ·cases hg:grp id xs with
  |none=>
   rw[hg]at h;cases h;show x.p.length≤_;omega
  |some y=>
   rw[hg]at h;cases h;have:=A hg;show(y.p++x.p).length≤_;rw[wV];omega
 have:=A h;omega
theorem b8y{id} xs:∀{g:Fd},grp id xs=some g→id∈xs.map CO:=by
 refine ND (P:=fun xs=>∀{g:Fd},grp id xs=some g→id∈xs.map CO) (fun {g} h=>by cases h) (fun xs x A=>?_) xs;intro g h;rw[ZK]at h;rw[wG,wB];unfold step1 at h
 split at h
 ·rename_i G;exact .inr (by simp[G])
 exact .inl (A h)
end Bk
namespace Go.Proofs.YtalapkjmkjmpjaaGreatDoor
open Go Go.Shelf Go.RowKit Go.Lib Go.Sort
structure Fv where
  f:Bk.Fd
  a:Option Addr
  c:Nat
deriving Inhabited
abbrev Fv.v (x:Fv):Value:= .slice x.a x.f.p.length x.c
abbrev CV (x:Fv):List Value:=[.int .i64 x.f.t.1,.int .i64 x.f.t.2,Sx.str x.f.k,x.v]
theorem CQ x:(CV x).length=4:=rfl
def a8r (x y:Fv):Int:=LP (LY x.f.k y.f.k) (a0g x.f.t y.f.t)
theorem a4r x y:ltOf a8r x y=Bk.KO x.f y.f:=by
 have G:=SQ x.f.t y.f.t;unfold ltOf at G ⊢;unfold a8r Bk.KO LP LY
 by_cases h:x.f.k<y.f.k
 ·have A:x.f.k≠y.f.k:=fun e=>by rw[e]at h;exact wH _ h
  rw[zF h,zF A,zH h];rfl
 rw[zD h]
 by_cases h2:y.f.k<x.f.k
 ·have A:x.f.k≠y.f.k:=fun e=>h (e▸h2);rw[zF h2,zF A,zI h];rfl
 have M:x.f.k=y.f.k:=List.le_antisymm (vH.1 h2) (vH.1 h);rw[zD h2,zD sI,zD (by simpa using M)];exact G
theorem c2W : SWO (ltOf a8r) where
  irrefl x := by rw [a4r]; exact Bk.a6D _
  trans x y z h1 h2 := by rw [a4r] at *; exact Bk.a5u h1 h2
  ntrans x y z h1 h2 := by
    rw [a4r] at *
    cases h : Bk.KO x.f z.f with
    | false => rfl
    | true => rcases Bk.b7m x.f y.f z.f h with g | g
              · rw [h1] at g; cases g
              rw [h2] at g; cases g
theorem c3g{base} l g (hg:cO base 4 l.length (l.flatMap CV) g)(hl:l.length≤100000000000000) I:cZ aA 123 [Sx.gV l.length g,.func (.func 43) #[] #[]] I (bI 52 (l.flatMap CV) g)
 (fun e a1 H'=>∃l':List Fv,l'.Perm l∧l'.Pairwise (fun p q=>Bk.KO q.f p.f=false)∧e= .returned (.tuple #[])∧H'=bI 52 (l'.flatMap CV) g):=by
 cases g with
 |none=>
  obtain⟨h1,h2⟩:=hg;have h0:l=[]:=wR.1 h1;subst h0;exact(aV (aI dD dE rfl) (fun w _=>aG Tryz.c7x none 0 (.func (.func 43) #[] #[]) w)).mono fun e _ H' _ ⟨h1,_,h3⟩=>⟨[],aW _,aS,h1,h3⟩
 |some q=>
  obtain⟨b,c,sp⟩:=q;refine⟨aI dD dE rfl,fun w Q=>?_⟩;have G:=Q.2.1 _ (.head _);have Z:b<w.heap.size:=by
   rcases tC b w.heap.size with h|h
   ·exact h
   rw[yR h]at G;cases G
  have eg:∀args w,(callFunc 43 args).run aA w= .ok (.enter 43 args) w:=enters_of Tryz.func43 kR rfl;have hH:HoldsK CV 4 w b 0 l.toArray:=by
   unfold HoldsK;rw[Sx.KN CQ];exact Sx.XM G
  have M:CmpLays aA 43 #[] CV 4 a8r b 0 l.toArray.size w:=fun m os _ _ x y=>c0I x.f.k y.f.k x.f.t.1 x.f.t.2 y.f.t.1 y.f.t.2 _ _ _;have N:=aN Tryz.c7x 4 XV FH CV CQ (fun x v hv=>by
   simp only[vX,vG,or_false]at hv;rcases hv with rfl|rfl|rfl|rfl<;>rfl) a8r c2W 43 #[] b 0 c l.toArray w eg M hH Z (by simp;omega)
  refine N.mono fun e w' ⟨h1,A,n,os,h2,h3,h4⟩=>?_;rw[aF]at h2 h3;have O:=Sx.UJ h2;have a0:A.size=l.length:=by have:=O.length_eq;simpa using this
  rw[←a0]at h3;refine⟨I,_,?_,A.toList,O,(Sx.sorted_in h3).imp fun h=>?_,h1,rfl⟩
  ·rw[h4];unfold sortWorldK putRowK;rw[show A=A.toList.toArray from(aO (xs:=A)).symm,Sx.KN CQ];exact Sx.St.b3V n os Q (by rw[aJ CQ,aJ CQ,O.length_eq])
  rw[a4r]at h;exact h
theorem c0S{base} l g (hg:cO base 2 l.length (l.flatMap BH) g)(hl:l.length≤100000000000000) I:cZ aA 108 [Sx.gV l.length g,.func (.func 31) #[] #[]] I (bI 56 (l.flatMap BH) g)
 (fun e a1 H'=>∃l':List (List UInt8×Int),l'.Perm l∧l'.Pairwise (fun p q=>¬q.1<p.1)∧e= .returned (.tuple #[])∧H'=bI 56 (l'.flatMap BH) g):=by
 cases g with
 |none=>
  obtain⟨h1,h2⟩:=hg;have h0:l=[]:=wR.1 h1;subst h0;exact(aV (aI bC dE rfl) (fun w _=>aG Tryz.sortL none 0 (.func (.func 31) #[] #[]) w)).mono fun e _ H' _ ⟨h1,_,h3⟩=>⟨[],aW _,aS,h1,h3⟩
 |some q=>
  obtain⟨b,c,sp⟩:=q;refine⟨aI bC dE rfl,fun w Q=>?_⟩;have G:=Q.2.1 _ (.head _);have Z:b<w.heap.size:=by
   rcases tC b w.heap.size with h|h
   ·exact h
   rw[yR h]at G;cases G
  have eg:∀args w,(callFunc 31 args).run aA w= .ok (.enter 31 args) w:=enters_of Tryz.func31 kR rfl;have hH:HoldsK BH 2 w b 0 l.toArray:=by
   unfold HoldsK;rw[Sx.KN DW];exact Sx.XM G
  have M:CmpLays aA 31 #[] BH 2 ZI b 0 l.toArray.size w:=fun m os _ _ x y=>c6M x.1 y.1 x.2 y.2 _;have N:=aN Tryz.sortL 2 dB NQ BH DW (fun x v hv=>by
   simp only[vX,vG,or_false]at hv;rcases hv with rfl|rfl<;>rfl) ZI a6V 31 #[] b 0 c l.toArray w eg M hH Z (by simp;omega)
  refine N.mono fun e w' ⟨h1,A,n,os,h2,h3,h4⟩=>?_;rw[aF]at h2 h3;have O:=Sx.UJ h2;have a0:A.size=l.length:=by have:=O.length_eq;simpa using this
  rw[←a0]at h3;refine⟨I,_,?_,A.toList,O,(Sx.sorted_in h3).imp fun h=>?_,h1,rfl⟩
  ·rw[h4];unfold sortWorldK putRowK;rw[show A=A.toList.toArray from(aO (xs:=A)).symm,Sx.KN DW];exact Sx.St.b3V n os Q (by rw[aJ DW,aJ DW,O.length_eq])
  rw[XR]at h;exact DN h
end Go.Proofs.YtalapkjmkjmpjaaGreatDoor
namespace Go.Proofs
open _root_.Go.Proofs.Tryz
open Go.Shelf
def Tryz.b1L:aU:=⟨fun|4=>76|n=>n,fun|22=>50|25=>3|3=>3|4=>4|9=>9|20=>20|0=>0|n=>n,fun|n=>n⟩
theorem Tryz.growI:dG aA Tryz.b1L:={
 mixed:=kR
 f4:=⟨Tryz.f76.name,dE,func76.trans (zC some kR)⟩
 t0:=underlying0
 a0:=isAgg0
 z0:=sizeOf0
 v0:=zeroValue0
 t3:=underlying3
 a3:=isAgg3
 z3:=sizeOf3
 v3:=zeroValue3
 t4:=underlying4
 a4:=isAgg4
 z4:=sizeOf4
 v4:=zeroValue4
 t9:=underlying9
 a9:=isAgg9
 z9:=sizeOf9
 v9:=zeroValue9
 t20:=underlying20
 a20:=isAgg20
 z20:=sizeOf20
 v20:=zeroValue20
 t22:=underlying50
 a22:=isAgg50
 z22:=sizeOf50
 v22:=zeroValue50 }
end Go.Proofs
namespace Go.Sx
open Go
def YSG {σ:Type} (P:Program) (l:Nat) (nx:Heap→σ→List Value→σ→Prop) (Y:σ→Heap→HL→Prop) (Z:Heap→HL→Prop):Prop:=
 ∀s args s' I H,nx I s args s'→Y s I H→YC P l args I H (fun e I' H'=>(e= .returned (.bool true)∧Y s' I' H')∨(e= .returned (.bool false)∧Z I' H'))
def a2v {σ:Type} (P:Program) (f:FuncId) (fst cap:List Value) (I:Heap) (s0:σ) (nx:Heap→σ→List Value→σ→Prop) (fin:σ→Prop):Prop:=
 Enters P f∧∀(l:Nat) (Y:σ→Heap→HL→Prop) (Z:Heap→HL→Prop),(∀s I1 I2 H,Le I1 I2→Y s I1 H→Y s I2 H)→YSG P l nx Y Z→
  ∀H,Y s0 I H→yY P f (fst++[.func (.yield l) #[] #[]]++cap) I H (fun e I' H'=>e= .returned (.tuple #[])∧((∃s,fin s∧Y s I' H')∨Z I' H'))
section
variable {σ:Type} {cx:Cx} {Q:Qt} {e:Env} {I:Heap} {H:HL} {l:Nat} {r:Loop}
theorem Cj.a4p{g ps assign body f a4 a5 H1 R} s0 (nx:Heap→σ→List Value→σ→Prop)(fin:σ→Prop)(Y:σ→Heap→HL→Prop)(Z:Code→Heap→HL→Prop)
 (hr:cx.rd=none)(ai:∀t∈ps,Nat.blt t cx.n=true)(ae:∀I s args s',nx I s args s'→args.length=ps.length)(hg:ev e g=some (.func (.func f) a4.toArray a5.toArray))(a8:a2v cx.P f a4 a5 I s0 nx fin)
 (ab:∀k M I2 H,Le M I2→Y k M H→Y k I2 H)(h0:Y s0 I H1)
 (round:∀l r k args k2 M G w0,nx M k args k2→Le I M→Y k M G→
  Cj ⟨cx.P,cx.n,w0,l::G.map (·.1),M,[],some l⟩ (c7d ⟨cx.P,cx.n,w0,l::G.map (·.1),M,[],some l⟩ l r body (RdQ ⟨cx.P,cx.n,w0,l::G.map (·.1),M,[],some l⟩ l r (Y k2) Z)) assign (a9f ps args e) M ((l,.loop r)::G))
 (done:∀b s I' H',fin s→Le I I'→Y s I' H'→Ej { cx with ds:=NJ b::cx.ds } Q .normal e I' ((b,.deferred (some []))::(H'++R)))
 (left:∀b c I' H',Le I I'→Z c I' H'→Cj { cx with ds:=NJ b::cx.ds } Q c e I' ((b,.deferred (some []))::(H'++R))):
 Cj cx Q (.rangeFunc g ps.toArray assign body) e I (H1++R):=by
 intro a w ha aj;rw[Cx.wide hr];refine wpIn_rangeFunc fun fn _=>?_;obtain⟨r,N⟩:∃r:Loop,r={ state:= .ready,pending:=none,fn:=fn,tmps:=a.tmps,params:=ps.toArray,assign:=assign,body:=body,defers:=w.heap.size }:=⟨_,rfl⟩;obtain⟨l,hl⟩:∃l,l=w.heap.size+1:=⟨_,rfl⟩;have a1:St cx.w0 cx.D cx.I0 I (((l,.loop r)::H1)++((w.heap.size,.deferred (some []))::R)) ((w.alloc (.deferred (some []))).alloc (.loop r)):=by
  have h1:=(aj.alloc (.deferred (some []))).alloc (.loop r);have h2:(w.heap.push (.deferred (some []))).size=l:=by rw[hl,Array.size_push]
  rw[h2]at h1;refine h1.perm ?_;show((l,Obj.loop r)::(H1++(w.heap.size,Obj.deferred (some []))::R)).Perm _;exact List.Perm.cons _ uP
 let Y':σ→Heap→HL→Prop:=fun k M H=>Le I M∧∃G,H=(l,.loop r)::G∧Y k M G
 let Z':Heap→HL→Prop:=fun M H=>∃c G,H=(l,.loop { r with state:= .done,pending:=some c })::G∧Z c M G
 have al:YSG cx.P l nx Y' Z':=by
  rintro k args k2 M H hk ⟨a0,G,rfl,hY⟩ w1 A;have am:w1.heap[l]?=some (.loop r):=A.2.1 _ (.head _);have an:=ae _ _ _ _ hk;refine⟨r.fn,_,r.assign,r.body,run_yield am (by rw[N];simp[an]),roundIn_of_wpIn trivial ?_⟩;have hz:(r.params.zip args.toArray).foldl (fun tmps (x:Tmp×Value)=>tmps.setIfInBounds x.1 x.2) r.tmps=(ps.zip args).foldl (fun tmps (x:Tmp×Value)=>tmps.setIfInBounds x.1 x.2) a.tmps:=by
   rw[N];simp[List.zip_toArray]
  have a9:=Has.zip (n:=cx.n) ps args e a.tmps ai ⟨ha.size,rfl,ha.get⟩;rw[←hz]at a9;have hc:=round l r k args k2 M G w1 hk a0 hY _ _ a9 (St.start w1 M ((l,.loop r)::G) A.1 A.2.1 A.2.2.1 A.2.2.2);have e1:r.assign=assign:=by rw[N]
  have e2:r.body=body:=by rw[N]
  rw[e1,e2];refine wpIn_mono hc ?_;rintro x a2 _ hq;cases x with
  |normal=>
   obtain⟨e2,I2,_,a6,ac,hb⟩:=hq;refine⟨_,run_beginRound (ac.own _ (.head _)) (by rw[N]),?_⟩;have ao:=ac.block (i:=0) (o':= .loop { r with state:= .busy }) rfl bK;refine wpIn_mono (hb a2 _ a6 ao) ?_;rintro x _ _ hq3;cases x with
   |normal=>
    obtain⟨I3,H3,O,ap⟩:=hq3;refine⟨_,_,run_endRound none (O.own _ (.head _)),I3,(l,.loop r)::H3,?_,.inl ⟨rfl,a0.trans O.le,H3,rfl,ap⟩⟩;have:=O.block (i:=0) (o':= .loop r) rfl bK;rw[N]at this ⊢;exact this
   |ret=>
    obtain⟨I3,H3,O,aa⟩:=hq3;exact⟨_,_,run_endRound (some .ret) (O.own _ (.head _)),I3,_,O.block (i:=0) rfl bK,.inr ⟨rfl,_,H3,rfl,aa⟩⟩
   |exit id=>
    obtain⟨I3,H3,O,aa⟩:=hq3;exact⟨_,_,run_endRound (some (.exit id)) (O.own _ (.head _)),I3,_,O.block (i:=0) rfl bK,.inr ⟨rfl,_,H3,rfl,aa⟩⟩
   |goto t=>exact hq3.elim
   |panic ch=>exact hq3.elim
   |outgrown=>exact hq3.elim
  |exit id=>exact hq.elim
  |goto t=>exact hq.elim
  |ret=>exact hq.elim
  |panic ch=>exact hq.elim
  |outgrown=>exact hq.elim
 have af:=a8.2 l Y' Z' (fun k M I2 H a0 ⟨h1,G,h2,h3⟩=>⟨h1.trans a0,G,h2,ab _ _ _ _ a0 h3⟩) al ((l,.loop r)::H1) ⟨bP _,H1,rfl,h0⟩;have A:Ready I ((l,.loop r)::H1) ((w.alloc (.deferred (some []))).alloc (.loop r)):=⟨a1.sub,fun p hp=>a1.own p (vZ _ hp),by
  have:=a1.nodup;rw[wG,vK]at this;exact this.1,fun p hp=>a1.dis p (vZ _ hp)⟩
 have ag:(Instr.enterLoop fn a.tmps ps.toArray assign body none).run cx.P w= .ok (l,[NJ w.heap.size]) ((w.alloc (.deferred (some []))).alloc (.loop r)):=by
  rw[hl,N];exact run_enterLoop_outer fn a.tmps ps.toArray assign body
 refine⟨l,[NJ w.heap.size],(w.alloc (.deferred (some []))).alloc (.loop r),⟨.fn (.func f) a5.toArray,(a4++[bV (.yield l) #[] #[]]).toArray⟩,(w.alloc (.deferred (some []))).alloc (.loop r),f,(a4++[bV (.yield l) #[] #[]]++a5).toArray,(w.alloc (.deferred (some []))).alloc (.loop r),ag,?_,fun _ _=>trivial,?_,fun h=>by simp[Fence.wide]at h,callsIn_wide.2 ?_⟩
 ·have he:a.eval (.const (.func (.yield l) #[] #[]))= .func (.yield l) #[] #[]:=rfl;simp[resolve,ha.eval hg,Deferred.ofValue,he]
 ·have h:=MX a8.1 (a4++[bV (.yield l) #[] #[]]++a5).toArray ((w.alloc (.deferred (some []))).alloc (.loop r));simpa[invoke]using h
 refine(af.2 _ A).mono ?_;rintro _ w' ⟨I',H',ad,rfl,aq⟩;have a3:=a1.call ad;have a0:=ad.le;have a6:Has { a with defers:=[NJ w.heap.size]++a.defers } cx.n e (NJ w.heap.size::cx.ds):=⟨ha.size,by simp[ha.defs],ha.get⟩;rcases aq with⟨sE,ah,_,G,rfl,hY⟩|⟨c,G,rfl,hZ⟩
 ·refine⟨_,_,run_endLoop (a3.own _ (.head _)) (by rw[N];simp),?_⟩;have a7:=((a3.block (i:=0) (o':= .loop { r with state:= .exhausted }) rfl bK).sublist (uJ _ _)).perm (H':=(w.heap.size,.deferred (some []))::(G++R)) uP.symm;have hp:r.pending=none:=by rw[N]
  rw[hp]at a7 ⊢;exact done w.heap.size sE I' G ah a0 hY _ _ a6 a7
 refine⟨_,_,run_endLoop (a3.own _ (.head _)) sI,?_⟩;have a7:=((a3.block (i:=0) (o':= .loop { { r with state:= .done,pending:=some c }with state:= .exhausted }) rfl bK).sublist (uJ _ _)).perm (H':=(w.heap.size,.deferred (some []))::(G++R)) uP.symm;have hw:=left w.heap.size c I' G a0 hZ _ _ a6 a7;have hF:({ cx with ds:=NJ w.heap.size::cx.ds }:Cx).F=Fence.wide:=Cx.wide hr;rw[hF]at hw;exact hw
end
section
variable {P:Program} {K i:TypeId} {f0 f1:Field}
theorem a4N{b t}(A:P.underlying t=some .string) a d w:(aH b (d+1) t (str a)).run P w= .ok () w:=by simp[aH,run_underlying A]
theorem a2g{t}(A:P.underlying t=some .string) a b d w:(aQ (d+1) t (str a) (str b)).run P w= .ok (a == b) w:=by
 have h:((⟨a.toArray⟩:ByteArray) == ⟨b.toArray⟩)=(a == b):=by
  show(a.toArray == b.toArray)=(a == b);simp
 simp[aQ,run_underlying A,str,h]
theorem FT.d0t(N:P.underlying K=some (.struct #[f0,f1]))(hp:P.stoodInHeld K=false)(O:f0.name≠ "_")(Q:f1.name≠ "_")(Z:f0.offset=0)(o1:f1.offset=1)(t0:f0.type=i)(A:f1.type=i)(G:P.underlying i=some .string)(M:∀w,(isAgg i).run P w= .ok false w):
 FT P K (fun a:List UInt8×List UInt8=> .agg #[str a.1,str a.2]):=by
 subst t0;refine FT.equal N (fun a b=>rfl) (fun a b w=>?_) (fun b a w=>?_) (fun a=>?_)
 ·have h:=VE N hp O Q Z o1 M (A▸M) (x0:=str a.1) (x1:=str a.2) (y0:=str b.1) (y1:=str b.2) w (fun d w=>a2g G a.1 b.1 d w) (fun d w=>a2g (A▸G) a.2 b.2 d w) 9998;exact h
 ·exact a2A N O Q Z o1 M (A▸M) b w (fun d w=>a4N G _ d w) (fun d w=>a4N (A▸G) _ d w) 9998
 show aX (9999+1) _ _=true;have h:=fun x n=>a1n x n;simp[aX,h]
end
section
variable {P:Program} {K L i s:TypeId} {f0 f1 g0 g1:Field}
theorem c2a{xs ys t off n w}(A:∀w,(isAgg t).run P w= .ok true w)(G:∀w,(sizeOf t).run P w= .ok n w)(M:xs.extract off (off+n)=ys):(part t xs off).run P w= .ok (.agg ys) w:=by
 simp[part,A,G,M]
theorem FT.c9o(N:P.underlying K=some (.struct #[f0,f1]))(hp:P.stoodInHeld K=false)(n0:f0.name≠ "_")(n1:f1.name≠ "_")(o0:f0.offset=0)(o1:f1.offset=1)(t0:f0.type=s)(O:f1.type=L)(hs:P.underlying s=some .string)(a2:∀w,(isAgg s).run P w= .ok false w)
 (hL:P.underlying L=some (.struct #[g0,g1]))(a3:P.stoodInHeld L=false)(m0:g0.name≠ "_")(m1:g1.name≠ "_")(q0:g0.offset=0)(q1:g1.offset=1)(r0:g0.type=i)(Q:g1.type=i)(Z:P.underlying i=some (.int .i64))(A:∀w,(isAgg i).run P w= .ok false w)(a4:∀w,(isAgg L).run P w= .ok true w)(a5:∀w,(sizeOf L).run P w= .ok 2 w):
 FT P K (fun a:List UInt8×(Int×Int)=> .agg #[str a.1,i64 a.2.1,i64 a.2.2]):=by
 subst r0;have hf:P.fieldsOf K= #[f0,f1]:=by simp[Program.fieldsOf,N]
 have p0:∀(x y z:Value) w,(part f0.type #[x,y,z] f0.offset).run P w= .ok x w:=fun x y z w=>a0s (by rw[t0];exact a2) (by rw[o0];rfl);have p1:∀(x y z:Value) w,(part f1.type #[x,y,z] f1.offset).run P w= .ok (.agg #[y,z]) w:=fun x y z w=>c2a (by rw[O];exact a4) (by rw[O];exact a5) (by rw[o1];rfl);refine FT.equal N (fun a b=>rfl) (fun a b w=>?_) (fun b a w=>?_) (fun a=>?_)
 ·have M:∀d w,(aQ (d+1) f0.type (str a.1) (str b.1)).run P w= .ok (a.1 == b.1) w:=fun d w=>by rw[t0];exact a2g hs a.1 b.1 d w
  have G:∀d w,(aQ (d+2) f1.type (.agg #[i64 a.2.1,i64 a.2.2]) (.agg #[i64 b.2.1,i64 b.2.2])).run P w= .ok ((a.2.1 == b.2.1) && (a.2.2 == b.2.2)) w:=fun d w=>by
   rw[O];exact VE hL a3 m0 m1 q0 q1 A (Q▸A) (x0:=i64 a.2.1) (x1:=i64 a.2.2) (y0:=i64 b.2.1) (y1:=i64 b.2.2) w (fun d w=>run_equalIn_int w d _ .i64 .i64 a.2.1 b.2.1 Z) (fun d w=>run_equalIn_int w d _ .i64 .i64 a.2.2 b.2.2 (Q▸Z)) d
  have key:∀b0 b1:Bool,(∀d w,(aQ (d+1) f0.type (str a.1) (str b.1)).run P w= .ok b0 w)→(∀d w,(aQ (d+2) f1.type (.agg #[i64 a.2.1,i64 a.2.2]) (.agg #[i64 b.2.1,i64 b.2.2])).run P w= .ok b1 w)→(aQ (9997+3) K (.agg #[str a.1,i64 a.2.1,i64 a.2.2]) (.agg #[str b.1,i64 b.2.1,i64 b.2.2])).run P w= .ok (b0 && b1) w:=fun b0 b1 M G=>by
   rw[run_equalIn_struct w (9997+2) K _ _ (by rw[hf];exact N) hp,hf];simp only[Op.eqFields,n0,n1,ne_eq,not_false_eq_true,if_true,bD,p0,p1,M,G,bT];cases b0
   ·simp
   cases b1<;>simp[bD,p1,G]
  exact key _ _ M G
 ·have M:∀d w,(aH b (d+1) f0.type (str a.1)).run P w= .ok () w:=fun d w=>by rw[t0];exact a4N hs _ d w
  have G:∀d w,(aH b (d+2) f1.type (.agg #[i64 a.2.1,i64 a.2.2])).run P w= .ok () w:=fun d w=>by
   rw[O];exact a2A hL m0 m1 q0 q1 A (Q▸A) b w (fun d w=>a1Q Z _ d w) (fun d w=>a1Q (Q▸Z) _ d w) d
  have a0:=M 9998;have a1:=G 9997;show(aH b (9999+1) K (.agg #[str a.1,i64 a.2.1,i64 a.2.2])).run P w=_;generalize hc:aH b (9998+1)=ck at a0 a1;rw[aH];rw[show(9999:Nat)=9998+1 from rfl,hc];simp[bD,run_underlying N,n0,n1,p0,p1,a0,a1]
 show aX (9998+2) _ _=true;have h:=fun x n=>a1n x n;simp[aX,h]
end
end Go.Sx
namespace Go.Sx
open Go Go.Sort Go.Proofs
section
variable {α:Type} [Inhabited α] {enc:α→Value}
omit [Inhabited α] in
theorem b0H{l:List α}{sp}{k:Nat}{x}(h:l[k]?=some x):(l.map enc++sp)[k]?=some (enc x):=by
 obtain⟨A,_⟩:=xC.1 h;rw[xJ (by simpa using A),xB,h];rfl
theorem a9w{w b T}{l:List α}{sp}(h:w.heap[b]?=some (yV T (l.map enc++sp))):Holds enc w b 0 l.toArray:=fun j A=>by
 have G:j<l.length:=by simpa using A
 have h1:(l.map enc++sp)[j]?=some (enc l[j]):=b0H (xG G);have h2:l.toArray[j]! =l[j]:=by rw[getElem!_pos _ j A];simp
 refine⟨?_,?_⟩
 ·rw[h2];simp only[dF,h,yV,sS];simpa using h1
 simp only[bY,h,yV];simp
theorem c5V{l l':List α}{sp}(A:l'.length=l.length):putCells enc 0 l'.toArray (l.map enc++sp).toArray=(l'.map enc++sp).toArray:=by
 apply yT
 intro k;simp only[putCells,bG,wY,aF,sQ,true_and,sS,Nat.sub_zero];rcases tC k l.length with h|h
 ·have h1:(l.map enc++sp)[k]?=some (enc l[k]):=b0H (xG h);have h2:(l'.map enc++sp)[k]?=some (enc (l'[k]'oM)):=b0H (xG oM);have h3:l'.toArray[k]! =l'[k]'oM:=by rw[getElem!_pos _ k (by simpa using(oM:k<l'.length))];simp
  rw[h1,h2,sN,zF oM,h3]
 rw[xI (by simpa using h),xI (by simp;omega),wO,wO,A];cases sp[k-l.length]? with
 |none=>rfl
 |some v=>rw[sN,zD oM]
theorem St.d0k{w I b T}{l l':List α}{sp} n os (hr:Ready I [(b,yV T (l.map enc++sp))] w)(hl:l'.length=l.length):
 St w [b] I I [(b,yV T (l'.map enc++sp))] (grow (putRow enc (aC w n) b 0 l'.toArray) os):=by
 obtain⟨r1,r2,_,Z⟩:=hr;have hb:=r2 _ (vN.2 rfl);have N:∀{c:Nat} {o':Obj},w.heap[c]?=some o'→c<w.heap.size:=fun {c o'} A=>by
  rcases tC c w.heap.size with O|O
  ·exact O
  simp[yR O]at A
 have a1:(putRow enc (aC w n) b 0 l'.toArray).heap.size=w.heap.size:=by simp[putRow,mapBlock,aC]
 have G:∀c,c<w.heap.size→c≠b→(grow (putRow enc (aC w n) b 0 l'.toArray) os).heap[c]?=w.heap[c]?:=fun c A a0=>by
  simp only[grow];rw[yS oM];simp only[putRow,mapBlock,aC,yQ,zD (bM a0)]
 have Q:(grow (putRow enc (aC w n) b 0 l'.toArray) os).heap[b]?=some (yV T (l'.map enc++sp)):=by
  have a2:=N hb;simp only[grow];rw[yS oM];simp only[putRow,mapBlock,aC,yQ,if_true];rw[hb];simp only[sN,onCells,yV];rw[c5V hl]
 refine⟨rfl,rfl,rfl,?_,?_,?_,?_,sI,?_,?_,fun _ _=>rfl,bP _,a2u⟩
 ·simp only[grow,bQ];omega
 ·intro c A hd;exact G c A (by simpa using hd)
 ·intro c o A;have h1:=r1 c o A;refine(G c (N h1) ?_).trans h1;rintro rfl;have:=Z _ (vN.2 rfl);rw[this]at A;cases A
 ·intro p M;rw[vN.1 M];exact Q
 ·intro p M;rw[vN.1 M];exact Z (b,yV T (l.map enc++sp)) (vN.2 rfl)
 intro p M;rw[vN.1 M];exact .inl (.head _)
end
end Go.Sx
namespace Go.Sx
open Go
def a3T (a:Option Addr) (c j sz:Nat):Option Addr:=if c=j then a else a.map (·.add (j*sz))
section
variable {cx:Cx} {o:Oper} {e:Env} {S:World→Prop}
theorem b1T{x y z}{T E n c sz j k:Nat}{a kl N G}(O:o.op= .slice T x (some y) (some z) none)(Q:ev e x=some (.slice a n c))(Z:ev e y=some (.int kl (j:Int)))(hz:ev e z=some (.int N G))(hu:cx.P.underlying T=some (.slice E))(M:∀w,(sizeOf E).run cx.P w= .ok sz w)(hk:G=(k:Int))(hj:j≤k)(hc:k≤c):
 BN cx o e S (.slice (a3T a c j sz) (k-j) (c-j)):=by
 intro w0 w A _;subst hk;have h1:(k:Int)≤c:=oM;have h2:(j:Int)≤k:=oM;unfold a3T;simp[execOp,O,A.eval Q,A.eval Z,A.eval hz,aY,bF,run_underlying hu,aT,run_sliceBound,h1,h2,M]
theorem MH{x y}{T E n c sz j:Nat}{a kl A}(O:o.op= .slice T x (some y) none none)(Q:ev e x=some (.slice a n c))(Z:ev e y=some (.int kl A))(hu:cx.P.underlying T=some (.slice E))(G:∀w,(sizeOf E).run cx.P w= .ok sz w)(M:A=(j:Int))(hj:j≤n)(hc:n≤c):
 BN cx o e S (.slice (a3T a c j sz) (n-j) (c-j)):=by
 intro w0 w N _;subst M;have h1:(j:Int)≤n:=oM;unfold a3T;simp[execOp,O,N.eval Q,N.eval Z,aY,bF,run_underlying hu,aT,run_sliceBound,h1,G]
theorem IG{x z}{T E n c sz k:Nat}{a M A}(N:o.op= .slice T x none (some z) none)(O:ev e x=some (.slice a n c))(Q:ev e z=some (.int M A))(Z:cx.P.underlying T=some (.slice E))(G:∀w,(sizeOf E).run cx.P w= .ok sz w)(hk:A=(k:Int))(hc:k≤c):
 BN cx o e S (.slice a k c):=by
 subst hk;exact a4l N O Q Z G hc
end
theorem b2k{α:Type}{f sz}(A:∀x,(f x).length=sz):∀(l:List α) (j:Nat) (sp:List Value),j≤l.length→(l.flatMap f++sp).drop (j*sz)=(l.drop j).flatMap f++sp
 |l,0,sp,_=>sI
 |[],j+1,sp,h=>by simp at h
 |a::r,j+1,sp,h=>by
  rw[xO,yE,show(j+1)*sz=(f a).length+j*sz by rw[A,Nat.add_mul];omega,←xY,List.drop_left,List.drop_succ_cons];exact b2k A r j sp (by simpa using h)
theorem zJ.cut{α:Type}{f:α→List Value}{sz:Nat}(G:∀x,(f x).length=sz){I l a n c}(h:zJ f I l (.slice a n c)){j k:Nat}(Z:j≤k)(hk:k≤l.length):zJ f I ((l.drop j).take (k-j)) (.slice (a3T a c j sz) (k-j) (c-j)):=by
 obtain⟨_,_,M,_,N⟩:=h;cases M;refine⟨_,c-j,by rw[wI,wS];congr 1;omega,by rw[wI,wS];omega,fun A=>?_⟩;have Q:j<k:=by
  rcases tC j k with g|g
  ·exact g
  exact absurd (by rw[show k-j=0 by omega,List.take_zero]) A
 have O:l≠[]:=fun e=>A (by rw[e];simp);obtain⟨b,o,cs,t,fr,sp,h1,h2,h3⟩:=N O;subst h1;refine⟨b,o+j*sz,cs,t,fr,((l.drop j).drop (k-j)).flatMap f++sp,?_,h2,?_⟩
 ·unfold a3T;rw[zD oM,sN,Addr.add_lit]
 rw[←xY,h3,b2k G l j sp oM,←yE,←xP,uD]
section
variable {cx:Cx} {Q:Qt} {o:Oper} {e:Env} {I:Heap} {H:HL} {C:Ct} {S:World→Prop}
theorem c6D{x T E b off n c sz t cs z} i (ho:o.op= .call ⟨.builtin .clear,#[x],#[T]⟩)(hd:o.dst=none)(hx:ev e x=some (.slice (some ⟨b,off,none⟩) n c))(hn:0<n)(hu:cx.P.underlying T=some (.slice E))(hz:∀w,(zeroValue E).run cx.P w= .ok z w)
 (O:z.cells.size=sz)(a3:0<sz)(Z:z.cells.toList.all Value.oneCell'=true)(G:H[i]?=some (b,yV t cs))(a2:off+n*sz≤cs.length)(k:∀vs H',vs.length=n*sz→BL H i (b,yV t (cs.take off++vs++cs.drop (off+n*sz))) H'→C e I H'):EZ cx Q o e I H C:=by
 intro K hK a w ha hs;unfold Oper.wp;have hb:=hs.own _ (vS G);have A:(aB z.cells n).toList.length=n*sz:=by simp[aB,O]
 have M:∀v∈(aB z.cells n).toList,v.oneCell'=true:=fun v hv=>by
  simp only[aB,Array.toList_map,vU]at hv;obtain⟨j,_,rfl⟩:=hv;have a0:j % z.cells.size<z.cells.size:=Nat.mod_lt _ oM;rw[getElem!_pos z.cells _ a0];exact yG.1 Z _ sI
 have N:AX cs (off+0) (aB z.cells n).toList (cs.take off++(aB z.cells n).toList++cs.drop (off+n*sz)):=⟨by rw[A];omega,by rw[A,Nat.add_zero]⟩;have a1:=MP (P:=cx.P) (t:=t) (aB z.cells n).toList 0 w cs hb (.inl rfl) (by rw[A];omega) M _ N;obtain⟨n,rfl⟩:∃m,n=m+1:=⟨n-1,oM⟩;have:(execOp a.eval o).run cx.P w= .ok (.value (.tuple #[])) (World.block w b (yV t (cs.take off++(aB z.cells (n+1)).toList++cs.drop (off+(n+1)*sz)))):=by
  simp only[execOp,ho,resolve,invoke,builtin,Builtin.clear_,bD,Sem.run_pure,bT];simp[ha.eval hx,run_underlying hu,hz,a1,yV,yE]
 rw[this];simp only[Oper.upon,hd];have hset:BL H i (b,yV t (cs.take off++(aB z.cells (n+1)).toList++cs.drop (off+(n+1)*sz))) (H.set i (b,yV t (cs.take off++(aB z.cells (n+1)).toList++cs.drop (off+(n+1)*sz)))):=⟨(xC.1 G).1,rfl⟩;exact hK _ _ _ (k _ _ A hset) _ _ ha.XB (hs.block G hset)
theorem b1w{x y z}{T E n c sz k m:Nat}{a kl kh}(M:o.op= .slice T x none (some y) (some z))(N:ev e x=some (.slice a n c))(O:ev e y=some (.int kl (k:Int)))(Q:ev e z=some (.int kh (m:Int)))(Z:cx.P.underlying T=some (.slice E))(G:∀w,(sizeOf E).run cx.P w= .ok sz w)(a0:k≤m)(a1:m≤c):
 BN cx o e S (.slice a k m):=by
 intro w0 w A _;have h1:(k:Int)≤m:=oM;have h2:(m:Int)≤c:=oM;cases a with
 |none=>simp[execOp,M,A.eval N,A.eval O,A.eval Q,aY,bF,run_underlying Z,aT,run_sliceBound,h1,h2,G]
 |some q=>simp[execOp,M,A.eval N,A.eval O,A.eval Q,aY,bF,run_underlying Z,aT,run_sliceBound,h1,h2,G,Addr.add]
end
def QA {α:Type} (T:TypeId) (f:α→List Value) (l:List α) (v:Value) (H:HL):Prop:=(l=[]∧v= .slice none 0 0∧H=[])∨∃b c sp,v= .slice (some ⟨b,0,none⟩) l.length c∧l.length≤c∧H=[(b,yV T (l.flatMap f++sp))]
theorem QA.c7f{α:Type}{T}{f:α→List Value}{sz base n:Nat}{l:List α}{g}(M:∀x,(f x).length=sz)(A:0<sz)(N:n=l.length)(G:AL base sz n (l.flatMap f) g):QA T f l (gV n g) (gH T (l.flatMap f) g):=by
 subst N;cases g with
 |none=>
  obtain⟨h1,h2⟩:=G;exact .inl ⟨wR.1 h1,by rw[h1];rfl,rfl⟩
 |some q=>
  obtain⟨b,c,sp⟩:=q;obtain⟨h1,h2,h3⟩:=G;have O:l.length≤c:=by
   rw[BZ M]at h3;exact Nat.le_of_mul_le_mul_right (oM:l.length*sz≤c*sz) A
  exact .inr ⟨b,c,sp,rfl,O,rfl⟩
section
variable {cx:Cx} {Q:Qt} {e:Env} {I:Heap} {R H1:HL} {T:TypeId} {α:Type} {l:List α} {f:α→List Value} {v:Value}
theorem b1G{X:Heap→HL→Prop}{base}(h:QA T f l v H1)(M:∀p∈H1,base≤p.1)(N:∀b o,base≤b→(∀A,Le I A→A b=some o→X A R)→X I ((b,o)::R))(k:∀A,Le I A→RV T f A l v→X A R):X I (H1++R):=by
 rcases h with⟨rfl,rfl,rfl⟩|⟨b,c,sp,rfl,O,rfl⟩
 ·exact k I (bP _) RV.nil
 exact N b _ (M _ (.head _)) fun A G Q=>k A G ⟨_,c,rfl,O,fun _=>⟨b,sp,rfl,Q⟩⟩
theorem J.a3A{A r}(h:QA T f l v H1)(G:∀p∈H1,cx.w0.heap.size≤p.1)(k:∀M,Le I M→RV T f M l v→J cx Q A r e M R):J cx Q A r e I (H1++R):=b1G (X:=fun I H=>J cx Q A r e I H) h G (fun _ _ G k=>J.persist G k) k
end
end Go.Sx
namespace Go.Sx
open Go Go.RowKit
theorem yY.d0o{P f args I T sz n vals}(he:Enters P f)
 (h:∀w,(∀b o,I b=some o→w.heap[b]?=some o)→Calls P f args.toArray w fun e w'=>∃v',e= .returned v'∧w'.ownsRow w.heap.size T sz v' n vals∧v'≠ .slice none 0 0∧Below w.heap.size w w'):
 yY P f args I [] (fun e _ H'=>∃g,AL 0 sz n vals g∧e= .returned (gV n g)∧H'=gH T vals g):=by
 refine⟨he,fun w hw=>(h w hw.1).mono ?_⟩;rintro e w' ⟨v',rfl,M,a2,N⟩;obtain⟨r1,-,-,-⟩:=hw;have a0:∀{b:Nat} {o:Obj},I b=some o→b<w.heap.size:=fun {b o} O=>by
  have:=r1 b o O;rcases tC b w.heap.size with h'|h'
  ·exact h'
  rw[yR h']at this;cases this
 obtain⟨Q,M⟩:=M;obtain⟨A,Z,G,rfl,hA,hc,hn,-,a3,a4⟩:=M.resolve_left fun g=>a2 g.1;have a1:(.cells G T (0,0):Obj)=yV T (vals++G.toList.drop (n*sz)):=by
  unfold yV;rw[←a4,uD]
 rw[a1]at hc;have a5:St w [] I I [(A,yV T (vals++G.toList.drop (n*sz)))] w':=
  ⟨N.os,N.tape,N.output,N.size,fun b O _=>N.block b O,fun b o O=>by rw[N.block b (a0 O)];exact r1 b o O,fun p hp=>by rw[vN.1 hp];exact hc,sI,fun p hp=>by
   rw[vN.1 hp];cases hI:I A with
   |none=>rfl
   |some o=>have:=a0 hI;omega,fun p hp=>by rw[vN.1 hp];exact .inr hA,fun _ _=>rfl,bP _,a2u⟩
 refine⟨_,_,a5,some (A,Z,G.toList.drop (n*sz)),⟨sQ _,Q,?_⟩,rfl,rfl⟩;have a6:n*sz≤Z*sz:=sU _ hn;have h1:G.toList.length=Z*sz:=by rw[←a3];exact Array.length_toList
 rw[wS,h1,Q];omega
