/-
  The law BrokerAsks. Own text, printed by a program. Conditions: none.
-/
import Derived.Test.YtalapkjmkjmpjaaGreatDoorNmK
import Derived.Test.YtalapkjmkjmpjaaGreatDoorPK22
import Derived.Test.YtalapkjmkjmpjaaGreatDoorPK21
set_option linter.all false
set_option maxHeartbeats 40000000
set_option maxRecDepth 100000
open List renaming map_take -> aA
open Prod renaming snd -> aB
namespace Go.Proofs.YtalapkjmkjmpjaaGreatDoor
open Go Go.Sx
theorem b2Z L v c q (aa:∀x∈L,a0u x.l)(hq:q.raw.length≤1048576) I (hT:NP I)(ht:Tabs I)(hL:a1o I L v):Pure Tryz.prog 3 [v,u8 c,.agg (qzC q).toArray] I (.bool true):=by
 refine yY.toPure ?_;have ab:=Bk.c3j q.k q.a q.b q.raw;have ar:q.t.length≤1100000:=FD ab oM;refine zN Tryz.func3 fun w0 _=>?_;refine yU 3 ?_;intro _ _;refine zO (c2z _ hT ht) ?_;refine zX (b6a L v c aa _ hL) ?_;intro _ _ _ Z ac;have hT:=hT.mono Z;have ht:=ht.mono Z;obtain⟨xs,bs,_,wb,h,a2,M,A,rfl⟩:=ac;cases h;have h8:=A.lens;have au:=A.few;obtain⟨pl,cl,rfl⟩:=rowLen a2.1;obtain⟨_,_,rfl⟩:=rowLen M.1;refine yU 8 ?_;refine Cj.EX [0] [] 11 kR ?_;refine zO (b5B q _) ?_;refine zX (a5x xs _ q.t q.most oM (a8i oM) oM _ a2 hT ht) ?_;intro _ _ _ N a6;have M:=M.mono N;have A:=A.mono N;obtain⟨Sx,rx,_,ex,h,ad,a3,a0,O,a1,Q,rfl⟩:=a6;cases h;obtain⟨_,_,rfl⟩:=rowLen O;obtain⟨_,_,rfl⟩:=rowLen Q;refine yU 9 ?_;refine Cj.EX [0] [] 11 kR ?_;refine zO (b5B q _) ?_;refine zX (c4u c xs bs _ q.t q.most oM (a8i oM) _ M A) ?_;intro _ _ _ G a7;have A:=A.mono G;have O:=O.mono G;have a1:=fun x9 ae=>(a1 x9 ae).mono G;have Q:=Q.mono G;obtain⟨Sy,ry,_,_,h,af,ag,ah,a4,ai,a5,rfl⟩:=a7;cases h;obtain⟨_,_,rfl⟩:=rowLen a4;obtain⟨_,_,rfl⟩:=rowLen a5;refine yU 9 ?_;obtain⟨aj,al⟩:=a3.same ag (ad.trans (A.len.trans af.symm));obtain⟨_,am⟩:=JZ.few h8 a3.mem;have an:rx.map Fv.f=ry.map Fv.f:=a0.uniq (by rw[aj];exact ah);have av:=c9t a0;have a8:Bk.OI (flt Fv.f (Sx.map Prod.fst))≤1000000000:=FD am oM;have ao:=d0Z a0 a8 a1 (l:=rx.take q.most.toNat) (fun z hz=>vO hz);have ap:∀z∈ry.take q.most.toNat,RG _ z:=fun z hz=>ai z (vO hz);have aq:(rx.take q.most.toNat).map Fv.f=(ry.take q.most.toNat).map Fv.f:=by rw[aA,aA,an]
 have a9:(Sx.map aB).length≤1000000000:=by rw[wO];omega
 refine zO (a3Q (rx.take q.most.toNat) (ry.take q.most.toNat) _ _ (by rw[wI];omega) _ O a4 ao ap) ?_;refine J.ez 43 (.bool true) rfl (zC Value.bool (zH aq)) ?_;refine zO (a0T (Sx.map aB) (Sy.map aB) _ _ a9 _ Q a5) ?_;refine J.ez 48 (.bool true) rfl (zC Value.bool (zH al)) ?_;refine zV ?_;exact rT
end Go.Proofs.YtalapkjmkjmpjaaGreatDoor
