/-
  For all lists of acts, every number and every question (bulk at most 1048576) the law BrokerAsks returns true: what is found, with all keys and places, and the errors of the libraries are what the reference returns. Each argument reads afterwards as it read before. Conditions: the tables that the row lists hold what the program's text lays; the bulk of the arguments is at most 1048576.
-/
import Derived.Test.YtalapkjmkjmpjaaGreatDoorNmK
import Derived.Test.YtalapkjmkjmpjaaGreatDoorLwBAsksK
import Derived.Test.YtalapkjmkjmpjaaGreatDoorFaAsksK
set_option linter.all false
set_option maxRecDepth 100000
set_option maxHeartbeats 40000000
open Go.Proofs.Tryz renaming prog -> aA,f3 -> aF,func3 -> aK,params3 -> aN,checked -> aO
open Go.Proofs.YtalapkjmkjmpjaaGreatDoor.Rows renaming brokerAsksSpec -> aB,brokerAsksUptoRow -> aC,brokerAsksRow -> aG
open Go.Proofs.YtalapkjmkjmpjaaGreatDoor.Rows.OpenSpec renaming upto -> aH
open List.Mem renaming tail -> aI
open Go.Proofs.YtalapkjmkjmpjaaGreatDoor.Tryz renaming pinned -> aJ
namespace Go.Proofs.YtalapkjmkjmpjaaGreatDoor.brokerAsks
open Go.ChangeShapes Go.WideShapes Go.ChangeAt Go.RowKit Go.Sx Go.Lib Go.ChangeMaps
theorem contract(H:Type)(enc:TypeId×Value→H)(W:World)(base:Nat)(args:Array Value)(ds gs:List (DataW H))(G:List MemPlace)
 (A:∀(j:Nat) t v,aF.params[j]?=some t→args[j]?=some v→Value.okWide aA W .any base t v)
 (hW:DataW.Whole enc aA aF.params.toList aB.vars false W args.toList ds gs G)(hk:Rows.uptoSmall H (ds++gs)=true)(hL:laidMetH aA aG.laid W):
 Calls aA 3 args W fun e M=>∃v,e= .returned v∧aB.post enc aA aF false true false false W args v M:=by
 have N:=hW;obtain⟨p,q,a0,hV,rfl,_,_⟩:=hW;have hA:DataW.TrodAll enc aA W 0 (fun _=>true) true aF.params.toList args.toList ds p:=a0;rw[aN]at hA A;obtain⟨v0,_,_,_,_,_,_,rfl,rfl,t0,r0⟩:=trodAll_cons hA;obtain⟨v1,_,_,_,p1,q1,rfl,rfl,rfl,t1,r1⟩:=trodAll_cons r0;obtain⟨v2,_,_,_,p2,q2,rfl,rfl,rfl,t2,r2⟩:=trodAll_cons r1;obtain⟨rfl,rfl,rfl⟩:=trodAll_nil r2;obtain rfl:args= #[v0,v1,v2]:=by cases args;simp_all
 obtain⟨rfl,rfl⟩:=trodVars_none hV;obtain⟨L0,a1,a2,g0⟩:=c3u (A 0 22 v0 rfl rfl) t0 (fun x hx=>N.lt x (by simp[hx]));obtain⟨c1,rfl,rfl,rfl,g1⟩:=d0I tU5 (A 1 5 v1 rfl rfl) t1;obtain⟨q2,rfl,_,g2⟩:=c9X (A 2 24 v2 rfl rfl) t2 (fun x hx=>N.lt x (by simp[hx]));clear a0;have hb:=DK hk;simp only[yC,vM,Rows.uptoBulkAll]at hb;have hT:=c9N (show laidMet aA aG.laid W from hL) (by repeat(first|exact .head _|apply aI)) (by repeat(first|exact .head _|apply aI));have ht:=c7K (show laidMet aA aG.laid W from hL) (by repeat(first|exact .head _|apply aI)) (by repeat(first|exact .head _|apply aI));refine(HW.calls (b2Z L0 _ c1 q2 a2 oM (HW W) hT ht a1)).mono fun e M ⟨he,Z⟩=>?_;subst he;exact⟨_,rfl,c2p Z N rfl (fun _ _ _=>trodAll_cons_mk (shut_bool tU4 _) trodAll_mk0) (fun sp O=>trodAll_cons_mk (g0 M Z sp fun q Q=>O q (by simp[Q])) (trodAll_cons_mk (g1 M Z sp fun q Q=>O q (by cases Q)) (trodAll_cons_mk (g2 M Z sp fun q Q=>O q (by simp[Q])) trodAll_mk0))) (fun _ _=>rfl) (ok_one kR rfl (okWide_bool_mk tU4 _))⟩
theorem reads(os:Os){H:Type}(enc:TypeId×Value→H):∃A,DataW.whole enc aA ((World.laidAll aA os aC.laid).forCall (fun _ _=>0) ⟨#[],#[.slice none 0 0,.int .u8 0,.agg #[.int .u8 0,.int .u8 0,.int .u8 0,.string ⟨#[]⟩,.int .i64 0]],[]⟩).memory aF.params.toList aB.vars false #[Value.slice none 0 0,Value.int .u8 0,Value.agg #[.int .u8 0,.int .u8 0,.int .u8 0,.string ⟨#[]⟩,.int .i64 0]].toList 8=some ([.nil,.lit (.int .u8 0),.agg [.lit (.int .u8 0),.lit (.int .u8 0),.lit (.int .u8 0),.lit (.string []),.lit (.int .i64 0)]],[],A):=
 ⟨[],kR⟩
theorem lifted(os:Os)(A:os.Started)(H:Type)(enc:TypeId×Value→H)(F:Stop.Interp):
 ReturnsInHanded {} aO os 3 .any ((aH aB).preRow enc aA aF aC.domain false aC.laid) (((aH aB).at F).post enc aA aF false true false false):=by
 obtain⟨_,O⟩:=reads os enc
 refine returnsInHanded_of_row (C:=aO) (s:=aH aB) own A kR aK
  (b4e os #[.slice none 0 0,.int .u8 0,.agg #[.int .u8 0,.int .u8 0,.int .u8 0,.string ⟨#[]⟩,.int .i64 0]] kR kR kR
   (OpenSpec.preRow_of_cond 8 O kR (fun k Q=>by cases Q;kernel_rfl) kR (laidMet_laidAll _ kR kR))) ?_
 intro W base args ds gs G N Z _ M _ hL _ _;exact contract H enc W base args ds gs G N Z (M _ rfl) hL
theorem said:Rows.BrokerAsksUptoSaid:=
 OpenClaim.holds_of_cond 3 aF rfl rfl rfl rfl rfl rfl rfl rT rfl rfl rfl rfl rfl kR aK facts
  (DK kR) (by unfold Func.isWrapper;first|(rw[zF (by decide +kernel)];kernel_rfl)|(rw[zD (by decide +kernel)];exact⟨rfl,rfl⟩))
  (fun os A H enc _ F=>by rw[OpenClaim.pre_eq_preRow];exact lifted os A H enc F)
theorem plain(f:FuncId)(fn:Func)(M:aJ.checked.prog.funcNamed "pinakes/pinakeslaw13.BrokerAsks" =some f)(G:aJ.checked.prog.funcs[f]?=some fn):
 true=aJ.checked.prog.looks []∧∀(j:Nat) t,fn.params[j]?=some t→aJ.checked.prog.wantsStandIn t=false:=by
 obtain rfl:f=3:=sK ((show aA.funcNamed "pinakes/pinakeslaw13.BrokerAsks" =some 3 by kernel_rfl).symm.trans M) |>.symm;obtain rfl:fn=aF:=(sK (aK.symm.trans G)).symm;refine⟨kR,fun j t N=>?_⟩;have A:=Array.mem_of_getElem? N;rw[aN]at A;simp only[List.mem_toArray,vX,vG,or_false]at A;rcases A with rfl|rfl|rfl
 ·exact(show aA.wantsStandIn 22=false by kernel_rfl)
 ·exact(show aA.wantsStandIn 5=false by kernel_rfl)
 exact(show aA.wantsStandIn 24=false by kernel_rfl)
theorem card:Rows.BrokerAsksUptoCardSaid:=
 Claim7.holds_tied_plain_at .later [] _ _ _ _ said (fun _ h=>by cases h) wfT (fun _ h=>by cases h) brokerAsksUpto_row_tie rfl rT d1v rfl plain d1n
end Go.Proofs.YtalapkjmkjmpjaaGreatDoor.brokerAsks
