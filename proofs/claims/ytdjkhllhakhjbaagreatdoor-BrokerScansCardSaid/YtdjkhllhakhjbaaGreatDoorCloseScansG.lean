/-
  For all lists of lines and every limit the law BrokerScans returns true: Scan returns what the reference returns; without a limit the sum of all numbers stays. Each argument reads afterwards as it read before. Conditions: the tables that the row lists hold what the program's text lays.
-/
import Derived.Test.YtdjkhllhakhjbaaGreatDoorNmG
import Derived.Test.YtdjkhllhakhjbaaGreatDoorLwBScansG
import Derived.Test.YtdjkhllhakhjbaaGreatDoorFaScansG
set_option linter.all false
set_option maxRecDepth 100000
set_option maxHeartbeats 40000000
open Go.Proofs.Tryz renaming prog -> aA,f6 -> aF,func6 -> aJ,params6 -> aN,checked -> aO
open Go.Proofs.YtdjkhllhakhjbaaGreatDoor.Rows renaming brokerScansSpec -> aB,brokerScansRow -> aC
open List.Mem renaming tail -> aG
open Go.OpenSpec renaming ofChange -> aH
open Go.Proofs.YtdjkhllhakhjbaaGreatDoor.Tryz renaming pinned -> aI
open Option.some renaming inj -> aK
namespace Go.Proofs.YtdjkhllhakhjbaaGreatDoor.brokerScans
open Go.ChangeShapes Go.WideShapes Go.ChangeAt Go.RowKit Go.Sx Go.Lib Go.ChangeMaps
theorem contract(H:Type)(enc:TypeId×Value→H)(W:World)(base:Nat)(args:Array Value)(ds gs:List (DataW H))(A:List MemPlace)
 (h:∀(j:Nat) t v,aF.params[j]?=some t→args[j]?=some v→Value.okWide aA W .any base t v)
 (hW:DataW.Whole enc aA aF.params.toList aB.vars false W args.toList ds gs A)(hL:laidMetH aA aC.laid W):
 Calls aA 6 args W fun e G=>∃v,e= .returned v∧aB.post enc aA aF false true false false W args v G:=by
 have N:=hW;obtain⟨p,q,O,hV,rfl,_,_⟩:=hW;have hA:DataW.TrodAll enc aA W 0 (fun _=>true) true aF.params.toList args.toList ds p:=O;rw[aN]at hA h;obtain⟨v0,_,_,_,_,_,_,rfl,rfl,t0,r0⟩:=trodAll_cons hA;obtain⟨v1,_,_,_,p1,_,rfl,rfl,rfl,t1,r1⟩:=trodAll_cons r0;obtain⟨rfl,rfl,rfl⟩:=trodAll_nil r1;obtain rfl:args= #[v0,v1]:=by cases args;simp_all
 obtain⟨rfl,rfl⟩:=trodVars_none hV;obtain⟨L0,a0,g0⟩:=b6A (h 0 38 v0 rfl rfl) t0 (fun x hx=>N.lt x (by simp[hx]));obtain⟨n1,rfl,_,g1⟩:=c2R tU3 (h 1 3 v1 rfl rfl) t1;clear O;have hT:=a4P (show laidMet aA aC.laid W from hL) (by repeat(first|exact .head _|apply aG)) (by repeat(first|exact .head _|apply aG));have ht:=a4v (show laidMet aA aC.laid W from hL) (by repeat(first|exact .head _|apply aG)) (by repeat(first|exact .head _|apply aG));refine(HW.calls (a7H L0 _ n1 (HW W) hT ht a0)).mono fun e G ⟨he,Z⟩=>?_;subst he;exact⟨_,rfl,a1j Z N rfl (fun _ _ _=>trodAll_cons_mk (shut_bool tU4 _) trodAll_mk0) (fun sp Q=>trodAll_cons_mk (g0 G Z sp fun q hq=>Q q (by simp[hq])) (trodAll_cons_mk (g1 G Z sp fun q hq=>Q q (by simp[hq])) trodAll_mk0)) (fun _ _=>rfl) (ok_one kR rfl (okWide_bool_mk tU4 _))⟩
theorem reads(os:Os){H:Type}(enc:TypeId×Value→H):∃places,DataW.whole enc aA ((World.laidAll aA os aC.laid).forCall (fun _ _=>0) ⟨#[],#[.slice none 0 0,.int .i64 0],[]⟩).memory aF.params.toList aB.vars false #[Value.slice none 0 0,Value.int .i64 0].toList 8=some ([.nil,.lit (.int .i64 0)],[],places):=
 ⟨[],kR⟩
theorem lifted(os:Os)(h:os.Started)(H:Type)(enc:TypeId×Value→H)(F:Stop.Interp):
 ReturnsInHanded {} aO os 6 .any ((aH aB).preRow enc aA aF aC.domain false aC.laid) (((aH aB).at F).post enc aA aF false true false false):=by
 obtain⟨places,N⟩:=reads os enc
 refine returnsInHanded_of_row (C:=aO) (s:=aH aB) own h kR aJ
  (WO os #[.slice none 0 0,.int .i64 0] kR kR kR
   (OpenSpec.preRow_of_cond 8 N kR (fun k O=>by cases O) kR (laidMet_laidAll _ kR kR))) ?_
 intro W base args ds gs A G Q _ _ _ Z _ _;exact contract H enc W base args ds gs A G Q Z
theorem said:Rows.BrokerScansSaid:=
 OpenClaim.holds_of_cond 6 aF rfl rfl rfl rfl rfl rfl rfl rT rfl rfl rfl rfl rfl kR aJ facts
  (BH kR) (by unfold Func.isWrapper;first|(rw[zG (by decide +kernel)];kernel_rfl)|(rw[zF (by decide +kernel)];exact⟨rfl,rfl⟩))
  (fun os h H enc _ F=>by rw[OpenClaim.pre_eq_preRow];exact lifted os h H enc F)
theorem plain(f:FuncId)(fn:Func)(hf:aI.checked.prog.funcNamed "pinakes/pinakeslaw13.BrokerScans" =some f)(A:aI.checked.prog.funcs[f]?=some fn):
 true=aI.checked.prog.looks []∧∀(j:Nat) t,fn.params[j]?=some t→aI.checked.prog.wantsStandIn t=false:=by
 obtain rfl:f=6:=aK ((show aA.funcNamed "pinakes/pinakeslaw13.BrokerScans" =some 6 by kernel_rfl).symm.trans hf) |>.symm;obtain rfl:fn=aF:=(aK (aJ.symm.trans A)).symm;refine⟨kR,fun j t G=>?_⟩;have h:=Array.mem_of_getElem? G;rw[aN]at h;simp only[List.mem_toArray,List.mem_cons,List.not_mem_nil,or_false]at h;rcases h with rfl|rfl
 ·exact(show aA.wantsStandIn 38=false by kernel_rfl)
 exact(show aA.wantsStandIn 3=false by kernel_rfl)
theorem card:Rows.BrokerScansCardSaid:=
 Claim7.holds_tied_plain_at .later [] _ _ _ _ said (fun _ h=>by cases h) wfT (fun _ h=>by cases h) brokerScans_row_tie rfl rT a2p rfl plain a2u
end Go.Proofs.YtdjkhllhakhjbaaGreatDoor.brokerScans
