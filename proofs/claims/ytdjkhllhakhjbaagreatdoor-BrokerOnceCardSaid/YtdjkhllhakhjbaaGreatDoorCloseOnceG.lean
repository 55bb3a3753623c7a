/-
  For all lists of found SN the law BrokerOnce returns true: each key occurs once in what Merge returns, and SN without keys once; all places and SN are those of some element. Each argument reads afterwards as it read before. Conditions: the tables that the row lists hold what the program's text lays.
-/
import Derived.Test.YtdjkhllhakhjbaaGreatDoorNmG
import Derived.Test.YtdjkhllhakhjbaaGreatDoorLwBOnceG
import Derived.Test.YtdjkhllhakhjbaaGreatDoorFaOnceG
set_option linter.all false
set_option maxRecDepth 100000
set_option maxHeartbeats 40000000
open Go.Proofs.Tryz renaming prog -> aA,f5 -> aF,func5 -> aJ,params5 -> aN,checked -> aO
open Go.Proofs.YtdjkhllhakhjbaaGreatDoor.Rows renaming brokerOnceSpec -> aB,brokerOnceRow -> aC
open List.Mem renaming tail -> aG
open Go.OpenSpec renaming ofChange -> aH
open Go.Proofs.YtdjkhllhakhjbaaGreatDoor.Tryz renaming pinned -> aI
open Option.some renaming inj -> aK
namespace Go.Proofs.YtdjkhllhakhjbaaGreatDoor.brokerOnce
open Go.ChangeShapes Go.WideShapes Go.ChangeAt Go.RowKit Go.Sx Go.Lib Go.ChangeMaps
theorem contract(H:Type)(enc:TypeId×Value→H)(W:World)(base:Nat)(args:Array Value)(ds gs:List (DataW H))(h:List MemPlace)
 (A:∀(j:Nat) t v,aF.params[j]?=some t→args[j]?=some v→Value.okWide aA W .any base t v)
 (Q:DataW.Whole enc aA aF.params.toList aB.vars false W args.toList ds gs h)(Z:laidMetH aA aC.laid W):
 Calls aA 5 args W fun e O=>∃v,e= .returned v∧aB.post enc aA aF false true false false W args v O:=by
 have G:=Q;obtain⟨p,q,N,hV,rfl,_,_⟩:=Q;have hA:DataW.TrodAll enc aA W 0 (fun _=>true) true aF.params.toList args.toList ds p:=N;rw[aN]at hA A;obtain⟨v0,_,_,_,_,_,_,rfl,rfl,t0,r0⟩:=trodAll_cons hA;obtain⟨rfl,rfl,rfl⟩:=trodAll_nil r0;obtain rfl:args= #[v0]:=by cases args;simp_all
 obtain⟨rfl,rfl⟩:=trodVars_none hV;obtain⟨L0,a0,g0⟩:=a3y (A 0 22 v0 rfl rfl) t0 (fun x hx=>G.lt x (by simp[hx]));clear N;have hT:=a4P (show laidMet aA aC.laid W from Z) (by repeat(first|exact .head _|apply aG)) (by repeat(first|exact .head _|apply aG));have ht:=a4v (show laidMet aA aC.laid W from Z) (by repeat(first|exact .head _|apply aG)) (by repeat(first|exact .head _|apply aG));refine(HW.calls (a9r L0 _ (HW W) hT ht a0)).mono fun e O ⟨he,hB⟩=>?_;subst he;exact⟨_,rfl,a1j hB G rfl (fun _ _ _=>trodAll_cons_mk (shut_bool tU4 _) trodAll_mk0) (fun sp a1=>trodAll_cons_mk (g0 O hB sp fun q hq=>a1 q (by simp[hq])) trodAll_mk0) (fun _ _=>rfl) (ok_one kR rfl (okWide_bool_mk tU4 _))⟩
theorem reads(os:Os){H:Type}(enc:TypeId×Value→H):∃places,DataW.whole enc aA ((World.laidAll aA os aC.laid).forCall (fun _ _=>0) ⟨#[],#[.slice none 0 0],[]⟩).memory aF.params.toList aB.vars false #[Value.slice none 0 0].toList 8=some ([.nil],[],places):=
 ⟨[],kR⟩
theorem lifted(os:Os)(h:os.Started)(H:Type)(enc:TypeId×Value→H)(F:Stop.Interp):
 ReturnsInHanded {} aO os 5 .any ((aH aB).preRow enc aA aF aC.domain false aC.laid) (((aH aB).at F).post enc aA aF false true false false):=by
 obtain⟨places,N⟩:=reads os enc
 refine returnsInHanded_of_row (C:=aO) (s:=aH aB) own h kR aJ
  (WO os #[.slice none 0 0] kR kR kR
   (OpenSpec.preRow_of_cond 8 N kR (fun k O=>by cases O) kR (laidMet_laidAll _ kR kR))) ?_
 intro W base args ds gs A G Q _ _ _ Z _ _;exact contract H enc W base args ds gs A G Q Z
theorem said:Rows.BrokerOnceSaid:=
 OpenClaim.holds_of_cond 5 aF rfl rfl rfl rfl rfl rfl rfl rT rfl rfl rfl rfl rfl kR aJ facts
  (BH kR) (by unfold Func.isWrapper;first|(rw[zG (by decide +kernel)];kernel_rfl)|(rw[zF (by decide +kernel)];exact⟨rfl,rfl⟩))
  (fun os h H enc _ F=>by rw[OpenClaim.pre_eq_preRow];exact lifted os h H enc F)
theorem plain(f:FuncId)(fn:Func)(hf:aI.checked.prog.funcNamed "pinakes/pinakeslaw13.BrokerOnce" =some f)(A:aI.checked.prog.funcs[f]?=some fn):
 true=aI.checked.prog.looks []∧∀(j:Nat) t,fn.params[j]?=some t→aI.checked.prog.wantsStandIn t=false:=by
 obtain rfl:f=5:=aK ((show aA.funcNamed "pinakes/pinakeslaw13.BrokerOnce" =some 5 by kernel_rfl).symm.trans hf) |>.symm;obtain rfl:fn=aF:=(aK (aJ.symm.trans A)).symm;refine⟨kR,fun j t G=>?_⟩;have h:=Array.mem_of_getElem? G;rw[aN]at h;simp only[List.mem_toArray,List.mem_cons,List.not_mem_nil,or_false]at h;rcases h with rfl;exact(show aA.wantsStandIn 22=false by kernel_rfl)
theorem card:Rows.BrokerOnceCardSaid:=
 Claim7.holds_tied_plain_at .later [] _ _ _ _ said (fun _ h=>by cases h) wfT (fun _ h=>by cases h) brokerOnce_row_tie rfl rT a2p rfl plain a2u
end Go.Proofs.YtdjkhllhakhjbaaGreatDoor.brokerOnce
