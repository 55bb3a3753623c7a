/-
  For all lists of found a0x, all acts and every question (bulk at most 1048576) the law BrokerKeeps returns true: merging does not change its lists, results share no memory with them, and a library is not changed by its entries later. Each argument reads afterwards as it read before. Conditions: the tables that the row lists hold what the program's text lays; the bulk of the arguments is at most 1048576.
-/
import Derived.Test.YtojdemmgkdokmaaGreatDoorNmH
import Derived.Test.YtojdemmgkdokmaaGreatDoorLwBKeepsH
import Derived.Test.YtojdemmgkdokmaaGreatDoorFaKeepsH
set_option linter.all false
set_option maxRecDepth 100000
set_option maxHeartbeats 40000000
open Go.Proofs.Tryz renaming prog -> aA,f5 -> aF,func5 -> aK,params5 -> aO,checked -> aP
open Go.Proofs.YtojdemmgkdokmaaGreatDoor.Rows renaming brokerKeepsSpec -> aB,brokerKeepsUptoRow -> aC,brokerKeepsRow -> aG
open Go.Proofs.YtojdemmgkdokmaaGreatDoor.Rows.OpenSpec renaming upto -> aH
open List.Mem renaming tail -> aI
open Go.Proofs.YtojdemmgkdokmaaGreatDoor.Tryz renaming pinned -> aJ
open Option.some renaming inj -> aN
open Go.Value renaming slice -> aQ
namespace Go.Proofs.YtojdemmgkdokmaaGreatDoor.brokerKeeps
open Go.ChangeShapes Go.WideShapes Go.ChangeAt Go.RowKit Go.Sx Go.Lib Go.ChangeMaps
theorem contract(H:Type)(enc:TypeId×Value→H)(W:World)(base:Nat)(args:Array Value)(ds gs:List (DataW H))(G:List MemPlace)
 (h:∀(j:Nat) t v,aF.params[j]?=some t→args[j]?=some v→Value.okWide aA W .any base t v)
 (hW:DataW.Whole enc aA aF.params.toList aB.vars false W args.toList ds gs G)(hk:Rows.uptoSmall H (ds++gs)=true)(hL:laidMetH aA aG.laid W):
 Calls aA 5 args W fun e O=>∃v,e= .returned v∧aB.post enc aA aF false true false false W args v O:=by
 have A:=hW;obtain⟨p,q,a1,hV,rfl,_,_⟩:=hW;have hA:DataW.TrodAll enc aA W 0 (fun _=>true) true aF.params.toList args.toList ds p:=a1;rw[aO]at hA h;obtain⟨v0,_,_,_,_,_,_,rfl,rfl,t0,r0⟩:=trodAll_cons hA;obtain⟨v1,_,_,_,p1,q1,rfl,rfl,rfl,t1,r1⟩:=trodAll_cons r0;obtain⟨v2,_,_,_,p2,q2,rfl,rfl,rfl,t2,r2⟩:=trodAll_cons r1;obtain⟨rfl,rfl,rfl⟩:=trodAll_nil r2;obtain rfl:args= #[v0,v1,v2]:=by cases args;simp_all
 obtain⟨rfl,rfl⟩:=trodVars_none hV;obtain⟨L0,a2,g0⟩:=b8n (h 0 49 v0 rfl rfl) t0 (fun x Z=>A.lt x (by simp[Z]));obtain⟨a3,a4,a5,g1⟩:=a6E (h 1 22 v1 rfl rfl) t1 (fun x Z=>A.lt x (by simp[Z]));obtain⟨q2,rfl,_,g2⟩:=a7P (h 2 24 v2 rfl rfl) t2 (fun x Z=>A.lt x (by simp[Z]));clear a1;have hb:=BH hk;simp only[List.cons_append,List.nil_append,Rows.uptoBulkAll]at hb;have hT:=a5q (show laidMet aA aG.laid W from hL) (by repeat(first|exact .head _|apply aI)) (by repeat(first|exact .head _|apply aI));have ht:=a5A (show laidMet aA aG.laid W from hL) (by repeat(first|exact .head _|apply aI)) (by repeat(first|exact .head _|apply aI));refine(HW.calls (a9p L0 _ a3 _ q2 a5 oM (HW W) hT ht a2 a4)).mono fun e O ⟨he,hB⟩=>?_;subst he;exact⟨_,rfl,a1Q hB A rfl (fun _ _ _=>trodAll_cons_mk (shut_bool tU4 _) trodAll_mk0) (fun sp a0=>trodAll_cons_mk (g0 O hB sp fun q hq=>a0 q (by simp[hq])) (trodAll_cons_mk (g1 O hB sp fun q hq=>a0 q (by simp[hq])) (trodAll_cons_mk (g2 O hB sp fun q hq=>a0 q (by simp[hq])) trodAll_mk0))) (fun _ _=>rfl) (ok_one kR rfl (okWide_bool_mk tU4 _))⟩
theorem reads(os:Os){H:Type}(enc:TypeId×Value→H):∃h,DataW.whole enc aA ((World.laidAll aA os aC.laid).forCall (fun _ _=>0) ⟨#[],#[.slice none 0 0,.slice none 0 0,.agg #[.int .u8 0,.int .u8 0,.int .u8 0,.string ⟨#[]⟩,.int .i64 0]],[]⟩).memory aF.params.toList aB.vars false #[aQ none 0 0,aQ none 0 0,Value.agg #[.int .u8 0,.int .u8 0,.int .u8 0,.string ⟨#[]⟩,.int .i64 0]].toList 8=some ([.nil,.nil,.agg [.lit (.int .u8 0),.lit (.int .u8 0),.lit (.int .u8 0),.lit (.string []),.lit (.int .i64 0)]],[],h):=
 ⟨[],kR⟩
theorem lifted(os:Os)(h:os.Started)(H:Type)(enc:TypeId×Value→H)(F:Stop.Interp):
 ReturnsInHanded {} aP os 5 .any ((aH aB).preRow enc aA aF aC.domain false aC.laid) (((aH aB).at F).post enc aA aF false true false false):=by
 obtain⟨_,Z⟩:=reads os enc
 refine returnsInHanded_of_row (C:=aP) (s:=aH aB) own h kR aK
  (YZ os #[.slice none 0 0,.slice none 0 0,.agg #[.int .u8 0,.int .u8 0,.int .u8 0,.string ⟨#[]⟩,.int .i64 0]] kR kR kR
   (OpenSpec.preRow_of_cond 8 Z kR (fun k hk=>by cases hk;kernel_rfl) kR (laidMet_laidAll _ kR kR))) ?_
 intro W base args ds gs A O hW _ G _ hL _ _;exact contract H enc W base args ds gs A O hW (G _ rfl) hL
theorem said:Rows.BrokerKeepsUptoSaid:=
 OpenClaim.holds_of_cond 5 aF rfl rfl rfl rfl rfl rfl rfl rT rfl rfl rfl rfl rfl kR aK facts
  (BH kR) (by unfold Func.isWrapper;first|(rw[zG (by decide +kernel)];kernel_rfl)|(rw[zF (by decide +kernel)];exact⟨rfl,rfl⟩))
  (fun os h H enc _ F=>by rw[OpenClaim.pre_eq_preRow];exact lifted os h H enc F)
theorem plain(f:FuncId)(fn:Func)(hf:aJ.checked.prog.funcNamed "pinakes/pinakeslaw13.BrokerKeeps" =some f)(A:aJ.checked.prog.funcs[f]?=some fn):
 true=aJ.checked.prog.looks []∧∀(j:Nat) t,fn.params[j]?=some t→aJ.checked.prog.wantsStandIn t=false:=by
 obtain rfl:f=5:=aN ((show aA.funcNamed "pinakes/pinakeslaw13.BrokerKeeps" =some 5 by kernel_rfl).symm.trans hf) |>.symm;obtain rfl:fn=aF:=(aN (aK.symm.trans A)).symm;refine⟨kR,fun j t G=>?_⟩;have h:=Array.mem_of_getElem? G;rw[aO]at h;simp only[List.mem_toArray,List.mem_cons,List.not_mem_nil,or_false]at h;rcases h with rfl|rfl|rfl
 ·exact(show aA.wantsStandIn 49=false by kernel_rfl)
 ·exact(show aA.wantsStandIn 22=false by kernel_rfl)
 exact(show aA.wantsStandIn 24=false by kernel_rfl)
theorem card:Rows.BrokerKeepsUptoCardSaid:=
 Claim7.holds_tied_plain_at .later [] _ _ _ _ said (fun _ h=>by cases h) wfT (fun _ h=>by cases h) brokerKeepsUpto_row_tie rfl rT a3e rfl plain a3p
end Go.Proofs.YtojdemmgkdokmaaGreatDoor.brokerKeeps
