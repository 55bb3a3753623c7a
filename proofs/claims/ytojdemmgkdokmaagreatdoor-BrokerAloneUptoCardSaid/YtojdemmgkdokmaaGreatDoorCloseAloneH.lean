/-
  For all acts and every question (bulk at most 1048576) the law BrokerAlone returns true: a single library finds the a0x that search finds in its entries, apart from those whose records have the same key. Each argument reads afterwards as it read before. Conditions: the tables that the row lists hold what the program's text lays; the bulk of the arguments is at most 1048576.
-/
import Derived.Test.YtojdemmgkdokmaaGreatDoorNmH
import Derived.Test.YtojdemmgkdokmaaGreatDoorLwBAloneH
import Derived.Test.YtojdemmgkdokmaaGreatDoorFaAloneH
set_option linter.all false
set_option maxRecDepth 100000
set_option maxHeartbeats 40000000
open Go.Proofs.Tryz renaming prog -> aA,f6 -> aF,func6 -> aK,params6 -> aO,checked -> aP
open Go.Proofs.YtojdemmgkdokmaaGreatDoor.Rows renaming brokerAloneSpec -> aB,brokerAloneUptoRow -> aC,brokerAloneRow -> aG
open Go.Proofs.YtojdemmgkdokmaaGreatDoor.Rows.OpenSpec renaming upto -> aH
open List.Mem renaming tail -> aI
open Go.Proofs.YtojdemmgkdokmaaGreatDoor.Tryz renaming pinned -> aJ
open Option.some renaming inj -> aN
namespace Go.Proofs.YtojdemmgkdokmaaGreatDoor.brokerAlone
open Go.ChangeShapes Go.WideShapes Go.ChangeAt Go.RowKit Go.Sx Go.Lib Go.ChangeMaps
theorem contract(H:Type)(enc:TypeId×Value→H)(W:World)(base:Nat)(args:Array Value)(ds gs:List (DataW H))(A:List MemPlace)
 (h:∀(j:Nat) t v,aF.params[j]?=some t→args[j]?=some v→Value.okWide aA W .any base t v)
 (hW:DataW.Whole enc aA aF.params.toList aB.vars false W args.toList ds gs A)(hk:Rows.uptoSmall H (ds++gs)=true)(hL:laidMetH aA aG.laid W):
 Calls aA 6 args W fun e O=>∃v,e= .returned v∧aB.post enc aA aF false true false false W args v O:=by
 have G:=hW;obtain⟨p,q,Z,hV,rfl,_,_⟩:=hW;have hA:DataW.TrodAll enc aA W 0 (fun _=>true) true aF.params.toList args.toList ds p:=Z;rw[aO]at hA h;obtain⟨v0,_,_,_,_,_,_,rfl,rfl,t0,r0⟩:=trodAll_cons hA;obtain⟨v1,_,_,_,p1,q1,rfl,rfl,rfl,t1,r1⟩:=trodAll_cons r0;obtain⟨rfl,rfl,rfl⟩:=trodAll_nil r1;obtain rfl:args= #[v0,v1]:=by cases args;simp_all
 obtain⟨rfl,rfl⟩:=trodVars_none hV;obtain⟨a1,a2,a3,g0⟩:=a6E (h 0 22 v0 rfl rfl) t0 (fun x hx=>G.lt x (by simp[hx]));obtain⟨q1,rfl,_,g1⟩:=a7P (h 1 24 v1 rfl rfl) t1 (fun x hx=>G.lt x (by simp[hx]));clear Z;have hb:=BH hk;simp only[List.cons_append,List.nil_append,Rows.uptoBulkAll]at hb;have hT:=a5q (show laidMet aA aG.laid W from hL) (by repeat(first|exact .head _|apply aI)) (by repeat(first|exact .head _|apply aI));have ht:=a5A (show laidMet aA aG.laid W from hL) (by repeat(first|exact .head _|apply aI)) (by repeat(first|exact .head _|apply aI));refine(HW.calls (a9g a1 _ q1 a3 oM (HW W) hT ht a2)).mono fun e O ⟨he,hB⟩=>?_;subst he;exact⟨_,rfl,a1Q hB G rfl (fun _ _ _=>trodAll_cons_mk (shut_bool tU4 _) trodAll_mk0) (fun sp a0=>trodAll_cons_mk (g0 O hB sp fun q hq=>a0 q (by simp[hq])) (trodAll_cons_mk (g1 O hB sp fun q hq=>a0 q (by simp[hq])) trodAll_mk0)) (fun _ _=>rfl) (ok_one kR rfl (okWide_bool_mk tU4 _))⟩
theorem reads(os:Os){H:Type}(enc:TypeId×Value→H):∃h,DataW.whole enc aA ((World.laidAll aA os aC.laid).forCall (fun _ _=>0) ⟨#[],#[.slice none 0 0,.agg #[.int .u8 0,.int .u8 0,.int .u8 0,.string ⟨#[]⟩,.int .i64 0]],[]⟩).memory aF.params.toList aB.vars false #[Value.slice none 0 0,Value.agg #[.int .u8 0,.int .u8 0,.int .u8 0,.string ⟨#[]⟩,.int .i64 0]].toList 8=some ([.nil,.agg [.lit (.int .u8 0),.lit (.int .u8 0),.lit (.int .u8 0),.lit (.string []),.lit (.int .i64 0)]],[],h):=
 ⟨[],kR⟩
theorem lifted(os:Os)(h:os.Started)(H:Type)(enc:TypeId×Value→H)(F:Stop.Interp):
 ReturnsInHanded {} aP os 6 .any ((aH aB).preRow enc aA aF aC.domain false aC.laid) (((aH aB).at F).post enc aA aF false true false false):=by
 obtain⟨_,Z⟩:=reads os enc
 refine returnsInHanded_of_row (C:=aP) (s:=aH aB) own h kR aK
  (YZ os #[.slice none 0 0,.agg #[.int .u8 0,.int .u8 0,.int .u8 0,.string ⟨#[]⟩,.int .i64 0]] kR kR kR
   (OpenSpec.preRow_of_cond 8 Z kR (fun k hk=>by cases hk;kernel_rfl) kR (laidMet_laidAll _ kR kR))) ?_
 intro W base args ds gs A O hW _ G _ hL _ _;exact contract H enc W base args ds gs A O hW (G _ rfl) hL
theorem said:Rows.BrokerAloneUptoSaid:=
 OpenClaim.holds_of_cond 6 aF rfl rfl rfl rfl rfl rfl rfl rT rfl rfl rfl rfl rfl kR aK facts
  (BH kR) (by unfold Func.isWrapper;first|(rw[zG (by decide +kernel)];kernel_rfl)|(rw[zF (by decide +kernel)];exact⟨rfl,rfl⟩))
  (fun os h H enc _ F=>by rw[OpenClaim.pre_eq_preRow];exact lifted os h H enc F)
theorem plain(f:FuncId)(fn:Func)(hf:aJ.checked.prog.funcNamed "pinakes/pinakeslaw13.BrokerAlone" =some f)(A:aJ.checked.prog.funcs[f]?=some fn):
 true=aJ.checked.prog.looks []∧∀(j:Nat) t,fn.params[j]?=some t→aJ.checked.prog.wantsStandIn t=false:=by
 obtain rfl:f=6:=aN ((show aA.funcNamed "pinakes/pinakeslaw13.BrokerAlone" =some 6 by kernel_rfl).symm.trans hf) |>.symm;obtain rfl:fn=aF:=(aN (aK.symm.trans A)).symm;refine⟨kR,fun j t G=>?_⟩;have h:=Array.mem_of_getElem? G;rw[aO]at h;simp only[List.mem_toArray,List.mem_cons,List.not_mem_nil,or_false]at h;rcases h with rfl|rfl
 ·exact(show aA.wantsStandIn 22=false by kernel_rfl)
 exact(show aA.wantsStandIn 24=false by kernel_rfl)
theorem card:Rows.BrokerAloneUptoCardSaid:=
 Claim7.holds_tied_plain_at .later [] _ _ _ _ said (fun _ h=>by cases h) wfT (fun _ h=>by cases h) brokerAloneUpto_row_tie rfl rT a3e rfl plain a3p
end Go.Proofs.YtojdemmgkdokmaaGreatDoor.brokerAlone
