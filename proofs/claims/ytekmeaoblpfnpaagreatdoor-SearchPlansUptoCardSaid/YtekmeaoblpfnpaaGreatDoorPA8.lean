/-
  Own texts on the laws of the seat, joined: the logic, and contracts of functions. Conditions: none.
-/
import Derived.Test.YtekmeaoblpfnpaaGreatDoorNmA
import Derived.Test.YtekmeaoblpfnpaaGreatDoorPA7
import Derived.Shelf.SlLaysF0
import Derived.Ground.SlsfProg
import Derived.Shelf.GgSortFunc.InsertionK
import Derived.Shelf.SlSortCmp.WholeK
import Derived.Shelf.SlSortCmp.NoneTotal
set_option linter.all false
set_option maxRecDepth 100000
set_option maxHeartbeats 40000000
open Go.Proofs.Tryz renaming prog -> aA,func219 -> iD
open Ix renaming Rec -> aB,within -> aQ,phrase -> aV,JJ -> bG,BK -> bT,KC -> bZ,keyOf -> dK,Ix -> fA,ZF -> gK,word -> gQ,b3o -> gU,KW -> gW,cnt -> iE
open Go.Builtin renaming zeroCells -> aC
open List renaming length_append -> aF,append_assoc -> aG,getElem?_eq_getElem -> aI,length_eq_zero_iff -> aJ,getElem?_eq_some_iff -> aK,take_of_length_le -> aO,mem_singleton -> aP,length_map -> aS,flatMap_cons -> aT,take_succ_eq_append_getElem -> aW,getElem?_append_left -> aY,size_toArray -> bC,length_take -> bI,append_nil -> bP,mem_map_of_mem -> bV,flatMap_append -> bW,drop_drop -> cO,set_cons_zero -> cZ,set_cons_succ -> dA,filter_append -> dB,getElem?_append_right -> dF,length_drop -> dJ,sublist_append_left -> dL,prefix_iff_eq_take -> dM,mem_append_right -> dR,mem_append_left -> dX,filter_eq_self -> dZ,find?_eq_none -> eU,getElem?_drop -> eX,not_lt -> fE,not_mem_nil -> fF,length_cons -> fG,any_eq_true -> fJ,map_append -> fQ,find?_some -> fU,length_set -> fV,find?_cons -> fZ,mem_cons -> gY,mem_map -> iF
open Ke renaming words -> aH,GI -> gB
open Nat renaming zero_le -> aN,lt_or_ge -> bK,add_sub_cancel_left -> dN,zero_add -> eG,eq_zero_or_pos -> eH
open Go.Sx.yY renaming toPure -> aU
open List.Pairwise renaming nil -> aX
open Go.Sort renaming ahead -> aZ
open Bool renaming eq_false_iff -> bD,eq_iff_iff -> fO
open Array renaming getElem?_eq_none -> bF,getElem?_append_left -> dG,getElem?_modify -> dQ,toArray_toList -> dW,extract_size -> eP
open Prod renaming fst -> bH
open Go.Proofs.SlLaysF0 renaming n6 -> bJ
open Option renaming map_some -> bM
open Go.Sx.Enters renaming of -> bQ
open Go.Sx.Cj renaming EX -> bU,loop -> dS,persist -> gG
open Go.Sx.Ej renaming round -> bY,keep -> dU
open Go.Sx.FB renaming part -> dD,none -> gX
open Go.Proofs.AnyF renaming slices_SortFunc_none -> dH
open Go.Sx.yZ renaming LK -> dI,OA -> dY
open Go.Sx renaming DN -> dP
open Go.Proofs.AnyQ renaming slices_SortFunc -> dV
open Go.Shelf renaming Ren -> eF
open Go.Sx.Le renaming refl -> eY,trans -> fK
open Go.Sx.Keeps renaming d -> fB,k -> gJ,n -> iI
open Go.Sx.JA renaming tk -> fC,zt -> iC,fix -> iG
open Go.Instr renaming sliceBounds -> fD,sliceAt -> gZ,slice -> iH
open Go.Sx.J renaming op -> fH
open Option.some renaming inj -> fM
open Go.Sx.Pure renaming of_same -> fP
open List.Perm renaming refl -> gI
namespace Go.Proofs
open _root_.Go.Proofs.Tryz
open Go.Shelf
def Tryz.b8P:eF:=⟨fun|6=>77|15=>108|14=>134|28=>170|29=>171|20=>185|21=>186|22=>187|23=>188|24=>189|25=>190|26=>191|27=>192|46=>235|47=>224|48=>225|49=>236|50=>237|57=>267|n=>n,fun|22=>36|24=>54|25=>149|3=>3|39=>188|0=>0|53=>238|55=>240|4=>4|46=>232|45=>231|50=>168|5=>5|9=>9|66=>272|70=>276|76=>324|77=>325|n=>n,fun|n=>n⟩
theorem Tryz.c2s:bJ aA Tryz.b8P:={
 mixed:=kR
 f6:=⟨Tryz.f77.name,dE,func77.trans (zC some kR)⟩
 f14:=⟨Tryz.f134.name,dE,func134.trans (zC some kR)⟩
 f15:=func108.trans (zC some kR)
 f20:=⟨Tryz.f185.name,dE,func185.trans (zC some kR)⟩
 f21:=⟨Tryz.f186.name,dE,func186.trans (zC some kR)⟩
 f22:=⟨Tryz.f187.name,dE,func187.trans (zC some kR)⟩
 f23:=⟨Tryz.f188.name,dE,func188.trans (zC some kR)⟩
 f24:=⟨Tryz.f189.name,dE,func189.trans (zC some kR)⟩
 f25:=⟨Tryz.f190.name,dE,func190.trans (zC some kR)⟩
 f26:=⟨Tryz.f191.name,dE,func191.trans (zC some kR)⟩
 f27:=⟨Tryz.f192.name,dE,func192.trans (zC some kR)⟩
 f28:=func170.trans (zC some kR)
 f29:=func171.trans (zC some kR)
 f46:=⟨Tryz.f235.name,dE,func235.trans (zC some kR)⟩
 f47:=func224.trans (zC some kR)
 f48:=func225.trans (zC some kR)
 f49:=⟨Tryz.f236.name,dE,func236.trans (zC some kR)⟩
 f50:=⟨Tryz.f237.name,dE,func237.trans (zC some kR)⟩
 f57:=⟨Tryz.f267.name,dE,func267.trans (zC some kR)⟩
 t0:=underlying0
 a0:=isAgg0
 z0:=sizeOf0
 v0:=zeroValue0
 t3:=underlying3
 a3:=isAgg3
 z3:=sizeOf3
 v3:=zeroValue3
 t4:=underlying4
 a4:=isAgg4
 z4:=sizeOf4
 v4:=zeroValue4
 t5:=underlying5
 a5:=isAgg5
 z5:=sizeOf5
 v5:=zeroValue5
 t9:=underlying9
 a9:=isAgg9
 z9:=sizeOf9
 v9:=zeroValue9
 t22:=underlying36
 a22:=isAgg36
 z22:=sizeOf36
 v22:=zeroValue36
 t25:=underlying149
 a25:=isAgg149
 z25:=sizeOf149
 v25:=zeroValue149
 t39:=underlying188
 a39:=isAgg188
 z39:=sizeOf188
 v39:=zeroValue188
 t45:=underlying231
 a45:=isAgg231
 z45:=sizeOf231
 v45:=zeroValue231
 t46:=underlying232
 a46:=isAgg232
 z46:=sizeOf232
 v46:=zeroValue232
 t50:=underlying168
 a50:=isAgg168
 z50:=sizeOf168
 v50:=zeroValue168
 t53:=underlying238
 a53:=isAgg238
 z53:=sizeOf238
 v53:=zeroValue238
 t55:=underlying240
 a55:=isAgg240
 z55:=sizeOf240
 v55:=zeroValue240
 t66:=underlying272
 a66:=isAgg272
 z66:=sizeOf272
 v66:=zeroValue272
 t70:=underlying276
 a70:=isAgg276
 z70:=sizeOf276
 v70:=zeroValue276
 t76:=underlying324
 a76:=isAgg324
 z76:=sizeOf324
 v76:=zeroValue324
 t77:=underlying325
 a77:=isAgg325
 z77:=sizeOf325
 v77:=zeroValue325 }
def Tryz.sortL_ren:eF:=⟨fun|6=>219|15=>108|14=>262|28=>170|29=>171|20=>290|21=>291|22=>292|23=>293|24=>294|25=>295|26=>296|27=>297|46=>312|47=>224|48=>225|49=>313|50=>314|57=>329|n=>n,fun|22=>228|24=>268|25=>270|3=>3|39=>188|0=>0|53=>238|55=>240|4=>4|46=>232|45=>231|50=>168|5=>5|9=>9|66=>272|70=>276|76=>324|77=>325|n=>n,fun|n=>n⟩
theorem Tryz.sortL:bJ aA Tryz.sortL_ren:={
 mixed:=kR
 f6:=⟨Tryz.f219.name,dE,func219.trans (zC some kR)⟩
 f14:=⟨Tryz.f262.name,dE,func262.trans (zC some kR)⟩
 f15:=func108.trans (zC some kR)
 f20:=⟨Tryz.f290.name,dE,func290.trans (zC some kR)⟩
 f21:=⟨Tryz.f291.name,dE,func291.trans (zC some kR)⟩
 f22:=⟨Tryz.f292.name,dE,func292.trans (zC some kR)⟩
 f23:=⟨Tryz.f293.name,dE,func293.trans (zC some kR)⟩
 f24:=⟨Tryz.f294.name,dE,func294.trans (zC some kR)⟩
 f25:=⟨Tryz.f295.name,dE,func295.trans (zC some kR)⟩
 f26:=⟨Tryz.f296.name,dE,func296.trans (zC some kR)⟩
 f27:=⟨Tryz.f297.name,dE,func297.trans (zC some kR)⟩
 f28:=func170.trans (zC some kR)
 f29:=func171.trans (zC some kR)
 f46:=⟨Tryz.f312.name,dE,func312.trans (zC some kR)⟩
 f47:=func224.trans (zC some kR)
 f48:=func225.trans (zC some kR)
 f49:=⟨Tryz.f313.name,dE,func313.trans (zC some kR)⟩
 f50:=⟨Tryz.f314.name,dE,func314.trans (zC some kR)⟩
 f57:=⟨Tryz.f329.name,dE,func329.trans (zC some kR)⟩
 t0:=underlying0
 a0:=isAgg0
 z0:=sizeOf0
 v0:=zeroValue0
 t3:=underlying3
 a3:=isAgg3
 z3:=sizeOf3
 v3:=zeroValue3
 t4:=underlying4
 a4:=isAgg4
 z4:=sizeOf4
 v4:=zeroValue4
 t5:=underlying5
 a5:=isAgg5
 z5:=sizeOf5
 v5:=zeroValue5
 t9:=underlying9
 a9:=isAgg9
 z9:=sizeOf9
 v9:=zeroValue9
 t22:=underlying228
 a22:=isAgg228
 z22:=sizeOf228
 v22:=zeroValue228
 t25:=underlying270
 a25:=isAgg270
 z25:=sizeOf270
 v25:=zeroValue270
 t39:=underlying188
 a39:=isAgg188
 z39:=sizeOf188
 v39:=zeroValue188
 t45:=underlying231
 a45:=isAgg231
 z45:=sizeOf231
 v45:=zeroValue231
 t46:=underlying232
 a46:=isAgg232
 z46:=sizeOf232
 v46:=zeroValue232
 t50:=underlying168
 a50:=isAgg168
 z50:=sizeOf168
 v50:=zeroValue168
 t53:=underlying238
 a53:=isAgg238
 z53:=sizeOf238
 v53:=zeroValue238
 t55:=underlying240
 a55:=isAgg240
 z55:=sizeOf240
 v55:=zeroValue240
 t66:=underlying272
 a66:=isAgg272
 z66:=sizeOf272
 v66:=zeroValue272
 t70:=underlying276
 a70:=isAgg276
 z70:=sizeOf276
 v70:=zeroValue276
 t76:=underlying324
 a76:=isAgg324
 z76:=sizeOf324
 v76:=zeroValue324
 t77:=underlying325
 a77:=isAgg325
 z77:=sizeOf325
 v77:=zeroValue325 }
def Tryz.b6C:eF:=⟨fun|6=>55|15=>108|14=>107|28=>170|29=>171|20=>162|21=>163|22=>164|23=>165|24=>166|25=>167|26=>168|27=>169|46=>223|47=>224|48=>225|49=>226|50=>227|57=>264|n=>n,fun|22=>118|24=>123|25=>128|3=>3|39=>188|0=>0|53=>238|55=>240|4=>4|46=>232|45=>231|50=>168|5=>5|9=>9|66=>272|70=>276|76=>324|77=>325|n=>n,fun|n=>n⟩
theorem Tryz.c2y:bJ aA Tryz.b6C:={
 mixed:=kR
 f6:=⟨Tryz.f55.name,dE,func55.trans (zC some kR)⟩
 f14:=⟨Tryz.f107.name,dE,func107.trans (zC some kR)⟩
 f15:=func108.trans (zC some kR)
 f20:=⟨Tryz.f162.name,dE,func162.trans (zC some kR)⟩
 f21:=⟨Tryz.f163.name,dE,func163.trans (zC some kR)⟩
 f22:=⟨Tryz.f164.name,dE,func164.trans (zC some kR)⟩
 f23:=⟨Tryz.f165.name,dE,func165.trans (zC some kR)⟩
 f24:=⟨Tryz.f166.name,dE,func166.trans (zC some kR)⟩
 f25:=⟨Tryz.f167.name,dE,func167.trans (zC some kR)⟩
 f26:=⟨Tryz.f168.name,dE,func168.trans (zC some kR)⟩
 f27:=⟨Tryz.f169.name,dE,func169.trans (zC some kR)⟩
 f28:=func170.trans (zC some kR)
 f29:=func171.trans (zC some kR)
 f46:=⟨Tryz.f223.name,dE,func223.trans (zC some kR)⟩
 f47:=func224.trans (zC some kR)
 f48:=func225.trans (zC some kR)
 f49:=⟨Tryz.f226.name,dE,func226.trans (zC some kR)⟩
 f50:=⟨Tryz.f227.name,dE,func227.trans (zC some kR)⟩
 f57:=⟨Tryz.f264.name,dE,func264.trans (zC some kR)⟩
 t0:=underlying0
 a0:=isAgg0
 z0:=sizeOf0
 v0:=zeroValue0
 t3:=underlying3
 a3:=isAgg3
 z3:=sizeOf3
 v3:=zeroValue3
 t4:=underlying4
 a4:=isAgg4
 z4:=sizeOf4
 v4:=zeroValue4
 t5:=underlying5
 a5:=isAgg5
 z5:=sizeOf5
 v5:=zeroValue5
 t9:=underlying9
 a9:=isAgg9
 z9:=sizeOf9
 v9:=zeroValue9
 t22:=underlying118
 a22:=isAgg118
 z22:=sizeOf118
 v22:=zeroValue118
 t25:=underlying128
 a25:=isAgg128
 z25:=sizeOf128
 v25:=zeroValue128
 t39:=underlying188
 a39:=isAgg188
 z39:=sizeOf188
 v39:=zeroValue188
 t45:=underlying231
 a45:=isAgg231
 z45:=sizeOf231
 v45:=zeroValue231
 t46:=underlying232
 a46:=isAgg232
 z46:=sizeOf232
 v46:=zeroValue232
 t50:=underlying168
 a50:=isAgg168
 z50:=sizeOf168
 v50:=zeroValue168
 t53:=underlying238
 a53:=isAgg238
 z53:=sizeOf238
 v53:=zeroValue238
 t55:=underlying240
 a55:=isAgg240
 z55:=sizeOf240
 v55:=zeroValue240
 t66:=underlying272
 a66:=isAgg272
 z66:=sizeOf272
 v66:=zeroValue272
 t70:=underlying276
 a70:=isAgg276
 z70:=sizeOf276
 v70:=zeroValue276
 t76:=underlying324
 a76:=isAgg324
 z76:=sizeOf324
 v76:=zeroValue324
 t77:=underlying325
 a77:=isAgg325
 z77:=sizeOf325
 v77:=zeroValue325 }
end Go.Proofs
namespace Go.Sx
open Go Go.Sort Go.Proofs
theorem a1s{w b T vs sp}(h:w.heap[b]?=some (yX T (vs++sp))):Holds id w b 0 vs.toArray:=fun j O=>by
 have N:j<vs.length:=by simpa using O
 have h1:(vs++sp)[j]?=some vs[j]:=by rw[aY N];exact aI N
 have h2:vs.toArray[j]! =vs[j]:=by rw[getElem!_pos _ j O];simp
 refine⟨?_,?_⟩
 ·rw[h2];simp only[World.cell?,h,yX,eG];simpa using h1
 simp only[World.frozen?,h,yX];simp
theorem b9C{vs N sp:List Value}(O:N.length=vs.length):putCells id 0 N.toArray (vs++sp).toArray=(N++sp).toArray:=by
 apply Array.ext_getElem?
 intro k;simp only[putCells,Array.getElem?_mapIdx,List.getElem?_toArray,bC,aN,true_and,eG,Nat.sub_zero];rcases bK k vs.length with h|h
 ·have h1:(vs++sp)[k]?=some vs[k]:=by rw[aY h];exact aI h
  have h2:(N++sp)[k]?=some (N[k]'oM):=by rw[aY oM];exact aI _
  have h3:N.toArray[k]! =N[k]'oM:=by rw[getElem!_pos _ k (by simpa using(oM:k<N.length))];simp
  rw[h1,h2,bM,zF oM,h3];rfl
 rw[dF h,dF oM,O];cases sp[k-vs.length]? with
 |none=>rfl
 |some v=>rw[bM,zD oM]
theorem St.c1w{w I b T vs N sp} n os (hr:Ready I [(b,yX T (vs++sp))] w)(hl:N.length=vs.length):
 St w [b] I I [(b,yX T (N++sp))] (grow (putRow id (aZ w n) b 0 N.toArray) os):=by
 obtain⟨r1,r2,_,r4⟩:=hr;have hb:=r2 _ (aP.2 rfl);have a0:∀{c:Nat} {o':Obj},w.heap[c]?=some o'→c<w.heap.size:=fun {c o'} O=>by
  rcases bK c w.heap.size with h'|h'
  ·exact h'
  simp[bF h']at O
 have a3:(putRow id (aZ w n) b 0 N.toArray).heap.size=w.heap.size:=by simp[putRow,mapBlock,aZ]
 have W:∀c,c<w.heap.size→c≠b→(grow (putRow id (aZ w n) b 0 N.toArray) os).heap[c]?=w.heap[c]?:=fun c O a2=>by
  simp only[grow];rw[dG oM];simp only[putRow,mapBlock,aZ,dQ,zD (Ne.symm a2)]
 have a1:(grow (putRow id (aZ w n) b 0 N.toArray) os).heap[b]?=some (yX T (N++sp)):=by
  have a4:=a0 hb;simp only[grow];rw[dG oM];simp only[putRow,mapBlock,aZ,dQ,if_true];rw[hb];simp only[bM,onCells,yX];rw[b9C hl]
 refine⟨rfl,rfl,rfl,?_,?_,?_,?_,sI,?_,?_,fun _ _=>rfl,eY _,a4V⟩
 ·simp only[grow,Array.size_append];omega
 ·intro c O hd;exact W c O (by simpa using hd)
 ·intro c o O;have h1:=r1 c o O;refine(W c (a0 h1) ?_).trans h1;rintro rfl;have:=r4 _ (aP.2 rfl);rw[this]at O;cases O
 ·intro p Z;rw[aP.1 Z];exact a1
 ·intro p Z;rw[aP.1 Z];exact r4 (b,yX T (vs++sp)) (aP.2 rfl)
 intro p Z;rw[aP.1 Z];exact .inl (.head _)
section
variable {α:Type} [Inhabited α] {enc:α→List Value} {k:Nat}
theorem QG(O:∀x,(enc x).length=k)(l:List α):flatK enc k l.toArray=(l.flatMap enc).toArray:=by
 refine ext_get! (by simp[DN O]) fun t ht=>?_;have N:t<l.length*k:=by simpa using ht
 have h0:0<k:=by
  rcases eH k with e|e
  ·subst e;simp at N
  exact e
 have Z:t / k<l.length:=(Nat.div_lt_iff_lt_mul h0).2 N;have W:t % k<k:=Nat.mod_lt _ h0;rw[get_flatK _ _ _ _ (by simpa using N)];have h1:l.toArray[t / k]! =l[t / k]:=by rw[getElem!_pos _ _ (by simpa using Z)];simp
 have h2:l[t / k]?=some l[t / k]:=aI Z;have h3:=b0J O (sp:=[]) h2 (t % k) W;rw[bP,Nat.mul_comm,Nat.div_add_mod]at h3;have h4:t<(l.flatMap enc).length:=by rw[DN O];exact N
 rw[h1,getElem!_pos _ t (by simpa using h4),List.getElem_toArray,getElem!_pos _ _ (by rw[O];exact W)];rw[aI h4,aI (by rw[O];exact W)]at h3;exact(fM h3).symm
theorem a7d{l:List α}{N}(h:PermIn 0 l.length l.toArray N):N.toList.Perm l:=by
 obtain⟨h1,_,h3⟩:=h;have O:N.size=l.length:=by rw[h1];simp
 rw[←O]at h3;simp only[eP]at h3;rw[O]at h3;have W:l.toArray.extract 0 l.length=l.toArray:=by
  have:=eP (xs:=l.toArray)
  rwa [bC]at this
 rw[W]at h3;simpa using h3
theorem sorted_in{lt}{N:Array α}(h:SortedIn lt 0 N.size N):N.toList.Pairwise fun x y=>lt y x=false:=by
 rw[List.pairwise_iff_getElem];intro i j hi hj W;have Z:i<N.size:=by simpa using hi
 have O:j<N.size:=by simpa using hj
 have:=h i j (aN _) W O;rw[getElem!_pos N i Z,getElem!_pos N j O]at this;simpa using this
end
end Go.Sx
namespace Go.Proofs.YtekmeaoblpfnpaaGreatDoor
open Go Go.Shelf Go.RowKit Go.Lib Go.Sort
abbrev recC (x:aB):List Value:=[.int .i64 x.1,.int .i64 x.2]
theorem BR x:(recC x).length=2:=rfl
abbrev II (x:List UInt8×Int):List Value:=[Sx.str x.1,.int .i64 x.2]
theorem IX x:(II x).length=2:=rfl
def a1h (x y:aB):Int:=NK (compareInt x.1 y.1) (compareInt x.2 y.2)
def a0Z (x y:List UInt8×Int):Int:=MC x.1 y.1
theorem XE x y:ltOf a1h x y=bG x y:=by
 rw[fO,Ix.WU];unfold ltOf a1h NK compareInt;rw[zG]
 repeat(first|omega|split)
theorem b5u:SWO (ltOf a1h) where
 irrefl x:=by rw[XE];exact Ix.GR x
 trans x y z h1 h2:=by rw[XE]at *;exact Ix.NY h1 h2
 ntrans x y z h1 h2:=by
  rw[XE,bD,Ne,Ix.WU]at *;omega
theorem YF x y:ltOf a0Z x y=decide (x.1<y.1):=by
 unfold ltOf a0Z MC;rw[decide_eq_decide]
 by_cases h:x.1<y.1
 ·rw[zF h];simp[h]
 rw[zD h]
 by_cases h2:y.1<x.1
 ·rw[zF h2];simp[h]
 rw[zD h2];simp[h]
theorem b3a:SWO (ltOf a0Z) where
 irrefl x:=by rw[YF];exact zI (List.lt_irrefl _)
 trans x y z h1 h2:=by
  rw[YF]at *;exact zH (List.lt_trans (ED h1) (ED h2))
 ntrans x y z h1 h2:=by
  rw[YF]at *;have N:=fE.1 (FQ h1);have O:=fE.1 (FQ h2);exact zI (fE.2 (List.le_trans O N))
theorem a2q{base} l g (hg:Sx.BL base 2 l.length (l.flatMap recC) g)(hl:l.length≤100000000000000) I:Sx.yY aA 77 [Sx.gV l.length g,.func (.func 78) #[] #[]] I (Sx.gH 54 (l.flatMap recC) g)
 (fun e a3 H'=>∃O:List aB,O.Perm l∧O.Pairwise (fun p q=>bG q p=false)∧e= .returned (.tuple #[])∧H'=Sx.gH 54 (O.flatMap recC) g):=by
 cases g with
 |none=>
  obtain⟨h1,h2⟩:=hg;have h0:l=[]:=aJ.1 h1;subst h0;exact(fP (bQ Tryz.func77 dE rfl) (fun w _=>dH Tryz.c2s none 0 (.func (.func 78) #[] #[]) w)).mono fun e _ H' _ ⟨h1,_,h3⟩=>⟨[],gI _,aX,h1,h3⟩
 |some q=>
  obtain⟨b,c,sp⟩:=q;refine⟨bQ Tryz.func77 dE rfl,fun w hw=>?_⟩;have W:=hw.2.1 _ (.head _);have a1:b<w.heap.size:=by
   rcases bK b w.heap.size with h|h
   ·exact h
   rw[bF h]at W;cases W
  have eg:∀args w,(callFunc 78 args).run aA w= .ok (.enter 78 args) w:=enters_of Tryz.func78 kR rfl;have hH:HoldsK recC 2 w b 0 l.toArray:=by
   unfold HoldsK;rw[Sx.QG BR];exact Sx.a1s W
  have Z:CmpLays aA 78 #[] recC 2 a1h b 0 l.toArray.size w:=fun m os _ _ x y=>b2L x.1 x.2 y.1 y.2 _;have a0:=dV Tryz.c2s 2 IZ EJ recC BR (fun x v hv=>by
   simp only[gY,fF,or_false]at hv;rcases hv with rfl|rfl<;>rfl) a1h b5u 78 #[] b 0 c l.toArray w eg Z hH a1 (by simp;omega)
  refine a0.mono fun e w' ⟨h1,N,n,os,h2,h3,h4⟩=>?_;rw[bC]at h2 h3;have hp:=Sx.a7d h2;have a2:N.size=l.length:=by have:=hp.length_eq;simpa using this
  rw[←a2]at h3;refine⟨I,_,?_,N.toList,hp,(Sx.sorted_in h3).imp fun h=>?_,h1,rfl⟩
  ·rw[h4];unfold sortWorldK putRowK;rw[show N=N.toList.toArray from(dW (xs:=N)).symm,Sx.QG BR];exact Sx.St.c1w n os hw (by rw[dP BR,dP BR,hp.length_eq])
  rw[XE]at h;exact h
theorem a4G{base} l g (hg:Sx.BL base 2 l.length (l.flatMap II) g)(hl:l.length≤100000000000000) I:Sx.yY aA 219 [Sx.gV l.length g,.func (.func 220) #[] #[]] I (Sx.gH 268 (l.flatMap II) g)
 (fun e a3 H'=>∃O:List (List UInt8×Int),O.Perm l∧O.Pairwise (fun p q=>¬q.1<p.1)∧e= .returned (.tuple #[])∧H'=Sx.gH 268 (O.flatMap II) g):=by
 cases g with
 |none=>
  obtain⟨h1,h2⟩:=hg;have h0:l=[]:=aJ.1 h1;subst h0;exact(fP (bQ iD dE rfl) (fun w _=>dH Tryz.sortL none 0 (.func (.func 220) #[] #[]) w)).mono fun e _ H' _ ⟨h1,_,h3⟩=>⟨[],gI _,aX,h1,h3⟩
 |some q=>
  obtain⟨b,c,sp⟩:=q;refine⟨bQ iD dE rfl,fun w hw=>?_⟩;have W:=hw.2.1 _ (.head _);have a1:b<w.heap.size:=by
   rcases bK b w.heap.size with h|h
   ·exact h
   rw[bF h]at W;cases W
  have eg:∀args w,(callFunc 220 args).run aA w= .ok (.enter 220 args) w:=enters_of Tryz.func220 kR rfl;have hH:HoldsK II 2 w b 0 l.toArray:=by
   unfold HoldsK;rw[Sx.QG IX];exact Sx.a1s W
  have Z:CmpLays aA 220 #[] II 2 a0Z b 0 l.toArray.size w:=fun m os _ _ x y=>b9r x.1 y.1 x.2 y.2 _;have a0:=dV Tryz.sortL 2 Tryz.isAgg268 UL II IX (fun x v hv=>by
   simp only[gY,fF,or_false]at hv;rcases hv with rfl|rfl<;>rfl) a0Z b3a 220 #[] b 0 c l.toArray w eg Z hH a1 (by simp;omega)
  refine a0.mono fun e w' ⟨h1,N,n,os,h2,h3,h4⟩=>?_;rw[bC]at h2 h3;have hp:=Sx.a7d h2;have a2:N.size=l.length:=by have:=hp.length_eq;simpa using this
  rw[←a2]at h3;refine⟨I,_,?_,N.toList,hp,(Sx.sorted_in h3).imp fun h=>?_,h1,rfl⟩
  ·rw[h4];unfold sortWorldK putRowK;rw[show N=N.toList.toArray from(dW (xs:=N)).symm,Sx.QG IX];exact Sx.St.c1w n os hw (by rw[dP IX,dP IX,hp.length_eq])
  rw[YF]at h;exact FQ h
end Go.Proofs.YtekmeaoblpfnpaaGreatDoor
section
namespace Go.Proofs.YtekmeaoblpfnpaaGreatDoor
open _root_.Go.Proofs.Tryz
open Go Go.Sx
def ixH (ib:Nat):Option Ist→HL
 |none=>[(ib,yX 114 [.map none,.map none,.map none])]
 |some s=>a3u ib s
def OB (I:Heap):Option Ist→fA→Prop
 |none,L=>L=[]
 |some s,L=>GN I s L
theorem OB.mono{I N o L}(h:OB I o L)(O:Le I N):OB N o L:=by
 cases o with
 |none=>exact h
 |some s=>exact GN.mono h O
theorem OB.GY{I o L}(h:OB I o L):bT L:=by
 cases o with
 |none=>rw[show L=[] from h];exact aX
 |some s=>exact GN.GY h
theorem OB.big{I o L}(h:OB I o L):L.length≤100000:=by
 cases o with
 |none=>rw[show L=[] from h];exact aN _
 |some s=>exact GN.big h
theorem b8w O o L N I (Z:OB I o L)(a1:L.length<100000)(a0:RH N.fs)(W:QX I N.fs N.v):yY aA 50 [ptr O 0,.agg (IB N).toArray] I (ixH O o)
 (fun e I' H'=>∃o',e= .returned (.tuple #[])∧OB I' o' (Ix.KY N.t (Ix.vals N.fs) L)∧H'=ixH O o'):=by
 cases o with
 |none=>
  have hL:L=[]:=Z;subst hL;exact(c0j O N I a0 W).mono fun e I' H' _ ⟨s',h1,h2,h3⟩=>⟨some s',h1,h2,h3⟩
 |some s=>exact(c0l O s L N I Z a1 a0 W).mono fun e I' H' _ ⟨s',h1,h2,h3⟩=>⟨some s',h1,h2,h3⟩
theorem c3t N o L t I (O:OB I o L):yY aA 43 [ptr N 0,zZ t] I (ixH N o)
 (fun e W H'=>∃o',e= .returned (.tuple #[])∧OB W o' (Ix.UO t L)∧H'=ixH N o'):=by
 cases o with
 |none=>
  have Z:L=[]:=O;subst Z;exact(a8J N t I).mono fun e W H' _ ⟨h1,h3⟩=>⟨none,h1,rfl,h3⟩
 |some s=>exact(a7Y N s L t I O).mono fun e W H' _ ⟨s',h1,h2,h3⟩=>⟨some s',h1,h2,h3⟩
def UF (I:Heap) (ib:Nat) (L:fA):Prop:=∃o,OB I o L∧∀p∈ixH ib o,I p.1=some p.2
theorem UF.mono{I O W L}(h:UF I W L)(N:Le I O):UF O W L:=let ⟨o,h1,h2⟩:=h;⟨o,h1.mono N,fun p Z=>N _ _ (h2 p Z)⟩
theorem UF.GY{I N L}(h:UF I N L):bT L:=let ⟨_,h1,_⟩:=h;h1.GY
theorem UF.big{I N L}(h:UF I N L):L.length≤100000:=let ⟨_,h1,_⟩:=h;h1.big
def a7s (I:Heap) (mv:Option Nat) (f:Ix.Pl→aB→Nat):Prop:=(mv=none∧∀p t,f p t=0)∨∃b l c N,mv=some b∧CJ l c N f∧∀q∈setH b l c N,I q.1=some q.2
theorem a7s.mono{I O mv f}(h:a7s I mv f)(W:Le I O):a7s O mv f:=by
 rcases h with h|⟨b,l,c,N,h1,h2,h3⟩
 ·exact .inl h
 exact .inr ⟨b,l,c,N,h1,h2,fun q Z=>W _ _ (h3 q Z)⟩
def b0r (I:Heap) (mv:Option Nat) (L:fA):Prop:=(mv=none∧L=[])∨∃b l c,mv=some b∧MS l c∧UW I l L∧I b=some (zY zZ l c)
theorem b0r.mono{I O mv L}(h:b0r I mv L)(N:Le I O):b0r O mv L:=by
 rcases h with h|⟨b,l,c,h1,h2,h3,W⟩
 ·exact .inl h
 exact .inr ⟨b,l,c,h1,h2,h3.mono N,N _ _ W⟩
theorem UF.parts{I O L}(h:UF I O L):∃Z wm km,I O=some (yX 114 [.map Z,.map wm,.map km])∧b0r I Z L∧a7s I wm (iE Ix.plW L)∧a7s I km (iE Ix.XF L):=by
 obtain⟨o,h1,h2⟩:=h;cases o with
 |none=>
  have hL:L=[]:=h1;subst hL;exact⟨none,none,none,h2 _ (.head _),.inl rT,.inl ⟨rfl,fun _ _=>rfl⟩,.inl ⟨rfl,fun _ _=>rfl⟩⟩
 |some s=>
  have N:GN I s L:=h1;refine⟨some s.vb,some s.wb,some s.kb,h2 (O,_) (.tail _ (.head _)),.inr ⟨s.vb,s.lv,s.cv,rfl,N.vms,N.vals,h2 (s.vb,_) (.head _)⟩,.inr ⟨s.wb,s.lw,s.cw,s.Nw,rfl,N.nw,fun q W=>h2 q ?_⟩,.inr ⟨s.kb,s.lk,s.ck,s.Nk,rfl,N.nk,fun q W=>h2 q ?_⟩⟩
  ·exact .tail _ (.tail _ (dX _ W))
  exact .tail _ (.tail _ (dR _ W))
theorem a1Z{α:Type}[BEq α][LawfulBEq α]{l m:List α}(N:l.Nodup)(h:∀x∈l,x∈m):l.length≤m.length:=by
 induction l generalizing m with
 |nil=>simp
 |cons a r ih=>
  rw[List.nodup_cons]at N;have O:=h a (.head _);have:=ih (m:=m.erase a) N.2 fun x W=>by
   have Z:x≠a:=fun e=>N.1 (e▸W);exact(List.mem_erase_of_ne Z).2 (h x (.tail _ W))
  rw[List.length_erase_of_mem O]at this;have h0:0<m.length:=List.length_pos_of_mem O;rw[fG];omega
theorem c3x{L:fA}{m k}{f:aB→Nat}(N:MS m k)(O:∀t,AA m t=cv (f t))(hs:bT L)(W:∀t,f t≠0→∃e∈L,e.1=t):m.length≤L.length:=by
 have h1:(m.map (·.1)).length≤(L.map (·.1)).length:=by
  refine a1Z N.1 fun t Z=>?_;have h2:AA m t≠none:=fun h=>IW.1 h Z;rw[O]at h2;have h3:f t≠0:=fun h=>h2 (by rw[h];rfl);obtain⟨e,he,rfl⟩:=W t h3;exact bV he
 rw[aS,aS]at h1;exact h1
structure TA where
  vis:ML Ix.Rec
  rest:ML Ix.Rec
  g:Gs
theorem b5X{m k}{f:aB→Nat}(hm:MS m k)(W:∀t,AA m t=cv (f t)){vis:ML aB}(Z:vis.Perm m){N:List aB}(O:N.Perm (vis.map bH))(ho:N.Pairwise fun p q=>bG q p=false):(N.Pairwise fun a b=>bG a b=true)∧∀t,t∈N↔f t≠0:=by
 have a0:N.Nodup:=O.nodup_iff.2 ((Z.map _).nodup_iff.2 hm.1);refine⟨?_,fun t=>?_⟩
 ·refine(List.pairwise_and_iff.2 ⟨ho,List.nodup_iff_pairwise_ne.1 a0⟩).imp fun {a b} ⟨h1,h2⟩=>?_;rcases Ix.a0r a b with h|h|h
  ·exact h
  ·exact absurd h h2
  rw[h]at h1;cases h1
 rw[O.mem_iff,(Z.map _).mem_iff];constructor
 ·intro h;have h2:AA m t≠none:=fun g=>IW.1 g h;rw[W]at h2;exact fun g=>h2 (by rw[g];rfl)
 intro h;refine Classical.byContradiction fun g=>?_;have:=IW.2 g;rw[W,b6M h]at this;cases this
theorem c4B(vis:ML aB) g:gV (vis.map bH).length g=gV vis.length g:=by rw[aS]
theorem a1O{base sz n xs g}(h:BL base sz n xs g):BL 0 sz n xs g:=by
 cases g with
 |none=>exact h
 |some q=>exact⟨aN _,h.2⟩
theorem c5v{base}{l N:List aB}{g}(h:BL base 2 l.length (l.flatMap recC) g)(O:N.length=l.length):BL base 2 N.length (N.flatMap recC) g:=by
 rw[O];exact a1m h (by rw[DN BR,DN BR,O])
theorem b5N b l c p mb m k (f:aB→Nat)(hm:AA l p=some (.map (some mb)))(N:MS m k)(a7:∀t,AA m t=cv (f t))(ad:m.length≤100000) I (hb:I b=some (zY FH l c))(O:I mb=some (zY zZ m k)):yY aA 79 [.map (some b),FH p] I []
 (fun e _ H'=>∃(ts:List aB) (g:Gs),(ts.Pairwise fun a b=>bG a b=true)∧(∀t,t∈ts↔f t≠0)∧BL 0 2 ts.length (ts.flatMap recC) g∧e= .returned (gV ts.length g)∧H'=gH 54 (ts.flatMap recC) g):=by
 refine zQ func79 fun w0 _=>?_;refine yU 3 ?_;intro _ _;refine yU 13 ?_;refine J.z (BI (kv:=FH) (l:=l) (a:=p) rfl rfl rfl rfl JK MW LW (dI hb)) ?_;refine J.ev 9 (.map (some mb)) rfl (by rw[hm];rfl) ?_;refine fH rfl (NV (kv:=zZ) (l:=m) rfl rfl rfl rfl IC (dI O) ?_);intro b2 _;refine yU 3 ?_;refine Cj.keep (gJ (fB iI)) ?_;refine dS (ι:=TA) (fun y=>(y.vis++y.rest).Perm m∧BL w0.heap.size 2 y.vis.length ((y.vis.map bH).flatMap recC) y.g) (fun y=>y.rest.length) (fun y=>[(5,gV y.vis.length y.g),(10,ptr b2 0)]) (fun y=>_) (fun y=>(b2,WT mb k y.vis k)::gH 54 ((y.vis.map bH).flatMap recC) y.g) ⟨[],m,none⟩ ⟨.refl _,rfl,rfl⟩ rT rfl rfl ?_;rintro⟨vis,rest,g⟩ ⟨W,hg⟩;dsimp only at W hg ⊢;have a3:=W.length_eq;rw[aF]at a3;refine yU 2 ?_;refine fH rfl (QJ (kv:=zZ) (l:=m) 0 rfl rfl rfl rfl rfl (dI O) N.2.2 (Nat.le_refl _) N.2.1 W ?_ ?_)
 ·rintro x a0 H9 a8 a1 ⟨-,hset⟩;simp only[cZ,dA]at hset;subst hset;refine yU 10 ?_;refine J.z (VY (kv:=zZ) (l:=m) rfl rfl (yZ.at 0 rfl) (dI O) (a1.mem_iff.1 (dX _ (dR _ (.head _)))) N.2.1) ?_;refine yU 2 ?_;intro _ _;refine yU 7 ?_;intro b5 _;refine RD 15 [_,_,_] hg ?_;intro g6 a9;refine yU 3 ?_;refine dU (fB (fB (gJ Keeps.r))) ?_;refine bY ⟨vis++[x],a0,g6⟩ ⟨a1,by dsimp only;rw[aF,fQ,bW];exact a9⟩ (by have h:=a8.length_eq;simp only[fG]at h;dsimp only;omega) ⟨by dsimp only;rw[aF];rfl,rfl,trivial⟩ rfl (by dsimp only;rw[fQ,bW];rfl)
 intro a4;refine yU 11 ?_;have aa:vis.Perm m:=by rw[a4,bP]at W;exact W
 have a2:BL w0.heap.size 2 (vis.map bH).length ((vis.map bH).flatMap recC) g:=by rw[aS];exact hg
 refine yU 2 ?_;refine J.ev 19 (gV (vis.map bH).length g) rfl ((c4B vis g).symm) ?_;refine MJ [_] (a2q (vis.map bH) g a2 (by rw[aS];omega) _) ?_;rintro _ _ H9 _ ⟨ts,Z,ab,h,rfl⟩;cases h;obtain⟨a5,a6⟩:=b5X N a7 aa Z ab;have ac:vis.length=ts.length:=by rw[Z.length_eq,aS]
 refine yU 9 ?_;refine dU (H':=gH 54 (ts.flatMap recC) g) (List.sublist_append_right [_] _) ?_;refine zV ?_;rw[ac];exact⟨ts,g,a5,a6,a1O (c5v a2 Z.length_eq),rfl,rfl⟩
theorem b6u p (f:aB→Nat)(W:∀t,f t=0) I:yY aA 79 [.map none,FH p] I []
 (fun e _ H'=>∃(ts:List aB) (g:Gs),(ts.Pairwise fun a b=>bG a b=true)∧(∀t,t∈ts↔f t≠0)∧BL 0 2 ts.length (ts.flatMap recC) g∧e= .returned (gV ts.length g)∧H'=gH 54 (ts.flatMap recC) g):=by
 refine zQ func79 fun w0 _=>?_;refine yU 3 ?_;intro _ _;refine yU 13 ?_;refine J.z (JX (kv:=FH) (a:=p) rfl rfl rfl rfl JK MW LW) ?_;refine fH rfl (LQ rfl rfl rfl rfl IC ?_);intro _ _;refine yU 3 ?_;refine Cj.rounds 1 ?_;refine Rj.succ ?_;refine yU 2 ?_;refine fH rfl (MV 0 rfl rfl rfl rfl rfl ?_);refine MJ [_,_] (a2q (base:=0) [] none rT dE _) ?_;rintro _ _ _ _ ⟨ts,N,_,h,rfl⟩;cases h;have O:=N.eq_nil;subst O;refine AB ?_;exact⟨[],none,aX,fun t=>⟨fun h=>(by cases h),fun h=>absurd (W t) h⟩,⟨rfl,rfl⟩,rfl,rfl⟩
theorem b2U b l c p (f:aB→Nat)(W:AA l p=none)(Z:∀t,f t=0) I (hb:I b=some (zY FH l c)):yY aA 79 [.map (some b),FH p] I []
 (fun e _ H'=>∃(ts:List aB) (g:Gs),(ts.Pairwise fun a b=>bG a b=true)∧(∀t,t∈ts↔f t≠0)∧BL 0 2 ts.length (ts.flatMap recC) g∧e= .returned (gV ts.length g)∧H'=gH 54 (ts.flatMap recC) g):=by
 refine zQ func79 fun w0 _=>?_;refine yU 3 ?_;intro _ _;refine yU 13 ?_;refine J.z (BI (kv:=FH) (l:=l) (a:=p) rfl rfl rfl rfl JK MW LW (dI hb)) ?_;refine J.ev 9 (.map none) rfl (by rw[W];rfl) ?_;refine fH rfl (LQ rfl rfl rfl rfl IC ?_);intro _ _;refine yU 3 ?_;refine Cj.rounds 1 ?_;refine Rj.succ ?_;refine yU 2 ?_;refine fH rfl (MV 0 rfl rfl rfl rfl rfl ?_);refine MJ [_,_] (a2q (base:=0) [] none rT dE _) ?_;rintro _ _ _ _ ⟨ts,N,_,h,rfl⟩;cases h;have O:=N.eq_nil;subst O;refine AB ?_;exact⟨[],none,aX,fun t=>⟨fun h=>(by cases h),fun h=>absurd (Z t) h⟩,⟨rfl,rfl⟩,rfl,rfl⟩
theorem a2X mv O (L:fA) p I (h:a7s I mv O)(hs:bT L)(hL:L.length≤100000)(hf:∀t,O p t≠0→∃e∈L,e.1=t):yY aA 79 [.map mv,FH p] I []
 (fun e _ H'=>∃(ts:List aB) (g:Gs),(ts.Pairwise fun a b=>bG a b=true)∧(∀t,t∈ts↔O p t≠0)∧BL 0 2 ts.length (ts.flatMap recC) g∧e= .returned (gV ts.length g)∧H'=gH 54 (ts.flatMap recC) g):=by
 rcases h with⟨rfl,hz⟩|⟨b,l,c,N,rfl,hN,hI⟩
 ·exact b6u p (O p) (hz p) I
 rcases hN.find p with⟨a1,W,hz⟩|⟨A,ib,m,k,B,rfl,W,Z,a2,a0,hA,hB⟩
 ·exact b2U b l c p (O p) W hz I (hI (b,_) (.head _))
 exact b5N b l c p ib m k (O p) W Z a0 (FD (c3x Z a0 hs hf) hL) I (hI (b,_) (.head _)) (hI (ib,zY zZ m k) (.tail _ (iF.2 ⟨(p,ib,m,k),sI,rfl⟩)))
theorem b2c{pl L}(h:bT L) p t (N:iE pl L p t≠0):∃e∈L,e.1=t:=by
 unfold iE at N;cases hg:bZ L t with
 |none=>rw[hg]at N;exact absurd rfl N
 |some vs=>exact⟨_,(Ix.IK h).1 hg,rfl⟩
end Go.Proofs.YtekmeaoblpfnpaaGreatDoor
end
namespace Go.Sx
open Go
section
variable {cx:Cx} {Q:Qt} {o:Oper} {e:Env} {I:Heap} {H:HL} {C:Ct} {S:World→Prop}
theorem c0T{x T E b off n c sz t cs z} i (ho:o.op= .call ⟨.builtin .clear,#[x],#[T]⟩)(hd:o.dst=none)(hx:ev e x=some (.slice (some ⟨b,off,none⟩) n c))(hn:0<n)(hu:cx.P.underlying T=some (.slice E))(hz:∀w,(zeroValue E).run cx.P w= .ok z w)
 (a0:z.cells.size=sz)(a5:0<sz)(a1:z.cells.toList.all Value.oneCell'=true)(O:H[i]?=some (b,yX t cs))(a4:off+n*sz≤cs.length)(k:∀vs H',vs.length=n*sz→AU H i (b,yX t (cs.take off++vs++cs.drop (off+n*sz))) H'→C e I H'):DJ cx Q o e I H C:=by
 intro K hK a w ha hs;unfold Oper.wp;have hb:=hs.own _ (List.mem_of_getElem? O);have N:(aC z.cells n).toList.length=n*sz:=by simp[aC,a0]
 have W:∀v∈(aC z.cells n).toList,v.oneCell'=true:=fun v hv=>by
  simp only[aC,Array.toList_map,iF]at hv;obtain⟨j,_,rfl⟩:=hv;have a2:j % z.cells.size<z.cells.size:=Nat.mod_lt _ oM;rw[getElem!_pos z.cells _ a2];exact List.all_eq_true.1 a1 _ sI
 have Z:AL cs (off+0) (aC z.cells n).toList (cs.take off++(aC z.cells n).toList++cs.drop (off+n*sz)):=⟨by rw[N];omega,by rw[N,Nat.add_zero]⟩;have a3:=KJ (P:=cx.P) (t:=t) (aC z.cells n).toList 0 w cs hb (.inl rfl) (by rw[N];omega) W _ Z;obtain⟨n,rfl⟩:∃m,n=m+1:=⟨n-1,oM⟩;have:(execOp a.eval o).run cx.P w= .ok (.value (.tuple #[])) (World.block w b (yX t (cs.take off++(aC z.cells (n+1)).toList++cs.drop (off+(n+1)*sz)))):=by
  simp only[execOp,ho,resolve,invoke,builtin,Builtin.clear_,Sem.run_bind,Sem.run_pure,Result.andThen_ok];simp[ha.eval hx,run_underlying hu,hz,a3,yX,aG]
 rw[this];simp only[Oper.upon,hd];have hset:AU H i (b,yX t (cs.take off++(aC z.cells (n+1)).toList++cs.drop (off+(n+1)*sz))) (H.set i (b,yX t (cs.take off++(aC z.cells (n+1)).toList++cs.drop (off+(n+1)*sz)))):=⟨(aK.1 O).1,rfl⟩;exact hK _ _ _ (k _ _ N hset) _ _ ha.WE (hs.block O hset)
theorem b8Q{x y z}{T E n c sz k m:Nat}{a kl kh}(W:o.op= .slice T x none (some y) (some z))(Z:ev e x=some (.slice a n c))(hy:ev e y=some (.int kl (k:Int)))(hz:ev e z=some (.int kh (m:Int)))(hu:cx.P.underlying T=some (.slice E))(O:∀w,(sizeOf E).run cx.P w= .ok sz w)(a0:k≤m)(a1:m≤c):
 BO cx o e S (.slice a k m):=by
 intro w0 w N _;have h1:(k:Int)≤m:=oM;have h2:(m:Int)≤c:=oM;cases a with
 |none=>simp[execOp,W,N.eval Z,N.eval hy,N.eval hz,gZ,iH,run_underlying hu,fD,run_sliceBound,h1,h2,O]
 |some q=>simp[execOp,W,N.eval Z,N.eval hy,N.eval hz,gZ,iH,run_underlying hu,fD,run_sliceBound,h1,h2,O,Addr.add]
end
def SB {α:Type} (T:TypeId) (f:α→List Value) (l:List α) (v:Value) (H:HL):Prop:=(l=[]∧v= .slice none 0 0∧H=[])∨∃b c sp,v= .slice (some ⟨b,0,none⟩) l.length c∧l.length≤c∧H=[(b,yX T (l.flatMap f++sp))]
theorem SB.b9Y{α:Type}{T}{f:α→List Value}{sz base n:Nat}{l:List α}{g}(W:∀x,(f x).length=sz)(N:0<sz)(Z:n=l.length)(O:BL base sz n (l.flatMap f) g):SB T f l (gV n g) (gH T (l.flatMap f) g):=by
 subst Z;cases g with
 |none=>
  obtain⟨h1,h2⟩:=O;exact .inl ⟨aJ.1 h1,by rw[h1];rfl,rfl⟩
 |some q=>
  obtain⟨b,c,sp⟩:=q;obtain⟨h1,h2,h3⟩:=O;have hc:l.length≤c:=by
   rw[DN W]at h3;exact Nat.le_of_mul_le_mul_right (oM:l.length*sz≤c*sz) N
  exact .inr ⟨b,c,sp,rfl,hc,rfl⟩
section
variable {cx:Cx} {Q:Qt} {e:Env} {I:Heap} {R H1:HL} {T:TypeId} {α:Type} {l:List α} {f:α→List Value} {v:Value}
theorem a9g{X:Heap→HL→Prop}{base}(h:SB T f l v H1)(W:∀p∈H1,base≤p.1)(Z:∀b o,base≤b→(∀N,Le I N→N b=some o→X N R)→X I ((b,o)::R))(k:∀N,Le I N→PU T f N l v→X N R):X I (H1++R):=by
 rcases h with⟨rfl,rfl,rfl⟩|⟨b,c,sp,rfl,hc,rfl⟩
 ·exact k I (eY _) PU.nil
 exact Z b _ (W _ (.head _)) fun N O hI=>k N O ⟨_,c,rfl,hc,fun _=>⟨b,sp,rfl,hI⟩⟩
theorem J.a1A{N r}(h:SB T f l v H1)(O:∀p∈H1,cx.w0.heap.size≤p.1)(k:∀W,Le I W→PU T f W l v→J cx Q N r e W R):J cx Q N r e I (H1++R):=a9g (X:=fun I H=>J cx Q N r e I H) h O (fun _ _ O k=>J.persist O k) k
end
section
variable {cx:Cx} {Q:Qt} {e:Env} {I:Heap} {H:HL} {o:Oper} {C:Ct}
end
theorem GX{α:Type}{f:α→List Value}{n:Nat}(N:∀x,(f x).length=n){sp:List Value}{x}:∀{l:List α} {i:Nat},i<l.length→AL (l.flatMap f++sp) (i*n) (f x) ((l.set i x).flatMap f++sp)
 |[],_,h=>by simp at h
 |a::r,0,_=>by
  refine⟨by rw[Nat.zero_mul,N,aT,aF,aF,N];omega,?_⟩;rw[Nat.zero_mul,List.take_zero,List.nil_append,eG,cZ,aT,aT,aG,aG,N,←N a,List.drop_left]
 |a::r,i+1,h=>by
  obtain⟨h1,h2⟩:=GX N (sp:=sp) (x:=x) (l:=r) (i:=i) (by simpa using h);have O:=N a;refine⟨by rw[aT,aG,aF,O,Nat.add_mul];omega,?_⟩;rw[dA,aT,aG,h2,aT,aG (f a),show(i+1)*n=(f a).length+i*n by rw[O,Nat.add_mul];omega,List.take_length_add_append,Nat.add_assoc,List.drop_length_add_append];simp only[aG]
end Go.Sx
section
namespace Go.Proofs.YtekmeaoblpfnpaaGreatDoor
open _root_.Go.Proofs.Tryz
open Go Go.Sx
theorem a3j{w l}(h:l.length<w.length):aQ w l=false:=by
 rw[bD,Ne,Ix.within_iff];exact fun g=>by have:=g.length_le;omega
theorem a6l{w l}(h:l.take w.length=w):aQ w l=true:=by
 rw[Ix.within_iff];exact(dM.2 h.symm).isInfix
theorem a4w{w l:Ke.Row}{k}(Z:k+w.length≤l.length)(h:¬(l.drop k).take w.length=w):aQ w (l.drop k)=aQ w (l.drop (k+1)):=by
 rcases bK k l.length with N|W
 ·rw[←List.getElem_cons_drop N]at h ⊢
  conv=>lhs;unfold aQ
  have:w.isPrefixOf (l[k]::l.drop (k+1))=false:=by
   rw[bD,Ne,List.isPrefixOf_iff_prefix,dM];exact fun e=>h e.symm
  rw[this,Bool.false_or]
 have O:w=[]:=aJ.1 oM;subst O;exact absurd rfl h
theorem c3S{a b:List (List UInt8)}{k x y}(h:a.take k=b.take k)(N:a[k]?=some x)(O:b[k]?=some y)(W:x=y):a.take (k+1)=b.take (k+1):=by
 obtain⟨h1,Z⟩:=aK.1 N;obtain⟨h2,e2⟩:=aK.1 O;rw[aW h1,aW h2,h,Z,e2,W]
theorem b1R{I l a n c}(h:EY I l (.slice a n c)){j k}(N:j≤k)(O:k≤l.length):EY I ((l.drop j).take (k-j)) (.slice (a1y a c j 1) (k-j) (c-j)):=
 VZ.2 (zS.cut (f:=fun s=>[str s]) (sz:=1) (fun _=>rfl) (VZ.1 h) N O)
theorem b7z a b va vb I (ha:EY I a va)(hb:EY I b vb)(ac:a.length≤100000000000000):Pure aA 136 [va,vb] I (.bool (decide (a=b))):=by
 refine aU ?_;obtain⟨p1,c1,rfl,_,a5⟩:=ha;obtain⟨p2,c2,rfl,_,a6⟩:=hb;refine zQ func136 fun w0 _=>?_;refine zK ?_ ?_<;>intro a2 N
 ·refine zV ?_;rw[zI (fun e=>N (by rw[e]))];exact rT
 have ab:a.length=b.length:=by have h:=N;omega
 refine yU 11 ?_;refine dS (ι:=Nat) (fun j=>j≤a.length∧a.take j=b.take j) (fun j=>a.length-j) (fun j=>[(0,.slice p1 a.length c1),(1,.slice p2 b.length c2),(12,i64 (a.length:Int)),(13,i64 (j:Int))]) (fun j=>I) (fun j=>[]) 0 ⟨aN _,rfl⟩ rT rfl rfl ?_;rintro j ⟨_,W⟩;refine zK ?_ ?_<;>intro a3 a0
 ·have a1:j<a.length:=oM;obtain⟨x,hx⟩:∃x,a[j]?=some x:=⟨_,BM a1⟩;obtain⟨y,hy⟩:∃y,b[j]?=some y:=⟨_,BM oM⟩;obtain⟨_,oa,_,_,_,_,rfl,a7,a8⟩:=a5 (zU a1);obtain⟨_,ob,EF,_,_,_,rfl,a9,aa⟩:=a6 (zU (oM:j<b.length));refine yU 11 ?_;refine bU [] [] 9 kR ?_;refine zW (oa+j) ?_;refine iC 3 rfl (DU CU (dY a7) (JV a8 hx)) ?_;refine zW (ob+j) ?_;refine iC 7 rfl (DU CU (dY a9) (JV aa hy)) ?_;refine zK ?_ ?_<;>intro a4 O
  ·have Z:x≠y:=O;refine zV ?_;rw[zI (fun e=>Z (by rw[e,hy]at hx;exact(fM hx).symm))];exact rT
  have Z:x=y:=O;refine yU 7 ?_;refine bY (j+1) ⟨oM,c3S W hx hy Z⟩ oM rT rfl rfl
 refine zV ?_;rw[aO (oM:a.length≤j),aO (oM:b.length≤j)]at W;rw[zH W];exact rT
theorem b3j a b va vb I (ha:EY I a va)(hb:EY I b vb)(a3:a.length≤100000000000000)(a4:b.length≤100000000000000):Pure aA 84 [va,vb] I (.bool (aQ b a)):=by
 refine aU ?_;obtain⟨p1,c1,rfl,_,-⟩:=id ha;obtain⟨p2,c2,rfl,_,-⟩:=id hb;refine zQ func84 fun w0 _=>?_;refine yU 12 ?_;refine dS (ι:=Nat) (fun k=>k≤a.length+1∧(0<k→0<b.length)∧aQ b (a.drop k)=aQ b a) (fun k=>a.length+1-k) (fun k=>[(0,.slice p1 a.length c1),(1,.slice p2 b.length c2),(5,i64 (k:Int))]) (fun k=>I) (fun k=>[]) 0 ⟨aN _,fun h=>absurd h (Nat.lt_irrefl 0),rfl⟩ rT rfl rfl ?_;rintro k ⟨_,a2,hw⟩;refine zK ?_ ?_<;>intro a1 W
 ·have Z:k+b.length≤a.length:=oM;refine yU 12 ?_;refine J.z (a8i (j:=k) (k:=(k+b.length)) rfl rfl rfl rfl CG AV rfl oM oM) ?_;refine zX (b7z _ b _ _ _ (b1R ha (Nat.le_add_right k b.length) Z) hb (by rw[bI,dJ];omega)) ?_;refine DI ?_ ?_<;>intro N
  ·have a0:=ED N;rw[dN]at a0;refine zV ?_;rw[←hw,a6l a0];exact rT
  have O:=FQ N;rw[dN]at O;refine yU 8 ?_;refine bY (k+1) ⟨oM,fun _=>List.length_pos_iff.2 (fun e=>O (by rw[e];rfl)),by rw[←hw,a4w Z O]⟩ oM rT rfl rfl
 refine zV ?_;rw[←hw,a3j (by rw[dJ];rcases eH k with h|h<;>(first|omega|(have:=a2 h;omega)))];exact rT
theorem XH l v W g cap (hl:l.length≤100000000000000) I (hr:zS ZU I l v)(hw:∀x∈l,IG 9 I x.1.ws x.2)(a3:∀x∈l,Pure aA g (.agg (ZU x).toArray::cap) I (.bool (W x))):Pure aA 73 [v,.func (.func g) #[] cap.toArray] I (i64 (VB W l)):=by
 refine aU ?_;obtain⟨p,c,rfl,_,hp⟩:=hr;refine zQ func73 fun w0 _=>?_;refine yU 14 ?_;refine dS (ι:=Nat) (fun j=>j≤l.length∧∀x∈l.take j,W x=false) (fun j=>l.length-j) (fun j=>[(0,.slice p l.length c),(1,.func (.func g) #[] cap.toArray),(7,i64 (l.length:Int)),(8,i64 (j:Int))]) (fun j=>I) (fun j=>[]) 0 ⟨aN _,fun g hg=>by simp at hg⟩ rT rfl rfl ?_;rintro j ⟨_,N⟩;refine zK ?_ ?_<;>intro a4 a2
 ·have a1:j<l.length:=oM;obtain⟨x,O⟩:∃x,l[j]?=some x:=⟨_,BM a1⟩;obtain⟨_,fo,_,_,_,sp,rfl,a5,a6⟩:=hp (zU a1);refine zW (fo+j*3) ?_;refine J.z (BJ isAgg142 UJ (dI a5) (BF YN a6 O)) ?_;refine zX (a3 x (CX O)) ?_;refine DI ?_ ?_<;>intro Z
  ·have ht:W x=true:=Z;refine zV ?_;rw[a1g N O ht];exact rT
  have a7:W x=false:=Z;refine yU 7 ?_;refine bY (j+1) ⟨oM,UA N O a7⟩ oM rT rfl rfl
 have a0:l.take j=l:=aO oM;rw[a0]at N;refine zV ?_;rw[XD N];exact rT
theorem a2w l v W g cap (hl:l.length≤100000000000000) I (hr:zS recC I l v)(a3:∀x∈l,Pure aA g (zZ x::cap) I (.bool (W x))):Pure aA 135 [v,.func (.func g) #[] cap.toArray] I (i64 (VB W l)):=by
 refine aU ?_;obtain⟨p,c,rfl,_,hp⟩:=hr;refine zQ func135 fun w0 _=>?_;refine yU 14 ?_;refine dS (ι:=Nat) (fun j=>j≤l.length∧∀x∈l.take j,W x=false) (fun j=>l.length-j) (fun j=>[(0,.slice p l.length c),(1,.func (.func g) #[] cap.toArray),(7,i64 (l.length:Int)),(8,i64 (j:Int))]) (fun j=>I) (fun j=>[]) 0 ⟨aN _,fun g hg=>by simp at hg⟩ rT rfl rfl ?_;rintro j ⟨_,N⟩;refine zK ?_ ?_<;>intro a4 a2
 ·have a1:j<l.length:=oM;obtain⟨x,O⟩:∃x,l[j]?=some x:=⟨_,BM a1⟩;obtain⟨_,fo,_,_,_,sp,rfl,a5,a6⟩:=hp (zU a1);refine zW (fo+j*2) ?_;refine J.z (BJ IZ EJ (dI a5) (BF BR a6 O)) ?_;refine zX (a3 x (CX O)) ?_;refine DI ?_ ?_<;>intro Z
  ·have ht:W x=true:=Z;refine zV ?_;rw[a1g N O ht];exact rT
  have a7:W x=false:=Z;refine yU 7 ?_;refine bY (j+1) ⟨oM,UA N O a7⟩ oM rT rfl rfl
 have a0:l.take j=l:=aO oM;rw[a0]at N;refine zV ?_;rw[XD N];exact rT
theorem a6Z b c sp l (W:l.length≤c) N g cap (Z:l.length≤100000000000000) I (O:∀J,Le I J→∀x∈l,Pure aA g (zZ x::cap) J (.bool (N x))):
 yY aA 135 [.slice (some ⟨b,0,none⟩) l.length c,.func (.func g) #[] cap.toArray] I [(b,yX 54 (l.flatMap recC++sp))] (fun e _ H'=>e= .returned (i64 (VB N l))∧H'=[(b,yX 54 (l.flatMap recC++sp))]):=by
 refine yY.a8P (bQ func135 dE rfl) fun hn hd=>?_;have hr:zS recC (WJ [(b,yX 54 (l.flatMap recC++sp))] I) l (.slice (some ⟨b,0,none⟩) l.length c):=zS.of W (ZG hn _ (.head _));refine(yY.borrow (a2w l _ N g cap Z _ hr (O _ (b1p hd)))).mono fun e _ H' _ ⟨J,M,⟨h1,_,h3⟩,h4,_⟩=>⟨h1,?_⟩;rw[h4,h3,bP]
theorem b3U{α:Type}(p:α→Bool)(l:List α):decide (0≤VB p l)=l.any p:=by
 rcases MZ p l with⟨h1,h2⟩|⟨k,x,h1,h2,h3⟩
 ·rw[h1];have:l.any p=false:=by
   rw[bD,Ne,fJ];rintro⟨y,N,O⟩;exact absurd O (by simpa using eU.1 h2 y N)
  rw[this];rfl
 rw[h1];have:l.any p=true:=fJ.2 ⟨x,CX h2,by have:=fU h3;exact this⟩;rw[this];exact zH oM
theorem YX l v N g cap (W:l.length≤100000000000000) I (Z:zS ZU I l v)(hw:∀x∈l,IG 9 I x.1.ws x.2)(O:∀x∈l,Pure aA g (.agg (ZU x).toArray::cap) I (.bool (N x))):Pure aA 82 [v,.func (.func g) #[] cap.toArray] I (.bool (l.any N)):=by
 refine aU ?_;refine zQ func82 fun w0 _=>?_;refine zX (XH l v N g cap W _ Z hw O) ?_;refine zV ?_;rw[←b3U];exact rT
theorem b9E x p n c (N:x.2= .slice p n c) I:Pure aA 74 [.agg (ZU x).toArray] I (.bool (decide (x.1.name=gW))):=by
 refine aU ?_;refine zQ func74 fun w0 _=>?_;refine yU 3 ?_;intro _ _;refine yU 8 ?_;refine J.ev 5 (.bool (decide (x.1.name=gW))) rfl (zC Value.bool (by rw[fO,beq_iff_eq,zG];exact Iff.rfl)) ?_;refine AB ?_;exact rT
theorem a4A x nb lb n w W I (Z:IG 9 I x.1.ws x.2)(a0:x.1.ws.length≤10000000)(a1:w.length≤1000000000)(hw:IG 9 I w W)(a2:I nb=some (yX 9 [str n]))(a3:I lb=some (yX 69 [W])):Pure aA 83 [.agg (ZU x).toArray,ptr nb 0,ptr lb 0] I (.bool (decide (x.1.name=n) && aQ w x.1.ws)):=by
 refine aU ?_;refine zQ func83 fun w0 _=>?_;refine yU 3 ?_;intro _ _;refine EK ?_ ?_<;>intro N O
 ·refine zX (b3j x.1.ws w _ _ _ (EY.of Z) (EY.of hw) oM oM) ?_;refine AB ?_;rw[zH (CO N:x.1.name=n),Bool.true_and];exact rT
 refine AB ?_;rw[zI (CW N:x.1.name≠n)];exact rT
theorem c3k{α β:Type} f (p:β→Bool)(l:List α):(l.map f).any p=l.any fun x=>p (f x):=by rw[List.any_map];rfl
theorem b1W{I xs vs}(h:OI I xs vs) n w:xs.any (fun x=>decide (x.1.name=n) && aQ w x.1.ws)=gK n w vs:=by
 unfold gK;rw[←h.1,c3k]
def lacks (L:fA) (n:List UInt8) (w:Ke.Row) (t:aB):Bool:= !gK n w ((bZ L t).getD [])
theorem b0O xb nb lb ib mb m k wm km L n w Z t I (hs:bT L)(W:JZ ((bZ L t).getD []))(a1:w.length≤1000000000)(hw:IG 9 I w Z)(a2:I xb=some (yX 26 [ptr ib 0]))(a3:I nb=some (yX 9 [str n]))(a4:I lb=some (yX 69 [Z]))(a5:I ib=some (yX 114 [.map (some mb),.map wm,.map km]))(a6:I mb=some (zY zZ m k))(ab:MS m k)(a7:UW I m L):Pure aA 81 [zZ t,ptr xb 0,ptr nb 0,ptr lb 0] I (.bool (lacks L n w t)):=by
 refine aU ?_;obtain⟨vv,a8,xs,a0,N⟩:=a7.at t;have ac:=N.len;have ad:=W.1;refine zQ func81 fun w0 _=>?_;refine yU 3 ?_;intro _ _;refine yU 4 ?_;refine bU [0] [] 10 kR ?_;have a9:=a2;have aa:=a5;have O:=a6;refine yU 5 ?_;refine iC 5 rfl (BI (kv:=zZ) (l:=m) (a:=t) rfl rfl rfl rfl PW EZ XU (dY O)) ?_;refine JA.ev 11 vv rfl a8 ?_;refine zX (YX xs _ (fun x=>decide (x.1.name=n) && aQ w x.1.ws) _ [ptr nb 0,ptr lb 0] oM _ a0.row N.2 (fun x hx=>a4A x nb lb n w Z _ (N.2 x hx) (W.2 _ (N.1▸bV hx)) a1 hw a3 a4)) ?_;refine AB ?_;rw[b1W N];exact rT
theorem b1k xb nb lb ib wm km L n w W t I (hs:bT L)(O:JZ ((bZ L t).getD []))(a0:w.length≤1000000000)(hw:IG 9 I w W)(a1:I xb=some (yX 26 [ptr ib 0]))(a2:I nb=some (yX 9 [str n]))(a3:I lb=some (yX 69 [W]))(a4:I ib=some (yX 114 [.map none,.map wm,.map km]))(hL:L=[]):Pure aA 81 [zZ t,ptr xb 0,ptr nb 0,ptr lb 0] I (.bool (lacks L n w t)):=by
 refine aU ?_;subst hL;obtain⟨xs,Z,N⟩:=RP.nil I;have a5:=N.len;rw[List.length_nil]at a5;have a8:=O.1;refine zQ func81 fun w0 _=>?_;refine yU 3 ?_;intro _ _;refine yU 4 ?_;refine bU [0] [] 10 kR ?_;have a6:=a1;have a7:=a4;refine yU 5 ?_;refine iC 5 rfl (JX (kv:=zZ) (a:=t) rfl rfl rfl rfl PW EZ XU) ?_;refine zX (YX xs _ (fun x=>decide (x.1.name=n) && aQ w x.1.ws) _ [ptr nb 0,ptr lb 0] oM _ Z.row N.2 (fun x hx=>a4A x nb lb n w W _ (N.2 x hx) (O.2 _ (N.1▸bV hx)) a0 hw a2 a3)) ?_;refine AB ?_;rw[b1W N];exact rT
structure DL where
  i:Nat
  j:Nat
  zs:List Ix.Rec
theorem b7N{ts:List aB}{N:aB→Bool}{k x}(O:ts[k]?=some x)(W:N x=true)(h:∀y∈ts.take k,N y=false):(ts.take (k+1)).filter (fun t=> !N t)=ts.take k:=by
 rw[take_one O,dB,dZ.2 (fun y Z=>by simp[h y Z])];simp[W]
theorem c0y{ts zs:List aB}{N:aB→Bool}{i j x}(h:zs.take i=(ts.take j).filter (fun t=> !N t))(O:ts[j]?=some x)(W:N x=true):zs.take i=(ts.take (j+1)).filter (fun t=> !N t):=by
 rw[take_one O,dB,←h];simp[W]
theorem b9h{ts zs:List aB}{N:aB→Bool}{i j x}(Z:i<j)(h:zs.take i=(ts.take j).filter (fun t=> !N t))(hd:zs.drop j=ts.drop j)(O:ts[j]?=some x)(W:N x=false)(hl:zs.length=ts.length):(zs.set i x).take (i+1)=(ts.take (j+1)).filter (fun t=> !N t):=by
 have hj:j<ts.length:=(aK.1 O).1;rw[take_one O,dB,←h,aW (by rw[fV];omega),List.take_set_of_le (Nat.le_refl i)];simp[W]
theorem b9k{ts:List aB}{N}(h:ts.find? N=none):(ts.filter fun t=> !N t)=ts:=by
 rw[eU]at h;exact dZ.2 fun y O=>by simp[h y O]
theorem c0g{zs:List aB}{n i sp}(_:zs.length=n)(N:i≤zs.length):(zs.flatMap recC++sp).take (0+i*2)=(zs.take i).flatMap recC:=by
 have h1:zs.flatMap recC=(zs.take i).flatMap recC++(zs.drop i).flatMap recC:=by rw[←bW,List.take_append_drop]
 have h2:((zs.take i).flatMap recC).length=0+i*2:=by rw[DN BR,bI,Nat.min_eq_left N];omega
 rw[h1,aG,←h2,List.take_left]
theorem b5E{N}:∀{l:List aB} {k:Nat},VB N l=(k:Int)→∀y∈l.take k,N y=false:=fun {l k} h=>by
 unfold VB at h;cases hf:l.findIdx? N with
 |none=>rw[hf]at h;simp only at h;omega
 |some j=>
  rw[hf]at h;have W:j=k:=by simp only at h;omega
  subst W;obtain⟨h1,h2,h3⟩:=List.findIdx?_eq_some_iff_getElem.1 hf;intro y Z;obtain⟨i,hi,rfl⟩:=List.mem_iff_getElem.1 Z;have O:i<j:=by rw[bI]at hi;omega
  have:=h3 i O;rw[List.getElem_take];simpa using this
theorem b1g{base} b c sp (ts:List aB)(hg:BL base 2 ts.length (ts.flatMap recC) (some (b,c,sp)))(N:aB→Bool) g cap (hl:ts.length≤100000000000000) I (a0:∀J,Le I J→∀x∈ts,Pure aA g (zZ x::cap) J (.bool (N x))):yY aA 80 [.slice (some ⟨b,0,none⟩) ts.length c,.func (.func g) #[] cap.toArray] I [(b,yX 54 (ts.flatMap recC++sp))]
 (fun e _ H'=>∃g':Gs,BL 0 2 (ts.filter fun t=> !N t).length ((ts.filter fun t=> !N t).flatMap recC) g'∧e= .returned (gV (ts.filter fun t=> !N t).length g')∧H'=gH 54 ((ts.filter fun t=> !N t).flatMap recC) g'):=by
 have hc:ts.length≤c:=by
  obtain⟨_,h2,h3⟩:=hg;rw[DN BR]at h3;omega
 obtain⟨-,_,_⟩:=id hg;refine zQ func80 fun w0 _=>?_;refine yU 9 ?_;refine J.pull Pull.z ?_;refine AP (a6Z b c sp ts hc N g cap hl _ a0) ?_;intro _ _ _ ac ah;have a0:=fun J9 h9=>a0 J9 (fK ac h9);obtain⟨h,rfl⟩:=ah;cases h;refine zK ?_ ?_<;>intro a3 ad
 ·have a7:ts.find? N=none:=by
   rcases MZ N ts with h|⟨k,x,h1,-,-⟩
   ·exact h.2
   have h9:=CO a3;rw[h1]at h9;omega
  refine zV ?_;rw[b9k a7];exact⟨some (b,c,sp),a1O hg,rfl,rfl⟩
 obtain⟨k,x0,aa,a1,a8⟩:=(MZ N ts).resolve_left (fun h=>by have h9:=CW a3;exact h9 h.1);have ae:=b5E aa;have ai:N x0=true:=by have:=fU a8;exact this
 have ap:=(aK.1 a1).1;rw[aa];refine yU 11 ?_;refine dS (ι:=DL) (fun y=>y.i<y.j∧y.j≤ts.length∧y.zs.length=ts.length∧y.zs.take y.i=(ts.take y.j).filter (fun t=> !N t)∧y.zs.drop y.j=ts.drop y.j) (fun y=>ts.length-y.j) (fun y=>[(0,.slice (some ⟨b,0,none⟩) ts.length c),(1,.func (.func g) #[] cap.toArray),(5,i64 (y.i:Int)),(6,i64 (y.j:Int))]) (fun y=>_) (fun y=>[(b,yX 54 (y.zs.flatMap recC++sp))]) ⟨k,k+1,ts⟩ ⟨Nat.lt_succ_self k,dO,rfl,by dsimp only;exact(b7N a1 ai ae).symm,rfl⟩ rT rfl rfl ?_;rintro⟨i,j,zs⟩ ⟨ab,hj,O,a2,Z⟩;dsimp only at ab hj O a2 Z ⊢;refine zK ?_ ?_<;>intro aj af
 ·have al:j<ts.length:=oM;obtain⟨x,W⟩:∃x,ts[j]?=some x:=⟨_,BM al⟩;have a9:zs[j]?=some x:=by rw[←W,←Nat.add_zero j,←eX,←eX,Z]
  refine zW (0+j*2) ?_;refine J.z (BJ IZ EJ (yZ.at 0 rfl) (BF BR (o:=0) rfl a9)) ?_;refine yU 1 ?_;intro _ _;refine zX (a0 _ (eY _) x (CX W)) ?_;refine DI ?_ ?_<;>intro a4
  ·have a5:N x=false:=by have h:=a4;simpa using h
   refine zW (i*2) ?_;refine fH rfl (CS 1 rfl rfl rfl rfl rfl rfl EJ rfl rfl (GX (x:=x) BR oM) (AU.s AU.z) ?_);refine yU 14 ?_;refine dU (fB (gJ iI)) ?_;refine bY ⟨i+1,j+1,zs.set i x⟩ ⟨dO,dO,by dsimp only;rw[fV];exact O,by dsimp only;exact b9h ab a2 Z W a5 O,by dsimp only;rw[List.drop_set_of_lt oM,←cO,Z,cO]⟩ dO rT rfl rfl
  have a5:N x=true:=by have h:=a4;simpa using h
  refine yU 8 ?_;refine dU (fB (gJ iI)) ?_;refine bY ⟨i,j+1,zs⟩ ⟨dO,dO,O,by dsimp only;exact c0y a2 W a5,by dsimp only;rw[←cO,Z,cO]⟩ dO rT rfl rfl
 refine yU 9 ?_;refine J.z (MI (j:=i) rfl rfl rfl a0J EJ rfl oM oM) ?_;refine J.ev 38 (.slice (some ⟨b,0+i*2,none⟩) (ts.length-i) (c-i)) rfl (by unfold a1y;rw[zD oM,bM,Addr.add_lit]) ?_;refine fH rfl (c0T (sz:=2) 0 rfl rfl rfl oM a0J a0D rfl dE rfl rfl (by rw[aF,DN BR,O];omega) ?_);rintro am _ ag ⟨-,hset⟩;simp only[cZ,dA]at hset;subst hset;refine yU 3 ?_;have an:=ag;refine yU 3 ?_;refine J.z (LJ (k:=i) rfl rfl rfl a0J EJ rfl oM) ?_;refine zV ?_;have ao:(ts.filter fun t=> !N t)=zs.take i:=by rw[a2,aO (oM:ts.length≤j)]
 have a6:(zs.take i).length=i:=by rw[bI];omega
 rw[ao,a6];refine⟨some (b,c,am++(zs.flatMap recC++sp).drop (0+i*2+(ts.length-i)*2)),⟨aN _,by rw[DN BR,a6],?_⟩,rfl,?_⟩
 ·rw[DN BR,a6,aF,an,dJ,aF,DN BR,O];omega
 show[_]=[_];rw[c0g O (oM:i≤zs.length),aG]
end Go.Proofs.YtekmeaoblpfnpaaGreatDoor
end
section
namespace Go.Proofs.YtekmeaoblpfnpaaGreatDoor
open _root_.Go.Proofs.Tryz
open Go Go.Sx
abbrev a0E (l:List aB) (v:Value) (H:HL):Prop:=SB 54 recC l v H
theorem a6a{base n l g}(N:n=l.length)(O:BL base 2 n (l.flatMap recC) g):a0E l (gV n g) (gH 54 (l.flatMap recC) g):=SB.b9Y BR dE N O
theorem a4g:a0E [] (.slice none 0 0) []:= .inl rT
theorem b3X{L n s}(h:(aH s).length≠1):gQ L n s=[]:=zD h
theorem c0J{L n s w}(h:aH s=[w]):gQ L n s=aV L n [w]:=by
 unfold gQ;rw[h];rfl
theorem c4X{l:Ke.Row}{w:List UInt8}(h:l.length=1)(N:l[0]?=some w):l=[w]:=by
 match l,h with
 |[a],_=>simp at N;rw[N]
theorem b5b{L}(N:bT L) n x w:(aV L n [x]).filter (fun t=> !lacks L n (x::w) t)=aV L n (x::w):=
 Ix.b6P n x w _ N fun t vs O=>by unfold lacks;rw[O,Bool.not_not];rfl
theorem a8O{L:fA}{t:aB}:Ix.UH L t=match ((bZ L t).getD []).find? fun v=>decide (v.name=gW)with
 |none=>[]
 |some v=>v.key:=by
 unfold Ix.UH;cases bZ L t with
 |none=>rfl
 |some vs=>rfl
theorem b0o{α β:Type} f (p:β→Bool)(l:List α):(l.map f).find? p=(l.find? fun x=>p (f x)).map f:=by
 induction l with
 |nil=>rfl
 |cons a r N=>
  rw[List.map_cons,fZ,fZ];cases p (f a)with
  |true=>rfl
  |false=>exact N
theorem a9l{I N L}(h:UF I N L) t:JZ ((bZ L t).getD []):=by
 obtain⟨o,h1,_⟩:=h;cases o with
 |none=>rw[show L=[] from h1];exact⟨aN _,fun _ h=>by cases h⟩
 |some s=>exact a9O (GN.GY h1) (GN.vok h1) t
theorem a5l n s (Z:s.length≤100000000) I:Pure aA 85 [str n,str s] I (str (dK n s)):=by
 refine aU ?_;have a1:=a1F s;refine zQ func85 fun w0 _=>?_;refine zX (b4G s Z _) ?_;refine FM ?_ ?_<;>intro N
 ·refine zK ?_ ?_<;>intro O a0
  ·have W:dK n s=gB (Ke.OT s).1 0:=zF ⟨N,CO O⟩;refine zX (a0U (Ke.OT s).1 0 oM _) ?_;refine zV ?_;rw[W];exact rT
  have W:dK n s=gB s 0:=zD (fun g=>CW O g.2);refine zX (a0U s 0 Z _) ?_;refine zV ?_;rw[W];exact rT
 have W:dK n s=gB s 0:=zD (fun g=>Bool.noConfusion (g.1.symm.trans N));refine zX (a0U s 0 Z _) ?_;refine zV ?_;rw[W];exact rT
theorem c2C ib L n s (hs:s.length≤100000000) I (hx:UF I ib L):yY aA 32 [ptr ib 0,str n,str s] I [] (fun e _ H'=>∃v,e= .returned v∧a0E (gQ L n s) v H'):=by
 have W:=hx.GY;have a4:=hx.big;obtain⟨_,wm,_,O,_,Z,_⟩:=hx.parts;have ai:=(Ke.KG s).1;refine zQ func32 fun w0 _=>?_;refine AP (SA s oM _) ?_;intro _ _ _ a0 a9;have O:=a0 _ _ O;have Z:=Z.mono a0;obtain⟨_,h,hw,rfl⟩:=a9;cases h;obtain⟨wp,_,rfl⟩:=JQ hw;refine zK ?_ ?_<;>intro a1 a5
 ·have a6:(aH s).length≠1:=by have h:=bne_iff_ne.1 a1;omega
  refine yU 7 ?_;rw[b3X a6];refine AB ?_;exact⟨_,rfl,a4g⟩
 have aa:(aH s).length=1:=by have h:=JR a1;omega
 obtain⟨w1,a2⟩:∃w,(aH s)[0]?=some w:=⟨_,BM oM⟩;have ab:=c4X aa a2;obtain⟨wb,_,_,ac,ad⟩:=hw.some (zU (oM:0<(aH s).length));cases ac;refine yU 3 ?_;refine bU [] [] 11 kR ?_;have ah:=O;have a3:=ad;refine zW 0 ?_;refine iC 7 rfl (DU CU (dY a3) (FT a2)) ?_;refine iG AO (fun ae=>?_);refine fC 8 rfl ae (zN (pl:= #[(0,1),(1,1)]) rfl rfl a5L rfl a3Q (fun w=>by simp[AV]) (dD rfl rfl rfl lsA (dD rfl rfl rfl lsA gX))) ?_;refine AP (a2X wm _ L (n,w1) _ Z W a4 (b2c W _)) ?_;intro _ _ _ N a7;have O:=N _ _ O;have Z:=Z.mono N;have hw:=hw.mono N;obtain⟨ts,g,af,a8,hg,h,rfl⟩:=a7;cases h;refine yU 5 ?_;have ag:=gU W af a8;rw[c0J ab];subst ag;refine dU (H':=gH _ _ g) (dL _ _) ?_;refine zV ?_;exact⟨_,rfl,a6a rfl hg⟩
theorem c5B ib L n s (hs:s.length≤100000000) I (Z:UF I ib L):yY aA 34 [ptr ib 0,str n,str s] I [] (fun e _ H'=>∃v,e= .returned v∧a0E (Ix.GU L n (dK n s)) v H'):=by
 have N:=Z.GY;have a0:=Z.big;obtain⟨_,_,km,O,_,_,hK⟩:=Z.parts;refine zQ func34 fun w0 _=>?_;refine yU 16 ?_;refine bU [] [] 11 kR ?_;have a6:=O;refine zX (a5l n s hs _) ?_;refine⟨fx0,?_⟩;refine iG AO (fun a2=>?_);refine fC 8 rfl a2 (zN (pl:= #[(0,1),(1,1)]) rfl rfl a5L rfl a3Q (fun w=>by simp[AV]) (dD rfl rfl rfl lsA (dD rfl rfl rfl lsA gX))) ?_;refine AP (a2X km _ L (n,dK n s) _ hK N a0 (b2c N _)) ?_;intro _ _ _ W a3;have O:=W _ _ O;have hK:=hK.mono W;obtain⟨ts,g,a4,a1,hg,h,rfl⟩:=a3;cases h;refine yU 5 ?_;have a5:=Ix.b5m N a4 a1;subst a5;refine dU (H':=gH _ _ g) (dL _ _) ?_;refine zV ?_;exact⟨_,rfl,a6a rfl hg⟩
theorem b2o(N:aB→Bool) g (cap:List Value) I:yY aA 80 [.slice none 0 0,.func (.func g) #[] cap.toArray] I [] (fun e _ H'=>e= .returned (.slice none 0 0)∧H'=[]):=by
 refine zQ func80 fun w0 _=>?_;refine zX (a2w [] _ N g cap dE _ zS.nil (fun x O=>by cases O)) ?_;refine J.ev 10 (i64 (-1)) rfl rfl ?_;refine zV ?_;exact rT
theorem b5l N nb lb O vm wm km L n w W t I (hs:bT L)(Z:JZ ((bZ L t).getD []))(a0:w.length≤1000000000)(hw:IG 9 I w W)(a1:I N=some (yX 26 [ptr O 0]))(a2:I nb=some (yX 9 [str n]))(a3:I lb=some (yX 69 [W]))(a4:I O=some (yX 114 [.map vm,.map wm,.map km]))(hV:b0r I vm L):Pure aA 81 [zZ t,ptr N 0,ptr nb 0,ptr lb 0] I (.bool (lacks L n w t)):=by
 rcases hV with⟨rfl,hL⟩|⟨b,l,c,rfl,a5,a6,hb⟩
 ·exact b1k N nb lb O wm km L n w W t I hs Z a0 hw a1 a2 a3 a4 hL
 exact b0O N nb lb O b l c wm km L n w W t I hs Z a0 hw a1 a2 a3 a4 hb a5 a6
theorem b6h{base}(ts:List aB) g (W:BL base 2 ts.length (ts.flatMap recC) g)(N:aB→Bool) f cap (hl:ts.length≤100000000000000) I (Z:∀J,Le I J→∀x∈ts,Pure aA f (zZ x::cap) J (.bool (N x))):yY aA 80 [gV ts.length g,.func (.func f) #[] cap.toArray] I (gH 54 (ts.flatMap recC) g)
 (fun e _ H'=>∃O:Gs,BL 0 2 (ts.filter fun t=> !N t).length ((ts.filter fun t=> !N t).flatMap recC) O∧e= .returned (gV (ts.filter fun t=> !N t).length O)∧H'=gH 54 ((ts.filter fun t=> !N t).flatMap recC) O):=by
 cases g with
 |none=>
  have h0:ts=[]:=aJ.1 W.1;subst h0;exact(b2o N f cap I).mono fun e _ H' _ ⟨h1,h2⟩=>⟨none,⟨rfl,rfl⟩,h1,h2⟩
 |some q=>
  obtain⟨b,c,sp⟩:=q;exact b1g b c sp ts W N f cap hl I Z
theorem c2O{L}(N:bT L)(O:L.length≤100000) n w:(aV L n w).length≤100000000000000:=by
 unfold aV
 split
 ·simp
 rw[aS];have:=List.length_filter_le (fun e:aB×List Ix.V=>gK n w e.2) L;omega
theorem b4O ib L n s (hs:s.length≤100000000) I (hx:UF I ib L):yY aA 33 [ptr ib 0,str n,str s] I [] (fun e _ H'=>∃g,BL 0 2 (aV L n (aH s)).length ((aV L n (aH s)).flatMap recC) g∧e= .returned (gV (aV L n (aH s)).length g)∧H'=gH 54 ((aV L n (aH s)).flatMap recC) g):=by
 have a4:=hx.GY;have aa:=hx.big;obtain⟨vm,wm,km,W,hV,hW,_⟩:=hx.parts;have ah:=fun t=>a9l hx t;have hwl:=(Ke.KG s).1;refine zQ func33 fun w0 _=>?_;refine yU 3 ?_;intro b1 aq;refine yU 1 ?_;intro b2 ar;refine yU 4 ?_;refine Cj.pull (Pull.s Pull.z) ?_;refine gG aq (fun _ a8 O=>?_);have W:=a8 _ _ W;have hW:=hW.mono a8;have hV:=hV.mono a8;refine gG ar (fun _ a5 Z=>?_);have W:=a5 _ _ W;have hW:=hW.mono a5;have hV:=hV.mono a5;have O:=a5 _ _ O;refine AP (SA s oM _) ?_;intro _ _ H9 a3 ai;have W:=a3 _ _ W;have hW:=hW.mono a3;have hV:=hV.mono a3;have O:=a3 _ _ O;have Z:=a3 _ _ Z;obtain⟨_,h,hw,rfl⟩:=ai;cases h;obtain⟨wp,_,rfl⟩:=JQ hw;refine yU 1 ?_;intro ad aj;refine yU 5 ?_;refine gG aj (fun _ a1 a2=>?_);have W:=a1 _ _ W;have hW:=hW.mono a1;have hV:=hV.mono a1;have O:=a1 _ _ O;have Z:=a1 _ _ Z;have hw:=hw.mono a1;refine zK ?_ ?_<;>intro a9 ab
 ·refine yU 7 ?_;rw[show aV L n (aH s)=[] from zF (aJ.1 (by have h:=CO a9;omega))];refine AB ?_;exact⟨none,⟨rfl,rfl⟩,rfl,rfl⟩
 have ae:(aH s).length≠0:=by have h:=CW a9;omega
 obtain⟨x,w,af⟩:∃x w,aH s=x::w:=by
  cases hc:aH s with
  |nil=>rw[hc]at ae;exact absurd rfl ae
  |cons a r=>exact⟨a,r,rfl⟩
 have al:(aH s)[0]?=some x:=by rw[af];rfl
 obtain⟨wb,_,_,au,a7⟩:=hw.some (zU (oM:0<(aH s).length));cases au;refine yU 3 ?_;refine bU [] [] 13 kR ?_;have b0:=W;have av:=O;have aw:=Z;have ap:=a2;have ac:=a7;refine yU 6 ?_;refine iG AO (fun a6=>?_);refine fC 6 rfl a6 (CY (off':=0) rfl rfl rfl CG AV dE oM sI) ?_;refine fC 7 rfl a6 (DU CU (dY ac) (FT al)) ?_;refine fC 8 rfl a6 (zN (pl:= #[(0,1),(1,1)]) rfl rfl a5L rfl a3Q (fun w=>by simp[AV]) (dD rfl rfl rfl lsA (dD rfl rfl rfl lsA gX))) ?_;refine fC 10 rfl a6 (a4D rfl rfl rfl) ?_;refine zO 9 rfl (zM (H1:=[]) rfl rfl rfl rfl rfl (a2X wm _ L (n,x) _ hW a4 aa (b2c a4 _)) ?_ (fun _ _ _ _ ⟨_,_,_,_,_,h,_⟩=>by cases h) (fun _ _ ⟨_,_,_,_,_,h,_⟩=>by cases h));intro _ _ _ N am;have W:=N _ _ W;have hW:=hW.mono N;have hV:=hV.mono N;have O:=N _ _ O;have Z:=N _ _ Z;have hw:=hw.mono N;have a2:=N _ _ a2;have a7:=N _ _ a7;obtain⟨ts,g,ax,an,hg,h,rfl⟩:=am;cases h;have ag:=gU a4 ax an;have ay:=hg;refine⟨⟨(fK (eY _) N),HSub.n,CSub.n⟩,?_⟩;refine zO 11 rfl (NJ (H1:=gH 54 (ts.flatMap recC) g) [] (bP _) rfl rfl rfl rfl rfl (b6h ts g ay (lacks L n (aH s)) _ [ptr b1 0,ptr b2 0,ptr ad 0] (by rw[ag];exact c2O a4 aa _ _) _ (fun J9 h9 t _=>b5l b1 b2 ad ib vm wm km L n (aH s) _ t J9 a4 (ah t) oM (hw.mono h9) (h9 _ _ O) (h9 _ _ Z) (h9 _ _ a2) (h9 _ _ W) (hV.mono h9))) ?_ (fun _ _ _ _ ⟨_,_,h,_⟩=>by cases h) (fun _ _ ⟨_,_,h,_⟩=>by cases h));rintro _ _ H9 a0 ⟨g9,az,h,rfl⟩;cases h;have W:=a0 _ _ W;have hW:=hW.mono a0;have hV:=hV.mono a0;have O:=a0 _ _ O;have Z:=a0 _ _ Z;have hw:=hw.mono a0;have a2:=a0 _ _ a2;have a7:=a0 _ _ a7;refine⟨⟨(fK (fK (eY _) N) a0),HSub.n,CSub.n⟩,?_⟩;refine iG AO (fun ao=>?_);refine fC 12 rfl ao EP ?_;refine EW ?_;refine Ej.seq (Cj.ret ?_);rw[ag,af,b5b a4 n x w]at *;refine Ej.ZO rfl rfl rfl ?_;exact⟨g9,az,rfl,rfl⟩
theorem b8V N L n s (O:s.length≤100000000) I (W:UF I N L):yY aA 33 [ptr N 0,str n,str s] I [] (fun e _ H'=>∃v,e= .returned v∧a0E (aV L n (aH s)) v H'):=
 (b4O N L n s O I W).mono fun _ _ _ _ ⟨_,h1,h2,h3⟩=>⟨_,h2,by rw[h3];exact a6a rfl h1⟩
