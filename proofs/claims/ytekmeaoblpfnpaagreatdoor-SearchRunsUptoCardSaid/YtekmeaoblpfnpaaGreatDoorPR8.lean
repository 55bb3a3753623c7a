/-
  Own texts on the laws of the seat, joined: the logic, and contracts of functions. Conditions: none.
-/
import Derived.Test.YtekmeaoblpfnpaaGreatDoorNmR
import Derived.Test.YtekmeaoblpfnpaaGreatDoorPR7
import Derived.Shelf.SlLaysF0
import Derived.Ground.SlsfProg
import Derived.Shelf.GgSortFunc.InsertionK
import Derived.Shelf.SlSortCmp.WholeK
import Derived.Shelf.SlSortCmp.NoneTotal
set_option linter.all false
set_option maxRecDepth 100000
set_option maxHeartbeats 40000000
open Go.Proofs.Tryz renaming prog -> aA,func219 -> iD
open Ix renaming Rec -> aB,within -> aQ,phrase -> aV,oN -> bG,nO -> bT,qK -> bZ,keyOf -> dK,Ix -> fA,FY -> gK,word -> gQ,a5t -> gU,rE -> gW,cnt -> iE
open Go.Builtin renaming zeroCells -> aC
open List renaming length_append -> aF,append_assoc -> aG,getElem?_eq_getElem -> aI,length_eq_zero_iff -> aJ,getElem?_eq_some_iff -> aK,take_of_length_le -> aO,mem_singleton -> aP,length_map -> aS,flatMap_cons -> aT,take_succ_eq_append_getElem -> aW,getElem?_append_left -> aY,size_toArray -> bC,length_take -> bI,append_nil -> bP,mem_map_of_mem -> bV,flatMap_append -> bW,drop_drop -> cO,set_cons_zero -> cZ,set_cons_succ -> dA,filter_append -> dB,getElem?_append_right -> dF,length_drop -> dJ,sublist_append_left -> dL,prefix_iff_eq_take -> dM,mem_append_right -> dR,mem_append_left -> dX,filter_eq_self -> dZ,find?_eq_none -> eU,getElem?_drop -> eX,not_lt -> fE,not_mem_nil -> fF,length_cons -> fG,any_eq_true -> fJ,map_append -> fQ,find?_some -> fU,length_set -> fV,find?_cons -> fZ,mem_cons -> gY,mem_map -> iF
open Ke renaming words -> aH,nT -> gB
open Nat renaming zero_le -> aN,lt_or_ge -> bK,add_sub_cancel_left -> dN,zero_add -> eG,eq_zero_or_pos -> eH
open Go.Sx.jO renaming toPure -> aU
open List.Pairwise renaming nil -> aX
open Go.Sort renaming ahead -> aZ
open Bool renaming eq_false_iff -> bD,eq_iff_iff -> fO
open Array renaming getElem?_eq_none -> bF,getElem?_append_left -> dG,getElem?_modify -> dQ,toArray_toList -> dW,extract_size -> eP
open Prod renaming fst -> bH
open Go.Proofs.SlLaysF0 renaming n6 -> bJ
open Option renaming map_some -> bM
open Go.Sx.Enters renaming of -> bQ
open Go.Sx.Cj renaming qC -> bU,loop -> dS,persist -> gG
open Go.Sx.Ej renaming round -> bY,keep -> dU
open Go.Sx.pR renaming part -> dD,none -> gX
open Go.Proofs.AnyF renaming slices_SortFunc_none -> dH
open Go.Sx.jR renaming EH -> dI,zL -> dY
open Go.Sx renaming mG -> dP
open Go.Proofs.AnyQ renaming slices_SortFunc -> dV
open Go.Shelf renaming Ren -> eF
open Go.Sx.Le renaming refl -> eY,trans -> fK
open Go.Sx.Keeps renaming d -> fB,k -> gJ,n -> iI
open Go.Sx.JA renaming tk -> fC,zt -> iC,fix -> iG
open Go.Instr renaming sliceBounds -> fD,sliceAt -> gZ,slice -> iH
open Go.Sx.J renaming op -> fH
open Option.some renaming inj -> fM
open Go.Sx.Pure renaming of_same -> fP
open List.Perm renaming refl -> gI
namespace Go.Proofs
open _root_.Go.Proofs.Tryz
open Go.Shelf
def Tryz.b0L:eF:=⟨fun|6=>77|15=>108|14=>134|28=>170|29=>171|20=>185|21=>186|22=>187|23=>188|24=>189|25=>190|26=>191|27=>192|46=>235|47=>224|48=>225|49=>236|50=>237|57=>267|n=>n,fun|22=>36|24=>54|25=>149|3=>3|39=>188|0=>0|53=>238|55=>240|4=>4|46=>232|45=>231|50=>168|5=>5|9=>9|66=>272|70=>276|76=>324|77=>325|n=>n,fun|n=>n⟩
theorem Tryz.b3B:bJ aA Tryz.b0L:={
 mixed:=kR
 f6:=⟨Tryz.f77.name,dE,func77.trans (zC some kR)⟩
 f14:=⟨Tryz.f134.name,dE,func134.trans (zC some kR)⟩
 f15:=func108.trans (zC some kR)
 f20:=⟨Tryz.f185.name,dE,func185.trans (zC some kR)⟩
 f21:=⟨Tryz.f186.name,dE,func186.trans (zC some kR)⟩
 f22:=⟨Tryz.f187.name,dE,func187.trans (zC some kR)⟩
 f23:=⟨Tryz.f188.name,dE,func188.trans (zC some kR)⟩
 f24:=⟨Tryz.f189.name,dE,func189.trans (zC some kR)⟩
 f25:=⟨Tryz.f190.name,dE,func190.trans (zC some kR)⟩
 f26:=⟨Tryz.f191.name,dE,func191.trans (zC some kR)⟩
 f27:=⟨Tryz.f192.name,dE,func192.trans (zC some kR)⟩
 f28:=func170.trans (zC some kR)
 f29:=func171.trans (zC some kR)
 f46:=⟨Tryz.f235.name,dE,func235.trans (zC some kR)⟩
 f47:=func224.trans (zC some kR)
 f48:=func225.trans (zC some kR)
 f49:=⟨Tryz.f236.name,dE,func236.trans (zC some kR)⟩
 f50:=⟨Tryz.f237.name,dE,func237.trans (zC some kR)⟩
 f57:=⟨Tryz.f267.name,dE,func267.trans (zC some kR)⟩
 t0:=underlying0
 a0:=isAgg0
 z0:=sizeOf0
 v0:=zeroValue0
 t3:=underlying3
 a3:=isAgg3
 z3:=sizeOf3
 v3:=zeroValue3
 t4:=underlying4
 a4:=isAgg4
 z4:=sizeOf4
 v4:=zeroValue4
 t5:=underlying5
 a5:=isAgg5
 z5:=sizeOf5
 v5:=zeroValue5
 t9:=underlying9
 a9:=isAgg9
 z9:=sizeOf9
 v9:=zeroValue9
 t22:=underlying36
 a22:=isAgg36
 z22:=sizeOf36
 v22:=zeroValue36
 t25:=underlying149
 a25:=isAgg149
 z25:=sizeOf149
 v25:=zeroValue149
 t39:=underlying188
 a39:=isAgg188
 z39:=sizeOf188
 v39:=zeroValue188
 t45:=underlying231
 a45:=isAgg231
 z45:=sizeOf231
 v45:=zeroValue231
 t46:=underlying232
 a46:=isAgg232
 z46:=sizeOf232
 v46:=zeroValue232
 t50:=underlying168
 a50:=isAgg168
 z50:=sizeOf168
 v50:=zeroValue168
 t53:=underlying238
 a53:=isAgg238
 z53:=sizeOf238
 v53:=zeroValue238
 t55:=underlying240
 a55:=isAgg240
 z55:=sizeOf240
 v55:=zeroValue240
 t66:=underlying272
 a66:=isAgg272
 z66:=sizeOf272
 v66:=zeroValue272
 t70:=underlying276
 a70:=isAgg276
 z70:=sizeOf276
 v70:=zeroValue276
 t76:=underlying324
 a76:=isAgg324
 z76:=sizeOf324
 v76:=zeroValue324
 t77:=underlying325
 a77:=isAgg325
 z77:=sizeOf325
 v77:=zeroValue325 }
def Tryz.sortL_ren:eF:=⟨fun|6=>219|15=>108|14=>262|28=>170|29=>171|20=>290|21=>291|22=>292|23=>293|24=>294|25=>295|26=>296|27=>297|46=>312|47=>224|48=>225|49=>313|50=>314|57=>329|n=>n,fun|22=>228|24=>268|25=>270|3=>3|39=>188|0=>0|53=>238|55=>240|4=>4|46=>232|45=>231|50=>168|5=>5|9=>9|66=>272|70=>276|76=>324|77=>325|n=>n,fun|n=>n⟩
theorem Tryz.sortL:bJ aA Tryz.sortL_ren:={
 mixed:=kR
 f6:=⟨Tryz.f219.name,dE,func219.trans (zC some kR)⟩
 f14:=⟨Tryz.f262.name,dE,func262.trans (zC some kR)⟩
 f15:=func108.trans (zC some kR)
 f20:=⟨Tryz.f290.name,dE,func290.trans (zC some kR)⟩
 f21:=⟨Tryz.f291.name,dE,func291.trans (zC some kR)⟩
 f22:=⟨Tryz.f292.name,dE,func292.trans (zC some kR)⟩
 f23:=⟨Tryz.f293.name,dE,func293.trans (zC some kR)⟩
 f24:=⟨Tryz.f294.name,dE,func294.trans (zC some kR)⟩
 f25:=⟨Tryz.f295.name,dE,func295.trans (zC some kR)⟩
 f26:=⟨Tryz.f296.name,dE,func296.trans (zC some kR)⟩
 f27:=⟨Tryz.f297.name,dE,func297.trans (zC some kR)⟩
 f28:=func170.trans (zC some kR)
 f29:=func171.trans (zC some kR)
 f46:=⟨Tryz.f312.name,dE,func312.trans (zC some kR)⟩
 f47:=func224.trans (zC some kR)
 f48:=func225.trans (zC some kR)
 f49:=⟨Tryz.f313.name,dE,func313.trans (zC some kR)⟩
 f50:=⟨Tryz.f314.name,dE,func314.trans (zC some kR)⟩
 f57:=⟨Tryz.f329.name,dE,func329.trans (zC some kR)⟩
 t0:=underlying0
 a0:=isAgg0
 z0:=sizeOf0
 v0:=zeroValue0
 t3:=underlying3
 a3:=isAgg3
 z3:=sizeOf3
 v3:=zeroValue3
 t4:=underlying4
 a4:=isAgg4
 z4:=sizeOf4
 v4:=zeroValue4
 t5:=underlying5
 a5:=isAgg5
 z5:=sizeOf5
 v5:=zeroValue5
 t9:=underlying9
 a9:=isAgg9
 z9:=sizeOf9
 v9:=zeroValue9
 t22:=underlying228
 a22:=isAgg228
 z22:=sizeOf228
 v22:=zeroValue228
 t25:=underlying270
 a25:=isAgg270
 z25:=sizeOf270
 v25:=zeroValue270
 t39:=underlying188
 a39:=isAgg188
 z39:=sizeOf188
 v39:=zeroValue188
 t45:=underlying231
 a45:=isAgg231
 z45:=sizeOf231
 v45:=zeroValue231
 t46:=underlying232
 a46:=isAgg232
 z46:=sizeOf232
 v46:=zeroValue232
 t50:=underlying168
 a50:=isAgg168
 z50:=sizeOf168
 v50:=zeroValue168
 t53:=underlying238
 a53:=isAgg238
 z53:=sizeOf238
 v53:=zeroValue238
 t55:=underlying240
 a55:=isAgg240
 z55:=sizeOf240
 v55:=zeroValue240
 t66:=underlying272
 a66:=isAgg272
 z66:=sizeOf272
 v66:=zeroValue272
 t70:=underlying276
 a70:=isAgg276
 z70:=sizeOf276
 v70:=zeroValue276
 t76:=underlying324
 a76:=isAgg324
 z76:=sizeOf324
 v76:=zeroValue324
 t77:=underlying325
 a77:=isAgg325
 z77:=sizeOf325
 v77:=zeroValue325 }
def Tryz.a9C:eF:=⟨fun|6=>55|15=>108|14=>107|28=>170|29=>171|20=>162|21=>163|22=>164|23=>165|24=>166|25=>167|26=>168|27=>169|46=>223|47=>224|48=>225|49=>226|50=>227|57=>264|n=>n,fun|22=>118|24=>123|25=>128|3=>3|39=>188|0=>0|53=>238|55=>240|4=>4|46=>232|45=>231|50=>168|5=>5|9=>9|66=>272|70=>276|76=>324|77=>325|n=>n,fun|n=>n⟩
theorem Tryz.b3F:bJ aA Tryz.a9C:={
 mixed:=kR
 f6:=⟨Tryz.f55.name,dE,func55.trans (zC some kR)⟩
 f14:=⟨Tryz.f107.name,dE,func107.trans (zC some kR)⟩
 f15:=func108.trans (zC some kR)
 f20:=⟨Tryz.f162.name,dE,func162.trans (zC some kR)⟩
 f21:=⟨Tryz.f163.name,dE,func163.trans (zC some kR)⟩
 f22:=⟨Tryz.f164.name,dE,func164.trans (zC some kR)⟩
 f23:=⟨Tryz.f165.name,dE,func165.trans (zC some kR)⟩
 f24:=⟨Tryz.f166.name,dE,func166.trans (zC some kR)⟩
 f25:=⟨Tryz.f167.name,dE,func167.trans (zC some kR)⟩
 f26:=⟨Tryz.f168.name,dE,func168.trans (zC some kR)⟩
 f27:=⟨Tryz.f169.name,dE,func169.trans (zC some kR)⟩
 f28:=func170.trans (zC some kR)
 f29:=func171.trans (zC some kR)
 f46:=⟨Tryz.f223.name,dE,func223.trans (zC some kR)⟩
 f47:=func224.trans (zC some kR)
 f48:=func225.trans (zC some kR)
 f49:=⟨Tryz.f226.name,dE,func226.trans (zC some kR)⟩
 f50:=⟨Tryz.f227.name,dE,func227.trans (zC some kR)⟩
 f57:=⟨Tryz.f264.name,dE,func264.trans (zC some kR)⟩
 t0:=underlying0
 a0:=isAgg0
 z0:=sizeOf0
 v0:=zeroValue0
 t3:=underlying3
 a3:=isAgg3
 z3:=sizeOf3
 v3:=zeroValue3
 t4:=underlying4
 a4:=isAgg4
 z4:=sizeOf4
 v4:=zeroValue4
 t5:=underlying5
 a5:=isAgg5
 z5:=sizeOf5
 v5:=zeroValue5
 t9:=underlying9
 a9:=isAgg9
 z9:=sizeOf9
 v9:=zeroValue9
 t22:=underlying118
 a22:=isAgg118
 z22:=sizeOf118
 v22:=zeroValue118
 t25:=underlying128
 a25:=isAgg128
 z25:=sizeOf128
 v25:=zeroValue128
 t39:=underlying188
 a39:=isAgg188
 z39:=sizeOf188
 v39:=zeroValue188
 t45:=underlying231
 a45:=isAgg231
 z45:=sizeOf231
 v45:=zeroValue231
 t46:=underlying232
 a46:=isAgg232
 z46:=sizeOf232
 v46:=zeroValue232
 t50:=underlying168
 a50:=isAgg168
 z50:=sizeOf168
 v50:=zeroValue168
 t53:=underlying238
 a53:=isAgg238
 z53:=sizeOf238
 v53:=zeroValue238
 t55:=underlying240
 a55:=isAgg240
 z55:=sizeOf240
 v55:=zeroValue240
 t66:=underlying272
 a66:=isAgg272
 z66:=sizeOf272
 v66:=zeroValue272
 t70:=underlying276
 a70:=isAgg276
 z70:=sizeOf276
 v70:=zeroValue276
 t76:=underlying324
 a76:=isAgg324
 z76:=sizeOf324
 v76:=zeroValue324
 t77:=underlying325
 a77:=isAgg325
 z77:=sizeOf325
 v77:=zeroValue325 }
end Go.Proofs
namespace Go.Sx
open Go Go.Sort Go.Proofs
theorem OX{w b T vs sp}(h:w.heap[b]?=some (jM T (vs++sp))):Holds id w b 0 vs.toArray:=fun j G=>by
 have A:j<vs.length:=by simpa using G
 have h1:(vs++sp)[j]?=some vs[j]:=by rw[aY A];exact aI A
 have h2:vs.toArray[j]! =vs[j]:=by rw[getElem!_pos _ j G];simp
 refine⟨?_,?_⟩
 ·rw[h2];simp only[World.cell?,h,jM,eG];simpa using h1
 simp only[World.frozen?,h,jM];simp
theorem b1Y{vs A sp:List Value}(G:A.length=vs.length):putCells id 0 A.toArray (vs++sp).toArray=(A++sp).toArray:=by
 apply Array.ext_getElem?
 intro k;simp only[putCells,Array.getElem?_mapIdx,List.getElem?_toArray,bC,aN,true_and,eG,Nat.sub_zero];rcases bK k vs.length with h|h
 ·have h1:(vs++sp)[k]?=some vs[k]:=by rw[aY h];exact aI h
  have h2:(A++sp)[k]?=some (A[k]'oM):=by rw[aY oM];exact aI _
  have h3:A.toArray[k]! =A[k]'oM:=by rw[getElem!_pos _ k (by simpa using(oM:k<A.length))];simp
  rw[h1,h2,bM,zF oM,h3];rfl
 rw[dF h,dF oM,G];cases sp[k-vs.length]? with
 |none=>rfl
 |some v=>rw[bM,zD oM]
theorem St.b1r{w I b T vs A sp} n os (hr:Ready I [(b,jM T (vs++sp))] w)(hl:A.length=vs.length):
 St w [b] I I [(b,jM T (A++sp))] (grow (putRow id (aZ w n) b 0 A.toArray) os):=by
 obtain⟨r1,r2,_,W⟩:=hr;have Z:=r2 _ (aP.2 rfl);have O:∀{c:Nat} {o':Obj},w.heap[c]?=some o'→c<w.heap.size:=fun {c o'} G=>by
  rcases bK c w.heap.size with Q|Q
  ·exact Q
  simp[bF Q]at G
 have a1:(putRow id (aZ w n) b 0 A.toArray).heap.size=w.heap.size:=by simp[putRow,mapBlock,aZ]
 have M:∀c,c<w.heap.size→c≠b→(grow (putRow id (aZ w n) b 0 A.toArray) os).heap[c]?=w.heap[c]?:=fun c G a0=>by
  simp only[grow];rw[dG oM];simp only[putRow,mapBlock,aZ,dQ,zD (Ne.symm a0)]
 have S:(grow (putRow id (aZ w n) b 0 A.toArray) os).heap[b]?=some (jM T (A++sp)):=by
  have a2:=O Z;simp only[grow];rw[dG oM];simp only[putRow,mapBlock,aZ,dQ,if_true];rw[Z];simp only[bM,onCells,jM];rw[b1Y hl]
 refine⟨rfl,rfl,rfl,?_,?_,?_,?_,sI,?_,?_,fun _ _=>rfl,eY _,WU⟩
 ·simp only[grow,Array.size_append];omega
 ·intro c G hd;exact M c G (by simpa using hd)
 ·intro c o G;have h1:=r1 c o G;refine(M c (O h1) ?_).trans h1;rintro rfl;have:=W _ (aP.2 rfl);rw[this]at G;cases G
 ·intro p N;rw[aP.1 N];exact S
 ·intro p N;rw[aP.1 N];exact W (b,jM T (vs++sp)) (aP.2 rfl)
 intro p N;rw[aP.1 N];exact .inl (.head _)
section
variable {α:Type} [Inhabited α] {enc:α→List Value} {k:Nat}
theorem xA(G:∀x,(enc x).length=k)(l:List α):flatK enc k l.toArray=(l.flatMap enc).toArray:=by
 refine ext_get! (by simp[mG G]) fun t Q=>?_;have A:t<l.length*k:=by simpa using Q
 have h0:0<k:=by
  rcases eH k with e|e
  ·subst e;simp at A
  exact e
 have N:t / k<l.length:=(Nat.div_lt_iff_lt_mul h0).2 A;have M:t % k<k:=Nat.mod_lt _ h0;rw[get_flatK _ _ _ _ (by simpa using A)];have h1:l.toArray[t / k]! =l[t / k]:=by rw[getElem!_pos _ _ (by simpa using N)];simp
 have h2:l[t / k]?=some l[t / k]:=aI N;have h3:=a4O G (sp:=[]) h2 (t % k) M;rw[bP,Nat.mul_comm,Nat.div_add_mod]at h3;have O:t<(l.flatMap enc).length:=by rw[mG G];exact A
 rw[h1,getElem!_pos _ t (by simpa using O),List.getElem_toArray,getElem!_pos _ _ (by rw[G];exact M)];rw[aI O,aI (by rw[G];exact M)]at h3;exact(fM h3).symm
theorem a0A{l:List α}{A}(h:PermIn 0 l.length l.toArray A):A.toList.Perm l:=by
 obtain⟨h1,_,h3⟩:=h;have G:A.size=l.length:=by rw[h1];simp
 rw[←G]at h3;simp only[eP]at h3;rw[G]at h3;have M:l.toArray.extract 0 l.length=l.toArray:=by
  have:=eP (xs:=l.toArray)
  rwa [bC]at this
 rw[M]at h3;simpa using h3
theorem sorted_in{lt}{A:Array α}(h:SortedIn lt 0 A.size A):A.toList.Pairwise fun x y=>lt y x=false:=by
 rw[List.pairwise_iff_getElem];intro i j O Q M;have N:i<A.size:=by simpa using O
 have G:j<A.size:=by simpa using Q
 have:=h i j (aN _) M G;rw[getElem!_pos A i N,getElem!_pos A j G]at this;simpa using this
end
end Go.Sx
namespace Go.Proofs.YtekmeaoblpfnpaaGreatDoor
open Go Go.Shelf Go.RowKit Go.Lib Go.Sort
abbrev recC (x:aB):List Value:=[.int .i64 x.1,.int .i64 x.2]
theorem kF x:(recC x).length=2:=rfl
abbrev oU (x:List UInt8×Int):List Value:=[Sx.str x.1,.int .i64 x.2]
theorem pJ x:(oU x).length=2:=rfl
def LK (x y:aB):Int:=uK (compareInt x.1 y.1) (compareInt x.2 y.2)
def LD (x y:List UInt8×Int):Int:=wC x.1 y.1
theorem DI x y:ltOf LK x y=bG x y:=by
 rw[fO,Ix.CZ];unfold ltOf LK uK compareInt;rw[zG]
 repeat(first|omega|split)
theorem a7s:SWO (ltOf LK) where
 irrefl x:=by rw[DI];exact Ix.nH x
 trans x y z h1 h2:=by rw[DI]at *;exact Ix.uO h1 h2
 ntrans x y z h1 h2:=by
  rw[DI,bD,Ne,Ix.CZ]at *;omega
theorem EO x y:ltOf LD x y=decide (x.1<y.1):=by
 unfold ltOf LD wC;rw[decide_eq_decide]
 by_cases h:x.1<y.1
 ·rw[zF h];simp[h]
 rw[zD h]
 by_cases h2:y.1<x.1
 ·rw[zF h2];simp[h]
 rw[zD h2];simp[h]
theorem a5q:SWO (ltOf LD) where
 irrefl x:=by rw[EO];exact zI (List.lt_irrefl _)
 trans x y z h1 h2:=by
  rw[EO]at *;exact zH (List.lt_trans (mO h1) (mO h2))
 ntrans x y z h1 h2:=by
  rw[EO]at *;have A:=fE.1 (nM h1);have G:=fE.1 (nM h2);exact zI (fE.2 (List.le_trans G A))
theorem NT{base} l g (hg:Sx.kZ base 2 l.length (l.flatMap recC) g)(hl:l.length≤100000000000000) I:Sx.jO aA 77 [Sx.gV l.length g,.func (.func 78) #[] #[]] I (Sx.gH 54 (l.flatMap recC) g)
 (fun e a1 H'=>∃G:List aB,G.Perm l∧G.Pairwise (fun p q=>bG q p=false)∧e= .returned (.tuple #[])∧H'=Sx.gH 54 (G.flatMap recC) g):=by
 cases g with
 |none=>
  obtain⟨h1,h2⟩:=hg;have h0:l=[]:=aJ.1 h1;subst h0;exact(fP (bQ Tryz.func77 dE rfl) (fun w _=>dH Tryz.b3B none 0 (.func (.func 78) #[] #[]) w)).mono fun e _ H' _ ⟨h1,_,h3⟩=>⟨[],gI _,aX,h1,h3⟩
 |some q=>
  obtain⟨b,c,sp⟩:=q;refine⟨bQ Tryz.func77 dE rfl,fun w S=>?_⟩;have M:=S.2.1 _ (.head _);have W:b<w.heap.size:=by
   rcases bK b w.heap.size with h|h
   ·exact h
   rw[bF h]at M;cases M
  have eg:∀args w,(callFunc 78 args).run aA w= .ok (.enter 78 args) w:=enters_of Tryz.func78 kR rfl;have hH:HoldsK recC 2 w b 0 l.toArray:=by
   unfold HoldsK;rw[Sx.xA kF];exact Sx.OX M
  have N:CmpLays aA 78 #[] recC 2 LK b 0 l.toArray.size w:=fun m os _ _ x y=>a5r x.1 x.2 y.1 y.2 _;have O:=dV Tryz.b3B 2 oC lG recC kF (fun x v Z=>by
   simp only[gY,fF,or_false]at Z;rcases Z with rfl|rfl<;>rfl) LK a7s 78 #[] b 0 c l.toArray w eg N hH W (by simp;omega)
  refine O.mono fun e w' ⟨h1,A,n,os,h2,h3,h4⟩=>?_;rw[bC]at h2 h3;have Q:=Sx.a0A h2;have a0:A.size=l.length:=by have:=Q.length_eq;simpa using this
  rw[←a0]at h3;refine⟨I,_,?_,A.toList,Q,(Sx.sorted_in h3).imp fun h=>?_,h1,rfl⟩
  ·rw[h4];unfold sortWorldK putRowK;rw[show A=A.toList.toArray from(dW (xs:=A)).symm,Sx.xA kF];exact Sx.St.b1r n os S (by rw[dP kF,dP kF,Q.length_eq])
  rw[DI]at h;exact h
theorem VG{base} l g (hg:Sx.kZ base 2 l.length (l.flatMap oU) g)(hl:l.length≤100000000000000) I:Sx.jO aA 219 [Sx.gV l.length g,.func (.func 220) #[] #[]] I (Sx.gH 268 (l.flatMap oU) g)
 (fun e a1 H'=>∃G:List (List UInt8×Int),G.Perm l∧G.Pairwise (fun p q=>¬q.1<p.1)∧e= .returned (.tuple #[])∧H'=Sx.gH 268 (G.flatMap oU) g):=by
 cases g with
 |none=>
  obtain⟨h1,h2⟩:=hg;have h0:l=[]:=aJ.1 h1;subst h0;exact(fP (bQ iD dE rfl) (fun w _=>dH Tryz.sortL none 0 (.func (.func 220) #[] #[]) w)).mono fun e _ H' _ ⟨h1,_,h3⟩=>⟨[],gI _,aX,h1,h3⟩
 |some q=>
  obtain⟨b,c,sp⟩:=q;refine⟨bQ iD dE rfl,fun w S=>?_⟩;have M:=S.2.1 _ (.head _);have W:b<w.heap.size:=by
   rcases bK b w.heap.size with h|h
   ·exact h
   rw[bF h]at M;cases M
  have eg:∀args w,(callFunc 220 args).run aA w= .ok (.enter 220 args) w:=enters_of Tryz.func220 kR rfl;have hH:HoldsK oU 2 w b 0 l.toArray:=by
   unfold HoldsK;rw[Sx.xA pJ];exact Sx.OX M
  have N:CmpLays aA 220 #[] oU 2 LD b 0 l.toArray.size w:=fun m os _ _ x y=>b1I x.1 y.1 x.2 y.2 _;have O:=dV Tryz.sortL 2 Tryz.isAgg268 AP oU pJ (fun x v Z=>by
   simp only[gY,fF,or_false]at Z;rcases Z with rfl|rfl<;>rfl) LD a5q 220 #[] b 0 c l.toArray w eg N hH W (by simp;omega)
  refine O.mono fun e w' ⟨h1,A,n,os,h2,h3,h4⟩=>?_;rw[bC]at h2 h3;have Q:=Sx.a0A h2;have a0:A.size=l.length:=by have:=Q.length_eq;simpa using this
  rw[←a0]at h3;refine⟨I,_,?_,A.toList,Q,(Sx.sorted_in h3).imp fun h=>?_,h1,rfl⟩
  ·rw[h4];unfold sortWorldK putRowK;rw[show A=A.toList.toArray from(dW (xs:=A)).symm,Sx.xA pJ];exact Sx.St.b1r n os S (by rw[dP pJ,dP pJ,Q.length_eq])
  rw[EO]at h;exact nM h
end Go.Proofs.YtekmeaoblpfnpaaGreatDoor
section
namespace Go.Proofs.YtekmeaoblpfnpaaGreatDoor
open _root_.Go.Proofs.Tryz
open Go Go.Sx
def RH (ib:Nat):Option Ist→HL
 |none=>[(ib,jM 114 [.map none,.map none,.map none])]
 |some s=>RS ib s
def uY (I:Heap):Option Ist→fA→Prop
 |none,L=>L=[]
 |some s,L=>nZ I s L
theorem uY.mono{I A o L}(h:uY I o L)(G:Le I A):uY A o L:=by
 cases o with
 |none=>exact h
 |some s=>exact nZ.mono h G
theorem uY.pU{I o L}(h:uY I o L):bT L:=by
 cases o with
 |none=>rw[show L=[] from h];exact aX
 |some s=>exact nZ.pU h
theorem uY.big{I o L}(h:uY I o L):L.length≤100000:=by
 cases o with
 |none=>rw[show L=[] from h];exact aN _
 |some s=>exact nZ.big h
theorem b0p G o L A I (N:uY I o L)(Q:L.length<100000)(O:xP A.fs)(M:xO I A.fs A.v):jO aA 50 [ptr G 0,.agg (oH A).toArray] I (RH G o)
 (fun e S H'=>∃o',e= .returned (.tuple #[])∧uY S o' (Ix.rW A.t (Ix.vals A.fs) L)∧H'=RH G o'):=by
 cases o with
 |none=>
  have Z:L=[]:=N;subst Z;exact(b2x G A I O M).mono fun e S H' _ ⟨W,h1,h2,h3⟩=>⟨some W,h1,h2,h3⟩
 |some s=>exact(b2U G s L A I N Q O M).mono fun e S H' _ ⟨W,h1,h2,h3⟩=>⟨some W,h1,h2,h3⟩
theorem b3T A o L t I (G:uY I o L):jO aA 43 [ptr A 0,jZ t] I (RH A o)
 (fun e M H'=>∃o',e= .returned (.tuple #[])∧uY M o' (Ix.AB t L)∧H'=RH A o'):=by
 cases o with
 |none=>
  have N:L=[]:=G;subst N;exact(a1p A t I).mono fun e M H' _ ⟨h1,h3⟩=>⟨none,h1,rfl,h3⟩
 |some s=>exact(a1b A s L t I G).mono fun e M H' _ ⟨O,h1,h2,h3⟩=>⟨some O,h1,h2,h3⟩
def zJ (I:Heap) (ib:Nat) (L:fA):Prop:=∃o,uY I o L∧∀p∈RH ib o,I p.1=some p.2
theorem zJ.mono{I G M L}(h:zJ I M L)(A:Le I G):zJ G M L:=let ⟨o,h1,h2⟩:=h;⟨o,h1.mono A,fun p N=>A _ _ (h2 p N)⟩
theorem zJ.pU{I A L}(h:zJ I A L):bT L:=let ⟨_,h1,_⟩:=h;h1.pU
theorem zJ.big{I A L}(h:zJ I A L):L.length≤100000:=let ⟨_,h1,_⟩:=h;h1.big
def a0w (I:Heap) (mv:Option Nat) (f:Ix.Pl→aB→Nat):Prop:=(mv=none∧∀p t,f p t=0)∨∃b l c N,mv=some b∧lD l c N f∧∀q∈setH b l c N,I q.1=some q.2
theorem a0w.mono{I A mv f}(h:a0w I mv f)(G:Le I A):a0w A mv f:=by
 rcases h with h|⟨b,l,c,N,h1,h2,h3⟩
 ·exact .inl h
 exact .inr ⟨b,l,c,N,h1,h2,fun q M=>G _ _ (h3 q M)⟩
def a4E (I:Heap) (mv:Option Nat) (L:fA):Prop:=(mv=none∧L=[])∨∃b l c,mv=some b∧MS l c∧zS I l L∧I b=some (kG jZ l c)
theorem a4E.mono{I G mv L}(h:a4E I mv L)(A:Le I G):a4E G mv L:=by
 rcases h with h|⟨b,l,c,h1,h2,h3,M⟩
 ·exact .inl h
 exact .inr ⟨b,l,c,h1,h2,h3.mono A,A _ _ M⟩
theorem zJ.parts{I G L}(h:zJ I G L):∃N O Q,I G=some (jM 114 [.map N,.map O,.map Q])∧a4E I N L∧a0w I O (iE Ix.plW L)∧a0w I Q (iE Ix.IG L):=by
 obtain⟨o,h1,h2⟩:=h;cases o with
 |none=>
  have S:L=[]:=h1;subst S;exact⟨none,none,none,h2 _ (.head _),.inl rT,.inl ⟨rfl,fun _ _=>rfl⟩,.inl ⟨rfl,fun _ _=>rfl⟩⟩
 |some s=>
  have A:nZ I s L:=h1;refine⟨some s.vb,some s.wb,some s.kb,h2 (G,_) (.tail _ (.head _)),.inr ⟨s.vb,s.lv,s.cv,rfl,A.vms,A.vals,h2 (s.vb,_) (.head _)⟩,.inr ⟨s.wb,s.lw,s.cw,s.Nw,rfl,A.nw,fun q M=>h2 q ?_⟩,.inr ⟨s.kb,s.lk,s.ck,s.Nk,rfl,A.nk,fun q M=>h2 q ?_⟩⟩
  ·exact .tail _ (.tail _ (dX _ M))
  exact .tail _ (.tail _ (dR _ M))
theorem MJ{α:Type}[BEq α][LawfulBEq α]{l m:List α}(A:l.Nodup)(h:∀x∈l,x∈m):l.length≤m.length:=by
 induction l generalizing m with
 |nil=>simp
 |cons a r O=>
  rw[List.nodup_cons]at A;have G:=h a (.head _);have:=O (m:=m.erase a) A.2 fun x M=>by
   have N:x≠a:=fun e=>A.1 (e▸M);exact(List.mem_erase_of_ne N).2 (h x (.tail _ M))
  rw[List.length_erase_of_mem G]at this;have h0:0<m.length:=List.length_pos_of_mem G;rw[fG];omega
theorem b3M{L:fA}{m k}{f:aB→Nat}(A:MS m k)(G:∀t,kH m t=cv (f t))(Q:bT L)(M:∀t,f t≠0→∃e∈L,e.1=t):m.length≤L.length:=by
 have h1:(m.map (·.1)).length≤(L.map (·.1)).length:=by
  refine MJ A.1 fun t N=>?_;have h2:kH m t≠none:=fun h=>pI.1 h N;rw[G]at h2;have h3:f t≠0:=fun h=>h2 (by rw[h];rfl);obtain⟨e,O,rfl⟩:=M t h3;exact bV O
 rw[aS,aS]at h1;exact h1
structure TA where
  vis:ML Ix.Rec
  rest:ML Ix.Rec
  g:Gs
theorem a7n{m k}{f:aB→Nat}(Q:MS m k)(M:∀t,kH m t=cv (f t)){vis:ML aB}(N:vis.Perm m){A:List aB}(G:A.Perm (vis.map bH))(S:A.Pairwise fun p q=>bG q p=false):(A.Pairwise fun a b=>bG a b=true)∧∀t,t∈A↔f t≠0:=by
 have O:A.Nodup:=G.nodup_iff.2 ((N.map _).nodup_iff.2 Q.1);refine⟨?_,fun t=>?_⟩
 ·refine(List.pairwise_and_iff.2 ⟨S,List.nodup_iff_pairwise_ne.1 O⟩).imp fun {a b} ⟨h1,h2⟩=>?_;rcases Ix.DU a b with h|h|h
  ·exact h
  ·exact absurd h h2
  rw[h]at h1;cases h1
 rw[G.mem_iff,(N.map _).mem_iff];constructor
 ·intro h;have h2:kH m t≠none:=fun g=>pI.1 g h;rw[M]at h2;exact fun g=>h2 (by rw[g];rfl)
 intro h;refine Classical.byContradiction fun g=>?_;have:=pI.2 g;rw[M,a8V h]at this;cases this
theorem b3N(vis:ML aB) g:gV (vis.map bH).length g=gV vis.length g:=by rw[aS]
theorem MI{base sz n xs g}(h:kZ base sz n xs g):kZ 0 sz n xs g:=by
 cases g with
 |none=>exact h
 |some q=>exact⟨aN _,h.2⟩
theorem b6w{base}{l A:List aB}{g}(h:kZ base 2 l.length (l.flatMap recC) g)(G:A.length=l.length):kZ base 2 A.length (A.flatMap recC) g:=by
 rw[G];exact LU h (by rw[mG kF,mG kF,G])
theorem a7P b l c p O m k (f:aB→Nat)(hm:kH l p=some (.map (some O)))(A:MS m k)(a4:∀t,kH m t=cv (f t))(aa:m.length≤100000) I (hb:I b=some (kG nD l c))(G:I O=some (kG jZ m k)):jO aA 79 [.map (some b),nD p] I []
 (fun e _ H'=>∃(ts:List aB) (g:Gs),(ts.Pairwise fun a b=>bG a b=true)∧(∀t,t∈ts↔f t≠0)∧kZ 0 2 ts.length (ts.flatMap recC) g∧e= .returned (gV ts.length g)∧H'=gH 54 (ts.flatMap recC) g):=by
 refine jU func79 fun w0 _=>?_;refine jL 3 ?_;intro _ _;refine jL 13 ?_;refine J.z (kQ (kv:=nD) (l:=l) (a:=p) rfl rfl rfl rfl pV tN sH (dI hb)) ?_;refine J.ev 9 (.map (some O)) rfl (by rw[hm];rfl) ?_;refine fH rfl (uX (kv:=jZ) (l:=m) rfl rfl rfl rfl oK (dI G) ?_);intro b2 _;refine jL 3 ?_;refine Cj.keep (gJ (fB iI)) ?_;refine dS (ι:=TA) (fun y=>(y.vis++y.rest).Perm m∧kZ w0.heap.size 2 y.vis.length ((y.vis.map bH).flatMap recC) y.g) (fun y=>y.rest.length) (fun y=>[(5,gV y.vis.length y.g),(10,ptr b2 0)]) (fun y=>_) (fun y=>(b2,DJ O k y.vis k)::gH 54 ((y.vis.map bH).flatMap recC) y.g) ⟨[],m,none⟩ ⟨.refl _,rfl,rfl⟩ rT rfl rfl ?_;rintro⟨vis,rest,g⟩ ⟨M,Z⟩;dsimp only at M Z ⊢;have a0:=M.length_eq;rw[aF]at a0;refine jL 2 ?_;refine fH rfl (xE (kv:=jZ) (l:=m) 0 rfl rfl rfl rfl rfl (dI G) A.2.2 (Nat.le_refl _) A.2.1 M ?_ ?_)
 ·rintro x Q H9 a5 S ⟨-,hset⟩;simp only[cZ,dA]at hset;subst hset;refine jL 10 ?_;refine J.z (BD (kv:=jZ) (l:=m) rfl rfl (jR.at 0 rfl) (dI G) (S.mem_iff.1 (dX _ (dR _ (.head _)))) A.2.1) ?_;refine jL 2 ?_;intro _ _;refine jL 7 ?_;intro _ _;refine yQ 15 [_,_,_] Z ?_;intro g6 a6;refine jL 3 ?_;refine dU (fB (fB (gJ Keeps.r))) ?_;refine bY ⟨vis++[x],Q,g6⟩ ⟨S,by dsimp only;rw[aF,fQ,bW];exact a6⟩ (by have h:=a5.length_eq;simp only[fG]at h;dsimp only;omega) ⟨by dsimp only;rw[aF];rfl,rfl,trivial⟩ rfl (by dsimp only;rw[fQ,bW];rfl)
 intro a1;refine jL 11 ?_;have a7:vis.Perm m:=by rw[a1,bP]at M;exact M
 have W:kZ w0.heap.size 2 (vis.map bH).length ((vis.map bH).flatMap recC) g:=by rw[aS];exact Z
 refine jL 2 ?_;refine J.ev 19 (gV (vis.map bH).length g) rfl ((b3N vis g).symm) ?_;refine II [_] (NT (vis.map bH) g W (by rw[aS];omega) _) ?_;rintro _ _ H9 _ ⟨ts,N,a8,h,rfl⟩;cases h;obtain⟨a2,a3⟩:=a7n A a4 a7 N a8;have a9:vis.length=ts.length:=by rw[N.length_eq,aS]
 refine jL 9 ?_;refine dU (H':=gH 54 (ts.flatMap recC) g) (List.sublist_append_right [_] _) ?_;refine jV ?_;rw[a9];exact⟨ts,g,a2,a3,MI (b6w W N.length_eq),rfl,rfl⟩
theorem a8z p (f:aB→Nat)(M:∀t,f t=0) I:jO aA 79 [.map none,nD p] I []
 (fun e _ H'=>∃(ts:List aB) (g:Gs),(ts.Pairwise fun a b=>bG a b=true)∧(∀t,t∈ts↔f t≠0)∧kZ 0 2 ts.length (ts.flatMap recC) g∧e= .returned (gV ts.length g)∧H'=gH 54 (ts.flatMap recC) g):=by
 refine jU func79 fun w0 _=>?_;refine jL 3 ?_;intro _ _;refine jL 13 ?_;refine J.z (qJ (kv:=nD) (a:=p) rfl rfl rfl rfl pV tN sH) ?_;refine fH rfl (sF rfl rfl rfl rfl oK ?_);intro _ _;refine jL 3 ?_;refine Cj.rounds 1 ?_;refine Rj.succ ?_;refine jL 2 ?_;refine fH rfl (tY 0 rfl rfl rfl rfl rfl ?_);refine II [_,_] (NT (base:=0) [] none rT dE _) ?_;rintro _ _ _ _ ⟨ts,A,_,h,rfl⟩;cases h;have G:=A.eq_nil;subst G;refine kM ?_;exact⟨[],none,aX,fun t=>⟨fun h=>(by cases h),fun h=>absurd (M t) h⟩,⟨rfl,rfl⟩,rfl,rfl⟩
theorem a5z b l c p (f:aB→Nat)(M:kH l p=none)(N:∀t,f t=0) I (O:I b=some (kG nD l c)):jO aA 79 [.map (some b),nD p] I []
 (fun e _ H'=>∃(ts:List aB) (g:Gs),(ts.Pairwise fun a b=>bG a b=true)∧(∀t,t∈ts↔f t≠0)∧kZ 0 2 ts.length (ts.flatMap recC) g∧e= .returned (gV ts.length g)∧H'=gH 54 (ts.flatMap recC) g):=by
 refine jU func79 fun w0 _=>?_;refine jL 3 ?_;intro _ _;refine jL 13 ?_;refine J.z (kQ (kv:=nD) (l:=l) (a:=p) rfl rfl rfl rfl pV tN sH (dI O)) ?_;refine J.ev 9 (.map none) rfl (by rw[M];rfl) ?_;refine fH rfl (sF rfl rfl rfl rfl oK ?_);intro _ _;refine jL 3 ?_;refine Cj.rounds 1 ?_;refine Rj.succ ?_;refine jL 2 ?_;refine fH rfl (tY 0 rfl rfl rfl rfl rfl ?_);refine II [_,_] (NT (base:=0) [] none rT dE _) ?_;rintro _ _ _ _ ⟨ts,A,_,h,rfl⟩;cases h;have G:=A.eq_nil;subst G;refine kM ?_;exact⟨[],none,aX,fun t=>⟨fun h=>(by cases h),fun h=>absurd (N t) h⟩,⟨rfl,rfl⟩,rfl,rfl⟩
theorem RV mv G (L:fA) p I (h:a0w I mv G)(hs:bT L)(hL:L.length≤100000)(hf:∀t,G p t≠0→∃e∈L,e.1=t):jO aA 79 [.map mv,nD p] I []
 (fun e _ H'=>∃(ts:List aB) (g:Gs),(ts.Pairwise fun a b=>bG a b=true)∧(∀t,t∈ts↔G p t≠0)∧kZ 0 2 ts.length (ts.flatMap recC) g∧e= .returned (gV ts.length g)∧H'=gH 54 (ts.flatMap recC) g):=by
 rcases h with⟨rfl,S⟩|⟨b,l,c,N,rfl,hN,W⟩
 ·exact a8z p (G p) (S p) I
 rcases hN.find p with⟨a0,M,S⟩|⟨A,Z,m,k,B,rfl,M,O,a1,Q,hA,hB⟩
 ·exact a5z b l c p (G p) M S I (W (b,_) (.head _))
 exact a7P b l c p Z m k (G p) M O Q (nP (b3M O Q hs hf) hL) I (W (b,_) (.head _)) (W (Z,kG jZ m k) (.tail _ (iF.2 ⟨(p,Z,m,k),sI,rfl⟩)))
theorem a2Z{pl L}(h:bT L) p t (A:iE pl L p t≠0):∃e∈L,e.1=t:=by
 unfold iE at A;cases hg:bZ L t with
 |none=>rw[hg]at A;exact absurd rfl A
 |some vs=>exact⟨_,(Ix.oQ h).1 hg,rfl⟩
end Go.Proofs.YtekmeaoblpfnpaaGreatDoor
end
namespace Go.Sx
open Go
section
variable {cx:Cx} {Q:Qt} {o:Oper} {e:Env} {I:Heap} {H:HL} {C:Ct} {S:World→Prop}
theorem b2d{x T E b off n c sz t cs z} i (ho:o.op= .call ⟨.builtin .clear,#[x],#[T]⟩)(hd:o.dst=none)(hx:ev e x=some (.slice (some ⟨b,off,none⟩) n c))(hn:0<n)(hu:cx.P.underlying T=some (.slice E))(hz:∀w,(zeroValue E).run cx.P w= .ok z w)
 (O:z.cells.size=sz)(a3:0<sz)(S:z.cells.toList.all Value.oneCell'=true)(G:H[i]?=some (b,jM t cs))(a2:off+n*sz≤cs.length)(k:∀vs H',vs.length=n*sz→lS H i (b,jM t (cs.take off++vs++cs.drop (off+n*sz))) H'→C e I H'):mF cx Q o e I H C:=by
 intro K hK a w W Z;unfold Oper.wp;have hb:=Z.own _ (List.mem_of_getElem? G);have A:(aC z.cells n).toList.length=n*sz:=by simp[aC,O]
 have M:∀v∈(aC z.cells n).toList,v.oneCell'=true:=fun v hv=>by
  simp only[aC,Array.toList_map,iF]at hv;obtain⟨j,_,rfl⟩:=hv;have a0:j % z.cells.size<z.cells.size:=Nat.mod_lt _ oM;rw[getElem!_pos z.cells _ a0];exact List.all_eq_true.1 S _ sI
 have N:oD cs (off+0) (aC z.cells n).toList (cs.take off++(aC z.cells n).toList++cs.drop (off+n*sz)):=⟨by rw[A];omega,by rw[A,Nat.add_zero]⟩;have a1:=rC (P:=cx.P) (t:=t) (aC z.cells n).toList 0 w cs hb (.inl rfl) (by rw[A];omega) M _ N;obtain⟨n,rfl⟩:∃m,n=m+1:=⟨n-1,oM⟩;have:(execOp a.eval o).run cx.P w= .ok (.value (.tuple #[])) (World.block w b (jM t (cs.take off++(aC z.cells (n+1)).toList++cs.drop (off+(n+1)*sz)))):=by
  simp only[execOp,ho,resolve,invoke,builtin,Builtin.clear_,Sem.run_bind,Sem.run_pure,Result.andThen_ok];simp[W.eval hx,run_underlying hu,hz,a1,jM,aG]
 rw[this];simp only[Oper.upon,hd];have hset:lS H i (b,jM t (cs.take off++(aC z.cells (n+1)).toList++cs.drop (off+(n+1)*sz))) (H.set i (b,jM t (cs.take off++(aC z.cells (n+1)).toList++cs.drop (off+(n+1)*sz)))):=⟨(aK.1 G).1,rfl⟩;exact hK _ _ _ (k _ _ A hset) _ _ W.AZ (Z.block G hset)
theorem a9B{x y z}{T E n c sz k m:Nat}{a kl Z}(M:o.op= .slice T x none (some y) (some z))(N:ev e x=some (.slice a n c))(O:ev e y=some (.int kl (k:Int)))(Q:ev e z=some (.int Z (m:Int)))(W:cx.P.underlying T=some (.slice E))(G:∀w,(sizeOf E).run cx.P w= .ok sz w)(a0:k≤m)(a1:m≤c):
 kX cx o e S (.slice a k m):=by
 intro w0 w A _;have h1:(k:Int)≤m:=oM;have h2:(m:Int)≤c:=oM;cases a with
 |none=>simp[execOp,M,A.eval N,A.eval O,A.eval Q,gZ,iH,run_underlying W,fD,run_sliceBound,h1,h2,G]
 |some q=>simp[execOp,M,A.eval N,A.eval O,A.eval Q,gZ,iH,run_underlying W,fD,run_sliceBound,h1,h2,G,Addr.add]
end
def AQ {α:Type} (T:TypeId) (f:α→List Value) (l:List α) (v:Value) (H:HL):Prop:=(l=[]∧v= .slice none 0 0∧H=[])∨∃b c sp,v= .slice (some ⟨b,0,none⟩) l.length c∧l.length≤c∧H=[(b,jM T (l.flatMap f++sp))]
theorem AQ.b6m{α:Type}{T}{f:α→List Value}{sz base n:Nat}{l:List α}{g}(M:∀x,(f x).length=sz)(A:0<sz)(N:n=l.length)(G:kZ base sz n (l.flatMap f) g):AQ T f l (gV n g) (gH T (l.flatMap f) g):=by
 subst N;cases g with
 |none=>
  obtain⟨h1,h2⟩:=G;exact .inl ⟨aJ.1 h1,by rw[h1];rfl,rfl⟩
 |some q=>
  obtain⟨b,c,sp⟩:=q;obtain⟨h1,h2,h3⟩:=G;have O:l.length≤c:=by
   rw[mG M]at h3;exact Nat.le_of_mul_le_mul_right (oM:l.length*sz≤c*sz) A
  exact .inr ⟨b,c,sp,rfl,O,rfl⟩
section
variable {cx:Cx} {Q:Qt} {e:Env} {I:Heap} {R H1:HL} {T:TypeId} {α:Type} {l:List α} {f:α→List Value} {v:Value}
theorem a2s{X:Heap→HL→Prop}{base}(h:AQ T f l v H1)(M:∀p∈H1,base≤p.1)(N:∀b o,base≤b→(∀A,Le I A→A b=some o→X A R)→X I ((b,o)::R))(k:∀A,Le I A→wH T f A l v→X A R):X I (H1++R):=by
 rcases h with⟨rfl,rfl,rfl⟩|⟨b,c,sp,rfl,O,rfl⟩
 ·exact k I (eY _) wH.nil
 exact N b _ (M _ (.head _)) fun A G Q=>k A G ⟨_,c,rfl,O,fun _=>⟨b,sp,rfl,Q⟩⟩
theorem J.MR{A r}(h:AQ T f l v H1)(G:∀p∈H1,cx.w0.heap.size≤p.1)(k:∀M,Le I M→wH T f M l v→J cx Q A r e M R):J cx Q A r e I (H1++R):=a2s (X:=fun I H=>J cx Q A r e I H) h G (fun _ _ G k=>J.persist G k) k
end
section
variable {cx:Cx} {Q:Qt} {e:Env} {I:Heap} {H:HL} {o:Oper} {C:Ct}
end
theorem a6j{α:Type}{f:α→List Value}{n:Nat}(A:∀x,(f x).length=n){sp:List Value}{x}:∀{l:List α} {i:Nat},i<l.length→oD (l.flatMap f++sp) (i*n) (f x) ((l.set i x).flatMap f++sp)
 |[],_,h=>by simp at h
 |a::r,0,_=>by
  refine⟨by rw[Nat.zero_mul,A,aT,aF,aF,A];omega,?_⟩;rw[Nat.zero_mul,List.take_zero,List.nil_append,eG,cZ,aT,aT,aG,aG,A,←A a,List.drop_left]
 |a::r,i+1,h=>by
  obtain⟨h1,h2⟩:=a6j A (sp:=sp) (x:=x) (l:=r) (i:=i) (by simpa using h);have G:=A a;refine⟨by rw[aT,aG,aF,G,Nat.add_mul];omega,?_⟩;rw[dA,aT,aG,h2,aT,aG (f a),show(i+1)*n=(f a).length+i*n by rw[G,Nat.add_mul];omega,List.take_length_add_append,Nat.add_assoc,List.drop_length_add_append];simp only[aG]
end Go.Sx
section
namespace Go.Proofs.YtekmeaoblpfnpaaGreatDoor
open _root_.Go.Proofs.Tryz
open Go Go.Sx
theorem QL{w l}(h:l.length<w.length):aQ w l=false:=by
 rw[bD,Ne,Ix.within_iff];exact fun g=>by have:=g.length_le;omega
theorem XZ{w l}(h:l.take w.length=w):aQ w l=true:=by
 rw[Ix.within_iff];exact(dM.2 h.symm).isInfix
theorem UW{w l:Ke.Row}{k}(N:k+w.length≤l.length)(h:¬(l.drop k).take w.length=w):aQ w (l.drop k)=aQ w (l.drop (k+1)):=by
 rcases bK k l.length with A|M
 ·rw[←List.getElem_cons_drop A]at h ⊢
  conv=>lhs;unfold aQ
  have:w.isPrefixOf (l[k]::l.drop (k+1))=false:=by
   rw[bD,Ne,List.isPrefixOf_iff_prefix,dM];exact fun e=>h e.symm
  rw[this,Bool.false_or]
 have G:w=[]:=aJ.1 oM;subst G;exact absurd rfl h
theorem b3X{a b:List (List UInt8)}{k x y}(h:a.take k=b.take k)(A:a[k]?=some x)(G:b[k]?=some y)(M:x=y):a.take (k+1)=b.take (k+1):=by
 obtain⟨h1,N⟩:=aK.1 A;obtain⟨h2,O⟩:=aK.1 G;rw[aW h1,aW h2,h,N,O,M]
theorem a3i{I l a n c}(h:mZ I l (.slice a n c)){j k}(A:j≤k)(G:k≤l.length):mZ I ((l.drop j).take (k-j)) (.slice (MK a c j 1) (k-j) (c-j)):=
 BF.2 (jW.cut (f:=fun s=>[str s]) (sz:=1) (fun _=>rfl) (BF.1 h) A G)
theorem a9b a b va vb I (ha:mZ I a va)(hb:mZ I b vb)(a8:a.length≤100000000000000):Pure aA 136 [va,vb] I (.bool (decide (a=b))):=by
 refine aU ?_;obtain⟨p1,c1,rfl,_,a1⟩:=ha;obtain⟨p2,c2,rfl,_,a2⟩:=hb;refine jU func136 fun w0 _=>?_;refine jS ?_ ?_<;>intro W A
 ·refine jV ?_;rw[zI (fun e=>A (by rw[e]))];exact rT
 have a7:a.length=b.length:=by have h:=A;omega
 refine jL 11 ?_;refine dS (ι:=Nat) (fun j=>j≤a.length∧a.take j=b.take j) (fun j=>a.length-j) (fun j=>[(0,.slice p1 a.length c1),(1,.slice p2 b.length c2),(12,i64 (a.length:Int)),(13,i64 (j:Int))]) (fun j=>I) (fun j=>[]) 0 ⟨aN _,rfl⟩ rT rfl rfl ?_;rintro j ⟨_,M⟩;refine jS ?_ ?_<;>intro Z O
 ·have S:j<a.length:=oM;obtain⟨x,Q⟩:∃x,a[j]?=some x:=⟨_,kW S⟩;obtain⟨y,hy⟩:∃y,b[j]?=some y:=⟨_,kW oM⟩;obtain⟨_,oa,_,_,_,_,rfl,a3,a4⟩:=a1 (jT S);obtain⟨_,ob,mQ,_,_,_,rfl,a5,a6⟩:=a2 (jT (oM:j<b.length));refine jL 11 ?_;refine bU [] [] 9 kR ?_;refine kJ (oa+j) ?_;refine iC 3 rfl (jP rfl rfl lQ (dY a3) (qG a4 Q)) ?_;refine kJ (ob+j) ?_;refine iC 7 rfl (jP rfl rfl lQ (dY a5) (qG a6 hy)) ?_;refine jS ?_ ?_<;>intro a0 G
  ·have N:x≠y:=G;refine jV ?_;rw[zI (fun e=>N (by rw[e,hy]at Q;exact(fM Q).symm))];exact rT
  have N:x=y:=G;refine jL 7 ?_;refine bY (j+1) ⟨oM,b3X M Q hy N⟩ oM rT rfl rfl
 refine jV ?_;rw[aO (oM:a.length≤j),aO (oM:b.length≤j)]at M;rw[zH M];exact rT
theorem a5u a b W vb I (Z:mZ I a W)(hb:mZ I b vb)(a1:a.length≤100000000000000)(a2:b.length≤100000000000000):Pure aA 84 [W,vb] I (.bool (aQ b a)):=by
 refine aU ?_;obtain⟨p1,c1,rfl,_,-⟩:=id Z;obtain⟨p2,c2,rfl,_,-⟩:=id hb;refine jU func84 fun w0 _=>?_;refine jL 12 ?_;refine dS (ι:=Nat) (fun k=>k≤a.length+1∧(0<k→0<b.length)∧aQ b (a.drop k)=aQ b a) (fun k=>a.length+1-k) (fun k=>[(0,.slice p1 a.length c1),(1,.slice p2 b.length c2),(5,i64 (k:Int))]) (fun k=>I) (fun k=>[]) 0 ⟨aN _,fun h=>absurd h (Nat.lt_irrefl 0),rfl⟩ rT rfl rfl ?_;rintro k ⟨_,a0,Q⟩;refine jS ?_ ?_<;>intro S M
 ·have N:k+b.length≤a.length:=oM;refine jL 12 ?_;refine J.z (a1K (j:=k) (k:=(k+b.length)) rfl rfl rfl rfl lJ kU rfl oM oM) ?_;refine kC (a9b _ b _ _ _ (a3i Z (Nat.le_add_right k b.length) N) hb (by rw[bI,dJ];omega)) ?_;refine mW ?_ ?_<;>intro A
  ·have O:=mO A;rw[dN]at O;refine jV ?_;rw[←Q,XZ O];exact rT
  have G:=nM A;rw[dN]at G;refine jL 8 ?_;refine bY (k+1) ⟨oM,fun _=>List.length_pos_iff.2 (fun e=>G (by rw[e];rfl)),by rw[←Q,UW N G]⟩ oM rT rfl rfl
 refine jV ?_;rw[←Q,QL (by rw[dJ];rcases eH k with h|h<;>(first|omega|(have:=a0 h;omega)))];exact rT
theorem EG l v M g cap (hl:l.length≤100000000000000) I (hr:jW GZ I l v)(hw:∀x∈l,oO 9 I x.1.ws x.2)(W:∀x∈l,Pure aA g (.agg (GZ x).toArray::cap) I (.bool (M x))):Pure aA 73 [v,.func (.func g) #[] cap.toArray] I (i64 (BX M l)):=by
 refine aU ?_;obtain⟨p,c,rfl,_,hp⟩:=hr;refine jU func73 fun w0 _=>?_;refine jL 14 ?_;refine dS (ι:=Nat) (fun j=>j≤l.length∧∀x∈l.take j,M x=false) (fun j=>l.length-j) (fun j=>[(0,.slice p l.length c),(1,.func (.func g) #[] cap.toArray),(7,i64 (l.length:Int)),(8,i64 (j:Int))]) (fun j=>I) (fun j=>[]) 0 ⟨aN _,fun g hg=>by simp at hg⟩ rT rfl rfl ?_;rintro j ⟨_,A⟩;refine jS ?_ ?_<;>intro Z S
 ·have Q:j<l.length:=oM;obtain⟨x,G⟩:∃x,l[j]?=some x:=⟨_,kW Q⟩;obtain⟨_,fo,_,_,_,sp,rfl,a0,a1⟩:=hp (jT Q);refine kJ (fo+j*3) ?_;refine J.z (q2 isAgg142 zW (dI a0) (kY FN a1 G)) ?_;refine kC (W x (lX G)) ?_;refine mW ?_ ?_<;>intro N
  ·have ht:M x=true:=N;refine jV ?_;rw[TR A G ht];exact rT
  have a2:M x=false:=N;refine jL 7 ?_;refine bY (j+1) ⟨oM,FH A G a2⟩ oM rT rfl rfl
 have O:l.take j=l:=aO oM;rw[O]at A;refine jV ?_;rw[JC A];exact rT
theorem PK l v M g cap (hl:l.length≤100000000000000) I (hr:jW recC I l v)(W:∀x∈l,Pure aA g (jZ x::cap) I (.bool (M x))):Pure aA 135 [v,.func (.func g) #[] cap.toArray] I (i64 (BX M l)):=by
 refine aU ?_;obtain⟨p,c,rfl,_,hp⟩:=hr;refine jU func135 fun w0 _=>?_;refine jL 14 ?_;refine dS (ι:=Nat) (fun j=>j≤l.length∧∀x∈l.take j,M x=false) (fun j=>l.length-j) (fun j=>[(0,.slice p l.length c),(1,.func (.func g) #[] cap.toArray),(7,i64 (l.length:Int)),(8,i64 (j:Int))]) (fun j=>I) (fun j=>[]) 0 ⟨aN _,fun g hg=>by simp at hg⟩ rT rfl rfl ?_;rintro j ⟨_,A⟩;refine jS ?_ ?_<;>intro Z S
 ·have Q:j<l.length:=oM;obtain⟨x,G⟩:∃x,l[j]?=some x:=⟨_,kW Q⟩;obtain⟨_,fo,_,_,_,sp,rfl,a0,a1⟩:=hp (jT Q);refine kJ (fo+j*2) ?_;refine J.z (q2 oC lG (dI a0) (kY kF a1 G)) ?_;refine kC (W x (lX G)) ?_;refine mW ?_ ?_<;>intro N
  ·have ht:M x=true:=N;refine jV ?_;rw[TR A G ht];exact rT
  have a2:M x=false:=N;refine jL 7 ?_;refine bY (j+1) ⟨oM,FH A G a2⟩ oM rT rfl rfl
 have O:l.take j=l:=aO oM;rw[O]at A;refine jV ?_;rw[JC A];exact rT
theorem a0q b c sp l (N:l.length≤c) A g cap (O:l.length≤100000000000000) I (G:∀J,Le I J→∀x∈l,Pure aA g (jZ x::cap) J (.bool (A x))):
 jO aA 135 [.slice (some ⟨b,0,none⟩) l.length c,.func (.func g) #[] cap.toArray] I [(b,jM 54 (l.flatMap recC++sp))] (fun e _ H'=>e= .returned (i64 (BX A l))∧H'=[(b,jM 54 (l.flatMap recC++sp))]):=by
 refine jO.a1y (bQ func135 dE rfl) fun Q S=>?_;have W:jW recC (CO [(b,jM 54 (l.flatMap recC++sp))] I) l (.slice (some ⟨b,0,none⟩) l.length c):=jW.of N (GV Q _ (.head _));refine(jO.borrow (PK l _ A g cap O _ W (G _ (a3D S)))).mono fun e _ H' _ ⟨J,_,⟨h1,_,h3⟩,Z,_⟩=>⟨h1,?_⟩;rw[Z,h3,bP]
theorem b5B{α:Type}(p:α→Bool)(l:List α):decide (0≤BX p l)=l.any p:=by
 rcases tJ p l with⟨h1,h2⟩|⟨k,x,h1,h2,h3⟩
 ·rw[h1];have:l.any p=false:=by
   rw[bD,Ne,fJ];rintro⟨y,A,G⟩;exact absurd G (by simpa using eU.1 h2 y A)
  rw[this];rfl
 rw[h1];have:l.any p=true:=fJ.2 ⟨x,lX h2,by have:=fU h3;exact this⟩;rw[this];exact zH oM
theorem IC l v A g cap (M:l.length≤100000000000000) I (N:jW GZ I l v)(O:∀x∈l,oO 9 I x.1.ws x.2)(G:∀x∈l,Pure aA g (.agg (GZ x).toArray::cap) I (.bool (A x))):Pure aA 82 [v,.func (.func g) #[] cap.toArray] I (.bool (l.any A)):=by
 refine aU ?_;refine jU func82 fun w0 _=>?_;refine kC (EG l v A g cap M _ N O G) ?_;refine jV ?_;rw[←b5B];exact rT
theorem b1g x p n c (A:x.2= .slice p n c) I:Pure aA 74 [.agg (GZ x).toArray] I (.bool (decide (x.1.name=gW))):=by
 refine aU ?_;refine jU func74 fun w0 _=>?_;refine jL 3 ?_;intro _ _;refine jL 8 ?_;refine J.ev 5 (.bool (decide (x.1.name=gW))) rfl (zC Value.bool (by rw[fO,beq_iff_eq,zG];exact Iff.rfl)) ?_;refine kM ?_;exact rT
theorem VH x nb lb n w M I (N:oO 9 I x.1.ws x.2)(Q:x.1.ws.length≤10000000)(S:w.length≤1000000000)(O:oO 9 I w M)(W:I nb=some (jM 9 [str n]))(Z:I lb=some (jM 69 [M])):Pure aA 83 [.agg (GZ x).toArray,ptr nb 0,ptr lb 0] I (.bool (decide (x.1.name=n) && aQ w x.1.ws)):=by
 refine aU ?_;refine jU func83 fun w0 _=>?_;refine jL 3 ?_;intro _ _;refine mX ?_ ?_<;>intro A G
 ·refine kC (a5u x.1.ws w _ _ _ (mZ.of N) (mZ.of O) oM oM) ?_;refine kM ?_;rw[zH (lU A:x.1.name=n),Bool.true_and];exact rT
 refine kM ?_;rw[zI (lY A:x.1.name≠n)];exact rT
theorem b4D{α β:Type} f (p:β→Bool)(l:List α):(l.map f).any p=l.any fun x=>p (f x):=by rw[List.any_map];rfl
theorem a2S{I xs vs}(h:vH I xs vs) n w:xs.any (fun x=>decide (x.1.name=n) && aQ w x.1.ws)=gK n w vs:=by
 unfold gK;rw[←h.1,b4D]
def lacks (L:fA) (n:List UInt8) (w:Ke.Row) (t:aB):Bool:= !gK n w ((bZ L t).getD [])
theorem a3I Q nb lb S W m k wm km L n w N t I (hs:bT L)(M:qA ((bZ L t).getD []))(Z:w.length≤1000000000)(hw:oO 9 I w N)(a0:I Q=some (jM 26 [ptr S 0]))(a1:I nb=some (jM 9 [str n]))(a2:I lb=some (jM 69 [N]))(a3:I S=some (jM 114 [.map (some W),.map wm,.map km]))(a4:I W=some (kG jZ m k))(a9:MS m k)(a5:zS I m L):Pure aA 81 [jZ t,ptr Q 0,ptr nb 0,ptr lb 0] I (.bool (lacks L n w t)):=by
 refine aU ?_;obtain⟨vv,a6,xs,O,A⟩:=a5.at t;have aa:=A.len;have ab:=M.1;refine jU func81 fun w0 _=>?_;refine jL 3 ?_;intro _ _;refine jL 4 ?_;refine bU [0] [] 10 kR ?_;have a7:=a0;have a8:=a3;have G:=a4;refine jL 5 ?_;refine iC 5 rfl (kQ (kv:=jZ) (l:=m) (a:=t) rfl rfl rfl rfl wV nC FK (dY G)) ?_;refine JA.ev 11 vv rfl a6 ?_;refine kC (IC xs _ (fun x=>decide (x.1.name=n) && aQ w x.1.ws) _ [ptr nb 0,ptr lb 0] oM _ O.row A.2 (fun x hx=>VH x nb lb n w N _ (A.2 x hx) (M.2 _ (A.1▸bV hx)) Z hw a1 a2)) ?_;refine kM ?_;rw[a2S A];exact rT
theorem a5e O nb lb Q wm km L n w M t I (hs:bT L)(G:qA ((bZ L t).getD []))(S:w.length≤1000000000)(hw:oO 9 I w M)(W:I O=some (jM 26 [ptr Q 0]))(Z:I nb=some (jM 9 [str n]))(a0:I lb=some (jM 69 [M]))(a1:I Q=some (jM 114 [.map none,.map wm,.map km]))(hL:L=[]):Pure aA 81 [jZ t,ptr O 0,ptr nb 0,ptr lb 0] I (.bool (lacks L n w t)):=by
 refine aU ?_;subst hL;obtain⟨xs,N,A⟩:=yB.nil I;have a2:=A.len;rw[List.length_nil]at a2;have a5:=G.1;refine jU func81 fun w0 _=>?_;refine jL 3 ?_;intro _ _;refine jL 4 ?_;refine bU [0] [] 10 kR ?_;have a3:=W;have a4:=a1;refine jL 5 ?_;refine iC 5 rfl (qJ (kv:=jZ) (a:=t) rfl rfl rfl rfl wV nC FK) ?_;refine kC (IC xs _ (fun x=>decide (x.1.name=n) && aQ w x.1.ws) _ [ptr nb 0,ptr lb 0] oM _ N.row A.2 (fun x hx=>VH x nb lb n w M _ (A.2 x hx) (G.2 _ (A.1▸bV hx)) S hw Z a0)) ?_;refine kM ?_;rw[a2S A];exact rT
structure DL where
  i:Nat
  j:Nat
  zs:List Ix.Rec
theorem a9p{ts:List aB}{A:aB→Bool}{k x}(G:ts[k]?=some x)(M:A x=true)(h:∀y∈ts.take k,A y=false):(ts.take (k+1)).filter (fun t=> !A t)=ts.take k:=by
 rw[take_one G,dB,dZ.2 (fun y N=>by simp[h y N])];simp[M]
theorem b2K{ts zs:List aB}{A:aB→Bool}{i j x}(h:zs.take i=(ts.take j).filter (fun t=> !A t))(G:ts[j]?=some x)(M:A x=true):zs.take i=(ts.take (j+1)).filter (fun t=> !A t):=by
 rw[take_one G,dB,←h];simp[M]
theorem b2Z{ts zs:List aB}{A:aB→Bool}{i j x}(N:i<j)(h:zs.take i=(ts.take j).filter (fun t=> !A t))(O:zs.drop j=ts.drop j)(G:ts[j]?=some x)(M:A x=false)(Q:zs.length=ts.length):(zs.set i x).take (i+1)=(ts.take (j+1)).filter (fun t=> !A t):=by
 have S:j<ts.length:=(aK.1 G).1;rw[take_one G,dB,←h,aW (by rw[fV];omega),List.take_set_of_le (Nat.le_refl i)];simp[M]
theorem b1X{ts:List aB}{A}(h:ts.find? A=none):(ts.filter fun t=> !A t)=ts:=by
 rw[eU]at h;exact dZ.2 fun y G=>by simp[h y G]
theorem b2D{zs:List aB}{n i sp}(_:zs.length=n)(A:i≤zs.length):(zs.flatMap recC++sp).take (0+i*2)=(zs.take i).flatMap recC:=by
 have h1:zs.flatMap recC=(zs.take i).flatMap recC++(zs.drop i).flatMap recC:=by rw[←bW,List.take_append_drop]
 have h2:((zs.take i).flatMap recC).length=0+i*2:=by rw[mG kF,bI,Nat.min_eq_left A];omega
 rw[h1,aG,←h2,List.take_left]
theorem a7z{A}:∀{l:List aB} {k:Nat},BX A l=(k:Int)→∀y∈l.take k,A y=false:=fun {l k} h=>by
 unfold BX at h;cases hf:l.findIdx? A with
 |none=>rw[hf]at h;simp only at h;omega
 |some j=>
  rw[hf]at h;have M:j=k:=by simp only at h;omega
  subst M;obtain⟨h1,h2,h3⟩:=List.findIdx?_eq_some_iff_getElem.1 hf;intro y N;obtain⟨i,O,rfl⟩:=List.mem_iff_getElem.1 N;have G:i<j:=by rw[bI]at O;omega
  have:=h3 i G;rw[List.getElem_take];simpa using this
theorem a2X{base} b c sp (ts:List aB)(hg:kZ base 2 ts.length (ts.flatMap recC) (some (b,c,sp)))(A:aB→Bool) g cap (hl:ts.length≤100000000000000) I (O:∀J,Le I J→∀x∈ts,Pure aA g (jZ x::cap) J (.bool (A x))):jO aA 80 [.slice (some ⟨b,0,none⟩) ts.length c,.func (.func g) #[] cap.toArray] I [(b,jM 54 (ts.flatMap recC++sp))]
 (fun e _ H'=>∃g':Gs,kZ 0 2 (ts.filter fun t=> !A t).length ((ts.filter fun t=> !A t).flatMap recC) g'∧e= .returned (gV (ts.filter fun t=> !A t).length g')∧H'=gH 54 ((ts.filter fun t=> !A t).flatMap recC) g'):=by
 have hc:ts.length≤c:=by
  obtain⟨_,h2,h3⟩:=hg;rw[mG kF]at h3;omega
 obtain⟨-,_,_⟩:=id hg;refine jU func80 fun w0 _=>?_;refine jL 9 ?_;refine J.pull Pull.z ?_;refine kL (a0q b c sp ts hc A g cap hl _ O) ?_;intro _ _ _ a8 ad;have O:=fun J9 W=>O J9 (fK a8 W);obtain⟨h,rfl⟩:=ad;cases h;refine jS ?_ ?_<;>intro Z a9
 ·have a3:ts.find? A=none:=by
   rcases tJ A ts with h|⟨k,x,h1,-,-⟩
   ·exact h.2
   have W:=lU Z;rw[h1]at W;omega
  refine jV ?_;rw[b1X a3];exact⟨some (b,c,sp),MI hg,rfl,rfl⟩
 obtain⟨k,x0,a6,Q,a4⟩:=(tJ A ts).resolve_left (fun h=>by have W:=lY Z;exact W h.1);have aa:=a7z a6;have ae:A x0=true:=by have:=fU a4;exact this
 have al:=(aK.1 Q).1;rw[a6];refine jL 11 ?_;refine dS (ι:=DL) (fun y=>y.i<y.j∧y.j≤ts.length∧y.zs.length=ts.length∧y.zs.take y.i=(ts.take y.j).filter (fun t=> !A t)∧y.zs.drop y.j=ts.drop y.j) (fun y=>ts.length-y.j) (fun y=>[(0,.slice (some ⟨b,0,none⟩) ts.length c),(1,.func (.func g) #[] cap.toArray),(5,i64 (y.i:Int)),(6,i64 (y.j:Int))]) (fun y=>_) (fun y=>[(b,jM 54 (y.zs.flatMap recC++sp))]) ⟨k,k+1,ts⟩ ⟨Nat.lt_succ_self k,dO,rfl,by dsimp only;exact(a9p Q ae aa).symm,rfl⟩ rT rfl rfl ?_;rintro⟨i,j,zs⟩ ⟨a7,hj,G,S,N⟩;dsimp only at a7 hj G S N ⊢;refine jS ?_ ?_<;>intro af ab
 ·have ag:j<ts.length:=oM;obtain⟨x,M⟩:∃x,ts[j]?=some x:=⟨_,kW ag⟩;have a5:zs[j]?=some x:=by rw[←M,←Nat.add_zero j,←eX,←eX,N]
  refine kJ (0+j*2) ?_;refine J.z (q2 oC lG (jR.at 0 rfl) (kY kF (o:=0) rfl a5)) ?_;refine jL 1 ?_;intro _ _;refine kC (O _ (eY _) x (lX M)) ?_;refine mW ?_ ?_<;>intro a0
  ·have a1:A x=false:=by have h:=a0;simpa using h
   refine kJ (i*2) ?_;refine fH rfl (oP 1 rfl rfl rfl rfl rfl rfl lG rfl rfl (a6j (x:=x) kF oM) (lS.s lS.z) ?_);refine jL 14 ?_;refine dU (fB (gJ iI)) ?_;refine bY ⟨i+1,j+1,zs.set i x⟩ ⟨dO,dO,by dsimp only;rw[fV];exact G,by dsimp only;exact b2Z a7 S N M a1 G,by dsimp only;rw[List.drop_set_of_lt oM,←cO,N,cO]⟩ dO rT rfl rfl
  have a1:A x=true:=by have h:=a0;simpa using h
  refine jL 8 ?_;refine dU (fB (gJ iI)) ?_;refine bY ⟨i,j+1,zs⟩ ⟨dO,dO,G,by dsimp only;exact b2K S M a1,by dsimp only;rw[←cO,N,cO]⟩ dO rT rfl rfl
 refine jL 9 ?_;refine J.z (rQ (j:=i) rfl rfl rfl nV lG rfl oM oM) ?_;refine J.ev 38 (.slice (some ⟨b,0+i*2,none⟩) (ts.length-i) (c-i)) rfl (by unfold MK;rw[zD oM,bM,Addr.add_lit]) ?_;refine fH rfl (b2d (sz:=2) 0 rfl rfl rfl oM nV vF rfl dE rfl rfl (by rw[aF,mG kF,G];omega) ?_);rintro ah _ ac ⟨-,hset⟩;simp only[cZ,dA]at hset;subst hset;refine jL 3 ?_;have ai:=ac;refine jL 3 ?_;refine J.z (qV (k:=i) rfl rfl rfl nV lG rfl oM) ?_;refine jV ?_;have aj:(ts.filter fun t=> !A t)=zs.take i:=by rw[S,aO (oM:ts.length≤j)]
 have a2:(zs.take i).length=i:=by rw[bI];omega
 rw[aj,a2];refine⟨some (b,c,ah++(zs.flatMap recC++sp).drop (0+i*2+(ts.length-i)*2)),⟨aN _,by rw[mG kF,a2],?_⟩,rfl,?_⟩
 ·rw[mG kF,a2,aF,ai,dJ,aF,mG kF,G];omega
 show[_]=[_];rw[b2D G (oM:i≤zs.length),aG]
end Go.Proofs.YtekmeaoblpfnpaaGreatDoor
end
section
namespace Go.Proofs.YtekmeaoblpfnpaaGreatDoor
open _root_.Go.Proofs.Tryz
open Go Go.Sx
abbrev KL (l:List aB) (v:Value) (H:HL):Prop:=AQ 54 recC l v H
theorem YI{base n l g}(A:n=l.length)(G:kZ base 2 n (l.flatMap recC) g):KL l (gV n g) (gH 54 (l.flatMap recC) g):=AQ.b6m kF dE A G
theorem TU:KL [] (.slice none 0 0) []:= .inl rT
theorem a6v{L n s}(h:(aH s).length≠1):gQ L n s=[]:=zD h
theorem b2F{L n s w}(h:aH s=[w]):gQ L n s=aV L n [w]:=by
 unfold gQ;rw[h];rfl
theorem b5S{l:Ke.Row}{w:List UInt8}(h:l.length=1)(A:l[0]?=some w):l=[w]:=by
 match l,h with
 |[a],_=>simp at A;rw[A]
theorem a7p{L}(A:bT L) n x w:(aV L n [x]).filter (fun t=> !lacks L n (x::w) t)=aV L n (x::w):=
 Ix.a9h n x w _ A fun t vs G=>by unfold lacks;rw[G,Bool.not_not];rfl
theorem QS{L:fA}{t:aB}:Ix.oI L t=match ((bZ L t).getD []).find? fun v=>decide (v.name=gW)with
 |none=>[]
 |some v=>v.key:=by
 unfold Ix.oI;cases bZ L t with
 |none=>rfl
 |some vs=>rfl
theorem a4l{α β:Type} f (p:β→Bool)(l:List α):(l.map f).find? p=(l.find? fun x=>p (f x)).map f:=by
 induction l with
 |nil=>rfl
 |cons a r A=>
  rw[List.map_cons,fZ,fZ];cases p (f a)with
  |true=>rfl
  |false=>exact A
theorem a1s{I A L}(h:zJ I A L) t:qA ((bZ L t).getD []):=by
 obtain⟨o,h1,_⟩:=h;cases o with
 |none=>rw[show L=[] from h1];exact⟨aN _,fun _ h=>by cases h⟩
 |some s=>exact a3V (nZ.pU h1) (nZ.UU h1) t
theorem WL n s (N:s.length≤100000000) I:Pure aA 85 [str n,str s] I (str (dK n s)):=by
 refine aU ?_;have Q:=NY s;refine jU func85 fun w0 _=>?_;refine kC (a7d s N _) ?_;refine oW ?_ ?_<;>intro A
 ·refine jS ?_ ?_<;>intro G O
  ·have M:dK n s=gB (Ke.ED s).1 0:=zF ⟨A,lU G⟩;refine kC (LX (Ke.ED s).1 0 oM _) ?_;refine jV ?_;rw[M];exact rT
  have M:dK n s=gB s 0:=zD (fun g=>lY G g.2);refine kC (LX s 0 N _) ?_;refine jV ?_;rw[M];exact rT
 have M:dK n s=gB s 0:=zD (fun g=>Bool.noConfusion (g.1.symm.trans A));refine kC (LX s 0 N _) ?_;refine jV ?_;rw[M];exact rT
theorem b4s ib L n s (hs:s.length≤100000000) I (hx:zJ I ib L):jO aA 32 [ptr ib 0,str n,str s] I [] (fun e _ H'=>∃v,e= .returned v∧KL (gQ L n s) v H'):=by
 have M:=hx.pU;have a0:=hx.big;obtain⟨_,wm,_,G,_,N,_⟩:=hx.parts;have ae:=(Ke.qX s).1;refine jU func32 fun w0 _=>?_;refine kL (yE s oM _) ?_;intro _ _ _ O a5;have G:=O _ _ G;have N:=N.mono O;obtain⟨_,h,W,rfl⟩:=a5;cases h;obtain⟨wp,_,rfl⟩:=qB W;refine jS ?_ ?_<;>intro Q a1
 ·have a2:(aH s).length≠1:=by have h:=bne_iff_ne.1 Q;omega
  refine jL 7 ?_;rw[a6v a2];refine kM ?_;exact⟨_,rfl,TU⟩
 have a6:(aH s).length=1:=by have h:=sJ Q;omega
 obtain⟨w1,S⟩:∃w,(aH s)[0]?=some w:=⟨_,kW oM⟩;have a7:=b5S a6 S;obtain⟨wb,_,_,a8,a9⟩:=W.some (jT (oM:0<(aH s).length));cases a8;refine jL 3 ?_;refine bU [] [] 11 kR ?_;have ad:=G;have Z:=a9;refine kJ 0 ?_;refine iC 7 rfl (jP rfl rfl lQ (dY Z) (nN S)) ?_;refine iG lI (fun aa=>?_);refine fC 8 rfl aa (jX (pl:= #[(0,1),(1,1)]) rfl rfl YW rfl TG (fun w=>by simp[kU]) (dD rfl rfl rfl lsA (dD rfl rfl rfl lsA gX))) ?_;refine kL (RV wm _ L (n,w1) _ N M a0 (a2Z M _)) ?_;intro _ _ _ A a3;have G:=A _ _ G;have N:=N.mono A;have W:=W.mono A;obtain⟨ts,g,ab,a4,hg,h,rfl⟩:=a3;cases h;refine jL 5 ?_;have ac:=gU M ab a4;rw[b2F a7];subst ac;refine dU (H':=gH _ _ g) (dL _ _) ?_;refine jV ?_;exact⟨_,rfl,YI rfl hg⟩
theorem b6k W L n s (hs:s.length≤100000000) I (N:zJ I W L):jO aA 34 [ptr W 0,str n,str s] I [] (fun e _ H'=>∃v,e= .returned v∧KL (Ix.oG L n (dK n s)) v H'):=by
 have A:=N.pU;have O:=N.big;obtain⟨_,_,km,G,_,_,Q⟩:=N.parts;refine jU func34 fun w0 _=>?_;refine jL 16 ?_;refine bU [] [] 11 kR ?_;have a3:=G;refine kC (WL n s hs _) ?_;refine⟨fx0,?_⟩;refine iG lI (fun Z=>?_);refine fC 8 rfl Z (jX (pl:= #[(0,1),(1,1)]) rfl rfl YW rfl TG (fun w=>by simp[kU]) (dD rfl rfl rfl lsA (dD rfl rfl rfl lsA gX))) ?_;refine kL (RV km _ L (n,dK n s) _ Q A O (a2Z A _)) ?_;intro _ _ _ M a0;have G:=M _ _ G;have Q:=Q.mono M;obtain⟨ts,g,a1,S,hg,h,rfl⟩:=a0;cases h;refine jL 5 ?_;have a2:=Ix.a8u A a1 S;subst a2;refine dU (H':=gH _ _ g) (dL _ _) ?_;refine jV ?_;exact⟨_,rfl,YI rfl hg⟩
theorem a3c(A:aB→Bool) g (cap:List Value) I:jO aA 80 [.slice none 0 0,.func (.func g) #[] cap.toArray] I [] (fun e _ H'=>e= .returned (.slice none 0 0)∧H'=[]):=by
 refine jU func80 fun w0 _=>?_;refine kC (PK [] _ A g cap dE _ jW.nil (fun x G=>by cases G)) ?_;refine J.ev 10 (i64 (-1)) rfl rfl ?_;refine jV ?_;exact rT
theorem a7M A nb lb G vm wm km L n w M t I (hs:bT L)(N:qA ((bZ L t).getD []))(O:w.length≤1000000000)(hw:oO 9 I w M)(Q:I A=some (jM 26 [ptr G 0]))(S:I nb=some (jM 9 [str n]))(W:I lb=some (jM 69 [M]))(Z:I G=some (jM 114 [.map vm,.map wm,.map km]))(hV:a4E I vm L):Pure aA 81 [jZ t,ptr A 0,ptr nb 0,ptr lb 0] I (.bool (lacks L n w t)):=by
 rcases hV with⟨rfl,hL⟩|⟨b,l,c,rfl,a0,a1,hb⟩
 ·exact a5e A nb lb G wm km L n w M t I hs N O hw Q S W Z hL
 exact a3I A nb lb G b l c wm km L n w M t I hs N O hw Q S W Z hb a0 a1
theorem a8i{base}(ts:List aB) g (M:kZ base 2 ts.length (ts.flatMap recC) g)(A:aB→Bool) f cap (O:ts.length≤100000000000000) I (N:∀J,Le I J→∀x∈ts,Pure aA f (jZ x::cap) J (.bool (A x))):jO aA 80 [gV ts.length g,.func (.func f) #[] cap.toArray] I (gH 54 (ts.flatMap recC) g)
 (fun e _ H'=>∃G:Gs,kZ 0 2 (ts.filter fun t=> !A t).length ((ts.filter fun t=> !A t).flatMap recC) G∧e= .returned (gV (ts.filter fun t=> !A t).length G)∧H'=gH 54 ((ts.filter fun t=> !A t).flatMap recC) G):=by
 cases g with
 |none=>
  have h0:ts=[]:=aJ.1 M.1;subst h0;exact(a3c A f cap I).mono fun e _ H' _ ⟨h1,h2⟩=>⟨none,⟨rfl,rfl⟩,h1,h2⟩
 |some q=>
  obtain⟨b,c,sp⟩:=q;exact a2X b c sp ts M A f cap O I N
theorem b4d{L}(A:bT L)(G:L.length≤100000) n w:(aV L n w).length≤100000000000000:=by
 unfold aV
 split
 ·simp
 rw[aS];have:=List.length_filter_le (fun e:aB×List Ix.V=>gK n w e.2) L;omega
theorem a8d ib L n s (hs:s.length≤100000000) I (hx:zJ I ib L):jO aA 33 [ptr ib 0,str n,str s] I [] (fun e _ H'=>∃g,kZ 0 2 (aV L n (aH s)).length ((aV L n (aH s)).flatMap recC) g∧e= .returned (gV (aV L n (aH s)).length g)∧H'=gH 54 ((aV L n (aH s)).flatMap recC) g):=by
 have Z:=hx.pU;have a5:=hx.big;obtain⟨vm,wm,km,M,hV,hW,_⟩:=hx.parts;have ac:=fun t=>a1s hx t;have aw:=(Ke.qX s).1;refine jU func33 fun w0 _=>?_;refine jL 3 ?_;intro b1 al;refine jL 1 ?_;intro b2 am;refine jL 4 ?_;refine Cj.pull (Pull.s Pull.z) ?_;refine gG al (fun _ a3 G=>?_);have M:=a3 _ _ M;have hW:=hW.mono a3;have hV:=hV.mono a3;refine gG am (fun _ a0 N=>?_);have M:=a0 _ _ M;have hW:=hW.mono a0;have hV:=hV.mono a0;have G:=a0 _ _ G;refine kL (yE s oM _) ?_;intro _ _ H9 W ad;have M:=W _ _ M;have hW:=hW.mono W;have hV:=hV.mono W;have G:=W _ _ G;have N:=W _ _ N;obtain⟨_,h,hw,rfl⟩:=ad;cases h;obtain⟨wp,_,rfl⟩:=qB hw;refine jL 1 ?_;intro a8 ae;refine jL 5 ?_;refine gG ae (fun _ Q S=>?_);have M:=Q _ _ M;have hW:=hW.mono Q;have hV:=hV.mono Q;have G:=Q _ _ G;have N:=Q _ _ N;have hw:=hw.mono Q;refine jS ?_ ?_<;>intro a4 a6
 ·refine jL 7 ?_;rw[show aV L n (aH s)=[] from zF (aJ.1 (by have h:=lU a4;omega))];refine kM ?_;exact⟨none,⟨rfl,rfl⟩,rfl,rfl⟩
 have a9:(aH s).length≠0:=by have h:=lY a4;omega
 obtain⟨x,w,aa⟩:∃x w,aH s=x::w:=by
  cases hc:aH s with
  |nil=>rw[hc]at a9;exact absurd rfl a9
  |cons a r=>exact⟨a,r,rfl⟩
 have af:(aH s)[0]?=some x:=by rw[aa];rfl
 obtain⟨wb,_,_,an,a2⟩:=hw.some (jT (oM:0<(aH s).length));cases an;refine jL 3 ?_;refine bU [] [] 13 kR ?_;have av:=M;have ao:=G;have ap:=N;have aj:=S;have a7:=a2;refine jL 6 ?_;refine iG lI (fun a1=>?_);refine fC 6 rfl a1 (nG (off':=0) rfl rfl rfl lJ kU dE oM sI) ?_;refine fC 7 rfl a1 (jP rfl rfl lQ (dY a7) (nN af)) ?_;refine fC 8 rfl a1 (jX (pl:= #[(0,1),(1,1)]) rfl rfl YW rfl TG (fun w=>by simp[kU]) (dD rfl rfl rfl lsA (dD rfl rfl rfl lsA gX))) ?_;refine fC 10 rfl a1 (VI rfl rfl rfl) ?_;refine q0 9 rfl (kT (H1:=[]) rfl rfl rfl rfl rfl (RV wm _ L (n,x) _ hW Z a5 (a2Z Z _)) ?_ (fun _ _ _ _ ⟨_,_,_,_,_,h,_⟩=>by cases h) (fun _ _ ⟨_,_,_,_,_,h,_⟩=>by cases h));intro _ _ _ A ag;have M:=A _ _ M;have hW:=hW.mono A;have hV:=hV.mono A;have G:=A _ _ G;have N:=A _ _ N;have hw:=hw.mono A;have S:=A _ _ S;have a2:=A _ _ a2;obtain⟨ts,g,aq,ah,hg,h,rfl⟩:=ag;cases h;have ab:=gU Z aq ah;have ar:=hg;refine⟨⟨(fK (eY _) A),HSub.n,CSub.n⟩,?_⟩;refine q0 11 rfl (wQ (H1:=gH 54 (ts.flatMap recC) g) [] (bP _) rfl rfl rfl rfl rfl (a8i ts g ar (lacks L n (aH s)) _ [ptr b1 0,ptr b2 0,ptr a8 0] (by rw[ab];exact b4d Z a5 _ _) _ (fun J9 h9 t _=>a7M b1 b2 a8 ib vm wm km L n (aH s) _ t J9 Z (ac t) oM (hw.mono h9) (h9 _ _ G) (h9 _ _ N) (h9 _ _ S) (h9 _ _ M) (hV.mono h9))) ?_ (fun _ _ _ _ ⟨_,_,h,_⟩=>by cases h) (fun _ _ ⟨_,_,h,_⟩=>by cases h));rintro _ _ H9 O ⟨g9,au,h,rfl⟩;cases h;have M:=O _ _ M;have hW:=hW.mono O;have hV:=hV.mono O;have G:=O _ _ G;have N:=O _ _ N;have hw:=hw.mono O;have S:=O _ _ S;have a2:=O _ _ a2;refine⟨⟨(fK (fK (eY _) A) O),HSub.n,CSub.n⟩,?_⟩;refine iG lI (fun ai=>?_);refine fC 12 rfl ai (tC rfl rfl) ?_;refine JA.done kR ?_;refine Ej.seq (Cj.ret ?_);rw[ab,aa,a7p Z n x w]at *;refine Ej.MX rfl rfl rfl ?_;exact⟨g9,au,rfl,rfl⟩
theorem b0x A L n s (G:s.length≤100000000) I (M:zJ I A L):jO aA 33 [ptr A 0,str n,str s] I [] (fun e _ H'=>∃v,e= .returned v∧KL (aV L n (aH s)) v H'):=
 (a8d A L n s G I M).mono fun _ _ _ _ ⟨_,h1,h2,h3⟩=>⟨_,h2,by rw[h3];exact YI rfl h1⟩
