/-
  Own texts on the laws of the seat, joined: the logic, and contracts of functions. Conditions: none.
-/
import Derived.Test.YtekmeaoblpfnpaaGreatDoorNmQ
import Derived.Test.YtekmeaoblpfnpaaGreatDoorPQ5
import Derived.Lib.FieldsP
import Derived.Laws.AppendOwn
set_option linter.all false
set_option maxRecDepth 100000
set_option maxHeartbeats 40000000
open List renaming map_append -> aA,append_nil -> aB,getElem?_eq_some_iff -> aF,length_append -> aG,map_cons -> aK,take_succ_eq_append_getElem -> aN,mem_singleton -> aP,mem_append -> aQ,take_of_length_le -> aS,flatMap_append -> aX,cons_ne_nil -> aY,mem_cons -> bF,length_cons -> bG,length_eq_zero_iff -> bH,take_append_drop -> bM,length_take -> bP,length_map -> bU,length_nil -> bV,findIdx?_eq_some_iff_getElem -> dA,mem_append_right -> dH,mem_append_left -> dL,mem_map_of_mem -> dM,filter_append -> dR,isPrefixOf_iff_prefix -> dU,nodup_append -> dV,getElem?_set -> dX,map_map -> dY,length_filterMap_le -> eG,mem_map -> eU,not_mem_nil -> eX,filter_cons_of_neg -> eY,nodup_cons -> fC,drop_eq_nil_of_le -> fD,getElem_cons_drop -> fE,getElem?_toArray -> fO,perm_append_comm -> fQ,mem_of_getElem? -> fU,sum_cons -> fV,filter_eq_self -> gB,length_pos_iff -> gG,flatMap_cons -> gW,append_assoc -> gX,getElem?_map -> gY,cons_append -> iC,nil_append -> iE,drop_zero -> iH,map_nil -> iQ
open Ix renaming named -> aC,b4i -> bY,b7C -> dF,vals -> dG,b1k -> dJ,a6O -> dN,a6R -> eH,b7G -> eP,b1m -> iF,Rec -> iG,KC -> iT
open Go.Sx.Keeps renaming d -> aH,k -> aT,n -> bI,r -> bT
open Go.Sx.yX renaming s -> aI,z -> bD
open Go.Proofs.Tryz renaming prog -> aJ
open Bool renaming false_eq_true -> aO,and_eq_true -> dB,noConfusion -> dD,eq_iff_iff -> fA,true_and -> fZ
open Ke renaming textOf -> aU,Sub -> eF,skip -> fG,digit -> gZ,GU -> iR
open Go.Sx.Ej renaming keep -> aV,round -> bJ,persist -> bZ,GY -> cZ,pull -> iO
open Nat renaming le_refl -> aW,zero_le -> dP,lt_or_ge -> dZ,min_eq_left -> fB
open Go.Utf8 renaming decode -> aZ
open Go.Sx.World renaming block -> bC
open Go.Sx.JA renaming ev -> bK,zt -> dQ
open Go.Sx.yZ renaming toPure -> bQ
open Go.Sx.J renaming ev -> bW,z -> dK,op -> gI
open Go.Sx.Cj renaming AL -> cO,loop -> gU,keep -> iJ
open Go.Sx.yY renaming EG -> dI,BQ -> fH
open Go.Sx.zL renaming part -> dS
open Go.Result renaming andThen_ok -> dW
open Array renaming getElem?_eq_none -> fF,getElem?_modify -> fM,ext_getElem? -> gQ
open Go.Value renaming oneCell' -> fJ
open Go.Instr renaming mapEntry -> fK,keyThatStays -> gK,entryStore -> iD,checkKey -> iK,sameBits -> iL,findKey -> iP
open List.Perm renaming cons -> fP
open Go.Sem renaming run_bind -> gJ,run -> iM
open Go.Sx.Le renaming refl -> iI
open Go.Sx.Pull renaming z -> iU
namespace Ix
open Ke
open Go Go.Lib
theorem QB c:digit c=decide (48≤c.toNat∧c.toNat≤57):=by simp_all[digit,fA,dB,zG,UInt8.le_iff_toNat_le]
def WU (r:Nat):Bool:=decide (r<48) || decide (57<r)
theorem decodeL_N c r:decodeL (c::r)=decodeN (r.length+1) c.toNat (r.getD 0 0).toNat (r.getD 1 0).toNat (r.getD 2 0).toNat:=by
 have:=decode_N ⟨(c::r).toArray⟩ 0;simp only[bG,Nat.sub_zero,Nat.zero_add,List.getD_cons_zero,List.getD_cons_succ]at this;exact this
theorem a8O c r (h:128≤c.toNat):128≤(decodeL (c::r)).1∧∀x∈(c::r).take (decodeL (c::r)).2,128≤x.toNat:=by
 have key:∀k n:Nat,(128≤k∧∀x∈(c::r).take n,128≤x.toNat)→128≤((k,n):Nat×Nat).1∧∀x∈(c::r).take ((k,n):Nat×Nat).2,128≤x.toNat:=fun _ _ h=>h;have h1:128≤((65533,1):Nat×Nat).1∧∀x∈(c::r).take ((65533,1):Nat×Nat).2,128≤x.toNat:=⟨dE,fun x N=>by simp at N;rw[N];exact h⟩;rw[decodeL_N];unfold decodeN;rw[zD oM]
 split
 ·rename_i g
  split
  ·refine key _ _ ⟨oM,fun x N=>?_⟩;rcases r with _|⟨d,r⟩
   ·simp at N;rw[N];exact h
   simp at N g;rcases N with rfl|rfl
   ·exact h
   omega
  exact h1
 split
 ·rename_i g
  split
  ·refine key _ _ ⟨oM,fun x N=>?_⟩;rcases r with _|⟨d,_|⟨e,r⟩⟩
   ·simp at N;rw[N];exact h
   ·simp at g
   simp at N g;rcases N with rfl|rfl|rfl
   ·exact h
   ·omega
   omega
  exact h1
 split
 ·rename_i g
  split
  ·refine key _ _ ⟨oM,fun x N=>?_⟩;rcases r with _|⟨d,_|⟨e,_|⟨f,r⟩⟩⟩
   ·simp at N;rw[N];exact h
   ·simp at g
   ·simp at g
   simp at N g;rcases N with rfl|rfl|rfl|rfl
   ·exact h
   ·omega
   ·omega
   omega
  exact h1
 exact h1
theorem a5P:∀(q:Bs) (w r:Bs),(∀x∈q,digit x=false)→q≠[]→KC w (q++r)=(if w=[]then[]else[w])++KC [] r
 |[],_,_,_,h=>absurd rfl h
 |[c],w,r,h,_=>by
  show KC w (c::r)=_;rw[KC,h c (.head _)];simp only[aO,if_false]
  split<;>rfl
 |c::d::q,w,r,h,_=>by
  have N:=a5P (d::q) [] r (fun x O=>h x (.tail _ O)) sI;rw[zF rfl,iE]at N;show KC w (c::((d::q)++r))=_;rw[KC,h c (.head _),N];simp only[aO,if_false]
  split<;>rfl
theorem b3M w c r (h:digit c=true):KC w (c::r)=KC (w++[c]) r:=by rw[KC,zF h]
theorem a1K s:∀(f pos:Nat) (O:Option Nat) (N:List (Nat×Nat)),s.size≤pos+f→pos≤s.size→(∀a,O=some a→a<pos)→
 N.map (fun p=>pieceU s.data.toList p.1 p.2)++KC (openPiece s.data.toList O pos) (s.data.toList.drop pos)=(closeSpans s (spansFromP WU s f pos O N)).map (fun p=>pieceU s.data.toList p.1 p.2)
 |0,pos,O,N,h,hp,hst=>by
  obtain rfl:pos=s.size:=oM;have hd:s.data.toList.drop s.size=[]:=fD (by rw[←size_eq];exact aW _);rw[hd,KC];cases O with
  |none=>simp[spansFromP,closeSpans,openPiece]
  |some a=>
   have:=pieceU_ne s.data.toList a s.size (hst a rfl) (by rw[←size_eq];exact aW _);simp[spansFromP,closeSpans,openPiece,this]
 |f+1,pos,O,N,h,hp,hst=>by
  by_cases hlt:pos<s.size
  ·have a3:pos<s.data.toList.length:=by rw[←size_eq];exact hlt
   have a1:decodeL (s.data.toList.drop pos)=aZ s pos:=decodeL_drop s pos;obtain⟨c,Z⟩:∃c,s.data.toList.drop pos=c::s.data.toList.drop (pos+1):=⟨s.data.toList[pos],(fE a3).symm⟩;have hw:=width_pos s pos;have a2:pos+(aZ s pos).2≤s.size:=by
    have:=decodeN_le_n' (s.size-pos) (s.get! pos).toNat (s.get! (pos+1)).toNat (s.get! (pos+2)).toNat (s.get! (pos+3)).toNat oM;rw[←decode_at]at this;omega
   simp only[spansFromP,zF hlt]
   by_cases hdig:digit c=true
   ·have a7:48≤c.toNat∧c.toNat≤57:=by rw[QB]at hdig;exact zA hdig
    have h1:aZ s pos=(c.toNat,1):=by
     rw[←a1,Z];rw[decodeL_N];unfold decodeN;rw[zF oM]
    have h2:WU c.toNat=false:=by unfold WU;simp;omega
    rw[h1];simp only[h2,aO,if_false];rw[Z,b3M _ _ _ hdig];cases O with
    |none=>
     have W:=a1K s f (pos+1) (some pos) N oM oM (fun a h=>by cases h;omega);have e:openPiece s.data.toList none pos++[c]=openPiece s.data.toList (some pos) (pos+1):=by
      show[]++[c]=pieceU s.data.toList pos (pos+1);unfold pieceU;rw[Z,Nat.add_sub_cancel_left];rfl
     rw[e];exact W
    |some a=>
     have W:=a1K s f (pos+1) (some a) N oM oM (fun b h=>by cases h;have:=hst a rfl;omega);have e:openPiece s.data.toList (some a) pos++[c]=openPiece s.data.toList (some a) (pos+1):=by
      have:=pieceU_grow s.data.toList a pos 1 (by have:=hst a rfl;omega);rw[Z]at this;exact this
     rw[e];exact W
   have h3:WU (aZ s pos).1=true∧∀x∈(s.data.toList.drop pos).take (aZ s pos).2,digit x=false:=by
    rw[←a1,Z]
    by_cases h128:c.toNat<128
    ·have h1:decodeL (c::s.data.toList.drop (pos+1))=(c.toNat,1):=by
      rw[decodeL_N];unfold decodeN;rw[zF h128]
     rw[h1];refine⟨?_,fun x hx=>?_⟩
     ·rw[QB,zG]at hdig;unfold WU;simp;omega
     simp at hx;rw[hx];simpa using hdig
    obtain⟨_,g2⟩:=a8O c (s.data.toList.drop (pos+1)) oM;refine⟨by unfold WU;simp;omega,fun x hx=>?_⟩;have:=g2 x hx;rw[QB];simp;omega
   have a0:s.data.toList.drop pos=(s.data.toList.drop pos).take (aZ s pos).2++s.data.toList.drop (pos+(aZ s pos).2):=by
    rw[←List.drop_drop,bM]
   have a4:(s.data.toList.drop pos).take (aZ s pos).2≠[]:=by
    intro h0;have:=zC List.length h0;rw[bP,List.length_drop]at this;simp at this;omega
   simp only[h3.1,if_true];rw[a0,a5P _ _ _ h3.2 a4];cases O with
   |none=>
    have W:=a1K s f (pos+(aZ s pos).2) none N oM a2 (fun a h=>by cases h);simpa[openPiece]using W
   |some a=>
    have a5:=pieceU_ne s.data.toList a pos (hst a rfl) (by rw[←size_eq];omega);have W:=a1K s f (pos+(aZ s pos).2) none (N++[(a,pos)]) oM a2 (fun a h=>by cases h);simpa[openPiece,a5]using W
  have a6:pos=s.size:=oM;have hd:s.data.toList.drop pos=[]:=fD (by rw[←size_eq];omega);rw[spansFromP_end WU s _ pos O N hlt,hd,KC];subst a6;cases O with
  |none=>simp[closeSpans,openPiece]
  |some a=>
   have:=pieceU_ne s.data.toList a s.size (hst a rfl) (by rw[←size_eq];exact aW _);simp[closeSpans,openPiece,this]
theorem a4T(s:ByteArray) a b:s.extract a b=⟨(pieceU s.data.toList a b).toArray⟩:=by
 apply ByteArray.ext
 rw[ByteArray.data_extract]
 apply Array.ext'
 rw[Array.toList_extract];unfold pieceU;simp[List.extract_eq_take_drop]
theorem fieldsD s:goFieldsP WU ⟨s.toArray⟩=(a6O s).map fun x=>⟨x.toArray⟩:=by
 have h:=a1K ⟨s.toArray⟩ (ByteArray.mk s.toArray).size 0 none [] oM oM (fun _ h=>by cases h);simp only[iQ,iE,openPiece,iH]at h;unfold goFieldsP spansOfP a6O;rw[h,dY];refine List.map_congr_left fun p _=>?_;rw[a4T];rfl
end Ix
namespace Go.Sx
open Go Go.RowKit
theorem yZ.c0i{P f args I T l vals}(hv:vals=l.map str)(he:Enters P f)
 (h:∀w,Calls P f args.toArray w fun e w'=>∃A,e= .returned (.slice (some ⟨A,0,none⟩) l.length l.length)∧w.heap.size≤A∧w'.ownsRow w.heap.size T 1 (.slice (some ⟨A,0,none⟩) l.length l.length) l.length vals∧Below w.heap.size w w'):
 yZ P f args I [] (fun e I' H'=>∃v,e= .returned v∧FK T I' l v∧H'=[]):=by
 refine⟨he,fun w hw=>(h w).mono ?_⟩;rintro e w' ⟨A,rfl,hA,N,O⟩;obtain⟨r1,-,-,-⟩:=hw;have a0:∀{b:Nat} {o:Obj},I b=some o→b<w.heap.size:=fun {b o} W=>by
  have:=r1 b o W;rcases dZ b w.heap.size with h'|h'
  ·exact h'
  rw[fF h']at this;cases this
 obtain⟨-,N⟩:=N;obtain⟨g,cap,Z,hs,-,hc,_,-,_,a3⟩:=N.resolve_left fun g=>by cases g.1
 cases hs;have a1:(.cells Z T (0,0):Obj)=zJ T (l.map str++Z.toList.drop l.length):=by
  unfold zJ;rw[←hv,←a3,Nat.mul_one,bM]
 rw[a1]at hc;have a4:St w [] I I [(A,zJ T (l.map str++Z.toList.drop l.length))] w':=
  ⟨O.os,O.tape,O.output,O.size,fun b W _=>O.block b W,fun b o W=>by rw[O.block b (a0 W)];exact r1 b o W,fun p hp=>by rw[aP.1 hp];exact hc,sI,fun p hp=>by
   rw[aP.1 hp];cases hI:I A with
   |none=>rfl
   |some o=>have:=a0 hI;omega,fun p hp=>by rw[aP.1 hp];exact .inr hA,fun _ _=>rfl,iI _,a3x⟩
 have a2:=a4.persist hA;exact⟨_,_,a2,_,rfl,.inr ⟨A,l.length,_,rfl,aW _,VX _ _ _⟩,rfl⟩
theorem yZ.b9x{P f args I T}{l:List (List UInt8)}{vals}(hv:vals=l.map str)(he:Enters P f)
 (h:∀w,(∀b o,I b=some o→w.heap[b]?=some o)→Calls P f args.toArray w fun e w'=>∃A,e= .returned (.slice (some ⟨A,0,none⟩) l.length l.length)∧w.heap.size≤A∧w'.ownsRow w.heap.size T 1 (.slice (some ⟨A,0,none⟩) l.length l.length) l.length vals∧Below w.heap.size w w'):
 yZ P f args I [] (fun e _ H'=>∃b sp,e= .returned (.slice (some ⟨b,0,none⟩) l.length l.length)∧H'=[(b,zJ T (l.map str++sp))]):=by
 refine⟨he,fun w hw=>(h w hw.1).mono ?_⟩;rintro e w' ⟨A,rfl,hA,N,O⟩;obtain⟨r1,-,-,-⟩:=hw;have a0:∀{b:Nat} {o:Obj},I b=some o→b<w.heap.size:=fun {b o} W=>by
  have:=r1 b o W;rcases dZ b w.heap.size with h'|h'
  ·exact h'
  rw[fF h']at this;cases this
 obtain⟨-,N⟩:=N;obtain⟨g,cap,Z,hs,-,hc,_,-,_,a2⟩:=N.resolve_left fun g=>by cases g.1
 cases hs;have a1:(.cells Z T (0,0):Obj)=zJ T (l.map str++Z.toList.drop l.length):=by
  unfold zJ;rw[←hv,←a2,Nat.mul_one,bM]
 rw[a1]at hc;have a3:St w [] I I [(A,zJ T (l.map str++Z.toList.drop l.length))] w':=
  ⟨O.os,O.tape,O.output,O.size,fun b W _=>O.block b W,fun b o W=>by rw[O.block b (a0 W)];exact r1 b o W,fun p hp=>by rw[aP.1 hp];exact hc,sI,fun p hp=>by
   rw[aP.1 hp];cases hI:I A with
   |none=>rfl
   |some o=>have:=a0 hI;omega,fun p hp=>by rw[aP.1 hp];exact .inr hA,fun _ _=>rfl,iI _,a3x⟩
 exact⟨_,_,a3,_,_,rfl,rfl⟩
end Go.Sx
section
namespace Go.Proofs.YtekmeaoblpfnpaaGreatDoor
open _root_.Go.Proofs.Tryz
open Go Go.Sx
def sel (codes:List UInt8) (s:eF):Bool:=decide (codes=[]) || codes.contains s.code
def RV (codes:List UInt8) (ss:List eF):List (List UInt8):=(ss.filter (sel codes)).map (·.text)
def XW (f:iR) (codes:List UInt8):List UInt8:=Ke.join (RV codes f.subs)
theorem PU{f codes}(h:codes≠[]):XW f codes=aU f codes:=by
 unfold XW aU Ke.texts RV
 congr 2
 refine List.filter_congr fun s _=>?_;unfold sel;rw[zI h];rfl
theorem YE f:XW f []=dJ f:=by
 unfold XW dJ RV;rw[show f.subs.filter (sel [])=f.subs from gB.2 fun _ _=>rfl]
theorem b7x{codes}{ss:List eF}{k s}(h:ss[k]?=some s):RV codes (ss.take (k+1))=RV codes (ss.take k)++(if sel codes s=true then[s.text]else[]):=by
 obtain⟨N,O⟩:=aF.1 h;unfold RV;rw[aN N,O,dR,aA]
 by_cases hc:sel codes s=true
 ·rw[zF hc,List.filter_cons_of_pos hc];rfl
 rw[zD hc,eY hc];rfl
theorem a5c codes ss:(RV codes ss).length≤ss.length:=by
 unfold RV;rw[bU];exact List.length_filter_le _ _
theorem b1c codes:∀ss:List eF,((RV codes ss).map List.length).sum≤DX ss
 |[]=>by simp[RV]
 |s::r=>by
  have:=b1c codes r;unfold RV DX at this ⊢;rw[List.filter_cons]
  split
  ·simp only[aK,fV];omega
  simp only[aK,fV];omega
theorem XT f codes:(XW f codes).length≤DX f.subs+f.subs.length:=by
 have h1:=PK (RV codes f.subs);have h2:=b1c codes f.subs;have h3:=a5c codes f.subs;unfold XW;omega
theorem b7p{ss s}(h:s∈ss):s.text.length≤DX ss:=by
 unfold DX
 induction ss with
 |nil=>cases h
 |cons a r N=>
  rw[aK,fV];rcases bF.1 h with e|e
  ·rw[e];omega
  have:=N e;omega
abbrev four (x:List UInt8):Bool:=decide (x.length=4)
def QO {α:Type} (p:α→Bool) (l:List α):Int:=match l.findIdx? p with
 |some k=>(k:Int)
 |none=> -1
theorem UJ{α:Type}{p:α→Bool}{l:List α}(h:∀x∈l,p x=false):QO p l= -1:=by
 unfold QO;rw[List.findIdx?_eq_none_iff.2 fun x N=>by simpa using h x N]
theorem ZP{α:Type}{p:α→Bool}{l:List α}{k}{x:α}(h:∀y∈l.take k,p y=false)(O:l[k]?=some x)(W:p x=true):QO p l=(k:Int):=by
 obtain⟨N,Z⟩:=aF.1 O;unfold QO;have:l.findIdx? p=some k:=by
  rw[dA];refine⟨N,by rw[Z];exact W,fun j _=>?_⟩;have h1:l[j]'oM∈l.take k:=by
   rw[List.mem_take_iff_getElem];exact⟨j,oM,rfl⟩
  rw[h _ h1];exact Bool.false_ne_true
 rw[this]
theorem QU{α:Type}{p:α→Bool}{l:List α}{k x}(h:∀y∈l.take k,p y=false)(W:l[k]?=some x)(Z:p x=false):∀y∈l.take (k+1),p y=false:=fun y N=>by
 obtain⟨O,hg⟩:=aF.1 W;rw[aN O,hg,aQ,aP]at N;rcases N with N|rfl
 ·exact h y N
 exact Z
theorem LK{α:Type} p l:(QO p l= -1∧l.find? p=none)∨∃(k:Nat) (x:α),QO p l=(k:Int)∧l[k]?=some x∧l.find? p=some x:=by
 by_cases h:∃k,∃x,l[k]?=some x∧p x=true∧∀y∈l.take k,p y=false
 ·obtain⟨k,x,h1,h2,h3⟩:=h;refine .inr ⟨k,x,ZP h3 h1 h2,h1,?_⟩;obtain⟨_,Z⟩:=aF.1 h1;rw[List.find?_eq_some_iff_append];refine⟨h2,l.take k,l.drop (k+1),?_,fun y N=>by simp[h3 y N]⟩;rw[←Z,fE,bM]
 have O:∀k,k≤l.length→∀y∈l.take k,p y=false:=by
  intro k
  induction k with
  |zero=>intro _ y N;simp at N
  |succ k ih=>
   intro _;have W:=CX (l:=l) (i:=k) oM;have h1:=ih oM;refine QU h1 W ?_;cases hp:p l[k]with
   |false=>rfl
   |true=>exact absurd ⟨k,_,W,hp,h1⟩ h
 have h2:∀y∈l,p y=false:=fun y N=>O l.length (aW _) y (by rw[List.take_length];exact N);exact .inl ⟨UJ h2,List.find?_eq_none.2 fun y N=>by simp[h2 y N]⟩
theorem a1v{f c}(h:f.ind[1]?=some c):fG f=if gZ c=true then c.toNat-48 else 0:=by
 unfold fG;rw[h]
theorem a3t{I l v}:KU I l v↔zU (fun s=>[str s]) I l v:=by
 unfold KU zU;rw[show l.map str=l.flatMap fun s=>[str s] by induction l with|nil=>rfl|cons a r N=>rw[aK,gW,N];rfl]
theorem NR f codes (hn:f.subs.length≤2000000)(ai:DX f.subs≤3000000) I (hr:zU OI I f.subs f.sv):Pure aJ 150 [.agg (JU f).toArray,str codes] I (str (XW f codes)):=by
 refine bQ ?_;obtain⟨p2,c2,ab,a3,ac⟩:=hr;refine zT func150 fun w0 _=>?_;refine yU 3 ?_;intro _ _;refine yU 13 ?_;refine bW 9 (.slice p2 f.subs.length c2) rfl ab ?_;refine yU 5 ?_;refine iJ (aH bI) ?_;refine gU (ι:=Nat×Gs) (fun j=>j.1≤f.subs.length∧BO w0.heap.size 1 (RV codes (f.subs.take j.1)).length ((RV codes (f.subs.take j.1)).map str) j.2) (fun j=>f.subs.length-j.1) (fun j=>[(1,str codes),(5,gV (RV codes (f.subs.take j.1)).length j.2),(9,.slice p2 f.subs.length c2),(10,i64 (f.subs.length:Int)),(11,i64 (j.1:Int))]) (fun j=>_) (fun j=>gH 9 ((RV codes (f.subs.take j.1)).map str) j.2) (0,none) ⟨dP _,rfl,rfl⟩ rT rfl rfl ?_;rintro⟨j,g⟩ ⟨hj,Z⟩;dsimp only at hj Z ⊢;have ad:=a5c codes (f.subs.take j);rw[bP,fB hj]at ad;refine AP ?_ ?_<;>intro a3 a6
 ·refine yU 5 ?_;have a4:j<f.subs.length:=oM;obtain⟨sb,W⟩:∃x,f.subs[j]?=some x:=⟨_,CX a4⟩;obtain⟨_,so,_,_,_,_,rfl,a7,ae⟩:=ac (BG a4);have N:=b7x (codes:=codes) W;refine BD (so+j*2) ?_;refine dK (CO isAgg176 sizeOf176 (fH a7) (CU a0K ae W)) ?_;refine yU 1 ?_;intro _ _;refine TW ?_ ?_<;>intro a0 a8
  ·have O:sel codes sb=true:=by unfold sel;rw[zH (IW a0)];rfl
   rw[zF O]at N;refine yU 14 ?_;intro b6 _;refine xap 15 [_,_] Z ?_;intro g7 af;refine yU 8 ?_;refine aV (aH (aH bT)) ?_;refine bJ (j+1,g7) ⟨dO,by dsimp only;rw[N,aA,aG];exact af⟩ dO ⟨rfl,by dsimp only;rw[N,aG];rfl,rfl,rfl,rfl,trivial⟩ rfl (by dsimp only;rw[N,aA];rfl)
  have a5:codes≠[]:=KL a0;refine BF (a1L _ _ _) ?_;refine AP ?_ ?_<;>intro a1 a9
  ·have O:sel codes sb=true:=by unfold sel;rw[zI a5,←a6p];exact a1
   rw[zF O]at N;refine yU 5 ?_;intro _ _;refine xap 15 [_,_] Z ?_;intro ag aa;refine yU 8 ?_;refine aV (aH (aH bT)) ?_;refine bJ (j+1,ag) ⟨dO,by dsimp only;rw[N,aA,aG];exact aa⟩ dO ⟨rfl,by dsimp only;rw[N,aG];rfl,rfl,rfl,rfl,trivial⟩ rfl (by dsimp only;rw[N,aA];rfl)
  have O:¬sel codes sb=true:=by unfold sel;rw[zI a5,←a6p];exact fun e=>dD (e.symm.trans a1)
  rw[zD O]at N;refine yU 7 ?_;refine aV (aH bT) ?_;refine bJ (j+1,g) ⟨dO,by dsimp only;rw[N,aB];exact Z⟩ dO ⟨rfl,by dsimp only;rw[N,aB];rfl,rfl,rfl,rfl,trivial⟩ rfl (by dsimp only;rw[N,aB])
 refine yU 6 ?_;have a2:f.subs.take j=f.subs:=aS oM;rw[a2]at Z ⊢;have ah:=XT f codes;refine Cj.perm (H':=gH _ _ _++[]) (.of_eq (aB _)) ?_;refine Cj.a3Q Z (fun _ _ hv=>?_);refine BF (a4W (RV codes f.subs) _ (by have:=a5c codes f.subs;omega) (by have e:Ke.join (RV codes f.subs)=XW f codes:=rfl;rw[e];omega) _ hv) ?_;refine zZ ?_;exact rT
theorem b8a f (hi:f.ind.length≤2000000) I:Pure aJ 148 [.agg (JU f).toArray] I (i64 ((dF f:Nat):Int)):=by
 refine bQ ?_;refine zT func148 fun w0 _=>?_;refine yU 3 ?_;intro _ _;refine TW ?_ ?_<;>intro Z a4
 ·have N:f.tag=[50,52,53]:=IW Z;refine TW ?_ ?_<;>intro a0 a5
  ·have a1:1<f.ind.length:=by have h:=FZ a0;omega
   obtain⟨c,O⟩:∃c,f.ind[1]?=some c:=⟨_,CX a1⟩;refine yU 2 ?_;refine J.zg (EO rfl rfl rfl DC oM O) ?_;refine TW ?_ ?_<;>intro a2 a6
   ·have a8:48≤c.toNat:=by have h:=FZ a2;omega
    refine yU 2 ?_;refine J.zg (EO rfl rfl rfl DC oM O) ?_;refine AP ?_ ?_<;>intro a3 a7
    ·have a9:c.toNat≤57:=by have h:=FZ a3;omega
     have W:gZ c=true:=by rw[Ix.QB];simp only[zG];omega
     refine yU 4 ?_;refine dK (EO rfl rfl rfl DC oM O) ?_;refine dK (a1I rfl rfl rfl (w8 oM)) ?_;refine yU 1 ?_;refine bW 28 (i64 ((c.toNat-48:Nat):Int)) rfl (zC i64 ((ND oM).trans oM)) ?_;refine BP ?_;rw[show dF f=fG f from zF N];rw[a1v O,zF W];exact rT
    have W:¬gZ c=true:=by rw[Ix.QB];have h:=LY a3;simp only[zG];omega
    refine BP ?_;rw[show dF f=fG f from zF N];rw[a1v O,zD W];exact rT
   have W:¬gZ c=true:=by rw[Ix.QB];have h:=LY a2;simp only[zG];omega
   refine BP ?_;rw[show dF f=fG f from zF N];rw[a1v O,zD W];exact rT
  have a1:¬1<f.ind.length:=by have h:=LY a0;omega
  refine BP ?_;rw[show dF f=fG f from zF N];rw[b8o a1];exact rT
 have N:¬f.tag=[50,52,53]:=KL Z;refine BP ?_;rw[show dF f=0 from zD N];exact rT
theorem b5D s I:Pure aJ 259 [str s] I (.bool (decide (s.length=4))):=by
 refine bQ ?_;refine zT func259 fun w0 _=>?_;refine yU 10 ?_;refine bW 5 (.bool (decide (s.length=4))) rfl (zC Value.bool (by rw[fA,beq_iff_eq,zG];omega)) ?_;refine zZ ?_;exact rT
theorem b0i(c:Nat) I:Pure aJ 257 [.int .i32 (c:Int)] I (.bool (Ix.WU c)):=by
 refine bQ ?_;refine zT func257 fun w0 _=>?_;refine TW ?_ ?_<;>intro N O
 ·refine zZ ?_;have e:Ix.WU c=true:=by unfold Ix.WU;have h:=FZ N;rw[zH (oM:c<48)];rfl
  rw[e];exact rT
 refine zZ ?_;refine⟨?_,rfl⟩;have h:=LY N;unfold Ix.WU;rw[zI (oM:¬c<48),Bool.false_or];exact zC (fun b=>Ending.returned (Value.bool b)) (decide_eq_decide.2 oM)
theorem a6E s (N:s.length≤4000000000) I:yZ aJ 256 [str s,.func (.func 257) #[] #[]] I [] (fun e I' H'=>∃v,e= .returned v∧FK 9 I' (dN s) v∧H'=[]):=by
 have hz:∀x:Nat,x≤1114111→∀W:World,Calls aJ 257 #[.int .i32 (x:Int)] W fun e w'=>e= .returned (.bool (Ix.WU x))∧RowKit.Below W.heap.size W w':=fun x _ W=>by
  have h:=(b0i x (fun _=>none)).2 W (by unfold Ready;exact⟨(fun b o hb=>by cases hb),(fun p O=>by cases O),List.Pairwise.nil,(fun p O=>by cases O)⟩);exact h.mono fun e w' ⟨I',H',N,h1,_⟩=>⟨h1,N.os,N.tape,N.output,N.size,fun k hk=>N.frm k hk sI⟩
 have Z:Lib.goFieldsP Ix.WU ⟨s.toArray⟩=(dN s).map fun x=>⟨x.toArray⟩:=Ix.fieldsD s;refine yZ.c0i (vals:=((dN s).map fun x=>(⟨x.toArray⟩:ByteArray)).map Value.string) (by rw[dY];rfl) (Enters.of func256 dE rfl) fun w=>?_;have h:=Tryz.strings_FieldsFunc_grows 257 #[] (enters_of func257 kR rfl) Ix.WU ⟨s.toArray⟩ w (by rw[size_mk];omega) (fun W x hx _=>hz x hx W);rw[Z,bU]at h;exact h
theorem a6y l v W g cap (hl:l.length≤100000000000000) I (hr:KU I l v)(a3:∀x∈l,Pure aJ g (str x::cap) I (.bool (W x))):Pure aJ 258 [v,.func (.func g) #[] cap.toArray] I (i64 (QO W l)):=by
 refine bQ ?_;obtain⟨p,c,rfl,_,hp⟩:=hr;refine zT func258 fun w0 _=>?_;refine yU 14 ?_;refine gU (ι:=Nat) (fun j=>j≤l.length∧∀x∈l.take j,W x=false) (fun j=>l.length-j) (fun j=>[(0,.slice p l.length c),(1,.func (.func g) #[] cap.toArray),(7,i64 (l.length:Int)),(8,i64 (j:Int))]) (fun j=>I) (fun j=>[]) 0 ⟨dP _,fun g hg=>by simp at hg⟩ rT rfl rfl ?_;rintro j ⟨_,N⟩;refine AP ?_ ?_<;>intro a4 a2
 ·have a1:j<l.length:=oM;obtain⟨x,O⟩:∃x,l[j]?=some x:=⟨_,CX a1⟩;obtain⟨_,fo,_,_,_,sp,rfl,a5,a6⟩:=hp (BG a1);refine BD (fo+j) ?_;refine dK (zN rfl rfl EK (fH a5) (a0u a6 O)) ?_;refine BF (a3 x (ET O)) ?_;refine FV ?_ ?_<;>intro Z
  ·have ht:W x=true:=Z;refine zZ ?_;rw[ZP N O ht];exact rT
  have a7:W x=false:=Z;refine yU 7 ?_;refine bJ (j+1) ⟨oM,QU N O a7⟩ oM rT rfl rfl
 have a0:l.take j=l:=aS oM;rw[a0]at N;refine zZ ?_;rw[UJ N];exact rT
theorem XR:∀(s w:List UInt8),(iT w s).length≤s.length+w.length
 |[],w=>by
  unfold iT
  split
  ·simp
  rename_i h;have:0<w.length:=gG.2 h;simp only[bG,bV];omega
 |c::r,w=>by
  unfold iT
  split
  ·have:=XR r (w++[c]);rw[aG]at this;simp only[bG,bV]at this ⊢;omega
  split
  ·have:=XR r [];simp only[bV,bG]at this ⊢;omega
  rename_i h
  have:=XR r [];have h2:0<w.length:=gG.2 h;simp only[bV,bG]at this ⊢;omega
theorem b2N s:(dN s).length≤s.length:=by
 have:=XR s [];exact this
theorem b5Z s (hs:s.length≤100000000) I:Pure aJ 215 [str s] I (.tuple #[str ((bY s).getD []),.bool (bY s).isSome]):=by
 refine bQ ?_;have a4:=b2N s;refine zT func215 fun w0 _=>?_;refine BH (a6E s oM _) ?_;intro _ _ _ _ a0;obtain⟨_,h,hl,rfl⟩:=a0;cases h;refine BF (a6y (dN s) _ four 259 [] oM _ (KU.of hl) (fun x _=>b5D x _)) ?_;refine AP ?_ ?_<;>intro Z N
 ·have O:bY s=none:=((LK four (dN s)).resolve_right (fun⟨k,x,h,_⟩=>by rw[h]at N;omega)).2;refine zZ ?_;rw[O];exact rT
 obtain⟨k,y,a1,W,O⟩:=(LK four (dN s)).resolve_left (fun h=>by rw[h.1]at N;omega);obtain⟨_,_,_,rfl,a2⟩:=hl.some (fun e=>by rw[e]at W;cases W);rw[a1];have a3:=(aF.1 W).1;refine BD k ?_;refine dK (zN rfl rfl EK (fH a2) (JW W)) ?_;refine zZ ?_;rw[show bY s=some y from O];exact rT
end Go.Proofs.YtekmeaoblpfnpaaGreatDoor
end
section
namespace Go.Proofs.YtekmeaoblpfnpaaGreatDoor
open _root_.Go.Proofs.Tryz
open Go Go.Sx
def OZ (u:List UInt8→List UInt8×Bool) (code:UInt8) (s:eF):Option (List UInt8):=if (u s.text).2=true∧s.code=code then some (u s.text).1 else none
def uy (s:List UInt8):List UInt8×Bool:=((bY s).getD [],(bY s).isSome)
theorem b8B:OZ uy 99=Ix.yr:=by
 funext s
 unfold OZ uy Ix.yr
 by_cases h:s.code=99
 ·rw[zF h];cases hy:bY s.text with
  |none=>simp
  |some y=>simp[h]
 rw[zD h,zD (fun g=>h g.2)]
theorem b9h{u code}{ss:List eF}{k s}(h:ss[k]?=some s):(ss.take (k+1)).filterMap (OZ u code)=(ss.take k).filterMap (OZ u code)++(if (u s.text).2=true∧s.code=code then[(u s.text).1]else[]):=by
 obtain⟨N,O⟩:=aF.1 h;rw[aN N,O,List.filterMap_append]
 by_cases hc:(u s.text).2=true∧s.code=code
 ·rw[zF hc];simp[OZ,hc]
 rw[zD hc];simp[OZ,hc]
theorem pre_eq{s p:List UInt8}(h:p.length≤s.length):p.isPrefixOf s=((s.take p.length).drop 0 == p):=by
 rw[iH,fA,dU,beq_iff_eq,List.prefix_iff_eq_take];exact⟨fun e=>e.symm,fun e=>e.symm⟩
theorem b9T{s p:List UInt8}(h:¬p.length≤s.length):p.isPrefixOf s=false:=by
 rw[Bool.eq_false_iff,Ne,dU];exact fun e=>h e.length_le
theorem KQ{T I l v}(h:FK T I l v):∃p c,v= .slice p l.length c:=by
 rcases h with⟨rfl,rfl⟩|⟨b,c,sp,rfl,_,_⟩
 ·exact⟨none,0,rfl⟩
 exact⟨_,c,rfl⟩
theorem a1b{I l a b w}(h:FK 9 I l w)(N:fJ a=true)(O:fJ b=true):[a,b,w].all fJ=true:=by
 obtain⟨p,c,rfl⟩:=KQ h;simp only[List.all_cons,List.all_nil,N,O,Bool.and_true,fZ];rfl
def UR (fs:List iR):Prop:=fs.length≤1000∧∀f∈fs,f.subs.length≤1000∧DX f.subs≤3000000∧f.ind.length≤2000000
abbrev VW:=Ix.V×Value
def XD (x:VW):List Value:=[str x.1.name,str x.1.key,x.2]
theorem VY x:(XD x).length=3:=rfl
def MP (I:Heap) (xs:List VW) (vs:List Ix.V):Prop:=xs.map (·.1)=vs∧∀x∈xs,FK 9 I x.1.ws x.2
theorem MP.mono{I N xs vs}(h:MP I xs vs)(O:Le I N):MP N xs vs:=⟨h.1,fun x W=>(h.2 x W).mono O⟩
theorem MP.len{I xs vs}(h:MP I xs vs):xs.length=vs.length:=by rw[←h.1,bU]
theorem MP.add{I xs vs}(h:MP I xs vs){v w}(N:FK 9 I v.ws w):MP I (xs++[(v,w)]) (vs++[v]):=
 ⟨by rw[aA,h.1];rfl,fun x O=>by
  rcases aQ.1 O with g|g
  ·exact h.2 x g
  rw[aP.1 g];exact N⟩
def PG (I:Heap) (vs:List Ix.V) (v:Value):Prop:=∃xs,NI 142 XD I xs v∧MP I xs vs
theorem PG.mono{I O vs v}(h:PG I vs v)(N:Le I O):PG O vs v:=let ⟨xs,h1,h2⟩:=h;⟨xs,h1.mono N,h2.mono N⟩
theorem a6v f (h:f.subs.length≤1000):(aC f).2.length≤1000:=by
 unfold aC
 repeat' split
 all_goals first
  |exact JK (eG _ _) h
  |simp
theorem b0n{p:eF→Option (List UInt8)}{ss:List eF}{s:List UInt8}{n:Nat}(N:∀x∈ss,∀y,p x=some y→y.length≤n)(h:s∈ss.filterMap p):s.length≤n:=by
 obtain⟨x,O,W⟩:=List.mem_filterMap.1 h;exact N x O s W
theorem a7J s:(Ke.YR s).1.length≤13:=by
 unfold Ke.YR Ke.b1w
 split
 ·simp only[aG,bP,bG,bV];omega
 split
 ·rename_i h;have:=h.1;dsimp only;omega
 simp
theorem b2D{s y}(h:bY s=some y):y.length=4:=by
 have h1:=List.find?_some h;exact FZ h1
theorem a0R{f s}(h:s∈(aC f).2):s.length≤DX f.subs+f.subs.length+13:=by
 have O:∀c:List UInt8,(aU f c).length≤DX f.subs+f.subs.length:=b1o f;unfold aC at h
 repeat' split at h
 all_goals first
  |(rw[aP]at h;rw[h];have:=O [97,98];have:=O [97];have:=O [97,120];omega)
  |(refine JK (b0n (n:=13) (fun x _ y N=>?_) h) oM;unfold Ke.isb at N;split at N;(cases N;exact a7J _);cases N)
  |(refine JK (b0n (n:=13) (fun x _ y N=>?_) h) oM;unfold Ix.yr at N;split at N;(have:=b2D N;omega);cases N)
  |cases h
theorem b2I f (h:f.subs.length≤1000):(eH f).length≤1001:=by
 have:=a6v f h;unfold eH;rw[aG,bU]
 split<;>simp<;>omega
theorem a5H fs (h:UR fs) j:(dG (fs.take j)).length≤j*1001:=by
 induction j with
 |zero=>simp[dG]
 |succ j O=>
  rcases dZ j fs.length with N|N
  ·rw[aN N];unfold dG at O ⊢;rw[aX,aG];have:=b2I fs[j] (h.2 _ (List.getElem_mem N)).1;simp only[gW,List.flatMap_nil,aB];omega
  rw[aS N]at O;rw[aS (show fs.length≤j+1 by omega)];exact JK O (Nat.mul_le_mul_right _ (Nat.le_succ j))
theorem a1Z{fs:List iR}{j f}(h:fs[j]?=some f):dG (fs.take (j+1))=dG (fs.take j)++eH f:=by
 obtain⟨N,O⟩:=aF.1 h;rw[aN N,O];unfold dG;rw[aX];simp
abbrev nv (f:iR) (s:List UInt8):Ix.V:=⟨(aC f).1,s,dF f⟩
theorem SQ{α β:Type}(g:α→β){l:List α}{k x}(h:l[k]?=some x):(l.take (k+1)).map g=(l.take k).map g++[g x]:=by
 obtain⟨N,O⟩:=aF.1 h;rw[aN N,O,aA];rfl
structure VA where
  j:Nat
  J:Heap
  xs:List VW
  g:Gs
theorem a6G s p (Z:p.length≤1000000) I:Pure aJ 216 [str s,str p] I (.bool (p.isPrefixOf s)):=by
 refine bQ ?_;refine zT func216 fun w0 _=>?_;refine TW ?_ ?_<;>intro N W
 ·have O:p.length≤s.length:=by have h:=FZ N;omega
  refine yU 3 ?_;refine J.zg (EH (p:=0) (q:=p.length) rfl rfl DC rfl ⟨_,rfl⟩ oM oM) ?_;refine zZ ?_;refine⟨?_,rfl⟩;rw[pre_eq O]
 have O:¬p.length≤s.length:=by have h:=LY N;omega
 refine zZ ?_;rw[b9T O];exact rT
theorem a1j s p (N:p.length≤1000000) I:Pure aJ 149 [str s,str p] I (.bool (p.isPrefixOf s)):=by
 refine bQ ?_;refine zT func149 fun w0 _=>?_;refine BF (a6G s p N _) ?_;refine zZ ?_;exact rT
theorem a2a f code g0 u (hn:f.subs.length≤2000000)(ad:DX f.subs≤3000000)(hu:∀s J,s.length≤100000000→Pure aJ g0 [str s] J (.tuple #[str (u s).1,.bool (u s).2])) I (hr:zU OI I f.subs f.sv):yZ aJ 214 [.agg (JU f).toArray,u8 code,.func (.func g0) #[] #[]] I []
 (fun e I' H'=>∃v,e= .returned v∧FK 9 I' (f.subs.filterMap (OZ u code)) v∧H'=[]):=by
 obtain⟨p2,c2,a8,a3,a9⟩:=hr;refine zT func214 fun w0 _=>?_;refine yU 3 ?_;intro _ _;refine yU 13 ?_;refine bW 13 (.slice p2 f.subs.length c2) rfl a8 ?_;refine yU 5 ?_;refine iJ (aH bI) ?_;refine gU (ι:=Nat×Gs) (fun j=>j.1≤f.subs.length∧BO w0.heap.size 1 ((f.subs.take j.1).filterMap (OZ u code)).length (((f.subs.take j.1).filterMap (OZ u code)).map str) j.2) (fun j=>f.subs.length-j.1) (fun j=>[(1,u8 code),(2,.func (.func g0) #[] #[]),(7,gV ((f.subs.take j.1).filterMap (OZ u code)).length j.2),(13,.slice p2 f.subs.length c2),(14,i64 (f.subs.length:Int)),(15,i64 (j.1:Int))]) (fun j=>_) (fun j=>gH 9 (((f.subs.take j.1).filterMap (OZ u code)).map str) j.2) (0,none) ⟨dP _,rfl,rfl⟩ rT rfl rfl ?_;rintro⟨j,g⟩ ⟨hj,W⟩;dsimp only at hj W ⊢;have aa:=eG (OZ u code) (f.subs.take j);rw[bP,fB hj]at aa;refine AP ?_ ?_<;>intro a3 a5
 ·refine yU 5 ?_;have a4:j<f.subs.length:=oM;obtain⟨sb,O⟩:∃x,f.subs[j]?=some x:=⟨_,CX a4⟩;obtain⟨_,so,_,_,_,_,rfl,a6,ab⟩:=a9 (BG a4);have ae:=b7p (ET O);have N:=b9h (u:=u) (code:=code) O;refine BD (so+j*2) ?_;refine dK (CO isAgg176 sizeOf176 (fH a6) (CU a0K ab O)) ?_;refine yU 1 ?_;intro _ _;refine BF (hu sb.text _ oM) ?_;refine TW ?_ ?_<;>intro Z a7
  ·have a0:sb.code=code:=UInt8.toNat_inj.1 (by have h:=IW Z;omega);refine FV ?_ ?_<;>intro a1
   ·rw[zF ⟨a1,a0⟩]at N;refine yU 4 ?_;intro b6 _;refine xap 15 [_,_] W ?_;intro g7 ac;refine yU 8 ?_;refine aV (aH (aH bT)) ?_;refine bJ (j+1,g7) ⟨dO,by dsimp only;rw[N,aA,aG];exact ac⟩ dO ⟨rfl,rfl,by dsimp only;rw[N,aG];rfl,rfl,rfl,rfl,trivial⟩ rfl (by dsimp only;rw[N,aA];rfl)
   rw[zD (fun g=>dD (g.1.symm.trans a1))]at N;refine yU 7 ?_;refine aV (aH bT) ?_;refine bJ (j+1,g) ⟨dO,by dsimp only;rw[N,aB];exact W⟩ dO ⟨rfl,rfl,by dsimp only;rw[N,aB];rfl,rfl,rfl,rfl,trivial⟩ rfl (by dsimp only;rw[N,aB])
  have a0:sb.code≠code:=fun e=>KL Z (by rw[e]);rw[zD (fun g=>a0 g.2)]at N;refine yU 12 ?_;refine aV (aH bT) ?_;refine bJ (j+1,g) ⟨dO,by dsimp only;rw[N,aB];exact W⟩ dO ⟨rfl,rfl,by dsimp only;rw[N,aB];rfl,rfl,rfl,rfl,trivial⟩ rfl (by dsimp only;rw[N,aB])
 refine yU 6 ?_;have a2:f.subs.take j=f.subs:=aS oM;rw[a2]at W ⊢;refine Cj.perm (H':=gH _ _ _++[]) (.of_eq (aB _)) ?_;refine Cj.a3Q W (fun _ _ hv=>?_);refine zZ ?_;exact⟨_,rfl,hv,rfl⟩
theorem named_ok f (Z:f.subs.length≤2000000)(W:DX f.subs≤3000000) I (O:zU OI I f.subs f.sv):yZ aJ 147 [.agg (JU f).toArray] I []
 (fun e I' H'=>∃v,e= .returned (.tuple #[str (aC f).1,v])∧FK 9 I' (aC f).2 v∧H'=[]):=by
 refine zT func147 fun w0 _=>?_;refine yU 3 ?_;intro _ _;refine AP ?_ ?_<;>intro b9 aj
 ·refine BF (NR f [97,98] Z W _ O) ?_;refine bW 10 (str (aU f [97,98])) rfl (zC str (PU (aY _ _))) ?_;refine yU 1 ?_;intro b4 ba;refine yU 7 ?_;have N:aC f=(Ix.a1c,[aU f [97,98]]):=by simp[aC, *]
  rw[N];refine bZ ba (fun _ al am=>?_);have O:=O.mono al;refine BP ?_;exact⟨_,rfl,.inr ⟨b4,1,[],rfl,aW _,am⟩,rfl⟩
 refine AP ?_ ?_<;>intro bb an
 ·refine BF (NR f [97,98] Z W _ O) ?_;refine bW 10 (str (aU f [97,98])) rfl (zC str (PU (aY _ _))) ?_;refine yU 1 ?_;intro b8 bc;refine yU 7 ?_;have N:aC f=(Ix.a1c,[aU f [97,98]]):=by simp[aC, *]
  rw[N];refine bZ bc (fun _ ao ap=>?_);have O:=O.mono ao;refine BP ?_;exact⟨_,rfl,.inr ⟨b8,1,[],rfl,aW _,ap⟩,rfl⟩
 refine AP ?_ ?_<;>intro aq a0
 ·refine BF (NR f [97] Z W _ O) ?_;refine bW 17 (str (aU f [97])) rfl (zC str (PU (aY _ _))) ?_;refine yU 1 ?_;intro bd ar;refine yU 7 ?_;have N:aC f=(iF,[aU f [97]]):=by simp[aC, *]
  rw[N];refine bZ ar (fun _ a1 a2=>?_);have O:=O.mono a1;refine BP ?_;exact⟨_,rfl,.inr ⟨bd,1,[],rfl,aW _,a2⟩,rfl⟩
 refine AP ?_ ?_<;>intro au a3
 ·refine BF (NR f [97] Z W _ O) ?_;refine bW 17 (str (aU f [97])) rfl (zC str (PU (aY _ _))) ?_;refine yU 1 ?_;intro be av;refine yU 7 ?_;have N:aC f=(iF,[aU f [97]]):=by simp[aC, *]
  rw[N];refine bZ av (fun _ a4 a5=>?_);have O:=O.mono a4;refine BP ?_;exact⟨_,rfl,.inr ⟨be,1,[],rfl,aW _,a5⟩,rfl⟩
 refine AP ?_ ?_<;>intro aw a6
 ·refine BF (NR f [97] Z W _ O) ?_;refine bW 17 (str (aU f [97])) rfl (zC str (PU (aY _ _))) ?_;refine yU 1 ?_;intro bf ax;refine yU 7 ?_;have N:aC f=(iF,[aU f [97]]):=by simp[aC, *]
  rw[N];refine bZ ax (fun _ a7 a8=>?_);have O:=O.mono a7;refine BP ?_;exact⟨_,rfl,.inr ⟨bf,1,[],rfl,aW _,a8⟩,rfl⟩
 refine AP ?_ ?_<;>intro ay a9
 ·refine BF (NR f [97,120] Z W _ O) ?_;refine bW 23 (str (aU f [97,120])) rfl (zC str (PU (aY _ _))) ?_;refine yU 1 ?_;intro bg az;refine yU 7 ?_;have N:aC f=(Ix.a3v,[aU f [97,120]]):=by simp[aC, *]
  rw[N];refine bZ az (fun _ aa ab=>?_);have O:=O.mono aa;refine BP ?_;exact⟨_,rfl,.inr ⟨bg,1,[],rfl,aW _,ab⟩,rfl⟩
 refine AP ?_ ?_<;>intro b0 ac
 ·refine BF (NR f [97,120] Z W _ O) ?_;refine bW 23 (str (aU f [97,120])) rfl (zC str (PU (aY _ _))) ?_;refine yU 1 ?_;intro bh b1;refine yU 7 ?_;have N:aC f=(Ix.a3v,[aU f [97,120]]):=by simp[aC, *]
  rw[N];refine bZ b1 (fun _ ad ae=>?_);have O:=O.mono ad;refine BP ?_;exact⟨_,rfl,.inr ⟨bh,1,[],rfl,aW _,ae⟩,rfl⟩
 refine AP ?_ ?_<;>intro b2 af
 ·refine BH (a2a f 97 137 Ke.YR Z W (fun s J h=>b1h s h J) _ O) ?_;intro _ _ _ ag b3;have O:=O.mono ag;obtain⟨vl,h,hv,rfl⟩:=b3;cases h;refine yU 7 ?_;have N:aC f=(Ix.a0a,f.subs.filterMap Ke.isb):=by simp[aC, *]
  rw[N];refine BP ?_;exact⟨_,rfl,hv,rfl⟩
 refine AP ?_ ?_<;>intro hc40 ah
 ·refine BH (a2a f 99 215 uy Z W (fun s J h=>b5Z s h J) _ O) ?_;intro _ _ _ ai hp45;have O:=O.mono ai;obtain⟨vl,h,hv,rfl⟩:=hp45;cases h;refine yU 7 ?_;have N:aC f=(Ix.b7A,f.subs.filterMap Ix.yr):=by simp[aC, *]
  rw[N];refine BP ?_;rw[←b8B];exact⟨_,rfl,hv,rfl⟩
 refine yU 10 ?_;have N:aC f=([],[]):=by simp[aC, *]
 rw[N];refine BP ?_;exact⟨_,rfl,.inl rT,rfl⟩
theorem a2T fs v rk rl (aa:UR fs) I (ah:PN I fs v):yZ aJ 95 [a7Y rk rl v] I []
 (fun e I' H'=>∃w,e= .returned w∧PG I' (dG fs) w∧H'=[]):=by
 have bb:=aa.1;obtain⟨p,c,rfl,_,-⟩:=id ah.1;refine zT func95 fun w0 _=>?_;refine yU 3 ?_;intro _ _;refine yU 18 ?_;refine iJ (aH bI) ?_;refine gU (ι:=VA) (fun y=>y.j≤fs.length∧Le I y.J∧MP y.J y.xs (dG (fs.take y.j))∧BO w0.heap.size 3 y.xs.length (y.xs.flatMap XD) y.g) (fun y=>fs.length-y.j) (fun y=>[(3,gV y.xs.length y.g),(12,.slice p fs.length c),(13,i64 (fs.length:Int)),(14,i64 (y.j:Int))]) (fun y=>y.J) (fun y=>gH 142 (y.xs.flatMap XD) y.g) ⟨0,_,[],none⟩ ⟨dP _,iI _,⟨rfl,fun x hx=>by cases hx⟩,rfl,rfl⟩ rT rfl rfl ?_;rintro⟨j,_,xs,g⟩ ⟨hj,W,O,hg⟩;dsimp only at hj W O hg ⊢;have hr:=ah.mono W;have ai:=O.len;have bc:=a5H fs aa j;refine AP ?_ ?_<;>intro ay an
 ·have aj:j<fs.length:=oM;obtain⟨f,a4⟩:∃f,fs[j]?=some f:=⟨_,CX aj⟩;have al:=ET a4;obtain⟨az,am,b0⟩:=aa.2 f al;obtain⟨⟨_,c1,b1,_,hp⟩,ab⟩:=id hr;cases b1;obtain⟨fb,fo,_,_,_,sp,rfl,a2,b2⟩:=hp (BG aj);have a0:=ab f al;clear ab;obtain⟨_,_,hsv,-,-⟩:=id a0;have bd:=a6v f az;have ao:=XT f [];rw[YE]at ao;refine BD (fo+j*4) ?_;refine dK (CO isAgg108 UZ (fH a2) (CU a3u b2 a4)) ?_;refine yU 1 ?_;intro b3 _;refine gI rfl (BN 0 rfl rfl rfl rfl rfl (b5T hsv) UZ rfl rfl lsA bD ?_);refine BH (named_ok f oM am _ a0) ?_;intro _ I5 _ a5 b4;have hr:=hr.mono a5;have O:=O.mono a5;have W:=W.mono a5;have a2:=a5 _ _ a2;have a0:=a0.mono a5;obtain⟨_,h,a3,rfl⟩:=b4;cases h;obtain⟨lp,lc,rfl⟩:=KQ a3;refine yU 16 ?_;refine iJ (aT bT) ?_;refine gU (ι:=VA) (fun y=>y.j≤(aC f).2.length∧Le I5 y.J∧MP y.J y.xs (dG (fs.take j)++((aC f).2.take y.j).map (nv f))∧BO w0.heap.size 3 y.xs.length (y.xs.flatMap XD) y.g) (fun y=>(aC f).2.length-y.j) (fun y=>[(3,gV y.xs.length y.g),(5,ptr b3 0),(6,str (aC f).1),(12,.slice (some ⟨fb,fo,none⟩) fs.length c),(13,i64 (fs.length:Int)),(14,i64 (j:Int)),(23,.slice lp (aC f).2.length lc),(24,i64 ((aC f).2.length:Int)),(25,i64 (y.j:Int))]) (fun y=>y.J) (fun y=>(b3,zJ 108 (JU f))::gH 142 (y.xs.flatMap XD) y.g) ⟨0,_,xs,g⟩ ⟨dP _,iI _,by dsimp only;rw[List.take_zero,iQ,aB];exact O,hg⟩ rT rfl rfl ?_;rintro⟨q,_,xs,g⟩ ⟨hq,a1,O,hg⟩;dsimp only at hq a1 O hg ⊢;have W:=W.mono a1;have hr:=hr.mono a1;have a0:=a0.mono a1;have a3:=a3.mono a1;have a2:=a1 _ _ a2;have ai:=O.len;rw[aG,bU,bP,fB hq]at ai;refine AP ?_ ?_<;>intro b8 ap
  ·have ac:q<(aC f).2.length:=oM;obtain⟨s,a7⟩:∃s,(aC f).2[q]?=some s:=⟨_,CX ac⟩;have be:=a0R (ET a7);obtain⟨_,_,_,aq,ad⟩:=a3.some (BG ac);cases aq;refine BD q ?_;refine dK (zN rfl rfl EK (fH ad) (JW a7)) ?_;refine BF (b8a f b0 _) ?_;refine BF (ZN s ((dF f:Nat):Int) oM _) ?_;refine BH (PO s oM _) ?_;intro _ _ _ N ar;have hr:=hr.mono N;have O:=O.mono N;have a0:=a0.mono N;have a3:=a3.mono N;have a2:=N _ _ a2;have W:=W.mono N;have a1:=a1.mono N;have ad:=N _ _ ad;obtain⟨_,h,ae,rfl⟩:=ar;cases h;obtain⟨_,_,rfl⟩:=KQ ae;refine dK (zS (pl:= #[(0,1),(1,1),(2,1)]) rfl rfl a2p rfl XL (fun w=>by simp[YQ,CG]) (dS rfl rfl rfl lsA (dS rfl rfl rfl lsA (dS rfl rfl rfl lsA zL.none)))) ?_;refine gI rfl (zX rfl rfl rfl a2w RI a2p rfl rfl rfl rfl lcA ?_);intro _ _;refine gI rfl (CV (by':=55) [_,_] rfl rfl rfl rfl rfl a2w (.inr ⟨_,a2w⟩) kR RI a2p rfl hg rfl (Src.slice (yY.at 0 rfl) rfl rfl (a1b ae rfl rfl)) oM ?_);intro b9 au;refine yU 8 ?_;refine aV (aH (aT bT)) ?_;refine bJ ⟨q+1,_,xs++[(nv f s,_)],b9⟩ ⟨dO,a1,by dsimp only;rw[SQ (nv f) a7,←gX];exact O.add ae,by dsimp only;rw[aG,aX];exact au⟩ dO ⟨by dsimp only;rw[aG];rfl,rfl,rfl,rfl,rfl,rfl,rfl,rfl,rfl,trivial⟩ rfl (by dsimp only;rw[aX];rfl)
  rw[aS (oM:(aC f).2.length≤q)]at O;refine BF (a1j f.tag [48,48] dE _) ?_;refine TV ?_ ?_<;>intro a8
  ·refine BF (a1j f.tag [57] dE _) ?_;refine FV ?_ ?_<;>intro a9
   ·have a6:eP f=true:=by unfold eP;rw[dB];exact⟨a8,a9⟩
    refine BF (NR f [] oM am _ a0) ?_;refine bW 52 (str (dJ f)) rfl (zC str (YE f)) ?_;refine BF (ZN (dJ f) 0 oM _) ?_;refine BH (PO (dJ f) oM _) ?_;intro _ _ _ Z av;have hr:=hr.mono Z;have O:=O.mono Z;have a0:=a0.mono Z;have a3:=a3.mono Z;have a2:=Z _ _ a2;have W:=W.mono Z;have a1:=a1.mono Z;obtain⟨_,h,af,rfl⟩:=av;cases h;obtain⟨_,_,rfl⟩:=KQ af;refine dK (zS (pl:= #[(0,1),(1,1),(2,1)]) rfl rfl a2p rfl XL (fun w=>by simp[YQ,CG]) (dS rfl rfl rfl lsA (dS rfl rfl rfl lsA (dS rfl rfl rfl lsA zL.none)))) ?_;refine gI rfl (zX rfl rfl rfl a2w RI a2p rfl rfl rfl rfl lcA ?_);intro _ _;refine gI rfl (CV (by':=55) [_,_] rfl rfl rfl rfl rfl a2w (.inr ⟨_,a2w⟩) kR RI a2p rfl hg rfl (Src.slice (yY.at 0 rfl) rfl rfl (a1b af rfl rfl)) oM ?_);intro ba aw;refine yU 8 ?_;refine aV (aH (aH bT)) ?_;refine bJ ⟨j+1,_,xs++[(⟨Ix.b9S,dJ f,0⟩,_)],ba⟩ ⟨dO,W,by dsimp only;rw[a1Z a4];unfold eH;rw[zF a6,←gX];exact O.add af,by dsimp only;rw[aG,aX];exact aw⟩ dO ⟨by dsimp only;rw[aG];rfl,rfl,rfl,rfl,trivial⟩ rfl (by dsimp only;rw[aX];rfl)
   have a6:¬eP f=true:=by unfold eP;rw[dB];exact fun e=>dD (e.2.symm.trans a9)
   refine yU 7 ?_;refine aV (aH bT) ?_;refine bJ ⟨j+1,_,xs,g⟩ ⟨dO,W,by dsimp only;rw[a1Z a4];unfold eH;rw[zD a6,aB];exact O,by dsimp only;exact hg⟩ dO rT rfl rfl
  have a6:¬eP f=true:=by unfold eP;rw[dB];exact fun e=>dD (e.1.symm.trans a8)
  refine yU 15 ?_;refine aV (aH bT) ?_;refine bJ ⟨j+1,_,xs,g⟩ ⟨dO,W,by dsimp only;rw[a1Z a4];unfold eH;rw[zD a6,aB];exact O,by dsimp only;exact hg⟩ dO rT rfl rfl
 refine yU 6 ?_;have ag:fs.take j=fs:=aS oM;rw[ag]at O;refine Cj.perm (H':=gH _ _ _++[]) (.of_eq (aB _)) ?_;refine Cj.c0B VY dE hg rfl (fun _ ax hv=>?_);have O:=O.mono ax;refine zZ ?_;exact⟨_,rfl,⟨xs,hv,O⟩,rfl⟩
end Go.Proofs.YtekmeaoblpfnpaaGreatDoor
end
namespace Go.Sx
open Go
section
variable {α β:Type}
variable {cx:Cx} {Q:Qt} {en:Env} {f:β→List Value} {sz:Nat} {T:TypeId} {R:HL} {c:Code}
end
section
variable {α β:Type} [BEq α] [LawfulBEq α]
abbrev kvp (p:α×Value×Nat):α×Value:=(p.1,p.2.1)
def a1k (l:List (α×Value)) (a:α):Option Value:=match l with
 |[]=>none
 |(b,v)::r=>if a == b then some v else a1k r a
def a1C (l:List (α×Value)) (a:α) (v:Value):List (α×Value):=match l with
 |[]=>[(a,v)]
 |(b,u)::r=>if a == b then(b,v)::r else(b,u)::a1C r a v
omit [LawfulBEq α] in
theorem a8z a:∀l:ML α,zY l a=a1k (l.map kvp) a
 |[]=>rfl
 |(b,v,n)::r=>by simp only[zY,aK,a1k,a8z a r]
omit [LawfulBEq α] in
theorem a8p a v c:∀l:ML α,(AQ l a v c).map kvp=a1C (l.map kvp) a v
 |[]=>rfl
 |(b,u,n)::r=>by
  simp only[AQ,aK,a1C]
  split
  ·rfl
  rw[aK,a8p a v c r]
theorem b1f{a u v B}:∀{A:List (α×Value)},a ∉ A.map (·.1)→a1C (A++(a,u)::B) a v=A++(a,v)::B∧a1k (A++(a,u)::B) a=some u
 |[],_=>by simp[a1C,a1k]
 |(b,w)::A,h=>by
  rw[aK,bF,not_or]at h;obtain⟨h1,h2⟩:=b1f (u:=u) (v:=v) (B:=B) h.2;have N:(a == b)=false:=by simpa using h.1
  simp only[iC,a1C,a1k,N,aO,if_false,h1,h2,and_self]
theorem a7q{a v}:∀{A:List (α×Value)},a ∉ A.map (·.1)→a1C A a v=A++[(a,v)]∧a1k A a=none
 |[],_=>rT
 |(b,w)::A,h=>by
  rw[aK,bF,not_or]at h;obtain⟨h1,h2⟩:=a7q (v:=v) h.2;have N:(a == b)=false:=by simpa using h.1
  simp only[iC,a1C,a1k,N,aO,if_false,h1,h2,and_self]
variable {cx:Cx} {Q:Qt} {e:Env} {I:Heap} {H H':HL}
theorem JA.perm{l W A Z z O N}(hs:H'.Perm H)(k:JA cx Q l W A Z z O N e I H'):JA cx Q l W A Z z O N e I H:=fun a w ha h1=>k a w ha (h1.perm hs)
end
section
variable {α β:Type} [BEq α] [LawfulBEq α] [BEq β] [LawfulBEq β]
abbrev MR (α β:Type):=List (α×Nat×ML β×Nat)
abbrev nvp (e:α×Nat×ML β×Nat):α×Value:=(e.1,.map (some e.2.1))
def RN (kv:β→Value) (N:MR α β):HL:=N.map fun e=>(e.2.1,zV kv e.2.2.1 e.2.2.2)
omit [BEq α] [LawfulBEq α] [BEq β] [LawfulBEq β] in
theorem a1a kv (A B:MR α β):RN kv (A++B)=RN kv A++RN kv B:=by unfold RN;rw[aA]
omit [BEq α] [LawfulBEq α] [BEq β] [LawfulBEq β] in
theorem b3m kv (A B:MR α β)(a:α)(b:Nat) m c:((b,zV kv m c)::RN kv (A++B)).Perm (RN kv (A++(a,b,m,c)::B)):=by
 rw[a1a,a1a];exact(List.perm_middle).symm
def cv (n:Nat):Option Value:=if n=0 then none else some (i64 (n:Int))
def bump (f:α→β→Nat) (a:α) (b:β) (d:Nat→Nat) (x:α) (y:β):Nat:=if x == a && y == b then d (f x y)else f x y
structure BL (l:ML α) (c:Nat) (N:MR α β) (f:α→β→Nat):Prop where
  ms:MS l c
  vals:l.map kvp=N.map nvp
  inn:∀e∈N,MS e.2.2.1 e.2.2.2∧e.2.2.1≠[]∧∀t,zY e.2.2.1 t=cv (f e.1 t)
  out:∀a,a ∉ N.map (·.1)→∀t,f a t=0
omit [BEq α] [LawfulBEq α] [LawfulBEq β] in
theorem BL.nil:BL ([]:ML α) 0 ([]:MR α β) (fun _ _=>0):=⟨MS.nil,rfl,fun _ h=>(by cases h),fun _ _ _=>rfl⟩
omit [BEq α] [LawfulBEq α] [BEq β] [LawfulBEq β] in
theorem a3w(N:MR α β):(N.map nvp).map (·.1)=N.map (·.1):=by rw[dY];rfl
omit [BEq α] [LawfulBEq α] [LawfulBEq β] in
theorem BL.keys{l:ML α}{c:Nat}{N:MR α β}{f:α→β→Nat}(h:BL l c N f):l.map (·.1)=N.map (·.1):=by
 rw[←a3w N,←h.vals,dY];rfl
omit [BEq α] [LawfulBEq α] [LawfulBEq β] in
theorem BL.nodup{l:ML α}{c:Nat}{N:MR α β}{f:α→β→Nat}(h:BL l c N f):(N.map (·.1)).Nodup:=h.keys▸h.ms.1
omit [LawfulBEq β] in
theorem BL.find{l:ML α}{c:Nat}{N:MR α β}{f:α→β→Nat}(h:BL l c N f)(a:α):
 (a ∉ N.map (·.1)∧zY l a=none∧∀t,f a t=0)∨∃A b m k B,N=A++(a,b,m,k)::B∧zY l a=some (.map (some b))∧MS m k∧m≠[]∧(∀t,zY m t=cv (f a t))∧a ∉ A.map (·.1)∧a ∉ B.map (·.1):=by
 by_cases ha:a∈N.map (·.1)
 ·obtain⟨⟨W,b,m,k⟩,Z,rfl⟩:=eU.1 ha;obtain⟨A,B,rfl⟩:=List.append_of_mem Z;have O:=h.nodup;rw[aA,aK,dV,fC]at O;have h1:W ∉ A.map (·.1):=fun g=>O.2.2 _ g _ (.head _) rfl;have h2:zY l W=some (.map (some b)):=by
   rw[a8z,h.vals,aA,aK];exact(b1f (v:= .map none) (by rw[a3w];exact h1)).2
  obtain⟨h3,h4,h5⟩:=h.inn _ Z;exact .inr ⟨A,b,m,k,B,rfl,h2,h3,h4,h5,h1,O.2.1.1⟩
 refine .inl ⟨ha,?_,h.out a ha⟩;rw[GK,h.keys];exact ha
theorem BL.set{l c}{A B:MR α β}{f}{a:α}{b k Z:Nat}{m O:ML β}{t:β}{d:Nat→Nat}(h:BL l c (A++(a,b,m,k)::B) f)
 (h1:MS O Z)(h2:O≠[])(h3:∀s,zY O s=if s == t then cv (d (f a t))else zY m s):BL l c (A++(a,b,O,Z)::B) (bump f a t d):=by
 have hn:=h.nodup;rw[aA,aK,dV,fC]at hn;have hA:∀e∈A++B,e.1≠a:=by
  intro e N g;rcases aQ.1 N with N|N
  ·exact hn.2.2 _ (dM N) _ (.head _) g
  exact hn.2.1.1 (eU.2 ⟨e,N,g⟩)
 refine⟨h.ms,?_,fun e N=>?_,fun x hx s=>?_⟩
 ·rw[h.vals];simp
 ·have W:e∈A++B∨e=(a,b,O,Z):=by
   rcases aQ.1 N with N|N
   ·exact .inl (dL _ N)
   rcases bF.1 N with N|N
   ·exact .inr N
   exact .inl (dH _ N)
  rcases W with N|rfl
  ·obtain⟨g1,g2,g3⟩:=h.inn e (by rcases aQ.1 N with N|N;exact dL _ N;exact dH _ (.tail _ N));refine⟨g1,g2,fun s=>?_⟩;have:(e.1 == a)=false:=by simpa using hA e N
   rw[g3];unfold bump;rw[this];rfl
  refine⟨h1,h2,fun s=>?_⟩;dsimp only;rw[h3];obtain⟨_,_,g3⟩:=h.inn (a,b,m,k) sI;unfold bump
  by_cases hs:(s == t)=true
  ·have:=zB hs;subst this;simp
  simp only[hs,if_false,beq_self_eq_true,fZ,aO];exact g3 s
 have a0:x ∉ (A++(a,b,m,k)::B).map (·.1):=by simpa using hx
 have a1:(x == a)=false:=by
  have:x≠a:=fun g=>hx (by rw[g];simp);simpa using this
 unfold bump;rw[a1];exact h.out x a0 s
theorem BL.add{l c N f}{a:α}{b k':Nat}{W}{t:β}{d:Nat→Nat}(h:BL l c N f)(Z:a ∉ N.map (·.1))
 (h1:MS W k')(h2:W≠[])(h3:∀s,zY W s=if s == t then cv (d 0)else none):BL (AQ l a (.map (some b)) c) (DJ l a c) (N++[(a,b,W,k')]) (bump f a t d):=by
 refine⟨h.ms.set a _,?_,fun e O=>?_,fun x hx s=>?_⟩
 ·rw[a8p,h.vals,(a7q (by rw[a3w];exact Z)).1,aA];rfl
 ·rcases aQ.1 O with O|O
  ·obtain⟨g1,g2,g3⟩:=h.inn e O;refine⟨g1,g2,fun s=>?_⟩;have:(e.1 == a)=false:=by
    have:e.1≠a:=fun g=>Z (g▸dM O);simpa using this
   rw[g3];unfold bump;rw[this];rfl
  rw[aP.1 O];refine⟨h1,h2,fun s=>?_⟩;dsimp only;rw[h3,←h.out a Z t];unfold bump
  by_cases hs:(s == t)=true
  ·have:=zB hs;subst this;simp
  simp only[hs,if_false,beq_self_eq_true,fZ,aO];rw[h.out a Z s];rfl
 rw[aA,aQ,not_or]at hx;have a0:(x == a)=false:=by
  have:x≠a:=by simpa using hx.2
  simpa using this
 unfold bump;rw[a0];exact h.out x hx.1 s
theorem BL.drop{l c}{A B:MR α β}{f}{a:α}{b k:Nat}{m:ML β}{t:β}{d:Nat→Nat}(h:BL l c (A++(a,b,m,k)::B) f)
 (h1:∀s,s≠t→f a s=0)(h2:d (f a t)=0):BL (EN l a) c (A++B) (bump f a t d):=by
 have O:=h.nodup;rw[aA,aK,dV,fC]at O;have Z:∀e∈A++B,e.1≠a:=by
  intro e N g;rcases aQ.1 N with N|N
  ·exact O.2.2 _ (dM N) _ (.head _) g
  exact O.2.1.1 (eU.2 ⟨e,N,g⟩)
 refine⟨h.ms.del a,?_,fun e N=>?_,fun x W s=>?_⟩
 ·have h3:(EN l a).map kvp=(l.map kvp).filter fun p=> !(p.1 == a):=by
   rw[KH h.ms.1,List.filter_map];rfl
  rw[h3,h.vals,aA,aK,dR,eY sI,←dR,←aA];rw[gB.2];intro p hp;obtain⟨e,N,rfl⟩:=eU.1 hp;have:=Z e N;simpa using this
 ·obtain⟨g1,g2,g3⟩:=h.inn e (by rcases aQ.1 N with N|N;exact dL _ N;exact dH _ (.tail _ N));refine⟨g1,g2,fun s=>?_⟩;have:(e.1 == a)=false:=by simpa using Z e N
  rw[g3];unfold bump;rw[this];rfl
 unfold bump
 by_cases hxa:x=a
 ·subst hxa
  by_cases hs:s=t
  ·subst hs;simp[h2]
  have:(s == t)=false:=by simpa using hs
  simp only[this,Bool.and_false,aO,if_false];exact h1 s hs
 have a0:(x == a)=false:=by simpa using hxa
 rw[a0];refine h.out x ?_ s;rw[aA,aK,aQ,bF,not_or,not_or];rw[aA,aQ,not_or]at W;exact⟨W.1,hxa,W.2⟩
theorem b2S{m}{g:β→Nat}(O:∀s,zY m s=cv (g s)) t (n:Nat)(N:n≠0) k:∀s,zY (AQ m t (i64 (n:Int)) k) s=if s == t then cv n else zY m s:=by
 intro s;rw[MZ];unfold cv;rw[zD N]
omit [LawfulBEq β] in
theorem b4D{m}{g:β→Nat}(N:∀s,zY m s=cv (g s)) t:(zY m t).getD (i64 0)=i64 (g t:Int):=by
 rw[N];unfold cv
 split
 ·rename_i h;rw[h];rfl
 rfl
end
section
variable {P:Program} {K i:TypeId} {f0 f1:Field}
theorem a5y{b t}(N:P.underlying t=some .string) a d w:(iK b (d+1) t (str a)).run P w= .ok () w:=by simp[iK,run_underlying N]
theorem a5p{t}(N:P.underlying t=some .string) a b d w:(Op.equalIn (d+1) t (str a) (str b)).run P w= .ok (a == b) w:=by
 have h:((⟨a.toArray⟩:ByteArray) == ⟨b.toArray⟩)=(a == b):=by
  show(a.toArray == b.toArray)=(a == b);simp
 simp[Op.equalIn,run_underlying N,str,h]
theorem CZ.c0k(Z:P.underlying K=some (.struct #[f0,f1]))(hp:P.stoodInHeld K=false)(n0:f0.name≠ "_")(n1:f1.name≠ "_")(o0:f0.offset=0)(o1:f1.offset=1)(t0:f0.type=i)(N:f1.type=i)(O:P.underlying i=some .string)(W:∀w,(isAgg i).run P w= .ok false w):
 CZ P K (fun a:List UInt8×List UInt8=> .agg #[str a.1,str a.2]):=by
 subst t0;refine CZ.equal Z (fun a b=>rfl) (fun a b w=>?_) (fun b a w=>?_) (fun a=>?_)
 ·have h:=YZ Z hp n0 n1 o0 o1 W (N▸W) (x0:=str a.1) (x1:=str a.2) (y0:=str b.1) (y1:=str b.2) w (fun d w=>a5p O a.1 b.1 d w) (fun d w=>a5p (N▸O) a.2 b.2 d w) 9998;exact h
 ·exact a2N Z n0 n1 o0 o1 W (N▸W) b w (fun d w=>a5y O _ d w) (fun d w=>a5y (N▸O) _ d w) 9998
 show iL (9999+1) _ _=true;have h:=fun x n=>a1H x n;simp[iL,h]
end
section
variable {α:Type} [BEq α] [LawfulBEq α]
def MV (l:ML α) (a:α) (c:Nat):Nat:=match l with
 |[]=>c
 |(b,_,n)::r=>if a == b then n else MV r a c
omit [LawfulBEq α] in
theorem a3l{l}{a:α}{c:Nat}(h:zY l a=none):MV l a c=c:=by
 induction l with
 |nil=>rfl
 |cons p r O=>
  obtain⟨b,u,n⟩:=p;unfold zY at h;unfold MV
  split at h
  ·cases h
  rename_i N
  rw[zD N];exact O h
theorem a3E{a v}:∀(l:ML α) (c i:Nat),zY l a=some v→∃j,midx l a i=some (i+j,v)∧l[j]?=some (a,v,MV l a c)∧∀x N,AQ l a x N=l.set j (a,x,MV l a c)
 |[],_,_,h=>by cases h
 |(b,u,n)::r,c,i,h=>by
  unfold zY at h
  split at h
  ·rename_i he
   have W:=zB he;subst W;cases h;exact⟨0,by simp[midx],by simp[MV],fun x N=>by simp[AQ,MV]⟩
  rename_i Z
  have O:(a == b)=false:=by simpa using Z
  obtain⟨j,h1,h2,h3⟩:=a3E r c (i+1) h;refine⟨j+1,?_,?_,fun x N=>by simp[AQ,MV,O,h3]⟩
  ·simp only[midx,O,aO,if_false];rw[h1,Nat.add_assoc,Nat.add_comm 1 j]
  simp only[List.getElem?_cons_succ,MV,O,aO,if_false];exact h2
variable {cx:Cx} {Q:Qt} {e:Env} {I:Heap} {H:HL} {o:Oper} {C:Ct} {S:World→Prop}
theorem a9j{P:Program}{T K E b c:Nat}{kv:α→Value}{l:ML α}{a:α}{z:Value}{w:World}(hT:P.underlying T=some (.map K E))(hk:CZ P K kv)(hz:∀w,(zeroValue E).run P w= .ok z w)(hb:w.heap[b]?=some (zV kv l c)):
 (fK T (.map (some b)) (kv a)).run P w= .ok (.tuple #[(zY l a).getD z,i64 (MV l a c:Int)]) (bC w b (zV kv (AQ l a ((zY l a).getD z) c) (DJ l a c))):=by
 obtain⟨hf,hc,N⟩:=hk;have hg:(getObj b).run P w= .ok (zV kv l c) w:=by simp[getObj,iM,hb,zV]
 have hset:∀o',(setObj b o').run P w= .ok () (bC w b o'):=fun o'=>by simp[setObj,iM,hb,bC,zV]
 cases hm:zY l a with
 |none=>
  obtain⟨h1,h2⟩:=PZ l 0 hm;have h3:(iP K (kv a) (l.map (FX kv))).run P w= .ok none w:=by rw[hf,h1]
  simp only[fK,gJ,run_underlying hT,dW,hg,zV,hc,h3,hz,hset,h2,DJ,hm,a3l hm];simp[goInt]
 |some u=>
  obtain⟨j,h1,h2,h3⟩:=a3E l c 0 hm;rw[Nat.zero_add]at h1;have h4:(iP K (kv a) (l.map (FX kv))).run P w= .ok (some (j,u)) w:=by rw[hf,h1]
  have hj:(l.map (FX kv)).toArray[j]?=some { key:=kv a,val:=u,born:=MV l a c }:=by simp[h2,FX]
  have O:∀w,(gK (kv a) (kv a)).run P w= .ok (kv a) w:=fun w=>by simp[gK,N]
  simp only[fK,gJ,run_underlying hT,dW,hg,zV,hc,h4,hj,Option.map_some,Option.getD_some,O,hset,h3,DJ,hm,Option.isSome_some,if_true,goInt,Sem.run_pure];refine zC (fun A=>Result.ok (Value.tuple #[u,Value.int .i64 (MV l a c:Int)]) (bC w b (Obj.map A c))) ?_
  apply gQ
  intro i;rw[fM];simp only[fO,gY,dX]
  by_cases hi:j=i
  ·subst hi;have W:j<l.length:=by
    rcases dZ j l.length with Z|Z
    ·exact Z
    simp[List.getElem?_eq_none Z]at h2
   have h5:l[j]=(a,u,MV l a c):=by
    have:=List.getElem?_eq_getElem W;rw[h2]at this;exact(Option.some.inj this).symm
   simp[W,h5]
  simp[hi]
theorem MF{T K E b c d:Nat}{m x}{kv:α→Value}{l a}{O z:Value}{H'}(i:Nat)(ho:o.op= .mapEntry T m x)(hd:o.dst=some d)(hn:Nat.blt d cx.n=true)(hm:ev e m=some (.map (some b)))(hx:ev e x=some O)(W:O=kv a)(hT:cx.P.underlying T=some (.map K E))(hK:CZ cx.P K kv)(hz:∀w,(zeroValue E).run cx.P w= .ok z w)
 (Z:H[i]?=some (b,zV kv l c))(a0:yX H i (b,zV kv (AQ l a ((zY l a).getD z) c) (DJ l a c)) H')(kk:C ((d,.tuple #[(zY l a).getD z,i64 (MV l a c:Int)])::e) I H'):BU cx Q o e I H C:=by
 intro _ a1 w0 w N hs;unfold Oper.wp;subst W;have hb:=hs.own _ (fU Z);have hr:=a9j (a:=a) hT hK hz hb;have:(execOp w0.eval o).run cx.P w= .ok (.value (.tuple #[(zY l a).getD z,i64 (MV l a c:Int)])) (bC w b (zV kv (AQ l a ((zY l a).getD z) c) (DJ l a c))):=by
  simp[execOp,ho,N.eval hm,N.eval hx,hr]
 rw[this];simp only[Oper.upon,hd];exact a1 _ _ _ kk _ _ (N.put hn) (hs.block Z a0)
theorem b6h{l:ML α}{a:α}{x v:Value}{c:Nat}(h:MS l c):∃j,(AQ l a x c)[j]?=some (a,x,MV l a c)∧AQ l a v c=(AQ l a x c).set j (a,v,MV l a c):=by
 cases hm:zY l a with
 |none=>
  obtain⟨_,h2⟩:=PZ l 0 hm;refine⟨l.length,?_,?_⟩
  ·rw[h2,a3l hm];simp
  rw[h2,h2,a3l hm];simp
 |some u=>
  obtain⟨j,_,h2,h3⟩:=a3E l c 0 hm;refine⟨j,?_,?_⟩
  ·rw[h3,dX,zF rfl,zF (aF.1 h2).1]
  rw[h3,h3,List.set_set]
theorem a4E{P:Program}{T b c:Nat}{kv:α→Value}{l:ML α}{a:α}{x v:Value}{w:World}(h:MS l c)(Z:w.heap[b]?=some (zV kv (AQ l a x c) (DJ l a c))):
 (iD T (.map (some b)) (i64 (MV l a c:Int)) v).run P w= .ok () (bC w b (zV kv (AQ l a v c) (DJ l a c))):=by
 have hg:(getObj b).run P w= .ok (zV kv (AQ l a x c) (DJ l a c)) w:=by simp[getObj,iM,Z,zV]
 have hset:∀o',(setObj b o').run P w= .ok () (bC w b o'):=fun o'=>by simp[setObj,iM,Z,bC,zV]
 obtain⟨j,h1,h2⟩:=b6h (x:=x) (v:=v) (a:=a) h;have O:=h.set a x;generalize AQ l a x c=L at h1 h2 O hg;have W:j<L.length:=(aF.1 h1).1;have N:L[j]=(a,x,MV l a c):=(aF.1 h1).2;have hf:(L.map (FX kv)).toArray.findIdx? (fun e=>(e.born:Int) == (MV l a c:Int))=some j:=by
  rw[List.findIdx?_toArray,dA];refine⟨by simpa using W,by simp[N],fun k hk=>?_⟩;simp only[List.getElem_map,Bool.not_eq_true,beq_eq_false_iff_ne,ne_eq];intro he;have a0:k<L.length:=oM;have h3:=O.2.1;rw[List.nodup_iff_pairwise_ne,List.pairwise_map,List.pairwise_iff_getElem]at h3;refine h3 k j a0 W hk ?_;rw[N];exact Int.ofNat_inj.1 he
 have a1:∀w,(asInt (i64 (MV l a c:Int))).run P w= .ok (MV l a c:Int) w:=fun w=>by simp[asInt,asIntOf]
 simp only[iD,gJ,hg,zV,dW,a1,hf,hset];refine zC (fun A=>Result.ok () (bC w b (Obj.map A (DJ l a c)))) ?_;rw[h2]
 apply gQ
 intro i;rw[fM];simp only[fO,gY,dX]
 by_cases hi:j=i
 ·subst hi;simp[W,N]
 simp[hi]
theorem JX{T b c:Nat}{m x y:Operand}{kv:α→Value}{l:ML α}{a:α}{u v:Value}{n:Int}{H':HL}(i:Nat)(ho:o.op= .entryStore T m x y)(hd:o.dst=none)(hm:ev e m=some (.map (some b)))(hx:ev e x=some (i64 n))(O:n=(MV l a c:Int))(hy:ev e y=some v)(W:MS l c)
 (Z:H[i]?=some (b,zV kv (AQ l a u c) (DJ l a c)))(a0:yX H i (b,zV kv (AQ l a v c) (DJ l a c)) H')(kk:C e I H'):BU cx Q o e I H C:=by
 intro _ a1 w0 w N hs;unfold Oper.wp;subst O;have hb:=hs.own _ (fU Z);have hr:=a4E (P:=cx.P) (T:=T) (v:=v) W hb;have:(execOp w0.eval o).run cx.P w= .ok .skip (bC w b (zV kv (AQ l a v c) (DJ l a c))):=by
  simp[execOp,ho,N.eval hm,N.eval hx,N.eval hy,hr]
 rw[this];simp only[Oper.upon,hd];exact a1 _ _ _ kk _ _ N.SE (hs.block Z a0)
end
end Go.Sx
section
namespace Go.Proofs.YtekmeaoblpfnpaaGreatDoor
open _root_.Go.Proofs.Tryz
open Go Go.Sx
abbrev zW (t:iG):Value:= .agg #[i64 t.1,i64 t.2]
abbrev EF (p:Ix.Pl):Value:= .agg #[str p.1,str p.2]
theorem EC:CZ aJ 54 zW:=CZ.b1S a8i kR dE dE rfl rfl rfl rfl tU3 XG
theorem LU:CZ aJ 152 EF:=CZ.c0k a2m kR dE dE rfl rfl rfl rfl DC EK
def setH (b:Nat) (l:ML Ix.Pl) (c:Nat) (N:MR Ix.Pl iG):HL:=(b,zV EF l c)::RN zW N
theorem WW b l c A B p N m k:([(b,zV EF l c),(N,zV zW m k)]++RN zW (A++B)).Perm (setH b l c (A++(p,N,m,k)::B)):=
 fP _ (b3m zW A B p N m k)
theorem ZH{α:Type}[BEq α][LawfulBEq α](l:ML α)(a:α)(v:Value)(c:Nat):AQ l a v c≠[]:=fun h=>by
 have:=(b5V (l:=l) (a:=a) (x:=a) (v:=v) (c:=c)).2 (.inr rfl);rw[h]at this;cases this
theorem NM{α:Type}[BEq α][LawfulBEq α]{l:ML α}{a:α}{v z:Value}{c:Nat}:(zY (AQ l a v c) a).getD z=v:=by
 rw[MZ];simp
theorem b3O{n}(h:n≠0):cv n=some (i64 (n:Int)):=zD h
theorem b9w b l c p t (Z:zY l p=none) I:yZ aJ 97 [.map (some b),EF p,zW t] I [(b,zV EF l c)]
 (fun e _ H'=>∃N,e= .returned (.tuple #[])∧H'=[(b,zV EF (AQ l p (.map (some N)) c) (DJ l p c)),(N,zV zW (AQ [] t (i64 1) 0) (DJ ([]:ML iG) t 0))]):=by
 refine zT func97 fun w0 _=>?_;refine yU 3 ?_;intro _ _;refine yU 1 ?_;intro _ _;refine yU 7 ?_;refine dK (AY (kv:=EF) (l:=l) (a:=p) rfl rfl rfl rfl IG LU KN (yY.at 2 rfl)) ?_;refine bW 8 (.map none) rfl (by rw[Z];rfl) ?_;refine yU 7 ?_;refine gI rfl (AZ rfl rfl rfl ?_);intro O _;refine gI rfl (DW (kv:=EF) (a:=p) 3 (.inr rfl) rfl rfl rfl rfl rfl IG LU rfl (aI (aI (aI bD))) ?_);refine yU 2 ?_;refine cO [1,2,3] [] 9 kR ?_;refine yU 2 ?_;refine dQ 2 rfl (AY (kv:=EF) (l:=(AQ l p (.map (some O)) c)) (a:=p) rfl rfl rfl rfl IG LU KN (dI 2 rfl)) ?_;refine bK 15 (.map (some O)) rfl NM ?_;refine yU 1 ?_;refine JA.all [4,6] kR sI ?_;intro i W;simp only[bF,eX,or_false]at W;rcases W with rfl|rfl
 ·refine⟨_,rfl,rfl,?_⟩;refine AX (AY (kv:=zW) (l:=[]) (a:=t) rfl rfl rfl rfl FD EC XC (yY.at 0 rfl)) rfl rfl ?_;refine yU 1 ?_;refine bK 17 (i64 0) rfl rfl ?_;refine JA.fix BM (fun _=>?_);refine dQ 5 rfl (NC rfl rfl rfl (ND dE)) ?_;refine zO 6 rfl (MF (kv:=zW) (l:=[]) (c:=0) (a:=t) 0 rfl rfl rfl rfl rfl rfl FD EC XC rfl bD ?_);refine yU 2 ?_;refine zO 8 rfl (JX (kv:=zW) (l:=[]) (a:=t) (c:=0) 0 rfl rfl rfl rfl rfl rfl MS.nil rfl bD ?_);refine yU 2 ?_;refine aV (aT (aH (aH (aT bI)))) ?_;refine iO iU ?_;refine iO (Pull.s iU) ?_;refine cZ rfl rfl ?_;exact⟨_,rfl,rfl⟩
 refine⟨_,rfl,rfl,?_⟩;refine MF (kv:=zW) (l:=[]) (c:=0) (a:=t) 0 rfl rfl rfl rfl rfl rfl FD EC XC rfl bD ?_;refine yU 2 ?_;refine zO 4 rfl (AX (AY (kv:=zW) (l:=(AQ [] t ((zY [] t).getD (.int .i64 0)) 0)) (a:=t) rfl rfl rfl rfl FD EC XC (yY.at 0 rfl)) rfl rfl ?_);refine yU 1 ?_;refine bK 17 (i64 0) rfl NM ?_;refine JA.fix BM (fun _=>?_);refine dQ 5 rfl (NC rfl rfl rfl (ND dE)) ?_;refine zO 8 rfl (JX (kv:=zW) (l:=[]) (a:=t) (c:=0) 0 rfl rfl rfl rfl rfl rfl MS.nil rfl bD ?_);refine yU 2 ?_;refine aV (aT (aH (aH (aT bI)))) ?_;refine iO iU ?_;refine iO (Pull.s iU) ?_;refine cZ rfl rfl ?_;exact⟨_,rfl,rfl⟩
theorem b8n b l c p t N m (k n:Nat)(W:zY l p=some (.map (some N)))(O:MS m k)(Z:(zY m t).getD (i64 0)=i64 (n:Int))(a0:n≤1000000000000000) I:yZ aJ 97 [.map (some b),EF p,zW t] I [(b,zV EF l c),(N,zV zW m k)]
 (fun e _ H'=>e= .returned (.tuple #[])∧H'=[(b,zV EF l c),(N,zV zW (AQ m t (i64 ((n+1:Nat):Int)) k) (DJ m t k))]):=by
 refine zT func97 fun w0 _=>?_;refine yU 3 ?_;intro _ _;refine yU 1 ?_;intro _ _;refine yU 7 ?_;refine dK (AY (kv:=EF) (l:=l) (a:=p) rfl rfl rfl rfl IG LU KN (yY.at 2 rfl)) ?_;refine bW 8 (.map (some N)) rfl (by rw[W];rfl) ?_;refine yU 6 ?_;refine cO [0,1,2] [] 9 kR ?_;refine yU 2 ?_;refine dQ 2 rfl (AY (kv:=EF) (l:=l) (a:=p) rfl rfl rfl rfl IG LU KN (dI 2 rfl)) ?_;refine bK 15 (.map (some N)) rfl (by rw[W];rfl) ?_;refine yU 1 ?_;refine JA.all [4,6] kR sI ?_;intro i hi;simp only[bF,eX,or_false]at hi;rcases hi with rfl|rfl
 ·refine⟨_,rfl,rfl,?_⟩;refine AX (AY (kv:=zW) (l:=m) (a:=t) rfl rfl rfl rfl FD EC XC (yY.at 3 rfl)) rfl rfl ?_;refine yU 1 ?_;refine bK 17 (i64 (n:Int)) rfl Z ?_;refine yU 1 ?_;refine zO 6 rfl (MF (kv:=zW) (l:=m) (c:=k) (a:=t) 3 rfl rfl rfl rfl rfl rfl FD EC XC rfl (aI (aI (aI bD))) ?_);refine yU 2 ?_;refine zO 8 rfl (JX (kv:=zW) (l:=m) (a:=t) (c:=k) 3 rfl rfl rfl rfl rfl rfl O rfl (aI (aI (aI bD))) ?_);refine yU 2 ?_;refine aV (aH (aH (aT (aT bI)))) ?_;refine cZ rfl rfl ?_;exact rT
 refine⟨_,rfl,rfl,?_⟩;refine MF (kv:=zW) (l:=m) (c:=k) (a:=t) 3 rfl rfl rfl rfl rfl rfl FD EC XC rfl (aI (aI (aI bD))) ?_;refine yU 2 ?_;refine zO 4 rfl (AX (AY (kv:=zW) (l:=(AQ m t ((zY m t).getD (.int .i64 0)) k)) (a:=t) rfl rfl rfl rfl FD EC XC (yY.at 3 rfl)) rfl rfl ?_);refine yU 1 ?_;refine bK 17 (i64 (n:Int)) rfl (NM.trans Z) ?_;refine yU 1 ?_;refine zO 8 rfl (JX (kv:=zW) (l:=m) (a:=t) (c:=k) 3 rfl rfl rfl rfl rfl rfl O rfl (aI (aI (aI bD))) ?_);refine yU 2 ?_;refine aV (aH (aH (aT (aT bI)))) ?_;refine cZ rfl rfl ?_;exact rT
theorem b4p b l c N f p t (h:BL l c N f)(hf:f p t≤1000000000000000) I:
 yZ aJ 97 [.map (some b),EF p,zW t] I (setH b l c N) (fun e _ H'=>∃l' c' N',e= .returned (.tuple #[])∧BL l' c' N' (bump f p t (· +1))∧H'=setH b l' c' N'):=by
 rcases h.find p with⟨a2,W,hz⟩|⟨A,O,m,k,B,rfl,W,a0,a3,a1,hA,hB⟩
 ·have h1:=(b9w b l c p t W I).frame (RN zW N);refine h1.leave fun e I' H' _ ⟨H1,hH,O,he,Z⟩=>⟨_,[],?_,AQ l p (.map (some O)) c,DJ l p c,N++[(p,O,AQ [] t (i64 1) 0,DJ ([]:ML iG) t 0)],he,h.add a2 (MS.nil.set t _) (ZH _ _ _ _) (fun s=>?_),rfl⟩
  ·rw[aB,hH,Z];unfold setH;rw[a1a];exact fP _ fQ
  rw[MZ]
  by_cases hs:(s == t)=true
  ·rw[zF hs,zF hs];rfl
  rw[zD hs,zD hs];rfl
 have hn:=b4D a1 t;have h1:=(yZ.perm (WW b l c A B p O m k) ((b8n b l c p t O m k (f p t) W a0 hn hf I).frame (RN zW (A++B))));refine h1.leave fun e I' H' _ ⟨H1,hH,he,Z⟩=>⟨_,[],?_,l,c,A++(p,O,AQ m t (i64 ((f p t+1:Nat):Int)) k,DJ m t k)::B,he,h.set (d:=(· +1)) (a0.set t _) (ZH _ _ _ _) (fun s=>?_),rfl⟩
 ·rw[aB,hH,Z];exact(WW b l c A B p O _ _).symm
 exact b2S a1 t (f p t+1) (Nat.succ_ne_zero _) k s
theorem b4j b l c p t N m (k n:Nat)(O:zY l p=some (.map (some N)))(a8:MS m k)(hn:(zY m t).getD (i64 0)=i64 (n:Int))(ad:1≤n)(ae:n≤1000000000000000) I:yZ aJ 90 [.map (some b),EF p,zW t] I [(b,zV EF l c),(N,zV zW m k)]
 (fun e _ H'=>(n≠1∧e= .returned (.tuple #[])∧H'=[(b,zV EF l c),(N,zV zW (AQ m t (i64 ((n-1:Nat):Int)) k) (DJ m t k))])∨(n=1∧(EN (AQ m t (i64 ((n-1:Nat):Int)) k) t)≠[]∧e= .returned (.tuple #[])∧H'=[(b,zV EF l c),(N,zV zW (EN (AQ m t (i64 ((n-1:Nat):Int)) k) t) (DJ m t k))])∨(n=1∧(EN (AQ m t (i64 ((n-1:Nat):Int)) k) t)=[]∧e= .returned (.tuple #[])∧H'=[(b,zV EF (EN l p) c),(N,zV zW (EN (AQ m t (i64 ((n-1:Nat):Int)) k) t) (DJ m t k))])):=by
 refine zT func90 fun w0 _=>?_;refine yU 3 ?_;intro _ _;refine yU 1 ?_;intro _ _;refine yU 3 ?_;refine cO [0,1,2] [] 9 kR ?_;refine yU 2 ?_;refine dQ 2 rfl (AY (kv:=EF) (l:=l) (a:=p) rfl rfl rfl rfl IG LU KN (dI 2 rfl)) ?_;refine bK 8 (.map (some N)) rfl (by rw[O];rfl) ?_;refine yU 1 ?_;refine JA.all [4,6] kR sI ?_;intro i hi;simp only[bF,eX,or_false]at hi;rcases hi with rfl|rfl
 ·refine⟨_,rfl,rfl,?_⟩;refine AX (AY (kv:=zW) (l:=m) (a:=t) rfl rfl rfl rfl FD EC XC (yY.at 3 rfl)) rfl rfl ?_;refine yU 1 ?_;refine bK 10 (i64 (n:Int)) rfl hn ?_;refine yU 1 ?_;refine bK 11 (i64 ((n-1:Nat):Int)) rfl (zC i64 oM) ?_;refine zO 6 rfl (MF (kv:=zW) (l:=m) (c:=k) (a:=t) 3 rfl rfl rfl rfl rfl rfl FD EC XC rfl (aI (aI (aI bD))) ?_);refine yU 2 ?_;refine zO 8 rfl (JX (kv:=zW) (l:=m) (a:=t) (c:=k) 3 rfl rfl rfl rfl rfl rfl a8 rfl (aI (aI (aI bD))) ?_);refine yU 5 ?_;refine cO [0,1,2,3] [] 6 kR ?_;refine yU 2 ?_;refine dQ 2 rfl (AY (kv:=EF) (l:=l) (a:=p) rfl rfl rfl rfl IG LU KN (dI 2 rfl)) ?_;refine bK 16 (.map (some N)) rfl (by rw[O];rfl) ?_;refine yU 1 ?_;refine dQ 4 rfl (AY (kv:=zW) (l:=(AQ m t (i64 ((n-1:Nat):Int)) k)) (a:=t) rfl rfl rfl rfl FD EC XC (dI 3 rfl)) ?_;refine bK 18 (i64 ((n-1:Nat):Int)) rfl NM ?_;refine AP ?_ ?_<;>intro ac a9
  ·refine cO [0,1,2] [] 5 kR ?_;refine yU 2 ?_;refine dQ 2 rfl (AY (kv:=EF) (l:=l) (a:=p) rfl rfl rfl rfl IG LU KN (dI 2 rfl)) ?_;refine bK 22 (.map (some N)) rfl (by rw[O];rfl) ?_;refine yU 1 ?_;refine zO 4 rfl (QF (kv:=zW) (a:=t) 3 rfl rfl rfl rfl rfl FD EC rfl (aI (aI (aI bD))) ?_);refine yU 7 ?_;refine dK (AY (kv:=EF) (l:=l) (a:=p) rfl rfl rfl rfl IG LU KN (yY.at 2 rfl)) ?_;refine bW 26 (.map (some N)) rfl (by rw[O];rfl) ?_;refine dK (KX (kv:=zW) (l:=(EN (AQ m t (i64 ((n-1:Nat):Int)) k) t)) rfl rfl FD (yY.at 3 rfl)) ?_;refine AP ?_ ?_<;>intro Z aa
   ·have a0:(EN (AQ m t (i64 ((n-1:Nat):Int)) k) t)=[]:=bH.1 (by have h:=IW Z;omega);refine yU 3 ?_;refine gI rfl (QF (kv:=EF) (a:=p) 2 rfl rfl rfl rfl rfl IG LU rfl (aI (aI bD)) ?_);refine yU 1 ?_;refine aV (aH (aH (aT (aT bI)))) ?_;refine cZ rfl rfl ?_;exact .inr (.inr ⟨oM,a0,rfl,rfl⟩)
   have a1:(EN (AQ m t (i64 ((n-1:Nat):Int)) k) t)≠[]:=fun e=>by have h:=KL Z;rw[e]at h;exact h rfl
   refine yU 1 ?_;refine aV (aH (aH (aT (aT bI)))) ?_;refine cZ rfl rfl ?_;exact .inr (.inl ⟨oM,a1,rfl,rfl⟩)
  refine yU 6 ?_;refine dK (AY (kv:=EF) (l:=l) (a:=p) rfl rfl rfl rfl IG LU KN (yY.at 2 rfl)) ?_;refine bW 26 (.map (some N)) rfl (by rw[O];rfl) ?_;refine dK (KX (kv:=zW) (l:=(AQ m t (i64 ((n-1:Nat):Int)) k)) rfl rfl FD (yY.at 3 rfl)) ?_;refine AP ?_ ?_<;>intro a2 a4
  ·exact absurd (show(AQ m t (i64 ((n-1:Nat):Int)) k)=[] from bH.1 (by have h:=IW a2;omega)) (ZH _ _ _ _)
  refine yU 1 ?_;refine aV (aH (aH (aT (aT bI)))) ?_;refine cZ rfl rfl ?_;exact .inl ⟨oM,rfl,rfl⟩
 refine⟨_,rfl,rfl,?_⟩;refine MF (kv:=zW) (l:=m) (c:=k) (a:=t) 3 rfl rfl rfl rfl rfl rfl FD EC XC rfl (aI (aI (aI bD))) ?_;refine yU 2 ?_;refine zO 4 rfl (AX (AY (kv:=zW) (l:=(AQ m t ((zY m t).getD (.int .i64 0)) k)) (a:=t) rfl rfl rfl rfl FD EC XC (yY.at 3 rfl)) rfl rfl ?_);refine yU 1 ?_;refine bK 10 (i64 (n:Int)) rfl (NM.trans hn) ?_;refine yU 1 ?_;refine bK 11 (i64 ((n-1:Nat):Int)) rfl (zC i64 oM) ?_;refine zO 8 rfl (JX (kv:=zW) (l:=m) (a:=t) (c:=k) 3 rfl rfl rfl rfl rfl rfl a8 rfl (aI (aI (aI bD))) ?_);refine yU 5 ?_;refine cO [0,1,2,3] [] 6 kR ?_;refine yU 2 ?_;refine dQ 2 rfl (AY (kv:=EF) (l:=l) (a:=p) rfl rfl rfl rfl IG LU KN (dI 2 rfl)) ?_;refine bK 16 (.map (some N)) rfl (by rw[O];rfl) ?_;refine yU 1 ?_;refine dQ 4 rfl (AY (kv:=zW) (l:=(AQ m t (i64 ((n-1:Nat):Int)) k)) (a:=t) rfl rfl rfl rfl FD EC XC (dI 3 rfl)) ?_;refine bK 18 (i64 ((n-1:Nat):Int)) rfl NM ?_;refine AP ?_ ?_<;>intro ab a5
 ·refine cO [0,1,2] [] 5 kR ?_;refine yU 2 ?_;refine dQ 2 rfl (AY (kv:=EF) (l:=l) (a:=p) rfl rfl rfl rfl IG LU KN (dI 2 rfl)) ?_;refine bK 22 (.map (some N)) rfl (by rw[O];rfl) ?_;refine yU 1 ?_;refine zO 4 rfl (QF (kv:=zW) (a:=t) 3 rfl rfl rfl rfl rfl FD EC rfl (aI (aI (aI bD))) ?_);refine yU 7 ?_;refine dK (AY (kv:=EF) (l:=l) (a:=p) rfl rfl rfl rfl IG LU KN (yY.at 2 rfl)) ?_;refine bW 26 (.map (some N)) rfl (by rw[O];rfl) ?_;refine dK (KX (kv:=zW) (l:=(EN (AQ m t (i64 ((n-1:Nat):Int)) k) t)) rfl rfl FD (yY.at 3 rfl)) ?_;refine AP ?_ ?_<;>intro W a6
  ·have a0:(EN (AQ m t (i64 ((n-1:Nat):Int)) k) t)=[]:=bH.1 (by have h:=IW W;omega);refine yU 3 ?_;refine gI rfl (QF (kv:=EF) (a:=p) 2 rfl rfl rfl rfl rfl IG LU rfl (aI (aI bD)) ?_);refine yU 1 ?_;refine aV (aH (aH (aT (aT bI)))) ?_;refine cZ rfl rfl ?_;exact .inr (.inr ⟨oM,a0,rfl,rfl⟩)
  have a1:(EN (AQ m t (i64 ((n-1:Nat):Int)) k) t)≠[]:=fun e=>by have h:=KL W;rw[e]at h;exact h rfl
  refine yU 1 ?_;refine aV (aH (aH (aT (aT bI)))) ?_;refine cZ rfl rfl ?_;exact .inr (.inl ⟨oM,a1,rfl,rfl⟩)
 refine yU 6 ?_;refine dK (AY (kv:=EF) (l:=l) (a:=p) rfl rfl rfl rfl IG LU KN (yY.at 2 rfl)) ?_;refine bW 26 (.map (some N)) rfl (by rw[O];rfl) ?_;refine dK (KX (kv:=zW) (l:=(AQ m t (i64 ((n-1:Nat):Int)) k)) rfl rfl FD (yY.at 3 rfl)) ?_;refine AP ?_ ?_<;>intro a3 a7
 ·exact absurd (show(AQ m t (i64 ((n-1:Nat):Int)) k)=[] from bH.1 (by have h:=IW a3;omega)) (ZH _ _ _ _)
 refine yU 1 ?_;refine aV (aH (aH (aT (aT bI)))) ?_;refine cZ rfl rfl ?_;exact .inl ⟨oM,rfl,rfl⟩
theorem b8Q{n}(h:cv n=none):n=0:=by
 unfold cv at h
 split at h
 ·assumption
 cases h
theorem a8k{m k}(h:MS m k) t v (s:iG):zY (EN (AQ m t v k) t) s=if s == t then none else zY m s:=by
 rw[a1D (h.set t v).1,MZ]
 by_cases hs:(s == t)=true
 ·rw[zF hs,zF hs]
 rw[zD hs,zD hs,zD hs]
theorem a6h b l c N f p t (h:BL l c N f)(a1:1≤f p t)(hf:f p t≤1000000000000000) I:
 yZ aJ 90 [.map (some b),EF p,zW t] I (setH b l c N) (fun e _ H'=>∃l' c' N',e= .returned (.tuple #[])∧BL l' c' N' (bump f p t (· -1))∧H'=setH b l' c' N'):=by
 rcases h.find p with⟨a5,a2,hz⟩|⟨A,Z,m,k,B,rfl,a2,O,a6,a0,hA,hB⟩
 ·rw[hz t]at a1;omega
 have hn:=b4D a0 t;have h1:=(yZ.perm (WW b l c A B p Z m k) ((b4j b l c p t Z m k (f p t) a2 O hn a1 hf I).frame (RN zW (A++B))));refine h1.leave fun e _ H' _ ⟨H1,hH,hq⟩=>?_;rcases hq with⟨h9,he,W⟩|⟨h9,a3,he,W⟩|⟨h9,a4,he,W⟩
 ·refine⟨_,[],?_,l,c,A++(p,Z,AQ m t (i64 ((f p t-1:Nat):Int)) k,DJ m t k)::B,he,h.set (d:=(· -1)) (O.set t _) (ZH _ _ _ _) (fun s=>?_),rfl⟩
  ·rw[aB,hH,W];exact(WW b l c A B p Z _ _).symm
  exact b2S a0 t (f p t-1) oM k s
 ·refine⟨_,[],?_,l,c,A++(p,Z,EN (AQ m t (i64 ((f p t-1:Nat):Int)) k) t,DJ m t k)::B,he,h.set (d:=(· -1)) ((O.set t _).del t) a3 (fun s=>?_),rfl⟩
  ·rw[aB,hH,W];exact(WW b l c A B p Z _ _).symm
  rw[a8k O];show _=if (s == t)=true then cv (f p t-1)else _;rw[h9];rfl
 refine⟨_,[(Z,zV zW (EN (AQ m t (i64 ((f p t-1:Nat):Int)) k) t) (DJ m t k))],?_,EN l p,c,A++B,he,h.drop (d:=(· -1)) (fun s hs=>?_) (by show f p t-1=0;omega),rfl⟩
 ·rw[hH,W];unfold setH;exact fP _ fQ
 have h2:=a8k O t (i64 ((f p t-1:Nat):Int)) s;rw[a4,zD (by simpa using hs),a0]at h2;exact b8Q h2.symm
