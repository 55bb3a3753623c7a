/-
  Own texts on the laws of the seat, joined: the logic, and contracts of functions. Conditions: none.
-/
import Derived.Test.YtdjkhllhakhjbaaGreatDoorNmG
import Derived.Test.YtdjkhllhakhjbaaGreatDoorPG7
import Derived.Lib.FieldsP
set_option linter.all false
set_option maxRecDepth 100000
set_option maxHeartbeats 40000000
open Go.Sx.J renaming z -> aA,op -> aJ,eqv -> dQ,split -> dR
open Ix renaming named -> aB,b6X -> dG,c1N -> dK,vals -> dM,b4z -> dP,a9P -> dS,a9U -> eU,c1G -> eX,b3k -> iH,NY -> iR
open Go.Sx.Cj renaming region -> aC,ret -> aP,skip -> aU,block -> bP,seq -> cZ,cond -> dL,loop -> gK,exit -> gQ,keep -> iM
open List renaming length_append -> aF,append_nil -> aG,getElem?_eq_some_iff -> aH,mem_singleton -> aI,map_cons -> aK,take_succ_eq_append_getElem -> aN,map_append -> aQ,take_of_length_le -> aS,flatMap_append -> bF,cons_ne_nil -> bG,length_cons -> bM,take_append_drop -> bT,length_take -> bW,mem_cons -> cO,filter_sublist -> dB,length_map -> dD,length_nil -> dF,map_map -> dN,isPrefixOf_iff_prefix -> dY,map_nil -> eG,length_filterMap_le -> eP,mem_map -> eY,filter_cons_of_pos -> fA,filter_cons_of_neg -> fB,mem_append -> fD,drop_eq_nil_of_le -> fH,getElem_cons_drop -> fJ,sum_cons -> fV,filter_eq_self -> fZ,length_pos_iff -> gB,mem_map_of_mem -> gG,flatMap_cons -> gU,append_assoc -> gX,nodup_append -> gY,getElem?_map -> gZ,cons_append -> iF,nil_append -> iG,nodup_cons -> iI,mem_filter -> iJ,drop_zero -> iK
open Go.Sx.Ej renaming seq -> aO,FM -> aV,KU -> bD,bare -> bJ,OY -> bK,round -> bQ,a4h -> bV,keep -> dH,persist -> dI,IB -> dV,JE -> dZ,JM -> eF
open Ke renaming textOf -> aT,Sub -> eH,skip -> fP,digit -> iD,KG -> iQ
open Go.Proofs.Tryz renaming prog -> aW
open Nat renaming le_refl -> aX,zero_le -> dU,min_eq_left -> fE,lt_or_ge -> gI
open Bool renaming noConfusion -> aY,false_eq_true -> aZ,and_eq_true -> dJ,eq_iff_iff -> fC,eq_false_iff -> gW
open Go.Sx.Keeps renaming d -> bC,r -> dA,n -> iT
open Go.Utf8 renaming decode -> bH
open Go.Sx.IC renaming none -> bI,one -> bZ
open Go.Sx.EW renaming c -> bU,z -> dW,s -> gJ
open Go.Sx.yS renaming toPure -> bY
open Go.Sx.KP renaming part -> dX
open Go.Sx.Src renaming slice -> fF
open Go.Builtin renaming delete_ -> fG
open Array renaming getElem?_eq_none -> fK
open Go.Sx.World renaming block -> fM
open UInt8 renaming le_iff_toNat_le -> fO
open Go.Sx.yR renaming PL -> fQ
open Go.Value renaming oneCell' -> fU
open Function renaming comp_def -> iC
open Eq renaming trans -> iE,symm -> iO
open Go.Sx.Le renaming refl -> iL
open Go.Instr renaming findKey -> iP
namespace Ix
open Ke
open Go Go.Lib
theorem VJ c:digit c=decide (48≤c.toNat∧c.toNat≤57):=by
 unfold digit;rw[fC,dJ,zH,zH,zH,fO,fO];rfl
def nod (r:Nat):Bool:=decide (r<48) || decide (57<r)
theorem decodeL_N c r:decodeL (c::r)=decodeN (r.length+1) c.toNat (r.getD 0 0).toNat (r.getD 1 0).toNat (r.getD 2 0).toNat:=by
 have:=decode_N ⟨(c::r).toArray⟩ 0;simp only[bM,Nat.sub_zero,Nat.zero_add,List.getD_cons_zero,List.getD_cons_succ]at this;exact this
theorem b0a c r (h:128≤c.toNat):128≤(decodeL (c::r)).1∧∀x∈(c::r).take (decodeL (c::r)).2,128≤x.toNat:=by
 have key:∀k n:Nat,(128≤k∧∀x∈(c::r).take n,128≤x.toNat)→128≤((k,n):Nat×Nat).1∧∀x∈(c::r).take ((k,n):Nat×Nat).2,128≤x.toNat:=fun _ _ h=>h;have G:128≤((65533,1):Nat×Nat).1∧∀x∈(c::r).take ((65533,1):Nat×Nat).2,128≤x.toNat:=⟨dE,fun x A=>by simp at A;rw[A];exact h⟩;rw[decodeL_N];unfold decodeN;rw[zF oM]
 split
 ·rename_i g
  split
  ·refine key _ _ ⟨oM,fun x A=>?_⟩;rcases r with _|⟨d,r⟩
   ·simp at A;rw[A];exact h
   simp at A g;rcases A with rfl|rfl
   ·exact h
   omega
  exact G
 split
 ·rename_i g
  split
  ·refine key _ _ ⟨oM,fun x A=>?_⟩;rcases r with _|⟨d,_|⟨e,r⟩⟩
   ·simp at A;rw[A];exact h
   ·simp at g
   simp at A g;rcases A with rfl|rfl|rfl
   ·exact h
   ·omega
   omega
  exact G
 split
 ·rename_i g
  split
  ·refine key _ _ ⟨oM,fun x A=>?_⟩;rcases r with _|⟨d,_|⟨e,_|⟨f,r⟩⟩⟩
   ·simp at A;rw[A];exact h
   ·simp at g
   ·simp at g
   simp at A g;rcases A with rfl|rfl|rfl|rfl
   ·exact h
   ·omega
   ·omega
   omega
  exact G
 exact G
theorem a8s:∀(q:Bs) (w r:Bs),(∀x∈q,digit x=false)→q≠[]→NY w (q++r)=(if w=[]then[]else[w])++NY [] r
 |[],_,_,_,h=>absurd rfl h
 |[c],w,r,h,_=>by
  show NY w (c::r)=_;rw[NY,h c (.head _)];simp only[aZ,if_false]
  split<;>rfl
 |c::d::q,w,r,h,_=>by
  have A:=a8s (d::q) [] r (fun x G=>h x (.tail _ G)) sI;rw[zG rfl,iG]at A;show NY w (c::((d::q)++r))=_;rw[NY,h c (.head _),A];simp only[aZ,if_false]
  split<;>rfl
theorem b6x w c r (h:digit c=true):NY w (c::r)=NY (w++[c]) r:=by rw[NY,zG h]
theorem a3p s:∀(f pos:Nat) (G:Option Nat) (A:List (Nat×Nat)),s.size≤pos+f→pos≤s.size→(∀a,G=some a→a<pos)→
 A.map (fun p=>pieceU s.data.toList p.1 p.2)++NY (openPiece s.data.toList G pos) (s.data.toList.drop pos)=(closeSpans s (spansFromP nod s f pos G A)).map (fun p=>pieceU s.data.toList p.1 p.2)
 |0,pos,G,A,h,hp,hst=>by
  obtain rfl:pos=s.size:=oM;have hd:s.data.toList.drop s.size=[]:=fH (by rw[←size_eq];exact aX _);rw[hd,NY];cases G with
  |none=>simp[spansFromP,closeSpans,openPiece]
  |some a=>
   have:=pieceU_ne s.data.toList a s.size (hst a rfl) (by rw[←size_eq];exact aX _);simp[spansFromP,closeSpans,openPiece,this]
 |f+1,pos,G,A,h,hp,hst=>by
  by_cases hlt:pos<s.size
  ·have a2:pos<s.data.toList.length:=by rw[←size_eq];exact hlt
   have a0:decodeL (s.data.toList.drop pos)=bH s pos:=decodeL_drop s pos;obtain⟨c,O⟩:∃c,s.data.toList.drop pos=c::s.data.toList.drop (pos+1):=⟨s.data.toList[pos],(fJ a2).symm⟩;have hw:=width_pos s pos;have a1:pos+(bH s pos).2≤s.size:=by
    have:=decodeN_le_n' (s.size-pos) (s.get! pos).toNat (s.get! (pos+1)).toNat (s.get! (pos+2)).toNat (s.get! (pos+3)).toNat oM;rw[←decode_at]at this;omega
   simp only[spansFromP,zG hlt]
   by_cases hdig:digit c=true
   ·have a6:48≤c.toNat∧c.toNat≤57:=by rw[VJ]at hdig;exact zA hdig
    have h1:bH s pos=(c.toNat,1):=by
     rw[←a0,O];rw[decodeL_N];unfold decodeN;rw[zG oM]
    have h2:nod c.toNat=false:=by unfold nod;simp;omega
    rw[h1];simp only[h2,aZ,if_false];rw[O,b6x _ _ _ hdig];cases G with
    |none=>
     have N:=a3p s f (pos+1) (some pos) A oM oM (fun a h=>by cases h;omega);have e:openPiece s.data.toList none pos++[c]=openPiece s.data.toList (some pos) (pos+1):=by
      show[]++[c]=pieceU s.data.toList pos (pos+1);unfold pieceU;rw[O,Nat.add_sub_cancel_left];rfl
     rw[e];exact N
    |some a=>
     have N:=a3p s f (pos+1) (some a) A oM oM (fun b h=>by cases h;have:=hst a rfl;omega);have e:openPiece s.data.toList (some a) pos++[c]=openPiece s.data.toList (some a) (pos+1):=by
      have:=pieceU_grow s.data.toList a pos 1 (by have:=hst a rfl;omega);rw[O]at this;exact this
     rw[e];exact N
   have h3:nod (bH s pos).1=true∧∀x∈(s.data.toList.drop pos).take (bH s pos).2,digit x=false:=by
    rw[←a0,O]
    by_cases h128:c.toNat<128
    ·have h1:decodeL (c::s.data.toList.drop (pos+1))=(c.toNat,1):=by
      rw[decodeL_N];unfold decodeN;rw[zG h128]
     rw[h1];refine⟨?_,fun x Z=>?_⟩
     ·rw[VJ,zH]at hdig;unfold nod;simp;omega
     simp at Z;rw[Z];simpa using hdig
    obtain⟨_,g2⟩:=b0a c (s.data.toList.drop (pos+1)) oM;refine⟨by unfold nod;simp;omega,fun x Z=>?_⟩;have:=g2 x Z;rw[VJ];simp;omega
   have Q:s.data.toList.drop pos=(s.data.toList.drop pos).take (bH s pos).2++s.data.toList.drop (pos+(bH s pos).2):=by
    rw[←List.drop_drop,bT]
   have a3:(s.data.toList.drop pos).take (bH s pos).2≠[]:=by
    intro h0;have:=zD List.length h0;rw[bW,List.length_drop]at this;simp at this;omega
   simp only[h3.1,if_true];rw[Q,a8s _ _ _ h3.2 a3];cases G with
   |none=>
    have N:=a3p s f (pos+(bH s pos).2) none A oM a1 (fun a h=>by cases h);simpa[openPiece]using N
   |some a=>
    have a4:=pieceU_ne s.data.toList a pos (hst a rfl) (by rw[←size_eq];omega);have N:=a3p s f (pos+(bH s pos).2) none (A++[(a,pos)]) oM a1 (fun a h=>by cases h);simpa[openPiece,a4]using N
  have a5:pos=s.size:=oM;have hd:s.data.toList.drop pos=[]:=fH (by rw[←size_eq];omega);rw[spansFromP_end nod s _ pos G A hlt,hd,NY];subst a5;cases G with
  |none=>simp[closeSpans,openPiece]
  |some a=>
   have:=pieceU_ne s.data.toList a s.size (hst a rfl) (by rw[←size_eq];exact aX _);simp[closeSpans,openPiece,this]
theorem a7Y(s:ByteArray) a b:s.extract a b=⟨(pieceU s.data.toList a b).toArray⟩:=by
 apply ByteArray.ext
 rw[ByteArray.data_extract]
 apply Array.ext'
 rw[Array.toList_extract];unfold pieceU;simp[List.extract_eq_take_drop]
theorem fieldsD s:goFieldsP nod ⟨s.toArray⟩=(a9P s).map fun x=>⟨x.toArray⟩:=by
 have h:=a3p ⟨s.toArray⟩ (ByteArray.mk s.toArray).size 0 none [] oM oM (fun _ h=>by cases h);simp only[eG,iG,openPiece,iK]at h;unfold goFieldsP spansOfP a9P;rw[h,dN];refine List.map_congr_left fun p _=>?_;rw[a7Y];rfl
end Ix
namespace Go.Sx
open Go Go.RowKit
theorem yS.c4C{P f args I T l vals}(hv:vals=l.map str)(he:Enters P f)
 (h:∀w,Calls P f args.toArray w fun e w'=>∃A,e= .returned (.slice (some ⟨A,0,none⟩) l.length l.length)∧w.heap.size≤A∧w'.ownsRow w.heap.size T 1 (.slice (some ⟨A,0,none⟩) l.length l.length) l.length vals∧Below w.heap.size w w'):
 yS P f args I [] (fun e I' H'=>∃v,e= .returned v∧KA T I' l v∧H'=[]):=by
 refine⟨he,fun w hw=>(h w).mono ?_⟩;rintro e w' ⟨A,rfl,hA,G,N⟩;obtain⟨r1,-,-,-⟩:=hw;have a0:∀{b:Nat} {o:Obj},I b=some o→b<w.heap.size:=fun {b o} O=>by
  have:=r1 b o O;rcases gI b w.heap.size with h'|h'
  ·exact h'
  rw[fK h']at this;cases this
 obtain⟨-,G⟩:=G;obtain⟨g,_,Q,hs,-,hc,hn,-,_,a3⟩:=G.resolve_left fun g=>by cases g.1
 cases hs;have a1:(.cells Q T (0,0):Obj)=yZ T (l.map str++Q.toList.drop l.length):=by
  unfold yZ;rw[←hv,←a3,Nat.mul_one,bT]
 rw[a1]at hc;have a4:St w [] I I [(A,yZ T (l.map str++Q.toList.drop l.length))] w':=
  ⟨N.os,N.tape,N.output,N.size,fun b O _=>N.block b O,fun b o O=>by rw[N.block b (a0 O)];exact r1 b o O,fun p Z=>by rw[aI.1 Z];exact hc,sI,fun p Z=>by
   rw[aI.1 Z];cases hI:I A with
   |none=>rfl
   |some o=>have:=a0 hI;omega,fun p Z=>by rw[aI.1 Z];exact .inr hA,fun _ _=>rfl,iL _,a1J⟩
 have a2:=a4.persist hA;exact⟨_,_,a2,_,rfl,.inr ⟨A,l.length,_,rfl,aX _,a0o _ _ _⟩,rfl⟩
theorem yS.c3l{P f args I T}{l:List (List UInt8)}{vals}(hv:vals=l.map str)(he:Enters P f)
 (h:∀w,(∀b o,I b=some o→w.heap[b]?=some o)→Calls P f args.toArray w fun e w'=>∃A,e= .returned (.slice (some ⟨A,0,none⟩) l.length l.length)∧w.heap.size≤A∧w'.ownsRow w.heap.size T 1 (.slice (some ⟨A,0,none⟩) l.length l.length) l.length vals∧Below w.heap.size w w'):
 yS P f args I [] (fun e _ H'=>∃b sp,e= .returned (.slice (some ⟨b,0,none⟩) l.length l.length)∧H'=[(b,yZ T (l.map str++sp))]):=by
 refine⟨he,fun w hw=>(h w hw.1).mono ?_⟩;rintro e w' ⟨A,rfl,hA,G,N⟩;obtain⟨r1,-,-,-⟩:=hw;have a0:∀{b:Nat} {o:Obj},I b=some o→b<w.heap.size:=fun {b o} O=>by
  have:=r1 b o O;rcases gI b w.heap.size with h'|h'
  ·exact h'
  rw[fK h']at this;cases this
 obtain⟨-,G⟩:=G;obtain⟨g,_,Q,hs,-,hc,hn,-,_,a2⟩:=G.resolve_left fun g=>by cases g.1
 cases hs;have a1:(.cells Q T (0,0):Obj)=yZ T (l.map str++Q.toList.drop l.length):=by
  unfold yZ;rw[←hv,←a2,Nat.mul_one,bT]
 rw[a1]at hc;have a3:St w [] I I [(A,yZ T (l.map str++Q.toList.drop l.length))] w':=
  ⟨N.os,N.tape,N.output,N.size,fun b O _=>N.block b O,fun b o O=>by rw[N.block b (a0 O)];exact r1 b o O,fun p Z=>by rw[aI.1 Z];exact hc,sI,fun p Z=>by
   rw[aI.1 Z];cases hI:I A with
   |none=>rfl
   |some o=>have:=a0 hI;omega,fun p Z=>by rw[aI.1 Z];exact .inr hA,fun _ _=>rfl,iL _,a1J⟩
 exact⟨_,_,a3,_,_,rfl,rfl⟩
end Go.Sx
namespace Go.Proofs.YtdjkhllhakhjbaaGreatDoor
open _root_.Go.Proofs.Tryz
open Go Go.Sx
def sel (codes:List UInt8) (s:eH):Bool:=decide (codes=[]) || codes.contains s.code
def XK (codes:List UInt8) (ss:List eH):List (List UInt8):=(ss.filter (sel codes)).map (·.text)
def a0W (f:iQ) (codes:List UInt8):List UInt8:=Ke.join (XK codes f.subs)
theorem UW{f codes}(h:codes≠[]):a0W f codes=aT f codes:=by
 unfold a0W aT Ke.texts XK
 congr 2
 refine List.filter_congr fun s _=>?_;unfold sel;rw[zJ h];rfl
theorem a0V f:a0W f []=dP f:=by
 unfold a0W dP XK;rw[show f.subs.filter (sel [])=f.subs from fZ.2 fun _ _=>rfl]
theorem c0Z{codes}{ss:List eH}{k s}(h:ss[k]?=some s):XK codes (ss.take (k+1))=XK codes (ss.take k)++(if sel codes s=true then[s.text]else[]):=by
 obtain⟨A,hg⟩:=aH.1 h;unfold XK;rw[aN A,hg,List.filter_append,aQ]
 by_cases hc:sel codes s=true
 ·rw[zG hc,fA hc];rfl
 rw[zF hc,fB hc];rfl
theorem a8a codes ss:(XK codes ss).length≤ss.length:=by
 unfold XK;rw[dD];exact List.length_filter_le _ _
theorem b4c codes:∀ss:List eH,((XK codes ss).map List.length).sum≤IU ss
 |[]=>by simp[XK]
 |s::r=>by
  have:=b4c codes r;unfold XK IU at this ⊢;rw[List.filter_cons]
  split
  ·simp only[aK,fV];omega
  simp only[aK,fV];omega
theorem a1d f codes:(a0W f codes).length≤IU f.subs+f.subs.length:=by
 have h:=VH (XK codes f.subs);have A:=b4c codes f.subs;have G:=a8a codes f.subs;unfold a0W;omega
theorem c0F{ss s}(h:s∈ss):s.text.length≤IU ss:=by
 unfold IU
 induction ss with
 |nil=>cases h
 |cons a r A=>
  rw[aK,fV];rcases cO.1 h with e|e
  ·rw[e];omega
  have:=A e;omega
abbrev four (x:List UInt8):Bool:=decide (x.length=4)
def YL {α:Type} (p:α→Bool) (l:List α):Int:=match l.findIdx? p with
 |some k=>(k:Int)
 |none=> -1
theorem a1y{α:Type}{p:α→Bool}{l:List α}(h:∀x∈l,p x=false):YL p l= -1:=by
 unfold YL;rw[List.findIdx?_eq_none_iff.2 fun x A=>by simpa using h x A]
theorem a4D{α:Type}{p:α→Bool}{l:List α}{k}{x:α}(h:∀y∈l.take k,p y=false)(G:l[k]?=some x)(N:p x=true):YL p l=(k:Int):=by
 obtain⟨A,hg⟩:=aH.1 G;unfold YL;have:l.findIdx? p=some k:=by
  rw[List.findIdx?_eq_some_iff_getElem];refine⟨A,by rw[hg];exact N,fun j _=>?_⟩;have O:l[j]'oM∈l.take k:=by
   rw[List.mem_take_iff_getElem];exact⟨j,oM,rfl⟩
  rw[h _ O];exact Bool.false_ne_true
 rw[this]
theorem a0f{α:Type}{p:α→Bool}{l:List α}{k x}(h:∀y∈l.take k,p y=false)(N:l[k]?=some x)(O:p x=false):∀y∈l.take (k+1),p y=false:=fun y A=>by
 obtain⟨G,hg⟩:=aH.1 N;rw[aN G,hg,fD,aI]at A;rcases A with A|rfl
 ·exact h y A
 exact O
theorem QG{α:Type} p l:(YL p l= -1∧l.find? p=none)∨∃(k:Nat) (x:α),YL p l=(k:Int)∧l[k]?=some x∧l.find? p=some x:=by
 by_cases h:∃k,∃x,l[k]?=some x∧p x=true∧∀y∈l.take k,p y=false
 ·obtain⟨k,x,G,N,Q⟩:=h;refine .inr ⟨k,x,a4D Q G N,G,?_⟩;obtain⟨_,hg⟩:=aH.1 G;rw[List.find?_eq_some_iff_append];refine⟨N,l.take k,l.drop (k+1),?_,fun y A=>by simp[Q y A]⟩;rw[←hg,fJ,bT]
 have O:∀k,k≤l.length→∀y∈l.take k,p y=false:=by
  intro k
  induction k with
  |zero=>intro _ y A;simp at A
  |succ k ih=>
   intro _;have Z:=DC (l:=l) (i:=k) oM;have G:=ih oM;refine a0f G Z ?_;cases hp:p l[k]with
   |false=>rfl
   |true=>exact absurd ⟨k,_,Z,hp,G⟩ h
 have N:∀y∈l,p y=false:=fun y A=>O l.length (aX _) y (by rw[List.take_length];exact A);exact .inl ⟨a1y N,List.find?_eq_none.2 fun y A=>by simp[N y A]⟩
theorem a3H{f c}(h:f.ind[1]?=some c):fP f=if iD c=true then c.toNat-48 else 0:=by
 unfold fP;rw[h]
theorem b1J{I l v}:XD I l v↔zN (fun s=>[str s]) I l v:=by
 unfold XD zN;rw[show l.map str=l.flatMap fun s=>[str s] by induction l with|nil=>rfl|cons a r h=>rw[aK,gU,h];rfl]
theorem RG f codes (hn:f.subs.length≤2000000)(ae:IU f.subs≤3000000) I (hr:zN b2f I f.subs f.sv):Pure aW 114 [.agg (XH f).toArray,str codes] I (str (a0W f codes)):=by
 refine bY ?_;obtain⟨p2,c2,a7,O,a8⟩:=hr;refine yS.ob func114 ?_;intro w0 _;refine Cj.sr (aJ rfl (BG ?_));intro _ _;refine aA yQ ?_;refine J.yX (aA yQ ?_);refine J.zX (aC (aA (qq2 (off':=3) OX sizeOf90) ?_));refine aA (yV isAgg90 (yR.at 0 rfl)) ?_;refine dQ 9 rfl (show _= .slice p2 f.subs.length c2 from a7) ?_;refine aA (zZ a1D) ?_;refine aA yP ?_;refine J.ns (bP (iM (bC iT) ?_));refine gK (ι:=Nat×Gs) (fun j=>j.1≤f.subs.length∧BM w0.heap.size 1 (XK codes (f.subs.take j.1)).length ((XK codes (f.subs.take j.1)).map str) j.2) (fun j=>f.subs.length-j.1) (fun j=>[(1,str codes),(5,gV (XK codes (f.subs.take j.1)).length j.2),(9,.slice p2 f.subs.length c2),(10,i64 (f.subs.length:Int)),(11,i64 (j.1:Int))]) (fun j=>_) (fun j=>gH 9 ((XK codes (f.subs.take j.1)).map str) j.2) (0,none) ⟨dU _,rfl,rfl⟩ rT rfl rfl ?_;rintro⟨j,g⟩ ⟨hj,hg⟩;dsimp only at hj hg ⊢;have a9:=a8a codes (f.subs.take j);rw[bW,fE hj]at a9;refine Cj.sr (aA AV ?_);refine J.nss (dL rfl (fun O=>?_) (fun O=>?_))
 ·have a2:=BH O;refine aU (aO (cZ (bP (cZ ?_))));have a0:j<f.subs.length:=oM;obtain⟨sb,Q⟩:∃x,f.subs[j]?=some x:=⟨_,DC a0⟩;obtain⟨_,so,_,_,_,_,rfl,a3,aa⟩:=a8 (zT a0);have A:=c0Z (codes:=codes) Q;refine aC (aA (AU (off':=so+j*2) a1D WI) ?_);refine aA (FN isAgg89 WI (fQ a3) (DN a2i aa Q)) ?_;refine aJ rfl (CU a4g ?_);intro _ _;refine aJ rfl (AB 0 WI (bU (bU dW)) DZ.z ?_);refine J.yX (aA yP ?_);refine aA IW ?_;refine aA yP ?_;refine dR 17 rfl (fun h=>?_) (fun h=>?_)
  ·have a4:=DF h;have G:sel codes sb=true:=by unfold sel;rw[zI (DF h)];rfl
   rw[zG G]at A;refine AP 2 17 18 false h ?_;refine AP 2 17 19 false h ?_;refine AP 2 17 20 false h ?_;refine AP 2 17 21 false h ?_;refine AP 2 17 22 false h ?_;refine aA (EO h) ?_;refine J.c1 (fun _=>?_);refine aC (aA yP ?_);refine aA (qq2 (off':=1) a0z zS) ?_;refine aA (yV BR (yR.at 0 rfl)) ?_;refine aJ rfl (BQ AO zS JY (bZ rfl bI) ?_);intro _ _;refine aJ rfl (BI (by':=15) [_,_] rfl rfl rfl rfl rfl AO (.inr ⟨_,AO⟩) kR zS JY rfl hg rfl (fF (yR.at 0 rfl) rfl rfl rfl) oM ?_);intro g7 ab;refine aA yQ ?_;refine J.nil (aV (aO (aC (aA (yY rfl rfl rfl (zV oM)) ?_))));refine aA yP ?_;refine J.nil (dH (bC (bC dA)) ?_);refine bQ (j+1,g7) ⟨dO,by dsimp only;rw[A,aQ,aF];exact ab⟩ dO ⟨rfl,by dsimp only;rw[A,aF];rfl,rfl,rfl,rfl,trivial⟩ rfl (by dsimp only;rw[A,aQ];rfl)
  have a4:=DU h;have a1:codes≠[]:=DU h;refine zU 2 17 false h (zK yP ?_);refine zU 2 17 false h (zK (qq2 (off':=0) a0z VN) ?_);refine zU 2 17 false h (zK (yV tA5 (yR.at 0 rfl)) ?_);refine zU 2 17 false h (yU rfl rfl rfl rfl rfl (a0P _ _ _) ?_);refine zU 2 17 false h (zK (JQ rfl rfl rfl) ?_);refine aA (ED h) ?_;refine J.cd (fun N=>?_) (fun N=>?_)
  ·have a5:=BH N;have G:sel codes sb=true:=by unfold sel;rw[zJ a1,←a1a];exact N
   rw[zG G]at A;refine aC (aA yP ?_);refine aA (qq2 (off':=1) a0z zS) ?_;refine aA (yV BR (yR.at 0 rfl)) ?_;refine aJ rfl (BQ AO zS JY (bZ rfl bI) ?_);intro _ _;refine aJ rfl (BI (by':=15) [_,_] rfl rfl rfl rfl rfl AO (.inr ⟨_,AO⟩) kR zS JY rfl hg rfl (fF (yR.at 0 rfl) rfl rfl rfl) oM ?_);intro ac a6;refine aA yQ ?_;refine J.nil (aV (aO (aC (aA (yY rfl rfl rfl (zV oM)) ?_))));refine aA yP ?_;refine J.nil (dH (bC (bC dA)) ?_);refine bQ (j+1,ac) ⟨dO,by dsimp only;rw[A,aQ,aF];exact a6⟩ dO ⟨rfl,by dsimp only;rw[A,aF];rfl,rfl,rfl,rfl,trivial⟩ rfl (by dsimp only;rw[A,aQ];rfl)
  have a5:=BJ N;have G:¬sel codes sb=true:=by unfold sel;rw[zJ a1,←a1a];exact fun e=>aY (e.symm.trans N)
  rw[zF G]at A;refine aU (aV (aO (aC (aA (yY rfl rfl rfl (zV oM)) ?_))));refine aA yP ?_;refine J.nil (dH (bC dA) ?_);refine bQ (j+1,g) ⟨dO,by dsimp only;rw[A,aG];exact hg⟩ dO ⟨rfl,by dsimp only;rw[A,aG];rfl,rfl,rfl,rfl,trivial⟩ rfl (by dsimp only;rw[A,aG])
 have a2:=BJ O;refine gQ (dZ (dV (eF (aO (cZ ?_)))));have Z:f.subs.take j=f.subs:=aS oM;rw[Z]at hg ⊢;have ad:=a1d f codes;refine Cj.perm (H':=gH _ _ _++[]) (.of_eq (aG _)) ?_;refine Cj.ZY hg (fun _ _ hv=>?_);refine aC (aA yP ?_);refine aJ rfl (yU rfl rfl rfl rfl rfl (a4E (XK codes f.subs) _ (by have:=a8a codes f.subs;omega) (by have e:Ke.join (XK codes f.subs)=a0W f codes:=rfl;rw[e];omega) _ hv) ?_);refine aA yQ ?_;refine J.ns (aP (zM ?_));exact rT
theorem c3a f (hi:f.ind.length≤2000000) I:Pure aW 112 [.agg (XH f).toArray] I (i64 ((dK f:Nat):Int)):=by
 refine bY ?_;refine yS.ob func112 ?_;intro w0 _;refine Cj.sr (aJ rfl (BG ?_));intro _ _;refine aA yQ ?_;refine J.zX (aC (aA (qq2 (off':=0) OX zS) ?_));refine aA (yV BR (yR.at 0 rfl)) ?_;refine aA IW ?_;refine aA yP ?_;refine dR 6 rfl (fun A=>?_) (fun A=>?_)
 rotate_left
 ·have a2:=DU A;have O:¬f.tag=[50,52,53]:=DU A;refine AP 3 6 7 true A ?_;refine AP 3 6 8 true A ?_;refine AP 3 6 9 true A ?_;refine AP 3 6 10 true A ?_;refine aA (ED A) ?_;refine aA yP ?_;refine EJ 9 12 13 true ?_;refine EJ 9 12 14 true ?_;refine EJ 9 12 15 true ?_;refine EJ 9 12 16 true ?_;refine aA (ET rfl rfl rfl rfl) ?_;refine aA yP ?_;refine EJ 15 18 19 true ?_;refine EJ 15 18 20 true ?_;refine EJ 15 18 21 true ?_;refine EJ 15 18 22 true ?_;refine aA (ET rfl rfl rfl rfl) ?_;refine J.c0 (fun _=>?_);refine aU (aO (Cj.sr (aA yQ ?_)));refine J.ns (aP (bJ ?_));refine zM ?_;rw[show dK f=0 from zF O];exact rT
 have a2:=DF A;have O:f.tag=[50,52,53]:=DF A;refine zU 3 6 true A (zK (qq2 (off':=1) OX zS) ?_);refine zU 3 6 true A (zK (yV BR (yR.at 0 rfl)) ?_);refine zU 3 6 true A (zK (CG rfl rfl BU) ?_);refine zU 3 6 true A (zK (NV rfl rfl rfl) ?_);refine aA (EO A) ?_;refine aA yP ?_;refine dR 12 rfl (fun G=>?_) (fun G=>?_)
 rotate_left
 ·have a3:=BJ G;have a1:¬1<f.ind.length:=by have h:=BJ G;omega
  refine AP 9 12 13 true G ?_;refine AP 9 12 14 true G ?_;refine AP 9 12 15 true G ?_;refine AP 9 12 16 true G ?_;refine aA (ED G) ?_;refine aA yP ?_;refine EJ 15 18 19 true ?_;refine EJ 15 18 20 true ?_;refine EJ 15 18 21 true ?_;refine EJ 15 18 22 true ?_;refine aA (ET rfl rfl rfl rfl) ?_;refine J.c0 (fun _=>?_);refine aU (aO (Cj.sr (aA yQ ?_)));refine J.ns (aP (bJ ?_));refine zM ?_;rw[show dK f=fP f from zG O];rw[b3T a1];exact rT
 have a3:=BH G;have a1:1<f.ind.length:=by have h:=BH G;omega
 obtain⟨c,Q⟩:∃c,f.ind[1]?=some c:=⟨_,DC a1⟩;refine zU 9 12 true G (zK (qq2 (off':=1) OX zS) ?_);refine zU 9 12 true G (zK (yV BR (yR.at 0 rfl)) ?_);refine J.KY 9 12 true _ rfl rfl rfl G (JR (GK rfl rfl rfl BU oM Q) rfl rfl ?_);refine zU 9 12 true G (zK (JQ rfl rfl rfl) ?_);refine aA (EO G) ?_;refine aA yP ?_;refine dR 18 rfl (fun N=>?_) (fun N=>?_)
 ·have a4:=BH N;have a6:48≤c.toNat:=by have h:=BH N;omega
  refine zU 15 18 true N (zK (qq2 (off':=1) OX zS) ?_);refine zU 15 18 true N (zK (yV BR (yR.at 0 rfl)) ?_);refine J.KY 15 18 true _ rfl rfl rfl N (JR (GK rfl rfl rfl BU oM Q) rfl rfl ?_);refine zU 15 18 true N (zK (ZC rfl rfl rfl) ?_);refine aA (EO N) ?_;refine J.cd (fun Z=>?_) (fun Z=>?_)
  ·have a5:=BH Z;have a7:c.toNat≤57:=by have h:=BH Z;omega
   have a0:iD c=true:=by rw[Ix.VJ];simp only[zH];omega
   refine Cj.sr (aA (qq2 (off':=1) OX zS) ?_);refine aA (yV BR (yR.at 0 rfl)) ?_;refine aA (GK rfl rfl rfl BU oM Q) ?_;refine aA (EP rfl rfl rfl (w8 oM)) ?_;refine aA (NZ rfl rfl XL tU3) ?_;refine dQ 28 rfl (show _=i64 ((c.toNat-48:Nat):Int) from(zD i64 ((zV oM).trans oM))) ?_;refine aA yQ ?_;refine J.ns (aP (bD (bJ ?_)));refine zM ?_;rw[show dK f=fP f from zG O];rw[a3H Q,zG a0];exact rT
  ·have a5:=BJ Z;have a0:¬iD c=true:=by rw[Ix.VJ];have h:=BJ Z;simp only[zH];omega
   refine aU (aO (Cj.sr (aA yQ ?_)));refine J.ns (aP (bJ ?_));refine zM ?_;rw[show dK f=fP f from zG O];rw[a3H Q,zF a0];exact rT
 ·have a4:=BJ N;have a0:¬iD c=true:=by rw[Ix.VJ];have h:=BJ N;simp only[zH];omega
  refine AP 15 18 19 true N ?_;refine AP 15 18 20 true N ?_;refine AP 15 18 21 true N ?_;refine AP 15 18 22 true N ?_;refine aA (ED N) ?_;refine J.c0 (fun _=>?_);refine aU (aO (Cj.sr (aA yQ ?_)));refine J.ns (aP (bJ ?_));refine zM ?_;rw[show dK f=fP f from zG O];rw[a3H Q,zF a0];exact rT
theorem c0E s I:Pure aW 220 [str s] I (.bool (decide (s.length=4))):=by
 refine bY ?_;refine yS.ob func220 ?_;intro w0 _;refine Cj.sr (aA yQ ?_);refine J.yX (aA yP ?_);refine aA (CG rfl rfl BU) ?_;refine aA DW ?_;refine dQ 5 rfl (show _= .bool (decide (s.length=4)) from(zD Value.bool (by rw[fC,beq_iff_eq,zH];omega))) ?_;refine aA yQ ?_;refine J.ns (aP (zM ?_));exact rT
theorem b2v(c:Nat) I:Pure aW 218 [.int .i32 (c:Int)] I (.bool (Ix.nod c)):=by
 refine bY ?_;refine yS.ob func218 ?_;intro w0 _;refine Cj.sr (aA yQ ?_);refine J.yX (aA yP ?_);refine aA AV ?_;refine aA yP ?_;refine dR 5 rfl (fun A=>?_) (fun A=>?_)
 ·have G:=BH A;refine AP 2 5 6 false A ?_;refine AP 2 5 7 false A ?_;refine aA (EO A) ?_;refine aA yQ ?_;refine J.ns (aP (zM ?_));have e:Ix.nod c=true:=by unfold Ix.nod;have h:=BH A;rw[zI (oM:c<48)];rfl
  rw[e];exact rT
 have G:=BJ A;refine zU 2 5 false A (zK yP ?_);refine zU 2 5 false A (zK (NV rfl rfl rfl) ?_);refine aA (ED A) ?_;refine aA yQ ?_;refine J.ns (aP (zM ?_));refine⟨?_,rfl⟩;have h:=BJ A;unfold Ix.nod;rw[zJ (oM:¬c<48),Bool.false_or];exact zD (fun b=>Ending.returned (Value.bool b)) (decide_eq_decide.2 oM)
theorem a9B s (hs:s.length≤4000000000) I:yS aW 217 [str s,.func (.func 218) #[] #[]] I [] (fun e N H'=>∃v,e= .returned v∧KA 9 N (dS s) v∧H'=[]):=by
 have hz:∀x:Nat,x≤1114111→∀W:World,Calls aW 218 #[.int .i32 (x:Int)] W fun e w'=>e= .returned (.bool (Ix.nod x))∧RowKit.Below W.heap.size W w':=fun x _ W=>by
  have h:=(b2v x (fun _=>none)).2 W (by unfold Ready;exact⟨(fun b o O=>by cases O),(fun p A=>by cases A),List.Pairwise.nil,(fun p A=>by cases A)⟩);exact h.mono fun e w' ⟨N,H',hs,Q,_⟩=>⟨Q,hs.os,hs.tape,hs.output,hs.size,fun k Z=>hs.frm k Z sI⟩
 have G:Lib.goFieldsP Ix.nod ⟨s.toArray⟩=(dS s).map fun x=>⟨x.toArray⟩:=Ix.fieldsD s;refine yS.c4C (vals:=((dS s).map fun x=>(⟨x.toArray⟩:ByteArray)).map Value.string) (by rw[dN];rfl) (Enters.of func217 dE rfl) fun w=>?_;have h:=Tryz.strings_FieldsFunc_grows 218 #[] (enters_of func218 kR rfl) Ix.nod ⟨s.toArray⟩ w (by rw[size_mk];omega) (fun W x hx _=>hz x hx W);rw[G,dD]at h;exact h
theorem a9J l v G g N (hl:l.length≤100000000000000) I (hr:XD I l v)(a2:∀x∈l,Pure aW g (str x::N) I (.bool (G x))):Pure aW 219 [v,.func (.func g) #[] N.toArray] I (i64 (YL G l)):=by
 refine bY ?_;obtain⟨p,c,rfl,_,hp⟩:=hr;refine yS.ob func219 ?_;intro w0 _;refine Cj.sr (aA yQ ?_);refine J.zX (aC (aA yP ?_));refine aA (zZ AO) ?_;refine aA yP ?_;refine J.ns (bP (gK (ι:=Nat) (fun j=>j≤l.length∧∀x∈l.take j,G x=false) (fun j=>l.length-j) (fun j=>[(0,.slice p l.length c),(1,.func (.func g) #[] N.toArray),(7,i64 (l.length:Int)),(8,i64 (j:Int))]) (fun j=>I) (fun j=>[]) 0 ⟨dU _,fun g hg=>by simp at hg⟩ rT rfl rfl ?_));rintro j ⟨_,h⟩;refine Cj.sr (aA AV ?_);refine J.nss (dL rfl (fun O=>?_) (fun O=>?_))
 ·have a1:=BH O;have a0:j<l.length:=oM;obtain⟨x,A⟩:∃x,l[j]?=some x:=⟨_,DC a0⟩;obtain⟨_,fo,_,_,_,sp,rfl,a3,a4⟩:=hp (zT a0);refine aU (aO (cZ (bP (Cj.sr (aA yP ?_)))));refine aA yQ ?_;refine J.yX (aA yP ?_);refine aA yP ?_;refine aA yP ?_;refine aA (AU (off':=fo+j) AO zS) ?_;refine aA (EF BR (fQ a3) (a5w a4 A)) ?_;refine aJ rfl (yU rfl rfl rfl rfl rfl (a2 x (FQ A)) ?_);refine J.cd (fun Q=>?_) (fun Q=>?_)
  ·have ht:G x=true:=Q;refine Cj.sr (aA yP ?_);refine aA yQ ?_;refine J.ns (aP (bK (bD (Ej.NC (bK (bD (zM ?_)))))));rw[a4D h A ht];exact rT
  have a5:G x=false:=Q;refine aU (aV (aO (aC (aA (yY rfl rfl rfl (zV oM)) ?_))));refine aA yP ?_;refine J.nil (bQ (j+1) ⟨oM,a0f h A a5⟩ oM rT rfl rfl)
 have a1:=BJ O;have Z:l.take j=l:=aS oM;rw[Z]at h;refine gQ (dZ (dV (eF (aO (Cj.sr (aA yQ ?_))))));refine J.ns (aP (zM ?_));rw[a1y h];exact rT
theorem a1g:∀(s w:List UInt8),(iR w s).length≤s.length+w.length
 |[],w=>by
  unfold iR
  split
  ·simp
  rename_i h;have:0<w.length:=gB.2 h;simp only[bM,dF];omega
 |c::r,w=>by
  unfold iR
  split
  ·have:=a1g r (w++[c]);rw[aF]at this;simp only[bM,dF]at this ⊢;omega
  split
  ·have:=a1g r [];simp only[dF,bM]at this ⊢;omega
  rename_i h
  have:=a1g r [];have A:0<w.length:=gB.2 h;simp only[dF,bM]at this ⊢;omega
theorem b7E s:(dS s).length≤s.length:=by
 have:=a1g s [];exact this
theorem b9U s (hs:s.length≤100000000) I:Pure aW 164 [str s] I (.tuple #[str ((dG s).getD []),.bool (dG s).isSome]):=by
 refine bY ?_;have a3:=b7E s;refine yS.ob func164 ?_;intro w0 _;refine Cj.sr (aA yQ ?_);refine aA yQ ?_;refine J.yX (aA yP ?_);refine aJ rfl (yT (H1:=[]) rfl rfl rfl rfl rfl (a9B s oM _) ?_ (fun _ _ _ _ ⟨_,h,_⟩=>by cases h) (fun _ _ ⟨_,h,_⟩=>by cases h));intro _ _ _ _ Q;obtain⟨_,h,Z,rfl⟩:=Q;cases h;refine aA yQ ?_;refine J.yX (aA yP ?_);refine aJ rfl (yU rfl rfl rfl rfl rfl (a9J (dS s) _ four 220 [] oM _ (XD.of Z) (fun x _=>c0E x _)) ?_);refine aA yQ ?_;refine J.zX (aC (aA yP ?_));refine aA AV ?_;refine J.cd (fun O=>?_) (fun O=>?_)
 ·have A:=BH O;have G:dG s=none:=((QG four (dS s)).resolve_right (fun⟨k,x,h,_⟩=>by rw[h]at A;omega)).2;refine Cj.sr (aA yQ ?_);refine aA yQ ?_;refine J.ns (aP (bD (bV rfl rfl rfl rfl ?_)));rw[G];exact rT
 have A:=BJ O;obtain⟨k,y,a0,N,G⟩:=(QG four (dS s)).resolve_left (fun h=>by rw[h.1]at A;omega);obtain⟨_,_,_,rfl,a1⟩:=Z.some (fun e=>by rw[e]at N;cases N);rw[a0];have a2:=(aH.1 N).1;refine aU (aO (Cj.sr (aA yP ?_)));refine aA yP ?_;refine aA (AU (off':=k) AO zS) ?_;refine aA (EF BR (fQ a1) (JL N)) ?_;refine aA yQ ?_;refine aA yQ ?_;refine J.ns (aP (bV rfl rfl rfl rfl ?_));rw[show dG s=some y from G];exact rT
def UK (u:List UInt8→List UInt8×Bool) (code:UInt8) (s:eH):Option (List UInt8):=if (u s.text).2=true∧s.code=code then some (u s.text).1 else none
def uy (s:List UInt8):List UInt8×Bool:=((dG s).getD [],(dG s).isSome)
theorem c2Q:UK uy 99=Ix.yr:=by
 funext s
 unfold UK uy Ix.yr
 by_cases h:s.code=99
 ·rw[zG h];cases hy:dG s.text with
  |none=>simp
  |some y=>simp[h]
 rw[zF h,zF (fun g=>h g.2)]
theorem c3u{u code}{ss:List eH}{k s}(h:ss[k]?=some s):(ss.take (k+1)).filterMap (UK u code)=(ss.take k).filterMap (UK u code)++(if (u s.text).2=true∧s.code=code then[(u s.text).1]else[]):=by
 obtain⟨A,hg⟩:=aH.1 h;rw[aN A,hg,List.filterMap_append]
 by_cases hc:(u s.text).2=true∧s.code=code
 ·rw[zG hc];simp[UK,hc]
 rw[zF hc];simp[UK,hc]
theorem pre_eq{s p:List UInt8}(h:p.length≤s.length):p.isPrefixOf s=((s.take p.length).drop 0 == p):=by
 rw[iK,fC,dY,beq_iff_eq,List.prefix_iff_eq_take];exact⟨fun e=>e.symm,fun e=>e.symm⟩
theorem c4n{s p:List UInt8}(h:¬p.length≤s.length):p.isPrefixOf s=false:=by
 rw[gW,Ne,dY];exact fun e=>h e.length_le
theorem NT{T I l v}(h:KA T I l v):∃p c,v= .slice p l.length c:=by
 rcases h with⟨rfl,rfl⟩|⟨b,c,sp,rfl,_,_⟩
 ·exact⟨none,0,rfl⟩
 exact⟨_,c,rfl⟩
theorem a4a{I l a b w}(h:KA 9 I l w)(A:fU a=true)(G:fU b=true):[a,b,w].all fU=true:=by
 obtain⟨p,c,rfl⟩:=NT h;simp only[List.all_cons,List.all_nil,A,G,Bool.and_true,Bool.true_and];rfl
def EOK (fs:List iQ):Prop:=fs.length≤1000∧∀f∈fs,f.subs.length≤1000∧IU f.subs≤3000000∧f.ind.length≤2000000
theorem EOK.fok{fs}(h:EOK fs):FOK fs:=⟨by have:=h.1;omega,fun f hf=>by have:=h.2 f hf;exact⟨oM,this.2.1,this.2.2⟩⟩
abbrev VW:=Ix.V×Value
def vwC (x:VW):List Value:=[str x.1.name,str x.1.key,x.2]
theorem a0q x:(vwC x).length=3:=rfl
def QY (I:Heap) (xs:List VW) (vs:List Ix.V):Prop:=xs.map (·.1)=vs∧∀x∈xs,KA 9 I x.1.ws x.2
theorem QY.mono{I A xs vs}(h:QY I xs vs)(G:Le I A):QY A xs vs:=⟨h.1,fun x N=>(h.2 x N).mono G⟩
theorem QY.len{I xs vs}(h:QY I xs vs):xs.length=vs.length:=by rw[←h.1,dD]
theorem QY.add{I xs vs}(h:QY I xs vs){v w}(A:KA 9 I v.ws w):QY I (xs++[(v,w)]) (vs++[v]):=
 ⟨by rw[aQ,h.1];rfl,fun x G=>by
  rcases fD.1 G with g|g
  ·exact h.2 x g
  rw[aI.1 g];exact A⟩
def UN (I:Heap) (vs:List Ix.V) (v:Value):Prop:=∃xs,RH 159 vwC I xs v∧QY I xs vs
theorem UN.mono{I G vs v}(h:UN I vs v)(A:Le I G):UN G vs v:=let ⟨xs,N,O⟩:=h;⟨xs,N.mono A,O.mono A⟩
theorem a8G f (h:f.subs.length≤1000):(aB f).2.length≤1000:=by
 unfold aB
 repeat' split
 all_goals first
  |exact KT (eP _ _) h
  |simp
theorem b3D{p:eH→Option (List UInt8)}{ss:List eH}{s:List UInt8}{n:Nat}(A:∀x∈ss,∀y,p x=some y→y.length≤n)(h:s∈ss.filterMap p):s.length≤n:=by
 obtain⟨x,G,N⟩:=List.mem_filterMap.1 h;exact A x G s N
theorem b0m s:(Ke.YB s).1.length≤13:=by
 unfold Ke.YB Ke.a9M
 split
 ·simp only[aF,bW,bM,dF];omega
 split
 ·rename_i h;have:=h.1;dsimp only;omega
 simp
theorem b4G{s y}(h:dG s=some y):y.length=4:=by
 have A:=List.find?_some h;exact BH A
theorem a2m{f s}(h:s∈(aB f).2):s.length≤IU f.subs+f.subs.length+13:=by
 have G:∀c:List UInt8,(aT f c).length≤IU f.subs+f.subs.length:=WR f;unfold aB at h
 repeat' split at h
 all_goals first
  |(rw[aI]at h;rw[h];have:=G [97,98];have:=G [97];have:=G [97,120];omega)
  |(refine KT (b3D (n:=13) (fun x _ y A=>?_) h) oM;unfold Ke.isb at A;split at A;(cases A;exact b0m _);cases A)
  |(refine KT (b3D (n:=13) (fun x _ y A=>?_) h) oM;unfold Ix.yr at A;split at A;(have:=b4G A;omega);cases A)
  |cases h
theorem b7T f (h:f.subs.length≤1000):(eU f).length≤1001:=by
 have:=a8G f h;unfold eU;rw[aF,dD]
 split<;>simp<;>omega
theorem a8l fs (h:EOK fs) j:(dM (fs.take j)).length≤j*1001:=by
 induction j with
 |zero=>simp[dM]
 |succ j G=>
  rcases gI j fs.length with A|A
  ·rw[aN A];unfold dM at G ⊢;rw[bF,aF];have:=b7T fs[j] (h.2 _ (List.getElem_mem A)).1;simp only[gU,List.flatMap_nil,aG];omega
  rw[aS A]at G;rw[aS (show fs.length≤j+1 by omega)];exact KT G (Nat.mul_le_mul_right _ (Nat.le_succ j))
theorem a3m{fs:List iQ}{j f}(h:fs[j]?=some f):dM (fs.take (j+1))=dM (fs.take j)++eU f:=by
 obtain⟨A,hg⟩:=aH.1 h;rw[aN A,hg];unfold dM;rw[bF];simp
abbrev nv (f:iQ) (s:List UInt8):Ix.V:=⟨(aB f).1,s,dK f⟩
theorem a9V{α β:Type}(g:α→β){l:List α}{k x}(h:l[k]?=some x):(l.take (k+1)).map g=(l.take k).map g++[g x]:=by
 obtain⟨A,hg⟩:=aH.1 h;rw[aN A,hg,aQ];rfl
structure VA where
  j:Nat
  J:Heap
  xs:List VW
  g:Gs
theorem a9x s p (O:p.length≤1000000) I:Pure aW 92 [str s,str p] I (.bool (p.isPrefixOf s)):=by
 refine bY ?_;refine yS.ob func92 ?_;intro w0 _;refine Cj.sr (aA yQ ?_);refine J.yX (aA yP ?_);refine aA (CG rfl rfl BU) ?_;refine aA yP ?_;refine aA (CG rfl rfl BU) ?_;refine aA (JQ rfl rfl rfl) ?_;refine aA yP ?_;refine dR 10 rfl (fun A=>?_) (fun A=>?_)
 ·have N:=BH A;have G:p.length≤s.length:=by have h:=BH A;omega
  refine zU 5 10 true A (zK yP ?_);refine zU 5 10 true A (zK yP ?_);refine zU 5 10 true A (zK (CG rfl rfl BU) ?_);refine J.KY 5 10 true _ rfl rfl rfl A (JR (EC (p:=0) (q:=p.length) rfl rfl BU rfl ⟨_,rfl⟩ oM oM) rfl rfl ?_);refine zU 5 10 true A (zK yP ?_);refine zU 5 10 true A (zK IW ?_);refine aA (EO A) ?_;refine aA yQ ?_;refine J.ns (aP (zM ?_));refine⟨?_,rfl⟩;rw[pre_eq G]
 have N:=BJ A;have G:¬p.length≤s.length:=by have h:=BJ A;omega
 refine AP 5 10 11 true A ?_;refine AP 5 10 12 true A ?_;refine AP 5 10 13 true A ?_;refine AP 5 10 14 true A ?_;refine AP 5 10 15 true A ?_;refine AP 5 10 16 true A ?_;refine aA (ED A) ?_;refine aA yQ ?_;refine J.ns (aP (zM ?_));rw[c4n G];exact rT
theorem a0J s p (h:p.length≤1000000) I:Pure aW 56 [str s,str p] I (.bool (p.isPrefixOf s)):=by
 refine bY ?_;refine yS.ob func56 ?_;intro w0 _;refine Cj.sr (aA yQ ?_);refine J.yX (aA yP ?_);refine aA yP ?_;refine aJ rfl (yU rfl rfl rfl rfl rfl (a9x s p h _) ?_);refine aA yQ ?_;refine J.ns (aP (zM ?_));exact rT
theorem a4m f code g0 u (hn:f.subs.length≤2000000)(aa:IU f.subs≤3000000)(hu:∀s J,s.length≤100000000→Pure aW g0 [str s] J (.tuple #[str (u s).1,.bool (u s).2])) I (hr:zN b2f I f.subs f.sv):yS aW 163 [.agg (XH f).toArray,u8 code,.func (.func g0) #[] #[]] I []
 (fun e I' H'=>∃v,e= .returned v∧KA 9 I' (f.subs.filterMap (UK u code)) v∧H'=[]):=by
 obtain⟨p2,c2,a5,O,a6⟩:=hr;refine yS.ob func163 ?_;intro w0 _;refine Cj.sr (aJ rfl (BG ?_));intro _ _;refine aA yQ ?_;refine J.yX (aA yQ ?_);refine J.zX (aC (aA (qq2 (off':=3) OX sizeOf90) ?_));refine aA (yV isAgg90 (yR.at 0 rfl)) ?_;refine dQ 13 rfl (show _= .slice p2 f.subs.length c2 from a5) ?_;refine aA (zZ a1D) ?_;refine aA yP ?_;refine J.ns (bP (iM (bC iT) ?_));refine gK (ι:=Nat×Gs) (fun j=>j.1≤f.subs.length∧BM w0.heap.size 1 ((f.subs.take j.1).filterMap (UK u code)).length (((f.subs.take j.1).filterMap (UK u code)).map str) j.2) (fun j=>f.subs.length-j.1) (fun j=>[(1,u8 code),(2,.func (.func g0) #[] #[]),(7,gV ((f.subs.take j.1).filterMap (UK u code)).length j.2),(13,.slice p2 f.subs.length c2),(14,i64 (f.subs.length:Int)),(15,i64 (j.1:Int))]) (fun j=>_) (fun j=>gH 9 (((f.subs.take j.1).filterMap (UK u code)).map str) j.2) (0,none) ⟨dU _,rfl,rfl⟩ rT rfl rfl ?_;rintro⟨j,g⟩ ⟨hj,hg⟩;dsimp only at hj hg ⊢;have a7:=eP (UK u code) (f.subs.take j);rw[bW,fE hj]at a7;refine Cj.sr (aA AV ?_);refine J.nss (dL rfl (fun O=>?_) (fun O=>?_))
 ·have a2:=BH O;refine aU (aO (cZ (bP (cZ ?_))));have a1:j<f.subs.length:=oM;obtain⟨sb,N⟩:∃x,f.subs[j]?=some x:=⟨_,DC a1⟩;obtain⟨_,so,_,_,_,_,rfl,a3,a8⟩:=a6 (zT a1);have ab:=c0F (FQ N);have A:=c3u (u:=u) (code:=code) N;refine aC (aA (AU (off':=so+j*2) a1D WI) ?_);refine aA (FN isAgg89 WI (fQ a3) (DN a2i a8 N)) ?_;refine aJ rfl (CU a4g ?_);intro _ _;refine aJ rfl (AB 0 WI (bU (bU dW)) DZ.z ?_);refine J.yX (aA yP ?_);refine aA (qq2 (off':=1) a0z zS) ?_;refine aA (yV BR (yR.at 0 rfl)) ?_;refine aJ rfl (yU rfl rfl rfl rfl rfl (hu sb.text _ oM) ?_);refine aA yP ?_;refine aA AZ ?_;refine aA AZ ?_;refine aA yQ ?_;refine aA yQ ?_;refine J.yX (aA (qq2 (off':=0) a0z VN) ?_);refine aA (yV tA5 (yR.at 0 rfl)) ?_;refine aA yP ?_;refine aA DW ?_;refine aA yP ?_;refine dR 30 rfl (fun G=>?_) (fun G=>?_)
  rotate_left
  ·have a4:=DU G;have Q:sb.code≠code:=fun e=>DU G (by rw[e]);rw[zF (fun g=>Q g.2)]at A;refine AP 4 30 31 true G ?_;refine aA (ED G) ?_;refine J.c0 (fun _=>?_);refine aU (aV (aO (aC (aA (yY rfl rfl rfl (zV oM)) ?_))));refine aA yP ?_;refine J.nil (dH (bC dA) ?_);refine bQ (j+1,g) ⟨dO,by dsimp only;rw[A,aG];exact hg⟩ dO ⟨rfl,rfl,by dsimp only;rw[A,aG];rfl,rfl,rfl,rfl,trivial⟩ rfl (by dsimp only;rw[A,aG])
  have a4:=DF G;have Q:sb.code=code:=UInt8.toNat_inj.1 (by have h:=DF G;omega);refine zU 4 30 true G (zK yP ?_);refine aA (EO G) ?_;refine J.cd (fun Z=>?_) (fun Z=>?_)
  ·rw[zG ⟨Z,Q⟩]at A;refine aC (aA yP ?_);refine aA yP ?_;refine aJ rfl (BQ AO zS JY (bZ rfl bI) ?_);intro _ _;refine aJ rfl (BI (by':=15) [_,_] rfl rfl rfl rfl rfl AO (.inr ⟨_,AO⟩) kR zS JY rfl hg rfl (fF (yR.at 0 rfl) rfl rfl rfl) oM ?_);intro g7 a9;refine aA yQ ?_;refine J.nil (aV (aO (aC (aA (yY rfl rfl rfl (zV oM)) ?_))));refine aA yP ?_;refine J.nil (dH (bC (bC dA)) ?_);refine bQ (j+1,g7) ⟨dO,by dsimp only;rw[A,aQ,aF];exact a9⟩ dO ⟨rfl,rfl,by dsimp only;rw[A,aF];rfl,rfl,rfl,rfl,trivial⟩ rfl (by dsimp only;rw[A,aQ];rfl)
  rw[zF (fun g=>aY (g.1.symm.trans Z))]at A;refine aU (aV (aO (aC (aA (yY rfl rfl rfl (zV oM)) ?_))));refine aA yP ?_;refine J.nil (dH (bC dA) ?_);refine bQ (j+1,g) ⟨dO,by dsimp only;rw[A,aG];exact hg⟩ dO ⟨rfl,rfl,by dsimp only;rw[A,aG];rfl,rfl,rfl,rfl,trivial⟩ rfl (by dsimp only;rw[A,aG])
 have a2:=BJ O;refine gQ (dZ (dV (eF (aO (cZ ?_)))));have a0:f.subs.take j=f.subs:=aS oM;rw[a0]at hg ⊢;refine Cj.perm (H':=gH _ _ _++[]) (.of_eq (aG _)) ?_;refine Cj.ZY hg (fun _ _ hv=>?_);refine aC (aA yP ?_);refine aA yQ ?_;refine J.ns (aP (zM ?_));exact⟨_,rfl,hv,rfl⟩
theorem named_ok f (hn:f.subs.length≤2000000)(G:IU f.subs≤3000000) I (hr:zN b2f I f.subs f.sv):yS aW 110 [.agg (XH f).toArray] I []
 (fun e I' H'=>∃v,e= .returned (.tuple #[str (aB f).1,v])∧KA 9 I' (aB f).2 v∧H'=[]):=by
 refine yS.ob func110 ?_;intro w0 _;refine Cj.sr (aJ rfl (BG ?_));intro _ _;refine aA yQ ?_;refine aA yQ ?_;refine J.zX (aC (aA (qq2 (off':=0) OX zS) ?_));refine aA (yV BR (yR.at 0 rfl)) ?_;refine J.ns (bP (cZ (Cj.sr (aA IW ?_))));refine aA yQ ?_;refine J.cd (fun a3=>?_) (fun a3=>?_)
 ·have au:=DF a3;refine aU (aO (dL rfl (fun ar=>?_) (fun ar=>aY (iE (iO a3) ar))));refine Cj.sr (aA (zW QT JO (yR.at 0 rfl)) ?_);refine aJ rfl (yU rfl rfl rfl rfl rfl (RG f [97,98] hn G _ hr) ?_);refine dQ 10 rfl (show _=str (aT f [97,98]) from(zD str (UW (bG _ _)))) ?_;refine aJ rfl (BQ AO zS JY (bZ rfl bI) ?_);intro b4 b7;refine aA yQ ?_;refine aA yQ ?_;refine J.ns (aP (bK (bD ?_)));have A:aB f=(Ix.a3I,[aT f [97,98]]):=by simp[aB, *]
  rw[A];refine dI b7 (fun _ av aw=>?_);have hr:=hr.mono av;refine bJ ?_;refine bV rfl rfl rfl rfl ?_;exact⟨_,rfl,.inr ⟨b4,1,[],rfl,aX _,aw⟩,rfl⟩
 have au:=DU a3;refine aC (aA IW ?_);refine aA yQ ?_;refine J.cd (fun a4=>?_) (fun a4=>?_)
 ·have ax:=DF a4;refine Cj.sr (aA (zW QT JO (yR.at 0 rfl)) ?_);refine aJ rfl (yU rfl rfl rfl rfl rfl (RG f [97,98] hn G _ hr) ?_);refine dQ 10 rfl (show _=str (aT f [97,98]) from(zD str (UW (bG _ _)))) ?_;refine aJ rfl (BQ AO zS JY (bZ rfl bI) ?_);intro b8 hb8;refine aA yQ ?_;refine aA yQ ?_;refine J.ns (aP (bK (bD ?_)));have A:aB f=(Ix.a3I,[aT f [97,98]]):=by simp[aB, *]
  rw[A];refine dI hb8 (fun _ ay az=>?_);have hr:=hr.mono ay;refine bJ ?_;refine bV rfl rfl rfl rfl ?_;exact⟨_,rfl,.inr ⟨b8,1,[],rfl,aX _,az⟩,rfl⟩
 have ax:=DU a4;refine cZ (Cj.sr (aA IW ?_));refine aA yQ ?_;refine J.cd (fun N=>?_) (fun N=>?_)
 ·have a8:=DF N;refine aU (aO (dL rfl (fun a5=>?_) (fun a5=>aY (iE (iO N) a5))));refine Cj.sr (aA (zW QT JO (yR.at 0 rfl)) ?_);refine aJ rfl (yU rfl rfl rfl rfl rfl (RG f [97] hn G _ hr) ?_);refine dQ 17 rfl (show _=str (aT f [97]) from(zD str (UW (bG _ _)))) ?_;refine aJ rfl (BQ AO zS JY (bZ rfl bI) ?_);intro b9 b0;refine aA yQ ?_;refine aA yQ ?_;refine J.ns (aP (bK (bD ?_)));have A:aB f=(iH,[aT f [97]]):=by simp[aB, *]
  rw[A];refine dI b0 (fun _ a9 aa=>?_);have hr:=hr.mono a9;refine bJ ?_;refine bV rfl rfl rfl rfl ?_;exact⟨_,rfl,.inr ⟨b9,1,[],rfl,aX _,aa⟩,rfl⟩
 have a8:=DU N;refine Cj.sr (aA IW ?_);refine aA yQ ?_;refine J.cd (fun O=>?_) (fun O=>?_)
 ·have ab:=DF O;refine aU (aO (dL rfl (fun a6=>?_) (fun a6=>aY (iE (iO O) a6))));refine Cj.sr (aA (zW QT JO (yR.at 0 rfl)) ?_);refine aJ rfl (yU rfl rfl rfl rfl rfl (RG f [97] hn G _ hr) ?_);refine dQ 17 rfl (show _=str (aT f [97]) from(zD str (UW (bG _ _)))) ?_;refine aJ rfl (BQ AO zS JY (bZ rfl bI) ?_);intro ba b1;refine aA yQ ?_;refine aA yQ ?_;refine J.ns (aP (bK (bD ?_)));have A:aB f=(iH,[aT f [97]]):=by simp[aB, *]
  rw[A];refine dI b1 (fun _ ac ad=>?_);have hr:=hr.mono ac;refine bJ ?_;refine bV rfl rfl rfl rfl ?_;exact⟨_,rfl,.inr ⟨ba,1,[],rfl,aX _,ad⟩,rfl⟩
 have ab:=DU O;refine aC (aA IW ?_);refine aA yQ ?_;refine J.cd (fun Z=>?_) (fun Z=>?_)
 ·have ae:=DF Z;refine Cj.sr (aA (zW QT JO (yR.at 0 rfl)) ?_);refine aJ rfl (yU rfl rfl rfl rfl rfl (RG f [97] hn G _ hr) ?_);refine dQ 17 rfl (show _=str (aT f [97]) from(zD str (UW (bG _ _)))) ?_;refine aJ rfl (BQ AO zS JY (bZ rfl bI) ?_);intro bb b2;refine aA yQ ?_;refine aA yQ ?_;refine J.ns (aP (bK (bD ?_)));have A:aB f=(iH,[aT f [97]]):=by simp[aB, *]
  rw[A];refine dI b2 (fun _ af ag=>?_);have hr:=hr.mono af;refine bJ ?_;refine bV rfl rfl rfl rfl ?_;exact⟨_,rfl,.inr ⟨bb,1,[],rfl,aX _,ag⟩,rfl⟩
 have ae:=DU Z;refine cZ (Cj.sr (aA IW ?_));refine aA yQ ?_;refine J.cd (fun Q=>?_) (fun Q=>?_)
 ·have ah:=DF Q;refine aU (aO (dL rfl (fun a7=>?_) (fun a7=>aY (iE (iO Q) a7))));refine Cj.sr (aA (zW QT JO (yR.at 0 rfl)) ?_);refine aJ rfl (yU rfl rfl rfl rfl rfl (RG f [97,120] hn G _ hr) ?_);refine dQ 23 rfl (show _=str (aT f [97,120]) from(zD str (UW (bG _ _)))) ?_;refine aJ rfl (BQ AO zS JY (bZ rfl bI) ?_);intro bc b3;refine aA yQ ?_;refine aA yQ ?_;refine J.ns (aP (bK (bD ?_)));have A:aB f=(Ix.a5L,[aT f [97,120]]):=by simp[aB, *]
  rw[A];refine dI b3 (fun _ ai aj=>?_);have hr:=hr.mono ai;refine bJ ?_;refine bV rfl rfl rfl rfl ?_;exact⟨_,rfl,.inr ⟨bc,1,[],rfl,aX _,aj⟩,rfl⟩
 have ah:=DU Q;refine aC (aA IW ?_);refine aA yQ ?_;refine J.cd (fun a0=>?_) (fun a0=>?_)
 ·have ak:=DF a0;refine Cj.sr (aA (zW QT JO (yR.at 0 rfl)) ?_);refine aJ rfl (yU rfl rfl rfl rfl rfl (RG f [97,120] hn G _ hr) ?_);refine dQ 23 rfl (show _=str (aT f [97,120]) from(zD str (UW (bG _ _)))) ?_;refine aJ rfl (BQ AO zS JY (bZ rfl bI) ?_);intro bd hb31;refine aA yQ ?_;refine aA yQ ?_;refine J.ns (aP (bK (bD ?_)));have A:aB f=(Ix.a5L,[aT f [97,120]]):=by simp[aB, *]
  rw[A];refine dI hb31 (fun _ al am=>?_);have hr:=hr.mono al;refine bJ ?_;refine bV rfl rfl rfl rfl ?_;exact⟨_,rfl,.inr ⟨bd,1,[],rfl,aX _,am⟩,rfl⟩
 have ak:=DU a0;refine Cj.sr (aA IW ?_);refine aA yQ ?_;refine J.cd (fun a1=>?_) (fun a1=>?_)
 ·have an:=DF a1;refine Cj.sr (aA (zW QT JO (yR.at 0 rfl)) ?_);refine aJ rfl (yT (H1:=[]) rfl rfl rfl rfl rfl (a4m f 97 86 Ke.YB hn G (fun s J h=>a7w s h J) _ hr) ?_ (fun _ _ _ _ ⟨_,h,_⟩=>by cases h) (fun _ _ ⟨_,h,_⟩=>by cases h));intro _ _ _ ao b5;have hr:=hr.mono ao;obtain⟨vl,h,hv,rfl⟩:=b5;cases h;refine aA yQ ?_;refine aA yQ ?_;refine J.ns (aP (bK (bD ?_)));have A:aB f=(Ix.a7m,f.subs.filterMap Ke.isb):=by simp[aB, *]
  rw[A];refine bJ ?_;refine bV rfl rfl rfl rfl ?_;exact⟨_,rfl,hv,rfl⟩
 have an:=DU a1;refine Cj.sr (aA IW ?_);refine aA yQ ?_;refine J.cd (fun a2=>?_) (fun a2=>?_)
 ·have ap:=DF a2;refine Cj.sr (aA (zW QT JO (yR.at 0 rfl)) ?_);refine aJ rfl (yT (H1:=[]) rfl rfl rfl rfl rfl (a4m f 99 164 uy hn G (fun s J h=>b9U s h J) _ hr) ?_ (fun _ _ _ _ ⟨_,h,_⟩=>by cases h) (fun _ _ ⟨_,h,_⟩=>by cases h));intro _ _ _ aq b6;have hr:=hr.mono aq;obtain⟨vl,h,hv,rfl⟩:=b6;cases h;refine aA yQ ?_;refine aA yQ ?_;refine J.ns (aP (bK (bD ?_)));have A:aB f=(Ix.c1C,f.subs.filterMap Ix.yr):=by simp[aB, *]
  rw[A];refine bJ ?_;refine bV rfl rfl rfl rfl ?_;rw[←c2Q];exact⟨_,rfl,hv,rfl⟩
 have ap:=DU a2;refine aU (aV (aO (Cj.sr (aA yQ ?_))));refine aA yQ ?_;refine J.ns (aP ?_);have A:aB f=([],[]):=by simp[aB, *]
 rw[A];refine bJ ?_;refine bV rfl rfl rfl rfl ?_;exact⟨_,rfl,.inl rT,rfl⟩
theorem a4U fs v rk rl (a8:EOK fs) I (ah:QS I fs v):yS aW 81 [b0I rk rl v] I []
 (fun e I' H'=>∃w,e= .returned w∧UN I' (dM fs) w∧H'=[]):=by
 have b5:=a8.1;obtain⟨p,c,rfl,_,-⟩:=id ah.1;refine yS.ob func81 ?_;intro w0 _;refine Cj.sr (aJ rfl (BG ?_));intro _ _;refine aA yQ ?_;refine J.yX (aA yQ ?_);refine J.zX (aC (aA (qq2 (off':=2) a3x a2M) ?_));refine aA (yV isAgg47 (yR.at 0 rfl)) ?_;refine aA (zZ ZQ) ?_;refine aA yP ?_;refine J.ns (bP (iM (bC iT) ?_));refine gK (ι:=VA) (fun y=>y.j≤fs.length∧Le I y.J∧QY y.J y.xs (dM (fs.take y.j))∧BM w0.heap.size 3 y.xs.length (y.xs.flatMap vwC) y.g) (fun y=>fs.length-y.j) (fun y=>[(3,gV y.xs.length y.g),(12,.slice p fs.length c),(13,i64 (fs.length:Int)),(14,i64 (y.j:Int))]) (fun y=>y.J) (fun y=>gH 159 (y.xs.flatMap vwC) y.g) ⟨0,_,[],none⟩ ⟨dU _,iL _,⟨rfl,fun x hx=>by cases hx⟩,rfl,rfl⟩ rT rfl rfl ?_;rintro⟨j,_,xs,g⟩ ⟨hj,O,N,hg⟩;dsimp only at hj O N hg ⊢;have hr:=ah.mono O;have ai:=N.len;have b6:=a8l fs a8 j;refine Cj.sr (aA AV ?_);refine J.nss (dL rfl (fun a9=>?_) (fun a9=>?_))
 ·have am:=BH a9;have aj:j<fs.length:=oM;obtain⟨f,a3⟩:∃f,fs[j]?=some f:=⟨_,DC aj⟩;have ak:=FQ a3;obtain⟨ax,al,ay⟩:=a8.2 f ak;obtain⟨⟨p1,c1,az,_,hp⟩,aa⟩:=id hr;cases az;obtain⟨fb,fo,_,_,_,sp,rfl,a1,b0⟩:=hp (zT aj);have Z:=aa f ak;clear aa;obtain⟨p2,_,b1,-,-⟩:=id Z;have b7:=a8G f ax;have an:=a1d f [];rw[a0V]at an;refine aU (aO (cZ (bP (Cj.sr (aA (AU (off':=fo+j*4) ZQ JO) ?_)))));refine aA (FN QT JO (fQ a1) (DN XR b0 a3)) ?_;refine aJ rfl (CU a0r ?_);intro b3 _;refine aJ rfl (EN 0 rfl rfl rfl rfl rfl (a0y b1) JO rfl rfl (bU (bU (bU (bU dW)))) DZ.z ?_);refine J.yX (aA (zW QT JO (yR.at 0 rfl)) ?_);refine aJ rfl (yT (H1:=[]) rfl rfl rfl rfl rfl (named_ok f oM al _ Z) ?_ (fun _ _ _ _ ⟨_,h,_⟩=>by cases h) (fun _ _ ⟨_,h,_⟩=>by cases h));intro _ I5 _ a4 b2;have hr:=hr.mono a4;have N:=N.mono a4;have O:=O.mono a4;have a1:=a4 _ _ a1;have Z:=Z.mono a4;obtain⟨_,h,a2,rfl⟩:=b2;cases h;obtain⟨lp,lc,rfl⟩:=NT a2;refine aA yP ?_;refine aA AZ ?_;refine aA AZ ?_;refine aA yQ ?_;refine aA yQ ?_;refine J.zX (aC (aA yP ?_));refine aA (zZ AO) ?_;refine aA yP ?_;refine J.ns (bP (iM (Keeps.k dA) ?_));refine gK (ι:=VA) (fun y=>y.j≤(aB f).2.length∧Le I5 y.J∧QY y.J y.xs (dM (fs.take j)++((aB f).2.take y.j).map (nv f))∧BM w0.heap.size 3 y.xs.length (y.xs.flatMap vwC) y.g) (fun y=>(aB f).2.length-y.j) (fun y=>[(3,gV y.xs.length y.g),(5,ptr b3 0),(6,str (aB f).1),(12,.slice (some ⟨fb,fo,none⟩) fs.length c),(13,i64 (fs.length:Int)),(14,i64 (j:Int)),(23,.slice lp (aB f).2.length lc),(24,i64 ((aB f).2.length:Int)),(25,i64 (y.j:Int))]) (fun y=>y.J) (fun y=>(b3,yZ 92 (XH f))::gH 159 (y.xs.flatMap vwC) y.g) ⟨0,_,xs,g⟩ ⟨dU _,iL _,by dsimp only;rw[List.take_zero,eG,aG];exact N,hg⟩ rT rfl rfl ?_;rintro⟨q,_,xs,g⟩ ⟨hq,a0,N,hg⟩;dsimp only at hq a0 N hg ⊢;have O:=O.mono a0;have hr:=hr.mono a0;have Z:=Z.mono a0;have a2:=a2.mono a0;have a1:=a0 _ _ a1;have ai:=N.len;rw[aF,dD,bW,fE hq]at ai;refine Cj.sr (aA AV ?_);refine J.nss (dL rfl (fun ab=>?_) (fun ab=>?_))
  ·have ao:=BH ab;have ac:q<(aB f).2.length:=oM;obtain⟨s,a6⟩:∃s,(aB f).2[q]?=some s:=⟨_,DC ac⟩;have b8:=a2m (FQ a6);obtain⟨lb,_,_,ap,ad⟩:=a2.some (zT ac);cases ap;refine aU (aO (cZ (bP (Cj.sr (aA (AU (off':=q) AO zS) ?_)))));refine aA (EF BR (fQ ad) (JL a6)) ?_;refine aA yQ ?_;refine J.GI (aA yP ?_);refine aA yP ?_;refine aA yP ?_;refine aA (zW QT JO (yR.at 0 rfl)) ?_;refine aJ rfl (yU rfl rfl rfl rfl rfl (c3a f ay _) ?_);refine aJ rfl (yU rfl rfl rfl rfl rfl (VQ s ((dK f:Nat):Int) oM _) ?_);refine aA yP ?_;refine aJ rfl (yT (H1:=[]) rfl rfl rfl rfl rfl (VF s oM _) ?_ (fun _ _ _ _ ⟨_,h,_⟩=>by cases h) (fun _ _ ⟨_,h,_⟩=>by cases h));intro _ _ _ G aq;have hr:=hr.mono G;have N:=N.mono G;have Z:=Z.mono G;have a2:=a2.mono G;have a1:=G _ _ a1;have O:=O.mono G;have a0:=a0.mono G;have ad:=G _ _ ad;obtain⟨_,h,ae,rfl⟩:=aq;cases h;obtain⟨_,_,rfl⟩:=NT ae;refine aA (BD (pl:= #[(0,1),(1,1),(2,1)]) rfl rfl a0j rfl WM (fun w=>by simp[KR,zS]) (dX rfl rfl rfl (bU dW) (dX rfl rfl rfl (gJ (bU dW)) (dX rfl rfl rfl (gJ (gJ (bU dW))) KP.none)))) ?_;refine aJ rfl (BQ OM MN a0j (IC.agg rfl bI) ?_);intro _ _;refine aJ rfl (BI (by':=55) [_,_] rfl rfl rfl rfl rfl OM (.inr ⟨_,OM⟩) kR MN a0j rfl hg rfl (fF (yR.at 0 rfl) rfl rfl (a4a ae rfl rfl)) oM ?_);intro g16 ar;refine aA yQ ?_;refine J.nil (aV (aO (aC (aA (yY rfl rfl rfl (zV oM)) ?_))));refine aA yP ?_;refine J.nil (dH (bC (Keeps.k dA)) ?_);refine bQ ⟨q+1,_,xs++[(nv f s,_)],g16⟩ ⟨dO,a0,by dsimp only;rw[a9V (nv f) a6,←gX];exact N.add ae,by dsimp only;rw[aF,bF];exact ar⟩ dO ⟨by dsimp only;rw[aF];rfl,rfl,rfl,rfl,rfl,rfl,rfl,rfl,rfl,trivial⟩ rfl (by dsimp only;rw[bF];rfl)
  have ao:=BJ ab;rw[aS (oM:(aB f).2.length≤q)]at N;refine gQ (dZ (dV (eF (aO (Cj.sr (aA (qq2 (off':=0) OX zS) ?_))))));refine aA (yV BR (yR.at 0 rfl)) ?_;refine aJ rfl (yU rfl rfl rfl rfl rfl (a0J f.tag [48,48] dE _) ?_);refine aA (ER rfl rfl) ?_;refine aA yP ?_;refine dR 45 rfl (fun A=>?_) (fun A=>?_)
  rotate_left
  ·have a5:¬eX f=true:=by unfold eX;rw[dJ];exact fun e=>aY (e.1.symm.trans A)
   refine AP 4 45 46 true A ?_;refine AP 4 45 47 true A ?_;refine AP 4 45 48 true A ?_;refine AP 4 45 49 true A ?_;refine aA (ED A) ?_;refine J.c0 (fun _=>?_);refine aU (aV (aO (aC (aA (yY rfl rfl rfl (zV oM)) ?_))));refine aA yP ?_;refine J.nil (dH (bC dA) ?_);refine bQ ⟨j+1,_,xs,g⟩ ⟨dO,O,by dsimp only;rw[a3m a3];unfold eU;rw[zF a5,aG];exact N,by dsimp only;exact hg⟩ dO rT rfl rfl
  refine zU 4 45 true A (zK (qq2 (off':=0) OX zS) ?_);refine zU 4 45 true A (zK (yV BR (yR.at 0 rfl)) ?_);refine J.KY 4 45 true _ rfl rfl rfl A (yU rfl rfl rfl rfl rfl (a0J f.tag [57] dE _) ?_);refine zU 4 45 true A (zK (ER rfl rfl) ?_);refine aA (EO A) ?_;refine J.cd (fun a7=>?_) (fun a7=>?_)
  ·have a5:eX f=true:=by unfold eX;rw[dJ];exact⟨A,a7⟩
   refine Cj.sr (aA (zW QT JO (yR.at 0 rfl)) ?_);refine aJ rfl (yU rfl rfl rfl rfl rfl (RG f [] oM al _ Z) ?_);refine dQ 52 rfl (show _=str (dP f) from(zD str (a0V f))) ?_;refine aA yQ ?_;refine J.GI (aA yP ?_);refine aA yP ?_;refine aJ rfl (yU rfl rfl rfl rfl rfl (VQ (dP f) 0 oM _) ?_);refine aA yP ?_;refine aJ rfl (yT (H1:=[]) rfl rfl rfl rfl rfl (VF (dP f) oM _) ?_ (fun _ _ _ _ ⟨_,h,_⟩=>by cases h) (fun _ _ ⟨_,h,_⟩=>by cases h));intro _ _ _ Q au;have hr:=hr.mono Q;have N:=N.mono Q;have Z:=Z.mono Q;have a2:=a2.mono Q;have a1:=Q _ _ a1;have O:=O.mono Q;have a0:=a0.mono Q;obtain⟨_,h,af,rfl⟩:=au;cases h;obtain⟨_,_,rfl⟩:=NT af;refine aA (BD (pl:= #[(0,1),(1,1),(2,1)]) rfl rfl a0j rfl WM (fun w=>by simp[KR,zS]) (dX rfl rfl rfl (bU dW) (dX rfl rfl rfl (gJ (bU dW)) (dX rfl rfl rfl (gJ (gJ (bU dW))) KP.none)))) ?_;refine aJ rfl (BQ OM MN a0j (IC.agg rfl bI) ?_);intro _ _;refine aJ rfl (BI (by':=55) [_,_] rfl rfl rfl rfl rfl OM (.inr ⟨_,OM⟩) kR MN a0j rfl hg rfl (fF (yR.at 0 rfl) rfl rfl (a4a af rfl rfl)) oM ?_);intro b4 av;refine aA yQ ?_;refine J.nil (aV (aO (aC (aA (yY rfl rfl rfl (zV oM)) ?_))));refine aA yP ?_;refine J.nil (dH (bC (bC dA)) ?_);refine bQ ⟨j+1,_,xs++[(⟨Ix.c4s,dP f,0⟩,_)],b4⟩ ⟨dO,O,by dsimp only;rw[a3m a3];unfold eU;rw[zG a5,←gX];exact N.add af,by dsimp only;rw[aF,bF];exact av⟩ dO ⟨by dsimp only;rw[aF];rfl,rfl,rfl,rfl,trivial⟩ rfl (by dsimp only;rw[bF];rfl)
  have a5:¬eX f=true:=by unfold eX;rw[dJ];exact fun e=>aY (e.2.symm.trans a7)
  refine aU (aV (aO (aC (aA (yY rfl rfl rfl (zV oM)) ?_))));refine aA yP ?_;refine J.nil (dH (bC dA) ?_);refine bQ ⟨j+1,_,xs,g⟩ ⟨dO,O,by dsimp only;rw[a3m a3];unfold eU;rw[zF a5,aG];exact N,by dsimp only;exact hg⟩ dO rT rfl rfl
 have am:=BJ a9;refine gQ (dZ (dV (eF (aO (cZ ?_)))));have ag:fs.take j=fs:=aS oM;rw[ag]at N;refine Cj.perm (H':=gH _ _ _++[]) (.of_eq (aG _)) ?_;refine Cj.c4Z a0q dE hg rfl (fun _ aw hv=>?_);have N:=N.mono aw;refine aC (aA yP ?_);refine aA yQ ?_;refine J.ns (aP (zM ?_));exact⟨_,rfl,⟨xs,hv,N⟩,rfl⟩
end Go.Proofs.YtdjkhllhakhjbaaGreatDoor
namespace Go.Sx
open Go
section
variable {α:Type} [BEq α] [LawfulBEq α]
def MS (l:ML α) (c:Nat):Prop:=(l.map (·.1)).Nodup∧(l.map (·.2.2)).Nodup∧∀p∈l,p.2.2<c
omit [BEq α] [LawfulBEq α] in
theorem MS.nil:MS ([]:ML α) 0:=⟨.nil,.nil,fun _ h=>by simp at h⟩
theorem UY{l:ML α}{a:α}(h:(l.map (·.1)).Nodup){v:Value}:BF l a=some v↔∃n,(a,v,n)∈l:=by
 induction l with
 |nil=>simp[BF]
 |cons p r G=>
  obtain⟨b,u,n⟩:=p;rw[aK,iI]at h;unfold BF
  by_cases hab:a=b
  ·subst hab;simp only[BEq.rfl,if_true,Option.some.injEq];constructor
   ·rintro rfl;exact⟨n,.head _⟩
   rintro⟨k,A⟩;rcases cO.1 A with e|e
   ·exact(zD (fun x=>x.2.1) e).symm
   exact absurd (gG (f:=(·.1)) e) h.1
  rw[zF (by simpa using hab),G h.2];constructor
  ·rintro⟨k,A⟩;exact⟨k,.tail _ A⟩
  rintro⟨k,A⟩;rcases cO.1 A with e|e
  ·exact absurd (zD (·.1) e) hab
  exact⟨k,e⟩
theorem JC{l}{a:α}:BF l a=none↔a ∉ l.map (·.1):=by
 induction l with
 |nil=>simp[BF]
 |cons p r h=>
  obtain⟨b,u,n⟩:=p;unfold BF
  by_cases hab:a=b
  ·subst hab;simp
  rw[zF (by simpa using hab),h];simp[hab]
theorem LM l (a b:α) v c:BF (BN l a v c) b=if b == a then some v else BF l b:=by
 induction l with
 |nil=>unfold BN BF;by_cases h:b=a<;>simp[h,BF]
 |cons p r G=>
  obtain⟨d,u,n⟩:=p;unfold BN
  by_cases had:a=d
  ·subst had;rw[zG sI]
   by_cases h:b=a
   ·subst h;simp[BF]
   have A:(b == a)=false:=by simpa using h
   simp[BF,A]
  rw[zF (by simpa using had)]
  by_cases hbd:b=d
  ·subst hbd;have A:(b == a)=false:=by simpa using fun e:b=a=>had e.symm
   simp[BF,A]
  have A:(b == d)=false:=by simpa using hbd
  simp only[BF,A,aZ,if_false,G]
theorem b6r{l:ML α}{a:α}{v:Value}{c:Nat}:(BN l a v c).map (·.1)=if a∈l.map (·.1)then l.map (·.1)else l.map (·.1)++[a]:=by
 induction l with
 |nil=>simp[BN]
 |cons p r A=>
  obtain⟨d,u,n⟩:=p;unfold BN
  by_cases had:a=d
  ·subst had;simp
  rw[zF (by simpa using had),aK,A]
  by_cases h:a∈r.map (·.1)
  ·simp[h]
  rw[zF h,zF (by simp only[aK,cO,not_or];exact⟨had,h⟩)];rfl
theorem b9G{l}{a x:α}{v c}:x∈(BN l a v c).map (·.1)↔x∈l.map (·.1)∨x=a:=by
 rw[b6r]
 split
 ·rename_i h
  exact⟨.inl,fun g=>g.elim id (fun e=>e▸h)⟩
 simp
theorem MS.set{l:ML α}{c:Nat}(h:MS l c)(a:α)(v:Value):MS (BN l a v c) (EU l a c):=by
 obtain⟨Q,Z,N⟩:=h;cases hm:BF l a with
 |none=>
  obtain⟨-,hs⟩:=VZ l 0 hm;have ha:=JC.1 hm;rw[hs,EU,hm];refine⟨?_,?_,?_⟩
  ·rw[aQ,gY];refine⟨Q,sI,fun x O y A e=>?_⟩;rw[aK,eG,aI]at A;exact ha (by have:x=a:=e.trans A;exact this▸O)
  ·rw[aQ,gY];refine⟨Z,sI,fun x O y A e=>?_⟩;rw[aK,eG,aI]at A;obtain⟨p,G,rfl⟩:=eY.1 O;have:=N p G;dsimp only at A e;omega
  intro p G;simp only[Option.isSome_none,aZ,if_false];rcases fD.1 G with g|g
  ·exact Nat.lt_succ_of_lt (N p g)
  rw[aI]at g;subst g;exact Nat.lt_succ_self _
 |some u=>
  obtain⟨j,u',n,-,hj,hs⟩:=a1e l 0 hm;have he:∀f:α×Value×Nat→Nat ⊕ α,f (a,v,n)=f (a,u',n)→(l.set j (a,v,n)).map f=l.map f:=fun f hf=>by
   apply List.ext_getElem?
   intro i;rw[gZ,gZ,List.getElem?_set]
   by_cases hi:j=i
   ·subst hi;rw[zG rfl,hj,zG (aH.1 hj).1];simp[hf]
   rw[zF hi]
  have e1:(l.set j (a,v,n)).map (·.1)=l.map (·.1):=by
   have:=zD (List.map (fun s:Nat ⊕ α=>match s with| .inr x=>x| .inl _=>a)) (he (fun p=> .inr p.1) rfl);simpa[dN,iC]using this
  have e2:(l.set j (a,v,n)).map (·.2.2)=l.map (·.2.2):=by
   have:=zD (List.map (fun s:Nat ⊕ α=>match s with| .inl x=>x| .inr _=>0)) (he (fun p=> .inl p.2.2) rfl);simpa[dN,iC]using this
  rw[hs,EU,hm];refine⟨by rw[e1];exact Q,by rw[e2];exact Z,fun p G=>?_⟩;have:p.2.2∈l.map (·.2.2):=e2▸gG G;obtain⟨q,hq,e⟩:=eY.1 this;exact e▸N q hq
end
section
variable {cx:Cx} {Q:Qt} {o:Oper} {e:Env} {S:World→Prop} {α:Type} [BEq α] [LawfulBEq α]
omit [BEq α] [LawfulBEq α] in
theorem RJ{b m h c x kv}{l vis:ML α}{p:α×Value×Nat}(A:o.op= .entry x)(G:ev e x=some (ptr b 0))(N:yR S b (XB m h (vis++[p]) c))(O:yR S m (zY kv l c))(Q:p∈l)(hn:(l.map (·.2.2)).Nodup):CW cx o e S (.tuple #[kv p.1,p.2.1]):=by
 intro w0 w Z hs;have h1:=N w hs;have h2:=O w hs;have h3:w.heap[b]?=some (.mapIter (some m) h ((vis.map (·.2.2)).toArray.push (KO kv p).born) c):=by
  rw[h1];simp[XB,KO]
 have hr:=run_entry_at (P:=cx.P) w b m h _ _ c (KO kv p) h3 h2 (by simp only[eY];exact⟨p,Q,rfl⟩) (by
  rw[dN];exact hn)
 have:(execOp w0.eval o).run cx.P w= .ok (.value (.tuple #[kv p.1,p.2.1])) w:=by
  simp only[execOp,A,Z.eval G,Sem.run_bind,hr,Result.andThen_ok,Sem.run_pure]
 exact this
end
section
variable {α β:Type}
variable {cx:Cx} {Q:Qt} {en:Env} {f:β→List Value} {sz:Nat} {T:TypeId} {R:HL} {c:Code}
end
section
variable {α β:Type} [BEq α] [LawfulBEq α]
abbrev kvp (p:α×Value×Nat):α×Value:=(p.1,p.2.1)
def a3i (l:List (α×Value)) (a:α):Option Value:=match l with
 |[]=>none
 |(b,v)::r=>if a == b then some v else a3i r a
def a3U (l:List (α×Value)) (a:α) (v:Value):List (α×Value):=match l with
 |[]=>[(a,v)]
 |(b,u)::r=>if a == b then(b,v)::r else(b,u)::a3U r a v
omit [LawfulBEq α] in
theorem b2i a:∀l:ML α,BF l a=a3i (l.map kvp) a
 |[]=>rfl
 |(b,v,n)::r=>by simp only[BF,aK,a3i,b2i a r]
omit [LawfulBEq α] in
theorem b1e a v c:∀l:ML α,(BN l a v c).map kvp=a3U (l.map kvp) a v
 |[]=>rfl
 |(b,u,n)::r=>by
  simp only[BN,aK,a3U]
  split
  ·rfl
  rw[aK,b1e a v c r]
theorem b4t{a u v B}:∀{A:List (α×Value)},a ∉ A.map (·.1)→a3U (A++(a,u)::B) a v=A++(a,v)::B∧a3i (A++(a,u)::B) a=some u
 |[],_=>by simp[a3U,a3i]
 |(b,w)::A,h=>by
  rw[aK,cO,not_or]at h;obtain⟨G,N⟩:=b4t (u:=u) (v:=v) (B:=B) h.2;have O:(a == b)=false:=by simpa using h.1
  simp only[iF,a3U,a3i,O,aZ,if_false,G,N,and_self]
theorem b1s{a v}:∀{A:List (α×Value)},a ∉ A.map (·.1)→a3U A a v=A++[(a,v)]∧a3i A a=none
 |[],_=>rT
 |(b,w)::A,h=>by
  rw[aK,cO,not_or]at h;obtain⟨G,N⟩:=b1s (v:=v) h.2;have O:(a == b)=false:=by simpa using h.1
  simp only[iF,a3U,a3i,O,aZ,if_false,G,N,and_self]
variable {cx:Cx} {Q:Qt} {e:Env} {I:Heap} {H H':HL}
theorem JA.perm{l N A Z z G h}(hs:H'.Perm H)(k:JA cx Q l N A Z z G h e I H'):JA cx Q l N A Z z G h e I H:=fun a w O h1=>k a w O (h1.perm hs)
end
section
variable {α:Type} [BEq α] [LawfulBEq α]
def GV (l:ML α) (a:α):ML α:=match l with
 |[]=>[]
 |(b,v,n)::r=>if a == b then r else(b,v,n)::GV r a
omit [LawfulBEq α] in
theorem b0d{a}:∀(l:ML α) (i:Nat),(midx l a i=none∧GV l a=l)∨∃j v,midx l a i=some (i+j,v)∧GV l a=l.eraseIdx j∧j<l.length
 |[],_=> .inl rT
 |(b,v,n)::r,i=>by
  unfold midx GV
  by_cases h:(a == b)=true
  ·rw[zG h,zG h];exact .inr ⟨0,v,rfl,rfl,sI⟩
  rw[zF h,zF h];rcases b0d (a:=a) r (i+1)with⟨A,G⟩|⟨j,u,A,G,N⟩
  ·exact .inl ⟨A,by rw[G]⟩
  refine .inr ⟨j+1,u,?_,by rw[G];rfl,by simpa using N⟩;rw[A,Nat.add_assoc,Nat.add_comm 1 j]
theorem OG{a}:∀{l:ML α},(l.map (·.1)).Nodup→GV l a=l.filter fun p=> !(p.1 == a)
 |[],_=>rfl
 |(b,v,n)::r,h=>by
  rw[aK,iI]at h;unfold GV
  by_cases hb:(a == b)=true
  ·have G:=zC hb;subst G;rw[zG hb,fB sI];rw[fZ.2];intro p N;have:p.1≠a:=fun g=>h.1 (eY.2 ⟨p,N,g⟩);simpa using this
  have A:(b == a)=false:=by
   rw[gW];intro g;exact hb (by rw[zC g];simp)
  rw[zF hb,fA (by simp[A]),OG h.2]
theorem MS.del{l:ML α}{c:Nat}(h:MS l c)(a:α):MS (GV l a) c:=by
 rw[OG h.1];refine⟨h.1.sublist (dB.map _),h.2.1.sublist (dB.map _),fun p A=>h.2.2 p (iJ.1 A).1⟩
theorem a0Z{l:ML α}(h:(l.map (·.1)).Nodup)(a b:α):BF (GV l a) b=if b == a then none else BF l b:=by
 by_cases hb:(b == a)=true
 ·rw[zG hb,JC,OG h];have:=zC hb;subst this;simp
 rw[zF hb];cases hm:BF l b with
 |none=>
  rw[JC]at hm ⊢;rw[OG h];exact fun g=>hm ((dB.map _).subset g)
 |some v=>
  have A:((GV l a).map (·.1)).Nodup:=by rw[OG h];exact h.sublist (dB.map _)
  rw[UY h]at hm;obtain⟨n,hn⟩:=hm;rw[UY A,OG h];exact⟨n,iJ.2 ⟨hn,by simpa using hb⟩⟩
variable {cx:Cx} {Q:Qt} {e:Env} {I:Heap} {H:HL} {o:Oper} {C:Ct} {S:World→Prop}
omit [LawfulBEq α] in
theorem b5x{P:Program}{T U K E b c:Nat}{t:TypeId}{kv:α→Value}{l:ML α}{a:α}{w:World}(N:P.underlying T=some (.map K E))(hk:GU P K kv)(O:w.heap[b]?=some (zY kv l c)):
 (fG #[T,U] t #[.map (some b),kv a]).run P w= .ok (.tuple #[]) (fM w b (zY kv (GV l a) c)):=by
 obtain⟨hf,Q,_⟩:=hk;have hg:(getObj b).run P w= .ok (zY kv l c) w:=by simp[getObj,Sem.run,O,zY]
 have hset:∀o',(setObj b o').run P w= .ok () (fM w b o'):=fun o'=>by simp[setObj,Sem.run,O,fM,zY]
 rcases b0d (a:=a) l 0 with⟨h,A⟩|⟨j,v,h,A,h3⟩
 ·have G:(iP K (kv a) (l.map (KO kv))).run P w= .ok none w:=by rw[hf,h]
  simp[fG,run_underlying N,hg,zY,Q,G,hset,A]
 rw[Nat.zero_add]at h;have Z:∀(q:ML α) (k:Nat),(q.map (KO kv)).eraseIdx k=(q.eraseIdx k).map (KO kv):=by
  intro q
  induction q with
  |nil=>intro k;rfl
  | cons x r ih=>intro k;cases k with
    |zero=>rfl
    |succ k=>simp[ih]
 have G:(iP K (kv a) (l.map (KO kv))).run P w= .ok (some (j,v)) w:=by rw[hf,h]
 have h5:(l.map (KO kv)).toArray.eraseIdxIfInBounds j=(((l.eraseIdx j).map (KO kv)).toArray:Array MapEntry):=by
  rw[Array.eraseIdxIfInBounds,dif_pos (by simpa using h3),List.eraseIdx_toArray,Z]
 simp[fG,run_underlying N,hg,zY,Q,G,hset,A,Z]
omit [LawfulBEq α] in
theorem KI{T U K E b c:Nat}{m x:Operand}{kv:α→Value}{l a}{A:Value}{H'}(i:Nat)(ho:o.op= .call ⟨.builtin .delete,#[m,x],#[T,U]⟩)(hd:o.dst=none)(hm:ev e m=some (.map (some b)))(hx:ev e x=some A)(G:A=kv a)(hT:cx.P.underlying T=some (.map K E))(hK:GU cx.P K kv)
 (N:H[i]?=some (b,zY kv l c))(O:DZ H i (b,zY kv (GV l a) c) H')(kk:C e I H'):GR cx Q o e I H C:=by
 intro _ Z w0 w h hs;unfold Oper.wp;subst G;have hb:=hs.own _ (List.mem_of_getElem? N);have hr:=b5x (U:=U) (t:=o.type) (a:=a) hT hK hb;have:(execOp w0.eval o).run cx.P w= .ok (.value (.tuple #[])) (fM w b (zY kv (GV l a) c)):=by
  simp[execOp,ho,resolve,invoke,builtin,h.eval hm,h.eval hx,hr]
 rw[this];simp only[Oper.upon,hd];exact Z _ _ _ kk _ _ h.VY (hs.block N O)
end
section
variable {cx:Cx} {o:Oper} {e:Env} {S:World→Prop}
theorem b5X{P w T K E} p (h:P.underlying T=some (.map K E)):(binOp .neq T (.map p) (.map none)).run P w= .ok (.bool p.isSome) w∧(binOp .eql T (.map p) (.map none)).run P w= .ok (.bool p.isNone) w:=by
 have A:∀d:Nat,(Op.equalIn (d+1) T (.map p) (.map none)).run P w= .ok p.isNone w:=fun d=>by cases p<;>simp[Op.equalIn,run_underlying h]
 simp only[binOp];cases p<;>simp[Op.equal,Op.maxDepth,A 9999]
theorem a1s{x y T U K E} p (A:o.op= .binOp .eql T x y U)(G:ev e x=some (.map p))(N:ev e y=some (.map none))(O:cx.P.underlying T=some (.map K E)):CW cx o e S (.bool p.isNone):=by
 intro a w h _;have Q:=(b5X (P:=cx.P) (w:=w) p O).2;have hg:eqGuard .eql T x y (.map p) (.map none)=pure ():=rfl;simp[execOp,A,h.eval G,h.eval N,Q,hg]
