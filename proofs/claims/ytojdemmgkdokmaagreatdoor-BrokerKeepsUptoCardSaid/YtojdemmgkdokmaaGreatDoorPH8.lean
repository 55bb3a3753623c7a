/-
  Own texts on the laws of the seat, joined: the logic, and contracts of functions. Conditions: none.
-/
import Derived.Test.YtojdemmgkdokmaaGreatDoorNmH
import Derived.Test.YtojdemmgkdokmaaGreatDoorPH7
import Derived.Lib.FieldsP
set_option linter.all false
set_option maxRecDepth 100000
set_option maxHeartbeats 40000000
open Go.Sx.J renaming z -> aA,op -> aJ,eqv -> dR,split -> dU
open Ix renaming named -> aB,b9d -> dG,c3C -> dK,vals -> dM,b4J -> dP,b0Y -> dV,b1f -> eY,c3H -> fA,b4X -> iH,PU -> iR
open Go.Sx.Cj renaming region -> aC,ret -> aP,skip -> aU,block -> bQ,seq -> cZ,cond -> dL,loop -> gK,exit -> gQ,keep -> iM
open List renaming length_append -> aF,mem_singleton -> aG,append_nil -> aH,getElem?_eq_some_iff -> aI,map_cons -> aK,take_succ_eq_append_getElem -> aN,map_append -> aQ,take_of_length_le -> aS,flatMap_append -> bF,cons_ne_nil -> bG,mem_cons -> bK,length_cons -> bP,take_append_drop -> bU,length_take -> bY,filter_sublist -> dB,length_map -> dD,length_nil -> dF,map_map -> dN,mem_append -> dQ,mem_map -> dS,isPrefixOf_iff_prefix -> eF,map_nil -> eP,length_filterMap_le -> eX,filter_cons_of_pos -> fB,filter_cons_of_neg -> fC,drop_eq_nil_of_le -> fH,getElem_cons_drop -> fJ,sum_cons -> fV,filter_eq_self -> fZ,length_pos_iff -> gB,mem_map_of_mem -> gG,flatMap_cons -> gU,append_assoc -> gX,nodup_append -> gY,getElem?_map -> gZ,cons_append -> iF,nil_append -> iG,nodup_cons -> iI,mem_filter -> iJ,drop_zero -> iK
open Go.Sx.Ej renaming seq -> aO,FN -> aV,LM -> bD,bare -> bJ,QL -> bM,round -> bT,a0L -> bW,keep -> dH,persist -> dI,JK -> dX,KH -> eG,LC -> eH
open Ke renaming textOf -> aT,Sub -> eU,skip -> fP,digit -> iD,JC -> iQ
open Go.Proofs.Tryz renaming prog -> aW
open Nat renaming le_refl -> aX,zero_le -> dW,min_eq_left -> fE,lt_or_ge -> gI
open Bool renaming noConfusion -> aY,false_eq_true -> aZ,and_eq_true -> dJ,eq_iff_iff -> fD,eq_false_iff -> gW
open Go.Sx.Keeps renaming d -> bC,r -> dA,n -> iT
open Go.Utf8 renaming decode -> bH
open Go.Sx.CG renaming none -> bI,one -> cO
open Go.Sx.zM renaming c -> bV,z -> dY,s -> gJ
open Go.Sx.yT renaming toPure -> bZ
open Go.Sx.GN renaming part -> dZ
open Go.Sx.Src renaming slice -> fF
open Go.Builtin renaming delete_ -> fG
open Array renaming getElem?_eq_none -> fK
open Go.Sx.World renaming block -> fM
open UInt8 renaming le_iff_toNat_le -> fO
open Go.Sx.yR renaming TS -> fQ
open Go.Value renaming oneCell' -> fU
open Function renaming comp_def -> iC
open Eq renaming trans -> iE,symm -> iO
open Go.Sx.Le renaming refl -> iL
open Go.Instr renaming findKey -> iP
namespace Ix
open Ke
open Go Go.Lib
theorem XQ c:digit c=decide (48≤c.toNat∧c.toNat≤57):=by
 unfold digit;rw[fD,dJ,zH,zH,zH,fO,fO];rfl
def nod (r:Nat):Bool:=decide (r<48) || decide (57<r)
theorem decodeL_N c r:decodeL (c::r)=decodeN (r.length+1) c.toNat (r.getD 0 0).toNat (r.getD 1 0).toNat (r.getD 2 0).toNat:=by
 have:=decode_N ⟨(c::r).toArray⟩ 0;simp only[bP,Nat.sub_zero,Nat.zero_add,List.getD_cons_zero,List.getD_cons_succ]at this;exact this
theorem b1r c r (h:128≤c.toNat):128≤(decodeL (c::r)).1∧∀x∈(c::r).take (decodeL (c::r)).2,128≤x.toNat:=by
 have key:∀k n:Nat,(128≤k∧∀x∈(c::r).take n,128≤x.toNat)→128≤((k,n):Nat×Nat).1∧∀x∈(c::r).take ((k,n):Nat×Nat).2,128≤x.toNat:=fun _ _ h=>h;have h1:128≤((65533,1):Nat×Nat).1∧∀x∈(c::r).take ((65533,1):Nat×Nat).2,128≤x.toNat:=⟨dE,fun x A=>by simp at A;rw[A];exact h⟩;rw[decodeL_N];unfold decodeN;rw[zF oM]
 split
 ·rename_i g
  split
  ·refine key _ _ ⟨oM,fun x A=>?_⟩;rcases r with _|⟨d,r⟩
   ·simp at A;rw[A];exact h
   simp at A g;rcases A with rfl|rfl
   ·exact h
   omega
  exact h1
 split
 ·rename_i g
  split
  ·refine key _ _ ⟨oM,fun x A=>?_⟩;rcases r with _|⟨d,_|⟨e,r⟩⟩
   ·simp at A;rw[A];exact h
   ·simp at g
   simp at A g;rcases A with rfl|rfl|rfl
   ·exact h
   ·omega
   omega
  exact h1
 split
 ·rename_i g
  split
  ·refine key _ _ ⟨oM,fun x A=>?_⟩;rcases r with _|⟨d,_|⟨e,_|⟨f,r⟩⟩⟩
   ·simp at A;rw[A];exact h
   ·simp at g
   ·simp at g
   simp at A g;rcases A with rfl|rfl|rfl|rfl
   ·exact h
   ·omega
   ·omega
   omega
  exact h1
 exact h1
theorem a9R:∀(q:Bs) (w r:Bs),(∀x∈q,digit x=false)→q≠[]→PU w (q++r)=(if w=[]then[]else[w])++PU [] r
 |[],_,_,_,h=>absurd rfl h
 |[c],w,r,h,_=>by
  show PU w (c::r)=_;rw[PU,h c (.head _)];simp only[aZ,if_false]
  split<;>rfl
 |c::d::q,w,r,h,_=>by
  have A:=a9R (d::q) [] r (fun x G=>h x (.tail _ G)) sI;rw[zG rfl,iG]at A;show PU w (c::((d::q)++r))=_;rw[PU,h c (.head _),A];simp only[aZ,if_false]
  split<;>rfl
theorem b7K w c r (h:digit c=true):PU w (c::r)=PU (w++[c]) r:=by rw[PU,zG h]
theorem a4Z s:∀(f pos:Nat) (G:Option Nat) (A:List (Nat×Nat)),s.size≤pos+f→pos≤s.size→(∀a,G=some a→a<pos)→
 A.map (fun p=>pieceU s.data.toList p.1 p.2)++PU (openPiece s.data.toList G pos) (s.data.toList.drop pos)=(closeSpans s (spansFromP nod s f pos G A)).map (fun p=>pieceU s.data.toList p.1 p.2)
 |0,pos,G,A,h,hp,hst=>by
  obtain rfl:pos=s.size:=oM;have hd:s.data.toList.drop s.size=[]:=fH (by rw[←size_eq];exact aX _);rw[hd,PU];cases G with
  |none=>simp[spansFromP,closeSpans,openPiece]
  |some a=>
   have:=pieceU_ne s.data.toList a s.size (hst a rfl) (by rw[←size_eq];exact aX _);simp[spansFromP,closeSpans,openPiece,this]
 |f+1,pos,G,A,h,hp,hst=>by
  by_cases hlt:pos<s.size
  ·have a3:pos<s.data.toList.length:=by rw[←size_eq];exact hlt
   have a1:decodeL (s.data.toList.drop pos)=bH s pos:=decodeL_drop s pos;obtain⟨c,Z⟩:∃c,s.data.toList.drop pos=c::s.data.toList.drop (pos+1):=⟨s.data.toList[pos],(fJ a3).symm⟩;have hw:=width_pos s pos;have a2:pos+(bH s pos).2≤s.size:=by
    have:=decodeN_le_n' (s.size-pos) (s.get! pos).toNat (s.get! (pos+1)).toNat (s.get! (pos+2)).toNat (s.get! (pos+3)).toNat oM;rw[←decode_at]at this;omega
   simp only[spansFromP,zG hlt]
   by_cases hdig:digit c=true
   ·have a7:48≤c.toNat∧c.toNat≤57:=by rw[XQ]at hdig;exact zB hdig
    have h1:bH s pos=(c.toNat,1):=by
     rw[←a1,Z];rw[decodeL_N];unfold decodeN;rw[zG oM]
    have h2:nod c.toNat=false:=by unfold nod;simp;omega
    rw[h1];simp only[h2,aZ,if_false];rw[Z,b7K _ _ _ hdig];cases G with
    |none=>
     have O:=a4Z s f (pos+1) (some pos) A oM oM (fun a h=>by cases h;omega);have e:openPiece s.data.toList none pos++[c]=openPiece s.data.toList (some pos) (pos+1):=by
      show[]++[c]=pieceU s.data.toList pos (pos+1);unfold pieceU;rw[Z,Nat.add_sub_cancel_left];rfl
     rw[e];exact O
    |some a=>
     have O:=a4Z s f (pos+1) (some a) A oM oM (fun b h=>by cases h;have:=hst a rfl;omega);have e:openPiece s.data.toList (some a) pos++[c]=openPiece s.data.toList (some a) (pos+1):=by
      have:=pieceU_grow s.data.toList a pos 1 (by have:=hst a rfl;omega);rw[Z]at this;exact this
     rw[e];exact O
   have h3:nod (bH s pos).1=true∧∀x∈(s.data.toList.drop pos).take (bH s pos).2,digit x=false:=by
    rw[←a1,Z]
    by_cases h128:c.toNat<128
    ·have h1:decodeL (c::s.data.toList.drop (pos+1))=(c.toNat,1):=by
      rw[decodeL_N];unfold decodeN;rw[zG h128]
     rw[h1];refine⟨?_,fun x hx=>?_⟩
     ·rw[XQ,zH]at hdig;unfold nod;simp;omega
     simp at hx;rw[hx];simpa using hdig
    obtain⟨_,g2⟩:=b1r c (s.data.toList.drop (pos+1)) oM;refine⟨by unfold nod;simp;omega,fun x hx=>?_⟩;have:=g2 x hx;rw[XQ];simp;omega
   have a0:s.data.toList.drop pos=(s.data.toList.drop pos).take (bH s pos).2++s.data.toList.drop (pos+(bH s pos).2):=by
    rw[←List.drop_drop,bU]
   have a4:(s.data.toList.drop pos).take (bH s pos).2≠[]:=by
    intro h0;have:=zD List.length h0;rw[bY,List.length_drop]at this;simp at this;omega
   simp only[h3.1,if_true];rw[a0,a9R _ _ _ h3.2 a4];cases G with
   |none=>
    have O:=a4Z s f (pos+(bH s pos).2) none A oM a2 (fun a h=>by cases h);simpa[openPiece]using O
   |some a=>
    have a5:=pieceU_ne s.data.toList a pos (hst a rfl) (by rw[←size_eq];omega);have O:=a4Z s f (pos+(bH s pos).2) none (A++[(a,pos)]) oM a2 (fun a h=>by cases h);simpa[openPiece,a5]using O
  have a6:pos=s.size:=oM;have hd:s.data.toList.drop pos=[]:=fH (by rw[←size_eq];omega);rw[spansFromP_end nod s _ pos G A hlt,hd,PU];subst a6;cases G with
  |none=>simp[closeSpans,openPiece]
  |some a=>
   have:=pieceU_ne s.data.toList a s.size (hst a rfl) (by rw[←size_eq];exact aX _);simp[closeSpans,openPiece,this]
theorem a9b(s:ByteArray) a b:s.extract a b=⟨(pieceU s.data.toList a b).toArray⟩:=by
 apply ByteArray.ext
 rw[ByteArray.data_extract]
 apply Array.ext'
 rw[Array.toList_extract];unfold pieceU;simp[List.extract_eq_take_drop]
theorem fieldsD s:goFieldsP nod ⟨s.toArray⟩=(b0Y s).map fun x=>⟨x.toArray⟩:=by
 have h:=a4Z ⟨s.toArray⟩ (ByteArray.mk s.toArray).size 0 none [] oM oM (fun _ h=>by cases h);simp only[eP,iG,openPiece,iK]at h;unfold goFieldsP spansOfP b0Y;rw[h,dN];refine List.map_congr_left fun p _=>?_;rw[a9b];rfl
end Ix
namespace Go.Sx
open Go Go.RowKit
theorem yT.c6U{P f args I T l vals}(hv:vals=l.map str)(he:Enters P f)
 (h:∀w,Calls P f args.toArray w fun e w'=>∃A,e= .returned (.slice (some ⟨A,0,none⟩) l.length l.length)∧w.heap.size≤A∧w'.ownsRow w.heap.size T 1 (.slice (some ⟨A,0,none⟩) l.length l.length) l.length vals∧Below w.heap.size w w'):
 yT P f args I [] (fun e I' H'=>∃v,e= .returned v∧JX T I' l v∧H'=[]):=by
 refine⟨he,fun w hw=>(h w).mono ?_⟩;rintro e w' ⟨A,rfl,hA,G,O⟩;obtain⟨r1,-,-,-⟩:=hw;have a1:∀{b:Nat} {o:Obj},I b=some o→b<w.heap.size:=fun {b o} Z=>by
  have:=r1 b o Z;rcases gI b w.heap.size with h'|h'
  ·exact h'
  rw[fK h']at this;cases this
 obtain⟨-,G⟩:=G;obtain⟨g,_,a0,hs,-,hc,hn,-,_,a4⟩:=G.resolve_left fun g=>by cases g.1
 cases hs;have a2:(.cells a0 T (0,0):Obj)=yY T (l.map str++a0.toList.drop l.length):=by
  unfold yY;rw[←hv,←a4,Nat.mul_one,bU]
 rw[a2]at hc;have a5:St w [] I I [(A,yY T (l.map str++a0.toList.drop l.length))] w':=
  ⟨O.os,O.tape,O.output,O.size,fun b Z _=>O.block b Z,fun b o Z=>by rw[O.block b (a1 Z)];exact r1 b o Z,fun p hp=>by rw[aG.1 hp];exact hc,sI,fun p hp=>by
   rw[aG.1 hp];cases hI:I A with
   |none=>rfl
   |some o=>have:=a1 hI;omega,fun p hp=>by rw[aG.1 hp];exact .inr hA,fun _ _=>rfl,iL _,a2j⟩
 have a3:=a5.persist hA;exact⟨_,_,a3,_,rfl,.inr ⟨A,l.length,_,rfl,aX _,a1i _ _ _⟩,rfl⟩
theorem yT.c3W{P f args I T}{l:List (List UInt8)}{vals}(hv:vals=l.map str)(he:Enters P f)
 (h:∀w,(∀b o,I b=some o→w.heap[b]?=some o)→Calls P f args.toArray w fun e w'=>∃A,e= .returned (.slice (some ⟨A,0,none⟩) l.length l.length)∧w.heap.size≤A∧w'.ownsRow w.heap.size T 1 (.slice (some ⟨A,0,none⟩) l.length l.length) l.length vals∧Below w.heap.size w w'):
 yT P f args I [] (fun e _ H'=>∃b sp,e= .returned (.slice (some ⟨b,0,none⟩) l.length l.length)∧H'=[(b,yY T (l.map str++sp))]):=by
 refine⟨he,fun w hw=>(h w hw.1).mono ?_⟩;rintro e w' ⟨A,rfl,hA,G,O⟩;obtain⟨r1,-,-,-⟩:=hw;have a1:∀{b:Nat} {o:Obj},I b=some o→b<w.heap.size:=fun {b o} Z=>by
  have:=r1 b o Z;rcases gI b w.heap.size with h'|h'
  ·exact h'
  rw[fK h']at this;cases this
 obtain⟨-,G⟩:=G;obtain⟨g,_,a0,hs,-,hc,hn,-,_,a3⟩:=G.resolve_left fun g=>by cases g.1
 cases hs;have a2:(.cells a0 T (0,0):Obj)=yY T (l.map str++a0.toList.drop l.length):=by
  unfold yY;rw[←hv,←a3,Nat.mul_one,bU]
 rw[a2]at hc;have a4:St w [] I I [(A,yY T (l.map str++a0.toList.drop l.length))] w':=
  ⟨O.os,O.tape,O.output,O.size,fun b Z _=>O.block b Z,fun b o Z=>by rw[O.block b (a1 Z)];exact r1 b o Z,fun p hp=>by rw[aG.1 hp];exact hc,sI,fun p hp=>by
   rw[aG.1 hp];cases hI:I A with
   |none=>rfl
   |some o=>have:=a1 hI;omega,fun p hp=>by rw[aG.1 hp];exact .inr hA,fun _ _=>rfl,iL _,a2j⟩
 exact⟨_,_,a4,_,_,rfl,rfl⟩
end Go.Sx
namespace Go.Proofs.YtojdemmgkdokmaaGreatDoor
open _root_.Go.Proofs.Tryz
open Go Go.Sx
def sel (codes:List UInt8) (s:eU):Bool:=decide (codes=[]) || codes.contains s.code
def ZL (codes:List UInt8) (ss:List eU):List (List UInt8):=(ss.filter (sel codes)).map (·.text)
def a1Y (f:iQ) (codes:List UInt8):List UInt8:=Ke.join (ZL codes f.subs)
theorem WU{f codes}(h:codes≠[]):a1Y f codes=aT f codes:=by
 unfold a1Y aT Ke.texts ZL
 congr 2
 refine List.filter_congr fun s _=>?_;unfold sel;rw[zJ h];rfl
theorem a2g f:a1Y f []=dP f:=by
 unfold a1Y dP ZL;rw[show f.subs.filter (sel [])=f.subs from fZ.2 fun _ _=>rfl]
theorem c1I{codes}{ss:List eU}{k s}(h:ss[k]?=some s):ZL codes (ss.take (k+1))=ZL codes (ss.take k)++(if sel codes s=true then[s.text]else[]):=by
 obtain⟨A,hg⟩:=aI.1 h;unfold ZL;rw[aN A,hg,List.filter_append,aQ]
 by_cases hc:sel codes s=true
 ·rw[zG hc,fB hc];rfl
 rw[zF hc,fC hc];rfl
theorem a8O codes ss:(ZL codes ss).length≤ss.length:=by
 unfold ZL;rw[dD];exact List.length_filter_le _ _
theorem b5b codes:∀ss:List eU,((ZL codes ss).map List.length).sum≤FM ss
 |[]=>by simp[ZL]
 |s::r=>by
  have:=b5b codes r;unfold ZL FM at this ⊢;rw[List.filter_cons]
  split
  ·simp only[aK,fV];omega
  simp only[aK,fV];omega
theorem a1H f codes:(a1Y f codes).length≤FM f.subs+f.subs.length:=by
 have h1:=XB (ZL codes f.subs);have h2:=b5b codes f.subs;have h3:=a8O codes f.subs;unfold a1Y;omega
theorem c2H{ss s}(h:s∈ss):s.text.length≤FM ss:=by
 unfold FM
 induction ss with
 |nil=>cases h
 |cons a r A=>
  rw[aK,fV];rcases bK.1 h with e|e
  ·rw[e];omega
  have:=A e;omega
abbrev four (x:List UInt8):Bool:=decide (x.length=4)
def ZP {α:Type} (p:α→Bool) (l:List α):Int:=match l.findIdx? p with
 |some k=>(k:Int)
 |none=> -1
theorem a2c{α:Type}{p:α→Bool}{l:List α}(h:∀x∈l,p x=false):ZP p l= -1:=by
 unfold ZP;rw[List.findIdx?_eq_none_iff.2 fun x A=>by simpa using h x A]
theorem a5l{α:Type}{p:α→Bool}{l:List α}{k}{x:α}(h:∀y∈l.take k,p y=false)(G:l[k]?=some x)(O:p x=true):ZP p l=(k:Int):=by
 obtain⟨A,hg⟩:=aI.1 G;unfold ZP;have:l.findIdx? p=some k:=by
  rw[List.findIdx?_eq_some_iff_getElem];refine⟨A,by rw[hg];exact O,fun j _=>?_⟩;have h1:l[j]'oM∈l.take k:=by
   rw[List.mem_take_iff_getElem];exact⟨j,oM,rfl⟩
  rw[h _ h1];exact Bool.false_ne_true
 rw[this]
theorem a1d{α:Type}{p:α→Bool}{l:List α}{k x}(h:∀y∈l.take k,p y=false)(O:l[k]?=some x)(Z:p x=false):∀y∈l.take (k+1),p y=false:=fun y A=>by
 obtain⟨G,hg⟩:=aI.1 O;rw[aN G,hg,dQ,aG]at A;rcases A with A|rfl
 ·exact h y A
 exact Z
theorem SI{α:Type} p l:(ZP p l= -1∧l.find? p=none)∨∃(k:Nat) (x:α),ZP p l=(k:Int)∧l[k]?=some x∧l.find? p=some x:=by
 by_cases h:∃k,∃x,l[k]?=some x∧p x=true∧∀y∈l.take k,p y=false
 ·obtain⟨k,x,h1,h2,h3⟩:=h;refine .inr ⟨k,x,a5l h3 h1 h2,h1,?_⟩;obtain⟨_,hg⟩:=aI.1 h1;rw[List.find?_eq_some_iff_append];refine⟨h2,l.take k,l.drop (k+1),?_,fun y A=>by simp[h3 y A]⟩;rw[←hg,fJ,bU]
 have G:∀k,k≤l.length→∀y∈l.take k,p y=false:=by
  intro k
  induction k with
  |zero=>intro _ y A;simp at A
  |succ k Z=>
   intro _;have O:=DX (l:=l) (i:=k) oM;have h1:=Z oM;refine a1d h1 O ?_;cases hp:p l[k]with
   |false=>rfl
   |true=>exact absurd ⟨k,_,O,hp,h1⟩ h
 have h2:∀y∈l,p y=false:=fun y A=>G l.length (aX _) y (by rw[List.take_length];exact A);exact .inl ⟨a2c h2,List.find?_eq_none.2 fun y A=>by simp[h2 y A]⟩
theorem a4r{f c}(h:f.ind[1]?=some c):fP f=if iD c=true then c.toNat-48 else 0:=by
 unfold fP;rw[h]
theorem b1K{I l v}:ZA I l v↔zY (fun s=>[str s]) I l v:=by
 unfold ZA zY;rw[show l.map str=l.flatMap fun s=>[str s] by induction l with|nil=>rfl|cons a r h=>rw[aK,gU,h];rfl]
theorem UY f codes (hn:f.subs.length≤2000000)(ag:FM f.subs≤3000000) I (hr:zY a2x I f.subs f.sv):Pure aW 155 [.agg (SB f).toArray,str codes] I (str (a1Y f codes)):=by
 refine bZ ?_;obtain⟨p2,c2,a9,Z,aa⟩:=hr;refine yT.ob func155 ?_;intro w0 _;refine Cj.sr (aJ rfl (BL ?_));intro _ _;refine aA yQ ?_;refine J.yV (aA yQ ?_);refine J.AO (aC (aA (qq2 (off':=3) KW ZU) ?_));refine aA (yX isAgg58 (yR.at 0 rfl)) ?_;refine dR 9 rfl (show _= .slice p2 f.subs.length c2 from a9) ?_;refine aA (AU WY) ?_;refine aA yP ?_;refine J.ns (bQ (iM (bC iT) ?_));refine gK (ι:=Nat×Gs) (fun j=>j.1≤f.subs.length∧CU w0.heap.size 1 (ZL codes (f.subs.take j.1)).length ((ZL codes (f.subs.take j.1)).map str) j.2) (fun j=>f.subs.length-j.1) (fun j=>[(1,str codes),(5,gV (ZL codes (f.subs.take j.1)).length j.2),(9,.slice p2 f.subs.length c2),(10,i64 (f.subs.length:Int)),(11,i64 (j.1:Int))]) (fun j=>_) (fun j=>gH 9 ((ZL codes (f.subs.take j.1)).map str) j.2) (0,none) ⟨dW _,rfl,rfl⟩ rT rfl rfl ?_;rintro⟨j,g⟩ ⟨hj,hg⟩;dsimp only at hj hg ⊢;have ab:=a8O codes (f.subs.take j);rw[bY,fE hj]at ab;refine Cj.sr (aA BM ?_);refine J.nss (dL rfl (fun Z=>?_) (fun Z=>?_))
 ·have a4:=BH Z;refine aU (aO (cZ (bQ (cZ ?_))));have a2:j<f.subs.length:=oM;obtain⟨sb,a0⟩:∃x,f.subs[j]?=some x:=⟨_,DX a2⟩;obtain⟨_,so,_,_,_,_,rfl,a5,ac⟩:=aa (AX a2);have A:=c1I (codes:=codes) a0;refine aC (aA (BG (off':=so+j*2) WY UK) ?_);refine aA (FH isAgg62 UK (fQ a5) (EJ ZW ac a0)) ?_;refine aJ rfl (BP a1y ?_);intro _ _;refine aJ rfl (zS 0 UK (bV (bV dY)) AV.z ?_);refine J.yV (aA yP ?_);refine aA (ED rfl rfl rfl) ?_;refine aA yP ?_;refine dU 17 rfl (fun h=>?_) (fun h=>?_)
  ·have a6:=CS h;have G:sel codes sb=true:=by unfold sel;rw[zI (CS h)];rfl
   rw[zG G]at A;refine zO 2 17 18 false h ?_;refine zO 2 17 19 false h ?_;refine zO 2 17 20 false h ?_;refine zO 2 17 21 false h ?_;refine zO 2 17 22 false h ?_;refine aA (DY h) ?_;refine J.c1 (fun _=>?_);refine aC (aA yP ?_);refine aA (qq2 (off':=1) a0o zL) ?_;refine aA (yX BX (yR.at 0 rfl)) ?_;refine aJ rfl (AZ AP zL JG (cO rfl bI) ?_);intro _ _;refine aJ rfl (BJ (by':=15) [_,_] rfl rfl rfl rfl rfl AP (.inr ⟨_,AP⟩) kR zL JG rfl hg rfl (fF (yR.at 0 rfl) rfl rfl rfl) oM ?_);intro g7 ad;refine aA yQ ?_;refine J.nil (aV (aO (aC (aA (yZ rfl rfl rfl (AA oM)) ?_))));refine aA yP ?_;refine J.nil (dH (bC (bC dA)) ?_);refine bT (j+1,g7) ⟨dO,by dsimp only;rw[A,aQ,aF];exact ad⟩ dO ⟨rfl,by dsimp only;rw[A,aF];rfl,rfl,rfl,rfl,trivial⟩ rfl (by dsimp only;rw[A,aQ];rfl)
  have a6:=CX h;have a3:codes≠[]:=CX h;refine zU 2 17 false h (zK yP ?_);refine zU 2 17 false h (zK (qq2 (off':=0) a0o RF) ?_);refine zU 2 17 false h (zK (yX tA5 (yR.at 0 rfl)) ?_);refine zU 2 17 false h (yU rfl rfl rfl rfl rfl (a1x _ _ _) ?_);refine zU 2 17 false h (zK (MC rfl rfl rfl) ?_);refine aA (DV h) ?_;refine J.cd (fun O=>?_) (fun O=>?_)
  ·have a7:=BH O;have G:sel codes sb=true:=by unfold sel;rw[zJ a3,←a2b];exact O
   rw[zG G]at A;refine aC (aA yP ?_);refine aA (qq2 (off':=1) a0o zL) ?_;refine aA (yX BX (yR.at 0 rfl)) ?_;refine aJ rfl (AZ AP zL JG (cO rfl bI) ?_);intro _ _;refine aJ rfl (BJ (by':=15) [_,_] rfl rfl rfl rfl rfl AP (.inr ⟨_,AP⟩) kR zL JG rfl hg rfl (fF (yR.at 0 rfl) rfl rfl rfl) oM ?_);intro ae a8;refine aA yQ ?_;refine J.nil (aV (aO (aC (aA (yZ rfl rfl rfl (AA oM)) ?_))));refine aA yP ?_;refine J.nil (dH (bC (bC dA)) ?_);refine bT (j+1,ae) ⟨dO,by dsimp only;rw[A,aQ,aF];exact a8⟩ dO ⟨rfl,by dsimp only;rw[A,aF];rfl,rfl,rfl,rfl,trivial⟩ rfl (by dsimp only;rw[A,aQ];rfl)
  have a7:=BN O;have G:¬sel codes sb=true:=by unfold sel;rw[zJ a3,←a2b];exact fun e=>aY (e.symm.trans O)
  rw[zF G]at A;refine aU (aV (aO (aC (aA (yZ rfl rfl rfl (AA oM)) ?_))));refine aA yP ?_;refine J.nil (dH (bC dA) ?_);refine bT (j+1,g) ⟨dO,by dsimp only;rw[A,aH];exact hg⟩ dO ⟨rfl,by dsimp only;rw[A,aH];rfl,rfl,rfl,rfl,trivial⟩ rfl (by dsimp only;rw[A,aH])
 have a4:=BN Z;refine gQ (eG (dX (eH (aO (cZ ?_)))));have a1:f.subs.take j=f.subs:=aS oM;rw[a1]at hg ⊢;have af:=a1H f codes;refine Cj.perm (H':=gH _ _ _++[]) (.of_eq (aH _)) ?_;refine Cj.a0U hg (fun _ _ hv=>?_);refine aC (aA yP ?_);refine aJ rfl (yU rfl rfl rfl rfl rfl (a5n (ZL codes f.subs) _ (by have:=a8O codes f.subs;omega) (by have e:Ke.join (ZL codes f.subs)=a1Y f codes:=rfl;rw[e];omega) _ hv) ?_);refine aA yQ ?_;refine J.ns (aP (zN ?_));exact rT
theorem c4g f (hi:f.ind.length≤2000000) I:Pure aW 153 [.agg (SB f).toArray] I (i64 ((dK f:Nat):Int)):=by
 refine bZ ?_;refine yT.ob func153 ?_;intro w0 _;refine Cj.sr (aJ rfl (BL ?_));intro _ _;refine aA yQ ?_;refine J.AO (aC (aA (qq2 (off':=0) KW zL) ?_));refine aA (yX BX (yR.at 0 rfl)) ?_;refine aA (ED rfl rfl rfl) ?_;refine aA yP ?_;refine dU 6 rfl (fun A=>?_) (fun A=>?_)
 rotate_left
 ·have a4:=CX A;have Z:¬f.tag=[50,52,53]:=CX A;refine zO 3 6 7 true A ?_;refine zO 3 6 8 true A ?_;refine zO 3 6 9 true A ?_;refine zO 3 6 10 true A ?_;refine aA (DV A) ?_;refine aA yP ?_;refine CQ 9 12 13 true ?_;refine CQ 9 12 14 true ?_;refine CQ 9 12 15 true ?_;refine CQ 9 12 16 true ?_;refine aA IL ?_;refine aA yP ?_;refine CQ 15 18 19 true ?_;refine CQ 15 18 20 true ?_;refine CQ 15 18 21 true ?_;refine CQ 15 18 22 true ?_;refine aA IL ?_;refine J.c0 (fun _=>?_);refine aU (aO (Cj.sr (aA yQ ?_)));refine J.ns (aP (bJ ?_));refine zN ?_;rw[show dK f=0 from zF Z];exact rT
 have a4:=CS A;have Z:f.tag=[50,52,53]:=CS A;refine zU 3 6 true A (zK (qq2 (off':=1) KW zL) ?_);refine zU 3 6 true A (zK (yX BX (yR.at 0 rfl)) ?_);refine zU 3 6 true A (zK (GK BF) ?_);refine zU 3 6 true A (zK (KO rfl rfl rfl) ?_);refine aA (DY A) ?_;refine aA yP ?_;refine dU 12 rfl (fun G=>?_) (fun G=>?_)
 rotate_left
 ·have a5:=BN G;have a3:¬1<f.ind.length:=by have h:=BN G;omega
  refine zO 9 12 13 true G ?_;refine zO 9 12 14 true G ?_;refine zO 9 12 15 true G ?_;refine zO 9 12 16 true G ?_;refine aA (DV G) ?_;refine aA yP ?_;refine CQ 15 18 19 true ?_;refine CQ 15 18 20 true ?_;refine CQ 15 18 21 true ?_;refine CQ 15 18 22 true ?_;refine aA IL ?_;refine J.c0 (fun _=>?_);refine aU (aO (Cj.sr (aA yQ ?_)));refine J.ns (aP (bJ ?_));refine zN ?_;rw[show dK f=fP f from zG Z];rw[b5i a3];exact rT
 have a5:=BH G;have a3:1<f.ind.length:=by have h:=BH G;omega
 obtain⟨c,a0⟩:∃c,f.ind[1]?=some c:=⟨_,DX a3⟩;refine zU 9 12 true G (zK (qq2 (off':=1) KW zL) ?_);refine zU 9 12 true G (zK (yX BX (yR.at 0 rfl)) ?_);refine J.QD 9 12 true _ rfl rfl rfl G (IE (DU rfl rfl rfl BF oM a0) rfl rfl ?_);refine zU 9 12 true G (zK (MC rfl rfl rfl) ?_);refine aA (DY G) ?_;refine aA yP ?_;refine dU 18 rfl (fun O=>?_) (fun O=>?_)
 ·have a6:=BH O;have a8:48≤c.toNat:=by have h:=BH O;omega
  refine zU 15 18 true O (zK (qq2 (off':=1) KW zL) ?_);refine zU 15 18 true O (zK (yX BX (yR.at 0 rfl)) ?_);refine J.QD 15 18 true _ rfl rfl rfl O (IE (DU rfl rfl rfl BF oM a0) rfl rfl ?_);refine zU 15 18 true O (zK (WA rfl rfl rfl) ?_);refine aA (DY O) ?_;refine J.cd (fun a1=>?_) (fun a1=>?_)
  ·have a7:=BH a1;have a9:c.toNat≤57:=by have h:=BH a1;omega
   have a2:iD c=true:=by rw[Ix.XQ];simp only[zH];omega
   refine Cj.sr (aA (qq2 (off':=1) KW zL) ?_);refine aA (yX BX (yR.at 0 rfl)) ?_;refine aA (DU rfl rfl rfl BF oM a0) ?_;refine aA (IC rfl rfl rfl (w8 oM)) ?_;refine aA (NJ rfl rfl ZJ tU3) ?_;refine dR 28 rfl (show _=i64 ((c.toNat-48:Nat):Int) from(zD i64 ((AA oM).trans oM))) ?_;refine aA yQ ?_;refine J.ns (aP (bD (bJ ?_)));refine zN ?_;rw[show dK f=fP f from zG Z];rw[a4r a0,zG a2];exact rT
  ·have a7:=BN a1;have a2:¬iD c=true:=by rw[Ix.XQ];have h:=BN a1;simp only[zH];omega
   refine aU (aO (Cj.sr (aA yQ ?_)));refine J.ns (aP (bJ ?_));refine zN ?_;rw[show dK f=fP f from zG Z];rw[a4r a0,zF a2];exact rT
 ·have a6:=BN O;have a2:¬iD c=true:=by rw[Ix.XQ];have h:=BN O;simp only[zH];omega
  refine zO 15 18 19 true O ?_;refine zO 15 18 20 true O ?_;refine zO 15 18 21 true O ?_;refine zO 15 18 22 true O ?_;refine aA (DV O) ?_;refine J.c0 (fun _=>?_);refine aU (aO (Cj.sr (aA yQ ?_)));refine J.ns (aP (bJ ?_));refine zN ?_;rw[show dK f=fP f from zG Z];rw[a4r a0,zF a2];exact rT
theorem c3x s I:Pure aW 265 [str s] I (.bool (decide (s.length=4))):=by
 refine bZ ?_;refine yT.ob func265 ?_;intro w0 _;refine Cj.sr (aA yQ ?_);refine J.yV (aA yP ?_);refine aA (GK BF) ?_;refine aA BO ?_;refine dR 5 rfl (show _= .bool (decide (s.length=4)) from(zD Value.bool (by rw[fD,beq_iff_eq,zH];omega))) ?_;refine aA yQ ?_;refine J.ns (aP (zN ?_));exact rT
theorem b4t(c:Nat) I:Pure aW 263 [.int .i32 (c:Int)] I (.bool (Ix.nod c)):=by
 refine bZ ?_;refine yT.ob func263 ?_;intro w0 _;refine Cj.sr (aA yQ ?_);refine J.yV (aA yP ?_);refine aA BM ?_;refine aA yP ?_;refine dU 5 rfl (fun A=>?_) (fun A=>?_)
 ·have G:=BH A;refine zO 2 5 6 false A ?_;refine zO 2 5 7 false A ?_;refine aA (DY A) ?_;refine aA yQ ?_;refine J.ns (aP (zN ?_));have e:Ix.nod c=true:=by unfold Ix.nod;have h:=BH A;rw[zI (oM:c<48)];rfl
  rw[e];exact rT
 have G:=BN A;refine zU 2 5 false A (zK yP ?_);refine zU 2 5 false A (zK (KO rfl rfl rfl) ?_);refine aA (DV A) ?_;refine aA yQ ?_;refine J.ns (aP (zN ?_));refine⟨?_,rfl⟩;have h:=BN A;unfold Ix.nod;rw[zJ (oM:¬c<48),Bool.false_or];exact zD (fun b=>Ending.returned (Value.bool b)) (decide_eq_decide.2 oM)
theorem b0S s (hs:s.length≤4000000000) I:yT aW 262 [str s,.func (.func 263) #[] #[]] I [] (fun e O H'=>∃v,e= .returned v∧JX 9 O (dV s) v∧H'=[]):=by
 have hz:∀x:Nat,x≤1114111→∀W:World,Calls aW 263 #[.int .i32 (x:Int)] W fun e w'=>e= .returned (.bool (Ix.nod x))∧RowKit.Below W.heap.size W w':=fun x _ W=>by
  have h:=(b4t x (fun _=>none)).2 W (by unfold Ready;exact⟨(fun b o Z=>by cases Z),(fun p A=>by cases A),List.Pairwise.nil,(fun p A=>by cases A)⟩);exact h.mono fun e w' ⟨O,H',hs,h1,_⟩=>⟨h1,hs.os,hs.tape,hs.output,hs.size,fun k hk=>hs.frm k hk sI⟩
 have G:Lib.goFieldsP Ix.nod ⟨s.toArray⟩=(dV s).map fun x=>⟨x.toArray⟩:=Ix.fieldsD s;refine yT.c6U (vals:=((dV s).map fun x=>(⟨x.toArray⟩:ByteArray)).map Value.string) (by rw[dN];rfl) (Enters.of func262 dE rfl) fun w=>?_;have h:=Tryz.strings_FieldsFunc_grows 263 #[] (enters_of func263 kR rfl) Ix.nod ⟨s.toArray⟩ w (by rw[size_mk];omega) (fun W x hx _=>hz x hx W);rw[G,dD]at h;exact h
theorem b0P l v G g O (hl:l.length≤100000000000000) I (hr:ZA I l v)(a4:∀x∈l,Pure aW g (str x::O) I (.bool (G x))):Pure aW 264 [v,.func (.func g) #[] O.toArray] I (i64 (ZP G l)):=by
 refine bZ ?_;obtain⟨p,c,rfl,_,hp⟩:=hr;refine yT.ob func264 ?_;intro w0 _;refine Cj.sr (aA yQ ?_);refine J.AO (aC (aA yP ?_));refine aA (AU AP) ?_;refine aA yP ?_;refine J.ns (bQ (gK (ι:=Nat) (fun j=>j≤l.length∧∀x∈l.take j,G x=false) (fun j=>l.length-j) (fun j=>[(0,.slice p l.length c),(1,.func (.func g) #[] O.toArray),(7,i64 (l.length:Int)),(8,i64 (j:Int))]) (fun j=>I) (fun j=>[]) 0 ⟨dW _,fun g hg=>by simp at hg⟩ rT rfl rfl ?_));rintro j ⟨_,h⟩;refine Cj.sr (aA BM ?_);refine J.nss (dL rfl (fun Z=>?_) (fun Z=>?_))
 ·have a3:=BH Z;have a2:j<l.length:=oM;obtain⟨x,A⟩:∃x,l[j]?=some x:=⟨_,DX a2⟩;obtain⟨_,fo,_,_,_,sp,rfl,a5,a6⟩:=hp (AX a2);refine aU (aO (cZ (bQ (Cj.sr (aA yP ?_)))));refine aA yQ ?_;refine J.yV (aA yP ?_);refine aA yP ?_;refine aA yP ?_;refine aA (BG (off':=fo+j) AP zL) ?_;refine aA (EN BX (fQ a5) (a6Q a6 A)) ?_;refine aJ rfl (yU rfl rfl rfl rfl rfl (a4 x (FB A)) ?_);refine J.cd (fun a0=>?_) (fun a0=>?_)
  ·have ht:G x=true:=a0;refine Cj.sr (aA yP ?_);refine aA yQ ?_;refine J.ns (aP (bM (bD (Ej.OX (bM (bD (zN ?_)))))));rw[a5l h A ht];exact rT
  have a7:G x=false:=a0;refine aU (aV (aO (aC (aA (yZ rfl rfl rfl (AA oM)) ?_))));refine aA yP ?_;refine J.nil (bT (j+1) ⟨oM,a1d h A a7⟩ oM rT rfl rfl)
 have a3:=BN Z;have a1:l.take j=l:=aS oM;rw[a1]at h;refine gQ (eG (dX (eH (aO (Cj.sr (aA yQ ?_))))));refine J.ns (aP (zN ?_));rw[a2c h];exact rT
theorem a1L:∀(s w:List UInt8),(iR w s).length≤s.length+w.length
 |[],w=>by
  unfold iR
  split
  ·simp
  rename_i h;have:0<w.length:=gB.2 h;simp only[bP,dF];omega
 |c::r,w=>by
  unfold iR
  split
  ·have:=a1L r (w++[c]);rw[aF]at this;simp only[bP,dF]at this ⊢;omega
  split
  ·have:=a1L r [];simp only[dF,bP]at this ⊢;omega
  rename_i h
  have:=a1L r [];have h2:0<w.length:=gB.2 h;simp only[dF,bP]at this ⊢;omega
theorem c0C s:(dV s).length≤s.length:=by
 have:=a1L s [];exact this
theorem c1u s (hs:s.length≤100000000) I:Pure aW 209 [str s] I (.tuple #[str ((dG s).getD []),.bool (dG s).isSome]):=by
 refine bZ ?_;have a4:=c0C s;refine yT.ob func209 ?_;intro w0 _;refine Cj.sr (aA yQ ?_);refine aA yQ ?_;refine J.yV (aA yP ?_);refine aJ rfl (yS (H1:=[]) rfl rfl rfl rfl rfl (b0S s oM _) ?_ (fun _ _ _ _ ⟨_,h,_⟩=>by cases h) (fun _ _ ⟨_,h,_⟩=>by cases h));intro _ _ _ _ a0;obtain⟨_,h,hl,rfl⟩:=a0;cases h;refine aA yQ ?_;refine J.yV (aA yP ?_);refine aJ rfl (yU rfl rfl rfl rfl rfl (b0P (dV s) _ four 265 [] oM _ (ZA.of hl) (fun x _=>c3x x _)) ?_);refine aA yQ ?_;refine J.AO (aC (aA yP ?_));refine aA BM ?_;refine J.cd (fun Z=>?_) (fun Z=>?_)
 ·have A:=BH Z;have G:dG s=none:=((SI four (dV s)).resolve_right (fun⟨k,x,h,_⟩=>by rw[h]at A;omega)).2;refine Cj.sr (aA yQ ?_);refine aA yQ ?_;refine J.ns (aP (bD (bW rfl rfl rfl rfl ?_)));rw[G];exact rT
 have A:=BN Z;obtain⟨k,y,a1,O,G⟩:=(SI four (dV s)).resolve_left (fun h=>by rw[h.1]at A;omega);obtain⟨_,_,_,rfl,a2⟩:=hl.some (fun e=>by rw[e]at O;cases O);rw[a1];have a3:=(aI.1 O).1;refine aU (aO (Cj.sr (aA yP ?_)));refine aA yP ?_;refine aA (BG (off':=k) AP zL) ?_;refine aA (EN BX (fQ a2) (JO O)) ?_;refine aA yQ ?_;refine aA yQ ?_;refine J.ns (aP (bW rfl rfl rfl rfl ?_));rw[show dG s=some y from G];exact rT
def WQ (u:List UInt8→List UInt8×Bool) (code:UInt8) (s:eU):Option (List UInt8):=if (u s.text).2=true∧s.code=code then some (u s.text).1 else none
def uy (s:List UInt8):List UInt8×Bool:=((dG s).getD [],(dG s).isSome)
theorem c5w:WQ uy 99=Ix.yr:=by
 funext s
 unfold WQ uy Ix.yr
 by_cases h:s.code=99
 ·rw[zG h];cases hy:dG s.text with
  |none=>simp
  |some y=>simp[h]
 rw[zF h,zF (fun g=>h g.2)]
theorem c5F{u code}{ss:List eU}{k s}(h:ss[k]?=some s):(ss.take (k+1)).filterMap (WQ u code)=(ss.take k).filterMap (WQ u code)++(if (u s.text).2=true∧s.code=code then[(u s.text).1]else[]):=by
 obtain⟨A,hg⟩:=aI.1 h;rw[aN A,hg,List.filterMap_append]
 by_cases hc:(u s.text).2=true∧s.code=code
 ·rw[zG hc];simp[WQ,hc]
 rw[zF hc];simp[WQ,hc]
theorem pre_eq{s p:List UInt8}(h:p.length≤s.length):p.isPrefixOf s=((s.take p.length).drop 0 == p):=by
 rw[iK,fD,eF,beq_iff_eq,List.prefix_iff_eq_take];exact⟨fun e=>e.symm,fun e=>e.symm⟩
theorem c6M{s p:List UInt8}(h:¬p.length≤s.length):p.isPrefixOf s=false:=by
 rw[gW,Ne,eF];exact fun e=>h e.length_le
theorem OY{T I l v}(h:JX T I l v):∃p c,v= .slice p l.length c:=by
 rcases h with⟨rfl,rfl⟩|⟨b,c,sp,rfl,_,_⟩
 ·exact⟨none,0,rfl⟩
 exact⟨_,c,rfl⟩
theorem a4P{I l a b w}(h:JX 9 I l w)(A:fU a=true)(G:fU b=true):[a,b,w].all fU=true:=by
 obtain⟨p,c,rfl⟩:=OY h;simp only[List.all_cons,List.all_nil,A,G,Bool.and_true,Bool.true_and];rfl
def ZB (fs:List iQ):Prop:=fs.length≤1000∧∀f∈fs,f.subs.length≤1000∧FM f.subs≤3000000∧f.ind.length≤2000000
theorem ZB.fok{fs}(h:ZB fs):FOK fs:=⟨by have:=h.1;omega,fun f hf=>by have:=h.2 f hf;exact⟨oM,this.2.1,this.2.2⟩⟩
abbrev VW:=Ix.V×Value
def vwC (x:VW):List Value:=[str x.1.name,str x.1.key,x.2]
theorem a1k x:(vwC x).length=3:=rfl
def TR (I:Heap) (xs:List VW) (vs:List Ix.V):Prop:=xs.map (·.1)=vs∧∀x∈xs,JX 9 I x.1.ws x.2
theorem TR.mono{I A xs vs}(h:TR I xs vs)(G:Le I A):TR A xs vs:=⟨h.1,fun x O=>(h.2 x O).mono G⟩
theorem TR.len{I xs vs}(h:TR I xs vs):xs.length=vs.length:=by rw[←h.1,dD]
theorem TR.add{I xs vs}(h:TR I xs vs){v w}(A:JX 9 I v.ws w):TR I (xs++[(v,w)]) (vs++[v]):=
 ⟨by rw[aQ,h.1];rfl,fun x G=>by
  rcases dQ.1 G with g|g
  ·exact h.2 x g
  rw[aG.1 g];exact A⟩
def TU (I:Heap) (vs:List Ix.V) (v:Value):Prop:=∃xs,SN 174 vwC I xs v∧TR I xs vs
theorem TU.mono{I G vs v}(h:TU I vs v)(A:Le I G):TU G vs v:=let ⟨xs,h1,h2⟩:=h;⟨xs,h1.mono A,h2.mono A⟩
theorem b0m f (h:f.subs.length≤1000):(aB f).2.length≤1000:=by
 unfold aB
 repeat' split
 all_goals first
  |exact IU (eX _ _) h
  |simp
theorem b4N{p:eU→Option (List UInt8)}{ss:List eU}{s:List UInt8}{n:Nat}(A:∀x∈ss,∀y,p x=some y→y.length≤n)(h:s∈ss.filterMap p):s.length≤n:=by
 obtain⟨x,G,O⟩:=List.mem_filterMap.1 h;exact A x G s O
theorem b1o s:(Ke.a0g s).1.length≤13:=by
 unfold Ke.a0g Ke.b1a
 split
 ·simp only[aF,bY,bP,dF];omega
 split
 ·rename_i h;have:=h.1;dsimp only;omega
 simp
theorem b6n{s y}(h:dG s=some y):y.length=4:=by
 have h1:=List.find?_some h;exact BH h1
theorem a3U{f s}(h:s∈(aB f).2):s.length≤FM f.subs+f.subs.length+13:=by
 have G:∀c:List UInt8,(aT f c).length≤FM f.subs+f.subs.length:=YN f;unfold aB at h
 repeat' split at h
 all_goals first
  |(rw[aG]at h;rw[h];have:=G [97,98];have:=G [97];have:=G [97,120];omega)
  |(refine IU (b4N (n:=13) (fun x _ y A=>?_) h) oM;unfold Ke.isb at A;split at A;(cases A;exact b1o _);cases A)
  |(refine IU (b4N (n:=13) (fun x _ y A=>?_) h) oM;unfold Ix.yr at A;split at A;(have:=b6n A;omega);cases A)
  |cases h
theorem b9x f (h:f.subs.length≤1000):(eY f).length≤1001:=by
 have:=b0m f h;unfold eY;rw[aF,dD]
 split<;>simp<;>omega
theorem a9v fs (h:ZB fs) j:(dM (fs.take j)).length≤j*1001:=by
 induction j with
 |zero=>simp[dM]
 |succ j G=>
  rcases gI j fs.length with A|A
  ·rw[aN A];unfold dM at G ⊢;rw[bF,aF];have:=b9x fs[j] (h.2 _ (List.getElem_mem A)).1;simp only[gU,List.flatMap_nil,aH];omega
  rw[aS A]at G;rw[aS (show fs.length≤j+1 by omega)];exact IU G (Nat.mul_le_mul_right _ (Nat.le_succ j))
theorem a4v{fs:List iQ}{j f}(h:fs[j]?=some f):dM (fs.take (j+1))=dM (fs.take j)++eY f:=by
 obtain⟨A,hg⟩:=aI.1 h;rw[aN A,hg];unfold dM;rw[bF];simp
abbrev nv (f:iQ) (s:List UInt8):Ix.V:=⟨(aB f).1,s,dK f⟩
theorem a1B{α β:Type}(g:α→β){l:List α}{k x}(h:l[k]?=some x):(l.take (k+1)).map g=(l.take k).map g++[g x]:=by
 obtain⟨A,hg⟩:=aI.1 h;rw[aN A,hg,aQ];rfl
structure VA where
  j:Nat
  J:Heap
  xs:List VW
  g:Gs
theorem b0C s p (Z:p.length≤1000000) I:Pure aW 99 [str s,str p] I (.bool (p.isPrefixOf s)):=by
 refine bZ ?_;refine yT.ob func99 ?_;intro w0 _;refine Cj.sr (aA yQ ?_);refine J.yV (aA yP ?_);refine aA (GK BF) ?_;refine aA yP ?_;refine aA (GK BF) ?_;refine aA (MC rfl rfl rfl) ?_;refine aA yP ?_;refine dU 10 rfl (fun A=>?_) (fun A=>?_)
 ·have O:=BH A;have G:p.length≤s.length:=by have h:=BH A;omega
  refine zU 5 10 true A (zK yP ?_);refine zU 5 10 true A (zK yP ?_);refine zU 5 10 true A (zK (GK BF) ?_);refine J.QD 5 10 true _ rfl rfl rfl A (IE (CY (p:=0) (q:=p.length) rfl rfl BF rfl ⟨_,rfl⟩ oM oM) rfl rfl ?_);refine zU 5 10 true A (zK yP ?_);refine zU 5 10 true A (zK (ED rfl rfl rfl) ?_);refine aA (DY A) ?_;refine aA yQ ?_;refine J.ns (aP (zN ?_));refine⟨?_,rfl⟩;rw[pre_eq G]
 have O:=BN A;have G:¬p.length≤s.length:=by have h:=BN A;omega
 refine zO 5 10 11 true A ?_;refine zO 5 10 12 true A ?_;refine zO 5 10 13 true A ?_;refine zO 5 10 14 true A ?_;refine zO 5 10 15 true A ?_;refine zO 5 10 16 true A ?_;refine aA (DV A) ?_;refine aA yQ ?_;refine J.ns (aP (zN ?_));rw[c6M G];exact rT
theorem a1D s p (h:p.length≤1000000) I:Pure aW 56 [str s,str p] I (.bool (p.isPrefixOf s)):=by
 refine bZ ?_;refine yT.ob func56 ?_;intro w0 _;refine Cj.sr (aA yQ ?_);refine J.yV (aA yP ?_);refine aA yP ?_;refine aJ rfl (yU rfl rfl rfl rfl rfl (b0C s p h _) ?_);refine aA yQ ?_;refine J.ns (aP (zN ?_));exact rT
theorem a4Y f code g0 u (hn:f.subs.length≤2000000)(ac:FM f.subs≤3000000)(hu:∀s J,s.length≤100000000→Pure aW g0 [str s] J (.tuple #[str (u s).1,.bool (u s).2])) I (hr:zY a2x I f.subs f.sv):yT aW 208 [.agg (SB f).toArray,u8 code,.func (.func g0) #[] #[]] I []
 (fun e I' H'=>∃v,e= .returned v∧JX 9 I' (f.subs.filterMap (WQ u code)) v∧H'=[]):=by
 obtain⟨p2,c2,a7,Z,a8⟩:=hr;refine yT.ob func208 ?_;intro w0 _;refine Cj.sr (aJ rfl (BL ?_));intro _ _;refine aA yQ ?_;refine J.yV (aA yQ ?_);refine J.AO (aC (aA (qq2 (off':=3) KW ZU) ?_));refine aA (yX isAgg58 (yR.at 0 rfl)) ?_;refine dR 13 rfl (show _= .slice p2 f.subs.length c2 from a7) ?_;refine aA (AU WY) ?_;refine aA yP ?_;refine J.ns (bQ (iM (bC iT) ?_));refine gK (ι:=Nat×Gs) (fun j=>j.1≤f.subs.length∧CU w0.heap.size 1 ((f.subs.take j.1).filterMap (WQ u code)).length (((f.subs.take j.1).filterMap (WQ u code)).map str) j.2) (fun j=>f.subs.length-j.1) (fun j=>[(1,u8 code),(2,.func (.func g0) #[] #[]),(7,gV ((f.subs.take j.1).filterMap (WQ u code)).length j.2),(13,.slice p2 f.subs.length c2),(14,i64 (f.subs.length:Int)),(15,i64 (j.1:Int))]) (fun j=>_) (fun j=>gH 9 (((f.subs.take j.1).filterMap (WQ u code)).map str) j.2) (0,none) ⟨dW _,rfl,rfl⟩ rT rfl rfl ?_;rintro⟨j,g⟩ ⟨hj,hg⟩;dsimp only at hj hg ⊢;have a9:=eX (WQ u code) (f.subs.take j);rw[bY,fE hj]at a9;refine Cj.sr (aA BM ?_);refine J.nss (dL rfl (fun Z=>?_) (fun Z=>?_))
 ·have a4:=BH Z;refine aU (aO (cZ (bQ (cZ ?_))));have a3:j<f.subs.length:=oM;obtain⟨sb,O⟩:∃x,f.subs[j]?=some x:=⟨_,DX a3⟩;obtain⟨_,so,_,_,_,_,rfl,a5,aa⟩:=a8 (AX a3);have ad:=c2H (FB O);have A:=c5F (u:=u) (code:=code) O;refine aC (aA (BG (off':=so+j*2) WY UK) ?_);refine aA (FH isAgg62 UK (fQ a5) (EJ ZW aa O)) ?_;refine aJ rfl (BP a1y ?_);intro _ _;refine aJ rfl (zS 0 UK (bV (bV dY)) AV.z ?_);refine J.yV (aA yP ?_);refine aA (qq2 (off':=1) a0o zL) ?_;refine aA (yX BX (yR.at 0 rfl)) ?_;refine aJ rfl (yU rfl rfl rfl rfl rfl (hu sb.text _ oM) ?_);refine aA yP ?_;refine aA AQ ?_;refine aA AQ ?_;refine aA yQ ?_;refine aA yQ ?_;refine J.yV (aA (qq2 (off':=0) a0o RF) ?_);refine aA (yX tA5 (yR.at 0 rfl)) ?_;refine aA yP ?_;refine aA BO ?_;refine aA yP ?_;refine dU 30 rfl (fun G=>?_) (fun G=>?_)
  rotate_left
  ·have a6:=CX G;have a0:sb.code≠code:=fun e=>CX G (by rw[e]);rw[zF (fun g=>a0 g.2)]at A;refine zO 4 30 31 true G ?_;refine aA (DV G) ?_;refine J.c0 (fun _=>?_);refine aU (aV (aO (aC (aA (yZ rfl rfl rfl (AA oM)) ?_))));refine aA yP ?_;refine J.nil (dH (bC dA) ?_);refine bT (j+1,g) ⟨dO,by dsimp only;rw[A,aH];exact hg⟩ dO ⟨rfl,rfl,by dsimp only;rw[A,aH];rfl,rfl,rfl,rfl,trivial⟩ rfl (by dsimp only;rw[A,aH])
  have a6:=CS G;have a0:sb.code=code:=UInt8.toNat_inj.1 (by have h:=CS G;omega);refine zU 4 30 true G (zK yP ?_);refine aA (DY G) ?_;refine J.cd (fun a1=>?_) (fun a1=>?_)
  ·rw[zG ⟨a1,a0⟩]at A;refine aC (aA yP ?_);refine aA yP ?_;refine aJ rfl (AZ AP zL JG (cO rfl bI) ?_);intro _ _;refine aJ rfl (BJ (by':=15) [_,_] rfl rfl rfl rfl rfl AP (.inr ⟨_,AP⟩) kR zL JG rfl hg rfl (fF (yR.at 0 rfl) rfl rfl rfl) oM ?_);intro g7 ab;refine aA yQ ?_;refine J.nil (aV (aO (aC (aA (yZ rfl rfl rfl (AA oM)) ?_))));refine aA yP ?_;refine J.nil (dH (bC (bC dA)) ?_);refine bT (j+1,g7) ⟨dO,by dsimp only;rw[A,aQ,aF];exact ab⟩ dO ⟨rfl,rfl,by dsimp only;rw[A,aF];rfl,rfl,rfl,rfl,trivial⟩ rfl (by dsimp only;rw[A,aQ];rfl)
  rw[zF (fun g=>aY (g.1.symm.trans a1))]at A;refine aU (aV (aO (aC (aA (yZ rfl rfl rfl (AA oM)) ?_))));refine aA yP ?_;refine J.nil (dH (bC dA) ?_);refine bT (j+1,g) ⟨dO,by dsimp only;rw[A,aH];exact hg⟩ dO ⟨rfl,rfl,by dsimp only;rw[A,aH];rfl,rfl,rfl,rfl,trivial⟩ rfl (by dsimp only;rw[A,aH])
 have a4:=BN Z;refine gQ (eG (dX (eH (aO (cZ ?_)))));have a2:f.subs.take j=f.subs:=aS oM;rw[a2]at hg ⊢;refine Cj.perm (H':=gH _ _ _++[]) (.of_eq (aH _)) ?_;refine Cj.a0U hg (fun _ _ hv=>?_);refine aC (aA yP ?_);refine aA yQ ?_;refine J.ns (aP (zN ?_));exact⟨_,rfl,hv,rfl⟩
theorem named_ok f (hn:f.subs.length≤2000000)(G:FM f.subs≤3000000) I (hr:zY a2x I f.subs f.sv):yT aW 151 [.agg (SB f).toArray] I []
 (fun e I' H'=>∃v,e= .returned (.tuple #[str (aB f).1,v])∧JX 9 I' (aB f).2 v∧H'=[]):=by
 refine yT.ob func151 ?_;intro w0 _;refine Cj.sr (aJ rfl (BL ?_));intro _ _;refine aA yQ ?_;refine aA yQ ?_;refine J.AO (aC (aA (qq2 (off':=0) KW zL) ?_));refine aA (yX BX (yR.at 0 rfl)) ?_;refine J.ns (bQ (cZ (Cj.sr (aA (ED rfl rfl rfl) ?_))));refine aA yQ ?_;refine J.cd (fun a5=>?_) (fun a5=>?_)
 ·have aw:=CS a5;refine aU (aO (dL rfl (fun av=>?_) (fun av=>aY (iE (iO a5) av))));refine Cj.sr (aA (zX QY GV (yR.at 0 rfl)) ?_);refine aJ rfl (yU rfl rfl rfl rfl rfl (UY f [97,98] hn G _ hr) ?_);refine dR 10 rfl (show _=str (aT f [97,98]) from(zD str (WU (bG _ _)))) ?_;refine aJ rfl (AZ AP zL JG (cO rfl bI) ?_);intro b4 b9;refine aA yQ ?_;refine aA yQ ?_;refine J.ns (aP (bM (bD ?_)));have A:aB f=(Ix.a5i,[aT f [97,98]]):=by simp[aB, *]
  rw[A];refine dI b9 (fun _ ax ay=>?_);have hr:=hr.mono ax;refine bJ ?_;refine bW rfl rfl rfl rfl ?_;exact⟨_,rfl,.inr ⟨b4,1,[],rfl,aX _,ay⟩,rfl⟩
 have aw:=CX a5;refine aC (aA (ED rfl rfl rfl) ?_);refine aA yQ ?_;refine J.cd (fun a6=>?_) (fun a6=>?_)
 ·have az:=CS a6;refine Cj.sr (aA (zX QY GV (yR.at 0 rfl)) ?_);refine aJ rfl (yU rfl rfl rfl rfl rfl (UY f [97,98] hn G _ hr) ?_);refine dR 10 rfl (show _=str (aT f [97,98]) from(zD str (WU (bG _ _)))) ?_;refine aJ rfl (AZ AP zL JG (cO rfl bI) ?_);intro b8 ba;refine aA yQ ?_;refine aA yQ ?_;refine J.ns (aP (bM (bD ?_)));have A:aB f=(Ix.a5i,[aT f [97,98]]):=by simp[aB, *]
  rw[A];refine dI ba (fun _ b0 b1=>?_);have hr:=hr.mono b0;refine bJ ?_;refine bW rfl rfl rfl rfl ?_;exact⟨_,rfl,.inr ⟨b8,1,[],rfl,aX _,b1⟩,rfl⟩
 have az:=CX a6;refine cZ (Cj.sr (aA (ED rfl rfl rfl) ?_));refine aA yQ ?_;refine J.cd (fun O=>?_) (fun O=>?_)
 ·have aa:=CS O;refine aU (aO (dL rfl (fun a7=>?_) (fun a7=>aY (iE (iO O) a7))));refine Cj.sr (aA (zX QY GV (yR.at 0 rfl)) ?_);refine aJ rfl (yU rfl rfl rfl rfl rfl (UY f [97] hn G _ hr) ?_);refine dR 17 rfl (show _=str (aT f [97]) from(zD str (WU (bG _ _)))) ?_;refine aJ rfl (AZ AP zL JG (cO rfl bI) ?_);intro bb b2;refine aA yQ ?_;refine aA yQ ?_;refine J.ns (aP (bM (bD ?_)));have A:aB f=(iH,[aT f [97]]):=by simp[aB, *]
  rw[A];refine dI b2 (fun _ ab ac=>?_);have hr:=hr.mono ab;refine bJ ?_;refine bW rfl rfl rfl rfl ?_;exact⟨_,rfl,.inr ⟨bb,1,[],rfl,aX _,ac⟩,rfl⟩
 have aa:=CX O;refine Cj.sr (aA (ED rfl rfl rfl) ?_);refine aA yQ ?_;refine J.cd (fun Z=>?_) (fun Z=>?_)
 ·have ad:=CS Z;refine aU (aO (dL rfl (fun a8=>?_) (fun a8=>aY (iE (iO Z) a8))));refine Cj.sr (aA (zX QY GV (yR.at 0 rfl)) ?_);refine aJ rfl (yU rfl rfl rfl rfl rfl (UY f [97] hn G _ hr) ?_);refine dR 17 rfl (show _=str (aT f [97]) from(zD str (WU (bG _ _)))) ?_;refine aJ rfl (AZ AP zL JG (cO rfl bI) ?_);intro bc b3;refine aA yQ ?_;refine aA yQ ?_;refine J.ns (aP (bM (bD ?_)));have A:aB f=(iH,[aT f [97]]):=by simp[aB, *]
  rw[A];refine dI b3 (fun _ ae af=>?_);have hr:=hr.mono ae;refine bJ ?_;refine bW rfl rfl rfl rfl ?_;exact⟨_,rfl,.inr ⟨bc,1,[],rfl,aX _,af⟩,rfl⟩
 have ad:=CX Z;refine aC (aA (ED rfl rfl rfl) ?_);refine aA yQ ?_;refine J.cd (fun a1=>?_) (fun a1=>?_)
 ·have ag:=CS a1;refine Cj.sr (aA (zX QY GV (yR.at 0 rfl)) ?_);refine aJ rfl (yU rfl rfl rfl rfl rfl (UY f [97] hn G _ hr) ?_);refine dR 17 rfl (show _=str (aT f [97]) from(zD str (WU (bG _ _)))) ?_;refine aJ rfl (AZ AP zL JG (cO rfl bI) ?_);intro bd hb22;refine aA yQ ?_;refine aA yQ ?_;refine J.ns (aP (bM (bD ?_)));have A:aB f=(iH,[aT f [97]]):=by simp[aB, *]
  rw[A];refine dI hb22 (fun _ ah ai=>?_);have hr:=hr.mono ah;refine bJ ?_;refine bW rfl rfl rfl rfl ?_;exact⟨_,rfl,.inr ⟨bd,1,[],rfl,aX _,ai⟩,rfl⟩
 have ag:=CX a1;refine cZ (Cj.sr (aA (ED rfl rfl rfl) ?_));refine aA yQ ?_;refine J.cd (fun a0=>?_) (fun a0=>?_)
 ·have aj:=CS a0;refine aU (aO (dL rfl (fun a9=>?_) (fun a9=>aY (iE (iO a0) a9))));refine Cj.sr (aA (zX QY GV (yR.at 0 rfl)) ?_);refine aJ rfl (yU rfl rfl rfl rfl rfl (UY f [97,120] hn G _ hr) ?_);refine dR 23 rfl (show _=str (aT f [97,120]) from(zD str (WU (bG _ _)))) ?_;refine aJ rfl (AZ AP zL JG (cO rfl bI) ?_);intro be b5;refine aA yQ ?_;refine aA yQ ?_;refine J.ns (aP (bM (bD ?_)));have A:aB f=(Ix.a7a,[aT f [97,120]]):=by simp[aB, *]
  rw[A];refine dI b5 (fun _ ak al=>?_);have hr:=hr.mono ak;refine bJ ?_;refine bW rfl rfl rfl rfl ?_;exact⟨_,rfl,.inr ⟨be,1,[],rfl,aX _,al⟩,rfl⟩
 have aj:=CX a0;refine aC (aA (ED rfl rfl rfl) ?_);refine aA yQ ?_;refine J.cd (fun a2=>?_) (fun a2=>?_)
 ·have am:=CS a2;refine Cj.sr (aA (zX QY GV (yR.at 0 rfl)) ?_);refine aJ rfl (yU rfl rfl rfl rfl rfl (UY f [97,120] hn G _ hr) ?_);refine dR 23 rfl (show _=str (aT f [97,120]) from(zD str (WU (bG _ _)))) ?_;refine aJ rfl (AZ AP zL JG (cO rfl bI) ?_);intro bf b6;refine aA yQ ?_;refine aA yQ ?_;refine J.ns (aP (bM (bD ?_)));have A:aB f=(Ix.a7a,[aT f [97,120]]):=by simp[aB, *]
  rw[A];refine dI b6 (fun _ an ao=>?_);have hr:=hr.mono an;refine bJ ?_;refine bW rfl rfl rfl rfl ?_;exact⟨_,rfl,.inr ⟨bf,1,[],rfl,aX _,ao⟩,rfl⟩
 have am:=CX a2;refine Cj.sr (aA (ED rfl rfl rfl) ?_);refine aA yQ ?_;refine J.cd (fun a3=>?_) (fun a3=>?_)
 ·have ap:=CS a3;refine Cj.sr (aA (zX QY GV (yR.at 0 rfl)) ?_);refine aJ rfl (yS (H1:=[]) rfl rfl rfl rfl rfl (a4Y f 97 93 Ke.a0g hn G (fun s J h=>a8N s h J) _ hr) ?_ (fun _ _ _ _ ⟨_,h,_⟩=>by cases h) (fun _ _ ⟨_,h,_⟩=>by cases h));intro _ _ _ aq b7;have hr:=hr.mono aq;obtain⟨vl,h,hv,rfl⟩:=b7;cases h;refine aA yQ ?_;refine aA yQ ?_;refine J.ns (aP (bM (bD ?_)));have A:aB f=(Ix.a8s,f.subs.filterMap Ke.isb):=by simp[aB, *]
  rw[A];refine bJ ?_;refine bW rfl rfl rfl rfl ?_;exact⟨_,rfl,hv,rfl⟩
 have ap:=CX a3;refine Cj.sr (aA (ED rfl rfl rfl) ?_);refine aA yQ ?_;refine J.cd (fun a4=>?_) (fun a4=>?_)
 ·have ar:=CS a4;refine Cj.sr (aA (zX QY GV (yR.at 0 rfl)) ?_);refine aJ rfl (yS (H1:=[]) rfl rfl rfl rfl rfl (a4Y f 99 209 uy hn G (fun s J h=>c1u s h J) _ hr) ?_ (fun _ _ _ _ ⟨_,h,_⟩=>by cases h) (fun _ _ ⟨_,h,_⟩=>by cases h));intro _ _ _ au hp45;have hr:=hr.mono au;obtain⟨vl,h,hv,rfl⟩:=hp45;cases h;refine aA yQ ?_;refine aA yQ ?_;refine J.ns (aP (bM (bD ?_)));have A:aB f=(Ix.c3I,f.subs.filterMap Ix.yr):=by simp[aB, *]
  rw[A];refine bJ ?_;refine bW rfl rfl rfl rfl ?_;rw[←c5w];exact⟨_,rfl,hv,rfl⟩
 have ar:=CX a4;refine aU (aV (aO (Cj.sr (aA yQ ?_))));refine aA yQ ?_;refine J.ns (aP ?_);have A:aB f=([],[]):=by simp[aB, *]
 rw[A];refine bJ ?_;refine bW rfl rfl rfl rfl ?_;exact⟨_,rfl,.inl rT,rfl⟩
theorem a5L fs v rk rl (aa:ZB fs) I (aj:QW I fs v):yT aW 84 [a8V rk rl v] I []
 (fun e I' H'=>∃w,e= .returned w∧TU I' (dM fs) w∧H'=[]):=by
 have b7:=aa.1;obtain⟨p,c,rfl,_,-⟩:=id aj.1;refine yT.ob func84 ?_;intro w0 _;refine Cj.sr (aJ rfl (BL ?_));intro _ _;refine aA yQ ?_;refine J.yV (aA yQ ?_);refine J.AO (aC (aA (qq2 (off':=2) VX SQ) ?_));refine aA (yX a1z (yR.at 0 rfl)) ?_;refine aA (AU QA) ?_;refine aA yP ?_;refine J.ns (bQ (iM (bC iT) ?_));refine gK (ι:=VA) (fun y=>y.j≤fs.length∧Le I y.J∧TR y.J y.xs (dM (fs.take y.j))∧CU w0.heap.size 3 y.xs.length (y.xs.flatMap vwC) y.g) (fun y=>fs.length-y.j) (fun y=>[(3,gV y.xs.length y.g),(12,.slice p fs.length c),(13,i64 (fs.length:Int)),(14,i64 (y.j:Int))]) (fun y=>y.J) (fun y=>gH 174 (y.xs.flatMap vwC) y.g) ⟨0,_,[],none⟩ ⟨dW _,iL _,⟨rfl,fun x hx=>by cases hx⟩,rfl,rfl⟩ rT rfl rfl ?_;rintro⟨j,_,xs,g⟩ ⟨hj,Z,O,hg⟩;dsimp only at hj Z O hg ⊢;have hr:=aj.mono Z;have ak:=O.len;have b8:=a9v fs aa j;refine Cj.sr (aA BM ?_);refine J.nss (dL rfl (fun ab=>?_) (fun ab=>?_))
 ·have ao:=BH ab;have al:j<fs.length:=oM;obtain⟨f,a5⟩:∃f,fs[j]?=some f:=⟨_,DX al⟩;have am:=FB a5;obtain⟨az,an,b0⟩:=aa.2 f am;obtain⟨⟨p1,c1,b1,_,hp⟩,ac⟩:=id hr;cases b1;obtain⟨fb,fo,_,_,_,sp,rfl,a3,b2⟩:=hp (AX al);have a1:=ac f am;clear ac;obtain⟨p2,_,hsv,-,-⟩:=id a1;have b9:=b0m f az;have ap:=a1H f [];rw[a2g]at ap;refine aU (aO (cZ (bQ (Cj.sr (aA (BG (off':=fo+j*4) QA GV) ?_)))));refine aA (FH QY GV (fQ a3) (EJ PY b2 a5)) ?_;refine aJ rfl (BP UC ?_);intro b3 _;refine aJ rfl (EM 0 rfl rfl rfl rfl rfl (a1n hsv) GV rfl rfl (bV (bV (bV (bV dY)))) AV.z ?_);refine J.yV (aA (zX QY GV (yR.at 0 rfl)) ?_);refine aJ rfl (yS (H1:=[]) rfl rfl rfl rfl rfl (named_ok f oM an _ a1) ?_ (fun _ _ _ _ ⟨_,h,_⟩=>by cases h) (fun _ _ ⟨_,h,_⟩=>by cases h));intro _ I5 _ a6 b4;have hr:=hr.mono a6;have O:=O.mono a6;have Z:=Z.mono a6;have a3:=a6 _ _ a3;have a1:=a1.mono a6;obtain⟨_,h,a4,rfl⟩:=b4;cases h;obtain⟨lp,lc,rfl⟩:=OY a4;refine aA yP ?_;refine aA AQ ?_;refine aA AQ ?_;refine aA yQ ?_;refine aA yQ ?_;refine J.AO (aC (aA yP ?_));refine aA (AU AP) ?_;refine aA yP ?_;refine J.ns (bQ (iM (Keeps.k dA) ?_));refine gK (ι:=VA) (fun y=>y.j≤(aB f).2.length∧Le I5 y.J∧TR y.J y.xs (dM (fs.take j)++((aB f).2.take y.j).map (nv f))∧CU w0.heap.size 3 y.xs.length (y.xs.flatMap vwC) y.g) (fun y=>(aB f).2.length-y.j) (fun y=>[(3,gV y.xs.length y.g),(5,ptr b3 0),(6,str (aB f).1),(12,.slice (some ⟨fb,fo,none⟩) fs.length c),(13,i64 (fs.length:Int)),(14,i64 (j:Int)),(23,.slice lp (aB f).2.length lc),(24,i64 ((aB f).2.length:Int)),(25,i64 (y.j:Int))]) (fun y=>y.J) (fun y=>(b3,yY 60 (SB f))::gH 174 (y.xs.flatMap vwC) y.g) ⟨0,_,xs,g⟩ ⟨dW _,iL _,by dsimp only;rw[List.take_zero,eP,aH];exact O,hg⟩ rT rfl rfl ?_;rintro⟨q,_,xs,g⟩ ⟨hq,a2,O,hg⟩;dsimp only at hq a2 O hg ⊢;have Z:=Z.mono a2;have hr:=hr.mono a2;have a1:=a1.mono a2;have a4:=a4.mono a2;have a3:=a2 _ _ a3;have ak:=O.len;rw[aF,dD,bY,fE hq]at ak;refine Cj.sr (aA BM ?_);refine J.nss (dL rfl (fun ad=>?_) (fun ad=>?_))
  ·have aq:=BH ad;have ae:q<(aB f).2.length:=oM;obtain⟨s,a8⟩:∃s,(aB f).2[q]?=some s:=⟨_,DX ae⟩;have ba:=a3U (FB a8);obtain⟨_,_,_,ar,af⟩:=a4.some (AX ae);cases ar;refine aU (aO (cZ (bQ (Cj.sr (aA (BG (off':=q) AP zL) ?_)))));refine aA (EN BX (fQ af) (JO a8)) ?_;refine aA yQ ?_;refine J.GL (aA yP ?_);refine aA yP ?_;refine aA yP ?_;refine aA (zX QY GV (yR.at 0 rfl)) ?_;refine aJ rfl (yU rfl rfl rfl rfl rfl (c4g f b0 _) ?_);refine aJ rfl (yU rfl rfl rfl rfl rfl (XR s ((dK f:Nat):Int) oM _) ?_);refine aA yP ?_;refine aJ rfl (yS (H1:=[]) rfl rfl rfl rfl rfl (WV s oM _) ?_ (fun _ _ _ _ ⟨_,h,_⟩=>by cases h) (fun _ _ ⟨_,h,_⟩=>by cases h));intro _ _ _ G au;have hr:=hr.mono G;have O:=O.mono G;have a1:=a1.mono G;have a4:=a4.mono G;have a3:=G _ _ a3;have Z:=Z.mono G;have a2:=a2.mono G;have af:=G _ _ af;obtain⟨_,h,ag,rfl⟩:=au;cases h;obtain⟨_,_,rfl⟩:=OY ag;refine aA (zV (pl:= #[(0,1),(1,1),(2,1)]) rfl rfl a0V rfl YT (fun w=>by simp[LK,zL]) (dZ rfl rfl rfl (bV dY) (dZ rfl rfl rfl (gJ (bV dY)) (dZ rfl rfl rfl (gJ (gJ (bV dY))) GN.none)))) ?_;refine aJ rfl (AZ QH NP a0V (CG.agg rfl bI) ?_);intro _ _;refine aJ rfl (BJ (by':=55) [_,_] rfl rfl rfl rfl rfl QH (.inr ⟨_,QH⟩) kR NP a0V rfl hg rfl (fF (yR.at 0 rfl) rfl rfl (a4P ag rfl rfl)) oM ?_);intro b5 av;refine aA yQ ?_;refine J.nil (aV (aO (aC (aA (yZ rfl rfl rfl (AA oM)) ?_))));refine aA yP ?_;refine J.nil (dH (bC (Keeps.k dA)) ?_);refine bT ⟨q+1,_,xs++[(nv f s,_)],b5⟩ ⟨dO,a2,by dsimp only;rw[a1B (nv f) a8,←gX];exact O.add ag,by dsimp only;rw[aF,bF];exact av⟩ dO ⟨by dsimp only;rw[aF];rfl,rfl,rfl,rfl,rfl,rfl,rfl,rfl,rfl,trivial⟩ rfl (by dsimp only;rw[bF];rfl)
  have aq:=BN ad;rw[aS (oM:(aB f).2.length≤q)]at O;refine gQ (eG (dX (eH (aO (Cj.sr (aA (qq2 (off':=0) KW zL) ?_))))));refine aA (yX BX (yR.at 0 rfl)) ?_;refine aJ rfl (yU rfl rfl rfl rfl rfl (a1D f.tag [48,48] dE _) ?_);refine aA (ER rfl rfl) ?_;refine aA yP ?_;refine dU 45 rfl (fun A=>?_) (fun A=>?_)
  rotate_left
  ·have a7:¬fA f=true:=by unfold fA;rw[dJ];exact fun e=>aY (e.1.symm.trans A)
   refine zO 4 45 46 true A ?_;refine zO 4 45 47 true A ?_;refine zO 4 45 48 true A ?_;refine zO 4 45 49 true A ?_;refine aA (DV A) ?_;refine J.c0 (fun _=>?_);refine aU (aV (aO (aC (aA (yZ rfl rfl rfl (AA oM)) ?_))));refine aA yP ?_;refine J.nil (dH (bC dA) ?_);refine bT ⟨j+1,_,xs,g⟩ ⟨dO,Z,by dsimp only;rw[a4v a5];unfold eY;rw[zF a7,aH];exact O,by dsimp only;exact hg⟩ dO rT rfl rfl
  refine zU 4 45 true A (zK (qq2 (off':=0) KW zL) ?_);refine zU 4 45 true A (zK (yX BX (yR.at 0 rfl)) ?_);refine J.QD 4 45 true _ rfl rfl rfl A (yU rfl rfl rfl rfl rfl (a1D f.tag [57] dE _) ?_);refine zU 4 45 true A (zK (ER rfl rfl) ?_);refine aA (DY A) ?_;refine J.cd (fun a9=>?_) (fun a9=>?_)
  ·have a7:fA f=true:=by unfold fA;rw[dJ];exact⟨A,a9⟩
   refine Cj.sr (aA (zX QY GV (yR.at 0 rfl)) ?_);refine aJ rfl (yU rfl rfl rfl rfl rfl (UY f [] oM an _ a1) ?_);refine dR 52 rfl (show _=str (dP f) from(zD str (a2g f))) ?_;refine aA yQ ?_;refine J.GL (aA yP ?_);refine aA yP ?_;refine aJ rfl (yU rfl rfl rfl rfl rfl (XR (dP f) 0 oM _) ?_);refine aA yP ?_;refine aJ rfl (yS (H1:=[]) rfl rfl rfl rfl rfl (WV (dP f) oM _) ?_ (fun _ _ _ _ ⟨_,h,_⟩=>by cases h) (fun _ _ ⟨_,h,_⟩=>by cases h));intro _ _ _ a0 aw;have hr:=hr.mono a0;have O:=O.mono a0;have a1:=a1.mono a0;have a4:=a4.mono a0;have a3:=a0 _ _ a3;have Z:=Z.mono a0;have a2:=a2.mono a0;obtain⟨_,h,ah,rfl⟩:=aw;cases h;obtain⟨_,_,rfl⟩:=OY ah;refine aA (zV (pl:= #[(0,1),(1,1),(2,1)]) rfl rfl a0V rfl YT (fun w=>by simp[LK,zL]) (dZ rfl rfl rfl (bV dY) (dZ rfl rfl rfl (gJ (bV dY)) (dZ rfl rfl rfl (gJ (gJ (bV dY))) GN.none)))) ?_;refine aJ rfl (AZ QH NP a0V (CG.agg rfl bI) ?_);intro _ _;refine aJ rfl (BJ (by':=55) [_,_] rfl rfl rfl rfl rfl QH (.inr ⟨_,QH⟩) kR NP a0V rfl hg rfl (fF (yR.at 0 rfl) rfl rfl (a4P ah rfl rfl)) oM ?_);intro b6 ax;refine aA yQ ?_;refine J.nil (aV (aO (aC (aA (yZ rfl rfl rfl (AA oM)) ?_))));refine aA yP ?_;refine J.nil (dH (bC (bC dA)) ?_);refine bT ⟨j+1,_,xs++[(⟨Ix.c6B,dP f,0⟩,_)],b6⟩ ⟨dO,Z,by dsimp only;rw[a4v a5];unfold eY;rw[zG a7,←gX];exact O.add ah,by dsimp only;rw[aF,bF];exact ax⟩ dO ⟨by dsimp only;rw[aF];rfl,rfl,rfl,rfl,trivial⟩ rfl (by dsimp only;rw[bF];rfl)
  have a7:¬fA f=true:=by unfold fA;rw[dJ];exact fun e=>aY (e.2.symm.trans a9)
  refine aU (aV (aO (aC (aA (yZ rfl rfl rfl (AA oM)) ?_))));refine aA yP ?_;refine J.nil (dH (bC dA) ?_);refine bT ⟨j+1,_,xs,g⟩ ⟨dO,Z,by dsimp only;rw[a4v a5];unfold eY;rw[zF a7,aH];exact O,by dsimp only;exact hg⟩ dO rT rfl rfl
 have ao:=BN ab;refine gQ (eG (dX (eH (aO (cZ ?_)))));have ai:fs.take j=fs:=aS oM;rw[ai]at O;refine Cj.perm (H':=gH _ _ _++[]) (.of_eq (aH _)) ?_;refine Cj.c7r a1k dE hg rfl (fun _ ay hv=>?_);have O:=O.mono ay;refine aC (aA yP ?_);refine aA yQ ?_;refine J.ns (aP (zN ?_));exact⟨_,rfl,⟨xs,hv,O⟩,rfl⟩
end Go.Proofs.YtojdemmgkdokmaaGreatDoor
namespace Go.Sx
open Go
section
variable {α:Type} [BEq α] [LawfulBEq α]
def MS (l:ML α) (c:Nat):Prop:=(l.map (·.1)).Nodup∧(l.map (·.2.2)).Nodup∧∀p∈l,p.2.2<c
omit [BEq α] [LawfulBEq α] in
theorem MS.nil:MS ([]:ML α) 0:=⟨.nil,.nil,fun _ h=>by simp at h⟩
theorem VF{l:ML α}{a:α}(h:(l.map (·.1)).Nodup){v:Value}:BK l a=some v↔∃n,(a,v,n)∈l:=by
 induction l with
 |nil=>simp[BK]
 |cons p r G=>
  obtain⟨b,u,n⟩:=p;rw[aK,iI]at h;unfold BK
  by_cases hab:a=b
  ·subst hab;simp only[BEq.rfl,if_true,Option.some.injEq];constructor
   ·rintro rfl;exact⟨n,.head _⟩
   rintro⟨k,A⟩;rcases bK.1 A with e|e
   ·exact(zD (fun x=>x.2.1) e).symm
   exact absurd (gG (f:=(·.1)) e) h.1
  rw[zF (by simpa using hab),G h.2];constructor
  ·rintro⟨k,A⟩;exact⟨k,.tail _ A⟩
  rintro⟨k,A⟩;rcases bK.1 A with e|e
  ·exact absurd (zD (·.1) e) hab
  exact⟨k,e⟩
theorem JH{l}{a:α}:BK l a=none↔a ∉ l.map (·.1):=by
 induction l with
 |nil=>simp[BK]
 |cons p r h=>
  obtain⟨b,u,n⟩:=p;unfold BK
  by_cases hab:a=b
  ·subst hab;simp
  rw[zF (by simpa using hab),h];simp[hab]
theorem NT l (a b:α) v c:BK (BU l a v c) b=if b == a then some v else BK l b:=by
 induction l with
 |nil=>unfold BU BK;by_cases h:b=a<;>simp[h,BK]
 |cons p r G=>
  obtain⟨d,u,n⟩:=p;unfold BU
  by_cases had:a=d
  ·subst had;rw[zG sI]
   by_cases h:b=a
   ·subst h;simp[BK]
   have A:(b == a)=false:=by simpa using h
   simp[BK,A]
  rw[zF (by simpa using had)]
  by_cases hbd:b=d
  ·subst hbd;have A:(b == a)=false:=by simpa using fun e:b=a=>had e.symm
   simp[BK,A]
  have A:(b == d)=false:=by simpa using hbd
  simp only[BK,A,aZ,if_false,G]
theorem b8k{l:ML α}{a:α}{v:Value}{c:Nat}:(BU l a v c).map (·.1)=if a∈l.map (·.1)then l.map (·.1)else l.map (·.1)++[a]:=by
 induction l with
 |nil=>simp[BU]
 |cons p r A=>
  obtain⟨d,u,n⟩:=p;unfold BU
  by_cases had:a=d
  ·subst had;simp
  rw[zF (by simpa using had),aK,A]
  by_cases h:a∈r.map (·.1)
  ·simp[h]
  rw[zF h,zF (by simp only[aK,bK,not_or];exact⟨had,h⟩)];rfl
theorem b3a{l}{a x:α}{v c}:x∈(BU l a v c).map (·.1)↔x∈l.map (·.1)∨x=a:=by
 rw[b8k]
 split
 ·rename_i h
  exact⟨.inl,fun g=>g.elim id (fun e=>e▸h)⟩
 simp
theorem MS.set{l:ML α}{c:Nat}(h:MS l c)(a:α)(v:Value):MS (BU l a v c) (FI l a c):=by
 obtain⟨h1,h2,h3⟩:=h;cases hm:BK l a with
 |none=>
  obtain⟨-,hs⟩:=XH l 0 hm;have ha:=JH.1 hm;rw[hs,FI,hm];refine⟨?_,?_,?_⟩
  ·rw[aQ,gY];refine⟨h1,sI,fun x O y A e=>?_⟩;rw[aK,eP,aG]at A;exact ha (by have:x=a:=e.trans A;exact this▸O)
  ·rw[aQ,gY];refine⟨h2,sI,fun x O y A e=>?_⟩;rw[aK,eP,aG]at A;obtain⟨p,G,rfl⟩:=dS.1 O;have:=h3 p G;dsimp only at A e;omega
  intro p G;simp only[Option.isSome_none,aZ,if_false];rcases dQ.1 G with g|g
  ·exact Nat.lt_succ_of_lt (h3 p g)
  rw[aG]at g;subst g;exact Nat.lt_succ_self _
 |some u=>
  obtain⟨j,u',n,-,Z,hs⟩:=a1Z l 0 hm;have he:∀f:α×Value×Nat→Nat ⊕ α,f (a,v,n)=f (a,u',n)→(l.set j (a,v,n)).map f=l.map f:=fun f hf=>by
   apply List.ext_getElem?
   intro i;rw[gZ,gZ,List.getElem?_set]
   by_cases hi:j=i
   ·subst hi;rw[zG rfl,Z,zG (aI.1 Z).1];simp[hf]
   rw[zF hi]
  have e1:(l.set j (a,v,n)).map (·.1)=l.map (·.1):=by
   have:=zD (List.map (fun s:Nat ⊕ α=>match s with| .inr x=>x| .inl _=>a)) (he (fun p=> .inr p.1) rfl);simpa[dN,iC]using this
  have e2:(l.set j (a,v,n)).map (·.2.2)=l.map (·.2.2):=by
   have:=zD (List.map (fun s:Nat ⊕ α=>match s with| .inl x=>x| .inr _=>0)) (he (fun p=> .inl p.2.2) rfl);simpa[dN,iC]using this
  rw[hs,FI,hm];refine⟨by rw[e1];exact h1,by rw[e2];exact h2,fun p G=>?_⟩;have:p.2.2∈l.map (·.2.2):=e2▸gG G;obtain⟨q,hq,e⟩:=dS.1 this;exact e▸h3 q hq
omit [LawfulBEq α] in
theorem b8m{Q:Value→Prop}{l:ML α}(h:∀p∈l,Q p.2.1){a v}(G:Q v) c:∀p∈BU l a v c,Q p.2.1:=by
 induction l with
 |nil=>intro p A;unfold BU at A;rw[aG]at A;subst A;exact G
 |cons q r O=>
  obtain⟨d,u,n⟩:=q;intro p A;unfold BU at A
  split at A
  ·rcases bK.1 A with e|e
   ·subst e;exact G
   exact h p (.tail _ e)
  rcases bK.1 A with e|e
  ·subst e;exact h _ (.head _)
  exact O (fun x Z=>h x (.tail _ Z)) p e
def a2Z (l:ML α) (c:Nat) (xs:List α):Prop:=MS l c∧(∀p∈l,p.2.1= .bool true)∧∀x,x∈l.map (·.1)↔x∈xs
omit [BEq α] [LawfulBEq α] in
theorem a2Z.nil:a2Z ([]:ML α) 0 []:=⟨MS.nil,fun _ h=>by simp at h,fun _=>sI⟩
theorem a2Z.put{l:ML α}{c:Nat}{xs:List α}(h:a2Z l c xs)(a:α):a2Z (BU l a (.bool true) c) (FI l a c) (xs++[a]):=
 ⟨h.1.set a _,b8m (Q:=(· = .bool true)) h.2.1 rfl c,fun x=>by rw[b3a,h.2.2,dQ,aG]⟩
theorem a2Z.get{l:ML α}{c:Nat}{xs:List α}(h:a2Z l c xs)(a:α):(BK l a).getD (.bool false)= .bool (decide (a∈xs)):=by
 by_cases ha:a∈xs
 ·obtain⟨⟨b,v,n⟩,A,rfl⟩:=dS.1 ((h.2.2 a).2 ha);have:=(VF h.1.1).2 ⟨n,A⟩;have G:=h.2.1 _ A;dsimp only at *;rw[this,G,zI ha];rfl
 rw[JH.2 (fun g=>ha ((h.2.2 a).1 g)),zJ ha];rfl
end
section
variable {cx:Cx} {Q:Qt} {o:Oper} {e:Env} {S:World→Prop} {α:Type} [BEq α] [LawfulBEq α]
omit [BEq α] [LawfulBEq α] in
theorem UM{b m h c x kv}{l vis:ML α}{p:α×Value×Nat}(A:o.op= .entry x)(G:ev e x=some (ptr b 0))(O:yR S b (ZI m h (vis++[p]) c))(Z:yR S m (BD kv l c))(hp:p∈l)(hn:(l.map (·.2.2)).Nodup):DK cx o e S (.tuple #[kv p.1,p.2.1]):=by
 intro w0 w ha hs;have h1:=O w hs;have h2:=Z w hs;have h3:w.heap[b]?=some (.mapIter (some m) h ((vis.map (·.2.2)).toArray.push (KX kv p).born) c):=by
  rw[h1];simp[ZI,KX]
 have hr:=run_entry_at (P:=cx.P) w b m h _ _ c (KX kv p) h3 h2 (by simp only[dS];exact⟨p,hp,rfl⟩) (by
  rw[dN];exact hn)
 have:(execOp w0.eval o).run cx.P w= .ok (.value (.tuple #[kv p.1,p.2.1])) w:=by
  simp only[execOp,A,ha.eval G,Sem.run_bind,hr,Result.andThen_ok,Sem.run_pure]
 exact this
end
section
variable {α β:Type}
variable {cx:Cx} {Q:Qt} {en:Env} {f:β→List Value} {sz:Nat} {T:TypeId} {R:HL} {c:Code}
end
section
variable {α β:Type} [BEq α] [LawfulBEq α]
abbrev kvp (p:α×Value×Nat):α×Value:=(p.1,p.2.1)
def a4f (l:List (α×Value)) (a:α):Option Value:=match l with
 |[]=>none
 |(b,v)::r=>if a == b then some v else a4f r a
def a4j (l:List (α×Value)) (a:α) (v:Value):List (α×Value):=match l with
 |[]=>[(a,v)]
 |(b,u)::r=>if a == b then(b,v)::r else(b,u)::a4j r a v
omit [LawfulBEq α] in
theorem b3m a:∀l:ML α,BK l a=a4f (l.map kvp) a
 |[]=>rfl
 |(b,v,n)::r=>by simp only[BK,aK,a4f,b3m a r]
omit [LawfulBEq α] in
theorem b2O a v c:∀l:ML α,(BU l a v c).map kvp=a4j (l.map kvp) a v
 |[]=>rfl
 |(b,u,n)::r=>by
  simp only[BU,aK,a4j]
  split
  ·rfl
  rw[aK,b2O a v c r]
theorem b4I{a u v B}:∀{A:List (α×Value)},a ∉ A.map (·.1)→a4j (A++(a,u)::B) a v=A++(a,v)::B∧a4f (A++(a,u)::B) a=some u
 |[],_=>by simp[a4j,a4f]
 |(b,w)::A,h=>by
  rw[aK,bK,not_or]at h;obtain⟨h1,h2⟩:=b4I (u:=u) (v:=v) (B:=B) h.2;have G:(a == b)=false:=by simpa using h.1
  simp only[iF,a4j,a4f,G,aZ,if_false,h1,h2,and_self]
theorem b3A{a v}:∀{A:List (α×Value)},a ∉ A.map (·.1)→a4j A a v=A++[(a,v)]∧a4f A a=none
 |[],_=>rT
 |(b,w)::A,h=>by
  rw[aK,bK,not_or]at h;obtain⟨h1,h2⟩:=b3A (v:=v) h.2;have G:(a == b)=false:=by simpa using h.1
  simp only[iF,a4j,a4f,G,aZ,if_false,h1,h2,and_self]
variable {cx:Cx} {Q:Qt} {e:Env} {I:Heap} {H H':HL}
theorem JA.perm{l O A Z z G h}(hs:H'.Perm H)(k:JA cx Q l O A Z z G h e I H'):JA cx Q l O A Z z G h e I H:=fun a w ha h1=>k a w ha (h1.perm hs)
omit [BEq α] [LawfulBEq α] in
theorem yR.mem{I H b o}(h:(b,o)∈H):yR (SS I H) b o:=fun _ hs=>hs.2 _ h
end
section
variable {α:Type} [BEq α] [LawfulBEq α]
def JY (l:ML α) (a:α):ML α:=match l with
 |[]=>[]
 |(b,v,n)::r=>if a == b then r else(b,v,n)::JY r a
omit [LawfulBEq α] in
theorem b3F{a}:∀(l:ML α) (i:Nat),(midx l a i=none∧JY l a=l)∨∃j v,midx l a i=some (i+j,v)∧JY l a=l.eraseIdx j∧j<l.length
 |[],_=> .inl rT
 |(b,v,n)::r,i=>by
  unfold midx JY
  by_cases h:(a == b)=true
  ·rw[zG h,zG h];exact .inr ⟨0,v,rfl,rfl,sI⟩
  rw[zF h,zF h];rcases b3F (a:=a) r (i+1)with⟨h1,h2⟩|⟨j,u,h1,h2,h3⟩
  ·exact .inl ⟨h1,by rw[h2]⟩
  refine .inr ⟨j+1,u,?_,by rw[h2];rfl,by simpa using h3⟩;rw[h1,Nat.add_assoc,Nat.add_comm 1 j]
theorem PZ{a}:∀{l:ML α},(l.map (·.1)).Nodup→JY l a=l.filter fun p=> !(p.1 == a)
 |[],_=>rfl
 |(b,v,n)::r,h=>by
  rw[aK,iI]at h;unfold JY
  by_cases hb:(a == b)=true
  ·have G:=zC hb;subst G;rw[zG hb,fC sI];rw[fZ.2];intro p O;have:p.1≠a:=fun g=>h.1 (dS.2 ⟨p,O,g⟩);simpa using this
  have A:(b == a)=false:=by
   rw[gW];intro g;exact hb (by rw[zC g];simp)
  rw[zF hb,fB (by simp[A]),PZ h.2]
theorem MS.del{l:ML α}{c:Nat}(h:MS l c)(a:α):MS (JY l a) c:=by
 rw[PZ h.1];refine⟨h.1.sublist (dB.map _),h.2.1.sublist (dB.map _),fun p A=>h.2.2 p (iJ.1 A).1⟩
theorem a4F{l:ML α}(h:(l.map (·.1)).Nodup)(a b:α):BK (JY l a) b=if b == a then none else BK l b:=by
 by_cases hb:(b == a)=true
 ·rw[zG hb,JH,PZ h];have:=zC hb;subst this;simp
 rw[zF hb];cases hm:BK l b with
 |none=>
  rw[JH]at hm ⊢;rw[PZ h];exact fun g=>hm ((dB.map _).subset g)
 |some v=>
  have h2:((JY l a).map (·.1)).Nodup:=by rw[PZ h];exact h.sublist (dB.map _)
  rw[VF h]at hm;obtain⟨n,hn⟩:=hm;rw[VF h2,PZ h];exact⟨n,iJ.2 ⟨hn,by simpa using hb⟩⟩
variable {cx:Cx} {Q:Qt} {e:Env} {I:Heap} {H:HL} {o:Oper} {C:Ct} {S:World→Prop}
omit [LawfulBEq α] in
theorem b6B{P:Program}{T U K E b c:Nat}{t:TypeId}{kv:α→Value}{l:ML α}{a:α}{w:World}(A:P.underlying T=some (.map K E))(hk:IK P K kv)(G:w.heap[b]?=some (BD kv l c)):
 (fG #[T,U] t #[.map (some b),kv a]).run P w= .ok (.tuple #[]) (fM w b (BD kv (JY l a) c)):=by
 obtain⟨hf,O,_⟩:=hk;have hg:(getObj b).run P w= .ok (BD kv l c) w:=by simp[getObj,Sem.run,G,BD]
 have hset:∀o',(setObj b o').run P w= .ok () (fM w b o'):=fun o'=>by simp[setObj,Sem.run,G,fM,BD]
 rcases b3F (a:=a) l 0 with⟨h1,h2⟩|⟨j,v,h1,h2,h3⟩
 ·have h:(iP K (kv a) (l.map (KX kv))).run P w= .ok none w:=by rw[hf,h1]
  simp[fG,run_underlying A,hg,BD,O,h,hset,h2]
 rw[Nat.zero_add]at h1;have Z:∀(q:ML α) (k:Nat),(q.map (KX kv)).eraseIdx k=(q.eraseIdx k).map (KX kv):=by
  intro q
  induction q with
  |nil=>intro k;rfl
  | cons x r ih=>intro k;cases k with
    |zero=>rfl
    |succ k=>simp[ih]
 have h:(iP K (kv a) (l.map (KX kv))).run P w= .ok (some (j,v)) w:=by rw[hf,h1]
 have h5:(l.map (KX kv)).toArray.eraseIdxIfInBounds j=(((l.eraseIdx j).map (KX kv)).toArray:Array MapEntry):=by
  rw[Array.eraseIdxIfInBounds,dif_pos (by simpa using h3),List.eraseIdx_toArray,Z]
 simp[fG,run_underlying A,hg,BD,O,h,hset,h2,Z]
omit [LawfulBEq α] in
theorem YO{T U K E b c:Nat}{m x:Operand}{kv:α→Value}{l a}{A:Value}{H'}(i:Nat)(ho:o.op= .call ⟨.builtin .delete,#[m,x],#[T,U]⟩)(hd:o.dst=none)(hm:ev e m=some (.map (some b)))(hx:ev e x=some A)(G:A=kv a)(hT:cx.P.underlying T=some (.map K E))(hK:IK cx.P K kv)
 (O:H[i]?=some (b,BD kv l c))(Z:AV H i (b,BD kv (JY l a) c) H')(kk:C e I H'):GZ cx Q o e I H C:=by
 intro _ a0 w0 w h hs;unfold Oper.wp;subst G;have hb:=hs.own _ (List.mem_of_getElem? O);have hr:=b6B (U:=U) (t:=o.type) (a:=a) hT hK hb;have:(execOp w0.eval o).run cx.P w= .ok (.value (.tuple #[])) (fM w b (BD kv (JY l a) c)):=by
  simp[execOp,ho,resolve,invoke,builtin,h.eval hm,h.eval hx,hr]
 rw[this];simp only[Oper.upon,hd];exact a0 _ _ _ kk _ _ h.XP (hs.block O Z)
end
section
variable {cx:Cx} {o:Oper} {e:Env} {S:World→Prop}
theorem b6m{P w T K E} p (h:P.underlying T=some (.map K E)):(binOp .neq T (.map p) (.map none)).run P w= .ok (.bool p.isSome) w∧(binOp .eql T (.map p) (.map none)).run P w= .ok (.bool p.isNone) w:=by
 have h1:∀d:Nat,(Op.equalIn (d+1) T (.map p) (.map none)).run P w= .ok p.isNone w:=fun d=>by cases p<;>simp[Op.equalIn,run_underlying h]
 simp only[binOp];cases p<;>simp[Op.equal,Op.maxDepth,h1 9999]
theorem a2h{x y T U K E} p (A:o.op= .binOp .eql T x y U)(G:ev e x=some (.map p))(O:ev e y=some (.map none))(Z:cx.P.underlying T=some (.map K E)):DK cx o e S (.bool p.isNone):=by
 intro a w h _;have hb:=(b6m (P:=cx.P) (w:=w) p Z).2;have hg:eqGuard .eql T x y (.map p) (.map none)=pure ():=rfl;simp[execOp,A,h.eval G,h.eval O,hb,hg]
