/-
  Own texts on the laws of the seat, joined: the logic, and contracts of functions. Conditions: none.
-/
import Derived.Test.YtalapkjmkjmpjaaGreatDoorNmK
import Derived.Test.YtalapkjmkjmpjaaGreatDoorPK8
set_option linter.all false
set_option maxRecDepth 100000
set_option maxHeartbeats 40000000
open Go.Sx.Keeps renaming d -> aA,k -> aG,n -> aT,r -> aU
open Go.Proofs.Tryz renaming prog -> aB
open Go.Sx.BL renaming s -> aC,z -> aP
open Ix renaming named -> aF,a0q -> aW,a3q -> bF,a4i -> bG,nod -> bP,vals -> bT,a0m -> bW,PO -> dF,Rec -> dG,JF -> dM,a6t -> dN
open Go.Sx.Ej renaming keep -> aH,PU -> aK,persist -> aX,round -> bC,pull -> dJ
open Ke renaming textOf -> aI,Sub -> bJ,skip -> bM,digit -> dA,FN -> dL
open List renaming cons_ne_nil -> aJ,findIdx?_eq_some_iff_getElem -> aZ,filter_cons_of_neg -> bK
open Go.Sx.World renaming block -> aN
open Go.Sx.Cj renaming EX -> aO,loop -> dH
open Go.Sx.J renaming z -> aQ,ez -> aY
open Go.Sx.JA renaming ez -> aS,zt -> bH
open Go.Sx.yY renaming toPure -> aV
open Go.Sx.yX renaming NI -> bD,YR -> cZ
open Go.Result renaming andThen_ok -> bI
open Go.Value renaming oneCell' -> bQ
open Go.Instr renaming mapEntry -> bU,keyThatStays -> bZ,entryStore -> dD,findKey -> dK
open List.Perm renaming cons -> bV
open Go.Sem renaming run_bind -> bY,run -> dI
open Go.Sx.GU renaming part -> cO
open Bool renaming noConfusion -> dB
open Go.Sx.Pull renaming z -> dP
section
namespace Go.Proofs.YtalapkjmkjmpjaaGreatDoor
open _root_.Go.Proofs.Tryz
open Go Go.Sx
def sel (codes:List UInt8) (s:bJ):Bool:=decide (codes=[]) || codes.contains s.code
def YO (codes:List UInt8) (ss:List bJ):List (List UInt8):=(ss.filter (sel codes)).map (·.text)
def a1U (f:dL) (codes:List UInt8):List UInt8:=Ke.join (YO codes f.subs)
theorem WJ{f codes}(h:codes≠[]):a1U f codes=aI f codes:=by
 unfold a1U aI Ke.texts YO
 congr 2
 refine List.filter_congr fun s _=>?_;unfold sel;rw[zI h];rfl
theorem a0x f:a1U f []=Ix.a2Q f:=by
 unfold a1U Ix.a2Q YO;rw[show f.subs.filter (sel [])=f.subs from xQ.2 fun _ _=>rfl]
theorem c6u{codes}{ss:List bJ}{k s}(h:ss[k]?=some s):YO codes (ss.take (k+1))=YO codes (ss.take k)++(if sel codes s=true then[s.text]else[]):=by
 obtain⟨A,G⟩:=xC.1 h;unfold YO;rw[tN A,G,xR,wG]
 by_cases hc:sel codes s=true
 ·rw[zF hc,List.filter_cons_of_pos hc];rfl
 rw[zD hc,bK hc];rfl
theorem b0t codes ss:(YO codes ss).length≤ss.length:=by
 unfold YO;rw[wO];exact wP _ _
theorem b7G codes:∀ss:List bJ,((YO codes ss).map List.length).sum≤CZ ss
 |[]=>by simp[YO]
 |s::r=>by
  have:=b7G codes r;unfold YO CZ at this ⊢;rw[List.filter_cons]
  split
  ·simp only[wF,uI];omega
  simp only[wF,uI];omega
theorem a0n f codes:(a1U f codes).length≤CZ f.subs+f.subs.length:=by
 have h1:=WE (YO codes f.subs);have h2:=b7G codes f.subs;have h3:=b0t codes f.subs;unfold a1U;omega
theorem a7E{ss s}(h:s∈ss):s.text.length≤CZ ss:=by
 unfold CZ
 induction ss with
 |nil=>cases h
 |cons a r A=>
  rw[wF,uI];rcases vX.1 h with e|e
  ·rw[e];omega
  have:=A e;omega
abbrev four (x:List UInt8):Bool:=decide (x.length=4)
def ZP {α:Type} (p:α→Bool) (l:List α):Int:=match l.findIdx? p with
 |some k=>(k:Int)
 |none=> -1
theorem a2n{α:Type}{p:α→Bool}{l:List α}(h:∀x∈l,p x=false):ZP p l= -1:=by
 unfold ZP;rw[List.findIdx?_eq_none_iff.2 fun x A=>by simpa using h x A]
theorem a6g{α:Type}{p:α→Bool}{l:List α}{k}{x:α}(h:∀y∈l.take k,p y=false)(G:l[k]?=some x)(M:p x=true):ZP p l=(k:Int):=by
 obtain⟨A,N⟩:=xC.1 G;unfold ZP;have:l.findIdx? p=some k:=by
  rw[aZ];refine⟨A,by rw[N];exact M,fun j _=>?_⟩;have h1:l[j]'oM∈l.take k:=by
   rw[List.mem_take_iff_getElem];exact⟨j,oM,rfl⟩
  rw[h _ h1];exact yK
 rw[this]
theorem a0S{α:Type}{p:α→Bool}{l:List α}{k x}(h:∀y∈l.take k,p y=false)(M:l[k]?=some x)(N:p x=false):∀y∈l.take (k+1),p y=false:=fun y A=>by
 obtain⟨G,O⟩:=xC.1 M;rw[tN G,O,wB,vN]at A;rcases A with A|rfl
 ·exact h y A
 exact N
theorem QJ{α:Type} p l:(ZP p l= -1∧l.find? p=none)∨∃(k:Nat) (x:α),ZP p l=(k:Int)∧l[k]?=some x∧l.find? p=some x:=by
 by_cases h:∃k,∃x,l[k]?=some x∧p x=true∧∀y∈l.take k,p y=false
 ·obtain⟨k,x,h1,h2,h3⟩:=h;refine .inr ⟨k,x,a6g h3 h1 h2,h1,?_⟩;obtain⟨_,N⟩:=xC.1 h1;rw[List.find?_eq_some_iff_append];refine⟨h2,l.take k,l.drop (k+1),?_,fun y A=>by simp[h3 y A]⟩;rw[←N,wX,uD]
 have G:∀k,k≤l.length→∀y∈l.take k,p y=false:=by
  intro k
  induction k with
  |zero=>intro _ y A;simp at A
  |succ k O=>
   intro _;have M:=AA (l:=l) (i:=k) oM;have h1:=O oM;refine a0S h1 M ?_;cases hp:p l[k]with
   |false=>rfl
   |true=>exact absurd ⟨k,_,M,hp,h1⟩ h
 have h2:∀y∈l,p y=false:=fun y A=>G l.length (tH _) y (by rw[tY];exact A);exact .inl ⟨a2n h2,List.find?_eq_none.2 fun y A=>by simp[h2 y A]⟩
theorem WW{f c}(h:f.ind[1]?=some c):bM f=if dA c=true then c.toNat-48 else 0:=by
 unfold bM;rw[h]
theorem a1N{I l v}:FI I l v↔zJ (fun s=>[str s]) I l v:=by
 unfold FI zJ;rw[show l.map str=l.flatMap fun s=>[str s] by induction l with|nil=>rfl|cons a r A=>rw[wF,xO,A];rfl]
theorem TV f codes (hn:f.subs.length≤2000000)(af:CZ f.subs≤3000000) I (hr:zJ XL I f.subs f.sv):Pure aB 163 [.agg (IQ f).toArray,str codes] I (str (a1U f codes)):=by
 refine aV ?_;obtain⟨p2,c2,a8,a0,a9⟩:=hr;refine zN func163 fun w0 _=>?_;refine yU 3 ?_;intro _ _;refine yU 13 ?_;refine aY 9 (.slice p2 f.subs.length c2) rfl a8 ?_;refine yU 5 ?_;refine Cj.keep (aA aT) ?_;refine dH (ι:=Nat×Gs) (fun j=>j.1≤f.subs.length∧AL w0.heap.size 1 (YO codes (f.subs.take j.1)).length ((YO codes (f.subs.take j.1)).map str) j.2) (fun j=>f.subs.length-j.1) (fun j=>[(1,str codes),(5,gV (YO codes (f.subs.take j.1)).length j.2),(9,.slice p2 f.subs.length c2),(10,i64 (f.subs.length:Int)),(11,i64 (j.1:Int))]) (fun j=>_) (fun j=>gH 9 ((YO codes (f.subs.take j.1)).map str) j.2) (0,none) ⟨sQ _,rfl,rfl⟩ rT rfl rfl ?_;rintro⟨j,g⟩ ⟨hj,N⟩;dsimp only at hj N ⊢;have aa:=b0t codes (f.subs.take j);rw[wI,sW hj]at aa;refine yZ ?_ ?_<;>intro a0 a3
 ·refine yU 5 ?_;have a1:j<f.subs.length:=oM;obtain⟨sb,M⟩:∃x,f.subs[j]?=some x:=⟨_,AA a1⟩;obtain⟨_,so,_,_,_,_,rfl,a4,ab⟩:=a9 (zK a1);have A:=c6u (codes:=codes) M;refine zW (so+j*2) ?_;refine aQ (CX isAgg89 a1G (cZ a4) (AY JH ab M)) ?_;refine yU 1 ?_;intro _ _;refine DZ ?_ ?_<;>intro O a5
  ·have G:sel codes sb=true:=by unfold sel;rw[zH (BP O)];rfl
   rw[zF G]at A;refine yU 14 ?_;intro _ _;refine KT 15 [_,_] N ?_;intro g7 ac;refine yU 8 ?_;refine aH (aA (aA aU)) ?_;refine bC (j+1,g7) ⟨dO,by dsimp only;rw[A,wG,wV];exact ac⟩ dO ⟨rfl,by dsimp only;rw[A,wV];rfl,rfl,rfl,rfl,trivial⟩ rfl (by dsimp only;rw[A,wG];rfl)
  have a2:codes≠[]:=CB O;refine zO (a1I _ _ _) ?_;refine yZ ?_ ?_<;>intro Q a6
  ·have G:sel codes sb=true:=by unfold sel;rw[zI a2,←a2q];exact Q
   rw[zF G]at A;refine yU 5 ?_;intro _ _;refine KT 15 [_,_] N ?_;intro ad a7;refine yU 8 ?_;refine aH (aA (aA aU)) ?_;refine bC (j+1,ad) ⟨dO,by dsimp only;rw[A,wG,wV];exact a7⟩ dO ⟨rfl,by dsimp only;rw[A,wV];rfl,rfl,rfl,rfl,trivial⟩ rfl (by dsimp only;rw[A,wG];rfl)
  have G:¬sel codes sb=true:=by unfold sel;rw[zI a2,←a2q];exact fun e=>dB (e.symm.trans Q)
  rw[zD G]at A;refine yU 7 ?_;refine aH (aA aU) ?_;refine bC (j+1,g) ⟨dO,by dsimp only;rw[A,yD];exact N⟩ dO ⟨rfl,by dsimp only;rw[A,yD];rfl,rfl,rfl,rfl,trivial⟩ rfl (by dsimp only;rw[A,yD])
 refine yU 6 ?_;have Z:f.subs.take j=f.subs:=tX oM;rw[Z]at N ⊢;have ae:=a0n f codes;refine Cj.perm (H':=gH _ _ _++[]) (.of_eq (yD _)) ?_;refine Cj.NV N (fun _ _ hv=>?_);refine zO (a6n (YO codes f.subs) _ (by have:=b0t codes f.subs;omega) (by have e:Ke.join (YO codes f.subs)=a1U f codes:=rfl;rw[e];omega) _ hv) ?_;refine zM ?_;exact rT
theorem c8a f (hi:f.ind.length≤2000000) I:Pure aB 161 [.agg (IQ f).toArray] I (i64 ((bF f:Nat):Int)):=by
 refine aV ?_;refine zN func161 fun w0 _=>?_;refine yU 3 ?_;intro _ _;refine DZ ?_ ?_<;>intro N a1
 ·have A:f.tag=[50,52,53]:=BP N;refine DZ ?_ ?_<;>intro O a2
  ·have Q:1<f.ind.length:=by have h:=DK O;omega
   obtain⟨c,G⟩:∃c,f.ind[1]?=some c:=⟨_,AA Q⟩;refine yU 2 ?_;refine J.zg (IC AV G) ?_;refine DZ ?_ ?_<;>intro Z a3
   ·have a5:48≤c.toNat:=by have h:=DK Z;omega
    refine yU 2 ?_;refine J.zg (IC AV G) ?_;refine yZ ?_ ?_<;>intro a0 a4
    ·have a6:c.toNat≤57:=by have h:=DK a0;omega
     have M:dA c=true:=by rw[bW];simp only[zG];omega
     refine yU 4 ?_;refine aQ (IC AV G) ?_;refine aQ (VG rfl rfl rfl (w8 oM)) ?_;refine yU 1 ?_;refine aY 28 (i64 ((c.toNat-48:Nat):Int)) rfl (zC i64 ((IJ oM).trans oM)) ?_;refine zV ?_;rw[show bF f=bM f from zF A];rw[WW G,zF M];exact rT
    have M:¬dA c=true:=by rw[bW];have h:=DN a0;simp only[zG];omega
    refine zV ?_;rw[show bF f=bM f from zF A];rw[WW G,zD M];exact rT
   have M:¬dA c=true:=by rw[bW];have h:=DN Z;simp only[zG];omega
   refine zV ?_;rw[show bF f=bM f from zF A];rw[WW G,zD M];exact rT
  have Q:¬1<f.ind.length:=by have h:=DN O;omega
  refine zV ?_;rw[show bF f=bM f from zF A];rw[a6f Q];exact rT
 have A:¬f.tag=[50,52,53]:=CB N;refine zV ?_;rw[show bF f=0 from zD A];exact rT
theorem c5J s I:Pure aB 308 [str s] I (.bool (decide (s.length=4))):=by
 refine aV ?_;refine zN func308 fun w0 _=>?_;refine yU 10 ?_;refine aY 5 (.bool (decide (s.length=4))) rfl (zC Value.bool (by rw[yM,beq_iff_eq,zG];omega)) ?_;refine zM ?_;exact rT
theorem b6L(c:Nat) I:Pure aB 306 [.int .i32 (c:Int)] I (.bool (bP c)):=by
 refine aV ?_;refine zN func306 fun w0 _=>?_;refine DZ ?_ ?_<;>intro A G
 ·refine zM ?_;have e:bP c=true:=by unfold bP;have h:=DK A;rw[zH (oM:c<48)];rfl
  rw[e];exact rT
 refine zM ?_;refine⟨?_,rfl⟩;have h:=DN A;unfold bP;rw[zI (oM:¬c<48),Bool.false_or];exact zC (fun b=>Ending.returned (Value.bool b)) (decide_eq_decide.2 oM)
theorem b2U s (A:s.length≤4000000000) I:yY aB 305 [str s,.func (.func 306) #[] #[]] I [] (fun e N H'=>∃v,e= .returned v∧IV 9 N (bG s) v∧H'=[]):=by
 have O:∀x:Nat,x≤1114111→∀W:World,Calls aB 306 #[.int .i32 (x:Int)] W fun e w'=>e= .returned (.bool (bP x))∧RowKit.Below W.heap.size W w':=fun x _ W=>by
  have h:=(b6L x (fun _=>none)).2 W (by unfold Ready;exact⟨(fun b o Q=>by cases Q),(fun p G=>by cases G),List.Pairwise.nil,(fun p G=>by cases G)⟩);exact h.mono fun e w' ⟨N,H',A,h1,_⟩=>⟨h1,A.os,A.tape,A.output,A.size,fun k Z=>A.frm k Z sI⟩
 have M:Lib.goFieldsP bP ⟨s.toArray⟩=(bG s).map fun x=>⟨x.toArray⟩:=Ix.fieldsD s;refine yY.d0R (vals:=((bG s).map fun x=>(⟨x.toArray⟩:ByteArray)).map Value.string) (by rw[wE];rfl) (Enters.of func305 dE rfl) fun w=>?_;have h:=Tryz.strings_FieldsFunc_grows 306 #[] (enters_of func306 kR rfl) bP ⟨s.toArray⟩ w (by rw[size_mk];omega) (fun W x hx _=>O x hx W);rw[M,wO]at h;exact h
theorem b2N l v M g N (hl:l.length≤100000000000000) I (hr:FI I l v)(a1:∀x∈l,Pure aB g (str x::N) I (.bool (M x))):Pure aB 307 [v,.func (.func g) #[] N.toArray] I (i64 (ZP M l)):=by
 refine aV ?_;obtain⟨p,c,rfl,_,hp⟩:=hr;refine zN func307 fun w0 _=>?_;refine yU 14 ?_;refine dH (ι:=Nat) (fun j=>j≤l.length∧∀x∈l.take j,M x=false) (fun j=>l.length-j) (fun j=>[(0,.slice p l.length c),(1,.func (.func g) #[] N.toArray),(7,i64 (l.length:Int)),(8,i64 (j:Int))]) (fun j=>I) (fun j=>[]) 0 ⟨sQ _,fun g hg=>by simp at hg⟩ rT rfl rfl ?_;rintro j ⟨_,A⟩;refine yZ ?_ ?_<;>intro a2 a0
 ·have Z:j<l.length:=oM;obtain⟨x,G⟩:∃x,l[j]?=some x:=⟨_,AA Z⟩;obtain⟨_,fo,_,_,_,sp,rfl,a3,a4⟩:=hp (zK Z);refine zW (fo+j) ?_;refine aQ (DI DU (cZ a3) (GR a4 G)) ?_;refine zO (a1 x (CJ G)) ?_;refine DF ?_ ?_<;>intro O
  ·have ht:M x=true:=O;refine zM ?_;rw[a6g A G ht];exact rT
  have a5:M x=false:=O;refine yU 7 ?_;refine bC (j+1) ⟨oM,a0S A G a5⟩ oM rT rfl rfl
 have Q:l.take j=l:=tX oM;rw[Q]at A;refine zM ?_;rw[a2n A];exact rT
theorem a1Y:∀(s w:List UInt8),(dM w s).length≤s.length+w.length
 |[],w=>by
  unfold dM
  split
  ·simp
  rename_i h;have:0<w.length:=wK.2 h;simp only[wU,wL];omega
 |c::r,w=>by
  unfold dM
  split
  ·have:=a1Y r (w++[c]);rw[wV]at this;simp only[wU,wL]at this ⊢;omega
  split
  ·have:=a1Y r [];simp only[wL,wU]at this ⊢;omega
  rename_i h
  have:=a1Y r [];have h2:0<w.length:=wK.2 h;simp only[wL,wU]at this ⊢;omega
theorem c2F s:(bG s).length≤s.length:=by
 have:=a1Y s [];exact this
theorem c6R s (hs:s.length≤100000000) I:Pure aB 233 [str s] I (.tuple #[str ((aW s).getD []),.bool (aW s).isSome]):=by
 refine aV ?_;have a2:=c2F s;refine zN func233 fun w0 _=>?_;refine zX (b2U s oM _) ?_;intro _ _ _ _ O;obtain⟨_,h,Q,rfl⟩:=O;cases h;refine zO (b2N (bG s) _ four 308 [] oM _ (FI.of Q) (fun x _=>c5J x _)) ?_;refine yZ ?_ ?_<;>intro N A
 ·have G:aW s=none:=((QJ four (bG s)).resolve_right (fun⟨k,x,h,_⟩=>by rw[h]at A;omega)).2;refine zM ?_;rw[G];exact rT
 obtain⟨k,y,Z,M,G⟩:=(QJ four (bG s)).resolve_left (fun h=>by rw[h.1]at A;omega);obtain⟨_,_,_,rfl,a0⟩:=Q.some (fun e=>by rw[e]at M;cases M);rw[Z];have a1:=(xC.1 M).1;refine zW k ?_;refine aQ (DI DU (cZ a0) (EL M)) ?_;refine zM ?_;rw[show aW s=some y from G];exact rT
end Go.Proofs.YtalapkjmkjmpjaaGreatDoor
end
section
namespace Go.Proofs.YtalapkjmkjmpjaaGreatDoor
open _root_.Go.Proofs.Tryz
open Go Go.Sx
def RH (u:List UInt8→List UInt8×Bool) (code:UInt8) (s:bJ):Option (List UInt8):=if (u s.text).2=true∧s.code=code then some (u s.text).1 else none
def uy (s:List UInt8):List UInt8×Bool:=((aW s).getD [],(aW s).isSome)
theorem b8a:RH uy 99=Ix.yr:=by
 funext s
 unfold RH uy Ix.yr
 by_cases h:s.code=99
 ·rw[zF h];cases hy:aW s.text with
  |none=>simp
  |some y=>simp[h]
 rw[zD h,zD (fun g=>h g.2)]
theorem b8b{u code}{ss:List bJ}{k s}(h:ss[k]?=some s):(ss.take (k+1)).filterMap (RH u code)=(ss.take k).filterMap (RH u code)++(if (u s.text).2=true∧s.code=code then[(u s.text).1]else[]):=by
 obtain⟨A,G⟩:=xC.1 h;rw[tN A,G,List.filterMap_append]
 by_cases hc:(u s.text).2=true∧s.code=code
 ·rw[zF hc];simp[RH,hc]
 rw[zD hc];simp[RH,hc]
theorem pre_eq{s p:List UInt8}(h:p.length≤s.length):p.isPrefixOf s=((s.take p.length).drop 0 == p):=by
 rw[xU,yM,wW,beq_iff_eq,List.prefix_iff_eq_take];exact⟨fun e=>e.symm,fun e=>e.symm⟩
theorem c3l{s p:List UInt8}(h:¬p.length≤s.length):p.isPrefixOf s=false:=by
 rw[yN,Ne,wW];exact fun e=>h e.length_le
theorem KG{T I l v}(h:IV T I l v):∃p c,v= .slice p l.length c:=by
 rcases h with⟨rfl,rfl⟩|⟨b,c,sp,rfl,_,_⟩
 ·exact⟨none,0,rfl⟩
 exact⟨_,c,rfl⟩
theorem a5a{I l a b w}(h:IV 9 I l w)(A:bQ a=true)(G:bQ b=true):[a,b,w].all bQ=true:=by
 obtain⟨p,c,rfl⟩:=KG h;simp only[yH,List.all_nil,A,G,yO,yJ];rfl
def RI (fs:List dL):Prop:=fs.length≤1000∧∀f∈fs,f.subs.length≤1000∧CZ f.subs≤3000000∧f.ind.length≤2000000
theorem RI.fok{fs}(h:RI fs):FOK fs:=⟨by have:=h.1;omega,fun f A=>by have:=h.2 f A;exact⟨oM,this.2.1,this.2.2⟩⟩
abbrev VW:=Ix.V×Value
def vwC (x:VW):List Value:=[str x.1.name,str x.1.key,x.2]
theorem a1c x:(vwC x).length=3:=rfl
def RD (I:Heap) (xs:List VW) (vs:List Ix.V):Prop:=xs.map (·.1)=vs∧∀x∈xs,IV 9 I x.1.ws x.2
theorem RD.mono{I A xs vs}(h:RD I xs vs)(G:Le I A):RD A xs vs:=⟨h.1,fun x M=>(h.2 x M).mono G⟩
theorem RD.len{I xs vs}(h:RD I xs vs):xs.length=vs.length:=by rw[←h.1,wO]
theorem RD.add{I xs vs}(h:RD I xs vs){v w}(A:IV 9 I v.ws w):RD I (xs++[(v,w)]) (vs++[v]):=
 ⟨by rw[wG,h.1];rfl,fun x G=>by
  rcases wB.1 G with g|g
  ·exact h.2 x g
  rw[vN.1 g];exact A⟩
def VN (I:Heap) (vs:List Ix.V) (v:Value):Prop:=∃xs,RV 192 vwC I xs v∧RD I xs vs
theorem VN.mono{I G vs v}(h:VN I vs v)(A:Le I G):VN G vs v:=let ⟨xs,h1,h2⟩:=h;⟨xs,h1.mono A,h2.mono A⟩
theorem b1s f (h:f.subs.length≤1000):(aF f).2.length≤1000:=by
 unfold aF
 repeat' split
 all_goals first
  |exact FD (wQ _ _) h
  |simp
theorem b7Q{p:bJ→Option (List UInt8)}{ss:List bJ}{s:List UInt8}{n:Nat}(A:∀x∈ss,∀y,p x=some y→y.length≤n)(h:s∈ss.filterMap p):s.length≤n:=by
 obtain⟨x,G,M⟩:=List.mem_filterMap.1 h;exact A x G s M
theorem a4m s:(Ke.WC s).1.length≤13:=by
 unfold Ke.WC Ke.b3o
 split
 ·simp only[wV,wI,wU,wL];omega
 split
 ·rename_i h;have:=h.1;dsimp only;omega
 simp
theorem a8Y{s y}(h:aW s=some y):y.length=4:=by
 have h1:=List.find?_some h;exact DK h1
theorem a4s{f s}(h:s∈(aF f).2):s.length≤CZ f.subs+f.subs.length+13:=by
 have G:∀c:List UInt8,(aI f c).length≤CZ f.subs+f.subs.length:=MF f;unfold aF at h
 repeat' split at h
 all_goals first
  |(rw[vN]at h;rw[h];have:=G [97,98];have:=G [97];have:=G [97,120];omega)
  |(refine FD (b7Q (n:=13) (fun x _ y A=>?_) h) oM;unfold Ke.isb at A;split at A;(cases A;exact a4m _);cases A)
  |(refine FD (b7Q (n:=13) (fun x _ y A=>?_) h) oM;unfold Ix.yr at A;split at A;(have:=a8Y A;omega);cases A)
  |cases h
theorem c3c f (h:f.subs.length≤1000):(dN f).length≤1001:=by
 have:=b1s f h;unfold dN;rw[wV,wO]
 split<;>simp<;>omega
theorem b1M fs (h:RI fs) j:(bT (fs.take j)).length≤j*1001:=by
 induction j with
 |zero=>simp[bT]
 |succ j G=>
  rcases tC j fs.length with A|A
  ·rw[tN A];unfold bT at G ⊢;rw[xP,wV];have:=c3c fs[j] (h.2 _ (List.getElem_mem A)).1;simp only[xO,List.flatMap_nil,yD];omega
  rw[tX A]at G;rw[tX (show fs.length≤j+1 by omega)];exact FD G (sU _ (Nat.le_succ j))
theorem a5Q{fs:List dL}{j f}(h:fs[j]?=some f):bT (fs.take (j+1))=bT (fs.take j)++dN f:=by
 obtain⟨A,G⟩:=xC.1 h;rw[tN A,G];unfold bT;rw[xP];simp
abbrev nv (f:dL) (s:List UInt8):Ix.V:=⟨(aF f).1,s,bF f⟩
theorem YU{α β:Type}(g:α→β){l:List α}{k x}(h:l[k]?=some x):(l.take (k+1)).map g=(l.take k).map g++[g x]:=by
 obtain⟨A,G⟩:=xC.1 h;rw[tN A,G,wG];rfl
structure VA where
  j:Nat
  J:Heap
  xs:List VW
  g:Gs
theorem b2W s p (N:p.length≤1000000) I:Pure aB 106 [str s,str p] I (.bool (p.isPrefixOf s)):=by
 refine aV ?_;refine zN func106 fun w0 _=>?_;refine DZ ?_ ?_<;>intro A M
 ·have G:p.length≤s.length:=by have h:=DK A;omega
  refine yU 3 ?_;refine J.zg (AO (p:=0) (q:=p.length) rfl rfl AV rfl ⟨_,rfl⟩ oM oM) ?_;refine zM ?_;refine⟨?_,rfl⟩;rw[pre_eq G]
 have G:¬p.length≤s.length:=by have h:=DN A;omega
 refine zM ?_;rw[c3l G];exact rT
theorem a1x s p (A:p.length≤1000000) I:Pure aB 62 [str s,str p] I (.bool (p.isPrefixOf s)):=by
 refine aV ?_;refine zN func62 fun w0 _=>?_;refine zO (b2W s p A _) ?_;refine zM ?_;exact rT
theorem a5k f code g0 u (hn:f.subs.length≤2000000)(aa:CZ f.subs≤3000000)(hu:∀s J,s.length≤100000000→Pure aB g0 [str s] J (.tuple #[str (u s).1,.bool (u s).2])) I (hr:zJ XL I f.subs f.sv):yY aB 232 [.agg (IQ f).toArray,u8 code,.func (.func g0) #[] #[]] I []
 (fun e I' H'=>∃v,e= .returned v∧IV 9 I' (f.subs.filterMap (RH u code)) v∧H'=[]):=by
 obtain⟨p2,c2,a5,a0,a6⟩:=hr;refine zN func232 fun w0 _=>?_;refine yU 3 ?_;intro _ _;refine yU 13 ?_;refine aY 13 (.slice p2 f.subs.length c2) rfl a5 ?_;refine yU 5 ?_;refine Cj.keep (aA aT) ?_;refine dH (ι:=Nat×Gs) (fun j=>j.1≤f.subs.length∧AL w0.heap.size 1 ((f.subs.take j.1).filterMap (RH u code)).length (((f.subs.take j.1).filterMap (RH u code)).map str) j.2) (fun j=>f.subs.length-j.1) (fun j=>[(1,u8 code),(2,.func (.func g0) #[] #[]),(7,gV ((f.subs.take j.1).filterMap (RH u code)).length j.2),(13,.slice p2 f.subs.length c2),(14,i64 (f.subs.length:Int)),(15,i64 (j.1:Int))]) (fun j=>_) (fun j=>gH 9 (((f.subs.take j.1).filterMap (RH u code)).map str) j.2) (0,none) ⟨sQ _,rfl,rfl⟩ rT rfl rfl ?_;rintro⟨j,g⟩ ⟨hj,M⟩;dsimp only at hj M ⊢;have a7:=wQ (RH u code) (f.subs.take j);rw[wI,sW hj]at a7;refine yZ ?_ ?_<;>intro a0 a2
 ·refine yU 5 ?_;have a1:j<f.subs.length:=oM;obtain⟨sb,G⟩:∃x,f.subs[j]?=some x:=⟨_,AA a1⟩;obtain⟨_,so,_,_,_,_,rfl,a3,a8⟩:=a6 (zK a1);have ab:=a7E (CJ G);have A:=b8b (u:=u) (code:=code) G;refine zW (so+j*2) ?_;refine aQ (CX isAgg89 a1G (cZ a3) (AY JH a8 G)) ?_;refine yU 1 ?_;intro _ _;refine zO (hu sb.text _ oM) ?_;refine DZ ?_ ?_<;>intro N a4
  ·have O:sb.code=code:=sJ.1 (by have h:=BP N;omega);refine DF ?_ ?_<;>intro Q
   ·rw[zF ⟨Q,O⟩]at A;refine yU 4 ?_;intro _ _;refine KT 15 [_,_] M ?_;intro g7 a9;refine yU 8 ?_;refine aH (aA (aA aU)) ?_;refine bC (j+1,g7) ⟨dO,by dsimp only;rw[A,wG,wV];exact a9⟩ dO ⟨rfl,rfl,by dsimp only;rw[A,wV];rfl,rfl,rfl,rfl,trivial⟩ rfl (by dsimp only;rw[A,wG];rfl)
   rw[zD (fun g=>dB (g.1.symm.trans Q))]at A;refine yU 7 ?_;refine aH (aA aU) ?_;refine bC (j+1,g) ⟨dO,by dsimp only;rw[A,yD];exact M⟩ dO ⟨rfl,rfl,by dsimp only;rw[A,yD];rfl,rfl,rfl,rfl,trivial⟩ rfl (by dsimp only;rw[A,yD])
  have O:sb.code≠code:=fun e=>CB N (by rw[e]);rw[zD (fun g=>O g.2)]at A;refine yU 12 ?_;refine aH (aA aU) ?_;refine bC (j+1,g) ⟨dO,by dsimp only;rw[A,yD];exact M⟩ dO ⟨rfl,rfl,by dsimp only;rw[A,yD];rfl,rfl,rfl,rfl,trivial⟩ rfl (by dsimp only;rw[A,yD])
 refine yU 6 ?_;have Z:f.subs.take j=f.subs:=tX oM;rw[Z]at M ⊢;refine Cj.perm (H':=gH _ _ _++[]) (.of_eq (yD _)) ?_;refine Cj.NV M (fun _ _ hv=>?_);refine zM ?_;exact⟨_,rfl,hv,rfl⟩
theorem named_ok f (M:f.subs.length≤2000000)(G:CZ f.subs≤3000000) I (N:zJ XL I f.subs f.sv):yY aB 159 [.agg (IQ f).toArray] I []
 (fun e I' H'=>∃v,e= .returned (.tuple #[str (aF f).1,v])∧IV 9 I' (aF f).2 v∧H'=[]):=by
 refine zN func159 fun w0 _=>?_;refine yU 3 ?_;intro _ _;refine yZ ?_ ?_<;>intro au a9
 ·refine zO (TV f [97,98] M G _ N) ?_;refine aY 10 (str (aI f [97,98])) rfl (zC str (WJ (aJ _ _))) ?_;refine yU 1 ?_;intro b4 av;refine yU 7 ?_;have A:aF f=(Ix.MV,[aI f [97,98]]):=by simp[aF, *]
  rw[A];refine aX av (fun _ _ aa=>?_);refine zV ?_;exact⟨_,rfl,.inr ⟨b4,1,[],rfl,tH _,aa⟩,rfl⟩
 refine yZ ?_ ?_<;>intro aw ab
 ·refine zO (TV f [97,98] M G _ N) ?_;refine aY 10 (str (aI f [97,98])) rfl (zC str (WJ (aJ _ _))) ?_;refine yU 1 ?_;intro b8 ax;refine yU 7 ?_;have A:aF f=(Ix.MV,[aI f [97,98]]):=by simp[aF, *]
  rw[A];refine aX ax (fun _ _ ac=>?_);refine zV ?_;exact⟨_,rfl,.inr ⟨b8,1,[],rfl,tH _,ac⟩,rfl⟩
 refine yZ ?_ ?_<;>intro ad O
 ·refine zO (TV f [97] M G _ N) ?_;refine aY 17 (str (aI f [97])) rfl (zC str (WJ (aJ _ _))) ?_;refine yU 1 ?_;intro ay ae;refine yU 7 ?_;have A:aF f=(dF,[aI f [97]]):=by simp[aF, *]
  rw[A];refine aX ae (fun _ _ Q=>?_);refine zV ?_;exact⟨_,rfl,.inr ⟨ay,1,[],rfl,tH _,Q⟩,rfl⟩
 refine yZ ?_ ?_<;>intro af Z
 ·refine zO (TV f [97] M G _ N) ?_;refine aY 17 (str (aI f [97])) rfl (zC str (WJ (aJ _ _))) ?_;refine yU 1 ?_;intro az ag;refine yU 7 ?_;have A:aF f=(dF,[aI f [97]]):=by simp[aF, *]
  rw[A];refine aX ag (fun _ _ a0=>?_);refine zV ?_;exact⟨_,rfl,.inr ⟨az,1,[],rfl,tH _,a0⟩,rfl⟩
 refine yZ ?_ ?_<;>intro ah a1
 ·refine zO (TV f [97] M G _ N) ?_;refine aY 17 (str (aI f [97])) rfl (zC str (WJ (aJ _ _))) ?_;refine yU 1 ?_;intro b0 ai;refine yU 7 ?_;have A:aF f=(dF,[aI f [97]]):=by simp[aF, *]
  rw[A];refine aX ai (fun _ _ a2=>?_);refine zV ?_;exact⟨_,rfl,.inr ⟨b0,1,[],rfl,tH _,a2⟩,rfl⟩
 refine yZ ?_ ?_<;>intro aj a3
 ·refine zO (TV f [97,120] M G _ N) ?_;refine aY 23 (str (aI f [97,120])) rfl (zC str (WJ (aJ _ _))) ?_;refine yU 1 ?_;intro b1 al;refine yU 7 ?_;have A:aF f=(Ix.NC,[aI f [97,120]]):=by simp[aF, *]
  rw[A];refine aX al (fun _ _ a4=>?_);refine zV ?_;exact⟨_,rfl,.inr ⟨b1,1,[],rfl,tH _,a4⟩,rfl⟩
 refine yZ ?_ ?_<;>intro am a5
 ·refine zO (TV f [97,120] M G _ N) ?_;refine aY 23 (str (aI f [97,120])) rfl (zC str (WJ (aJ _ _))) ?_;refine yU 1 ?_;intro b2 an;refine yU 7 ?_;have A:aF f=(Ix.NC,[aI f [97,120]]):=by simp[aF, *]
  rw[A];refine aX an (fun _ _ a6=>?_);refine zV ?_;exact⟨_,rfl,.inr ⟨b2,1,[],rfl,tH _,a6⟩,rfl⟩
 refine yZ ?_ ?_<;>intro ao a7
 ·refine zX (a5k f 97 100 Ke.WC M G (fun s J h=>b0S s h J) _ N) ?_;intro _ _ _ _ ap;obtain⟨vl,h,hv,rfl⟩:=ap;cases h;refine yU 7 ?_;have A:aF f=(Ix.QH,f.subs.filterMap Ke.isb):=by simp[aF, *]
  rw[A];refine zV ?_;exact⟨_,rfl,hv,rfl⟩
 refine yZ ?_ ?_<;>intro aq a8
 ·refine zX (a5k f 99 233 uy M G (fun s J h=>c6R s h J) _ N) ?_;intro _ _ _ _ ar;obtain⟨vl,h,hv,rfl⟩:=ar;cases h;refine yU 7 ?_;have A:aF f=(Ix.a2a,f.subs.filterMap Ix.yr):=by simp[aF, *]
  rw[A];refine zV ?_;rw[←b8a];exact⟨_,rfl,hv,rfl⟩
 refine yU 10 ?_;have A:aF f=([],[]):=by simp[aF, *]
 rw[A];refine zV ?_;exact⟨_,rfl,.inl rT,rfl⟩
theorem a7c(fs:List Ke.FN)(v:Value)(rk rl:UInt8)(hok:RI fs)(I:Heap)(hr0:KC I fs v):yY Tryz.prog 95 [a1A rk rl v] I []
    (fun e I' H'=>∃w,e= .returned w∧VN I' (Ix.vals fs) w∧H'=[]):=by
 have hfs:=hok.1;obtain⟨p,c,rfl,hc,-⟩:=id hr0.1;refine zN func95 fun w0 hw0=>?_;refine yU 3 ?_;intro b1 hb1;refine yU 18 ?_;refine Cj.keep (Keeps.d Keeps.n) ?_;refine Cj.loop (ι:=VA) (fun y=>y.j≤fs.length∧Le I y.J∧RD y.J y.xs (Ix.vals (fs.take y.j))∧AL w0.heap.size 3 y.xs.length (y.xs.flatMap vwC) y.g) (fun y=>fs.length-y.j) (fun y=>[(3,gV y.xs.length y.g),(12,.slice p fs.length c),(13,i64 (fs.length:Int)),(14,i64 (y.j:Int))]) (fun y=>y.J) (fun y=>gH 192 (y.xs.flatMap vwC) y.g) ⟨0,_,[],none⟩ ⟨Nat.zero_le _,Le.refl _,⟨rfl,fun x hx=>by cases hx⟩,rfl,rfl⟩ ⟨rfl,rfl,rfl,rfl,trivial⟩ rfl rfl ?_;rintro⟨j,Jh,xs,g⟩ ⟨hj,hIJ,hX,hg⟩;dsimp only at hj hIJ hX hg ⊢;have hr:=hr0.mono hIJ;have hxl:=hX.len;have hvl:=b1M fs hok j;refine yZ (fun hc2 hc2p=>?_) (fun hc2 hc2p=>?_)
 ·have hlt:j<fs.length:=by omega
  obtain⟨f,hget⟩:∃f,fs[j]?=some f:=⟨_,AA hlt⟩;have hfm:=CJ hget;obtain⟨hk1,hk2,hk3⟩:=hok.2 f hfm;obtain⟨⟨p1,c1,hpe,hc1,hp⟩,hsub⟩:=id hr;cases hpe;obtain⟨fb,fo,fcs,fty,ffr,sp,rfl,hfb,hfd⟩:=hp (zK hlt);have hrf:=hsub f hfm;clear hsub;obtain⟨p2,c2,hsv,-,-⟩:=id hrf;have hnl:=b1s f hk1;have htl3:=a0n f [];rw[a0x]at htl3;refine zW (fo+j*4) ?_;refine J.z (CX a1t KX (yX.YR hfb) (AY LK hfd hget)) ?_;refine yU 1 ?_;intro b3 hb3;refine J.op rfl (DV 0 rfl rfl rfl rfl rfl (PY hsv) KX rfl rfl (AX.c (AX.c (AX.c (AX.c AX.z)))) BL.z ?_);refine zX (named_ok f (by omega) hk2 _ hrf) ?_;intro v4 I5 H6 hle7 hp8;have hX:=hX.mono hle7;have hIJ:=hIJ.mono hle7;have hfb:=hle7 _ _ hfb;have hrf:=hrf.mono hle7;obtain⟨vl,h,hls,rfl⟩:=hp8;cases h;obtain⟨lp,lc,rfl⟩:=KG hls;refine yU 16 ?_;refine Cj.keep (Keeps.k Keeps.r) ?_;refine Cj.loop (ι:=VA) (fun y=>y.j≤(Ix.named f).2.length∧Le I5 y.J∧RD y.J y.xs (Ix.vals (fs.take j)++((Ix.named f).2.take y.j).map (nv f))∧AL w0.heap.size 3 y.xs.length (y.xs.flatMap vwC) y.g) (fun y=>(Ix.named f).2.length-y.j) (fun y=>[(3,gV y.xs.length y.g),(5,ptr b3 0),(6,str (Ix.named f).1),(12,.slice (some ⟨fb,fo,none⟩) fs.length c),(13,i64 (fs.length:Int)),(14,i64 (j:Int)),(23,.slice lp (Ix.named f).2.length lc),(24,i64 ((Ix.named f).2.length:Int)),(25,i64 (y.j:Int))]) (fun y=>y.J) (fun y=>(b3,yV 92 (IQ f))::gH 192 (y.xs.flatMap vwC) y.g) ⟨0,_,xs,g⟩ ⟨Nat.zero_le _,Le.refl _,by dsimp only;rw[List.take_zero,List.map_nil,List.append_nil];exact hX,hg⟩ ⟨rfl,rfl,rfl,rfl,rfl,rfl,rfl,rfl,rfl,trivial⟩ rfl rfl ?_;rintro⟨q,Kh,xs,g⟩ ⟨hq,hIK,hX,hg⟩;dsimp only at hq hIK hX hg ⊢;have hIJ:=hIJ.mono hIK;have hrf:=hrf.mono hIK;have hls:=hls.mono hIK;have hfb:=hIK _ _ hfb;have hxl:=hX.len;rw[List.length_append,List.length_map,List.length_take,Nat.min_eq_left hq]at hxl;refine yZ (fun hc9 hc9p=>?_) (fun hc9 hc9p=>?_)
  ·have hqlt:q<(Ix.named f).2.length:=by omega
   obtain⟨s,hqget⟩:∃s,(Ix.named f).2[q]?=some s:=⟨_,AA hqlt⟩;have hsl:=a4s (CJ hqget);obtain⟨lb,lc1,lsp,hle1,hlb⟩:=hls.some (zK hqlt);cases hle1;refine zW q ?_;refine J.z (DI DU (yX.YR hlb) (EL hqget)) ?_;refine zO (c8a f hk3 _) ?_;refine zO (WU s ((Ix.a3q f:Nat):Int) (by omega) _) ?_;refine zX (VR s (by omega) _) ?_;intro v10 I11 H12 hle13 hp14;have hX:=hX.mono hle13;have hfb:=hle13 _ _ hfb;have hIK:=hIK.mono hle13;have hlb:=hle13 _ _ hlb;obtain⟨vw1,h,hw1,rfl⟩:=hp14;cases h;obtain⟨pvw1,cvw1,rfl⟩:=KG hw1;refine J.z (zL (pl:= #[(0,1),(1,1),(2,1)]) rfl rfl a6B rfl a6w (fun w=>by simp[sizeOf118,BD]) (GU.part rfl rfl rfl (AX.c AX.z) (GU.part rfl rfl rfl (AX.s (AX.c AX.z)) (GU.part rfl rfl rfl (AX.s (AX.s (AX.c AX.z))) GU.none)))) ?_;refine J.op rfl (CY a6l XW a6B (DC.agg rfl DC.none) ?_);intro b15 hb15;refine J.op rfl (zT (by':=55) [_,_] rfl rfl rfl rfl rfl a6l (.inr ⟨_,a6l⟩) (by kernel_rfl) XW a6B rfl hg rfl (Src.slice (yX.at 0 rfl) rfl rfl (a5a hw1 rfl rfl)) (by omega) ?_);intro g16 hg16;refine yU 8 ?_;refine Ej.keep (Keeps.d (Keeps.k Keeps.r)) ?_;refine Ej.round ⟨q+1,_,xs++[(nv f s,_)],g16⟩ ⟨by dsimp only;omega,hIK,by dsimp only;rw[YU (nv f) hqget,←List.append_assoc];exact hX.add hw1,by dsimp only;rw[List.length_append,List.flatMap_append];exact hg16⟩ (by dsimp only;omega) ⟨by dsimp only;rw[List.length_append];rfl,rfl,rfl,rfl,rfl,rfl,rfl,rfl,rfl,trivial⟩ rfl (by dsimp only;rw[List.flatMap_append];rfl)
  rw[List.take_of_length_le (by omega:(Ix.named f).2.length≤q)]at hX;refine zO (a1x f.tag [48,48] (by decide) _) ?_;refine EH (fun hg17=>?_) (fun hg17=>?_)
  ·refine zO (a1x f.tag [57] (by decide) _) ?_;refine DF (fun hc18=>?_) (fun hc18=>?_)
   ·have hany:Ix.a4u f=true:=by unfold Ix.a4u;rw[Bool.and_eq_true];exact⟨hg17,hc18⟩
    refine zO (TV f [] (by omega) hk2 _ hrf) ?_;refine J.ez 52 (str (Ix.a2Q f)) rfl (zC str (a0x f)) ?_;refine zO (WU (Ix.a2Q f) 0 (by omega) _) ?_;refine zX (VR (Ix.a2Q f) (by omega) _) ?_;intro v19 I20 H21 hle22 hp23;have hX:=hX.mono hle22;have hfb:=hle22 _ _ hfb;have hIJ:=hIJ.mono hle22;obtain⟨vw2,h,hw2,rfl⟩:=hp23;cases h;obtain⟨pvw2,cvw2,rfl⟩:=KG hw2;refine J.z (zL (pl:= #[(0,1),(1,1),(2,1)]) rfl rfl a6B rfl a6w (fun w=>by simp[sizeOf118,BD]) (GU.part rfl rfl rfl (AX.c AX.z) (GU.part rfl rfl rfl (AX.s (AX.c AX.z)) (GU.part rfl rfl rfl (AX.s (AX.s (AX.c AX.z))) GU.none)))) ?_;refine J.op rfl (CY a6l XW a6B (DC.agg rfl DC.none) ?_);intro b24 hb24;refine J.op rfl (zT (by':=55) [_,_] rfl rfl rfl rfl rfl a6l (.inr ⟨_,a6l⟩) (by kernel_rfl) XW a6B rfl hg rfl (Src.slice (yX.at 0 rfl) rfl rfl (a5a hw2 rfl rfl)) (by omega) ?_);intro g25 hg25;refine yU 8 ?_;refine Ej.keep (Keeps.d (Keeps.d Keeps.r)) ?_;refine Ej.round ⟨j+1,_,xs++[(⟨Ix.RY,Ix.a2Q f,0⟩,_)],g25⟩ ⟨by dsimp only;omega,hIJ,by dsimp only;rw[a5Q hget];unfold Ix.a6t;rw[zF hany,←List.append_assoc];exact hX.add hw2,by dsimp only;rw[List.length_append,List.flatMap_append];exact hg25⟩ (by dsimp only;omega) ⟨by dsimp only;rw[List.length_append];rfl,rfl,rfl,rfl,trivial⟩ rfl (by dsimp only;rw[List.flatMap_append];rfl)
   have hany:¬Ix.a4u f=true:=by unfold Ix.a4u;rw[Bool.and_eq_true];exact fun e=>Bool.noConfusion (e.2.symm.trans hc18)
   refine yU 7 ?_;refine Ej.keep (Keeps.d Keeps.r) ?_;refine Ej.round ⟨j+1,_,xs,g⟩ ⟨by dsimp only;omega,hIJ,by dsimp only;rw[a5Q hget];unfold Ix.a6t;rw[zD hany,List.append_nil];exact hX,by dsimp only;exact hg⟩ (by dsimp only;omega) ⟨rfl,rfl,rfl,rfl,trivial⟩ rfl rfl
  have hany:¬Ix.a4u f=true:=by unfold Ix.a4u;rw[Bool.and_eq_true];exact fun e=>Bool.noConfusion (e.1.symm.trans hg17)
  refine yU 15 ?_;refine Ej.keep (Keeps.d Keeps.r) ?_;refine Ej.round ⟨j+1,_,xs,g⟩ ⟨by dsimp only;omega,hIJ,by dsimp only;rw[a5Q hget];unfold Ix.a6t;rw[zD hany,List.append_nil];exact hX,by dsimp only;exact hg⟩ (by dsimp only;omega) ⟨rfl,rfl,rfl,rfl,trivial⟩ rfl rfl
 refine yU 6 ?_;have hfull:fs.take j=fs:=List.take_of_length_le (by omega);rw[hfull]at hX;refine Cj.perm (H':=gH _ _ _++[]) (.of_eq (List.append_nil _)) ?_;refine Cj.d1j a1c (by decide) hg rfl (fun I8 hle8 hv=>?_);have hX:=hX.mono hle8;refine zM ?_;exact⟨_,rfl,⟨xs,hv,hX⟩,rfl⟩
end Go.Proofs.YtalapkjmkjmpjaaGreatDoor
end
namespace Go.Sx
open Go
section
variable {α β:Type}
variable {cx:Cx} {Q:Qt} {en:Env} {f:β→List Value} {sz:Nat} {T:TypeId} {R:HL} {c:Code}
end
section
variable {α β:Type} [BEq α] [LawfulBEq α]
abbrev kvp (p:α×Value×Nat):α×Value:=(p.1,p.2.1)
def a5V (l:List (α×Value)) (a:α):Option Value:=match l with
 |[]=>none
 |(b,v)::r=>if a == b then some v else a5V r a
def a5S (l:List (α×Value)) (a:α) (v:Value):List (α×Value):=match l with
 |[]=>[(a,v)]
 |(b,u)::r=>if a == b then(b,v)::r else(b,u)::a5S r a v
omit [LawfulBEq α] in
theorem b3J a:∀l:ML α,AQ l a=a5V (l.map kvp) a
 |[]=>rfl
 |(b,v,n)::r=>by simp only[AQ,wF,a5V,b3J a r]
omit [LawfulBEq α] in
theorem b4C a v c:∀l:ML α,(BF l a v c).map kvp=a5S (l.map kvp) a v
 |[]=>rfl
 |(b,u,n)::r=>by
  simp only[BF,wF,a5S]
  split
  ·rfl
  rw[wF,b4C a v c r]
theorem b7E{a u v B}:∀{A:List (α×Value)},a ∉ A.map (·.1)→a5S (A++(a,u)::B) a v=A++(a,v)::B∧a5V (A++(a,u)::B) a=some u
 |[],_=>by simp[a5S,a5V]
 |(b,w)::A,h=>by
  rw[wF,vX,not_or]at h;obtain⟨h1,h2⟩:=b7E (u:=u) (v:=v) (B:=B) h.2;have G:(a == b)=false:=by simpa using h.1
  simp only[yC,a5S,a5V,G,yL,if_false,h1,h2,and_self]
theorem b3C{a v}:∀{A:List (α×Value)},a ∉ A.map (·.1)→a5S A a v=A++[(a,v)]∧a5V A a=none
 |[],_=>rT
 |(b,w)::A,h=>by
  rw[wF,vX,not_or]at h;obtain⟨h1,h2⟩:=b3C (v:=v) h.2;have G:(a == b)=false:=by simpa using h.1
  simp only[yC,a5S,a5V,G,yL,if_false,h1,h2,and_self]
variable {cx:Cx} {Q:Qt} {e:Env} {I:Heap} {H H':HL}
theorem JA.perm{l N A Z z M G}(O:H'.Perm H)(k:JA cx Q l N A Z z M G e I H'):JA cx Q l N A Z z M G e I H:=fun a w ha h1=>k a w ha (h1.perm O)
end
section
variable {α β:Type} [BEq α] [LawfulBEq α] [BEq β] [LawfulBEq β]
abbrev SL (α β:Type):=List (α×Nat×ML β×Nat)
abbrev nvp (e:α×Nat×ML β×Nat):α×Value:=(e.1,.map (some e.2.1))
def XQ (kv:β→Value) (N:SL α β):HL:=N.map fun e=>(e.2.1,zZ kv e.2.2.1 e.2.2.2)
omit [BEq α] [LawfulBEq α] [BEq β] [LawfulBEq β] in
theorem a4K kv (A B:SL α β):XQ kv (A++B)=XQ kv A++XQ kv B:=by unfold XQ;rw[wG]
omit [BEq α] [LawfulBEq α] [BEq β] [LawfulBEq β] in
theorem c2l kv (A B:SL α β)(a:α)(b:Nat) m c:((b,zZ kv m c)::XQ kv (A++B)).Perm (XQ kv (A++(a,b,m,c)::B)):=by
 rw[a4K,a4K];exact(uP).symm
def cv (n:Nat):Option Value:=if n=0 then none else some (i64 (n:Int))
def bump (f:α→β→Nat) (a:α) (b:β) (d:Nat→Nat) (x:α) (y:β):Nat:=if x == a && y == b then d (f x y)else f x y
structure CS (l:ML α) (c:Nat) (N:SL α β) (f:α→β→Nat):Prop where
  ms:MS l c
  vals:l.map kvp=N.map nvp
  inn:∀e∈N,MS e.2.2.1 e.2.2.2∧e.2.2.1≠[]∧∀t,AQ e.2.2.1 t=cv (f e.1 t)
  out:∀a,a ∉ N.map (·.1)→∀t,f a t=0
omit [BEq α] [LawfulBEq α] [LawfulBEq β] in
theorem CS.nil:CS ([]:ML α) 0 ([]:SL α β) (fun _ _=>0):=⟨MS.nil,rfl,fun _ h=>(by cases h),fun _ _ _=>rfl⟩
omit [BEq α] [LawfulBEq α] [BEq β] [LawfulBEq β] in
theorem a7y(N:SL α β):(N.map nvp).map (·.1)=N.map (·.1):=by rw[wE];rfl
omit [BEq α] [LawfulBEq α] [LawfulBEq β] in
theorem CS.keys{l:ML α}{c:Nat}{N:SL α β}{f:α→β→Nat}(h:CS l c N f):l.map (·.1)=N.map (·.1):=by
 rw[←a7y N,←h.vals,wE];rfl
omit [BEq α] [LawfulBEq α] [LawfulBEq β] in
theorem CS.nodup{l:ML α}{c:Nat}{N:SL α β}{f:α→β→Nat}(h:CS l c N f):(N.map (·.1)).Nodup:=h.keys▸h.ms.1
omit [LawfulBEq β] in
theorem CS.find{l:ML α}{c:Nat}{N:SL α β}{f:α→β→Nat}(h:CS l c N f)(a:α):
 (a ∉ N.map (·.1)∧AQ l a=none∧∀t,f a t=0)∨∃A b m k B,N=A++(a,b,m,k)::B∧AQ l a=some (.map (some b))∧MS m k∧m≠[]∧(∀t,AQ m t=cv (f a t))∧a ∉ A.map (·.1)∧a ∉ B.map (·.1):=by
 by_cases ha:a∈N.map (·.1)
 ·obtain⟨⟨M,b,m,k⟩,O,rfl⟩:=vU.1 ha;obtain⟨A,B,rfl⟩:=List.append_of_mem O;have G:=h.nodup;rw[wG,wF,vK,vJ]at G;have h1:M ∉ A.map (·.1):=fun g=>G.2.2 _ g _ (.head _) rfl;have h2:AQ l M=some (.map (some b)):=by
   rw[b3J,h.vals,wG,wF];exact(b7E (v:= .map none) (by rw[a7y];exact h1)).2
  obtain⟨h3,Q,Z⟩:=h.inn _ O;exact .inr ⟨A,b,m,k,B,rfl,h2,h3,Q,Z,h1,G.2.1.1⟩
 refine .inl ⟨ha,?_,h.out a ha⟩;rw[IX,h.keys];exact ha
theorem CS.set{l c}{A B:SL α β}{f}{a:α}{b k O:Nat}{m M:ML β}{t:β}{d:Nat→Nat}(h:CS l c (A++(a,b,m,k)::B) f)
 (h1:MS M O)(h2:M≠[])(h3:∀s,AQ M s=if s == t then cv (d (f a t))else AQ m s):CS l c (A++(a,b,M,O)::B) (bump f a t d):=by
 have Q:=h.nodup;rw[wG,wF,vK,vJ]at Q;have hA:∀e∈A++B,e.1≠a:=by
  intro e G g;rcases wB.1 G with G|G
  ·exact Q.2.2 _ (vT G) _ (.head _) g
  exact Q.2.1.1 (vU.2 ⟨e,G,g⟩)
 refine⟨h.ms,?_,fun e G=>?_,fun x hx s=>?_⟩
 ·rw[h.vals];simp
 ·have N:e∈A++B∨e=(a,b,M,O):=by
   rcases wB.1 G with G|G
   ·exact .inl (vZ _ G)
   rcases vX.1 G with G|G
   ·exact .inr G
   exact .inl (vY _ G)
  rcases N with G|rfl
  ·obtain⟨g1,g2,Z⟩:=h.inn e (by rcases wB.1 G with G|G;exact vZ _ G;exact vY _ (.tail _ G));refine⟨g1,g2,fun s=>?_⟩;have:(e.1 == a)=false:=by simpa using hA e G
   rw[Z];unfold bump;rw[this];rfl
  refine⟨h1,h2,fun s=>?_⟩;dsimp only;rw[h3];obtain⟨_,_,Z⟩:=h.inn (a,b,m,k) sI;unfold bump
  by_cases hs:(s == t)=true
  ·have:=zB hs;subst this;simp
  simp only[hs,if_false,beq_self_eq_true,yJ,yL];exact Z s
 have a0:x ∉ (A++(a,b,m,k)::B).map (·.1):=by simpa using hx
 have a1:(x == a)=false:=by
  have:x≠a:=fun g=>hx (by rw[g];simp);simpa using this
 unfold bump;rw[a1];exact h.out x a0 s
theorem CS.add{l c N f}{a:α}{b Q:Nat}{G}{t:β}{d:Nat→Nat}(h:CS l c N f)(M:a ∉ N.map (·.1))
 (h1:MS G Q)(h2:G≠[])(h3:∀s,AQ G s=if s == t then cv (d 0)else none):CS (BF l a (.map (some b)) c) (EJ l a c) (N++[(a,b,G,Q)]) (bump f a t d):=by
 refine⟨h.ms.set a _,?_,fun e A=>?_,fun x O s=>?_⟩
 ·rw[b4C,h.vals,(b3C (by rw[a7y];exact M)).1,wG];rfl
 ·rcases wB.1 A with A|A
  ·obtain⟨g1,g2,g3⟩:=h.inn e A;refine⟨g1,g2,fun s=>?_⟩;have:(e.1 == a)=false:=by
    have:e.1≠a:=fun g=>M (g▸vT A);simpa using this
   rw[g3];unfold bump;rw[this];rfl
  rw[vN.1 A];refine⟨h1,h2,fun s=>?_⟩;dsimp only;rw[h3,←h.out a M t];unfold bump
  by_cases hs:(s == t)=true
  ·have:=zB hs;subst this;simp
  simp only[hs,if_false,beq_self_eq_true,yJ,yL];rw[h.out a M s];rfl
 rw[wG,wB,not_or]at O;have Z:(x == a)=false:=by
  have:x≠a:=by simpa using O.2
  simpa using this
 unfold bump;rw[Z];exact h.out x O.1 s
theorem CS.drop{l c}{A B:SL α β}{f}{a:α}{b k:Nat}{m:ML β}{t:β}{d:Nat→Nat}(h:CS l c (A++(a,b,m,k)::B) f)
 (h1:∀s,s≠t→f a s=0)(h2:d (f a t)=0):CS (IW l a) c (A++B) (bump f a t d):=by
 have M:=h.nodup;rw[wG,wF,vK,vJ]at M;have O:∀e∈A++B,e.1≠a:=by
  intro e G g;rcases wB.1 G with G|G
  ·exact M.2.2 _ (vT G) _ (.head _) g
  exact M.2.1.1 (vU.2 ⟨e,G,g⟩)
 refine⟨h.ms.del a,?_,fun e G=>?_,fun x N s=>?_⟩
 ·have h3:(IW l a).map kvp=(l.map kvp).filter fun p=> !(p.1 == a):=by
   rw[OL h.ms.1,List.filter_map];rfl
  rw[h3,h.vals,wG,wF,xR,bK sI,←xR,←wG];rw[xQ.2];intro p Z;obtain⟨e,G,rfl⟩:=vU.1 Z;have:=O e G;simpa using this
 ·obtain⟨g1,g2,g3⟩:=h.inn e (by rcases wB.1 G with G|G;exact vZ _ G;exact vY _ (.tail _ G));refine⟨g1,g2,fun s=>?_⟩;have:(e.1 == a)=false:=by simpa using O e G
  rw[g3];unfold bump;rw[this];rfl
 unfold bump
 by_cases hxa:x=a
 ·subst hxa
  by_cases hs:s=t
  ·subst hs;simp[h2]
  have:(s == t)=false:=by simpa using hs
  simp only[this,Bool.and_false,yL,if_false];exact h1 s hs
 have Q:(x == a)=false:=by simpa using hxa
 rw[Q];refine h.out x ?_ s;rw[wG,wF,wB,vX,not_or,not_or];rw[wG,wB,not_or]at N;exact⟨N.1,hxa,N.2⟩
theorem c3K{m}{g:β→Nat}(G:∀s,AQ m s=cv (g s)) t (n:Nat)(A:n≠0) k:∀s,AQ (BF m t (i64 (n:Int)) k) s=if s == t then cv n else AQ m s:=by
 intro s;rw[MI];unfold cv;rw[zD A]
omit [LawfulBEq β] in
theorem c1n{m}{g:β→Nat}(A:∀s,AQ m s=cv (g s)) t:(AQ m t).getD (i64 0)=i64 (g t:Int):=by
 rw[A];unfold cv
 split
 ·rename_i h;rw[h];rfl
 rfl
end
section
variable {α:Type} [BEq α] [LawfulBEq α]
def SA (l:ML α) (a:α) (c:Nat):Nat:=match l with
 |[]=>c
 |(b,_,n)::r=>if a == b then n else SA r a c
omit [LawfulBEq α] in
theorem a7Z{l}{a:α}{c:Nat}(h:AQ l a=none):SA l a c=c:=by
 induction l with
 |nil=>rfl
 |cons p r G=>
  obtain⟨b,u,n⟩:=p;unfold AQ at h;unfold SA
  split at h
  ·cases h
  rename_i A
  rw[zD A];exact G h
theorem a7C{a v}:∀(l:ML α) (c i:Nat),AQ l a=some v→∃j,midx l a i=some (i+j,v)∧l[j]?=some (a,v,SA l a c)∧∀x A,BF l a x A=l.set j (a,x,SA l a c)
 |[],_,_,h=>by cases h
 |(b,u,n)::r,c,i,h=>by
  unfold AQ at h
  split at h
  ·rename_i O
   have M:=zB O;subst M;cases h;exact⟨0,by simp[midx],by simp[SA],fun x A=>by simp[BF,SA]⟩
  rename_i N
  have G:(a == b)=false:=by simpa using N
  obtain⟨j,h1,h2,h3⟩:=a7C r c (i+1) h;refine⟨j+1,?_,?_,fun x A=>by simp[BF,SA,G,h3]⟩
  ·simp only[midx,G,yL,if_false];rw[h1,Nat.add_assoc,Nat.add_comm 1 j]
  simp only[List.getElem?_cons_succ,SA,G,yL,if_false];exact h2
variable {cx:Cx} {Q:Qt} {e:Env} {I:Heap} {H:HL} {o:Oper} {C:Ct} {S:World→Prop}
theorem b3R{P:Program}{T K E b c:Nat}{kv:α→Value}{l:ML α}{a:α}{z:Value}{w:World}(Q:P.underlying T=some (.map K E))(hk:FT P K kv)(hz:∀w,(zeroValue E).run P w= .ok z w)(Z:w.heap[b]?=some (zZ kv l c)):
 (bU T (.map (some b)) (kv a)).run P w= .ok (.tuple #[(AQ l a).getD z,i64 (SA l a c:Int)]) (aN w b (zZ kv (BF l a ((AQ l a).getD z) c) (EJ l a c))):=by
 obtain⟨hf,hc,G⟩:=hk;have hg:(getObj b).run P w= .ok (zZ kv l c) w:=by simp[getObj,dI,Z,zZ]
 have hset:∀o',(setObj b o').run P w= .ok () (aN w b o'):=fun o'=>by simp[setObj,dI,Z,aN,zZ]
 cases hm:AQ l a with
 |none=>
  obtain⟨h1,h2⟩:=WR l 0 hm;have h3:(dK K (kv a) (l.map (JR kv))).run P w= .ok none w:=by rw[hf,h1]
  simp only[bU,bY,run_underlying Q,bI,hg,zZ,hc,h3,hz,hset,h2,EJ,hm,a7Z hm];simp[goInt]
 |some u=>
  obtain⟨j,h1,h2,h3⟩:=a7C l c 0 hm;rw[sS]at h1;have h4:(dK K (kv a) (l.map (JR kv))).run P w= .ok (some (j,u)) w:=by rw[hf,h1]
  have hj:(l.map (JR kv)).toArray[j]?=some { key:=kv a,val:=u,born:=SA l a c }:=by simp[h2,JR]
  have M:∀w,(bZ (kv a) (kv a)).run P w= .ok (kv a) w:=fun w=>by simp[bZ,G]
  simp only[bU,bY,run_underlying Q,bI,hg,zZ,hc,h4,hj,sN,Option.getD_some,M,hset,h3,EJ,hm,Option.isSome_some,if_true,goInt,Sem.run_pure];refine zC (fun A=>Result.ok (Value.tuple #[u,Value.int .i64 (SA l a c:Int)]) (aN w b (Obj.map A c))) ?_
  apply yT
  intro i;rw[yQ];simp only[wY,xB,xA]
  by_cases hi:j=i
  ·subst hi;have N:j<l.length:=by
    rcases tC j l.length with O|O
    ·exact O
    simp[xE O]at h2
   have h5:l[j]=(a,u,SA l a c):=by
    have:=xG N;rw[h2]at this;exact(sK this).symm
   simp[N,h5]
  simp[hi]
theorem QU{T K E b c d:Nat}{m x}{kv:α→Value}{l a}{G z:Value}{H'}(i:Nat)(ho:o.op= .mapEntry T m x)(hd:o.dst=some d)(hn:Nat.blt d cx.n=true)(hm:ev e m=some (.map (some b)))(hx:ev e x=some G)(M:G=kv a)(hT:cx.P.underlying T=some (.map K E))(hK:FT cx.P K kv)(hz:∀w,(zeroValue E).run cx.P w= .ok z w)
 (N:H[i]?=some (b,zZ kv l c))(O:BL H i (b,zZ kv (BF l a ((AQ l a).getD z) c) (EJ l a c)) H')(kk:C ((d,.tuple #[(AQ l a).getD z,i64 (SA l a c:Int)])::e) I H'):EZ cx Q o e I H C:=by
 intro _ Z w0 w A hs;unfold Oper.wp;subst M;have hb:=hs.own _ (vS N);have hr:=b3R (a:=a) hT hK hz hb;have:(execOp w0.eval o).run cx.P w= .ok (.value (.tuple #[(AQ l a).getD z,i64 (SA l a c:Int)])) (aN w b (zZ kv (BF l a ((AQ l a).getD z) c) (EJ l a c))):=by
  simp[execOp,ho,A.eval hm,A.eval hx,hr]
 rw[this];simp only[Oper.upon,hd];exact Z _ _ _ kk _ _ (A.put hn) (hs.block N O)
theorem c6V{l:ML α}{a:α}{x v:Value}{c:Nat}(h:MS l c):∃j,(BF l a x c)[j]?=some (a,x,SA l a c)∧BF l a v c=(BF l a x c).set j (a,v,SA l a c):=by
 cases hm:AQ l a with
 |none=>
  obtain⟨_,h2⟩:=WR l 0 hm;refine⟨l.length,?_,?_⟩
  ·rw[h2,a7Z hm];simp
  rw[h2,h2,a7Z hm];simp
 |some u=>
  obtain⟨j,_,h2,h3⟩:=a7C l c 0 hm;refine⟨j,?_,?_⟩
  ·rw[h3,xA,zF rfl,zF (xC.1 h2).1]
  rw[h3,h3,List.set_set]
theorem b0Q{P:Program}{T b c:Nat}{kv:α→Value}{l:ML α}{a:α}{x v:Value}{w:World}(h:MS l c)(O:w.heap[b]?=some (zZ kv (BF l a x c) (EJ l a c))):
 (dD T (.map (some b)) (i64 (SA l a c:Int)) v).run P w= .ok () (aN w b (zZ kv (BF l a v c) (EJ l a c))):=by
 have Q:(getObj b).run P w= .ok (zZ kv (BF l a x c) (EJ l a c)) w:=by simp[getObj,dI,O,zZ]
 have hset:∀o',(setObj b o').run P w= .ok () (aN w b o'):=fun o'=>by simp[setObj,dI,O,aN,zZ]
 obtain⟨j,h1,h2⟩:=c6V (x:=x) (v:=v) (a:=a) h;have M:=h.set a x;generalize BF l a x c=L at h1 h2 M Q;have N:j<L.length:=(xC.1 h1).1;have G:L[j]=(a,x,SA l a c):=(xC.1 h1).2;have hf:(L.map (JR kv)).toArray.findIdx? (fun e=>(e.born:Int) == (SA l a c:Int))=some j:=by
  rw[List.findIdx?_toArray,aZ];refine⟨by simpa using N,by simp[G],fun k hk=>?_⟩;simp only[List.getElem_map,Bool.not_eq_true,beq_eq_false_iff_ne,ne_eq];intro he;have Z:k<L.length:=oM;have h3:=M.2.1;rw[vI,uV,List.pairwise_iff_getElem]at h3;refine h3 k j Z N hk ?_;rw[G];exact Int.ofNat_inj.1 he
 have a0:∀w,(asInt (i64 (SA l a c:Int))).run P w= .ok (SA l a c:Int) w:=fun w=>by simp[asInt,asIntOf]
 simp only[dD,bY,Q,zZ,bI,a0,hf,hset];refine zC (fun A=>Result.ok () (aN w b (Obj.map A (EJ l a c)))) ?_;rw[h2]
 apply yT
 intro i;rw[yQ];simp only[wY,xB,xA]
 by_cases hi:j=i
 ·subst hi;simp[N,G]
 simp[hi]
theorem NS{T b c:Nat}{m x y:Operand}{kv:α→Value}{l:ML α}{a:α}{u v:Value}{n:Int}{H':HL}(i:Nat)(ho:o.op= .entryStore T m x y)(hd:o.dst=none)(hm:ev e m=some (.map (some b)))(hx:ev e x=some (i64 n))(G:n=(SA l a c:Int))(hy:ev e y=some v)(M:MS l c)
 (N:H[i]?=some (b,zZ kv (BF l a u c) (EJ l a c)))(O:BL H i (b,zZ kv (BF l a v c) (EJ l a c)) H')(kk:C e I H'):EZ cx Q o e I H C:=by
 intro _ Z w0 w A hs;unfold Oper.wp;subst G;have hb:=hs.own _ (vS N);have hr:=b0Q (P:=cx.P) (T:=T) (v:=v) M hb;have:(execOp w0.eval o).run cx.P w= .ok .skip (aN w b (zZ kv (BF l a v c) (EJ l a c))):=by
  simp[execOp,ho,A.eval hm,A.eval hx,A.eval hy,hr]
 rw[this];simp only[Oper.upon,hd];exact Z _ _ _ kk _ _ A.XB (hs.block N O)
end
end Go.Sx
section
namespace Go.Proofs.YtalapkjmkjmpjaaGreatDoor
open _root_.Go.Proofs.Tryz
open Go Go.Sx
abbrev AB (t:dG):Value:= .agg #[i64 t.1,i64 t.2]
abbrev GH (p:Ix.Pl):Value:= .agg #[str p.1,str p.2]
theorem FQ:FT aB 42 AB:=FT.c0C a0y kR dE dE rfl rfl rfl rfl tU3 GZ
theorem QL:FT aB 195 GH:=FT.d0t a6x kR dE dE rfl rfl rfl rfl AV DU
def setH (b:Nat) (l:ML Ix.Pl) (c:Nat) (N:SL Ix.Pl dG):HL:=(b,zZ GH l c)::XQ AB N
theorem a1D b l c A B p G m k:([(b,zZ GH l c),(G,zZ AB m k)]++XQ AB (A++B)).Perm (setH b l c (A++(p,G,m,k)::B)):=
 bV _ (c2l AB A B p G m k)
theorem a2P{α:Type}[BEq α][LawfulBEq α](l:ML α)(a:α)(v:Value)(c:Nat):BF l a v c≠[]:=fun h=>by
 have:=(c4t (l:=l) (a:=a) (x:=a) (v:=v) (c:=c)).2 (.inr rfl);rw[h]at this;cases this
theorem SE{α:Type}[BEq α][LawfulBEq α]{l:ML α}{a:α}{v z:Value}{c:Nat}:(AQ (BF l a v c) a).getD z=v:=by
 rw[MI];simp
theorem c1M{n}(h:n≠0):cv n=some (i64 (n:Int)):=zD h
theorem c8s b l c p t (N:AQ l p=none) I:yY aB 98 [.map (some b),GH p,AB t] I [(b,zZ GH l c)]
 (fun e _ H'=>∃A,e= .returned (.tuple #[])∧H'=[(b,zZ GH (BF l p (.map (some A)) c) (EJ l p c)),(A,zZ AB (BF [] t (i64 1) 0) (EJ ([]:ML dG) t 0))]):=by
 refine zN func98 fun w0 _=>?_;refine yU 3 ?_;intro _ _;refine yU 1 ?_;intro _ _;refine yU 7 ?_;refine aQ (BJ (kv:=GH) (l:=l) (a:=p) rfl rfl rfl rfl KJ QL OU (yX.at 2 rfl)) ?_;refine aY 8 (.map none) rfl (by rw[N];rfl) ?_;refine yU 7 ?_;refine J.op rfl (BG rfl rfl rfl ?_);intro G _;refine J.op rfl (EY (kv:=GH) (a:=p) 3 (.inr rfl) rfl rfl rfl rfl rfl KJ QL rfl (aC (aC (aC aP))) ?_);refine yU 2 ?_;refine aO [1,2,3] [] 9 kR ?_;refine yU 2 ?_;refine bH 2 rfl (BJ (kv:=GH) (l:=(BF l p (.map (some G)) c)) (a:=p) rfl rfl rfl rfl KJ QL OU (bD 2 rfl)) ?_;refine aS 15 (.map (some G)) rfl SE ?_;refine yU 1 ?_;refine JA.all [4,6] kR sI ?_;intro i M;simp only[vX,vG,or_false]at M;rcases M with rfl|rfl
 ·refine⟨_,rfl,rfl,?_⟩;refine CU (BJ (kv:=AB) (l:=[]) (a:=t) rfl rfl rfl rfl JL FQ OT (yX.at 0 rfl)) ?_;refine yU 1 ?_;refine aS 17 (i64 0) rfl rfl ?_;refine JA.fix CP (fun _=>?_);refine bH 5 rfl (FM rfl rfl rfl (IJ dE)) ?_;refine qq2 6 rfl (QU (kv:=AB) (l:=[]) (c:=0) (a:=t) 0 rfl rfl rfl rfl rfl rfl JL FQ OT rfl aP ?_);refine yU 2 ?_;refine qq2 8 rfl (NS (kv:=AB) (l:=[]) (a:=t) (c:=0) 0 rfl rfl rfl rfl rfl rfl MS.nil rfl aP ?_);refine yU 2 ?_;refine aH (aG (aA (aA (aG aT)))) ?_;refine dJ dP ?_;refine dJ (Pull.s dP) ?_;refine aK rfl rfl ?_;exact⟨_,rfl,rfl⟩
 refine⟨_,rfl,rfl,?_⟩;refine QU (kv:=AB) (l:=[]) (c:=0) (a:=t) 0 rfl rfl rfl rfl rfl rfl JL FQ OT rfl aP ?_;refine yU 2 ?_;refine qq2 4 rfl (CU (BJ (kv:=AB) (l:=(BF [] t ((AQ [] t).getD (.int .i64 0)) 0)) (a:=t) rfl rfl rfl rfl JL FQ OT (yX.at 0 rfl)) ?_);refine yU 1 ?_;refine aS 17 (i64 0) rfl SE ?_;refine JA.fix CP (fun _=>?_);refine bH 5 rfl (FM rfl rfl rfl (IJ dE)) ?_;refine qq2 8 rfl (NS (kv:=AB) (l:=[]) (a:=t) (c:=0) 0 rfl rfl rfl rfl rfl rfl MS.nil rfl aP ?_);refine yU 2 ?_;refine aH (aG (aA (aA (aG aT)))) ?_;refine dJ dP ?_;refine dJ (Pull.s dP) ?_;refine aK rfl rfl ?_;exact⟨_,rfl,rfl⟩
theorem c7D b l c p t A m (k n:Nat)(M:AQ l p=some (.map (some A)))(G:MS m k)(N:(AQ m t).getD (i64 0)=i64 (n:Int))(Q:n≤1000000000000000) I:yY aB 98 [.map (some b),GH p,AB t] I [(b,zZ GH l c),(A,zZ AB m k)]
 (fun e _ H'=>e= .returned (.tuple #[])∧H'=[(b,zZ GH l c),(A,zZ AB (BF m t (i64 ((n+1:Nat):Int)) k) (EJ m t k))]):=by
 refine zN func98 fun w0 _=>?_;refine yU 3 ?_;intro _ _;refine yU 1 ?_;intro _ _;refine yU 7 ?_;refine aQ (BJ (kv:=GH) (l:=l) (a:=p) rfl rfl rfl rfl KJ QL OU (yX.at 2 rfl)) ?_;refine aY 8 (.map (some A)) rfl (by rw[M];rfl) ?_;refine yU 6 ?_;refine aO [0,1,2] [] 9 kR ?_;refine yU 2 ?_;refine bH 2 rfl (BJ (kv:=GH) (l:=l) (a:=p) rfl rfl rfl rfl KJ QL OU (bD 2 rfl)) ?_;refine aS 15 (.map (some A)) rfl (by rw[M];rfl) ?_;refine yU 1 ?_;refine JA.all [4,6] kR sI ?_;intro i O;simp only[vX,vG,or_false]at O;rcases O with rfl|rfl
 ·refine⟨_,rfl,rfl,?_⟩;refine CU (BJ (kv:=AB) (l:=m) (a:=t) rfl rfl rfl rfl JL FQ OT (yX.at 3 rfl)) ?_;refine yU 1 ?_;refine aS 17 (i64 (n:Int)) rfl N ?_;refine yU 1 ?_;refine qq2 6 rfl (QU (kv:=AB) (l:=m) (c:=k) (a:=t) 3 rfl rfl rfl rfl rfl rfl JL FQ OT rfl (aC (aC (aC aP))) ?_);refine yU 2 ?_;refine qq2 8 rfl (NS (kv:=AB) (l:=m) (a:=t) (c:=k) 3 rfl rfl rfl rfl rfl rfl G rfl (aC (aC (aC aP))) ?_);refine yU 2 ?_;refine aH (aA (aA (aG (aG aT)))) ?_;refine aK rfl rfl ?_;exact rT
 refine⟨_,rfl,rfl,?_⟩;refine QU (kv:=AB) (l:=m) (c:=k) (a:=t) 3 rfl rfl rfl rfl rfl rfl JL FQ OT rfl (aC (aC (aC aP))) ?_;refine yU 2 ?_;refine qq2 4 rfl (CU (BJ (kv:=AB) (l:=(BF m t ((AQ m t).getD (.int .i64 0)) k)) (a:=t) rfl rfl rfl rfl JL FQ OT (yX.at 3 rfl)) ?_);refine yU 1 ?_;refine aS 17 (i64 (n:Int)) rfl (SE.trans N) ?_;refine yU 1 ?_;refine qq2 8 rfl (NS (kv:=AB) (l:=m) (a:=t) (c:=k) 3 rfl rfl rfl rfl rfl rfl G rfl (aC (aC (aC aP))) ?_);refine yU 2 ?_;refine aH (aA (aA (aG (aG aT)))) ?_;refine aK rfl rfl ?_;exact rT
theorem c2c b l c N f p t (h:CS l c N f)(hf:f p t≤1000000000000000) I:
 yY aB 98 [.map (some b),GH p,AB t] I (setH b l c N) (fun e _ H'=>∃l' c' N',e= .returned (.tuple #[])∧CS l' c' N' (bump f p t (· +1))∧H'=setH b l' c' N'):=by
 rcases h.find p with⟨a0,M,hz⟩|⟨A,G,m,k,B,rfl,M,Q,a1,Z,hA,hB⟩
 ·have h1:=(c8s b l c p t M I).frame (XQ AB N);refine h1.leave fun e I' H' _ ⟨H1,hH,G,he,O⟩=>⟨_,[],?_,BF l p (.map (some G)) c,EJ l p c,N++[(p,G,BF [] t (i64 1) 0,EJ ([]:ML dG) t 0)],he,h.add a0 (MS.nil.set t _) (a2P _ _ _ _) (fun s=>?_),rfl⟩
  ·rw[yD,hH,O];unfold setH;rw[a4K];exact bV _ uQ
  rw[MI]
  by_cases hs:(s == t)=true
  ·rw[zF hs,zF hs];rfl
  rw[zD hs,zD hs];rfl
 have hn:=c1n Z t;have h1:=(yY.perm (a1D b l c A B p G m k) ((c7D b l c p t G m k (f p t) M Q hn hf I).frame (XQ AB (A++B))));refine h1.leave fun e I' H' _ ⟨H1,hH,he,O⟩=>⟨_,[],?_,l,c,A++(p,G,BF m t (i64 ((f p t+1:Nat):Int)) k,EJ m t k)::B,he,h.set (d:=(· +1)) (Q.set t _) (a2P _ _ _ _) (fun s=>?_),rfl⟩
 ·rw[yD,hH,O];exact(a1D b l c A B p G _ _).symm
 exact c3K Z t (f p t+1) (Nat.succ_ne_zero _) k s
theorem c3d b l c p t A m (k n:Nat)(G:AQ l p=some (.map (some A)))(a5:MS m k)(hn:(AQ m t).getD (i64 0)=i64 (n:Int))(aa:1≤n)(ab:n≤1000000000000000) I:yY aB 157 [.map (some b),GH p,AB t] I [(b,zZ GH l c),(A,zZ AB m k)]
 (fun e _ H'=>(n≠1∧e= .returned (.tuple #[])∧H'=[(b,zZ GH l c),(A,zZ AB (BF m t (i64 ((n-1:Nat):Int)) k) (EJ m t k))])∨(n=1∧(IW (BF m t (i64 ((n-1:Nat):Int)) k) t)≠[]∧e= .returned (.tuple #[])∧H'=[(b,zZ GH l c),(A,zZ AB (IW (BF m t (i64 ((n-1:Nat):Int)) k) t) (EJ m t k))])∨(n=1∧(IW (BF m t (i64 ((n-1:Nat):Int)) k) t)=[]∧e= .returned (.tuple #[])∧H'=[(b,zZ GH (IW l p) c),(A,zZ AB (IW (BF m t (i64 ((n-1:Nat):Int)) k) t) (EJ m t k))])):=by
 refine zN func157 fun w0 _=>?_;refine yU 3 ?_;intro _ _;refine yU 1 ?_;intro _ _;refine yU 3 ?_;refine aO [0,1,2] [] 9 kR ?_;refine yU 2 ?_;refine bH 2 rfl (BJ (kv:=GH) (l:=l) (a:=p) rfl rfl rfl rfl KJ QL OU (bD 2 rfl)) ?_;refine aS 8 (.map (some A)) rfl (by rw[G];rfl) ?_;refine yU 1 ?_;refine JA.all [4,6] kR sI ?_;intro i hi;simp only[vX,vG,or_false]at hi;rcases hi with rfl|rfl
 ·refine⟨_,rfl,rfl,?_⟩;refine CU (BJ (kv:=AB) (l:=m) (a:=t) rfl rfl rfl rfl JL FQ OT (yX.at 3 rfl)) ?_;refine yU 1 ?_;refine aS 10 (i64 (n:Int)) rfl hn ?_;refine yU 1 ?_;refine aS 11 (i64 ((n-1:Nat):Int)) rfl (zC i64 oM) ?_;refine qq2 6 rfl (QU (kv:=AB) (l:=m) (c:=k) (a:=t) 3 rfl rfl rfl rfl rfl rfl JL FQ OT rfl (aC (aC (aC aP))) ?_);refine yU 2 ?_;refine qq2 8 rfl (NS (kv:=AB) (l:=m) (a:=t) (c:=k) 3 rfl rfl rfl rfl rfl rfl a5 rfl (aC (aC (aC aP))) ?_);refine yU 5 ?_;refine aO [0,1,2,3] [] 6 kR ?_;refine yU 2 ?_;refine bH 2 rfl (BJ (kv:=GH) (l:=l) (a:=p) rfl rfl rfl rfl KJ QL OU (bD 2 rfl)) ?_;refine aS 16 (.map (some A)) rfl (by rw[G];rfl) ?_;refine yU 1 ?_;refine bH 4 rfl (BJ (kv:=AB) (l:=(BF m t (i64 ((n-1:Nat):Int)) k)) (a:=t) rfl rfl rfl rfl JL FQ OT (bD 3 rfl)) ?_;refine aS 18 (i64 ((n-1:Nat):Int)) rfl SE ?_;refine yZ ?_ ?_<;>intro a9 a6
  ·refine aO [0,1,2] [] 5 kR ?_;refine yU 2 ?_;refine bH 2 rfl (BJ (kv:=GH) (l:=l) (a:=p) rfl rfl rfl rfl KJ QL OU (bD 2 rfl)) ?_;refine aS 22 (.map (some A)) rfl (by rw[G];rfl) ?_;refine yU 1 ?_;refine qq2 4 rfl (XY (kv:=AB) (a:=t) 3 rfl rfl rfl rfl rfl JL FQ rfl (aC (aC (aC aP))) ?_);refine yU 7 ?_;refine aQ (BJ (kv:=GH) (l:=l) (a:=p) rfl rfl rfl rfl KJ QL OU (yX.at 2 rfl)) ?_;refine aY 26 (.map (some A)) rfl (by rw[G];rfl) ?_;refine aQ (WV (kv:=AB) (l:=(IW (BF m t (i64 ((n-1:Nat):Int)) k) t)) rfl rfl JL (yX.at 3 rfl)) ?_;refine yZ ?_ ?_<;>intro N a7
   ·have O:(IW (BF m t (i64 ((n-1:Nat):Int)) k) t)=[]:=wR.1 (by have h:=BP N;omega);refine yU 3 ?_;refine J.op rfl (XY (kv:=GH) (a:=p) 2 rfl rfl rfl rfl rfl KJ QL rfl (aC (aC aP)) ?_);refine yU 1 ?_;refine aH (aA (aA (aG (aG aT)))) ?_;refine aK rfl rfl ?_;exact .inr (.inr ⟨oM,O,rfl,rfl⟩)
   have Q:(IW (BF m t (i64 ((n-1:Nat):Int)) k) t)≠[]:=fun e=>by have h:=CB N;rw[e]at h;exact h rfl
   refine yU 1 ?_;refine aH (aA (aA (aG (aG aT)))) ?_;refine aK rfl rfl ?_;exact .inr (.inl ⟨oM,Q,rfl,rfl⟩)
  refine yU 6 ?_;refine aQ (BJ (kv:=GH) (l:=l) (a:=p) rfl rfl rfl rfl KJ QL OU (yX.at 2 rfl)) ?_;refine aY 26 (.map (some A)) rfl (by rw[G];rfl) ?_;refine aQ (WV (kv:=AB) (l:=(BF m t (i64 ((n-1:Nat):Int)) k)) rfl rfl JL (yX.at 3 rfl)) ?_;refine yZ ?_ ?_<;>intro Z a1
  ·exact absurd (show(BF m t (i64 ((n-1:Nat):Int)) k)=[] from wR.1 (by have h:=BP Z;omega)) (a2P _ _ _ _)
  refine yU 1 ?_;refine aH (aA (aA (aG (aG aT)))) ?_;refine aK rfl rfl ?_;exact .inl ⟨oM,rfl,rfl⟩
 refine⟨_,rfl,rfl,?_⟩;refine QU (kv:=AB) (l:=m) (c:=k) (a:=t) 3 rfl rfl rfl rfl rfl rfl JL FQ OT rfl (aC (aC (aC aP))) ?_;refine yU 2 ?_;refine qq2 4 rfl (CU (BJ (kv:=AB) (l:=(BF m t ((AQ m t).getD (.int .i64 0)) k)) (a:=t) rfl rfl rfl rfl JL FQ OT (yX.at 3 rfl)) ?_);refine yU 1 ?_;refine aS 10 (i64 (n:Int)) rfl (SE.trans hn) ?_;refine yU 1 ?_;refine aS 11 (i64 ((n-1:Nat):Int)) rfl (zC i64 oM) ?_;refine qq2 8 rfl (NS (kv:=AB) (l:=m) (a:=t) (c:=k) 3 rfl rfl rfl rfl rfl rfl a5 rfl (aC (aC (aC aP))) ?_);refine yU 5 ?_;refine aO [0,1,2,3] [] 6 kR ?_;refine yU 2 ?_;refine bH 2 rfl (BJ (kv:=GH) (l:=l) (a:=p) rfl rfl rfl rfl KJ QL OU (bD 2 rfl)) ?_;refine aS 16 (.map (some A)) rfl (by rw[G];rfl) ?_;refine yU 1 ?_;refine bH 4 rfl (BJ (kv:=AB) (l:=(BF m t (i64 ((n-1:Nat):Int)) k)) (a:=t) rfl rfl rfl rfl JL FQ OT (bD 3 rfl)) ?_;refine aS 18 (i64 ((n-1:Nat):Int)) rfl SE ?_;refine yZ ?_ ?_<;>intro a8 a2
 ·refine aO [0,1,2] [] 5 kR ?_;refine yU 2 ?_;refine bH 2 rfl (BJ (kv:=GH) (l:=l) (a:=p) rfl rfl rfl rfl KJ QL OU (bD 2 rfl)) ?_;refine aS 22 (.map (some A)) rfl (by rw[G];rfl) ?_;refine yU 1 ?_;refine qq2 4 rfl (XY (kv:=AB) (a:=t) 3 rfl rfl rfl rfl rfl JL FQ rfl (aC (aC (aC aP))) ?_);refine yU 7 ?_;refine aQ (BJ (kv:=GH) (l:=l) (a:=p) rfl rfl rfl rfl KJ QL OU (yX.at 2 rfl)) ?_;refine aY 26 (.map (some A)) rfl (by rw[G];rfl) ?_;refine aQ (WV (kv:=AB) (l:=(IW (BF m t (i64 ((n-1:Nat):Int)) k) t)) rfl rfl JL (yX.at 3 rfl)) ?_;refine yZ ?_ ?_<;>intro M a3
  ·have O:(IW (BF m t (i64 ((n-1:Nat):Int)) k) t)=[]:=wR.1 (by have h:=BP M;omega);refine yU 3 ?_;refine J.op rfl (XY (kv:=GH) (a:=p) 2 rfl rfl rfl rfl rfl KJ QL rfl (aC (aC aP)) ?_);refine yU 1 ?_;refine aH (aA (aA (aG (aG aT)))) ?_;refine aK rfl rfl ?_;exact .inr (.inr ⟨oM,O,rfl,rfl⟩)
  have Q:(IW (BF m t (i64 ((n-1:Nat):Int)) k) t)≠[]:=fun e=>by have h:=CB M;rw[e]at h;exact h rfl
  refine yU 1 ?_;refine aH (aA (aA (aG (aG aT)))) ?_;refine aK rfl rfl ?_;exact .inr (.inl ⟨oM,Q,rfl,rfl⟩)
 refine yU 6 ?_;refine aQ (BJ (kv:=GH) (l:=l) (a:=p) rfl rfl rfl rfl KJ QL OU (yX.at 2 rfl)) ?_;refine aY 26 (.map (some A)) rfl (by rw[G];rfl) ?_;refine aQ (WV (kv:=AB) (l:=(BF m t (i64 ((n-1:Nat):Int)) k)) rfl rfl JL (yX.at 3 rfl)) ?_;refine yZ ?_ ?_<;>intro a0 a4
 ·exact absurd (show(BF m t (i64 ((n-1:Nat):Int)) k)=[] from wR.1 (by have h:=BP a0;omega)) (a2P _ _ _ _)
 refine yU 1 ?_;refine aH (aA (aA (aG (aG aT)))) ?_;refine aK rfl rfl ?_;exact .inl ⟨oM,rfl,rfl⟩
theorem c7Z{n}(h:cv n=none):n=0:=by
 unfold cv at h
 split at h
 ·assumption
 cases h
theorem b5u{m k}(h:MS m k) t v (s:dG):AQ (IW (BF m t v k) t) s=if s == t then none else AQ m s:=by
 rw[a4U (h.set t v).1,MI]
 by_cases hs:(s == t)=true
 ·rw[zF hs,zF hs]
 rw[zD hs,zD hs,zD hs]
theorem b0X b l c N f p t (h:CS l c N f)(a0:1≤f p t)(hf:f p t≤1000000000000000) I:
 yY aB 157 [.map (some b),GH p,AB t] I (setH b l c N) (fun e _ H'=>∃l' c' N',e= .returned (.tuple #[])∧CS l' c' N' (bump f p t (· -1))∧H'=setH b l' c' N'):=by
 rcases h.find p with⟨a4,a1,hz⟩|⟨A,O,m,k,B,rfl,a1,G,a5,Q,hA,hB⟩
 ·rw[hz t]at a0;omega
 have hn:=c1n Q t;have h1:=(yY.perm (a1D b l c A B p O m k) ((c3d b l c p t O m k (f p t) a1 G hn a0 hf I).frame (XQ AB (A++B))));refine h1.leave fun e _ H' _ ⟨H1,hH,hq⟩=>?_;rcases hq with⟨h9,Z,M⟩|⟨h9,a2,Z,M⟩|⟨h9,a3,Z,M⟩
 ·refine⟨_,[],?_,l,c,A++(p,O,BF m t (i64 ((f p t-1:Nat):Int)) k,EJ m t k)::B,Z,h.set (d:=(· -1)) (G.set t _) (a2P _ _ _ _) (fun s=>?_),rfl⟩
  ·rw[yD,hH,M];exact(a1D b l c A B p O _ _).symm
  exact c3K Q t (f p t-1) oM k s
 ·refine⟨_,[],?_,l,c,A++(p,O,IW (BF m t (i64 ((f p t-1:Nat):Int)) k) t,EJ m t k)::B,Z,h.set (d:=(· -1)) ((G.set t _).del t) a2 (fun s=>?_),rfl⟩
  ·rw[yD,hH,M];exact(a1D b l c A B p O _ _).symm
  rw[b5u G];show _=if (s == t)=true then cv (f p t-1)else _;rw[h9];rfl
 refine⟨_,[(O,zZ AB (IW (BF m t (i64 ((f p t-1:Nat):Int)) k) t) (EJ m t k))],?_,IW l p,c,A++B,Z,h.drop (d:=(· -1)) (fun s hs=>?_) (by show f p t-1=0;omega),rfl⟩
 ·rw[hH,M];unfold setH;exact bV _ uQ
 have h2:=b5u G t (i64 ((f p t-1:Nat):Int)) s;rw[a3,zD (by simpa using hs),Q]at h2;exact c7Z h2.symm
end Go.Proofs.YtalapkjmkjmpjaaGreatDoor
end
section
namespace Go.Proofs.YtalapkjmkjmpjaaGreatDoor
open _root_.Go.Proofs.Tryz
open Go Go.Sx
abbrev TU (vb wb kb:Nat):List Value:=[.map (some vb),.map (some wb),.map (some kb)]
structure DT where
  t:Ix.Rec
  k:UInt8
  l:UInt8
  v:Value
  fs:List Ke.FN
def JG (e:DT):List Value:=[i64 e.t.1,i64 e.t.2,u8 e.k,u8 e.l,e.v]
theorem JQ e:(JG e).length=5:=rfl
theorem c8D G M A vb wb kb ek el ev l c N f p t (h:CS l c N f)(hf:f p t≤1000000000000000) I (O:I G=some (yV 82 [ptr A 0]))(Q:I M=some (yV 47 [i64 t.1,i64 t.2,u8 ek,u8 el,ev])):
 yY aB 97 [GH p,ptr G 0,ptr M 0] I ([(A,yV 142 (TU vb wb kb))]++setH wb l c N) (fun e _ H'=>∃l' Z N',e= .returned (.tuple #[])∧CS l' Z N' (bump f p t (· +1))∧H'=[(A,yV 142 (TU vb wb kb))]++setH wb l' Z N'):=by
 refine zN func97 fun w0 _=>?_;refine yU 3 ?_;intro _ _;refine yU 2 ?_;refine aO [0,1] [] 8 kR ?_;have a1:=O;have a2:=Q;refine RS [_,_] (c2c wb l c N f p t h hf _) ?_;intro _ _ _ _ a0;obtain⟨l1,c1,N1,h,hN,rfl⟩:=a0;cases h;refine yU 2 ?_;refine aH (aA (aG aU)) ?_;refine aK rfl rfl ?_;exact⟨l1,c1,N1,rfl,hN,rfl⟩
theorem c8j G M A vb wb kb ek el ev l c N f p t (h:CS l c N f)(hf:f p t≤1000000000000000) I (O:I G=some (yV 82 [ptr A 0]))(Q:I M=some (yV 47 [i64 t.1,i64 t.2,u8 ek,u8 el,ev])):
 yY aB 99 [GH p,ptr G 0,ptr M 0] I ([(A,yV 142 (TU vb wb kb))]++setH kb l c N) (fun e _ H'=>∃l' Z N',e= .returned (.tuple #[])∧CS l' Z N' (bump f p t (· +1))∧H'=[(A,yV 142 (TU vb wb kb))]++setH kb l' Z N'):=by
 refine zN func99 fun w0 _=>?_;refine yU 3 ?_;intro _ _;refine yU 2 ?_;refine aO [0,1] [] 8 kR ?_;have a1:=O;have a2:=Q;refine RS [_,_] (c2c kb l c N f p t h hf _) ?_;intro _ _ _ _ a0;obtain⟨l1,c1,N1,h,hN,rfl⟩:=a0;cases h;refine yU 2 ?_;refine aH (aA (aG aU)) ?_;refine aK rfl rfl ?_;exact⟨l1,c1,N1,rfl,hN,rfl⟩
theorem c4M G M A vb wb kb l c N f p t (h:CS l c N f)(O:1≤f p t)(hf:f p t≤1000000000000000) I (Q:I G=some (yV 82 [ptr A 0]))(Z:I M=some (yV 42 [i64 t.1,i64 t.2])):
 yY aB 156 [GH p,ptr G 0,ptr M 0] I ([(A,yV 142 (TU vb wb kb))]++setH wb l c N) (fun e _ H'=>∃l' c' N',e= .returned (.tuple #[])∧CS l' c' N' (bump f p t (· -1))∧H'=[(A,yV 142 (TU vb wb kb))]++setH wb l' c' N'):=by
 refine zN func156 fun w0 _=>?_;refine yU 3 ?_;intro _ _;refine yU 2 ?_;refine aO [0,1] [] 7 kR ?_;have a1:=Q;have a2:=Z;refine RS [_,_] (b0X wb l c N f p t h O hf _) ?_;intro _ _ _ _ a0;obtain⟨l1,c1,N1,h,hN,rfl⟩:=a0;cases h;refine yU 2 ?_;refine aH (aA (aG aU)) ?_;refine aK rfl rfl ?_;exact⟨l1,c1,N1,rfl,hN,rfl⟩
theorem c5k G M A vb wb kb l c N f p t (h:CS l c N f)(O:1≤f p t)(hf:f p t≤1000000000000000) I (Q:I G=some (yV 82 [ptr A 0]))(Z:I M=some (yV 42 [i64 t.1,i64 t.2])):
 yY aB 158 [GH p,ptr G 0,ptr M 0] I ([(A,yV 142 (TU vb wb kb))]++setH kb l c N) (fun e _ H'=>∃l' c' N',e= .returned (.tuple #[])∧CS l' c' N' (bump f p t (· -1))∧H'=[(A,yV 142 (TU vb wb kb))]++setH kb l' c' N'):=by
 refine zN func158 fun w0 _=>?_;refine yU 3 ?_;intro _ _;refine yU 2 ?_;refine aO [0,1] [] 7 kR ?_;have a1:=Q;have a2:=Z;refine RS [_,_] (b0X kb l c N f p t h O hf _) ?_;intro _ _ _ _ a0;obtain⟨l1,c1,N1,h,hN,rfl⟩:=a0;cases h;refine yU 2 ?_;refine aH (aA (aG aU)) ?_;refine aK rfl rfl ?_;exact⟨l1,c1,N1,rfl,hN,rfl⟩
structure EA where
  i:Nat
  J:Heap
  Y:HL
theorem b7O v wv gw gk G (N:Nat→HL→Prop)(Z:HL→Prop)(ae:v.ws.length≤1000000000000) I (O:IV 9 I v.ws wv) H0 (a7:N 0 H0)
 (hw:∀k w H J,v.ws[k]?=some w→Le I J→N k H→yY aB gw (GH (v.name,w)::G) J H (fun e _ H'=>e= .returned (.tuple #[])∧N (k+1) H'))
 (hk:∀H J,v.key≠[]→Le I J→N v.ws.length H→yY aB gk (GH (v.name,v.key)::G) J H (fun e _ H'=>e= .returned (.tuple #[])∧Z H'))(hz:v.key=[]→∀H,N v.ws.length H→Z H):
 yY aB 96 [.agg (vwC (v,wv)).toArray,.func (.func gw) #[] G.toArray,.func (.func gk) #[] G.toArray] I H0 (fun e _ H'=>e= .returned (.tuple #[])∧Z H'):=by
 obtain⟨wp,wc,rfl⟩:=KG O;refine zN func96 fun w0 _=>?_;refine yU 3 ?_;intro b1 _;refine yU 12 ?_;refine dH (ι:=EA) (fun y=>y.i≤v.ws.length∧Le I y.J∧N y.i y.Y) (fun y=>v.ws.length-y.i) (fun y=>[(1,.func (.func gw) #[] G.toArray),(2,.func (.func gk) #[] G.toArray),(3,ptr b1 0),(9,.slice wp v.ws.length wc),(10,i64 (v.ws.length:Int)),(11,i64 (y.i:Int))]) (fun y=>y.J) (fun y=>(b1,yV 192 [str v.name,str v.key,.slice wp v.ws.length wc])::y.Y) ⟨0,_,H0⟩ ⟨sQ _,Le.refl _,a7⟩ rT rfl rfl ?_;rintro⟨i,_,_⟩ ⟨hi,A,hY⟩;dsimp only at hi A hY ⊢;have a8:=O.mono A;refine yZ ?_ ?_<;>intro a9 a4
 ·have a3:i<v.ws.length:=oM;obtain⟨x,Q⟩:∃x,v.ws[i]?=some x:=⟨_,AA a3⟩;obtain⟨wb,_,_,aa,a0⟩:=a8.some (zK a3);cases aa;refine zW i ?_;refine aQ (DI DU (cZ a0) (EL Q)) ?_;refine aQ BI ?_;refine J.UM (aQ zS ?_);refine aQ (zY (off':=0) a6w BD) ?_;refine aQ (BX DU (yX.at 0 rfl)) ?_;refine aQ zS ?_;refine aQ (zL (pl:= #[(0,1),(1,1)]) rfl rfl a8Q rfl a6x (fun w=>by simp[BD]) (cO rfl rfl rfl lsA (cO rfl rfl rfl lsA GU.none))) ?_;refine RS [_] (hw i x _ _ Q A hY) ?_;intro _ _ H5 a1 ab;have A:=A.mono a1;have a0:=a1 _ _ a0;obtain⟨h,ac⟩:=ab;cases h;refine yU 7 ?_;refine bC ⟨i+1,_,H5⟩ ⟨dO,A,ac⟩ dO rT rfl rfl
 have ad:i=v.ws.length:=oM;subst ad;refine yZ ?_ ?_<;>intro a2 a5
 ·have M:v.key≠[]:=bne_iff_ne.1 a2;refine Cj.region (aQ zS ?_);refine aQ (zY (off':=0) a6w BD) ?_;refine aQ (BX DU (yX.at 0 rfl)) ?_;refine aQ (zY (off':=1) a6w BD) ?_;refine aQ (BX DU (yX.at 0 rfl)) ?_;refine aQ (zL (pl:= #[(0,1),(1,1)]) rfl rfl a8Q rfl a6x (fun w=>by simp[BD]) (cO rfl rfl rfl lsA (cO rfl rfl rfl lsA GU.none))) ?_;refine RS [_] (hk _ _ M A hY) ?_;intro _ _ _ _ a6;obtain⟨h,hZ⟩:=a6;cases h;refine yU 1 ?_;refine aH (aA aU) ?_;refine aK rfl rfl ?_;exact⟨rfl,hZ⟩
 have M:v.key=[]:=EC a2;refine yU 1 ?_;refine aH (aA aU) ?_;refine aK rfl rfl ?_;exact⟨rfl,hz M _ hY⟩
