/-
  Own texts on the laws of the seat, joined: the logic, and contracts of functions. Conditions: none.
-/
import Derived.Test.YtekmeaoblpfnpaaGreatDoorNmC
import Derived.Test.YtekmeaoblpfnpaaGreatDoorPC6
import Derived.Deep.Draws
import Derived.Shelf.SlLaysF0
import Derived.Ground.SlsfProg
import Derived.Shelf.GgSortFunc.InsertionK
import Derived.Shelf.SlSortCmp.WholeK
import Derived.Shelf.SlSortCmp.NoneTotal
set_option linter.all false
set_option maxRecDepth 100000
set_option maxHeartbeats 40000000
open Go.Proofs.Tryz renaming prog -> aA,func219 -> gG
open Ix renaming plW -> aB,UW -> aC,way -> aG,cnt -> aJ,KE -> aY,b4R -> bZ,vals -> dG,Rec -> dS,JL -> dV,KA -> eH
open Go.Sx.JA renaming tk -> aF,fix -> dH
open Go.Sx.HSub renaming c -> aH,n -> aW
open Go.Sx.J renaming z -> aI,op -> bM
open List renaming getElem?_eq_getElem -> aK,length_append -> aP,mem_singleton -> aQ,count_le_length -> aZ,length_map -> bD,getElem?_append_left -> bG,flatMap_cons -> bJ,size_toArray -> bK,length_cons -> bQ,take_length -> bT,append_nil -> bY,getElem?_append_right -> dA,getElem?_eq_some_iff -> dD,length_drop -> dI,length_take -> dJ,drop_length -> dK,length_eq_zero_iff -> dN,nil_append -> dP,one_le_count_iff -> dU,length_filter_le -> dW,mem_of_mem_drop -> eF,mem_of_mem_take -> eG,flatMap_append -> eY,map_nil -> fC,getElem?_map -> fJ,not_lt -> fK,not_mem_nil -> fM,mem_cons -> fU
open Go.Sx.yZ renaming EZ -> aN,GY -> bP
open Go.Sx.Le renaming refl -> aO,trans -> aS
open Go.Sx.Cj renaming AU -> aT,skip -> dR,persist -> eP,region -> fA,ret -> fF,seq -> fV
open Go.Lib renaming compareInt -> aU
open Array renaming getElem?_eq_none -> aV,getElem?_append_left -> dB,getElem?_modify -> dY,toArray_toList -> eX,ext_getElem? -> fE,extract_size -> fH
open Go.Sx.CSub renaming n -> aX
open Nat renaming zero_le -> bC,lt_or_ge -> dL,mul_le_mul_right -> dZ
open Option renaming map_some -> bF,map -> gJ
open Go.Sx.Keeps renaming d -> bH,r -> cO
open Go.Sort renaming ahead -> bI,grow -> fD
open Go.Sx.Ej renaming keep -> bU,GL -> bV,seq -> cZ,a0t -> dX,VZ -> fO,round -> fZ
open Go.Proofs.SlLaysF0 renaming n6 -> bW
open Go.Proofs.AnyF renaming slices_SortFunc_none -> dF
open Go.Sx.Enters renaming of -> dM
open Go.Sx renaming CJ -> dQ
open Go.Proofs.AnyQ renaming slices_SortFunc -> eU
open Go.Sx.AO renaming part -> fB
open Go.Shelf renaming Ren -> fG
open Go.Sx.Pure renaming of_same -> fP
open List.Perm renaming refl -> fQ
open Go.Sx.yX renaming z -> gB
open Go.World renaming cell? -> gI
namespace Go.Proofs.YtekmeaoblpfnpaaGreatDoor
open _root_.Go.Proofs.Tryz
open Go Go.Sx
abbrev ND (vb wb kb:Nat):List Value:=[.map (some vb),.map (some wb),.map (some kb)]
structure MJ where
  t:Ix.Rec
  k:UInt8
  l:UInt8
  v:Value
  fs:List Ke.GI
def FK (e:MJ):List Value:=[i64 e.t.1,i64 e.t.2,u8 e.k,u8 e.l,e.v]
theorem GR e:(FK e).length=5:=rfl
theorem b7Y xb eb ib vb wb kb ek el ev l c N f p t (h:BK l c N f)(hf:f p t≤1000000000000000) I (a1:I xb=some (zJ 26 [ptr ib 0]))(a2:I eb=some (zJ 59 [i64 t.1,i64 t.2,u8 ek,u8 el,ev])):
 yY aA 96 [EC p,ptr xb 0,ptr eb 0] I ([(ib,zJ 114 (ND vb wb kb))]++setH wb l c N) (fun e _ H'=>∃l' c' N',e= .returned (.tuple #[])∧BK l' c' N' (bump f p t (· +1))∧H'=[(ib,zJ 114 (ND vb wb kb))]++setH wb l' c' N'):=by
 refine yY.ob func96 ?_;intro w0 _;refine Cj.sr (bM rfl (IU rfl rfl rfl rfl rfl ?_));intro _ _;refine J.ns (aT [0,1] [] 8 kR ?_);have W:=a1;have Z:=a2;refine dH ⟨(aH 0 rfl (aH 1 rfl aW)),aX,(aO _)⟩ (fun O=>?_);refine aF 0 rfl O (DN isAgg26 (bP W)) ?_;refine aF 1 rfl O (DF rfl rfl) ?_;refine aF 2 rfl O (DJ (off':=1) YG VB) ?_;refine aF 3 rfl O (DN isAgg112 (aN 1 rfl)) ?_;refine aF 4 rfl O (AY rfl rfl isAgg152 sizeOf152 (aN 0 rfl) rfl rfl) ?_;refine aF 5 rfl O (DJ (off':=0) a7h FM) ?_;refine aF 6 rfl O (AY rfl rfl OH FM (bP Z) rfl rfl) ?_;refine zT 7 rfl (LM (H1:=setH _ _ _ _) [_,_] rfl rfl rfl rfl rfl rfl (b3u wb l c N f p t h hf _) ?_ (fun _ _ _ _ ⟨_,_,_,h,_⟩=>by cases h) (fun _ _ ⟨_,_,_,h,_⟩=>by cases h));intro _ _ _ a0 a3;obtain⟨l1,c1,N1,h,hN,rfl⟩:=a3;cases h;refine⟨⟨(aS (aO _) a0),(aH 0 rfl (aH 1 rfl aW)),aX⟩,?_⟩;refine JG ?_;refine bU (bH (Keeps.k cO)) ?_;refine bV rfl rfl ?_;exact⟨l1,c1,N1,rfl,hN,rfl⟩
theorem b8u xb eb ib vb wb kb ek el ev l c N f p t (h:BK l c N f)(hf:f p t≤1000000000000000) I (a1:I xb=some (zJ 26 [ptr ib 0]))(a2:I eb=some (zJ 59 [i64 t.1,i64 t.2,u8 ek,u8 el,ev])):
 yY aA 98 [EC p,ptr xb 0,ptr eb 0] I ([(ib,zJ 114 (ND vb wb kb))]++setH kb l c N) (fun e _ H'=>∃l' c' N',e= .returned (.tuple #[])∧BK l' c' N' (bump f p t (· +1))∧H'=[(ib,zJ 114 (ND vb wb kb))]++setH kb l' c' N'):=by
 refine yY.ob func98 ?_;intro w0 _;refine Cj.sr (bM rfl (IU rfl rfl rfl rfl rfl ?_));intro _ _;refine J.ns (aT [0,1] [] 8 kR ?_);have W:=a1;have Z:=a2;refine dH ⟨(aH 0 rfl (aH 1 rfl aW)),aX,(aO _)⟩ (fun O=>?_);refine aF 0 rfl O (DN isAgg26 (bP W)) ?_;refine aF 1 rfl O (DF rfl rfl) ?_;refine aF 2 rfl O (DJ (off':=2) YG VB) ?_;refine aF 3 rfl O (DN isAgg112 (aN 1 rfl)) ?_;refine aF 4 rfl O (AY rfl rfl isAgg152 sizeOf152 (aN 0 rfl) rfl rfl) ?_;refine aF 5 rfl O (DJ (off':=0) a7h FM) ?_;refine aF 6 rfl O (AY rfl rfl OH FM (bP Z) rfl rfl) ?_;refine zT 7 rfl (LM (H1:=setH _ _ _ _) [_,_] rfl rfl rfl rfl rfl rfl (b3u kb l c N f p t h hf _) ?_ (fun _ _ _ _ ⟨_,_,_,h,_⟩=>by cases h) (fun _ _ ⟨_,_,_,h,_⟩=>by cases h));intro _ _ _ a0 a3;obtain⟨l1,c1,N1,h,hN,rfl⟩:=a3;cases h;refine⟨⟨(aS (aO _) a0),(aH 0 rfl (aH 1 rfl aW)),aX⟩,?_⟩;refine JG ?_;refine bU (bH (Keeps.k cO)) ?_;refine bV rfl rfl ?_;exact⟨l1,c1,N1,rfl,hN,rfl⟩
theorem b7d xb eb ib vb wb kb l c N f p t (h:BK l c N f)(a1:1≤f p t)(hf:f p t≤1000000000000000) I (a2:I xb=some (zJ 26 [ptr ib 0]))(a3:I eb=some (zJ 54 [i64 t.1,i64 t.2])):
 yY aA 89 [EC p,ptr xb 0,ptr eb 0] I ([(ib,zJ 114 (ND vb wb kb))]++setH wb l c N) (fun e _ H'=>∃l' c' N',e= .returned (.tuple #[])∧BK l' c' N' (bump f p t (· -1))∧H'=[(ib,zJ 114 (ND vb wb kb))]++setH wb l' c' N'):=by
 refine yY.ob func89 ?_;intro w0 _;refine Cj.sr (bM rfl (IU rfl rfl rfl rfl rfl ?_));intro _ _;refine J.ns (aT [0,1] [] 7 kR ?_);have W:=a2;have Z:=a3;refine dH ⟨(aH 0 rfl (aH 1 rfl aW)),aX,(aO _)⟩ (fun O=>?_);refine aF 0 rfl O (DN isAgg26 (bP W)) ?_;refine aF 1 rfl O (DF rfl rfl) ?_;refine aF 2 rfl O (DJ (off':=1) YG VB) ?_;refine aF 3 rfl O (DN isAgg112 (aN 1 rfl)) ?_;refine aF 4 rfl O (AY rfl rfl isAgg152 sizeOf152 (aN 0 rfl) rfl rfl) ?_;refine aF 5 rfl O (AY rfl rfl OH FM (bP Z) rfl rfl) ?_;refine zT 6 rfl (LM (H1:=setH _ _ _ _) [_,_] rfl rfl rfl rfl rfl rfl (a5N wb l c N f p t h a1 hf _) ?_ (fun _ _ _ _ ⟨_,_,_,h,_⟩=>by cases h) (fun _ _ ⟨_,_,_,h,_⟩=>by cases h));intro _ _ _ a0 a4;obtain⟨l1,c1,N1,h,hN,rfl⟩:=a4;cases h;refine⟨⟨(aS (aO _) a0),(aH 0 rfl (aH 1 rfl aW)),aX⟩,?_⟩;refine JG ?_;refine bU (bH (Keeps.k cO)) ?_;refine bV rfl rfl ?_;exact⟨l1,c1,N1,rfl,hN,rfl⟩
theorem b5W xb eb ib vb wb kb l c N f p t (h:BK l c N f)(a1:1≤f p t)(hf:f p t≤1000000000000000) I (a2:I xb=some (zJ 26 [ptr ib 0]))(a3:I eb=some (zJ 54 [i64 t.1,i64 t.2])):
 yY aA 91 [EC p,ptr xb 0,ptr eb 0] I ([(ib,zJ 114 (ND vb wb kb))]++setH kb l c N) (fun e _ H'=>∃l' c' N',e= .returned (.tuple #[])∧BK l' c' N' (bump f p t (· -1))∧H'=[(ib,zJ 114 (ND vb wb kb))]++setH kb l' c' N'):=by
 refine yY.ob func91 ?_;intro w0 _;refine Cj.sr (bM rfl (IU rfl rfl rfl rfl rfl ?_));intro _ _;refine J.ns (aT [0,1] [] 7 kR ?_);have W:=a2;have Z:=a3;refine dH ⟨(aH 0 rfl (aH 1 rfl aW)),aX,(aO _)⟩ (fun O=>?_);refine aF 0 rfl O (DN isAgg26 (bP W)) ?_;refine aF 1 rfl O (DF rfl rfl) ?_;refine aF 2 rfl O (DJ (off':=2) YG VB) ?_;refine aF 3 rfl O (DN isAgg112 (aN 1 rfl)) ?_;refine aF 4 rfl O (AY rfl rfl isAgg152 sizeOf152 (aN 0 rfl) rfl rfl) ?_;refine aF 5 rfl O (AY rfl rfl OH FM (bP Z) rfl rfl) ?_;refine zT 6 rfl (LM (H1:=setH _ _ _ _) [_,_] rfl rfl rfl rfl rfl rfl (a5N kb l c N f p t h a1 hf _) ?_ (fun _ _ _ _ ⟨_,_,_,h,_⟩=>by cases h) (fun _ _ ⟨_,_,_,h,_⟩=>by cases h));intro _ _ _ a0 a4;obtain⟨l1,c1,N1,h,hN,rfl⟩:=a4;cases h;refine⟨⟨(aS (aO _) a0),(aH 0 rfl (aH 1 rfl aW)),aX⟩,?_⟩;refine JG ?_;refine bU (bH (Keeps.k cO)) ?_;refine bV rfl rfl ?_;exact⟨l1,c1,N1,rfl,hN,rfl⟩
structure EA where
  i:Nat
  J:Heap
  Y:HL
theorem b0P v wv gw gk cap (YW:Nat→HL→Prop)(Z:HL→Prop)(ag:v.ws.length≤1000000000000) I (a3:FN 9 I v.ws wv) H0 (ab:YW 0 H0)
 (hw:∀k w H J,v.ws[k]?=some w→Le I J→YW k H→yY aA gw (EC (v.name,w)::cap) J H (fun e _ H'=>e= .returned (.tuple #[])∧YW (k+1) H'))
 (hk:∀H J,v.key≠[]→Le I J→YW v.ws.length H→yY aA gk (EC (v.name,v.key)::cap) J H (fun e _ H'=>e= .returned (.tuple #[])∧Z H'))(hz:v.key=[]→∀H,YW v.ws.length H→Z H):
 yY aA 88 [.agg (WV (v,wv)).toArray,.func (.func gw) #[] cap.toArray,.func (.func gk) #[] cap.toArray] I H0 (fun e _ H'=>e= .returned (.tuple #[])∧Z H'):=by
 obtain⟨wp,wc,rfl⟩:=KJ a3;refine yY.ob func88 ?_;intro w0 _;refine Cj.sr (bM rfl (IU rfl rfl rfl rfl rfl ?_));intro b1 _;refine J.a0G (fA (aI (DJ (off':=2) XO YX) ?_));refine aI (DN a1E (yZ.at 0 rfl)) ?_;refine aI (LY rfl rfl FQ) ?_;refine aI BQ ?_;refine J.ns (Cj.block (Cj.loop (ι:=EA) (fun y=>y.i≤v.ws.length∧Le I y.J∧YW y.i y.Y) (fun y=>v.ws.length-y.i) (fun y=>[(1,.func (.func gw) #[] cap.toArray),(2,.func (.func gk) #[] cap.toArray),(3,ptr b1 0),(9,.slice wp v.ws.length wc),(10,i64 (v.ws.length:Int)),(11,i64 (y.i:Int))]) (fun y=>y.J) (fun y=>(b1,zJ 142 [str v.name,str v.key,.slice wp v.ws.length wc])::y.Y) ⟨0,_,H0⟩ ⟨bC _,aO _,ab⟩ rT rfl rfl ?_));rintro⟨i,_,HY⟩ ⟨hi,N,hY⟩;dsimp only at hi N hY ⊢;have O:=a3.mono N;refine Cj.sr (aI (ZK rfl rfl rfl) ?_);refine J.nss (Cj.cond rfl (fun a4=>?_) (fun a4=>?_))
 ·have a8:=EX a4;have a7:i<v.ws.length:=oM;obtain⟨x,a5⟩:∃x,v.ws[i]?=some x:=⟨_,CO a7⟩;obtain⟨wb,_,_,ac,a6⟩:=O.some (BF a7);cases ac;refine dR (cZ (fV (Cj.block (Cj.sr (aI (zX (off':=i) rfl rfl rfl FQ EI oM oM sI) ?_)))));refine aI (zU rfl rfl JK (yZ.BR a6) (KQ a5)) ?_;refine aI GH ?_;refine J.nsr (aI BQ ?_);refine aI (DJ (off':=0) XO EI) ?_;refine aI (DN JK (yZ.at 0 rfl)) ?_;refine aI BQ ?_;refine aI (AQ (pl:= #[(0,1),(1,1)]) rfl rfl a4f rfl a2m (fun w=>by simp[EI]) (fB rfl rfl rfl lsA (fB rfl rfl rfl lsA AO.none))) ?_;refine bM rfl (LM (H1:=HY) [_] rfl rfl rfl rfl rfl rfl (hw i x _ _ a5 N hY) ?_ (fun _ _ _ _ h=>by cases h.1) (fun _ _ h=>by cases h.1));intro _ _ H5 a0 ad;have N:=N.mono a0;have O:=O.mono a0;have a6:=a0 _ _ a6;obtain⟨h,ae⟩:=ad;cases h;refine J.nil (Ej.QD (cZ (fA (aI (OT rfl rfl rfl (MQ oM)) ?_))));refine aI BQ ?_;refine J.nil (fZ ⟨i+1,_,H5⟩ ⟨dO,N,ae⟩ dO rT rfl rfl)
 have a8:=JE a4;have af:i=v.ws.length:=oM;subst af;refine Cj.exit (fO (Ej.SB (Ej.SA (cZ (Cj.sr (aI (DJ (off':=1) XO EI) ?_))))));refine aI (DN JK (yZ.at 0 rfl)) ?_;refine aI (a2a rfl rfl rfl) ?_;refine J.cd (fun W=>?_) (fun W=>?_)
 ·have a9:=bne_iff_ne.1 W;have a1:v.key≠[]:=bne_iff_ne.1 W;refine fA (aI BQ ?_);refine aI (DJ (off':=0) XO EI) ?_;refine aI (DN JK (yZ.at 0 rfl)) ?_;refine aI (DJ (off':=1) XO EI) ?_;refine aI (DN JK (yZ.at 0 rfl)) ?_;refine aI (AQ (pl:= #[(0,1),(1,1)]) rfl rfl a4f rfl a2m (fun w=>by simp[EI]) (fB rfl rfl rfl lsA (fB rfl rfl rfl lsA AO.none))) ?_;refine bM rfl (LM (H1:=HY) [_] rfl rfl rfl rfl rfl rfl (hk _ _ a1 N hY) ?_ (fun _ _ _ _ h=>by cases h.1) (fun _ _ h=>by cases h.1));intro _ _ _ a2 aa;have N:=N.mono a2;have O:=O.mono a2;obtain⟨h,hZ⟩:=aa;cases h;refine J.nil (bU (bH cO) ?_);refine bV rfl rfl ?_;exact⟨rfl,hZ⟩
 have a9:=TU W;have a1:v.key=[]:=TU W;refine dR (bU (bH cO) ?_);refine bV rfl rfl ?_;exact⟨rfl,hz a1 _ hY⟩
end Go.Proofs.YtekmeaoblpfnpaaGreatDoor
namespace Go.Proofs.YtekmeaoblpfnpaaGreatDoor
open Go Go.Sx
theorem a8s f t xs q:bump (aG f t fun p=>xs.count p) q t (· +1)=aG f t fun p=>(xs++[q]).count p:=by
 funext p u
 unfold bump aG
 by_cases hu:u=t
 ·subst hu
  by_cases hp:p=q
  ·subst hp;simp
  have h1:(p == q)=false:=by simpa using hp
  have h2:List.count p [q]=0:=List.count_eq_zero.2 (by simpa using hp);simp[h1,List.count_append,h2]
 have h1:(u == t)=false:=by simpa using hu
 simp[h1,hu]
theorem a7n f t ys q:bump (aG f t fun p=>(q::ys).count p) q t (· -1)=aG f t fun p=>ys.count p:=by
 funext p u
 unfold bump aG
 by_cases hu:u=t
 ·subst hu
  by_cases hp:p=q
  ·subst hp;simp
  have h1:(p == q)=false:=by simpa using hp
  have h2:(q == p)=false:=by simpa using Ne.symm hp
  simp[h1,List.count_cons,h2]
 have h1:(u == t)=false:=by simpa using hu
 simp[h1,hu]
theorem ZU f t n p:aG f t n p t=n p:=zF rfl
def GZ (vs:List Ix.V):Prop:=vs.length≤10000000∧∀v∈vs,v.ws.length≤10000000
theorem b0w:∀(vs:List Ix.V),(∀v∈vs,v.ws.length≤10000000)→(aB vs).length≤vs.length*10000000
 |[],_=>by simp[aB]
 |v::r,h=>by
  have h1:=b0w r fun x N=>h x (.tail _ N);have h2:=h v (.head _);unfold aB at h1 ⊢;rw[bJ,aP,bD,bQ,Nat.add_mul];omega
theorem b0E:∀(vs:List Ix.V),(aC vs).length≤vs.length
 |[]=>by simp[aC]
 |v::r=>by
  have h1:=b0E r;unfold aC at h1 ⊢;rw[bJ,aP,bQ]
  by_cases hk:v.key=[]
  ·rw[zF hk,List.length_nil];omega
  rw[zD hk,List.length_singleton];omega
theorem GZ.w{vs}(h:GZ vs):(aB vs).length≤100000000000000:=IQ (b0w vs h.2) (dZ _ h.1)
theorem GZ.k{vs}(h:GZ vs):(aC vs).length≤10000000:=IQ (b0E vs) h.1
theorem b3b{fs}(h:UU fs):GZ (dG fs):=by
 have h1:=a5m fs h fs.length;rw[bT]at h1;refine⟨IQ h1 (IQ (dZ _ h.1) dE),fun v N=>?_⟩;unfold dG at N;obtain⟨f,W,N⟩:=List.mem_flatMap.1 N;obtain⟨_,_,_⟩:=h.2 f W;have O:v.ws.length≤v.text.length+1:=(Ke.JU v.text).1;unfold Ix.a6L at N;rcases List.mem_append.1 N with g|g
 ·obtain⟨s,Z,rfl⟩:=List.mem_map.1 g;have:=a0b Z;dsimp only at O;omega
 split at g
 ·rw[aQ]at g;subst g;have:=YH f [];rw[YB]at this;dsimp only at O;omega
 cases g
structure Ist where
  vb:Nat
  wb:Nat
  kb:Nat
  lv:ML Ix.Rec
  cv:Nat
  lw:ML Ix.Pl
  cw:Nat
  Nw:NM Ix.Pl Ix.Rec
  lk:ML Ix.Pl
  ck:Nat
  Nk:NM Ix.Pl Ix.Rec
def a1O (ib:Nat) (s:Ist):HL:=(s.vb,zQ zS s.lv s.cv)::(ib,zJ 114 (ND s.vb s.wb s.kb))::(setH s.wb s.lw s.cw s.Nw++setH s.kb s.lk s.ck s.Nk)
def QW (I:Heap) (lv:ML dS) (L:Ix.Ix):Prop:=∀t,(aY L t=none→zV lv t=none)∧∀vs,aY L t=some vs→∃w,zV lv t=some w∧OX I vs w
theorem QW.mono{I N lv L}(h:QW I lv L)(O:Le I N):QW N lv L:=fun t=>⟨(h t).1,fun vs W=>let ⟨w,h1,h2⟩:=(h t).2 vs W;⟨w,h1,h2.mono O⟩⟩
theorem OX.nil I:OX I [] (.slice none 0 0):=⟨[],MR.nil,rfl,fun _ h=>by cases h⟩
theorem QW.at{I lv L}(h:QW I lv L) t:∃w,(zV lv t).getD (.slice none 0 0)=w∧OX I ((aY L t).getD []) w:=by
 cases hg:aY L t with
 |none=>rw[(h t).1 hg];exact⟨_,rfl,OX.nil I⟩
 |some vs=>
  obtain⟨w,h1,h2⟩:=(h t).2 vs hg;rw[h1];exact⟨w,rfl,h2⟩
structure ES (I:Heap) (s:Ist) (L:Ix.Ix):Prop where
  FD:Ix.AL L
  big:L.length≤100000
  vok:∀e∈L,GZ e.2
  vms:MS s.lv s.cv
  vals:QW I s.lv L
  nw:BK s.lw s.cw s.Nw (Ix.cnt Ix.plW L)
  nk:BK s.lk s.ck s.Nk (Ix.cnt Ix.UW L)
theorem ES.mono{I N s L}(h:ES I s L)(O:Le I N):ES N s L:=⟨h.FD,h.big,h.vok,h.vms,h.vals.mono O,h.nw,h.nk⟩
theorem b0I pl (h0:pl []=[]) L t:aJ pl L=aG (aJ pl L) t fun p=>(pl ((aY L t).getD [])).count p:=by
 cases hg:aY L t with
 |none=>
  rw[Option.getD_none,h0];exact Ix.b5s hg
 |some vs=>exact Ix.b6F hg
theorem a8I{L}(N:Ix.AL L)(h:∀e∈L,GZ e.2) t:GZ ((aY L t).getD []):=by
 cases hg:aY L t with
 |none=>exact⟨bC _,fun _ h=>by cases h⟩
 |some vs=>exact h _ ((Ix.FT N).1 hg)
def YS (ib vb wb kb:Nat) (fw fk:Ix.Pl→dS→Nat) (Y:HL):Prop:=∃lw cw Nw lk ck Nk,BK lw cw Nw fw∧BK lk ck Nk fk∧Y=(ib,zJ 114 (ND vb wb kb))::(setH wb lw cw Nw++setH kb lk ck Nk)
theorem YS.word{O vb wb kb fw fk a0 g args J H}(hY:YS O vb wb kb fw fk H)
 (h:∀l c N,BK l c N fw→yY aA g args J ([(O,zJ 114 (ND vb wb kb))]++setH wb l c N) (fun e _ H'=>∃W Z N',e= .returned (.tuple #[])∧BK W Z N' a0∧H'=[(O,zJ 114 (ND vb wb kb))]++setH wb W Z N')):
 yY aA g args J H (fun e _ H'=>e= .returned (.tuple #[])∧YS O vb wb kb a0 fk H'):=by
 obtain⟨lw,cw,Nw,lk,ck,Nk,h1,h2,rfl⟩:=hY;refine((h lw cw Nw h1).frame (setH kb lk ck Nk)).mono fun e _ H' _ ⟨H1,hH,W,Z,N',he,hN,a1⟩=>⟨he,W,Z,N',lk,ck,Nk,hN,h2,?_⟩;rw[hH,a1];rfl
theorem YS.key{O vb wb kb fw fk a0 g args J H}(hY:YS O vb wb kb fw fk H)
 (h:∀l c N,BK l c N fk→yY aA g args J ([(O,zJ 114 (ND vb wb kb))]++setH kb l c N) (fun e _ H'=>∃W Z N',e= .returned (.tuple #[])∧BK W Z N' a0∧H'=[(O,zJ 114 (ND vb wb kb))]++setH kb W Z N')):
 yY aA g args J H (fun e _ H'=>e= .returned (.tuple #[])∧YS O vb wb kb fw a0 H'):=by
 obtain⟨lw,cw,Nw,lk,ck,Nk,h1,h2,rfl⟩:=hY;have hp:∀X,(((O,zJ 114 (ND vb wb kb))::(X++setH wb lw cw Nw):HL)).Perm ((O,zJ 114 (ND vb wb kb))::(setH wb lw cw Nw++X)):=fun X=>List.Perm.cons _ List.perm_append_comm;refine(yY.perm (hp (setH kb lk ck Nk)) ((h lk ck Nk h2).frame (setH wb lw cw Nw))).leave fun e _ H' _ ⟨H1,hH,W,Z,N',he,hN,a1⟩=>⟨_,[],?_,he,lw,cw,Nw,W,Z,N',h1,hN,rfl⟩;rw[bY,hH,a1];exact(hp _).symm
theorem a5s{α:Type}{l:List α}{k x}(h:l[k]?=some x):l.drop k=x::l.drop (k+1):=by
 obtain⟨_,N⟩:=dD.1 h;rw[←N,List.getElem_cons_drop]
theorem a7I v r:aB (v::r)=v.ws.map (fun w=>(v.name,w))++aB r:=by unfold aB;rw[bJ]
theorem a3F v r:aC (v::r)=(if v.key=[]then[]else[(v.name,v.key)])++aC r:=by unfold aC;rw[bJ]
theorem a4O xs v:aB (xs++[v])=aB xs++v.ws.map fun w=>(v.name,w):=by unfold aB;rw[eY];simp
theorem b0M xs v:aC (xs++[v])=aC xs++if v.key=[]then[]else[(v.name,v.key)]:=by unfold aC;rw[eY];simp
theorem a7w{vs}(h:GZ vs) i:(aB (vs.drop i)).length≤100000000000000:=
 GZ.w ⟨by rw[dI];have:=h.1;omega,fun v N=>h.2 v (eF N)⟩
theorem a8u{vs}(h:GZ vs) i:(aC (vs.drop i)).length≤10000000:=
 GZ.k ⟨by rw[dI];have:=h.1;omega,fun v N=>h.2 v (eF N)⟩
theorem a7c{vs}(h:GZ vs) i:(aB (vs.take i)).length≤100000000000000:=
 GZ.w ⟨by rw[dJ];have:=h.1;omega,fun v N=>h.2 v (eG N)⟩
theorem a7f{vs}(h:GZ vs) i:(aC (vs.take i)).length≤10000000:=
 GZ.k ⟨by rw[dJ];have:=h.1;omega,fun v N=>h.2 v (eG N)⟩
def YD (ib vb wb kb:Nat) (L:Ix.Ix) (t:dS) (vs:List Ix.V) (i:Nat):HL→Prop:=YS ib vb wb kb (aG (aJ aB L) t fun p=>(aB (vs.drop i)).count p) (aG (aJ aC L) t fun p=>(aC (vs.drop i)).count p)
theorem b3M xb eb W vb wb kb L t vs (hv:GZ vs) i v wv (a0:vs[i]?=some v) I (a6:FN 9 I v.ws wv)(a1:I xb=some (zJ 26 [ptr W 0]))(a2:I eb=some (zJ 54 [i64 t.1,i64 t.2])) Y (hY:YD W vb wb kb L t vs i Y):
 yY aA 88 [.agg (WV (v,wv)).toArray,.func (.func 89) #[] [ptr xb 0,ptr eb 0].toArray,.func (.func 91) #[] [ptr xb 0,ptr eb 0].toArray] I Y (fun e _ H'=>e= .returned (.tuple #[])∧YD W vb wb kb L t vs (i+1) H'):=by
 have hd:=a5s a0;have a8:=hv.2 v (CG a0);have a9:=a7w hv i;have a3:=a8u hv i;refine b0P v wv _ _ [ptr xb 0,ptr eb 0] (fun k=>YS W vb wb kb (aG (aJ aB L) t fun p=>((v.ws.drop k).map (fun w=>(v.name,w))++aB (vs.drop (i+1))).count p) (aG (aJ aC L) t fun p=>(aC (vs.drop i)).count p)) (YD W vb wb kb L t vs (i+1)) oM I a6 Y ?_ ?_ ?_ ?_
 ·unfold YD at hY;rw[hd,a7I]at hY;rw[hd];exact hY
 ·intro k w H J hk Z O;refine O.word fun l c N hN=>?_;have a4:(v.ws.drop k).map (fun w=>(v.name,w))++aB (vs.drop (i+1))=(v.name,w)::((v.ws.drop (k+1)).map (fun w=>(v.name,w))++aB (vs.drop (i+1))):=by rw[a5s hk];rfl
  rw[a4]at hN;have hb:=a7n (aJ aB L) t ((v.ws.drop (k+1)).map (fun w=>(v.name,w))++aB (vs.drop (i+1))) (v.name,w);rw[←hb];refine b7d xb eb W vb wb kb l c N _ (v.name,w) t hN ?_ ?_ J (Z _ _ a1) (Z _ _ a2)
  ·rw[ZU];exact dU.2 (.head _)
  rw[ZU];refine IQ aZ ?_;have h9:((v.name,w)::((v.ws.drop (k+1)).map (fun w=>(v.name,w))++aB (vs.drop (i+1)))).length≤(aB (vs.drop i)).length:=by
   rw[hd,a7I,←a4,aP,aP,bD,bD,dI];omega
  omega
 ·intro H J a5 Z O;have a7:YS W vb wb kb (aG (aJ aB L) t fun p=>(aB (vs.drop (i+1))).count p) (aG (aJ aC L) t fun p=>((v.name,v.key)::aC (vs.drop (i+1))).count p) H:=by
   rw[dK,fC,dP,hd,a3F,zD a5]at O;exact O
  unfold YD;refine a7.key fun l c N hN=>?_;rw[←a7n (aJ aC L) t (aC (vs.drop (i+1))) (v.name,v.key)];refine b5W xb eb W vb wb kb l c N _ (v.name,v.key) t hN ?_ ?_ J (Z _ _ a1) (Z _ _ a2)
  ·rw[ZU];exact dU.2 (.head _)
  rw[ZU];refine IQ aZ ?_;rw[hd,a3F,zD a5]at a3;have:((v.name,v.key)::aC (vs.drop (i+1))).length≤10000000:=a3;omega
 intro he H O;rw[dK,fC,dP,hd,a3F,zF he,dP]at O;exact O
def YP (ib vb wb kb:Nat) (L:Ix.Ix) (t:dS) (vs:List Ix.V) (i:Nat):HL→Prop:=YS ib vb wb kb (aG (aJ aB L) t fun p=>(aB (vs.take i)).count p) (aG (aJ aC L) t fun p=>(aC (vs.take i)).count p)
theorem take_one{α:Type}{l:List α}{k x}(h:l[k]?=some x):l.take (k+1)=l.take k++[x]:=by
 obtain⟨N,O⟩:=dD.1 h;rw[List.take_succ_eq_append_getElem N,O]
theorem a8M xb eb W vb wb kb ek el ev L t vs (hv:GZ vs) i v wv (a0:vs[i]?=some v) I (a3:FN 9 I v.ws wv)(a1:I xb=some (zJ 26 [ptr W 0]))(a2:I eb=some (zJ 59 [i64 t.1,i64 t.2,u8 ek,u8 el,ev])) Y (hY:YP W vb wb kb L t vs i Y):
 yY aA 88 [.agg (WV (v,wv)).toArray,.func (.func 96) #[] [ptr xb 0,ptr eb 0].toArray,.func (.func 98) #[] [ptr xb 0,ptr eb 0].toArray] I Y (fun e _ H'=>e= .returned (.tuple #[])∧YP W vb wb kb L t vs (i+1) H'):=by
 have hd:=take_one a0;have a8:=hv.2 v (CG a0);have a9:=a7c hv (i+1);have a4:=a7f hv (i+1);refine b0P v wv _ _ [ptr xb 0,ptr eb 0] (fun k=>YS W vb wb kb (aG (aJ aB L) t fun p=>(aB (vs.take i)++(v.ws.take k).map (fun w=>(v.name,w))).count p) (aG (aJ aC L) t fun p=>(aC (vs.take i)).count p)) (YP W vb wb kb L t vs (i+1)) oM I a3 Y ?_ ?_ ?_ ?_
 ·unfold YP at hY;rw[List.take_zero,fC,bY];exact hY
 ·intro k w H J hk Z O;refine O.word fun l c N hN=>?_;have a5:aB (vs.take i)++(v.ws.take (k+1)).map (fun w=>(v.name,w))=(aB (vs.take i)++(v.ws.take k).map (fun w=>(v.name,w)))++[(v.name,w)]:=by rw[take_one hk,List.map_append,List.append_assoc];rfl
  rw[a5,←a8s (aJ aB L) t (aB (vs.take i)++(v.ws.take k).map (fun w=>(v.name,w))) (v.name,w)];refine b7Y xb eb W vb wb kb ek el ev l c N _ (v.name,w) t hN ?_ J (Z _ _ a1) (Z _ _ a2);rw[ZU];refine IQ aZ ?_;have h9:(aB (vs.take i)++(v.ws.take k).map (fun w=>(v.name,w))).length≤(aB (vs.take (i+1))).length:=by
   rw[hd,a4O,aP,aP,bD,bD,dJ];omega
  omega
 ·intro H J a6 Z O;have a7:YS W vb wb kb (aG (aJ aB L) t fun p=>(aB (vs.take (i+1))).count p) (aG (aJ aC L) t fun p=>(aC (vs.take i)).count p) H:=by
   rw[bT,←a4O,←hd]at O;exact O
  unfold YP;refine a7.key fun l c N hN=>?_;have e1:aC (vs.take (i+1))=aC (vs.take i)++[(v.name,v.key)]:=by rw[hd,b0M,zD a6]
  rw[e1,←a8s (aJ aC L) t (aC (vs.take i)) (v.name,v.key)];refine b8u xb eb W vb wb kb ek el ev l c N _ (v.name,v.key) t hN ?_ J (Z _ _ a1) (Z _ _ a2);rw[ZU];refine IQ aZ ?_;rw[e1,aP]at a4;omega
 intro he H O;unfold YP;rw[bT,←a4O,←hd]at O;have e1:aC (vs.take (i+1))=aC (vs.take i):=by rw[hd,b0M,zF he,bY]
 rw[e1];exact O
structure DA where
  i:Nat
  J:Heap
  Y:HL
theorem a0F t v:∀L:Ix.Ix,(dV t v L).length≤L.length+1
 |[]=>by simp[dV]
 |(u,x)::r=>by
  unfold dV
  split
  ·have:=a0F t v r;rw[bQ,bQ];omega
  split
  ·simp
  simp
theorem ES.drop{I I' vb wb kb lv cv lw cw Nw lk ck Nk L}(h:ES I ⟨vb,wb,kb,lv,cv,lw,cw,Nw,lk,ck,Nk⟩ L)(a4:Le I I') t {W Z a0 a1 a2 a3}
 (hw:BK W Z a0 (aG (aJ aB L) t fun p=>(aB []).count p))(hk:BK a1 a2 a3 (aG (aJ aC L) t fun p=>(aC []).count p)):ES I' ⟨vb,wb,kb,EM lv t,cv,W,Z,a0,a1,a2,a3⟩ (eH t L):=by
 refine⟨Ix.XZ t h.FD,IQ (dW _ _) h.big,fun e he=>h.vok e ((Ix.PZ t L e).1 he).1,h.vms.del t,fun u=>⟨fun N=>?_,fun vs N=>?_⟩,?_,?_⟩
 ·show zV (EM lv t) u=none;rw[a1n h.vms.1]
  split
  ·rfl
  rename_i O
  rw[Ix.a0H h.FD,zD (by simpa using O)]at N;exact(h.vals u).1 N
 ·rw[Ix.a0H h.FD]at N
  split at N
  ·cases N
  rename_i O
  obtain⟨w,h1,h2⟩:=(h.vals u).2 vs N;refine⟨w,?_,h2.mono a4⟩;show zV (EM lv t) u=some w;rw[a1n h.vms.1,zD (by simpa using O)];exact h1
 ·rw[bZ h.FD];exact hw
 rw[bZ h.FD];exact hk
theorem ES.put{I vb wb kb lv cv lw cw Nw lk ck Nk L}(h:ES I ⟨vb,wb,kb,lv,cv,lw,cw,Nw,lk,ck,Nk⟩ L){t}(hL:L.length<100000){vs}(hv:GZ vs){w}(a4:OX I vs w){W Z a0 a1 a2 a3}
 (hw:BK W Z a0 (aG (aJ aB L) t fun p=>(aB vs).count p))(hk:BK a1 a2 a3 (aG (aJ aC L) t fun p=>(aC vs).count p)):ES I ⟨vb,wb,kb,AP lv t w cv,DC lv t cv,W,Z,a0,a1,a2,a3⟩ (dV t vs L):=by
 refine⟨Ix.SG t vs h.FD,?_,fun e he=>?_,h.vms.set t w,fun u=>⟨fun N=>?_,fun us N=>?_⟩,?_,?_⟩
 ·have:=a0F t vs L;omega
 ·rcases(Ix.MO t vs h.FD e).1 he with g|g
  ·rw[g];exact hv
  exact h.vok e g.1
 ·show zV (AP lv t w cv) u=none;rw[Ix.a1Z h.FD]at N;rw[MW]
  split at N
  ·cases N
  rename_i O
  rw[zD (by simpa using O)];exact(h.vals u).1 N
 ·show ∃w',zV (AP lv t w cv) u=some w'∧_;rw[Ix.a1Z h.FD]at N;rw[MW]
  split at N
  ·rename_i he
   cases N;exact⟨w,by rw[zF (by simpa using he)],a4⟩
  rename_i O
  rw[zD (by simpa using O)];exact(h.vals u).2 us N
 ·rw[Ix.a7r h.FD];exact hw
 rw[Ix.a7r h.FD];exact hk
theorem b9f I vb wb kb:ES I ⟨vb,wb,kb,[],0,[],0,[],[],0,[]⟩ []:=
 ⟨List.Pairwise.nil,bC _,fun _ h=>(by cases h),MS.nil,fun _=>⟨fun _=>rfl,fun _ h=>by cases h⟩,BK.nil,BK.nil⟩
end Go.Proofs.YtekmeaoblpfnpaaGreatDoor
section
namespace Go.Proofs.YtekmeaoblpfnpaaGreatDoor
open _root_.Go.Proofs.Tryz
open Go Go.Sx
theorem a6n ib s0 L t I (ab:ES I s0 L):yY aA 43 [ptr ib 0,zS t] I (a1O ib s0)
 (fun e I' H'=>∃s',e= .returned (.tuple #[])∧ES I' s' (eH t L)∧H'=a1O ib s'):=by
 obtain⟨vb,wb,kb,lv,cv,lw,cw,Nw,lk,ck,Nk⟩:=s0;unfold a1O;dsimp only;have O:=ab;refine zO func43 fun w0 _=>?_;refine yU 3 ?_;intro b1 af;refine yU 1 ?_;intro b2 ag;refine yU 4 ?_;refine Cj.pull (Pull.s Pull.z) ?_;refine eP af (fun _ ac W=>?_);have O:=O.mono ac;refine eP ag (fun I6 a4 a1=>?_);have O:=O.mono a4;have W:=a4 _ _ W;refine yU 10 ?_;have ah:=O.vals;obtain⟨_,ai,aj⟩:=ah.at t;obtain⟨xs,a0,hX⟩:=aj;obtain⟨vp,vc,rfl,_,-⟩:=id a0;have a5:=a8I O.FD O.vok t;have b0:=hX.len;have hvl:=a5.1;have al:YD ib vb wb kb L t ((aY L t).getD []) 0 ((ib,zJ 114 (ND vb wb kb))::(setH wb lw cw Nw++setH kb lk ck Nk)):=⟨lw,cw,Nw,lk,ck,Nk,(by have h:=O.nw;rw[b0I aB rfl L t]at h;exact h),(by have h:=O.nk;rw[b0I aC rfl L t]at h;exact h),rfl⟩;refine aT [0,1] [] 8 kR ?_;refine yU 5 ?_;refine JA.zt 5 rfl (AX (kv:=zS) (l:=lv) (a:=t) rfl rfl rfl rfl OB DX VJ (aN 0 rfl)) ?_;refine JA.ev 13 (.slice vp xs.length vc) rfl ai ?_;refine yU 5 ?_;refine Cj.loop (ι:=DA) (fun y=>y.i≤xs.length∧Le I6 y.J∧YD ib vb wb kb L t ((aY L t).getD []) y.i y.Y) (fun y=>xs.length-y.i) (fun y=>[(2,ptr b1 0),(3,ptr b2 0),(13,.slice vp xs.length vc),(14,i64 (xs.length:Int)),(15,i64 (y.i:Int))]) (fun y=>y.J) (fun y=>(vb,zQ zS lv cv)::y.Y) ⟨0,_,(ib,zJ 114 (ND vb wb kb))::(setH _ _ _ _++setH _ _ _ _)⟩ ⟨bC _,aO _,al⟩ rT rfl rfl ?_;rintro⟨i,_,_⟩ ⟨hi,Z,hY⟩;dsimp only at hi Z hY ⊢;have a0:=a0.mono Z;have hX:=hX.mono Z;have W:=Z _ _ W;have a1:=Z _ _ a1;refine AB ?_ ?_<;>intro am ad
 ·have a7:i<xs.length:=oM;obtain⟨x,a2⟩:∃x,xs[i]?=some x:=⟨_,CO a7⟩;obtain⟨_,_,an,-,ao⟩:=id a0;cases an;obtain⟨_,_,rfl,a6⟩:=ao (BF a7);have a3:=hX.2 x (CG a2);have a8:=(zC (fun l=>l[i]?) hX.1).symm.trans ((fJ).trans (zC (gJ (·.1)) a2));dsimp only[bF]at a8;refine AZ (0+i*3) ?_;refine aI (qq2 isAgg142 QU (yZ.BR a6) (CV VY (o:=0) rfl a2)) ?_;refine yU 1 ?_;intro _ _;refine bM rfl (BP 0 rfl rfl rfl rfl rfl (a1t a3 rfl rfl) QU rfl rfl lsA gB ?_);refine KX [_,_] (b3M b1 b2 ib vb wb kb L t ((aY L t).getD []) a5 i x.1 x.2 a8 _ a3 W a1 _ hY) ?_;intro _ _ ap N ae;have W:=N _ _ W;have a1:=N _ _ a1;have Z:=Z.mono N;have a0:=a0.mono N;have hX:=hX.mono N;have a6:=N _ _ a6;have a3:=a3.mono N;obtain⟨h,aq⟩:=ae;cases h;refine yU 7 ?_;refine bU (bH (Keeps.k cO)) ?_;refine fZ ⟨i+1,_,ap⟩ ⟨dO,Z,aq⟩ dO rT rfl rfl
 have ar:i=((aY L t).getD []).length:=oM;obtain⟨au,av,aw,ax,ay,az,a9,aa,rfl⟩:=hY;rw[ar,dK]at a9 aa;refine yU 5 ?_;refine aT [1] [] 6 kR ?_;refine yU 5 ?_;refine zT 5 rfl (RI (kv:=zS) (a:=t) 0 rfl rfl rfl rfl rfl OB DX rfl gB ?_);refine yU 2 ?_;refine bV rfl rfl ?_;exact⟨⟨vb,wb,kb,EM lv t,cv,au,av,aw,ax,ay,az⟩,rfl,O.drop Z t a9 aa,rfl⟩
theorem a6m Z t I:yY aA 43 [ptr Z 0,zS t] I [(Z,zJ 114 [.map none,.map none,.map none])]
 (fun e _ H'=>e= .returned (.tuple #[])∧H'=[(Z,zJ 114 [.map none,.map none,.map none])]):=by
 refine zO func43 fun w0 _=>?_;refine yU 3 ?_;intro _ _;refine yU 1 ?_;intro _ _;refine yU 14 ?_;refine aT [0,1,2] [] 8 kR ?_;refine dH CS (fun N=>?_);refine aF 0 rfl N (DN isAgg26 (aN 1 rfl)) ?_;refine aF 1 rfl N (DF rfl rfl) ?_;refine aF 2 rfl N (DJ (off':=0) YG VE) ?_;refine aF 3 rfl N (DN isAgg110 (aN 2 rfl)) ?_;refine aF 4 rfl N (AY rfl rfl OH FM (aN 0 rfl) rfl rfl) ?_;refine aF 5 rfl N (II (kv:=zS) (a:=t) rfl rfl rfl rfl OB DX VJ) ?_;refine yU 5 ?_;refine Cj.rounds 1 ?_;refine Rj.succ ?_;refine yU 6 ?_;refine Cj.cond rfl ?_ ?_<;>intro W
 ·have a0:=EX W;exact absurd (EX W) dE
 have a0:=JE W;refine Cj.exit (fO (fO (Ej.SA (cZ ?_))));refine aT [0,1,2] [] 6 kR ?_;refine dH CS (fun O=>?_);refine aF 0 rfl O (DN isAgg26 (aN 1 rfl)) ?_;refine aF 1 rfl O (DF rfl rfl) ?_;refine aF 2 rfl O (DJ (off':=0) YG VE) ?_;refine aF 3 rfl O (DN isAgg110 (aN 2 rfl)) ?_;refine aF 4 rfl O (AY rfl rfl OH FM (aN 0 rfl) rfl rfl) ?_;refine zT 5 rfl (a8t (kv:=zS) (a:=t) rfl rfl rfl rfl rfl OB DX ?_);refine yU 2 ?_;refine bU (bH (bH (Keeps.k Keeps.n))) ?_;refine bV rfl rfl ?_;exact rT
theorem a8r{I I' vb wb kb lv cv lw cw Nw lk ck Nk L t}(h:ES I ⟨vb,wb,kb,lv,cv,lw,cw,Nw,lk,ck,Nk⟩ (eH t L))(hs:Ix.AL L)(hL:L.length<100000){vs}(hv:GZ vs){w}(a2:OX I' vs w)(a3:Le I I'){N O W Z a0 a1}
 (hw:BK N O W (aG (aJ aB L) t fun p=>(aB vs).count p))(hk:BK Z a0 a1 (aG (aJ aC L) t fun p=>(aC vs).count p)):ES I' ⟨vb,wb,kb,AP lv t w cv,DC lv t cv,N,O,W,Z,a0,a1⟩ (dV t vs L):=by
 have hb:(eH t L).length<100000:=Nat.lt_of_le_of_lt (dW _ _) hL;have a4:∀(pl:List Ix.V→List Ix.Pl),(aG (aJ pl L) t fun p=>(pl vs).count p)=aG (aJ pl (eH t L)) t fun p=>(pl vs).count p:=fun pl=>by
  rw[bZ hs]
  funext p u
  unfold aG
  split<;>rfl
 rw[a4]at hw hk;have h2:=(h.mono a3).put hb hv a2 hw hk;rw[Ix.b1w hs]at h2;exact h2
theorem b6E ib s0 L N I (W:ES I s0 L)(aj:L.length<100000)(ae:UU N.fs)(Z:PL I N.fs N.v):yY aA 50 [ptr ib 0,.agg (FK N).toArray] I (a1O ib s0)
 (fun e I' H'=>∃s',e= .returned (.tuple #[])∧ES I' s' (dV N.t (dG N.fs) L)∧H'=a1O ib s'):=by
 have a6:=W.FD;obtain⟨_,_,_,-,-⟩:=id Z.1;refine zO func50 fun w0 _=>?_;refine yU 3 ?_;intro b1 ap;refine yU 1 ?_;intro b2 aq;refine yU 4 ?_;refine Cj.pull (Pull.s Pull.z) ?_;refine eP ap (fun _ ab O=>?_);have W:=W.mono ab;have Z:=Z.mono ab;refine eP aq (fun _ a7 a0=>?_);have W:=W.mono a7;have Z:=Z.mono a7;have O:=a7 _ _ O;refine KX [] (a6n ib s0 L N.t _ W) ?_;intro _ _ _ a4 al;have W:=W.mono a4;have Z:=Z.mono a4;have O:=a4 _ _ O;have a0:=a4 _ _ a0;obtain⟨s1,h,W,rfl⟩:=al;cases h;obtain⟨vb,wb,kb,lv,cv,lw,cw,Nw,lk,ck,Nk⟩:=s1;unfold a1O;dsimp only;refine yU 16 ?_;refine aT [1] [] 10 kR ?_;have ar:=O;have au:=a0;refine BJ (a2U N.fs N.v N.k N.l ae _ Z) ?_;intro _ av _ a5 am;have Z:=Z.mono a5;have O:=a5 _ _ O;have a0:=a5 _ _ a0;have W:=W.mono a5;obtain⟨_,h,aw,rfl⟩:=am;cases h;obtain⟨xs,a2,hX⟩:=aw;obtain⟨vp,vc,rfl,_,-⟩:=id a2;have a8:=b3b ae;have bc:=hX.len;have bd:=a8.1;refine yU 1 ?_;refine zT 9 rfl (DK (kv:=zS) (a:=N.t) 0 (.inr rfl) rfl rfl rfl rfl rfl OB DX rfl gB ?_);refine yU 4 ?_;have ax:YP ib vb wb kb L N.t (dG N.fs) 0 ((ib,zJ 114 (ND vb wb kb))::(setH wb lw cw Nw++setH kb lk ck Nk)):=⟨lw,cw,Nw,lk,ck,Nk,(by have h:=W.nw;rw[bZ a6]at h;exact h),(by have h:=W.nk;rw[bZ a6]at h;exact h),rfl⟩;refine aT [0,1] [] 9 kR ?_;refine yU 6 ?_;refine JA.zt 6 rfl (AX (kv:=zS) (l:=(AP lv N.t (.slice vp xs.length vc) cv)) (a:=N.t) rfl rfl rfl rfl OB DX VJ (aN 0 rfl)) ?_;refine JA.ev 44 (.slice vp xs.length vc) rfl NK ?_;refine yU 5 ?_;refine Cj.loop (ι:=DA) (fun y=>y.i≤xs.length∧Le av y.J∧YP ib vb wb kb L N.t (dG N.fs) y.i y.Y) (fun y=>xs.length-y.i) (fun y=>[(2,ptr b1 0),(3,ptr b2 0),(44,.slice vp xs.length vc),(45,i64 (xs.length:Int)),(46,i64 (y.i:Int))]) (fun y=>y.J) (fun y=>(vb,zQ zS (AP lv N.t (.slice vp xs.length vc) cv) (DC lv N.t cv))::y.Y) ⟨0,_,(ib,zJ 114 (ND vb wb kb))::(setH _ _ _ _++setH _ _ _ _)⟩ ⟨bC _,aO _,ax⟩ rT rfl rfl ?_;rintro⟨i,_,_⟩ ⟨hi,a3,hY⟩;dsimp only at hi a3 hY ⊢;have a2:=a2.mono a3;have hX:=hX.mono a3;have O:=a3 _ _ O;have a0:=a3 _ _ a0;refine AB ?_ ?_<;>intro an ad
 ·have af:i<xs.length:=oM;obtain⟨x,a9⟩:∃x,xs[i]?=some x:=⟨_,CO af⟩;obtain⟨_,_,ay,-,az⟩:=id a2;cases ay;obtain⟨_,_,rfl,ac⟩:=az (BF af);have aa:=hX.2 x (CG a9);have ag:=(zC (fun l=>l[i]?) hX.1).symm.trans ((fJ).trans (zC (gJ (·.1)) a9));dsimp only[bF]at ag;refine AZ (0+i*3) ?_;refine aI (qq2 isAgg142 QU (yZ.BR ac) (CV VY (o:=0) rfl a9)) ?_;refine yU 1 ?_;intro _ _;refine bM rfl (BP 0 rfl rfl rfl rfl rfl (a1t aa rfl rfl) QU rfl rfl lsA gB ?_);refine KX [_,_] (a8M b1 b2 ib vb wb kb N.k N.l N.v L N.t (dG N.fs) a8 i x.1 x.2 ag _ aa O a0 _ hY) ?_;intro _ _ b0 a1 ao;have O:=a1 _ _ O;have a0:=a1 _ _ a0;have a2:=a2.mono a1;have hX:=hX.mono a1;have a3:=a3.mono a1;have ac:=a1 _ _ ac;have aa:=aa.mono a1;obtain⟨h,hY1⟩:=ao;cases h;refine yU 7 ?_;refine bU (bH (Keeps.k cO)) ?_;refine fZ ⟨i+1,_,b0⟩ ⟨dO,a3,hY1⟩ dO rT rfl rfl
 have hil:i=(dG N.fs).length:=oM;obtain⟨b3,b4,b8,b9,ba,bb,ah,ai,rfl⟩:=hY;rw[hil,bT]at ah ai;refine yU 4 ?_;refine bV rfl rfl ?_;exact⟨⟨vb,wb,kb,(AP lv N.t (.slice vp xs.length vc) cv),(DC lv N.t cv),b3,b4,b8,b9,ba,bb⟩,rfl,a8r W a6 aj a8 ⟨xs,a2,hX⟩ a3 ah ai,rfl⟩
theorem b7c ib W I (ai : UU W.fs) (a0 : PL I W.fs W.v) : yY Tryz.prog 50 [ptr ib 0, .agg (FK W).toArray] I [(ib, zJ 114 [.map none, .map none, .map none])]
 (fun e I' H' => ∃ s', e = .returned (.tuple #[]) ∧ ES I' s' (Ix.JL W.t (Ix.vals W.fs) []) ∧ H' = a1O ib s') := by
 obtain ⟨_, _, _, -, -⟩ := id a0.1
 refine zO func50 fun w0 _ => ?_
 refine yU 3 ?_
 intro b1 ay
 refine yU 1 ?_
 intro b2 az
 refine yU 4 ?_
 refine Cj.pull (Pull.s Pull.z) ?_
 refine Cj.persist ay (fun _ ar Z => ?_)
 have a0 := a0.mono ar
 refine Cj.persist az (fun _ ac a1 => ?_)
 have a0 := a0.mono ac
 have Z := ac _ _ Z
 refine yU 13 ?_
 refine J.pull Pull.z ?_
 refine BJ (a6m ib W.t _) ?_
 intro _ I9 _ a6 au
 have a0 := a0.mono a6
 have Z := a6 _ _ Z
 have a1 := a6 _ _ a1
 obtain ⟨h, rfl⟩ := au; cases h
 refine yU 2 ?_
 refine Cj.join (ι := Nat × Nat × Nat) (fun y => True) (fun y => [(2, ptr b1 0), (3, ptr b2 0)]) (fun y => I9) (fun y => (y.1, zQ zS [] 0) :: (ib, zJ 114 (ND y.1 y.2.1 y.2.2)) :: (setH y.2.1 [] 0 [] ++ setH y.2.2 [] 0 [])) ?_ (fun O => ?_)
 ·rintro ⟨vb, wb, kb⟩ -
  dsimp only
  refine yU 1 ?_
  refine Cj.AU [1] [] 10 (by kernel_rfl) ?_
  have b0 := Z
  have hb2i_5 := a1
  refine BJ (a2U W.fs W.v W.k W.l ai _ a0) ?_
  intro _ I15 _ a7 av
  have a0 := a0.mono a7
  have Z := a7 _ _ Z
  have a1 := a7 _ _ a1
  obtain ⟨_, h, b3, rfl⟩ := av; cases h
  obtain ⟨xs, a3, hX⟩ := b3
  obtain ⟨vp, vc, rfl, _, -⟩ := id a3
  have a8 := b3b ai
  have c4 := hX.len
  have c5 := a8.1
  refine yU 1 ?_
  refine zT 9 rfl (DK (kv := zS) (a := W.t) 0 (.inr rfl) rfl rfl rfl rfl rfl OB DX rfl yX.z ?_)
  refine yU 4 ?_
  have b4 : YP ib vb wb kb [] W.t (Ix.vals W.fs) 0 ((ib, zJ 114 (ND vb wb kb)) :: (setH wb [] 0 [] ++ setH kb [] 0 [])) := ⟨[], 0, [], [], 0, [], (by rw [List.take_zero]; have h := (BK.nil : BK ([] : ML Ix.Pl) 0 ([] : NM Ix.Pl Ix.Rec) (fun _ _ => 0)); exact (show (Ix.way (Ix.cnt Ix.plW []) W.t fun p => (Ix.plW []).count p) = (fun _ _ => 0) by funext p u; unfold Ix.way; split <;> rfl) ▸ h), (by rw [List.take_zero]; have h := (BK.nil : BK ([] : ML Ix.Pl) 0 ([] : NM Ix.Pl Ix.Rec) (fun _ _ => 0)); exact (show (Ix.way (Ix.cnt Ix.UW []) W.t fun p => (Ix.UW []).count p) = (fun _ _ => 0) by funext p u; unfold Ix.way; split <;> rfl) ▸ h), rfl⟩
  refine Cj.AU [0, 1] [] 9 (by kernel_rfl) ?_
  refine yU 6 ?_
  refine JA.zt 6 rfl (AX (kv := zS) (l := (AP ([] : ML Ix.Rec) W.t (.slice vp xs.length vc) 0)) (a := W.t) rfl rfl rfl rfl OB DX VJ (yZ.EZ 0 rfl)) ?_
  refine JA.ev 44 (.slice vp xs.length vc) rfl NK ?_
  refine yU 5 ?_
  refine Cj.loop (ι := DA) (fun y => y.i ≤ xs.length ∧ Le I15 y.J ∧ YP ib vb wb kb [] W.t (Ix.vals W.fs) y.i y.Y) (fun y => xs.length - y.i) (fun y => [(2, ptr b1 0), (3, ptr b2 0), (44, .slice vp xs.length vc), (45, i64 (xs.length : Int)), (46, i64 (y.i : Int))]) (fun y => y.J) (fun y => (vb, zQ zS (AP ([] : ML Ix.Rec) W.t (.slice vp xs.length vc) 0) (DC ([] : ML Ix.Rec) W.t 0)) :: y.Y) ⟨0, _, (ib, zJ 114 (ND vb wb kb)) :: (setH _ _ _ _ ++ setH _ _ _ _)⟩ ⟨Nat.zero_le _, Le.refl _, b4⟩ ⟨rfl, rfl, rfl, rfl, rfl, trivial⟩ rfl rfl ?_
  rintro ⟨i, _, _⟩ ⟨N, a4, hY⟩
  dsimp only at N a4 hY ⊢
  have a3 := a3.mono a4
  have hX := hX.mono a4
  have Z := a4 _ _ Z
  have a1 := a4 _ _ a1
  refine AB (fun aw ah => ?_) (fun aw ah => ?_)
  ·have aj : i < xs.length := by omega
   obtain ⟨x, a9⟩ : ∃ x, xs[i]? = some x := ⟨_, CO aj⟩
   obtain ⟨_, _, b8, -, b9⟩ := id a3
   cases b8
   obtain ⟨_, _, rfl, ad⟩ := b9 (BF aj)
   have aa := hX.2 x (CG a9)
   have al := (congrArg (fun l => l[i]?) hX.1).symm.trans ((List.getElem?_map).trans (congrArg (Option.map (·.1)) a9))
   dsimp only [Option.map_some] at al
   refine AZ (0 + i * 3) ?_
   refine J.z (qq2 isAgg142 QU (yZ.BR ad) (CV VY (o := 0) rfl a9)) ?_
   refine yU 1 ?_
   intro _ _
   refine J.op rfl (BP 0 rfl rfl rfl rfl rfl (a1t aa rfl rfl) QU rfl rfl (yV.c (yV.c (yV.c yV.z))) yX.z ?_)
   refine KX [_, _] (a8M b1 b2 ib vb wb kb W.k W.l W.v [] W.t (Ix.vals W.fs) a8 i x.1 x.2 al _ aa Z a1 _ hY) ?_
   intro _ _ ba a2 ax
   have Z := a2 _ _ Z
   have a1 := a2 _ _ a1
   have a3 := a3.mono a2
   have hX := hX.mono a2
   have a4 := a4.mono a2
   have ad := a2 _ _ ad
   have aa := aa.mono a2
   obtain ⟨h, bb⟩ := ax; cases h
   refine yU 7 ?_
   refine Ej.keep (Keeps.d (Keeps.k Keeps.r)) ?_
   refine Ej.round ⟨i + 1, _, ba⟩ ⟨by dsimp only; omega, a4, bb⟩ (by dsimp only; omega) ⟨rfl, rfl, rfl, rfl, rfl, trivial⟩ rfl rfl
  have bc : i = (Ix.vals W.fs).length := by omega
  obtain ⟨bd, be, bf, bg, bh, bi, am, an, rfl⟩ := hY
  rw [bc, List.take_length] at am an
  refine yU 4 ?_
  refine Ej.GL rfl rfl ?_
  exact ⟨⟨vb, wb, kb, (AP ([] : ML Ix.Rec) W.t (.slice vp xs.length vc) 0), (DC ([] : ML Ix.Rec) W.t 0), bd, be, bf, bg, bh, bi⟩, rfl, a8r (L := []) (b9f _ vb wb kb) List.Pairwise.nil (by decide) a8 ⟨xs, a3, hX⟩ a4 am an, rfl⟩
 refine yU 10 ?_
 refine Cj.AU [] [] 15 (by kernel_rfl) ?_
 refine yU 3 ?_
 refine JA.all [3, 4, 5] (by kernel_rfl) (by simp) ?_
 intro i N
 simp only [List.mem_cons, List.not_mem_nil, or_false] at N
 rcases N with rfl | rfl | rfl
 ·refine ⟨_, rfl, rfl, ?_⟩
  refine AV rfl rfl rfl ?_
  intro a5 _
  refine yU 3 ?_
  refine JA.all [4, 5, 8] (by kernel_rfl) (by simp) ?_
  intro i N
  simp only [List.mem_cons, List.not_mem_nil, or_false] at N
  rcases N with rfl | rfl | rfl
  ·refine ⟨_, rfl, rfl, ?_⟩
   refine AV rfl rfl rfl ?_
   intro ae _
   refine yU 1 ?_
   refine JA.all [5, 8] (by kernel_rfl) (by simp) ?_
   intro i N
   simp only [List.mem_cons, List.not_mem_nil, or_false] at N
   rcases N with rfl | rfl
   ·refine ⟨_, rfl, rfl, ?_⟩
    refine AV rfl rfl rfl ?_
    intro bj _
    refine yU 12 ?_
    refine Ej.keep (Keeps.k (Keeps.k (Keeps.k (Keeps.k Keeps.n)))) ?_
    refine Ej.pull Pull.z ?_
    refine Ej.pull (Pull.s Pull.z) ?_
    refine Ej.pull (Pull.s (Pull.s (Pull.s Pull.z))) ?_
    refine Ej.pull (Pull.s (Pull.s (Pull.s Pull.z))) ?_
    exact O (a5, ae, bj) _ _ _ trivial ⟨rfl, rfl, trivial⟩ rfl rfl
   refine ⟨_, rfl, rfl, ?_⟩
   refine DV 2 VE (yV.c yV.z) (yX.s (yX.s yX.z)) ?_
   refine yU 3 ?_
   refine JA.all [5, 11] (by kernel_rfl) (by simp) ?_
   intro i N
   simp only [List.mem_cons, List.not_mem_nil, or_false] at N
   rcases N with rfl | rfl
   ·refine ⟨_, rfl, rfl, ?_⟩
    refine AV rfl rfl rfl ?_
    intro bk _
    refine yU 8 ?_
    refine Ej.keep (Keeps.k (Keeps.k (Keeps.k (Keeps.k Keeps.n)))) ?_
    refine Ej.pull Pull.z ?_
    refine Ej.pull (Pull.s Pull.z) ?_
    refine Ej.pull (Pull.s (Pull.s (Pull.s Pull.z))) ?_
    refine Ej.pull (Pull.s (Pull.s (Pull.s Pull.z))) ?_
    exact O (a5, ae, bk) _ _ _ trivial ⟨rfl, rfl, trivial⟩ rfl rfl
   refine ⟨_, rfl, rfl, ?_⟩
   refine DV 2 VB (yV.s (yV.c yV.z)) (yX.s (yX.s yX.z)) ?_
   refine yU 1 ?_
   refine zT 5 rfl (AV rfl rfl rfl ?_)
   intro bl _
   refine yU 6 ?_
   refine Ej.keep (Keeps.k (Keeps.k (Keeps.k (Keeps.k Keeps.n)))) ?_
   refine Ej.pull Pull.z ?_
   refine Ej.pull (Pull.s Pull.z) ?_
   refine Ej.pull (Pull.s (Pull.s (Pull.s Pull.z))) ?_
   refine Ej.pull (Pull.s (Pull.s (Pull.s Pull.z))) ?_
   exact O (a5, ae, bl) _ _ _ trivial ⟨rfl, rfl, trivial⟩ rfl rfl
  ·refine ⟨_, rfl, rfl, ?_⟩
   refine AV rfl rfl rfl ?_
   intro ao _
   refine yU 1 ?_
   refine JA.all [4, 8] (by kernel_rfl) (by simp) ?_
   intro i N
   simp only [List.mem_cons, List.not_mem_nil, or_false] at N
   rcases N with rfl | rfl
   ·refine ⟨_, rfl, rfl, ?_⟩
    refine AV rfl rfl rfl ?_
    intro bm _
    refine yU 12 ?_
    refine Ej.keep (Keeps.k (Keeps.k (Keeps.k (Keeps.k Keeps.n)))) ?_
    refine Ej.pull (Pull.s Pull.z) ?_
    refine Ej.pull (Pull.s Pull.z) ?_
    refine Ej.pull (Pull.s (Pull.s (Pull.s Pull.z))) ?_
    refine Ej.pull (Pull.s (Pull.s (Pull.s Pull.z))) ?_
    exact O (a5, bm, ao) _ _ _ trivial ⟨rfl, rfl, trivial⟩ rfl rfl
   refine ⟨_, rfl, rfl, ?_⟩
   refine DV 2 VE (yV.c yV.z) (yX.s (yX.s yX.z)) ?_
   refine yU 1 ?_
   refine zT 4 rfl (AV rfl rfl rfl ?_)
   intro bn _
   refine yU 10 ?_
   refine Ej.keep (Keeps.k (Keeps.k (Keeps.k (Keeps.k Keeps.n)))) ?_
   refine Ej.pull (Pull.s Pull.z) ?_
   refine Ej.pull (Pull.s Pull.z) ?_
   refine Ej.pull (Pull.s (Pull.s (Pull.s Pull.z))) ?_
   refine Ej.pull (Pull.s (Pull.s (Pull.s Pull.z))) ?_
   exact O (a5, bn, ao) _ _ _ trivial ⟨rfl, rfl, trivial⟩ rfl rfl
  refine ⟨_, rfl, rfl, ?_⟩
  refine DV 1 VE (yV.c yV.z) (yX.s yX.z) ?_
  refine yU 1 ?_
  refine JA.all [4, 5] (by kernel_rfl) (by simp) ?_
  intro i N
  simp only [List.mem_cons, List.not_mem_nil, or_false] at N
  rcases N with rfl | rfl
  ·refine ⟨_, rfl, rfl, ?_⟩
   refine AV rfl rfl rfl ?_
   intro ap _
   refine yU 3 ?_
   refine JA.all [5, 11] (by kernel_rfl) (by simp) ?_
   intro i N
   simp only [List.mem_cons, List.not_mem_nil, or_false] at N
   rcases N with rfl | rfl
   ·refine ⟨_, rfl, rfl, ?_⟩
    refine AV rfl rfl rfl ?_
    intro bo _
    refine yU 8 ?_
    refine Ej.keep (Keeps.k (Keeps.k (Keeps.k (Keeps.k Keeps.n)))) ?_
    refine Ej.pull Pull.z ?_
    refine Ej.pull (Pull.s Pull.z) ?_
    refine Ej.pull (Pull.s (Pull.s (Pull.s Pull.z))) ?_
    refine Ej.pull (Pull.s (Pull.s (Pull.s Pull.z))) ?_
    exact O (a5, ap, bo) _ _ _ trivial ⟨rfl, rfl, trivial⟩ rfl rfl
   refine ⟨_, rfl, rfl, ?_⟩
   refine DV 2 VB (yV.s (yV.c yV.z)) (yX.s (yX.s yX.z)) ?_
   refine yU 1 ?_
   refine zT 5 rfl (AV rfl rfl rfl ?_)
   intro bp _
   refine yU 6 ?_
   refine Ej.keep (Keeps.k (Keeps.k (Keeps.k (Keeps.k Keeps.n)))) ?_
   refine Ej.pull Pull.z ?_
   refine Ej.pull (Pull.s Pull.z) ?_
   refine Ej.pull (Pull.s (Pull.s (Pull.s Pull.z))) ?_
   refine Ej.pull (Pull.s (Pull.s (Pull.s Pull.z))) ?_
   exact O (a5, ap, bp) _ _ _ trivial ⟨rfl, rfl, trivial⟩ rfl rfl
  refine ⟨_, rfl, rfl, ?_⟩
  refine AV rfl rfl rfl ?_
  intro bq _
  refine yU 1 ?_
  refine zT 4 rfl (AV rfl rfl rfl ?_)
  intro br _
  refine yU 10 ?_
  refine Ej.keep (Keeps.k (Keeps.k (Keeps.k (Keeps.k Keeps.n)))) ?_
  refine Ej.pull (Pull.s Pull.z) ?_
  refine Ej.pull (Pull.s Pull.z) ?_
  refine Ej.pull (Pull.s (Pull.s (Pull.s Pull.z))) ?_
  refine Ej.pull (Pull.s (Pull.s (Pull.s Pull.z))) ?_
  exact O (a5, br, bq) _ _ _ trivial ⟨rfl, rfl, trivial⟩ rfl rfl
 ·refine ⟨_, rfl, rfl, ?_⟩
  refine AV rfl rfl rfl ?_
  intro ab _
  refine yU 1 ?_
  refine JA.all [3, 5] (by kernel_rfl) (by simp) ?_
  intro i N
  simp only [List.mem_cons, List.not_mem_nil, or_false] at N
  rcases N with rfl | rfl
  ·refine ⟨_, rfl, rfl, ?_⟩
   refine AV rfl rfl rfl ?_
   intro af _
   refine yU 3 ?_
   refine JA.all [5, 8] (by kernel_rfl) (by simp) ?_
   intro i N
   simp only [List.mem_cons, List.not_mem_nil, or_false] at N
   rcases N with rfl | rfl
   ·refine ⟨_, rfl, rfl, ?_⟩
    refine AV rfl rfl rfl ?_
    intro bs _
    refine yU 12 ?_
    refine Ej.keep (Keeps.k (Keeps.k (Keeps.k (Keeps.k Keeps.n)))) ?_
    refine Ej.pull Pull.z ?_
    refine Ej.pull (Pull.s (Pull.s Pull.z)) ?_
    refine Ej.pull (Pull.s (Pull.s (Pull.s Pull.z))) ?_
    refine Ej.pull (Pull.s (Pull.s (Pull.s Pull.z))) ?_
    exact O (af, ab, bs) _ _ _ trivial ⟨rfl, rfl, trivial⟩ rfl rfl
   refine ⟨_, rfl, rfl, ?_⟩
   refine DV 2 VE (yV.c yV.z) (yX.s (yX.s yX.z)) ?_
   refine yU 3 ?_
   refine JA.all [5, 11] (by kernel_rfl) (by simp) ?_
   intro i N
   simp only [List.mem_cons, List.not_mem_nil, or_false] at N
   rcases N with rfl | rfl
   ·refine ⟨_, rfl, rfl, ?_⟩
    refine AV rfl rfl rfl ?_
    intro bt _
    refine yU 8 ?_
    refine Ej.keep (Keeps.k (Keeps.k (Keeps.k (Keeps.k Keeps.n)))) ?_
    refine Ej.pull Pull.z ?_
    refine Ej.pull (Pull.s (Pull.s Pull.z)) ?_
    refine Ej.pull (Pull.s (Pull.s (Pull.s Pull.z))) ?_
    refine Ej.pull (Pull.s (Pull.s (Pull.s Pull.z))) ?_
    exact O (af, ab, bt) _ _ _ trivial ⟨rfl, rfl, trivial⟩ rfl rfl
   refine ⟨_, rfl, rfl, ?_⟩
   refine DV 2 VB (yV.s (yV.c yV.z)) (yX.s (yX.s yX.z)) ?_
   refine yU 1 ?_
   refine zT 5 rfl (AV rfl rfl rfl ?_)
   intro bu _
   refine yU 6 ?_
   refine Ej.keep (Keeps.k (Keeps.k (Keeps.k (Keeps.k Keeps.n)))) ?_
   refine Ej.pull Pull.z ?_
   refine Ej.pull (Pull.s (Pull.s Pull.z)) ?_
   refine Ej.pull (Pull.s (Pull.s (Pull.s Pull.z))) ?_
   refine Ej.pull (Pull.s (Pull.s (Pull.s Pull.z))) ?_
   exact O (af, ab, bu) _ _ _ trivial ⟨rfl, rfl, trivial⟩ rfl rfl
  refine ⟨_, rfl, rfl, ?_⟩
  refine AV rfl rfl rfl ?_
  intro bv _
  refine yU 1 ?_
  refine zT 3 rfl (AV rfl rfl rfl ?_)
  intro bw _
  refine yU 14 ?_
  refine Ej.keep (Keeps.k (Keeps.k (Keeps.k (Keeps.k Keeps.n)))) ?_
  refine Ej.pull (Pull.s Pull.z) ?_
  refine Ej.pull (Pull.s (Pull.s Pull.z)) ?_
  refine Ej.pull (Pull.s (Pull.s (Pull.s Pull.z))) ?_
  refine Ej.pull (Pull.s (Pull.s (Pull.s Pull.z))) ?_
  exact O (bw, ab, bv) _ _ _ trivial ⟨rfl, rfl, trivial⟩ rfl rfl
 refine ⟨_, rfl, rfl, ?_⟩
 refine AV rfl rfl rfl ?_
 intro ag _
 refine yU 1 ?_
 refine JA.all [3, 4] (by kernel_rfl) (by simp) ?_
 intro i N
 simp only [List.mem_cons, List.not_mem_nil, or_false] at N
 rcases N with rfl | rfl
 ·refine ⟨_, rfl, rfl, ?_⟩
  refine AV rfl rfl rfl ?_
  intro aq _
  refine yU 3 ?_
  refine JA.all [4, 8] (by kernel_rfl) (by simp) ?_
  intro i N
  simp only [List.mem_cons, List.not_mem_nil, or_false] at N
  rcases N with rfl | rfl
  ·refine ⟨_, rfl, rfl, ?_⟩
   refine AV rfl rfl rfl ?_
   intro bx _
   refine yU 12 ?_
   refine Ej.keep (Keeps.k (Keeps.k (Keeps.k (Keeps.k Keeps.n)))) ?_
   refine Ej.pull (Pull.s (Pull.s Pull.z)) ?_
   refine Ej.pull (Pull.s Pull.z) ?_
   refine Ej.pull (Pull.s (Pull.s (Pull.s Pull.z))) ?_
   refine Ej.pull (Pull.s (Pull.s (Pull.s Pull.z))) ?_
   exact O (aq, bx, ag) _ _ _ trivial ⟨rfl, rfl, trivial⟩ rfl rfl
  refine ⟨_, rfl, rfl, ?_⟩
  refine DV 2 VE (yV.c yV.z) (yX.s (yX.s yX.z)) ?_
  refine yU 1 ?_
  refine zT 4 rfl (AV rfl rfl rfl ?_)
  intro bz _
  refine yU 10 ?_
  refine Ej.keep (Keeps.k (Keeps.k (Keeps.k (Keeps.k Keeps.n)))) ?_
  refine Ej.pull (Pull.s (Pull.s Pull.z)) ?_
  refine Ej.pull (Pull.s Pull.z) ?_
  refine Ej.pull (Pull.s (Pull.s (Pull.s Pull.z))) ?_
  refine Ej.pull (Pull.s (Pull.s (Pull.s Pull.z))) ?_
  exact O (aq, bz, ag) _ _ _ trivial ⟨rfl, rfl, trivial⟩ rfl rfl
 refine ⟨_, rfl, rfl, ?_⟩
 refine AV rfl rfl rfl ?_
 intro c2 _
 refine yU 1 ?_
 refine zT 3 rfl (AV rfl rfl rfl ?_)
 intro c3 _
 refine yU 14 ?_
 refine Ej.keep (Keeps.k (Keeps.k (Keeps.k (Keeps.k Keeps.n)))) ?_
 refine Ej.pull (Pull.s (Pull.s Pull.z)) ?_
 refine Ej.pull (Pull.s (Pull.s Pull.z)) ?_
 refine Ej.pull (Pull.s (Pull.s (Pull.s Pull.z))) ?_
 refine Ej.pull (Pull.s (Pull.s (Pull.s Pull.z))) ?_
 exact O (c3, c2, ag) _ _ _ trivial ⟨rfl, rfl, trivial⟩ rfl rfl
end Go.Proofs.YtekmeaoblpfnpaaGreatDoor
end
namespace Go.Sx
open Go
@[reducible] def b2p:DR:=⟨true⟩
attribute [local instance] b2p
theorem yY.same{P f args I H v}(O:Enters P f)(h:∀w,Ready I H w→Calls P f args.toArray w fun e w'=>e= .returned v∧w'=w):yY P f args I H (fun e W H'=>e= .returned v∧W=I∧H'=H):=
 ⟨O,fun w N=>(h w N).mono fun _ w' ⟨h1,h2⟩=>⟨I,H,by subst h2;exact St.start w' I H N.1 N.2.1 N.2.2.1 N.2.2.2,h1,rfl,rfl⟩⟩
theorem yY.grows{P f args v}{N:Ending→Heap→HL→Prop}(h:yY P f args (fun _=>none) [] N)(O:∀e Z H',N e Z H'→e= .returned v) w:Calls P f args.toArray w fun e w'=>e= .returned v∧∃q a0,w'=fD (w.drewN q) a0:=
 have hr:Ready (fun _=>none) [] w:=by
  unfold Ready;exact⟨(fun b o hb=>by cases hb),(fun p O=>by cases O),List.Pairwise.nil,(fun p O=>by cases O)⟩
 (h.2 w hr).mono fun e w' ⟨Z,H',W,hq⟩=>⟨O e Z H' hq,w'.drawn-w.drawn,w'.heap.extract w.heap.size w'.heap.size,by
  have hh:w'.heap=w.heap++w'.heap.extract w.heap.size w'.heap.size:=by
   apply fE
   intro i;rw[Array.getElem?_append]
   split
   ·rename_i hi;exact W.frm i hi sI
   rename_i hi
   rw[Array.getElem?_extract]
   split
   ·congr 1;omega
   rw[aV oM]
  have h1:=W.os;have h2:=W.tape;have h3:=W.output;have h4:=W.drw rfl;have h5:w.drawn+(w'.drawn-w.drawn)=w'.drawn:=oM;unfold fD World.drewN;rw[h5];cases w';cases w;simp only at h1 h2 h3 hh ⊢;subst h1 h2 h3;rw[←hh]⟩
end Go.Sx
namespace Go.Proofs.YtekmeaoblpfnpaaGreatDoor
open _root_.Go.Proofs.Tryz
open Go Go.Sx
attribute [local instance] b2p
def LP (r s:Int):Int:=if r≠0 then r else s
section
open Go.Shelf Go.RowKit Go.Lib
theorem b9G b N O w (h0:w.cell? ⟨b,0,none⟩=some (.int .i64 N))(h1:w.cell? ⟨b,1,none⟩=some (.int .i64 O)):
 Calls aA 57 #[.slice (some ⟨b,0,none⟩) 2 2] w fun e w'=>e= .returned (.int .i64 (LP N O))∧w'=w:=by
 go_enter func57,Tryz.ntmps57
 go_wp2
 refine wp_loop_rounds 3 ?_;rw[rounds_succ]
 go_wp2
 ·have Z:(N != 0)=true:=by assumption
  have W:LP N O=N:=zF (by simpa using Z)
  go_ret
  exact⟨by rw[W];rfl,rfl⟩
 have Z:(N != 0)=false:=by assumption
 have W:LP N O=O:=zD (by simpa using Z);rw[rounds_succ]
 go_wp2
 ·go_ret
  exact⟨by rw[W];rfl,rfl⟩
 have hs:(O != 0)=false:=by assumption
 have a0:O=0:=by simpa using hs
 rw[rounds_succ]
 go_wp2
 go_ret
 exact⟨by rw[W,a0];rfl,rfl⟩
end
def KN (a b:List UInt8):Int:=if a<b then -1 else if b<a then 1 else 0
theorem b3a{a b:List UInt8}(h:¬a<b){t}(N:(!(decide (a<b) || a == b))=t):if t then b<a else ¬b<a:=by
 rw[zI h,Bool.false_or]at N;subst N
 by_cases he:a=b
 ·subst he;simp
 have O:(a == b)=false:=by simpa using he
 rw[O];simp only[Bool.not_false,if_true];exact Std.lt_of_le_of_ne (Std.not_lt.1 h) (Ne.symm he)
theorem b5K b N O I:yY aA 57 [.slice (some ⟨b,0,none⟩) 2 2] I [(b,zJ 3 [i64 N,i64 O])] (fun e W H'=>e= .returned (i64 (LP N O))∧W=I∧H'=[(b,zJ 3 [i64 N,i64 O])]):=
 yY.same ⟨_,func57,dE,rfl⟩ fun w Z=>by
  have hb:=Z.2.1 _ (.head _);refine b9G b N O w ?_ ?_<;>simp[gI,hb,zJ]
theorem a3Q x y I:yY aA 59 [i64 x,i64 y] I [] (fun e N H'=>e= .returned (i64 (aU x y))∧N=I∧H'=[]):=
 yY.same ⟨_,func59,dE,rfl⟩ fun w _=>Tryz.cmp_Compare_int x y w
theorem a9W x0 x1 y0 y1 I:yY aA 78 [.agg #[i64 x0,i64 x1],.agg #[i64 y0,i64 y1]] I [] (fun e _ H'=>e= .returned (i64 (LP (aU x0 y0) (aU x1 y1)))∧H'=[]):=by
 refine yY.ob func78 ?_;intro w0 _;refine Cj.sr (bM rfl (IU rfl rfl rfl rfl rfl ?_));intro _ _;refine bM rfl (IU rfl rfl rfl rfl rfl ?_);intro _ _;refine aI GH ?_;refine J.nss (aT [0,1] [] 13 (by kernel_rfl) ?_);refine dH ⟨(aH 0 rfl (aH 1 rfl aW)),aX,(aO _)⟩ (fun N=>?_);refine aF 0 rfl N (DJ (off':=0) underlying54 sizeOf3) ?_;refine aF 1 rfl N (DN isAgg3 (aN 1 rfl)) ?_;refine aF 2 rfl N (DJ (off':=0) underlying54 sizeOf3) ?_;refine aF 3 rfl N (DN isAgg3 (aN 0 rfl)) ?_;refine aF 5 rfl N (DJ (off':=1) underlying54 sizeOf3) ?_;refine aF 6 rfl N (DN isAgg3 (aN 1 rfl)) ?_;refine aF 7 rfl N (DJ (off':=1) underlying54 sizeOf3) ?_;refine aF 8 rfl N (DN isAgg3 (aN 0 rfl)) ?_;refine zT 4 rfl (zN (H1:=[]) rfl rfl rfl rfl rfl (a3Q x0 y0 _) ?_ (fun _ _ _ _ h=>by cases h.1) (fun _ _ h=>by cases h.1));intro _ _ _ W a3;obtain⟨h,rfl,rfl⟩:=a3;cases h;refine⟨⟨(aS (aO _) W),(aH 0 rfl (aH 1 rfl aW)),aX⟩,?_⟩;refine zT 9 rfl (zN (H1:=[]) rfl rfl rfl rfl rfl (a3Q x1 y1 _) ?_ (fun _ _ _ _ h=>by cases h.1) (fun _ _ h=>by cases h.1));intro _ _ _ O a0;obtain⟨h,rfl,rfl⟩:=a0;cases h;refine⟨⟨(aS (aS (aO _) W) O),(aH 0 rfl (aH 1 rfl aW)),aX⟩,?_⟩;refine zT 10 rfl (zY rfl rfl rfl underlying23 sizeOf3 zeroValue3 rfl rfl rfl rfl (zM.one rfl (zM.one rfl zM.none)) ?_);intro _ _;refine⟨⟨(aS (aS (aO _) W) O),(aH 1 rfl (aH 2 rfl aW)),aX⟩,?_⟩;refine JA.pull Pull.z ?_;refine zT 11 rfl (zN (H1:=[_]) rfl rfl rfl rfl rfl (b5K _ (aU x0 y0) (aU x1 y1) _) ?_ (fun _ _ _ _ h=>by cases h.1) (fun _ _ h=>by cases h.1));intro _ _ _ Z a1;obtain⟨h,rfl,rfl⟩:=a1;cases h;refine⟨⟨(aS (aS (aS (aO _) W) O) Z),(aH 1 rfl (aH 2 rfl aW)),aX⟩,?_⟩;refine dH ⟨(aH 1 rfl (aH 2 rfl aW)),aX,(aS (aS (aS (aO _) W) O) Z)⟩ (fun a2=>?_);refine aF 12 rfl a2 GH ?_;refine JG ?_;refine cZ (fF (Ej.bare ?_));refine dX rfl rfl rfl ?_;exact rT
theorem a5D s I:yY aA 263 [str s] I [] (fun e N H'=>e= .returned (.bool false)∧N=I∧H'=[]):=by
 refine yY.ob func263 ?_;intro w0 _;refine Cj.sr (aI GH ?_);refine J.UQ (aI BQ ?_);refine aI BQ ?_;refine aI (a2a rfl rfl rfl) ?_;refine aI GH ?_;refine J.ns (fF (dX rfl rfl rfl ?_));exact⟨by rw[bne_self_eq_false],rfl,rfl⟩
theorem a9p a b I:yY aA 221 [str a,str b] I [] (fun e I' H'=>e= .returned (i64 (KN a b))∧I'=I∧H'=[]):=by
 refine yY.ob func221 ?_;intro w0 _;refine Cj.sr (aI GH ?_);refine J.UQ (aI BQ ?_);refine bM rfl (zN (H1:=[]) rfl rfl rfl rfl rfl (a5D a _) ?_ (fun _ _ _ _ h=>by cases h.1) (fun _ _ h=>by cases h.1));intro _ _ _ _ a0;obtain⟨h,rfl,rfl⟩:=a0;cases h;refine aI GH ?_;refine J.UQ (aI BQ ?_);refine bM rfl (zN (H1:=[]) rfl rfl rfl rfl rfl (a5D b _) ?_ (fun _ _ _ _ h=>by cases h.1) (fun _ _ h=>by cases h.1));intro _ _ _ _ Z;obtain⟨h,rfl,rfl⟩:=Z;cases h;refine aI GH ?_;refine J.a0G (fA (aI BQ ?_));refine J.c0 (fun _=>?_);refine dR (cZ (fV (Cj.sr (aI BQ ?_))));refine J.c0 (fun _=>?_);refine dR (cZ (fV (Cj.sr (aI BQ ?_))));refine aI BQ ?_;refine aI (b2S rfl rfl rfl) ?_;refine J.cd (fun O=>?_) (fun O=>?_)
 ·have N:=zA O;refine Cj.sr (aI GH ?_);refine J.ns (fF (Ej.ZP (dX rfl rfl rfl ?_)));rw[KN,zF N];exact rT
 have N:=of_decide_eq_false O;refine dR (cZ (fV (Cj.sr (aI BQ ?_))));refine aI BQ ?_;refine aI (b4e rfl rfl rfl) ?_;refine J.cd (fun W=>?_) (fun W=>?_)
 ·refine Cj.sr (aI GH ?_);refine J.ns (fF (Ej.ZP (dX rfl rfl rfl ?_)));rw[KN,zD N,zF (by have h:=b3a N W;simpa using h)];exact rT
 refine dR (cZ (Cj.sr (aI GH ?_)));refine J.ns (fF (dX rfl rfl rfl ?_));rw[KN,zD N,zD (by have h:=b3a N W;simpa using h)];exact rT
theorem b3T a b n m I:yY aA 220 [.agg #[str a,i64 n],.agg #[str b,i64 m]] I [] (fun e _ H'=>e= .returned (i64 (KN a b))∧H'=[]):=by
 refine yY.ob func220 ?_;intro w0 _;refine Cj.sr (bM rfl (IU rfl rfl rfl rfl rfl ?_));intro _ _;refine bM rfl (IU rfl rfl rfl rfl rfl ?_);intro _ _;refine aI GH ?_;refine J.UQ (aI (DJ (off':=0) underlying268 sizeOf9) ?_);refine aI (DN isAgg9 (yZ.at 1 rfl)) ?_;refine aI (DJ (off':=0) underlying268 sizeOf9) ?_;refine aI (DN isAgg9 (yZ.at 0 rfl)) ?_;refine bM rfl (zN (H1:=[]) rfl rfl rfl rfl rfl (a9p a b _) ?_ (fun _ _ _ _ h=>by cases h.1) (fun _ _ h=>by cases h.1));intro _ _ _ _ N;obtain⟨h,rfl,rfl⟩:=N;cases h;refine aI GH ?_;refine J.ns (fF (Ej.bare ?_));refine dX rfl rfl rfl ?_;exact rT
theorem a9v x0 x1 y0 y1 w:Calls aA 78 #[.agg #[i64 x0,i64 x1],.agg #[i64 y0,i64 y1]] w fun e w'=>e= .returned (i64 (LP (aU x0 y0) (aU x1 y1)))∧∃q N,w'=fD (w.drewN q) N:=
 yY.grows (a9W x0 x1 y0 y1 _) (fun _ _ _ h=>h.1) w
theorem b5V a b n m w:Calls aA 220 #[.agg #[str a,i64 n],.agg #[str b,i64 m]] w fun e w'=>e= .returned (i64 (KN a b))∧∃q N,w'=fD (w.drewN q) N:=
 yY.grows (b3T a b n m _) (fun _ _ _ h=>h.1) w
end Go.Proofs.YtekmeaoblpfnpaaGreatDoor
namespace Go.Proofs
open _root_.Go.Proofs.Tryz
open Go.Shelf
def Tryz.b3h:fG:=⟨fun|6=>77|15=>108|14=>134|28=>170|29=>171|20=>185|21=>186|22=>187|23=>188|24=>189|25=>190|26=>191|27=>192|46=>235|47=>224|48=>225|49=>236|50=>237|57=>267|n=>n,fun|22=>36|24=>54|25=>149|3=>3|39=>188|0=>0|53=>238|55=>240|4=>4|46=>232|45=>231|50=>168|5=>5|9=>9|66=>272|70=>276|76=>324|77=>325|n=>n,fun|n=>n⟩
theorem Tryz.b7z:bW aA Tryz.b3h:={
 mixed:=kR
 f6:=⟨Tryz.f77.name,dE,func77.trans (zC some kR)⟩
 f14:=⟨Tryz.f134.name,dE,func134.trans (zC some kR)⟩
 f15:=func108.trans (zC some kR)
 f20:=⟨Tryz.f185.name,dE,func185.trans (zC some kR)⟩
 f21:=⟨Tryz.f186.name,dE,func186.trans (zC some kR)⟩
 f22:=⟨Tryz.f187.name,dE,func187.trans (zC some kR)⟩
 f23:=⟨Tryz.f188.name,dE,func188.trans (zC some kR)⟩
 f24:=⟨Tryz.f189.name,dE,func189.trans (zC some kR)⟩
 f25:=⟨Tryz.f190.name,dE,func190.trans (zC some kR)⟩
 f26:=⟨Tryz.f191.name,dE,func191.trans (zC some kR)⟩
 f27:=⟨Tryz.f192.name,dE,func192.trans (zC some kR)⟩
 f28:=func170.trans (zC some kR)
 f29:=func171.trans (zC some kR)
 f46:=⟨Tryz.f235.name,dE,func235.trans (zC some kR)⟩
 f47:=func224.trans (zC some kR)
 f48:=func225.trans (zC some kR)
 f49:=⟨Tryz.f236.name,dE,func236.trans (zC some kR)⟩
 f50:=⟨Tryz.f237.name,dE,func237.trans (zC some kR)⟩
 f57:=⟨Tryz.f267.name,dE,func267.trans (zC some kR)⟩
 t0:=underlying0
 a0:=isAgg0
 z0:=sizeOf0
 v0:=zeroValue0
 t3:=underlying3
 a3:=isAgg3
 z3:=sizeOf3
 v3:=zeroValue3
 t4:=underlying4
 a4:=isAgg4
 z4:=sizeOf4
 v4:=zeroValue4
 t5:=underlying5
 a5:=isAgg5
 z5:=sizeOf5
 v5:=zeroValue5
 t9:=underlying9
 a9:=isAgg9
 z9:=sizeOf9
 v9:=zeroValue9
 t22:=underlying36
 a22:=isAgg36
 z22:=sizeOf36
 v22:=zeroValue36
 t25:=underlying149
 a25:=isAgg149
 z25:=sizeOf149
 v25:=zeroValue149
 t39:=underlying188
 a39:=isAgg188
 z39:=sizeOf188
 v39:=zeroValue188
 t45:=underlying231
 a45:=isAgg231
 z45:=sizeOf231
 v45:=zeroValue231
 t46:=underlying232
 a46:=isAgg232
 z46:=sizeOf232
 v46:=zeroValue232
 t50:=underlying168
 a50:=isAgg168
 z50:=sizeOf168
 v50:=zeroValue168
 t53:=underlying238
 a53:=isAgg238
 z53:=sizeOf238
 v53:=zeroValue238
 t55:=underlying240
 a55:=isAgg240
 z55:=sizeOf240
 v55:=zeroValue240
 t66:=underlying272
 a66:=isAgg272
 z66:=sizeOf272
 v66:=zeroValue272
 t70:=underlying276
 a70:=isAgg276
 z70:=sizeOf276
 v70:=zeroValue276
 t76:=underlying324
 a76:=isAgg324
 z76:=sizeOf324
 v76:=zeroValue324
 t77:=underlying325
 a77:=isAgg325
 z77:=sizeOf325
 v77:=zeroValue325 }
def Tryz.sortL_ren:fG:=⟨fun|6=>219|15=>108|14=>262|28=>170|29=>171|20=>290|21=>291|22=>292|23=>293|24=>294|25=>295|26=>296|27=>297|46=>312|47=>224|48=>225|49=>313|50=>314|57=>329|n=>n,fun|22=>228|24=>268|25=>270|3=>3|39=>188|0=>0|53=>238|55=>240|4=>4|46=>232|45=>231|50=>168|5=>5|9=>9|66=>272|70=>276|76=>324|77=>325|n=>n,fun|n=>n⟩
theorem Tryz.sortL:bW aA Tryz.sortL_ren:={
 mixed:=kR
 f6:=⟨Tryz.f219.name,dE,func219.trans (zC some kR)⟩
 f14:=⟨Tryz.f262.name,dE,func262.trans (zC some kR)⟩
 f15:=func108.trans (zC some kR)
 f20:=⟨Tryz.f290.name,dE,func290.trans (zC some kR)⟩
 f21:=⟨Tryz.f291.name,dE,func291.trans (zC some kR)⟩
 f22:=⟨Tryz.f292.name,dE,func292.trans (zC some kR)⟩
 f23:=⟨Tryz.f293.name,dE,func293.trans (zC some kR)⟩
 f24:=⟨Tryz.f294.name,dE,func294.trans (zC some kR)⟩
 f25:=⟨Tryz.f295.name,dE,func295.trans (zC some kR)⟩
 f26:=⟨Tryz.f296.name,dE,func296.trans (zC some kR)⟩
 f27:=⟨Tryz.f297.name,dE,func297.trans (zC some kR)⟩
 f28:=func170.trans (zC some kR)
 f29:=func171.trans (zC some kR)
 f46:=⟨Tryz.f312.name,dE,func312.trans (zC some kR)⟩
 f47:=func224.trans (zC some kR)
 f48:=func225.trans (zC some kR)
 f49:=⟨Tryz.f313.name,dE,func313.trans (zC some kR)⟩
 f50:=⟨Tryz.f314.name,dE,func314.trans (zC some kR)⟩
 f57:=⟨Tryz.f329.name,dE,func329.trans (zC some kR)⟩
 t0:=underlying0
 a0:=isAgg0
 z0:=sizeOf0
 v0:=zeroValue0
 t3:=underlying3
 a3:=isAgg3
 z3:=sizeOf3
 v3:=zeroValue3
 t4:=underlying4
 a4:=isAgg4
 z4:=sizeOf4
 v4:=zeroValue4
 t5:=underlying5
 a5:=isAgg5
 z5:=sizeOf5
 v5:=zeroValue5
 t9:=underlying9
 a9:=isAgg9
 z9:=sizeOf9
 v9:=zeroValue9
 t22:=underlying228
 a22:=isAgg228
 z22:=sizeOf228
 v22:=zeroValue228
 t25:=underlying270
 a25:=isAgg270
 z25:=sizeOf270
 v25:=zeroValue270
 t39:=underlying188
 a39:=isAgg188
 z39:=sizeOf188
 v39:=zeroValue188
 t45:=underlying231
 a45:=isAgg231
 z45:=sizeOf231
 v45:=zeroValue231
 t46:=underlying232
 a46:=isAgg232
 z46:=sizeOf232
 v46:=zeroValue232
 t50:=underlying168
 a50:=isAgg168
 z50:=sizeOf168
 v50:=zeroValue168
 t53:=underlying238
 a53:=isAgg238
 z53:=sizeOf238
 v53:=zeroValue238
 t55:=underlying240
 a55:=isAgg240
 z55:=sizeOf240
 v55:=zeroValue240
 t66:=underlying272
 a66:=isAgg272
 z66:=sizeOf272
 v66:=zeroValue272
 t70:=underlying276
 a70:=isAgg276
 z70:=sizeOf276
 v70:=zeroValue276
 t76:=underlying324
 a76:=isAgg324
 z76:=sizeOf324
 v76:=zeroValue324
 t77:=underlying325
 a77:=isAgg325
 z77:=sizeOf325
 v77:=zeroValue325 }
def Tryz.b3R:fG:=⟨fun|6=>55|15=>108|14=>107|28=>170|29=>171|20=>162|21=>163|22=>164|23=>165|24=>166|25=>167|26=>168|27=>169|46=>223|47=>224|48=>225|49=>226|50=>227|57=>264|n=>n,fun|22=>118|24=>123|25=>128|3=>3|39=>188|0=>0|53=>238|55=>240|4=>4|46=>232|45=>231|50=>168|5=>5|9=>9|66=>272|70=>276|76=>324|77=>325|n=>n,fun|n=>n⟩
theorem Tryz.b7t:bW aA Tryz.b3R:={
 mixed:=kR
 f6:=⟨Tryz.f55.name,dE,func55.trans (zC some kR)⟩
 f14:=⟨Tryz.f107.name,dE,func107.trans (zC some kR)⟩
 f15:=func108.trans (zC some kR)
 f20:=⟨Tryz.f162.name,dE,func162.trans (zC some kR)⟩
 f21:=⟨Tryz.f163.name,dE,func163.trans (zC some kR)⟩
 f22:=⟨Tryz.f164.name,dE,func164.trans (zC some kR)⟩
 f23:=⟨Tryz.f165.name,dE,func165.trans (zC some kR)⟩
 f24:=⟨Tryz.f166.name,dE,func166.trans (zC some kR)⟩
 f25:=⟨Tryz.f167.name,dE,func167.trans (zC some kR)⟩
 f26:=⟨Tryz.f168.name,dE,func168.trans (zC some kR)⟩
 f27:=⟨Tryz.f169.name,dE,func169.trans (zC some kR)⟩
 f28:=func170.trans (zC some kR)
 f29:=func171.trans (zC some kR)
 f46:=⟨Tryz.f223.name,dE,func223.trans (zC some kR)⟩
 f47:=func224.trans (zC some kR)
 f48:=func225.trans (zC some kR)
 f49:=⟨Tryz.f226.name,dE,func226.trans (zC some kR)⟩
 f50:=⟨Tryz.f227.name,dE,func227.trans (zC some kR)⟩
 f57:=⟨Tryz.f264.name,dE,func264.trans (zC some kR)⟩
 t0:=underlying0
 a0:=isAgg0
 z0:=sizeOf0
 v0:=zeroValue0
 t3:=underlying3
 a3:=isAgg3
 z3:=sizeOf3
 v3:=zeroValue3
 t4:=underlying4
 a4:=isAgg4
 z4:=sizeOf4
 v4:=zeroValue4
 t5:=underlying5
 a5:=isAgg5
 z5:=sizeOf5
 v5:=zeroValue5
 t9:=underlying9
 a9:=isAgg9
 z9:=sizeOf9
 v9:=zeroValue9
 t22:=underlying118
 a22:=isAgg118
 z22:=sizeOf118
 v22:=zeroValue118
 t25:=underlying128
 a25:=isAgg128
 z25:=sizeOf128
 v25:=zeroValue128
 t39:=underlying188
 a39:=isAgg188
 z39:=sizeOf188
 v39:=zeroValue188
 t45:=underlying231
 a45:=isAgg231
 z45:=sizeOf231
 v45:=zeroValue231
 t46:=underlying232
 a46:=isAgg232
 z46:=sizeOf232
 v46:=zeroValue232
 t50:=underlying168
 a50:=isAgg168
 z50:=sizeOf168
 v50:=zeroValue168
 t53:=underlying238
 a53:=isAgg238
 z53:=sizeOf238
 v53:=zeroValue238
 t55:=underlying240
 a55:=isAgg240
 z55:=sizeOf240
 v55:=zeroValue240
 t66:=underlying272
 a66:=isAgg272
 z66:=sizeOf272
 v66:=zeroValue272
 t70:=underlying276
 a70:=isAgg276
 z70:=sizeOf276
 v70:=zeroValue276
 t76:=underlying324
 a76:=isAgg324
 z76:=sizeOf324
 v76:=zeroValue324
 t77:=underlying325
 a77:=isAgg325
 z77:=sizeOf325
 v77:=zeroValue325 }
end Go.Proofs
namespace Go.Sx
open Go Go.Sort Go.Proofs
theorem a0P{w b T vs sp}(h:w.heap[b]?=some (zJ T (vs++sp))):Holds id w b 0 vs.toArray:=fun j O=>by
 have N:j<vs.length:=by simpa using O
 have h1:(vs++sp)[j]?=some vs[j]:=by rw[bG N];exact aK N
 have h2:vs.toArray[j]! =vs[j]:=by rw[getElem!_pos _ j O];simp
 refine⟨?_,?_⟩
 ·rw[h2];simp only[gI,h,zJ,Nat.zero_add];simpa using h1
 simp only[World.frozen?,h,zJ];simp
theorem b5Y{vs N sp:List Value}(O:N.length=vs.length):putCells id 0 N.toArray (vs++sp).toArray=(N++sp).toArray:=by
 apply fE
 intro k;simp only[putCells,Array.getElem?_mapIdx,List.getElem?_toArray,bK,bC,true_and,Nat.zero_add,Nat.sub_zero];rcases dL k vs.length with h|h
 ·have h1:(vs++sp)[k]?=some vs[k]:=by rw[bG h];exact aK h
  have h2:(N++sp)[k]?=some (N[k]'oM):=by rw[bG oM];exact aK _
  have h3:N.toArray[k]! =N[k]'oM:=by rw[getElem!_pos _ k (by simpa using(oM:k<N.length))];simp
  rw[h1,h2,bF,zF oM,h3];rfl
 rw[dA h,dA oM,O];cases sp[k-vs.length]? with
 |none=>rfl
 |some v=>rw[bF,zD oM]
theorem St.b7m{w I b T vs N sp} n os (hr:Ready I [(b,zJ T (vs++sp))] w)(hl:N.length=vs.length):
 St w [b] I I [(b,zJ T (N++sp))] (grow (putRow id (bI w n) b 0 N.toArray) os):=by
 obtain⟨r1,r2,_,r4⟩:=hr;have hb:=r2 _ (aQ.2 rfl);have a0:∀{c:Nat} {o':Obj},w.heap[c]?=some o'→c<w.heap.size:=fun {c o'} O=>by
  rcases dL c w.heap.size with h'|h'
  ·exact h'
  simp[aV h']at O
 have a3:(putRow id (bI w n) b 0 N.toArray).heap.size=w.heap.size:=by simp[putRow,mapBlock,bI]
 have W:∀c,c<w.heap.size→c≠b→(grow (putRow id (bI w n) b 0 N.toArray) os).heap[c]?=w.heap[c]?:=fun c O a2=>by
  simp only[grow];rw[dB oM];simp only[putRow,mapBlock,bI,dY,zD (Ne.symm a2)]
 have a1:(grow (putRow id (bI w n) b 0 N.toArray) os).heap[b]?=some (zJ T (N++sp)):=by
  have a4:=a0 hb;simp only[grow];rw[dB oM];simp only[putRow,mapBlock,bI,dY,if_true];rw[hb];simp only[bF,onCells,zJ];rw[b5Y hl]
 refine⟨rfl,rfl,rfl,?_,?_,?_,?_,sI,?_,?_,fun _ _=>rfl,aO _,a3p⟩
 ·simp only[grow,Array.size_append];omega
 ·intro c O hd;exact W c O (by simpa using hd)
 ·intro c o O;have h1:=r1 c o O;refine(W c (a0 h1) ?_).trans h1;rintro rfl;have:=r4 _ (aQ.2 rfl);rw[this]at O;cases O
 ·intro p Z;rw[aQ.1 Z];exact a1
 ·intro p Z;rw[aQ.1 Z];exact r4 (b,zJ T (vs++sp)) (aQ.2 rfl)
 intro p Z;rw[aQ.1 Z];exact .inl (.head _)
section
variable {α:Type} [Inhabited α] {enc:α→List Value} {k:Nat}
theorem NU(O:∀x,(enc x).length=k)(l:List α):flatK enc k l.toArray=(l.flatMap enc).toArray:=by
 refine ext_get! (by simp[CJ O]) fun t ht=>?_;have N:t<l.length*k:=by simpa using ht
 have h0:0<k:=by
  rcases Nat.eq_zero_or_pos k with e|e
  ·subst e;simp at N
  exact e
 have Z:t / k<l.length:=(Nat.div_lt_iff_lt_mul h0).2 N;have W:t % k<k:=Nat.mod_lt _ h0;rw[get_flatK _ _ _ _ (by simpa using N)];have h1:l.toArray[t / k]! =l[t / k]:=by rw[getElem!_pos _ _ (by simpa using Z)];simp
 have h2:l[t / k]?=some l[t / k]:=aK Z;have h3:=a7x O (sp:=[]) h2 (t % k) W;rw[bY,Nat.mul_comm,Nat.div_add_mod]at h3;have h4:t<(l.flatMap enc).length:=by rw[CJ O];exact N
 rw[h1,getElem!_pos _ t (by simpa using h4),List.getElem_toArray,getElem!_pos _ _ (by rw[O];exact W)];rw[aK h4,aK (by rw[O];exact W)]at h3;exact(Option.some.inj h3).symm
theorem a4J{l:List α}{N}(h:PermIn 0 l.length l.toArray N):N.toList.Perm l:=by
 obtain⟨h1,_,h3⟩:=h;have O:N.size=l.length:=by rw[h1];simp
 rw[←O]at h3;simp only[fH]at h3;rw[O]at h3;have W:l.toArray.extract 0 l.length=l.toArray:=by
  have:=fH (xs:=l.toArray)
  rwa [bK]at this
 rw[W]at h3;simpa using h3
theorem sorted_in{lt}{N:Array α}(h:SortedIn lt 0 N.size N):N.toList.Pairwise fun x y=>lt y x=false:=by
 rw[List.pairwise_iff_getElem];intro i j hi hj W;have Z:i<N.size:=by simpa using hi
 have O:j<N.size:=by simpa using hj
 have:=h i j (bC _) W O;rw[getElem!_pos N i Z,getElem!_pos N j O]at this;simpa using this
end
end Go.Sx
namespace Go.Proofs.YtekmeaoblpfnpaaGreatDoor
open Go Go.Shelf Go.RowKit Go.Lib Go.Sort
abbrev recC (x:dS):List Value:=[.int .i64 x.1,.int .i64 x.2]
theorem DU x:(recC x).length=2:=rfl
abbrev JX (x:List UInt8×Int):List Value:=[Sx.str x.1,.int .i64 x.2]
theorem JZ x:(JX x).length=2:=rfl
def ZB (x y:dS):Int:=LP (compareInt x.1 y.1) (compareInt x.2 y.2)
def ZF (x y:List UInt8×Int):Int:=KN x.1 y.1
theorem UG x y:ltOf ZB x y=Ix.CB x y:=by
 rw[Bool.eq_iff_iff,Ix.UH];unfold ltOf ZB LP compareInt;rw[zG]
 repeat(first|omega|split)
theorem b1J:SWO (ltOf ZB) where
 irrefl x:=by rw[UG];exact Ix.ER x
 trans x y z h1 h2:=by rw[UG]at *;exact Ix.MC h1 h2
 ntrans x y z h1 h2:=by
  rw[UG,Bool.eq_false_iff,Ne,Ix.UH]at *;omega
theorem VF x y:ltOf ZF x y=decide (x.1<y.1):=by
 unfold ltOf ZF KN;rw[decide_eq_decide]
 by_cases h:x.1<y.1
 ·rw[zF h];simp[h]
 rw[zD h]
 by_cases h2:y.1<x.1
 ·rw[zF h2];simp[h]
 rw[zD h2];simp[h]
theorem b0a:SWO (ltOf ZF) where
 irrefl x:=by rw[VF];exact zI (List.lt_irrefl _)
 trans x y z h1 h2:=by
  rw[VF]at *;exact zH (List.lt_trans (EX h1) (EX h2))
 ntrans x y z h1 h2:=by
  rw[VF]at *;have N:=fK.1 (JE h1);have O:=fK.1 (JE h2);exact zI (fK.2 (List.le_trans O N))
theorem a0O{base} l g (hg:Sx.BN base 2 l.length (l.flatMap recC) g)(hl:l.length≤100000000000000) I:Sx.yY aA 77 [Sx.gV l.length g,.func (.func 78) #[] #[]] I (Sx.gH 54 (l.flatMap recC) g)
 (fun e a3 H'=>∃O:List dS,O.Perm l∧O.Pairwise (fun p q=>Ix.CB q p=false)∧e= .returned (.tuple #[])∧H'=Sx.gH 54 (O.flatMap recC) g):=by
 cases g with
 |none=>
  obtain⟨h1,h2⟩:=hg;have h0:l=[]:=dN.1 h1;subst h0;exact(fP (dM Tryz.func77 dE rfl) (fun w _=>dF Tryz.b7z none 0 (.func (.func 78) #[] #[]) w)).mono fun e _ H' _ ⟨h1,_,h3⟩=>⟨[],fQ _,List.Pairwise.nil,h1,h3⟩
 |some q=>
  obtain⟨b,c,sp⟩:=q;refine⟨dM Tryz.func77 dE rfl,fun w hw=>?_⟩;have W:=hw.2.1 _ (.head _);have a1:b<w.heap.size:=by
   rcases dL b w.heap.size with h|h
   ·exact h
   rw[aV h]at W;cases W
  have eg:∀args w,(callFunc 78 args).run aA w= .ok (.enter 78 args) w:=enters_of Tryz.func78 kR rfl;have hH:HoldsK recC 2 w b 0 l.toArray:=by
   unfold HoldsK;rw[Sx.NU DU];exact Sx.a0P W
  have Z:CmpLays aA 78 #[] recC 2 ZB b 0 l.toArray.size w:=fun m os _ _ x y=>a9v x.1 x.2 y.1 y.2 _;have a0:=eU Tryz.b7z 2 OH FM recC DU (fun x v hv=>by
   simp only[fU,fM,or_false]at hv;rcases hv with rfl|rfl<;>rfl) ZB b1J 78 #[] b 0 c l.toArray w eg Z hH a1 (by simp;omega)
  refine a0.mono fun e w' ⟨h1,N,n,os,h2,h3,h4⟩=>?_;rw[bK]at h2 h3;have hp:=Sx.a4J h2;have a2:N.size=l.length:=by have:=hp.length_eq;simpa using this
  rw[←a2]at h3;refine⟨I,_,?_,N.toList,hp,(Sx.sorted_in h3).imp fun h=>?_,h1,rfl⟩
  ·rw[h4];unfold sortWorldK putRowK;rw[show N=N.toList.toArray from(eX (xs:=N)).symm,Sx.NU DU];exact Sx.St.b7m n os hw (by rw[dQ DU,dQ DU,hp.length_eq])
  rw[UG]at h;exact h
theorem a2L{base} l g (hg:Sx.BN base 2 l.length (l.flatMap JX) g)(hl:l.length≤100000000000000) I:Sx.yY aA 219 [Sx.gV l.length g,.func (.func 220) #[] #[]] I (Sx.gH 268 (l.flatMap JX) g)
 (fun e a3 H'=>∃O:List (List UInt8×Int),O.Perm l∧O.Pairwise (fun p q=>¬q.1<p.1)∧e= .returned (.tuple #[])∧H'=Sx.gH 268 (O.flatMap JX) g):=by
 cases g with
 |none=>
  obtain⟨h1,h2⟩:=hg;have h0:l=[]:=dN.1 h1;subst h0;exact(fP (dM gG dE rfl) (fun w _=>dF Tryz.sortL none 0 (.func (.func 220) #[] #[]) w)).mono fun e _ H' _ ⟨h1,_,h3⟩=>⟨[],fQ _,List.Pairwise.nil,h1,h3⟩
 |some q=>
  obtain⟨b,c,sp⟩:=q;refine⟨dM gG dE rfl,fun w hw=>?_⟩;have W:=hw.2.1 _ (.head _);have a1:b<w.heap.size:=by
   rcases dL b w.heap.size with h|h
   ·exact h
   rw[aV h]at W;cases W
  have eg:∀args w,(callFunc 220 args).run aA w= .ok (.enter 220 args) w:=enters_of Tryz.func220 kR rfl;have hH:HoldsK JX 2 w b 0 l.toArray:=by
   unfold HoldsK;rw[Sx.NU JZ];exact Sx.a0P W
  have Z:CmpLays aA 220 #[] JX 2 ZF b 0 l.toArray.size w:=fun m os _ _ x y=>b5V x.1 y.1 x.2 y.2 _;have a0:=eU Tryz.sortL 2 Tryz.isAgg268 YJ JX JZ (fun x v hv=>by
   simp only[fU,fM,or_false]at hv;rcases hv with rfl|rfl<;>rfl) ZF b0a 220 #[] b 0 c l.toArray w eg Z hH a1 (by simp;omega)
  refine a0.mono fun e w' ⟨h1,N,n,os,h2,h3,h4⟩=>?_;rw[bK]at h2 h3;have hp:=Sx.a4J h2;have a2:N.size=l.length:=by have:=hp.length_eq;simpa using this
  rw[←a2]at h3;refine⟨I,_,?_,N.toList,hp,(Sx.sorted_in h3).imp fun h=>?_,h1,rfl⟩
  ·rw[h4];unfold sortWorldK putRowK;rw[show N=N.toList.toArray from(eX (xs:=N)).symm,Sx.NU JZ];exact Sx.St.b7m n os hw (by rw[dQ JZ,dQ JZ,hp.length_eq])
  rw[VF]at h;exact JE h
