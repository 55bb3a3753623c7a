/-
  Own texts on the laws of the seat, joined: the logic, and contracts of functions. Conditions: none.
-/
import Derived.Test.YtalapkjmkjmpjaaGreatDoorNmK
import Derived.Test.YtalapkjmkjmpjaaGreatDoorPK18
set_option linter.all false
set_option maxRecDepth 100000
set_option maxHeartbeats 40000000
open Ke renaming words -> aA,digits -> aJ,plainW -> aO,a1i -> aZ,all -> bG
open Go.Sx.J renaming z -> aB,op -> bK
open Go.Proofs.Tryz renaming prog -> aC,underlying27 -> aG,zeroValue63 -> aH,underlying26 -> aQ,sizeOf63 -> bC,underlying63 -> bV,zeroValue39 -> cO,sizeOf39 -> dK,sizeOf49 -> dL,isAgg61 -> dQ,sizeOf4 -> dR
open Ix renaming keyed -> aF,EW -> aV,keyOf -> aY,a0e -> bJ,Few -> dA,ents -> dF,scan -> dI,b6Y -> dJ
open Go.Sx.DC renaming one -> aI,none -> bQ
open Go.Sx.Ej renaming round -> aK,keepR -> cZ
open Bk renaming keyOf -> aN,YF -> bI,a3r -> bM,a5j -> bT
open Go.Sx.yX renaming YR -> aP,RU -> bZ
open Cq renaming a3u -> aS,a0w -> bU,up -> dB,form -> dH,Qn -> dM,depth -> dS,right -> dU
open Go.Sx.Cj renaming EX -> aT,loop -> bF
open Go.Sx.JA renaming zt -> aU
open Go.Proofs.YtalapkjmkjmpjaaGreatDoor.Fv renaming f -> aW
open Prod renaming fst -> aX,snd -> dP
open Go.Sx.yY renaming toPure -> bD
open Go.IntKind renaming u8 -> bH,wrap_i64 -> bY
open Go.Sx.Src renaming slice -> bP
open List renaming take_sublist -> bW
open Go.Value renaming bool -> dD
open Go.Sx.Keeps renaming d -> dG
open BitVec renaming ofInt -> dN
section
namespace Bk
open _root_.Go.Proofs.Tryz
def q1 (a:UInt8):List UInt8:=([34]++Ix.a1R (a.toNat:Int))++[34]
def qt1 (a b:UInt8):List UInt8:=(([116,105,116,108,101,32,61,32]++q1 a)++[32,111,114,32,97,117,116,104,111,114,32,97,110,121,32])++q1 b
def qt2 (a b:UInt8):List UInt8:=(([97,110,121,32,97,110,121,32]++q1 a)++[32,110,111,116,32,116,105,116,108,101,32,61,61,32])++q1 b
def qt3 (a b:UInt8):List UInt8:=(([116,105,116,108,101,32,97,108,108,32]++q1 a)++[32,97,110,100,32,97,110,121,32,61,32])++q1 b
def qt4 (a:UInt8):List UInt8:=[116,105,116,108,101,32,62,61,32]++q1 a
def qt5 (a b:UInt8):List UInt8:=((([115,117,98,106,101,99,116,32,97,110,121,32]++q1 a)++[32,111,114,32,40,105,115,98,110,32,61,32])++q1 b)++[32,111,114,32,121,101,97,114,32,60,32,50,48,48,48,41]
def ZV (k a b:UInt8) (raw:List UInt8):List UInt8:=
 if k.toNat % 7=0 then q1 a else if k.toNat % 7=1 then qt1 a b else if k.toNat % 7=2 then qt2 a b else if k.toNat % 7=3 then qt3 a b else if k.toNat % 7=4 then qt4 a else if k.toNat % 7=5 then qt5 a b else raw
theorem b9X (n : Int) : (Ix.a1R n).length ≤ 40 := by
  unfold Ix.a1R
  rw [List.getD_eq_getElem?_getD]
  cases h : Ix.a1P[(n % 20).toNat]? with
  | none => exact Nat.zero_le _
  | some w => exact (by decide : ∀ w ∈ Ix.a1P, w.length ≤ 40) w (List.mem_of_getElem? h)
theorem c2s a:(q1 a).length≤42:=by
 have:=b9X (a.toNat:Int);unfold q1;rw[wV,wV,wJ];omega
theorem c3j k a b raw:(ZV k a b raw).length≤raw.length+200:=by
 have h1:=c2s a;have h2:=c2s b;unfold ZV
 repeat(first|split|(simp only[qt1,qt2,qt3,qt4,qt5,wV,wU,wL];omega)|omega)
end Bk
namespace Go.Proofs.YtalapkjmkjmpjaaGreatDoor
open Go Go.Sx
structure Qz where
  k:UInt8
  a:UInt8
  b:UInt8
  raw:List UInt8
  most:Int
abbrev qzC (q:Qz):List Value:=[u8 q.k,u8 q.a,u8 q.b,str q.raw,i64 q.most]
abbrev Qz.t (q:Qz):List UInt8:=Bk.ZV q.k q.a q.b q.raw
section
variable {cx:Cx} {o:Oper} {e:Env} {S:World→Prop}
theorem c8S{x y T U k G p}{n:Nat}(M:o.op= .binOp .shr T x y U)(N:ev e x=some (.int k p))(O:ev e y=some (.int G (n:Int))):BN cx o e S (.int k (p.fdiv (2 ^ min n k.bits))):=by
 intro a w A _;have h:¬((n:Int)<0):=oM;simp[execOp,M,A.eval N,A.eval O,eqGuard,binOp,Op.shift,h]
end
def d1z (c:UInt8) (k:Nat):Bool:=(bH.wrap ((dN bH.bits ((c.toNat:Int).fdiv (2 ^ min k bH.bits)) &&& dN bH.bits 1).toNat:Int) == 1)
def a1o (I:Heap) (L:List (Rw Act)) (v:Value):Prop:=zJ rwC I L v∧∀x∈L,VK I x.l x.v
theorem a1o.mono{I G L v}(h:a1o I L v)(A:Le I G):a1o G L v:=⟨h.1.mono A,fun x M=>(h.2 x M).mono A⟩
theorem VK.take8{I l a c}(h:VK I l (.slice a l.length c)):VK I (l.take 8) (.slice a (min l.length 8) c):=by
 refine⟨?_,fun x A=>h.2 x (vO A)⟩;have h1:=zJ.take h.1 (sV l.length 8)
 rwa [a7q]at h1
theorem d1i{l:List Act}{es:List DT}(h:es.map zQ=dF (acts (l.take 8))):es.length≤8:=by
 have h1:=zC List.length h;unfold dF at h1;simp only[wO,wI]at h1;omega
structure RL where
  es:List DT
  v:Value
  cl:Bool
abbrev rlC (x:RL):List Value:=[x.v,.bool x.cl]
theorem a6s x:(rlC x).length=2:=rfl
def d0n (x:Value×Option Bk.Lb) (r:RL):Prop:=(r.cl=true→x.2=none)∧(r.cl=false→x.2=some (bI (r.es.map KQ))∧r.es.length≤8∧(∀e∈r.es,RI e.fs)∧dA (bJ (r.es.map zQ) []))
structure TLb where
  k:Nat
  J:Heap
  xs:List (Value×Option Bk.Lb)
  bs:List RL
  ga:Gs
  gb:Gs
def a8d (I:Heap) (bs:List RL) (w:Value):Prop:=zJ rlC I bs w∧∀r∈bs,EU I r.es r.v
theorem a8d.mono{I G bs w}(h:a8d I bs w)(A:Le I G):a8d G bs w:=⟨h.1.mono A,fun x M=>(h.2 x M).mono A⟩
structure OV (I:Heap) (c:UInt8) (xs:List (Value×Option Bk.Lb)) (bs:List RL):Prop where
  lib:∀x∈xs,a7m I x.1 x.2
  ref:∀r∈bs,EU I r.es r.v
  len:xs.length=bs.length
  few:xs.length≤4
  at_:∀(k:Nat) x r,xs[k]?=some x→bs[k]?=some r→d0n x r
theorem OV.nil{I c}:OV I c [] []:=⟨fun _ h=>(by cases h),fun _ h=>(by cases h),rfl,dE,fun _ _ _ h=>(by simp at h)⟩
theorem OV.mono{I M c xs bs}(h:OV I c xs bs)(A:Le I M):OV M c xs bs:=⟨fun x G=>(h.lib x G).mono A,fun x G=>(h.ref x G).mono A,h.len,h.few,h.at_⟩
theorem b0u{α:Type}{l:List α}{x y:α}{k:Nat}(h:(l++[x])[k]?=some y):(k<l.length∧l[k]?=some y)∨(k=l.length∧y=x):=by
 rcases tC k l.length with g|g
 ·rw[xJ g]at h;exact .inl ⟨g,h⟩
 rw[xI g]at h;rcases tC 0 (k-l.length)with j|j
 ·rw[xE (by rw[wJ];omega)]at h;cases h
 have:k=l.length:=oM;subst this;rw[Nat.sub_self]at h;cases h;exact .inr rT
theorem OV.snoc{I:Heap}{c:UInt8}{xs:List (Value×Option Bk.Lb)}{bs:List RL}(h:OV I c xs bs){x:Value×Option Bk.Lb}{r:RL}(M:a7m I x.1 x.2)(N:EU I r.es r.v)(O:d0n x r)(Q:xs.length<4):OV I c (xs++[x]) (bs++[r]) where
 lib y A:=(wB.1 A).elim (h.lib y) fun e=>by rw[vN.1 e];exact M
 ref y A:=(wB.1 A).elim (h.ref y) fun e=>by rw[vN.1 e];exact N
 len:=by rw[wV,wV,h.len];rfl
 few:=by rw[wV];exact Q
 at_ k y s A G:=by
  rcases b0u A with⟨g,A⟩|⟨g,rfl⟩
  ·rcases b0u G with⟨_,G⟩|⟨Z,_⟩
   ·exact h.at_ k y s A G
   have:=h.len;omega
  rcases b0u G with⟨Z,_⟩|⟨_,rfl⟩
  ·have:=h.len;omega
  exact O
theorem JZ.same{p os S T}(N:JZ p os S)(O:JZ p os T)(Q:S.length=T.length):flt aW (S.map aX)=flt aW (T.map aX)∧S.map dP=T.map dP:=by
 have key:∀(i:Nat) x y,S[i]?=some x→T[i]?=some y→x.1.l.map aW=y.1.l.map aW∧x.2=y.2:=fun i x y A G=>by
  obtain⟨o,ho,ha⟩:=N i x A;obtain⟨_,M,hb⟩:=O i y G;rw[ho]at M;cases M;exact Bk.d0m ha hb
 have two:∀{β:Type} (φ:FE→β),(∀(i:Nat) x y,S[i]?=some x→T[i]?=some y→φ x=φ y)→S.map φ=T.map φ:=fun φ h=>by
  refine List.ext_getElem? fun i=>?_;rw[xB,xB];cases A:S[i]? with
  |none=>
   have:T[i]?=none:=by rw[List.getElem?_eq_none_iff]at A ⊢;omega
   rw[this]
  |some x=>
   have hi:=(xC.1 A).1;have G:T[i]?=some (T[i]'(Q▸hi)):=xG _;rw[G];exact zC some (h i x _ A G)
 have e:∀Z:List FE,flt aW (Z.map aX)=(Z.map fun x=>x.1.l.map aW).flatten:=fun Z=>by
  unfold flt;rw[List.flatMap_def,wE];rfl
 exact⟨by rw[e,e,two _ fun i x y A G=>(key i x y A G).1],two _ fun i x y A G=>(key i x y A G).2⟩
theorem c4n{p o k n fs e}(h:Bk.ans p o k fs e)(A:∀b,o=some b→b.L.length≤n):fs.length≤n∧Bk.OI fs≤n:=by
 unfold Bk.ans at h
 split at h
 ·obtain⟨rfl,-⟩:=h;exact⟨sQ _,sQ _⟩
 cases o with
 |none=>
  obtain⟨rfl,-⟩:=h;exact⟨sQ _,sQ _⟩
 |some b=>
  obtain⟨-,r,h2,rfl⟩:=h;have h3:=A b rfl;have G:r.length≤b.L.length:=h2.len;rw[Bk.a8p];exact⟨by unfold Bk.found;rw[wO];omega,oM⟩
theorem JZ.few{p}{os:List (Option Bk.Lb)}{n}(A:∀b,some b∈os→b.L.length≤n):∀{S:List FE},(∀x∈S,∃o∈os,∃i,Bk.ans p o i (x.1.l.map aW) x.2)→(flt aW (S.map aX)).length≤S.length*n∧Bk.OI (flt aW (S.map aX))≤S.length*n
 |[],_=>⟨sQ _,sQ _⟩
 |x::S,h=>by
  obtain⟨h1,h2⟩:=JZ.few A (S:=S) fun y G=>h y (.tail _ G);obtain⟨o,M,i,N⟩:=h x (.head _);obtain⟨h3,_⟩:=c4n N fun b e=>A b (e▸M);have e:flt aW ((x::S).map aX)=x.1.l.map aW++flt aW (S.map aX):=rfl;rw[e,wV,Bk.VB,wU,Nat.add_mul];omega
theorem b0K(es:List DT):(bI (es.map KQ)).L.length≤es.length:=by
 have h:∀L l:Ix.Ix,(bJ L l).length≤l.length+L.length:=by
  intro L
  induction L with
  |nil=>intro l;exact Nat.le_add_right _ _
  |cons e L A=>
   intro l;have h1:=A (Ix.OM e.1 e.2 l);have h2:=a3Z e.1 e.2 l;show(bJ L (Ix.OM e.1 e.2 l)).length≤_;rw[wU];omega
 have:=h ((es.map KQ).map fun e=>(e.1,Ix.vals e.2)) [];rw[wO,wO,wL,sS]at this;exact this
theorem OV.lens{I c xs bs}(h:OV I c xs bs):∀b,some b∈xs.map dP→b.L.length≤8:=fun b N=>by
 obtain⟨x,O,A⟩:=vU.1 N;obtain⟨i,G⟩:=List.getElem?_of_mem O;have M:i<bs.length:=by have:=(xC.1 G).1;have:=h.len;omega
 obtain⟨h1,h2⟩:=h.at_ i x _ G (xG M);cases hc:(bs[i]).cl with
 |true=>rw[h1 hc]at A;cases A
 |false=>
  obtain⟨h3,_,_⟩:=h2 hc;rw[h3]at A;cases A;have:=b0K (bs[i]).es;omega
theorem a8i{s}(h:s.length≤1500000):(Cq.parse s).1.size≤1000000000∧(Cq.parse s).1.wide≤10000000:=by
 have h1:=Cq.b9Y s;have h2:=Cq.b6p s;exact⟨oM,oM⟩
theorem d0Z{I}{r:List Fv}{xs}(M:Bk.NZ xs (r.map aW))(O:Bk.OI xs≤1000000000)(N:∀z∈r,YH I z){l:List Fv}(A:∀z∈l,z∈r):∀z∈l,zJ EP I z.f.p z.v∧z.f.p.length≤1000000000:=fun z G=>⟨(N z (A z G)).1,by
 have:=M.each z.f (vT (A z G));omega⟩
theorem c9t{xs}{r:List Fv}(h:Bk.NZ xs (r.map aW)):r.length≤xs.length:=by
 have:=h.len
 rwa [wO]at this
theorem b7f{α:Type}(l:List α)(most:Int):l.take (min l.length most.toNat)=l.take most.toNat:=by
 rcases Nat.le_total l.length most.toNat with h|h
 ·rw[sW h,tY,tX h]
 rw[Nat.min_eq_right h]
theorem c6y(n:Nat) most:(if (0:Int)>(if most<(n:Int)then most else(n:Int))then(0:Int)else(if most<(n:Int)then most else(n:Int)))=((min n most.toNat:Nat):Int):=by
 repeat(first|omega|split)
theorem c9T{es:List DT}{l}(h:es.map zQ=dF l)(G:es.length≤8):dA (bJ (es.map zQ) []):=by
 refine⟨?_,fun e A=>?_⟩
 ·have h1:=b0K es;have h2:(bI (es.map KQ)).L=bJ (es.map zQ) []:=by
   unfold bI;dsimp only;rw[wE];rfl
  rw[h2]at h1;omega
 rcases Bk.a5o _ _ _ A with g|g
 ·rw[h]at g;unfold dF at g;obtain⟨a,_,rfl⟩:=vU.1 g;exact⟨a,rfl⟩
 cases g
theorem b5B q I:Pure aC 7 [.agg (qzC q).toArray] I (str q.t):=by
 refine bD ?_;have a6:q.k.toNat % 7<7:=Nat.mod_lt _ dE;have a7:=Ix.a5F (q.a.toNat:Int);have a8:=Ix.a5F (q.b.toNat:Int);refine zN Tryz.func7 fun w0 _=>?_;refine yU 3 ?_;intro _ _;refine yU 4 ?_;refine aT [0] [] 14 kR ?_;refine yU 3 ?_;refine JA.ez 7 (i64 (q.a.toNat:Int)) rfl (zC i64 (by rw[bY];have:=q.a.toNat_lt;omega)) ?_;refine yU 3 ?_;refine JA.ez 13 (i64 (q.b.toNat:Int)) rfl (zC i64 (by rw[bY];have:=q.b.toNat_lt;omega)) ?_;refine zO (a3R (q.a.toNat:Int) _) ?_;refine yU 1 ?_;refine aU 4 rfl (BQ rfl rfl rfl (by first|omega|(simp only[wV];omega)|(simp;omega))) ?_;refine aU 5 rfl (BQ rfl rfl rfl (by first|omega|(simp only[wV];omega)|(simp;omega))) ?_;refine zO (a3R (q.b.toNat:Int) _) ?_;refine yU 1 ?_;refine aU 10 rfl (BQ rfl rfl rfl (by first|omega|(simp only[wV];omega)|(simp;omega))) ?_;refine aU 11 rfl (BQ rfl rfl rfl (by first|omega|(simp only[wV];omega)|(simp;omega))) ?_;refine yU 10 ?_;refine J.ez 19 (.int .u8 ((q.k.toNat % 7:Nat):Int)) rfl (zC (Value.int .u8) (by rw[Int.tmod_eq_emod_of_nonneg (Int.natCast_nonneg _)];push_cast;rfl)) ?_;refine yZ ?_ ?_<;>intro a1 M
 ·refine zV ?_;have A:q.t=Bk.q1 q.a:=by unfold Qz.t Bk.ZV;rw[zF oM]
  rw[A];exact rT
 refine yZ ?_ ?_<;>intro a2 N
 ·refine yU 3 ?_;refine aB (BQ rfl rfl rfl (by first|omega|(simp only[wV];omega)|(simp;omega))) ?_;refine aB (BQ rfl rfl rfl (by first|omega|(simp only[wV];omega)|(simp;omega))) ?_;refine yU 1 ?_;refine aB (BQ rfl rfl rfl (by first|omega|(simp only[wV];omega)|(simp;omega))) ?_;refine zV ?_;have A:q.t=Bk.qt1 q.a q.b:=by unfold Qz.t Bk.ZV;rw[zD oM,zF oM]
  rw[A];exact rT
 refine yZ ?_ ?_<;>intro a3 O
 ·refine yU 3 ?_;refine aB (BQ rfl rfl rfl (by first|omega|(simp only[wV];omega)|(simp;omega))) ?_;refine aB (BQ rfl rfl rfl (by first|omega|(simp only[wV];omega)|(simp;omega))) ?_;refine yU 1 ?_;refine aB (BQ rfl rfl rfl (by first|omega|(simp only[wV];omega)|(simp;omega))) ?_;refine zV ?_;have A:q.t=Bk.qt2 q.a q.b:=by unfold Qz.t Bk.ZV;rw[zD oM,zD oM,zF oM]
  rw[A];exact rT
 refine yZ ?_ ?_<;>intro a4 Q
 ·refine yU 3 ?_;refine aB (BQ rfl rfl rfl (by first|omega|(simp only[wV];omega)|(simp;omega))) ?_;refine aB (BQ rfl rfl rfl (by first|omega|(simp only[wV];omega)|(simp;omega))) ?_;refine yU 1 ?_;refine aB (BQ rfl rfl rfl (by first|omega|(simp only[wV];omega)|(simp;omega))) ?_;refine zV ?_;have A:q.t=Bk.qt3 q.a q.b:=by unfold Qz.t Bk.ZV;rw[zD oM,zD oM,zD oM,zF oM]
  rw[A];exact rT
 refine yZ ?_ ?_<;>intro a5 Z
 ·refine yU 3 ?_;refine aB (BQ rfl rfl rfl (by first|omega|(simp only[wV];omega)|(simp;omega))) ?_;refine zV ?_;have A:q.t=Bk.qt4 q.a:=by unfold Qz.t Bk.ZV;rw[zD oM,zD oM,zD oM,zD oM,zF oM]
  rw[A];exact rT
 refine yZ ?_ ?_<;>intro a0 G
 ·refine yU 3 ?_;refine aB (BQ rfl rfl rfl (by first|omega|(simp only[wV];omega)|(simp;omega))) ?_;refine aB (BQ rfl rfl rfl (by first|omega|(simp only[wV];omega)|(simp;omega))) ?_;refine yU 1 ?_;refine aB (BQ rfl rfl rfl (by first|omega|(simp only[wV];omega)|(simp;omega))) ?_;refine aB (BQ rfl rfl rfl (by first|omega|(simp only[wV];omega)|(simp;omega))) ?_;refine zV ?_;have A:q.t=Bk.qt5 q.a q.b:=by unfold Qz.t Bk.ZV;rw[zD oM,zD oM,zD oM,zD oM,zD oM,zF oM]
  rw[A];exact rT
 refine zV ?_;have A:q.t=q.raw:=by unfold Qz.t Bk.ZV;rw[zD oM,zD oM,zD oM,zD oM,zD oM,zD oM]
 rw[A];exact rT
theorem b6a L v c (ap:∀x∈L,a0u x.l) I (hL:a1o I L v):yY aC 5 [v,u8 c] I []
 (fun e I' H'=>∃xs bs wa wb,e= .returned (.tuple #[wa,wb])∧a1j I' xs wa∧a8d I' bs wb∧OV I' c xs bs∧H'=[]):=by
 obtain⟨pL,cL,rfl,_,-⟩:=id hL.1;refine zN Tryz.func5 fun w0 _=>?_;refine yU 23 ?_;refine bF (ι:=TLb) (fun y=>y.k≤L.length∧y.k≤4∧a1o y.J L (.slice pL L.length cL)∧OV y.J c y.xs y.bs∧y.xs.length=y.k∧AL w0.heap.size 1 y.xs.length (y.xs.flatMap lvC) y.ga∧AL w0.heap.size 2 y.bs.length (y.bs.flatMap rlC) y.gb) (fun y=>4-y.k) (fun y=>[(0,.slice pL L.length cL),(1,u8 c),(6,gV y.xs.length y.ga),(7,gV y.bs.length y.gb),(8,i64 (y.k:Int))]) (fun y=>y.J) (fun y=>gH 39 (y.xs.flatMap lvC) y.ga++gH 63 (y.bs.flatMap rlC) y.gb) ⟨0,_,[],[],none,none⟩ ⟨sQ _,sQ _,hL,OV.nil,rfl,⟨rfl,rfl⟩,⟨rfl,rfl⟩⟩ rT rfl rfl ?_;rintro⟨k,_,xs,bs,ga,gb⟩ ⟨hk,aq,Q,M,a4,Z,a0⟩;dsimp only at hk aq Q M a4 Z a0 ⊢;have b7:=M.len;refine DZ ?_ ?_<;>intro ar ae
 ·refine yZ ?_ ?_<;>intro au af
  ·refine yU 5 ?_;have a9:k<L.length:=oM;have b6:k<4:=oM;obtain⟨⟨rl,ra,rc⟩,a2⟩:∃r,L[k]?=some r:=⟨_,xG a9⟩;have aa:=vS a2;have ag:a0u rl:=ap _ aa;obtain⟨_,_,av,_,hp⟩:=id Q.1;cases av;obtain⟨_,fo,_,_,_,_,rfl,a1,ab⟩:=hp (zK a9);have O:VK _ rl (.slice ra rl.length rc):=Q.2 _ aa;have b8:rl.length≤rc:=by
    obtain⟨_,_,ah,aw,-⟩:=id O.1;cases ah;exact aw
   refine aT [] [] 13 kR ?_;have a3:=a1;refine zW (fo+k) ?_;refine aU 3 rfl (DI dQ (bZ a3) (a1g ab a2)) ?_;refine JA.ez 23 (.slice ra rl.length rc) rfl rfl ?_;refine zW (fo+k) ?_;refine aU 7 rfl (DI dQ (bZ a3) (a1g ab a2)) ?_;refine JA.ez 27 (.slice ra rl.length rc) rfl rfl ?_;refine yU 1 ?_;refine aU 9 rfl (LJ rfl rfl rfl) ?_;refine aU 10 rfl (IG (k:=(min rl.length 8)) rfl rfl rfl Tryz.underlying61 Tryz.sizeOf101 (by split<;>omega) oM) ?_;refine zX (c0t (rl.take 8) _ (fun x9 ax=>ag x9 (vO ax)) _ O.take8) ?_;intro _ _ _ A ay;have Q:=Q.mono A;have M:=M.mono A;have a1:=A _ _ a1;obtain⟨es,_,h,hE,ac,ad,_,rfl⟩:=ay;cases h;have a5:=d1i ac;obtain⟨pe,ce,az,_,-⟩:=id hE.1;subst az;refine yU 9 ?_;refine aB (c8S rfl rfl rfl) ?_;refine aB (d0B rfl rfl rfl) ?_;refine yU 1 ?_;refine J.ez 36 (.bool (d1z c k)) rfl rfl ?_;refine yZ ?_ ?_<;>intro ai a8
   ·refine yU 4 ?_;intro _ _;refine J.perm (H':=[_]++(gH _ _ _++gH _ _ _)) (IZ [_] _ _) ?_;refine bK rfl (zT (by':=7) ([_]++gH _ _ _) rfl rfl rfl rfl rfl aQ (.inr ⟨_,aQ⟩) kR dK cO rfl Z rfl (bP (yX.at 0 rfl) rfl rfl rfl) oM ?_);intro b0 aj;refine aB zS ?_;refine aB (zL (pl:= #[(0,1),(1,1)]) rfl rfl aH rfl bV (fun w=>by simp[dR,dL]) (GU.part rfl rfl rfl (AX.s (AX.c AX.z)) GU.none)) ?_;refine bK rfl (CY aG bC aH (DC.agg rfl bQ) ?_);intro _ _;refine J.perm (H':=[_,_]++(gH _ _ _++gH _ _ _)) (IZ [_,_] _ _) ?_;refine bK rfl (zT (by':=31) ([_,_]++gH _ _ _) rfl rfl rfl rfl rfl aG (.inr ⟨_,aG⟩) kR bC aH rfl a0 rfl (bP (yX.at 0 rfl) rfl rfl rfl) oM ?_);intro b1 al;refine yU 13 ?_;refine Ej.keep (dG (dG Keeps.r)) ?_;refine aK ⟨k+1,_,xs++[(.pointer none,none)],bs++[⟨[],.slice none 0 0,true⟩],b0,b1⟩ ⟨dO,dO,Q,M.snoc (r:=⟨[],.slice none 0 0,true⟩) (.inl rT) EU.nil ⟨fun _=>rfl,fun h=>(by cases h)⟩ oM,by dsimp only;rw[wV,a4];rfl,by dsimp only;rw[PW,wV];exact aj,by dsimp only;rw[PW,wV];exact al⟩ dO ⟨rfl,rfl,by dsimp only;rw[wV];rfl,by dsimp only;rw[wV];rfl,rfl,trivial⟩ rfl (by dsimp only;rw[PW,PW];rfl)
   refine zX (a4W es _ oM ad _ hE) ?_;intro _ _ _ N am;have Q:=Q.mono N;have M:=M.mono N;have a1:=N _ _ a1;have hE:=hE.mono N;obtain⟨b2,h,b3,rfl⟩:=am;cases h;refine yU 1 ?_;intro _ _;refine J.perm (H':=[_]++(gH _ _ _++gH _ _ _)) (IZ [_] _ _) ?_;refine bK rfl (zT (by':=7) ([_]++gH _ _ _) rfl rfl rfl rfl rfl aQ (.inr ⟨_,aQ⟩) kR dK cO rfl Z rfl (bP (yX.at 0 rfl) rfl rfl rfl) oM ?_);intro b4 an;refine aB zS ?_;refine aB zS ?_;refine aB (zL (pl:= #[(0,1),(1,1)]) rfl rfl aH rfl bV (fun w=>by simp[dR,dL]) (GU.part rfl rfl rfl (AX.c AX.z) GU.none)) ?_;refine bK rfl (CY aG bC aH (DC.agg rfl bQ) ?_);intro _ _;refine J.perm (H':=[_,_]++(gH _ _ _++gH _ _ _)) (IZ [_,_] _ _) ?_;refine bK rfl (zT (by':=31) ([_,_]++gH _ _ _) rfl rfl rfl rfl rfl aG (.inr ⟨_,aG⟩) kR bC aH rfl a0 rfl (bP (yX.at 0 rfl) rfl rfl rfl) oM ?_);intro b5 ao;refine yU 10 ?_;refine Ej.keep (dG (dG Keeps.r)) ?_;refine aK ⟨k+1,_,xs++[(ptr b2 0,some (bI (es.map KQ)))],bs++[⟨es,.slice pe es.length ce,false⟩],b4,b5⟩ ⟨dO,dO,Q,M.snoc (r:=⟨es,.slice pe es.length ce,false⟩) (.inr ⟨_,_,rfl,rfl,b3⟩) hE ⟨fun h=>(by cases h),fun _=>⟨rfl,a5,ad,c9T ac a5⟩⟩ oM,by dsimp only;rw[wV,a4];rfl,by dsimp only;rw[PW,wV];exact an,by dsimp only;rw[PW,wV];exact ao⟩ dO ⟨rfl,rfl,by dsimp only;rw[wV];rfl,by dsimp only;rw[wV];rfl,rfl,trivial⟩ rfl (by dsimp only;rw[PW,PW];rfl)
  refine yU 14 ?_;refine cZ b0R dE Z rfl (fun I8 G a6=>?_);refine Ej.perm (H':=gH 63 (bs.flatMap rlC) gb++[]) (.of_eq (yD _)) ?_;refine cZ a6s dE a0 rfl (fun I7 A a7=>?_);refine zM ?_;exact⟨xs,bs,_,_,rfl,⟨a6.mono A,fun x O=>((M.lib x O).mono G).mono A⟩,⟨a7,fun x O=>((M.ref x O).mono G).mono A⟩,(M.mono G).mono A,rfl⟩
 refine yU 20 ?_;refine cZ b0R dE Z rfl (fun I8 G a6=>?_);refine Ej.perm (H':=gH 63 (bs.flatMap rlC) gb++[]) (.of_eq (yD _)) ?_;refine cZ a6s dE a0 rfl (fun I7 A a7=>?_);refine zM ?_;exact⟨xs,bs,_,_,rfl,⟨a6.mono A,fun x O=>((M.lib x O).mono G).mono A⟩,⟨a7,fun x O=>((M.ref x O).mono G).mono A⟩,(M.mono G).mono A,rfl⟩
end Go.Proofs.YtalapkjmkjmpjaaGreatDoor
end
section
namespace Go.Proofs.YtalapkjmkjmpjaaGreatDoor
open _root_.Go.Proofs.Tryz
open Go Go.Sx
theorem b1X{z}:bT.isPrefixOf z=true↔z.take 6=bT:=by
 rw[wW,List.prefix_iff_eq_take];exact eq_comm
theorem b6U{z}(h:¬6≤z.length):¬bT.isPrefixOf z=true:=fun g=>by
 have h1:=(wW.1 g).length_le;have h2:bT.length=6:=rfl;omega
def ZU:List DT→Ix.Rec→List UInt8
 |[],_=>[]
 |x::es,t=>if x.t=t then aN x.fs else ZU es t
theorem b4n e t:∀es:List DT,ZU (FX es e) t=if e.t=t then aN e.fs else ZU es t
 |[]=>rfl
 |x::r=>by
  have A:=b4n e t r;unfold FX at A ⊢;rw[TK,ZW]
  by_cases h:Ix.FK x.t e.t=true
  ·rw[zF h,zF h];have M:(if GY r e.t=true then DY r e.t+1+1 else DY r e.t+1)=(if GY r e.t=true then DY r e.t+1 else DY r e.t)+1:=by split<;>rfl
   rw[M];show(if x.t=t then aN x.fs else ZU (r.take (DY r e.t)++[e]++r.drop (if GY r e.t=true then DY r e.t+1 else DY r e.t)) t)=if e.t=t then aN e.fs else if x.t=t then aN x.fs else ZU r t;rw[A];have G:x.t≠e.t:=fun g=>by rw[g,Ix.FU]at h;cases h
   by_cases h1:x.t=t
   ·rw[zF h1,zF h1,zD fun g=>G (h1.trans g.symm)]
   rw[zD h1,zD h1]
  rw[zD h,zD h]
  by_cases h2:x.t=e.t
  ·rw[zF (by simpa using h2)];show(if e.t=t then aN e.fs else ZU r t)=if e.t=t then aN e.fs else if x.t=t then aN x.fs else ZU r t
   by_cases h1:e.t=t
   ·rw[zF h1,zF h1]
   rw[zD h1,zD h1,zD (by rw[h2];exact h1)]
  rw[zD (by simpa using h2)];rfl
theorem b2v t (es:List DT):ZU (es.foldl FX []) t=(Bk.a4y (es.map KQ) t).getD []:=by
 refine Bk.ND (P:=fun es:List DT=>ZU (es.foldl FX []) t=(Bk.a4y (es.map KQ) t).getD []) rfl (fun es e A=>?_) es;rw[xM,wG];show ZU (FX (es.foldl FX []) e) t=(Bk.a4y (es.map KQ++[KQ e]) t).getD [];rw[b4n,Bk.b1r,A]
 by_cases h:e.t=t
 ·rw[zF h,zF h];rfl
 rw[zD h,zD h]
theorem b8e{t}:∀{es:List DT} {k:Nat} {x:DT},(∀y∈es.take k,y.t≠t)→es[k]?=some x→x.t=t→ZU es t=aN x.fs
 |[],_,_,_,h,_=>by simp at h
 |a::r,0,x,_,h,hx=>by
  obtain rfl:a=x:=sK h;exact zF hx
 |a::r,k+1,x,ha,h,hx=>(zD (ha a (.head _))).trans (b8e (k:=k) (fun y A=>ha y (.tail _ A)) (by simpa using h) hx)
theorem b7V{t}:∀{es:List DT},(∀y∈es,y.t≠t)→ZU es t=[]
 |[],_=>rfl
 |a::r,ha=>(zD (ha a (.head _))).trans (b7V fun y A=>ha y (.tail _ A))
theorem ne_next{t}{es:List DT}{k x}(h:∀y∈es.take k,y.t≠t)(A:es[k]?=some x)(G:x.t≠t):∀y∈es.take (k+1),y.t≠t:=by
 rw[uF,A,Option.toList_some];intro y M;rcases wB.1 M with g|g
 ·exact h y g
 rw[vN.1 g];exact G
theorem c5u fs v rk rl (a0:FOK fs) I (hr:KC I fs v):yY aC 57 [a1A rk rl v] I [] (fun e _ H'=>e= .returned (str (aN fs))∧H'=[]):=by
 have a9:=b4X a0;refine zN func57 fun w0 _=>?_;refine yU 3 ?_;intro _ _;refine zX (c9D fs v rk rl a0 _ hr) ?_;intro _ _ _ _ a4;obtain⟨_,h,hw,rfl⟩:=a4;cases h;obtain⟨wp,_,rfl⟩:=FI.len hw;refine yZ ?_ ?_<;>intro M a1
 ·have a2:(bG fs)=[]:=wR.1 (by have h:=BP M;omega);refine zV ?_;rw[Bk.a9E a2];exact rT
 have N:(bG fs)≠[]:=fun e=>CB M (by rw[e];rfl);obtain⟨_,_,a5,_,a6⟩:=id hw;cases a5;obtain⟨wb,wo,_,_,_,_,rfl,a7,a8⟩:=a6 N;obtain⟨z,hz⟩:∃z,(bG fs)[(bG fs).length-1]?=some z:=⟨_,AA (by have:=wK.2 N;omega)⟩;have aa:=wK.2 N;have A:(bG fs).getLast?=some z:=by rw[List.getLast?_eq_getElem?];exact hz
 refine yU 8 ?_;refine J.ez 13 (i64 (((bG fs).length-1:Nat):Int)) rfl (zC i64 oM) ?_;refine zW (wo+((bG fs).length-1)) ?_;refine aB (DI DU (aP a7) (GR a8 hz)) ?_;refine DZ ?_ ?_<;>intro O a3
 ·have Q:¬6≤z.length:=by have h:=DK O;omega
  refine zV ?_;rw[bM A,zD (b6U Q)];exact rT
 have Q:6≤z.length:=by have h:=DN O;omega
 refine yU 1 ?_;refine J.zg (AO (p:=0) (q:=6) rfl rfl AV rfl ⟨_,rfl⟩ oM Q) ?_;refine yZ ?_ ?_<;>intro G Z
 ·refine zV ?_;rw[bM A,zD (fun g=>bne_iff_ne.1 G (b1X.1 g))];exact rT
 refine zV ?_;rw[bM A,zF (b1X.2 (EC G))];exact rT
theorem a9a rb es t I (N:VF I rb es):yY aC 23 [ptr rb 0,AB t] I [] (fun e _ H'=>e= .returned (str (ZU es t))∧H'=[]):=by
 have ae:=N.len;obtain⟨p,c,Z⟩:=N.ex;have a0:=Z.1;obtain⟨_,c0,a3,_,-⟩:=id Z.2.1;cases a3;refine zN func23 fun w0 _=>?_;refine yU 3 ?_;intro b1 _;refine yU 10 ?_;refine bF (ι:=Nat) (fun y=>y≤es.length∧∀x∈es.take y,x.t≠t) (fun y=>es.length-y) (fun y=>[(0,ptr rb 0),(3,ptr b1 0),(5,i64 (y:Int))]) (fun y=>_) (fun y=>[(b1,yV 42 [i64 t.1,i64 t.2])]) 0 ⟨sQ _,fun x N=>by simp at N⟩ rT rfl rfl ?_;rintro y ⟨_,G⟩;refine yZ ?_ ?_<;>intro a7 a4
 ·have a1:y<es.length:=oM;obtain⟨x,A⟩:∃x,es[y]?=some x:=⟨_,AA a1⟩;have a8:=N.eok x (CJ A);have a5:=Z.2.2 x (CJ A);obtain⟨p1,c1,a9,_,hp⟩:=id Z.2.1;cases a9;obtain⟨_,eo,_,_,_,_,rfl,M,a2⟩:=hp (zK a1);refine yU 5 ?_;refine aT [0] [] 10 kR ?_;refine zW (eo+y*5) ?_;refine yU 1 ?_;refine aU 7 rfl (CX FY BM (bZ M) (a0Z a2 A)) ?_;refine yU 1 ?_;refine aU 9 rfl (a3e (kv:=a7S) (a:=x.t) (b:=t) rfl rfl rfl rfl rfl a6u kR) ?_;refine yZ ?_ ?_<;>intro O a6
  ·have aa:x.t=t:=by have h:=O;simpa using h
   refine zW (eo+y*5) ?_;refine aB (zY (off':=eo+y*5+2) a4X PI) ?_;refine aB (CX isAgg45 PI (aP M) (YN a2 A)) ?_;refine zX (c5u x.fs x.v x.k x.l a8.fok _ a5) ?_;intro _ _ _ Q ab;have a0:=Q _ _ a0;have M:=Q _ _ M;obtain⟨h,rfl⟩:=ab;cases h;refine zV ?_;rw[b8e G A aa];exact rT
  have ac:x.t≠t:=by have h:=O;simpa using h
  refine yU 8 ?_;refine aK (y+1) ⟨oM,ne_next G A ac⟩ oM rT rfl rfl
 refine zV ?_;rw[b7V (fun y9 ad=>G y9 (by rw[tX oM];exact ad))];exact rT
end Go.Proofs.YtalapkjmkjmpjaaGreatDoor
end
namespace Go.Proofs.YtalapkjmkjmpjaaGreatDoor
open Go Go.Sx
theorem b6y I:yY aC 140 [] I [] (fun e M H'=>(∃v,e= .returned v∧IK 9 M Cq.indexes v)∧H'=[]):=by
 refine yY.ob Tryz.func140 ?_;intro w0 _;refine Cj.sr (aB BI ?_);refine J.ER (bK rfl (CY ED BD tZ9 (aI rfl (aI rfl (aI rfl (aI rfl (aI rfl (aI rfl bQ)))))) ?_));intro N G;refine aB BI ?_;refine J.ns (Cj.ret (Ej.persist G (fun _ _ A=>?_)));refine Ej.YI rfl rfl rfl ?_;exact⟨⟨_,rfl,N,6,[],rfl,A⟩,rfl⟩
theorem b2X I:yY aC 142 [] I [] (fun e M H'=>(∃v,e= .returned v∧IK 9 M Cq.relations v)∧H'=[]):=by
 refine yY.ob Tryz.func142 ?_;intro w0 _;refine Cj.sr (aB BI ?_);refine J.ER (bK rfl (CY ED BD tZ9 (aI rfl (aI rfl (aI rfl (aI rfl (aI rfl (aI rfl bQ)))))) ?_));intro N G;refine aB BI ?_;refine J.ns (Cj.ret (Ej.persist G (fun _ _ A=>?_)));refine Ej.YI rfl rfl rfl ?_;exact⟨⟨_,rfl,N,6,[],rfl,A⟩,rfl⟩
end Go.Proofs.YtalapkjmkjmpjaaGreatDoor
namespace Cq
theorem a5Z:∀(n:Nat) (q:Qn),q.size<n→depth q≤q.size
 |0,q,h=>oM
 |n+1,q,h=>by
  by_cases hk:q.k=1
  ·rw[XI hk];exact sQ _
  by_cases hl:q.ps.len=2
  ·obtain⟨a,b,G⟩:=Qs.a9s hl;have A:q.Two a b:=G;have h1:=A.size;have M:=a5Z n a oM;have N:=a5Z n b oM;have O:up b.k≤1:=by unfold up;split<;>omega
   rw[a0p hk A];omega
  have:depth q=0:=by
   obtain⟨k,i,r,t,ps⟩:=q;unfold depth a5m;rw[zD hk]
   match ps,hl with
   | .nil,_=>rfl
   | .cons _ _ _ _ _ .nil,_=>rfl
   | .cons _ _ _ _ _ (.cons _ _ _ _ _ .nil),h=>exact absurd rfl h
   | .cons _ _ _ _ _ (.cons _ _ _ _ _ (.cons _ _ _ _ _ _)),_=>rfl
  omega
theorem b3b q:depth q≤q.size:=a5Z _ q (sZ _)
end Cq
namespace Go.Sx
open Cq
end Go.Sx
section
namespace Go.Proofs.YtalapkjmkjmpjaaGreatDoor
open _root_.Go.Proofs.Tryz
open Go Go.Sx
theorem nb0(a:Nat):((a:Int) == 0)=(a == 0):=nb a 0
def a4a (q:dM):Prop:=∀(p:Option Addr) (c:Nat) (I:Heap),PS I q.ps p→Pure aC 85 [.agg (BR q p c).toArray] I (.bool (dH q))
def a2b (q:dM):Prop:=∀(p:Option Addr) (c:Nat) (I:Heap),PS I q.ps p→dH q=true→dS q≤1000000000→Pure aC 86 [.agg (BR q p c).toArray] I (i64 (dS q:Nat))
theorem b1u l x v (hl:l.length≤1000000) I (hv:IK 9 I l v):Pure aC 139 [v,str x] I (.bool (l.contains x)):=by
 obtain⟨bb,cc,sp,rfl,Z⟩:=hv;refine zN func139 fun w0 _=>?_;refine yU 12 ?_;refine bF (ι:=Nat) (fun k=>k≤l.length∧∀j y,j<k→l[j]?=some y→y≠x) (fun k=>l.length-k) (fun k=>[(0,.slice (some ⟨bb,0,none⟩) l.length cc),(1,str x),(5,i64 (k:Int))]) (fun k=>I) (fun k=>[]) 0 ⟨oM,fun j y h=>absurd h oM⟩ rT rfl rfl ?_;rintro k ⟨_,M⟩;refine yZ ?_ ?_<;>intro a0 O
 ·have a1:k<l.length:=oM;obtain⟨y,A⟩:∃y,l[k]?=some y:=⟨_,AA a1⟩;refine zW k ?_;refine aB (DI DU (aP Z) (EL A)) ?_;refine yZ ?_ ?_<;>intro a2 G
  ·refine zM ?_;have:l.contains x=true:=by rw[yB];exact CJ (G▸A)
   rw[this];exact rT
  refine yU 8 ?_;refine aK (k+1) ⟨oM,fun j y N Q=>by rcases Nat.lt_succ_iff_lt_or_eq.1 N with h|rfl;exact M j y h Q;rw[A]at Q;cases Q;exact G⟩ oM rT rfl rfl
 refine zM ?_;have:l.contains x=false:=by
  rw[yN];intro h;rw[yB]at h;obtain⟨j,N⟩:=List.mem_iff_getElem?.1 h;obtain⟨_,_⟩:=xC.1 N;exact M j x oM N rfl
 rw[this];exact rT
theorem c1p q (ih:∀q',Cq.Qn.size q'<q.size→a4a q'):a4a q:=by
 intro p c I ai;refine bD ?_;refine zN func85 fun w0 _=>?_;refine yU 3 ?_;intro _ _;refine yZ ?_ ?_<;>intro aj a8
 ·have A:q.k=1:=oM;refine yU 1 ?_;refine aT [0] [] 5 kR ?_;refine zX (b6y _) ?_;intro _ _ _ _ al;obtain⟨⟨_,am,a9⟩,rfl⟩:=al;cases am;refine zO (b1u Cq.indexes _ _ dE _ a9) ?_;refine yU 5 ?_;refine aT [0] [] 5 kR ?_;refine zX (b2X _) ?_;intro _ _ _ _ aa;obtain⟨⟨_,ab,a5⟩,rfl⟩:=aa;cases ab;refine zO (b1u Cq.relations _ _ dE _ a5) ?_;refine EH ?_ ?_<;>intro ac
  ·refine EH ?_ ?_<;>intro ad
   ·refine zV ?_;refine⟨?_,rfl⟩;rw[bU A]
    simp_all[nb0]
   refine zV ?_;refine⟨?_,rfl⟩;rw[bU A]
   simp_all[nb0]
  refine zV ?_;refine⟨?_,rfl⟩;rw[bU A]
  simp_all[nb0]
 have A:q.k≠1:=oM;refine EH ?_ ?_<;>intro M
 ·refine zV ?_;rw[aS A (.inl (by have h:=M;simp at h;omega))];exact rT
 refine EH ?_ ?_<;>intro N
 ·refine zV ?_;rw[aS A (.inr (.inl (by have h:=N;simp at h;omega)))];exact rT
 refine EH ?_ ?_<;>intro O
 ·refine zV ?_;rw[aS A (.inr (.inr (.inl (by have h:=O;simp at h;exact h))))];exact rT
 refine EH ?_ ?_<;>intro Q
 ·refine zV ?_;rw[aS A (.inr (.inr (.inr (.inl (by have h:=Q;simp at h;exact h)))))];exact rT
 refine EH ?_ ?_<;>intro Z
 ·refine zV ?_;rw[aS A (.inr (.inr (.inr (.inr (.inl (by have h:=Z;simp at h;exact h))))))];exact rT
 refine yZ ?_ ?_<;>intro a0 a6
 ·refine zV ?_;rw[aS A (.inr (.inr (.inr (.inr (.inr (by have h:=a0;simp at h;omega))))))];exact rT
 have ae:=M;have af:=N;have a2:=O;have a3:=Q;have a4:=Z;have ag:=a0;have a1:¬(q.k<2∨q.k>4∨q.i≠[]∨q.r≠[]∨q.t≠[]∨q.ps.len≠2):=by
  simp at ae af a2 a3 a4 ag;simp[a2,a3,a4];omega
 obtain⟨qa,qb,G⟩:=Cq.Qs.a9s (ps:=q.ps) oM
 change q.Two qa qb at G
 have ar:=G.len;obtain⟨_,off,cs',T,fr,pa,ca,pb,cb,rfl,a7,an,ao,_,ap,aq⟩:=ai.a5W G;refine zW off ?_;refine aB (CX CW AU (aP a7) an) ?_;refine zO (ih qa G.size.1 pa ca _ ap) ?_;refine zW (off+5) ?_;refine aB (CX CW AU (aP a7) ao) ?_;refine zO (ih qb G.size.2 pb cb _ aq) ?_;refine EH ?_ ?_<;>intro ah
 ·refine zV ?_;refine⟨?_,rfl⟩;rw[Cq.a1H A a1 G]
  simp_all
 refine zV ?_;refine⟨?_,rfl⟩;rw[Cq.a1H A a1 G]
 simp_all
theorem c8V q:a4a q:=by
 suffices ∀n (q:dM),q.size<n→a4a q from this _ q (sZ _)
 intro n
 induction n with
 |zero=>intro q h;omega
 |succ n A=>intro q h;exact c1p q fun G _=>A G oM
theorem b9i q (ih:∀q',Cq.Qn.size q'<q.size→a2b q'):a2b q:=by
 intro p c I a6 O _;refine zN func86 fun w0 _=>?_;refine yU 3 ?_;intro _ _;refine yZ ?_ ?_<;>intro a7 a4
 ·have Q:q.k=1:=oM;refine zV ?_;rw[Cq.XI Q];exact rT
 have Q:q.k≠1:=oM;obtain⟨_,_,_,qa,Z,A,a0,a8⟩:=(Cq.WL O).resolve_left Q;have a1:=Cq.a0p Q A;have ac:dB Z.k≤1:=by unfold dB;split<;>omega
 have ad:=A.len;obtain⟨_,off,cs',T,fr,pa,ca,pb,cb,rfl,G,a2,a9,aa,a3,ab⟩:=a6.a5W A;refine zW (off+5) ?_;refine aB (CX CW AU (aP G) a9) ?_;refine zO (ih Z A.size.2 pb cb _ ab a8 oM) ?_;refine zW (off+5) ?_;refine yU 1 ?_;refine aB (DI GZ (aP G) aa) ?_;refine yZ ?_ ?_<;>intro M a5
 ·have N:dB Z.k=1:=by have h:=M;simp at h;simp[dB,h]
  refine zW off ?_;refine aB (CX CW AU (aP G) a2) ?_;refine zO (ih qa A.size.1 pa ca _ a3 a0 oM) ?_;refine aB (IE rfl rfl rfl) ?_;refine zV ?_;refine⟨?_,rfl,rfl⟩;rw[a1,N]
  congr 1;congr 1;omega
 have N:dB Z.k=0:=by have h:=M;simp at h;simp[dB,h]
 refine zW off ?_;refine aB (CX CW AU (aP G) a2) ?_;refine zO (ih qa A.size.1 pa ca _ a3 a0 oM) ?_;refine aB (IE rfl rfl rfl) ?_;refine zV ?_;refine⟨?_,rfl,rfl⟩;rw[a1,N]
 congr 1;congr 1;omega
theorem c6S q:a2b q:=by
 suffices ∀n (q:dM),q.size<n→a2b q from this _ q (sZ _)
 intro n
 induction n with
 |zero=>intro q h;omega
 |succ n A=>intro q h;exact b9i q fun G _=>A G oM
theorem c6B q p c (N:dS q≤1000000000) I (M:PS I q.ps p):Pure aC 53 [.agg (BR q p c).toArray] I (.bool (dU q)):=by
 refine bD ?_;refine zN func53 fun w0 _=>?_;refine yU 3 ?_;intro _ _;refine zO (c8V q p c _ M) ?_;refine DF ?_ ?_<;>intro G
 ·have A:dH q=false:=by have h:=G;simpa using h
  refine zV ?_;refine⟨?_,rfl⟩;simp[dU,A]<;>omega
 have A:dH q=true:=by have h:=G;simpa using h
 refine zO (c6S q p c _ M A N) ?_;refine zV ?_;refine⟨?_,rfl⟩;simp[dU,A]<;>omega
end Go.Proofs.YtalapkjmkjmpjaaGreatDoor
end
namespace Ix
open Ke
def a6r (L:Ix) (a b:Rec):Bool:=if JW L a=JW L b then FK a b else decide (JW L a<JW L b)
theorem b2b{L a b}:a6r L a b=true↔JK L a b:=by
 unfold a6r JK
 split
 ·rename_i h
  rw[h];exact⟨fun g=> .inr ⟨rfl,g⟩,fun g=>g.elim (fun g=>absurd g (wH _)) fun g=>g.2⟩
 rename_i h
 rw[zG];exact⟨.inl,fun g=>g.elim id fun g=>absurd g.1 h⟩
theorem b8V{L}{l:List Rec}{t x k}(h:∀y∈l.take k,JK L y t)(A:l[k]?=some x)(M:a6r L x t=true):∀y∈l.take (k+1),JK L y t:=by
 obtain⟨G,A⟩:=xC.1 A;rw[tN G,A];intro y N;rcases wB.1 N with g|g
 ·exact h y g
 rw[vN.1 g];exact b2b.1 M
theorem d0b{L}{l:List Rec}{t k}(N:l.Pairwise (JK L))(hn:t ∉ l)(h1:∀y∈l.take k,JK L y t)(h2:∀x,l[k]?=some x→a6r L x t=false)(hk:k≤l.length):(l.take k++[t]++l.drop k).Pairwise (JK L):=by
 have h3:∀y∈l.drop k,JK L t y:=by
  intro y A;have G:k<l.length:=by
   rcases tC k l.length with g|g
   ·exact g
   rw[xX g]at A;cases A
  have O:l.drop k=l[k]::l.drop (k+1):=(wX G).symm;have M:=h2 l[k] (xG G);have Q:JK L t l[k]:=by
   rcases c4f L t l[k]with g|g|g
   ·exact g
   ·exact absurd (g▸List.getElem_mem G) hn
   rw[b2b.2 g]at M;cases M
  rw[O]at A;rcases vX.1 A with g|g
  ·rw[g];exact Q
  have hq:(l[k]::l.drop (k+1)).Pairwise (JK L):=O▸N.sublist (xW _ _);exact a2I Q ((uY.1 hq).1 y g)
 rw[yE,vC];refine⟨N.sublist (bW _ _),?_,fun a Z b M=>?_⟩
 ·exact uY.2 ⟨fun y A=>h3 y A,N.sublist (xW _ _)⟩
 rcases vX.1 M with g|g
 ·rw[g];exact h1 a Z
 exact a2I (h1 a Z) (h3 b g)
theorem c8R{l:List Rec}{t x k}:x∈l.take k++[t]++l.drop k↔x=t∨x∈l:=by
 rw[wB,wB,vN];constructor
 ·rintro((h|h)|h)
  ·exact .inr (vO h)
  ·exact .inl h
  exact .inr (vP h)
 rintro(h|h)
 ·exact .inl (.inr h)
 rw[←uD k l]at h;rcases wB.1 h with g|g
 ·exact .inl (.inl g)
 exact .inr g
theorem c7M{l:List Rec}{t k}(A:k≤l.length):(l.take k++[t]++l.drop k).length=l.length+1:=by
 simp only[wV,wI,wS,wJ];omega
def a5X (L:Ix) (q:dM):List Rec:=(L.map (·.1)).filter fun t=>sat L q t
theorem c4r L q:(a5X L q).length≤L.length:=by
 unfold a5X;have:=wP (fun t=>sat L q t) (L.map (·.1))
 rwa [wO]at this
theorem a9K{L}(h:JB L) q:(a5X L q).Nodup:=(b2H h).sublist List.filter_sublist
theorem b3u{L q t}:t∈a5X L q↔t∈L.map (·.1)∧sat L q t=true:=by unfold a5X;rw[vW]
structure a0U (L:Ix) (l out:List Rec) (i:Nat):Prop where
  ord:out.Pairwise (JK L)
  mem:∀t,t∈out↔t∈l.take i
  len:out.length=i
theorem a0U.nil L l:a0U L l [] 0:=⟨List.Pairwise.nil,fun t=>sI,rfl⟩
theorem a0U.next{L l out i k t}(h:a0U L l out i)(Q:l.Nodup)(Z:l[i]?=some t)(h1:∀y∈out.take k,JK L y t)(h2:∀x,out[k]?=some x→a6r L x t=false)(G:k≤out.length):a0U L l (out.take k++[t]++out.drop k) (i+1):=by
 obtain⟨A,M⟩:=xC.1 Z;have N:t ∉ out:=fun g=>by
  have g1:=(h.mem t).1 g;have O:(l.take (i+1)).Nodup:=Q.sublist (bW _ _);rw[tN A,M,vK]at O;exact O.2.2 t g1 t (vN.2 rfl) rfl
 refine⟨d0b h.ord N h1 h2 G,fun x=>?_,by rw[c7M G,h.len]⟩;rw[c8R,tN A,M,wB,vN,h.mem x];exact Or.comm
theorem a0U.run{L q out i}(h:a0U L (a5X L q) out i)(A:(a5X L q).length≤i):NK L q out:=
 ⟨h.ord,fun t=>by rw[h.mem t,tX A];exact b3u⟩
end Ix
section
namespace Go.Proofs.YtalapkjmkjmpjaaGreatDoor
open _root_.Go.Proofs.Tryz
open Go Go.Sx
def c4Q (k:List UInt8):Prop:=∀w∈aA k,aJ w=true→2≤w.length
theorem c9z s skip:c4Q (Ke.GL s skip):=fun w G A=>by
 rw[Ke.a6c]at G;obtain⟨w0,_,rfl⟩:=vU.1 G;unfold Ke.KF at A ⊢
 split
 ·show 2≤(Ke.number w0).length;unfold Ke.number;simp
 rename_i h
 rw[zD h]at A;exact absurd A h
theorem c6L{L}(A:Ix.JB L){n b k}(G:k∈aV L n b):c4Q k:=by
 obtain⟨e,_,v,_,_,rfl⟩:=Ix.a6J A G;exact c9z _ _
theorem a2C{x:List UInt8}{j c}(h:x[j]?=some c):aJ (x.take (j+1))=(aJ (x.take j) && Ke.digit c):=by
 obtain⟨A,G⟩:=xC.1 h;unfold aJ;rw[tN A,G,List.all_append];simp
theorem d0M{c}(h:¬(48≤c.toNat∧c.toNat≤57)):false=Ke.digit c:=(yN.2 fun g=>h (Ke.TD.1 g)).symm
theorem a2i L n:∀ks:Ke.Row,(aF L n ks).length≤ks.length*L.length
 |[]=>by simp[aF]
 |k::r=>by
  have h:=a2i L n r;have h2:=Ix.ZO L n (aY n (aZ k));unfold aF at h ⊢;rw[xO,wV,wU,Nat.add_mul,Nat.one_mul];omega
theorem a3y{L n}{ks:List (List UInt8×Int)}{i x}(h:ks[i]?=some x):aF L n ((ks.take (i+1)).map (·.1))=aF L n ((ks.take i).map (·.1))++Ix.JD L n (aY n (aZ x.1)):=by
 obtain⟨A,G⟩:=xC.1 h;unfold aF;rw[tN A,G,wG,xP];simp
abbrev OY:Int:=1073741824
theorem a2s{L}(A:dA L) n s:((dI L n s OY).map EI).map (·.1)=aV L n (aY n s):=by
 have h:=dJ A n (aY n s);rw[wE];exact Ix.b0U (by show _≤1073741824;omega)
theorem b0Z{L}(A:dA L) n s:((dI L n s OY).map EI).length=(aV L n (aY n s)).length∧(aV L n (aY n s)).length≤480:=by
 have h1:=zC List.length (a2s A n s);rw[wO]at h1;exact⟨h1,dJ A n _⟩
def b9A (k:List UInt8):Prop:=Ke.b0a k∧c4Q k
theorem b2D{L}(G:Ix.TOK L)(M:dA L)(A:Ix.JB L) n s:∀x∈(dI L n s OY).map EI,b9A x.1:=fun x N=>by
 have h:x.1∈((dI L n s OY).map EI).map (·.1):=vT N;rw[a2s M]at h;exact⟨G.key A h,c6L A h⟩
theorem c4B{L}(A:Ix.JB L) n b:(aV L n b).length≤(aV L n []).length:=by
 rw[Ix.a5U A n b];exact wP _ _
theorem BK{α:Type} P {l:List α}{k x}(h:l[k]?=some x):(l.take (k+1)).filter P=(l.take k).filter P++if P x=true then[x]else[]:=by
 obtain⟨A,G⟩:=xC.1 h;rw[tN A,G,xR]
 by_cases hc:P x=true
 ·rw[List.filter_cons_of_pos hc,zF hc];rfl
 rw[List.filter_cons_of_neg hc,zD hc];rfl
theorem a8n{α:Type} P (l:List α) k:((l.take k).filter P).length≤l.length:=FD (wP _ _) (List.length_take_le' _ _)
theorem a9S(es:List DT):(es.map zQ).map (·.1)=es.map (·.t):=by rw[wE];rfl
theorem VX x:(recC x).all Value.oneCell'=true:=rfl
theorem b0k l t v (hl:l.length≤1000000000) I (hr:zJ recC I l v):Pure aC 88 [v,AB t] I (.bool (decide (t∈l))):=by
 refine bD ?_;obtain⟨p,c,rfl,_,hp⟩:=hr;refine zN func88 fun w0 _=>?_;refine yU 3 ?_;intro Z _;refine yU 10 ?_;refine bF (ι:=Nat) (fun j=>j≤l.length∧t ∉ l.take j) (fun j=>l.length-j) (fun j=>[(0,.slice p l.length c),(3,ptr Z 0),(5,i64 (j:Int))]) (fun j=>I) (fun j=>[(Z,yV 42 [i64 t.1,i64 t.2])]) 0 ⟨sQ _,sI⟩ rT rfl rfl ?_;rintro j ⟨_,G⟩;refine yZ ?_ ?_<;>intro a0 O
 ·refine yU 5 ?_;have N:j<l.length:=oM;obtain⟨x,A⟩:∃x,l[j]?=some x:=⟨_,AA N⟩;obtain⟨_,fo,_,_,_,_,rfl,a1,a2⟩:=hp (zK N);refine aT [0] [] 6 kR ?_;refine zW (fo+j*2) ?_;refine aU 3 rfl (CX FY BM (bZ a1) (AY AP a2 A)) ?_;refine yU 1 ?_;refine aU 5 rfl (a3e (kv:=a7S) (a:=x) (b:=t) rfl rfl rfl rfl rfl a6u kR) ?_;refine yZ ?_ ?_<;>intro M Q
  ·have a3:x=t:=BP M;refine zV ?_;rw[zH (a3▸CJ A)];exact rT
  have a4:x≠t:=CB M;refine yU 8 ?_;refine aK (j+1) ⟨oM,by rw[uF,A];intro g;rcases wB.1 g with g|g;exact G g;exact a4 (vN.1 (show t∈[x] from g)).symm⟩ oM rT rfl rfl
 refine zV ?_;rw[tX (oM:l.length≤j)]at G;rw[zI G];exact rT
theorem c2Q k (hk:b9A k) I:Pure aC 222 [str k] I (str (aZ k)):=by
 refine bD ?_;have ai:=hk.1.1;have aj:=Ke.NU k;have al:=hk.1.2.2.1;refine zN func222 fun w0 _=>?_;refine NG (TY k oM _) ?_;intro _ _ _ _ a8 a9;obtain⟨g,hg,h,rfl⟩:=a9;cases h;replace hg:=hg.base a8;refine yU 10 ?_;refine bF (ι:=Nat) (fun j=>j≤(aA k).length) (fun j=>(aA k).length-j) (fun j=>[(3,gV (aA k).length g),(4,i64 (j:Int))]) (fun j=>_) (fun j=>gH 9 ((PG (aA k) j).map str) g) 0 (sQ _) rT rfl (by rw[yD,show PG (aA k) 0=(aA k) by simp[PG]]) ?_;intro j _;have aa:=a7z (aA k) j;refine yU 5 ?_;refine aB (b7k hg rfl rfl ED) ?_;refine yZ ?_ ?_<;>intro ab a5
 ·refine yU 5 ?_;have ac:j<(aA k).length:=oM;obtain⟨x,A⟩:∃x,(aA k)[j]?=some x:=⟨_,AA ac⟩;have a3:=CJ A;have am:=Ke.NY _ x a3;have Q:=b4u A;obtain⟨a4,ad,a6,rfl,_⟩:=hg.some oM;refine yU 11 ?_;refine bF (ι:=Nat) (fun i=>i≤x.length) (fun i=>x.length-i) (fun i=>[(3,.slice (some ⟨a4,0,none⟩) (aA k).length ad),(4,i64 (j:Int)),(5,.bool (aJ (x.take i))),(6,i64 (i:Int))]) (fun i=>_) (fun i=>[(a4,yV 9 ((PG (aA k) j).map str++a6))]) 0 (sQ _) rT rfl rfl ?_;intro i _;refine zW j ?_;refine aB (DI DU (yX.at 0 rfl) (EL Q)) ?_;refine yZ ?_ ?_<;>intro a7 a0
  ·have ae:i<x.length:=oM;obtain⟨c,M⟩:∃c,x[i]?=some c:=⟨_,AA ae⟩;have an:=c.toNat_lt;refine EH ?_ ?_<;>intro G
   ·refine yU 2 ?_;refine J.zg (FZ (off':=j) ED BD) ?_;refine J.zg (DI DU (yX.at 0 rfl) (EL Q)) ?_;refine yU 1 ?_;refine J.zg (IC AV M) ?_;refine DZ ?_ ?_<;>intro N a1
    ·refine yU 2 ?_;refine J.zg (FZ (off':=j) ED BD) ?_;refine J.zg (DI DU (yX.at 0 rfl) (EL Q)) ?_;refine yU 1 ?_;refine J.zg (IC AV M) ?_;refine yU 2 ?_;refine J.ez 42 (.bool (aJ (x.take (i+1)))) rfl (zC dD (by rw[a2C M,G,yJ,yM,Ke.TD,zG];have h2:=DK N;omega)) ?_;refine yU 9 ?_;refine aK (i+1) oM oM rT rfl rfl
    refine yU 8 ?_;refine J.ez 42 (.bool (aJ (x.take (i+1)))) rfl (zC dD (by rw[a2C M,G,yJ];exact d0M (by have h2:=DN N;omega))) ?_;refine yU 9 ?_;refine aK (i+1) oM oM rT rfl rfl
   refine yU 17 ?_;refine J.ez 42 (.bool (aJ (x.take (i+1)))) rfl (zC dD (by rw[a2C M,G];rfl)) ?_;refine yU 9 ?_;refine aK (i+1) oM oM rT rfl rfl
  refine yU 6 ?_;have af:x.take i=x:=tX oM;rw[af];refine DF ?_ ?_<;>intro O
  ·have Z:aJ x=true:=O;have ao:2≤x.length:=hk.2 x a3 Z;refine zW j ?_;refine aB (DI DU (yX.at 0 rfl) (EL Q)) ?_;refine aB (AO (p:=2) (q:=x.length) rfl rfl AV ⟨_,rfl⟩ rfl oM oM) ?_;refine J.ez 50 (str (aO x)) rfl (by rw[tY];unfold aO;rw[zF Z]) ?_;refine zW j ?_;refine bK rfl (MG 0 rfl rfl rfl rfl rfl rfl BD rfl (.inl rfl) (by rw[wV,wO,aa];omega) BL.z ?_);refine yU 8 ?_;refine aK (j+1) oM oM rT rfl (by rw[b5j A];rfl)
  have Z:aJ x=false:=O;have ag:aO x=x:=by unfold aO;rw[Z];rfl
  refine yU 8 ?_;refine aK (j+1) oM oM rT rfl (by rw[b7q A ag];rfl)
 refine yU 6 ?_;have a2:PG (aA k) j=(aA k).map aO:=by rw[show j=(aA k).length by omega];unfold PG;rw[tY,List.drop_length,yD]
 rw[a2];refine Cj.perm (H':=gH _ _ _++[]) (by rw[yD]) ?_;have ah:AL w0.heap.size 1 (aA k).length (((aA k).map aO).map str) g:=PN hg sI;refine Cj.NV ah (fun _ _ hv=>?_);rw[show(aA k).length=((aA k).map aO).length from(wO _).symm]at hv ⊢;refine zO (a8a ((aA k).map aO) _ (by rw[wO];omega) (by show(aZ k).length≤_;omega) _ (FI.of hv)) ?_;refine zM ?_;exact rT
theorem b1q O es L (hL:L=(es.map zQ)) n ks v (hk:∀x∈ks,b9A x.1)(a6:ks.length≤1000) I (Q:VF I O es)(Z:zJ BH I ks v):yY aC 145 [ptr O 0,str n,v] I [] (fun e _ H'=>∃w,e= .returned w∧a2F (aF L n (ks.map (·.1))) w H'):=by
 obtain⟨p,c,rfl⟩:=EF Z;have a7:L.length≤1000:=by rw[hL,wO];exact Q.len
 refine zN func145 fun w0 _=>?_;refine yU 17 ?_;refine bF (ι:=Nat×Heap×Gs) (fun y=>y.1≤ks.length∧Le I y.2.1∧AL w0.heap.size 2 (aF L n ((ks.take y.1).map (·.1))).length ((aF L n ((ks.take y.1).map (·.1))).flatMap recC) y.2.2) (fun y=>ks.length-y.1) (fun y=>[(7,gV (aF L n ((ks.take y.1).map (·.1))).length y.2.2),(0,ptr O 0),(1,str n),(2,.slice p ks.length c),(8,i64 (y.1:Int))]) (fun y=>y.2.1) (fun y=>gH 42 ((aF L n ((ks.take y.1).map (·.1))).flatMap recC) y.2.2) (0,_,none) ⟨sQ _,Le.refl _,rfl,rfl⟩ rT rfl rfl ?_;rintro⟨i,_,g⟩ ⟨hi,G,hg⟩;dsimp only at hi G hg ⊢;have Q:=Q.mono G;have Z:=Z.mono G;have a0:=a2i L n ((ks.take i).map (·.1));rw[wO,wI]at a0;have ac:aF L n ((ks.take i).map (·.1))=aF L n ((ks.take i).map (·.1)):=rfl;have af:(aF L n ((ks.take i).map (·.1))).length≤1000000:=FD a0 (FD (Nat.mul_le_mul (FD (Nat.min_le_right _ _) a6) a7) dE);refine yZ ?_ ?_<;>intro a1 a5
 ·have a2:i<ks.length:=oM;obtain⟨x,A⟩:∃x,ks[i]?=some x:=⟨_,AA a2⟩;have a3:=hk x (CJ A);have ad:=a3.1.2.2.1;have ae:=Ix.ZO L n (aY n (aZ x.1));obtain⟨p1,c1,a8,a1,hp⟩:=id Z;cases a8;obtain⟨_,fo,_,_,_,_,rfl,M,a9⟩:=hp (zK a2);refine zW (fo+i*2) ?_;refine yU 1 ?_;refine aB (BU rfl rfl DU (aP M) (BO DW a9 A 0 dE)) ?_;refine zO (c2Q x.1 a3 _) ?_;refine zX (hL▸a9V O es n (aZ x.1) oM _ Q) ?_;intro _ _ _ N aa;have G:=G.mono N;have M:=N _ _ M;obtain⟨_,h,a4,rfl⟩:=aa;cases h;obtain⟨_,ck,rfl⟩:=EF a4;refine bK rfl (zT (by':=15) [] rfl rfl rfl rfl rfl JI (.inr ⟨_,JI⟩) kR BM VT rfl hg rfl (Src.row AP a4 (fun x _=>VX x)) oM ?_);intro g7 ab;refine yU 9 ?_;refine aK (i+1,_,g7) ⟨dO,G,by dsimp only;rw[a3y A,wV,xP];exact ab⟩ dO ⟨by dsimp only;rw[a3y A,wV];rfl,rfl,rfl,rfl,rfl,trivial⟩ rfl (by dsimp only;rw[a3y A,xP];rfl)
 refine yU 12 ?_;rw[tX (oM:ks.length≤i)]at hg ⊢;refine zM ?_;exact⟨_,rfl,a9d rfl (a3N hg)⟩
