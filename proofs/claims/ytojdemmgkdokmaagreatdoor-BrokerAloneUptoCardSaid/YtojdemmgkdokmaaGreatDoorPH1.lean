/-
  Own texts on the laws of the seat, joined: the logic, and contracts of functions. Conditions: none.
-/
import Derived.WalkKit
import Derived.OrdersHeld
import Derived.Deep.LoopGhost
import Derived.TacticsIn
import Derived.OrdersIn
import Derived.KernelRfl
set_option linter.all false
set_option maxRecDepth 100000
set_option maxHeartbeats 40000000
abbrev zA:=@ne_of_beq_false
abbrev zB:=@of_decide_eq_true
abbrev zC:=@eq_of_beq
abbrev zD:=@congrArg
abbrev zF:=@if_neg
abbrev zG:=@if_pos
abbrev zH:=@decide_eq_true_eq
abbrev zI:=@decide_eq_true
abbrev zJ:=@decide_eq_false
open Go.Result renaming andThen_ok -> aA
open Go.Builtin renaming zeroCells -> aB,firstCells -> aK,append_ -> bF,nextslicecap -> bW,growBy -> fU,lenOf -> gJ,len_ -> gK
open Go.Region renaming wanted -> aC,ready -> aG,binds -> aU,noSelect -> bV,free -> dY
open List renaming mem_of_getElem? -> aF,mem_map_of_mem -> aQ,mem_append_right -> aX,mem_append_left -> aZ,mem_map -> bG,length_eq_zero_iff -> bI,map_cons -> bK,all_eq_true -> bM,set_append_right -> bP,take_append_drop -> bQ,nodup_cons -> bT,getElem?_take -> dA,getElem?_drop -> dB,length_append -> dF,nodup_append -> dH,flatMap_cons -> dI,append_assoc -> dJ,length_cons -> dN,map_map -> dP,getElem?_cons_succ -> dQ,map_append -> dS,mem_append -> dU,range' -> dW,getElem?_eq_none -> dZ,perm_append_comm -> eG,set_cons_succ -> fA,map_toArray -> fH,nil_append -> fM,take_left' -> fP,drop_drop -> fQ,zip_map' -> gI
open Go.Sem renaming run_bind -> aH,run_pure -> aJ
open Array renaming getElem?_eq_none -> aI,getElem?_push -> bD,getElem?_setIfInBounds -> bY,ext_getElem? -> dD,replicate -> dR,getElem?_modify -> eF,toList_zipIdx -> eP,length_toList -> eU,foldl_toList -> fB,range -> fG,size_range -> fJ,size_map -> fV
open Go.Exit renaming inBlock -> aN
open Nat renaming blt -> aO,lt_or_ge -> aS,add_mul -> aW,le_trans -> bU,le_refl -> cO,mul_le_mul_right -> eH,lt_of_lt_of_le -> eX,beq -> fD
open Go.Oper renaming upon -> aP,uponIn -> fE
open Go.Addr renaming add_lit -> aT
open Go.Question renaming appendCap -> aV,forced -> fO,cut -> gQ
open Go.Instr renaming sureAddr -> aY,sliceBounds -> bJ,sliceAt -> dG,fill -> dK,sliceBound -> dM,loadAt -> eY,storeAt -> gG,build -> gU
open Bool renaming and_eq_true -> bC,false_eq_true -> bH,noConfusion -> fK
open Go.Value renaming oneCell' -> bZ,int -> fC
open Go.Op renaming intArith -> cZ,stringOp -> fF
open Option renaming bind_some -> dL
open ByteArray renaming data_extract -> dV
open List.Sublist renaming cons_cons -> dX
open Go.Obj renaming cells -> fZ
open Go.World renaming frozen? -> gB
open UInt8 renaming ofNat -> gW
theorem rT{p:Prop}(h:p:=by repeat first|refine⟨rfl,?_⟩|exact trivial|exact rfl):p:=h
theorem oM{p:Prop}(h:p:=by omega):p:=h
theorem kR{p:Prop}(h:p:=by kernel_rfl):p:=h
theorem dE{p:Prop}(h:p:=by decide):p:=h
theorem sI{p:Prop}(h:p:=by simp):p:=h
theorem dO{p:Prop}(h:p:=by dsimp only;omega):p:=h
section
set_option linter.unusedSectionVars false
namespace Go.Sx
open Go
abbrev Heap:=Nat→Option Obj
abbrev HL:=List (Nat×Obj)
abbrev Env:=List (Nat×Value)
def eg:Env→Nat→Option Value
 |[],_=>none
 |(k,v)::r,t=>bif fD k t then some v else eg r t
def ev (e:Env):Operand→Option Value
 | .tmp t=>eg e t
 | .const v=>some v
 | .global g=>some (.pointer (some ⟨g,0,none⟩))
 | .func f=>some (.func (.func f) #[] #[])
def evs (e:Env):List Operand→Option (List Value)
 |[]=>some []
 | x::r=>match ev e x,evs e r with
   |some v,some vs=>some (v::vs)
   |_,_=>none
def Sub:Env→Env→Prop
 |[],_=>True
 |(t,v)::r,e=>eg e t=some v∧Sub r e
structure Has (a:Act) (n:Nat) (e:Env) (ds:List Deferred):Prop where
  size:a.tmps.size=n
  defs:a.defers=ds
  get:∀t v,eg e t=some v→a.tmps[t]?=some v
theorem a5t k v r t:eg ((k,v)::r) t=if k=t then some v else eg r t:=by
 show(bif fD k t then some v else eg r t)=_
 by_cases h:k=t
 ·subst h;simp
 have:fD k t=false:=by
  cases hb:fD k t with
  |false=>rfl
  |true=>exact absurd (Nat.eq_of_beq_eq_true hb) h
 rw[this,zF h];rfl
theorem Sub.get:∀{e' e:Env},Sub e' e→∀t v,eg e' t=some v→eg e t=some v
 |[],_,_,t,v,h=>by simp[eg]at h
 |(k,u)::r,e,⟨h1,h2⟩,t,v,h=>by
  rw[a5t]at h
  by_cases hk:k=t
  ·subst hk;simp at h;subst h;exact h1
  simp only[hk,if_false]at h;exact Sub.get h2 t v h
section has
variable {a:Act} {n:Nat} {e:Env} {ds:List Deferred}
theorem Has.sub{e'}(h:Has a n e ds)(hs:Sub e' e):Has a n e' ds:=⟨h.size,h.defs,fun t v A=>h.get t v (hs.get t v A)⟩
theorem Has.eval(h:Has a n e ds){x v}(A:ev e x=some v):a.eval x=v:=by
 cases x with
 |tmp t=>
  have:=h.get t v A;simp[Act.eval,this]
 |const c=>simpa[ev,Act.eval]using A
 |global g=>simpa[ev,Act.eval]using A
 |func f=>simpa[ev,Act.eval]using A
theorem Has.a0u(h:Has a n e ds):∀{xs:List Operand} {vs:List Value},evs e xs=some vs→xs.map a.eval=vs
 |[],vs,hx=>by simp[evs]at hx;subst hx;rfl
 |x::r,vs,hx=>by
  simp only[evs]at hx
  split at hx
  ·rename_i v A h1 h2
   cases hx;simp[h.eval h1,Has.a0u h h2]
  cases hx
theorem Has.put(h:Has a n e ds){d v}(hd:aO d n=true):Has (a.put (some d) v) n ((d,v)::e) ds:=by
 have G:d<n:=by simpa[Nat.blt_eq]using hd
 refine⟨by simpa[Act.put]using h.size,by simpa[Act.put]using h.defs,fun t u A=>?_⟩;rw[a5t]at A;have hs:=h.size
 by_cases hk:d=t
 ·subst hk;simp at A;subst A;simp[Act.put,hs,G]
 simp only[hk,if_false]at A;simp[Act.put,hk];have:=h.get t u A;simpa using this
theorem Has.XP(h:Has a n e ds){v}:Has (a.put none v) n e ds:=h
end has
def TI:Nat→List Value→Env
 |_,[]=>[]
 |k,v::r=>(k,v)::TI (k+1) r
theorem a5V:∀(l:List Value) (k t:Nat) (v:Value),eg (TI k l) t=some v→k≤t∧l[t-k]?=some v
 |[],k,t,v,h=>by simp[TI,eg]at h
 |u::r,k,t,v,h=>by
  simp only[TI]at h;rw[a5t]at h
  by_cases hk:k=t
  ·subst hk;simp at h;subst h;simp
  simp only[hk,if_false]at h;obtain⟨h1,h2⟩:=a5V r (k+1) t v h;refine⟨oM,?_⟩;have:t-k=(t-(k+1))+1:=oM;rw[this];simpa using h2
theorem Has.start l n (hn:l.length≤n):
 Has { tmps:=l.toArray++dR (n-l.toArray.size) undef,defers:=[] } n (TI 0 l) []:=by
 refine⟨by simp;omega,rfl,fun t v h=>?_⟩;obtain⟨_,h2⟩:=a5V l 0 t v h;have G:t<l.length:=by
  rcases aS t l.length with A|A
  ·exact A
  simp[dZ A]at h2
 simp only[Nat.sub_zero]at h2;rw[Array.getElem?_append_left (by simpa using G)];simpa using h2
class DR where
  b:Bool
def Le (I I':Heap):Prop:=∀b o,I b=some o→I' b=some o
theorem Le.refl I:Le I I:=fun _ _ h=>h
theorem Le.trans{I J K}(h:Le I J)(k:Le J K):Le I K:=fun b o x=>k b o (h b o x)
structure St [DR] (w0:World) (D:List Nat) (I0 I:Heap) (H:HL) (w:World):Prop where
  os:w.os=w0.os
  tape:w.tape=w0.tape
  output:w.output=w0.output
  size:w0.heap.size≤w.heap.size
  frm:∀b,b<w0.heap.size→b ∉ D→w.heap[b]?=w0.heap[b]?
  sub:∀b o,I b=some o→w.heap[b]?=some o
  own:∀p∈H,w.heap[p.1]?=some p.2
  nodup:(H.map (·.1)).Nodup
  dis:∀p∈H,I p.1=none
  new:∀p∈H,p.1∈D∨w0.heap.size≤p.1
  ifr:∀b,b<w0.heap.size→I b=I0 b
  le:Le I0 I
  drw:DR.b=true→w0.drawn≤w.drawn
variable [DR]
theorem St.start w I H (h1:∀b o,I b=some o→w.heap[b]?=some o)(h2:∀p∈H,w.heap[p.1]?=some p.2)
 (h3:(H.map (·.1)).Nodup)(h:∀p∈H,I p.1=none):St w (H.map (·.1)) I I H w:=
 ⟨rfl,rfl,rfl,cO _,fun _ _ _=>rfl,h1,h2,h3,h,fun _ A=> .inl (aQ A),fun _ _=>rfl,Le.refl _,fun _=>cO _⟩
section st
variable {w0:World} {D:List Nat} {I0 I:Heap} {H:HL} {w:World}
theorem St.lt(h:St w0 D I0 I H w){p}(G:p∈H):p.1<w.heap.size:=by
 have:=h.own p G;rcases aS p.1 w.heap.size with A|A
 ·exact A
 simp[aI A]at this
theorem St.drew(h:St w0 D I0 I H w):St w0 D I0 I H { w with drawn:=w.drawn+1 }:=
 ⟨h.os,h.tape,h.output,h.size,h.frm,h.sub,h.own,h.nodup,h.dis,h.new,h.ifr,h.le,fun g=>Nat.le_succ_of_le (h.drw g)⟩
theorem St.keep{H'}(h:St w0 D I0 I H w)(hs:∀p∈H',p∈H)(hn:(H'.map (·.1)).Nodup):St w0 D I0 I H' w:=
 ⟨h.os,h.tape,h.output,h.size,h.frm,h.sub,fun p A=>h.own p (hs p A),hn,fun p A=>h.dis p (hs p A),fun p A=>h.new p (hs p A),h.ifr,h.le,h.drw⟩
theorem St.sublist{H'}(h:St w0 D I0 I H w)(hs:H'.Sublist H):St w0 D I0 I H' w:=
 h.keep (fun _ A=>hs.subset A) (h.nodup.sublist (hs.map _))
theorem St.perm{H'}(h:St w0 D I0 I H w)(hs:H'.Perm H):St w0 D I0 I H' w:=
 h.keep (fun _ A=>hs.mem_iff.1 A) ((hs.map _).nodup_iff.2 h.nodup)
theorem St.alloc(h:St w0 D I0 I H w) o:St w0 D I0 I ((w.heap.size,o)::H) { w with heap:=w.heap.push o }:=by
 have Z:∀{b:Nat} {o':Obj},w.heap[b]?=some o'→b<w.heap.size:=fun {b o'} G=>by
  rcases aS b w.heap.size with h'|h'
  ·exact h'
  simp[aI h']at G
 have O:∀{b:Nat} {o':Obj},w.heap[b]?=some o'→(w.heap.push o)[b]?=some o':=fun {b o'} G=>by
  rw[bD,zF (by have:=Z G;omega)];exact G
 refine⟨h.os,h.tape,h.output,by have:=h.size;simp;omega,fun b G hd=>?_,fun b o' G=>O (h.sub b o' G),?_,?_,?_,?_,h.ifr,h.le,h.drw⟩
 ·rw[←h.frm b G hd];show(w.heap.push o)[b]?=_;rw[bD,zF (by have:=h.size;omega)]
 ·intro p A;cases A with
  |head=>simp
  |tail _ A=>exact O (h.own p A)
 ·simp only[bK,bT];refine⟨fun hm=>?_,h.nodup⟩;obtain⟨p,A,_⟩:=bG.1 hm;have:=h.lt A;omega
 ·intro p A;cases A with
  |head=>
   cases hi:I w.heap.size with
   |none=>rfl
   |some o'=>have:=Z (h.sub _ _ hi);omega
  |tail _ A=>exact h.dis p A
 intro p A;cases A with
 |head=>exact .inr h.size
 |tail _ A=>exact h.new p A
def hset (b:Nat) (o:Obj):HL→HL
 |[]=>[]
 |(c,x)::r=>if c=b then(c,o)::r else(c,x)::hset b o r
theorem a6s b o:∀H:HL,(hset b o H).map (·.1)=H.map (·.1)
 |[]=>rfl
 |(c,x)::r=>by
  unfold hset
  split
  ·rfl
  simp[a6s b o r]
theorem b1l b o:∀(H:HL),(H.map (·.1)).Nodup→∀p∈hset b o H,(p=(b,o))∨(p∈H∧p.1≠b)
 |[],_,p,A=>by cases A
 |(c,x)::r,hn,p,A=>by
  simp only[bK,bT]at hn;unfold hset at A
  split at A
  ·rename_i G;subst G
   cases A with
   |head=>exact .inl rfl
   |tail _ A=>
    refine .inr ⟨.tail _ A,fun O=>hn.1 ?_⟩;rw[←O];exact aQ A
  rename_i G
  cases A with
  |head=>exact .inr ⟨.head _,G⟩
  |tail _ A=>
   rcases b1l b o r hn.2 p A with h|h
   ·exact .inl h
   exact .inr ⟨.tail _ h.1,h.2⟩
theorem St.write{w' b o o'}(h:St w0 D I0 I H w)(hm:(b,o)∈H)(a2:w'.os=w.os)(ht:w'.tape=w.tape)(a1:w'.output=w.output)
 (a3:w'.heap.size=w.heap.size)(hb:w'.heap[b]?=some o')(O:∀c,c≠b→w'.heap[c]?=w.heap[c]?)(a4:w'.drawn=w.drawn):St w0 D I0 I (hset b o' H) w':=by
 have a0:∀p∈hset b o' H,∃q∈H,q.1=p.1:=fun p G=>by
  have:p.1∈(hset b o' H).map (·.1):=aQ G;rw[a6s]at this;obtain⟨q,hq,A⟩:=bG.1 this;exact⟨q,hq,A⟩
 refine⟨a2.trans h.os,ht.trans h.tape,a1.trans h.output,by rw[a3];exact h.size,fun c hc hd=>?_,fun c x Z=>?_,fun p G=>?_,by rw[a6s];exact h.nodup,fun p G=>?_,fun p G=>?_,h.ifr,h.le,by rw[a4];exact h.drw⟩
 ·have:c≠b:=fun A=>by
   rcases h.new _ hm with h'|h'
   ·exact hd (A▸h')
   simp at h';omega
  rw[O c this];exact h.frm c hc hd
 ·have:c≠b:=fun A=>by
   have:=h.dis _ hm;simp only at this;rw[A]at Z;rw[this]at Z;cases Z
  rw[O c this];exact h.sub c x Z
 ·rcases b1l b o' H h.nodup p G with rfl|⟨h1,h2⟩
  ·exact hb
  rw[O _ h2];exact h.own p h1
 ·obtain⟨q,hq,A⟩:=a0 p G;rw[←A];exact h.dis q hq
 obtain⟨q,hq,A⟩:=a0 p G;rw[←A];exact h.new q hq
def hput (b:Nat) (o:Obj) (I:Heap):Heap:=fun c=>if c=b then some o else I c
theorem St.persist{b o R}(h:St w0 D I0 I ((b,o)::R) w)(hb:w0.heap.size≤b):
 St w0 D I0 (hput b o I) R w:=by
 have O:=h.nodup;simp only[bK,bT]at O;have a0:I b=none:=h.dis _ (.head _);refine⟨h.os,h.tape,h.output,h.size,h.frm,fun c x A=>?_,fun p G=>h.own p (.tail _ G),O.2,fun p G=>?_,fun p G=>h.new p (.tail _ G),fun c hc=>?_,fun c x A=>?_,h.drw⟩
 ·unfold hput at A
  split at A
  ·rename_i Z;subst Z;cases A;exact h.own _ (.head _)
  exact h.sub c x A
 ·unfold hput
  split
  ·rename_i Z
   exact absurd (Z▸aQ G) O.1
  exact h.dis p (.tail _ G)
 ·unfold hput;rw[zF oM];exact h.ifr c hc
 unfold hput
 split
 ·rename_i Z;subst Z
  have:=h.le _ _ A;rw[a0]at this;cases this
 exact h.le c x A
theorem a5s{b o I}(h:I b=none):Le I (hput b o I):=fun c x A=>by
 unfold hput
 split
 ·rename_i G;subst G;rw[h]at A;cases A
 exact A
theorem a1i b o I:hput b o I b=some o:=by simp[hput]
end st
theorem St.call{w0 w w' D I0 I I' H1 a0 R}(h:St w0 D I0 I (H1++R) w)(k:St w (H1.map (·.1)) I I' a0 w'):
 St w0 D I0 I' (a0++R) w':=by
 have a1:=h.nodup;rw[dS,dH]at a1;obtain⟨_,n2,n3⟩:=a1;have hR:∀p∈R,p.1<w.heap.size:=fun p A=>h.lt (aX _ A);have a2:∀p∈R,p.1 ∉ H1.map (·.1):=fun p A hm=>n3 _ hm _ (aQ A) rfl;refine⟨k.os.trans h.os,k.tape.trans h.tape,k.output.trans h.output,bU h.size k.size,fun b O hd=>?_,k.sub,fun p A=>?_,?_,fun p A=>?_,fun p A=>?_,fun b O=>?_,h.le.trans k.le,fun g=>bU (h.drw g) (k.drw g)⟩
 ·have a3:b ∉ H1.map (·.1):=fun hm=>by
   obtain⟨p,A,Z⟩:=bG.1 hm;rcases h.new p (aZ _ A)with G|G
   ·exact hd (Z▸G)
   omega
  rw[k.frm b (eX O h.size) a3];exact h.frm b O hd
 ·rcases dU.1 A with A|A
  ·exact k.own p A
  rw[k.frm _ (hR p A) (a2 p A)];exact h.own p (aX _ A)
 ·rw[dS,dH];refine⟨k.nodup,n2,fun x hx y hy Z=>?_⟩;obtain⟨p,A,a4⟩:=bG.1 hx;obtain⟨q,hq,a5⟩:=bG.1 hy;rcases k.new p A with G|G
  ·exact a2 q hq (by rw[a5,←Z,←a4];exact G)
  have:=hR q hq;omega
 ·rcases dU.1 A with A|A
  ·exact k.dis p A
  rw[k.ifr _ (hR p A)];exact h.dis p (aX _ A)
 ·rcases dU.1 A with A|A
  ·rcases k.new p A with G|G
   ·obtain⟨q,hq,Z⟩:=bG.1 G;rw[←Z];exact h.new q (aZ _ hq)
   exact .inr (bU h.size G)
  exact h.new p (aX _ A)
 rw[k.ifr b (eX O h.size)];exact h.ifr b O
def SS (I:Heap) (H:HL) (w:World):Prop:=(∀b o,I b=some o→w.heap[b]?=some o)∧∀p∈H,w.heap[p.1]?=some p.2
theorem St.ss{w0 w D I0 I H}(h:St w0 D I0 I H w):SS I H w:=⟨h.sub,h.own⟩
def yR (S:World→Prop) (b:Nat) (o:Obj):Prop:=∀w,S w→w.heap[b]?=some o
theorem yR.TS{I H b o}(h:I b=some o):yR (SS I H) b o:=fun _ hs=>hs.1 b o h
theorem yR.at{I H b o}(i:Nat)(h:H[i]?=some (b,o)):yR (SS I H) b o:=fun _ hs=>hs.2 _ (aF h)
abbrev CL:=List (Nat×Nat×Value)
def SC (I:Heap) (A:HL) (Z:CL) (w:World):Prop:=SS I A w∧∀c∈Z,w.cell? ⟨c.1,c.2.1,none⟩=some c.2.2
theorem yR.TN{I A Z b o}(h:I b=some o):yR (SC I A Z) b o:=fun _ hs=>hs.1.1 b o h
theorem yR.QE{I A Z b o}(i:Nat)(h:A[i]?=some (b,o)):yR (SC I A Z) b o:=fun _ hs=>hs.1.2 _ (aF h)
theorem SC.cell{I A Z b off v}(i:Nat)(h:Z[i]?=some (b,off,v)):∀w,SC I A Z w→w.cell? ⟨b,off,none⟩=some v:=fun _ hs=>hs.2 _ (aF h)
structure Cx where
  P:Program
  n:Nat
  w0:World
  D:List Nat
  I0:Heap
  ds:List Deferred
  rd:Option Nat:=none
def Cx.F (cx:Cx):Fence:={ Fence.wide with round:=cx.rd }
abbrev Qt:=Exit→Act→World→Prop
def Cj (cx:Cx) (Q:Qt) (c:Code) (e:Env) (I:Heap) (H:HL):Prop:=
 ∀a w,Has a cx.n e cx.ds→St cx.w0 cx.D cx.I0 I H w→c.wpIn cx.F 0 cx.P Q a w
def Ej (cx:Cx) (Q:Qt) (x:Exit) (e:Env) (I:Heap) (H:HL):Prop:=
 ∀a w,Has a cx.n e cx.ds→St cx.w0 cx.D cx.I0 I H w→Q x a w
def J (cx:Cx) (Q:Qt) (ops:Array Oper) (l:List Oper) (e:Env) (I:Heap) (H:HL):Prop:=
 ∀a w,Has a cx.n e cx.ds→St cx.w0 cx.D cx.I0 I H w→wpListIn cx.F 0 cx.P ops Q l a w
abbrev Ct:=Env→Heap→HL→Prop
def GZ (cx:Cx) (Q:Qt) (o:Oper) (e:Env) (I:Heap) (H:HL) (C:Ct):Prop:=
 ∀K:Act→World→Prop,(∀e' I' H',C e' I' H'→∀a w,Has a cx.n e' cx.ds→St cx.w0 cx.D cx.I0 I' H' w→K a w)→
  ∀a w,Has a cx.n e cx.ds→St cx.w0 cx.D cx.I0 I H w→o.wp cx.P a w K Q
theorem b4c{rd n P f args w}{R:Ending→World→Prop}(h:Calls P f args w R):CallsIn { Fence.wide with round:=rd } n P f args w R:=by
 have:=(callsIn_wide (n:=n)).2 h;cases rd with
 |none=>exact this
 |some l=>exact this
theorem b7y{rd n P row args w}{R:Value→World→Prop}(h:Rows P row args w R):RowsIn { Fence.wide with round:=rd } n P row args w R:=by
 have:RowsIn Fence.wide n P row args w R:=fun c cs _=>let ⟨v,w',hr,hs⟩:=h c cs;⟨v,w',hr,stepsIn_wide.2 hs⟩;cases rd with
 |none=>exact this
 |some l=>exact this
theorem b5W{rd n P}{o:Oper}{a}{K:Act→World→Prop}{Q r}(h:o.upon P a K Q r):o.uponIn { Fence.wide with round:=rd } n P a K Q r:=by
 cases r with
 |ok x w'=>
  cases x<;>simp only[aP,fE]at h ⊢ <;>
   first
    |exact h
    |exact⟨fun h=>by simp[Fence.wide]at h,b4c h⟩
    |exact⟨fun h=>by simp[Fence.wide]at h,b7y h⟩
 |halt x w'=>cases x<;>simp only[aP,fE]at h ⊢ <;>exact h
theorem a6z{rd n P}{o:Oper}{a w}{K:Act→World→Prop}{Q}(hd:rd=none∨∀c,o.op≠ .defer c)(h:o.wp P a w K Q):o.wpIn { Fence.wide with round:=rd } n P a w K Q:=by
 refine⟨fun _ _=>trivial,?_⟩;have A:o.semAt rd a.eval=execOp a.eval o:=by
  rcases hd with rfl|hd
  ·rfl
  exact Oper.semAt_eq rd a.eval o hd
 show o.uponIn _ n P a K Q ((o.semAt rd a.eval).run P w);rw[A];exact b5W h
theorem GZ.c6t{A Q o e I H C}(h:GZ A Q o e I H C)(K:Act→World→Prop)
 (hK:∀e' G H',C e' G H'→∀a w,Has a A.n e' A.ds→St A.w0 A.D A.I0 G H' w→K a w) a w (ha:Has a A.n e A.ds)(hs:St A.w0 A.D A.I0 I H w):o.wpIn A.F 0 A.P a w K Q:=by
 by_cases hd:∃c,o.op= .defer c
 ·obtain⟨c,O⟩:=hd;have h1:=h (fun a' w'=>K a' w'∧a'.defers=A.ds) (fun e' G H' hC a w Z a0=>⟨hK e' G H' hC a w Z a0,Z.defs⟩) a w ha hs;refine⟨fun _ _=>trivial,?_⟩;unfold Oper.wp at h1;have hx:(execOp a.eval o).run A.P w=((resolve a.eval c o.type).run A.P w).andThen fun d w'=> .ok (.defer d) w':=by
   simp only[execOp,O,aH];rfl
  rw[hx]at h1;cases hr:(resolve a.eval c o.type).run A.P w with
  |ok d w'=>
   rw[hr]at h1;simp only[aA,aP]at h1;have h2:=h1.2;have h3:({ a with defers:=d::a.defers }.put o.dst undef).defers=d::a.defers:=by
    cases o.dst<;>rfl
   rw[h3,ha.defs]at h2;exact absurd (zD List.length h2) sI
  |halt x w'=>
   rw[hr]at h1;have hy:(o.semAt A.F.round a.eval).run A.P w= .halt x w':=by
    unfold Oper.semAt;cases A.F.round with
    |none=>simp only[hx,hr];rfl
    |some l=>simp only[O,aH,hr];rfl
   rw[hy];have h4:(Result.andThen (.halt x w':Result Deferred) fun d w'=>(.ok (.defer d) w':Result Next))= .halt x w':=rfl;rw[h4]at h1;cases x<;>simp only[aP,fE]at h1 ⊢ <;>exact h1
 have h1:=h K hK a w ha hs;exact a6z (rd:=A.rd) (.inr fun c O=>hd ⟨c,O⟩) h1
theorem wpIn_mono'{F n P a w}{c:Code}{Q A}(hq:∀e a w,Q e a w→A e a w)(h:c.wpIn F n P Q a w):c.wpIn F n P A a w:=wpIn_mono h hq
theorem b1P{F rm P Q a w c}(I:Nat→Act→World→Prop) A (Z:I A a w)
 (round:∀n a w,I n a w→c.wpIn F rm P (Exit.then (fun O w'=>∃h,h<n∧I h O w') Q) a w):(Code.loop c).wpIn F rm P Q a w:=by
 refine wpIn_loop (fun a w=>∃n,I n a w) (fun a w=>leastOf (fun n=>I n a w)) ⟨A,Z⟩ ?_;intro a w hI;refine wpIn_mono (round _ a w (leastOf_spec hI).1) ?_;intro e O w' hq;cases e with
 |normal=>
  obtain⟨h,a0,G⟩:=hq;exact show(∃n,I n O w')∧leastOf (fun n=>I n O w')<leastOf (fun n=>I n a w) from⟨⟨h,G⟩,Nat.lt_of_le_of_lt ((leastOf_spec ⟨h,G⟩).2 h G) a0⟩
 |exit id=>exact hq
 |goto l=>exact hq
 |ret=>exact hq
 |panic ch=>exact hq
 |outgrown=>exact hq
theorem Cx.wide{A:Cx}(h:A.rd=none):A.F=Fence.wide:=by
 unfold Cx.F;rw[h];rfl
theorem Cj.of_wp{A Q c e I H}(hr:A.rd=none)(h:∀a w,Has a A.n e A.ds→St A.w0 A.D A.I0 I H w→c.wp A.P Q a w):Cj A Q c e I H:=fun a w G hs=>by
 rw[Cx.wide hr];exact wpIn_wide.2 (h a w G hs)
theorem Cj.wp{A Q c e I H}(h:Cj A Q c e I H)(hr:A.rd=none){a w}(G:Has a A.n e A.ds)(hs:St A.w0 A.D A.I0 I H w):c.wp A.P Q a w:=by
 have:=h a w G hs;rw[Cx.wide hr]at this;exact wpIn_wide.1 this
section rules
variable {cx:Cx} {Q:Qt} {e:Env} {I:Heap} {H:HL}
theorem Cj.region{id l}(h:J cx Q l.toArray l e I H):Cj cx Q (.region id l.toArray false) e I H:=
 fun a w A hs=>wpIn_region_lit (h a w A hs)
theorem J.nil{A}(h:Ej cx Q .normal e I H):J cx Q A [] e I H:=fun a w G hs=>wpListIn_nil (h a w G hs)
theorem J.op{A o l}(hg:o.guard=none)(h:GZ cx Q o e I H (J cx Q A l)):J cx Q A (o::l) e I H:=
 fun a w G hs=>wpListIn_plain hg fun K O=>h.c6t K (fun _ _ _ Z a w G hs=>O a w (Z a w G hs)) a w G hs
theorem VH{h a n ds j d b}(A:Has a n e ds)(hd:(h[j]?).bind (·.dst)=some d)(G:eg e d=some (.bool b)):
 yielded h a.tmps j=some b:=by
 have:=A.get d _ G;simp only[yielded,hd,dL,this]
theorem J.QD{A o l} j d G b (hg:o.guard=some (j,G))(hd:(A[j]?).bind (·.dst)=some d)(Z:eg e d=some (.bool b))(hb:b=G)
 (h:GZ cx Q o e I H (J cx Q A l)):J cx Q A (o::l) e I H:=by
 intro a w O hs;refine wpListIn_step fun K hK=>?_;have hw:aC o (yielded A a.tmps)=true:=by simp[aC,hg,VH O hd Z,hb]
 rw[zG hw];exact h.c6t K (fun _ _ _ hc a w O hs=>hK a w (hc a w O hs)) a w O hs
theorem CZ{G:Array Oper}{o:Oper}{l:List Oper}(j:Nat)(d:Nat)(A:Bool){b:Bool}(h:GZ cx Q o e I H (J cx Q G l))(hg:o.guard=some (j,A):=by exact rfl)(hd:(G[j]?).bind (·.dst)=some d:=by exact rfl)(O:eg e d=some (.bool b):=by exact rfl)(Z:b=A:=by exact rfl):J cx Q G (o::l) e I H:=J.QD j d A b hg hd O Z h
theorem zU{G:Array Oper}{o:Oper}{l:List Oper}(j:Nat)(d:Nat)(A:Bool){b:Bool}(O:b=A)(h:GZ cx Q o e I H (J cx Q G l))(hg:o.guard=some (j,A):=by exact rfl)(hd:(G[j]?).bind (·.dst)=some d:=by exact rfl)(Z:eg e d=some (.bool b):=by exact rfl):J cx Q G (o::l) e I H:=J.QD j d A b hg hd Z O h
theorem J.skip{A o l} j d t G b (hg:o.guard=some (j,G))(hd:(A[j]?).bind (·.dst)=some d)(Z:eg e d=some (.bool b))(hb:b= !G)
 (ho:o.dst=some t)(ht:aO t cx.n=true)(h:J cx Q A l ((t,undef)::e) I H):J cx Q A (o::l) e I H:=by
 intro a w O hs;refine wpListIn_step fun K hK=>?_;have hw:aC o (yielded A a.tmps)=false:=by simp[aC,hg,VH O hd Z,hb]
 rw[hw,ho];exact⟨fun _ _=>trivial,hK _ _ (h _ _ (O.put ht) hs)⟩
theorem CQ{G:Array Oper}{o:Oper}{l:List Oper}(j:Nat)(d:Nat)(t:Nat)(A:Bool){b:Bool}(h:J cx Q G l ((t,undef)::e) I H)(hg:o.guard=some (j,A):=by exact rfl)(hd:(G[j]?).bind (·.dst)=some d:=by exact rfl)(O:eg e d=some (.bool b):=by exact rfl)(Z:b= !A:=by exact rfl)(ho:o.dst=some t:=by exact rfl)(ht:Nat.blt t cx.n=true:=by exact rfl):J cx Q G (o::l) e I H:=J.skip j d t A b hg hd O Z ho ht h
theorem zO{G:Array Oper}{o:Oper}{l:List Oper}(j:Nat)(d:Nat)(t:Nat)(A:Bool){b:Bool}(O:b= !A)(h:J cx Q G l ((t,undef)::e) I H)(hg:o.guard=some (j,A):=by exact rfl)(hd:(G[j]?).bind (·.dst)=some d:=by exact rfl)(Z:eg e d=some (.bool b):=by exact rfl)(ho:o.dst=some t:=by exact rfl)(ht:Nat.blt t cx.n=true:=by exact rfl):J cx Q G (o::l) e I H:=J.skip j d t A b hg hd Z O ho ht h
theorem J.b5P{A o l} j d t G (hg:o.guard=some (j,G))(hd:(A[j]?).bind (·.dst)=some d)(Z:eg e d=some undef)
 (ho:o.dst=some t)(ht:aO t cx.n=true)(h:J cx Q A l ((t,undef)::e) I H):J cx Q A (o::l) e I H:=by
 intro a w O hs;refine wpListIn_step fun K hK=>?_;have hw:aC o (yielded A a.tmps)=false:=by
  have:=O.get d _ Z;have hy:yielded A a.tmps j=none:=by simp only[yielded,hd,dL,this,undef]
  simp[aC,hg,hy]
 rw[hw,ho];exact⟨fun _ _=>trivial,hK _ _ (h _ _ (O.put ht) hs)⟩
theorem Cj.seq{x y}(h:Cj cx (Exit.then (y.wpIn cx.F 0 cx.P Q) Q) x e I H):Cj cx Q (.seq x y) e I H:=fun a w A hs=>wpIn_seq (h a w A hs)
theorem Ej.seq{y}(h:Cj cx Q y e I H):Ej cx (Exit.then (y.wpIn cx.F 0 cx.P Q) Q) .normal e I H:=fun a w A hs=>h a w A hs
theorem Ej.LM{K:Act→World→Prop}(h:Ej cx Q .ret e I H):Ej cx (Exit.then K Q) .ret e I H:=fun a w A hs=>h a w A hs
theorem Ej.KH{K:Act→World→Prop}{id}(h:Ej cx Q (.exit id) e I H):Ej cx (Exit.then K Q) (.exit id) e I H:=fun a w A hs=>h a w A hs
theorem Ej.JU{K:Act→World→Prop}{A}(h:Ej cx Q (.panic A) e I H):Ej cx (Exit.then K Q) (.panic A) e I H:=fun a w G hs=>h a w G hs
theorem Cj.block{id c}(h:Cj cx (aN id Q) c e I H):Cj cx Q (.block id c) e I H:=fun a w A hs=>wpIn_block (h a w A hs)
theorem Ej.FN{id}(h:Ej cx Q .normal e I H):Ej cx (aN id Q) .normal e I H:=fun a w A hs=>h a w A hs
theorem Ej.LC{id}(h:Ej cx Q .normal e I H):Ej cx (aN id Q) (.exit id) e I H:=fun a w A hs=>by
 simp only[aN,if_true];exact h a w A hs
theorem Ej.b3j{id A}(hn:fD A id=false)(h:Ej cx Q (.exit A) e I H):Ej cx (aN id Q) (.exit A) e I H:=fun a w G hs=>by
 have:A≠id:=fun O=>by subst O;simp[Nat.beq_refl]at hn
 simp only[aN,this,if_false];exact h a w G hs
theorem Ej.QL{id}(h:Ej cx Q .ret e I H):Ej cx (aN id Q) .ret e I H:=fun a w A hs=>h a w A hs
theorem Ej.b1Z{id A}(h:Ej cx Q (.panic A) e I H):Ej cx (aN id Q) (.panic A) e I H:=fun a w G hs=>h a w G hs
theorem Cj.skip(h:Ej cx Q .normal e I H):Cj cx Q .skip e I H:=fun a w A hs=>wpIn_skip (h a w A hs)
theorem Cj.ret(h:Ej cx Q .ret e I H):Cj cx Q .ret e I H:=fun a w A hs=>wpIn_ret (h a w A hs)
theorem Cj.exit{id}(h:Ej cx Q (.exit id) e I H):Cj cx Q (.exit id) e I H:=fun a w A hs=>wpIn_exit (h a w A hs)
theorem Cj.cond{c x y t}(G:ev e c=some (.bool t))(h1:t=true→Cj cx Q x e I H)(h2:t=false→Cj cx Q y e I H):Cj cx Q (.cond c x y) e I H:=
 fun a w A hs=>wpIn_cond_split (A.eval G) (fun h=>h1 h a w A hs) (fun h=>h2 h a w A hs)
theorem Cj.weak{c e'}(hs:Sub e' e)(h:Cj cx Q c e' I H):Cj cx Q c e I H:=fun a w A h1=>h a w (A.sub hs) h1
theorem Cj.keep{c H'}(hs:H'.Sublist H)(h:Cj cx Q c e I H'):Cj cx Q c e I H:=fun a w A h1=>h a w A (h1.sublist hs)
theorem Ej.keep{x H'}(hs:H'.Sublist H)(h:Ej cx Q x e I H'):Ej cx Q x e I H:=fun a w A h1=>h a w A (h1.sublist hs)
theorem Cj.perm{c H'}(hs:H'.Perm H)(h:Cj cx Q c e I H'):Cj cx Q c e I H:=fun a w A h1=>h a w A (h1.perm hs)
theorem J.perm{A l H'}(hs:H'.Perm H)(h:J cx Q A l e I H'):J cx Q A l e I H:=fun a w G h1=>h a w G (h1.perm hs)
theorem Ej.perm{x H'}(hs:H'.Perm H)(h:Ej cx Q x e I H'):Ej cx Q x e I H:=fun a w A h1=>h a w A (h1.perm hs)
theorem GZ.perm{o C H'}(hs:H'.Perm H)(h:GZ cx Q o e I H' C):GZ cx Q o e I H C:=fun K A a w G h1=>h K A a w G (h1.perm hs)
def Mid (cx:Cx) (Q:Qt) (M:Env→Heap→HL→Prop):Qt
 | .normal,a,w=>∃e I H,M e I H∧Has a cx.n e cx.ds∧St cx.w0 cx.D cx.I0 I H w
 |x,a,w=>Q x a w
def a5C (cx:Cx) (Q:Qt) {ι:Type} (pre:ι→Prop) (μ:ι→Nat) (i:ι) (env:ι→Env) (hp:ι→Heap) (hl:ι→HL):Qt
 | .normal,a,w=>∃j,pre j∧μ j<μ i∧Has a cx.n (env j) cx.ds∧St cx.w0 cx.D cx.I0 (hp j) (hl j) w
 |x,a,w=>Q x a w
theorem Cj.loop{ι:Type}(h:ι→Prop) μ A Z hl {c} G (h0:h G)(hs:Sub (A G) e)(hI:Z G=I)(hH:hl G=H)
 (round:∀i,h i→Cj cx (a5C cx Q h μ i A Z hl) c (A i) (Z i) (hl i)):Cj cx Q (.loop c) e I H:=by
 intro a w ha O;refine b1P (fun m a w=>∃i,h i∧μ i=m∧Has a cx.n (A i) cx.ds∧St cx.w0 cx.D cx.I0 (Z i) (hl i) w) (μ G) ⟨G,h0,rfl,ha.sub hs,hI▸hH▸O⟩ ?_;rintro m a w ⟨i,hi,rfl,ha,O⟩;refine wpIn_mono'  (fun x a w hq=>?_) (round i hi a w ha O)
 cases x<;>first
  |exact hq
  |(obtain⟨j,hj,a0,a1,a2⟩:=hq;exact⟨μ j,a0,j,hj,rfl,a1,a2⟩)
section round
variable {ι:Type} {pre:ι→Prop} {μ:ι→Nat} {i:ι} {env:ι→Env} {hp:ι→Heap} {hl:ι→HL}
theorem Ej.round j (h:pre j)(A:μ j<μ i)(hs:Sub (env j) e)(G:hp j=I)(O:hl j=H):Ej cx (a5C cx Q pre μ i env hp hl) .normal e I H:=
 fun _ _ Z h1=>⟨j,h,A,Z.sub hs,G▸O▸h1⟩
theorem Ej.OX(h:Ej cx Q .ret e I H):Ej cx (a5C cx Q pre μ i env hp hl) .ret e I H:=fun a w A hs=>h a w A hs
theorem Ej.JK{id}(h:Ej cx Q (.exit id) e I H):Ej cx (a5C cx Q pre μ i env hp hl) (.exit id) e I H:=fun a w A hs=>h a w A hs
theorem Ej.b8D{A}(h:Ej cx Q (.panic A) e I H):Ej cx (a5C cx Q pre μ i env hp hl) (.panic A) e I H:=fun a w G hs=>h a w G hs
end round
end rules
end Go.Sx
namespace Go.Sx
open Go
variable [DR]
def DK (cx:Cx) (o:Oper) (e:Env) (S:World→Prop) (v:Value):Prop:=
 ∀a w,Has a cx.n e cx.ds→S w→(execOp a.eval o).run cx.P w= .ok (.value v) w
def str (l:List UInt8):Value:= .string ⟨l.toArray⟩
abbrev i64 (n:Int):Value:= .int .i64 n
abbrev u8 (c:UInt8):Value:= .int .u8 (c.toNat:Int)
abbrev ptr (b o:Nat):Value:= .pointer (some ⟨b,o,none⟩)
def yY (t:TypeId) (l:List Value):Obj:= .cells l.toArray t (0,0)
theorem size_mk(l:List UInt8):(⟨l.toArray⟩:ByteArray).size=l.length:=by
 show l.toArray.size=_;simp
theorem EC{α:Type}[BEq α][LawfulBEq α]{a b:α}(h:(a != b)=false):a=b:=by simpa using h
section
variable {cx:Cx} {Q:Qt} {o:Oper} {e:Env} {I:Heap} {H:HL} {C:Ct} {S:World→Prop}
theorem IE{d v}(A:DK cx o e (SS I H) v)(G:o.dst=some d)(hd:aO d cx.n=true)(k:C ((d,v)::e) I H):GZ cx Q o e I H C:=by
 intro K O a w h hs;unfold Oper.wp;rw[A a w h hs.ss];simp only[aP,G];exact O _ _ _ k _ _ (h.put hd) hs
theorem zK{d:Nat}{v:Value}(h:DK cx o e (SS I H) v)(k:C ((d,v)::e) I H)(A:o.dst=some d:=by exact rfl)(hd:Nat.blt d cx.n=true:=by exact rfl):GZ cx Q o e I H C:=IE h A hd k
theorem J.y{h l d v}(A:DK cx o e (SS I H) v)(hg:o.guard=none)(G:o.dst=some d)(hd:aO d cx.n=true)
 (k:J cx Q h l ((d,v)::e) I H):J cx Q h (o::l) e I H:=J.op hg (IE A G hd k)
theorem J.z{h l d v}(A:DK cx o e (SS I H) v)(k:J cx Q h l ((d,v)::e) I H)(hg:o.guard=none:=by rfl)(G:o.dst=some d:=by rfl)(hd:Nat.blt d cx.n=true:=by rfl):J cx Q h (o::l) e I H:=J.y A hg G hd k
theorem a9m{x v}(h:o.op= .move x)(A:ev e x=some v):DK cx o e S v:=by
 intro a w G _;simp only[execOp,h,aJ,G.eval A]
theorem yP{x:Operand}{v:Value}(h:o.op= .move x:=by exact rfl)(A:ev e x=some v:=by exact rfl):DK cx o e S v:=a9m h A
theorem a9M{x v}(h:o.op= .assign x)(A:ev e x=some v):DK cx o e S v:=by
 intro a w G _;simp only[execOp,h,aJ,G.eval A]
theorem yQ{x:Operand}{v:Value}(h:o.op= .assign x:=by exact rfl)(A:ev e x=some v:=by exact rfl):DK cx o e S v:=a9M h A
theorem a3N{c x y t v}(A:o.op= .pick c x y)(G:ev e c=some (.bool t))(O:t=true)(Z:ev e x=some v):DK cx o e S v:=by
 intro a w h _;subst O;simp[execOp,A,h.eval G,h.eval Z,asBool]
theorem JV{c x y:Operand}{t:Bool}{v:Value}(h:o.op= .pick c x y:=by exact rfl)(A:ev e c=some (.bool t):=by exact rfl)(G:t=true:=by exact rfl)(O:ev e x=some v:=by exact rfl):DK cx o e S v:=a3N h A G O
theorem DY{c x y:Operand}{t:Bool}{v:Value}(h:t=true)(A:o.op= .pick c x y:=by exact rfl)(G:ev e c=some (.bool t):=by exact rfl)(O:ev e x=some v:=by exact rfl):DK cx o e S v:=a3N A G h O
theorem a0e{c x y t v}(A:o.op= .pick c x y)(G:ev e c=some (.bool t))(O:t=false)(Z:ev e y=some v):DK cx o e S v:=by
 intro a w h _;subst O;simp[execOp,A,h.eval G,h.eval Z,asBool]
theorem IL{c x y:Operand}{t:Bool}{v:Value}(h:o.op= .pick c x y:=by exact rfl)(A:ev e c=some (.bool t):=by exact rfl)(G:t=false:=by exact rfl)(O:ev e y=some v:=by exact rfl):DK cx o e S v:=a0e h A G O
theorem DV{c x y:Operand}{t:Bool}{v:Value}(h:t=false)(A:o.op= .pick c x y:=by exact rfl)(G:ev e c=some (.bool t):=by exact rfl)(O:ev e y=some v:=by exact rfl):DK cx o e S v:=a0e A G h O
theorem b4j{x p}(h:o.op= .nilCheck x)(A:ev e x=some (.pointer (some p))):DK cx o e S (.pointer (some p)):=by
 intro a w G _;simp[execOp,h,G.eval A]
theorem zW{x:Operand}{p:Addr}(h:o.op= .nilCheck x:=by exact rfl)(A:ev e x=some (.pointer (some p)):=by exact rfl):DK cx o e S (.pointer (some p)):=b4j h A
theorem a4w{x T k b off off' m fs f}(G:o.op= .fieldAddr T x k)(O:ev e x=some (ptr b off))
 (Z:cx.P.underlying T=some (.struct fs))(hf:fs[k]?=some f)(A:∀w,(sizeOf f.type).run cx.P w= .ok (m+1) w)(h:off+f.offset=off'):
 DK cx o e S (ptr b off'):=by
 intro a w ha _;subst h;simp[execOp,G,ha.eval O,Instr.fieldAt,run_underlying Z,hf,aY,fieldPlace,A,aT]
theorem qq2{x:Operand}{T k b off off' m:Nat}{fs:Array Field}{f:Field}(G:cx.P.underlying T=some (.struct fs))(A:∀w,(sizeOf f.type).run cx.P w= .ok (m+1) w)(O:o.op= .fieldAddr T x k:=by exact rfl)(Z:ev e x=some (ptr b off):=by exact rfl)(hf:fs[k]?=some f:=by exact rfl)(h:off+f.offset=off':=by exact rfl):DK cx o e S (ptr b off'):=a4w O Z G hf A h
theorem cell_of_heap{w:World}{b off}{cs:List Value}{t fr v}(h:w.heap[b]?=some (.cells cs.toArray t fr))(A:cs[off]?=some v):
 w.cell? ⟨b,off,none⟩=some v:=by
 simp[World.cell?,h,A]
theorem FY{x T b off}{cs:List Value}{t fr v}(A:o.op= .load T x)(G:ev e x=some (ptr b off))
 (h:∀w,(isAgg T).run cx.P w= .ok false w)(O:yR S b (.cells cs.toArray t fr))(Z:cs[off]?=some v):DK cx o e S v:=by
 intro a w ha hs;have hc:=cell_of_heap (O w hs) Z;simp[execOp,A,ha.eval G,eY,aY,loadVar,h,hc]
theorem EN{x:Operand}{T b off:Nat}{cs:List Value}{t:TypeId}{fr:Nat×Nat}{v:Value}(h:∀w,(isAgg T).run cx.P w= .ok false w)(A:yR S b (.cells cs.toArray t fr))(G:cs[off]?=some v)(O:o.op= .load T x:=by exact rfl)(Z:ev e x=some (ptr b off):=by exact rfl):DK cx o e S v:=FY O Z h A G
theorem yX{x:Operand}{T b off:Nat}{cs:List Value}{t:TypeId}{fr:Nat×Nat}{v:Value}(h:∀w,(isAgg T).run cx.P w= .ok false w)(A:yR S b (.cells cs.toArray t fr))(G:o.op= .load T x:=by exact rfl)(O:ev e x=some (ptr b off):=by exact rfl)(Z:cs[off]?=some v:=by exact rfl):DK cx o e S v:=FY G O h A Z
theorem OD{x T b off v}(A:o.op= .load T x)(G:ev e x=some (ptr b off))(h:∀w,(isAgg T).run cx.P w= .ok false w)(O:∀w,S w→w.cell? ⟨b,off,none⟩=some v):DK cx o e S v:=by
 intro a w Z hs;simp[execOp,A,Z.eval G,eY,aY,loadVar,h,O w hs]
theorem a8a{x T b off n}{cs vs:List Value}{t fr}(O:o.op= .load T x)(Z:ev e x=some (ptr b off))
 (A:∀w,(isAgg T).run cx.P w= .ok true w)(G:∀w,(sizeOf T).run cx.P w= .ok n w)(hb:yR S b (.cells cs.toArray t fr))(hv:(cs.drop off).take n=vs)(hn:vs.length=n):
 DK cx o e S (.agg vs.toArray):=by
 intro a w ha hs;have hh:=hb w hs;have hc:∀j v,vs[j]?=some v→w.cell? ((⟨b,off,none⟩:Addr).add j)=some v:=by
  intro j v h;rw[aT];refine cell_of_heap hh ?_;rw[←hv]at h;rw[dA]at h
  split at h
  ·simpa[dB]using h
  cases h
 have:=run_loadCells_list (P:=cx.P) (w:=w) ⟨b,off,none⟩ vs hc;rw[hn]at this;simp[execOp,O,ha.eval Z,eY,aY,loadVar,A,G,this]
theorem FH{x:Operand}{T b off n:Nat}{cs vs:List Value}{t:TypeId}{fr:Nat×Nat}(h:∀w,(isAgg T).run cx.P w= .ok true w)(A:∀w,(sizeOf T).run cx.P w= .ok n w)(G:yR S b (.cells cs.toArray t fr))(O:(cs.drop off).take n=vs)(Z:o.op= .load T x:=by exact rfl)(hx:ev e x=some (ptr b off):=by exact rfl)(hn:vs.length=n:=by exact rfl):DK cx o e S (.agg vs.toArray):=a8a Z hx h A G O hn
theorem zX{x:Operand}{T b off n:Nat}{cs vs:List Value}{t:TypeId}{fr:Nat×Nat}(h:∀w,(isAgg T).run cx.P w= .ok true w)(A:∀w,(sizeOf T).run cx.P w= .ok n w)(G:yR S b (.cells cs.toArray t fr))(O:o.op= .load T x:=by exact rfl)(Z:ev e x=some (ptr b off):=by exact rfl)(hv:(cs.drop off).take n=vs:=by exact rfl)(hn:vs.length=n:=by exact rfl):DK cx o e S (.agg vs.toArray):=a8a O Z h A G hv hn
theorem yZ{x y T U k p q}(A:o.op= .binOp .add T x y U)(G:ev e x=some (.int k p))(O:ev e y=some (.int k q))(Z:k.wrap (p+q)=p+q):
 DK cx o e S (.int k (p+q)):=by
 intro a w h _;simp[execOp,A,h.eval G,h.eval O,eqGuard_add,binOp_add,cZ,Z]
theorem IC{x y T U k p q}(A:o.op= .binOp .sub T x y U)(G:ev e x=some (.int k p))(O:ev e y=some (.int k q))(Z:k.wrap (p-q)=p-q):
 DK cx o e S (.int k (p-q)):=by
 intro a w h _;simp[execOp,A,h.eval G,h.eval O,eqGuard_sub,binOp_sub,cZ,Z]
theorem a0y{x y T U k p q}(A:o.op= .binOp .mul T x y U)(G:ev e x=some (.int k p))(O:ev e y=some (.int k q))(Z:k.wrap (p*q)=p*q):
 DK cx o e S (.int k (p*q)):=by
 intro a w h _;simp[execOp,A,h.eval G,h.eval O,eqGuard_mul,binOp_mul,cZ,Z]
theorem a8x{x y T U k p q}(A:o.op= .binOp .add T x y U)(G:ev e x=some (.int k p))(O:ev e y=some (.int k q)):
 DK cx o e S (.int k (k.wrap (p+q))):=by
 intro a w h _;simp[execOp,A,h.eval G,h.eval O,eqGuard_add,binOp_add,cZ]
theorem b2j{x y T U k p q}(A:o.op= .binOp .quo T x y U)(G:ev e x=some (.int k p))(O:ev e y=some (.int k q))(h0:q≠0)(Z:k.wrap (p.tdiv q)=p.tdiv q):
 DK cx o e S (.int k (p.tdiv q)):=by
 intro a w h _;simp[execOp,A,h.eval G,h.eval O,eqGuard_quo,binOp_quo,Op.intDiv,Z,h0]
theorem UN{x y T U k p q}(A:o.op= .binOp .rem T x y U)(G:ev e x=some (.int k p))(O:ev e y=some (.int k q))(h0:q≠0):
 DK cx o e S (.int k (p.tmod q)):=by
 intro a w h _;simp[execOp,A,h.eval G,h.eval O,eqGuard_rem,binOp_rem,Op.intDiv,h0]
theorem c6K{x y T U k p q}(A:o.op= .binOp .lss T x y U)(G:ev e x=some (.int k p))(O:ev e y=some (.int k q)):DK cx o e S (.bool (decide (p<q))):=by
 intro a w h _;simp[execOp,A,h.eval G,h.eval O,eqGuard_lss,binOp_lss]
theorem BM{x y:Operand}{T U:Nat}{k:IntKind}{p q:Int}(h:o.op= .binOp .lss T x y U:=by exact rfl)(A:ev e x=some (.int k p):=by exact rfl)(G:ev e y=some (.int k q):=by exact rfl):DK cx o e S (.bool (decide (p<q))):=c6K h A G
theorem WA{x y T U k p q}(A:o.op= .binOp .leq T x y U)(G:ev e x=some (.int k p))(O:ev e y=some (.int k q)):DK cx o e S (.bool (decide (p≤q))):=by
 intro a w h _;simp[execOp,A,h.eval G,h.eval O,eqGuard_leq,binOp_leq]
theorem KO{x y T U k p q}(A:o.op= .binOp .gtr T x y U)(G:ev e x=some (.int k p))(O:ev e y=some (.int k q)):DK cx o e S (.bool (decide (p>q))):=by
 intro a w h _;simp[execOp,A,h.eval G,h.eval O,eqGuard_gtr,binOp_gtr]
theorem MC{x y T U k p q}(A:o.op= .binOp .geq T x y U)(G:ev e x=some (.int k p))(O:ev e y=some (.int k q)):DK cx o e S (.bool (decide (p≥q))):=by
 intro a w h _;simp[execOp,A,h.eval G,h.eval O,eqGuard_geq,binOp_geq]
theorem c6q{x y T U k p q}(A:o.op= .binOp .eql T x y U)(G:ev e x=some (.int k p))(O:ev e y=some (.int k q)):DK cx o e S (.bool (p == q)):=by
 intro a w h _;simp[execOp,A,h.eval G,h.eval O,eqGuard_at_int,binOp_eql]
theorem BO{x y:Operand}{T U:Nat}{k:IntKind}{p q:Int}(h:o.op= .binOp .eql T x y U:=by exact rfl)(A:ev e x=some (.int k p):=by exact rfl)(G:ev e y=some (.int k q):=by exact rfl):DK cx o e S (.bool (p == q)):=c6q h A G
theorem c6R{x y T U k p q}(A:o.op= .binOp .neq T x y U)(G:ev e x=some (.int k p))(O:ev e y=some (.int k q)):DK cx o e S (.bool (p != q)):=by
 intro a w h _;simp[execOp,A,h.eval G,h.eval O,eqGuard_at_int,binOp_neq]
theorem EY{x y:Operand}{T U:Nat}{k:IntKind}{p q:Int}(h:o.op= .binOp .neq T x y U:=by exact rfl)(A:ev e x=some (.int k p):=by exact rfl)(G:ev e y=some (.int k q):=by exact rfl):DK cx o e S (.bool (p != q)):=c6R h A G
theorem ER{x T b}(h:o.op= .unOp .not T x)(A:ev e x=some (.bool b)):DK cx o e S (.bool (!b)):=by
 intro a w G _;simp[execOp,h,G.eval A,Op.unary]
theorem NJ{x h T k A n d}(G:o.op= .convert h T x)(O:ev e x=some (.int A n))(hs:cx.P.underlying h=some d)(Z:cx.P.underlying T=some (.int k)):
 DK cx o e S (.int k (k.wrap n)):=by
 intro a w ha _;simp[execOp,G,ha.eval O,convert,run_underlying hs,run_underlying Z,Conv.intToInt]
theorem b9C{x T l}(h:o.op= .call ⟨.builtin .len,#[x],#[T]⟩)(A:ev e x=some (str l))(G:cx.P.underlying T=some .string):DK cx o e S (i64 l.length):=by
 intro a w O _;simp[execOp,h,resolve,invoke,builtin,gK,O.eval A,run_underlying G,str,goInt,size_mk]
theorem GK{x:Operand}{T:Nat}{l:List UInt8}(h:cx.P.underlying T=some .string)(A:o.op= .call ⟨.builtin .len,#[x],#[T]⟩:=by exact rfl)(G:ev e x=some (str l):=by exact rfl):DK cx o e S (i64 l.length):=b9C A G h
theorem b3W{x T E p n c}(h:o.op= .call ⟨.builtin .len,#[x],#[T]⟩)(A:ev e x=some (.slice p n c))(G:cx.P.underlying T=some (.slice E)):DK cx o e S (i64 n):=by
 intro a w O _;simp[execOp,h,resolve,invoke,builtin,gK,O.eval A,run_underlying G,goInt]
theorem AU{x:Operand}{T E:Nat}{p:Option Addr}{n c:Nat}(h:cx.P.underlying T=some (.slice E))(A:o.op= .call ⟨.builtin .len,#[x],#[T]⟩:=by exact rfl)(G:ev e x=some (.slice p n c):=by exact rfl):DK cx o e S (i64 n):=b3W A G h
theorem DU{x y T l k i c}(G:o.op= .index T x y)(O:ev e x=some (str l))(Z:ev e y=some (.int k i))(hu:cx.P.underlying T=some .string)
 (h0:0≤i)(hc:l[i.toNat]?=some c):DK cx o e S (u8 c):=by
 intro a w h _;have:(⟨l.toArray⟩:ByteArray)[i.toNat]?=some c:=by
  obtain⟨A,hg⟩:=List.getElem?_eq_some_iff.1 hc;rw[getElem?_pos (⟨l.toArray⟩:ByteArray) i.toNat (by rw[size_mk];exact A)];simp[ByteArray.getElem_eq_getElem_data,hg]
 simp[execOp,G,h.eval O,h.eval Z,Instr.index,run_underlying hu,str,asIntOf,h0,this]
theorem CY{x lo Z T l}{p q:Nat}(ho:o.op= .slice T x lo Z none)(hx:ev e x=some (str l))(hu:cx.P.underlying T=some .string)
 (O:match lo with|some y=>∃k,ev e y=some (.int k p)|none=>p=0)(h:match Z with|some y=>∃k,ev e y=some (.int k q)|none=>q=l.length)
 (h1:p≤q)(h2:q≤l.length):DK cx o e S (str ((l.take q).drop p)):=by
 intro a w A _;have G:(⟨l.toArray⟩:ByteArray).extract p q=⟨((l.take q).drop p).toArray⟩:=by
  apply ByteArray.ext
  simp[dV];rw[List.drop_take]
 cases lo with
 |none=>
  simp only at O;subst O;cases Z with
  |none=>
   simp only at h;subst h;simp[execOp,ho,A.eval hx,dG,Instr.slice,bJ,run_underlying hu,str]
   first|done|simpa[size_mk]using G
  |some y=>
   obtain⟨k,hy⟩:=h;simp[execOp,ho,A.eval hx,A.eval hy,dG,Instr.slice,bJ,run_underlying hu,str,dM,asIntOf,size_mk,h2]
   first|done|simpa using G
 |some z=>
  obtain⟨_,hz⟩:=O;cases Z with
  |none=>
   simp only at h;subst h;simp[execOp,ho,A.eval hx,A.eval hz,dG,Instr.slice,bJ,run_underlying hu,str,dM,asIntOf,size_mk,h1]
   first|done|simpa using G
  |some y=>
   obtain⟨k,hy⟩:=h;simp[execOp,ho,A.eval hx,A.eval hy,A.eval hz,dG,Instr.slice,bJ,run_underlying hu,str,dM,asIntOf,size_mk,h2,h1]
   first|done|simpa using G
theorem EZ{x y T U l m}(A:o.op= .binOp .add T x y U)(G:ev e x=some (str l))(O:ev e y=some (str m))(Z:l.length+m.length≤9223372036854775807):
 DK cx o e S (str (l++m)):=by
 intro a w h _;have h1:¬((((⟨l.toArray⟩:ByteArray).size+(⟨m.toArray⟩:ByteArray).size:Nat):Int)>IntKind.i64.max):=by
  rw[size_mk,size_mk];simp;omega
 have h2:(⟨l.toArray⟩:ByteArray)++⟨m.toArray⟩=⟨(l++m).toArray⟩:=by
  apply ByteArray.ext;simp
 simp only[execOp,A,h.eval G,h.eval O,eqGuard_add,str,binOp,fF,zF h1,h2,aH,aJ,aA]
theorem ED{x y T U l m}(A:o.op= .binOp .eql T x y U)(G:ev e x=some (str l))(O:ev e y=some (str m)):DK cx o e S (.bool (l == m)):=by
 intro a w h _;simp[execOp,A,h.eval G,h.eval O,str,eqGuard_at_string,binOp,fF]
theorem LH{x y T U l m}(A:o.op= .binOp .neq T x y U)(G:ev e x=some (str l))(O:ev e y=some (str m)):DK cx o e S (.bool (l != m)):=by
 intro a w h _;simp[execOp,A,h.eval G,h.eval O,str,eqGuard_at_string,binOp,fF,bne]
theorem BZ{x y T E b off n c sz off' k i}(O:o.op= .indexAddr T x y)(Z:ev e x=some (.slice (some ⟨b,off,none⟩) n c))(hy:ev e y=some (.int k i))
 (hu:cx.P.underlying T=some (.slice E))(A:∀w,(sizeOf E).run cx.P w= .ok sz w)(h0:0≤i)(h1:i<n)(h:off+i.toNat*sz=off'):DK cx o e S (ptr b off'):=by
 intro a w G _;subst h;simp[execOp,O,G.eval Z,G.eval hy,Instr.indexAt,asIntOf,run_underlying hu,h0,h1,A,aT]
theorem BG{x y:Operand}{T E b off n c sz off':Nat}{k:IntKind}{i:Int}(G:cx.P.underlying T=some (.slice E))(A:∀w,(sizeOf E).run cx.P w= .ok sz w)(O:o.op= .indexAddr T x y:=by exact rfl)(Z:ev e x=some (.slice (some ⟨b,off,none⟩) n c):=by exact rfl)(hy:ev e y=some (.int k i):=by exact rfl)(h0:0≤i:=by omega)(h1:i<n:=by omega)(h:off+i.toNat*sz=off':=by simp):DK cx o e S (ptr b off'):=BZ O Z hy G A h0 h1 h
theorem b6Z{x k}{vs:List Value}{v}(h:o.op= .extract x k)(A:ev e x=some (.tuple vs.toArray))(G:vs[k]?=some v):DK cx o e S v:=by
 intro a w O _;simp[execOp,h,O.eval A,Instr.extract,G]
theorem AQ{x:Operand}{k:Nat}{vs:List Value}{v:Value}(h:o.op= .extract x k:=by exact rfl)(A:ev e x=some (.tuple vs.toArray):=by exact rfl)(G:vs[k]?=some v:=by exact rfl):DK cx o e S v:=b6Z h A G
theorem EH{fn fs cs vs h}(G:o.op= .makeFunc fn fs.toArray cs.toArray)(h1:evs e fs=some vs)(h2:evs e cs=some h):DK cx o e S (.func fn vs.toArray h.toArray):=by
 intro a w A _;simp[execOp,G,Instr.makeFunc,A.a0u h1,A.a0u h2]
theorem a4B{T x v d}(h:o.op= .makeInterface T x)(A:ev e x=some v)(G:cx.P.underlying T=some d)(hn:(match d with| .interface _=>false|_=>true)=true):DK cx o e S (.iface T v):=by
 intro a w O _;simp only[execOp,h,Instr.makeInterface,O.eval A,aH,run_underlying G,aA];cases d<;>first|rfl|cases hn
end
end Go.Sx
namespace Go.Sx
open Go
variable [DR]
structure AV {α:Type} (l:List α) (i:Nat) (x:α) (l':List α):Prop where
  lt:i<l.length
  eq:l.set i x=l'
theorem AV.z{α:Type}{v x:α}{r:List α}:AV (v::r) 0 x (x::r):=⟨sI,rfl⟩
theorem AV.s{α:Type}{v x:α}{r A n}(h:AV r n x A):AV (v::r) (n+1) x (v::A):=
 ⟨by have:=h.1;simp;omega,by rw[fA,h.2]⟩
structure zM {α:Type} (l:List α) (i:Nat) (xs:List α) (l':List α):Prop where
  le:i+xs.length≤l.length
  eq:l'=l.take i++xs++l.drop (i+xs.length)
theorem zM.z{α:Type}{l:List α}:zM l 0 [] l:=⟨sI,sI⟩
theorem zM.c{α:Type}{v x:α}{r A xs}(h:zM r 0 xs A):zM (v::r) 0 (x::xs) (x::A):=by
 obtain⟨h1,h2⟩:=h;refine⟨by simp at h1 ⊢;omega,?_⟩;subst h2;simp
theorem zM.s{α:Type}{v:α}{r A xs n}(h:zM r n xs A):zM (v::r) (n+1) xs (v::A):=by
 obtain⟨h1,h2⟩:=h;refine⟨by simp;omega,?_⟩;subst h2;simp[List.take_succ_cons,Nat.add_right_comm n 1,List.drop_succ_cons]
theorem b5O:∀(H:HL) (i b:Nat) (o o':Obj),(H.map (·.1)).Nodup→H[i]?=some (b,o)→hset b o' H=H.set i (b,o')
 |[],i,b,o,o',_,h=>by simp at h
 |(c,x)::r,0,b,o,o',_,h=>by
  simp at h;obtain⟨rfl,rfl⟩:=h;simp[hset]
 |(c,x)::r,i+1,b,o,o',hn,h=>by
  simp only[bK,bT]at hn;simp only[dQ]at h;have A:c≠b:=fun G=>hn.1 (by rw[G];exact aQ (f:=(·.1)) (aF h));simp only[hset,zF A,fA];rw[b5O r i b o o' hn.2 h]
def World.block (w:World) (b:Nat) (o:Obj):World:={ w with heap:=w.heap.setIfInBounds b o }
theorem a3X{w b off}{cs:List Value}{t fr v}(h:w.heap[b]?=some (.cells cs.toArray t fr)):
 w.setCell ⟨b,off,none⟩ v=World.block w b (.cells (cs.set off v).toArray t fr):=by
 have G:b<w.heap.size:=by
  rcases aS b w.heap.size with A|A
  ·exact A
  simp[aI A]at h
 simp only[World.setCell,World.block]
 congr 1
 apply dD
 intro i;rw[eF,bY]
 by_cases hi:b=i
 ·subst hi;have hg:w.heap[b]= .cells cs.toArray t fr:=by simpa[G]using h
  simp[G,hg]
 simp[hi]
theorem a9W{w b o o'}(h:w.heap[b]?=some o):(World.block w b o').heap[b]?=some o':=by
 have G:b<w.heap.size:=by
  rcases aS b w.heap.size with A|A
  ·exact A
  simp[aI A]at h
 simp[World.block,G]
theorem c1g{w b c o'}(h:c≠b):(World.block w b o').heap[c]?=w.heap[c]?:=by
 simp[World.block,Ne.symm h]
theorem b4r{w b o o'}:World.block (World.block w b o) b o'=World.block w b o':=by
 simp[World.block]
theorem St.block{w0 D I0 I H H' w i b o o'}(h:St w0 D I0 I H w)(A:H[i]?=some (b,o))(hs:AV H i (b,o') H'):
 St w0 D I0 I H' (World.block w b o'):=by
 have G:=aF A;have:=h.write (o':=o') G (w':=World.block w b o') rfl rfl rfl (by simp[World.block]) (a9W (h.own _ G)) (fun c O=>c1g O) rfl;rw[b5O H i b o o' h.nodup A,hs.2]at this;exact this
theorem OA{P b off t fr}:∀(vs:List Value) (i:Nat) (w:World) (cs:List Value),w.heap[b]?=some (.cells cs.toArray t fr)→(fr=(0,0)∨cs.length≤fr.1)→off+i+vs.length≤cs.length→
 (∀v∈vs,v.oneCell'=true)→∀cs',zM cs (off+i) vs cs'→(storeCells ⟨b,off,none⟩ vs i).run P w= .ok () (World.block w b (.cells cs'.toArray t fr))
 |[],i,w,cs,h,_,_,_,cs',hl=>by
  have:cs'=cs:=by have:=hl.2;simpa using this
  subst this;have hw:World.block w b (.cells cs'.toArray t fr)=w:=by
   simp only[World.block]
   congr 1
   apply dD
   intro j;rw[bY]
   by_cases hj:b=j
   ·subst hj;have hb:b<w.heap.size:=by
     rcases aS b w.heap.size with O|O
     ·exact O
     simp[aI O]at h
    have hg:w.heap[b]= .cells cs'.toArray t fr:=by simpa[hb]using h
    simp[hb,hg]
   simp[hj]
  rw[hw];rfl
 |v::r,i,w,cs,h,G,hlen,hone,cs',hl=>by
  simp only[dN]at hlen;have A:off+i<cs.length:=oM;have hc:w.cell? ⟨b,off+i,none⟩=some (cs[off+i]'A):=cell_of_heap h (by simp[A]);have a0:w.frozen? ⟨b,off+i,none⟩=false:=by
   rcases G with rfl|G
   ·simp[gB,h]
   simp only[gB,h];have:decide (fr.1≤off+i)=false:=by simp;omega
   simp[this]
  have h1:=run_store P w ⟨b,off+i,none⟩ v .plain (hone v (.head _));simp only[hc,a0,bH,if_false]at h1;have Z:((⟨b,off,none⟩:Addr).add i)=⟨b,off+i,none⟩:=aT b off i;simp only[storeCells,aH,Z,h1,aA];rw[a3X h];have h2:(World.block w b (.cells (cs.set (off+i) v).toArray t fr)).heap[b]?=some (.cells (cs.set (off+i) v).toArray t fr):=a9W h;rw[OA r (i+1) _ (cs.set (off+i) v) h2 (by simpa using G) (by simp;omega) (fun u hu=>hone u (.tail _ hu)) cs' ?_,b4r];refine⟨by simp;omega,?_⟩;rw[hl.2];simp only[dN];rw[show off+(i+1)=(off+i)+1 from by omega];rw[List.take_set,List.drop_set_of_lt oM];rw[List.take_succ_eq_append_getElem A];rw[bP _ _ (by simp;omega)];simp[Nat.min_eq_left (Nat.le_of_lt A),Nat.add_assoc,Nat.add_comm 1]
structure CG (vs:List Value) (sz:Nat) (cs:List Value):Prop where
  all:∀v∈vs,v.cells.size=sz
  eq:vs.flatMap (fun v=>v.cells.toList)=cs
theorem CG.none{sz}:CG [] sz []:=⟨sI,rfl⟩
theorem CG.one{v vs cs}(h1:v.cells= #[v])(h:CG vs 1 cs):CG (v::vs) 1 (v::cs):=
 ⟨fun u A=>by cases A with|head=>rw[h1];rfl|tail _ A=>exact h.1 u A,by rw[dI,h1,h.2];rfl⟩
theorem CG.agg{xs vs cs sz}(h1:xs.length=sz)(h:CG vs sz cs):CG (.agg xs.toArray::vs) sz (xs++cs):=
 ⟨fun u A=>by cases A with|head=>simpa[Value.cells]using h1|tail _ A=>exact h.1 u A,by rw[dI,h.2];rfl⟩
theorem a5h:∀(xs:List Value) (k:Nat) (G old A:List Value) (off:Nat),old.length=xs.length→G.length=off+k→
 (xs.zipIdx k).foldl (fun cs (x:Value×Nat)=>cs.setIfInBounds (off+x.2) x.1) (G++old++A).toArray=(G++xs++A).toArray
 |[],k,G,old,A,off,h,_=>by
  have:old=[]:=bI.1 (by simpa using h);subst this;simp
 |x::xs,k,G,old,A,off,h,hp=>by
  obtain⟨y,r,rfl⟩:∃y r,old=y::r:=by
   cases old with
   |nil=>simp at h
   |cons y r=>exact⟨y,r,rfl⟩
  simp only[List.zipIdx_cons,List.foldl_cons];have h1:(G++y::r++A).toArray.setIfInBounds (off+k) x=((G++[x])++r++A).toArray:=by
   rw[List.setIfInBounds_toArray]
   congr 1
   rw[dJ,bP _ _ oM,hp,Nat.sub_self];simp
  rw[h1,a5h xs (k+1) (G++[x]) r A off (by simpa using h) (by simp;omega)];simp
theorem b3H{sz}:∀(vs:List Value) (k:Nat) (h rest:List Value),(∀v∈vs,v.cells.size=sz)→h.length=k*sz→rest.length=vs.length*sz→
 dK (fun i=>some (i*sz,sz)) (h++rest).toArray ((dW k vs.length).zip vs)=some (h++vs.flatMap (fun v=>v.cells.toList)).toArray
 |[],k,h,rest,_,_,hr=>by
  have:rest=[]:=bI.1 (by simpa using hr);subst this;simp[dK]
 |v::vs,k,h,rest,hv,hp,hr=>by
  have h1:v.cells.toList.length=sz:=by simpa using hv v (.head _)
  have O:rest.length=sz+vs.length*sz:=by rw[hr];simp[aW];omega
  have A:v.cells.size=sz:=hv v (.head _);simp only[dN,List.range'_succ,List.zip_cons_cons,dK];rw[zF (by simp[A,hp];omega)];have h2:v.cells.zipIdx.foldl (fun cs (x:Value×Nat)=>cs.setIfInBounds (k*sz+x.2) x.1) (h++rest).toArray=(h++v.cells.toList++rest.drop sz).toArray:=by
   rw[←a5h v.cells.toList 0 h (rest.take sz) (rest.drop sz) (k*sz) (by simp;omega) oM];rw[dJ h,bQ];rw[←fB,eP]
  rw[h2,b3H vs (k+1) (h++v.cells.toList) (rest.drop sz) (fun u G=>hv u (.tail _ G)) (by simp[A,hp,aW]) (by simp;omega)];simp[dI]
section
variable {cx:Cx} {Q:Qt} {o:Oper} {e:Env} {I:Heap} {H:HL} {C:Ct}
theorem b2C{T d z zs}(h:o.op= .alloc T)(hd:o.dst=some d)(hn:aO d cx.n=true)(hz:∀w,(zeroValue T).run cx.P w= .ok z w)(A:z.cells=zs.toArray)
 (k:∀b,cx.w0.heap.size≤b→C ((d,ptr b 0)::e) I ((b,yY T zs)::H)):GZ cx Q o e I H C:=by
 intro K G a w O hs;unfold Oper.wp;have:(execOp a.eval o).run cx.P w= .ok (.value (ptr w.heap.size 0)) { w with heap:=w.heap.push (yY T zs) }:=by
  simp[execOp,h,Instr.alloc,hz,newVar,newRow,A,yY]
 rw[this];simp only[aP,hd];exact G _ _ _ (k _ hs.size) _ _ (O.put hn) (hs.alloc _)
theorem BP{T d:Nat}{z:Value}{zs:List Value}(hz:∀w,(zeroValue T).run cx.P w= .ok z w)(k:∀b,cx.w0.heap.size≤b→C ((d,ptr b 0)::e) I ((b,yY T zs)::H))(h:o.op= .alloc T:=by exact rfl)(hd:o.dst=some d:=by exact rfl)(hn:Nat.blt d cx.n=true:=by exact rfl)(A:z.cells=zs.toArray:=by exact rfl):GZ cx Q o e I H C:=b2C h hd hn hz A k
theorem c6p{T d x z zs}(A:o.op= .box T x)(hd:o.dst=some d)(hn:aO d cx.n=true)(G:ev e x=some z)(O:z.cells=zs.toArray)
 (k:∀b,cx.w0.heap.size≤b→C ((d,ptr b 0)::e) I ((b,yY T zs)::H)):GZ cx Q o e I H C:=by
 intro K Z a w h hs;unfold Oper.wp;have:(execOp a.eval o).run cx.P w= .ok (.value (ptr w.heap.size 0)) { w with heap:=w.heap.push (yY T zs) }:=by
  simp[execOp,A,Instr.box,h.eval G,newVar,newRow,O,yY]
 rw[this];simp only[aP,hd];exact Z _ _ _ (k _ hs.size) _ _ (h.put hn) (hs.alloc _)
theorem BL{T d:Nat}{x:Operand}{z:Value}{zs:List Value}(k:∀b,cx.w0.heap.size≤b→C ((d,ptr b 0)::e) I ((b,yY T zs)::H))(h:o.op= .box T x:=by exact rfl)(hd:o.dst=some d:=by exact rfl)(hn:Nat.blt d cx.n=true:=by exact rfl)(A:ev e x=some z:=by exact rfl)(G:z.cells=zs.toArray:=by exact rfl):GZ cx Q o e I H C:=c6p h hd hn A G k
theorem EM{x y T t b off} i {cs cs' vs v H' n}(ho:o.op= .store T x y)(hd:o.dst=none)(hx:ev e x=some (ptr b off))(hy:ev e y=some v)
 (hv:v.cells=vs.toArray)(h1:vs.all bZ=true)(G:∀w,(sizeOf T).run cx.P w= .ok n w)(O:vs.length=n)(Z:H[i]?=some (b,yY t cs))(h:zM cs off vs cs')(a0:AV H i (b,yY t cs') H')
 (k:C e I H'):GZ cx Q o e I H C:=by
 intro K hK a w A hs;unfold Oper.wp;have hb:=hs.own _ (aF Z);have a1:=OA (P:=cx.P) (t:=t) vs 0 w cs hb (.inl rfl) h.1 (fun u hu=>(bM.1 h1) u hu) cs' h;have:(execOp a.eval o).run cx.P w= .ok .skip (World.block w b (yY t cs')):=by
  simp[execOp,ho,gG,aY,A.eval hx,A.eval hy,storeVar,hv,G,O,a1,yY]
 rw[this];simp only[aP,hd];exact hK _ _ _ k _ _ A.XP (hs.block Z a0)
theorem zS{x y:Operand}{T t b off:Nat}(i:Nat){cs cs' vs:List Value}{v:Value}{H':HL}{n:Nat}(h:∀w,(sizeOf T).run cx.P w= .ok n w)(A:zM cs off vs cs')(G:AV H i (b,yY t cs') H')(k:C e I H')(Z:o.op= .store T x y:=by exact rfl)(hd:o.dst=none:=by exact rfl)(hx:ev e x=some (ptr b off):=by exact rfl)(hy:ev e y=some v:=by exact rfl)(hv:v.cells=vs.toArray:=by exact rfl)(h1:vs.all Value.oneCell'=true:=by exact rfl)(O:vs.length=n:=by exact rfl)(hH:H[i]?=some (b,yY t cs):=by exact rfl):GZ cx Q o e I H C:=EM i Z hd hx hy hv h1 h O hH A G k
theorem b0O{T E d len sz}{parts:List (Nat×Operand)}{vs z A}(ho:o.op= .buildSlice T len parts.toArray)(hd:o.dst=some d)(hn:aO d cx.n=true)
 (hu:cx.P.underlying T=some (.slice E))(O:∀w,(sizeOf E).run cx.P w= .ok sz w)(hz:∀w,(zeroValue E).run cx.P w= .ok z w)(G:(Nat.ble (len*sz) (2 ^ 24) && aO 0 (len*sz))=true)
 (hv:evs e (parts.map (·.2))=some vs)(hi:parts.map (·.1)=dW 0 vs.length)(hl:vs.length=len)(hf:CG vs sz A)
 (k:∀b,cx.w0.heap.size≤b→C ((d,.slice (some ⟨b,0,none⟩) len len)::e) I ((b,yY E A)::H)):GZ cx Q o e I H C:=by
 intro K hK a w Z hs;unfold Oper.wp;have hp:(parts.toArray.map fun(i,x)=>(i,a.eval x)).toList=(dW 0 vs.length).zip vs:=by
  have h:=Z.a0u hv;rw[←hi,←h];simp[gI,dP]
 have a0:¬(len*sz>2 ^ 24):=by
  simp only[bC,Nat.ble_eq]at G;omega
 have a1:¬(len*sz=0):=by
  simp only[bC,Nat.blt_eq]at G;omega
 have a2:dK (fun i=>some (i*sz,sz)) ((fG (len*sz)).map (z.cells[· % z.cells.size]!)) ((dW 0 vs.length).zip vs)=some A.toArray:=by
  have h0:((fG (len*sz)).map (z.cells[· % z.cells.size]!))=([]++((fG (len*sz)).map (z.cells[· % z.cells.size]!)).toList).toArray:=by rw[fM,Array.toArray_toList]
  rw[h0,b3H vs 0 [] _ hf.1 sI (by simp[hl]),hf.2];simp
 have:(execOp a.eval o).run cx.P w= .ok (.value (.slice (some ⟨w.heap.size,0,none⟩) len len)) { w with heap:=w.heap.push (yY E A) }:=by
  simp only[execOp,ho,Instr.buildSlice,aH,run_underlying hu,aA,O,a0,a1,if_false,aJ,hz,hp,a2,newRow,run_newObj,yY]
 rw[this];simp only[aP,hd];exact hK _ _ _ (k _ hs.size) _ _ (Z.put hn) (hs.alloc _)
theorem AZ{T E d len sz:Nat}{parts:List (Nat×Operand)}{vs:List Value}{z:Value}{h:List Value}(O:cx.P.underlying T=some (.slice E))(G:∀w,(sizeOf E).run cx.P w= .ok sz w)(hz:∀w,(zeroValue E).run cx.P w= .ok z w)(hf:CG vs sz h)(k:∀b,cx.w0.heap.size≤b→C ((d,.slice (some ⟨b,0,none⟩) len len)::e) I ((b,yY E h)::H))(Z:o.op= .buildSlice T len parts.toArray:=by exact rfl)(hd:o.dst=some d:=by exact rfl)(hn:Nat.blt d cx.n=true:=by exact rfl)(A:(Nat.ble (len*sz) (2 ^ 24) && Nat.blt 0 (len*sz))=true:=by exact rfl)(hv:evs e (parts.map (·.2))=some vs:=by exact rfl)(hi:parts.map (·.1)=List.range' 0 vs.length:=by exact rfl)(hl:vs.length=len:=by exact rfl):GZ cx Q o e I H C:=b0O Z hd hn O G hz A hv hi hl hf k
end
def Enters (P:Program) (f:FuncId):Prop:=∃fn,P.funcs[f]?=some fn∧fn.name≠ "runtime.NumGoroutine" ∧fn.body.isNone=false
def Ready (I:Heap) (H:HL) (w:World):Prop:=(∀b o,I b=some o→w.heap[b]?=some o)∧(∀p∈H,w.heap[p.1]?=some p.2)∧(H.map (·.1)).Nodup∧∀p∈H,I p.1=none
def RR (w0:World) (D:List Nat) (I0:Heap) (post:Ending→Heap→HL→Prop):Ending→World→Prop:=
 fun e w'=>∃I' H',St w0 D I0 I' H' w'∧post e I' H'
def yT (P:Program) (f:FuncId) (args:List Value) (I:Heap) (H:HL) (post:Ending→Heap→HL→Prop):Prop:=
 Enters P f∧∀w,Ready I H w→Calls P f args.toArray w (RR w (H.map (·.1)) I post)
theorem yT.mono{P f args I H}{O A:Ending→Heap→HL→Prop}(h:yT P f args I H O)
 (Z:∀e G H',Le I G→O e G H'→A e G H'):yT P f args I H A:=
 ⟨h.1,fun w hw=>(h.2 w hw).mono fun e _ ⟨G,H',hs,hq⟩=>⟨G,H',hs,Z e G H' hs.le hq⟩⟩
def Pure (P:Program) (f:FuncId) (args:List Value) (I:Heap) (v:Value):Prop:=yT P f args I [] (fun e I' H'=>e= .returned v∧I'=I∧H'=[])
theorem OH{P f}(h:Enters P f) args w:(callFunc f args).run P w= .ok (.enter f args) w:=by
 obtain⟨fn,h1,h2,h3⟩:=h;have A:(fn.name == "runtime.NumGoroutine")=false:=by simpa using h2
 simp only[callFunc,aH,run_program,aA,h1,A,h3,bH,if_false,aJ]
section
variable {cx:Cx} {Q:Qt} {o:Oper} {e:Env} {I:Heap} {C:Ct}
theorem yS{H1 R d f fo xs ts a0 a1 vs}{G:Ending→Heap→HL→Prop}
 (ho:o.op= .call ⟨.value fo,xs.toArray,ts⟩)(hd:o.dst=some d)(hn:aO d cx.n=true)(hf:ev e fo=some (.func (.func f) a0.toArray a1.toArray))(hx:evs e xs=some vs)
 (hs:yT cx.P f (a0++vs++a1) I H1 G)
 (k:∀v A h,Le I A→G (.returned v) A h→C ((d,v)::e) A (h++R))
 (kp:∀ch A h,Le I A→G (.panicked ch) A h→Ej cx Q (.panic ch) e A (h++R))
 (ko:∀A h,¬G .outgrown A h):GZ cx Q o e I (H1++R) C:=by
 intro K hK a w ha O;unfold Oper.wp;have hr:(execOp a.eval o).run cx.P w= .ok (.enter f (a0++vs++a1).toArray) w:=by
  have a6:xs.toArray.map a.eval=vs.toArray:=by
   rw[fH,ha.a0u hx]
  simp only[execOp,ho,resolve,a6,ha.eval hf,Deferred.ofValue,invoke,aH,aJ,aA,OH hs.1];simp
 rw[hr];simp only[aP];have a2:Ready I H1 w:=⟨O.sub,fun p Z=>O.own p (aZ _ Z),by
  have:=O.nodup;rw[dS,dH]at this;exact this.1,fun p Z=>O.dis p (aZ _ Z)⟩
 refine(hs.2 w a2).mono ?_;rintro en w' ⟨A,h,a4,Z⟩;have a5:=a4.le;have a3:=O.call a4;cases en with
 |returned v=>
  rw[hd];exact hK _ _ _ (k v A h a5 Z) _ _ (ha.put hn) a3
 |panicked ch=>exact kp ch A h a5 Z _ _ ha a3
 |outgrown=>exact(ko _ _ Z).elim
theorem yU{H d f O xs ts h A vs v}
 (ho:o.op= .call ⟨.value O,xs.toArray,ts⟩)(hd:o.dst=some d)(hn:aO d cx.n=true)(hf:ev e O=some (.func (.func f) h.toArray A.toArray))(hx:evs e xs=some vs)
 (hs:Pure cx.P f (h++vs++A) I v)(k:C ((d,v)::e) I H):GZ cx Q o e I H C:=
 yS (H1:=[]) (R:=H) ho hd hn hf hx hs
  (fun u Z G _ ⟨h1,h2,h3⟩=>by cases h1;subst h2;subst h3;exact k) (fun _ Z G _ ⟨h1,_⟩=>by cases h1) (fun Z G ⟨h1,_⟩=>by cases h1)
end
theorem yT.a9d{P f fn c args I H}{A:Ending→Heap→HL→Prop}(hf:P.funcs[f]?=some fn)(Z:fn.body=some c)(O:fn.name≠ "runtime.NumGoroutine")
 (hn:args.length≤fn.ntmps)
 (h:∀w0,Ready I H w0→Cj ⟨P,fn.ntmps,w0,H.map (·.1),I,[],none⟩ (bodyPost P fn (RR w0 (H.map (·.1)) I A)) c (TI 0 args) I H):yT P f args I H A:=by
 refine⟨⟨fn,hf,O,by simp[Z]⟩,fun w G=>?_⟩;refine calls_of_wp hf Z ?_;exact(h w G).wp rfl (Has.start args fn.ntmps hn) (St.start w I H G.1 G.2.1 G.2.2.1 G.2.2.2)
theorem AA{x}(h: -9223372036854775808≤x∧x≤9223372036854775807):IntKind.i64.wrap x=x:=IntWalk.i64_in _ h
section
variable {cx:Cx} {fn:Func} {post:Ending→Heap→HL→Prop} {e:Env} {I:Heap} {H:HL}
theorem Ej.a6L{t v}(hr:fn.results= #[.tmp t])(h:cx.ds=[])(G:eg e t=some v)(O:post (.returned v) I H):Ej cx (bodyPost cx.P fn (RR cx.w0 cx.D cx.I0 post)) .ret e I H:=by
 intro a w A hs;refine⟨A.defs.trans h,v,?_,I,H,hs,O⟩;rw[results_tmp hr];have:=A.get t v G;simp[this]
theorem zN{t:Nat}{v:Value}(A:post (.returned v) I H)(hr:fn.results= #[.tmp t]:=by exact rfl)(h:cx.ds=[]:=by exact rfl)(G:eg e t=some v:=by exact rfl):Ej cx (bodyPost cx.P fn (RR cx.w0 cx.D cx.I0 post)) .ret e I H:=Ej.a6L hr h G A
theorem Ej.a0L{t u v x}(hr:fn.results= #[.tmp t,.tmp u])(A:cx.ds=[])(G:eg e t=some v)(O:eg e u=some x)(Z:post (.returned (.tuple #[v,x])) I H):
 Ej cx (bodyPost cx.P fn (RR cx.w0 cx.D cx.I0 post)) .ret e I H:=by
 intro a w h hs;refine⟨h.defs.trans A,_,?_,I,H,hs,Z⟩;rw[results_tmp2 hr];have h1:=h.get t v G;have h2:=h.get u x O;simp[h1,h2]
theorem Ej.b2J(hr:fn.results= #[])(h:cx.ds=[])(A:post (.returned (.tuple #[])) I H):Ej cx (bodyPost cx.P fn (RR cx.w0 cx.D cx.I0 post)) .ret e I H:=
 fun _ _ G hs=>⟨G.defs.trans h,_,results_none hr _ _ _,I,H,hs,A⟩
theorem Ej.TK(hr:fn.results= #[])(h:cx.ds=[])(A:post (.returned (.tuple #[])) I H):Ej cx (bodyPost cx.P fn (RR cx.w0 cx.D cx.I0 post)) .normal e I H:=
 fun _ _ G hs=>⟨G.defs.trans h,_,results_none hr _ _ _,I,H,hs,A⟩
theorem Ej.pan{h}(A:cx.ds=[])(G:post (.panicked h) I H):Ej cx (bodyPost cx.P fn (RR cx.w0 cx.D cx.I0 post)) (.panic h) e I H:=
 fun _ _ O hs=>⟨O.defs.trans A,I,H,hs,G⟩
end
def Pull (H:HL) (p:Nat×Obj) (H':HL):Prop:=(p::H').Perm H
theorem Pull.z{p r}:Pull (p::r) p r:=List.Perm.refl _
theorem Pull.s{p q r A}(h:Pull r p A):Pull (q::r) p (q::A):=(List.Perm.swap q p A).trans (List.Perm.cons q h)
def Keeps (H' H:HL):Prop:=H'.Sublist H
theorem Keeps.n:Keeps [] []:=List.Sublist.slnil
theorem Keeps.r{r}:Keeps r r:=List.Sublist.refl r
theorem Keeps.k{p r A}(h:Keeps A r):Keeps (p::A) (p::r):=dX p h
theorem Keeps.d{p r A}(h:Keeps A r):Keeps A (p::r):=List.Sublist.cons p h
section
variable {cx:Cx} {Q:Qt} {e:Env} {I:Heap} {H H':HL} {p:Nat×Obj}
theorem Cj.pull{c}(h:Pull H p H')(k:Cj cx Q c e I (p::H')):Cj cx Q c e I H:=Cj.perm h k
theorem J.pull{A l}(h:Pull H p H')(k:J cx Q A l e I (p::H')):J cx Q A l e I H:=J.perm h k
theorem Ej.pull{x}(h:Pull H p H')(k:Ej cx Q x e I (p::H')):Ej cx Q x e I H:=Ej.perm h k
theorem Ej.bare{x}(k:Ej cx Q x e I []):Ej cx Q x e I H:=Ej.keep (List.nil_sublist _) k
theorem J.split{h l} d {b}(A:eg e d=some (.bool b))(h1:b=true→J cx Q h l e I H)(h0:b=false→J cx Q h l e I H):J cx Q h l e I H:=by
 cases b
 ·exact h0 rfl
 exact h1 rfl
theorem Cj.persist{c b o}(A:cx.w0.heap.size≤b)(k:∀h,Le I h→h b=some o→Cj cx Q c e h H):Cj cx Q c e I ((b,o)::H):=
 fun a w G hs=>k _ (a5s (hs.dis _ (.head _))) (a1i b o I) a w G (hs.persist A)
theorem J.persist{h l b o}(G:cx.w0.heap.size≤b)(k:∀A,Le I A→A b=some o→J cx Q h l e A H):J cx Q h l e I ((b,o)::H):=
 fun a w O hs=>k _ (a5s (hs.dis _ (.head _))) (a1i b o I) a w O (hs.persist G)
theorem Ej.persist{x b o}(A:cx.w0.heap.size≤b)(k:∀h,Le I h→h b=some o→Ej cx Q x e h H):Ej cx Q x e I ((b,o)::H):=
 fun a w G hs=>k _ (a5s (hs.dis _ (.head _))) (a1i b o I) a w G (hs.persist A)
end
def sel:List Nat→HL→HL
 |[],_=>[]
 | i::r,H=>match H[i]? with
   |some p=>p::sel r H
   |none=>sel r H
def HSub:HL→HL→Prop
 |[],_=>True
 |p::r,H=>p∈H∧HSub r H
theorem HSub.mem:∀{A H:HL},HSub A H→∀p∈A,p∈H
 |_::_,_,⟨h,_⟩,_,.head _=>h
 |_::_,_,⟨_,h⟩,_,.tail _ hp=>HSub.mem h _ hp
theorem HSub.n{H}:HSub [] H:=trivial
theorem HSub.c{p r H}(i:Nat)(h:H[i]?=some p)(t:HSub r H):HSub (p::r) H:=⟨aF h,t⟩
def CSub:CL→HL→Prop
 |[],_=>True
 |c::r,H=>(∃cs t fr,(c.1,fZ (List.toArray cs) t fr)∈H∧cs[c.2.1]?=some c.2.2)∧CSub r H
theorem CSub.n{H}:CSub [] H:=trivial
theorem CSub.c{b off v r H}{cs:List Value}{t fr}(i:Nat)(h:H[i]?=some (b,.cells cs.toArray t fr))(A:cs[off]?=some v)(k:CSub r H):CSub ((b,off,v)::r) H:=
 ⟨⟨cs,t,fr,aF h,A⟩,k⟩
theorem CSub.cell:∀{Z:CL} {H:HL} {w:World},CSub Z H→(∀p∈H,w.heap[p.1]?=some p.2)→∀c∈Z,w.cell? ⟨c.1,c.2.1,none⟩=some c.2.2
 |_::_,_,_,⟨⟨_,_,_,h1,h2⟩,_⟩,hw,_,.head _=>cell_of_heap (hw _ h1) h2
 |_::_,_,_,⟨_,h⟩,hw,_,.tail _ hc=>CSub.cell h hw _ hc
def waits (ops:Array Oper) (i:Nat):Nat→Nat→Bool
 |0,_=>false
 | f+1,j=>match ops[j]? with
   |none=>false
   |some o=>o.after.any (fun e=>aU .any e && (e.on == i || waits ops i f e.on))
def Closed (ops:Array Oper) (listed:Array Bool):Prop:=∀j o,ops[j]?=some o→listed.getD j false=true→∀e∈o.after,aU .any e=true→listed.getD e.on false=true
def b5y (ops:Array Oper) (listed:Array Bool):Bool:=(List.range ops.size).all fun j=> !(listed.getD j false) || (match ops[j]? with
 |none=>true
 |some o=>o.after.all fun e=> !(aU .any e) || listed.getD e.on false)
theorem Closed.of{G A}(h:b5y G A=true):Closed G A:=by
 intro j o O hj e he hb;have Z:j<G.size:=(Array.getElem?_eq_some_iff.1 O).1;have h1:=bM.1 h j (List.mem_range.2 Z);rw[hj,O]at h1;simp only[Bool.not_true,Bool.false_or]at h1;have h2:=Array.all_eq_true'.1 h1 e he;rw[hb]at h2;simpa using h2
theorem Closed.set{G A j oj}(h:Closed G A)(hj:G[j]?=some oj)(O:∀e∈oj.after,aU .any e=true→A.getD e.on false=true):Closed G (A.setIfInBounds j true):=by
 intro k o Z hk e he hb
 by_cases hjk:j=k
 ·subst hjk;rw[hj]at Z;cases Z;exact getD_set_true (O e he hb)
 rw[getD_set_ne false hjk]at hk;exact getD_set_true (h k o Z hk e he hb)
theorem a9G{G A i}(Z:Closed G A)(hi:A.getD i false=false):∀(f j:Nat) (o:Oper),G[j]?=some o→waits G i f j=true→∃e∈o.after,aU .any e=true∧A.getD e.on false=false
 |0,_,_,_,h=>by cases h
 |f+1,j,o,ho,h=>by
  simp only[waits,ho]at h;obtain⟨e,he,O⟩:=Array.any_eq_true'.1 h;rw[bC,Bool.or_eq_true,beq_iff_eq]at O;refine⟨e,he,O.1,?_⟩;rcases O.2 with h1|h1
  ·rw[h1];exact hi
  cases hl:A.getD e.on false with
  |false=>rfl
  |true=>
   cases ho2:G[e.on]? with
   |none=>cases f<;>simp[waits,ho2]at h1
   |some o2=>
    obtain⟨e2,a0,a1,hn⟩:=a9G Z hi f e.on o2 ho2 h1;rw[Z e.on o2 ho2 hl e2 a0 a1]at hn;cases hn
def zok (ops:Array Oper) (listed:Array Bool) (z i:Nat):Bool:=match ops[z]? with
 |none=>true
 |some _=>b5y ops listed && (i != z && waits ops i ops.size z)
def WE (P:Program) (ops:Array Oper) (Q:Qt) (S:World→Prop) (z:Nat):Nat→Array Bool→Act→World→Prop
 |0,listed,a,w=>aG .any ops listed=[]∧Q .normal a w
 | fuel+1,listed,a,w=>(aG .any ops listed=[]→Q .normal a w)∧
   ∀i∈aG .any ops listed,wpOp P ops Q i (fun a' w'=>(i≠z→S w')∧WE P ops Q S z fuel (listed.setIfInBounds i true) a' w') a w
theorem a3d{P G Q}{S:World→Prop}{z}:∀(fuel:Nat) (A:Array Bool) (a:Act) (w:World),WE P G Q S z fuel A a w→wpAny P .any G Q fuel A a w
 |0,_,_,_,h=>h
 |fuel+1,_,_,_,h=>⟨h.1,fun i O=>wpOp_mono (fun Z w' h'=>a3d fuel _ Z w' h'.2) (h.2 i O)⟩
theorem b0N{h:Array Bool}{i}{oj:Oper}(hr:h.getD i true=false)(A:∀e∈oj.after,aU .any e=true→h.getD e.on false=true):∀e∈oj.after,aU .any e=true→e.on≠i:=fun e Z hb O=>by
 have h1:=A e Z hb;rw[O]at h1;rcases aS i h.size with G|G
 ·simp[G]at hr h1;rw[hr]at h1;cases h1
 simp[aI G]at h1
theorem b1H{P G Q}{S:World→Prop}{z i oi v}(hz:∀oz,G[z]?=some oz→i≠z∧waits G i G.size z=true)(hi:G[i]?=some oi)(a2:∀(j:Nat) (o:Oper) cs b,G[j]?=some o→o.op≠ .select cs b)
 (hQ:∀c a w,Q (.panic c) (a.put oi.dst v) w→Q (.panic c) a w):∀(O:Nat) (A:Array Bool) (a:Act) (w:World),
  (∀j oj,G[j]?=some oj→j≠i→A.getD j true=false→(∀e∈oj.after,aU .any e=true→e.on≠i)→oi.apart G oj=true)→
  (∀oz,G[z]?=some oz→Closed G A)→i∈aG .any G A→YieldsIf P G S oi v a→S w→
  WE P G Q S z O (A.setIfInBounds i true) (a.put oi.dst v) w→WE P G Q S z (O+1) A a w:=by
 intro O
 induction O with
 |zero=>
  intro A a w _ _ hr hy hS H;refine⟨fun h=>(by rw[h]at hr;cases hr),fun j hj=>?_⟩
  by_cases hji:j=i
  ·subst hji;exact hy.wpOp hi hS ⟨fun _=>hS,H⟩
  have:=ready_mono hj hji;rw[H.1]at this;cases this
 |succ O ih=>
  intro A a w a1 a5 hr hy hS H;refine⟨fun h=>(by rw[h]at hr;cases hr),fun j hj=>?_⟩
  by_cases hji:j=i
  ·subst hji;exact hy.wpOp hi hS ⟨fun _=>hS,H⟩
  have h1:=H.2 j (ready_mono hj hji);obtain⟨a3,oj,Z,a0⟩:=mem_ready.1 hj;have a8:=b0N (i:=i) (mem_ready.1 hr).1 a0;have a9:A.getD i false=false:=by
   have h0:=(mem_ready.1 hr).1;rcases aS i A.size with h'|h'
   ·simp[h']at h0 ⊢;exact h0
   simp[aI h']
  have a6:j≠z:=fun he=>by
   subst he;obtain⟨e,he,hb,hn⟩:=a9G (a5 oj Z) a9 _ j oj Z (hz oj Z).2;rw[a0 e he hb]at hn;cases hn
  have h2:=wpOp_putIf Z (a1 j oj Z hji a3 a8) (fun cs b=>a2 i oi cs b hi) (fun cs b=>a2 j oj cs b Z) hQ hy h1
  have a4:∀k ok,G[k]?=some ok→k≠i→(A.setIfInBounds j true).getD k true=false→
   (∀e∈ok.after,aU .any e=true→e.on≠i)→oi.apart G ok=true:=fun k ok hk aa a7 ab=>by
   refine a1 k ok hk aa ?_ ab
   by_cases hjk:j=k
   ·subst hjk;exact a3
   rw[getD_set_ne true hjk]at a7;exact a7
  refine wpOp_mono (fun a' w' h3=>⟨fun _=>h3.2.1 a6,ih (A.setIfInBounds j true) a' w' a4 (fun oz ac=>(a5 oz ac).set Z a0) (ready_mono hr (Ne.symm hji)) h3.1 (h3.2.1 a6) ?_⟩) h2;rw[Array.setIfInBounds_comm _ _ hji];exact h3.2.2
theorem a2t{P G Q}{S:World→Prop}{z i oi v O A a w}(hz:zok G A z i=true)(hi:G[i]?=some oi)
 (hs:bV G=true)(hf:dY .any G A i=true)(hr:(aG .any G A).contains i=true)
 (hQ:∀c a w,Q (.panic c) (a.put oi.dst v) w→Q (.panic c) a w)(hy:YieldsIf P G S oi v a)(hS:S w)
 (h:WE P G Q S z O (A.setIfInBounds i true) (a.put oi.dst v) w):WE P G Q S z (O+1) A a w:=
 b1H (fun oz Z=>by
  simp only[zok,Z,bC,bne_iff_ne]at hz;exact hz.2) hi (Region.noSelect_spec hs) hQ O A a w (Region.free_spec hi hf) (fun oz Z=>by
  simp only[zok,Z,bC]at hz;exact Closed.of hz.1) (by simpa using hr) hy hS h
theorem a1h{P G Q}{S:World→Prop}{z rs O A a w}(hr:aG .any G A=rs)(Z:rs≠[])
 (h:∀i∈rs,wpOp P G Q i (fun a' w'=>(i≠z→S w')∧WE P G Q S z O (A.setIfInBounds i true) a' w') a w):WE P G Q S z (O+1) A a w:=
 ⟨fun h0=>absurd (hr▸h0) Z,hr▸h⟩
theorem b4A{P G Q}{S:World→Prop}{z A a w}(hr:aG .any G A=[])(h:Q .normal a w):∀O,WE P G Q S z O A a w
 |0=>⟨hr,h⟩
 |_+1=>⟨fun _=>h,by rw[hr];simp⟩
def JA (cx:Cx) (Q:Qt) (l:List Oper) (I1:Heap) (A:HL) (Z:CL) (z:Nat) (fuel:Nat) (listed:Array Bool) (e:Env) (I:Heap) (H:HL):Prop:=
 ∀a w,Has a cx.n e cx.ds→St cx.w0 cx.D cx.I0 I H w→WE cx.P l.toArray Q (SC I1 A Z) z fuel listed a w
section
variable {cx:Cx} {Q:Qt} {e:Env} {I I1:Heap} {H A:HL} {Z:CL} {z:Nat} {l:List Oper}
def a5w (ops:Array Oper):Bool:=ops.toList.all fun o=>match o.op with
 | .defer _=>false
 |_=>true
theorem b6g{A}(h:a5w A=true){i:Nat}{o}(G:A[i]?=some o):∀c,o.op≠ .defer c:=by
 intro c O;have:=bM.1 h o (by have:=Array.mem_of_getElem? G;simpa using this);simp[O]at this
theorem a1J{rd P Z G Q}(hd:a5w G=true)(hq:¬LetsOut Q):∀(fuel:Nat) (A:Array Bool) (a:Act) (w:World),wpAny P Z G Q fuel A a w→wpAnyIn { Fence.wide with round:=rd } 0 P Z G Q fuel A a w
 |0,_,_,_,h=>h
 |fuel+1,A,a,w,h=>⟨h.1,fun i hi=>by
  have h2:=h.2 i hi;unfold wpOp at h2;unfold wpOpIn;cases ho:G[i]? with
  |none=>simp only[ho]at h2 ⊢;exact a1J hd hq fuel _ _ _ h2
  |some o=>
   simp only[ho]at h2 ⊢
   split
   ·rename_i O
    rw[zG O]at h2;have a0:rd=none∨∀c,o.op≠ .defer c:= .inr (b6g hd ho);rcases h2 with h2|⟨_,h2⟩
    ·exact Oper.wpIn_mono (fun a' w' h3=>a1J hd hq fuel _ a' w' h3) (a6z a0 h2)
    exact(hq h2).elim
   rename_i O
   rw[zF O]at h2;exact⟨fun _ _=>trivial,a1J hd hq fuel _ _ _ h2⟩⟩
theorem Cj.draw{id} A Z z (O:cx.P.follows .mixedOrders=true)(h:JA cx Q l I A Z z l.toArray.size (Array.replicate l.toArray.size false) e I H)(a0:cx.rd=none∨(a5w l.toArray=true∧¬LetsOut Q):=by first|exact .inl rfl|exact .inr ⟨rfl,fun h=>h.elim fun _ h=>h.elim fun _ h=>h⟩):Cj cx Q (.region id l.toArray true) e I H:=
 a0.elim (fun hr=>Cj.of_wp hr fun a _w G hs=>wp_region_any O (a3d _ _ _ _ (h a _ G hs.drew))) fun hd=>fun a _w G hs=>wpIn_region_any O (a1J hd.1 hd.2 _ _ _ _ (a3d _ _ _ _ (h a _ G hs.drew)))
theorem Cj.FT{id} is Z z (G:cx.P.follows .mixedOrders=true)(h:JA cx Q l I (sel is H) Z z l.toArray.size (Array.replicate l.toArray.size false) e I H)(A:cx.rd=none∨(a5w l.toArray=true∧¬LetsOut Q):=by first|exact .inl rfl|exact .inr ⟨rfl,fun h=>h.elim fun _ h=>h.elim fun _ h=>h⟩):Cj cx Q (.region id l.toArray true) e I H:=Cj.draw _ _ z G h A
theorem JA.pull{H' p O G}(h:Pull H p H')(k:JA cx Q l I1 A Z z O G e I (p::H')):JA cx Q l I1 A Z z O G e I H:=fun a w ha h1=>k a w ha (h1.perm h)
theorem JA.split{G h} d {b}(O:eg e d=some (.bool b))(h1:b=true→JA cx Q l I1 A Z z G h e I H)(h0:b=false→JA cx Q l I1 A Z z G h e I H):JA cx Q l I1 A Z z G h e I H:=by
 cases b
 ·exact h0 rfl
 exact h1 rfl
theorem JA.persist{G h b o}(hb:cx.w0.heap.size≤b)(k:∀O,Le I O→O b=some o→JA cx Q l I1 A Z z G h e O H):JA cx Q l I1 A Z z G h e I ((b,o)::H):=
 fun a w ha hs=>k _ (a5s (hs.dis _ (.head _))) (a1i b o I) a w ha (hs.persist hb)
theorem JA.done{O G}(hr:aG .any l.toArray G=[])(h:Ej cx Q .normal e I H):JA cx Q l I1 A Z z O G e I H:=
 fun a w ha hs=>b4A hr (h a w ha hs) O
theorem AL{O:Nat}{G:Array Bool}(h:Ej cx Q .normal e I H)(hr:Region.ready .any l.toArray G=[]:=by kernel_rfl):JA cx Q l I1 A Z z O G e I H:=JA.done hr h
theorem JA.take{a0 G} i {o d v}(hz:zok l.toArray G z i=true)(hi:l.toArray[i]?=some o)(hs:bV l.toArray=true)(hf:dY .any l.toArray G i=true)
 (hr:(aG .any l.toArray G).contains i=true)(hq:∀c a w,Q (.panic c) (a.put (some d) v) w→Q (.panic c) a w)(hg:o.guard=none)(hd:o.dst=some d)(hn:aO d cx.n=true)(hA:HSub A H)(hZ:CSub Z H)(a1:Le I1 I)
 (hy:DK cx o e (SC I1 A Z) v)(k:JA cx Q l I1 A Z z a0 (G.setIfInBounds i true) ((d,v)::e) I H):JA cx Q l I1 A Z z (a0+1) G e I H:=by
 intro a w ha O;have a2:SC I1 A Z w:=⟨⟨fun b o h=>O.sub b o (a1 b o h),fun p hp=>O.own p (hA.mem p hp)⟩,hZ.cell O.own⟩;refine a2t (oi:=o) hz (v:=v) hi hs hf hr (by rw[hd];exact hq) (.inl ⟨by simp[aC,hg],fun w' a3=>hy a w' ha a3⟩) a2 ?_;rw[hd];exact k _ _ (ha.put hn) O
theorem JA.c7l{a0 G} i {o d v} j dj a1 b (hz:zok l.toArray G z i=true)(hi:l.toArray[i]?=some o)(hs:bV l.toArray=true)(hf:dY .any l.toArray G i=true)
 (hr:(aG .any l.toArray G).contains i=true)(hq:∀c a w,Q (.panic c) (a.put (some d) v) w→Q (.panic c) a w)(hg:o.guard=some (j,a1))(a2:(l.toArray[j]?).bind (·.dst)=some dj)(hv:eg e dj=some (.bool b))(hb:b=a1)
 (hd:o.dst=some d)(hn:aO d cx.n=true)(hA:HSub A H)(hZ:CSub Z H)(a3:Le I1 I)
 (hy:DK cx o e (SC I1 A Z) v)(k:JA cx Q l I1 A Z z a0 (G.setIfInBounds i true) ((d,v)::e) I H):JA cx Q l I1 A Z z (a0+1) G e I H:=by
 intro a w ha O;have a4:SC I1 A Z w:=⟨⟨fun b o h=>O.sub b o (a3 b o h),fun p hp=>O.own p (hA.mem p hp)⟩,hZ.cell O.own⟩;refine a2t (oi:=o) hz (v:=v) hi hs hf hr (by rw[hd];exact hq) (.inl ⟨by simp[aC,hg,VH ha a2 hv,hb],fun w' a5=>hy a w' ha a5⟩) a4 ?_;rw[hd];exact k _ _ (ha.put hn) O
theorem JA.c7h{a0 G} i {o d} j dj a1 u (hz:zok l.toArray G z i=true)(hi:l.toArray[i]?=some o)(hs:bV l.toArray=true)(hf:dY .any l.toArray G i=true)
 (hr:(aG .any l.toArray G).contains i=true)(hq:∀c a w,Q (.panic c) (a.put (some d) undef) w→Q (.panic c) a w)(hg:o.guard=some (j,a1))(a2:(l.toArray[j]?).bind (·.dst)=some dj)(hv:eg e dj=some u)
 (hb:u= .bool (!a1)∨u=undef)(hd:o.dst=some d)(hn:aO d cx.n=true)(hA:HSub A H)(hZ:CSub Z H)(a3:Le I1 I)
 (k:JA cx Q l I1 A Z z a0 (G.setIfInBounds i true) ((d,undef)::e) I H):JA cx Q l I1 A Z z (a0+1) G e I H:=by
 intro a w ha O;have a4:SC I1 A Z w:=⟨⟨fun b o h=>O.sub b o (a3 b o h),fun p hp=>O.own p (hA.mem p hp)⟩,hZ.cell O.own⟩;have hw:aC o (yielded l.toArray a.tmps)=false:=by
  have a5:=ha.get dj _ hv;rcases hb with rfl|rfl
  ·simp[aC,hg,VH ha a2 hv]
  have hy:yielded l.toArray a.tmps j=none:=by simp only[yielded,a2,dL,a5,undef]
  simp[aC,hg,hy]
 refine a2t (oi:=o) hz (v:=undef) hi hs hf hr (by rw[hd];exact hq) (.inr ⟨hw,rfl⟩) a4 ?_;rw[hd];exact k _ _ (ha.put hn) O
def a4L (I1:Heap) (A:HL) (Z:CL) (I:Heap) (H:HL):Prop:=HSub A H∧CSub Z H∧Le I1 I
theorem JA.fix{O G}(h:a4L I1 A Z I H)(k:a4L I1 A Z I H→JA cx Q l I1 A Z z O G e I H):JA cx Q l I1 A Z z O G e I H:=k h
theorem JA.tk{O G} i {o d v}(hi:l.toArray[i]?=some o)(hx:a4L I1 A Z I H)(hy:DK cx o e (SC I1 A Z) v)(k:JA cx Q l I1 A Z z O (G.setIfInBounds i true) ((d,v)::e) I H)
 (hd:o.dst=some d:=by rfl)(hg:o.guard=none:=by rfl)(hn:Nat.blt d cx.n=true:=by rfl)(hz:zok l.toArray G z i=true:=by first|rfl|kernel_rfl)(hs:Region.noSelect l.toArray=true:=by kernel_rfl)(hf:Region.free .any l.toArray G i=true:=by kernel_rfl)
 (hr:(Region.ready .any l.toArray G).contains i=true:=by kernel_rfl)(hq:∀c a w,Q (.panic c) (a.put (some d) v) w→Q (.panic c) a w:=by exact fun _ _ _ h=>h):JA cx Q l I1 A Z z (O+1) G e I H:=
 JA.take i hz hi hs hf hr hq hg hd hn hx.1 hx.2.1 hx.2.2 hy k
theorem JA.tkG{a0 G} i {o d v} j dj O b (hi:l.toArray[i]?=some o)(hx:a4L I1 A Z I H)(a1:(l.toArray[j]?).bind (·.dst)=some dj)(hv:eg e dj=some (.bool b))(hb:b=O)(hy:DK cx o e (SC I1 A Z) v)
 (k:JA cx Q l I1 A Z z a0 (G.setIfInBounds i true) ((d,v)::e) I H)(hd:o.dst=some d:=by rfl)(hg:o.guard=some (j,O):=by rfl)(hn:Nat.blt d cx.n=true:=by rfl)(hz:zok l.toArray G z i=true:=by first|rfl|kernel_rfl)(hs:Region.noSelect l.toArray=true:=by kernel_rfl)
 (hf:Region.free .any l.toArray G i=true:=by kernel_rfl)(hr:(Region.ready .any l.toArray G).contains i=true:=by kernel_rfl)(hq:∀c a w,Q (.panic c) (a.put (some d) v) w→Q (.panic c) a w:=by exact fun _ _ _ h=>h):JA cx Q l I1 A Z z (a0+1) G e I H:=
 JA.c7l i j dj O b hz hi hs hf hr hq hg a1 hv hb hd hn hx.1 hx.2.1 hx.2.2 hy k
theorem JA.tkS{a0 G} i {o d} j dj O u (hi:l.toArray[i]?=some o)(hx:a4L I1 A Z I H)(a1:(l.toArray[j]?).bind (·.dst)=some dj)(hv:eg e dj=some u)(hb:u= .bool (!O)∨u=undef)
 (k:JA cx Q l I1 A Z z a0 (G.setIfInBounds i true) ((d,undef)::e) I H)(hd:o.dst=some d:=by rfl)(hg:o.guard=some (j,O):=by rfl)(hn:Nat.blt d cx.n=true:=by rfl)(hz:zok l.toArray G z i=true:=by first|rfl|kernel_rfl)(hs:Region.noSelect l.toArray=true:=by kernel_rfl)
 (hf:Region.free .any l.toArray G i=true:=by kernel_rfl)(hr:(Region.ready .any l.toArray G).contains i=true:=by kernel_rfl)(hq:∀c a w,Q (.panic c) (a.put (some d) undef) w→Q (.panic c) a w:=by exact fun _ _ _ h=>h):JA cx Q l I1 A Z z (a0+1) G e I H:=
 JA.c7h i j dj O u hz hi hs hf hr hq hg a1 hv hb hd hn hx.1 hx.2.1 hx.2.2 k
theorem CJ{a0:Nat}{G:Array Bool}(i:Nat){o:Oper}{d:Nat}(j:Nat)(dj:Nat)(O:Bool){u:Value}(hx:a4L I1 A Z I H)(hb:u= .bool (!O)∨u=undef)(k:JA cx Q l I1 A Z z a0 (G.setIfInBounds i true) ((d,undef)::e) I H)(hi:l.toArray[i]?=some o:=by exact rfl)(a1:(l.toArray[j]?).bind (·.dst)=some dj:=by exact rfl)(hv:eg e dj=some u:=by exact rfl)(hd:o.dst=some d:=by rfl)(hg:o.guard=some (j,O):=by rfl)(hn:Nat.blt d cx.n=true:=by rfl)(hz:zok l.toArray G z i=true:=by first|rfl|kernel_rfl)(hs:Region.noSelect l.toArray=true:=by kernel_rfl)(hf:Region.free .any l.toArray G i=true:=by kernel_rfl)(hr:(Region.ready .any l.toArray G).contains i=true:=by kernel_rfl)(hq:∀c a w,Q (.panic c) (a.put (some d) undef) w→Q (.panic c) a w:=by exact fun _ _ _ h=>h):JA cx Q l I1 A Z z (a0+1) G e I H:=JA.tkS i j dj O u hi hx a1 hv hb k (hd:=hd) (hg:=hg) (hn:=hn) (hz:=hz) (hs:=hs) (hf:=hf) (hr:=hr) (hq:=hq)
theorem JA.step{a0 G} i {o}(hr:aG .any l.toArray G=[i])(hi:l.toArray[i]?=some o)(hg:o.guard=none)
 (k:GZ cx Q o e I H (fun e' I' H'=>(Le I1 I'∧HSub A H'∧CSub Z H')∧JA cx Q l I1 A Z z a0 (G.setIfInBounds i true) e' I' H')):JA cx Q l I1 A Z z (a0+1) G e I H:=by
 intro a w ha a1;refine a1h hr sI fun j hj=>?_;obtain rfl:j=i:=by simpa using hj
 unfold wpOp;simp only[hi];rw[zG (by simp[aC,hg])];refine .inl (k _ (fun e' I' H' ⟨⟨a2,hA,hZ⟩,hj⟩ a' w' a3 O=>⟨fun _=>⟨⟨fun b o h=>O.sub b o (a2 b o h),fun p hp=>O.own p (hA.mem p hp)⟩,hZ.cell O.own⟩,hj a' w' a3 O⟩) a w ha a1)
theorem zT{G:Nat}{h:Array Bool}(i:Nat){o:Oper}(hi:l.toArray[i]?=some o)(k:GZ cx Q o e I H (fun e' O H'=>(Le I1 O∧HSub A H'∧CSub Z H')∧JA cx Q l I1 A Z z G (h.setIfInBounds i true) e' O H'))(hr:Region.ready .any l.toArray h=[i]:=by kernel_rfl)(hg:o.guard=none:=by exact rfl):JA cx Q l I1 A Z z (G+1) h e I H:=JA.step i hr hi hg k
theorem JA.last{O G} i {o}(hr:aG .any l.toArray G=[i])(hz:i=z)(hi:l.toArray[i]?=some o)(hg:o.guard=none)
 (k:GZ cx Q o e I H (fun e' I' H'=>JA cx Q l I1 A Z z O (G.setIfInBounds i true) e' I' H')):JA cx Q l I1 A Z z (O+1) G e I H:=by
 intro a w ha a0;refine a1h hr sI fun j hj=>?_;obtain rfl:j=i:=by simpa using hj
 unfold wpOp;simp only[hi];rw[zG (by simp[aC,hg])];refine .inl (k _ (fun e' I' H' hj a' w' a1 a2=>⟨fun h=>absurd hz h,hj a' w' a1 a2⟩) a w ha a0)
theorem JA.stepG{a0 G} i {o} j dj a1 b (hr:aG .any l.toArray G=[i])(hi:l.toArray[i]?=some o)(hg:o.guard=some (j,a1))
 (a2:(l.toArray[j]?).bind (·.dst)=some dj)(hv:eg e dj=some (.bool b))(hb:b=a1)
 (k:GZ cx Q o e I H (fun e' I' H'=>(Le I1 I'∧HSub A H'∧CSub Z H')∧JA cx Q l I1 A Z z a0 (G.setIfInBounds i true) e' I' H')):JA cx Q l I1 A Z z (a0+1) G e I H:=by
 intro a w ha a3;refine a1h hr sI fun j hj=>?_;obtain rfl:j=i:=by simpa using hj
 unfold wpOp;simp only[hi];rw[zG (by simp[aC,hg,VH ha a2 hv,hb])];refine .inl (k _ (fun e' I' H' ⟨⟨a4,hA,hZ⟩,hj⟩ a' w' a5 O=>⟨fun _=>⟨⟨fun b o h=>O.sub b o (a4 b o h),fun p hp=>O.own p (hA.mem p hp)⟩,hZ.cell O.own⟩,hj a' w' a5 O⟩) a w ha a3)
theorem JA.all{a0 G} rs (hr:aG .any l.toArray G=rs)(a1:rs≠[])
 (k:∀i∈rs,∃o,l.toArray[i]?=some o∧o.guard=none∧GZ cx Q o e I H (fun e' I' H'=>(Le I1 I'∧HSub A H'∧CSub Z H')∧JA cx Q l I1 A Z z a0 (G.setIfInBounds i true) e' I' H')):JA cx Q l I1 A Z z (a0+1) G e I H:=by
 intro a w ha a2;refine a1h hr a1 fun j hj=>?_;obtain⟨o,hi,hg,k⟩:=k j hj;unfold wpOp;simp only[hi];rw[zG (by simp[aC,hg])];refine .inl (k _ (fun e' I' H' ⟨⟨a3,hA,hZ⟩,hj⟩ a' w' a4 O=>⟨fun _=>⟨⟨fun b o h=>O.sub b o (a3 b o h),fun p hp=>O.own p (hA.mem p hp)⟩,hZ.cell O.own⟩,hj a' w' a4 O⟩) a w ha a2)
end
end Go.Sx
namespace Go.Sx
instance c7y:DR:=⟨false⟩
theorem a2j{p:Prop}:DR.b=true→p:=fun h=>nomatch h
theorem St.drewN{w0 w D I0 I H}(h:St w0 D I0 I H w) k:St w0 D I0 I H { w with drawn:=k }:=
 ⟨h.os,h.tape,h.output,h.size,h.frm,h.sub,h.own,h.nodup,h.dis,h.new,h.ifr,h.le,a2j⟩
theorem Ej.OI{h fn}{A:Ending→Heap→HL→Prop}{e I H H' t T b n}{cs:List Value}{ty fr}(hk:Keeps H' H)(hr:fn.results= #[.cell t T])(G:h.ds=[])(hv:eg e t=some (ptr b 0))
 (hb:yR (SS I H) b (.cells cs.toArray ty fr))(O:∀w,(isAgg T).run h.P w= .ok true w)(Z:∀w,(sizeOf T).run h.P w= .ok n w)(hn:cs.length=n)(hp:A (.returned (.agg cs.toArray)) I H'):
 Ej h (bodyPost h.P fn (RR h.w0 h.D h.I0 A)) .ret e I H:=by
 intro a w ha hs;refine⟨ha.defs.trans G,_,?_,I,H',hs.sublist hk,hp⟩;have h1:=ha.get t _ hv;have hc:∀j v,cs[j]?=some v→w.cell? ((⟨b,0,none⟩:Addr).add j)=some v:=fun j v hj=>by
  rw[aT];exact cell_of_heap (hb w hs.ss) (by simpa using hj)
 have h2:=run_loadCells_list (P:=h.P) (w:=w) ⟨b,0,none⟩ cs hc;rw[hn]at h2;simp[results,hr,h1,asAddr,loadVar,O,Z,h2]
theorem Ej.c1e{h fn}{A:Ending→Heap→HL→Prop}{e I H H' t O Z T b n x y}{cs:List Value}{ty fr}(hk:Keeps H' H)(hr:fn.results= #[.cell t T,.tmp O,.tmp Z])(a0:h.ds=[])(hv:eg e t=some (ptr b 0))
 (hb:yR (SS I H) b (.cells cs.toArray ty fr))(a1:∀w,(isAgg T).run h.P w= .ok true w)(a2:∀w,(sizeOf T).run h.P w= .ok n w)(hn:cs.length=n)(hx:eg e O=some x)(hy:eg e Z=some y)(hp:A (.returned (.tuple #[.agg cs.toArray,x,y])) I H'):
 Ej h (bodyPost h.P fn (RR h.w0 h.D h.I0 A)) .ret e I H:=by
 intro a w G hs;refine⟨G.defs.trans a0,_,?_,I,H',hs.sublist hk,hp⟩;have h1:=G.get t _ hv;have h3:=G.get O _ hx;have h4:=G.get Z _ hy;have hc:∀j v,cs[j]?=some v→w.cell? ((⟨b,0,none⟩:Addr).add j)=some v:=fun j v hj=>by
  rw[aT];exact cell_of_heap (hb w hs.ss) (by simpa using hj)
 have h2:=run_loadCells_list (P:=h.P) (w:=w) ⟨b,0,none⟩ cs hc;rw[hn]at h2;simp[results,hr,h1,h3,h4,asAddr,loadVar,a1,a2,h2]
theorem St.forget{w0 w D I0 I H}(h:St w0 D I0 I H w):St w0 D I0 I0 H w:=
 ⟨h.os,h.tape,h.output,h.size,h.frm,fun b o A=>h.sub b o (h.le b o A),h.own,h.nodup,fun p G=>(by
  cases hi:I0 p.1 with
  |none=>rfl
  |some o=>(have:=h.dis p G;rw[h.le _ _ hi]at this;cases this)),h.new,fun _ _=>rfl,Le.refl _,a2j⟩
theorem yT.forget{P f args I H}{G A:Ending→Heap→HL→Prop}(h:yT P f args I H G)
 (Z:∀e O H',Le I O→G e O H'→A e I H'):yT P f args I H A:=
 ⟨h.1,fun w hw=>(h.2 w hw).mono fun e _ ⟨O,H',hs,hq⟩=>⟨I,H',hs.forget,Z e O H' hs.le hq⟩⟩
theorem yT.toPure{P f args I v}(h:yT P f args I [] (fun e _ H'=>e= .returned v∧H'=[])):Pure P f args I v:=
 h.forget fun _ _ _ _ ⟨h1,h2⟩=>⟨h1,rfl,h2⟩
open Go
abbrev Gs:=Option (Nat×Nat×List Value)
def gH (E:TypeId) (xs:List Value):Gs→HL
 |none=>[]
 |some (b,_,sp)=>[(b,yY E (xs++sp))]
def gV (n:Nat):Gs→Value
 |none=> .slice none 0 0
 |some (b,c,_)=> .slice (some ⟨b,0,none⟩) n c
def CU (base sz n:Nat) (xs:List Value):Gs→Prop
 |none=>n=0∧xs=[]
 |some (b,c,sp)=>base≤b∧xs.length=n*sz∧xs.length+sp.length=c*sz
theorem CU.len{base sz n xs g}(h:CU base sz n xs g):xs.length=n*sz:=by
 cases g with
 |none=>obtain⟨rfl,rfl⟩:=h;simp
 |some p=>exact h.2.1
theorem CU.some{base sz n xs g}(h:CU base sz n xs g)(hn:0<n):∃b c sp,g= .some (b,c,sp)∧base≤b:=by
 cases g with
 |none=>obtain⟨rfl,_⟩:=h;omega
 |some p=>exact⟨p.1,p.2.1,p.2.2,rfl,h.1⟩
theorem b2D{α:Type}(xs sp:List α) k:(xs++sp).drop (xs.length+k)=sp.drop k:=by
 rw[←fQ,List.drop_left]
theorem b4T A:∀(r c:Nat),c≤2*A+768→fU A r c≤2*A+768
 |0,c,h=>h
 |r+1,c,h=>by
  unfold fU
  split
  ·exact h
  exact b4T A r _ oM
theorem b7o A G (h:G<A):bW A G≤2*A+768:=by
 unfold bW
 split
 ·omega
 split
 ·omega
 exact b4T A 4 G oM
theorem a0S{P w b off n}{cs xs:List Value}{t fr}(h:w.heap[b]?=some (.cells cs.toArray t fr))(G:(cs.drop off).take n=xs)(hn:xs.length=n):
 (loadCells ⟨b,off,none⟩ n).run P w= .ok xs.toArray w:=by
 have O:∀j v,xs[j]?=some v→w.cell? ((⟨b,off,none⟩:Addr).add j)=some v:=fun j v A=>by
  rw[aT];refine cell_of_heap h ?_;rw[←G,dA]at A
  split at A
  ·simpa[dB]using A
  cases A
 have:=run_loadCells_list (P:=P) (w:=w) ⟨b,off,none⟩ xs O
 rwa [hn]at this
def Src (P:Program) (I:Heap) (H:HL) (sz m:Nat) (y:Value) (ys:List Value):Prop:=
 ys.length=m*sz∧ys.all bZ=true∧(∀w,SS I H w→(gJ y).run P w= .ok m w)∧∀w,SS I H w→(aK sz m y).run P w= .ok ys.toArray w
theorem Src.slice{P I H sz m b off c}{cs ys:List Value}{t fr}(h:yR (SS I H) b (.cells cs.toArray t fr))(A:(cs.drop off).take (m*sz)=ys)(hn:ys.length=m*sz)(h1:ys.all bZ=true):
 Src P I H sz m (.slice (some ⟨b,off,none⟩) m c) ys:=
 ⟨hn,h1,fun _ _=>rfl,fun w hs=>by
  simp only[aK];exact a0S (h w hs) A hn⟩
theorem Src.nil{P I H sz c p}:Src P I H sz 0 (.slice p 0 c) []:=
 ⟨sI,rfl,fun _ _=>rfl,fun w _=>by
  cases p<;>simp[aK,loadCells,loadCellsFrom]⟩
def EP (l:List UInt8):List Value:=l.map fun c=>u8 c
theorem Src.str{P:Program}{I:Heap}{H:HL}{l:List UInt8}:Src P I H 1 l.length (str l) (EP l):=by
 refine⟨by simp[EP],by simp[EP,bZ],fun _ _=>by simp[gJ,Sx.str,size_mk],fun w _=>?_⟩;have h:(⟨l.toArray⟩:ByteArray).extract 0 l.length=⟨l.toArray⟩:=by
  apply ByteArray.ext
  simp[dV]
 simp only[aK,Sx.str,h,aJ,EP];simp
theorem ext_cons{e d v}(h:eg e d=some v):∀t u,eg ((d,v)::e) t=some u→eg e t=some u:=fun t u A=>by
 rw[a5t]at A
 by_cases hk:d=t
 ·subst hk;simp at A;subst A;exact h
 simpa[hk]using A
theorem Has.ext{a n e e' ds}(h:Has a n e ds)(hs:∀t u,eg e' t=some u→eg e t=some u):Has a n e' ds:=⟨h.size,h.defs,fun t v A=>h.get t v (hs t v A)⟩
theorem Cj.ext{A Q e e' I H c}(hs:∀t u,eg e' t=some u→eg e t=some u)(h:Cj A Q c e' I H):Cj A Q c e I H:=fun a w G h1=>h a w (G.ext hs) h1
theorem J.ext{G Q e e' I H A l}(hs:∀t u,eg e' t=some u→eg e t=some u)(h:J G Q A l e' I H):J G Q A l e I H:=fun a w O h1=>h a w (O.ext hs) h1
section
variable {cx:Cx} {Q:Qt} {o:Oper} {e:Env} {I:Heap} {H:HL} {C:Ct} {S:World→Prop}
theorem MB{T E d sz by' n m} base (a5:base≤cx.w0.heap.size){x y U g xs ys yv z} R (ho:o.op= .call ⟨.builtin .append,#[x,y],#[T,U]⟩)(hd:o.dst=some d)(hn:aO d cx.n=true)
 (hx:ev e x=some (gV n g))(hy:ev e y=some yv)(hu:cx.P.underlying T=some (.slice E))(hU:cx.P.underlying U=some .string∨∃E',cx.P.underlying U=some (.slice E'))
 (a6:(cx.P.info? E).map (·.bytes)=some (by'+1))(aa:∀w,(sizeOf E).run cx.P w= .ok sz w)(hz:∀w,(zeroValue E).run cx.P w= .ok z w)(ab:z.cells.size=sz)
 (hg:CU base sz n xs g)(hH:H=R++gH E xs g)(hs:Src cx.P I H sz m yv ys)(av:(2*(n+m)+768)*(by'+1)≤281474976710656)
 (k:∀g',CU base sz (n+m) (xs++ys) g'→C ((d,gV (n+m) g')::e) I (R++gH E (xs++ys) g')):GZ cx Q o e I H C:=by
 intro K hK a w ha Z;obtain⟨a0,ak,ac,ad⟩:=hs;obtain⟨i,hi,al⟩:∃i,cx.P.info? E=some i∧i.bytes=by'+1:=by
  cases h:cx.P.info? E with
  |none=>rw[h]at a6;cases a6
  |some i=>rw[h]at a6;exact⟨i,rfl,by simpa using a6⟩
 have a7:=Z.ss;have aw:=hg.len;unfold Oper.wp;have key:∃w' g',(execOp a.eval o).run cx.P w= .ok (.value (gV (n+m) g')) w'∧CU base sz (n+m) (xs++ys) g'∧St cx.w0 cx.D cx.I0 I (R++gH E (xs++ys) g') w':=by
  have am:∀w',(typeInfo E).run cx.P w'= .ok i w':=fun w'=>by simp[typeInfo,hi]
  have ae:∀(O:Option Addr) (c:Nat),gV n g= .slice O n c→(execOp a.eval o).run cx.P w=
   ((bF #[T,U] o.type #[.slice O n c,yv]).run cx.P w).andThen fun v w'=> .ok (.value v) w':=by
   intro O c hv;simp only[execOp,ho,resolve,invoke,builtin,aH,aJ,aA,fH,bK,List.map_nil,ha.eval hx,ha.eval hy,hv]
  have fits:∀(O:Option Addr) (c:Nat),n+m≤c→(bF #[T,U] o.type #[.slice O n c,yv]).run cx.P w=
   (match O with
    |some a=>(storeCells (a.add (n*sz)) ys).run cx.P w
    |none=> .ok () w).andThen fun _ w'=> .ok (.slice O (n+m) c) w':=by
   intro O c G;rcases hU with a3|⟨E',a3⟩<;>cases O<;>simp[bF,run_underlying hu,run_underlying a3,aa,ac w a7,ad w a7,G]
  have grows:∀(O:Option Addr) (c:Nat) (old:Array Value),¬n+m≤c→c<n+m→(∀w',SS I H w'→(aK sz n (.slice O n c)).run cx.P w'= .ok old w')→
   (bF #[T,U] o.type #[.slice O n c,yv]).run cx.P w=
    let A:=(aV (n+m) c E).cut (w.tape w.drawn (.appendCap (n+m) c E))
    .ok (.slice (some ⟨w.heap.size,0,none⟩) (n+m) A) { { w with drawn:=w.drawn+1 }with heap:=w.heap.push (.cells (old++ys.toArray++aB z.cells (A-(n+m))) E (0,0)) }:=by
   intro O c old G hc a4;have an:¬(2 ^ 48<bW (n+m) c*i.bytes):=by
    have:=b7o (n+m) c hc;rw[al];have h2:=eH (by'+1) this;have h3:(2:Nat) ^ 48=281474976710656:=dE;omega
   have ao:¬i.bytes=0:=oM;have a8:SS I H { w with drawn:=w.drawn+1 }:=a7;rcases hU with a3|⟨E',a3⟩<;>simp only[bF,List.getElem?_toArray,List.getElem?_cons_zero,dQ,aH,aJ,run_underlying hu,run_underlying a3,aA,aa,ac w a7,bH,if_false,Sem.run_ite,G,am,an,ao,false_or,and_false,gt_iff_lt,run_choose,fO,run_askRoom,a4 _ a8,Bool.not_false,if_true,ad _ a8,hz,newRow,run_newObj]
  cases g with
  |none=>
   obtain⟨rfl,rfl⟩:=hg;rw[ae none 0 rfl];have ap:∀w',SS I H w'→(aK sz 0 (.slice none 0 0)).run cx.P w'= .ok #[] w':=fun w' _=>by simp[aK]
   by_cases hm:m=0
   ·subst hm;have aq:ys=[]:=bI.1 (by simpa using a0);subst aq;refine⟨w,none,?_,⟨sI,sI⟩,by simpa[gH,hH]using Z⟩;rw[fits none 0 oM];simp[gV]
   rw[grows none 0 #[] oM oM ap]
   let A:=(aV (0+m) 0 E).cut (w.tape w.drawn (.appendCap (0+m) 0 E))
   refine⟨{ { w with drawn:=w.drawn+1 }with heap:=w.heap.push (.cells (#[]++ys.toArray++aB z.cells (A-(0+m))) E (0,0)) },some (w.heap.size,A,(aB z.cells (A-(0+m))).toList),?_,?_,?_⟩
   ·rfl
   ·have af:m≤A:=by simp only[A,gQ];omega
    refine⟨bU a5 Z.size,by simp[a0],?_⟩;simp only[aB,eU,fV,fJ,fM,a0,ab];rw[←aW]
    congr 1;omega
   have h0:=(Z.drewN (w.drawn+1)).alloc (.cells (#[]++ys.toArray++aB z.cells (A-(0+m))) E (0,0));have a2:(fZ (#[]++ys.toArray++aB z.cells (A-(0+m))) E (0,0))=yY E ([]++ys++(aB z.cells (A-(0+m))).toList):=by
    simp[yY]
   rw[a2]at h0 ⊢;subst hH;simp only[gH,List.append_nil]at h0 ⊢;refine h0.perm ?_;exact eG
  |some p=>
   obtain⟨b,c,sp⟩:=p;obtain⟨ar,a1,_⟩:=hg;rw[ae (some ⟨b,0,none⟩) c rfl];have a9:(b,yY E (xs++sp))∈H:=by rw[hH];simp[gH]
   have ag:=Z.own _ a9
   by_cases G:n+m≤c
   ·rw[fits _ _ G];have ax:ys.length≤sp.length:=by
     have:(n+m)*sz≤c*sz:=eH sz G;rw[aW]at this;omega
    have ah:zM (xs++sp) (n*sz+0) ys (xs++ys++sp.drop ys.length):=by
     refine⟨by simp only[dF];omega,?_⟩;rw[Nat.add_zero,←a1,fP rfl,b2D]
    have ai:=OA (P:=cx.P) (b:=b) (off:=n*sz) (t:=E) ys 0 w (xs++sp) ag (.inl rfl) (by simp only[dF];omega) (fun u hu=>(bM.1 ak) u hu) _ ah;refine⟨World.block w b (.cells (xs++ys++sp.drop ys.length).toArray E (0,0)),some (b,c,sp.drop ys.length),?_,?_,?_⟩
    ·simp only[aA,aT,Nat.zero_add,ai,gV]
    ·exact⟨ar,by simp[a1,a0,aW],by simp;omega⟩
    subst hH;have aj:(R++gH E xs (some (b,c,sp)))[R.length]?=some (b,yY E (xs++sp)):=by simp[gH]
    have hset:AV (R++gH E xs (some (b,c,sp))) R.length (b,yY E (xs++ys++sp.drop ys.length)) (R++gH E (xs++ys) (some (b,c,sp.drop ys.length))):=by
     refine⟨by simp[gH],?_⟩;rw[bP _ _ (cO _)];simp[gH]
    exact Z.block aj hset
   have a4:∀w',SS I H w'→(aK sz n (.slice (some ⟨b,0,none⟩) n c)).run cx.P w'= .ok xs.toArray w':=fun w' au=>
    a0S (cs:=xs++sp) (au.2 _ a9) (by rw[List.drop_zero,←a1,fP];rfl) a1
   rw[grows _ _ _ G oM a4]
   let A:=(aV (n+m) c E).cut (w.tape w.drawn (.appendCap (n+m) c E))
   refine⟨{ { w with drawn:=w.drawn+1 }with heap:=w.heap.push (.cells (xs.toArray++ys.toArray++aB z.cells (A-(n+m))) E (0,0)) },some (w.heap.size,A,(aB z.cells (A-(n+m))).toList),?_,?_,?_⟩
   ·rfl
   ·have af:n+m≤A:=by simp only[A,gQ];omega
    refine⟨bU a5 Z.size,by simp[a1,a0,aW],?_⟩;simp only[aB,eU,fV,fJ,dF,a1,a0,ab];rw[←aW,←aW]
    congr 1;omega
   have h0:=(Z.drewN (w.drawn+1)).alloc (.cells (xs.toArray++ys.toArray++aB z.cells (A-(n+m))) E (0,0));have a2:(fZ (xs.toArray++ys.toArray++aB z.cells (A-(n+m))) E (0,0))=yY E (xs++ys++(aB z.cells (A-(n+m))).toList):=by
    simp[yY]
   rw[a2]at h0 ⊢;subst hH;have h1:=h0.sublist (H':=(w.heap.size,yY E (xs++ys++(aB z.cells (A-(n+m))).toList))::R) (dX _ (List.sublist_append_left _ _));refine h1.perm ?_;exact eG
 obtain⟨w',g',h1,h2,h3⟩:=key;rw[h1];simp only[aP,hd];exact hK _ _ _ (k g' h2) _ _ (ha.put hn) h3
theorem BJ{T E d sz by' n m x y U g xs ys G z} R (ho:o.op= .call ⟨.builtin .append,#[x,y],#[T,U]⟩)(hd:o.dst=some d)(hn:aO d cx.n=true)
 (hx:ev e x=some (gV n g))(hy:ev e y=some G)(hu:cx.P.underlying T=some (.slice E))(hU:cx.P.underlying U=some .string∨∃E',cx.P.underlying U=some (.slice E'))
 (O:(cx.P.info? E).map (·.bytes)=some (by'+1))(Z:∀w,(sizeOf E).run cx.P w= .ok sz w)(hz:∀w,(zeroValue E).run cx.P w= .ok z w)(a0:z.cells.size=sz)
 (hg:CU cx.w0.heap.size sz n xs g)(hH:H=R++gH E xs g)(hs:Src cx.P I H sz m G ys)(h:(2*(n+m)+768)*(by'+1)≤281474976710656)
 (k:∀A,CU cx.w0.heap.size sz (n+m) (xs++ys) A→C ((d,gV (n+m) A)::e) I (R++gH E (xs++ys) A)):GZ cx Q o e I H C:=
 MB cx.w0.heap.size (cO _) R ho hd hn hx hy hu hU O Z hz a0 hg hH hs h k
theorem J.eqv{A l} d {v G}(O:eg e d=some v)(h:v=G)(k:J cx Q A l ((d,G)::e) I H):J cx Q A l e I H:=
 J.ext (e':=(d,G)::e) (ext_cons (h▸O)) k
theorem JA.eqv{I1 A Z z l O G} d {v v'}(hv:eg e d=some v)(h:v=v')(k:JA cx Q l I1 A Z z O G ((d,v')::e) I H):JA cx Q l I1 A Z z O G e I H:=
 fun a w ha hs=>k a w (ha.ext (ext_cons (h▸hv))) hs
theorem Cj.eqv{c} d {v A}(G:eg e d=some v)(h:v=A)(k:Cj cx Q c ((d,A)::e) I H):Cj cx Q c e I H:=
 Cj.ext (e':=(d,A)::e) (ext_cons (h▸G)) k
theorem c1J{T}{parts:List (Nat×Operand)}{vs v}(h:o.op= .build T parts.toArray)(A:evs e (parts.map (·.2))=some vs)
 (hr:∀w,(gU T ((parts.map (·.1)).zip vs).toArray).run cx.P w= .ok v w):DK cx o e S v:=by
 intro a w G _;have O:(parts.toArray.map fun(i,x)=>(i,a.eval x))=((parts.map (·.1)).zip vs).toArray:=by
  have:=G.a0u A;rw[←this];simp[gI,dP]
 simp only[execOp,h,aH,O,hr,aA,aJ]
structure GN (pl:Array (Nat×Nat)) (cs:List Value) (parts:List (Nat×Value)) (cs':List Value):Prop where
  eq:Instr.fill (pl[·]?) cs.toArray parts=some cs'.toArray
theorem GN.none{pl cs}:GN pl cs [] cs:=⟨rfl⟩
theorem GN.part{pl cs vs h A i off sz v r}(h1:pl[i]?=some (off,sz))(h2:v.cells=vs.toArray)(h3:vs.length=sz)(O:zM cs off vs h)(Z:GN pl h r A):
 GN pl cs ((i,v)::r) A:=by
 refine⟨?_⟩;simp only[dK,h1,h2];obtain⟨_,he⟩:=O;rw[zF (by simp;omega)];have G:=a5h vs 0 (cs.take off) ((cs.drop off).take vs.length) (cs.drop (off+vs.length)) off (by simp;omega) (by simp;omega);have h7:cs.take off++(cs.drop off).take vs.length++cs.drop (off+vs.length)=cs:=by
  rw[dJ,←fQ,bQ,bQ]
 rw[h7,←he]at G;have h8:vs.toArray.zipIdx.foldl (fun cs (x:Value×Nat)=>cs.setIfInBounds (off+x.2) x.1) cs.toArray=h.toArray:=by
  rw[←fB,eP];exact G
 rw[h8];exact Z.eq
theorem zV{T}{parts:List (Nat×Operand)}{vs zs cs z fs pl}(G:o.op= .build T parts.toArray)(O:evs e (parts.map (·.2))=some vs)
 (hz:∀w,(zeroValue T).run cx.P w= .ok z w)(h:z.cells=zs.toArray)(Z:cx.P.underlying T=some (.struct fs))
 (A:∀w,(fs.mapM (m:=Sem) fun f=>do pure (f.offset,←sizeOf f.type)).run cx.P w= .ok pl w)(hb:GN pl zs ((parts.map (·.1)).zip vs) cs):DK cx o e S (.agg cs.toArray):=
 c1J G O fun w=>by
  simp only[gU,aH,hz,h,run_underlying Z,aA,A];rw[hb.eq];rfl
theorem LV{x y ts k p q}(A:o.op= .call ⟨.builtin .min,#[x,y],ts⟩)(G:ev e x=some (.int k p))(O:ev e y=some (.int k q)):DK cx o e S (.int k (if q<p then q else p)):=by
 intro a w h _;simp[execOp,A,resolve,invoke,builtin,Builtin.min_,Builtin.min2,h.eval G,h.eval O]
theorem KG{x y ts k p q}(A:o.op= .call ⟨.builtin .max,#[x,y],ts⟩)(G:ev e x=some (.int k p))(O:ev e y=some (.int k q)):DK cx o e S (.int k (if q>p then q else p)):=by
 intro a w h _;simp[execOp,A,resolve,invoke,builtin,Builtin.max_,Builtin.max2,h.eval G,h.eval O]
theorem MK{x y T t b off} i {cs:List Value}{v H' fr}(ho:o.op= .store T x y)(hd:o.dst=none)(hx:ev e x=some (ptr b off))(hy:ev e y=some v)
 (hv:v.cells= #[v])(h1:v.oneCell'=true)(O:∀w,(sizeOf T).run cx.P w= .ok 1 w)(Z:H[i]?=some (b,.cells cs.toArray t fr))(a0:fr=(0,0)∨cs.length≤fr.1)(h:off<cs.length)
 (a1:AV H i (b,.cells (cs.set off v).toArray t fr) H')(k:C e I H'):GZ cx Q o e I H C:=by
 intro K hK a w A hs;unfold Oper.wp;have hb:=hs.own _ (aF Z);have G:zM cs (off+0) [v] (cs.set off v):=by
  refine⟨by simp;omega,?_⟩;rw[List.set_eq_take_append_cons_drop];simp[h]
 have a2:=OA (P:=cx.P) (t:=t) [v] 0 w cs hb a0 (by simp;omega) (fun u hu=>by simp at hu;subst hu;exact h1) _ G;have:(execOp a.eval o).run cx.P w= .ok .skip (World.block w b (.cells (cs.set off v).toArray t fr)):=by
  simp[execOp,ho,gG,aY,A.eval hx,A.eval hy,storeVar,hv,O,a2]
 rw[this];simp only[aP,hd];exact hK _ _ _ k _ _ A.XP (hs.block Z a1)
theorem c5y{x y T U c q} h (G:o.op= .binOp .add T x y U)(O:ev e x=some (u8 c))(Z:ev e y=some (.int .u8 q))(hq:q=h.toNat):DK cx o e S (u8 (c+h)):=by
 intro a w A _;subst hq;have:IntKind.u8.wrap ((c.toNat:Int)+h.toNat)=((c+h).toNat:Int):=by
  simp[IntKind.wrap,IntKind.signed,IntKind.bits,UInt8.toNat_add]
 simp[execOp,G,A.eval O,A.eval Z,eqGuard_add,binOp_add,cZ,this]
theorem c4e l sp k c (h:k<l.length):(EP l++sp).set k (u8 c)=EP (l.set k c)++sp:=by
 rw[List.set_append_left _ _ (by simpa[EP]using h)];simp[EP,List.map_set]
theorem c4f l sp (k:Nat) c (h:l[k]?=some c):(EP l++sp)[k]?=some (u8 c):=by
 have:k<(EP l).length:=by
  simp only[EP,List.length_map];rcases aS k l.length with A|A
  ·exact A
  simp[dZ A]at h
 rw[List.getElem?_append_left this];simp[EP,h]
theorem PG l:(EP l).length=l.length:=by simp[EP]
theorem YE{Z T E d x l}(ho:o.op= .convert Z T x)(hd:o.dst=some d)(hn:aO d cx.n=true)(hx:ev e x=some (str l))
 (hS:cx.P.underlying Z=some .string)(hT:cx.P.underlying T=some (.slice E))(hE:cx.P.underlying E=some (.int .u8))
 (k:∀b c sp fr,cx.w0.heap.size≤b→(EP l++sp).length≤fr→C ((d,.slice (some ⟨b,0,none⟩) l.length c)::e) I ((b,.cells (EP l++sp).toArray E (fr,fr+1))::H)):GZ cx Q o e I H C:=by
 intro K hK a w ha G;unfold Oper.wp
 let h:=(aV l.length 0 E).cut (w.tape w.drawn (.appendCap l.length 0 E))
 let sp:List Value:=List.replicate (h-l.length) (.int .u8 0)
 have O:(execOp a.eval o).run cx.P w= .ok (.value (.slice (some ⟨w.heap.size,0,none⟩) l.length h))
  { { w with drawn:=w.drawn+1 }with heap:=w.heap.push (.cells (EP l++sp).toArray E ((EP l++sp).length,(EP l++sp).length+1)) }:=by
  simp only[execOp,ho,convert,ha.eval hx,str,aH,run_underlying hS,run_underlying hT,aA,run_underlying hE,Conv.stringToBytes,size_mk,run_choose,fO,newRow,run_newObj,bH,if_false,markStringish,run_shape,aJ];simp only[World.shape?,Array.getElem?_push_size,run_freeze,aA,World.freeze];have h0:(Array.map (fun b:UInt8=>fC IntKind.u8 ↑b.toNat) l.toArray++dR (h-l.length) (fC IntKind.u8 0))=(EP l++sp).toArray:=by
   simp[EP,sp]
  have h1:∀(A:Array Obj) (o o':Obj) (f:Obj→Obj),f o=o'→(A.push o).modify A.size f=A.push o':=by
   intro A o o' f hf
   apply dD
   intro j;rw[eF,bD,bD]
   by_cases hj:A.size=j
   ·subst hj;simp[hf]
   simp[hj,Ne.symm hj]
  simp only[Nat.one_ne_zero,if_false];refine zD (fun W:World=>(Result.ok (Next.value (.slice (some ⟨w.heap.size,0,none⟩) l.length h)) W:Result Next)) ?_;refine zD (fun H:Array Obj=>({ heap:=H,tape:=w.tape,drawn:=w.drawn+1,os:=w.os,output:=w.output }:World)) ?_;refine h1 _ _ _ _ ?_;rw[show(Array.map (fun b:UInt8=>fC IntKind.u8 ↑b.toNat) l.toArray++dR ((aV l.length 0 E).cut (w.tape w.drawn (aV l.length 0 E))-l.length) (fC IntKind.u8 0))=(EP l++sp).toArray from h0];simp
 rw[O];simp only[aP,hd];exact hK _ _ _ (k w.heap.size h sp _ G.size (cO _)) _ _ (ha.put hn) ((G.drewN (w.drawn+1)).alloc _)
theorem ZV{A T E x} l {b off c n}{cs:List Value}{t fr}(G:o.op= .convert A T x)(O:ev e x=some (.slice (some ⟨b,off,none⟩) n c))(hn:l.length=n)
 (Z:cx.P.underlying A=some (.slice E))(hT:cx.P.underlying T=some .string)(hE:cx.P.underlying E=some (.int .u8))(hb:yR S b (.cells cs.toArray t fr))(hl:(cs.drop off).take l.length=EP l):
 DK cx o e S (str l):=by
 intro a w ha hs;subst hn;have hc:∀j v,(EP l)[j]?=some v→w.cell? ((⟨b,off,none⟩:Addr).add j)=some v:=fun j v h=>by
  rw[aT];refine cell_of_heap (hb w hs) ?_;rw[←hl,dA]at h
  split at h
  ·simpa[dB]using h
  cases h
 have h1:=run_loadCells_list (P:=cx.P) (w:=w) ⟨b,off,none⟩ (EP l) hc;have h2:=run_bytesToString (P:=cx.P) w ⟨b,off,none⟩ l.length c (l.map fun u=>(u.toNat:Int)) (by
  rw[show(EP l).length=l.length by simp[EP]]at h1;rw[h1];simp[EP,dP])
 have h3:(l.map fun u=>(u.toNat:Int)).foldl (fun r n=>r.push (gW n.toNat)) ByteArray.empty=⟨l.toArray⟩:=by
  rw[foldl_push_bytes]
  apply ByteArray.ext
  simp[dP];have:(fun x=>gW x)∘UInt8.toNat=id:=by funext x;simp
  first|simp[Function.comp_def]|rw[this,List.map_id]
 simp only[execOp,G,aH,ha.eval O,run_convert_bytes_string w A T E _ l.length c Z hE hT,h2,h3,aA,aJ,str]
end
end Go.Sx
end
namespace Go.Sx
open Go
section
variable {cx:Cx} {Q:Qt} {e:Env} {I I1:Heap} {H A:HL} {Z:CL} {z:Nat} {ops:Array Oper} {l:List Oper} {o:Oper} {C:Ct} {S:World→Prop} {fuel:Nat} {listed:Array Bool}
variable [DR]
theorem J.mv{d x v}(k:J cx Q ops l ((d,v)::e) I H)(h:o.op= .move x:=by rfl)(A:ev e x=some v:=by rfl)(hg:o.guard=none:=by rfl)(hd:o.dst=some d:=by rfl)(hn:Nat.blt d cx.n=true:=by rfl):J cx Q ops (o::l) e I H:=J.z (a9m h A) k hg hd hn
theorem J.as{d x v}(k:J cx Q ops l ((d,v)::e) I H)(h:o.op= .assign x:=by rfl)(A:ev e x=some v:=by rfl)(hg:o.guard=none:=by rfl)(hd:o.dst=some d:=by rfl)(hn:Nat.blt d cx.n=true:=by rfl):J cx Q ops (o::l) e I H:=J.z (a9M h A) k hg hd hn
theorem J.ns{y}(h:Cj cx Q y e I H):J cx (Exit.then (y.wpIn cx.F 0 cx.P Q) Q) ops [] e I H:=J.nil (Ej.seq h)
theorem Cj.sr{id y}(h:J cx (Exit.then (y.wpIn cx.F 0 cx.P Q) Q) l.toArray l e I H):Cj cx Q (.seq (.region id l.toArray false) y) e I H:=Cj.seq (Cj.region h)
theorem J.nss{x y}(h:Cj cx (Exit.then (y.wpIn cx.F 0 cx.P Q) Q) x e I H):J cx (Exit.then ((Code.seq x y).wpIn cx.F 0 cx.P Q) Q) ops [] e I H:=J.ns (Cj.seq h)
theorem J.AO{x y u}(h:Cj cx (Exit.then (u.wpIn cx.F 0 cx.P (Exit.then (y.wpIn cx.F 0 cx.P Q) Q)) (Exit.then (y.wpIn cx.F 0 cx.P Q) Q)) x e I H):J cx (Exit.then ((Code.seq (Code.seq x u) y).wpIn cx.F 0 cx.P Q) Q) ops [] e I H:=J.nss (Cj.seq h)
theorem J.GL{id}(h:J cx Q l.toArray l e I H):J cx (Exit.then ((Code.region id l.toArray false).wpIn cx.F 0 cx.P Q) Q) ops [] e I H:=J.ns (Cj.region h)
theorem J.yV{id y}(h:J cx (Exit.then (y.wpIn cx.F 0 cx.P Q) Q) l.toArray l e I H):J cx (Exit.then ((Code.seq (Code.region id l.toArray false) y).wpIn cx.F 0 cx.P Q) Q) ops [] e I H:=J.nss (Cj.region h)
theorem J.cd{c x y t}(h1:t=true→Cj cx Q x e I H)(h2:t=false→Cj cx Q y e I H)(h:ev e c=some (.bool t):=by exact rfl):J cx (Exit.then ((Code.cond c x y).wpIn cx.F 0 cx.P Q) Q) ops [] e I H:=J.ns (Cj.cond h h1 h2)
theorem J.c0{c x y t}(h2:t=false→Cj cx Q y e I H)(A:ev e c=some (.bool t):=by exact rfl)(hf:t=false:=by exact rfl):J cx (Exit.then ((Code.cond c x y).wpIn cx.F 0 cx.P Q) Q) ops [] e I H:=J.ns (Cj.cond A (fun h=>fK (Eq.trans (Eq.symm hf) h)) h2)
theorem J.c1{c x y t}(h1:t=true→Cj cx Q x e I H)(A:ev e c=some (.bool t):=by exact rfl)(hf:t=true:=by exact rfl):J cx (Exit.then ((Code.cond c x y).wpIn cx.F 0 cx.P Q) Q) ops [] e I H:=J.ns (Cj.cond A h1 (fun h=>fK (Eq.trans (Eq.symm hf) h)))
theorem J.sk j d t {A b}(G:b= !A)(h:J cx Q ops l ((t,undef)::e) I H)(hg:o.guard=some (j,A):=by rfl)(hd:(ops[j]?).bind (·.dst)=some d:=by rfl)(O:eg e d=some (.bool b):=by rfl)(Z:o.dst=some t:=by rfl)(ht:Nat.blt t cx.n=true:=by rfl):J cx Q ops (o::l) e I H:=J.skip j d t A b hg hd O G Z ht h
theorem JA.mv i {d x v}(G:a4L I1 A Z I H)(k:JA cx Q l I1 A Z z fuel (listed.setIfInBounds i true) ((d,v)::e) I H)(O:l.toArray[i]?=some o:=by rfl)(ho:o.op= .move x:=by rfl)(hx:ev e x=some v:=by rfl)(hd:o.dst=some d:=by rfl)(hg:o.guard=none:=by rfl)(hn:Nat.blt d cx.n=true:=by rfl)(hz:zok l.toArray listed z i=true:=by first|rfl|kernel_rfl)
 (hs:Region.noSelect l.toArray=true:=by kernel_rfl)(hf:Region.free .any l.toArray listed i=true:=by kernel_rfl)(hr:(Region.ready .any l.toArray listed).contains i=true:=by kernel_rfl)(hq:∀c a w,Q (.panic c) (a.put (some d) v) w→Q (.panic c) a w:=by exact fun _ _ _ h=>h):JA cx Q l I1 A Z z (fuel+1) listed e I H:=JA.tk i O G (a9m ho hx) k hd hg hn hz hs hf hr hq
theorem c8a{x T k b off m fs f} off' (G:cx.P.underlying T=some (.struct fs))(A:∀w,(sizeOf f.type).run cx.P w= .ok (m+1) w)(O:o.op= .fieldAddr T x k:=by rfl)(Z:ev e x=some (ptr b off):=by rfl)(hf:fs[k]?=some f:=by rfl)(h:off+f.offset=off':=by rfl):DK cx o e S (ptr b off'):=a4w O Z G hf A h
theorem EU{I H}:Le I I∧HSub [] H∧CSub [] H:=⟨Le.refl _,HSub.n,CSub.n⟩
theorem BQ{I H}:a4L I [] [] I H:=⟨HSub.n,CSub.n,Le.refl _⟩
theorem Cj.xl{K:Act→World→Prop}{ι:Type}{A:ι→Prop}{μ O G Z hl id y}(h:Cj cx Q y e I H):Cj cx (Exit.then K (a5C cx (aN id (Exit.then (y.wpIn cx.F 0 cx.P Q) Q)) A μ O G Z hl)) (.exit id) e I H:=Cj.exit (Ej.KH (Ej.JK (Ej.LC (Ej.seq h))))
theorem Cj.ks{y}(h:Cj cx Q y e I H):Cj cx (Exit.then (y.wpIn cx.F 0 cx.P Q) Q) .skip e I H:=Cj.skip (Ej.seq h)
theorem Cj.kb{id y}(h:Cj cx Q y e I H):Cj cx (aN id (Exit.then (y.wpIn cx.F 0 cx.P Q) Q)) .skip e I H:=Cj.skip (Ej.FN (Ej.seq h))
theorem J.nb{id y}(h:Cj cx Q y e I H):J cx (aN id (Exit.then (y.wpIn cx.F 0 cx.P Q) Q)) ops [] e I H:=J.nil (Ej.FN (Ej.seq h))
theorem Cj.rs{K:Act→World→Prop}(h:Ej cx Q .ret e I H):Cj cx (Exit.then K Q) .ret e I H:=Cj.ret (Ej.LM h)
end
theorem yT.ob[DR]{P f fn c args I H}{A:Ending→Heap→HL→Prop}(hf:P.funcs[f]?=some fn)(h:∀w0,Ready I H w0→Cj ⟨P,fn.ntmps,w0,H.map (·.1),I,[],none⟩ (bodyPost P fn (RR w0 (H.map (·.1)) I A)) c (TI 0 args) I H)(O:fn.body=some c:=by rfl)(G:fn.name≠ "runtime.NumGoroutine" :=by decide)(hn:args.length≤fn.ntmps:=by exact Nat.le_of_ble_eq_true rfl):yT P f args I H A:=yT.a9d hf O G hn h
