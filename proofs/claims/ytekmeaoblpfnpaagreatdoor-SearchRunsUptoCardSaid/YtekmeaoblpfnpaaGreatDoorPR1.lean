/-
  Own texts on the laws of the seat, joined: the logic, and contracts of functions. Conditions: none.
-/
import Derived.WalkKit
import Derived.OrdersHeld
import Derived.Deep.LoopGhost
import Derived.TacticsIn
import Derived.OrdersIn
import Derived.KernelRfl
set_option maxRecDepth 100000
set_option maxHeartbeats 40000000
abbrev zA:=@of_decide_eq_true
abbrev zB:=@eq_of_beq
abbrev zC:=@congrArg
abbrev zD:=@if_neg
abbrev zF:=@if_pos
abbrev zG:=@decide_eq_true_eq
abbrev zH:=@decide_eq_true
abbrev zI:=@decide_eq_false
open Go.Result renaming andThen_ok -> aA
open Go.Builtin renaming zeroCells -> aB,firstCells -> aJ,append_ -> bD,nextslicecap -> bW,growBy -> fP,lenOf -> gG,len_ -> gJ
open Go.Region renaming wanted -> aC,ready -> aF,binds -> aS,noSelect -> bV,free -> dY
open Go.Sem renaming run_bind -> aG,run_pure -> aI
open Array renaming getElem?_eq_none -> aH,getElem?_push -> bC,getElem?_setIfInBounds -> bY,ext_getElem? -> dB,replicate -> dQ,getElem?_modify -> dZ,toList_zipIdx -> eH,length_toList -> eP,foldl_toList -> eY,range -> fE,size_range -> fG,size_map -> fQ
open List renaming mem_of_getElem? -> aK,mem_map_of_mem -> aQ,mem_append_right -> aX,mem_append_left -> aY,mem_map -> bF,length_eq_zero_iff -> bI,map_cons -> bK,all_eq_true -> bM,set_append_right -> bP,take_append_drop -> bQ,nodup_cons -> bT,getElem?_take -> cZ,getElem?_drop -> dA,length_append -> dD,nodup_append -> dG,flatMap_cons -> dH,append_assoc -> dI,length_cons -> dM,map_map -> dN,getElem?_cons_succ -> dP,map_append -> dR,mem_append -> dS,range' -> dW,perm_append_comm -> eF,set_cons_succ -> eX,map_toArray -> fF,nil_append -> fJ,take_left' -> fM,drop_drop -> fO,zip_map' -> gB
open Go.Exit renaming inBlock -> aN
open Nat renaming blt -> aO,lt_or_ge -> aU,add_mul -> aW,le_trans -> bU,le_refl -> cO,mul_le_mul_right -> eG,lt_of_lt_of_le -> eU,beq -> fB
open Go.Oper renaming upon -> aP,uponIn -> fC
open Go.Question renaming appendCap -> aT,forced -> fK,cut -> gK
open Go.Addr renaming add_lit -> aV
open Bool renaming and_eq_true -> aZ,false_eq_true -> bG,noConfusion -> fH
open Go.Instr renaming sureAddr -> bH,sliceBounds -> bJ,sliceAt -> dF,fill -> dJ,sliceBound -> dL,storeAt -> fZ,loadAt -> gI,build -> gQ
open Go.Value renaming oneCell' -> bZ,int -> fA
open Option renaming bind_some -> dK
open Go.Op renaming intArith -> dU,stringOp -> fD
open ByteArray renaming data_extract -> dV
open List.Sublist renaming cons_cons -> dX
open Go.Obj renaming cells -> fU
open Go.World renaming frozen? -> fV
open UInt8 renaming ofNat -> gU
theorem rT{p:Prop}(h:p:=by repeat first|exact rfl|exact trivial|refine⟨rfl,?_⟩):p:=h
theorem oM{p:Prop}(h:p:=by omega):p:=h
theorem kR{p:Prop}(h:p:=by kernel_rfl):p:=h
theorem dE{p:Prop}(h:p:=by decide):p:=h
theorem sI{p:Prop}(h:p:=by simp):p:=h
theorem dO{p:Prop}(h:p:=by dsimp only;omega):p:=h
section
set_option linter.unusedSectionVars false
namespace Go.Sx
open Go
abbrev Heap:=Nat→Option Obj
abbrev HL:=List (Nat×Obj)
abbrev Env:=List (Nat×Value)
def eg:Env→Nat→Option Value
 |[],_=>none
 |(k,v)::r,t=>bif fB k t then some v else eg r t
def ev (e:Env):Operand→Option Value
 | .tmp t=>eg e t
 | .const v=>some v
 | .global g=>some (.pointer (some ⟨g,0,none⟩))
 | .func f=>some (.func (.func f) #[] #[])
def evs (e:Env):List Operand→Option (List Value)
 |[]=>some []
 | x::r=>match ev e x,evs e r with
   |some v,some vs=>some (v::vs)
   |_,_=>none
def Sub:Env→Env→Prop
 |[],_=>True
 |(t,v)::r,e=>eg e t=some v∧Sub r e
structure Has (a:Act) (n:Nat) (e:Env) (ds:List Deferred):Prop where
  size:a.tmps.size=n
  defs:a.defers=ds
  get:∀t v,eg e t=some v→a.tmps[t]?=some v
theorem TQ k v r t:eg ((k,v)::r) t=if k=t then some v else eg r t:=by
 show(bif fB k t then some v else eg r t)=_
 by_cases h:k=t
 ·subst h;simp
 have:fB k t=false:=by
  cases hb:fB k t with
  |false=>rfl
  |true=>exact absurd (Nat.eq_of_beq_eq_true hb) h
 rw[this,zD h];rfl
theorem Sub.get:∀{e' e:Env},Sub e' e→∀t v,eg e' t=some v→eg e t=some v
 |[],_,_,t,v,h=>by simp[eg]at h
 |(k,u)::r,e,⟨h1,h2⟩,t,v,h=>by
  rw[TQ]at h
  by_cases hk:k=t
  ·subst hk;simp at h;subst h;exact h1
  simp only[hk,if_false]at h;exact Sub.get h2 t v h
section has
variable {a:Act} {n:Nat} {e:Env} {ds:List Deferred}
theorem Has.sub{e'}(h:Has a n e ds)(A:Sub e' e):Has a n e' ds:=⟨h.size,h.defs,fun t v G=>h.get t v (A.get t v G)⟩
theorem Has.eval(h:Has a n e ds){x v}(A:ev e x=some v):a.eval x=v:=by
 cases x with
 |tmp t=>
  have:=h.get t v A;simp[Act.eval,this]
 |const c=>simpa[ev,Act.eval]using A
 |global g=>simpa[ev,Act.eval]using A
 |func f=>simpa[ev,Act.eval]using A
theorem Has.CP(h:Has a n e ds):∀{xs:List Operand} {vs:List Value},evs e xs=some vs→xs.map a.eval=vs
 |[],vs,hx=>by simp[evs]at hx;subst hx;rfl
 |x::r,vs,hx=>by
  simp only[evs]at hx
  split at hx
  ·rename_i v A h1 h2
   cases hx;simp[h.eval h1,Has.CP h h2]
  cases hx
theorem Has.put(h:Has a n e ds){d v}(M:aO d n=true):Has (a.put (some d) v) n ((d,v)::e) ds:=by
 have G:d<n:=by simpa[Nat.blt_eq]using M
 refine⟨by simpa[Act.put]using h.size,by simpa[Act.put]using h.defs,fun t u A=>?_⟩;rw[TQ]at A;have N:=h.size
 by_cases hk:d=t
 ·subst hk;simp at A;subst A;simp[Act.put,N,G]
 simp only[hk,if_false]at A;simp[Act.put,hk];have:=h.get t u A;simpa using this
theorem Has.AZ(h:Has a n e ds){v}:Has (a.put none v) n e ds:=h
end has
def uQ:Nat→List Value→Env
 |_,[]=>[]
 |k,v::r=>(k,v)::uQ (k+1) r
theorem UH:∀(l:List Value) (k t:Nat) (v:Value),eg (uQ k l) t=some v→k≤t∧l[t-k]?=some v
 |[],k,t,v,h=>by simp[uQ,eg]at h
 |u::r,k,t,v,h=>by
  simp only[uQ]at h;rw[TQ]at h
  by_cases hk:k=t
  ·subst hk;simp at h;subst h;simp
  simp only[hk,if_false]at h;obtain⟨h1,h2⟩:=UH r (k+1) t v h;refine⟨oM,?_⟩;have:t-k=(t-(k+1))+1:=oM;rw[this];simpa using h2
theorem Has.start l n (M:l.length≤n):
 Has { tmps:=l.toArray++dQ (n-l.toArray.size) undef,defers:=[] } n (uQ 0 l) []:=by
 refine⟨by simp;omega,rfl,fun t v h=>?_⟩;obtain⟨_,h2⟩:=UH l 0 t v h;have G:t<l.length:=by
  rcases aU t l.length with A|A
  ·exact A
  simp[List.getElem?_eq_none A]at h2
 simp only[Nat.sub_zero]at h2;rw[Array.getElem?_append_left (by simpa using G)];simpa using h2
class DR where
  b:Bool
def Le (I I':Heap):Prop:=∀b o,I b=some o→I' b=some o
theorem Le.refl I:Le I I:=fun _ _ h=>h
theorem Le.trans{I J K}(h:Le I J)(k:Le J K):Le I K:=fun b o x=>k b o (h b o x)
structure St [DR] (w0:World) (D:List Nat) (I0 I:Heap) (H:HL) (w:World):Prop where
  os:w.os=w0.os
  tape:w.tape=w0.tape
  output:w.output=w0.output
  size:w0.heap.size≤w.heap.size
  frm:∀b,b<w0.heap.size→b ∉ D→w.heap[b]?=w0.heap[b]?
  sub:∀b o,I b=some o→w.heap[b]?=some o
  own:∀p∈H,w.heap[p.1]?=some p.2
  nodup:(H.map (·.1)).Nodup
  dis:∀p∈H,I p.1=none
  new:∀p∈H,p.1∈D∨w0.heap.size≤p.1
  ifr:∀b,b<w0.heap.size→I b=I0 b
  le:Le I0 I
  drw:DR.b=true→w0.drawn≤w.drawn
variable [DR]
theorem St.start w I H (h1:∀b o,I b=some o→w.heap[b]?=some o)(h2:∀p∈H,w.heap[p.1]?=some p.2)
 (h3:(H.map (·.1)).Nodup)(A:∀p∈H,I p.1=none):St w (H.map (·.1)) I I H w:=
 ⟨rfl,rfl,rfl,cO _,fun _ _ _=>rfl,h1,h2,h3,A,fun _ G=> .inl (aQ G),fun _ _=>rfl,Le.refl _,fun _=>cO _⟩
section st
variable {w0:World} {D:List Nat} {I0 I:Heap} {H:HL} {w:World}
theorem St.lt(h:St w0 D I0 I H w){p}(G:p∈H):p.1<w.heap.size:=by
 have:=h.own p G;rcases aU p.1 w.heap.size with A|A
 ·exact A
 simp[aH A]at this
theorem St.drew(h:St w0 D I0 I H w):St w0 D I0 I H { w with drawn:=w.drawn+1 }:=
 ⟨h.os,h.tape,h.output,h.size,h.frm,h.sub,h.own,h.nodup,h.dis,h.new,h.ifr,h.le,fun g=>Nat.le_succ_of_le (h.drw g)⟩
theorem St.keep{H'}(h:St w0 D I0 I H w)(G:∀p∈H',p∈H)(M:(H'.map (·.1)).Nodup):St w0 D I0 I H' w:=
 ⟨h.os,h.tape,h.output,h.size,h.frm,h.sub,fun p A=>h.own p (G p A),M,fun p A=>h.dis p (G p A),fun p A=>h.new p (G p A),h.ifr,h.le,h.drw⟩
theorem St.sublist{H'}(h:St w0 D I0 I H w)(A:H'.Sublist H):St w0 D I0 I H' w:=
 h.keep (fun _ G=>A.subset G) (h.nodup.sublist (A.map _))
theorem St.perm{H'}(h:St w0 D I0 I H w)(A:H'.Perm H):St w0 D I0 I H' w:=
 h.keep (fun _ G=>A.mem_iff.1 G) ((A.map _).nodup_iff.2 h.nodup)
theorem St.alloc(h:St w0 D I0 I H w) o:St w0 D I0 I ((w.heap.size,o)::H) { w with heap:=w.heap.push o }:=by
 have N:∀{b:Nat} {o':Obj},w.heap[b]?=some o'→b<w.heap.size:=fun {b o'} G=>by
  rcases aU b w.heap.size with O|O
  ·exact O
  simp[aH O]at G
 have M:∀{b:Nat} {o':Obj},w.heap[b]?=some o'→(w.heap.push o)[b]?=some o':=fun {b o'} G=>by
  rw[bC,zD (by have:=N G;omega)];exact G
 refine⟨h.os,h.tape,h.output,by have:=h.size;simp;omega,fun b G Q=>?_,fun b o' G=>M (h.sub b o' G),?_,?_,?_,?_,h.ifr,h.le,h.drw⟩
 ·rw[←h.frm b G Q];show(w.heap.push o)[b]?=_;rw[bC,zD (by have:=h.size;omega)]
 ·intro p A;cases A with
  |head=>simp
  |tail _ A=>exact M (h.own p A)
 ·simp only[bK,bT];refine⟨fun S=>?_,h.nodup⟩;obtain⟨p,A,_⟩:=bF.1 S;have:=h.lt A;omega
 ·intro p A;cases A with
  |head=>
   cases hi:I w.heap.size with
   |none=>rfl
   |some o'=>have:=N (h.sub _ _ hi);omega
  |tail _ A=>exact h.dis p A
 intro p A;cases A with
 |head=>exact .inr h.size
 |tail _ A=>exact h.new p A
def hset (b:Nat) (o:Obj):HL→HL
 |[]=>[]
 |(c,x)::r=>if c=b then(c,o)::r else(c,x)::hset b o r
theorem WI b o:∀H:HL,(hset b o H).map (·.1)=H.map (·.1)
 |[]=>rfl
 |(c,x)::r=>by
  unfold hset
  split
  ·rfl
  simp[WI b o r]
theorem a3s b o:∀(H:HL),(H.map (·.1)).Nodup→∀p∈hset b o H,(p=(b,o))∨(p∈H∧p.1≠b)
 |[],_,p,A=>by cases A
 |(c,x)::r,hn,p,A=>by
  simp only[bK,bT]at hn;unfold hset at A
  split at A
  ·rename_i G;subst G
   cases A with
   |head=>exact .inl rfl
   |tail _ A=>
    refine .inr ⟨.tail _ A,fun M=>hn.1 ?_⟩;rw[←M];exact aQ A
  rename_i G
  cases A with
  |head=>exact .inr ⟨.head _,G⟩
  |tail _ A=>
   rcases a3s b o r hn.2 p A with h|h
   ·exact .inl h
   exact .inr ⟨.tail _ h.1,h.2⟩
theorem St.write{w' b o o'}(h:St w0 D I0 I H w)(Z:(b,o)∈H)(a0:w'.os=w.os)(ht:w'.tape=w.tape)(S:w'.output=w.output)
 (a1:w'.heap.size=w.heap.size)(hb:w'.heap[b]?=some o')(M:∀c,c≠b→w'.heap[c]?=w.heap[c]?)(a2:w'.drawn=w.drawn):St w0 D I0 I (hset b o' H) w':=by
 have Q:∀p∈hset b o' H,∃q∈H,q.1=p.1:=fun p G=>by
  have:p.1∈(hset b o' H).map (·.1):=aQ G;rw[WI]at this;obtain⟨q,N,A⟩:=bF.1 this;exact⟨q,N,A⟩
 refine⟨a0.trans h.os,ht.trans h.tape,S.trans h.output,by rw[a1];exact h.size,fun c hc hd=>?_,fun c x O=>?_,fun p G=>?_,by rw[WI];exact h.nodup,fun p G=>?_,fun p G=>?_,h.ifr,h.le,by rw[a2];exact h.drw⟩
 ·have:c≠b:=fun A=>by
   rcases h.new _ Z with W|W
   ·exact hd (A▸W)
   simp at W;omega
  rw[M c this];exact h.frm c hc hd
 ·have:c≠b:=fun A=>by
   have:=h.dis _ Z;simp only at this;rw[A]at O;rw[this]at O;cases O
  rw[M c this];exact h.sub c x O
 ·rcases a3s b o' H h.nodup p G with rfl|⟨h1,h2⟩
  ·exact hb
  rw[M _ h2];exact h.own p h1
 ·obtain⟨q,N,A⟩:=Q p G;rw[←A];exact h.dis q N
 obtain⟨q,N,A⟩:=Q p G;rw[←A];exact h.new q N
def hput (b:Nat) (o:Obj) (I:Heap):Heap:=fun c=>if c=b then some o else I c
theorem St.persist{b o R}(h:St w0 D I0 I ((b,o)::R) w)(S:w0.heap.size≤b):
 St w0 D I0 (hput b o I) R w:=by
 have M:=h.nodup;simp only[bK,bT]at M;have O:I b=none:=h.dis _ (.head _);refine⟨h.os,h.tape,h.output,h.size,h.frm,fun c x A=>?_,fun p G=>h.own p (.tail _ G),M.2,fun p G=>?_,fun p G=>h.new p (.tail _ G),fun c Q=>?_,fun c x A=>?_,h.drw⟩
 ·unfold hput at A
  split at A
  ·rename_i N;subst N;cases A;exact h.own _ (.head _)
  exact h.sub c x A
 ·unfold hput
  split
  ·rename_i N
   exact absurd (N▸aQ G) M.1
  exact h.dis p (.tail _ G)
 ·unfold hput;rw[zD oM];exact h.ifr c Q
 unfold hput
 split
 ·rename_i N;subst N
  have:=h.le _ _ A;rw[O]at this;cases this
 exact h.le c x A
theorem TW{b o I}(h:I b=none):Le I (hput b o I):=fun c x A=>by
 unfold hput
 split
 ·rename_i G;subst G;rw[h]at A;cases A
 exact A
theorem FQ b o I:hput b o I b=some o:=by simp[hput]
end st
theorem St.call{w0 w w' D I0 I I' H1 Q R}(h:St w0 D I0 I (H1++R) w)(k:St w (H1.map (·.1)) I I' Q w'):
 St w0 D I0 I' (Q++R) w':=by
 have S:=h.nodup;rw[dR,dG]at S;obtain⟨_,n2,n3⟩:=S;have Z:∀p∈R,p.1<w.heap.size:=fun p A=>h.lt (aX _ A);have W:∀p∈R,p.1 ∉ H1.map (·.1):=fun p A hm=>n3 _ hm _ (aQ A) rfl;refine⟨k.os.trans h.os,k.tape.trans h.tape,k.output.trans h.output,bU h.size k.size,fun b M hd=>?_,k.sub,fun p A=>?_,?_,fun p A=>?_,fun p A=>?_,fun b M=>?_,h.le.trans k.le,fun g=>bU (h.drw g) (k.drw g)⟩
 ·have a0:b ∉ H1.map (·.1):=fun hm=>by
   obtain⟨p,A,N⟩:=bF.1 hm;rcases h.new p (aY _ A)with G|G
   ·exact hd (N▸G)
   omega
  rw[k.frm b (eU M h.size) a0];exact h.frm b M hd
 ·rcases dS.1 A with A|A
  ·exact k.own p A
  rw[k.frm _ (Z p A) (W p A)];exact h.own p (aX _ A)
 ·rw[dR,dG];refine⟨k.nodup,n2,fun x hx y hy N=>?_⟩;obtain⟨p,A,a1⟩:=bF.1 hx;obtain⟨q,O,a2⟩:=bF.1 hy;rcases k.new p A with G|G
  ·exact W q O (by rw[a2,←N,←a1];exact G)
  have:=Z q O;omega
 ·rcases dS.1 A with A|A
  ·exact k.dis p A
  rw[k.ifr _ (Z p A)];exact h.dis p (aX _ A)
 ·rcases dS.1 A with A|A
  ·rcases k.new p A with G|G
   ·obtain⟨q,O,N⟩:=bF.1 G;rw[←N];exact h.new q (aY _ O)
   exact .inr (bU h.size G)
  exact h.new p (aX _ A)
 rw[k.ifr b (eU M h.size)];exact h.ifr b M
def SS (I:Heap) (H:HL) (w:World):Prop:=(∀b o,I b=some o→w.heap[b]?=some o)∧∀p∈H,w.heap[p.1]?=some p.2
theorem St.ss{w0 w D I0 I H}(h:St w0 D I0 I H w):SS I H w:=⟨h.sub,h.own⟩
def jR (S:World→Prop) (b:Nat) (o:Obj):Prop:=∀w,S w→w.heap[b]?=some o
theorem jR.EH{I H b o}(h:I b=some o):jR (SS I H) b o:=fun _ A=>A.1 b o h
theorem jR.at{I H b o}(i:Nat)(h:H[i]?=some (b,o)):jR (SS I H) b o:=fun _ A=>A.2 _ (aK h)
abbrev CL:=List (Nat×Nat×Value)
def SC (I:Heap) (A:HL) (Z:CL) (w:World):Prop:=SS I A w∧∀c∈Z,w.cell? ⟨c.1,c.2.1,none⟩=some c.2.2
theorem jR.zL{I A Z b o}(h:I b=some o):jR (SC I A Z) b o:=fun _ G=>G.1.1 b o h
theorem jR.atC{I A Z b o}(i:Nat)(h:A[i]?=some (b,o)):jR (SC I A Z) b o:=fun _ G=>G.1.2 _ (aK h)
structure Cx where
  P:Program
  n:Nat
  w0:World
  D:List Nat
  I0:Heap
  ds:List Deferred
  rd:Option Nat:=none
def Cx.F (cx:Cx):Fence:={ Fence.wide with round:=cx.rd }
abbrev Qt:=Exit→Act→World→Prop
def Cj (cx:Cx) (Q:Qt) (c:Code) (e:Env) (I:Heap) (H:HL):Prop:=
 ∀a w,Has a cx.n e cx.ds→St cx.w0 cx.D cx.I0 I H w→c.wpIn cx.F 0 cx.P Q a w
def Ej (cx:Cx) (Q:Qt) (x:Exit) (e:Env) (I:Heap) (H:HL):Prop:=
 ∀a w,Has a cx.n e cx.ds→St cx.w0 cx.D cx.I0 I H w→Q x a w
def J (cx:Cx) (Q:Qt) (ops:Array Oper) (l:List Oper) (e:Env) (I:Heap) (H:HL):Prop:=
 ∀a w,Has a cx.n e cx.ds→St cx.w0 cx.D cx.I0 I H w→wpListIn cx.F 0 cx.P ops Q l a w
abbrev Ct:=Env→Heap→HL→Prop
def mF (cx:Cx) (Q:Qt) (o:Oper) (e:Env) (I:Heap) (H:HL) (C:Ct):Prop:=
 ∀K:Act→World→Prop,(∀e' I' H',C e' I' H'→∀a w,Has a cx.n e' cx.ds→St cx.w0 cx.D cx.I0 I' H' w→K a w)→
  ∀a w,Has a cx.n e cx.ds→St cx.w0 cx.D cx.I0 I H w→o.wp cx.P a w K Q
theorem a5N{rd n P f args w}{R:Ending→World→Prop}(h:Calls P f args w R):CallsIn { Fence.wide with round:=rd } n P f args w R:=by
 have:=(callsIn_wide (n:=n)).2 h;cases rd with
 |none=>exact this
 |some l=>exact this
theorem a8l{rd n P row args w}{R:Value→World→Prop}(h:Rows P row args w R):RowsIn { Fence.wide with round:=rd } n P row args w R:=by
 have:RowsIn Fence.wide n P row args w R:=fun c cs _=>let ⟨v,w',A,G⟩:=h c cs;⟨v,w',A,stepsIn_wide.2 G⟩;cases rd with
 |none=>exact this
 |some l=>exact this
theorem a8t{rd n P}{o:Oper}{a}{K:Act→World→Prop}{Q r}(h:o.upon P a K Q r):o.uponIn { Fence.wide with round:=rd } n P a K Q r:=by
 cases r with
 |ok x w'=>
  cases x<;>simp only[aP,fC]at h ⊢ <;>
   first
    |exact h
    |exact⟨fun h=>by simp[Fence.wide]at h,a5N h⟩
    |exact⟨fun h=>by simp[Fence.wide]at h,a8l h⟩
 |halt x w'=>cases x<;>simp only[aP,fC]at h ⊢ <;>exact h
theorem WV{rd n P}{o:Oper}{a w}{K:Act→World→Prop}{Q}(A:rd=none∨∀c,o.op≠ .defer c)(h:o.wp P a w K Q):o.wpIn { Fence.wide with round:=rd } n P a w K Q:=by
 refine⟨fun _ _=>trivial,?_⟩;have G:o.semAt rd a.eval=execOp a.eval o:=by
  rcases A with rfl|A
  ·rfl
  exact Oper.semAt_eq rd a.eval o A
 show o.uponIn _ n P a K Q ((o.semAt rd a.eval).run P w);rw[G];exact a8t h
theorem mF.b5T{A Q o e I H C}(h:mF A Q o e I H C)(K:Act→World→Prop)
 (S:∀e' G H',C e' G H'→∀a w,Has a A.n e' A.ds→St A.w0 A.D A.I0 G H' w→K a w) a w (O:Has a A.n e A.ds)(W:St A.w0 A.D A.I0 I H w):o.wpIn A.F 0 A.P a w K Q:=by
 by_cases hd:∃c,o.op= .defer c
 ·obtain⟨c,M⟩:=hd;have h1:=h (fun Z w'=>K Z w'∧Z.defers=A.ds) (fun e' G H' hC a w N a0=>⟨S e' G H' hC a w N a0,N.defs⟩) a w O W;refine⟨fun _ _=>trivial,?_⟩;unfold Oper.wp at h1;have hx:(execOp a.eval o).run A.P w=((resolve a.eval c o.type).run A.P w).andThen fun d w'=> .ok (.defer d) w':=by
   simp only[execOp,M,aG];rfl
  rw[hx]at h1;cases hr:(resolve a.eval c o.type).run A.P w with
  |ok d w'=>
   rw[hr]at h1;simp only[aA,aP]at h1;have h2:=h1.2;have h3:({ a with defers:=d::a.defers }.put o.dst undef).defers=d::a.defers:=by
    cases o.dst<;>rfl
   rw[h3,O.defs]at h2;exact absurd (zC List.length h2) sI
  |halt x w'=>
   rw[hr]at h1;have hy:(o.semAt A.F.round a.eval).run A.P w= .halt x w':=by
    unfold Oper.semAt;cases A.F.round with
    |none=>simp only[hx,hr];rfl
    |some l=>simp only[M,aG,hr];rfl
   rw[hy];have h4:(Result.andThen (.halt x w':Result Deferred) fun d w'=>(.ok (.defer d) w':Result Next))= .halt x w':=rfl;rw[h4]at h1;cases x<;>simp only[aP,fC]at h1 ⊢ <;>exact h1
 have h1:=h K S a w O W;exact WV (rd:=A.rd) (.inr fun c M=>hd ⟨c,M⟩) h1
theorem wpIn_mono'{F n P a w}{c:Code}{Q A}(G:∀e a w,Q e a w→A e a w)(h:c.wpIn F n P Q a w):c.wpIn F n P A a w:=wpIn_mono h G
theorem a4S{F W P Q a w c}(I:Nat→Act→World→Prop) M (S:I M a w)
 (round:∀n a w,I n a w→c.wpIn F W P (Exit.then (fun O w'=>∃A,A<n∧I A O w') Q) a w):(Code.loop c).wpIn F W P Q a w:=by
 refine wpIn_loop (fun a w=>∃n,I n a w) (fun a w=>leastOf (fun n=>I n a w)) ⟨M,S⟩ ?_;intro a w hI;refine wpIn_mono (round _ a w (leastOf_spec hI).1) ?_;intro e O w' G;cases e with
 |normal=>
  obtain⟨A,Z,N⟩:=G;exact show(∃n,I n O w')∧leastOf (fun n=>I n O w')<leastOf (fun n=>I n a w) from⟨⟨A,N⟩,Nat.lt_of_le_of_lt ((leastOf_spec ⟨A,N⟩).2 A N) Z⟩
 |exit id=>exact G
 |goto l=>exact G
 |ret=>exact G
 |panic ch=>exact G
 |outgrown=>exact G
theorem Cx.wide{A:Cx}(h:A.rd=none):A.F=Fence.wide:=by
 unfold Cx.F;rw[h];rfl
theorem Cj.of_wp{A Q c e I H}(G:A.rd=none)(h:∀a w,Has a A.n e A.ds→St A.w0 A.D A.I0 I H w→c.wp A.P Q a w):Cj A Q c e I H:=fun a w M N=>by
 rw[Cx.wide G];exact wpIn_wide.2 (h a w M N)
theorem Cj.wp{A Q c e I H}(h:Cj A Q c e I H)(G:A.rd=none){a w}(M:Has a A.n e A.ds)(N:St A.w0 A.D A.I0 I H w):c.wp A.P Q a w:=by
 have:=h a w M N;rw[Cx.wide G]at this;exact wpIn_wide.1 this
section rules
variable {cx:Cx} {Q:Qt} {e:Env} {I:Heap} {H:HL}
theorem Cj.region{id l}(h:J cx Q l.toArray l e I H):Cj cx Q (.region id l.toArray false) e I H:=
 fun a w A G=>wpIn_region_lit (h a w A G)
theorem J.nil{A}(h:Ej cx Q .normal e I H):J cx Q A [] e I H:=fun a w G M=>wpListIn_nil (h a w G M)
theorem J.op{A o l}(N:o.guard=none)(h:mF cx Q o e I H (J cx Q A l)):J cx Q A (o::l) e I H:=
 fun a w G M=>wpListIn_plain N fun K O=>h.b5T K (fun _ _ _ S a w G M=>O a w (S a w G M)) a w G M
theorem xC{A a n ds j d b}(G:Has a n e ds)(M:(A[j]?).bind (·.dst)=some d)(N:eg e d=some (.bool b)):
 yielded A a.tmps j=some b:=by
 have:=G.get d _ N;simp only[yielded,M,dK,this]
theorem J.KT{A o l} j d G b (O:o.guard=some (j,G))(S:(A[j]?).bind (·.dst)=some d)(W:eg e d=some (.bool b))(Z:b=G)
 (h:mF cx Q o e I H (J cx Q A l)):J cx Q A (o::l) e I H:=by
 intro a w M N;refine wpListIn_step fun K hK=>?_;have hw:aC o (yielded A a.tmps)=true:=by simp[aC,O,xC M S W,Z]
 rw[zF hw];exact h.b5T K (fun _ _ _ hc a w M N=>hK a w (hc a w M N)) a w M N
theorem J.skip{A o l} j d t G b (N:o.guard=some (j,G))(O:(A[j]?).bind (·.dst)=some d)(S:eg e d=some (.bool b))(W:b= !G)
 (Z:o.dst=some t)(ht:aO t cx.n=true)(h:J cx Q A l ((t,undef)::e) I H):J cx Q A (o::l) e I H:=by
 intro a w M hs;refine wpListIn_step fun K hK=>?_;have hw:aC o (yielded A a.tmps)=false:=by simp[aC,N,xC M O S,W]
 rw[hw,Z];exact⟨fun _ _=>trivial,hK _ _ (h _ _ (M.put ht) hs)⟩
theorem J.b6S{A o l} j d t G (N:o.guard=some (j,G))(O:(A[j]?).bind (·.dst)=some d)(S:eg e d=some undef)
 (W:o.dst=some t)(Z:aO t cx.n=true)(h:J cx Q A l ((t,undef)::e) I H):J cx Q A (o::l) e I H:=by
 intro a w M hs;refine wpListIn_step fun K hK=>?_;have hw:aC o (yielded A a.tmps)=false:=by
  have:=M.get d _ S;have hy:yielded A a.tmps j=none:=by simp only[yielded,O,dK,this,undef]
  simp[aC,N,hy]
 rw[hw,W];exact⟨fun _ _=>trivial,hK _ _ (h _ _ (M.put Z) hs)⟩
theorem Cj.seq{x y}(h:Cj cx (Exit.then (y.wpIn cx.F 0 cx.P Q) Q) x e I H):Cj cx Q (.seq x y) e I H:=fun a w A G=>wpIn_seq (h a w A G)
theorem Ej.seq{y}(h:Cj cx Q y e I H):Ej cx (Exit.then (y.wpIn cx.F 0 cx.P Q) Q) .normal e I H:=fun a w A G=>h a w A G
theorem Ej.LQ{K:Act→World→Prop}(h:Ej cx Q .ret e I H):Ej cx (Exit.then K Q) .ret e I H:=fun a w A G=>h a w A G
theorem Ej.a0L{K:Act→World→Prop}{id}(h:Ej cx Q (.exit id) e I H):Ej cx (Exit.then K Q) (.exit id) e I H:=fun a w A G=>h a w A G
theorem Cj.block{id c}(h:Cj cx (aN id Q) c e I H):Cj cx Q (.block id c) e I H:=fun a w A G=>wpIn_block (h a w A G)
theorem Ej.yU{id}(h:Ej cx Q .normal e I H):Ej cx (aN id Q) .normal e I H:=fun a w A G=>h a w A G
theorem Ej.TV{id}(h:Ej cx Q .normal e I H):Ej cx (aN id Q) (.exit id) e I H:=fun a w A G=>by
 simp only[aN,if_true];exact h a w A G
theorem Ej.a3n{id A}(G:fB A id=false)(h:Ej cx Q (.exit A) e I H):Ej cx (aN id Q) (.exit A) e I H:=fun a w M N=>by
 have:A≠id:=fun O=>by subst O;simp[Nat.beq_refl]at G
 simp only[aN,this,if_false];exact h a w M N
theorem Ej.b6n{id}(h:Ej cx Q .ret e I H):Ej cx (aN id Q) .ret e I H:=fun a w A G=>h a w A G
theorem Cj.skip(h:Ej cx Q .normal e I H):Cj cx Q .skip e I H:=fun a w A G=>wpIn_skip (h a w A G)
theorem Cj.ret(h:Ej cx Q .ret e I H):Cj cx Q .ret e I H:=fun a w A G=>wpIn_ret (h a w A G)
theorem Cj.exit{id}(h:Ej cx Q (.exit id) e I H):Cj cx Q (.exit id) e I H:=fun a w A G=>wpIn_exit (h a w A G)
theorem Cj.cond{c:Operand}{x y:Code}{t:Bool}(M:ev e c=some (.bool t))(h1:t=true→Cj cx Q x e I H)(h2:t=false→Cj cx Q y e I H):Cj cx Q (.cond c x y) e I H:=
 fun a w A G=>wpIn_cond_split (A.eval M) (fun h=>h1 h a w A G) (fun h=>h2 h a w A G)
theorem Cj.weak{c e'}(A:Sub e' e)(h:Cj cx Q c e' I H):Cj cx Q c e I H:=fun a w G h1=>h a w (G.sub A) h1
theorem Ej.weak{x e'}(A:Sub e' e)(h:Ej cx Q x e' I H):Ej cx Q x e I H:=fun a w G h1=>h a w (G.sub A) h1
theorem Cj.keep{c H'}(A:H'.Sublist H)(h:Cj cx Q c e I H'):Cj cx Q c e I H:=fun a w G h1=>h a w G (h1.sublist A)
theorem Ej.keep{x H'}(A:H'.Sublist H)(h:Ej cx Q x e I H'):Ej cx Q x e I H:=fun a w G h1=>h a w G (h1.sublist A)
theorem Cj.perm{c H'}(A:H'.Perm H)(h:Cj cx Q c e I H'):Cj cx Q c e I H:=fun a w G h1=>h a w G (h1.perm A)
theorem J.perm{A l H'}(G:H'.Perm H)(h:J cx Q A l e I H'):J cx Q A l e I H:=fun a w M h1=>h a w M (h1.perm G)
theorem Ej.perm{x H'}(A:H'.Perm H)(h:Ej cx Q x e I H'):Ej cx Q x e I H:=fun a w G h1=>h a w G (h1.perm A)
theorem mF.perm{o C H'}(A:H'.Perm H)(h:mF cx Q o e I H' C):mF cx Q o e I H C:=fun K G a w M h1=>h K G a w M (h1.perm A)
def Mid (cx:Cx) (Q:Qt) (M:Env→Heap→HL→Prop):Qt
 | .normal,a,w=>∃e I H,M e I H∧Has a cx.n e cx.ds∧St cx.w0 cx.D cx.I0 I H w
 |x,a,w=>Q x a w
def ZR (cx:Cx) (Q:Qt) {ι:Type} (pre:ι→Prop) (μ:ι→Nat) (i:ι) (env:ι→Env) (hp:ι→Heap) (hl:ι→HL):Qt
 | .normal,a,w=>∃j,pre j∧μ j<μ i∧Has a cx.n (env j) cx.ds∧St cx.w0 cx.D cx.I0 (hp j) (hl j) w
 |x,a,w=>Q x a w
theorem Cj.loop{ι:Type}(A:ι→Prop) μ G O S {c} M (h0:A M)(hs:Sub (G M) e)(hI:O M=I)(hH:S M=H)
 (round:∀i,A i→Cj cx (ZR cx Q A μ i G O S) c (G i) (O i) (S i)):Cj cx Q (.loop c) e I H:=by
 intro a w W N;refine a4S (fun m a w=>∃i,A i∧μ i=m∧Has a cx.n (G i) cx.ds∧St cx.w0 cx.D cx.I0 (O i) (S i) w) (μ M) ⟨M,h0,rfl,W.sub hs,hI▸hH▸N⟩ ?_;rintro m a w ⟨i,hi,rfl,W,N⟩;refine wpIn_mono'  (fun x a w Z=>?_) (round i hi a w W N)
 cases x<;>first
  |exact Z
  |(obtain⟨j,hj,a0,a1,a2⟩:=Z;exact⟨μ j,a0,j,hj,rfl,a1,a2⟩)
section round
variable {ι:Type} {pre:ι→Prop} {μ:ι→Nat} {i:ι} {env:ι→Env} {hp:ι→Heap} {hl:ι→HL}
theorem Ej.round j (A:pre j)(G:μ j<μ i)(M:Sub (env j) e)(N:hp j=I)(O:hl j=H):Ej cx (ZR cx Q pre μ i env hp hl) .normal e I H:=
 fun _ _ S h1=>⟨j,A,G,S.sub M,N▸O▸h1⟩
theorem Ej.b4N(h:Ej cx Q .ret e I H):Ej cx (ZR cx Q pre μ i env hp hl) .ret e I H:=fun a w A G=>h a w A G
theorem Ej.XA{id}(h:Ej cx Q (.exit id) e I H):Ej cx (ZR cx Q pre μ i env hp hl) (.exit id) e I H:=fun a w A G=>h a w A G
end round
end rules
end Go.Sx
namespace Go.Sx
open Go
variable [DR]
def kX (cx:Cx) (o:Oper) (e:Env) (S:World→Prop) (v:Value):Prop:=
 ∀a w,Has a cx.n e cx.ds→S w→(execOp a.eval o).run cx.P w= .ok (.value v) w
def str (l:List UInt8):Value:= .string ⟨l.toArray⟩
abbrev i64 (n:Int):Value:= .int .i64 n
abbrev u8 (c:UInt8):Value:= .int .u8 (c.toNat:Int)
abbrev ptr (b o:Nat):Value:= .pointer (some ⟨b,o,none⟩)
def jM (t:TypeId) (l:List Value):Obj:= .cells l.toArray t (0,0)
theorem size_mk(l:List UInt8):(⟨l.toArray⟩:ByteArray).size=l.length:=by
 show l.toArray.size=_;simp
theorem sJ{α:Type}[BEq α][LawfulBEq α]{a b:α}(h:(a != b)=false):a=b:=by simpa using h
section
variable {cx:Cx} {Q:Qt} {o:Oper} {e:Env} {I:Heap} {H:HL} {C:Ct} {S:World→Prop}
theorem kV{d v}(M:kX cx o e (SS I H) v)(N:o.dst=some d)(O:aO d cx.n=true)(k:C ((d,v)::e) I H):mF cx Q o e I H C:=by
 intro K S a w A G;unfold Oper.wp;rw[M a w A G.ss];simp only[aP,N];exact S _ _ _ k _ _ (A.put O) G
theorem J.y{A l d v}(G:kX cx o e (SS I H) v)(M:o.guard=none)(N:o.dst=some d)(O:aO d cx.n=true)
 (k:J cx Q A l ((d,v)::e) I H):J cx Q A (o::l) e I H:=J.op M (kV G N O k)
theorem J.z{A l d v}(G:kX cx o e (SS I H) v)(k:J cx Q A l ((d,v)::e) I H)(M:o.guard=none:=by rfl)(N:o.dst=some d:=by rfl)(O:Nat.blt d cx.n=true:=by rfl):J cx Q A (o::l) e I H:=J.y G M N O k
theorem a0S{x v}(A:o.op= .move x)(G:ev e x=some v):kX cx o e S v:=by
 intro a w M _;simp only[execOp,A,aI,M.eval G]
theorem q3{x:Operand}{v:Value}(A:o.op= .move x:=by exact rfl)(G:ev e x=some v:=by exact rfl):kX cx o e S v:=a0S A G
theorem tC{x v}(A:o.op= .assign x)(G:ev e x=some v):kX cx o e S v:=by
 intro a w M _;simp only[execOp,A,aI,M.eval G]
theorem a5g{c x y t v}(G:o.op= .pick c x y)(M:ev e c=some (.bool t))(N:t=true)(O:ev e x=some v):kX cx o e S v:=by
 intro a w A _;subst N;simp[execOp,G,A.eval M,A.eval O,asBool]
theorem OA{c x y t v}(G:o.op= .pick c x y)(M:ev e c=some (.bool t))(N:t=false)(O:ev e y=some v):kX cx o e S v:=by
 intro a w A _;subst N;simp[execOp,G,A.eval M,A.eval O,asBool]
theorem qU{x p}(A:o.op= .nilCheck x)(G:ev e x=some (.pointer (some p))):kX cx o e S (.pointer (some p)):=by
 intro a w M _;simp[execOp,A,M.eval G]
theorem GR{x T k b off off' m fs f}(M:o.op= .fieldAddr T x k)(N:ev e x=some (ptr b off))
 (O:cx.P.underlying T=some (.struct fs))(Q:fs[k]?=some f)(G:∀w,(sizeOf f.type).run cx.P w= .ok (m+1) w)(A:off+f.offset=off'):
 kX cx o e S (ptr b off'):=by
 intro a w W _;subst A;simp[execOp,M,W.eval N,Instr.fieldAt,run_underlying O,Q,bH,fieldPlace,G,aV]
theorem q1{x:Operand}{T k b off off' m:Nat}{fs:Array Field}{f:Field}(M:cx.P.underlying T=some (.struct fs))(G:∀w,(sizeOf f.type).run cx.P w= .ok (m+1) w)(N:o.op= .fieldAddr T x k:=by exact rfl)(O:ev e x=some (ptr b off):=by exact rfl)(Q:fs[k]?=some f:=by exact rfl)(A:off+f.offset=off':=by exact rfl):kX cx o e S (ptr b off'):=GR N O M Q G A
theorem cell_of_heap{w:World}{b off}{cs:List Value}{t fr v}(h:w.heap[b]?=some (.cells cs.toArray t fr))(A:cs[off]?=some v):
 w.cell? ⟨b,off,none⟩=some v:=by
 simp[World.cell?,h,A]
theorem jP{x T b off}{cs:List Value}{t fr v}(G:o.op= .load T x)(M:ev e x=some (ptr b off))
 (A:∀w,(isAgg T).run cx.P w= .ok false w)(N:jR S b (.cells cs.toArray t fr))(O:cs[off]?=some v):kX cx o e S v:=by
 intro a w Q W;have Z:=cell_of_heap (N w W) O;simp[execOp,G,Q.eval M,gI,bH,loadVar,A,Z]
theorem q4{x:Operand}{T b off:Nat}{cs:List Value}{t:TypeId}{fr:Nat×Nat}{v:Value}(A:∀w,(isAgg T).run cx.P w= .ok false w)(G:jR S b (.cells cs.toArray t fr))(M:o.op= .load T x:=by exact rfl)(N:ev e x=some (ptr b off):=by exact rfl)(O:cs[off]?=some v:=by exact rfl):kX cx o e S v:=jP M N A G O
theorem lF{x T b off n}{cs vs:List Value}{t fr}(N:o.op= .load T x)(O:ev e x=some (ptr b off))
 (G:∀w,(isAgg T).run cx.P w= .ok true w)(M:∀w,(sizeOf T).run cx.P w= .ok n w)(Q:jR S b (.cells cs.toArray t fr))(W:(cs.drop off).take n=vs)(Z:vs.length=n):
 kX cx o e S (.agg vs.toArray):=by
 intro a w ha hs;have hh:=Q w hs;have hc:∀j v,vs[j]?=some v→w.cell? ((⟨b,off,none⟩:Addr).add j)=some v:=by
  intro j v A;rw[aV];refine cell_of_heap hh ?_;rw[←W]at A;rw[cZ]at A
  split at A
  ·simpa[dA]using A
  cases A
 have:=run_loadCells_list (P:=cx.P) (w:=w) ⟨b,off,none⟩ vs hc;rw[Z]at this;simp[execOp,N,ha.eval O,gI,bH,loadVar,G,M,this]
theorem q2{x:Operand}{T b off n:Nat}{cs vs:List Value}{t:TypeId}{fr:Nat×Nat}(A:∀w,(isAgg T).run cx.P w= .ok true w)(G:∀w,(sizeOf T).run cx.P w= .ok n w)(M:jR S b (.cells cs.toArray t fr))(N:(cs.drop off).take n=vs)(O:o.op= .load T x:=by exact rfl)(Q:ev e x=some (ptr b off):=by exact rfl)(W:vs.length=n:=by exact rfl):kX cx o e S (.agg vs.toArray):=lF O Q A G M N W
theorem zT{x y T U k p q}(G:o.op= .binOp .add T x y U)(M:ev e x=some (.int k p))(N:ev e y=some (.int k q))(O:k.wrap (p+q)=p+q):
 kX cx o e S (.int k (p+q)):=by
 intro a w A _;simp[execOp,G,A.eval M,A.eval N,eqGuard_add,binOp_add,dU,O]
theorem FZ{x y T U k p q}(G:o.op= .binOp .sub T x y U)(M:ev e x=some (.int k p))(N:ev e y=some (.int k q))(O:k.wrap (p-q)=p-q):
 kX cx o e S (.int k (p-q)):=by
 intro a w A _;simp[execOp,G,A.eval M,A.eval N,eqGuard_sub,binOp_sub,dU,O]
theorem DX{x y T U k p q}(G:o.op= .binOp .mul T x y U)(M:ev e x=some (.int k p))(N:ev e y=some (.int k q))(O:k.wrap (p*q)=p*q):
 kX cx o e S (.int k (p*q)):=by
 intro a w A _;simp[execOp,G,A.eval M,A.eval N,eqGuard_mul,binOp_mul,dU,O]
theorem b5A{x y T U k p q}(G:o.op= .binOp .add T x y U)(M:ev e x=some (.int k p))(N:ev e y=some (.int k q)):
 kX cx o e S (.int k (k.wrap (p+q))):=by
 intro a w A _;simp[execOp,G,A.eval M,A.eval N,eqGuard_add,binOp_add,dU]
theorem zZ{x y T U k p q}(G:o.op= .binOp .quo T x y U)(M:ev e x=some (.int k p))(N:ev e y=some (.int k q))(h0:q≠0)(O:k.wrap (p.tdiv q)=p.tdiv q):
 kX cx o e S (.int k (p.tdiv q)):=by
 intro a w A _;simp[execOp,G,A.eval M,A.eval N,eqGuard_quo,binOp_quo,Op.intDiv,O,h0]
theorem XT{x y T U k p q}(G:o.op= .binOp .rem T x y U)(M:ev e x=some (.int k p))(N:ev e y=some (.int k q))(h0:q≠0):
 kX cx o e S (.int k (p.tmod q)):=by
 intro a w A _;simp[execOp,G,A.eval M,A.eval N,eqGuard_rem,binOp_rem,Op.intDiv,h0]
theorem a4j{x y T U k p q}(G:o.op= .binOp .lss T x y U)(M:ev e x=some (.int k p))(N:ev e y=some (.int k q)):kX cx o e S (.bool (decide (p<q))):=by
 intro a w A _;simp[execOp,G,A.eval M,A.eval N,eqGuard_lss,binOp_lss]
theorem b6q{x y T U k p q}(G:o.op= .binOp .leq T x y U)(M:ev e x=some (.int k p))(N:ev e y=some (.int k q)):kX cx o e S (.bool (decide (p≤q))):=by
 intro a w A _;simp[execOp,G,A.eval M,A.eval N,eqGuard_leq,binOp_leq]
theorem b5K{x y T U k p q}(G:o.op= .binOp .gtr T x y U)(M:ev e x=some (.int k p))(N:ev e y=some (.int k q)):kX cx o e S (.bool (decide (p>q))):=by
 intro a w A _;simp[execOp,G,A.eval M,A.eval N,eqGuard_gtr,binOp_gtr]
theorem b6t{x y T U k p q}(G:o.op= .binOp .geq T x y U)(M:ev e x=some (.int k p))(N:ev e y=some (.int k q)):kX cx o e S (.bool (decide (p≥q))):=by
 intro a w A _;simp[execOp,G,A.eval M,A.eval N,eqGuard_geq,binOp_geq]
theorem a3C{x y T U k p q}(G:o.op= .binOp .eql T x y U)(M:ev e x=some (.int k p))(N:ev e y=some (.int k q)):kX cx o e S (.bool (p == q)):=by
 intro a w A _;simp[execOp,G,A.eval M,A.eval N,eqGuard_at_int,binOp_eql]
theorem b5Z{x y T U k p q}(G:o.op= .binOp .neq T x y U)(M:ev e x=some (.int k p))(N:ev e y=some (.int k q)):kX cx o e S (.bool (p != q)):=by
 intro a w A _;simp[execOp,G,A.eval M,A.eval N,eqGuard_at_int,binOp_neq]
theorem b6z{x T b}(A:o.op= .unOp .not T x)(G:ev e x=some (.bool b)):kX cx o e S (.bool (!b)):=by
 intro a w M _;simp[execOp,A,M.eval G,Op.unary]
theorem a7L{x A T k G n d}(M:o.op= .convert A T x)(N:ev e x=some (.int G n))(O:cx.P.underlying A=some d)(Q:cx.P.underlying T=some (.int k)):
 kX cx o e S (.int k (k.wrap n)):=by
 intro a w W _;simp[execOp,M,W.eval N,convert,run_underlying O,run_underlying Q,Conv.intToInt]
theorem a9D{x T l}(A:o.op= .call ⟨.builtin .len,#[x],#[T]⟩)(G:ev e x=some (str l))(M:cx.P.underlying T=some .string):kX cx o e S (i64 l.length):=by
 intro a w N _;simp[execOp,A,resolve,invoke,builtin,gJ,N.eval G,run_underlying M,str,goInt,size_mk]
theorem xQ{x T E p n c}(A:o.op= .call ⟨.builtin .len,#[x],#[T]⟩)(G:ev e x=some (.slice p n c))(M:cx.P.underlying T=some (.slice E)):kX cx o e S (i64 n):=by
 intro a w N _;simp[execOp,A,resolve,invoke,builtin,gJ,N.eval G,run_underlying M,goInt]
theorem lH{x y T l k i c}(M:o.op= .index T x y)(N:ev e x=some (str l))(O:ev e y=some (.int k i))(Q:cx.P.underlying T=some .string)
 (h0:0≤i)(W:l[i.toNat]?=some c):kX cx o e S (u8 c):=by
 intro a w A _;have:(⟨l.toArray⟩:ByteArray)[i.toNat]?=some c:=by
  obtain⟨G,Z⟩:=List.getElem?_eq_some_iff.1 W;rw[getElem?_pos (⟨l.toArray⟩:ByteArray) i.toNat (by rw[size_mk];exact G)];simp[ByteArray.getElem_eq_getElem_data,Z]
 simp[execOp,M,A.eval N,A.eval O,Instr.index,run_underlying Q,str,asIntOf,h0,this]
theorem lN{x lo O T l}{p q:Nat}(Q:o.op= .slice T x lo O none)(W:ev e x=some (str l))(Z:cx.P.underlying T=some .string)
 (N:match lo with|some y=>∃k,ev e y=some (.int k p)|none=>p=0)(A:match O with|some y=>∃k,ev e y=some (.int k q)|none=>q=l.length)
 (h1:p≤q)(h2:q≤l.length):kX cx o e S (str ((l.take q).drop p)):=by
 intro a w G _;have M:(⟨l.toArray⟩:ByteArray).extract p q=⟨((l.take q).drop p).toArray⟩:=by
  apply ByteArray.ext
  simp[dV];rw[List.drop_take]
 cases lo with
 |none=>
  simp only at N;subst N;cases O with
  |none=>
   simp only at A;subst A;simp[execOp,Q,G.eval W,dF,Instr.slice,bJ,run_underlying Z,str]
   first|done|simpa[size_mk]using M
  |some y=>
   obtain⟨k,hy⟩:=A;simp[execOp,Q,G.eval W,G.eval hy,dF,Instr.slice,bJ,run_underlying Z,str,dL,asIntOf,size_mk,h2]
   first|done|simpa using M
 |some z=>
  obtain⟨_,hz⟩:=N;cases O with
  |none=>
   simp only at A;subst A;simp[execOp,Q,G.eval W,G.eval hz,dF,Instr.slice,bJ,run_underlying Z,str,dL,asIntOf,size_mk,h1]
   first|done|simpa using M
  |some y=>
   obtain⟨k,hy⟩:=A;simp[execOp,Q,G.eval W,G.eval hy,G.eval hz,dF,Instr.slice,bJ,run_underlying Z,str,dL,asIntOf,size_mk,h2,h1]
   first|done|simpa using M
theorem oZ{x y T U l m}(G:o.op= .binOp .add T x y U)(M:ev e x=some (str l))(N:ev e y=some (str m))(O:l.length+m.length≤9223372036854775807):
 kX cx o e S (str (l++m)):=by
 intro a w A _;have h1:¬((((⟨l.toArray⟩:ByteArray).size+(⟨m.toArray⟩:ByteArray).size:Nat):Int)>IntKind.i64.max):=by
  rw[size_mk,size_mk];simp;omega
 have h2:(⟨l.toArray⟩:ByteArray)++⟨m.toArray⟩=⟨(l++m).toArray⟩:=by
  apply ByteArray.ext;simp
 simp only[execOp,G,A.eval M,A.eval N,eqGuard_add,str,binOp,fD,zD h1,h2,aG,aI,aA]
theorem b0N{x y T U l m}(G:o.op= .binOp .eql T x y U)(M:ev e x=some (str l))(N:ev e y=some (str m)):kX cx o e S (.bool (l == m)):=by
 intro a w A _;simp[execOp,G,A.eval M,A.eval N,str,eqGuard_at_string,binOp,fD]
theorem QM{x y T U l m}(G:o.op= .binOp .neq T x y U)(M:ev e x=some (str l))(N:ev e y=some (str m)):kX cx o e S (.bool (l != m)):=by
 intro a w A _;simp[execOp,G,A.eval M,A.eval N,str,eqGuard_at_string,binOp,fD,bne]
theorem nG{x y T E b off n c sz off' k i}(N:o.op= .indexAddr T x y)(O:ev e x=some (.slice (some ⟨b,off,none⟩) n c))(Q:ev e y=some (.int k i))
 (W:cx.P.underlying T=some (.slice E))(G:∀w,(sizeOf E).run cx.P w= .ok sz w)(h0:0≤i)(h1:i<n)(A:off+i.toNat*sz=off'):kX cx o e S (ptr b off'):=by
 intro a w M _;subst A;simp[execOp,N,M.eval O,M.eval Q,Instr.indexAt,asIntOf,run_underlying W,h0,h1,G,aV]
theorem q6{x y:Operand}{T E b off n c sz off':Nat}{k:IntKind}{i:Int}(M:cx.P.underlying T=some (.slice E))(G:∀w,(sizeOf E).run cx.P w= .ok sz w)(N:o.op= .indexAddr T x y:=by exact rfl)(O:ev e x=some (.slice (some ⟨b,off,none⟩) n c):=by exact rfl)(Q:ev e y=some (.int k i):=by exact rfl)(h0:0≤i:=by omega)(h1:i<n:=by omega)(A:off+i.toNat*sz=off':=by simp):kX cx o e S (ptr b off'):=nG N O Q M G h0 h1 A
theorem a7J{x k}{vs:List Value}{v}(A:o.op= .extract x k)(G:ev e x=some (.tuple vs.toArray))(M:vs[k]?=some v):kX cx o e S v:=by
 intro a w N _;simp[execOp,A,N.eval G,Instr.extract,M]
theorem VI{fn fs cs vs A}(M:o.op= .makeFunc fn fs.toArray cs.toArray)(h1:evs e fs=some vs)(h2:evs e cs=some A):kX cx o e S (.func fn vs.toArray A.toArray):=by
 intro a w G _;simp[execOp,M,Instr.makeFunc,G.CP h1,G.CP h2]
theorem a3q{T x v d}(A:o.op= .makeInterface T x)(G:ev e x=some v)(M:cx.P.underlying T=some d)(N:(match d with| .interface _=>false|_=>true)=true):kX cx o e S (.iface T v):=by
 intro a w O _;simp only[execOp,A,Instr.makeInterface,O.eval G,aG,run_underlying M,aA];cases d<;>first|rfl|cases N
end
end Go.Sx
namespace Go.Sx
open Go
variable [DR]
structure lS {α:Type} (l:List α) (i:Nat) (x:α) (l':List α):Prop where
  lt:i<l.length
  eq:l.set i x=l'
theorem lS.z{α:Type}{v x:α}{r:List α}:lS (v::r) 0 x (x::r):=⟨sI,rfl⟩
theorem lS.s{α:Type}{v x:α}{r A n}(h:lS r n x A):lS (v::r) (n+1) x (v::A):=
 ⟨by have:=h.1;simp;omega,by rw[eX,h.2]⟩
structure oD {α:Type} (l:List α) (i:Nat) (xs:List α) (l':List α):Prop where
  le:i+xs.length≤l.length
  eq:l'=l.take i++xs++l.drop (i+xs.length)
theorem oD.z{α:Type}{l:List α}:oD l 0 [] l:=⟨sI,sI⟩
theorem oD.c{α:Type}{v x:α}{r A xs}(h:oD r 0 xs A):oD (v::r) 0 (x::xs) (x::A):=by
 obtain⟨h1,h2⟩:=h;refine⟨by simp at h1 ⊢;omega,?_⟩;subst h2;simp
theorem oD.s{α:Type}{v:α}{r A xs n}(h:oD r n xs A):oD (v::r) (n+1) xs (v::A):=by
 obtain⟨h1,h2⟩:=h;refine⟨by simp;omega,?_⟩;subst h2;simp[List.take_succ_cons,Nat.add_right_comm n 1,List.drop_succ_cons]
theorem a6b:∀(H:HL) (i b:Nat) (o o':Obj),(H.map (·.1)).Nodup→H[i]?=some (b,o)→hset b o' H=H.set i (b,o')
 |[],i,b,o,o',_,h=>by simp at h
 |(c,x)::r,0,b,o,o',_,h=>by
  simp at h;obtain⟨rfl,rfl⟩:=h;simp[hset]
 |(c,x)::r,i+1,b,o,o',hn,h=>by
  simp only[bK,bT]at hn;simp only[dP]at h;have A:c≠b:=fun G=>hn.1 (by rw[G];exact aQ (f:=(·.1)) (aK h));simp only[hset,zD A,eX];rw[a6b r i b o o' hn.2 h]
def World.block (w:World) (b:Nat) (o:Obj):World:={ w with heap:=w.heap.setIfInBounds b o }
theorem OZ{w b off}{cs:List Value}{t fr v}(h:w.heap[b]?=some (.cells cs.toArray t fr)):
 w.setCell ⟨b,off,none⟩ v=World.block w b (.cells (cs.set off v).toArray t fr):=by
 have G:b<w.heap.size:=by
  rcases aU b w.heap.size with A|A
  ·exact A
  simp[aH A]at h
 simp only[World.setCell,World.block]
 congr 1
 apply dB
 intro i;rw[dZ,bY]
 by_cases hi:b=i
 ·subst hi;have M:w.heap[b]= .cells cs.toArray t fr:=by simpa[G]using h
  simp[G,M]
 simp[hi]
theorem a2p{w b o o'}(h:w.heap[b]?=some o):(World.block w b o').heap[b]?=some o':=by
 have G:b<w.heap.size:=by
  rcases aU b w.heap.size with A|A
  ·exact A
  simp[aH A]at h
 simp[World.block,G]
theorem b3q{w b c o'}(h:c≠b):(World.block w b o').heap[c]?=w.heap[c]?:=by
 simp[World.block,Ne.symm h]
theorem a5v{w b o o'}:World.block (World.block w b o) b o'=World.block w b o':=by
 simp[World.block]
theorem St.block{w0 D I0 I H H' w i b o o'}(h:St w0 D I0 I H w)(A:H[i]?=some (b,o))(M:lS H i (b,o') H'):
 St w0 D I0 I H' (World.block w b o'):=by
 have G:=aK A;have:=h.write (o':=o') G (w':=World.block w b o') rfl rfl rfl (by simp[World.block]) (a2p (h.own _ G)) (fun c N=>b3q N) rfl;rw[a6b H i b o o' h.nodup A,M.2]at this;exact this
theorem rC{P b off t fr}:∀(vs:List Value) (i:Nat) (w:World) (cs:List Value),w.heap[b]?=some (.cells cs.toArray t fr)→(fr=(0,0)∨cs.length≤fr.1)→off+i+vs.length≤cs.length→
 (∀v∈vs,v.oneCell'=true)→∀A,oD cs (off+i) vs A→(storeCells ⟨b,off,none⟩ vs i).run P w= .ok () (World.block w b (.cells A.toArray t fr))
 |[],i,w,cs,h,_,_,_,A,hl=>by
  have:A=cs:=by have:=hl.2;simpa using this
  subst this;have W:World.block w b (.cells A.toArray t fr)=w:=by
   simp only[World.block]
   congr 1
   apply dB
   intro j;rw[bY]
   by_cases hj:b=j
   ·subst hj;have Q:b<w.heap.size:=by
     rcases aU b w.heap.size with N|N
     ·exact N
     simp[aH N]at h
    have Z:w.heap[b]= .cells A.toArray t fr:=by simpa[Q]using h
    simp[Q,Z]
   simp[hj]
  rw[W];rfl
 |v::r,i,w,cs,h,M,hlen,hone,A,hl=>by
  simp only[dM]at hlen;have G:off+i<cs.length:=oM;have hc:w.cell? ⟨b,off+i,none⟩=some (cs[off+i]'G):=cell_of_heap h (by simp[G]);have S:w.frozen? ⟨b,off+i,none⟩=false:=by
   rcases M with rfl|M
   ·simp[fV,h]
   simp only[fV,h];have:decide (fr.1≤off+i)=false:=by simp;omega
   simp[this]
  have h1:=run_store P w ⟨b,off+i,none⟩ v .plain (hone v (.head _));simp only[hc,S,bG,if_false]at h1;have O:((⟨b,off,none⟩:Addr).add i)=⟨b,off+i,none⟩:=aV b off i;simp only[storeCells,aG,O,h1,aA];rw[OZ h];have h2:(World.block w b (.cells (cs.set (off+i) v).toArray t fr)).heap[b]?=some (.cells (cs.set (off+i) v).toArray t fr):=a2p h;rw[rC r (i+1) _ (cs.set (off+i) v) h2 (by simpa using M) (by simp;omega) (fun u hu=>hone u (.tail _ hu)) A ?_,a5v];refine⟨by simp;omega,?_⟩;rw[hl.2];simp only[dM];rw[show off+(i+1)=(off+i)+1 from by omega];rw[List.take_set,List.drop_set_of_lt oM];rw[List.take_succ_eq_append_getElem G];rw[bP _ _ (by simp;omega)];simp[Nat.min_eq_left (Nat.le_of_lt G),Nat.add_assoc,Nat.add_comm 1]
structure xM (vs:List Value) (sz:Nat) (cs:List Value):Prop where
  all:∀v∈vs,v.cells.size=sz
  eq:vs.flatMap (fun v=>v.cells.toList)=cs
theorem xM.none{sz}:xM [] sz []:=⟨sI,rfl⟩
theorem xM.one{v vs cs}(h1:v.cells= #[v])(h:xM vs 1 cs):xM (v::vs) 1 (v::cs):=
 ⟨fun u A=>by cases A with|head=>rw[h1];rfl|tail _ A=>exact h.1 u A,by rw[dH,h1,h.2];rfl⟩
theorem xM.agg{xs vs cs sz}(h1:xs.length=sz)(h:xM vs sz cs):xM (.agg xs.toArray::vs) sz (xs++cs):=
 ⟨fun u A=>by cases A with|head=>simpa[Value.cells]using h1|tail _ A=>exact h.1 u A,by rw[dH,h.2];rfl⟩
theorem RP:∀(xs:List Value) (k:Nat) (G M A:List Value) (off:Nat),M.length=xs.length→G.length=off+k→
 (xs.zipIdx k).foldl (fun cs (x:Value×Nat)=>cs.setIfInBounds (off+x.2) x.1) (G++M++A).toArray=(G++xs++A).toArray
 |[],k,G,M,A,off,h,_=>by
  have:M=[]:=bI.1 (by simpa using h);subst this;simp
 |x::xs,k,G,M,A,off,h,hp=>by
  obtain⟨y,r,rfl⟩:∃y r,M=y::r:=by
   cases M with
   |nil=>simp at h
   |cons y r=>exact⟨y,r,rfl⟩
  simp only[List.zipIdx_cons,List.foldl_cons];have h1:(G++y::r++A).toArray.setIfInBounds (off+k) x=((G++[x])++r++A).toArray:=by
   rw[List.setIfInBounds_toArray]
   congr 1
   rw[dI,bP _ _ oM,hp,Nat.sub_self];simp
  rw[h1,RP xs (k+1) (G++[x]) r A off (by simpa using h) (by simp;omega)];simp
theorem a3T{sz}:∀(vs:List Value) (k:Nat) (A rest:List Value),(∀v∈vs,v.cells.size=sz)→A.length=k*sz→rest.length=vs.length*sz→
 dJ (fun i=>some (i*sz,sz)) (A++rest).toArray ((dW k vs.length).zip vs)=some (A++vs.flatMap (fun v=>v.cells.toList)).toArray
 |[],k,A,rest,_,_,hr=>by
  have:rest=[]:=bI.1 (by simpa using hr);subst this;simp[dJ]
 |v::vs,k,A,rest,hv,hp,hr=>by
  have h1:v.cells.toList.length=sz:=by simpa using hv v (.head _)
  have N:rest.length=sz+vs.length*sz:=by rw[hr];simp[aW];omega
  have G:v.cells.size=sz:=hv v (.head _);simp only[dM,List.range'_succ,List.zip_cons_cons,dJ];rw[zD (by simp[G,hp];omega)];have h2:v.cells.zipIdx.foldl (fun cs (x:Value×Nat)=>cs.setIfInBounds (k*sz+x.2) x.1) (A++rest).toArray=(A++v.cells.toList++rest.drop sz).toArray:=by
   rw[←RP v.cells.toList 0 A (rest.take sz) (rest.drop sz) (k*sz) (by simp;omega) oM];rw[dI A,bQ];rw[←eY,eH]
  rw[h2,a3T vs (k+1) (A++v.cells.toList) (rest.drop sz) (fun u M=>hv u (.tail _ M)) (by simp[G,hp,aW]) (by simp;omega)];simp[dH]
section
variable {cx:Cx} {Q:Qt} {o:Oper} {e:Env} {I:Heap} {H:HL} {C:Ct}
theorem qI{T d z zs}(G:o.op= .alloc T)(M:o.dst=some d)(N:aO d cx.n=true)(O:∀w,(zeroValue T).run cx.P w= .ok z w)(S:z.cells=zs.toArray)
 (k:∀b,cx.w0.heap.size≤b→C ((d,ptr b 0)::e) I ((b,jM T zs)::H)):mF cx Q o e I H C:=by
 intro K W a w Z A;unfold Oper.wp;have:(execOp a.eval o).run cx.P w= .ok (.value (ptr w.heap.size 0)) { w with heap:=w.heap.push (jM T zs) }:=by
  simp[execOp,G,Instr.alloc,O,newVar,newRow,S,jM]
 rw[this];simp only[aP,M];exact W _ _ _ (k _ A.size) _ _ (Z.put N) (A.alloc _)
theorem rV{T d x z zs}(M:o.op= .box T x)(N:o.dst=some d)(O:aO d cx.n=true)(S:ev e x=some z)(W:z.cells=zs.toArray)
 (k:∀b,cx.w0.heap.size≤b→C ((d,ptr b 0)::e) I ((b,jM T zs)::H)):mF cx Q o e I H C:=by
 intro K Z a w A G;unfold Oper.wp;have:(execOp a.eval o).run cx.P w= .ok (.value (ptr w.heap.size 0)) { w with heap:=w.heap.push (jM T zs) }:=by
  simp[execOp,M,Instr.box,A.eval S,newVar,newRow,W,jM]
 rw[this];simp only[aP,N];exact Z _ _ _ (k _ G.size) _ _ (A.put O) (G.alloc _)
theorem oP{x y T t b off} i {cs A vs v H' n}(ho:o.op= .store T x y)(hd:o.dst=none)(hx:ev e x=some (ptr b off))(hy:ev e y=some v)
 (hv:v.cells=vs.toArray)(h1:vs.all bZ=true)(N:∀w,(sizeOf T).run cx.P w= .ok n w)(O:vs.length=n)(S:H[i]?=some (b,jM t cs))(G:oD cs off vs A)(W:lS H i (b,jM t A) H')
 (k:C e I H'):mF cx Q o e I H C:=by
 intro K hK a w M Z;unfold Oper.wp;have hb:=Z.own _ (aK S);have a0:=rC (P:=cx.P) (t:=t) vs 0 w cs hb (.inl rfl) G.1 (fun u hu=>(bM.1 h1) u hu) A G;have:(execOp a.eval o).run cx.P w= .ok .skip (World.block w b (jM t A)):=by
  simp[execOp,ho,fZ,bH,M.eval hx,M.eval hy,storeVar,hv,N,O,a0,jM]
 rw[this];simp only[aP,hd];exact hK _ _ _ k _ _ M.AZ (Z.block S W)
theorem q5{x y:Operand}{T t b off:Nat}(i:Nat){cs A vs:List Value}{v:Value}{H':HL}{n:Nat}(G:∀w,(sizeOf T).run cx.P w= .ok n w)(M:oD cs off vs A)(N:lS H i (b,jM t A) H')(k:C e I H')(S:o.op= .store T x y:=by exact rfl)(W:o.dst=none:=by exact rfl)(Z:ev e x=some (ptr b off):=by exact rfl)(hy:ev e y=some v:=by exact rfl)(hv:v.cells=vs.toArray:=by exact rfl)(h1:vs.all Value.oneCell'=true:=by exact rfl)(O:vs.length=n:=by exact rfl)(hH:H[i]?=some (b,jM t cs):=by exact rfl):mF cx Q o e I H C:=oP i S W Z hy hv h1 G O hH M N k
theorem jY{T E d len sz}{parts:List (Nat×Operand)}{vs z A}(ho:o.op= .buildSlice T len parts.toArray)(hd:o.dst=some d)(hn:aO d cx.n=true)
 (hu:cx.P.underlying T=some (.slice E))(M:∀w,(sizeOf E).run cx.P w= .ok sz w)(hz:∀w,(zeroValue E).run cx.P w= .ok z w)(G:(Nat.ble (len*sz) (2 ^ 24) && aO 0 (len*sz))=true)
 (hv:evs e (parts.map (·.2))=some vs)(hi:parts.map (·.1)=dW 0 vs.length)(hl:vs.length=len)(N:xM vs sz A)
 (k:∀b,cx.w0.heap.size≤b→C ((d,.slice (some ⟨b,0,none⟩) len len)::e) I ((b,jM E A)::H)):mF cx Q o e I H C:=by
 intro K hK a w O S;unfold Oper.wp;have hp:(parts.toArray.map fun(i,x)=>(i,a.eval x)).toList=(dW 0 vs.length).zip vs:=by
  have h:=O.CP hv;rw[←hi,←h];simp[gB,dN]
 have W:¬(len*sz>2 ^ 24):=by
  simp only[aZ,Nat.ble_eq]at G;omega
 have Z:¬(len*sz=0):=by
  simp only[aZ,Nat.blt_eq]at G;omega
 have a0:dJ (fun i=>some (i*sz,sz)) ((fE (len*sz)).map (z.cells[· % z.cells.size]!)) ((dW 0 vs.length).zip vs)=some A.toArray:=by
  have h0:((fE (len*sz)).map (z.cells[· % z.cells.size]!))=([]++((fE (len*sz)).map (z.cells[· % z.cells.size]!)).toList).toArray:=by rw[fJ,Array.toArray_toList]
  rw[h0,a3T vs 0 [] _ N.1 sI (by simp[hl]),N.2];simp
 have:(execOp a.eval o).run cx.P w= .ok (.value (.slice (some ⟨w.heap.size,0,none⟩) len len)) { w with heap:=w.heap.push (jM E A) }:=by
  simp only[execOp,ho,Instr.buildSlice,aG,run_underlying hu,aA,M,W,Z,if_false,aI,hz,hp,a0,newRow,run_newObj,jM]
 rw[this];simp only[aP,hd];exact hK _ _ _ (k _ S.size) _ _ (O.put hn) (S.alloc _)
end
def Enters (P:Program) (f:FuncId):Prop:=∃fn,P.funcs[f]?=some fn∧fn.name≠ "runtime.NumGoroutine" ∧fn.body.isNone=false
def Ready (I:Heap) (H:HL) (w:World):Prop:=(∀b o,I b=some o→w.heap[b]?=some o)∧(∀p∈H,w.heap[p.1]?=some p.2)∧(H.map (·.1)).Nodup∧∀p∈H,I p.1=none
def RR (w0:World) (D:List Nat) (I0:Heap) (post:Ending→Heap→HL→Prop):Ending→World→Prop:=
 fun e w'=>∃I' H',St w0 D I0 I' H' w'∧post e I' H'
def jO (P:Program) (f:FuncId) (args:List Value) (I:Heap) (H:HL) (post:Ending→Heap→HL→Prop):Prop:=
 Enters P f∧∀w,Ready I H w→Calls P f args.toArray w (RR w (H.map (·.1)) I post)
theorem jO.mono{P f args I H}{M A:Ending→Heap→HL→Prop}(h:jO P f args I H M)
 (O:∀e G H',Le I G→M e G H'→A e G H'):jO P f args I H A:=
 ⟨h.1,fun w Q=>(h.2 w Q).mono fun e _ ⟨G,H',N,S⟩=>⟨G,H',N,O e G H' N.le S⟩⟩
def Pure (P:Program) (f:FuncId) (args:List Value) (I:Heap) (v:Value):Prop:=jO P f args I [] (fun e I' H'=>e= .returned v∧I'=I∧H'=[])
theorem wF{P f}(h:Enters P f) args w:(callFunc f args).run P w= .ok (.enter f args) w:=by
 obtain⟨fn,h1,h2,h3⟩:=h;have A:(fn.name == "runtime.NumGoroutine")=false:=by simpa using h2
 simp only[callFunc,aG,run_program,aA,h1,A,h3,bG,if_false,aI]
section
variable {cx:Cx} {Q:Qt} {o:Oper} {e:Env} {I:Heap} {C:Ct}
theorem kT{H1 R d f fo xs ts fst cap vs}{M:Ending→Heap→HL→Prop}
 (ho:o.op= .call ⟨.value fo,xs.toArray,ts⟩)(hd:o.dst=some d)(hn:aO d cx.n=true)(hf:ev e fo=some (.func (.func f) fst.toArray cap.toArray))(hx:evs e xs=some vs)
 (hs:jO cx.P f (fst++vs++cap) I H1 M)
 (k:∀v G A,Le I G→M (.returned v) G A→C ((d,v)::e) G (A++R))
 (kp:∀Z G A,Le I G→M (.panicked Z) G A→Ej cx Q (.panic Z) e G (A++R))
 (ko:∀G A,¬M .outgrown G A):mF cx Q o e I (H1++R) C:=by
 intro K hK a w ha N;unfold Oper.wp;have hr:(execOp a.eval o).run cx.P w= .ok (.enter f (fst++vs++cap).toArray) w:=by
  have a2:xs.toArray.map a.eval=vs.toArray:=by
   rw[fF,ha.CP hx]
  simp only[execOp,ho,resolve,a2,ha.eval hf,Deferred.ofValue,invoke,aG,aI,aA,wF hs.1];simp
 rw[hr];simp only[aP];have S:Ready I H1 w:=⟨N.sub,fun p O=>N.own p (aY _ O),by
  have:=N.nodup;rw[dR,dG]at this;exact this.1,fun p O=>N.dis p (aY _ O)⟩
 refine(hs.2 w S).mono ?_;rintro en w' ⟨G,A,a0,O⟩;have a1:=a0.le;have W:=N.call a0;cases en with
 |returned v=>
  rw[hd];exact hK _ _ _ (k v G A a1 O) _ _ (ha.put hn) W
 |panicked Z=>exact kp Z G A a1 O _ _ ha W
 |outgrown=>exact(ko _ _ O).elim
theorem AX{H d f G xs ts fst cap vs v}
 (N:o.op= .call ⟨.value G,xs.toArray,ts⟩)(O:o.dst=some d)(S:aO d cx.n=true)(W:ev e G=some (.func (.func f) fst.toArray cap.toArray))(Z:evs e xs=some vs)
 (hs:Pure cx.P f (fst++vs++cap) I v)(k:C ((d,v)::e) I H):mF cx Q o e I H C:=
 kT (H1:=[]) (R:=H) N O S W Z hs
  (fun u M A _ ⟨h1,h2,h3⟩=>by cases h1;subst h2;subst h3;exact k) (fun _ M A _ ⟨h1,_⟩=>by cases h1) (fun M A ⟨h1,_⟩=>by cases h1)
end
theorem jO.a6i{P f fn c args I H}{A:Ending→Heap→HL→Prop}(N:P.funcs[f]?=some fn)(O:fn.body=some c)(M:fn.name≠ "runtime.NumGoroutine")
 (Q:args.length≤fn.ntmps)
 (h:∀w0,Ready I H w0→Cj ⟨P,fn.ntmps,w0,H.map (·.1),I,[],none⟩ (bodyPost P fn (RR w0 (H.map (·.1)) I A)) c (uQ 0 args) I H):jO P f args I H A:=by
 refine⟨⟨fn,N,M,by simp[O]⟩,fun w G=>?_⟩;refine calls_of_wp N O ?_;exact(h w G).wp rfl (Has.start args fn.ntmps Q) (St.start w I H G.1 G.2.1 G.2.2.1 G.2.2.2)
theorem qW{x}(h: -9223372036854775808≤x∧x≤9223372036854775807):IntKind.i64.wrap x=x:=IntWalk.i64_in _ h
section
variable {cx:Cx} {fn:Func} {post:Ending→Heap→HL→Prop} {e:Env} {I:Heap} {H:HL}
theorem Ej.MX{t v}(M:fn.results= #[.tmp t])(A:cx.ds=[])(N:eg e t=some v)(O:post (.returned v) I H):Ej cx (bodyPost cx.P fn (RR cx.w0 cx.D cx.I0 post)) .ret e I H:=by
 intro a w G Q;refine⟨G.defs.trans A,v,?_,I,H,Q,O⟩;rw[results_tmp M];have:=G.get t v N;simp[this]
theorem Ej.b5P{t u v x}(M:fn.results= #[.tmp t,.tmp u])(G:cx.ds=[])(N:eg e t=some v)(O:eg e u=some x)(Q:post (.returned (.tuple #[v,x])) I H):
 Ej cx (bodyPost cx.P fn (RR cx.w0 cx.D cx.I0 post)) .ret e I H:=by
 intro a w A S;refine⟨A.defs.trans G,_,?_,I,H,S,Q⟩;rw[results_tmp2 M];have h1:=A.get t v N;have h2:=A.get u x O;simp[h1,h2]
theorem Ej.b3c(G:fn.results= #[])(A:cx.ds=[])(M:post (.returned (.tuple #[])) I H):Ej cx (bodyPost cx.P fn (RR cx.w0 cx.D cx.I0 post)) .ret e I H:=
 fun _ _ N O=>⟨N.defs.trans A,_,results_none G _ _ _,I,H,O,M⟩
theorem Ej.BO(G:fn.results= #[])(A:cx.ds=[])(M:post (.returned (.tuple #[])) I H):Ej cx (bodyPost cx.P fn (RR cx.w0 cx.D cx.I0 post)) .normal e I H:=
 fun _ _ N O=>⟨N.defs.trans A,_,results_none G _ _ _,I,H,O,M⟩
end
def Pull (H:HL) (p:Nat×Obj) (H':HL):Prop:=(p::H').Perm H
theorem Pull.z{p r}:Pull (p::r) p r:=List.Perm.refl _
theorem Pull.s{p q r A}(h:Pull r p A):Pull (q::r) p (q::A):=(List.Perm.swap q p A).trans (List.Perm.cons q h)
def Keeps (H' H:HL):Prop:=H'.Sublist H
theorem Keeps.n:Keeps [] []:=List.Sublist.slnil
theorem Keeps.r{r}:Keeps r r:=List.Sublist.refl r
theorem Keeps.k{p r A}(h:Keeps A r):Keeps (p::A) (p::r):=dX p h
theorem Keeps.d{p r A}(h:Keeps A r):Keeps A (p::r):=List.Sublist.cons p h
section
variable {cx:Cx} {Q:Qt} {e:Env} {I:Heap} {H H':HL} {p:Nat×Obj}
theorem Cj.pull{c}(h:Pull H p H')(k:Cj cx Q c e I (p::H')):Cj cx Q c e I H:=Cj.perm h k
theorem J.pull{A l}(h:Pull H p H')(k:J cx Q A l e I (p::H')):J cx Q A l e I H:=J.perm h k
theorem Ej.pull{x}(h:Pull H p H')(k:Ej cx Q x e I (p::H')):Ej cx Q x e I H:=Ej.perm h k
theorem mF.pull{o C}(h:Pull H p H')(k:mF cx Q o e I (p::H') C):mF cx Q o e I H C:=mF.perm h k
theorem Ej.bare{x}(k:Ej cx Q x e I []):Ej cx Q x e I H:=Ej.keep (List.nil_sublist _) k
theorem J.split{A l} d {b}(G:eg e d=some (.bool b))(h1:b=true→J cx Q A l e I H)(h0:b=false→J cx Q A l e I H):J cx Q A l e I H:=by
 cases b
 ·exact h0 rfl
 exact h1 rfl
theorem Cj.persist{c b o}(M:cx.w0.heap.size≤b)(k:∀A,Le I A→A b=some o→Cj cx Q c e A H):Cj cx Q c e I ((b,o)::H):=
 fun a w N G=>k _ (TW (G.dis _ (.head _))) (FQ b o I) a w N (G.persist M)
theorem J.persist{A l b o}(N:cx.w0.heap.size≤b)(k:∀G,Le I G→G b=some o→J cx Q A l e G H):J cx Q A l e I ((b,o)::H):=
 fun a w O M=>k _ (TW (M.dis _ (.head _))) (FQ b o I) a w O (M.persist N)
theorem Ej.persist{x b o}(M:cx.w0.heap.size≤b)(k:∀A,Le I A→A b=some o→Ej cx Q x e A H):Ej cx Q x e I ((b,o)::H):=
 fun a w N G=>k _ (TW (G.dis _ (.head _))) (FQ b o I) a w N (G.persist M)
end
def sel:List Nat→HL→HL
 |[],_=>[]
 | i::r,H=>match H[i]? with
   |some p=>p::sel r H
   |none=>sel r H
def HSub:HL→HL→Prop
 |[],_=>True
 |p::r,H=>p∈H∧HSub r H
theorem HSub.mem:∀{A H:HL},HSub A H→∀p∈A,p∈H
 |_::_,_,⟨h,_⟩,_,.head _=>h
 |_::_,_,⟨_,h⟩,_,.tail _ hp=>HSub.mem h _ hp
theorem HSub.n{H}:HSub [] H:=trivial
theorem HSub.c{p r H}(i:Nat)(h:H[i]?=some p)(t:HSub r H):HSub (p::r) H:=⟨aK h,t⟩
def CSub:CL→HL→Prop
 |[],_=>True
 |c::r,H=>(∃cs t fr,(c.1,fU (List.toArray cs) t fr)∈H∧cs[c.2.1]?=some c.2.2)∧CSub r H
theorem CSub.n{H}:CSub [] H:=trivial
theorem CSub.cell:∀{Z:CL} {H:HL} {w:World},CSub Z H→(∀p∈H,w.heap[p.1]?=some p.2)→∀c∈Z,w.cell? ⟨c.1,c.2.1,none⟩=some c.2.2
 |_::_,_,_,⟨⟨_,_,_,h1,h2⟩,_⟩,hw,_,.head _=>cell_of_heap (hw _ h1) h2
 |_::_,_,_,⟨_,h⟩,hw,_,.tail _ hc=>CSub.cell h hw _ hc
def waits (ops:Array Oper) (i:Nat):Nat→Nat→Bool
 |0,_=>false
 | f+1,j=>match ops[j]? with
   |none=>false
   |some o=>o.after.any (fun e=>aS .any e && (e.on == i || waits ops i f e.on))
def Closed (ops:Array Oper) (listed:Array Bool):Prop:=∀j o,ops[j]?=some o→listed.getD j false=true→∀e∈o.after,aS .any e=true→listed.getD e.on false=true
def a6D (ops:Array Oper) (listed:Array Bool):Bool:=(List.range ops.size).all fun j=> !(listed.getD j false) || (match ops[j]? with
 |none=>true
 |some o=>o.after.all fun e=> !(aS .any e) || listed.getD e.on false)
theorem Closed.of{G A}(h:a6D G A=true):Closed G A:=by
 intro j o M O e Q S;have N:j<G.size:=(Array.getElem?_eq_some_iff.1 M).1;have h1:=bM.1 h j (List.mem_range.2 N);rw[O,M]at h1;simp only[Bool.not_true,Bool.false_or]at h1;have h2:=Array.all_eq_true'.1 h1 e Q;rw[S]at h2;simpa using h2
theorem Closed.set{G A j O}(h:Closed G A)(Z:G[j]?=some O)(M:∀e∈O.after,aS .any e=true→A.getD e.on false=true):Closed G (A.setIfInBounds j true):=by
 intro k o N Q e S W
 by_cases hjk:j=k
 ·subst hjk;rw[Z]at N;cases N;exact getD_set_true (M e S W)
 rw[getD_set_ne false hjk]at Q;exact getD_set_true (h k o N Q e S W)
theorem a1A{G A i}(N:Closed G A)(O:A.getD i false=false):∀(f j:Nat) (o:Oper),G[j]?=some o→waits G i f j=true→∃e∈o.after,aS .any e=true∧A.getD e.on false=false
 |0,_,_,_,h=>by cases h
 |f+1,j,o,ho,h=>by
  simp only[waits,ho]at h;obtain⟨e,he,M⟩:=Array.any_eq_true'.1 h;rw[aZ,Bool.or_eq_true,beq_iff_eq]at M;refine⟨e,he,M.1,?_⟩;rcases M.2 with h1|h1
  ·rw[h1];exact O
  cases hl:A.getD e.on false with
  |false=>rfl
  |true=>
   cases ho2:G[e.on]? with
   |none=>cases f<;>simp[waits,ho2]at h1
   |some Q=>
    obtain⟨e2,S,W,Z⟩:=a1A N O f e.on Q ho2 h1;rw[N e.on Q ho2 hl e2 S W]at Z;cases Z
def JM (ops:Array Oper) (listed:Array Bool) (z i:Nat):Bool:=match ops[z]? with
 |none=>true
 |some _=>a6D ops listed && (i != z && waits ops i ops.size z)
def xR (P:Program) (ops:Array Oper) (Q:Qt) (S:World→Prop) (z:Nat):Nat→Array Bool→Act→World→Prop
 |0,listed,a,w=>aF .any ops listed=[]∧Q .normal a w
 | fuel+1,listed,a,w=>(aF .any ops listed=[]→Q .normal a w)∧
   ∀i∈aF .any ops listed,wpOp P ops Q i (fun a' w'=>(i≠z→S w')∧xR P ops Q S z fuel (listed.setIfInBounds i true) a' w') a w
theorem NM{P G Q}{S:World→Prop}{z}:∀(fuel:Nat) (A:Array Bool) (a:Act) (w:World),xR P G Q S z fuel A a w→wpAny P .any G Q fuel A a w
 |0,_,_,_,h=>h
 |fuel+1,_,_,_,h=>⟨h.1,fun i M=>wpOp_mono (fun N w' O=>NM fuel _ N w' O.2) (h.2 i M)⟩
theorem a2y{A:Array Bool}{i}{N:Oper}(O:A.getD i true=false)(G:∀e∈N.after,aS .any e=true→A.getD e.on false=true):∀e∈N.after,aS .any e=true→e.on≠i:=fun e S W Q=>by
 have h1:=G e S W;rw[Q]at h1;rcases aU i A.size with M|M
 ·simp[M]at O h1;rw[O]at h1;cases h1
 simp[aH M]at h1
theorem a5i{P G Q}{S:World→Prop}{z i oi v}(hz:∀oz,G[z]?=some oz→i≠z∧waits G i G.size z=true)(hi:G[i]?=some oi)(a1:∀(j:Nat) (o:Oper) cs b,G[j]?=some o→o.op≠ .select cs b)
 (hQ:∀c a w,Q (.panic c) (a.put oi.dst v) w→Q (.panic c) a w):∀(M:Nat) (A:Array Bool) (a:Act) (w:World),
  (∀j O,G[j]?=some O→j≠i→A.getD j true=false→(∀e∈O.after,aS .any e=true→e.on≠i)→oi.apart G O=true)→
  (∀oz,G[z]?=some oz→Closed G A)→i∈aF .any G A→YieldsIf P G S oi v a→S w→
  xR P G Q S z M (A.setIfInBounds i true) (a.put oi.dst v) w→xR P G Q S z (M+1) A a w:=by
 intro M
 induction M with
 |zero=>
  intro A a w _ _ W hy hS H;refine⟨fun h=>(by rw[h]at W;cases W),fun j hj=>?_⟩
  by_cases hji:j=i
  ·subst hji;exact hy.wpOp hi hS ⟨fun _=>hS,H⟩
  have:=ready_mono hj hji;rw[H.1]at this;cases this
 |succ M ih=>
  intro A a w a0 a4 W hy hS H;refine⟨fun h=>(by rw[h]at W;cases W),fun j hj=>?_⟩
  by_cases hji:j=i
  ·subst hji;exact hy.wpOp hi hS ⟨fun _=>hS,H⟩
  have h1:=H.2 j (ready_mono hj hji);obtain⟨a2,O,N,Z⟩:=mem_ready.1 hj;have a7:=a2y (i:=i) (mem_ready.1 W).1 Z;have a8:A.getD i false=false:=by
   have h0:=(mem_ready.1 W).1;rcases aU i A.size with h'|h'
   ·simp[h']at h0 ⊢;exact h0
   simp[aH h']
  have a5:j≠z:=fun he=>by
   subst he;obtain⟨e,he,hb,hn⟩:=a1A (a4 O N) a8 _ j O N (hz O N).2;rw[Z e he hb]at hn;cases hn
  have h2:=wpOp_putIf N (a0 j O N hji a2 a7) (fun cs b=>a1 i oi cs b hi) (fun cs b=>a1 j O cs b N) hQ hy h1
  have a3:∀k ok,G[k]?=some ok→k≠i→(A.setIfInBounds j true).getD k true=false→
   (∀e∈ok.after,aS .any e=true→e.on≠i)→oi.apart G ok=true:=fun k ok hk a9 a6 aa=>by
   refine a0 k ok hk a9 ?_ aa
   by_cases hjk:j=k
   ·subst hjk;exact a2
   rw[getD_set_ne true hjk]at a6;exact a6
  refine wpOp_mono (fun a' w' h3=>⟨fun _=>h3.2.1 a5,ih (A.setIfInBounds j true) a' w' a3 (fun oz ab=>(a4 oz ab).set N Z) (ready_mono W (Ne.symm hji)) h3.1 (h3.2.1 a5) ?_⟩) h2;rw[Array.setIfInBounds_comm _ _ hji];exact h3.2.2
theorem KJ{P G Q}{S:World→Prop}{z i oi v M A a w}(N:JM G A z i=true)(W:G[i]?=some oi)
 (Z:bV G=true)(hf:dY .any G A i=true)(hr:(aF .any G A).contains i=true)
 (hQ:∀c a w,Q (.panic c) (a.put oi.dst v) w→Q (.panic c) a w)(hy:YieldsIf P G S oi v a)(hS:S w)
 (h:xR P G Q S z M (A.setIfInBounds i true) (a.put oi.dst v) w):xR P G Q S z (M+1) A a w:=
 a5i (fun oz O=>by
  simp only[JM,O,aZ,bne_iff_ne]at N;exact N.2) W (Region.noSelect_spec Z) hQ M A a w (Region.free_spec W hf) (fun oz O=>by
  simp only[JM,O,aZ]at N;exact Closed.of N.1) (by simpa using hr) hy hS h
theorem ES{P G Q}{S:World→Prop}{z rs M A a w}(N:aF .any G A=rs)(O:rs≠[])
 (h:∀i∈rs,wpOp P G Q i (fun W w'=>(i≠z→S w')∧xR P G Q S z M (A.setIfInBounds i true) W w') a w):xR P G Q S z (M+1) A a w:=
 ⟨fun h0=>absurd (N▸h0) O,N▸h⟩
theorem a5X{P G Q}{S:World→Prop}{z A a w}(N:aF .any G A=[])(h:Q .normal a w):∀M,xR P G Q S z M A a w
 |0=>⟨N,h⟩
 |_+1=>⟨fun _=>h,by rw[N];simp⟩
def JA (cx:Cx) (Q:Qt) (l:List Oper) (I1:Heap) (A:HL) (Z:CL) (z:Nat) (fuel:Nat) (listed:Array Bool) (e:Env) (I:Heap) (H:HL):Prop:=
 ∀a w,Has a cx.n e cx.ds→St cx.w0 cx.D cx.I0 I H w→xR cx.P l.toArray Q (SC I1 A Z) z fuel listed a w
section
variable {cx:Cx} {Q:Qt} {e:Env} {I I1:Heap} {H A:HL} {Z:CL} {z:Nat} {l:List Oper}
def LW (ops:Array Oper):Bool:=ops.toList.all fun o=>match o.op with
 | .defer _=>false
 |_=>true
theorem a7r{A}(h:LW A=true){i:Nat}{o}(G:A[i]?=some o):∀c,o.op≠ .defer c:=by
 intro c M;have:=bM.1 h o (by have:=Array.mem_of_getElem? G;simpa using this);simp[M]at this
theorem IU{rd P S G Q}(M:LW G=true)(N:¬LetsOut Q):∀(fuel:Nat) (A:Array Bool) (a:Act) (w:World),wpAny P S G Q fuel A a w→wpAnyIn { Fence.wide with round:=rd } 0 P S G Q fuel A a w
 |0,_,_,_,h=>h
 |fuel+1,A,a,w,h=>⟨h.1,fun i Z=>by
  have h2:=h.2 i Z;unfold wpOp at h2;unfold wpOpIn;cases ho:G[i]? with
  |none=>simp only[ho]at h2 ⊢;exact IU M N fuel _ _ _ h2
  |some o=>
   simp only[ho]at h2 ⊢
   split
   ·rename_i O
    rw[zF O]at h2;have W:rd=none∨∀c,o.op≠ .defer c:= .inr (a7r M ho);rcases h2 with h2|⟨_,h2⟩
    ·exact Oper.wpIn_mono (fun a' w' h3=>IU M N fuel _ a' w' h3) (WV W h2)
    exact(N h2).elim
   rename_i O
   rw[zD O]at h2;exact⟨fun _ _=>trivial,IU M N fuel _ _ _ h2⟩⟩
theorem Cj.draw{id} A Z z (N:cx.P.follows .mixedOrders=true)(h:JA cx Q l I A Z z l.toArray.size (Array.replicate l.toArray.size false) e I H)(O:cx.rd=none∨(LW l.toArray=true∧¬LetsOut Q):=by first|exact .inl rfl|exact .inr ⟨rfl,fun h=>h.elim fun _ h=>h.elim fun _ h=>h⟩):Cj cx Q (.region id l.toArray true) e I H:=
 O.elim (fun W=>Cj.of_wp W fun a _w G M=>wp_region_any N (NM _ _ _ _ (h a _ G M.drew))) fun S=>fun a _w G M=>wpIn_region_any N (IU S.1 S.2 _ _ _ _ (NM _ _ _ _ (h a _ G M.drew)))
theorem Cj.qC{id} is Z z (G:cx.P.follows .mixedOrders=true)(h:JA cx Q l I (sel is H) Z z l.toArray.size (Array.replicate l.toArray.size false) e I H)(A:cx.rd=none∨(LW l.toArray=true∧¬LetsOut Q):=by first|exact .inl rfl|exact .inr ⟨rfl,fun h=>h.elim fun _ h=>h.elim fun _ h=>h⟩):Cj cx Q (.region id l.toArray true) e I H:=Cj.draw _ _ z G h A
theorem JA.pull{H' p M G}(h:Pull H p H')(k:JA cx Q l I1 A Z z M G e I (p::H')):JA cx Q l I1 A Z z M G e I H:=fun a w N h1=>k a w N (h1.perm h)
theorem JA.split{M G} d {b}(N:eg e d=some (.bool b))(h1:b=true→JA cx Q l I1 A Z z M G e I H)(h0:b=false→JA cx Q l I1 A Z z M G e I H):JA cx Q l I1 A Z z M G e I H:=by
 cases b
 ·exact h0 rfl
 exact h1 rfl
theorem JA.persist{M G b o}(S:cx.w0.heap.size≤b)(k:∀N,Le I N→N b=some o→JA cx Q l I1 A Z z M G e N H):JA cx Q l I1 A Z z M G e I ((b,o)::H):=
 fun a w W O=>k _ (TW (O.dis _ (.head _))) (FQ b o I) a w W (O.persist S)
theorem JA.done{M G}(N:aF .any l.toArray G=[])(h:Ej cx Q .normal e I H):JA cx Q l I1 A Z z M G e I H:=
 fun a w O S=>a5X N (h a w O S) M
theorem JA.take{N G} i {o d v}(hz:JM l.toArray G z i=true)(hi:l.toArray[i]?=some o)(hs:bV l.toArray=true)(hf:dY .any l.toArray G i=true)
 (hr:(aF .any l.toArray G).contains i=true)(hq:∀c a w,Q (.panic c) (a.put (some d) v) w→Q (.panic c) a w)(hg:o.guard=none)(O:o.dst=some d)(hn:aO d cx.n=true)(hA:HSub A H)(hZ:CSub Z H)(S:Le I1 I)
 (hy:kX cx o e (SC I1 A Z) v)(k:JA cx Q l I1 A Z z N (G.setIfInBounds i true) ((d,v)::e) I H):JA cx Q l I1 A Z z (N+1) G e I H:=by
 intro a w W M;have a0:SC I1 A Z w:=⟨⟨fun b o h=>M.sub b o (S b o h),fun p hp=>M.own p (hA.mem p hp)⟩,hZ.cell M.own⟩;refine KJ (oi:=o) hz (v:=v) hi hs hf hr (by rw[O];exact hq) (.inl ⟨by simp[aC,hg],fun w' a1=>hy a w' W a1⟩) a0 ?_;rw[O];exact k _ _ (W.put hn) M
theorem JA.b6W{N G} i {o d v} j W O b (hz:JM l.toArray G z i=true)(hi:l.toArray[i]?=some o)(hs:bV l.toArray=true)(hf:dY .any l.toArray G i=true)
 (hr:(aF .any l.toArray G).contains i=true)(hq:∀c a w,Q (.panic c) (a.put (some d) v) w→Q (.panic c) a w)(hg:o.guard=some (j,O))(a0:(l.toArray[j]?).bind (·.dst)=some W)(hv:eg e W=some (.bool b))(hb:b=O)
 (hd:o.dst=some d)(hn:aO d cx.n=true)(hA:HSub A H)(hZ:CSub Z H)(a1:Le I1 I)
 (hy:kX cx o e (SC I1 A Z) v)(k:JA cx Q l I1 A Z z N (G.setIfInBounds i true) ((d,v)::e) I H):JA cx Q l I1 A Z z (N+1) G e I H:=by
 intro a w S M;have a2:SC I1 A Z w:=⟨⟨fun b o h=>M.sub b o (a1 b o h),fun p hp=>M.own p (hA.mem p hp)⟩,hZ.cell M.own⟩;refine KJ (oi:=o) hz (v:=v) hi hs hf hr (by rw[hd];exact hq) (.inl ⟨by simp[aC,hg,xC S a0 hv,hb],fun w' a3=>hy a w' S a3⟩) a2 ?_;rw[hd];exact k _ _ (S.put hn) M
theorem JA.b6N{N G} i {o d} j W O u (hz:JM l.toArray G z i=true)(hi:l.toArray[i]?=some o)(hs:bV l.toArray=true)(hf:dY .any l.toArray G i=true)
 (hr:(aF .any l.toArray G).contains i=true)(hq:∀c a w,Q (.panic c) (a.put (some d) undef) w→Q (.panic c) a w)(hg:o.guard=some (j,O))(S:(l.toArray[j]?).bind (·.dst)=some W)(hv:eg e W=some u)
 (hb:u= .bool (!O)∨u=undef)(hd:o.dst=some d)(hn:aO d cx.n=true)(hA:HSub A H)(hZ:CSub Z H)(a0:Le I1 I)
 (k:JA cx Q l I1 A Z z N (G.setIfInBounds i true) ((d,undef)::e) I H):JA cx Q l I1 A Z z (N+1) G e I H:=by
 intro a w ha M;have a1:SC I1 A Z w:=⟨⟨fun b o h=>M.sub b o (a0 b o h),fun p hp=>M.own p (hA.mem p hp)⟩,hZ.cell M.own⟩;have hw:aC o (yielded l.toArray a.tmps)=false:=by
  have a2:=ha.get W _ hv;rcases hb with rfl|rfl
  ·simp[aC,hg,xC ha S hv]
  have hy:yielded l.toArray a.tmps j=none:=by simp only[yielded,S,dK,a2,undef]
  simp[aC,hg,hy]
 refine KJ (oi:=o) hz (v:=undef) hi hs hf hr (by rw[hd];exact hq) (.inr ⟨hw,rfl⟩) a1 ?_;rw[hd];exact k _ _ (ha.put hn) M
def xJ (I1:Heap) (A:HL) (Z:CL) (I:Heap) (H:HL):Prop:=HSub A H∧CSub Z H∧Le I1 I
theorem JA.fix{M G}(h:xJ I1 A Z I H)(k:xJ I1 A Z I H→JA cx Q l I1 A Z z M G e I H):JA cx Q l I1 A Z z M G e I H:=k h
theorem JA.tk{M G} i {o d v}(O:l.toArray[i]?=some o)(N:xJ I1 A Z I H)(S:kX cx o e (SC I1 A Z) v)(k:JA cx Q l I1 A Z z M (G.setIfInBounds i true) ((d,v)::e) I H)
 (W:o.dst=some d:=by rfl)(hg:o.guard=none:=by rfl)(hn:Nat.blt d cx.n=true:=by rfl)(hz:JM l.toArray G z i=true:=by first|rfl|kernel_rfl)(hs:Region.noSelect l.toArray=true:=by kernel_rfl)(hf:Region.free .any l.toArray G i=true:=by kernel_rfl)
 (hr:(Region.ready .any l.toArray G).contains i=true:=by kernel_rfl)(hq:∀c a w,Q (.panic c) (a.put (some d) v) w→Q (.panic c) a w:=by exact fun _ _ _ h=>h):JA cx Q l I1 A Z z (M+1) G e I H:=
 JA.take i hz O hs hf hr hq hg W hn N.1 N.2.1 N.2.2 S k
theorem JA.tkG{N G} i {o d v} j O M b (hi:l.toArray[i]?=some o)(S:xJ I1 A Z I H)(W:(l.toArray[j]?).bind (·.dst)=some O)(hv:eg e O=some (.bool b))(hb:b=M)(hy:kX cx o e (SC I1 A Z) v)
 (k:JA cx Q l I1 A Z z N (G.setIfInBounds i true) ((d,v)::e) I H)(hd:o.dst=some d:=by rfl)(hg:o.guard=some (j,M):=by rfl)(hn:Nat.blt d cx.n=true:=by rfl)(hz:JM l.toArray G z i=true:=by first|rfl|kernel_rfl)(hs:Region.noSelect l.toArray=true:=by kernel_rfl)
 (hf:Region.free .any l.toArray G i=true:=by kernel_rfl)(hr:(Region.ready .any l.toArray G).contains i=true:=by kernel_rfl)(hq:∀c a w,Q (.panic c) (a.put (some d) v) w→Q (.panic c) a w:=by exact fun _ _ _ h=>h):JA cx Q l I1 A Z z (N+1) G e I H:=
 JA.b6W i j O M b hz hi hs hf hr hq hg W hv hb hd hn S.1 S.2.1 S.2.2 hy k
theorem JA.tkS{N G} i {o d} j O M u (hi:l.toArray[i]?=some o)(S:xJ I1 A Z I H)(W:(l.toArray[j]?).bind (·.dst)=some O)(hv:eg e O=some u)(hb:u= .bool (!M)∨u=undef)
 (k:JA cx Q l I1 A Z z N (G.setIfInBounds i true) ((d,undef)::e) I H)(hd:o.dst=some d:=by rfl)(hg:o.guard=some (j,M):=by rfl)(hn:Nat.blt d cx.n=true:=by rfl)(hz:JM l.toArray G z i=true:=by first|rfl|kernel_rfl)(hs:Region.noSelect l.toArray=true:=by kernel_rfl)
 (hf:Region.free .any l.toArray G i=true:=by kernel_rfl)(hr:(Region.ready .any l.toArray G).contains i=true:=by kernel_rfl)(hq:∀c a w,Q (.panic c) (a.put (some d) undef) w→Q (.panic c) a w:=by exact fun _ _ _ h=>h):JA cx Q l I1 A Z z (N+1) G e I H:=
 JA.b6N i j O M u hz hi hs hf hr hq hg W hv hb hd hn S.1 S.2.1 S.2.2 k
theorem JA.step{N G} i {o}(hr:aF .any l.toArray G=[i])(hi:l.toArray[i]?=some o)(hg:o.guard=none)
 (k:mF cx Q o e I H (fun e' O H'=>(Le I1 O∧HSub A H'∧CSub Z H')∧JA cx Q l I1 A Z z N (G.setIfInBounds i true) e' O H')):JA cx Q l I1 A Z z (N+1) G e I H:=by
 intro a w ha W;refine ES hr sI fun j S=>?_;obtain rfl:j=i:=by simpa using S
 unfold wpOp;simp only[hi];rw[zF (by simp[aC,hg])];refine .inl (k _ (fun e' O H' ⟨⟨a0,hA,hZ⟩,S⟩ a' w' a1 M=>⟨fun _=>⟨⟨fun b o h=>M.sub b o (a0 b o h),fun p hp=>M.own p (hA.mem p hp)⟩,hZ.cell M.own⟩,S a' w' a1 M⟩) a w ha W)
theorem q0{M:Nat}{G:Array Bool}(i:Nat){o:Oper}(O:l.toArray[i]?=some o)(k:mF cx Q o e I H (fun e' N H'=>(Le I1 N∧HSub A H'∧CSub Z H')∧JA cx Q l I1 A Z z M (G.setIfInBounds i true) e' N H'))(S:Region.ready .any l.toArray G=[i]:=by kernel_rfl)(W:o.guard=none:=by exact rfl):JA cx Q l I1 A Z z (M+1) G e I H:=JA.step i S O W k
theorem JA.last{M G} i {o}(hr:aF .any l.toArray G=[i])(hz:i=z)(hi:l.toArray[i]?=some o)(hg:o.guard=none)
 (k:mF cx Q o e I H (fun e' O H'=>JA cx Q l I1 A Z z M (G.setIfInBounds i true) e' O H')):JA cx Q l I1 A Z z (M+1) G e I H:=by
 intro a w ha S;refine ES hr sI fun j N=>?_;obtain rfl:j=i:=by simpa using N
 unfold wpOp;simp only[hi];rw[zF (by simp[aC,hg])];refine .inl (k _ (fun e' O H' N a' w' W a0=>⟨fun h=>absurd hz h,N a' w' W a0⟩) a w ha S)
theorem JA.stepG{N G} i {o} j dj O b (hr:aF .any l.toArray G=[i])(hi:l.toArray[i]?=some o)(hg:o.guard=some (j,O))
 (a0:(l.toArray[j]?).bind (·.dst)=some dj)(hv:eg e dj=some (.bool b))(hb:b=O)
 (k:mF cx Q o e I H (fun e' S H'=>(Le I1 S∧HSub A H'∧CSub Z H')∧JA cx Q l I1 A Z z N (G.setIfInBounds i true) e' S H')):JA cx Q l I1 A Z z (N+1) G e I H:=by
 intro a w ha a1;refine ES hr sI fun j W=>?_;obtain rfl:j=i:=by simpa using W
 unfold wpOp;simp only[hi];rw[zF (by simp[aC,hg,xC ha a0 hv,hb])];refine .inl (k _ (fun e' S H' ⟨⟨a2,hA,hZ⟩,W⟩ a' w' a3 M=>⟨fun _=>⟨⟨fun b o h=>M.sub b o (a2 b o h),fun p hp=>M.own p (hA.mem p hp)⟩,hZ.cell M.own⟩,W a' w' a3 M⟩) a w ha a1)
theorem JA.all{N G} rs (hr:aF .any l.toArray G=rs)(W:rs≠[])
 (k:∀i∈rs,∃o,l.toArray[i]?=some o∧o.guard=none∧mF cx Q o e I H (fun e' O H'=>(Le I1 O∧HSub A H'∧CSub Z H')∧JA cx Q l I1 A Z z N (G.setIfInBounds i true) e' O H')):JA cx Q l I1 A Z z (N+1) G e I H:=by
 intro a w ha a0;refine ES hr W fun j S=>?_;obtain⟨o,hi,hg,k⟩:=k j S;unfold wpOp;simp only[hi];rw[zF (by simp[aC,hg])];refine .inl (k _ (fun e' O H' ⟨⟨a1,hA,hZ⟩,S⟩ a' w' a2 M=>⟨fun _=>⟨⟨fun b o h=>M.sub b o (a1 b o h),fun p hp=>M.own p (hA.mem p hp)⟩,hZ.cell M.own⟩,S a' w' a2 M⟩) a w ha a0)
end
end Go.Sx
namespace Go.Sx
instance b7w:DR:=⟨false⟩
theorem WU{p:Prop}:DR.b=true→p:=fun h=>nomatch h
theorem St.drewN{w0 w D I0 I H}(h:St w0 D I0 I H w) k:St w0 D I0 I H { w with drawn:=k }:=
 ⟨h.os,h.tape,h.output,h.size,h.frm,h.sub,h.own,h.nodup,h.dis,h.new,h.ifr,h.le,WU⟩
theorem Ej.a4V{A fn}{G:Ending→Heap→HL→Prop}{e I H H' t T b n}{cs:List Value}{W fr}(Z:Keeps H' H)(hr:fn.results= #[.cell t T])(M:A.ds=[])(hv:eg e t=some (ptr b 0))
 (hb:jR (SS I H) b (.cells cs.toArray W fr))(N:∀w,(isAgg T).run A.P w= .ok true w)(O:∀w,(sizeOf T).run A.P w= .ok n w)(hn:cs.length=n)(hp:G (.returned (.agg cs.toArray)) I H'):
 Ej A (bodyPost A.P fn (RR A.w0 A.D A.I0 G)) .ret e I H:=by
 intro a w Q S;refine⟨Q.defs.trans M,_,?_,I,H',S.sublist Z,hp⟩;have h1:=Q.get t _ hv;have hc:∀j v,cs[j]?=some v→w.cell? ((⟨b,0,none⟩:Addr).add j)=some v:=fun j v hj=>by
  rw[aV];exact cell_of_heap (hb w S.ss) (by simpa using hj)
 have h2:=run_loadCells_list (P:=A.P) (w:=w) ⟨b,0,none⟩ cs hc;rw[hn]at h2;simp[results,hr,h1,asAddr,loadVar,N,O,h2]
theorem St.forget{w0 w D I0 I H}(h:St w0 D I0 I H w):St w0 D I0 I0 H w:=
 ⟨h.os,h.tape,h.output,h.size,h.frm,fun b o A=>h.sub b o (h.le b o A),h.own,h.nodup,fun p G=>(by
  cases hi:I0 p.1 with
  |none=>rfl
  |some o=>(have:=h.dis p G;rw[h.le _ _ hi]at this;cases this)),h.new,fun _ _=>rfl,Le.refl _,WU⟩
theorem jO.forget{P f args I H}{G A:Ending→Heap→HL→Prop}(h:jO P f args I H G)
 (O:∀e M H',Le I M→G e M H'→A e I H'):jO P f args I H A:=
 ⟨h.1,fun w Q=>(h.2 w Q).mono fun e _ ⟨M,H',N,S⟩=>⟨I,H',N.forget,O e M H' N.le S⟩⟩
theorem jO.toPure{P f args I v}(h:jO P f args I [] (fun e _ H'=>e= .returned v∧H'=[])):Pure P f args I v:=
 h.forget fun _ _ _ _ ⟨h1,h2⟩=>⟨h1,rfl,h2⟩
open Go
abbrev Gs:=Option (Nat×Nat×List Value)
def gH (E:TypeId) (xs:List Value):Gs→HL
 |none=>[]
 |some (b,_,sp)=>[(b,jM E (xs++sp))]
def gV (n:Nat):Gs→Value
 |none=> .slice none 0 0
 |some (b,c,_)=> .slice (some ⟨b,0,none⟩) n c
def kZ (base sz n:Nat) (xs:List Value):Gs→Prop
 |none=>n=0∧xs=[]
 |some (b,c,sp)=>base≤b∧xs.length=n*sz∧xs.length+sp.length=c*sz
theorem kZ.len{base sz n xs g}(h:kZ base sz n xs g):xs.length=n*sz:=by
 cases g with
 |none=>obtain⟨rfl,rfl⟩:=h;simp
 |some p=>exact h.2.1
theorem kZ.some{base sz n xs g}(h:kZ base sz n xs g)(A:0<n):∃b c sp,g= .some (b,c,sp)∧base≤b:=by
 cases g with
 |none=>obtain⟨rfl,_⟩:=h;omega
 |some p=>exact⟨p.1,p.2.1,p.2.2,rfl,h.1⟩
theorem b2b{α:Type}(xs sp:List α) k:(xs++sp).drop (xs.length+k)=sp.drop k:=by
 rw[←fO,List.drop_left]
theorem a7a A:∀(r c:Nat),c≤2*A+768→fP A r c≤2*A+768
 |0,c,h=>h
 |r+1,c,h=>by
  unfold fP
  split
  ·exact h
  exact a7a A r _ oM
theorem a8m A cap (h:cap<A):bW A cap≤2*A+768:=by
 unfold bW
 split
 ·omega
 split
 ·omega
 exact a7a A 4 cap oM
theorem EI{P w b off n}{cs xs:List Value}{t fr}(h:w.heap[b]?=some (.cells cs.toArray t fr))(G:(cs.drop off).take n=xs)(M:xs.length=n):
 (loadCells ⟨b,off,none⟩ n).run P w= .ok xs.toArray w:=by
 have N:∀j v,xs[j]?=some v→w.cell? ((⟨b,off,none⟩:Addr).add j)=some v:=fun j v A=>by
  rw[aV];refine cell_of_heap h ?_;rw[←G,cZ]at A
  split at A
  ·simpa[dA]using A
  cases A
 have:=run_loadCells_list (P:=P) (w:=w) ⟨b,off,none⟩ xs N
 rwa [M]at this
def Src (P:Program) (I:Heap) (H:HL) (sz m:Nat) (y:Value) (ys:List Value):Prop:=
 ys.length=m*sz∧ys.all bZ=true∧(∀w,SS I H w→(gG y).run P w= .ok m w)∧∀w,SS I H w→(aJ sz m y).run P w= .ok ys.toArray w
theorem Src.slice{P I H sz m b off c}{cs ys:List Value}{t fr}(G:jR (SS I H) b (.cells cs.toArray t fr))(M:(cs.drop off).take (m*sz)=ys)(A:ys.length=m*sz)(h1:ys.all bZ=true):
 Src P I H sz m (.slice (some ⟨b,off,none⟩) m c) ys:=
 ⟨A,h1,fun _ _=>rfl,fun w N=>by
  simp only[aJ];exact EI (G w N) M A⟩
theorem Src.nil{P I H sz c p}:Src P I H sz 0 (.slice p 0 c) []:=
 ⟨sI,rfl,fun _ _=>rfl,fun w _=>by
  cases p<;>simp[aJ,loadCells,loadCellsFrom]⟩
def mQ (l:List UInt8):List Value:=l.map fun c=>u8 c
theorem Src.str{P:Program}{I:Heap}{H:HL}{l:List UInt8}:Src P I H 1 l.length (str l) (mQ l):=by
 refine⟨by simp[mQ],by simp[mQ,bZ],fun _ _=>by simp[gG,Sx.str,size_mk],fun w _=>?_⟩;have A:(⟨l.toArray⟩:ByteArray).extract 0 l.length=⟨l.toArray⟩:=by
  apply ByteArray.ext
  simp[dV]
 simp only[aJ,Sx.str,A,aI,mQ];simp
theorem ext_cons{e d v}(h:eg e d=some v):∀t u,eg ((d,v)::e) t=some u→eg e t=some u:=fun t u A=>by
 rw[TQ]at A
 by_cases hk:d=t
 ·subst hk;simp at A;subst A;exact h
 simpa[hk]using A
theorem Has.ext{a n e e' ds}(h:Has a n e ds)(A:∀t u,eg e' t=some u→eg e t=some u):Has a n e' ds:=⟨h.size,h.defs,fun t v G=>h.get t v (A t v G)⟩
theorem Cj.ext{A Q e e' I H c}(G:∀t u,eg e' t=some u→eg e t=some u)(h:Cj A Q c e' I H):Cj A Q c e I H:=fun a w M h1=>h a w (M.ext G) h1
theorem J.ext{G Q e e' I H A l}(M:∀t u,eg e' t=some u→eg e t=some u)(h:J G Q A l e' I H):J G Q A l e I H:=fun a w N h1=>h a w (N.ext M) h1
section
variable {cx:Cx} {Q:Qt} {o:Oper} {e:Env} {I:Heap} {H:HL} {C:Ct} {S:World→Prop}
theorem tV{T E d sz by' n m} base (a1:base≤cx.w0.heap.size){x y U g xs ys yv z} R (ho:o.op= .call ⟨.builtin .append,#[x,y],#[T,U]⟩)(hd:o.dst=some d)(hn:aO d cx.n=true)
 (hx:ev e x=some (gV n g))(hy:ev e y=some yv)(hu:cx.P.underlying T=some (.slice E))(hU:cx.P.underlying U=some .string∨∃E',cx.P.underlying U=some (.slice E'))
 (a2:(cx.P.info? E).map (·.bytes)=some (by'+1))(a8:∀w,(sizeOf E).run cx.P w= .ok sz w)(hz:∀w,(zeroValue E).run cx.P w= .ok z w)(a9:z.cells.size=sz)
 (hg:kZ base sz n xs g)(hH:H=R++gH E xs g)(hs:Src cx.P I H sz m yv ys)(au:(2*(n+m)+768)*(by'+1)≤281474976710656)
 (k:∀S,kZ base sz (n+m) (xs++ys) S→C ((d,gV (n+m) S)::e) I (R++gH E (xs++ys) S)):mF cx Q o e I H C:=by
 intro K hK a w ha M;obtain⟨N,ai,aa,ab⟩:=hs;obtain⟨i,hi,aj⟩:∃i,cx.P.info? E=some i∧i.bytes=by'+1:=by
  cases h:cx.P.info? E with
  |none=>rw[h]at a2;cases a2
  |some i=>rw[h]at a2;exact⟨i,rfl,by simpa using a2⟩
 have a3:=M.ss;have av:=hg.len;unfold Oper.wp;have key:∃w' S,(execOp a.eval o).run cx.P w= .ok (.value (gV (n+m) S)) w'∧kZ base sz (n+m) (xs++ys) S∧St cx.w0 cx.D cx.I0 I (R++gH E (xs++ys) S) w':=by
  have al:∀w',(typeInfo E).run cx.P w'= .ok i w':=fun w'=>by simp[typeInfo,hi]
  have ac:∀(G:Option Addr) (c:Nat),gV n g= .slice G n c→(execOp a.eval o).run cx.P w=
   ((bD #[T,U] o.type #[.slice G n c,yv]).run cx.P w).andThen fun v w'=> .ok (.value v) w':=by
   intro G c hv;simp only[execOp,ho,resolve,invoke,builtin,aG,aI,aA,fF,bK,List.map_nil,ha.eval hx,ha.eval hy,hv]
  have a4:∀(G:Option Addr) (c:Nat),n+m≤c→(bD #[T,U] o.type #[.slice G n c,yv]).run cx.P w=
   (match G with
    |some a=>(storeCells (a.add (n*sz)) ys).run cx.P w
    |none=> .ok () w).andThen fun _ w'=> .ok (.slice G (n+m) c) w':=by
   intro G c A;rcases hU with Z|⟨E',Z⟩<;>cases G<;>simp[bD,run_underlying hu,run_underlying Z,a8,aa w a3,ab w a3,A]
  have grows:∀(G:Option Addr) (c:Nat) (a5:Array Value),¬n+m≤c→c<n+m→(∀w',SS I H w'→(aJ sz n (.slice G n c)).run cx.P w'= .ok a5 w')→
   (bD #[T,U] o.type #[.slice G n c,yv]).run cx.P w=
    let cap:=(aT (n+m) c E).cut (w.tape w.drawn (.appendCap (n+m) c E))
    .ok (.slice (some ⟨w.heap.size,0,none⟩) (n+m) cap) { { w with drawn:=w.drawn+1 }with heap:=w.heap.push (.cells (a5++ys.toArray++aB z.cells (cap-(n+m))) E (0,0)) }:=by
   intro G c a5 A hc a0;have am:¬(2 ^ 48<bW (n+m) c*i.bytes):=by
    have:=a8m (n+m) c hc;rw[aj];have h2:=eG (by'+1) this;have h3:(2:Nat) ^ 48=281474976710656:=dE;omega
   have an:¬i.bytes=0:=oM;have a6:SS I H { w with drawn:=w.drawn+1 }:=a3;rcases hU with Z|⟨E',Z⟩<;>simp only[bD,List.getElem?_toArray,List.getElem?_cons_zero,dP,aG,aI,run_underlying hu,run_underlying Z,aA,a8,aa w a3,bG,if_false,Sem.run_ite,A,al,am,an,false_or,and_false,gt_iff_lt,run_choose,fK,run_askRoom,a0 _ a6,Bool.not_false,if_true,ab _ a6,hz,newRow,run_newObj]
  cases g with
  |none=>
   obtain⟨rfl,rfl⟩:=hg;rw[ac none 0 rfl];have ao:∀w',SS I H w'→(aJ sz 0 (.slice none 0 0)).run cx.P w'= .ok #[] w':=fun w' _=>by simp[aJ]
   by_cases hm:m=0
   ·subst hm;have ap:ys=[]:=bI.1 (by simpa using N);subst ap;refine⟨w,none,?_,⟨sI,sI⟩,by simpa[gH,hH]using M⟩;rw[a4 none 0 oM];simp[gV]
   rw[grows none 0 #[] oM oM ao]
   let cap:=(aT (0+m) 0 E).cut (w.tape w.drawn (.appendCap (0+m) 0 E))
   refine⟨{ { w with drawn:=w.drawn+1 }with heap:=w.heap.push (.cells (#[]++ys.toArray++aB z.cells (cap-(0+m))) E (0,0)) },some (w.heap.size,cap,(aB z.cells (cap-(0+m))).toList),?_,?_,?_⟩
   ·rfl
   ·have ad:m≤cap:=by simp only[cap,gK];omega
    refine⟨bU a1 M.size,by simp[N],?_⟩;simp only[aB,eP,fQ,fG,fJ,N,a9];rw[←aW]
    congr 1;omega
   have h0:=(M.drewN (w.drawn+1)).alloc (.cells (#[]++ys.toArray++aB z.cells (cap-(0+m))) E (0,0));have W:(fU (#[]++ys.toArray++aB z.cells (cap-(0+m))) E (0,0))=jM E ([]++ys++(aB z.cells (cap-(0+m))).toList):=by
    simp[jM]
   rw[W]at h0 ⊢;subst hH;simp only[gH,List.append_nil]at h0 ⊢;refine h0.perm ?_;exact eF
  |some p=>
   obtain⟨b,c,sp⟩:=p;obtain⟨aq,O,_⟩:=hg;rw[ac (some ⟨b,0,none⟩) c rfl];have a7:(b,jM E (xs++sp))∈H:=by rw[hH];simp[gH]
   have ae:=M.own _ a7
   by_cases A:n+m≤c
   ·rw[a4 _ _ A];have aw:ys.length≤sp.length:=by
     have:(n+m)*sz≤c*sz:=eG sz A;rw[aW]at this;omega
    have af:oD (xs++sp) (n*sz+0) ys (xs++ys++sp.drop ys.length):=by
     refine⟨by simp only[dD];omega,?_⟩;rw[Nat.add_zero,←O,fM rfl,b2b]
    have ag:=rC (P:=cx.P) (b:=b) (off:=n*sz) (t:=E) ys 0 w (xs++sp) ae (.inl rfl) (by simp only[dD];omega) (fun u hu=>(bM.1 ai) u hu) _ af;refine⟨World.block w b (.cells (xs++ys++sp.drop ys.length).toArray E (0,0)),some (b,c,sp.drop ys.length),?_,?_,?_⟩
    ·simp only[aA,aV,Nat.zero_add,ag,gV]
    ·exact⟨aq,by simp[O,N,aW],by simp;omega⟩
    subst hH;have ah:(R++gH E xs (some (b,c,sp)))[R.length]?=some (b,jM E (xs++sp)):=by simp[gH]
    have hset:lS (R++gH E xs (some (b,c,sp))) R.length (b,jM E (xs++ys++sp.drop ys.length)) (R++gH E (xs++ys) (some (b,c,sp.drop ys.length))):=by
     refine⟨by simp[gH],?_⟩;rw[bP _ _ (cO _)];simp[gH]
    exact M.block ah hset
   have a0:∀w',SS I H w'→(aJ sz n (.slice (some ⟨b,0,none⟩) n c)).run cx.P w'= .ok xs.toArray w':=fun w' ar=>
    EI (cs:=xs++sp) (ar.2 _ a7) (by rw[List.drop_zero,←O,fM];rfl) O
   rw[grows _ _ _ A oM a0]
   let cap:=(aT (n+m) c E).cut (w.tape w.drawn (.appendCap (n+m) c E))
   refine⟨{ { w with drawn:=w.drawn+1 }with heap:=w.heap.push (.cells (xs.toArray++ys.toArray++aB z.cells (cap-(n+m))) E (0,0)) },some (w.heap.size,cap,(aB z.cells (cap-(n+m))).toList),?_,?_,?_⟩
   ·rfl
   ·have ad:n+m≤cap:=by simp only[cap,gK];omega
    refine⟨bU a1 M.size,by simp[O,N,aW],?_⟩;simp only[aB,eP,fQ,fG,dD,O,N,a9];rw[←aW,←aW]
    congr 1;omega
   have h0:=(M.drewN (w.drawn+1)).alloc (.cells (xs.toArray++ys.toArray++aB z.cells (cap-(n+m))) E (0,0));have W:(fU (xs.toArray++ys.toArray++aB z.cells (cap-(n+m))) E (0,0))=jM E (xs++ys++(aB z.cells (cap-(n+m))).toList):=by
    simp[jM]
   rw[W]at h0 ⊢;subst hH;have h1:=h0.sublist (H':=(w.heap.size,jM E (xs++ys++(aB z.cells (cap-(n+m))).toList))::R) (dX _ (List.sublist_append_left _ _));refine h1.perm ?_;exact eF
 obtain⟨w',S,h1,h2,h3⟩:=key;rw[h1];simp only[aP,hd];exact hK _ _ _ (k S h2) _ _ (ha.put hn) h3
theorem kK{T E d sz by' n m x y U g xs ys M z} R (W:o.op= .call ⟨.builtin .append,#[x,y],#[T,U]⟩)(Z:o.dst=some d)(hn:aO d cx.n=true)
 (hx:ev e x=some (gV n g))(hy:ev e y=some M)(hu:cx.P.underlying T=some (.slice E))(hU:cx.P.underlying U=some .string∨∃E',cx.P.underlying U=some (.slice E'))
 (N:(cx.P.info? E).map (·.bytes)=some (by'+1))(O:∀w,(sizeOf E).run cx.P w= .ok sz w)(hz:∀w,(zeroValue E).run cx.P w= .ok z w)(S:z.cells.size=sz)
 (hg:kZ cx.w0.heap.size sz n xs g)(hH:H=R++gH E xs g)(hs:Src cx.P I H sz m M ys)(A:(2*(n+m)+768)*(by'+1)≤281474976710656)
 (k:∀G,kZ cx.w0.heap.size sz (n+m) (xs++ys) G→C ((d,gV (n+m) G)::e) I (R++gH E (xs++ys) G)):mF cx Q o e I H C:=
 tV cx.w0.heap.size (cO _) R W Z hn hx hy hu hU N O hz S hg hH hs A k
theorem J.eqv{A l} d {v G}(M:eg e d=some v)(h:v=G)(k:J cx Q A l ((d,G)::e) I H):J cx Q A l e I H:=
 J.ext (e':=(d,G)::e) (ext_cons (h▸M)) k
theorem JA.eqv{N A Z z l M G} d {v O}(S:eg e d=some v)(h:v=O)(k:JA cx Q l N A Z z M G ((d,O)::e) I H):JA cx Q l N A Z z M G e I H:=
 fun a w W hs=>k a w (W.ext (ext_cons (h▸S))) hs
theorem Cj.eqv{c} d {v A}(G:eg e d=some v)(h:v=A)(k:Cj cx Q c ((d,A)::e) I H):Cj cx Q c e I H:=
 Cj.ext (e':=(d,A)::e) (ext_cons (h▸G)) k
theorem a2Y{T}{parts:List (Nat×Operand)}{vs v}(A:o.op= .build T parts.toArray)(G:evs e (parts.map (·.2))=some vs)
 (M:∀w,(gQ T ((parts.map (·.1)).zip vs).toArray).run cx.P w= .ok v w):kX cx o e S v:=by
 intro a w N _;have O:(parts.toArray.map fun(i,x)=>(i,a.eval x))=((parts.map (·.1)).zip vs).toArray:=by
  have:=N.CP G;rw[←this];simp[gB,dN]
 simp only[execOp,A,aG,O,M,aA,aI]
structure pR (pl:Array (Nat×Nat)) (cs:List Value) (parts:List (Nat×Value)) (cs':List Value):Prop where
  eq:Instr.fill (pl[·]?) cs.toArray parts=some cs'.toArray
theorem pR.none{pl cs}:pR pl cs [] cs:=⟨rfl⟩
theorem pR.part{pl cs vs A G i off sz v r}(h1:pl[i]?=some (off,sz))(h2:v.cells=vs.toArray)(h3:vs.length=sz)(N:oD cs off vs A)(O:pR pl A r G):
 pR pl cs ((i,v)::r) G:=by
 refine⟨?_⟩;simp only[dJ,h1,h2];obtain⟨_,Q⟩:=N;rw[zD (by simp;omega)];have M:=RP vs 0 (cs.take off) ((cs.drop off).take vs.length) (cs.drop (off+vs.length)) off (by simp;omega) (by simp;omega);have S:cs.take off++(cs.drop off).take vs.length++cs.drop (off+vs.length)=cs:=by
  rw[dI,←fO,bQ,bQ]
 rw[S,←Q]at M;have W:vs.toArray.zipIdx.foldl (fun cs (x:Value×Nat)=>cs.setIfInBounds (off+x.2) x.1) cs.toArray=A.toArray:=by
  rw[←eY,eH];exact M
 rw[W];exact O.eq
theorem jX{T}{parts:List (Nat×Operand)}{vs zs cs z fs pl}(M:o.op= .build T parts.toArray)(N:evs e (parts.map (·.2))=some vs)
 (O:∀w,(zeroValue T).run cx.P w= .ok z w)(A:z.cells=zs.toArray)(Q:cx.P.underlying T=some (.struct fs))
 (G:∀w,(fs.mapM (m:=Sem) fun f=>do pure (f.offset,←sizeOf f.type)).run cx.P w= .ok pl w)(W:pR pl zs ((parts.map (·.1)).zip vs) cs):kX cx o e S (.agg cs.toArray):=
 a2Y M N fun w=>by
  simp only[gQ,aG,O,A,run_underlying Q,aA,G];rw[W.eq];rfl
theorem uN{x y ts k p q}(G:o.op= .call ⟨.builtin .min,#[x,y],ts⟩)(M:ev e x=some (.int k p))(N:ev e y=some (.int k q)):kX cx o e S (.int k (if q<p then q else p)):=by
 intro a w A _;simp[execOp,G,resolve,invoke,builtin,Builtin.min_,Builtin.min2,A.eval M,A.eval N]
theorem yS{x y ts k p q}(G:o.op= .call ⟨.builtin .max,#[x,y],ts⟩)(M:ev e x=some (.int k p))(N:ev e y=some (.int k q)):kX cx o e S (.int k (if q>p then q else p)):=by
 intro a w A _;simp[execOp,G,resolve,invoke,builtin,Builtin.max_,Builtin.max2,A.eval M,A.eval N]
theorem tH{x y T t b off} i {cs:List Value}{v H' fr}(ho:o.op= .store T x y)(hd:o.dst=none)(hx:ev e x=some (ptr b off))(hy:ev e y=some v)
 (hv:v.cells= #[v])(h1:v.oneCell'=true)(N:∀w,(sizeOf T).run cx.P w= .ok 1 w)(O:H[i]?=some (b,.cells cs.toArray t fr))(S:fr=(0,0)∨cs.length≤fr.1)(A:off<cs.length)
 (W:lS H i (b,.cells (cs.set off v).toArray t fr) H')(k:C e I H'):mF cx Q o e I H C:=by
 intro K hK a w G Z;unfold Oper.wp;have hb:=Z.own _ (aK O);have M:oD cs (off+0) [v] (cs.set off v):=by
  refine⟨by simp;omega,?_⟩;rw[List.set_eq_take_append_cons_drop];simp[A]
 have a0:=rC (P:=cx.P) (t:=t) [v] 0 w cs hb S (by simp;omega) (fun u hu=>by simp at hu;subst hu;exact h1) _ M;have:(execOp a.eval o).run cx.P w= .ok .skip (World.block w b (.cells (cs.set off v).toArray t fr)):=by
  simp[execOp,ho,fZ,bH,G.eval hx,G.eval hy,storeVar,hv,N,a0]
 rw[this];simp only[aP,hd];exact hK _ _ _ k _ _ G.AZ (Z.block O W)
theorem wX l:(mQ l).length=l.length:=by simp[mQ]
theorem EW{N T E d x l}(S:o.op= .convert N T x)(Z:o.dst=some d)(hn:aO d cx.n=true)(hx:ev e x=some (str l))
 (hS:cx.P.underlying N=some .string)(hT:cx.P.underlying T=some (.slice E))(hE:cx.P.underlying E=some (.int .u8))
 (k:∀b c sp fr,cx.w0.heap.size≤b→(mQ l++sp).length≤fr→C ((d,.slice (some ⟨b,0,none⟩) l.length c)::e) I ((b,.cells (mQ l++sp).toArray E (fr,fr+1))::H)):mF cx Q o e I H C:=by
 intro K hK a w O G;unfold Oper.wp
 let cap:=(aT l.length 0 E).cut (w.tape w.drawn (.appendCap l.length 0 E))
 let sp:List Value:=List.replicate (cap-l.length) (.int .u8 0)
 have M:(execOp a.eval o).run cx.P w= .ok (.value (.slice (some ⟨w.heap.size,0,none⟩) l.length cap))
  { { w with drawn:=w.drawn+1 }with heap:=w.heap.push (.cells (mQ l++sp).toArray E ((mQ l++sp).length,(mQ l++sp).length+1)) }:=by
  simp only[execOp,S,convert,O.eval hx,str,aG,run_underlying hS,run_underlying hT,aA,run_underlying hE,Conv.stringToBytes,size_mk,run_choose,fK,newRow,run_newObj,bG,if_false,markStringish,run_shape,aI];simp only[World.shape?,Array.getElem?_push_size,run_freeze,aA,World.freeze];have h0:(Array.map (fun b:UInt8=>fA IntKind.u8 ↑b.toNat) l.toArray++dQ (cap-l.length) (fA IntKind.u8 0))=(mQ l++sp).toArray:=by
   simp[mQ,sp]
  have h1:∀(A:Array Obj) (o o':Obj) (f:Obj→Obj),f o=o'→(A.push o).modify A.size f=A.push o':=by
   intro A o o' f hf
   apply dB
   intro j;rw[dZ,bC,bC]
   by_cases hj:A.size=j
   ·subst hj;simp[hf]
   simp[hj,Ne.symm hj]
  simp only[Nat.one_ne_zero,if_false];refine zC (fun W:World=>(Result.ok (Next.value (.slice (some ⟨w.heap.size,0,none⟩) l.length cap)) W:Result Next)) ?_;refine zC (fun H:Array Obj=>({ heap:=H,tape:=w.tape,drawn:=w.drawn+1,os:=w.os,output:=w.output }:World)) ?_;refine h1 _ _ _ _ ?_;rw[show(Array.map (fun b:UInt8=>fA IntKind.u8 ↑b.toNat) l.toArray++dQ ((aT l.length 0 E).cut (w.tape w.drawn (aT l.length 0 E))-l.length) (fA IntKind.u8 0))=(mQ l++sp).toArray from h0];simp
 rw[M];simp only[aP,Z];exact hK _ _ _ (k w.heap.size cap sp _ G.size (cO _)) _ _ (O.put hn) ((G.drewN (w.drawn+1)).alloc _)
theorem uJ{G T E x} l {b off c n}{cs:List Value}{t fr}(M:o.op= .convert G T x)(N:ev e x=some (.slice (some ⟨b,off,none⟩) n c))(O:l.length=n)
 (Q:cx.P.underlying G=some (.slice E))(W:cx.P.underlying T=some .string)(Z:cx.P.underlying E=some (.int .u8))(hb:jR S b (.cells cs.toArray t fr))(hl:(cs.drop off).take l.length=mQ l):
 kX cx o e S (str l):=by
 intro a w ha hs;subst O;have hc:∀j v,(mQ l)[j]?=some v→w.cell? ((⟨b,off,none⟩:Addr).add j)=some v:=fun j v A=>by
  rw[aV];refine cell_of_heap (hb w hs) ?_;rw[←hl,cZ]at A
  split at A
  ·simpa[dA]using A
  cases A
 have h1:=run_loadCells_list (P:=cx.P) (w:=w) ⟨b,off,none⟩ (mQ l) hc;have h2:=run_bytesToString (P:=cx.P) w ⟨b,off,none⟩ l.length c (l.map fun u=>(u.toNat:Int)) (by
  rw[show(mQ l).length=l.length by simp[mQ]]at h1;rw[h1];simp[mQ,dN])
 have h3:(l.map fun u=>(u.toNat:Int)).foldl (fun r n=>r.push (gU n.toNat)) ByteArray.empty=⟨l.toArray⟩:=by
  rw[foldl_push_bytes]
  apply ByteArray.ext
  simp[dN];have:(fun x=>gU x)∘UInt8.toNat=id:=by funext x;simp
  first|simp[Function.comp_def]|rw[this,List.map_id]
 simp only[execOp,M,aG,ha.eval N,run_convert_bytes_string w G T E _ l.length c Q Z W,h2,h3,aA,aI,str]
end
end Go.Sx
end
namespace Go.Sx
open Go
section
variable {cx:Cx} {Q:Qt} {e:Env} {I I1:Heap} {H A:HL} {Z:CL} {z:Nat} {ops:Array Oper} {l:List Oper} {o:Oper} {C:Ct} {S:World→Prop} {fuel:Nat} {listed:Array Bool}
variable [DR]
theorem J.mv{d:Nat}{x:Operand}{v:Value}(k:J cx Q ops l ((d,v)::e) I H)(A:o.op= .move x:=by rfl)(G:ev e x=some v:=by rfl)(M:o.guard=none:=by rfl)(N:o.dst=some d:=by rfl)(O:Nat.blt d cx.n=true:=by rfl):J cx Q ops (o::l) e I H:=J.z (a0S A G) k M N O
theorem J.as{d:Nat}{x:Operand}{v:Value}(k:J cx Q ops l ((d,v)::e) I H)(A:o.op= .assign x:=by rfl)(G:ev e x=some v:=by rfl)(M:o.guard=none:=by rfl)(N:o.dst=some d:=by rfl)(O:Nat.blt d cx.n=true:=by rfl):J cx Q ops (o::l) e I H:=J.z (tC A G) k M N O
theorem J.ns{y}(h:Cj cx Q y e I H):J cx (Exit.then (y.wpIn cx.F 0 cx.P Q) Q) ops [] e I H:=J.nil (Ej.seq h)
theorem Cj.sr{id y}(h:J cx (Exit.then (y.wpIn cx.F 0 cx.P Q) Q) l.toArray l e I H):Cj cx Q (.seq (.region id l.toArray false) y) e I H:=Cj.seq (Cj.region h)
theorem J.nss{x y}(h:Cj cx (Exit.then (y.wpIn cx.F 0 cx.P Q) Q) x e I H):J cx (Exit.then ((Code.seq x y).wpIn cx.F 0 cx.P Q) Q) ops [] e I H:=J.ns (Cj.seq h)
theorem J.a8c{x y u}(h:Cj cx (Exit.then (u.wpIn cx.F 0 cx.P (Exit.then (y.wpIn cx.F 0 cx.P Q) Q)) (Exit.then (y.wpIn cx.F 0 cx.P Q) Q)) x e I H):J cx (Exit.then ((Code.seq (Code.seq x u) y).wpIn cx.F 0 cx.P Q) Q) ops [] e I H:=J.nss (Cj.seq h)
theorem J.nsr{id}(h:J cx Q l.toArray l e I H):J cx (Exit.then ((Code.region id l.toArray false).wpIn cx.F 0 cx.P Q) Q) ops [] e I H:=J.ns (Cj.region h)
theorem J.yC{id y}(h:J cx (Exit.then (y.wpIn cx.F 0 cx.P Q) Q) l.toArray l e I H):J cx (Exit.then ((Code.seq (Code.region id l.toArray false) y).wpIn cx.F 0 cx.P Q) Q) ops [] e I H:=J.nss (Cj.region h)
theorem J.cd{c:Operand}{x y:Code}{t:Bool}(h1:t=true→Cj cx Q x e I H)(h2:t=false→Cj cx Q y e I H)(A:ev e c=some (.bool t):=by exact rfl):J cx (Exit.then ((Code.cond c x y).wpIn cx.F 0 cx.P Q) Q) ops [] e I H:=J.ns (Cj.cond A h1 h2)
theorem J.c0{c:Operand}{x y:Code}{t:Bool}(h2:t=false→Cj cx Q y e I H)(A:ev e c=some (.bool t):=by exact rfl)(G:t=false:=by exact rfl):J cx (Exit.then ((Code.cond c x y).wpIn cx.F 0 cx.P Q) Q) ops [] e I H:=J.ns (Cj.cond A (fun h=>fH (Eq.trans (Eq.symm G) h)) h2)
theorem J.c1{c:Operand}{x y:Code}{t:Bool}(h1:t=true→Cj cx Q x e I H)(A:ev e c=some (.bool t):=by exact rfl)(G:t=true:=by exact rfl):J cx (Exit.then ((Code.cond c x y).wpIn cx.F 0 cx.P Q) Q) ops [] e I H:=J.ns (Cj.cond A h1 (fun h=>fH (Eq.trans (Eq.symm G) h)))
theorem J.sk j d t {A b}(G:b= !A)(h:J cx Q ops l ((t,undef)::e) I H)(M:o.guard=some (j,A):=by rfl)(N:(ops[j]?).bind (·.dst)=some d:=by rfl)(O:eg e d=some (.bool b):=by rfl)(S:o.dst=some t:=by rfl)(W:Nat.blt t cx.n=true:=by rfl):J cx Q ops (o::l) e I H:=J.skip j d t A b M N O G S W h
theorem JA.mv(i:Nat){d:Nat}{x:Operand}{v:Value}(G:xJ I1 A Z I H)(k:JA cx Q l I1 A Z z fuel (listed.setIfInBounds i true) ((d,v)::e) I H)(M:l.toArray[i]?=some o:=by rfl)(N:o.op= .move x:=by rfl)(O:ev e x=some v:=by rfl)(S:o.dst=some d:=by rfl)(W:o.guard=none:=by rfl)(hn:Nat.blt d cx.n=true:=by rfl)(hz:JM l.toArray listed z i=true:=by first|rfl|kernel_rfl)
 (hs:Region.noSelect l.toArray=true:=by kernel_rfl)(hf:Region.free .any l.toArray listed i=true:=by kernel_rfl)(hr:(Region.ready .any l.toArray listed).contains i=true:=by kernel_rfl)(hq:∀c a w,Q (.panic c) (a.put (some d) v) w→Q (.panic c) a w:=by exact fun _ _ _ h=>h):JA cx Q l I1 A Z z (fuel+1) listed e I H:=JA.tk i M G (a0S N O) k S W hn hz hs hf hr hq
theorem b7t{x T k b off m fs f} off' (M:cx.P.underlying T=some (.struct fs))(G:∀w,(sizeOf f.type).run cx.P w= .ok (m+1) w)(N:o.op= .fieldAddr T x k:=by rfl)(O:ev e x=some (ptr b off):=by rfl)(Q:fs[k]?=some f:=by rfl)(A:off+f.offset=off':=by rfl):kX cx o e S (ptr b off'):=GR N O M Q G A
theorem fx0{I H}:Le I I∧HSub [] H∧CSub [] H:=⟨Le.refl _,HSub.n,CSub.n⟩
theorem fx1{I H}:xJ I [] [] I H:=⟨HSub.n,CSub.n,Le.refl _⟩
theorem Cj.xl{K:Act→World→Prop}{ι:Type}{A:ι→Prop}{μ M G N O id y}(h:Cj cx Q y e I H):Cj cx (Exit.then K (ZR cx (aN id (Exit.then (y.wpIn cx.F 0 cx.P Q) Q)) A μ M G N O)) (.exit id) e I H:=Cj.exit (Ej.a0L (Ej.XA (Ej.TV (Ej.seq h))))
theorem Cj.ks{y}(h:Cj cx Q y e I H):Cj cx (Exit.then (y.wpIn cx.F 0 cx.P Q) Q) .skip e I H:=Cj.skip (Ej.seq h)
theorem Cj.kb{id y}(h:Cj cx Q y e I H):Cj cx (aN id (Exit.then (y.wpIn cx.F 0 cx.P Q) Q)) .skip e I H:=Cj.skip (Ej.yU (Ej.seq h))
theorem J.nb{id y}(h:Cj cx Q y e I H):J cx (aN id (Exit.then (y.wpIn cx.F 0 cx.P Q) Q)) ops [] e I H:=J.nil (Ej.yU (Ej.seq h))
theorem Cj.rs{K:Act→World→Prop}(h:Ej cx Q .ret e I H):Cj cx (Exit.then K Q) .ret e I H:=Cj.ret (Ej.LQ h)
end
theorem jO.ob[DR]{P f fn c args I H}{A:Ending→Heap→HL→Prop}(M:P.funcs[f]?=some fn)(h:∀w0,Ready I H w0→Cj ⟨P,fn.ntmps,w0,H.map (·.1),I,[],none⟩ (bodyPost P fn (RR w0 (H.map (·.1)) I A)) c (uQ 0 args) I H)(N:fn.body=some c:=by rfl)(G:fn.name≠ "runtime.NumGoroutine" :=by decide)(O:args.length≤fn.ntmps:=by exact Nat.le_of_ble_eq_true rfl):jO P f args I H A:=jO.a6i M N G O h
