/-
  Own texts on the laws of the seat, joined: the logic, and contracts of functions. Conditions: none.
-/
import Derived.WalkKit
import Derived.OrdersHeld
import Derived.Deep.LoopGhost
import Derived.TacticsIn
import Derived.OrdersIn
import Derived.KernelRfl
set_option linter.all false
set_option maxRecDepth 100000
set_option maxHeartbeats 40000000
abbrev zA:=@of_decide_eq_true
abbrev zB:=@eq_of_beq
abbrev zC:=@congrArg
abbrev zD:=@if_neg
abbrev zF:=@if_pos
abbrev zG:=@decide_eq_true_eq
abbrev zH:=@decide_eq_true
abbrev zI:=@decide_eq_false
open Go.Result renaming andThen_ok -> aA
open Go.Builtin renaming zeroCells -> aB,firstCells -> aJ,append_ -> bD,nextslicecap -> bW,growBy -> fP,lenOf -> gG,len_ -> gJ
open Go.Region renaming wanted -> aC,ready -> aF,binds -> aS,noSelect -> bV,free -> dY
open Go.Sem renaming run_bind -> aG,run_pure -> aI
open Array renaming getElem?_eq_none -> aH,getElem?_push -> bC,getElem?_setIfInBounds -> bY,ext_getElem? -> dB,replicate -> dQ,getElem?_modify -> dZ,toList_zipIdx -> eH,length_toList -> eP,foldl_toList -> eY,range -> fE,size_range -> fG,size_map -> fQ
open List renaming mem_of_getElem? -> aK,mem_map_of_mem -> aQ,mem_append_right -> aX,mem_append_left -> aY,mem_map -> bF,length_eq_zero_iff -> bI,map_cons -> bK,all_eq_true -> bM,set_append_right -> bP,take_append_drop -> bQ,nodup_cons -> bT,getElem?_take -> cZ,getElem?_drop -> dA,length_append -> dD,nodup_append -> dG,flatMap_cons -> dH,append_assoc -> dI,length_cons -> dM,map_map -> dN,getElem?_cons_succ -> dP,map_append -> dR,mem_append -> dS,range' -> dW,perm_append_comm -> eF,set_cons_succ -> eX,map_toArray -> fF,nil_append -> fJ,take_left' -> fM,drop_drop -> fO,zip_map' -> gB
open Go.Exit renaming inBlock -> aN
open Nat renaming blt -> aO,lt_or_ge -> aU,add_mul -> aW,le_trans -> bU,le_refl -> cO,mul_le_mul_right -> eG,lt_of_lt_of_le -> eU,beq -> fB
open Go.Oper renaming upon -> aP,uponIn -> fC
open Go.Question renaming appendCap -> aT,forced -> fK,cut -> gK
open Go.Addr renaming add_lit -> aV
open Bool renaming and_eq_true -> aZ,false_eq_true -> bG,noConfusion -> fH
open Go.Instr renaming sureAddr -> bH,sliceBounds -> bJ,sliceAt -> dF,fill -> dJ,sliceBound -> dL,storeAt -> fZ,loadAt -> gI,build -> gQ
open Go.Value renaming oneCell' -> bZ,int -> fA
open Option renaming bind_some -> dK
open Go.Op renaming intArith -> dU,stringOp -> fD
open ByteArray renaming data_extract -> dV
open List.Sublist renaming cons_cons -> dX
open Go.Obj renaming cells -> fU
open Go.World renaming frozen? -> fV
open UInt8 renaming ofNat -> gU
theorem rT{p:Prop}(h:p:=by repeat first|refine⟨rfl,?_⟩|exact trivial|exact rfl):p:=h
theorem oM{p:Prop}(h:p:=by omega):p:=h
theorem kR{p:Prop}(h:p:=by kernel_rfl):p:=h
theorem dE{p:Prop}(h:p:=by decide):p:=h
theorem sI{p:Prop}(h:p:=by simp):p:=h
theorem dO{p:Prop}(h:p:=by dsimp only;omega):p:=h
section
set_option linter.unusedSectionVars false
namespace Go.Sx
open Go
abbrev Heap:=Nat→Option Obj
abbrev HL:=List (Nat×Obj)
abbrev Env:=List (Nat×Value)
def eg:Env→Nat→Option Value
 |[],_=>none
 |(k,v)::r,t=>bif fB k t then some v else eg r t
def ev (e:Env):Operand→Option Value
 | .tmp t=>eg e t
 | .const v=>some v
 | .global g=>some (.pointer (some ⟨g,0,none⟩))
 | .func f=>some (.func (.func f) #[] #[])
def evs (e:Env):List Operand→Option (List Value)
 |[]=>some []
 | x::r=>match ev e x,evs e r with
   |some v,some vs=>some (v::vs)
   |_,_=>none
def Sub:Env→Env→Prop
 |[],_=>True
 |(t,v)::r,e=>eg e t=some v∧Sub r e
structure Has (a:Act) (n:Nat) (e:Env) (ds:List Deferred):Prop where
  size:a.tmps.size=n
  defs:a.defers=ds
  get:∀t v,eg e t=some v→a.tmps[t]?=some v
theorem a3L k v r t:eg ((k,v)::r) t=if k=t then some v else eg r t:=by
 show(bif fB k t then some v else eg r t)=_
 by_cases h:k=t
 ·subst h;simp
 have:fB k t=false:=by
  cases hb:fB k t with
  |false=>rfl
  |true=>exact absurd (Nat.eq_of_beq_eq_true hb) h
 rw[this,zD h];rfl
theorem Sub.get:∀{e' e:Env},Sub e' e→∀t v,eg e' t=some v→eg e t=some v
 |[],_,_,t,v,h=>by simp[eg]at h
 |(k,u)::r,e,⟨h1,h2⟩,t,v,h=>by
  rw[a3L]at h
  by_cases hk:k=t
  ·subst hk;simp at h;subst h;exact h1
  simp only[hk,if_false]at h;exact Sub.get h2 t v h
section has
variable {a:Act} {n:Nat} {e:Env} {ds:List Deferred}
theorem Has.sub{e'}(h:Has a n e ds)(N:Sub e' e):Has a n e' ds:=⟨h.size,h.defs,fun t v O=>h.get t v (N.get t v O)⟩
theorem Has.eval(h:Has a n e ds){x v}(N:ev e x=some v):a.eval x=v:=by
 cases x with
 |tmp t=>
  have:=h.get t v N;simp[Act.eval,this]
 |const c=>simpa[ev,Act.eval]using N
 |global g=>simpa[ev,Act.eval]using N
 |func f=>simpa[ev,Act.eval]using N
theorem Has.WI(h:Has a n e ds):∀{xs:List Operand} {vs:List Value},evs e xs=some vs→xs.map a.eval=vs
 |[],vs,hx=>by simp[evs]at hx;subst hx;rfl
 |x::r,vs,hx=>by
  simp only[evs]at hx
  split at hx
  ·rename_i v N h1 h2
   cases hx;simp[h.eval h1,Has.WI h h2]
  cases hx
theorem Has.put(h:Has a n e ds){d v}(W:aO d n=true):Has (a.put (some d) v) n ((d,v)::e) ds:=by
 have O:d<n:=by simpa[Nat.blt_eq]using W
 refine⟨by simpa[Act.put]using h.size,by simpa[Act.put]using h.defs,fun t u N=>?_⟩;rw[a3L]at N;have Z:=h.size
 by_cases hk:d=t
 ·subst hk;simp at N;subst N;simp[Act.put,Z,O]
 simp only[hk,if_false]at N;simp[Act.put,hk];have:=h.get t u N;simpa using this
theorem Has.WE(h:Has a n e ds){v}:Has (a.put none v) n e ds:=h
end has
def NR:Nat→List Value→Env
 |_,[]=>[]
 |k,v::r=>(k,v)::NR (k+1) r
theorem a4J:∀(l:List Value) (k t:Nat) (v:Value),eg (NR k l) t=some v→k≤t∧l[t-k]?=some v
 |[],k,t,v,h=>by simp[NR,eg]at h
 |u::r,k,t,v,h=>by
  simp only[NR]at h;rw[a3L]at h
  by_cases hk:k=t
  ·subst hk;simp at h;subst h;simp
  simp only[hk,if_false]at h;obtain⟨h1,h2⟩:=a4J r (k+1) t v h;refine⟨oM,?_⟩;have:t-k=(t-(k+1))+1:=oM;rw[this];simpa using h2
theorem Has.start l n (W:l.length≤n):
 Has { tmps:=l.toArray++dQ (n-l.toArray.size) undef,defers:=[] } n (NR 0 l) []:=by
 refine⟨by simp;omega,rfl,fun t v h=>?_⟩;obtain⟨_,h2⟩:=a4J l 0 t v h;have O:t<l.length:=by
  rcases aU t l.length with N|N
  ·exact N
  simp[List.getElem?_eq_none N]at h2
 simp only[Nat.sub_zero]at h2;rw[Array.getElem?_append_left (by simpa using O)];simpa using h2
class DR where
  b:Bool
def Le (I I':Heap):Prop:=∀b o,I b=some o→I' b=some o
theorem Le.refl I:Le I I:=fun _ _ h=>h
theorem Le.trans{I J K}(h:Le I J)(k:Le J K):Le I K:=fun b o x=>k b o (h b o x)
structure St [DR] (w0:World) (D:List Nat) (I0 I:Heap) (H:HL) (w:World):Prop where
  os:w.os=w0.os
  tape:w.tape=w0.tape
  output:w.output=w0.output
  size:w0.heap.size≤w.heap.size
  frm:∀b,b<w0.heap.size→b ∉ D→w.heap[b]?=w0.heap[b]?
  sub:∀b o,I b=some o→w.heap[b]?=some o
  own:∀p∈H,w.heap[p.1]?=some p.2
  nodup:(H.map (·.1)).Nodup
  dis:∀p∈H,I p.1=none
  new:∀p∈H,p.1∈D∨w0.heap.size≤p.1
  ifr:∀b,b<w0.heap.size→I b=I0 b
  le:Le I0 I
  drw:DR.b=true→w0.drawn≤w.drawn
variable [DR]
theorem St.start w I H (h1:∀b o,I b=some o→w.heap[b]?=some o)(h2:∀p∈H,w.heap[p.1]?=some p.2)
 (h3:(H.map (·.1)).Nodup)(N:∀p∈H,I p.1=none):St w (H.map (·.1)) I I H w:=
 ⟨rfl,rfl,rfl,cO _,fun _ _ _=>rfl,h1,h2,h3,N,fun _ O=> .inl (aQ O),fun _ _=>rfl,Le.refl _,fun _=>cO _⟩
section st
variable {w0:World} {D:List Nat} {I0 I:Heap} {H:HL} {w:World}
theorem St.lt(h:St w0 D I0 I H w){p}(O:p∈H):p.1<w.heap.size:=by
 have:=h.own p O;rcases aU p.1 w.heap.size with N|N
 ·exact N
 simp[aH N]at this
theorem St.drew(h:St w0 D I0 I H w):St w0 D I0 I H { w with drawn:=w.drawn+1 }:=
 ⟨h.os,h.tape,h.output,h.size,h.frm,h.sub,h.own,h.nodup,h.dis,h.new,h.ifr,h.le,fun g=>Nat.le_succ_of_le (h.drw g)⟩
theorem St.keep{H'}(h:St w0 D I0 I H w)(O:∀p∈H',p∈H)(W:(H'.map (·.1)).Nodup):St w0 D I0 I H' w:=
 ⟨h.os,h.tape,h.output,h.size,h.frm,h.sub,fun p N=>h.own p (O p N),W,fun p N=>h.dis p (O p N),fun p N=>h.new p (O p N),h.ifr,h.le,h.drw⟩
theorem St.sublist{H'}(h:St w0 D I0 I H w)(N:H'.Sublist H):St w0 D I0 I H' w:=
 h.keep (fun _ O=>N.subset O) (h.nodup.sublist (N.map _))
theorem St.perm{H'}(h:St w0 D I0 I H w)(N:H'.Perm H):St w0 D I0 I H' w:=
 h.keep (fun _ O=>N.mem_iff.1 O) ((N.map _).nodup_iff.2 h.nodup)
theorem St.alloc(h:St w0 D I0 I H w) o:St w0 D I0 I ((w.heap.size,o)::H) { w with heap:=w.heap.push o }:=by
 have Z:∀{b:Nat} {o':Obj},w.heap[b]?=some o'→b<w.heap.size:=fun {b o'} O=>by
  rcases aU b w.heap.size with h'|h'
  ·exact h'
  simp[aH h']at O
 have W:∀{b:Nat} {o':Obj},w.heap[b]?=some o'→(w.heap.push o)[b]?=some o':=fun {b o'} O=>by
  rw[bC,zD (by have:=Z O;omega)];exact O
 refine⟨h.os,h.tape,h.output,by have:=h.size;simp;omega,fun b O hd=>?_,fun b o' O=>W (h.sub b o' O),?_,?_,?_,?_,h.ifr,h.le,h.drw⟩
 ·rw[←h.frm b O hd];show(w.heap.push o)[b]?=_;rw[bC,zD (by have:=h.size;omega)]
 ·intro p N;cases N with
  |head=>simp
  |tail _ N=>exact W (h.own p N)
 ·simp only[bK,bT];refine⟨fun hm=>?_,h.nodup⟩;obtain⟨p,N,_⟩:=bF.1 hm;have:=h.lt N;omega
 ·intro p N;cases N with
  |head=>
   cases hi:I w.heap.size with
   |none=>rfl
   |some o'=>have:=Z (h.sub _ _ hi);omega
  |tail _ N=>exact h.dis p N
 intro p N;cases N with
 |head=>exact .inr h.size
 |tail _ N=>exact h.new p N
def hset (b:Nat) (o:Obj):HL→HL
 |[]=>[]
 |(c,x)::r=>if c=b then(c,o)::r else(c,x)::hset b o r
theorem a5r b o:∀H:HL,(hset b o H).map (·.1)=H.map (·.1)
 |[]=>rfl
 |(c,x)::r=>by
  unfold hset
  split
  ·rfl
  simp[a5r b o r]
theorem b2r b o:∀(H:HL),(H.map (·.1)).Nodup→∀p∈hset b o H,(p=(b,o))∨(p∈H∧p.1≠b)
 |[],_,p,N=>by cases N
 |(c,x)::r,hn,p,N=>by
  simp only[bK,bT]at hn;unfold hset at N
  split at N
  ·rename_i O;subst O
   cases N with
   |head=>exact .inl rfl
   |tail _ N=>
    refine .inr ⟨.tail _ N,fun W=>hn.1 ?_⟩;rw[←W];exact aQ N
  rename_i O
  cases N with
  |head=>exact .inr ⟨.head _,O⟩
  |tail _ N=>
   rcases b2r b o r hn.2 p N with h|h
   ·exact .inl h
   exact .inr ⟨.tail _ h.1,h.2⟩
theorem St.write{w' b o o'}(h:St w0 D I0 I H w)(hm:(b,o)∈H)(a2:w'.os=w.os)(ht:w'.tape=w.tape)(a1:w'.output=w.output)
 (a3:w'.heap.size=w.heap.size)(hb:w'.heap[b]?=some o')(W:∀c,c≠b→w'.heap[c]?=w.heap[c]?)(a4:w'.drawn=w.drawn):St w0 D I0 I (hset b o' H) w':=by
 have a0:∀p∈hset b o' H,∃q∈H,q.1=p.1:=fun p O=>by
  have:p.1∈(hset b o' H).map (·.1):=aQ O;rw[a5r]at this;obtain⟨q,Z,N⟩:=bF.1 this;exact⟨q,Z,N⟩
 refine⟨a2.trans h.os,ht.trans h.tape,a1.trans h.output,by rw[a3];exact h.size,fun c hc hd=>?_,fun c x hx=>?_,fun p O=>?_,by rw[a5r];exact h.nodup,fun p O=>?_,fun p O=>?_,h.ifr,h.le,by rw[a4];exact h.drw⟩
 ·have:c≠b:=fun N=>by
   rcases h.new _ hm with h'|h'
   ·exact hd (N▸h')
   simp at h';omega
  rw[W c this];exact h.frm c hc hd
 ·have:c≠b:=fun N=>by
   have:=h.dis _ hm;simp only at this;rw[N]at hx;rw[this]at hx;cases hx
  rw[W c this];exact h.sub c x hx
 ·rcases b2r b o' H h.nodup p O with rfl|⟨h1,h2⟩
  ·exact hb
  rw[W _ h2];exact h.own p h1
 ·obtain⟨q,Z,N⟩:=a0 p O;rw[←N];exact h.dis q Z
 obtain⟨q,Z,N⟩:=a0 p O;rw[←N];exact h.new q Z
def hput (b:Nat) (o:Obj) (I:Heap):Heap:=fun c=>if c=b then some o else I c
theorem St.persist{b o R}(h:St w0 D I0 I ((b,o)::R) w)(hb:w0.heap.size≤b):
 St w0 D I0 (hput b o I) R w:=by
 have W:=h.nodup;simp only[bK,bT]at W;have a0:I b=none:=h.dis _ (.head _);refine⟨h.os,h.tape,h.output,h.size,h.frm,fun c x N=>?_,fun p O=>h.own p (.tail _ O),W.2,fun p O=>?_,fun p O=>h.new p (.tail _ O),fun c hc=>?_,fun c x N=>?_,h.drw⟩
 ·unfold hput at N
  split at N
  ·rename_i Z;subst Z;cases N;exact h.own _ (.head _)
  exact h.sub c x N
 ·unfold hput
  split
  ·rename_i Z
   exact absurd (Z▸aQ O) W.1
  exact h.dis p (.tail _ O)
 ·unfold hput;rw[zD oM];exact h.ifr c hc
 unfold hput
 split
 ·rename_i Z;subst Z
  have:=h.le _ _ N;rw[a0]at this;cases this
 exact h.le c x N
theorem a4f{b o I}(h:I b=none):Le I (hput b o I):=fun c x N=>by
 unfold hput
 split
 ·rename_i O;subst O;rw[h]at N;cases N
 exact N
theorem YR b o I:hput b o I b=some o:=by simp[hput]
end st
theorem St.call{w0 w w' D I0 I I' H1 a0 R}(h:St w0 D I0 I (H1++R) w)(k:St w (H1.map (·.1)) I I' a0 w'):
 St w0 D I0 I' (a0++R) w':=by
 have a1:=h.nodup;rw[dR,dG]at a1;obtain⟨_,n2,n3⟩:=a1;have hR:∀p∈R,p.1<w.heap.size:=fun p N=>h.lt (aX _ N);have a2:∀p∈R,p.1 ∉ H1.map (·.1):=fun p N hm=>n3 _ hm _ (aQ N) rfl;refine⟨k.os.trans h.os,k.tape.trans h.tape,k.output.trans h.output,bU h.size k.size,fun b W hd=>?_,k.sub,fun p N=>?_,?_,fun p N=>?_,fun p N=>?_,fun b W=>?_,h.le.trans k.le,fun g=>bU (h.drw g) (k.drw g)⟩
 ·have a3:b ∉ H1.map (·.1):=fun hm=>by
   obtain⟨p,N,Z⟩:=bF.1 hm;rcases h.new p (aY _ N)with O|O
   ·exact hd (Z▸O)
   omega
  rw[k.frm b (eU W h.size) a3];exact h.frm b W hd
 ·rcases dS.1 N with N|N
  ·exact k.own p N
  rw[k.frm _ (hR p N) (a2 p N)];exact h.own p (aX _ N)
 ·rw[dR,dG];refine⟨k.nodup,n2,fun x hx y hy Z=>?_⟩;obtain⟨p,N,a4⟩:=bF.1 hx;obtain⟨q,hq,a5⟩:=bF.1 hy;rcases k.new p N with O|O
  ·exact a2 q hq (by rw[a5,←Z,←a4];exact O)
  have:=hR q hq;omega
 ·rcases dS.1 N with N|N
  ·exact k.dis p N
  rw[k.ifr _ (hR p N)];exact h.dis p (aX _ N)
 ·rcases dS.1 N with N|N
  ·rcases k.new p N with O|O
   ·obtain⟨q,hq,Z⟩:=bF.1 O;rw[←Z];exact h.new q (aY _ hq)
   exact .inr (bU h.size O)
  exact h.new p (aX _ N)
 rw[k.ifr b (eU W h.size)];exact h.ifr b W
def SS (I:Heap) (H:HL) (w:World):Prop:=(∀b o,I b=some o→w.heap[b]?=some o)∧∀p∈H,w.heap[p.1]?=some p.2
theorem St.ss{w0 w D I0 I H}(h:St w0 D I0 I H w):SS I H w:=⟨h.sub,h.own⟩
def yZ (S:World→Prop) (b:Nat) (o:Obj):Prop:=∀w,S w→w.heap[b]?=some o
theorem yZ.LK{I H b o}(h:I b=some o):yZ (SS I H) b o:=fun _ N=>N.1 b o h
theorem yZ.at{I H b o}(i:Nat)(h:H[i]?=some (b,o)):yZ (SS I H) b o:=fun _ N=>N.2 _ (aK h)
abbrev CL:=List (Nat×Nat×Value)
def SC (I:Heap) (A:HL) (Z:CL) (w:World):Prop:=SS I A w∧∀c∈Z,w.cell? ⟨c.1,c.2.1,none⟩=some c.2.2
theorem yZ.OA{I A Z b o}(h:I b=some o):yZ (SC I A Z) b o:=fun _ N=>N.1.1 b o h
theorem yZ.atC{I A Z b o}(i:Nat)(h:A[i]?=some (b,o)):yZ (SC I A Z) b o:=fun _ N=>N.1.2 _ (aK h)
structure Cx where
  P:Program
  n:Nat
  w0:World
  D:List Nat
  I0:Heap
  ds:List Deferred
  rd:Option Nat:=none
def Cx.F (cx:Cx):Fence:={ Fence.wide with round:=cx.rd }
abbrev Qt:=Exit→Act→World→Prop
def Cj (cx:Cx) (Q:Qt) (c:Code) (e:Env) (I:Heap) (H:HL):Prop:=
 ∀a w,Has a cx.n e cx.ds→St cx.w0 cx.D cx.I0 I H w→c.wpIn cx.F 0 cx.P Q a w
def Ej (cx:Cx) (Q:Qt) (x:Exit) (e:Env) (I:Heap) (H:HL):Prop:=
 ∀a w,Has a cx.n e cx.ds→St cx.w0 cx.D cx.I0 I H w→Q x a w
def J (cx:Cx) (Q:Qt) (ops:Array Oper) (l:List Oper) (e:Env) (I:Heap) (H:HL):Prop:=
 ∀a w,Has a cx.n e cx.ds→St cx.w0 cx.D cx.I0 I H w→wpListIn cx.F 0 cx.P ops Q l a w
abbrev Ct:=Env→Heap→HL→Prop
def DJ (cx:Cx) (Q:Qt) (o:Oper) (e:Env) (I:Heap) (H:HL) (C:Ct):Prop:=
 ∀K:Act→World→Prop,(∀e' I' H',C e' I' H'→∀a w,Has a cx.n e' cx.ds→St cx.w0 cx.D cx.I0 I' H' w→K a w)→
  ∀a w,Has a cx.n e cx.ds→St cx.w0 cx.D cx.I0 I H w→o.wp cx.P a w K Q
theorem b2C{rd n P f args w}{R:Ending→World→Prop}(h:Calls P f args w R):CallsIn { Fence.wide with round:=rd } n P f args w R:=by
 have:=(callsIn_wide (n:=n)).2 h;cases rd with
 |none=>exact this
 |some l=>exact this
theorem b5F{rd n P row args w}{R:Value→World→Prop}(h:Rows P row args w R):RowsIn { Fence.wide with round:=rd } n P row args w R:=by
 have:RowsIn Fence.wide n P row args w R:=fun c cs _=>let ⟨v,w',N,O⟩:=h c cs;⟨v,w',N,stepsIn_wide.2 O⟩;cases rd with
 |none=>exact this
 |some l=>exact this
theorem b5V{rd n P}{o:Oper}{a}{K:Act→World→Prop}{Q r}(h:o.upon P a K Q r):o.uponIn { Fence.wide with round:=rd } n P a K Q r:=by
 cases r with
 |ok x w'=>
  cases x<;>simp only[aP,fC]at h ⊢ <;>
   first
    |exact h
    |exact⟨fun h=>by simp[Fence.wide]at h,b2C h⟩
    |exact⟨fun h=>by simp[Fence.wide]at h,b5F h⟩
 |halt x w'=>cases x<;>simp only[aP,fC]at h ⊢ <;>exact h
theorem a4W{rd n P}{o:Oper}{a w}{K:Act→World→Prop}{Q}(N:rd=none∨∀c,o.op≠ .defer c)(h:o.wp P a w K Q):o.wpIn { Fence.wide with round:=rd } n P a w K Q:=by
 refine⟨fun _ _=>trivial,?_⟩;have O:o.semAt rd a.eval=execOp a.eval o:=by
  rcases N with rfl|N
  ·rfl
  exact Oper.semAt_eq rd a.eval o N
 show o.uponIn _ n P a K Q ((o.semAt rd a.eval).run P w);rw[O];exact b5V h
theorem DJ.c5j{N Q o e I H C}(h:DJ N Q o e I H C)(K:Act→World→Prop)
 (hK:∀e' O H',C e' O H'→∀a w,Has a N.n e' N.ds→St N.w0 N.D N.I0 O H' w→K a w) a w (ha:Has a N.n e N.ds)(hs:St N.w0 N.D N.I0 I H w):o.wpIn N.F 0 N.P a w K Q:=by
 by_cases hd:∃c,o.op= .defer c
 ·obtain⟨c,W⟩:=hd;have h1:=h (fun a' w'=>K a' w'∧a'.defers=N.ds) (fun e' O H' hC a w Z a0=>⟨hK e' O H' hC a w Z a0,Z.defs⟩) a w ha hs;refine⟨fun _ _=>trivial,?_⟩;unfold Oper.wp at h1;have hx:(execOp a.eval o).run N.P w=((resolve a.eval c o.type).run N.P w).andThen fun d w'=> .ok (.defer d) w':=by
   simp only[execOp,W,aG];rfl
  rw[hx]at h1;cases hr:(resolve a.eval c o.type).run N.P w with
  |ok d w'=>
   rw[hr]at h1;simp only[aA,aP]at h1;have h2:=h1.2;have h3:({ a with defers:=d::a.defers }.put o.dst undef).defers=d::a.defers:=by
    cases o.dst<;>rfl
   rw[h3,ha.defs]at h2;exact absurd (zC List.length h2) sI
  |halt x w'=>
   rw[hr]at h1;have hy:(o.semAt N.F.round a.eval).run N.P w= .halt x w':=by
    unfold Oper.semAt;cases N.F.round with
    |none=>simp only[hx,hr];rfl
    |some l=>simp only[W,aG,hr];rfl
   rw[hy];have h4:(Result.andThen (.halt x w':Result Deferred) fun d w'=>(.ok (.defer d) w':Result Next))= .halt x w':=rfl;rw[h4]at h1;cases x<;>simp only[aP,fC]at h1 ⊢ <;>exact h1
 have h1:=h K hK a w ha hs;exact a4W (rd:=N.rd) (.inr fun c W=>hd ⟨c,W⟩) h1
theorem wpIn_mono'{F n P a w}{c:Code}{Q N}(O:∀e a w,Q e a w→N e a w)(h:c.wpIn F n P Q a w):c.wpIn F n P N a w:=wpIn_mono h O
theorem b1M{F rm P Q a w c}(I:Nat→Act→World→Prop) W (h₀:I W a w)
 (round:∀n a w,I n a w→c.wpIn F rm P (Exit.then (fun a' w'=>∃N,N<n∧I N a' w') Q) a w):(Code.loop c).wpIn F rm P Q a w:=by
 refine wpIn_loop (fun a w=>∃n,I n a w) (fun a w=>leastOf (fun n=>I n a w)) ⟨W,h₀⟩ ?_;intro a w hI;refine wpIn_mono (round _ a w (leastOf_spec hI).1) ?_;intro e a' w' O;cases e with
 |normal=>
  obtain⟨N,a0,Z⟩:=O;exact show(∃n,I n a' w')∧leastOf (fun n=>I n a' w')<leastOf (fun n=>I n a w) from⟨⟨N,Z⟩,Nat.lt_of_le_of_lt ((leastOf_spec ⟨N,Z⟩).2 N Z) a0⟩
 |exit id=>exact O
 |goto l=>exact O
 |ret=>exact O
 |panic ch=>exact O
 |outgrown=>exact O
theorem Cx.wide{N:Cx}(h:N.rd=none):N.F=Fence.wide:=by
 unfold Cx.F;rw[h];rfl
theorem Cj.of_wp{N Q c e I H}(O:N.rd=none)(h:∀a w,Has a N.n e N.ds→St N.w0 N.D N.I0 I H w→c.wp N.P Q a w):Cj N Q c e I H:=fun a w W Z=>by
 rw[Cx.wide O];exact wpIn_wide.2 (h a w W Z)
theorem Cj.wp{N Q c e I H}(h:Cj N Q c e I H)(O:N.rd=none){a w}(W:Has a N.n e N.ds)(Z:St N.w0 N.D N.I0 I H w):c.wp N.P Q a w:=by
 have:=h a w W Z;rw[Cx.wide O]at this;exact wpIn_wide.1 this
section rules
variable {cx:Cx} {Q:Qt} {e:Env} {I:Heap} {H:HL}
theorem Cj.region{id l}(h:J cx Q l.toArray l e I H):Cj cx Q (.region id l.toArray false) e I H:=
 fun a w N O=>wpIn_region_lit (h a w N O)
theorem J.nil{N}(h:Ej cx Q .normal e I H):J cx Q N [] e I H:=fun a w O W=>wpListIn_nil (h a w O W)
theorem J.op{N o l}(Z:o.guard=none)(h:DJ cx Q o e I H (J cx Q N l)):J cx Q N (o::l) e I H:=
 fun a w O W=>wpListIn_plain Z fun K hK=>h.c5j K (fun _ _ _ hc a w O W=>hK a w (hc a w O W)) a w O W
theorem QF{N a n ds j d b}(O:Has a n e ds)(W:(N[j]?).bind (·.dst)=some d)(Z:eg e d=some (.bool b)):
 yielded N a.tmps j=some b:=by
 have:=O.get d _ Z;simp only[yielded,W,dK,this]
theorem J.opG{N o l} j d O b (hg:o.guard=some (j,O))(hd:(N[j]?).bind (·.dst)=some d)(hv:eg e d=some (.bool b))(hb:b=O)
 (h:DJ cx Q o e I H (J cx Q N l)):J cx Q N (o::l) e I H:=by
 intro a w W Z;refine wpListIn_step fun K hK=>?_;have hw:aC o (yielded N a.tmps)=true:=by simp[aC,hg,QF W hd hv,hb]
 rw[zF hw];exact h.c5j K (fun _ _ _ hc a w W Z=>hK a w (hc a w W Z)) a w W Z
theorem J.skip{N o l} j d t O b (Z:o.guard=some (j,O))(hd:(N[j]?).bind (·.dst)=some d)(hv:eg e d=some (.bool b))(hb:b= !O)
 (ho:o.dst=some t)(ht:aO t cx.n=true)(h:J cx Q N l ((t,undef)::e) I H):J cx Q N (o::l) e I H:=by
 intro a w W hs;refine wpListIn_step fun K hK=>?_;have hw:aC o (yielded N a.tmps)=false:=by simp[aC,Z,QF W hd hv,hb]
 rw[hw,ho];exact⟨fun _ _=>trivial,hK _ _ (h _ _ (W.put ht) hs)⟩
theorem J.c6d{N o l} j d t O (Z:o.guard=some (j,O))(hd:(N[j]?).bind (·.dst)=some d)(hv:eg e d=some undef)
 (ho:o.dst=some t)(ht:aO t cx.n=true)(h:J cx Q N l ((t,undef)::e) I H):J cx Q N (o::l) e I H:=by
 intro a w W hs;refine wpListIn_step fun K hK=>?_;have hw:aC o (yielded N a.tmps)=false:=by
  have:=W.get d _ hv;have hy:yielded N a.tmps j=none:=by simp only[yielded,hd,dK,this,undef]
  simp[aC,Z,hy]
 rw[hw,ho];exact⟨fun _ _=>trivial,hK _ _ (h _ _ (W.put ht) hs)⟩
theorem Cj.seq{x y}(h:Cj cx (Exit.then (y.wpIn cx.F 0 cx.P Q) Q) x e I H):Cj cx Q (.seq x y) e I H:=fun a w N O=>wpIn_seq (h a w N O)
theorem Ej.seq{y}(h:Cj cx Q y e I H):Ej cx (Exit.then (y.wpIn cx.F 0 cx.P Q) Q) .normal e I H:=fun a w N O=>h a w N O
theorem Ej.a1f{K:Act→World→Prop}(h:Ej cx Q .ret e I H):Ej cx (Exit.then K Q) .ret e I H:=fun a w N O=>h a w N O
theorem Ej.a3Z{K:Act→World→Prop}{id}(h:Ej cx Q (.exit id) e I H):Ej cx (Exit.then K Q) (.exit id) e I H:=fun a w N O=>h a w N O
theorem Cj.block{id c}(h:Cj cx (aN id Q) c e I H):Cj cx Q (.block id c) e I H:=fun a w N O=>wpIn_block (h a w N O)
theorem Ej.OZ{id}(h:Ej cx Q .normal e I H):Ej cx (aN id Q) .normal e I H:=fun a w N O=>h a w N O
theorem Ej.a1b{id}(h:Ej cx Q .normal e I H):Ej cx (aN id Q) (.exit id) e I H:=fun a w N O=>by
 simp only[aN,if_true];exact h a w N O
theorem Ej.b1A{id N}(O:fB N id=false)(h:Ej cx Q (.exit N) e I H):Ej cx (aN id Q) (.exit N) e I H:=fun a w W Z=>by
 have:N≠id:=fun he=>by subst he;simp[Nat.beq_refl]at O
 simp only[aN,this,if_false];exact h a w W Z
theorem Ej.b0Q{id}(h:Ej cx Q .ret e I H):Ej cx (aN id Q) .ret e I H:=fun a w N O=>h a w N O
theorem Cj.skip(h:Ej cx Q .normal e I H):Cj cx Q .skip e I H:=fun a w N O=>wpIn_skip (h a w N O)
theorem Cj.ret(h:Ej cx Q .ret e I H):Cj cx Q .ret e I H:=fun a w N O=>wpIn_ret (h a w N O)
theorem Cj.exit{id}(h:Ej cx Q (.exit id) e I H):Cj cx Q (.exit id) e I H:=fun a w N O=>wpIn_exit (h a w N O)
theorem Cj.cond{c:Operand}{x y:Code}{t:Bool}(W:ev e c=some (.bool t))(h1:t=true→Cj cx Q x e I H)(h2:t=false→Cj cx Q y e I H):Cj cx Q (.cond c x y) e I H:=
 fun a w N O=>wpIn_cond_split (N.eval W) (fun h=>h1 h a w N O) (fun h=>h2 h a w N O)
theorem Cj.weak{c e'}(N:Sub e' e)(h:Cj cx Q c e' I H):Cj cx Q c e I H:=fun a w O h1=>h a w (O.sub N) h1
theorem Ej.weak{x e'}(N:Sub e' e)(h:Ej cx Q x e' I H):Ej cx Q x e I H:=fun a w O h1=>h a w (O.sub N) h1
theorem Cj.keep{c H'}(N:H'.Sublist H)(h:Cj cx Q c e I H'):Cj cx Q c e I H:=fun a w O h1=>h a w O (h1.sublist N)
theorem Ej.keep{x H'}(N:H'.Sublist H)(h:Ej cx Q x e I H'):Ej cx Q x e I H:=fun a w O h1=>h a w O (h1.sublist N)
theorem Cj.perm{c H'}(N:H'.Perm H)(h:Cj cx Q c e I H'):Cj cx Q c e I H:=fun a w O h1=>h a w O (h1.perm N)
theorem J.perm{N l H'}(O:H'.Perm H)(h:J cx Q N l e I H'):J cx Q N l e I H:=fun a w W h1=>h a w W (h1.perm O)
theorem Ej.perm{x H'}(N:H'.Perm H)(h:Ej cx Q x e I H'):Ej cx Q x e I H:=fun a w O h1=>h a w O (h1.perm N)
theorem DJ.perm{o C H'}(N:H'.Perm H)(h:DJ cx Q o e I H' C):DJ cx Q o e I H C:=fun K O a w W h1=>h K O a w W (h1.perm N)
def Mid (cx:Cx) (Q:Qt) (M:Env→Heap→HL→Prop):Qt
 | .normal,a,w=>∃e I H,M e I H∧Has a cx.n e cx.ds∧St cx.w0 cx.D cx.I0 I H w
 |x,a,w=>Q x a w
def a6d (cx:Cx) (Q:Qt) {ι:Type} (pre:ι→Prop) (μ:ι→Nat) (i:ι) (env:ι→Env) (hp:ι→Heap) (hl:ι→HL):Qt
 | .normal,a,w=>∃j,pre j∧μ j<μ i∧Has a cx.n (env j) cx.ds∧St cx.w0 cx.D cx.I0 (hp j) (hl j) w
 |x,a,w=>Q x a w
theorem Cj.loop{ι:Type}(N:ι→Prop) μ O hp hl {c} W (h0:N W)(hs:Sub (O W) e)(hI:hp W=I)(hH:hl W=H)
 (round:∀i,N i→Cj cx (a6d cx Q N μ i O hp hl) c (O i) (hp i) (hl i)):Cj cx Q (.loop c) e I H:=by
 intro a w ha Z;refine b1M (fun m a w=>∃i,N i∧μ i=m∧Has a cx.n (O i) cx.ds∧St cx.w0 cx.D cx.I0 (hp i) (hl i) w) (μ W) ⟨W,h0,rfl,ha.sub hs,hI▸hH▸Z⟩ ?_;rintro m a w ⟨i,hi,rfl,ha,Z⟩;refine wpIn_mono'  (fun x a w hq=>?_) (round i hi a w ha Z)
 cases x<;>first
  |exact hq
  |(obtain⟨j,hj,a0,a1,a2⟩:=hq;exact⟨μ j,a0,j,hj,rfl,a1,a2⟩)
section round
variable {ι:Type} {pre:ι→Prop} {μ:ι→Nat} {i:ι} {env:ι→Env} {hp:ι→Heap} {hl:ι→HL}
theorem Ej.round j (N:pre j)(O:μ j<μ i)(W:Sub (env j) e)(Z:hp j=I)(hH:hl j=H):Ej cx (a6d cx Q pre μ i env hp hl) .normal e I H:=
 fun _ _ ha h1=>⟨j,N,O,ha.sub W,Z▸hH▸h1⟩
theorem Ej.c3s(h:Ej cx Q .ret e I H):Ej cx (a6d cx Q pre μ i env hp hl) .ret e I H:=fun a w N O=>h a w N O
theorem Ej.a1p{id}(h:Ej cx Q (.exit id) e I H):Ej cx (a6d cx Q pre μ i env hp hl) (.exit id) e I H:=fun a w N O=>h a w N O
end round
end rules
end Go.Sx
namespace Go.Sx
open Go
variable [DR]
def BO (cx:Cx) (o:Oper) (e:Env) (S:World→Prop) (v:Value):Prop:=
 ∀a w,Has a cx.n e cx.ds→S w→(execOp a.eval o).run cx.P w= .ok (.value v) w
def str (l:List UInt8):Value:= .string ⟨l.toArray⟩
abbrev i64 (n:Int):Value:= .int .i64 n
abbrev u8 (c:UInt8):Value:= .int .u8 (c.toNat:Int)
abbrev ptr (b o:Nat):Value:= .pointer (some ⟨b,o,none⟩)
def yX (t:TypeId) (l:List Value):Obj:= .cells l.toArray t (0,0)
theorem size_mk(l:List UInt8):(⟨l.toArray⟩:ByteArray).size=l.length:=by
 show l.toArray.size=_;simp
theorem JR{α:Type}[BEq α][LawfulBEq α]{a b:α}(h:(a != b)=false):a=b:=by simpa using h
section
variable {cx:Cx} {Q:Qt} {o:Oper} {e:Env} {I:Heap} {H:HL} {C:Ct} {S:World→Prop}
theorem AY{d v}(W:BO cx o e (SS I H) v)(Z:o.dst=some d)(hd:aO d cx.n=true)(k:C ((d,v)::e) I H):DJ cx Q o e I H C:=by
 intro K hK a w N O;unfold Oper.wp;rw[W a w N O.ss];simp only[aP,Z];exact hK _ _ _ k _ _ (N.put hd) O
theorem J.y{N l d v}(O:BO cx o e (SS I H) v)(W:o.guard=none)(Z:o.dst=some d)(hd:aO d cx.n=true)
 (k:J cx Q N l ((d,v)::e) I H):J cx Q N (o::l) e I H:=J.op W (AY O Z hd k)
theorem J.z{N l d v}(O:BO cx o e (SS I H) v)(k:J cx Q N l ((d,v)::e) I H)(W:o.guard=none:=by rfl)(Z:o.dst=some d:=by rfl)(hd:Nat.blt d cx.n=true:=by rfl):J cx Q N (o::l) e I H:=J.y O W Z hd k
theorem a7a{x v}(N:o.op= .move x)(O:ev e x=some v):BO cx o e S v:=by
 intro a w W _;simp only[execOp,N,aI,W.eval O]
theorem qq2{x:Operand}{v:Value}(N:o.op= .move x:=by exact rfl)(O:ev e x=some v:=by exact rfl):BO cx o e S v:=a7a N O
theorem a3e{x v}(N:o.op= .assign x)(O:ev e x=some v):BO cx o e S v:=by
 intro a w W _;simp only[execOp,N,aI,W.eval O]
theorem EP{x:Operand}{v:Value}(N:o.op= .assign x:=by exact rfl)(O:ev e x=some v:=by exact rfl):BO cx o e S v:=a3e N O
theorem a4T{c x y t v}(O:o.op= .pick c x y)(W:ev e c=some (.bool t))(Z:t=true)(hx:ev e x=some v):BO cx o e S v:=by
 intro a w N _;subst Z;simp[execOp,O,N.eval W,N.eval hx,asBool]
theorem ZA{c x y t v}(O:o.op= .pick c x y)(W:ev e c=some (.bool t))(Z:t=false)(hx:ev e y=some v):BO cx o e S v:=by
 intro a w N _;subst Z;simp[execOp,O,N.eval W,N.eval hx,asBool]
theorem EL{x p}(N:o.op= .nilCheck x)(O:ev e x=some (.pointer (some p))):BO cx o e S (.pointer (some p)):=by
 intro a w W _;simp[execOp,N,W.eval O]
theorem ZE{x T k b off off' m fs f}(W:o.op= .fieldAddr T x k)(Z:ev e x=some (ptr b off))
 (hu:cx.P.underlying T=some (.struct fs))(hf:fs[k]?=some f)(O:∀w,(sizeOf f.type).run cx.P w= .ok (m+1) w)(N:off+f.offset=off'):
 BO cx o e S (ptr b off'):=by
 intro a w ha _;subst N;simp[execOp,W,ha.eval Z,Instr.fieldAt,run_underlying hu,hf,bH,fieldPlace,O,aV]
theorem CV{x:Operand}{T k b off off' m:Nat}{fs:Array Field}{f:Field}(W:cx.P.underlying T=some (.struct fs))(O:∀w,(sizeOf f.type).run cx.P w= .ok (m+1) w)(Z:o.op= .fieldAddr T x k:=by exact rfl)(hx:ev e x=some (ptr b off):=by exact rfl)(hf:fs[k]?=some f:=by exact rfl)(N:off+f.offset=off':=by exact rfl):BO cx o e S (ptr b off'):=ZE Z hx W hf O N
theorem cell_of_heap{w:World}{b off}{cs:List Value}{t fr v}(h:w.heap[b]?=some (.cells cs.toArray t fr))(N:cs[off]?=some v):
 w.cell? ⟨b,off,none⟩=some v:=by
 simp[World.cell?,h,N]
theorem AX{x T b off}{cs:List Value}{t fr v}(O:o.op= .load T x)(W:ev e x=some (ptr b off))
 (N:∀w,(isAgg T).run cx.P w= .ok false w)(Z:yZ S b (.cells cs.toArray t fr))(hv:cs[off]?=some v):BO cx o e S v:=by
 intro a w ha hs;have hc:=cell_of_heap (Z w hs) hv;simp[execOp,O,ha.eval W,gI,bH,loadVar,N,hc]
theorem DU{x:Operand}{T b off:Nat}{cs:List Value}{t:TypeId}{fr:Nat×Nat}{v:Value}(N:∀w,(isAgg T).run cx.P w= .ok false w)(O:yZ S b (.cells cs.toArray t fr))(W:cs[off]?=some v)(Z:o.op= .load T x:=by exact rfl)(hx:ev e x=some (ptr b off):=by exact rfl):BO cx o e S v:=AX Z hx N O W
theorem DF{x:Operand}{T b off:Nat}{cs:List Value}{t:TypeId}{fr:Nat×Nat}{v:Value}(N:∀w,(isAgg T).run cx.P w= .ok false w)(O:yZ S b (.cells cs.toArray t fr))(W:o.op= .load T x:=by exact rfl)(Z:ev e x=some (ptr b off):=by exact rfl)(hv:cs[off]?=some v:=by exact rfl):BO cx o e S v:=AX W Z N O hv
theorem UG{x T b off n}{cs vs:List Value}{t fr}(Z:o.op= .load T x)(hx:ev e x=some (ptr b off))
 (O:∀w,(isAgg T).run cx.P w= .ok true w)(W:∀w,(sizeOf T).run cx.P w= .ok n w)(hb:yZ S b (.cells cs.toArray t fr))(hv:(cs.drop off).take n=vs)(hn:vs.length=n):
 BO cx o e S (.agg vs.toArray):=by
 intro a w ha hs;have hh:=hb w hs;have hc:∀j v,vs[j]?=some v→w.cell? ((⟨b,off,none⟩:Addr).add j)=some v:=by
  intro j v N;rw[aV];refine cell_of_heap hh ?_;rw[←hv]at N;rw[cZ]at N
  split at N
  ·simpa[dA]using N
  cases N
 have:=run_loadCells_list (P:=cx.P) (w:=w) ⟨b,off,none⟩ vs hc;rw[hn]at this;simp[execOp,Z,ha.eval hx,gI,bH,loadVar,O,W,this]
theorem FU{x:Operand}{T b off n:Nat}{cs vs:List Value}{t:TypeId}{fr:Nat×Nat}(N:∀w,(isAgg T).run cx.P w= .ok true w)(O:∀w,(sizeOf T).run cx.P w= .ok n w)(W:yZ S b (.cells cs.toArray t fr))(Z:o.op= .load T x:=by exact rfl)(hx:ev e x=some (ptr b off):=by exact rfl)(hv:(cs.drop off).take n=vs:=by exact rfl)(hn:vs.length=n:=by exact rfl):BO cx o e S (.agg vs.toArray):=UG Z hx N O W hv hn
theorem BJ{x:Operand}{T b off n:Nat}{cs vs:List Value}{t:TypeId}{fr:Nat×Nat}(N:∀w,(isAgg T).run cx.P w= .ok true w)(O:∀w,(sizeOf T).run cx.P w= .ok n w)(W:yZ S b (.cells cs.toArray t fr))(Z:(cs.drop off).take n=vs)(ho:o.op= .load T x:=by exact rfl)(hx:ev e x=some (ptr b off):=by exact rfl)(hn:vs.length=n:=by exact rfl):BO cx o e S (.agg vs.toArray):=UG ho hx N O W Z hn
theorem NQ{x y T U k p q}(O:o.op= .binOp .add T x y U)(W:ev e x=some (.int k p))(Z:ev e y=some (.int k q))(hw:k.wrap (p+q)=p+q):
 BO cx o e S (.int k (p+q)):=by
 intro a w N _;simp[execOp,O,N.eval W,N.eval Z,eqGuard_add,binOp_add,dU,hw]
theorem RI{x y T U k p q}(O:o.op= .binOp .sub T x y U)(W:ev e x=some (.int k p))(Z:ev e y=some (.int k q))(hw:k.wrap (p-q)=p-q):
 BO cx o e S (.int k (p-q)):=by
 intro a w N _;simp[execOp,O,N.eval W,N.eval Z,eqGuard_sub,binOp_sub,dU,hw]
theorem WR{x y T U k p q}(O:o.op= .binOp .mul T x y U)(W:ev e x=some (.int k p))(Z:ev e y=some (.int k q))(hw:k.wrap (p*q)=p*q):
 BO cx o e S (.int k (p*q)):=by
 intro a w N _;simp[execOp,O,N.eval W,N.eval Z,eqGuard_mul,binOp_mul,dU,hw]
theorem c4s{x y T U k p q}(O:o.op= .binOp .add T x y U)(W:ev e x=some (.int k p))(Z:ev e y=some (.int k q)):
 BO cx o e S (.int k (k.wrap (p+q))):=by
 intro a w N _;simp[execOp,O,N.eval W,N.eval Z,eqGuard_add,binOp_add,dU]
theorem RG{x y T U k p q}(O:o.op= .binOp .quo T x y U)(W:ev e x=some (.int k p))(Z:ev e y=some (.int k q))(h0:q≠0)(hw:k.wrap (p.tdiv q)=p.tdiv q):
 BO cx o e S (.int k (p.tdiv q)):=by
 intro a w N _;simp[execOp,O,N.eval W,N.eval Z,eqGuard_quo,binOp_quo,Op.intDiv,hw,h0]
theorem a6m{x y T U k p q}(O:o.op= .binOp .rem T x y U)(W:ev e x=some (.int k p))(Z:ev e y=some (.int k q))(h0:q≠0):
 BO cx o e S (.int k (p.tmod q)):=by
 intro a w N _;simp[execOp,O,N.eval W,N.eval Z,eqGuard_rem,binOp_rem,Op.intDiv,h0]
theorem a6J{x y T U k p q}(O:o.op= .binOp .lss T x y U)(W:ev e x=some (.int k p))(Z:ev e y=some (.int k q)):BO cx o e S (.bool (decide (p<q))):=by
 intro a w N _;simp[execOp,O,N.eval W,N.eval Z,eqGuard_lss,binOp_lss]
theorem c5H{x y T U k p q}(O:o.op= .binOp .leq T x y U)(W:ev e x=some (.int k p))(Z:ev e y=some (.int k q)):BO cx o e S (.bool (decide (p≤q))):=by
 intro a w N _;simp[execOp,O,N.eval W,N.eval Z,eqGuard_leq,binOp_leq]
theorem b2v{x y T U k p q}(O:o.op= .binOp .gtr T x y U)(W:ev e x=some (.int k p))(Z:ev e y=some (.int k q)):BO cx o e S (.bool (decide (p>q))):=by
 intro a w N _;simp[execOp,O,N.eval W,N.eval Z,eqGuard_gtr,binOp_gtr]
theorem c5h{x y T U k p q}(O:o.op= .binOp .geq T x y U)(W:ev e x=some (.int k p))(Z:ev e y=some (.int k q)):BO cx o e S (.bool (decide (p≥q))):=by
 intro a w N _;simp[execOp,O,N.eval W,N.eval Z,eqGuard_geq,binOp_geq]
theorem a6g{x y T U k p q}(O:o.op= .binOp .eql T x y U)(W:ev e x=some (.int k p))(Z:ev e y=some (.int k q)):BO cx o e S (.bool (p == q)):=by
 intro a w N _;simp[execOp,O,N.eval W,N.eval Z,eqGuard_at_int,binOp_eql]
theorem b1a{x y T U k p q}(O:o.op= .binOp .neq T x y U)(W:ev e x=some (.int k p))(Z:ev e y=some (.int k q)):BO cx o e S (.bool (p != q)):=by
 intro a w N _;simp[execOp,O,N.eval W,N.eval Z,eqGuard_at_int,binOp_neq]
theorem b8y{x T b}(N:o.op= .unOp .not T x)(O:ev e x=some (.bool b)):BO cx o e S (.bool (!b)):=by
 intro a w W _;simp[execOp,N,W.eval O,Op.unary]
theorem b5w{x N T k O n d}(W:o.op= .convert N T x)(Z:ev e x=some (.int O n))(hs:cx.P.underlying N=some d)(hu:cx.P.underlying T=some (.int k)):
 BO cx o e S (.int k (k.wrap n)):=by
 intro a w ha _;simp[execOp,W,ha.eval Z,convert,run_underlying hs,run_underlying hu,Conv.intToInt]
theorem b8s{x T l}(N:o.op= .call ⟨.builtin .len,#[x],#[T]⟩)(O:ev e x=some (str l))(W:cx.P.underlying T=some .string):BO cx o e S (i64 l.length):=by
 intro a w Z _;simp[execOp,N,resolve,invoke,builtin,gJ,Z.eval O,run_underlying W,str,goInt,size_mk]
theorem RJ{x T E p n c}(N:o.op= .call ⟨.builtin .len,#[x],#[T]⟩)(O:ev e x=some (.slice p n c))(W:cx.P.underlying T=some (.slice E)):BO cx o e S (i64 n):=by
 intro a w Z _;simp[execOp,N,resolve,invoke,builtin,gJ,Z.eval O,run_underlying W,goInt]
theorem CB{x y T l k i c}(W:o.op= .index T x y)(Z:ev e x=some (str l))(hy:ev e y=some (.int k i))(hu:cx.P.underlying T=some .string)
 (h0:0≤i)(hc:l[i.toNat]?=some c):BO cx o e S (u8 c):=by
 intro a w N _;have:(⟨l.toArray⟩:ByteArray)[i.toNat]?=some c:=by
  obtain⟨O,hg⟩:=List.getElem?_eq_some_iff.1 hc;rw[getElem?_pos (⟨l.toArray⟩:ByteArray) i.toNat (by rw[size_mk];exact O)];simp[ByteArray.getElem_eq_getElem_data,hg]
 simp[execOp,W,N.eval Z,N.eval hy,Instr.index,run_underlying hu,str,asIntOf,h0,this]
theorem CP{x lo hi T l}{p q:Nat}(ho:o.op= .slice T x lo hi none)(hx:ev e x=some (str l))(hu:cx.P.underlying T=some .string)
 (Z:match lo with|some y=>∃k,ev e y=some (.int k p)|none=>p=0)(N:match hi with|some y=>∃k,ev e y=some (.int k q)|none=>q=l.length)
 (h1:p≤q)(h2:q≤l.length):BO cx o e S (str ((l.take q).drop p)):=by
 intro a w O _;have W:(⟨l.toArray⟩:ByteArray).extract p q=⟨((l.take q).drop p).toArray⟩:=by
  apply ByteArray.ext
  simp[dV];rw[List.drop_take]
 cases lo with
 |none=>
  simp only at Z;subst Z;cases hi with
  |none=>
   simp only at N;subst N;simp[execOp,ho,O.eval hx,dF,Instr.slice,bJ,run_underlying hu,str]
   first|done|simpa[size_mk]using W
  |some y=>
   obtain⟨k,hy⟩:=N;simp[execOp,ho,O.eval hx,O.eval hy,dF,Instr.slice,bJ,run_underlying hu,str,dL,asIntOf,size_mk,h2]
   first|done|simpa using W
 |some z=>
  obtain⟨_,hz⟩:=Z;cases hi with
  |none=>
   simp only at N;subst N;simp[execOp,ho,O.eval hx,O.eval hz,dF,Instr.slice,bJ,run_underlying hu,str,dL,asIntOf,size_mk,h1]
   first|done|simpa using W
  |some y=>
   obtain⟨k,hy⟩:=N;simp[execOp,ho,O.eval hx,O.eval hy,O.eval hz,dF,Instr.slice,bJ,run_underlying hu,str,dL,asIntOf,size_mk,h2,h1]
   first|done|simpa using W
theorem AZ{x y T U l m}(O:o.op= .binOp .add T x y U)(W:ev e x=some (str l))(Z:ev e y=some (str m))(hw:l.length+m.length≤9223372036854775807):
 BO cx o e S (str (l++m)):=by
 intro a w N _;have h1:¬((((⟨l.toArray⟩:ByteArray).size+(⟨m.toArray⟩:ByteArray).size:Nat):Int)>IntKind.i64.max):=by
  rw[size_mk,size_mk];simp;omega
 have h2:(⟨l.toArray⟩:ByteArray)++⟨m.toArray⟩=⟨(l++m).toArray⟩:=by
  apply ByteArray.ext;simp
 simp only[execOp,O,N.eval W,N.eval Z,eqGuard_add,str,binOp,fD,zD h1,h2,aG,aI,aA]
theorem b9b{x y T U l m}(O:o.op= .binOp .eql T x y U)(W:ev e x=some (str l))(Z:ev e y=some (str m)):BO cx o e S (.bool (l == m)):=by
 intro a w N _;simp[execOp,O,N.eval W,N.eval Z,str,eqGuard_at_string,binOp,fD]
theorem a3k{x y T U l m}(O:o.op= .binOp .neq T x y U)(W:ev e x=some (str l))(Z:ev e y=some (str m)):BO cx o e S (.bool (l != m)):=by
 intro a w N _;simp[execOp,O,N.eval W,N.eval Z,str,eqGuard_at_string,binOp,fD,bne]
theorem CY{x y T E b off n c sz off' k i}(Z:o.op= .indexAddr T x y)(hx:ev e x=some (.slice (some ⟨b,off,none⟩) n c))(hy:ev e y=some (.int k i))
 (hu:cx.P.underlying T=some (.slice E))(O:∀w,(sizeOf E).run cx.P w= .ok sz w)(h0:0≤i)(h1:i<n)(N:off+i.toNat*sz=off'):BO cx o e S (ptr b off'):=by
 intro a w W _;subst N;simp[execOp,Z,W.eval hx,W.eval hy,Instr.indexAt,asIntOf,run_underlying hu,h0,h1,O,aV]
theorem FX{x y:Operand}{T E b off n c sz off':Nat}{k:IntKind}{i:Int}(W:cx.P.underlying T=some (.slice E))(O:∀w,(sizeOf E).run cx.P w= .ok sz w)(Z:o.op= .indexAddr T x y:=by exact rfl)(hx:ev e x=some (.slice (some ⟨b,off,none⟩) n c):=by exact rfl)(hy:ev e y=some (.int k i):=by exact rfl)(h0:0≤i:=by omega)(h1:i<n:=by omega)(N:off+i.toNat*sz=off':=by simp):BO cx o e S (ptr b off'):=CY Z hx hy W O h0 h1 N
theorem b6o{x k}{vs:List Value}{v}(N:o.op= .extract x k)(O:ev e x=some (.tuple vs.toArray))(W:vs[k]?=some v):BO cx o e S v:=by
 intro a w Z _;simp[execOp,N,Z.eval O,Instr.extract,W]
theorem a4D{fn fs cs vs N}(W:o.op= .makeFunc fn fs.toArray cs.toArray)(h1:evs e fs=some vs)(h2:evs e cs=some N):BO cx o e S (.func fn vs.toArray N.toArray):=by
 intro a w O _;simp[execOp,W,Instr.makeFunc,O.WI h1,O.WI h2]
theorem b0E{T x v d}(N:o.op= .makeInterface T x)(O:ev e x=some v)(W:cx.P.underlying T=some d)(Z:(match d with| .interface _=>false|_=>true)=true):BO cx o e S (.iface T v):=by
 intro a w ha _;simp only[execOp,N,Instr.makeInterface,ha.eval O,aG,run_underlying W,aA];cases d<;>first|rfl|cases Z
end
end Go.Sx
namespace Go.Sx
open Go
variable [DR]
structure AU {α:Type} (l:List α) (i:Nat) (x:α) (l':List α):Prop where
  lt:i<l.length
  eq:l.set i x=l'
theorem AU.z{α:Type}{v x:α}{r:List α}:AU (v::r) 0 x (x::r):=⟨sI,rfl⟩
theorem AU.s{α:Type}{v x:α}{r N n}(h:AU r n x N):AU (v::r) (n+1) x (v::N):=
 ⟨by have:=h.1;simp;omega,by rw[eX,h.2]⟩
structure AL {α:Type} (l:List α) (i:Nat) (xs:List α) (l':List α):Prop where
  le:i+xs.length≤l.length
  eq:l'=l.take i++xs++l.drop (i+xs.length)
theorem AL.z{α:Type}{l:List α}:AL l 0 [] l:=⟨sI,sI⟩
theorem AL.c{α:Type}{v x:α}{r N xs}(h:AL r 0 xs N):AL (v::r) 0 (x::xs) (x::N):=by
 obtain⟨h1,h2⟩:=h;refine⟨by simp at h1 ⊢;omega,?_⟩;subst h2;simp
theorem AL.s{α:Type}{v:α}{r N xs n}(h:AL r n xs N):AL (v::r) (n+1) xs (v::N):=by
 obtain⟨h1,h2⟩:=h;refine⟨by simp;omega,?_⟩;subst h2;simp[List.take_succ_cons,Nat.add_right_comm n 1,List.drop_succ_cons]
theorem b4c:∀(H:HL) (i b:Nat) (o o':Obj),(H.map (·.1)).Nodup→H[i]?=some (b,o)→hset b o' H=H.set i (b,o')
 |[],i,b,o,o',_,h=>by simp at h
 |(c,x)::r,0,b,o,o',_,h=>by
  simp at h;obtain⟨rfl,rfl⟩:=h;simp[hset]
 |(c,x)::r,i+1,b,o,o',hn,h=>by
  simp only[bK,bT]at hn;simp only[dP]at h;have N:c≠b:=fun O=>hn.1 (by rw[O];exact aQ (f:=(·.1)) (aK h));simp only[hset,zD N,eX];rw[b4c r i b o o' hn.2 h]
def World.block (w:World) (b:Nat) (o:Obj):World:={ w with heap:=w.heap.setIfInBounds b o }
theorem a2x{w b off}{cs:List Value}{t fr v}(h:w.heap[b]?=some (.cells cs.toArray t fr)):
 w.setCell ⟨b,off,none⟩ v=World.block w b (.cells (cs.set off v).toArray t fr):=by
 have O:b<w.heap.size:=by
  rcases aU b w.heap.size with N|N
  ·exact N
  simp[aH N]at h
 simp only[World.setCell,World.block]
 congr 1
 apply dB
 intro i;rw[dZ,bY]
 by_cases hi:b=i
 ·subst hi;have W:w.heap[b]= .cells cs.toArray t fr:=by simpa[O]using h
  simp[O,W]
 simp[hi]
theorem a9f{w b o o'}(h:w.heap[b]?=some o):(World.block w b o').heap[b]?=some o':=by
 have O:b<w.heap.size:=by
  rcases aU b w.heap.size with N|N
  ·exact N
  simp[aH N]at h
 simp[World.block,O]
theorem b9n{w b c o'}(h:c≠b):(World.block w b o').heap[c]?=w.heap[c]?:=by
 simp[World.block,Ne.symm h]
theorem b2I{w b o o'}:World.block (World.block w b o) b o'=World.block w b o':=by
 simp[World.block]
theorem St.block{w0 D I0 I H H' w i b o o'}(h:St w0 D I0 I H w)(N:H[i]?=some (b,o))(W:AU H i (b,o') H'):
 St w0 D I0 I H' (World.block w b o'):=by
 have O:=aK N;have:=h.write (o':=o') O (w':=World.block w b o') rfl rfl rfl (by simp[World.block]) (a9f (h.own _ O)) (fun c Z=>b9n Z) rfl;rw[b4c H i b o o' h.nodup N,W.2]at this;exact this
theorem KJ{P b off t fr}:∀(vs:List Value) (i:Nat) (w:World) (cs:List Value),w.heap[b]?=some (.cells cs.toArray t fr)→(fr=(0,0)∨cs.length≤fr.1)→off+i+vs.length≤cs.length→
 (∀v∈vs,v.oneCell'=true)→∀N,AL cs (off+i) vs N→(storeCells ⟨b,off,none⟩ vs i).run P w= .ok () (World.block w b (.cells N.toArray t fr))
 |[],i,w,cs,h,_,_,_,N,hl=>by
  have:N=cs:=by have:=hl.2;simpa using this
  subst this;have hw:World.block w b (.cells N.toArray t fr)=w:=by
   simp only[World.block]
   congr 1
   apply dB
   intro j;rw[bY]
   by_cases hj:b=j
   ·subst hj;have hb:b<w.heap.size:=by
     rcases aU b w.heap.size with Z|Z
     ·exact Z
     simp[aH Z]at h
    have hg:w.heap[b]= .cells N.toArray t fr:=by simpa[hb]using h
    simp[hb,hg]
   simp[hj]
  rw[hw];rfl
 |v::r,i,w,cs,h,W,hlen,hone,N,hl=>by
  simp only[dM]at hlen;have O:off+i<cs.length:=oM;have hc:w.cell? ⟨b,off+i,none⟩=some (cs[off+i]'O):=cell_of_heap h (by simp[O]);have a1:w.frozen? ⟨b,off+i,none⟩=false:=by
   rcases W with rfl|W
   ·simp[fV,h]
   simp only[fV,h];have:decide (fr.1≤off+i)=false:=by simp;omega
   simp[this]
  have h1:=run_store P w ⟨b,off+i,none⟩ v .plain (hone v (.head _));simp only[hc,a1,bG,if_false]at h1;have a0:((⟨b,off,none⟩:Addr).add i)=⟨b,off+i,none⟩:=aV b off i;simp only[storeCells,aG,a0,h1,aA];rw[a2x h];have h2:(World.block w b (.cells (cs.set (off+i) v).toArray t fr)).heap[b]?=some (.cells (cs.set (off+i) v).toArray t fr):=a9f h;rw[KJ r (i+1) _ (cs.set (off+i) v) h2 (by simpa using W) (by simp;omega) (fun u hu=>hone u (.tail _ hu)) N ?_,b2I];refine⟨by simp;omega,?_⟩;rw[hl.2];simp only[dM];rw[show off+(i+1)=(off+i)+1 from by omega];rw[List.take_set,List.drop_set_of_lt oM];rw[List.take_succ_eq_append_getElem O];rw[bP _ _ (by simp;omega)];simp[Nat.min_eq_left (Nat.le_of_lt O),Nat.add_assoc,Nat.add_comm 1]
structure EH (vs:List Value) (sz:Nat) (cs:List Value):Prop where
  all:∀v∈vs,v.cells.size=sz
  eq:vs.flatMap (fun v=>v.cells.toList)=cs
theorem EH.none{sz}:EH [] sz []:=⟨sI,rfl⟩
theorem EH.one{v vs cs}(h1:v.cells= #[v])(h:EH vs 1 cs):EH (v::vs) 1 (v::cs):=
 ⟨fun u N=>by cases N with|head=>rw[h1];rfl|tail _ N=>exact h.1 u N,by rw[dH,h1,h.2];rfl⟩
theorem EH.agg{xs vs cs sz}(h1:xs.length=sz)(h:EH vs sz cs):EH (.agg xs.toArray::vs) sz (xs++cs):=
 ⟨fun u N=>by cases N with|head=>simpa[Value.cells]using h1|tail _ N=>exact h.1 u N,by rw[dH,h.2];rfl⟩
theorem a2B:∀(xs:List Value) (k:Nat) (O W N:List Value) (off:Nat),W.length=xs.length→O.length=off+k→
 (xs.zipIdx k).foldl (fun cs (x:Value×Nat)=>cs.setIfInBounds (off+x.2) x.1) (O++W++N).toArray=(O++xs++N).toArray
 |[],k,O,W,N,off,h,_=>by
  have:W=[]:=bI.1 (by simpa using h);subst this;simp
 |x::xs,k,O,W,N,off,h,hp=>by
  obtain⟨y,r,rfl⟩:∃y r,W=y::r:=by
   cases W with
   |nil=>simp at h
   |cons y r=>exact⟨y,r,rfl⟩
  simp only[List.zipIdx_cons,List.foldl_cons];have h1:(O++y::r++N).toArray.setIfInBounds (off+k) x=((O++[x])++r++N).toArray:=by
   rw[List.setIfInBounds_toArray]
   congr 1
   rw[dI,bP _ _ oM,hp,Nat.sub_self];simp
  rw[h1,a2B xs (k+1) (O++[x]) r N off (by simpa using h) (by simp;omega)];simp
theorem b2d{sz}:∀(vs:List Value) (k:Nat) (N rest:List Value),(∀v∈vs,v.cells.size=sz)→N.length=k*sz→rest.length=vs.length*sz→
 dJ (fun i=>some (i*sz,sz)) (N++rest).toArray ((dW k vs.length).zip vs)=some (N++vs.flatMap (fun v=>v.cells.toList)).toArray
 |[],k,N,rest,_,_,hr=>by
  have:rest=[]:=bI.1 (by simpa using hr);subst this;simp[dJ]
 |v::vs,k,N,rest,hv,hp,hr=>by
  have h1:v.cells.toList.length=sz:=by simpa using hv v (.head _)
  have Z:rest.length=sz+vs.length*sz:=by rw[hr];simp[aW];omega
  have O:v.cells.size=sz:=hv v (.head _);simp only[dM,List.range'_succ,List.zip_cons_cons,dJ];rw[zD (by simp[O,hp];omega)];have h2:v.cells.zipIdx.foldl (fun cs (x:Value×Nat)=>cs.setIfInBounds (k*sz+x.2) x.1) (N++rest).toArray=(N++v.cells.toList++rest.drop sz).toArray:=by
   rw[←a2B v.cells.toList 0 N (rest.take sz) (rest.drop sz) (k*sz) (by simp;omega) oM];rw[dI N,bQ];rw[←eY,eH]
  rw[h2,b2d vs (k+1) (N++v.cells.toList) (rest.drop sz) (fun u W=>hv u (.tail _ W)) (by simp[O,hp,aW]) (by simp;omega)];simp[dH]
section
variable {cx:Cx} {Q:Qt} {o:Oper} {e:Env} {I:Heap} {H:HL} {C:Ct}
theorem a5B{T d z zs}(O:o.op= .alloc T)(W:o.dst=some d)(Z:aO d cx.n=true)(hz:∀w,(zeroValue T).run cx.P w= .ok z w)(hc:z.cells=zs.toArray)
 (k:∀b,cx.w0.heap.size≤b→C ((d,ptr b 0)::e) I ((b,yX T zs)::H)):DJ cx Q o e I H C:=by
 intro K hK a w ha N;unfold Oper.wp;have:(execOp a.eval o).run cx.P w= .ok (.value (ptr w.heap.size 0)) { w with heap:=w.heap.push (yX T zs) }:=by
  simp[execOp,O,Instr.alloc,hz,newVar,newRow,hc,yX]
 rw[this];simp only[aP,W];exact hK _ _ _ (k _ N.size) _ _ (ha.put Z) (N.alloc _)
theorem FV{T d:Nat}{z:Value}{zs:List Value}(N:∀w,(zeroValue T).run cx.P w= .ok z w)(k:∀b,cx.w0.heap.size≤b→C ((d,ptr b 0)::e) I ((b,yX T zs)::H))(O:o.op= .alloc T:=by exact rfl)(W:o.dst=some d:=by exact rfl)(Z:Nat.blt d cx.n=true:=by exact rfl)(hc:z.cells=zs.toArray:=by exact rfl):DJ cx Q o e I H C:=a5B O W Z N hc k
theorem JM{T d x z zs}(W:o.op= .box T x)(Z:o.dst=some d)(hn:aO d cx.n=true)(hx:ev e x=some z)(hc:z.cells=zs.toArray)
 (k:∀b,cx.w0.heap.size≤b→C ((d,ptr b 0)::e) I ((b,yX T zs)::H)):DJ cx Q o e I H C:=by
 intro K hK a w N O;unfold Oper.wp;have:(execOp a.eval o).run cx.P w= .ok (.value (ptr w.heap.size 0)) { w with heap:=w.heap.push (yX T zs) }:=by
  simp[execOp,W,Instr.box,N.eval hx,newVar,newRow,hc,yX]
 rw[this];simp only[aP,Z];exact hK _ _ _ (k _ O.size) _ _ (N.put hn) (O.alloc _)
theorem CS{x y T t b off} i {cs N vs v H' n}(ho:o.op= .store T x y)(hd:o.dst=none)(hx:ev e x=some (ptr b off))(hy:ev e y=some v)
 (hv:v.cells=vs.toArray)(h1:vs.all bZ=true)(Z:∀w,(sizeOf T).run cx.P w= .ok n w)(a0:vs.length=n)(hH:H[i]?=some (b,yX t cs))(O:AL cs off vs N)(a1:AU H i (b,yX t N) H')
 (k:C e I H'):DJ cx Q o e I H C:=by
 intro K hK a w W hs;unfold Oper.wp;have hb:=hs.own _ (aK hH);have a2:=KJ (P:=cx.P) (t:=t) vs 0 w cs hb (.inl rfl) O.1 (fun u hu=>(bM.1 h1) u hu) N O;have:(execOp a.eval o).run cx.P w= .ok .skip (World.block w b (yX t N)):=by
  simp[execOp,ho,fZ,bH,W.eval hx,W.eval hy,storeVar,hv,Z,a0,a2,yX]
 rw[this];simp only[aP,hd];exact hK _ _ _ k _ _ W.WE (hs.block hH a1)
theorem BZ{x y:Operand}{T t b off:Nat}(i:Nat){cs N vs:List Value}{v:Value}{H':HL}{n:Nat}(O:∀w,(sizeOf T).run cx.P w= .ok n w)(W:AL cs off vs N)(Z:AU H i (b,yX t N) H')(k:C e I H')(ho:o.op= .store T x y:=by exact rfl)(hd:o.dst=none:=by exact rfl)(hx:ev e x=some (ptr b off):=by exact rfl)(hy:ev e y=some v:=by exact rfl)(hv:v.cells=vs.toArray:=by exact rfl)(h1:vs.all Value.oneCell'=true:=by exact rfl)(a0:vs.length=n:=by exact rfl)(hH:H[i]?=some (b,yX t cs):=by exact rfl):DJ cx Q o e I H C:=CS i ho hd hx hy hv h1 O a0 hH W Z k
theorem KZ{T E d len sz}{parts:List (Nat×Operand)}{vs z N}(ho:o.op= .buildSlice T len parts.toArray)(hd:o.dst=some d)(hn:aO d cx.n=true)
 (hu:cx.P.underlying T=some (.slice E))(W:∀w,(sizeOf E).run cx.P w= .ok sz w)(hz:∀w,(zeroValue E).run cx.P w= .ok z w)(O:(Nat.ble (len*sz) (2 ^ 24) && aO 0 (len*sz))=true)
 (hv:evs e (parts.map (·.2))=some vs)(hi:parts.map (·.1)=dW 0 vs.length)(hl:vs.length=len)(Z:EH vs sz N)
 (k:∀b,cx.w0.heap.size≤b→C ((d,.slice (some ⟨b,0,none⟩) len len)::e) I ((b,yX E N)::H)):DJ cx Q o e I H C:=by
 intro K hK a w ha hs;unfold Oper.wp;have hp:(parts.toArray.map fun(i,x)=>(i,a.eval x)).toList=(dW 0 vs.length).zip vs:=by
  have h:=ha.WI hv;rw[←hi,←h];simp[gB,dN]
 have a0:¬(len*sz>2 ^ 24):=by
  simp only[aZ,Nat.ble_eq]at O;omega
 have a1:¬(len*sz=0):=by
  simp only[aZ,Nat.blt_eq]at O;omega
 have a2:dJ (fun i=>some (i*sz,sz)) ((fE (len*sz)).map (z.cells[· % z.cells.size]!)) ((dW 0 vs.length).zip vs)=some N.toArray:=by
  have h0:((fE (len*sz)).map (z.cells[· % z.cells.size]!))=([]++((fE (len*sz)).map (z.cells[· % z.cells.size]!)).toList).toArray:=by rw[fJ,Array.toArray_toList]
  rw[h0,b2d vs 0 [] _ Z.1 sI (by simp[hl]),Z.2];simp
 have:(execOp a.eval o).run cx.P w= .ok (.value (.slice (some ⟨w.heap.size,0,none⟩) len len)) { w with heap:=w.heap.push (yX E N) }:=by
  simp only[execOp,ho,Instr.buildSlice,aG,run_underlying hu,aA,W,a0,a1,if_false,aI,hz,hp,a2,newRow,run_newObj,yX]
 rw[this];simp only[aP,hd];exact hK _ _ _ (k _ hs.size) _ _ (ha.put hn) (hs.alloc _)
theorem ER{T E d len sz:Nat}{parts:List (Nat×Operand)}{vs:List Value}{z:Value}{N:List Value}(Z:cx.P.underlying T=some (.slice E))(W:∀w,(sizeOf E).run cx.P w= .ok sz w)(hz:∀w,(zeroValue E).run cx.P w= .ok z w)(hf:EH vs sz N)(k:∀b,cx.w0.heap.size≤b→C ((d,.slice (some ⟨b,0,none⟩) len len)::e) I ((b,yX E N)::H))(ho:o.op= .buildSlice T len parts.toArray:=by exact rfl)(hd:o.dst=some d:=by exact rfl)(hn:Nat.blt d cx.n=true:=by exact rfl)(O:(Nat.ble (len*sz) (2 ^ 24) && Nat.blt 0 (len*sz))=true:=by exact rfl)(hv:evs e (parts.map (·.2))=some vs:=by exact rfl)(hi:parts.map (·.1)=List.range' 0 vs.length:=by exact rfl)(hl:vs.length=len:=by exact rfl):DJ cx Q o e I H C:=KZ ho hd hn Z W hz O hv hi hl hf k
end
def Enters (P:Program) (f:FuncId):Prop:=∃fn,P.funcs[f]?=some fn∧fn.name≠ "runtime.NumGoroutine" ∧fn.body.isNone=false
def Ready (I:Heap) (H:HL) (w:World):Prop:=(∀b o,I b=some o→w.heap[b]?=some o)∧(∀p∈H,w.heap[p.1]?=some p.2)∧(H.map (·.1)).Nodup∧∀p∈H,I p.1=none
def RR (w0:World) (D:List Nat) (I0:Heap) (post:Ending→Heap→HL→Prop):Ending→World→Prop:=
 fun e w'=>∃I' H',St w0 D I0 I' H' w'∧post e I' H'
def yY (P:Program) (f:FuncId) (args:List Value) (I:Heap) (H:HL) (post:Ending→Heap→HL→Prop):Prop:=
 Enters P f∧∀w,Ready I H w→Calls P f args.toArray w (RR w (H.map (·.1)) I post)
theorem yY.mono{P f args I H}{W N:Ending→Heap→HL→Prop}(h:yY P f args I H W)
 (hp:∀e O H',Le I O→W e O H'→N e O H'):yY P f args I H N:=
 ⟨h.1,fun w hw=>(h.2 w hw).mono fun e _ ⟨O,H',Z,hq⟩=>⟨O,H',Z,hp e O H' Z.le hq⟩⟩
def Pure (P:Program) (f:FuncId) (args:List Value) (I:Heap) (v:Value):Prop:=yY P f args I [] (fun e I' H'=>e= .returned v∧I'=I∧H'=[])
theorem OX{P f}(h:Enters P f) args w:(callFunc f args).run P w= .ok (.enter f args) w:=by
 obtain⟨fn,h1,h2,h3⟩:=h;have N:(fn.name == "runtime.NumGoroutine")=false:=by simpa using h2
 simp only[callFunc,aG,run_program,aA,h1,N,h3,bG,if_false,aI]
section
variable {cx:Cx} {Q:Qt} {o:Oper} {e:Env} {I:Heap} {C:Ct}
theorem zM{H1 R d f fo xs ts fst cap vs}{W:Ending→Heap→HL→Prop}
 (ho:o.op= .call ⟨.value fo,xs.toArray,ts⟩)(hd:o.dst=some d)(hn:aO d cx.n=true)(hf:ev e fo=some (.func (.func f) fst.toArray cap.toArray))(hx:evs e xs=some vs)
 (hs:yY cx.P f (fst++vs++cap) I H1 W)
 (k:∀v O N,Le I O→W (.returned v) O N→C ((d,v)::e) O (N++R))
 (kp:∀ch O N,Le I O→W (.panicked ch) O N→Ej cx Q (.panic ch) e O (N++R))
 (ko:∀O N,¬W .outgrown O N):DJ cx Q o e I (H1++R) C:=by
 intro K hK a w ha Z;unfold Oper.wp;have hr:(execOp a.eval o).run cx.P w= .ok (.enter f (fst++vs++cap).toArray) w:=by
  have a4:xs.toArray.map a.eval=vs.toArray:=by
   rw[fF,ha.WI hx]
  simp only[execOp,ho,resolve,a4,ha.eval hf,Deferred.ofValue,invoke,aG,aI,aA,OX hs.1];simp
 rw[hr];simp only[aP];have a0:Ready I H1 w:=⟨Z.sub,fun p hp=>Z.own p (aY _ hp),by
  have:=Z.nodup;rw[dR,dG]at this;exact this.1,fun p hp=>Z.dis p (aY _ hp)⟩
 refine(hs.2 w a0).mono ?_;rintro en w' ⟨O,N,a2,hp⟩;have a3:=a2.le;have a1:=Z.call a2;cases en with
 |returned v=>
  rw[hd];exact hK _ _ _ (k v O N a3 hp) _ _ (ha.put hn) a1
 |panicked ch=>exact kp ch O N a3 hp _ _ ha a1
 |outgrown=>exact(ko _ _ hp).elim
theorem JC{H d f O xs ts fst cap vs v}
 (Z:o.op= .call ⟨.value O,xs.toArray,ts⟩)(hd:o.dst=some d)(hn:aO d cx.n=true)(hf:ev e O=some (.func (.func f) fst.toArray cap.toArray))(hx:evs e xs=some vs)
 (hs:Pure cx.P f (fst++vs++cap) I v)(k:C ((d,v)::e) I H):DJ cx Q o e I H C:=
 zM (H1:=[]) (R:=H) Z hd hn hf hx hs
  (fun u W N _ ⟨h1,h2,h3⟩=>by cases h1;subst h2;subst h3;exact k) (fun _ W N _ ⟨h1,_⟩=>by cases h1) (fun W N ⟨h1,_⟩=>by cases h1)
end
theorem yY.b3Q{P f fn c args I H}{N:Ending→Heap→HL→Prop}(Z:P.funcs[f]?=some fn)(hb:fn.body=some c)(W:fn.name≠ "runtime.NumGoroutine")
 (hn:args.length≤fn.ntmps)
 (h:∀w0,Ready I H w0→Cj ⟨P,fn.ntmps,w0,H.map (·.1),I,[],none⟩ (bodyPost P fn (RR w0 (H.map (·.1)) I N)) c (NR 0 args) I H):yY P f args I H N:=by
 refine⟨⟨fn,Z,W,by simp[hb]⟩,fun w O=>?_⟩;refine calls_of_wp Z hb ?_;exact(h w O).wp rfl (Has.start args fn.ntmps hn) (St.start w I H O.1 O.2.1 O.2.2.1 O.2.2.2)
theorem IU{x}(h: -9223372036854775808≤x∧x≤9223372036854775807):IntKind.i64.wrap x=x:=IntWalk.i64_in _ h
section
variable {cx:Cx} {fn:Func} {post:Ending→Heap→HL→Prop} {e:Env} {I:Heap} {H:HL}
theorem Ej.ZO{t v}(W:fn.results= #[.tmp t])(N:cx.ds=[])(Z:eg e t=some v)(hp:post (.returned v) I H):Ej cx (bodyPost cx.P fn (RR cx.w0 cx.D cx.I0 post)) .ret e I H:=by
 intro a w O hs;refine⟨O.defs.trans N,v,?_,I,H,hs,hp⟩;rw[results_tmp W];have:=O.get t v Z;simp[this]
theorem Ej.c4Z{t u v x}(W:fn.results= #[.tmp t,.tmp u])(O:cx.ds=[])(Z:eg e t=some v)(hx:eg e u=some x)(hp:post (.returned (.tuple #[v,x])) I H):
 Ej cx (bodyPost cx.P fn (RR cx.w0 cx.D cx.I0 post)) .ret e I H:=by
 intro a w N hs;refine⟨N.defs.trans O,_,?_,I,H,hs,hp⟩;rw[results_tmp2 W];have h1:=N.get t v Z;have h2:=N.get u x hx;simp[h1,h2]
theorem Ej.a5u(O:fn.results= #[])(N:cx.ds=[])(W:post (.returned (.tuple #[])) I H):Ej cx (bodyPost cx.P fn (RR cx.w0 cx.D cx.I0 post)) .ret e I H:=
 fun _ _ Z hs=>⟨Z.defs.trans N,_,results_none O _ _ _,I,H,hs,W⟩
theorem Ej.QW(O:fn.results= #[])(N:cx.ds=[])(W:post (.returned (.tuple #[])) I H):Ej cx (bodyPost cx.P fn (RR cx.w0 cx.D cx.I0 post)) .normal e I H:=
 fun _ _ Z hs=>⟨Z.defs.trans N,_,results_none O _ _ _,I,H,hs,W⟩
end
def Pull (H:HL) (p:Nat×Obj) (H':HL):Prop:=(p::H').Perm H
theorem Pull.z{p r}:Pull (p::r) p r:=List.Perm.refl _
theorem Pull.s{p q r N}(h:Pull r p N):Pull (q::r) p (q::N):=(List.Perm.swap q p N).trans (List.Perm.cons q h)
def Keeps (H' H:HL):Prop:=H'.Sublist H
theorem Keeps.n:Keeps [] []:=List.Sublist.slnil
theorem Keeps.r{r}:Keeps r r:=List.Sublist.refl r
theorem Keeps.k{p r N}(h:Keeps N r):Keeps (p::N) (p::r):=dX p h
theorem Keeps.d{p r N}(h:Keeps N r):Keeps N (p::r):=List.Sublist.cons p h
section
variable {cx:Cx} {Q:Qt} {e:Env} {I:Heap} {H H':HL} {p:Nat×Obj}
theorem Cj.pull{c}(h:Pull H p H')(k:Cj cx Q c e I (p::H')):Cj cx Q c e I H:=Cj.perm h k
theorem J.pull{N l}(h:Pull H p H')(k:J cx Q N l e I (p::H')):J cx Q N l e I H:=J.perm h k
theorem Ej.pull{x}(h:Pull H p H')(k:Ej cx Q x e I (p::H')):Ej cx Q x e I H:=Ej.perm h k
theorem DJ.pull{o C}(h:Pull H p H')(k:DJ cx Q o e I (p::H') C):DJ cx Q o e I H C:=DJ.perm h k
theorem Ej.bare{x}(k:Ej cx Q x e I []):Ej cx Q x e I H:=Ej.keep (List.nil_sublist _) k
theorem J.split{N l} d {b}(O:eg e d=some (.bool b))(h1:b=true→J cx Q N l e I H)(h0:b=false→J cx Q N l e I H):J cx Q N l e I H:=by
 cases b
 ·exact h0 rfl
 exact h1 rfl
theorem Cj.persist{c b o}(W:cx.w0.heap.size≤b)(k:∀N,Le I N→N b=some o→Cj cx Q c e N H):Cj cx Q c e I ((b,o)::H):=
 fun a w Z O=>k _ (a4f (O.dis _ (.head _))) (YR b o I) a w Z (O.persist W)
theorem J.persist{N l b o}(Z:cx.w0.heap.size≤b)(k:∀O,Le I O→O b=some o→J cx Q N l e O H):J cx Q N l e I ((b,o)::H):=
 fun a w ha W=>k _ (a4f (W.dis _ (.head _))) (YR b o I) a w ha (W.persist Z)
theorem Ej.persist{x b o}(W:cx.w0.heap.size≤b)(k:∀N,Le I N→N b=some o→Ej cx Q x e N H):Ej cx Q x e I ((b,o)::H):=
 fun a w Z O=>k _ (a4f (O.dis _ (.head _))) (YR b o I) a w Z (O.persist W)
end
def sel:List Nat→HL→HL
 |[],_=>[]
 | i::r,H=>match H[i]? with
   |some p=>p::sel r H
   |none=>sel r H
def HSub:HL→HL→Prop
 |[],_=>True
 |p::r,H=>p∈H∧HSub r H
theorem HSub.mem:∀{A H:HL},HSub A H→∀p∈A,p∈H
 |_::_,_,⟨h,_⟩,_,.head _=>h
 |_::_,_,⟨_,h⟩,_,.tail _ hp=>HSub.mem h _ hp
theorem HSub.n{H}:HSub [] H:=trivial
theorem HSub.c{p r H}(i:Nat)(h:H[i]?=some p)(t:HSub r H):HSub (p::r) H:=⟨aK h,t⟩
def CSub:CL→HL→Prop
 |[],_=>True
 |c::r,H=>(∃cs t fr,(c.1,fU (List.toArray cs) t fr)∈H∧cs[c.2.1]?=some c.2.2)∧CSub r H
theorem CSub.n{H}:CSub [] H:=trivial
theorem CSub.cell:∀{Z:CL} {H:HL} {w:World},CSub Z H→(∀p∈H,w.heap[p.1]?=some p.2)→∀c∈Z,w.cell? ⟨c.1,c.2.1,none⟩=some c.2.2
 |_::_,_,_,⟨⟨_,_,_,h1,h2⟩,_⟩,hw,_,.head _=>cell_of_heap (hw _ h1) h2
 |_::_,_,_,⟨_,h⟩,hw,_,.tail _ hc=>CSub.cell h hw _ hc
def waits (ops:Array Oper) (i:Nat):Nat→Nat→Bool
 |0,_=>false
 | f+1,j=>match ops[j]? with
   |none=>false
   |some o=>o.after.any (fun e=>aS .any e && (e.on == i || waits ops i f e.on))
def Closed (ops:Array Oper) (listed:Array Bool):Prop:=∀j o,ops[j]?=some o→listed.getD j false=true→∀e∈o.after,aS .any e=true→listed.getD e.on false=true
def b3I (ops:Array Oper) (listed:Array Bool):Bool:=(List.range ops.size).all fun j=> !(listed.getD j false) || (match ops[j]? with
 |none=>true
 |some o=>o.after.all fun e=> !(aS .any e) || listed.getD e.on false)
theorem Closed.of{O N}(h:b3I O N=true):Closed O N:=by
 intro j o W hj e he hb;have Z:j<O.size:=(Array.getElem?_eq_some_iff.1 W).1;have h1:=bM.1 h j (List.mem_range.2 Z);rw[hj,W]at h1;simp only[Bool.not_true,Bool.false_or]at h1;have h2:=Array.all_eq_true'.1 h1 e he;rw[hb]at h2;simpa using h2
theorem Closed.set{O N j oj}(h:Closed O N)(hj:O[j]?=some oj)(W:∀e∈oj.after,aS .any e=true→N.getD e.on false=true):Closed O (N.setIfInBounds j true):=by
 intro k o Z hk e he hb
 by_cases hjk:j=k
 ·subst hjk;rw[hj]at Z;cases Z;exact getD_set_true (W e he hb)
 rw[getD_set_ne false hjk]at hk;exact getD_set_true (h k o Z hk e he hb)
theorem a8e{O N i}(Z:Closed O N)(hi:N.getD i false=false):∀(f j:Nat) (o:Oper),O[j]?=some o→waits O i f j=true→∃e∈o.after,aS .any e=true∧N.getD e.on false=false
 |0,_,_,_,h=>by cases h
 |f+1,j,o,ho,h=>by
  simp only[waits,ho]at h;obtain⟨e,he,W⟩:=Array.any_eq_true'.1 h;rw[aZ,Bool.or_eq_true,beq_iff_eq]at W;refine⟨e,he,W.1,?_⟩;rcases W.2 with h1|h1
  ·rw[h1];exact hi
  cases hl:N.getD e.on false with
  |false=>rfl
  |true=>
   cases ho2:O[e.on]? with
   |none=>cases f<;>simp[waits,ho2]at h1
   |some o2=>
    obtain⟨e2,a0,a1,hn⟩:=a8e Z hi f e.on o2 ho2 h1;rw[Z e.on o2 ho2 hl e2 a0 a1]at hn;cases hn
def zok (ops:Array Oper) (listed:Array Bool) (z i:Nat):Bool:=match ops[z]? with
 |none=>true
 |some _=>b3I ops listed && (i != z && waits ops i ops.size z)
def RF (P:Program) (ops:Array Oper) (Q:Qt) (S:World→Prop) (z:Nat):Nat→Array Bool→Act→World→Prop
 |0,listed,a,w=>aF .any ops listed=[]∧Q .normal a w
 | fuel+1,listed,a,w=>(aF .any ops listed=[]→Q .normal a w)∧
   ∀i∈aF .any ops listed,wpOp P ops Q i (fun a' w'=>(i≠z→S w')∧RF P ops Q S z fuel (listed.setIfInBounds i true) a' w') a w
theorem a2j{P O Q}{S:World→Prop}{z}:∀(fuel:Nat) (N:Array Bool) (a:Act) (w:World),RF P O Q S z fuel N a w→wpAny P .any O Q fuel N a w
 |0,_,_,_,h=>h
 |fuel+1,_,_,_,h=>⟨h.1,fun i W=>wpOp_mono (fun Z w' h'=>a2j fuel _ Z w' h'.2) (h.2 i W)⟩
theorem a9s{N:Array Bool}{i}{Z:Oper}(hr:N.getD i true=false)(O:∀e∈Z.after,aS .any e=true→N.getD e.on false=true):∀e∈Z.after,aS .any e=true→e.on≠i:=fun e he hb a0=>by
 have h1:=O e he hb;rw[a0]at h1;rcases aU i N.size with W|W
 ·simp[W]at hr h1;rw[hr]at h1;cases h1
 simp[aH W]at h1
theorem b0K{P O Q}{S:World→Prop}{z i oi v}(hz:∀oz,O[z]?=some oz→i≠z∧waits O i O.size z=true)(hi:O[i]?=some oi)(a2:∀(j:Nat) (o:Oper) cs b,O[j]?=some o→o.op≠ .select cs b)
 (hQ:∀c a w,Q (.panic c) (a.put oi.dst v) w→Q (.panic c) a w):∀(W:Nat) (N:Array Bool) (a:Act) (w:World),
  (∀j oj,O[j]?=some oj→j≠i→N.getD j true=false→(∀e∈oj.after,aS .any e=true→e.on≠i)→oi.apart O oj=true)→
  (∀oz,O[z]?=some oz→Closed O N)→i∈aF .any O N→YieldsIf P O S oi v a→S w→
  RF P O Q S z W (N.setIfInBounds i true) (a.put oi.dst v) w→RF P O Q S z (W+1) N a w:=by
 intro W
 induction W with
 |zero=>
  intro N a w _ _ hr hy hS H;refine⟨fun h=>(by rw[h]at hr;cases hr),fun j hj=>?_⟩
  by_cases hji:j=i
  ·subst hji;exact hy.wpOp hi hS ⟨fun _=>hS,H⟩
  have:=ready_mono hj hji;rw[H.1]at this;cases this
 |succ W ih=>
  intro N a w a1 a5 hr hy hS H;refine⟨fun h=>(by rw[h]at hr;cases hr),fun j hj=>?_⟩
  by_cases hji:j=i
  ·subst hji;exact hy.wpOp hi hS ⟨fun _=>hS,H⟩
  have h1:=H.2 j (ready_mono hj hji);obtain⟨a3,oj,Z,a0⟩:=mem_ready.1 hj;have a8:=a9s (i:=i) (mem_ready.1 hr).1 a0;have a9:N.getD i false=false:=by
   have h0:=(mem_ready.1 hr).1;rcases aU i N.size with h'|h'
   ·simp[h']at h0 ⊢;exact h0
   simp[aH h']
  have a6:j≠z:=fun he=>by
   subst he;obtain⟨e,he,hb,hn⟩:=a8e (a5 oj Z) a9 _ j oj Z (hz oj Z).2;rw[a0 e he hb]at hn;cases hn
  have h2:=wpOp_putIf Z (a1 j oj Z hji a3 a8) (fun cs b=>a2 i oi cs b hi) (fun cs b=>a2 j oj cs b Z) hQ hy h1
  have a4:∀k ok,O[k]?=some ok→k≠i→(N.setIfInBounds j true).getD k true=false→
   (∀e∈ok.after,aS .any e=true→e.on≠i)→oi.apart O ok=true:=fun k ok hk aa a7 ab=>by
   refine a1 k ok hk aa ?_ ab
   by_cases hjk:j=k
   ·subst hjk;exact a3
   rw[getD_set_ne true hjk]at a7;exact a7
  refine wpOp_mono (fun a' w' h3=>⟨fun _=>h3.2.1 a6,ih (N.setIfInBounds j true) a' w' a4 (fun oz ac=>(a5 oz ac).set Z a0) (ready_mono hr (Ne.symm hji)) h3.1 (h3.2.1 a6) ?_⟩) h2;rw[Array.setIfInBounds_comm _ _ hji];exact h3.2.2
theorem a0I{P O Q}{S:World→Prop}{z i oi v W N a w}(Z:zok O N z i=true)(hi:O[i]?=some oi)
 (hs:bV O=true)(hf:dY .any O N i=true)(hr:(aF .any O N).contains i=true)
 (hQ:∀c a w,Q (.panic c) (a.put oi.dst v) w→Q (.panic c) a w)(hy:YieldsIf P O S oi v a)(hS:S w)
 (h:RF P O Q S z W (N.setIfInBounds i true) (a.put oi.dst v) w):RF P O Q S z (W+1) N a w:=
 b0K (fun oz ho=>by
  simp only[zok,ho,aZ,bne_iff_ne]at Z;exact Z.2) hi (Region.noSelect_spec hs) hQ W N a w (Region.free_spec hi hf) (fun oz ho=>by
  simp only[zok,ho,aZ]at Z;exact Closed.of Z.1) (by simpa using hr) hy hS h
theorem XW{P O Q}{S:World→Prop}{z rs W N a w}(Z:aF .any O N=rs)(a0:rs≠[])
 (h:∀i∈rs,wpOp P O Q i (fun a' w'=>(i≠z→S w')∧RF P O Q S z W (N.setIfInBounds i true) a' w') a w):RF P O Q S z (W+1) N a w:=
 ⟨fun h0=>absurd (Z▸h0) a0,Z▸h⟩
theorem b3d{P O Q}{S:World→Prop}{z N a w}(Z:aF .any O N=[])(h:Q .normal a w):∀W,RF P O Q S z W N a w
 |0=>⟨Z,h⟩
 |_+1=>⟨fun _=>h,by rw[Z];simp⟩
def JA (cx:Cx) (Q:Qt) (l:List Oper) (I1:Heap) (A:HL) (Z:CL) (z:Nat) (fuel:Nat) (listed:Array Bool) (e:Env) (I:Heap) (H:HL):Prop:=
 ∀a w,Has a cx.n e cx.ds→St cx.w0 cx.D cx.I0 I H w→RF cx.P l.toArray Q (SC I1 A Z) z fuel listed a w
section
variable {cx:Cx} {Q:Qt} {e:Env} {I I1:Heap} {H A:HL} {Z:CL} {z:Nat} {l:List Oper}
def a1l (ops:Array Oper):Bool:=ops.toList.all fun o=>match o.op with
 | .defer _=>false
 |_=>true
theorem b5r{N}(h:a1l N=true){i:Nat}{o}(O:N[i]?=some o):∀c,o.op≠ .defer c:=by
 intro c W;have:=bM.1 h o (by have:=Array.mem_of_getElem? O;simpa using this);simp[W]at this
theorem ZW{rd P md O Q}(W:a1l O=true)(Z:¬LetsOut Q):∀(fuel:Nat) (N:Array Bool) (a:Act) (w:World),wpAny P md O Q fuel N a w→wpAnyIn { Fence.wide with round:=rd } 0 P md O Q fuel N a w
 |0,_,_,_,h=>h
 |fuel+1,N,a,w,h=>⟨h.1,fun i hi=>by
  have h2:=h.2 i hi;unfold wpOp at h2;unfold wpOpIn;cases ho:O[i]? with
  |none=>simp only[ho]at h2 ⊢;exact ZW W Z fuel _ _ _ h2
  |some o=>
   simp only[ho]at h2 ⊢
   split
   ·rename_i hw
    rw[zF hw]at h2;have a0:rd=none∨∀c,o.op≠ .defer c:= .inr (b5r W ho);rcases h2 with h2|⟨_,h2⟩
    ·exact Oper.wpIn_mono (fun a' w' h3=>ZW W Z fuel _ a' w' h3) (a4W a0 h2)
    exact(Z h2).elim
   rename_i hw
   rw[zD hw]at h2;exact⟨fun _ _=>trivial,ZW W Z fuel _ _ _ h2⟩⟩
theorem Cj.draw{id} A Z z (W:cx.P.follows .mixedOrders=true)(h:JA cx Q l I A Z z l.toArray.size (Array.replicate l.toArray.size false) e I H)(a0:cx.rd=none∨(a1l l.toArray=true∧¬LetsOut Q):=by first|exact .inl rfl|exact .inr ⟨rfl,fun h=>h.elim fun _ h=>h.elim fun _ h=>h⟩):Cj cx Q (.region id l.toArray true) e I H:=
 a0.elim (fun hr=>Cj.of_wp hr fun a _w N O=>wp_region_any W (a2j _ _ _ _ (h a _ N O.drew))) fun hd=>fun a _w N O=>wpIn_region_any W (ZW hd.1 hd.2 _ _ _ _ (a2j _ _ _ _ (h a _ N O.drew)))
theorem Cj.EX{id} is Z z (O:cx.P.follows .mixedOrders=true)(h:JA cx Q l I (sel is H) Z z l.toArray.size (Array.replicate l.toArray.size false) e I H)(N:cx.rd=none∨(a1l l.toArray=true∧¬LetsOut Q):=by first|exact .inl rfl|exact .inr ⟨rfl,fun h=>h.elim fun _ h=>h.elim fun _ h=>h⟩):Cj cx Q (.region id l.toArray true) e I H:=Cj.draw _ _ z O h N
theorem JA.pull{H' p O N}(h:Pull H p H')(k:JA cx Q l I1 A Z z O N e I (p::H')):JA cx Q l I1 A Z z O N e I H:=fun a w W h1=>k a w W (h1.perm h)
theorem JA.split{O N} d {b}(W:eg e d=some (.bool b))(h1:b=true→JA cx Q l I1 A Z z O N e I H)(h0:b=false→JA cx Q l I1 A Z z O N e I H):JA cx Q l I1 A Z z O N e I H:=by
 cases b
 ·exact h0 rfl
 exact h1 rfl
theorem JA.persist{O N b o}(hb:cx.w0.heap.size≤b)(k:∀W,Le I W→W b=some o→JA cx Q l I1 A Z z O N e W H):JA cx Q l I1 A Z z O N e I ((b,o)::H):=
 fun a w ha hs=>k _ (a4f (hs.dis _ (.head _))) (YR b o I) a w ha (hs.persist hb)
theorem JA.done{O N}(W:aF .any l.toArray N=[])(h:Ej cx Q .normal e I H):JA cx Q l I1 A Z z O N e I H:=
 fun a w ha hs=>b3d W (h a w ha hs) O
theorem EW{O:Nat}{N:Array Bool}(h:Ej cx Q .normal e I H)(W:Region.ready .any l.toArray N=[]:=by kernel_rfl):JA cx Q l I1 A Z z O N e I H:=JA.done W h
theorem JA.take{W N} i {o d v}(hz:zok l.toArray N z i=true)(hi:l.toArray[i]?=some o)(hs:bV l.toArray=true)(hf:dY .any l.toArray N i=true)
 (hr:(aF .any l.toArray N).contains i=true)(hq:∀c a w,Q (.panic c) (a.put (some d) v) w→Q (.panic c) a w)(hg:o.guard=none)(hd:o.dst=some d)(hn:aO d cx.n=true)(hA:HSub A H)(hZ:CSub Z H)(a0:Le I1 I)
 (hy:BO cx o e (SC I1 A Z) v)(k:JA cx Q l I1 A Z z W (N.setIfInBounds i true) ((d,v)::e) I H):JA cx Q l I1 A Z z (W+1) N e I H:=by
 intro a w ha O;have a1:SC I1 A Z w:=⟨⟨fun b o h=>O.sub b o (a0 b o h),fun p hp=>O.own p (hA.mem p hp)⟩,hZ.cell O.own⟩;refine a0I (oi:=o) hz (v:=v) hi hs hf hr (by rw[hd];exact hq) (.inl ⟨by simp[aC,hg],fun w' a2=>hy a w' ha a2⟩) a1 ?_;rw[hd];exact k _ _ (ha.put hn) O
theorem JA.c6h{W N} i {o d v} j dj a0 b (hz:zok l.toArray N z i=true)(hi:l.toArray[i]?=some o)(hs:bV l.toArray=true)(hf:dY .any l.toArray N i=true)
 (hr:(aF .any l.toArray N).contains i=true)(hq:∀c a w,Q (.panic c) (a.put (some d) v) w→Q (.panic c) a w)(hg:o.guard=some (j,a0))(a1:(l.toArray[j]?).bind (·.dst)=some dj)(hv:eg e dj=some (.bool b))(hb:b=a0)
 (hd:o.dst=some d)(hn:aO d cx.n=true)(hA:HSub A H)(hZ:CSub Z H)(a2:Le I1 I)
 (hy:BO cx o e (SC I1 A Z) v)(k:JA cx Q l I1 A Z z W (N.setIfInBounds i true) ((d,v)::e) I H):JA cx Q l I1 A Z z (W+1) N e I H:=by
 intro a w ha O;have a3:SC I1 A Z w:=⟨⟨fun b o h=>O.sub b o (a2 b o h),fun p hp=>O.own p (hA.mem p hp)⟩,hZ.cell O.own⟩;refine a0I (oi:=o) hz (v:=v) hi hs hf hr (by rw[hd];exact hq) (.inl ⟨by simp[aC,hg,QF ha a1 hv,hb],fun w' a4=>hy a w' ha a4⟩) a3 ?_;rw[hd];exact k _ _ (ha.put hn) O
theorem JA.c6g{W N} i {o d} j dj a0 u (hz:zok l.toArray N z i=true)(hi:l.toArray[i]?=some o)(hs:bV l.toArray=true)(hf:dY .any l.toArray N i=true)
 (hr:(aF .any l.toArray N).contains i=true)(hq:∀c a w,Q (.panic c) (a.put (some d) undef) w→Q (.panic c) a w)(hg:o.guard=some (j,a0))(a1:(l.toArray[j]?).bind (·.dst)=some dj)(hv:eg e dj=some u)
 (hb:u= .bool (!a0)∨u=undef)(hd:o.dst=some d)(hn:aO d cx.n=true)(hA:HSub A H)(hZ:CSub Z H)(a2:Le I1 I)
 (k:JA cx Q l I1 A Z z W (N.setIfInBounds i true) ((d,undef)::e) I H):JA cx Q l I1 A Z z (W+1) N e I H:=by
 intro a w ha O;have a3:SC I1 A Z w:=⟨⟨fun b o h=>O.sub b o (a2 b o h),fun p hp=>O.own p (hA.mem p hp)⟩,hZ.cell O.own⟩;have hw:aC o (yielded l.toArray a.tmps)=false:=by
  have a4:=ha.get dj _ hv;rcases hb with rfl|rfl
  ·simp[aC,hg,QF ha a1 hv]
  have hy:yielded l.toArray a.tmps j=none:=by simp only[yielded,a1,dK,a4,undef]
  simp[aC,hg,hy]
 refine a0I (oi:=o) hz (v:=undef) hi hs hf hr (by rw[hd];exact hq) (.inr ⟨hw,rfl⟩) a3 ?_;rw[hd];exact k _ _ (ha.put hn) O
def QU (I1:Heap) (A:HL) (Z:CL) (I:Heap) (H:HL):Prop:=HSub A H∧CSub Z H∧Le I1 I
theorem JA.fix{O N}(h:QU I1 A Z I H)(k:QU I1 A Z I H→JA cx Q l I1 A Z z O N e I H):JA cx Q l I1 A Z z O N e I H:=k h
theorem JA.tk{O N} i {o d v}(hi:l.toArray[i]?=some o)(W:QU I1 A Z I H)(hy:BO cx o e (SC I1 A Z) v)(k:JA cx Q l I1 A Z z O (N.setIfInBounds i true) ((d,v)::e) I H)
 (hd:o.dst=some d:=by rfl)(hg:o.guard=none:=by rfl)(hn:Nat.blt d cx.n=true:=by rfl)(hz:zok l.toArray N z i=true:=by first|rfl|kernel_rfl)(hs:Region.noSelect l.toArray=true:=by kernel_rfl)(hf:Region.free .any l.toArray N i=true:=by kernel_rfl)
 (hr:(Region.ready .any l.toArray N).contains i=true:=by kernel_rfl)(hq:∀c a w,Q (.panic c) (a.put (some d) v) w→Q (.panic c) a w:=by exact fun _ _ _ h=>h):JA cx Q l I1 A Z z (O+1) N e I H:=
 JA.take i hz hi hs hf hr hq hg hd hn W.1 W.2.1 W.2.2 hy k
theorem JA.tkG{W N} i {o d v} j dj O b (hi:l.toArray[i]?=some o)(hx:QU I1 A Z I H)(a0:(l.toArray[j]?).bind (·.dst)=some dj)(hv:eg e dj=some (.bool b))(hb:b=O)(hy:BO cx o e (SC I1 A Z) v)
 (k:JA cx Q l I1 A Z z W (N.setIfInBounds i true) ((d,v)::e) I H)(hd:o.dst=some d:=by rfl)(hg:o.guard=some (j,O):=by rfl)(hn:Nat.blt d cx.n=true:=by rfl)(hz:zok l.toArray N z i=true:=by first|rfl|kernel_rfl)(hs:Region.noSelect l.toArray=true:=by kernel_rfl)
 (hf:Region.free .any l.toArray N i=true:=by kernel_rfl)(hr:(Region.ready .any l.toArray N).contains i=true:=by kernel_rfl)(hq:∀c a w,Q (.panic c) (a.put (some d) v) w→Q (.panic c) a w:=by exact fun _ _ _ h=>h):JA cx Q l I1 A Z z (W+1) N e I H:=
 JA.c6h i j dj O b hz hi hs hf hr hq hg a0 hv hb hd hn hx.1 hx.2.1 hx.2.2 hy k
theorem JA.tkS{W N} i {o d} j dj O u (hi:l.toArray[i]?=some o)(hx:QU I1 A Z I H)(a0:(l.toArray[j]?).bind (·.dst)=some dj)(hv:eg e dj=some u)(hb:u= .bool (!O)∨u=undef)
 (k:JA cx Q l I1 A Z z W (N.setIfInBounds i true) ((d,undef)::e) I H)(hd:o.dst=some d:=by rfl)(hg:o.guard=some (j,O):=by rfl)(hn:Nat.blt d cx.n=true:=by rfl)(hz:zok l.toArray N z i=true:=by first|rfl|kernel_rfl)(hs:Region.noSelect l.toArray=true:=by kernel_rfl)
 (hf:Region.free .any l.toArray N i=true:=by kernel_rfl)(hr:(Region.ready .any l.toArray N).contains i=true:=by kernel_rfl)(hq:∀c a w,Q (.panic c) (a.put (some d) undef) w→Q (.panic c) a w:=by exact fun _ _ _ h=>h):JA cx Q l I1 A Z z (W+1) N e I H:=
 JA.c6g i j dj O u hz hi hs hf hr hq hg a0 hv hb hd hn hx.1 hx.2.1 hx.2.2 k
theorem JA.step{W N} i {o}(hr:aF .any l.toArray N=[i])(hi:l.toArray[i]?=some o)(hg:o.guard=none)
 (k:DJ cx Q o e I H (fun e' I' H'=>(Le I1 I'∧HSub A H'∧CSub Z H')∧JA cx Q l I1 A Z z W (N.setIfInBounds i true) e' I' H')):JA cx Q l I1 A Z z (W+1) N e I H:=by
 intro a w ha a0;refine XW hr sI fun j hj=>?_;obtain rfl:j=i:=by simpa using hj
 unfold wpOp;simp only[hi];rw[zF (by simp[aC,hg])];refine .inl (k _ (fun e' I' H' ⟨⟨a1,hA,hZ⟩,hj⟩ a' w' a2 O=>⟨fun _=>⟨⟨fun b o h=>O.sub b o (a1 b o h),fun p hp=>O.own p (hA.mem p hp)⟩,hZ.cell O.own⟩,hj a' w' a2 O⟩) a w ha a0)
theorem zO{O:Nat}{N:Array Bool}(i:Nat){o:Oper}(hi:l.toArray[i]?=some o)(k:DJ cx Q o e I H (fun e' W H'=>(Le I1 W∧HSub A H'∧CSub Z H')∧JA cx Q l I1 A Z z O (N.setIfInBounds i true) e' W H'))(hr:Region.ready .any l.toArray N=[i]:=by kernel_rfl)(hg:o.guard=none:=by exact rfl):JA cx Q l I1 A Z z (O+1) N e I H:=JA.step i hr hi hg k
theorem JA.last{O N} i {o}(hr:aF .any l.toArray N=[i])(hz:i=z)(hi:l.toArray[i]?=some o)(hg:o.guard=none)
 (k:DJ cx Q o e I H (fun e' I' H'=>JA cx Q l I1 A Z z O (N.setIfInBounds i true) e' I' H')):JA cx Q l I1 A Z z (O+1) N e I H:=by
 intro a w ha a0;refine XW hr sI fun j W=>?_;obtain rfl:j=i:=by simpa using W
 unfold wpOp;simp only[hi];rw[zF (by simp[aC,hg])];refine .inl (k _ (fun e' I' H' W a' w' a1 a2=>⟨fun h=>absurd hz h,W a' w' a1 a2⟩) a w ha a0)
theorem JA.stepG{W N} i {o} j dj a0 b (hr:aF .any l.toArray N=[i])(hi:l.toArray[i]?=some o)(hg:o.guard=some (j,a0))
 (a1:(l.toArray[j]?).bind (·.dst)=some dj)(hv:eg e dj=some (.bool b))(hb:b=a0)
 (k:DJ cx Q o e I H (fun e' I' H'=>(Le I1 I'∧HSub A H'∧CSub Z H')∧JA cx Q l I1 A Z z W (N.setIfInBounds i true) e' I' H')):JA cx Q l I1 A Z z (W+1) N e I H:=by
 intro a w ha a2;refine XW hr sI fun j hj=>?_;obtain rfl:j=i:=by simpa using hj
 unfold wpOp;simp only[hi];rw[zF (by simp[aC,hg,QF ha a1 hv,hb])];refine .inl (k _ (fun e' I' H' ⟨⟨a3,hA,hZ⟩,hj⟩ a' w' a4 O=>⟨fun _=>⟨⟨fun b o h=>O.sub b o (a3 b o h),fun p hp=>O.own p (hA.mem p hp)⟩,hZ.cell O.own⟩,hj a' w' a4 O⟩) a w ha a2)
theorem JA.all{W N} rs (hr:aF .any l.toArray N=rs)(a0:rs≠[])
 (k:∀i∈rs,∃o,l.toArray[i]?=some o∧o.guard=none∧DJ cx Q o e I H (fun e' I' H'=>(Le I1 I'∧HSub A H'∧CSub Z H')∧JA cx Q l I1 A Z z W (N.setIfInBounds i true) e' I' H')):JA cx Q l I1 A Z z (W+1) N e I H:=by
 intro a w ha a1;refine XW hr a0 fun j hj=>?_;obtain⟨o,hi,hg,k⟩:=k j hj;unfold wpOp;simp only[hi];rw[zF (by simp[aC,hg])];refine .inl (k _ (fun e' I' H' ⟨⟨a2,hA,hZ⟩,hj⟩ a' w' a3 O=>⟨fun _=>⟨⟨fun b o h=>O.sub b o (a2 b o h),fun p hp=>O.own p (hA.mem p hp)⟩,hZ.cell O.own⟩,hj a' w' a3 O⟩) a w ha a1)
end
end Go.Sx
namespace Go.Sx
instance c6H:DR:=⟨false⟩
theorem a4V{p:Prop}:DR.b=true→p:=fun h=>nomatch h
theorem St.drewN{w0 w D I0 I H}(h:St w0 D I0 I H w) k:St w0 D I0 I H { w with drawn:=k }:=
 ⟨h.os,h.tape,h.output,h.size,h.frm,h.sub,h.own,h.nodup,h.dis,h.new,h.ifr,h.le,a4V⟩
theorem Ej.a1J{N fn}{O:Ending→Heap→HL→Prop}{e I H H' t T b n}{cs:List Value}{ty fr}(hk:Keeps H' H)(hr:fn.results= #[.cell t T])(W:N.ds=[])(hv:eg e t=some (ptr b 0))
 (hb:yZ (SS I H) b (.cells cs.toArray ty fr))(Z:∀w,(isAgg T).run N.P w= .ok true w)(a0:∀w,(sizeOf T).run N.P w= .ok n w)(hn:cs.length=n)(hp:O (.returned (.agg cs.toArray)) I H'):
 Ej N (bodyPost N.P fn (RR N.w0 N.D N.I0 O)) .ret e I H:=by
 intro a w ha hs;refine⟨ha.defs.trans W,_,?_,I,H',hs.sublist hk,hp⟩;have h1:=ha.get t _ hv;have hc:∀j v,cs[j]?=some v→w.cell? ((⟨b,0,none⟩:Addr).add j)=some v:=fun j v hj=>by
  rw[aV];exact cell_of_heap (hb w hs.ss) (by simpa using hj)
 have h2:=run_loadCells_list (P:=N.P) (w:=w) ⟨b,0,none⟩ cs hc;rw[hn]at h2;simp[results,hr,h1,asAddr,loadVar,Z,a0,h2]
theorem St.forget{w0 w D I0 I H}(h:St w0 D I0 I H w):St w0 D I0 I0 H w:=
 ⟨h.os,h.tape,h.output,h.size,h.frm,fun b o N=>h.sub b o (h.le b o N),h.own,h.nodup,fun p O=>(by
  cases hi:I0 p.1 with
  |none=>rfl
  |some o=>(have:=h.dis p O;rw[h.le _ _ hi]at this;cases this)),h.new,fun _ _=>rfl,Le.refl _,a4V⟩
theorem yY.forget{P f args I H}{O N:Ending→Heap→HL→Prop}(h:yY P f args I H O)
 (hp:∀e W H',Le I W→O e W H'→N e I H'):yY P f args I H N:=
 ⟨h.1,fun w hw=>(h.2 w hw).mono fun e _ ⟨W,H',Z,hq⟩=>⟨I,H',Z.forget,hp e W H' Z.le hq⟩⟩
theorem yY.toPure{P f args I v}(h:yY P f args I [] (fun e _ H'=>e= .returned v∧H'=[])):Pure P f args I v:=
 h.forget fun _ _ _ _ ⟨h1,h2⟩=>⟨h1,rfl,h2⟩
open Go
abbrev Gs:=Option (Nat×Nat×List Value)
def gH (E:TypeId) (xs:List Value):Gs→HL
 |none=>[]
 |some (b,_,sp)=>[(b,yX E (xs++sp))]
def gV (n:Nat):Gs→Value
 |none=> .slice none 0 0
 |some (b,c,_)=> .slice (some ⟨b,0,none⟩) n c
def BL (base sz n:Nat) (xs:List Value):Gs→Prop
 |none=>n=0∧xs=[]
 |some (b,c,sp)=>base≤b∧xs.length=n*sz∧xs.length+sp.length=c*sz
theorem BL.len{base sz n xs g}(h:BL base sz n xs g):xs.length=n*sz:=by
 cases g with
 |none=>obtain⟨rfl,rfl⟩:=h;simp
 |some p=>exact h.2.1
theorem BL.some{base sz n xs g}(h:BL base sz n xs g)(N:0<n):∃b c sp,g= .some (b,c,sp)∧base≤b:=by
 cases g with
 |none=>obtain⟨rfl,_⟩:=h;omega
 |some p=>exact⟨p.1,p.2.1,p.2.2,rfl,h.1⟩
theorem b9q{α:Type}(xs sp:List α) k:(xs++sp).drop (xs.length+k)=sp.drop k:=by
 rw[←fO,List.drop_left]
theorem b4h N:∀(r c:Nat),c≤2*N+768→fP N r c≤2*N+768
 |0,c,h=>h
 |r+1,c,h=>by
  unfold fP
  split
  ·exact h
  exact b4h N r _ oM
theorem b5x N cap (h:cap<N):bW N cap≤2*N+768:=by
 unfold bW
 split
 ·omega
 split
 ·omega
 exact b4h N 4 cap oM
theorem XQ{P w b off n}{cs xs:List Value}{t fr}(h:w.heap[b]?=some (.cells cs.toArray t fr))(O:(cs.drop off).take n=xs)(W:xs.length=n):
 (loadCells ⟨b,off,none⟩ n).run P w= .ok xs.toArray w:=by
 have Z:∀j v,xs[j]?=some v→w.cell? ((⟨b,off,none⟩:Addr).add j)=some v:=fun j v N=>by
  rw[aV];refine cell_of_heap h ?_;rw[←O,cZ]at N
  split at N
  ·simpa[dA]using N
  cases N
 have:=run_loadCells_list (P:=P) (w:=w) ⟨b,off,none⟩ xs Z
 rwa [W]at this
def Src (P:Program) (I:Heap) (H:HL) (sz m:Nat) (y:Value) (ys:List Value):Prop:=
 ys.length=m*sz∧ys.all bZ=true∧(∀w,SS I H w→(gG y).run P w= .ok m w)∧∀w,SS I H w→(aJ sz m y).run P w= .ok ys.toArray w
theorem Src.slice{P I H sz m b off c}{cs ys:List Value}{t fr}(O:yZ (SS I H) b (.cells cs.toArray t fr))(W:(cs.drop off).take (m*sz)=ys)(N:ys.length=m*sz)(h1:ys.all bZ=true):
 Src P I H sz m (.slice (some ⟨b,off,none⟩) m c) ys:=
 ⟨N,h1,fun _ _=>rfl,fun w Z=>by
  simp only[aJ];exact XQ (O w Z) W N⟩
theorem Src.nil{P I H sz c p}:Src P I H sz 0 (.slice p 0 c) []:=
 ⟨sI,rfl,fun _ _=>rfl,fun w _=>by
  cases p<;>simp[aJ,loadCells,loadCellsFrom]⟩
def EF (l:List UInt8):List Value:=l.map fun c=>u8 c
theorem Src.str{P:Program}{I:Heap}{H:HL}{l:List UInt8}:Src P I H 1 l.length (str l) (EF l):=by
 refine⟨by simp[EF],by simp[EF,bZ],fun _ _=>by simp[gG,Sx.str,size_mk],fun w _=>?_⟩;have N:(⟨l.toArray⟩:ByteArray).extract 0 l.length=⟨l.toArray⟩:=by
  apply ByteArray.ext
  simp[dV]
 simp only[aJ,Sx.str,N,aI,EF];simp
theorem ext_cons{e d v}(h:eg e d=some v):∀t u,eg ((d,v)::e) t=some u→eg e t=some u:=fun t u N=>by
 rw[a3L]at N
 by_cases hk:d=t
 ·subst hk;simp at N;subst N;exact h
 simpa[hk]using N
theorem Has.ext{a n e e' ds}(h:Has a n e ds)(N:∀t u,eg e' t=some u→eg e t=some u):Has a n e' ds:=⟨h.size,h.defs,fun t v O=>h.get t v (N t v O)⟩
theorem Cj.ext{N Q e e' I H c}(O:∀t u,eg e' t=some u→eg e t=some u)(h:Cj N Q c e' I H):Cj N Q c e I H:=fun a w W h1=>h a w (W.ext O) h1
theorem J.ext{O Q e e' I H N l}(W:∀t u,eg e' t=some u→eg e t=some u)(h:J O Q N l e' I H):J O Q N l e I H:=fun a w Z h1=>h a w (Z.ext W) h1
section
variable {cx:Cx} {Q:Qt} {o:Oper} {e:Env} {I:Heap} {H:HL} {C:Ct} {S:World→Prop}
theorem NG{T E d sz by' n m} base (a4:base≤cx.w0.heap.size){x y U g xs ys yv z} R (ho:o.op= .call ⟨.builtin .append,#[x,y],#[T,U]⟩)(hd:o.dst=some d)(hn:aO d cx.n=true)
 (hx:ev e x=some (gV n g))(hy:ev e y=some yv)(hu:cx.P.underlying T=some (.slice E))(hU:cx.P.underlying U=some .string∨∃E',cx.P.underlying U=some (.slice E'))
 (a5:(cx.P.info? E).map (·.bytes)=some (by'+1))(ab:∀w,(sizeOf E).run cx.P w= .ok sz w)(hz:∀w,(zeroValue E).run cx.P w= .ok z w)(ac:z.cells.size=sz)
 (hg:BL base sz n xs g)(hH:H=R++gH E xs g)(hs:Src cx.P I H sz m yv ys)(ax:(2*(n+m)+768)*(by'+1)≤281474976710656)
 (k:∀g',BL base sz (n+m) (xs++ys) g'→C ((d,gV (n+m) g')::e) I (R++gH E (xs++ys) g')):DJ cx Q o e I H C:=by
 intro K hK a w ha W;obtain⟨Z,am,ad,ae⟩:=hs;obtain⟨i,hi,an⟩:∃i,cx.P.info? E=some i∧i.bytes=by'+1:=by
  cases h:cx.P.info? E with
  |none=>rw[h]at a5;cases a5
  |some i=>rw[h]at a5;exact⟨i,rfl,by simpa using a5⟩
 have a6:=W.ss;have ay:=hg.len;unfold Oper.wp;have key:∃w' g',(execOp a.eval o).run cx.P w= .ok (.value (gV (n+m) g')) w'∧BL base sz (n+m) (xs++ys) g'∧St cx.w0 cx.D cx.I0 I (R++gH E (xs++ys) g') w':=by
  have ao:∀w',(typeInfo E).run cx.P w'= .ok i w':=fun w'=>by simp[typeInfo,hi]
  have af:∀(O:Option Addr) (c:Nat),gV n g= .slice O n c→(execOp a.eval o).run cx.P w=
   ((bD #[T,U] o.type #[.slice O n c,yv]).run cx.P w).andThen fun v w'=> .ok (.value v) w':=by
   intro O c hv;simp only[execOp,ho,resolve,invoke,builtin,aG,aI,aA,fF,bK,List.map_nil,ha.eval hx,ha.eval hy,hv]
  have a7:∀(O:Option Addr) (c:Nat),n+m≤c→(bD #[T,U] o.type #[.slice O n c,yv]).run cx.P w=
   (match O with
    |some a=>(storeCells (a.add (n*sz)) ys).run cx.P w
    |none=> .ok () w).andThen fun _ w'=> .ok (.slice O (n+m) c) w':=by
   intro O c N;rcases hU with a2|⟨E',a2⟩<;>cases O<;>simp[bD,run_underlying hu,run_underlying a2,ab,ad w a6,ae w a6,N]
  have grows:∀(O:Option Addr) (c:Nat) (a8:Array Value),¬n+m≤c→c<n+m→(∀w',SS I H w'→(aJ sz n (.slice O n c)).run cx.P w'= .ok a8 w')→
   (bD #[T,U] o.type #[.slice O n c,yv]).run cx.P w=
    let cap:=(aT (n+m) c E).cut (w.tape w.drawn (.appendCap (n+m) c E))
    .ok (.slice (some ⟨w.heap.size,0,none⟩) (n+m) cap) { { w with drawn:=w.drawn+1 }with heap:=w.heap.push (.cells (a8++ys.toArray++aB z.cells (cap-(n+m))) E (0,0)) }:=by
   intro O c a8 N hc a3;have ap:¬(2 ^ 48<bW (n+m) c*i.bytes):=by
    have:=b5x (n+m) c hc;rw[an];have h2:=eG (by'+1) this;have h3:(2:Nat) ^ 48=281474976710656:=dE;omega
   have aq:¬i.bytes=0:=oM;have a9:SS I H { w with drawn:=w.drawn+1 }:=a6;rcases hU with a2|⟨E',a2⟩<;>simp only[bD,List.getElem?_toArray,List.getElem?_cons_zero,dP,aG,aI,run_underlying hu,run_underlying a2,aA,ab,ad w a6,bG,if_false,Sem.run_ite,N,ao,ap,aq,false_or,and_false,gt_iff_lt,run_choose,fK,run_askRoom,a3 _ a9,Bool.not_false,if_true,ae _ a9,hz,newRow,run_newObj]
  cases g with
  |none=>
   obtain⟨rfl,rfl⟩:=hg;rw[af none 0 rfl];have ar:∀w',SS I H w'→(aJ sz 0 (.slice none 0 0)).run cx.P w'= .ok #[] w':=fun w' _=>by simp[aJ]
   by_cases hm:m=0
   ·subst hm;have au:ys=[]:=bI.1 (by simpa using Z);subst au;refine⟨w,none,?_,⟨sI,sI⟩,by simpa[gH,hH]using W⟩;rw[a7 none 0 oM];simp[gV]
   rw[grows none 0 #[] oM oM ar]
   let cap:=(aT (0+m) 0 E).cut (w.tape w.drawn (.appendCap (0+m) 0 E))
   refine⟨{ { w with drawn:=w.drawn+1 }with heap:=w.heap.push (.cells (#[]++ys.toArray++aB z.cells (cap-(0+m))) E (0,0)) },some (w.heap.size,cap,(aB z.cells (cap-(0+m))).toList),?_,?_,?_⟩
   ·rfl
   ·have ag:m≤cap:=by simp only[cap,gK];omega
    refine⟨bU a4 W.size,by simp[Z],?_⟩;simp only[aB,eP,fQ,fG,fJ,Z,ac];rw[←aW]
    congr 1;omega
   have h0:=(W.drewN (w.drawn+1)).alloc (.cells (#[]++ys.toArray++aB z.cells (cap-(0+m))) E (0,0));have a1:(fU (#[]++ys.toArray++aB z.cells (cap-(0+m))) E (0,0))=yX E ([]++ys++(aB z.cells (cap-(0+m))).toList):=by
    simp[yX]
   rw[a1]at h0 ⊢;subst hH;simp only[gH,List.append_nil]at h0 ⊢;refine h0.perm ?_;exact eF
  |some p=>
   obtain⟨b,c,sp⟩:=p;obtain⟨av,a0,_⟩:=hg;rw[af (some ⟨b,0,none⟩) c rfl];have aa:(b,yX E (xs++sp))∈H:=by rw[hH];simp[gH]
   have ah:=W.own _ aa
   by_cases N:n+m≤c
   ·rw[a7 _ _ N];have az:ys.length≤sp.length:=by
     have:(n+m)*sz≤c*sz:=eG sz N;rw[aW]at this;omega
    have ai:AL (xs++sp) (n*sz+0) ys (xs++ys++sp.drop ys.length):=by
     refine⟨by simp only[dD];omega,?_⟩;rw[Nat.add_zero,←a0,fM rfl,b9q]
    have aj:=KJ (P:=cx.P) (b:=b) (off:=n*sz) (t:=E) ys 0 w (xs++sp) ah (.inl rfl) (by simp only[dD];omega) (fun u hu=>(bM.1 am) u hu) _ ai;refine⟨World.block w b (.cells (xs++ys++sp.drop ys.length).toArray E (0,0)),some (b,c,sp.drop ys.length),?_,?_,?_⟩
    ·simp only[aA,aV,Nat.zero_add,aj,gV]
    ·exact⟨av,by simp[a0,Z,aW],by simp;omega⟩
    subst hH;have al:(R++gH E xs (some (b,c,sp)))[R.length]?=some (b,yX E (xs++sp)):=by simp[gH]
    have hset:AU (R++gH E xs (some (b,c,sp))) R.length (b,yX E (xs++ys++sp.drop ys.length)) (R++gH E (xs++ys) (some (b,c,sp.drop ys.length))):=by
     refine⟨by simp[gH],?_⟩;rw[bP _ _ (cO _)];simp[gH]
    exact W.block al hset
   have a3:∀w',SS I H w'→(aJ sz n (.slice (some ⟨b,0,none⟩) n c)).run cx.P w'= .ok xs.toArray w':=fun w' aw=>
    XQ (cs:=xs++sp) (aw.2 _ aa) (by rw[List.drop_zero,←a0,fM];rfl) a0
   rw[grows _ _ _ N oM a3]
   let cap:=(aT (n+m) c E).cut (w.tape w.drawn (.appendCap (n+m) c E))
   refine⟨{ { w with drawn:=w.drawn+1 }with heap:=w.heap.push (.cells (xs.toArray++ys.toArray++aB z.cells (cap-(n+m))) E (0,0)) },some (w.heap.size,cap,(aB z.cells (cap-(n+m))).toList),?_,?_,?_⟩
   ·rfl
   ·have ag:n+m≤cap:=by simp only[cap,gK];omega
    refine⟨bU a4 W.size,by simp[a0,Z,aW],?_⟩;simp only[aB,eP,fQ,fG,dD,a0,Z,ac];rw[←aW,←aW]
    congr 1;omega
   have h0:=(W.drewN (w.drawn+1)).alloc (.cells (xs.toArray++ys.toArray++aB z.cells (cap-(n+m))) E (0,0));have a1:(fU (xs.toArray++ys.toArray++aB z.cells (cap-(n+m))) E (0,0))=yX E (xs++ys++(aB z.cells (cap-(n+m))).toList):=by
    simp[yX]
   rw[a1]at h0 ⊢;subst hH;have h1:=h0.sublist (H':=(w.heap.size,yX E (xs++ys++(aB z.cells (cap-(n+m))).toList))::R) (dX _ (List.sublist_append_left _ _));refine h1.perm ?_;exact eF
 obtain⟨w',g',h1,h2,h3⟩:=key;rw[h1];simp only[aP,hd];exact hK _ _ _ (k g' h2) _ _ (ha.put hn) h3
theorem AQ{T E d sz by' n m x y U g xs ys W z} R (ho:o.op= .call ⟨.builtin .append,#[x,y],#[T,U]⟩)(hd:o.dst=some d)(hn:aO d cx.n=true)
 (hx:ev e x=some (gV n g))(hy:ev e y=some W)(hu:cx.P.underlying T=some (.slice E))(hU:cx.P.underlying U=some .string∨∃E',cx.P.underlying U=some (.slice E'))
 (Z:(cx.P.info? E).map (·.bytes)=some (by'+1))(a0:∀w,(sizeOf E).run cx.P w= .ok sz w)(hz:∀w,(zeroValue E).run cx.P w= .ok z w)(a1:z.cells.size=sz)
 (hg:BL cx.w0.heap.size sz n xs g)(hH:H=R++gH E xs g)(hs:Src cx.P I H sz m W ys)(N:(2*(n+m)+768)*(by'+1)≤281474976710656)
 (k:∀O,BL cx.w0.heap.size sz (n+m) (xs++ys) O→C ((d,gV (n+m) O)::e) I (R++gH E (xs++ys) O)):DJ cx Q o e I H C:=
 NG cx.w0.heap.size (cO _) R ho hd hn hx hy hu hU Z a0 hz a1 hg hH hs N k
theorem J.eqv{N l} d {v O}(W:eg e d=some v)(h:v=O)(k:J cx Q N l ((d,O)::e) I H):J cx Q N l e I H:=
 J.ext (e':=(d,O)::e) (ext_cons (h▸W)) k
theorem JA.eqv{W A Z z l O N} d {v v'}(hv:eg e d=some v)(h:v=v')(k:JA cx Q l W A Z z O N ((d,v')::e) I H):JA cx Q l W A Z z O N e I H:=
 fun a w ha hs=>k a w (ha.ext (ext_cons (h▸hv))) hs
theorem Cj.eqv{c} d {v N}(O:eg e d=some v)(h:v=N)(k:Cj cx Q c ((d,N)::e) I H):Cj cx Q c e I H:=
 Cj.ext (e':=(d,N)::e) (ext_cons (h▸O)) k
theorem a9V{T}{parts:List (Nat×Operand)}{vs v}(N:o.op= .build T parts.toArray)(O:evs e (parts.map (·.2))=some vs)
 (W:∀w,(gQ T ((parts.map (·.1)).zip vs).toArray).run cx.P w= .ok v w):BO cx o e S v:=by
 intro a w Z _;have hp:(parts.toArray.map fun(i,x)=>(i,a.eval x))=((parts.map (·.1)).zip vs).toArray:=by
  have:=Z.WI O;rw[←this];simp[gB,dN]
 simp only[execOp,N,aG,hp,W,aA,aI]
structure FB (pl:Array (Nat×Nat)) (cs:List Value) (parts:List (Nat×Value)) (cs':List Value):Prop where
  eq:Instr.fill (pl[·]?) cs.toArray parts=some cs'.toArray
theorem FB.none{pl cs}:FB pl cs [] cs:=⟨rfl⟩
theorem FB.part{pl cs vs N O i off sz v r}(h1:pl[i]?=some (off,sz))(h2:v.cells=vs.toArray)(h3:vs.length=sz)(Z:AL cs off vs N)(h5:FB pl N r O):
 FB pl cs ((i,v)::r) O:=by
 refine⟨?_⟩;simp only[dJ,h1,h2];obtain⟨_,he⟩:=Z;rw[zD (by simp;omega)];have W:=a2B vs 0 (cs.take off) ((cs.drop off).take vs.length) (cs.drop (off+vs.length)) off (by simp;omega) (by simp;omega);have h7:cs.take off++(cs.drop off).take vs.length++cs.drop (off+vs.length)=cs:=by
  rw[dI,←fO,bQ,bQ]
 rw[h7,←he]at W;have h8:vs.toArray.zipIdx.foldl (fun cs (x:Value×Nat)=>cs.setIfInBounds (off+x.2) x.1) cs.toArray=N.toArray:=by
  rw[←eY,eH];exact W
 rw[h8];exact h5.eq
theorem zN{T}{parts:List (Nat×Operand)}{vs zs cs z fs pl}(W:o.op= .build T parts.toArray)(Z:evs e (parts.map (·.2))=some vs)
 (hz:∀w,(zeroValue T).run cx.P w= .ok z w)(N:z.cells=zs.toArray)(hu:cx.P.underlying T=some (.struct fs))
 (O:∀w,(fs.mapM (m:=Sem) fun f=>do pure (f.offset,←sizeOf f.type)).run cx.P w= .ok pl w)(hb:FB pl zs ((parts.map (·.1)).zip vs) cs):BO cx o e S (.agg cs.toArray):=
 a9V W Z fun w=>by
  simp only[gQ,aG,hz,N,run_underlying hu,aA,O];rw[hb.eq];rfl
theorem NT{x y ts k p q}(O:o.op= .call ⟨.builtin .min,#[x,y],ts⟩)(W:ev e x=some (.int k p))(Z:ev e y=some (.int k q)):BO cx o e S (.int k (if q<p then q else p)):=by
 intro a w N _;simp[execOp,O,resolve,invoke,builtin,Builtin.min_,Builtin.min2,N.eval W,N.eval Z]
theorem SK{x y ts k p q}(O:o.op= .call ⟨.builtin .max,#[x,y],ts⟩)(W:ev e x=some (.int k p))(Z:ev e y=some (.int k q)):BO cx o e S (.int k (if q>p then q else p)):=by
 intro a w N _;simp[execOp,O,resolve,invoke,builtin,Builtin.max_,Builtin.max2,N.eval W,N.eval Z]
theorem IY{x y T t b off} i {cs:List Value}{v H' fr}(ho:o.op= .store T x y)(hd:o.dst=none)(hx:ev e x=some (ptr b off))(hy:ev e y=some v)
 (hv:v.cells= #[v])(h1:v.oneCell'=true)(Z:∀w,(sizeOf T).run cx.P w= .ok 1 w)(hH:H[i]?=some (b,.cells cs.toArray t fr))(a0:fr=(0,0)∨cs.length≤fr.1)(N:off<cs.length)
 (a1:AU H i (b,.cells (cs.set off v).toArray t fr) H')(k:C e I H'):DJ cx Q o e I H C:=by
 intro K hK a w O hs;unfold Oper.wp;have hb:=hs.own _ (aK hH);have W:AL cs (off+0) [v] (cs.set off v):=by
  refine⟨by simp;omega,?_⟩;rw[List.set_eq_take_append_cons_drop];simp[N]
 have a2:=KJ (P:=cx.P) (t:=t) [v] 0 w cs hb a0 (by simp;omega) (fun u hu=>by simp at hu;subst hu;exact h1) _ W;have:(execOp a.eval o).run cx.P w= .ok .skip (World.block w b (.cells (cs.set off v).toArray t fr)):=by
  simp[execOp,ho,fZ,bH,O.eval hx,O.eval hy,storeVar,hv,Z,a2]
 rw[this];simp only[aP,hd];exact hK _ _ _ k _ _ O.WE (hs.block hH a1)
theorem QD l:(EF l).length=l.length:=by simp[EF]
theorem QH{Z T E d x l}(ho:o.op= .convert Z T x)(hd:o.dst=some d)(hn:aO d cx.n=true)(hx:ev e x=some (str l))
 (hS:cx.P.underlying Z=some .string)(hT:cx.P.underlying T=some (.slice E))(hE:cx.P.underlying E=some (.int .u8))
 (k:∀b c sp fr,cx.w0.heap.size≤b→(EF l++sp).length≤fr→C ((d,.slice (some ⟨b,0,none⟩) l.length c)::e) I ((b,.cells (EF l++sp).toArray E (fr,fr+1))::H)):DJ cx Q o e I H C:=by
 intro K hK a w ha N;unfold Oper.wp
 let cap:=(aT l.length 0 E).cut (w.tape w.drawn (.appendCap l.length 0 E))
 let sp:List Value:=List.replicate (cap-l.length) (.int .u8 0)
 have O:(execOp a.eval o).run cx.P w= .ok (.value (.slice (some ⟨w.heap.size,0,none⟩) l.length cap))
  { { w with drawn:=w.drawn+1 }with heap:=w.heap.push (.cells (EF l++sp).toArray E ((EF l++sp).length,(EF l++sp).length+1)) }:=by
  simp only[execOp,ho,convert,ha.eval hx,str,aG,run_underlying hS,run_underlying hT,aA,run_underlying hE,Conv.stringToBytes,size_mk,run_choose,fK,newRow,run_newObj,bG,if_false,markStringish,run_shape,aI];simp only[World.shape?,Array.getElem?_push_size,run_freeze,aA,World.freeze];have h0:(Array.map (fun b:UInt8=>fA IntKind.u8 ↑b.toNat) l.toArray++dQ (cap-l.length) (fA IntKind.u8 0))=(EF l++sp).toArray:=by
   simp[EF,sp]
  have h1:∀(A:Array Obj) (o o':Obj) (f:Obj→Obj),f o=o'→(A.push o).modify A.size f=A.push o':=by
   intro A o o' f hf
   apply dB
   intro j;rw[dZ,bC,bC]
   by_cases hj:A.size=j
   ·subst hj;simp[hf]
   simp[hj,Ne.symm hj]
  simp only[Nat.one_ne_zero,if_false];refine zC (fun W:World=>(Result.ok (Next.value (.slice (some ⟨w.heap.size,0,none⟩) l.length cap)) W:Result Next)) ?_;refine zC (fun H:Array Obj=>({ heap:=H,tape:=w.tape,drawn:=w.drawn+1,os:=w.os,output:=w.output }:World)) ?_;refine h1 _ _ _ _ ?_;rw[show(Array.map (fun b:UInt8=>fA IntKind.u8 ↑b.toNat) l.toArray++dQ ((aT l.length 0 E).cut (w.tape w.drawn (aT l.length 0 E))-l.length) (fA IntKind.u8 0))=(EF l++sp).toArray from h0];simp
 rw[O];simp only[aP,hd];exact hK _ _ _ (k w.heap.size cap sp _ N.size (cO _)) _ _ (ha.put hn) ((N.drewN (w.drawn+1)).alloc _)
theorem JD{O T E x} l {b off c n}{cs:List Value}{t fr}(W:o.op= .convert O T x)(Z:ev e x=some (.slice (some ⟨b,off,none⟩) n c))(hn:l.length=n)
 (hS:cx.P.underlying O=some (.slice E))(hT:cx.P.underlying T=some .string)(hE:cx.P.underlying E=some (.int .u8))(hb:yZ S b (.cells cs.toArray t fr))(hl:(cs.drop off).take l.length=EF l):
 BO cx o e S (str l):=by
 intro a w ha hs;subst hn;have hc:∀j v,(EF l)[j]?=some v→w.cell? ((⟨b,off,none⟩:Addr).add j)=some v:=fun j v N=>by
  rw[aV];refine cell_of_heap (hb w hs) ?_;rw[←hl,cZ]at N
  split at N
  ·simpa[dA]using N
  cases N
 have h1:=run_loadCells_list (P:=cx.P) (w:=w) ⟨b,off,none⟩ (EF l) hc;have h2:=run_bytesToString (P:=cx.P) w ⟨b,off,none⟩ l.length c (l.map fun u=>(u.toNat:Int)) (by
  rw[show(EF l).length=l.length by simp[EF]]at h1;rw[h1];simp[EF,dN])
 have h3:(l.map fun u=>(u.toNat:Int)).foldl (fun r n=>r.push (gU n.toNat)) ByteArray.empty=⟨l.toArray⟩:=by
  rw[foldl_push_bytes]
  apply ByteArray.ext
  simp[dN];have:(fun x=>gU x)∘UInt8.toNat=id:=by funext x;simp
  first|simp[Function.comp_def]|rw[this,List.map_id]
 simp only[execOp,W,aG,ha.eval Z,run_convert_bytes_string w O T E _ l.length c hS hE hT,h2,h3,aA,aI,str]
end
end Go.Sx
end
namespace Go.Sx
open Go
section
variable {cx:Cx} {Q:Qt} {e:Env} {I I1:Heap} {H A:HL} {Z:CL} {z:Nat} {ops:Array Oper} {l:List Oper} {o:Oper} {C:Ct} {S:World→Prop} {fuel:Nat} {listed:Array Bool}
variable [DR]
theorem J.mv{d:Nat}{x:Operand}{v:Value}(k:J cx Q ops l ((d,v)::e) I H)(N:o.op= .move x:=by rfl)(O:ev e x=some v:=by rfl)(W:o.guard=none:=by rfl)(Z:o.dst=some d:=by rfl)(hn:Nat.blt d cx.n=true:=by rfl):J cx Q ops (o::l) e I H:=J.z (a7a N O) k W Z hn
theorem J.as{d:Nat}{x:Operand}{v:Value}(k:J cx Q ops l ((d,v)::e) I H)(N:o.op= .assign x:=by rfl)(O:ev e x=some v:=by rfl)(W:o.guard=none:=by rfl)(Z:o.dst=some d:=by rfl)(hn:Nat.blt d cx.n=true:=by rfl):J cx Q ops (o::l) e I H:=J.z (a3e N O) k W Z hn
theorem J.ns{y}(h:Cj cx Q y e I H):J cx (Exit.then (y.wpIn cx.F 0 cx.P Q) Q) ops [] e I H:=J.nil (Ej.seq h)
theorem Cj.sr{id y}(h:J cx (Exit.then (y.wpIn cx.F 0 cx.P Q) Q) l.toArray l e I H):Cj cx Q (.seq (.region id l.toArray false) y) e I H:=Cj.seq (Cj.region h)
theorem J.nss{x y}(h:Cj cx (Exit.then (y.wpIn cx.F 0 cx.P Q) Q) x e I H):J cx (Exit.then ((Code.seq x y).wpIn cx.F 0 cx.P Q) Q) ops [] e I H:=J.ns (Cj.seq h)
theorem J.a0S{x y u}(h:Cj cx (Exit.then (u.wpIn cx.F 0 cx.P (Exit.then (y.wpIn cx.F 0 cx.P Q) Q)) (Exit.then (y.wpIn cx.F 0 cx.P Q) Q)) x e I H):J cx (Exit.then ((Code.seq (Code.seq x u) y).wpIn cx.F 0 cx.P Q) Q) ops [] e I H:=J.nss (Cj.seq h)
theorem J.nsr{id}(h:J cx Q l.toArray l e I H):J cx (Exit.then ((Code.region id l.toArray false).wpIn cx.F 0 cx.P Q) Q) ops [] e I H:=J.ns (Cj.region h)
theorem J.QT{id y}(h:J cx (Exit.then (y.wpIn cx.F 0 cx.P Q) Q) l.toArray l e I H):J cx (Exit.then ((Code.seq (Code.region id l.toArray false) y).wpIn cx.F 0 cx.P Q) Q) ops [] e I H:=J.nss (Cj.region h)
theorem J.cd{c:Operand}{x y:Code}{t:Bool}(h1:t=true→Cj cx Q x e I H)(h2:t=false→Cj cx Q y e I H)(N:ev e c=some (.bool t):=by exact rfl):J cx (Exit.then ((Code.cond c x y).wpIn cx.F 0 cx.P Q) Q) ops [] e I H:=J.ns (Cj.cond N h1 h2)
theorem J.c0{c:Operand}{x y:Code}{t:Bool}(h2:t=false→Cj cx Q y e I H)(N:ev e c=some (.bool t):=by exact rfl)(O:t=false:=by exact rfl):J cx (Exit.then ((Code.cond c x y).wpIn cx.F 0 cx.P Q) Q) ops [] e I H:=J.ns (Cj.cond N (fun h=>fH (Eq.trans (Eq.symm O) h)) h2)
theorem J.c1{c:Operand}{x y:Code}{t:Bool}(h1:t=true→Cj cx Q x e I H)(N:ev e c=some (.bool t):=by exact rfl)(O:t=true:=by exact rfl):J cx (Exit.then ((Code.cond c x y).wpIn cx.F 0 cx.P Q) Q) ops [] e I H:=J.ns (Cj.cond N h1 (fun h=>fH (Eq.trans (Eq.symm O) h)))
theorem J.sk j d t {N b}(O:b= !N)(h:J cx Q ops l ((t,undef)::e) I H)(W:o.guard=some (j,N):=by rfl)(Z:(ops[j]?).bind (·.dst)=some d:=by rfl)(hv:eg e d=some (.bool b):=by rfl)(ho:o.dst=some t:=by rfl)(ht:Nat.blt t cx.n=true:=by rfl):J cx Q ops (o::l) e I H:=J.skip j d t N b W Z hv O ho ht h
theorem JA.mv(i:Nat){d:Nat}{x:Operand}{v:Value}(N:QU I1 A Z I H)(k:JA cx Q l I1 A Z z fuel (listed.setIfInBounds i true) ((d,v)::e) I H)(O:l.toArray[i]?=some o:=by rfl)(W:o.op= .move x:=by rfl)(hx:ev e x=some v:=by rfl)(hd:o.dst=some d:=by rfl)(hg:o.guard=none:=by rfl)(hn:Nat.blt d cx.n=true:=by rfl)(hz:zok l.toArray listed z i=true:=by first|rfl|kernel_rfl)
 (hs:Region.noSelect l.toArray=true:=by kernel_rfl)(hf:Region.free .any l.toArray listed i=true:=by kernel_rfl)(hr:(Region.ready .any l.toArray listed).contains i=true:=by kernel_rfl)(hq:∀c a w,Q (.panic c) (a.put (some d) v) w→Q (.panic c) a w:=by exact fun _ _ _ h=>h):JA cx Q l I1 A Z z (fuel+1) listed e I H:=JA.tk i O N (a7a W hx) k hd hg hn hz hs hf hr hq
theorem c6D{x T k b off m fs f} off' (W:cx.P.underlying T=some (.struct fs))(O:∀w,(sizeOf f.type).run cx.P w= .ok (m+1) w)(Z:o.op= .fieldAddr T x k:=by rfl)(hx:ev e x=some (ptr b off):=by rfl)(hf:fs[k]?=some f:=by rfl)(N:off+f.offset=off':=by rfl):BO cx o e S (ptr b off'):=ZE Z hx W hf O N
theorem fx0{I H}:Le I I∧HSub [] H∧CSub [] H:=⟨Le.refl _,HSub.n,CSub.n⟩
theorem fx1{I H}:QU I [] [] I H:=⟨HSub.n,CSub.n,Le.refl _⟩
theorem Cj.xl{K:Act→World→Prop}{ι:Type}{N:ι→Prop}{μ W O Z hl id y}(h:Cj cx Q y e I H):Cj cx (Exit.then K (a6d cx (aN id (Exit.then (y.wpIn cx.F 0 cx.P Q) Q)) N μ W O Z hl)) (.exit id) e I H:=Cj.exit (Ej.a3Z (Ej.a1p (Ej.a1b (Ej.seq h))))
theorem Cj.ks{y}(h:Cj cx Q y e I H):Cj cx (Exit.then (y.wpIn cx.F 0 cx.P Q) Q) .skip e I H:=Cj.skip (Ej.seq h)
theorem Cj.kb{id y}(h:Cj cx Q y e I H):Cj cx (aN id (Exit.then (y.wpIn cx.F 0 cx.P Q) Q)) .skip e I H:=Cj.skip (Ej.OZ (Ej.seq h))
theorem J.nb{id y}(h:Cj cx Q y e I H):J cx (aN id (Exit.then (y.wpIn cx.F 0 cx.P Q) Q)) ops [] e I H:=J.nil (Ej.OZ (Ej.seq h))
theorem Cj.rs{K:Act→World→Prop}(h:Ej cx Q .ret e I H):Cj cx (Exit.then K Q) .ret e I H:=Cj.ret (Ej.a1f h)
end
theorem yY.ob[DR]{P f fn c args I H}{N:Ending→Heap→HL→Prop}(W:P.funcs[f]?=some fn)(h:∀w0,Ready I H w0→Cj ⟨P,fn.ntmps,w0,H.map (·.1),I,[],none⟩ (bodyPost P fn (RR w0 (H.map (·.1)) I N)) c (NR 0 args) I H)(Z:fn.body=some c:=by rfl)(O:fn.name≠ "runtime.NumGoroutine" :=by decide)(hn:args.length≤fn.ntmps:=by exact Nat.le_of_ble_eq_true rfl):yY P f args I H N:=yY.b3Q W Z O hn h
