/-
  Own texts on the laws of the seat, joined: the logic, and contracts of functions. Conditions: none.
-/
import Derived.WalkKit
import Derived.OrdersHeld
import Derived.Deep.LoopGhost
import Derived.TacticsIn
import Derived.OrdersIn
import Derived.KernelRfl
set_option linter.all false
set_option maxRecDepth 100000
set_option maxHeartbeats 40000000
abbrev zA:=@of_decide_eq_true
abbrev zB:=@eq_of_beq
abbrev zC:=@congrArg
abbrev zD:=@if_neg
abbrev zF:=@if_pos
abbrev zG:=@decide_eq_true_eq
abbrev zH:=@decide_eq_true
abbrev zI:=@decide_eq_false
abbrev yT:=@Array.ext_getElem?
abbrev yS:=@Array.getElem?_append_left
abbrev yR:=@Array.getElem?_eq_none
abbrev yQ:=@Array.getElem?_modify
abbrev yP:=@Bool.and_eq_true
abbrev yO:=@Bool.and_true
abbrev yN:=@Bool.eq_false_iff
abbrev yM:=@Bool.eq_iff_iff
abbrev yL:=@Bool.false_eq_true
abbrev yK:=@Bool.false_ne_true
abbrev yJ:=@Bool.true_and
abbrev yI:=@Int.natCast_mul
abbrev yH:=@List.all_cons
abbrev yG:=@List.all_eq_true
abbrev yF:=@List.any_eq_true
abbrev yE:=@List.append_assoc
abbrev yD:=@List.append_nil
abbrev yC:=@List.cons_append
abbrev yB:=@List.contains_iff_mem
abbrev xZ:=@List.count_le_length
abbrev xY:=@List.drop_drop
abbrev xX:=@List.drop_eq_nil_of_le
abbrev xW:=@List.drop_sublist
abbrev xU:=@List.drop_zero
abbrev xR:=@List.filter_append
abbrev xQ:=@List.filter_eq_self
abbrev xP:=@List.flatMap_append
abbrev xO:=@List.flatMap_cons
abbrev xM:=@List.foldl_append
abbrev xK:=@List.getD_eq_getElem?_getD
abbrev xJ:=@List.getElem?_append_left
abbrev xI:=@List.getElem?_append_right
abbrev xH:=@List.getElem?_drop
abbrev xG:=@List.getElem?_eq_getElem
abbrev xE:=@List.getElem?_eq_none
abbrev xC:=@List.getElem?_eq_some_iff
abbrev xB:=@List.getElem?_map
abbrev xA:=@List.getElem?_set
abbrev wZ:=@List.getElem?_take
abbrev wY:=@List.getElem?_toArray
abbrev wX:=@List.getElem_cons_drop
abbrev wW:=@List.isPrefixOf_iff_prefix
abbrev wV:=@List.length_append
abbrev wU:=@List.length_cons
abbrev wS:=@List.length_drop
abbrev wR:=@List.length_eq_zero_iff
abbrev wQ:=@List.length_filterMap_le
abbrev wP:=@List.length_filter_le
abbrev wO:=@List.length_map
abbrev wM:=@List.length_mergeSort
abbrev wL:=@List.length_nil
abbrev wK:=@List.length_pos_iff
abbrev wJ:=@List.length_singleton
abbrev wI:=@List.length_take
abbrev wH:=@List.lt_irrefl
abbrev wG:=@List.map_append
abbrev wF:=@List.map_cons
abbrev wE:=@List.map_map
abbrev wC:=@List.map_nil
abbrev wB:=@List.mem_append
abbrev vZ:=@List.mem_append_left
abbrev vY:=@List.mem_append_right
abbrev vX:=@List.mem_cons
abbrev vW:=@List.mem_filter
abbrev vV:=@List.mem_flatMap
abbrev vU:=@List.mem_map
abbrev vT:=@List.mem_map_of_mem
abbrev vS:=@List.mem_of_getElem?
abbrev vP:=@List.mem_of_mem_drop
abbrev vO:=@List.mem_of_mem_take
abbrev vN:=@List.mem_singleton
abbrev vM:=@List.nil_append
abbrev vK:=@List.nodup_append
abbrev vJ:=@List.nodup_cons
abbrev vI:=@List.nodup_iff_pairwise_ne
abbrev vH:=@List.not_lt
abbrev vG:=@List.not_mem_nil
abbrev vF:=@List.one_le_count_iff
abbrev vC:=@List.pairwise_append
abbrev uY:=@List.pairwise_cons
abbrev uX:=@List.pairwise_iff_forall_sublist
abbrev uV:=@List.pairwise_map
abbrev uT:=@List.pairwise_singleton
abbrev uQ:=@List.perm_append_comm
abbrev uP:=@List.perm_middle
abbrev uO:=@List.set_append_right
abbrev uN:=@List.set_cons_succ
abbrev uM:=@List.set_cons_zero
abbrev uK:=@List.singleton_append
abbrev uJ:=@List.sublist_cons_self
abbrev uI:=@List.sum_cons
abbrev uH:=@List.takeWhile_cons
abbrev uF:=@List.take_add_one
abbrev uD:=@List.take_append_drop
abbrev tZ:=@List.take_append_of_le_length
abbrev tY:=@List.take_length
abbrev tX:=@List.take_of_length_le
abbrev tV:=@List.take_succ_cons
abbrev tN:=@List.take_succ_eq_append_getElem
abbrev tK:=@Nat.add_sub_cancel_left
abbrev tJ:=@Nat.le_of_ble_eq_true
abbrev tH:=@Nat.le_refl
abbrev tC:=@Nat.lt_or_ge
abbrev sZ:=@Nat.lt_succ_self
abbrev sW:=@Nat.min_eq_left
abbrev sV:=@Nat.min_le_left
abbrev sU:=@Nat.mul_le_mul_right
abbrev sS:=@Nat.zero_add
abbrev sQ:=@Nat.zero_le
abbrev sO:=@Option.map_eq_some_iff
abbrev sN:=@Option.map_some
abbrev sK:=@Option.some.inj
abbrev sJ:=@UInt8.toNat_inj
open Go.Result renaming andThen_ok -> aA
open Go.Builtin renaming zeroCells -> aB,firstCells -> aI,append_ -> aV,nextslicecap -> aZ,growBy -> dL,lenOf -> dS,len_ -> dU
open Go.Region renaming wanted -> aC,ready -> aF,binds -> aP,noSelect -> aY,free -> bU
open Go.Sem renaming run_bind -> aG,run_pure -> aH
open Go.Exit renaming inBlock -> aJ
open Nat renaming blt -> aK,add_mul -> aS,le_trans -> aX,lt_of_lt_of_le -> bY,beq -> dA
open Go.Oper renaming upon -> aN,uponIn -> dB
open Go.Addr renaming add_lit -> aO
open Go.Question renaming appendCap -> aQ,forced -> dJ,cut -> dV
open Go.Instr renaming sureAddr -> aT,sliceBounds -> aW,sliceAt -> bG,fill -> bH,sliceBound -> bJ,loadAt -> bZ,storeAt -> dQ,build -> dW
open Array renaming getElem?_push -> aU,getElem?_setIfInBounds -> bC,replicate -> bM,toList_zipIdx -> bV,length_toList -> bW,foldl_toList -> cO,range -> dF,size_range -> dH,size_map -> dM
open Go.Value renaming oneCell' -> bD,int -> cZ
open Go.Op renaming intArith -> bF,stringOp -> dD
open Option renaming bind_some -> bI
open List renaming getElem?_cons_succ -> bK,range' -> bQ,map_toArray -> dG,take_left' -> dK,zip_map' -> dR
open ByteArray renaming data_extract -> bP
open List.Sublist renaming cons_cons -> bT
open Bool renaming noConfusion -> dI
open Go.Obj renaming cells -> dN
open Go.World renaming frozen? -> dP
open UInt8 renaming ofNat -> dX
theorem rT{p:Prop}(h:p:=by repeat first|refine⟨rfl,?_⟩|exact trivial|exact rfl):p:=h
theorem oM{p:Prop}(h:p:=by omega):p:=h
theorem kR{p:Prop}(h:p:=by kernel_rfl):p:=h
theorem dE{p:Prop}(h:p:=by decide):p:=h
theorem sI{p:Prop}(h:p:=by simp):p:=h
theorem dO{p:Prop}(h:p:=by dsimp only;omega):p:=h
section
set_option linter.unusedSectionVars false
namespace Go.Sx
open Go
abbrev Heap:=Nat→Option Obj
abbrev HL:=List (Nat×Obj)
abbrev Env:=List (Nat×Value)
def eg:Env→Nat→Option Value
 |[],_=>none
 |(k,v)::r,t=>bif dA k t then some v else eg r t
def ev (e:Env):Operand→Option Value
 | .tmp t=>eg e t
 | .const v=>some v
 | .global g=>some (.pointer (some ⟨g,0,none⟩))
 | .func f=>some (.func (.func f) #[] #[])
def evs (e:Env):List Operand→Option (List Value)
 |[]=>some []
 | x::r=>match ev e x,evs e r with
   |some v,some vs=>some (v::vs)
   |_,_=>none
def Sub:Env→Env→Prop
 |[],_=>True
 |(t,v)::r,e=>eg e t=some v∧Sub r e
structure Has (a:Act) (n:Nat) (e:Env) (ds:List Deferred):Prop where
  size:a.tmps.size=n
  defs:a.defers=ds
  get:∀t v,eg e t=some v→a.tmps[t]?=some v
theorem a6v k v r t:eg ((k,v)::r) t=if k=t then some v else eg r t:=by
 show(bif dA k t then some v else eg r t)=_
 by_cases h:k=t
 ·subst h;simp
 have:dA k t=false:=by
  cases hb:dA k t with
  |false=>rfl
  |true=>exact absurd (Nat.eq_of_beq_eq_true hb) h
 rw[this,zD h];rfl
theorem Sub.get:∀{e' e:Env},Sub e' e→∀t v,eg e' t=some v→eg e t=some v
 |[],_,_,t,v,h=>by simp[eg]at h
 |(k,u)::r,e,⟨h1,h2⟩,t,v,h=>by
  rw[a6v]at h
  by_cases hk:k=t
  ·subst hk;simp at h;subst h;exact h1
  simp only[hk,if_false]at h;exact Sub.get h2 t v h
section has
variable {a:Act} {n:Nat} {e:Env} {ds:List Deferred}
theorem Has.sub{e'}(h:Has a n e ds)(A:Sub e' e):Has a n e' ds:=⟨h.size,h.defs,fun t v G=>h.get t v (A.get t v G)⟩
theorem Has.eval(h:Has a n e ds){x v}(A:ev e x=some v):a.eval x=v:=by
 cases x with
 |tmp t=>
  have:=h.get t v A;simp[Act.eval,this]
 |const c=>simpa[ev,Act.eval]using A
 |global g=>simpa[ev,Act.eval]using A
 |func f=>simpa[ev,Act.eval]using A
theorem Has.a0a(h:Has a n e ds):∀{xs:List Operand} {vs:List Value},evs e xs=some vs→xs.map a.eval=vs
 |[],vs,hx=>by simp[evs]at hx;subst hx;rfl
 |x::r,vs,hx=>by
  simp only[evs]at hx
  split at hx
  ·rename_i v A h1 h2
   cases hx;simp[h.eval h1,Has.a0a h h2]
  cases hx
theorem Has.put(h:Has a n e ds){d v}(M:aK d n=true):Has (a.put (some d) v) n ((d,v)::e) ds:=by
 have G:d<n:=by simpa[Nat.blt_eq]using M
 refine⟨by simpa[Act.put]using h.size,by simpa[Act.put]using h.defs,fun t u A=>?_⟩;rw[a6v]at A;have N:=h.size
 by_cases hk:d=t
 ·subst hk;simp at A;subst A;simp[Act.put,N,G]
 simp only[hk,if_false]at A;simp[Act.put,hk];have:=h.get t u A;simpa using this
theorem Has.XB(h:Has a n e ds){v}:Has (a.put none v) n e ds:=h
end has
def PE:Nat→List Value→Env
 |_,[]=>[]
 |k,v::r=>(k,v)::PE (k+1) r
theorem a7a:∀(l:List Value) (k t:Nat) (v:Value),eg (PE k l) t=some v→k≤t∧l[t-k]?=some v
 |[],k,t,v,h=>by simp[PE,eg]at h
 |u::r,k,t,v,h=>by
  simp only[PE]at h;rw[a6v]at h
  by_cases hk:k=t
  ·subst hk;simp at h;subst h;simp
  simp only[hk,if_false]at h;obtain⟨h1,h2⟩:=a7a r (k+1) t v h;refine⟨oM,?_⟩;have:t-k=(t-(k+1))+1:=oM;rw[this];simpa using h2
theorem Has.start l n (M:l.length≤n):
 Has { tmps:=l.toArray++bM (n-l.toArray.size) undef,defers:=[] } n (PE 0 l) []:=by
 refine⟨by simp;omega,rfl,fun t v h=>?_⟩;obtain⟨_,h2⟩:=a7a l 0 t v h;have G:t<l.length:=by
  rcases tC t l.length with A|A
  ·exact A
  simp[xE A]at h2
 simp only[Nat.sub_zero]at h2;rw[yS (by simpa using G)];simpa using h2
class DR where
  b:Bool
def Le (I I':Heap):Prop:=∀b o,I b=some o→I' b=some o
theorem Le.refl I:Le I I:=fun _ _ h=>h
theorem Le.trans{I J K}(h:Le I J)(k:Le J K):Le I K:=fun b o x=>k b o (h b o x)
structure St [DR] (w0:World) (D:List Nat) (I0 I:Heap) (H:HL) (w:World):Prop where
  os:w.os=w0.os
  tape:w.tape=w0.tape
  output:w.output=w0.output
  size:w0.heap.size≤w.heap.size
  frm:∀b,b<w0.heap.size→b ∉ D→w.heap[b]?=w0.heap[b]?
  sub:∀b o,I b=some o→w.heap[b]?=some o
  own:∀p∈H,w.heap[p.1]?=some p.2
  nodup:(H.map (·.1)).Nodup
  dis:∀p∈H,I p.1=none
  new:∀p∈H,p.1∈D∨w0.heap.size≤p.1
  ifr:∀b,b<w0.heap.size→I b=I0 b
  le:Le I0 I
  drw:DR.b=true→w0.drawn≤w.drawn
variable [DR]
theorem St.start w I H (h1:∀b o,I b=some o→w.heap[b]?=some o)(h2:∀p∈H,w.heap[p.1]?=some p.2)
 (h3:(H.map (·.1)).Nodup)(A:∀p∈H,I p.1=none):St w (H.map (·.1)) I I H w:=
 ⟨rfl,rfl,rfl,tH _,fun _ _ _=>rfl,h1,h2,h3,A,fun _ G=> .inl (vT G),fun _ _=>rfl,Le.refl _,fun _=>tH _⟩
section st
variable {w0:World} {D:List Nat} {I0 I:Heap} {H:HL} {w:World}
theorem St.lt(h:St w0 D I0 I H w){p}(G:p∈H):p.1<w.heap.size:=by
 have:=h.own p G;rcases tC p.1 w.heap.size with A|A
 ·exact A
 simp[yR A]at this
theorem St.drew(h:St w0 D I0 I H w):St w0 D I0 I H { w with drawn:=w.drawn+1 }:=
 ⟨h.os,h.tape,h.output,h.size,h.frm,h.sub,h.own,h.nodup,h.dis,h.new,h.ifr,h.le,fun g=>Nat.le_succ_of_le (h.drw g)⟩
theorem St.keep{H'}(h:St w0 D I0 I H w)(G:∀p∈H',p∈H)(M:(H'.map (·.1)).Nodup):St w0 D I0 I H' w:=
 ⟨h.os,h.tape,h.output,h.size,h.frm,h.sub,fun p A=>h.own p (G p A),M,fun p A=>h.dis p (G p A),fun p A=>h.new p (G p A),h.ifr,h.le,h.drw⟩
theorem St.sublist{H'}(h:St w0 D I0 I H w)(A:H'.Sublist H):St w0 D I0 I H' w:=
 h.keep (fun _ G=>A.subset G) (h.nodup.sublist (A.map _))
theorem St.perm{H'}(h:St w0 D I0 I H w)(A:H'.Perm H):St w0 D I0 I H' w:=
 h.keep (fun _ G=>A.mem_iff.1 G) ((A.map _).nodup_iff.2 h.nodup)
theorem St.alloc(h:St w0 D I0 I H w) o:St w0 D I0 I ((w.heap.size,o)::H) { w with heap:=w.heap.push o }:=by
 have N:∀{b:Nat} {o':Obj},w.heap[b]?=some o'→b<w.heap.size:=fun {b o'} G=>by
  rcases tC b w.heap.size with O|O
  ·exact O
  simp[yR O]at G
 have M:∀{b:Nat} {o':Obj},w.heap[b]?=some o'→(w.heap.push o)[b]?=some o':=fun {b o'} G=>by
  rw[aU,zD (by have:=N G;omega)];exact G
 refine⟨h.os,h.tape,h.output,by have:=h.size;simp;omega,fun b G Q=>?_,fun b o' G=>M (h.sub b o' G),?_,?_,?_,?_,h.ifr,h.le,h.drw⟩
 ·rw[←h.frm b G Q];show(w.heap.push o)[b]?=_;rw[aU,zD (by have:=h.size;omega)]
 ·intro p A;cases A with
  |head=>simp
  |tail _ A=>exact M (h.own p A)
 ·simp only[wF,vJ];refine⟨fun Z=>?_,h.nodup⟩;obtain⟨p,A,_⟩:=vU.1 Z;have:=h.lt A;omega
 ·intro p A;cases A with
  |head=>
   cases hi:I w.heap.size with
   |none=>rfl
   |some o'=>have:=N (h.sub _ _ hi);omega
  |tail _ A=>exact h.dis p A
 intro p A;cases A with
 |head=>exact .inr h.size
 |tail _ A=>exact h.new p A
def hset (b:Nat) (o:Obj):HL→HL
 |[]=>[]
 |(c,x)::r=>if c=b then(c,o)::r else(c,x)::hset b o r
theorem a8e b o:∀H:HL,(hset b o H).map (·.1)=H.map (·.1)
 |[]=>rfl
 |(c,x)::r=>by
  unfold hset
  split
  ·rfl
  simp[a8e b o r]
theorem b3S b o:∀(H:HL),(H.map (·.1)).Nodup→∀p∈hset b o H,(p=(b,o))∨(p∈H∧p.1≠b)
 |[],_,p,A=>by cases A
 |(c,x)::r,hn,p,A=>by
  simp only[wF,vJ]at hn;unfold hset at A
  split at A
  ·rename_i G;subst G
   cases A with
   |head=>exact .inl rfl
   |tail _ A=>
    refine .inr ⟨.tail _ A,fun M=>hn.1 ?_⟩;rw[←M];exact vT A
  rename_i G
  cases A with
  |head=>exact .inr ⟨.head _,G⟩
  |tail _ A=>
   rcases b3S b o r hn.2 p A with h|h
   ·exact .inl h
   exact .inr ⟨.tail _ h.1,h.2⟩
theorem St.write{w' b o o'}(h:St w0 D I0 I H w)(hm:(b,o)∈H)(a0:w'.os=w.os)(ht:w'.tape=w.tape)(Z:w'.output=w.output)
 (a1:w'.heap.size=w.heap.size)(hb:w'.heap[b]?=some o')(M:∀c,c≠b→w'.heap[c]?=w.heap[c]?)(a2:w'.drawn=w.drawn):St w0 D I0 I (hset b o' H) w':=by
 have Q:∀p∈hset b o' H,∃q∈H,q.1=p.1:=fun p G=>by
  have:p.1∈(hset b o' H).map (·.1):=vT G;rw[a8e]at this;obtain⟨q,N,A⟩:=vU.1 this;exact⟨q,N,A⟩
 refine⟨a0.trans h.os,ht.trans h.tape,Z.trans h.output,by rw[a1];exact h.size,fun c hc hd=>?_,fun c x O=>?_,fun p G=>?_,by rw[a8e];exact h.nodup,fun p G=>?_,fun p G=>?_,h.ifr,h.le,by rw[a2];exact h.drw⟩
 ·have:c≠b:=fun A=>by
   rcases h.new _ hm with h'|h'
   ·exact hd (A▸h')
   simp at h';omega
  rw[M c this];exact h.frm c hc hd
 ·have:c≠b:=fun A=>by
   have:=h.dis _ hm;simp only at this;rw[A]at O;rw[this]at O;cases O
  rw[M c this];exact h.sub c x O
 ·rcases b3S b o' H h.nodup p G with rfl|⟨h1,h2⟩
  ·exact hb
  rw[M _ h2];exact h.own p h1
 ·obtain⟨q,N,A⟩:=Q p G;rw[←A];exact h.dis q N
 obtain⟨q,N,A⟩:=Q p G;rw[←A];exact h.new q N
def hput (b:Nat) (o:Obj) (I:Heap):Heap:=fun c=>if c=b then some o else I c
theorem St.persist{b o R}(h:St w0 D I0 I ((b,o)::R) w)(Z:w0.heap.size≤b):
 St w0 D I0 (hput b o I) R w:=by
 have M:=h.nodup;simp only[wF,vJ]at M;have O:I b=none:=h.dis _ (.head _);refine⟨h.os,h.tape,h.output,h.size,h.frm,fun c x A=>?_,fun p G=>h.own p (.tail _ G),M.2,fun p G=>?_,fun p G=>h.new p (.tail _ G),fun c Q=>?_,fun c x A=>?_,h.drw⟩
 ·unfold hput at A
  split at A
  ·rename_i N;subst N;cases A;exact h.own _ (.head _)
  exact h.sub c x A
 ·unfold hput
  split
  ·rename_i N
   exact absurd (N▸vT G) M.1
  exact h.dis p (.tail _ G)
 ·unfold hput;rw[zD oM];exact h.ifr c Q
 unfold hput
 split
 ·rename_i N;subst N
  have:=h.le _ _ A;rw[O]at this;cases this
 exact h.le c x A
theorem a6E{b o I}(h:I b=none):Le I (hput b o I):=fun c x A=>by
 unfold hput
 split
 ·rename_i G;subst G;rw[h]at A;cases A
 exact A
theorem a1f b o I:hput b o I b=some o:=by simp[hput]
end st
theorem St.call{w0 w w' D I0 I I' H1 Q R}(h:St w0 D I0 I (H1++R) w)(k:St w (H1.map (·.1)) I I' Q w'):
 St w0 D I0 I' (Q++R) w':=by
 have Z:=h.nodup;rw[wG,vK]at Z;obtain⟨_,n2,n3⟩:=Z;have hR:∀p∈R,p.1<w.heap.size:=fun p A=>h.lt (vY _ A);have a0:∀p∈R,p.1 ∉ H1.map (·.1):=fun p A hm=>n3 _ hm _ (vT A) rfl;refine⟨k.os.trans h.os,k.tape.trans h.tape,k.output.trans h.output,aX h.size k.size,fun b M hd=>?_,k.sub,fun p A=>?_,?_,fun p A=>?_,fun p A=>?_,fun b M=>?_,h.le.trans k.le,fun g=>aX (h.drw g) (k.drw g)⟩
 ·have a1:b ∉ H1.map (·.1):=fun hm=>by
   obtain⟨p,A,N⟩:=vU.1 hm;rcases h.new p (vZ _ A)with G|G
   ·exact hd (N▸G)
   omega
  rw[k.frm b (bY M h.size) a1];exact h.frm b M hd
 ·rcases wB.1 A with A|A
  ·exact k.own p A
  rw[k.frm _ (hR p A) (a0 p A)];exact h.own p (vY _ A)
 ·rw[wG,vK];refine⟨k.nodup,n2,fun x hx y hy N=>?_⟩;obtain⟨p,A,a2⟩:=vU.1 hx;obtain⟨q,O,a3⟩:=vU.1 hy;rcases k.new p A with G|G
  ·exact a0 q O (by rw[a3,←N,←a2];exact G)
  have:=hR q O;omega
 ·rcases wB.1 A with A|A
  ·exact k.dis p A
  rw[k.ifr _ (hR p A)];exact h.dis p (vY _ A)
 ·rcases wB.1 A with A|A
  ·rcases k.new p A with G|G
   ·obtain⟨q,O,N⟩:=vU.1 G;rw[←N];exact h.new q (vZ _ O)
   exact .inr (aX h.size G)
  exact h.new p (vY _ A)
 rw[k.ifr b (bY M h.size)];exact h.ifr b M
def SS (I:Heap) (H:HL) (w:World):Prop:=(∀b o,I b=some o→w.heap[b]?=some o)∧∀p∈H,w.heap[p.1]?=some p.2
theorem St.ss{w0 w D I0 I H}(h:St w0 D I0 I H w):SS I H w:=⟨h.sub,h.own⟩
def yX (S:World→Prop) (b:Nat) (o:Obj):Prop:=∀w,S w→w.heap[b]?=some o
theorem yX.YR{I H b o}(h:I b=some o):yX (SS I H) b o:=fun _ A=>A.1 b o h
theorem yX.at{I H b o}(i:Nat)(h:H[i]?=some (b,o)):yX (SS I H) b o:=fun _ A=>A.2 _ (vS h)
abbrev CL:=List (Nat×Nat×Value)
def SC (I:Heap) (A:HL) (Z:CL) (w:World):Prop:=SS I A w∧∀c∈Z,w.cell? ⟨c.1,c.2.1,none⟩=some c.2.2
theorem yX.RU{I A Z b o}(h:I b=some o):yX (SC I A Z) b o:=fun _ G=>G.1.1 b o h
theorem yX.NI{I A Z b o}(i:Nat)(h:A[i]?=some (b,o)):yX (SC I A Z) b o:=fun _ G=>G.1.2 _ (vS h)
theorem SC.cell{I A Z b off v}(i:Nat)(h:Z[i]?=some (b,off,v)):∀w,SC I A Z w→w.cell? ⟨b,off,none⟩=some v:=fun _ G=>G.2 _ (vS h)
structure Cx where
  P:Program
  n:Nat
  w0:World
  D:List Nat
  I0:Heap
  ds:List Deferred
  rd:Option Nat:=none
def Cx.F (cx:Cx):Fence:={ Fence.wide with round:=cx.rd }
abbrev Qt:=Exit→Act→World→Prop
def Cj (cx:Cx) (Q:Qt) (c:Code) (e:Env) (I:Heap) (H:HL):Prop:=
 ∀a w,Has a cx.n e cx.ds→St cx.w0 cx.D cx.I0 I H w→c.wpIn cx.F 0 cx.P Q a w
def Ej (cx:Cx) (Q:Qt) (x:Exit) (e:Env) (I:Heap) (H:HL):Prop:=
 ∀a w,Has a cx.n e cx.ds→St cx.w0 cx.D cx.I0 I H w→Q x a w
def J (cx:Cx) (Q:Qt) (ops:Array Oper) (l:List Oper) (e:Env) (I:Heap) (H:HL):Prop:=
 ∀a w,Has a cx.n e cx.ds→St cx.w0 cx.D cx.I0 I H w→wpListIn cx.F 0 cx.P ops Q l a w
abbrev Ct:=Env→Heap→HL→Prop
def EZ (cx:Cx) (Q:Qt) (o:Oper) (e:Env) (I:Heap) (H:HL) (C:Ct):Prop:=
 ∀K:Act→World→Prop,(∀e' I' H',C e' I' H'→∀a w,Has a cx.n e' cx.ds→St cx.w0 cx.D cx.I0 I' H' w→K a w)→
  ∀a w,Has a cx.n e cx.ds→St cx.w0 cx.D cx.I0 I H w→o.wp cx.P a w K Q
theorem b6D{rd n P f args w}{R:Ending→World→Prop}(h:Calls P f args w R):CallsIn { Fence.wide with round:=rd } n P f args w R:=by
 have:=(callsIn_wide (n:=n)).2 h;cases rd with
 |none=>exact this
 |some l=>exact this
theorem b9t{rd n P row args w}{R:Value→World→Prop}(h:Rows P row args w R):RowsIn { Fence.wide with round:=rd } n P row args w R:=by
 have:RowsIn Fence.wide n P row args w R:=fun c cs _=>let ⟨v,w',A,G⟩:=h c cs;⟨v,w',A,stepsIn_wide.2 G⟩;cases rd with
 |none=>exact this
 |some l=>exact this
theorem b8U{rd n P}{o:Oper}{a}{K:Act→World→Prop}{Q r}(h:o.upon P a K Q r):o.uponIn { Fence.wide with round:=rd } n P a K Q r:=by
 cases r with
 |ok x w'=>
  cases x<;>simp only[aN,dB]at h ⊢ <;>
   first
    |exact h
    |exact⟨fun h=>by simp[Fence.wide]at h,b6D h⟩
    |exact⟨fun h=>by simp[Fence.wide]at h,b9t h⟩
 |halt x w'=>cases x<;>simp only[aN,dB]at h ⊢ <;>exact h
theorem a7w{rd n P}{o:Oper}{a w}{K:Act→World→Prop}{Q}(A:rd=none∨∀c,o.op≠ .defer c)(h:o.wp P a w K Q):o.wpIn { Fence.wide with round:=rd } n P a w K Q:=by
 refine⟨fun _ _=>trivial,?_⟩;have G:o.semAt rd a.eval=execOp a.eval o:=by
  rcases A with rfl|A
  ·rfl
  exact Oper.semAt_eq rd a.eval o A
 show o.uponIn _ n P a K Q ((o.semAt rd a.eval).run P w);rw[G];exact b8U h
theorem EZ.d0N{A Q o e I H C}(h:EZ A Q o e I H C)(K:Act→World→Prop)
 (Z:∀e' G H',C e' G H'→∀a w,Has a A.n e' A.ds→St A.w0 A.D A.I0 G H' w→K a w) a w (O:Has a A.n e A.ds)(hs:St A.w0 A.D A.I0 I H w):o.wpIn A.F 0 A.P a w K Q:=by
 by_cases hd:∃c,o.op= .defer c
 ·obtain⟨c,M⟩:=hd;have h1:=h (fun a' w'=>K a' w'∧a'.defers=A.ds) (fun e' G H' hC a w N a0=>⟨Z e' G H' hC a w N a0,N.defs⟩) a w O hs;refine⟨fun _ _=>trivial,?_⟩;unfold Oper.wp at h1;have hx:(execOp a.eval o).run A.P w=((resolve a.eval c o.type).run A.P w).andThen fun d w'=> .ok (.defer d) w':=by
   simp only[execOp,M,aG];rfl
  rw[hx]at h1;cases hr:(resolve a.eval c o.type).run A.P w with
  |ok d w'=>
   rw[hr]at h1;simp only[aA,aN]at h1;have h2:=h1.2;have h3:({ a with defers:=d::a.defers }.put o.dst undef).defers=d::a.defers:=by
    cases o.dst<;>rfl
   rw[h3,O.defs]at h2;exact absurd (zC List.length h2) sI
  |halt x w'=>
   rw[hr]at h1;have hy:(o.semAt A.F.round a.eval).run A.P w= .halt x w':=by
    unfold Oper.semAt;cases A.F.round with
    |none=>simp only[hx,hr];rfl
    |some l=>simp only[M,aG,hr];rfl
   rw[hy];have h4:(Result.andThen (.halt x w':Result Deferred) fun d w'=>(.ok (.defer d) w':Result Next))= .halt x w':=rfl;rw[h4]at h1;cases x<;>simp only[aN,dB]at h1 ⊢ <;>exact h1
 have h1:=h K Z a w O hs;exact a7w (rd:=A.rd) (.inr fun c M=>hd ⟨c,M⟩) h1
theorem wpIn_mono'{F n P a w}{c:Code}{Q A}(G:∀e a w,Q e a w→A e a w)(h:c.wpIn F n P Q a w):c.wpIn F n P A a w:=wpIn_mono h G
theorem b5Q{F rm P Q a w c}(I:Nat→Act→World→Prop) M (Z:I M a w)
 (round:∀n a w,I n a w→c.wpIn F rm P (Exit.then (fun O w'=>∃A,A<n∧I A O w') Q) a w):(Code.loop c).wpIn F rm P Q a w:=by
 refine wpIn_loop (fun a w=>∃n,I n a w) (fun a w=>leastOf (fun n=>I n a w)) ⟨M,Z⟩ ?_;intro a w hI;refine wpIn_mono (round _ a w (leastOf_spec hI).1) ?_;intro e O w' G;cases e with
 |normal=>
  obtain⟨A,a0,N⟩:=G;exact show(∃n,I n O w')∧leastOf (fun n=>I n O w')<leastOf (fun n=>I n a w) from⟨⟨A,N⟩,Nat.lt_of_le_of_lt ((leastOf_spec ⟨A,N⟩).2 A N) a0⟩
 |exit id=>exact G
 |goto l=>exact G
 |ret=>exact G
 |panic ch=>exact G
 |outgrown=>exact G
theorem Cx.wide{A:Cx}(h:A.rd=none):A.F=Fence.wide:=by
 unfold Cx.F;rw[h];rfl
theorem Cj.of_wp{A Q c e I H}(G:A.rd=none)(h:∀a w,Has a A.n e A.ds→St A.w0 A.D A.I0 I H w→c.wp A.P Q a w):Cj A Q c e I H:=fun a w M N=>by
 rw[Cx.wide G];exact wpIn_wide.2 (h a w M N)
theorem Cj.wp{A Q c e I H}(h:Cj A Q c e I H)(G:A.rd=none){a w}(M:Has a A.n e A.ds)(N:St A.w0 A.D A.I0 I H w):c.wp A.P Q a w:=by
 have:=h a w M N;rw[Cx.wide G]at this;exact wpIn_wide.1 this
section rules
variable {cx:Cx} {Q:Qt} {e:Env} {I:Heap} {H:HL}
theorem Cj.region{id l}(h:J cx Q l.toArray l e I H):Cj cx Q (.region id l.toArray false) e I H:=
 fun a w A G=>wpIn_region_lit (h a w A G)
theorem J.nil{A}(h:Ej cx Q .normal e I H):J cx Q A [] e I H:=fun a w G M=>wpListIn_nil (h a w G M)
theorem J.op{A o l}(N:o.guard=none)(h:EZ cx Q o e I H (J cx Q A l)):J cx Q A (o::l) e I H:=
 fun a w G M=>wpListIn_plain N fun K O=>h.d0N K (fun _ _ _ Z a w G M=>O a w (Z a w G M)) a w G M
theorem UD{A a n ds j d b}(G:Has a n e ds)(M:(A[j]?).bind (·.dst)=some d)(N:eg e d=some (.bool b)):
 yielded A a.tmps j=some b:=by
 have:=G.get d _ N;simp only[yielded,M,bI,this]
theorem J.XA{A o l} j d G b (O:o.guard=some (j,G))(Z:(A[j]?).bind (·.dst)=some d)(hv:eg e d=some (.bool b))(hb:b=G)
 (h:EZ cx Q o e I H (J cx Q A l)):J cx Q A (o::l) e I H:=by
 intro a w M N;refine wpListIn_step fun K hK=>?_;have hw:aC o (yielded A a.tmps)=true:=by simp[aC,O,UD M Z hv,hb]
 rw[zF hw];exact h.d0N K (fun _ _ _ hc a w M N=>hK a w (hc a w M N)) a w M N
theorem J.skip{A o l} j d t G b (N:o.guard=some (j,G))(O:(A[j]?).bind (·.dst)=some d)(Z:eg e d=some (.bool b))(hb:b= !G)
 (ho:o.dst=some t)(ht:aK t cx.n=true)(h:J cx Q A l ((t,undef)::e) I H):J cx Q A (o::l) e I H:=by
 intro a w M hs;refine wpListIn_step fun K hK=>?_;have hw:aC o (yielded A a.tmps)=false:=by simp[aC,N,UD M O Z,hb]
 rw[hw,ho];exact⟨fun _ _=>trivial,hK _ _ (h _ _ (M.put ht) hs)⟩
theorem J.d1y{A o l} j d t G (N:o.guard=some (j,G))(O:(A[j]?).bind (·.dst)=some d)(Z:eg e d=some undef)
 (ho:o.dst=some t)(ht:aK t cx.n=true)(h:J cx Q A l ((t,undef)::e) I H):J cx Q A (o::l) e I H:=by
 intro a w M hs;refine wpListIn_step fun K hK=>?_;have hw:aC o (yielded A a.tmps)=false:=by
  have:=M.get d _ Z;have hy:yielded A a.tmps j=none:=by simp only[yielded,O,bI,this,undef]
  simp[aC,N,hy]
 rw[hw,ho];exact⟨fun _ _=>trivial,hK _ _ (h _ _ (M.put ht) hs)⟩
theorem Cj.seq{x y}(h:Cj cx (Exit.then (y.wpIn cx.F 0 cx.P Q) Q) x e I H):Cj cx Q (.seq x y) e I H:=fun a w A G=>wpIn_seq (h a w A G)
theorem Ej.seq{y}(h:Cj cx Q y e I H):Ej cx (Exit.then (y.wpIn cx.F 0 cx.P Q) Q) .normal e I H:=fun a w A G=>h a w A G
theorem Ej.a2U{K:Act→World→Prop}(h:Ej cx Q .ret e I H):Ej cx (Exit.then K Q) .ret e I H:=fun a w A G=>h a w A G
theorem Ej.a1b{K:Act→World→Prop}{id}(h:Ej cx Q (.exit id) e I H):Ej cx (Exit.then K Q) (.exit id) e I H:=fun a w A G=>h a w A G
theorem Ej.MQ{K:Act→World→Prop}{A}(h:Ej cx Q (.panic A) e I H):Ej cx (Exit.then K Q) (.panic A) e I H:=fun a w G M=>h a w G M
theorem Cj.block{id c}(h:Cj cx (aJ id Q) c e I H):Cj cx Q (.block id c) e I H:=fun a w A G=>wpIn_block (h a w A G)
theorem Ej.MN{id}(h:Ej cx Q .normal e I H):Ej cx (aJ id Q) .normal e I H:=fun a w A G=>h a w A G
theorem Ej.YW{id}(h:Ej cx Q .normal e I H):Ej cx (aJ id Q) (.exit id) e I H:=fun a w A G=>by
 simp only[aJ,if_true];exact h a w A G
theorem Ej.a1C{id A}(G:dA A id=false)(h:Ej cx Q (.exit A) e I H):Ej cx (aJ id Q) (.exit A) e I H:=fun a w M N=>by
 have:A≠id:=fun O=>by subst O;simp[Nat.beq_refl]at G
 simp only[aJ,this,if_false];exact h a w M N
theorem Ej.c1P{id}(h:Ej cx Q .ret e I H):Ej cx (aJ id Q) .ret e I H:=fun a w A G=>h a w A G
theorem Ej.b4h{id A}(h:Ej cx Q (.panic A) e I H):Ej cx (aJ id Q) (.panic A) e I H:=fun a w G M=>h a w G M
theorem Cj.skip(h:Ej cx Q .normal e I H):Cj cx Q .skip e I H:=fun a w A G=>wpIn_skip (h a w A G)
theorem Cj.ret(h:Ej cx Q .ret e I H):Cj cx Q .ret e I H:=fun a w A G=>wpIn_ret (h a w A G)
theorem Cj.exit{id}(h:Ej cx Q (.exit id) e I H):Cj cx Q (.exit id) e I H:=fun a w A G=>wpIn_exit (h a w A G)
theorem Cj.cond{c x y t}(M:ev e c=some (.bool t))(h1:t=true→Cj cx Q x e I H)(h2:t=false→Cj cx Q y e I H):Cj cx Q (.cond c x y) e I H:=
 fun a w A G=>wpIn_cond_split (A.eval M) (fun h=>h1 h a w A G) (fun h=>h2 h a w A G)
theorem Cj.weak{c e'}(A:Sub e' e)(h:Cj cx Q c e' I H):Cj cx Q c e I H:=fun a w G h1=>h a w (G.sub A) h1
theorem Cj.keep{c H'}(A:H'.Sublist H)(h:Cj cx Q c e I H'):Cj cx Q c e I H:=fun a w G h1=>h a w G (h1.sublist A)
theorem Ej.keep{x H'}(A:H'.Sublist H)(h:Ej cx Q x e I H'):Ej cx Q x e I H:=fun a w G h1=>h a w G (h1.sublist A)
theorem Cj.perm{c H'}(A:H'.Perm H)(h:Cj cx Q c e I H'):Cj cx Q c e I H:=fun a w G h1=>h a w G (h1.perm A)
theorem J.perm{A l H'}(G:H'.Perm H)(h:J cx Q A l e I H'):J cx Q A l e I H:=fun a w M h1=>h a w M (h1.perm G)
theorem Ej.perm{x H'}(A:H'.Perm H)(h:Ej cx Q x e I H'):Ej cx Q x e I H:=fun a w G h1=>h a w G (h1.perm A)
theorem EZ.perm{o C H'}(A:H'.Perm H)(h:EZ cx Q o e I H' C):EZ cx Q o e I H C:=fun K G a w M h1=>h K G a w M (h1.perm A)
def Mid (cx:Cx) (Q:Qt) (M:Env→Heap→HL→Prop):Qt
 | .normal,a,w=>∃e I H,M e I H∧Has a cx.n e cx.ds∧St cx.w0 cx.D cx.I0 I H w
 |x,a,w=>Q x a w
def a6y (cx:Cx) (Q:Qt) {ι:Type} (pre:ι→Prop) (μ:ι→Nat) (i:ι) (env:ι→Env) (hp:ι→Heap) (hl:ι→HL):Qt
 | .normal,a,w=>∃j,pre j∧μ j<μ i∧Has a cx.n (env j) cx.ds∧St cx.w0 cx.D cx.I0 (hp j) (hl j) w
 |x,a,w=>Q x a w
theorem Cj.loop{ι:Type}(A:ι→Prop) μ G O Z {c} M (h0:A M)(hs:Sub (G M) e)(hI:O M=I)(hH:Z M=H)
 (round:∀i,A i→Cj cx (a6y cx Q A μ i G O Z) c (G i) (O i) (Z i)):Cj cx Q (.loop c) e I H:=by
 intro a w ha N;refine b5Q (fun m a w=>∃i,A i∧μ i=m∧Has a cx.n (G i) cx.ds∧St cx.w0 cx.D cx.I0 (O i) (Z i) w) (μ M) ⟨M,h0,rfl,ha.sub hs,hI▸hH▸N⟩ ?_;rintro m a w ⟨i,hi,rfl,ha,N⟩;refine wpIn_mono'  (fun x a w hq=>?_) (round i hi a w ha N)
 cases x<;>first
  |exact hq
  |(obtain⟨j,hj,a0,a1,a2⟩:=hq;exact⟨μ j,a0,j,hj,rfl,a1,a2⟩)
section round
variable {ι:Type} {pre:ι→Prop} {μ:ι→Nat} {i:ι} {env:ι→Env} {hp:ι→Heap} {hl:ι→HL}
theorem Ej.round j (A:pre j)(G:μ j<μ i)(M:Sub (env j) e)(N:hp j=I)(O:hl j=H):Ej cx (a6y cx Q pre μ i env hp hl) .normal e I H:=
 fun _ _ Z h1=>⟨j,A,G,Z.sub M,N▸O▸h1⟩
theorem Ej.b8q(h:Ej cx Q .ret e I H):Ej cx (a6y cx Q pre μ i env hp hl) .ret e I H:=fun a w A G=>h a w A G
theorem Ej.a4A{id}(h:Ej cx Q (.exit id) e I H):Ej cx (a6y cx Q pre μ i env hp hl) (.exit id) e I H:=fun a w A G=>h a w A G
theorem Ej.c1u{A}(h:Ej cx Q (.panic A) e I H):Ej cx (a6y cx Q pre μ i env hp hl) (.panic A) e I H:=fun a w G M=>h a w G M
end round
end rules
end Go.Sx
namespace Go.Sx
open Go
variable [DR]
def BN (cx:Cx) (o:Oper) (e:Env) (S:World→Prop) (v:Value):Prop:=
 ∀a w,Has a cx.n e cx.ds→S w→(execOp a.eval o).run cx.P w= .ok (.value v) w
def str (l:List UInt8):Value:= .string ⟨l.toArray⟩
abbrev i64 (n:Int):Value:= .int .i64 n
abbrev u8 (c:UInt8):Value:= .int .u8 (c.toNat:Int)
abbrev ptr (b o:Nat):Value:= .pointer (some ⟨b,o,none⟩)
def yV (t:TypeId) (l:List Value):Obj:= .cells l.toArray t (0,0)
theorem size_mk(l:List UInt8):(⟨l.toArray⟩:ByteArray).size=l.length:=by
 show l.toArray.size=_;simp
theorem EC{α:Type}[BEq α][LawfulBEq α]{a b:α}(h:(a != b)=false):a=b:=by simpa using h
section
variable {cx:Cx} {Q:Qt} {o:Oper} {e:Env} {I:Heap} {H:HL} {C:Ct} {S:World→Prop}
theorem YE{d v}(M:BN cx o e (SS I H) v)(N:o.dst=some d)(O:aK d cx.n=true)(k:C ((d,v)::e) I H):EZ cx Q o e I H C:=by
 intro K Z a w A G;unfold Oper.wp;rw[M a w A G.ss];simp only[aN,N];exact Z _ _ _ k _ _ (A.put O) G
theorem CU{d:Nat}{v:Value}(A:BN cx o e (SS I H) v)(k:C ((d,v)::e) I H)(G:o.dst=some d:=by exact rfl)(M:Nat.blt d cx.n=true:=by exact rfl):EZ cx Q o e I H C:=YE A G M k
theorem J.y{A l d v}(G:BN cx o e (SS I H) v)(M:o.guard=none)(N:o.dst=some d)(O:aK d cx.n=true)
 (k:J cx Q A l ((d,v)::e) I H):J cx Q A (o::l) e I H:=J.op M (YE G N O k)
theorem J.z{A l d v}(G:BN cx o e (SS I H) v)(k:J cx Q A l ((d,v)::e) I H)(M:o.guard=none:=by rfl)(N:o.dst=some d:=by rfl)(O:Nat.blt d cx.n=true:=by rfl):J cx Q A (o::l) e I H:=J.y G M N O k
theorem b0J{x v}(A:o.op= .move x)(G:ev e x=some v):BN cx o e S v:=by
 intro a w M _;simp only[execOp,A,aH,M.eval G]
theorem zS{x:Operand}{v:Value}(A:o.op= .move x:=by exact rfl)(G:ev e x=some v:=by exact rfl):BN cx o e S v:=b0J A G
theorem b1O{x v}(A:o.op= .assign x)(G:ev e x=some v):BN cx o e S v:=by
 intro a w M _;simp only[execOp,A,aH,M.eval G]
theorem BI{x:Operand}{v:Value}(A:o.op= .assign x:=by exact rfl)(G:ev e x=some v:=by exact rfl):BN cx o e S v:=b1O A G
theorem MR{c x y t v}(G:o.op= .pick c x y)(M:ev e c=some (.bool t))(N:t=true)(O:ev e x=some v):BN cx o e S v:=by
 intro a w A _;subst N;simp[execOp,G,A.eval M,A.eval O,asBool]
theorem SN{c x y t v}(G:o.op= .pick c x y)(M:ev e c=some (.bool t))(N:t=false)(O:ev e y=some v):BN cx o e S v:=by
 intro a w A _;subst N;simp[execOp,G,A.eval M,A.eval O,asBool]
theorem b6Z{x p}(A:o.op= .nilCheck x)(G:ev e x=some (.pointer (some p))):BN cx o e S (.pointer (some p)):=by
 intro a w M _;simp[execOp,A,M.eval G]
theorem ET{x:Operand}{p:Addr}(A:o.op= .nilCheck x:=by exact rfl)(G:ev e x=some (.pointer (some p)):=by exact rfl):BN cx o e S (.pointer (some p)):=b6Z A G
theorem a1h{x T k b off off' m fs f}(M:o.op= .fieldAddr T x k)(N:ev e x=some (ptr b off))
 (O:cx.P.underlying T=some (.struct fs))(Q:fs[k]?=some f)(G:∀w,(sizeOf f.type).run cx.P w= .ok (m+1) w)(A:off+f.offset=off'):
 BN cx o e S (ptr b off'):=by
 intro a w Z _;subst A;simp[execOp,M,Z.eval N,Instr.fieldAt,run_underlying O,Q,aT,fieldPlace,G,aO]
theorem zY{x:Operand}{T k b off off' m:Nat}{fs:Array Field}{f:Field}(M:cx.P.underlying T=some (.struct fs))(G:∀w,(sizeOf f.type).run cx.P w= .ok (m+1) w)(N:o.op= .fieldAddr T x k:=by exact rfl)(O:ev e x=some (ptr b off):=by exact rfl)(Q:fs[k]?=some f:=by exact rfl)(A:off+f.offset=off':=by exact rfl):BN cx o e S (ptr b off'):=a1h N O M Q G A
theorem cell_of_heap{w:World}{b off}{cs:List Value}{t fr v}(h:w.heap[b]?=some (.cells cs.toArray t fr))(A:cs[off]?=some v):
 w.cell? ⟨b,off,none⟩=some v:=by
 simp[World.cell?,h,A]
theorem BU{x T b off}{cs:List Value}{t fr v}(G:o.op= .load T x)(M:ev e x=some (ptr b off))
 (A:∀w,(isAgg T).run cx.P w= .ok false w)(N:yX S b (.cells cs.toArray t fr))(O:cs[off]?=some v):BN cx o e S v:=by
 intro a w Q Z;have hc:=cell_of_heap (N w Z) O;simp[execOp,G,Q.eval M,bZ,aT,loadVar,A,hc]
theorem DI{x:Operand}{T b off:Nat}{cs:List Value}{t:TypeId}{fr:Nat×Nat}{v:Value}(A:∀w,(isAgg T).run cx.P w= .ok false w)(G:yX S b (.cells cs.toArray t fr))(M:cs[off]?=some v)(N:o.op= .load T x:=by exact rfl)(O:ev e x=some (ptr b off):=by exact rfl):BN cx o e S v:=BU N O A G M
theorem BX{x:Operand}{T b off:Nat}{cs:List Value}{t:TypeId}{fr:Nat×Nat}{v:Value}(A:∀w,(isAgg T).run cx.P w= .ok false w)(G:yX S b (.cells cs.toArray t fr))(M:o.op= .load T x:=by exact rfl)(N:ev e x=some (ptr b off):=by exact rfl)(O:cs[off]?=some v:=by exact rfl):BN cx o e S v:=BU M N A G O
theorem QB{x T b off v}(G:o.op= .load T x)(M:ev e x=some (ptr b off))(A:∀w,(isAgg T).run cx.P w= .ok false w)(N:∀w,S w→w.cell? ⟨b,off,none⟩=some v):BN cx o e S v:=by
 intro a w O Q;simp[execOp,G,O.eval M,bZ,aT,loadVar,A,N w Q]
theorem a4w{x T b off n}{cs vs:List Value}{t fr}(N:o.op= .load T x)(O:ev e x=some (ptr b off))
 (G:∀w,(isAgg T).run cx.P w= .ok true w)(M:∀w,(sizeOf T).run cx.P w= .ok n w)(Q:yX S b (.cells cs.toArray t fr))(Z:(cs.drop off).take n=vs)(hn:vs.length=n):
 BN cx o e S (.agg vs.toArray):=by
 intro a w ha hs;have hh:=Q w hs;have hc:∀j v,vs[j]?=some v→w.cell? ((⟨b,off,none⟩:Addr).add j)=some v:=by
  intro j v A;rw[aO];refine cell_of_heap hh ?_;rw[←Z]at A;rw[wZ]at A
  split at A
  ·simpa[xH]using A
  cases A
 have:=run_loadCells_list (P:=cx.P) (w:=w) ⟨b,off,none⟩ vs hc;rw[hn]at this;simp[execOp,N,ha.eval O,bZ,aT,loadVar,G,M,this]
theorem DX{x:Operand}{T b off n:Nat}{cs vs:List Value}{t:TypeId}{fr:Nat×Nat}(A:∀w,(isAgg T).run cx.P w= .ok true w)(G:∀w,(sizeOf T).run cx.P w= .ok n w)(M:yX S b (.cells cs.toArray t fr))(N:o.op= .load T x:=by exact rfl)(O:ev e x=some (ptr b off):=by exact rfl)(Q:(cs.drop off).take n=vs:=by exact rfl)(Z:vs.length=n:=by exact rfl):BN cx o e S (.agg vs.toArray):=a4w N O A G M Q Z
theorem CX{x:Operand}{T b off n:Nat}{cs vs:List Value}{t:TypeId}{fr:Nat×Nat}(A:∀w,(isAgg T).run cx.P w= .ok true w)(G:∀w,(sizeOf T).run cx.P w= .ok n w)(M:yX S b (.cells cs.toArray t fr))(N:(cs.drop off).take n=vs)(O:o.op= .load T x:=by exact rfl)(Q:ev e x=some (ptr b off):=by exact rfl)(Z:vs.length=n:=by exact rfl):BN cx o e S (.agg vs.toArray):=a4w O Q A G M N Z
theorem FM{x y T U k p q}(G:o.op= .binOp .add T x y U)(M:ev e x=some (.int k p))(N:ev e y=some (.int k q))(O:k.wrap (p+q)=p+q):
 BN cx o e S (.int k (p+q)):=by
 intro a w A _;simp[execOp,G,A.eval M,A.eval N,eqGuard_add,binOp_add,bF,O]
theorem VG{x y T U k p q}(G:o.op= .binOp .sub T x y U)(M:ev e x=some (.int k p))(N:ev e y=some (.int k q))(O:k.wrap (p-q)=p-q):
 BN cx o e S (.int k (p-q)):=by
 intro a w A _;simp[execOp,G,A.eval M,A.eval N,eqGuard_sub,binOp_sub,bF,O]
theorem a0o{x y T U k p q}(G:o.op= .binOp .mul T x y U)(M:ev e x=some (.int k p))(N:ev e y=some (.int k q))(O:k.wrap (p*q)=p*q):
 BN cx o e S (.int k (p*q)):=by
 intro a w A _;simp[execOp,G,A.eval M,A.eval N,eqGuard_mul,binOp_mul,bF,O]
theorem b7D{x y T U k p q}(G:o.op= .binOp .add T x y U)(M:ev e x=some (.int k p))(N:ev e y=some (.int k q)):
 BN cx o e S (.int k (k.wrap (p+q))):=by
 intro a w A _;simp[execOp,G,A.eval M,A.eval N,eqGuard_add,binOp_add,bF]
theorem a5i{x y T U k p q}(G:o.op= .binOp .quo T x y U)(M:ev e x=some (.int k p))(N:ev e y=some (.int k q))(h0:q≠0)(O:k.wrap (p.tdiv q)=p.tdiv q):
 BN cx o e S (.int k (p.tdiv q)):=by
 intro a w A _;simp[execOp,G,A.eval M,A.eval N,eqGuard_quo,binOp_quo,Op.intDiv,O,h0]
theorem c2K{x y T U k p q}(G:o.op= .binOp .rem T x y U)(M:ev e x=some (.int k p))(N:ev e y=some (.int k q))(h0:q≠0):
 BN cx o e S (.int k (p.tmod q)):=by
 intro a w A _;simp[execOp,G,A.eval M,A.eval N,eqGuard_rem,binOp_rem,Op.intDiv,h0]
theorem a8P{x y T U k p q}(G:o.op= .binOp .lss T x y U)(M:ev e x=some (.int k p))(N:ev e y=some (.int k q)):BN cx o e S (.bool (decide (p<q))):=by
 intro a w A _;simp[execOp,G,A.eval M,A.eval N,eqGuard_lss,binOp_lss]
theorem d0Y{x y T U k p q}(G:o.op= .binOp .leq T x y U)(M:ev e x=some (.int k p))(N:ev e y=some (.int k q)):BN cx o e S (.bool (decide (p≤q))):=by
 intro a w A _;simp[execOp,G,A.eval M,A.eval N,eqGuard_leq,binOp_leq]
theorem b5L{x y T U k p q}(G:o.op= .binOp .gtr T x y U)(M:ev e x=some (.int k p))(N:ev e y=some (.int k q)):BN cx o e S (.bool (decide (p>q))):=by
 intro a w A _;simp[execOp,G,A.eval M,A.eval N,eqGuard_gtr,binOp_gtr]
theorem d0w{x y T U k p q}(G:o.op= .binOp .geq T x y U)(M:ev e x=some (.int k p))(N:ev e y=some (.int k q)):BN cx o e S (.bool (decide (p≥q))):=by
 intro a w A _;simp[execOp,G,A.eval M,A.eval N,eqGuard_geq,binOp_geq]
theorem QO{x y T U k p q}(G:o.op= .binOp .eql T x y U)(M:ev e x=some (.int k p))(N:ev e y=some (.int k q)):BN cx o e S (.bool (p == q)):=by
 intro a w A _;simp[execOp,G,A.eval M,A.eval N,eqGuard_at_int,binOp_eql]
theorem a5I{x y T U k p q}(G:o.op= .binOp .neq T x y U)(M:ev e x=some (.int k p))(N:ev e y=some (.int k q)):BN cx o e S (.bool (p != q)):=by
 intro a w A _;simp[execOp,G,A.eval M,A.eval N,eqGuard_at_int,binOp_neq]
theorem a8m{x T b}(A:o.op= .unOp .not T x)(G:ev e x=some (.bool b)):BN cx o e S (.bool (!b)):=by
 intro a w M _;simp[execOp,A,M.eval G,Op.unary]
theorem b8N{x A T k G n d}(M:o.op= .convert A T x)(N:ev e x=some (.int G n))(O:cx.P.underlying A=some d)(Q:cx.P.underlying T=some (.int k)):
 BN cx o e S (.int k (k.wrap n)):=by
 intro a w Z _;simp[execOp,M,Z.eval N,convert,run_underlying O,run_underlying Q,Conv.intToInt]
theorem a5r{x T l}(A:o.op= .call ⟨.builtin .len,#[x],#[T]⟩)(G:ev e x=some (str l))(M:cx.P.underlying T=some .string):BN cx o e S (i64 l.length):=by
 intro a w N _;simp[execOp,A,resolve,invoke,builtin,dU,N.eval G,run_underlying M,str,goInt,size_mk]
theorem QT{x T E p n c}(A:o.op= .call ⟨.builtin .len,#[x],#[T]⟩)(G:ev e x=some (.slice p n c))(M:cx.P.underlying T=some (.slice E)):BN cx o e S (i64 n):=by
 intro a w N _;simp[execOp,A,resolve,invoke,builtin,dU,N.eval G,run_underlying M,goInt]
theorem FB{x y T l k i c}(M:o.op= .index T x y)(N:ev e x=some (str l))(O:ev e y=some (.int k i))(Q:cx.P.underlying T=some .string)
 (h0:0≤i)(Z:l[i.toNat]?=some c):BN cx o e S (u8 c):=by
 intro a w A _;have:(⟨l.toArray⟩:ByteArray)[i.toNat]?=some c:=by
  obtain⟨G,hg⟩:=xC.1 Z;rw[getElem?_pos (⟨l.toArray⟩:ByteArray) i.toNat (by rw[size_mk];exact G)];simp[ByteArray.getElem_eq_getElem_data,hg]
 simp[execOp,M,A.eval N,A.eval O,Instr.index,run_underlying Q,str,asIntOf,h0,this]
theorem IC{x y:Operand}{T:Nat}{l:List UInt8}{k:IntKind}{i:Int}{c:UInt8}(A:cx.P.underlying T=some .string)(G:l[i.toNat]?=some c)(M:o.op= .index T x y:=by exact rfl)(N:ev e x=some (str l):=by exact rfl)(O:ev e y=some (.int k i):=by exact rfl)(h0:0≤i:=by omega):BN cx o e S (u8 c):=FB M N O A h0 G
theorem AO{x lo O T l}{p q:Nat}(Q:o.op= .slice T x lo O none)(Z:ev e x=some (str l))(hu:cx.P.underlying T=some .string)
 (N:match lo with|some y=>∃k,ev e y=some (.int k p)|none=>p=0)(A:match O with|some y=>∃k,ev e y=some (.int k q)|none=>q=l.length)
 (h1:p≤q)(h2:q≤l.length):BN cx o e S (str ((l.take q).drop p)):=by
 intro a w G _;have M:(⟨l.toArray⟩:ByteArray).extract p q=⟨((l.take q).drop p).toArray⟩:=by
  apply ByteArray.ext
  simp[bP];rw[List.drop_take]
 cases lo with
 |none=>
  simp only at N;subst N;cases O with
  |none=>
   simp only at A;subst A;simp[execOp,Q,G.eval Z,bG,Instr.slice,aW,run_underlying hu,str]
   first|done|simpa[size_mk]using M
  |some y=>
   obtain⟨k,hy⟩:=A;simp[execOp,Q,G.eval Z,G.eval hy,bG,Instr.slice,aW,run_underlying hu,str,bJ,asIntOf,size_mk,h2]
   first|done|simpa using M
 |some z=>
  obtain⟨_,hz⟩:=N;cases O with
  |none=>
   simp only at A;subst A;simp[execOp,Q,G.eval Z,G.eval hz,bG,Instr.slice,aW,run_underlying hu,str,bJ,asIntOf,size_mk,h1]
   first|done|simpa using M
  |some y=>
   obtain⟨k,hy⟩:=A;simp[execOp,Q,G.eval Z,G.eval hy,G.eval hz,bG,Instr.slice,aW,run_underlying hu,str,bJ,asIntOf,size_mk,h2,h1]
   first|done|simpa using M
theorem BQ{x y T U l m}(G:o.op= .binOp .add T x y U)(M:ev e x=some (str l))(N:ev e y=some (str m))(O:l.length+m.length≤9223372036854775807):
 BN cx o e S (str (l++m)):=by
 intro a w A _;have h1:¬((((⟨l.toArray⟩:ByteArray).size+(⟨m.toArray⟩:ByteArray).size:Nat):Int)>IntKind.i64.max):=by
  rw[size_mk,size_mk];simp;omega
 have h2:(⟨l.toArray⟩:ByteArray)++⟨m.toArray⟩=⟨(l++m).toArray⟩:=by
  apply ByteArray.ext;simp
 simp only[execOp,G,A.eval M,A.eval N,eqGuard_add,str,binOp,dD,zD h1,h2,aG,aH,aA]
theorem b2m{x y T U l m}(G:o.op= .binOp .eql T x y U)(M:ev e x=some (str l))(N:ev e y=some (str m)):BN cx o e S (.bool (l == m)):=by
 intro a w A _;simp[execOp,G,A.eval M,A.eval N,str,eqGuard_at_string,binOp,dD]
theorem b2x{x y T U l m}(G:o.op= .binOp .neq T x y U)(M:ev e x=some (str l))(N:ev e y=some (str m)):BN cx o e S (.bool (l != m)):=by
 intro a w A _;simp[execOp,G,A.eval M,A.eval N,str,eqGuard_at_string,binOp,dD,bne]
theorem a1v{x y T E b off n c sz off' k i}(N:o.op= .indexAddr T x y)(O:ev e x=some (.slice (some ⟨b,off,none⟩) n c))(Q:ev e y=some (.int k i))
 (Z:cx.P.underlying T=some (.slice E))(G:∀w,(sizeOf E).run cx.P w= .ok sz w)(h0:0≤i)(h1:i<n)(A:off+i.toNat*sz=off'):BN cx o e S (ptr b off'):=by
 intro a w M _;subst A;simp[execOp,N,M.eval O,M.eval Q,Instr.indexAt,asIntOf,run_underlying Z,h0,h1,G,aO]
theorem FZ{x y:Operand}{T E b off n c sz off':Nat}{k:IntKind}{i:Int}(M:cx.P.underlying T=some (.slice E))(G:∀w,(sizeOf E).run cx.P w= .ok sz w)(N:o.op= .indexAddr T x y:=by exact rfl)(O:ev e x=some (.slice (some ⟨b,off,none⟩) n c):=by exact rfl)(Q:ev e y=some (.int k i):=by exact rfl)(h0:0≤i:=by omega)(h1:i<n:=by omega)(A:off+i.toNat*sz=off':=by simp):BN cx o e S (ptr b off'):=a1v N O Q M G h0 h1 A
theorem JV{x k}{vs:List Value}{v}(A:o.op= .extract x k)(G:ev e x=some (.tuple vs.toArray))(M:vs[k]?=some v):BN cx o e S v:=by
 intro a w N _;simp[execOp,A,N.eval G,Instr.extract,M]
theorem a6K{fn fs cs vs A}(M:o.op= .makeFunc fn fs.toArray cs.toArray)(h1:evs e fs=some vs)(h2:evs e cs=some A):BN cx o e S (.func fn vs.toArray A.toArray):=by
 intro a w G _;simp[execOp,M,Instr.makeFunc,G.a0a h1,G.a0a h2]
theorem a4S{T x v d}(A:o.op= .makeInterface T x)(G:ev e x=some v)(M:cx.P.underlying T=some d)(N:(match d with| .interface _=>false|_=>true)=true):BN cx o e S (.iface T v):=by
 intro a w O _;simp only[execOp,A,Instr.makeInterface,O.eval G,aG,run_underlying M,aA];cases d<;>first|rfl|cases N
end
end Go.Sx
namespace Go.Sx
open Go
variable [DR]
structure BL {α:Type} (l:List α) (i:Nat) (x:α) (l':List α):Prop where
  lt:i<l.length
  eq:l.set i x=l'
theorem BL.z{α:Type}{v x:α}{r:List α}:BL (v::r) 0 x (x::r):=⟨sI,rfl⟩
theorem BL.s{α:Type}{v x:α}{r A n}(h:BL r n x A):BL (v::r) (n+1) x (v::A):=
 ⟨by have:=h.1;simp;omega,by rw[uN,h.2]⟩
structure AX {α:Type} (l:List α) (i:Nat) (xs:List α) (l':List α):Prop where
  le:i+xs.length≤l.length
  eq:l'=l.take i++xs++l.drop (i+xs.length)
theorem AX.z{α:Type}{l:List α}:AX l 0 [] l:=⟨sI,sI⟩
theorem AX.c{α:Type}{v x:α}{r A xs}(h:AX r 0 xs A):AX (v::r) 0 (x::xs) (x::A):=by
 obtain⟨h1,h2⟩:=h;refine⟨by simp at h1 ⊢;omega,?_⟩;subst h2;simp
theorem AX.s{α:Type}{v:α}{r A xs n}(h:AX r n xs A):AX (v::r) (n+1) xs (v::A):=by
 obtain⟨h1,h2⟩:=h;refine⟨by simp;omega,?_⟩;subst h2;simp[tV,Nat.add_right_comm n 1,List.drop_succ_cons]
theorem b7p:∀(H:HL) (i b:Nat) (o o':Obj),(H.map (·.1)).Nodup→H[i]?=some (b,o)→hset b o' H=H.set i (b,o')
 |[],i,b,o,o',_,h=>by simp at h
 |(c,x)::r,0,b,o,o',_,h=>by
  simp at h;obtain⟨rfl,rfl⟩:=h;simp[hset]
 |(c,x)::r,i+1,b,o,o',hn,h=>by
  simp only[wF,vJ]at hn;simp only[bK]at h;have A:c≠b:=fun G=>hn.1 (by rw[G];exact vT (f:=(·.1)) (vS h));simp only[hset,zD A,uN];rw[b7p r i b o o' hn.2 h]
def World.block (w:World) (b:Nat) (o:Obj):World:={ w with heap:=w.heap.setIfInBounds b o }
theorem a4E{w b off}{cs:List Value}{t fr v}(h:w.heap[b]?=some (.cells cs.toArray t fr)):
 w.setCell ⟨b,off,none⟩ v=World.block w b (.cells (cs.set off v).toArray t fr):=by
 have G:b<w.heap.size:=by
  rcases tC b w.heap.size with A|A
  ·exact A
  simp[yR A]at h
 simp only[World.setCell,World.block]
 congr 1
 apply yT
 intro i;rw[yQ,bC]
 by_cases hi:b=i
 ·subst hi;have M:w.heap[b]= .cells cs.toArray t fr:=by simpa[G]using h
  simp[G,M]
 simp[hi]
theorem b2z{w b o o'}(h:w.heap[b]?=some o):(World.block w b o').heap[b]?=some o':=by
 have G:b<w.heap.size:=by
  rcases tC b w.heap.size with A|A
  ·exact A
  simp[yR A]at h
 simp[World.block,G]
theorem c5M{w b c o'}(h:c≠b):(World.block w b o').heap[c]?=w.heap[c]?:=by
 simp[World.block,Ne.symm h]
theorem b6C{w b o o'}:World.block (World.block w b o) b o'=World.block w b o':=by
 simp[World.block]
theorem St.block{w0 D I0 I H H' w i b o o'}(h:St w0 D I0 I H w)(A:H[i]?=some (b,o))(M:BL H i (b,o') H'):
 St w0 D I0 I H' (World.block w b o'):=by
 have G:=vS A;have:=h.write (o':=o') G (w':=World.block w b o') rfl rfl rfl (by simp[World.block]) (b2z (h.own _ G)) (fun c N=>c5M N) rfl;rw[b7p H i b o o' h.nodup A,M.2]at this;exact this
theorem MP{P b off t fr}:∀(vs:List Value) (i:Nat) (w:World) (cs:List Value),w.heap[b]?=some (.cells cs.toArray t fr)→(fr=(0,0)∨cs.length≤fr.1)→off+i+vs.length≤cs.length→
 (∀v∈vs,v.oneCell'=true)→∀cs',AX cs (off+i) vs cs'→(storeCells ⟨b,off,none⟩ vs i).run P w= .ok () (World.block w b (.cells cs'.toArray t fr))
 |[],i,w,cs,h,_,_,_,cs',hl=>by
  have:cs'=cs:=by have:=hl.2;simpa using this
  subst this;have Z:World.block w b (.cells cs'.toArray t fr)=w:=by
   simp only[World.block]
   congr 1
   apply yT
   intro j;rw[bC]
   by_cases hj:b=j
   ·subst hj;have O:b<w.heap.size:=by
     rcases tC b w.heap.size with M|M
     ·exact M
     simp[yR M]at h
    have hg:w.heap[b]= .cells cs'.toArray t fr:=by simpa[O]using h
    simp[O,hg]
   simp[hj]
  rw[Z];rfl
 |v::r,i,w,cs,h,G,hlen,hone,cs',hl=>by
  simp only[wU]at hlen;have A:off+i<cs.length:=oM;have hc:w.cell? ⟨b,off+i,none⟩=some (cs[off+i]'A):=cell_of_heap h (by simp[A]);have Q:w.frozen? ⟨b,off+i,none⟩=false:=by
   rcases G with rfl|G
   ·simp[dP,h]
   simp only[dP,h];have:decide (fr.1≤off+i)=false:=by simp;omega
   simp[this]
  have h1:=run_store P w ⟨b,off+i,none⟩ v .plain (hone v (.head _));simp only[hc,Q,yL,if_false]at h1;have N:((⟨b,off,none⟩:Addr).add i)=⟨b,off+i,none⟩:=aO b off i;simp only[storeCells,aG,N,h1,aA];rw[a4E h];have h2:(World.block w b (.cells (cs.set (off+i) v).toArray t fr)).heap[b]?=some (.cells (cs.set (off+i) v).toArray t fr):=b2z h;rw[MP r (i+1) _ (cs.set (off+i) v) h2 (by simpa using G) (by simp;omega) (fun u hu=>hone u (.tail _ hu)) cs' ?_,b6C];refine⟨by simp;omega,?_⟩;rw[hl.2];simp only[wU];rw[show off+(i+1)=(off+i)+1 from by omega];rw[List.take_set,List.drop_set_of_lt oM];rw[tN A];rw[uO _ _ (by simp;omega)];simp[sW (Nat.le_of_lt A),Nat.add_assoc,Nat.add_comm 1]
structure DC (vs:List Value) (sz:Nat) (cs:List Value):Prop where
  all:∀v∈vs,v.cells.size=sz
  eq:vs.flatMap (fun v=>v.cells.toList)=cs
theorem DC.none{sz}:DC [] sz []:=⟨sI,rfl⟩
theorem DC.one{v vs cs}(h1:v.cells= #[v])(h:DC vs 1 cs):DC (v::vs) 1 (v::cs):=
 ⟨fun u A=>by cases A with|head=>rw[h1];rfl|tail _ A=>exact h.1 u A,by rw[xO,h1,h.2];rfl⟩
theorem DC.agg{xs vs cs sz}(h1:xs.length=sz)(h:DC vs sz cs):DC (.agg xs.toArray::vs) sz (xs++cs):=
 ⟨fun u A=>by cases A with|head=>simpa[Value.cells]using h1|tail _ A=>exact h.1 u A,by rw[xO,h.2];rfl⟩
theorem a5D:∀(xs:List Value) (k:Nat) (G M A:List Value) (off:Nat),M.length=xs.length→G.length=off+k→
 (xs.zipIdx k).foldl (fun cs (x:Value×Nat)=>cs.setIfInBounds (off+x.2) x.1) (G++M++A).toArray=(G++xs++A).toArray
 |[],k,G,M,A,off,h,_=>by
  have:M=[]:=wR.1 (by simpa using h);subst this;simp
 |x::xs,k,G,M,A,off,h,hp=>by
  obtain⟨y,r,rfl⟩:∃y r,M=y::r:=by
   cases M with
   |nil=>simp at h
   |cons y r=>exact⟨y,r,rfl⟩
  simp only[List.zipIdx_cons,List.foldl_cons];have h1:(G++y::r++A).toArray.setIfInBounds (off+k) x=((G++[x])++r++A).toArray:=by
   rw[List.setIfInBounds_toArray]
   congr 1
   rw[yE,uO _ _ oM,hp,Nat.sub_self];simp
  rw[h1,a5D xs (k+1) (G++[x]) r A off (by simpa using h) (by simp;omega)];simp
theorem b5K{sz}:∀(vs:List Value) (k:Nat) (A rest:List Value),(∀v∈vs,v.cells.size=sz)→A.length=k*sz→rest.length=vs.length*sz→
 bH (fun i=>some (i*sz,sz)) (A++rest).toArray ((bQ k vs.length).zip vs)=some (A++vs.flatMap (fun v=>v.cells.toList)).toArray
 |[],k,A,rest,_,_,hr=>by
  have:rest=[]:=wR.1 (by simpa using hr);subst this;simp[bH]
 |v::vs,k,A,rest,hv,hp,hr=>by
  have h1:v.cells.toList.length=sz:=by simpa using hv v (.head _)
  have N:rest.length=sz+vs.length*sz:=by rw[hr];simp[aS];omega
  have G:v.cells.size=sz:=hv v (.head _);simp only[wU,List.range'_succ,List.zip_cons_cons,bH];rw[zD (by simp[G,hp];omega)];have h2:v.cells.zipIdx.foldl (fun cs (x:Value×Nat)=>cs.setIfInBounds (k*sz+x.2) x.1) (A++rest).toArray=(A++v.cells.toList++rest.drop sz).toArray:=by
   rw[←a5D v.cells.toList 0 A (rest.take sz) (rest.drop sz) (k*sz) (by simp;omega) oM];rw[yE A,uD];rw[←cO,bV]
  rw[h2,b5K vs (k+1) (A++v.cells.toList) (rest.drop sz) (fun u M=>hv u (.tail _ M)) (by simp[G,hp,aS]) (by simp;omega)];simp[xO]
section
variable {cx:Cx} {Q:Qt} {o:Oper} {e:Env} {I:Heap} {H:HL} {C:Ct}
theorem EN{T d z zs}(G:o.op= .alloc T)(M:o.dst=some d)(N:aK d cx.n=true)(O:∀w,(zeroValue T).run cx.P w= .ok z w)(Z:z.cells=zs.toArray)
 (k:∀b,cx.w0.heap.size≤b→C ((d,ptr b 0)::e) I ((b,yV T zs)::H)):EZ cx Q o e I H C:=by
 intro K hK a w ha A;unfold Oper.wp;have:(execOp a.eval o).run cx.P w= .ok (.value (ptr w.heap.size 0)) { w with heap:=w.heap.push (yV T zs) }:=by
  simp[execOp,G,Instr.alloc,O,newVar,newRow,Z,yV]
 rw[this];simp only[aN,M];exact hK _ _ _ (k _ A.size) _ _ (ha.put N) (A.alloc _)
theorem KP{T d x z zs}(M:o.op= .box T x)(N:o.dst=some d)(O:aK d cx.n=true)(Z:ev e x=some z)(hc:z.cells=zs.toArray)
 (k:∀b,cx.w0.heap.size≤b→C ((d,ptr b 0)::e) I ((b,yV T zs)::H)):EZ cx Q o e I H C:=by
 intro K hK a w A G;unfold Oper.wp;have:(execOp a.eval o).run cx.P w= .ok (.value (ptr w.heap.size 0)) { w with heap:=w.heap.push (yV T zs) }:=by
  simp[execOp,M,Instr.box,A.eval Z,newVar,newRow,hc,yV]
 rw[this];simp only[aN,N];exact hK _ _ _ (k _ G.size) _ _ (A.put O) (G.alloc _)
theorem DV{x y T t b off} i {cs cs' vs v H' n}(ho:o.op= .store T x y)(hd:o.dst=none)(hx:ev e x=some (ptr b off))(hy:ev e y=some v)
 (hv:v.cells=vs.toArray)(h1:vs.all bD=true)(M:∀w,(sizeOf T).run cx.P w= .ok n w)(N:vs.length=n)(O:H[i]?=some (b,yV t cs))(A:AX cs off vs cs')(Z:BL H i (b,yV t cs') H')
 (k:C e I H'):EZ cx Q o e I H C:=by
 intro K hK a w G hs;unfold Oper.wp;have hb:=hs.own _ (vS O);have a0:=MP (P:=cx.P) (t:=t) vs 0 w cs hb (.inl rfl) A.1 (fun u hu=>(yG.1 h1) u hu) cs' A;have:(execOp a.eval o).run cx.P w= .ok .skip (World.block w b (yV t cs')):=by
  simp[execOp,ho,dQ,aT,G.eval hx,G.eval hy,storeVar,hv,M,N,a0,yV]
 rw[this];simp only[aN,hd];exact hK _ _ _ k _ _ G.XB (hs.block O Z)
theorem CG{x y:Operand}{T t b off:Nat}(i:Nat){cs cs' vs:List Value}{v:Value}{H':HL}{n:Nat}(A:∀w,(sizeOf T).run cx.P w= .ok n w)(G:AX cs off vs cs')(M:BL H i (b,yV t cs') H')(k:C e I H')(O:o.op= .store T x y:=by exact rfl)(Z:o.dst=none:=by exact rfl)(hx:ev e x=some (ptr b off):=by exact rfl)(hy:ev e y=some v:=by exact rfl)(hv:v.cells=vs.toArray:=by exact rfl)(h1:vs.all Value.oneCell'=true:=by exact rfl)(N:vs.length=n:=by exact rfl)(hH:H[i]?=some (b,yV t cs):=by exact rfl):EZ cx Q o e I H C:=DV i O Z hx hy hv h1 A N hH G M k
theorem a0z{T E d len sz}{parts:List (Nat×Operand)}{vs z A}(ho:o.op= .buildSlice T len parts.toArray)(hd:o.dst=some d)(hn:aK d cx.n=true)
 (hu:cx.P.underlying T=some (.slice E))(M:∀w,(sizeOf E).run cx.P w= .ok sz w)(hz:∀w,(zeroValue E).run cx.P w= .ok z w)(G:(Nat.ble (len*sz) (2 ^ 24) && aK 0 (len*sz))=true)
 (hv:evs e (parts.map (·.2))=some vs)(hi:parts.map (·.1)=bQ 0 vs.length)(hl:vs.length=len)(N:DC vs sz A)
 (k:∀b,cx.w0.heap.size≤b→C ((d,.slice (some ⟨b,0,none⟩) len len)::e) I ((b,yV E A)::H)):EZ cx Q o e I H C:=by
 intro K hK a w O Z;unfold Oper.wp;have hp:(parts.toArray.map fun(i,x)=>(i,a.eval x)).toList=(bQ 0 vs.length).zip vs:=by
  have h:=O.a0a hv;rw[←hi,←h];simp[dR,wE]
 have a0:¬(len*sz>2 ^ 24):=by
  simp only[yP,Nat.ble_eq]at G;omega
 have a1:¬(len*sz=0):=by
  simp only[yP,Nat.blt_eq]at G;omega
 have a2:bH (fun i=>some (i*sz,sz)) ((dF (len*sz)).map (z.cells[· % z.cells.size]!)) ((bQ 0 vs.length).zip vs)=some A.toArray:=by
  have h0:((dF (len*sz)).map (z.cells[· % z.cells.size]!))=([]++((dF (len*sz)).map (z.cells[· % z.cells.size]!)).toList).toArray:=by rw[vM,Array.toArray_toList]
  rw[h0,b5K vs 0 [] _ N.1 sI (by simp[hl]),N.2];simp
 have:(execOp a.eval o).run cx.P w= .ok (.value (.slice (some ⟨w.heap.size,0,none⟩) len len)) { w with heap:=w.heap.push (yV E A) }:=by
  simp only[execOp,ho,Instr.buildSlice,aG,run_underlying hu,aA,M,a0,a1,if_false,aH,hz,hp,a2,newRow,run_newObj,yV]
 rw[this];simp only[aN,hd];exact hK _ _ _ (k _ Z.size) _ _ (O.put hn) (Z.alloc _)
theorem CY{T E d len sz:Nat}{parts:List (Nat×Operand)}{vs:List Value}{z:Value}{A:List Value}(N:cx.P.underlying T=some (.slice E))(M:∀w,(sizeOf E).run cx.P w= .ok sz w)(O:∀w,(zeroValue E).run cx.P w= .ok z w)(Z:DC vs sz A)(k:∀b,cx.w0.heap.size≤b→C ((d,.slice (some ⟨b,0,none⟩) len len)::e) I ((b,yV E A)::H))(ho:o.op= .buildSlice T len parts.toArray:=by exact rfl)(hd:o.dst=some d:=by exact rfl)(hn:Nat.blt d cx.n=true:=by exact rfl)(G:(Nat.ble (len*sz) (2 ^ 24) && Nat.blt 0 (len*sz))=true:=by exact rfl)(hv:evs e (parts.map (·.2))=some vs:=by exact rfl)(hi:parts.map (·.1)=List.range' 0 vs.length:=by exact rfl)(hl:vs.length=len:=by exact rfl):EZ cx Q o e I H C:=a0z ho hd hn N M O G hv hi hl Z k
end
def Enters (P:Program) (f:FuncId):Prop:=∃fn,P.funcs[f]?=some fn∧fn.name≠ "runtime.NumGoroutine" ∧fn.body.isNone=false
def Ready (I:Heap) (H:HL) (w:World):Prop:=(∀b o,I b=some o→w.heap[b]?=some o)∧(∀p∈H,w.heap[p.1]?=some p.2)∧(H.map (·.1)).Nodup∧∀p∈H,I p.1=none
def RR (w0:World) (D:List Nat) (I0:Heap) (post:Ending→Heap→HL→Prop):Ending→World→Prop:=
 fun e w'=>∃I' H',St w0 D I0 I' H' w'∧post e I' H'
def yY (P:Program) (f:FuncId) (args:List Value) (I:Heap) (H:HL) (post:Ending→Heap→HL→Prop):Prop:=
 Enters P f∧∀w,Ready I H w→Calls P f args.toArray w (RR w (H.map (·.1)) I post)
theorem yY.mono{P f args I H}{M A:Ending→Heap→HL→Prop}(h:yY P f args I H M)
 (O:∀e G H',Le I G→M e G H'→A e G H'):yY P f args I H A:=
 ⟨h.1,fun w Q=>(h.2 w Q).mono fun e _ ⟨G,H',N,Z⟩=>⟨G,H',N,O e G H' N.le Z⟩⟩
def Pure (P:Program) (f:FuncId) (args:List Value) (I:Heap) (v:Value):Prop:=yY P f args I [] (fun e I' H'=>e= .returned v∧I'=I∧H'=[])
theorem MX{P f}(h:Enters P f) args w:(callFunc f args).run P w= .ok (.enter f args) w:=by
 obtain⟨fn,h1,h2,h3⟩:=h;have A:(fn.name == "runtime.NumGoroutine")=false:=by simpa using h2
 simp only[callFunc,aG,run_program,aA,h1,A,h3,yL,if_false,aH]
section
variable {cx:Cx} {Q:Qt} {o:Oper} {e:Env} {I:Heap} {C:Ct}
theorem zU{H1 R d f fo xs ts Z a0 vs}{M:Ending→Heap→HL→Prop}
 (ho:o.op= .call ⟨.value fo,xs.toArray,ts⟩)(hd:o.dst=some d)(hn:aK d cx.n=true)(hf:ev e fo=some (.func (.func f) Z.toArray a0.toArray))(hx:evs e xs=some vs)
 (hs:yY cx.P f (Z++vs++a0) I H1 M)
 (k:∀v G A,Le I G→M (.returned v) G A→C ((d,v)::e) G (A++R))
 (kp:∀ch G A,Le I G→M (.panicked ch) G A→Ej cx Q (.panic ch) e G (A++R))
 (ko:∀G A,¬M .outgrown G A):EZ cx Q o e I (H1++R) C:=by
 intro K hK a w ha N;unfold Oper.wp;have hr:(execOp a.eval o).run cx.P w= .ok (.enter f (Z++vs++a0).toArray) w:=by
  have a5:xs.toArray.map a.eval=vs.toArray:=by
   rw[dG,ha.a0a hx]
  simp only[execOp,ho,resolve,a5,ha.eval hf,Deferred.ofValue,invoke,aG,aH,aA,MX hs.1];simp
 rw[hr];simp only[aN];have a1:Ready I H1 w:=⟨N.sub,fun p O=>N.own p (vZ _ O),by
  have:=N.nodup;rw[wG,vK]at this;exact this.1,fun p O=>N.dis p (vZ _ O)⟩
 refine(hs.2 w a1).mono ?_;rintro en w' ⟨G,A,a3,O⟩;have a4:=a3.le;have a2:=N.call a3;cases en with
 |returned v=>
  rw[hd];exact hK _ _ _ (k v G A a4 O) _ _ (ha.put hn) a2
 |panicked ch=>exact kp ch G A a4 O _ _ ha a2
 |outgrown=>exact(ko _ _ O).elim
theorem EK{H d f N xs ts A G vs v}
 (Z:o.op= .call ⟨.value N,xs.toArray,ts⟩)(hd:o.dst=some d)(hn:aK d cx.n=true)(hf:ev e N=some (.func (.func f) A.toArray G.toArray))(hx:evs e xs=some vs)
 (hs:Pure cx.P f (A++vs++G) I v)(k:C ((d,v)::e) I H):EZ cx Q o e I H C:=
 zU (H1:=[]) (R:=H) Z hd hn hf hx hs
  (fun u O M _ ⟨h1,h2,h3⟩=>by cases h1;subst h2;subst h3;exact k) (fun _ O M _ ⟨h1,_⟩=>by cases h1) (fun O M ⟨h1,_⟩=>by cases h1)
end
theorem yY.b8v{P f fn c args I H}{A:Ending→Heap→HL→Prop}(N:P.funcs[f]?=some fn)(O:fn.body=some c)(M:fn.name≠ "runtime.NumGoroutine")
 (Q:args.length≤fn.ntmps)
 (h:∀w0,Ready I H w0→Cj ⟨P,fn.ntmps,w0,H.map (·.1),I,[],none⟩ (bodyPost P fn (RR w0 (H.map (·.1)) I A)) c (PE 0 args) I H):yY P f args I H A:=by
 refine⟨⟨fn,N,M,by simp[O]⟩,fun w G=>?_⟩;refine calls_of_wp N O ?_;exact(h w G).wp rfl (Has.start args fn.ntmps Q) (St.start w I H G.1 G.2.1 G.2.2.1 G.2.2.2)
theorem IJ{x}(h: -9223372036854775808≤x∧x≤9223372036854775807):IntKind.i64.wrap x=x:=IntWalk.i64_in _ h
section
variable {cx:Cx} {fn:Func} {post:Ending→Heap→HL→Prop} {e:Env} {I:Heap} {H:HL}
theorem Ej.YI{t v}(M:fn.results= #[.tmp t])(A:cx.ds=[])(N:eg e t=some v)(O:post (.returned v) I H):Ej cx (bodyPost cx.P fn (RR cx.w0 cx.D cx.I0 post)) .ret e I H:=by
 intro a w G Q;refine⟨G.defs.trans A,v,?_,I,H,Q,O⟩;rw[results_tmp M];have:=G.get t v N;simp[this]
theorem Ej.b8O{t u v x}(M:fn.results= #[.tmp t,.tmp u])(G:cx.ds=[])(N:eg e t=some v)(O:eg e u=some x)(Q:post (.returned (.tuple #[v,x])) I H):
 Ej cx (bodyPost cx.P fn (RR cx.w0 cx.D cx.I0 post)) .ret e I H:=by
 intro a w A Z;refine⟨A.defs.trans G,_,?_,I,H,Z,Q⟩;rw[results_tmp2 M];have h1:=A.get t v N;have h2:=A.get u x O;simp[h1,h2]
theorem Ej.a7H(G:fn.results= #[])(A:cx.ds=[])(M:post (.returned (.tuple #[])) I H):Ej cx (bodyPost cx.P fn (RR cx.w0 cx.D cx.I0 post)) .ret e I H:=
 fun _ _ N O=>⟨N.defs.trans A,_,results_none G _ _ _,I,H,O,M⟩
theorem Ej.PU(G:fn.results= #[])(A:cx.ds=[])(M:post (.returned (.tuple #[])) I H):Ej cx (bodyPost cx.P fn (RR cx.w0 cx.D cx.I0 post)) .normal e I H:=
 fun _ _ N O=>⟨N.defs.trans A,_,results_none G _ _ _,I,H,O,M⟩
theorem Ej.pan{A}(G:cx.ds=[])(M:post (.panicked A) I H):Ej cx (bodyPost cx.P fn (RR cx.w0 cx.D cx.I0 post)) (.panic A) e I H:=
 fun _ _ N O=>⟨N.defs.trans G,I,H,O,M⟩
end
def Pull (H:HL) (p:Nat×Obj) (H':HL):Prop:=(p::H').Perm H
theorem Pull.z{p r}:Pull (p::r) p r:=List.Perm.refl _
theorem Pull.s{p q r A}(h:Pull r p A):Pull (q::r) p (q::A):=(List.Perm.swap q p A).trans (List.Perm.cons q h)
def Keeps (H' H:HL):Prop:=H'.Sublist H
theorem Keeps.n:Keeps [] []:=List.Sublist.slnil
theorem Keeps.r{r}:Keeps r r:=List.Sublist.refl r
theorem Keeps.k{p r A}(h:Keeps A r):Keeps (p::A) (p::r):=bT p h
theorem Keeps.d{p r A}(h:Keeps A r):Keeps A (p::r):=List.Sublist.cons p h
section
variable {cx:Cx} {Q:Qt} {e:Env} {I:Heap} {H H':HL} {p:Nat×Obj}
theorem Cj.pull{c}(h:Pull H p H')(k:Cj cx Q c e I (p::H')):Cj cx Q c e I H:=Cj.perm h k
theorem J.pull{A l}(h:Pull H p H')(k:J cx Q A l e I (p::H')):J cx Q A l e I H:=J.perm h k
theorem Ej.pull{x}(h:Pull H p H')(k:Ej cx Q x e I (p::H')):Ej cx Q x e I H:=Ej.perm h k
theorem Ej.bare{x}(k:Ej cx Q x e I []):Ej cx Q x e I H:=Ej.keep (List.nil_sublist _) k
theorem J.split{A l} d {b}(G:eg e d=some (.bool b))(h1:b=true→J cx Q A l e I H)(h0:b=false→J cx Q A l e I H):J cx Q A l e I H:=by
 cases b
 ·exact h0 rfl
 exact h1 rfl
theorem Cj.persist{c b o}(M:cx.w0.heap.size≤b)(k:∀A,Le I A→A b=some o→Cj cx Q c e A H):Cj cx Q c e I ((b,o)::H):=
 fun a w N G=>k _ (a6E (G.dis _ (.head _))) (a1f b o I) a w N (G.persist M)
theorem J.persist{A l b o}(N:cx.w0.heap.size≤b)(k:∀G,Le I G→G b=some o→J cx Q A l e G H):J cx Q A l e I ((b,o)::H):=
 fun a w O M=>k _ (a6E (M.dis _ (.head _))) (a1f b o I) a w O (M.persist N)
theorem Ej.persist{x b o}(M:cx.w0.heap.size≤b)(k:∀A,Le I A→A b=some o→Ej cx Q x e A H):Ej cx Q x e I ((b,o)::H):=
 fun a w N G=>k _ (a6E (G.dis _ (.head _))) (a1f b o I) a w N (G.persist M)
end
def sel:List Nat→HL→HL
 |[],_=>[]
 | i::r,H=>match H[i]? with
   |some p=>p::sel r H
   |none=>sel r H
def HSub:HL→HL→Prop
 |[],_=>True
 |p::r,H=>p∈H∧HSub r H
theorem HSub.mem:∀{A H:HL},HSub A H→∀p∈A,p∈H
 |_::_,_,⟨h,_⟩,_,.head _=>h
 |_::_,_,⟨_,h⟩,_,.tail _ hp=>HSub.mem h _ hp
theorem HSub.n{H}:HSub [] H:=trivial
theorem HSub.c{p r H}(i:Nat)(h:H[i]?=some p)(t:HSub r H):HSub (p::r) H:=⟨vS h,t⟩
def CSub:CL→HL→Prop
 |[],_=>True
 |c::r,H=>(∃cs t fr,(c.1,dN (List.toArray cs) t fr)∈H∧cs[c.2.1]?=some c.2.2)∧CSub r H
theorem CSub.n{H}:CSub [] H:=trivial
theorem CSub.c{b off v r H}{cs:List Value}{t fr}(i:Nat)(h:H[i]?=some (b,.cells cs.toArray t fr))(A:cs[off]?=some v)(k:CSub r H):CSub ((b,off,v)::r) H:=
 ⟨⟨cs,t,fr,vS h,A⟩,k⟩
theorem CSub.cell:∀{Z:CL} {H:HL} {w:World},CSub Z H→(∀p∈H,w.heap[p.1]?=some p.2)→∀c∈Z,w.cell? ⟨c.1,c.2.1,none⟩=some c.2.2
 |_::_,_,_,⟨⟨_,_,_,h1,h2⟩,_⟩,hw,_,.head _=>cell_of_heap (hw _ h1) h2
 |_::_,_,_,⟨_,h⟩,hw,_,.tail _ hc=>CSub.cell h hw _ hc
def waits (ops:Array Oper) (i:Nat):Nat→Nat→Bool
 |0,_=>false
 | f+1,j=>match ops[j]? with
   |none=>false
   |some o=>o.after.any (fun e=>aP .any e && (e.on == i || waits ops i f e.on))
def Closed (ops:Array Oper) (listed:Array Bool):Prop:=∀j o,ops[j]?=some o→listed.getD j false=true→∀e∈o.after,aP .any e=true→listed.getD e.on false=true
def b7R (ops:Array Oper) (listed:Array Bool):Bool:=(List.range ops.size).all fun j=> !(listed.getD j false) || (match ops[j]? with
 |none=>true
 |some o=>o.after.all fun e=> !(aP .any e) || listed.getD e.on false)
theorem Closed.of{G A}(h:b7R G A=true):Closed G A:=by
 intro j o M O e Q Z;have N:j<G.size:=(Array.getElem?_eq_some_iff.1 M).1;have h1:=yG.1 h j (List.mem_range.2 N);rw[O,M]at h1;simp only[Bool.not_true,Bool.false_or]at h1;have h2:=Array.all_eq_true'.1 h1 e Q;rw[Z]at h2;simpa using h2
theorem Closed.set{G A j O}(h:Closed G A)(hj:G[j]?=some O)(M:∀e∈O.after,aP .any e=true→A.getD e.on false=true):Closed G (A.setIfInBounds j true):=by
 intro k o N Q e Z hb
 by_cases hjk:j=k
 ·subst hjk;rw[hj]at N;cases N;exact getD_set_true (M e Z hb)
 rw[getD_set_ne false hjk]at Q;exact getD_set_true (h k o N Q e Z hb)
theorem b1j{G A i}(N:Closed G A)(O:A.getD i false=false):∀(f j:Nat) (o:Oper),G[j]?=some o→waits G i f j=true→∃e∈o.after,aP .any e=true∧A.getD e.on false=false
 |0,_,_,_,h=>by cases h
 |f+1,j,o,ho,h=>by
  simp only[waits,ho]at h;obtain⟨e,he,M⟩:=Array.any_eq_true'.1 h;rw[yP,Bool.or_eq_true,beq_iff_eq]at M;refine⟨e,he,M.1,?_⟩;rcases M.2 with h1|h1
  ·rw[h1];exact O
  cases hl:A.getD e.on false with
  |false=>rfl
  |true=>
   cases ho2:G[e.on]? with
   |none=>cases f<;>simp[waits,ho2]at h1
   |some Q=>
    obtain⟨e2,Z,a0,hn⟩:=b1j N O f e.on Q ho2 h1;rw[N e.on Q ho2 hl e2 Z a0]at hn;cases hn
def zok (ops:Array Oper) (listed:Array Bool) (z i:Nat):Bool:=match ops[z]? with
 |none=>true
 |some _=>b7R ops listed && (i != z && waits ops i ops.size z)
def UZ (P:Program) (ops:Array Oper) (Q:Qt) (S:World→Prop) (z:Nat):Nat→Array Bool→Act→World→Prop
 |0,listed,a,w=>aF .any ops listed=[]∧Q .normal a w
 | fuel+1,listed,a,w=>(aF .any ops listed=[]→Q .normal a w)∧
   ∀i∈aF .any ops listed,wpOp P ops Q i (fun a' w'=>(i≠z→S w')∧UZ P ops Q S z fuel (listed.setIfInBounds i true) a' w') a w
theorem a3L{P G Q}{S:World→Prop}{z}:∀(fuel:Nat) (A:Array Bool) (a:Act) (w:World),UZ P G Q S z fuel A a w→wpAny P .any G Q fuel A a w
 |0,_,_,_,h=>h
 |fuel+1,_,_,_,h=>⟨h.1,fun i M=>wpOp_mono (fun N w' O=>a3L fuel _ N w' O.2) (h.2 i M)⟩
theorem b3g{A:Array Bool}{i}{N:Oper}(O:A.getD i true=false)(G:∀e∈N.after,aP .any e=true→A.getD e.on false=true):∀e∈N.after,aP .any e=true→e.on≠i:=fun e Z hb Q=>by
 have h1:=G e Z hb;rw[Q]at h1;rcases tC i A.size with M|M
 ·simp[M]at O h1;rw[O]at h1;cases h1
 simp[yR M]at h1
theorem b5M{P G Q}{S:World→Prop}{z i oi v}(hz:∀oz,G[z]?=some oz→i≠z∧waits G i G.size z=true)(hi:G[i]?=some oi)(a2:∀(j:Nat) (o:Oper) cs b,G[j]?=some o→o.op≠ .select cs b)
 (hQ:∀c a w,Q (.panic c) (a.put oi.dst v) w→Q (.panic c) a w):∀(M:Nat) (A:Array Bool) (a:Act) (w:World),
  (∀j O,G[j]?=some O→j≠i→A.getD j true=false→(∀e∈O.after,aP .any e=true→e.on≠i)→oi.apart G O=true)→
  (∀oz,G[z]?=some oz→Closed G A)→i∈aF .any G A→YieldsIf P G S oi v a→S w→
  UZ P G Q S z M (A.setIfInBounds i true) (a.put oi.dst v) w→UZ P G Q S z (M+1) A a w:=by
 intro M
 induction M with
 |zero=>
  intro A a w _ _ Z hy hS H;refine⟨fun h=>(by rw[h]at Z;cases Z),fun j hj=>?_⟩
  by_cases hji:j=i
  ·subst hji;exact hy.wpOp hi hS ⟨fun _=>hS,H⟩
  have:=ready_mono hj hji;rw[H.1]at this;cases this
 |succ M ih=>
  intro A a w a1 a5 Z hy hS H;refine⟨fun h=>(by rw[h]at Z;cases Z),fun j hj=>?_⟩
  by_cases hji:j=i
  ·subst hji;exact hy.wpOp hi hS ⟨fun _=>hS,H⟩
  have h1:=H.2 j (ready_mono hj hji);obtain⟨a3,O,N,a0⟩:=mem_ready.1 hj;have a8:=b3g (i:=i) (mem_ready.1 Z).1 a0;have a9:A.getD i false=false:=by
   have h0:=(mem_ready.1 Z).1;rcases tC i A.size with h'|h'
   ·simp[h']at h0 ⊢;exact h0
   simp[yR h']
  have a6:j≠z:=fun he=>by
   subst he;obtain⟨e,he,hb,hn⟩:=b1j (a5 O N) a9 _ j O N (hz O N).2;rw[a0 e he hb]at hn;cases hn
  have h2:=wpOp_putIf N (a1 j O N hji a3 a8) (fun cs b=>a2 i oi cs b hi) (fun cs b=>a2 j O cs b N) hQ hy h1
  have a4:∀k ok,G[k]?=some ok→k≠i→(A.setIfInBounds j true).getD k true=false→
   (∀e∈ok.after,aP .any e=true→e.on≠i)→oi.apart G ok=true:=fun k ok hk aa a7 ab=>by
   refine a1 k ok hk aa ?_ ab
   by_cases hjk:j=k
   ·subst hjk;exact a3
   rw[getD_set_ne true hjk]at a7;exact a7
  refine wpOp_mono (fun a' w' h3=>⟨fun _=>h3.2.1 a6,ih (A.setIfInBounds j true) a' w' a4 (fun oz ac=>(a5 oz ac).set N a0) (ready_mono Z (Ne.symm hji)) h3.1 (h3.2.1 a6) ?_⟩) h2;rw[Array.setIfInBounds_comm _ _ hji];exact h3.2.2
theorem a2K{P G Q}{S:World→Prop}{z i oi v M A a w}(N:zok G A z i=true)(Z:G[i]?=some oi)
 (hs:aY G=true)(hf:bU .any G A i=true)(hr:(aF .any G A).contains i=true)
 (hQ:∀c a w,Q (.panic c) (a.put oi.dst v) w→Q (.panic c) a w)(hy:YieldsIf P G S oi v a)(hS:S w)
 (h:UZ P G Q S z M (A.setIfInBounds i true) (a.put oi.dst v) w):UZ P G Q S z (M+1) A a w:=
 b5M (fun oz O=>by
  simp only[zok,O,yP,bne_iff_ne]at N;exact N.2) Z (Region.noSelect_spec hs) hQ M A a w (Region.free_spec Z hf) (fun oz O=>by
  simp only[zok,O,yP]at N;exact Closed.of N.1) (by simpa using hr) hy hS h
theorem a0Y{P G Q}{S:World→Prop}{z rs M A a w}(N:aF .any G A=rs)(O:rs≠[])
 (h:∀i∈rs,wpOp P G Q i (fun Z w'=>(i≠z→S w')∧UZ P G Q S z M (A.setIfInBounds i true) Z w') a w):UZ P G Q S z (M+1) A a w:=
 ⟨fun h0=>absurd (N▸h0) O,N▸h⟩
theorem b6P{P G Q}{S:World→Prop}{z A a w}(N:aF .any G A=[])(h:Q .normal a w):∀M,UZ P G Q S z M A a w
 |0=>⟨N,h⟩
 |_+1=>⟨fun _=>h,by rw[N];simp⟩
def JA (cx:Cx) (Q:Qt) (l:List Oper) (I1:Heap) (A:HL) (Z:CL) (z:Nat) (fuel:Nat) (listed:Array Bool) (e:Env) (I:Heap) (H:HL):Prop:=
 ∀a w,Has a cx.n e cx.ds→St cx.w0 cx.D cx.I0 I H w→UZ cx.P l.toArray Q (SC I1 A Z) z fuel listed a w
section
variable {cx:Cx} {Q:Qt} {e:Env} {I I1:Heap} {H A:HL} {Z:CL} {z:Nat} {l:List Oper}
def a6j (ops:Array Oper):Bool:=ops.toList.all fun o=>match o.op with
 | .defer _=>false
 |_=>true
theorem b9n{A}(h:a6j A=true){i:Nat}{o}(G:A[i]?=some o):∀c,o.op≠ .defer c:=by
 intro c M;have:=yG.1 h o (by have:=Array.mem_of_getElem? G;simpa using this);simp[M]at this
theorem a1X{rd P Z G Q}(M:a6j G=true)(N:¬LetsOut Q):∀(fuel:Nat) (A:Array Bool) (a:Act) (w:World),wpAny P Z G Q fuel A a w→wpAnyIn { Fence.wide with round:=rd } 0 P Z G Q fuel A a w
 |0,_,_,_,h=>h
 |fuel+1,A,a,w,h=>⟨h.1,fun i hi=>by
  have h2:=h.2 i hi;unfold wpOp at h2;unfold wpOpIn;cases ho:G[i]? with
  |none=>simp only[ho]at h2 ⊢;exact a1X M N fuel _ _ _ h2
  |some o=>
   simp only[ho]at h2 ⊢
   split
   ·rename_i O
    rw[zF O]at h2;have a0:rd=none∨∀c,o.op≠ .defer c:= .inr (b9n M ho);rcases h2 with h2|⟨_,h2⟩
    ·exact Oper.wpIn_mono (fun a' w' h3=>a1X M N fuel _ a' w' h3) (a7w a0 h2)
    exact(N h2).elim
   rename_i O
   rw[zD O]at h2;exact⟨fun _ _=>trivial,a1X M N fuel _ _ _ h2⟩⟩
theorem Cj.draw{id} A Z z (N:cx.P.follows .mixedOrders=true)(h:JA cx Q l I A Z z l.toArray.size (Array.replicate l.toArray.size false) e I H)(O:cx.rd=none∨(a6j l.toArray=true∧¬LetsOut Q):=by first|exact .inl rfl|exact .inr ⟨rfl,fun h=>h.elim fun _ h=>h.elim fun _ h=>h⟩):Cj cx Q (.region id l.toArray true) e I H:=
 O.elim (fun hr=>Cj.of_wp hr fun a _w G M=>wp_region_any N (a3L _ _ _ _ (h a _ G M.drew))) fun hd=>fun a _w G M=>wpIn_region_any N (a1X hd.1 hd.2 _ _ _ _ (a3L _ _ _ _ (h a _ G M.drew)))
theorem Cj.EX{id} is Z z (G:cx.P.follows .mixedOrders=true)(h:JA cx Q l I (sel is H) Z z l.toArray.size (Array.replicate l.toArray.size false) e I H)(A:cx.rd=none∨(a6j l.toArray=true∧¬LetsOut Q):=by first|exact .inl rfl|exact .inr ⟨rfl,fun h=>h.elim fun _ h=>h.elim fun _ h=>h⟩):Cj cx Q (.region id l.toArray true) e I H:=Cj.draw _ _ z G h A
theorem JA.pull{H' p M G}(h:Pull H p H')(k:JA cx Q l I1 A Z z M G e I (p::H')):JA cx Q l I1 A Z z M G e I H:=fun a w N h1=>k a w N (h1.perm h)
theorem JA.split{M G} d {b}(N:eg e d=some (.bool b))(h1:b=true→JA cx Q l I1 A Z z M G e I H)(h0:b=false→JA cx Q l I1 A Z z M G e I H):JA cx Q l I1 A Z z M G e I H:=by
 cases b
 ·exact h0 rfl
 exact h1 rfl
theorem JA.persist{M G b o}(hb:cx.w0.heap.size≤b)(k:∀N,Le I N→N b=some o→JA cx Q l I1 A Z z M G e N H):JA cx Q l I1 A Z z M G e I ((b,o)::H):=
 fun a w ha O=>k _ (a6E (O.dis _ (.head _))) (a1f b o I) a w ha (O.persist hb)
theorem JA.done{M G}(N:aF .any l.toArray G=[])(h:Ej cx Q .normal e I H):JA cx Q l I1 A Z z M G e I H:=
 fun a w O hs=>b6P N (h a w O hs) M
theorem JA.take{N G} i {o d v}(hz:zok l.toArray G z i=true)(hi:l.toArray[i]?=some o)(hs:aY l.toArray=true)(hf:bU .any l.toArray G i=true)
 (hr:(aF .any l.toArray G).contains i=true)(hq:∀c a w,Q (.panic c) (a.put (some d) v) w→Q (.panic c) a w)(hg:o.guard=none)(O:o.dst=some d)(hn:aK d cx.n=true)(hA:HSub A H)(hZ:CSub Z H)(a0:Le I1 I)
 (hy:BN cx o e (SC I1 A Z) v)(k:JA cx Q l I1 A Z z N (G.setIfInBounds i true) ((d,v)::e) I H):JA cx Q l I1 A Z z (N+1) G e I H:=by
 intro a w ha M;have a1:SC I1 A Z w:=⟨⟨fun b o h=>M.sub b o (a0 b o h),fun p hp=>M.own p (hA.mem p hp)⟩,hZ.cell M.own⟩;refine a2K (oi:=o) hz (v:=v) hi hs hf hr (by rw[O];exact hq) (.inl ⟨by simp[aC,hg],fun w' a2=>hy a w' ha a2⟩) a1 ?_;rw[O];exact k _ _ (ha.put hn) M
theorem JA.d1k{N G} i {o d v} j dj O b (hz:zok l.toArray G z i=true)(hi:l.toArray[i]?=some o)(hs:aY l.toArray=true)(hf:bU .any l.toArray G i=true)
 (hr:(aF .any l.toArray G).contains i=true)(hq:∀c a w,Q (.panic c) (a.put (some d) v) w→Q (.panic c) a w)(hg:o.guard=some (j,O))(a0:(l.toArray[j]?).bind (·.dst)=some dj)(hv:eg e dj=some (.bool b))(hb:b=O)
 (hd:o.dst=some d)(hn:aK d cx.n=true)(hA:HSub A H)(hZ:CSub Z H)(a1:Le I1 I)
 (hy:BN cx o e (SC I1 A Z) v)(k:JA cx Q l I1 A Z z N (G.setIfInBounds i true) ((d,v)::e) I H):JA cx Q l I1 A Z z (N+1) G e I H:=by
 intro a w ha M;have a2:SC I1 A Z w:=⟨⟨fun b o h=>M.sub b o (a1 b o h),fun p hp=>M.own p (hA.mem p hp)⟩,hZ.cell M.own⟩;refine a2K (oi:=o) hz (v:=v) hi hs hf hr (by rw[hd];exact hq) (.inl ⟨by simp[aC,hg,UD ha a0 hv,hb],fun w' a3=>hy a w' ha a3⟩) a2 ?_;rw[hd];exact k _ _ (ha.put hn) M
theorem JA.d1m{N G} i {o d} j dj O u (hz:zok l.toArray G z i=true)(hi:l.toArray[i]?=some o)(hs:aY l.toArray=true)(hf:bU .any l.toArray G i=true)
 (hr:(aF .any l.toArray G).contains i=true)(hq:∀c a w,Q (.panic c) (a.put (some d) undef) w→Q (.panic c) a w)(hg:o.guard=some (j,O))(a0:(l.toArray[j]?).bind (·.dst)=some dj)(hv:eg e dj=some u)
 (hb:u= .bool (!O)∨u=undef)(hd:o.dst=some d)(hn:aK d cx.n=true)(hA:HSub A H)(hZ:CSub Z H)(a1:Le I1 I)
 (k:JA cx Q l I1 A Z z N (G.setIfInBounds i true) ((d,undef)::e) I H):JA cx Q l I1 A Z z (N+1) G e I H:=by
 intro a w ha M;have a2:SC I1 A Z w:=⟨⟨fun b o h=>M.sub b o (a1 b o h),fun p hp=>M.own p (hA.mem p hp)⟩,hZ.cell M.own⟩;have hw:aC o (yielded l.toArray a.tmps)=false:=by
  have a3:=ha.get dj _ hv;rcases hb with rfl|rfl
  ·simp[aC,hg,UD ha a0 hv]
  have hy:yielded l.toArray a.tmps j=none:=by simp only[yielded,a0,bI,a3,undef]
  simp[aC,hg,hy]
 refine a2K (oi:=o) hz (v:=undef) hi hs hf hr (by rw[hd];exact hq) (.inr ⟨hw,rfl⟩) a2 ?_;rw[hd];exact k _ _ (ha.put hn) M
def UW (I1:Heap) (A:HL) (Z:CL) (I:Heap) (H:HL):Prop:=HSub A H∧CSub Z H∧Le I1 I
theorem JA.fix{M G}(h:UW I1 A Z I H)(k:UW I1 A Z I H→JA cx Q l I1 A Z z M G e I H):JA cx Q l I1 A Z z M G e I H:=k h
theorem JA.tk{M G} i {o d v}(O:l.toArray[i]?=some o)(N:UW I1 A Z I H)(hy:BN cx o e (SC I1 A Z) v)(k:JA cx Q l I1 A Z z M (G.setIfInBounds i true) ((d,v)::e) I H)
 (hd:o.dst=some d:=by rfl)(hg:o.guard=none:=by rfl)(hn:Nat.blt d cx.n=true:=by rfl)(hz:zok l.toArray G z i=true:=by first|rfl|kernel_rfl)(hs:Region.noSelect l.toArray=true:=by kernel_rfl)(hf:Region.free .any l.toArray G i=true:=by kernel_rfl)
 (hr:(Region.ready .any l.toArray G).contains i=true:=by kernel_rfl)(hq:∀c a w,Q (.panic c) (a.put (some d) v) w→Q (.panic c) a w:=by exact fun _ _ _ h=>h):JA cx Q l I1 A Z z (M+1) G e I H:=
 JA.take i hz O hs hf hr hq hg hd hn N.1 N.2.1 N.2.2 hy k
theorem JA.tkG{N G} i {o d v} j O M b (hi:l.toArray[i]?=some o)(hx:UW I1 A Z I H)(a0:(l.toArray[j]?).bind (·.dst)=some O)(hv:eg e O=some (.bool b))(hb:b=M)(hy:BN cx o e (SC I1 A Z) v)
 (k:JA cx Q l I1 A Z z N (G.setIfInBounds i true) ((d,v)::e) I H)(hd:o.dst=some d:=by rfl)(hg:o.guard=some (j,M):=by rfl)(hn:Nat.blt d cx.n=true:=by rfl)(hz:zok l.toArray G z i=true:=by first|rfl|kernel_rfl)(hs:Region.noSelect l.toArray=true:=by kernel_rfl)
 (hf:Region.free .any l.toArray G i=true:=by kernel_rfl)(hr:(Region.ready .any l.toArray G).contains i=true:=by kernel_rfl)(hq:∀c a w,Q (.panic c) (a.put (some d) v) w→Q (.panic c) a w:=by exact fun _ _ _ h=>h):JA cx Q l I1 A Z z (N+1) G e I H:=
 JA.d1k i j O M b hz hi hs hf hr hq hg a0 hv hb hd hn hx.1 hx.2.1 hx.2.2 hy k
theorem JA.tkS{N G} i {o d} j O M u (hi:l.toArray[i]?=some o)(hx:UW I1 A Z I H)(a0:(l.toArray[j]?).bind (·.dst)=some O)(hv:eg e O=some u)(hb:u= .bool (!M)∨u=undef)
 (k:JA cx Q l I1 A Z z N (G.setIfInBounds i true) ((d,undef)::e) I H)(hd:o.dst=some d:=by rfl)(hg:o.guard=some (j,M):=by rfl)(hn:Nat.blt d cx.n=true:=by rfl)(hz:zok l.toArray G z i=true:=by first|rfl|kernel_rfl)(hs:Region.noSelect l.toArray=true:=by kernel_rfl)
 (hf:Region.free .any l.toArray G i=true:=by kernel_rfl)(hr:(Region.ready .any l.toArray G).contains i=true:=by kernel_rfl)(hq:∀c a w,Q (.panic c) (a.put (some d) undef) w→Q (.panic c) a w:=by exact fun _ _ _ h=>h):JA cx Q l I1 A Z z (N+1) G e I H:=
 JA.d1m i j O M u hz hi hs hf hr hq hg a0 hv hb hd hn hx.1 hx.2.1 hx.2.2 k
theorem JA.step{N G} i {o}(hr:aF .any l.toArray G=[i])(hi:l.toArray[i]?=some o)(hg:o.guard=none)
 (k:EZ cx Q o e I H (fun e' O H'=>(Le I1 O∧HSub A H'∧CSub Z H')∧JA cx Q l I1 A Z z N (G.setIfInBounds i true) e' O H')):JA cx Q l I1 A Z z (N+1) G e I H:=by
 intro a w ha a0;refine a0Y hr sI fun j hj=>?_;obtain rfl:j=i:=by simpa using hj
 unfold wpOp;simp only[hi];rw[zF (by simp[aC,hg])];refine .inl (k _ (fun e' O H' ⟨⟨a1,hA,hZ⟩,hj⟩ a' w' a2 M=>⟨fun _=>⟨⟨fun b o h=>M.sub b o (a1 b o h),fun p hp=>M.own p (hA.mem p hp)⟩,hZ.cell M.own⟩,hj a' w' a2 M⟩) a w ha a0)
theorem qq2{M:Nat}{G:Array Bool}(i:Nat){o:Oper}(O:l.toArray[i]?=some o)(k:EZ cx Q o e I H (fun e' N H'=>(Le I1 N∧HSub A H'∧CSub Z H')∧JA cx Q l I1 A Z z M (G.setIfInBounds i true) e' N H'))(hr:Region.ready .any l.toArray G=[i]:=by kernel_rfl)(hg:o.guard=none:=by exact rfl):JA cx Q l I1 A Z z (M+1) G e I H:=JA.step i hr O hg k
theorem JA.last{M G} i {o}(hr:aF .any l.toArray G=[i])(hz:i=z)(hi:l.toArray[i]?=some o)(hg:o.guard=none)
 (k:EZ cx Q o e I H (fun e' O H'=>JA cx Q l I1 A Z z M (G.setIfInBounds i true) e' O H')):JA cx Q l I1 A Z z (M+1) G e I H:=by
 intro a w ha a0;refine a0Y hr sI fun j N=>?_;obtain rfl:j=i:=by simpa using N
 unfold wpOp;simp only[hi];rw[zF (by simp[aC,hg])];refine .inl (k _ (fun e' O H' N a' w' a1 a2=>⟨fun h=>absurd hz h,N a' w' a1 a2⟩) a w ha a0)
theorem JA.stepG{N G} i {o} j dj O b (hr:aF .any l.toArray G=[i])(hi:l.toArray[i]?=some o)(hg:o.guard=some (j,O))
 (a0:(l.toArray[j]?).bind (·.dst)=some dj)(hv:eg e dj=some (.bool b))(hb:b=O)
 (k:EZ cx Q o e I H (fun e' I' H'=>(Le I1 I'∧HSub A H'∧CSub Z H')∧JA cx Q l I1 A Z z N (G.setIfInBounds i true) e' I' H')):JA cx Q l I1 A Z z (N+1) G e I H:=by
 intro a w ha a1;refine a0Y hr sI fun j hj=>?_;obtain rfl:j=i:=by simpa using hj
 unfold wpOp;simp only[hi];rw[zF (by simp[aC,hg,UD ha a0 hv,hb])];refine .inl (k _ (fun e' I' H' ⟨⟨a2,hA,hZ⟩,hj⟩ a' w' a3 M=>⟨fun _=>⟨⟨fun b o h=>M.sub b o (a2 b o h),fun p hp=>M.own p (hA.mem p hp)⟩,hZ.cell M.own⟩,hj a' w' a3 M⟩) a w ha a1)
theorem JA.all{N G} rs (hr:aF .any l.toArray G=rs)(a0:rs≠[])
 (k:∀i∈rs,∃o,l.toArray[i]?=some o∧o.guard=none∧EZ cx Q o e I H (fun e' O H'=>(Le I1 O∧HSub A H'∧CSub Z H')∧JA cx Q l I1 A Z z N (G.setIfInBounds i true) e' O H')):JA cx Q l I1 A Z z (N+1) G e I H:=by
 intro a w ha a1;refine a0Y hr a0 fun j hj=>?_;obtain⟨o,hi,hg,k⟩:=k j hj;unfold wpOp;simp only[hi];rw[zF (by simp[aC,hg])];refine .inl (k _ (fun e' O H' ⟨⟨a2,hA,hZ⟩,hj⟩ a' w' a3 M=>⟨fun _=>⟨⟨fun b o h=>M.sub b o (a2 b o h),fun p hp=>M.own p (hA.mem p hp)⟩,hZ.cell M.own⟩,hj a' w' a3 M⟩) a w ha a1)
end
end Go.Sx
namespace Go.Sx
instance d1I:DR:=⟨false⟩
theorem a2u{p:Prop}:DR.b=true→p:=fun h=>nomatch h
theorem St.drewN{w0 w D I0 I H}(h:St w0 D I0 I H w) k:St w0 D I0 I H { w with drawn:=k }:=
 ⟨h.os,h.tape,h.output,h.size,h.frm,h.sub,h.own,h.nodup,h.dis,h.new,h.ifr,h.le,a2u⟩
theorem Ej.SG{A fn}{G:Ending→Heap→HL→Prop}{e I H H' t T b n}{cs:List Value}{ty fr}(hk:Keeps H' H)(hr:fn.results= #[.cell t T])(M:A.ds=[])(hv:eg e t=some (ptr b 0))
 (hb:yX (SS I H) b (.cells cs.toArray ty fr))(N:∀w,(isAgg T).run A.P w= .ok true w)(O:∀w,(sizeOf T).run A.P w= .ok n w)(hn:cs.length=n)(hp:G (.returned (.agg cs.toArray)) I H'):
 Ej A (bodyPost A.P fn (RR A.w0 A.D A.I0 G)) .ret e I H:=by
 intro a w Q Z;refine⟨Q.defs.trans M,_,?_,I,H',Z.sublist hk,hp⟩;have h1:=Q.get t _ hv;have hc:∀j v,cs[j]?=some v→w.cell? ((⟨b,0,none⟩:Addr).add j)=some v:=fun j v hj=>by
  rw[aO];exact cell_of_heap (hb w Z.ss) (by simpa using hj)
 have h2:=run_loadCells_list (P:=A.P) (w:=w) ⟨b,0,none⟩ cs hc;rw[hn]at h2;simp[results,hr,h1,asAddr,loadVar,N,O,h2]
theorem Ej.c6v{A fn}{G:Ending→Heap→HL→Prop}{e I H H' t N O T b n x y}{cs:List Value}{ty fr}(hk:Keeps H' H)(hr:fn.results= #[.cell t T,.tmp N,.tmp O])(Q:A.ds=[])(hv:eg e t=some (ptr b 0))
 (hb:yX (SS I H) b (.cells cs.toArray ty fr))(Z:∀w,(isAgg T).run A.P w= .ok true w)(a0:∀w,(sizeOf T).run A.P w= .ok n w)(hn:cs.length=n)(hx:eg e N=some x)(hy:eg e O=some y)(hp:G (.returned (.tuple #[.agg cs.toArray,x,y])) I H'):
 Ej A (bodyPost A.P fn (RR A.w0 A.D A.I0 G)) .ret e I H:=by
 intro a w M hs;refine⟨M.defs.trans Q,_,?_,I,H',hs.sublist hk,hp⟩;have h1:=M.get t _ hv;have h3:=M.get N _ hx;have h4:=M.get O _ hy;have hc:∀j v,cs[j]?=some v→w.cell? ((⟨b,0,none⟩:Addr).add j)=some v:=fun j v hj=>by
  rw[aO];exact cell_of_heap (hb w hs.ss) (by simpa using hj)
 have h2:=run_loadCells_list (P:=A.P) (w:=w) ⟨b,0,none⟩ cs hc;rw[hn]at h2;simp[results,hr,h1,h3,h4,asAddr,loadVar,Z,a0,h2]
theorem St.forget{w0 w D I0 I H}(h:St w0 D I0 I H w):St w0 D I0 I0 H w:=
 ⟨h.os,h.tape,h.output,h.size,h.frm,fun b o A=>h.sub b o (h.le b o A),h.own,h.nodup,fun p G=>(by
  cases hi:I0 p.1 with
  |none=>rfl
  |some o=>(have:=h.dis p G;rw[h.le _ _ hi]at this;cases this)),h.new,fun _ _=>rfl,Le.refl _,a2u⟩
theorem yY.forget{P f args I H}{G A:Ending→Heap→HL→Prop}(h:yY P f args I H G)
 (O:∀e M H',Le I M→G e M H'→A e I H'):yY P f args I H A:=
 ⟨h.1,fun w Q=>(h.2 w Q).mono fun e _ ⟨M,H',N,Z⟩=>⟨I,H',N.forget,O e M H' N.le Z⟩⟩
theorem yY.toPure{P f args I v}(h:yY P f args I [] (fun e _ H'=>e= .returned v∧H'=[])):Pure P f args I v:=
 h.forget fun _ _ _ _ ⟨h1,h2⟩=>⟨h1,rfl,h2⟩
open Go
abbrev Gs:=Option (Nat×Nat×List Value)
def gH (E:TypeId) (xs:List Value):Gs→HL
 |none=>[]
 |some (b,_,sp)=>[(b,yV E (xs++sp))]
def gV (n:Nat):Gs→Value
 |none=> .slice none 0 0
 |some (b,c,_)=> .slice (some ⟨b,0,none⟩) n c
def AL (base sz n:Nat) (xs:List Value):Gs→Prop
 |none=>n=0∧xs=[]
 |some (b,c,sp)=>base≤b∧xs.length=n*sz∧xs.length+sp.length=c*sz
theorem AL.len{base sz n xs g}(h:AL base sz n xs g):xs.length=n*sz:=by
 cases g with
 |none=>obtain⟨rfl,rfl⟩:=h;simp
 |some p=>exact h.2.1
theorem AL.some{base sz n xs g}(h:AL base sz n xs g)(A:0<n):∃b c sp,g= .some (b,c,sp)∧base≤b:=by
 cases g with
 |none=>obtain⟨rfl,_⟩:=h;omega
 |some p=>exact⟨p.1,p.2.1,p.2.2,rfl,h.1⟩
theorem b5w{α:Type}(xs sp:List α) k:(xs++sp).drop (xs.length+k)=sp.drop k:=by
 rw[←xY,List.drop_left]
theorem b8l A:∀(r c:Nat),c≤2*A+768→dL A r c≤2*A+768
 |0,c,h=>h
 |r+1,c,h=>by
  unfold dL
  split
  ·exact h
  exact b8l A r _ oM
theorem b9r A G (h:G<A):aZ A G≤2*A+768:=by
 unfold aZ
 split
 ·omega
 split
 ·omega
 exact b8l A 4 G oM
theorem a0L{P w b off n}{cs xs:List Value}{t fr}(h:w.heap[b]?=some (.cells cs.toArray t fr))(G:(cs.drop off).take n=xs)(M:xs.length=n):
 (loadCells ⟨b,off,none⟩ n).run P w= .ok xs.toArray w:=by
 have N:∀j v,xs[j]?=some v→w.cell? ((⟨b,off,none⟩:Addr).add j)=some v:=fun j v A=>by
  rw[aO];refine cell_of_heap h ?_;rw[←G,wZ]at A
  split at A
  ·simpa[xH]using A
  cases A
 have:=run_loadCells_list (P:=P) (w:=w) ⟨b,off,none⟩ xs N
 rwa [M]at this
def Src (P:Program) (I:Heap) (H:HL) (sz m:Nat) (y:Value) (ys:List Value):Prop:=
 ys.length=m*sz∧ys.all bD=true∧(∀w,SS I H w→(dS y).run P w= .ok m w)∧∀w,SS I H w→(aI sz m y).run P w= .ok ys.toArray w
theorem Src.slice{P I H sz m b off c}{cs ys:List Value}{t fr}(G:yX (SS I H) b (.cells cs.toArray t fr))(M:(cs.drop off).take (m*sz)=ys)(A:ys.length=m*sz)(h1:ys.all bD=true):
 Src P I H sz m (.slice (some ⟨b,off,none⟩) m c) ys:=
 ⟨A,h1,fun _ _=>rfl,fun w N=>by
  simp only[aI];exact a0L (G w N) M A⟩
theorem Src.nil{P I H sz c p}:Src P I H sz 0 (.slice p 0 c) []:=
 ⟨sI,rfl,fun _ _=>rfl,fun w _=>by
  cases p<;>simp[aI,loadCells,loadCellsFrom]⟩
def DJ (l:List UInt8):List Value:=l.map fun c=>u8 c
theorem Src.str{P:Program}{I:Heap}{H:HL}{l:List UInt8}:Src P I H 1 l.length (str l) (DJ l):=by
 refine⟨by simp[DJ],by simp[DJ,bD],fun _ _=>by simp[dS,Sx.str,size_mk],fun w _=>?_⟩;have A:(⟨l.toArray⟩:ByteArray).extract 0 l.length=⟨l.toArray⟩:=by
  apply ByteArray.ext
  simp[bP]
 simp only[aI,Sx.str,A,aH,DJ];simp
theorem ext_cons{e d v}(h:eg e d=some v):∀t u,eg ((d,v)::e) t=some u→eg e t=some u:=fun t u A=>by
 rw[a6v]at A
 by_cases hk:d=t
 ·subst hk;simp at A;subst A;exact h
 simpa[hk]using A
theorem Has.ext{a n e e' ds}(h:Has a n e ds)(A:∀t u,eg e' t=some u→eg e t=some u):Has a n e' ds:=⟨h.size,h.defs,fun t v G=>h.get t v (A t v G)⟩
theorem Cj.ext{A Q e e' I H c}(G:∀t u,eg e' t=some u→eg e t=some u)(h:Cj A Q c e' I H):Cj A Q c e I H:=fun a w M h1=>h a w (M.ext G) h1
theorem J.ext{G Q e e' I H A l}(M:∀t u,eg e' t=some u→eg e t=some u)(h:J G Q A l e' I H):J G Q A l e I H:=fun a w N h1=>h a w (N.ext M) h1
section
variable {cx:Cx} {Q:Qt} {o:Oper} {e:Env} {I:Heap} {H:HL} {C:Ct} {S:World→Prop}
theorem GX{T E d sz by' n m} base (a3:base≤cx.w0.heap.size){x y U g xs ys yv z} R (ho:o.op= .call ⟨.builtin .append,#[x,y],#[T,U]⟩)(hd:o.dst=some d)(hn:aK d cx.n=true)
 (hx:ev e x=some (gV n g))(hy:ev e y=some yv)(hu:cx.P.underlying T=some (.slice E))(hU:cx.P.underlying U=some .string∨∃E',cx.P.underlying U=some (.slice E'))
 (a4:(cx.P.info? E).map (·.bytes)=some (by'+1))(a9:∀w,(sizeOf E).run cx.P w= .ok sz w)(hz:∀w,(zeroValue E).run cx.P w= .ok z w)(aa:z.cells.size=sz)
 (hg:AL base sz n xs g)(hH:H=R++gH E xs g)(hs:Src cx.P I H sz m yv ys)(av:(2*(n+m)+768)*(by'+1)≤281474976710656)
 (k:∀g',AL base sz (n+m) (xs++ys) g'→C ((d,gV (n+m) g')::e) I (R++gH E (xs++ys) g')):EZ cx Q o e I H C:=by
 intro K hK a w ha N;obtain⟨O,aj,ab,ac⟩:=hs;obtain⟨i,hi,al⟩:∃i,cx.P.info? E=some i∧i.bytes=by'+1:=by
  cases h:cx.P.info? E with
  |none=>rw[h]at a4;cases a4
  |some i=>rw[h]at a4;exact⟨i,rfl,by simpa using a4⟩
 have a5:=N.ss;have aw:=hg.len;unfold Oper.wp;have key:∃w' g',(execOp a.eval o).run cx.P w= .ok (.value (gV (n+m) g')) w'∧AL base sz (n+m) (xs++ys) g'∧St cx.w0 cx.D cx.I0 I (R++gH E (xs++ys) g') w':=by
  have am:∀w',(typeInfo E).run cx.P w'= .ok i w':=fun w'=>by simp[typeInfo,hi]
  have ad:∀(M:Option Addr) (c:Nat),gV n g= .slice M n c→(execOp a.eval o).run cx.P w=
   ((aV #[T,U] o.type #[.slice M n c,yv]).run cx.P w).andThen fun v w'=> .ok (.value v) w':=by
   intro M c hv;simp only[execOp,ho,resolve,invoke,builtin,aG,aH,aA,dG,wF,wC,ha.eval hx,ha.eval hy,hv]
  have fits:∀(M:Option Addr) (c:Nat),n+m≤c→(aV #[T,U] o.type #[.slice M n c,yv]).run cx.P w=
   (match M with
    |some a=>(storeCells (a.add (n*sz)) ys).run cx.P w
    |none=> .ok () w).andThen fun _ w'=> .ok (.slice M (n+m) c) w':=by
   intro M c G;rcases hU with a1|⟨E',a1⟩<;>cases M<;>simp[aV,run_underlying hu,run_underlying a1,a9,ab w a5,ac w a5,G]
  have grows:∀(M:Option Addr) (c:Nat) (a6:Array Value),¬n+m≤c→c<n+m→(∀w',SS I H w'→(aI sz n (.slice M n c)).run cx.P w'= .ok a6 w')→
   (aV #[T,U] o.type #[.slice M n c,yv]).run cx.P w=
    let A:=(aQ (n+m) c E).cut (w.tape w.drawn (.appendCap (n+m) c E))
    .ok (.slice (some ⟨w.heap.size,0,none⟩) (n+m) A) { { w with drawn:=w.drawn+1 }with heap:=w.heap.push (.cells (a6++ys.toArray++aB z.cells (A-(n+m))) E (0,0)) }:=by
   intro M c a6 G hc a2;have an:¬(2 ^ 48<aZ (n+m) c*i.bytes):=by
    have:=b9r (n+m) c hc;rw[al];have h2:=sU (by'+1) this;have h3:(2:Nat) ^ 48=281474976710656:=dE;omega
   have ao:¬i.bytes=0:=oM;have a7:SS I H { w with drawn:=w.drawn+1 }:=a5;rcases hU with a1|⟨E',a1⟩<;>simp only[aV,wY,List.getElem?_cons_zero,bK,aG,aH,run_underlying hu,run_underlying a1,aA,a9,ab w a5,yL,if_false,Sem.run_ite,G,am,an,ao,false_or,and_false,gt_iff_lt,run_choose,dJ,run_askRoom,a2 _ a7,Bool.not_false,if_true,ac _ a7,hz,newRow,run_newObj]
  cases g with
  |none=>
   obtain⟨rfl,rfl⟩:=hg;rw[ad none 0 rfl];have ap:∀w',SS I H w'→(aI sz 0 (.slice none 0 0)).run cx.P w'= .ok #[] w':=fun w' _=>by simp[aI]
   by_cases hm:m=0
   ·subst hm;have aq:ys=[]:=wR.1 (by simpa using O);subst aq;refine⟨w,none,?_,⟨sI,sI⟩,by simpa[gH,hH]using N⟩;rw[fits none 0 oM];simp[gV]
   rw[grows none 0 #[] oM oM ap]
   let A:=(aQ (0+m) 0 E).cut (w.tape w.drawn (.appendCap (0+m) 0 E))
   refine⟨{ { w with drawn:=w.drawn+1 }with heap:=w.heap.push (.cells (#[]++ys.toArray++aB z.cells (A-(0+m))) E (0,0)) },some (w.heap.size,A,(aB z.cells (A-(0+m))).toList),?_,?_,?_⟩
   ·rfl
   ·have ae:m≤A:=by simp only[A,dV];omega
    refine⟨aX a3 N.size,by simp[O],?_⟩;simp only[aB,bW,dM,dH,vM,O,aa];rw[←aS]
    congr 1;omega
   have h0:=(N.drewN (w.drawn+1)).alloc (.cells (#[]++ys.toArray++aB z.cells (A-(0+m))) E (0,0));have a0:(dN (#[]++ys.toArray++aB z.cells (A-(0+m))) E (0,0))=yV E ([]++ys++(aB z.cells (A-(0+m))).toList):=by
    simp[yV]
   rw[a0]at h0 ⊢;subst hH;simp only[gH,yD]at h0 ⊢;refine h0.perm ?_;exact uQ
  |some p=>
   obtain⟨b,c,sp⟩:=p;obtain⟨ar,Z,_⟩:=hg;rw[ad (some ⟨b,0,none⟩) c rfl];have a8:(b,yV E (xs++sp))∈H:=by rw[hH];simp[gH]
   have af:=N.own _ a8
   by_cases G:n+m≤c
   ·rw[fits _ _ G];have ax:ys.length≤sp.length:=by
     have:(n+m)*sz≤c*sz:=sU sz G;rw[aS]at this;omega
    have ag:AX (xs++sp) (n*sz+0) ys (xs++ys++sp.drop ys.length):=by
     refine⟨by simp only[wV];omega,?_⟩;rw[Nat.add_zero,←Z,dK rfl,b5w]
    have ah:=MP (P:=cx.P) (b:=b) (off:=n*sz) (t:=E) ys 0 w (xs++sp) af (.inl rfl) (by simp only[wV];omega) (fun u hu=>(yG.1 aj) u hu) _ ag;refine⟨World.block w b (.cells (xs++ys++sp.drop ys.length).toArray E (0,0)),some (b,c,sp.drop ys.length),?_,?_,?_⟩
    ·simp only[aA,aO,sS,ah,gV]
    ·exact⟨ar,by simp[Z,O,aS],by simp;omega⟩
    subst hH;have ai:(R++gH E xs (some (b,c,sp)))[R.length]?=some (b,yV E (xs++sp)):=by simp[gH]
    have hset:BL (R++gH E xs (some (b,c,sp))) R.length (b,yV E (xs++ys++sp.drop ys.length)) (R++gH E (xs++ys) (some (b,c,sp.drop ys.length))):=by
     refine⟨by simp[gH],?_⟩;rw[uO _ _ (tH _)];simp[gH]
    exact N.block ai hset
   have a2:∀w',SS I H w'→(aI sz n (.slice (some ⟨b,0,none⟩) n c)).run cx.P w'= .ok xs.toArray w':=fun w' au=>
    a0L (cs:=xs++sp) (au.2 _ a8) (by rw[xU,←Z,dK];rfl) Z
   rw[grows _ _ _ G oM a2]
   let A:=(aQ (n+m) c E).cut (w.tape w.drawn (.appendCap (n+m) c E))
   refine⟨{ { w with drawn:=w.drawn+1 }with heap:=w.heap.push (.cells (xs.toArray++ys.toArray++aB z.cells (A-(n+m))) E (0,0)) },some (w.heap.size,A,(aB z.cells (A-(n+m))).toList),?_,?_,?_⟩
   ·rfl
   ·have ae:n+m≤A:=by simp only[A,dV];omega
    refine⟨aX a3 N.size,by simp[Z,O,aS],?_⟩;simp only[aB,bW,dM,dH,wV,Z,O,aa];rw[←aS,←aS]
    congr 1;omega
   have h0:=(N.drewN (w.drawn+1)).alloc (.cells (xs.toArray++ys.toArray++aB z.cells (A-(n+m))) E (0,0));have a0:(dN (xs.toArray++ys.toArray++aB z.cells (A-(n+m))) E (0,0))=yV E (xs++ys++(aB z.cells (A-(n+m))).toList):=by
    simp[yV]
   rw[a0]at h0 ⊢;subst hH;have h1:=h0.sublist (H':=(w.heap.size,yV E (xs++ys++(aB z.cells (A-(n+m))).toList))::R) (bT _ (List.sublist_append_left _ _));refine h1.perm ?_;exact uQ
 obtain⟨w',g',h1,h2,h3⟩:=key;rw[h1];simp only[aN,hd];exact hK _ _ _ (k g' h2) _ _ (ha.put hn) h3
theorem zT{T E d sz by' n m x y U g xs ys M z} R (ho:o.op= .call ⟨.builtin .append,#[x,y],#[T,U]⟩)(hd:o.dst=some d)(hn:aK d cx.n=true)
 (hx:ev e x=some (gV n g))(hy:ev e y=some M)(hu:cx.P.underlying T=some (.slice E))(hU:cx.P.underlying U=some .string∨∃E',cx.P.underlying U=some (.slice E'))
 (N:(cx.P.info? E).map (·.bytes)=some (by'+1))(O:∀w,(sizeOf E).run cx.P w= .ok sz w)(hz:∀w,(zeroValue E).run cx.P w= .ok z w)(Z:z.cells.size=sz)
 (hg:AL cx.w0.heap.size sz n xs g)(hH:H=R++gH E xs g)(hs:Src cx.P I H sz m M ys)(A:(2*(n+m)+768)*(by'+1)≤281474976710656)
 (k:∀G,AL cx.w0.heap.size sz (n+m) (xs++ys) G→C ((d,gV (n+m) G)::e) I (R++gH E (xs++ys) G)):EZ cx Q o e I H C:=
 GX cx.w0.heap.size (tH _) R ho hd hn hx hy hu hU N O hz Z hg hH hs A k
theorem J.eqv{A l} d {v G}(M:eg e d=some v)(h:v=G)(k:J cx Q A l ((d,G)::e) I H):J cx Q A l e I H:=
 J.ext (e':=(d,G)::e) (ext_cons (h▸M)) k
theorem JA.eqv{N A Z z l M G} d {v O}(hv:eg e d=some v)(h:v=O)(k:JA cx Q l N A Z z M G ((d,O)::e) I H):JA cx Q l N A Z z M G e I H:=
 fun a w ha hs=>k a w (ha.ext (ext_cons (h▸hv))) hs
theorem Cj.eqv{c} d {v A}(G:eg e d=some v)(h:v=A)(k:Cj cx Q c ((d,A)::e) I H):Cj cx Q c e I H:=
 Cj.ext (e':=(d,A)::e) (ext_cons (h▸G)) k
theorem b5G{T}{parts:List (Nat×Operand)}{vs v}(A:o.op= .build T parts.toArray)(G:evs e (parts.map (·.2))=some vs)
 (M:∀w,(dW T ((parts.map (·.1)).zip vs).toArray).run cx.P w= .ok v w):BN cx o e S v:=by
 intro a w N _;have O:(parts.toArray.map fun(i,x)=>(i,a.eval x))=((parts.map (·.1)).zip vs).toArray:=by
  have:=N.a0a G;rw[←this];simp[dR,wE]
 simp only[execOp,A,aG,O,M,aA,aH]
structure GU (pl:Array (Nat×Nat)) (cs:List Value) (parts:List (Nat×Value)) (cs':List Value):Prop where
  eq:Instr.fill (pl[·]?) cs.toArray parts=some cs'.toArray
theorem GU.none{pl cs}:GU pl cs [] cs:=⟨rfl⟩
theorem GU.part{pl cs vs A G i off sz v r}(h1:pl[i]?=some (off,sz))(h2:v.cells=vs.toArray)(h3:vs.length=sz)(N:AX cs off vs A)(O:GU pl A r G):
 GU pl cs ((i,v)::r) G:=by
 refine⟨?_⟩;simp only[bH,h1,h2];obtain⟨_,Q⟩:=N;rw[zD (by simp;omega)];have M:=a5D vs 0 (cs.take off) ((cs.drop off).take vs.length) (cs.drop (off+vs.length)) off (by simp;omega) (by simp;omega);have Z:cs.take off++(cs.drop off).take vs.length++cs.drop (off+vs.length)=cs:=by
  rw[yE,←xY,uD,uD]
 rw[Z,←Q]at M;have h8:vs.toArray.zipIdx.foldl (fun cs (x:Value×Nat)=>cs.setIfInBounds (off+x.2) x.1) cs.toArray=A.toArray:=by
  rw[←cO,bV];exact M
 rw[h8];exact O.eq
theorem zL{T}{parts:List (Nat×Operand)}{vs zs cs z fs pl}(M:o.op= .build T parts.toArray)(N:evs e (parts.map (·.2))=some vs)
 (O:∀w,(zeroValue T).run cx.P w= .ok z w)(A:z.cells=zs.toArray)(Q:cx.P.underlying T=some (.struct fs))
 (G:∀w,(fs.mapM (m:=Sem) fun f=>do pure (f.offset,←sizeOf f.type)).run cx.P w= .ok pl w)(Z:GU pl zs ((parts.map (·.1)).zip vs) cs):BN cx o e S (.agg cs.toArray):=
 b5G M N fun w=>by
  simp only[dW,aG,O,A,run_underlying Q,aA,G];rw[Z.eq];rfl
theorem LJ{x y ts k p q}(G:o.op= .call ⟨.builtin .min,#[x,y],ts⟩)(M:ev e x=some (.int k p))(N:ev e y=some (.int k q)):BN cx o e S (.int k (if q<p then q else p)):=by
 intro a w A _;simp[execOp,G,resolve,invoke,builtin,Builtin.min_,Builtin.min2,A.eval M,A.eval N]
theorem IE{x y ts k p q}(G:o.op= .call ⟨.builtin .max,#[x,y],ts⟩)(M:ev e x=some (.int k p))(N:ev e y=some (.int k q)):BN cx o e S (.int k (if q>p then q else p)):=by
 intro a w A _;simp[execOp,G,resolve,invoke,builtin,Builtin.max_,Builtin.max2,A.eval M,A.eval N]
theorem MG{x y T t b off} i {cs:List Value}{v H' fr}(ho:o.op= .store T x y)(hd:o.dst=none)(hx:ev e x=some (ptr b off))(hy:ev e y=some v)
 (hv:v.cells= #[v])(h1:v.oneCell'=true)(N:∀w,(sizeOf T).run cx.P w= .ok 1 w)(O:H[i]?=some (b,.cells cs.toArray t fr))(Z:fr=(0,0)∨cs.length≤fr.1)(A:off<cs.length)
 (a0:BL H i (b,.cells (cs.set off v).toArray t fr) H')(k:C e I H'):EZ cx Q o e I H C:=by
 intro K hK a w G hs;unfold Oper.wp;have hb:=hs.own _ (vS O);have M:AX cs (off+0) [v] (cs.set off v):=by
  refine⟨by simp;omega,?_⟩;rw[List.set_eq_take_append_cons_drop];simp[A]
 have a1:=MP (P:=cx.P) (t:=t) [v] 0 w cs hb Z (by simp;omega) (fun u hu=>by simp at hu;subst hu;exact h1) _ M;have:(execOp a.eval o).run cx.P w= .ok .skip (World.block w b (.cells (cs.set off v).toArray t fr)):=by
  simp[execOp,ho,dQ,aT,G.eval hx,G.eval hy,storeVar,hv,N,a1]
 rw[this];simp only[aN,hd];exact hK _ _ _ k _ _ G.XB (hs.block O a0)
theorem c9I{x y T U c q} A (M:o.op= .binOp .add T x y U)(N:ev e x=some (u8 c))(O:ev e y=some (.int .u8 q))(Q:q=A.toNat):BN cx o e S (u8 (c+A)):=by
 intro a w G _;subst Q;have:IntKind.u8.wrap ((c.toNat:Int)+A.toNat)=((c+A).toNat:Int):=by
  simp[IntKind.wrap,IntKind.signed,IntKind.bits,UInt8.toNat_add]
 simp[execOp,M,G.eval N,G.eval O,eqGuard_add,binOp_add,bF,this]
theorem c9n l sp k c (h:k<l.length):(DJ l++sp).set k (u8 c)=DJ (l.set k c)++sp:=by
 rw[List.set_append_left _ _ (by simpa[DJ]using h)];simp[DJ,List.map_set]
theorem c9M l sp (k:Nat) c (h:l[k]?=some c):(DJ l++sp)[k]?=some (u8 c):=by
 have:k<(DJ l).length:=by
  simp only[DJ,wO];rcases tC k l.length with A|A
  ·exact A
  simp[xE A]at h
 rw[xJ this];simp[DJ,h]
theorem NT l:(DJ l).length=l.length:=by simp[DJ]
theorem XK{O T E d x l}(ho:o.op= .convert O T x)(hd:o.dst=some d)(hn:aK d cx.n=true)(hx:ev e x=some (str l))
 (hS:cx.P.underlying O=some .string)(hT:cx.P.underlying T=some (.slice E))(hE:cx.P.underlying E=some (.int .u8))
 (k:∀b c sp fr,cx.w0.heap.size≤b→(DJ l++sp).length≤fr→C ((d,.slice (some ⟨b,0,none⟩) l.length c)::e) I ((b,.cells (DJ l++sp).toArray E (fr,fr+1))::H)):EZ cx Q o e I H C:=by
 intro K hK a w Z M;unfold Oper.wp
 let G:=(aQ l.length 0 E).cut (w.tape w.drawn (.appendCap l.length 0 E))
 let sp:List Value:=List.replicate (G-l.length) (.int .u8 0)
 have N:(execOp a.eval o).run cx.P w= .ok (.value (.slice (some ⟨w.heap.size,0,none⟩) l.length G))
  { { w with drawn:=w.drawn+1 }with heap:=w.heap.push (.cells (DJ l++sp).toArray E ((DJ l++sp).length,(DJ l++sp).length+1)) }:=by
  simp only[execOp,ho,convert,Z.eval hx,str,aG,run_underlying hS,run_underlying hT,aA,run_underlying hE,Conv.stringToBytes,size_mk,run_choose,dJ,newRow,run_newObj,yL,if_false,markStringish,run_shape,aH];simp only[World.shape?,Array.getElem?_push_size,run_freeze,aA,World.freeze];have h0:(Array.map (fun b:UInt8=>cZ IntKind.u8 ↑b.toNat) l.toArray++bM (G-l.length) (cZ IntKind.u8 0))=(DJ l++sp).toArray:=by
   simp[DJ,sp]
  have h1:∀(A:Array Obj) (o o':Obj) (f:Obj→Obj),f o=o'→(A.push o).modify A.size f=A.push o':=by
   intro A o o' f hf
   apply yT
   intro j;rw[yQ,aU,aU]
   by_cases hj:A.size=j
   ·subst hj;simp[hf]
   simp[hj,Ne.symm hj]
  simp only[Nat.one_ne_zero,if_false];refine zC (fun W:World=>(Result.ok (Next.value (.slice (some ⟨w.heap.size,0,none⟩) l.length G)) W:Result Next)) ?_;refine zC (fun H:Array Obj=>({ heap:=H,tape:=w.tape,drawn:=w.drawn+1,os:=w.os,output:=w.output }:World)) ?_;refine h1 _ _ _ _ ?_;rw[show(Array.map (fun b:UInt8=>cZ IntKind.u8 ↑b.toNat) l.toArray++bM ((aQ l.length 0 E).cut (w.tape w.drawn (aQ l.length 0 E))-l.length) (cZ IntKind.u8 0))=(DJ l++sp).toArray from h0];simp
 rw[N];simp only[aN,hd];exact hK _ _ _ (k w.heap.size G sp _ M.size (tH _)) _ _ (Z.put hn) ((M.drewN (w.drawn+1)).alloc _)
theorem OE{G T E x} l {b off c n}{cs:List Value}{t fr}(M:o.op= .convert G T x)(N:ev e x=some (.slice (some ⟨b,off,none⟩) n c))(O:l.length=n)
 (Q:cx.P.underlying G=some (.slice E))(Z:cx.P.underlying T=some .string)(hE:cx.P.underlying E=some (.int .u8))(hb:yX S b (.cells cs.toArray t fr))(hl:(cs.drop off).take l.length=DJ l):
 BN cx o e S (str l):=by
 intro a w ha hs;subst O;have hc:∀j v,(DJ l)[j]?=some v→w.cell? ((⟨b,off,none⟩:Addr).add j)=some v:=fun j v A=>by
  rw[aO];refine cell_of_heap (hb w hs) ?_;rw[←hl,wZ]at A
  split at A
  ·simpa[xH]using A
  cases A
 have h1:=run_loadCells_list (P:=cx.P) (w:=w) ⟨b,off,none⟩ (DJ l) hc;have h2:=run_bytesToString (P:=cx.P) w ⟨b,off,none⟩ l.length c (l.map fun u=>(u.toNat:Int)) (by
  rw[show(DJ l).length=l.length by simp[DJ]]at h1;rw[h1];simp[DJ,wE])
 have h3:(l.map fun u=>(u.toNat:Int)).foldl (fun r n=>r.push (dX n.toNat)) ByteArray.empty=⟨l.toArray⟩:=by
  rw[foldl_push_bytes]
  apply ByteArray.ext
  simp[wE];have:(fun x=>dX x)∘UInt8.toNat=id:=by funext x;simp
  first|simp[Function.comp_def]|rw[this,List.map_id]
 simp only[execOp,M,aG,ha.eval N,run_convert_bytes_string w G T E _ l.length c Q hE Z,h2,h3,aA,aH,str]
end
end Go.Sx
end
namespace Go.Sx
open Go
section
variable {cx:Cx} {Q:Qt} {e:Env} {I I1:Heap} {H A:HL} {Z:CL} {z:Nat} {ops:Array Oper} {l:List Oper} {o:Oper} {C:Ct} {S:World→Prop} {fuel:Nat} {listed:Array Bool}
variable [DR]
theorem J.mv{d x v}(k:J cx Q ops l ((d,v)::e) I H)(A:o.op= .move x:=by rfl)(G:ev e x=some v:=by rfl)(M:o.guard=none:=by rfl)(N:o.dst=some d:=by rfl)(O:Nat.blt d cx.n=true:=by rfl):J cx Q ops (o::l) e I H:=J.z (b0J A G) k M N O
theorem J.as{d x v}(k:J cx Q ops l ((d,v)::e) I H)(A:o.op= .assign x:=by rfl)(G:ev e x=some v:=by rfl)(M:o.guard=none:=by rfl)(N:o.dst=some d:=by rfl)(O:Nat.blt d cx.n=true:=by rfl):J cx Q ops (o::l) e I H:=J.z (b1O A G) k M N O
theorem J.ns{y}(h:Cj cx Q y e I H):J cx (Exit.then (y.wpIn cx.F 0 cx.P Q) Q) ops [] e I H:=J.nil (Ej.seq h)
theorem Cj.sr{id y}(h:J cx (Exit.then (y.wpIn cx.F 0 cx.P Q) Q) l.toArray l e I H):Cj cx Q (.seq (.region id l.toArray false) y) e I H:=Cj.seq (Cj.region h)
theorem J.nss{x y}(h:Cj cx (Exit.then (y.wpIn cx.F 0 cx.P Q) Q) x e I H):J cx (Exit.then ((Code.seq x y).wpIn cx.F 0 cx.P Q) Q) ops [] e I H:=J.ns (Cj.seq h)
theorem J.a2t{x y u}(h:Cj cx (Exit.then (u.wpIn cx.F 0 cx.P (Exit.then (y.wpIn cx.F 0 cx.P Q) Q)) (Exit.then (y.wpIn cx.F 0 cx.P Q) Q)) x e I H):J cx (Exit.then ((Code.seq (Code.seq x u) y).wpIn cx.F 0 cx.P Q) Q) ops [] e I H:=J.nss (Cj.seq h)
theorem J.UM{id}(h:J cx Q l.toArray l e I H):J cx (Exit.then ((Code.region id l.toArray false).wpIn cx.F 0 cx.P Q) Q) ops [] e I H:=J.ns (Cj.region h)
theorem J.ER{id y}(h:J cx (Exit.then (y.wpIn cx.F 0 cx.P Q) Q) l.toArray l e I H):J cx (Exit.then ((Code.seq (Code.region id l.toArray false) y).wpIn cx.F 0 cx.P Q) Q) ops [] e I H:=J.nss (Cj.region h)
theorem J.cd{c x y t}(h1:t=true→Cj cx Q x e I H)(h2:t=false→Cj cx Q y e I H)(A:ev e c=some (.bool t):=by exact rfl):J cx (Exit.then ((Code.cond c x y).wpIn cx.F 0 cx.P Q) Q) ops [] e I H:=J.ns (Cj.cond A h1 h2)
theorem J.c0{c x y t}(h2:t=false→Cj cx Q y e I H)(A:ev e c=some (.bool t):=by exact rfl)(G:t=false:=by exact rfl):J cx (Exit.then ((Code.cond c x y).wpIn cx.F 0 cx.P Q) Q) ops [] e I H:=J.ns (Cj.cond A (fun h=>dI (Eq.trans (Eq.symm G) h)) h2)
theorem J.c1{c x y t}(h1:t=true→Cj cx Q x e I H)(A:ev e c=some (.bool t):=by exact rfl)(G:t=true:=by exact rfl):J cx (Exit.then ((Code.cond c x y).wpIn cx.F 0 cx.P Q) Q) ops [] e I H:=J.ns (Cj.cond A h1 (fun h=>dI (Eq.trans (Eq.symm G) h)))
theorem J.sk j d t {A b}(G:b= !A)(h:J cx Q ops l ((t,undef)::e) I H)(M:o.guard=some (j,A):=by rfl)(N:(ops[j]?).bind (·.dst)=some d:=by rfl)(O:eg e d=some (.bool b):=by rfl)(Z:o.dst=some t:=by rfl)(ht:Nat.blt t cx.n=true:=by rfl):J cx Q ops (o::l) e I H:=J.skip j d t A b M N O G Z ht h
theorem JA.mv i {d x v}(G:UW I1 A Z I H)(k:JA cx Q l I1 A Z z fuel (listed.setIfInBounds i true) ((d,v)::e) I H)(M:l.toArray[i]?=some o:=by rfl)(N:o.op= .move x:=by rfl)(O:ev e x=some v:=by rfl)(hd:o.dst=some d:=by rfl)(hg:o.guard=none:=by rfl)(hn:Nat.blt d cx.n=true:=by rfl)(hz:zok l.toArray listed z i=true:=by first|rfl|kernel_rfl)
 (hs:Region.noSelect l.toArray=true:=by kernel_rfl)(hf:Region.free .any l.toArray listed i=true:=by kernel_rfl)(hr:(Region.ready .any l.toArray listed).contains i=true:=by kernel_rfl)(hq:∀c a w,Q (.panic c) (a.put (some d) v) w→Q (.panic c) a w:=by exact fun _ _ _ h=>h):JA cx Q l I1 A Z z (fuel+1) listed e I H:=JA.tk i M G (b0J N O) k hd hg hn hz hs hf hr hq
theorem d1X{x T k b off m fs f} off' (M:cx.P.underlying T=some (.struct fs))(G:∀w,(sizeOf f.type).run cx.P w= .ok (m+1) w)(N:o.op= .fieldAddr T x k:=by rfl)(O:ev e x=some (ptr b off):=by rfl)(Q:fs[k]?=some f:=by rfl)(A:off+f.offset=off':=by rfl):BN cx o e S (ptr b off'):=a1h N O M Q G A
theorem fx0{I H}:Le I I∧HSub [] H∧CSub [] H:=⟨Le.refl _,HSub.n,CSub.n⟩
theorem fx1{I H}:UW I [] [] I H:=⟨HSub.n,CSub.n,Le.refl _⟩
theorem Cj.xl{K:Act→World→Prop}{ι:Type}{A:ι→Prop}{μ M G N O id y}(h:Cj cx Q y e I H):Cj cx (Exit.then K (a6y cx (aJ id (Exit.then (y.wpIn cx.F 0 cx.P Q) Q)) A μ M G N O)) (.exit id) e I H:=Cj.exit (Ej.a1b (Ej.a4A (Ej.YW (Ej.seq h))))
theorem Cj.ks{y}(h:Cj cx Q y e I H):Cj cx (Exit.then (y.wpIn cx.F 0 cx.P Q) Q) .skip e I H:=Cj.skip (Ej.seq h)
theorem Cj.kb{id y}(h:Cj cx Q y e I H):Cj cx (aJ id (Exit.then (y.wpIn cx.F 0 cx.P Q) Q)) .skip e I H:=Cj.skip (Ej.MN (Ej.seq h))
theorem J.nb{id y}(h:Cj cx Q y e I H):J cx (aJ id (Exit.then (y.wpIn cx.F 0 cx.P Q) Q)) ops [] e I H:=J.nil (Ej.MN (Ej.seq h))
theorem Cj.rs{K:Act→World→Prop}(h:Ej cx Q .ret e I H):Cj cx (Exit.then K Q) .ret e I H:=Cj.ret (Ej.a2U h)
end
theorem yY.ob[DR]{P f fn c args I H}{A:Ending→Heap→HL→Prop}(M:P.funcs[f]?=some fn)(h:∀w0,Ready I H w0→Cj ⟨P,fn.ntmps,w0,H.map (·.1),I,[],none⟩ (bodyPost P fn (RR w0 (H.map (·.1)) I A)) c (PE 0 args) I H)(N:fn.body=some c:=by rfl)(G:fn.name≠ "runtime.NumGoroutine" :=by decide)(O:args.length≤fn.ntmps:=by exact Nat.le_of_ble_eq_true rfl):yY P f args I H A:=yY.b8v M N G O h
