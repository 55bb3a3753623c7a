/-
  Own texts on the laws of the seat, joined: the logic, and contracts of functions. Conditions: none.
-/
import Derived.Test.YtekmeaoblpfnpaaGreatDoorNmR
import Derived.Test.YtekmeaoblpfnpaaGreatDoorPR2
import Derived.Maps.RangeRun
import Derived.Laws.StructEq
import Derived.Test.YtekmeaoblpfnpaaGreatDoorProg
import Derived.Test.YtekmeaoblpfnpaaGreatDoorChecked
import Derived.Test.YtekmeaoblpfnpaaGreatDoorCards
import Derived.Test.YtekmeaoblpfnpaaGreatDoorTie
import Derived.ProofKit
import Derived.OpenShut
import Derived.Lay
import Derived.Deep.DeepHandedRow
import Derived.WideKeyArr2
import Derived.Carry
import Derived.Tactics
import Derived.Tactics2
import Derived.Laws.Pointers
import Derived.Laws.LoneSync
import Derived.RegionTactic
import Derived.RegionCalls
import Derived.ChangeAlike
set_option maxRecDepth 100000
set_option maxHeartbeats 40000000
open Go.Proofs.Tryz renaming prog -> aA
open Go.Proofs.YtekmeaoblpfnpaaGreatDoor.Rows renaming uptoBulk -> aB,uptoBulkAll -> dK
open List renaming mem_map_of_mem -> aC,map_cons -> aF,getElem?_eq_some_iff -> aH,getElem?_map -> aN,mem_map -> aO,filter_sublist -> aP,map_map -> aQ,nodup_append -> aT,mem_of_getElem? -> aW,mem_append -> aX,map_append -> aY,getElem?_range -> aZ,mem_singleton -> bG,mem_cons -> bH,sum_cons -> bI,length_range -> bJ,mem_toArray -> bM,getElem?_take -> dB,append_assoc -> dF,ext_getElem? -> dG,nodup_cons -> dL,mem_filter -> dM,map_nil -> dV
open Go.Result renaming andThen_ok -> aG
open Go.Instr renaming checkKey -> aI,findKey -> cO,sameBits -> dQ
open Go.Sem renaming run_bind -> aJ,run_pure -> cZ,run -> dN
open Option.some renaming injEq -> aK
open Go.DataW renaming trodStep -> aS,Trod -> bY,trod -> bZ,TrodAll -> dS
open Option renaming map_eq_some_iff -> aU,bind_eq_some_iff -> bQ,map_some -> bU
open Go.World renaming laidAll -> aV,cell? -> dY
open Nat renaming blt -> bC,zero_le -> bD,le_refl -> bW
open Go.Oper renaming upon -> bF,wp -> dD
open Go.Op renaming equalIn -> bK
open Go.Input renaming okWide_of_okWideB -> bP
open Go.Builtin renaming delete_ -> bT,len_ -> dU
open Go.Sx.World renaming block -> bV
open Bool renaming false_eq_true -> dA,noConfusion -> dJ
open Function renaming comp_def -> dH
open Array renaming mem_filter -> dI,contains -> dP
open Go.Value renaming oneCell' -> dR,okWide -> dW
open Go.Addr renaming add_lit -> dX
open Go.Sx.Keeps renaming k -> dZ
namespace Go.Sx
open Go
section
variable {cx:Cx} {Q:Qt} {o:Oper} {e:Env} {I:Heap} {H:HL} {C:Ct} {S:World→Prop} {α:Type} [BEq α] [LawfulBEq α]
def DJ (m since:Nat) (vis:ML α) (last:Nat):Obj:= .mapIter (some m) since (vis.map (·.2.2)).toArray last
omit [BEq α] [LawfulBEq α] in
theorem uX{T K E d m c:Nat}{x:Operand}{kv:α→Value}{l:ML α}(M:o.op= .range T x)(N:o.dst=some d)(O:bC d cx.n=true)(S:ev e x=some (.map (some m)))(W:cx.P.underlying T=some (.map K E))(Z:jR (SS I H) m (kG kv l c))
 (k:∀b,cx.w0.heap.size≤b→C ((d,ptr b 0)::e) I ((b,DJ m c ([]:ML α) c)::H)):mF cx Q o e I H C:=by
 intro _ hK a w G A;unfold dD;have:(execOp a.eval o).run cx.P w= .ok (.value (ptr w.heap.size 0)) { w with heap:=w.heap.push (DJ m c ([]:ML α) c) }:=by
  have hr:=run_range_map (P:=cx.P) w T K E m _ c W (Z w A.ss);simp only[execOp,M,G.eval S,aJ,hr,aG,cZ];rfl
 rw[this];simp only[bF,N];exact hK _ _ _ (k _ A.size) _ _ (G.put O) (A.alloc _)
theorem sF{T K E d x}(M:o.op= .range T x)(N:o.dst=some d)(O:bC d cx.n=true)(S:ev e x=some (.map none))(W:cx.P.underlying T=some (.map K E))
 (k:∀b,cx.w0.heap.size≤b→C ((d,ptr b 0)::e) I ((b,.mapIter none 0 #[] 0)::H)):mF cx Q o e I H C:=by
 intro _ Z a w A G;unfold dD;have:(execOp a.eval o).run cx.P w= .ok (.value (ptr w.heap.size 0)) { w with heap:=w.heap.push (.mapIter none 0 #[] 0) }:=by
  have hr:=run_range_nilMap (P:=cx.P) w T K E W;simp only[execOp,M,A.eval S,aJ,hr,aG,cZ];rfl
 rw[this];simp only[bF,N];exact Z _ _ _ (k _ G.size) _ _ (A.put O) (G.alloc _)
theorem tY{d b x}(i:Nat)(M:o.op= .next x false)(N:o.dst=some d)(O:bC d cx.n=true)(S:ev e x=some (ptr b 0))(W:H[i]?=some (b,.mapIter none 0 #[] 0))
 (k:C ((d,.tuple #[.bool false])::e) I H):mF cx Q o e I H C:=by
 intro _ Z a w A G;unfold dD;have hb:=G.own _ (aW W);have:(execOp a.eval o).run cx.P w= .ok (.value (.tuple #[.bool false])) w:=by
  simp only[execOp,M,A.eval S,Instr.next,getObj,aJ,dN,hb,Result.andThen];rfl
 rw[this];simp only[bF,N];exact Z _ _ _ k _ _ (A.put O) G
omit [BEq α] [LawfulBEq α] in
theorem xE{d b m A last c x kv l vis rest} i (ho:o.op= .next x false)(hd:o.dst=some d)(hn:bC d cx.n=true)(hx:ev e x=some (ptr b 0))(hH:H[i]?=some (b,DJ m A vis last))(hm:jR (SS I H) m (kG kv l c))
 (a5:∀p∈l,p.2.2<A)(a7:A≤last)(a8:(l.map (·.2.2)).Nodup)(N:(vis++rest).Perm l)
 (k1:∀(p:α×Value×Nat) (r:ML α) (H':HL),rest.Perm (p::r)→(vis++[p]++r).Perm l→lS H i (b,DJ m A (vis++[p]) c) H'→C ((d,.tuple #[.bool true,kv p.1,p.2.1])::e) I H')
 (k0:rest=[]→C ((d,.tuple #[.bool false])::e) I H):mF cx Q o e I H C:=by
 intro _ hK a w ha Z;unfold dD;have hb:=Z.own _ (aW hH);have a9:=hm w Z.ss;have a6:=run_next_at (P:=cx.P) w o.type b m A last _ _ c hb a9 (by
  intro y hy;simp only[aO]at hy;obtain⟨p,N,rfl⟩:=hy;exact a5 p N) a7
 have M:((vis++rest).map (·.2.2)).Nodup:=(N.map _).nodup_iff.2 a8;have S:(execOp a.eval o).run cx.P w=((Instr.next (.pointer (some ⟨b,0,none⟩)) false o.type).run cx.P w).andThen fun v w'=> .ok (.value v) w':=by
  simp only[execOp,ho,ha.eval hx,aJ];rfl
 have a3:∀p:α×Value×Nat,p∈l→((vis.map (·.2.2)).toArray.contains p.2.2=true↔p∈vis):=fun p G=>by
  have aa:p∈vis++rest:=N.mem_iff.2 G;rw[Array.contains_iff_mem];simp only[bM,aO];constructor
  ·rintro⟨q,hq,he⟩;rcases aX.1 aa with h|h
   ·exact h
   rw[aY,aT]at M;exact absurd he (M.2.2 _ (aC hq) _ (aC h))
  exact fun h=>⟨p,h,rfl⟩
 rcases a6 with⟨h0,hr⟩|⟨en,ab,w1,ac,hr⟩
 ·rw[S,hr];simp only[aG,bF,hd];refine hK _ _ _ (k0 ?_) _ _ (ha.put hn) Z;rcases rest with _|⟨p,r⟩
  ·rfl
  exfalso
  have G:p∈l:=N.mem_iff.1 (List.mem_append_right _ (.head _));have a0:p ∉ vis:=fun h=>by
   rw[aY,aT]at M;exact M.2.2 _ (aC h) _ (aC (.head _)) rfl
  have:oV kv p∈leftOf (l.map (oV kv)).toArray (vis.map (·.2.2)).toArray:=by
   unfold leftOf;rw[dI];refine⟨by simp only[bM];exact aC G,?_⟩;have:=(not_congr (a3 p G)).2 a0;simp only[Bool.not_eq_true]at this;show(!dP _ p.2.2)=true;rw[this];rfl
  have h1:=Array.eq_empty_of_size_eq_zero h0;rw[h1]at this;simp at this
 rw[S,hr];simp only[aG,bF,hd];have O:en∈leftOf (l.map (oV kv)).toArray (vis.map (·.2.2)).toArray:=by simpa using ab
 unfold leftOf at O;rw[dI]at O;obtain⟨a4,a1⟩:=O;simp only[bM,aO]at a4;obtain⟨p,G,rfl⟩:=a4;have a0:p ∉ vis:=fun h=>by
  have:=(a3 p G).2 h
  change (!dP _ p.2.2)=true at a1
  rw[this]at a1;cases a1
 have ad:p∈rest:=(aX.1 (N.mem_iff.2 G)).resolve_left a0;obtain⟨r1,r2,ae⟩:=List.append_of_mem ad;have W:rest.Perm (p::(r1++r2)):=by rw[ae];exact List.perm_middle
 have a2:(vis++[p]++(r1++r2)).Perm l:=by
  refine List.Perm.trans ?_ N;rw[dF];exact List.Perm.append_left _ W.symm
 have hset:lS H i (b,DJ m A (vis++[p]) c) (H.set i (b,DJ m A (vis++[p]) c)):=⟨(aH.1 hH).1,rfl⟩;have hk:=k1 p (r1++r2) _ W a2 hset;have af:St cx.w0 cx.D cx.I0 I (H.set i (b,DJ m A (vis++[p]) c)) (ChangeMaps.setBlock w1 b (.mapIter (some m) A ((vis.map (·.2.2)).toArray.push p.2.2) c)):=by
  have he:(.mapIter (some m) A ((vis.map (·.2.2)).toArray.push p.2.2) c:Obj)=DJ m A (vis++[p]) c:=by simp[DJ]
  rw[show(oV kv p).born=p.2.2 from rfl]at *;rw[he];rcases ac with rfl|rfl
  ·exact Z.block hH hset
  exact(Z.drewN (w.drawn+1)).block hH hset
 exact hK _ _ _ hk _ _ (ha.put hn) af
omit [LawfulBEq α] in
theorem qJ{T K E m x}{kv:α→Value}{a z}{A:Value}(O:o.op= .lookup T m x false)(Q:ev e m=some (.map none))(W:ev e x=some A)(G:A=kv a)(Z:cx.P.underlying T=some (.map K E))(M:mY cx.P K kv)(hz:∀w,(zeroValue E).run cx.P w= .ok z w):kX cx o e S z:=by
 intro w0 w N _;subst G;have h1:=M.1 a [] w;have h2:(cO K (kv a) []).run cx.P w= .ok none w:=h1;simp[execOp,O,N.eval Q,N.eval W,Instr.lookup,run_underlying Z,M.2.1,h2,hz]
omit [BEq α] [LawfulBEq α] in
theorem yP{x:Operand}{T K E b c:Nat}{kv:α→Value}{l:ML α}(A:o.op= .call ⟨.builtin .len,#[x],#[T]⟩)(G:ev e x=some (.map (some b)))(M:cx.P.underlying T=some (.map K E))(N:jR S b (kG kv l c)):kX cx o e S (i64 (l.length:Int)):=by
 intro a w O Q;have h:=N w Q;simp[execOp,A,resolve,invoke,builtin,dU,O.eval G,run_underlying M,goInt,getObj,dN,h,kG]
theorem a4h{x T K E}(A:o.op= .call ⟨.builtin .len,#[x],#[T]⟩)(G:ev e x=some (.map none))(M:cx.P.underlying T=some (.map K E)):kX cx o e S (i64 0):=by
 intro a w N _;simp[execOp,A,resolve,invoke,builtin,dU,N.eval G,run_underlying M,goInt]
end
section
variable {P:Program} {K i:TypeId} {f0 f1:Field}
theorem JJ{xs t off v w}(A:∀w,(isAgg t).run P w= .ok false w)(G:xs[off]?=some v):(part t xs off).run P w= .ok v w:=by
 simp[part,A,G]
theorem KE(M:P.underlying K=some (.struct #[f0,f1]))(Q:P.stoodInHeld K=false)(S:f0.name≠ "_")(W:f1.name≠ "_")(Z:f0.offset=0)(o1:f1.offset=1)(a0:∀w,(isAgg f0.type).run P w= .ok false w)(a1:∀w,(isAgg f1.type).run P w= .ok false w)
 {x0 x1 y0 y1 A G} w (e0:∀d w,(bK (d+1) f0.type x0 y0).run P w= .ok A w)(N:∀d w,(bK (d+1) f1.type x1 y1).run P w= .ok G w):∀d,(bK (d+2) K (.agg #[x0,x1]) (.agg #[y0,y1])).run P w= .ok (A && G) w:=by
 intro d;have O:P.fieldsOf K= #[f0,f1]:=by simp[Program.fieldsOf,M]
 rw[run_equalIn_struct w (d+1) K _ _ (by rw[O];exact M) Q,O];have p0:∀(a b:Value) w,(part f0.type #[a,b] f0.offset).run P w= .ok a w:=fun a b w=>JJ a0 (by rw[Z];rfl);have p1:∀(a b:Value) w,(part f1.type #[a,b] f1.offset).run P w= .ok b w:=fun a b w=>JJ a1 (by rw[o1];rfl);simp only[Op.eqFields,S,W,ne_eq,not_false_eq_true,if_true,aJ,p0,e0,aG];cases A
 ·simp
 cases G<;>simp[aJ,p1,N]
theorem VJ(M:P.underlying K=some (.struct #[f0,f1]))(N:f0.name≠ "_")(O:f1.name≠ "_")(Q:f0.offset=0)(S:f1.offset=1)(W:∀w,(isAgg f0.type).run P w= .ok false w)(Z:∀w,(isAgg f1.type).run P w= .ok false w)
 {x0 x1} b w (e0:∀d w,(aI b (d+1) f0.type x0).run P w= .ok () w)(e1:∀d w,(aI b (d+1) f1.type x1).run P w= .ok () w):∀d,(aI b (d+2) K (.agg #[x0,x1])).run P w= .ok () w:=by
 intro d;have p0:∀w,(part f0.type #[x0,x1] f0.offset).run P w= .ok x0 w:=fun w=>JJ W (by rw[Q];rfl);have p1:∀w,(part f1.type #[x0,x1] f1.offset).run P w= .ok x1 w:=fun w=>JJ Z (by rw[S];rfl);have A:=e0 d;have G:=e1 d;generalize hc:aI b (d+1)=ck at A G;rw[show d+2=(d+1)+1 from rfl,aI];rw[hc];simp[aJ,run_underlying M,N,O,p0,p1,A,G]
theorem a1W{b t k}(A:P.underlying t=some (.int k)) a d w:(aI b (d+1) t (.int k a)).run P w= .ok () w:=by simp[aI,run_underlying A]
theorem mY.a7X(N:P.underlying K=some (.struct #[f0,f1]))(Z:P.stoodInHeld K=false)(O:f0.name≠ "_")(Q:f1.name≠ "_")(S:f0.offset=0)(W:f1.offset=1)(t0:f0.type=i)(A:f1.type=i)(G:P.underlying i=some (.int .i64))(M:∀w,(isAgg i).run P w= .ok false w):
 mY P K (fun a:Int×Int=> .agg #[i64 a.1,i64 a.2]):=by
 subst t0;refine mY.equal N (fun a b=>rfl) (fun a b w=>?_) (fun b a w=>?_) (fun a=>?_)
 ·have h:=KE N Z O Q S W M (A▸M) (x0:=i64 a.1) (x1:=i64 a.2) (y0:=i64 b.1) (y1:=i64 b.2) w (fun d w=>run_equalIn_int w d _ .i64 .i64 a.1 b.1 G) (fun d w=>run_equalIn_int w d _ .i64 .i64 a.2 b.2 (A▸G)) 9998;exact h
 ·exact VJ N O Q S W M (A▸M) b w (fun d w=>a1W G _ d w) (fun d w=>a1W (A▸G) _ d w) 9998
 show dQ (9999+1) _ _=true;simp[dQ]
end
section
variable {α:Type} [BEq α] [LawfulBEq α]
def MS (l:ML α) (c:Nat):Prop:=(l.map (·.1)).Nodup∧(l.map (·.2.2)).Nodup∧∀p∈l,p.2.2<c
omit [BEq α] [LawfulBEq α] in
theorem MS.nil:MS ([]:ML α) 0:=⟨.nil,.nil,fun _ h=>by simp at h⟩
theorem a5d{l:ML α}{a:α}(h:(l.map (·.1)).Nodup){v:Value}:kH l a=some v↔∃n,(a,v,n)∈l:=by
 induction l with
 |nil=>simp[kH]
 |cons p r G=>
  obtain⟨b,u,n⟩:=p;rw[aF,dL]at h;unfold kH
  by_cases hab:a=b
  ·subst hab;simp only[BEq.rfl,if_true,aK];constructor
   ·rintro rfl;exact⟨n,.head _⟩
   rintro⟨k,A⟩;rcases bH.1 A with e|e
   ·exact(zC (fun x=>x.2.1) e).symm
   exact absurd (aC (f:=(·.1)) e) h.1
  rw[zD (by simpa using hab),G h.2];constructor
  ·rintro⟨k,A⟩;exact⟨k,.tail _ A⟩
  rintro⟨k,A⟩;rcases bH.1 A with e|e
  ·exact absurd (zC (·.1) e) hab
  exact⟨k,e⟩
theorem pI{l}{a:α}:kH l a=none↔a ∉ l.map (·.1):=by
 induction l with
 |nil=>simp[kH]
 |cons p r A=>
  obtain⟨b,u,n⟩:=p;unfold kH
  by_cases hab:a=b
  ·subst hab;simp
  rw[zD (by simpa using hab),A];simp[hab]
theorem wB l (a b:α) v c:kH (kN l a v c) b=if b == a then some v else kH l b:=by
 induction l with
 |nil=>unfold kN kH;by_cases h:b=a<;>simp[h,kH]
 |cons p r G=>
  obtain⟨d,u,n⟩:=p;unfold kN
  by_cases had:a=d
  ·subst had;rw[zF sI]
   by_cases h:b=a
   ·subst h;simp[kH]
   have A:(b == a)=false:=by simpa using h
   simp[kH,A]
  rw[zD (by simpa using had)]
  by_cases hbd:b=d
  ·subst hbd;have A:(b == a)=false:=by simpa using fun e:b=a=>had e.symm
   simp[kH,A]
  have A:(b == d)=false:=by simpa using hbd
  simp only[kH,A,dA,if_false,G]
theorem b0X{l:ML α}{a:α}{v:Value}{c:Nat}:(kN l a v c).map (·.1)=if a∈l.map (·.1)then l.map (·.1)else l.map (·.1)++[a]:=by
 induction l with
 |nil=>simp[kN]
 |cons p r A=>
  obtain⟨d,u,n⟩:=p;unfold kN
  by_cases had:a=d
  ·subst had;simp
  rw[zD (by simpa using had),aF,A]
  by_cases h:a∈r.map (·.1)
  ·simp[h]
  rw[zD h,zD (by simp only[aF,bH,not_or];exact⟨had,h⟩)];rfl
theorem b1k{l}{a x:α}{v c}:x∈(kN l a v c).map (·.1)↔x∈l.map (·.1)∨x=a:=by
 rw[b0X]
 split
 ·rename_i h
  exact⟨.inl,fun g=>g.elim id (fun e=>e▸h)⟩
 simp
theorem MS.set{l:ML α}{c:Nat}(h:MS l c)(a:α)(v:Value):MS (kN l a v c) (mV l a c):=by
 obtain⟨h1,h2,h3⟩:=h;cases hm:kH l a with
 |none=>
  obtain⟨-,M⟩:=yY l 0 hm;have W:=pI.1 hm;rw[M,mV,hm];refine⟨?_,?_,?_⟩
  ·rw[aY,aT];refine⟨h1,sI,fun x N y A e=>?_⟩;rw[aF,dV,bG]at A;exact W (by have:x=a:=e.trans A;exact this▸N)
  ·rw[aY,aT];refine⟨h2,sI,fun x N y A e=>?_⟩;rw[aF,dV,bG]at A;obtain⟨p,G,rfl⟩:=aO.1 N;have:=h3 p G;dsimp only at A e;omega
  intro p G;simp only[Option.isSome_none,dA,if_false];rcases aX.1 G with g|g
  ·exact Nat.lt_succ_of_lt (h3 p g)
  rw[bG]at g;subst g;exact Nat.lt_succ_self _
 |some u=>
  obtain⟨j,Z,n,-,O,M⟩:=JO l 0 hm;have Q:∀f:α×Value×Nat→Nat ⊕ α,f (a,v,n)=f (a,Z,n)→(l.set j (a,v,n)).map f=l.map f:=fun f hf=>by
   apply dG
   intro i;rw[aN,aN,List.getElem?_set]
   by_cases hi:j=i
   ·subst hi;rw[zF rfl,O,zF (aH.1 O).1];simp[hf]
   rw[zD hi]
  have e1:(l.set j (a,v,n)).map (·.1)=l.map (·.1):=by
   have:=zC (List.map (fun s:Nat ⊕ α=>match s with| .inr x=>x| .inl _=>a)) (Q (fun p=> .inr p.1) rfl);simpa[aQ,dH]using this
  have S:(l.set j (a,v,n)).map (·.2.2)=l.map (·.2.2):=by
   have:=zC (List.map (fun s:Nat ⊕ α=>match s with| .inl x=>x| .inr _=>0)) (Q (fun p=> .inl p.2.2) rfl);simpa[aQ,dH]using this
  rw[M,mV,hm];refine⟨by rw[e1];exact h1,by rw[S];exact h2,fun p G=>?_⟩;have:p.2.2∈l.map (·.2.2):=S▸aC G;obtain⟨q,hq,e⟩:=aO.1 this;exact e▸h3 q hq
end
section
variable {cx:Cx} {Q:Qt} {o:Oper} {e:Env} {S:World→Prop} {α:Type} [BEq α] [LawfulBEq α]
omit [BEq α] [LawfulBEq α] in
theorem BD{b m A c x kv}{l vis:ML α}{p:α×Value×Nat}(M:o.op= .entry x)(N:ev e x=some (ptr b 0))(O:jR S b (DJ m A (vis++[p]) c))(Q:jR S m (kG kv l c))(W:p∈l)(Z:(l.map (·.2.2)).Nodup):kX cx o e S (.tuple #[kv p.1,p.2.1]):=by
 intro w0 w ha G;have h1:=O w G;have h2:=Q w G;have h3:w.heap[b]?=some (.mapIter (some m) A ((vis.map (·.2.2)).toArray.push (oV kv p).born) c):=by
  rw[h1];simp[DJ]
 have hr:=run_entry_at (P:=cx.P) w b m A _ _ c (oV kv p) h3 h2 (by simp only[aO];exact⟨p,W,rfl⟩) (by
  rw[aQ];exact Z)
 have:(execOp w0.eval o).run cx.P w= .ok (.value (.tuple #[kv p.1,p.2.1])) w:=by
  simp only[execOp,M,ha.eval N,aJ,hr,aG,cZ]
 exact this
end
section
variable {α:Type} [BEq α] [LawfulBEq α]
def nX (l:ML α) (a:α):ML α:=match l with
 |[]=>[]
 |(b,v,n)::r=>if a == b then r else(b,v,n)::nX r a
omit [LawfulBEq α] in
theorem a4w{a}:∀(l:ML α) (i:Nat),(midx l a i=none∧nX l a=l)∨∃j v,midx l a i=some (i+j,v)∧nX l a=l.eraseIdx j∧j<l.length
 |[],_=> .inl rT
 |(b,v,n)::r,i=>by
  unfold midx nX
  by_cases h:(a == b)=true
  ·rw[zF h,zF h];exact .inr ⟨0,v,rfl,rfl,sI⟩
  rw[zD h,zD h];rcases a4w (a:=a) r (i+1)with⟨h1,h2⟩|⟨j,u,h1,h2,h3⟩
  ·exact .inl ⟨h1,by rw[h2]⟩
  refine .inr ⟨j+1,u,?_,by rw[h2];rfl,by simpa using h3⟩;rw[h1,Nat.add_assoc,Nat.add_comm 1 j]
theorem rY{a}:∀{l:ML α},(l.map (·.1)).Nodup→nX l a=l.filter fun p=> !(p.1 == a)
 |[],_=>rfl
 |(b,v,n)::r,h=>by
  rw[aF,dL]at h;unfold nX
  by_cases hb:(a == b)=true
  ·have G:=zB hb;subst G;rw[zF hb,List.filter_cons_of_neg sI];rw[List.filter_eq_self.2];intro p M;have:p.1≠a:=fun g=>h.1 (aO.2 ⟨p,M,g⟩);simpa using this
  have A:(b == a)=false:=by
   rw[Bool.eq_false_iff];intro g;exact hb (by rw[zB g];simp)
  rw[zD hb,List.filter_cons_of_pos (by simp[A]),rY h.2]
theorem MS.del{l:ML α}{c:Nat}(h:MS l c)(a:α):MS (nX l a) c:=by
 rw[rY h.1];refine⟨h.1.sublist (aP.map _),h.2.1.sublist (aP.map _),fun p A=>h.2.2 p (dM.1 A).1⟩
theorem SB{l:ML α}(h:(l.map (·.1)).Nodup)(a b:α):kH (nX l a) b=if b == a then none else kH l b:=by
 by_cases hb:(b == a)=true
 ·rw[zF hb,pI,rY h];have:=zB hb;subst this;simp
 rw[zD hb];cases hm:kH l b with
 |none=>
  rw[pI]at hm ⊢;rw[rY h];exact fun g=>hm ((aP.map _).subset g)
 |some v=>
  have h2:((nX l a).map (·.1)).Nodup:=by rw[rY h];exact h.sublist (aP.map _)
  rw[a5d h]at hm;obtain⟨n,A⟩:=hm;rw[a5d h2,rY h];exact⟨n,dM.2 ⟨A,by simpa using hb⟩⟩
variable {cx:Cx} {Q:Qt} {e:Env} {I:Heap} {H:HL} {o:Oper} {C:Ct} {S:World→Prop}
omit [LawfulBEq α] in
theorem a8g{P:Program}{T U K E b c:Nat}{t:TypeId}{kv:α→Value}{l:ML α}{a:α}{w:World}(G:P.underlying T=some (.map K E))(W:mY P K kv)(M:w.heap[b]?=some (kG kv l c)):
 (bT #[T,U] t #[.map (some b),kv a]).run P w= .ok (.tuple #[]) (bV w b (kG kv (nX l a) c)):=by
 obtain⟨N,O,_⟩:=W;have Q:(getObj b).run P w= .ok (kG kv l c) w:=by simp[getObj,dN,M,kG]
 have hset:∀o',(setObj b o').run P w= .ok () (bV w b o'):=fun o'=>by simp[setObj,dN,M,bV,kG]
 rcases a4w (a:=a) l 0 with⟨h1,h2⟩|⟨j,v,h1,h2,h3⟩
 ·have A:(cO K (kv a) (l.map (oV kv))).run P w= .ok none w:=by rw[N,h1]
  simp[bT,run_underlying G,Q,kG,O,A,hset,h2]
 rw[Nat.zero_add]at h1;have S:∀(q:ML α) (k:Nat),(q.map (oV kv)).eraseIdx k=(q.eraseIdx k).map (oV kv):=by
  intro q
  induction q with
  |nil=>intro k;rfl
  | cons x r Z=>intro k;cases k with
    |zero=>rfl
    |succ k=>simp[Z]
 have A:(cO K (kv a) (l.map (oV kv))).run P w= .ok (some (j,v)) w:=by rw[N,h1]
 have h5:(l.map (oV kv)).toArray.eraseIdxIfInBounds j=(((l.eraseIdx j).map (oV kv)).toArray:Array MapEntry):=by
  rw[Array.eraseIdxIfInBounds,dif_pos (by simpa using h3),List.eraseIdx_toArray,S]
 simp[bT,run_underlying G,Q,kG,O,A,hset,h2,S]
omit [LawfulBEq α] in
theorem AO{T U K E b c:Nat}{m x:Operand}{kv:α→Value}{l a}{G:Value}{H'}(i:Nat)(Z:o.op= .call ⟨.builtin .delete,#[m,x],#[T,U]⟩)(hd:o.dst=none)(hm:ev e m=some (.map (some b)))(hx:ev e x=some G)(M:G=kv a)(hT:cx.P.underlying T=some (.map K E))(hK:mY cx.P K kv)
 (N:H[i]?=some (b,kG kv l c))(O:lS H i (b,kG kv (nX l a) c) H')(kk:C e I H'):mF cx Q o e I H C:=by
 intro _ S w0 w A W;unfold dD;subst M;have hb:=W.own _ (aW N);have hr:=a8g (U:=U) (t:=o.type) (a:=a) hT hK hb;have:(execOp w0.eval o).run cx.P w= .ok (.value (.tuple #[])) (bV w b (kG kv (nX l a) c)):=by
  simp[execOp,Z,resolve,invoke,builtin,A.eval hm,A.eval hx,hr]
 rw[this];simp only[bF,hd];exact S _ _ _ kk _ _ A.AZ (W.block N O)
end
section
variable {cx:Cx} {o:Oper} {e:Env} {S:World→Prop}
theorem a7Z{P w T K E} p (A:P.underlying T=some (.map K E)):(binOp .neq T (.map p) (.map none)).run P w= .ok (.bool p.isSome) w∧(binOp .eql T (.map p) (.map none)).run P w= .ok (.bool p.isNone) w:=by
 have h1:∀d:Nat,(bK (d+1) T (.map p) (.map none)).run P w= .ok p.isNone w:=fun d=>by cases p<;>simp[bK,run_underlying A]
 simp only[binOp];cases p<;>simp[Op.equal,Op.maxDepth,h1 9999]
theorem b0k{x y T U K E} p (G:o.op= .binOp .eql T x y U)(M:ev e x=some (.map p))(N:ev e y=some (.map none))(O:cx.P.underlying T=some (.map K E)):kX cx o e S (.bool p.isNone):=by
 intro a w A _;have Q:=(a7Z (P:=cx.P) (w:=w) p O).2;have W:eqGuard .eql T x y (.map p) (.map none)=pure ():=rfl;simp[execOp,G,A.eval M,A.eval N,Q,W]
end
end Go.Sx
namespace Go.Sx
open Go Go.Proofs
structure Wr (A:Prop):Prop where
  w:A
structure Tb (α:Type) (P:Nat→α→Prop) where
  f:Nat→Option α
  h:∀n a,f n=some a→P n a
noncomputable def TL {α:Type} {P:Nat→α→Prop} (k:Nat) {a:α} (h:P k a):Tb α P:=⟨fun n=>bif Nat.beq n k then some a else none,fun n b e=>by
 cases hk:Nat.beq n k with
 |true=>rw[hk]at e;cases e;rw[Nat.eq_of_beq_eq_true hk];exact h
 |false=>rw[hk]at e;cases e⟩
noncomputable def TN {α:Type} {P:Nat→α→Prop} (k:Nat) (a b:Tb α P):Tb α P:=⟨fun n=>bif Nat.ble n k then a.f n else b.f n,fun n c e=>by
 cases hk:Nat.ble n k with
 |true=>rw[hk]at e;exact a.h n c e
 |false=>rw[hk]at e;exact b.h n c e⟩
noncomputable def tbU:Tb TypeDesc (fun n a=>Go.Proofs.Tryz.prog.underlying n=some a):=TN 192 (TN 76 (TN 30 (TN 20 (TN 4 (TN 0 (TL 0 Tryz.underlying0) (TN 3 (TL 3 Tryz.underlying3) (TL 4 Tryz.underlying4))) (TN 5 (TL 5 Tryz.underlying5) (TN 9 (TL 9 Tryz.underlying9) (TL 20 Tryz.underlying20)))) (TN 23 (TN 21 (TL 21 Tryz.underlying21) (TN 22 (TL 22 Tryz.underlying22) (TL 23 Tryz.underlying23))) (TN 26 (TN 24 (TL 24 Tryz.underlying24) (TL 26 Tryz.underlying26)) (TN 27 (TL 27 Tryz.underlying27) (TL 30 Tryz.underlying30))))) (TN 54 (TN 36 (TN 32 (TL 32 Tryz.underlying32) (TN 35 (TL 35 Tryz.underlying35) (TL 36 Tryz.underlying36))) (TN 50 (TN 48 (TL 48 Tryz.underlying48) (TL 50 Tryz.underlying50)) (TN 51 (TL 51 Tryz.underlying51) (TL 54 Tryz.underlying54)))) (TN 59 (TN 55 (TL 55 Tryz.underlying55) (TN 57 (TL 57 Tryz.underlying57) (TL 59 Tryz.underlying59))) (TN 68 (TN 62 (TL 62 Tryz.underlying62) (TL 68 Tryz.underlying68)) (TN 69 (TL 69 Tryz.underlying69) (TL 76 Tryz.underlying76)))))) (TN 123 (TN 106 (TN 87 (TN 80 (TL 80 Tryz.underlying80) (TN 82 (TL 82 Tryz.underlying82) (TL 87 Tryz.underlying87))) (TN 91 (TN 90 (TL 90 Tryz.underlying90) (TL 91 Tryz.underlying91)) (TN 93 (TL 93 Tryz.underlying93) (TL 106 Tryz.underlying106)))) (TN 112 (TN 108 (TL 108 Tryz.underlying108) (TN 110 (TL 110 Tryz.underlying110) (TL 112 Tryz.underlying112))) (TN 118 (TN 114 (TL 114 Tryz.underlying114) (TL 118 Tryz.underlying118)) (TN 120 (TL 120 Tryz.underlying120) (TL 123 Tryz.underlying123))))) (TN 161 (TN 142 (TN 128 (TL 128 Tryz.underlying128) (TN 140 (TL 140 Tryz.underlying140) (TL 142 Tryz.underlying142))) (TN 152 (TN 149 (TL 149 Tryz.underlying149) (TL 152 Tryz.underlying152)) (TN 159 (TL 159 Tryz.underlying159) (TL 161 Tryz.underlying161)))) (TN 176 (TN 163 (TL 163 Tryz.underlying163) (TN 168 (TL 168 Tryz.underlying168) (TL 176 Tryz.underlying176))) (TN 183 (TN 180 (TL 180 Tryz.underlying180) (TL 183 Tryz.underlying183)) (TN 188 (TL 188 Tryz.underlying188) (TL 192 Tryz.underlying192))))))) (TN 312 (TN 240 (TN 213 (TN 202 (TN 197 (TL 197 Tryz.underlying197) (TN 200 (TL 200 Tryz.underlying200) (TL 202 Tryz.underlying202))) (TN 207 (TN 204 (TL 204 Tryz.underlying204) (TL 207 Tryz.underlying207)) (TN 208 (TL 208 Tryz.underlying208) (TL 213 Tryz.underlying213)))) (TN 228 (TN 215 (TL 215 Tryz.underlying215) (TN 225 (TL 225 Tryz.underlying225) (TL 228 Tryz.underlying228))) (TN 232 (TN 231 (TL 231 Tryz.underlying231) (TL 232 Tryz.underlying232)) (TN 238 (TL 238 Tryz.underlying238) (TL 240 Tryz.underlying240))))) (TN 276 (TN 262 (TN 246 (TL 246 Tryz.underlying246) (TN 254 (TL 254 Tryz.underlying254) (TL 262 Tryz.underlying262))) (TN 270 (TN 268 (TL 268 Tryz.underlying268) (TL 270 Tryz.underlying270)) (TN 272 (TL 272 Tryz.underlying272) (TL 276 Tryz.underlying276)))) (TN 284 (TN 279 (TL 279 Tryz.underlying279) (TN 281 (TL 281 Tryz.underlying281) (TL 284 Tryz.underlying284))) (TN 304 (TN 293 (TL 293 Tryz.underlying293) (TL 304 Tryz.underlying304)) (TN 308 (TL 308 Tryz.underlying308) (TL 312 Tryz.underlying312)))))) (TN 367 (TN 340 (TN 324 (TN 313 (TL 313 Tryz.underlying313) (TN 316 (TL 316 Tryz.underlying316) (TL 324 Tryz.underlying324))) (TN 328 (TN 325 (TL 325 Tryz.underlying325) (TL 328 Tryz.underlying328)) (TN 338 (TL 338 Tryz.underlying338) (TL 340 Tryz.underlying340)))) (TN 351 (TN 341 (TL 341 Tryz.underlying341) (TN 349 (TL 349 Tryz.underlying349) (TL 351 Tryz.underlying351))) (TN 364 (TN 362 (TL 362 Tryz.underlying362) (TL 364 Tryz.underlying364)) (TN 365 (TL 365 Tryz.underlying365) (TL 367 Tryz.underlying367))))) (TN 394 (TN 373 (TN 371 (TL 371 Tryz.underlying371) (TN 372 (TL 372 Tryz.underlying372) (TL 373 Tryz.underlying373))) (TN 391 (TN 390 (TL 390 Tryz.underlying390) (TL 391 Tryz.underlying391)) (TN 393 (TL 393 Tryz.underlying393) (TL 394 Tryz.underlying394)))) (TN 402 (TN 396 (TL 396 Tryz.underlying396) (TN 399 (TL 399 Tryz.underlying399) (TL 402 Tryz.underlying402))) (TN 407 (TN 405 (TL 405 Tryz.underlying405) (TL 407 Tryz.underlying407)) (TN 417 (TL 417 Tryz.underlying417) (TL 418 Tryz.underlying418)))))))
noncomputable def tbS:Tb Nat (fun n a=>∀w,(sizeOf n).run Go.Proofs.Tryz.prog w= .ok a w):=TN 208 (TN 91 (TN 32 (TN 9 (TN 3 (TN 0 (TL 0 Tryz.sizeOf0) (TL 3 Tryz.sizeOf3)) (TN 4 (TL 4 Tryz.sizeOf4) (TN 5 (TL 5 Tryz.sizeOf5) (TL 9 Tryz.sizeOf9)))) (TN 23 (TN 20 (TL 20 Tryz.sizeOf20) (TN 21 (TL 21 Tryz.sizeOf21) (TL 23 Tryz.sizeOf23))) (TN 24 (TL 24 Tryz.sizeOf24) (TN 30 (TL 30 Tryz.sizeOf30) (TL 32 Tryz.sizeOf32))))) (TN 57 (TN 48 (TN 35 (TL 35 Tryz.sizeOf35) (TN 36 (TL 36 Tryz.sizeOf36) (TL 48 Tryz.sizeOf48))) (TN 54 (TL 54 Tryz.sizeOf54) (TN 55 (TL 55 Tryz.sizeOf55) (TL 57 Tryz.sizeOf57)))) (TN 69 (TN 59 (TL 59 Tryz.sizeOf59) (TN 62 (TL 62 Tryz.sizeOf62) (TL 69 Tryz.sizeOf69))) (TN 80 (TL 80 Tryz.sizeOf80) (TN 90 (TL 90 Tryz.sizeOf90) (TL 91 Tryz.sizeOf91)))))) (TN 142 (TN 112 (TN 106 (TN 93 (TL 93 Tryz.sizeOf93) (TL 106 Tryz.sizeOf106)) (TN 108 (TL 108 Tryz.sizeOf108) (TN 110 (TL 110 Tryz.sizeOf110) (TL 112 Tryz.sizeOf112)))) (TN 121 (TN 118 (TL 118 Tryz.sizeOf118) (TN 120 (TL 120 Tryz.sizeOf120) (TL 121 Tryz.sizeOf121))) (TN 123 (TL 123 Tryz.sizeOf123) (TN 128 (TL 128 Tryz.sizeOf128) (TL 142 Tryz.sizeOf142))))) (TN 176 (TN 159 (TN 149 (TL 149 Tryz.sizeOf149) (TN 152 (TL 152 Tryz.sizeOf152) (TL 159 Tryz.sizeOf159))) (TN 163 (TL 163 Tryz.sizeOf163) (TN 168 (TL 168 Tryz.sizeOf168) (TL 176 Tryz.sizeOf176)))) (TN 202 (TN 188 (TL 188 Tryz.sizeOf188) (TN 192 (TL 192 Tryz.sizeOf192) (TL 202 Tryz.sizeOf202))) (TN 204 (TL 204 Tryz.sizeOf204) (TN 207 (TL 207 Tryz.sizeOf207) (TL 208 Tryz.sizeOf208))))))) (TN 324 (TN 272 (TN 238 (TN 228 (TN 215 (TL 215 Tryz.sizeOf215) (TL 228 Tryz.sizeOf228)) (TN 231 (TL 231 Tryz.sizeOf231) (TN 232 (TL 232 Tryz.sizeOf232) (TL 238 Tryz.sizeOf238)))) (TN 254 (TN 240 (TL 240 Tryz.sizeOf240) (TN 246 (TL 246 Tryz.sizeOf246) (TL 254 Tryz.sizeOf254))) (TN 268 (TL 268 Tryz.sizeOf268) (TN 270 (TL 270 Tryz.sizeOf270) (TL 272 Tryz.sizeOf272))))) (TN 302 (TN 284 (TN 276 (TL 276 Tryz.sizeOf276) (TN 281 (TL 281 Tryz.sizeOf281) (TL 284 Tryz.sizeOf284))) (TN 293 (TL 293 Tryz.sizeOf293) (TN 298 (TL 298 Tryz.sizeOf298) (TL 302 Tryz.sizeOf302)))) (TN 312 (TN 304 (TL 304 Tryz.sizeOf304) (TN 306 (TL 306 Tryz.sizeOf306) (TL 312 Tryz.sizeOf312))) (TN 313 (TL 313 Tryz.sizeOf313) (TN 316 (TL 316 Tryz.sizeOf316) (TL 324 Tryz.sizeOf324)))))) (TN 372 (TN 349 (TN 338 (TN 325 (TL 325 Tryz.sizeOf325) (TN 328 (TL 328 Tryz.sizeOf328) (TL 338 Tryz.sizeOf338))) (TN 340 (TL 340 Tryz.sizeOf340) (TN 341 (TL 341 Tryz.sizeOf341) (TL 349 Tryz.sizeOf349)))) (TN 364 (TN 351 (TL 351 Tryz.sizeOf351) (TN 362 (TL 362 Tryz.sizeOf362) (TL 364 Tryz.sizeOf364))) (TN 367 (TL 367 Tryz.sizeOf367) (TN 371 (TL 371 Tryz.sizeOf371) (TL 372 Tryz.sizeOf372))))) (TN 396 (TN 391 (TN 373 (TL 373 Tryz.sizeOf373) (TN 390 (TL 390 Tryz.sizeOf390) (TL 391 Tryz.sizeOf391))) (TN 393 (TL 393 Tryz.sizeOf393) (TN 394 (TL 394 Tryz.sizeOf394) (TL 396 Tryz.sizeOf396)))) (TN 405 (TN 399 (TL 399 Tryz.sizeOf399) (TN 402 (TL 402 Tryz.sizeOf402) (TL 405 Tryz.sizeOf405))) (TN 407 (TL 407 Tryz.sizeOf407) (TN 417 (TL 417 Tryz.sizeOf417) (TL 418 Tryz.sizeOf418)))))))
noncomputable def tbG:Tb Bool (fun n a=>∀w,(isAgg n).run Go.Proofs.Tryz.prog w= .ok a w):=TN 204 (TN 90 (TN 26 (TN 9 (TN 3 (TN 0 (TL 0 Tryz.isAgg0) (TL 3 Tryz.isAgg3)) (TN 4 (TL 4 Tryz.isAgg4) (TN 5 (TL 5 Tryz.isAgg5) (TL 9 Tryz.isAgg9)))) (TN 21 (TN 20 (TL 20 Tryz.isAgg20) (TL 21 Tryz.isAgg21)) (TN 23 (TL 23 Tryz.isAgg23) (TN 24 (TL 24 Tryz.isAgg24) (TL 26 Tryz.isAgg26))))) (TN 54 (TN 32 (TN 30 (TL 30 Tryz.isAgg30) (TL 32 Tryz.isAgg32)) (TN 36 (TL 36 Tryz.isAgg36) (TN 48 (TL 48 Tryz.isAgg48) (TL 54 Tryz.isAgg54)))) (TN 59 (TN 55 (TL 55 Tryz.isAgg55) (TN 57 (TL 57 Tryz.isAgg57) (TL 59 Tryz.isAgg59))) (TN 69 (TL 69 Tryz.isAgg69) (TN 80 (TL 80 Tryz.isAgg80) (TL 90 Tryz.isAgg90)))))) (TN 123 (TN 110 (TN 93 (TN 91 (TL 91 Tryz.isAgg91) (TL 93 Tryz.isAgg93)) (TN 106 (TL 106 Tryz.isAgg106) (TN 108 (TL 108 Tryz.isAgg108) (TL 110 Tryz.isAgg110)))) (TN 118 (TN 112 (TL 112 Tryz.isAgg112) (TL 118 Tryz.isAgg118)) (TN 120 (TL 120 Tryz.isAgg120) (TN 121 (TL 121 Tryz.isAgg121) (TL 123 Tryz.isAgg123))))) (TN 159 (TN 142 (TN 128 (TL 128 Tryz.isAgg128) (TL 142 Tryz.isAgg142)) (TN 149 (TL 149 Tryz.isAgg149) (TN 152 (TL 152 Tryz.isAgg152) (TL 159 Tryz.isAgg159)))) (TN 188 (TN 168 (TL 168 Tryz.isAgg168) (TN 176 (TL 176 Tryz.isAgg176) (TL 188 Tryz.isAgg188))) (TN 192 (TL 192 Tryz.isAgg192) (TN 202 (TL 202 Tryz.isAgg202) (TL 204 Tryz.isAgg204))))))) (TN 324 (TN 254 (TN 231 (TN 208 (TN 207 (TL 207 Tryz.isAgg207) (TL 208 Tryz.isAgg208)) (TN 215 (TL 215 Tryz.isAgg215) (TN 228 (TL 228 Tryz.isAgg228) (TL 231 Tryz.isAgg231)))) (TN 238 (TN 232 (TL 232 Tryz.isAgg232) (TL 238 Tryz.isAgg238)) (TN 240 (TL 240 Tryz.isAgg240) (TN 246 (TL 246 Tryz.isAgg246) (TL 254 Tryz.isAgg254))))) (TN 284 (TN 270 (TN 268 (TL 268 Tryz.isAgg268) (TL 270 Tryz.isAgg270)) (TN 272 (TL 272 Tryz.isAgg272) (TN 276 (TL 276 Tryz.isAgg276) (TL 284 Tryz.isAgg284)))) (TN 312 (TN 293 (TL 293 Tryz.isAgg293) (TN 306 (TL 306 Tryz.isAgg306) (TL 312 Tryz.isAgg312))) (TN 313 (TL 313 Tryz.isAgg313) (TN 316 (TL 316 Tryz.isAgg316) (TL 324 Tryz.isAgg324)))))) (TN 373 (TN 341 (TN 328 (TN 325 (TL 325 Tryz.isAgg325) (TL 328 Tryz.isAgg328)) (TN 338 (TL 338 Tryz.isAgg338) (TN 340 (TL 340 Tryz.isAgg340) (TL 341 Tryz.isAgg341)))) (TN 367 (TN 349 (TL 349 Tryz.isAgg349) (TN 351 (TL 351 Tryz.isAgg351) (TL 367 Tryz.isAgg367))) (TN 371 (TL 371 Tryz.isAgg371) (TN 372 (TL 372 Tryz.isAgg372) (TL 373 Tryz.isAgg373))))) (TN 396 (TN 391 (TN 390 (TL 390 Tryz.isAgg390) (TL 391 Tryz.isAgg391)) (TN 393 (TL 393 Tryz.isAgg393) (TN 394 (TL 394 Tryz.isAgg394) (TL 396 Tryz.isAgg396)))) (TN 405 (TN 399 (TL 399 Tryz.isAgg399) (TN 402 (TL 402 Tryz.isAgg402) (TL 405 Tryz.isAgg405))) (TN 407 (TL 407 Tryz.isAgg407) (TN 417 (TL 417 Tryz.isAgg417) (TL 418 Tryz.isAgg418)))))))
noncomputable def tbZ:Tb Value (fun n a=>∀w,(zeroValue n).run Go.Proofs.Tryz.prog w= .ok a w):=TN 208 (TN 108 (TN 32 (TN 9 (TN 3 (TN 0 (TL 0 Tryz.zeroValue0) (TL 3 Tryz.zeroValue3)) (TN 4 (TL 4 Tryz.zeroValue4) (TN 5 (TL 5 Tryz.zeroValue5) (TL 9 Tryz.zeroValue9)))) (TN 21 (TN 20 (TL 20 Tryz.zeroValue20) (TL 21 Tryz.zeroValue21)) (TN 24 (TL 24 Tryz.zeroValue24) (TN 30 (TL 30 Tryz.zeroValue30) (TL 32 Tryz.zeroValue32))))) (TN 57 (TN 36 (TN 35 (TL 35 Tryz.zeroValue35) (TL 36 Tryz.zeroValue36)) (TN 50 (TL 50 Tryz.zeroValue50) (TN 54 (TL 54 Tryz.zeroValue54) (TL 57 Tryz.zeroValue57)))) (TN 69 (TN 59 (TL 59 Tryz.zeroValue59) (TN 62 (TL 62 Tryz.zeroValue62) (TL 69 Tryz.zeroValue69))) (TN 82 (TL 82 Tryz.zeroValue82) (TN 90 (TL 90 Tryz.zeroValue90) (TL 108 Tryz.zeroValue108)))))) (TN 152 (TN 123 (TN 118 (TN 114 (TL 114 Tryz.zeroValue114) (TL 118 Tryz.zeroValue118)) (TN 120 (TL 120 Tryz.zeroValue120) (TN 121 (TL 121 Tryz.zeroValue121) (TL 123 Tryz.zeroValue123)))) (TN 140 (TN 128 (TL 128 Tryz.zeroValue128) (TL 140 Tryz.zeroValue140)) (TN 142 (TL 142 Tryz.zeroValue142) (TN 149 (TL 149 Tryz.zeroValue149) (TL 152 Tryz.zeroValue152))))) (TN 180 (TN 163 (TN 161 (TL 161 Tryz.zeroValue161) (TL 163 Tryz.zeroValue163)) (TN 168 (TL 168 Tryz.zeroValue168) (TN 176 (TL 176 Tryz.zeroValue176) (TL 180 Tryz.zeroValue180)))) (TN 202 (TN 188 (TL 188 Tryz.zeroValue188) (TN 192 (TL 192 Tryz.zeroValue192) (TL 202 Tryz.zeroValue202))) (TN 204 (TL 204 Tryz.zeroValue204) (TN 207 (TL 207 Tryz.zeroValue207) (TL 208 Tryz.zeroValue208))))))) (TN 325 (TN 268 (TN 232 (TN 215 (TN 213 (TL 213 Tryz.zeroValue213) (TL 215 Tryz.zeroValue215)) (TN 228 (TL 228 Tryz.zeroValue228) (TN 231 (TL 231 Tryz.zeroValue231) (TL 232 Tryz.zeroValue232)))) (TN 240 (TN 238 (TL 238 Tryz.zeroValue238) (TL 240 Tryz.zeroValue240)) (TN 246 (TL 246 Tryz.zeroValue246) (TN 254 (TL 254 Tryz.zeroValue254) (TL 268 Tryz.zeroValue268))))) (TN 284 (TN 272 (TN 270 (TL 270 Tryz.zeroValue270) (TL 272 Tryz.zeroValue272)) (TN 276 (TL 276 Tryz.zeroValue276) (TN 281 (TL 281 Tryz.zeroValue281) (TL 284 Tryz.zeroValue284)))) (TN 313 (TN 293 (TL 293 Tryz.zeroValue293) (TN 308 (TL 308 Tryz.zeroValue308) (TL 313 Tryz.zeroValue313))) (TN 316 (TL 316 Tryz.zeroValue316) (TN 324 (TL 324 Tryz.zeroValue324) (TL 325 Tryz.zeroValue325)))))) (TN 373 (TN 351 (TN 338 (TN 328 (TL 328 Tryz.zeroValue328) (TL 338 Tryz.zeroValue338)) (TN 340 (TL 340 Tryz.zeroValue340) (TN 349 (TL 349 Tryz.zeroValue349) (TL 351 Tryz.zeroValue351)))) (TN 367 (TN 364 (TL 364 Tryz.zeroValue364) (TL 367 Tryz.zeroValue367)) (TN 371 (TL 371 Tryz.zeroValue371) (TN 372 (TL 372 Tryz.zeroValue372) (TL 373 Tryz.zeroValue373))))) (TN 396 (TN 391 (TN 390 (TL 390 Tryz.zeroValue390) (TL 391 Tryz.zeroValue391)) (TN 393 (TL 393 Tryz.zeroValue393) (TN 394 (TL 394 Tryz.zeroValue394) (TL 396 Tryz.zeroValue396)))) (TN 405 (TN 399 (TL 399 Tryz.zeroValue399) (TN 402 (TL 402 Tryz.zeroValue402) (TL 405 Tryz.zeroValue405))) (TN 407 (TL 407 Tryz.zeroValue407) (TN 417 (TL 417 Tryz.zeroValue417) (TL 418 Tryz.zeroValue418)))))))
theorem uU{T d A}(h:tbU.f T=some d)(e:d=A):Go.Proofs.Tryz.prog.underlying T=some A:=e▸tbU.h T d h
theorem uS{T n A}(h:tbS.f T=some n)(e:n=A):∀w,(sizeOf T).run Go.Proofs.Tryz.prog w= .ok A w:=e▸tbS.h T n h
theorem uG{T b A}(h:tbG.f T=some b)(e:b=A):∀w,(isAgg T).run Go.Proofs.Tryz.prog w= .ok A w:=e▸tbG.h T b h
theorem uZ{T v A}(h:tbZ.f T=some v)(e:v=A):∀w,(zeroValue T).run Go.Proofs.Tryz.prog w= .ok A w:=e▸tbZ.h T v h
theorem bkA{S:World→Prop}{b o}(h:jR S b o:=by
 first
 |(with_reducible show jR (SS _ _) _ _);first|exact jR.atR atA|exact jR.EH (by assumption)|exact jR.at 0 rfl|exact jR.at 1 rfl|exact jR.at 2 rfl
 |(with_reducible show jR (SC _ _ _) _ _);first|exact jR.atCR atA|exact jR.zL (by assumption)|exact jR.atC 0 rfl|exact jR.atC 1 rfl):jR S b o:=h
structure Ch (H:HL) (b:Nat) (o o':Obj) (H':HL):Prop where
  h:∃i,H[i]?=some (b,o)∧lS H i (b,o') H'
theorem Ch.z{b x o o' r}(h:x=o):Ch ((b,x)::r) b o o' ((b,o')::r):=⟨⟨0,h▸rfl,lS.z⟩⟩
theorem Ch.s{b o o' q r A}(h:Ch r b o o' A):Ch (q::r) b o o' (q::A):=let ⟨⟨i,h1,h2⟩⟩:=h;⟨⟨i+1,h1,lS.s h2⟩⟩
theorem chA{H H' b o o'}(h:Ch H b o o' H':=by first|(with_reducible refine Ch.z ?_;exact rfl)|(with_reducible apply Ch.s;exact chA)|(refine Ch.z ?_;exact rfl)|(apply Ch.s;exact chA)):Ch H b o o' H':=h
theorem a1k{G o e I H C Q x y T t b off cs A vs v H' n}(S:o.op= .store T x y)(W:o.dst=none)(Z:ev e x=some (ptr b off))(hy:ev e y=some v)
 (hv:v.cells=vs.toArray)(h1:vs.all dR=true)(M:∀w,(sizeOf T).run G.P w= .ok n w)(N:vs.length=n)(hH:Ch H b (jM t cs) (jM t A) H')(O:oD cs off vs A)
 (k:C e I H'):mF G Q o e I H C:=let ⟨⟨i,h2,h3⟩⟩:=hH;oP i S W Z hy hv h1 M N h2 O h3 k
theorem rO{α:Type}{a b:α}(h:a=b:=by first|exact rfl|assumption):a=b:=h
theorem eqB{a b:Bool}(h:a=b:=by first|exact rfl|assumption|exact congrArg not (by assumption)):a=b:=h
theorem pG{vs cs n}(h:xM vs n cs:=by
 first|with_reducible exact xM.none|(with_reducible show xM (Value.agg _::_) _ _;apply xM.agg;exact rfl;exact pG)|(apply xM.one;exact rfl;exact pG)|(apply xM.agg;exact rfl;exact pG)):xM vs n cs:=h
theorem lsA{α:Type}{l xs A:List α}{i}(h:oD l i xs A:=by
 first|with_reducible exact oD.z|(apply oD.c;exact lsA)|(apply oD.s;exact lsA)):oD l i xs A:=h
theorem ceA{v:Value}{vs:List Value}(h:v.cells=vs.toArray:=by first|with_reducible exact MV _ _|exact rfl):v.cells=vs.toArray:=h
theorem onA{vs:List Value}(h:vs.all Value.oneCell'=true:=by first|with_reducible exact a3l _ _|exact rfl):vs.all dR=true:=h
theorem xJ.mk'{G I A H Z}(h1:HSub A H)(h2:CSub Z H)(h3:Le G I):xJ G A Z I H:=⟨h1,h2,h3⟩
theorem lI{G I A H Z}(h:xJ G A Z I H:=by first|assumption|exact xJ.mk' (by repeat first|exact HSub.n|refine HSub.c 0 rfl ?_|refine HSub.c 1 rfl ?_|refine HSub.c 2 rfl ?_|refine HSub.c 3 rfl ?_|refine HSub.c 4 rfl ?_|refine HSub.c 5 rfl ?_) CSub.n (by repeat first|exact Le.refl _|assumption|refine Le.trans ?_ (by assumption))):xJ G A Z I H:=h
def opk:Op→Nat
 | .move _=>0
 | .assign _=>1
 | .pick .. =>2
 | .alloc _=>3
 | .box .. =>4
 | .build .. =>5
 | .buildSlice .. =>6
 | .load .. =>7
 | .store .. =>8
 | .nilCheck _=>9
 | .unOp .. =>10
 | .convert .. =>11
 | .makeInterface .. =>12
 | .makeFunc .. =>13
 | .fieldAddr .. =>14
 | .indexAddr .. =>15
 | .extract .. =>16
 | .call c=>match c.callee with
   | .builtin _=>17
   |_=>30
 | .binOp b .. =>match b with
   | .add=>20
   | .sub=>21
   | .mul=>22
   | .rem=>23
   | .eql=>24
   | .neq=>25
   | .lss=>26
   | .leq=>27
   | .gtr=>28
   | .geq=>29
   |_=>30
 |_=>30
def opc (o:Oper):Nat:=match o.guard with
 |some _=>1
 | none=>match opk o.op with
   |3=>3
   |4=>3
   |6=>3
   |8=>3
   |30=>4
   |_=>2
def jk:List Oper→Nat
 |[]=>0
 |o::_=>opc o
theorem vG k {A o e}{S:World→Prop}{v}(_:opk o.op=k)(h:kX A o e S v):kX A o e S v:=h
theorem gdJ k {G Q A l e I H}(_:jk l=k)(h:J G Q A l e I H):J G Q A l e I H:=h
theorem gdO k {A Q o e I H C}(_:opk o.op=k)(h:mF A Q o e I H C):mF A Q o e I H C:=h
theorem J.zy{A Q G l e I H o d v}(M:o.guard=none)(N:o.dst=some d)(O:bC d A.n=true)(S:kX A o e (SS I H) v)(k:J A Q G l ((d,v)::e) I H):J A Q G (o::l) e I H:=J.z S k M N O
theorem yA{A o e}{S:World→Prop}{v}(h:kX A o e S v:=by first
 |(apply vG 0;exact rfl;exact q3)
 |(apply vG 7;exact rfl;first|exact jP rfl rfl (uG rfl rfl) (by first|exact bkA) (by first|exact rfl)|exact lF rfl rfl (uG rfl rfl) (uS rfl rfl) (by first|exact bkA) (by first|exact rfl) (by first|exact rfl))
 |(apply vG 14;exact rfl;exact GR rfl rfl (uU rfl rfl) (by first|exact rfl) (uS rfl rfl) (by first|exact rfl))
 |(apply vG 17;exact rfl;first|exact xQ rfl rfl (uU rfl rfl)|exact a9D rfl rfl (uU rfl rfl))
 |(apply vG 1;exact rfl;exact tC rfl rfl)
 |(apply vG 26;exact rfl;exact a4j rfl rfl rfl)
 |(apply vG 20;exact rfl;first|exact zT rfl rfl rfl (qW (by omega))|exact zT rfl rfl rfl (b7d (by omega)))
 |(apply vG 16;exact rfl;exact a7J rfl rfl rfl)
 |(apply vG 9;exact rfl;exact qU rfl rfl)
 |(apply vG 2;exact rfl;first|exact a5g rfl rfl (by first|exact rO) (by first|exact rfl)|exact OA rfl rfl (by first|exact rO) (by first|exact rfl))
 |(apply vG 24;exact rfl;first|exact a3C rfl rfl rfl|exact b0N rfl rfl rfl|exact a9X _ rfl rfl rfl (uU rfl rfl) (by kernel_rfl)|exact a8n rfl rfl rfl (uU rfl rfl)|exact a5A _ rfl rfl rfl (uU rfl rfl)|exact b0k _ rfl rfl rfl (uU rfl rfl))
 |(apply vG 25;exact rfl;first|exact b5Z rfl rfl rfl|exact QM rfl rfl rfl|exact NJ rfl rfl rfl (uU rfl rfl)|exact a5I _ rfl rfl rfl (uU rfl rfl)|exact yl_neqMap _ rfl rfl rfl (uU rfl rfl))
 |(apply vG 29;exact rfl;exact b6t rfl rfl rfl)
 |(apply vG 27;exact rfl;exact b6q rfl rfl rfl)
 |(apply vG 28;exact rfl;exact b5K rfl rfl rfl)
 |(apply vG 10;exact rfl;exact b6z rfl rfl)
 |(apply vG 15;exact rfl;exact mD rfl rfl rfl (uU rfl rfl) (uS rfl rfl) (by decide) (by decide) (by first|exact rfl))
 |(apply vG 5;exact rfl;first|exact jX rfl rfl (uZ rfl rfl) (by first|exact rfl) (uU rfl rfl) (plA (by first|exact plB)) (by first|exact lbA)|exact vT rfl rfl (uZ rfl rfl) (by first|exact rfl) (uU rfl rfl) (uS rfl rfl) (by first|exact rfl))
 |(apply vG 11;exact rfl;first|exact b0g _ rfl rfl (uU rfl rfl) (uU rfl rfl) (uU rfl rfl) (by first|exact bkA) (by first|exact rfl)|exact a7L rfl rfl (uU rfl rfl) (uU rfl rfl)|exact a7G rfl rfl (uU rfl rfl) (uU rfl rfl))
 |(apply vG 21;exact rfl;exact FZ rfl rfl rfl (qW (by omega)))
 |(apply vG 23;exact rfl;first|exact XT rfl rfl rfl (by decide)|exact XT rfl rfl rfl (by omega))
 |(apply vG 22;exact rfl;exact DX rfl rfl rfl (qW (by omega)))
 |(apply vG 13;exact rfl;exact VI rfl rfl rfl)
 |(apply vG 12;exact rfl;exact a3q rfl rfl (uU rfl rfl) rfl)):kX A o e S v:=h
section
variable {cx:Cx} {Q:Qt} {e:Env} {I I1:Heap} {H A:HL} {Z:CL} {z fuel:Nat} {listed:Array Bool} {ops:Array Oper} {l:List Oper} {o:Oper}
theorem J.spG{j d A b}(_M:o.guard=some (j,A))(_N:(ops[j]?).bind (·.dst)=some d)(G:eg e d=some (.bool b))(h1:b=true→J cx Q ops (o::l) e I H)(h0:b=false→J cx Q ops (o::l) e I H):J cx Q ops (o::l) e I H:=J.split d G h1 h0
theorem Cj.cT{c:Operand}{x y:Code}{b:Bool}(A:ev e c=some (.bool b))(G:b=true)(h1:Cj cx Q x e I H):Cj cx Q (.cond c x y) e I H:=Cj.cond A (fun _=>h1) (fun h=>dJ (G.symm.trans h))
theorem Cj.cF{c:Operand}{x y:Code}{b:Bool}(A:ev e c=some (.bool b))(G:b=false)(h1:Cj cx Q y e I H):Cj cx Q (.cond c x y) e I H:=Cj.cond A (fun h=>dJ (G.symm.trans h)) (fun _=>h1)
def KI:Nat→List Bool→Nat→Option Nat
 |_,[],_=>none
 |s,true::r,n=>KI s r (n+1)
 |0,false::_,n=>some n
 |s+1,false::r,n=>KI s r (n+1)
def b7m (e:Env):Op→Bool
 | .move x=>(ev e x).isSome
 | .assign x=>(ev e x).isSome
 | .pick x y z=>(ev e x).isSome && ((ev e y).isSome && (ev e z).isSome)
 | .load _ x=>(ev e x).isSome
 | .nilCheck x=>(ev e x).isSome
 | .binOp _ _ x y _=>(ev e x).isSome && (ev e y).isSome
 | .unOp _ _ x=>(ev e x).isSome
 | .convert _ _ x=>(ev e x).isSome
 | .makeInterface _ x=>(ev e x).isSome
 | .fieldAddr _ x _=>(ev e x).isSome
 | .indexAddr _ x y=>(ev e x).isSome && (ev e y).isSome
 | .extract x _=>(ev e x).isSome
 | .build _ ps=>ps.toList.all fun p=>(ev e p.2).isSome
 | .call c=>c.args.toList.all fun x=>(ev e x).isSome
 |_=>true
def opd (e:Env) (o:Oper):Nat:=match opc o with
 |2=>bif b7m e o.op then 2 else 5
 |k=>k
def ak (s:Nat) (l:List Oper) (listed:Array Bool) (e:Env):Nat:=match KI s listed.toList 0 with
 |none=>0
 | some i=>match l.toArray[i]? with
   |none=>9
   |some o=>opd e o
def rdy (s:Nat) (l:List Oper) (listed:Array Bool):Bool:=match KI s listed.toList 0 with
 |none=>false
 |some i=>(Region.ready .any l.toArray listed).contains i
theorem JI s (_:rdy s l listed=true)(h:JA cx Q l I1 A Z z fuel listed e I H):JA cx Q l I1 A Z z fuel listed e I H:=h
theorem AU s k (_:ak s l listed e=k)(h:JA cx Q l I1 A Z z fuel listed e I H):JA cx Q l I1 A Z z fuel listed e I H:=h
theorem JA.tn s {i d v}(_hl:KI s listed.toList 0=some i)(G:l.toArray[i]?=some o)(M:xJ I1 A Z I H)(N:kX cx o e (SC I1 A Z) v)(k:JA cx Q l I1 A Z z fuel (listed.setIfInBounds i true) ((d,v)::e) I H)
 (O:o.dst=some d:=by rfl)(S:o.guard=none:=by rfl)(W:Nat.blt d cx.n=true:=by rfl)(hz:JM l.toArray listed z i=true:=by first|rfl|kernel_rfl)(hs:Region.noSelect l.toArray=true:=by kernel_rfl)(hf:Region.free .any l.toArray listed i=true:=by kernel_rfl)
 (hr:(Region.ready .any l.toArray listed).contains i=true:=by kernel_rfl)(hq:∀c a w,Q (.panic c) (a.put (some d) v) w→Q (.panic c) a w:=by exact fun _ _ _ h=>h):JA cx Q l I1 A Z z (fuel+1) listed e I H:=JA.tk i G M N k O S W hz hs hf hr hq
theorem JA.YN s {i d j M G b v}(_hl:KI s listed.toList 0=some i)(O:l.toArray[i]?=some o)(S:xJ I1 A Z I H)(W:o.guard=some (j,G))(N:(l.toArray[j]?).bind (·.dst)=some M)(hv:eg e M=some (.bool b))(hb:b=G)(hy:kX cx o e (SC I1 A Z) v)
 (k:JA cx Q l I1 A Z z fuel (listed.setIfInBounds i true) ((d,v)::e) I H)(hd:o.dst=some d:=by rfl)(hn:Nat.blt d cx.n=true:=by rfl)(hz:JM l.toArray listed z i=true:=by first|rfl|kernel_rfl)(hs:Region.noSelect l.toArray=true:=by kernel_rfl)(hf:Region.free .any l.toArray listed i=true:=by kernel_rfl)
 (hr:(Region.ready .any l.toArray listed).contains i=true:=by kernel_rfl)(hq:∀c a w,Q (.panic c) (a.put (some d) v) w→Q (.panic c) a w:=by exact fun _ _ _ h=>h):JA cx Q l I1 A Z z (fuel+1) listed e I H:=JA.tkG i j M G b O S N hv hb hy k hd W hn hz hs hf hr hq
theorem JA.tnS s {i d j M G u}(_hl:KI s listed.toList 0=some i)(O:l.toArray[i]?=some o)(S:xJ I1 A Z I H)(W:o.guard=some (j,G))(N:(l.toArray[j]?).bind (·.dst)=some M)(hv:eg e M=some u)(hb:u= .bool (!G)∨u=undef)
 (k:JA cx Q l I1 A Z z fuel (listed.setIfInBounds i true) ((d,undef)::e) I H)(hd:o.dst=some d:=by rfl)(hn:Nat.blt d cx.n=true:=by rfl)(hz:JM l.toArray listed z i=true:=by first|rfl|kernel_rfl)(hs:Region.noSelect l.toArray=true:=by kernel_rfl)(hf:Region.free .any l.toArray listed i=true:=by kernel_rfl)
 (hr:(Region.ready .any l.toArray listed).contains i=true:=by kernel_rfl)(hq:∀c a w,Q (.panic c) (a.put (some d) undef) w→Q (.panic c) a w:=by exact fun _ _ _ h=>h):JA cx Q l I1 A Z z (fuel+1) listed e I H:=JA.tkS i j M G u O S N hv hb k hd W hn hz hs hf hr hq
theorem JA.dn(G:KI 0 listed.toList 0=none)(M:Region.ready .any l.toArray listed=[])(h:Ej cx Q .normal e I H):JA cx Q l I1 A Z z fuel listed e I H:=match G with|_=>JA.done M h
theorem JA.st1{i}(_S:KI 0 listed.toList 0=some i)(M:l.toArray[i]?=some o)(N:Region.ready .any l.toArray listed=[i])(O:o.guard=none)(k:mF cx Q o e I H (fun e' G H'=>(Le I1 G∧HSub A H'∧CSub Z H')∧JA cx Q l I1 A Z z fuel (listed.setIfInBounds i true) e' G H')):JA cx Q l I1 A Z z (fuel+1) listed e I H:=JA.step i N M O k
theorem JA.st2{i j M G b}(_hl:KI 0 listed.toList 0=some i)(S:l.toArray[i]?=some o)(W:Region.ready .any l.toArray listed=[i])(hg:o.guard=some (j,G))(N:(l.toArray[j]?).bind (·.dst)=some M)(hv:eg e M=some (.bool b))(hb:b=G)
 (k:mF cx Q o e I H (fun e' O H'=>(Le I1 O∧HSub A H'∧CSub Z H')∧JA cx Q l I1 A Z z fuel (listed.setIfInBounds i true) e' O H')):JA cx Q l I1 A Z z (fuel+1) listed e I H:=JA.stepG i j M G b W S hg N hv hb k
end
theorem rH{P:Prop}(h:P:=by
 first|intro _ _ _ _ h|intro _ _ h
 first
 |(obtain⟨h,_⟩:=h;cases h;done)
 |(obtain⟨_,h,_⟩:=h;cases h;done)
 |(obtain⟨_,_,h,_⟩:=h;cases h;done)
 |(obtain⟨_,_,_,h,_⟩:=h;cases h;done)
 |(obtain⟨_,_,_,_,h,_⟩:=h;cases h;done)
 |(obtain⟨_,_,_,_,_,h,_⟩:=h;cases h;done)
 |(obtain⟨⟨_,h,_⟩,_⟩:=h;cases h;done)
 |(obtain⟨⟨_,_,h,_⟩,_⟩:=h;cases h;done)
 |(obtain⟨⟨_,h⟩,_⟩:=h;cases h;done)
 |(cases h;done)):P:=h
structure Cnt (n:Nat):Prop where
theorem Cnt.p{n}(_:Cnt (n+1)):Cnt n:=⟨⟩
structure Row (R:HL):Prop where
section
variable {cx:Cx} {Q:Qt} {o:Oper} {e:Env} {I:Heap} {H:HL} {C:Ct} {S:World→Prop}
theorem XK{x y T E b off n c sz off' k i}(_:Cnt off')(M:o.op= .indexAddr T x y)(N:ev e x=some (.slice (some ⟨b,off,none⟩) n c))(O:ev e y=some (.int k i))
 (Q:cx.P.underlying T=some (.slice E))(G:∀w,(sizeOf E).run cx.P w= .ok sz w)(h0:0≤i)(h1:i<n)(A:off+i.toNat*sz=off'):kX cx o e S (ptr b off'):=nG M N O Q G h0 h1 A
theorem ZA{x y T E b off n sz off' k i}(_:Cnt off')(M:o.op= .indexAddr T x y)(N:ev e x=some (ptr b off))(O:ev e y=some (.int k i))
 (Q:cx.P.underlying T=some (.array n E))(G:∀w,(sizeOf E).run cx.P w= .ok sz w)(h0:0≤i)(h1:i<n)(A:off+i.toNat*sz=off'):kX cx o e S (ptr b off'):=mD M N O Q G h0 h1 A
theorem a8Z{T E d sz by' n m x y U g xs ys M z R}(_:Cnt by')(_:Row R)(W:o.op= .call ⟨.builtin .append,#[x,y],#[T,U]⟩)(Z:o.dst=some d)(hn:bC d cx.n=true)
 (hx:ev e x=some (gV n g))(hy:ev e y=some M)(hu:cx.P.underlying T=some (.slice E))(hU:cx.P.underlying U=some .string∨∃E',cx.P.underlying U=some (.slice E'))
 (N:(cx.P.info? E).map (·.bytes)=some (by'+1))(O:∀w,(sizeOf E).run cx.P w= .ok sz w)(hz:∀w,(zeroValue E).run cx.P w= .ok z w)(S:z.cells.size=sz)
 (hg:kZ cx.w0.heap.size sz n xs g)(hH:H=R++gH E xs g)(hs:Src cx.P I H sz m M ys)(A:(2*(n+m)+768)*(by'+1)≤281474976710656)
 (k:∀G,kZ cx.w0.heap.size sz (n+m) (xs++ys) G→C ((d,gV (n+m) G)::e) I (R++gH E (xs++ys) G)):mF cx Q o e I H C:=kK R W Z hn hx hy hu hU N O hz S hg hH hs A k
theorem XQ{H1 R d f N xs ts fst cap vs}{G:Ending→Heap→HL→Prop}(_:Row H1)(S:o.op= .call ⟨.value N,xs.toArray,ts⟩)(W:o.dst=some d)(Z:bC d cx.n=true)(hf:ev e N=some (.func (.func f) fst.toArray cap.toArray))(hx:evs e xs=some vs)
 (hs:jO cx.P f (fst++vs++cap) I H1 G)(hH:H=H1++R)(k:∀v M A,Le I M→G (.returned v) M A→C ((d,v)::e) M (A++R))(kp:∀O M A,Le I M→G (.panicked O) M A→Ej cx Q (.panic O) e M (A++R))
 (ko:∀M A,¬G .outgrown M A):mF cx Q o e I H C:=by subst hH;exact kT S W Z hf hx hs k kp ko
theorem PO{H1 R d f N xs ts fst cap vs}{G:Ending→Heap→HL→Prop}(_:Row R)(S:H=R++H1)
 (W:o.op= .call ⟨.value N,xs.toArray,ts⟩)(Z:o.dst=some d)(hn:bC d cx.n=true)(hf:ev e N=some (.func (.func f) fst.toArray cap.toArray))(hx:evs e xs=some vs)
 (hs:jO cx.P f (fst++vs++cap) I H1 G)
 (k:∀v M A,Le I M→G (.returned v) M A→C ((d,v)::e) M (R++A))
 (kp:∀O M A,Le I M→G (.panicked O) M A→Ej cx Q (.panic O) e M (R++A))
 (ko:∀M A,¬G .outgrown M A):mF cx Q o e I H C:=wQ R S W Z hn hf hx hs k kp ko
end
theorem LC{A B:Prop}(a:A)(h:Wr A→B:=by
 intro a
 first
 | (with_reducible show J _ _ _ _ _ _ _)
   first
   |(refine gdJ 2 rfl ?_;refine J.zy rfl rfl rfl (by first|exact yA) ?_)
   |(refine gdJ 0 rfl ?_;refine J.nil ?_)
   |(refine gdJ 1 rfl ?_;first|refine J.skip _ _ _ _ _ rfl rfl rfl (by first|exact rO) rfl rfl ?_|refine J.b6S _ _ _ _ rfl rfl rfl rfl rfl ?_|refine J.KT _ _ _ _ rfl rfl rfl (by first|exact rO) (kV (by first|exact yA) rfl rfl ?_))
   |(refine gdJ 3 rfl ?_;refine J.op rfl ?_;first|(refine gdO 4 rfl ?_;refine rV rfl rfl rfl rfl rfl ?_)|(refine gdO 3 rfl ?_;refine qI rfl rfl rfl (uZ rfl rfl) rfl ?_)|(refine gdO 6 rfl ?_;refine jY rfl rfl rfl (uU rfl rfl) (uS rfl rfl) (uZ rfl rfl) (by first|exact rfl) rfl (by first|exact rfl) (by first|exact rfl) (by first|exact pG) ?_)|(refine gdO 8 rfl ?_;refine a1k rfl rfl rfl rfl (by first|exact ceA) (by first|exact onA) (uS rfl rfl) (by first|exact rfl) (by first|exact chA) (by first|exact lsA) ?_))
 | (with_reducible show JA _ _ _ _ _ _ _ _ _ _ _ _)
   first
   |(refine AU 0 2 rfl ?_;refine JI 0 (by decide +kernel) ?_;refine JA.tn 0 rfl rfl (by first|exact lI) (by first|exact yA) ?_)
   |(refine AU 0 1 rfl ?_;refine JI 0 (by decide +kernel) ?_;first|refine JA.tnS 0 rfl rfl (by first|exact lI) rfl rfl rfl (by first|exact .inl (congrArg Value.bool (by first|exact rO))|exact .inr rfl) ?_|refine JA.YN 0 rfl rfl (by first|exact lI) rfl rfl rfl (by first|exact rO) (by first|exact yA) ?_)
   |(refine AU 1 2 rfl ?_;refine JI 1 (by decide +kernel) ?_;refine JA.tn 1 rfl rfl (by first|exact lI) (by first|exact yA) ?_)
   |(refine AU 1 1 rfl ?_;refine JI 1 (by decide +kernel) ?_;first|refine JA.tnS 1 rfl rfl (by first|exact lI) rfl rfl rfl (by first|exact .inl (congrArg Value.bool (by first|exact rO))|exact .inr rfl) ?_|refine JA.YN 1 rfl rfl (by first|exact lI) rfl rfl rfl (by first|exact rO) (by first|exact yA) ?_)
   |(refine AU 2 2 rfl ?_;refine JI 2 (by decide +kernel) ?_;refine JA.tn 2 rfl rfl (by first|exact lI) (by first|exact yA) ?_)
   |(refine AU 2 1 rfl ?_;refine JI 2 (by decide +kernel) ?_;first|refine JA.tnS 2 rfl rfl (by first|exact lI) rfl rfl rfl (by first|exact .inl (congrArg Value.bool (by first|exact rO))|exact .inr rfl) ?_|refine JA.YN 2 rfl rfl (by first|exact lI) rfl rfl rfl (by first|exact rO) (by first|exact yA) ?_)
   |(refine AU 3 2 rfl ?_;refine JI 3 (by decide +kernel) ?_;refine JA.tn 3 rfl rfl (by first|exact lI) (by first|exact yA) ?_)
   |(refine AU 3 1 rfl ?_;refine JI 3 (by decide +kernel) ?_;first|refine JA.tnS 3 rfl rfl (by first|exact lI) rfl rfl rfl (by first|exact .inl (congrArg Value.bool (by first|exact rO))|exact .inr rfl) ?_|refine JA.YN 3 rfl rfl (by first|exact lI) rfl rfl rfl (by first|exact rO) (by first|exact yA) ?_)
   |(refine AU 4 2 rfl ?_;refine JI 4 (by decide +kernel) ?_;refine JA.tn 4 rfl rfl (by first|exact lI) (by first|exact yA) ?_)
   |(refine AU 4 1 rfl ?_;refine JI 4 (by decide +kernel) ?_;first|refine JA.tnS 4 rfl rfl (by first|exact lI) rfl rfl rfl (by first|exact .inl (congrArg Value.bool (by first|exact rO))|exact .inr rfl) ?_|refine JA.YN 4 rfl rfl (by first|exact lI) rfl rfl rfl (by first|exact rO) (by first|exact yA) ?_)
   |(refine AU 5 2 rfl ?_;refine JI 5 (by decide +kernel) ?_;refine JA.tn 5 rfl rfl (by first|exact lI) (by first|exact yA) ?_)
   |(refine AU 5 1 rfl ?_;refine JI 5 (by decide +kernel) ?_;first|refine JA.tnS 5 rfl rfl (by first|exact lI) rfl rfl rfl (by first|exact .inl (congrArg Value.bool (by first|exact rO))|exact .inr rfl) ?_|refine JA.YN 5 rfl rfl (by first|exact lI) rfl rfl rfl (by first|exact rO) (by first|exact yA) ?_)
   |(refine AU 6 2 rfl ?_;refine JI 6 (by decide +kernel) ?_;refine JA.tn 6 rfl rfl (by first|exact lI) (by first|exact yA) ?_)
   |(refine AU 6 1 rfl ?_;refine JI 6 (by decide +kernel) ?_;first|refine JA.tnS 6 rfl rfl (by first|exact lI) rfl rfl rfl (by first|exact .inl (congrArg Value.bool (by first|exact rO))|exact .inr rfl) ?_|refine JA.YN 6 rfl rfl (by first|exact lI) rfl rfl rfl (by first|exact rO) (by first|exact yA) ?_)
   |(refine AU 0 0 rfl ?_;refine JA.dn rfl (by kernel_rfl) ?_)
   |(refine AU 0 3 rfl ?_;refine JA.st1 rfl rfl (by kernel_rfl) rfl ?_;first|(refine gdO 4 rfl ?_;refine rV rfl rfl rfl rfl rfl ?_)|(refine gdO 3 rfl ?_;refine qI rfl rfl rfl (uZ rfl rfl) rfl ?_)|(refine gdO 6 rfl ?_;refine jY rfl rfl rfl (uU rfl rfl) (uS rfl rfl) (uZ rfl rfl) (by first|exact rfl) rfl (by first|exact rfl) (by first|exact rfl) (by first|exact pG) ?_)|(refine gdO 8 rfl ?_;refine a1k rfl rfl rfl rfl (by first|exact ceA) (by first|exact onA) (uS rfl rfl) (by first|exact rfl) (by first|exact chA) (by first|exact lsA) ?_))
 | (with_reducible show And (And (Le _ _) _) _)
   refine And.intro (And.intro (by repeat first|exact Le.refl _|assumption|refine Le.trans ?_ (by assumption)) (And.intro (by repeat first|exact HSub.n|refine HSub.c 0 rfl ?_|refine HSub.c 1 rfl ?_|refine HSub.c 2 rfl ?_|refine HSub.c 3 rfl ?_|refine HSub.c 4 rfl ?_|refine HSub.c 5 rfl ?_) CSub.n)) ?_
 | (with_reducible show Cj _ _ _ _ _ _)
   first
   |with_reducible refine Cj.seq ?_
   |with_reducible refine Cj.region ?_
   |with_reducible refine Cj.block ?_
   |with_reducible refine Cj.skip ?_
   |with_reducible refine Cj.exit ?_
   |with_reducible refine Cj.ret ?_
   |(with_reducible show Cj _ _ (Code.cond _ _ _) _ _ _);first|refine Cj.cT (by first|exact rfl) (by first|exact eqB) ?_|refine Cj.cF (by first|exact rfl) (by first|exact eqB) ?_
   |refine Cj.seq ?_
   |refine Cj.region ?_
 | (with_reducible show Ej _ _ _ _ _ _)
   first
   |with_reducible refine Ej.seq ?_
   |with_reducible refine Ej.yU ?_
   |with_reducible refine Ej.a0L ?_
   |with_reducible refine Ej.XA ?_
   |with_reducible refine Ej.b4N ?_
   |with_reducible refine Ej.TV ?_
   |with_reducible refine Ej.LQ ?_
   |with_reducible refine Ej.b6n ?_
 exact a.1):B:=h ⟨a⟩
theorem jL n {A B:Prop}(a:A)(h:Cnt n→Wr A→B:=by
 intro s a
 repeat(replace s:=Cnt.p s;refine LC ?_)
 exact a.1):B:=h ⟨⟩ ⟨a⟩
theorem tst{b}{p n:Prop}(h:(b=true→p)∧(b=false→n):=by first
 |exact⟨of_decide_eq_true,of_decide_eq_false⟩
 |exact⟨eq_of_beq,ne_of_beq_false⟩
 |exact⟨bne_iff_ne.1,sJ⟩
 |exact⟨id,id⟩):(b=true→p)∧(b=false→n):=h
theorem jS{b}{p n A G B:Prop}(M:b=true→p→A)(N:b=false→n→G)(h:Wr (b=true→A)→Wr (b=false→G)→B:=by
 intro O Q
 repeat refine LC ?_
 exact Cj.cond rfl O.1 Q.1)(k:(b=true→p)∧(b=false→n):=by exact tst):B:=h ⟨fun h=>M h (k.1 h)⟩ ⟨fun h=>N h (k.2 h)⟩
theorem mW{b}{A G B:Prop}(M:b=true→A)(N:b=false→G)(h:Wr (b=true→A)→Wr (b=false→G)→B:=by
 intro O Q
 repeat refine LC ?_
 exact Cj.cond rfl O.1 Q.1):B:=h ⟨M⟩ ⟨N⟩
theorem mX{b}{p n A G B:Prop}(M:b=true→p→A)(N:b=false→n→G)(h:Wr (b=true→A)→Wr (b=false→G)→B:=by
 intro O Q
 repeat refine LC ?_
 exact J.spG rfl rfl rfl O.1 Q.1)(k:(b=true→p)∧(b=false→n):=by exact tst):B:=h ⟨fun h=>M h (k.1 h)⟩ ⟨fun h=>N h (k.2 h)⟩
theorem oW{b}{A G B:Prop}(M:b=true→A)(N:b=false→G)(h:Wr (b=true→A)→Wr (b=false→G)→B:=by
 intro O Q
 repeat refine LC ?_
 exact J.spG rfl rfl rfl O.1 Q.1):B:=h ⟨M⟩ ⟨N⟩
theorem kM{A B:Prop}(a:A)(h:Wr A→B:=by
 intro a
 repeat refine LC ?_
 first
 |exact Ej.bare (Ej.MX rfl rfl rfl a.1)
 |exact Ej.bare (Ej.b5P rfl rfl rfl rfl a.1)
 |exact Ej.bare (Ej.BO rfl rfl a.1)
 |exact Ej.bare (Ej.b3c rfl rfl a.1)):B:=h ⟨a⟩
theorem jV{A B:Prop}(a:A)(h:Wr A→B:=by
 intro a
 repeat refine LC ?_
 first
 |exact Ej.MX rfl rfl rfl a.1
 |exact Ej.b5P rfl rfl rfl rfl a.1
 |exact Ej.BO rfl rfl a.1
 |exact Ej.b3c rfl rfl a.1):B:=h ⟨a⟩
theorem kC{P f args I v}{A B:Prop}(c:Pure P f args I v)(a:A)(h:Pure P f args I v→Wr A→B:=by
 intro c a
 repeat refine LC ?_
 first
 | (with_reducible show J _ _ _ _ _ _ _)
   first
   |exact J.op rfl (AX rfl rfl rfl rfl rfl c a.1)
   |exact J.KT _ _ _ _ rfl rfl rfl (by first|exact rO) (AX rfl rfl rfl rfl rfl c a.1)
 | (with_reducible show JA _ _ _ _ _ _ _ _ _ _ _ _)
   first
   |exact JA.st1 rfl rfl (by kernel_rfl) rfl (AX rfl rfl rfl rfl rfl c a.1)
   |exact JA.st2 rfl rfl (by kernel_rfl) rfl rfl rfl (by first|exact rO) (AX rfl rfl rfl rfl rfl c a.1)
 |exact AX rfl rfl rfl rfl rfl c a.1):B:=h c ⟨a⟩
theorem kL{P f args I H1}{G:Ending→Heap→HL→Prop}{A B:Prop}(c:jO P f args I H1 G)(a:A)(h:Row H1→jO P f args I H1 G→Wr A→B:=by
 intro r c a
 repeat refine LC ?_
 first
 | (with_reducible show J _ _ _ _ _ _ _)
   first
   |exact J.op rfl (XQ r rfl rfl rfl rfl rfl c rfl a.1 (by first|exact rH) (by first|exact rH))
   |exact J.KT _ _ _ _ rfl rfl rfl (by first|exact rO) (XQ r rfl rfl rfl rfl rfl c rfl a.1 (by first|exact rH) (by first|exact rH))
 | (with_reducible show JA _ _ _ _ _ _ _ _ _ _ _ _)
   first
   |exact JA.st1 rfl rfl (by kernel_rfl) rfl (XQ r rfl rfl rfl rfl rfl c rfl a.1 (by first|exact rH) (by first|exact rH))
   |exact JA.st2 rfl rfl (by kernel_rfl) rfl rfl rfl (by first|exact rO) (XQ r rfl rfl rfl rfl rfl c rfl a.1 (by first|exact rH) (by first|exact rH))
 |exact XQ r rfl rfl rfl rfl rfl c rfl a.1 (by first|exact rH) (by first|exact rH)):B:=h ⟨⟩ c ⟨a⟩
theorem sV{P f args I}{G:Ending→Heap→HL→Prop}{A B:Prop}(c:jO P f args I [] G)(a:A)(h:jO P f args I [] G→Wr A→B:=by
 intro c a
 repeat refine LC ?_
 first
 | (with_reducible show J _ _ _ _ _ _ _)
   first
   |exact J.op rfl (qF rfl rfl rfl rfl rfl c a.1 (by first|exact rH) (by first|exact rH))
   |exact J.KT _ _ _ _ rfl rfl rfl (by first|exact rO) (qF rfl rfl rfl rfl rfl c a.1 (by first|exact rH) (by first|exact rH))
 | (with_reducible show JA _ _ _ _ _ _ _ _ _ _ _ _)
   first
   |exact JA.st1 rfl rfl (by kernel_rfl) rfl (qF rfl rfl rfl rfl rfl c a.1 (by first|exact rH) (by first|exact rH))
   |exact JA.st2 rfl rfl (by kernel_rfl) rfl rfl rfl (by first|exact rO) (qF rfl rfl rfl rfl rfl c a.1 (by first|exact rH) (by first|exact rH))
 |exact qF rfl rfl rfl rfl rfl c a.1 (by first|exact rH) (by first|exact rH)):B:=h c ⟨a⟩
theorem II{P f args I H1} R {G:Ending→Heap→HL→Prop}{A B:Prop}(c:jO P f args I H1 G)(a:A)(h:Row R→jO P f args I H1 G→Wr A→B:=by
 intro r c a
 repeat refine LC ?_
 first
 | (with_reducible show J _ _ _ _ _ _ _)
   first
   |exact J.op rfl (PO r rfl rfl rfl rfl rfl rfl c a.1 (by first|exact rH) (by first|exact rH))
   |exact J.KT _ _ _ _ rfl rfl rfl (by first|exact rO) (PO r rfl rfl rfl rfl rfl rfl c a.1 (by first|exact rH) (by first|exact rH))
 | (with_reducible show JA _ _ _ _ _ _ _ _ _ _ _ _)
   first
   |exact JA.st1 rfl rfl (by kernel_rfl) rfl (PO r rfl rfl rfl rfl rfl rfl c a.1 (by first|exact rH) (by first|exact rH))
   |exact JA.st2 rfl rfl (by kernel_rfl) rfl rfl rfl (by first|exact rO) (PO r rfl rfl rfl rfl rfl rfl c a.1 (by first|exact rH) (by first|exact rH))
 |exact PO r rfl rfl rfl rfl rfl rfl c a.1 (by first|exact rH) (by first|exact rH)):B:=h ⟨⟩ c ⟨a⟩
section
variable {cx:Cx} {Q:Qt} {e:Env} {I I1:Heap} {H A:HL} {Z:CL} {z fuel:Nat} {listed:Array Bool} {ops:Array Oper} {l:List Oper} {o:Oper}
theorem J.zg{j d G A b v}(M:kX cx o e (SS I H) v)(k:J cx Q ops l ((G,v)::e) I H)(N:o.guard=some (j,A):=by rfl)(O:(ops[j]?).bind (·.dst)=some d:=by rfl)(S:eg e d=some (.bool b):=by rfl)(W:b=A:=by exact rO)(Z:o.dst=some G:=by rfl)(hn:Nat.blt G cx.n=true:=by rfl):J cx Q ops (o::l) e I H:=J.KT j d A b N O S W (kV M Z hn k)
end
theorem kJ off {A B:Prop}(a:A)(h:Cnt off→Wr A→B:=by
 intro s a
 repeat refine LC ?_
 first
 |(with_reducible show J _ _ _ _ _ _ _);first|(refine gdJ 2 rfl ?_;first|exact J.z (XK s rfl rfl rfl (uU rfl rfl) (uS rfl rfl) (by first|decide|omega) (by first|decide|omega) (by first|decide|omega|(simp;done)|(simp;omega))) a.1|exact J.z (ZA s rfl rfl rfl (uU rfl rfl) (uS rfl rfl) (by first|decide|omega) (by first|decide|omega) (by first|decide|omega|(simp;done)|(simp;omega))) a.1)|(refine gdJ 1 rfl ?_;first|exact J.zg (XK s rfl rfl rfl (uU rfl rfl) (uS rfl rfl) (by first|decide|omega) (by first|decide|omega) (by first|decide|omega|(simp;done)|(simp;omega))) a.1|exact J.zg (ZA s rfl rfl rfl (uU rfl rfl) (uS rfl rfl) (by first|decide|omega) (by first|decide|omega) (by first|decide|omega|(simp;done)|(simp;omega))) a.1)
 |(refine AU 0 2 rfl ?_;first|exact JA.tn 0 rfl rfl (by first|exact lI) (XK s rfl rfl rfl (uU rfl rfl) (uS rfl rfl) (by first|decide|omega) (by first|decide|omega) (by first|decide|omega|(simp;done)|(simp;omega))) a.1|exact JA.tn 0 rfl rfl (by first|exact lI) (ZA s rfl rfl rfl (uU rfl rfl) (uS rfl rfl) (by first|decide|omega) (by first|decide|omega) (by first|decide|omega|(simp;done)|(simp;omega))) a.1)
 |(refine AU 0 1 rfl ?_;first|exact JA.YN 0 rfl rfl (by first|exact lI) rfl rfl rfl (by first|exact rO) (XK s rfl rfl rfl (uU rfl rfl) (uS rfl rfl) (by first|decide|omega) (by first|decide|omega) (by first|decide|omega|(simp;done)|(simp;omega))) a.1|exact JA.YN 0 rfl rfl (by first|exact lI) rfl rfl rfl (by first|exact rO) (ZA s rfl rfl rfl (uU rfl rfl) (uS rfl rfl) (by first|decide|omega) (by first|decide|omega) (by first|decide|omega|(simp;done)|(simp;omega))) a.1)):B:=h ⟨⟩ ⟨a⟩
theorem yQ m R {G sz n xs g}(c:kZ G sz n xs g){A B:Prop}(a:A)(h:Cnt m→Row R→kZ G sz n xs g→Wr A→B:=by
 intro s r c a
 repeat refine LC ?_
 first
 |(with_reducible show J _ _ _ _ _ _ _);exact J.op rfl (a8Z s r rfl rfl rfl rfl rfl (uU rfl rfl) (.inr ⟨_,(uU rfl rfl)⟩) (by kernel_rfl) (uS rfl rfl) (uZ rfl rfl) rfl c rfl (Src.slice (by first|exact bkA) rfl rfl rfl) (by omega) a.1)
 |exact JA.st1 rfl rfl (by kernel_rfl) rfl (a8Z s r rfl rfl rfl rfl rfl (uU rfl rfl) (.inr ⟨_,(uU rfl rfl)⟩) (by kernel_rfl) (uS rfl rfl) (uZ rfl rfl) rfl c rfl (Src.slice (by first|exact bkA) rfl rfl rfl) (by omega) a.1)):B:=h ⟨⟩ ⟨⟩ c ⟨a⟩
section
variable {cx:Cx} {Q:Qt} {e:Env} {I I1:Heap} {H A:HL} {Z:CL} {z fuel:Nat} {listed:Array Bool} {ops:Array Oper} {l:List Oper} {o:Oper}
theorem J.ev d A {v}(G:eg e d=some v)(h:v=A)(k:J cx Q ops l ((d,A)::e) I H):J cx Q ops l e I H:=J.eqv d G h k
theorem JA.ev d G {v}(M:eg e d=some v)(h:v=G)(k:JA cx Q l I1 A Z z fuel listed ((d,G)::e) I H):JA cx Q l I1 A Z z fuel listed e I H:=JA.eqv d M h k
theorem Cj.ev{c} d A {v}(G:eg e d=some v)(h:v=A)(k:Cj cx Q c ((d,A)::e) I H):Cj cx Q c e I H:=Cj.eqv d G h k
theorem JA.zt i {d v}(G:l.toArray[i]?=some o)(M:kX cx o e (SC I1 A Z) v)(k:JA cx Q l I1 A Z z fuel (listed.setIfInBounds i true) ((d,v)::e) I H)(N:xJ I1 A Z I H:=by exact lI)
 (O:o.dst=some d:=by rfl)(S:o.guard=none:=by rfl)(W:Nat.blt d cx.n=true:=by rfl)(hz:JM l.toArray listed z i=true:=by first|rfl|kernel_rfl)(hs:Region.noSelect l.toArray=true:=by kernel_rfl)(hf:Region.free .any l.toArray listed i=true:=by kernel_rfl)
 (hr:(Region.ready .any l.toArray listed).contains i=true:=by kernel_rfl)(hq:∀c a w,Q (.panic c) (a.put (some d) v) w→Q (.panic c) a w:=by exact fun _ _ _ h=>h):JA cx Q l I1 A Z z (fuel+1) listed e I H:=JA.tk i G N M k O S W hz hs hf hr hq
end
theorem jU{P f fn c args I H}{A:Ending→Heap→HL→Prop}(M:P.funcs[f]?=some fn)
 (h:∀w0,Ready I H w0→Cj ⟨P,fn.ntmps,w0,H.map (·.1),I,[],none⟩ (bodyPost P fn (RR w0 (H.map (·.1)) I A)) c (uQ 0 args) I H)(N:fn.body=some c:=by rfl)(G:fn.name≠ "runtime.NumGoroutine" :=by decide)
 (O:args.length≤fn.ntmps:=by exact Nat.le_of_ble_eq_true rfl):jO P f args I H A:=jO.a6i M N G O h
end Go.Sx
section
namespace Go.Proofs.YtekmeaoblpfnpaaGreatDoor
open _root_.Go.Proofs.Tryz
open Go Go.Sx
def sU (b:Nat) (l:List UInt8) (p:Bool) (g:Gs):HL:=(b,jM 204 [if p then ptr b 0 else .pointer none,gV l.length g])::gH 5 (mQ l) g
theorem ZW b v I:jO aA 184 [ptr b 0] I [(b,jM 204 [.pointer none,v])] (fun e _ H'=>e= .returned (.tuple #[])∧H'=[(b,jM 204 [ptr b 0,v])]):=by
 refine jU func184 fun w0 _=>?_;refine jL 13 ?_;refine J.z (a5L 1 rfl rfl a7F a2M kR (jR.at 0 rfl) sI) ?_;refine J.z (a5y rfl rfl rfl func234 kR kR kR kR) ?_;refine J.z (a2G rfl rfl a2M a7F kR (jR.at 0 rfl) kR) ?_;refine jL 4 ?_;refine Ej.BO rfl rfl ?_;exact rT
theorem a0d b v I:jO aA 184 [ptr b 0] I [(b,jM 204 [ptr b 0,v])] (fun e _ H'=>e= .returned (.tuple #[])∧H'=[(b,jM 204 [ptr b 0,v])]):=by
 refine jU func184 fun w0 _=>?_;refine jL 17 ?_;refine J.z (a7I rfl rfl rfl a7F kR) ?_;refine jL 4 ?_;refine Ej.BO rfl rfl ?_;exact rT
theorem a4I b (p:Bool) v I:jO aA 184 [ptr b 0] I [(b,jM 204 [if p then ptr b 0 else .pointer none,v])] (fun e _ H'=>e= .returned (.tuple #[])∧H'=[(b,jM 204 [ptr b 0,v])]):=by
 cases p
 ·exact ZW b v I
 exact a0d b v I
theorem a0s b l s p g (O:kZ 0 1 l.length (mQ l) g)(S:l.length≤1000000000000)(W:s.length≤1000000000000) I:
 jO aA 130 [ptr b 0,str s] I (sU b l p g) (fun e _ H'=>e= .returned (.tuple #[i64 s.length,.nilIface])∧∃A,kZ 0 1 (l++s).length (mQ (l++s)) A∧H'=sU b (l++s) true A):=by
 refine jU func130 fun w0 _=>?_;refine jL 9 ?_;refine J.pull Pull.z ?_;refine kL (a4I b p _ _) ?_;intro _ _ _ _ G;obtain⟨M,rfl⟩:=G;cases M;refine jL 10 ?_;refine J.op rfl (tV 0 (bD _) (by':=0) [_] rfl rfl rfl rfl rfl rP (.inl lM) kR XW tZ5 rfl O rfl Src.str oM ?_);intro Q N;refine jL 14 ?_;refine Ej.keep (dZ Keeps.r) ?_;refine jV ?_;exact⟨rfl,Q,by simpa[mQ]using N,by simp[sU,mQ]⟩
theorem a7x b x I:jO aA 132 [ptr b 0] I [(b,jM 204 [x,.slice none 0 0])] (fun e _ H'=>e= .returned (str [])∧∃y z,H'=[(b,jM 204 [y,z])]):=by
 refine jU func132 fun w0 _=>?_;refine jL 6 ?_;refine Cj.qC [0] [] 12 kR ?_;refine jL 4 ?_;refine JA.zt 4 rfl (XB rfl rfl) ?_;refine jL 5 ?_;refine q0 10 rfl (kV (PL rfl rfl rfl) rfl rfl ?_);refine jL 5 ?_;refine Ej.keep (dZ Keeps.n) ?_;refine jV ?_;exact⟨rfl,_,_,rfl⟩
theorem a5H b A c x l sp (h0:l≠[])(M:l.length≤1000000000000)(G:c≠0) I:jO aA 132 [ptr b 0] I [(b,jM 204 [x,.slice (some ⟨A,0,none⟩) l.length c]),(A,jM 5 (mQ l++sp))] (fun e _ H'=>e= .returned (str l)∧∃y z,H'=[(b,jM 204 [y,z])]):=by
 refine jU func132 fun w0 _=>?_;refine jL 6 ?_;refine Cj.qC [0] [] 12 kR ?_;refine jL 4 ?_;refine JA.zt 4 rfl (a2U rfl rfl G) ?_;refine jL 5 ?_;refine q0 10 rfl (XL 1 l rfl rfl rfl rfl rfl underlying246 kR rfl h0 oM (lS.s lS.z) ?_);refine jL 5 ?_;refine Ej.keep (dZ (Keeps.d Keeps.n)) ?_;refine jV ?_;exact⟨rfl,_,_,rfl⟩
theorem a1e b l p g (G:kZ 0 1 l.length (mQ l) g)(h0:l=[]→g=none)(O:l.length≤1000000000000) I:jO aA 132 [ptr b 0] I (sU b l p g) (fun e _ H'=>e= .returned (str l)∧∃y z,H'=[(b,jM 204 [y,z])]):=by
 cases g with
 |none=>
  have:l=[]:=List.length_eq_zero_iff.1 G.1;subst this;exact a7x b _ I
 |some q=>
  obtain⟨Q,c,sp⟩:=q;have A:l≠[]:=fun h=>by cases h0 h
  have M:=G.2.1;have N:=G.2.2;have:0<l.length:=List.length_pos_iff.2 A;exact a5H b Q c _ l sp A O (by rw[M]at N;omega) I
theorem b5f b x I:jO aA 131 [ptr b 0] I [(b,jM 204 [x,.slice none 0 0])] (fun e _ H'=>e= .returned (i64 0)∧H'=[(b,jM 204 [x,.slice none 0 0])]):=by
 refine jU func131 fun w0 _=>?_;refine jV ?_;exact rT
theorem b2u b x p n c I:jO aA 131 [ptr b 0] I [(b,jM 204 [x,.slice p n c])] (fun e _ H'=>e= .returned (i64 n)∧H'=[(b,jM 204 [x,.slice p n c])]):=by
 refine jU func131 fun w0 _=>?_;refine jV ?_;exact rT
theorem b5W b x n g {sz xs}(A:kZ 0 sz n xs g) I:jO aA 131 [ptr b 0] I [(b,jM 204 [x,gV n g])] (fun e _ H'=>e= .returned (i64 n)∧H'=[(b,jM 204 [x,gV n g])]):=by
 cases g with
 |none=>
  obtain rfl:n=0:=A.1;exact b5f b x I
 |some q=>exact b2u b x _ n _ I
theorem b1Z b x y I:jO aA 133 [ptr b 0] I [(b,jM 204 [x,y])] (fun e _ H'=>e= .returned (.tuple #[])∧H'=[(b,jM 204 [.pointer none,.slice none 0 0])]):=by
 refine jU func133 fun w0 _=>?_;refine jL 14 ?_;refine Ej.BO rfl rfl ?_;exact rT
end Go.Proofs.YtekmeaoblpfnpaaGreatDoor
end
namespace Go.Proofs.YtekmeaoblpfnpaaGreatDoor
open Go.ChangeShapes Go.WideShapes Go.ChangeAt Go.RowKit Go.Sx Go.Lib Go.ChangeMaps Go.WideMaps
theorem own:ownKnob aA.godebug=none:=kR
def HW (W:World):Heap:=fun b=>W.heap[b]?
theorem HW.ready W:Ready (HW W) [] W:=⟨fun _ _ h=>h,sI,sI,sI⟩
theorem HW.below{W w' A H'}(h:St W [] (HW W) A H' w'):Below W.heap.size W w':=⟨h.os,h.tape,h.output,h.size,fun b G=>h.frm b G sI⟩
theorem HW.calls{f args W v}(h:Sx.Pure aA f args (HW W) v):Calls aA f args.toArray W fun e w'=>e= .returned v∧Below W.heap.size W w':=
 (h.2 W (HW.ready W)).mono fun _ _ ⟨_,_,A,h1,_,_⟩=>⟨h1,HW.below A⟩
theorem a9N{H:Type}{enc P f}{s:ChangeSpec}{Q fresh a0 again W W' args v ds gs A M N}
 (hB:Below W.heap.size W W')(hW:DataW.Whole enc P f.params.toList s.vars Q W args.toList ds gs A)(a3:A=M++N)
 (a1:∀(b:Nat) (sp:Nat→Bool) (hd:Bool),dS enc P W' b sp hd f.resultTypes.toList (v.resultList f.resultTypes.size) (s.fn H (ds++gs)).results [])
 (S:∀sp:Nat→Bool,(∀p∈A,sp p.block=true)→dS enc P W' 0 sp true f.params.toList args.toList (s.fn H (ds++gs)).args M)
 (Z:∀sp:Nat→Bool,(∀p∈A,sp p.block=true)→DataW.TrodVars enc P W' sp s.vars (s.fn H (ds++gs)).vars N)
 (a6:∀(j:Nat) (t:TypeId) (r:Value),f.resultTypes[j]?=some t→(v.resultList f.resultTypes.size)[j]?=some r→dW P W' .any 0 t r):s.post enc P f Q fresh a0 again W args v W':=by
 have a2:∀p∈A,p.block<W.heap.size:=hW.lt;have mem:∀p,p∈A↔p∈M∨p∈N:=fun p=>by rw[a3];exact aX
 have O:([]++M)++N=A:=by rw[a3];rfl
 refine⟨ds,gs,A,[],M,N,hW,a1 _ _ _,S _ fun p G=>zH (a2 p G),Z _ fun p G=>zH (a2 p G),World.keptBut_mono (fun p G=>⟨G,.inr ((mem p).1 G)⟩) (hB.frame (· ∈A)),fun _=>?_⟩;have a7:=S (fun _=>true) fun _ _=>rfl;obtain⟨_,_,_,_,_,a5,a8⟩:=hW;refine⟨a6,_,_,([]++M)++N,⟨[]++M,N,trodAll_append a7 (a1 _ _ _),Z _ fun _ _=>rfl,rfl,fun b off G=>?_,fun ha=>?_⟩,fun p G _=>?_⟩
 ·have a4:MemPlace.cell b off∈A:=O▸G;have a9:b<W.heap.size:=a2 _ a4;have hf:=a5 b off a4;unfold World.frozen? at hf ⊢;rw[hB.block b a9];exact hf
 ·exact O▸a8 ha
 exact O▸G
def Again {H:Type} (enc:TypeId×Value→H) (W:World) (t:TypeId) (v:Value) (d:DataW H) (p:List MemPlace):Prop:=
 ∀W',Below W.heap.size W W'→∀sp:Nat→Bool,(∀q∈p,sp q.block=true)→bY enc aA W' 0 sp true t v d p
section
variable {H:Type} {enc:TypeId×Value→H} {W:World} {base:Nat}
end
theorem a3m{H:Type}{enc:TypeId×Value→H} os {f fn}{s:OpenSpec}{G M A} args
 (Q:((aV aA os A).forCall (fun _ _=>0) ⟨#[],args,[]⟩).variablesZipB aA=true)
 (S:(((aV aA os A).forCall (fun _ _=>0) ⟨#[],args,[]⟩).heap.toList.drop aA.globals.size).take ((begin aA (fun _ _=>0) default).world.heap.size-aA.globals.size)=(begin aA (fun _ _=>0) default).world.heap.toList.drop aA.globals.size)
 (N:Input.okWideB aA ((aV aA os A).forCall (fun _ _=>0) ⟨#[],args,[]⟩) f ⟨#[],args,[]⟩=true)
 (O:s.preRow enc aA fn G M A ((aV aA os A).forCall (fun _ _=>0) ⟨#[],args,[]⟩).memory args):
 ∃(w:World) (tape:Tape) (i:Input),w.os=os∧(w.forCall tape i).Shaped aA∧i.vars=[]∧Input.okWide aA (w.forCall tape i) .any w.heap.size f i∧
  s.preRow enc aA fn G M A (w.forCall tape i).memory i.args∧({}:Assume).holds aA (lone (Frame.enter aA f i.args .normal) [] (w.forCall tape i)):=
 ⟨aV aA os A,fun _ _=>0,⟨#[],args,[]⟩,World.laidAll_os _ _ _,World.shaped_of_ZipB Q S,(bP (base:=0) N).1,(bP N).2,O,by
  simp only[Assume.holds];exact⟨sI,sI,sI,sI,sI⟩⟩
section
variable {H:Type} {enc:TypeId×Value→H} {W:World} {base:Nat}
def Arg (enc:TypeId×Value→H) (W:World) (t:TypeId) (cs:List Value) (m:Nat):Prop:=∃n x,bZ enc aA W 0 (fun _=>true) true n t cs=some x∧aB x.1=m
theorem Arg.of{t v d p}(h:bY enc aA W 0 (fun _=>true) true t v d p):Arg enc W t v.cells.toList (aB d):=by
 obtain⟨n,A⟩:=h;exact⟨n,_,A,rfl⟩
theorem laidOut:laidOutB aA=true:=kR
theorem again{t v d p}(N:aA.readableRec t=true)(A:t<aA.types.size)(h:bY enc aA W 0 (fun _=>true) true t v d p)(G:∀x∈p,x.block<W.heap.size):Again enc W t v d p:=
 fun _ O _ M=>WideElems.Trod_stays laidOut N A h (fun _ Q=>O.same (G _ Q)) M
theorem mapM_some{α β:Type}{g}:∀{l:List α} {ys:List β},l.mapM g=some ys→ys.length=l.length∧∀(i:Nat) x,l[i]?=some x→∃y,ys[i]?=some y∧g x=some y
 |[],ys,h=>by simp at h;subst h;exact⟨rfl,fun i x A=>by simp at A⟩
 |a::l,ys,h=>by
  rw[List.mapM_cons]at h;cases ha:g a with
  |none=>simp[ha]at h
  |some y=>
   cases hl:l.mapM g with
   |none=>simp[ha,hl]at h
   |some zs=>
    simp[ha,hl]at h;subst h;obtain⟨h1,h2⟩:=mapM_some hl;refine⟨by simp[h1],fun i x A=>?_⟩;cases i with
    |zero=>simp at A;subst A;exact⟨y,rfl,ha⟩
    |succ i=>exact h2 i x (by simpa using A)
theorem OY:∀(l:List (DataW H)),dK l=(l.map aB).sum
 |[]=>rfl
 |d::r=>by simp only[dK,aF,bI,OY r]
theorem Arg.step{t cs m}(h:Arg enc W t cs m):∃n x,aS enc aA W 0 (fun _=>true) true (bZ enc aA W 0 (fun _=>true) true n) t cs=some x∧aB x.1=m:=by
 obtain⟨n,x,h,A⟩:=h;cases n with
 |zero=>simp[bZ]at h
 |succ n=>exact⟨n,x,(DataW.trod_step enc aA W 0 (fun _=>true) true n t cs).symm.trans h,A⟩
theorem Arg.int{t k cs m}(G:aA.underlying t=some (.int k))(h:Arg enc W t cs m):∃z,cs=[.int k z]∧(Lit.int k z).wf=true∧m=1:=by
 obtain⟨n,x,h,A⟩:=h;obtain⟨z,rfl,rfl,M⟩:=DataW.trod_int G h;simp only[aB]at A;exact⟨z,rfl,M,A.symm⟩
theorem Arg.bool{t cs m}(A:aA.underlying t=some .bool)(h:Arg enc W t cs m):∃b:Bool,cs=[.bool b]:=by
 obtain⟨n,x,h,_⟩:=h.step;unfold aS at h;rw[A]at h
 split at h<;>simp_all
theorem Arg.struct{t fs cs m}(M:aA.underlying t=some (.struct fs))(h:Arg enc W t cs m):
 cs.length=aA.cellsOf t∧∃ms:List Nat,ms.length=fs.size∧ms.sum+1=m∧∀(i:Nat) f G,fs[i]?=some f→ms[i]?=some G→Arg enc W f.type ((cs.drop f.offset).take (aA.cellsOf f.type)) G:=by
 obtain⟨n,x,h,N⟩:=h.step;unfold aS at h;simp only[M]at h
 split at h
 ·rename_i O
  refine⟨O,?_⟩;simp only[aU]at h;obtain⟨xs,Q,rfl⟩:=h;obtain⟨h1,h2⟩:=mapM_some Q;refine⟨xs.map fun y=>aB y.1,by simp[h1],?_,fun i f G S A=>?_⟩
  ·rw[←N];simp only[aB,OY,aQ];rfl
  obtain⟨y,Z,hg⟩:=h2 i f (by simpa using S);rw[aN,Z]at A;simp only[bU,aK]at A;exact⟨n,y,hg,A⟩
 cases h
theorem Arg.array{t e k cs m}(M:aA.underlying t=some (.array k e))(h:Arg enc W t cs m):
 cs.length=aA.cellsOf t∧∃ms:List Nat,ms.length=k∧ms.sum+1=m∧∀(i G:Nat),ms[i]?=some G→Arg enc W e ((cs.drop (i*aA.cellsOf e)).take (aA.cellsOf e)) G:=by
 obtain⟨n,x,h,N⟩:=h.step;unfold aS at h;simp only[M]at h
 split at h
 ·rename_i O
  refine⟨O,?_⟩;simp only[aU]at h;obtain⟨xs,Q,rfl⟩:=h;obtain⟨h1,h2⟩:=mapM_some Q;rw[bJ]at h1;refine⟨xs.map fun y=>aB y.1,by simp[h1],?_,fun i G A=>?_⟩
  ·rw[←N];simp only[aB,OY,aQ];rfl
  have S:i<k:=by
   have:=(aH.1 A).1;simpa[h1]using this
  obtain⟨y,Z,hg⟩:=h2 i i (aZ S);rw[aN,Z]at A;simp only[bU,aK]at A;exact⟨n,y,hg,A⟩
 cases h
theorem cells_at{a n cs}(h:W.cells? 0 a n=some cs):cs.length=n∧∀i,i<n→W.cell? (a.add i)=cs[i]?:=by
 unfold World.cells? at h;rw[zF (bD _)]at h;obtain⟨h1,h2⟩:=mapM_some h;rw[bJ]at h1;refine⟨h1,fun i A=>?_⟩;obtain⟨y,G,M⟩:=h2 i i (aZ A);rw[M,G]
theorem Arg.slice{t e sz cs m}(ht:aA.underlying t=some (.slice e))(a2:aA.cellsOf e=sz)(a0:0<sz)(h:Arg enc W t cs m):
 ∃(p:Option Addr) (len cap:Nat) (ms:List Nat),cs=[.slice p len cap]∧len≤cap∧cap≤maxLen∧ms.length=len∧ms.sum+1≤m∧(0<len→∃b o cells T fr,p=some ⟨b,o,none⟩∧HW W b=some (.cells (List.toArray cells) T fr)∧
  ∀(i m':Nat),ms[i]?=some m'→((cells.drop (o+i*sz)).take sz).length=sz∧Arg enc W e ((cells.drop (o+i*sz)).take sz) m'):=by
 obtain⟨n,x,g,hm⟩:=h.step;clear h;unfold aS at g;simp only[ht]at g
 split at g<;>first|(exfalso;simp_all;done)|skip
 ·simp only[aK]at g;subst g;exact⟨none,0,0,[],rfl,bW _,bD _,rfl,by rw[←hm];simp[aB],fun h=>absurd h dE⟩
 rename_i a len cap he
 cases he
 split at g
 ·rename_i hl
  simp only[if_true,bQ,aU]at g;obtain⟨G,a3,rest,_,rfl⟩:=g;obtain⟨h1,h2⟩:=mapM_some a3;rw[bJ]at h1;refine⟨some a,len,cap,G.map fun y=>aB y.1,rfl,hl.2.1,hl.2.2,by simp[h1],?_,fun h0=>?_⟩
  ·rw[←hm];simp only[aB,OY,aQ];have:(G.map fun y=>aB y.1).sum=(G.map (aB∘fun x=>x.1)).sum:=rfl;omega
  have elem:∀i,i<len→∃(cs:List Value) (y:DataW H×List MemPlace),W.cells? 0 (a.add (i*sz)) sz=some cs∧G[i]?=some y∧bZ enc aA W 0 (fun _=>true) true n e cs=some y:=fun i hi=>by
   obtain⟨y,hy,N⟩:=h2 i i (aZ hi);simp only[bQ]at N;obtain⟨cs,Z,N⟩:=N;rw[a2]at Z;exact⟨cs,y,Z,hy,N⟩
  obtain⟨_,y0,O,_,_⟩:=elem 0 h0;obtain⟨_,O⟩:=cells_at O;have A:=O 0 a0;rw[List.getElem?_eq_getElem oM]at A;rw[Nat.zero_mul]at A;have ha:a.add 0=a:=by simp[Addr.add]
  rw[ha,ha]at A;obtain⟨Q,off,a1⟩:=a;cases a1 with
  |some sp=>obtain⟨_,_,_,_,hs⟩:=World.shape?_of_cell? A;cases hs
  |none=>
   have S:=A;unfold dY at S;cases hb:W.heap[Q]? with
   |none=>simp only[hb]at S;cases S
   |some o=>
    cases o with
    |cells cells T fr=>
     refine⟨Q,off,cells.toList,T,fr,rfl,by show W.heap[Q]?=_;rw[hb],fun i m' M=>?_⟩;have hi:i<len:=by
      have:=(aH.1 M).1;simpa[h1]using this
     obtain⟨cs,y,Z,hy,N⟩:=elem i hi;obtain⟨a4,a5⟩:=cells_at Z;have a6:(cells.toList.drop (off+i*sz)).take sz=cs:=by
      apply dG
      intro j;rcases Nat.lt_or_ge j sz with hj|hj
      ·have h3:=a5 j hj;rw[dX,dX]at h3;unfold dY at h3;simp only[hb]at h3;rw[dB,zF hj,List.getElem?_drop,←h3];simp
      rw[dB,zD oM,List.getElem?_eq_none oM]
     rw[a6];rw[aN,hy]at M;simp only[bU,aK]at M;exact⟨a4,n,y,N,M⟩
    |_=>simp only[hb]at S;cases S
 cases g
theorem Arg.row{α:Type}{f size t e sz cs m}(ht:aA.underlying t=some (.slice e))(a0:aA.cellsOf e=sz)(S:0<sz)(Q:α→Prop)
 (he:∀(cs:List Value) (G:Nat),G≤m→Arg enc W e cs G→∃x:α,cs=f x∧size x≤G∧Q x)(h:Arg enc W t cs m):
 ∃(l:List α) (v:Value),cs=[v]∧jW f (HW W) l v∧(l.map size).sum+1≤m∧l.length≤maxLen∧∀x∈l,Q x:=by
 obtain⟨p,len,cap,ms,rfl,O,_,a1,a2,hb⟩:=h.slice ht a0 S;rcases Nat.eq_zero_or_pos len with h0|h0
 ·subst h0;exact⟨[],_,rfl,⟨p,cap,rfl,O,fun h=>absurd rfl h⟩,by simp;omega,bD _,fun x N=>by cases N⟩
 obtain⟨b,o,A,T,fr,rfl,Z,M⟩:=hb h0
 have key:∀(ms:List Nat) (o:Nat),ms.sum+1≤m→(∀(i G:Nat),ms[i]?=some G→((A.drop (o+i*sz)).take sz).length=sz∧Arg enc W e ((A.drop (o+i*sz)).take sz) G)→
  ∃(l:List α) (sp:List Value),l.length=ms.length∧A.drop o=l.flatMap f++sp∧(l.map size).sum≤ms.sum∧∀x∈l,Q x:=by
  intro ms
  induction ms with
  |nil=>exact fun o _ _=>⟨[],A.drop o,rfl,rfl,bW _,fun x N=>by cases N⟩
  |cons a r ih=>
   intro o hs M;rw[bI]at hs;have h0:=M 0 a rfl;rw[Nat.zero_mul,Nat.add_zero]at h0;obtain⟨x,N,_,hq⟩:=he _ a oM h0.2;obtain⟨l,sp,h1,h2,h3,h4⟩:=ih (o+sz) oM fun i G hi=>by
    have:=M (i+1) G (by simpa using hi);rw[show o+(i+1)*sz=o+sz+i*sz by rw[Nat.add_mul];omega]at this;exact this
   refine⟨x::l,sp,by simp[h1],?_,by simp only[aF,bI];omega,fun y hy=>?_⟩
   ·rw[List.flatMap_cons,dF,←h2,←N,←List.drop_drop];exact(List.take_append_drop sz (A.drop o)).symm
   rcases bH.1 hy with rfl|hy
   ·exact hq
   exact h4 y hy
 obtain⟨l,sp,h1,h2,h3,h4⟩:=key ms o a2 M;have a3:l.length=len:=h1.trans a1;subst a3;exact⟨l,_,rfl,⟨_,cap,rfl,O,fun _=>⟨b,o,A,T,fr,sp,rfl,Z,h2⟩⟩,oM,oM,h4⟩
theorem a4N{α:Type}{f}:∀{l:List α},(∀x,1≤f x)→l.length≤(l.map f).sum
 |[],_=>bD _
 |a::r,h=>by
  have:=a4N (l:=r) h;have:=h a;simp only[List.length_cons,aF,bI];omega
theorem Arg.ints{t e cs m}(G:aA.underlying t=some (.slice e))(M:aA.underlying e=some (.int .i64))(A:aA.cellsOf e=1)(h:Arg enc W t cs m):
 ∃(l:List Int) (v:Value),cs=[v]∧jW (fun n:Int=>[i64 n]) (HW W) l v∧l.length+1≤m:=by
 obtain⟨l,v,h1,h2,h3,_,_⟩:=h.row (f:=fun n:Int=>[i64 n]) (size:=fun _=>1) G A dE (fun _=>True) fun cs N _ h=>by
  obtain⟨z,rfl,_,rfl⟩:=h.int M;exact⟨z,rfl,bW _,trivial⟩
 have:=a4N (f:=fun _:Int=>1) (l:=l) fun _=>bW _;exact⟨l,v,h1,h2,oM⟩
theorem b2s{t e v d p}(M:aA.underlying t=some (.slice e))(Q:aA.underlying e=some (.int .i64))(N:aA.cellsOf e=1)(S:aA.readableRec t=true)(A:t<aA.types.size)
 (G:dW aA W .any base t v)(h:bY enc aA W 0 (fun _=>true) true t v d p)(O:∀x∈p,x.block<W.heap.size):
 ∃l:List Int,jW (fun n:Int=>[i64 n]) (HW W) l v∧l.length+1≤aB d∧Again enc W t v d p:=by
 obtain⟨a,len,cap,rfl⟩:=okWide_slice M G;obtain⟨l,Z,h1,h2,h3⟩:=(Arg.of h).ints M Q N;obtain rfl:Value.slice a len cap=Z:=by simpa[Value.cells]using h1
 exact⟨l,h2,h3,again S A h O⟩
end
end Go.Proofs.YtekmeaoblpfnpaaGreatDoor
namespace Go.Proofs.YtekmeaoblpfnpaaGreatDoor.Sync
open _root_.Go.Proofs.Tryz
open Go Go.Sx
theorem disable w:(callFunc 331 #[]).run aA w= .ok (.value (.tuple #[])) w:=run_call_mark0 func331 kR kR kR .disable kR w
theorem enable w:(callFunc 333 #[]).run aA w= .ok (.value (.tuple #[])) w:=run_call_mark0 func333 kR kR kR .enable kR w
theorem acquire a w:(callFunc 334 #[.pointer (some a)]).run aA w= .ok (.value (.tuple #[])) w:=run_call_marked func334 kR kR kR .acquire kR a w
theorem releaseMerge a w:(callFunc 336 #[.pointer (some a)]).run aA w= .ok (.value (.tuple #[])) w:=run_call_marked func336 kR kR kR .releaseMerge kR a w
theorem store_deferred a x u w (O:w.cell? a=some x)(Q:w.frozen? a=false):
 CallsD aA 306 #[.pointer (some a),.bool true] u w fun e M w'=>M=u∧(e= .returned (.tuple #[])∧w'=w.drew.setCell a (.int .u32 1)):=by
 have A:w.drew.cell? a=some x:=by go_simp
 have G:w.drew.frozen? a=false:=by go_simp
 have N:=run_call_store (P:=aA) func321 kR kR kR kR (k:= .u32) (y:=1) A G
 go_enter_d func306,Tryz.ntmps306
 go_wp2
 go_region_calls
 all_goals (go_end0;exact rT)
theorem unlock_deferred a u w (A:w.cell? a=some (.int .i32 1))(G:w.frozen? a=false):
 CallsD aA 305 #[.pointer (some a)] u w fun e M w'=>M=u∧(e= .returned (.tuple #[])∧w'=w.setCell a (.int .i32 0)):=by
 have Q:=disable;have S:=enable;have W:=releaseMerge;have N:=run_call_add (P:=aA) func337 kR kR kR .i32 kR (y:= -1) (s:=0) A G (by simp[go_sem];rfl);have O:=run_convert_to_unsafe (P:=aA) (src:=408) (dst:=284) underlying408 a2M kR A
 go_enter_d func305,Tryz.ntmps305
 go_wp2
 go_end0
 go_wp2
 go_end0
 exact rT
theorem lock_free a w (A:w.cell? a=some (.int .i32 0))(M:w.frozen? a=false):
 Calls aA 304 #[.pointer (some a)] w fun e w'=>e= .returned (.tuple #[])∧w'=w.setCell a (.int .i32 1):=by
 have Q:=disable;have S:=enable;have W:=acquire;have N:=run_call_cas_hit (P:=aA) func332 kR kR kR .i32 kR (y:=1) A M;have G:(w.setCell a (.int .i32 1)).cell? a=some (.int .i32 1):=World.cell?_setCell_same w a _ A;have O:=run_convert_to_unsafe (P:=aA) (src:=408) (dst:=284) underlying408 a2M kR G
 go_enter func304,Tryz.ntmps304
 go_wp2
 first|go_end0|(simp only[Exit.inBlock,Exit.then];refine bodyPost_ret (results_none rfl _ _ _) rfl ?_)|refine bodyPost_ret (results_none rfl _ _ _) rfl ?_
 go_wp2
 go_end0
 exact rT
theorem b0S a x w (A:w.cell? a=some (.int .u32 x)):
 Calls aA 277 #[.pointer (some a)] w fun e w'=>e= .returned (.bool (x != 0))∧w'=w:=by
 have G:=run_call_load (P:=aA) func303 kR kR kR .u32 kR A
 go_enter func277,Tryz.ntmps277
 go_wp2
 go_ret
 exact rT
