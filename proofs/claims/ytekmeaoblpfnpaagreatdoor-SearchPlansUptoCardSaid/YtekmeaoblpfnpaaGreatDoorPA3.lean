/-
  Own texts on the laws of the seat, joined: the logic, and contracts of functions. Conditions: none.
-/
import Derived.Test.YtekmeaoblpfnpaaGreatDoorNmA
import Derived.Test.YtekmeaoblpfnpaaGreatDoorPA2
import Derived.Maps.RangeRun
import Derived.Laws.StructEq
import Derived.Test.YtekmeaoblpfnpaaGreatDoorProg
import Derived.Test.YtekmeaoblpfnpaaGreatDoorChecked
import Derived.Test.YtekmeaoblpfnpaaGreatDoorCards
import Derived.Test.YtekmeaoblpfnpaaGreatDoorTie
import Derived.ProofKit
import Derived.OpenShut
import Derived.Lay
import Derived.Deep.DeepHandedRow
import Derived.WideKeyArr2
import Derived.Carry
import Derived.Tactics
import Derived.Tactics2
import Derived.Laws.Pointers
import Derived.Laws.LoneSync
import Derived.RegionTactic
import Derived.RegionCalls
import Derived.ChangeAlike
set_option linter.all false
set_option maxRecDepth 100000
set_option maxHeartbeats 40000000
open Go.Proofs.Tryz renaming prog -> aA
open Go.Proofs.YtekmeaoblpfnpaaGreatDoor.Rows renaming uptoBulk -> aB,uptoBulkAll -> dK
open List renaming mem_map_of_mem -> aC,map_cons -> aF,getElem?_eq_some_iff -> aH,getElem?_map -> aN,mem_map -> aO,filter_sublist -> aP,map_map -> aQ,nodup_append -> aT,mem_of_getElem? -> aW,mem_append -> aX,map_append -> aY,getElem?_range -> aZ,mem_singleton -> bG,mem_cons -> bH,sum_cons -> bI,length_range -> bJ,mem_toArray -> bM,getElem?_take -> dB,append_assoc -> dF,ext_getElem? -> dG,nodup_cons -> dL,mem_filter -> dM,map_nil -> dV
open Go.Result renaming andThen_ok -> aG
open Go.Instr renaming checkKey -> aI,findKey -> cO,sameBits -> dQ
open Go.Sem renaming run_bind -> aJ,run_pure -> cZ,run -> dN
open Option.some renaming injEq -> aK
open Go.DataW renaming trodStep -> aS,Trod -> bY,trod -> bZ,TrodAll -> dS
open Option renaming map_eq_some_iff -> aU,bind_eq_some_iff -> bQ,map_some -> bU
open Go.World renaming laidAll -> aV,cell? -> dY
open Nat renaming blt -> bC,zero_le -> bD,le_refl -> bW
open Go.Oper renaming upon -> bF,wp -> dD
open Go.Op renaming equalIn -> bK
open Go.Input renaming okWide_of_okWideB -> bP
open Go.Builtin renaming delete_ -> bT,len_ -> dU
open Go.Sx.World renaming block -> bV
open Bool renaming false_eq_true -> dA,noConfusion -> dJ
open Function renaming comp_def -> dH
open Array renaming mem_filter -> dI,contains -> dP
open Go.Value renaming oneCell' -> dR,okWide -> dW
open Go.Addr renaming add_lit -> dX
open Go.Sx.Keeps renaming k -> dZ
namespace Go.Sx
open Go
section
variable {cx:Cx} {Q:Qt} {o:Oper} {e:Env} {I:Heap} {H:HL} {C:Ct} {S:World→Prop} {α:Type} [BEq α] [LawfulBEq α]
def WT (m since:Nat) (vis:ML α) (last:Nat):Obj:= .mapIter (some m) since (vis.map (·.2.2)).toArray last
omit [BEq α] [LawfulBEq α] in
theorem NV{T K E d m c:Nat}{x:Operand}{kv:α→Value}{l:ML α}(W:o.op= .range T x)(Z:o.dst=some d)(hn:bC d cx.n=true)(hx:ev e x=some (.map (some m)))(hu:cx.P.underlying T=some (.map K E))(hb:yZ (SS I H) m (zY kv l c))
 (k:∀b,cx.w0.heap.size≤b→C ((d,ptr b 0)::e) I ((b,WT m c ([]:ML α) c)::H)):DJ cx Q o e I H C:=by
 intro _ hK a w O N;unfold dD;have:(execOp a.eval o).run cx.P w= .ok (.value (ptr w.heap.size 0)) { w with heap:=w.heap.push (WT m c ([]:ML α) c) }:=by
  have hr:=run_range_map (P:=cx.P) w T K E m _ c hu (hb w N.ss);simp only[execOp,W,O.eval hx,aJ,hr,aG,cZ];rfl
 rw[this];simp only[bF,Z];exact hK _ _ _ (k _ N.size) _ _ (O.put hn) (N.alloc _)
theorem LQ{T K E d x}(W:o.op= .range T x)(Z:o.dst=some d)(hn:bC d cx.n=true)(hx:ev e x=some (.map none))(hu:cx.P.underlying T=some (.map K E))
 (k:∀b,cx.w0.heap.size≤b→C ((d,ptr b 0)::e) I ((b,.mapIter none 0 #[] 0)::H)):DJ cx Q o e I H C:=by
 intro _ hK a w N O;unfold dD;have:(execOp a.eval o).run cx.P w= .ok (.value (ptr w.heap.size 0)) { w with heap:=w.heap.push (.mapIter none 0 #[] 0) }:=by
  have hr:=run_range_nilMap (P:=cx.P) w T K E hu;simp only[execOp,W,N.eval hx,aJ,hr,aG,cZ];rfl
 rw[this];simp only[bF,Z];exact hK _ _ _ (k _ O.size) _ _ (N.put hn) (O.alloc _)
theorem MV{d b x}(i:Nat)(W:o.op= .next x false)(Z:o.dst=some d)(hn:bC d cx.n=true)(hx:ev e x=some (ptr b 0))(hH:H[i]?=some (b,.mapIter none 0 #[] 0))
 (k:C ((d,.tuple #[.bool false])::e) I H):DJ cx Q o e I H C:=by
 intro _ hK a w N O;unfold dD;have hb:=O.own _ (aW hH);have:(execOp a.eval o).run cx.P w= .ok (.value (.tuple #[.bool false])) w:=by
  simp only[execOp,W,N.eval hx,Instr.next,getObj,aJ,dN,hb,Result.andThen];rfl
 rw[this];simp only[bF,Z];exact hK _ _ _ k _ _ (N.put hn) O
omit [BEq α] [LawfulBEq α] in
theorem QJ{d b m N last c x kv l vis rest} i (ho:o.op= .next x false)(hd:o.dst=some d)(hn:bC d cx.n=true)(hx:ev e x=some (ptr b 0))(hH:H[i]?=some (b,WT m N vis last))(hm:yZ (SS I H) m (zY kv l c))
 (a8:∀p∈l,p.2.2<N)(aa:N≤last)(ab:(l.map (·.2.2)).Nodup)(Z:(vis++rest).Perm l)
 (k1:∀(p:α×Value×Nat) (r:ML α) (H':HL),rest.Perm (p::r)→(vis++[p]++r).Perm l→AU H i (b,WT m N (vis++[p]) c) H'→C ((d,.tuple #[.bool true,kv p.1,p.2.1])::e) I H')
 (k0:rest=[]→C ((d,.tuple #[.bool false])::e) I H):DJ cx Q o e I H C:=by
 intro _ hK a w ha hs;unfold dD;have hb:=hs.own _ (aW hH);have ac:=hm w hs.ss;have a9:=run_next_at (P:=cx.P) w o.type b m N last _ _ c hb ac (by
  intro y hy;simp only[aO]at hy;obtain⟨p,Z,rfl⟩:=hy;exact a8 p Z) aa
 have W:((vis++rest).map (·.2.2)).Nodup:=(Z.map _).nodup_iff.2 ab;have a1:(execOp a.eval o).run cx.P w=((Instr.next (.pointer (some ⟨b,0,none⟩)) false o.type).run cx.P w).andThen fun v w'=> .ok (.value v) w':=by
  simp only[execOp,ho,ha.eval hx,aJ];rfl
 have a6:∀p:α×Value×Nat,p∈l→((vis.map (·.2.2)).toArray.contains p.2.2=true↔p∈vis):=fun p O=>by
  have ad:p∈vis++rest:=Z.mem_iff.2 O;rw[Array.contains_iff_mem];simp only[bM,aO];constructor
  ·rintro⟨q,hq,he⟩;rcases aX.1 ad with h|h
   ·exact h
   rw[aY,aT]at W;exact absurd he (W.2.2 _ (aC hq) _ (aC h))
  exact fun h=>⟨p,h,rfl⟩
 rcases a9 with⟨h0,hr⟩|⟨en,ae,w1,af,hr⟩
 ·rw[a1,hr];simp only[aG,bF,hd];refine hK _ _ _ (k0 ?_) _ _ (ha.put hn) hs;rcases rest with _|⟨p,r⟩
  ·rfl
  exfalso
  have O:p∈l:=Z.mem_iff.1 (List.mem_append_right _ (.head _));have a3:p ∉ vis:=fun h=>by
   rw[aY,aT]at W;exact W.2.2 _ (aC h) _ (aC (.head _)) rfl
  have:IV kv p∈leftOf (l.map (IV kv)).toArray (vis.map (·.2.2)).toArray:=by
   unfold leftOf;rw[dI];refine⟨by simp only[bM];exact aC O,?_⟩;have:=(not_congr (a6 p O)).2 a3;simp only[Bool.not_eq_true]at this;show(!dP _ p.2.2)=true;rw[this];rfl
  have h1:=Array.eq_empty_of_size_eq_zero h0;rw[h1]at this;simp at this
 rw[a1,hr];simp only[aG,bF,hd];have a0:en∈leftOf (l.map (IV kv)).toArray (vis.map (·.2.2)).toArray:=by simpa using ae
 unfold leftOf at a0;rw[dI]at a0;obtain⟨a7,a4⟩:=a0;simp only[bM,aO]at a7;obtain⟨p,O,rfl⟩:=a7;have a3:p ∉ vis:=fun h=>by
  have:=(a6 p O).2 h
  change (!dP _ p.2.2)=true at a4
  rw[this]at a4;cases a4
 have ag:p∈rest:=(aX.1 (Z.mem_iff.2 O)).resolve_left a3;obtain⟨r1,r2,ah⟩:=List.append_of_mem ag;have a2:rest.Perm (p::(r1++r2)):=by rw[ah];exact List.perm_middle
 have a5:(vis++[p]++(r1++r2)).Perm l:=by
  refine List.Perm.trans ?_ Z;rw[dF];exact List.Perm.append_left _ a2.symm
 have hset:AU H i (b,WT m N (vis++[p]) c) (H.set i (b,WT m N (vis++[p]) c)):=⟨(aH.1 hH).1,rfl⟩;have hk:=k1 p (r1++r2) _ a2 a5 hset;have ai:St cx.w0 cx.D cx.I0 I (H.set i (b,WT m N (vis++[p]) c)) (ChangeMaps.setBlock w1 b (.mapIter (some m) N ((vis.map (·.2.2)).toArray.push p.2.2) c)):=by
  have he:(.mapIter (some m) N ((vis.map (·.2.2)).toArray.push p.2.2) c:Obj)=WT m N (vis++[p]) c:=by simp[WT]
  rw[show(IV kv p).born=p.2.2 from rfl]at *;rw[he];rcases af with rfl|rfl
  ·exact hs.block hH hset
  exact(hs.drewN (w.drawn+1)).block hH hset
 exact hK _ _ _ hk _ _ (ha.put hn) ai
omit [LawfulBEq α] in
theorem JX{T K E m x}{kv:α→Value}{a z}{N:Value}(ho:o.op= .lookup T m x false)(hm:ev e m=some (.map none))(hx:ev e x=some N)(O:N=kv a)(hT:cx.P.underlying T=some (.map K E))(W:ET cx.P K kv)(hz:∀w,(zeroValue E).run cx.P w= .ok z w):BO cx o e S z:=by
 intro w0 w Z _;subst O;have h1:=W.1 a [] w;have h2:(cO K (kv a) []).run cx.P w= .ok none w:=h1;simp[execOp,ho,Z.eval hm,Z.eval hx,Instr.lookup,run_underlying hT,W.2.1,h2,hz]
omit [BEq α] [LawfulBEq α] in
theorem MK{x:Operand}{T K E b c:Nat}{kv:α→Value}{l:ML α}(N:o.op= .call ⟨.builtin .len,#[x],#[T]⟩)(O:ev e x=some (.map (some b)))(W:cx.P.underlying T=some (.map K E))(Z:yZ S b (zY kv l c)):BO cx o e S (i64 (l.length:Int)):=by
 intro a w ha hs;have h:=Z w hs;simp[execOp,N,resolve,invoke,builtin,dU,ha.eval O,run_underlying W,goInt,getObj,dN,h,zY]
theorem ZM{x T K E}(N:o.op= .call ⟨.builtin .len,#[x],#[T]⟩)(O:ev e x=some (.map none))(W:cx.P.underlying T=some (.map K E)):BO cx o e S (i64 0):=by
 intro a w Z _;simp[execOp,N,resolve,invoke,builtin,dU,Z.eval O,run_underlying W,goInt]
end
section
variable {P:Program} {K i:TypeId} {f0 f1:Field}
theorem a0x{xs t off v w}(N:∀w,(isAgg t).run P w= .ok false w)(O:xs[off]?=some v):(part t xs off).run P w= .ok v w:=by
 simp[part,N,O]
theorem a0L(W:P.underlying K=some (.struct #[f0,f1]))(hp:P.stoodInHeld K=false)(n0:f0.name≠ "_")(n1:f1.name≠ "_")(o0:f0.offset=0)(o1:f1.offset=1)(a0:∀w,(isAgg f0.type).run P w= .ok false w)(a1:∀w,(isAgg f1.type).run P w= .ok false w)
 {x0 x1 y0 y1 N O} w (e0:∀d w,(bK (d+1) f0.type x0 y0).run P w= .ok N w)(Z:∀d w,(bK (d+1) f1.type x1 y1).run P w= .ok O w):∀d,(bK (d+2) K (.agg #[x0,x1]) (.agg #[y0,y1])).run P w= .ok (N && O) w:=by
 intro d;have hf:P.fieldsOf K= #[f0,f1]:=by simp[Program.fieldsOf,W]
 rw[run_equalIn_struct w (d+1) K _ _ (by rw[hf];exact W) hp,hf];have p0:∀(a b:Value) w,(part f0.type #[a,b] f0.offset).run P w= .ok a w:=fun a b w=>a0x a0 (by rw[o0];rfl);have p1:∀(a b:Value) w,(part f1.type #[a,b] f1.offset).run P w= .ok b w:=fun a b w=>a0x a1 (by rw[o1];rfl);simp only[Op.eqFields,n0,n1,ne_eq,not_false_eq_true,if_true,aJ,p0,p1,e0,Z,aG];cases N
 ·simp
 cases O<;>simp[aJ,p1,Z]
theorem a4u(W:P.underlying K=some (.struct #[f0,f1]))(Z:f0.name≠ "_")(n1:f1.name≠ "_")(o0:f0.offset=0)(o1:f1.offset=1)(a0:∀w,(isAgg f0.type).run P w= .ok false w)(a1:∀w,(isAgg f1.type).run P w= .ok false w)
 {x0 x1} b w (e0:∀d w,(aI b (d+1) f0.type x0).run P w= .ok () w)(e1:∀d w,(aI b (d+1) f1.type x1).run P w= .ok () w):∀d,(aI b (d+2) K (.agg #[x0,x1])).run P w= .ok () w:=by
 intro d;have p0:∀w,(part f0.type #[x0,x1] f0.offset).run P w= .ok x0 w:=fun w=>a0x a0 (by rw[o0];rfl);have p1:∀w,(part f1.type #[x0,x1] f1.offset).run P w= .ok x1 w:=fun w=>a0x a1 (by rw[o1];rfl);have N:=e0 d;have O:=e1 d;generalize hc:aI b (d+1)=ck at N O;rw[show d+2=(d+1)+1 from rfl,aI];rw[hc];simp[aJ,run_underlying W,Z,n1,p0,p1,N,O]
theorem a8t{b t k}(N:P.underlying t=some (.int k)) a d w:(aI b (d+1) t (.int k a)).run P w= .ok () w:=by simp[aI,run_underlying N]
theorem ET.b5p(Z:P.underlying K=some (.struct #[f0,f1]))(hp:P.stoodInHeld K=false)(n0:f0.name≠ "_")(n1:f1.name≠ "_")(o0:f0.offset=0)(o1:f1.offset=1)(t0:f0.type=i)(N:f1.type=i)(O:P.underlying i=some (.int .i64))(W:∀w,(isAgg i).run P w= .ok false w):
 ET P K (fun a:Int×Int=> .agg #[i64 a.1,i64 a.2]):=by
 subst t0;refine ET.equal Z (fun a b=>rfl) (fun a b w=>?_) (fun b a w=>?_) (fun a=>?_)
 ·have h:=a0L Z hp n0 n1 o0 o1 W (N▸W) (x0:=i64 a.1) (x1:=i64 a.2) (y0:=i64 b.1) (y1:=i64 b.2) w (fun d w=>run_equalIn_int w d _ .i64 .i64 a.1 b.1 O) (fun d w=>run_equalIn_int w d _ .i64 .i64 a.2 b.2 (N▸O)) 9998;exact h
 ·exact a4u Z n0 n1 o0 o1 W (N▸W) b w (fun d w=>a8t O _ d w) (fun d w=>a8t (N▸O) _ d w) 9998
 show dQ (9999+1) _ _=true;simp[dQ]
end
section
variable {α:Type} [BEq α] [LawfulBEq α]
def MS (l:ML α) (c:Nat):Prop:=(l.map (·.1)).Nodup∧(l.map (·.2.2)).Nodup∧∀p∈l,p.2.2<c
omit [BEq α] [LawfulBEq α] in
theorem MS.nil:MS ([]:ML α) 0:=⟨.nil,.nil,fun _ h=>by simp at h⟩
theorem b1O{l:ML α}{a:α}(h:(l.map (·.1)).Nodup){v:Value}:AA l a=some v↔∃n,(a,v,n)∈l:=by
 induction l with
 |nil=>simp[AA]
 |cons p r O=>
  obtain⟨b,u,n⟩:=p;rw[aF,dL]at h;unfold AA
  by_cases hab:a=b
  ·subst hab;simp only[BEq.rfl,if_true,aK];constructor
   ·rintro rfl;exact⟨n,.head _⟩
   rintro⟨k,N⟩;rcases bH.1 N with e|e
   ·exact(zC (fun x=>x.2.1) e).symm
   exact absurd (aC (f:=(·.1)) e) h.1
  rw[zD (by simpa using hab),O h.2];constructor
  ·rintro⟨k,N⟩;exact⟨k,.tail _ N⟩
  rintro⟨k,N⟩;rcases bH.1 N with e|e
  ·exact absurd (zC (·.1) e) hab
  exact⟨k,e⟩
theorem IW{l}{a:α}:AA l a=none↔a ∉ l.map (·.1):=by
 induction l with
 |nil=>simp[AA]
 |cons p r N=>
  obtain⟨b,u,n⟩:=p;unfold AA
  by_cases hab:a=b
  ·subst hab;simp
  rw[zD (by simpa using hab),N];simp[hab]
theorem OM l (a b:α) v c:AA (BD l a v c) b=if b == a then some v else AA l b:=by
 induction l with
 |nil=>unfold BD AA;by_cases h:b=a<;>simp[h,AA]
 |cons p r O=>
  obtain⟨d,u,n⟩:=p;unfold BD
  by_cases had:a=d
  ·subst had;rw[zF sI]
   by_cases h:b=a
   ·subst h;simp[AA]
   have N:(b == a)=false:=by simpa using h
   simp[AA,N]
  rw[zD (by simpa using had)]
  by_cases hbd:b=d
  ·subst hbd;have N:(b == a)=false:=by simpa using fun e:b=a=>had e.symm
   simp[AA,N]
  have N:(b == d)=false:=by simpa using hbd
  simp only[AA,N,dA,if_false,O]
theorem b7A{l:ML α}{a:α}{v:Value}{c:Nat}:(BD l a v c).map (·.1)=if a∈l.map (·.1)then l.map (·.1)else l.map (·.1)++[a]:=by
 induction l with
 |nil=>simp[BD]
 |cons p r N=>
  obtain⟨d,u,n⟩:=p;unfold BD
  by_cases had:a=d
  ·subst had;simp
  rw[zD (by simpa using had),aF,N]
  by_cases h:a∈r.map (·.1)
  ·simp[h]
  rw[zD h,zD (by simp only[aF,bH,not_or];exact⟨had,h⟩)];rfl
theorem c1C{l}{a x:α}{v c}:x∈(BD l a v c).map (·.1)↔x∈l.map (·.1)∨x=a:=by
 rw[b7A]
 split
 ·rename_i h
  exact⟨.inl,fun g=>g.elim id (fun e=>e▸h)⟩
 simp
theorem MS.set{l:ML α}{c:Nat}(h:MS l c)(a:α)(v:Value):MS (BD l a v c) (EN l a c):=by
 obtain⟨h1,h2,h3⟩:=h;cases hm:AA l a with
 |none=>
  obtain⟨-,W⟩:=TK l 0 hm;have ha:=IW.1 hm;rw[W,EN,hm];refine⟨?_,?_,?_⟩
  ·rw[aY,aT];refine⟨h1,sI,fun x Z y N e=>?_⟩;rw[aF,dV,bG]at N;exact ha (by have:x=a:=e.trans N;exact this▸Z)
  ·rw[aY,aT];refine⟨h2,sI,fun x Z y N e=>?_⟩;rw[aF,dV,bG]at N;obtain⟨p,O,rfl⟩:=aO.1 Z;have:=h3 p O;dsimp only at N e;omega
  intro p O;simp only[Option.isSome_none,dA,if_false];rcases aX.1 O with g|g
  ·exact Nat.lt_succ_of_lt (h3 p g)
  rw[bG]at g;subst g;exact Nat.lt_succ_self _
 |some u=>
  obtain⟨j,u',n,-,hj,W⟩:=a0v l 0 hm;have he:∀f:α×Value×Nat→Nat ⊕ α,f (a,v,n)=f (a,u',n)→(l.set j (a,v,n)).map f=l.map f:=fun f hf=>by
   apply dG
   intro i;rw[aN,aN,List.getElem?_set]
   by_cases hi:j=i
   ·subst hi;rw[zF rfl,hj,zF (aH.1 hj).1];simp[hf]
   rw[zD hi]
  have e1:(l.set j (a,v,n)).map (·.1)=l.map (·.1):=by
   have:=zC (List.map (fun s:Nat ⊕ α=>match s with| .inr x=>x| .inl _=>a)) (he (fun p=> .inr p.1) rfl);simpa[aQ,dH]using this
  have e2:(l.set j (a,v,n)).map (·.2.2)=l.map (·.2.2):=by
   have:=zC (List.map (fun s:Nat ⊕ α=>match s with| .inl x=>x| .inr _=>0)) (he (fun p=> .inl p.2.2) rfl);simpa[aQ,dH]using this
  rw[W,EN,hm];refine⟨by rw[e1];exact h1,by rw[e2];exact h2,fun p O=>?_⟩;have:p.2.2∈l.map (·.2.2):=e2▸aC O;obtain⟨q,hq,e⟩:=aO.1 this;exact e▸h3 q hq
end
section
variable {cx:Cx} {Q:Qt} {o:Oper} {e:Env} {S:World→Prop} {α:Type} [BEq α] [LawfulBEq α]
omit [BEq α] [LawfulBEq α] in
theorem VY{b m N c x kv}{l vis:ML α}{p:α×Value×Nat}(W:o.op= .entry x)(Z:ev e x=some (ptr b 0))(hb:yZ S b (WT m N (vis++[p]) c))(hm:yZ S m (zY kv l c))(hp:p∈l)(hn:(l.map (·.2.2)).Nodup):BO cx o e S (.tuple #[kv p.1,p.2.1]):=by
 intro w0 w ha O;have h1:=hb w O;have h2:=hm w O;have h3:w.heap[b]?=some (.mapIter (some m) N ((vis.map (·.2.2)).toArray.push (IV kv p).born) c):=by
  rw[h1];simp[WT,IV]
 have hr:=run_entry_at (P:=cx.P) w b m N _ _ c (IV kv p) h3 h2 (by simp only[aO];exact⟨p,hp,rfl⟩) (by
  rw[aQ];exact hn)
 have:(execOp w0.eval o).run cx.P w= .ok (.value (.tuple #[kv p.1,p.2.1])) w:=by
  simp only[execOp,W,ha.eval Z,aJ,hr,aG,cZ]
 exact this
end
section
variable {α:Type} [BEq α] [LawfulBEq α]
def GL (l:ML α) (a:α):ML α:=match l with
 |[]=>[]
 |(b,v,n)::r=>if a == b then r else(b,v,n)::GL r a
omit [LawfulBEq α] in
theorem b0a{a}:∀(l:ML α) (i:Nat),(midx l a i=none∧GL l a=l)∨∃j v,midx l a i=some (i+j,v)∧GL l a=l.eraseIdx j∧j<l.length
 |[],_=> .inl rT
 |(b,v,n)::r,i=>by
  unfold midx GL
  by_cases h:(a == b)=true
  ·rw[zF h,zF h];exact .inr ⟨0,v,rfl,rfl,sI⟩
  rw[zD h,zD h];rcases b0a (a:=a) r (i+1)with⟨h1,h2⟩|⟨j,u,h1,h2,h3⟩
  ·exact .inl ⟨h1,by rw[h2]⟩
  refine .inr ⟨j+1,u,?_,by rw[h2];rfl,by simpa using h3⟩;rw[h1,Nat.add_assoc,Nat.add_comm 1 j]
theorem LM{a}:∀{l:ML α},(l.map (·.1)).Nodup→GL l a=l.filter fun p=> !(p.1 == a)
 |[],_=>rfl
 |(b,v,n)::r,h=>by
  rw[aF,dL]at h;unfold GL
  by_cases hb:(a == b)=true
  ·have O:=zB hb;subst O;rw[zF hb,List.filter_cons_of_neg sI];rw[List.filter_eq_self.2];intro p W;have:p.1≠a:=fun g=>h.1 (aO.2 ⟨p,W,g⟩);simpa using this
  have N:(b == a)=false:=by
   rw[Bool.eq_false_iff];intro g;exact hb (by rw[zB g];simp)
  rw[zD hb,List.filter_cons_of_pos (by simp[N]),LM h.2]
theorem MS.del{l:ML α}{c:Nat}(h:MS l c)(a:α):MS (GL l a) c:=by
 rw[LM h.1];refine⟨h.1.sublist (aP.map _),h.2.1.sublist (aP.map _),fun p N=>h.2.2 p (dM.1 N).1⟩
theorem a2V{l:ML α}(h:(l.map (·.1)).Nodup)(a b:α):AA (GL l a) b=if b == a then none else AA l b:=by
 by_cases hb:(b == a)=true
 ·rw[zF hb,IW,LM h];have:=zB hb;subst this;simp
 rw[zD hb];cases hm:AA l b with
 |none=>
  rw[IW]at hm ⊢;rw[LM h];exact fun g=>hm ((aP.map _).subset g)
 |some v=>
  have h2:((GL l a).map (·.1)).Nodup:=by rw[LM h];exact h.sublist (aP.map _)
  rw[b1O h]at hm;obtain⟨n,N⟩:=hm;rw[b1O h2,LM h];exact⟨n,dM.2 ⟨N,by simpa using hb⟩⟩
variable {cx:Cx} {Q:Qt} {e:Env} {I:Heap} {H:HL} {o:Oper} {C:Ct} {S:World→Prop}
omit [LawfulBEq α] in
theorem b4P{P:Program}{T U K E b c:Nat}{t:TypeId}{kv:α→Value}{l:ML α}{a:α}{w:World}(O:P.underlying T=some (.map K E))(hk:ET P K kv)(W:w.heap[b]?=some (zY kv l c)):
 (bT #[T,U] t #[.map (some b),kv a]).run P w= .ok (.tuple #[]) (bV w b (zY kv (GL l a) c)):=by
 obtain⟨Z,hc,_⟩:=hk;have hg:(getObj b).run P w= .ok (zY kv l c) w:=by simp[getObj,dN,W,zY]
 have hset:∀o',(setObj b o').run P w= .ok () (bV w b o'):=fun o'=>by simp[setObj,dN,W,bV,zY]
 rcases b0a (a:=a) l 0 with⟨h1,h2⟩|⟨j,v,h1,h2,h3⟩
 ·have N:(cO K (kv a) (l.map (IV kv))).run P w= .ok none w:=by rw[Z,h1]
  simp[bT,run_underlying O,hg,zY,hc,N,hset,h2]
 rw[Nat.zero_add]at h1;have he:∀(q:ML α) (k:Nat),(q.map (IV kv)).eraseIdx k=(q.eraseIdx k).map (IV kv):=by
  intro q
  induction q with
  |nil=>intro k;rfl
  | cons x r ih=>intro k;cases k with
    |zero=>rfl
    |succ k=>simp[ih]
 have N:(cO K (kv a) (l.map (IV kv))).run P w= .ok (some (j,v)) w:=by rw[Z,h1]
 have h5:(l.map (IV kv)).toArray.eraseIdxIfInBounds j=(((l.eraseIdx j).map (IV kv)).toArray:Array MapEntry):=by
  rw[Array.eraseIdxIfInBounds,dif_pos (by simpa using h3),List.eraseIdx_toArray,he]
 simp[bT,run_underlying O,hg,zY,hc,N,hset,h2,he]
omit [LawfulBEq α] in
theorem UK{T U K E b c:Nat}{m x:Operand}{kv:α→Value}{l a}{O:Value}{H'}(i:Nat)(ho:o.op= .call ⟨.builtin .delete,#[m,x],#[T,U]⟩)(hd:o.dst=none)(hm:ev e m=some (.map (some b)))(hx:ev e x=some O)(W:O=kv a)(hT:cx.P.underlying T=some (.map K E))(hK:ET cx.P K kv)
 (Z:H[i]?=some (b,zY kv l c))(a0:AU H i (b,zY kv (GL l a) c) H')(kk:C e I H'):DJ cx Q o e I H C:=by
 intro _ a1 w0 w N hs;unfold dD;subst W;have hb:=hs.own _ (aW Z);have hr:=b4P (U:=U) (t:=o.type) (a:=a) hT hK hb;have:(execOp w0.eval o).run cx.P w= .ok (.value (.tuple #[])) (bV w b (zY kv (GL l a) c)):=by
  simp[execOp,ho,resolve,invoke,builtin,N.eval hm,N.eval hx,hr]
 rw[this];simp only[bF,hd];exact a1 _ _ _ kk _ _ N.WE (hs.block Z a0)
end
section
variable {cx:Cx} {o:Oper} {e:Env} {S:World→Prop}
theorem b4R{P w T K E} p (N:P.underlying T=some (.map K E)):(binOp .neq T (.map p) (.map none)).run P w= .ok (.bool p.isSome) w∧(binOp .eql T (.map p) (.map none)).run P w= .ok (.bool p.isNone) w:=by
 have h1:∀d:Nat,(bK (d+1) T (.map p) (.map none)).run P w= .ok p.isNone w:=fun d=>by cases p<;>simp[bK,run_underlying N]
 simp only[binOp];cases p<;>simp[Op.equal,Op.maxDepth,h1 9999]
theorem b7X{x y T U K E} p (O:o.op= .binOp .eql T x y U)(W:ev e x=some (.map p))(Z:ev e y=some (.map none))(hT:cx.P.underlying T=some (.map K E)):BO cx o e S (.bool p.isNone):=by
 intro a w N _;have hb:=(b4R (P:=cx.P) (w:=w) p hT).2;have hg:eqGuard .eql T x y (.map p) (.map none)=pure ():=rfl;simp[execOp,O,N.eval W,N.eval Z,hb,hg]
end
end Go.Sx
namespace Go.Sx
open Go Go.Proofs
structure Wr (A:Prop):Prop where
  w:A
structure Tb (α:Type) (P:Nat→α→Prop) where
  f:Nat→Option α
  h:∀n a,f n=some a→P n a
noncomputable def TL {α : Type} {P : Nat → α → Prop} (k : Nat) {a : α} (h : P k a) : Tb α P := ⟨fun n => bif Nat.beq n k then some a else none, fun n b e => by
  cases hk : Nat.beq n k with
  | true => rw [hk] at e; cases e; rw [Nat.eq_of_beq_eq_true hk]; exact h
  | false => rw [hk] at e; cases e⟩
noncomputable def TN {α:Type} {P:Nat→α→Prop} (k:Nat) (a b:Tb α P):Tb α P:=⟨fun n=>bif Nat.ble n k then a.f n else b.f n,fun n c e=>by
 cases hk:Nat.ble n k with
 |true=>rw[hk]at e;exact a.h n c e
 |false=>rw[hk]at e;exact b.h n c e⟩
noncomputable def tbU:Tb TypeDesc (fun n a=>Go.Proofs.Tryz.prog.underlying n=some a):=TN 192 (TN 76 (TN 30 (TN 20 (TN 4 (TN 0 (TL 0 Tryz.underlying0) (TN 3 (TL 3 Tryz.underlying3) (TL 4 Tryz.underlying4))) (TN 5 (TL 5 Tryz.underlying5) (TN 9 (TL 9 Tryz.underlying9) (TL 20 Tryz.underlying20)))) (TN 23 (TN 21 (TL 21 Tryz.underlying21) (TN 22 (TL 22 Tryz.underlying22) (TL 23 Tryz.underlying23))) (TN 26 (TN 24 (TL 24 Tryz.underlying24) (TL 26 Tryz.underlying26)) (TN 27 (TL 27 Tryz.underlying27) (TL 30 Tryz.underlying30))))) (TN 54 (TN 36 (TN 32 (TL 32 Tryz.underlying32) (TN 35 (TL 35 Tryz.underlying35) (TL 36 Tryz.underlying36))) (TN 50 (TN 48 (TL 48 Tryz.underlying48) (TL 50 Tryz.underlying50)) (TN 51 (TL 51 Tryz.underlying51) (TL 54 Tryz.underlying54)))) (TN 59 (TN 55 (TL 55 Tryz.underlying55) (TN 57 (TL 57 Tryz.underlying57) (TL 59 Tryz.underlying59))) (TN 68 (TN 62 (TL 62 Tryz.underlying62) (TL 68 Tryz.underlying68)) (TN 69 (TL 69 Tryz.underlying69) (TL 76 Tryz.underlying76)))))) (TN 123 (TN 106 (TN 87 (TN 80 (TL 80 Tryz.underlying80) (TN 82 (TL 82 Tryz.underlying82) (TL 87 Tryz.underlying87))) (TN 91 (TN 90 (TL 90 Tryz.underlying90) (TL 91 Tryz.underlying91)) (TN 93 (TL 93 Tryz.underlying93) (TL 106 Tryz.underlying106)))) (TN 112 (TN 108 (TL 108 Tryz.underlying108) (TN 110 (TL 110 Tryz.underlying110) (TL 112 Tryz.underlying112))) (TN 118 (TN 114 (TL 114 Tryz.underlying114) (TL 118 Tryz.underlying118)) (TN 120 (TL 120 Tryz.underlying120) (TL 123 Tryz.underlying123))))) (TN 161 (TN 142 (TN 128 (TL 128 Tryz.underlying128) (TN 140 (TL 140 Tryz.underlying140) (TL 142 Tryz.underlying142))) (TN 152 (TN 149 (TL 149 Tryz.underlying149) (TL 152 Tryz.underlying152)) (TN 159 (TL 159 Tryz.underlying159) (TL 161 Tryz.underlying161)))) (TN 176 (TN 163 (TL 163 Tryz.underlying163) (TN 168 (TL 168 Tryz.underlying168) (TL 176 Tryz.underlying176))) (TN 183 (TN 180 (TL 180 Tryz.underlying180) (TL 183 Tryz.underlying183)) (TN 188 (TL 188 Tryz.underlying188) (TL 192 Tryz.underlying192))))))) (TN 312 (TN 240 (TN 213 (TN 202 (TN 197 (TL 197 Tryz.underlying197) (TN 200 (TL 200 Tryz.underlying200) (TL 202 Tryz.underlying202))) (TN 207 (TN 204 (TL 204 Tryz.underlying204) (TL 207 Tryz.underlying207)) (TN 208 (TL 208 Tryz.underlying208) (TL 213 Tryz.underlying213)))) (TN 228 (TN 215 (TL 215 Tryz.underlying215) (TN 225 (TL 225 Tryz.underlying225) (TL 228 Tryz.underlying228))) (TN 232 (TN 231 (TL 231 Tryz.underlying231) (TL 232 Tryz.underlying232)) (TN 238 (TL 238 Tryz.underlying238) (TL 240 Tryz.underlying240))))) (TN 276 (TN 262 (TN 246 (TL 246 Tryz.underlying246) (TN 254 (TL 254 Tryz.underlying254) (TL 262 Tryz.underlying262))) (TN 270 (TN 268 (TL 268 Tryz.underlying268) (TL 270 Tryz.underlying270)) (TN 272 (TL 272 Tryz.underlying272) (TL 276 Tryz.underlying276)))) (TN 284 (TN 279 (TL 279 Tryz.underlying279) (TN 281 (TL 281 Tryz.underlying281) (TL 284 Tryz.underlying284))) (TN 304 (TN 293 (TL 293 Tryz.underlying293) (TL 304 Tryz.underlying304)) (TN 308 (TL 308 Tryz.underlying308) (TL 312 Tryz.underlying312)))))) (TN 367 (TN 340 (TN 324 (TN 313 (TL 313 Tryz.underlying313) (TN 316 (TL 316 Tryz.underlying316) (TL 324 Tryz.underlying324))) (TN 328 (TN 325 (TL 325 Tryz.underlying325) (TL 328 Tryz.underlying328)) (TN 338 (TL 338 Tryz.underlying338) (TL 340 Tryz.underlying340)))) (TN 351 (TN 341 (TL 341 Tryz.underlying341) (TN 349 (TL 349 Tryz.underlying349) (TL 351 Tryz.underlying351))) (TN 364 (TN 362 (TL 362 Tryz.underlying362) (TL 364 Tryz.underlying364)) (TN 365 (TL 365 Tryz.underlying365) (TL 367 Tryz.underlying367))))) (TN 394 (TN 373 (TN 371 (TL 371 Tryz.underlying371) (TN 372 (TL 372 Tryz.underlying372) (TL 373 Tryz.underlying373))) (TN 391 (TN 390 (TL 390 Tryz.underlying390) (TL 391 Tryz.underlying391)) (TN 393 (TL 393 Tryz.underlying393) (TL 394 Tryz.underlying394)))) (TN 402 (TN 396 (TL 396 Tryz.underlying396) (TN 399 (TL 399 Tryz.underlying399) (TL 402 Tryz.underlying402))) (TN 407 (TN 405 (TL 405 Tryz.underlying405) (TL 407 Tryz.underlying407)) (TN 417 (TL 417 Tryz.underlying417) (TL 418 Tryz.underlying418)))))))
noncomputable def tbS:Tb Nat (fun n a=>∀w,(sizeOf n).run Go.Proofs.Tryz.prog w= .ok a w):=TN 208 (TN 91 (TN 32 (TN 9 (TN 3 (TN 0 (TL 0 Tryz.sizeOf0) (TL 3 Tryz.sizeOf3)) (TN 4 (TL 4 Tryz.sizeOf4) (TN 5 (TL 5 Tryz.sizeOf5) (TL 9 Tryz.sizeOf9)))) (TN 23 (TN 20 (TL 20 Tryz.sizeOf20) (TN 21 (TL 21 Tryz.sizeOf21) (TL 23 Tryz.sizeOf23))) (TN 24 (TL 24 Tryz.sizeOf24) (TN 30 (TL 30 Tryz.sizeOf30) (TL 32 Tryz.sizeOf32))))) (TN 57 (TN 48 (TN 35 (TL 35 Tryz.sizeOf35) (TN 36 (TL 36 Tryz.sizeOf36) (TL 48 Tryz.sizeOf48))) (TN 54 (TL 54 Tryz.sizeOf54) (TN 55 (TL 55 Tryz.sizeOf55) (TL 57 Tryz.sizeOf57)))) (TN 69 (TN 59 (TL 59 Tryz.sizeOf59) (TN 62 (TL 62 Tryz.sizeOf62) (TL 69 Tryz.sizeOf69))) (TN 80 (TL 80 Tryz.sizeOf80) (TN 90 (TL 90 Tryz.sizeOf90) (TL 91 Tryz.sizeOf91)))))) (TN 142 (TN 112 (TN 106 (TN 93 (TL 93 Tryz.sizeOf93) (TL 106 Tryz.sizeOf106)) (TN 108 (TL 108 Tryz.sizeOf108) (TN 110 (TL 110 Tryz.sizeOf110) (TL 112 Tryz.sizeOf112)))) (TN 121 (TN 118 (TL 118 Tryz.sizeOf118) (TN 120 (TL 120 Tryz.sizeOf120) (TL 121 Tryz.sizeOf121))) (TN 123 (TL 123 Tryz.sizeOf123) (TN 128 (TL 128 Tryz.sizeOf128) (TL 142 Tryz.sizeOf142))))) (TN 176 (TN 159 (TN 149 (TL 149 Tryz.sizeOf149) (TN 152 (TL 152 Tryz.sizeOf152) (TL 159 Tryz.sizeOf159))) (TN 163 (TL 163 Tryz.sizeOf163) (TN 168 (TL 168 Tryz.sizeOf168) (TL 176 Tryz.sizeOf176)))) (TN 202 (TN 188 (TL 188 Tryz.sizeOf188) (TN 192 (TL 192 Tryz.sizeOf192) (TL 202 Tryz.sizeOf202))) (TN 204 (TL 204 Tryz.sizeOf204) (TN 207 (TL 207 Tryz.sizeOf207) (TL 208 Tryz.sizeOf208))))))) (TN 324 (TN 272 (TN 238 (TN 228 (TN 215 (TL 215 Tryz.sizeOf215) (TL 228 Tryz.sizeOf228)) (TN 231 (TL 231 Tryz.sizeOf231) (TN 232 (TL 232 Tryz.sizeOf232) (TL 238 Tryz.sizeOf238)))) (TN 254 (TN 240 (TL 240 Tryz.sizeOf240) (TN 246 (TL 246 Tryz.sizeOf246) (TL 254 Tryz.sizeOf254))) (TN 268 (TL 268 Tryz.sizeOf268) (TN 270 (TL 270 Tryz.sizeOf270) (TL 272 Tryz.sizeOf272))))) (TN 302 (TN 284 (TN 276 (TL 276 Tryz.sizeOf276) (TN 281 (TL 281 Tryz.sizeOf281) (TL 284 Tryz.sizeOf284))) (TN 293 (TL 293 Tryz.sizeOf293) (TN 298 (TL 298 Tryz.sizeOf298) (TL 302 Tryz.sizeOf302)))) (TN 312 (TN 304 (TL 304 Tryz.sizeOf304) (TN 306 (TL 306 Tryz.sizeOf306) (TL 312 Tryz.sizeOf312))) (TN 313 (TL 313 Tryz.sizeOf313) (TN 316 (TL 316 Tryz.sizeOf316) (TL 324 Tryz.sizeOf324)))))) (TN 372 (TN 349 (TN 338 (TN 325 (TL 325 Tryz.sizeOf325) (TN 328 (TL 328 Tryz.sizeOf328) (TL 338 Tryz.sizeOf338))) (TN 340 (TL 340 Tryz.sizeOf340) (TN 341 (TL 341 Tryz.sizeOf341) (TL 349 Tryz.sizeOf349)))) (TN 364 (TN 351 (TL 351 Tryz.sizeOf351) (TN 362 (TL 362 Tryz.sizeOf362) (TL 364 Tryz.sizeOf364))) (TN 367 (TL 367 Tryz.sizeOf367) (TN 371 (TL 371 Tryz.sizeOf371) (TL 372 Tryz.sizeOf372))))) (TN 396 (TN 391 (TN 373 (TL 373 Tryz.sizeOf373) (TN 390 (TL 390 Tryz.sizeOf390) (TL 391 Tryz.sizeOf391))) (TN 393 (TL 393 Tryz.sizeOf393) (TN 394 (TL 394 Tryz.sizeOf394) (TL 396 Tryz.sizeOf396)))) (TN 405 (TN 399 (TL 399 Tryz.sizeOf399) (TN 402 (TL 402 Tryz.sizeOf402) (TL 405 Tryz.sizeOf405))) (TN 407 (TL 407 Tryz.sizeOf407) (TN 417 (TL 417 Tryz.sizeOf417) (TL 418 Tryz.sizeOf418)))))))
noncomputable def tbG:Tb Bool (fun n a=>∀w,(isAgg n).run Go.Proofs.Tryz.prog w= .ok a w):=TN 204 (TN 90 (TN 26 (TN 9 (TN 3 (TN 0 (TL 0 Tryz.isAgg0) (TL 3 Tryz.isAgg3)) (TN 4 (TL 4 Tryz.isAgg4) (TN 5 (TL 5 Tryz.isAgg5) (TL 9 Tryz.isAgg9)))) (TN 21 (TN 20 (TL 20 Tryz.isAgg20) (TL 21 Tryz.isAgg21)) (TN 23 (TL 23 Tryz.isAgg23) (TN 24 (TL 24 Tryz.isAgg24) (TL 26 Tryz.isAgg26))))) (TN 54 (TN 32 (TN 30 (TL 30 Tryz.isAgg30) (TL 32 Tryz.isAgg32)) (TN 36 (TL 36 Tryz.isAgg36) (TN 48 (TL 48 Tryz.isAgg48) (TL 54 Tryz.isAgg54)))) (TN 59 (TN 55 (TL 55 Tryz.isAgg55) (TN 57 (TL 57 Tryz.isAgg57) (TL 59 Tryz.isAgg59))) (TN 69 (TL 69 Tryz.isAgg69) (TN 80 (TL 80 Tryz.isAgg80) (TL 90 Tryz.isAgg90)))))) (TN 123 (TN 110 (TN 93 (TN 91 (TL 91 Tryz.isAgg91) (TL 93 Tryz.isAgg93)) (TN 106 (TL 106 Tryz.isAgg106) (TN 108 (TL 108 Tryz.isAgg108) (TL 110 Tryz.isAgg110)))) (TN 118 (TN 112 (TL 112 Tryz.isAgg112) (TL 118 Tryz.isAgg118)) (TN 120 (TL 120 Tryz.isAgg120) (TN 121 (TL 121 Tryz.isAgg121) (TL 123 Tryz.isAgg123))))) (TN 159 (TN 142 (TN 128 (TL 128 Tryz.isAgg128) (TL 142 Tryz.isAgg142)) (TN 149 (TL 149 Tryz.isAgg149) (TN 152 (TL 152 Tryz.isAgg152) (TL 159 Tryz.isAgg159)))) (TN 188 (TN 168 (TL 168 Tryz.isAgg168) (TN 176 (TL 176 Tryz.isAgg176) (TL 188 Tryz.isAgg188))) (TN 192 (TL 192 Tryz.isAgg192) (TN 202 (TL 202 Tryz.isAgg202) (TL 204 Tryz.isAgg204))))))) (TN 324 (TN 254 (TN 231 (TN 208 (TN 207 (TL 207 Tryz.isAgg207) (TL 208 Tryz.isAgg208)) (TN 215 (TL 215 Tryz.isAgg215) (TN 228 (TL 228 Tryz.isAgg228) (TL 231 Tryz.isAgg231)))) (TN 238 (TN 232 (TL 232 Tryz.isAgg232) (TL 238 Tryz.isAgg238)) (TN 240 (TL 240 Tryz.isAgg240) (TN 246 (TL 246 Tryz.isAgg246) (TL 254 Tryz.isAgg254))))) (TN 284 (TN 270 (TN 268 (TL 268 Tryz.isAgg268) (TL 270 Tryz.isAgg270)) (TN 272 (TL 272 Tryz.isAgg272) (TN 276 (TL 276 Tryz.isAgg276) (TL 284 Tryz.isAgg284)))) (TN 312 (TN 293 (TL 293 Tryz.isAgg293) (TN 306 (TL 306 Tryz.isAgg306) (TL 312 Tryz.isAgg312))) (TN 313 (TL 313 Tryz.isAgg313) (TN 316 (TL 316 Tryz.isAgg316) (TL 324 Tryz.isAgg324)))))) (TN 373 (TN 341 (TN 328 (TN 325 (TL 325 Tryz.isAgg325) (TL 328 Tryz.isAgg328)) (TN 338 (TL 338 Tryz.isAgg338) (TN 340 (TL 340 Tryz.isAgg340) (TL 341 Tryz.isAgg341)))) (TN 367 (TN 349 (TL 349 Tryz.isAgg349) (TN 351 (TL 351 Tryz.isAgg351) (TL 367 Tryz.isAgg367))) (TN 371 (TL 371 Tryz.isAgg371) (TN 372 (TL 372 Tryz.isAgg372) (TL 373 Tryz.isAgg373))))) (TN 396 (TN 391 (TN 390 (TL 390 Tryz.isAgg390) (TL 391 Tryz.isAgg391)) (TN 393 (TL 393 Tryz.isAgg393) (TN 394 (TL 394 Tryz.isAgg394) (TL 396 Tryz.isAgg396)))) (TN 405 (TN 399 (TL 399 Tryz.isAgg399) (TN 402 (TL 402 Tryz.isAgg402) (TL 405 Tryz.isAgg405))) (TN 407 (TL 407 Tryz.isAgg407) (TN 417 (TL 417 Tryz.isAgg417) (TL 418 Tryz.isAgg418)))))))
noncomputable def tbZ:Tb Value (fun n a=>∀w,(zeroValue n).run Go.Proofs.Tryz.prog w= .ok a w):=TN 208 (TN 108 (TN 32 (TN 9 (TN 3 (TN 0 (TL 0 Tryz.zeroValue0) (TL 3 Tryz.zeroValue3)) (TN 4 (TL 4 Tryz.zeroValue4) (TN 5 (TL 5 Tryz.zeroValue5) (TL 9 Tryz.zeroValue9)))) (TN 21 (TN 20 (TL 20 Tryz.zeroValue20) (TL 21 Tryz.zeroValue21)) (TN 24 (TL 24 Tryz.zeroValue24) (TN 30 (TL 30 Tryz.zeroValue30) (TL 32 Tryz.zeroValue32))))) (TN 57 (TN 36 (TN 35 (TL 35 Tryz.zeroValue35) (TL 36 Tryz.zeroValue36)) (TN 50 (TL 50 Tryz.zeroValue50) (TN 54 (TL 54 Tryz.zeroValue54) (TL 57 Tryz.zeroValue57)))) (TN 69 (TN 59 (TL 59 Tryz.zeroValue59) (TN 62 (TL 62 Tryz.zeroValue62) (TL 69 Tryz.zeroValue69))) (TN 82 (TL 82 Tryz.zeroValue82) (TN 90 (TL 90 Tryz.zeroValue90) (TL 108 Tryz.zeroValue108)))))) (TN 152 (TN 123 (TN 118 (TN 114 (TL 114 Tryz.zeroValue114) (TL 118 Tryz.zeroValue118)) (TN 120 (TL 120 Tryz.zeroValue120) (TN 121 (TL 121 Tryz.zeroValue121) (TL 123 Tryz.zeroValue123)))) (TN 140 (TN 128 (TL 128 Tryz.zeroValue128) (TL 140 Tryz.zeroValue140)) (TN 142 (TL 142 Tryz.zeroValue142) (TN 149 (TL 149 Tryz.zeroValue149) (TL 152 Tryz.zeroValue152))))) (TN 180 (TN 163 (TN 161 (TL 161 Tryz.zeroValue161) (TL 163 Tryz.zeroValue163)) (TN 168 (TL 168 Tryz.zeroValue168) (TN 176 (TL 176 Tryz.zeroValue176) (TL 180 Tryz.zeroValue180)))) (TN 202 (TN 188 (TL 188 Tryz.zeroValue188) (TN 192 (TL 192 Tryz.zeroValue192) (TL 202 Tryz.zeroValue202))) (TN 204 (TL 204 Tryz.zeroValue204) (TN 207 (TL 207 Tryz.zeroValue207) (TL 208 Tryz.zeroValue208))))))) (TN 325 (TN 268 (TN 232 (TN 215 (TN 213 (TL 213 Tryz.zeroValue213) (TL 215 Tryz.zeroValue215)) (TN 228 (TL 228 Tryz.zeroValue228) (TN 231 (TL 231 Tryz.zeroValue231) (TL 232 Tryz.zeroValue232)))) (TN 240 (TN 238 (TL 238 Tryz.zeroValue238) (TL 240 Tryz.zeroValue240)) (TN 246 (TL 246 Tryz.zeroValue246) (TN 254 (TL 254 Tryz.zeroValue254) (TL 268 Tryz.zeroValue268))))) (TN 284 (TN 272 (TN 270 (TL 270 Tryz.zeroValue270) (TL 272 Tryz.zeroValue272)) (TN 276 (TL 276 Tryz.zeroValue276) (TN 281 (TL 281 Tryz.zeroValue281) (TL 284 Tryz.zeroValue284)))) (TN 313 (TN 293 (TL 293 Tryz.zeroValue293) (TN 308 (TL 308 Tryz.zeroValue308) (TL 313 Tryz.zeroValue313))) (TN 316 (TL 316 Tryz.zeroValue316) (TN 324 (TL 324 Tryz.zeroValue324) (TL 325 Tryz.zeroValue325)))))) (TN 373 (TN 351 (TN 338 (TN 328 (TL 328 Tryz.zeroValue328) (TL 338 Tryz.zeroValue338)) (TN 340 (TL 340 Tryz.zeroValue340) (TN 349 (TL 349 Tryz.zeroValue349) (TL 351 Tryz.zeroValue351)))) (TN 367 (TN 364 (TL 364 Tryz.zeroValue364) (TL 367 Tryz.zeroValue367)) (TN 371 (TL 371 Tryz.zeroValue371) (TN 372 (TL 372 Tryz.zeroValue372) (TL 373 Tryz.zeroValue373))))) (TN 396 (TN 391 (TN 390 (TL 390 Tryz.zeroValue390) (TL 391 Tryz.zeroValue391)) (TN 393 (TL 393 Tryz.zeroValue393) (TN 394 (TL 394 Tryz.zeroValue394) (TL 396 Tryz.zeroValue396)))) (TN 405 (TN 399 (TL 399 Tryz.zeroValue399) (TN 402 (TL 402 Tryz.zeroValue402) (TL 405 Tryz.zeroValue405))) (TN 407 (TL 407 Tryz.zeroValue407) (TN 417 (TL 417 Tryz.zeroValue417) (TL 418 Tryz.zeroValue418)))))))
theorem uU{T d N}(h:tbU.f T=some d)(e:d=N):Go.Proofs.Tryz.prog.underlying T=some N:=e▸tbU.h T d h
theorem uS{T n N}(h:tbS.f T=some n)(e:n=N):∀w,(sizeOf T).run Go.Proofs.Tryz.prog w= .ok N w:=e▸tbS.h T n h
theorem uG{T b N}(h:tbG.f T=some b)(e:b=N):∀w,(isAgg T).run Go.Proofs.Tryz.prog w= .ok N w:=e▸tbG.h T b h
theorem uZ{T v N}(h:tbZ.f T=some v)(e:v=N):∀w,(zeroValue T).run Go.Proofs.Tryz.prog w= .ok N w:=e▸tbZ.h T v h
theorem bkA{S:World→Prop}{b o}(h:yZ S b o:=by
 first
 |(with_reducible show yZ (SS _ _) _ _);first|exact yZ.atR atA|exact yZ.LK (by assumption)|exact yZ.at 0 rfl|exact yZ.at 1 rfl|exact yZ.at 2 rfl
 |(with_reducible show yZ (SC _ _ _) _ _);first|exact yZ.atCR atA|exact yZ.OA (by assumption)|exact yZ.atC 0 rfl|exact yZ.atC 1 rfl):yZ S b o:=h
structure Ch (H:HL) (b:Nat) (o o':Obj) (H':HL):Prop where
  h:∃i,H[i]?=some (b,o)∧AU H i (b,o') H'
theorem Ch.z{b x o o' r}(h:x=o):Ch ((b,x)::r) b o o' ((b,o')::r):=⟨⟨0,h▸rfl,AU.z⟩⟩
theorem Ch.s{b o o' q r N}(h:Ch r b o o' N):Ch (q::r) b o o' (q::N):=let ⟨⟨i,h1,h2⟩⟩:=h;⟨⟨i+1,h1,AU.s h2⟩⟩
theorem chA{H H' b o o'}(h:Ch H b o o' H':=by first|(with_reducible refine Ch.z ?_;exact rfl)|(with_reducible apply Ch.s;exact chA)|(refine Ch.z ?_;exact rfl)|(apply Ch.s;exact chA)):Ch H b o o' H':=h
theorem a8G{O o e I H C Q x y T t b off cs N vs v H' n}(ho:o.op= .store T x y)(hd:o.dst=none)(hx:ev e x=some (ptr b off))(hy:ev e y=some v)
 (hv:v.cells=vs.toArray)(h1:vs.all dR=true)(W:∀w,(sizeOf T).run O.P w= .ok n w)(Z:vs.length=n)(hH:Ch H b (yX t cs) (yX t N) H')(a0:AL cs off vs N)
 (k:C e I H'):DJ O Q o e I H C:=let ⟨⟨i,h2,h3⟩⟩:=hH;CS i ho hd hx hy hv h1 W Z h2 a0 h3 k
theorem LG{α:Type}{a b:α}(h:a=b:=by first|exact rfl|assumption):a=b:=h
theorem eqB{a b:Bool}(h:a=b:=by first|exact rfl|assumption|exact congrArg not (by assumption)):a=b:=h
theorem XR{vs cs n}(h:EH vs n cs:=by
 first|with_reducible exact EH.none|(with_reducible show EH (Value.agg _::_) _ _;apply EH.agg;exact rfl;exact XR)|(apply EH.one;exact rfl;exact XR)|(apply EH.agg;exact rfl;exact XR)):EH vs n cs:=h
theorem lsA{α:Type}{l xs N:List α}{i}(h:AL l i xs N:=by
 first|with_reducible exact AL.z|(apply AL.c;exact lsA)|(apply AL.s;exact lsA)):AL l i xs N:=h
theorem ceA{v:Value}{vs:List Value}(h:v.cells=vs.toArray:=by first|with_reducible exact a2p _ _|exact rfl):v.cells=vs.toArray:=h
theorem onA{vs:List Value}(h:vs.all Value.oneCell'=true:=by first|with_reducible exact b0q _ _|exact rfl):vs.all dR=true:=h
theorem QU.mk'{N I A H Z}(h1:HSub A H)(h2:CSub Z H)(h3:Le N I):QU N A Z I H:=⟨h1,h2,h3⟩
theorem AO{N I A H Z}(h:QU N A Z I H:=by first|assumption|exact QU.mk' (by repeat first|exact HSub.n|refine HSub.c 0 rfl ?_|refine HSub.c 1 rfl ?_|refine HSub.c 2 rfl ?_|refine HSub.c 3 rfl ?_|refine HSub.c 4 rfl ?_|refine HSub.c 5 rfl ?_) CSub.n (by repeat first|exact Le.refl _|assumption|refine Le.trans ?_ (by assumption))):QU N A Z I H:=h
def opk:Op→Nat
 | .move _=>0
 | .assign _=>1
 | .pick .. =>2
 | .alloc _=>3
 | .box .. =>4
 | .build .. =>5
 | .buildSlice .. =>6
 | .load .. =>7
 | .store .. =>8
 | .nilCheck _=>9
 | .unOp .. =>10
 | .convert .. =>11
 | .makeInterface .. =>12
 | .makeFunc .. =>13
 | .fieldAddr .. =>14
 | .indexAddr .. =>15
 | .extract .. =>16
 | .call c=>match c.callee with
   | .builtin _=>17
   |_=>30
 | .binOp b .. =>match b with
   | .add=>20
   | .sub=>21
   | .mul=>22
   | .rem=>23
   | .eql=>24
   | .neq=>25
   | .lss=>26
   | .leq=>27
   | .gtr=>28
   | .geq=>29
   |_=>30
 |_=>30
def opc (o:Oper):Nat:=match o.guard with
 |some _=>1
 | none=>match opk o.op with
   |3=>3
   |4=>3
   |6=>3
   |8=>3
   |30=>4
   |_=>2
def jk:List Oper→Nat
 |[]=>0
 |o::_=>opc o
theorem OE k {N o e}{S:World→Prop}{v}(_:opk o.op=k)(h:BO N o e S v):BO N o e S v:=h
theorem gdJ k {O Q N l e I H}(_:jk l=k)(h:J O Q N l e I H):J O Q N l e I H:=h
theorem gdO k {N Q o e I H C}(_:opk o.op=k)(h:DJ N Q o e I H C):DJ N Q o e I H C:=h
theorem J.zy{N Q O l e I H o d v}(W:o.guard=none)(Z:o.dst=some d)(hn:bC d N.n=true)(hy:BO N o e (SS I H) v)(k:J N Q O l ((d,v)::e) I H):J N Q O (o::l) e I H:=J.z hy k W Z hn
theorem yA{N o e}{S:World→Prop}{v}(h:BO N o e S v:=by first
 |(apply OE 0;exact rfl;exact qq2)
 |(apply OE 7;exact rfl;first|exact AX rfl rfl (uG rfl rfl) (by first|exact bkA) (by first|exact rfl)|exact UG rfl rfl (uG rfl rfl) (uS rfl rfl) (by first|exact bkA) (by first|exact rfl) (by first|exact rfl))
 |(apply OE 14;exact rfl;exact ZE rfl rfl (uU rfl rfl) (by first|exact rfl) (uS rfl rfl) (by first|exact rfl))
 |(apply OE 17;exact rfl;first|exact RJ rfl rfl (uU rfl rfl)|exact b8s rfl rfl (uU rfl rfl))
 |(apply OE 1;exact rfl;exact EP)
 |(apply OE 26;exact rfl;exact a6J rfl rfl rfl)
 |(apply OE 20;exact rfl;first|exact NQ rfl rfl rfl (IU (by omega))|exact NQ rfl rfl rfl (c6t (by omega)))
 |(apply OE 16;exact rfl;exact b6o rfl rfl rfl)
 |(apply OE 9;exact rfl;exact EL rfl rfl)
 |(apply OE 2;exact rfl;first|exact a4T rfl rfl (by first|exact LG) (by first|exact rfl)|exact ZA rfl rfl (by first|exact LG) (by first|exact rfl))
 |(apply OE 24;exact rfl;first|exact a6g rfl rfl rfl|exact b9b rfl rfl rfl|exact b8O _ rfl rfl rfl (uU rfl rfl) (by kernel_rfl)|exact b6s rfl rfl rfl (uU rfl rfl)|exact b2J _ rfl rfl rfl (uU rfl rfl)|exact b7X _ rfl rfl rfl (uU rfl rfl))
 |(apply OE 25;exact rfl;first|exact b1a rfl rfl rfl|exact a3k rfl rfl rfl|exact yl_neqBool rfl rfl rfl (uU rfl rfl)|exact b2V _ rfl rfl rfl (uU rfl rfl)|exact yl_neqMap _ rfl rfl rfl (uU rfl rfl))
 |(apply OE 29;exact rfl;exact c5h rfl rfl rfl)
 |(apply OE 27;exact rfl;exact c5H rfl rfl rfl)
 |(apply OE 28;exact rfl;exact b2v rfl rfl rfl)
 |(apply OE 10;exact rfl;exact b8y rfl rfl)
 |(apply OE 15;exact rfl;exact EU rfl rfl rfl (uU rfl rfl) (uS rfl rfl) (by decide) (by decide) (by first|exact rfl))
 |(apply OE 5;exact rfl;first|exact zN rfl rfl (uZ rfl rfl) (by first|exact rfl) (uU rfl rfl) (plA (by first|exact plB)) (by first|exact lbA)|exact a2I rfl rfl (uZ rfl rfl) (by first|exact rfl) (uU rfl rfl) (uS rfl rfl) (by first|exact rfl))
 |(apply OE 11;exact rfl;first|exact b7L _ rfl rfl (uU rfl rfl) (uU rfl rfl) (uU rfl rfl) (by first|exact bkA) (by first|exact rfl)|exact b5w rfl rfl (uU rfl rfl) (uU rfl rfl)|exact b5G rfl rfl (uU rfl rfl) (uU rfl rfl))
 |(apply OE 21;exact rfl;exact RI rfl rfl rfl (IU (by omega)))
 |(apply OE 23;exact rfl;first|exact a6m rfl rfl rfl (by decide)|exact a6m rfl rfl rfl (by omega))
 |(apply OE 22;exact rfl;exact WR rfl rfl rfl (IU (by omega)))
 |(apply OE 13;exact rfl;exact a4D rfl rfl rfl)
 |(apply OE 12;exact rfl;exact b0E rfl rfl (uU rfl rfl) rfl)):BO N o e S v:=h
section
variable {cx:Cx} {Q:Qt} {e:Env} {I I1:Heap} {H A:HL} {Z:CL} {z fuel:Nat} {listed:Array Bool} {ops:Array Oper} {l:List Oper} {o:Oper}
theorem J.spG{j d N b}(W:o.guard=some (j,N))(Z:(ops[j]?).bind (·.dst)=some d)(O:eg e d=some (.bool b))(h1:b=true→J cx Q ops (o::l) e I H)(h0:b=false→J cx Q ops (o::l) e I H):J cx Q ops (o::l) e I H:=J.split d O h1 h0
theorem Cj.cT{c:Operand}{x y:Code}{b:Bool}(N:ev e c=some (.bool b))(O:b=true)(h1:Cj cx Q x e I H):Cj cx Q (.cond c x y) e I H:=Cj.cond N (fun _=>h1) (fun h=>dJ (O.symm.trans h))
theorem Cj.cF{c:Operand}{x y:Code}{b:Bool}(N:ev e c=some (.bool b))(O:b=false)(h1:Cj cx Q y e I H):Cj cx Q (.cond c x y) e I H:=Cj.cond N (fun h=>dJ (O.symm.trans h)) (fun _=>h1)
def a0K:Nat→List Bool→Nat→Option Nat
 |_,[],_=>none
 |s,true::r,n=>a0K s r (n+1)
 |0,false::_,n=>some n
 |s+1,false::r,n=>a0K s r (n+1)
def c6y (e:Env):Op→Bool
 | .move x=>(ev e x).isSome
 | .assign x=>(ev e x).isSome
 | .pick x y z=>(ev e x).isSome && ((ev e y).isSome && (ev e z).isSome)
 | .load _ x=>(ev e x).isSome
 | .nilCheck x=>(ev e x).isSome
 | .binOp _ _ x y _=>(ev e x).isSome && (ev e y).isSome
 | .unOp _ _ x=>(ev e x).isSome
 | .convert _ _ x=>(ev e x).isSome
 | .makeInterface _ x=>(ev e x).isSome
 | .fieldAddr _ x _=>(ev e x).isSome
 | .indexAddr _ x y=>(ev e x).isSome && (ev e y).isSome
 | .extract x _=>(ev e x).isSome
 | .build _ ps=>ps.toList.all fun p=>(ev e p.2).isSome
 | .call c=>c.args.toList.all fun x=>(ev e x).isSome
 |_=>true
def opd (e:Env) (o:Oper):Nat:=match opc o with
 |2=>bif c6y e o.op then 2 else 5
 |k=>k
def ak (s:Nat) (l:List Oper) (listed:Array Bool) (e:Env):Nat:=match a0K s listed.toList 0 with
 |none=>0
 | some i=>match l.toArray[i]? with
   |none=>9
   |some o=>opd e o
def rdy (s:Nat) (l:List Oper) (listed:Array Bool):Bool:=match a0K s listed.toList 0 with
 |none=>false
 |some i=>(Region.ready .any l.toArray listed).contains i
theorem gdR s (_:rdy s l listed=true)(h:JA cx Q l I1 A Z z fuel listed e I H):JA cx Q l I1 A Z z fuel listed e I H:=h
theorem VD s k (_:ak s l listed e=k)(h:JA cx Q l I1 A Z z fuel listed e I H):JA cx Q l I1 A Z z fuel listed e I H:=h
theorem JA.tn s {i d v}(hl:a0K s listed.toList 0=some i)(N:l.toArray[i]?=some o)(O:QU I1 A Z I H)(W:BO cx o e (SC I1 A Z) v)(k:JA cx Q l I1 A Z z fuel (listed.setIfInBounds i true) ((d,v)::e) I H)
 (hd:o.dst=some d:=by rfl)(hg:o.guard=none:=by rfl)(hn:Nat.blt d cx.n=true:=by rfl)(hz:zok l.toArray listed z i=true:=by first|rfl|kernel_rfl)(hs:Region.noSelect l.toArray=true:=by kernel_rfl)(hf:Region.free .any l.toArray listed i=true:=by kernel_rfl)
 (hr:(Region.ready .any l.toArray listed).contains i=true:=by kernel_rfl)(hq:∀c a w,Q (.panic c) (a.put (some d) v) w→Q (.panic c) a w:=by exact fun _ _ _ h=>h):JA cx Q l I1 A Z z (fuel+1) listed e I H:=JA.tk i N O W k hd hg hn hz hs hf hr hq
theorem JA.tnG s {i d j O N b v}(hl:a0K s listed.toList 0=some i)(hi:l.toArray[i]?=some o)(hx:QU I1 A Z I H)(hg:o.guard=some (j,N))(W:(l.toArray[j]?).bind (·.dst)=some O)(hv:eg e O=some (.bool b))(hb:b=N)(hy:BO cx o e (SC I1 A Z) v)
 (k:JA cx Q l I1 A Z z fuel (listed.setIfInBounds i true) ((d,v)::e) I H)(hd:o.dst=some d:=by rfl)(hn:Nat.blt d cx.n=true:=by rfl)(hz:zok l.toArray listed z i=true:=by first|rfl|kernel_rfl)(hs:Region.noSelect l.toArray=true:=by kernel_rfl)(hf:Region.free .any l.toArray listed i=true:=by kernel_rfl)
 (hr:(Region.ready .any l.toArray listed).contains i=true:=by kernel_rfl)(hq:∀c a w,Q (.panic c) (a.put (some d) v) w→Q (.panic c) a w:=by exact fun _ _ _ h=>h):JA cx Q l I1 A Z z (fuel+1) listed e I H:=JA.tkG i j O N b hi hx W hv hb hy k hd hg hn hz hs hf hr hq
theorem JA.tnS s {i d j O N u}(hl:a0K s listed.toList 0=some i)(hi:l.toArray[i]?=some o)(hx:QU I1 A Z I H)(hg:o.guard=some (j,N))(W:(l.toArray[j]?).bind (·.dst)=some O)(hv:eg e O=some u)(hb:u= .bool (!N)∨u=undef)
 (k:JA cx Q l I1 A Z z fuel (listed.setIfInBounds i true) ((d,undef)::e) I H)(hd:o.dst=some d:=by rfl)(hn:Nat.blt d cx.n=true:=by rfl)(hz:zok l.toArray listed z i=true:=by first|rfl|kernel_rfl)(hs:Region.noSelect l.toArray=true:=by kernel_rfl)(hf:Region.free .any l.toArray listed i=true:=by kernel_rfl)
 (hr:(Region.ready .any l.toArray listed).contains i=true:=by kernel_rfl)(hq:∀c a w,Q (.panic c) (a.put (some d) undef) w→Q (.panic c) a w:=by exact fun _ _ _ h=>h):JA cx Q l I1 A Z z (fuel+1) listed e I H:=JA.tkS i j O N u hi hx W hv hb k hd hg hn hz hs hf hr hq
theorem JA.dn(N:a0K 0 listed.toList 0=none)(O:Region.ready .any l.toArray listed=[])(h:Ej cx Q .normal e I H):JA cx Q l I1 A Z z fuel listed e I H:=match N with|_=>JA.done O h
theorem JA.st1{i}(hl:a0K 0 listed.toList 0=some i)(O:l.toArray[i]?=some o)(W:Region.ready .any l.toArray listed=[i])(hg:o.guard=none)(k:DJ cx Q o e I H (fun e' N H'=>(Le I1 N∧HSub A H'∧CSub Z H')∧JA cx Q l I1 A Z z fuel (listed.setIfInBounds i true) e' N H')):JA cx Q l I1 A Z z (fuel+1) listed e I H:=JA.step i W O hg k
theorem JA.st2{i j O N b}(hl:a0K 0 listed.toList 0=some i)(hi:l.toArray[i]?=some o)(hr:Region.ready .any l.toArray listed=[i])(hg:o.guard=some (j,N))(W:(l.toArray[j]?).bind (·.dst)=some O)(hv:eg e O=some (.bool b))(hb:b=N)
 (k:DJ cx Q o e I H (fun e' I' H'=>(Le I1 I'∧HSub A H'∧CSub Z H')∧JA cx Q l I1 A Z z fuel (listed.setIfInBounds i true) e' I' H')):JA cx Q l I1 A Z z (fuel+1) listed e I H:=JA.stepG i j O N b hr hi hg W hv hb k
end
theorem KX{P:Prop}(h:P:=by
 first|intro _ _ _ _ h|intro _ _ h
 first
 |(obtain⟨h,_⟩:=h;cases h;done)
 |(obtain⟨_,h,_⟩:=h;cases h;done)
 |(obtain⟨_,_,h,_⟩:=h;cases h;done)
 |(obtain⟨_,_,_,h,_⟩:=h;cases h;done)
 |(obtain⟨_,_,_,_,h,_⟩:=h;cases h;done)
 |(obtain⟨_,_,_,_,_,h,_⟩:=h;cases h;done)
 |(obtain⟨⟨_,h,_⟩,_⟩:=h;cases h;done)
 |(obtain⟨⟨_,_,h,_⟩,_⟩:=h;cases h;done)
 |(obtain⟨⟨_,h⟩,_⟩:=h;cases h;done)
 |(cases h;done)):P:=h
structure Cnt (n:Nat):Prop where
theorem Cnt.p{n}(_:Cnt (n+1)):Cnt n:=⟨⟩
structure Row (R:HL):Prop where
section
variable {cx:Cx} {Q:Qt} {o:Oper} {e:Env} {I:Heap} {H:HL} {C:Ct} {S:World→Prop}
theorem a6u{x y T E b off n c sz off' k i}(_:Cnt off')(W:o.op= .indexAddr T x y)(Z:ev e x=some (.slice (some ⟨b,off,none⟩) n c))(hy:ev e y=some (.int k i))
 (hu:cx.P.underlying T=some (.slice E))(O:∀w,(sizeOf E).run cx.P w= .ok sz w)(h0:0≤i)(h1:i<n)(N:off+i.toNat*sz=off'):BO cx o e S (ptr b off'):=CY W Z hy hu O h0 h1 N
theorem b8B{T E d sz by' n m x y U g xs ys W z R}(_:Cnt by')(_:Row R)(ho:o.op= .call ⟨.builtin .append,#[x,y],#[T,U]⟩)(hd:o.dst=some d)(hn:bC d cx.n=true)
 (hx:ev e x=some (gV n g))(hy:ev e y=some W)(hu:cx.P.underlying T=some (.slice E))(hU:cx.P.underlying U=some .string∨∃E',cx.P.underlying U=some (.slice E'))
 (Z:(cx.P.info? E).map (·.bytes)=some (by'+1))(a0:∀w,(sizeOf E).run cx.P w= .ok sz w)(hz:∀w,(zeroValue E).run cx.P w= .ok z w)(a1:z.cells.size=sz)
 (hg:BL cx.w0.heap.size sz n xs g)(hH:H=R++gH E xs g)(hs:Src cx.P I H sz m W ys)(N:(2*(n+m)+768)*(by'+1)≤281474976710656)
 (k:∀O,BL cx.w0.heap.size sz (n+m) (xs++ys) O→C ((d,gV (n+m) O)::e) I (R++gH E (xs++ys) O)):DJ cx Q o e I H C:=AQ R ho hd hn hx hy hu hU Z a0 hz a1 hg hH hs N k
theorem a5S{H1 R d f Z xs ts fst cap vs}{O:Ending→Heap→HL→Prop}(_:Row H1)(ho:o.op= .call ⟨.value Z,xs.toArray,ts⟩)(hd:o.dst=some d)(hn:bC d cx.n=true)(hf:ev e Z=some (.func (.func f) fst.toArray cap.toArray))(hx:evs e xs=some vs)
 (hs:yY cx.P f (fst++vs++cap) I H1 O)(hH:H=H1++R)(k:∀v W N,Le I W→O (.returned v) W N→C ((d,v)::e) W (N++R))(kp:∀ch W N,Le I W→O (.panicked ch) W N→Ej cx Q (.panic ch) e W (N++R))
 (ko:∀W N,¬O .outgrown W N):DJ cx Q o e I H C:=by subst hH;exact zM ho hd hn hf hx hs k kp ko
theorem a3f{H1 R d f Z xs ts fst cap vs}{O:Ending→Heap→HL→Prop}(_:Row R)(hH:H=R++H1)
 (ho:o.op= .call ⟨.value Z,xs.toArray,ts⟩)(hd:o.dst=some d)(hn:bC d cx.n=true)(hf:ev e Z=some (.func (.func f) fst.toArray cap.toArray))(hx:evs e xs=some vs)
 (hs:yY cx.P f (fst++vs++cap) I H1 O)
 (k:∀v W N,Le I W→O (.returned v) W N→C ((d,v)::e) W (R++N))
 (kp:∀ch W N,Le I W→O (.panicked ch) W N→Ej cx Q (.panic ch) e W (R++N))
 (ko:∀W N,¬O .outgrown W N):DJ cx Q o e I H C:=NJ R hH ho hd hn hf hx hs k kp ko
end
theorem ax1{A B:Prop}(a:A)(h:Wr A→B:=by
 intro a
 first
 | (with_reducible show J _ _ _ _ _ _ _)
   first
   |(refine gdJ 2 rfl ?_;refine J.zy rfl rfl rfl (by first|exact yA) ?_)
   |(refine gdJ 0 rfl ?_;refine J.nil ?_)
   |(refine gdJ 1 rfl ?_;first|refine J.skip _ _ _ _ _ rfl rfl rfl (by first|exact LG) rfl rfl ?_|refine J.c6d _ _ _ _ rfl rfl rfl rfl rfl ?_|refine J.opG _ _ _ _ rfl rfl rfl (by first|exact LG) (AY (by first|exact yA) rfl rfl ?_))
   |(refine gdJ 3 rfl ?_;refine J.op rfl ?_;first|(refine gdO 4 rfl ?_;refine JM rfl rfl rfl rfl rfl ?_)|(refine gdO 3 rfl ?_;refine FV (uZ rfl rfl) ?_)|(refine gdO 6 rfl ?_;refine KZ rfl rfl rfl (uU rfl rfl) (uS rfl rfl) (uZ rfl rfl) (by first|exact rfl) rfl (by first|exact rfl) (by first|exact rfl) (by first|exact XR) ?_)|(refine gdO 8 rfl ?_;refine a8G rfl rfl rfl rfl (by first|exact ceA) (by first|exact onA) (uS rfl rfl) (by first|exact rfl) (by first|exact chA) (by first|exact lsA) ?_))
 | (with_reducible show JA _ _ _ _ _ _ _ _ _ _ _ _)
   first
   |(refine VD 0 2 rfl ?_;refine gdR 0 (by decide +kernel) ?_;refine JA.tn 0 rfl rfl (by first|exact AO) (by first|exact yA) ?_)
   |(refine VD 0 1 rfl ?_;refine gdR 0 (by decide +kernel) ?_;first|refine JA.tnS 0 rfl rfl (by first|exact AO) rfl rfl rfl (by first|exact .inl (congrArg Value.bool (by first|exact LG))|exact .inr rfl) ?_|refine JA.tnG 0 rfl rfl (by first|exact AO) rfl rfl rfl (by first|exact LG) (by first|exact yA) ?_)
   |(refine VD 1 2 rfl ?_;refine gdR 1 (by decide +kernel) ?_;refine JA.tn 1 rfl rfl (by first|exact AO) (by first|exact yA) ?_)
   |(refine VD 1 1 rfl ?_;refine gdR 1 (by decide +kernel) ?_;first|refine JA.tnS 1 rfl rfl (by first|exact AO) rfl rfl rfl (by first|exact .inl (congrArg Value.bool (by first|exact LG))|exact .inr rfl) ?_|refine JA.tnG 1 rfl rfl (by first|exact AO) rfl rfl rfl (by first|exact LG) (by first|exact yA) ?_)
   |(refine VD 2 2 rfl ?_;refine gdR 2 (by decide +kernel) ?_;refine JA.tn 2 rfl rfl (by first|exact AO) (by first|exact yA) ?_)
   |(refine VD 2 1 rfl ?_;refine gdR 2 (by decide +kernel) ?_;first|refine JA.tnS 2 rfl rfl (by first|exact AO) rfl rfl rfl (by first|exact .inl (congrArg Value.bool (by first|exact LG))|exact .inr rfl) ?_|refine JA.tnG 2 rfl rfl (by first|exact AO) rfl rfl rfl (by first|exact LG) (by first|exact yA) ?_)
   |(refine VD 3 2 rfl ?_;refine gdR 3 (by decide +kernel) ?_;refine JA.tn 3 rfl rfl (by first|exact AO) (by first|exact yA) ?_)
   |(refine VD 3 1 rfl ?_;refine gdR 3 (by decide +kernel) ?_;first|refine JA.tnS 3 rfl rfl (by first|exact AO) rfl rfl rfl (by first|exact .inl (congrArg Value.bool (by first|exact LG))|exact .inr rfl) ?_|refine JA.tnG 3 rfl rfl (by first|exact AO) rfl rfl rfl (by first|exact LG) (by first|exact yA) ?_)
   |(refine VD 4 2 rfl ?_;refine gdR 4 (by decide +kernel) ?_;refine JA.tn 4 rfl rfl (by first|exact AO) (by first|exact yA) ?_)
   |(refine VD 4 1 rfl ?_;refine gdR 4 (by decide +kernel) ?_;first|refine JA.tnS 4 rfl rfl (by first|exact AO) rfl rfl rfl (by first|exact .inl (congrArg Value.bool (by first|exact LG))|exact .inr rfl) ?_|refine JA.tnG 4 rfl rfl (by first|exact AO) rfl rfl rfl (by first|exact LG) (by first|exact yA) ?_)
   |(refine VD 5 2 rfl ?_;refine gdR 5 (by decide +kernel) ?_;refine JA.tn 5 rfl rfl (by first|exact AO) (by first|exact yA) ?_)
   |(refine VD 5 1 rfl ?_;refine gdR 5 (by decide +kernel) ?_;first|refine JA.tnS 5 rfl rfl (by first|exact AO) rfl rfl rfl (by first|exact .inl (congrArg Value.bool (by first|exact LG))|exact .inr rfl) ?_|refine JA.tnG 5 rfl rfl (by first|exact AO) rfl rfl rfl (by first|exact LG) (by first|exact yA) ?_)
   |(refine VD 6 2 rfl ?_;refine gdR 6 (by decide +kernel) ?_;refine JA.tn 6 rfl rfl (by first|exact AO) (by first|exact yA) ?_)
   |(refine VD 6 1 rfl ?_;refine gdR 6 (by decide +kernel) ?_;first|refine JA.tnS 6 rfl rfl (by first|exact AO) rfl rfl rfl (by first|exact .inl (congrArg Value.bool (by first|exact LG))|exact .inr rfl) ?_|refine JA.tnG 6 rfl rfl (by first|exact AO) rfl rfl rfl (by first|exact LG) (by first|exact yA) ?_)
   |(refine VD 0 0 rfl ?_;refine JA.dn rfl (by kernel_rfl) ?_)
   |(refine VD 0 3 rfl ?_;refine JA.st1 rfl rfl (by kernel_rfl) rfl ?_;first|(refine gdO 4 rfl ?_;refine JM rfl rfl rfl rfl rfl ?_)|(refine gdO 3 rfl ?_;refine FV (uZ rfl rfl) ?_)|(refine gdO 6 rfl ?_;refine KZ rfl rfl rfl (uU rfl rfl) (uS rfl rfl) (uZ rfl rfl) (by first|exact rfl) rfl (by first|exact rfl) (by first|exact rfl) (by first|exact XR) ?_)|(refine gdO 8 rfl ?_;refine a8G rfl rfl rfl rfl (by first|exact ceA) (by first|exact onA) (uS rfl rfl) (by first|exact rfl) (by first|exact chA) (by first|exact lsA) ?_))
 | (with_reducible show And (And (Le _ _) _) _)
   refine And.intro (And.intro (by repeat first|exact Le.refl _|assumption|refine Le.trans ?_ (by assumption)) (And.intro (by repeat first|exact HSub.n|refine HSub.c 0 rfl ?_|refine HSub.c 1 rfl ?_|refine HSub.c 2 rfl ?_|refine HSub.c 3 rfl ?_|refine HSub.c 4 rfl ?_|refine HSub.c 5 rfl ?_) CSub.n)) ?_
 | (with_reducible show Cj _ _ _ _ _ _)
   first
   |with_reducible refine Cj.seq ?_
   |with_reducible refine Cj.region ?_
   |with_reducible refine Cj.block ?_
   |with_reducible refine Cj.skip ?_
   |with_reducible refine Cj.exit ?_
   |with_reducible refine Cj.ret ?_
   |(with_reducible show Cj _ _ (Code.cond _ _ _) _ _ _);first|refine Cj.cT (by first|exact rfl) (by first|exact eqB) ?_|refine Cj.cF (by first|exact rfl) (by first|exact eqB) ?_
   |refine Cj.seq ?_
   |refine Cj.region ?_
 | (with_reducible show Ej _ _ _ _ _ _)
   first
   |with_reducible refine Ej.seq ?_
   |with_reducible refine Ej.OZ ?_
   |with_reducible refine Ej.a3Z ?_
   |with_reducible refine Ej.a1p ?_
   |with_reducible refine Ej.c3s ?_
   |with_reducible refine Ej.a1b ?_
   |with_reducible refine Ej.a1f ?_
   |with_reducible refine Ej.b0Q ?_
 exact a.1):B:=h ⟨a⟩
theorem yU n {A B:Prop}(a:A)(h:Cnt n→Wr A→B:=by
 intro s a
 repeat(replace s:=Cnt.p s;refine ax1 ?_)
 exact a.1):B:=h ⟨⟩ ⟨a⟩
theorem tst{b}{p n:Prop}(h:(b=true→p)∧(b=false→n):=by first
 |exact⟨of_decide_eq_true,of_decide_eq_false⟩
 |exact⟨eq_of_beq,ne_of_beq_false⟩
 |exact⟨bne_iff_ne.1,JR⟩
 |exact⟨id,id⟩):(b=true→p)∧(b=false→n):=h
theorem zK{b}{p n N O B:Prop}(W:b=true→p→N)(Z:b=false→n→O)(h:Wr (b=true→N)→Wr (b=false→O)→B:=by
 intro a1 a0
 repeat refine ax1 ?_
 exact Cj.cond rfl a1.1 a0.1)(k:(b=true→p)∧(b=false→n):=by exact tst):B:=h ⟨fun h=>W h (k.1 h)⟩ ⟨fun h=>Z h (k.2 h)⟩
theorem DI{b}{N O B:Prop}(W:b=true→N)(Z:b=false→O)(h:Wr (b=true→N)→Wr (b=false→O)→B:=by
 intro a1 a0
 repeat refine ax1 ?_
 exact Cj.cond rfl a1.1 a0.1):B:=h ⟨W⟩ ⟨Z⟩
theorem EK{b}{p n N O B:Prop}(W:b=true→p→N)(Z:b=false→n→O)(h:Wr (b=true→N)→Wr (b=false→O)→B:=by
 intro a1 a0
 repeat refine ax1 ?_
 exact J.spG rfl rfl rfl a1.1 a0.1)(k:(b=true→p)∧(b=false→n):=by exact tst):B:=h ⟨fun h=>W h (k.1 h)⟩ ⟨fun h=>Z h (k.2 h)⟩
theorem FM{b}{N O B:Prop}(W:b=true→N)(Z:b=false→O)(h:Wr (b=true→N)→Wr (b=false→O)→B:=by
 intro a1 a0
 repeat refine ax1 ?_
 exact J.spG rfl rfl rfl a1.1 a0.1):B:=h ⟨W⟩ ⟨Z⟩
theorem AB{A B:Prop}(a:A)(h:Wr A→B:=by
 intro a
 repeat refine ax1 ?_
 first
 |exact Ej.bare (Ej.ZO rfl rfl rfl a.1)
 |exact Ej.bare (Ej.c4Z rfl rfl rfl rfl a.1)
 |exact Ej.bare (Ej.QW rfl rfl a.1)
 |exact Ej.bare (Ej.a5u rfl rfl a.1)):B:=h ⟨a⟩
theorem zV{A B:Prop}(a:A)(h:Wr A→B:=by
 intro a
 repeat refine ax1 ?_
 first
 |exact Ej.ZO rfl rfl rfl a.1
 |exact Ej.c4Z rfl rfl rfl rfl a.1
 |exact Ej.QW rfl rfl a.1
 |exact Ej.a5u rfl rfl a.1):B:=h ⟨a⟩
theorem zX{P f args I v}{A B:Prop}(c:Pure P f args I v)(a:A)(h:Pure P f args I v→Wr A→B:=by
 intro c a
 repeat refine ax1 ?_
 first
 | (with_reducible show J _ _ _ _ _ _ _)
   first
   |exact J.op rfl (JC rfl rfl rfl rfl rfl c a.1)
   |exact J.opG _ _ _ _ rfl rfl rfl (by first|exact LG) (JC rfl rfl rfl rfl rfl c a.1)
 | (with_reducible show JA _ _ _ _ _ _ _ _ _ _ _ _)
   first
   |exact JA.st1 rfl rfl (by kernel_rfl) rfl (JC rfl rfl rfl rfl rfl c a.1)
   |exact JA.st2 rfl rfl (by kernel_rfl) rfl rfl rfl (by first|exact LG) (JC rfl rfl rfl rfl rfl c a.1)
 |exact JC rfl rfl rfl rfl rfl c a.1):B:=h c ⟨a⟩
theorem AP{P f args I H1}{N:Ending→Heap→HL→Prop}{A B:Prop}(c:yY P f args I H1 N)(a:A)(h:Row H1→yY P f args I H1 N→Wr A→B:=by
 intro r c a
 repeat refine ax1 ?_
 first
 | (with_reducible show J _ _ _ _ _ _ _)
   first
   |exact J.op rfl (a5S r rfl rfl rfl rfl rfl c rfl a.1 (by first|exact KX) (by first|exact KX))
   |exact J.opG _ _ _ _ rfl rfl rfl (by first|exact LG) (a5S r rfl rfl rfl rfl rfl c rfl a.1 (by first|exact KX) (by first|exact KX))
 | (with_reducible show JA _ _ _ _ _ _ _ _ _ _ _ _)
   first
   |exact JA.st1 rfl rfl (by kernel_rfl) rfl (a5S r rfl rfl rfl rfl rfl c rfl a.1 (by first|exact KX) (by first|exact KX))
   |exact JA.st2 rfl rfl (by kernel_rfl) rfl rfl rfl (by first|exact LG) (a5S r rfl rfl rfl rfl rfl c rfl a.1 (by first|exact KX) (by first|exact KX))
 |exact a5S r rfl rfl rfl rfl rfl c rfl a.1 (by first|exact KX) (by first|exact KX)):B:=h ⟨⟩ c ⟨a⟩
theorem LD{P f args I}{N:Ending→Heap→HL→Prop}{A B:Prop}(c:yY P f args I [] N)(a:A)(h:yY P f args I [] N→Wr A→B:=by
 intro c a
 repeat refine ax1 ?_
 first
 | (with_reducible show J _ _ _ _ _ _ _)
   first
   |exact J.op rfl (IQ rfl rfl rfl rfl rfl c a.1 (by first|exact KX) (by first|exact KX))
   |exact J.opG _ _ _ _ rfl rfl rfl (by first|exact LG) (IQ rfl rfl rfl rfl rfl c a.1 (by first|exact KX) (by first|exact KX))
 | (with_reducible show JA _ _ _ _ _ _ _ _ _ _ _ _)
   first
   |exact JA.st1 rfl rfl (by kernel_rfl) rfl (IQ rfl rfl rfl rfl rfl c a.1 (by first|exact KX) (by first|exact KX))
   |exact JA.st2 rfl rfl (by kernel_rfl) rfl rfl rfl (by first|exact LG) (IQ rfl rfl rfl rfl rfl c a.1 (by first|exact KX) (by first|exact KX))
 |exact IQ rfl rfl rfl rfl rfl c a.1 (by first|exact KX) (by first|exact KX)):B:=h c ⟨a⟩
theorem MJ{P f args I H1} R {N:Ending→Heap→HL→Prop}{A B:Prop}(c:yY P f args I H1 N)(a:A)(h:Row R→yY P f args I H1 N→Wr A→B:=by
 intro r c a
 repeat refine ax1 ?_
 first
 | (with_reducible show J _ _ _ _ _ _ _)
   first
   |exact J.op rfl (a3f r rfl rfl rfl rfl rfl rfl c a.1 (by first|exact KX) (by first|exact KX))
   |exact J.opG _ _ _ _ rfl rfl rfl (by first|exact LG) (a3f r rfl rfl rfl rfl rfl rfl c a.1 (by first|exact KX) (by first|exact KX))
 | (with_reducible show JA _ _ _ _ _ _ _ _ _ _ _ _)
   first
   |exact JA.st1 rfl rfl (by kernel_rfl) rfl (a3f r rfl rfl rfl rfl rfl rfl c a.1 (by first|exact KX) (by first|exact KX))
   |exact JA.st2 rfl rfl (by kernel_rfl) rfl rfl rfl (by first|exact LG) (a3f r rfl rfl rfl rfl rfl rfl c a.1 (by first|exact KX) (by first|exact KX))
 |exact a3f r rfl rfl rfl rfl rfl rfl c a.1 (by first|exact KX) (by first|exact KX)):B:=h ⟨⟩ c ⟨a⟩
section
variable {cx:Cx} {Q:Qt} {e:Env} {I I1:Heap} {H A:HL} {Z:CL} {z fuel:Nat} {listed:Array Bool} {ops:Array Oper} {l:List Oper} {o:Oper}
theorem J.zg{j d O N b v}(W:BO cx o e (SS I H) v)(k:J cx Q ops l ((O,v)::e) I H)(Z:o.guard=some (j,N):=by rfl)(hd:(ops[j]?).bind (·.dst)=some d:=by rfl)(hv:eg e d=some (.bool b):=by rfl)(hb:b=N:=by exact LG)(ho:o.dst=some O:=by rfl)(hn:Nat.blt O cx.n=true:=by rfl):J cx Q ops (o::l) e I H:=J.opG j d N b Z hd hv hb (AY W ho hn k)
end
theorem zW off {A B:Prop}(a:A)(h:Cnt off→Wr A→B:=by
 intro s a
 repeat refine ax1 ?_
 first
 |(with_reducible show J _ _ _ _ _ _ _);first|(refine gdJ 2 rfl ?_;first|exact J.z (a6u s rfl rfl rfl (uU rfl rfl) (uS rfl rfl) (by first|decide|omega) (by first|decide|omega) (by first|decide|omega|(simp;done)|(simp;omega))) a.1|exact J.z (yl_ixA s rfl rfl rfl (uU rfl rfl) (uS rfl rfl) (by first|decide|omega) (by first|decide|omega) (by first|decide|omega|(simp;done)|(simp;omega))) a.1)|(refine gdJ 1 rfl ?_;first|exact J.zg (a6u s rfl rfl rfl (uU rfl rfl) (uS rfl rfl) (by first|decide|omega) (by first|decide|omega) (by first|decide|omega|(simp;done)|(simp;omega))) a.1|exact J.zg (yl_ixA s rfl rfl rfl (uU rfl rfl) (uS rfl rfl) (by first|decide|omega) (by first|decide|omega) (by first|decide|omega|(simp;done)|(simp;omega))) a.1)
 |(refine VD 0 2 rfl ?_;first|exact JA.tn 0 rfl rfl (by first|exact AO) (a6u s rfl rfl rfl (uU rfl rfl) (uS rfl rfl) (by first|decide|omega) (by first|decide|omega) (by first|decide|omega|(simp;done)|(simp;omega))) a.1|exact JA.tn 0 rfl rfl (by first|exact AO) (yl_ixA s rfl rfl rfl (uU rfl rfl) (uS rfl rfl) (by first|decide|omega) (by first|decide|omega) (by first|decide|omega|(simp;done)|(simp;omega))) a.1)
 |(refine VD 0 1 rfl ?_;first|exact JA.tnG 0 rfl rfl (by first|exact AO) rfl rfl rfl (by first|exact LG) (a6u s rfl rfl rfl (uU rfl rfl) (uS rfl rfl) (by first|decide|omega) (by first|decide|omega) (by first|decide|omega|(simp;done)|(simp;omega))) a.1|exact JA.tnG 0 rfl rfl (by first|exact AO) rfl rfl rfl (by first|exact LG) (yl_ixA s rfl rfl rfl (uU rfl rfl) (uS rfl rfl) (by first|decide|omega) (by first|decide|omega) (by first|decide|omega|(simp;done)|(simp;omega))) a.1)):B:=h ⟨⟩ ⟨a⟩
theorem RD m R {N sz n xs g}(c:BL N sz n xs g){A B:Prop}(a:A)(h:Cnt m→Row R→BL N sz n xs g→Wr A→B:=by
 intro s r c a
 repeat refine ax1 ?_
 first
 |(with_reducible show J _ _ _ _ _ _ _);exact J.op rfl (b8B s r rfl rfl rfl rfl rfl (uU rfl rfl) (.inr ⟨_,(uU rfl rfl)⟩) (by kernel_rfl) (uS rfl rfl) (uZ rfl rfl) rfl c rfl (Src.slice (by first|exact bkA) rfl rfl rfl) (by omega) a.1)
 |exact JA.st1 rfl rfl (by kernel_rfl) rfl (b8B s r rfl rfl rfl rfl rfl (uU rfl rfl) (.inr ⟨_,(uU rfl rfl)⟩) (by kernel_rfl) (uS rfl rfl) (uZ rfl rfl) rfl c rfl (Src.slice (by first|exact bkA) rfl rfl rfl) (by omega) a.1)):B:=h ⟨⟩ ⟨⟩ c ⟨a⟩
section
variable {cx:Cx} {Q:Qt} {e:Env} {I I1:Heap} {H A:HL} {Z:CL} {z fuel:Nat} {listed:Array Bool} {ops:Array Oper} {l:List Oper} {o:Oper}
theorem J.ev d N {v}(O:eg e d=some v)(h:v=N)(k:J cx Q ops l ((d,N)::e) I H):J cx Q ops l e I H:=J.eqv d O h k
theorem JA.ev d N {v}(O:eg e d=some v)(h:v=N)(k:JA cx Q l I1 A Z z fuel listed ((d,N)::e) I H):JA cx Q l I1 A Z z fuel listed e I H:=JA.eqv d O h k
theorem Cj.ev{c} d N {v}(O:eg e d=some v)(h:v=N)(k:Cj cx Q c ((d,N)::e) I H):Cj cx Q c e I H:=Cj.eqv d O h k
theorem JA.zt i {d v}(N:l.toArray[i]?=some o)(O:BO cx o e (SC I1 A Z) v)(k:JA cx Q l I1 A Z z fuel (listed.setIfInBounds i true) ((d,v)::e) I H)(W:QU I1 A Z I H:=by exact AO)
 (hd:o.dst=some d:=by rfl)(hg:o.guard=none:=by rfl)(hn:Nat.blt d cx.n=true:=by rfl)(hz:zok l.toArray listed z i=true:=by first|rfl|kernel_rfl)(hs:Region.noSelect l.toArray=true:=by kernel_rfl)(hf:Region.free .any l.toArray listed i=true:=by kernel_rfl)
 (hr:(Region.ready .any l.toArray listed).contains i=true:=by kernel_rfl)(hq:∀c a w,Q (.panic c) (a.put (some d) v) w→Q (.panic c) a w:=by exact fun _ _ _ h=>h):JA cx Q l I1 A Z z (fuel+1) listed e I H:=JA.tk i N W O k hd hg hn hz hs hf hr hq
end
theorem zQ{P f fn c args I H}{N:Ending→Heap→HL→Prop}(W:P.funcs[f]?=some fn)
 (h:∀w0,Ready I H w0→Cj ⟨P,fn.ntmps,w0,H.map (·.1),I,[],none⟩ (bodyPost P fn (RR w0 (H.map (·.1)) I N)) c (NR 0 args) I H)(Z:fn.body=some c:=by rfl)(O:fn.name≠ "runtime.NumGoroutine" :=by decide)
 (hn:args.length≤fn.ntmps:=by exact Nat.le_of_ble_eq_true rfl):yY P f args I H N:=yY.b3Q W Z O hn h
end Go.Sx
section
namespace Go.Proofs.YtekmeaoblpfnpaaGreatDoor
open _root_.Go.Proofs.Tryz
open Go Go.Sx
def GK (b:Nat) (l:List UInt8) (p:Bool) (g:Gs):HL:=(b,yX 204 [if p then ptr b 0 else .pointer none,gV l.length g])::gH 5 (EF l) g
theorem a5Z b v I:yY aA 184 [ptr b 0] I [(b,yX 204 [.pointer none,v])] (fun e N H'=>e= .returned (.tuple #[])∧H'=[(b,yX 204 [ptr b 0,v])]):=by
 refine zQ func184 fun w0 _=>?_;refine yU 13 ?_;refine J.z (b3b 1 rfl rfl b5T a9J kR (yZ.at 0 rfl) sI) ?_;refine J.z (b2R rfl rfl rfl func234 kR kR kR kR) ?_;refine J.z (a9u rfl rfl a9J b5T kR (yZ.at 0 rfl) kR) ?_;refine yU 4 ?_;refine Ej.QW rfl rfl ?_;exact rT
theorem a6Y b v I:yY aA 184 [ptr b 0] I [(b,yX 204 [ptr b 0,v])] (fun e N H'=>e= .returned (.tuple #[])∧H'=[(b,yX 204 [ptr b 0,v])]):=by
 refine zQ func184 fun w0 _=>?_;refine yU 17 ?_;refine J.z (b5j rfl rfl rfl b5T kR) ?_;refine yU 4 ?_;refine Ej.QW rfl rfl ?_;exact rT
theorem b0G b (p:Bool) v I:yY aA 184 [ptr b 0] I [(b,yX 204 [if p then ptr b 0 else .pointer none,v])] (fun e N H'=>e= .returned (.tuple #[])∧H'=[(b,yX 204 [ptr b 0,v])]):=by
 cases p
 ·exact a5Z b v I
 exact a6Y b v I
theorem JF b l s p g (hg:BL 0 1 l.length (EF l) g)(hl:l.length≤1000000000000)(hs:s.length≤1000000000000) I:
 yY aA 130 [ptr b 0,str s] I (GK b l p g) (fun e I' H'=>e= .returned (.tuple #[i64 s.length,.nilIface])∧∃N,BL 0 1 (l++s).length (EF (l++s)) N∧H'=GK b (l++s) true N):=by
 refine zQ func130 fun w0 _=>?_;refine yU 9 ?_;refine J.pull Pull.z ?_;refine AP (b0G b p _ _) ?_;intro _ _ _ _ O;obtain⟨W,rfl⟩:=O;cases W;refine yU 10 ?_;refine J.op rfl (NG 0 (bD _) (by':=0) [_] rfl rfl rfl rfl rfl IJ (.inl BQ) kR tS5 tZ5 rfl hg rfl Src.str oM ?_);intro g6 Z;refine yU 14 ?_;refine Ej.keep (dZ Keeps.r) ?_;refine zV ?_;exact⟨rfl,g6,by simpa[EF]using Z,by simp[GK,EF]⟩
theorem b6q b x I:yY aA 132 [ptr b 0] I [(b,yX 204 [x,.slice none 0 0])] (fun e N H'=>e= .returned (str [])∧∃y z,H'=[(b,yX 204 [y,z])]):=by
 refine zQ func132 fun w0 _=>?_;refine yU 6 ?_;refine Cj.EX [0] [] 12 kR ?_;refine yU 4 ?_;refine JA.zt 4 rfl (a5U rfl rfl) ?_;refine yU 5 ?_;refine zO 10 rfl (AY (a2z rfl rfl rfl) rfl rfl ?_);refine yU 5 ?_;refine Ej.keep (dZ Keeps.n) ?_;refine zV ?_;exact⟨rfl,_,_,rfl⟩
theorem b2Y b N c x l sp (h0:l≠[])(W:l.length≤1000000000000)(O:c≠0) I:yY aA 132 [ptr b 0] I [(b,yX 204 [x,.slice (some ⟨N,0,none⟩) l.length c]),(N,yX 5 (EF l++sp))] (fun e Z H'=>e= .returned (str l)∧∃y z,H'=[(b,yX 204 [y,z])]):=by
 refine zQ func132 fun w0 _=>?_;refine yU 6 ?_;refine Cj.EX [0] [] 12 kR ?_;refine yU 4 ?_;refine JA.zt 4 rfl (b0p rfl rfl O) ?_;refine yU 5 ?_;refine zO 10 rfl (a5P 1 l rfl rfl rfl rfl rfl underlying246 kR rfl h0 oM (AU.s AU.z) ?_);refine yU 5 ?_;refine Ej.keep (dZ (Keeps.d Keeps.n)) ?_;refine zV ?_;exact⟨rfl,_,_,rfl⟩
theorem a2H b l p g (O:BL 0 1 l.length (EF l) g)(h0:l=[]→g=none)(hl:l.length≤1000000000000) I:yY aA 132 [ptr b 0] I (GK b l p g) (fun e I' H'=>e= .returned (str l)∧∃y z,H'=[(b,yX 204 [y,z])]):=by
 cases g with
 |none=>
  have:l=[]:=List.length_eq_zero_iff.1 O.1;subst this;exact b6q b _ I
 |some q=>
  obtain⟨gb,c,sp⟩:=q;have N:l≠[]:=fun h=>by cases h0 h
  have W:=O.2.1;have Z:=O.2.2;have:0<l.length:=List.length_pos_iff.2 N;exact b2Y b gb c _ l sp N hl (by rw[W]at Z;omega) I
theorem c4b b x I:yY aA 131 [ptr b 0] I [(b,yX 204 [x,.slice none 0 0])] (fun e N H'=>e= .returned (i64 0)∧H'=[(b,yX 204 [x,.slice none 0 0])]):=by
 refine zQ func131 fun w0 _=>?_;refine zV ?_;exact rT
theorem b9T b x p n c I:yY aA 131 [ptr b 0] I [(b,yX 204 [x,.slice p n c])] (fun e N H'=>e= .returned (i64 n)∧H'=[(b,yX 204 [x,.slice p n c])]):=by
 refine zQ func131 fun w0 _=>?_;refine zV ?_;exact rT
theorem c5F b x n g {sz xs}(N:BL 0 sz n xs g) I:yY aA 131 [ptr b 0] I [(b,yX 204 [x,gV n g])] (fun e O H'=>e= .returned (i64 n)∧H'=[(b,yX 204 [x,gV n g])]):=by
 cases g with
 |none=>
  obtain rfl:n=0:=N.1;exact c4b b x I
 |some q=>exact b9T b x _ n _ I
theorem c0R b x y I:yY aA 133 [ptr b 0] I [(b,yX 204 [x,y])] (fun e N H'=>e= .returned (.tuple #[])∧H'=[(b,yX 204 [.pointer none,.slice none 0 0])]):=by
 refine zQ func133 fun w0 _=>?_;refine yU 14 ?_;refine Ej.QW rfl rfl ?_;exact rT
end Go.Proofs.YtekmeaoblpfnpaaGreatDoor
end
namespace Go.Proofs.YtekmeaoblpfnpaaGreatDoor
open Go.ChangeShapes Go.WideShapes Go.ChangeAt Go.RowKit Go.Sx Go.Lib Go.ChangeMaps Go.WideMaps
theorem own:ownKnob aA.godebug=none:=kR
def HW (W:World):Heap:=fun b=>W.heap[b]?
theorem HW.ready W:Ready (HW W) [] W:=⟨fun _ _ h=>h,sI,sI,sI⟩
theorem HW.below{W w' N H'}(h:St W [] (HW W) N H' w'):Below W.heap.size W w':=⟨h.os,h.tape,h.output,h.size,fun b O=>h.frm b O sI⟩
theorem HW.calls{f args W v}(h:Sx.Pure aA f args (HW W) v):Calls aA f args.toArray W fun e w'=>e= .returned v∧Below W.heap.size W w':=
 (h.2 W (HW.ready W)).mono fun _ _ ⟨_,_,N,h1,_,_⟩=>⟨h1,HW.below N⟩
theorem b7d{H:Type}{enc P f}{s:ChangeSpec}{a0 fresh a3 again W W' args v ds gs N Z pv}
 (hB:Below W.heap.size W W')(hW:DataW.Whole enc P f.params.toList s.vars a0 W args.toList ds gs N)(a6:N=Z++pv)
 (a4:∀(b:Nat) (sp:Nat→Bool) (hd:Bool),dS enc P W' b sp hd f.resultTypes.toList (v.resultList f.resultTypes.size) (s.fn H (ds++gs)).results [])
 (a1:∀sp:Nat→Bool,(∀p∈N,sp p.block=true)→dS enc P W' 0 sp true f.params.toList args.toList (s.fn H (ds++gs)).args Z)
 (a2:∀sp:Nat→Bool,(∀p∈N,sp p.block=true)→DataW.TrodVars enc P W' sp s.vars (s.fn H (ds++gs)).vars pv)
 (a9:∀(j:Nat) (t:TypeId) (r:Value),f.resultTypes[j]?=some t→(v.resultList f.resultTypes.size)[j]?=some r→dW P W' .any 0 t r):s.post enc P f a0 fresh a3 again W args v W':=by
 have a5:∀p∈N,p.block<W.heap.size:=hW.lt;have mem:∀p,p∈N↔p∈Z∨p∈pv:=fun p=>by rw[a6];exact aX
 have both:([]++Z)++pv=N:=by rw[a6];rfl
 refine⟨ds,gs,N,[],Z,pv,hW,a4 _ _ _,a1 _ fun p O=>zH (a5 p O),a2 _ fun p O=>zH (a5 p O),World.keptBut_mono (fun p O=>⟨O,.inr ((mem p).1 O)⟩) (hB.frame (· ∈N)),fun _=>?_⟩;have aa:=a1 (fun _=>true) fun _ _=>rfl;obtain⟨_,_,_,_,_,a8,ab⟩:=hW;refine⟨a9,_,_,([]++Z)++pv,⟨[]++Z,pv,trodAll_append aa (a4 _ _ _),a2 _ fun _ _=>rfl,rfl,fun b off O=>?_,fun ha=>?_⟩,fun p O _=>?_⟩
 ·have a7:MemPlace.cell b off∈N:=both▸O;have ac:b<W.heap.size:=a5 _ a7;have hf:=a8 b off a7;unfold World.frozen? at hf ⊢;rw[hB.block b ac];exact hf
 ·exact both▸ab ha
 exact both▸O
def Again {H:Type} (enc:TypeId×Value→H) (W:World) (t:TypeId) (v:Value) (d:DataW H) (p:List MemPlace):Prop:=
 ∀W',Below W.heap.size W W'→∀sp:Nat→Bool,(∀q∈p,sp q.block=true)→bY enc aA W' 0 sp true t v d p
section
variable {H:Type} {enc:TypeId×Value→H} {W:World} {base:Nat}
end
theorem b1H{H:Type}{enc:TypeId×Value→H} os {f fn}{s:OpenSpec}{O W N} args
 (hv:((aV aA os N).forCall (fun _ _=>0) ⟨#[],args,[]⟩).variablesZipB aA=true)
 (hr:(((aV aA os N).forCall (fun _ _=>0) ⟨#[],args,[]⟩).heap.toList.drop aA.globals.size).take ((begin aA (fun _ _=>0) default).world.heap.size-aA.globals.size)=(begin aA (fun _ _=>0) default).world.heap.toList.drop aA.globals.size)
 (Z:Input.okWideB aA ((aV aA os N).forCall (fun _ _=>0) ⟨#[],args,[]⟩) f ⟨#[],args,[]⟩=true)
 (a0:s.preRow enc aA fn O W N ((aV aA os N).forCall (fun _ _=>0) ⟨#[],args,[]⟩).memory args):
 ∃(w:World) (tape:Tape) (i:Input),w.os=os∧(w.forCall tape i).Shaped aA∧i.vars=[]∧Input.okWide aA (w.forCall tape i) .any w.heap.size f i∧
  s.preRow enc aA fn O W N (w.forCall tape i).memory i.args∧({}:Assume).holds aA (lone (Frame.enter aA f i.args .normal) [] (w.forCall tape i)):=
 ⟨aV aA os N,fun _ _=>0,⟨#[],args,[]⟩,World.laidAll_os _ _ _,World.shaped_of_ZipB hv hr,(bP (base:=0) Z).1,(bP Z).2,a0,by
  simp only[Assume.holds];exact⟨sI,sI,sI,sI,sI⟩⟩
section
variable {H:Type} {enc:TypeId×Value→H} {W:World} {base:Nat}
def Arg (enc:TypeId×Value→H) (W:World) (t:TypeId) (cs:List Value) (m:Nat):Prop:=∃n x,bZ enc aA W 0 (fun _=>true) true n t cs=some x∧aB x.1=m
theorem Arg.of{t v d p}(h:bY enc aA W 0 (fun _=>true) true t v d p):Arg enc W t v.cells.toList (aB d):=by
 obtain⟨n,N⟩:=h;exact⟨n,_,N,rfl⟩
theorem laidOut:laidOutB aA=true:=kR
theorem again{t v d p}(hr:aA.readableRec t=true)(N:t<aA.types.size)(h:bY enc aA W 0 (fun _=>true) true t v d p)(O:∀x∈p,x.block<W.heap.size):Again enc W t v d p:=
 fun _ hB _ Z=>WideElems.Trod_stays laidOut hr N h (fun _ hx=>hB.same (O _ hx)) Z
theorem mapM_some{α β:Type}{g}:∀{l:List α} {ys:List β},l.mapM g=some ys→ys.length=l.length∧∀(i:Nat) x,l[i]?=some x→∃y,ys[i]?=some y∧g x=some y
 |[],ys,h=>by simp at h;subst h;exact⟨rfl,fun i x N=>by simp at N⟩
 |a::l,ys,h=>by
  rw[List.mapM_cons]at h;cases ha:g a with
  |none=>simp[ha]at h
  |some y=>
   cases hl:l.mapM g with
   |none=>simp[ha,hl]at h
   |some zs=>
    simp[ha,hl]at h;subst h;obtain⟨h1,h2⟩:=mapM_some hl;refine⟨by simp[h1],fun i x N=>?_⟩;cases i with
    |zero=>simp at N;subst N;exact⟨y,rfl,ha⟩
    |succ i=>exact h2 i x (by simpa using N)
theorem a1S:∀(l:List (DataW H)),dK l=(l.map aB).sum
 |[]=>rfl
 |d::r=>by simp only[dK,aF,bI,a1S r]
theorem Arg.step{t cs m}(h:Arg enc W t cs m):∃n x,aS enc aA W 0 (fun _=>true) true (bZ enc aA W 0 (fun _=>true) true n) t cs=some x∧aB x.1=m:=by
 obtain⟨n,x,h,N⟩:=h;cases n with
 |zero=>simp[bZ]at h
 |succ n=>exact⟨n,x,(DataW.trod_step enc aA W 0 (fun _=>true) true n t cs).symm.trans h,N⟩
theorem Arg.int{t k cs m}(O:aA.underlying t=some (.int k))(h:Arg enc W t cs m):∃z,cs=[.int k z]∧(Lit.int k z).wf=true∧m=1:=by
 obtain⟨n,x,h,N⟩:=h;obtain⟨z,rfl,rfl,Z⟩:=DataW.trod_int O h;simp only[aB]at N;exact⟨z,rfl,Z,N.symm⟩
theorem Arg.bool{t cs m}(N:aA.underlying t=some .bool)(h:Arg enc W t cs m):∃b:Bool,cs=[.bool b]:=by
 obtain⟨n,x,h,_⟩:=h.step;unfold aS at h;rw[N]at h
 split at h<;>simp_all
theorem Arg.struct{t fs cs m}(Z:aA.underlying t=some (.struct fs))(h:Arg enc W t cs m):
 cs.length=aA.cellsOf t∧∃ms:List Nat,ms.length=fs.size∧ms.sum+1=m∧∀(i:Nat) f O,fs[i]?=some f→ms[i]?=some O→Arg enc W f.type ((cs.drop f.offset).take (aA.cellsOf f.type)) O:=by
 obtain⟨n,x,h,hm⟩:=h.step;unfold aS at h;simp only[Z]at h
 split at h
 ·rename_i hl
  refine⟨hl,?_⟩;simp only[aU]at h;obtain⟨xs,hx,rfl⟩:=h;obtain⟨h1,h2⟩:=mapM_some hx;refine⟨xs.map fun y=>aB y.1,by simp[h1],?_,fun i f O hf N=>?_⟩
  ·rw[←hm];simp only[aB,a1S,aQ];rfl
  obtain⟨y,hy,hg⟩:=h2 i f (by simpa using hf);rw[aN,hy]at N;simp only[bU,aK]at N;exact⟨n,y,hg,N⟩
 cases h
theorem Arg.array{t e k cs m}(Z:aA.underlying t=some (.array k e))(h:Arg enc W t cs m):
 cs.length=aA.cellsOf t∧∃ms:List Nat,ms.length=k∧ms.sum+1=m∧∀(i O:Nat),ms[i]?=some O→Arg enc W e ((cs.drop (i*aA.cellsOf e)).take (aA.cellsOf e)) O:=by
 obtain⟨n,x,h,hm⟩:=h.step;unfold aS at h;simp only[Z]at h
 split at h
 ·rename_i hl
  refine⟨hl,?_⟩;simp only[aU]at h;obtain⟨xs,hx,rfl⟩:=h;obtain⟨h1,h2⟩:=mapM_some hx;rw[bJ]at h1;refine⟨xs.map fun y=>aB y.1,by simp[h1],?_,fun i O N=>?_⟩
  ·rw[←hm];simp only[aB,a1S,aQ];rfl
  have hi:i<k:=by
   have:=(aH.1 N).1;simpa[h1]using this
  obtain⟨y,hy,hg⟩:=h2 i i (aZ hi);rw[aN,hy]at N;simp only[bU,aK]at N;exact⟨n,y,hg,N⟩
 cases h
theorem cells_at{a n cs}(h:W.cells? 0 a n=some cs):cs.length=n∧∀i,i<n→W.cell? (a.add i)=cs[i]?:=by
 unfold World.cells? at h;rw[zF (bD _)]at h;obtain⟨h1,h2⟩:=mapM_some h;rw[bJ]at h1;refine⟨h1,fun i N=>?_⟩;obtain⟨y,O,Z⟩:=h2 i i (aZ N);rw[Z,O]
theorem Arg.slice{t e sz cs m}(ht:aA.underlying t=some (.slice e))(a4:aA.cellsOf e=sz)(a2:0<sz)(h:Arg enc W t cs m):
 ∃(p:Option Addr) (len cap:Nat) (ms:List Nat),cs=[.slice p len cap]∧len≤cap∧cap≤maxLen∧ms.length=len∧ms.sum+1≤m∧(0<len→∃b o cells T fr,p=some ⟨b,o,none⟩∧HW W b=some (.cells (List.toArray cells) T fr)∧
  ∀(i m':Nat),ms[i]?=some m'→((cells.drop (o+i*sz)).take sz).length=sz∧Arg enc W e ((cells.drop (o+i*sz)).take sz) m'):=by
 obtain⟨n,x,g,hm⟩:=h.step;clear h;unfold aS at g;simp only[ht]at g
 split at g<;>first|(exfalso;simp_all;done)|skip
 ·simp only[aK]at g;subst g;exact⟨none,0,0,[],rfl,bW _,bD _,rfl,by rw[←hm];simp[aB],fun h=>absurd h dE⟩
 rename_i a len cap he
 cases he
 split at g
 ·rename_i hl
  simp only[if_true,bQ,aU]at g;obtain⟨O,a5,rest,_,rfl⟩:=g;obtain⟨h1,h2⟩:=mapM_some a5;rw[bJ]at h1;refine⟨some a,len,cap,O.map fun y=>aB y.1,rfl,hl.2.1,hl.2.2,by simp[h1],?_,fun h0=>?_⟩
  ·rw[←hm];simp only[aB,a1S,aQ];have:(O.map fun y=>aB y.1).sum=(O.map (aB∘fun x=>x.1)).sum:=rfl;omega
  have elem:∀i,i<len→∃(cs:List Value) (y:DataW H×List MemPlace),W.cells? 0 (a.add (i*sz)) sz=some cs∧O[i]?=some y∧bZ enc aA W 0 (fun _=>true) true n e cs=some y:=fun i hi=>by
   obtain⟨y,hy,hg⟩:=h2 i i (aZ hi);simp only[bQ]at hg;obtain⟨cs,hc,hg⟩:=hg;rw[a4]at hc;exact⟨cs,y,hc,hy,hg⟩
  obtain⟨_,y0,a0,_,_⟩:=elem 0 h0;obtain⟨_,a0⟩:=cells_at a0;have N:=a0 0 a2;rw[List.getElem?_eq_getElem oM]at N;rw[Nat.zero_mul]at N;have ha:a.add 0=a:=by simp[Addr.add]
  rw[ha,ha]at N;obtain⟨a1,off,a3⟩:=a;cases a3 with
  |some sp=>obtain⟨_,_,_,_,hs⟩:=World.shape?_of_cell? N;cases hs
  |none=>
   have h':=N;unfold dY at h';cases hb:W.heap[a1]? with
   |none=>simp only[hb]at h';cases h'
   |some o=>
    cases o with
    |cells cells T fr=>
     refine⟨a1,off,cells.toList,T,fr,rfl,by show W.heap[a1]?=_;rw[hb],fun i m' Z=>?_⟩;have hi:i<len:=by
      have:=(aH.1 Z).1;simpa[h1]using this
     obtain⟨cs,y,hc,hy,hg⟩:=elem i hi;obtain⟨a6,a7⟩:=cells_at hc;have a8:(cells.toList.drop (off+i*sz)).take sz=cs:=by
      apply dG
      intro j;rcases Nat.lt_or_ge j sz with hj|hj
      ·have h3:=a7 j hj;rw[dX,dX]at h3;unfold dY at h3;simp only[hb]at h3;rw[dB,zF hj,List.getElem?_drop,←h3];simp
      rw[dB,zD oM,List.getElem?_eq_none oM]
     rw[a8];rw[aN,hy]at Z;simp only[bU,aK]at Z;exact⟨a6,n,y,hg,Z⟩
    |_=>simp only[hb]at h';cases h'
 cases g
theorem Arg.row{α:Type}{f size t e sz cs m}(ht:aA.underlying t=some (.slice e))(a3:aA.cellsOf e=sz)(a1:0<sz)(Q:α→Prop)
 (he:∀(cs:List Value) (O:Nat),O≤m→Arg enc W e cs O→∃x:α,cs=f x∧size x≤O∧Q x)(h:Arg enc W t cs m):
 ∃(l:List α) (v:Value),cs=[v]∧zS f (HW W) l v∧(l.map size).sum+1≤m∧l.length≤maxLen∧∀x∈l,Q x:=by
 obtain⟨p,len,cap,ms,rfl,a0,_,a4,a5,hb⟩:=h.slice ht a3 a1;rcases Nat.eq_zero_or_pos len with h0|h0
 ·subst h0;exact⟨[],_,rfl,⟨p,cap,rfl,a0,fun h=>absurd rfl h⟩,by simp;omega,bD _,fun x hx=>by cases hx⟩
 obtain⟨b,o,N,T,fr,rfl,a2,Z⟩:=hb h0
 have key:∀(ms:List Nat) (o:Nat),ms.sum+1≤m→(∀(i O:Nat),ms[i]?=some O→((N.drop (o+i*sz)).take sz).length=sz∧Arg enc W e ((N.drop (o+i*sz)).take sz) O)→
  ∃(l:List α) (sp:List Value),l.length=ms.length∧N.drop o=l.flatMap f++sp∧(l.map size).sum≤ms.sum∧∀x∈l,Q x:=by
  intro ms
  induction ms with
  |nil=>exact fun o _ _=>⟨[],N.drop o,rfl,rfl,bW _,fun x hx=>by cases hx⟩
  |cons a r ih=>
   intro o hs Z;rw[bI]at hs;have h0:=Z 0 a rfl;rw[Nat.zero_mul,Nat.add_zero]at h0;obtain⟨x,hx,_,hq⟩:=he _ a oM h0.2;obtain⟨l,sp,h1,h2,h3,h4⟩:=ih (o+sz) oM fun i O hi=>by
    have:=Z (i+1) O (by simpa using hi);rw[show o+(i+1)*sz=o+sz+i*sz by rw[Nat.add_mul];omega]at this;exact this
   refine⟨x::l,sp,by simp[h1],?_,by simp only[aF,bI];omega,fun y hy=>?_⟩
   ·rw[List.flatMap_cons,dF,←h2,←hx,←List.drop_drop];exact(List.take_append_drop sz (N.drop o)).symm
   rcases bH.1 hy with rfl|hy
   ·exact hq
   exact h4 y hy
 obtain⟨l,sp,h1,h2,h3,h4⟩:=key ms o a5 Z;have a6:l.length=len:=h1.trans a4;subst a6;exact⟨l,_,rfl,⟨_,cap,rfl,a0,fun _=>⟨b,o,N,T,fr,sp,rfl,a2,h2⟩⟩,oM,oM,h4⟩
theorem b2n{α:Type}{f}:∀{l:List α},(∀x,1≤f x)→l.length≤(l.map f).sum
 |[],_=>bD _
 |a::r,h=>by
  have:=b2n (l:=r) h;have:=h a;simp only[List.length_cons,aF,bI];omega
theorem Arg.ints{t e cs m}(O:aA.underlying t=some (.slice e))(Z:aA.underlying e=some (.int .i64))(N:aA.cellsOf e=1)(h:Arg enc W t cs m):
 ∃(l:List Int) (v:Value),cs=[v]∧zS (fun n:Int=>[i64 n]) (HW W) l v∧l.length+1≤m:=by
 obtain⟨l,v,h1,h2,h3,_,_⟩:=h.row (f:=fun n:Int=>[i64 n]) (size:=fun _=>1) O N dE (fun _=>True) fun cs m' _ h=>by
  obtain⟨z,rfl,_,rfl⟩:=h.int Z;exact⟨z,rfl,bW _,trivial⟩
 have:=b2n (f:=fun _:Int=>1) (l:=l) fun _=>bW _;exact⟨l,v,h1,h2,oM⟩
theorem b9x{t e v d p}(Z:aA.underlying t=some (.slice e))(he:aA.underlying e=some (.int .i64))(a0:aA.cellsOf e=1)(hr:aA.readableRec t=true)(N:t<aA.types.size)
 (O:dW aA W .any base t v)(h:bY enc aA W 0 (fun _=>true) true t v d p)(a1:∀x∈p,x.block<W.heap.size):
 ∃l:List Int,zS (fun n:Int=>[i64 n]) (HW W) l v∧l.length+1≤aB d∧Again enc W t v d p:=by
 obtain⟨a,len,cap,rfl⟩:=okWide_slice Z O;obtain⟨l,v',h1,h2,h3⟩:=(Arg.of h).ints Z he a0;obtain rfl:Value.slice a len cap=v':=by simpa[Value.cells]using h1
 exact⟨l,h2,h3,again hr N h a1⟩
end
end Go.Proofs.YtekmeaoblpfnpaaGreatDoor
namespace Go.Proofs.YtekmeaoblpfnpaaGreatDoor.Sync
open _root_.Go.Proofs.Tryz
open Go Go.Sx
theorem disable w:(callFunc 331 #[]).run aA w= .ok (.value (.tuple #[])) w:=run_call_mark0 func331 kR kR kR .disable kR w
theorem enable w:(callFunc 333 #[]).run aA w= .ok (.value (.tuple #[])) w:=run_call_mark0 func333 kR kR kR .enable kR w
theorem acquire a w:(callFunc 334 #[.pointer (some a)]).run aA w= .ok (.value (.tuple #[])) w:=run_call_marked func334 kR kR kR .acquire kR a w
theorem releaseMerge a w:(callFunc 336 #[.pointer (some a)]).run aA w= .ok (.value (.tuple #[])) w:=run_call_marked func336 kR kR kR .releaseMerge kR a w
theorem store_deferred a x u w (hc:w.cell? a=some x)(hz:w.frozen? a=false):
 CallsD aA 306 #[.pointer (some a),.bool true] u w fun e W w'=>W=u∧(e= .returned (.tuple #[])∧w'=w.drew.setCell a (.int .u32 1)):=by
 have N:w.drew.cell? a=some x:=by go_simp
 have O:w.drew.frozen? a=false:=by go_simp
 have Z:=run_call_store (P:=aA) func321 kR kR kR kR (k:= .u32) (y:=1) N O
 go_enter_d func306,Tryz.ntmps306
 go_wp2
 go_region_calls
 all_goals (go_end0;exact rT)
theorem unlock_deferred a u w (N:w.cell? a=some (.int .i32 1))(O:w.frozen? a=false):
 CallsD aA 305 #[.pointer (some a)] u w fun e W w'=>W=u∧(e= .returned (.tuple #[])∧w'=w.setCell a (.int .i32 0)):=by
 have hd:=disable;have he:=enable;have hr:=releaseMerge;have Z:=run_call_add (P:=aA) func337 kR kR kR .i32 kR (y:= -1) (s:=0) N O (by simp[go_sem];rfl);have a0:=run_convert_to_unsafe (P:=aA) (src:=408) (dst:=284) underlying408 a9J kR N
 go_enter_d func305,Tryz.ntmps305
 go_wp2
 go_end0
 go_wp2
 go_end0
 exact rT
theorem lock_free a w (N:w.cell? a=some (.int .i32 0))(W:w.frozen? a=false):
 Calls aA 304 #[.pointer (some a)] w fun e w'=>e= .returned (.tuple #[])∧w'=w.setCell a (.int .i32 1):=by
 have hd:=disable;have he:=enable;have ha:=acquire;have Z:=run_call_cas_hit (P:=aA) func332 kR kR kR .i32 kR (y:=1) N W;have O:(w.setCell a (.int .i32 1)).cell? a=some (.int .i32 1):=World.cell?_setCell_same w a _ N;have a0:=run_convert_to_unsafe (P:=aA) (src:=408) (dst:=284) underlying408 a9J kR O
 go_enter func304,Tryz.ntmps304
 go_wp2
 first|go_end0|(simp only[Exit.inBlock,Exit.then];refine bodyPost_ret (results_none rfl _ _ _) rfl ?_)|refine bodyPost_ret (results_none rfl _ _ _) rfl ?_
 go_wp2
 go_end0
 exact rT
theorem b7I a x w (N:w.cell? a=some (.int .u32 x)):
 Calls aA 277 #[.pointer (some a)] w fun e w'=>e= .returned (.bool (x != 0))∧w'=w:=by
 have O:=run_call_load (P:=aA) func303 kR kR kR .u32 kR N
 go_enter func277,Tryz.ntmps277
 go_wp2
 go_ret
 exact rT
