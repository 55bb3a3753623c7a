/-
  Own texts on the laws of the seat, joined: the logic, and contracts of functions. Conditions: none.
-/
import Derived.Test.YtekmeaoblpfnpaaGreatDoorNmQ
import Derived.Test.YtekmeaoblpfnpaaGreatDoorPQ2
import Derived.Test.YtekmeaoblpfnpaaGreatDoorProg
import Derived.Test.YtekmeaoblpfnpaaGreatDoorChecked
import Derived.Test.YtekmeaoblpfnpaaGreatDoorCards
import Derived.Test.YtekmeaoblpfnpaaGreatDoorTie
import Derived.ProofKit
import Derived.OpenShut
import Derived.Lay
import Derived.Deep.DeepHandedRow
import Derived.WideKeyArr2
import Derived.Carry
import Derived.Tactics
import Derived.Tactics2
import Derived.Laws.Pointers
import Derived.Laws.LoneSync
import Derived.RegionTactic
import Derived.RegionCalls
import Derived.ChangeAlike
import Derived.Lib.TrimUEq
import Derived.Lib.TrimAscii
import Derived.Lib.MapLaws
set_option linter.all false
set_option maxRecDepth 100000
set_option maxHeartbeats 40000000
open Go.Proofs.Tryz renaming prog -> aA
open UInt8 renaming ofNat -> aB
open Go.Proofs.YtekmeaoblpfnpaaGreatDoor.Rows renaming uptoBulk -> aC,uptoBulkAll -> dG
open List renaming map_cons -> aF,length_cons -> aG,getElem?_map -> aI,filter_sublist -> aN,getElem?_eq_some_iff -> aO,map_map -> aP,length_eq_zero_iff -> aS,mem_cons -> aW,getElem?_range -> aY,mem_singleton -> bC,sum_cons -> bD,length_range -> bF,mem_map -> bG,map_append -> bJ,drop_eq_nil_of_le -> bQ,mem_map_of_mem -> bY,getElem?_take -> cO,nodup_append -> cZ,ext_getElem? -> dA,append_assoc -> dD,length_drop -> dH,cons_append -> dI,nodup_cons -> dJ,mem_append -> dK,mem_filter -> dL,drop_drop -> dP,replicate -> dQ,map_nil -> dU
open Option.some renaming injEq -> aH
open Go.Utf8 renaming decode -> aJ,encode -> bT,valid -> bW
open Go.Lib renaming decodeL_width -> aK,decodeL_drop -> aZ
open Go.DataW renaming trodStep -> aQ,Trod -> bU,trod -> bV,TrodAll -> dS
open Nat renaming zero_le -> aT,le_refl -> aV,blt -> dN
open Option renaming map_eq_some_iff -> aU,bind_eq_some_iff -> bI,map_some -> bM
open Go.World renaming laidAll -> aX,cell? -> dX
open Go.Input renaming okWide_of_okWideB -> bH
open Go.Builtin renaming delete_ -> bK
open Go.Sx.World renaming block -> bP
open Bool renaming false_eq_true -> bZ,noConfusion -> dF
open Function renaming comp_def -> dB
open Go.Value renaming oneCell' -> dM,okWide -> dV
open Go.Instr renaming findKey -> dR
open Go.Addr renaming add_lit -> dW
open Go.Sx.Keeps renaming k -> dY
namespace Go.Sx
open Go
section
variable {α:Type} [BEq α] [LawfulBEq α]
def MS (l:ML α) (c:Nat):Prop:=(l.map (·.1)).Nodup∧(l.map (·.2.2)).Nodup∧∀p∈l,p.2.2<c
omit [BEq α] [LawfulBEq α] in
theorem MS.nil:MS ([]:ML α) 0:=⟨.nil,.nil,fun _ h=>by simp at h⟩
theorem a8a{l:ML α}{a:α}(h:(l.map (·.1)).Nodup){v:Value}:zY l a=some v↔∃n,(a,v,n)∈l:=by
 induction l with
 |nil=>simp[zY]
 |cons p r O=>
  obtain⟨b,u,n⟩:=p;rw[aF,dJ]at h;unfold zY
  by_cases hab:a=b
  ·subst hab;simp only[BEq.rfl,if_true,aH];constructor
   ·rintro rfl;exact⟨n,.head _⟩
   rintro⟨k,N⟩;rcases aW.1 N with e|e
   ·exact(zC (fun x=>x.2.1) e).symm
   exact absurd (bY (f:=(·.1)) e) h.1
  rw[zD (by simpa using hab),O h.2];constructor
  ·rintro⟨k,N⟩;exact⟨k,.tail _ N⟩
  rintro⟨k,N⟩;rcases aW.1 N with e|e
  ·exact absurd (zC (·.1) e) hab
  exact⟨k,e⟩
theorem GK{l}{a:α}:zY l a=none↔a ∉ l.map (·.1):=by
 induction l with
 |nil=>simp[zY]
 |cons p r N=>
  obtain⟨b,u,n⟩:=p;unfold zY
  by_cases hab:a=b
  ·subst hab;simp
  rw[zD (by simpa using hab),N];simp[hab]
theorem MZ l (a b:α) v c:zY (AQ l a v c) b=if b == a then some v else zY l b:=by
 induction l with
 |nil=>unfold AQ zY;by_cases h:b=a<;>simp[h,zY]
 |cons p r O=>
  obtain⟨d,u,n⟩:=p;unfold AQ
  by_cases had:a=d
  ·subst had;rw[zF sI]
   by_cases h:b=a
   ·subst h;simp[zY]
   have N:(b == a)=false:=by simpa using h
   simp[zY,N]
  rw[zD (by simpa using had)]
  by_cases hbd:b=d
  ·subst hbd;have N:(b == a)=false:=by simpa using fun e:b=a=>had e.symm
   simp[zY,N]
  have N:(b == d)=false:=by simpa using hbd
  simp only[zY,N,bZ,if_false,O]
theorem b4e{l:ML α}{a:α}{v:Value}{c:Nat}:(AQ l a v c).map (·.1)=if a∈l.map (·.1)then l.map (·.1)else l.map (·.1)++[a]:=by
 induction l with
 |nil=>simp[AQ]
 |cons p r N=>
  obtain⟨d,u,n⟩:=p;unfold AQ
  by_cases had:a=d
  ·subst had;simp
  rw[zD (by simpa using had),aF,N]
  by_cases h:a∈r.map (·.1)
  ·simp[h]
  rw[zD h,zD (by simp only[aF,aW,not_or];exact⟨had,h⟩)];rfl
theorem b5V{l}{a x:α}{v c}:x∈(AQ l a v c).map (·.1)↔x∈l.map (·.1)∨x=a:=by
 rw[b4e]
 split
 ·rename_i h
  exact⟨.inl,fun g=>g.elim id (fun e=>e▸h)⟩
 simp
theorem MS.set{l:ML α}{c:Nat}(h:MS l c)(a:α)(v:Value):MS (AQ l a v c) (DJ l a c):=by
 obtain⟨h1,h2,h3⟩:=h;cases hm:zY l a with
 |none=>
  obtain⟨-,W⟩:=PZ l 0 hm;have ha:=GK.1 hm;rw[W,DJ,hm];refine⟨?_,?_,?_⟩
  ·rw[bJ,cZ];refine⟨h1,sI,fun x Z y N e=>?_⟩;rw[aF,dU,bC]at N;exact ha (by have:x=a:=e.trans N;exact this▸Z)
  ·rw[bJ,cZ];refine⟨h2,sI,fun x Z y N e=>?_⟩;rw[aF,dU,bC]at N;obtain⟨p,O,rfl⟩:=bG.1 Z;have:=h3 p O;dsimp only at N e;omega
  intro p O;simp only[Option.isSome_none,bZ,if_false];rcases dK.1 O with g|g
  ·exact Nat.lt_succ_of_lt (h3 p g)
  rw[bC]at g;subst g;exact Nat.lt_succ_self _
 |some u=>
  obtain⟨j,u',n,-,hj,W⟩:=YG l 0 hm;have he:∀f:α×Value×Nat→Nat ⊕ α,f (a,v,n)=f (a,u',n)→(l.set j (a,v,n)).map f=l.map f:=fun f hf=>by
   apply dA
   intro i;rw[aI,aI,List.getElem?_set]
   by_cases hi:j=i
   ·subst hi;rw[zF rfl,hj,zF (aO.1 hj).1];simp[hf]
   rw[zD hi]
  have e1:(l.set j (a,v,n)).map (·.1)=l.map (·.1):=by
   have:=zC (List.map (fun s:Nat ⊕ α=>match s with| .inr x=>x| .inl _=>a)) (he (fun p=> .inr p.1) rfl);simpa[aP,dB]using this
  have e2:(l.set j (a,v,n)).map (·.2.2)=l.map (·.2.2):=by
   have:=zC (List.map (fun s:Nat ⊕ α=>match s with| .inl x=>x| .inr _=>0)) (he (fun p=> .inl p.2.2) rfl);simpa[aP,dB]using this
  rw[W,DJ,hm];refine⟨by rw[e1];exact h1,by rw[e2];exact h2,fun p O=>?_⟩;have:p.2.2∈l.map (·.2.2):=e2▸bY O;obtain⟨q,hq,e⟩:=bG.1 this;exact e▸h3 q hq
end
section
variable {cx:Cx} {Q:Qt} {o:Oper} {e:Env} {S:World→Prop} {α:Type} [BEq α] [LawfulBEq α]
omit [BEq α] [LawfulBEq α] in
theorem SH{b m N c x kv}{l vis:ML α}{p:α×Value×Nat}(W:o.op= .entry x)(Z:ev e x=some (ptr b 0))(hb:yY S b (UE m N (vis++[p]) c))(hm:yY S m (zV kv l c))(hp:p∈l)(hn:(l.map (·.2.2)).Nodup):BJ cx o e S (.tuple #[kv p.1,p.2.1]):=by
 intro w0 w ha O;have h1:=hb w O;have h2:=hm w O;have h3:w.heap[b]?=some (.mapIter (some m) N ((vis.map (·.2.2)).toArray.push (FX kv p).born) c):=by
  rw[h1];simp[UE,FX]
 have hr:=run_entry_at (P:=cx.P) w b m N _ _ c (FX kv p) h3 h2 (by simp only[bG];exact⟨p,hp,rfl⟩) (by
  rw[aP];exact hn)
 have:(execOp w0.eval o).run cx.P w= .ok (.value (.tuple #[kv p.1,p.2.1])) w:=by
  simp only[execOp,W,ha.eval Z,Sem.run_bind,hr,Result.andThen_ok,Sem.run_pure]
 exact this
end
section
variable {α:Type} [BEq α] [LawfulBEq α]
def EN (l:ML α) (a:α):ML α:=match l with
 |[]=>[]
 |(b,v,n)::r=>if a == b then r else(b,v,n)::EN r a
omit [LawfulBEq α] in
theorem a8v{a}:∀(l:ML α) (i:Nat),(midx l a i=none∧EN l a=l)∨∃j v,midx l a i=some (i+j,v)∧EN l a=l.eraseIdx j∧j<l.length
 |[],_=> .inl rT
 |(b,v,n)::r,i=>by
  unfold midx EN
  by_cases h:(a == b)=true
  ·rw[zF h,zF h];exact .inr ⟨0,v,rfl,rfl,sI⟩
  rw[zD h,zD h];rcases a8v (a:=a) r (i+1)with⟨h1,h2⟩|⟨j,u,h1,h2,h3⟩
  ·exact .inl ⟨h1,by rw[h2]⟩
  refine .inr ⟨j+1,u,?_,by rw[h2];rfl,by simpa using h3⟩;rw[h1,Nat.add_assoc,Nat.add_comm 1 j]
theorem KH{a}:∀{l:ML α},(l.map (·.1)).Nodup→EN l a=l.filter fun p=> !(p.1 == a)
 |[],_=>rfl
 |(b,v,n)::r,h=>by
  rw[aF,dJ]at h;unfold EN
  by_cases hb:(a == b)=true
  ·have O:=zB hb;subst O;rw[zF hb,List.filter_cons_of_neg sI];rw[List.filter_eq_self.2];intro p W;have:p.1≠a:=fun g=>h.1 (bG.2 ⟨p,W,g⟩);simpa using this
  have N:(b == a)=false:=by
   rw[Bool.eq_false_iff];intro g;exact hb (by rw[zB g];simp)
  rw[zD hb,List.filter_cons_of_pos (by simp[N]),KH h.2]
theorem MS.del{l:ML α}{c:Nat}(h:MS l c)(a:α):MS (EN l a) c:=by
 rw[KH h.1];refine⟨h.1.sublist (aN.map _),h.2.1.sublist (aN.map _),fun p N=>h.2.2 p (dL.1 N).1⟩
theorem a1D{l:ML α}(h:(l.map (·.1)).Nodup)(a b:α):zY (EN l a) b=if b == a then none else zY l b:=by
 by_cases hb:(b == a)=true
 ·rw[zF hb,GK,KH h];have:=zB hb;subst this;simp
 rw[zD hb];cases hm:zY l b with
 |none=>
  rw[GK]at hm ⊢;rw[KH h];exact fun g=>hm ((aN.map _).subset g)
 |some v=>
  have h2:((EN l a).map (·.1)).Nodup:=by rw[KH h];exact h.sublist (aN.map _)
  rw[a8a h]at hm;obtain⟨n,N⟩:=hm;rw[a8a h2,KH h];exact⟨n,dL.2 ⟨N,by simpa using hb⟩⟩
variable {cx:Cx} {Q:Qt} {e:Env} {I:Heap} {H:HL} {o:Oper} {C:Ct} {S:World→Prop}
omit [LawfulBEq α] in
theorem b2j{P:Program}{T U K E b c:Nat}{t:TypeId}{kv:α→Value}{l:ML α}{a:α}{w:World}(O:P.underlying T=some (.map K E))(hk:CZ P K kv)(W:w.heap[b]?=some (zV kv l c)):
 (bK #[T,U] t #[.map (some b),kv a]).run P w= .ok (.tuple #[]) (bP w b (zV kv (EN l a) c)):=by
 obtain⟨Z,hc,_⟩:=hk;have hg:(getObj b).run P w= .ok (zV kv l c) w:=by simp[getObj,Sem.run,W,zV]
 have hset:∀o',(setObj b o').run P w= .ok () (bP w b o'):=fun o'=>by simp[setObj,Sem.run,W,bP,zV]
 rcases a8v (a:=a) l 0 with⟨h1,h2⟩|⟨j,v,h1,h2,h3⟩
 ·have N:(dR K (kv a) (l.map (FX kv))).run P w= .ok none w:=by rw[Z,h1]
  simp[bK,run_underlying O,hg,zV,hc,N,hset,h2]
 rw[Nat.zero_add]at h1;have he:∀(q:ML α) (k:Nat),(q.map (FX kv)).eraseIdx k=(q.eraseIdx k).map (FX kv):=by
  intro q
  induction q with
  |nil=>intro k;rfl
  | cons x r ih=>intro k;cases k with
    |zero=>rfl
    |succ k=>simp[ih]
 have N:(dR K (kv a) (l.map (FX kv))).run P w= .ok (some (j,v)) w:=by rw[Z,h1]
 have h5:(l.map (FX kv)).toArray.eraseIdxIfInBounds j=(((l.eraseIdx j).map (FX kv)).toArray:Array MapEntry):=by
  rw[Array.eraseIdxIfInBounds,dif_pos (by simpa using h3),List.eraseIdx_toArray,he]
 simp[bK,run_underlying O,hg,zV,hc,N,hset,h2,he]
omit [LawfulBEq α] in
theorem QF{T U K E b c:Nat}{m x:Operand}{kv:α→Value}{l a}{O:Value}{H'}(i:Nat)(ho:o.op= .call ⟨.builtin .delete,#[m,x],#[T,U]⟩)(hd:o.dst=none)(hm:ev e m=some (.map (some b)))(hx:ev e x=some O)(W:O=kv a)(hT:cx.P.underlying T=some (.map K E))(hK:CZ cx.P K kv)
 (Z:H[i]?=some (b,zV kv l c))(a0:yX H i (b,zV kv (EN l a) c) H')(kk:C e I H'):BU cx Q o e I H C:=by
 intro _ a1 w0 w N hs;unfold Oper.wp;subst W;have hb:=hs.own _ (List.mem_of_getElem? Z);have hr:=b2j (U:=U) (t:=o.type) (a:=a) hT hK hb;have:(execOp w0.eval o).run cx.P w= .ok (.value (.tuple #[])) (bP w b (zV kv (EN l a) c)):=by
  simp[execOp,ho,resolve,invoke,builtin,N.eval hm,N.eval hx,hr]
 rw[this];simp only[Oper.upon,hd];exact a1 _ _ _ kk _ _ N.SE (hs.block Z a0)
end
section
variable {cx:Cx} {o:Oper} {e:Env} {S:World→Prop}
theorem b2B{P w T K E} p (N:P.underlying T=some (.map K E)):(binOp .neq T (.map p) (.map none)).run P w= .ok (.bool p.isSome) w∧(binOp .eql T (.map p) (.map none)).run P w= .ok (.bool p.isNone) w:=by
 have h1:∀d:Nat,(Op.equalIn (d+1) T (.map p) (.map none)).run P w= .ok p.isNone w:=fun d=>by cases p<;>simp[Op.equalIn,run_underlying N]
 simp only[binOp];cases p<;>simp[Op.equal,Op.maxDepth,h1 9999]
theorem b3b{x y T U K E} p (O:o.op= .binOp .eql T x y U)(W:ev e x=some (.map p))(Z:ev e y=some (.map none))(hT:cx.P.underlying T=some (.map K E)):BJ cx o e S (.bool p.isNone):=by
 intro a w N _;have hb:=(b2B (P:=cx.P) (w:=w) p hT).2;have hg:eqGuard .eql T x y (.map p) (.map none)=pure ():=rfl;simp[execOp,O,N.eval W,N.eval Z,hb,hg]
end
end Go.Sx
namespace Go.Sx
open Go Go.Proofs
structure Wr (A:Prop):Prop where
  w:A
structure Tb (α:Type) (P:Nat→α→Prop) where
  f:Nat→Option α
  h:∀n a,f n=some a→P n a
noncomputable def TL {α:Type} {P:Nat→α→Prop} (k:Nat) {a:α} (h:P k a):Tb α P:=⟨fun n=>bif Nat.beq n k then some a else none,fun n b e=>by
 cases hk:Nat.beq n k with
 |true=>rw[hk]at e;cases e;rw[Nat.eq_of_beq_eq_true hk];exact h
 |false=>rw[hk]at e;cases e⟩
noncomputable def TN {α:Type} {P:Nat→α→Prop} (k:Nat) (a b:Tb α P):Tb α P:=⟨fun n=>bif Nat.ble n k then a.f n else b.f n,fun n c e=>by
 cases hk:Nat.ble n k with
 |true=>rw[hk]at e;exact a.h n c e
 |false=>rw[hk]at e;exact b.h n c e⟩
noncomputable def tbU:Tb TypeDesc (fun n a=>Go.Proofs.Tryz.prog.underlying n=some a):=TN 192 (TN 76 (TN 30 (TN 20 (TN 4 (TN 0 (TL 0 Tryz.underlying0) (TN 3 (TL 3 Tryz.underlying3) (TL 4 Tryz.underlying4))) (TN 5 (TL 5 Tryz.underlying5) (TN 9 (TL 9 Tryz.underlying9) (TL 20 Tryz.underlying20)))) (TN 23 (TN 21 (TL 21 Tryz.underlying21) (TN 22 (TL 22 Tryz.underlying22) (TL 23 Tryz.underlying23))) (TN 26 (TN 24 (TL 24 Tryz.underlying24) (TL 26 Tryz.underlying26)) (TN 27 (TL 27 Tryz.underlying27) (TL 30 Tryz.underlying30))))) (TN 54 (TN 36 (TN 32 (TL 32 Tryz.underlying32) (TN 35 (TL 35 Tryz.underlying35) (TL 36 Tryz.underlying36))) (TN 50 (TN 48 (TL 48 Tryz.underlying48) (TL 50 Tryz.underlying50)) (TN 51 (TL 51 Tryz.underlying51) (TL 54 Tryz.underlying54)))) (TN 59 (TN 55 (TL 55 Tryz.underlying55) (TN 57 (TL 57 Tryz.underlying57) (TL 59 Tryz.underlying59))) (TN 68 (TN 62 (TL 62 Tryz.underlying62) (TL 68 Tryz.underlying68)) (TN 69 (TL 69 Tryz.underlying69) (TL 76 Tryz.underlying76)))))) (TN 123 (TN 106 (TN 87 (TN 80 (TL 80 Tryz.underlying80) (TN 82 (TL 82 Tryz.underlying82) (TL 87 Tryz.underlying87))) (TN 91 (TN 90 (TL 90 Tryz.underlying90) (TL 91 Tryz.underlying91)) (TN 93 (TL 93 Tryz.underlying93) (TL 106 Tryz.underlying106)))) (TN 112 (TN 108 (TL 108 Tryz.underlying108) (TN 110 (TL 110 Tryz.underlying110) (TL 112 Tryz.underlying112))) (TN 118 (TN 114 (TL 114 Tryz.underlying114) (TL 118 Tryz.underlying118)) (TN 120 (TL 120 Tryz.underlying120) (TL 123 Tryz.underlying123))))) (TN 161 (TN 142 (TN 128 (TL 128 Tryz.underlying128) (TN 140 (TL 140 Tryz.underlying140) (TL 142 Tryz.underlying142))) (TN 152 (TN 149 (TL 149 Tryz.underlying149) (TL 152 Tryz.underlying152)) (TN 159 (TL 159 Tryz.underlying159) (TL 161 Tryz.underlying161)))) (TN 176 (TN 163 (TL 163 Tryz.underlying163) (TN 168 (TL 168 Tryz.underlying168) (TL 176 Tryz.underlying176))) (TN 183 (TN 180 (TL 180 Tryz.underlying180) (TL 183 Tryz.underlying183)) (TN 188 (TL 188 Tryz.underlying188) (TL 192 Tryz.underlying192))))))) (TN 312 (TN 240 (TN 213 (TN 202 (TN 197 (TL 197 Tryz.underlying197) (TN 200 (TL 200 Tryz.underlying200) (TL 202 Tryz.underlying202))) (TN 207 (TN 204 (TL 204 Tryz.underlying204) (TL 207 Tryz.underlying207)) (TN 208 (TL 208 Tryz.underlying208) (TL 213 Tryz.underlying213)))) (TN 228 (TN 215 (TL 215 Tryz.underlying215) (TN 225 (TL 225 Tryz.underlying225) (TL 228 Tryz.underlying228))) (TN 232 (TN 231 (TL 231 Tryz.underlying231) (TL 232 Tryz.underlying232)) (TN 238 (TL 238 Tryz.underlying238) (TL 240 Tryz.underlying240))))) (TN 276 (TN 262 (TN 246 (TL 246 Tryz.underlying246) (TN 254 (TL 254 Tryz.underlying254) (TL 262 Tryz.underlying262))) (TN 270 (TN 268 (TL 268 Tryz.underlying268) (TL 270 Tryz.underlying270)) (TN 272 (TL 272 Tryz.underlying272) (TL 276 Tryz.underlying276)))) (TN 284 (TN 279 (TL 279 Tryz.underlying279) (TN 281 (TL 281 Tryz.underlying281) (TL 284 Tryz.underlying284))) (TN 304 (TN 293 (TL 293 Tryz.underlying293) (TL 304 Tryz.underlying304)) (TN 308 (TL 308 Tryz.underlying308) (TL 312 Tryz.underlying312)))))) (TN 367 (TN 340 (TN 324 (TN 313 (TL 313 Tryz.underlying313) (TN 316 (TL 316 Tryz.underlying316) (TL 324 Tryz.underlying324))) (TN 328 (TN 325 (TL 325 Tryz.underlying325) (TL 328 Tryz.underlying328)) (TN 338 (TL 338 Tryz.underlying338) (TL 340 Tryz.underlying340)))) (TN 351 (TN 341 (TL 341 Tryz.underlying341) (TN 349 (TL 349 Tryz.underlying349) (TL 351 Tryz.underlying351))) (TN 364 (TN 362 (TL 362 Tryz.underlying362) (TL 364 Tryz.underlying364)) (TN 365 (TL 365 Tryz.underlying365) (TL 367 Tryz.underlying367))))) (TN 394 (TN 373 (TN 371 (TL 371 Tryz.underlying371) (TN 372 (TL 372 Tryz.underlying372) (TL 373 Tryz.underlying373))) (TN 391 (TN 390 (TL 390 Tryz.underlying390) (TL 391 Tryz.underlying391)) (TN 393 (TL 393 Tryz.underlying393) (TL 394 Tryz.underlying394)))) (TN 402 (TN 396 (TL 396 Tryz.underlying396) (TN 399 (TL 399 Tryz.underlying399) (TL 402 Tryz.underlying402))) (TN 407 (TN 405 (TL 405 Tryz.underlying405) (TL 407 Tryz.underlying407)) (TN 417 (TL 417 Tryz.underlying417) (TL 418 Tryz.underlying418)))))))
noncomputable def tbS:Tb Nat (fun n a=>∀w,(sizeOf n).run Go.Proofs.Tryz.prog w= .ok a w):=TN 208 (TN 91 (TN 32 (TN 9 (TN 3 (TN 0 (TL 0 Tryz.sizeOf0) (TL 3 Tryz.sizeOf3)) (TN 4 (TL 4 Tryz.sizeOf4) (TN 5 (TL 5 Tryz.sizeOf5) (TL 9 Tryz.sizeOf9)))) (TN 23 (TN 20 (TL 20 Tryz.sizeOf20) (TN 21 (TL 21 Tryz.sizeOf21) (TL 23 Tryz.sizeOf23))) (TN 24 (TL 24 Tryz.sizeOf24) (TN 30 (TL 30 Tryz.sizeOf30) (TL 32 Tryz.sizeOf32))))) (TN 57 (TN 48 (TN 35 (TL 35 Tryz.sizeOf35) (TN 36 (TL 36 Tryz.sizeOf36) (TL 48 Tryz.sizeOf48))) (TN 54 (TL 54 Tryz.sizeOf54) (TN 55 (TL 55 Tryz.sizeOf55) (TL 57 Tryz.sizeOf57)))) (TN 69 (TN 59 (TL 59 Tryz.sizeOf59) (TN 62 (TL 62 Tryz.sizeOf62) (TL 69 Tryz.sizeOf69))) (TN 80 (TL 80 Tryz.sizeOf80) (TN 90 (TL 90 Tryz.sizeOf90) (TL 91 Tryz.sizeOf91)))))) (TN 142 (TN 112 (TN 106 (TN 93 (TL 93 Tryz.sizeOf93) (TL 106 Tryz.sizeOf106)) (TN 108 (TL 108 Tryz.sizeOf108) (TN 110 (TL 110 Tryz.sizeOf110) (TL 112 Tryz.sizeOf112)))) (TN 121 (TN 118 (TL 118 Tryz.sizeOf118) (TN 120 (TL 120 Tryz.sizeOf120) (TL 121 Tryz.sizeOf121))) (TN 123 (TL 123 Tryz.sizeOf123) (TN 128 (TL 128 Tryz.sizeOf128) (TL 142 Tryz.sizeOf142))))) (TN 176 (TN 159 (TN 149 (TL 149 Tryz.sizeOf149) (TN 152 (TL 152 Tryz.sizeOf152) (TL 159 Tryz.sizeOf159))) (TN 163 (TL 163 Tryz.sizeOf163) (TN 168 (TL 168 Tryz.sizeOf168) (TL 176 Tryz.sizeOf176)))) (TN 202 (TN 188 (TL 188 Tryz.sizeOf188) (TN 192 (TL 192 Tryz.sizeOf192) (TL 202 Tryz.sizeOf202))) (TN 204 (TL 204 Tryz.sizeOf204) (TN 207 (TL 207 Tryz.sizeOf207) (TL 208 Tryz.sizeOf208))))))) (TN 324 (TN 272 (TN 238 (TN 228 (TN 215 (TL 215 Tryz.sizeOf215) (TL 228 Tryz.sizeOf228)) (TN 231 (TL 231 Tryz.sizeOf231) (TN 232 (TL 232 Tryz.sizeOf232) (TL 238 Tryz.sizeOf238)))) (TN 254 (TN 240 (TL 240 Tryz.sizeOf240) (TN 246 (TL 246 Tryz.sizeOf246) (TL 254 Tryz.sizeOf254))) (TN 268 (TL 268 Tryz.sizeOf268) (TN 270 (TL 270 Tryz.sizeOf270) (TL 272 Tryz.sizeOf272))))) (TN 302 (TN 284 (TN 276 (TL 276 Tryz.sizeOf276) (TN 281 (TL 281 Tryz.sizeOf281) (TL 284 Tryz.sizeOf284))) (TN 293 (TL 293 Tryz.sizeOf293) (TN 298 (TL 298 Tryz.sizeOf298) (TL 302 Tryz.sizeOf302)))) (TN 312 (TN 304 (TL 304 Tryz.sizeOf304) (TN 306 (TL 306 Tryz.sizeOf306) (TL 312 Tryz.sizeOf312))) (TN 313 (TL 313 Tryz.sizeOf313) (TN 316 (TL 316 Tryz.sizeOf316) (TL 324 Tryz.sizeOf324)))))) (TN 372 (TN 349 (TN 338 (TN 325 (TL 325 Tryz.sizeOf325) (TN 328 (TL 328 Tryz.sizeOf328) (TL 338 Tryz.sizeOf338))) (TN 340 (TL 340 Tryz.sizeOf340) (TN 341 (TL 341 Tryz.sizeOf341) (TL 349 Tryz.sizeOf349)))) (TN 364 (TN 351 (TL 351 Tryz.sizeOf351) (TN 362 (TL 362 Tryz.sizeOf362) (TL 364 Tryz.sizeOf364))) (TN 367 (TL 367 Tryz.sizeOf367) (TN 371 (TL 371 Tryz.sizeOf371) (TL 372 Tryz.sizeOf372))))) (TN 396 (TN 391 (TN 373 (TL 373 Tryz.sizeOf373) (TN 390 (TL 390 Tryz.sizeOf390) (TL 391 Tryz.sizeOf391))) (TN 393 (TL 393 Tryz.sizeOf393) (TN 394 (TL 394 Tryz.sizeOf394) (TL 396 Tryz.sizeOf396)))) (TN 405 (TN 399 (TL 399 Tryz.sizeOf399) (TN 402 (TL 402 Tryz.sizeOf402) (TL 405 Tryz.sizeOf405))) (TN 407 (TL 407 Tryz.sizeOf407) (TN 417 (TL 417 Tryz.sizeOf417) (TL 418 Tryz.sizeOf418)))))))
noncomputable def tbG:Tb Bool (fun n a=>∀w,(isAgg n).run Go.Proofs.Tryz.prog w= .ok a w):=TN 204 (TN 90 (TN 26 (TN 9 (TN 3 (TN 0 (TL 0 Tryz.isAgg0) (TL 3 Tryz.isAgg3)) (TN 4 (TL 4 Tryz.isAgg4) (TN 5 (TL 5 Tryz.isAgg5) (TL 9 Tryz.isAgg9)))) (TN 21 (TN 20 (TL 20 Tryz.isAgg20) (TL 21 Tryz.isAgg21)) (TN 23 (TL 23 Tryz.isAgg23) (TN 24 (TL 24 Tryz.isAgg24) (TL 26 Tryz.isAgg26))))) (TN 54 (TN 32 (TN 30 (TL 30 Tryz.isAgg30) (TL 32 Tryz.isAgg32)) (TN 36 (TL 36 Tryz.isAgg36) (TN 48 (TL 48 Tryz.isAgg48) (TL 54 Tryz.isAgg54)))) (TN 59 (TN 55 (TL 55 Tryz.isAgg55) (TN 57 (TL 57 Tryz.isAgg57) (TL 59 Tryz.isAgg59))) (TN 69 (TL 69 Tryz.isAgg69) (TN 80 (TL 80 Tryz.isAgg80) (TL 90 Tryz.isAgg90)))))) (TN 123 (TN 110 (TN 93 (TN 91 (TL 91 Tryz.isAgg91) (TL 93 Tryz.isAgg93)) (TN 106 (TL 106 Tryz.isAgg106) (TN 108 (TL 108 Tryz.isAgg108) (TL 110 Tryz.isAgg110)))) (TN 118 (TN 112 (TL 112 Tryz.isAgg112) (TL 118 Tryz.isAgg118)) (TN 120 (TL 120 Tryz.isAgg120) (TN 121 (TL 121 Tryz.isAgg121) (TL 123 Tryz.isAgg123))))) (TN 159 (TN 142 (TN 128 (TL 128 Tryz.isAgg128) (TL 142 Tryz.isAgg142)) (TN 149 (TL 149 Tryz.isAgg149) (TN 152 (TL 152 Tryz.isAgg152) (TL 159 Tryz.isAgg159)))) (TN 188 (TN 168 (TL 168 Tryz.isAgg168) (TN 176 (TL 176 Tryz.isAgg176) (TL 188 Tryz.isAgg188))) (TN 192 (TL 192 Tryz.isAgg192) (TN 202 (TL 202 Tryz.isAgg202) (TL 204 Tryz.isAgg204))))))) (TN 324 (TN 254 (TN 231 (TN 208 (TN 207 (TL 207 Tryz.isAgg207) (TL 208 Tryz.isAgg208)) (TN 215 (TL 215 Tryz.isAgg215) (TN 228 (TL 228 Tryz.isAgg228) (TL 231 Tryz.isAgg231)))) (TN 238 (TN 232 (TL 232 Tryz.isAgg232) (TL 238 Tryz.isAgg238)) (TN 240 (TL 240 Tryz.isAgg240) (TN 246 (TL 246 Tryz.isAgg246) (TL 254 Tryz.isAgg254))))) (TN 284 (TN 270 (TN 268 (TL 268 Tryz.isAgg268) (TL 270 Tryz.isAgg270)) (TN 272 (TL 272 Tryz.isAgg272) (TN 276 (TL 276 Tryz.isAgg276) (TL 284 Tryz.isAgg284)))) (TN 312 (TN 293 (TL 293 Tryz.isAgg293) (TN 306 (TL 306 Tryz.isAgg306) (TL 312 Tryz.isAgg312))) (TN 313 (TL 313 Tryz.isAgg313) (TN 316 (TL 316 Tryz.isAgg316) (TL 324 Tryz.isAgg324)))))) (TN 373 (TN 341 (TN 328 (TN 325 (TL 325 Tryz.isAgg325) (TL 328 Tryz.isAgg328)) (TN 338 (TL 338 Tryz.isAgg338) (TN 340 (TL 340 Tryz.isAgg340) (TL 341 Tryz.isAgg341)))) (TN 367 (TN 349 (TL 349 Tryz.isAgg349) (TN 351 (TL 351 Tryz.isAgg351) (TL 367 Tryz.isAgg367))) (TN 371 (TL 371 Tryz.isAgg371) (TN 372 (TL 372 Tryz.isAgg372) (TL 373 Tryz.isAgg373))))) (TN 396 (TN 391 (TN 390 (TL 390 Tryz.isAgg390) (TL 391 Tryz.isAgg391)) (TN 393 (TL 393 Tryz.isAgg393) (TN 394 (TL 394 Tryz.isAgg394) (TL 396 Tryz.isAgg396)))) (TN 405 (TN 399 (TL 399 Tryz.isAgg399) (TN 402 (TL 402 Tryz.isAgg402) (TL 405 Tryz.isAgg405))) (TN 407 (TL 407 Tryz.isAgg407) (TN 417 (TL 417 Tryz.isAgg417) (TL 418 Tryz.isAgg418)))))))
noncomputable def tbZ:Tb Value (fun n a=>∀w,(zeroValue n).run Go.Proofs.Tryz.prog w= .ok a w):=TN 208 (TN 108 (TN 32 (TN 9 (TN 3 (TN 0 (TL 0 Tryz.zeroValue0) (TL 3 Tryz.zeroValue3)) (TN 4 (TL 4 Tryz.zeroValue4) (TN 5 (TL 5 Tryz.zeroValue5) (TL 9 Tryz.zeroValue9)))) (TN 21 (TN 20 (TL 20 Tryz.zeroValue20) (TL 21 Tryz.zeroValue21)) (TN 24 (TL 24 Tryz.zeroValue24) (TN 30 (TL 30 Tryz.zeroValue30) (TL 32 Tryz.zeroValue32))))) (TN 57 (TN 36 (TN 35 (TL 35 Tryz.zeroValue35) (TL 36 Tryz.zeroValue36)) (TN 50 (TL 50 Tryz.zeroValue50) (TN 54 (TL 54 Tryz.zeroValue54) (TL 57 Tryz.zeroValue57)))) (TN 69 (TN 59 (TL 59 Tryz.zeroValue59) (TN 62 (TL 62 Tryz.zeroValue62) (TL 69 Tryz.zeroValue69))) (TN 82 (TL 82 Tryz.zeroValue82) (TN 90 (TL 90 Tryz.zeroValue90) (TL 108 Tryz.zeroValue108)))))) (TN 152 (TN 123 (TN 118 (TN 114 (TL 114 Tryz.zeroValue114) (TL 118 Tryz.zeroValue118)) (TN 120 (TL 120 Tryz.zeroValue120) (TN 121 (TL 121 Tryz.zeroValue121) (TL 123 Tryz.zeroValue123)))) (TN 140 (TN 128 (TL 128 Tryz.zeroValue128) (TL 140 Tryz.zeroValue140)) (TN 142 (TL 142 Tryz.zeroValue142) (TN 149 (TL 149 Tryz.zeroValue149) (TL 152 Tryz.zeroValue152))))) (TN 180 (TN 163 (TN 161 (TL 161 Tryz.zeroValue161) (TL 163 Tryz.zeroValue163)) (TN 168 (TL 168 Tryz.zeroValue168) (TN 176 (TL 176 Tryz.zeroValue176) (TL 180 Tryz.zeroValue180)))) (TN 202 (TN 188 (TL 188 Tryz.zeroValue188) (TN 192 (TL 192 Tryz.zeroValue192) (TL 202 Tryz.zeroValue202))) (TN 204 (TL 204 Tryz.zeroValue204) (TN 207 (TL 207 Tryz.zeroValue207) (TL 208 Tryz.zeroValue208))))))) (TN 325 (TN 268 (TN 232 (TN 215 (TN 213 (TL 213 Tryz.zeroValue213) (TL 215 Tryz.zeroValue215)) (TN 228 (TL 228 Tryz.zeroValue228) (TN 231 (TL 231 Tryz.zeroValue231) (TL 232 Tryz.zeroValue232)))) (TN 240 (TN 238 (TL 238 Tryz.zeroValue238) (TL 240 Tryz.zeroValue240)) (TN 246 (TL 246 Tryz.zeroValue246) (TN 254 (TL 254 Tryz.zeroValue254) (TL 268 Tryz.zeroValue268))))) (TN 284 (TN 272 (TN 270 (TL 270 Tryz.zeroValue270) (TL 272 Tryz.zeroValue272)) (TN 276 (TL 276 Tryz.zeroValue276) (TN 281 (TL 281 Tryz.zeroValue281) (TL 284 Tryz.zeroValue284)))) (TN 313 (TN 293 (TL 293 Tryz.zeroValue293) (TN 308 (TL 308 Tryz.zeroValue308) (TL 313 Tryz.zeroValue313))) (TN 316 (TL 316 Tryz.zeroValue316) (TN 324 (TL 324 Tryz.zeroValue324) (TL 325 Tryz.zeroValue325)))))) (TN 373 (TN 351 (TN 338 (TN 328 (TL 328 Tryz.zeroValue328) (TL 338 Tryz.zeroValue338)) (TN 340 (TL 340 Tryz.zeroValue340) (TN 349 (TL 349 Tryz.zeroValue349) (TL 351 Tryz.zeroValue351)))) (TN 367 (TN 364 (TL 364 Tryz.zeroValue364) (TL 367 Tryz.zeroValue367)) (TN 371 (TL 371 Tryz.zeroValue371) (TN 372 (TL 372 Tryz.zeroValue372) (TL 373 Tryz.zeroValue373))))) (TN 396 (TN 391 (TN 390 (TL 390 Tryz.zeroValue390) (TL 391 Tryz.zeroValue391)) (TN 393 (TL 393 Tryz.zeroValue393) (TN 394 (TL 394 Tryz.zeroValue394) (TL 396 Tryz.zeroValue396)))) (TN 405 (TN 399 (TL 399 Tryz.zeroValue399) (TN 402 (TL 402 Tryz.zeroValue402) (TL 405 Tryz.zeroValue405))) (TN 407 (TL 407 Tryz.zeroValue407) (TN 417 (TL 417 Tryz.zeroValue417) (TL 418 Tryz.zeroValue418)))))))
theorem uU{T d N}(h:tbU.f T=some d)(e:d=N):Go.Proofs.Tryz.prog.underlying T=some N:=e▸tbU.h T d h
theorem uS{T n N}(h:tbS.f T=some n)(e:n=N):∀w,(sizeOf T).run Go.Proofs.Tryz.prog w= .ok N w:=e▸tbS.h T n h
theorem uG{T b N}(h:tbG.f T=some b)(e:b=N):∀w,(isAgg T).run Go.Proofs.Tryz.prog w= .ok N w:=e▸tbG.h T b h
theorem uZ{T v N}(h:tbZ.f T=some v)(e:v=N):∀w,(zeroValue T).run Go.Proofs.Tryz.prog w= .ok N w:=e▸tbZ.h T v h
theorem bkA{S:World→Prop}{b o}(h:yY S b o:=by
 first
 |(with_reducible show yY (SS _ _) _ _);first|exact yY.atR atA|exact yY.BQ (by assumption)|exact yY.at 0 rfl|exact yY.at 1 rfl|exact yY.at 2 rfl
 |(with_reducible show yY (SC _ _ _) _ _);first|exact yY.atCR atA|exact yY.IY (by assumption)|exact yY.EG 0 rfl|exact yY.EG 1 rfl):yY S b o:=h
structure Ch (H:HL) (b:Nat) (o o':Obj) (H':HL):Prop where
  h:∃i,H[i]?=some (b,o)∧yX H i (b,o') H'
theorem Ch.z{b x o o' r}(h:x=o):Ch ((b,x)::r) b o o' ((b,o')::r):=⟨⟨0,h▸rfl,yX.z⟩⟩
theorem Ch.s{b o o' q r N}(h:Ch r b o o' N):Ch (q::r) b o o' (q::N):=let ⟨⟨i,h1,h2⟩⟩:=h;⟨⟨i+1,h1,yX.s h2⟩⟩
theorem chA{H H' b o o'}(h:Ch H b o o' H':=by first|(with_reducible refine Ch.z ?_;exact rfl)|(with_reducible apply Ch.s;exact chA)|(refine Ch.z ?_;exact rfl)|(apply Ch.s;exact chA)):Ch H b o o' H':=h
theorem a5K{O o e I H C Q x y T t b off cs N vs v H' n}(ho:o.op= .store T x y)(hd:o.dst=none)(hx:ev e x=some (ptr b off))(hy:ev e y=some v)
 (hv:v.cells=vs.toArray)(h1:vs.all dM=true)(W:∀w,(sizeOf T).run O.P w= .ok n w)(Z:vs.length=n)(hH:Ch H b (zJ t cs) (zJ t N) H')(a0:yV cs off vs N)
 (k:C e I H'):BU O Q o e I H C:=let ⟨⟨i,h2,h3⟩⟩:=hH;BN i ho hd hx hy hv h1 W Z h2 a0 h3 k
theorem KA{α:Type}{a b:α}(h:a=b:=by first|exact rfl|assumption):a=b:=h
theorem eqB{a b:Bool}(h:a=b:=by first|exact rfl|assumption|exact congrArg not (by assumption)):a=b:=h
theorem lcA{vs cs n}(h:zQ vs n cs:=by
 first|with_reducible exact zQ.none|(with_reducible show zQ (Value.agg _::_) _ _;apply zQ.agg;exact rfl;exact lcA)|(apply zQ.one;exact rfl;exact lcA)|(apply zQ.agg;exact rfl;exact lcA)):zQ vs n cs:=h
theorem lsA{α:Type}{l xs N:List α}{i}(h:yV l i xs N:=by
 first|with_reducible exact yV.z|(apply yV.c;exact lsA)|(apply yV.s;exact lsA)):yV l i xs N:=h
theorem ceA{v:Value}{vs:List Value}(h:v.cells=vs.toArray:=by first|with_reducible exact a0r _ _|exact rfl):v.cells=vs.toArray:=h
theorem onA{vs:List Value}(h:vs.all Value.oneCell'=true:=by first|with_reducible exact a8e _ _|exact rfl):vs.all dM=true:=h
theorem OM.mk'{N I A H Z}(h1:HSub A H)(h2:CSub Z H)(h3:Le N I):OM N A Z I H:=⟨h1,h2,h3⟩
theorem BM{N I A H Z}(h:OM N A Z I H:=by first|assumption|exact OM.mk' (by repeat first|exact HSub.n|refine HSub.c 0 rfl ?_|refine HSub.c 1 rfl ?_|refine HSub.c 2 rfl ?_|refine HSub.c 3 rfl ?_|refine HSub.c 4 rfl ?_|refine HSub.c 5 rfl ?_) CSub.n (by repeat first|exact Le.refl _|assumption|refine Le.trans ?_ (by assumption))):OM N A Z I H:=h
def opk:Op→Nat
 | .move _=>0
 | .assign _=>1
 | .pick .. =>2
 | .alloc _=>3
 | .box .. =>4
 | .build .. =>5
 | .buildSlice .. =>6
 | .load .. =>7
 | .store .. =>8
 | .nilCheck _=>9
 | .unOp .. =>10
 | .convert .. =>11
 | .makeInterface .. =>12
 | .makeFunc .. =>13
 | .fieldAddr .. =>14
 | .indexAddr .. =>15
 | .extract .. =>16
 | .call c=>match c.callee with
   | .builtin _=>17
   |_=>30
 | .binOp b .. =>match b with
   | .add=>20
   | .sub=>21
   | .mul=>22
   | .rem=>23
   | .eql=>24
   | .neq=>25
   | .lss=>26
   | .leq=>27
   | .gtr=>28
   | .geq=>29
   |_=>30
 |_=>30
def opc (o:Oper):Nat:=match o.guard with
 |some _=>1
 | none=>match opk o.op with
   |3=>3
   |4=>3
   |6=>3
   |8=>3
   |30=>4
   |_=>2
def jk:List Oper→Nat
 |[]=>0
 |o::_=>opc o
theorem MN k {N o e}{S:World→Prop}{v}(_:opk o.op=k)(h:BJ N o e S v):BJ N o e S v:=h
theorem gdJ k {O Q N l e I H}(_:jk l=k)(h:J O Q N l e I H):J O Q N l e I H:=h
theorem gdO k {N Q o e I H C}(_:opk o.op=k)(h:BU N Q o e I H C):BU N Q o e I H C:=h
theorem J.zy{N Q O l e I H o d v}(W:o.guard=none)(Z:o.dst=some d)(hn:dN d N.n=true)(hy:BJ N o e (SS I H) v)(k:J N Q O l ((d,v)::e) I H):J N Q O (o::l) e I H:=J.z hy k W Z hn
theorem yA{N o e}{S:World→Prop}{v}(h:BJ N o e S v:=by first
 |(apply MN 0;exact rfl;exact BR)
 |(apply MN 7;exact rfl;first|exact zN rfl rfl (uG rfl rfl) (by first|exact bkA) (by first|exact rfl)|exact AU rfl rfl (uG rfl rfl) (uS rfl rfl) (by first|exact bkA) (by first|exact rfl) (by first|exact rfl))
 |(apply MN 14;exact rfl;exact WR rfl rfl (uU rfl rfl) (by first|exact rfl) (uS rfl rfl) (by first|exact rfl))
 |(apply MN 17;exact rfl;first|exact YN rfl rfl (uU rfl rfl)|exact b2R rfl rfl (uU rfl rfl))
 |(apply MN 1;exact rfl;exact FN)
 |(apply MN 26;exact rfl;exact a4r rfl rfl rfl)
 |(apply MN 20;exact rfl;first|exact NC rfl rfl rfl (ND (by omega))|exact NC rfl rfl rfl (c1f (by omega)))
 |(apply MN 16;exact rfl;exact a0O rfl rfl rfl)
 |(apply MN 9;exact rfl;exact DK rfl rfl)
 |(apply MN 2;exact rfl;first|exact a3p rfl rfl (by first|exact KA) (by first|exact rfl)|exact a3c rfl rfl (by first|exact KA) (by first|exact rfl))
 |(apply MN 24;exact rfl;first|exact a8r rfl rfl rfl|exact b4F rfl rfl rfl|exact b4G _ rfl rfl rfl (uU rfl rfl) (by kernel_rfl)|exact b1E rfl rfl rfl (uU rfl rfl)|exact b0e _ rfl rfl rfl (uU rfl rfl)|exact b3b _ rfl rfl rfl (uU rfl rfl))
 |(apply MN 25;exact rfl;first|exact a8V rfl rfl rfl|exact a1h rfl rfl rfl|exact yl_neqBool rfl rfl rfl (uU rfl rfl)|exact a9z _ rfl rfl rfl (uU rfl rfl)|exact yl_neqMap _ rfl rfl rfl (uU rfl rfl))
 |(apply MN 29;exact rfl;exact c0f rfl rfl rfl)
 |(apply MN 27;exact rfl;exact c0p rfl rfl rfl)
 |(apply MN 28;exact rfl;exact a9s rfl rfl rfl)
 |(apply MN 10;exact rfl;exact b4l rfl rfl)
 |(apply MN 15;exact rfl;exact II rfl rfl rfl (uU rfl rfl) (uS rfl rfl) (by decide) (by decide) (by first|exact rfl))
 |(apply MN 5;exact rfl;first|exact zS rfl rfl (uZ rfl rfl) (by first|exact rfl) (uU rfl rfl) (plA (by first|exact plB)) (by first|exact lbA)|exact a6j rfl rfl (uZ rfl rfl) (by first|exact rfl) (uU rfl rfl) (uS rfl rfl) (by first|exact rfl))
 |(apply MN 11;exact rfl;first|exact yl_toStr1 _ rfl rfl (uU rfl rfl) (uU rfl rfl) (uU rfl rfl) (by first|exact bkA) (by first|exact rfl)|exact b2F rfl rfl (uU rfl rfl) (uU rfl rfl)|exact b2H rfl rfl (uU rfl rfl) (uU rfl rfl))
 |(apply MN 21;exact rfl;exact a1I rfl rfl rfl (ND (by omega)))
 |(apply MN 23;exact rfl;first|exact a4p rfl rfl rfl (by decide)|exact a4p rfl rfl rfl (by omega))
 |(apply MN 22;exact rfl;exact a1o rfl rfl rfl (ND (by omega)))
 |(apply MN 13;exact rfl;exact a2H rfl rfl rfl)
 |(apply MN 12;exact rfl;exact a7g rfl rfl (uU rfl rfl) rfl)):BJ N o e S v:=h
section
variable {cx:Cx} {Q:Qt} {e:Env} {I I1:Heap} {H A:HL} {Z:CL} {z fuel:Nat} {listed:Array Bool} {ops:Array Oper} {l:List Oper} {o:Oper}
theorem J.spG{j d N b}(W:o.guard=some (j,N))(Z:(ops[j]?).bind (·.dst)=some d)(O:eg e d=some (.bool b))(h1:b=true→J cx Q ops (o::l) e I H)(h0:b=false→J cx Q ops (o::l) e I H):J cx Q ops (o::l) e I H:=J.split d O h1 h0
theorem Cj.cT{c:Operand}{x y:Code}{b:Bool}(N:ev e c=some (.bool b))(O:b=true)(h1:Cj cx Q x e I H):Cj cx Q (.cond c x y) e I H:=Cj.cond N (fun _=>h1) (fun h=>dF (O.symm.trans h))
theorem Cj.cF{c:Operand}{x y:Code}{b:Bool}(N:ev e c=some (.bool b))(O:b=false)(h1:Cj cx Q y e I H):Cj cx Q (.cond c x y) e I H:=Cj.cond N (fun h=>dF (O.symm.trans h)) (fun _=>h1)
def YV:Nat→List Bool→Nat→Option Nat
 |_,[],_=>none
 |s,true::r,n=>YV s r (n+1)
 |0,false::_,n=>some n
 |s+1,false::r,n=>YV s r (n+1)
def c0S (e:Env):Op→Bool
 | .move x=>(ev e x).isSome
 | .assign x=>(ev e x).isSome
 | .pick x y z=>(ev e x).isSome && ((ev e y).isSome && (ev e z).isSome)
 | .load _ x=>(ev e x).isSome
 | .nilCheck x=>(ev e x).isSome
 | .binOp _ _ x y _=>(ev e x).isSome && (ev e y).isSome
 | .unOp _ _ x=>(ev e x).isSome
 | .convert _ _ x=>(ev e x).isSome
 | .makeInterface _ x=>(ev e x).isSome
 | .fieldAddr _ x _=>(ev e x).isSome
 | .indexAddr _ x y=>(ev e x).isSome && (ev e y).isSome
 | .extract x _=>(ev e x).isSome
 | .build _ ps=>ps.toList.all fun p=>(ev e p.2).isSome
 | .call c=>c.args.toList.all fun x=>(ev e x).isSome
 |_=>true
def opd (e:Env) (o:Oper):Nat:=match opc o with
 |2=>bif c0S e o.op then 2 else 5
 |k=>k
def ak (s:Nat) (l:List Oper) (listed:Array Bool) (e:Env):Nat:=match YV s listed.toList 0 with
 |none=>0
 | some i=>match l.toArray[i]? with
   |none=>9
   |some o=>opd e o
def rdy (s:Nat) (l:List Oper) (listed:Array Bool):Bool:=match YV s listed.toList 0 with
 |none=>false
 |some i=>(Region.ready .any l.toArray listed).contains i
theorem XU s (_:rdy s l listed=true)(h:JA cx Q l I1 A Z z fuel listed e I H):JA cx Q l I1 A Z z fuel listed e I H:=h
theorem RU s k (_:ak s l listed e=k)(h:JA cx Q l I1 A Z z fuel listed e I H):JA cx Q l I1 A Z z fuel listed e I H:=h
theorem JA.tn s {i d v}(hl:YV s listed.toList 0=some i)(N:l.toArray[i]?=some o)(O:OM I1 A Z I H)(W:BJ cx o e (SC I1 A Z) v)(k:JA cx Q l I1 A Z z fuel (listed.setIfInBounds i true) ((d,v)::e) I H)
 (hd:o.dst=some d:=by rfl)(hg:o.guard=none:=by rfl)(hn:Nat.blt d cx.n=true:=by rfl)(hz:YA l.toArray listed z i=true:=by first|rfl|kernel_rfl)(hs:Region.noSelect l.toArray=true:=by kernel_rfl)(hf:Region.free .any l.toArray listed i=true:=by kernel_rfl)
 (hr:(Region.ready .any l.toArray listed).contains i=true:=by kernel_rfl)(hq:∀c a w,Q (.panic c) (a.put (some d) v) w→Q (.panic c) a w:=by exact fun _ _ _ h=>h):JA cx Q l I1 A Z z (fuel+1) listed e I H:=JA.tk i N O W k hd hg hn hz hs hf hr hq
theorem JA.tnG s {i d j O N b v}(hl:YV s listed.toList 0=some i)(hi:l.toArray[i]?=some o)(hx:OM I1 A Z I H)(hg:o.guard=some (j,N))(W:(l.toArray[j]?).bind (·.dst)=some O)(hv:eg e O=some (.bool b))(hb:b=N)(hy:BJ cx o e (SC I1 A Z) v)
 (k:JA cx Q l I1 A Z z fuel (listed.setIfInBounds i true) ((d,v)::e) I H)(hd:o.dst=some d:=by rfl)(hn:Nat.blt d cx.n=true:=by rfl)(hz:YA l.toArray listed z i=true:=by first|rfl|kernel_rfl)(hs:Region.noSelect l.toArray=true:=by kernel_rfl)(hf:Region.free .any l.toArray listed i=true:=by kernel_rfl)
 (hr:(Region.ready .any l.toArray listed).contains i=true:=by kernel_rfl)(hq:∀c a w,Q (.panic c) (a.put (some d) v) w→Q (.panic c) a w:=by exact fun _ _ _ h=>h):JA cx Q l I1 A Z z (fuel+1) listed e I H:=JA.UY i j O N b hi hx W hv hb hy k hd hg hn hz hs hf hr hq
theorem JA.tnS s {i d j O N u}(hl:YV s listed.toList 0=some i)(hi:l.toArray[i]?=some o)(hx:OM I1 A Z I H)(hg:o.guard=some (j,N))(W:(l.toArray[j]?).bind (·.dst)=some O)(hv:eg e O=some u)(hb:u= .bool (!N)∨u=undef)
 (k:JA cx Q l I1 A Z z fuel (listed.setIfInBounds i true) ((d,undef)::e) I H)(hd:o.dst=some d:=by rfl)(hn:Nat.blt d cx.n=true:=by rfl)(hz:YA l.toArray listed z i=true:=by first|rfl|kernel_rfl)(hs:Region.noSelect l.toArray=true:=by kernel_rfl)(hf:Region.free .any l.toArray listed i=true:=by kernel_rfl)
 (hr:(Region.ready .any l.toArray listed).contains i=true:=by kernel_rfl)(hq:∀c a w,Q (.panic c) (a.put (some d) undef) w→Q (.panic c) a w:=by exact fun _ _ _ h=>h):JA cx Q l I1 A Z z (fuel+1) listed e I H:=JA.ZK i j O N u hi hx W hv hb k hd hg hn hz hs hf hr hq
theorem JA.dn(N:YV 0 listed.toList 0=none)(O:Region.ready .any l.toArray listed=[])(h:Ej cx Q .normal e I H):JA cx Q l I1 A Z z fuel listed e I H:=match N with|_=>JA.done O h
theorem JA.st1{i}(hl:YV 0 listed.toList 0=some i)(O:l.toArray[i]?=some o)(W:Region.ready .any l.toArray listed=[i])(hg:o.guard=none)(k:BU cx Q o e I H (fun e' N H'=>(Le I1 N∧HSub A H'∧CSub Z H')∧JA cx Q l I1 A Z z fuel (listed.setIfInBounds i true) e' N H')):JA cx Q l I1 A Z z (fuel+1) listed e I H:=JA.step i W O hg k
theorem JA.st2{i j O N b}(hl:YV 0 listed.toList 0=some i)(hi:l.toArray[i]?=some o)(hr:Region.ready .any l.toArray listed=[i])(hg:o.guard=some (j,N))(W:(l.toArray[j]?).bind (·.dst)=some O)(hv:eg e O=some (.bool b))(hb:b=N)
 (k:BU cx Q o e I H (fun e' I' H'=>(Le I1 I'∧HSub A H'∧CSub Z H')∧JA cx Q l I1 A Z z fuel (listed.setIfInBounds i true) e' I' H')):JA cx Q l I1 A Z z (fuel+1) listed e I H:=JA.stepG i j O N b hr hi hg W hv hb k
end
theorem JQ{P:Prop}(h:P:=by
 first|intro _ _ _ _ h|intro _ _ h
 first
 |(obtain⟨h,_⟩:=h;cases h;done)
 |(obtain⟨_,h,_⟩:=h;cases h;done)
 |(obtain⟨_,_,h,_⟩:=h;cases h;done)
 |(obtain⟨_,_,_,h,_⟩:=h;cases h;done)
 |(obtain⟨_,_,_,_,h,_⟩:=h;cases h;done)
 |(obtain⟨_,_,_,_,_,h,_⟩:=h;cases h;done)
 |(obtain⟨⟨_,h,_⟩,_⟩:=h;cases h;done)
 |(obtain⟨⟨_,_,h,_⟩,_⟩:=h;cases h;done)
 |(obtain⟨⟨_,h⟩,_⟩:=h;cases h;done)
 |(cases h;done)):P:=h
structure Cnt (n:Nat):Prop where
theorem Cnt.p{n}(_:Cnt (n+1)):Cnt n:=⟨⟩
structure Row (R:HL):Prop where
section
variable {cx:Cx} {Q:Qt} {o:Oper} {e:Env} {I:Heap} {H:HL} {C:Ct} {S:World→Prop}
theorem a4d{x y T E b off n c sz off' k i}(_:Cnt off')(W:o.op= .indexAddr T x y)(Z:ev e x=some (.slice (some ⟨b,off,none⟩) n c))(hy:ev e y=some (.int k i))
 (hu:cx.P.underlying T=some (.slice E))(O:∀w,(sizeOf E).run cx.P w= .ok sz w)(h0:0≤i)(h1:i<n)(N:off+i.toNat*sz=off'):BJ cx o e S (ptr b off'):=DF W Z hy hu O h0 h1 N
theorem b3r{T E d sz by' n m x y U g xs ys W z R}(_:Cnt by')(_:Row R)(ho:o.op= .call ⟨.builtin .append,#[x,y],#[T,U]⟩)(hd:o.dst=some d)(hn:dN d cx.n=true)
 (hx:ev e x=some (gV n g))(hy:ev e y=some W)(hu:cx.P.underlying T=some (.slice E))(hU:cx.P.underlying U=some .string∨∃E',cx.P.underlying U=some (.slice E'))
 (Z:(cx.P.info? E).map (·.bytes)=some (by'+1))(a0:∀w,(sizeOf E).run cx.P w= .ok sz w)(hz:∀w,(zeroValue E).run cx.P w= .ok z w)(a1:z.cells.size=sz)
 (hg:BO cx.w0.heap.size sz n xs g)(hH:H=R++gH E xs g)(hs:Src cx.P I H sz m W ys)(N:(2*(n+m)+768)*(by'+1)≤281474976710656)
 (k:∀O,BO cx.w0.heap.size sz (n+m) (xs++ys) O→C ((d,gV (n+m) O)::e) I (R++gH E (xs++ys) O)):BU cx Q o e I H C:=CV R ho hd hn hx hy hu hU Z a0 hz a1 hg hH hs N k
theorem a3J{H1 R d f Z xs ts fst cap vs}{O:Ending→Heap→HL→Prop}(_:Row H1)(ho:o.op= .call ⟨.value Z,xs.toArray,ts⟩)(hd:o.dst=some d)(hn:dN d cx.n=true)(hf:ev e Z=some (.func (.func f) fst.toArray cap.toArray))(hx:evs e xs=some vs)
 (hs:yZ cx.P f (fst++vs++cap) I H1 O)(hH:H=H1++R)(k:∀v W N,Le I W→O (.returned v) W N→C ((d,v)::e) W (N++R))(kp:∀ch W N,Le I W→O (.panicked ch) W N→Ej cx Q (.panic ch) e W (N++R))
 (ko:∀W N,¬O .outgrown W N):BU cx Q o e I H C:=by subst hH;exact zM ho hd hn hf hx hs k kp ko
theorem a1V{H1 R d f Z xs ts fst cap vs}{O:Ending→Heap→HL→Prop}(_:Row R)(hH:H=R++H1)
 (ho:o.op= .call ⟨.value Z,xs.toArray,ts⟩)(hd:o.dst=some d)(hn:dN d cx.n=true)(hf:ev e Z=some (.func (.func f) fst.toArray cap.toArray))(hx:evs e xs=some vs)
 (hs:yZ cx.P f (fst++vs++cap) I H1 O)
 (k:∀v W N,Le I W→O (.returned v) W N→C ((d,v)::e) W (R++N))
 (kp:∀ch W N,Le I W→O (.panicked ch) W N→Ej cx Q (.panic ch) e W (R++N))
 (ko:∀W N,¬O .outgrown W N):BU cx Q o e I H C:=LP R hH ho hd hn hf hx hs k kp ko
end
theorem ZI{A B:Prop}(a:A)(h:Wr A→B:=by
 intro a
 first
 | (with_reducible show J _ _ _ _ _ _ _)
   first
   |(refine gdJ 2 rfl ?_;refine J.zy rfl rfl rfl (by first|exact yA) ?_)
   |(refine gdJ 0 rfl ?_;refine J.nil ?_)
   |(refine gdJ 1 rfl ?_;first|refine J.skip _ _ _ _ _ rfl rfl rfl (by first|exact KA) rfl rfl ?_|refine J.skipU _ _ _ _ rfl rfl rfl rfl rfl ?_|refine J.XQ _ _ _ _ rfl rfl rfl (by first|exact KA) (AX (by first|exact yA) rfl rfl ?_))
   |(refine gdJ 3 rfl ?_;refine J.op rfl ?_;first|(refine gdO 4 rfl ?_;refine IJ rfl rfl rfl rfl rfl ?_)|(refine gdO 3 rfl ?_;refine GV (uZ rfl rfl) ?_)|(refine gdO 6 rfl ?_;refine zX rfl rfl rfl (uU rfl rfl) (uS rfl rfl) (uZ rfl rfl) (by first|exact rfl) rfl (by first|exact rfl) (by first|exact rfl) (by first|exact lcA) ?_)|(refine gdO 8 rfl ?_;refine a5K rfl rfl rfl rfl (by first|exact ceA) (by first|exact onA) (uS rfl rfl) (by first|exact rfl) (by first|exact chA) (by first|exact lsA) ?_))
 | (with_reducible show JA _ _ _ _ _ _ _ _ _ _ _ _)
   first
   |(refine RU 0 2 rfl ?_;refine XU 0 (by decide +kernel) ?_;refine JA.tn 0 rfl rfl (by first|exact BM) (by first|exact yA) ?_)
   |(refine RU 0 1 rfl ?_;refine XU 0 (by decide +kernel) ?_;first|refine JA.tnS 0 rfl rfl (by first|exact BM) rfl rfl rfl (by first|exact .inl (congrArg Value.bool (by first|exact KA))|exact .inr rfl) ?_|refine JA.tnG 0 rfl rfl (by first|exact BM) rfl rfl rfl (by first|exact KA) (by first|exact yA) ?_)
   |(refine RU 1 2 rfl ?_;refine XU 1 (by decide +kernel) ?_;refine JA.tn 1 rfl rfl (by first|exact BM) (by first|exact yA) ?_)
   |(refine RU 1 1 rfl ?_;refine XU 1 (by decide +kernel) ?_;first|refine JA.tnS 1 rfl rfl (by first|exact BM) rfl rfl rfl (by first|exact .inl (congrArg Value.bool (by first|exact KA))|exact .inr rfl) ?_|refine JA.tnG 1 rfl rfl (by first|exact BM) rfl rfl rfl (by first|exact KA) (by first|exact yA) ?_)
   |(refine RU 2 2 rfl ?_;refine XU 2 (by decide +kernel) ?_;refine JA.tn 2 rfl rfl (by first|exact BM) (by first|exact yA) ?_)
   |(refine RU 2 1 rfl ?_;refine XU 2 (by decide +kernel) ?_;first|refine JA.tnS 2 rfl rfl (by first|exact BM) rfl rfl rfl (by first|exact .inl (congrArg Value.bool (by first|exact KA))|exact .inr rfl) ?_|refine JA.tnG 2 rfl rfl (by first|exact BM) rfl rfl rfl (by first|exact KA) (by first|exact yA) ?_)
   |(refine RU 3 2 rfl ?_;refine XU 3 (by decide +kernel) ?_;refine JA.tn 3 rfl rfl (by first|exact BM) (by first|exact yA) ?_)
   |(refine RU 3 1 rfl ?_;refine XU 3 (by decide +kernel) ?_;first|refine JA.tnS 3 rfl rfl (by first|exact BM) rfl rfl rfl (by first|exact .inl (congrArg Value.bool (by first|exact KA))|exact .inr rfl) ?_|refine JA.tnG 3 rfl rfl (by first|exact BM) rfl rfl rfl (by first|exact KA) (by first|exact yA) ?_)
   |(refine RU 4 2 rfl ?_;refine XU 4 (by decide +kernel) ?_;refine JA.tn 4 rfl rfl (by first|exact BM) (by first|exact yA) ?_)
   |(refine RU 4 1 rfl ?_;refine XU 4 (by decide +kernel) ?_;first|refine JA.tnS 4 rfl rfl (by first|exact BM) rfl rfl rfl (by first|exact .inl (congrArg Value.bool (by first|exact KA))|exact .inr rfl) ?_|refine JA.tnG 4 rfl rfl (by first|exact BM) rfl rfl rfl (by first|exact KA) (by first|exact yA) ?_)
   |(refine RU 5 2 rfl ?_;refine XU 5 (by decide +kernel) ?_;refine JA.tn 5 rfl rfl (by first|exact BM) (by first|exact yA) ?_)
   |(refine RU 5 1 rfl ?_;refine XU 5 (by decide +kernel) ?_;first|refine JA.tnS 5 rfl rfl (by first|exact BM) rfl rfl rfl (by first|exact .inl (congrArg Value.bool (by first|exact KA))|exact .inr rfl) ?_|refine JA.tnG 5 rfl rfl (by first|exact BM) rfl rfl rfl (by first|exact KA) (by first|exact yA) ?_)
   |(refine RU 6 2 rfl ?_;refine XU 6 (by decide +kernel) ?_;refine JA.tn 6 rfl rfl (by first|exact BM) (by first|exact yA) ?_)
   |(refine RU 6 1 rfl ?_;refine XU 6 (by decide +kernel) ?_;first|refine JA.tnS 6 rfl rfl (by first|exact BM) rfl rfl rfl (by first|exact .inl (congrArg Value.bool (by first|exact KA))|exact .inr rfl) ?_|refine JA.tnG 6 rfl rfl (by first|exact BM) rfl rfl rfl (by first|exact KA) (by first|exact yA) ?_)
   |(refine RU 0 0 rfl ?_;refine JA.dn rfl (by kernel_rfl) ?_)
   |(refine RU 0 3 rfl ?_;refine JA.st1 rfl rfl (by kernel_rfl) rfl ?_;first|(refine gdO 4 rfl ?_;refine IJ rfl rfl rfl rfl rfl ?_)|(refine gdO 3 rfl ?_;refine GV (uZ rfl rfl) ?_)|(refine gdO 6 rfl ?_;refine zX rfl rfl rfl (uU rfl rfl) (uS rfl rfl) (uZ rfl rfl) (by first|exact rfl) rfl (by first|exact rfl) (by first|exact rfl) (by first|exact lcA) ?_)|(refine gdO 8 rfl ?_;refine a5K rfl rfl rfl rfl (by first|exact ceA) (by first|exact onA) (uS rfl rfl) (by first|exact rfl) (by first|exact chA) (by first|exact lsA) ?_))
 | (with_reducible show And (And (Le _ _) _) _)
   refine And.intro (And.intro (by repeat first|exact Le.refl _|assumption|refine Le.trans ?_ (by assumption)) (And.intro (by repeat first|exact HSub.n|refine HSub.c 0 rfl ?_|refine HSub.c 1 rfl ?_|refine HSub.c 2 rfl ?_|refine HSub.c 3 rfl ?_|refine HSub.c 4 rfl ?_|refine HSub.c 5 rfl ?_) CSub.n)) ?_
 | (with_reducible show Cj _ _ _ _ _ _)
   first
   |with_reducible refine Cj.seq ?_
   |with_reducible refine Cj.region ?_
   |with_reducible refine Cj.block ?_
   |with_reducible refine Cj.skip ?_
   |with_reducible refine Cj.exit ?_
   |with_reducible refine Cj.ret ?_
   |(with_reducible show Cj _ _ (Code.cond _ _ _) _ _ _);first|refine Cj.cT (by first|exact rfl) (by first|exact eqB) ?_|refine Cj.cF (by first|exact rfl) (by first|exact eqB) ?_
   |refine Cj.seq ?_
   |refine Cj.region ?_
 | (with_reducible show Ej _ _ _ _ _ _)
   first
   |with_reducible refine Ej.seq ?_
   |with_reducible refine Ej.PX ?_
   |with_reducible refine Ej.a2f ?_
   |with_reducible refine Ej.a0J ?_
   |with_reducible refine Ej.b9E ?_
   |with_reducible refine Ej.ZU ?_
   |with_reducible refine Ej.IK ?_
   |with_reducible refine Ej.a7s ?_
 exact a.1):B:=h ⟨a⟩
theorem yU n {A B:Prop}(a:A)(h:Cnt n→Wr A→B:=by
 intro s a
 repeat(replace s:=Cnt.p s;refine ZI ?_)
 exact a.1):B:=h ⟨⟩ ⟨a⟩
theorem tst{b}{p n:Prop}(h:(b=true→p)∧(b=false→n):=by first
 |exact⟨of_decide_eq_true,of_decide_eq_false⟩
 |exact⟨eq_of_beq,ne_of_beq_false⟩
 |exact⟨bne_iff_ne.1,QS⟩
 |exact⟨id,id⟩):(b=true→p)∧(b=false→n):=h
theorem AP{b}{p n N O B:Prop}(W:b=true→p→N)(Z:b=false→n→O)(h:Wr (b=true→N)→Wr (b=false→O)→B:=by
 intro a1 a0
 repeat refine ZI ?_
 exact Cj.cond rfl a1.1 a0.1)(k:(b=true→p)∧(b=false→n):=by exact tst):B:=h ⟨fun h=>W h (k.1 h)⟩ ⟨fun h=>Z h (k.2 h)⟩
theorem FV{b}{N O B:Prop}(W:b=true→N)(Z:b=false→O)(h:Wr (b=true→N)→Wr (b=false→O)→B:=by
 intro a1 a0
 repeat refine ZI ?_
 exact Cj.cond rfl a1.1 a0.1):B:=h ⟨W⟩ ⟨Z⟩
theorem TW{b}{p n N O B:Prop}(W:b=true→p→N)(Z:b=false→n→O)(h:Wr (b=true→N)→Wr (b=false→O)→B:=by
 intro a1 a0
 repeat refine ZI ?_
 exact J.spG rfl rfl rfl a1.1 a0.1)(k:(b=true→p)∧(b=false→n):=by exact tst):B:=h ⟨fun h=>W h (k.1 h)⟩ ⟨fun h=>Z h (k.2 h)⟩
theorem TV{b}{N O B:Prop}(W:b=true→N)(Z:b=false→O)(h:Wr (b=true→N)→Wr (b=false→O)→B:=by
 intro a1 a0
 repeat refine ZI ?_
 exact J.spG rfl rfl rfl a1.1 a0.1):B:=h ⟨W⟩ ⟨Z⟩
theorem BP{A B:Prop}(a:A)(h:Wr A→B:=by
 intro a
 repeat refine ZI ?_
 first
 |exact Ej.bare (Ej.a0l rfl rfl rfl a.1)
 |exact Ej.bare (Ej.b9I rfl rfl rfl rfl a.1)
 |exact Ej.bare (Ej.GY rfl rfl a.1)
 |exact Ej.bare (Ej.a3e rfl rfl a.1)):B:=h ⟨a⟩
theorem zZ{A B:Prop}(a:A)(h:Wr A→B:=by
 intro a
 repeat refine ZI ?_
 first
 |exact Ej.a0l rfl rfl rfl a.1
 |exact Ej.b9I rfl rfl rfl rfl a.1
 |exact Ej.GY rfl rfl a.1
 |exact Ej.a3e rfl rfl a.1):B:=h ⟨a⟩
theorem BF{P f args I v}{A B:Prop}(c:Pure P f args I v)(a:A)(h:Pure P f args I v→Wr A→B:=by
 intro c a
 repeat refine ZI ?_
 first
 | (with_reducible show J _ _ _ _ _ _ _)
   first
   |exact J.op rfl (NV rfl rfl rfl rfl rfl c a.1)
   |exact J.XQ _ _ _ _ rfl rfl rfl (by first|exact KA) (NV rfl rfl rfl rfl rfl c a.1)
 | (with_reducible show JA _ _ _ _ _ _ _ _ _ _ _ _)
   first
   |exact JA.st1 rfl rfl (by kernel_rfl) rfl (NV rfl rfl rfl rfl rfl c a.1)
   |exact JA.st2 rfl rfl (by kernel_rfl) rfl rfl rfl (by first|exact KA) (NV rfl rfl rfl rfl rfl c a.1)
 |exact NV rfl rfl rfl rfl rfl c a.1):B:=h c ⟨a⟩
theorem BH{P f args I H1}{N:Ending→Heap→HL→Prop}{A B:Prop}(c:yZ P f args I H1 N)(a:A)(h:Row H1→yZ P f args I H1 N→Wr A→B:=by
 intro r c a
 repeat refine ZI ?_
 first
 | (with_reducible show J _ _ _ _ _ _ _)
   first
   |exact J.op rfl (a3J r rfl rfl rfl rfl rfl c rfl a.1 (by first|exact JQ) (by first|exact JQ))
   |exact J.XQ _ _ _ _ rfl rfl rfl (by first|exact KA) (a3J r rfl rfl rfl rfl rfl c rfl a.1 (by first|exact JQ) (by first|exact JQ))
 | (with_reducible show JA _ _ _ _ _ _ _ _ _ _ _ _)
   first
   |exact JA.st1 rfl rfl (by kernel_rfl) rfl (a3J r rfl rfl rfl rfl rfl c rfl a.1 (by first|exact JQ) (by first|exact JQ))
   |exact JA.st2 rfl rfl (by kernel_rfl) rfl rfl rfl (by first|exact KA) (a3J r rfl rfl rfl rfl rfl c rfl a.1 (by first|exact JQ) (by first|exact JQ))
 |exact a3J r rfl rfl rfl rfl rfl c rfl a.1 (by first|exact JQ) (by first|exact JQ)):B:=h ⟨⟩ c ⟨a⟩
theorem PY{P f args I}{N:Ending→Heap→HL→Prop}{A B:Prop}(c:yZ P f args I [] N)(a:A)(h:yZ P f args I [] N→Wr A→B:=by
 intro c a
 repeat refine ZI ?_
 first
 | (with_reducible show J _ _ _ _ _ _ _)
   first
   |exact J.op rfl (IX rfl rfl rfl rfl rfl c a.1 (by first|exact JQ) (by first|exact JQ))
   |exact J.XQ _ _ _ _ rfl rfl rfl (by first|exact KA) (IX rfl rfl rfl rfl rfl c a.1 (by first|exact JQ) (by first|exact JQ))
 | (with_reducible show JA _ _ _ _ _ _ _ _ _ _ _ _)
   first
   |exact JA.st1 rfl rfl (by kernel_rfl) rfl (IX rfl rfl rfl rfl rfl c a.1 (by first|exact JQ) (by first|exact JQ))
   |exact JA.st2 rfl rfl (by kernel_rfl) rfl rfl rfl (by first|exact KA) (IX rfl rfl rfl rfl rfl c a.1 (by first|exact JQ) (by first|exact JQ))
 |exact IX rfl rfl rfl rfl rfl c a.1 (by first|exact JQ) (by first|exact JQ)):B:=h c ⟨a⟩
theorem LC{P f args I H1} R {N:Ending→Heap→HL→Prop}{A B:Prop}(c:yZ P f args I H1 N)(a:A)(h:Row R→yZ P f args I H1 N→Wr A→B:=by
 intro r c a
 repeat refine ZI ?_
 first
 | (with_reducible show J _ _ _ _ _ _ _)
   first
   |exact J.op rfl (a1V r rfl rfl rfl rfl rfl rfl c a.1 (by first|exact JQ) (by first|exact JQ))
   |exact J.XQ _ _ _ _ rfl rfl rfl (by first|exact KA) (a1V r rfl rfl rfl rfl rfl rfl c a.1 (by first|exact JQ) (by first|exact JQ))
 | (with_reducible show JA _ _ _ _ _ _ _ _ _ _ _ _)
   first
   |exact JA.st1 rfl rfl (by kernel_rfl) rfl (a1V r rfl rfl rfl rfl rfl rfl c a.1 (by first|exact JQ) (by first|exact JQ))
   |exact JA.st2 rfl rfl (by kernel_rfl) rfl rfl rfl (by first|exact KA) (a1V r rfl rfl rfl rfl rfl rfl c a.1 (by first|exact JQ) (by first|exact JQ))
 |exact a1V r rfl rfl rfl rfl rfl rfl c a.1 (by first|exact JQ) (by first|exact JQ)):B:=h ⟨⟩ c ⟨a⟩
section
variable {cx:Cx} {Q:Qt} {e:Env} {I I1:Heap} {H A:HL} {Z:CL} {z fuel:Nat} {listed:Array Bool} {ops:Array Oper} {l:List Oper} {o:Oper}
theorem J.zg{j d O N b v}(W:BJ cx o e (SS I H) v)(k:J cx Q ops l ((O,v)::e) I H)(Z:o.guard=some (j,N):=by rfl)(hd:(ops[j]?).bind (·.dst)=some d:=by rfl)(hv:eg e d=some (.bool b):=by rfl)(hb:b=N:=by exact KA)(ho:o.dst=some O:=by rfl)(hn:Nat.blt O cx.n=true:=by rfl):J cx Q ops (o::l) e I H:=J.XQ j d N b Z hd hv hb (AX W ho hn k)
end
theorem BD off {A B:Prop}(a:A)(h:Cnt off→Wr A→B:=by
 intro s a
 repeat refine ZI ?_
 first
 |(with_reducible show J _ _ _ _ _ _ _);first|(refine gdJ 2 rfl ?_;first|exact J.z (a4d s rfl rfl rfl (uU rfl rfl) (uS rfl rfl) (by first|decide|omega) (by first|decide|omega) (by first|decide|omega|(simp;done)|(simp;omega))) a.1|exact J.z (yl_ixA s rfl rfl rfl (uU rfl rfl) (uS rfl rfl) (by first|decide|omega) (by first|decide|omega) (by first|decide|omega|(simp;done)|(simp;omega))) a.1)|(refine gdJ 1 rfl ?_;first|exact J.zg (a4d s rfl rfl rfl (uU rfl rfl) (uS rfl rfl) (by first|decide|omega) (by first|decide|omega) (by first|decide|omega|(simp;done)|(simp;omega))) a.1|exact J.zg (yl_ixA s rfl rfl rfl (uU rfl rfl) (uS rfl rfl) (by first|decide|omega) (by first|decide|omega) (by first|decide|omega|(simp;done)|(simp;omega))) a.1)
 |(refine RU 0 2 rfl ?_;first|exact JA.tn 0 rfl rfl (by first|exact BM) (a4d s rfl rfl rfl (uU rfl rfl) (uS rfl rfl) (by first|decide|omega) (by first|decide|omega) (by first|decide|omega|(simp;done)|(simp;omega))) a.1|exact JA.tn 0 rfl rfl (by first|exact BM) (yl_ixA s rfl rfl rfl (uU rfl rfl) (uS rfl rfl) (by first|decide|omega) (by first|decide|omega) (by first|decide|omega|(simp;done)|(simp;omega))) a.1)
 |(refine RU 0 1 rfl ?_;first|exact JA.tnG 0 rfl rfl (by first|exact BM) rfl rfl rfl (by first|exact KA) (a4d s rfl rfl rfl (uU rfl rfl) (uS rfl rfl) (by first|decide|omega) (by first|decide|omega) (by first|decide|omega|(simp;done)|(simp;omega))) a.1|exact JA.tnG 0 rfl rfl (by first|exact BM) rfl rfl rfl (by first|exact KA) (yl_ixA s rfl rfl rfl (uU rfl rfl) (uS rfl rfl) (by first|decide|omega) (by first|decide|omega) (by first|decide|omega|(simp;done)|(simp;omega))) a.1)):B:=h ⟨⟩ ⟨a⟩
theorem xap m R {N sz n xs g}(c:BO N sz n xs g){A B:Prop}(a:A)(h:Cnt m→Row R→BO N sz n xs g→Wr A→B:=by
 intro s r c a
 repeat refine ZI ?_
 first
 |(with_reducible show J _ _ _ _ _ _ _);exact J.op rfl (b3r s r rfl rfl rfl rfl rfl (uU rfl rfl) (.inr ⟨_,(uU rfl rfl)⟩) (by kernel_rfl) (uS rfl rfl) (uZ rfl rfl) rfl c rfl (Src.slice (by first|exact bkA) rfl rfl rfl) (by omega) a.1)
 |exact JA.st1 rfl rfl (by kernel_rfl) rfl (b3r s r rfl rfl rfl rfl rfl (uU rfl rfl) (.inr ⟨_,(uU rfl rfl)⟩) (by kernel_rfl) (uS rfl rfl) (uZ rfl rfl) rfl c rfl (Src.slice (by first|exact bkA) rfl rfl rfl) (by omega) a.1)):B:=h ⟨⟩ ⟨⟩ c ⟨a⟩
section
variable {cx:Cx} {Q:Qt} {e:Env} {I I1:Heap} {H A:HL} {Z:CL} {z fuel:Nat} {listed:Array Bool} {ops:Array Oper} {l:List Oper} {o:Oper}
theorem J.ev d N {v}(O:eg e d=some v)(h:v=N)(k:J cx Q ops l ((d,N)::e) I H):J cx Q ops l e I H:=J.eqv d O h k
theorem JA.ev d N {v}(O:eg e d=some v)(h:v=N)(k:JA cx Q l I1 A Z z fuel listed ((d,N)::e) I H):JA cx Q l I1 A Z z fuel listed e I H:=JA.eqv d O h k
theorem Cj.ev{c} d N {v}(O:eg e d=some v)(h:v=N)(k:Cj cx Q c ((d,N)::e) I H):Cj cx Q c e I H:=Cj.eqv d O h k
theorem JA.zt i {d v}(N:l.toArray[i]?=some o)(O:BJ cx o e (SC I1 A Z) v)(k:JA cx Q l I1 A Z z fuel (listed.setIfInBounds i true) ((d,v)::e) I H)(W:OM I1 A Z I H:=by exact BM)
 (hd:o.dst=some d:=by rfl)(hg:o.guard=none:=by rfl)(hn:Nat.blt d cx.n=true:=by rfl)(hz:YA l.toArray listed z i=true:=by first|rfl|kernel_rfl)(hs:Region.noSelect l.toArray=true:=by kernel_rfl)(hf:Region.free .any l.toArray listed i=true:=by kernel_rfl)
 (hr:(Region.ready .any l.toArray listed).contains i=true:=by kernel_rfl)(hq:∀c a w,Q (.panic c) (a.put (some d) v) w→Q (.panic c) a w:=by exact fun _ _ _ h=>h):JA cx Q l I1 A Z z (fuel+1) listed e I H:=JA.tk i N W O k hd hg hn hz hs hf hr hq
end
theorem zT{P f fn c args I H}{N:Ending→Heap→HL→Prop}(W:P.funcs[f]?=some fn)
 (h:∀w0,Ready I H w0→Cj ⟨P,fn.ntmps,w0,H.map (·.1),I,[],none⟩ (bodyPost P fn (RR w0 (H.map (·.1)) I N)) c (MJ 0 args) I H)(Z:fn.body=some c:=by rfl)(O:fn.name≠ "runtime.NumGoroutine" :=by decide)
 (hn:args.length≤fn.ntmps:=by exact Nat.le_of_ble_eq_true rfl):yZ P f args I H N:=yZ.b0L W Z O hn h
end Go.Sx
section
namespace Go.Proofs.YtekmeaoblpfnpaaGreatDoor
open _root_.Go.Proofs.Tryz
open Go Go.Sx
def EP (b:Nat) (l:List UInt8) (p:Bool) (g:Gs):HL:=(b,zJ 204 [if p then ptr b 0 else .pointer none,gV l.length g])::gH 5 (CY l) g
theorem a3W b v I:yZ aA 184 [ptr b 0] I [(b,zJ 204 [.pointer none,v])] (fun e N H'=>e= .returned (.tuple #[])∧H'=[(b,zJ 204 [ptr b 0,v])]):=by
 refine zT func184 fun w0 _=>?_;refine yU 13 ?_;refine J.z (a9y 1 rfl rfl b1p a6M kR (yY.at 0 rfl) sI) ?_;refine J.z (b0b rfl rfl rfl func234 kR kR kR kR) ?_;refine J.z (a6x rfl rfl a6M b1p kR (yY.at 0 rfl) kR) ?_;refine yU 4 ?_;refine Ej.GY rfl rfl ?_;exact rT
theorem a4M b v I:yZ aA 184 [ptr b 0] I [(b,zJ 204 [ptr b 0,v])] (fun e N H'=>e= .returned (.tuple #[])∧H'=[(b,zJ 204 [ptr b 0,v])]):=by
 refine zT func184 fun w0 _=>?_;refine yU 17 ?_;refine J.z (b2A rfl rfl rfl b1p kR) ?_;refine yU 4 ?_;refine Ej.GY rfl rfl ?_;exact rT
theorem a8I b (p:Bool) v I:yZ aA 184 [ptr b 0] I [(b,zJ 204 [if p then ptr b 0 else .pointer none,v])] (fun e N H'=>e= .returned (.tuple #[])∧H'=[(b,zJ 204 [ptr b 0,v])]):=by
 cases p
 ·exact a3W b v I
 exact a4M b v I
theorem IB b l s p g (hg:BO 0 1 l.length (CY l) g)(hl:l.length≤1000000000000)(hs:s.length≤1000000000000) I:
 yZ aA 130 [ptr b 0,str s] I (EP b l p g) (fun e I' H'=>e= .returned (.tuple #[i64 s.length,.nilIface])∧∃N,BO 0 1 (l++s).length (CY (l++s)) N∧H'=EP b (l++s) true N):=by
 refine zT func130 fun w0 _=>?_;refine yU 9 ?_;refine J.pull Pull.z ?_;refine BH (a8I b p _ _) ?_;intro _ _ _ _ O;obtain⟨W,rfl⟩:=O;cases W;refine yU 10 ?_;refine J.op rfl (QW 0 (aT _) (by':=0) [_] rfl rfl rfl rfl rfl KE (.inl DC) kR tS5 tZ5 rfl hg rfl Src.str oM ?_);intro g6 Z;refine yU 14 ?_;refine Ej.keep (dY Keeps.r) ?_;refine zZ ?_;exact⟨rfl,g6,by simpa[CY]using Z,by simp[EP,CY]⟩
theorem b1Q b x I:yZ aA 132 [ptr b 0] I [(b,zJ 204 [x,.slice none 0 0])] (fun e N H'=>e= .returned (str [])∧∃y z,H'=[(b,zJ 204 [y,z])]):=by
 refine zT func132 fun w0 _=>?_;refine yU 6 ?_;refine Cj.AL [0] [] 12 kR ?_;refine yU 4 ?_;refine JA.zt 4 rfl (a4m rfl rfl) ?_;refine yU 5 ?_;refine zO 10 rfl (AX (a0Z rfl rfl rfl) rfl rfl ?_);refine yU 5 ?_;refine Ej.keep (dY Keeps.n) ?_;refine zZ ?_;exact⟨rfl,_,_,rfl⟩
theorem a9J b N c x l sp (h0:l≠[])(W:l.length≤1000000000000)(O:c≠0) I:yZ aA 132 [ptr b 0] I [(b,zJ 204 [x,.slice (some ⟨N,0,none⟩) l.length c]),(N,zJ 5 (CY l++sp))] (fun e Z H'=>e= .returned (str l)∧∃y z,H'=[(b,zJ 204 [y,z])]):=by
 refine zT func132 fun w0 _=>?_;refine yU 6 ?_;refine Cj.AL [0] [] 12 kR ?_;refine yU 4 ?_;refine JA.zt 4 rfl (a8g rfl rfl O) ?_;refine yU 5 ?_;refine zO 10 rfl (a4j 1 l rfl rfl rfl rfl rfl underlying246 kR rfl h0 oM (yX.s yX.z) ?_);refine yU 5 ?_;refine Ej.keep (dY (Keeps.d Keeps.n)) ?_;refine zZ ?_;exact⟨rfl,_,_,rfl⟩
theorem a1Q b l p g (O:BO 0 1 l.length (CY l) g)(h0:l=[]→g=none)(hl:l.length≤1000000000000) I:yZ aA 132 [ptr b 0] I (EP b l p g) (fun e I' H'=>e= .returned (str l)∧∃y z,H'=[(b,zJ 204 [y,z])]):=by
 cases g with
 |none=>
  have:l=[]:=aS.1 O.1;subst this;exact b1Q b _ I
 |some q=>
  obtain⟨gb,c,sp⟩:=q;have N:l≠[]:=fun h=>by cases h0 h
  have W:=O.2.1;have Z:=O.2.2;have:0<l.length:=List.length_pos_iff.2 N;exact a9J b gb c _ l sp N hl (by rw[W]at Z;omega) I
theorem b8Y b x I:yZ aA 131 [ptr b 0] I [(b,zJ 204 [x,.slice none 0 0])] (fun e N H'=>e= .returned (i64 0)∧H'=[(b,zJ 204 [x,.slice none 0 0])]):=by
 refine zT func131 fun w0 _=>?_;refine zZ ?_;exact rT
theorem b5G b x p n c I:yZ aA 131 [ptr b 0] I [(b,zJ 204 [x,.slice p n c])] (fun e N H'=>e= .returned (i64 n)∧H'=[(b,zJ 204 [x,.slice p n c])]):=by
 refine zT func131 fun w0 _=>?_;refine zZ ?_;exact rT
theorem b9V b x n g {sz xs}(N:BO 0 sz n xs g) I:yZ aA 131 [ptr b 0] I [(b,zJ 204 [x,gV n g])] (fun e O H'=>e= .returned (i64 n)∧H'=[(b,zJ 204 [x,gV n g])]):=by
 cases g with
 |none=>
  obtain rfl:n=0:=N.1;exact b8Y b x I
 |some q=>exact b5G b x _ n _ I
theorem b6I b x y I:yZ aA 133 [ptr b 0] I [(b,zJ 204 [x,y])] (fun e N H'=>e= .returned (.tuple #[])∧H'=[(b,zJ 204 [.pointer none,.slice none 0 0])]):=by
 refine zT func133 fun w0 _=>?_;refine yU 14 ?_;refine Ej.GY rfl rfl ?_;exact rT
end Go.Proofs.YtekmeaoblpfnpaaGreatDoor
end
namespace Go.Proofs.YtekmeaoblpfnpaaGreatDoor
open Go.ChangeShapes Go.WideShapes Go.ChangeAt Go.RowKit Go.Sx Go.Lib Go.ChangeMaps Go.WideMaps
theorem own:ownKnob aA.godebug=none:=kR
def HW (W:World):Heap:=fun b=>W.heap[b]?
theorem HW.ready W:Ready (HW W) [] W:=⟨fun _ _ h=>h,sI,sI,sI⟩
theorem HW.below{W w' N H'}(h:St W [] (HW W) N H' w'):Below W.heap.size W w':=⟨h.os,h.tape,h.output,h.size,fun b O=>h.frm b O sI⟩
theorem HW.calls{f args W v}(h:Sx.Pure aA f args (HW W) v):Calls aA f args.toArray W fun e w'=>e= .returned v∧Below W.heap.size W w':=
 (h.2 W (HW.ready W)).mono fun _ _ ⟨_,_,N,h1,_,_⟩=>⟨h1,HW.below N⟩
theorem b3q{H:Type}{enc P f}{s:ChangeSpec}{a0 fresh a3 again W W' args v ds gs N Z pv}
 (hB:Below W.heap.size W W')(hW:DataW.Whole enc P f.params.toList s.vars a0 W args.toList ds gs N)(a6:N=Z++pv)
 (a4:∀(b:Nat) (sp:Nat→Bool) (hd:Bool),dS enc P W' b sp hd f.resultTypes.toList (v.resultList f.resultTypes.size) (s.fn H (ds++gs)).results [])
 (a1:∀sp:Nat→Bool,(∀p∈N,sp p.block=true)→dS enc P W' 0 sp true f.params.toList args.toList (s.fn H (ds++gs)).args Z)
 (a2:∀sp:Nat→Bool,(∀p∈N,sp p.block=true)→DataW.TrodVars enc P W' sp s.vars (s.fn H (ds++gs)).vars pv)
 (a9:∀(j:Nat) (t:TypeId) (r:Value),f.resultTypes[j]?=some t→(v.resultList f.resultTypes.size)[j]?=some r→dV P W' .any 0 t r):s.post enc P f a0 fresh a3 again W args v W':=by
 have a5:∀p∈N,p.block<W.heap.size:=hW.lt;have mem:∀p,p∈N↔p∈Z∨p∈pv:=fun p=>by rw[a6];exact dK
 have both:([]++Z)++pv=N:=by rw[a6];rfl
 refine⟨ds,gs,N,[],Z,pv,hW,a4 _ _ _,a1 _ fun p O=>zH (a5 p O),a2 _ fun p O=>zH (a5 p O),World.keptBut_mono (fun p O=>⟨O,.inr ((mem p).1 O)⟩) (hB.frame (· ∈N)),fun _=>?_⟩;have aa:=a1 (fun _=>true) fun _ _=>rfl;obtain⟨_,_,_,_,_,a8,ab⟩:=hW;refine⟨a9,_,_,([]++Z)++pv,⟨[]++Z,pv,trodAll_append aa (a4 _ _ _),a2 _ fun _ _=>rfl,rfl,fun b off O=>?_,fun ha=>?_⟩,fun p O _=>?_⟩
 ·have a7:MemPlace.cell b off∈N:=both▸O;have ac:b<W.heap.size:=a5 _ a7;have hf:=a8 b off a7;unfold World.frozen? at hf ⊢;rw[hB.block b ac];exact hf
 ·exact both▸ab ha
 exact both▸O
def Again {H:Type} (enc:TypeId×Value→H) (W:World) (t:TypeId) (v:Value) (d:DataW H) (p:List MemPlace):Prop:=
 ∀W',Below W.heap.size W W'→∀sp:Nat→Bool,(∀q∈p,sp q.block=true)→bU enc aA W' 0 sp true t v d p
section
variable {H:Type} {enc:TypeId×Value→H} {W:World} {base:Nat}
end
theorem a7L{H:Type}{enc:TypeId×Value→H} os {f fn}{s:OpenSpec}{O W N} args
 (hv:((aX aA os N).forCall (fun _ _=>0) ⟨#[],args,[]⟩).variablesZipB aA=true)
 (hr:(((aX aA os N).forCall (fun _ _=>0) ⟨#[],args,[]⟩).heap.toList.drop aA.globals.size).take ((begin aA (fun _ _=>0) default).world.heap.size-aA.globals.size)=(begin aA (fun _ _=>0) default).world.heap.toList.drop aA.globals.size)
 (Z:Input.okWideB aA ((aX aA os N).forCall (fun _ _=>0) ⟨#[],args,[]⟩) f ⟨#[],args,[]⟩=true)
 (a0:s.preRow enc aA fn O W N ((aX aA os N).forCall (fun _ _=>0) ⟨#[],args,[]⟩).memory args):
 ∃(w:World) (tape:Tape) (i:Input),w.os=os∧(w.forCall tape i).Shaped aA∧i.vars=[]∧Input.okWide aA (w.forCall tape i) .any w.heap.size f i∧
  s.preRow enc aA fn O W N (w.forCall tape i).memory i.args∧({}:Assume).holds aA (lone (Frame.enter aA f i.args .normal) [] (w.forCall tape i)):=
 ⟨aX aA os N,fun _ _=>0,⟨#[],args,[]⟩,World.laidAll_os _ _ _,World.shaped_of_ZipB hv hr,(bH (base:=0) Z).1,(bH Z).2,a0,by
  simp only[Assume.holds];exact⟨sI,sI,sI,sI,sI⟩⟩
section
variable {H:Type} {enc:TypeId×Value→H} {W:World} {base:Nat}
def Arg (enc:TypeId×Value→H) (W:World) (t:TypeId) (cs:List Value) (m:Nat):Prop:=∃n x,bV enc aA W 0 (fun _=>true) true n t cs=some x∧aC x.1=m
theorem Arg.of{t v d p}(h:bU enc aA W 0 (fun _=>true) true t v d p):Arg enc W t v.cells.toList (aC d):=by
 obtain⟨n,N⟩:=h;exact⟨n,_,N,rfl⟩
theorem laidOut:laidOutB aA=true:=kR
theorem again{t v d p}(hr:aA.readableRec t=true)(N:t<aA.types.size)(h:bU enc aA W 0 (fun _=>true) true t v d p)(O:∀x∈p,x.block<W.heap.size):Again enc W t v d p:=
 fun _ hB _ Z=>WideElems.Trod_stays laidOut hr N h (fun _ hx=>hB.same (O _ hx)) Z
theorem mapM_some{α β:Type}{g}:∀{l:List α} {ys:List β},l.mapM g=some ys→ys.length=l.length∧∀(i:Nat) x,l[i]?=some x→∃y,ys[i]?=some y∧g x=some y
 |[],ys,h=>by simp at h;subst h;exact⟨rfl,fun i x N=>by simp at N⟩
 |a::l,ys,h=>by
  rw[List.mapM_cons]at h;cases ha:g a with
  |none=>simp[ha]at h
  |some y=>
   cases hl:l.mapM g with
   |none=>simp[ha,hl]at h
   |some zs=>
    simp[ha,hl]at h;subst h;obtain⟨h1,h2⟩:=mapM_some hl;refine⟨by simp[h1],fun i x N=>?_⟩;cases i with
    |zero=>simp at N;subst N;exact⟨y,rfl,ha⟩
    |succ i=>exact h2 i x (by simpa using N)
theorem a0o:∀(l:List (DataW H)),dG l=(l.map aC).sum
 |[]=>rfl
 |d::r=>by simp only[dG,aF,bD,a0o r]
theorem Arg.step{t cs m}(h:Arg enc W t cs m):∃n x,aQ enc aA W 0 (fun _=>true) true (bV enc aA W 0 (fun _=>true) true n) t cs=some x∧aC x.1=m:=by
 obtain⟨n,x,h,N⟩:=h;cases n with
 |zero=>simp[bV]at h
 |succ n=>exact⟨n,x,(DataW.trod_step enc aA W 0 (fun _=>true) true n t cs).symm.trans h,N⟩
theorem Arg.int{t k cs m}(O:aA.underlying t=some (.int k))(h:Arg enc W t cs m):∃z,cs=[.int k z]∧(Lit.int k z).wf=true∧m=1:=by
 obtain⟨n,x,h,N⟩:=h;obtain⟨z,rfl,rfl,Z⟩:=DataW.trod_int O h;simp only[aC]at N;exact⟨z,rfl,Z,N.symm⟩
theorem Arg.bool{t cs m}(N:aA.underlying t=some .bool)(h:Arg enc W t cs m):∃b:Bool,cs=[.bool b]:=by
 obtain⟨n,x,h,_⟩:=h.step;unfold aQ at h;rw[N]at h
 split at h<;>simp_all
theorem Arg.struct{t fs cs m}(Z:aA.underlying t=some (.struct fs))(h:Arg enc W t cs m):
 cs.length=aA.cellsOf t∧∃ms:List Nat,ms.length=fs.size∧ms.sum+1=m∧∀(i:Nat) f O,fs[i]?=some f→ms[i]?=some O→Arg enc W f.type ((cs.drop f.offset).take (aA.cellsOf f.type)) O:=by
 obtain⟨n,x,h,hm⟩:=h.step;unfold aQ at h;simp only[Z]at h
 split at h
 ·rename_i hl
  refine⟨hl,?_⟩;simp only[aU]at h;obtain⟨xs,hx,rfl⟩:=h;obtain⟨h1,h2⟩:=mapM_some hx;refine⟨xs.map fun y=>aC y.1,by simp[h1],?_,fun i f O hf N=>?_⟩
  ·rw[←hm];simp only[aC,a0o,aP];rfl
  obtain⟨y,hy,hg⟩:=h2 i f (by simpa using hf);rw[aI,hy]at N;simp only[bM,aH]at N;exact⟨n,y,hg,N⟩
 cases h
theorem Arg.array{t e k cs m}(Z:aA.underlying t=some (.array k e))(h:Arg enc W t cs m):
 cs.length=aA.cellsOf t∧∃ms:List Nat,ms.length=k∧ms.sum+1=m∧∀(i O:Nat),ms[i]?=some O→Arg enc W e ((cs.drop (i*aA.cellsOf e)).take (aA.cellsOf e)) O:=by
 obtain⟨n,x,h,hm⟩:=h.step;unfold aQ at h;simp only[Z]at h
 split at h
 ·rename_i hl
  refine⟨hl,?_⟩;simp only[aU]at h;obtain⟨xs,hx,rfl⟩:=h;obtain⟨h1,h2⟩:=mapM_some hx;rw[bF]at h1;refine⟨xs.map fun y=>aC y.1,by simp[h1],?_,fun i O N=>?_⟩
  ·rw[←hm];simp only[aC,a0o,aP];rfl
  have hi:i<k:=by
   have:=(aO.1 N).1;simpa[h1]using this
  obtain⟨y,hy,hg⟩:=h2 i i (aY hi);rw[aI,hy]at N;simp only[bM,aH]at N;exact⟨n,y,hg,N⟩
 cases h
theorem cells_at{a n cs}(h:W.cells? 0 a n=some cs):cs.length=n∧∀i,i<n→W.cell? (a.add i)=cs[i]?:=by
 unfold World.cells? at h;rw[zF (aT _)]at h;obtain⟨h1,h2⟩:=mapM_some h;rw[bF]at h1;refine⟨h1,fun i N=>?_⟩;obtain⟨y,O,Z⟩:=h2 i i (aY N);rw[Z,O]
theorem Arg.slice{t e sz cs m}(ht:aA.underlying t=some (.slice e))(a4:aA.cellsOf e=sz)(a2:0<sz)(h:Arg enc W t cs m):
 ∃(p:Option Addr) (len cap:Nat) (ms:List Nat),cs=[.slice p len cap]∧len≤cap∧cap≤maxLen∧ms.length=len∧ms.sum+1≤m∧(0<len→∃b o cells T fr,p=some ⟨b,o,none⟩∧HW W b=some (.cells (List.toArray cells) T fr)∧
  ∀(i m':Nat),ms[i]?=some m'→((cells.drop (o+i*sz)).take sz).length=sz∧Arg enc W e ((cells.drop (o+i*sz)).take sz) m'):=by
 obtain⟨n,x,g,hm⟩:=h.step;clear h;unfold aQ at g;simp only[ht]at g
 split at g<;>first|(exfalso;simp_all;done)|skip
 ·simp only[aH]at g;subst g;exact⟨none,0,0,[],rfl,aV _,aT _,rfl,by rw[←hm];simp[aC],fun h=>absurd h dE⟩
 rename_i a len cap he
 cases he
 split at g
 ·rename_i hl
  simp only[if_true,bI,aU]at g;obtain⟨O,a5,rest,_,rfl⟩:=g;obtain⟨h1,h2⟩:=mapM_some a5;rw[bF]at h1;refine⟨some a,len,cap,O.map fun y=>aC y.1,rfl,hl.2.1,hl.2.2,by simp[h1],?_,fun h0=>?_⟩
  ·rw[←hm];simp only[aC,a0o,aP];have:(O.map fun y=>aC y.1).sum=(O.map (aC∘fun x=>x.1)).sum:=rfl;omega
  have elem:∀i,i<len→∃(cs:List Value) (y:DataW H×List MemPlace),W.cells? 0 (a.add (i*sz)) sz=some cs∧O[i]?=some y∧bV enc aA W 0 (fun _=>true) true n e cs=some y:=fun i hi=>by
   obtain⟨y,hy,hg⟩:=h2 i i (aY hi);simp only[bI]at hg;obtain⟨cs,hc,hg⟩:=hg;rw[a4]at hc;exact⟨cs,y,hc,hy,hg⟩
  obtain⟨_,y0,a0,_,_⟩:=elem 0 h0;obtain⟨_,a0⟩:=cells_at a0;have N:=a0 0 a2;rw[List.getElem?_eq_getElem oM]at N;rw[Nat.zero_mul]at N;have ha:a.add 0=a:=by simp[Addr.add]
  rw[ha,ha]at N;obtain⟨a1,off,a3⟩:=a;cases a3 with
  |some sp=>obtain⟨_,_,_,_,hs⟩:=World.shape?_of_cell? N;cases hs
  |none=>
   have h':=N;unfold dX at h';cases hb:W.heap[a1]? with
   |none=>simp only[hb]at h';cases h'
   |some o=>
    cases o with
    |cells cells T fr=>
     refine⟨a1,off,cells.toList,T,fr,rfl,by show W.heap[a1]?=_;rw[hb],fun i m' Z=>?_⟩;have hi:i<len:=by
      have:=(aO.1 Z).1;simpa[h1]using this
     obtain⟨cs,y,hc,hy,hg⟩:=elem i hi;obtain⟨a6,a7⟩:=cells_at hc;have a8:(cells.toList.drop (off+i*sz)).take sz=cs:=by
      apply dA
      intro j;rcases Nat.lt_or_ge j sz with hj|hj
      ·have h3:=a7 j hj;rw[dW,dW]at h3;unfold dX at h3;simp only[hb]at h3;rw[cO,zF hj,List.getElem?_drop,←h3];simp
      rw[cO,zD oM,List.getElem?_eq_none oM]
     rw[a8];rw[aI,hy]at Z;simp only[bM,aH]at Z;exact⟨a6,n,y,hg,Z⟩
    |_=>simp only[hb]at h';cases h'
 cases g
theorem Arg.row{α:Type}{f size t e sz cs m}(ht:aA.underlying t=some (.slice e))(a3:aA.cellsOf e=sz)(a1:0<sz)(Q:α→Prop)
 (he:∀(cs:List Value) (O:Nat),O≤m→Arg enc W e cs O→∃x:α,cs=f x∧size x≤O∧Q x)(h:Arg enc W t cs m):
 ∃(l:List α) (v:Value),cs=[v]∧zU f (HW W) l v∧(l.map size).sum+1≤m∧l.length≤maxLen∧∀x∈l,Q x:=by
 obtain⟨p,len,cap,ms,rfl,a0,_,a4,a5,hb⟩:=h.slice ht a3 a1;rcases Nat.eq_zero_or_pos len with h0|h0
 ·subst h0;exact⟨[],_,rfl,⟨p,cap,rfl,a0,fun h=>absurd rfl h⟩,by simp;omega,aT _,fun x hx=>by cases hx⟩
 obtain⟨b,o,N,T,fr,rfl,a2,Z⟩:=hb h0
 have key:∀(ms:List Nat) (o:Nat),ms.sum+1≤m→(∀(i O:Nat),ms[i]?=some O→((N.drop (o+i*sz)).take sz).length=sz∧Arg enc W e ((N.drop (o+i*sz)).take sz) O)→
  ∃(l:List α) (sp:List Value),l.length=ms.length∧N.drop o=l.flatMap f++sp∧(l.map size).sum≤ms.sum∧∀x∈l,Q x:=by
  intro ms
  induction ms with
  |nil=>exact fun o _ _=>⟨[],N.drop o,rfl,rfl,aV _,fun x hx=>by cases hx⟩
  |cons a r ih=>
   intro o hs Z;rw[bD]at hs;have h0:=Z 0 a rfl;rw[Nat.zero_mul,Nat.add_zero]at h0;obtain⟨x,hx,_,hq⟩:=he _ a oM h0.2;obtain⟨l,sp,h1,h2,h3,h4⟩:=ih (o+sz) oM fun i O hi=>by
    have:=Z (i+1) O (by simpa using hi);rw[show o+(i+1)*sz=o+sz+i*sz by rw[Nat.add_mul];omega]at this;exact this
   refine⟨x::l,sp,by simp[h1],?_,by simp only[aF,bD];omega,fun y hy=>?_⟩
   ·rw[List.flatMap_cons,dD,←h2,←hx,←dP];exact(List.take_append_drop sz (N.drop o)).symm
   rcases aW.1 hy with rfl|hy
   ·exact hq
   exact h4 y hy
 obtain⟨l,sp,h1,h2,h3,h4⟩:=key ms o a5 Z;have a6:l.length=len:=h1.trans a4;subst a6;exact⟨l,_,rfl,⟨_,cap,rfl,a0,fun _=>⟨b,o,N,T,fr,sp,rfl,a2,h2⟩⟩,oM,oM,h4⟩
theorem a7E{α:Type}{f}:∀{l:List α},(∀x,1≤f x)→l.length≤(l.map f).sum
 |[],_=>aT _
 |a::r,h=>by
  have:=a7E (l:=r) h;have:=h a;simp only[aG,aF,bD];omega
theorem Arg.ints{t e cs m}(O:aA.underlying t=some (.slice e))(Z:aA.underlying e=some (.int .i64))(N:aA.cellsOf e=1)(h:Arg enc W t cs m):
 ∃(l:List Int) (v:Value),cs=[v]∧zU (fun n:Int=>[i64 n]) (HW W) l v∧l.length+1≤m:=by
 obtain⟨l,v,h1,h2,h3,_,_⟩:=h.row (f:=fun n:Int=>[i64 n]) (size:=fun _=>1) O N dE (fun _=>True) fun cs m' _ h=>by
  obtain⟨z,rfl,_,rfl⟩:=h.int Z;exact⟨z,rfl,aV _,trivial⟩
 have:=a7E (f:=fun _:Int=>1) (l:=l) fun _=>aV _;exact⟨l,v,h1,h2,oM⟩
theorem a9t{t e v d p}(Z:aA.underlying t=some (.slice e))(he:aA.underlying e=some (.int .i64))(a0:aA.cellsOf e=1)(hr:aA.readableRec t=true)(N:t<aA.types.size)
 (O:dV aA W .any base t v)(h:bU enc aA W 0 (fun _=>true) true t v d p)(a1:∀x∈p,x.block<W.heap.size):
 ∃l:List Int,zU (fun n:Int=>[i64 n]) (HW W) l v∧l.length+1≤aC d∧Again enc W t v d p:=by
 obtain⟨a,len,cap,rfl⟩:=okWide_slice Z O;obtain⟨l,v',h1,h2,h3⟩:=(Arg.of h).ints Z he a0;obtain rfl:Value.slice a len cap=v':=by simpa[Value.cells]using h1
 exact⟨l,h2,h3,again hr N h a1⟩
end
end Go.Proofs.YtekmeaoblpfnpaaGreatDoor
namespace Go.Proofs.YtekmeaoblpfnpaaGreatDoor.Sync
open _root_.Go.Proofs.Tryz
open Go Go.Sx
theorem disable w:(callFunc 331 #[]).run aA w= .ok (.value (.tuple #[])) w:=run_call_mark0 func331 kR kR kR .disable kR w
theorem enable w:(callFunc 333 #[]).run aA w= .ok (.value (.tuple #[])) w:=run_call_mark0 func333 kR kR kR .enable kR w
theorem acquire a w:(callFunc 334 #[.pointer (some a)]).run aA w= .ok (.value (.tuple #[])) w:=run_call_marked func334 kR kR kR .acquire kR a w
theorem releaseMerge a w:(callFunc 336 #[.pointer (some a)]).run aA w= .ok (.value (.tuple #[])) w:=run_call_marked func336 kR kR kR .releaseMerge kR a w
theorem store_deferred a x u w (hc:w.cell? a=some x)(hz:w.frozen? a=false):
 CallsD aA 306 #[.pointer (some a),.bool true] u w fun e W w'=>W=u∧(e= .returned (.tuple #[])∧w'=w.drew.setCell a (.int .u32 1)):=by
 have N:w.drew.cell? a=some x:=by go_simp
 have O:w.drew.frozen? a=false:=by go_simp
 have Z:=run_call_store (P:=aA) func321 kR kR kR kR (k:= .u32) (y:=1) N O
 go_enter_d func306,Tryz.ntmps306
 go_wp2
 go_region_calls
 all_goals (go_end0;exact rT)
theorem unlock_deferred a u w (N:w.cell? a=some (.int .i32 1))(O:w.frozen? a=false):
 CallsD aA 305 #[.pointer (some a)] u w fun e W w'=>W=u∧(e= .returned (.tuple #[])∧w'=w.setCell a (.int .i32 0)):=by
 have hd:=disable;have he:=enable;have hr:=releaseMerge;have Z:=run_call_add (P:=aA) func337 kR kR kR .i32 kR (y:= -1) (s:=0) N O (by simp[go_sem];rfl);have a0:=run_convert_to_unsafe (P:=aA) (src:=408) (dst:=284) underlying408 a6M kR N
 go_enter_d func305,Tryz.ntmps305
 go_wp2
 go_end0
 go_wp2
 go_end0
 exact rT
theorem lock_free a w (N:w.cell? a=some (.int .i32 0))(W:w.frozen? a=false):
 Calls aA 304 #[.pointer (some a)] w fun e w'=>e= .returned (.tuple #[])∧w'=w.setCell a (.int .i32 1):=by
 have hd:=disable;have he:=enable;have ha:=acquire;have Z:=run_call_cas_hit (P:=aA) func332 kR kR kR .i32 kR (y:=1) N W;have O:(w.setCell a (.int .i32 1)).cell? a=some (.int .i32 1):=World.cell?_setCell_same w a _ N;have a0:=run_convert_to_unsafe (P:=aA) (src:=408) (dst:=284) underlying408 a6M kR O
 go_enter func304,Tryz.ntmps304
 go_wp2
 first|go_end0|(simp only[Exit.inBlock,Exit.then];refine bodyPost_ret (results_none rfl _ _ _) rfl ?_)|refine bodyPost_ret (results_none rfl _ _ _) rfl ?_
 go_wp2
 go_end0
 exact rT
theorem b4B a x w (N:w.cell? a=some (.int .u32 x)):
 Calls aA 277 #[.pointer (some a)] w fun e w'=>e= .returned (.bool (x != 0))∧w'=w:=by
 have O:=run_call_load (P:=aA) func303 kR kR kR .u32 kR N
 go_enter func277,Tryz.ntmps277
 go_wp2
 go_ret
 exact rT
end Go.Proofs.YtekmeaoblpfnpaaGreatDoor.Sync
namespace Ke
open Go.Lib (decodeL decodeN)
abbrev Bs:=List UInt8
def QT:Nat→Bs→List Nat
 |0,_=>[]
 |_+1,[]=>[]
 |f+1,c::r=>(decodeL (c::r)).1::QT f ((c::r).drop (decodeL (c::r)).2)
def runes (s:Bs):List Nat:=QT s.length s
theorem a5V:∀(f g:Nat) (s:Bs),s.length≤f→s.length≤g→QT f s=QT g s
 |0,0,_,_,_=>rfl
 |0,g+1,s,h,_=>by
  have:s=[]:=aS.1 oM;subst this;rfl
 |f+1,0,s,_,h=>by
  have:s=[]:=aS.1 oM;subst this;rfl
 |f+1,g+1,[],_,_=>rfl
 |f+1,g+1,c::r,h1,h2=>by
  have N:=aK (c::r);simp only[aG]at h1 h2;simp only[QT];rw[a5V f g _ (by simp;omega) (by simp;omega)]
theorem b3G:runes []=[]:=rfl
theorem QG{s}(h:s≠[]):runes s=(decodeL s).1::runes (s.drop (decodeL s).2):=by
 cases s with
 |nil=>exact absurd rfl h
 |cons c r=>
  have N:=aK (c::r);show QT (r.length+1) (c::r)=_;simp only[QT];unfold runes;rw[a5V r.length _ _ (by simp;omega) (aV _)]
theorem a0E{s:Bs}{i}(h:i<s.length):runes (s.drop i)=(aJ ⟨s.toArray⟩ i).1::runes (s.drop (i+(aJ ⟨s.toArray⟩ i).2)):=by
 have h1:=aZ ⟨s.toArray⟩ i;simp only at h1;rw[←h1,QG (by simp;omega),dP]
theorem a1e{s:Bs}{i}(h:s.length≤i):runes (s.drop i)=[]:=by rw[bQ h];rfl
theorem decode_le(s:Bs) i:(aJ ⟨s.toArray⟩ i).1≤1114111:=by
 rw[←aZ ⟨s.toArray⟩ i];exact Go.Lib.decodeL_rune _
theorem NQ(s:Bs){i}(h:i<s.length):1≤(aJ ⟨s.toArray⟩ i).2∧i+(aJ ⟨s.toArray⟩ i).2≤s.length:=by
 have h1:decodeL (s.drop i)=aJ ⟨s.toArray⟩ i:=aZ ⟨s.toArray⟩ i;rw[←h1];refine⟨aK _,?_⟩;have:=Go.Lib.decodeL_le (s.drop i) (by simp;omega);simp only[dH]at this;omega
theorem YK:∀(f:Nat) (s:Bs),(QT f s).length≤s.length
 |0,_=>aT _
 |_+1,[]=>aV _
 |f+1,d::r=>by
  have N:=aK (d::r);have:=YK f ((d::r).drop (decodeL (d::r)).2);simp only[QT,aG];simp only[dH,aG]at this;omega
def enc (c:Nat):Bs:=
 if c<128 then[aB c]else if c<2048 then[aB (192+c / 64),aB (128+c % 64)]
 else if c<65536 then[aB (224+c / 4096),aB (128+c / 64 % 64),aB (128+c % 64)]
 else[aB (240+c / 262144),aB (128+c / 4096 % 64),aB (128+c / 64 % 64),aB (128+c % 64)]
def WI (c:Nat):Prop:=c<55296∨(57344≤c∧c<65536)
theorem b6M{c}(h:WI c):bW (c:Int)=true:=by
 unfold WI at h;unfold bW;simp only[Bool.or_eq_true,Bool.and_eq_true,zG];omega
theorem b4A{c:Nat}(N:bW (c:Int)=true):(bT (c:Int)).data.toList=(if c<128 then(⟨#[aB c]⟩:ByteArray)else if c<2048 then⟨#[aB (192+c / 64),aB (128+c % 64)]⟩else if c<65536 then⟨#[aB (224+c / 4096),aB (128+c / 64 % 64),aB (128+c % 64)]⟩
 else⟨#[aB (240+c / 262144),aB (128+c / 4096 % 64),aB (128+c / 64 % 64),aB (128+c % 64)]⟩).data.toList:=by simp_all[bT,N,if_true,Int.toNat_natCast]
theorem b2c{c}(h:WI c):(bT (c:Int)).data.toList=enc c:=by
 rw[b4A (b6M h)];unfold enc
 by_cases h1:c<128
 ·rw[zF h1,zF h1]
 rw[zD h1,zD h1]
 by_cases h2:c<2048
 ·rw[zF h2,zF h2]
 rw[zD h2,zD h2]
 by_cases h3:c<65536
 ·rw[zF h3,zF h3]
 rw[zD h3,zD h3]
def rows:List (Bs×Bs):=[
 ([97],[195,160,195,161,195,162,195,163,195,164,195,165,196,129,196,131,196,133,195,128,195,129,195,130,195,131,195,132,195,133,196,128,196,130,196,132]),
 ([99],[195,167,196,135,196,137,196,139,196,141,195,135,196,134,196,136,196,138,196,140]),
 ([100],[196,143,196,145,195,176,196,142,196,144,195,144]),
 ([101],[195,168,195,169,195,170,195,171,196,147,196,149,196,151,196,153,196,155,195,136,195,137,195,138,195,139,196,146,196,148,196,150,196,152,196,154]),
 ([103],[196,157,196,159,196,161,196,163,196,156,196,158,196,160,196,162]),
 ([104],[196,165,196,167,196,164,196,166]),
 ([105],[195,172,195,173,195,174,195,175,196,169,196,171,196,173,196,175,196,177,195,140,195,141,195,142,195,143,196,168,196,170,196,172,196,174,196,176]),
 ([106],[196,181,196,180]),
 ([107],[196,183,196,182]),
 ([108],[196,186,196,188,196,190,197,130,196,185,196,187,196,189,197,129]),
 ([110],[195,177,197,132,197,134,197,136,195,145,197,131,197,133,197,135]),
 ([111],[195,178,195,179,195,180,195,181,195,182,195,184,197,141,197,143,197,145,198,161,195,146,195,147,195,148,195,149,195,150,195,152,197,140,197,142,197,144,198,160]),
 ([114],[197,149,197,151,197,153,197,148,197,150,197,152]),
 ([115],[197,155,197,157,197,159,197,161,197,154,197,156,197,158,197,160]),
 ([116],[197,163,197,165,197,167,197,162,197,164,197,166]),
 ([117],[195,185,195,186,195,187,195,188,197,169,197,171,197,173,197,175,197,177,197,179,198,176,195,153,195,154,195,155,195,156,197,168,197,170,197,172,197,174,197,176,197,178,198,175]),
 ([119],[197,181,197,180]),
 ([121],[195,189,195,191,197,183,195,157,197,184,197,182]),
 ([122],[197,186,197,188,197,190,197,185,197,187,197,189]),
 ([97,101],[195,166,195,134]),
 ([111,101],[197,147,197,146]),
 ([115,115],[195,159]),
 ([116,104],[195,190,195,158]),
 ([206,177],[206,172,206,134]),
 ([206,181],[206,173,206,136]),
 ([206,183],[206,174,206,137]),
 ([206,185],[206,175,207,138,206,144,206,138,206,170]),
 ([206,191],[207,140,206,140]),
 ([207,133],[207,141,207,139,206,176,206,142,206,171]),
 ([207,137],[207,142,206,143]),
 ([208,181],[209,145,208,129])]
def tab:List (Nat×Bs):=[
 (224,[97]),(225,[97]),(226,[97]),(227,[97]),(228,[97]),(229,[97]),(257,[97]),(259,[97]),(261,[97]),(192,[97]),(193,[97]),(194,[97]),(195,[97]),(196,[97]),(197,[97]),(256,[97]),(258,[97]),(260,[97]),
 (231,[99]),(263,[99]),(265,[99]),(267,[99]),(269,[99]),(199,[99]),(262,[99]),(264,[99]),(266,[99]),(268,[99]),
 (271,[100]),(273,[100]),(240,[100]),(270,[100]),(272,[100]),(208,[100]),
 (232,[101]),(233,[101]),(234,[101]),(235,[101]),(275,[101]),(277,[101]),(279,[101]),(281,[101]),(283,[101]),(200,[101]),(201,[101]),(202,[101]),(203,[101]),(274,[101]),(276,[101]),(278,[101]),(280,[101]),(282,[101]),
 (285,[103]),(287,[103]),(289,[103]),(291,[103]),(284,[103]),(286,[103]),(288,[103]),(290,[103]),
 (293,[104]),(295,[104]),(292,[104]),(294,[104]),
 (236,[105]),(237,[105]),(238,[105]),(239,[105]),(297,[105]),(299,[105]),(301,[105]),(303,[105]),(305,[105]),(204,[105]),(205,[105]),(206,[105]),(207,[105]),(296,[105]),(298,[105]),(300,[105]),(302,[105]),(304,[105]),
 (309,[106]),(308,[106]),
 (311,[107]),(310,[107]),
 (314,[108]),(316,[108]),(318,[108]),(322,[108]),(313,[108]),(315,[108]),(317,[108]),(321,[108]),
 (241,[110]),(324,[110]),(326,[110]),(328,[110]),(209,[110]),(323,[110]),(325,[110]),(327,[110]),
 (242,[111]),(243,[111]),(244,[111]),(245,[111]),(246,[111]),(248,[111]),(333,[111]),(335,[111]),(337,[111]),(417,[111]),(210,[111]),(211,[111]),(212,[111]),(213,[111]),(214,[111]),(216,[111]),(332,[111]),(334,[111]),(336,[111]),(416,[111]),
 (341,[114]),(343,[114]),(345,[114]),(340,[114]),(342,[114]),(344,[114]),
 (347,[115]),(349,[115]),(351,[115]),(353,[115]),(346,[115]),(348,[115]),(350,[115]),(352,[115]),
 (355,[116]),(357,[116]),(359,[116]),(354,[116]),(356,[116]),(358,[116]),
 (249,[117]),(250,[117]),(251,[117]),(252,[117]),(361,[117]),(363,[117]),(365,[117]),(367,[117]),(369,[117]),(371,[117]),(432,[117]),(217,[117]),(218,[117]),(219,[117]),(220,[117]),(360,[117]),(362,[117]),(364,[117]),(366,[117]),(368,[117]),(370,[117]),(431,[117]),
 (373,[119]),(372,[119]),
 (253,[121]),(255,[121]),(375,[121]),(221,[121]),(376,[121]),(374,[121]),
 (378,[122]),(380,[122]),(382,[122]),(377,[122]),(379,[122]),(381,[122]),
 (230,[97,101]),(198,[97,101]),
 (339,[111,101]),(338,[111,101]),
 (223,[115,115]),
 (254,[116,104]),(222,[116,104]),
 (940,[206,177]),(902,[206,177]),
 (941,[206,181]),(904,[206,181]),
 (942,[206,183]),(905,[206,183]),
 (943,[206,185]),(970,[206,185]),(912,[206,185]),(906,[206,185]),(938,[206,185]),
 (972,[206,191]),(908,[206,191]),
 (973,[207,133]),(971,[207,133]),(944,[207,133]),(910,[207,133]),(939,[207,133]),
 (974,[207,137]),(911,[207,137]),
 (1105,[208,181]),(1025,[208,181])]
def char (c:Nat):Bs:=
 if (97≤c∧c≤122)∨(48≤c∧c≤57)then enc c
 else if 65≤c∧c≤90 then enc (c+32)
 else if c<128 then[32]
 else if (768≤c∧c≤879)∨(65056≤c∧c≤65071)then[]
 else match tab.lookup c with
  |some s=>s
  |none=>
   if c=962 then enc 963
   else if (945≤c∧c≤969)∨(1072≤c∧c≤1103)then enc c
   else if ((913≤c∧c≤937)∧c≠930)∨(1040≤c∧c≤1071)then enc (c+32)
   else[32]
def JC:List (Bs×Bs)→List (Nat×Bs)
 |[]=>[]
 |(a,b)::r=>(runes b).map (·,a)++JC r
theorem b4b:JC rows=tab:=kR
theorem b4V:(tab.map (·.1)).Nodup:=by decide +kernel
def wf (w:Bs):List Nat→List Bs
 |[]=>if w=[]then[]else[w]
 |c::r=>if char c=[32]then(if w=[]then wf [] r else w::wf [] r)else wf (w++char c) r
def words (s:Bs):List Bs:=wf [] (runes s)
def join:List Bs→Bs
 |[]=>[]
 |[a]=>a
 |a::b::r=>a++[32]++join (b::r)
theorem SX:∀(l:List Nat) (w:Bs),∀x∈wf w l,x≠[]
 |[],w,x,h=>by
  unfold wf at h
  split at h
  ·cases h
  simp at h;subst h;assumption
 |c::r,w,x,h=>by
  unfold wf at h
  split at h
  ·split at h
   ·exact SX r [] x h
   rcases aW.1 h with rfl|h
   ·assumption
   exact SX r [] x h
  exact SX r _ x h
def digit (c:UInt8):Bool:=48≤c && c≤57
def digits (s:Bs):Bool:=s.all digit
def strip (s:Bs):Bs:=(s.dropLast.dropWhile (· == 48))++s.drop (s.length-1)
def number (s:Bs):Bs:=
 let t:=strip s
 let n:=min t.length 99
 [aB (48+n / 10),aB (48+n % 10)]++t
def JL (w:Bs):Bs:=if digits w then number w else w
def cut (s:Bs) (skip:Int):Bs:=s.drop (min (max skip 0) s.length).toNat
def FY (s:Bs) (skip:Int):Bs:=join ((words (cut s skip)).map JL)
end Ke
namespace Ke
def okb (c:UInt8):Bool:=digit c || c == 88 || c == 120 || c == 32 || c == 45
def nb (c:UInt8):Bool:= !(c == 32 || c == 45)
def up (c:UInt8):UInt8:=if c=120 then 88 else c
def norm (s:Bs):Bs:=((s.takeWhile okb).filter nb).map up
def a1l:Nat→Bs→Nat
 |_,[]=>0
 |k,c::r=>(c.toNat-48)*(1+2*(k % 2))+a1l (k+1) r
def check (s:Bs):UInt8:=aB (48+(10-a1l 0 (s.take 12) % 10) % 10)
def val (c:UInt8):Nat:=if c=88 then 10 else c.toNat-48
def a1J:Nat→Bs→Nat
 |_,[]=>0
 |k,c::r=>(10-k)*val c+a1J (k+1) r
def a3M (s:Bs):Bool:=a1J 0 s % 11 == 0 && digits (s.take 9)
def b1w (t:Bs):Bs×Bool:=
 if t.length=10∧a3M t=true then([57,55,56]++t.take 9++[check ([57,55,56]++t.take 9)],true)
 else if t.length=13∧digits t=true∧check t=t.getD 12 0 then(t,true)
 else([],false)
def YR (s:Bs):Bs×Bool:=b1w (norm s)
theorem a8j{p:UInt8→Prop}(h:∀n<256,p (aB n)) c:p c:=by grind [c.toNat_lt,UInt8.ofNat_toNat]
theorem a1i{c}:digit c=true↔48≤c.toNat∧c.toNat≤57:=by
 simp[digit,UInt8.le_iff_toNat_le]
theorem a9X{c r}:digits (c::r)=(digit c && digits r):=rfl
theorem a0m{a b}:digits (a++b)=(digits a && digits b):=by simp[digits,List.all_append]
theorem a8u:∀(a b:Bs) (k:Nat),a1l k (a++b)=a1l k a+a1l (k+a.length) b
 |[],b,k=>by simp[a1l]
 |c::r,b,k=>by
  simp only[dI,a1l,aG,a8u r b (k+1)];rw[show k+1+r.length=k+(r.length+1) by omega];omega
theorem a8Y:∀(a b:Bs) (k:Nat),a1J k (a++b)=a1J k a+a1J (k+a.length) b
 |[],b,k=>by simp[a1J]
 |c::r,b,k=>by
  simp only[dI,a1J,aG,a8Y r b (k+1)];rw[show k+1+r.length=k+(r.length+1) by omega];omega
end Ke
section
namespace Ke
def rep (s:Bs):Bs:=s.filter nb
theorem c0I c:nb c= !(c == 32 || c == 45):=rfl
end Ke
namespace Go.Sx
def buf (E:List UInt8) (n:Nat):List Value:=CY E++dQ (n-E.length) (.int .u8 0)
theorem b7T n:buf [] n=dQ n (.int .u8 0):=by simp[buf,CY]
theorem b0u{E n}(h:E.length≤n):(buf E n).length=n:=by simp[buf,CY];omega
theorem b8q{E X n}(h:E.length+X.length≤n):yV (buf E n) E.length (CY X) (buf (E++X) n):=by
 have N:(CY X).length=X.length:=OA X;have O:(CY E).length=E.length:=OA E;refine⟨by rw[b0u oM,N];exact h,?_⟩;unfold buf;rw[N,List.take_append_of_le_length oM,List.take_of_length_le oM,List.drop_append,bQ oM,O];simp only[CY,bJ,List.nil_append,dD,List.drop_replicate,List.length_append]
 congr 2
 congr 1
 omega
theorem b8l{E n} c (h:E.length<n):(buf E n).set E.length (u8 c)=buf (E++[c]) n:=by
 have N:(CY E).length=E.length:=OA E;unfold buf;rw[List.set_append_right _ _ oM,N,Nat.sub_self];obtain⟨m,O⟩:∃m,n-E.length=m+1:=⟨n-E.length-1,oM⟩;have h2:n-(E++[c]).length=m:=by simp;omega
 rw[O,h2,List.replicate_succ,List.set_cons_zero];simp[CY]
theorem b5X{E n}(h:n=E.length):buf E n=CY E++[]:=by
 subst h;simp[buf]
