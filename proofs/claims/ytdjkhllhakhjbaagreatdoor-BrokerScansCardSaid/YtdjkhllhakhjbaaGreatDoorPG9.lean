/-
  Own texts on the laws of the seat, joined: the logic, and contracts of functions. Conditions: none.
-/
import Derived.Test.YtdjkhllhakhjbaaGreatDoorNmG
import Derived.Test.YtdjkhllhakhjbaaGreatDoorPG8
set_option linter.all false
set_option maxRecDepth 100000
set_option maxHeartbeats 40000000
open Go.Sx.HSub renaming c -> aA,n -> aF
open Go.Sx.JA renaming tk -> aB,fix -> aU,eqv -> bH
open Go.Sx.Le renaming refl -> aC,trans -> fJ
open Go.Sx.CSub renaming n -> aG
open Ix renaming plW -> aH,plK -> aJ,way -> aT,cnt -> aV,NQ -> dI,Rec -> dJ,QN -> fU
open Go.Sx.DZ renaming s -> aI,z -> bG
open Go.Sx.yR renaming ZU -> aK,WH -> bZ
open Go.Sx.Keeps renaming d -> aN,n -> bU,r -> dY
open List renaming map_append -> aO,mem_append -> aS,length_append -> aW,getElem?_eq_some_iff -> aX,append_nil -> bF,length_eq_zero_iff -> bI,count_le_length -> bK,map_cons -> bM,length_map -> bP,flatMap_cons -> bW,mem_cons -> bY,length_cons -> cO,mem_append_right -> cZ,perm_append_comm -> dB,mem_map -> dD,mem_append_left -> dF,mem_map_of_mem -> dG,nodup_append -> dK,getElem?_set -> dM,not_mem_nil -> dN,take_length -> dP,length_drop -> dQ,length_take -> dR,nodup_cons -> dS,nil_append -> dU,getElem?_toArray -> dX,one_le_count_iff -> dZ,mem_of_getElem? -> eF,mem_of_mem_drop -> eH,mem_of_mem_take -> eP,flatMap_append -> eU,mem_singleton -> eX,filter_append -> eY,map_nil -> fE,getElem?_map -> fF,drop_length -> fK,map_map -> gB
open Go.Proofs.Tryz renaming prog -> aP
open Go.Sx.J renaming z -> aQ,op -> bV,eqv -> fM
open Go.Sx.Ej renaming keep -> aY,RY -> aZ,seq -> bT,pull -> fQ
open Go.Sx.World renaming block -> bC
open Go.Sx.Cj renaming JD -> bD,region -> bQ,skip -> dA,seq -> fO
open Bool renaming false_eq_true -> bJ,true_and -> fV
open List.Perm renaming cons -> dH
open Go.Result renaming andThen_ok -> dL
open Go.Instr renaming mapEntry -> dV,keyThatStays -> fB,entryStore -> fH,findKey -> fZ
open Array renaming getElem?_modify -> dW,ext_getElem? -> fC
open Nat renaming mul_le_mul_right -> eG,zero_le -> fG
open Go.Sem renaming run_bind -> fA,run -> fP
open Go.Sx.KP renaming part -> fD
open Go.Sx.Pull renaming z -> gG
open Go.Sx.yS renaming perm -> gI
open Go.Sx.EW renaming c -> gJ,z -> gK
namespace Go.Sx
open Go
section
variable {α β:Type} [BEq α] [LawfulBEq α] [BEq β] [LawfulBEq β]
abbrev RQ (α β:Type):=List (α×Nat×ML β×Nat)
abbrev nvp (e:α×Nat×ML β×Nat):α×Value:=(e.1,.map (some e.2.1))
def XI (kv:β→Value) (N:RQ α β):HL:=N.map fun e=>(e.2.1,zY kv e.2.2.1 e.2.2.2)
omit [BEq α] [LawfulBEq α] [BEq β] [LawfulBEq β] in
theorem a3R kv (A B:RQ α β):XI kv (A++B)=XI kv A++XI kv B:=by unfold XI;rw[aO]
omit [BEq α] [LawfulBEq α] [BEq β] [LawfulBEq β] in
theorem b6G kv (A B:RQ α β)(a:α)(b:Nat) m c:((b,zY kv m c)::XI kv (A++B)).Perm (XI kv (A++(a,b,m,c)::B)):=by
 rw[a3R,a3R];exact(List.perm_middle).symm
def cv (n:Nat):Option Value:=if n=0 then none else some (i64 (n:Int))
def bump (f:α→β→Nat) (a:α) (b:β) (d:Nat→Nat) (x:α) (y:β):Nat:=if x == a && y == b then d (f x y)else f x y
structure DK (l:ML α) (c:Nat) (N:RQ α β) (f:α→β→Nat):Prop where
  ms:MS l c
  vals:l.map kvp=N.map nvp
  inn:∀e∈N,MS e.2.2.1 e.2.2.2∧e.2.2.1≠[]∧∀t,BF e.2.2.1 t=cv (f e.1 t)
  out:∀a,a ∉ N.map (·.1)→∀t,f a t=0
omit [BEq α] [LawfulBEq α] [LawfulBEq β] in
theorem DK.nil:DK ([]:ML α) 0 ([]:RQ α β) (fun _ _=>0):=⟨MS.nil,rfl,fun _ h=>(by cases h),fun _ _ _=>rfl⟩
omit [BEq α] [LawfulBEq α] [BEq β] [LawfulBEq β] in
theorem a5T(N:RQ α β):(N.map nvp).map (·.1)=N.map (·.1):=by rw[gB];rfl
omit [BEq α] [LawfulBEq α] [LawfulBEq β] in
theorem DK.keys{l:ML α}{c:Nat}{N:RQ α β}{f:α→β→Nat}(h:DK l c N f):l.map (·.1)=N.map (·.1):=by
 rw[←a5T N,←h.vals,gB];rfl
omit [BEq α] [LawfulBEq α] [LawfulBEq β] in
theorem DK.nodup{l:ML α}{c:Nat}{N:RQ α β}{f:α→β→Nat}(h:DK l c N f):(N.map (·.1)).Nodup:=h.keys▸h.ms.1
omit [LawfulBEq β] in
theorem DK.find{l:ML α}{c:Nat}{N:RQ α β}{f:α→β→Nat}(h:DK l c N f)(a:α):
 (a ∉ N.map (·.1)∧BF l a=none∧∀t,f a t=0)∨∃A b m k B,N=A++(a,b,m,k)::B∧BF l a=some (.map (some b))∧MS m k∧m≠[]∧(∀t,BF m t=cv (f a t))∧a ∉ A.map (·.1)∧a ∉ B.map (·.1):=by
 by_cases ha:a∈N.map (·.1)
 ·obtain⟨⟨G,b,m,k⟩,O,rfl⟩:=dD.1 ha;obtain⟨A,B,rfl⟩:=List.append_of_mem O;have hn:=h.nodup;rw[aO,bM,dK,dS]at hn;have Q:G ∉ A.map (·.1):=fun g=>hn.2.2 _ g _ (.head _) rfl;have Z:BF l G=some (.map (some b)):=by
   rw[b2i,h.vals,aO,bM];exact(b4t (v:= .map none) (by rw[a5T];exact Q)).2
  obtain⟨h3,h4,h5⟩:=h.inn _ O;exact .inr ⟨A,b,m,k,B,rfl,Z,h3,h4,h5,Q,hn.2.1.1⟩
 refine .inl ⟨ha,?_,h.out a ha⟩;rw[JC,h.keys];exact ha
theorem DK.set{l c}{A B:RQ α β}{f}{a:α}{b k Q:Nat}{m N:ML β}{t:β}{d:Nat→Nat}(h:DK l c (A++(a,b,m,k)::B) f)
 (h1:MS N Q)(h2:N≠[])(h3:∀s,BF N s=if s == t then cv (d (f a t))else BF m s):DK l c (A++(a,b,N,Q)::B) (bump f a t d):=by
 have hn:=h.nodup;rw[aO,bM,dK,dS]at hn;have hA:∀e∈A++B,e.1≠a:=by
  intro e G g;rcases aS.1 G with G|G
  ·exact hn.2.2 _ (dG G) _ (.head _) g
  exact hn.2.1.1 (dD.2 ⟨e,G,g⟩)
 refine⟨h.ms,?_,fun e G=>?_,fun x hx s=>?_⟩
 ·rw[h.vals];simp
 ·have O:e∈A++B∨e=(a,b,N,Q):=by
   rcases aS.1 G with G|G
   ·exact .inl (dF _ G)
   rcases bY.1 G with G|G
   ·exact .inr G
   exact .inl (cZ _ G)
  rcases O with G|rfl
  ·obtain⟨g1,g2,Z⟩:=h.inn e (by rcases aS.1 G with G|G;exact dF _ G;exact cZ _ (.tail _ G));refine⟨g1,g2,fun s=>?_⟩;have:(e.1 == a)=false:=by simpa using hA e G
   rw[Z];unfold bump;rw[this];rfl
  refine⟨h1,h2,fun s=>?_⟩;dsimp only;rw[h3];obtain⟨_,_,Z⟩:=h.inn (a,b,m,k) sI;unfold bump
  by_cases hs:(s == t)=true
  ·have:=zC hs;subst this;simp
  simp only[hs,if_false,beq_self_eq_true,fV,bJ];exact Z s
 have a0:x ∉ (A++(a,b,m,k)::B).map (·.1):=by simpa using hx
 have a1:(x == a)=false:=by
  have:x≠a:=fun g=>hx (by rw[g];simp);simpa using this
 unfold bump;rw[a1];exact h.out x a0 s
theorem DK.add{l c N f}{a:α}{b Z:Nat}{G}{t:β}{d:Nat→Nat}(h:DK l c N f)(O:a ∉ N.map (·.1))
 (h1:MS G Z)(h2:G≠[])(h3:∀s,BF G s=if s == t then cv (d 0)else none):DK (BN l a (.map (some b)) c) (EU l a c) (N++[(a,b,G,Z)]) (bump f a t d):=by
 refine⟨h.ms.set a _,?_,fun e A=>?_,fun x Q s=>?_⟩
 ·rw[b1e,h.vals,(b1s (by rw[a5T];exact O)).1,aO];rfl
 ·rcases aS.1 A with A|A
  ·obtain⟨g1,g2,g3⟩:=h.inn e A;refine⟨g1,g2,fun s=>?_⟩;have:(e.1 == a)=false:=by
    have:e.1≠a:=fun g=>O (g▸dG A);simpa using this
   rw[g3];unfold bump;rw[this];rfl
  rw[eX.1 A];refine⟨h1,h2,fun s=>?_⟩;dsimp only;rw[h3,←h.out a O t];unfold bump
  by_cases hs:(s == t)=true
  ·have:=zC hs;subst this;simp
  simp only[hs,if_false,beq_self_eq_true,fV,bJ];rw[h.out a O s];rfl
 rw[aO,aS,not_or]at Q;have a0:(x == a)=false:=by
  have:x≠a:=by simpa using Q.2
  simpa using this
 unfold bump;rw[a0];exact h.out x Q.1 s
theorem DK.drop{l c}{A B:RQ α β}{f}{a:α}{b k:Nat}{m:ML β}{t:β}{d:Nat→Nat}(h:DK l c (A++(a,b,m,k)::B) f)
 (Z:∀s,s≠t→f a s=0)(h2:d (f a t)=0):DK (GV l a) c (A++B) (bump f a t d):=by
 have hn:=h.nodup;rw[aO,bM,dK,dS]at hn;have O:∀e∈A++B,e.1≠a:=by
  intro e G g;rcases aS.1 G with G|G
  ·exact hn.2.2 _ (dG G) _ (.head _) g
  exact hn.2.1.1 (dD.2 ⟨e,G,g⟩)
 refine⟨h.ms.del a,?_,fun e G=>?_,fun x N s=>?_⟩
 ·have h3:(GV l a).map kvp=(l.map kvp).filter fun p=> !(p.1 == a):=by
   rw[OG h.ms.1,List.filter_map];rfl
  rw[h3,h.vals,aO,bM,eY,List.filter_cons_of_neg sI,←eY,←aO];rw[List.filter_eq_self.2];intro p hp;obtain⟨e,G,rfl⟩:=dD.1 hp;have:=O e G;simpa using this
 ·obtain⟨g1,g2,g3⟩:=h.inn e (by rcases aS.1 G with G|G;exact dF _ G;exact cZ _ (.tail _ G));refine⟨g1,g2,fun s=>?_⟩;have:(e.1 == a)=false:=by simpa using O e G
  rw[g3];unfold bump;rw[this];rfl
 unfold bump
 by_cases hxa:x=a
 ·subst hxa
  by_cases hs:s=t
  ·subst hs;simp[h2]
  have:(s == t)=false:=by simpa using hs
  simp only[this,Bool.and_false,bJ,if_false];exact Z s hs
 have Q:(x == a)=false:=by simpa using hxa
 rw[Q];refine h.out x ?_ s;rw[aO,bM,aS,bY,not_or,not_or];rw[aO,aS,not_or]at N;exact⟨N.1,hxa,N.2⟩
theorem b6N{m}{g:β→Nat}(h:∀s,BF m s=cv (g s)) t (n:Nat)(hn:n≠0) k:∀s,BF (BN m t (i64 (n:Int)) k) s=if s == t then cv n else BF m s:=by
 intro s;rw[LM];unfold cv;rw[zF hn]
omit [LawfulBEq β] in
theorem b6t{m}{g:β→Nat}(A:∀s,BF m s=cv (g s)) t:(BF m t).getD (i64 0)=i64 (g t:Int):=by
 rw[A];unfold cv
 split
 ·rename_i h;rw[h];rfl
 rfl
end
section
variable {α:Type} [BEq α] [LawfulBEq α]
def RI (l:ML α) (a:α) (c:Nat):Nat:=match l with
 |[]=>c
 |(b,_,n)::r=>if a == b then n else RI r a c
omit [LawfulBEq α] in
theorem a5B{l}{a:α}{c:Nat}(h:BF l a=none):RI l a c=c:=by
 induction l with
 |nil=>rfl
 |cons p r G=>
  obtain⟨b,u,n⟩:=p;unfold BF at h;unfold RI
  split at h
  ·cases h
  rename_i A
  rw[zF A];exact G h
theorem a5x{a v}:∀(l:ML α) (c i:Nat),BF l a=some v→∃j,midx l a i=some (i+j,v)∧l[j]?=some (a,v,RI l a c)∧∀x A,BN l a x A=l.set j (a,x,RI l a c)
 |[],_,_,h=>by cases h
 |(b,u,n)::r,c,i,h=>by
  unfold BF at h
  split at h
  ·rename_i Q
   have N:=zC Q;subst N;cases h;exact⟨0,by simp[midx],by simp[RI],fun x A=>by simp[BN,RI]⟩
  rename_i O
  have G:(a == b)=false:=by simpa using O
  obtain⟨j,Z,h2,h3⟩:=a5x r c (i+1) h;refine⟨j+1,?_,?_,fun x A=>by simp[BN,RI,G,h3]⟩
  ·simp only[midx,G,bJ,if_false];rw[Z,Nat.add_assoc,Nat.add_comm 1 j]
  simp only[List.getElem?_cons_succ,RI,G,bJ,if_false];exact h2
variable {cx:Cx} {Q:Qt} {e:Env} {I:Heap} {H:HL} {o:Oper} {C:Ct} {S:World→Prop}
theorem b0C{P:Program}{T K E b c:Nat}{kv:α→Value}{l:ML α}{a:α}{z:Value}{w:World}(hT:P.underlying T=some (.map K E))(hk:GU P K kv)(hz:∀w,(zeroValue E).run P w= .ok z w)(hb:w.heap[b]?=some (zY kv l c)):
 (dV T (.map (some b)) (kv a)).run P w= .ok (.tuple #[(BF l a).getD z,i64 (RI l a c:Int)]) (bC w b (zY kv (BN l a ((BF l a).getD z) c) (EU l a c))):=by
 obtain⟨hf,hc,G⟩:=hk;have hg:(getObj b).run P w= .ok (zY kv l c) w:=by simp[getObj,fP,hb,zY]
 have hset:∀o',(setObj b o').run P w= .ok () (bC w b o'):=fun o'=>by simp[setObj,fP,hb,bC,zY]
 cases hm:BF l a with
 |none=>
  obtain⟨N,h⟩:=VZ l 0 hm;have Z:(fZ K (kv a) (l.map (KO kv))).run P w= .ok none w:=by rw[hf,N]
  simp only[dV,fA,run_underlying hT,dL,hg,zY,hc,Z,hz,hset,h,EU,hm,a5B hm];simp[goInt]
 |some u=>
  obtain⟨j,N,h,Z⟩:=a5x l c 0 hm;rw[Nat.zero_add]at N;have h4:(fZ K (kv a) (l.map (KO kv))).run P w= .ok (some (j,u)) w:=by rw[hf,N]
  have hj:(l.map (KO kv)).toArray[j]?=some { key:=kv a,val:=u,born:=RI l a c }:=by simp[h,KO]
  have O:∀w,(fB (kv a) (kv a)).run P w= .ok (kv a) w:=fun w=>by simp[fB,G]
  simp only[dV,fA,run_underlying hT,dL,hg,zY,hc,h4,hj,Option.map_some,Option.getD_some,O,hset,Z,EU,hm,Option.isSome_some,if_true,goInt,Sem.run_pure];refine zD (fun A=>Result.ok (Value.tuple #[u,Value.int .i64 (RI l a c:Int)]) (bC w b (Obj.map A c))) ?_
  apply fC
  intro i;rw[dW];simp only[dX,fF,dM]
  by_cases hi:j=i
  ·subst hi;have Q:j<l.length:=by
    rcases Nat.lt_or_ge j l.length with h'|h'
    ·exact h'
    simp[List.getElem?_eq_none h']at h
   have h5:l[j]=(a,u,RI l a c):=by
    have:=List.getElem?_eq_getElem Q;rw[h]at this;exact(Option.some.inj this).symm
   simp[Q,h5]
  simp[hi]
theorem QJ{T K E b c d:Nat}{m x}{kv:α→Value}{l a}{A z:Value}{H'}(i:Nat)(ho:o.op= .mapEntry T m x)(hd:o.dst=some d)(hn:Nat.blt d cx.n=true)(hm:ev e m=some (.map (some b)))(hx:ev e x=some A)(G:A=kv a)(hT:cx.P.underlying T=some (.map K E))(hK:GU cx.P K kv)(hz:∀w,(zeroValue E).run cx.P w= .ok z w)
 (N:H[i]?=some (b,zY kv l c))(O:DZ H i (b,zY kv (BN l a ((BF l a).getD z) c) (EU l a c)) H')(kk:C ((d,.tuple #[(BF l a).getD z,i64 (RI l a c:Int)])::e) I H'):GR cx Q o e I H C:=by
 intro _ Z w0 w h hs;unfold Oper.wp;subst G;have hb:=hs.own _ (eF N);have hr:=b0C (a:=a) hT hK hz hb;have:(execOp w0.eval o).run cx.P w= .ok (.value (.tuple #[(BF l a).getD z,i64 (RI l a c:Int)])) (bC w b (zY kv (BN l a ((BF l a).getD z) c) (EU l a c))):=by
  simp[execOp,ho,h.eval hm,h.eval hx,hr]
 rw[this];simp only[Oper.upon,hd];exact Z _ _ _ kk _ _ (h.put hn) (hs.block N O)
theorem b9n{l:ML α}{a:α}{x v:Value}{c:Nat}(h:MS l c):∃j,(BN l a x c)[j]?=some (a,x,RI l a c)∧BN l a v c=(BN l a x c).set j (a,v,RI l a c):=by
 cases hm:BF l a with
 |none=>
  obtain⟨_,A⟩:=VZ l 0 hm;refine⟨l.length,?_,?_⟩
  ·rw[A,a5B hm];simp
  rw[A,A,a5B hm];simp
 |some u=>
  obtain⟨j,_,A,G⟩:=a5x l c 0 hm;refine⟨j,?_,?_⟩
  ·rw[G,dM,zG rfl,zG (aX.1 A).1]
  rw[G,G,List.set_set]
theorem a7V{P:Program}{T b c:Nat}{kv:α→Value}{l:ML α}{a:α}{x v:Value}{w:World}(h:MS l c)(Z:w.heap[b]?=some (zY kv (BN l a x c) (EU l a c))):
 (fH T (.map (some b)) (i64 (RI l a c:Int)) v).run P w= .ok () (bC w b (zY kv (BN l a v c) (EU l a c))):=by
 have hg:(getObj b).run P w= .ok (zY kv (BN l a x c) (EU l a c)) w:=by simp[getObj,fP,Z,zY]
 have hset:∀o',(setObj b o').run P w= .ok () (bC w b o'):=fun o'=>by simp[setObj,fP,Z,bC,zY]
 obtain⟨j,O,h2⟩:=b9n (x:=x) (v:=v) (a:=a) h;have N:=h.set a x;generalize BN l a x c=L at O h2 N hg;have Q:j<L.length:=(aX.1 O).1;have G:L[j]=(a,x,RI l a c):=(aX.1 O).2;have hf:(L.map (KO kv)).toArray.findIdx? (fun e=>(e.born:Int) == (RI l a c:Int))=some j:=by
  rw[List.findIdx?_toArray,List.findIdx?_eq_some_iff_getElem];refine⟨by simpa using Q,by simp[G],fun k hk=>?_⟩;simp only[List.getElem_map,Bool.not_eq_true,beq_eq_false_iff_ne,ne_eq];intro he;have a0:k<L.length:=oM;have h3:=N.2.1;rw[List.nodup_iff_pairwise_ne,List.pairwise_map,List.pairwise_iff_getElem]at h3;refine h3 k j a0 Q hk ?_;rw[G];exact Int.ofNat_inj.1 he
 have a1:∀w,(asInt (i64 (RI l a c:Int))).run P w= .ok (RI l a c:Int) w:=fun w=>by simp[asInt,asIntOf]
 simp only[fH,fA,hg,zY,dL,a1,hf,hset];refine zD (fun A=>Result.ok () (bC w b (Obj.map A (EU l a c)))) ?_;rw[h2]
 apply fC
 intro i;rw[dW];simp only[dX,fF,dM]
 by_cases hi:j=i
 ·subst hi;simp[Q,G]
 simp[hi]
theorem NU{T b c:Nat}{m x y:Operand}{kv:α→Value}{l:ML α}{a:α}{u v:Value}{n:Int}{H':HL}(i:Nat)(ho:o.op= .entryStore T m x y)(hd:o.dst=none)(hm:ev e m=some (.map (some b)))(hx:ev e x=some (i64 n))(A:n=(RI l a c:Int))(hy:ev e y=some v)(G:MS l c)
 (N:H[i]?=some (b,zY kv (BN l a u c) (EU l a c)))(O:DZ H i (b,zY kv (BN l a v c) (EU l a c)) H')(kk:C e I H'):GR cx Q o e I H C:=by
 intro _ Z w0 w h hs;unfold Oper.wp;subst A;have hb:=hs.own _ (eF N);have hr:=a7V (P:=cx.P) (T:=T) (v:=v) G hb;have:(execOp w0.eval o).run cx.P w= .ok .skip (bC w b (zY kv (BN l a v c) (EU l a c))):=by
  simp[execOp,ho,h.eval hm,h.eval hx,h.eval hy,hr]
 rw[this];simp only[Oper.upon,hd];exact Z _ _ _ kk _ _ h.VY (hs.block N O)
end
end Go.Sx
namespace Go.Proofs.YtdjkhllhakhjbaaGreatDoor
open _root_.Go.Proofs.Tryz
open Go Go.Sx
abbrev AQ (t:dJ):Value:= .agg #[i64 t.1,i64 t.2]
abbrev IE (p:Ix.Pl):Value:= .agg #[str p.1,str p.2]
theorem FU:GU aP 34 AQ:=GU.b6f XJ kR dE dE rfl rfl rfl rfl tU3 FY
theorem PX:GU aP 162 IE:=GU.c4V a0c kR dE dE rfl rfl rfl rfl BU BR
def setH (b:Nat) (l:ML Ix.Pl) (c:Nat) (N:RQ Ix.Pl dJ):HL:=(b,zY IE l c)::XI AQ N
theorem a0D b l c A B p h m k:([(b,zY IE l c),(h,zY AQ m k)]++XI AQ (A++B)).Perm (setH b l c (A++(p,h,m,k)::B)):=
 dH _ (b6G AQ A B p h m k)
theorem a2c{α:Type}[BEq α][LawfulBEq α](l:ML α)(a:α)(v:Value)(c:Nat):BN l a v c≠[]:=fun h=>by
 have:=(b9G (l:=l) (a:=a) (x:=a) (v:=v) (c:=c)).2 (.inr rfl);rw[h]at this;cases this
theorem RS{α:Type}[BEq α][LawfulBEq α]{l:ML α}{a:α}{v z:Value}{c:Nat}:(BF (BN l a v c) a).getD z=v:=by
 rw[LM];simp
theorem b7u{n}(h:n≠0):cv n=some (i64 (n:Int)):=zF h
theorem c1R b l c p t (hm:BF l p=none) I:yS aP 84 [.map (some b),IE p,AQ t] I [(b,zY IE l c)]
 (fun e _ H'=>∃A,e= .returned (.tuple #[])∧H'=[(b,zY IE (BN l p (.map (some A)) c) (EU l p c)),(A,zY AQ (BN [] t (i64 1) 0) (EU ([]:ML dJ) t 0))]):=by
 refine yS.ob func84 ?_;intro w0 _;refine Cj.sr (bV rfl (BG ?_));intro _ _;refine bV rfl (BG ?_);intro _ _;refine J.zX (bQ (aQ yP ?_));refine aQ (zW KL KF (yR.at 1 rfl)) ?_;refine aQ (IV (kv:=IE) (l:=l) (a:=p) LG PX OO (yR.at 2 rfl)) ?_;refine fM 8 rfl (show _= .map none from(by rw[hm];rfl)) ?_;refine aQ (a1s _ rfl rfl rfl JJ) ?_;refine J.c1 (fun _=>?_);refine bQ (aQ yP ?_);refine aQ (zW KL KF (yR.at 1 rfl)) ?_;refine bV rfl (BK rfl rfl rfl ?_);intro G _;refine bV rfl (FH (kv:=IE) (a:=p) 3 (.inr rfl) rfl rfl rfl rfl rfl LG PX rfl (aI (aI (aI bG))) ?_);refine J.ns (bD [1,2,3] [] 9 kR ?_);refine aU ⟨(aA 1 rfl (aA 2 rfl (aA 3 rfl aF))),aG,(aC _)⟩ (fun h=>?_);refine aB 0 rfl h yP ?_;refine aB 1 rfl h (zW KL KF (aK 1 rfl)) ?_;refine aB 2 rfl h (IV (kv:=IE) (l:=(BN l p (.map (some G)) c)) (a:=p) LG PX OO (aK 2 rfl)) ?_;refine bH 15 rfl (show _= .map (some G) from RS) ?_;refine aB 3 rfl h (zW DJ AL (aK 0 rfl)) ?_;refine JA.all [4,6] kR sI ?_;intro i N;simp only[bY,dN,or_false]at N;rcases N with rfl|rfl
 ·refine⟨_,rfl,rfl,?_⟩;refine zK (IV (kv:=AQ) (l:=[]) (a:=t) JJ FU MV (yR.at 0 rfl)) ?_;refine⟨⟨(aC _),(aA 1 rfl (aA 2 rfl (aA 3 rfl aF))),aG⟩,?_⟩;refine bH 17 rfl (show _=i64 0 from rfl) ?_;refine aU ⟨(aA 1 rfl (aA 2 rfl (aA 3 rfl aF))),aG,(aC _)⟩ (fun O=>?_);refine aB 5 rfl O (yY rfl rfl rfl (zV dE)) ?_;refine zO 6 rfl (QJ (kv:=AQ) (l:=[]) (c:=0) (a:=t) 0 rfl rfl rfl rfl rfl rfl JJ FU MV rfl bG ?_);refine⟨⟨(aC _),(aA 1 rfl (aA 2 rfl (aA 3 rfl aF))),aG⟩,?_⟩;refine aU ⟨(aA 1 rfl (aA 2 rfl (aA 3 rfl aF))),aG,(aC _)⟩ (fun Q=>?_);refine aB 7 rfl Q AZ ?_;refine zO 8 rfl (NU (kv:=AQ) (l:=[]) (a:=t) (c:=0) 0 rfl rfl rfl rfl rfl rfl MS.nil rfl bG ?_);refine⟨⟨(aC _),(aA 1 rfl (aA 2 rfl (aA 3 rfl aF))),aG⟩,?_⟩;refine AA ?_;refine aY (Keeps.k (aN (aN (Keeps.k bU)))) ?_;refine fQ gG ?_;refine fQ (Pull.s gG) ?_;refine aZ rfl rfl ?_;exact⟨_,rfl,rfl⟩
 refine⟨_,rfl,rfl,?_⟩;refine QJ (kv:=AQ) (l:=[]) (c:=0) (a:=t) 0 rfl rfl rfl rfl rfl rfl JJ FU MV rfl bG ?_;refine⟨⟨(aC _),(aA 1 rfl (aA 2 rfl (aA 3 rfl aF))),aG⟩,?_⟩;refine aU ⟨(aA 1 rfl (aA 2 rfl (aA 3 rfl aF))),aG,(aC _)⟩ (fun Z=>?_);refine aB 7 rfl Z AZ ?_;refine zO 4 rfl (zK (IV (kv:=AQ) (l:=(BN [] t ((BF [] t).getD (.int .i64 0)) 0)) (a:=t) JJ FU MV (yR.at 0 rfl)) ?_);refine⟨⟨(aC _),(aA 1 rfl (aA 2 rfl (aA 3 rfl aF))),aG⟩,?_⟩;refine bH 17 rfl (show _=i64 0 from RS) ?_;refine aU ⟨(aA 1 rfl (aA 2 rfl (aA 3 rfl aF))),aG,(aC _)⟩ (fun a0=>?_);refine aB 5 rfl a0 (yY rfl rfl rfl (zV dE)) ?_;refine zO 8 rfl (NU (kv:=AQ) (l:=[]) (a:=t) (c:=0) 0 rfl rfl rfl rfl rfl rfl MS.nil rfl bG ?_);refine⟨⟨(aC _),(aA 1 rfl (aA 2 rfl (aA 3 rfl aF))),aG⟩,?_⟩;refine AA ?_;refine aY (Keeps.k (aN (aN (Keeps.k bU)))) ?_;refine fQ gG ?_;refine fQ (Pull.s gG) ?_;refine aZ rfl rfl ?_;exact⟨_,rfl,rfl⟩
theorem c2C b l c p t A m (k n:Nat)(N:BF l p=some (.map (some A)))(G:MS m k)(hn:(BF m t).getD (i64 0)=i64 (n:Int))(a2:n≤1000000000000000) I:yS aP 84 [.map (some b),IE p,AQ t] I [(b,zY IE l c),(A,zY AQ m k)]
 (fun e _ H'=>e= .returned (.tuple #[])∧H'=[(b,zY IE l c),(A,zY AQ (BN m t (i64 ((n+1:Nat):Int)) k) (EU m t k))]):=by
 refine yS.ob func84 ?_;intro w0 _;refine Cj.sr (bV rfl (BG ?_));intro _ _;refine bV rfl (BG ?_);intro _ _;refine J.zX (bQ (aQ yP ?_));refine aQ (zW KL KF (yR.at 1 rfl)) ?_;refine aQ (IV (kv:=IE) (l:=l) (a:=p) LG PX OO (yR.at 2 rfl)) ?_;refine fM 8 rfl (show _= .map (some A) from(by rw[N];rfl)) ?_;refine aQ (a1s _ rfl rfl rfl JJ) ?_;refine J.c0 (fun _=>?_);refine dA (bT (bD [0,1,2] [] 9 kR ?_));refine aU ⟨(aA 0 rfl (aA 1 rfl (aA 2 rfl aF))),aG,(aC _)⟩ (fun h=>?_);refine aB 0 rfl h yP ?_;refine aB 1 rfl h (zW KL KF (aK 1 rfl)) ?_;refine aB 2 rfl h (IV (kv:=IE) (l:=l) (a:=p) LG PX OO (aK 2 rfl)) ?_;refine bH 15 rfl (show _= .map (some A) from(by rw[N];rfl)) ?_;refine aB 3 rfl h (zW DJ AL (aK 0 rfl)) ?_;refine JA.all [4,6] kR sI ?_;intro i O;simp only[bY,dN,or_false]at O;rcases O with rfl|rfl
 ·refine⟨_,rfl,rfl,?_⟩;refine zK (IV (kv:=AQ) (l:=m) (a:=t) JJ FU MV (yR.at 3 rfl)) ?_;refine⟨⟨(aC _),(aA 0 rfl (aA 1 rfl (aA 2 rfl aF))),aG⟩,?_⟩;refine bH 17 rfl (show _=i64 (n:Int) from hn) ?_;refine aU ⟨(aA 0 rfl (aA 1 rfl (aA 2 rfl aF))),aG,(aC _)⟩ (fun Q=>?_);refine aB 5 rfl Q (yY rfl rfl rfl (zV oM)) ?_;refine zO 6 rfl (QJ (kv:=AQ) (l:=m) (c:=k) (a:=t) 3 rfl rfl rfl rfl rfl rfl JJ FU MV rfl (aI (aI (aI bG))) ?_);refine⟨⟨(aC _),(aA 0 rfl (aA 1 rfl (aA 2 rfl aF))),aG⟩,?_⟩;refine aU ⟨(aA 0 rfl (aA 1 rfl (aA 2 rfl aF))),aG,(aC _)⟩ (fun Z=>?_);refine aB 7 rfl Z AZ ?_;refine zO 8 rfl (NU (kv:=AQ) (l:=m) (a:=t) (c:=k) 3 rfl rfl rfl rfl rfl rfl G rfl (aI (aI (aI bG))) ?_);refine⟨⟨(aC _),(aA 0 rfl (aA 1 rfl (aA 2 rfl aF))),aG⟩,?_⟩;refine AA ?_;refine aY (aN (aN (Keeps.k (Keeps.k bU)))) ?_;refine aZ rfl rfl ?_;exact rT
 refine⟨_,rfl,rfl,?_⟩;refine QJ (kv:=AQ) (l:=m) (c:=k) (a:=t) 3 rfl rfl rfl rfl rfl rfl JJ FU MV rfl (aI (aI (aI bG))) ?_;refine⟨⟨(aC _),(aA 0 rfl (aA 1 rfl (aA 2 rfl aF))),aG⟩,?_⟩;refine aU ⟨(aA 0 rfl (aA 1 rfl (aA 2 rfl aF))),aG,(aC _)⟩ (fun a0=>?_);refine aB 7 rfl a0 AZ ?_;refine zO 4 rfl (zK (IV (kv:=AQ) (l:=(BN m t ((BF m t).getD (.int .i64 0)) k)) (a:=t) JJ FU MV (yR.at 3 rfl)) ?_);refine⟨⟨(aC _),(aA 0 rfl (aA 1 rfl (aA 2 rfl aF))),aG⟩,?_⟩;refine bH 17 rfl (show _=i64 (n:Int) from(RS.trans hn)) ?_;refine aU ⟨(aA 0 rfl (aA 1 rfl (aA 2 rfl aF))),aG,(aC _)⟩ (fun a1=>?_);refine aB 5 rfl a1 (yY rfl rfl rfl (zV oM)) ?_;refine zO 8 rfl (NU (kv:=AQ) (l:=m) (a:=t) (c:=k) 3 rfl rfl rfl rfl rfl rfl G rfl (aI (aI (aI bG))) ?_);refine⟨⟨(aC _),(aA 0 rfl (aA 1 rfl (aA 2 rfl aF))),aG⟩,?_⟩;refine AA ?_;refine aY (aN (aN (Keeps.k (Keeps.k bU)))) ?_;refine aZ rfl rfl ?_;exact rT
theorem b8H b l c N f p t (h:DK l c N f)(hf:f p t≤1000000000000000) I:
 yS aP 84 [.map (some b),IE p,AQ t] I (setH b l c N) (fun e _ H'=>∃l' c' N',e= .returned (.tuple #[])∧DK l' c' N' (bump f p t (· +1))∧H'=setH b l' c' N'):=by
 rcases h.find p with⟨a1,O,hz⟩|⟨A,G,m,k,B,rfl,O,Z,a2,a0,hA,hB⟩
 ·have h1:=(c1R b l c p t O I).frame (XI AQ N);refine h1.leave fun e I' H' _ ⟨H1,hH,G,he,Q⟩=>⟨_,[],?_,BN l p (.map (some G)) c,EU l p c,N++[(p,G,BN [] t (i64 1) 0,EU ([]:ML dJ) t 0)],he,h.add a1 (MS.nil.set t _) (a2c _ _ _ _) (fun s=>?_),rfl⟩
  ·rw[bF,hH,Q];unfold setH;rw[a3R];exact dH _ dB
  rw[LM]
  by_cases hs:(s == t)=true
  ·rw[zG hs,zG hs];rfl
  rw[zF hs,zF hs];rfl
 have hn:=b6t a0 t;have h1:=(gI (a0D b l c A B p G m k) ((c2C b l c p t G m k (f p t) O Z hn hf I).frame (XI AQ (A++B))));refine h1.leave fun e I' H' _ ⟨H1,hH,he,Q⟩=>⟨_,[],?_,l,c,A++(p,G,BN m t (i64 ((f p t+1:Nat):Int)) k,EU m t k)::B,he,h.set (d:=(· +1)) (Z.set t _) (a2c _ _ _ _) (fun s=>?_),rfl⟩
 ·rw[bF,hH,Q];exact(a0D b l c A B p G _ _).symm
 exact b6N a0 t (f p t+1) (Nat.succ_ne_zero _) k s
theorem b8t b l c p t A m (k n:Nat)(Q:BF l p=some (.map (some A)))(ad:MS m k)(hn:(BF m t).getD (i64 0)=i64 (n:Int))(ak:1≤n)(al:n≤1000000000000000) I:yS aP 108 [.map (some b),IE p,AQ t] I [(b,zY IE l c),(A,zY AQ m k)]
 (fun e _ H'=>(n≠1∧e= .returned (.tuple #[])∧H'=[(b,zY IE l c),(A,zY AQ (BN m t (i64 ((n-1:Nat):Int)) k) (EU m t k))])∨(n=1∧(GV (BN m t (i64 ((n-1:Nat):Int)) k) t)≠[]∧e= .returned (.tuple #[])∧H'=[(b,zY IE l c),(A,zY AQ (GV (BN m t (i64 ((n-1:Nat):Int)) k) t) (EU m t k))])∨(n=1∧(GV (BN m t (i64 ((n-1:Nat):Int)) k) t)=[]∧e= .returned (.tuple #[])∧H'=[(b,zY IE (GV l p) c),(A,zY AQ (GV (BN m t (i64 ((n-1:Nat):Int)) k) t) (EU m t k))])):=by
 refine yS.ob func108 ?_;intro w0 _;refine Cj.sr (bV rfl (BG ?_));intro _ _;refine bV rfl (BG ?_);intro _ _;refine J.nss (bD [0,1,2] [] 9 kR ?_);refine aU ⟨(aA 0 rfl (aA 1 rfl (aA 2 rfl aF))),aG,(aC _)⟩ (fun a4=>?_);refine aB 0 rfl a4 yP ?_;refine aB 1 rfl a4 (zW KL KF (aK 1 rfl)) ?_;refine aB 2 rfl a4 (IV (kv:=IE) (l:=l) (a:=p) LG PX OO (aK 2 rfl)) ?_;refine bH 8 rfl (show _= .map (some A) from(by rw[Q];rfl)) ?_;refine aB 3 rfl a4 (zW DJ AL (aK 0 rfl)) ?_;refine JA.all [4,6] kR sI ?_;intro i hi;simp only[bY,dN,or_false]at hi;rcases hi with rfl|rfl
 ·refine⟨_,rfl,rfl,?_⟩;refine zK (IV (kv:=AQ) (l:=m) (a:=t) JJ FU MV (yR.at 3 rfl)) ?_;refine⟨⟨(aC _),(aA 0 rfl (aA 1 rfl (aA 2 rfl aF))),aG⟩,?_⟩;refine bH 10 rfl (show _=i64 (n:Int) from hn) ?_;refine aU ⟨(aA 0 rfl (aA 1 rfl (aA 2 rfl aF))),aG,(aC _)⟩ (fun ai=>?_);refine aB 5 rfl ai (EP rfl rfl rfl (zV oM)) ?_;refine bH 11 rfl (show _=i64 ((n-1:Nat):Int) from(zD i64 oM)) ?_;refine zO 6 rfl (QJ (kv:=AQ) (l:=m) (c:=k) (a:=t) 3 rfl rfl rfl rfl rfl rfl JJ FU MV rfl (aI (aI (aI bG))) ?_);refine⟨⟨(aC _),(aA 0 rfl (aA 1 rfl (aA 2 rfl aF))),aG⟩,?_⟩;refine aU ⟨(aA 0 rfl (aA 1 rfl (aA 2 rfl aF))),aG,(aC _)⟩ (fun aj=>?_);refine aB 7 rfl aj AZ ?_;refine zO 8 rfl (NU (kv:=AQ) (l:=m) (a:=t) (c:=k) 3 rfl rfl rfl rfl rfl rfl ad rfl (aI (aI (aI bG))) ?_);refine⟨⟨(aC _),(aA 0 rfl (aA 1 rfl (aA 2 rfl aF))),aG⟩,?_⟩;refine AA ?_;refine bT (fO (fO (bD [0,1,2,3] [] 6 kR ?_)));refine aU ⟨(aA 0 rfl (aA 1 rfl (aA 2 rfl (aA 3 rfl aF)))),aG,(aC _)⟩ (fun O=>?_);refine aB 0 rfl O yP ?_;refine aB 1 rfl O (zW KL KF (aK 1 rfl)) ?_;refine aB 2 rfl O (IV (kv:=IE) (l:=l) (a:=p) LG PX OO (aK 2 rfl)) ?_;refine bH 16 rfl (show _= .map (some A) from(by rw[Q];rfl)) ?_;refine aB 3 rfl O (zW DJ AL (aK 0 rfl)) ?_;refine aB 4 rfl O (IV (kv:=AQ) (l:=(BN m t (i64 ((n-1:Nat):Int)) k)) (a:=t) JJ FU MV (aK 3 rfl)) ?_;refine bH 18 rfl (show _=i64 ((n-1:Nat):Int) from RS) ?_;refine aB 5 rfl O DW ?_;refine AA ?_;refine bT (Cj.cond rfl (fun a6=>?_) (fun a6=>?_))
  ·have ae:=DF a6;refine bD [0,1,2] [] 5 kR ?_;refine aU ⟨(aA 0 rfl (aA 1 rfl (aA 2 rfl aF))),aG,(aC _)⟩ (fun a5=>?_);refine aB 0 rfl a5 yP ?_;refine aB 1 rfl a5 (zW KL KF (aK 1 rfl)) ?_;refine aB 2 rfl a5 (IV (kv:=IE) (l:=l) (a:=p) LG PX OO (aK 2 rfl)) ?_;refine bH 22 rfl (show _= .map (some A) from(by rw[Q];rfl)) ?_;refine aB 3 rfl a5 (zW DJ AL (aK 0 rfl)) ?_;refine zO 4 rfl (KI (kv:=AQ) (a:=t) 3 rfl rfl rfl rfl rfl JJ FU rfl (aI (aI (aI bG))) ?_);refine⟨⟨(aC _),(aA 0 rfl (aA 1 rfl (aA 2 rfl aF))),aG⟩,?_⟩;refine AA ?_;refine bT (Cj.sr (aQ yP ?_));refine aQ (zW KL KF (yR.at 1 rfl)) ?_;refine aQ (IV (kv:=IE) (l:=l) (a:=p) LG PX OO (yR.at 2 rfl)) ?_;refine fM 26 rfl (show _= .map (some A) from(by rw[Q];rfl)) ?_;refine aQ (PG (kv:=AQ) (l:=(GV (BN m t (i64 ((n-1:Nat):Int)) k) t)) rfl rfl JJ (yR.at 3 rfl)) ?_;refine aQ DW ?_;refine J.cd (fun a2=>?_) (fun a2=>?_)
   ·have af:=DF a2;have a7:(GV (BN m t (i64 ((n-1:Nat):Int)) k) t)=[]:=bI.1 (by have h:=DF a2;omega);refine bQ (aQ yP ?_);refine aQ (zW KL KF (yR.at 1 rfl)) ?_;refine bV rfl (KI (kv:=IE) (a:=p) 2 rfl rfl rfl rfl rfl LG PX rfl (aI (aI bG)) ?_);refine J.nil (aY (aN (aN (Keeps.k (Keeps.k bU)))) ?_);refine aZ rfl rfl ?_;exact .inr (.inr ⟨oM,a7,rfl,rfl⟩)
   have af:=DU a2;have a8:(GV (BN m t (i64 ((n-1:Nat):Int)) k) t)≠[]:=fun e=>by have h:=DU a2;rw[e]at h;exact h rfl
   refine dA (aY (aN (aN (Keeps.k (Keeps.k bU)))) ?_);refine aZ rfl rfl ?_;exact .inr (.inl ⟨oM,a8,rfl,rfl⟩)
  have ae:=DU a6;refine dA (bT (Cj.sr (aQ yP ?_)));refine aQ (zW KL KF (yR.at 1 rfl)) ?_;refine aQ (IV (kv:=IE) (l:=l) (a:=p) LG PX OO (yR.at 2 rfl)) ?_;refine fM 26 rfl (show _= .map (some A) from(by rw[Q];rfl)) ?_;refine aQ (PG (kv:=AQ) (l:=(BN m t (i64 ((n-1:Nat):Int)) k)) rfl rfl JJ (yR.at 3 rfl)) ?_;refine aQ DW ?_;refine J.cd (fun Z=>?_) (fun Z=>?_)
  ·have a9:=DF Z;exact absurd (show(BN m t (i64 ((n-1:Nat):Int)) k)=[] from bI.1 (by have h:=DF Z;omega)) (a2c _ _ _ _)
  have a9:=DU Z;refine dA (aY (aN (aN (Keeps.k (Keeps.k bU)))) ?_);refine aZ rfl rfl ?_;exact .inl ⟨oM,rfl,rfl⟩
 refine⟨_,rfl,rfl,?_⟩;refine QJ (kv:=AQ) (l:=m) (c:=k) (a:=t) 3 rfl rfl rfl rfl rfl rfl JJ FU MV rfl (aI (aI (aI bG))) ?_;refine⟨⟨(aC _),(aA 0 rfl (aA 1 rfl (aA 2 rfl aF))),aG⟩,?_⟩;refine aU ⟨(aA 0 rfl (aA 1 rfl (aA 2 rfl aF))),aG,(aC _)⟩ (fun ag=>?_);refine aB 7 rfl ag AZ ?_;refine zO 4 rfl (zK (IV (kv:=AQ) (l:=(BN m t ((BF m t).getD (.int .i64 0)) k)) (a:=t) JJ FU MV (yR.at 3 rfl)) ?_);refine⟨⟨(aC _),(aA 0 rfl (aA 1 rfl (aA 2 rfl aF))),aG⟩,?_⟩;refine bH 10 rfl (show _=i64 (n:Int) from(RS.trans hn)) ?_;refine aU ⟨(aA 0 rfl (aA 1 rfl (aA 2 rfl aF))),aG,(aC _)⟩ (fun ah=>?_);refine aB 5 rfl ah (EP rfl rfl rfl (zV oM)) ?_;refine bH 11 rfl (show _=i64 ((n-1:Nat):Int) from(zD i64 oM)) ?_;refine zO 8 rfl (NU (kv:=AQ) (l:=m) (a:=t) (c:=k) 3 rfl rfl rfl rfl rfl rfl ad rfl (aI (aI (aI bG))) ?_);refine⟨⟨(aC _),(aA 0 rfl (aA 1 rfl (aA 2 rfl aF))),aG⟩,?_⟩;refine AA ?_;refine bT (fO (fO (bD [0,1,2,3] [] 6 kR ?_)));refine aU ⟨(aA 0 rfl (aA 1 rfl (aA 2 rfl (aA 3 rfl aF)))),aG,(aC _)⟩ (fun G=>?_);refine aB 0 rfl G yP ?_;refine aB 1 rfl G (zW KL KF (aK 1 rfl)) ?_;refine aB 2 rfl G (IV (kv:=IE) (l:=l) (a:=p) LG PX OO (aK 2 rfl)) ?_;refine bH 16 rfl (show _= .map (some A) from(by rw[Q];rfl)) ?_;refine aB 3 rfl G (zW DJ AL (aK 0 rfl)) ?_;refine aB 4 rfl G (IV (kv:=AQ) (l:=(BN m t (i64 ((n-1:Nat):Int)) k)) (a:=t) JJ FU MV (aK 3 rfl)) ?_;refine bH 18 rfl (show _=i64 ((n-1:Nat):Int) from RS) ?_;refine aB 5 rfl G DW ?_;refine AA ?_;refine bT (Cj.cond rfl (fun a3=>?_) (fun a3=>?_))
 ·have aa:=DF a3;refine bD [0,1,2] [] 5 kR ?_;refine aU ⟨(aA 0 rfl (aA 1 rfl (aA 2 rfl aF))),aG,(aC _)⟩ (fun a0=>?_);refine aB 0 rfl a0 yP ?_;refine aB 1 rfl a0 (zW KL KF (aK 1 rfl)) ?_;refine aB 2 rfl a0 (IV (kv:=IE) (l:=l) (a:=p) LG PX OO (aK 2 rfl)) ?_;refine bH 22 rfl (show _= .map (some A) from(by rw[Q];rfl)) ?_;refine aB 3 rfl a0 (zW DJ AL (aK 0 rfl)) ?_;refine zO 4 rfl (KI (kv:=AQ) (a:=t) 3 rfl rfl rfl rfl rfl JJ FU rfl (aI (aI (aI bG))) ?_);refine⟨⟨(aC _),(aA 0 rfl (aA 1 rfl (aA 2 rfl aF))),aG⟩,?_⟩;refine AA ?_;refine bT (Cj.sr (aQ yP ?_));refine aQ (zW KL KF (yR.at 1 rfl)) ?_;refine aQ (IV (kv:=IE) (l:=l) (a:=p) LG PX OO (yR.at 2 rfl)) ?_;refine fM 26 rfl (show _= .map (some A) from(by rw[Q];rfl)) ?_;refine aQ (PG (kv:=AQ) (l:=(GV (BN m t (i64 ((n-1:Nat):Int)) k) t)) rfl rfl JJ (yR.at 3 rfl)) ?_;refine aQ DW ?_;refine J.cd (fun N=>?_) (fun N=>?_)
  ·have ab:=DF N;have a7:(GV (BN m t (i64 ((n-1:Nat):Int)) k) t)=[]:=bI.1 (by have h:=DF N;omega);refine bQ (aQ yP ?_);refine aQ (zW KL KF (yR.at 1 rfl)) ?_;refine bV rfl (KI (kv:=IE) (a:=p) 2 rfl rfl rfl rfl rfl LG PX rfl (aI (aI bG)) ?_);refine J.nil (aY (aN (aN (Keeps.k (Keeps.k bU)))) ?_);refine aZ rfl rfl ?_;exact .inr (.inr ⟨oM,a7,rfl,rfl⟩)
  have ab:=DU N;have a8:(GV (BN m t (i64 ((n-1:Nat):Int)) k) t)≠[]:=fun e=>by have h:=DU N;rw[e]at h;exact h rfl
  refine dA (aY (aN (aN (Keeps.k (Keeps.k bU)))) ?_);refine aZ rfl rfl ?_;exact .inr (.inl ⟨oM,a8,rfl,rfl⟩)
 have aa:=DU a3;refine dA (bT (Cj.sr (aQ yP ?_)));refine aQ (zW KL KF (yR.at 1 rfl)) ?_;refine aQ (IV (kv:=IE) (l:=l) (a:=p) LG PX OO (yR.at 2 rfl)) ?_;refine fM 26 rfl (show _= .map (some A) from(by rw[Q];rfl)) ?_;refine aQ (PG (kv:=AQ) (l:=(BN m t (i64 ((n-1:Nat):Int)) k)) rfl rfl JJ (yR.at 3 rfl)) ?_;refine aQ DW ?_;refine J.cd (fun a1=>?_) (fun a1=>?_)
 ·have ac:=DF a1;exact absurd (show(BN m t (i64 ((n-1:Nat):Int)) k)=[] from bI.1 (by have h:=DF a1;omega)) (a2c _ _ _ _)
 have ac:=DU a1;refine dA (aY (aN (aN (Keeps.k (Keeps.k bU)))) ?_);refine aZ rfl rfl ?_;exact .inl ⟨oM,rfl,rfl⟩
theorem c3s{n}(h:cv n=none):n=0:=by
 unfold cv at h
 split at h
 ·assumption
 cases h
theorem b2o{m k}(h:MS m k) t v (s:dJ):BF (GV (BN m t v k) t) s=if s == t then none else BF m s:=by
 rw[a0Z (h.set t v).1,LM]
 by_cases hs:(s == t)=true
 ·rw[zG hs,zG hs]
 rw[zF hs,zF hs,zF hs]
theorem a8B b l c N f p t (h:DK l c N f)(a0:1≤f p t)(hf:f p t≤1000000000000000) I:
 yS aP 108 [.map (some b),IE p,AQ t] I (setH b l c N) (fun e _ H'=>∃l' c' N',e= .returned (.tuple #[])∧DK l' c' N' (bump f p t (· -1))∧H'=setH b l' c' N'):=by
 rcases h.find p with⟨a4,a1,hz⟩|⟨A,Q,m,k,B,rfl,a1,G,a5,Z,hA,hB⟩
 ·rw[hz t]at a0;omega
 have hn:=b6t Z t;have h1:=(gI (a0D b l c A B p Q m k) ((b8t b l c p t Q m k (f p t) a1 G hn a0 hf I).frame (XI AQ (A++B))));refine h1.leave fun e _ H' _ ⟨H1,hH,hq⟩=>?_;rcases hq with⟨h9,he,O⟩|⟨h9,a2,he,O⟩|⟨h9,a3,he,O⟩
 ·refine⟨_,[],?_,l,c,A++(p,Q,BN m t (i64 ((f p t-1:Nat):Int)) k,EU m t k)::B,he,h.set (d:=(· -1)) (G.set t _) (a2c _ _ _ _) (fun s=>?_),rfl⟩
  ·rw[bF,hH,O];exact(a0D b l c A B p Q _ _).symm
  exact b6N Z t (f p t-1) oM k s
 ·refine⟨_,[],?_,l,c,A++(p,Q,GV (BN m t (i64 ((f p t-1:Nat):Int)) k) t,EU m t k)::B,he,h.set (d:=(· -1)) ((G.set t _).del t) a2 (fun s=>?_),rfl⟩
  ·rw[bF,hH,O];exact(a0D b l c A B p Q _ _).symm
  rw[b2o G];show _=if (s == t)=true then cv (f p t-1)else _;rw[h9];rfl
 refine⟨_,[(Q,zY AQ (GV (BN m t (i64 ((f p t-1:Nat):Int)) k) t) (EU m t k))],?_,GV l p,c,A++B,he,h.drop (d:=(· -1)) (fun s hs=>?_) (by show f p t-1=0;omega),rfl⟩
 ·rw[hH,O];unfold setH;exact dH _ dB
 have h2:=b2o G t (i64 ((f p t-1:Nat):Int)) s;rw[a3,zF (by simpa using hs),Z]at h2;exact c3s h2.symm
abbrev RZ (vb wb kb:Nat):List Value:=[.map (some vb),.map (some wb),.map (some kb)]
structure Ent where
  t:Ix.Rec
  k:UInt8
  l:UInt8
  v:Value
  fs:List Ke.KG
def a0S (e:Ent):List Value:=[i64 e.t.1,i64 e.t.2,u8 e.k,u8 e.l,e.v]
theorem b1X e:(a0S e).length=5:=rfl
theorem c3v xb eb Q vb wb kb ek el ev l c N f p t (h:DK l c N f)(hf:f p t≤1000000000000000) I (a0:I xb=some (yZ 82 [ptr Q 0]))(a1:I eb=some (yZ 51 [i64 t.1,i64 t.2,u8 ek,u8 el,ev])):
 yS aP 83 [IE p,ptr xb 0,ptr eb 0] I ([(Q,yZ 121 (RZ vb wb kb))]++setH wb l c N) (fun e _ H'=>∃l' c' N',e= .returned (.tuple #[])∧DK l' c' N' (bump f p t (· +1))∧H'=[(Q,yZ 121 (RZ vb wb kb))]++setH wb l' c' N'):=by
 refine yS.ob func83 ?_;intro w0 _;refine Cj.sr (bV rfl (BG ?_));intro _ _;refine J.ns (bD [0,1] [] 8 kR ?_);have G:=a0;have O:=a1;refine aU ⟨(aA 0 rfl (aA 1 rfl aF)),aG,(aC _)⟩ (fun A=>?_);refine aB 0 rfl A (yV KJ (bZ G)) ?_;refine aB 1 rfl A zQ ?_;refine aB 2 rfl A (qq2 (off':=1) CZ CB) ?_;refine aB 3 rfl A (yV isAgg119 (aK 1 rfl)) ?_;refine aB 4 rfl A (zW KL KF (aK 0 rfl)) ?_;refine aB 5 rfl A (qq2 (off':=0) WY AL) ?_;refine aB 6 rfl A (zW DJ AL (bZ O)) ?_;refine zO 7 rfl (FB (H1:=setH _ _ _ _) [_,_] rfl rfl rfl rfl rfl rfl (b8H wb l c N f p t h hf _) ?_ (fun _ _ _ _ ⟨_,_,_,h,_⟩=>by cases h) (fun _ _ ⟨_,_,_,h,_⟩=>by cases h));intro _ _ _ Z a2;obtain⟨l1,c1,N1,h,hN,rfl⟩:=a2;cases h;refine⟨⟨(fJ (aC _) Z),(aA 0 rfl (aA 1 rfl aF)),aG⟩,?_⟩;refine AA ?_;refine aY (aN (Keeps.k dY)) ?_;refine aZ rfl rfl ?_;exact⟨l1,c1,N1,rfl,hN,rfl⟩
theorem c2x xb eb Q vb wb kb ek el ev l c N f p t (h:DK l c N f)(hf:f p t≤1000000000000000) I (a0:I xb=some (yZ 82 [ptr Q 0]))(a1:I eb=some (yZ 51 [i64 t.1,i64 t.2,u8 ek,u8 el,ev])):
 yS aP 85 [IE p,ptr xb 0,ptr eb 0] I ([(Q,yZ 121 (RZ vb wb kb))]++setH kb l c N) (fun e _ H'=>∃l' c' N',e= .returned (.tuple #[])∧DK l' c' N' (bump f p t (· +1))∧H'=[(Q,yZ 121 (RZ vb wb kb))]++setH kb l' c' N'):=by
 refine yS.ob func85 ?_;intro w0 _;refine Cj.sr (bV rfl (BG ?_));intro _ _;refine J.ns (bD [0,1] [] 8 kR ?_);have G:=a0;have O:=a1;refine aU ⟨(aA 0 rfl (aA 1 rfl aF)),aG,(aC _)⟩ (fun A=>?_);refine aB 0 rfl A (yV KJ (bZ G)) ?_;refine aB 1 rfl A zQ ?_;refine aB 2 rfl A (qq2 (off':=2) CZ CB) ?_;refine aB 3 rfl A (yV isAgg119 (aK 1 rfl)) ?_;refine aB 4 rfl A (zW KL KF (aK 0 rfl)) ?_;refine aB 5 rfl A (qq2 (off':=0) WY AL) ?_;refine aB 6 rfl A (zW DJ AL (bZ O)) ?_;refine zO 7 rfl (FB (H1:=setH _ _ _ _) [_,_] rfl rfl rfl rfl rfl rfl (b8H kb l c N f p t h hf _) ?_ (fun _ _ _ _ ⟨_,_,_,h,_⟩=>by cases h) (fun _ _ ⟨_,_,_,h,_⟩=>by cases h));intro _ _ _ Z a2;obtain⟨l1,c1,N1,h,hN,rfl⟩:=a2;cases h;refine⟨⟨(fJ (aC _) Z),(aA 0 rfl (aA 1 rfl aF)),aG⟩,?_⟩;refine AA ?_;refine aY (aN (Keeps.k dY)) ?_;refine aZ rfl rfl ?_;exact⟨l1,c1,N1,rfl,hN,rfl⟩
theorem c0W xb eb Q vb wb kb l c N f p t (h:DK l c N f)(a0:1≤f p t)(hf:f p t≤1000000000000000) I (a1:I xb=some (yZ 82 [ptr Q 0]))(a2:I eb=some (yZ 34 [i64 t.1,i64 t.2])):
 yS aP 107 [IE p,ptr xb 0,ptr eb 0] I ([(Q,yZ 121 (RZ vb wb kb))]++setH wb l c N) (fun e _ H'=>∃l' c' N',e= .returned (.tuple #[])∧DK l' c' N' (bump f p t (· -1))∧H'=[(Q,yZ 121 (RZ vb wb kb))]++setH wb l' c' N'):=by
 refine yS.ob func107 ?_;intro w0 _;refine Cj.sr (bV rfl (BG ?_));intro _ _;refine J.ns (bD [0,1] [] 7 kR ?_);have G:=a1;have O:=a2;refine aU ⟨(aA 0 rfl (aA 1 rfl aF)),aG,(aC _)⟩ (fun A=>?_);refine aB 0 rfl A (yV KJ (bZ G)) ?_;refine aB 1 rfl A zQ ?_;refine aB 2 rfl A (qq2 (off':=1) CZ CB) ?_;refine aB 3 rfl A (yV isAgg119 (aK 1 rfl)) ?_;refine aB 4 rfl A (zW KL KF (aK 0 rfl)) ?_;refine aB 5 rfl A (zW DJ AL (bZ O)) ?_;refine zO 6 rfl (FB (H1:=setH _ _ _ _) [_,_] rfl rfl rfl rfl rfl rfl (a8B wb l c N f p t h a0 hf _) ?_ (fun _ _ _ _ ⟨_,_,_,h,_⟩=>by cases h) (fun _ _ ⟨_,_,_,h,_⟩=>by cases h));intro _ _ _ Z a3;obtain⟨l1,c1,N1,h,hN,rfl⟩:=a3;cases h;refine⟨⟨(fJ (aC _) Z),(aA 0 rfl (aA 1 rfl aF)),aG⟩,?_⟩;refine AA ?_;refine aY (aN (Keeps.k dY)) ?_;refine aZ rfl rfl ?_;exact⟨l1,c1,N1,rfl,hN,rfl⟩
theorem c0C xb eb Q vb wb kb l c N f p t (h:DK l c N f)(a0:1≤f p t)(hf:f p t≤1000000000000000) I (a1:I xb=some (yZ 82 [ptr Q 0]))(a2:I eb=some (yZ 34 [i64 t.1,i64 t.2])):
 yS aP 109 [IE p,ptr xb 0,ptr eb 0] I ([(Q,yZ 121 (RZ vb wb kb))]++setH kb l c N) (fun e _ H'=>∃l' c' N',e= .returned (.tuple #[])∧DK l' c' N' (bump f p t (· -1))∧H'=[(Q,yZ 121 (RZ vb wb kb))]++setH kb l' c' N'):=by
 refine yS.ob func109 ?_;intro w0 _;refine Cj.sr (bV rfl (BG ?_));intro _ _;refine J.ns (bD [0,1] [] 7 kR ?_);have G:=a1;have O:=a2;refine aU ⟨(aA 0 rfl (aA 1 rfl aF)),aG,(aC _)⟩ (fun A=>?_);refine aB 0 rfl A (yV KJ (bZ G)) ?_;refine aB 1 rfl A zQ ?_;refine aB 2 rfl A (qq2 (off':=2) CZ CB) ?_;refine aB 3 rfl A (yV isAgg119 (aK 1 rfl)) ?_;refine aB 4 rfl A (zW KL KF (aK 0 rfl)) ?_;refine aB 5 rfl A (zW DJ AL (bZ O)) ?_;refine zO 6 rfl (FB (H1:=setH _ _ _ _) [_,_] rfl rfl rfl rfl rfl rfl (a8B kb l c N f p t h a0 hf _) ?_ (fun _ _ _ _ ⟨_,_,_,h,_⟩=>by cases h) (fun _ _ ⟨_,_,_,h,_⟩=>by cases h));intro _ _ _ Z a3;obtain⟨l1,c1,N1,h,hN,rfl⟩:=a3;cases h;refine⟨⟨(fJ (aC _) Z),(aA 0 rfl (aA 1 rfl aF)),aG⟩,?_⟩;refine AA ?_;refine aY (aN (Keeps.k dY)) ?_;refine aZ rfl rfl ?_;exact⟨l1,c1,N1,rfl,hN,rfl⟩
structure EA where
  i:Nat
  J:Heap
  Y:HL
theorem b4A v wv gw gk G (YW:Nat→HL→Prop)(Z:HL→Prop)(af:v.ws.length≤1000000000000) I (a2:KA 9 I v.ws wv) H0 (aa:YW 0 H0)
 (hw:∀k w H J,v.ws[k]?=some w→Le I J→YW k H→yS aP gw (IE (v.name,w)::G) J H (fun e _ H'=>e= .returned (.tuple #[])∧YW (k+1) H'))
 (hk:∀H J,v.key≠[]→Le I J→YW v.ws.length H→yS aP gk (IE (v.name,v.key)::G) J H (fun e _ H'=>e= .returned (.tuple #[])∧Z H'))(hz:v.key=[]→∀H,YW v.ws.length H→Z H):
 yS aP 82 [.agg (vwC (v,wv)).toArray,.func (.func gw) #[] G.toArray,.func (.func gk) #[] G.toArray] I H0 (fun e _ H'=>e= .returned (.tuple #[])∧Z H'):=by
 obtain⟨wp,wc,rfl⟩:=NT a2;refine yS.ob func82 ?_;intro w0 _;refine Cj.sr (bV rfl (BG ?_));intro b1 _;refine J.zX (bQ (aQ (qq2 (off':=2) WM KR) ?_));refine aQ (yV PY (yR.at 0 rfl)) ?_;refine aQ (zZ AO) ?_;refine aQ yP ?_;refine J.ns (Cj.block (Cj.loop (ι:=EA) (fun y=>y.i≤v.ws.length∧Le I y.J∧YW y.i y.Y) (fun y=>v.ws.length-y.i) (fun y=>[(1,.func (.func gw) #[] G.toArray),(2,.func (.func gk) #[] G.toArray),(3,ptr b1 0),(9,.slice wp v.ws.length wc),(10,i64 (v.ws.length:Int)),(11,i64 (y.i:Int))]) (fun y=>y.J) (fun y=>(b1,yZ 159 [str v.name,str v.key,.slice wp v.ws.length wc])::y.Y) ⟨0,_,H0⟩ ⟨fG _,aC _,aa⟩ rT rfl rfl ?_));rintro⟨i,_,HY⟩ ⟨hi,A,hY⟩;dsimp only at hi A hY ⊢;have N:=a2.mono A;refine Cj.sr (aQ AV ?_);refine J.nss (Cj.cond rfl (fun a3=>?_) (fun a3=>?_))
 ·have a7:=BH a3;have a6:i<v.ws.length:=oM;obtain⟨x,a4⟩:∃x,v.ws[i]?=some x:=⟨_,DC a6⟩;obtain⟨wb,_,_,ab,a5⟩:=N.some (zT a6);cases ab;refine dA (bT (fO (Cj.block (Cj.sr (aQ (AU (off':=i) AO zS) ?_)))));refine aQ (EF BR (yR.PL a5) (JL a4)) ?_;refine aQ yQ ?_;refine J.GI (aQ yP ?_);refine aQ (qq2 (off':=0) WM zS) ?_;refine aQ (yV BR (yR.at 0 rfl)) ?_;refine aQ yP ?_;refine aQ (BD (pl:= #[(0,1),(1,1)]) rfl rfl a4u rfl a0c (fun w=>by simp[zS]) (fD rfl rfl rfl (gJ gK) (fD rfl rfl rfl (EW.s (gJ gK)) KP.none))) ?_;refine bV rfl (FB (H1:=HY) [_] rfl rfl rfl rfl rfl rfl (hw i x _ _ a4 A hY) ?_ (fun _ _ _ _ h=>by cases h.1) (fun _ _ h=>by cases h.1));intro _ _ H5 Q ac;have A:=A.mono Q;have N:=N.mono Q;have a5:=Q _ _ a5;obtain⟨h,ad⟩:=ac;cases h;refine J.nil (Ej.FM (bT (bQ (aQ (yY rfl rfl rfl (zV oM)) ?_))));refine aQ yP ?_;refine J.nil (Ej.round ⟨i+1,_,H5⟩ ⟨dO,A,ad⟩ dO rT rfl rfl)
 have a7:=BJ a3;have ae:i=v.ws.length:=oM;subst ae;refine Cj.exit (Ej.JE (Ej.IB (Ej.JM (bT (Cj.sr (aQ (qq2 (off':=1) WM zS) ?_))))));refine aQ (yV BR (yR.at 0 rfl)) ?_;refine aQ (KC rfl rfl rfl) ?_;refine J.cd (fun O=>?_) (fun O=>?_)
 ·have a8:=bne_iff_ne.1 O;have a0:v.key≠[]:=bne_iff_ne.1 O;refine bQ (aQ yP ?_);refine aQ (qq2 (off':=0) WM zS) ?_;refine aQ (yV BR (yR.at 0 rfl)) ?_;refine aQ (qq2 (off':=1) WM zS) ?_;refine aQ (yV BR (yR.at 0 rfl)) ?_;refine aQ (BD (pl:= #[(0,1),(1,1)]) rfl rfl a4u rfl a0c (fun w=>by simp[zS]) (fD rfl rfl rfl (gJ gK) (fD rfl rfl rfl (EW.s (gJ gK)) KP.none))) ?_;refine bV rfl (FB (H1:=HY) [_] rfl rfl rfl rfl rfl rfl (hk _ _ a0 A hY) ?_ (fun _ _ _ _ h=>by cases h.1) (fun _ _ h=>by cases h.1));intro _ _ _ a1 a9;have A:=A.mono a1;have N:=N.mono a1;obtain⟨h,hZ⟩:=a9;cases h;refine J.nil (aY (aN dY) ?_);refine aZ rfl rfl ?_;exact⟨rfl,hZ⟩
 have a8:=DI O;have a0:v.key=[]:=DI O;refine dA (aY (aN dY) ?_);refine aZ rfl rfl ?_;exact⟨rfl,hz a0 _ hY⟩
end Go.Proofs.YtdjkhllhakhjbaaGreatDoor
namespace Go.Proofs.YtdjkhllhakhjbaaGreatDoor
open Go Go.Sx
theorem a9W f t xs q:bump (aT f t fun p=>xs.count p) q t (· +1)=aT f t fun p=>(xs++[q]).count p:=by
 funext p u
 unfold bump aT
 by_cases hu:u=t
 ·subst hu
  by_cases hp:p=q
  ·subst hp;simp
  have h:(p == q)=false:=by simpa using hp
  have A:List.count p [q]=0:=List.count_eq_zero.2 (by simpa using hp);simp[h,List.count_append,A]
 have h:(u == t)=false:=by simpa using hu
 simp[h,hu]
theorem b1R f t ys q:bump (aT f t fun p=>(q::ys).count p) q t (· -1)=aT f t fun p=>ys.count p:=by
 funext p u
 unfold bump aT
 by_cases hu:u=t
 ·subst hu
  by_cases hp:p=q
  ·subst hp;simp
  have h:(p == q)=false:=by simpa using hp
  have A:(q == p)=false:=by simpa using Ne.symm hp
  simp[h,List.count_cons,A]
 have h:(u == t)=false:=by simpa using hu
 simp[h,hu]
theorem a2e f t n p:aT f t n p t=n p:=zG rfl
def MI (vs:List Ix.V):Prop:=vs.length≤10000000∧∀v∈vs,v.ws.length≤10000000
theorem b4a:∀(vs:List Ix.V),(∀v∈vs,v.ws.length≤10000000)→(aH vs).length≤vs.length*10000000
 |[],_=>by simp[aH]
 |v::r,h=>by
  have A:=b4a r fun x G=>h x (.tail _ G);have N:=h v (.head _);unfold aH at A ⊢;rw[bW,aW,bP,cO,Nat.add_mul];omega
theorem b4o:∀(vs:List Ix.V),(aJ vs).length≤vs.length
 |[]=>by simp[aJ]
 |v::r=>by
  have h:=b4o r;unfold aJ at h ⊢;rw[bW,aW,cO]
  by_cases hk:v.key=[]
  ·rw[zG hk,List.length_nil];omega
  rw[zF hk,List.length_singleton];omega
theorem MI.w{vs}(h:MI vs):(aH vs).length≤100000000000000:=KT (b4a vs h.2) (eG _ h.1)
theorem MI.k{vs}(h:MI vs):(aJ vs).length≤10000000:=KT (b4o vs) h.1
theorem b6m{fs}(h:EOK fs):MI (Ix.vals fs):=by
 have G:=a8l fs h fs.length;rw[dP]at G;refine⟨KT G (KT (eG _ h.1) dE),fun v A=>?_⟩;unfold Ix.vals at A;obtain⟨f,hf,A⟩:=List.mem_flatMap.1 A;obtain⟨_,_,_⟩:=h.2 f hf;have N:v.ws.length≤v.text.length+1:=(Ke.SQ v.text).1;unfold Ix.a9U at A;rcases aS.1 A with g|g
 ·obtain⟨s,hs,rfl⟩:=dD.1 g;have:=a2m hs;dsimp only at N;omega
 split at g
 ·rw[eX]at g;subst g;have:=a1d f [];rw[a0V]at this;dsimp only at N;omega
 cases g
structure Ist where
  vb:Nat
  wb:Nat
  kb:Nat
  lv:ML Ix.Rec
  cv:Nat
  lw:ML Ix.Pl
  cw:Nat
  Nw:RQ Ix.Pl Ix.Rec
  lk:ML Ix.Pl
  ck:Nat
  Nk:RQ Ix.Pl Ix.Rec
def a2I (ib:Nat) (s:Ist):HL:=(s.vb,zY AQ s.lv s.cv)::(ib,yZ 121 (RZ s.vb s.wb s.kb))::(setH s.wb s.lw s.cw s.Nw++setH s.kb s.lk s.ck s.Nk)
def WJ (I:Heap) (lv:ML dJ) (L:Ix.Ix):Prop:=∀t,(dI L t=none→BF lv t=none)∧∀vs,dI L t=some vs→∃w,BF lv t=some w∧UN I vs w
theorem WJ.mono{I A lv L}(h:WJ I lv L)(G:Le I A):WJ A lv L:=fun t=>⟨(h t).1,fun vs N=>let ⟨w,O,Q⟩:=(h t).2 vs N;⟨w,O,Q.mono G⟩⟩
theorem UN.nil I:UN I [] (.slice none 0 0):=⟨[],RH.nil,rfl,fun _ h=>by cases h⟩
theorem WJ.at{I lv L}(h:WJ I lv L) t:∃w,(BF lv t).getD (.slice none 0 0)=w∧UN I ((dI L t).getD []) w:=by
 cases hg:dI L t with
 |none=>rw[(h t).1 hg];exact⟨_,rfl,UN.nil I⟩
 |some vs=>
  obtain⟨w,A,G⟩:=(h t).2 vs hg;rw[A];exact⟨w,rfl,G⟩
structure JH (I:Heap) (s:Ist) (L:Ix.Ix):Prop where
  KQ:Ix.LU L
  big:L.length≤100000
  vok:∀e∈L,MI e.2
  vms:MS s.lv s.cv
  vals:WJ I s.lv L
  nw:DK s.lw s.cw s.Nw (Ix.cnt Ix.plW L)
  nk:DK s.lk s.ck s.Nk (Ix.cnt Ix.plK L)
theorem JH.mono{I A s L}(h:JH I s L)(G:Le I A):JH A s L:=⟨h.KQ,h.big,h.vok,h.vms,h.vals.mono G,h.nw,h.nk⟩
theorem b4h pl (h:pl []=[]) L t:aV pl L=aT (aV pl L) t fun p=>(pl ((dI L t).getD [])).count p:=by
 cases hg:dI L t with
 |none=>
  rw[Option.getD_none,h];exact Ix.b9g hg
 |some vs=>exact Ix.c0d hg
theorem b0J{L}(hs:Ix.LU L)(h:∀e∈L,MI e.2) t:MI ((dI L t).getD []):=by
 cases hg:dI L t with
 |none=>exact⟨fG _,fun _ h=>by cases h⟩
 |some vs=>exact h _ ((Ix.KH hs).1 hg)
def YS (ib vb wb kb:Nat) (fw fk:Ix.Pl→dJ→Nat) (Y:HL):Prop:=∃lw cw Nw lk ck Nk,DK lw cw Nw fw∧DK lk ck Nk fk∧Y=(ib,yZ 121 (RZ vb wb kb))::(setH wb lw cw Nw++setH kb lk ck Nk)
theorem YS.word{A vb wb kb Z fk Q g args J H}(hY:YS A vb wb kb Z fk H)
 (h:∀l c N,DK l c N Z→yS aP g args J ([(A,yZ 121 (RZ vb wb kb))]++setH wb l c N) (fun e _ H'=>∃l' G O,e= .returned (.tuple #[])∧DK l' G O Q∧H'=[(A,yZ 121 (RZ vb wb kb))]++setH wb l' G O)):
 yS aP g args J H (fun e _ H'=>e= .returned (.tuple #[])∧YS A vb wb kb Q fk H'):=by
 obtain⟨lw,cw,Nw,lk,ck,Nk,h1,h2,rfl⟩:=hY;refine((h lw cw Nw h1).frame (setH kb lk ck Nk)).mono fun e _ H' _ ⟨H1,hH,l',G,O,he,hN,a0⟩=>⟨he,l',G,O,lk,ck,Nk,hN,h2,?_⟩;rw[hH,a0];rfl
theorem YS.key{A vb wb kb Z fk Q g args J H}(hY:YS A vb wb kb Z fk H)
 (h:∀l c N,DK l c N fk→yS aP g args J ([(A,yZ 121 (RZ vb wb kb))]++setH kb l c N) (fun e _ H'=>∃l' G O,e= .returned (.tuple #[])∧DK l' G O Q∧H'=[(A,yZ 121 (RZ vb wb kb))]++setH kb l' G O)):
 yS aP g args J H (fun e _ H'=>e= .returned (.tuple #[])∧YS A vb wb kb Z Q H'):=by
 obtain⟨lw,cw,Nw,lk,ck,Nk,h1,h2,rfl⟩:=hY;have hp:∀X,(((A,yZ 121 (RZ vb wb kb))::(X++setH wb lw cw Nw):HL)).Perm ((A,yZ 121 (RZ vb wb kb))::(setH wb lw cw Nw++X)):=fun X=>dH _ dB;refine(gI (hp (setH kb lk ck Nk)) ((h lk ck Nk h2).frame (setH wb lw cw Nw))).leave fun e _ H' _ ⟨H1,hH,l',G,O,he,hN,a0⟩=>⟨_,[],?_,he,lw,cw,Nw,l',G,O,h1,hN,rfl⟩;rw[bF,hH,a0];exact(hp _).symm
theorem a3X{α:Type}{l:List α}{k x}(h:l[k]?=some x):l.drop k=x::l.drop (k+1):=by
 obtain⟨_,hg⟩:=aX.1 h;rw[←hg,List.getElem_cons_drop]
theorem b0R v r:aH (v::r)=v.ws.map (fun w=>(v.name,w))++aH r:=by unfold aH;rw[bW]
theorem a5D v r:aJ (v::r)=(if v.key=[]then[]else[(v.name,v.key)])++aJ r:=by unfold aJ;rw[bW]
theorem a8g xs v:aH (xs++[v])=aH xs++v.ws.map fun w=>(v.name,w):=by unfold aH;rw[eU];simp
theorem b4v xs v:aJ (xs++[v])=aJ xs++if v.key=[]then[]else[(v.name,v.key)]:=by unfold aJ;rw[eU];simp
theorem b0P{vs}(h:MI vs) i:(aH (vs.drop i)).length≤100000000000000:=
 MI.w ⟨by rw[dQ];have:=h.1;omega,fun v A=>h.2 v (eH A)⟩
theorem b0F{vs}(h:MI vs) i:(aJ (vs.drop i)).length≤10000000:=
 MI.k ⟨by rw[dQ];have:=h.1;omega,fun v A=>h.2 v (eH A)⟩
theorem b1f{vs}(h:MI vs) i:(aH (vs.take i)).length≤100000000000000:=
 MI.w ⟨by rw[dR];have:=h.1;omega,fun v A=>h.2 v (eP A)⟩
theorem b0Z{vs}(h:MI vs) i:(aJ (vs.take i)).length≤10000000:=
 MI.k ⟨by rw[dR];have:=h.1;omega,fun v A=>h.2 v (eP A)⟩
def YD (ib vb wb kb:Nat) (L:Ix.Ix) (t:dJ) (vs:List Ix.V) (i:Nat):HL→Prop:=YS ib vb wb kb (aT (aV aH L) t fun p=>(aH (vs.drop i)).count p) (aT (aV aJ L) t fun p=>(aJ (vs.drop i)).count p)
theorem b7f O Q A vb wb kb L t vs (hv:MI vs) i v wv (Z:vs[i]?=some v) I (a5:KA 9 I v.ws wv)(a0:I O=some (yZ 82 [ptr A 0]))(a1:I Q=some (yZ 34 [i64 t.1,i64 t.2])) Y (hY:YD A vb wb kb L t vs i Y):
 yS aP 82 [.agg (vwC (v,wv)).toArray,.func (.func 107) #[] [ptr O 0,ptr Q 0].toArray,.func (.func 109) #[] [ptr O 0,ptr Q 0].toArray] I Y (fun e _ H'=>e= .returned (.tuple #[])∧YD A vb wb kb L t vs (i+1) H'):=by
 have hd:=a3X Z;have a7:=hv.2 v (FQ Z);have a8:=b0P hv i;have a2:=b0F hv i;refine b4A v wv _ _ [ptr O 0,ptr Q 0] (fun k=>YS A vb wb kb (aT (aV aH L) t fun p=>((v.ws.drop k).map (fun w=>(v.name,w))++aH (vs.drop (i+1))).count p) (aT (aV aJ L) t fun p=>(aJ (vs.drop i)).count p)) (YD A vb wb kb L t vs (i+1)) oM I a5 Y ?_ ?_ ?_ ?_
 ·unfold YD at hY;rw[hd,b0R]at hY;rw[hd];exact hY
 ·intro k w H J hk G h;refine h.word fun l c N hN=>?_;have a3:(v.ws.drop k).map (fun w=>(v.name,w))++aH (vs.drop (i+1))=(v.name,w)::((v.ws.drop (k+1)).map (fun w=>(v.name,w))++aH (vs.drop (i+1))):=by rw[a3X hk];rfl
  rw[a3]at hN;have hb:=b1R (aV aH L) t ((v.ws.drop (k+1)).map (fun w=>(v.name,w))++aH (vs.drop (i+1))) (v.name,w);rw[←hb];refine c0W O Q A vb wb kb l c N _ (v.name,w) t hN ?_ ?_ J (G _ _ a0) (G _ _ a1)
  ·rw[a2e];exact dZ.2 (.head _)
  rw[a2e];refine KT bK ?_;have h9:((v.name,w)::((v.ws.drop (k+1)).map (fun w=>(v.name,w))++aH (vs.drop (i+1)))).length≤(aH (vs.drop i)).length:=by
   rw[hd,b0R,←a3,aW,aW,bP,bP,dQ];omega
  omega
 ·intro H J a4 G h;have a6:YS A vb wb kb (aT (aV aH L) t fun p=>(aH (vs.drop (i+1))).count p) (aT (aV aJ L) t fun p=>((v.name,v.key)::aJ (vs.drop (i+1))).count p) H:=by
   rw[fK,fE,dU,hd,a5D,zF a4]at h;exact h
  unfold YD;refine a6.key fun l c N hN=>?_;rw[←b1R (aV aJ L) t (aJ (vs.drop (i+1))) (v.name,v.key)];refine c0C O Q A vb wb kb l c N _ (v.name,v.key) t hN ?_ ?_ J (G _ _ a0) (G _ _ a1)
  ·rw[a2e];exact dZ.2 (.head _)
  rw[a2e];refine KT bK ?_;rw[hd,a5D,zF a4]at a2;have:((v.name,v.key)::aJ (vs.drop (i+1))).length≤10000000:=a2;omega
 intro he H h;rw[fK,fE,dU,hd,a5D,zG he,dU]at h;exact h
def YP (ib vb wb kb:Nat) (L:Ix.Ix) (t:dJ) (vs:List Ix.V) (i:Nat):HL→Prop:=YS ib vb wb kb (aT (aV aH L) t fun p=>(aH (vs.take i)).count p) (aT (aV aJ L) t fun p=>(aJ (vs.take i)).count p)
theorem take_one{α:Type}{l:List α}{k x}(h:l[k]?=some x):l.take (k+1)=l.take k++[x]:=by
 obtain⟨A,hg⟩:=aX.1 h;rw[List.take_succ_eq_append_getElem A,hg]
theorem b1p O Q A vb wb kb ek el ev L t vs (hv:MI vs) i v wv (Z:vs[i]?=some v) I (a2:KA 9 I v.ws wv)(a0:I O=some (yZ 82 [ptr A 0]))(a1:I Q=some (yZ 51 [i64 t.1,i64 t.2,u8 ek,u8 el,ev])) Y (hY:YP A vb wb kb L t vs i Y):
 yS aP 82 [.agg (vwC (v,wv)).toArray,.func (.func 83) #[] [ptr O 0,ptr Q 0].toArray,.func (.func 85) #[] [ptr O 0,ptr Q 0].toArray] I Y (fun e _ H'=>e= .returned (.tuple #[])∧YP A vb wb kb L t vs (i+1) H'):=by
 have hd:=take_one Z;have a7:=hv.2 v (FQ Z);have a8:=b1f hv (i+1);have a3:=b0Z hv (i+1);refine b4A v wv _ _ [ptr O 0,ptr Q 0] (fun k=>YS A vb wb kb (aT (aV aH L) t fun p=>(aH (vs.take i)++(v.ws.take k).map (fun w=>(v.name,w))).count p) (aT (aV aJ L) t fun p=>(aJ (vs.take i)).count p)) (YP A vb wb kb L t vs (i+1)) oM I a2 Y ?_ ?_ ?_ ?_
 ·unfold YP at hY;rw[List.take_zero,fE,bF];exact hY
 ·intro k w H J hk G h;refine h.word fun l c N hN=>?_;have a4:aH (vs.take i)++(v.ws.take (k+1)).map (fun w=>(v.name,w))=(aH (vs.take i)++(v.ws.take k).map (fun w=>(v.name,w)))++[(v.name,w)]:=by rw[take_one hk,aO,List.append_assoc];rfl
  rw[a4,←a9W (aV aH L) t (aH (vs.take i)++(v.ws.take k).map (fun w=>(v.name,w))) (v.name,w)];refine c3v O Q A vb wb kb ek el ev l c N _ (v.name,w) t hN ?_ J (G _ _ a0) (G _ _ a1);rw[a2e];refine KT bK ?_;have h9:(aH (vs.take i)++(v.ws.take k).map (fun w=>(v.name,w))).length≤(aH (vs.take (i+1))).length:=by
   rw[hd,a8g,aW,aW,bP,bP,dR];omega
  omega
 ·intro H J a5 G h;have a6:YS A vb wb kb (aT (aV aH L) t fun p=>(aH (vs.take (i+1))).count p) (aT (aV aJ L) t fun p=>(aJ (vs.take i)).count p) H:=by
   rw[dP,←a8g,←hd]at h;exact h
  unfold YP;refine a6.key fun l c N hN=>?_;have e1:aJ (vs.take (i+1))=aJ (vs.take i)++[(v.name,v.key)]:=by rw[hd,b4v,zF a5]
  rw[e1,←a9W (aV aJ L) t (aJ (vs.take i)) (v.name,v.key)];refine c2x O Q A vb wb kb ek el ev l c N _ (v.name,v.key) t hN ?_ J (G _ _ a0) (G _ _ a1);rw[a2e];refine KT bK ?_;rw[e1,aW]at a3;omega
 intro he H h;unfold YP;rw[dP,←a8g,←hd]at h;have e1:aJ (vs.take (i+1))=aJ (vs.take i):=by rw[hd,b4v,zG he,bF]
 rw[e1];exact h
structure DA where
  i:Nat
  J:Heap
  Y:HL
theorem a5Q t v:∀L:Ix.Ix,(fU t v L).length≤L.length+1
 |[]=>by simp[fU]
 |(u,x)::r=>by
  unfold fU
  split
  ·have:=a5Q t v r;rw[cO,cO];omega
  split
  ·simp
  simp
theorem JH.drop{I I' vb wb kb lv cv lw cw Nw lk ck Nk L}(h:JH I ⟨vb,wb,kb,lv,cv,lw,cw,Nw,lk,ck,Nk⟩ L)(a2:Le I I') t {N O Q Z a0 a1}
 (hw:DK N O Q (aT (aV aH L) t fun p=>(aH []).count p))(hk:DK Z a0 a1 (aT (aV aJ L) t fun p=>(aJ []).count p)):JH I' ⟨vb,wb,kb,GV lv t,cv,N,O,Q,Z,a0,a1⟩ (Ix.a1l t L):=by
 refine⟨Ix.a1w t h.KQ,KT (List.length_filter_le _ _) h.big,fun e he=>h.vok e ((Ix.ZA t L e).1 he).1,h.vms.del t,fun u=>⟨fun A=>?_,fun vs A=>?_⟩,?_,?_⟩
 ·show BF (GV lv t) u=none;rw[a0Z h.vms.1]
  split
  ·rfl
  rename_i G
  rw[Ix.a2l h.KQ,zF (by simpa using G)]at A;exact(h.vals u).1 A
 ·rw[Ix.a2l h.KQ]at A
  split at A
  ·cases A
  rename_i G
  obtain⟨w,h1,h2⟩:=(h.vals u).2 vs A;refine⟨w,?_,h2.mono a2⟩;show BF (GV lv t) u=some w;rw[a0Z h.vms.1,zF (by simpa using G)];exact h1
 ·rw[Ix.a3T h.KQ];exact hw
 rw[Ix.a3T h.KQ];exact hk
theorem JH.put{I vb wb kb lv cv lw cw Nw lk ck Nk L}(h:JH I ⟨vb,wb,kb,lv,cv,lw,cw,Nw,lk,ck,Nk⟩ L){t}(hL:L.length<100000){vs}(hv:MI vs){w}(a2:UN I vs w){N O Q Z a0 a1}
 (hw:DK N O Q (aT (aV aH L) t fun p=>(aH vs).count p))(hk:DK Z a0 a1 (aT (aV aJ L) t fun p=>(aJ vs).count p)):JH I ⟨vb,wb,kb,BN lv t w cv,EU lv t cv,N,O,Q,Z,a0,a1⟩ (fU t vs L):=by
 refine⟨Ix.XW t vs h.KQ,?_,fun e he=>?_,h.vms.set t w,fun u=>⟨fun A=>?_,fun us A=>?_⟩,?_,?_⟩
 ·have:=a5Q t vs L;omega
 ·rcases(Ix.SK t vs h.KQ e).1 he with g|g
  ·rw[g];exact hv
  exact h.vok e g.1
 ·show BF (BN lv t w cv) u=none;rw[Ix.a3O h.KQ]at A;rw[LM]
  split at A
  ·cases A
  rename_i G
  rw[zF (by simpa using G)];exact(h.vals u).1 A
 ·show ∃w',BF (BN lv t w cv) u=some w'∧_;rw[Ix.a3O h.KQ]at A;rw[LM]
  split at A
  ·rename_i he
   cases A;exact⟨w,by rw[zG (by simpa using he)],a2⟩
  rename_i G
  rw[zF (by simpa using G)];exact(h.vals u).2 us A
 ·rw[Ix.b1i h.KQ];exact hw
 rw[Ix.b1i h.KQ];exact hk
theorem c3o I vb wb kb:JH I ⟨vb,wb,kb,[],0,[],0,[],[],0,[]⟩ []:=
 ⟨List.Pairwise.nil,fG _,fun _ h=>(by cases h),MS.nil,fun _=>⟨fun _=>rfl,fun _ h=>by cases h⟩,DK.nil,DK.nil⟩
