/-
  Own texts on the laws of the seat, joined: the logic, and contracts of functions. Conditions: none.
-/
import Derived.Test.YtojdemmgkdokmaaGreatDoorNmH
import Derived.Test.YtojdemmgkdokmaaGreatDoorPH8
set_option linter.all false
set_option maxRecDepth 100000
set_option maxHeartbeats 40000000
open Go.Sx.HSub renaming c -> aA,n -> aF
open Go.Sx.JA renaming tk -> aB,fix -> aU,eqv -> bH
open Go.Sx.Le renaming refl -> aC,trans -> fJ
open Go.Sx.CSub renaming n -> aG
open Ix renaming plW -> aH,plK -> aJ,way -> aT,cnt -> aV,OT -> dI,Rec -> dJ,RG -> fU
open Go.Sx.AV renaming s -> aI,z -> bG
open Go.Sx.yR renaming QE -> aK,TN -> bZ
open Go.Sx.Keeps renaming d -> aN,n -> bU,r -> dY
open List renaming map_append -> aO,mem_append -> aS,length_append -> aW,getElem?_eq_some_iff -> aX,append_nil -> bF,length_eq_zero_iff -> bI,count_le_length -> bK,map_cons -> bM,length_map -> bP,flatMap_cons -> bW,mem_cons -> bY,length_cons -> cO,mem_append_right -> cZ,perm_append_comm -> dB,mem_map -> dD,mem_append_left -> dF,mem_map_of_mem -> dG,nodup_append -> dK,getElem?_set -> dM,not_mem_nil -> dN,take_length -> dP,length_drop -> dQ,length_take -> dR,nodup_cons -> dS,nil_append -> dU,getElem?_toArray -> dX,one_le_count_iff -> dZ,mem_of_getElem? -> eF,mem_of_mem_drop -> eH,mem_of_mem_take -> eP,flatMap_append -> eU,mem_singleton -> eX,filter_append -> eY,map_nil -> fE,getElem?_map -> fF,drop_length -> fK,map_map -> gB
open Go.Proofs.Tryz renaming prog -> aP
open Go.Sx.J renaming z -> aQ,op -> bV,eqv -> fM
open Go.Sx.Ej renaming keep -> aY,TK -> aZ,seq -> bT,pull -> fQ
open Go.Sx.World renaming block -> bC
open Go.Sx.Cj renaming FT -> bD,region -> bQ,skip -> dA,seq -> fO
open Bool renaming false_eq_true -> bJ,true_and -> fV
open List.Perm renaming cons -> dH
open Go.Result renaming andThen_ok -> dL
open Go.Instr renaming mapEntry -> dV,keyThatStays -> fB,entryStore -> fH,findKey -> fZ
open Array renaming getElem?_modify -> dW,ext_getElem? -> fC
open Nat renaming mul_le_mul_right -> eG,zero_le -> fG
open Go.Sem renaming run_bind -> fA,run -> fP
open Go.Sx.GN renaming part -> fD
open Go.Sx.Pull renaming z -> gG
open Go.Sx.yT renaming perm -> gI
open Go.Sx.zM renaming c -> gJ,z -> gK
namespace Go.Sx
open Go
section
variable {α β:Type} [BEq α] [LawfulBEq α] [BEq β] [LawfulBEq β]
abbrev UO (α β:Type):=List (α×Nat×ML β×Nat)
abbrev nvp (e:α×Nat×ML β×Nat):α×Value:=(e.1,.map (some e.2.1))
def WS (kv:β→Value) (N:UO α β):HL:=N.map fun e=>(e.2.1,BD kv e.2.2.1 e.2.2.2)
omit [BEq α] [LawfulBEq α] [BEq β] [LawfulBEq β] in
theorem a5a kv (A B:UO α β):WS kv (A++B)=WS kv A++WS kv B:=by unfold WS;rw[aO]
omit [BEq α] [LawfulBEq α] [BEq β] [LawfulBEq β] in
theorem c0i kv (A B:UO α β)(a:α)(b:Nat) m c:((b,BD kv m c)::WS kv (A++B)).Perm (WS kv (A++(a,b,m,c)::B)):=by
 rw[a5a,a5a];exact(List.perm_middle).symm
def cv (n:Nat):Option Value:=if n=0 then none else some (i64 (n:Int))
def bump (f:α→β→Nat) (a:α) (b:β) (d:Nat→Nat) (x:α) (y:β):Nat:=if x == a && y == b then d (f x y)else f x y
structure DZ (l:ML α) (c:Nat) (N:UO α β) (f:α→β→Nat):Prop where
  ms:MS l c
  vals:l.map kvp=N.map nvp
  inn:∀e∈N,MS e.2.2.1 e.2.2.2∧e.2.2.1≠[]∧∀t,BK e.2.2.1 t=cv (f e.1 t)
  out:∀a,a ∉ N.map (·.1)→∀t,f a t=0
omit [BEq α] [LawfulBEq α] [LawfulBEq β] in
theorem DZ.nil:DZ ([]:ML α) 0 ([]:UO α β) (fun _ _=>0):=⟨MS.nil,rfl,fun _ h=>(by cases h),fun _ _ _=>rfl⟩
omit [BEq α] [LawfulBEq α] [BEq β] [LawfulBEq β] in
theorem a6o(N:UO α β):(N.map nvp).map (·.1)=N.map (·.1):=by rw[gB];rfl
omit [BEq α] [LawfulBEq α] [LawfulBEq β] in
theorem DZ.keys{l:ML α}{c:Nat}{N:UO α β}{f:α→β→Nat}(h:DZ l c N f):l.map (·.1)=N.map (·.1):=by
 rw[←a6o N,←h.vals,gB];rfl
omit [BEq α] [LawfulBEq α] [LawfulBEq β] in
theorem DZ.nodup{l:ML α}{c:Nat}{N:UO α β}{f:α→β→Nat}(h:DZ l c N f):(N.map (·.1)).Nodup:=h.keys▸h.ms.1
omit [LawfulBEq β] in
theorem DZ.find{l:ML α}{c:Nat}{N:UO α β}{f:α→β→Nat}(h:DZ l c N f)(a:α):
 (a ∉ N.map (·.1)∧BK l a=none∧∀t,f a t=0)∨∃A b m k B,N=A++(a,b,m,k)::B∧BK l a=some (.map (some b))∧MS m k∧m≠[]∧(∀t,BK m t=cv (f a t))∧a ∉ A.map (·.1)∧a ∉ B.map (·.1):=by
 by_cases ha:a∈N.map (·.1)
 ·obtain⟨⟨G,b,m,k⟩,O,rfl⟩:=dD.1 ha;obtain⟨A,B,rfl⟩:=List.append_of_mem O;have hn:=h.nodup;rw[aO,bM,dK,dS]at hn;have h1:G ∉ A.map (·.1):=fun g=>hn.2.2 _ g _ (.head _) rfl;have h2:BK l G=some (.map (some b)):=by
   rw[b3m,h.vals,aO,bM];exact(b4I (v:= .map none) (by rw[a6o];exact h1)).2
  obtain⟨h3,Z,h5⟩:=h.inn _ O;exact .inr ⟨A,b,m,k,B,rfl,h2,h3,Z,h5,h1,hn.2.1.1⟩
 refine .inl ⟨ha,?_,h.out a ha⟩;rw[JH,h.keys];exact ha
theorem DZ.set{l c}{A B:UO α β}{f}{a:α}{b k k':Nat}{m O:ML β}{t:β}{d:Nat→Nat}(h:DZ l c (A++(a,b,m,k)::B) f)
 (h1:MS O k')(h2:O≠[])(h3:∀s,BK O s=if s == t then cv (d (f a t))else BK m s):DZ l c (A++(a,b,O,k')::B) (bump f a t d):=by
 have hn:=h.nodup;rw[aO,bM,dK,dS]at hn;have hA:∀e∈A++B,e.1≠a:=by
  intro e G g;rcases aS.1 G with G|G
  ·exact hn.2.2 _ (dG G) _ (.head _) g
  exact hn.2.1.1 (dD.2 ⟨e,G,g⟩)
 refine⟨h.ms,?_,fun e G=>?_,fun x hx s=>?_⟩
 ·rw[h.vals];simp
 ·have Z:e∈A++B∨e=(a,b,O,k'):=by
   rcases aS.1 G with G|G
   ·exact .inl (dF _ G)
   rcases bY.1 G with G|G
   ·exact .inr G
   exact .inl (cZ _ G)
  rcases Z with G|rfl
  ·obtain⟨g1,g2,g3⟩:=h.inn e (by rcases aS.1 G with G|G;exact dF _ G;exact cZ _ (.tail _ G));refine⟨g1,g2,fun s=>?_⟩;have:(e.1 == a)=false:=by simpa using hA e G
   rw[g3];unfold bump;rw[this];rfl
  refine⟨h1,h2,fun s=>?_⟩;dsimp only;rw[h3];obtain⟨_,_,g3⟩:=h.inn (a,b,m,k) sI;unfold bump
  by_cases hs:(s == t)=true
  ·have:=zC hs;subst this;simp
  simp only[hs,if_false,beq_self_eq_true,fV,bJ];exact g3 s
 have a0:x ∉ (A++(a,b,m,k)::B).map (·.1):=by simpa using hx
 have a1:(x == a)=false:=by
  have:x≠a:=fun g=>hx (by rw[g];simp);simpa using this
 unfold bump;rw[a1];exact h.out x a0 s
theorem DZ.add{l c N f}{a:α}{b k':Nat}{G}{t:β}{d:Nat→Nat}(h:DZ l c N f)(O:a ∉ N.map (·.1))
 (h1:MS G k')(h2:G≠[])(h3:∀s,BK G s=if s == t then cv (d 0)else none):DZ (BU l a (.map (some b)) c) (FI l a c) (N++[(a,b,G,k')]) (bump f a t d):=by
 refine⟨h.ms.set a _,?_,fun e A=>?_,fun x Z s=>?_⟩
 ·rw[b2O,h.vals,(b3A (by rw[a6o];exact O)).1,aO];rfl
 ·rcases aS.1 A with A|A
  ·obtain⟨g1,g2,g3⟩:=h.inn e A;refine⟨g1,g2,fun s=>?_⟩;have:(e.1 == a)=false:=by
    have:e.1≠a:=fun g=>O (g▸dG A);simpa using this
   rw[g3];unfold bump;rw[this];rfl
  rw[eX.1 A];refine⟨h1,h2,fun s=>?_⟩;dsimp only;rw[h3,←h.out a O t];unfold bump
  by_cases hs:(s == t)=true
  ·have:=zC hs;subst this;simp
  simp only[hs,if_false,beq_self_eq_true,fV,bJ];rw[h.out a O s];rfl
 rw[aO,aS,not_or]at Z;have a0:(x == a)=false:=by
  have:x≠a:=by simpa using Z.2
  simpa using this
 unfold bump;rw[a0];exact h.out x Z.1 s
theorem DZ.drop{l c}{A B:UO α β}{f}{a:α}{b k:Nat}{m:ML β}{t:β}{d:Nat→Nat}(h:DZ l c (A++(a,b,m,k)::B) f)
 (h1:∀s,s≠t→f a s=0)(h2:d (f a t)=0):DZ (JY l a) c (A++B) (bump f a t d):=by
 have hn:=h.nodup;rw[aO,bM,dK,dS]at hn;have Z:∀e∈A++B,e.1≠a:=by
  intro e G g;rcases aS.1 G with G|G
  ·exact hn.2.2 _ (dG G) _ (.head _) g
  exact hn.2.1.1 (dD.2 ⟨e,G,g⟩)
 refine⟨h.ms.del a,?_,fun e G=>?_,fun x O s=>?_⟩
 ·have h3:(JY l a).map kvp=(l.map kvp).filter fun p=> !(p.1 == a):=by
   rw[PZ h.ms.1,List.filter_map];rfl
  rw[h3,h.vals,aO,bM,eY,List.filter_cons_of_neg sI,←eY,←aO];rw[List.filter_eq_self.2];intro p hp;obtain⟨e,G,rfl⟩:=dD.1 hp;have:=Z e G;simpa using this
 ·obtain⟨g1,g2,g3⟩:=h.inn e (by rcases aS.1 G with G|G;exact dF _ G;exact cZ _ (.tail _ G));refine⟨g1,g2,fun s=>?_⟩;have:(e.1 == a)=false:=by simpa using Z e G
  rw[g3];unfold bump;rw[this];rfl
 unfold bump
 by_cases hxa:x=a
 ·subst hxa
  by_cases hs:s=t
  ·subst hs;simp[h2]
  have:(s == t)=false:=by simpa using hs
  simp only[this,Bool.and_false,bJ,if_false];exact h1 s hs
 have a0:(x == a)=false:=by simpa using hxa
 rw[a0];refine h.out x ?_ s;rw[aO,bM,aS,bY,not_or,not_or];rw[aO,aS,not_or]at O;exact⟨O.1,hxa,O.2⟩
theorem b8U{m}{g:β→Nat}(h:∀s,BK m s=cv (g s)) t (n:Nat)(hn:n≠0) k:∀s,BK (BU m t (i64 (n:Int)) k) s=if s == t then cv n else BK m s:=by
 intro s;rw[NT];unfold cv;rw[zF hn]
omit [LawfulBEq β] in
theorem b9E{m}{g:β→Nat}(A:∀s,BK m s=cv (g s)) t:(BK m t).getD (i64 0)=i64 (g t:Int):=by
 rw[A];unfold cv
 split
 ·rename_i h;rw[h];rfl
 rfl
end
section
variable {α:Type} [BEq α] [LawfulBEq α]
def UA (l:ML α) (a:α) (c:Nat):Nat:=match l with
 |[]=>c
 |(b,_,n)::r=>if a == b then n else UA r a c
omit [LawfulBEq α] in
theorem a6H{l}{a:α}{c:Nat}(h:BK l a=none):UA l a c=c:=by
 induction l with
 |nil=>rfl
 |cons p r G=>
  obtain⟨b,u,n⟩:=p;unfold BK at h;unfold UA
  split at h
  ·cases h
  rename_i A
  rw[zF A];exact G h
theorem a6v{a v}:∀(l:ML α) (c i:Nat),BK l a=some v→∃j,midx l a i=some (i+j,v)∧l[j]?=some (a,v,UA l a c)∧∀x A,BU l a x A=l.set j (a,x,UA l a c)
 |[],_,_,h=>by cases h
 |(b,u,n)::r,c,i,h=>by
  unfold BK at h
  split at h
  ·rename_i he
   have O:=zC he;subst O;cases h;exact⟨0,by simp[midx],by simp[UA],fun x A=>by simp[BU,UA]⟩
  rename_i Z
  have G:(a == b)=false:=by simpa using Z
  obtain⟨j,h1,h2,h3⟩:=a6v r c (i+1) h;refine⟨j+1,?_,?_,fun x A=>by simp[BU,UA,G,h3]⟩
  ·simp only[midx,G,bJ,if_false];rw[h1,Nat.add_assoc,Nat.add_comm 1 j]
  simp only[List.getElem?_cons_succ,UA,G,bJ,if_false];exact h2
variable {cx:Cx} {Q:Qt} {e:Env} {I:Heap} {H:HL} {o:Oper} {C:Ct} {S:World→Prop}
theorem b2q{P:Program}{T K E b c:Nat}{kv:α→Value}{l:ML α}{a:α}{z:Value}{w:World}(hT:P.underlying T=some (.map K E))(hk:IK P K kv)(hz:∀w,(zeroValue E).run P w= .ok z w)(hb:w.heap[b]?=some (BD kv l c)):
 (dV T (.map (some b)) (kv a)).run P w= .ok (.tuple #[(BK l a).getD z,i64 (UA l a c:Int)]) (bC w b (BD kv (BU l a ((BK l a).getD z) c) (FI l a c))):=by
 obtain⟨hf,hc,h⟩:=hk;have hg:(getObj b).run P w= .ok (BD kv l c) w:=by simp[getObj,fP,hb,BD]
 have hset:∀o',(setObj b o').run P w= .ok () (bC w b o'):=fun o'=>by simp[setObj,fP,hb,bC,BD]
 cases hm:BK l a with
 |none=>
  obtain⟨h1,h2⟩:=XH l 0 hm;have h3:(fZ K (kv a) (l.map (KX kv))).run P w= .ok none w:=by rw[hf,h1]
  simp only[dV,fA,run_underlying hT,dL,hg,BD,hc,h3,hz,hset,h2,FI,hm,a6H hm];simp[goInt]
 |some u=>
  obtain⟨j,h1,h2,h3⟩:=a6v l c 0 hm;rw[Nat.zero_add]at h1;have h4:(fZ K (kv a) (l.map (KX kv))).run P w= .ok (some (j,u)) w:=by rw[hf,h1]
  have hj:(l.map (KX kv)).toArray[j]?=some { key:=kv a,val:=u,born:=UA l a c }:=by simp[h2,KX]
  have G:∀w,(fB (kv a) (kv a)).run P w= .ok (kv a) w:=fun w=>by simp[fB,h]
  simp only[dV,fA,run_underlying hT,dL,hg,BD,hc,h4,hj,Option.map_some,Option.getD_some,G,hset,h3,FI,hm,Option.isSome_some,if_true,goInt,Sem.run_pure];refine zD (fun A=>Result.ok (Value.tuple #[u,Value.int .i64 (UA l a c:Int)]) (bC w b (Obj.map A c))) ?_
  apply fC
  intro i;rw[dW];simp only[dX,fF,dM]
  by_cases hi:j=i
  ·subst hi;have O:j<l.length:=by
    rcases Nat.lt_or_ge j l.length with Z|Z
    ·exact Z
    simp[List.getElem?_eq_none Z]at h2
   have h5:l[j]=(a,u,UA l a c):=by
    have:=List.getElem?_eq_getElem O;rw[h2]at this;exact(Option.some.inj this).symm
   simp[O,h5]
  simp[hi]
theorem TG{T K E b c d:Nat}{m x}{kv:α→Value}{l a}{A z:Value}{H'}(i:Nat)(ho:o.op= .mapEntry T m x)(hd:o.dst=some d)(hn:Nat.blt d cx.n=true)(hm:ev e m=some (.map (some b)))(hx:ev e x=some A)(G:A=kv a)(hT:cx.P.underlying T=some (.map K E))(hK:IK cx.P K kv)(hz:∀w,(zeroValue E).run cx.P w= .ok z w)
 (O:H[i]?=some (b,BD kv l c))(Z:AV H i (b,BD kv (BU l a ((BK l a).getD z) c) (FI l a c)) H')(kk:C ((d,.tuple #[(BK l a).getD z,i64 (UA l a c:Int)])::e) I H'):GZ cx Q o e I H C:=by
 intro _ a0 w0 w h hs;unfold Oper.wp;subst G;have hb:=hs.own _ (eF O);have hr:=b2q (a:=a) hT hK hz hb;have:(execOp w0.eval o).run cx.P w= .ok (.value (.tuple #[(BK l a).getD z,i64 (UA l a c:Int)])) (bC w b (BD kv (BU l a ((BK l a).getD z) c) (FI l a c))):=by
  simp[execOp,ho,h.eval hm,h.eval hx,hr]
 rw[this];simp only[Oper.upon,hd];exact a0 _ _ _ kk _ _ (h.put hn) (hs.block O Z)
theorem c0R{l:ML α}{a:α}{x v:Value}{c:Nat}(h:MS l c):∃j,(BU l a x c)[j]?=some (a,x,UA l a c)∧BU l a v c=(BU l a x c).set j (a,v,UA l a c):=by
 cases hm:BK l a with
 |none=>
  obtain⟨_,h2⟩:=XH l 0 hm;refine⟨l.length,?_,?_⟩
  ·rw[h2,a6H hm];simp
  rw[h2,h2,a6H hm];simp
 |some u=>
  obtain⟨j,_,h2,h3⟩:=a6v l c 0 hm;refine⟨j,?_,?_⟩
  ·rw[h3,dM,zG rfl,zG (aX.1 h2).1]
  rw[h3,h3,List.set_set]
theorem a9n{P:Program}{T b c:Nat}{kv:α→Value}{l:ML α}{a:α}{x v:Value}{w:World}(h:MS l c)(hb:w.heap[b]?=some (BD kv (BU l a x c) (FI l a c))):
 (fH T (.map (some b)) (i64 (UA l a c:Int)) v).run P w= .ok () (bC w b (BD kv (BU l a v c) (FI l a c))):=by
 have hg:(getObj b).run P w= .ok (BD kv (BU l a x c) (FI l a c)) w:=by simp[getObj,fP,hb,BD]
 have hset:∀o',(setObj b o').run P w= .ok () (bC w b o'):=fun o'=>by simp[setObj,fP,hb,bC,BD]
 obtain⟨j,h1,h2⟩:=c0R (x:=x) (v:=v) (a:=a) h;have O:=h.set a x;generalize BU l a x c=L at h1 h2 O hg;have Z:j<L.length:=(aX.1 h1).1;have G:L[j]=(a,x,UA l a c):=(aX.1 h1).2;have hf:(L.map (KX kv)).toArray.findIdx? (fun e=>(e.born:Int) == (UA l a c:Int))=some j:=by
  rw[List.findIdx?_toArray,List.findIdx?_eq_some_iff_getElem];refine⟨by simpa using Z,by simp[G],fun k hk=>?_⟩;simp only[List.getElem_map,Bool.not_eq_true,beq_eq_false_iff_ne,ne_eq];intro he;have a0:k<L.length:=oM;have h3:=O.2.1;rw[List.nodup_iff_pairwise_ne,List.pairwise_map,List.pairwise_iff_getElem]at h3;refine h3 k j a0 Z hk ?_;rw[G];exact Int.ofNat_inj.1 he
 have a1:∀w,(asInt (i64 (UA l a c:Int))).run P w= .ok (UA l a c:Int) w:=fun w=>by simp[asInt,asIntOf]
 simp only[fH,fA,hg,BD,dL,a1,hf,hset];refine zD (fun A=>Result.ok () (bC w b (Obj.map A (FI l a c)))) ?_;rw[h2]
 apply fC
 intro i;rw[dW];simp only[dX,fF,dM]
 by_cases hi:j=i
 ·subst hi;simp[Z,G]
 simp[hi]
theorem PD{T b c:Nat}{m x y:Operand}{kv:α→Value}{l:ML α}{a:α}{u v:Value}{n:Int}{H':HL}(i:Nat)(ho:o.op= .entryStore T m x y)(hd:o.dst=none)(hm:ev e m=some (.map (some b)))(hx:ev e x=some (i64 n))(A:n=(UA l a c:Int))(hy:ev e y=some v)(G:MS l c)
 (O:H[i]?=some (b,BD kv (BU l a u c) (FI l a c)))(Z:AV H i (b,BD kv (BU l a v c) (FI l a c)) H')(kk:C e I H'):GZ cx Q o e I H C:=by
 intro _ a0 w0 w h hs;unfold Oper.wp;subst A;have hb:=hs.own _ (eF O);have hr:=a9n (P:=cx.P) (T:=T) (v:=v) G hb;have:(execOp w0.eval o).run cx.P w= .ok .skip (bC w b (BD kv (BU l a v c) (FI l a c))):=by
  simp[execOp,ho,h.eval hm,h.eval hx,h.eval hy,hr]
 rw[this];simp only[Oper.upon,hd];exact a0 _ _ _ kk _ _ h.XP (hs.block O Z)
end
end Go.Sx
namespace Go.Proofs.YtojdemmgkdokmaaGreatDoor
open _root_.Go.Proofs.Tryz
open Go Go.Sx
abbrev BI (t:dJ):Value:= .agg #[i64 t.1,i64 t.2]
abbrev IV (p:Ix.Pl):Value:= .agg #[str p.1,str p.2]
theorem GR:IK aP 38 BI:=IK.b6R WX kR dE dE rfl rfl rfl rfl tU3 DT
theorem RV:IK aP 182 IV:=IK.c6T a0W kR dE dE rfl rfl rfl rfl BF BX
def setH (b:Nat) (l:ML Ix.Pl) (c:Nat) (N:UO Ix.Pl dJ):HL:=(b,BD IV l c)::WS BI N
theorem a1F b l c A B p h m k:([(b,BD IV l c),(h,BD BI m k)]++WS BI (A++B)).Perm (setH b l c (A++(p,h,m,k)::B)):=
 dH _ (c0i BI A B p h m k)
theorem a2A{α:Type}[BEq α][LawfulBEq α](l:ML α)(a:α)(v:Value)(c:Nat):BU l a v c≠[]:=fun h=>by
 have:=(b3a (l:=l) (a:=a) (x:=a) (v:=v) (c:=c)).2 (.inr rfl);rw[h]at this;cases this
theorem UG{α:Type}[BEq α][LawfulBEq α]{l:ML α}{a:α}{v z:Value}{c:Nat}:(BK (BU l a v c) a).getD z=v:=by
 rw[NT];simp
theorem b8x{n}(h:n≠0):cv n=some (i64 (n:Int)):=zF h
theorem c5a b l c p t (hm:BK l p=none) I:yT aP 87 [.map (some b),IV p,BI t] I [(b,BD IV l c)]
 (fun e _ H'=>∃A,e= .returned (.tuple #[])∧H'=[(b,BD IV (BU l p (.map (some A)) c) (FI l p c)),(A,BD BI (BU [] t (i64 1) 0) (FI ([]:ML dJ) t 0))]):=by
 refine yT.ob func87 ?_;intro w0 _;refine Cj.sr (bV rfl (BL ?_));intro _ _;refine bV rfl (BL ?_);intro _ _;refine J.AO (bQ (aQ yP ?_));refine aQ (zX KY KJ (yR.at 1 rfl)) ?_;refine aQ (CO (kv:=IV) (l:=l) (a:=p) rfl rfl rfl rfl LZ RV QG (yR.at 2 rfl)) ?_;refine fM 8 rfl (show _= .map none from(by rw[hm];rfl)) ?_;refine aQ (a2h _ rfl rfl rfl JZ) ?_;refine J.c1 (fun _=>?_);refine bQ (aQ yP ?_);refine aQ (zX KY KJ (yR.at 1 rfl)) ?_;refine bV rfl (CB rfl rfl rfl ?_);intro G _;refine bV rfl (FZ (kv:=IV) (a:=p) 3 (.inr rfl) rfl rfl rfl rfl rfl LZ RV rfl (aI (aI (aI bG))) ?_);refine J.ns (bD [1,2,3] [] 9 kR ?_);refine aU ⟨(aA 1 rfl (aA 2 rfl (aA 3 rfl aF))),aG,(aC _)⟩ (fun h=>?_);refine aB 0 rfl h yP ?_;refine aB 1 rfl h (zX KY KJ (aK 1 rfl)) ?_;refine aB 2 rfl h (CO (kv:=IV) (l:=(BU l p (.map (some G)) c)) (a:=p) rfl rfl rfl rfl LZ RV QG (aK 2 rfl)) ?_;refine bH 15 rfl (show _= .map (some G) from UG) ?_;refine aB 3 rfl h (zX EI AY (aK 0 rfl)) ?_;refine JA.all [4,6] kR sI ?_;intro i O;simp only[bY,dN,or_false]at O;rcases O with rfl|rfl
 ·refine⟨_,rfl,rfl,?_⟩;refine zK (CO (kv:=BI) (l:=[]) (a:=t) rfl rfl rfl rfl JZ GR RQ (yR.at 0 rfl)) ?_;refine⟨⟨(aC _),(aA 1 rfl (aA 2 rfl (aA 3 rfl aF))),aG⟩,?_⟩;refine bH 17 rfl (show _=i64 0 from rfl) ?_;refine aU ⟨(aA 1 rfl (aA 2 rfl (aA 3 rfl aF))),aG,(aC _)⟩ (fun Z=>?_);refine aB 5 rfl Z (yZ rfl rfl rfl (AA dE)) ?_;refine zT 6 rfl (TG (kv:=BI) (l:=[]) (c:=0) (a:=t) 0 rfl rfl rfl rfl rfl rfl JZ GR RQ rfl bG ?_);refine⟨⟨(aC _),(aA 1 rfl (aA 2 rfl (aA 3 rfl aF))),aG⟩,?_⟩;refine aU ⟨(aA 1 rfl (aA 2 rfl (aA 3 rfl aF))),aG,(aC _)⟩ (fun a0=>?_);refine aB 7 rfl a0 AQ ?_;refine zT 8 rfl (PD (kv:=BI) (l:=[]) (a:=t) (c:=0) 0 rfl rfl rfl rfl rfl rfl MS.nil rfl bG ?_);refine⟨⟨(aC _),(aA 1 rfl (aA 2 rfl (aA 3 rfl aF))),aG⟩,?_⟩;refine AL ?_;refine aY (Keeps.k (aN (aN (Keeps.k bU)))) ?_;refine fQ gG ?_;refine fQ (Pull.s gG) ?_;refine aZ rfl rfl ?_;exact⟨_,rfl,rfl⟩
 refine⟨_,rfl,rfl,?_⟩;refine TG (kv:=BI) (l:=[]) (c:=0) (a:=t) 0 rfl rfl rfl rfl rfl rfl JZ GR RQ rfl bG ?_;refine⟨⟨(aC _),(aA 1 rfl (aA 2 rfl (aA 3 rfl aF))),aG⟩,?_⟩;refine aU ⟨(aA 1 rfl (aA 2 rfl (aA 3 rfl aF))),aG,(aC _)⟩ (fun a1=>?_);refine aB 7 rfl a1 AQ ?_;refine zT 4 rfl (zK (CO (kv:=BI) (l:=(BU [] t ((BK [] t).getD (.int .i64 0)) 0)) (a:=t) rfl rfl rfl rfl JZ GR RQ (yR.at 0 rfl)) ?_);refine⟨⟨(aC _),(aA 1 rfl (aA 2 rfl (aA 3 rfl aF))),aG⟩,?_⟩;refine bH 17 rfl (show _=i64 0 from UG) ?_;refine aU ⟨(aA 1 rfl (aA 2 rfl (aA 3 rfl aF))),aG,(aC _)⟩ (fun a2=>?_);refine aB 5 rfl a2 (yZ rfl rfl rfl (AA dE)) ?_;refine zT 8 rfl (PD (kv:=BI) (l:=[]) (a:=t) (c:=0) 0 rfl rfl rfl rfl rfl rfl MS.nil rfl bG ?_);refine⟨⟨(aC _),(aA 1 rfl (aA 2 rfl (aA 3 rfl aF))),aG⟩,?_⟩;refine AL ?_;refine aY (Keeps.k (aN (aN (Keeps.k bU)))) ?_;refine fQ gG ?_;refine fQ (Pull.s gG) ?_;refine aZ rfl rfl ?_;exact⟨_,rfl,rfl⟩
theorem c4C b l c p t A m (k n:Nat)(O:BK l p=some (.map (some A)))(G:MS m k)(hn:(BK m t).getD (i64 0)=i64 (n:Int))(a4:n≤1000000000000000) I:yT aP 87 [.map (some b),IV p,BI t] I [(b,BD IV l c),(A,BD BI m k)]
 (fun e _ H'=>e= .returned (.tuple #[])∧H'=[(b,BD IV l c),(A,BD BI (BU m t (i64 ((n+1:Nat):Int)) k) (FI m t k))]):=by
 refine yT.ob func87 ?_;intro w0 _;refine Cj.sr (bV rfl (BL ?_));intro _ _;refine bV rfl (BL ?_);intro _ _;refine J.AO (bQ (aQ yP ?_));refine aQ (zX KY KJ (yR.at 1 rfl)) ?_;refine aQ (CO (kv:=IV) (l:=l) (a:=p) rfl rfl rfl rfl LZ RV QG (yR.at 2 rfl)) ?_;refine fM 8 rfl (show _= .map (some A) from(by rw[O];rfl)) ?_;refine aQ (a2h _ rfl rfl rfl JZ) ?_;refine J.c0 (fun _=>?_);refine dA (bT (bD [0,1,2] [] 9 kR ?_));refine aU ⟨(aA 0 rfl (aA 1 rfl (aA 2 rfl aF))),aG,(aC _)⟩ (fun h=>?_);refine aB 0 rfl h yP ?_;refine aB 1 rfl h (zX KY KJ (aK 1 rfl)) ?_;refine aB 2 rfl h (CO (kv:=IV) (l:=l) (a:=p) rfl rfl rfl rfl LZ RV QG (aK 2 rfl)) ?_;refine bH 15 rfl (show _= .map (some A) from(by rw[O];rfl)) ?_;refine aB 3 rfl h (zX EI AY (aK 0 rfl)) ?_;refine JA.all [4,6] kR sI ?_;intro i Z;simp only[bY,dN,or_false]at Z;rcases Z with rfl|rfl
 ·refine⟨_,rfl,rfl,?_⟩;refine zK (CO (kv:=BI) (l:=m) (a:=t) rfl rfl rfl rfl JZ GR RQ (yR.at 3 rfl)) ?_;refine⟨⟨(aC _),(aA 0 rfl (aA 1 rfl (aA 2 rfl aF))),aG⟩,?_⟩;refine bH 17 rfl (show _=i64 (n:Int) from hn) ?_;refine aU ⟨(aA 0 rfl (aA 1 rfl (aA 2 rfl aF))),aG,(aC _)⟩ (fun a0=>?_);refine aB 5 rfl a0 (yZ rfl rfl rfl (AA oM)) ?_;refine zT 6 rfl (TG (kv:=BI) (l:=m) (c:=k) (a:=t) 3 rfl rfl rfl rfl rfl rfl JZ GR RQ rfl (aI (aI (aI bG))) ?_);refine⟨⟨(aC _),(aA 0 rfl (aA 1 rfl (aA 2 rfl aF))),aG⟩,?_⟩;refine aU ⟨(aA 0 rfl (aA 1 rfl (aA 2 rfl aF))),aG,(aC _)⟩ (fun a1=>?_);refine aB 7 rfl a1 AQ ?_;refine zT 8 rfl (PD (kv:=BI) (l:=m) (a:=t) (c:=k) 3 rfl rfl rfl rfl rfl rfl G rfl (aI (aI (aI bG))) ?_);refine⟨⟨(aC _),(aA 0 rfl (aA 1 rfl (aA 2 rfl aF))),aG⟩,?_⟩;refine AL ?_;refine aY (aN (aN (Keeps.k (Keeps.k bU)))) ?_;refine aZ rfl rfl ?_;exact rT
 refine⟨_,rfl,rfl,?_⟩;refine TG (kv:=BI) (l:=m) (c:=k) (a:=t) 3 rfl rfl rfl rfl rfl rfl JZ GR RQ rfl (aI (aI (aI bG))) ?_;refine⟨⟨(aC _),(aA 0 rfl (aA 1 rfl (aA 2 rfl aF))),aG⟩,?_⟩;refine aU ⟨(aA 0 rfl (aA 1 rfl (aA 2 rfl aF))),aG,(aC _)⟩ (fun a2=>?_);refine aB 7 rfl a2 AQ ?_;refine zT 4 rfl (zK (CO (kv:=BI) (l:=(BU m t ((BK m t).getD (.int .i64 0)) k)) (a:=t) rfl rfl rfl rfl JZ GR RQ (yR.at 3 rfl)) ?_);refine⟨⟨(aC _),(aA 0 rfl (aA 1 rfl (aA 2 rfl aF))),aG⟩,?_⟩;refine bH 17 rfl (show _=i64 (n:Int) from(UG.trans hn)) ?_;refine aU ⟨(aA 0 rfl (aA 1 rfl (aA 2 rfl aF))),aG,(aC _)⟩ (fun a3=>?_);refine aB 5 rfl a3 (yZ rfl rfl rfl (AA oM)) ?_;refine zT 8 rfl (PD (kv:=BI) (l:=m) (a:=t) (c:=k) 3 rfl rfl rfl rfl rfl rfl G rfl (aI (aI (aI bG))) ?_);refine⟨⟨(aC _),(aA 0 rfl (aA 1 rfl (aA 2 rfl aF))),aG⟩,?_⟩;refine AL ?_;refine aY (aN (aN (Keeps.k (Keeps.k bU)))) ?_;refine aZ rfl rfl ?_;exact rT
theorem b9O b l c N f p t (h:DZ l c N f)(hf:f p t≤1000000000000000) I:
 yT aP 87 [.map (some b),IV p,BI t] I (setH b l c N) (fun e _ H'=>∃l' c' N',e= .returned (.tuple #[])∧DZ l' c' N' (bump f p t (· +1))∧H'=setH b l' c' N'):=by
 rcases h.find p with⟨a2,O,hz⟩|⟨A,G,m,k,B,rfl,O,a0,a3,a1,hA,hB⟩
 ·have h1:=(c5a b l c p t O I).frame (WS BI N);refine h1.leave fun e I' H' _ ⟨H1,hH,G,he,Z⟩=>⟨_,[],?_,BU l p (.map (some G)) c,FI l p c,N++[(p,G,BU [] t (i64 1) 0,FI ([]:ML dJ) t 0)],he,h.add a2 (MS.nil.set t _) (a2A _ _ _ _) (fun s=>?_),rfl⟩
  ·rw[bF,hH,Z];unfold setH;rw[a5a];exact dH _ dB
  rw[NT]
  by_cases hs:(s == t)=true
  ·rw[zG hs,zG hs];rfl
  rw[zF hs,zF hs];rfl
 have hn:=b9E a1 t;have h1:=(gI (a1F b l c A B p G m k) ((c4C b l c p t G m k (f p t) O a0 hn hf I).frame (WS BI (A++B))));refine h1.leave fun e I' H' _ ⟨H1,hH,he,Z⟩=>⟨_,[],?_,l,c,A++(p,G,BU m t (i64 ((f p t+1:Nat):Int)) k,FI m t k)::B,he,h.set (d:=(· +1)) (a0.set t _) (a2A _ _ _ _) (fun s=>?_),rfl⟩
 ·rw[bF,hH,Z];exact(a1F b l c A B p G _ _).symm
 exact b8U a1 t (f p t+1) (Nat.succ_ne_zero _) k s
theorem b7Q b l c p t A m (k n:Nat)(hm:BK l p=some (.map (some A)))(ae:MS m k)(hn:(BK m t).getD (i64 0)=i64 (n:Int))(al:1≤n)(am:n≤1000000000000000) I:yT aP 149 [.map (some b),IV p,BI t] I [(b,BD IV l c),(A,BD BI m k)]
 (fun e _ H'=>(n≠1∧e= .returned (.tuple #[])∧H'=[(b,BD IV l c),(A,BD BI (BU m t (i64 ((n-1:Nat):Int)) k) (FI m t k))])∨(n=1∧(JY (BU m t (i64 ((n-1:Nat):Int)) k) t)≠[]∧e= .returned (.tuple #[])∧H'=[(b,BD IV l c),(A,BD BI (JY (BU m t (i64 ((n-1:Nat):Int)) k) t) (FI m t k))])∨(n=1∧(JY (BU m t (i64 ((n-1:Nat):Int)) k) t)=[]∧e= .returned (.tuple #[])∧H'=[(b,BD IV (JY l p) c),(A,BD BI (JY (BU m t (i64 ((n-1:Nat):Int)) k) t) (FI m t k))])):=by
 refine yT.ob func149 ?_;intro w0 _;refine Cj.sr (bV rfl (BL ?_));intro _ _;refine bV rfl (BL ?_);intro _ _;refine J.nss (bD [0,1,2] [] 9 kR ?_);refine aU ⟨(aA 0 rfl (aA 1 rfl (aA 2 rfl aF))),aG,(aC _)⟩ (fun a5=>?_);refine aB 0 rfl a5 yP ?_;refine aB 1 rfl a5 (zX KY KJ (aK 1 rfl)) ?_;refine aB 2 rfl a5 (CO (kv:=IV) (l:=l) (a:=p) rfl rfl rfl rfl LZ RV QG (aK 2 rfl)) ?_;refine bH 8 rfl (show _= .map (some A) from(by rw[hm];rfl)) ?_;refine aB 3 rfl a5 (zX EI AY (aK 0 rfl)) ?_;refine JA.all [4,6] kR sI ?_;intro i hi;simp only[bY,dN,or_false]at hi;rcases hi with rfl|rfl
 ·refine⟨_,rfl,rfl,?_⟩;refine zK (CO (kv:=BI) (l:=m) (a:=t) rfl rfl rfl rfl JZ GR RQ (yR.at 3 rfl)) ?_;refine⟨⟨(aC _),(aA 0 rfl (aA 1 rfl (aA 2 rfl aF))),aG⟩,?_⟩;refine bH 10 rfl (show _=i64 (n:Int) from hn) ?_;refine aU ⟨(aA 0 rfl (aA 1 rfl (aA 2 rfl aF))),aG,(aC _)⟩ (fun aj=>?_);refine aB 5 rfl aj (IC rfl rfl rfl (AA oM)) ?_;refine bH 11 rfl (show _=i64 ((n-1:Nat):Int) from(zD i64 oM)) ?_;refine zT 6 rfl (TG (kv:=BI) (l:=m) (c:=k) (a:=t) 3 rfl rfl rfl rfl rfl rfl JZ GR RQ rfl (aI (aI (aI bG))) ?_);refine⟨⟨(aC _),(aA 0 rfl (aA 1 rfl (aA 2 rfl aF))),aG⟩,?_⟩;refine aU ⟨(aA 0 rfl (aA 1 rfl (aA 2 rfl aF))),aG,(aC _)⟩ (fun ak=>?_);refine aB 7 rfl ak AQ ?_;refine zT 8 rfl (PD (kv:=BI) (l:=m) (a:=t) (c:=k) 3 rfl rfl rfl rfl rfl rfl ae rfl (aI (aI (aI bG))) ?_);refine⟨⟨(aC _),(aA 0 rfl (aA 1 rfl (aA 2 rfl aF))),aG⟩,?_⟩;refine AL ?_;refine bT (fO (fO (bD [0,1,2,3] [] 6 kR ?_)));refine aU ⟨(aA 0 rfl (aA 1 rfl (aA 2 rfl (aA 3 rfl aF)))),aG,(aC _)⟩ (fun Z=>?_);refine aB 0 rfl Z yP ?_;refine aB 1 rfl Z (zX KY KJ (aK 1 rfl)) ?_;refine aB 2 rfl Z (CO (kv:=IV) (l:=l) (a:=p) rfl rfl rfl rfl LZ RV QG (aK 2 rfl)) ?_;refine bH 16 rfl (show _= .map (some A) from(by rw[hm];rfl)) ?_;refine aB 3 rfl Z (zX EI AY (aK 0 rfl)) ?_;refine aB 4 rfl Z (CO (kv:=BI) (l:=(BU m t (i64 ((n-1:Nat):Int)) k)) (a:=t) rfl rfl rfl rfl JZ GR RQ (aK 3 rfl)) ?_;refine bH 18 rfl (show _=i64 ((n-1:Nat):Int) from UG) ?_;refine aB 5 rfl Z BO ?_;refine AL ?_;refine bT (Cj.cond rfl (fun a7=>?_) (fun a7=>?_))
  ·have af:=CS a7;refine bD [0,1,2] [] 5 kR ?_;refine aU ⟨(aA 0 rfl (aA 1 rfl (aA 2 rfl aF))),aG,(aC _)⟩ (fun a6=>?_);refine aB 0 rfl a6 yP ?_;refine aB 1 rfl a6 (zX KY KJ (aK 1 rfl)) ?_;refine aB 2 rfl a6 (CO (kv:=IV) (l:=l) (a:=p) rfl rfl rfl rfl LZ RV QG (aK 2 rfl)) ?_;refine bH 22 rfl (show _= .map (some A) from(by rw[hm];rfl)) ?_;refine aB 3 rfl a6 (zX EI AY (aK 0 rfl)) ?_;refine zT 4 rfl (YO (kv:=BI) (a:=t) 3 rfl rfl rfl rfl rfl JZ GR rfl (aI (aI (aI bG))) ?_);refine⟨⟨(aC _),(aA 0 rfl (aA 1 rfl (aA 2 rfl aF))),aG⟩,?_⟩;refine AL ?_;refine bT (Cj.sr (aQ yP ?_));refine aQ (zX KY KJ (yR.at 1 rfl)) ?_;refine aQ (CO (kv:=IV) (l:=l) (a:=p) rfl rfl rfl rfl LZ RV QG (yR.at 2 rfl)) ?_;refine fM 26 rfl (show _= .map (some A) from(by rw[hm];rfl)) ?_;refine aQ (XM (kv:=BI) (l:=(JY (BU m t (i64 ((n-1:Nat):Int)) k) t)) rfl rfl JZ (yR.at 3 rfl)) ?_;refine aQ BO ?_;refine J.cd (fun a3=>?_) (fun a3=>?_)
   ·have ag:=CS a3;have a8:(JY (BU m t (i64 ((n-1:Nat):Int)) k) t)=[]:=bI.1 (by have h:=CS a3;omega);refine bQ (aQ yP ?_);refine aQ (zX KY KJ (yR.at 1 rfl)) ?_;refine bV rfl (YO (kv:=IV) (a:=p) 2 rfl rfl rfl rfl rfl LZ RV rfl (aI (aI bG)) ?_);refine J.nil (aY (aN (aN (Keeps.k (Keeps.k bU)))) ?_);refine aZ rfl rfl ?_;exact .inr (.inr ⟨oM,a8,rfl,rfl⟩)
   have ag:=CX a3;have a9:(JY (BU m t (i64 ((n-1:Nat):Int)) k) t)≠[]:=fun e=>by have h:=CX a3;rw[e]at h;exact h rfl
   refine dA (aY (aN (aN (Keeps.k (Keeps.k bU)))) ?_);refine aZ rfl rfl ?_;exact .inr (.inl ⟨oM,a9,rfl,rfl⟩)
  have af:=CX a7;refine dA (bT (Cj.sr (aQ yP ?_)));refine aQ (zX KY KJ (yR.at 1 rfl)) ?_;refine aQ (CO (kv:=IV) (l:=l) (a:=p) rfl rfl rfl rfl LZ RV QG (yR.at 2 rfl)) ?_;refine fM 26 rfl (show _= .map (some A) from(by rw[hm];rfl)) ?_;refine aQ (XM (kv:=BI) (l:=(BU m t (i64 ((n-1:Nat):Int)) k)) rfl rfl JZ (yR.at 3 rfl)) ?_;refine aQ BO ?_;refine J.cd (fun a0=>?_) (fun a0=>?_)
  ·have aa:=CS a0;exact absurd (show(BU m t (i64 ((n-1:Nat):Int)) k)=[] from bI.1 (by have h:=CS a0;omega)) (a2A _ _ _ _)
  have aa:=CX a0;refine dA (aY (aN (aN (Keeps.k (Keeps.k bU)))) ?_);refine aZ rfl rfl ?_;exact .inl ⟨oM,rfl,rfl⟩
 refine⟨_,rfl,rfl,?_⟩;refine TG (kv:=BI) (l:=m) (c:=k) (a:=t) 3 rfl rfl rfl rfl rfl rfl JZ GR RQ rfl (aI (aI (aI bG))) ?_;refine⟨⟨(aC _),(aA 0 rfl (aA 1 rfl (aA 2 rfl aF))),aG⟩,?_⟩;refine aU ⟨(aA 0 rfl (aA 1 rfl (aA 2 rfl aF))),aG,(aC _)⟩ (fun ah=>?_);refine aB 7 rfl ah AQ ?_;refine zT 4 rfl (zK (CO (kv:=BI) (l:=(BU m t ((BK m t).getD (.int .i64 0)) k)) (a:=t) rfl rfl rfl rfl JZ GR RQ (yR.at 3 rfl)) ?_);refine⟨⟨(aC _),(aA 0 rfl (aA 1 rfl (aA 2 rfl aF))),aG⟩,?_⟩;refine bH 10 rfl (show _=i64 (n:Int) from(UG.trans hn)) ?_;refine aU ⟨(aA 0 rfl (aA 1 rfl (aA 2 rfl aF))),aG,(aC _)⟩ (fun ai=>?_);refine aB 5 rfl ai (IC rfl rfl rfl (AA oM)) ?_;refine bH 11 rfl (show _=i64 ((n-1:Nat):Int) from(zD i64 oM)) ?_;refine zT 8 rfl (PD (kv:=BI) (l:=m) (a:=t) (c:=k) 3 rfl rfl rfl rfl rfl rfl ae rfl (aI (aI (aI bG))) ?_);refine⟨⟨(aC _),(aA 0 rfl (aA 1 rfl (aA 2 rfl aF))),aG⟩,?_⟩;refine AL ?_;refine bT (fO (fO (bD [0,1,2,3] [] 6 kR ?_)));refine aU ⟨(aA 0 rfl (aA 1 rfl (aA 2 rfl (aA 3 rfl aF)))),aG,(aC _)⟩ (fun G=>?_);refine aB 0 rfl G yP ?_;refine aB 1 rfl G (zX KY KJ (aK 1 rfl)) ?_;refine aB 2 rfl G (CO (kv:=IV) (l:=l) (a:=p) rfl rfl rfl rfl LZ RV QG (aK 2 rfl)) ?_;refine bH 16 rfl (show _= .map (some A) from(by rw[hm];rfl)) ?_;refine aB 3 rfl G (zX EI AY (aK 0 rfl)) ?_;refine aB 4 rfl G (CO (kv:=BI) (l:=(BU m t (i64 ((n-1:Nat):Int)) k)) (a:=t) rfl rfl rfl rfl JZ GR RQ (aK 3 rfl)) ?_;refine bH 18 rfl (show _=i64 ((n-1:Nat):Int) from UG) ?_;refine aB 5 rfl G BO ?_;refine AL ?_;refine bT (Cj.cond rfl (fun a4=>?_) (fun a4=>?_))
 ·have ab:=CS a4;refine bD [0,1,2] [] 5 kR ?_;refine aU ⟨(aA 0 rfl (aA 1 rfl (aA 2 rfl aF))),aG,(aC _)⟩ (fun a1=>?_);refine aB 0 rfl a1 yP ?_;refine aB 1 rfl a1 (zX KY KJ (aK 1 rfl)) ?_;refine aB 2 rfl a1 (CO (kv:=IV) (l:=l) (a:=p) rfl rfl rfl rfl LZ RV QG (aK 2 rfl)) ?_;refine bH 22 rfl (show _= .map (some A) from(by rw[hm];rfl)) ?_;refine aB 3 rfl a1 (zX EI AY (aK 0 rfl)) ?_;refine zT 4 rfl (YO (kv:=BI) (a:=t) 3 rfl rfl rfl rfl rfl JZ GR rfl (aI (aI (aI bG))) ?_);refine⟨⟨(aC _),(aA 0 rfl (aA 1 rfl (aA 2 rfl aF))),aG⟩,?_⟩;refine AL ?_;refine bT (Cj.sr (aQ yP ?_));refine aQ (zX KY KJ (yR.at 1 rfl)) ?_;refine aQ (CO (kv:=IV) (l:=l) (a:=p) rfl rfl rfl rfl LZ RV QG (yR.at 2 rfl)) ?_;refine fM 26 rfl (show _= .map (some A) from(by rw[hm];rfl)) ?_;refine aQ (XM (kv:=BI) (l:=(JY (BU m t (i64 ((n-1:Nat):Int)) k) t)) rfl rfl JZ (yR.at 3 rfl)) ?_;refine aQ BO ?_;refine J.cd (fun O=>?_) (fun O=>?_)
  ·have ac:=CS O;have a8:(JY (BU m t (i64 ((n-1:Nat):Int)) k) t)=[]:=bI.1 (by have h:=CS O;omega);refine bQ (aQ yP ?_);refine aQ (zX KY KJ (yR.at 1 rfl)) ?_;refine bV rfl (YO (kv:=IV) (a:=p) 2 rfl rfl rfl rfl rfl LZ RV rfl (aI (aI bG)) ?_);refine J.nil (aY (aN (aN (Keeps.k (Keeps.k bU)))) ?_);refine aZ rfl rfl ?_;exact .inr (.inr ⟨oM,a8,rfl,rfl⟩)
  have ac:=CX O;have a9:(JY (BU m t (i64 ((n-1:Nat):Int)) k) t)≠[]:=fun e=>by have h:=CX O;rw[e]at h;exact h rfl
  refine dA (aY (aN (aN (Keeps.k (Keeps.k bU)))) ?_);refine aZ rfl rfl ?_;exact .inr (.inl ⟨oM,a9,rfl,rfl⟩)
 have ab:=CX a4;refine dA (bT (Cj.sr (aQ yP ?_)));refine aQ (zX KY KJ (yR.at 1 rfl)) ?_;refine aQ (CO (kv:=IV) (l:=l) (a:=p) rfl rfl rfl rfl LZ RV QG (yR.at 2 rfl)) ?_;refine fM 26 rfl (show _= .map (some A) from(by rw[hm];rfl)) ?_;refine aQ (XM (kv:=BI) (l:=(BU m t (i64 ((n-1:Nat):Int)) k)) rfl rfl JZ (yR.at 3 rfl)) ?_;refine aQ BO ?_;refine J.cd (fun a2=>?_) (fun a2=>?_)
 ·have ad:=CS a2;exact absurd (show(BU m t (i64 ((n-1:Nat):Int)) k)=[] from bI.1 (by have h:=CS a2;omega)) (a2A _ _ _ _)
 have ad:=CX a2;refine dA (aY (aN (aN (Keeps.k (Keeps.k bU)))) ?_);refine aZ rfl rfl ?_;exact .inl ⟨oM,rfl,rfl⟩
theorem c4p{n}(h:cv n=none):n=0:=by
 unfold cv at h
 split at h
 ·assumption
 cases h
theorem b2p{m k}(h:MS m k) t v (s:dJ):BK (JY (BU m t v k) t) s=if s == t then none else BK m s:=by
 rw[a4F (h.set t v).1,NT]
 by_cases hs:(s == t)=true
 ·rw[zG hs,zG hs]
 rw[zF hs,zF hs,zF hs]
theorem a9B b l c N f p t (h:DZ l c N f)(a1:1≤f p t)(hf:f p t≤1000000000000000) I:
 yT aP 149 [.map (some b),IV p,BI t] I (setH b l c N) (fun e _ H'=>∃l' c' N',e= .returned (.tuple #[])∧DZ l' c' N' (bump f p t (· -1))∧H'=setH b l' c' N'):=by
 rcases h.find p with⟨a5,a2,hz⟩|⟨A,Z,m,k,B,rfl,a2,G,a6,a0,hA,hB⟩
 ·rw[hz t]at a1;omega
 have hn:=b9E a0 t;have h1:=(gI (a1F b l c A B p Z m k) ((b7Q b l c p t Z m k (f p t) a2 G hn a1 hf I).frame (WS BI (A++B))));refine h1.leave fun e _ H' _ ⟨H1,hH,hq⟩=>?_;rcases hq with⟨h9,he,O⟩|⟨h9,a3,he,O⟩|⟨h9,a4,he,O⟩
 ·refine⟨_,[],?_,l,c,A++(p,Z,BU m t (i64 ((f p t-1:Nat):Int)) k,FI m t k)::B,he,h.set (d:=(· -1)) (G.set t _) (a2A _ _ _ _) (fun s=>?_),rfl⟩
  ·rw[bF,hH,O];exact(a1F b l c A B p Z _ _).symm
  exact b8U a0 t (f p t-1) oM k s
 ·refine⟨_,[],?_,l,c,A++(p,Z,JY (BU m t (i64 ((f p t-1:Nat):Int)) k) t,FI m t k)::B,he,h.set (d:=(· -1)) ((G.set t _).del t) a3 (fun s=>?_),rfl⟩
  ·rw[bF,hH,O];exact(a1F b l c A B p Z _ _).symm
  rw[b2p G];show _=if (s == t)=true then cv (f p t-1)else _;rw[h9];rfl
 refine⟨_,[(Z,BD BI (JY (BU m t (i64 ((f p t-1:Nat):Int)) k) t) (FI m t k))],?_,JY l p,c,A++B,he,h.drop (d:=(· -1)) (fun s hs=>?_) (by show f p t-1=0;omega),rfl⟩
 ·rw[hH,O];unfold setH;exact dH _ dB
 have h2:=b2p G t (i64 ((f p t-1:Nat):Int)) s;rw[a4,zF (by simpa using hs),a0]at h2;exact c4p h2.symm
abbrev UF (vb wb kb:Nat):List Value:=[.map (some vb),.map (some wb),.map (some kb)]
structure RJ where
  t:Ix.Rec
  k:UInt8
  l:UInt8
  v:Value
  fs:List Ke.JC
def TQ (e:RJ):List Value:=[i64 e.t.1,i64 e.t.2,u8 e.k,u8 e.l,e.v]
theorem XE e:(TQ e).length=5:=rfl
theorem c4N xb eb Z vb wb kb ek el ev l c N f p t (h:DZ l c N f)(hf:f p t≤1000000000000000) I (a1:I xb=some (yY 73 [ptr Z 0]))(a2:I eb=some (yY 57 [i64 t.1,i64 t.2,u8 ek,u8 el,ev])):
 yT aP 86 [IV p,ptr xb 0,ptr eb 0] I ([(Z,yY 136 (UF vb wb kb))]++setH wb l c N) (fun e _ H'=>∃l' c' N',e= .returned (.tuple #[])∧DZ l' c' N' (bump f p t (· +1))∧H'=[(Z,yY 136 (UF vb wb kb))]++setH wb l' c' N'):=by
 refine yT.ob func86 ?_;intro w0 _;refine Cj.sr (bV rfl (BL ?_));intro _ _;refine J.ns (bD [0,1] [] 8 kR ?_);have G:=a1;have O:=a2;refine aU ⟨(aA 0 rfl (aA 1 rfl aF)),aG,(aC _)⟩ (fun A=>?_);refine aB 0 rfl A (yX KQ (bZ G)) ?_;refine aB 1 rfl A zW ?_;refine aB 2 rfl A (qq2 (off':=1) DW DC) ?_;refine aB 3 rfl A (yX isAgg134 (aK 1 rfl)) ?_;refine aB 4 rfl A (zX KY KJ (aK 0 rfl)) ?_;refine aB 5 rfl A (qq2 (off':=0) QX AY) ?_;refine aB 6 rfl A (zX EI AY (bZ O)) ?_;refine zT 7 rfl (FV (H1:=setH _ _ _ _) [_,_] rfl rfl rfl rfl rfl rfl (b9O wb l c N f p t h hf _) ?_ (fun _ _ _ _ ⟨_,_,_,h,_⟩=>by cases h) (fun _ _ ⟨_,_,_,h,_⟩=>by cases h));intro _ _ _ a0 a3;obtain⟨l1,c1,N1,h,hN,rfl⟩:=a3;cases h;refine⟨⟨(fJ (aC _) a0),(aA 0 rfl (aA 1 rfl aF)),aG⟩,?_⟩;refine AL ?_;refine aY (aN (Keeps.k dY)) ?_;refine aZ rfl rfl ?_;exact⟨l1,c1,N1,rfl,hN,rfl⟩
theorem c5B xb eb Z vb wb kb ek el ev l c N f p t (h:DZ l c N f)(hf:f p t≤1000000000000000) I (a1:I xb=some (yY 73 [ptr Z 0]))(a2:I eb=some (yY 57 [i64 t.1,i64 t.2,u8 ek,u8 el,ev])):
 yT aP 88 [IV p,ptr xb 0,ptr eb 0] I ([(Z,yY 136 (UF vb wb kb))]++setH kb l c N) (fun e _ H'=>∃l' c' N',e= .returned (.tuple #[])∧DZ l' c' N' (bump f p t (· +1))∧H'=[(Z,yY 136 (UF vb wb kb))]++setH kb l' c' N'):=by
 refine yT.ob func88 ?_;intro w0 _;refine Cj.sr (bV rfl (BL ?_));intro _ _;refine J.ns (bD [0,1] [] 8 kR ?_);have G:=a1;have O:=a2;refine aU ⟨(aA 0 rfl (aA 1 rfl aF)),aG,(aC _)⟩ (fun A=>?_);refine aB 0 rfl A (yX KQ (bZ G)) ?_;refine aB 1 rfl A zW ?_;refine aB 2 rfl A (qq2 (off':=2) DW DC) ?_;refine aB 3 rfl A (yX isAgg134 (aK 1 rfl)) ?_;refine aB 4 rfl A (zX KY KJ (aK 0 rfl)) ?_;refine aB 5 rfl A (qq2 (off':=0) QX AY) ?_;refine aB 6 rfl A (zX EI AY (bZ O)) ?_;refine zT 7 rfl (FV (H1:=setH _ _ _ _) [_,_] rfl rfl rfl rfl rfl rfl (b9O kb l c N f p t h hf _) ?_ (fun _ _ _ _ ⟨_,_,_,h,_⟩=>by cases h) (fun _ _ ⟨_,_,_,h,_⟩=>by cases h));intro _ _ _ a0 a3;obtain⟨l1,c1,N1,h,hN,rfl⟩:=a3;cases h;refine⟨⟨(fJ (aC _) a0),(aA 0 rfl (aA 1 rfl aF)),aG⟩,?_⟩;refine AL ?_;refine aY (aN (Keeps.k dY)) ?_;refine aZ rfl rfl ?_;exact⟨l1,c1,N1,rfl,hN,rfl⟩
theorem c2M xb eb Z vb wb kb l c N f p t (h:DZ l c N f)(a1:1≤f p t)(hf:f p t≤1000000000000000) I (a2:I xb=some (yY 73 [ptr Z 0]))(a3:I eb=some (yY 38 [i64 t.1,i64 t.2])):
 yT aP 148 [IV p,ptr xb 0,ptr eb 0] I ([(Z,yY 136 (UF vb wb kb))]++setH wb l c N) (fun e _ H'=>∃l' c' N',e= .returned (.tuple #[])∧DZ l' c' N' (bump f p t (· -1))∧H'=[(Z,yY 136 (UF vb wb kb))]++setH wb l' c' N'):=by
 refine yT.ob func148 ?_;intro w0 _;refine Cj.sr (bV rfl (BL ?_));intro _ _;refine J.ns (bD [0,1] [] 7 kR ?_);have G:=a2;have O:=a3;refine aU ⟨(aA 0 rfl (aA 1 rfl aF)),aG,(aC _)⟩ (fun A=>?_);refine aB 0 rfl A (yX KQ (bZ G)) ?_;refine aB 1 rfl A zW ?_;refine aB 2 rfl A (qq2 (off':=1) DW DC) ?_;refine aB 3 rfl A (yX isAgg134 (aK 1 rfl)) ?_;refine aB 4 rfl A (zX KY KJ (aK 0 rfl)) ?_;refine aB 5 rfl A (zX EI AY (bZ O)) ?_;refine zT 6 rfl (FV (H1:=setH _ _ _ _) [_,_] rfl rfl rfl rfl rfl rfl (a9B wb l c N f p t h a1 hf _) ?_ (fun _ _ _ _ ⟨_,_,_,h,_⟩=>by cases h) (fun _ _ ⟨_,_,_,h,_⟩=>by cases h));intro _ _ _ a0 a4;obtain⟨l1,c1,N1,h,hN,rfl⟩:=a4;cases h;refine⟨⟨(fJ (aC _) a0),(aA 0 rfl (aA 1 rfl aF)),aG⟩,?_⟩;refine AL ?_;refine aY (aN (Keeps.k dY)) ?_;refine aZ rfl rfl ?_;exact⟨l1,c1,N1,rfl,hN,rfl⟩
theorem c1X xb eb Z vb wb kb l c N f p t (h:DZ l c N f)(a1:1≤f p t)(hf:f p t≤1000000000000000) I (a2:I xb=some (yY 73 [ptr Z 0]))(a3:I eb=some (yY 38 [i64 t.1,i64 t.2])):
 yT aP 150 [IV p,ptr xb 0,ptr eb 0] I ([(Z,yY 136 (UF vb wb kb))]++setH kb l c N) (fun e _ H'=>∃l' c' N',e= .returned (.tuple #[])∧DZ l' c' N' (bump f p t (· -1))∧H'=[(Z,yY 136 (UF vb wb kb))]++setH kb l' c' N'):=by
 refine yT.ob func150 ?_;intro w0 _;refine Cj.sr (bV rfl (BL ?_));intro _ _;refine J.ns (bD [0,1] [] 7 kR ?_);have G:=a2;have O:=a3;refine aU ⟨(aA 0 rfl (aA 1 rfl aF)),aG,(aC _)⟩ (fun A=>?_);refine aB 0 rfl A (yX KQ (bZ G)) ?_;refine aB 1 rfl A zW ?_;refine aB 2 rfl A (qq2 (off':=2) DW DC) ?_;refine aB 3 rfl A (yX isAgg134 (aK 1 rfl)) ?_;refine aB 4 rfl A (zX KY KJ (aK 0 rfl)) ?_;refine aB 5 rfl A (zX EI AY (bZ O)) ?_;refine zT 6 rfl (FV (H1:=setH _ _ _ _) [_,_] rfl rfl rfl rfl rfl rfl (a9B kb l c N f p t h a1 hf _) ?_ (fun _ _ _ _ ⟨_,_,_,h,_⟩=>by cases h) (fun _ _ ⟨_,_,_,h,_⟩=>by cases h));intro _ _ _ a0 a4;obtain⟨l1,c1,N1,h,hN,rfl⟩:=a4;cases h;refine⟨⟨(fJ (aC _) a0),(aA 0 rfl (aA 1 rfl aF)),aG⟩,?_⟩;refine AL ?_;refine aY (aN (Keeps.k dY)) ?_;refine aZ rfl rfl ?_;exact⟨l1,c1,N1,rfl,hN,rfl⟩
structure EA where
  i:Nat
  J:Heap
  Y:HL
theorem b5j v wv gw gk G (YW:Nat→HL→Prop)(Z:HL→Prop)(ah:v.ws.length≤1000000000000) I (a4:JX 9 I v.ws wv) H0 (ac:YW 0 H0)
 (hw:∀k w H J,v.ws[k]?=some w→Le I J→YW k H→yT aP gw (IV (v.name,w)::G) J H (fun e _ H'=>e= .returned (.tuple #[])∧YW (k+1) H'))
 (hk:∀H J,v.key≠[]→Le I J→YW v.ws.length H→yT aP gk (IV (v.name,v.key)::G) J H (fun e _ H'=>e= .returned (.tuple #[])∧Z H'))(hz:v.key=[]→∀H,YW v.ws.length H→Z H):
 yT aP 85 [.agg (vwC (v,wv)).toArray,.func (.func gw) #[] G.toArray,.func (.func gk) #[] G.toArray] I H0 (fun e _ H'=>e= .returned (.tuple #[])∧Z H'):=by
 obtain⟨wp,wc,rfl⟩:=OY a4;refine yT.ob func85 ?_;intro w0 _;refine Cj.sr (bV rfl (BL ?_));intro b1 _;refine J.AO (bQ (aQ (qq2 (off':=2) YT LK) ?_));refine aQ (yX RX (yR.at 0 rfl)) ?_;refine aQ (AU AP) ?_;refine aQ yP ?_;refine J.ns (Cj.block (Cj.loop (ι:=EA) (fun y=>y.i≤v.ws.length∧Le I y.J∧YW y.i y.Y) (fun y=>v.ws.length-y.i) (fun y=>[(1,.func (.func gw) #[] G.toArray),(2,.func (.func gk) #[] G.toArray),(3,ptr b1 0),(9,.slice wp v.ws.length wc),(10,i64 (v.ws.length:Int)),(11,i64 (y.i:Int))]) (fun y=>y.J) (fun y=>(b1,yY 174 [str v.name,str v.key,.slice wp v.ws.length wc])::y.Y) ⟨0,_,H0⟩ ⟨fG _,aC _,ac⟩ rT rfl rfl ?_));rintro⟨i,_,HY⟩ ⟨hi,A,hY⟩;dsimp only at hi A hY ⊢;have O:=a4.mono A;refine Cj.sr (aQ BM ?_);refine J.nss (Cj.cond rfl (fun a5=>?_) (fun a5=>?_))
 ·have a9:=BH a5;have a8:i<v.ws.length:=oM;obtain⟨x,a6⟩:∃x,v.ws[i]?=some x:=⟨_,DX a8⟩;obtain⟨wb,_,_,ad,a7⟩:=O.some (AX a8);cases ad;refine dA (bT (fO (Cj.block (Cj.sr (aQ (BG (off':=i) AP zL) ?_)))));refine aQ (EN BX (yR.TS a7) (JO a6)) ?_;refine aQ yQ ?_;refine J.GL (aQ yP ?_);refine aQ (qq2 (off':=0) YT zL) ?_;refine aQ (yX BX (yR.at 0 rfl)) ?_;refine aQ yP ?_;refine aQ (zV (pl:= #[(0,1),(1,1)]) rfl rfl a5v rfl a0W (fun w=>by simp[zL]) (fD rfl rfl rfl (gJ gK) (fD rfl rfl rfl (zM.s (gJ gK)) GN.none))) ?_;refine bV rfl (FV (H1:=HY) [_] rfl rfl rfl rfl rfl rfl (hw i x _ _ a6 A hY) ?_ (fun _ _ _ _ h=>by cases h.1) (fun _ _ h=>by cases h.1));intro _ _ H5 a1 ae;have A:=A.mono a1;have O:=O.mono a1;have a7:=a1 _ _ a7;obtain⟨h,af⟩:=ae;cases h;refine J.nil (Ej.FN (bT (bQ (aQ (yZ rfl rfl rfl (AA oM)) ?_))));refine aQ yP ?_;refine J.nil (Ej.round ⟨i+1,_,H5⟩ ⟨dO,A,af⟩ dO rT rfl rfl)
 have a9:=BN a5;have ag:i=v.ws.length:=oM;subst ag;refine Cj.exit (Ej.KH (Ej.JK (Ej.LC (bT (Cj.sr (aQ (qq2 (off':=1) YT zL) ?_))))));refine aQ (yX BX (yR.at 0 rfl)) ?_;refine aQ (LH rfl rfl rfl) ?_;refine J.cd (fun a0=>?_) (fun a0=>?_)
 ·have aa:=bne_iff_ne.1 a0;have a2:v.key≠[]:=bne_iff_ne.1 a0;refine bQ (aQ yP ?_);refine aQ (qq2 (off':=0) YT zL) ?_;refine aQ (yX BX (yR.at 0 rfl)) ?_;refine aQ (qq2 (off':=1) YT zL) ?_;refine aQ (yX BX (yR.at 0 rfl)) ?_;refine aQ (zV (pl:= #[(0,1),(1,1)]) rfl rfl a5v rfl a0W (fun w=>by simp[zL]) (fD rfl rfl rfl (gJ gK) (fD rfl rfl rfl (zM.s (gJ gK)) GN.none))) ?_;refine bV rfl (FV (H1:=HY) [_] rfl rfl rfl rfl rfl rfl (hk _ _ a2 A hY) ?_ (fun _ _ _ _ h=>by cases h.1) (fun _ _ h=>by cases h.1));intro _ _ _ a3 ab;have A:=A.mono a3;have O:=O.mono a3;obtain⟨h,hZ⟩:=ab;cases h;refine J.nil (aY (aN dY) ?_);refine aZ rfl rfl ?_;exact⟨rfl,hZ⟩
 have aa:=EC a0;have a2:v.key=[]:=EC a0;refine dA (aY (aN dY) ?_);refine aZ rfl rfl ?_;exact⟨rfl,hz a2 _ hY⟩
end Go.Proofs.YtojdemmgkdokmaaGreatDoor
namespace Go.Proofs.YtojdemmgkdokmaaGreatDoor
open Go Go.Sx
theorem b1F f t xs q:bump (aT f t fun p=>xs.count p) q t (· +1)=aT f t fun p=>(xs++[q]).count p:=by
 funext p u
 unfold bump aT
 by_cases hu:u=t
 ·subst hu
  by_cases hp:p=q
  ·subst hp;simp
  have h1:(p == q)=false:=by simpa using hp
  have h2:List.count p [q]=0:=List.count_eq_zero.2 (by simpa using hp);simp[h1,List.count_append,h2]
 have h1:(u == t)=false:=by simpa using hu
 simp[h1,hu]
theorem b2E f t ys q:bump (aT f t fun p=>(q::ys).count p) q t (· -1)=aT f t fun p=>ys.count p:=by
 funext p u
 unfold bump aT
 by_cases hu:u=t
 ·subst hu
  by_cases hp:p=q
  ·subst hp;simp
  have h1:(p == q)=false:=by simpa using hp
  have h2:(q == p)=false:=by simpa using Ne.symm hp
  simp[h1,List.count_cons,h2]
 have h1:(u == t)=false:=by simpa using hu
 simp[h1,hu]
theorem a2L f t n p:aT f t n p t=n p:=zG rfl
def MO (vs:List Ix.V):Prop:=vs.length≤10000000∧∀v∈vs,v.ws.length≤10000000
theorem b5A:∀(vs:List Ix.V),(∀v∈vs,v.ws.length≤10000000)→(aH vs).length≤vs.length*10000000
 |[],_=>by simp[aH]
 |v::r,h=>by
  have h1:=b5A r fun x A=>h x (.tail _ A);have h2:=h v (.head _);unfold aH at h1 ⊢;rw[bW,aW,bP,cO,Nat.add_mul];omega
theorem b5E:∀(vs:List Ix.V),(aJ vs).length≤vs.length
 |[]=>by simp[aJ]
 |v::r=>by
  have h1:=b5E r;unfold aJ at h1 ⊢;rw[bW,aW,cO]
  by_cases hk:v.key=[]
  ·rw[zG hk,List.length_nil];omega
  rw[zF hk,List.length_singleton];omega
theorem MO.w{vs}(h:MO vs):(aH vs).length≤100000000000000:=IU (b5A vs h.2) (eG _ h.1)
theorem MO.k{vs}(h:MO vs):(aJ vs).length≤10000000:=IU (b5E vs) h.1
theorem b8d{fs}(h:ZB fs):MO (Ix.vals fs):=by
 have h1:=a9v fs h fs.length;rw[dP]at h1;refine⟨IU h1 (IU (eG _ h.1) dE),fun v A=>?_⟩;unfold Ix.vals at A;obtain⟨f,hf,A⟩:=List.mem_flatMap.1 A;obtain⟨_,_,_⟩:=h.2 f hf;have G:v.ws.length≤v.text.length+1:=(Ke.TY v.text).1;unfold Ix.b1f at A;rcases aS.1 A with g|g
 ·obtain⟨s,hs,rfl⟩:=dD.1 g;have:=a3U hs;dsimp only at G;omega
 split at g
 ·rw[eX]at g;subst g;have:=a1H f [];rw[a2g]at this;dsimp only at G;omega
 cases g
structure Ist where
  vb:Nat
  wb:Nat
  kb:Nat
  lv:ML Ix.Rec
  cv:Nat
  lw:ML Ix.Pl
  cw:Nat
  Nw:UO Ix.Pl Ix.Rec
  lk:ML Ix.Pl
  ck:Nat
  Nk:UO Ix.Pl Ix.Rec
def a1o (ib:Nat) (s:Ist):HL:=(s.vb,BD BI s.lv s.cv)::(ib,yY 136 (UF s.vb s.wb s.kb))::(setH s.wb s.lw s.cw s.Nw++setH s.kb s.lk s.ck s.Nk)
def YL (I:Heap) (lv:ML dJ) (L:Ix.Ix):Prop:=∀t,(dI L t=none→BK lv t=none)∧∀vs,dI L t=some vs→∃w,BK lv t=some w∧TU I vs w
theorem YL.mono{I A lv L}(h:YL I lv L)(G:Le I A):YL A lv L:=fun t=>⟨(h t).1,fun vs O=>let ⟨w,h1,h2⟩:=(h t).2 vs O;⟨w,h1,h2.mono G⟩⟩
theorem TU.nil I:TU I [] (.slice none 0 0):=⟨[],SN.nil,rfl,fun _ h=>by cases h⟩
theorem YL.at{I lv L}(h:YL I lv L) t:∃w,(BK lv t).getD (.slice none 0 0)=w∧TU I ((dI L t).getD []) w:=by
 cases hg:dI L t with
 |none=>rw[(h t).1 hg];exact⟨_,rfl,TU.nil I⟩
 |some vs=>
  obtain⟨w,h1,h2⟩:=(h t).2 vs hg;rw[h1];exact⟨w,rfl,h2⟩
structure JE (I:Heap) (s:Ist) (L:Ix.Ix):Prop where
  LD:Ix.MN L
  big:L.length≤100000
  vok:∀e∈L,MO e.2
  vms:MS s.lv s.cv
  vals:YL I s.lv L
  nw:DZ s.lw s.cw s.Nw (Ix.cnt Ix.plW L)
  nk:DZ s.lk s.ck s.Nk (Ix.cnt Ix.plK L)
theorem JE.mono{I A s L}(h:JE I s L)(G:Le I A):JE A s L:=⟨h.LD,h.big,h.vok,h.vms,h.vals.mono G,h.nw,h.nk⟩
theorem b5I pl (h0:pl []=[]) L t:aV pl L=aT (aV pl L) t fun p=>(pl ((dI L t).getD [])).count p:=by
 cases hg:dI L t with
 |none=>
  rw[Option.getD_none,h0];exact Ix.c1m hg
 |some vs=>exact Ix.c1s hg
theorem b2c{L}(hs:Ix.MN L)(h:∀e∈L,MO e.2) t:MO ((dI L t).getD []):=by
 cases hg:dI L t with
 |none=>exact⟨fG _,fun _ h=>by cases h⟩
 |some vs=>exact h _ ((Ix.KZ hs).1 hg)
def YS (ib vb wb kb:Nat) (fw fk:Ix.Pl→dJ→Nat) (Y:HL):Prop:=∃lw cw Nw lk ck Nk,DZ lw cw Nw fw∧DZ lk ck Nk fk∧Y=(ib,yY 136 (UF vb wb kb))::(setH wb lw cw Nw++setH kb lk ck Nk)
theorem YS.word{A vb wb kb fw fk Z g args J H}(hY:YS A vb wb kb fw fk H)
 (h:∀l c N,DZ l c N fw→yT aP g args J ([(A,yY 136 (UF vb wb kb))]++setH wb l c N) (fun e _ H'=>∃l' G O,e= .returned (.tuple #[])∧DZ l' G O Z∧H'=[(A,yY 136 (UF vb wb kb))]++setH wb l' G O)):
 yT aP g args J H (fun e _ H'=>e= .returned (.tuple #[])∧YS A vb wb kb Z fk H'):=by
 obtain⟨lw,cw,Nw,lk,ck,Nk,h1,h2,rfl⟩:=hY;refine((h lw cw Nw h1).frame (setH kb lk ck Nk)).mono fun e _ H' _ ⟨H1,hH,l',G,O,he,hN,a0⟩=>⟨he,l',G,O,lk,ck,Nk,hN,h2,?_⟩;rw[hH,a0];rfl
theorem YS.key{A vb wb kb fw fk Z g args J H}(hY:YS A vb wb kb fw fk H)
 (h:∀l c N,DZ l c N fk→yT aP g args J ([(A,yY 136 (UF vb wb kb))]++setH kb l c N) (fun e _ H'=>∃l' G O,e= .returned (.tuple #[])∧DZ l' G O Z∧H'=[(A,yY 136 (UF vb wb kb))]++setH kb l' G O)):
 yT aP g args J H (fun e _ H'=>e= .returned (.tuple #[])∧YS A vb wb kb fw Z H'):=by
 obtain⟨lw,cw,Nw,lk,ck,Nk,h1,h2,rfl⟩:=hY;have hp:∀X,(((A,yY 136 (UF vb wb kb))::(X++setH wb lw cw Nw):HL)).Perm ((A,yY 136 (UF vb wb kb))::(setH wb lw cw Nw++X)):=fun X=>dH _ dB;refine(gI (hp (setH kb lk ck Nk)) ((h lk ck Nk h2).frame (setH wb lw cw Nw))).leave fun e _ H' _ ⟨H1,hH,l',G,O,he,hN,a0⟩=>⟨_,[],?_,he,lw,cw,Nw,l',G,O,h1,hN,rfl⟩;rw[bF,hH,a0];exact(hp _).symm
theorem a5b{α:Type}{l:List α}{k x}(h:l[k]?=some x):l.drop k=x::l.drop (k+1):=by
 obtain⟨_,hg⟩:=aX.1 h;rw[←hg,List.getElem_cons_drop]
theorem b1m v r:aH (v::r)=v.ws.map (fun w=>(v.name,w))++aH r:=by unfold aH;rw[bW]
theorem a6N v r:aJ (v::r)=(if v.key=[]then[]else[(v.name,v.key)])++aJ r:=by unfold aJ;rw[bW]
theorem a8E xs v:aH (xs++[v])=aH xs++v.ws.map fun w=>(v.name,w):=by unfold aH;rw[eU];simp
theorem b5l xs v:aJ (xs++[v])=aJ xs++if v.key=[]then[]else[(v.name,v.key)]:=by unfold aJ;rw[eU];simp
theorem b1R{vs}(h:MO vs) i:(aH (vs.drop i)).length≤100000000000000:=
 MO.w ⟨by rw[dQ];have:=h.1;omega,fun v A=>h.2 v (eH A)⟩
theorem b1T{vs}(h:MO vs) i:(aJ (vs.drop i)).length≤10000000:=
 MO.k ⟨by rw[dQ];have:=h.1;omega,fun v A=>h.2 v (eH A)⟩
theorem b1Y{vs}(h:MO vs) i:(aH (vs.take i)).length≤100000000000000:=
 MO.w ⟨by rw[dR];have:=h.1;omega,fun v A=>h.2 v (eP A)⟩
theorem b1U{vs}(h:MO vs) i:(aJ (vs.take i)).length≤10000000:=
 MO.k ⟨by rw[dR];have:=h.1;omega,fun v A=>h.2 v (eP A)⟩
def YD (ib vb wb kb:Nat) (L:Ix.Ix) (t:dJ) (vs:List Ix.V) (i:Nat):HL→Prop:=YS ib vb wb kb (aT (aV aH L) t fun p=>(aH (vs.drop i)).count p) (aT (aV aJ L) t fun p=>(aJ (vs.drop i)).count p)
theorem b8r O Z A vb wb kb L t vs (hv:MO vs) i v wv (a0:vs[i]?=some v) I (a6:JX 9 I v.ws wv)(a1:I O=some (yY 73 [ptr A 0]))(a2:I Z=some (yY 38 [i64 t.1,i64 t.2])) Y (hY:YD A vb wb kb L t vs i Y):
 yT aP 85 [.agg (vwC (v,wv)).toArray,.func (.func 148) #[] [ptr O 0,ptr Z 0].toArray,.func (.func 150) #[] [ptr O 0,ptr Z 0].toArray] I Y (fun e _ H'=>e= .returned (.tuple #[])∧YD A vb wb kb L t vs (i+1) H'):=by
 have hd:=a5b a0;have a8:=hv.2 v (FB a0);have a9:=b1R hv i;have a3:=b1T hv i;refine b5j v wv _ _ [ptr O 0,ptr Z 0] (fun k=>YS A vb wb kb (aT (aV aH L) t fun p=>((v.ws.drop k).map (fun w=>(v.name,w))++aH (vs.drop (i+1))).count p) (aT (aV aJ L) t fun p=>(aJ (vs.drop i)).count p)) (YD A vb wb kb L t vs (i+1)) oM I a6 Y ?_ ?_ ?_ ?_
 ·unfold YD at hY;rw[hd,b1m]at hY;rw[hd];exact hY
 ·intro k w H J hk G h;refine h.word fun l c N hN=>?_;have a4:(v.ws.drop k).map (fun w=>(v.name,w))++aH (vs.drop (i+1))=(v.name,w)::((v.ws.drop (k+1)).map (fun w=>(v.name,w))++aH (vs.drop (i+1))):=by rw[a5b hk];rfl
  rw[a4]at hN;have hb:=b2E (aV aH L) t ((v.ws.drop (k+1)).map (fun w=>(v.name,w))++aH (vs.drop (i+1))) (v.name,w);rw[←hb];refine c2M O Z A vb wb kb l c N _ (v.name,w) t hN ?_ ?_ J (G _ _ a1) (G _ _ a2)
  ·rw[a2L];exact dZ.2 (.head _)
  rw[a2L];refine IU bK ?_;have h9:((v.name,w)::((v.ws.drop (k+1)).map (fun w=>(v.name,w))++aH (vs.drop (i+1)))).length≤(aH (vs.drop i)).length:=by
   rw[hd,b1m,←a4,aW,aW,bP,bP,dQ];omega
  omega
 ·intro H J a5 G h;have a7:YS A vb wb kb (aT (aV aH L) t fun p=>(aH (vs.drop (i+1))).count p) (aT (aV aJ L) t fun p=>((v.name,v.key)::aJ (vs.drop (i+1))).count p) H:=by
   rw[fK,fE,dU,hd,a6N,zF a5]at h;exact h
  unfold YD;refine a7.key fun l c N hN=>?_;rw[←b2E (aV aJ L) t (aJ (vs.drop (i+1))) (v.name,v.key)];refine c1X O Z A vb wb kb l c N _ (v.name,v.key) t hN ?_ ?_ J (G _ _ a1) (G _ _ a2)
  ·rw[a2L];exact dZ.2 (.head _)
  rw[a2L];refine IU bK ?_;rw[hd,a6N,zF a5]at a3;have:((v.name,v.key)::aJ (vs.drop (i+1))).length≤10000000:=a3;omega
 intro he H h;rw[fK,fE,dU,hd,a6N,zG he,dU]at h;exact h
def YP (ib vb wb kb:Nat) (L:Ix.Ix) (t:dJ) (vs:List Ix.V) (i:Nat):HL→Prop:=YS ib vb wb kb (aT (aV aH L) t fun p=>(aH (vs.take i)).count p) (aT (aV aJ L) t fun p=>(aJ (vs.take i)).count p)
theorem take_one{α:Type}{l:List α}{k x}(h:l[k]?=some x):l.take (k+1)=l.take k++[x]:=by
 obtain⟨A,hg⟩:=aX.1 h;rw[List.take_succ_eq_append_getElem A,hg]
theorem b2T O Z A vb wb kb ek el ev L t vs (hv:MO vs) i v wv (a0:vs[i]?=some v) I (a3:JX 9 I v.ws wv)(a1:I O=some (yY 73 [ptr A 0]))(a2:I Z=some (yY 57 [i64 t.1,i64 t.2,u8 ek,u8 el,ev])) Y (hY:YP A vb wb kb L t vs i Y):
 yT aP 85 [.agg (vwC (v,wv)).toArray,.func (.func 86) #[] [ptr O 0,ptr Z 0].toArray,.func (.func 88) #[] [ptr O 0,ptr Z 0].toArray] I Y (fun e _ H'=>e= .returned (.tuple #[])∧YP A vb wb kb L t vs (i+1) H'):=by
 have hd:=take_one a0;have a8:=hv.2 v (FB a0);have a9:=b1Y hv (i+1);have a4:=b1U hv (i+1);refine b5j v wv _ _ [ptr O 0,ptr Z 0] (fun k=>YS A vb wb kb (aT (aV aH L) t fun p=>(aH (vs.take i)++(v.ws.take k).map (fun w=>(v.name,w))).count p) (aT (aV aJ L) t fun p=>(aJ (vs.take i)).count p)) (YP A vb wb kb L t vs (i+1)) oM I a3 Y ?_ ?_ ?_ ?_
 ·unfold YP at hY;rw[List.take_zero,fE,bF];exact hY
 ·intro k w H J hk G h;refine h.word fun l c N hN=>?_;have a5:aH (vs.take i)++(v.ws.take (k+1)).map (fun w=>(v.name,w))=(aH (vs.take i)++(v.ws.take k).map (fun w=>(v.name,w)))++[(v.name,w)]:=by rw[take_one hk,aO,List.append_assoc];rfl
  rw[a5,←b1F (aV aH L) t (aH (vs.take i)++(v.ws.take k).map (fun w=>(v.name,w))) (v.name,w)];refine c4N O Z A vb wb kb ek el ev l c N _ (v.name,w) t hN ?_ J (G _ _ a1) (G _ _ a2);rw[a2L];refine IU bK ?_;have h9:(aH (vs.take i)++(v.ws.take k).map (fun w=>(v.name,w))).length≤(aH (vs.take (i+1))).length:=by
   rw[hd,a8E,aW,aW,bP,bP,dR];omega
  omega
 ·intro H J a6 G h;have a7:YS A vb wb kb (aT (aV aH L) t fun p=>(aH (vs.take (i+1))).count p) (aT (aV aJ L) t fun p=>(aJ (vs.take i)).count p) H:=by
   rw[dP,←a8E,←hd]at h;exact h
  unfold YP;refine a7.key fun l c N hN=>?_;have e1:aJ (vs.take (i+1))=aJ (vs.take i)++[(v.name,v.key)]:=by rw[hd,b5l,zF a6]
  rw[e1,←b1F (aV aJ L) t (aJ (vs.take i)) (v.name,v.key)];refine c5B O Z A vb wb kb ek el ev l c N _ (v.name,v.key) t hN ?_ J (G _ _ a1) (G _ _ a2);rw[a2L];refine IU bK ?_;rw[e1,aW]at a4;omega
 intro he H h;unfold YP;rw[dP,←a8E,←hd]at h;have e1:aJ (vs.take (i+1))=aJ (vs.take i):=by rw[hd,b5l,zG he,bF]
 rw[e1];exact h
structure DA where
  i:Nat
  J:Heap
  Y:HL
theorem a2S t v:∀L:Ix.Ix,(fU t v L).length≤L.length+1
 |[]=>by simp[fU]
 |(u,x)::r=>by
  unfold fU
  split
  ·have:=a2S t v r;rw[cO,cO];omega
  split
  ·simp
  simp
theorem JE.drop{I I' vb wb kb lv cv lw cw Nw lk ck Nk L}(h:JE I ⟨vb,wb,kb,lv,cv,lw,cw,Nw,lk,ck,Nk⟩ L)(a4:Le I I') t {O Z a0 a1 a2 a3}
 (hw:DZ O Z a0 (aT (aV aH L) t fun p=>(aH []).count p))(hk:DZ a1 a2 a3 (aT (aV aJ L) t fun p=>(aJ []).count p)):JE I' ⟨vb,wb,kb,JY lv t,cv,O,Z,a0,a1,a2,a3⟩ (Ix.a2f t L):=by
 refine⟨Ix.a1I t h.LD,IU (List.length_filter_le _ _) h.big,fun e he=>h.vok e ((Ix.a0w t L e).1 he).1,h.vms.del t,fun u=>⟨fun A=>?_,fun vs A=>?_⟩,?_,?_⟩
 ·show BK (JY lv t) u=none;rw[a4F h.vms.1]
  split
  ·rfl
  rename_i G
  rw[Ix.a2V h.LD,zF (by simpa using G)]at A;exact(h.vals u).1 A
 ·rw[Ix.a2V h.LD]at A
  split at A
  ·cases A
  rename_i G
  obtain⟨w,h1,h2⟩:=(h.vals u).2 vs A;refine⟨w,?_,h2.mono a4⟩;show BK (JY lv t) u=some w;rw[a4F h.vms.1,zF (by simpa using G)];exact h1
 ·rw[Ix.a5e h.LD];exact hw
 rw[Ix.a5e h.LD];exact hk
theorem JE.put{I vb wb kb lv cv lw cw Nw lk ck Nk L}(h:JE I ⟨vb,wb,kb,lv,cv,lw,cw,Nw,lk,ck,Nk⟩ L){t}(hL:L.length<100000){vs}(hv:MO vs){w}(a4:TU I vs w){O Z a0 a1 a2 a3}
 (hw:DZ O Z a0 (aT (aV aH L) t fun p=>(aH vs).count p))(hk:DZ a1 a2 a3 (aT (aV aJ L) t fun p=>(aJ vs).count p)):JE I ⟨vb,wb,kb,BU lv t w cv,FI lv t cv,O,Z,a0,a1,a2,a3⟩ (fU t vs L):=by
 refine⟨Ix.a0c t vs h.LD,?_,fun e he=>?_,h.vms.set t w,fun u=>⟨fun A=>?_,fun us A=>?_⟩,?_,?_⟩
 ·have:=a2S t vs L;omega
 ·rcases(Ix.UQ t vs h.LD e).1 he with g|g
  ·rw[g];exact hv
  exact h.vok e g.1
 ·show BK (BU lv t w cv) u=none;rw[Ix.a5c h.LD]at A;rw[NT]
  split at A
  ·cases A
  rename_i G
  rw[zF (by simpa using G)];exact(h.vals u).1 A
 ·show ∃w',BK (BU lv t w cv) u=some w'∧_;rw[Ix.a5c h.LD]at A;rw[NT]
  split at A
  ·rename_i he
   cases A;exact⟨w,by rw[zG (by simpa using he)],a4⟩
  rename_i G
  rw[zF (by simpa using G)];exact(h.vals u).2 us A
 ·rw[Ix.b1j h.LD];exact hw
 rw[Ix.b1j h.LD];exact hk
theorem c4w I vb wb kb:JE I ⟨vb,wb,kb,[],0,[],0,[],[],0,[]⟩ []:=
 ⟨List.Pairwise.nil,fG _,fun _ h=>(by cases h),MS.nil,fun _=>⟨fun _=>rfl,fun _ h=>by cases h⟩,DZ.nil,DZ.nil⟩
