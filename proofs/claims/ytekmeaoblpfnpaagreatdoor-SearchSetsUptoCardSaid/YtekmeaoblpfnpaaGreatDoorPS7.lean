/-
  Own texts on the laws of the seat, joined: the logic, and contracts of functions. Conditions: none.
-/
import Derived.Test.YtekmeaoblpfnpaaGreatDoorNmS
import Derived.Test.YtekmeaoblpfnpaaGreatDoorPS6
import Derived.Deep.Draws
set_option linter.all false
set_option maxRecDepth 100000
set_option maxHeartbeats 40000000
open Go.Proofs.Tryz renaming prog -> aA
open Ix renaming plW -> aB,KY -> aC,way -> aK,cnt -> aP,qN -> bI,a9N -> cZ,Rec -> dG,vals -> dK,sU -> dZ,yV -> eY,Pl -> gB
open Go.Sx.JA renaming tk -> aF,ev -> bD,zt -> bU,fix -> cO,done -> fO
open Go.Sx.lF renaming s -> aG,z -> aT
open Go.Sx.Keeps renaming d -> aH,n -> bM,r -> dB
open Go.Sx.jV renaming atC -> aI,BN -> bV
open Go.Sx.Cj renaming qJ -> aJ,skip -> dX,persist -> fA,region -> fG,ret -> fM,seq -> gJ
open Go.Sx.HSub renaming c -> aN,n -> bG
open Go.Sx.J renaming z -> aO,op -> bJ
open Go.Sx.Ej renaming keep -> aQ,DT -> aS,seq -> dH,JD -> eG,a0P -> fQ,pull -> fV,round -> gK
open List renaming length_append -> aU,getElem?_eq_some_iff -> aV,append_nil -> aZ,length_eq_zero_iff -> bF,count_le_length -> bK,length_map -> bP,getElem?_map -> bQ,flatMap_cons -> bT,length_cons -> bW,take_length -> bY,perm_append_comm -> bZ,getElem?_set -> dJ,not_mem_nil -> dL,length_drop -> dM,length_take -> dN,drop_length -> dP,nil_append -> dR,getElem?_toArray -> dV,one_le_count_iff -> dY,length_filter_le -> eF,mem_of_getElem? -> eH,mem_of_mem_drop -> eU,mem_of_mem_take -> eX,mem_cons -> fB,flatMap_append -> fC,map_nil -> fJ
open Go.Sx.Le renaming trans -> aW,refl -> aX
open Go.Sx.World renaming block -> aY
open Go.Lib renaming compareInt -> bC
open Go.Sx.CSub renaming n -> bH
open List.Perm renaming cons -> dA
open Nat renaming zero_le -> dD,mul_le_mul_right -> eP
open Array renaming ext_getElem? -> dF,getElem?_modify -> dU
open Go.Result renaming andThen_ok -> dI
open Option renaming map_some -> dQ,map -> gQ
open Go.Instr renaming mapEntry -> dS,keyThatStays -> fF,entryStore -> fP,findKey -> fZ
open Go.Sx.Pull renaming z -> dW,s -> gG
open Bool renaming false_eq_true -> fD
open Go.Sem renaming run_bind -> fE,run -> fU
open Go.Sx.pU renaming part -> fH
open Go.Sort renaming grow -> fK
open Go.Sx.jO renaming perm -> gI
namespace Go.Sx
open Go
section
variable {α:Type} [BEq α] [LawfulBEq α]
def xK (l:ML α) (a:α) (c:Nat):Nat:=match l with
 |[]=>c
 |(b,_,n)::r=>if a == b then n else xK r a c
omit [LawfulBEq α] in
theorem XY{l}{a:α}{c:Nat}(h:kE l a=none):xK l a c=c:=by
 induction l with
 |nil=>rfl
 |cons p r G=>
  obtain⟨b,u,n⟩:=p;unfold kE at h;unfold xK
  split at h
  ·cases h
  rename_i A
  rw[zD A];exact G h
theorem XF{a v}:∀(l:ML α) (c i:Nat),kE l a=some v→∃j,midx l a i=some (i+j,v)∧l[j]?=some (a,v,xK l a c)∧∀x A,kJ l a x A=l.set j (a,x,xK l a c)
 |[],_,_,h=>by cases h
 |(b,u,n)::r,c,i,h=>by
  unfold kE at h
  split at h
  ·rename_i O
   have M:=zB O;subst M;cases h;exact⟨0,by simp[midx],by simp[xK],fun x A=>by simp[kJ,xK]⟩
  rename_i N
  have G:(a == b)=false:=by simpa using N
  obtain⟨j,h1,h2,h3⟩:=XF r c (i+1) h;refine⟨j+1,?_,?_,fun x A=>by simp[kJ,xK,G,h3]⟩
  ·simp only[midx,G,fD,if_false];rw[h1,Nat.add_assoc,Nat.add_comm 1 j]
  simp only[List.getElem?_cons_succ,xK,G,fD,if_false];exact h2
variable {cx:Cx} {Q:Qt} {e:Env} {I:Heap} {H:HL} {o:Oper} {C:Ct} {S:World→Prop}
theorem a4O{P:Program}{T K E b c:Nat}{kv:α→Value}{l:ML α}{a:α}{z:Value}{w:World}(Q:P.underlying T=some (.map K E))(hk:mV P K kv)(hz:∀w,(zeroValue E).run P w= .ok z w)(S:w.heap[b]?=some (kD kv l c)):
 (dS T (.map (some b)) (kv a)).run P w= .ok (.tuple #[(kE l a).getD z,i64 (xK l a c:Int)]) (aY w b (kD kv (kJ l a ((kE l a).getD z) c) (mM l a c))):=by
 obtain⟨W,Z,G⟩:=hk;have hg:(getObj b).run P w= .ok (kD kv l c) w:=by simp[getObj,fU,S,kD]
 have hset:∀o',(setObj b o').run P w= .ok () (aY w b o'):=fun o'=>by simp[setObj,fU,S,aY,kD]
 cases hm:kE l a with
 |none=>
  obtain⟨h1,h2⟩:=AU l 0 hm;have h3:(fZ K (kv a) (l.map (pI kv))).run P w= .ok none w:=by rw[W,h1]
  simp only[dS,fE,run_underlying Q,dI,hg,kD,Z,h3,hz,hset,h2,mM,hm,XY hm];simp[goInt]
 |some u=>
  obtain⟨j,h1,h2,h3⟩:=XF l c 0 hm;rw[Nat.zero_add]at h1;have h4:(fZ K (kv a) (l.map (pI kv))).run P w= .ok (some (j,u)) w:=by rw[W,h1]
  have hj:(l.map (pI kv)).toArray[j]?=some { key:=kv a,val:=u,born:=xK l a c }:=by simp[h2,pI]
  have M:∀w,(fF (kv a) (kv a)).run P w= .ok (kv a) w:=fun w=>by simp[fF,G]
  simp only[dS,fE,run_underlying Q,dI,hg,kD,Z,h4,hj,dQ,Option.getD_some,M,hset,h3,mM,hm,Option.isSome_some,if_true,goInt,Sem.run_pure];refine zC (fun A=>Result.ok (Value.tuple #[u,Value.int .i64 (xK l a c:Int)]) (aY w b (Obj.map A c))) ?_
  apply dF
  intro i;rw[dU];simp only[dV,bQ,dJ]
  by_cases hi:j=i
  ·subst hi;have N:j<l.length:=by
    rcases Nat.lt_or_ge j l.length with O|O
    ·exact O
    simp[List.getElem?_eq_none O]at h2
   have h5:l[j]=(a,u,xK l a c):=by
    have:=List.getElem?_eq_getElem N;rw[h2]at this;exact(Option.some.inj this).symm
   simp[N,h5]
  simp[hi]
theorem vP{T K E b c d:Nat}{m x}{kv:α→Value}{l a}{G z:Value}{H'}(i:Nat)(Z:o.op= .mapEntry T m x)(hd:o.dst=some d)(hn:Nat.blt d cx.n=true)(hm:ev e m=some (.map (some b)))(hx:ev e x=some G)(M:G=kv a)(hT:cx.P.underlying T=some (.map K E))(hK:mV cx.P K kv)(hz:∀w,(zeroValue E).run cx.P w= .ok z w)
 (N:H[i]?=some (b,kD kv l c))(O:lF H i (b,kD kv (kJ l a ((kE l a).getD z) c) (mM l a c)) H')(kk:C ((d,.tuple #[(kE l a).getD z,i64 (xK l a c:Int)])::e) I H'):lX cx Q o e I H C:=by
 intro _ S w0 w A W;unfold Oper.wp;subst M;have hb:=W.own _ (eH N);have hr:=a4O (a:=a) hT hK hz hb;have:(execOp w0.eval o).run cx.P w= .ok (.value (.tuple #[(kE l a).getD z,i64 (xK l a c:Int)])) (aY w b (kD kv (kJ l a ((kE l a).getD z) c) (mM l a c))):=by
  simp[execOp,Z,A.eval hm,A.eval hx,hr]
 rw[this];simp only[Oper.upon,hd];exact S _ _ _ kk _ _ (A.put hn) (W.block N O)
theorem b4H{l:ML α}{a:α}{x v:Value}{c:Nat}(h:MS l c):∃j,(kJ l a x c)[j]?=some (a,x,xK l a c)∧kJ l a v c=(kJ l a x c).set j (a,v,xK l a c):=by
 cases hm:kE l a with
 |none=>
  obtain⟨_,h2⟩:=AU l 0 hm;refine⟨l.length,?_,?_⟩
  ·rw[h2,XY hm];simp
  rw[h2,h2,XY hm];simp
 |some u=>
  obtain⟨j,_,h2,h3⟩:=XF l c 0 hm;refine⟨j,?_,?_⟩
  ·rw[h3,dJ,zF rfl,zF (aV.1 h2).1]
  rw[h3,h3,List.set_set]
theorem a1d{P:Program}{T b c:Nat}{kv:α→Value}{l:ML α}{a:α}{x v:Value}{w:World}(h:MS l c)(O:w.heap[b]?=some (kD kv (kJ l a x c) (mM l a c))):
 (fP T (.map (some b)) (i64 (xK l a c:Int)) v).run P w= .ok () (aY w b (kD kv (kJ l a v c) (mM l a c))):=by
 have Q:(getObj b).run P w= .ok (kD kv (kJ l a x c) (mM l a c)) w:=by simp[getObj,fU,O,kD]
 have hset:∀o',(setObj b o').run P w= .ok () (aY w b o'):=fun o'=>by simp[setObj,fU,O,aY,kD]
 obtain⟨j,h1,h2⟩:=b4H (x:=x) (v:=v) (a:=a) h;have M:=h.set a x;generalize kJ l a x c=L at h1 h2 M Q;have N:j<L.length:=(aV.1 h1).1;have G:L[j]=(a,x,xK l a c):=(aV.1 h1).2;have Z:(L.map (pI kv)).toArray.findIdx? (fun e=>(e.born:Int) == (xK l a c:Int))=some j:=by
  rw[List.findIdx?_toArray,List.findIdx?_eq_some_iff_getElem];refine⟨by simpa using N,by simp[G],fun k hk=>?_⟩;simp only[List.getElem_map,Bool.not_eq_true,beq_eq_false_iff_ne,ne_eq];intro he;have S:k<L.length:=oM;have h3:=M.2.1;rw[List.nodup_iff_pairwise_ne,List.pairwise_map,List.pairwise_iff_getElem]at h3;refine h3 k j S N hk ?_;rw[G];exact Int.ofNat_inj.1 he
 have W:∀w,(asInt (i64 (xK l a c:Int))).run P w= .ok (xK l a c:Int) w:=fun w=>by simp[asInt,asIntOf]
 simp only[fP,fE,Q,kD,dI,W,Z,hset];refine zC (fun A=>Result.ok () (aY w b (Obj.map A (mM l a c)))) ?_;rw[h2]
 apply dF
 intro i;rw[dU];simp only[dV,bQ,dJ]
 by_cases hi:j=i
 ·subst hi;simp[N,G]
 simp[hi]
theorem rW{T b c:Nat}{m x y:Operand}{kv:α→Value}{l:ML α}{a:α}{u v:Value}{n:Int}{H':HL}(i:Nat)(Z:o.op= .entryStore T m x y)(hd:o.dst=none)(hm:ev e m=some (.map (some b)))(hx:ev e x=some (i64 n))(G:n=(xK l a c:Int))(hy:ev e y=some v)(M:MS l c)
 (N:H[i]?=some (b,kD kv (kJ l a u c) (mM l a c)))(O:lF H i (b,kD kv (kJ l a v c) (mM l a c)) H')(kk:C e I H'):lX cx Q o e I H C:=by
 intro _ S w0 w A W;unfold Oper.wp;subst G;have hb:=W.own _ (eH N);have hr:=a1d (P:=cx.P) (T:=T) (v:=v) M hb;have:(execOp w0.eval o).run cx.P w= .ok .skip (aY w b (kD kv (kJ l a v c) (mM l a c))):=by
  simp[execOp,Z,A.eval hm,A.eval hx,A.eval hy,hr]
 rw[this];simp only[Oper.upon,hd];exact S _ _ _ kk _ _ A.DC (W.block N O)
end
end Go.Sx
section
namespace Go.Proofs.YtekmeaoblpfnpaaGreatDoor
open _root_.Go.Proofs.Tryz
open Go Go.Sx
abbrev jZ (t:dG):Value:= .agg #[i64 t.1,i64 t.2]
abbrev nH (p:gB):Value:= .agg #[str p.1,str p.2]
theorem nC:mV aA 54 jZ:=mV.a9p a1v kR dE dE rfl rfl rfl rfl WR IY
theorem uO:mV aA 152 nH:=mV.b7n UL kR dE dE rfl rfl rfl rfl lJ lN
def setH (b:Nat) (l:ML gB) (c:Nat) (N:vY gB dG):HL:=(b,kD nH l c)::BI jZ N
theorem IL b l c A B p G m k:([(b,kD nH l c),(G,kD jZ m k)]++BI jZ (A++B)).Perm (setH b l c (A++(p,G,m,k)::B)):=
 dA _ (a9G jZ A B p G m k)
theorem MB{α:Type}[BEq α][LawfulBEq α](l:ML α)(a:α)(v:Value)(c:Nat):kJ l a v c≠[]:=fun h=>by
 have:=(b3V (l:=l) (a:=a) (x:=a) (v:=v) (c:=c)).2 (.inr rfl);rw[h]at this;cases this
theorem xH{α:Type}[BEq α][LawfulBEq α]{l:ML α}{a:α}{v z:Value}{c:Nat}:(kE (kJ l a v c) a).getD z=v:=by
 rw[sH];simp
theorem b0k{n}(h:n≠0):cv n=some (i64 (n:Int)):=zD h
theorem b5r b l c p t (N:kE l p=none) I:jO aA 97 [.map (some b),nH p,jZ t] I [(b,kD nH l c)]
 (fun e _ H'=>∃A,e= .returned (.tuple #[])∧H'=[(b,kD nH (kJ l p (.map (some A)) c) (mM l p c)),(A,kD jZ (kJ [] t (i64 1) 0) (mM ([]:ML dG) t 0))]):=by
 refine jT func97 fun w0 _=>?_;refine jL 3 ?_;intro _ _;refine jL 1 ?_;intro _ _;refine jL 7 ?_;refine aO (kM (kv:=nH) (l:=l) (a:=p) rfl rfl rfl rfl qA uO tH (jV.at 2 rfl)) ?_;refine J.ev 8 (.map none) rfl (by rw[N];rfl) ?_;refine jL 7 ?_;refine bJ rfl (kN rfl rfl rfl ?_);intro G _;refine bJ rfl (nI (kv:=nH) (a:=p) 3 (.inr rfl) rfl rfl rfl rfl rfl qA uO rfl (aG (aG (aG aT))) ?_);refine jL 2 ?_;refine aJ [1,2,3] [] 9 kR ?_;refine jL 2 ?_;refine bU 2 rfl (kM (kv:=nH) (l:=(kJ l p (.map (some G)) c)) (a:=p) rfl rfl rfl rfl qA uO tH (aI 2 rfl)) ?_;refine bD 15 (.map (some G)) rfl xH ?_;refine jL 1 ?_;refine JA.all [4,6] kR sI ?_;intro i M;simp only[fB,dL,or_false]at M;rcases M with rfl|rfl
 ·refine⟨_,rfl,rfl,?_⟩;refine kT (kM (kv:=jZ) (l:=[]) (a:=t) rfl rfl rfl rfl oO nC JQ (jV.at 0 rfl)) rfl rfl ?_;refine jL 1 ?_;refine bD 17 (i64 0) rfl rfl ?_;refine cO lG (fun _=>?_);refine bU 5 rfl (AZ rfl rfl rfl (tV dE)) ?_;refine q0 6 rfl (vP (kv:=jZ) (l:=[]) (c:=0) (a:=t) 0 rfl rfl rfl rfl rfl rfl oO nC JQ rfl aT ?_);refine jL 2 ?_;refine q0 8 rfl (rW (kv:=jZ) (l:=[]) (a:=t) (c:=0) 0 rfl rfl rfl rfl rfl rfl MS.nil rfl aT ?_);refine jL 2 ?_;refine aQ (Keeps.k (aH (aH (Keeps.k bM)))) ?_;refine fV dW ?_;refine fV (gG dW) ?_;refine aS rfl rfl ?_;exact⟨_,rfl,rfl⟩
 refine⟨_,rfl,rfl,?_⟩;refine vP (kv:=jZ) (l:=[]) (c:=0) (a:=t) 0 rfl rfl rfl rfl rfl rfl oO nC JQ rfl aT ?_;refine jL 2 ?_;refine q0 4 rfl (kT (kM (kv:=jZ) (l:=(kJ [] t ((kE [] t).getD (.int .i64 0)) 0)) (a:=t) rfl rfl rfl rfl oO nC JQ (jV.at 0 rfl)) rfl rfl ?_);refine jL 1 ?_;refine bD 17 (i64 0) rfl xH ?_;refine cO lG (fun _=>?_);refine bU 5 rfl (AZ rfl rfl rfl (tV dE)) ?_;refine q0 8 rfl (rW (kv:=jZ) (l:=[]) (a:=t) (c:=0) 0 rfl rfl rfl rfl rfl rfl MS.nil rfl aT ?_);refine jL 2 ?_;refine aQ (Keeps.k (aH (aH (Keeps.k bM)))) ?_;refine fV dW ?_;refine fV (gG dW) ?_;refine aS rfl rfl ?_;exact⟨_,rfl,rfl⟩
theorem b6D b l c p t A m (k n:Nat)(M:kE l p=some (.map (some A)))(G:MS m k)(N:(kE m t).getD (i64 0)=i64 (n:Int))(Q:n≤1000000000000000) I:jO aA 97 [.map (some b),nH p,jZ t] I [(b,kD nH l c),(A,kD jZ m k)]
 (fun e _ H'=>e= .returned (.tuple #[])∧H'=[(b,kD nH l c),(A,kD jZ (kJ m t (i64 ((n+1:Nat):Int)) k) (mM m t k))]):=by
 refine jT func97 fun w0 _=>?_;refine jL 3 ?_;intro _ _;refine jL 1 ?_;intro _ _;refine jL 7 ?_;refine aO (kM (kv:=nH) (l:=l) (a:=p) rfl rfl rfl rfl qA uO tH (jV.at 2 rfl)) ?_;refine J.ev 8 (.map (some A)) rfl (by rw[M];rfl) ?_;refine jL 6 ?_;refine aJ [0,1,2] [] 9 kR ?_;refine jL 2 ?_;refine bU 2 rfl (kM (kv:=nH) (l:=l) (a:=p) rfl rfl rfl rfl qA uO tH (aI 2 rfl)) ?_;refine bD 15 (.map (some A)) rfl (by rw[M];rfl) ?_;refine jL 1 ?_;refine JA.all [4,6] kR sI ?_;intro i O;simp only[fB,dL,or_false]at O;rcases O with rfl|rfl
 ·refine⟨_,rfl,rfl,?_⟩;refine kT (kM (kv:=jZ) (l:=m) (a:=t) rfl rfl rfl rfl oO nC JQ (jV.at 3 rfl)) rfl rfl ?_;refine jL 1 ?_;refine bD 17 (i64 (n:Int)) rfl N ?_;refine jL 1 ?_;refine q0 6 rfl (vP (kv:=jZ) (l:=m) (c:=k) (a:=t) 3 rfl rfl rfl rfl rfl rfl oO nC JQ rfl (aG (aG (aG aT))) ?_);refine jL 2 ?_;refine q0 8 rfl (rW (kv:=jZ) (l:=m) (a:=t) (c:=k) 3 rfl rfl rfl rfl rfl rfl G rfl (aG (aG (aG aT))) ?_);refine jL 2 ?_;refine aQ (aH (aH (Keeps.k (Keeps.k bM)))) ?_;refine aS rfl rfl ?_;exact rT
 refine⟨_,rfl,rfl,?_⟩;refine vP (kv:=jZ) (l:=m) (c:=k) (a:=t) 3 rfl rfl rfl rfl rfl rfl oO nC JQ rfl (aG (aG (aG aT))) ?_;refine jL 2 ?_;refine q0 4 rfl (kT (kM (kv:=jZ) (l:=(kJ m t ((kE m t).getD (.int .i64 0)) k)) (a:=t) rfl rfl rfl rfl oO nC JQ (jV.at 3 rfl)) rfl rfl ?_);refine jL 1 ?_;refine bD 17 (i64 (n:Int)) rfl (xH.trans N) ?_;refine jL 1 ?_;refine q0 8 rfl (rW (kv:=jZ) (l:=m) (a:=t) (c:=k) 3 rfl rfl rfl rfl rfl rfl G rfl (aG (aG (aG aT))) ?_);refine jL 2 ?_;refine aQ (aH (aH (Keeps.k (Keeps.k bM)))) ?_;refine aS rfl rfl ?_;exact rT
theorem b0V b l c N f p t (h:lC l c N f)(hf:f p t≤1000000000000000) I:
 jO aA 97 [.map (some b),nH p,jZ t] I (setH b l c N) (fun e _ H'=>∃l' c' N',e= .returned (.tuple #[])∧lC l' c' N' (bump f p t (· +1))∧H'=setH b l' c' N'):=by
 rcases h.find p with⟨a0,M,hz⟩|⟨A,G,m,k,B,rfl,M,Q,a1,S,hA,hB⟩
 ·have h1:=(b5r b l c p t M I).frame (BI jZ N);refine h1.leave fun e I' H' _ ⟨H1,W,G,Z,O⟩=>⟨_,[],?_,kJ l p (.map (some G)) c,mM l p c,N++[(p,G,kJ [] t (i64 1) 0,mM ([]:ML dG) t 0)],Z,h.add a0 (MS.nil.set t _) (MB _ _ _ _) (fun s=>?_),rfl⟩
  ·rw[aZ,W,O];unfold setH;rw[SQ];exact dA _ bZ
  rw[sH]
  by_cases hs:(s == t)=true
  ·rw[zF hs,zF hs];rfl
  rw[zD hs,zD hs];rfl
 have hn:=a9U S t;have h1:=(gI (IL b l c A B p G m k) ((b6D b l c p t G m k (f p t) M Q hn hf I).frame (BI jZ (A++B))));refine h1.leave fun e I' H' _ ⟨H1,W,Z,O⟩=>⟨_,[],?_,l,c,A++(p,G,kJ m t (i64 ((f p t+1:Nat):Int)) k,mM m t k)::B,Z,h.set (d:=(· +1)) (Q.set t _) (MB _ _ _ _) (fun s=>?_),rfl⟩
 ·rw[aZ,W,O];exact(IL b l c A B p G _ _).symm
 exact b1p S t (f p t+1) (Nat.succ_ne_zero _) k s
theorem a9z b l c p t A m (k n:Nat)(G:kE l p=some (.map (some A)))(a3:MS m k)(hn:(kE m t).getD (i64 0)=i64 (n:Int))(a8:1≤n)(a9:n≤1000000000000000) I:jO aA 90 [.map (some b),nH p,jZ t] I [(b,kD nH l c),(A,kD jZ m k)]
 (fun e _ H'=>(n≠1∧e= .returned (.tuple #[])∧H'=[(b,kD nH l c),(A,kD jZ (kJ m t (i64 ((n-1:Nat):Int)) k) (mM m t k))])∨(n=1∧(nU (kJ m t (i64 ((n-1:Nat):Int)) k) t)≠[]∧e= .returned (.tuple #[])∧H'=[(b,kD nH l c),(A,kD jZ (nU (kJ m t (i64 ((n-1:Nat):Int)) k) t) (mM m t k))])∨(n=1∧(nU (kJ m t (i64 ((n-1:Nat):Int)) k) t)=[]∧e= .returned (.tuple #[])∧H'=[(b,kD nH (nU l p) c),(A,kD jZ (nU (kJ m t (i64 ((n-1:Nat):Int)) k) t) (mM m t k))])):=by
 refine jT func90 fun w0 _=>?_;refine jL 3 ?_;intro _ _;refine jL 1 ?_;intro _ _;refine jL 3 ?_;refine aJ [0,1,2] [] 9 kR ?_;refine jL 2 ?_;refine bU 2 rfl (kM (kv:=nH) (l:=l) (a:=p) rfl rfl rfl rfl qA uO tH (aI 2 rfl)) ?_;refine bD 8 (.map (some A)) rfl (by rw[G];rfl) ?_;refine jL 1 ?_;refine JA.all [4,6] kR sI ?_;intro i hi;simp only[fB,dL,or_false]at hi;rcases hi with rfl|rfl
 ·refine⟨_,rfl,rfl,?_⟩;refine kT (kM (kv:=jZ) (l:=m) (a:=t) rfl rfl rfl rfl oO nC JQ (jV.at 3 rfl)) rfl rfl ?_;refine jL 1 ?_;refine bD 10 (i64 (n:Int)) rfl hn ?_;refine jL 1 ?_;refine bD 11 (i64 ((n-1:Nat):Int)) rfl (zC i64 oM) ?_;refine q0 6 rfl (vP (kv:=jZ) (l:=m) (c:=k) (a:=t) 3 rfl rfl rfl rfl rfl rfl oO nC JQ rfl (aG (aG (aG aT))) ?_);refine jL 2 ?_;refine q0 8 rfl (rW (kv:=jZ) (l:=m) (a:=t) (c:=k) 3 rfl rfl rfl rfl rfl rfl a3 rfl (aG (aG (aG aT))) ?_);refine jL 5 ?_;refine aJ [0,1,2,3] [] 6 kR ?_;refine jL 2 ?_;refine bU 2 rfl (kM (kv:=nH) (l:=l) (a:=p) rfl rfl rfl rfl qA uO tH (aI 2 rfl)) ?_;refine bD 16 (.map (some A)) rfl (by rw[G];rfl) ?_;refine jL 1 ?_;refine bU 4 rfl (kM (kv:=jZ) (l:=(kJ m t (i64 ((n-1:Nat):Int)) k)) (a:=t) rfl rfl rfl rfl oO nC JQ (aI 3 rfl)) ?_;refine bD 18 (i64 ((n-1:Nat):Int)) rfl xH ?_;refine jR ?_ ?_<;>intro a7 a4
  ·refine aJ [0,1,2] [] 5 kR ?_;refine jL 2 ?_;refine bU 2 rfl (kM (kv:=nH) (l:=l) (a:=p) rfl rfl rfl rfl qA uO tH (aI 2 rfl)) ?_;refine bD 22 (.map (some A)) rfl (by rw[G];rfl) ?_;refine jL 1 ?_;refine q0 4 rfl (uY (kv:=jZ) (a:=t) 3 rfl rfl rfl rfl rfl oO nC rfl (aG (aG (aG aT))) ?_);refine jL 7 ?_;refine aO (kM (kv:=nH) (l:=l) (a:=p) rfl rfl rfl rfl qA uO tH (jV.at 2 rfl)) ?_;refine J.ev 26 (.map (some A)) rfl (by rw[G];rfl) ?_;refine aO (zX (kv:=jZ) (l:=(nU (kJ m t (i64 ((n-1:Nat):Int)) k) t)) rfl rfl oO (jV.at 3 rfl)) ?_;refine jR ?_ ?_<;>intro N a5
   ·have O:(nU (kJ m t (i64 ((n-1:Nat):Int)) k) t)=[]:=bF.1 (by have h:=lQ N;omega);refine jL 3 ?_;refine bJ rfl (uY (kv:=nH) (a:=p) 2 rfl rfl rfl rfl rfl qA uO rfl (aG (aG aT)) ?_);refine jL 1 ?_;refine aQ (aH (aH (Keeps.k (Keeps.k bM)))) ?_;refine aS rfl rfl ?_;exact .inr (.inr ⟨oM,O,rfl,rfl⟩)
   have Q:(nU (kJ m t (i64 ((n-1:Nat):Int)) k) t)≠[]:=fun e=>by have h:=lW N;rw[e]at h;exact h rfl
   refine jL 1 ?_;refine aQ (aH (aH (Keeps.k (Keeps.k bM)))) ?_;refine aS rfl rfl ?_;exact .inr (.inl ⟨oM,Q,rfl,rfl⟩)
  refine jL 6 ?_;refine aO (kM (kv:=nH) (l:=l) (a:=p) rfl rfl rfl rfl qA uO tH (jV.at 2 rfl)) ?_;refine J.ev 26 (.map (some A)) rfl (by rw[G];rfl) ?_;refine aO (zX (kv:=jZ) (l:=(kJ m t (i64 ((n-1:Nat):Int)) k)) rfl rfl oO (jV.at 3 rfl)) ?_;refine jR ?_ ?_<;>intro S Z
  ·exact absurd (show(kJ m t (i64 ((n-1:Nat):Int)) k)=[] from bF.1 (by have h:=lQ S;omega)) (MB _ _ _ _)
  refine jL 1 ?_;refine aQ (aH (aH (Keeps.k (Keeps.k bM)))) ?_;refine aS rfl rfl ?_;exact .inl ⟨oM,rfl,rfl⟩
 refine⟨_,rfl,rfl,?_⟩;refine vP (kv:=jZ) (l:=m) (c:=k) (a:=t) 3 rfl rfl rfl rfl rfl rfl oO nC JQ rfl (aG (aG (aG aT))) ?_;refine jL 2 ?_;refine q0 4 rfl (kT (kM (kv:=jZ) (l:=(kJ m t ((kE m t).getD (.int .i64 0)) k)) (a:=t) rfl rfl rfl rfl oO nC JQ (jV.at 3 rfl)) rfl rfl ?_);refine jL 1 ?_;refine bD 10 (i64 (n:Int)) rfl (xH.trans hn) ?_;refine jL 1 ?_;refine bD 11 (i64 ((n-1:Nat):Int)) rfl (zC i64 oM) ?_;refine q0 8 rfl (rW (kv:=jZ) (l:=m) (a:=t) (c:=k) 3 rfl rfl rfl rfl rfl rfl a3 rfl (aG (aG (aG aT))) ?_);refine jL 5 ?_;refine aJ [0,1,2,3] [] 6 kR ?_;refine jL 2 ?_;refine bU 2 rfl (kM (kv:=nH) (l:=l) (a:=p) rfl rfl rfl rfl qA uO tH (aI 2 rfl)) ?_;refine bD 16 (.map (some A)) rfl (by rw[G];rfl) ?_;refine jL 1 ?_;refine bU 4 rfl (kM (kv:=jZ) (l:=(kJ m t (i64 ((n-1:Nat):Int)) k)) (a:=t) rfl rfl rfl rfl oO nC JQ (aI 3 rfl)) ?_;refine bD 18 (i64 ((n-1:Nat):Int)) rfl xH ?_;refine jR ?_ ?_<;>intro a6 a0
 ·refine aJ [0,1,2] [] 5 kR ?_;refine jL 2 ?_;refine bU 2 rfl (kM (kv:=nH) (l:=l) (a:=p) rfl rfl rfl rfl qA uO tH (aI 2 rfl)) ?_;refine bD 22 (.map (some A)) rfl (by rw[G];rfl) ?_;refine jL 1 ?_;refine q0 4 rfl (uY (kv:=jZ) (a:=t) 3 rfl rfl rfl rfl rfl oO nC rfl (aG (aG (aG aT))) ?_);refine jL 7 ?_;refine aO (kM (kv:=nH) (l:=l) (a:=p) rfl rfl rfl rfl qA uO tH (jV.at 2 rfl)) ?_;refine J.ev 26 (.map (some A)) rfl (by rw[G];rfl) ?_;refine aO (zX (kv:=jZ) (l:=(nU (kJ m t (i64 ((n-1:Nat):Int)) k) t)) rfl rfl oO (jV.at 3 rfl)) ?_;refine jR ?_ ?_<;>intro M a1
  ·have O:(nU (kJ m t (i64 ((n-1:Nat):Int)) k) t)=[]:=bF.1 (by have h:=lQ M;omega);refine jL 3 ?_;refine bJ rfl (uY (kv:=nH) (a:=p) 2 rfl rfl rfl rfl rfl qA uO rfl (aG (aG aT)) ?_);refine jL 1 ?_;refine aQ (aH (aH (Keeps.k (Keeps.k bM)))) ?_;refine aS rfl rfl ?_;exact .inr (.inr ⟨oM,O,rfl,rfl⟩)
  have Q:(nU (kJ m t (i64 ((n-1:Nat):Int)) k) t)≠[]:=fun e=>by have h:=lW M;rw[e]at h;exact h rfl
  refine jL 1 ?_;refine aQ (aH (aH (Keeps.k (Keeps.k bM)))) ?_;refine aS rfl rfl ?_;exact .inr (.inl ⟨oM,Q,rfl,rfl⟩)
 refine jL 6 ?_;refine aO (kM (kv:=nH) (l:=l) (a:=p) rfl rfl rfl rfl qA uO tH (jV.at 2 rfl)) ?_;refine J.ev 26 (.map (some A)) rfl (by rw[G];rfl) ?_;refine aO (zX (kv:=jZ) (l:=(kJ m t (i64 ((n-1:Nat):Int)) k)) rfl rfl oO (jV.at 3 rfl)) ?_;refine jR ?_ ?_<;>intro W a2
 ·exact absurd (show(kJ m t (i64 ((n-1:Nat):Int)) k)=[] from bF.1 (by have h:=lQ W;omega)) (MB _ _ _ _)
 refine jL 1 ?_;refine aQ (aH (aH (Keeps.k (Keeps.k bM)))) ?_;refine aS rfl rfl ?_;exact .inl ⟨oM,rfl,rfl⟩
theorem b7a{n}(h:cv n=none):n=0:=by
 unfold cv at h
 split at h
 ·assumption
 cases h
theorem a4D{m k}(h:MS m k) t v (s:dG):kE (nU (kJ m t v k) t) s=if s == t then none else kE m s:=by
 rw[EM (h.set t v).1,sH]
 by_cases hs:(s == t)=true
 ·rw[zF hs,zF hs]
 rw[zD hs,zD hs,zD hs]
theorem a2P b l c N f p t (h:lC l c N f)(W:1≤f p t)(hf:f p t≤1000000000000000) I:
 jO aA 90 [.map (some b),nH p,jZ t] I (setH b l c N) (fun e _ H'=>∃l' c' N',e= .returned (.tuple #[])∧lC l' c' N' (bump f p t (· -1))∧H'=setH b l' c' N'):=by
 rcases h.find p with⟨a2,Z,hz⟩|⟨A,O,m,k,B,rfl,Z,G,a3,Q,hA,hB⟩
 ·rw[hz t]at W;omega
 have hn:=a9U Q t;have h1:=(gI (IL b l c A B p O m k) ((a9z b l c p t O m k (f p t) Z G hn W hf I).frame (BI jZ (A++B))));refine h1.leave fun e _ H' _ ⟨H1,hH,hq⟩=>?_;rcases hq with⟨h9,S,M⟩|⟨h9,a0,S,M⟩|⟨h9,a1,S,M⟩
 ·refine⟨_,[],?_,l,c,A++(p,O,kJ m t (i64 ((f p t-1:Nat):Int)) k,mM m t k)::B,S,h.set (d:=(· -1)) (G.set t _) (MB _ _ _ _) (fun s=>?_),rfl⟩
  ·rw[aZ,hH,M];exact(IL b l c A B p O _ _).symm
  exact b1p Q t (f p t-1) oM k s
 ·refine⟨_,[],?_,l,c,A++(p,O,nU (kJ m t (i64 ((f p t-1:Nat):Int)) k) t,mM m t k)::B,S,h.set (d:=(· -1)) ((G.set t _).del t) a0 (fun s=>?_),rfl⟩
  ·rw[aZ,hH,M];exact(IL b l c A B p O _ _).symm
  rw[a4D G];show _=if (s == t)=true then cv (f p t-1)else _;rw[h9];rfl
 refine⟨_,[(O,kD jZ (nU (kJ m t (i64 ((f p t-1:Nat):Int)) k) t) (mM m t k))],?_,nU l p,c,A++B,S,h.drop (d:=(· -1)) (fun s hs=>?_) (by show f p t-1=0;omega),rfl⟩
 ·rw[hH,M];unfold setH;exact dA _ bZ
 have h2:=a4D G t (i64 ((f p t-1:Nat):Int)) s;rw[a1,zD (by simpa using hs),Q]at h2;exact b7a h2.symm
end Go.Proofs.YtekmeaoblpfnpaaGreatDoor
end
namespace Go.Proofs.YtekmeaoblpfnpaaGreatDoor
open _root_.Go.Proofs.Tryz
open Go Go.Sx
abbrev wR (vb wb kb:Nat):List Value:=[.map (some vb),.map (some wb),.map (some kb)]
structure nM where
  t:Ix.Rec
  k:UInt8
  l:UInt8
  v:Value
  fs:List Ke.tC
def oI (e:nM):List Value:=[i64 e.t.1,i64 e.t.2,u8 e.k,u8 e.l,e.v]
theorem pJ e:(oI e).length=5:=rfl
theorem b5F S W O vb wb kb ek el ev l c N f p t (h:lC l c N f)(hf:f p t≤1000000000000000) I (Z:I S=some (jM 26 [ptr O 0]))(a0:I W=some (jM 59 [i64 t.1,i64 t.2,u8 ek,u8 el,ev])):
 jO aA 96 [nH p,ptr S 0,ptr W 0] I ([(O,jM 114 (wR vb wb kb))]++setH wb l c N) (fun e _ H'=>∃l' c' N',e= .returned (.tuple #[])∧lC l' c' N' (bump f p t (· +1))∧H'=[(O,jM 114 (wR vb wb kb))]++setH wb l' c' N'):=by
 refine jO.ob func96 ?_;intro w0 _;refine Cj.sr (bJ rfl (qU rfl rfl rfl rfl rfl ?_));intro _ _;refine J.ns (aJ [0,1] [] 8 kR ?_);have G:=Z;have M:=a0;refine cO ⟨(aN 0 rfl (aN 1 rfl bG)),bH,(aX _)⟩ (fun A=>?_);refine aF 0 rfl A (q4 isAgg26 (bV G)) ?_;refine aF 1 rfl A (mG rfl rfl) ?_;refine aF 2 rfl A (q2 (off':=1) JW GV) ?_;refine aF 3 rfl A (q4 isAgg112 (aI 1 rfl)) ?_;refine aF 4 rfl A (mW rfl rfl isAgg152 sizeOf152 (aI 0 rfl) rfl rfl) ?_;refine aF 5 rfl A (q2 (off':=0) OE kX) ?_;refine aF 6 rfl A (mW rfl rfl oC kX (bV M) rfl rfl) ?_;refine q0 7 rfl (vK (H1:=setH _ _ _ _) [_,_] rfl rfl rfl rfl rfl rfl (b0V wb l c N f p t h hf _) ?_ (fun _ _ _ _ ⟨_,_,_,h,_⟩=>by cases h) (fun _ _ ⟨_,_,_,h,_⟩=>by cases h));intro _ _ _ Q a1;obtain⟨l1,c1,N1,h,hN,rfl⟩:=a1;cases h;refine⟨⟨(aW (aX _) Q),(aN 0 rfl (aN 1 rfl bG)),bH⟩,?_⟩;refine fO kR ?_;refine aQ (aH (Keeps.k dB)) ?_;refine aS rfl rfl ?_;exact⟨l1,c1,N1,rfl,hN,rfl⟩
theorem b5s S W O vb wb kb ek el ev l c N f p t (h:lC l c N f)(hf:f p t≤1000000000000000) I (Z:I S=some (jM 26 [ptr O 0]))(a0:I W=some (jM 59 [i64 t.1,i64 t.2,u8 ek,u8 el,ev])):
 jO aA 98 [nH p,ptr S 0,ptr W 0] I ([(O,jM 114 (wR vb wb kb))]++setH kb l c N) (fun e _ H'=>∃l' c' N',e= .returned (.tuple #[])∧lC l' c' N' (bump f p t (· +1))∧H'=[(O,jM 114 (wR vb wb kb))]++setH kb l' c' N'):=by
 refine jO.ob func98 ?_;intro w0 _;refine Cj.sr (bJ rfl (qU rfl rfl rfl rfl rfl ?_));intro _ _;refine J.ns (aJ [0,1] [] 8 kR ?_);have G:=Z;have M:=a0;refine cO ⟨(aN 0 rfl (aN 1 rfl bG)),bH,(aX _)⟩ (fun A=>?_);refine aF 0 rfl A (q4 isAgg26 (bV G)) ?_;refine aF 1 rfl A (mG rfl rfl) ?_;refine aF 2 rfl A (q2 (off':=2) JW GV) ?_;refine aF 3 rfl A (q4 isAgg112 (aI 1 rfl)) ?_;refine aF 4 rfl A (mW rfl rfl isAgg152 sizeOf152 (aI 0 rfl) rfl rfl) ?_;refine aF 5 rfl A (q2 (off':=0) OE kX) ?_;refine aF 6 rfl A (mW rfl rfl oC kX (bV M) rfl rfl) ?_;refine q0 7 rfl (vK (H1:=setH _ _ _ _) [_,_] rfl rfl rfl rfl rfl rfl (b0V kb l c N f p t h hf _) ?_ (fun _ _ _ _ ⟨_,_,_,h,_⟩=>by cases h) (fun _ _ ⟨_,_,_,h,_⟩=>by cases h));intro _ _ _ Q a1;obtain⟨l1,c1,N1,h,hN,rfl⟩:=a1;cases h;refine⟨⟨(aW (aX _) Q),(aN 0 rfl (aN 1 rfl bG)),bH⟩,?_⟩;refine fO kR ?_;refine aQ (aH (Keeps.k dB)) ?_;refine aS rfl rfl ?_;exact⟨l1,c1,N1,rfl,hN,rfl⟩
theorem b2l S W O vb wb kb l c N f p t (h:lC l c N f)(Z:1≤f p t)(hf:f p t≤1000000000000000) I (a0:I S=some (jM 26 [ptr O 0]))(a1:I W=some (jM 54 [i64 t.1,i64 t.2])):
 jO aA 89 [nH p,ptr S 0,ptr W 0] I ([(O,jM 114 (wR vb wb kb))]++setH wb l c N) (fun e _ H'=>∃l' c' N',e= .returned (.tuple #[])∧lC l' c' N' (bump f p t (· -1))∧H'=[(O,jM 114 (wR vb wb kb))]++setH wb l' c' N'):=by
 refine jO.ob func89 ?_;intro w0 _;refine Cj.sr (bJ rfl (qU rfl rfl rfl rfl rfl ?_));intro _ _;refine J.ns (aJ [0,1] [] 7 kR ?_);have G:=a0;have M:=a1;refine cO ⟨(aN 0 rfl (aN 1 rfl bG)),bH,(aX _)⟩ (fun A=>?_);refine aF 0 rfl A (q4 isAgg26 (bV G)) ?_;refine aF 1 rfl A (mG rfl rfl) ?_;refine aF 2 rfl A (q2 (off':=1) JW GV) ?_;refine aF 3 rfl A (q4 isAgg112 (aI 1 rfl)) ?_;refine aF 4 rfl A (mW rfl rfl isAgg152 sizeOf152 (aI 0 rfl) rfl rfl) ?_;refine aF 5 rfl A (mW rfl rfl oC kX (bV M) rfl rfl) ?_;refine q0 6 rfl (vK (H1:=setH _ _ _ _) [_,_] rfl rfl rfl rfl rfl rfl (a2P wb l c N f p t h Z hf _) ?_ (fun _ _ _ _ ⟨_,_,_,h,_⟩=>by cases h) (fun _ _ ⟨_,_,_,h,_⟩=>by cases h));intro _ _ _ Q a2;obtain⟨l1,c1,N1,h,hN,rfl⟩:=a2;cases h;refine⟨⟨(aW (aX _) Q),(aN 0 rfl (aN 1 rfl bG)),bH⟩,?_⟩;refine fO kR ?_;refine aQ (aH (Keeps.k dB)) ?_;refine aS rfl rfl ?_;exact⟨l1,c1,N1,rfl,hN,rfl⟩
theorem b3I S W O vb wb kb l c N f p t (h:lC l c N f)(Z:1≤f p t)(hf:f p t≤1000000000000000) I (a0:I S=some (jM 26 [ptr O 0]))(a1:I W=some (jM 54 [i64 t.1,i64 t.2])):
 jO aA 91 [nH p,ptr S 0,ptr W 0] I ([(O,jM 114 (wR vb wb kb))]++setH kb l c N) (fun e _ H'=>∃l' c' N',e= .returned (.tuple #[])∧lC l' c' N' (bump f p t (· -1))∧H'=[(O,jM 114 (wR vb wb kb))]++setH kb l' c' N'):=by
 refine jO.ob func91 ?_;intro w0 _;refine Cj.sr (bJ rfl (qU rfl rfl rfl rfl rfl ?_));intro _ _;refine J.ns (aJ [0,1] [] 7 kR ?_);have G:=a0;have M:=a1;refine cO ⟨(aN 0 rfl (aN 1 rfl bG)),bH,(aX _)⟩ (fun A=>?_);refine aF 0 rfl A (q4 isAgg26 (bV G)) ?_;refine aF 1 rfl A (mG rfl rfl) ?_;refine aF 2 rfl A (q2 (off':=2) JW GV) ?_;refine aF 3 rfl A (q4 isAgg112 (aI 1 rfl)) ?_;refine aF 4 rfl A (mW rfl rfl isAgg152 sizeOf152 (aI 0 rfl) rfl rfl) ?_;refine aF 5 rfl A (mW rfl rfl oC kX (bV M) rfl rfl) ?_;refine q0 6 rfl (vK (H1:=setH _ _ _ _) [_,_] rfl rfl rfl rfl rfl rfl (a2P kb l c N f p t h Z hf _) ?_ (fun _ _ _ _ ⟨_,_,_,h,_⟩=>by cases h) (fun _ _ ⟨_,_,_,h,_⟩=>by cases h));intro _ _ _ Q a2;obtain⟨l1,c1,N1,h,hN,rfl⟩:=a2;cases h;refine⟨⟨(aW (aX _) Q),(aN 0 rfl (aN 1 rfl bG)),bH⟩,?_⟩;refine fO kR ?_;refine aQ (aH (Keeps.k dB)) ?_;refine aS rfl rfl ?_;exact⟨l1,c1,N1,rfl,hN,rfl⟩
structure EA where
  i:Nat
  J:Heap
  Y:HL
theorem a6P v wv gw gk cap (S:Nat→HL→Prop)(Z:HL→Prop)(ac:v.ws.length≤1000000000000) I (W:oP 9 I v.ws wv) H0 (a7:S 0 H0)
 (hw:∀k w H J,v.ws[k]?=some w→Le I J→S k H→jO aA gw (nH (v.name,w)::cap) J H (fun e _ H'=>e= .returned (.tuple #[])∧S (k+1) H'))
 (hk:∀H J,v.key≠[]→Le I J→S v.ws.length H→jO aA gk (nH (v.name,v.key)::cap) J H (fun e _ H'=>e= .returned (.tuple #[])∧Z H'))(hz:v.key=[]→∀H,S v.ws.length H→Z H):
 jO aA 88 [.agg (JF (v,wv)).toArray,.func (.func gw) #[] cap.toArray,.func (.func gk) #[] cap.toArray] I H0 (fun e _ H'=>e= .returned (.tuple #[])∧Z H'):=by
 obtain⟨wp,wc,rfl⟩:=qL W;refine jO.ob func88 ?_;intro w0 _;refine Cj.sr (bJ rfl (qU rfl rfl rfl rfl rfl ?_));intro b1 _;refine J.a9j (fG (aO (q2 (off':=2) KW XU) ?_));refine aO (q4 a0E (jV.at 0 rfl)) ?_;refine aO (sZ rfl rfl lI) ?_;refine aO q1 ?_;refine J.ns (Cj.block (Cj.loop (ι:=EA) (fun y=>y.i≤v.ws.length∧Le I y.J∧S y.i y.Y) (fun y=>v.ws.length-y.i) (fun y=>[(1,.func (.func gw) #[] cap.toArray),(2,.func (.func gk) #[] cap.toArray),(3,ptr b1 0),(9,.slice wp v.ws.length wc),(10,i64 (v.ws.length:Int)),(11,i64 (y.i:Int))]) (fun y=>y.J) (fun y=>(b1,jM 142 [str v.name,str v.key,.slice wp v.ws.length wc])::y.Y) ⟨0,_,H0⟩ ⟨dD _,aX _,a7⟩ rT rfl rfl ?_));rintro⟨i,_,HY⟩ ⟨hi,A,hY⟩;dsimp only at hi A hY ⊢;have G:=W.mono A;refine Cj.sr (aO (a4g rfl rfl rfl) ?_);refine J.nss (Cj.cond rfl (fun a0=>?_) (fun a0=>?_))
 ·have a4:=lY a0;have a3:i<v.ws.length:=oM;obtain⟨x,a1⟩:∃x,v.ws[i]?=some x:=⟨_,kV a3⟩;obtain⟨wb,_,_,a8,a2⟩:=G.some (jS a3);cases a8;refine dX (dH (gJ (Cj.block (Cj.sr (aO (q7 (off':=i) lI kY) ?_)))));refine aO (jP rfl rfl lN (jV.BU a2) (nR a1)) ?_;refine J.as ?_;refine J.nsr (aO q1 ?_);refine aO (q2 (off':=0) KW kY) ?_;refine aO (q4 lN (jV.at 0 rfl)) ?_;refine aO q1 ?_;refine aO (jX (pl:= #[(0,1),(1,1)]) rfl rfl YI rfl UL (fun w=>by simp[kY]) (fH rfl rfl rfl lsA (fH rfl rfl rfl lsA pU.none))) ?_;refine bJ rfl (vK (H1:=HY) [_] rfl rfl rfl rfl rfl rfl (hw i x _ _ a1 A hY) ?_ (fun _ _ _ _ h=>by cases h.1) (fun _ _ h=>by cases h.1));intro _ _ H5 N a9;have A:=A.mono N;have G:=G.mono N;have a2:=N _ _ a2;obtain⟨h,aa⟩:=a9;cases h;refine J.nil (Ej.EH (dH (fG (aO (AZ rfl rfl rfl (tV oM)) ?_))));refine aO q1 ?_;refine J.nil (gK ⟨i+1,_,H5⟩ ⟨dO,A,aa⟩ dO rT rfl rfl)
 have a4:=nD a0;have ab:i=v.ws.length:=oM;subst ab;refine Cj.exit (fQ (Ej.XC (Ej.UW (dH (Cj.sr (aO (q2 (off':=1) KW kY) ?_))))));refine aO (q4 lN (jV.at 0 rfl)) ?_;refine aO (SY rfl rfl rfl) ?_;refine J.cd (fun M=>?_) (fun M=>?_)
 ·have a5:=bne_iff_ne.1 M;have O:v.key≠[]:=bne_iff_ne.1 M;refine fG (aO q1 ?_);refine aO (q2 (off':=0) KW kY) ?_;refine aO (q4 lN (jV.at 0 rfl)) ?_;refine aO (q2 (off':=1) KW kY) ?_;refine aO (q4 lN (jV.at 0 rfl)) ?_;refine aO (jX (pl:= #[(0,1),(1,1)]) rfl rfl YI rfl UL (fun w=>by simp[kY]) (fH rfl rfl rfl lsA (fH rfl rfl rfl lsA pU.none))) ?_;refine bJ rfl (vK (H1:=HY) [_] rfl rfl rfl rfl rfl rfl (hk _ _ O A hY) ?_ (fun _ _ _ _ h=>by cases h.1) (fun _ _ h=>by cases h.1));intro _ _ _ Q a6;have A:=A.mono Q;have G:=G.mono Q;obtain⟨h,hZ⟩:=a6;cases h;refine J.nil (aQ (aH dB) ?_);refine aS rfl rfl ?_;exact⟨rfl,hZ⟩
 have a5:=sF M;have O:v.key=[]:=sF M;refine dX (aQ (aH dB) ?_);refine aS rfl rfl ?_;exact⟨rfl,hz O _ hY⟩
end Go.Proofs.YtekmeaoblpfnpaaGreatDoor
namespace Go.Proofs.YtekmeaoblpfnpaaGreatDoor
open Go Go.Sx
theorem a5N f t xs q:bump (aK f t fun p=>xs.count p) q t (· +1)=aK f t fun p=>(xs++[q]).count p:=by
 funext p u
 unfold bump aK
 by_cases hu:u=t
 ·subst hu
  by_cases hp:p=q
  ·subst hp;simp
  have h1:(p == q)=false:=by simpa using hp
  have h2:List.count p [q]=0:=List.count_eq_zero.2 (by simpa using hp);simp[h1,List.count_append,h2]
 have h1:(u == t)=false:=by simpa using hu
 simp[h1,hu]
theorem a4M f t ys q:bump (aK f t fun p=>(q::ys).count p) q t (· -1)=aK f t fun p=>ys.count p:=by
 funext p u
 unfold bump aK
 by_cases hu:u=t
 ·subst hu
  by_cases hp:p=q
  ·subst hp;simp
  have h1:(p == q)=false:=by simpa using hp
  have h2:(q == p)=false:=by simpa using Ne.symm hp
  simp[h1,List.count_cons,h2]
 have h1:(u == t)=false:=by simpa using hu
 simp[h1,hu]
theorem MI f t n p:aK f t n p t=n p:=zF rfl
def qG (vs:List Ix.V):Prop:=vs.length≤10000000∧∀v∈vs,v.ws.length≤10000000
theorem a6Q:∀(vs:List Ix.V),(∀v∈vs,v.ws.length≤10000000)→(aB vs).length≤vs.length*10000000
 |[],_=>by simp[aB]
 |v::r,h=>by
  have h1:=a6Q r fun x A=>h x (.tail _ A);have h2:=h v (.head _);unfold aB at h1 ⊢;rw[bT,aU,bP,bW,Nat.add_mul];omega
theorem a7q:∀(vs:List Ix.V),(aC vs).length≤vs.length
 |[]=>by simp[aC]
 |v::r=>by
  have h1:=a7q r;unfold aC at h1 ⊢;rw[bT,aU,bW]
  by_cases hk:v.key=[]
  ·rw[zF hk,List.length_nil];omega
  rw[zD hk,List.length_singleton];omega
theorem qG.w{vs}(h:qG vs):(aB vs).length≤100000000000000:=mY (a6Q vs h.2) (eP _ h.1)
theorem qG.k{vs}(h:qG vs):(aC vs).length≤10000000:=mY (a7q vs) h.1
theorem b1g{fs}(h:yE fs):qG (dK fs):=by
 have h1:=a2W fs h fs.length;rw[bY]at h1;refine⟨mY h1 (mY (eP _ h.1) dE),fun v A=>?_⟩;unfold dK at A;obtain⟨f,M,A⟩:=List.mem_flatMap.1 A;obtain⟨_,_,_⟩:=h.2 f M;have G:v.ws.length≤v.text.length+1:=(Ke.rE v.text).1;unfold Ix.BK at A;rcases List.mem_append.1 A with g|g
 ·obtain⟨s,N,rfl⟩:=List.mem_map.1 g;have:=NR N;dsimp only at G;omega
 split at g
 ·rw[List.mem_singleton]at g;subst g;have:=EK f [];rw[EN]at this;dsimp only at G;omega
 cases g
structure Ist where
  vb:Nat
  wb:Nat
  kb:Nat
  lv:ML Ix.Rec
  cv:Nat
  lw:ML Ix.Pl
  cw:Nat
  Nw:vY Ix.Pl Ix.Rec
  lk:ML Ix.Pl
  ck:Nat
  Nk:vY Ix.Pl Ix.Rec
def PI (ib:Nat) (s:Ist):HL:=(s.vb,kD jZ s.lv s.cv)::(ib,jM 114 (wR s.vb s.wb s.kb))::(setH s.wb s.lw s.cw s.Nw++setH s.kb s.lk s.ck s.Nk)
def BJ (I:Heap) (lv:ML dG) (L:Ix.Ix):Prop:=∀t,(bI L t=none→kE lv t=none)∧∀vs,bI L t=some vs→∃w,kE lv t=some w∧yS I vs w
theorem BJ.mono{I A lv L}(h:BJ I lv L)(G:Le I A):BJ A lv L:=fun t=>⟨(h t).1,fun vs M=>let ⟨w,h1,h2⟩:=(h t).2 vs M;⟨w,h1,h2.mono G⟩⟩
theorem yS.nil I:yS I [] (.slice none 0 0):=⟨[],rC.nil,rfl,fun _ h=>by cases h⟩
theorem BJ.at{I lv L}(h:BJ I lv L) t:∃w,(kE lv t).getD (.slice none 0 0)=w∧yS I ((bI L t).getD []) w:=by
 cases hg:bI L t with
 |none=>rw[(h t).1 hg];exact⟨_,rfl,yS.nil I⟩
 |some vs=>
  obtain⟨w,h1,h2⟩:=(h t).2 vs hg;rw[h1];exact⟨w,rfl,h2⟩
structure oD (I:Heap) (s:Ist) (L:Ix.Ix):Prop where
  oG:Ix.nK L
  big:L.length≤100000
  VN:∀e∈L,qG e.2
  vms:MS s.lv s.cv
  vals:BJ I s.lv L
  nw:lC s.lw s.cw s.Nw (Ix.cnt Ix.plW L)
  nk:lC s.lk s.ck s.Nk (Ix.cnt Ix.KY L)
theorem oD.mono{I A s L}(h:oD I s L)(G:Le I A):oD A s L:=⟨h.oG,h.big,h.VN,h.vms,h.vals.mono G,h.nw,h.nk⟩
theorem a7G pl (h0:pl []=[]) L t:aP pl L=aK (aP pl L) t fun p=>(pl ((bI L t).getD [])).count p:=by
 cases hg:bI L t with
 |none=>
  rw[Option.getD_none,h0];exact Ix.b2G hg
 |some vs=>exact Ix.b2g hg
theorem a5E{L}(A:Ix.nK L)(h:∀e∈L,qG e.2) t:qG ((bI L t).getD []):=by
 cases hg:bI L t with
 |none=>exact⟨dD _,fun _ h=>by cases h⟩
 |some vs=>exact h _ ((Ix.oZ A).1 hg)
def YS (ib vb wb kb:Nat) (fw fk:gB→dG→Nat) (Y:HL):Prop:=∃lw cw Nw lk ck Nk,lC lw cw Nw fw∧lC lk ck Nk fk∧Y=(ib,jM 114 (wR vb wb kb))::(setH wb lw cw Nw++setH kb lk ck Nk)
theorem YS.word{A vb wb kb S W Q g args J H}(hY:YS A vb wb kb S W H)
 (h:∀l c N,lC l c N S→jO aA g args J ([(A,jM 114 (wR vb wb kb))]++setH wb l c N) (fun e _ H'=>∃G M O,e= .returned (.tuple #[])∧lC G M O Q∧H'=[(A,jM 114 (wR vb wb kb))]++setH wb G M O)):
 jO aA g args J H (fun e _ H'=>e= .returned (.tuple #[])∧YS A vb wb kb Q W H'):=by
 obtain⟨lw,cw,Nw,lk,ck,Nk,h1,h2,rfl⟩:=hY;refine((h lw cw Nw h1).frame (setH kb lk ck Nk)).mono fun e _ H' _ ⟨H1,hH,G,M,O,he,hN,Z⟩=>⟨he,G,M,O,lk,ck,Nk,hN,h2,?_⟩;rw[hH,Z];rfl
theorem YS.key{A vb wb kb S W Q g args J H}(hY:YS A vb wb kb S W H)
 (h:∀l c N,lC l c N W→jO aA g args J ([(A,jM 114 (wR vb wb kb))]++setH kb l c N) (fun e _ H'=>∃G M O,e= .returned (.tuple #[])∧lC G M O Q∧H'=[(A,jM 114 (wR vb wb kb))]++setH kb G M O)):
 jO aA g args J H (fun e _ H'=>e= .returned (.tuple #[])∧YS A vb wb kb S Q H'):=by
 obtain⟨lw,cw,Nw,lk,ck,Nk,h1,h2,rfl⟩:=hY;have Z:∀X,(((A,jM 114 (wR vb wb kb))::(X++setH wb lw cw Nw):HL)).Perm ((A,jM 114 (wR vb wb kb))::(setH wb lw cw Nw++X)):=fun X=>dA _ bZ;refine(gI (Z (setH kb lk ck Nk)) ((h lk ck Nk h2).frame (setH wb lw cw Nw))).leave fun e _ H' _ ⟨H1,hH,G,M,O,he,hN,a0⟩=>⟨_,[],?_,he,lw,cw,Nw,G,M,O,h1,hN,rfl⟩;rw[aZ,hH,a0];exact(Z _).symm
theorem a2m{α:Type}{l:List α}{k x}(h:l[k]?=some x):l.drop k=x::l.drop (k+1):=by
 obtain⟨_,A⟩:=aV.1 h;rw[←A,List.getElem_cons_drop]
theorem a4Q v r:aB (v::r)=v.ws.map (fun w=>(v.name,w))++aB r:=by unfold aB;rw[bT]
theorem XE v r:aC (v::r)=(if v.key=[]then[]else[(v.name,v.key)])++aC r:=by unfold aC;rw[bT]
theorem a1j xs v:aB (xs++[v])=aB xs++v.ws.map fun w=>(v.name,w):=by unfold aB;rw[fC];simp
theorem a7E xs v:aC (xs++[v])=aC xs++if v.key=[]then[]else[(v.name,v.key)]:=by unfold aC;rw[fC];simp
theorem a3R{vs}(h:qG vs) i:(aB (vs.drop i)).length≤100000000000000:=
 qG.w ⟨by rw[dM];have:=h.1;omega,fun v A=>h.2 v (eU A)⟩
theorem a5P{vs}(h:qG vs) i:(aC (vs.drop i)).length≤10000000:=
 qG.k ⟨by rw[dM];have:=h.1;omega,fun v A=>h.2 v (eU A)⟩
theorem a3E{vs}(h:qG vs) i:(aB (vs.take i)).length≤100000000000000:=
 qG.w ⟨by rw[dN];have:=h.1;omega,fun v A=>h.2 v (eX A)⟩
theorem a4c{vs}(h:qG vs) i:(aC (vs.take i)).length≤10000000:=
 qG.k ⟨by rw[dN];have:=h.1;omega,fun v A=>h.2 v (eX A)⟩
def YD (ib vb wb kb:Nat) (L:Ix.Ix) (t:dG) (vs:List Ix.V) (i:Nat):HL→Prop:=YS ib vb wb kb (aK (aP aB L) t fun p=>(aB (vs.drop i)).count p) (aK (aP aC L) t fun p=>(aC (vs.drop i)).count p)
theorem b0T O Q G vb wb kb L t vs (hv:qG vs) i v wv (W:vs[i]?=some v) I (a5:oP 9 I v.ws wv)(a0:I O=some (jM 26 [ptr G 0]))(a1:I Q=some (jM 54 [i64 t.1,i64 t.2])) Y (hY:YD G vb wb kb L t vs i Y):
 jO aA 88 [.agg (JF (v,wv)).toArray,.func (.func 89) #[] [ptr O 0,ptr Q 0].toArray,.func (.func 91) #[] [ptr O 0,ptr Q 0].toArray] I Y (fun e _ H'=>e= .returned (.tuple #[])∧YD G vb wb kb L t vs (i+1) H'):=by
 have S:=a2m W;have a7:=hv.2 v (lV W);have a8:=a3R hv i;have a2:=a5P hv i;refine a6P v wv _ _ [ptr O 0,ptr Q 0] (fun k=>YS G vb wb kb (aK (aP aB L) t fun p=>((v.ws.drop k).map (fun w=>(v.name,w))++aB (vs.drop (i+1))).count p) (aK (aP aC L) t fun p=>(aC (vs.drop i)).count p)) (YD G vb wb kb L t vs (i+1)) oM I a5 Y ?_ ?_ ?_ ?_
 ·unfold YD at hY;rw[S,a4Q]at hY;rw[S];exact hY
 ·intro k w H J hk M A;refine A.word fun l c N Z=>?_;have a3:(v.ws.drop k).map (fun w=>(v.name,w))++aB (vs.drop (i+1))=(v.name,w)::((v.ws.drop (k+1)).map (fun w=>(v.name,w))++aB (vs.drop (i+1))):=by rw[a2m hk];rfl
  rw[a3]at Z;have hb:=a4M (aP aB L) t ((v.ws.drop (k+1)).map (fun w=>(v.name,w))++aB (vs.drop (i+1))) (v.name,w);rw[←hb];refine b2l O Q G vb wb kb l c N _ (v.name,w) t Z ?_ ?_ J (M _ _ a0) (M _ _ a1)
  ·rw[MI];exact dY.2 (.head _)
  rw[MI];refine mY bK ?_;have h9:((v.name,w)::((v.ws.drop (k+1)).map (fun w=>(v.name,w))++aB (vs.drop (i+1)))).length≤(aB (vs.drop i)).length:=by
   rw[S,a4Q,←a3,aU,aU,bP,bP,dM];omega
  omega
 ·intro H J a4 M A;have a6:YS G vb wb kb (aK (aP aB L) t fun p=>(aB (vs.drop (i+1))).count p) (aK (aP aC L) t fun p=>((v.name,v.key)::aC (vs.drop (i+1))).count p) H:=by
   rw[dP,fJ,dR,S,XE,zD a4]at A;exact A
  unfold YD;refine a6.key fun l c N Z=>?_;rw[←a4M (aP aC L) t (aC (vs.drop (i+1))) (v.name,v.key)];refine b3I O Q G vb wb kb l c N _ (v.name,v.key) t Z ?_ ?_ J (M _ _ a0) (M _ _ a1)
  ·rw[MI];exact dY.2 (.head _)
  rw[MI];refine mY bK ?_;rw[S,XE,zD a4]at a2;have:((v.name,v.key)::aC (vs.drop (i+1))).length≤10000000:=a2;omega
 intro he H A;rw[dP,fJ,dR,S,XE,zF he,dR]at A;exact A
def YP (ib vb wb kb:Nat) (L:Ix.Ix) (t:dG) (vs:List Ix.V) (i:Nat):HL→Prop:=YS ib vb wb kb (aK (aP aB L) t fun p=>(aB (vs.take i)).count p) (aK (aP aC L) t fun p=>(aC (vs.take i)).count p)
theorem take_one{α:Type}{l:List α}{k x}(h:l[k]?=some x):l.take (k+1)=l.take k++[x]:=by
 obtain⟨A,G⟩:=aV.1 h;rw[List.take_succ_eq_append_getElem A,G]
theorem a4N O Q G vb wb kb ek el ev L t vs (hv:qG vs) i v wv (S:vs[i]?=some v) I (a2:oP 9 I v.ws wv)(a0:I O=some (jM 26 [ptr G 0]))(a1:I Q=some (jM 59 [i64 t.1,i64 t.2,u8 ek,u8 el,ev])) Y (hY:YP G vb wb kb L t vs i Y):
 jO aA 88 [.agg (JF (v,wv)).toArray,.func (.func 96) #[] [ptr O 0,ptr Q 0].toArray,.func (.func 98) #[] [ptr O 0,ptr Q 0].toArray] I Y (fun e _ H'=>e= .returned (.tuple #[])∧YP G vb wb kb L t vs (i+1) H'):=by
 have W:=take_one S;have a7:=hv.2 v (lV S);have a8:=a3E hv (i+1);have a3:=a4c hv (i+1);refine a6P v wv _ _ [ptr O 0,ptr Q 0] (fun k=>YS G vb wb kb (aK (aP aB L) t fun p=>(aB (vs.take i)++(v.ws.take k).map (fun w=>(v.name,w))).count p) (aK (aP aC L) t fun p=>(aC (vs.take i)).count p)) (YP G vb wb kb L t vs (i+1)) oM I a2 Y ?_ ?_ ?_ ?_
 ·unfold YP at hY;rw[List.take_zero,fJ,aZ];exact hY
 ·intro k w H J hk M A;refine A.word fun l c N hN=>?_;have a4:aB (vs.take i)++(v.ws.take (k+1)).map (fun w=>(v.name,w))=(aB (vs.take i)++(v.ws.take k).map (fun w=>(v.name,w)))++[(v.name,w)]:=by rw[take_one hk,List.map_append,List.append_assoc];rfl
  rw[a4,←a5N (aP aB L) t (aB (vs.take i)++(v.ws.take k).map (fun w=>(v.name,w))) (v.name,w)];refine b5F O Q G vb wb kb ek el ev l c N _ (v.name,w) t hN ?_ J (M _ _ a0) (M _ _ a1);rw[MI];refine mY bK ?_;have h9:(aB (vs.take i)++(v.ws.take k).map (fun w=>(v.name,w))).length≤(aB (vs.take (i+1))).length:=by
   rw[W,a1j,aU,aU,bP,bP,dN];omega
  omega
 ·intro H J a5 M A;have a6:YS G vb wb kb (aK (aP aB L) t fun p=>(aB (vs.take (i+1))).count p) (aK (aP aC L) t fun p=>(aC (vs.take i)).count p) H:=by
   rw[bY,←a1j,←W]at A;exact A
  unfold YP;refine a6.key fun l c N hN=>?_;have Z:aC (vs.take (i+1))=aC (vs.take i)++[(v.name,v.key)]:=by rw[W,a7E,zD a5]
  rw[Z,←a5N (aP aC L) t (aC (vs.take i)) (v.name,v.key)];refine b5s O Q G vb wb kb ek el ev l c N _ (v.name,v.key) t hN ?_ J (M _ _ a0) (M _ _ a1);rw[MI];refine mY bK ?_;rw[Z,aU]at a3;omega
 intro he H A;unfold YP;rw[bY,←a1j,←W]at A;have Z:aC (vs.take (i+1))=aC (vs.take i):=by rw[W,a7E,zF he,aZ]
 rw[Z];exact A
structure DA where
  i:Nat
  J:Heap
  Y:HL
theorem PU t v:∀L:Ix.Ix,(dZ t v L).length≤L.length+1
 |[]=>by simp[dZ]
 |(u,x)::r=>by
  unfold dZ
  split
  ·have:=PU t v r;rw[bW,bW];omega
  split
  ·simp
  simp
theorem oD.drop{I Z vb wb kb lv cv lw cw Nw lk ck Nk L}(h:oD I ⟨vb,wb,kb,lv,cv,lw,cw,Nw,lk,ck,Nk⟩ L)(a0:Le I Z) t {M N O Q S W}
 (hw:lC M N O (aK (aP aB L) t fun p=>(aB []).count p))(hk:lC Q S W (aK (aP aC L) t fun p=>(aC []).count p)):oD Z ⟨vb,wb,kb,nU lv t,cv,M,N,O,Q,S,W⟩ (eY t L):=by
 refine⟨Ix.KI t h.oG,mY (eF _ _) h.big,fun e he=>h.VN e ((Ix.AA t L e).1 he).1,h.vms.del t,fun u=>⟨fun A=>?_,fun vs A=>?_⟩,?_,?_⟩
 ·show kE (nU lv t) u=none;rw[EM h.vms.1]
  split
  ·rfl
  rename_i G
  rw[Ix.OT h.oG,zD (by simpa using G)]at A;exact(h.vals u).1 A
 ·rw[Ix.OT h.oG]at A
  split at A
  ·cases A
  rename_i G
  obtain⟨w,h1,h2⟩:=(h.vals u).2 vs A;refine⟨w,?_,h2.mono a0⟩;show kE (nU lv t) u=some w;rw[EM h.vms.1,zD (by simpa using G)];exact h1
 ·rw[cZ h.oG];exact hw
 rw[cZ h.oG];exact hk
theorem oD.put{I vb wb kb lv cv lw cw Nw lk ck Nk L}(h:oD I ⟨vb,wb,kb,lv,cv,lw,cw,Nw,lk,ck,Nk⟩ L){t}(hL:L.length<100000){vs}(hv:qG vs){w}(a0:yS I vs w){M N O Q S W}
 (hw:lC M N O (aK (aP aB L) t fun p=>(aB vs).count p))(hk:lC Q S W (aK (aP aC L) t fun p=>(aC vs).count p)):oD I ⟨vb,wb,kb,kJ lv t w cv,mM lv t cv,M,N,O,Q,S,W⟩ (dZ t vs L):=by
 refine⟨Ix.CW t vs h.oG,?_,fun e Z=>?_,h.vms.set t w,fun u=>⟨fun A=>?_,fun us A=>?_⟩,?_,?_⟩
 ·have:=PU t vs L;omega
 ·rcases(Ix.wO t vs h.oG e).1 Z with g|g
  ·rw[g];exact hv
  exact h.VN e g.1
 ·show kE (kJ lv t w cv) u=none;rw[Ix.RI h.oG]at A;rw[sH]
  split at A
  ·cases A
  rename_i G
  rw[zD (by simpa using G)];exact(h.vals u).1 A
 ·show ∃w',kE (kJ lv t w cv) u=some w'∧_;rw[Ix.RI h.oG]at A;rw[sH]
  split at A
  ·rename_i Z
   cases A;exact⟨w,by rw[zF (by simpa using Z)],a0⟩
  rename_i G
  rw[zD (by simpa using G)];exact(h.vals u).2 us A
 ·rw[Ix.a3Z h.oG];exact hw
 rw[Ix.a3Z h.oG];exact hk
theorem b6w I vb wb kb:oD I ⟨vb,wb,kb,[],0,[],0,[],[],0,[]⟩ []:=
 ⟨List.Pairwise.nil,dD _,fun _ h=>(by cases h),MS.nil,fun _=>⟨fun _=>rfl,fun _ h=>by cases h⟩,lC.nil,lC.nil⟩
end Go.Proofs.YtekmeaoblpfnpaaGreatDoor
section
namespace Go.Proofs.YtekmeaoblpfnpaaGreatDoor
open _root_.Go.Proofs.Tryz
open Go Go.Sx
theorem a1O S s0 L t I (a8:oD I s0 L):jO aA 43 [ptr S 0,jZ t] I (PI S s0)
 (fun e I' H'=>∃s',e= .returned (.tuple #[])∧oD I' s' (eY t L)∧H'=PI S s'):=by
 obtain⟨vb,wb,kb,lv,cv,lw,cw,Nw,lk,ck,Nk⟩:=s0;unfold PI;dsimp only;have G:=a8;refine jT func43 fun w0 _=>?_;refine jL 3 ?_;intro b1 ac;refine jL 1 ?_;intro b2 ad;refine jL 4 ?_;refine Cj.pull (gG dW) ?_;refine fA ac (fun _ a9 M=>?_);have G:=G.mono a9;refine fA ad (fun I6 a1 Q=>?_);have G:=G.mono a1;have M:=a1 _ _ M;refine jL 10 ?_;have ae:=G.vals;obtain⟨_,af,ag⟩:=ae.at t;obtain⟨xs,O,W⟩:=ag;obtain⟨vp,vc,rfl,_,-⟩:=id O;have a2:=a5E G.oG G.VN t;have ax:=W.len;have ay:=a2.1;have ah:YD S vb wb kb L t ((bI L t).getD []) 0 ((S,jM 114 (wR vb wb kb))::(setH wb lw cw Nw++setH kb lk ck Nk)):=⟨lw,cw,Nw,lk,ck,Nk,(by have h:=G.nw;rw[a7G aB rfl L t]at h;exact h),(by have h:=G.nk;rw[a7G aC rfl L t]at h;exact h),rfl⟩;refine aJ [0,1] [] 8 kR ?_;refine jL 5 ?_;refine bU 5 rfl (kM (kv:=jZ) (l:=lv) (a:=t) rfl rfl rfl rfl xO nC FV (aI 0 rfl)) ?_;refine bD 13 (.slice vp xs.length vc) rfl af ?_;refine jL 5 ?_;refine Cj.loop (ι:=DA) (fun y=>y.i≤xs.length∧Le I6 y.J∧YD S vb wb kb L t ((bI L t).getD []) y.i y.Y) (fun y=>xs.length-y.i) (fun y=>[(2,ptr b1 0),(3,ptr b2 0),(13,.slice vp xs.length vc),(14,i64 (xs.length:Int)),(15,i64 (y.i:Int))]) (fun y=>y.J) (fun y=>(vb,kD jZ lv cv)::y.Y) ⟨0,_,(S,jM 114 (wR vb wb kb))::(setH _ _ _ _++setH _ _ _ _)⟩ ⟨dD _,aX _,ah⟩ rT rfl rfl ?_;rintro⟨i,_,_⟩ ⟨hi,N,hY⟩;dsimp only at hi N hY ⊢;have O:=O.mono N;have W:=W.mono N;have M:=N _ _ M;have Q:=N _ _ Q;refine jR ?_ ?_<;>intro ai aa
 ·have a4:i<xs.length:=oM;obtain⟨x,Z⟩:∃x,xs[i]?=some x:=⟨_,kV a4⟩;obtain⟨_,_,aj,-,al⟩:=id O;cases aj;obtain⟨_,_,rfl,a3⟩:=al (jS a4);have a0:=W.2 x (lV Z);have a5:=(zC (fun l=>l[i]?) W.1).symm.trans ((bQ).trans (zC (gQ (·.1)) Z));dsimp only[dQ]at a5;refine kG (0+i*3) ?_;refine aO (q3 isAgg142 BO (jV.BU a3) (kQ GZ (o:=0) rfl Z)) ?_;refine jL 1 ?_;intro _ _;refine bJ rfl (nS 0 rfl rfl rfl rfl rfl (QN a0 rfl rfl) BO rfl rfl lsA aT ?_);refine AV [_,_] (b0T b1 b2 S vb wb kb L t ((bI L t).getD []) a2 i x.1 x.2 a5 _ a0 M Q _ hY) ?_;intro _ _ am A ab;have M:=A _ _ M;have Q:=A _ _ Q;have N:=N.mono A;have O:=O.mono A;have W:=W.mono A;have a3:=A _ _ a3;have a0:=a0.mono A;obtain⟨h,an⟩:=ab;cases h;refine jL 7 ?_;refine aQ (aH (Keeps.k dB)) ?_;refine gK ⟨i+1,_,am⟩ ⟨dO,N,an⟩ dO rT rfl rfl
 have ao:i=((bI L t).getD []).length:=oM;obtain⟨ap,aq,ar,au,av,aw,a6,a7,rfl⟩:=hY;rw[ao,dP]at a6 a7;refine jL 5 ?_;refine aJ [1] [] 6 kR ?_;refine jL 5 ?_;refine q0 5 rfl (uY (kv:=jZ) (a:=t) 0 rfl rfl rfl rfl rfl xO nC rfl aT ?_);refine jL 2 ?_;refine aS rfl rfl ?_;exact⟨⟨vb,wb,kb,nU lv t,cv,ap,aq,ar,au,av,aw⟩,rfl,G.drop N t a6 a7,rfl⟩
theorem a1R N t I:jO aA 43 [ptr N 0,jZ t] I [(N,jM 114 [.map none,.map none,.map none])]
 (fun e _ H'=>e= .returned (.tuple #[])∧H'=[(N,jM 114 [.map none,.map none,.map none])]):=by
 refine jT func43 fun w0 _=>?_;refine jL 3 ?_;intro _ _;refine jL 1 ?_;intro _ _;refine jL 14 ?_;refine aJ [0,1,2] [] 8 kR ?_;refine cO lG (fun A=>?_);refine aF 0 rfl A (q4 isAgg26 (aI 1 rfl)) ?_;refine aF 1 rfl A (mG rfl rfl) ?_;refine aF 2 rfl A (q2 (off':=0) JW FQ) ?_;refine aF 3 rfl A (q4 isAgg110 (aI 2 rfl)) ?_;refine aF 4 rfl A (mW rfl rfl oC kX (aI 0 rfl) rfl rfl) ?_;refine aF 5 rfl A (qP (kv:=jZ) (a:=t) rfl rfl rfl rfl xO nC FV) ?_;refine jL 5 ?_;refine Cj.rounds 1 ?_;refine Rj.succ ?_;refine jL 6 ?_;refine Cj.cond rfl ?_ ?_<;>intro M
 ·have O:=lY M;exact absurd (lY M) dE
 have O:=nD M;refine Cj.exit (fQ (fQ (Ej.UW (dH ?_))));refine aJ [0,1,2] [] 6 kR ?_;refine cO lG (fun G=>?_);refine aF 0 rfl G (q4 isAgg26 (aI 1 rfl)) ?_;refine aF 1 rfl G (mG rfl rfl) ?_;refine aF 2 rfl G (q2 (off':=0) JW FQ) ?_;refine aF 3 rfl G (q4 isAgg110 (aI 2 rfl)) ?_;refine aF 4 rfl G (mW rfl rfl oC kX (aI 0 rfl) rfl rfl) ?_;refine q0 5 rfl (a5G (kv:=jZ) (a:=t) rfl rfl rfl rfl rfl xO nC ?_);refine jL 2 ?_;refine aQ (aH (aH (Keeps.k bM))) ?_;refine aS rfl rfl ?_;exact rT
theorem a4w{I S vb wb kb lv cv lw cw Nw lk ck Nk L t}(h:oD I ⟨vb,wb,kb,lv,cv,lw,cw,Nw,lk,ck,Nk⟩ (eY t L))(W:Ix.nK L)(hL:L.length<100000){vs}(hv:qG vs){w}(Z:yS S vs w)(a0:Le I S){A G M N O Q}
 (hw:lC A G M (aK (aP aB L) t fun p=>(aB vs).count p))(hk:lC N O Q (aK (aP aC L) t fun p=>(aC vs).count p)):oD S ⟨vb,wb,kb,kJ lv t w cv,mM lv t cv,A,G,M,N,O,Q⟩ (dZ t vs L):=by
 have hb:(eY t L).length<100000:=Nat.lt_of_le_of_lt (eF _ _) hL;have a1:∀(pl:List Ix.V→List gB),(aK (aP pl L) t fun p=>(pl vs).count p)=aK (aP pl (eY t L)) t fun p=>(pl vs).count p:=fun pl=>by
  rw[cZ W]
  funext p u
  unfold aK
  split<;>rfl
 rw[a1]at hw hk;have h2:=(h.mono a0).put hb hv Z hw hk;rw[Ix.a8d W]at h2;exact h2
theorem b2T ib s0 L A I (M:oD I s0 L)(ae:L.length<100000)(a9:yE A.fs)(N:yJ I A.fs A.v):jO aA 50 [ptr ib 0,.agg (oI A).toArray] I (PI ib s0)
 (fun e I' H'=>∃s',e= .returned (.tuple #[])∧oD I' s' (dZ A.t (dK A.fs) L)∧H'=PI ib s'):=by
 have a1:=M.oG;obtain⟨_,_,_,-,-⟩:=id N.1;refine jT func50 fun w0 _=>?_;refine jL 3 ?_;intro b1 aj;refine jL 1 ?_;intro b2 al;refine jL 4 ?_;refine Cj.pull (gG dW) ?_;refine fA aj (fun _ a6 G=>?_);have M:=M.mono a6;have N:=N.mono a6;refine fA al (fun _ a2 O=>?_);have M:=M.mono a2;have N:=N.mono a2;have G:=a2 _ _ G;refine AV [] (a1O ib s0 L A.t _ M) ?_;intro _ _ _ Z af;have M:=M.mono Z;have N:=N.mono Z;have G:=Z _ _ G;have O:=Z _ _ O;obtain⟨s1,h,M,rfl⟩:=af;cases h;obtain⟨vb,wb,kb,lv,cv,lw,cw,Nw,lk,ck,Nk⟩:=s1;unfold PI;dsimp only;refine jL 16 ?_;refine aJ [1] [] 10 kR ?_;have am:=G;have an:=O;refine kH (WJ A.fs A.v A.k A.l a9 _ N) ?_;intro _ ao _ a0 ag;have N:=N.mono a0;have G:=a0 _ _ G;have O:=a0 _ _ O;have M:=M.mono a0;obtain⟨_,h,ap,rfl⟩:=ag;cases h;obtain⟨xs,S,hX⟩:=ap;obtain⟨vp,vc,rfl,_,-⟩:=id S;have a3:=b1g a9;have b4:=hX.len;have b5:=a3.1;refine jL 1 ?_;refine q0 9 rfl (nI (kv:=jZ) (a:=A.t) 0 (.inr rfl) rfl rfl rfl rfl rfl xO nC rfl aT ?_);refine jL 4 ?_;have aq:YP ib vb wb kb L A.t (dK A.fs) 0 ((ib,jM 114 (wR vb wb kb))::(setH wb lw cw Nw++setH kb lk ck Nk)):=⟨lw,cw,Nw,lk,ck,Nk,(by have h:=M.nw;rw[cZ a1]at h;exact h),(by have h:=M.nk;rw[cZ a1]at h;exact h),rfl⟩;refine aJ [0,1] [] 9 kR ?_;refine jL 6 ?_;refine bU 6 rfl (kM (kv:=jZ) (l:=(kJ lv A.t (.slice vp xs.length vc) cv)) (a:=A.t) rfl rfl rfl rfl xO nC FV (aI 0 rfl)) ?_;refine bD 44 (.slice vp xs.length vc) rfl xH ?_;refine jL 5 ?_;refine Cj.loop (ι:=DA) (fun y=>y.i≤xs.length∧Le ao y.J∧YP ib vb wb kb L A.t (dK A.fs) y.i y.Y) (fun y=>xs.length-y.i) (fun y=>[(2,ptr b1 0),(3,ptr b2 0),(44,.slice vp xs.length vc),(45,i64 (xs.length:Int)),(46,i64 (y.i:Int))]) (fun y=>y.J) (fun y=>(vb,kD jZ (kJ lv A.t (.slice vp xs.length vc) cv) (mM lv A.t cv))::y.Y) ⟨0,_,(ib,jM 114 (wR vb wb kb))::(setH _ _ _ _++setH _ _ _ _)⟩ ⟨dD _,aX _,aq⟩ rT rfl rfl ?_;rintro⟨i,_,_⟩ ⟨hi,W,hY⟩;dsimp only at hi W hY ⊢;have S:=S.mono W;have hX:=hX.mono W;have G:=W _ _ G;have O:=W _ _ O;refine jR ?_ ?_<;>intro ah a8
 ·have aa:i<xs.length:=oM;obtain⟨x,a4⟩:∃x,xs[i]?=some x:=⟨_,kV aa⟩;obtain⟨_,_,ar,-,au⟩:=id S;cases ar;obtain⟨_,_,rfl,a7⟩:=au (jS aa);have a5:=hX.2 x (lV a4);have ab:=(zC (fun l=>l[i]?) hX.1).symm.trans ((bQ).trans (zC (gQ (·.1)) a4));dsimp only[dQ]at ab;refine kG (0+i*3) ?_;refine aO (q3 isAgg142 BO (jV.BU a7) (kQ GZ (o:=0) rfl a4)) ?_;refine jL 1 ?_;intro _ _;refine bJ rfl (nS 0 rfl rfl rfl rfl rfl (QN a5 rfl rfl) BO rfl rfl lsA aT ?_);refine AV [_,_] (a4N b1 b2 ib vb wb kb A.k A.l A.v L A.t (dK A.fs) a3 i x.1 x.2 ab _ a5 G O _ hY) ?_;intro _ _ av Q ai;have G:=Q _ _ G;have O:=Q _ _ O;have S:=S.mono Q;have hX:=hX.mono Q;have W:=W.mono Q;have a7:=Q _ _ a7;have a5:=a5.mono Q;obtain⟨h,aw⟩:=ai;cases h;refine jL 7 ?_;refine aQ (aH (Keeps.k dB)) ?_;refine gK ⟨i+1,_,av⟩ ⟨dO,W,aw⟩ dO rT rfl rfl
 have ax:i=(dK A.fs).length:=oM;obtain⟨ay,az,b0,lk2,ck2,b3,ac,ad,rfl⟩:=hY;rw[ax,bY]at ac ad;refine jL 4 ?_;refine aS rfl rfl ?_;exact⟨⟨vb,wb,kb,(kJ lv A.t (.slice vp xs.length vc) cv),(mM lv A.t cv),ay,az,b0,lk2,ck2,b3⟩,rfl,a4w M a1 ae a3 ⟨xs,S,hX⟩ W ac ad,rfl⟩
theorem b4h ib M I (ad : yE M.fs) (O : yJ I M.fs M.v) : jO Tryz.prog 50 [ptr ib 0, .agg (oI M).toArray] I [(ib, jM 114 [.map none, .map none, .map none])]
 (fun e I' H' => ∃ s', e = .returned (.tuple #[]) ∧ oD I' s' (Ix.sU M.t (Ix.vals M.fs) []) ∧ H' = PI ib s') := by
 obtain ⟨_, _, _, -, -⟩ := id O.1
 refine jT func50 fun w0 _ => ?_
 refine jL 3 ?_
 intro b1 ar
 refine jL 1 ?_
 intro b2 au
 refine jL 4 ?_
 refine Cj.pull (Pull.s Pull.z) ?_
 refine Cj.persist ar (fun _ am N => ?_)
 have O := O.mono am
 refine Cj.persist au (fun _ a7 Q => ?_)
 have O := O.mono a7
 have N := a7 _ _ N
 refine jL 13 ?_
 refine J.pull Pull.z ?_
 refine kH (a1R ib M.t _) ?_
 intro _ I9 _ a1 an
 have O := O.mono a1
 have N := a1 _ _ N
 have Q := a1 _ _ Q
 obtain ⟨h, rfl⟩ := an; cases h
 refine jL 2 ?_
 refine Cj.join (ι := Nat × Nat × Nat) (fun y => True) (fun y => [(2, ptr b1 0), (3, ptr b2 0)]) (fun y => I9) (fun y => (y.1, kD jZ [] 0) :: (ib, jM 114 (wR y.1 y.2.1 y.2.2)) :: (setH y.2.1 [] 0 [] ++ setH y.2.2 [] 0 [])) ?_ (fun G => ?_)
 ·rintro ⟨vb, wb, kb⟩ -
  dsimp only
  refine jL 1 ?_
  refine Cj.qJ [1] [] 10 (by kernel_rfl) ?_
  have av := N
  have aw := Q
  refine kH (WJ M.fs M.v M.k M.l ad _ O) ?_
  intro _ ax _ a2 ao
  have O := O.mono a2
  have N := a2 _ _ N
  have Q := a2 _ _ Q
  obtain ⟨_, h, ay, rfl⟩ := ao; cases h
  obtain ⟨xs, W, hX⟩ := ay
  obtain ⟨vp, vc, rfl, _, -⟩ := id W
  have a3 := b1g ad
  have bt := hX.len
  have bu := a3.1
  refine jL 1 ?_
  refine q0 9 rfl (nI (kv := jZ) (a := M.t) 0 (.inr rfl) rfl rfl rfl rfl rfl xO nC rfl lF.z ?_)
  refine jL 4 ?_
  have az : YP ib vb wb kb [] M.t (Ix.vals M.fs) 0 ((ib, jM 114 (wR vb wb kb)) :: (setH wb [] 0 [] ++ setH kb [] 0 [])) := ⟨[], 0, [], [], 0, [], (by rw [List.take_zero]; have h := (lC.nil : lC ([] : ML Ix.Pl) 0 ([] : vY Ix.Pl Ix.Rec) (fun _ _ => 0)); exact (show (Ix.way (Ix.cnt Ix.plW []) M.t fun p => (Ix.plW []).count p) = (fun _ _ => 0) by funext p u; unfold Ix.way; split <;> rfl) ▸ h), (by rw [List.take_zero]; have h := (lC.nil : lC ([] : ML Ix.Pl) 0 ([] : vY Ix.Pl Ix.Rec) (fun _ _ => 0)); exact (show (Ix.way (Ix.cnt Ix.KY []) M.t fun p => (Ix.KY []).count p) = (fun _ _ => 0) by funext p u; unfold Ix.way; split <;> rfl) ▸ h), rfl⟩
  refine Cj.qJ [0, 1] [] 9 (by kernel_rfl) ?_
  refine jL 6 ?_
  refine JA.zt 6 rfl (kM (kv := jZ) (l := (kJ ([] : ML Ix.Rec) M.t (.slice vp xs.length vc) 0)) (a := M.t) rfl rfl rfl rfl xO nC FV (jV.atC 0 rfl)) ?_
  refine JA.ev 44 (.slice vp xs.length vc) rfl xH ?_
  refine jL 5 ?_
  refine Cj.loop (ι := DA) (fun y => y.i ≤ xs.length ∧ Le ax y.J ∧ YP ib vb wb kb [] M.t (Ix.vals M.fs) y.i y.Y) (fun y => xs.length - y.i) (fun y => [(2, ptr b1 0), (3, ptr b2 0), (44, .slice vp xs.length vc), (45, i64 (xs.length : Int)), (46, i64 (y.i : Int))]) (fun y => y.J) (fun y => (vb, kD jZ (kJ ([] : ML Ix.Rec) M.t (.slice vp xs.length vc) 0) (mM ([] : ML Ix.Rec) M.t 0)) :: y.Y) ⟨0, _, (ib, jM 114 (wR vb wb kb)) :: (setH _ _ _ _ ++ setH _ _ _ _)⟩ ⟨Nat.zero_le _, Le.refl _, az⟩ ⟨rfl, rfl, rfl, rfl, rfl, trivial⟩ rfl rfl ?_
  rintro ⟨i, _, _⟩ ⟨A, Z, hY⟩
  dsimp only at A Z hY ⊢
  have W := W.mono Z
  have hX := hX.mono Z
  have N := Z _ _ N
  have Q := Z _ _ Q
  refine jR (fun ap ac => ?_) (fun ap ac => ?_)
  ·have ae : i < xs.length := by omega
   obtain ⟨x, a4⟩ : ∃ x, xs[i]? = some x := ⟨_, kV ae⟩
   obtain ⟨_, _, b0, -, hvb⟩ := id W
   cases b0
   obtain ⟨_, _, rfl, a8⟩ := hvb (jS ae)
   have a5 := hX.2 x (lV a4)
   have af := (congrArg (fun l => l[i]?) hX.1).symm.trans ((List.getElem?_map).trans (congrArg (Option.map (·.1)) a4))
   dsimp only [Option.map_some] at af
   refine kG (0 + i * 3) ?_
   refine J.z (q3 isAgg142 BO (jV.BU a8) (kQ GZ (o := 0) rfl a4)) ?_
   refine jL 1 ?_
   intro _ _
   refine J.op rfl (nS 0 rfl rfl rfl rfl rfl (QN a5 rfl rfl) BO rfl rfl (nV.c (nV.c (nV.c nV.z))) lF.z ?_)
   refine AV [_, _] (a4N b1 b2 ib vb wb kb M.k M.l M.v [] M.t (Ix.vals M.fs) a3 i x.1 x.2 af _ a5 N Q _ hY) ?_
   intro _ _ H24 S aq
   have N := S _ _ N
   have Q := S _ _ Q
   have W := W.mono S
   have hX := hX.mono S
   have Z := Z.mono S
   have a8 := S _ _ a8
   have a5 := a5.mono S
   obtain ⟨h, b3⟩ := aq; cases h
   refine jL 7 ?_
   refine Ej.keep (Keeps.d (Keeps.k Keeps.r)) ?_
   refine Ej.round ⟨i + 1, _, H24⟩ ⟨by dsimp only; omega, Z, b3⟩ (by dsimp only; omega) ⟨rfl, rfl, rfl, rfl, rfl, trivial⟩ rfl rfl
  have b4 : i = (Ix.vals M.fs).length := by omega
  obtain ⟨b5, b6, b7, b8, b9, ba, ag, ah, rfl⟩ := hY
  rw [b4, List.take_length] at ag ah
  refine jL 4 ?_
  refine Ej.DT rfl rfl ?_
  exact ⟨⟨vb, wb, kb, (kJ ([] : ML Ix.Rec) M.t (.slice vp xs.length vc) 0), (mM ([] : ML Ix.Rec) M.t 0), b5, b6, b7, b8, b9, ba⟩, rfl, a4w (L := []) (b6w _ vb wb kb) List.Pairwise.nil (by decide) a3 ⟨xs, W, hX⟩ Z ag ah, rfl⟩
 refine jL 10 ?_
 refine Cj.qJ [] [] 15 (by kernel_rfl) ?_
 refine jL 3 ?_
 refine JA.all [3, 4, 5] (by kernel_rfl) (by simp) ?_
 intro i A
 simp only [List.mem_cons, List.not_mem_nil, or_false] at A
 rcases A with rfl | rfl | rfl
 ·refine ⟨_, rfl, rfl, ?_⟩
  refine kN rfl rfl rfl ?_
  intro a0 _
  refine jL 3 ?_
  refine JA.all [4, 5, 8] (by kernel_rfl) (by simp) ?_
  intro i A
  simp only [List.mem_cons, List.not_mem_nil, or_false] at A
  rcases A with rfl | rfl | rfl
  ·refine ⟨_, rfl, rfl, ?_⟩
   refine kN rfl rfl rfl ?_
   intro a9 _
   refine jL 1 ?_
   refine JA.all [5, 8] (by kernel_rfl) (by simp) ?_
   intro i A
   simp only [List.mem_cons, List.not_mem_nil, or_false] at A
   rcases A with rfl | rfl
   ·refine ⟨_, rfl, rfl, ?_⟩
    refine kN rfl rfl rfl ?_
    intro bb _
    refine jL 12 ?_
    refine Ej.keep (Keeps.k (Keeps.k (Keeps.k (Keeps.k Keeps.n)))) ?_
    refine Ej.pull Pull.z ?_
    refine Ej.pull (Pull.s Pull.z) ?_
    refine Ej.pull (Pull.s (Pull.s (Pull.s Pull.z))) ?_
    refine Ej.pull (Pull.s (Pull.s (Pull.s Pull.z))) ?_
    exact G (a0, a9, bb) _ _ _ trivial ⟨rfl, rfl, trivial⟩ rfl rfl
   refine ⟨_, rfl, rfl, ?_⟩
   refine q5 2 FQ (nV.c nV.z) (lF.s (lF.s lF.z)) ?_
   refine jL 3 ?_
   refine JA.all [5, 11] (by kernel_rfl) (by simp) ?_
   intro i A
   simp only [List.mem_cons, List.not_mem_nil, or_false] at A
   rcases A with rfl | rfl
   ·refine ⟨_, rfl, rfl, ?_⟩
    refine kN rfl rfl rfl ?_
    intro bc _
    refine jL 8 ?_
    refine Ej.keep (Keeps.k (Keeps.k (Keeps.k (Keeps.k Keeps.n)))) ?_
    refine Ej.pull Pull.z ?_
    refine Ej.pull (Pull.s Pull.z) ?_
    refine Ej.pull (Pull.s (Pull.s (Pull.s Pull.z))) ?_
    refine Ej.pull (Pull.s (Pull.s (Pull.s Pull.z))) ?_
    exact G (a0, a9, bc) _ _ _ trivial ⟨rfl, rfl, trivial⟩ rfl rfl
   refine ⟨_, rfl, rfl, ?_⟩
   refine q5 2 GV (nV.s (nV.c nV.z)) (lF.s (lF.s lF.z)) ?_
   refine jL 1 ?_
   refine q0 5 rfl (kN rfl rfl rfl ?_)
   intro bd _
   refine jL 6 ?_
   refine Ej.keep (Keeps.k (Keeps.k (Keeps.k (Keeps.k Keeps.n)))) ?_
   refine Ej.pull Pull.z ?_
   refine Ej.pull (Pull.s Pull.z) ?_
   refine Ej.pull (Pull.s (Pull.s (Pull.s Pull.z))) ?_
   refine Ej.pull (Pull.s (Pull.s (Pull.s Pull.z))) ?_
   exact G (a0, a9, bd) _ _ _ trivial ⟨rfl, rfl, trivial⟩ rfl rfl
  ·refine ⟨_, rfl, rfl, ?_⟩
   refine kN rfl rfl rfl ?_
   intro ai _
   refine jL 1 ?_
   refine JA.all [4, 8] (by kernel_rfl) (by simp) ?_
   intro i A
   simp only [List.mem_cons, List.not_mem_nil, or_false] at A
   rcases A with rfl | rfl
   ·refine ⟨_, rfl, rfl, ?_⟩
    refine kN rfl rfl rfl ?_
    intro be _
    refine jL 12 ?_
    refine Ej.keep (Keeps.k (Keeps.k (Keeps.k (Keeps.k Keeps.n)))) ?_
    refine Ej.pull (Pull.s Pull.z) ?_
    refine Ej.pull (Pull.s Pull.z) ?_
    refine Ej.pull (Pull.s (Pull.s (Pull.s Pull.z))) ?_
    refine Ej.pull (Pull.s (Pull.s (Pull.s Pull.z))) ?_
    exact G (a0, be, ai) _ _ _ trivial ⟨rfl, rfl, trivial⟩ rfl rfl
   refine ⟨_, rfl, rfl, ?_⟩
   refine q5 2 FQ (nV.c nV.z) (lF.s (lF.s lF.z)) ?_
   refine jL 1 ?_
   refine q0 4 rfl (kN rfl rfl rfl ?_)
   intro bf _
   refine jL 10 ?_
   refine Ej.keep (Keeps.k (Keeps.k (Keeps.k (Keeps.k Keeps.n)))) ?_
   refine Ej.pull (Pull.s Pull.z) ?_
   refine Ej.pull (Pull.s Pull.z) ?_
   refine Ej.pull (Pull.s (Pull.s (Pull.s Pull.z))) ?_
   refine Ej.pull (Pull.s (Pull.s (Pull.s Pull.z))) ?_
   exact G (a0, bf, ai) _ _ _ trivial ⟨rfl, rfl, trivial⟩ rfl rfl
  refine ⟨_, rfl, rfl, ?_⟩
  refine q5 1 FQ (nV.c nV.z) (lF.s lF.z) ?_
  refine jL 1 ?_
  refine JA.all [4, 5] (by kernel_rfl) (by simp) ?_
  intro i A
  simp only [List.mem_cons, List.not_mem_nil, or_false] at A
  rcases A with rfl | rfl
  ·refine ⟨_, rfl, rfl, ?_⟩
   refine kN rfl rfl rfl ?_
   intro aj _
   refine jL 3 ?_
   refine JA.all [5, 11] (by kernel_rfl) (by simp) ?_
   intro i A
   simp only [List.mem_cons, List.not_mem_nil, or_false] at A
   rcases A with rfl | rfl
   ·refine ⟨_, rfl, rfl, ?_⟩
    refine kN rfl rfl rfl ?_
    intro bg _
    refine jL 8 ?_
    refine Ej.keep (Keeps.k (Keeps.k (Keeps.k (Keeps.k Keeps.n)))) ?_
    refine Ej.pull Pull.z ?_
    refine Ej.pull (Pull.s Pull.z) ?_
    refine Ej.pull (Pull.s (Pull.s (Pull.s Pull.z))) ?_
    refine Ej.pull (Pull.s (Pull.s (Pull.s Pull.z))) ?_
    exact G (a0, aj, bg) _ _ _ trivial ⟨rfl, rfl, trivial⟩ rfl rfl
   refine ⟨_, rfl, rfl, ?_⟩
   refine q5 2 GV (nV.s (nV.c nV.z)) (lF.s (lF.s lF.z)) ?_
   refine jL 1 ?_
   refine q0 5 rfl (kN rfl rfl rfl ?_)
   intro bh _
   refine jL 6 ?_
   refine Ej.keep (Keeps.k (Keeps.k (Keeps.k (Keeps.k Keeps.n)))) ?_
   refine Ej.pull Pull.z ?_
   refine Ej.pull (Pull.s Pull.z) ?_
   refine Ej.pull (Pull.s (Pull.s (Pull.s Pull.z))) ?_
   refine Ej.pull (Pull.s (Pull.s (Pull.s Pull.z))) ?_
   exact G (a0, aj, bh) _ _ _ trivial ⟨rfl, rfl, trivial⟩ rfl rfl
  refine ⟨_, rfl, rfl, ?_⟩
  refine kN rfl rfl rfl ?_
  intro bi _
  refine jL 1 ?_
  refine q0 4 rfl (kN rfl rfl rfl ?_)
  intro bj _
  refine jL 10 ?_
  refine Ej.keep (Keeps.k (Keeps.k (Keeps.k (Keeps.k Keeps.n)))) ?_
  refine Ej.pull (Pull.s Pull.z) ?_
  refine Ej.pull (Pull.s Pull.z) ?_
  refine Ej.pull (Pull.s (Pull.s (Pull.s Pull.z))) ?_
  refine Ej.pull (Pull.s (Pull.s (Pull.s Pull.z))) ?_
  exact G (a0, bj, bi) _ _ _ trivial ⟨rfl, rfl, trivial⟩ rfl rfl
 ·refine ⟨_, rfl, rfl, ?_⟩
  refine kN rfl rfl rfl ?_
  intro a6 _
  refine jL 1 ?_
  refine JA.all [3, 5] (by kernel_rfl) (by simp) ?_
  intro i A
  simp only [List.mem_cons, List.not_mem_nil, or_false] at A
  rcases A with rfl | rfl
  ·refine ⟨_, rfl, rfl, ?_⟩
   refine kN rfl rfl rfl ?_
   intro aa _
   refine jL 3 ?_
   refine JA.all [5, 8] (by kernel_rfl) (by simp) ?_
   intro i A
   simp only [List.mem_cons, List.not_mem_nil, or_false] at A
   rcases A with rfl | rfl
   ·refine ⟨_, rfl, rfl, ?_⟩
    refine kN rfl rfl rfl ?_
    intro bk _
    refine jL 12 ?_
    refine Ej.keep (Keeps.k (Keeps.k (Keeps.k (Keeps.k Keeps.n)))) ?_
    refine Ej.pull Pull.z ?_
    refine Ej.pull (Pull.s (Pull.s Pull.z)) ?_
    refine Ej.pull (Pull.s (Pull.s (Pull.s Pull.z))) ?_
    refine Ej.pull (Pull.s (Pull.s (Pull.s Pull.z))) ?_
    exact G (aa, a6, bk) _ _ _ trivial ⟨rfl, rfl, trivial⟩ rfl rfl
   refine ⟨_, rfl, rfl, ?_⟩
   refine q5 2 FQ (nV.c nV.z) (lF.s (lF.s lF.z)) ?_
   refine jL 3 ?_
   refine JA.all [5, 11] (by kernel_rfl) (by simp) ?_
   intro i A
   simp only [List.mem_cons, List.not_mem_nil, or_false] at A
   rcases A with rfl | rfl
   ·refine ⟨_, rfl, rfl, ?_⟩
    refine kN rfl rfl rfl ?_
    intro bl _
    refine jL 8 ?_
    refine Ej.keep (Keeps.k (Keeps.k (Keeps.k (Keeps.k Keeps.n)))) ?_
    refine Ej.pull Pull.z ?_
    refine Ej.pull (Pull.s (Pull.s Pull.z)) ?_
    refine Ej.pull (Pull.s (Pull.s (Pull.s Pull.z))) ?_
    refine Ej.pull (Pull.s (Pull.s (Pull.s Pull.z))) ?_
    exact G (aa, a6, bl) _ _ _ trivial ⟨rfl, rfl, trivial⟩ rfl rfl
   refine ⟨_, rfl, rfl, ?_⟩
   refine q5 2 GV (nV.s (nV.c nV.z)) (lF.s (lF.s lF.z)) ?_
   refine jL 1 ?_
   refine q0 5 rfl (kN rfl rfl rfl ?_)
   intro bm _
   refine jL 6 ?_
   refine Ej.keep (Keeps.k (Keeps.k (Keeps.k (Keeps.k Keeps.n)))) ?_
   refine Ej.pull Pull.z ?_
   refine Ej.pull (Pull.s (Pull.s Pull.z)) ?_
   refine Ej.pull (Pull.s (Pull.s (Pull.s Pull.z))) ?_
   refine Ej.pull (Pull.s (Pull.s (Pull.s Pull.z))) ?_
   exact G (aa, a6, bm) _ _ _ trivial ⟨rfl, rfl, trivial⟩ rfl rfl
  refine ⟨_, rfl, rfl, ?_⟩
  refine kN rfl rfl rfl ?_
  intro bn _
  refine jL 1 ?_
  refine q0 3 rfl (kN rfl rfl rfl ?_)
  intro bo _
  refine jL 14 ?_
  refine Ej.keep (Keeps.k (Keeps.k (Keeps.k (Keeps.k Keeps.n)))) ?_
  refine Ej.pull (Pull.s Pull.z) ?_
  refine Ej.pull (Pull.s (Pull.s Pull.z)) ?_
  refine Ej.pull (Pull.s (Pull.s (Pull.s Pull.z))) ?_
  refine Ej.pull (Pull.s (Pull.s (Pull.s Pull.z))) ?_
  exact G (bo, a6, bn) _ _ _ trivial ⟨rfl, rfl, trivial⟩ rfl rfl
 refine ⟨_, rfl, rfl, ?_⟩
 refine kN rfl rfl rfl ?_
 intro ab _
 refine jL 1 ?_
 refine JA.all [3, 4] (by kernel_rfl) (by simp) ?_
 intro i A
 simp only [List.mem_cons, List.not_mem_nil, or_false] at A
 rcases A with rfl | rfl
 ·refine ⟨_, rfl, rfl, ?_⟩
  refine kN rfl rfl rfl ?_
  intro al _
  refine jL 3 ?_
  refine JA.all [4, 8] (by kernel_rfl) (by simp) ?_
  intro i A
  simp only [List.mem_cons, List.not_mem_nil, or_false] at A
  rcases A with rfl | rfl
  ·refine ⟨_, rfl, rfl, ?_⟩
   refine kN rfl rfl rfl ?_
   intro bp _
   refine jL 12 ?_
   refine Ej.keep (Keeps.k (Keeps.k (Keeps.k (Keeps.k Keeps.n)))) ?_
   refine Ej.pull (Pull.s (Pull.s Pull.z)) ?_
   refine Ej.pull (Pull.s Pull.z) ?_
   refine Ej.pull (Pull.s (Pull.s (Pull.s Pull.z))) ?_
   refine Ej.pull (Pull.s (Pull.s (Pull.s Pull.z))) ?_
   exact G (al, bp, ab) _ _ _ trivial ⟨rfl, rfl, trivial⟩ rfl rfl
  refine ⟨_, rfl, rfl, ?_⟩
  refine q5 2 FQ (nV.c nV.z) (lF.s (lF.s lF.z)) ?_
  refine jL 1 ?_
  refine q0 4 rfl (kN rfl rfl rfl ?_)
  intro bq _
  refine jL 10 ?_
  refine Ej.keep (Keeps.k (Keeps.k (Keeps.k (Keeps.k Keeps.n)))) ?_
  refine Ej.pull (Pull.s (Pull.s Pull.z)) ?_
  refine Ej.pull (Pull.s Pull.z) ?_
  refine Ej.pull (Pull.s (Pull.s (Pull.s Pull.z))) ?_
  refine Ej.pull (Pull.s (Pull.s (Pull.s Pull.z))) ?_
  exact G (al, bq, ab) _ _ _ trivial ⟨rfl, rfl, trivial⟩ rfl rfl
 refine ⟨_, rfl, rfl, ?_⟩
 refine kN rfl rfl rfl ?_
 intro br _
 refine jL 1 ?_
 refine q0 3 rfl (kN rfl rfl rfl ?_)
 intro bs _
 refine jL 14 ?_
 refine Ej.keep (Keeps.k (Keeps.k (Keeps.k (Keeps.k Keeps.n)))) ?_
 refine Ej.pull (Pull.s (Pull.s Pull.z)) ?_
 refine Ej.pull (Pull.s (Pull.s Pull.z)) ?_
 refine Ej.pull (Pull.s (Pull.s (Pull.s Pull.z))) ?_
 refine Ej.pull (Pull.s (Pull.s (Pull.s Pull.z))) ?_
 exact G (bs, br, ab) _ _ _ trivial ⟨rfl, rfl, trivial⟩ rfl rfl
end Go.Proofs.YtekmeaoblpfnpaaGreatDoor
end
namespace Go.Sx
open Go
@[reducible] def a8w:DR:=⟨true⟩
attribute [local instance] a8w
theorem jO.same{P f args I H v}(G:Enters P f)(h:∀w,Ready I H w→Calls P f args.toArray w fun e w'=>e= .returned v∧w'=w):jO P f args I H (fun e M H'=>e= .returned v∧M=I∧H'=H):=
 ⟨G,fun w A=>(h w A).mono fun _ w' ⟨h1,h2⟩=>⟨I,H,by subst h2;exact St.start w' I H A.1 A.2.1 A.2.2.1 A.2.2.2,h1,rfl,rfl⟩⟩
theorem jO.grows{P f args v}{A:Ending→Heap→HL→Prop}(h:jO P f args (fun _=>none) [] A)(G:∀e N H',A e N H'→e= .returned v) w:Calls P f args.toArray w fun e w'=>e= .returned v∧∃q O,w'=fK (w.drewN q) O:=
 have W:Ready (fun _=>none) [] w:=by
  unfold Ready;exact⟨(fun b o Z=>by cases Z),(fun p G=>by cases G),List.Pairwise.nil,(fun p G=>by cases G)⟩
 (h.2 w W).mono fun e w' ⟨N,H',M,hq⟩=>⟨G e N H' hq,w'.drawn-w.drawn,w'.heap.extract w.heap.size w'.heap.size,by
  have Q:w'.heap=w.heap++w'.heap.extract w.heap.size w'.heap.size:=by
   apply dF
   intro i;rw[Array.getElem?_append]
   split
   ·rename_i S;exact M.frm i S sI
   rename_i S
   rw[Array.getElem?_extract]
   split
   ·congr 1;omega
   rw[Array.getElem?_eq_none oM]
  have h1:=M.os;have h2:=M.tape;have h3:=M.output;have h4:=M.drw rfl;have h5:w.drawn+(w'.drawn-w.drawn)=w'.drawn:=oM;unfold fK World.drewN;rw[h5];cases w';cases w;simp only at h1 h2 h3 Q ⊢;subst h1 h2 h3;rw[←Q]⟩
end Go.Sx
namespace Go.Proofs.YtekmeaoblpfnpaaGreatDoor
open _root_.Go.Proofs.Tryz
open Go Go.Sx
attribute [local instance] a8w
def vM (r s:Int):Int:=if r≠0 then r else s
section
open Go.Shelf Go.RowKit Go.Lib
theorem b7v b A G w (h0:w.cell? ⟨b,0,none⟩=some (.int .i64 A))(h1:w.cell? ⟨b,1,none⟩=some (.int .i64 G)):
 Calls aA 57 #[.slice (some ⟨b,0,none⟩) 2 2] w fun e w'=>e= .returned (.int .i64 (vM A G))∧w'=w:=by
 go_enter func57,Tryz.ntmps57
 go_wp2
 refine wp_loop_rounds 3 ?_;rw[rounds_succ]
 go_wp2
 ·have N:(A != 0)=true:=by assumption
  have M:vM A G=A:=zF (by simpa using N)
  go_ret
  exact⟨by rw[M];rfl,rfl⟩
 have N:(A != 0)=false:=by assumption
 have M:vM A G=G:=zD (by simpa using N);rw[rounds_succ]
 go_wp2
 ·go_ret
  exact⟨by rw[M];rfl,rfl⟩
 have Q:(G != 0)=false:=by assumption
 have O:G=0:=by simpa using Q
 rw[rounds_succ]
 go_wp2
 go_ret
 exact⟨by rw[M,O];rfl,rfl⟩
end
def xM (a b:List UInt8):Int:=if a<b then -1 else if b<a then 1 else 0
theorem a9X{a b:List UInt8}(h:¬a<b){t}(A:(!(decide (a<b) || a == b))=t):if t then b<a else ¬b<a:=by
 rw[zI h,Bool.false_or]at A;subst A
 by_cases he:a=b
 ·subst he;simp
 have G:(a == b)=false:=by simpa using he
 rw[G];simp only[Bool.not_false,if_true];exact Std.lt_of_le_of_ne (Std.not_lt.1 h) (Ne.symm he)
theorem b4z b A G I:jO aA 57 [.slice (some ⟨b,0,none⟩) 2 2] I [(b,jM 3 [i64 A,i64 G])] (fun e M H'=>e= .returned (i64 (vM A G))∧M=I∧H'=[(b,jM 3 [i64 A,i64 G])]):=
 jO.same ⟨_,func57,dE,rfl⟩ fun w N=>by
  have O:=N.2.1 _ (.head _);refine b7v b A G w ?_ ?_<;>simp[World.cell?,O,jM]
theorem YX x y I:jO aA 59 [i64 x,i64 y] I [] (fun e A H'=>e= .returned (i64 (bC x y))∧A=I∧H'=[]):=
 jO.same ⟨_,func59,dE,rfl⟩ fun w _=>Tryz.cmp_Compare_int x y w
theorem a6q x0 x1 y0 y1 I:jO aA 78 [.agg #[i64 x0,i64 x1],.agg #[i64 y0,i64 y1]] I [] (fun e _ H'=>e= .returned (i64 (vM (bC x0 y0) (bC x1 y1)))∧H'=[]):=by
 refine jO.ob func78 ?_;intro w0 _;refine Cj.sr (bJ rfl (qU rfl rfl rfl rfl rfl ?_));intro _ _;refine bJ rfl (qU rfl rfl rfl rfl rfl ?_);intro _ _;refine J.as ?_;refine J.nss (aJ [0,1] [] 13 (by kernel_rfl) ?_);refine cO ⟨(aN 0 rfl (aN 1 rfl bG)),bH,(aX _)⟩ (fun A=>?_);refine aF 0 rfl A (q2 (off':=0) underlying54 sizeOf3) ?_;refine aF 1 rfl A (q4 isAgg3 (aI 1 rfl)) ?_;refine aF 2 rfl A (q2 (off':=0) underlying54 sizeOf3) ?_;refine aF 3 rfl A (q4 isAgg3 (aI 0 rfl)) ?_;refine aF 5 rfl A (q2 (off':=1) underlying54 sizeOf3) ?_;refine aF 6 rfl A (q4 isAgg3 (aI 1 rfl)) ?_;refine aF 7 rfl A (q2 (off':=1) underlying54 sizeOf3) ?_;refine aF 8 rfl A (q4 isAgg3 (aI 0 rfl)) ?_;refine q0 4 rfl (kU (H1:=[]) rfl rfl rfl rfl rfl (YX x0 y0 _) ?_ (fun _ _ _ _ h=>by cases h.1) (fun _ _ h=>by cases h.1));intro _ _ _ M W;obtain⟨h,rfl,rfl⟩:=W;cases h;refine⟨⟨(aW (aX _) M),(aN 0 rfl (aN 1 rfl bG)),bH⟩,?_⟩;refine q0 9 rfl (kU (H1:=[]) rfl rfl rfl rfl rfl (YX x1 y1 _) ?_ (fun _ _ _ _ h=>by cases h.1) (fun _ _ h=>by cases h.1));intro _ _ _ G O;obtain⟨h,rfl,rfl⟩:=O;cases h;refine⟨⟨(aW (aW (aX _) M) G),(aN 0 rfl (aN 1 rfl bG)),bH⟩,?_⟩;refine q0 10 rfl (q6 underlying23 sizeOf3 zeroValue3 (xG.one rfl (xG.one rfl xG.none)) ?_);intro _ _;refine⟨⟨(aW (aW (aX _) M) G),(aN 1 rfl (aN 2 rfl bG)),bH⟩,?_⟩;refine JA.pull dW ?_;refine q0 11 rfl (kU (H1:=[_]) rfl rfl rfl rfl rfl (b4z _ (bC x0 y0) (bC x1 y1) _) ?_ (fun _ _ _ _ h=>by cases h.1) (fun _ _ h=>by cases h.1));intro _ _ _ N Q;obtain⟨h,rfl,rfl⟩:=Q;cases h;refine⟨⟨(aW (aW (aW (aX _) M) G) N),(aN 1 rfl (aN 2 rfl bG)),bH⟩,?_⟩;refine cO ⟨(aN 1 rfl (aN 2 rfl bG)),bH,(aW (aW (aW (aX _) M) G) N)⟩ (fun S=>?_);refine aF 12 rfl S (uI rfl rfl) ?_;refine fO (by kernel_rfl) ?_;refine dH (fM (Ej.bare ?_));refine eG rfl rfl rfl ?_;exact rT
theorem a1Y s I:jO aA 263 [str s] I [] (fun e A H'=>e= .returned (.bool false)∧A=I∧H'=[]):=by
 refine jO.ob func263 ?_;intro w0 _;refine Cj.sr (J.as ?_);refine J.wY (aO q1 ?_);refine aO q1 ?_;refine aO (SY rfl rfl rfl) ?_;refine J.as ?_;refine J.ns (fM (eG rfl rfl rfl ?_));exact⟨by rw[bne_self_eq_false],rfl,rfl⟩
theorem a6w a b I:jO aA 221 [str a,str b] I [] (fun e Q H'=>e= .returned (i64 (xM a b))∧Q=I∧H'=[]):=by
 refine jO.ob func221 ?_;intro w0 _;refine Cj.sr (J.as ?_);refine J.wY (aO q1 ?_);refine bJ rfl (kU (H1:=[]) rfl rfl rfl rfl rfl (a1Y a _) ?_ (fun _ _ _ _ h=>by cases h.1) (fun _ _ h=>by cases h.1));intro _ _ _ _ O;obtain⟨h,rfl,rfl⟩:=O;cases h;refine J.as ?_;refine J.wY (aO q1 ?_);refine bJ rfl (kU (H1:=[]) rfl rfl rfl rfl rfl (a1Y b _) ?_ (fun _ _ _ _ h=>by cases h.1) (fun _ _ h=>by cases h.1));intro _ _ _ _ N;obtain⟨h,rfl,rfl⟩:=N;cases h;refine J.as ?_;refine J.a9j (fG (aO q1 ?_));refine J.c0 (fun _=>?_);refine dX (dH (gJ (Cj.sr (aO q1 ?_))));refine J.c0 (fun _=>?_);refine dX (dH (gJ (Cj.sr (aO q1 ?_))));refine aO q1 ?_;refine aO (RP rfl rfl rfl) ?_;refine J.cd (fun G=>?_) (fun G=>?_)
 ·have A:=zA G;refine Cj.sr (J.as ?_);refine J.ns (fM (Ej.YO (eG rfl rfl rfl ?_)));rw[xM,zF A];exact rT
 have A:=of_decide_eq_false G;refine dX (dH (gJ (Cj.sr (aO q1 ?_))));refine aO q1 ?_;refine aO (b1c rfl rfl rfl) ?_;refine J.cd (fun M=>?_) (fun M=>?_)
 ·refine Cj.sr (J.as ?_);refine J.ns (fM (Ej.YO (eG rfl rfl rfl ?_)));rw[xM,zD A,zF (by have h:=a9X A M;simpa using h)];exact rT
 refine dX (dH (Cj.sr (J.as ?_)));refine J.ns (fM (eG rfl rfl rfl ?_));rw[xM,zD A,zD (by have h:=a9X A M;simpa using h)];exact rT
theorem b1v a b n m I:jO aA 220 [.agg #[str a,i64 n],.agg #[str b,i64 m]] I [] (fun e _ H'=>e= .returned (i64 (xM a b))∧H'=[]):=by
 refine jO.ob func220 ?_;intro w0 _;refine Cj.sr (bJ rfl (qU rfl rfl rfl rfl rfl ?_));intro _ _;refine bJ rfl (qU rfl rfl rfl rfl rfl ?_);intro _ _;refine J.as ?_;refine J.wY (aO (q2 (off':=0) underlying268 sizeOf9) ?_);refine aO (q4 isAgg9 (jV.at 1 rfl)) ?_;refine aO (q2 (off':=0) underlying268 sizeOf9) ?_;refine aO (q4 isAgg9 (jV.at 0 rfl)) ?_;refine bJ rfl (kU (H1:=[]) rfl rfl rfl rfl rfl (a6w a b _) ?_ (fun _ _ _ _ h=>by cases h.1) (fun _ _ h=>by cases h.1));intro _ _ _ _ A;obtain⟨h,rfl,rfl⟩:=A;cases h;refine J.as ?_;refine J.ns (fM (Ej.bare ?_));refine eG rfl rfl rfl ?_;exact rT
theorem a5X x0 x1 y0 y1 w:Calls aA 78 #[.agg #[i64 x0,i64 x1],.agg #[i64 y0,i64 y1]] w fun e w'=>e= .returned (i64 (vM (bC x0 y0) (bC x1 y1)))∧∃q A,w'=fK (w.drewN q) A:=
 jO.grows (a6q x0 x1 y0 y1 _) (fun _ _ _ h=>h.1) w
theorem b3g a b n m w:Calls aA 220 #[.agg #[str a,i64 n],.agg #[str b,i64 m]] w fun e w'=>e= .returned (i64 (xM a b))∧∃q A,w'=fK (w.drewN q) A:=
 jO.grows (b1v a b n m _) (fun _ _ _ h=>h.1) w
