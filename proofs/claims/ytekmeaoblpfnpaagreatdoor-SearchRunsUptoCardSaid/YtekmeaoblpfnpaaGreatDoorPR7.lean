/-
  Own texts on the laws of the seat, joined: the logic, and contracts of functions. Conditions: none.
-/
import Derived.Test.YtekmeaoblpfnpaaGreatDoorNmR
import Derived.Test.YtekmeaoblpfnpaaGreatDoorPR6
import Derived.Deep.Draws
set_option linter.all false
set_option maxRecDepth 100000
set_option maxHeartbeats 40000000
open Go.Proofs.Tryz renaming prog -> aA
open Ix renaming plW -> aB,IG -> aC,way -> aK,cnt -> aP,qK -> bI,a8I -> cZ,Rec -> dG,vals -> dK,rW -> dZ,AB -> eY,Pl -> gB
open Go.Sx.JA renaming tk -> aF,ev -> bD,zt -> bU,fix -> cO,done -> fO
open Go.Sx.lS renaming s -> aG,z -> aT
open Go.Sx.Keeps renaming d -> aH,n -> bM,r -> dB
open Go.Sx.jR renaming atC -> aI,zL -> bV
open Go.Sx.Cj renaming qC -> aJ,skip -> dX,persist -> fA,region -> fG,ret -> fM,seq -> gJ
open Go.Sx.HSub renaming c -> aN,n -> bG
open Go.Sx.J renaming z -> aO,op -> bJ
open Go.Sx.Ej renaming keep -> aQ,BO -> aS,seq -> dH,MX -> eG,a0L -> fQ,pull -> fV,round -> gK
open List renaming length_append -> aU,getElem?_eq_some_iff -> aV,append_nil -> aZ,length_eq_zero_iff -> bF,count_le_length -> bK,length_map -> bP,getElem?_map -> bQ,flatMap_cons -> bT,length_cons -> bW,take_length -> bY,perm_append_comm -> bZ,getElem?_set -> dJ,not_mem_nil -> dL,length_drop -> dM,length_take -> dN,drop_length -> dP,nil_append -> dR,getElem?_toArray -> dV,one_le_count_iff -> dY,length_filter_le -> eF,mem_of_getElem? -> eH,mem_of_mem_drop -> eU,mem_of_mem_take -> eX,mem_cons -> fB,flatMap_append -> fC,map_nil -> fJ
open Go.Sx.Le renaming trans -> aW,refl -> aX
open Go.Sx.World renaming block -> aY
open Go.Lib renaming compareInt -> bC
open Go.Sx.CSub renaming n -> bH
open List.Perm renaming cons -> dA
open Nat renaming zero_le -> dD,mul_le_mul_right -> eP
open Array renaming ext_getElem? -> dF,getElem?_modify -> dU
open Go.Result renaming andThen_ok -> dI
open Option renaming map_some -> dQ,map -> gQ
open Go.Instr renaming mapEntry -> dS,keyThatStays -> fF,entryStore -> fP,findKey -> fZ
open Go.Sx.Pull renaming z -> dW,s -> gG
open Bool renaming false_eq_true -> fD
open Go.Sem renaming run_bind -> fE,run -> fU
open Go.Sx.pR renaming part -> fH
open Go.Sort renaming grow -> fK
open Go.Sx.jO renaming perm -> gI
namespace Go.Sx
open Go
section
variable {α:Type} [BEq α] [LawfulBEq α]
def wE (l:ML α) (a:α) (c:Nat):Nat:=match l with
 |[]=>c
 |(b,_,n)::r=>if a == b then n else wE r a c
omit [LawfulBEq α] in
theorem WS{l}{a:α}{c:Nat}(h:kH l a=none):wE l a c=c:=by
 induction l with
 |nil=>rfl
 |cons p r G=>
  obtain⟨b,u,n⟩:=p;unfold kH at h;unfold wE
  split at h
  ·cases h
  rename_i A
  rw[zD A];exact G h
theorem WO{a v}:∀(l:ML α) (c i:Nat),kH l a=some v→∃j,midx l a i=some (i+j,v)∧l[j]?=some (a,v,wE l a c)∧∀x A,kN l a x A=l.set j (a,x,wE l a c)
 |[],_,_,h=>by cases h
 |(b,u,n)::r,c,i,h=>by
  unfold kH at h
  split at h
  ·rename_i O
   have M:=zB O;subst M;cases h;exact⟨0,by simp[midx],by simp[wE],fun x A=>by simp[kN,wE]⟩
  rename_i N
  have G:(a == b)=false:=by simpa using N
  obtain⟨j,h1,h2,h3⟩:=WO r c (i+1) h;refine⟨j+1,?_,?_,fun x A=>by simp[kN,wE,G,h3]⟩
  ·simp only[midx,G,fD,if_false];rw[h1,Nat.add_assoc,Nat.add_comm 1 j]
  simp only[List.getElem?_cons_succ,wE,G,fD,if_false];exact h2
variable {cx:Cx} {Q:Qt} {e:Env} {I:Heap} {H:HL} {o:Oper} {C:Ct} {S:World→Prop}
theorem a3J{P:Program}{T K E b c:Nat}{kv:α→Value}{l:ML α}{a:α}{z:Value}{w:World}(Q:P.underlying T=some (.map K E))(hk:mY P K kv)(hz:∀w,(zeroValue E).run P w= .ok z w)(S:w.heap[b]?=some (kG kv l c)):
 (dS T (.map (some b)) (kv a)).run P w= .ok (.tuple #[(kH l a).getD z,i64 (wE l a c:Int)]) (aY w b (kG kv (kN l a ((kH l a).getD z) c) (mV l a c))):=by
 obtain⟨W,Z,G⟩:=hk;have hg:(getObj b).run P w= .ok (kG kv l c) w:=by simp[getObj,fU,S,kG]
 have hset:∀o',(setObj b o').run P w= .ok () (aY w b o'):=fun o'=>by simp[setObj,fU,S,aY,kG]
 cases hm:kH l a with
 |none=>
  obtain⟨h1,h2⟩:=yY l 0 hm;have h3:(fZ K (kv a) (l.map (oV kv))).run P w= .ok none w:=by rw[W,h1]
  simp only[dS,fE,run_underlying Q,dI,hg,kG,Z,h3,hz,hset,h2,mV,hm,WS hm];simp[goInt]
 |some u=>
  obtain⟨j,h1,h2,h3⟩:=WO l c 0 hm;rw[Nat.zero_add]at h1;have h4:(fZ K (kv a) (l.map (oV kv))).run P w= .ok (some (j,u)) w:=by rw[W,h1]
  have hj:(l.map (oV kv)).toArray[j]?=some { key:=kv a,val:=u,born:=wE l a c }:=by simp[h2,oV]
  have M:∀w,(fF (kv a) (kv a)).run P w= .ok (kv a) w:=fun w=>by simp[fF,G]
  simp only[dS,fE,run_underlying Q,dI,hg,kG,Z,h4,hj,dQ,Option.getD_some,M,hset,h3,mV,hm,Option.isSome_some,if_true,goInt,Sem.run_pure];refine zC (fun A=>Result.ok (Value.tuple #[u,Value.int .i64 (wE l a c:Int)]) (aY w b (Obj.map A c))) ?_
  apply dF
  intro i;rw[dU];simp only[dV,bQ,dJ]
  by_cases hi:j=i
  ·subst hi;have N:j<l.length:=by
    rcases Nat.lt_or_ge j l.length with O|O
    ·exact O
    simp[List.getElem?_eq_none O]at h2
   have h5:l[j]=(a,u,wE l a c):=by
    have:=List.getElem?_eq_getElem N;rw[h2]at this;exact(Option.some.inj this).symm
   simp[N,h5]
  simp[hi]
theorem uV{T K E b c d:Nat}{m x}{kv:α→Value}{l a}{G z:Value}{H'}(i:Nat)(Z:o.op= .mapEntry T m x)(hd:o.dst=some d)(hn:Nat.blt d cx.n=true)(hm:ev e m=some (.map (some b)))(hx:ev e x=some G)(M:G=kv a)(hT:cx.P.underlying T=some (.map K E))(hK:mY cx.P K kv)(hz:∀w,(zeroValue E).run cx.P w= .ok z w)
 (N:H[i]?=some (b,kG kv l c))(O:lS H i (b,kG kv (kN l a ((kH l a).getD z) c) (mV l a c)) H')(kk:C ((d,.tuple #[(kH l a).getD z,i64 (wE l a c:Int)])::e) I H'):mF cx Q o e I H C:=by
 intro _ S w0 w A W;unfold Oper.wp;subst M;have hb:=W.own _ (eH N);have hr:=a3J (a:=a) hT hK hz hb;have:(execOp w0.eval o).run cx.P w= .ok (.value (.tuple #[(kH l a).getD z,i64 (wE l a c:Int)])) (aY w b (kG kv (kN l a ((kH l a).getD z) c) (mV l a c))):=by
  simp[execOp,Z,A.eval hm,A.eval hx,hr]
 rw[this];simp only[Oper.upon,hd];exact S _ _ _ kk _ _ (A.put hn) (W.block N O)
theorem b1u{l:ML α}{a:α}{x v:Value}{c:Nat}(h:MS l c):∃j,(kN l a x c)[j]?=some (a,x,wE l a c)∧kN l a v c=(kN l a x c).set j (a,v,wE l a c):=by
 cases hm:kH l a with
 |none=>
  obtain⟨_,h2⟩:=yY l 0 hm;refine⟨l.length,?_,?_⟩
  ·rw[h2,WS hm];simp
  rw[h2,h2,WS hm];simp
 |some u=>
  obtain⟨j,_,h2,h3⟩:=WO l c 0 hm;refine⟨j,?_,?_⟩
  ·rw[h3,dJ,zF rfl,zF (aV.1 h2).1]
  rw[h3,h3,List.set_set]
theorem a0j{P:Program}{T b c:Nat}{kv:α→Value}{l:ML α}{a:α}{x v:Value}{w:World}(h:MS l c)(O:w.heap[b]?=some (kG kv (kN l a x c) (mV l a c))):
 (fP T (.map (some b)) (i64 (wE l a c:Int)) v).run P w= .ok () (aY w b (kG kv (kN l a v c) (mV l a c))):=by
 have Q:(getObj b).run P w= .ok (kG kv (kN l a x c) (mV l a c)) w:=by simp[getObj,fU,O,kG]
 have hset:∀o',(setObj b o').run P w= .ok () (aY w b o'):=fun o'=>by simp[setObj,fU,O,aY,kG]
 obtain⟨j,h1,h2⟩:=b1u (x:=x) (v:=v) (a:=a) h;have M:=h.set a x;generalize kN l a x c=L at h1 h2 M Q;have N:j<L.length:=(aV.1 h1).1;have G:L[j]=(a,x,wE l a c):=(aV.1 h1).2;have Z:(L.map (oV kv)).toArray.findIdx? (fun e=>(e.born:Int) == (wE l a c:Int))=some j:=by
  rw[List.findIdx?_toArray,List.findIdx?_eq_some_iff_getElem];refine⟨by simpa using N,by simp[G],fun k hk=>?_⟩;simp only[List.getElem_map,Bool.not_eq_true,beq_eq_false_iff_ne,ne_eq];intro he;have S:k<L.length:=oM;have h3:=M.2.1;rw[List.nodup_iff_pairwise_ne,List.pairwise_map,List.pairwise_iff_getElem]at h3;refine h3 k j S N hk ?_;rw[G];exact Int.ofNat_inj.1 he
 have W:∀w,(asInt (i64 (wE l a c:Int))).run P w= .ok (wE l a c:Int) w:=fun w=>by simp[asInt,asIntOf]
 simp only[fP,fE,Q,kG,dI,W,Z,hset];refine zC (fun A=>Result.ok () (aY w b (Obj.map A (mV l a c)))) ?_;rw[h2]
 apply dF
 intro i;rw[dU];simp only[dV,bQ,dJ]
 by_cases hi:j=i
 ·subst hi;simp[N,G]
 simp[hi]
theorem rM{T b c:Nat}{m x y:Operand}{kv:α→Value}{l:ML α}{a:α}{u v:Value}{n:Int}{H':HL}(i:Nat)(Z:o.op= .entryStore T m x y)(hd:o.dst=none)(hm:ev e m=some (.map (some b)))(hx:ev e x=some (i64 n))(G:n=(wE l a c:Int))(hy:ev e y=some v)(M:MS l c)
 (N:H[i]?=some (b,kG kv (kN l a u c) (mV l a c)))(O:lS H i (b,kG kv (kN l a v c) (mV l a c)) H')(kk:C e I H'):mF cx Q o e I H C:=by
 intro _ S w0 w A W;unfold Oper.wp;subst G;have hb:=W.own _ (eH N);have hr:=a0j (P:=cx.P) (T:=T) (v:=v) M hb;have:(execOp w0.eval o).run cx.P w= .ok .skip (aY w b (kG kv (kN l a v c) (mV l a c))):=by
  simp[execOp,Z,A.eval hm,A.eval hx,A.eval hy,hr]
 rw[this];simp only[Oper.upon,hd];exact S _ _ _ kk _ _ A.AZ (W.block N O)
end
end Go.Sx
section
namespace Go.Proofs.YtekmeaoblpfnpaaGreatDoor
open _root_.Go.Proofs.Tryz
open Go Go.Sx
abbrev jZ (t:dG):Value:= .agg #[i64 t.1,i64 t.2]
abbrev nD (p:gB):Value:= .agg #[str p.1,str p.2]
theorem nC:mY aA 54 jZ:=mY.a7X a4k kR dE dE rfl rfl rfl rfl tU3 JF
theorem tN:mY aA 152 nD:=mY.b6E TG kR dE dE rfl rfl rfl rfl lM lQ
def setH (b:Nat) (l:ML gB) (c:Nat) (N:vP gB dG):HL:=(b,kG nD l c)::zY jZ N
theorem GH b l c A B p G m k:([(b,kG nD l c),(G,kG jZ m k)]++zY jZ (A++B)).Perm (setH b l c (A++(p,G,m,k)::B)):=
 dA _ (a9K jZ A B p G m k)
theorem KX{α:Type}[BEq α][LawfulBEq α](l:ML α)(a:α)(v:Value)(c:Nat):kN l a v c≠[]:=fun h=>by
 have:=(b1k (l:=l) (a:=a) (x:=a) (v:=v) (c:=c)).2 (.inr rfl);rw[h]at this;cases this
theorem wL{α:Type}[BEq α][LawfulBEq α]{l:ML α}{a:α}{v z:Value}{c:Nat}:(kH (kN l a v c) a).getD z=v:=by
 rw[wB];simp
theorem a8V{n}(h:n≠0):cv n=some (i64 (n:Int)):=zD h
theorem b5m b l c p t (N:kH l p=none) I:jO aA 97 [.map (some b),nD p,jZ t] I [(b,kG nD l c)]
 (fun e _ H'=>∃A,e= .returned (.tuple #[])∧H'=[(b,kG nD (kN l p (.map (some A)) c) (mV l p c)),(A,kG jZ (kN [] t (i64 1) 0) (mV ([]:ML dG) t 0))]):=by
 refine jU func97 fun w0 _=>?_;refine jL 3 ?_;intro _ _;refine jL 1 ?_;intro _ _;refine jL 7 ?_;refine aO (kQ (kv:=nD) (l:=l) (a:=p) rfl rfl rfl rfl pV tN sH (jR.at 2 rfl)) ?_;refine J.ev 8 (.map none) rfl (by rw[N];rfl) ?_;refine jL 7 ?_;refine bJ rfl (kS rfl rfl rfl ?_);intro G _;refine bJ rfl (nY (kv:=nD) (a:=p) 3 (.inr rfl) rfl rfl rfl rfl rfl pV tN rfl (aG (aG (aG aT))) ?_);refine jL 2 ?_;refine aJ [1,2,3] [] 9 kR ?_;refine jL 2 ?_;refine bU 2 rfl (kQ (kv:=nD) (l:=(kN l p (.map (some G)) c)) (a:=p) rfl rfl rfl rfl pV tN sH (aI 2 rfl)) ?_;refine bD 15 (.map (some G)) rfl wL ?_;refine jL 1 ?_;refine JA.all [4,6] kR sI ?_;intro i M;simp only[fB,dL,or_false]at M;rcases M with rfl|rfl
 ·refine⟨_,rfl,rfl,?_⟩;refine kV (kQ (kv:=jZ) (l:=[]) (a:=t) rfl rfl rfl rfl oK nC JQ (jR.at 0 rfl)) rfl rfl ?_;refine jL 1 ?_;refine bD 17 (i64 0) rfl rfl ?_;refine cO lI (fun _=>?_);refine bU 5 rfl (zT rfl rfl rfl (qW dE)) ?_;refine q0 6 rfl (uV (kv:=jZ) (l:=[]) (c:=0) (a:=t) 0 rfl rfl rfl rfl rfl rfl oK nC JQ rfl aT ?_);refine jL 2 ?_;refine q0 8 rfl (rM (kv:=jZ) (l:=[]) (a:=t) (c:=0) 0 rfl rfl rfl rfl rfl rfl MS.nil rfl aT ?_);refine jL 2 ?_;refine aQ (Keeps.k (aH (aH (Keeps.k bM)))) ?_;refine fV dW ?_;refine fV (gG dW) ?_;refine aS rfl rfl ?_;exact⟨_,rfl,rfl⟩
 refine⟨_,rfl,rfl,?_⟩;refine uV (kv:=jZ) (l:=[]) (c:=0) (a:=t) 0 rfl rfl rfl rfl rfl rfl oK nC JQ rfl aT ?_;refine jL 2 ?_;refine q0 4 rfl (kV (kQ (kv:=jZ) (l:=(kN [] t ((kH [] t).getD (.int .i64 0)) 0)) (a:=t) rfl rfl rfl rfl oK nC JQ (jR.at 0 rfl)) rfl rfl ?_);refine jL 1 ?_;refine bD 17 (i64 0) rfl wL ?_;refine cO lI (fun _=>?_);refine bU 5 rfl (zT rfl rfl rfl (qW dE)) ?_;refine q0 8 rfl (rM (kv:=jZ) (l:=[]) (a:=t) (c:=0) 0 rfl rfl rfl rfl rfl rfl MS.nil rfl aT ?_);refine jL 2 ?_;refine aQ (Keeps.k (aH (aH (Keeps.k bM)))) ?_;refine fV dW ?_;refine fV (gG dW) ?_;refine aS rfl rfl ?_;exact⟨_,rfl,rfl⟩
theorem b5G b l c p t A m (k n:Nat)(M:kH l p=some (.map (some A)))(G:MS m k)(N:(kH m t).getD (i64 0)=i64 (n:Int))(Q:n≤1000000000000000) I:jO aA 97 [.map (some b),nD p,jZ t] I [(b,kG nD l c),(A,kG jZ m k)]
 (fun e _ H'=>e= .returned (.tuple #[])∧H'=[(b,kG nD l c),(A,kG jZ (kN m t (i64 ((n+1:Nat):Int)) k) (mV m t k))]):=by
 refine jU func97 fun w0 _=>?_;refine jL 3 ?_;intro _ _;refine jL 1 ?_;intro _ _;refine jL 7 ?_;refine aO (kQ (kv:=nD) (l:=l) (a:=p) rfl rfl rfl rfl pV tN sH (jR.at 2 rfl)) ?_;refine J.ev 8 (.map (some A)) rfl (by rw[M];rfl) ?_;refine jL 6 ?_;refine aJ [0,1,2] [] 9 kR ?_;refine jL 2 ?_;refine bU 2 rfl (kQ (kv:=nD) (l:=l) (a:=p) rfl rfl rfl rfl pV tN sH (aI 2 rfl)) ?_;refine bD 15 (.map (some A)) rfl (by rw[M];rfl) ?_;refine jL 1 ?_;refine JA.all [4,6] kR sI ?_;intro i O;simp only[fB,dL,or_false]at O;rcases O with rfl|rfl
 ·refine⟨_,rfl,rfl,?_⟩;refine kV (kQ (kv:=jZ) (l:=m) (a:=t) rfl rfl rfl rfl oK nC JQ (jR.at 3 rfl)) rfl rfl ?_;refine jL 1 ?_;refine bD 17 (i64 (n:Int)) rfl N ?_;refine jL 1 ?_;refine q0 6 rfl (uV (kv:=jZ) (l:=m) (c:=k) (a:=t) 3 rfl rfl rfl rfl rfl rfl oK nC JQ rfl (aG (aG (aG aT))) ?_);refine jL 2 ?_;refine q0 8 rfl (rM (kv:=jZ) (l:=m) (a:=t) (c:=k) 3 rfl rfl rfl rfl rfl rfl G rfl (aG (aG (aG aT))) ?_);refine jL 2 ?_;refine aQ (aH (aH (Keeps.k (Keeps.k bM)))) ?_;refine aS rfl rfl ?_;exact rT
 refine⟨_,rfl,rfl,?_⟩;refine uV (kv:=jZ) (l:=m) (c:=k) (a:=t) 3 rfl rfl rfl rfl rfl rfl oK nC JQ rfl (aG (aG (aG aT))) ?_;refine jL 2 ?_;refine q0 4 rfl (kV (kQ (kv:=jZ) (l:=(kN m t ((kH m t).getD (.int .i64 0)) k)) (a:=t) rfl rfl rfl rfl oK nC JQ (jR.at 3 rfl)) rfl rfl ?_);refine jL 1 ?_;refine bD 17 (i64 (n:Int)) rfl (wL.trans N) ?_;refine jL 1 ?_;refine q0 8 rfl (rM (kv:=jZ) (l:=m) (a:=t) (c:=k) 3 rfl rfl rfl rfl rfl rfl G rfl (aG (aG (aG aT))) ?_);refine jL 2 ?_;refine aQ (aH (aH (Keeps.k (Keeps.k bM)))) ?_;refine aS rfl rfl ?_;exact rT
theorem b0K b l c N f p t (h:lD l c N f)(hf:f p t≤1000000000000000) I:
 jO aA 97 [.map (some b),nD p,jZ t] I (setH b l c N) (fun e _ H'=>∃l' c' N',e= .returned (.tuple #[])∧lD l' c' N' (bump f p t (· +1))∧H'=setH b l' c' N'):=by
 rcases h.find p with⟨a0,M,hz⟩|⟨A,G,m,k,B,rfl,M,Q,a1,S,hA,hB⟩
 ·have h1:=(b5m b l c p t M I).frame (zY jZ N);refine h1.leave fun e I' H' _ ⟨H1,W,G,Z,O⟩=>⟨_,[],?_,kN l p (.map (some G)) c,mV l p c,N++[(p,G,kN [] t (i64 1) 0,mV ([]:ML dG) t 0)],Z,h.add a0 (MS.nil.set t _) (KX _ _ _ _) (fun s=>?_),rfl⟩
  ·rw[aZ,W,O];unfold setH;rw[QJ];exact dA _ bZ
  rw[wB]
  by_cases hs:(s == t)=true
  ·rw[zF hs,zF hs];rfl
  rw[zD hs,zD hs];rfl
 have hn:=b0b S t;have h1:=(gI (GH b l c A B p G m k) ((b5G b l c p t G m k (f p t) M Q hn hf I).frame (zY jZ (A++B))));refine h1.leave fun e I' H' _ ⟨H1,W,Z,O⟩=>⟨_,[],?_,l,c,A++(p,G,kN m t (i64 ((f p t+1:Nat):Int)) k,mV m t k)::B,Z,h.set (d:=(· +1)) (Q.set t _) (KX _ _ _ _) (fun s=>?_),rfl⟩
 ·rw[aZ,W,O];exact(GH b l c A B p G _ _).symm
 exact a9y S t (f p t+1) (Nat.succ_ne_zero _) k s
theorem a8N b l c p t A m (k n:Nat)(G:kH l p=some (.map (some A)))(a3:MS m k)(hn:(kH m t).getD (i64 0)=i64 (n:Int))(a8:1≤n)(a9:n≤1000000000000000) I:jO aA 90 [.map (some b),nD p,jZ t] I [(b,kG nD l c),(A,kG jZ m k)]
 (fun e _ H'=>(n≠1∧e= .returned (.tuple #[])∧H'=[(b,kG nD l c),(A,kG jZ (kN m t (i64 ((n-1:Nat):Int)) k) (mV m t k))])∨(n=1∧(nX (kN m t (i64 ((n-1:Nat):Int)) k) t)≠[]∧e= .returned (.tuple #[])∧H'=[(b,kG nD l c),(A,kG jZ (nX (kN m t (i64 ((n-1:Nat):Int)) k) t) (mV m t k))])∨(n=1∧(nX (kN m t (i64 ((n-1:Nat):Int)) k) t)=[]∧e= .returned (.tuple #[])∧H'=[(b,kG nD (nX l p) c),(A,kG jZ (nX (kN m t (i64 ((n-1:Nat):Int)) k) t) (mV m t k))])):=by
 refine jU func90 fun w0 _=>?_;refine jL 3 ?_;intro _ _;refine jL 1 ?_;intro _ _;refine jL 3 ?_;refine aJ [0,1,2] [] 9 kR ?_;refine jL 2 ?_;refine bU 2 rfl (kQ (kv:=nD) (l:=l) (a:=p) rfl rfl rfl rfl pV tN sH (aI 2 rfl)) ?_;refine bD 8 (.map (some A)) rfl (by rw[G];rfl) ?_;refine jL 1 ?_;refine JA.all [4,6] kR sI ?_;intro i hi;simp only[fB,dL,or_false]at hi;rcases hi with rfl|rfl
 ·refine⟨_,rfl,rfl,?_⟩;refine kV (kQ (kv:=jZ) (l:=m) (a:=t) rfl rfl rfl rfl oK nC JQ (jR.at 3 rfl)) rfl rfl ?_;refine jL 1 ?_;refine bD 10 (i64 (n:Int)) rfl hn ?_;refine jL 1 ?_;refine bD 11 (i64 ((n-1:Nat):Int)) rfl (zC i64 oM) ?_;refine q0 6 rfl (uV (kv:=jZ) (l:=m) (c:=k) (a:=t) 3 rfl rfl rfl rfl rfl rfl oK nC JQ rfl (aG (aG (aG aT))) ?_);refine jL 2 ?_;refine q0 8 rfl (rM (kv:=jZ) (l:=m) (a:=t) (c:=k) 3 rfl rfl rfl rfl rfl rfl a3 rfl (aG (aG (aG aT))) ?_);refine jL 5 ?_;refine aJ [0,1,2,3] [] 6 kR ?_;refine jL 2 ?_;refine bU 2 rfl (kQ (kv:=nD) (l:=l) (a:=p) rfl rfl rfl rfl pV tN sH (aI 2 rfl)) ?_;refine bD 16 (.map (some A)) rfl (by rw[G];rfl) ?_;refine jL 1 ?_;refine bU 4 rfl (kQ (kv:=jZ) (l:=(kN m t (i64 ((n-1:Nat):Int)) k)) (a:=t) rfl rfl rfl rfl oK nC JQ (aI 3 rfl)) ?_;refine bD 18 (i64 ((n-1:Nat):Int)) rfl wL ?_;refine jS ?_ ?_<;>intro a7 a4
  ·refine aJ [0,1,2] [] 5 kR ?_;refine jL 2 ?_;refine bU 2 rfl (kQ (kv:=nD) (l:=l) (a:=p) rfl rfl rfl rfl pV tN sH (aI 2 rfl)) ?_;refine bD 22 (.map (some A)) rfl (by rw[G];rfl) ?_;refine jL 1 ?_;refine q0 4 rfl (AO (kv:=jZ) (a:=t) 3 rfl rfl rfl rfl rfl oK nC rfl (aG (aG (aG aT))) ?_);refine jL 7 ?_;refine aO (kQ (kv:=nD) (l:=l) (a:=p) rfl rfl rfl rfl pV tN sH (jR.at 2 rfl)) ?_;refine J.ev 26 (.map (some A)) rfl (by rw[G];rfl) ?_;refine aO (yP (kv:=jZ) (l:=(nX (kN m t (i64 ((n-1:Nat):Int)) k) t)) rfl rfl oK (jR.at 3 rfl)) ?_;refine jS ?_ ?_<;>intro N a5
   ·have O:(nX (kN m t (i64 ((n-1:Nat):Int)) k) t)=[]:=bF.1 (by have h:=lU N;omega);refine jL 3 ?_;refine bJ rfl (AO (kv:=nD) (a:=p) 2 rfl rfl rfl rfl rfl pV tN rfl (aG (aG aT)) ?_);refine jL 1 ?_;refine aQ (aH (aH (Keeps.k (Keeps.k bM)))) ?_;refine aS rfl rfl ?_;exact .inr (.inr ⟨oM,O,rfl,rfl⟩)
   have Q:(nX (kN m t (i64 ((n-1:Nat):Int)) k) t)≠[]:=fun e=>by have h:=lY N;rw[e]at h;exact h rfl
   refine jL 1 ?_;refine aQ (aH (aH (Keeps.k (Keeps.k bM)))) ?_;refine aS rfl rfl ?_;exact .inr (.inl ⟨oM,Q,rfl,rfl⟩)
  refine jL 6 ?_;refine aO (kQ (kv:=nD) (l:=l) (a:=p) rfl rfl rfl rfl pV tN sH (jR.at 2 rfl)) ?_;refine J.ev 26 (.map (some A)) rfl (by rw[G];rfl) ?_;refine aO (yP (kv:=jZ) (l:=(kN m t (i64 ((n-1:Nat):Int)) k)) rfl rfl oK (jR.at 3 rfl)) ?_;refine jS ?_ ?_<;>intro S Z
  ·exact absurd (show(kN m t (i64 ((n-1:Nat):Int)) k)=[] from bF.1 (by have h:=lU S;omega)) (KX _ _ _ _)
  refine jL 1 ?_;refine aQ (aH (aH (Keeps.k (Keeps.k bM)))) ?_;refine aS rfl rfl ?_;exact .inl ⟨oM,rfl,rfl⟩
 refine⟨_,rfl,rfl,?_⟩;refine uV (kv:=jZ) (l:=m) (c:=k) (a:=t) 3 rfl rfl rfl rfl rfl rfl oK nC JQ rfl (aG (aG (aG aT))) ?_;refine jL 2 ?_;refine q0 4 rfl (kV (kQ (kv:=jZ) (l:=(kN m t ((kH m t).getD (.int .i64 0)) k)) (a:=t) rfl rfl rfl rfl oK nC JQ (jR.at 3 rfl)) rfl rfl ?_);refine jL 1 ?_;refine bD 10 (i64 (n:Int)) rfl (wL.trans hn) ?_;refine jL 1 ?_;refine bD 11 (i64 ((n-1:Nat):Int)) rfl (zC i64 oM) ?_;refine q0 8 rfl (rM (kv:=jZ) (l:=m) (a:=t) (c:=k) 3 rfl rfl rfl rfl rfl rfl a3 rfl (aG (aG (aG aT))) ?_);refine jL 5 ?_;refine aJ [0,1,2,3] [] 6 kR ?_;refine jL 2 ?_;refine bU 2 rfl (kQ (kv:=nD) (l:=l) (a:=p) rfl rfl rfl rfl pV tN sH (aI 2 rfl)) ?_;refine bD 16 (.map (some A)) rfl (by rw[G];rfl) ?_;refine jL 1 ?_;refine bU 4 rfl (kQ (kv:=jZ) (l:=(kN m t (i64 ((n-1:Nat):Int)) k)) (a:=t) rfl rfl rfl rfl oK nC JQ (aI 3 rfl)) ?_;refine bD 18 (i64 ((n-1:Nat):Int)) rfl wL ?_;refine jS ?_ ?_<;>intro a6 a0
 ·refine aJ [0,1,2] [] 5 kR ?_;refine jL 2 ?_;refine bU 2 rfl (kQ (kv:=nD) (l:=l) (a:=p) rfl rfl rfl rfl pV tN sH (aI 2 rfl)) ?_;refine bD 22 (.map (some A)) rfl (by rw[G];rfl) ?_;refine jL 1 ?_;refine q0 4 rfl (AO (kv:=jZ) (a:=t) 3 rfl rfl rfl rfl rfl oK nC rfl (aG (aG (aG aT))) ?_);refine jL 7 ?_;refine aO (kQ (kv:=nD) (l:=l) (a:=p) rfl rfl rfl rfl pV tN sH (jR.at 2 rfl)) ?_;refine J.ev 26 (.map (some A)) rfl (by rw[G];rfl) ?_;refine aO (yP (kv:=jZ) (l:=(nX (kN m t (i64 ((n-1:Nat):Int)) k) t)) rfl rfl oK (jR.at 3 rfl)) ?_;refine jS ?_ ?_<;>intro M a1
  ·have O:(nX (kN m t (i64 ((n-1:Nat):Int)) k) t)=[]:=bF.1 (by have h:=lU M;omega);refine jL 3 ?_;refine bJ rfl (AO (kv:=nD) (a:=p) 2 rfl rfl rfl rfl rfl pV tN rfl (aG (aG aT)) ?_);refine jL 1 ?_;refine aQ (aH (aH (Keeps.k (Keeps.k bM)))) ?_;refine aS rfl rfl ?_;exact .inr (.inr ⟨oM,O,rfl,rfl⟩)
  have Q:(nX (kN m t (i64 ((n-1:Nat):Int)) k) t)≠[]:=fun e=>by have h:=lY M;rw[e]at h;exact h rfl
  refine jL 1 ?_;refine aQ (aH (aH (Keeps.k (Keeps.k bM)))) ?_;refine aS rfl rfl ?_;exact .inr (.inl ⟨oM,Q,rfl,rfl⟩)
 refine jL 6 ?_;refine aO (kQ (kv:=nD) (l:=l) (a:=p) rfl rfl rfl rfl pV tN sH (jR.at 2 rfl)) ?_;refine J.ev 26 (.map (some A)) rfl (by rw[G];rfl) ?_;refine aO (yP (kv:=jZ) (l:=(kN m t (i64 ((n-1:Nat):Int)) k)) rfl rfl oK (jR.at 3 rfl)) ?_;refine jS ?_ ?_<;>intro W a2
 ·exact absurd (show(kN m t (i64 ((n-1:Nat):Int)) k)=[] from bF.1 (by have h:=lU W;omega)) (KX _ _ _ _)
 refine jL 1 ?_;refine aQ (aH (aH (Keeps.k (Keeps.k bM)))) ?_;refine aS rfl rfl ?_;exact .inl ⟨oM,rfl,rfl⟩
theorem b5n{n}(h:cv n=none):n=0:=by
 unfold cv at h
 split at h
 ·assumption
 cases h
theorem a3h{m k}(h:MS m k) t v (s:dG):kH (nX (kN m t v k) t) s=if s == t then none else kH m s:=by
 rw[SB (h.set t v).1,wB]
 by_cases hs:(s == t)=true
 ·rw[zF hs,zF hs]
 rw[zD hs,zD hs,zD hs]
theorem a2j b l c N f p t (h:lD l c N f)(W:1≤f p t)(hf:f p t≤1000000000000000) I:
 jO aA 90 [.map (some b),nD p,jZ t] I (setH b l c N) (fun e _ H'=>∃l' c' N',e= .returned (.tuple #[])∧lD l' c' N' (bump f p t (· -1))∧H'=setH b l' c' N'):=by
 rcases h.find p with⟨a2,Z,hz⟩|⟨A,O,m,k,B,rfl,Z,G,a3,Q,hA,hB⟩
 ·rw[hz t]at W;omega
 have hn:=b0b Q t;have h1:=(gI (GH b l c A B p O m k) ((a8N b l c p t O m k (f p t) Z G hn W hf I).frame (zY jZ (A++B))));refine h1.leave fun e _ H' _ ⟨H1,hH,hq⟩=>?_;rcases hq with⟨h9,S,M⟩|⟨h9,a0,S,M⟩|⟨h9,a1,S,M⟩
 ·refine⟨_,[],?_,l,c,A++(p,O,kN m t (i64 ((f p t-1:Nat):Int)) k,mV m t k)::B,S,h.set (d:=(· -1)) (G.set t _) (KX _ _ _ _) (fun s=>?_),rfl⟩
  ·rw[aZ,hH,M];exact(GH b l c A B p O _ _).symm
  exact a9y Q t (f p t-1) oM k s
 ·refine⟨_,[],?_,l,c,A++(p,O,nX (kN m t (i64 ((f p t-1:Nat):Int)) k) t,mV m t k)::B,S,h.set (d:=(· -1)) ((G.set t _).del t) a0 (fun s=>?_),rfl⟩
  ·rw[aZ,hH,M];exact(GH b l c A B p O _ _).symm
  rw[a3h G];show _=if (s == t)=true then cv (f p t-1)else _;rw[h9];rfl
 refine⟨_,[(O,kG jZ (nX (kN m t (i64 ((f p t-1:Nat):Int)) k) t) (mV m t k))],?_,nX l p,c,A++B,S,h.drop (d:=(· -1)) (fun s hs=>?_) (by show f p t-1=0;omega),rfl⟩
 ·rw[hH,M];unfold setH;exact dA _ bZ
 have h2:=a3h G t (i64 ((f p t-1:Nat):Int)) s;rw[a1,zD (by simpa using hs),Q]at h2;exact b5n h2.symm
end Go.Proofs.YtekmeaoblpfnpaaGreatDoor
end
namespace Go.Proofs.YtekmeaoblpfnpaaGreatDoor
open _root_.Go.Proofs.Tryz
open Go Go.Sx
abbrev vN (vb wb kb:Nat):List Value:=[.map (some vb),.map (some wb),.map (some kb)]
structure nI where
  t:Ix.Rec
  k:UInt8
  l:UInt8
  v:Value
  fs:List Ke.sG
def oH (e:nI):List Value:=[i64 e.t.1,i64 e.t.2,u8 e.k,u8 e.l,e.v]
theorem pF e:(oH e).length=5:=rfl
theorem b4S S W O vb wb kb ek el ev l c N f p t (h:lD l c N f)(hf:f p t≤1000000000000000) I (Z:I S=some (jM 26 [ptr O 0]))(a0:I W=some (jM 59 [i64 t.1,i64 t.2,u8 ek,u8 el,ev])):
 jO aA 96 [nD p,ptr S 0,ptr W 0] I ([(O,jM 114 (vN vb wb kb))]++setH wb l c N) (fun e _ H'=>∃l' c' N',e= .returned (.tuple #[])∧lD l' c' N' (bump f p t (· +1))∧H'=[(O,jM 114 (vN vb wb kb))]++setH wb l' c' N'):=by
 refine jO.ob func96 ?_;intro w0 _;refine Cj.sr (bJ rfl (rV rfl rfl rfl rfl rfl ?_));intro _ _;refine J.ns (aJ [0,1] [] 8 kR ?_);have G:=Z;have M:=a0;refine cO ⟨(aN 0 rfl (aN 1 rfl bG)),bH,(aX _)⟩ (fun A=>?_);refine aF 0 rfl A (q4 isAgg26 (bV G)) ?_;refine aF 1 rfl A (qU rfl rfl) ?_;refine aF 2 rfl A (q1 (off':=1) IZ EY) ?_;refine aF 3 rfl A (q4 isAgg112 (aI 1 rfl)) ?_;refine aF 4 rfl A (lF rfl rfl isAgg152 sizeOf152 (aI 0 rfl) rfl rfl) ?_;refine aF 5 rfl A (q1 (off':=0) NH lG) ?_;refine aF 6 rfl A (lF rfl rfl oC lG (bV M) rfl rfl) ?_;refine q0 7 rfl (wQ (H1:=setH _ _ _ _) [_,_] rfl rfl rfl rfl rfl rfl (b0K wb l c N f p t h hf _) ?_ (fun _ _ _ _ ⟨_,_,_,h,_⟩=>by cases h) (fun _ _ ⟨_,_,_,h,_⟩=>by cases h));intro _ _ _ Q a1;obtain⟨l1,c1,N1,h,hN,rfl⟩:=a1;cases h;refine⟨⟨(aW (aX _) Q),(aN 0 rfl (aN 1 rfl bG)),bH⟩,?_⟩;refine fO kR ?_;refine aQ (aH (Keeps.k dB)) ?_;refine aS rfl rfl ?_;exact⟨l1,c1,N1,rfl,hN,rfl⟩
theorem b5b S W O vb wb kb ek el ev l c N f p t (h:lD l c N f)(hf:f p t≤1000000000000000) I (Z:I S=some (jM 26 [ptr O 0]))(a0:I W=some (jM 59 [i64 t.1,i64 t.2,u8 ek,u8 el,ev])):
 jO aA 98 [nD p,ptr S 0,ptr W 0] I ([(O,jM 114 (vN vb wb kb))]++setH kb l c N) (fun e _ H'=>∃l' c' N',e= .returned (.tuple #[])∧lD l' c' N' (bump f p t (· +1))∧H'=[(O,jM 114 (vN vb wb kb))]++setH kb l' c' N'):=by
 refine jO.ob func98 ?_;intro w0 _;refine Cj.sr (bJ rfl (rV rfl rfl rfl rfl rfl ?_));intro _ _;refine J.ns (aJ [0,1] [] 8 kR ?_);have G:=Z;have M:=a0;refine cO ⟨(aN 0 rfl (aN 1 rfl bG)),bH,(aX _)⟩ (fun A=>?_);refine aF 0 rfl A (q4 isAgg26 (bV G)) ?_;refine aF 1 rfl A (qU rfl rfl) ?_;refine aF 2 rfl A (q1 (off':=2) IZ EY) ?_;refine aF 3 rfl A (q4 isAgg112 (aI 1 rfl)) ?_;refine aF 4 rfl A (lF rfl rfl isAgg152 sizeOf152 (aI 0 rfl) rfl rfl) ?_;refine aF 5 rfl A (q1 (off':=0) NH lG) ?_;refine aF 6 rfl A (lF rfl rfl oC lG (bV M) rfl rfl) ?_;refine q0 7 rfl (wQ (H1:=setH _ _ _ _) [_,_] rfl rfl rfl rfl rfl rfl (b0K kb l c N f p t h hf _) ?_ (fun _ _ _ _ ⟨_,_,_,h,_⟩=>by cases h) (fun _ _ ⟨_,_,_,h,_⟩=>by cases h));intro _ _ _ Q a1;obtain⟨l1,c1,N1,h,hN,rfl⟩:=a1;cases h;refine⟨⟨(aW (aX _) Q),(aN 0 rfl (aN 1 rfl bG)),bH⟩,?_⟩;refine fO kR ?_;refine aQ (aH (Keeps.k dB)) ?_;refine aS rfl rfl ?_;exact⟨l1,c1,N1,rfl,hN,rfl⟩
theorem b1m S W O vb wb kb l c N f p t (h:lD l c N f)(Z:1≤f p t)(hf:f p t≤1000000000000000) I (a0:I S=some (jM 26 [ptr O 0]))(a1:I W=some (jM 54 [i64 t.1,i64 t.2])):
 jO aA 89 [nD p,ptr S 0,ptr W 0] I ([(O,jM 114 (vN vb wb kb))]++setH wb l c N) (fun e _ H'=>∃l' c' N',e= .returned (.tuple #[])∧lD l' c' N' (bump f p t (· -1))∧H'=[(O,jM 114 (vN vb wb kb))]++setH wb l' c' N'):=by
 refine jO.ob func89 ?_;intro w0 _;refine Cj.sr (bJ rfl (rV rfl rfl rfl rfl rfl ?_));intro _ _;refine J.ns (aJ [0,1] [] 7 kR ?_);have G:=a0;have M:=a1;refine cO ⟨(aN 0 rfl (aN 1 rfl bG)),bH,(aX _)⟩ (fun A=>?_);refine aF 0 rfl A (q4 isAgg26 (bV G)) ?_;refine aF 1 rfl A (qU rfl rfl) ?_;refine aF 2 rfl A (q1 (off':=1) IZ EY) ?_;refine aF 3 rfl A (q4 isAgg112 (aI 1 rfl)) ?_;refine aF 4 rfl A (lF rfl rfl isAgg152 sizeOf152 (aI 0 rfl) rfl rfl) ?_;refine aF 5 rfl A (lF rfl rfl oC lG (bV M) rfl rfl) ?_;refine q0 6 rfl (wQ (H1:=setH _ _ _ _) [_,_] rfl rfl rfl rfl rfl rfl (a2j wb l c N f p t h Z hf _) ?_ (fun _ _ _ _ ⟨_,_,_,h,_⟩=>by cases h) (fun _ _ ⟨_,_,_,h,_⟩=>by cases h));intro _ _ _ Q a2;obtain⟨l1,c1,N1,h,hN,rfl⟩:=a2;cases h;refine⟨⟨(aW (aX _) Q),(aN 0 rfl (aN 1 rfl bG)),bH⟩,?_⟩;refine fO kR ?_;refine aQ (aH (Keeps.k dB)) ?_;refine aS rfl rfl ?_;exact⟨l1,c1,N1,rfl,hN,rfl⟩
theorem b1b S W O vb wb kb l c N f p t (h:lD l c N f)(Z:1≤f p t)(hf:f p t≤1000000000000000) I (a0:I S=some (jM 26 [ptr O 0]))(a1:I W=some (jM 54 [i64 t.1,i64 t.2])):
 jO aA 91 [nD p,ptr S 0,ptr W 0] I ([(O,jM 114 (vN vb wb kb))]++setH kb l c N) (fun e _ H'=>∃l' c' N',e= .returned (.tuple #[])∧lD l' c' N' (bump f p t (· -1))∧H'=[(O,jM 114 (vN vb wb kb))]++setH kb l' c' N'):=by
 refine jO.ob func91 ?_;intro w0 _;refine Cj.sr (bJ rfl (rV rfl rfl rfl rfl rfl ?_));intro _ _;refine J.ns (aJ [0,1] [] 7 kR ?_);have G:=a0;have M:=a1;refine cO ⟨(aN 0 rfl (aN 1 rfl bG)),bH,(aX _)⟩ (fun A=>?_);refine aF 0 rfl A (q4 isAgg26 (bV G)) ?_;refine aF 1 rfl A (qU rfl rfl) ?_;refine aF 2 rfl A (q1 (off':=2) IZ EY) ?_;refine aF 3 rfl A (q4 isAgg112 (aI 1 rfl)) ?_;refine aF 4 rfl A (lF rfl rfl isAgg152 sizeOf152 (aI 0 rfl) rfl rfl) ?_;refine aF 5 rfl A (lF rfl rfl oC lG (bV M) rfl rfl) ?_;refine q0 6 rfl (wQ (H1:=setH _ _ _ _) [_,_] rfl rfl rfl rfl rfl rfl (a2j kb l c N f p t h Z hf _) ?_ (fun _ _ _ _ ⟨_,_,_,h,_⟩=>by cases h) (fun _ _ ⟨_,_,_,h,_⟩=>by cases h));intro _ _ _ Q a2;obtain⟨l1,c1,N1,h,hN,rfl⟩:=a2;cases h;refine⟨⟨(aW (aX _) Q),(aN 0 rfl (aN 1 rfl bG)),bH⟩,?_⟩;refine fO kR ?_;refine aQ (aH (Keeps.k dB)) ?_;refine aS rfl rfl ?_;exact⟨l1,c1,N1,rfl,hN,rfl⟩
structure EA where
  i:Nat
  J:Heap
  Y:HL
theorem a6S v wv gw gk cap (S:Nat→HL→Prop)(Z:HL→Prop)(ac:v.ws.length≤1000000000000) I (W:oO 9 I v.ws wv) H0 (a7:S 0 H0)
 (hw:∀k w H J,v.ws[k]?=some w→Le I J→S k H→jO aA gw (nD (v.name,w)::cap) J H (fun e _ H'=>e= .returned (.tuple #[])∧S (k+1) H'))
 (hk:∀H J,v.key≠[]→Le I J→S v.ws.length H→jO aA gk (nD (v.name,v.key)::cap) J H (fun e _ H'=>e= .returned (.tuple #[])∧Z H'))(hz:v.key=[]→∀H,S v.ws.length H→Z H):
 jO aA 88 [.agg (GZ (v,wv)).toArray,.func (.func gw) #[] cap.toArray,.func (.func gk) #[] cap.toArray] I H0 (fun e _ H'=>e= .returned (.tuple #[])∧Z H'):=by
 obtain⟨wp,wc,rfl⟩:=qB W;refine jO.ob func88 ?_;intro w0 _;refine Cj.sr (bJ rfl (rV rfl rfl rfl rfl rfl ?_));intro b1 _;refine J.a8c (fG (aO (q1 (off':=2) IV WQ) ?_));refine aO (q4 a0l (jR.at 0 rfl)) ?_;refine aO (xQ rfl rfl lJ) ?_;refine aO q3 ?_;refine J.ns (Cj.block (Cj.loop (ι:=EA) (fun y=>y.i≤v.ws.length∧Le I y.J∧S y.i y.Y) (fun y=>v.ws.length-y.i) (fun y=>[(1,.func (.func gw) #[] cap.toArray),(2,.func (.func gk) #[] cap.toArray),(3,ptr b1 0),(9,.slice wp v.ws.length wc),(10,i64 (v.ws.length:Int)),(11,i64 (y.i:Int))]) (fun y=>y.J) (fun y=>(b1,jM 142 [str v.name,str v.key,.slice wp v.ws.length wc])::y.Y) ⟨0,_,H0⟩ ⟨dD _,aX _,a7⟩ rT rfl rfl ?_));rintro⟨i,_,HY⟩ ⟨hi,A,hY⟩;dsimp only at hi A hY ⊢;have G:=W.mono A;refine Cj.sr (aO (a4j rfl rfl rfl) ?_);refine J.nss (Cj.cond rfl (fun a0=>?_) (fun a0=>?_))
 ·have a4:=mO a0;have a3:i<v.ws.length:=oM;obtain⟨x,a1⟩:∃x,v.ws[i]?=some x:=⟨_,kW a3⟩;obtain⟨wb,_,_,a8,a2⟩:=G.some (jT a3);cases a8;refine dX (dH (gJ (Cj.block (Cj.sr (aO (q6 (off':=i) lJ kU) ?_)))));refine aO (jP rfl rfl lQ (jR.EH a2) (nN a1)) ?_;refine J.as ?_;refine J.nsr (aO q3 ?_);refine aO (q1 (off':=0) IV kU) ?_;refine aO (q4 lQ (jR.at 0 rfl)) ?_;refine aO q3 ?_;refine aO (jX (pl:= #[(0,1),(1,1)]) rfl rfl YW rfl TG (fun w=>by simp[kU]) (fH rfl rfl rfl lsA (fH rfl rfl rfl lsA pR.none))) ?_;refine bJ rfl (wQ (H1:=HY) [_] rfl rfl rfl rfl rfl rfl (hw i x _ _ a1 A hY) ?_ (fun _ _ _ _ h=>by cases h.1) (fun _ _ h=>by cases h.1));intro _ _ H5 N a9;have A:=A.mono N;have G:=G.mono N;have a2:=N _ _ a2;obtain⟨h,aa⟩:=a9;cases h;refine J.nil (Ej.yU (dH (fG (aO (zT rfl rfl rfl (qW oM)) ?_))));refine aO q3 ?_;refine J.nil (gK ⟨i+1,_,H5⟩ ⟨dO,A,aa⟩ dO rT rfl rfl)
 have a4:=nM a0;have ab:i=v.ws.length:=oM;subst ab;refine Cj.exit (fQ (Ej.XA (Ej.TV (dH (Cj.sr (aO (q1 (off':=1) IV kU) ?_))))));refine aO (q4 lQ (jR.at 0 rfl)) ?_;refine aO (QM rfl rfl rfl) ?_;refine J.cd (fun M=>?_) (fun M=>?_)
 ·have a5:=bne_iff_ne.1 M;have O:v.key≠[]:=bne_iff_ne.1 M;refine fG (aO q3 ?_);refine aO (q1 (off':=0) IV kU) ?_;refine aO (q4 lQ (jR.at 0 rfl)) ?_;refine aO (q1 (off':=1) IV kU) ?_;refine aO (q4 lQ (jR.at 0 rfl)) ?_;refine aO (jX (pl:= #[(0,1),(1,1)]) rfl rfl YW rfl TG (fun w=>by simp[kU]) (fH rfl rfl rfl lsA (fH rfl rfl rfl lsA pR.none))) ?_;refine bJ rfl (wQ (H1:=HY) [_] rfl rfl rfl rfl rfl rfl (hk _ _ O A hY) ?_ (fun _ _ _ _ h=>by cases h.1) (fun _ _ h=>by cases h.1));intro _ _ _ Q a6;have A:=A.mono Q;have G:=G.mono Q;obtain⟨h,hZ⟩:=a6;cases h;refine J.nil (aQ (aH dB) ?_);refine aS rfl rfl ?_;exact⟨rfl,hZ⟩
 have a5:=sJ M;have O:v.key=[]:=sJ M;refine dX (aQ (aH dB) ?_);refine aS rfl rfl ?_;exact⟨rfl,hz O _ hY⟩
end Go.Proofs.YtekmeaoblpfnpaaGreatDoor
namespace Go.Proofs.YtekmeaoblpfnpaaGreatDoor
open Go Go.Sx
theorem a4y f t xs q:bump (aK f t fun p=>xs.count p) q t (· +1)=aK f t fun p=>(xs++[q]).count p:=by
 funext p u
 unfold bump aK
 by_cases hu:u=t
 ·subst hu
  by_cases hp:p=q
  ·subst hp;simp
  have h1:(p == q)=false:=by simpa using hp
  have h2:List.count p [q]=0:=List.count_eq_zero.2 (by simpa using hp);simp[h1,List.count_append,h2]
 have h1:(u == t)=false:=by simpa using hu
 simp[h1,hu]
theorem a5k f t ys q:bump (aK f t fun p=>(q::ys).count p) q t (· -1)=aK f t fun p=>ys.count p:=by
 funext p u
 unfold bump aK
 by_cases hu:u=t
 ·subst hu
  by_cases hp:p=q
  ·subst hp;simp
  have h1:(p == q)=false:=by simpa using hp
  have h2:(q == p)=false:=by simpa using Ne.symm hp
  simp[h1,List.count_cons,h2]
 have h1:(u == t)=false:=by simpa using hu
 simp[h1,hu]
theorem KO f t n p:aK f t n p t=n p:=zF rfl
def qA (vs:List Ix.V):Prop:=vs.length≤10000000∧∀v∈vs,v.ws.length≤10000000
theorem a7c:∀(vs:List Ix.V),(∀v∈vs,v.ws.length≤10000000)→(aB vs).length≤vs.length*10000000
 |[],_=>by simp[aB]
 |v::r,h=>by
  have h1:=a7c r fun x A=>h x (.tail _ A);have h2:=h v (.head _);unfold aB at h1 ⊢;rw[bT,aU,bP,bW,Nat.add_mul];omega
theorem a6w:∀(vs:List Ix.V),(aC vs).length≤vs.length
 |[]=>by simp[aC]
 |v::r=>by
  have h1:=a6w r;unfold aC at h1 ⊢;rw[bT,aU,bW]
  by_cases hk:v.key=[]
  ·rw[zF hk,List.length_nil];omega
  rw[zD hk,List.length_singleton];omega
theorem qA.w{vs}(h:qA vs):(aB vs).length≤100000000000000:=nP (a7c vs h.2) (eP _ h.1)
theorem qA.k{vs}(h:qA vs):(aC vs).length≤10000000:=nP (a6w vs) h.1
theorem b0G{fs}(h:xP fs):qA (dK fs):=by
 have h1:=a2n fs h fs.length;rw[bY]at h1;refine⟨nP h1 (nP (eP _ h.1) dE),fun v A=>?_⟩;unfold dK at A;obtain⟨f,M,A⟩:=List.mem_flatMap.1 A;obtain⟨_,_,_⟩:=h.2 f M;have G:v.ws.length≤v.text.length+1:=(Ke.qX v.text).1;unfold Ix.AA at A;rcases List.mem_append.1 A with g|g
 ·obtain⟨s,N,rfl⟩:=List.mem_map.1 g;have:=NC N;dsimp only at G;omega
 split at g
 ·rw[List.mem_singleton]at g;subst g;have:=DC f [];rw[DV]at this;dsimp only at G;omega
 cases g
structure Ist where
  vb:Nat
  wb:Nat
  kb:Nat
  lv:ML Ix.Rec
  cv:Nat
  lw:ML Ix.Pl
  cw:Nat
  Nw:vP Ix.Pl Ix.Rec
  lk:ML Ix.Pl
  ck:Nat
  Nk:vP Ix.Pl Ix.Rec
def RS (ib:Nat) (s:Ist):HL:=(s.vb,kG jZ s.lv s.cv)::(ib,jM 114 (vN s.vb s.wb s.kb))::(setH s.wb s.lw s.cw s.Nw++setH s.kb s.lk s.ck s.Nk)
def zS (I:Heap) (lv:ML dG) (L:Ix.Ix):Prop:=∀t,(bI L t=none→kH lv t=none)∧∀vs,bI L t=some vs→∃w,kH lv t=some w∧yB I vs w
theorem zS.mono{I A lv L}(h:zS I lv L)(G:Le I A):zS A lv L:=fun t=>⟨(h t).1,fun vs M=>let ⟨w,h1,h2⟩:=(h t).2 vs M;⟨w,h1,h2.mono G⟩⟩
theorem yB.nil I:yB I [] (.slice none 0 0):=⟨[],wH.nil,rfl,fun _ h=>by cases h⟩
theorem zS.at{I lv L}(h:zS I lv L) t:∃w,(kH lv t).getD (.slice none 0 0)=w∧yB I ((bI L t).getD []) w:=by
 cases hg:bI L t with
 |none=>rw[(h t).1 hg];exact⟨_,rfl,yB.nil I⟩
 |some vs=>
  obtain⟨w,h1,h2⟩:=(h t).2 vs hg;rw[h1];exact⟨w,rfl,h2⟩
structure nZ (I:Heap) (s:Ist) (L:Ix.Ix):Prop where
  pU:Ix.nO L
  big:L.length≤100000
  UU:∀e∈L,qA e.2
  vms:MS s.lv s.cv
  vals:zS I s.lv L
  nw:lD s.lw s.cw s.Nw (Ix.cnt Ix.plW L)
  nk:lD s.lk s.ck s.Nk (Ix.cnt Ix.IG L)
theorem nZ.mono{I A s L}(h:nZ I s L)(G:Le I A):nZ A s L:=⟨h.pU,h.big,h.UU,h.vms,h.vals.mono G,h.nw,h.nk⟩
theorem a6L pl (h0:pl []=[]) L t:aP pl L=aK (aP pl L) t fun p=>(pl ((bI L t).getD [])).count p:=by
 cases hg:bI L t with
 |none=>
  rw[Option.getD_none,h0];exact Ix.b3v hg
 |some vs=>exact Ix.b2w hg
theorem a3V{L}(A:Ix.nO L)(h:∀e∈L,qA e.2) t:qA ((bI L t).getD []):=by
 cases hg:bI L t with
 |none=>exact⟨dD _,fun _ h=>by cases h⟩
 |some vs=>exact h _ ((Ix.oQ A).1 hg)
def YS (ib vb wb kb:Nat) (fw fk:gB→dG→Nat) (Y:HL):Prop:=∃lw cw Nw lk ck Nk,lD lw cw Nw fw∧lD lk ck Nk fk∧Y=(ib,jM 114 (vN vb wb kb))::(setH wb lw cw Nw++setH kb lk ck Nk)
theorem YS.word{A vb wb kb S W Q g args J H}(hY:YS A vb wb kb S W H)
 (h:∀l c N,lD l c N S→jO aA g args J ([(A,jM 114 (vN vb wb kb))]++setH wb l c N) (fun e _ H'=>∃G M O,e= .returned (.tuple #[])∧lD G M O Q∧H'=[(A,jM 114 (vN vb wb kb))]++setH wb G M O)):
 jO aA g args J H (fun e _ H'=>e= .returned (.tuple #[])∧YS A vb wb kb Q W H'):=by
 obtain⟨lw,cw,Nw,lk,ck,Nk,h1,h2,rfl⟩:=hY;refine((h lw cw Nw h1).frame (setH kb lk ck Nk)).mono fun e _ H' _ ⟨H1,hH,G,M,O,he,hN,Z⟩=>⟨he,G,M,O,lk,ck,Nk,hN,h2,?_⟩;rw[hH,Z];rfl
theorem YS.key{A vb wb kb S W Q g args J H}(hY:YS A vb wb kb S W H)
 (h:∀l c N,lD l c N W→jO aA g args J ([(A,jM 114 (vN vb wb kb))]++setH kb l c N) (fun e _ H'=>∃G M O,e= .returned (.tuple #[])∧lD G M O Q∧H'=[(A,jM 114 (vN vb wb kb))]++setH kb G M O)):
 jO aA g args J H (fun e _ H'=>e= .returned (.tuple #[])∧YS A vb wb kb S Q H'):=by
 obtain⟨lw,cw,Nw,lk,ck,Nk,h1,h2,rfl⟩:=hY;have Z:∀X,(((A,jM 114 (vN vb wb kb))::(X++setH wb lw cw Nw):HL)).Perm ((A,jM 114 (vN vb wb kb))::(setH wb lw cw Nw++X)):=fun X=>dA _ bZ;refine(gI (Z (setH kb lk ck Nk)) ((h lk ck Nk h2).frame (setH wb lw cw Nw))).leave fun e _ H' _ ⟨H1,hH,G,M,O,he,hN,a0⟩=>⟨_,[],?_,he,lw,cw,Nw,G,M,O,h1,hN,rfl⟩;rw[aZ,hH,a0];exact(Z _).symm
theorem a1l{α:Type}{l:List α}{k x}(h:l[k]?=some x):l.drop k=x::l.drop (k+1):=by
 obtain⟨_,A⟩:=aV.1 h;rw[←A,List.getElem_cons_drop]
theorem a5b v r:aB (v::r)=v.ws.map (fun w=>(v.name,w))++aB r:=by unfold aB;rw[bT]
theorem WG v r:aC (v::r)=(if v.key=[]then[]else[(v.name,v.key)])++aC r:=by unfold aC;rw[bT]
theorem a0B xs v:aB (xs++[v])=aB xs++v.ws.map fun w=>(v.name,w):=by unfold aB;rw[fC];simp
theorem a6E xs v:aC (xs++[v])=aC xs++if v.key=[]then[]else[(v.name,v.key)]:=by unfold aC;rw[fC];simp
theorem a3x{vs}(h:qA vs) i:(aB (vs.drop i)).length≤100000000000000:=
 qA.w ⟨by rw[dM];have:=h.1;omega,fun v A=>h.2 v (eU A)⟩
theorem a4t{vs}(h:qA vs) i:(aC (vs.drop i)).length≤10000000:=
 qA.k ⟨by rw[dM];have:=h.1;omega,fun v A=>h.2 v (eU A)⟩
theorem a5j{vs}(h:qA vs) i:(aB (vs.take i)).length≤100000000000000:=
 qA.w ⟨by rw[dN];have:=h.1;omega,fun v A=>h.2 v (eX A)⟩
theorem a3t{vs}(h:qA vs) i:(aC (vs.take i)).length≤10000000:=
 qA.k ⟨by rw[dN];have:=h.1;omega,fun v A=>h.2 v (eX A)⟩
def YD (ib vb wb kb:Nat) (L:Ix.Ix) (t:dG) (vs:List Ix.V) (i:Nat):HL→Prop:=YS ib vb wb kb (aK (aP aB L) t fun p=>(aB (vs.drop i)).count p) (aK (aP aC L) t fun p=>(aC (vs.drop i)).count p)
theorem a9l O Q G vb wb kb L t vs (hv:qA vs) i v wv (W:vs[i]?=some v) I (a5:oO 9 I v.ws wv)(a0:I O=some (jM 26 [ptr G 0]))(a1:I Q=some (jM 54 [i64 t.1,i64 t.2])) Y (hY:YD G vb wb kb L t vs i Y):
 jO aA 88 [.agg (GZ (v,wv)).toArray,.func (.func 89) #[] [ptr O 0,ptr Q 0].toArray,.func (.func 91) #[] [ptr O 0,ptr Q 0].toArray] I Y (fun e _ H'=>e= .returned (.tuple #[])∧YD G vb wb kb L t vs (i+1) H'):=by
 have S:=a1l W;have a7:=hv.2 v (lX W);have a8:=a3x hv i;have a2:=a4t hv i;refine a6S v wv _ _ [ptr O 0,ptr Q 0] (fun k=>YS G vb wb kb (aK (aP aB L) t fun p=>((v.ws.drop k).map (fun w=>(v.name,w))++aB (vs.drop (i+1))).count p) (aK (aP aC L) t fun p=>(aC (vs.drop i)).count p)) (YD G vb wb kb L t vs (i+1)) oM I a5 Y ?_ ?_ ?_ ?_
 ·unfold YD at hY;rw[S,a5b]at hY;rw[S];exact hY
 ·intro k w H J hk M A;refine A.word fun l c N Z=>?_;have a3:(v.ws.drop k).map (fun w=>(v.name,w))++aB (vs.drop (i+1))=(v.name,w)::((v.ws.drop (k+1)).map (fun w=>(v.name,w))++aB (vs.drop (i+1))):=by rw[a1l hk];rfl
  rw[a3]at Z;have hb:=a5k (aP aB L) t ((v.ws.drop (k+1)).map (fun w=>(v.name,w))++aB (vs.drop (i+1))) (v.name,w);rw[←hb];refine b1m O Q G vb wb kb l c N _ (v.name,w) t Z ?_ ?_ J (M _ _ a0) (M _ _ a1)
  ·rw[KO];exact dY.2 (.head _)
  rw[KO];refine nP bK ?_;have h9:((v.name,w)::((v.ws.drop (k+1)).map (fun w=>(v.name,w))++aB (vs.drop (i+1)))).length≤(aB (vs.drop i)).length:=by
   rw[S,a5b,←a3,aU,aU,bP,bP,dM];omega
  omega
 ·intro H J a4 M A;have a6:YS G vb wb kb (aK (aP aB L) t fun p=>(aB (vs.drop (i+1))).count p) (aK (aP aC L) t fun p=>((v.name,v.key)::aC (vs.drop (i+1))).count p) H:=by
   rw[dP,fJ,dR,S,WG,zD a4]at A;exact A
  unfold YD;refine a6.key fun l c N Z=>?_;rw[←a5k (aP aC L) t (aC (vs.drop (i+1))) (v.name,v.key)];refine b1b O Q G vb wb kb l c N _ (v.name,v.key) t Z ?_ ?_ J (M _ _ a0) (M _ _ a1)
  ·rw[KO];exact dY.2 (.head _)
  rw[KO];refine nP bK ?_;rw[S,WG,zD a4]at a2;have:((v.name,v.key)::aC (vs.drop (i+1))).length≤10000000:=a2;omega
 intro he H A;rw[dP,fJ,dR,S,WG,zF he,dR]at A;exact A
def YP (ib vb wb kb:Nat) (L:Ix.Ix) (t:dG) (vs:List Ix.V) (i:Nat):HL→Prop:=YS ib vb wb kb (aK (aP aB L) t fun p=>(aB (vs.take i)).count p) (aK (aP aC L) t fun p=>(aC (vs.take i)).count p)
theorem take_one{α:Type}{l:List α}{k x}(h:l[k]?=some x):l.take (k+1)=l.take k++[x]:=by
 obtain⟨A,G⟩:=aV.1 h;rw[List.take_succ_eq_append_getElem A,G]
theorem a3U O Q G vb wb kb ek el ev L t vs (hv:qA vs) i v wv (S:vs[i]?=some v) I (a2:oO 9 I v.ws wv)(a0:I O=some (jM 26 [ptr G 0]))(a1:I Q=some (jM 59 [i64 t.1,i64 t.2,u8 ek,u8 el,ev])) Y (hY:YP G vb wb kb L t vs i Y):
 jO aA 88 [.agg (GZ (v,wv)).toArray,.func (.func 96) #[] [ptr O 0,ptr Q 0].toArray,.func (.func 98) #[] [ptr O 0,ptr Q 0].toArray] I Y (fun e _ H'=>e= .returned (.tuple #[])∧YP G vb wb kb L t vs (i+1) H'):=by
 have W:=take_one S;have a7:=hv.2 v (lX S);have a8:=a5j hv (i+1);have a3:=a3t hv (i+1);refine a6S v wv _ _ [ptr O 0,ptr Q 0] (fun k=>YS G vb wb kb (aK (aP aB L) t fun p=>(aB (vs.take i)++(v.ws.take k).map (fun w=>(v.name,w))).count p) (aK (aP aC L) t fun p=>(aC (vs.take i)).count p)) (YP G vb wb kb L t vs (i+1)) oM I a2 Y ?_ ?_ ?_ ?_
 ·unfold YP at hY;rw[List.take_zero,fJ,aZ];exact hY
 ·intro k w H J hk M A;refine A.word fun l c N hN=>?_;have a4:aB (vs.take i)++(v.ws.take (k+1)).map (fun w=>(v.name,w))=(aB (vs.take i)++(v.ws.take k).map (fun w=>(v.name,w)))++[(v.name,w)]:=by rw[take_one hk,List.map_append,List.append_assoc];rfl
  rw[a4,←a4y (aP aB L) t (aB (vs.take i)++(v.ws.take k).map (fun w=>(v.name,w))) (v.name,w)];refine b4S O Q G vb wb kb ek el ev l c N _ (v.name,w) t hN ?_ J (M _ _ a0) (M _ _ a1);rw[KO];refine nP bK ?_;have h9:(aB (vs.take i)++(v.ws.take k).map (fun w=>(v.name,w))).length≤(aB (vs.take (i+1))).length:=by
   rw[W,a0B,aU,aU,bP,bP,dN];omega
  omega
 ·intro H J a5 M A;have a6:YS G vb wb kb (aK (aP aB L) t fun p=>(aB (vs.take (i+1))).count p) (aK (aP aC L) t fun p=>(aC (vs.take i)).count p) H:=by
   rw[bY,←a0B,←W]at A;exact A
  unfold YP;refine a6.key fun l c N hN=>?_;have Z:aC (vs.take (i+1))=aC (vs.take i)++[(v.name,v.key)]:=by rw[W,a6E,zD a5]
  rw[Z,←a4y (aP aC L) t (aC (vs.take i)) (v.name,v.key)];refine b5b O Q G vb wb kb ek el ev l c N _ (v.name,v.key) t hN ?_ J (M _ _ a0) (M _ _ a1);rw[KO];refine nP bK ?_;rw[Z,aU]at a3;omega
 intro he H A;unfold YP;rw[bY,←a0B,←W]at A;have Z:aC (vs.take (i+1))=aC (vs.take i):=by rw[W,a6E,zF he,aZ]
 rw[Z];exact A
structure DA where
  i:Nat
  J:Heap
  Y:HL
theorem MO t v:∀L:Ix.Ix,(dZ t v L).length≤L.length+1
 |[]=>by simp[dZ]
 |(u,x)::r=>by
  unfold dZ
  split
  ·have:=MO t v r;rw[bW,bW];omega
  split
  ·simp
  simp
theorem nZ.drop{I Z vb wb kb lv cv lw cw Nw lk ck Nk L}(h:nZ I ⟨vb,wb,kb,lv,cv,lw,cw,Nw,lk,ck,Nk⟩ L)(a0:Le I Z) t {M N O Q S W}
 (hw:lD M N O (aK (aP aB L) t fun p=>(aB []).count p))(hk:lD Q S W (aK (aP aC L) t fun p=>(aC []).count p)):nZ Z ⟨vb,wb,kb,nX lv t,cv,M,N,O,Q,S,W⟩ (eY t L):=by
 refine⟨Ix.JV t h.pU,nP (eF _ _) h.big,fun e he=>h.UU e ((Ix.yK t L e).1 he).1,h.vms.del t,fun u=>⟨fun A=>?_,fun vs A=>?_⟩,?_,?_⟩
 ·show kH (nX lv t) u=none;rw[SB h.vms.1]
  split
  ·rfl
  rename_i G
  rw[Ix.LZ h.pU,zD (by simpa using G)]at A;exact(h.vals u).1 A
 ·rw[Ix.LZ h.pU]at A
  split at A
  ·cases A
  rename_i G
  obtain⟨w,h1,h2⟩:=(h.vals u).2 vs A;refine⟨w,?_,h2.mono a0⟩;show kH (nX lv t) u=some w;rw[SB h.vms.1,zD (by simpa using G)];exact h1
 ·rw[cZ h.pU];exact hw
 rw[cZ h.pU];exact hk
theorem nZ.put{I vb wb kb lv cv lw cw Nw lk ck Nk L}(h:nZ I ⟨vb,wb,kb,lv,cv,lw,cw,Nw,lk,ck,Nk⟩ L){t}(hL:L.length<100000){vs}(hv:qA vs){w}(a0:yB I vs w){M N O Q S W}
 (hw:lD M N O (aK (aP aB L) t fun p=>(aB vs).count p))(hk:lD Q S W (aK (aP aC L) t fun p=>(aC vs).count p)):nZ I ⟨vb,wb,kb,kN lv t w cv,mV lv t cv,M,N,O,Q,S,W⟩ (dZ t vs L):=by
 refine⟨Ix.BG t vs h.pU,?_,fun e Z=>?_,h.vms.set t w,fun u=>⟨fun A=>?_,fun us A=>?_⟩,?_,?_⟩
 ·have:=MO t vs L;omega
 ·rcases(Ix.wG t vs h.pU e).1 Z with g|g
  ·rw[g];exact hv
  exact h.UU e g.1
 ·show kH (kN lv t w cv) u=none;rw[Ix.SL h.pU]at A;rw[wB]
  split at A
  ·cases A
  rename_i G
  rw[zD (by simpa using G)];exact(h.vals u).1 A
 ·show ∃w',kH (kN lv t w cv) u=some w'∧_;rw[Ix.SL h.pU]at A;rw[wB]
  split at A
  ·rename_i Z
   cases A;exact⟨w,by rw[zF (by simpa using Z)],a0⟩
  rename_i G
  rw[zD (by simpa using G)];exact(h.vals u).2 us A
 ·rw[Ix.a4p h.pU];exact hw
 rw[Ix.a4p h.pU];exact hk
theorem b4r I vb wb kb:nZ I ⟨vb,wb,kb,[],0,[],0,[],[],0,[]⟩ []:=
 ⟨List.Pairwise.nil,dD _,fun _ h=>(by cases h),MS.nil,fun _=>⟨fun _=>rfl,fun _ h=>by cases h⟩,lD.nil,lD.nil⟩
end Go.Proofs.YtekmeaoblpfnpaaGreatDoor
section
namespace Go.Proofs.YtekmeaoblpfnpaaGreatDoor
open _root_.Go.Proofs.Tryz
open Go Go.Sx
theorem a1b S s0 L t I (a8:nZ I s0 L):jO aA 43 [ptr S 0,jZ t] I (RS S s0)
 (fun e I' H'=>∃s',e= .returned (.tuple #[])∧nZ I' s' (eY t L)∧H'=RS S s'):=by
 obtain⟨vb,wb,kb,lv,cv,lw,cw,Nw,lk,ck,Nk⟩:=s0;unfold RS;dsimp only;have G:=a8;refine jU func43 fun w0 _=>?_;refine jL 3 ?_;intro b1 ac;refine jL 1 ?_;intro b2 ad;refine jL 4 ?_;refine Cj.pull (gG dW) ?_;refine fA ac (fun _ a9 M=>?_);have G:=G.mono a9;refine fA ad (fun I6 a1 Q=>?_);have G:=G.mono a1;have M:=a1 _ _ M;refine jL 10 ?_;have ae:=G.vals;obtain⟨_,af,ag⟩:=ae.at t;obtain⟨xs,O,W⟩:=ag;obtain⟨vp,vc,rfl,_,-⟩:=id O;have a2:=a3V G.pU G.UU t;have ax:=W.len;have ay:=a2.1;have ah:YD S vb wb kb L t ((bI L t).getD []) 0 ((S,jM 114 (vN vb wb kb))::(setH wb lw cw Nw++setH kb lk ck Nk)):=⟨lw,cw,Nw,lk,ck,Nk,(by have h:=G.nw;rw[a6L aB rfl L t]at h;exact h),(by have h:=G.nk;rw[a6L aC rfl L t]at h;exact h),rfl⟩;refine aJ [0,1] [] 8 kR ?_;refine jL 5 ?_;refine bU 5 rfl (kQ (kv:=jZ) (l:=lv) (a:=t) rfl rfl rfl rfl wV nC FK (aI 0 rfl)) ?_;refine bD 13 (.slice vp xs.length vc) rfl af ?_;refine jL 5 ?_;refine Cj.loop (ι:=DA) (fun y=>y.i≤xs.length∧Le I6 y.J∧YD S vb wb kb L t ((bI L t).getD []) y.i y.Y) (fun y=>xs.length-y.i) (fun y=>[(2,ptr b1 0),(3,ptr b2 0),(13,.slice vp xs.length vc),(14,i64 (xs.length:Int)),(15,i64 (y.i:Int))]) (fun y=>y.J) (fun y=>(vb,kG jZ lv cv)::y.Y) ⟨0,_,(S,jM 114 (vN vb wb kb))::(setH _ _ _ _++setH _ _ _ _)⟩ ⟨dD _,aX _,ah⟩ rT rfl rfl ?_;rintro⟨i,_,_⟩ ⟨hi,N,hY⟩;dsimp only at hi N hY ⊢;have O:=O.mono N;have W:=W.mono N;have M:=N _ _ M;have Q:=N _ _ Q;refine jS ?_ ?_<;>intro ai aa
 ·have a4:i<xs.length:=oM;obtain⟨x,Z⟩:∃x,xs[i]?=some x:=⟨_,kW a4⟩;obtain⟨_,_,aj,-,al⟩:=id O;cases aj;obtain⟨_,_,rfl,a3⟩:=al (jT a4);have a0:=W.2 x (lX Z);have a5:=(zC (fun l=>l[i]?) W.1).symm.trans ((bQ).trans (zC (gQ (·.1)) Z));dsimp only[dQ]at a5;refine kJ (0+i*3) ?_;refine aO (q2 isAgg142 zW (jR.EH a3) (kY FN (o:=0) rfl Z)) ?_;refine jL 1 ?_;intro _ _;refine bJ rfl (oP 0 rfl rfl rfl rfl rfl (RZ a0 rfl rfl) zW rfl rfl lsA aT ?_);refine II [_,_] (a9l b1 b2 S vb wb kb L t ((bI L t).getD []) a2 i x.1 x.2 a5 _ a0 M Q _ hY) ?_;intro _ _ am A ab;have M:=A _ _ M;have Q:=A _ _ Q;have N:=N.mono A;have O:=O.mono A;have W:=W.mono A;have a3:=A _ _ a3;have a0:=a0.mono A;obtain⟨h,an⟩:=ab;cases h;refine jL 7 ?_;refine aQ (aH (Keeps.k dB)) ?_;refine gK ⟨i+1,_,am⟩ ⟨dO,N,an⟩ dO rT rfl rfl
 have ao:i=((bI L t).getD []).length:=oM;obtain⟨ap,aq,ar,au,av,aw,a6,a7,rfl⟩:=hY;rw[ao,dP]at a6 a7;refine jL 5 ?_;refine aJ [1] [] 6 kR ?_;refine jL 5 ?_;refine q0 5 rfl (AO (kv:=jZ) (a:=t) 0 rfl rfl rfl rfl rfl wV nC rfl aT ?_);refine jL 2 ?_;refine aS rfl rfl ?_;exact⟨⟨vb,wb,kb,nX lv t,cv,ap,aq,ar,au,av,aw⟩,rfl,G.drop N t a6 a7,rfl⟩
theorem a1p N t I:jO aA 43 [ptr N 0,jZ t] I [(N,jM 114 [.map none,.map none,.map none])]
 (fun e _ H'=>e= .returned (.tuple #[])∧H'=[(N,jM 114 [.map none,.map none,.map none])]):=by
 refine jU func43 fun w0 _=>?_;refine jL 3 ?_;intro _ _;refine jL 1 ?_;intro _ _;refine jL 14 ?_;refine aJ [0,1,2] [] 8 kR ?_;refine cO lI (fun A=>?_);refine aF 0 rfl A (q4 isAgg26 (aI 1 rfl)) ?_;refine aF 1 rfl A (qU rfl rfl) ?_;refine aF 2 rfl A (q1 (off':=0) IZ EM) ?_;refine aF 3 rfl A (q4 isAgg110 (aI 2 rfl)) ?_;refine aF 4 rfl A (lF rfl rfl oC lG (aI 0 rfl) rfl rfl) ?_;refine aF 5 rfl A (qJ (kv:=jZ) (a:=t) rfl rfl rfl rfl wV nC FK) ?_;refine jL 5 ?_;refine Cj.rounds 1 ?_;refine Rj.succ ?_;refine jL 6 ?_;refine Cj.cond rfl ?_ ?_<;>intro M
 ·have O:=mO M;exact absurd (mO M) dE
 have O:=nM M;refine Cj.exit (fQ (fQ (Ej.TV (dH ?_))));refine aJ [0,1,2] [] 6 kR ?_;refine cO lI (fun G=>?_);refine aF 0 rfl G (q4 isAgg26 (aI 1 rfl)) ?_;refine aF 1 rfl G (qU rfl rfl) ?_;refine aF 2 rfl G (q1 (off':=0) IZ EM) ?_;refine aF 3 rfl G (q4 isAgg110 (aI 2 rfl)) ?_;refine aF 4 rfl G (lF rfl rfl oC lG (aI 0 rfl) rfl rfl) ?_;refine q0 5 rfl (a3H (kv:=jZ) (a:=t) rfl rfl rfl rfl rfl wV nC ?_);refine jL 2 ?_;refine aQ (aH (aH (Keeps.k bM))) ?_;refine aS rfl rfl ?_;exact rT
theorem a4f{I S vb wb kb lv cv lw cw Nw lk ck Nk L t}(h:nZ I ⟨vb,wb,kb,lv,cv,lw,cw,Nw,lk,ck,Nk⟩ (eY t L))(W:Ix.nO L)(hL:L.length<100000){vs}(hv:qA vs){w}(Z:yB S vs w)(a0:Le I S){A G M N O Q}
 (hw:lD A G M (aK (aP aB L) t fun p=>(aB vs).count p))(hk:lD N O Q (aK (aP aC L) t fun p=>(aC vs).count p)):nZ S ⟨vb,wb,kb,kN lv t w cv,mV lv t cv,A,G,M,N,O,Q⟩ (dZ t vs L):=by
 have hb:(eY t L).length<100000:=Nat.lt_of_le_of_lt (eF _ _) hL;have a1:∀(pl:List Ix.V→List gB),(aK (aP pl L) t fun p=>(pl vs).count p)=aK (aP pl (eY t L)) t fun p=>(pl vs).count p:=fun pl=>by
  rw[cZ W]
  funext p u
  unfold aK
  split<;>rfl
 rw[a1]at hw hk;have h2:=(h.mono a0).put hb hv Z hw hk;rw[Ix.a7U W]at h2;exact h2
theorem b2U ib s0 L A I (M:nZ I s0 L)(ae:L.length<100000)(a9:xP A.fs)(N:xO I A.fs A.v):jO aA 50 [ptr ib 0,.agg (oH A).toArray] I (RS ib s0)
 (fun e I' H'=>∃s',e= .returned (.tuple #[])∧nZ I' s' (dZ A.t (dK A.fs) L)∧H'=RS ib s'):=by
 have a1:=M.pU;obtain⟨_,_,_,-,-⟩:=id N.1;refine jU func50 fun w0 _=>?_;refine jL 3 ?_;intro b1 aj;refine jL 1 ?_;intro b2 al;refine jL 4 ?_;refine Cj.pull (gG dW) ?_;refine fA aj (fun _ a6 G=>?_);have M:=M.mono a6;have N:=N.mono a6;refine fA al (fun _ a2 O=>?_);have M:=M.mono a2;have N:=N.mono a2;have G:=a2 _ _ G;refine II [] (a1b ib s0 L A.t _ M) ?_;intro _ _ _ Z af;have M:=M.mono Z;have N:=N.mono Z;have G:=Z _ _ G;have O:=Z _ _ O;obtain⟨s1,h,M,rfl⟩:=af;cases h;obtain⟨vb,wb,kb,lv,cv,lw,cw,Nw,lk,ck,Nk⟩:=s1;unfold RS;dsimp only;refine jL 16 ?_;refine aJ [1] [] 10 kR ?_;have am:=G;have an:=O;refine kL (VD A.fs A.v A.k A.l a9 _ N) ?_;intro _ ao _ a0 ag;have N:=N.mono a0;have G:=a0 _ _ G;have O:=a0 _ _ O;have M:=M.mono a0;obtain⟨_,h,ap,rfl⟩:=ag;cases h;obtain⟨xs,S,hX⟩:=ap;obtain⟨vp,vc,rfl,_,-⟩:=id S;have a3:=b0G a9;have b4:=hX.len;have b5:=a3.1;refine jL 1 ?_;refine q0 9 rfl (nY (kv:=jZ) (a:=A.t) 0 (.inr rfl) rfl rfl rfl rfl rfl wV nC rfl aT ?_);refine jL 4 ?_;have aq:YP ib vb wb kb L A.t (dK A.fs) 0 ((ib,jM 114 (vN vb wb kb))::(setH wb lw cw Nw++setH kb lk ck Nk)):=⟨lw,cw,Nw,lk,ck,Nk,(by have h:=M.nw;rw[cZ a1]at h;exact h),(by have h:=M.nk;rw[cZ a1]at h;exact h),rfl⟩;refine aJ [0,1] [] 9 kR ?_;refine jL 6 ?_;refine bU 6 rfl (kQ (kv:=jZ) (l:=(kN lv A.t (.slice vp xs.length vc) cv)) (a:=A.t) rfl rfl rfl rfl wV nC FK (aI 0 rfl)) ?_;refine bD 44 (.slice vp xs.length vc) rfl wL ?_;refine jL 5 ?_;refine Cj.loop (ι:=DA) (fun y=>y.i≤xs.length∧Le ao y.J∧YP ib vb wb kb L A.t (dK A.fs) y.i y.Y) (fun y=>xs.length-y.i) (fun y=>[(2,ptr b1 0),(3,ptr b2 0),(44,.slice vp xs.length vc),(45,i64 (xs.length:Int)),(46,i64 (y.i:Int))]) (fun y=>y.J) (fun y=>(vb,kG jZ (kN lv A.t (.slice vp xs.length vc) cv) (mV lv A.t cv))::y.Y) ⟨0,_,(ib,jM 114 (vN vb wb kb))::(setH _ _ _ _++setH _ _ _ _)⟩ ⟨dD _,aX _,aq⟩ rT rfl rfl ?_;rintro⟨i,_,_⟩ ⟨hi,W,hY⟩;dsimp only at hi W hY ⊢;have S:=S.mono W;have hX:=hX.mono W;have G:=W _ _ G;have O:=W _ _ O;refine jS ?_ ?_<;>intro ah a8
 ·have aa:i<xs.length:=oM;obtain⟨x,a4⟩:∃x,xs[i]?=some x:=⟨_,kW aa⟩;obtain⟨_,_,ar,-,au⟩:=id S;cases ar;obtain⟨_,_,rfl,a7⟩:=au (jT aa);have a5:=hX.2 x (lX a4);have ab:=(zC (fun l=>l[i]?) hX.1).symm.trans ((bQ).trans (zC (gQ (·.1)) a4));dsimp only[dQ]at ab;refine kJ (0+i*3) ?_;refine aO (q2 isAgg142 zW (jR.EH a7) (kY FN (o:=0) rfl a4)) ?_;refine jL 1 ?_;intro _ _;refine bJ rfl (oP 0 rfl rfl rfl rfl rfl (RZ a5 rfl rfl) zW rfl rfl lsA aT ?_);refine II [_,_] (a3U b1 b2 ib vb wb kb A.k A.l A.v L A.t (dK A.fs) a3 i x.1 x.2 ab _ a5 G O _ hY) ?_;intro _ _ av Q ai;have G:=Q _ _ G;have O:=Q _ _ O;have S:=S.mono Q;have hX:=hX.mono Q;have W:=W.mono Q;have a7:=Q _ _ a7;have a5:=a5.mono Q;obtain⟨h,aw⟩:=ai;cases h;refine jL 7 ?_;refine aQ (aH (Keeps.k dB)) ?_;refine gK ⟨i+1,_,av⟩ ⟨dO,W,aw⟩ dO rT rfl rfl
 have ax:i=(dK A.fs).length:=oM;obtain⟨ay,az,b0,lk2,ck2,b3,ac,ad,rfl⟩:=hY;rw[ax,bY]at ac ad;refine jL 4 ?_;refine aS rfl rfl ?_;exact⟨⟨vb,wb,kb,(kN lv A.t (.slice vp xs.length vc) cv),(mV lv A.t cv),ay,az,b0,lk2,ck2,b3⟩,rfl,a4f M a1 ae a3 ⟨xs,S,hX⟩ W ac ad,rfl⟩
theorem b2x ib M I (ad : xP M.fs) (O : xO I M.fs M.v) : jO Tryz.prog 50 [ptr ib 0, .agg (oH M).toArray] I [(ib, jM 114 [.map none, .map none, .map none])]
 (fun e I' H' => ∃ s', e = .returned (.tuple #[]) ∧ nZ I' s' (Ix.rW M.t (Ix.vals M.fs) []) ∧ H' = RS ib s') := by
 obtain ⟨_, _, _, -, -⟩ := id O.1
 refine jU func50 fun w0 _ => ?_
 refine jL 3 ?_
 intro b1 ar
 refine jL 1 ?_
 intro b2 au
 refine jL 4 ?_
 refine Cj.pull (Pull.s Pull.z) ?_
 refine Cj.persist ar (fun _ am N => ?_)
 have O := O.mono am
 refine Cj.persist au (fun _ a7 Q => ?_)
 have O := O.mono a7
 have N := a7 _ _ N
 refine jL 13 ?_
 refine J.pull Pull.z ?_
 refine kL (a1p ib M.t _) ?_
 intro _ I9 _ a1 an
 have O := O.mono a1
 have N := a1 _ _ N
 have Q := a1 _ _ Q
 obtain ⟨h, rfl⟩ := an; cases h
 refine jL 2 ?_
 refine Cj.join (ι := Nat × Nat × Nat) (fun y => True) (fun y => [(2, ptr b1 0), (3, ptr b2 0)]) (fun y => I9) (fun y => (y.1, kG jZ [] 0) :: (ib, jM 114 (vN y.1 y.2.1 y.2.2)) :: (setH y.2.1 [] 0 [] ++ setH y.2.2 [] 0 [])) ?_ (fun G => ?_)
 ·rintro ⟨vb, wb, kb⟩ -
  dsimp only
  refine jL 1 ?_
  refine Cj.qC [1] [] 10 (by kernel_rfl) ?_
  have av := N
  have aw := Q
  refine kL (VD M.fs M.v M.k M.l ad _ O) ?_
  intro _ ax _ a2 ao
  have O := O.mono a2
  have N := a2 _ _ N
  have Q := a2 _ _ Q
  obtain ⟨_, h, ay, rfl⟩ := ao; cases h
  obtain ⟨xs, W, hX⟩ := ay
  obtain ⟨vp, vc, rfl, _, -⟩ := id W
  have a3 := b0G ad
  have bt := hX.len
  have bu := a3.1
  refine jL 1 ?_
  refine q0 9 rfl (nY (kv := jZ) (a := M.t) 0 (.inr rfl) rfl rfl rfl rfl rfl wV nC rfl lS.z ?_)
  refine jL 4 ?_
  have az : YP ib vb wb kb [] M.t (Ix.vals M.fs) 0 ((ib, jM 114 (vN vb wb kb)) :: (setH wb [] 0 [] ++ setH kb [] 0 [])) := ⟨[], 0, [], [], 0, [], (by rw [List.take_zero]; have h := (lD.nil : lD ([] : ML Ix.Pl) 0 ([] : vP Ix.Pl Ix.Rec) (fun _ _ => 0)); exact (show (Ix.way (Ix.cnt Ix.plW []) M.t fun p => (Ix.plW []).count p) = (fun _ _ => 0) by funext p u; unfold Ix.way; split <;> rfl) ▸ h), (by rw [List.take_zero]; have h := (lD.nil : lD ([] : ML Ix.Pl) 0 ([] : vP Ix.Pl Ix.Rec) (fun _ _ => 0)); exact (show (Ix.way (Ix.cnt Ix.IG []) M.t fun p => (Ix.IG []).count p) = (fun _ _ => 0) by funext p u; unfold Ix.way; split <;> rfl) ▸ h), rfl⟩
  refine Cj.qC [0, 1] [] 9 (by kernel_rfl) ?_
  refine jL 6 ?_
  refine JA.zt 6 rfl (kQ (kv := jZ) (l := (kN ([] : ML Ix.Rec) M.t (.slice vp xs.length vc) 0)) (a := M.t) rfl rfl rfl rfl wV nC FK (jR.atC 0 rfl)) ?_
  refine JA.ev 44 (.slice vp xs.length vc) rfl wL ?_
  refine jL 5 ?_
  refine Cj.loop (ι := DA) (fun y => y.i ≤ xs.length ∧ Le ax y.J ∧ YP ib vb wb kb [] M.t (Ix.vals M.fs) y.i y.Y) (fun y => xs.length - y.i) (fun y => [(2, ptr b1 0), (3, ptr b2 0), (44, .slice vp xs.length vc), (45, i64 (xs.length : Int)), (46, i64 (y.i : Int))]) (fun y => y.J) (fun y => (vb, kG jZ (kN ([] : ML Ix.Rec) M.t (.slice vp xs.length vc) 0) (mV ([] : ML Ix.Rec) M.t 0)) :: y.Y) ⟨0, _, (ib, jM 114 (vN vb wb kb)) :: (setH _ _ _ _ ++ setH _ _ _ _)⟩ ⟨Nat.zero_le _, Le.refl _, az⟩ ⟨rfl, rfl, rfl, rfl, rfl, trivial⟩ rfl rfl ?_
  rintro ⟨i, _, _⟩ ⟨A, Z, hY⟩
  dsimp only at A Z hY ⊢
  have W := W.mono Z
  have hX := hX.mono Z
  have N := Z _ _ N
  have Q := Z _ _ Q
  refine jS (fun ap ac => ?_) (fun ap ac => ?_)
  ·have ae : i < xs.length := by omega
   obtain ⟨x, a4⟩ : ∃ x, xs[i]? = some x := ⟨_, kW ae⟩
   obtain ⟨_, _, b0, -, hvb⟩ := id W
   cases b0
   obtain ⟨_, _, rfl, a8⟩ := hvb (jT ae)
   have a5 := hX.2 x (lX a4)
   have af := (congrArg (fun l => l[i]?) hX.1).symm.trans ((List.getElem?_map).trans (congrArg (Option.map (·.1)) a4))
   dsimp only [Option.map_some] at af
   refine kJ (0 + i * 3) ?_
   refine J.z (q2 isAgg142 zW (jR.EH a8) (kY FN (o := 0) rfl a4)) ?_
   refine jL 1 ?_
   intro _ _
   refine J.op rfl (oP 0 rfl rfl rfl rfl rfl (RZ a5 rfl rfl) zW rfl rfl (oD.c (oD.c (oD.c oD.z))) lS.z ?_)
   refine II [_, _] (a3U b1 b2 ib vb wb kb M.k M.l M.v [] M.t (Ix.vals M.fs) a3 i x.1 x.2 af _ a5 N Q _ hY) ?_
   intro _ _ H24 S aq
   have N := S _ _ N
   have Q := S _ _ Q
   have W := W.mono S
   have hX := hX.mono S
   have Z := Z.mono S
   have a8 := S _ _ a8
   have a5 := a5.mono S
   obtain ⟨h, b3⟩ := aq; cases h
   refine jL 7 ?_
   refine Ej.keep (Keeps.d (Keeps.k Keeps.r)) ?_
   refine Ej.round ⟨i + 1, _, H24⟩ ⟨by dsimp only; omega, Z, b3⟩ (by dsimp only; omega) ⟨rfl, rfl, rfl, rfl, rfl, trivial⟩ rfl rfl
  have b4 : i = (Ix.vals M.fs).length := by omega
  obtain ⟨b5, b6, b7, b8, b9, ba, ag, ah, rfl⟩ := hY
  rw [b4, List.take_length] at ag ah
  refine jL 4 ?_
  refine Ej.BO rfl rfl ?_
  exact ⟨⟨vb, wb, kb, (kN ([] : ML Ix.Rec) M.t (.slice vp xs.length vc) 0), (mV ([] : ML Ix.Rec) M.t 0), b5, b6, b7, b8, b9, ba⟩, rfl, a4f (L := []) (b4r _ vb wb kb) List.Pairwise.nil (by decide) a3 ⟨xs, W, hX⟩ Z ag ah, rfl⟩
 refine jL 10 ?_
 refine Cj.qC [] [] 15 (by kernel_rfl) ?_
 refine jL 3 ?_
 refine JA.all [3, 4, 5] (by kernel_rfl) (by simp) ?_
 intro i A
 simp only [List.mem_cons, List.not_mem_nil, or_false] at A
 rcases A with rfl | rfl | rfl
 ·refine ⟨_, rfl, rfl, ?_⟩
  refine kS rfl rfl rfl ?_
  intro a0 _
  refine jL 3 ?_
  refine JA.all [4, 5, 8] (by kernel_rfl) (by simp) ?_
  intro i A
  simp only [List.mem_cons, List.not_mem_nil, or_false] at A
  rcases A with rfl | rfl | rfl
  ·refine ⟨_, rfl, rfl, ?_⟩
   refine kS rfl rfl rfl ?_
   intro a9 _
   refine jL 1 ?_
   refine JA.all [5, 8] (by kernel_rfl) (by simp) ?_
   intro i A
   simp only [List.mem_cons, List.not_mem_nil, or_false] at A
   rcases A with rfl | rfl
   ·refine ⟨_, rfl, rfl, ?_⟩
    refine kS rfl rfl rfl ?_
    intro bb _
    refine jL 12 ?_
    refine Ej.keep (Keeps.k (Keeps.k (Keeps.k (Keeps.k Keeps.n)))) ?_
    refine Ej.pull Pull.z ?_
    refine Ej.pull (Pull.s Pull.z) ?_
    refine Ej.pull (Pull.s (Pull.s (Pull.s Pull.z))) ?_
    refine Ej.pull (Pull.s (Pull.s (Pull.s Pull.z))) ?_
    exact G (a0, a9, bb) _ _ _ trivial ⟨rfl, rfl, trivial⟩ rfl rfl
   refine ⟨_, rfl, rfl, ?_⟩
   refine q5 2 EM (oD.c oD.z) (lS.s (lS.s lS.z)) ?_
   refine jL 3 ?_
   refine JA.all [5, 11] (by kernel_rfl) (by simp) ?_
   intro i A
   simp only [List.mem_cons, List.not_mem_nil, or_false] at A
   rcases A with rfl | rfl
   ·refine ⟨_, rfl, rfl, ?_⟩
    refine kS rfl rfl rfl ?_
    intro bc _
    refine jL 8 ?_
    refine Ej.keep (Keeps.k (Keeps.k (Keeps.k (Keeps.k Keeps.n)))) ?_
    refine Ej.pull Pull.z ?_
    refine Ej.pull (Pull.s Pull.z) ?_
    refine Ej.pull (Pull.s (Pull.s (Pull.s Pull.z))) ?_
    refine Ej.pull (Pull.s (Pull.s (Pull.s Pull.z))) ?_
    exact G (a0, a9, bc) _ _ _ trivial ⟨rfl, rfl, trivial⟩ rfl rfl
   refine ⟨_, rfl, rfl, ?_⟩
   refine q5 2 EY (oD.s (oD.c oD.z)) (lS.s (lS.s lS.z)) ?_
   refine jL 1 ?_
   refine q0 5 rfl (kS rfl rfl rfl ?_)
   intro bd _
   refine jL 6 ?_
   refine Ej.keep (Keeps.k (Keeps.k (Keeps.k (Keeps.k Keeps.n)))) ?_
   refine Ej.pull Pull.z ?_
   refine Ej.pull (Pull.s Pull.z) ?_
   refine Ej.pull (Pull.s (Pull.s (Pull.s Pull.z))) ?_
   refine Ej.pull (Pull.s (Pull.s (Pull.s Pull.z))) ?_
   exact G (a0, a9, bd) _ _ _ trivial ⟨rfl, rfl, trivial⟩ rfl rfl
  ·refine ⟨_, rfl, rfl, ?_⟩
   refine kS rfl rfl rfl ?_
   intro ai _
   refine jL 1 ?_
   refine JA.all [4, 8] (by kernel_rfl) (by simp) ?_
   intro i A
   simp only [List.mem_cons, List.not_mem_nil, or_false] at A
   rcases A with rfl | rfl
   ·refine ⟨_, rfl, rfl, ?_⟩
    refine kS rfl rfl rfl ?_
    intro be _
    refine jL 12 ?_
    refine Ej.keep (Keeps.k (Keeps.k (Keeps.k (Keeps.k Keeps.n)))) ?_
    refine Ej.pull (Pull.s Pull.z) ?_
    refine Ej.pull (Pull.s Pull.z) ?_
    refine Ej.pull (Pull.s (Pull.s (Pull.s Pull.z))) ?_
    refine Ej.pull (Pull.s (Pull.s (Pull.s Pull.z))) ?_
    exact G (a0, be, ai) _ _ _ trivial ⟨rfl, rfl, trivial⟩ rfl rfl
   refine ⟨_, rfl, rfl, ?_⟩
   refine q5 2 EM (oD.c oD.z) (lS.s (lS.s lS.z)) ?_
   refine jL 1 ?_
   refine q0 4 rfl (kS rfl rfl rfl ?_)
   intro bf _
   refine jL 10 ?_
   refine Ej.keep (Keeps.k (Keeps.k (Keeps.k (Keeps.k Keeps.n)))) ?_
   refine Ej.pull (Pull.s Pull.z) ?_
   refine Ej.pull (Pull.s Pull.z) ?_
   refine Ej.pull (Pull.s (Pull.s (Pull.s Pull.z))) ?_
   refine Ej.pull (Pull.s (Pull.s (Pull.s Pull.z))) ?_
   exact G (a0, bf, ai) _ _ _ trivial ⟨rfl, rfl, trivial⟩ rfl rfl
  refine ⟨_, rfl, rfl, ?_⟩
  refine q5 1 EM (oD.c oD.z) (lS.s lS.z) ?_
  refine jL 1 ?_
  refine JA.all [4, 5] (by kernel_rfl) (by simp) ?_
  intro i A
  simp only [List.mem_cons, List.not_mem_nil, or_false] at A
  rcases A with rfl | rfl
  ·refine ⟨_, rfl, rfl, ?_⟩
   refine kS rfl rfl rfl ?_
   intro aj _
   refine jL 3 ?_
   refine JA.all [5, 11] (by kernel_rfl) (by simp) ?_
   intro i A
   simp only [List.mem_cons, List.not_mem_nil, or_false] at A
   rcases A with rfl | rfl
   ·refine ⟨_, rfl, rfl, ?_⟩
    refine kS rfl rfl rfl ?_
    intro bg _
    refine jL 8 ?_
    refine Ej.keep (Keeps.k (Keeps.k (Keeps.k (Keeps.k Keeps.n)))) ?_
    refine Ej.pull Pull.z ?_
    refine Ej.pull (Pull.s Pull.z) ?_
    refine Ej.pull (Pull.s (Pull.s (Pull.s Pull.z))) ?_
    refine Ej.pull (Pull.s (Pull.s (Pull.s Pull.z))) ?_
    exact G (a0, aj, bg) _ _ _ trivial ⟨rfl, rfl, trivial⟩ rfl rfl
   refine ⟨_, rfl, rfl, ?_⟩
   refine q5 2 EY (oD.s (oD.c oD.z)) (lS.s (lS.s lS.z)) ?_
   refine jL 1 ?_
   refine q0 5 rfl (kS rfl rfl rfl ?_)
   intro bh _
   refine jL 6 ?_
   refine Ej.keep (Keeps.k (Keeps.k (Keeps.k (Keeps.k Keeps.n)))) ?_
   refine Ej.pull Pull.z ?_
   refine Ej.pull (Pull.s Pull.z) ?_
   refine Ej.pull (Pull.s (Pull.s (Pull.s Pull.z))) ?_
   refine Ej.pull (Pull.s (Pull.s (Pull.s Pull.z))) ?_
   exact G (a0, aj, bh) _ _ _ trivial ⟨rfl, rfl, trivial⟩ rfl rfl
  refine ⟨_, rfl, rfl, ?_⟩
  refine kS rfl rfl rfl ?_
  intro bi _
  refine jL 1 ?_
  refine q0 4 rfl (kS rfl rfl rfl ?_)
  intro bj _
  refine jL 10 ?_
  refine Ej.keep (Keeps.k (Keeps.k (Keeps.k (Keeps.k Keeps.n)))) ?_
  refine Ej.pull (Pull.s Pull.z) ?_
  refine Ej.pull (Pull.s Pull.z) ?_
  refine Ej.pull (Pull.s (Pull.s (Pull.s Pull.z))) ?_
  refine Ej.pull (Pull.s (Pull.s (Pull.s Pull.z))) ?_
  exact G (a0, bj, bi) _ _ _ trivial ⟨rfl, rfl, trivial⟩ rfl rfl
 ·refine ⟨_, rfl, rfl, ?_⟩
  refine kS rfl rfl rfl ?_
  intro a6 _
  refine jL 1 ?_
  refine JA.all [3, 5] (by kernel_rfl) (by simp) ?_
  intro i A
  simp only [List.mem_cons, List.not_mem_nil, or_false] at A
  rcases A with rfl | rfl
  ·refine ⟨_, rfl, rfl, ?_⟩
   refine kS rfl rfl rfl ?_
   intro aa _
   refine jL 3 ?_
   refine JA.all [5, 8] (by kernel_rfl) (by simp) ?_
   intro i A
   simp only [List.mem_cons, List.not_mem_nil, or_false] at A
   rcases A with rfl | rfl
   ·refine ⟨_, rfl, rfl, ?_⟩
    refine kS rfl rfl rfl ?_
    intro bk _
    refine jL 12 ?_
    refine Ej.keep (Keeps.k (Keeps.k (Keeps.k (Keeps.k Keeps.n)))) ?_
    refine Ej.pull Pull.z ?_
    refine Ej.pull (Pull.s (Pull.s Pull.z)) ?_
    refine Ej.pull (Pull.s (Pull.s (Pull.s Pull.z))) ?_
    refine Ej.pull (Pull.s (Pull.s (Pull.s Pull.z))) ?_
    exact G (aa, a6, bk) _ _ _ trivial ⟨rfl, rfl, trivial⟩ rfl rfl
   refine ⟨_, rfl, rfl, ?_⟩
   refine q5 2 EM (oD.c oD.z) (lS.s (lS.s lS.z)) ?_
   refine jL 3 ?_
   refine JA.all [5, 11] (by kernel_rfl) (by simp) ?_
   intro i A
   simp only [List.mem_cons, List.not_mem_nil, or_false] at A
   rcases A with rfl | rfl
   ·refine ⟨_, rfl, rfl, ?_⟩
    refine kS rfl rfl rfl ?_
    intro bl _
    refine jL 8 ?_
    refine Ej.keep (Keeps.k (Keeps.k (Keeps.k (Keeps.k Keeps.n)))) ?_
    refine Ej.pull Pull.z ?_
    refine Ej.pull (Pull.s (Pull.s Pull.z)) ?_
    refine Ej.pull (Pull.s (Pull.s (Pull.s Pull.z))) ?_
    refine Ej.pull (Pull.s (Pull.s (Pull.s Pull.z))) ?_
    exact G (aa, a6, bl) _ _ _ trivial ⟨rfl, rfl, trivial⟩ rfl rfl
   refine ⟨_, rfl, rfl, ?_⟩
   refine q5 2 EY (oD.s (oD.c oD.z)) (lS.s (lS.s lS.z)) ?_
   refine jL 1 ?_
   refine q0 5 rfl (kS rfl rfl rfl ?_)
   intro bm _
   refine jL 6 ?_
   refine Ej.keep (Keeps.k (Keeps.k (Keeps.k (Keeps.k Keeps.n)))) ?_
   refine Ej.pull Pull.z ?_
   refine Ej.pull (Pull.s (Pull.s Pull.z)) ?_
   refine Ej.pull (Pull.s (Pull.s (Pull.s Pull.z))) ?_
   refine Ej.pull (Pull.s (Pull.s (Pull.s Pull.z))) ?_
   exact G (aa, a6, bm) _ _ _ trivial ⟨rfl, rfl, trivial⟩ rfl rfl
  refine ⟨_, rfl, rfl, ?_⟩
  refine kS rfl rfl rfl ?_
  intro bn _
  refine jL 1 ?_
  refine q0 3 rfl (kS rfl rfl rfl ?_)
  intro bo _
  refine jL 14 ?_
  refine Ej.keep (Keeps.k (Keeps.k (Keeps.k (Keeps.k Keeps.n)))) ?_
  refine Ej.pull (Pull.s Pull.z) ?_
  refine Ej.pull (Pull.s (Pull.s Pull.z)) ?_
  refine Ej.pull (Pull.s (Pull.s (Pull.s Pull.z))) ?_
  refine Ej.pull (Pull.s (Pull.s (Pull.s Pull.z))) ?_
  exact G (bo, a6, bn) _ _ _ trivial ⟨rfl, rfl, trivial⟩ rfl rfl
 refine ⟨_, rfl, rfl, ?_⟩
 refine kS rfl rfl rfl ?_
 intro ab _
 refine jL 1 ?_
 refine JA.all [3, 4] (by kernel_rfl) (by simp) ?_
 intro i A
 simp only [List.mem_cons, List.not_mem_nil, or_false] at A
 rcases A with rfl | rfl
 ·refine ⟨_, rfl, rfl, ?_⟩
  refine kS rfl rfl rfl ?_
  intro al _
  refine jL 3 ?_
  refine JA.all [4, 8] (by kernel_rfl) (by simp) ?_
  intro i A
  simp only [List.mem_cons, List.not_mem_nil, or_false] at A
  rcases A with rfl | rfl
  ·refine ⟨_, rfl, rfl, ?_⟩
   refine kS rfl rfl rfl ?_
   intro bp _
   refine jL 12 ?_
   refine Ej.keep (Keeps.k (Keeps.k (Keeps.k (Keeps.k Keeps.n)))) ?_
   refine Ej.pull (Pull.s (Pull.s Pull.z)) ?_
   refine Ej.pull (Pull.s Pull.z) ?_
   refine Ej.pull (Pull.s (Pull.s (Pull.s Pull.z))) ?_
   refine Ej.pull (Pull.s (Pull.s (Pull.s Pull.z))) ?_
   exact G (al, bp, ab) _ _ _ trivial ⟨rfl, rfl, trivial⟩ rfl rfl
  refine ⟨_, rfl, rfl, ?_⟩
  refine q5 2 EM (oD.c oD.z) (lS.s (lS.s lS.z)) ?_
  refine jL 1 ?_
  refine q0 4 rfl (kS rfl rfl rfl ?_)
  intro bq _
  refine jL 10 ?_
  refine Ej.keep (Keeps.k (Keeps.k (Keeps.k (Keeps.k Keeps.n)))) ?_
  refine Ej.pull (Pull.s (Pull.s Pull.z)) ?_
  refine Ej.pull (Pull.s Pull.z) ?_
  refine Ej.pull (Pull.s (Pull.s (Pull.s Pull.z))) ?_
  refine Ej.pull (Pull.s (Pull.s (Pull.s Pull.z))) ?_
  exact G (al, bq, ab) _ _ _ trivial ⟨rfl, rfl, trivial⟩ rfl rfl
 refine ⟨_, rfl, rfl, ?_⟩
 refine kS rfl rfl rfl ?_
 intro br _
 refine jL 1 ?_
 refine q0 3 rfl (kS rfl rfl rfl ?_)
 intro bs _
 refine jL 14 ?_
 refine Ej.keep (Keeps.k (Keeps.k (Keeps.k (Keeps.k Keeps.n)))) ?_
 refine Ej.pull (Pull.s (Pull.s Pull.z)) ?_
 refine Ej.pull (Pull.s (Pull.s Pull.z)) ?_
 refine Ej.pull (Pull.s (Pull.s (Pull.s Pull.z))) ?_
 refine Ej.pull (Pull.s (Pull.s (Pull.s Pull.z))) ?_
 exact G (bs, br, ab) _ _ _ trivial ⟨rfl, rfl, trivial⟩ rfl rfl
end Go.Proofs.YtekmeaoblpfnpaaGreatDoor
end
namespace Go.Sx
open Go
@[reducible] def a8D:DR:=⟨true⟩
attribute [local instance] a8D
theorem jO.same{P f args I H v}(G:Enters P f)(h:∀w,Ready I H w→Calls P f args.toArray w fun e w'=>e= .returned v∧w'=w):jO P f args I H (fun e M H'=>e= .returned v∧M=I∧H'=H):=
 ⟨G,fun w A=>(h w A).mono fun _ w' ⟨h1,h2⟩=>⟨I,H,by subst h2;exact St.start w' I H A.1 A.2.1 A.2.2.1 A.2.2.2,h1,rfl,rfl⟩⟩
theorem jO.grows{P f args v}{A:Ending→Heap→HL→Prop}(h:jO P f args (fun _=>none) [] A)(G:∀e N H',A e N H'→e= .returned v) w:Calls P f args.toArray w fun e w'=>e= .returned v∧∃q O,w'=fK (w.drewN q) O:=
 have W:Ready (fun _=>none) [] w:=by
  unfold Ready;exact⟨(fun b o Z=>by cases Z),(fun p G=>by cases G),List.Pairwise.nil,(fun p G=>by cases G)⟩
 (h.2 w W).mono fun e w' ⟨N,H',M,hq⟩=>⟨G e N H' hq,w'.drawn-w.drawn,w'.heap.extract w.heap.size w'.heap.size,by
  have Q:w'.heap=w.heap++w'.heap.extract w.heap.size w'.heap.size:=by
   apply dF
   intro i;rw[Array.getElem?_append]
   split
   ·rename_i S;exact M.frm i S sI
   rename_i S
   rw[Array.getElem?_extract]
   split
   ·congr 1;omega
   rw[Array.getElem?_eq_none oM]
  have h1:=M.os;have h2:=M.tape;have h3:=M.output;have h4:=M.drw rfl;have h5:w.drawn+(w'.drawn-w.drawn)=w'.drawn:=oM;unfold fK World.drewN;rw[h5];cases w';cases w;simp only at h1 h2 h3 Q ⊢;subst h1 h2 h3;rw[←Q]⟩
end Go.Sx
namespace Go.Proofs.YtekmeaoblpfnpaaGreatDoor
open _root_.Go.Proofs.Tryz
open Go Go.Sx
attribute [local instance] a8D
def uK (r s:Int):Int:=if r≠0 then r else s
section
open Go.Shelf Go.RowKit Go.Lib
theorem b5Y b A G w (h0:w.cell? ⟨b,0,none⟩=some (.int .i64 A))(h1:w.cell? ⟨b,1,none⟩=some (.int .i64 G)):
 Calls aA 57 #[.slice (some ⟨b,0,none⟩) 2 2] w fun e w'=>e= .returned (.int .i64 (uK A G))∧w'=w:=by
 go_enter func57,Tryz.ntmps57
 go_wp2
 refine wp_loop_rounds 3 ?_;rw[rounds_succ]
 go_wp2
 ·have N:(A != 0)=true:=by assumption
  have M:uK A G=A:=zF (by simpa using N)
  go_ret
  exact⟨by rw[M];rfl,rfl⟩
 have N:(A != 0)=false:=by assumption
 have M:uK A G=G:=zD (by simpa using N);rw[rounds_succ]
 go_wp2
 ·go_ret
  exact⟨by rw[M];rfl,rfl⟩
 have Q:(G != 0)=false:=by assumption
 have O:G=0:=by simpa using Q
 rw[rounds_succ]
 go_wp2
 go_ret
 exact⟨by rw[M,O];rfl,rfl⟩
end
def wC (a b:List UInt8):Int:=if a<b then -1 else if b<a then 1 else 0
theorem b0I{a b:List UInt8}(h:¬a<b){t}(A:(!(decide (a<b) || a == b))=t):if t then b<a else ¬b<a:=by
 rw[zI h,Bool.false_or]at A;subst A
 by_cases he:a=b
 ·subst he;simp
 have G:(a == b)=false:=by simpa using he
 rw[G];simp only[Bool.not_false,if_true];exact Std.lt_of_le_of_ne (Std.not_lt.1 h) (Ne.symm he)
theorem b3j b A G I:jO aA 57 [.slice (some ⟨b,0,none⟩) 2 2] I [(b,jM 3 [i64 A,i64 G])] (fun e M H'=>e= .returned (i64 (uK A G))∧M=I∧H'=[(b,jM 3 [i64 A,i64 G])]):=
 jO.same ⟨_,func57,dE,rfl⟩ fun w N=>by
  have O:=N.2.1 _ (.head _);refine b5Y b A G w ?_ ?_<;>simp[World.cell?,O,jM]
theorem ZP x y I:jO aA 59 [i64 x,i64 y] I [] (fun e A H'=>e= .returned (i64 (bC x y))∧A=I∧H'=[]):=
 jO.same ⟨_,func59,dE,rfl⟩ fun w _=>Tryz.cmp_Compare_int x y w
theorem a5m x0 x1 y0 y1 I:jO aA 78 [.agg #[i64 x0,i64 x1],.agg #[i64 y0,i64 y1]] I [] (fun e _ H'=>e= .returned (i64 (uK (bC x0 y0) (bC x1 y1)))∧H'=[]):=by
 refine jO.ob func78 ?_;intro w0 _;refine Cj.sr (bJ rfl (rV rfl rfl rfl rfl rfl ?_));intro _ _;refine bJ rfl (rV rfl rfl rfl rfl rfl ?_);intro _ _;refine J.as ?_;refine J.nss (aJ [0,1] [] 13 (by kernel_rfl) ?_);refine cO ⟨(aN 0 rfl (aN 1 rfl bG)),bH,(aX _)⟩ (fun A=>?_);refine aF 0 rfl A (q1 (off':=0) underlying54 sizeOf3) ?_;refine aF 1 rfl A (q4 isAgg3 (aI 1 rfl)) ?_;refine aF 2 rfl A (q1 (off':=0) underlying54 sizeOf3) ?_;refine aF 3 rfl A (q4 isAgg3 (aI 0 rfl)) ?_;refine aF 5 rfl A (q1 (off':=1) underlying54 sizeOf3) ?_;refine aF 6 rfl A (q4 isAgg3 (aI 1 rfl)) ?_;refine aF 7 rfl A (q1 (off':=1) underlying54 sizeOf3) ?_;refine aF 8 rfl A (q4 isAgg3 (aI 0 rfl)) ?_;refine q0 4 rfl (kT (H1:=[]) rfl rfl rfl rfl rfl (ZP x0 y0 _) ?_ (fun _ _ _ _ h=>by cases h.1) (fun _ _ h=>by cases h.1));intro _ _ _ M W;obtain⟨h,rfl,rfl⟩:=W;cases h;refine⟨⟨(aW (aX _) M),(aN 0 rfl (aN 1 rfl bG)),bH⟩,?_⟩;refine q0 9 rfl (kT (H1:=[]) rfl rfl rfl rfl rfl (ZP x1 y1 _) ?_ (fun _ _ _ _ h=>by cases h.1) (fun _ _ h=>by cases h.1));intro _ _ _ G O;obtain⟨h,rfl,rfl⟩:=O;cases h;refine⟨⟨(aW (aW (aX _) M) G),(aN 0 rfl (aN 1 rfl bG)),bH⟩,?_⟩;refine q0 10 rfl (jY rfl rfl rfl underlying23 sizeOf3 zeroValue3 rfl rfl rfl rfl (xM.one rfl (xM.one rfl xM.none)) ?_);intro _ _;refine⟨⟨(aW (aW (aX _) M) G),(aN 1 rfl (aN 2 rfl bG)),bH⟩,?_⟩;refine JA.pull dW ?_;refine q0 11 rfl (kT (H1:=[_]) rfl rfl rfl rfl rfl (b3j _ (bC x0 y0) (bC x1 y1) _) ?_ (fun _ _ _ _ h=>by cases h.1) (fun _ _ h=>by cases h.1));intro _ _ _ N Q;obtain⟨h,rfl,rfl⟩:=Q;cases h;refine⟨⟨(aW (aW (aW (aX _) M) G) N),(aN 1 rfl (aN 2 rfl bG)),bH⟩,?_⟩;refine cO ⟨(aN 1 rfl (aN 2 rfl bG)),bH,(aW (aW (aW (aX _) M) G) N)⟩ (fun S=>?_);refine aF 12 rfl S (tC rfl rfl) ?_;refine fO (by kernel_rfl) ?_;refine dH (fM (Ej.bare ?_));refine eG rfl rfl rfl ?_;exact rT
theorem a1q s I:jO aA 263 [str s] I [] (fun e A H'=>e= .returned (.bool false)∧A=I∧H'=[]):=by
 refine jO.ob func263 ?_;intro w0 _;refine Cj.sr (J.as ?_);refine J.yC (aO q3 ?_);refine aO q3 ?_;refine aO (QM rfl rfl rfl) ?_;refine J.as ?_;refine J.ns (fM (eG rfl rfl rfl ?_));exact⟨by rw[bne_self_eq_false],rfl,rfl⟩
theorem a5E a b I:jO aA 221 [str a,str b] I [] (fun e Q H'=>e= .returned (i64 (wC a b))∧Q=I∧H'=[]):=by
 refine jO.ob func221 ?_;intro w0 _;refine Cj.sr (J.as ?_);refine J.yC (aO q3 ?_);refine bJ rfl (kT (H1:=[]) rfl rfl rfl rfl rfl (a1q a _) ?_ (fun _ _ _ _ h=>by cases h.1) (fun _ _ h=>by cases h.1));intro _ _ _ _ O;obtain⟨h,rfl,rfl⟩:=O;cases h;refine J.as ?_;refine J.yC (aO q3 ?_);refine bJ rfl (kT (H1:=[]) rfl rfl rfl rfl rfl (a1q b _) ?_ (fun _ _ _ _ h=>by cases h.1) (fun _ _ h=>by cases h.1));intro _ _ _ _ N;obtain⟨h,rfl,rfl⟩:=N;cases h;refine J.as ?_;refine J.a8c (fG (aO q3 ?_));refine J.c0 (fun _=>?_);refine dX (dH (gJ (Cj.sr (aO q3 ?_))));refine J.c0 (fun _=>?_);refine dX (dH (gJ (Cj.sr (aO q3 ?_))));refine aO q3 ?_;refine aO (SK rfl rfl rfl) ?_;refine J.cd (fun G=>?_) (fun G=>?_)
 ·have A:=zA G;refine Cj.sr (J.as ?_);refine J.ns (fM (Ej.LQ (eG rfl rfl rfl ?_)));rw[wC,zF A];exact rT
 have A:=of_decide_eq_false G;refine dX (dH (gJ (Cj.sr (aO q3 ?_))));refine aO q3 ?_;refine aO (b0A rfl rfl rfl) ?_;refine J.cd (fun M=>?_) (fun M=>?_)
 ·refine Cj.sr (J.as ?_);refine J.ns (fM (Ej.LQ (eG rfl rfl rfl ?_)));rw[wC,zD A,zF (by have h:=b0I A M;simpa using h)];exact rT
 refine dX (dH (Cj.sr (J.as ?_)));refine J.ns (fM (eG rfl rfl rfl ?_));rw[wC,zD A,zD (by have h:=b0I A M;simpa using h)];exact rT
theorem a9w a b n m I:jO aA 220 [.agg #[str a,i64 n],.agg #[str b,i64 m]] I [] (fun e _ H'=>e= .returned (i64 (wC a b))∧H'=[]):=by
 refine jO.ob func220 ?_;intro w0 _;refine Cj.sr (bJ rfl (rV rfl rfl rfl rfl rfl ?_));intro _ _;refine bJ rfl (rV rfl rfl rfl rfl rfl ?_);intro _ _;refine J.as ?_;refine J.yC (aO (q1 (off':=0) underlying268 sizeOf9) ?_);refine aO (q4 isAgg9 (jR.at 1 rfl)) ?_;refine aO (q1 (off':=0) underlying268 sizeOf9) ?_;refine aO (q4 isAgg9 (jR.at 0 rfl)) ?_;refine bJ rfl (kT (H1:=[]) rfl rfl rfl rfl rfl (a5E a b _) ?_ (fun _ _ _ _ h=>by cases h.1) (fun _ _ h=>by cases h.1));intro _ _ _ _ A;obtain⟨h,rfl,rfl⟩:=A;cases h;refine J.as ?_;refine J.ns (fM (Ej.bare ?_));refine eG rfl rfl rfl ?_;exact rT
theorem a5r x0 x1 y0 y1 w:Calls aA 78 #[.agg #[i64 x0,i64 x1],.agg #[i64 y0,i64 y1]] w fun e w'=>e= .returned (i64 (uK (bC x0 y0) (bC x1 y1)))∧∃q A,w'=fK (w.drewN q) A:=
 jO.grows (a5m x0 x1 y0 y1 _) (fun _ _ _ h=>h.1) w
theorem b1I a b n m w:Calls aA 220 #[.agg #[str a,i64 n],.agg #[str b,i64 m]] w fun e w'=>e= .returned (i64 (wC a b))∧∃q A,w'=fK (w.drewN q) A:=
 jO.grows (a9w a b n m _) (fun _ _ _ h=>h.1) w
