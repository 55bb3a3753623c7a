/-
  Own texts on the laws of the seat, joined: the logic, and contracts of functions. Conditions: none.
-/
import Derived.Test.YtekmeaoblpfnpaaGreatDoorNmA
import Derived.Test.YtekmeaoblpfnpaaGreatDoorPA6
import Derived.Deep.Draws
set_option linter.all false
set_option maxRecDepth 100000
set_option maxHeartbeats 40000000
open Go.Proofs.Tryz renaming prog -> aA
open Ix renaming plW -> aB,XF -> aC,way -> aN,cnt -> aP,KC -> bI,b8x -> cZ,Rec -> dG,vals -> dK,KY -> dZ,UO -> eY,Pl -> fZ
open Go.Sx.JA renaming tk -> aF,ev -> bD,zt -> bU,fix -> cO
open Go.Sx.AU renaming s -> aG,z -> aT
open Go.Sx.Keeps renaming d -> aH,n -> bM,r -> dB
open Go.Sx.yZ renaming atC -> aI,OA -> bV
open Go.Sx.J renaming z -> aJ,op -> bJ
open Go.Sx.Cj renaming EX -> aK,skip -> dX,persist -> fA,region -> fG,ret -> fM,seq -> gI
open Go.Sx.HSub renaming c -> aO,n -> bG
open Go.Sx.Ej renaming keep -> aQ,QW -> aS,seq -> dH,ZO -> eG,a3Z -> fP,pull -> fU,round -> gJ
open List renaming length_append -> aU,getElem?_eq_some_iff -> aV,append_nil -> aZ,length_eq_zero_iff -> bF,count_le_length -> bK,length_map -> bP,getElem?_map -> bQ,flatMap_cons -> bT,length_cons -> bW,take_length -> bY,perm_append_comm -> bZ,getElem?_set -> dJ,not_mem_nil -> dL,length_drop -> dM,length_take -> dN,drop_length -> dP,nil_append -> dR,getElem?_toArray -> dV,one_le_count_iff -> dY,length_filter_le -> eF,mem_of_getElem? -> eH,mem_of_mem_drop -> eU,mem_of_mem_take -> eX,mem_cons -> fB,flatMap_append -> fC,map_nil -> fJ
open Go.Sx.Le renaming trans -> aW,refl -> aX
open Go.Sx.World renaming block -> aY
open Go.Lib renaming compareInt -> bC
open Go.Sx.CSub renaming n -> bH
open List.Perm renaming cons -> dA
open Nat renaming zero_le -> dD,mul_le_mul_right -> eP
open Array renaming ext_getElem? -> dF,getElem?_modify -> dU
open Go.Result renaming andThen_ok -> dI
open Option renaming map_some -> dQ,map -> gK
open Go.Instr renaming mapEntry -> dS,keyThatStays -> fF,entryStore -> fO,findKey -> fV
open Go.Sx.Pull renaming z -> dW,s -> gB
open Bool renaming false_eq_true -> fD
open Go.Sem renaming run_bind -> fE,run -> fQ
open Go.Sx.FB renaming part -> fH
open Go.Sort renaming grow -> fK
open Go.Sx.yY renaming perm -> gG
namespace Go.Sx
open Go
section
variable {α:Type} [BEq α] [LawfulBEq α]
def OY (l:ML α) (a:α) (c:Nat):Nat:=match l with
 |[]=>c
 |(b,_,n)::r=>if a == b then n else OY r a c
omit [LawfulBEq α] in
theorem a5p{l}{a:α}{c:Nat}(h:AA l a=none):OY l a c=c:=by
 induction l with
 |nil=>rfl
 |cons p r O=>
  obtain⟨b,u,n⟩:=p;unfold AA at h;unfold OY
  split at h
  ·cases h
  rename_i N
  rw[zD N];exact O h
theorem a4M{a v}:∀(l:ML α) (c i:Nat),AA l a=some v→∃j,midx l a i=some (i+j,v)∧l[j]?=some (a,v,OY l a c)∧∀x N,BD l a x N=l.set j (a,x,OY l a c)
 |[],_,_,h=>by cases h
 |(b,u,n)::r,c,i,h=>by
  unfold AA at h
  split at h
  ·rename_i he
   have W:=zB he;subst W;cases h;exact⟨0,by simp[midx],by simp[OY],fun x N=>by simp[BD,OY]⟩
  rename_i Z
  have O:(a == b)=false:=by simpa using Z
  obtain⟨j,h1,h2,h3⟩:=a4M r c (i+1) h;refine⟨j+1,?_,?_,fun x N=>by simp[BD,OY,O,h3]⟩
  ·simp only[midx,O,fD,if_false];rw[h1,Nat.add_assoc,Nat.add_comm 1 j]
  simp only[List.getElem?_cons_succ,OY,O,fD,if_false];exact h2
variable {cx:Cx} {Q:Qt} {e:Env} {I:Heap} {H:HL} {o:Oper} {C:Ct} {S:World→Prop}
theorem b0M{P:Program}{T K E b c:Nat}{kv:α→Value}{l:ML α}{a:α}{z:Value}{w:World}(hT:P.underlying T=some (.map K E))(hk:ET P K kv)(hz:∀w,(zeroValue E).run P w= .ok z w)(hb:w.heap[b]?=some (zY kv l c)):
 (dS T (.map (some b)) (kv a)).run P w= .ok (.tuple #[(AA l a).getD z,i64 (OY l a c:Int)]) (aY w b (zY kv (BD l a ((AA l a).getD z) c) (EN l a c))):=by
 obtain⟨hf,hc,N⟩:=hk;have hg:(getObj b).run P w= .ok (zY kv l c) w:=by simp[getObj,fQ,hb,zY]
 have hset:∀o',(setObj b o').run P w= .ok () (aY w b o'):=fun o'=>by simp[setObj,fQ,hb,aY,zY]
 cases hm:AA l a with
 |none=>
  obtain⟨h1,h2⟩:=TK l 0 hm;have h3:(fV K (kv a) (l.map (IV kv))).run P w= .ok none w:=by rw[hf,h1]
  simp only[dS,fE,run_underlying hT,dI,hg,zY,hc,h3,hz,hset,h2,EN,hm,a5p hm];simp[goInt]
 |some u=>
  obtain⟨j,h1,h2,h3⟩:=a4M l c 0 hm;rw[Nat.zero_add]at h1;have h4:(fV K (kv a) (l.map (IV kv))).run P w= .ok (some (j,u)) w:=by rw[hf,h1]
  have hj:(l.map (IV kv)).toArray[j]?=some { key:=kv a,val:=u,born:=OY l a c }:=by simp[h2,IV]
  have O:∀w,(fF (kv a) (kv a)).run P w= .ok (kv a) w:=fun w=>by simp[fF,N]
  simp only[dS,fE,run_underlying hT,dI,hg,zY,hc,h4,hj,dQ,Option.getD_some,O,hset,h3,EN,hm,Option.isSome_some,if_true,goInt,Sem.run_pure];refine zC (fun A=>Result.ok (Value.tuple #[u,Value.int .i64 (OY l a c:Int)]) (aY w b (Obj.map A c))) ?_
  apply dF
  intro i;rw[dU];simp only[dV,bQ,dJ]
  by_cases hi:j=i
  ·subst hi;have W:j<l.length:=by
    rcases Nat.lt_or_ge j l.length with Z|Z
    ·exact Z
    simp[List.getElem?_eq_none Z]at h2
   have h5:l[j]=(a,u,OY l a c):=by
    have:=List.getElem?_eq_getElem W;rw[h2]at this;exact(Option.some.inj this).symm
   simp[W,h5]
  simp[hi]
theorem NU{T K E b c d:Nat}{m x}{kv:α→Value}{l a}{O z:Value}{H'}(i:Nat)(ho:o.op= .mapEntry T m x)(hd:o.dst=some d)(hn:Nat.blt d cx.n=true)(hm:ev e m=some (.map (some b)))(hx:ev e x=some O)(W:O=kv a)(hT:cx.P.underlying T=some (.map K E))(hK:ET cx.P K kv)(hz:∀w,(zeroValue E).run cx.P w= .ok z w)
 (Z:H[i]?=some (b,zY kv l c))(a0:AU H i (b,zY kv (BD l a ((AA l a).getD z) c) (EN l a c)) H')(kk:C ((d,.tuple #[(AA l a).getD z,i64 (OY l a c:Int)])::e) I H'):DJ cx Q o e I H C:=by
 intro _ a1 w0 w N hs;unfold Oper.wp;subst W;have hb:=hs.own _ (eH Z);have hr:=b0M (a:=a) hT hK hz hb;have:(execOp w0.eval o).run cx.P w= .ok (.value (.tuple #[(AA l a).getD z,i64 (OY l a c:Int)])) (aY w b (zY kv (BD l a ((AA l a).getD z) c) (EN l a c))):=by
  simp[execOp,ho,N.eval hm,N.eval hx,hr]
 rw[this];simp only[Oper.upon,hd];exact a1 _ _ _ kk _ _ (N.put hn) (hs.block Z a0)
theorem c2j{l:ML α}{a:α}{x v:Value}{c:Nat}(h:MS l c):∃j,(BD l a x c)[j]?=some (a,x,OY l a c)∧BD l a v c=(BD l a x c).set j (a,v,OY l a c):=by
 cases hm:AA l a with
 |none=>
  obtain⟨_,h2⟩:=TK l 0 hm;refine⟨l.length,?_,?_⟩
  ·rw[h2,a5p hm];simp
  rw[h2,h2,a5p hm];simp
 |some u=>
  obtain⟨j,_,h2,h3⟩:=a4M l c 0 hm;refine⟨j,?_,?_⟩
  ·rw[h3,dJ,zF rfl,zF (aV.1 h2).1]
  rw[h3,h3,List.set_set]
theorem a7k{P:Program}{T b c:Nat}{kv:α→Value}{l:ML α}{a:α}{x v:Value}{w:World}(h:MS l c)(Z:w.heap[b]?=some (zY kv (BD l a x c) (EN l a c))):
 (fO T (.map (some b)) (i64 (OY l a c:Int)) v).run P w= .ok () (aY w b (zY kv (BD l a v c) (EN l a c))):=by
 have hg:(getObj b).run P w= .ok (zY kv (BD l a x c) (EN l a c)) w:=by simp[getObj,fQ,Z,zY]
 have hset:∀o',(setObj b o').run P w= .ok () (aY w b o'):=fun o'=>by simp[setObj,fQ,Z,aY,zY]
 obtain⟨j,h1,h2⟩:=c2j (x:=x) (v:=v) (a:=a) h;have O:=h.set a x;generalize BD l a x c=L at h1 h2 O hg;have W:j<L.length:=(aV.1 h1).1;have N:L[j]=(a,x,OY l a c):=(aV.1 h1).2;have hf:(L.map (IV kv)).toArray.findIdx? (fun e=>(e.born:Int) == (OY l a c:Int))=some j:=by
  rw[List.findIdx?_toArray,List.findIdx?_eq_some_iff_getElem];refine⟨by simpa using W,by simp[N],fun k hk=>?_⟩;simp only[List.getElem_map,Bool.not_eq_true,beq_eq_false_iff_ne,ne_eq];intro he;have a0:k<L.length:=oM;have h3:=O.2.1;rw[List.nodup_iff_pairwise_ne,List.pairwise_map,List.pairwise_iff_getElem]at h3;refine h3 k j a0 W hk ?_;rw[N];exact Int.ofNat_inj.1 he
 have a1:∀w,(asInt (i64 (OY l a c:Int))).run P w= .ok (OY l a c:Int) w:=fun w=>by simp[asInt,asIntOf]
 simp only[fO,fE,hg,zY,dI,a1,hf,hset];refine zC (fun A=>Result.ok () (aY w b (Obj.map A (EN l a c)))) ?_;rw[h2]
 apply dF
 intro i;rw[dU];simp only[dV,bQ,dJ]
 by_cases hi:j=i
 ·subst hi;simp[W,N]
 simp[hi]
theorem LC{T b c:Nat}{m x y:Operand}{kv:α→Value}{l:ML α}{a:α}{u v:Value}{n:Int}{H':HL}(i:Nat)(ho:o.op= .entryStore T m x y)(hd:o.dst=none)(hm:ev e m=some (.map (some b)))(hx:ev e x=some (i64 n))(O:n=(OY l a c:Int))(hy:ev e y=some v)(W:MS l c)
 (Z:H[i]?=some (b,zY kv (BD l a u c) (EN l a c)))(a0:AU H i (b,zY kv (BD l a v c) (EN l a c)) H')(kk:C e I H'):DJ cx Q o e I H C:=by
 intro _ a1 w0 w N hs;unfold Oper.wp;subst O;have hb:=hs.own _ (eH Z);have hr:=a7k (P:=cx.P) (T:=T) (v:=v) W hb;have:(execOp w0.eval o).run cx.P w= .ok .skip (aY w b (zY kv (BD l a v c) (EN l a c))):=by
  simp[execOp,ho,N.eval hm,N.eval hx,N.eval hy,hr]
 rw[this];simp only[Oper.upon,hd];exact a1 _ _ _ kk _ _ N.WE (hs.block Z a0)
end
end Go.Sx
section
namespace Go.Proofs.YtekmeaoblpfnpaaGreatDoor
open _root_.Go.Proofs.Tryz
open Go Go.Sx
abbrev zZ (t:dG):Value:= .agg #[i64 t.1,i64 t.2]
abbrev FH (p:fZ):Value:= .agg #[str p.1,str p.2]
theorem EZ:ET aA 54 zZ:=ET.b5p b2u kR dE dE rfl rfl rfl rfl tU3 OG
theorem MW:ET aA 152 FH:=ET.c4R a3Q kR dE dE rfl rfl rfl rfl BQ CU
def setH (b:Nat) (l:ML fZ) (c:Nat) (N:OW fZ dG):HL:=(b,zY FH l c)::TW zZ N
theorem ZR b l c A B p N m k:([(b,zY FH l c),(N,zY zZ m k)]++TW zZ (A++B)).Perm (setH b l c (A++(p,N,m,k)::B)):=
 dA _ (b7K zZ A B p N m k)
theorem a1d{α:Type}[BEq α][LawfulBEq α](l:ML α)(a:α)(v:Value)(c:Nat):BD l a v c≠[]:=fun h=>by
 have:=(c1C (l:=l) (a:=a) (x:=a) (v:=v) (c:=c)).2 (.inr rfl);rw[h]at this;cases this
theorem PN{α:Type}[BEq α][LawfulBEq α]{l:ML α}{a:α}{v z:Value}{c:Nat}:(AA (BD l a v c) a).getD z=v:=by
 rw[OM];simp
theorem b6M{n}(h:n≠0):cv n=some (i64 (n:Int)):=zD h
theorem c4w b l c p t (Z:AA l p=none) I:yY aA 97 [.map (some b),FH p,zZ t] I [(b,zY FH l c)]
 (fun e _ H'=>∃N,e= .returned (.tuple #[])∧H'=[(b,zY FH (BD l p (.map (some N)) c) (EN l p c)),(N,zY zZ (BD [] t (i64 1) 0) (EN ([]:ML dG) t 0))]):=by
 refine zQ func97 fun w0 _=>?_;refine yU 3 ?_;intro _ _;refine yU 1 ?_;intro _ _;refine yU 7 ?_;refine aJ (BI (kv:=FH) (l:=l) (a:=p) rfl rfl rfl rfl JK MW LW (yZ.at 2 rfl)) ?_;refine J.ev 8 (.map none) rfl (by rw[Z];rfl) ?_;refine yU 7 ?_;refine bJ rfl (BH rfl rfl rfl ?_);intro O _;refine bJ rfl (ES (kv:=FH) (a:=p) 3 (.inr rfl) rfl rfl rfl rfl rfl JK MW rfl (aG (aG (aG aT))) ?_);refine yU 2 ?_;refine aK [1,2,3] [] 9 kR ?_;refine yU 2 ?_;refine bU 2 rfl (BI (kv:=FH) (l:=(BD l p (.map (some O)) c)) (a:=p) rfl rfl rfl rfl JK MW LW (aI 2 rfl)) ?_;refine bD 15 (.map (some O)) rfl PN ?_;refine yU 1 ?_;refine JA.all [4,6] kR sI ?_;intro i W;simp only[fB,dL,or_false]at W;rcases W with rfl|rfl
 ·refine⟨_,rfl,rfl,?_⟩;refine AY (BI (kv:=zZ) (l:=[]) (a:=t) rfl rfl rfl rfl IC EZ ZK (yZ.at 0 rfl)) rfl rfl ?_;refine yU 1 ?_;refine bD 17 (i64 0) rfl rfl ?_;refine cO AO (fun _=>?_);refine bU 5 rfl (NQ rfl rfl rfl (IU dE)) ?_;refine zO 6 rfl (NU (kv:=zZ) (l:=[]) (c:=0) (a:=t) 0 rfl rfl rfl rfl rfl rfl IC EZ ZK rfl aT ?_);refine yU 2 ?_;refine zO 8 rfl (LC (kv:=zZ) (l:=[]) (a:=t) (c:=0) 0 rfl rfl rfl rfl rfl rfl MS.nil rfl aT ?_);refine yU 2 ?_;refine aQ (Keeps.k (aH (aH (Keeps.k bM)))) ?_;refine fU dW ?_;refine fU (gB dW) ?_;refine aS rfl rfl ?_;exact⟨_,rfl,rfl⟩
 refine⟨_,rfl,rfl,?_⟩;refine NU (kv:=zZ) (l:=[]) (c:=0) (a:=t) 0 rfl rfl rfl rfl rfl rfl IC EZ ZK rfl aT ?_;refine yU 2 ?_;refine zO 4 rfl (AY (BI (kv:=zZ) (l:=(BD [] t ((AA [] t).getD (.int .i64 0)) 0)) (a:=t) rfl rfl rfl rfl IC EZ ZK (yZ.at 0 rfl)) rfl rfl ?_);refine yU 1 ?_;refine bD 17 (i64 0) rfl PN ?_;refine cO AO (fun _=>?_);refine bU 5 rfl (NQ rfl rfl rfl (IU dE)) ?_;refine zO 8 rfl (LC (kv:=zZ) (l:=[]) (a:=t) (c:=0) 0 rfl rfl rfl rfl rfl rfl MS.nil rfl aT ?_);refine yU 2 ?_;refine aQ (Keeps.k (aH (aH (Keeps.k bM)))) ?_;refine fU dW ?_;refine fU (gB dW) ?_;refine aS rfl rfl ?_;exact⟨_,rfl,rfl⟩
theorem c2A b l c p t N m (k n:Nat)(W:AA l p=some (.map (some N)))(O:MS m k)(Z:(AA m t).getD (i64 0)=i64 (n:Int))(a0:n≤1000000000000000) I:yY aA 97 [.map (some b),FH p,zZ t] I [(b,zY FH l c),(N,zY zZ m k)]
 (fun e _ H'=>e= .returned (.tuple #[])∧H'=[(b,zY FH l c),(N,zY zZ (BD m t (i64 ((n+1:Nat):Int)) k) (EN m t k))]):=by
 refine zQ func97 fun w0 _=>?_;refine yU 3 ?_;intro _ _;refine yU 1 ?_;intro _ _;refine yU 7 ?_;refine aJ (BI (kv:=FH) (l:=l) (a:=p) rfl rfl rfl rfl JK MW LW (yZ.at 2 rfl)) ?_;refine J.ev 8 (.map (some N)) rfl (by rw[W];rfl) ?_;refine yU 6 ?_;refine aK [0,1,2] [] 9 kR ?_;refine yU 2 ?_;refine bU 2 rfl (BI (kv:=FH) (l:=l) (a:=p) rfl rfl rfl rfl JK MW LW (aI 2 rfl)) ?_;refine bD 15 (.map (some N)) rfl (by rw[W];rfl) ?_;refine yU 1 ?_;refine JA.all [4,6] kR sI ?_;intro i hi;simp only[fB,dL,or_false]at hi;rcases hi with rfl|rfl
 ·refine⟨_,rfl,rfl,?_⟩;refine AY (BI (kv:=zZ) (l:=m) (a:=t) rfl rfl rfl rfl IC EZ ZK (yZ.at 3 rfl)) rfl rfl ?_;refine yU 1 ?_;refine bD 17 (i64 (n:Int)) rfl Z ?_;refine yU 1 ?_;refine zO 6 rfl (NU (kv:=zZ) (l:=m) (c:=k) (a:=t) 3 rfl rfl rfl rfl rfl rfl IC EZ ZK rfl (aG (aG (aG aT))) ?_);refine yU 2 ?_;refine zO 8 rfl (LC (kv:=zZ) (l:=m) (a:=t) (c:=k) 3 rfl rfl rfl rfl rfl rfl O rfl (aG (aG (aG aT))) ?_);refine yU 2 ?_;refine aQ (aH (aH (Keeps.k (Keeps.k bM)))) ?_;refine aS rfl rfl ?_;exact rT
 refine⟨_,rfl,rfl,?_⟩;refine NU (kv:=zZ) (l:=m) (c:=k) (a:=t) 3 rfl rfl rfl rfl rfl rfl IC EZ ZK rfl (aG (aG (aG aT))) ?_;refine yU 2 ?_;refine zO 4 rfl (AY (BI (kv:=zZ) (l:=(BD m t ((AA m t).getD (.int .i64 0)) k)) (a:=t) rfl rfl rfl rfl IC EZ ZK (yZ.at 3 rfl)) rfl rfl ?_);refine yU 1 ?_;refine bD 17 (i64 (n:Int)) rfl (PN.trans Z) ?_;refine yU 1 ?_;refine zO 8 rfl (LC (kv:=zZ) (l:=m) (a:=t) (c:=k) 3 rfl rfl rfl rfl rfl rfl O rfl (aG (aG (aG aT))) ?_);refine yU 2 ?_;refine aQ (aH (aH (Keeps.k (Keeps.k bM)))) ?_;refine aS rfl rfl ?_;exact rT
theorem b6E b l c N f p t (h:CJ l c N f)(hf:f p t≤1000000000000000) I:
 yY aA 97 [.map (some b),FH p,zZ t] I (setH b l c N) (fun e _ H'=>∃l' c' N',e= .returned (.tuple #[])∧CJ l' c' N' (bump f p t (· +1))∧H'=setH b l' c' N'):=by
 rcases h.find p with⟨a2,W,hz⟩|⟨A,O,m,k,B,rfl,W,a0,a3,a1,hA,hB⟩
 ·have h1:=(c4w b l c p t W I).frame (TW zZ N);refine h1.leave fun e I' H' _ ⟨H1,hH,O,he,Z⟩=>⟨_,[],?_,BD l p (.map (some O)) c,EN l p c,N++[(p,O,BD [] t (i64 1) 0,EN ([]:ML dG) t 0)],he,h.add a2 (MS.nil.set t _) (a1d _ _ _ _) (fun s=>?_),rfl⟩
  ·rw[aZ,hH,Z];unfold setH;rw[a2M];exact dA _ bZ
  rw[OM]
  by_cases hs:(s == t)=true
  ·rw[zF hs,zF hs];rfl
  rw[zD hs,zD hs];rfl
 have hn:=b8U a1 t;have h1:=(gG (ZR b l c A B p O m k) ((c2A b l c p t O m k (f p t) W a0 hn hf I).frame (TW zZ (A++B))));refine h1.leave fun e I' H' _ ⟨H1,hH,he,Z⟩=>⟨_,[],?_,l,c,A++(p,O,BD m t (i64 ((f p t+1:Nat):Int)) k,EN m t k)::B,he,h.set (d:=(· +1)) (a0.set t _) (a1d _ _ _ _) (fun s=>?_),rfl⟩
 ·rw[aZ,hH,Z];exact(ZR b l c A B p O _ _).symm
 exact b9a a1 t (f p t+1) (Nat.succ_ne_zero _) k s
theorem b7r b l c p t N m (k n:Nat)(O:AA l p=some (.map (some N)))(a8:MS m k)(hn:(AA m t).getD (i64 0)=i64 (n:Int))(ad:1≤n)(ae:n≤1000000000000000) I:yY aA 90 [.map (some b),FH p,zZ t] I [(b,zY FH l c),(N,zY zZ m k)]
 (fun e _ H'=>(n≠1∧e= .returned (.tuple #[])∧H'=[(b,zY FH l c),(N,zY zZ (BD m t (i64 ((n-1:Nat):Int)) k) (EN m t k))])∨(n=1∧(GL (BD m t (i64 ((n-1:Nat):Int)) k) t)≠[]∧e= .returned (.tuple #[])∧H'=[(b,zY FH l c),(N,zY zZ (GL (BD m t (i64 ((n-1:Nat):Int)) k) t) (EN m t k))])∨(n=1∧(GL (BD m t (i64 ((n-1:Nat):Int)) k) t)=[]∧e= .returned (.tuple #[])∧H'=[(b,zY FH (GL l p) c),(N,zY zZ (GL (BD m t (i64 ((n-1:Nat):Int)) k) t) (EN m t k))])):=by
 refine zQ func90 fun w0 _=>?_;refine yU 3 ?_;intro _ _;refine yU 1 ?_;intro _ _;refine yU 3 ?_;refine aK [0,1,2] [] 9 kR ?_;refine yU 2 ?_;refine bU 2 rfl (BI (kv:=FH) (l:=l) (a:=p) rfl rfl rfl rfl JK MW LW (aI 2 rfl)) ?_;refine bD 8 (.map (some N)) rfl (by rw[O];rfl) ?_;refine yU 1 ?_;refine JA.all [4,6] kR sI ?_;intro i hi;simp only[fB,dL,or_false]at hi;rcases hi with rfl|rfl
 ·refine⟨_,rfl,rfl,?_⟩;refine AY (BI (kv:=zZ) (l:=m) (a:=t) rfl rfl rfl rfl IC EZ ZK (yZ.at 3 rfl)) rfl rfl ?_;refine yU 1 ?_;refine bD 10 (i64 (n:Int)) rfl hn ?_;refine yU 1 ?_;refine bD 11 (i64 ((n-1:Nat):Int)) rfl (zC i64 oM) ?_;refine zO 6 rfl (NU (kv:=zZ) (l:=m) (c:=k) (a:=t) 3 rfl rfl rfl rfl rfl rfl IC EZ ZK rfl (aG (aG (aG aT))) ?_);refine yU 2 ?_;refine zO 8 rfl (LC (kv:=zZ) (l:=m) (a:=t) (c:=k) 3 rfl rfl rfl rfl rfl rfl a8 rfl (aG (aG (aG aT))) ?_);refine yU 5 ?_;refine aK [0,1,2,3] [] 6 kR ?_;refine yU 2 ?_;refine bU 2 rfl (BI (kv:=FH) (l:=l) (a:=p) rfl rfl rfl rfl JK MW LW (aI 2 rfl)) ?_;refine bD 16 (.map (some N)) rfl (by rw[O];rfl) ?_;refine yU 1 ?_;refine bU 4 rfl (BI (kv:=zZ) (l:=(BD m t (i64 ((n-1:Nat):Int)) k)) (a:=t) rfl rfl rfl rfl IC EZ ZK (aI 3 rfl)) ?_;refine bD 18 (i64 ((n-1:Nat):Int)) rfl PN ?_;refine zK ?_ ?_<;>intro ac a9
  ·refine aK [0,1,2] [] 5 kR ?_;refine yU 2 ?_;refine bU 2 rfl (BI (kv:=FH) (l:=l) (a:=p) rfl rfl rfl rfl JK MW LW (aI 2 rfl)) ?_;refine bD 22 (.map (some N)) rfl (by rw[O];rfl) ?_;refine yU 1 ?_;refine zO 4 rfl (UK (kv:=zZ) (a:=t) 3 rfl rfl rfl rfl rfl IC EZ rfl (aG (aG (aG aT))) ?_);refine yU 7 ?_;refine aJ (BI (kv:=FH) (l:=l) (a:=p) rfl rfl rfl rfl JK MW LW (yZ.at 2 rfl)) ?_;refine J.ev 26 (.map (some N)) rfl (by rw[O];rfl) ?_;refine aJ (MK (kv:=zZ) (l:=(GL (BD m t (i64 ((n-1:Nat):Int)) k) t)) rfl rfl IC (yZ.at 3 rfl)) ?_;refine zK ?_ ?_<;>intro Z aa
   ·have a0:(GL (BD m t (i64 ((n-1:Nat):Int)) k) t)=[]:=bF.1 (by have h:=CO Z;omega);refine yU 3 ?_;refine bJ rfl (UK (kv:=FH) (a:=p) 2 rfl rfl rfl rfl rfl JK MW rfl (aG (aG aT)) ?_);refine yU 1 ?_;refine aQ (aH (aH (Keeps.k (Keeps.k bM)))) ?_;refine aS rfl rfl ?_;exact .inr (.inr ⟨oM,a0,rfl,rfl⟩)
   have a1:(GL (BD m t (i64 ((n-1:Nat):Int)) k) t)≠[]:=fun e=>by have h:=CW Z;rw[e]at h;exact h rfl
   refine yU 1 ?_;refine aQ (aH (aH (Keeps.k (Keeps.k bM)))) ?_;refine aS rfl rfl ?_;exact .inr (.inl ⟨oM,a1,rfl,rfl⟩)
  refine yU 6 ?_;refine aJ (BI (kv:=FH) (l:=l) (a:=p) rfl rfl rfl rfl JK MW LW (yZ.at 2 rfl)) ?_;refine J.ev 26 (.map (some N)) rfl (by rw[O];rfl) ?_;refine aJ (MK (kv:=zZ) (l:=(BD m t (i64 ((n-1:Nat):Int)) k)) rfl rfl IC (yZ.at 3 rfl)) ?_;refine zK ?_ ?_<;>intro a2 a4
  ·exact absurd (show(BD m t (i64 ((n-1:Nat):Int)) k)=[] from bF.1 (by have h:=CO a2;omega)) (a1d _ _ _ _)
  refine yU 1 ?_;refine aQ (aH (aH (Keeps.k (Keeps.k bM)))) ?_;refine aS rfl rfl ?_;exact .inl ⟨oM,rfl,rfl⟩
 refine⟨_,rfl,rfl,?_⟩;refine NU (kv:=zZ) (l:=m) (c:=k) (a:=t) 3 rfl rfl rfl rfl rfl rfl IC EZ ZK rfl (aG (aG (aG aT))) ?_;refine yU 2 ?_;refine zO 4 rfl (AY (BI (kv:=zZ) (l:=(BD m t ((AA m t).getD (.int .i64 0)) k)) (a:=t) rfl rfl rfl rfl IC EZ ZK (yZ.at 3 rfl)) rfl rfl ?_);refine yU 1 ?_;refine bD 10 (i64 (n:Int)) rfl (PN.trans hn) ?_;refine yU 1 ?_;refine bD 11 (i64 ((n-1:Nat):Int)) rfl (zC i64 oM) ?_;refine zO 8 rfl (LC (kv:=zZ) (l:=m) (a:=t) (c:=k) 3 rfl rfl rfl rfl rfl rfl a8 rfl (aG (aG (aG aT))) ?_);refine yU 5 ?_;refine aK [0,1,2,3] [] 6 kR ?_;refine yU 2 ?_;refine bU 2 rfl (BI (kv:=FH) (l:=l) (a:=p) rfl rfl rfl rfl JK MW LW (aI 2 rfl)) ?_;refine bD 16 (.map (some N)) rfl (by rw[O];rfl) ?_;refine yU 1 ?_;refine bU 4 rfl (BI (kv:=zZ) (l:=(BD m t (i64 ((n-1:Nat):Int)) k)) (a:=t) rfl rfl rfl rfl IC EZ ZK (aI 3 rfl)) ?_;refine bD 18 (i64 ((n-1:Nat):Int)) rfl PN ?_;refine zK ?_ ?_<;>intro ab a5
 ·refine aK [0,1,2] [] 5 kR ?_;refine yU 2 ?_;refine bU 2 rfl (BI (kv:=FH) (l:=l) (a:=p) rfl rfl rfl rfl JK MW LW (aI 2 rfl)) ?_;refine bD 22 (.map (some N)) rfl (by rw[O];rfl) ?_;refine yU 1 ?_;refine zO 4 rfl (UK (kv:=zZ) (a:=t) 3 rfl rfl rfl rfl rfl IC EZ rfl (aG (aG (aG aT))) ?_);refine yU 7 ?_;refine aJ (BI (kv:=FH) (l:=l) (a:=p) rfl rfl rfl rfl JK MW LW (yZ.at 2 rfl)) ?_;refine J.ev 26 (.map (some N)) rfl (by rw[O];rfl) ?_;refine aJ (MK (kv:=zZ) (l:=(GL (BD m t (i64 ((n-1:Nat):Int)) k) t)) rfl rfl IC (yZ.at 3 rfl)) ?_;refine zK ?_ ?_<;>intro W a6
  ·have a0:(GL (BD m t (i64 ((n-1:Nat):Int)) k) t)=[]:=bF.1 (by have h:=CO W;omega);refine yU 3 ?_;refine bJ rfl (UK (kv:=FH) (a:=p) 2 rfl rfl rfl rfl rfl JK MW rfl (aG (aG aT)) ?_);refine yU 1 ?_;refine aQ (aH (aH (Keeps.k (Keeps.k bM)))) ?_;refine aS rfl rfl ?_;exact .inr (.inr ⟨oM,a0,rfl,rfl⟩)
  have a1:(GL (BD m t (i64 ((n-1:Nat):Int)) k) t)≠[]:=fun e=>by have h:=CW W;rw[e]at h;exact h rfl
  refine yU 1 ?_;refine aQ (aH (aH (Keeps.k (Keeps.k bM)))) ?_;refine aS rfl rfl ?_;exact .inr (.inl ⟨oM,a1,rfl,rfl⟩)
 refine yU 6 ?_;refine aJ (BI (kv:=FH) (l:=l) (a:=p) rfl rfl rfl rfl JK MW LW (yZ.at 2 rfl)) ?_;refine J.ev 26 (.map (some N)) rfl (by rw[O];rfl) ?_;refine aJ (MK (kv:=zZ) (l:=(BD m t (i64 ((n-1:Nat):Int)) k)) rfl rfl IC (yZ.at 3 rfl)) ?_;refine zK ?_ ?_<;>intro a3 a7
 ·exact absurd (show(BD m t (i64 ((n-1:Nat):Int)) k)=[] from bF.1 (by have h:=CO a3;omega)) (a1d _ _ _ _)
 refine yU 1 ?_;refine aQ (aH (aH (Keeps.k (Keeps.k bM)))) ?_;refine aS rfl rfl ?_;exact .inl ⟨oM,rfl,rfl⟩
theorem c3J{n}(h:cv n=none):n=0:=by
 unfold cv at h
 split at h
 ·assumption
 cases h
theorem b1B{m k}(h:MS m k) t v (s:dG):AA (GL (BD m t v k) t) s=if s == t then none else AA m s:=by
 rw[a2V (h.set t v).1,OM]
 by_cases hs:(s == t)=true
 ·rw[zF hs,zF hs]
 rw[zD hs,zD hs,zD hs]
theorem a8I b l c N f p t (h:CJ l c N f)(a1:1≤f p t)(hf:f p t≤1000000000000000) I:
 yY aA 90 [.map (some b),FH p,zZ t] I (setH b l c N) (fun e _ H'=>∃l' c' N',e= .returned (.tuple #[])∧CJ l' c' N' (bump f p t (· -1))∧H'=setH b l' c' N'):=by
 rcases h.find p with⟨a5,a2,hz⟩|⟨A,Z,m,k,B,rfl,a2,O,a6,a0,hA,hB⟩
 ·rw[hz t]at a1;omega
 have hn:=b8U a0 t;have h1:=(gG (ZR b l c A B p Z m k) ((b7r b l c p t Z m k (f p t) a2 O hn a1 hf I).frame (TW zZ (A++B))));refine h1.leave fun e _ H' _ ⟨H1,hH,hq⟩=>?_;rcases hq with⟨h9,he,W⟩|⟨h9,a3,he,W⟩|⟨h9,a4,he,W⟩
 ·refine⟨_,[],?_,l,c,A++(p,Z,BD m t (i64 ((f p t-1:Nat):Int)) k,EN m t k)::B,he,h.set (d:=(· -1)) (O.set t _) (a1d _ _ _ _) (fun s=>?_),rfl⟩
  ·rw[aZ,hH,W];exact(ZR b l c A B p Z _ _).symm
  exact b9a a0 t (f p t-1) oM k s
 ·refine⟨_,[],?_,l,c,A++(p,Z,GL (BD m t (i64 ((f p t-1:Nat):Int)) k) t,EN m t k)::B,he,h.set (d:=(· -1)) ((O.set t _).del t) a3 (fun s=>?_),rfl⟩
  ·rw[aZ,hH,W];exact(ZR b l c A B p Z _ _).symm
  rw[b1B O];show _=if (s == t)=true then cv (f p t-1)else _;rw[h9];rfl
 refine⟨_,[(Z,zY zZ (GL (BD m t (i64 ((f p t-1:Nat):Int)) k) t) (EN m t k))],?_,GL l p,c,A++B,he,h.drop (d:=(· -1)) (fun s hs=>?_) (by show f p t-1=0;omega),rfl⟩
 ·rw[hH,W];unfold setH;exact dA _ bZ
 have h2:=b1B O t (i64 ((f p t-1:Nat):Int)) s;rw[a4,zD (by simpa using hs),a0]at h2;exact c3J h2.symm
end Go.Proofs.YtekmeaoblpfnpaaGreatDoor
end
namespace Go.Proofs.YtekmeaoblpfnpaaGreatDoor
open _root_.Go.Proofs.Tryz
open Go Go.Sx
abbrev OJ (vb wb kb:Nat):List Value:=[.map (some vb),.map (some wb),.map (some kb)]
structure FY where
  t:Ix.Rec
  k:UInt8
  l:UInt8
  v:Value
  fs:List Ke.LV
def IB (e:FY):List Value:=[i64 e.t.1,i64 e.t.2,u8 e.k,u8 e.l,e.v]
theorem IL e:(IB e).length=5:=rfl
theorem c4v xb eb ib vb wb kb ek el ev l c N f p t (h:CJ l c N f)(hf:f p t≤1000000000000000) I (a1:I xb=some (yX 26 [ptr ib 0]))(a2:I eb=some (yX 59 [i64 t.1,i64 t.2,u8 ek,u8 el,ev])):
 yY aA 96 [FH p,ptr xb 0,ptr eb 0] I ([(ib,yX 114 (OJ vb wb kb))]++setH wb l c N) (fun e _ H'=>∃l' c' N',e= .returned (.tuple #[])∧CJ l' c' N' (bump f p t (· +1))∧H'=[(ib,yX 114 (OJ vb wb kb))]++setH wb l' c' N'):=by
 refine yY.ob func96 ?_;intro w0 _;refine Cj.sr (bJ rfl (JM rfl rfl rfl rfl rfl ?_));intro _ _;refine J.ns (aK [0,1] [] 8 kR ?_);have W:=a1;have Z:=a2;refine cO ⟨(aO 0 rfl (aO 1 rfl bG)),bH,(aX _)⟩ (fun O=>?_);refine aF 0 rfl O (DF isAgg26 (bV W)) ?_;refine aF 1 rfl O (EL rfl rfl) ?_;refine aF 2 rfl O (CV (off':=1) a0s YH) ?_;refine aF 3 rfl O (DF isAgg112 (aI 1 rfl)) ?_;refine aF 4 rfl O (FU isAgg152 sizeOf152 (aI 0 rfl)) ?_;refine aF 5 rfl O (CV (off':=0) a2R EJ) ?_;refine aF 6 rfl O (FU IZ EJ (bV Z)) ?_;refine zO 7 rfl (NJ (H1:=setH _ _ _ _) [_,_] rfl rfl rfl rfl rfl rfl (b6E wb l c N f p t h hf _) ?_ (fun _ _ _ _ ⟨_,_,_,h,_⟩=>by cases h) (fun _ _ ⟨_,_,_,h,_⟩=>by cases h));intro _ _ _ a0 a3;obtain⟨l1,c1,N1,h,hN,rfl⟩:=a3;cases h;refine⟨⟨(aW (aX _) a0),(aO 0 rfl (aO 1 rfl bG)),bH⟩,?_⟩;refine EW ?_;refine aQ (aH (Keeps.k dB)) ?_;refine aS rfl rfl ?_;exact⟨l1,c1,N1,rfl,hN,rfl⟩
theorem c3g xb eb ib vb wb kb ek el ev l c N f p t (h:CJ l c N f)(hf:f p t≤1000000000000000) I (a1:I xb=some (yX 26 [ptr ib 0]))(a2:I eb=some (yX 59 [i64 t.1,i64 t.2,u8 ek,u8 el,ev])):
 yY aA 98 [FH p,ptr xb 0,ptr eb 0] I ([(ib,yX 114 (OJ vb wb kb))]++setH kb l c N) (fun e _ H'=>∃l' c' N',e= .returned (.tuple #[])∧CJ l' c' N' (bump f p t (· +1))∧H'=[(ib,yX 114 (OJ vb wb kb))]++setH kb l' c' N'):=by
 refine yY.ob func98 ?_;intro w0 _;refine Cj.sr (bJ rfl (JM rfl rfl rfl rfl rfl ?_));intro _ _;refine J.ns (aK [0,1] [] 8 kR ?_);have W:=a1;have Z:=a2;refine cO ⟨(aO 0 rfl (aO 1 rfl bG)),bH,(aX _)⟩ (fun O=>?_);refine aF 0 rfl O (DF isAgg26 (bV W)) ?_;refine aF 1 rfl O (EL rfl rfl) ?_;refine aF 2 rfl O (CV (off':=2) a0s YH) ?_;refine aF 3 rfl O (DF isAgg112 (aI 1 rfl)) ?_;refine aF 4 rfl O (FU isAgg152 sizeOf152 (aI 0 rfl)) ?_;refine aF 5 rfl O (CV (off':=0) a2R EJ) ?_;refine aF 6 rfl O (FU IZ EJ (bV Z)) ?_;refine zO 7 rfl (NJ (H1:=setH _ _ _ _) [_,_] rfl rfl rfl rfl rfl rfl (b6E kb l c N f p t h hf _) ?_ (fun _ _ _ _ ⟨_,_,_,h,_⟩=>by cases h) (fun _ _ ⟨_,_,_,h,_⟩=>by cases h));intro _ _ _ a0 a3;obtain⟨l1,c1,N1,h,hN,rfl⟩:=a3;cases h;refine⟨⟨(aW (aX _) a0),(aO 0 rfl (aO 1 rfl bG)),bH⟩,?_⟩;refine EW ?_;refine aQ (aH (Keeps.k dB)) ?_;refine aS rfl rfl ?_;exact⟨l1,c1,N1,rfl,hN,rfl⟩
theorem c0Q xb eb ib vb wb kb l c N f p t (h:CJ l c N f)(a1:1≤f p t)(hf:f p t≤1000000000000000) I (a2:I xb=some (yX 26 [ptr ib 0]))(a3:I eb=some (yX 54 [i64 t.1,i64 t.2])):
 yY aA 89 [FH p,ptr xb 0,ptr eb 0] I ([(ib,yX 114 (OJ vb wb kb))]++setH wb l c N) (fun e _ H'=>∃l' c' N',e= .returned (.tuple #[])∧CJ l' c' N' (bump f p t (· -1))∧H'=[(ib,yX 114 (OJ vb wb kb))]++setH wb l' c' N'):=by
 refine yY.ob func89 ?_;intro w0 _;refine Cj.sr (bJ rfl (JM rfl rfl rfl rfl rfl ?_));intro _ _;refine J.ns (aK [0,1] [] 7 kR ?_);have W:=a2;have Z:=a3;refine cO ⟨(aO 0 rfl (aO 1 rfl bG)),bH,(aX _)⟩ (fun O=>?_);refine aF 0 rfl O (DF isAgg26 (bV W)) ?_;refine aF 1 rfl O (EL rfl rfl) ?_;refine aF 2 rfl O (CV (off':=1) a0s YH) ?_;refine aF 3 rfl O (DF isAgg112 (aI 1 rfl)) ?_;refine aF 4 rfl O (FU isAgg152 sizeOf152 (aI 0 rfl)) ?_;refine aF 5 rfl O (FU IZ EJ (bV Z)) ?_;refine zO 6 rfl (NJ (H1:=setH _ _ _ _) [_,_] rfl rfl rfl rfl rfl rfl (a8I wb l c N f p t h a1 hf _) ?_ (fun _ _ _ _ ⟨_,_,_,h,_⟩=>by cases h) (fun _ _ ⟨_,_,_,h,_⟩=>by cases h));intro _ _ _ a0 a4;obtain⟨l1,c1,N1,h,hN,rfl⟩:=a4;cases h;refine⟨⟨(aW (aX _) a0),(aO 0 rfl (aO 1 rfl bG)),bH⟩,?_⟩;refine EW ?_;refine aQ (aH (Keeps.k dB)) ?_;refine aS rfl rfl ?_;exact⟨l1,c1,N1,rfl,hN,rfl⟩
theorem c1B xb eb ib vb wb kb l c N f p t (h:CJ l c N f)(a1:1≤f p t)(hf:f p t≤1000000000000000) I (a2:I xb=some (yX 26 [ptr ib 0]))(a3:I eb=some (yX 54 [i64 t.1,i64 t.2])):
 yY aA 91 [FH p,ptr xb 0,ptr eb 0] I ([(ib,yX 114 (OJ vb wb kb))]++setH kb l c N) (fun e _ H'=>∃l' c' N',e= .returned (.tuple #[])∧CJ l' c' N' (bump f p t (· -1))∧H'=[(ib,yX 114 (OJ vb wb kb))]++setH kb l' c' N'):=by
 refine yY.ob func91 ?_;intro w0 _;refine Cj.sr (bJ rfl (JM rfl rfl rfl rfl rfl ?_));intro _ _;refine J.ns (aK [0,1] [] 7 kR ?_);have W:=a2;have Z:=a3;refine cO ⟨(aO 0 rfl (aO 1 rfl bG)),bH,(aX _)⟩ (fun O=>?_);refine aF 0 rfl O (DF isAgg26 (bV W)) ?_;refine aF 1 rfl O (EL rfl rfl) ?_;refine aF 2 rfl O (CV (off':=2) a0s YH) ?_;refine aF 3 rfl O (DF isAgg112 (aI 1 rfl)) ?_;refine aF 4 rfl O (FU isAgg152 sizeOf152 (aI 0 rfl)) ?_;refine aF 5 rfl O (FU IZ EJ (bV Z)) ?_;refine zO 6 rfl (NJ (H1:=setH _ _ _ _) [_,_] rfl rfl rfl rfl rfl rfl (a8I kb l c N f p t h a1 hf _) ?_ (fun _ _ _ _ ⟨_,_,_,h,_⟩=>by cases h) (fun _ _ ⟨_,_,_,h,_⟩=>by cases h));intro _ _ _ a0 a4;obtain⟨l1,c1,N1,h,hN,rfl⟩:=a4;cases h;refine⟨⟨(aW (aX _) a0),(aO 0 rfl (aO 1 rfl bG)),bH⟩,?_⟩;refine EW ?_;refine aQ (aH (Keeps.k dB)) ?_;refine aS rfl rfl ?_;exact⟨l1,c1,N1,rfl,hN,rfl⟩
structure EA where
  i:Nat
  J:Heap
  Y:HL
theorem b3t v wv gw gk cap (YW:Nat→HL→Prop)(Z:HL→Prop)(ag:v.ws.length≤1000000000000) I (a3:IG 9 I v.ws wv) H0 (ab:YW 0 H0)
 (hw:∀k w H J,v.ws[k]?=some w→Le I J→YW k H→yY aA gw (FH (v.name,w)::cap) J H (fun e _ H'=>e= .returned (.tuple #[])∧YW (k+1) H'))
 (hk:∀H J,v.key≠[]→Le I J→YW v.ws.length H→yY aA gk (FH (v.name,v.key)::cap) J H (fun e _ H'=>e= .returned (.tuple #[])∧Z H'))(hz:v.key=[]→∀H,YW v.ws.length H→Z H):
 yY aA 88 [.agg (ZU (v,wv)).toArray,.func (.func gw) #[] cap.toArray,.func (.func gk) #[] cap.toArray] I H0 (fun e _ H'=>e= .returned (.tuple #[])∧Z H'):=by
 obtain⟨wp,wc,rfl⟩:=JQ a3;refine yY.ob func88 ?_;intro w0 _;refine Cj.sr (bJ rfl (JM rfl rfl rfl rfl rfl ?_));intro b1 _;refine J.a0S (fG (aJ (CV (off':=2) a0m a0R) ?_));refine aJ (DF a3F (yZ.at 0 rfl)) ?_;refine aJ (RJ rfl rfl CG) ?_;refine aJ qq2 ?_;refine J.ns (Cj.block (Cj.loop (ι:=EA) (fun y=>y.i≤v.ws.length∧Le I y.J∧YW y.i y.Y) (fun y=>v.ws.length-y.i) (fun y=>[(1,.func (.func gw) #[] cap.toArray),(2,.func (.func gk) #[] cap.toArray),(3,ptr b1 0),(9,.slice wp v.ws.length wc),(10,i64 (v.ws.length:Int)),(11,i64 (y.i:Int))]) (fun y=>y.J) (fun y=>(b1,yX 142 [str v.name,str v.key,.slice wp v.ws.length wc])::y.Y) ⟨0,_,H0⟩ ⟨dD _,aX _,ab⟩ rT rfl rfl ?_));rintro⟨i,_,HY⟩ ⟨hi,N,hY⟩;dsimp only at hi N hY ⊢;have O:=a3.mono N;refine Cj.sr (aJ (a6J rfl rfl rfl) ?_);refine J.nss (Cj.cond rfl (fun a4=>?_) (fun a4=>?_))
 ·have a8:=ED a4;have a7:i<v.ws.length:=oM;obtain⟨x,a5⟩:∃x,v.ws[i]?=some x:=⟨_,BM a7⟩;obtain⟨wb,_,_,ac,a6⟩:=O.some (zU a7);cases ac;refine dX (dH (gI (Cj.block (Cj.sr (aJ (FX (off':=i) CG AV) ?_)))));refine aJ (DU CU (yZ.LK a6) (FT a5)) ?_;refine aJ EP ?_;refine J.nsr (aJ qq2 ?_);refine aJ (CV (off':=0) a0m AV) ?_;refine aJ (DF CU (yZ.at 0 rfl)) ?_;refine aJ qq2 ?_;refine aJ (zN (pl:= #[(0,1),(1,1)]) rfl rfl a5L rfl a3Q (fun w=>by simp[AV]) (fH rfl rfl rfl lsA (fH rfl rfl rfl lsA FB.none))) ?_;refine bJ rfl (NJ (H1:=HY) [_] rfl rfl rfl rfl rfl rfl (hw i x _ _ a5 N hY) ?_ (fun _ _ _ _ h=>by cases h.1) (fun _ _ h=>by cases h.1));intro _ _ H5 a0 ad;have N:=N.mono a0;have O:=O.mono a0;have a6:=a0 _ _ a6;obtain⟨h,ae⟩:=ad;cases h;refine J.nil (Ej.OZ (dH (fG (aJ (NQ rfl rfl rfl (IU oM)) ?_))));refine aJ qq2 ?_;refine J.nil (gJ ⟨i+1,_,H5⟩ ⟨dO,N,ae⟩ dO rT rfl rfl)
 have a8:=FQ a4;have af:i=v.ws.length:=oM;subst af;refine Cj.exit (fP (Ej.a1p (Ej.a1b (dH (Cj.sr (aJ (CV (off':=1) a0m AV) ?_))))));refine aJ (DF CU (yZ.at 0 rfl)) ?_;refine aJ (a3k rfl rfl rfl) ?_;refine J.cd (fun W=>?_) (fun W=>?_)
 ·have a9:=bne_iff_ne.1 W;have a1:v.key≠[]:=bne_iff_ne.1 W;refine fG (aJ qq2 ?_);refine aJ (CV (off':=0) a0m AV) ?_;refine aJ (DF CU (yZ.at 0 rfl)) ?_;refine aJ (CV (off':=1) a0m AV) ?_;refine aJ (DF CU (yZ.at 0 rfl)) ?_;refine aJ (zN (pl:= #[(0,1),(1,1)]) rfl rfl a5L rfl a3Q (fun w=>by simp[AV]) (fH rfl rfl rfl lsA (fH rfl rfl rfl lsA FB.none))) ?_;refine bJ rfl (NJ (H1:=HY) [_] rfl rfl rfl rfl rfl rfl (hk _ _ a1 N hY) ?_ (fun _ _ _ _ h=>by cases h.1) (fun _ _ h=>by cases h.1));intro _ _ _ a2 aa;have N:=N.mono a2;have O:=O.mono a2;obtain⟨h,hZ⟩:=aa;cases h;refine J.nil (aQ (aH dB) ?_);refine aS rfl rfl ?_;exact⟨rfl,hZ⟩
 have a9:=JR W;have a1:v.key=[]:=JR W;refine dX (aQ (aH dB) ?_);refine aS rfl rfl ?_;exact⟨rfl,hz a1 _ hY⟩
end Go.Proofs.YtekmeaoblpfnpaaGreatDoor
namespace Go.Proofs.YtekmeaoblpfnpaaGreatDoor
open Go Go.Sx
theorem b1y f t xs q:bump (aN f t fun p=>xs.count p) q t (· +1)=aN f t fun p=>(xs++[q]).count p:=by
 funext p u
 unfold bump aN
 by_cases hu:u=t
 ·subst hu
  by_cases hp:p=q
  ·subst hp;simp
  have h1:(p == q)=false:=by simpa using hp
  have h2:List.count p [q]=0:=List.count_eq_zero.2 (by simpa using hp);simp[h1,List.count_append,h2]
 have h1:(u == t)=false:=by simpa using hu
 simp[h1,hu]
theorem b1P f t ys q:bump (aN f t fun p=>(q::ys).count p) q t (· -1)=aN f t fun p=>ys.count p:=by
 funext p u
 unfold bump aN
 by_cases hu:u=t
 ·subst hu
  by_cases hp:p=q
  ·subst hp;simp
  have h1:(p == q)=false:=by simpa using hp
  have h2:(q == p)=false:=by simpa using Ne.symm hp
  simp[h1,List.count_cons,h2]
 have h1:(u == t)=false:=by simpa using hu
 simp[h1,hu]
theorem a0V f t n p:aN f t n p t=n p:=zF rfl
def JZ (vs:List Ix.V):Prop:=vs.length≤10000000∧∀v∈vs,v.ws.length≤10000000
theorem b3N:∀(vs:List Ix.V),(∀v∈vs,v.ws.length≤10000000)→(aB vs).length≤vs.length*10000000
 |[],_=>by simp[aB]
 |v::r,h=>by
  have h1:=b3N r fun x N=>h x (.tail _ N);have h2:=h v (.head _);unfold aB at h1 ⊢;rw[bT,aU,bP,bW,Nat.add_mul];omega
theorem b4i:∀(vs:List Ix.V),(aC vs).length≤vs.length
 |[]=>by simp[aC]
 |v::r=>by
  have h1:=b4i r;unfold aC at h1 ⊢;rw[bT,aU,bW]
  by_cases hk:v.key=[]
  ·rw[zF hk,List.length_nil];omega
  rw[zD hk,List.length_singleton];omega
theorem JZ.w{vs}(h:JZ vs):(aB vs).length≤100000000000000:=FD (b3N vs h.2) (eP _ h.1)
theorem JZ.k{vs}(h:JZ vs):(aC vs).length≤10000000:=FD (b4i vs) h.1
theorem b8v{fs}(h:RH fs):JZ (dK fs):=by
 have h1:=a8H fs h fs.length;rw[bY]at h1;refine⟨FD h1 (FD (eP _ h.1) dE),fun v N=>?_⟩;unfold dK at N;obtain⟨f,W,N⟩:=List.mem_flatMap.1 N;obtain⟨_,_,_⟩:=h.2 f W;have O:v.ws.length≤v.text.length+1:=(Ke.KG v.text).1;unfold Ix.TT at N;rcases List.mem_append.1 N with g|g
 ·obtain⟨s,Z,rfl⟩:=List.mem_map.1 g;have:=a1C Z;dsimp only at O;omega
 split at g
 ·rw[List.mem_singleton]at g;subst g;have:=WX f [];rw[XB]at this;dsimp only at O;omega
 cases g
structure Ist where
  vb:Nat
  wb:Nat
  kb:Nat
  lv:ML Ix.Rec
  cv:Nat
  lw:ML Ix.Pl
  cw:Nat
  Nw:OW Ix.Pl Ix.Rec
  lk:ML Ix.Pl
  ck:Nat
  Nk:OW Ix.Pl Ix.Rec
def a3u (ib:Nat) (s:Ist):HL:=(s.vb,zY zZ s.lv s.cv)::(ib,yX 114 (OJ s.vb s.wb s.kb))::(setH s.wb s.lw s.cw s.Nw++setH s.kb s.lk s.ck s.Nk)
def UW (I:Heap) (lv:ML dG) (L:Ix.Ix):Prop:=∀t,(bI L t=none→AA lv t=none)∧∀vs,bI L t=some vs→∃w,AA lv t=some w∧RP I vs w
theorem UW.mono{I N lv L}(h:UW I lv L)(O:Le I N):UW N lv L:=fun t=>⟨(h t).1,fun vs W=>let ⟨w,h1,h2⟩:=(h t).2 vs W;⟨w,h1,h2.mono O⟩⟩
theorem RP.nil I:RP I [] (.slice none 0 0):=⟨[],PU.nil,rfl,fun _ h=>by cases h⟩
theorem UW.at{I lv L}(h:UW I lv L) t:∃w,(AA lv t).getD (.slice none 0 0)=w∧RP I ((bI L t).getD []) w:=by
 cases hg:bI L t with
 |none=>rw[(h t).1 hg];exact⟨_,rfl,RP.nil I⟩
 |some vs=>
  obtain⟨w,h1,h2⟩:=(h t).2 vs hg;rw[h1];exact⟨w,rfl,h2⟩
structure GN (I:Heap) (s:Ist) (L:Ix.Ix):Prop where
  GY:Ix.BK L
  big:L.length≤100000
  vok:∀e∈L,JZ e.2
  vms:MS s.lv s.cv
  vals:UW I s.lv L
  nw:CJ s.lw s.cw s.Nw (Ix.cnt Ix.plW L)
  nk:CJ s.lk s.ck s.Nk (Ix.cnt Ix.XF L)
theorem GN.mono{I N s L}(h:GN I s L)(O:Le I N):GN N s L:=⟨h.GY,h.big,h.vok,h.vms,h.vals.mono O,h.nw,h.nk⟩
theorem b4m pl (h0:pl []=[]) L t:aP pl L=aN (aP pl L) t fun p=>(pl ((bI L t).getD [])).count p:=by
 cases hg:bI L t with
 |none=>
  rw[Option.getD_none,h0];exact Ix.c0s hg
 |some vs=>exact Ix.c0t hg
theorem a9O{L}(N:Ix.BK L)(h:∀e∈L,JZ e.2) t:JZ ((bI L t).getD []):=by
 cases hg:bI L t with
 |none=>exact⟨dD _,fun _ h=>by cases h⟩
 |some vs=>exact h _ ((Ix.IK N).1 hg)
def YS (ib vb wb kb:Nat) (fw fk:fZ→dG→Nat) (Y:HL):Prop:=∃lw cw Nw lk ck Nk,CJ lw cw Nw fw∧CJ lk ck Nk fk∧Y=(ib,yX 114 (OJ vb wb kb))::(setH wb lw cw Nw++setH kb lk ck Nk)
theorem YS.word{O vb wb kb fw fk a0 g args J H}(hY:YS O vb wb kb fw fk H)
 (h:∀l c N,CJ l c N fw→yY aA g args J ([(O,yX 114 (OJ vb wb kb))]++setH wb l c N) (fun e _ H'=>∃W Z N',e= .returned (.tuple #[])∧CJ W Z N' a0∧H'=[(O,yX 114 (OJ vb wb kb))]++setH wb W Z N')):
 yY aA g args J H (fun e _ H'=>e= .returned (.tuple #[])∧YS O vb wb kb a0 fk H'):=by
 obtain⟨lw,cw,Nw,lk,ck,Nk,h1,h2,rfl⟩:=hY;refine((h lw cw Nw h1).frame (setH kb lk ck Nk)).mono fun e _ H' _ ⟨H1,hH,W,Z,N',he,hN,a1⟩=>⟨he,W,Z,N',lk,ck,Nk,hN,h2,?_⟩;rw[hH,a1];rfl
theorem YS.key{O vb wb kb fw fk a0 g args J H}(hY:YS O vb wb kb fw fk H)
 (h:∀l c N,CJ l c N fk→yY aA g args J ([(O,yX 114 (OJ vb wb kb))]++setH kb l c N) (fun e _ H'=>∃W Z N',e= .returned (.tuple #[])∧CJ W Z N' a0∧H'=[(O,yX 114 (OJ vb wb kb))]++setH kb W Z N')):
 yY aA g args J H (fun e _ H'=>e= .returned (.tuple #[])∧YS O vb wb kb fw a0 H'):=by
 obtain⟨lw,cw,Nw,lk,ck,Nk,h1,h2,rfl⟩:=hY;have hp:∀X,(((O,yX 114 (OJ vb wb kb))::(X++setH wb lw cw Nw):HL)).Perm ((O,yX 114 (OJ vb wb kb))::(setH wb lw cw Nw++X)):=fun X=>dA _ bZ;refine(gG (hp (setH kb lk ck Nk)) ((h lk ck Nk h2).frame (setH wb lw cw Nw))).leave fun e _ H' _ ⟨H1,hH,W,Z,N',he,hN,a1⟩=>⟨_,[],?_,he,lw,cw,Nw,W,Z,N',h1,hN,rfl⟩;rw[aZ,hH,a1];exact(hp _).symm
theorem a8U{α:Type}{l:List α}{k x}(h:l[k]?=some x):l.drop k=x::l.drop (k+1):=by
 obtain⟨_,N⟩:=aV.1 h;rw[←N,List.getElem_cons_drop]
theorem b0A v r:aB (v::r)=v.ws.map (fun w=>(v.name,w))++aB r:=by unfold aB;rw[bT]
theorem a4S v r:aC (v::r)=(if v.key=[]then[]else[(v.name,v.key)])++aC r:=by unfold aC;rw[bT]
theorem a7v xs v:aB (xs++[v])=aB xs++v.ws.map fun w=>(v.name,w):=by unfold aB;rw[fC];simp
theorem b3y xs v:aC (xs++[v])=aC xs++if v.key=[]then[]else[(v.name,v.key)]:=by unfold aC;rw[fC];simp
theorem b0S{vs}(h:JZ vs) i:(aB (vs.drop i)).length≤100000000000000:=
 JZ.w ⟨by rw[dM];have:=h.1;omega,fun v N=>h.2 v (eU N)⟩
theorem b0N{vs}(h:JZ vs) i:(aC (vs.drop i)).length≤10000000:=
 JZ.k ⟨by rw[dM];have:=h.1;omega,fun v N=>h.2 v (eU N)⟩
theorem b2g{vs}(h:JZ vs) i:(aB (vs.take i)).length≤100000000000000:=
 JZ.w ⟨by rw[dN];have:=h.1;omega,fun v N=>h.2 v (eX N)⟩
theorem b1U{vs}(h:JZ vs) i:(aC (vs.take i)).length≤10000000:=
 JZ.k ⟨by rw[dN];have:=h.1;omega,fun v N=>h.2 v (eX N)⟩
def YD (ib vb wb kb:Nat) (L:Ix.Ix) (t:dG) (vs:List Ix.V) (i:Nat):HL→Prop:=YS ib vb wb kb (aN (aP aB L) t fun p=>(aB (vs.drop i)).count p) (aN (aP aC L) t fun p=>(aC (vs.drop i)).count p)
theorem b7O xb eb W vb wb kb L t vs (hv:JZ vs) i v wv (a0:vs[i]?=some v) I (a6:IG 9 I v.ws wv)(a1:I xb=some (yX 26 [ptr W 0]))(a2:I eb=some (yX 54 [i64 t.1,i64 t.2])) Y (hY:YD W vb wb kb L t vs i Y):
 yY aA 88 [.agg (ZU (v,wv)).toArray,.func (.func 89) #[] [ptr xb 0,ptr eb 0].toArray,.func (.func 91) #[] [ptr xb 0,ptr eb 0].toArray] I Y (fun e _ H'=>e= .returned (.tuple #[])∧YD W vb wb kb L t vs (i+1) H'):=by
 have hd:=a8U a0;have a8:=hv.2 v (CX a0);have a9:=b0S hv i;have a3:=b0N hv i;refine b3t v wv _ _ [ptr xb 0,ptr eb 0] (fun k=>YS W vb wb kb (aN (aP aB L) t fun p=>((v.ws.drop k).map (fun w=>(v.name,w))++aB (vs.drop (i+1))).count p) (aN (aP aC L) t fun p=>(aC (vs.drop i)).count p)) (YD W vb wb kb L t vs (i+1)) oM I a6 Y ?_ ?_ ?_ ?_
 ·unfold YD at hY;rw[hd,b0A]at hY;rw[hd];exact hY
 ·intro k w H J hk Z O;refine O.word fun l c N hN=>?_;have a4:(v.ws.drop k).map (fun w=>(v.name,w))++aB (vs.drop (i+1))=(v.name,w)::((v.ws.drop (k+1)).map (fun w=>(v.name,w))++aB (vs.drop (i+1))):=by rw[a8U hk];rfl
  rw[a4]at hN;have hb:=b1P (aP aB L) t ((v.ws.drop (k+1)).map (fun w=>(v.name,w))++aB (vs.drop (i+1))) (v.name,w);rw[←hb];refine c0Q xb eb W vb wb kb l c N _ (v.name,w) t hN ?_ ?_ J (Z _ _ a1) (Z _ _ a2)
  ·rw[a0V];exact dY.2 (.head _)
  rw[a0V];refine FD bK ?_;have h9:((v.name,w)::((v.ws.drop (k+1)).map (fun w=>(v.name,w))++aB (vs.drop (i+1)))).length≤(aB (vs.drop i)).length:=by
   rw[hd,b0A,←a4,aU,aU,bP,bP,dM];omega
  omega
 ·intro H J a5 Z O;have a7:YS W vb wb kb (aN (aP aB L) t fun p=>(aB (vs.drop (i+1))).count p) (aN (aP aC L) t fun p=>((v.name,v.key)::aC (vs.drop (i+1))).count p) H:=by
   rw[dP,fJ,dR,hd,a4S,zD a5]at O;exact O
  unfold YD;refine a7.key fun l c N hN=>?_;rw[←b1P (aP aC L) t (aC (vs.drop (i+1))) (v.name,v.key)];refine c1B xb eb W vb wb kb l c N _ (v.name,v.key) t hN ?_ ?_ J (Z _ _ a1) (Z _ _ a2)
  ·rw[a0V];exact dY.2 (.head _)
  rw[a0V];refine FD bK ?_;rw[hd,a4S,zD a5]at a3;have:((v.name,v.key)::aC (vs.drop (i+1))).length≤10000000:=a3;omega
 intro he H O;rw[dP,fJ,dR,hd,a4S,zF he,dR]at O;exact O
def YP (ib vb wb kb:Nat) (L:Ix.Ix) (t:dG) (vs:List Ix.V) (i:Nat):HL→Prop:=YS ib vb wb kb (aN (aP aB L) t fun p=>(aB (vs.take i)).count p) (aN (aP aC L) t fun p=>(aC (vs.take i)).count p)
theorem take_one{α:Type}{l:List α}{k x}(h:l[k]?=some x):l.take (k+1)=l.take k++[x]:=by
 obtain⟨N,O⟩:=aV.1 h;rw[List.take_succ_eq_append_getElem N,O]
theorem b1d xb eb W vb wb kb ek el ev L t vs (hv:JZ vs) i v wv (a0:vs[i]?=some v) I (a3:IG 9 I v.ws wv)(a1:I xb=some (yX 26 [ptr W 0]))(a2:I eb=some (yX 59 [i64 t.1,i64 t.2,u8 ek,u8 el,ev])) Y (hY:YP W vb wb kb L t vs i Y):
 yY aA 88 [.agg (ZU (v,wv)).toArray,.func (.func 96) #[] [ptr xb 0,ptr eb 0].toArray,.func (.func 98) #[] [ptr xb 0,ptr eb 0].toArray] I Y (fun e _ H'=>e= .returned (.tuple #[])∧YP W vb wb kb L t vs (i+1) H'):=by
 have hd:=take_one a0;have a8:=hv.2 v (CX a0);have a9:=b2g hv (i+1);have a4:=b1U hv (i+1);refine b3t v wv _ _ [ptr xb 0,ptr eb 0] (fun k=>YS W vb wb kb (aN (aP aB L) t fun p=>(aB (vs.take i)++(v.ws.take k).map (fun w=>(v.name,w))).count p) (aN (aP aC L) t fun p=>(aC (vs.take i)).count p)) (YP W vb wb kb L t vs (i+1)) oM I a3 Y ?_ ?_ ?_ ?_
 ·unfold YP at hY;rw[List.take_zero,fJ,aZ];exact hY
 ·intro k w H J hk Z O;refine O.word fun l c N hN=>?_;have a5:aB (vs.take i)++(v.ws.take (k+1)).map (fun w=>(v.name,w))=(aB (vs.take i)++(v.ws.take k).map (fun w=>(v.name,w)))++[(v.name,w)]:=by rw[take_one hk,List.map_append,List.append_assoc];rfl
  rw[a5,←b1y (aP aB L) t (aB (vs.take i)++(v.ws.take k).map (fun w=>(v.name,w))) (v.name,w)];refine c4v xb eb W vb wb kb ek el ev l c N _ (v.name,w) t hN ?_ J (Z _ _ a1) (Z _ _ a2);rw[a0V];refine FD bK ?_;have h9:(aB (vs.take i)++(v.ws.take k).map (fun w=>(v.name,w))).length≤(aB (vs.take (i+1))).length:=by
   rw[hd,a7v,aU,aU,bP,bP,dN];omega
  omega
 ·intro H J a6 Z O;have a7:YS W vb wb kb (aN (aP aB L) t fun p=>(aB (vs.take (i+1))).count p) (aN (aP aC L) t fun p=>(aC (vs.take i)).count p) H:=by
   rw[bY,←a7v,←hd]at O;exact O
  unfold YP;refine a7.key fun l c N hN=>?_;have e1:aC (vs.take (i+1))=aC (vs.take i)++[(v.name,v.key)]:=by rw[hd,b3y,zD a6]
  rw[e1,←b1y (aP aC L) t (aC (vs.take i)) (v.name,v.key)];refine c3g xb eb W vb wb kb ek el ev l c N _ (v.name,v.key) t hN ?_ J (Z _ _ a1) (Z _ _ a2);rw[a0V];refine FD bK ?_;rw[e1,aU]at a4;omega
 intro he H O;unfold YP;rw[bY,←a7v,←hd]at O;have e1:aC (vs.take (i+1))=aC (vs.take i):=by rw[hd,b3y,zF he,aZ]
 rw[e1];exact O
structure DA where
  i:Nat
  J:Heap
  Y:HL
theorem a2k t v:∀L:Ix.Ix,(dZ t v L).length≤L.length+1
 |[]=>by simp[dZ]
 |(u,x)::r=>by
  unfold dZ
  split
  ·have:=a2k t v r;rw[bW,bW];omega
  split
  ·simp
  simp
theorem GN.drop{I I' vb wb kb lv cv lw cw Nw lk ck Nk L}(h:GN I ⟨vb,wb,kb,lv,cv,lw,cw,Nw,lk,ck,Nk⟩ L)(a4:Le I I') t {W Z a0 a1 a2 a3}
 (hw:CJ W Z a0 (aN (aP aB L) t fun p=>(aB []).count p))(hk:CJ a1 a2 a3 (aN (aP aC L) t fun p=>(aC []).count p)):GN I' ⟨vb,wb,kb,GL lv t,cv,W,Z,a0,a1,a2,a3⟩ (eY t L):=by
 refine⟨Ix.a0c t h.GY,FD (eF _ _) h.big,fun e he=>h.vok e ((Ix.SV t L e).1 he).1,h.vms.del t,fun u=>⟨fun N=>?_,fun vs N=>?_⟩,?_,?_⟩
 ·show AA (GL lv t) u=none;rw[a2V h.vms.1]
  split
  ·rfl
  rename_i O
  rw[Ix.a1Y h.GY,zD (by simpa using O)]at N;exact(h.vals u).1 N
 ·rw[Ix.a1Y h.GY]at N
  split at N
  ·cases N
  rename_i O
  obtain⟨w,h1,h2⟩:=(h.vals u).2 vs N;refine⟨w,?_,h2.mono a4⟩;show AA (GL lv t) u=some w;rw[a2V h.vms.1,zD (by simpa using O)];exact h1
 ·rw[cZ h.GY];exact hw
 rw[cZ h.GY];exact hk
theorem GN.put{I vb wb kb lv cv lw cw Nw lk ck Nk L}(h:GN I ⟨vb,wb,kb,lv,cv,lw,cw,Nw,lk,ck,Nk⟩ L){t}(hL:L.length<100000){vs}(hv:JZ vs){w}(a4:RP I vs w){W Z a0 a1 a2 a3}
 (hw:CJ W Z a0 (aN (aP aB L) t fun p=>(aB vs).count p))(hk:CJ a1 a2 a3 (aN (aP aC L) t fun p=>(aC vs).count p)):GN I ⟨vb,wb,kb,BD lv t w cv,EN lv t cv,W,Z,a0,a1,a2,a3⟩ (dZ t vs L):=by
 refine⟨Ix.VN t vs h.GY,?_,fun e he=>?_,h.vms.set t w,fun u=>⟨fun N=>?_,fun us N=>?_⟩,?_,?_⟩
 ·have:=a2k t vs L;omega
 ·rcases(Ix.PD t vs h.GY e).1 he with g|g
  ·rw[g];exact hv
  exact h.vok e g.1
 ·show AA (BD lv t w cv) u=none;rw[Ix.a3G h.GY]at N;rw[OM]
  split at N
  ·cases N
  rename_i O
  rw[zD (by simpa using O)];exact(h.vals u).1 N
 ·show ∃w',AA (BD lv t w cv) u=some w'∧_;rw[Ix.a3G h.GY]at N;rw[OM]
  split at N
  ·rename_i he
   cases N;exact⟨w,by rw[zF (by simpa using he)],a4⟩
  rename_i O
  rw[zD (by simpa using O)];exact(h.vals u).2 us N
 ·rw[Ix.b0Z h.GY];exact hw
 rw[Ix.b0Z h.GY];exact hk
theorem c4E I vb wb kb:GN I ⟨vb,wb,kb,[],0,[],0,[],[],0,[]⟩ []:=
 ⟨List.Pairwise.nil,dD _,fun _ h=>(by cases h),MS.nil,fun _=>⟨fun _=>rfl,fun _ h=>by cases h⟩,CJ.nil,CJ.nil⟩
end Go.Proofs.YtekmeaoblpfnpaaGreatDoor
section
namespace Go.Proofs.YtekmeaoblpfnpaaGreatDoor
open _root_.Go.Proofs.Tryz
open Go Go.Sx
theorem a7Y ib s0 L t I (ab:GN I s0 L):yY aA 43 [ptr ib 0,zZ t] I (a3u ib s0)
 (fun e I' H'=>∃s',e= .returned (.tuple #[])∧GN I' s' (eY t L)∧H'=a3u ib s'):=by
 obtain⟨vb,wb,kb,lv,cv,lw,cw,Nw,lk,ck,Nk⟩:=s0;unfold a3u;dsimp only;have O:=ab;refine zQ func43 fun w0 _=>?_;refine yU 3 ?_;intro b1 af;refine yU 1 ?_;intro b2 ag;refine yU 4 ?_;refine Cj.pull (gB dW) ?_;refine fA af (fun _ ac W=>?_);have O:=O.mono ac;refine fA ag (fun I6 a4 a1=>?_);have O:=O.mono a4;have W:=a4 _ _ W;refine yU 10 ?_;have ah:=O.vals;obtain⟨_,ai,aj⟩:=ah.at t;obtain⟨xs,a0,hX⟩:=aj;obtain⟨vp,vc,rfl,_,-⟩:=id a0;have a5:=a9O O.GY O.vok t;have b0:=hX.len;have hvl:=a5.1;have al:YD ib vb wb kb L t ((bI L t).getD []) 0 ((ib,yX 114 (OJ vb wb kb))::(setH wb lw cw Nw++setH kb lk ck Nk)):=⟨lw,cw,Nw,lk,ck,Nk,(by have h:=O.nw;rw[b4m aB rfl L t]at h;exact h),(by have h:=O.nk;rw[b4m aC rfl L t]at h;exact h),rfl⟩;refine aK [0,1] [] 8 kR ?_;refine yU 5 ?_;refine bU 5 rfl (BI (kv:=zZ) (l:=lv) (a:=t) rfl rfl rfl rfl PW EZ XU (aI 0 rfl)) ?_;refine bD 13 (.slice vp xs.length vc) rfl ai ?_;refine yU 5 ?_;refine Cj.loop (ι:=DA) (fun y=>y.i≤xs.length∧Le I6 y.J∧YD ib vb wb kb L t ((bI L t).getD []) y.i y.Y) (fun y=>xs.length-y.i) (fun y=>[(2,ptr b1 0),(3,ptr b2 0),(13,.slice vp xs.length vc),(14,i64 (xs.length:Int)),(15,i64 (y.i:Int))]) (fun y=>y.J) (fun y=>(vb,zY zZ lv cv)::y.Y) ⟨0,_,(ib,yX 114 (OJ vb wb kb))::(setH _ _ _ _++setH _ _ _ _)⟩ ⟨dD _,aX _,al⟩ rT rfl rfl ?_;rintro⟨i,_,_⟩ ⟨hi,Z,hY⟩;dsimp only at hi Z hY ⊢;have a0:=a0.mono Z;have hX:=hX.mono Z;have W:=Z _ _ W;have a1:=Z _ _ a1;refine zK ?_ ?_<;>intro am ad
 ·have a7:i<xs.length:=oM;obtain⟨x,a2⟩:∃x,xs[i]?=some x:=⟨_,BM a7⟩;obtain⟨_,_,an,-,ao⟩:=id a0;cases an;obtain⟨_,_,rfl,a6⟩:=ao (zU a7);have a3:=hX.2 x (CX a2);have a8:=(zC (fun l=>l[i]?) hX.1).symm.trans ((bQ).trans (zC (gK (·.1)) a2));dsimp only[dQ]at a8;refine zW (0+i*3) ?_;refine aJ (BJ isAgg142 UJ (yZ.LK a6) (BF YN (o:=0) rfl a2)) ?_;refine yU 1 ?_;intro _ _;refine bJ rfl (CS 0 rfl rfl rfl rfl rfl (a2N a3 rfl rfl) UJ rfl rfl lsA aT ?_);refine MJ [_,_] (b7O b1 b2 ib vb wb kb L t ((bI L t).getD []) a5 i x.1 x.2 a8 _ a3 W a1 _ hY) ?_;intro _ _ ap N ae;have W:=N _ _ W;have a1:=N _ _ a1;have Z:=Z.mono N;have a0:=a0.mono N;have hX:=hX.mono N;have a6:=N _ _ a6;have a3:=a3.mono N;obtain⟨h,aq⟩:=ae;cases h;refine yU 7 ?_;refine aQ (aH (Keeps.k dB)) ?_;refine gJ ⟨i+1,_,ap⟩ ⟨dO,Z,aq⟩ dO rT rfl rfl
 have ar:i=((bI L t).getD []).length:=oM;obtain⟨au,av,aw,ax,ay,az,a9,aa,rfl⟩:=hY;rw[ar,dP]at a9 aa;refine yU 5 ?_;refine aK [1] [] 6 kR ?_;refine yU 5 ?_;refine zO 5 rfl (UK (kv:=zZ) (a:=t) 0 rfl rfl rfl rfl rfl PW EZ rfl aT ?_);refine yU 2 ?_;refine aS rfl rfl ?_;exact⟨⟨vb,wb,kb,GL lv t,cv,au,av,aw,ax,ay,az⟩,rfl,O.drop Z t a9 aa,rfl⟩
theorem a8J Z t I:yY aA 43 [ptr Z 0,zZ t] I [(Z,yX 114 [.map none,.map none,.map none])]
 (fun e _ H'=>e= .returned (.tuple #[])∧H'=[(Z,yX 114 [.map none,.map none,.map none])]):=by
 refine zQ func43 fun w0 _=>?_;refine yU 3 ?_;intro _ _;refine yU 1 ?_;intro _ _;refine yU 14 ?_;refine aK [0,1,2] [] 8 kR ?_;refine cO AO (fun N=>?_);refine aF 0 rfl N (DF isAgg26 (aI 1 rfl)) ?_;refine aF 1 rfl N (EL rfl rfl) ?_;refine aF 2 rfl N (CV (off':=0) a0s YE) ?_;refine aF 3 rfl N (DF isAgg110 (aI 2 rfl)) ?_;refine aF 4 rfl N (FU IZ EJ (aI 0 rfl)) ?_;refine aF 5 rfl N (JX (kv:=zZ) (a:=t) rfl rfl rfl rfl PW EZ XU) ?_;refine yU 5 ?_;refine Cj.rounds 1 ?_;refine Rj.succ ?_;refine yU 6 ?_;refine Cj.cond rfl ?_ ?_<;>intro W
 ·have a0:=ED W;exact absurd (ED W) dE
 have a0:=FQ W;refine Cj.exit (fP (fP (Ej.a1b (dH ?_))));refine aK [0,1,2] [] 6 kR ?_;refine cO AO (fun O=>?_);refine aF 0 rfl O (DF isAgg26 (aI 1 rfl)) ?_;refine aF 1 rfl O (EL rfl rfl) ?_;refine aF 2 rfl O (CV (off':=0) a0s YE) ?_;refine aF 3 rfl O (DF isAgg110 (aI 2 rfl)) ?_;refine aF 4 rfl O (FU IZ EJ (aI 0 rfl)) ?_;refine zO 5 rfl (b0y (kv:=zZ) (a:=t) rfl rfl rfl rfl rfl PW EZ ?_);refine yU 2 ?_;refine aQ (aH (aH (Keeps.k bM))) ?_;refine aS rfl rfl ?_;exact rT
theorem b1m{I I' vb wb kb lv cv lw cw Nw lk ck Nk L t}(h:GN I ⟨vb,wb,kb,lv,cv,lw,cw,Nw,lk,ck,Nk⟩ (eY t L))(hs:Ix.BK L)(hL:L.length<100000){vs}(hv:JZ vs){w}(a2:RP I' vs w)(a3:Le I I'){N O W Z a0 a1}
 (hw:CJ N O W (aN (aP aB L) t fun p=>(aB vs).count p))(hk:CJ Z a0 a1 (aN (aP aC L) t fun p=>(aC vs).count p)):GN I' ⟨vb,wb,kb,BD lv t w cv,EN lv t cv,N,O,W,Z,a0,a1⟩ (dZ t vs L):=by
 have hb:(eY t L).length<100000:=Nat.lt_of_le_of_lt (eF _ _) hL;have a4:∀(pl:List Ix.V→List fZ),(aN (aP pl L) t fun p=>(pl vs).count p)=aN (aP pl (eY t L)) t fun p=>(pl vs).count p:=fun pl=>by
  rw[cZ hs]
  funext p u
  unfold aN
  split<;>rfl
 rw[a4]at hw hk;have h2:=(h.mono a3).put hb hv a2 hw hk;rw[Ix.b5I hs]at h2;exact h2
theorem c0l ib s0 L N I (W:GN I s0 L)(aj:L.length<100000)(ae:RH N.fs)(Z:QX I N.fs N.v):yY aA 50 [ptr ib 0,.agg (IB N).toArray] I (a3u ib s0)
 (fun e I' H'=>∃s',e= .returned (.tuple #[])∧GN I' s' (dZ N.t (dK N.fs) L)∧H'=a3u ib s'):=by
 have a6:=W.GY;obtain⟨_,_,_,-,-⟩:=id Z.1;refine zQ func50 fun w0 _=>?_;refine yU 3 ?_;intro b1 ap;refine yU 1 ?_;intro b2 aq;refine yU 4 ?_;refine Cj.pull (gB dW) ?_;refine fA ap (fun _ ab O=>?_);have W:=W.mono ab;have Z:=Z.mono ab;refine fA aq (fun _ a7 a0=>?_);have W:=W.mono a7;have Z:=Z.mono a7;have O:=a7 _ _ O;refine MJ [] (a7Y ib s0 L N.t _ W) ?_;intro _ _ _ a4 al;have W:=W.mono a4;have Z:=Z.mono a4;have O:=a4 _ _ O;have a0:=a4 _ _ a0;obtain⟨s1,h,W,rfl⟩:=al;cases h;obtain⟨vb,wb,kb,lv,cv,lw,cw,Nw,lk,ck,Nk⟩:=s1;unfold a3u;dsimp only;refine yU 16 ?_;refine aK [1] [] 10 kR ?_;have ar:=O;have au:=a0;refine AP (a4q N.fs N.v N.k N.l ae _ Z) ?_;intro _ av _ a5 am;have Z:=Z.mono a5;have O:=a5 _ _ O;have a0:=a5 _ _ a0;have W:=W.mono a5;obtain⟨_,h,aw,rfl⟩:=am;cases h;obtain⟨xs,a2,hX⟩:=aw;obtain⟨vp,vc,rfl,_,-⟩:=id a2;have a8:=b8v ae;have bc:=hX.len;have bd:=a8.1;refine yU 1 ?_;refine zO 9 rfl (ES (kv:=zZ) (a:=N.t) 0 (.inr rfl) rfl rfl rfl rfl rfl PW EZ rfl aT ?_);refine yU 4 ?_;have ax:YP ib vb wb kb L N.t (dK N.fs) 0 ((ib,yX 114 (OJ vb wb kb))::(setH wb lw cw Nw++setH kb lk ck Nk)):=⟨lw,cw,Nw,lk,ck,Nk,(by have h:=W.nw;rw[cZ a6]at h;exact h),(by have h:=W.nk;rw[cZ a6]at h;exact h),rfl⟩;refine aK [0,1] [] 9 kR ?_;refine yU 6 ?_;refine bU 6 rfl (BI (kv:=zZ) (l:=(BD lv N.t (.slice vp xs.length vc) cv)) (a:=N.t) rfl rfl rfl rfl PW EZ XU (aI 0 rfl)) ?_;refine bD 44 (.slice vp xs.length vc) rfl PN ?_;refine yU 5 ?_;refine Cj.loop (ι:=DA) (fun y=>y.i≤xs.length∧Le av y.J∧YP ib vb wb kb L N.t (dK N.fs) y.i y.Y) (fun y=>xs.length-y.i) (fun y=>[(2,ptr b1 0),(3,ptr b2 0),(44,.slice vp xs.length vc),(45,i64 (xs.length:Int)),(46,i64 (y.i:Int))]) (fun y=>y.J) (fun y=>(vb,zY zZ (BD lv N.t (.slice vp xs.length vc) cv) (EN lv N.t cv))::y.Y) ⟨0,_,(ib,yX 114 (OJ vb wb kb))::(setH _ _ _ _++setH _ _ _ _)⟩ ⟨dD _,aX _,ax⟩ rT rfl rfl ?_;rintro⟨i,_,_⟩ ⟨hi,a3,hY⟩;dsimp only at hi a3 hY ⊢;have a2:=a2.mono a3;have hX:=hX.mono a3;have O:=a3 _ _ O;have a0:=a3 _ _ a0;refine zK ?_ ?_<;>intro an ad
 ·have af:i<xs.length:=oM;obtain⟨x,a9⟩:∃x,xs[i]?=some x:=⟨_,BM af⟩;obtain⟨_,_,ay,-,az⟩:=id a2;cases ay;obtain⟨_,_,rfl,ac⟩:=az (zU af);have aa:=hX.2 x (CX a9);have ag:=(zC (fun l=>l[i]?) hX.1).symm.trans ((bQ).trans (zC (gK (·.1)) a9));dsimp only[dQ]at ag;refine zW (0+i*3) ?_;refine aJ (BJ isAgg142 UJ (yZ.LK ac) (BF YN (o:=0) rfl a9)) ?_;refine yU 1 ?_;intro _ _;refine bJ rfl (CS 0 rfl rfl rfl rfl rfl (a2N aa rfl rfl) UJ rfl rfl lsA aT ?_);refine MJ [_,_] (b1d b1 b2 ib vb wb kb N.k N.l N.v L N.t (dK N.fs) a8 i x.1 x.2 ag _ aa O a0 _ hY) ?_;intro _ _ b0 a1 ao;have O:=a1 _ _ O;have a0:=a1 _ _ a0;have a2:=a2.mono a1;have hX:=hX.mono a1;have a3:=a3.mono a1;have ac:=a1 _ _ ac;have aa:=aa.mono a1;obtain⟨h,hY1⟩:=ao;cases h;refine yU 7 ?_;refine aQ (aH (Keeps.k dB)) ?_;refine gJ ⟨i+1,_,b0⟩ ⟨dO,a3,hY1⟩ dO rT rfl rfl
 have hil:i=(dK N.fs).length:=oM;obtain⟨b3,b4,b8,b9,ba,bb,ah,ai,rfl⟩:=hY;rw[hil,bY]at ah ai;refine yU 4 ?_;refine aS rfl rfl ?_;exact⟨⟨vb,wb,kb,(BD lv N.t (.slice vp xs.length vc) cv),(EN lv N.t cv),b3,b4,b8,b9,ba,bb⟩,rfl,b1m W a6 aj a8 ⟨xs,a2,hX⟩ a3 ah ai,rfl⟩
theorem c0j ib W I (ai : RH W.fs) (a0 : QX I W.fs W.v) : yY Tryz.prog 50 [ptr ib 0, .agg (IB W).toArray] I [(ib, yX 114 [.map none, .map none, .map none])]
 (fun e I' H' => ∃ s', e = .returned (.tuple #[]) ∧ GN I' s' (Ix.KY W.t (Ix.vals W.fs) []) ∧ H' = a3u ib s') := by
 obtain ⟨_, _, _, -, -⟩ := id a0.1
 refine zQ func50 fun w0 _ => ?_
 refine yU 3 ?_
 intro b1 ay
 refine yU 1 ?_
 intro b2 az
 refine yU 4 ?_
 refine Cj.pull (Pull.s Pull.z) ?_
 refine Cj.persist ay (fun _ ar Z => ?_)
 have a0 := a0.mono ar
 refine Cj.persist az (fun _ ac a1 => ?_)
 have a0 := a0.mono ac
 have Z := ac _ _ Z
 refine yU 13 ?_
 refine J.pull Pull.z ?_
 refine AP (a8J ib W.t _) ?_
 intro _ I9 _ a6 au
 have a0 := a0.mono a6
 have Z := a6 _ _ Z
 have a1 := a6 _ _ a1
 obtain ⟨h, rfl⟩ := au; cases h
 refine yU 2 ?_
 refine Cj.join (ι := Nat × Nat × Nat) (fun y => True) (fun y => [(2, ptr b1 0), (3, ptr b2 0)]) (fun y => I9) (fun y => (y.1, zY zZ [] 0) :: (ib, yX 114 (OJ y.1 y.2.1 y.2.2)) :: (setH y.2.1 [] 0 [] ++ setH y.2.2 [] 0 [])) ?_ (fun O => ?_)
 ·rintro ⟨vb, wb, kb⟩ -
  dsimp only
  refine yU 1 ?_
  refine Cj.EX [1] [] 10 (by kernel_rfl) ?_
  have b0 := Z
  have hb2i_5 := a1
  refine AP (a4q W.fs W.v W.k W.l ai _ a0) ?_
  intro _ I15 _ a7 av
  have a0 := a0.mono a7
  have Z := a7 _ _ Z
  have a1 := a7 _ _ a1
  obtain ⟨_, h, b3, rfl⟩ := av; cases h
  obtain ⟨xs, a3, hX⟩ := b3
  obtain ⟨vp, vc, rfl, _, -⟩ := id a3
  have a8 := b8v ai
  have c5 := hX.len
  have c6 := a8.1
  refine yU 1 ?_
  refine zO 9 rfl (ES (kv := zZ) (a := W.t) 0 (.inr rfl) rfl rfl rfl rfl rfl PW EZ rfl AU.z ?_)
  refine yU 4 ?_
  have b4 : YP ib vb wb kb [] W.t (Ix.vals W.fs) 0 ((ib, yX 114 (OJ vb wb kb)) :: (setH wb [] 0 [] ++ setH kb [] 0 [])) := ⟨[], 0, [], [], 0, [], (by rw [List.take_zero]; have h := (CJ.nil : CJ ([] : ML Ix.Pl) 0 ([] : OW Ix.Pl Ix.Rec) (fun _ _ => 0)); exact (show (Ix.way (Ix.cnt Ix.plW []) W.t fun p => (Ix.plW []).count p) = (fun _ _ => 0) by funext p u; unfold Ix.way; split <;> rfl) ▸ h), (by rw [List.take_zero]; have h := (CJ.nil : CJ ([] : ML Ix.Pl) 0 ([] : OW Ix.Pl Ix.Rec) (fun _ _ => 0)); exact (show (Ix.way (Ix.cnt Ix.XF []) W.t fun p => (Ix.XF []).count p) = (fun _ _ => 0) by funext p u; unfold Ix.way; split <;> rfl) ▸ h), rfl⟩
  refine Cj.EX [0, 1] [] 9 (by kernel_rfl) ?_
  refine yU 6 ?_
  refine JA.zt 6 rfl (BI (kv := zZ) (l := (BD ([] : ML Ix.Rec) W.t (.slice vp xs.length vc) 0)) (a := W.t) rfl rfl rfl rfl PW EZ XU (yZ.atC 0 rfl)) ?_
  refine JA.ev 44 (.slice vp xs.length vc) rfl PN ?_
  refine yU 5 ?_
  refine Cj.loop (ι := DA) (fun y => y.i ≤ xs.length ∧ Le I15 y.J ∧ YP ib vb wb kb [] W.t (Ix.vals W.fs) y.i y.Y) (fun y => xs.length - y.i) (fun y => [(2, ptr b1 0), (3, ptr b2 0), (44, .slice vp xs.length vc), (45, i64 (xs.length : Int)), (46, i64 (y.i : Int))]) (fun y => y.J) (fun y => (vb, zY zZ (BD ([] : ML Ix.Rec) W.t (.slice vp xs.length vc) 0) (EN ([] : ML Ix.Rec) W.t 0)) :: y.Y) ⟨0, _, (ib, yX 114 (OJ vb wb kb)) :: (setH _ _ _ _ ++ setH _ _ _ _)⟩ ⟨Nat.zero_le _, Le.refl _, b4⟩ ⟨rfl, rfl, rfl, rfl, rfl, trivial⟩ rfl rfl ?_
  rintro ⟨i, _, _⟩ ⟨N, a4, hY⟩
  dsimp only at N a4 hY ⊢
  have a3 := a3.mono a4
  have hX := hX.mono a4
  have Z := a4 _ _ Z
  have a1 := a4 _ _ a1
  refine zK (fun aw ah => ?_) (fun aw ah => ?_)
  ·have aj : i < xs.length := by omega
   obtain ⟨x, a9⟩ : ∃ x, xs[i]? = some x := ⟨_, BM aj⟩
   obtain ⟨_, _, b8, -, b9⟩ := id a3
   cases b8
   obtain ⟨_, _, rfl, ad⟩ := b9 (zU aj)
   have aa := hX.2 x (CX a9)
   have al := (congrArg (fun l => l[i]?) hX.1).symm.trans ((List.getElem?_map).trans (congrArg (Option.map (·.1)) a9))
   dsimp only [Option.map_some] at al
   refine zW (0 + i * 3) ?_
   refine J.z (BJ isAgg142 UJ (yZ.LK ad) (BF YN (o := 0) rfl a9)) ?_
   refine yU 1 ?_
   intro _ _
   refine J.op rfl (CS 0 rfl rfl rfl rfl rfl (a2N aa rfl rfl) UJ rfl rfl (AL.c (AL.c (AL.c AL.z))) AU.z ?_)
   refine MJ [_, _] (b1d b1 b2 ib vb wb kb W.k W.l W.v [] W.t (Ix.vals W.fs) a8 i x.1 x.2 al _ aa Z a1 _ hY) ?_
   intro _ _ ba a2 ax
   have Z := a2 _ _ Z
   have a1 := a2 _ _ a1
   have a3 := a3.mono a2
   have hX := hX.mono a2
   have a4 := a4.mono a2
   have ad := a2 _ _ ad
   have aa := aa.mono a2
   obtain ⟨h, bb⟩ := ax; cases h
   refine yU 7 ?_
   refine Ej.keep (Keeps.d (Keeps.k Keeps.r)) ?_
   refine Ej.round ⟨i + 1, _, ba⟩ ⟨by dsimp only; omega, a4, bb⟩ (by dsimp only; omega) ⟨rfl, rfl, rfl, rfl, rfl, trivial⟩ rfl rfl
  have bc : i = (Ix.vals W.fs).length := by omega
  obtain ⟨bd, be, bf, bg, bh, bi, am, an, rfl⟩ := hY
  rw [bc, List.take_length] at am an
  refine yU 4 ?_
  refine Ej.QW rfl rfl ?_
  exact ⟨⟨vb, wb, kb, (BD ([] : ML Ix.Rec) W.t (.slice vp xs.length vc) 0), (EN ([] : ML Ix.Rec) W.t 0), bd, be, bf, bg, bh, bi⟩, rfl, b1m (L := []) (c4E _ vb wb kb) List.Pairwise.nil (by decide) a8 ⟨xs, a3, hX⟩ a4 am an, rfl⟩
 refine yU 10 ?_
 refine Cj.EX [] [] 15 (by kernel_rfl) ?_
 refine yU 3 ?_
 refine JA.all [3, 4, 5] (by kernel_rfl) (by simp) ?_
 intro i N
 simp only [List.mem_cons, List.not_mem_nil, or_false] at N
 rcases N with rfl | rfl | rfl
 ·refine ⟨_, rfl, rfl, ?_⟩
  refine BH rfl rfl rfl ?_
  intro a5 _
  refine yU 3 ?_
  refine JA.all [4, 5, 8] (by kernel_rfl) (by simp) ?_
  intro i N
  simp only [List.mem_cons, List.not_mem_nil, or_false] at N
  rcases N with rfl | rfl | rfl
  ·refine ⟨_, rfl, rfl, ?_⟩
   refine BH rfl rfl rfl ?_
   intro ae _
   refine yU 1 ?_
   refine JA.all [5, 8] (by kernel_rfl) (by simp) ?_
   intro i N
   simp only [List.mem_cons, List.not_mem_nil, or_false] at N
   rcases N with rfl | rfl
   ·refine ⟨_, rfl, rfl, ?_⟩
    refine BH rfl rfl rfl ?_
    intro bj _
    refine yU 12 ?_
    refine Ej.keep (Keeps.k (Keeps.k (Keeps.k (Keeps.k Keeps.n)))) ?_
    refine Ej.pull Pull.z ?_
    refine Ej.pull (Pull.s Pull.z) ?_
    refine Ej.pull (Pull.s (Pull.s (Pull.s Pull.z))) ?_
    refine Ej.pull (Pull.s (Pull.s (Pull.s Pull.z))) ?_
    exact O (a5, ae, bj) _ _ _ trivial ⟨rfl, rfl, trivial⟩ rfl rfl
   refine ⟨_, rfl, rfl, ?_⟩
   refine BZ 2 YE (AL.c AL.z) (AU.s (AU.s AU.z)) ?_
   refine yU 3 ?_
   refine JA.all [5, 11] (by kernel_rfl) (by simp) ?_
   intro i N
   simp only [List.mem_cons, List.not_mem_nil, or_false] at N
   rcases N with rfl | rfl
   ·refine ⟨_, rfl, rfl, ?_⟩
    refine BH rfl rfl rfl ?_
    intro bk _
    refine yU 8 ?_
    refine Ej.keep (Keeps.k (Keeps.k (Keeps.k (Keeps.k Keeps.n)))) ?_
    refine Ej.pull Pull.z ?_
    refine Ej.pull (Pull.s Pull.z) ?_
    refine Ej.pull (Pull.s (Pull.s (Pull.s Pull.z))) ?_
    refine Ej.pull (Pull.s (Pull.s (Pull.s Pull.z))) ?_
    exact O (a5, ae, bk) _ _ _ trivial ⟨rfl, rfl, trivial⟩ rfl rfl
   refine ⟨_, rfl, rfl, ?_⟩
   refine BZ 2 YH (AL.s (AL.c AL.z)) (AU.s (AU.s AU.z)) ?_
   refine yU 1 ?_
   refine zO 5 rfl (BH rfl rfl rfl ?_)
   intro bl _
   refine yU 6 ?_
   refine Ej.keep (Keeps.k (Keeps.k (Keeps.k (Keeps.k Keeps.n)))) ?_
   refine Ej.pull Pull.z ?_
   refine Ej.pull (Pull.s Pull.z) ?_
   refine Ej.pull (Pull.s (Pull.s (Pull.s Pull.z))) ?_
   refine Ej.pull (Pull.s (Pull.s (Pull.s Pull.z))) ?_
   exact O (a5, ae, bl) _ _ _ trivial ⟨rfl, rfl, trivial⟩ rfl rfl
  ·refine ⟨_, rfl, rfl, ?_⟩
   refine BH rfl rfl rfl ?_
   intro ao _
   refine yU 1 ?_
   refine JA.all [4, 8] (by kernel_rfl) (by simp) ?_
   intro i N
   simp only [List.mem_cons, List.not_mem_nil, or_false] at N
   rcases N with rfl | rfl
   ·refine ⟨_, rfl, rfl, ?_⟩
    refine BH rfl rfl rfl ?_
    intro bm _
    refine yU 12 ?_
    refine Ej.keep (Keeps.k (Keeps.k (Keeps.k (Keeps.k Keeps.n)))) ?_
    refine Ej.pull (Pull.s Pull.z) ?_
    refine Ej.pull (Pull.s Pull.z) ?_
    refine Ej.pull (Pull.s (Pull.s (Pull.s Pull.z))) ?_
    refine Ej.pull (Pull.s (Pull.s (Pull.s Pull.z))) ?_
    exact O (a5, bm, ao) _ _ _ trivial ⟨rfl, rfl, trivial⟩ rfl rfl
   refine ⟨_, rfl, rfl, ?_⟩
   refine BZ 2 YE (AL.c AL.z) (AU.s (AU.s AU.z)) ?_
   refine yU 1 ?_
   refine zO 4 rfl (BH rfl rfl rfl ?_)
   intro bn _
   refine yU 10 ?_
   refine Ej.keep (Keeps.k (Keeps.k (Keeps.k (Keeps.k Keeps.n)))) ?_
   refine Ej.pull (Pull.s Pull.z) ?_
   refine Ej.pull (Pull.s Pull.z) ?_
   refine Ej.pull (Pull.s (Pull.s (Pull.s Pull.z))) ?_
   refine Ej.pull (Pull.s (Pull.s (Pull.s Pull.z))) ?_
   exact O (a5, bn, ao) _ _ _ trivial ⟨rfl, rfl, trivial⟩ rfl rfl
  refine ⟨_, rfl, rfl, ?_⟩
  refine BZ 1 YE (AL.c AL.z) (AU.s AU.z) ?_
  refine yU 1 ?_
  refine JA.all [4, 5] (by kernel_rfl) (by simp) ?_
  intro i N
  simp only [List.mem_cons, List.not_mem_nil, or_false] at N
  rcases N with rfl | rfl
  ·refine ⟨_, rfl, rfl, ?_⟩
   refine BH rfl rfl rfl ?_
   intro ap _
   refine yU 3 ?_
   refine JA.all [5, 11] (by kernel_rfl) (by simp) ?_
   intro i N
   simp only [List.mem_cons, List.not_mem_nil, or_false] at N
   rcases N with rfl | rfl
   ·refine ⟨_, rfl, rfl, ?_⟩
    refine BH rfl rfl rfl ?_
    intro bo _
    refine yU 8 ?_
    refine Ej.keep (Keeps.k (Keeps.k (Keeps.k (Keeps.k Keeps.n)))) ?_
    refine Ej.pull Pull.z ?_
    refine Ej.pull (Pull.s Pull.z) ?_
    refine Ej.pull (Pull.s (Pull.s (Pull.s Pull.z))) ?_
    refine Ej.pull (Pull.s (Pull.s (Pull.s Pull.z))) ?_
    exact O (a5, ap, bo) _ _ _ trivial ⟨rfl, rfl, trivial⟩ rfl rfl
   refine ⟨_, rfl, rfl, ?_⟩
   refine BZ 2 YH (AL.s (AL.c AL.z)) (AU.s (AU.s AU.z)) ?_
   refine yU 1 ?_
   refine zO 5 rfl (BH rfl rfl rfl ?_)
   intro bp _
   refine yU 6 ?_
   refine Ej.keep (Keeps.k (Keeps.k (Keeps.k (Keeps.k Keeps.n)))) ?_
   refine Ej.pull Pull.z ?_
   refine Ej.pull (Pull.s Pull.z) ?_
   refine Ej.pull (Pull.s (Pull.s (Pull.s Pull.z))) ?_
   refine Ej.pull (Pull.s (Pull.s (Pull.s Pull.z))) ?_
   exact O (a5, ap, bp) _ _ _ trivial ⟨rfl, rfl, trivial⟩ rfl rfl
  refine ⟨_, rfl, rfl, ?_⟩
  refine BH rfl rfl rfl ?_
  intro bq _
  refine yU 1 ?_
  refine zO 4 rfl (BH rfl rfl rfl ?_)
  intro br _
  refine yU 10 ?_
  refine Ej.keep (Keeps.k (Keeps.k (Keeps.k (Keeps.k Keeps.n)))) ?_
  refine Ej.pull (Pull.s Pull.z) ?_
  refine Ej.pull (Pull.s Pull.z) ?_
  refine Ej.pull (Pull.s (Pull.s (Pull.s Pull.z))) ?_
  refine Ej.pull (Pull.s (Pull.s (Pull.s Pull.z))) ?_
  exact O (a5, br, bq) _ _ _ trivial ⟨rfl, rfl, trivial⟩ rfl rfl
 ·refine ⟨_, rfl, rfl, ?_⟩
  refine BH rfl rfl rfl ?_
  intro ab _
  refine yU 1 ?_
  refine JA.all [3, 5] (by kernel_rfl) (by simp) ?_
  intro i N
  simp only [List.mem_cons, List.not_mem_nil, or_false] at N
  rcases N with rfl | rfl
  ·refine ⟨_, rfl, rfl, ?_⟩
   refine BH rfl rfl rfl ?_
   intro af _
   refine yU 3 ?_
   refine JA.all [5, 8] (by kernel_rfl) (by simp) ?_
   intro i N
   simp only [List.mem_cons, List.not_mem_nil, or_false] at N
   rcases N with rfl | rfl
   ·refine ⟨_, rfl, rfl, ?_⟩
    refine BH rfl rfl rfl ?_
    intro bs _
    refine yU 12 ?_
    refine Ej.keep (Keeps.k (Keeps.k (Keeps.k (Keeps.k Keeps.n)))) ?_
    refine Ej.pull Pull.z ?_
    refine Ej.pull (Pull.s (Pull.s Pull.z)) ?_
    refine Ej.pull (Pull.s (Pull.s (Pull.s Pull.z))) ?_
    refine Ej.pull (Pull.s (Pull.s (Pull.s Pull.z))) ?_
    exact O (af, ab, bs) _ _ _ trivial ⟨rfl, rfl, trivial⟩ rfl rfl
   refine ⟨_, rfl, rfl, ?_⟩
   refine BZ 2 YE (AL.c AL.z) (AU.s (AU.s AU.z)) ?_
   refine yU 3 ?_
   refine JA.all [5, 11] (by kernel_rfl) (by simp) ?_
   intro i N
   simp only [List.mem_cons, List.not_mem_nil, or_false] at N
   rcases N with rfl | rfl
   ·refine ⟨_, rfl, rfl, ?_⟩
    refine BH rfl rfl rfl ?_
    intro bt _
    refine yU 8 ?_
    refine Ej.keep (Keeps.k (Keeps.k (Keeps.k (Keeps.k Keeps.n)))) ?_
    refine Ej.pull Pull.z ?_
    refine Ej.pull (Pull.s (Pull.s Pull.z)) ?_
    refine Ej.pull (Pull.s (Pull.s (Pull.s Pull.z))) ?_
    refine Ej.pull (Pull.s (Pull.s (Pull.s Pull.z))) ?_
    exact O (af, ab, bt) _ _ _ trivial ⟨rfl, rfl, trivial⟩ rfl rfl
   refine ⟨_, rfl, rfl, ?_⟩
   refine BZ 2 YH (AL.s (AL.c AL.z)) (AU.s (AU.s AU.z)) ?_
   refine yU 1 ?_
   refine zO 5 rfl (BH rfl rfl rfl ?_)
   intro bu _
   refine yU 6 ?_
   refine Ej.keep (Keeps.k (Keeps.k (Keeps.k (Keeps.k Keeps.n)))) ?_
   refine Ej.pull Pull.z ?_
   refine Ej.pull (Pull.s (Pull.s Pull.z)) ?_
   refine Ej.pull (Pull.s (Pull.s (Pull.s Pull.z))) ?_
   refine Ej.pull (Pull.s (Pull.s (Pull.s Pull.z))) ?_
   exact O (af, ab, bu) _ _ _ trivial ⟨rfl, rfl, trivial⟩ rfl rfl
  refine ⟨_, rfl, rfl, ?_⟩
  refine BH rfl rfl rfl ?_
  intro bv _
  refine yU 1 ?_
  refine zO 3 rfl (BH rfl rfl rfl ?_)
  intro bw _
  refine yU 14 ?_
  refine Ej.keep (Keeps.k (Keeps.k (Keeps.k (Keeps.k Keeps.n)))) ?_
  refine Ej.pull (Pull.s Pull.z) ?_
  refine Ej.pull (Pull.s (Pull.s Pull.z)) ?_
  refine Ej.pull (Pull.s (Pull.s (Pull.s Pull.z))) ?_
  refine Ej.pull (Pull.s (Pull.s (Pull.s Pull.z))) ?_
  exact O (bw, ab, bv) _ _ _ trivial ⟨rfl, rfl, trivial⟩ rfl rfl
 refine ⟨_, rfl, rfl, ?_⟩
 refine BH rfl rfl rfl ?_
 intro ag _
 refine yU 1 ?_
 refine JA.all [3, 4] (by kernel_rfl) (by simp) ?_
 intro i N
 simp only [List.mem_cons, List.not_mem_nil, or_false] at N
 rcases N with rfl | rfl
 ·refine ⟨_, rfl, rfl, ?_⟩
  refine BH rfl rfl rfl ?_
  intro aq _
  refine yU 3 ?_
  refine JA.all [4, 8] (by kernel_rfl) (by simp) ?_
  intro i N
  simp only [List.mem_cons, List.not_mem_nil, or_false] at N
  rcases N with rfl | rfl
  ·refine ⟨_, rfl, rfl, ?_⟩
   refine BH rfl rfl rfl ?_
   intro bx _
   refine yU 12 ?_
   refine Ej.keep (Keeps.k (Keeps.k (Keeps.k (Keeps.k Keeps.n)))) ?_
   refine Ej.pull (Pull.s (Pull.s Pull.z)) ?_
   refine Ej.pull (Pull.s Pull.z) ?_
   refine Ej.pull (Pull.s (Pull.s (Pull.s Pull.z))) ?_
   refine Ej.pull (Pull.s (Pull.s (Pull.s Pull.z))) ?_
   exact O (aq, bx, ag) _ _ _ trivial ⟨rfl, rfl, trivial⟩ rfl rfl
  refine ⟨_, rfl, rfl, ?_⟩
  refine BZ 2 YE (AL.c AL.z) (AU.s (AU.s AU.z)) ?_
  refine yU 1 ?_
  refine zO 4 rfl (BH rfl rfl rfl ?_)
  intro bz _
  refine yU 10 ?_
  refine Ej.keep (Keeps.k (Keeps.k (Keeps.k (Keeps.k Keeps.n)))) ?_
  refine Ej.pull (Pull.s (Pull.s Pull.z)) ?_
  refine Ej.pull (Pull.s Pull.z) ?_
  refine Ej.pull (Pull.s (Pull.s (Pull.s Pull.z))) ?_
  refine Ej.pull (Pull.s (Pull.s (Pull.s Pull.z))) ?_
  exact O (aq, bz, ag) _ _ _ trivial ⟨rfl, rfl, trivial⟩ rfl rfl
 refine ⟨_, rfl, rfl, ?_⟩
 refine BH rfl rfl rfl ?_
 intro c3 _
 refine yU 1 ?_
 refine zO 3 rfl (BH rfl rfl rfl ?_)
 intro c4 _
 refine yU 14 ?_
 refine Ej.keep (Keeps.k (Keeps.k (Keeps.k (Keeps.k Keeps.n)))) ?_
 refine Ej.pull (Pull.s (Pull.s Pull.z)) ?_
 refine Ej.pull (Pull.s (Pull.s Pull.z)) ?_
 refine Ej.pull (Pull.s (Pull.s (Pull.s Pull.z))) ?_
 refine Ej.pull (Pull.s (Pull.s (Pull.s Pull.z))) ?_
 exact O (c4, c3, ag) _ _ _ trivial ⟨rfl, rfl, trivial⟩ rfl rfl
end Go.Proofs.YtekmeaoblpfnpaaGreatDoor
end
namespace Go.Sx
open Go
@[reducible] def b5J:DR:=⟨true⟩
attribute [local instance] b5J
theorem yY.same{P f args I H v}(O:Enters P f)(h:∀w,Ready I H w→Calls P f args.toArray w fun e w'=>e= .returned v∧w'=w):yY P f args I H (fun e W H'=>e= .returned v∧W=I∧H'=H):=
 ⟨O,fun w N=>(h w N).mono fun _ w' ⟨h1,h2⟩=>⟨I,H,by subst h2;exact St.start w' I H N.1 N.2.1 N.2.2.1 N.2.2.2,h1,rfl,rfl⟩⟩
theorem yY.grows{P f args v}{N:Ending→Heap→HL→Prop}(h:yY P f args (fun _=>none) [] N)(O:∀e Z H',N e Z H'→e= .returned v) w:Calls P f args.toArray w fun e w'=>e= .returned v∧∃q a0,w'=fK (w.drewN q) a0:=
 have hr:Ready (fun _=>none) [] w:=by
  unfold Ready;exact⟨(fun b o hb=>by cases hb),(fun p O=>by cases O),List.Pairwise.nil,(fun p O=>by cases O)⟩
 (h.2 w hr).mono fun e w' ⟨Z,H',W,hq⟩=>⟨O e Z H' hq,w'.drawn-w.drawn,w'.heap.extract w.heap.size w'.heap.size,by
  have hh:w'.heap=w.heap++w'.heap.extract w.heap.size w'.heap.size:=by
   apply dF
   intro i;rw[Array.getElem?_append]
   split
   ·rename_i hi;exact W.frm i hi sI
   rename_i hi
   rw[Array.getElem?_extract]
   split
   ·congr 1;omega
   rw[Array.getElem?_eq_none oM]
  have h1:=W.os;have h2:=W.tape;have h3:=W.output;have h4:=W.drw rfl;have h5:w.drawn+(w'.drawn-w.drawn)=w'.drawn:=oM;unfold fK World.drewN;rw[h5];cases w';cases w;simp only at h1 h2 h3 hh ⊢;subst h1 h2 h3;rw[←hh]⟩
end Go.Sx
namespace Go.Proofs.YtekmeaoblpfnpaaGreatDoor
open _root_.Go.Proofs.Tryz
open Go Go.Sx
attribute [local instance] b5J
def NK (r s:Int):Int:=if r≠0 then r else s
section
open Go.Shelf Go.RowKit Go.Lib
theorem c5C b N O w (h0:w.cell? ⟨b,0,none⟩=some (.int .i64 N))(h1:w.cell? ⟨b,1,none⟩=some (.int .i64 O)):
 Calls aA 57 #[.slice (some ⟨b,0,none⟩) 2 2] w fun e w'=>e= .returned (.int .i64 (NK N O))∧w'=w:=by
 go_enter func57,Tryz.ntmps57
 go_wp2
 refine wp_loop_rounds 3 ?_;rw[rounds_succ]
 go_wp2
 ·have Z:(N != 0)=true:=by assumption
  have W:NK N O=N:=zF (by simpa using Z)
  go_ret
  exact⟨by rw[W];rfl,rfl⟩
 have Z:(N != 0)=false:=by assumption
 have W:NK N O=O:=zD (by simpa using Z);rw[rounds_succ]
 go_wp2
 ·go_ret
  exact⟨by rw[W];rfl,rfl⟩
 have hs:(O != 0)=false:=by assumption
 have a0:O=0:=by simpa using hs
 rw[rounds_succ]
 go_wp2
 go_ret
 exact⟨by rw[W,a0];rfl,rfl⟩
end
def MC (a b:List UInt8):Int:=if a<b then -1 else if b<a then 1 else 0
theorem b7q{a b:List UInt8}(h:¬a<b){t}(N:(!(decide (a<b) || a == b))=t):if t then b<a else ¬b<a:=by
 rw[zI h,Bool.false_or]at N;subst N
 by_cases he:a=b
 ·subst he;simp
 have O:(a == b)=false:=by simpa using he
 rw[O];simp only[Bool.not_false,if_true];exact Std.lt_of_le_of_ne (Std.not_lt.1 h) (Ne.symm he)
theorem c1S b N O I:yY aA 57 [.slice (some ⟨b,0,none⟩) 2 2] I [(b,yX 3 [i64 N,i64 O])] (fun e W H'=>e= .returned (i64 (NK N O))∧W=I∧H'=[(b,yX 3 [i64 N,i64 O])]):=
 yY.same ⟨_,func57,dE,rfl⟩ fun w Z=>by
  have hb:=Z.2.1 _ (.head _);refine c5C b N O w ?_ ?_<;>simp[World.cell?,hb,yX]
theorem a5J x y I:yY aA 59 [i64 x,i64 y] I [] (fun e N H'=>e= .returned (i64 (bC x y))∧N=I∧H'=[]):=
 yY.same ⟨_,func59,dE,rfl⟩ fun w _=>Tryz.cmp_Compare_int x y w
theorem b2P x0 x1 y0 y1 I:yY aA 78 [.agg #[i64 x0,i64 x1],.agg #[i64 y0,i64 y1]] I [] (fun e _ H'=>e= .returned (i64 (NK (bC x0 y0) (bC x1 y1)))∧H'=[]):=by
 refine yY.ob func78 ?_;intro w0 _;refine Cj.sr (bJ rfl (JM rfl rfl rfl rfl rfl ?_));intro _ _;refine bJ rfl (JM rfl rfl rfl rfl rfl ?_);intro _ _;refine aJ EP ?_;refine J.nss (aK [0,1] [] 13 (by kernel_rfl) ?_);refine cO ⟨(aO 0 rfl (aO 1 rfl bG)),bH,(aX _)⟩ (fun N=>?_);refine aF 0 rfl N (CV (off':=0) underlying54 sizeOf3) ?_;refine aF 1 rfl N (DF isAgg3 (aI 1 rfl)) ?_;refine aF 2 rfl N (CV (off':=0) underlying54 sizeOf3) ?_;refine aF 3 rfl N (DF isAgg3 (aI 0 rfl)) ?_;refine aF 5 rfl N (CV (off':=1) underlying54 sizeOf3) ?_;refine aF 6 rfl N (DF isAgg3 (aI 1 rfl)) ?_;refine aF 7 rfl N (CV (off':=1) underlying54 sizeOf3) ?_;refine aF 8 rfl N (DF isAgg3 (aI 0 rfl)) ?_;refine zO 4 rfl (zM (H1:=[]) rfl rfl rfl rfl rfl (a5J x0 y0 _) ?_ (fun _ _ _ _ h=>by cases h.1) (fun _ _ h=>by cases h.1));intro _ _ _ W a3;obtain⟨h,rfl,rfl⟩:=a3;cases h;refine⟨⟨(aW (aX _) W),(aO 0 rfl (aO 1 rfl bG)),bH⟩,?_⟩;refine zO 9 rfl (zM (H1:=[]) rfl rfl rfl rfl rfl (a5J x1 y1 _) ?_ (fun _ _ _ _ h=>by cases h.1) (fun _ _ h=>by cases h.1));intro _ _ _ O a0;obtain⟨h,rfl,rfl⟩:=a0;cases h;refine⟨⟨(aW (aW (aX _) W) O),(aO 0 rfl (aO 1 rfl bG)),bH⟩,?_⟩;refine zO 10 rfl (ER underlying23 sizeOf3 zeroValue3 (EH.one rfl (EH.one rfl EH.none)) ?_);intro _ _;refine⟨⟨(aW (aW (aX _) W) O),(aO 1 rfl (aO 2 rfl bG)),bH⟩,?_⟩;refine JA.pull dW ?_;refine zO 11 rfl (zM (H1:=[_]) rfl rfl rfl rfl rfl (c1S _ (bC x0 y0) (bC x1 y1) _) ?_ (fun _ _ _ _ h=>by cases h.1) (fun _ _ h=>by cases h.1));intro _ _ _ Z a1;obtain⟨h,rfl,rfl⟩:=a1;cases h;refine⟨⟨(aW (aW (aW (aX _) W) O) Z),(aO 1 rfl (aO 2 rfl bG)),bH⟩,?_⟩;refine cO ⟨(aO 1 rfl (aO 2 rfl bG)),bH,(aW (aW (aW (aX _) W) O) Z)⟩ (fun a2=>?_);refine aF 12 rfl a2 EP ?_;refine EW ?_;refine dH (fM (Ej.bare ?_));refine eG rfl rfl rfl ?_;exact rT
theorem a8y s I:yY aA 263 [str s] I [] (fun e N H'=>e= .returned (.bool false)∧N=I∧H'=[]):=by
 refine yY.ob func263 ?_;intro w0 _;refine Cj.sr (aJ EP ?_);refine J.QT (aJ qq2 ?_);refine aJ qq2 ?_;refine aJ (a3k rfl rfl rfl) ?_;refine aJ EP ?_;refine J.ns (fM (eG rfl rfl rfl ?_));exact⟨by rw[bne_self_eq_false],rfl,rfl⟩
theorem b2D a b I:yY aA 221 [str a,str b] I [] (fun e I' H'=>e= .returned (i64 (MC a b))∧I'=I∧H'=[]):=by
 refine yY.ob func221 ?_;intro w0 _;refine Cj.sr (aJ EP ?_);refine J.QT (aJ qq2 ?_);refine bJ rfl (zM (H1:=[]) rfl rfl rfl rfl rfl (a8y a _) ?_ (fun _ _ _ _ h=>by cases h.1) (fun _ _ h=>by cases h.1));intro _ _ _ _ a0;obtain⟨h,rfl,rfl⟩:=a0;cases h;refine aJ EP ?_;refine J.QT (aJ qq2 ?_);refine bJ rfl (zM (H1:=[]) rfl rfl rfl rfl rfl (a8y b _) ?_ (fun _ _ _ _ h=>by cases h.1) (fun _ _ h=>by cases h.1));intro _ _ _ _ Z;obtain⟨h,rfl,rfl⟩:=Z;cases h;refine aJ EP ?_;refine J.a0S (fG (aJ qq2 ?_));refine J.c0 (fun _=>?_);refine dX (dH (gI (Cj.sr (aJ qq2 ?_))));refine J.c0 (fun _=>?_);refine dX (dH (gI (Cj.sr (aJ qq2 ?_))));refine aJ qq2 ?_;refine aJ (a7W rfl rfl rfl) ?_;refine J.cd (fun O=>?_) (fun O=>?_)
 ·have N:=zA O;refine Cj.sr (aJ EP ?_);refine J.ns (fM (Ej.a1f (eG rfl rfl rfl ?_)));rw[MC,zF N];exact rT
 have N:=of_decide_eq_false O;refine dX (dH (gI (Cj.sr (aJ qq2 ?_))));refine aJ qq2 ?_;refine aJ (b8o rfl rfl rfl) ?_;refine J.cd (fun W=>?_) (fun W=>?_)
 ·refine Cj.sr (aJ EP ?_);refine J.ns (fM (Ej.a1f (eG rfl rfl rfl ?_)));rw[MC,zD N,zF (by have h:=b7q N W;simpa using h)];exact rT
 refine dX (dH (Cj.sr (aJ EP ?_)));refine J.ns (fM (eG rfl rfl rfl ?_));rw[MC,zD N,zD (by have h:=b7q N W;simpa using h)];exact rT
theorem b8J a b n m I:yY aA 220 [.agg #[str a,i64 n],.agg #[str b,i64 m]] I [] (fun e _ H'=>e= .returned (i64 (MC a b))∧H'=[]):=by
 refine yY.ob func220 ?_;intro w0 _;refine Cj.sr (bJ rfl (JM rfl rfl rfl rfl rfl ?_));intro _ _;refine bJ rfl (JM rfl rfl rfl rfl rfl ?_);intro _ _;refine aJ EP ?_;refine J.QT (aJ (CV (off':=0) underlying268 sizeOf9) ?_);refine aJ (DF isAgg9 (yZ.at 1 rfl)) ?_;refine aJ (CV (off':=0) underlying268 sizeOf9) ?_;refine aJ (DF isAgg9 (yZ.at 0 rfl)) ?_;refine bJ rfl (zM (H1:=[]) rfl rfl rfl rfl rfl (b2D a b _) ?_ (fun _ _ _ _ h=>by cases h.1) (fun _ _ h=>by cases h.1));intro _ _ _ _ N;obtain⟨h,rfl,rfl⟩:=N;cases h;refine aJ EP ?_;refine J.ns (fM (Ej.bare ?_));refine eG rfl rfl rfl ?_;exact rT
theorem b2L x0 x1 y0 y1 w:Calls aA 78 #[.agg #[i64 x0,i64 x1],.agg #[i64 y0,i64 y1]] w fun e w'=>e= .returned (i64 (NK (bC x0 y0) (bC x1 y1)))∧∃q N,w'=fK (w.drewN q) N:=
 yY.grows (b2P x0 x1 y0 y1 _) (fun _ _ _ h=>h.1) w
theorem b9r a b n m w:Calls aA 220 #[.agg #[str a,i64 n],.agg #[str b,i64 m]] w fun e w'=>e= .returned (i64 (MC a b))∧∃q N,w'=fK (w.drewN q) N:=
 yY.grows (b8J a b n m _) (fun _ _ _ h=>h.1) w
