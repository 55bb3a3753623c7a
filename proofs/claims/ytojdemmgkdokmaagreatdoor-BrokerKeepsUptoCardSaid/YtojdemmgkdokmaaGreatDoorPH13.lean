/-
  Own texts on the laws of the seat, joined: the logic, and contracts of functions. Conditions: none.
-/
import Derived.Test.YtojdemmgkdokmaaGreatDoorNmH
import Derived.Test.YtojdemmgkdokmaaGreatDoorPH12
set_option linter.all false
set_option maxRecDepth 100000
set_option maxHeartbeats 40000000
open Go.Sx.J renaming z -> aA,op -> aN,eqv -> dS
open Go.Value renaming bool -> aB,slice -> gJ
open List renaming take_of_length_le -> aC,getElem?_eq_some_iff -> aI,drop_eq_nil_of_le -> aK,append_assoc -> aT,length_map -> aW,flatMap_append -> bH,append_nil -> bJ,length_mergeSort -> bU,takeWhile_cons -> cO,map_append -> cZ,take_add_one -> dB,take_succ_eq_append_getElem -> dD,take_append_drop -> dF,head?_drop -> dK,length_append -> dM,getElem?_drop -> dP,getElem?_append_right -> dQ,flatMap_cons -> dR,mem_map -> dU,takeWhile_sublist -> dX,set_append_right -> dY,perm_append_comm -> dZ,length_pos_iff -> eG,map_map -> eP,pairwise_map -> fB,mem_append -> fH,take_zero -> fO,drop_drop -> fZ,map_nil -> gG
open Go.Sx.JA renaming tk -> aF,tkG -> aQ
open Go.Sx.Cj renaming region -> aG,block -> aU,seq -> aY,ret -> bT,cond -> bZ,exit -> dI,loop -> dL,FT -> fJ
open Go.Sx.Ej renaming seq -> aH,LM -> aP,FN -> aZ,QL -> bD,KH -> bF,LC -> bK,JK -> bM,round -> bV,OX -> dJ,keep -> fQ
open Go.Sx.zM renaming c -> aJ,z -> dN
open Go.Proofs.YtojdemmgkdokmaaGreatDoor.Fv renaming f -> aO
open Bk renaming DF -> aS,Ln -> aV,grp -> bI,allL -> bP,a6r -> dG,a2d -> eF,norm -> eY,XD -> fC,KU -> fE,Idn -> fG,MJ -> fM,WC -> fP,step1 -> gB
open Option.some renaming inj -> aX
open Nat renaming zero_le -> bC,min_eq_left -> dW,add_zero -> eH,le_refl -> fD,zero_lt_one -> fF
open Go.Sx.yR renaming TN -> bG,TS -> fA
open Go.Sx.AV renaming z -> bQ,s -> bY
open Bool renaming and_eq_true -> bW,noConfusion -> dV,false_eq_true -> eX,or_eq_true -> fK
open Go.Sx.Keeps renaming d -> dA,k -> fU,n -> fV
open Go.Proofs.Tryz renaming prog -> dH
open Go.Sx.IK renaming text -> eU
open Eq renaming trans -> gI
namespace Go.Proofs.YtojdemmgkdokmaaGreatDoor
open _root_.Go.Proofs.Tryz
open Go Go.Sx
structure Rw (β:Type) where
  l:List β
  a:Option Addr
  c:Nat
abbrev Rw.v {β:Type} (x:Rw β):Value:= .slice x.a x.l.length x.c
abbrev WH {β:Type} (x:Rw β):List Value:=[x.v]
theorem a5r{β:Type}(x:Rw β):(WH x).length=1:=rfl
theorem XG{β:Type}{cs sp:List Value}{o}{L:List (Rw β)}(h:cs.drop o=L.flatMap WH++sp){i x}(G:L[i]?=some x):cs[o+i]?=some x.v:=by
 have A:=GU (f:=WH) (n:=1) a5r h G 0 fF;rw[Nat.mul_one,eH]at A;exact A
def a0m (I:Heap) (x:Rw Fv):Prop:=zY FK I x.l x.v∧∀y∈x.l,ZK I y
theorem a0m.mono{I G x}(h:a0m I x)(A:Le I G):a0m G x:=⟨h.1.mono A,fun y O=>(h.2 y O).mono A⟩
def LsS (I:Heap) (L:List (Rw Fv)) (v:Value):Prop:=zY WH I L v∧∀x∈L,a0m I x
theorem LsS.mono{I G L v}(h:LsS I L v)(A:Le I G):LsS G L v:=⟨h.1.mono A,fun x O=>(h.2 x O).mono A⟩
def a3I (I:Heap) (L:List (Rw aV)) (v:Value):Prop:=zY WH I L v∧∀x∈L,zY CW I x.l x.v
theorem a3I.mono{I G L v}(h:a3I I L v)(A:Le I G):a3I G L v:=⟨h.1.mono A,fun x O=>(h.2 x O).mono A⟩
def flt {β γ:Type} (φ:β→γ) (L:List (Rw β)):List γ:=L.flatMap fun x=>x.l.map φ
theorem a3j{β γ:Type}(φ:β→γ){L:List (Rw β)}{i x}(h:L[i]?=some x):flt φ (L.take (i+1))=flt φ (L.take i)++x.l.map φ:=by
 unfold flt;rw[dB,h,bH];simp
theorem NY{β γ:Type}(φ:β→γ){l:List β}{j x}(h:l[j]?=some x):(l.take (j+1)).map φ=(l.take j).map φ++[φ x]:=by
 rw[dB,h,cZ];rfl
theorem c0G{β γ:Type}(φ:β→γ){L i r}(h:L[i]?=some r){j x}(A:r.l[j]?=some x):∃rest,flt φ L=(flt φ (L.take i)++(r.l.take j).map φ++[φ x])++rest:=by
 refine⟨(r.l.drop (j+1)).map φ++flt φ (L.drop (i+1)),?_⟩;have h1:flt φ L=flt φ (L.take (i+1))++flt φ (L.drop (i+1)):=by
  unfold flt;rw[←bH,dF]
 rw[h1,a3j φ h];have h2:r.l.map φ=(r.l.take j).map φ++[φ x]++(r.l.drop (j+1)).map φ:=by
  rw[←NY φ A,←cZ,dF]
 rw[h2];simp only[aT]
theorem a9i{β γ:Type}(φ:β→γ){L}{i:Nat}{r}(h:L[i]?=some r):r.l.length≤(flt φ L).length:=by
 have h1:flt φ L=flt φ (L.take (i+1))++flt φ (L.drop (i+1)):=by
  unfold flt;rw[←bH,dF]
 rw[h1,a3j φ h,dM,dM,aW];omega
theorem b6v{α β:Type}[Inhabited β]{l:List α}{R:α→β→Prop}(h:∀p∈l,∃y,R p y):∃φ:α→β,∀p∈l,R p (φ p):=by
 classical
 refine⟨fun p=>if A:p∈l then(h p A).choose else default,fun p A=>?_⟩;simp only[A,dif_pos];exact(h p A).choose_spec
def JMF (J:Heap) (l:ML fG) (c:Nat) (xs:List Bk.Fd):Prop:=MS l c∧∀id,(bI id xs=none→BK l id=none)∧∀g,bI id xs=some g→∃y:Fv,y.f=g∧BK l id=some (.agg (FK y).toArray)∧ZK J y
theorem JMF.mono{I A l c xs}(h:JMF I l c xs)(G:Le I A):JMF A l c xs:=
 ⟨h.1,fun id=>⟨(h.2 id).1,fun g hg=>let ⟨y,h1,h2,h3⟩:=(h.2 id).2 g hg;⟨y,h1,h2,h3.mono G⟩⟩⟩
theorem JMF.nil I:JMF I [] 0 []:=⟨MS.nil,fun id=>⟨fun _=>rfl,fun g hg=>by cases hg⟩⟩
theorem JMF.put{J l c xs}(h:JMF J l c xs){x y}(A:bI (aS x) (xs++[x])=some y.f)(hs:ZK J y):JMF J (BU l (aS x) (.agg (FK y).toArray) c) (FI l (aS x) c) (xs++[x]):=by
 refine⟨h.1.set _ _,fun id=>?_⟩;rw[NT]
 by_cases hid:id=aS x
 ·subst hid;rw[zG sI,A];exact⟨fun g=>(by cases g),fun g hg=>(by cases hg;exact⟨y,rfl,rfl,hs⟩)⟩
 have hg:bI id (xs++[x])=bI id xs:=by rw[fC];unfold gB;rw[zF (Ne.symm hid)]
 rw[zF (by simpa using hid),hg];exact h.2 id
theorem c0c{xs x}(h:bI (aS x) xs=none):bI (aS x) (xs++[x])=some x:=by rw[fC,h];unfold gB;rw[zG rfl]
theorem c0M{xs x g}(h:bI (aS x) xs=some g):bI (aS x) (xs++[x])=some (Bk.a2e g x):=by rw[fC,h];unfold gB;rw[zG rfl]
theorem JMF.at{J l c xs}(h:JMF J l c xs):∃φ:fG×Value×Nat→Fv,∀p∈l,p.2.1= .agg (FK (φ p)).toArray∧bI p.1 xs=some (φ p).f:=by
 refine b6v (R:=fun(p:fG×Value×Nat) (y:Fv)=>p.2.1=Value.agg (FK y).toArray∧bI p.1 xs=some y.f) fun p G=>?_;obtain⟨id,v,n⟩:=p;have A:BK l id=some v:=(VF h.1.1).2 ⟨n,G⟩;cases hg:bI id xs with
 |none=>rw[(h.2 id).1 hg]at A;cases A
 |some g=>
  obtain⟨y,h1,h2,-⟩:=(h.2 id).2 g hg;rw[h2]at A;exact⟨y,(aX A).symm,by rw[h1]⟩
theorem JMF.len{J l c xs}(h:JMF J l c xs):l.length≤xs.length:=by
 have h1:=a0h (l:=l.map (·.1)) (m:=xs.map aS) h.1.1 fun id A=>by
  cases hg:bI id xs with
  |none=>exact absurd A (JH.1 ((h.2 id).1 hg))
  |some g=>exact Bk.b5r xs hg
 rwa [aW,aW]at h1
theorem JMF.sorted{J l c xs}(h:JMF J l c xs){φ}(A:∀p∈l,p.2.1= .agg (FK (φ p)).toArray∧bI p.1 xs=some (φ p).f){ls:List Fv}(O:ls.Perm (l.map φ))(ho:ls.Pairwise fun p q=>Bk.OO q.f p.f=false):
 Bk.JR xs ((ls.map aO).map eY)∧∀y∈ls,ZK J y∧y.f.p.length≤fM xs:=by
 have a0:∀y∈ls,∃p∈l,φ p=y:=fun y Z=>dU.1 (O.mem_iff.1 Z);refine⟨Bk.c4v ?_ (fun f=>?_) ?_,fun y Z=>?_⟩
 ·have h1:(l.map φ).map (fun y=>aS y.f)=l.map (·.1):=by
   rw[eP];exact List.map_congr_left fun p O=>Bk.a7S (A p O).2
  rw[eP];have h2:=(O.map fun y:Fv=>aS y.f).nodup_iff;rw[h1]at h2;exact h2.2 h.1.1
 ·constructor
  ·intro hf;obtain⟨y,Z,rfl⟩:=dU.1 hf;obtain⟨p,G,rfl⟩:=a0 y Z;exact⟨p.1,(A p G).2⟩
  rintro⟨id,hg⟩;obtain⟨y,h1,h2,-⟩:=(h.2 id).2 f hg;obtain⟨n,hn⟩:=(VF h.1.1).1 h2;have h3:=(A _ hn).2;rw[hg]at h3;rw[dU];exact⟨φ (id,_,n),O.mem_iff.2 (List.mem_map_of_mem hn),(aX h3).symm⟩
 ·rw[fB];exact ho
 obtain⟨p,G,rfl⟩:=a0 y Z;obtain⟨h1,h2⟩:=A p G;obtain⟨z,h3,h4,h5⟩:=(h.2 p.1).2 _ h2;have h6:BK l p.1=some p.2.1:=(VF h.1.1).2 ⟨p.2.2,G⟩;rw[h4,h1]at h6;have h7:(FK z).toArray=(FK (φ p)).toArray:=Value.agg.inj (aX h6);have h8:FK z=FK (φ p):=by have:=zD Array.toList h7;simpa using this
 have h9:z.v=(φ p).v:=by
  have:=zD (fun l:List Value=>l[3]?) h8;exact aX this
 refine⟨?_,Bk.a8D xs h2⟩;show a2r J (φ p).f.p (φ p).v;rw[←h3,←h9];exact h5
def JML (l:ML (List UInt8)) (c:Nat) (xs:List aV):Prop:=MS l c∧∀k,BK l k=(dG k xs).map fun n=> .agg (CW (k,n)).toArray
theorem JML.nil:JML [] 0 []:=⟨MS.nil,fun _=>rfl⟩
theorem JML.put{l c xs}(h:JML l c xs){x n}(hn:eF x.1 (dG x.1 xs) x=some n):JML (BU l x.1 (.agg (CW (x.1,n)).toArray) c) (FI l x.1 c) (xs++[x]):=by
 refine⟨h.1.set _ _,fun k=>?_⟩;rw[NT,Bk.a4a]
 by_cases hk:k=x.1
 ·subst hk;rw[zG sI,hn];rfl
 rw[zF (by simpa using hk),h.2 k];unfold eF;rw[zF (Ne.symm hk)]
theorem c2g{k} xs:∀{n:Int},dG k xs=some n→k∈xs.map (·.1):=by
 refine Bk.MV (P:=fun xs=>∀{n:Int},dG k xs=some n→k∈xs.map (·.1)) (fun {n} h=>by cases h) (fun xs x A=>?_) xs;intro n h;rw[Bk.a4a]at h;rw[cZ,fH];unfold eF at h
 split at h
 ·rename_i G;exact .inr (by simp[G])
 exact .inl (A h)
theorem JML.len{l c xs}(h:JML l c xs):l.length≤xs.length:=by
 have h1:=a0h (l:=l.map (·.1)) (m:=xs.map (·.1)) h.1.1 fun k A=>by
  cases hg:dG k xs with
  |none=>exact absurd A (JH.1 (by rw[h.2 k,hg];rfl))
  |some n=>exact c2g xs hg
 rwa [aW,aW]at h1
def a3S (xs:List aV) (p:List UInt8×Value×Nat):aV:=(p.1,(dG p.1 xs).getD 0)
theorem JML.at{l c xs}(h:JML l c xs):∀p∈l,p.2.1= .agg (CW (a3S xs p)).toArray∧dG p.1 xs=some (a3S xs p).2:=fun p G=>by
 obtain⟨k,v,n⟩:=p;have A:BK l k=some v:=(VF h.1.1).2 ⟨n,G⟩;rw[h.2 k]at A;cases hg:dG k xs with
 |none=>rw[hg]at A;cases A
 |some m=>
  rw[hg]at A;have e:a3S xs (k,v,n)=(k,m):=by unfold a3S;rw[hg];rfl
  rw[e];exact⟨(aX A).symm,rfl⟩
theorem JML.sorted{l c xs}(h:JML l c xs){ls}(A:ls.Perm (l.map (a3S xs)))(O:ls.Pairwise fun p q=>¬q.1<p.1):ls=bP xs:=by
 refine Bk.IsS.uniq (xs:=xs) ⟨?_,fun x=>?_⟩ (Bk.c3b xs)
 ·have h1:(l.map (a3S xs)).map (·.1)=l.map (·.1):=by rw[eP];rfl
  have h2:=(A.map fun y:aV=>y.1).nodup_iff;rw[h1]at h2;have h3:=List.nodup_iff_pairwise_ne.1 (h2.2 h.1.1);rw[fB]at h3;exact(List.pairwise_and_iff.2 ⟨O,h3⟩).imp fun {a b} ⟨Z,g2⟩=>Bk.a4t Z (Ne.symm g2)
 rw[A.mem_iff,dU];constructor
 ·rintro⟨p,G,rfl⟩;exact(h.at p G).2
 intro hs;have hm:BK l x.1=some (.agg (CW (x.1,x.2)).toArray):=by rw[h.2,hs];rfl
 obtain⟨n,hn⟩:=(VF h.1.1).1 hm;exact⟨_,hn,by unfold a3S;rw[hs];rfl⟩
def FvN (I J:Heap) (z:Fv):Prop:=KF (fun b=>I b=none) 3 GY J z.f.p z.v∧b6P z.v
theorem FvN.mono{I J A z}(h:FvN I J z)(G:Le J A):FvN I A z:=⟨h.1.mono G,h.2⟩
theorem FvN.ZG{I J z}(h:FvN I J z):ZK J z:=⟨h.1.row,h.2⟩
def MgS (I J:Heap) (r:List Fv) (w:Value):Prop:=KF (fun b=>I b=none) 41 FK J r w∧∀z∈r,FvN I J z
theorem cell_lt{α:Type}{f:α→List Value}{n:Nat}(hf:∀x,(f x).length=n){sp:List Value}{l:List α}{k:Nat}{x:α}(h:l[k]?=some x){j:Nat}(A:j<n):k*n+j<(l.flatMap f++sp).length:=by
 have h1:=XC hf (sp:=sp) h j A;have h2:(f x)[j]?=some ((f x)[j]'(by rw[hf];exact A)):=DX _;exact(aI.1 (h1.trans h2)).1
theorem c1B{dn ls:List Fv}{k x h}(hd:dn.length=k)(hg:ls[k]?=some x) p a c:((dn++ls.drop k).flatMap FK++h).set (k*4+3) (.slice a p.length c)=((dn++[(⟨⟨x.f.t,x.f.k,p⟩,a,c⟩:Fv)])++ls.drop (k+1)).flatMap FK++h:=by
 rw[a5b hg,bH,dR,aT,dY _ _ (by rw[DN EO];omega),DN EO,hd,show k*4+3-k*4=3 by omega];simp only[bH,dR,List.flatMap_nil,aT,List.nil_append];rfl
structure TM where
  k:Nat
  J:Heap
  dn:List Fv
theorem a3K{α:Type}(l:List α) k:l.take (min l.length k)=l.take k:=by
 rcases Nat.le_total l.length k with h|h
 ·rw[dW h,List.take_length,aC h]
 rw[Nat.min_eq_right h]
structure TJ (α:Type) where
  i:Nat
  j:Nat
  J:Heap
  l:ML α
  c:Nat
theorem b7w L v (b6:L.length≤1000000000)(b7:(flt aO L).length≤1000000000)(ag:fM (flt aO L)≤1000000000) I (G:LsS I L v):yT dH 28 [v,.func (.func 29) #[] #[],.func (.func 30) #[] #[],.func (.func 33) #[] #[]] I []
 (fun e I' H'=>∃(ls:List Fv) (g:Gs),Bk.JR (flt aO L) ((ls.map aO).map eY)∧(∀y∈ls,ZK I' y∧y.f.p.length≤1000000000)∧CU 0 4 ls.length (ls.flatMap FK) g∧e= .returned (gV ls.length g)∧H'=gH 41 (ls.flatMap FK) g):=by
 obtain⟨pL,cL,rfl,_,-⟩:=id G.1;refine yT.ob func28 ?_;intro w0 _;refine Cj.sr (aA yQ ?_);refine J.yV (aN rfl (CB rfl rfl rfl ?_));intro b1 aq;refine aA yQ ?_;refine J.AO (aG (aA yP ?_));refine aA (AU XT) ?_;refine aA yP ?_;refine J.ns (aU (dL (ι:=TJ (fG)) (fun y=>y.i≤L.length∧LsS y.J L (.slice pL L.length cL)∧JMF y.J y.l y.c (flt aO (L.take y.i))) (fun y=>L.length-y.i) (fun y=>[(1,.func (.func 29) #[] #[]),(2,.func (.func 30) #[] #[]),(3,.func (.func 33) #[] #[]),(9,.map (some b1)),(18,.slice pL L.length cL),(19,i64 (L.length:Int)),(20,i64 (y.i:Int))]) (fun y=>y.J) (fun y=>[(b1,BD kvI y.l y.c)]) ⟨0,0,_,[],0⟩ ⟨bC _,G,JMF.nil _⟩ rT rfl rfl ?_));rintro⟨i,_,_,m,c⟩ ⟨hi,G,A⟩;dsimp only at hi G A ⊢;refine Cj.sr (aA BM ?_);refine J.nss (bZ rfl (fun a7=>?_) (fun a7=>?_))
 ·have aj:=BH a7;have ah:i<L.length:=oM;obtain⟨⟨rl,ra,rc⟩,a1⟩:∃r,L[i]?=some r:=⟨_,DX ah⟩;obtain⟨_,_,ar,au,hp⟩:=id G.1;cases ar;obtain⟨fb,fo,_,_,_,_,rfl,av,aw⟩:=hp (AX ah);have hr:=G.2 _ (FB a1);have b5:rl.length≤_:=a9i aO a1;refine Cj.skip (aH (aY (aU (Cj.sr (aA (BG (off':=fo+i) XT a2l) ?_)))));refine aA (EN isAgg30 (fA av) (XG aw a1)) ?_;refine dS 23 rfl (show _= .slice ra rl.length rc from rfl) ?_;refine aA yQ ?_;refine J.yV (aA yP ?_);refine aA (AU EW) ?_;refine aA yP ?_;refine J.ns (aU (dL (ι:=TJ (fG)) (fun y=>y.j≤rl.length∧LsS y.J L (.slice (some ⟨fb,fo,none⟩) L.length cL)∧a0m y.J ⟨rl,ra,rc⟩∧JMF y.J y.l y.c (flt aO (L.take i)++(rl.take y.j).map aO)) (fun y=>rl.length-y.j) (fun y=>[(1,.func (.func 29) #[] #[]),(2,.func (.func 30) #[] #[]),(3,.func (.func 33) #[] #[]),(9,.map (some b1)),(18,.slice (some ⟨fb,fo,none⟩) L.length cL),(19,i64 (L.length:Int)),(20,i64 (i:Int)),(24,.slice ra rl.length rc),(25,i64 (rl.length:Int)),(26,i64 (y.j:Int))]) (fun y=>y.J) (fun y=>[(b1,BD kvI y.l y.c)]) ⟨i,0,_,_,_⟩ ⟨bC _,G,hr,by dsimp only;rw[fO,gG,bJ];exact A⟩ rT rfl rfl ?_));rintro⟨_,j,_,m,c⟩ ⟨hj,G,hr,A⟩;dsimp only at hj G hr A ⊢;refine Cj.sr (aA BM ?_);refine J.nss (bZ rfl (fun a8=>?_) (fun a8=>?_))
  ·have ak:=BH a8;have a9:j<rl.length:=oM;obtain⟨x,a3⟩:∃x,rl[j]?=some x:=⟨_,DX a9⟩;obtain⟨_,_,al,ax,ay⟩:=id hr.1;cases al;obtain⟨_,ro,_,_,_,_,rfl,aa,az⟩:=ay (AX a9);have a5:=hr.2 x (FB a3);obtain⟨_,af⟩:=c0G aO a1 a3;have b0:fM ((flt aO (L.take i)++(rl.take j).map aO)++[x.f])≤1000000000:=by
    have h9:=ag;rw[af,fP]at h9;dsimp only at h9;omega
   refine Cj.skip (aH (aY (aU (Cj.sr (aA (BG (off':=ro+j*4) EW EL) ?_)))));refine aA (FH UU EL (fA aa) (EJ EO az a3)) ?_;refine aN rfl (BP NQ ?_);intro _ _;refine aN rfl (zS 0 EL (aJ (aJ (aJ (aJ dN)))) bQ ?_);refine J.yV (aA yP ?_);refine aA (zX UU EL (yR.at 0 rfl)) ?_;refine aN rfl (yU rfl rfl rfl rfl rfl (c6L x _) ?_);refine aN rfl (BP zeroValue103 ?_);intro _ _;refine aN rfl (zS 0 sizeOf103 (aJ (aJ (aJ dN))) bQ ?_);refine J.AO (aG (aA yP ?_));refine aA (zX isAgg103 sizeOf103 (yR.at 0 rfl)) ?_;rcases hg:bI (aS x.f) (flt aO (L.take i)++(rl.take j).map aO)with _|g
   ·have ab:=(A.2 _).1 hg;refine aA (ZH (kv:=kvI) (l:=m) (a:=aS x.f) rfl rfl rfl rfl a7G b6E NQ (yR.at 2 rfl)) ?_;refine dS 36 rfl (show _= .tuple #[.agg #[i64 0,i64 0,str [],.slice none 0 0],.bool false] from(by rw[ab];rfl)) ?_;refine aA yP ?_;refine aA AQ ?_;refine aA AQ ?_;refine aN rfl (BP NQ ?_);intro _ _;refine aN rfl (zS 0 EL (aJ (aJ (aJ (aJ dN)))) bQ ?_);refine aA yQ ?_;refine J.yV (aA yP ?_);refine J.c0 (fun ax=>?_);refine Cj.skip (aH (aG (aA yP ?_)));refine aA (zX isAgg103 sizeOf103 (yR.at 1 rfl)) ?_;refine aA (zX UU EL (yR.at 2 rfl)) ?_;refine aN rfl (FZ (kv:=kvI) (a:=(aS x.f)) 3 (.inr rfl) rfl rfl rfl rfl rfl a7G b6E rfl (bY (bY (bY bQ))) ?_);refine J.nil (aZ (aH (aG (aA (yZ rfl rfl rfl (AA oM)) ?_))));refine aA yP ?_;refine J.nil ?_;have ac:=A.put (x:=x.f) (y:=x) (c0c hg) a5;refine fQ (dA (dA (dA (fU fV)))) ?_;refine bV ⟨i,j+1,_,BU m (aS x.f) (.agg (FK x).toArray) c,FI m (aS x.f) c⟩ ⟨dO,G,hr,by dsimp only;rw[NY aO a3,←aT];exact ac⟩ dO rT rfl rfl
   obtain⟨y,ai,ab,ad⟩:=(A.2 _).2 g hg;refine aA (ZH (kv:=kvI) (l:=m) (a:=aS x.f) rfl rfl rfl rfl a7G b6E NQ (yR.at 2 rfl)) ?_;refine dS 36 rfl (show _= .tuple #[.agg (FK y).toArray,.bool true] from(by rw[ab];rfl)) ?_;refine aA yP ?_;refine aA AQ ?_;refine aA AQ ?_;refine aN rfl (BP NQ ?_);intro _ _;refine aN rfl (zS 0 EL (aJ (aJ (aJ (aJ dN)))) bQ ?_);refine aA yQ ?_;refine J.yV (aA yP ?_);refine J.c1 (fun au=>?_);refine aG (aA yP ?_);refine aA (zX UU EL (yR.at 0 rfl)) ?_;refine aA (zX UU EL (yR.at 2 rfl)) ?_;refine aN rfl (yS (H1:=[]) rfl rfl rfl rfl rfl (c4O y x (by have h1:=Bk.a8D _ hg;rw[fP,Bk.b3o]at b0;rw[ai];omega) _ ad a5) ?_ (fun _ _ _ _ h=>by obtain⟨_,h,_⟩:=h;cases h) (fun _ _ h=>by obtain⟨_,h,_⟩:=h;cases h));intro _ _ _ O am;have G:=G.mono O;have hr:=hr.mono O;have A:=A.mono O;have aa:=O _ _ aa;have a5:=a5.mono O;have ad:=ad.mono O;obtain⟨z,h,hzf,b2,rfl⟩:=am;cases h;refine aN rfl (zS 2 EL (aJ (aJ (aJ (aJ dN)))) (bY (bY bQ)) ?_);refine J.GL (aA yP ?_);refine aA (zX isAgg103 sizeOf103 (yR.at 1 rfl)) ?_;refine aA (zX UU EL (yR.at 2 rfl)) ?_;refine aN rfl (FZ (kv:=kvI) (a:=(aS x.f)) 3 (.inr rfl) rfl rfl rfl rfl rfl a7G b6E rfl (bY (bY (bY bQ))) ?_);refine J.nil (aZ (aH (aG (aA (yZ rfl rfl rfl (AA oM)) ?_))));refine aA yP ?_;refine J.nil ?_;have ac:=A.put (x:=x.f) (y:=z) (by rw[c0M hg,hzf,ai]) b2;refine fQ (dA (dA (dA (fU fV)))) ?_;refine bV ⟨i,j+1,_,BU m (aS x.f) (.agg (FK z).toArray) c,FI m (aS x.f) c⟩ ⟨dO,G,hr,by dsimp only;rw[NY aO a3,←aT];exact ac⟩ dO rT rfl rfl
  have ak:=BN a8;refine dI (bF (bM (bK (aZ (aH (aG (aA (yZ rfl rfl rfl (AA oM)) ?_)))))));refine aA yP ?_;refine J.nil (bV ⟨i+1,0,_,_,_⟩ ⟨dO,G,by dsimp only;rw[a3j aO a1];rw[aC (oM:rl.length≤j)]at A;exact A⟩ dO rT rfl rfl)
 have aj:=BN a7;refine dI (bF (bM (bK (aH (aY (Cj.persist aq (fun _ a6 Z=>?_)))))));have G:=G.mono a6;have A:=A.mono a6;rw[aC (oM:L.length≤i)]at A;have b8:=A.len;obtain⟨φ,hφ⟩:=A.at;refine aG (aA yP ?_);refine aN rfl (FU rfl rfl rfl rfl rfl (b5T _ _) ?_ (fun _ _ _ _ ⟨_,h,_⟩=>by cases h) (fun _ _ ⟨_,h,_⟩=>by cases h));intro _ _ _ a2 an ao;have G:=G.mono a2;have A:=A.mono a2;have Z:=a2 _ _ Z;obtain⟨kb,h,rfl⟩:=ao;cases h;refine J.persist (an _ (.head _)) (fun _ a4 ae=>?_);have G:=G.mono a4;have A:=A.mono a4;have Z:=a4 _ _ Z;refine aA yP ?_;refine aN rfl (yS (H1:=[]) rfl rfl rfl rfl rfl (b5R m φ _ [] [ptr kb 0] _ oM (c2G kb b1 m c A.1 φ (fun p hp=>(hφ p hp).1) _ ae Z)) ?_ (fun _ _ _ _ ⟨_,_,_,_,_,h,_⟩=>by cases h) (fun _ _ ⟨_,_,_,_,_,h,_⟩=>by cases h));intro _ _ _ a0 ap;have G:=G.mono a0;have A:=A.mono a0;have Z:=a0 _ _ Z;have ae:=a0 _ _ ae;obtain⟨ls,g,b3,b4,hg,h,rfl⟩:=ap;cases h;refine aA yQ ?_;refine J.ns (bT ?_);obtain⟨hM,hS⟩:=A.sorted hφ b3 b4;refine zN ?_;exact⟨ls,g,hM,fun y hy=>⟨(hS y hy).1,IU (hS y hy).2 ag⟩,hg,rfl,bJ _⟩
theorem b6K L v (au:L.length≤1000000000)(av:(flt id L).length≤1000000000) I (A:a3I I L v):yT dH 50 [v,.func (.func 51) #[] #[],.func (.func 52) #[] #[],.func (.func 53) #[] #[]] I []
 (fun e _ H'=>∃g,CU 0 2 (bP (flt id L)).length ((bP (flt id L)).flatMap CW) g∧e= .returned (gV (bP (flt id L)).length g)∧H'=gH 80 ((bP (flt id L)).flatMap CW) g):=by
 obtain⟨pL,cL,rfl,_,-⟩:=id A.1;refine yT.ob func50 ?_;intro w0 _;refine Cj.sr (aA yQ ?_);refine J.yV (aN rfl (CB rfl rfl rfl ?_));intro b1 ai;refine aA yQ ?_;refine J.AO (aG (aA yP ?_));refine aA (AU underlying81) ?_;refine aA yP ?_;refine J.ns (aU (dL (ι:=TJ (List UInt8)) (fun y=>y.i≤L.length∧a3I y.J L (.slice pL L.length cL)∧JML y.l y.c (flt (id:aV→aV) (L.take y.i))) (fun y=>L.length-y.i) (fun y=>[(1,.func (.func 51) #[] #[]),(2,.func (.func 52) #[] #[]),(3,.func (.func 53) #[] #[]),(9,.map (some b1)),(18,.slice pL L.length cL),(19,i64 (L.length:Int)),(20,i64 (y.i:Int))]) (fun y=>y.J) (fun y=>[(b1,BD (fun a:List UInt8=>str a) y.l y.c)]) ⟨0,0,_,[],0⟩ ⟨bC _,A,JML.nil⟩ rT rfl rfl ?_));rintro⟨i,_,_,m,c⟩ ⟨hi,A,G⟩;dsimp only at hi A G ⊢;refine Cj.sr (aA BM ?_);refine J.nss (bZ rfl (fun a4=>?_) (fun a4=>?_))
 ·have ac:=BH a4;have ab:i<L.length:=oM;obtain⟨⟨Z,ra,rc⟩,a0⟩:∃r,L[i]?=some r:=⟨_,DX ab⟩;obtain⟨_,_,aj,_,hp⟩:=id A.1;cases aj;obtain⟨fb,fo,_,_,_,_,rfl,ak,al⟩:=hp (AX ab);have hr:=A.2 _ (FB a0);have ar:Z.length≤_:=a9i (id:aV→aV) a0;refine Cj.skip (aH (aY (aU (Cj.sr (aA (BG (off':=fo+i) underlying81 sizeOf77) ?_)))));refine aA (EN isAgg77 (fA ak) (XG al a0)) ?_;refine dS 23 rfl (show _= .slice ra Z.length rc from rfl) ?_;refine aA yQ ?_;refine J.yV (aA yP ?_);refine aA (AU KL) ?_;refine aA yP ?_;refine J.ns (aU (dL (ι:=TJ (List UInt8)) (fun y=>y.j≤Z.length∧a3I y.J L (.slice (some ⟨fb,fo,none⟩) L.length cL)∧zY CW y.J Z (.slice ra Z.length rc)∧JML y.l y.c (flt (id:aV→aV) (L.take i)++(Z.take y.j).map (id:aV→aV))) (fun y=>Z.length-y.j) (fun y=>[(1,.func (.func 51) #[] #[]),(2,.func (.func 52) #[] #[]),(3,.func (.func 53) #[] #[]),(9,.map (some b1)),(18,.slice (some ⟨fb,fo,none⟩) L.length cL),(19,i64 (L.length:Int)),(20,i64 (i:Int)),(24,.slice ra Z.length rc),(25,i64 (Z.length:Int)),(26,i64 (y.j:Int))]) (fun y=>y.J) (fun y=>[(b1,BD (fun a:List UInt8=>str a) y.l y.c)]) ⟨i,0,_,_,_⟩ ⟨bC _,A,hr,by dsimp only;rw[fO,gG,bJ];exact G⟩ rT rfl rfl ?_));rintro⟨_,j,_,m,c⟩ ⟨hj,A,hr,G⟩;dsimp only at hj A hr G ⊢;refine Cj.sr (aA BM ?_);refine J.nss (bZ rfl (fun a5=>?_) (fun a5=>?_))
  ·have ad:=BH a5;have a6:j<Z.length:=oM;obtain⟨x,a7⟩:∃x,Z[j]?=some x:=⟨_,DX a6⟩;obtain⟨_,_,ae,_,am⟩:=id hr;cases ae;obtain⟨_,ro,_,_,_,_,rfl,an,ao⟩:=am (AX a6);refine Cj.skip (aH (aY (aU (Cj.sr (aA (BG (off':=ro+j*2) KL IQ) ?_)))));refine aA (FH YV IQ (fA an) (EJ GH ao a7)) ?_;refine aN rfl (BP NS ?_);intro _ _;refine aN rfl (zS 0 IQ (aJ (aJ dN)) bQ ?_);refine J.yV (aA yP ?_);refine aA (zX YV IQ (yR.at 0 rfl)) ?_;refine aN rfl (yU rfl rfl rfl rfl rfl (c4i x _) ?_);refine aA yQ ?_;refine J.AO (aG (aA yP ?_));refine aA yP ?_;rcases hg:dG x.1 (flt (id:aV→aV) (L.take i)++(Z.take j).map (id:aV→aV))with _|n9
   ·have a8:BK m x.1=none:=by rw[G.2,hg];rfl
    refine aA (ZH (kv:=(fun a:List UInt8=>str a)) (l:=m) (a:=x.1) rfl rfl rfl rfl a7z (eU BF) NS (yR.at 1 rfl)) ?_;refine dS 36 rfl (show _= .tuple #[.agg #[str [],i64 0],.bool false] from(by rw[a8];rfl)) ?_;refine aA yP ?_;refine aA AQ ?_;refine aA AQ ?_;refine aN rfl (BP NS ?_);intro _ _;refine aN rfl (zS 0 IQ (aJ (aJ dN)) bQ ?_);refine aA yQ ?_;refine J.yV (aA yP ?_);refine J.c0 (fun _=>?_);refine Cj.skip (aH (aG (aA yP ?_)));refine aA yP ?_;refine aA (zX YV IQ (yR.at 1 rfl)) ?_;refine aN rfl (FZ (kv:=(fun a:List UInt8=>str a)) (a:=(x.1)) 2 (.inr rfl) rfl rfl rfl rfl rfl a7z (eU BF) rfl (bY (bY bQ)) ?_);refine J.nil (aZ (aH (aG (aA (yZ rfl rfl rfl (AA oM)) ?_))));refine aA yP ?_;refine J.nil ?_;have a9:=G.put (x:=x) (n:=x.2) (by rw[hg];unfold eF;rw[zG rfl]);refine fQ (dA (dA (fU fV))) ?_;refine bV ⟨i,j+1,_,BU m (x.1) (.agg (CW (x.1,x.2)).toArray) c,FI m (x.1) c⟩ ⟨dO,A,hr,by dsimp only;rw[NY (id:aV→aV) a7,←aT];exact a9⟩ dO rT rfl rfl
   have a8:BK m x.1=some (.agg (CW (x.1,n9)).toArray):=by rw[G.2,hg];rfl
   refine aA (ZH (kv:=(fun a:List UInt8=>str a)) (l:=m) (a:=x.1) rfl rfl rfl rfl a7z (eU BF) NS (yR.at 1 rfl)) ?_;refine dS 36 rfl (show _= .tuple #[.agg (CW (x.1,n9)).toArray,.bool true] from(by rw[a8];rfl)) ?_;refine aA yP ?_;refine aA AQ ?_;refine aA AQ ?_;refine aN rfl (BP NS ?_);intro _ _;refine aN rfl (zS 0 IQ (aJ (aJ dN)) bQ ?_);refine aA yQ ?_;refine J.yV (aA yP ?_);refine J.c1 (fun _=>?_);refine aG (aA yP ?_);refine aA (zX YV IQ (yR.at 0 rfl)) ?_;refine aA (zX YV IQ (yR.at 1 rfl)) ?_;refine aN rfl (yU rfl rfl rfl rfl rfl (c1F (x.1,n9) x _) ?_);refine aN rfl (zS 1 IQ (aJ (aJ dN)) (bY bQ) ?_);refine J.GL (aA yP ?_);refine aA yP ?_;refine aA (zX YV IQ (yR.at 1 rfl)) ?_;refine aN rfl (FZ (kv:=(fun a:List UInt8=>str a)) (a:=(x.1)) 2 (.inr rfl) rfl rfl rfl rfl rfl a7z (eU BF) rfl (bY (bY bQ)) ?_);refine J.nil (aZ (aH (aG (aA (yZ rfl rfl rfl (AA oM)) ?_))));refine aA yP ?_;refine J.nil ?_;have a9:=G.put (x:=x) (n:=Bk.W (n9+x.2)) (by rw[hg];unfold eF;rw[zG rfl]);refine fQ (dA (dA (fU fV))) ?_;refine bV ⟨i,j+1,_,BU m (x.1) (.agg (CW (x.1,Bk.W (n9+x.2))).toArray) c,FI m (x.1) c⟩ ⟨dO,A,hr,by dsimp only;rw[NY (id:aV→aV) a7,←aT];exact a9⟩ dO rT rfl rfl
  have ad:=BN a5;refine dI (bF (bM (bK (aZ (aH (aG (aA (yZ rfl rfl rfl (AA oM)) ?_)))))));refine aA yP ?_;refine J.nil (bV ⟨i+1,0,_,_,_⟩ ⟨dO,A,by dsimp only;rw[a3j (id:aV→aV) a0];rw[aC (oM:Z.length≤j)]at G;exact G⟩ dO rT rfl rfl)
 have ac:=BN a4;refine dI (bF (bM (bK (aH (aY (Cj.persist ai (fun _ a1 O=>?_)))))));have A:=A.mono a1;rw[aC (oM:L.length≤i)]at G;have aw:=G.len;have hφ:=G.at;refine aG (aA yP ?_);refine aN rfl (FU rfl rfl rfl rfl rfl (b7D _ _) ?_ (fun _ _ _ _ ⟨_,h,_⟩=>by cases h) (fun _ _ ⟨_,h,_⟩=>by cases h));intro _ _ _ a3 af ag;have A:=A.mono a3;have O:=a3 _ _ O;obtain⟨kb,h,rfl⟩:=ag;cases h;refine J.persist (af _ (.head _)) (fun _ a1 aa=>?_);have A:=A.mono a1;have O:=a1 _ _ O;refine aA yP ?_;refine aN rfl (yS (H1:=[]) rfl rfl rfl rfl rfl (b6u m (a3S (flt (id:aV→aV) L)) _ [] [ptr kb 0] _ oM (c1h kb b1 m c G.1 (a3S (flt (id:aV→aV) L)) (fun p hp=>(hφ p hp).1) _ aa O)) ?_ (fun _ _ _ _ ⟨_,_,_,_,_,h,_⟩=>by cases h) (fun _ _ ⟨_,_,_,_,_,h,_⟩=>by cases h));intro _ _ _ a2 ah;have A:=A.mono a2;have O:=a2 _ _ O;have aa:=a2 _ _ aa;obtain⟨ls,g,ap,aq,hg,h,rfl⟩:=ah;cases h;refine aA yQ ?_;refine J.ns (bT ?_);obtain rfl:=G.sorted ap aq;refine zN ?_;exact⟨g,hg,rfl,bJ _⟩
theorem MZ L v (ap:L.length≤1000000000)(aq:(flt aO L).length≤1000000000)(ar:fM (flt aO L)≤1000000000) I (hL:LsS I L v):yT dH 15 [v] I []
 (fun e I' H'=>∃(r:List Fv) (w:Value),e= .returned w∧MgS I I' r w∧Bk.JR (flt aO L) (r.map aO)∧H'=[]):=by
 refine yT.ob func15 ?_;intro w0 ab;refine Cj.sr (aA yQ ?_);refine J.yV (aA yP ?_);refine aN rfl (FU rfl rfl rfl rfl rfl (b7w L v ap aq ar _ hL) ?_ (fun _ _ _ _ ⟨_,_,_,_,_,h,_⟩=>by cases h) (fun _ _ ⟨_,_,_,_,_,h,_⟩=>by cases h));intro _ _ _ ak au av;have hL:=hL.mono ak;obtain⟨ls,g,hM,a5,hg,h,rfl⟩:=av;cases h;have ac:=hg.base au;have al:=hM.len;rw[aW,aW]at al;have O:∀z∈ls,ZK _ z:=fun z hz=>(a5 z hz).1;have hB:∀z∈ls,z.f.p.length≤1000000000:=fun z hz=>(a5 z hz).2;clear a5;refine aA yQ ?_;refine J.AO (aG ?_);rcases g with _|⟨gb,gc,ad⟩
 ·obtain⟨aw,-⟩:=ac;obtain rfl:=List.length_eq_zero_iff.1 aw;refine aA yP ?_;refine dS 8 rfl (show _= .slice none 0 0 from rfl) ?_;refine aA (AU EW) ?_;refine aA yP ?_;refine J.ns (aU (Cj.rounds 1 ?_));refine Rj.succ ?_;refine Cj.sr (aA BM ?_);refine J.nss (bZ rfl (fun ae=>dV (gI (Eq.symm (by first|rfl|decide)) ae)) (fun ae=>?_));refine dI (bF (bF (bK (aH (Cj.sr (aA yP ?_))))));refine aA yQ ?_;refine J.ns (bT (zN ?_));exact⟨[],_,rfl,⟨KF.nil,fun _ h=>by cases h⟩,hM,rfl⟩
 obtain⟨af,ax,ay⟩:=ac;refine aA yP ?_;refine aA (AU EW) ?_;refine aA yP ?_;refine J.ns (aU (dL (ι:=TM) (fun y=>y.k≤ls.length∧y.dn.length=y.k∧y.dn.map aO=((ls.take y.k).map aO).map eY∧(∀z∈y.dn,FvN I y.J z)∧(∀z∈ls,ZK y.J z)) (fun y=>ls.length-y.k) (fun y=>[(3,.slice (some ⟨gb,0,none⟩) ls.length gc),(8,.slice (some ⟨gb,0,none⟩) ls.length gc),(9,i64 (ls.length:Int)),(10,i64 (y.k:Int))]) (fun y=>y.J) (fun y=>[(gb,yY 41 ((y.dn++ls.drop y.k).flatMap FK++ad))]) ⟨0,_,[]⟩ ⟨bC _,rfl,rfl,fun _ h=>(by cases h),O⟩ rT rfl rfl ?_));rintro⟨k,_,dn⟩ ⟨hk,a6,a7,hN,O⟩;dsimp only at hk a6 a7 hN O ⊢;refine Cj.sr (aA BM ?_);refine J.nss (bZ rfl (fun a8=>?_) (fun a8=>?_))
 ·have am:=BH a8;have az:k<ls.length:=oM;obtain⟨x,a0⟩:∃x,ls[k]?=some x:=⟨_,DX az⟩;have Z:=O x (FB a0);have b0:=hB x (FB a0);have ag:(dn++ls.drop k)[k]?=some x:=by rw[dQ oM,show k-dn.length=0 by omega,dP,eH];exact a0
  refine Cj.skip (aH (aY (aU (Cj.sr (aA yP ?_)))));refine aA yQ ?_;refine J.yV (aA yP ?_);refine aA yP ?_;refine aA (BG (off':=k*4) EW EL) ?_;refine aA (qq2 (off':=k*4+3) GI IG) ?_;refine aA (FY rfl rfl MX (yR.at 0 rfl) ((XC EO ag 3 dE).trans rfl)) ?_;refine aN rfl (FU rfl rfl rfl rfl rfl (b8w x.f.p x.v b0 _ Z) ?_ (fun _ _ _ _ ⟨_,_,h,_⟩=>by cases h) (fun _ _ ⟨_,_,h,_⟩=>by cases h));intro _ _ _ a1 b1 an;have hN:=fun G A=>(hN G A).mono a1;have O:=fun G A=>(O G A).mono a1;have Z:=Z.mono a1;obtain⟨gq,b2,h,rfl⟩:=an;cases h;have hq:=b2.base b1;refine J.perm (H':=[_]++gH _ _ gq) dZ ?_;refine aA yQ ?_;refine J.yV (aA yP ?_);refine aN rfl (FV (H1:=gH 3 (x.f.p.flatMap GY) gq) [_] rfl rfl rfl rfl rfl rfl (c1W x.f.p gq hq oM _) ?_ (fun _ _ _ _ ⟨h,_⟩=>by cases h) (fun _ _ ⟨h,_⟩=>by cases h));rintro _ _ _ a2 ⟨h,rfl⟩;cases h;have b3:CU w0.heap.size 1 (x.f.p.mergeSort fun x y=>decide (x≤y)).length ((x.f.p.mergeSort fun x y=>decide (x≤y)).flatMap GY) gq:=by rw[bU];exact VI hq (by rw[DN LP,DN LP,bU])
  have hN:=fun G A=>(hN G A).mono a2;have O:=fun G A=>(O G A).mono a2;have Z:=Z.mono a2;refine J.GL (aA yP ?_);refine aA yP ?_;refine aA yP ?_;refine dS 23 rfl (show _=gV (x.f.p.mergeSort fun x y=>decide (x≤y)).length gq from(by rw[bU])) ?_;refine aN rfl (FV (H1:=gH 3 ((x.f.p.mergeSort fun x y=>decide (x≤y)).flatMap GY) gq) [_] rfl rfl rfl rfl rfl rfl (b4p (x.f.p.mergeSort fun x y=>decide (x≤y)) gq b3 (by rw[bU];omega) _) ?_ (fun _ _ _ _ h=>by obtain⟨_,_,h,_⟩:=h;cases h) (fun _ _ h=>by obtain⟨_,_,h,_⟩:=h;cases h));rintro _ _ _ a3 ⟨gr,ah,h,rfl⟩;cases h;rw[Bk.a0d]at ah ⊢;have hN:=fun G A=>(hN G A).mono a3;have O:=fun G A=>(O G A).mono a3;have Z:=Z.mono a3;refine J.perm (H':=gH 3 ((fE x.f.p).flatMap GY) gr++[_]) dZ ?_;refine J.XZ LP dE ah rfl (fun _ a4 a9=>?_);have hN:=fun G A=>(hN G A).mono a4;have O:=fun G A=>(O G A).mono a4;have Z:=Z.mono a4;have ai:=a5D (fE x.f.p).length gr;obtain⟨pw,cw,aj⟩:=rowLen a9.row;refine dS 24 rfl (show _= .slice pw (fE x.f.p).length cw from aj) ?_;rw[aj]at a9 ai;refine aA (BG (off':=k*4) EW EL) ?_;refine aA (qq2 (off':=k*4+3) GI IG) ?_;refine aN rfl (MK 0 rfl rfl rfl rfl rfl rfl IG rfl (.inl rfl) (cell_lt EO ag dE) bQ ?_);refine J.nil (aZ (aH (aG (aA (yZ rfl rfl rfl (AA oM)) ?_))));refine aA yP ?_;refine J.nil (bV ⟨k+1,_,dn++[⟨eY x.f,pw,cw⟩]⟩ ⟨dO,by rw[dM,a6];rfl,by dsimp only;rw[NY aO a0,cZ,cZ,a7];rfl,fun z hz=>(fH.1 hz).elim (hN z) fun hz=>by rw[List.mem_singleton.1 hz];exact⟨a9.imp fun b hb=>ab.dom hb,ai⟩,O⟩ dO rT rfl (by dsimp only;rw[show eY x.f=⟨x.f.t,x.f.k,fE x.f.p⟩ from rfl,←c1B a6 a0];rfl))
 have am:=BN a8;refine dI (bF (bM (bK (aH (Cj.sr (aA yP ?_))))));refine aA yQ ?_;refine J.ns (bT ?_);have b4:ls.drop k=[]:=aK oM;have b5:ls.length=dn.length:=oM;rw[b4,bJ];refine Ej.persist af (fun _ aa ao=>?_);have hN:=fun G A=>(hN G A).mono aa;have O:=fun G A=>(O G A).mono aa;refine zN ?_;rw[DN EO]at ax ay;exact⟨dn,_,rfl,⟨⟨_,_,by rw[b5],oM,fun _=>⟨gb,ad,rfl,ab.dom af,ao⟩⟩,hN⟩,by rw[a7,aC (oM:ls.length≤k)];exact hM,rfl⟩
theorem c5O{l a c v H}(h:SX 80 CW l v H)(A:v= .slice a l.length c) k:SX 80 CW (l.take k) (.slice a (min l.length k) (min l.length k)) H:=by
 subst A;have:=b1k h (Nat.min_le_left l.length k)
 rwa [a3K]at this
theorem c1A L v most (O:L.length≤1000000000)(Z:(flt id L).length≤1000000000) I (hL:a3I I L v):yT dH 21 [v,i64 most] I []
 (fun e _ H'=>∃w,e= .returned w∧SX 80 CW ((bP (flt id L)).take most.toNat) w H'):=by
 refine yT.ob func21 ?_;intro w0 _;refine Cj.sr (aA yQ ?_);refine J.yV (aA yP ?_);refine aN rfl (yS (H1:=[]) rfl rfl rfl rfl rfl (b6K L v O Z _ hL) ?_ (fun _ _ _ _ ⟨_,_,h,_⟩=>by cases h) (fun _ _ ⟨_,_,h,_⟩=>by cases h));intro _ _ _ _ a0;obtain⟨g,hg,h,rfl⟩:=a0;cases h;have A:SX 80 CW (bP (flt id L)) (gV (bP (flt id L)).length g) (gH 80 ((bP (flt id L)).flatMap CW) g):=SX.c3a GH dE rfl hg;obtain⟨sa,sc,G,a1⟩:=b8K A;refine dS 6 rfl (show _= .slice sa (bP (flt id L)).length sc from G) ?_;refine aA yP ?_;refine aN rfl (yU rfl rfl rfl rfl rfl (b7O sa (bP (flt id L)).length sc most a1 _) ?_);refine aA yQ ?_;refine J.ns (bT (Ej.perm (H':=gH 80 ((bP (flt id L)).flatMap CW) g) (.of_eq (bJ _).symm) ?_));refine zN ?_;exact⟨_,rfl,c5O A G _⟩
end Go.Proofs.YtojdemmgkdokmaaGreatDoor
namespace Go.Sx
open Go
section
variable {P:Program} {K i j:TypeId} {f0 f1:Field}
def EqK {α:Type} [BEq α] (P:Program) (K:TypeId) (kv:α→Array Value):Prop:=∀a b w,(Op.equalIn 10000 K (.agg (kv a)) (.agg (kv b))).run P w= .ok (a == b) w
theorem EqK.b6R(O:P.underlying K=some (.struct #[f0,f1]))(Z:P.stoodInHeld K=false)(n0:f0.name≠ "_")(n1:f1.name≠ "_")(o0:f0.offset=0)(o1:f1.offset=1)(t0:f0.type=i)(h:f1.type=i)(A:P.underlying i=some (.int .i64))(G:∀w,(isAgg i).run P w= .ok false w):
 EqK P K (fun a:Int×Int=> #[i64 a.1,i64 a.2]):=by
 subst t0;exact fun a b w=>WG O Z n0 n1 o0 o1 G (h▸G) (x0:=i64 a.1) (x1:=i64 a.2) (y0:=i64 b.1) (y1:=i64 b.2) w (fun d w=>run_equalIn_int w d _ .i64 .i64 a.1 b.1 A) (fun d w=>run_equalIn_int w d _ .i64 .i64 a.2 b.2 (h▸A)) 9998
theorem EqK.c3Z(A:P.underlying K=some (.struct #[f0,f1]))(G:P.stoodInHeld K=false)(O:f0.name≠ "_")(Z:f1.name≠ "_")(o0:f0.offset=0)(o1:f1.offset=1)(t0:f0.type=i)(h:f1.type=j)(hi:P.underlying i=some .string)(hj:P.underlying j=some (.int .i64))(ha:∀w,(isAgg i).run P w= .ok false w)(hb:∀w,(isAgg j).run P w= .ok false w):
 EqK P K (fun a:List UInt8×Int=> #[str a.1,i64 a.2]):=by
 subst t0;exact fun a b w=>WG A G O Z o0 o1 ha (h▸hb) (x0:=str a.1) (x1:=i64 a.2) (y0:=str b.1) (y1:=i64 b.2) w (fun d w=>a1W hi a.1 b.1 d w) (fun d w=>run_equalIn_int w d _ .i64 .i64 a.2 b.2 (h▸hj)) 9998
end
section
variable {cx:Cx} {S:World→Prop} {ev0:Env} {o:Oper} {α:Type} [BEq α] {t:TypeId} {kv:α→Array Value}
theorem a9e{x y U a b}{vs h:List Value}(ho:o.op= .binOp .neq t x y U)(A:ev ev0 x=some (.agg vs.toArray))(G:ev ev0 y=some (.agg h.toArray))(O:vs.toArray=kv a)(Z:h.toArray=kv b)
 (hK:EqK cx.P t kv)(hq:cx.P.eqGuardType cx.P.depth t=false):DK cx o ev0 S (.bool (a != b)):=by
 intro w0 w hw _;have hg:(eqGuard .neq t x y (.agg vs.toArray) (.agg h.toArray)).run cx.P w= .ok () w:=by
  simp[eqGuard,hq]
 have h1:=run_neq_struct (P:=cx.P) w t vs.toArray h.toArray;rw[O]at h1 hg A;rw[Z]at h1 hg G;rw[hK a b w]at h1;simp[execOp,ho,hw.eval A,hw.eval G,hg,h1,bne]
end
section
variable {cx:Cx} {S:World→Prop} {ev0:Env} {o:Oper}
end
end Go.Sx
namespace Go.Proofs.YtojdemmgkdokmaaGreatDoor
open Go Go.Sx
abbrev c3y (t:Ix.Rec):Array Value:= #[i64 t.1,i64 t.2]
theorem c3F:EqK dH 38 c3y:=EqK.b6R WX kR dE dE rfl rfl rfl rfl tU3 DT
theorem OM.nil{I:Heap}:OM I [] (.slice none 0 0):=⟨zY.nil,fun _ h=>by cases h⟩
end Go.Proofs.YtojdemmgkdokmaaGreatDoor
namespace Bk
section
variable {α:Type} {lt:α→α→Bool}
end
end Bk
namespace Go.Proofs.YtojdemmgkdokmaaGreatDoor
open Go Go.Sx
theorem OZ{cs sp:List Value}{o}{l:List Int}(h:cs.drop o=l.flatMap GY++sp){k x}(G:l[k]?=some x):cs[o+k]?=some (i64 x):=by
 have A:=GU (f:=GY) (n:=1) LP h G 0 fF;rw[Nat.mul_one,eH]at A;exact A
def FrS (I:Heap) (x:Fv):Prop:=zY GY I x.f.p x.v
open _root_.Go.Proofs.Tryz
theorem a1e{cs sp:List Value}{o}{l:List Fv}(h:cs.drop o=l.flatMap FK++sp){k x}(A:l[k]?=some x):(cs.drop (o+k*4)).take 2=[i64 x.f.t.1,i64 x.f.t.2]:=by
 have h1:=EJ EO h A;have h2:=zD (List.take 2) h1;rw[List.take_take]at h2;exact h2
theorem c6O{a b:Bk.Fd}(h1:a.t=b.t)(h2:a.k=b.k)(h3:a.p=b.p):a=b:=by
 cases a;cases b;simp only at h1 h2 h3;subst h1 h2 h3;rfl
theorem b1e{a b:List Fv}{j:Nat}{x y}(A:a[j]?=some x)(G:b[j]?=some y)(h:x.f≠y.f):decide (a.map aO=b.map aO)=false:=zJ fun e=>h (by
 have h1:=zD (fun l:List Bk.Fd=>l[j]?) e;simp only[List.getElem?_map,A,G,Option.map_some]at h1;exact aX h1)
theorem c3i{a b:List Fv}{j x y}(h:(a.take j).map aO=(b.take j).map aO)(A:a[j]?=some x)(G:b[j]?=some y)(O:x.f=y.f):(a.take (j+1)).map aO=(b.take (j+1)).map aO:=by rw[NY aO A,NY aO G,h,O]
theorem b1E{a b:List Int}{j x y}(h:a.take j=b.take j)(A:a[j]?=some x)(G:b[j]?=some y)(O:x=y):a.take (j+1)=b.take (j+1):=by rw[dB,dB,A,G,h,O]
theorem ZT a b va vb (bb:a.length≤1000000000) I (ha:zY FK I a va)(hb:zY FK I b vb)(ar:∀z∈a,FrS I z∧z.f.p.length≤1000000000)(au:∀z∈b,FrS I z):Pure dH 13 [va,vb] I (.bool (decide (a.map aO=b.map aO))):=by
 refine yT.toPure ?_;obtain⟨p1,c1,rfl,a1,av⟩:=ha;obtain⟨p2,c2,rfl,a7,aw⟩:=hb;refine yT.ob func13 ?_;intro w0 _;refine Cj.sr (aA yQ ?_);refine J.AO (aG (aA yP ?_));refine aA (AU EW) ?_;refine aA yP ?_;refine aA (AU EW) ?_;refine aA EY ?_;refine J.cd (fun a1=>?_) (fun a1=>?_)
 ·have aj:=bne_iff_ne.1 a1;have ax:a.length≠b.length:=by have h:=bne_iff_ne.1 a1;omega
  refine Cj.sr (aA yQ ?_);refine J.ns (bT (aP (zN ?_)));rw[zJ (fun e=>ax (by have:=zD List.length e;rwa [aW,aW]at this))];exact rT
 have aj:=EC a1;have ba:a.length=b.length:=by have h:=EC a1;omega
 refine Cj.skip (aH (aY (Cj.sr (aA yQ ?_))));refine J.ns (aU (dL (ι:=Nat) (fun j=>j≤a.length∧(a.take j).map aO=(b.take j).map aO) (fun j=>a.length-j) (fun j=>[(0,.slice p1 a.length c1),(1,.slice p2 b.length c2),(5,i64 (j:Int))]) (fun j=>_) (fun j=>[]) 0 ⟨bC _,rfl⟩ rT rfl rfl ?_));rintro j ⟨_,a5⟩;refine aY (Cj.sr (aA yP ?_));refine aA yP ?_;refine aA (AU EW) ?_;refine aA BM ?_;refine J.cd (fun a7=>?_) (fun a7=>?_)
 ·have ak:=BH a7;have af:j<a.length:=oM;obtain⟨x,hx⟩:∃x,a[j]?=some x:=⟨_,DX af⟩;obtain⟨y,hy⟩:∃y,b[j]?=some y:=⟨_,DX oM⟩;obtain⟨fa,oa,_,_,_,_,rfl,a3,a4⟩:=av (AX af);obtain⟨fb,ob,EP,_,_,_,rfl,a8,a9⟩:=aw (AX (oM:j<b.length));have ab:=ar x (FB hx);have ay:=au y (FB hy);refine Cj.skip (aH (aY (aU (aY (aY (fJ [] [] 39 kR ?_))))));refine JA.fix BQ (fun A=>?_);refine aF 0 rfl A yP ?_;refine aF 1 rfl A yP ?_;refine aF 2 rfl A (BG (off':=oa+j*4) EW EL) ?_;refine aF 3 rfl A (qq2 GI AY) ?_;refine aF 4 rfl A (FH (vs:=[i64 x.f.t.1,i64 x.f.t.2]) EI AY (bG a3) (a1e a4 hx)) ?_;refine aF 5 rfl A yP ?_;refine aF 6 rfl A yP ?_;refine aF 7 rfl A (BG (off':=ob+j*4) EW EL) ?_;refine aF 8 rfl A (qq2 GI AY) ?_;refine aF 9 rfl A (FH (vs:=[i64 y.f.t.1,i64 y.f.t.2]) EI AY (bG a8) (a1e a9 hy)) ?_;refine aF 10 rfl A (a9e (kv:=c3y) (a:=x.f.t) (b:=y.f.t) rfl rfl rfl rfl rfl c3F kR) ?_;refine aF 11 rfl A yP ?_;refine JA.split 29 rfl (fun O=>?_) (fun O=>?_)
  ·have al:=bne_iff_ne.1 O;have a6:x.f≠y.f:=fun e=>bne_iff_ne.1 O (zD Bk.Fd.t e);refine CJ 12 11 29 false A (.inl (zD aB O)) ?_;refine CJ 13 11 29 false A (.inl (zD aB O)) ?_;refine CJ 14 11 29 false A (.inl (zD aB O)) ?_;refine CJ 15 11 29 false A (.inl (zD aB O)) ?_;refine CJ 16 11 29 false A (.inl (zD aB O)) ?_;refine CJ 17 11 29 false A (.inl (zD aB O)) ?_;refine CJ 18 11 29 false A (.inl (zD aB O)) ?_;refine CJ 19 11 29 false A (.inl (zD aB O)) ?_;refine CJ 20 11 29 false A (.inl (zD aB O)) ?_;refine CJ 21 11 29 false A (.inl (zD aB O)) ?_;refine CJ 22 11 29 false A (.inl (zD aB O)) ?_;refine aF 23 rfl A (DY O) ?_;refine aF 24 rfl A yP ?_;refine CJ 25 24 42 false A (.inl (zD aB rfl)) ?_;refine CJ 26 24 42 false A (.inl (zD aB rfl)) ?_;refine CJ 27 24 42 false A (.inl (zD aB rfl)) ?_;refine CJ 28 24 42 false A (.inl (zD aB rfl)) ?_;refine CJ 29 24 42 false A (.inl (zD aB rfl)) ?_;refine CJ 30 24 42 false A (.inl (zD aB rfl)) ?_;refine CJ 31 24 42 false A (.inl (zD aB rfl)) ?_;refine CJ 32 24 42 false A (.inl (zD aB rfl)) ?_;refine CJ 33 24 42 false A (.inl (zD aB rfl)) ?_;refine CJ 34 24 42 false A (.inl (zD aB rfl)) ?_;refine CJ 35 24 42 false A (.inl (zD aB rfl)) ?_;refine CJ 36 24 42 false A (.inl (zD aB rfl)) ?_;refine CJ 37 24 42 false A (.inl (zD aB rfl)) ?_;refine aF 38 rfl A JV ?_;refine AL ?_;refine aH (bZ rfl (fun ag=>?_) (fun ag=>dV (gI (Eq.symm rfl) ag)));refine Cj.sr (aA yQ ?_);refine J.ns (bT (aP (bD (aP (dJ (bD (aP (zN ?_))))))));rw[b1e hx hy (fun e=>a6 e)];exact rT
  have al:=EC O;refine aQ 12 11 29 false _ rfl A rfl rfl O yP ?_;refine aQ 13 11 29 false _ rfl A rfl rfl O yP ?_;refine aQ 14 11 29 false _ rfl A rfl rfl O (BG (off':=oa+j*4) EW EL) ?_;refine aQ 15 11 29 false _ rfl A rfl rfl O (qq2 (off':=oa+j*4+2) GI zL) ?_;refine aQ 16 11 29 false _ rfl A rfl rfl O (FY rfl rfl BX (bG a3) ((GU EO a4 hx 2 dE).trans rfl)) ?_;refine aQ 17 11 29 false _ rfl A rfl rfl O yP ?_;refine aQ 18 11 29 false _ rfl A rfl rfl O yP ?_;refine aQ 19 11 29 false _ rfl A rfl rfl O (BG (off':=ob+j*4) EW EL) ?_;refine aQ 20 11 29 false _ rfl A rfl rfl O (qq2 (off':=ob+j*4+2) GI zL) ?_;refine aQ 21 11 29 false _ rfl A rfl rfl O (FY rfl rfl BX (bG a8) ((GU EO a9 hy 2 dE).trans rfl)) ?_;refine aQ 22 11 29 false _ rfl A rfl rfl O (LH rfl rfl rfl) ?_;refine aF 23 rfl A (DV O) ?_;refine aF 24 rfl A yP ?_;refine JA.split 42 rfl (fun G=>?_) (fun G=>?_)
  ·have am:=bne_iff_ne.1 G;have a6:x.f≠y.f:=fun e=>bne_iff_ne.1 G (zD Bk.Fd.k e);refine CJ 25 24 42 false A (.inl (zD aB G)) ?_;refine CJ 26 24 42 false A (.inl (zD aB G)) ?_;refine CJ 27 24 42 false A (.inl (zD aB G)) ?_;refine CJ 28 24 42 false A (.inl (zD aB G)) ?_;refine CJ 29 24 42 false A (.inl (zD aB G)) ?_;refine CJ 30 24 42 false A (.inl (zD aB G)) ?_;refine CJ 31 24 42 false A (.inl (zD aB G)) ?_;refine CJ 32 24 42 false A (.inl (zD aB G)) ?_;refine CJ 33 24 42 false A (.inl (zD aB G)) ?_;refine CJ 34 24 42 false A (.inl (zD aB G)) ?_;refine CJ 35 24 42 false A (.inl (zD aB G)) ?_;refine CJ 36 24 42 false A (.inl (zD aB G)) ?_;refine CJ 37 24 42 false A (.inl (zD aB G)) ?_;refine aF 38 rfl A (DY G) ?_;refine AL ?_;refine aH (bZ rfl (fun ah=>?_) (fun ah=>dV (gI (Eq.symm rfl) ah)));refine Cj.sr (aA yQ ?_);refine J.ns (bT (aP (bD (aP (dJ (bD (aP (zN ?_))))))));rw[b1e hx hy (fun e=>a6 e)];exact rT
  have am:=EC G;refine aQ 25 24 42 false _ rfl A rfl rfl G yP ?_;refine aQ 26 24 42 false _ rfl A rfl rfl G yP ?_;refine aQ 27 24 42 false _ rfl A rfl rfl G (BG (off':=oa+j*4) EW EL) ?_;refine aQ 28 24 42 false _ rfl A rfl rfl G (qq2 (off':=oa+j*4+3) GI IG) ?_;refine aQ 29 24 42 false _ rfl A rfl rfl G (FY rfl rfl MX (bG a3) ((GU EO a4 hx 3 dE).trans rfl)) ?_;refine aQ 30 24 42 false _ rfl A rfl rfl G (AU JW) ?_;refine aQ 31 24 42 false _ rfl A rfl rfl G yP ?_;refine aQ 32 24 42 false _ rfl A rfl rfl G yP ?_;refine aQ 33 24 42 false _ rfl A rfl rfl G (BG (off':=ob+j*4) EW EL) ?_;refine aQ 34 24 42 false _ rfl A rfl rfl G (qq2 (off':=ob+j*4+3) GI IG) ?_;refine aQ 35 24 42 false _ rfl A rfl rfl G (FY rfl rfl MX (bG a8) ((GU EO a9 hy 3 dE).trans rfl)) ?_;refine aQ 36 24 42 false _ rfl A rfl rfl G (AU JW) ?_;refine aQ 37 24 42 false _ rfl A rfl rfl G EY ?_;refine aF 38 rfl A (DV G) ?_;refine AL ?_;refine aH (bZ rfl (fun a2=>?_) (fun a2=>?_))
  ·have an:=bne_iff_ne.1 a2;refine Cj.sr (aA yQ ?_);refine J.ns (bT (aP (bD (aP (dJ (bD (aP (zN ?_))))))));rw[b1e hx hy (fun e=>bne_iff_ne.1 a2 (by rw[e]))];exact rT
  have an:=EC a2;refine Cj.skip (aH (aY ?_));obtain⟨ab,_⟩:=ab;have az:x.f.t=y.f.t:=EC O;have b0:x.f.k=y.f.k:=EC G;have bc:x.f.p.length=y.f.p.length:=by have h:=EC a2;omega
  refine aG (aA yQ ?_);refine J.ns (aU (dL (ι:=Nat) (fun i=>i≤x.f.p.length∧x.f.p.take i=y.f.p.take i) (fun i=>x.f.p.length-i) (fun i=>[(0,.slice (some ⟨fa,oa,none⟩) a.length c1),(1,.slice (some ⟨fb,ob,none⟩) b.length c2),(5,i64 (j:Int)),(6,i64 (i:Int))]) (fun i=>_) (fun i=>[]) 0 ⟨bC _,rfl⟩ rT rfl rfl ?_));rintro i ⟨_,ai⟩;refine aY (Cj.sr (aA yP ?_));refine aA yP ?_;refine aA yP ?_;refine aA (BG (off':=oa+j*4) EW EL) ?_;refine aA (qq2 (off':=oa+j*4+3) GI IG) ?_;refine aA (FY rfl rfl MX (fA a3) ((GU EO a4 hx 3 dE).trans rfl)) ?_;refine aA (AU JW) ?_;refine aA BM ?_;refine J.cd (fun aa=>?_) (fun aa=>?_)
  ·have ao:=BH aa;have ac:i<x.f.p.length:=oM;obtain⟨n,hn⟩:∃n,x.f.p[i]?=some n:=⟨_,DX ac⟩;obtain⟨m,hm⟩:∃m,y.f.p[i]?=some m:=⟨_,DX oM⟩;obtain⟨_,_,ap,a2,b1⟩:=id ab;cases ap;obtain⟨xb,xo,_,_,_,_,b2,b3,b4⟩:=b1 (AX ac);obtain⟨_,_,aq,aa,b5⟩:=id ay;cases aq;obtain⟨yb,yo,_,_,_,_,b6,b7,b8⟩:=b5 (AX (oM:i<y.f.p.length));refine Cj.skip (aH (aY (aU (aY (fJ [] [] 17 kR ?_)))));refine JA.fix BQ (fun Z=>?_);refine aF 0 rfl Z yP ?_;refine aF 1 rfl Z yP ?_;refine aF 2 rfl Z (BG (off':=oa+j*4) EW EL) ?_;refine aF 3 rfl Z (qq2 (off':=oa+j*4+3) GI IG) ?_;refine aF 4 rfl Z (FY rfl rfl MX (bG a3) ((GU EO a4 hx 3 dE).trans rfl)) ?_;refine JA.eqv 71 rfl (show _= .slice (some ⟨xb,xo,none⟩) x.f.p.length x.c from(by show gJ x.a _ _=_;rw[b2])) ?_;refine aF 5 rfl Z yP ?_;refine aF 6 rfl Z (BG (off':=xo+i) JW AB) ?_;refine aF 7 rfl Z (EN DT (bG b3) (OZ b4 hn)) ?_;refine aF 8 rfl Z yP ?_;refine aF 9 rfl Z yP ?_;refine aF 10 rfl Z (BG (off':=ob+j*4) EW EL) ?_;refine aF 11 rfl Z (qq2 (off':=ob+j*4+3) GI IG) ?_;refine aF 12 rfl Z (FY rfl rfl MX (bG a8) ((GU EO a9 hy 3 dE).trans rfl)) ?_;refine JA.eqv 79 rfl (show _= .slice (some ⟨yb,yo,none⟩) y.f.p.length y.c from(by show gJ y.a _ _=_;rw[b6])) ?_;refine aF 13 rfl Z yP ?_;refine aF 14 rfl Z (BG (off':=yo+i) JW AB) ?_;refine aF 15 rfl Z (EN DT (bG b7) (OZ b8 hm)) ?_;refine aF 16 rfl Z EY ?_;refine AL ?_;refine aH (bZ rfl (fun a0=>?_) (fun a0=>?_))
   ·have ae:=bne_iff_ne.1 a0;have ad:n≠m:=bne_iff_ne.1 a0;refine Cj.sr (aA yQ ?_);refine J.ns (bT (bD (aP (dJ (bD (bD (aP (dJ (bD (aP (zN ?_)))))))))));rw[b1e hx hy (fun e=>ad (by have h1:=zD (fun f:Bk.Fd=>f.p[i]?) e;simp only[hn,hm]at h1;exact aX h1))];exact rT
   have ae:=EC a0;have ad:n=m:=EC a0;refine Cj.skip (aZ (aH (aG (aA yP ?_))));refine aA (yZ rfl rfl rfl (AA oM)) ?_;refine aA yQ ?_;refine J.nil (bV (i+1) ⟨oM,b1E ai hn hm ad⟩ oM rT rfl rfl)
  have ao:=BN aa;have b9:x.f=y.f:=c6O az b0 (by rwa [aC (oM:x.f.p.length≤i),aC (oM:y.f.p.length≤i)]at ai);refine dI (bF (bM (bK (aZ (aH (aG (aA yP ?_)))))));refine aA (yZ rfl rfl rfl (AA oM)) ?_;refine aA yQ ?_;refine J.nil (bV (j+1) ⟨oM,c3i a5 hx hy b9⟩ oM rT rfl rfl)
 have ak:=BN a7;refine dI (bF (bM (bK (aH (Cj.sr (aA yQ ?_))))));refine J.ns (bT (zN ?_));rw[aC (oM:a.length≤j),aC (oM:b.length≤j)]at a5;rw[zI a5];exact rT
theorem YG a b va vb (ae:a.length≤1000000000) I (ha:zY GY I a va)(hb:zY GY I b vb):Pure dH 17 [va,vb] I (.bool (decide (a=b))):=by
 refine yT.toPure ?_;obtain⟨p1,c1,rfl,G,a6⟩:=ha;obtain⟨p2,c2,rfl,a0,a7⟩:=hb;refine yT.ob func17 ?_;intro w0 _;refine Cj.sr (aA yQ ?_);refine J.AO (aG (aA yP ?_));refine aA (AU RY) ?_;refine aA yP ?_;refine aA (AU RY) ?_;refine aA EY ?_;refine J.cd (fun G=>?_) (fun G=>?_)
 ·have a3:=bne_iff_ne.1 G;have a8:a.length≠b.length:=by have h:=bne_iff_ne.1 G;omega
  refine Cj.sr (aA yQ ?_);refine J.ns (bT (aP (zN ?_)));rw[zJ (fun e=>a8 (by rw[e]))];exact rT
 have a3:=EC G;have ad:a.length=b.length:=by have h:=EC G;omega
 refine Cj.skip (aH (aY (Cj.sr (aA yQ ?_))));refine J.ns (aU (dL (ι:=Nat) (fun j=>j≤a.length∧a.take j=b.take j) (fun j=>a.length-j) (fun j=>[(0,.slice p1 a.length c1),(1,.slice p2 b.length c2),(5,i64 (j:Int))]) (fun j=>_) (fun j=>[]) 0 ⟨bC _,rfl⟩ rT rfl rfl ?_));rintro j ⟨_,Z⟩;refine aY (Cj.sr (aA yP ?_));refine aA yP ?_;refine aA (AU RY) ?_;refine aA BM ?_;refine J.cd (fun a0=>?_) (fun a0=>?_)
 ·have a4:=BH a0;have a2:j<a.length:=oM;obtain⟨x,hx⟩:∃x,a[j]?=some x:=⟨_,DX a2⟩;obtain⟨y,hy⟩:∃y,b[j]?=some y:=⟨_,DX oM⟩;obtain⟨_,oa,_,_,_,_,rfl,a9,aa⟩:=a6 (AX a2);obtain⟨_,ob,EP,_,_,_,rfl,ab,ac⟩:=a7 (AX (oM:j<b.length));refine Cj.skip (aH (aY (aU (aY (fJ [] [] 9 kR ?_)))));refine JA.fix BQ (fun A=>?_);refine aF 0 rfl A yP ?_;refine aF 1 rfl A yP ?_;refine aF 2 rfl A (BG (off':=oa+j) RY JJ) ?_;refine aF 3 rfl A (EN MR (bG a9) (OZ aa hx)) ?_;refine aF 4 rfl A yP ?_;refine aF 5 rfl A yP ?_;refine aF 6 rfl A (BG (off':=ob+j) RY JJ) ?_;refine aF 7 rfl A (EN MR (bG ab) (OZ ac hy)) ?_;refine aF 8 rfl A EY ?_;refine AL ?_;refine aH (bZ rfl (fun O=>?_) (fun O=>?_))
  ·have a5:=bne_iff_ne.1 O;have a1:x≠y:=bne_iff_ne.1 O;refine Cj.sr (aA yQ ?_);refine J.ns (bT (bD (aP (dJ (bD (aP (zN ?_)))))));rw[zJ (fun e=>a1 (by rw[e,hy]at hx;exact(aX hx).symm))];exact rT
  have a5:=EC O;have a1:x=y:=EC O;refine Cj.skip (aZ (aH (aG (aA yP ?_))));refine aA (yZ rfl rfl rfl (AA oM)) ?_;refine aA yQ ?_;refine J.nil (bV (j+1) ⟨oM,b1E Z hx hy a1⟩ oM rT rfl rfl)
 have a4:=BN a0;refine dI (bF (bM (bK (aH (Cj.sr (aA yQ ?_))))));refine J.ns (bT (zN ?_));rw[aC (oM:a.length≤j),aC (oM:b.length≤j)]at Z;rw[zI Z];exact rT
end Go.Proofs.YtojdemmgkdokmaaGreatDoor
namespace Cq
def blank (c:UInt8):Bool:=(c.toNat:Int) == 32 || (c.toNat:Int) == 9 || (c.toNat:Int) == 10 || (c.toNat:Int) == 13
def plain (c:UInt8):Bool:= !blank c && (c.toNat:Int) != 40 && (c.toNat:Int) != 41 && (c.toNat:Int) != 34 && (c.toNat:Int) != 61 && (c.toNat:Int) != 60 && (c.toNat:Int) != 62
def quoted:List UInt8→Option (List UInt8×Nat)
 |[]=>none
 |c::r=>
  if c=34 then some ([],1)
  else if c=92 then
   match r with
   |[]=>none
   |d::r'=>(quoted r').map fun p=>(d::p.1,p.2+2)
  else(quoted r).map fun p=>(c::p.1,p.2+1)
structure Tok where
  kind:Nat
  text:List UInt8
  pos:Nat
deriving DecidableEq
def head (rest:List UInt8) (j:Nat):Tok×Nat:=
 match rest with
 |[]=>(⟨0,[],j⟩,0)
 |c::r=>
  if c=34 then
   match quoted r with
   |some (t,n)=>(⟨2,t,j⟩,n+1)
   |none=>(⟨4,[],j⟩,r.length+1)
  else if c=61∧r.head?=some 61 then(⟨1,[61,61],j⟩,2)
  else if c=62∧r.head?=some 61 then(⟨1,[62,61],j⟩,2)
  else if c=62 then(⟨4,[],j⟩,0)
  else if plain c then(⟨3,(c::r).takeWhile plain,j⟩,((c::r).takeWhile plain).length)
  else(⟨1,[c],j⟩,1)
def skip (s:List UInt8) (i:Nat):Nat:=i+((s.drop i).takeWhile blank).length
def lex (s:List UInt8) (i:Nat):Tok×Nat:=let r:=head (s.drop (skip s i)) (skip s i);(r.1,skip s i+r.2)
def over (t:Tok):Bool:=t.kind == 0 || t.kind == 4
def toks (s:List UInt8):Nat→Nat→List Tok
 |0,_=>[]
 |f+1,i=>if over (lex s i).1 then[(lex s i).1]else(lex s i).1::toks s f (lex s i).2
def tokens (s:List UInt8):List Tok:=toks s (s.length+1) 0
def low (c:UInt8):UInt8:=if 65≤c.toNat∧c.toNat≤90 then c+32 else c
def small (s:List UInt8):List UInt8:=s.map low
def indexes:List (List UInt8):=[[116,105,116,108,101],[97,117,116,104,111,114],[115,117,98,106,101,99,116],[105,115,98,110],[97,110,121],[121,101,97,114]]
def relations:List (List UInt8):=[[61],[61,61],[60],[62,61],[97,110,121],[97,108,108]]
def operator (t:Tok):Nat:=
 if t.kind≠3 then 0
 else if small t.text=[97,110,100]then 2 else if small t.text=[111,114]then 3 else if small t.text=[110,111,116]then 4 else 0
def relation (t:Tok):Bool:=relations.contains (small t.text) && (t.kind == 3 || t.kind == 1)
inductive Qs where
  |nil
  |cons (k:Int) (i r t:List UInt8) (ps rest:Qs)
deriving DecidableEq
structure Qn where
  k:Int
  i:List UInt8
  r:List UInt8
  t:List UInt8
  ps:Qs
deriving DecidableEq
def Qs.len:Qs→Nat
 | .nil=>0
 | .cons _ _ _ _ _ rest=>rest.len+1
def Qn.push (q:Qn) (rest:Qs):Qs:= .cons q.k q.i q.r q.t q.ps rest
def two (op:Nat) (a b:Qn):Qn:=⟨op,[],[],[],a.push (b.push .nil)⟩
def zero:Qn:=⟨0,[],[],[],.nil⟩
inductive Res where
  |ok (q:Qn) (ts:List Tok)
  |err (pos e:Nat)
deriving DecidableEq
def lp:Tok→Bool:=fun t=>t.kind == 1 && t.text == [40]
def rp:Tok→Bool:=fun t=>t.kind == 1 && t.text == [41]
def isTerm (t:Tok):Bool:=(t.kind == 2 || t.kind == 3) && operator t == 0
mutual
def clause:Nat→Nat→List Tok→Res
 |0,_,_=> .err 0 0
 |_+1,_,[]=> .err 0 0
 |f+1,deep,t::r=>
  if lp t then
   if deep+1>50 then .err t.pos 41
   else match query f (deep+1) r with
    | .err p e=> .err p e
    | .ok _ []=> .err 0 0
    | .ok q (t2::r2)=>if rp t2 then .ok q r2 else .err t2.pos 40
  else if !isTerm t then .err t.pos 40
  else match t.kind == 3,r with
   |true,t2::r2=>
    if relation t2 then
     if !indexes.contains (small t.text)then .err t.pos 42
     else match r2 with
      |[]=> .err 0 0
      |t3::r3=>if isTerm t3 then .ok ⟨1,small t.text,small t2.text,t3.text,.nil⟩ r3 else .err t3.pos 40
    else .ok ⟨1,[97,110,121],[61],t.text,.nil⟩ r
   |_,_=> .ok ⟨1,[97,110,121],[61],t.text,.nil⟩ r
def query:Nat→Nat→List Tok→Res
 |0,_,_=> .err 0 0
 |f+1,deep,ts=>
  match clause f deep ts with
  | .err p e=> .err p e
  | .ok q ts2=>more f deep q ts2
def more:Nat→Nat→Qn→List Tok→Res
 |0,_,_,_=> .err 0 0
 |_+1,_,_,[]=> .err 0 0
 |f+1,deep,q,t::r=>
  if operator t=0 then .ok q (t::r)
  else match clause f deep r with
   | .err p e=> .err p e
   | .ok q2 ts2=>more f deep (two (operator t) q q2) ts2
end
def parse (s:List UInt8):Qn×Nat×Nat:=
 match query (4*s.length+9) 0 (tokens s)with
 | .ok q (t::_)=>if t.kind=0 then(q,0,0)else(zero,t.pos,40)
 | .ok _ []=>(zero,0,40)
 | .err p e=>(zero,p,e)
end Cq
namespace Cq
def Qs.kinds:Qs→List Int
 | .nil=>[]
 | .cons k _ _ _ _ rest=>k::rest.kinds
def a5j (k:Int) (i r t:List UInt8) (n:Nat) (ps:Bool):Bool:=
 if k=1 then indexes.contains i && relations.contains r && n == 0
 else if k<2∨k>4∨i≠[]∨r≠[]∨t≠[]∨n≠2 then false else ps
def Qs.forms:Qs→Bool
 | .nil=>true
 | .cons k i r t ps rest=>a5j k i r t ps.len ps.forms && rest.forms
def form (q:Qn):Bool:=a5j q.k q.i q.r q.t q.ps.len q.ps.forms
def up (k:Int):Nat:=if k=1 then 0 else 1
def a8f (k:Int) (ks:List Int) (ds:List Nat):Nat:=
 if k=1 then 0 else match ks,ds with
  |[_,k1],[a,b]=>max (b+up k1) a
  |_,_=>0
def Qs.depths:Qs→List Nat
 | .nil=>[]
 | .cons k _ _ _ ps rest=>a8f k ps.kinds ps.depths::rest.depths
def depth (q:Qn):Nat:=a8f q.k q.ps.kinds q.ps.depths
def right (q:Qn):Bool:=form q && decide (depth q≤50)
def Qs.size:Qs→Nat
 | .nil=>0
 | .cons _ _ _ _ ps rest=>ps.size+rest.size+1
def Qn.size (q:Qn):Nat:=q.ps.size
def Qn.Two (q a b:Qn):Prop:=q.ps=a.push (b.push .nil)
theorem Qs.b8f:∀{ps:Qs},ps.len=2→∃a b:Qn,ps=a.push (b.push .nil)
 | .nil,h=>by simp[Qs.len]at h
 | .cons _ _ _ _ _ .nil,h=>by simp[Qs.len]at h
 | .cons k i r t ps (.cons k' i' r' t' ps' .nil),_=>⟨⟨k,i,r,t,ps⟩,⟨k',i',r',t',ps'⟩,rfl⟩
 | .cons _ _ _ _ _ (.cons _ _ _ _ _ (.cons _ _ _ _ _ _)),h=>by simp[Qs.len]at h
theorem Qn.Two.size{q a b:Qn}(h:q.Two a b):a.size<q.size∧b.size<q.size:=by
 simp only[Qn.size,show q.ps=_ from h,Qn.push,Qs.size];omega
theorem Qn.Two.len{q a b:Qn}(h:q.Two a b):q.ps.len=2:=by rw[show q.ps=_ from h];rfl
theorem a4d{q:Qn}(h:q.k=1):form q=(indexes.contains q.i && relations.contains q.r && q.ps.len == 0):=by simp[form,a5j,h]
theorem a6B{q:Qn}(h:q.k≠1)(h2:q.k<2∨q.k>4∨q.i≠[]∨q.r≠[]∨q.t≠[]∨q.ps.len≠2):form q=false:=by unfold form a5j;rw[zF h,zG h2]
theorem a6n{q a b:Qn}(h:q.k≠1)(h2:¬(q.k<2∨q.k>4∨q.i≠[]∨q.r≠[]∨q.t≠[]∨q.ps.len≠2))(A:q.Two a b):form q=(form a && form b):=by
 unfold form a5j;rw[zF h,zF h2,show q.ps=_ from A];simp[Qn.push,Qs.forms,a5j]
theorem a1T{q:Qn}(h:form q=true):q.k=1∨(q.k≠1∧2≤q.k∧q.k≤4∧∃a b,q.Two a b∧form a=true∧form b=true):=by
 by_cases h1:q.k=1
 ·exact .inl h1
 by_cases h2:q.k<2∨q.k>4∨q.i≠[]∨q.r≠[]∨q.t≠[]∨q.ps.len≠2
 ·rw[a6B h1 h2]at h;cases h
 obtain⟨a,b,A⟩:=Qs.b8f (ps:=q.ps) oM;rw[a6n h1 h2 A,bW]at h;exact .inr ⟨h1,oM,oM,a,b,A,h.1,h.2⟩
theorem a3i{q:Qn}(h:q.k=1):depth q=0:=by simp[depth,a8f,h]
theorem a4G{q a b:Qn}(h:q.k≠1)(A:q.Two a b):depth q=max (depth b+up b.k) (depth a):=by
 unfold depth;rw[show q.ps=_ from A];simp[Qn.push,Qs.depths,Qs.kinds,a8f,h]
def Qs.wide:Qs→Nat
 | .nil=>0
 | .cons _ i r t ps rest=>i.length+r.length+t.length+ps.wide+rest.wide
def Qn.wide (q:Qn):Nat:=q.i.length+q.r.length+q.t.length+q.ps.wide
theorem Qn.Two.wide{q a b:Qn}(h:q.Two a b):a.wide≤q.wide∧b.wide≤q.wide:=by
 unfold Qn.wide;rw[show q.ps=_ from h];simp only[Qn.push,Qs.wide];omega
def deep (q:Qn):Int:=if form q then(depth q:Int)else -1
theorem c0B{q:Qn}(h:q.k=1):deep q=if (indexes.contains q.i && relations.contains q.r && q.ps.len == 0)then 0 else -1:=by
 unfold deep;rw[a4d h,a3i h];rfl
theorem c1Y{q:Qn}(h:q.k≠1)(h2:q.k<2∨q.k>4∨q.i++q.r++q.t≠[]∨q.ps.len≠2):deep q= -1:=by
 unfold deep;rw[a6B h (by
  rcases h2 with h2|h2|h2|h2
  ·exact .inl h2
  ·exact .inr (.inl h2)
  ·by_cases hi:q.i=[]
   ·by_cases hr:q.r=[]
    ·exact .inr (.inr (.inr (.inr (.inl fun A=>h2 (by simp[hi,hr,A])))))
    exact .inr (.inr (.inr (.inl hr)))
   exact .inr (.inr (.inl hi))
  exact .inr (.inr (.inr (.inr (.inr h2)))))]
 rfl
theorem c1q{q a b:Qn}(h:q.k≠1)(h2:¬(q.k<2∨q.k>4∨q.i≠[]∨q.r≠[]∨q.t≠[]∨q.ps.len≠2))(A:q.Two a b):deep q=if min (deep a) (deep b)<0 then -1 else max (deep a) (deep b+up b.k):=by
 unfold deep;rw[a6n h h2 A,a4G h A];cases form a<;>cases form b<;>simp<;>omega
theorem b5J(q:Qn): -1≤deep q:=by unfold deep;split<;>omega
theorem a3y:∀(n:Nat) (q:Qn),q.size<n→form q=true→depth q≤q.size
 |0,q,h,_=>oM
 |n+1,q,h,hf=>by
  rcases a1T hf with G|⟨G,_,_,a,b,A,O,Z⟩
  ·rw[a3i G];exact bC _
  have h1:=A.size;have a0:=a3y n a oM O;have a1:=a3y n b oM Z;have hu:up b.k≤1:=by unfold up;split<;>omega
  rw[a4G G A];omega
theorem b5u(q:Qn):deep q≤q.size:=by
 unfold deep
 split
 ·rename_i h;have:=a3y _ q (Nat.lt_succ_self _) h;omega
 omega
theorem a8n(q:Qn):(decide (deep q≥0) && decide (deep q≤50))=right q:=by
 unfold deep right;cases form q<;>simp;omega
end Cq
namespace Go.Sx
open Cq
def QC (I:Heap):Qs→List Value→Prop
 | .nil,_=>True
 | .cons k i r t ps rest,cs=>∃p c tl,cs=i64 k::str i::str r::str t:: .slice p ps.len c::tl∧
  (ps= .nil∨∃(b off:Nat) (cs':List Value) (T:TypeId) (fr:Nat×Nat),p=some ⟨b,off,none⟩∧I b=some (.cells cs'.toArray T fr)∧QC I ps (cs'.drop off))∧QC I rest tl
theorem QC.mono{I A:Heap}(h:Le I A):∀{q:Qs} {cs:List Value},QC I q cs→QC A q cs
 | .nil,_,_=>trivial
 | .cons _ _ _ _ _ps _rest,_,⟨p,c,tl,h1,h2,h3⟩=>⟨p,c,tl,h1,h2.imp id fun⟨b,off,cs',T,fr,G,O,Z⟩=>⟨b,off,cs',T,fr,G,h _ _ O,QC.mono h Z⟩,QC.mono h h3⟩
def PS (I:Heap) (ps:Qs) (p:Option Addr):Prop:=ps= .nil∨∃(b off:Nat) (cs':List Value) (T:TypeId) (fr:Nat×Nat),p=some ⟨b,off,none⟩∧I b=some (.cells cs'.toArray T fr)∧QC I ps (cs'.drop off)
theorem PS.mono{I G:Heap}{ps:Qs}{p:Option Addr}(h:PS I ps p)(A:Le I G):PS G ps p:=
 h.imp id fun⟨b,off,cs',T,fr,O,Z,g3⟩=>⟨b,off,cs',T,fr,O,A _ _ Z,QC.mono A g3⟩
abbrev EX (q:Qn) (p:Option Addr) (c:Nat):List Value:=[i64 q.k,str q.i,str q.r,str q.t,.slice p q.ps.len c]
def QV (I:Heap) (q:Qn) (v:Value):Prop:=∃p c,v= .agg (EX q p c).toArray∧PS I q.ps p
theorem PS.two{I:Heap}{a b:Qn}{A G:Option Addr}{Z cb:Nat}{O T:Nat}(ha:PS I a.ps A)(hb:PS I b.ps G)(h:I O=some (yY T (EX a A Z++(EX b G cb++[])))):PS I (a.push (b.push .nil)) (some ⟨O,0,none⟩):=
 .inr ⟨O,0,_,T,(0,0),rfl,h,A,Z,_,rfl,ha,G,cb,_,rfl,hb,trivial⟩
theorem PS.b7Y{I:Heap}{q a b:Qn}{p:Option Addr}(h:PS I q.ps p)(ht:q.Two a b):
 ∃G off cs' T fr O ca Z cb,p=some ⟨G,off,none⟩∧I G=some (.cells (List.toArray cs') T fr)∧(cs'.drop off).take 5=EX a O ca∧(cs'.drop (off+5)).take 5=EX b Z cb∧cs'[off+5]?=some (i64 b.k)∧PS I a.ps O∧PS I b.ps Z:=by
 rw[show q.ps=_ from ht]at h;rcases h with h|⟨G,off,cs',T,fr,rfl,hI,O,ca,tl,A,a0,Z,cb,a3,a1,a2,_⟩
 ·cases h
 subst a1;refine⟨G,off,cs',T,fr,O,ca,Z,cb,rfl,hI,?_,?_,?_,a0,a2⟩
 ·rw[A];rfl
 ·rw[←fZ,A];rfl
 rw[←dP,A];rfl
end Go.Sx
section
namespace Go.Sx
end Go.Sx
namespace Cq
theorem a2T(r:List UInt8):quoted (34::r)=some ([],1):=by rw[quoted.eq_def];simp
theorem a2u(c:UInt8)(r:List UInt8)(h:c≠34)(A:c≠92):quoted (c::r)=(quoted r).map fun p=>(c::p.1,p.2+1):=by
 rw[quoted.eq_def];simp[h,A]
theorem a2W(d:UInt8)(r:List UInt8):quoted (92::d::r)=(quoted r).map fun p=>(d::p.1,p.2+2):=by
 rw[quoted.eq_def];simp
theorem a2q:quoted [92]=none:=by rw[quoted.eq_def];simp
theorem YX:quoted []=none:=by rw[quoted.eq_def]
def OE (s:List UInt8) (i:Nat):List UInt8×Nat:=
 match quoted (s.drop (i+1))with
 |some (t,n)=>(t,i+1+n)
 |none=>([],0)
structure SA (s:List UInt8) (i k:Nat) (out:List UInt8):Prop where
  le:k≤s.length+1
  lo:i+1≤k
  ol:out.length≤k
  eq:(quoted (s.drop k)).map (fun p=>(out++p.1,p.2+(k-(i+1))))=quoted (s.drop (i+1))
theorem SA.start(s:List UInt8)(i:Nat)(h:i<s.length):SA s i (i+1) []:=by
 refine⟨oM,oM,sI,?_⟩;cases quoted (s.drop (i+1))<;>simp
theorem LQ{s:List UInt8}{k:Nat}{c:UInt8}(h:s[k]?=some c):s.drop k=c::s.drop (k+1):=by
 obtain⟨A,hg⟩:=aI.1 h;rw[List.drop_eq_getElem_cons A,hg]
theorem SA.byte{s:List UInt8}{i k:Nat}{out:List UInt8}(h:SA s i k out)(Z:k<s.length)(c:UInt8)(O:s[k]?=some c)(A:c≠34)(G:c≠92):SA s i (k+1) (out++[c]):=by
 have a0:=h.lo;refine⟨oM,oM,by have:=h.ol;simp;omega,?_⟩;rw[←h.eq,LQ O,a2u c _ A G];cases quoted (s.drop (k+1))with
 |none=>rfl
 |some p=>simp;omega
theorem SA.esc{s:List UInt8}{i k:Nat}{out:List UInt8}(h:SA s i k out)(G:k<s.length)(c:UInt8)(O:s[k]?=some c)(A:c=92)(d:UInt8)(hd:s[k+1]?=some d):SA s i (k+2) (out++[d]):=by
 have Z:=h.lo;obtain⟨_,_⟩:=aI.1 hd;refine⟨oM,oM,by have:=h.ol;simp;omega,?_⟩;rw[←h.eq,LQ O,LQ hd,A,a2W];cases quoted (s.drop (k+1+1))with
 |none=>rfl
 |some p=>simp;omega
theorem SA.fin{s:List UInt8}{i k:Nat}{out:List UInt8}(h:SA s i k out)(Z:k<s.length)(c:UInt8)(G:s[k]?=some c)(A:c=92)(O:s.length≤k+1):SA s i (k+2) out:=by
 have a0:=h.lo;refine⟨oM,oM,by have:=h.ol;omega,?_⟩;rw[←h.eq,LQ G,A,aK O,aK oM,a2q,YX];rfl
theorem SA.quote{s:List UInt8}{i k:Nat}{out:List UInt8}(h:SA s i k out)(c:UInt8)(G:s[k]?=some c)(A:c=34):OE s i=(out,k+1):=by
 have O:=h.lo;unfold OE;rw[←h.eq,LQ G,A,a2T];simp;omega
theorem SA.past{s:List UInt8}{i k:Nat}{out:List UInt8}(h:SA s i k out)(A:s.length≤k):OE s i=([],0):=by
 unfold OE;rw[←h.eq,aK A,YX];rfl
end Cq
namespace Go.Sx
abbrev a6M (t:Cq.Tok):Value:= .agg #[i64 t.kind,str t.text,i64 t.pos]
end Go.Sx
namespace Cq
structure a0b (s:List UInt8) (k:Nat) (l:List UInt8):Prop where
  le:k≤s.length
  eq:l=(s.take k).map low++s.drop k
theorem a0b.len{s:List UInt8}{k:Nat}{l:List UInt8}(h:a0b s k l):l.length=s.length:=by
 have:=h.le;rw[h.eq];simp;omega
theorem a0b.get{s:List UInt8}{k:Nat}{l:List UInt8}{c:UInt8}(h:a0b s k l)(A:s[k]?=some c):l[k]?=some c:=by
 have:=h.le;rw[h.eq,dQ (by simp;omega)];simp[dW h.le,A]
theorem a0b.next{s:List UInt8}{k:Nat}{l:List UInt8}{c:UInt8}(h:a0b s k l)(A:s[k]?=some c):a0b s (k+1) (l.set k (low c)):=by
 obtain⟨G,hg⟩:=aI.1 A;refine⟨oM,?_⟩;rw[h.eq,dY _ _ (by simp;omega),dD G,hg,LQ A];simp[dW h.le]
theorem a0b.same{s:List UInt8}{k:Nat}{l:List UInt8}{c:UInt8}(h:a0b s k l)(A:s[k]?=some c)(G:low c=c):a0b s (k+1) l:=by
 have:=h.next A;rw[G]at this
 rwa [show l.set k c=l from by
  apply List.ext_getElem?
  intro j;rw[List.getElem?_set]
  split
  ·rename_i O;subst O
   have:=h.get A
   split
   ·exact this.symm
   rename_i Z;simp[List.getElem?_eq_none (Nat.not_lt.1 Z)]at this
  rfl]at this
theorem a0b.done{s:List UInt8}{k:Nat}{l:List UInt8}(h:a0b s k l)(A:s.length≤k):l=small s:=by
 rw[h.eq,aC A,aK A];simp[small]
end Cq
namespace Cq
theorem YR:∀(n:Nat) (r:List UInt8) (p:List UInt8×Nat),r.length≤n→quoted r=some p→1≤p.2∧p.2≤r.length∧p.1.length≤r.length
 |_,[],p,_,h=>by rw[YX]at h;cases h
 |0,_::_,_,hn,_=>by simp at hn
 |n+1,c::r,p,hn,h=>by
  by_cases h34:c=34
  ·subst h34;rw[a2T]at h;cases h;simp
  by_cases h92:c=92
  ·subst h92;cases r with
   |nil=>rw[a2q]at h;cases h
   |cons d A=>
    rw[a2W]at h;cases hq:quoted A with
    |none=>rw[hq]at h;cases h
    |some q=>
     rw[hq]at h;cases h;have:=YR n A q (by simp at hn;omega) hq;simp;omega
  rw[a2u c r h34 h92]at h;cases hq:quoted r with
  |none=>rw[hq]at h;cases h
  |some q=>
   rw[hq]at h;cases h;have:=YR n r q (by simp at hn;omega) hq;simp;omega
theorem c2Z(rest:List UInt8)(j:Nat)(h:over (head rest j).1=false):1≤(head rest j).2∧(head rest j).2≤rest.length:=by
 cases rest with
 |nil=>simp[head,over]at h
 |cons c r=>
  unfold head at*
  by_cases h34:c=34
  ·simp only[h34,if_true]at *;cases hq:quoted r with
   |none=>rw[hq]at h;simp[over]at h
   |some q=>
    have:=YR _ r q (fD _) hq;simp;omega
  simp only[h34,if_false]at*
  split
  ·rename_i h1
   have:r≠[]:=fun A=>by simp[A]at h1
   have:=eG.2 this;simp;omega
  split
  ·rename_i h1
   have:r≠[]:=fun A=>by simp[A]at h1
   have:=eG.2 this;simp;omega
  split
  ·rename_i h1 h2 h3
   simp[h3,over]at h
   simp_all
  split
  ·rename_i G
   constructor
   ·simp[G]
   exact(dX _).length_le
  simp
theorem a9f(s:List UInt8)(i:Nat)(h:i≤s.length):i≤skip s i∧skip s i≤s.length:=by
 unfold skip;have:=(dX (p:=blank) (l:=s.drop i)).length_le;simp at this;omega
theorem ZY(s:List UInt8)(i:Nat)(A:i≤s.length)(h:over (lex s i).1=false):i<(lex s i).2∧(lex s i).2≤s.length:=by
 have h1:=a9f s i A;have h2:=c2Z (s.drop (skip s i)) (skip s i) h;simp only[lex]at *;simp at h2;omega
theorem a9I(s:List UInt8):∀(n f A i:Nat),i≤s.length→s.length-i≤n→s.length-i<f→s.length-i<A→toks s f i=toks s A i
 |n,0,_,i,_,_,h,_=>oM
 |n,_,0,i,_,_,_,h=>oM
 |n,f+1,A+1,i,hi,hn,h1,h2=>by
  simp only[toks];cases ho:over (lex s i).1 with
  |true=>rfl
  |false=>
   have G:=ZY s i hi ho;cases n with
   |zero=>omega
   |succ n=>
    simp only[eX,if_false];rw[a9I s n f A _ G.2 oM oM oM]
def a3g (s:List UInt8) (i:Nat):List Tok:=toks s (s.length+1-i) i
theorem XF(s:List UInt8)(i:Nat)(h:i≤s.length):a3g s i=if over (lex s i).1 then[(lex s i).1]else(lex s i).1::a3g s (lex s i).2:=by
 unfold a3g;obtain⟨f,hf⟩:∃f,s.length+1-i=f+1:=⟨s.length-i,oM⟩;rw[hf,toks];cases ho:over (lex s i).1 with
 |true=>rfl
 |false=>
  have A:=ZY s i h ho;simp only[eX,if_false];rw[a9I s s.length f (s.length+1-(lex s i).2) _ A.2 oM oM oM]
theorem b6p{s:List UInt8}{k:Nat}{c:UInt8}(h:s[k]?=some c)(A:blank c=true):skip s k=skip s (k+1):=by
 unfold skip;rw[LQ h,cO,zG A];simp;omega
theorem c2W{s:List UInt8}{k:Nat}{c:UInt8}(h:s[k]?=some c)(A:blank c=false):skip s k=k:=by
 unfold skip;rw[LQ h,cO,A];simp
theorem a4q{s:List UInt8}{k:Nat}{c:UInt8}(h:s[k]?=some c)(A:blank c=false):lex s k=((head (c::s.drop (k+1)) k).1,k+(head (c::s.drop (k+1)) k).2):=by
 unfold lex;rw[c2W h A,LQ h]
theorem c4j(s:List UInt8):lex s s.length=(⟨0,[],s.length⟩,s.length):=by
 unfold lex;have:skip s s.length=s.length:=by unfold skip;simp
 rw[this];simp[head]
structure a0G (s:List UInt8) (k:Nat) (outs:List Tok):Prop where
  le:k≤s.length
  eq:tokens s=outs++a3g s k
  num:outs.length≤k
theorem a0G.start(s:List UInt8):a0G s 0 []:=⟨bC _,by simp[tokens,a3g],sI⟩
theorem a0G.blank{s:List UInt8}{k:Nat}{A:List Tok}{c:UInt8}(h:a0G s k A)(O:s[k]?=some c)(Z:Cq.blank c=true):a0G s (k+1) A:=by
 obtain⟨_,_⟩:=aI.1 O;have G:lex s k=lex s (k+1):=by unfold lex;rw[b6p O Z]
 refine⟨oM,?_,by have:=h.num;omega⟩;rw[h.eq,XF s k h.le,XF s (k+1) oM,G]
theorem a0G.push{s:List UInt8}{k O:Nat}{A:List Tok}{t:Tok}(h:a0G s k A)(G:lex s k=(t,O))(Z:over t=false):a0G s O (A++[t]):=by
 have h1:=ZY s k h.le (by rw[G];exact Z);rw[G]at h1;refine⟨h1.2,?_,by have:=h.num;simp;simp at h1;omega⟩;rw[h.eq,XF s k h.le,G];simp[Z]
theorem a0G.last{s:List UInt8}{k G:Nat}{A:List Tok}{t:Tok}(h:a0G s k A)(O:lex s k=(t,G))(Z:over t=true):tokens s=A++[t]:=by
 rw[h.eq,XF s k h.le,O];simp[Z]
structure LJ (s:List UInt8) (k n:Nat):Prop where
  lo:k≤n
  le:n≤s.length
  all:(s.drop k).takeWhile Cq.plain=(s.take n).drop k++(s.drop n).takeWhile Cq.plain
theorem LJ.start{s}{k:Nat}(h:k≤s.length):LJ s k k:=⟨fD _,h,sI⟩
theorem LJ.next{s:List UInt8}{k n:Nat}{c:UInt8}(h:LJ s k n)(A:s[n]?=some c)(O:Cq.plain c=true):LJ s k (n+1):=by
 obtain⟨G,hg⟩:=aI.1 A;have:=h.lo;refine⟨oM,oM,?_⟩;rw[h.all,LQ A,cO,zG O,dD G,hg,List.drop_append_of_le_length (by simp;omega)];simp
theorem LJ.stop{s:List UInt8}{k n:Nat}(h:LJ s k n)(hs:∀c,s[n]?=some c→Cq.plain c=false):(s.drop k).takeWhile Cq.plain=(s.take n).drop k:=by
 rw[h.all];cases hc:s[n]? with
 |none=>
  have:s.drop n=[]:=aK (by simpa using hc);rw[this];simp
 |some c=>rw[LQ hc,cO,hs c hc];simp
theorem b3T{c:UInt8}(h:plain c=true):c≠34∧c≠61∧c≠62:=by
 refine⟨?_,?_,?_⟩<;>(intro e;subst e;revert h;decide)
theorem a9J{s:List UInt8}{k:Nat}{c:UInt8}(h:s[k]?=some c)(G:blank c=false)(A:c=34):
 ((OE s k).2=0→lex s k=(⟨4,[],k⟩,s.length))∧((OE s k).2≠0→lex s k=(⟨2,(OE s k).1,k⟩,(OE s k).2)):=by
 obtain⟨_,_⟩:=aI.1 h;rw[a4q h G];subst A;unfold head OE;simp only[if_true];cases hq:quoted (s.drop (k+1))with
 |none=>simp;omega
 |some p=>simp;omega
theorem b1L{s:List UInt8}{k n:Nat}{c:UInt8}(h:s[k]?=some c)(hb:blank c=false)(Z:plain c=true)(G:LJ s k n)(hs:∀c,s[n]?=some c→Cq.plain c=false):
 lex s k=(⟨3,(s.take n).drop k,k⟩,n):=by
 rw[a4q h hb];have A:=b3T Z;have h1:=G.stop hs;rw[LQ h]at h1;have O:=zD List.length h1;have:=G.lo;have:=G.le;unfold head;simp only[A.1,A.2.1,A.2.2,false_and,if_false,Z,if_true,h1];simp at O ⊢;omega
theorem b5w{s:List UInt8}{k:Nat}{c:UInt8}(h:s[k]?=some c)(A:blank c=false)(G:c=61∨c=62)(h2:s[k+1]?=some 61):lex s k=(⟨1,[c,61],k⟩,k+2):=by
 rw[a4q h A,LQ h2];unfold head;rcases G with rfl|rfl<;>simp
theorem b5N{s:List UInt8}{k:Nat}{c:UInt8}(h:s[k]?=some c)(A:blank c=false)(G:c=62)(h2:s[k+1]?≠some 61):lex s k=(⟨4,[],k⟩,k):=by
 rw[a4q h A];subst G;unfold head;have:(s.drop (k+1)).head?≠some 61:=by rw[dK];exact h2
 rw[dK]at this;simp[this]
theorem c5A{s:List UInt8}{k:Nat}{c:UInt8}(h:s[k]?=some c)(O:blank c=false)(A:c≠34)(Z:plain c=false)(G:c≠62)(h2:¬(c=61∧s[k+1]?=some 61)):lex s k=(⟨1,[c],k⟩,k+1):=by
 rw[a4q h O];unfold head;have:¬(c=61∧(s.drop (k+1)).head?=some 61):=by rw[dK];exact h2
 rw[dK]at this;simp[this,A,G,Z]
def ZO (t:Tok):List Go.Value:=[Go.Sx.i64 t.kind,Go.Sx.str t.text,Go.Sx.i64 t.pos]
end Cq
namespace Go.Sx
def c7e (T:TypeId) (I:Heap) (l:List Cq.Tok) (v:Value):Prop:=∃b c sp,v= .slice (some ⟨b,0,none⟩) l.length c∧I b=some (yY T (l.flatMap Cq.ZO++sp))
open Cq
theorem QN:∀{all:List Tok} {sp:List Value} {k:Nat} {t:Tok} {r:List Tok},all.drop k=t::r→((all.flatMap ZO++sp).drop (k*3)).take 3=ZO t
 |[],_,k,t,r,h=>by simp at h
 |x::l,sp,0,t,r,h=>by
  simp at h;obtain⟨rfl,rfl⟩:=h;simp[ZO]
 |x::l,sp,k+1,t,r,h=>by
  have A:l.drop k=t::r:=by simpa using h
  have:=QN (sp:=sp) A;rw[←this,dR,aT];have:(k+1)*3=(ZO x).length+k*3:=by simp[ZO];omega
  rw[this,b2D]
theorem a6t{all:List Tok}{sp:List Value}{k:Nat}{t:Tok}{r:List Tok}(h:all.drop k=t::r)(j:Nat)(A:j<3):(all.flatMap ZO++sp)[k*3+j]?=(ZO t)[j]?:=by
 have:=QN (sp:=sp) h;rw[←this,List.getElem?_take,zG A,dP]
theorem PE{α:Type}{all:List α}{k:Nat}{t:α}{r:List α}(h:all.drop k=t::r):k<all.length:=by
 rcases Nat.lt_or_ge k all.length with A|A
 ·exact A
 rw[aK A]at h;cases h
theorem JD{α:Type}{all:List α}{k:Nat}{t:α}{r:List α}(h:all.drop k=t::r):all.drop (k+1)=r:=by
 rw[←fZ,h];rfl
end Go.Sx
namespace Cq
def YK (ts:List Tok):Prop:=∃l t,ts=l++[t]∧over t=true
theorem YK.cons{t:Tok}{r:List Tok}(h:YK (t::r))(O:over t=false):YK r:=by
 obtain⟨l,x,A,G⟩:=h;cases l with
 |nil=>simp at A;obtain⟨rfl,rfl⟩:=A;rw[O]at G;cases G
 |cons y l=>simp at A;exact⟨l,x,A.2,G⟩
theorem YK.ne{ts:List Tok}(h:YK ts):∃t r,ts=t::r:=by
 obtain⟨l,x,A,_⟩:=h;cases l with
 |nil=>exact⟨x,[],A⟩
 |cons y l=>exact⟨y,l++[x],A⟩
theorem a2O{t:Tok}(h:lp t=true):over t=false:=by
 simp only[lp,bW,beq_iff_eq]at h;simp[over,h.1]
theorem b5H{t:Tok}(h:rp t=true):over t=false:=by
 simp only[rp,bW,beq_iff_eq]at h;simp[over,h.1]
theorem RI{t:Tok}(h:isTerm t=true):over t=false:=by
 simp only[isTerm,bW,fK,beq_iff_eq]at h;rcases h.1 with h|h<;>simp[over,h]
theorem a5m{t:Tok}(h:operator t≠0):over t=false:=by
 unfold operator at h
 split at h
 ·exact absurd rfl h
 rename_i h1
 have h2:t.kind=3:=by simpa using h1
 simp[over,h2]
theorem a1C{t:Tok}(h:relation t=true):over t=false:=by
 simp only[relation,bW,fK,beq_iff_eq]at h;rcases h.2 with h|h<;>simp[over,h]
def Less (ts:List Tok):Res→Prop
 | .ok _ ts2=>YK ts2∧ts2.length<ts.length
 | .err _ _=>True
theorem less:∀f,(∀deep ts,YK ts→Less ts (clause f deep ts))∧(∀deep ts,YK ts→Less ts (query f deep ts))∧∀deep q ts,YK ts→∀q2 A,more f deep q ts= .ok q2 A→YK A∧A.length≤ts.length
 |0=>⟨fun _ _ _=>by simp[clause,Less],fun _ _ _=>by simp[query,Less],fun _ _ _ _ _ _ h=>by simp[more]at h⟩
 |f+1=>by
  obtain⟨hc,hq,hm⟩:=less f;refine⟨fun deep ts hg=>?_,fun deep ts hg=>?_,fun deep q ts hg q2 A h=>?_⟩
  ·obtain⟨t,r,rfl⟩:=hg.ne;unfold clause
   by_cases h1:lp t=true
   ·have hr:=hg.cons (a2O h1);rw[zG h1]
    split
    ·trivial
    have:=hq (deep+1) r hr;cases hx:query f (deep+1) r with
    |err p e=>trivial
    |ok q A=>
     rw[hx]at this;obtain⟨O,hl⟩:=this;obtain⟨t2,r2,rfl⟩:=O.ne;simp only[]
     split
     ·rename_i h2
      exact⟨O.cons (b5H h2),by simp at hl ⊢;omega⟩
     trivial
   rw[zF h1]
   by_cases h2:isTerm t=true
   ·have hr:=hg.cons (RI h2);rw[zF (by simp[h2])];obtain⟨t2,r2,rfl⟩:=hr.ne;cases h3:t.kind == 3 with
    |false=>exact⟨hr,sI⟩
    |true=>
     simp only[]
     by_cases h4:relation t2=true
     ·rw[zG h4];have Z:=hr.cons (a1C h4)
      split
      ·trivial
      obtain⟨t3,_,rfl⟩:=Z.ne;simp only[]
      by_cases h5:isTerm t3=true
      ·rw[zG h5];exact⟨Z.cons (RI h5),by simp;omega⟩
      rw[zF h5];trivial
     rw[zF h4];exact⟨hr,sI⟩
   rw[zG (by simpa using h2)];trivial
  ·unfold query;have:=hc deep ts hg;cases hx:clause f deep ts with
   |err p e=>trivial
   |ok q A=>
    rw[hx]at this;simp only[];cases hy:more f deep q A with
    |err p e=>trivial
    |ok q3 G=>
     have:=hm deep q A this.1 q3 G hy;have h1:=this
     rename_i h0
     exact⟨h1.1,by have:=h0.2;omega⟩
  obtain⟨t,r,rfl⟩:=hg.ne;unfold more at h
  by_cases h1:operator t=0
  ·rw[zG h1]at h;cases h;exact⟨hg,fD _⟩
  rw[zF h1]at h;have hr:=hg.cons (a5m h1);have:=hc deep r hr;cases hx:clause f deep r with
  |err p e=>rw[hx]at h;cases h
  |ok q3 G=>
   rw[hx]at h this;have h2:=hm deep _ G this.1 q2 A h;have h3:=this.2;exact⟨h2.1,by simp;omega⟩
