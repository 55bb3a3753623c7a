/-
  Own texts on the laws of the seat, joined: the logic, and contracts of functions. Conditions: none.
-/
import Derived.Test.YtdjkhllhakhjbaaGreatDoorNmG
import Derived.Test.YtdjkhllhakhjbaaGreatDoorPG12
set_option linter.all false
set_option maxRecDepth 100000
set_option maxHeartbeats 40000000
open Go.Sx.J renaming z -> aA,op -> aH,eqv -> bZ
open List renaming append_assoc -> aB,take_of_length_le -> aC,length_append -> aN,length_map -> aO,append_nil -> aP,flatMap_append -> aS,take_append_drop -> aV,length_mergeSort -> aZ,singleton_append -> bC,map_append -> bF,set_append_right -> bK,pairwise_append -> bP,mem_map -> cO,length_cons -> cZ,length_eq_zero_iff -> dA,mem_append -> dB,perm_append_comm -> dI,map_map -> dL,mem_singleton -> dN,take_add_one -> dR,pairwise_map -> dS,flatMap_cons -> dU,nil_append -> dY,length_set -> dZ,take_zero -> eH,mem_cons -> fA,map_nil -> fC
open Go.Sx.Cj renaming region -> aF,block -> aU,skip -> bQ,cond -> dD,seq -> dF,exit -> dG,ret -> dH,loop -> dQ
open Go.Sx.EW renaming c -> aG,z -> bY
open Bk renaming BZ -> aI,Ln -> aJ,grp -> aT,allL -> aW,a5Z -> bJ,a1q -> dJ,norm -> dP,VB -> dV,IY -> dW,Idn -> dX,MB -> eF,QK -> eP,step1 -> fB
open Go.Sx.Ej renaming seq -> aK,FM -> aY,JE -> bI,JM -> bM,round -> bT,IB -> bV,keep -> eU
open Go.Proofs.YtdjkhllhakhjbaaGreatDoor.Fv renaming f -> aQ
open Go.Sx.DZ renaming z -> aX,s -> bD
open Option.some renaming inj -> bG
open Go.Sx.Keeps renaming d -> bH,k -> eX,n -> eY
open Nat renaming zero_le -> bU
open Go.Proofs.Tryz renaming prog -> bW
open Ix renaming FZ -> dK
open Go.Sx.GU renaming text -> dM
open Go.Sx.yR renaming PL -> eG
namespace Go.Proofs.YtdjkhllhakhjbaaGreatDoor
open _root_.Go.Proofs.Tryz
open Go Go.Sx
structure Rw (β:Type) where
  l:List β
  a:Option Addr
  c:Nat
abbrev Rw.v {β:Type} (x:Rw β):Value:= .slice x.a x.l.length x.c
abbrev OL {β:Type} (x:Rw β):List Value:=[x.v]
theorem VO{β:Type}(x:Rw β):(OL x).length=1:=rfl
theorem LV{β:Type}{cs sp:List Value}{o}{L:List (Rw β)}(h:cs.drop o=L.flatMap OL++sp){i x}(G:L[i]?=some x):cs[o+i]?=some x.v:=by
 have A:=JB (f:=OL) (n:=1) VO h G 0 Nat.zero_lt_one;rw[Nat.mul_one,Nat.add_zero]at A;exact A
def VI (I:Heap) (x:Rw Fv):Prop:=zN CY I x.l x.v∧∀y∈x.l,ZF I y
theorem VI.mono{I G x}(h:VI I x)(A:Le I G):VI G x:=⟨h.1.mono A,fun y N=>(h.2 y N).mono A⟩
def SL (I:Heap) (L:List (Rw Fv)) (v:Value):Prop:=zN OL I L v∧∀x∈L,VI I x
theorem SL.mono{I G L v}(h:SL I L v)(A:Le I G):SL G L v:=⟨h.1.mono A,fun x N=>(h.2 x N).mono A⟩
def TW (I:Heap) (L:List (Rw aJ)) (v:Value):Prop:=zN OL I L v∧∀x∈L,zN AX I x.l x.v
theorem TW.mono{I G L v}(h:TW I L v)(A:Le I G):TW G L v:=⟨h.1.mono A,fun x N=>(h.2 x N).mono A⟩
def flt {β γ:Type} (φ:β→γ) (L:List (Rw β)):List γ:=L.flatMap fun x=>x.l.map φ
theorem OE{β γ:Type}(φ:β→γ){L:List (Rw β)}{i x}(h:L[i]?=some x):flt φ (L.take (i+1))=flt φ (L.take i)++x.l.map φ:=by
 unfold flt;rw[dR,h,aS];simp
theorem FD{β γ:Type}(φ:β→γ){l:List β}{j x}(h:l[j]?=some x):(l.take (j+1)).map φ=(l.take j).map φ++[φ x]:=by
 rw[dR,h,bF];rfl
theorem a3A{β γ:Type}(φ:β→γ){L i r}(h:L[i]?=some r){j x}(A:r.l[j]?=some x):∃rest,flt φ L=(flt φ (L.take i)++(r.l.take j).map φ++[φ x])++rest:=by
 refine⟨(r.l.drop (j+1)).map φ++flt φ (L.drop (i+1)),?_⟩;have G:flt φ L=flt φ (L.take (i+1))++flt φ (L.drop (i+1)):=by
  unfold flt;rw[←aS,aV]
 rw[G,OE φ h];have N:r.l.map φ=(r.l.take j).map φ++[φ x]++(r.l.drop (j+1)).map φ:=by
  rw[←FD φ A,←bF,aV]
 rw[N];simp only[aB]
theorem YF{β γ:Type}(φ:β→γ){L}{i:Nat}{r}(h:L[i]?=some r):r.l.length≤(flt φ L).length:=by
 have A:flt φ L=flt φ (L.take (i+1))++flt φ (L.drop (i+1)):=by
  unfold flt;rw[←aS,aV]
 rw[A,OE φ h,aN,aN,aO];omega
theorem b5F{α β:Type}[Inhabited β]{l:List α}{R:α→β→Prop}(h:∀p∈l,∃y,R p y):∃φ:α→β,∀p∈l,R p (φ p):=by
 classical
 refine⟨fun p=>if A:p∈l then(h p A).choose else default,fun p A=>?_⟩;simp only[A,dif_pos];exact(h p A).choose_spec
def YZ (J:Heap) (l:ML dX) (c:Nat) (xs:List Bk.Fd):Prop:=MS l c∧∀id,(aT id xs=none→BF l id=none)∧∀g,aT id xs=some g→∃y:Fv,y.f=g∧BF l id=some (.agg (CY y).toArray)∧ZF J y
theorem YZ.mono{I A l c xs}(h:YZ I l c xs)(G:Le I A):YZ A l c xs:=
 ⟨h.1,fun id=>⟨(h.2 id).1,fun g hg=>let ⟨y,N,O,Q⟩:=(h.2 id).2 g hg;⟨y,N,O,Q.mono G⟩⟩⟩
theorem YZ.nil I:YZ I [] 0 []:=⟨MS.nil,fun id=>⟨fun _=>rfl,fun g hg=>by cases hg⟩⟩
theorem YZ.put{J l c xs}(h:YZ J l c xs){x y}(A:aT (aI x) (xs++[x])=some y.f)(hs:ZF J y):YZ J (BN l (aI x) (.agg (CY y).toArray) c) (EU l (aI x) c) (xs++[x]):=by
 refine⟨h.1.set _ _,fun id=>?_⟩;rw[LM]
 by_cases hid:id=aI x
 ·subst hid;rw[zG sI,A];exact⟨fun g=>(by cases g),fun g hg=>(by cases hg;exact⟨y,rfl,rfl,hs⟩)⟩
 have hg:aT id (xs++[x])=aT id xs:=by rw[dV];unfold fB;rw[zF (Ne.symm hid)]
 rw[zF (by simpa using hid),hg];exact h.2 id
theorem b7t{xs x}(h:aT (aI x) xs=none):aT (aI x) (xs++[x])=some x:=by rw[dV,h];unfold fB;rw[zG rfl]
theorem c1y{xs x g}(h:aT (aI x) xs=some g):aT (aI x) (xs++[x])=some (Bk.a0Y g x):=by rw[dV,h];unfold fB;rw[zG rfl]
theorem YZ.at{J l c xs}(h:YZ J l c xs):∃φ:dX×Value×Nat→Fv,∀p∈l,p.2.1= .agg (CY (φ p)).toArray∧aT p.1 xs=some (φ p).f:=by
 refine b5F (R:=fun(p:dX×Value×Nat) (y:Fv)=>p.2.1=Value.agg (CY y).toArray∧aT p.1 xs=some y.f) fun p G=>?_;obtain⟨id,v,n⟩:=p;have A:BF l id=some v:=(UY h.1.1).2 ⟨n,G⟩;cases hg:aT id xs with
 |none=>rw[(h.2 id).1 hg]at A;cases A
 |some g=>
  obtain⟨y,N,O,-⟩:=(h.2 id).2 g hg;rw[O]at A;exact⟨y,(bG A).symm,by rw[N]⟩
theorem YZ.len{J l c xs}(h:YZ J l c xs):l.length≤xs.length:=by
 have G:=YK (l:=l.map (·.1)) (m:=xs.map aI) h.1.1 fun id A=>by
  cases hg:aT id xs with
  |none=>exact absurd A (JC.1 ((h.2 id).1 hg))
  |some g=>exact Bk.b3x xs hg
 rwa [aO,aO]at G
theorem YZ.sorted{J l c xs}(h:YZ J l c xs){φ}(G:∀p∈l,p.2.1= .agg (CY (φ p)).toArray∧aT p.1 xs=some (φ p).f){ls:List Fv}(O:ls.Perm (l.map φ))(ho:ls.Pairwise fun p q=>Bk.LP q.f p.f=false):
 Bk.IL xs ((ls.map aQ).map dP)∧∀y∈ls,ZF J y∧y.f.p.length≤eF xs:=by
 have a0:∀y∈ls,∃p∈l,φ p=y:=fun y Q=>cO.1 (O.mem_iff.1 Q);refine⟨Bk.c2X ?_ (fun f=>?_) ?_,fun y Q=>?_⟩
 ·have Z:(l.map φ).map (fun y=>aI y.f)=l.map (·.1):=by
   rw[dL];exact List.map_congr_left fun p O=>Bk.a1Q (G p O).2
  rw[dL];have A:=(O.map fun y:Fv=>aI y.f).nodup_iff;rw[Z]at A;exact A.2 h.1.1
 ·constructor
  ·intro hf;obtain⟨y,Q,rfl⟩:=cO.1 hf;obtain⟨p,N,rfl⟩:=a0 y Q;exact⟨p.1,(G p N).2⟩
  rintro⟨id,hg⟩;obtain⟨y,Z,A,-⟩:=(h.2 id).2 f hg;obtain⟨n,hn⟩:=(UY h.1.1).1 A;have h3:=(G _ hn).2;rw[hg]at h3;rw[cO];exact⟨φ (id,_,n),O.mem_iff.2 (List.mem_map_of_mem hn),(bG h3).symm⟩
 ·rw[dS];exact ho
 obtain⟨p,N,rfl⟩:=a0 y Q;obtain⟨Z,A⟩:=G p N;obtain⟨z,h3,h4,h5⟩:=(h.2 p.1).2 _ A;have h6:BF l p.1=some p.2.1:=(UY h.1.1).2 ⟨p.2.2,N⟩;rw[h4,Z]at h6;have h7:(CY z).toArray=(CY (φ p)).toArray:=Value.agg.inj (bG h6);have h8:CY z=CY (φ p):=by have:=zD Array.toList h7;simpa using this
 have h9:z.v=(φ p).v:=by
  have:=zD (fun l:List Value=>l[3]?) h8;exact bG this
 refine⟨?_,Bk.a4B xs A⟩;show a1F J (φ p).f.p (φ p).v;rw[←h3,←h9];exact h5
def JML (l:ML (List UInt8)) (c:Nat) (xs:List aJ):Prop:=MS l c∧∀k,BF l k=(bJ k xs).map fun n=> .agg (AX (k,n)).toArray
theorem JML.nil:JML [] 0 []:=⟨MS.nil,fun _=>rfl⟩
theorem JML.put{l c xs}(h:JML l c xs){x n}(hn:dJ x.1 (bJ x.1 xs) x=some n):JML (BN l x.1 (.agg (AX (x.1,n)).toArray) c) (EU l x.1 c) (xs++[x]):=by
 refine⟨h.1.set _ _,fun k=>?_⟩;rw[LM,Bk.a4p]
 by_cases hk:k=x.1
 ·subst hk;rw[zG sI,hn];rfl
 rw[zF (by simpa using hk),h.2 k];unfold dJ;rw[zF (Ne.symm hk)]
theorem c0w{k} xs:∀{n:Int},bJ k xs=some n→k∈xs.map (·.1):=by
 refine Bk.KW (P:=fun xs=>∀{n:Int},bJ k xs=some n→k∈xs.map (·.1)) (fun {n} h=>by cases h) (fun xs x A=>?_) xs;intro n h;rw[Bk.a4p]at h;rw[bF,dB];unfold dJ at h
 split at h
 ·rename_i G;exact .inr (by simp[G])
 exact .inl (A h)
theorem JML.len{l c xs}(h:JML l c xs):l.length≤xs.length:=by
 have A:=YK (l:=l.map (·.1)) (m:=xs.map (·.1)) h.1.1 fun k G=>by
  cases hg:bJ k xs with
  |none=>exact absurd G (JC.1 (by rw[h.2 k,hg];rfl))
  |some n=>exact c0w xs hg
 rwa [aO,aO]at A
def a2v (xs:List aJ) (p:List UInt8×Value×Nat):aJ:=(p.1,(bJ p.1 xs).getD 0)
theorem JML.at{l c xs}(h:JML l c xs):∀p∈l,p.2.1= .agg (AX (a2v xs p)).toArray∧bJ p.1 xs=some (a2v xs p).2:=fun p G=>by
 obtain⟨k,v,n⟩:=p;have A:BF l k=some v:=(UY h.1.1).2 ⟨n,G⟩;rw[h.2 k]at A;cases hg:bJ k xs with
 |none=>rw[hg]at A;cases A
 |some m=>
  rw[hg]at A;have e:a2v xs (k,v,n)=(k,m):=by unfold a2v;rw[hg];rfl
  rw[e];exact⟨(bG A).symm,rfl⟩
theorem JML.sorted{l c xs}(h:JML l c xs){ls}(A:ls.Perm (l.map (a2v xs)))(Q:ls.Pairwise fun p q=>¬q.1<p.1):ls=aW xs:=by
 refine Bk.IsS.uniq (xs:=xs) ⟨?_,fun x=>?_⟩ (Bk.b9j xs)
 ·have Z:(l.map (a2v xs)).map (·.1)=l.map (·.1):=by rw[dL];rfl
  have G:=(A.map fun y:aJ=>y.1).nodup_iff;rw[Z]at G;have N:=List.nodup_iff_pairwise_ne.1 (G.2 h.1.1);rw[dS]at N;exact(List.pairwise_and_iff.2 ⟨Q,N⟩).imp fun {a b} ⟨g1,g2⟩=>Bk.a3n g1 (Ne.symm g2)
 rw[A.mem_iff,cO];constructor
 ·rintro⟨p,O,rfl⟩;exact(h.at p O).2
 intro hs;have hm:BF l x.1=some (.agg (AX (x.1,x.2)).toArray):=by rw[h.2,hs];rfl
 obtain⟨n,hn⟩:=(UY h.1.1).1 hm;exact⟨_,hn,by unfold a2v;rw[hs];rfl⟩
def FvN (I J:Heap) (z:Fv):Prop:=NJ (fun b=>I b=none) 3 FI J z.f.p z.v∧b6e z.v
theorem FvN.mono{I J A z}(h:FvN I J z)(G:Le J A):FvN I A z:=⟨h.1.mono G,h.2⟩
theorem FvN.VU{I J z}(h:FvN I J z):ZF J z:=⟨h.1.row,h.2⟩
def MgS (I J:Heap) (r:List Fv) (w:Value):Prop:=NJ (fun b=>I b=none) 37 CY J r w∧∀z∈r,FvN I J z
theorem MgS.mono{I J G r w}(h:MgS I J r w)(A:Le J G):MgS I G r w:=⟨h.1.mono A,fun z hz=>(h.2 z hz).mono A⟩
theorem cell_lt{α:Type}{f:α→List Value}{n:Nat}(hf:∀x,(f x).length=n){sp:List Value}{l:List α}{k:Nat}{x:α}(h:l[k]?=some x){j:Nat}(A:j<n):k*n+j<(l.flatMap f++sp).length:=by
 have G:=RV hf (sp:=sp) h j A;have N:(f x)[j]?=some ((f x)[j]'(by rw[hf];exact A)):=DC _;exact(List.getElem?_eq_some_iff.1 (G.trans N)).1
theorem b9D{dn ls:List Fv}{k x h}(hd:dn.length=k)(hg:ls[k]?=some x) p a c:((dn++ls.drop k).flatMap CY++h).set (k*4+3) (.slice a p.length c)=((dn++[(⟨⟨x.f.t,x.f.k,p⟩,a,c⟩:Fv)])++ls.drop (k+1)).flatMap CY++h:=by
 rw[a3X hg,aS,dU,aB,bK _ _ (by rw[BP CS];omega),BP CS,hd,show k*4+3-k*4=3 by omega];simp only[aS,dU,List.flatMap_nil,aB,dY];rfl
structure TM where
  k:Nat
  J:Heap
  dn:List Fv
theorem a0C{α:Type}(l:List α) k:l.take (min l.length k)=l.take k:=by
 rcases Nat.le_total l.length k with h|h
 ·rw[Nat.min_eq_left h,List.take_length,aC h]
 rw[Nat.min_eq_right h]
structure TJ (α:Type) where
  i:Nat
  j:Nat
  J:Heap
  l:ML α
  c:Nat
theorem b5b L v (b5:L.length≤1000000000)(b6:(flt aQ L).length≤1000000000)(af:eF (flt aQ L)≤1000000000) I (G:SL I L v):yS bW 19 [v,.func (.func 20) #[] #[],.func (.func 21) #[] #[],.func (.func 24) #[] #[]] I []
 (fun e I' H'=>∃(ls:List Fv) (g:Gs),Bk.IL (flt aQ L) ((ls.map aQ).map dP)∧(∀y∈ls,ZF I' y∧y.f.p.length≤1000000000)∧BM 0 4 ls.length (ls.flatMap CY) g∧e= .returned (gV ls.length g)∧H'=gH 37 (ls.flatMap CY) g):=by
 obtain⟨pL,cL,rfl,_,-⟩:=id G.1;refine yS.ob func19 ?_;intro w0 _;refine Cj.sr (aA yQ ?_);refine J.yX (aH rfl (BK rfl rfl rfl ?_));intro b1 ap;refine aA yQ ?_;refine J.zX (aF (aA yP ?_));refine aA (zZ MK) ?_;refine aA yP ?_;refine J.ns (aU (dQ (ι:=TJ (dX)) (fun y=>y.i≤L.length∧SL y.J L (.slice pL L.length cL)∧YZ y.J y.l y.c (flt aQ (L.take y.i))) (fun y=>L.length-y.i) (fun y=>[(1,.func (.func 20) #[] #[]),(2,.func (.func 21) #[] #[]),(3,.func (.func 24) #[] #[]),(9,.map (some b1)),(18,.slice pL L.length cL),(19,i64 (L.length:Int)),(20,i64 (y.i:Int))]) (fun y=>y.J) (fun y=>[(b1,zY kvI y.l y.c)]) ⟨0,0,_,[],0⟩ ⟨bU _,G,YZ.nil _⟩ rT rfl rfl ?_));rintro⟨i,_,_,m,c⟩ ⟨hi,G,A⟩;dsimp only at hi G A ⊢;refine Cj.sr (aA AV ?_);refine J.nss (dD rfl (fun a6=>?_) (fun a6=>?_))
 ·have ai:=BH a6;have ag:i<L.length:=oM;obtain⟨⟨Q,ra,rc⟩,a0⟩:∃r,L[i]?=some r:=⟨_,DC ag⟩;obtain⟨_,_,aq,ar,hp⟩:=id G.1;cases aq;obtain⟨fb,fo,_,_,_,_,rfl,au,av⟩:=hp (zT ag);have hr:=G.2 _ (FQ a0);have b4:Q.length≤_:=YF aQ a0;refine bQ (aK (dF (aU (Cj.sr (aA (AU (off':=fo+i) MK RX) ?_)))));refine aA (EF isAgg25 (eG au) (LV av a0)) ?_;refine bZ 23 rfl (show _= .slice ra Q.length rc from rfl) ?_;refine aA yQ ?_;refine J.yX (aA yP ?_);refine aA (zZ EI) ?_;refine aA yP ?_;refine J.ns (aU (dQ (ι:=TJ (dX)) (fun y=>y.j≤Q.length∧SL y.J L (.slice (some ⟨fb,fo,none⟩) L.length cL)∧VI y.J ⟨Q,ra,rc⟩∧YZ y.J y.l y.c (flt aQ (L.take i)++(Q.take y.j).map aQ)) (fun y=>Q.length-y.j) (fun y=>[(1,.func (.func 20) #[] #[]),(2,.func (.func 21) #[] #[]),(3,.func (.func 24) #[] #[]),(9,.map (some b1)),(18,.slice (some ⟨fb,fo,none⟩) L.length cL),(19,i64 (L.length:Int)),(20,i64 (i:Int)),(24,.slice ra Q.length rc),(25,i64 (Q.length:Int)),(26,i64 (y.j:Int))]) (fun y=>y.J) (fun y=>[(b1,zY kvI y.l y.c)]) ⟨i,0,_,_,_⟩ ⟨bU _,G,hr,by dsimp only;rw[eH,fC,aP];exact A⟩ rT rfl rfl ?_));rintro⟨_,j,_,m,c⟩ ⟨hj,G,hr,A⟩;dsimp only at hj G hr A ⊢;refine Cj.sr (aA AV ?_);refine J.nss (dD rfl (fun a7=>?_) (fun a7=>?_))
  ·have aj:=BH a7;have a8:j<Q.length:=oM;obtain⟨x,a2⟩:∃x,Q[j]?=some x:=⟨_,DC a8⟩;obtain⟨_,_,ak,aw,ax⟩:=id hr.1;cases ak;obtain⟨_,ro,_,_,_,_,rfl,a9,ay⟩:=ax (zT a8);have a4:=hr.2 x (FQ a2);obtain⟨_,ae⟩:=a3A aQ a0 a2;have az:eF ((flt aQ (L.take i)++(Q.take j).map aQ)++[x.f])≤1000000000:=by
    have h9:=af;rw[ae,eP]at h9;dsimp only at h9;omega
   refine bQ (aK (dF (aU (Cj.sr (aA (AU (off':=ro+j*4) EI CV) ?_)))));refine aA (FN LX CV (eG a9) (DN CS ay a2)) ?_;refine aH rfl (CU JZ ?_);intro _ _;refine aH rfl (AB 0 CV (aG (aG (aG (aG bY)))) aX ?_);refine J.yX (aA yP ?_);refine aA (zW LX CV (yR.at 0 rfl)) ?_;refine aH rfl (yU rfl rfl rfl rfl rfl (c4N x _) ?_);refine aH rfl (CU zeroValue62 ?_);intro _ _;refine aH rfl (AB 0 sizeOf62 (aG (aG (aG bY))) aX ?_);refine J.zX (aF (aA yP ?_));refine aA (zW isAgg62 sizeOf62 (yR.at 0 rfl)) ?_;rcases hg:aT (aI x.f) (flt aQ (L.take i)++(Q.take j).map aQ)with _|g
   ·have aa:=(A.2 _).1 hg;refine aA (XE (kv:=kvI) (l:=m) (a:=aI x.f) rfl rfl rfl rfl b1q b5d JZ (yR.at 2 rfl)) ?_;refine bZ 36 rfl (show _= .tuple #[.agg #[i64 0,i64 0,str [],.slice none 0 0],.bool false] from(by rw[aa];rfl)) ?_;refine aA yP ?_;refine aA AZ ?_;refine aA AZ ?_;refine aH rfl (CU JZ ?_);intro _ _;refine aH rfl (AB 0 CV (aG (aG (aG (aG bY)))) aX ?_);refine aA yQ ?_;refine J.yX (aA yP ?_);refine J.c0 (fun aw=>?_);refine bQ (aK (aF (aA yP ?_)));refine aA (zW isAgg62 sizeOf62 (yR.at 1 rfl)) ?_;refine aA (zW LX CV (yR.at 2 rfl)) ?_;refine aH rfl (FH (kv:=kvI) (a:=(aI x.f)) 3 (.inr rfl) rfl rfl rfl rfl rfl b1q b5d rfl (bD (bD (bD aX))) ?_);refine J.nil (aY (aK (aF (aA (yY rfl rfl rfl (zV oM)) ?_))));refine aA yP ?_;refine J.nil ?_;have ab:=A.put (x:=x.f) (y:=x) (b7t hg) a4;refine eU (bH (bH (bH (eX eY)))) ?_;refine bT ⟨i,j+1,_,BN m (aI x.f) (.agg (CY x).toArray) c,EU m (aI x.f) c⟩ ⟨dO,G,hr,by dsimp only;rw[FD aQ a2,←aB];exact ab⟩ dO rT rfl rfl
   obtain⟨y,ah,aa,ac⟩:=(A.2 _).2 g hg;refine aA (XE (kv:=kvI) (l:=m) (a:=aI x.f) rfl rfl rfl rfl b1q b5d JZ (yR.at 2 rfl)) ?_;refine bZ 36 rfl (show _= .tuple #[.agg (CY y).toArray,.bool true] from(by rw[aa];rfl)) ?_;refine aA yP ?_;refine aA AZ ?_;refine aA AZ ?_;refine aH rfl (CU JZ ?_);intro _ _;refine aH rfl (AB 0 CV (aG (aG (aG (aG bY)))) aX ?_);refine aA yQ ?_;refine J.yX (aA yP ?_);refine J.c1 (fun ar=>?_);refine aF (aA yP ?_);refine aA (zW LX CV (yR.at 0 rfl)) ?_;refine aA (zW LX CV (yR.at 2 rfl)) ?_;refine aH rfl (yT (H1:=[]) rfl rfl rfl rfl rfl (c2Y y x (by have h1:=Bk.a4B _ hg;rw[eP,Bk.a6m]at az;rw[ah];omega) _ ac a4) ?_ (fun _ _ _ _ ⟨_,h,_⟩=>by cases h) (fun _ _ ⟨_,h,_⟩=>by cases h));intro _ _ _ N al;have G:=G.mono N;have hr:=hr.mono N;have A:=A.mono N;have a9:=N _ _ a9;have a4:=a4.mono N;have ac:=ac.mono N;obtain⟨z,h,b0,hzS,rfl⟩:=al;cases h;refine aH rfl (AB 2 CV (aG (aG (aG (aG bY)))) (bD (bD aX)) ?_);refine J.GI (aA yP ?_);refine aA (zW isAgg62 sizeOf62 (yR.at 1 rfl)) ?_;refine aA (zW LX CV (yR.at 2 rfl)) ?_;refine aH rfl (FH (kv:=kvI) (a:=(aI x.f)) 3 (.inr rfl) rfl rfl rfl rfl rfl b1q b5d rfl (bD (bD (bD aX))) ?_);refine J.nil (aY (aK (aF (aA (yY rfl rfl rfl (zV oM)) ?_))));refine aA yP ?_;refine J.nil ?_;have ab:=A.put (x:=x.f) (y:=z) (by rw[c1y hg,b0,ah]) hzS;refine eU (bH (bH (bH (eX eY)))) ?_;refine bT ⟨i,j+1,_,BN m (aI x.f) (.agg (CY z).toArray) c,EU m (aI x.f) c⟩ ⟨dO,G,hr,by dsimp only;rw[FD aQ a2,←aB];exact ab⟩ dO rT rfl rfl
  have aj:=BJ a7;refine dG (bI (bV (bM (aY (aK (aF (aA (yY rfl rfl rfl (zV oM)) ?_)))))));refine aA yP ?_;refine J.nil (bT ⟨i+1,0,_,_,_⟩ ⟨dO,G,by dsimp only;rw[OE aQ a0];rw[aC (oM:Q.length≤j)]at A;exact A⟩ dO rT rfl rfl)
 have ai:=BJ a6;refine dG (bI (bV (bM (aK (dF (Cj.persist ap (fun _ a5 O=>?_)))))));have G:=G.mono a5;have A:=A.mono a5;rw[aC (oM:L.length≤i)]at A;have b7:=A.len;obtain⟨φ,hφ⟩:=A.at;refine aF (aA yP ?_);refine aH rfl (EX rfl rfl rfl rfl rfl (b4Q _ _) ?_ (fun _ _ _ _ ⟨_,h,_⟩=>by cases h) (fun _ _ ⟨_,h,_⟩=>by cases h));intro _ _ _ a1 am an;have G:=G.mono a1;have A:=A.mono a1;have O:=a1 _ _ O;obtain⟨kb,h,rfl⟩:=an;cases h;refine J.persist (am _ (.head _)) (fun _ a3 ad=>?_);have G:=G.mono a3;have A:=A.mono a3;have O:=a3 _ _ O;refine aA yP ?_;refine aH rfl (yT (H1:=[]) rfl rfl rfl rfl rfl (b6i m φ _ [] [ptr kb 0] _ oM (c1d kb b1 m c A.1 φ (fun p hp=>(hφ p hp).1) _ ad O)) ?_ (fun _ _ _ _ ⟨_,_,_,_,_,h,_⟩=>by cases h) (fun _ _ ⟨_,_,_,_,_,h,_⟩=>by cases h));intro _ _ _ Z ao;have G:=G.mono Z;have A:=A.mono Z;have O:=Z _ _ O;have ad:=Z _ _ ad;obtain⟨ls,g,b2,b3,hg,h,rfl⟩:=ao;cases h;refine aA yQ ?_;refine J.ns (dH ?_);obtain⟨hM,hS⟩:=A.sorted hφ b2 b3;refine zM ?_;exact⟨ls,g,hM,fun y hy=>⟨(hS y hy).1,KT (hS y hy).2 af⟩,hg,rfl,aP _⟩
theorem b5u L v (aq:L.length≤1000000000)(ar:(flt id L).length≤1000000000) I (A:TW I L v):yS bW 33 [v,.func (.func 34) #[] #[],.func (.func 35) #[] #[],.func (.func 36) #[] #[]] I []
 (fun e _ H'=>∃g,BM 0 2 (aW (flt id L)).length ((aW (flt id L)).flatMap AX) g∧e= .returned (gV (aW (flt id L)).length g)∧H'=gH 41 ((aW (flt id L)).flatMap AX) g):=by
 obtain⟨pL,cL,rfl,_,-⟩:=id A.1;refine yS.ob func33 ?_;intro w0 _;refine Cj.sr (aA yQ ?_);refine J.yX (aH rfl (BK rfl rfl rfl ?_));intro b1 ag;refine aA yQ ?_;refine J.zX (aF (aA yP ?_));refine aA (zZ TV) ?_;refine aA yP ?_;refine J.ns (aU (dQ (ι:=TJ (List UInt8)) (fun y=>y.i≤L.length∧TW y.J L (.slice pL L.length cL)∧JML y.l y.c (flt (id:aJ→aJ) (L.take y.i))) (fun y=>L.length-y.i) (fun y=>[(1,.func (.func 34) #[] #[]),(2,.func (.func 35) #[] #[]),(3,.func (.func 36) #[] #[]),(9,.map (some b1)),(18,.slice pL L.length cL),(19,i64 (L.length:Int)),(20,i64 (y.i:Int))]) (fun y=>y.J) (fun y=>[(b1,zY (fun a:List UInt8=>str a) y.l y.c)]) ⟨0,0,_,[],0⟩ ⟨bU _,A,JML.nil⟩ rT rfl rfl ?_));rintro⟨i,_,_,m,c⟩ ⟨hi,A,G⟩;dsimp only at hi A G ⊢;refine Cj.sr (aA AV ?_);refine J.nss (dD rfl (fun a2=>?_) (fun a2=>?_))
 ·have aa:=BH a2;have a9:i<L.length:=oM;obtain⟨⟨O,ra,rc⟩,Q⟩:∃r,L[i]?=some r:=⟨_,DC a9⟩;obtain⟨_,_,ah,_,hp⟩:=id A.1;cases ah;obtain⟨fb,fo,_,_,_,_,rfl,ai,aj⟩:=hp (zT a9);have hr:=A.2 _ (FQ Q);have ap:O.length≤_:=YF (id:aJ→aJ) Q;refine bQ (aK (dF (aU (Cj.sr (aA (AU (off':=fo+i) TV a0H) ?_)))));refine aA (EF isAgg39 (eG ai) (LV aj Q)) ?_;refine bZ 23 rfl (show _= .slice ra O.length rc from rfl) ?_;refine aA yQ ?_;refine J.yX (aA yP ?_);refine aA (zZ CP) ?_;refine aA yP ?_;refine J.ns (aU (dQ (ι:=TJ (List UInt8)) (fun y=>y.j≤O.length∧TW y.J L (.slice (some ⟨fb,fo,none⟩) L.length cL)∧zN AX y.J O (.slice ra O.length rc)∧JML y.l y.c (flt (id:aJ→aJ) (L.take i)++(O.take y.j).map (id:aJ→aJ))) (fun y=>O.length-y.j) (fun y=>[(1,.func (.func 34) #[] #[]),(2,.func (.func 35) #[] #[]),(3,.func (.func 36) #[] #[]),(9,.map (some b1)),(18,.slice (some ⟨fb,fo,none⟩) L.length cL),(19,i64 (L.length:Int)),(20,i64 (i:Int)),(24,.slice ra O.length rc),(25,i64 (O.length:Int)),(26,i64 (y.j:Int))]) (fun y=>y.J) (fun y=>[(b1,zY (fun a:List UInt8=>str a) y.l y.c)]) ⟨i,0,_,_,_⟩ ⟨bU _,A,hr,by dsimp only;rw[eH,fC,aP];exact G⟩ rT rfl rfl ?_));rintro⟨_,j,_,m,c⟩ ⟨hj,A,hr,G⟩;dsimp only at hj A hr G ⊢;refine Cj.sr (aA AV ?_);refine J.nss (dD rfl (fun a3=>?_) (fun a3=>?_))
  ·have ab:=BH a3;have a4:j<O.length:=oM;obtain⟨x,a5⟩:∃x,O[j]?=some x:=⟨_,DC a4⟩;obtain⟨_,_,ac,_,ak⟩:=id hr;cases ac;obtain⟨_,ro,_,_,_,_,rfl,al,am⟩:=ak (zT a4);refine bQ (aK (dF (aU (Cj.sr (aA (AU (off':=ro+j*2) CP CQ) ?_)))));refine aA (FN NS CQ (eG al) (DN BL am a5)) ?_;refine aH rfl (CU GL ?_);intro _ _;refine aH rfl (AB 0 CQ (aG (aG bY)) aX ?_);refine J.yX (aA yP ?_);refine aA (zW NS CQ (yR.at 0 rfl)) ?_;refine aH rfl (yU rfl rfl rfl rfl rfl (c2f x _) ?_);refine aA yQ ?_;refine J.zX (aF (aA yP ?_));refine aA yP ?_;rcases hg:bJ x.1 (flt (id:aJ→aJ) (L.take i)++(O.take j).map (id:aJ→aJ))with _|n9
   ·have a6:BF m x.1=none:=by rw[G.2,hg];rfl
    refine aA (XE (kv:=(fun a:List UInt8=>str a)) (l:=m) (a:=x.1) rfl rfl rfl rfl a7g (dM BU) GL (yR.at 1 rfl)) ?_;refine bZ 36 rfl (show _= .tuple #[.agg #[str [],i64 0],.bool false] from(by rw[a6];rfl)) ?_;refine aA yP ?_;refine aA AZ ?_;refine aA AZ ?_;refine aH rfl (CU GL ?_);intro _ _;refine aH rfl (AB 0 CQ (aG (aG bY)) aX ?_);refine aA yQ ?_;refine J.yX (aA yP ?_);refine J.c0 (fun _=>?_);refine bQ (aK (aF (aA yP ?_)));refine aA yP ?_;refine aA (zW NS CQ (yR.at 1 rfl)) ?_;refine aH rfl (FH (kv:=(fun a:List UInt8=>str a)) (a:=(x.1)) 2 (.inr rfl) rfl rfl rfl rfl rfl a7g (dM BU) rfl (bD (bD aX)) ?_);refine J.nil (aY (aK (aF (aA (yY rfl rfl rfl (zV oM)) ?_))));refine aA yP ?_;refine J.nil ?_;have a7:=G.put (x:=x) (n:=x.2) (by rw[hg];unfold dJ;rw[zG rfl]);refine eU (bH (bH (eX eY))) ?_;refine bT ⟨i,j+1,_,BN m (x.1) (.agg (AX (x.1,x.2)).toArray) c,EU m (x.1) c⟩ ⟨dO,A,hr,by dsimp only;rw[FD (id:aJ→aJ) a5,←aB];exact a7⟩ dO rT rfl rfl
   have a6:BF m x.1=some (.agg (AX (x.1,n9)).toArray):=by rw[G.2,hg];rfl
   refine aA (XE (kv:=(fun a:List UInt8=>str a)) (l:=m) (a:=x.1) rfl rfl rfl rfl a7g (dM BU) GL (yR.at 1 rfl)) ?_;refine bZ 36 rfl (show _= .tuple #[.agg (AX (x.1,n9)).toArray,.bool true] from(by rw[a6];rfl)) ?_;refine aA yP ?_;refine aA AZ ?_;refine aA AZ ?_;refine aH rfl (CU GL ?_);intro _ _;refine aH rfl (AB 0 CQ (aG (aG bY)) aX ?_);refine aA yQ ?_;refine J.yX (aA yP ?_);refine J.c1 (fun _=>?_);refine aF (aA yP ?_);refine aA (zW NS CQ (yR.at 0 rfl)) ?_;refine aA (zW NS CQ (yR.at 1 rfl)) ?_;refine aH rfl (yU rfl rfl rfl rfl rfl (b9v (x.1,n9) x _) ?_);refine aH rfl (AB 1 CQ (aG (aG bY)) (bD aX) ?_);refine J.GI (aA yP ?_);refine aA yP ?_;refine aA (zW NS CQ (yR.at 1 rfl)) ?_;refine aH rfl (FH (kv:=(fun a:List UInt8=>str a)) (a:=(x.1)) 2 (.inr rfl) rfl rfl rfl rfl rfl a7g (dM BU) rfl (bD (bD aX)) ?_);refine J.nil (aY (aK (aF (aA (yY rfl rfl rfl (zV oM)) ?_))));refine aA yP ?_;refine J.nil ?_;have a7:=G.put (x:=x) (n:=Bk.W (n9+x.2)) (by rw[hg];unfold dJ;rw[zG rfl]);refine eU (bH (bH (eX eY))) ?_;refine bT ⟨i,j+1,_,BN m (x.1) (.agg (AX (x.1,Bk.W (n9+x.2))).toArray) c,EU m (x.1) c⟩ ⟨dO,A,hr,by dsimp only;rw[FD (id:aJ→aJ) a5,←aB];exact a7⟩ dO rT rfl rfl
  have ab:=BJ a3;refine dG (bI (bV (bM (aY (aK (aF (aA (yY rfl rfl rfl (zV oM)) ?_)))))));refine aA yP ?_;refine J.nil (bT ⟨i+1,0,_,_,_⟩ ⟨dO,A,by dsimp only;rw[OE (id:aJ→aJ) Q];rw[aC (oM:O.length≤j)]at G;exact G⟩ dO rT rfl rfl)
 have aa:=BJ a2;refine dG (bI (bV (bM (aK (dF (Cj.persist ag (fun _ Z N=>?_)))))));have A:=A.mono Z;rw[aC (oM:L.length≤i)]at G;have au:=G.len;have hφ:=G.at;refine aF (aA yP ?_);refine aH rfl (EX rfl rfl rfl rfl rfl (b5G _ _) ?_ (fun _ _ _ _ ⟨_,h,_⟩=>by cases h) (fun _ _ ⟨_,h,_⟩=>by cases h));intro _ _ _ a1 ad ae;have A:=A.mono a1;have N:=a1 _ _ N;obtain⟨kb,h,rfl⟩:=ae;cases h;refine J.persist (ad _ (.head _)) (fun _ Z a8=>?_);have A:=A.mono Z;have N:=Z _ _ N;refine aA yP ?_;refine aH rfl (yT (H1:=[]) rfl rfl rfl rfl rfl (b5e m (a2v (flt (id:aJ→aJ) L)) _ [] [ptr kb 0] _ oM (c0g kb b1 m c G.1 (a2v (flt (id:aJ→aJ) L)) (fun p hp=>(hφ p hp).1) _ a8 N)) ?_ (fun _ _ _ _ ⟨_,_,_,_,_,h,_⟩=>by cases h) (fun _ _ ⟨_,_,_,_,_,h,_⟩=>by cases h));intro _ _ _ a0 af;have A:=A.mono a0;have N:=a0 _ _ N;have a8:=a0 _ _ a8;obtain⟨ls,g,an,ao,hg,h,rfl⟩:=af;cases h;refine aA yQ ?_;refine J.ns (dH ?_);obtain rfl:=G.sorted an ao;refine zM ?_;exact⟨g,hg,rfl,aP _⟩
theorem GY L v (ao:L.length≤1000000000)(ap:(flt aQ L).length≤1000000000)(aq:eF (flt aQ L)≤1000000000) I (hL:SL I L v):yS bW 9 [v] I []
 (fun e I' H'=>∃(r:List Fv) (w:Value),e= .returned w∧MgS I I' r w∧Bk.IL (flt aQ L) (r.map aQ)∧H'=[]):=by
 refine yS.ob func9 ?_;intro w0 aa;refine Cj.sr (aA yQ ?_);refine J.yX (aA yP ?_);refine aH rfl (EX rfl rfl rfl rfl rfl (b5b L v ao ap aq _ hL) ?_ (fun _ _ _ _ ⟨_,_,_,_,_,h,_⟩=>by cases h) (fun _ _ ⟨_,_,_,_,_,h,_⟩=>by cases h));intro _ _ _ aj ar au;have hL:=hL.mono aj;obtain⟨ls,g,hM,a4,hg,h,rfl⟩:=au;cases h;have ab:=hg.base ar;have ak:=hM.len;rw[aO,aO]at ak;have N:∀z∈ls,ZF _ z:=fun z hz=>(a4 z hz).1;have hB:∀z∈ls,z.f.p.length≤1000000000:=fun z hz=>(a4 z hz).2;clear a4;refine aA yQ ?_;refine J.zX (aF ?_);rcases g with _|⟨gb,gc,ac⟩
 ·obtain⟨av,-⟩:=ab;obtain rfl:=dA.1 av;refine aA yP ?_;refine bZ 8 rfl (show _= .slice none 0 0 from rfl) ?_;refine aA (zZ EI) ?_;refine aA yP ?_;refine J.ns (aU (Cj.rounds 1 ?_));refine Rj.succ ?_;refine Cj.sr (aA AV ?_);refine J.nss (dD rfl (fun ad=>Bool.noConfusion (Eq.trans (Eq.symm (by first|rfl|decide)) ad)) (fun ad=>?_));refine dG (bI (bI (bM (aK (Cj.sr (aA yP ?_))))));refine aA yQ ?_;refine J.ns (dH (zM ?_));exact⟨[],_,rfl,⟨NJ.nil,fun _ h=>by cases h⟩,hM,rfl⟩
 obtain⟨ae,aw,ax⟩:=ab;refine aA yP ?_;refine aA (zZ EI) ?_;refine aA yP ?_;refine J.ns (aU (dQ (ι:=TM) (fun y=>y.k≤ls.length∧y.dn.length=y.k∧y.dn.map aQ=((ls.take y.k).map aQ).map dP∧(∀z∈y.dn,FvN I y.J z)∧(∀z∈ls,ZF y.J z)) (fun y=>ls.length-y.k) (fun y=>[(3,.slice (some ⟨gb,0,none⟩) ls.length gc),(8,.slice (some ⟨gb,0,none⟩) ls.length gc),(9,i64 (ls.length:Int)),(10,i64 (y.k:Int))]) (fun y=>y.J) (fun y=>[(gb,yZ 37 ((y.dn++ls.drop y.k).flatMap CY++ac))]) ⟨0,_,[]⟩ ⟨bU _,rfl,rfl,fun _ h=>(by cases h),N⟩ rT rfl rfl ?_));rintro⟨k,_,dn⟩ ⟨hk,a5,a6,Q,N⟩;dsimp only at hk a5 a6 Q N ⊢;refine Cj.sr (aA AV ?_);refine J.nss (dD rfl (fun a7=>?_) (fun a7=>?_))
 ·have al:=BH a7;have ay:k<ls.length:=oM;obtain⟨x,Z⟩:∃x,ls[k]?=some x:=⟨_,DC ay⟩;have O:=N x (FQ Z);have az:=hB x (FQ Z);have af:(dn++ls.drop k)[k]?=some x:=by rw[List.getElem?_append_right oM,show k-dn.length=0 by omega,List.getElem?_drop,Nat.add_zero];exact Z
  refine bQ (aK (dF (aU (Cj.sr (aA yP ?_)))));refine aA yQ ?_;refine J.yX (aA yP ?_);refine aA yP ?_;refine aA (AU (off':=k*4) EI CV) ?_;refine aA (qq2 (off':=k*4+3) DT EZ) ?_;refine aA (II rfl rfl KX (yR.at 0 rfl) ((RV CS af 3 dE).trans rfl)) ?_;refine aH rfl (EX rfl rfl rfl rfl rfl (b7n x.f.p x.v az _ O) ?_ (fun _ _ _ _ ⟨_,_,h,_⟩=>by cases h) (fun _ _ ⟨_,_,h,_⟩=>by cases h));intro _ _ _ a0 b0 am;have Q:=fun G A=>(Q G A).mono a0;have N:=fun G A=>(N G A).mono a0;have O:=O.mono a0;obtain⟨gq,b1,h,rfl⟩:=am;cases h;have hq:=b1.base b0;refine J.perm (H':=[_]++gH _ _ gq) dI ?_;refine aA yQ ?_;refine J.yX (aA yP ?_);refine aH rfl (FB (H1:=gH 3 (x.f.p.flatMap FI) gq) [_] rfl rfl rfl rfl rfl rfl (b9K x.f.p gq hq oM _) ?_ (fun _ _ _ _ ⟨h,_⟩=>by cases h) (fun _ _ ⟨h,_⟩=>by cases h));rintro _ _ _ a1 ⟨h,rfl⟩;cases h;have b2:BM w0.heap.size 1 (x.f.p.mergeSort fun x y=>decide (x≤y)).length ((x.f.p.mergeSort fun x y=>decide (x≤y)).flatMap FI) gq:=by rw[aZ];exact TK hq (by rw[BP GX,BP GX,aZ])
  have Q:=fun G A=>(Q G A).mono a1;have N:=fun G A=>(N G A).mono a1;have O:=O.mono a1;refine J.GI (aA yP ?_);refine aA yP ?_;refine aA yP ?_;refine bZ 23 rfl (show _=gV (x.f.p.mergeSort fun x y=>decide (x≤y)).length gq from(by rw[aZ])) ?_;refine aH rfl (FB (H1:=gH 3 ((x.f.p.mergeSort fun x y=>decide (x≤y)).flatMap FI) gq) [_] rfl rfl rfl rfl rfl rfl (b2w (x.f.p.mergeSort fun x y=>decide (x≤y)) gq b2 (by rw[aZ];omega) _) ?_ (fun _ _ _ _ ⟨_,_,h,_⟩=>by cases h) (fun _ _ ⟨_,_,h,_⟩=>by cases h));rintro _ _ _ a2 ⟨gr,ag,h,rfl⟩;cases h;rw[Bk.XU]at ag ⊢;have Q:=fun G A=>(Q G A).mono a2;have N:=fun G A=>(N G A).mono a2;have O:=O.mono a2;refine J.perm (H':=gH 3 ((dW x.f.p).flatMap FI) gr++[_]) dI ?_;refine J.a0l GX dE ag rfl (fun _ a3 a8=>?_);have Q:=fun G A=>(Q G A).mono a3;have N:=fun G A=>(N G A).mono a3;have O:=O.mono a3;have ah:=a4J (dW x.f.p).length gr;obtain⟨pw,cw,ai⟩:=rowLen a8.row;refine bZ 24 rfl (show _= .slice pw (dW x.f.p).length cw from ai) ?_;rw[ai]at a8 ah;refine aA (AU (off':=k*4) EI CV) ?_;refine aA (qq2 (off':=k*4+3) DT EZ) ?_;refine aH rfl (RU 0 rfl rfl rfl rfl rfl rfl EZ rfl (.inl rfl) (cell_lt CS af dE) aX ?_);refine J.nil (aY (aK (aF (aA (yY rfl rfl rfl (zV oM)) ?_))));refine aA yP ?_;refine J.nil (bT ⟨k+1,_,dn++[⟨dP x.f,pw,cw⟩]⟩ ⟨dO,by rw[aN,a5];rfl,by dsimp only;rw[FD aQ Z,bF,bF,a6];rfl,fun z hz=>(dB.1 hz).elim (Q z) fun hz=>by rw[dN.1 hz];exact⟨a8.imp fun b hb=>aa.dom hb,ah⟩,N⟩ dO rT rfl (by dsimp only;rw[show dP x.f=⟨x.f.t,x.f.k,dW x.f.p⟩ from rfl,←b9D a5 Z];rfl))
 have al:=BJ a7;refine dG (bI (bV (bM (aK (Cj.sr (aA yP ?_))))));refine aA yQ ?_;refine J.ns (dH ?_);have b3:ls.drop k=[]:=List.drop_eq_nil_of_le oM;have b4:ls.length=dn.length:=oM;rw[b3,aP];refine Ej.persist ae (fun _ a9 an=>?_);have Q:=fun G A=>(Q G A).mono a9;have N:=fun G A=>(N G A).mono a9;refine zM ?_;rw[BP CS]at aw ax;exact⟨dn,_,rfl,⟨⟨_,_,by rw[b4],oM,fun _=>⟨gb,ac,rfl,aa.dom ae,an⟩⟩,Q⟩,by rw[a6,aC (oM:ls.length≤k)];exact hM,rfl⟩
theorem c3I{l a c v H}(h:PZ 41 AX l v H)(A:v= .slice a l.length c) k:PZ 41 AX (l.take k) (.slice a (min l.length k) (min l.length k)) H:=by
 subst A;have:=b1x h (Nat.min_le_left l.length k)
 rwa [a0C]at this
theorem a0v L v A (O:L.length≤1000000000)(Q:(flt id L).length≤1000000000) I (hL:TW I L v):yS bW 12 [v,i64 A] I []
 (fun e _ H'=>∃w,e= .returned w∧PZ 41 AX ((aW (flt id L)).take A.toNat) w H'):=by
 refine yS.ob func12 ?_;intro w0 _;refine Cj.sr (aA yQ ?_);refine J.yX (aA yP ?_);refine aH rfl (yT (H1:=[]) rfl rfl rfl rfl rfl (b5u L v O Q _ hL) ?_ (fun _ _ _ _ ⟨_,_,h,_⟩=>by cases h) (fun _ _ ⟨_,_,h,_⟩=>by cases h));intro _ _ _ _ Z;obtain⟨g,hg,h,rfl⟩:=Z;cases h;have G:PZ 41 AX (aW (flt id L)) (gV (aW (flt id L)).length g) (gH 41 ((aW (flt id L)).flatMap AX) g):=PZ.c0x BL dE rfl hg;obtain⟨sa,sc,N,a0⟩:=b6u G;refine bZ 6 rfl (show _= .slice sa (aW (flt id L)).length sc from N) ?_;refine aA yP ?_;refine aH rfl (yU rfl rfl rfl rfl rfl (b7A sa (aW (flt id L)).length sc A a0 _) ?_);refine aA yQ ?_;refine J.ns (dH (Ej.perm (H':=gH 41 ((aW (flt id L)).flatMap AX) g) (.of_eq (aP _).symm) ?_));refine zM ?_;exact⟨_,rfl,c3I G N _⟩
end Go.Proofs.YtdjkhllhakhjbaaGreatDoor
namespace Go.Sx
open Go
section
variable {P:Program} {K i j:TypeId} {f0 f1:Field}
def EqK {α:Type} [BEq α] (P:Program) (K:TypeId) (kv:α→Array Value):Prop:=∀a b w,(Op.equalIn 10000 K (.agg (kv a)) (.agg (kv b))).run P w= .ok (a == b) w
theorem EqK.b6f(N:P.underlying K=some (.struct #[f0,f1]))(O:P.stoodInHeld K=false)(Q:f0.name≠ "_")(Z:f1.name≠ "_")(o0:f0.offset=0)(o1:f1.offset=1)(t0:f0.type=i)(h:f1.type=i)(A:P.underlying i=some (.int .i64))(G:∀w,(isAgg i).run P w= .ok false w):
 EqK P K (fun a:Int×Int=> #[i64 a.1,i64 a.2]):=by
 subst t0;exact fun a b w=>UH N O Q Z o0 o1 G (h▸G) (x0:=i64 a.1) (x1:=i64 a.2) (y0:=i64 b.1) (y1:=i64 b.2) w (fun d w=>run_equalIn_int w d _ .i64 .i64 a.1 b.1 A) (fun d w=>run_equalIn_int w d _ .i64 .i64 a.2 b.2 (h▸A)) 9998
theorem EqK.c2u(A:P.underlying K=some (.struct #[f0,f1]))(G:P.stoodInHeld K=false)(N:f0.name≠ "_")(O:f1.name≠ "_")(Q:f0.offset=0)(Z:f1.offset=1)(t0:f0.type=i)(h:f1.type=j)(hi:P.underlying i=some .string)(hj:P.underlying j=some (.int .i64))(ha:∀w,(isAgg i).run P w= .ok false w)(hb:∀w,(isAgg j).run P w= .ok false w):
 EqK P K (fun a:List UInt8×Int=> #[str a.1,i64 a.2]):=by
 subst t0;exact fun a b w=>UH A G N O Q Z ha (h▸hb) (x0:=str a.1) (x1:=i64 a.2) (y0:=str b.1) (y1:=i64 b.2) w (fun d w=>a1h hi a.1 b.1 d w) (fun d w=>run_equalIn_int w d _ .i64 .i64 a.2 b.2 (h▸hj)) 9998
end
section
variable {cx:Cx} {S:World→Prop} {ev0:Env} {o:Oper} {α:Type} [BEq α] {t:TypeId} {kv:α→Array Value}
theorem b3I{x y U a b}{vs h:List Value}(ho:o.op= .binOp .eql t x y U)(G:ev ev0 x=some (.agg vs.toArray))(N:ev ev0 y=some (.agg h.toArray))(O:vs.toArray=kv a)(Q:h.toArray=kv b)
 (hK:EqK cx.P t kv)(hq:cx.P.eqGuardType cx.P.depth t=false):CW cx o ev0 S (.bool (a == b)):=by
 intro w0 w Z _;have hg:(eqGuard .eql t x y (.agg vs.toArray) (.agg h.toArray)).run cx.P w= .ok () w:=by
  simp[eqGuard,hq]
 have A:=run_eql_struct (P:=cx.P) w t vs.toArray h.toArray;rw[O]at A hg G;rw[Q]at A hg N;rw[hK a b w]at A;simp[execOp,ho,Z.eval G,Z.eval N,hg,A]
theorem b3l{x y U a b}{vs h:List Value}(ho:o.op= .binOp .neq t x y U)(G:ev ev0 x=some (.agg vs.toArray))(N:ev ev0 y=some (.agg h.toArray))(O:vs.toArray=kv a)(Q:h.toArray=kv b)
 (hK:EqK cx.P t kv)(hq:cx.P.eqGuardType cx.P.depth t=false):CW cx o ev0 S (.bool (a != b)):=by
 intro w0 w Z _;have hg:(eqGuard .neq t x y (.agg vs.toArray) (.agg h.toArray)).run cx.P w= .ok () w:=by
  simp[eqGuard,hq]
 have A:=run_neq_struct (P:=cx.P) w t vs.toArray h.toArray;rw[O]at A hg G;rw[Q]at A hg N;rw[hK a b w]at A;simp[execOp,ho,Z.eval G,Z.eval N,hg,A,bne]
end
section
variable {cx:Cx} {S:World→Prop} {ev0:Env} {o:Oper}
end
end Go.Sx
namespace Go.Proofs.YtdjkhllhakhjbaaGreatDoor
open _root_.Go.Proofs.Tryz
open Go Go.Sx
abbrev b6g (t:Ix.Rec):Array Value:= #[i64 t.1,i64 t.2]
theorem b5N:EqK bW 34 b6g:=EqK.b6f XJ kR dE dE rfl rfl rfl rfl tU3 FY
theorem b9J{a b}(h:a.1≠b.1):dK a b=decide (a.1<b.1):=by unfold dK;rw[zJ (p:=a.1=b.1) h];simp
theorem b9z{a b}(h:a.1=b.1):dK a b=decide (a.2<b.2):=by unfold dK;rw[zI h,h,zJ (Int.lt_irrefl _)];simp
theorem b2l a b I:Pure bW 49 [AQ a,AQ b] I (.bool (dK a b)):=by
 refine yS.toPure ?_;refine yS.ob func49 ?_;intro w0 _;refine Cj.sr (aH rfl (BG ?_));intro _ _;refine aH rfl (BG ?_);intro _ _;refine aA yQ ?_;refine J.zX (aF (aA (qq2 (off':=0) XJ BO) ?_));refine aA (yV FY (yR.at 1 rfl)) ?_;refine aA (qq2 (off':=0) XJ BO) ?_;refine aA (yV FY (yR.at 0 rfl)) ?_;refine aA (GH rfl rfl rfl) ?_;refine J.cd (fun h=>?_) (fun h=>?_)
 ·have A:=bne_iff_ne.1 h;have G:=b9J (bne_iff_ne.1 h);refine Cj.sr (aA (qq2 (off':=0) XJ BO) ?_);refine aA (yV FY (yR.at 1 rfl)) ?_;refine aA (qq2 (off':=0) XJ BO) ?_;refine aA (yV FY (yR.at 0 rfl)) ?_;refine aA AV ?_;refine aA yQ ?_;refine J.ns (dH (Ej.KU (Ej.bare ?_)));refine zM ?_;rw[G];exact rT
 have A:=DI h;have G:=b9z (DI h);refine bQ (aK (Cj.sr (aA (qq2 (off':=1) XJ BO) ?_)));refine aA (yV FY (yR.at 1 rfl)) ?_;refine aA (qq2 (off':=1) XJ BO) ?_;refine aA (yV FY (yR.at 0 rfl)) ?_;refine aA AV ?_;refine aA yQ ?_;refine J.ns (dH (Ej.bare ?_));refine zM ?_;rw[G];exact rT
theorem zN.from{α:Type}{f:α→List Value}{sz:Nat}(hf:∀x,(f x).length=sz){I l a c}(h:zN f I l (.slice a l.length c)){j:Nat}(A:j≤l.length):zN f I (l.drop j) (.slice (a2S a c j sz) (l.length-j) (c-j)):=by
 have G:=zN.cut hf h A (Nat.le_refl _)
 rwa [aC (by rw[List.length_drop];omega)]at G
end Go.Proofs.YtdjkhllhakhjbaaGreatDoor
namespace Bk
section
variable {α:Type} {lt:α→α→Bool}
def YJ (lt:α→α→Bool) (k j:Nat) (l:List α):Prop:=∃A x B C,l=A++x::(B++C)∧A.length=j∧j+B.length=k∧(A++B).Pairwise (fun p q=>lt q p=false)∧∀b∈B,lt x b=true
def WA (lt:α→α→Bool) (k:Nat) (l:List α):Prop:=(l.take k).Pairwise fun p q=>lt q p=false
theorem YJ.start{k l}(h:WA lt k l)(G:k<l.length):YJ lt k k l:=by
 refine⟨l.take k,l[k],[],l.drop (k+1),?_,by rw[List.length_take];omega,rfl,by rw[aP];exact h,fun b A=>by cases A⟩;rw[dY,List.getElem_cons_drop,aV]
theorem WA.one{l}:WA lt 1 l:=by
 cases l with
 |nil=>exact .nil
 |cons a r=>exact List.pairwise_singleton _ _
theorem WA.all{k l}(h:WA lt k l)(A:l.length≤k):l.Pairwise fun p q=>lt q p=false:=by
 unfold WA at h;rwa [aC A]at h
theorem YJ.len{k j l}(h:YJ lt k j l):j≤k∧k<l.length:=by
 obtain⟨_,x,B,C,rfl,_,_,-,-⟩:=h;rw[aN,cZ,aN];omega
theorem b0c{A B C:List α}{x:α}{k:Nat}(h:A.length+B.length=k):(A++x::(B++C)).take (k+1)=A++x::B:=by
 rw[show A++x::(B++C)=(A++x::B)++C by simp];exact List.take_left' (by rw[aN,cZ];omega)
theorem a7n(N:∀x y,lt x y=true→lt y x=false){A B x}(h:(A++B).Pairwise fun p q=>lt q p=false)(O:∀a∈A,lt x a=false)(Q:∀b∈B,lt x b=true):(A++x::B).Pairwise fun p q=>lt q p=false:=by
 rw[bP]at h ⊢;refine⟨h.1,List.pairwise_cons.2 ⟨fun b G=>N _ _ (Q b G),h.2.1⟩,fun a G b hn=>?_⟩;rcases fA.1 hn with rfl|hn
 ·exact O a G
 exact h.2.2 a G b hn
theorem YJ.c5o(G:∀x y,lt x y=true→lt y x=false){k l}(h:YJ lt k 0 l):WA lt (k+1) l:=by
 obtain⟨_,x,B,C,rfl,N,_,O,Q⟩:=h;unfold WA;rw[b0c oM];obtain rfl:=dA.1 N;exact a7n G O (fun a Z=>by cases Z) Q
theorem a7s{A:List α}{x:α}{R:List α}{j:Nat}(h:A.length=j):(A++x::R)[j]?=some x:=by
 subst h;simp
theorem b4x{A:List α}{j}(h:A.length=j+1):∃N y,A=N++[y]∧N.length=j:=by
 have G:A≠[]:=fun e=>by subst e;simp at h
 refine⟨A.dropLast,A.getLast G,(List.dropLast_concat_getLast G).symm,by rw[List.length_dropLast];omega⟩
theorem YJ.stop(O:∀x y,lt x y=true→lt y x=false)(Q:∀x y z,lt x z=true→lt x y=true∨lt y z=true){k j l}(h:YJ lt k (j+1) l){x y}(Z:l[j+1]?=some x)(hy:l[j]?=some y)(N:lt x y=false):WA lt (k+1) l:=by
 obtain⟨_,_,B,C,rfl,h1,_,h3,h4⟩:=h;rw[a7s h1]at Z;cases Z;obtain⟨_,_,rfl,h5⟩:=b4x h1;rw[aB,bC,a7s h5]at hy;cases hy;unfold WA;rw[b0c oM];refine a7n O h3 (fun a G=>?_) h4;rcases dB.1 G with G|G
 ·have h6:=(bP.1 (bP.1 h3).1).2.2 a G y (.head _);cases hc:lt x a with
  |false=>rfl
  |true=>
   rcases Q x y a hc with g|g
   ·rw[N]at g;cases g
   rw[h6]at g;cases g
 rw[dN.1 G];exact N
def swapAt (j:Nat) (x y:α) (l:List α):List α:=(l.set (j+1) y).set j x
theorem b9B{A:List α}{x y}{R:List α}{j:Nat}(h:A.length=j):swapAt j x y (A++y::x::R)=A++x::y::R:=by
 subst h;unfold swapAt;rw[bK _ _ oM,show A.length+1-A.length=1 by omega];rw[bK _ _ oM,Nat.sub_self];rfl
theorem YJ.swap{k j l}(h:YJ lt k (j+1) l){x y}(O:l[j+1]?=some x)(Q:l[j]?=some y)(Z:lt x y=true):YJ lt k j (swapAt j x y l)∧(swapAt j x y l).Perm l:=by
 obtain⟨_,_,B,C,rfl,h1,_,h3,h4⟩:=h;rw[a7s h1]at O;cases O;obtain⟨A',_,rfl,G⟩:=b4x h1;rw[aB,bC,a7s G]at Q;cases Q;rw[aB,bC,b9B G];refine⟨⟨A',x,y::B,C,rfl,G,by rw[cZ];omega,by rw[aB,bC]at h3;exact h3,fun b N=>?_⟩,List.Perm.append_left _ (List.Perm.swap _ _ _)⟩;rcases fA.1 N with rfl|N
 ·exact Z
 exact h4 b N
theorem c0e(j:Nat)(x y:α)(l:List α):(swapAt j x y l).length=l.length:=by unfold swapAt;rw[dZ,dZ]
