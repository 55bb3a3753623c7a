/-
  Own texts on the laws of the seat, joined: the logic, and contracts of functions. Conditions: none.
-/
import Derived.Test.YtalapkjmkjmpjaaGreatDoorNmK
import Derived.Test.YtalapkjmkjmpjaaGreatDoorPK11
set_option linter.all false
set_option maxRecDepth 100000
set_option maxHeartbeats 40000000
open Bk renaming KU -> aA,CO -> aF,Ln -> aH,same -> aJ,WH -> aN,grp -> aS,allL -> aU,a7u -> bD,QG -> bH,a0I -> bI,a1V -> bW,norm -> dG,ZK -> dI,Idn -> dM,Fd -> dN,OI -> dS,VB -> dV,step1 -> eF,KO -> eG
open Ix renaming FK -> aB,Rec -> dP
open Go.Sx.Keeps renaming d -> aC,k -> bM,r -> bQ,n -> dH
open Go.Proofs.YtalapkjmkjmpjaaGreatDoor.Fv renaming f -> aG
open Go.Proofs.Tryz renaming prog -> aI
open Go.Sx.Ej renaming round -> aK,keep -> aV,perm -> bU,keepR -> cZ,a1b -> dR
open Go.Ending renaming returned -> aO
open Go.Sx.J renaming z -> aP,op -> aT,ez -> bY
open Go.Sx.Cj renaming loop -> aQ,EX -> aX
open Go.Sx.AX renaming c -> aW,z -> dF,s -> eH
open Go.Sx.JA renaming tk -> aY,fix -> bV
open Go.Sx.BL renaming s -> aZ,z -> bJ
open Go.Value renaming bool -> bC,slice -> dJ
open List renaming length_set -> bF,flatMap -> bT,foldl_cons -> dQ,take_zero -> dU,take_take -> dW
open Go.Sx.yX renaming YR -> bG,RU -> cO
open Option renaming toList_some -> bK
open Go.Sx.Src renaming row -> bP,slice -> dY
open Go.Sx.yY renaming toPure -> bZ
open Nat renaming add_zero -> dA,zero_lt_one -> dL
open Go.Sx.FT renaming text -> dB
open Go.Sx.GU renaming part -> dD,none -> dZ
open Bool renaming noConfusion -> dK
open Go.Sx.zJ renaming take -> dX
section
namespace Go.Proofs.YtalapkjmkjmpjaaGreatDoor
open _root_.Go.Proofs.Tryz
open Go Go.Sx
structure Rw (β:Type) where
  l:List β
  a:Option Addr
  c:Nat
abbrev Rw.v {β:Type} (x:Rw β):Value:= .slice x.a x.l.length x.c
abbrev rwC {β:Type} (x:Rw β):List Value:=[x.v]
theorem a9T{β:Type}(x:Rw β):(rwC x).length=1:=rfl
theorem a1g{β:Type}{cs sp:List Value}{o}{L:List (Rw β)}(h:cs.drop o=L.flatMap rwC++sp){i x}(G:L[i]?=some x):cs[o+i]?=some x.v:=by
 have A:=BO (f:=rwC) (n:=1) a9T h G 0 dL;rw[Nat.mul_one,dA]at A;exact A
def a0K (I:Heap) (x:Rw Fv):Prop:=zJ CV I x.l x.v∧∀y∈x.l,YH I y
theorem a0K.mono{I G x}(h:a0K I x)(A:Le I G):a0K G x:=⟨h.1.mono A,fun y M=>(h.2 y M).mono A⟩
def LsS (I:Heap) (L:List (Rw Fv)) (v:Value):Prop:=zJ rwC I L v∧∀x∈L,a0K I x
theorem LsS.mono{I G L v}(h:LsS I L v)(A:Le I G):LsS G L v:=⟨h.1.mono A,fun x M=>(h.2 x M).mono A⟩
def a4f (I:Heap) (L:List (Rw aH)) (v:Value):Prop:=zJ rwC I L v∧∀x∈L,zJ BH I x.l x.v
theorem a4f.mono{I G L v}(h:a4f I L v)(A:Le I G):a4f G L v:=⟨h.1.mono A,fun x M=>(h.2 x M).mono A⟩
def flt {β γ:Type} (φ:β→γ) (L:List (Rw β)):List γ:=L.flatMap fun x=>x.l.map φ
theorem a1q{β γ:Type}(φ:β→γ){L:List (Rw β)}{i x}(h:L[i]?=some x):flt φ (L.take (i+1))=flt φ (L.take i)++x.l.map φ:=by
 unfold flt;rw[uF,h,xP];simp
theorem KR{β γ:Type}(φ:β→γ){l:List β}{j x}(h:l[j]?=some x):(l.take (j+1)).map φ=(l.take j).map φ++[φ x]:=by
 rw[uF,h,wG];rfl
theorem b1K{β γ:Type}(φ:β→γ){L i r}(h:L[i]?=some r){j x}(A:r.l[j]?=some x):∃rest,flt φ L=(flt φ (L.take i)++(r.l.take j).map φ++[φ x])++rest:=by
 refine⟨(r.l.drop (j+1)).map φ++flt φ (L.drop (i+1)),?_⟩;have h1:flt φ L=flt φ (L.take (i+1))++flt φ (L.drop (i+1)):=by
  unfold flt;rw[←xP,uD]
 rw[h1,a1q φ h];have h2:r.l.map φ=(r.l.take j).map φ++[φ x]++(r.l.drop (j+1)).map φ:=by
  rw[←KR φ A,←wG,uD]
 rw[h2];simp only[yE]
theorem b0n{β γ:Type}(φ:β→γ){L}{i:Nat}{r}(h:L[i]?=some r):r.l.length≤(flt φ L).length:=by
 have h1:flt φ L=flt φ (L.take (i+1))++flt φ (L.drop (i+1)):=by
  unfold flt;rw[←xP,uD]
 rw[h1,a1q φ h,wV,wV,wO];omega
theorem c0k{α β:Type}[Inhabited β]{l:List α}{R:α→β→Prop}(h:∀p∈l,∃y,R p y):∃φ:α→β,∀p∈l,R p (φ p):=by
 classical
 refine⟨fun p=>if A:p∈l then(h p A).choose else default,fun p A=>?_⟩;simp only[A,dif_pos];exact(h p A).choose_spec
def JMF (J:Heap) (l:ML dM) (c:Nat) (xs:List dN):Prop:=MS l c∧∀id,(aS id xs=none→AQ l id=none)∧∀g,aS id xs=some g→∃y:Fv,y.f=g∧AQ l id=some (.agg (CV y).toArray)∧YH J y
theorem JMF.mono{I A l c xs}(h:JMF I l c xs)(G:Le I A):JMF A l c xs:=
 ⟨h.1,fun id=>⟨(h.2 id).1,fun g M=>let ⟨y,h1,h2,h3⟩:=(h.2 id).2 g M;⟨y,h1,h2,h3.mono G⟩⟩⟩
theorem JMF.nil I:JMF I [] 0 []:=⟨MS.nil,fun id=>⟨fun _=>rfl,fun g A=>by cases A⟩⟩
theorem JMF.put{J l c xs}(h:JMF J l c xs){x y}(G:aS (aF x) (xs++[x])=some y.f)(M:YH J y):JMF J (BF l (aF x) (.agg (CV y).toArray) c) (EJ l (aF x) c) (xs++[x]):=by
 refine⟨h.1.set _ _,fun id=>?_⟩;rw[MI]
 by_cases hid:id=aF x
 ·subst hid;rw[zF sI,G];exact⟨fun g=>(by cases g),fun g A=>(by cases A;exact⟨y,rfl,rfl,M⟩)⟩
 have A:aS id (xs++[x])=aS id xs:=by rw[dI];unfold eF;rw[zD (Ne.symm hid)]
 rw[zD (by simpa using hid),A];exact h.2 id
theorem c1X{xs x}(h:aS (aF x) xs=none):aS (aF x) (xs++[x])=some x:=by rw[dI,h];unfold eF;rw[zF rfl]
theorem c5f{xs x g}(h:aS (aF x) xs=some g):aS (aF x) (xs++[x])=some (Bk.a4k g x):=by rw[dI,h];unfold eF;rw[zF rfl]
theorem JMF.at{J l c xs}(h:JMF J l c xs):∃φ:dM×Value×Nat→Fv,∀p∈l,p.2.1= .agg (CV (φ p)).toArray∧aS p.1 xs=some (φ p).f:=by
 refine c0k (R:=fun(p:dM×Value×Nat) (y:Fv)=>p.2.1=Value.agg (CV y).toArray∧aS p.1 xs=some y.f) fun p G=>?_;obtain⟨id,v,n⟩:=p;have A:AQ l id=some v:=(WA h.1.1).2 ⟨n,G⟩;cases hg:aS id xs with
 |none=>rw[(h.2 id).1 hg]at A;cases A
 |some g=>
  obtain⟨y,h1,h2,-⟩:=(h.2 id).2 g hg;rw[h2]at A;exact⟨y,(sK A).symm,by rw[h1]⟩
theorem JMF.len{J l c xs}(h:JMF J l c xs):l.length≤xs.length:=by
 have h1:=ZT (l:=l.map (·.1)) (m:=xs.map aF) h.1.1 fun id A=>by
  cases hg:aS id xs with
  |none=>exact absurd A (IX.1 ((h.2 id).1 hg))
  |some g=>exact Bk.b8y xs hg
 rwa [wO,wO]at h1
theorem JMF.sorted{J l c xs}(h:JMF J l c xs){φ}(A:∀p∈l,p.2.1= .agg (CV (φ p)).toArray∧aS p.1 xs=some (φ p).f){ls:List Fv}(M:ls.Perm (l.map φ))(ho:ls.Pairwise fun p q=>eG q.f p.f=false):
 Bk.NZ xs ((ls.map aG).map dG)∧∀y∈ls,YH J y∧y.f.p.length≤dS xs:=by
 have O:∀y∈ls,∃p∈l,φ p=y:=fun y N=>vU.1 (M.mem_iff.1 N);refine⟨Bk.c9k ?_ (fun f=>?_) ?_,fun y N=>?_⟩
 ·have h1:(l.map φ).map (fun y=>aF y.f)=l.map (·.1):=by
   rw[wE];exact List.map_congr_left fun p M=>Bk.a9x (A p M).2
  rw[wE];have h2:=(M.map fun y:Fv=>aF y.f).nodup_iff;rw[h1]at h2;exact h2.2 h.1.1
 ·constructor
  ·intro hf;obtain⟨y,N,rfl⟩:=vU.1 hf;obtain⟨p,G,rfl⟩:=O y N;exact⟨p.1,(A p G).2⟩
  rintro⟨id,Q⟩;obtain⟨y,h1,h2,-⟩:=(h.2 id).2 f Q;obtain⟨n,Z⟩:=(WA h.1.1).1 h2;have h3:=(A _ Z).2;rw[Q]at h3;rw[vU];exact⟨φ (id,_,n),M.mem_iff.2 (vT Z),(sK h3).symm⟩
 ·rw[uV];exact ho
 obtain⟨p,G,rfl⟩:=O y N;obtain⟨h1,h2⟩:=A p G;obtain⟨z,h3,h4,h5⟩:=(h.2 p.1).2 _ h2;have h6:AQ l p.1=some p.2.1:=(WA h.1.1).2 ⟨p.2.2,G⟩;rw[h4,h1]at h6;have h7:(CV z).toArray=(CV (φ p)).toArray:=Value.agg.inj (sK h6);have h8:CV z=CV (φ p):=by have:=zC Array.toList h7;simpa using this
 have h9:z.v=(φ p).v:=by
  have:=zC (fun l:List Value=>l[3]?) h8;exact sK this
 refine⟨?_,Bk.a6z xs h2⟩;show a2G J (φ p).f.p (φ p).v;rw[←h3,←h9];exact h5
def JML (l:ML (List UInt8)) (c:Nat) (xs:List aH):Prop:=MS l c∧∀k,AQ l k=(bD k xs).map fun n=> .agg (BH (k,n)).toArray
theorem JML.nil:JML [] 0 []:=⟨MS.nil,fun _=>rfl⟩
theorem JML.put{l c xs}(h:JML l c xs){x n}(A:bW x.1 (bD x.1 xs) x=some n):JML (BF l x.1 (.agg (BH (x.1,n)).toArray) c) (EJ l x.1 c) (xs++[x]):=by
 refine⟨h.1.set _ _,fun k=>?_⟩;rw[MI,Bk.a5w]
 by_cases hk:k=x.1
 ·subst hk;rw[zF sI,A];rfl
 rw[zD (by simpa using hk),h.2 k];unfold bW;rw[zD (Ne.symm hk)]
theorem c4G{k} xs:∀{n:Int},bD k xs=some n→k∈xs.map (·.1):=by
 refine Bk.ND (P:=fun xs=>∀{n:Int},bD k xs=some n→k∈xs.map (·.1)) (fun {n} h=>by cases h) (fun xs x A=>?_) xs;intro n h;rw[Bk.a5w]at h;rw[wG,wB];unfold bW at h
 split at h
 ·rename_i G;exact .inr (by simp[G])
 exact .inl (A h)
theorem JML.len{l c xs}(h:JML l c xs):l.length≤xs.length:=by
 have h1:=ZT (l:=l.map (·.1)) (m:=xs.map (·.1)) h.1.1 fun k A=>by
  cases hg:bD k xs with
  |none=>exact absurd A (IX.1 (by rw[h.2 k,hg];rfl))
  |some n=>exact c4G xs hg
 rwa [wO,wO]at h1
def a4g (xs:List aH) (p:List UInt8×Value×Nat):aH:=(p.1,(bD p.1 xs).getD 0)
theorem JML.at{l c xs}(h:JML l c xs):∀p∈l,p.2.1= .agg (BH (a4g xs p)).toArray∧bD p.1 xs=some (a4g xs p).2:=fun p G=>by
 obtain⟨k,v,n⟩:=p;have A:AQ l k=some v:=(WA h.1.1).2 ⟨n,G⟩;rw[h.2 k]at A;cases hg:bD k xs with
 |none=>rw[hg]at A;cases A
 |some m=>
  rw[hg]at A;have e:a4g xs (k,v,n)=(k,m):=by unfold a4g;rw[hg];rfl
  rw[e];exact⟨(sK A).symm,rfl⟩
theorem JML.sorted{l c xs}(h:JML l c xs){ls}(A:ls.Perm (l.map (a4g xs)))(N:ls.Pairwise fun p q=>¬q.1<p.1):ls=aU xs:=by
 refine Bk.IsS.uniq (xs:=xs) ⟨?_,fun x=>?_⟩ (Bk.c5S xs)
 ·have h1:(l.map (a4g xs)).map (·.1)=l.map (·.1):=by rw[wE];rfl
  have h2:=(A.map fun y:aH=>y.1).nodup_iff;rw[h1]at h2;have h3:=vI.1 (h2.2 h.1.1);rw[uV]at h3;exact(List.pairwise_and_iff.2 ⟨N,h3⟩).imp fun {a b} ⟨O,Q⟩=>Bk.a4Z O (Ne.symm Q)
 rw[A.mem_iff,vU];constructor
 ·rintro⟨p,G,rfl⟩;exact(h.at p G).2
 intro M;have Z:AQ l x.1=some (.agg (BH (x.1,x.2)).toArray):=by rw[h.2,M];rfl
 obtain⟨n,hn⟩:=(WA h.1.1).1 Z;exact⟨_,hn,by unfold a4g;rw[M];rfl⟩
def FvN (I J:Heap) (z:Fv):Prop:=KZ (fun b=>I b=none) 3 EP J z.f.p z.v∧b9e z.v
theorem FvN.mono{I J A z}(h:FvN I J z)(G:Le J A):FvN I A z:=⟨h.1.mono G,h.2⟩
theorem FvN.YQ{I J z}(h:FvN I J z):YH J z:=⟨h.1.row,h.2⟩
def MgS (I J:Heap) (r:List Fv) (w:Value):Prop:=KZ (fun b=>I b=none) 52 CV J r w∧∀z∈r,FvN I J z
theorem cell_lt{α:Type}{f:α→List Value}{n:Nat}(A:∀x,(f x).length=n){sp:List Value}{l:List α}{k:Nat}{x:α}(h:l[k]?=some x){j:Nat}(G:j<n):k*n+j<(l.flatMap f++sp).length:=by
 have h1:=a1O A (sp:=sp) h j G;have h2:(f x)[j]?=some ((f x)[j]'(by rw[A];exact G)):=AA _;exact(xC.1 (h1.trans h2)).1
theorem c6f{dn ls:List Fv}{k x A}(G:dn.length=k)(M:ls[k]?=some x) p a c:((dn++ls.drop k).flatMap CV++A).set (k*4+3) (.slice a p.length c)=((dn++[(⟨⟨x.f.t,x.f.k,p⟩,a,c⟩:Fv)])++ls.drop (k+1)).flatMap CV++A:=by
 rw[a5e M,xP,xO,yE,uO _ _ (by rw[BZ CQ];omega),BZ CQ,G,show k*4+3-k*4=3 by omega];simp only[xP,xO,List.flatMap_nil,yE,vM];rfl
structure TM where
  k:Nat
  J:Heap
  dn:List Fv
theorem a7q{α:Type}(l:List α) k:l.take (min l.length k)=l.take k:=by
 rcases Nat.le_total l.length k with h|h
 ·rw[sW h,tY,tX h]
 rw[Nat.min_eq_right h]
structure TJ (α:Type) where
  i:Nat
  j:Nat
  J:Heap
  l:ML α
  c:Nat
theorem c0l L v (b4:L.length≤1000000000)(b5:(flt aG L).length≤1000000000)(ab:dS (flt aG L)≤1000000000) I (M:LsS I L v):yY aI 38 [v,.func (.func 39) #[] #[],.func (.func 40) #[] #[],.func (.func 43) #[] #[]] I []
 (fun e I' H'=>∃(ls:List Fv) (g:Gs),Bk.NZ (flt aG L) ((ls.map aG).map dG)∧(∀y∈ls,YH I' y∧y.f.p.length≤1000000000)∧AL 0 4 ls.length (ls.flatMap CV) g∧e= .returned (gV ls.length g)∧H'=gH 52 (ls.flatMap CV) g):=by
 obtain⟨pL,cL,rfl,_,-⟩:=id M.1;refine zN func38 fun w0 _=>?_;refine yU 7 ?_;refine aT rfl (BG rfl rfl rfl ?_);intro b1 an;refine yU 12 ?_;refine aQ (ι:=TJ (dM)) (fun y=>y.i≤L.length∧LsS y.J L (.slice pL L.length cL)∧JMF y.J y.l y.c (flt aG (L.take y.i))) (fun y=>L.length-y.i) (fun y=>[(1,.func (.func 39) #[] #[]),(2,.func (.func 40) #[] #[]),(3,.func (.func 43) #[] #[]),(9,.map (some b1)),(18,.slice pL L.length cL),(19,i64 (L.length:Int)),(20,i64 (y.i:Int))]) (fun y=>y.J) (fun y=>[(b1,zZ kvI y.l y.c)]) ⟨0,0,_,[],0⟩ ⟨sQ _,M,JMF.nil _⟩ rT rfl rfl ?_;rintro⟨i,_,_,m,c⟩ ⟨hi,M,A⟩;dsimp only at hi M A ⊢;refine yZ ?_ ?_<;>intro ao af
 ·have ac:i<L.length:=oM;obtain⟨⟨N,ra,rc⟩,Q⟩:∃r,L[i]?=some r:=⟨_,AA ac⟩;obtain⟨_,_,ap,_,hp⟩:=id M.1;cases ap;obtain⟨fb,fo,_,_,_,_,rfl,aq,ar⟩:=hp (zK ac);have Z:=M.2 _ (CJ Q);have b3:N.length≤_:=b0n aG Q;refine zW (fo+i) ?_;refine aP (DI isAgg30 (bG aq) (a1g ar Q)) ?_;refine bY 23 (.slice ra N.length rc) rfl rfl ?_;refine yU 11 ?_;refine aQ (ι:=TJ (dM)) (fun y=>y.j≤N.length∧LsS y.J L (.slice (some ⟨fb,fo,none⟩) L.length cL)∧a0K y.J ⟨N,ra,rc⟩∧JMF y.J y.l y.c (flt aG (L.take i)++(N.take y.j).map aG)) (fun y=>N.length-y.j) (fun y=>[(1,.func (.func 39) #[] #[]),(2,.func (.func 40) #[] #[]),(3,.func (.func 43) #[] #[]),(9,.map (some b1)),(18,.slice (some ⟨fb,fo,none⟩) L.length cL),(19,i64 (L.length:Int)),(20,i64 (i:Int)),(24,.slice ra N.length rc),(25,i64 (N.length:Int)),(26,i64 (y.j:Int))]) (fun y=>y.J) (fun y=>[(b1,zZ kvI y.l y.c)]) ⟨i,0,_,_,_⟩ ⟨sQ _,M,Z,by dsimp only;rw[dU,wC,yD];exact A⟩ rT rfl rfl ?_;rintro⟨_,j,_,m,c⟩ ⟨hj,M,Z,A⟩;dsimp only at hj M Z A ⊢;refine yZ ?_ ?_<;>intro au ag
  ·have a3:j<N.length:=oM;obtain⟨x,a1⟩:∃x,N[j]?=some x:=⟨_,AA a3⟩;obtain⟨_,_,ah,_,av⟩:=id Z.1;cases ah;obtain⟨_,ro,rcs,_,_,_,rfl,a4,aw⟩:=av (zK a3);have ad:=Z.2 x (CJ a1);obtain⟨_,a9⟩:=b1K aG Q a1;have ax:dS ((flt aG (L.take i)++(N.take j).map aG)++[x.f])≤1000000000:=by
    have h9:=ab;rw[a9,dV]at h9;dsimp only at h9;omega
   refine zW (ro+j*4) ?_;refine aP (CX XV FH (bG a4) (AY CQ aw a1)) ?_;refine yU 1 ?_;intro _ _;refine zO (d0C x _) ?_;refine yU 1 ?_;intro _ _;refine yU 8 ?_;rcases hg:aS (aF x.f) (flt aG (L.take i)++(N.take j).map aG)with _|g
   ·have a5:=(A.2 _).1 hg;refine aP (XE (kv:=kvI) (l:=m) (a:=aF x.f) rfl rfl rfl rfl a8T b8P LW (yX.at 2 rfl)) ?_;refine bY 36 (.tuple #[.agg #[i64 0,i64 0,str [],.slice none 0 0],.bool false]) rfl (by rw[a5];rfl) ?_;refine yU 4 ?_;intro _ _;refine yU 16 ?_;refine aT rfl (EY (kv:=kvI) (a:=(aF x.f)) 3 (.inr rfl) rfl rfl rfl rfl rfl a8T b8P rfl (aZ (aZ (aZ bJ))) ?_);refine yU 7 ?_;have a6:=A.put (x:=x.f) (y:=x) (c1X hg) ad;refine aV (aC (aC (aC (bM dH)))) ?_;refine aK ⟨i,j+1,_,BF m (aF x.f) (.agg (CV x).toArray) c,EJ m (aF x.f) c⟩ ⟨dO,M,Z,by dsimp only;rw[KR aG a1,←yE];exact a6⟩ dO rT rfl rfl
   obtain⟨y,ae,a5,ay⟩:=(A.2 _).2 g hg;refine aP (XE (kv:=kvI) (l:=m) (a:=aF x.f) rfl rfl rfl rfl a8T b8P LW (yX.at 2 rfl)) ?_;refine bY 36 (.tuple #[.agg (CV y).toArray,.bool true]) rfl (by rw[a5];rfl) ?_;refine yU 4 ?_;intro _ _;refine zX (c8k y x (by have h1:=Bk.a6z _ hg;rw[dV,Bk.a7M]at ax;rw[ae];omega) _ ay ad) ?_;intro _ _ _ O ai;have M:=M.mono O;have Z:=Z.mono O;have A:=A.mono O;have a4:=O _ _ a4;obtain⟨z,h,az,b0,rfl⟩:=ai;cases h;refine yU 7 ?_;refine aT rfl (EY (kv:=kvI) (a:=(aF x.f)) 3 (.inr rfl) rfl rfl rfl rfl rfl a8T b8P rfl (aZ (aZ (aZ bJ))) ?_);refine yU 7 ?_;have a6:=A.put (x:=x.f) (y:=z) (by rw[c5f hg,az,ae]) b0;refine aV (aC (aC (aC (bM dH)))) ?_;refine aK ⟨i,j+1,_,BF m (aF x.f) (.agg (CV z).toArray) c,EJ m (aF x.f) c⟩ ⟨dO,M,Z,by dsimp only;rw[KR aG a1,←yE];exact a6⟩ dO rT rfl rfl
  refine yU 10 ?_;refine aK ⟨i+1,0,_,_,_⟩ ⟨dO,M,by dsimp only;rw[a1q aG Q];rw[tX (oM:N.length≤j)]at A;exact A⟩ dO rT rfl rfl
 refine yU 6 ?_;refine Cj.persist an (fun _ aa G=>?_);have A:=A.mono aa;rw[tX (oM:L.length≤i)]at A;have b6:=A.len;obtain⟨φ,hφ⟩:=A.at;refine NG (c0H _ _) ?_;intro _ _ _ a2 aj al;have A:=A.mono a2;have G:=a2 _ _ G;obtain⟨kb,h,rfl⟩:=al;cases h;refine J.persist (aj _ (.head _)) (fun _ a7 a8=>?_);have A:=A.mono a7;have G:=a7 _ _ G;refine zX (b9D m φ _ [] [ptr kb 0] _ oM (c5e kb b1 m c A.1 φ (fun p hp=>(hφ p hp).1) _ a8 G)) ?_;intro _ _ _ a0 am;have A:=A.mono a0;have G:=a0 _ _ G;have a8:=a0 _ _ a8;obtain⟨ls,g,hpp,b2,hg,h,rfl⟩:=am;cases h;refine yU 4 ?_;obtain⟨hM,hS⟩:=A.sorted hφ hpp b2;refine zM ?_;exact⟨ls,g,hM,fun y hy=>⟨(hS y hy).1,FD (hS y hy).2 ab⟩,hg,rfl,yD _⟩
theorem b9l L v (ar:L.length≤1000000000)(au:(flt id L).length≤1000000000) I (N:a4f I L v):yY aI 28 [v,.func (.func 29) #[] #[],.func (.func 30) #[] #[],.func (.func 31) #[] #[]] I []
 (fun e _ H'=>∃g,AL 0 2 (aU (flt id L)).length ((aU (flt id L)).flatMap BH) g∧e= .returned (gV (aU (flt id L)).length g)∧H'=gH 56 ((aU (flt id L)).flatMap BH) g):=by
 obtain⟨pL,cL,rfl,_,-⟩:=id N.1;refine zN func28 fun w0 _=>?_;refine yU 7 ?_;refine aT rfl (BG rfl rfl rfl ?_);intro b1 ae;refine yU 12 ?_;refine aQ (ι:=TJ (List UInt8)) (fun y=>y.i≤L.length∧a4f y.J L (.slice pL L.length cL)∧JML y.l y.c (flt (id:aH→aH) (L.take y.i))) (fun y=>L.length-y.i) (fun y=>[(1,.func (.func 29) #[] #[]),(2,.func (.func 30) #[] #[]),(3,.func (.func 31) #[] #[]),(9,.map (some b1)),(18,.slice pL L.length cL),(19,i64 (L.length:Int)),(20,i64 (y.i:Int))]) (fun y=>y.J) (fun y=>[(b1,zZ (fun a:List UInt8=>str a) y.l y.c)]) ⟨0,0,_,[],0⟩ ⟨sQ _,N,JML.nil⟩ rT rfl rfl ?_;rintro⟨i,_,_,m,c⟩ ⟨hi,N,A⟩;dsimp only at hi N A ⊢;refine yZ ?_ ?_<;>intro af a8
 ·have a7:i<L.length:=oM;obtain⟨⟨M,ra,rc⟩,O⟩:∃r,L[i]?=some r:=⟨_,AA a7⟩;obtain⟨_,_,ag,_,hp⟩:=id N.1;cases ag;obtain⟨fb,fo,_,_,_,_,rfl,ah,ai⟩:=hp (zK a7);have Z:=N.2 _ (CJ O);have aq:M.length≤_:=b0n (id:aH→aH) O;refine zW (fo+i) ?_;refine aP (DI isAgg53 (bG ah) (a1g ai O)) ?_;refine bY 23 (.slice ra M.length rc) rfl rfl ?_;refine yU 11 ?_;refine aQ (ι:=TJ (List UInt8)) (fun y=>y.j≤M.length∧a4f y.J L (.slice (some ⟨fb,fo,none⟩) L.length cL)∧zJ BH y.J M (.slice ra M.length rc)∧JML y.l y.c (flt (id:aH→aH) (L.take i)++(M.take y.j).map (id:aH→aH))) (fun y=>M.length-y.j) (fun y=>[(1,.func (.func 29) #[] #[]),(2,.func (.func 30) #[] #[]),(3,.func (.func 31) #[] #[]),(9,.map (some b1)),(18,.slice (some ⟨fb,fo,none⟩) L.length cL),(19,i64 (L.length:Int)),(20,i64 (i:Int)),(24,.slice ra M.length rc),(25,i64 (M.length:Int)),(26,i64 (y.j:Int))]) (fun y=>y.J) (fun y=>[(b1,zZ (fun a:List UInt8=>str a) y.l y.c)]) ⟨i,0,_,_,_⟩ ⟨sQ _,N,Z,by dsimp only;rw[dU,wC,yD];exact A⟩ rT rfl rfl ?_;rintro⟨_,j,_,m,c⟩ ⟨hj,N,Z,A⟩;dsimp only at hj N Z A ⊢;refine yZ ?_ ?_<;>intro aj a9
  ·have a0:j<M.length:=oM;obtain⟨x,a1⟩:∃x,M[j]?=some x:=⟨_,AA a0⟩;obtain⟨_,_,aa,_,al⟩:=id Z;cases aa;obtain⟨_,ro,rcs,_,_,_,rfl,am,an⟩:=al (zK a0);refine zW (ro+j*2) ?_;refine aP (CX isAgg56 NQ (bG am) (AY DW an a1)) ?_;refine yU 1 ?_;intro _ _;refine zO (c8l x _) ?_;refine yU 8 ?_;rcases hg:bD x.1 (flt (id:aH→aH) (L.take i)++(M.take j).map (id:aH→aH))with _|n9
   ·have a2:AQ m x.1=none:=by rw[A.2,hg];rfl
    refine aP (XE (kv:=(fun a:List UInt8=>str a)) (l:=m) (a:=x.1) rfl rfl rfl rfl a9J (dB AV) QK (yX.at 1 rfl)) ?_;refine bY 36 (.tuple #[.agg #[str [],i64 0],.bool false]) rfl (by rw[a2];rfl) ?_;refine yU 4 ?_;intro _ _;refine yU 16 ?_;refine aT rfl (EY (kv:=(fun a:List UInt8=>str a)) (a:=(x.1)) 2 (.inr rfl) rfl rfl rfl rfl rfl a9J (dB AV) rfl (aZ (aZ bJ)) ?_);refine yU 7 ?_;have a3:=A.put (x:=x) (n:=x.2) (by rw[hg];unfold bW;rw[zF rfl]);refine aV (aC (aC (bM dH))) ?_;refine aK ⟨i,j+1,_,BF m (x.1) (.agg (BH (x.1,x.2)).toArray) c,EJ m (x.1) c⟩ ⟨dO,N,Z,by dsimp only;rw[KR (id:aH→aH) a1,←yE];exact a3⟩ dO rT rfl rfl
   have a2:AQ m x.1=some (.agg (BH (x.1,n9)).toArray):=by rw[A.2,hg];rfl
   refine aP (XE (kv:=(fun a:List UInt8=>str a)) (l:=m) (a:=x.1) rfl rfl rfl rfl a9J (dB AV) QK (yX.at 1 rfl)) ?_;refine bY 36 (.tuple #[.agg (BH (x.1,n9)).toArray,.bool true]) rfl (by rw[a2];rfl) ?_;refine yU 4 ?_;intro _ _;refine zO (c5x (x.1,n9) x _) ?_;refine yU 7 ?_;refine aT rfl (EY (kv:=(fun a:List UInt8=>str a)) (a:=(x.1)) 2 (.inr rfl) rfl rfl rfl rfl rfl a9J (dB AV) rfl (aZ (aZ bJ)) ?_);refine yU 7 ?_;have a3:=A.put (x:=x) (n:=Bk.W (n9+x.2)) (by rw[hg];unfold bW;rw[zF rfl]);refine aV (aC (aC (bM dH))) ?_;refine aK ⟨i,j+1,_,BF m (x.1) (.agg (BH (x.1,Bk.W (n9+x.2))).toArray) c,EJ m (x.1) c⟩ ⟨dO,N,Z,by dsimp only;rw[KR (id:aH→aH) a1,←yE];exact a3⟩ dO rT rfl rfl
  refine yU 10 ?_;refine aK ⟨i+1,0,_,_,_⟩ ⟨dO,N,by dsimp only;rw[a1q (id:aH→aH) O];rw[tX (oM:M.length≤j)]at A;exact A⟩ dO rT rfl rfl
 refine yU 6 ?_;refine Cj.persist ae (fun _ a4 G=>?_);rw[tX (oM:L.length≤i)]at A;have av:=A.len;have hφ:=A.at;refine NG (b8W _ _) ?_;intro _ _ _ a6 ab ac;have G:=a6 _ _ G;obtain⟨kb,h,rfl⟩:=ac;cases h;refine J.persist (ab _ (.head _)) (fun _ a4 a5=>?_);have G:=a4 _ _ G;refine zX (c0q m (a4g (flt (id:aH→aH) L)) _ [] [ptr kb 0] _ oM (c5a kb b1 m c A.1 (a4g (flt (id:aH→aH) L)) (fun p hp=>(hφ p hp).1) _ a5 G)) ?_;intro _ _ _ Q ad;have G:=Q _ _ G;have a5:=Q _ _ a5;obtain⟨ls,g,ao,ap,hg,h,rfl⟩:=ad;cases h;refine yU 4 ?_;obtain rfl:=A.sorted ao ap;refine zM ?_;exact⟨g,hg,rfl,yD _⟩
theorem NH L v (am:L.length≤1000000000)(an:(flt aG L).length≤1000000000)(ao:dS (flt aG L)≤1000000000) I (hL:LsS I L v):yY aI 18 [v] I []
 (fun e I' H'=>∃(r:List Fv) (w:Value),e= .returned w∧MgS I I' r w∧Bk.NZ (flt aG L) (r.map aG)∧H'=[]):=by
 refine zN func18 fun w0 a7=>?_;refine NG (c0l L v am an ao _ hL) ?_;intro _ _ _ _ ap aq;obtain⟨ls,g,hM,a0,hg,h,rfl⟩:=aq;cases h;have a8:=hg.base ap;have ag:=hM.len;rw[wO,wO]at ag;have M:∀z∈ls,YH _ z:=fun z Q=>(a0 z Q).1;have hB:∀z∈ls,z.f.p.length≤1000000000:=fun z Q=>(a0 z Q).2;clear a0;refine yU 6 ?_;rcases g with _|⟨gb,gc,a9⟩
 ·obtain⟨ar,-⟩:=a8;obtain rfl:=wR.1 ar;refine yU 1 ?_;refine bY 8 (.slice none 0 0) rfl rfl ?_;refine yU 5 ?_;refine Cj.rounds 1 ?_;refine Rj.succ ?_;refine yU 6 ?_;refine Cj.cond rfl (fun aa=>dK (Eq.trans (Eq.symm (by first|rfl|decide)) aa)) (fun aa=>?_);refine zM ?_;exact⟨[],_,rfl,⟨KZ.nil,fun _ h=>by cases h⟩,hM,rfl⟩
 obtain⟨ab,au,av⟩:=a8;refine yU 6 ?_;refine aQ (ι:=TM) (fun y=>y.k≤ls.length∧y.dn.length=y.k∧y.dn.map aG=((ls.take y.k).map aG).map dG∧(∀z∈y.dn,FvN I y.J z)∧(∀z∈ls,YH y.J z)) (fun y=>ls.length-y.k) (fun y=>[(3,.slice (some ⟨gb,0,none⟩) ls.length gc),(8,.slice (some ⟨gb,0,none⟩) ls.length gc),(9,i64 (ls.length:Int)),(10,i64 (y.k:Int))]) (fun y=>y.J) (fun y=>[(gb,yV 52 ((y.dn++ls.drop y.k).flatMap CV++a9))]) ⟨0,_,[]⟩ ⟨sQ _,rfl,rfl,fun _ h=>(by cases h),M⟩ rT rfl rfl ?_;rintro⟨k,_,dn⟩ ⟨hk,a1,a2,N,M⟩;dsimp only at hk a1 a2 N M ⊢;refine yZ ?_ ?_<;>intro aw ah
 ·have ax:k<ls.length:=oM;obtain⟨x,O⟩:∃x,ls[k]?=some x:=⟨_,AA ax⟩;have ay:=M x (CJ O);have az:=hB x (CJ O);have ac:(dn++ls.drop k)[k]?=some x:=by rw[xI oM,show k-dn.length=0 by omega,xH,dA];exact O
  refine zW (k*4) ?_;refine aP (zY (off':=k*4+3) IB KD) ?_;refine aP (BU rfl rfl a0A (yX.at 0 rfl) ((a1O CQ ac 3 dE).trans rfl)) ?_;refine NG (c2B x.f.p x.v az _ ay) ?_;intro _ _ _ Z b0 ai;have N:=fun G A=>(N G A).mono Z;have M:=fun G A=>(M G A).mono Z;obtain⟨gq,b1,h,rfl⟩:=ai;cases h;have hq:=b1.base b0;refine J.perm (H':=[_]++gH _ _ gq) uQ ?_;refine RS [_] (c4F x.f.p gq hq oM _) ?_;rintro _ _ _ a3 ⟨h,rfl⟩;cases h;have b2:AL w0.heap.size 1 (x.f.p.mergeSort fun x y=>decide (x≤y)).length ((x.f.p.mergeSort fun x y=>decide (x≤y)).flatMap EP) gq:=by rw[wM];exact PN hq (by rw[BZ GN,BZ GN,wM])
  have N:=fun G A=>(N G A).mono a3;have M:=fun G A=>(M G A).mono a3;refine yU 6 ?_;refine bY 23 (gV (x.f.p.mergeSort fun x y=>decide (x≤y)).length gq) rfl (by rw[wM]) ?_;refine RS [_] (b6s (x.f.p.mergeSort fun x y=>decide (x≤y)) gq b2 (by rw[wM];omega) _) ?_;rintro _ _ _ a4 ⟨gr,ad,h,rfl⟩;cases h;rw[Bk.OX]at ad ⊢;have N:=fun G A=>(N G A).mono a4;have M:=fun G A=>(M G A).mono a4;refine J.perm (H':=gH 3 ((bH x.f.p).flatMap EP) gr++[_]) uQ ?_;refine J.a9v GN dE ad rfl (fun _ a5 a6=>?_);have N:=fun G A=>(N G A).mono a5;have M:=fun G A=>(M G A).mono a5;have ae:=b0P (bH x.f.p).length gr;obtain⟨pw,cw,af⟩:=rowLen a6.row;refine bY 24 (.slice pw (bH x.f.p).length cw) rfl af ?_;rw[af]at a6 ae;refine zW (k*4) ?_;refine aP (zY (off':=k*4+3) IB KD) ?_;refine aT rfl (MG 0 rfl rfl rfl rfl rfl rfl KD rfl (.inl rfl) (cell_lt CQ ac dE) bJ ?_);refine yU 7 ?_;refine aK ⟨k+1,_,dn++[⟨dG x.f,pw,cw⟩]⟩ ⟨dO,by rw[wV,a1];rfl,by dsimp only;rw[KR aG O,wG,wG,a2];rfl,fun z Q=>(wB.1 Q).elim (N z) fun Q=>by rw[vN.1 Q];exact⟨a6.imp fun b hb=>a7.dom hb,ae⟩,M⟩ dO rT rfl (by dsimp only;rw[show dG x.f=⟨x.f.t,x.f.k,bH x.f.p⟩ from rfl,←c6f a1 O];rfl)
 refine yU 12 ?_;have b3:ls.drop k=[]:=xX oM;have b4:ls.length=dn.length:=oM;rw[b3,yD];refine Ej.persist ab (fun _ aj al=>?_);have N:=fun G A=>(N G A).mono aj;refine zM ?_;rw[BZ CQ]at au av;exact⟨dn,_,rfl,⟨⟨_,_,by rw[b4],oM,fun _=>⟨gb,a9,rfl,a7.dom ab,al⟩⟩,N⟩,by rw[a2,tX (oM:ls.length≤k)];exact hM,rfl⟩
theorem c9v{l a c v H}(h:QA 56 BH l v H)(A:v= .slice a l.length c) k:QA 56 BH (l.take k) (.slice a (min l.length k) (min l.length k)) H:=by
 subst A;have:=b4Z h (sV l.length k)
 rwa [a7q]at this
theorem c4P L v most (M:L.length≤1000000000)(N:(flt id L).length≤1000000000) I (hL:a4f I L v):yY aI 13 [v,i64 most] I []
 (fun e _ H'=>∃w,e= .returned w∧QA 56 BH ((aU (flt id L)).take most.toNat) w H'):=by
 refine zN func13 fun w0 _=>?_;refine zX (b9l L v M N _ hL) ?_;intro _ _ _ _ O;obtain⟨g,hg,h,rfl⟩:=O;cases h;have A:QA 56 BH (aU (flt id L)) (gV (aU (flt id L)).length g) (gH 56 ((aU (flt id L)).flatMap BH) g):=QA.c7f DW dE rfl hg;obtain⟨Q,Z,G,a0⟩:=c1c A;refine bY 6 (.slice Q (aU (flt id L)).length Z) rfl G ?_;refine zO (c3t Q (aU (flt id L)).length Z most a0 _) ?_;refine yU 4 ?_;refine bU (H':=gH 56 ((aU (flt id L)).flatMap BH) g) (.of_eq (yD _).symm) ?_;refine zM ?_;exact⟨_,rfl,c9v A G _⟩
end Go.Proofs.YtalapkjmkjmpjaaGreatDoor
end
namespace Go.Sx
open Go
section
variable {P:Program} {K i j:TypeId} {f0 f1:Field}
def EqK {α:Type} [BEq α] (P:Program) (K:TypeId) (kv:α→Array Value):Prop:=∀a b w,(Op.equalIn 10000 K (.agg (kv a)) (.agg (kv b))).run P w= .ok (a == b) w
theorem EqK.c0C(N:P.underlying K=some (.struct #[f0,f1]))(O:P.stoodInHeld K=false)(Q:f0.name≠ "_")(Z:f1.name≠ "_")(o0:f0.offset=0)(o1:f1.offset=1)(t0:f0.type=i)(A:f1.type=i)(G:P.underlying i=some (.int .i64))(M:∀w,(isAgg i).run P w= .ok false w):
 EqK P K (fun a:Int×Int=> #[i64 a.1,i64 a.2]):=by
 subst t0;exact fun a b w=>VE N O Q Z o0 o1 M (A▸M) (x0:=i64 a.1) (x1:=i64 a.2) (y0:=i64 b.1) (y1:=i64 b.2) w (fun d w=>run_equalIn_int w d _ .i64 .i64 a.1 b.1 G) (fun d w=>run_equalIn_int w d _ .i64 .i64 a.2 b.2 (A▸G)) 9998
theorem EqK.c8I(G:P.underlying K=some (.struct #[f0,f1]))(M:P.stoodInHeld K=false)(N:f0.name≠ "_")(O:f1.name≠ "_")(Q:f0.offset=0)(Z:f1.offset=1)(t0:f0.type=i)(A:f1.type=j)(hi:P.underlying i=some .string)(hj:P.underlying j=some (.int .i64))(ha:∀w,(isAgg i).run P w= .ok false w)(hb:∀w,(isAgg j).run P w= .ok false w):
 EqK P K (fun a:List UInt8×Int=> #[str a.1,i64 a.2]):=by
 subst t0;exact fun a b w=>VE G M N O Q Z ha (A▸hb) (x0:=str a.1) (x1:=i64 a.2) (y0:=str b.1) (y1:=i64 b.2) w (fun d w=>a2g hi a.1 b.1 d w) (fun d w=>run_equalIn_int w d _ .i64 .i64 a.2 b.2 (A▸hj)) 9998
end
section
variable {cx:Cx} {S:World→Prop} {ev0:Env} {o:Oper} {α:Type} [BEq α] {t:TypeId} {kv:α→Array Value}
theorem a3e{x y U a b}{vs A:List Value}(ho:o.op= .binOp .eql t x y U)(M:ev ev0 x=some (.agg vs.toArray))(N:ev ev0 y=some (.agg A.toArray))(O:vs.toArray=kv a)(Q:A.toArray=kv b)
 (hK:EqK cx.P t kv)(hq:cx.P.eqGuardType cx.P.depth t=false):BN cx o ev0 S (.bool (a == b)):=by
 intro w0 w Z _;have G:(eqGuard .eql t x y (.agg vs.toArray) (.agg A.toArray)).run cx.P w= .ok () w:=by
  simp[eqGuard,hq]
 have h1:=run_eql_struct (P:=cx.P) w t vs.toArray A.toArray;rw[O]at h1 G M;rw[Q]at h1 G N;rw[hK a b w]at h1;simp[execOp,ho,Z.eval M,Z.eval N,G,h1]
theorem b8u{x y U a b}{vs A:List Value}(ho:o.op= .binOp .neq t x y U)(M:ev ev0 x=some (.agg vs.toArray))(N:ev ev0 y=some (.agg A.toArray))(O:vs.toArray=kv a)(Q:A.toArray=kv b)
 (hK:EqK cx.P t kv)(hq:cx.P.eqGuardType cx.P.depth t=false):BN cx o ev0 S (.bool (a != b)):=by
 intro w0 w Z _;have G:(eqGuard .neq t x y (.agg vs.toArray) (.agg A.toArray)).run cx.P w= .ok () w:=by
  simp[eqGuard,hq]
 have h1:=run_neq_struct (P:=cx.P) w t vs.toArray A.toArray;rw[O]at h1 G M;rw[Q]at h1 G N;rw[hK a b w]at h1;simp[execOp,ho,Z.eval M,Z.eval N,G,h1,bne]
end
section
variable {cx:Cx} {S:World→Prop} {ev0:Env} {o:Oper}
end
theorem Pure.borrow{P f args I B v}(A:Enters P f)(h:∀J,Le I J→(∀p∈B,J p.1=some p.2)→Pure P f args J v):yY P f args I B (fun e _ H'=>e= .returned v∧H'=B):=by
 refine yY.b1p A fun G M=>?_;refine(yY.borrow (h (ZX B I) (b3t M) (a1r G))).mono fun e _ H' _ ⟨J,K,⟨h1,h2,h3⟩,N,_,_⟩=>⟨h1,?_⟩;subst h3;rw[N,yD]
end Go.Sx
section
namespace Go.Proofs.YtalapkjmkjmpjaaGreatDoor
open _root_.Go.Proofs.Tryz
open Go Go.Sx
abbrev a7S (t:dP):Array Value:= #[i64 t.1,i64 t.2]
theorem a6u:EqK aI 42 a7S:=EqK.c0C a0y kR dE dE rfl rfl rfl rfl tU3 GZ
theorem a0Z{cs sp:List Value}{o k}{es:List DT}{x}(h:cs.drop o=es.flatMap JG++sp)(A:es[k]?=some x):(cs.drop (o+k*5)).take 2=recC x.t:=by
 have h1:=AY JQ h A;rw[show(cs.drop (o+k*5)).take 2=((cs.drop (o+k*5)).take 5).take 2 by rw[dW,show min 2 5=2 from rfl],h1];rfl
theorem c5R{a b}(h:a.1≠b.1):aB a b=decide (a.1<b.1):=by unfold aB;rw[zI (p:=a.1=b.1) h];simp
theorem c6X{a b}(h:a.1=b.1):aB a b=decide (a.2<b.2):=by unfold aB;rw[zH h,h,zI (Int.lt_irrefl _)];simp
def DY (es:List DT) (t:dP):Nat:=(es.takeWhile fun x=>aB x.t t).length
def GY (es:List DT) (t:dP):Bool:=match es[DY es t]? with
 |none=>false
 |some x=>x.t == t
def FX (es:List DT) (e:DT):List DT:=es.take (DY es e.t)++[e]++es.drop (if GY es e.t then DY es e.t+1 else DY es e.t)
theorem TK x es t:DY (x::es) t=if aB x.t t then DY es t+1 else 0:=by
 unfold DY;rw[uH];split<;>simp_all
theorem b0G:∀(es:List DT) (t:dP),DY es t≤es.length
 |[],_=>sQ _
 |x::r,t=>by rw[TK];have:=b0G r t;split<;>simp<;>omega
theorem b0s:∀{es:List DT} {t:dP} {k:Nat},(∀x∈es.take k,aB x.t t=true)→(∀x,es[k]?=some x→aB x.t t=false)→k≤es.length→DY es t=k
 |[],_,k,_,_,hk=>by
  have:k=0:=by simpa using hk
  subst this;rfl
 |x::r,t,0,_,h2,_=>by rw[TK,zD (by rw[h2 x rfl];decide)]
 |x::r,t,k+1,h1,h2,hk=>by
  rw[TK,zF (h1 x (by rw[tV];exact .head _)),b0s (k:=k) (fun y A=>h1 y (by rw[tV];exact .tail _ A)) (fun y A=>h2 y (by rw[List.getElem?_cons_succ];exact A)) (by simpa using hk)]
theorem c0O{es t k x}(h:DY es t=k)(A:es[k]?=some x):GY es t=(x.t == t):=by unfold GY;rw[h,A]
theorem b0Y{es t k}(h:DY es t=k)(A:es.length≤k):GY es t=false:=by unfold GY;rw[h,xE A]
theorem c6h{es:List DT}{t k x}(h:∀y∈es.take k,aB y.t t=true)(A:es[k]?=some x)(M:aB x.t t=true):∀y∈es.take (k+1),aB y.t t=true:=by
 obtain⟨G,A⟩:=xC.1 A;rw[tN G,A];intro y N;rcases wB.1 N with g|g
 ·exact h y g
 rw[vN.1 g];exact M
theorem ZW x es t:GY (x::es) t=if aB x.t t then GY es t else x.t == t:=by
 unfold GY;rw[TK]
 by_cases h:aB x.t t=true
 ·rw[zF h,zF h];rfl
 rw[zD h,zD h];rfl
theorem b5h e:∀es:List DT,(FX es e).map zQ=Ix.OM e.t (Ix.vals e.fs) (es.map zQ)
 |[]=>rfl
 |x::r=>by
  have A:=b5h e r;unfold FX at A ⊢;rw[TK,ZW,wF];unfold Ix.OM
  by_cases h:aB x.t e.t=true
  ·rw[zF h,zF h,zF h,←A];have G:(if GY r e.t=true then DY r e.t+1+1 else DY r e.t+1)=(if GY r e.t=true then DY r e.t+1 else DY r e.t)+1:=by split<;>rfl
   rw[G];rfl
  rw[zD h,zD h,zD h]
  by_cases h2:x.t=e.t
  ·rw[zF h2,zF (by simpa using h2)];rfl
  rw[zD h2,zD (by simpa using h2)];rfl
theorem b4l es e:(FX es e).length≤es.length+1:=by
 unfold FX;have:=b0G es e.t;simp only[wV,wI,wS,wJ]
 split<;>omega
theorem b5t{es e x}(h:x∈FX es e):x=e∨x∈es:=by
 unfold FX at h;rcases wB.1 h with g|g
 ·rcases wB.1 g with g|g
  ·exact .inr (vO g)
  exact .inl (vN.1 g)
 exact .inr (vP g)
theorem b2a{es t}(h:GY es t=true):DY es t<es.length:=by
 rcases tC (DY es t) es.length with g|g
 ·exact g
 rw[b0Y rfl g]at h;cases h
theorem a7Y{I es v}(h:EU I es v){l:List DT}(A:∀x∈l,x∈es):∀x∈l,(JG x).all Value.oneCell'=true:=fun x G=>by
 obtain⟨p,c,M,-⟩:=(h.2 x (A x G)).1;exact a2X M
theorem EU.nil{I:Heap}:EU I [] (.slice none 0 0):=⟨zJ.nil,fun _ h=>by cases h⟩
theorem EU.len{I es v}(h:EU I es v):∃p c,v= .slice p es.length c∧es.length≤c:=let ⟨p,c,h,A,_⟩:=h.1;⟨p,c,h,A⟩
theorem a3n a b I:Pure aI 90 [AB a,AB b] I (.bool (aB a b)):=by
 refine bZ ?_;refine zN func90 fun w0 _=>?_;refine yU 3 ?_;intro _ _;refine yU 1 ?_;intro _ _;refine yZ ?_ ?_<;>intro A G
 ·have M:=c5R (bne_iff_ne.1 A);refine zV ?_;rw[M];exact rT
 have M:=c6X (EC A);refine zV ?_;rw[M];exact rT
theorem b3Y rb w es t (hl:es.length≤1000000) I (a9:I rb=some (yV 130 [w]))(hE:EU I es w):Pure aI 84 [ptr rb 0,AB t] I (.tuple #[i64 (DY es t:Int),.bool (GY es t)]):=by
 refine bZ ?_;obtain⟨p,c,rfl,_,hp⟩:=id hE.1;refine zN func84 fun w0 _=>?_;refine yU 3 ?_;intro b1 _;refine yU 11 ?_;refine aQ (ι:=Nat) (fun y=>y≤es.length∧∀x∈es.take y,aB x.t t=true) (fun y=>es.length-y) (fun y=>[(0,ptr rb 0),(3,ptr b1 0),(6,i64 (y:Int))]) (fun y=>_) (fun y=>[(b1,yV 42 [i64 t.1,i64 t.2])]) 0 ⟨sQ _,fun x hx=>by simp at hx⟩ rT rfl rfl ?_;rintro y ⟨hy,O⟩;refine yZ ?_ ?_<;>intro aa a6
 ·have a3:y<es.length:=oM;obtain⟨x,A⟩:∃x,es[y]?=some x:=⟨_,AA a3⟩;obtain⟨_,eo,_,_,_,_,rfl,a4,a5⟩:=hp (zK a3);refine yU 4 ?_;refine aX [0] [] 11 kR ?_;have ab:=a9;have a2:=a4;refine zW (eo+y*5) ?_;refine yU 1 ?_;refine JA.zt 7 rfl (CX FY BM (cO a2) (a0Z a5 A)) ?_;refine zO (a3n x.t t _) ?_;refine DF ?_ ?_<;>intro Q
  ·have Z:aB x.t t=false:=by have h:=Q;simpa using h
   refine yU 2 ?_;refine Ej.a1C rfl ?_;refine yU 4 ?_;have G:DY es t=y:=b0s O (fun z hz=>by rw[A]at hz;cases hz;exact Z) hy;have a0:=c0O G A;refine aX [0] [] 22 kR ?_;refine yU 9 ?_;refine JA.split 37 rfl (fun M=>?_) (fun M=>?_)
   rotate_left
   ·have a7:=DN M;omega
   have a7:=DK M;refine yU 5 ?_;refine bV CP (fun N=>?_);refine JA.tkG 14 8 37 true _ rfl N rfl rfl M (FZ (off':=eo+y*5) SY NR) ?_;refine yU 1 ?_;refine bV CP (fun N=>?_);refine JA.tkG 16 8 37 true _ rfl N rfl rfl M (CX FY BM (cO a4) (a0Z a5 A)) ?_;refine yU 1 ?_;refine bV CP (fun N=>?_);refine JA.tkG 18 8 37 true _ rfl N rfl rfl M (a3e (kv:=a7S) (a:=x.t) (b:=t) rfl rfl rfl rfl rfl a6u kR) ?_;refine zV ?_;rw[G,a0];exact rT
  have Z:aB x.t t=true:=by have h:=Q;simpa using h
  refine yU 8 ?_;refine aK (y+1) ⟨oM,c6h O A Z⟩ oM rT rfl rfl
 refine yU 6 ?_;have G:DY es t=y:=b0s O (fun x hx=>absurd (xC.1 hx).1 oM) hy;have a0:=b0Y G oM;refine aX [0] [] 22 kR ?_;refine yU 9 ?_;refine JA.split 37 rfl (fun a1=>?_) (fun a1=>?_)
 ·have a8:=DK a1;omega
 have a8:=DN a1;refine zV ?_;rw[G,a0];exact rT
theorem c2d A w es t (M:es.length≤1000000) I (N:EU I es w):yY aI 84 [ptr A 0,AB t] I [(A,yV 130 [w])] (fun e _ H'=>e= .returned (.tuple #[i64 (DY es t:Int),.bool (GY es t)])∧H'=[(A,yV 130 [w])]):=
 Pure.borrow (Enters.of func84 dE rfl) fun J G O=>b3Y A w es t M J (O (A,_) (.head _)) (N.mono G)
theorem zJ.from{α:Type}{f:α→List Value}{sz:Nat}(A:∀x,(f x).length=sz){I l a c}(h:zJ f I l (.slice a l.length c)){j:Nat}(G:j≤l.length):zJ f I (l.drop j) (.slice (a3T a c j sz) (l.length-j) (c-j)):=by
 have h1:=zJ.cut A h G (tH _)
 rwa [tX (by rw[wS];omega)]at h1
theorem a9G a b e:((([]:List Value)++a.flatMap JG)++JG e)++b.flatMap JG=(a++[e]++b).flatMap JG:=sI
theorem EU.put{I G es e w v}(h:EU I es w)(M:KC I e.fs e.v)(A:Le I G)(N:zJ JG G (FX es e) v):EU G (FX es e) v:=⟨N,fun x O=>by
 rcases b5t O with rfl|g
 ·exact M.mono A
 exact(h.2 x g).mono A⟩
theorem c8i rb w es e (hl:es.length≤1000000) I (G:EU I es w)(hr:KC I e.fs e.v):yY aI 52 [ptr rb 0,.agg (JG e).toArray] I [(rb,yV 130 [w])] (fun ev I' H'=>∃w',ev= .returned (.tuple #[])∧EU I' (FX es e) w'∧H'=[(rb,yV 130 [w'])]):=by
 have A:=G.1;obtain⟨p,c,rfl,_⟩:=G.len;obtain⟨_,_,a7,-,-⟩:=id hr.1;have a3:=b0G es e.t;have ae:(es.take (DY es e.t)).length=DY es e.t:=by rw[wI];omega
 refine zN func52 fun w0 _=>?_;refine yU 3 ?_;intro _ _;refine yU 7 ?_;refine J.pull (Pull.s Pull.z) ?_;refine zX (c2d rb _ es e.t hl _ G) ?_;intro _ _ _ O a8;have G:=G.mono O;have hr:=hr.mono O;have A:=A.mono O;obtain⟨h,rfl⟩:=a8;cases h;refine yU 20 ?_;refine aP (IG (k:=DY es e.t) rfl rfl rfl SY NR rfl oM) ?_;refine aT rfl (zT (by':=47) (n:=0) (g:=none) (xs:=[]) [_,_] rfl rfl rfl rfl rfl SY (.inr ⟨_,SY⟩) kR NR a2y rfl rT rfl (bP JQ (dX A a3) (a7Y G (fun x hx=>vO hx))) oM ?_);intro _ a9;refine yU 8 ?_;intro _ _;refine aT rfl (zT (by':=47) [_,_,_] rfl rfl rfl rfl rfl SY (.inr ⟨_,SY⟩) kR NR a2y rfl a9 rfl (dY (yX.at 0 rfl) rfl rfl (a2X a7)) oM ?_);intro _ a4;refine DF ?_ ?_<;>intro Q
 ·have a0:GY es e.t=true:=Q;have aa:=b2a a0;have a1:DY es e.t+1≤es.length:=aa;have ab:(es.drop (DY es e.t+1)).length=es.length-(DY es e.t+1):=wS;refine yU 14 ?_;refine aP (MH (j:=(DY es e.t+1)) rfl rfl rfl SY NR rfl oM oM) ?_;refine aT rfl (zT (by':=47) [_,_,_] rfl rfl rfl rfl rfl SY (.inr ⟨_,SY⟩) kR NR a2y rfl a4 rfl (bP JQ (zJ.from JQ A (j:=DY es e.t+1) a1) (a7Y G (fun x hx=>vP hx))) oM ?_);intro ac a5;refine yU 4 ?_;refine aV (aC (bM (aC bQ))) ?_;have M:es.take (DY es e.t)++[e]++es.drop (DY es e.t+1)=FX es e:=by unfold FX;rw[a0];rfl
  have N:=(a9G (es.take (DY es e.t)) (es.drop (DY es e.t+1)) e).trans (zC (bT JG) M);refine bU (H':=gH 47 ((FX es e).flatMap JG) ac++[(rb,_)]) (by rw[←N];exact uQ) ?_;refine cZ JQ dE (by rw[←N];exact a5) (by rw[←M];simp only[wV,wJ];omega) (fun I8 Z a2=>?_);refine Ej.PU rfl rfl ?_;exact⟨_,rfl,G.put hr Z a2,rfl⟩
 have a0:GY es e.t=false:=Q;have a1:=a3;have ab:(es.drop (DY es e.t)).length=es.length-DY es e.t:=wS;refine yU 10 ?_;refine aP (MH (j:=(DY es e.t)) rfl rfl rfl SY NR rfl oM oM) ?_;refine aT rfl (zT (by':=47) [_,_,_] rfl rfl rfl rfl rfl SY (.inr ⟨_,SY⟩) kR NR a2y rfl a4 rfl (bP JQ (zJ.from JQ A (j:=DY es e.t) a1) (a7Y G (fun x hx=>vP hx))) oM ?_);intro ad a6;refine yU 4 ?_;refine aV (aC (bM (aC bQ))) ?_;have M:es.take (DY es e.t)++[e]++es.drop (DY es e.t)=FX es e:=by unfold FX;rw[a0];rfl
 have N:=(a9G (es.take (DY es e.t)) (es.drop (DY es e.t)) e).trans (zC (bT JG) M);refine bU (H':=gH 47 ((FX es e).flatMap JG) ad++[(rb,_)]) (by rw[←N];exact uQ) ?_;refine cZ JQ dE (by rw[←N];exact a6) (by rw[←M];simp only[wV,wJ];omega) (fun I8 Z a2=>?_);refine Ej.PU rfl rfl ?_;exact⟨_,rfl,G.put hr Z a2,rfl⟩
theorem c1o{α:Type}{f:α→List Value}{l:List α}{k x}(h:l[k]?=some x):(l.take (k+1)).flatMap f=(l.take k).flatMap f++f x:=by
 obtain⟨A,h⟩:=xC.1 h;rw[tN A,h,xP];simp
theorem a8G rb w es (hl:es.length≤1000000) I (a6:I rb=some (yV 130 [w]))(hE:EU I es w):yY aI 55 [ptr rb 0] I [] (fun e I' H'=>∃v,e= .returned v∧zJ recC I' (es.map (·.t)) v∧H'=[]):=by
 obtain⟨p,c,rfl,_,hp⟩:=id hE.1;refine zN func55 fun w0 _=>?_;refine yU 17 ?_;refine aQ (ι:=Nat×Gs) (fun y=>y.1≤es.length∧AL w0.heap.size 2 (es.take y.1).length ((es.take y.1).flatMap fun x=>recC x.t) y.2) (fun y=>es.length-y.1) (fun y=>[(0,ptr rb 0),(3,gV (es.take y.1).length y.2),(4,i64 (y.1:Int))]) (fun y=>_) (fun y=>gH 42 ((es.take y.1).flatMap fun x=>recC x.t) y.2) (0,none) ⟨sQ _,rfl,rfl⟩ rT rfl rfl ?_;rintro⟨y,g⟩ ⟨hy,G⟩;dsimp only at hy G ⊢;have a7:(es.take y).length=y:=by rw[wI];omega
 refine yZ ?_ ?_<;>intro a1 a0
 ·have N:y<es.length:=oM;obtain⟨x,A⟩:∃x,es[y]?=some x:=⟨_,AA N⟩;obtain⟨_,eo,_,_,_,_,rfl,a2,a3⟩:=hp (zK N);have O:=c1o (f:=fun x:DT=>recC x.t) A;have Q:(es.take (y+1)).length=(es.take y).length+1:=by rw[wI,wI];omega
  refine zW (eo+y*5) ?_;refine yU 1 ?_;refine aP (CX FY BM (bG a2) (a0Z a3 A)) ?_;refine yU 1 ?_;intro _ _;refine KT 15 [_] G ?_;intro g3 a4;refine yU 9 ?_;refine aV (aC bQ) ?_;refine aK (y+1,g3) ⟨dO,by dsimp only;rw[Q,O];exact a4⟩ dO ⟨rfl,by dsimp only;rw[Q];rfl,rfl,trivial⟩ rfl (by dsimp only;rw[O];rfl)
 refine yU 12 ?_;have M:es.take y=es:=tX oM;rw[M]at G ⊢;have Z:(es.map (·.t)).flatMap recC=es.flatMap fun x=>recC x.t:=List.flatMap_map _ recC _;refine bU (H':=gH 42 ((es.map (·.t)).flatMap recC) g++[]) (.of_eq (by rw[Z,yD])) ?_;refine cZ AP dE (by rw[Z];exact G) (by rw[wO]) (fun _ _ a5=>?_);refine zM ?_;exact⟨_,rfl,a5,rfl⟩
theorem a8C{es:List DT}{i e}(h:es[i]?=some e):(es.take (i+1)).foldl FX []=FX ((es.take i).foldl FX []) e:=by
 obtain⟨A,h⟩:=xC.1 h;rw[tN A,h,xM];rfl
theorem XF:∀(es l:List DT),(es.foldl FX l).map zQ=Ix.a0e (es.map zQ) (l.map zQ)
 |[],_=>rfl
 |e::r,l=>by rw[dQ,XF r,b5h];rfl
theorem b1f:∀(es l:List DT),(es.foldl FX l).length≤l.length+es.length
 |[],_=>tH _
 |e::r,l=>by
  have h1:=b1f r (FX l e);have h2:=b4l l e;rw[dQ,wU];omega
theorem b1d:∀{es l:List DT} {x:DT},x∈es.foldl FX l→x∈es∨x∈l
 |[],_,_,h=> .inr h
 |e::r,l,x,h=>by
  rcases b1d (es:=r) h with g|g
  ·exact .inl (.tail _ g)
  rcases b5t g with rfl|g
  ·exact .inl (.head _)
  exact .inr g
theorem c2n es v (a8:es.length≤1000) I (Z:EU I es v):yY aI 21 [v] I [] (fun e I' H'=>∃rb w,e= .returned (ptr rb 0)∧EU I' (es.foldl FX []) w∧H'=[(rb,yV 130 [w])]):=by
 obtain⟨p,c,rfl,_⟩:=Z.len;refine zN func21 fun w0 _=>?_;refine yU 7 ?_;refine aP (zL (pl:= #[(0,1)]) rfl rfl zeroValue130 rfl underlying130 (fun w=>by simp[sizeOf49]) dZ) ?_;refine yU 1 ?_;intro b1 _;refine yU 10 ?_;refine aQ (ι:=Nat×Heap×Value) (fun y=>y.1≤es.length∧Le I y.2.1∧EU y.2.1 ((es.take y.1).foldl FX []) y.2.2∧((es.take y.1).foldl FX []).length≤y.1) (fun y=>es.length-y.1) (fun y=>[(0,.slice p es.length c),(3,ptr b1 0),(4,i64 (y.1:Int))]) (fun y=>y.2.1) (fun y=>[(b1,yV 130 [y.2.2])]) (0,_,_) ⟨sQ _,Le.refl _,EU.nil,tH _⟩ rT rfl rfl ?_;rintro⟨i,_,w⟩ ⟨hi,G,Q,a1⟩;dsimp only at hi G Q a1 ⊢;have hE:=Z.mono G;refine yZ ?_ ?_<;>intro a3 a2
 ·have a0:i<es.length:=oM;obtain⟨e0,A⟩:∃e,es[i]?=some e:=⟨_,AA a0⟩;obtain⟨p1,c1,a4,_,hp⟩:=id hE.1;cases a4;obtain⟨_,eo,_,_,_,_,rfl,M,a5⟩:=hp (zK a0);have N:=hE.2 e0 (CJ A);obtain⟨_,_,_,-,-⟩:=id N.1;refine zW (eo+i*5) ?_;refine aP (CX isAgg47 NR (bG M) (AY JQ a5 A)) ?_;refine J.pull Pull.z ?_;refine zX (c8i b1 w ((es.take i).foldl FX []) e0 oM _ Q N) ?_;intro _ _ _ O a6;have G:=G.mono O;have M:=O _ _ M;obtain⟨_,h,a7,rfl⟩:=a6;cases h;refine yU 8 ?_;refine aK (i+1,_,_) ⟨dO,G,by dsimp only;rw[a8C A];exact a7,by dsimp only;rw[a8C A];have:=b4l ((es.take i).foldl FX []) e0;omega⟩ dO rT rfl rfl
 rw[tX (oM:es.length≤i)]at Q;refine zM ?_;exact⟨_,_,rfl,Q,rfl⟩
end Go.Proofs.YtalapkjmkjmpjaaGreatDoor
end
namespace Bk
section
variable {α:Type} {lt:α→α→Bool}
def ZL (lt:α→α→Bool) (k j:Nat) (l:List α):Prop:=∃A x B C,l=A++x::(B++C)∧A.length=j∧j+B.length=k∧(A++B).Pairwise (fun p q=>lt q p=false)∧∀b∈B,lt x b=true
def XT (lt:α→α→Bool) (k:Nat) (l:List α):Prop:=(l.take k).Pairwise fun p q=>lt q p=false
theorem ZL.start{k l}(h:XT lt k l)(G:k<l.length):ZL lt k k l:=by
 refine⟨l.take k,l[k],[],l.drop (k+1),?_,by rw[wI];omega,rfl,by rw[yD];exact h,fun b A=>by cases A⟩;rw[vM,wX,uD]
theorem XT.one{l}:XT lt 1 l:=by
 cases l with
 |nil=>exact .nil
 |cons a r=>exact uT _ _
theorem XT.all{k l}(h:XT lt k l)(A:l.length≤k):l.Pairwise fun p q=>lt q p=false:=by
 unfold XT at h;rwa [tX A]at h
theorem ZL.len{k j l}(h:ZL lt k j l):j≤k∧k<l.length:=by
 obtain⟨_,x,B,C,rfl,h1,h2,-,-⟩:=h;rw[wV,wU,wV];omega
theorem b4g{A B C:List α}{x:α}{k:Nat}(h:A.length+B.length=k):(A++x::(B++C)).take (k+1)=A++x::B:=by
 rw[show A++x::(B++C)=(A++x::B)++C by simp];exact List.take_left' (by rw[wV,wU];omega)
theorem a8X(N:∀x y,lt x y=true→lt y x=false){A B x}(h:(A++B).Pairwise fun p q=>lt q p=false)(O:∀a∈A,lt x a=false)(Q:∀b∈B,lt x b=true):(A++x::B).Pairwise fun p q=>lt q p=false:=by
 rw[vC]at h ⊢;refine⟨h.1,uY.2 ⟨fun b G=>N _ _ (Q b G),h.2.1⟩,fun a G b M=>?_⟩;rcases vX.1 M with rfl|M
 ·exact O a G
 exact h.2.2 a G b M
theorem ZL.d1q(G:∀x y,lt x y=true→lt y x=false){k l}(h:ZL lt k 0 l):XT lt (k+1) l:=by
 obtain⟨_,x,B,C,rfl,h1,h2,h3,M⟩:=h;unfold XT;rw[b4g oM];obtain rfl:=wR.1 h1;exact a8X G h3 (fun a N=>by cases N) M
theorem a8I{A:List α}{x:α}{R:List α}{j:Nat}(h:A.length=j):(A++x::R)[j]?=some x:=by
 subst h;simp
theorem b7I{A:List α}{j}(h:A.length=j+1):∃M y,A=M++[y]∧M.length=j:=by
 have G:A≠[]:=fun e=>by subst e;simp at h
 refine⟨A.dropLast,A.getLast G,(List.dropLast_concat_getLast G).symm,by rw[List.length_dropLast];omega⟩
theorem ZL.stop(N:∀x y,lt x y=true→lt y x=false)(O:∀x y z,lt x z=true→lt x y=true∨lt y z=true){k j l}(h:ZL lt k (j+1) l){x y}(Q:l[j+1]?=some x)(Z:l[j]?=some y)(M:lt x y=false):XT lt (k+1) l:=by
 obtain⟨_,_,B,C,rfl,h1,h2,h3,h4⟩:=h;rw[a8I h1]at Q;cases Q;obtain⟨_,_,rfl,h5⟩:=b7I h1;rw[yE,uK,a8I h5]at Z;cases Z;unfold XT;rw[b4g oM];refine a8X N h3 (fun a G=>?_) h4;rcases wB.1 G with G|G
 ·have h6:=(vC.1 (vC.1 h3).1).2.2 a G y (.head _);cases hc:lt x a with
  |false=>rfl
  |true=>
   rcases O x y a hc with g|g
   ·rw[M]at g;cases g
   rw[h6]at g;cases g
 rw[vN.1 G];exact M
def swapAt (j:Nat) (x y:α) (l:List α):List α:=(l.set (j+1) y).set j x
theorem c6A{A:List α}{x y}{R:List α}{j:Nat}(h:A.length=j):swapAt j x y (A++y::x::R)=A++x::y::R:=by
 subst h;unfold swapAt;rw[uO _ _ oM,show A.length+1-A.length=1 by omega];rw[uO _ _ oM,Nat.sub_self];rfl
theorem ZL.swap{k j l}(h:ZL lt k (j+1) l){x y}(N:l[j+1]?=some x)(O:l[j]?=some y)(Q:lt x y=true):ZL lt k j (swapAt j x y l)∧(swapAt j x y l).Perm l:=by
 obtain⟨_,_,B,C,rfl,h1,h2,h3,Z⟩:=h;rw[a8I h1]at N;cases N;obtain⟨A',_,rfl,G⟩:=b7I h1;rw[yE,uK,a8I G]at O;cases O;rw[yE,uK,c6A G];refine⟨⟨A',x,y::B,C,rfl,G,by rw[wU];omega,by rw[yE,uK]at h3;exact h3,fun b M=>?_⟩,List.Perm.append_left _ (List.Perm.swap _ _ _)⟩;rcases vX.1 M with rfl|M
 ·exact Q
 exact Z b M
theorem c5v(j:Nat)(x y:α)(l:List α):(swapAt j x y l).length=l.length:=by unfold swapAt;rw[bF,bF]
end
end Bk
section
namespace Go.Proofs.YtalapkjmkjmpjaaGreatDoor
open _root_.Go.Proofs.Tryz
open Go Go.Sx
theorem a7o{α:Type}{f:α→List Value}{n:Nat}(A:∀x,(f x).length=n){sp:List Value}{x z:α}{j:Nat}{vs:List Value}(N:f z=(f x).take j++vs++(f x).drop (j+vs.length))(Q:j+vs.length≤n):∀{l:List α} {i:Nat},l[i]?=some x→AX (l.flatMap f++sp) (i*n+j) vs ((l.set i z).flatMap f++sp)
 |[],_,h=>by simp at h
 |a::r,0,h=>by
  obtain rfl:a=x:=sK h;have O:=A a;have G:(a::r).flatMap f++sp=f a++(r.flatMap f++sp):=by rw[xO,yE]
  have M:(z::r).flatMap f++sp=f z++(r.flatMap f++sp):=by rw[xO,yE]
  rw[Nat.zero_mul,sS,uM,G,M,N];refine⟨by rw[wV];omega,?_⟩;rw[tZ oM,List.drop_append_of_le_length oM];simp only[yE]
 |a::r,i+1,h=>by
  obtain⟨h1,h2⟩:=a7o A (sp:=sp) N Q (l:=r) (i:=i) (by simpa using h);have O:=A a;have G:(a::r).flatMap f++sp=f a++(r.flatMap f++sp):=by rw[xO,yE]
  have M:(a::r.set i z).flatMap f++sp=f a++((r.set i z).flatMap f++sp):=by rw[xO,yE]
  have Z:(i+1)*n+j=(f a).length+(i*n+j):=by rw[O,Nat.add_mul];omega
  rw[uN,G,M,Z];refine⟨by rw[wV];omega,?_⟩;rw[h2,List.take_length_add_append,Nat.add_assoc (f a).length,List.drop_length_add_append];simp only[yE]
theorem b0x{n}:∀{l:List Int} {k:Nat},(∀x∈l.take k,x<n)→k≤l.length→(∀y,l[k]?=some y→¬y<n∧y≠n)→aN n l=l.take k++[n]++l.drop k
 |[],0,_,_,_=>rfl
 |[],k+1,_,h,_=>by simp at h
 |x::r,0,_,_,h=>by
  obtain⟨h1,h2⟩:=h x rfl;unfold aN;rw[zD h1,zD h2];rfl
 |x::r,k+1,ha,hk,h=>by
  have h1:=ha x (.head _);unfold aN;rw[zF h1,b0x (k:=k) (fun y A=>ha y (.tail _ A)) (by simpa using hk) (fun y A=>h y (by simpa using A))];rfl
theorem b8t{n}:∀{l:List Int} {k:Nat},(∀x∈l.take k,x<n)→l[k]?=some n→aN n l=l
 |[],_,_,h=>by simp at h
 |x::r,0,_,h=>by
  obtain rfl:x=n:=sK h;unfold aN;rw[zD oM,zF rfl]
 |x::r,k+1,ha,h=>by
  have h1:=ha x (.head _);unfold aN;rw[zF h1,b8t (k:=k) (fun y A=>ha y (.tail _ A)) (by simpa using h)]
theorem b5n n:∀l:List Int,(aN n l).length≤l.length+1
 |[]=>tH _
 |x::r=>by
  have:=b5n n r;unfold aN
  split
  ·simp only[wU];omega
  split<;>simp only[wU]<;>omega
theorem XD:∀(p l:List Int),(aA l p).length≤l.length+p.length
 |[],_=>tH _
 |n::r,l=>by
  have h1:=XD r (aN n l);have h2:=b5n n l;show(aA (aN n l) r).length≤_;rw[wU];omega
theorem MO{l p:List Int}{j n}(h:p[j]?=some n):aA l (p.take (j+1))=aN n (aA l (p.take j)):=by
 rw[uF,h,bK,Bk.a4C];rfl
theorem c9x{l:List Int}{k x n}(h:∀y∈l.take k,y<n)(A:l[k]?=some x)(G:x<n):∀y∈l.take (k+1),y<n:=by
 rw[uF,A,bK];intro y M;rcases wB.1 M with g|g
 ·exact h y g
 rw[vN.1 g];exact G
theorem b1z a b n:((([]:List Value)++a.flatMap EP)++[i64 n])++b.flatMap EP=(a++[n]++b).flatMap EP:=sI
theorem UG{cs sp:List Value}{o}{l:List Int}(h:cs.drop o=l.flatMap EP++sp){k x}(G:l[k]?=some x):cs[o+k]?=some (i64 x):=by
 have A:=BO (f:=EP) (n:=1) GN h G 0 dL;rw[Nat.mul_one,dA]at A;exact A
def RG (I:Heap) (x:Fv):Prop:=zJ EP I x.f.p x.v
theorem RG.mono{I A x}(h:RG I x)(G:Le I A):RG A x:=zJ.mono h G
def upd (z x:dN):dN:=⟨if aB x.t z.t then x.t else z.t,z.k,aA z.p x.p⟩
theorem b8m{x}:∀{l:List dN} {k:Nat} {z:dN},(∀y∈l.take k,aJ y x=false)→l[k]?=some z→aJ z x=true→bI l x=l.set k (upd z x)
 |[],_,_,_,h,_=>by simp at h
 |a::r,0,z,_,h,hs=>by
  obtain rfl:a=z:=sK h;unfold bI;rw[zF hs];rfl
 |a::r,k+1,z,ha,h,hs=>by
  unfold bI;rw[zD (by rw[ha a (.head _)];exact yK),b8m (k:=k) (fun y A=>ha y (.tail _ A)) (by simpa using h) hs];rfl
theorem a7p{x}:∀{l:List dN},(∀y∈l,aJ y x=false)→bI l x=l++[⟨x.t,x.k,bH x.p⟩]
 |[],_=>rfl
 |a::r,ha=>by
  unfold bI;rw[zD (by rw[ha a (.head _)];exact yK),a7p fun y A=>ha y (.tail _ A)];rfl
theorem c2O{l:List Fv}{x k z}(h:∀y∈l.take k,aJ y.f x=false)(A:l[k]?=some z)(G:aJ z.f x=false):∀y∈l.take (k+1),aJ y.f x=false:=by
 rw[uF,A,bK];intro y M;rcases wB.1 M with g|g
 ·exact h y g
 rw[vN.1 g];exact G
theorem c8K{ls:List Fv}{k z}{P:Fv→Prop}(h:∀y∈ls,P y)(A:P z):∀y∈ls.set k z,P y:=fun y G=>(List.mem_or_eq_of_mem_set G).elim (h y) fun e=>e▸A
theorem b7P{ls:List Fv}{k x z}(h:ls[k]?=some x):(ls.set k z)[k]?=some z:=by
 rw[List.getElem?_set_self (xC.1 h).1]
structure TP where
  j:Nat
  J:Heap
  a:Option Addr
  c:Nat
theorem b0y l v n (hl:l.length≤4300000000000) I (G:zJ EP I l v):yY aI 93 [v,i64 n] I [] (fun e I' H'=>∃w,e= .returned w∧zJ EP I' (aN n l) w∧H'=[]):=by
 obtain⟨p,c,rfl,_,hp⟩:=id G;refine zN func93 fun w0 _=>?_;refine yU 12 ?_;refine aQ (ι:=Nat) (fun k=>k≤l.length∧∀x∈l.take k,x<n) (fun k=>l.length-k) (fun k=>[(0,.slice p l.length c),(1,i64 n),(5,i64 (k:Int))]) (fun k=>_) (fun k=>[]) 0 ⟨sQ _,fun x hx=>by simp at hx⟩ rT rfl rfl ?_;rintro k ⟨hk,M⟩;refine DZ ?_ ?_<;>intro ag a8
 ·have N:k<l.length:=oM;obtain⟨x,A⟩:∃x,l[k]?=some x:=⟨_,AA N⟩;obtain⟨lb,lo,ah,ai,aj,sp,rfl,a0,a1⟩:=hp (zK N);refine yU 2 ?_;refine J.zg (FZ (off':=lo+k) JJ AZ) ?_;refine J.zg (DI GZ (bG a0) (UG a1 A)) ?_;refine yZ ?_ ?_<;>intro a2 a9
  ·have a3:x<n:=DK a2;refine yU 9 ?_;refine aK (k+1) ⟨oM,c9x M A a3⟩ oM rT rfl rfl
  have a3:¬x<n:=DN a2;refine DZ ?_ ?_<;>intro al aa
  ·refine yU 2 ?_;refine J.zg (FZ (off':=lo+k) JJ AZ) ?_;refine J.zg (DI GZ (bG a0) (UG a1 A)) ?_;refine yZ ?_ ?_<;>intro a4 ab
   ·have a5:x=n:=BP a4;refine zV ?_;rw[b8t M (a5▸A)];exact⟨_,rfl,G,rfl⟩
   have a5:x≠n:=CB a4;refine yU 8 ?_;have am:(l.take k).length=k:=by rw[wI];omega
   have an:(l.drop k).length=l.length-k:=wS;refine yU 4 ?_;refine aP (IG (k:=k) rfl rfl rfl JJ AZ rfl oM) ?_;refine aT rfl (zT (by':=7) (n:=0) (g:=none) (xs:=[]) [] rfl rfl rfl rfl rfl JJ (.inr ⟨_,JJ⟩) kR AZ OT rfl rT rfl (bP GN (dX G hk) (fun x _=>WO x)) oM ?_);intro _ ao;refine yU 8 ?_;intro _ _;refine KT 7 [_] ao ?_;intro _ ap;refine yU 8 ?_;refine aP (MH (j:=k) rfl rfl rfl JJ AZ rfl oM oM) ?_;refine aT rfl (zT (by':=7) [_] rfl rfl rfl rfl rfl JJ (.inr ⟨_,JJ⟩) kR AZ OT rfl ap rfl (bP GN (zJ.from GN G (j:=k) hk) (fun x _=>WO x)) oM ?_);intro g8 aq;refine yU 4 ?_;refine aV (aC bQ) ?_;have O:=b0x M hk (fun y hy=>by rw[A]at hy;cases hy;exact⟨a3,a5⟩);have Q:=(b1z (l.take k) (l.drop k) n).trans (zC (bT EP) O.symm);refine bU (H':=gH 3 ((aN n l).flatMap EP) g8++[]) (.of_eq (by rw[←Q,yD];rfl)) ?_;refine cZ GN dE (by rw[←Q];exact aq) (by rw[O];simp only[wV,wJ];omega) (fun I8 ac a6=>?_);refine zM ?_;exact⟨_,rfl,a6,rfl⟩
  omega
 refine yU 23 ?_;refine J.split 25 rfl (fun Z=>?_) (fun Z=>?_)
 ·have a7:=DK Z;have N:k<l.length:=oM;obtain⟨x,A⟩:∃x,l[k]?=some x:=⟨_,AA N⟩;obtain⟨lb,lo,ah,ai,aj,sp,rfl,a0,a1⟩:=hp (zK N);omega
 have a7:=DN Z;refine yU 18 ?_;have am:(l.take k).length=k:=by rw[wI];omega
 have an:(l.drop k).length=l.length-k:=wS;refine yU 4 ?_;refine aP (IG (k:=k) rfl rfl rfl JJ AZ rfl oM) ?_;refine aT rfl (zT (by':=7) (n:=0) (g:=none) (xs:=[]) [] rfl rfl rfl rfl rfl JJ (.inr ⟨_,JJ⟩) kR AZ OT rfl rT rfl (bP GN (dX G hk) (fun x _=>WO x)) oM ?_);intro _ ad;refine yU 8 ?_;intro _ _;refine KT 7 [_] ad ?_;intro _ ae;refine yU 8 ?_;refine aP (MH (j:=k) rfl rfl rfl JJ AZ rfl oM oM) ?_;refine aT rfl (zT (by':=7) [_] rfl rfl rfl rfl rfl JJ (.inr ⟨_,JJ⟩) kR AZ OT rfl ae rfl (bP GN (zJ.from GN G (j:=k) hk) (fun x _=>WO x)) oM ?_);intro ar af;refine yU 4 ?_;refine aV (aC bQ) ?_;have O:=b0x M hk (fun y hy=>absurd (xC.1 hy).1 oM);have Q:=(b1z (l.take k) (l.drop k) n).trans (zC (bT EP) O.symm);refine bU (H':=gH 3 ((aN n l).flatMap EP) ar++[]) (.of_eq (by rw[←Q,yD];rfl)) ?_;refine cZ GN dE (by rw[←Q];exact af) (by rw[O];simp only[wV,wJ];omega) (fun I8 ac a6=>?_);refine zM ?_;exact⟨_,rfl,a6,rfl⟩
theorem c6j x y I:Pure aI 92 [.agg (CV x).toArray,.agg (CV y).toArray] I (.bool (aJ x.f y.f)):=by
 refine bZ ?_;refine zN func92 fun w0 _=>?_;refine yU 3 ?_;intro _ _;refine yU 1 ?_;intro _ _;refine DZ ?_ ?_<;>intro A G
 ·refine DZ ?_ ?_<;>intro a0 M
  ·refine zV ?_;refine⟨zC (fun b=>aO (bC b)) ?_,rfl⟩;unfold aJ;have h1:(x.f.k == [])=false:=by simpa using bne_iff_ne.1 A
   rw[h1]
   simp_all
  refine DZ ?_ ?_<;>intro a1 N
  ·refine DZ ?_ ?_<;>intro a2 O
   ·refine yU 4 ?_;refine J.zg (a3e (kv:=a7S) (a:=x.f.t) (b:=y.f.t) rfl rfl rfl rfl rfl a6u kR) ?_;refine zV ?_;refine⟨zC (fun b=>aO (bC b)) ?_,rfl⟩;unfold aJ;have h1:(x.f.k == [])=false:=by simpa using bne_iff_ne.1 A
    rw[h1]
    simp_all
   refine zV ?_;refine⟨zC (fun b=>aO (bC b)) ?_,rfl⟩;unfold aJ;have h1:(x.f.k == [])=false:=by simpa using bne_iff_ne.1 A
   rw[h1]
   simp_all
  refine zV ?_;refine⟨zC (fun b=>aO (bC b)) ?_,rfl⟩;unfold aJ;have h1:(x.f.k == [])=false:=by simpa using bne_iff_ne.1 A
  rw[h1]
  simp_all
 refine DZ ?_ ?_<;>intro a3 Q
 ·refine DZ ?_ ?_<;>intro a4 Z
  ·refine yU 4 ?_;refine J.zg (a3e (kv:=a7S) (a:=x.f.t) (b:=y.f.t) rfl rfl rfl rfl rfl a6u kR) ?_;refine zV ?_;refine⟨zC (fun b=>aO (bC b)) ?_,rfl⟩;unfold aJ;have h1:(x.f.k == [])=true:=by simpa using EC A
   rw[h1]
   simp_all
  refine zV ?_;refine⟨zC (fun b=>aO (bC b)) ?_,rfl⟩;unfold aJ;have h1:(x.f.k == [])=true:=by simpa using EC A
  rw[h1]
  simp_all
 refine zV ?_;refine⟨zC (fun b=>aO (bC b)) ?_,rfl⟩;unfold aJ;have h1:(x.f.k == [])=true:=by simpa using EC A
 rw[h1]
 simp_all
theorem b9P x y I:Pure aI 59 [.agg (CV x).toArray,.agg (CV y).toArray] I (.bool (eG x.f y.f)):=by
 refine bZ ?_;refine zN func59 fun w0 _=>?_;refine yU 3 ?_;intro _ _;refine yU 1 ?_;intro _ _;refine yZ ?_ ?_<;>intro A G
 ·refine yU 6 ?_;refine aP (a0i rfl rfl rfl) ?_;refine zV ?_;rw[show eG x.f y.f=decide (x.f.k<y.f.k) from zF (bne_iff_ne.1 A)];exact rT
 refine zO (a3n x.f.t y.f.t _) ?_;refine zV ?_;rw[show eG x.f y.f=aB x.f.t y.f.t from zD (fun g=>g (EC A))];exact rT
theorem c6N{α:Type}{f:α→List Value}{n:Nat}(A:∀x,(f x).length=n){sp:List Value}{l:List α}{k:Nat}{x:α}(h:l[k]?=some x){j}{vs:List Value}(G:((f x).drop j).take vs.length=vs)(M:j+vs.length≤n):((l.flatMap f++sp).drop (k*n+j)).take vs.length=vs:=by
 have h1:=YL A (sp:=sp) h;rw[←xY];have h2:(((l.flatMap f++sp).drop (k*n)).take n).drop j=(f x).drop j:=by rw[h1]
 rw[List.drop_take]at h2;have h3:=zC (List.take vs.length) h2;rw[dW,G,sW oM]at h3;exact h3
theorem c5O{α:Type}{l:List α}{k x}(h:l[k]?=some x):l.set k x=l:=by
 obtain⟨_,A⟩:=xC.1 h;rw[←A,List.set_getElem_self]
theorem AL.base0{b sz n xs g}(h:AL b sz n xs g):AL 0 sz n xs g:=by
 cases g with
 |none=>exact h
 |some q=>exact⟨sQ _,h.2⟩
theorem c9h{base}(ls:List Fv) g (hg:AL base 4 ls.length (ls.flatMap CV) g) x (bj:ls.length≤1000000000)(hB:∀z∈ls,z.f.p.length≤1000000000)(bl:x.f.p.length≤1000000000) I (A:∀z∈ls,RG I z)(G:RG I x):yY aI 58 [gV ls.length g,.agg (CV x).toArray] I (gH 52 (ls.flatMap CV) g)
 (fun e I' H'=>∃(a5:List Fv) (g':Gs),a5.map aG=bI (ls.map aG) x.f∧(∀z∈a5,RG I' z)∧AL 0 4 a5.length (a5.flatMap CV) g'∧e= .returned (gV a5.length g')∧H'=gH 52 (a5.flatMap CV) g'):=by
 refine zN func58 fun w0 _=>?_;refine yU 3 ?_;intro b1 _;refine yU 6 ?_;rcases g with _|⟨gb,gc,a6⟩
 ·obtain⟨bd,-⟩:=hg;obtain rfl:=wR.1 bd;refine yU 4 ?_;refine Cj.rounds 1 ?_;refine Rj.succ ?_;refine yU 9 ?_;refine Cj.cond rfl (fun ax=>dK (Eq.trans (Eq.symm (by first|rfl|decide)) ax)) (fun ax=>?_);refine Cj.exit (dR (dR (Ej.YW (Ej.seq (Cj.sr (aP (zY (off':=0) IB BM) ?_))))));refine aP (DX FY BM (yX.at 0 rfl)) ?_;refine aP (zY (off':=2) IB BD) ?_;refine aP (BX DU (yX.at 0 rfl)) ?_;refine aP (zL (pl:= #[(0,2),(2,1),(3,1)]) rfl rfl LW rfl IB (fun w=>by simp[BM,KD,BD]) (dD rfl rfl rfl (aW (aW dF)) (dD rfl rfl rfl (eH (eH (aW dF))) dZ))) ?_;refine aT rfl (EN rfl rfl rfl LW rfl ?_);intro b3 _;refine aT rfl (CG 0 FH (aW (aW (aW (aW dF)))) bJ ?_);refine J.a2t (Cj.region (aP BI ?_));refine J.ns (Cj.block ?_);refine aQ (ι:=TP) (fun y=>y.j≤x.f.p.length∧(∀u∈([]:List Fv),RG y.J u)∧RG y.J x∧zJ EP y.J (aA [] (x.f.p.take y.j)) (.slice y.a (aA [] (x.f.p.take y.j)).length y.c)) (fun y=>x.f.p.length-y.j) (fun y=>[(0,.slice none 0 0),(3,ptr b1 0),(9,ptr b3 0),(10,i64 (y.j:Int))]) (fun y=>y.J) (fun y=>[(b3,yV 52 (CV (⟨⟨x.f.t,x.f.k,aA [] (x.f.p.take y.j)⟩,y.a,y.c⟩:Fv))),(b1,yV 52 (CV x))]) ⟨0,_,none,0⟩ ⟨sQ _,A,G,zJ.nil⟩ rT rfl rfl ?_;rintro⟨j,J2,a,c⟩ ⟨hj,A,G,N⟩;dsimp only at hj A G N ⊢;have a8:=XD (x.f.p.take j) [];rw[wI,wL]at a8;refine yZ ?_ ?_<;>intro be b6
  ·have Q:j<x.f.p.length:=oM;obtain⟨n9,O⟩:∃n,x.f.p[j]?=some n:=⟨_,AA Q⟩;obtain⟨p8,c8,a3,ay,a9⟩:=id G;cases a3;obtain⟨xb,xo,az,b0,xfr,b2,aa,Z,ab⟩:=a9 (zK Q);refine yU 4 ?_;refine aX [1] [] 10 kR ?_;have a4:=Z;refine yU 3 ?_;refine JA.ez 78 (.slice (some ⟨xb,xo,none⟩) x.f.p.length x.c) rfl (by show dJ x.a _ _=_;rw[aa]) ?_;refine bV CP (fun aj=>?_);refine aY 4 rfl aj zS ?_;refine aY 5 rfl aj (FZ (off':=xo+j) JJ AZ) ?_;refine aY 6 rfl aj (DI GZ (cO a4) (UG ab O)) ?_;refine qq2 1 rfl (CU (BX a0A (yX.at 0 rfl)) ?_);refine zX (b0y (aA [] (x.f.p.take j)) _ n9 oM _ N) ?_;intro _ _ _ ae b7;have A:=fun x9 ac=>(A x9 ac).mono ae;have G:=G.mono ae;have Z:=ae _ _ Z;obtain⟨w9,h,a1,rfl⟩:=b7;cases h;obtain⟨pw,cw,rfl⟩:=rowLen a1;refine yU 12 ?_;refine aK ⟨j+1,_,pw,cw⟩ ⟨dO,A,G,by dsimp only;rw[MO O];exact a1⟩ dO rT rfl (by dsimp only;first|(rw[MO O];done)|(rw[MO O];rfl))
  refine yU 10 ?_;intro _ _;refine aT rfl (GX 0 (sQ _) (by':=55) (n:=0) (g:=none) (xs:=[]) [_,_,_] rfl rfl rfl rfl rfl JY (.inr ⟨_,JY⟩) kR FH LW rfl rT rfl (dY (yX.at 0 rfl) rfl rfl rfl) oM ?_);intro bf al;refine yU 4 ?_;refine aV (aC (aC (aC bQ))) ?_;have am:x.f.p.take j=x.f.p:=tX oM;rw[am]at N al ⊢;have ad:bI ([]) x.f=([])++[⟨x.f.t,x.f.k,bH x.f.p⟩]:=a7p sI;refine zM ?_;exact⟨[]++[⟨⟨x.f.t,x.f.k,aA [] x.f.p⟩,a,c⟩],bf,by rw[show([]:List Fv).map aG=[] from rfl,ad,wG];rfl,fun u hu=>(wB.1 hu).elim (A u) fun hu=>by rw[vN.1 hu];exact N,by rw[wV,xP];exact AL.base0 al,by rw[wV];rfl,by rw[xP];rfl⟩
 obtain⟨_,_,hgs⟩:=id hg;refine yU 4 ?_;refine aQ (ι:=Nat) (fun k=>k≤ls.length∧∀y∈ls.take k,aJ y.f x.f=false) (fun k=>ls.length-k) (fun k=>[(0,.slice (some ⟨gb,0,none⟩) ls.length gc),(3,ptr b1 0),(5,i64 (k:Int))]) (fun k=>_) (fun k=>[(b1,yV 52 (CV x)),(gb,yV 52 (ls.flatMap CV++a6))]) 0 ⟨sQ _,fun y hy=>by simp at hy⟩ rT rfl rfl ?_;rintro k ⟨_,af⟩;refine yZ ?_ ?_<;>intro b8 au
 ·have bg:k<ls.length:=oM;obtain⟨z,M⟩:∃z,ls[k]?=some z:=⟨_,AA bg⟩;have b4:=A z (CJ M);have bm:=hB z (CJ M);refine yU 5 ?_;refine aX [0,1] [] 7 kR ?_;refine zW (k*4) ?_;refine JA.zt 3 rfl (CX XV FH (yX.NI 1 rfl) (YL CQ M)) ?_;refine zO (c6j z x _) ?_;refine DF ?_ ?_<;>intro ag
  ·have an:aJ z.f x.f=false:=by have h:=ag;simpa using h
   refine yU 9 ?_;refine aK (k+1) ⟨oM,c2O af M an⟩ oM rT rfl rfl
  have an:aJ z.f x.f=true:=by have h:=ag;simpa using h
  refine yU 3 ?_;refine aX [0,1] [] 9 kR ?_;refine zW (k*4) ?_;refine yU 1 ?_;refine JA.zt 6 rfl (CX (vs:=[i64 z.f.t.1,i64 z.f.t.2]) FY BM (yX.NI 1 rfl) (c6N CQ M (vs:=[i64 z.f.t.1,i64 z.f.t.2]) (j:=0) rfl (tJ rfl))) ?_;refine zO (a3n x.f.t z.f.t _) ?_;refine yU 4 ?_;refine Cj.join (ι:=Heap) (fun y=>(∀u∈ls,RG y u)∧RG y x) (fun y=>[(0,.slice (some ⟨gb,0,none⟩) ls.length gc),(3,ptr b1 0),(5,i64 (k:Int))]) (fun y=>y) (fun y=>[(b1,yV 52 (CV x)),(gb,yV 52 ((ls.set k ⟨⟨(if aB x.f.t z.f.t then x.f.t else z.f.t),z.f.k,z.f.p⟩,z.a,z.c⟩).flatMap CV++a6))]) ?_ (fun ao=>?_)
  ·rintro _ ⟨A,G⟩;have b4:=A z (CJ M);refine yU 7 ?_;refine aQ (ι:=TP) (fun y=>y.j≤x.f.p.length∧(∀u∈ls,RG y.J u)∧RG y.J x∧zJ EP y.J (aA z.f.p (x.f.p.take y.j)) (.slice y.a (aA z.f.p (x.f.p.take y.j)).length y.c)) (fun y=>x.f.p.length-y.j) (fun y=>[(0,.slice (some ⟨gb,0,none⟩) ls.length gc),(3,ptr b1 0),(5,i64 (k:Int)),(8,i64 (y.j:Int))]) (fun y=>y.J) (fun y=>[(b1,yV 52 (CV x)),(gb,yV 52 ((ls.set k (⟨⟨(if aB x.f.t z.f.t then x.f.t else z.f.t),z.f.k,aA z.f.p (x.f.p.take y.j)⟩,y.a,y.c⟩:Fv)).flatMap CV++a6))]) ⟨0,_,z.a,z.c⟩ ⟨sQ _,A,G,b4⟩ rT rfl rfl ?_;rintro⟨j,J2,a,c⟩ ⟨hj,A,G,N⟩;dsimp only at hj A G N ⊢;have a8:=XD (x.f.p.take j) z.f.p;rw[wI]at a8;refine yZ ?_ ?_<;>intro b9 av
   ·have Q:j<x.f.p.length:=oM;obtain⟨n9,O⟩:∃n,x.f.p[j]?=some n:=⟨_,AA Q⟩;obtain⟨p8,c8,a3,ay,a9⟩:=id G;cases a3;obtain⟨xb,xo,az,b0,xfr,b2,aa,Z,ab⟩:=a9 (zK Q);refine yU 4 ?_;refine aX [0] [] 16 kR ?_;have ap:=Z;refine yU 4 ?_;refine bV CP (fun a0=>?_);refine aY 4 rfl a0 (FZ (off':=k*4) JY FH) ?_;refine aY 5 rfl a0 (zY (off':=k*4+3) IB KD) ?_;refine aY 7 rfl a0 (zY (off':=3) IB KD) ?_;refine aY 8 rfl a0 (BX a0A (yX.NI 0 rfl)) ?_;refine JA.eqv 55 rfl (show _= .slice (some ⟨xb,xo,none⟩) x.f.p.length x.c from(by show dJ x.a _ _=_;rw[aa])) ?_;refine aY 9 rfl a0 zS ?_;refine aY 10 rfl a0 (FZ (off':=xo+j) JJ AZ) ?_;refine aY 11 rfl a0 (DI GZ (cO ap) (UG ab O)) ?_;refine qq2 6 rfl (YE (BU rfl rfl a0A (yX.at 1 rfl) ((a1O CQ (b7P M) 3 dE).trans rfl)) rfl rfl ?_);refine⟨⟨(Le.refl _),(HSub.c 0 rfl HSub.n),CSub.n⟩,?_⟩;refine qq2 12 rfl (zU (H1:=[]) rfl rfl rfl rfl rfl (b0y (aA z.f.p (x.f.p.take j)) _ n9 oM _ N) ?_ (fun _ _ _ _ ⟨_,h,_⟩=>by cases h) (fun _ _ ⟨_,h,_⟩=>by cases h));intro _ _ _ a2 ba;have A:=fun x9 ac=>(A x9 ac).mono a2;have G:=G.mono a2;have Z:=a2 _ _ Z;obtain⟨w9,h,a1,rfl⟩:=ba;cases h;obtain⟨pw,cw,rfl⟩:=rowLen a1;refine⟨⟨(Le.trans (Le.refl _) a2),(HSub.c 0 rfl HSub.n),CSub.n⟩,?_⟩;refine bV CP (fun aq=>?_);refine aY 13 rfl aq (FZ (off':=k*4) JY FH) ?_;refine aY 14 rfl aq (zY (off':=k*4+3) IB KD) ?_;refine qq2 15 rfl (CG 1 KD (a7o CQ (x:=((⟨⟨(if aB x.f.t z.f.t then x.f.t else z.f.t),z.f.k,aA z.f.p (x.f.p.take j)⟩,a,c⟩:Fv):Fv)) (z:=⟨⟨(if aB x.f.t z.f.t then x.f.t else z.f.t),z.f.k,aN n9 (aA z.f.p (x.f.p.take j))⟩,pw,cw⟩) (j:=3) (vs:=[.slice pw (aN n9 (aA z.f.p (x.f.p.take j))).length cw]) rfl (tJ rfl) (b7P M)) (aZ bJ) ?_);refine yU 9 ?_;refine aK ⟨j+1,_,pw,cw⟩ ⟨dO,A,G,by dsimp only;rw[MO O];exact a1⟩ dO rT rfl (by dsimp only;rw[MO O,List.set_set])
   refine yU 17 ?_;refine aV (aC (bM dH)) ?_;rw[tX (oM:x.f.p.length≤j)]at N ⊢;have bn:(ls.map aG).length=ls.length:=wO ..;have bh:∀y∈(ls.map aG).take k,aJ y x.f=false:=fun y hy=>by
    rw[←List.map_take]at hy;obtain⟨u,hu,rfl⟩:=vU.1 hy;exact af u hu
   have ad:=b8m (l:=ls.map aG) (z:=z.f) bh (by rw[xB,M];rfl) an;refine zM ?_;exact⟨ls.set k ⟨⟨(if aB x.f.t z.f.t then x.f.t else z.f.t),z.f.k,aA z.f.p x.f.p⟩,a,c⟩,some (gb,gc,a6),by rw[ad,List.map_set];rfl,c8K A N,⟨sQ _,by rw[BZ CQ],by rw[BZ CQ,bF];rw[BZ CQ]at hgs;exact hgs⟩,by rw[bF];rfl,rfl⟩
  refine DF ?_ ?_<;>intro ah
  ·refine zW (k*4) ?_;refine yU 1 ?_;refine aT rfl (CG 1 BM (a7o CQ (x:=z) (z:=⟨⟨x.f.t,z.f.k,z.f.p⟩,z.a,z.c⟩) (j:=0) (vs:=[i64 x.f.t.1,i64 x.f.t.2]) rfl (tJ rfl) M) (aZ bJ) ?_);refine yU 1 ?_;exact ao _ _ _ _ ⟨A,G⟩ rT rfl (by simp only[ah,if_true])
  refine yU 1 ?_;exact ao _ _ _ _ ⟨A,G⟩ rT rfl (by simp only[ah,yL,if_false];rw[show(⟨⟨z.f.t,z.f.k,z.f.p⟩,z.a,z.c⟩:Fv)=z from rfl,c5O M])
 refine Cj.exit (dR (Ej.a4A (Ej.YW (Ej.seq (Cj.sr (aP (zY (off':=0) IB BM) ?_))))));refine aP (DX FY BM (yX.at 0 rfl)) ?_;refine aP (zY (off':=2) IB BD) ?_;refine aP (BX DU (yX.at 0 rfl)) ?_;refine aP (zL (pl:= #[(0,2),(2,1),(3,1)]) rfl rfl LW rfl IB (fun w=>by simp[BM,KD,BD]) (dD rfl rfl rfl (aW (aW dF)) (dD rfl rfl rfl (eH (eH (aW dF))) dZ))) ?_;refine aT rfl (EN rfl rfl rfl LW rfl ?_);intro b5 _;refine aT rfl (CG 0 FH (aW (aW (aW (aW dF)))) bJ ?_);refine J.a2t (Cj.region (aP BI ?_));refine J.ns (Cj.block ?_);refine aQ (ι:=TP) (fun y=>y.j≤x.f.p.length∧(∀u∈ls,RG y.J u)∧RG y.J x∧zJ EP y.J (aA [] (x.f.p.take y.j)) (.slice y.a (aA [] (x.f.p.take y.j)).length y.c)) (fun y=>x.f.p.length-y.j) (fun y=>[(0,.slice (some ⟨gb,0,none⟩) ls.length gc),(3,ptr b1 0),(9,ptr b5 0),(10,i64 (y.j:Int))]) (fun y=>y.J) (fun y=>[(b5,yV 52 (CV (⟨⟨x.f.t,x.f.k,aA [] (x.f.p.take y.j)⟩,y.a,y.c⟩:Fv))),(b1,yV 52 (CV x)),(gb,yV 52 (ls.flatMap CV++a6))]) ⟨0,_,none,0⟩ ⟨sQ _,A,G,zJ.nil⟩ rT rfl rfl ?_;rintro⟨j,J2,a,c⟩ ⟨hj,A,G,N⟩;dsimp only at hj A G N ⊢;have a8:=XD (x.f.p.take j) [];rw[wI,wL]at a8;refine yZ ?_ ?_<;>intro bb aw
 ·have Q:j<x.f.p.length:=oM;obtain⟨n9,O⟩:∃n,x.f.p[j]?=some n:=⟨_,AA Q⟩;obtain⟨p8,c8,a3,ay,a9⟩:=id G;cases a3;obtain⟨xb,xo,az,b0,xfr,b2,aa,Z,ab⟩:=a9 (zK Q);refine yU 4 ?_;refine aX [1,2] [] 10 kR ?_;have a4:=Z;refine yU 3 ?_;refine JA.ez 78 (.slice (some ⟨xb,xo,none⟩) x.f.p.length x.c) rfl (by show dJ x.a _ _=_;rw[aa]) ?_;refine bV CP (fun ai=>?_);refine aY 4 rfl ai zS ?_;refine aY 5 rfl ai (FZ (off':=xo+j) JJ AZ) ?_;refine aY 6 rfl ai (DI GZ (cO a4) (UG ab O)) ?_;refine qq2 1 rfl (CU (BX a0A (yX.at 0 rfl)) ?_);refine zX (b0y (aA [] (x.f.p.take j)) _ n9 oM _ N) ?_;intro _ _ _ a7 bc;have A:=fun x9 ac=>(A x9 ac).mono a7;have G:=G.mono a7;have Z:=a7 _ _ Z;obtain⟨w9,h,a1,rfl⟩:=bc;cases h;obtain⟨pw,cw,rfl⟩:=rowLen a1;refine yU 12 ?_;refine aK ⟨j+1,_,pw,cw⟩ ⟨dO,A,G,by dsimp only;rw[MO O];exact a1⟩ dO rT rfl (by dsimp only;first|(rw[MO O];done)|(rw[MO O];rfl))
 refine yU 10 ?_;intro _ _;refine aT rfl (GX 0 (sQ _) (by':=55) (n:=ls.length) (g:=some (gb,gc,a6)) (xs:=ls.flatMap CV) [_,_,_] rfl rfl rfl rfl rfl JY (.inr ⟨_,JY⟩) kR FH LW rfl (AL.base0 hg) rfl (dY (yX.at 0 rfl) rfl rfl rfl) oM ?_);intro bi ar;refine yU 4 ?_;refine aV (aC (aC (aC bQ))) ?_;have am:x.f.p.take j=x.f.p:=tX oM;rw[am]at N ar ⊢;have ad:bI (ls.map aG) x.f=(ls.map aG)++[⟨x.f.t,x.f.k,bH x.f.p⟩]:=a7p (fun y hy=>by
  obtain⟨u,hu,rfl⟩:=vU.1 hy;exact af u (by rw[tX (oM:ls.length≤k)];exact hu))
 refine zM ?_;exact⟨ls++[⟨⟨x.f.t,x.f.k,aA [] x.f.p⟩,a,c⟩],bi,by rw[show(ls:List Fv).map aG=ls.map aG from rfl,ad,wG];rfl,fun u hu=>(wB.1 hu).elim (A u) fun hu=>by rw[vN.1 hu];exact N,by rw[wV,xP];exact AL.base0 ar,by rw[wV];rfl,by rw[xP];rfl⟩
