/-
  Own texts on the laws of the seat, joined: the logic, and contracts of functions. Conditions: none.
-/
import Derived.Test.YtalapkjmkjmpjaaGreatDoorNmK
import Derived.Test.YtalapkjmkjmpjaaGreatDoorPK14
set_option linter.all false
set_option maxRecDepth 100000
set_option maxHeartbeats 40000000
open Go.Proofs.Tryz renaming prog -> aA,func120 -> fA
open Go.Sx.Keeps renaming k -> aB,d -> aC,n -> aH,r -> dV
open Go.Sx.yX renaming YR -> aF
open Go.Sx.Ej renaming keep -> aG,round -> aS,persist -> dB
open Ke renaming words -> aI,NU -> dG,a1i -> dY
open Ix renaming sat -> aJ,EW -> aK,word -> aU,scan -> aV,Rec -> aW,phrase -> aX,JD -> bD,keyed -> bP,TOK -> bQ,JW -> bU,NK -> dD,JB -> dQ,Ix -> eF,QH -> eU
open Go.Sx.J renaming op -> aN,z -> aT,ez -> bY,persist -> dH,a3A -> dU
open Go.Sx.Cj renaming persist -> aO,loop -> aZ,EX -> bC,rounds -> bV,keep -> dX,keepR -> eH,a6e -> eX
open Cq.Qn renaming size -> aP
open Go.Sx.yY renaming toPure -> aQ
open Cq renaming relations -> aY,deep -> bK,c2X -> bT,c4m -> bZ,form -> cZ,right -> dP,Qn -> dR
open Go.Sx.FT renaming text -> bF
open Go.Sx.BL renaming z -> bG,s -> cO
open Cq.Qs renaming size -> bH
open List renaming length -> bI,flatMap_map -> bM,countP_pos_iff -> dF,toArray -> dI,le_antisymm -> dN,all_map -> eP
open Go.Sx.Le renaming refl -> bJ
open Go.Sx.JA renaming tk -> bW,a3A -> eY
open Go.Value renaming bool -> dA
open Go.Sx.Enters renaming of -> dJ
open Go.Sx.HSub renaming c -> dK,n -> fB
open Go.Sx.Rj renaming succ -> dL
open List.Pairwise renaming nil -> dM
open Go.Sx.Pure renaming of_same -> dS
open Go.Sx.zJ renaming of -> dW
open Bool renaming or_false -> dZ
open Go.Proofs.YtalapkjmkjmpjaaGreatDoor.IL renaming nil -> eG
open Go.Sx.CSub renaming n -> fC
namespace Go.Proofs.YtalapkjmkjmpjaaGreatDoor
open _root_.Go.Proofs.Tryz
open Go Go.Sx
theorem b0b{l}(h:∀t,t∈l→t∈([]:eF).map (·.1)):l=[]:=List.eq_nil_iff_forall_not_mem.2 fun t A=>by have:=h t A;cases this
theorem c6o G L n s (M:s.length≤100000000) I (A:OQ I G L):yY aA 339 [G,str n,str s] I [] (fun e _ H'=>∃v,e= .returned v∧a2F (aU L n s) v H'):=by
 rcases A with⟨rfl,rfl⟩|⟨N,rfl,A⟩
 ·refine(c4R n s M I).mono fun e _ H' _ ⟨h1,h2⟩=>⟨_,h1,?_⟩;rw[b0b fun t O=>Ix.b0q (L:=[]) O,h2];exact a6k
 exact c8Y N L n s M I A
theorem b9v G L n s (M:s.length≤100000000) I (A:OQ I G L):yY aA 274 [G,str n,str s] I [] (fun e _ H'=>∃v,e= .returned v∧a2F (aX L n (aI s)) v H'):=by
 rcases A with⟨rfl,rfl⟩|⟨N,rfl,A⟩
 ·refine(b9o n s M I).mono fun e _ H' _ ⟨h1,h2⟩=>⟨_,h1,?_⟩;rw[b0b fun t O=>Ix.a6b (L:=[]) O,h2];exact a6k
 exact c3W N L n s M I A
theorem b8I G L n s (M:s.length≤100000000) I (A:OQ I G L):yY aA 272 [G,str n,str s] I [] (fun e _ H'=>∃v,e= .returned v∧a2F (bD L n (Ix.keyOf n s)) v H'):=by
 rcases A with⟨rfl,rfl⟩|⟨N,rfl,A⟩
 ·refine(c7X n s I).mono fun e _ H' _ ⟨h1,h2⟩=>⟨_,h1,?_⟩;rw[b0b fun t O=>Ix.a4t (L:=[]) O,h2];exact a6k
 exact d0A N L n s M I A
theorem a7G G L n s (M:s.length≤100000000) most I (A:OQ I G L):yY aA 281 [G,str n,str s,i64 most] I [] (fun e _ H'=>∃v,e= .returned v∧b9p (aV L n s most) v H'):=by
 rcases A with⟨rfl,rfl⟩|⟨N,rfl,A⟩
 ·refine(c4Y n s most I).mono fun e _ H' _ ⟨h1,h2⟩=>⟨_,h1,.inl ⟨?_,rfl,h2⟩⟩;unfold aV aK;simp
 exact c8h N L n s M most I A
theorem c5c G L t I (A:OQ I G L):Pure aA 119 [G,AB t] I (str (bU L t)):=by
 rcases A with⟨rfl,rfl⟩|⟨M,rfl,A⟩
 ·exact c4j t I
 exact c6O M L t I A
end Go.Proofs.YtalapkjmkjmpjaaGreatDoor
section
namespace Go.Proofs.YtalapkjmkjmpjaaGreatDoor
open _root_.Go.Proofs.Tryz
open Go Go.Sx
structure TC where
  vis:ML Ix.Rec
  rest:ML Ix.Rec
  l:ML Ix.Rec
  c:Nat
theorem a6p ls v (ae:ls.length≤1000000000000)(a2:∀x∈ls,x.1.length≤1000000) I (a5:LLS I ls v):yY aA 271 [v] I [] (fun e _ H'=>∃w,e= .returned w∧a0D w (UL (ls.flatMap (·.1))) H'):=by
 obtain⟨⟨p,c,rfl,_,hp⟩,a6⟩:=a5;refine zN func271 fun w0 _=>?_;refine yU 7 ?_;refine aN rfl (BG rfl rfl rfl ?_);intro M _;refine yU 12 ?_;refine aZ (ι:=Nat×ML aW×Nat) (fun y=>y.1≤ls.length∧IL y.2.1 y.2.2 (UL ((ls.take y.1).flatMap (·.1)))) (fun y=>ls.length-y.1) (fun y=>[(3,.map (some M)),(9,.slice p ls.length c),(10,i64 (ls.length:Int)),(11,i64 (y.1:Int))]) (fun y=>_) (fun y=>[(M,zZ AB y.2.1 y.2.2)]) (0,[],0) ⟨sQ _,eG⟩ rT rfl rfl ?_;rintro⟨i,l,cc⟩ ⟨hi,A⟩;dsimp only at hi A ⊢;refine yZ ?_ ?_<;>intro N a3
 ·have O:i<ls.length:=oM;obtain⟨⟨xs,_⟩,G⟩:∃x,ls[i]?=some x:=⟨_,AA O⟩;obtain⟨fb,fo,_,_,_,_,rfl,a7,a8⟩:=hp (zK O);have a9:=a6 _ (CJ G);obtain⟨p2,c2,Q,N,Z⟩:=id a9;dsimp only at Q N Z;subst Q;have aa:=a2 _ (CJ G);dsimp only at aa;refine zW (fo+i) ?_;refine aT (DI isAgg78 (aF a7) (a5c a8 G)) ?_;refine yU 11 ?_;refine aZ (ι:=Nat×ML aW×Nat) (fun y=>y.1≤xs.length∧IL y.2.1 y.2.2 (UL (((ls.take i).flatMap (·.1))++xs.take y.1))) (fun y=>xs.length-y.1) (fun y=>[(3,.map (some M)),(9,.slice (some ⟨fb,fo,none⟩) ls.length c),(10,i64 (ls.length:Int)),(11,i64 (i:Int)),(15,.slice p2 xs.length c2),(16,i64 (xs.length:Int)),(17,i64 (y.1:Int))]) (fun y=>_) (fun y=>[(M,zZ AB y.2.1 y.2.2)]) (0,_,_) ⟨sQ _,by rw[List.take_zero,yD];exact A⟩ rT rfl rfl ?_;clear A;rintro⟨j,l,cc⟩ ⟨hj,A⟩;dsimp only at hj A ⊢;refine yZ ?_ ?_<;>intro ab a4
  ·have a0:j<xs.length:=oM;obtain⟨y,a1⟩:∃y,xs[j]?=some y:=⟨_,AA a0⟩;obtain⟨_,qo,_,_,_,_,rfl,ac,ad⟩:=Z (zK a0);refine zW (qo+j*2) ?_;refine aT (CX FY BM (aF ac) (AY AP ad a1)) ?_;refine yU 1 ?_;intro _ _;refine yU 6 ?_;refine aN rfl (EY (kv:=AB) (a:=y) 1 (.inr rfl) rfl rfl rfl rfl rfl LH FQ rfl (cO bG) ?_);refine yU 7 ?_;refine aG (aC (aB aH)) ?_;refine aS (j+1,_,_) ⟨dO,by dsimp only;rw[c6z a1];exact A.push y⟩ dO rT rfl rfl
  refine yU 10 ?_;refine aS (i+1,_,_) ⟨dO,by dsimp only;rw[c9y G];rw[tX (oM:xs.length≤j)]at A;exact A⟩ dO rT rfl rfl
 refine yU 12 ?_;rw[tX (oM:ls.length≤i)]at A;refine zM ?_;exact⟨_,rfl,M,l,cc,rfl,A,rfl⟩
theorem c3Z mb m k (S P:aW→Bool) g M (hm:IL m k S) I (N:I mb=some (zZ AB m k))(a3:∀t,S t=true→Pure aA g (AB t::M) I (.bool (P t))):yY aA 205 [.map (some mb),.func (.func g) #[] M.toArray] I [] (fun e _ H'=>∃w,e= .returned w∧a0D w (fun t=>S t && P t) H'):=by
 have O:=hm.1;refine zN func205 fun w0 _=>?_;refine yU 7 ?_;refine aN rfl (BG rfl rfl rfl ?_);intro b1 _;refine yU 7 ?_;refine aN rfl (MJ (kv:=AB) (l:=m) rfl rfl rfl rfl LH (aF N) ?_);intro b2 _;refine yU 3 ?_;refine aZ (ι:=TC) (fun y=>(y.vis++y.rest).Perm m∧IL y.l y.c (a0V y.vis P)) (fun y=>y.rest.length) (fun y=>[(1,.func (.func g) #[] M.toArray),(5,.map (some b1)),(9,ptr b2 0)]) (fun y=>_) (fun y=>[(b2,XZ mb k y.vis k),(b1,zZ AB y.l y.c)]) ⟨[],m,[],0⟩ ⟨.refl _,eG.congr fun _=>rfl⟩ rT rfl rfl ?_;rintro⟨vis,rest,l,cc⟩ ⟨hp,hM⟩;dsimp only at hp hM ⊢;refine yU 2 ?_;refine aN rfl (NW (kv:=AB) (l:=m) 0 rfl rfl rfl rfl rfl (aF N) O.2.2 (tH _) O.2.1 hp ?_ ?_)
 ·rintro x G _ a0 Q ⟨-,hset⟩;simp only[uM,uN]at hset;subst hset;have a1:x∈m:=Q.mem_iff.1 (vZ _ (vY _ (.head _)));have a4:S x.1=true:=(hm.mem x.1).1 (vT a1);refine yU 10 ?_;refine aT (RQ (kv:=AB) (l:=m) rfl rfl (yX.at 0 rfl) (aF N) a1 O.2.1) ?_;refine yU 2 ?_;intro _ _;refine zO (a3 x.1 a4) ?_;refine DF ?_ ?_<;>intro A
  ·have Z:P x.1=true:=A;refine yU 3 ?_;refine aN rfl (EY (kv:=AB) (a:=x.1) 2 (.inr rfl) rfl rfl rfl rfl rfl LH FQ rfl (cO (cO bG)) ?_);refine yU 2 ?_;refine aG (aC (aB (aB aH))) ?_;refine aS ⟨vis++[x],G,_,_⟩ ⟨Q,hM.add x.1 (c0Y Z)⟩ (by have h:=a0.length_eq;simp only[wU]at h;dsimp only;omega) rT rfl rfl
  have Z:P x.1=false:=A;refine yU 2 ?_;refine aG (aC (aB (aB aH))) ?_;refine aS ⟨vis++[x],G,l,cc⟩ ⟨Q,hM.congr fun t=>(c6Q Z t).symm⟩ (by have h:=a0.length_eq;simp only[wU]at h;dsimp only;omega) rT rfl rfl
 intro a2;have a5:vis.Perm m:=by rw[a2,yD]at hp;exact hp
 refine yU 17 ?_;refine aG (aC (aB aH)) ?_;refine zM ?_;exact⟨_,rfl,b1,l,cc,rfl,hM.congr (c3T hm a5),rfl⟩
theorem c1F g (A:List Value)(S P:aW→Bool)(G:∀t,S t=false) I:yY aA 205 [.map none,.func (.func g) #[] A.toArray] I [] (fun e _ H'=>∃w,e= .returned w∧a0D w (fun t=>S t && P t) H'):=by
 refine zN func205 fun w0 _=>?_;refine yU 7 ?_;refine aN rfl (BG rfl rfl rfl ?_);intro _ _;refine yU 7 ?_;refine aN rfl (OD rfl rfl rfl rfl LH ?_);intro _ _;refine yU 3 ?_;refine bV 1 ?_;refine dL ?_;refine yU 2 ?_;refine aN rfl (QM 0 rfl rfl rfl rfl rfl ?_);refine yU 17 ?_;refine aG (aC (aB aH)) ?_;refine zM ?_;exact⟨_,rfl,_,[],0,rfl,eG.congr (fun t=>by rw[G t];rfl),rfl⟩
theorem ZG v (S P:aW→Bool) g A I (h:MC I v S)(G:∀t,S t=true→Pure aA g (AB t::A) I (.bool (P t))):yY aA 205 [v,.func (.func g) #[] A.toArray] I [] (fun e _ H'=>∃w,e= .returned w∧a0D w (fun t=>S t && P t) H'):=by
 rcases h with⟨rfl,M⟩|⟨b,m,k,rfl,N,O⟩
 ·exact c1F g A S P M I
 exact c3Z b m k S P g A N I O G
theorem c2j G S M m k (O:IL m k S) t I (Q:I G=some (yV 218 [.map (some M)]))(N:I M=some (zZ AB m k)):Pure aA 278 [AB t,ptr G 0] I (.bool (S t)):=by
 refine aQ ?_;have A:=O.get t;refine zN func278 fun w0 _=>?_;refine yU 3 ?_;intro _ _;refine yU 7 ?_;refine aT (BJ (kv:=AB) (l:=m) (a:=t) rfl rfl rfl rfl LH FQ tZ4 (aF N)) ?_;refine bY 6 (.bool (S t)) rfl A ?_;refine zV ?_;exact rT
theorem c1Z G (S:aW→Bool)(M:∀t,S t=false) t I (N:I G=some (yV 218 [.map none])):Pure aA 278 [AB t,ptr G 0] I (.bool (S t)):=by
 refine aQ ?_;have A:dA false= .bool (S t):=by rw[M t]
 refine zN func278 fun w0 _=>?_;refine yU 3 ?_;intro _ _;refine yU 7 ?_;refine aT (LM (kv:=AB) (a:=t) rfl rfl rfl rfl LH FQ tZ4) ?_;refine bY 6 (.bool (S t)) rfl A ?_;refine zV ?_;exact rT
theorem c9e A v S t I (G:I A=some (yV 218 [v]))(h:MC I v S):Pure aA 278 [AB t,ptr A 0] I (.bool (S t)):=by
 rcases h with⟨rfl,M⟩|⟨b,m,k,rfl,N,O⟩
 ·exact c1Z A S M t I G
 exact c2j A S b m k N t I G O
theorem c2g G S M m k (O:IL m k S) t I (Q:I G=some (yV 218 [.map (some M)]))(N:I M=some (zZ AB m k)):Pure aA 206 [AB t,ptr G 0] I (.bool (S t)):=by
 refine aQ ?_;have A:=O.get t;refine zN func206 fun w0 _=>?_;refine yU 3 ?_;intro _ _;refine yU 7 ?_;refine aT (BJ (kv:=AB) (l:=m) (a:=t) rfl rfl rfl rfl LH FQ tZ4 (aF N)) ?_;refine bY 6 (.bool (S t)) rfl A ?_;refine zV ?_;exact rT
theorem c2b G (S:aW→Bool)(M:∀t,S t=false) t I (N:I G=some (yV 218 [.map none])):Pure aA 206 [AB t,ptr G 0] I (.bool (S t)):=by
 refine aQ ?_;have A:dA false= .bool (S t):=by rw[M t]
 refine zN func206 fun w0 _=>?_;refine yU 3 ?_;intro _ _;refine yU 7 ?_;refine aT (LM (kv:=AB) (a:=t) rfl rfl rfl rfl LH FQ tZ4) ?_;refine bY 6 (.bool (S t)) rfl A ?_;refine zV ?_;exact rT
theorem b8c A v S t I (G:I A=some (yV 218 [v]))(h:MC I v S):Pure aA 206 [AB t,ptr A 0] I (.bool (S t)):=by
 rcases h with⟨rfl,M⟩|⟨b,m,k,rfl,N,O⟩
 ·exact c2b A S M t I G
 exact c2g A S b m k N t I G O
theorem c3w G S M m k (O:IL m k S) t I (Q:I G=some (yV 218 [.map (some M)]))(N:I M=some (zZ AB m k)):Pure aA 207 [AB t,ptr G 0] I (.bool (!S t)):=by
 refine aQ ?_;have A:=O.get t;refine zN func207 fun w0 _=>?_;refine yU 3 ?_;intro _ _;refine yU 7 ?_;refine aT (BJ (kv:=AB) (l:=m) (a:=t) rfl rfl rfl rfl LH FQ tZ4 (aF N)) ?_;refine bY 6 (.bool (S t)) rfl A ?_;refine zV ?_;exact rT
theorem c1s G (S:aW→Bool)(M:∀t,S t=false) t I (N:I G=some (yV 218 [.map none])):Pure aA 207 [AB t,ptr G 0] I (.bool (!S t)):=by
 refine aQ ?_;have A:dA false= .bool (S t):=by rw[M t]
 refine zN func207 fun w0 _=>?_;refine yU 3 ?_;intro _ _;refine yU 7 ?_;refine aT (LM (kv:=AB) (a:=t) rfl rfl rfl rfl LH FQ tZ4) ?_;refine bY 6 (.bool (S t)) rfl A ?_;refine zV ?_;exact rT
theorem b7K A v S t I (G:I A=some (yV 218 [v]))(h:MC I v S):Pure aA 207 [AB t,ptr A 0] I (.bool (!S t)):=by
 rcases h with⟨rfl,M⟩|⟨b,m,k,rfl,N,O⟩
 ·exact c1s A S M t I G
 exact c3w A S b m k N t I G O
theorem c1z t I:Pure aA 208 [AB t] I (.bool true):=by
 refine aQ ?_;refine zN func208 fun w0 _=>?_;refine yU 3 ?_;intro _ _;refine zV ?_;exact rT
end Go.Proofs.YtalapkjmkjmpjaaGreatDoor
end
section
namespace Go.Proofs.YtalapkjmkjmpjaaGreatDoor
open Go Go.Sx
structure VL where
  i:Nat
  J:Heap
  ls:List LR
  g:Gs
theorem a0H{α β:Type}(f:α→β){l:List α}{k x}(h:l[k]?=some x):(l.take (k+1)).map f=(l.take k).map f++[f x]:=by
 obtain⟨A,G⟩:=xC.1 h;rw[tN A,G,wG];rfl
theorem b7N{J ls}(h:∀x∈ls,zJ recC J x.1 x.2){l w}(A:zJ recC J l w):∀x∈ls++[(l,w)],zJ recC J x.1 x.2:=fun x G=>by
 rcases wB.1 G with g|g
 ·exact h x g
 rw[vN.1 g];exact A
theorem b8G{ls:List LR}{l}(h:ls.map (·.1)=l):ls.flatMap (·.1)=l.flatMap id:=by
 rw[←h,bM];rfl
theorem b0r L n s:(aU L n s).length≤L.length:=by
 unfold aU aX
 split
 ·split
  ·exact sQ _
  rw[wO];exact wP _ _
 exact sQ _
theorem a9D L n w:(aX L n w).length≤L.length:=by
 unfold aX
 split
 ·exact sQ _
 rw[wO];exact wP _ _
theorem b1E xv L q p c (hq:q.t.length≤10000000) I (Z:OQ I xv L):yY aA 276 [xv,.agg (BR q p c).toArray] I [] (fun e I' H'=>∃w ls,e= .returned w∧ls.map (·.1)=(aI q.t).map (aU L q.i)∧LLS I' ls w∧H'=[]):=by
 have af:=dG q.t;refine zN Tryz.func276 fun w0 _=>?_;refine yU 3 ?_;intro b1 _;refine zX (VR q.t oM _) ?_;intro _ I3 _ a4 a9;have Z:=Z.mono a4;obtain⟨_,h,hw,rfl⟩:=a9;cases h;obtain⟨pw,cw,rfl⟩:=KG hw;refine yU 5 ?_;refine aZ (ι:=VL) (fun y=>y.i≤(aI q.t).length∧Le I3 y.J∧y.ls.map (·.1)=((aI q.t).take y.i).map (aU L q.i)∧(∀x∈y.ls,zJ recC y.J x.1 x.2)∧AL w0.heap.size 1 y.ls.length (y.ls.flatMap lrC) y.g) (fun y=>(aI q.t).length-y.i) (fun y=>[(5,gV y.ls.length y.g),(0,xv),(3,ptr b1 0),(10,.slice pw (aI q.t).length cw),(11,i64 ((aI q.t).length:Int)),(12,i64 (y.i:Int))]) (fun y=>y.J) (fun y=>(b1,yV 73 (BR q p c))::gH 78 (y.ls.flatMap lrC) y.g) ⟨0,_,[],none⟩ ⟨sQ _,bJ _,rfl,(fun x Z=>by cases Z),rfl,rfl⟩ rT rfl rfl ?_;rintro⟨i,_,ls,g⟩ ⟨hi,A,N,G,hg⟩;dsimp only at hi A N G hg ⊢;have Z:=Z.mono A;have hw:=hw.mono A;have ag:ls.length=i:=by have h:=zC bI N;rw[wO,wO,wI]at h;omega
 refine yZ ?_ ?_<;>intro aa a5
 ·have a3:i<(aI q.t).length:=oM;obtain⟨x,a0⟩:∃x,(aI q.t)[i]?=some x:=⟨_,AA a3⟩;have ah:=Ke.NY _ x (CJ a0);obtain⟨wb,_,_,ab,O⟩:=hw.some (zK a3);cases ab;refine zW i ?_;refine aT (DI DU (aF O) (EL a0)) ?_;refine NG (c6o xv L q.i x oM _ Z) ?_;intro _ _ _ M ac a6;have A:=A.mono M;have G:=fun x9 Q=>(G x9 Q).mono M;have O:=M _ _ O;obtain⟨_,h,ad⟩:=a6;cases h;refine dU ad ac (fun _ a1 a2=>?_);have A:=A.mono a1;have G:=fun x9 Q=>(G x9 Q).mono a1;have O:=a1 _ _ O;replace a2:=a2.row;obtain⟨_,_,rfl⟩:=EF a2;refine yU 1 ?_;intro _ _;refine KT 23 [_,_] hg ?_;intro ae a7;refine yU 8 ?_;refine aG (aC (aB dV)) ?_;refine aS ⟨i+1,_,ls++[(aU L q.i x,_)],ae⟩ ⟨dO,A,by dsimp only;rw[wG,N,a0H _ a0];rfl,b7N G a2,by dsimp only;rw[wV,xP];exact a7⟩ dO ⟨by dsimp only;rw[wV];rfl,rfl,rfl,rfl,rfl,rfl,trivial⟩ rfl (by dsimp only;rw[xP];rfl)
 refine yU 6 ?_;rw[tX (oM:(aI q.t).length≤i)]at N;refine Cj.perm (H':=gH 78 (ls.flatMap lrC) g++[_]) uQ ?_;refine eH (f:=lrC) (fun _=>rfl) dE hg rfl (fun _ a8 hv=>?_);have G:=fun x9 Q=>(G x9 Q).mono a8;refine zV ?_;exact⟨_,ls,rfl,N,⟨hv,G⟩,rfl⟩
theorem b4x xv L n ks v (hk:∀x∈ks,Ke.b0a x.1)(al:ks.length≤1000000000000) I (G:OQ I xv L)(hT:NP I)(hr:zJ BH I ks v):yY aA 280 [xv,str n,v] I [] (fun e _ H'=>∃w,e= .returned w∧a0D w (UL (bP L n (ks.map (·.1)))) H'):=by
 have ai:=G.big;obtain⟨p,c,rfl⟩:=EF hr;refine zN Tryz.func280 fun w0 _=>?_;refine yU 19 ?_;refine aZ (ι:=VL) (fun y=>y.i≤ks.length∧Le I y.J∧y.ls.map (·.1)=(ks.take y.i).map (fun x=>bD L n (Ix.keyOf n (dY x.1)))∧(∀x∈y.ls,zJ recC y.J x.1 x.2)∧AL w0.heap.size 1 y.ls.length (y.ls.flatMap lrC) y.g) (fun y=>ks.length-y.i) (fun y=>[(7,gV y.ls.length y.g),(0,xv),(1,str n),(10,.slice p ks.length c),(11,i64 (ks.length:Int)),(12,i64 (y.i:Int))]) (fun y=>y.J) (fun y=>gH 78 (y.ls.flatMap lrC) y.g) ⟨0,_,[],none⟩ ⟨sQ _,bJ _,rfl,(fun x G=>by cases G),rfl,rfl⟩ rT rfl rfl ?_;rintro⟨i,_,ls,g⟩ ⟨hi,A,M,N,hg⟩;dsimp only at hi A M N hg ⊢;have G:=G.mono A;have hT:=hT.mono A;have hr:=hr.mono A;have am:ls.length=i:=by have h:=zC bI M;rw[wO,wO,wI]at h;omega
 refine yZ ?_ ?_<;>intro a4 a7
 ·have a5:i<ks.length:=oM;obtain⟨x,Z⟩:∃x,ks[i]?=some x:=⟨_,AA a5⟩;have a6:=hk x (CJ Z);have aj:=a6.2.2.1;obtain⟨p1,c1,ab,a4,hp⟩:=id hr;cases ab;obtain⟨_,fo,_,_,_,_,rfl,O,ac⟩:=hp (zK a5);refine zW (fo+i*2) ?_;refine aT (CX Tryz.isAgg56 NQ (aF O) (AY DW ac Z)) ?_;refine yU 1 ?_;intro _ _;refine zO (c6b x.1 a6 _ hT) ?_;refine NG (b8I xv L n (dY x.1) oM _ G) ?_;intro _ _ _ a0 ad ae;have A:=A.mono a0;have N:=fun x9 Q=>(N x9 Q).mono a0;have O:=a0 _ _ O;obtain⟨_,h,af⟩:=ae;cases h;refine dU af ad (fun _ a1 a2=>?_);have A:=A.mono a1;have N:=fun x9 Q=>(N x9 Q).mono a1;have O:=a1 _ _ O;replace a2:=a2.row;obtain⟨_,_,rfl⟩:=EF a2;refine yU 1 ?_;intro _ _;refine KT 23 [_,_] hg ?_;intro ag a8;refine yU 8 ?_;refine aG (aC (aC dV)) ?_;refine aS ⟨i+1,_,ls++[(bD L n (Ix.keyOf n (dY x.1)),_)],ag⟩ ⟨dO,A,by dsimp only;rw[wG,M,a0H _ Z];rfl,b7N N a2,by dsimp only;rw[wV,xP];exact a8⟩ dO ⟨by dsimp only;rw[wV];rfl,rfl,rfl,rfl,rfl,rfl,trivial⟩ rfl (by dsimp only;rw[xP];rfl)
 refine yU 6 ?_;rw[tX (oM:ks.length≤i)]at M;refine Cj.perm (H':=gH 78 (ls.flatMap lrC) g++[]) (.of_eq (yD _)) ?_;refine eH (f:=lrC) (fun _=>rfl) dE hg rfl (fun _ a3 hv=>?_);have G:=G.mono a3;have N:=fun x9 Q=>(N x9 Q).mono a3;have a9:∀x∈ls,x.1.length≤1000000:=fun x G=>by
  have h9:x.1∈ls.map (·.1):=vT G;rw[M]at h9;obtain⟨y,_,hy⟩:=vU.1 h9;rw[←hy];exact FD (Ix.ZO _ _ _) oM
 refine zX (a6p ls _ oM a9 _ ⟨hv,N⟩) ?_;intro _ _ _ _ aa;obtain⟨wb,h,ob,mb,kb,rfl,ah,rfl⟩:=aa;cases h;refine yU 4 ?_;refine aG (aB aH) ?_;refine zM ?_;refine⟨_,rfl,ob,mb,kb,rfl,ah.congr fun t=>?_,rfl⟩;rw[show bP L n (ks.map (·.1))=ls.flatMap (·.1) from ?_];rw[b8G M,bM];unfold bP;rw[bM];rfl
end Go.Proofs.YtalapkjmkjmpjaaGreatDoor
end
section
namespace Go.Proofs.YtalapkjmkjmpjaaGreatDoor
open _root_.Go.Proofs.Tryz
open Go Go.Sx
theorem OQ.vok{I v L}(h:OQ I v L):∀e∈L,LD e.2:=by
 rcases h with⟨_,rfl⟩|⟨G,_,o,h,_⟩
 ·exact fun e A=>by cases A
 cases o with
 |none=>rw[show L=[] from h];exact fun e A=>by cases A
 |some s=>exact IY.vok h
theorem a7h{L}(G:dQ L)(Q:∀e∈L,LD e.2)(Z:L.length≤100000) n b:(aK L n b).length≤1000000000000:=by
 have h1:((aK L n b).map fun k=>(n,k)).length≤(L.flatMap fun e=>Ix.plK e.2).length:=by
  refine ZT ?_ fun p hp=>?_
  ·rw[vI,uV];refine(Ix.a0c L n b).imp fun {x y} h e=>?_;have:=zC Prod.snd e;dsimp only at this;rw[this]at h;exact wH _ h
  obtain⟨k,hk,rfl⟩:=vU.1 hp;obtain⟨e,A,N⟩:=(Ix.a3i G).1 ((Ix.VD G).1 hk).2;exact vV.2 ⟨e,A,N⟩
 have h2:∀M:eF,(∀e∈M,LD e.2)→(M.flatMap fun e=>Ix.plK e.2).length≤M.length*10000000:=by
  intro M
  induction M with
  |nil=>intro _;simp
  |cons a r ih=>
   intro O;have:=ih fun e A=>O e (.tail _ A);have h3:=(O a (.head _)).k;rw[xO,wV,wU,Nat.add_mul];omega
 rw[wO]at h1;exact FD (FD h1 (h2 L Q)) (sU 10000000 Z)
abbrev UH:Int:=9223372036854775807
theorem WB{L:eF}(A:dQ L)(G:∀e∈L,LD e.2)(M:L.length≤100000)(n s:List UInt8):((aV L n s UH).map EI).map (·.1)=aK L n (Ix.keyOf n s):=by
 have h:=a7h A G M n (Ix.keyOf n s);rw[wE];exact Ix.b0U (by show _≤9223372036854775807;omega)
theorem a4O{L}(A:dQ L)(G:∀e∈L,LD e.2)(M:L.length≤100000) n s:((aV L n s UH).map EI).length=(aK L n (Ix.keyOf n s)).length∧(aK L n (Ix.keyOf n s)).length≤1000000000000:=by
 have h1:=zC bI (WB A G M n s);rw[wO]at h1;exact⟨h1,a7h A G M n _⟩
theorem b1B{L}(G:bQ L)(A:dQ L)(M:∀e∈L,LD e.2)(N:L.length≤100000) n s:∀x∈(aV L n s UH).map EI,Ke.b0a x.1:=fun x O=>by
 have h:x.1∈((aV L n s UH).map EI).map (·.1):=vT O;rw[WB A M N]at h;exact G.key A h
theorem c6C{L}(A:dQ L) n b:(aK L n b).length≤(aK L n []).length:=by
 rw[Ix.a5U A n b];exact wP _ _
theorem a2r l v:([((l,v):LR)].flatMap (·.1))=l:=yD l
def c4q (kb:Nat):ML (List UInt8):=[([61],.func (.func 273) #[] #[ptr kb 0],0),([61,61],.func (.func 270) #[] #[],1),([97,110,121],.func (.func 275) #[] #[],2),([97,108,108],.func (.func 277) #[] #[],3),([62,61],.func (.func 279) #[] #[],4),([60],.func (.func 282) #[] #[],5)]
theorem d1G{ls:List LR}{L i}{ws:Ke.Row}(h:ls.map (·.1)=ws.map (aU L i)) t:UL (ls.flatMap (·.1)) t=ws.any fun w=>decide (t∈aU L i w):=by
 unfold UL;rw[b8G h,yM,zG,vV,yF];constructor
 ·rintro⟨l,M,A⟩;obtain⟨w,G,rfl⟩:=vU.1 M;exact⟨w,G,zH A⟩
 rintro⟨w,G,A⟩;exact⟨_,vT G,DK A⟩
def a1E (ls:List LR) (t:aW):Bool:=ls.all fun x=>decide (t∈x.1)
theorem b1k{ls:List LR}{i x}(h:ls[i]?=some x) t:a1E (ls.take (i+1)) t=(a1E (ls.take i) t && decide (t∈x.1)):=by
 obtain⟨A,G⟩:=xC.1 h;unfold a1E;rw[tN A,G,List.all_append,yH,List.all_nil,yO]
theorem allL{ls L i}{ws:Ke.Row}(h:ls.map (·.1)=ws.map (aU L i)) t:a1E ls t=ws.all fun w=>decide (t∈aU L i w):=by
 have:a1E ls t=(ls.map (·.1)).all fun l=>decide (t∈l):=by unfold a1E;rw[eP];rfl
 rw[this,h,eP];rfl
theorem b7o Q L q p c (hq:q.t.length≤10000000) I (A:OQ I Q L):yY aA 270 [Q,.agg (BR q p c).toArray] I [] (fun e _ H'=>∃w,e= .returned w∧a0D w (UL (bD L q.i (Ix.keyOf q.i q.t))) H'):=by
 have a8:=A.big;refine zN func270 fun w0 _=>?_;refine yU 3 ?_;intro _ _;refine NG (b8I Q L q.i q.t oM _ A) ?_;intro _ _ _ Z a2 a3;have A:=A.mono Z;obtain⟨_,h,a4⟩:=a3;cases h;refine dU a4 a2 (fun _ a0 G=>?_);have A:=A.mono a0;replace G:=G.row;obtain⟨pa,ca,rfl⟩:=EF G;refine yU 1 ?_;intro b8 a5;refine dH a5 (fun _ N M=>?_);have A:=A.mono N;have G:=G.mono N;have a6:LLS _ [((bD L q.i (Ix.keyOf q.i q.t)),.slice pa _ ca)] (.slice (some ⟨b8,0,none⟩) 1 1):=⟨dW (l:=[(((bD L q.i (Ix.keyOf q.i q.t)),.slice pa _ ca):LR)]) (sp:=[]) (tH _) M,fun x A=>by rw[vN.1 A];exact G⟩;refine zX (a6p [((bD L q.i (Ix.keyOf q.i q.t)),_)] _ (by show 1≤_;decide) (fun x A=>by rw[vN.1 A];exact FD (Ix.ZO _ _ _) oM) _ a6) ?_;intro _ _ _ O a1;have M:=O _ _ M;obtain⟨wb,h,ob,mb,kb,rfl,a7,rfl⟩:=a1;cases h;refine yU 4 ?_;refine aG (aB (aC aH)) ?_;refine zM ?_;exact⟨_,rfl,ob,mb,kb,rfl,a7.congr fun t=>zC (fun l=>UL l t) (a2r _ _),rfl⟩
theorem c8p xv L q p c (hq:q.t.length≤10000000) I (G:OQ I xv L) a3 (A:I a3=some (yV 219 [.func (.func 270) #[] #[]])):yY aA 273 [xv,.agg (BR q p c).toArray,ptr a3 0] I [] (fun e _ H'=>∃w,e= .returned w∧a0D w (fun t=>if q.i=eU then UL (bD L q.i (Ix.keyOf q.i q.t)) t else UL (aX L q.i (aI q.t)) t) H'):=by
 have ae:=G.big;refine zN func273 fun w0 _=>?_;refine yU 3 ?_;intro _ _;refine yZ ?_ ?_<;>intro a0 a4
 ·refine zX (b7o xv L q p c hq _ G) ?_;intro _ _ _ a5 a9;have A:=a5 _ _ A;obtain⟨wb,h,ob,mb,kb,rfl,a1,rfl⟩:=a9;cases h;refine yU 5 ?_;refine aG (aB (aC aH)) ?_;have hi:q.i=eU:=BP a0;refine zM ?_;exact⟨_,rfl,ob,mb,kb,rfl,a1.congr fun t=>by rw[zF hi],rfl⟩
 refine NG (b9v xv L q.i q.t oM _ G) ?_;intro _ _ _ Q aa a6;have G:=G.mono Q;have A:=Q _ _ A;obtain⟨_,h,ab⟩:=a6;cases h;refine dU ab aa (fun _ a2 M=>?_);have G:=G.mono a2;have A:=a2 _ _ A;replace M:=M.row;obtain⟨pa,ca,rfl⟩:=EF M;refine yU 1 ?_;intro ac a7;refine dH a7 (fun _ N O=>?_);have G:=G.mono N;have A:=N _ _ A;have M:=M.mono N;have ad:LLS _ [((aX L q.i (aI q.t)),.slice pa _ ca)] (.slice (some ⟨ac,0,none⟩) 1 1):=⟨dW (l:=[(((aX L q.i (aI q.t)),.slice pa _ ca):LR)]) (sp:=[]) (tH _) O,fun x G=>by rw[vN.1 G];exact M⟩;refine zX (a6p [((aX L q.i (aI q.t)),_)] _ (by show 1≤_;decide) (fun x G=>by rw[vN.1 G];exact FD (a9D _ _ _) oM) _ ad) ?_;intro _ _ _ Z a8;have A:=Z _ _ A;have O:=Z _ _ O;obtain⟨wb,h,ob,mb,kb,rfl,a1,rfl⟩:=a8;cases h;refine yU 4 ?_;refine aG (aB (aC aH)) ?_;have hi:q.i≠eU:=CB a0;refine zM ?_;exact⟨_,rfl,ob,mb,kb,rfl,a1.congr fun t=>by rw[zD hi];exact zC (fun l=>UL l t) (a2r _ _),rfl⟩
theorem c7O N L q p c (hq:q.t.length≤10000000) I (A:OQ I N L):yY aA 275 [N,.agg (BR q p c).toArray] I [] (fun e _ H'=>∃w,e= .returned w∧a0D w (fun t=>(aI q.t).any fun w=>decide (t∈aU L q.i w)) H'):=by
 have a3:=A.big;have a4:=dG q.t;refine zN func275 fun w0 _=>?_;refine yU 3 ?_;intro _ _;refine zX (b1E N L q p c hq _ A) ?_;intro _ _ _ O a1;have A:=A.mono O;obtain⟨wl,ls,h,G,M,rfl⟩:=a1;cases h;have Q:∀x∈ls,x.1.length≤1000000:=fun x A=>by
  have h9:x.1∈ls.map (·.1):=vT A;rw[G]at h9;obtain⟨y,_,hy⟩:=vU.1 h9;rw[←hy];exact FD (b0r _ _ _) oM
 have a5:ls.length=(aI q.t).length:=by have h:=zC bI G;rw[wO,wO]at h;exact h
 obtain⟨pl,cl,Z,_,-⟩:=id M.1;subst Z;refine zX (a6p ls _ oM Q _ M) ?_;intro _ _ _ _ a0;obtain⟨wb,h,ob,mb,kb,rfl,a2,rfl⟩:=a0;cases h;refine yU 4 ?_;refine aG (aB (aC aH)) ?_;refine zM ?_;exact⟨_,rfl,ob,mb,kb,rfl,a2.congr (d1G G),rfl⟩
theorem MC.congr{I v S A}(h:MC I v S)(G:∀t,S t=A t):MC I v A:=
 h.imp (fun⟨h1,h2⟩=>⟨h1,fun t=>by rw[←G t];exact h2 t⟩) fun⟨b,m,k,h1,h2,h3⟩=>⟨b,m,k,h1,h2.congr G,h3⟩
theorem c6W{ls:List LR}{x}(h:ls[0]?=some x) t:a1E (ls.take (0+1)) t=UL x.1 t:=by
 rw[b1k h t];rfl
theorem c7E xv L q p c (hq:q.t.length≤10000000) I (M:OQ I xv L):yY aA 277 [xv,.agg (BR q p c).toArray] I [] (fun e I' H'=>∃w,e= .returned w∧MC I' w (fun t=> !(aI q.t).isEmpty && (aI q.t).all fun w=>decide (t∈aU L q.i w))∧H'=[]):=by
 have bu:=M.big;have bv:=dG q.t;refine zN func277 fun w0 _=>?_;refine yU 3 ?_;intro b1 _;refine zX (b1E xv L q p c hq _ M) ?_;intro _ _ _ az bb;have M:=M.mono az;obtain⟨wl,ls,h,ah,N,rfl⟩:=bb;cases h;have ai:∀x∈ls,x.1.length≤1000000:=fun x M=>by
  have h9:x.1∈ls.map (·.1):=vT M;rw[ah]at h9;obtain⟨y,_,hy⟩:=vU.1 h9;rw[←hy];exact FD (b0r _ _ _) oM
 have av:ls.length=(aI q.t).length:=by have h:=zC bI ah;rw[wO,wO]at h;exact h
 obtain⟨pl,cl,b0,bc,-⟩:=id N.1;subst b0;refine yZ ?_ ?_<;>intro aj hc7p
 ·refine zV ?_;exact⟨_,rfl,.inl ⟨rfl,fun t=>by rw[show aI q.t=[] from wR.1 (by have h:=BP aj;omega)];rfl⟩,rfl⟩
 have a6:0<ls.length:=by have h:=CB aj;omega
 obtain⟨⟨al,_⟩,a2⟩:∃x,ls[0]?=some x:=⟨_,AA a6⟩;obtain⟨p1,c1,bd,_,hp⟩:=id N.1;cases bd;obtain⟨lb,lo,_,_,_,_,rfl,a7,be⟩:=hp (zK a6);have af:=N.2 _ (CJ a2);dsimp only at af;have am:=ai _ (CJ a2);dsimp only at am;obtain⟨pa,ca,rfl⟩:=EF af;have Q:=zJ.cut (f:=lrC) (sz:=1) (fun _=>rfl) N.1 (j:=1) (k:=ls.length) a6 (tH _);rw[tX sI]at Q;obtain⟨p4,c4,aw⟩:=EF Q;rw[aw]at Q;refine zW (lo+0) ?_;refine aT (DI isAgg78 (aF a7) (a5c be a2)) ?_;refine yU 1 ?_;intro b8 an;refine dH an (fun _ a8 a9=>?_);have M:=M.mono a8;have N:=N.mono a8;have a7:=a8 _ _ a7;have af:=af.mono a8;have Q:=Q.mono a8;have b2:LLS _ [(al,.slice pa _ ca)] (.slice (some ⟨b8,0,none⟩) 1 1):=⟨dW (l:=[((al,.slice pa _ ca):LR)]) (sp:=[]) (tH _) a9,fun x M=>by rw[vN.1 M];exact af⟩;refine zX (a6p [(al,_)] _ (by show 1≤_;decide) (fun x M=>by rw[vN.1 M];exact am) _ b2) ?_;intro _ _ _ Z b3;have M:=M.mono Z;have a7:=Z _ _ a7;have Q:=Q.mono Z;have a9:=Z _ _ a9;have N:=N.mono Z;obtain⟨wb,h,ob,mb,kb,rfl,bf,rfl⟩:=b3;cases h;refine yU 5 ?_;refine eX rfl (fun ao=>?_);refine aO (ao _ (.head _)) (fun I7 aa bg=>?_);have M:=M.mono aa;have a7:=aa _ _ a7;have Q:=Q.mono aa;have a9:=aa _ _ a9;have N:=N.mono aa;have hset:MC I7 (.map (some ob)) (a1E (ls.take (0+1))):= .inr ⟨ob,mb,kb,rfl,bf.congr (fun t=>by rw[c6W a2 t,a2r]),bg⟩;refine yU 2 ?_;refine aT (MH (j:=1) rfl rfl rfl underlying359 sizeOf78 rfl a6 bc) ?_;refine bY 22 (.slice p4 (ls.drop 1).length c4) rfl aw ?_;refine yU 5 ?_;refine aZ (ι:=Nat×Heap×Value) (fun y=>y.1+1≤ls.length∧Le I7 y.2.1∧MC y.2.1 y.2.2 (a1E (ls.take (y.1+1)))) (fun y=>ls.length-y.1) (fun y=>[(3,ptr b1 0),(6,y.2.2),(22,.slice p4 (ls.drop 1).length c4),(23,i64 ((ls.drop 1).length:Int)),(24,i64 (y.1:Int))]) (fun y=>y.2.1) (fun y=>[(b1,yV 73 (BR q p c))]) (0,_,_) ⟨a6,bJ _,hset⟩ rT rfl rfl ?_;clear hset;rintro⟨i,_,sv⟩ ⟨hi,G,hset⟩;dsimp only at hi G hset ⊢;have N:=N.mono G;have Q:=Q.mono G;have bw:(ls.drop 1).length=ls.length-1:=wS;refine yZ ?_ ?_<;>intro b4 ap
 ·have bh:i+1<ls.length:=oM;obtain⟨⟨xs,bi⟩,ab⟩:∃x,ls[i+1]?=some x:=⟨_,AA bh⟩;have bj:(ls.drop 1)[i]?=some (xs,bi):=by rw[xH,Nat.add_comm];exact ab
  obtain⟨_,_,b5,_,bl⟩:=id Q;cases b5;obtain⟨tb,bm,_,_,_,_,rfl,O,bn⟩:=bl (zK (oM:i<(ls.drop 1).length));have ag:=N.2 _ (CJ ab);dsimp only at ag;have ax:=ai _ (CJ ab);dsimp only at ax;obtain⟨pb,cb,rfl⟩:=EF ag;have bo:=b1k ab;refine zW (bm+i) ?_;refine aT (DI isAgg78 (aF O) (a5c bn bj)) ?_;refine yU 7 ?_;intro bp b6;refine dH b6 (fun _ a3 A=>?_);have hset:=hset.mono a3;have G:=G.mono a3;have O:=a3 _ _ O;have ag:=ag.mono a3;have b7:LLS _ [(xs,.slice pb _ cb)] (.slice (some ⟨bp,0,none⟩) 1 1):=⟨dW (l:=[((xs,.slice pb _ cb):LR)]) (sp:=[]) (tH _) A,fun x M=>by rw[vN.1 M];exact ag⟩;refine zX (a6p [(xs,_)] _ (by show 1≤_;decide) (fun x M=>by rw[vN.1 M];exact ax) _ b7) ?_;intro _ _ _ a4 hp24;have hset:=hset.mono a4;have G:=G.mono a4;have O:=a4 _ _ O;have A:=a4 _ _ A;obtain⟨_,h,oc,mc,kc,rfl,bq,rfl⟩:=hp24;cases h;refine yU 1 ?_;intro ay b9;refine yU 3 ?_;refine Cj.pull (Pull.s Pull.z) ?_;refine eX rfl (fun aq=>?_);refine aO (aq _ (.head _)) (fun I6 ac br=>?_);have hset:=hset.mono ac;have G:=G.mono ac;have O:=ac _ _ O;have A:=ac _ _ A;have ad:MC I6 (.map (some oc)) (UL xs):= .inr ⟨oc,mc,kc,rfl,bq.congr (fun t=>zC (fun l=>UL l t) (a2r _ _)),br⟩;refine aO b9 (fun _ a0 a1=>?_);have hset:=hset.mono a0;have G:=G.mono a0;have O:=a0 _ _ O;have A:=a0 _ _ A;have ad:=ad.mono a0;refine zX (ZG _ (a1E (ls.take (i+1))) (UL xs) _ [ptr ay 0] _ hset (fun t _=>c9e ay _ (UL xs) t _ a1 ad)) ?_;intro _ _ _ a5 ba;have G:=G.mono a5;have O:=a5 _ _ O;have A:=a5 _ _ A;have a1:=a5 _ _ a1;obtain⟨_,h,od,md,kd,rfl,bt,rfl⟩:=ba;cases h;refine yU 4 ?_;refine eX rfl (fun ar=>?_);refine aO (ar _ (.head _)) (fun I8 ae an=>?_);have G:=G.mono ae;have O:=ae _ _ O;have A:=ae _ _ A;have a1:=ae _ _ a1;have au:MC I8 (.map (some od)) (a1E (ls.take (i+1+1))):= .inr ⟨od,md,kd,rfl,bt.congr (fun t=>(bo t).symm),an⟩;refine yU 4 ?_;refine aS (i+1,_,_) ⟨dO,G,au⟩ dO rT rfl rfl
 refine zV ?_;refine⟨_,rfl,?_,rfl⟩;rw[tX (oM:ls.length≤i+1)]at hset;refine hset.congr fun t=>?_;rw[allL ah];rw[show(aI q.t).isEmpty=false from by
  cases hw:aI q.t with
  |nil=>rw[hw]at av;rw[av]at a6;exact absurd a6 (Nat.lt_irrefl 0)
  |cons a r=>rfl]
 rfl
theorem c8J xv L q p c (hq:q.t.length≤10000000) I (G:OQ I xv L)(M:NP I)(a6:bQ L):yY aA 279 [xv,.agg (BR q p c).toArray] I [] (fun e _ H'=>∃w,e= .returned w∧a0D w (fun t=>decide (t∈bP L q.i (aK L q.i (Ix.keyOf q.i q.t)))) H'):=by
 have N:=G.big;have O:=G.JC;have Q:=G.vok;obtain⟨_,_⟩:=a4O O Q N q.i q.t;refine zN func279 fun w0 _=>?_;refine yU 3 ?_;intro _ a7;refine yU 4 ?_;refine aO a7 (fun _ a2 A=>?_);have G:=G.mono a2;have M:=M.mono a2;refine bC [] [] 11 kR ?_;have a8:=A;refine NG (a7G xv L q.i q.t oM UH _ G) ?_;intro _ _ _ Z a9 a4;have G:=G.mono Z;have M:=M.mono Z;have A:=Z _ _ A;obtain⟨_,h,aa⟩:=a4;cases h;have ab:=a9;refine yU 1 ?_;refine eY aa ab (fun _ a0 a1=>?_);have G:=G.mono a0;have M:=M.mono a0;have A:=a0 _ _ A;replace a1:=a1.row;obtain⟨_,_,ac,_,-⟩:=id a1;subst ac;refine zX (b4x xv L q.i ((aV L q.i q.t UH).map EI) _ (b1B a6 O Q N q.i q.t) oM _ G M a1) ?_;intro _ _ _ a3 a5;have A:=a3 _ _ A;obtain⟨wb,h,ob,mb,kb,rfl,ad,rfl⟩:=a5;cases h;refine yU 5 ?_;refine aG (aB aH) ?_;refine zM ?_;exact⟨_,rfl,ob,mb,kb,rfl,ad.congr fun t=>zC (fun l=>UL (bP L q.i l) t) (WB O Q N q.i q.t),rfl⟩
theorem c8g xv L q p c (hq:q.t.length≤10000000) I (G:OQ I xv L)(O:NP I)(ad:bQ L):yY aA 282 [xv,.agg (BR q p c).toArray] I [] (fun e _ H'=>∃w,e= .returned w∧a0D w (fun t=>decide (t∈bP L q.i ((aK L q.i []).take ((aK L q.i []).length-(aK L q.i (Ix.keyOf q.i q.t)).length)))) H'):=by
 have Z:=G.big;have Q:=G.JC;have a0:=G.vok;obtain⟨ae,_⟩:=a4O Q a0 Z q.i q.t;obtain⟨a7,a8⟩:=a4O Q a0 Z q.i [];rw[Ix.a2j]at a7 a8;have ar:=c6C Q q.i (Ix.keyOf q.i q.t);refine zN func282 fun w0 _=>?_;refine yU 3 ?_;intro _ af;refine yU 4 ?_;refine aO af (fun _ a4 A=>?_);have G:=G.mono a4;have O:=O.mono a4;refine bC [] [] 12 kR ?_;have ag:=A;refine NG (a7G xv L q.i [] dE UH _ G) ?_;intro _ _ _ a2 ah a9;have G:=G.mono a2;have O:=O.mono a2;have A:=a2 _ _ A;obtain⟨_,h,ai⟩:=a9;cases h;have aj:=ah;refine yU 1 ?_;refine eY ai aj (fun _ a3 M=>?_);have G:=G.mono a3;have O:=O.mono a3;have A:=a3 _ _ A;replace M:=M.row;obtain⟨_,_,al,_,-⟩:=id M;subst al;refine NG (a7G xv L q.i q.t oM UH _ G) ?_;intro _ _ _ N aa ab;have G:=G.mono N;have O:=O.mono N;have A:=N _ _ A;have M:=M.mono N;obtain⟨_,h,am⟩:=ab;cases h;have an:=aa;refine yU 1 ?_;refine eY am an (fun _ a1 a5=>?_);have G:=G.mono a1;have O:=O.mono a1;have A:=a1 _ _ A;have M:=M.mono a1;replace a5:=a5.row;obtain⟨_,cd,ao,_,-⟩:=id a5;subst ao;refine yU 5 ?_;refine bC [] [] 12 kR ?_;have ap:=A;refine yU 9 ?_;refine JA.ez 25 (i64 ((((aV L q.i [] UH).map EI).length-((aV L q.i q.t UH).map EI).length):Nat)) rfl (zC i64 oM) ?_;refine JA.zt 9 rfl (a4l rfl rfl rfl RN NQ oM) ?_;refine zX (b4x xv L q.i (((aV L q.i [] UH).map EI).take (((aV L q.i [] UH).map EI).length-((aV L q.i q.t UH).map EI).length)) _ (fun x G=>b1B ad Q a0 Z q.i [] x (vO G)) (by rw[wI];omega) _ G O (zJ.take M (Nat.sub_le _ _))) ?_;intro _ _ _ a6 ac;have A:=a6 _ _ A;obtain⟨wb,h,ob,mb,kb,rfl,aq,rfl⟩:=ac;cases h;refine yU 5 ?_;refine aG (aB aH) ?_;refine zM ?_;exact⟨_,rfl,ob,mb,kb,rfl,aq.congr fun t=>by rw[List.map_take,WB Q a0 Z q.i [],ae,a7,Ix.a2j];rfl,rfl⟩
theorem b3x I:yY aA 204 [] I [] (fun e N H'=>∃kb O,e= .returned (.map (some O))∧N kb=some (yV 219 [.func (.func 270) #[] #[]])∧N O=some (zZ (fun a:List UInt8=>str a) (c4q kb) 6)∧H'=[]):=by
 refine zN func204 fun w0 _=>?_;refine yU 8 ?_;intro b1 Q;refine yU 5 ?_;refine aN rfl (BG rfl rfl rfl ?_);intro b2 Z;refine yU 1 ?_;refine aN rfl (EY (kv:=(fun a:List UInt8=>str a)) (l:=[]) (c:=0) (a:=[61]) 0 (.inl rfl) rfl rfl rfl rfl rfl a3w (bF AV) rfl bG ?_);refine yU 1 ?_;refine aN rfl (EY (kv:=(fun a:List UInt8=>str a)) (a:=[61,61]) 0 (.inl rfl) rfl rfl rfl rfl rfl a3w (bF AV) rfl bG ?_);refine aN rfl (EY (kv:=(fun a:List UInt8=>str a)) (a:=[97,110,121]) 0 (.inl rfl) rfl rfl rfl rfl rfl a3w (bF AV) rfl bG ?_);refine aN rfl (EY (kv:=(fun a:List UInt8=>str a)) (a:=[97,108,108]) 0 (.inl rfl) rfl rfl rfl rfl rfl a3w (bF AV) rfl bG ?_);refine aN rfl (EY (kv:=(fun a:List UInt8=>str a)) (a:=[62,61]) 0 (.inl rfl) rfl rfl rfl rfl rfl a3w (bF AV) rfl bG ?_);refine aN rfl (EY (kv:=(fun a:List UInt8=>str a)) (a:=[60]) 0 (.inl rfl) rfl rfl rfl rfl rfl a3w (bF AV) rfl bG ?_);refine yU 5 ?_;refine Ej.pull (Pull.s Pull.z) ?_;refine dB Q (fun _ _ A=>?_);refine dB Z (fun _ G M=>?_);have A:=G _ _ A;refine zV ?_;exact⟨b1,b2,rfl,A,M,rfl⟩
end Go.Proofs.YtalapkjmkjmpjaaGreatDoor
end
namespace Ix
open Ke
theorem a2Y L {t}:∀(n:Nat) (q:dR),q.size<n→cZ q=true→sat L q t=true→t∈L.map (·.1)
 |0,_,h,_,_=>absurd h (Nat.not_lt_zero _)
 |n+1,q,hn,hf,h=>by
  rcases Cq.WL hf with G|⟨G,h2,O,a,b,A,M,N⟩
  ·rw[a7O G]at h;exact c9l h
  rw[a9Z G A]at h;have Q:=A.size;unfold comb at h
  split at h
  ·rw[yP]at h;exact a2Y L n a oM M h.1
  split at h
  ·rw[Bool.or_eq_true]at h;exact h.elim (a2Y L n a oM M) (a2Y L n b oM N)
  rw[yP]at h;exact a2Y L n a oM M h.1
theorem b5z{L q}(G:cZ q=true){l}(M:l.Pairwise (JK L))(A:∀t,t∈l↔sat L q t=true):NK L q l:=
 ⟨M,fun t=>⟨fun h=>⟨a2Y L _ q (sZ _) G ((A t).1 h),(A t).1 h⟩,fun h=>(A t).2 h.2⟩⟩
def hits (L:Ix) (i s:Bs) (t:Rec):Nat:=(words s).countP fun w=>decide (t∈word L i w)
def a2f (L:Ix) (i s:Bs) (t:Rec) (k:Nat):Nat:=((words s).take k).countP fun w=>decide (t∈word L i w)
theorem c2I L i s t {k}(h:(words s).length≤k):a2f L i s t k=hits L i s t:=by unfold a2f hits;rw[tX h]
theorem c5g L i s t k:a2f L i s t k≤k:=Nat.le_trans List.countP_le_length (by rw[wI];omega)
theorem a9p{L i s t k w}(h:(words s)[k]?=some w):a2f L i s t (k+1)=a2f L i s t k+if t∈word L i w then 1 else 0:=by
 obtain⟨A,G⟩:=xC.1 h;unfold a2f;rw[tN A,G,List.countP_append];simp[List.countP_cons]
theorem c2E L i s t:a2B L i rEq s t=if i=QH then decide (t∈JD L i (keyOf i s))else decide (t∈phrase L i (words s)):=rfl
theorem c7Q L i s t:a2B L i d0u s t=decide (t∈JD L i (keyOf i s)):=rfl
theorem b8z L i s t:a2B L i c0E s t=decide (0<hits L i s t):=by
 show(words s).any _=_;rw[yM,zG];unfold hits;rw[dF,yF]
theorem b8g L i s t:a2B L i b9V s t=(decide (0<hits L i s t) && decide (hits L i s t=(words s).length)):=by
 show(!(words s).isEmpty && (words s).all _)=_;rw[yM,yP,yP,zG,zG];unfold hits;rw[List.countP_eq_length,yG];cases hw:words s with
 |nil=>simp
 |cons a r=>
  constructor
  ·rintro⟨_,h⟩;exact⟨dF.2 ⟨a,.head _,h a (.head _)⟩,h⟩
  rintro⟨_,h⟩;exact⟨rfl,h⟩
end Ix
namespace Ix
open Ke
theorem a1L{L q l}(h1:l.Pairwise (JK L))(h2:∀t∈L.map (·.1),(t∈l↔sat L q t=true))(h3:∀t∈l,t∈L.map (·.1)):NK L q l:=
 ⟨h1,fun t=>⟨fun h=>⟨h3 t h,(h2 t (h3 t h)).1 h⟩,fun h=>(h2 t h.1).2 h.2⟩⟩
end Ix
section
namespace Go.Proofs.YtalapkjmkjmpjaaGreatDoor
open _root_.Go.Proofs.Tryz
open Go Go.Sx
theorem yY.c1S{f args I S}(h:yY aA f args I [] (fun e G H'=>∃w,e= .returned w∧(a0D w S H'∨(MC G w S∧H'=[])))):yY aA f args I [] (fun e G H'=>∃w,e= .returned w∧MC G w S∧H'=[]):=by
 refine⟨h.1,fun w M=>(h.2 w M).mono ?_⟩;rintro e w' ⟨G,H',A,u,rfl,N|⟨O,rfl⟩⟩
 ·obtain⟨b,m,k,rfl,Q,rfl⟩:=N;have Z:w.heap.size≤b:=(A.new _ (.head _)).resolve_left sI;exact⟨_,_,A.persist Z,_,rfl,.inr ⟨b,m,k,rfl,Q,a1f _ _ _⟩,rfl⟩
 exact⟨_,_,A,_,rfl,O,rfl⟩
theorem yY.a5K{f args I S A}(h:yY aA f args I [] (fun e _ H'=>∃w,e= .returned w∧a0D w S H'))(G:∀t,S t=A t):yY aA f args I [] (fun e M H'=>∃w,e= .returned w∧MC M w A∧H'=[]):=
 yY.c1S (h.mono fun _ _ _ _ ⟨w,h1,b,m,k,h2,h3,N⟩=>⟨w,h1,.inl ⟨b,m,k,h2,h3.congr G,N⟩⟩)
theorem c8m A L q p c kb (G:q.t.length≤10000000)(O:bQ L)(hr:aY.contains q.r=true) I (M:OQ I A L)(Q:NP I)(Z:I kb=some (yV 219 [.func (.func 270) #[] #[]])):
 ∃F N,(AQ (c4q kb) q.r).getD .nilFunc= .func (.func F) #[] (dI N)∧yY aA F (A:: .agg (BR q p c).toArray::N) I [] (fun e I' H'=>∃w,e= .returned w∧MC I' w (fun t=>Ix.a2B L q.i q.r q.t t)∧H'=[]):=by
 have hm:q.r∈aY:=yB.1 hr;simp only[aY,vX,vG,or_false]at hm;rcases hm with h|h|h|h|h|h<;>rw[h]
 ·exact⟨_,[ptr kb 0],rfl,yY.a5K (c8p A L q p c G I M kb Z) fun t=>rfl⟩
 ·exact⟨_,[],rfl,yY.a5K (b7o A L q p c G I M) fun t=>rfl⟩
 ·exact⟨_,[],rfl,yY.a5K (c8g A L q p c G I M Q O) fun t=>rfl⟩
 ·exact⟨_,[],rfl,yY.a5K (c8J A L q p c G I M Q O) fun t=>rfl⟩
 ·exact⟨_,[],rfl,yY.a5K (c7O A L q p c G I M) fun t=>rfl⟩
 exact⟨_,[],rfl,c7E A L q p c G I M⟩
def a6i (xv:Value) (L:eF) (q:dR):Prop:=∀(p:Option Addr) (c:Nat) (I:Heap),PS I q.ps p→OQ I xv L→NP I→q.wide≤10000000→cZ q=true→yY aA 118 [xv,.agg (BR q p c).toArray] I [] (fun e I' H'=>∃w,e= .returned w∧MC I' w (aJ L q)∧H'=[])
theorem b4F xv L (htk:bQ L) q (ih:∀q',aP q'<q.size→a6i xv L q'):a6i xv L q:=by
 intro p c I ce hx hT cf a6;refine yY.c1S ?_;refine zN func118 fun w0 _=>?_;refine yU 3 ?_;intro b1 _;refine yZ ?_ ?_<;>intro ch br
 ·have hk:q.k=1:=oM;have bt:aY.contains q.r=true:=by
   rw[Cq.a0w hk,yP,yP]at a6;exact a6.1.2
  have ci:q.t.length≤10000000:=by unfold Cq.Qn.wide at cf;omega
  refine yU 1 ?_;refine bC [0] [] 8 kR ?_;refine zX (b3x _) ?_;intro _ _ _ b5 cj;have hx:=hx.mono b5;have hT:=hT.mono b5;obtain⟨kb1,_,h,aj,al,rfl⟩:=cj;cases h;obtain⟨F,bu,hF,cm⟩:=c8m xv L q p c kb1 ci htk bt _ hx hT aj;refine yU 1 ?_;refine qq2 3 rfl (CU (BJ (kv:=(fun a:List UInt8=>str a)) (l:=(c4q kb1)) (a:=q.r) rfl rfl rfl rfl a3w (bF AV) zeroValue219 (aF al)) ?_);refine yU 1 ?_;refine JA.ez 15 (.func (.func F) #[] bu.toArray) rfl hF ?_;refine zX (cm) ?_;intro _ _ _ aw bv;have aj:=aw _ _ aj;have al:=aw _ _ al;obtain⟨_,h,hset,rfl⟩:=bv;cases h;refine zV ?_;exact⟨_,rfl,.inr ⟨hset.congr fun t=>(Ix.a7O hk).symm,rfl⟩⟩
 have hk:q.k≠1:=oM;obtain⟨_,_,_,qa,qb,ah,co,bn⟩:=(Cq.WL a6).resolve_left hk;obtain⟨bl,off,cs',T,fr,pa,ca,pb,cb,rfl,A,cp,hcb,_,cq,a2⟩:=ce.a5W ah;have hsz2:=ah.size;have cx:=ah.wide;have cy:=ah.len;have Z:∀t,aJ L q t=Ix.comb q.k (aJ L qa t) (aJ L qb t):=fun t=>Ix.a9Z hk ah;refine zW off ?_;refine aT (CX CW AU (aF A) cp) ?_;refine zX (ih qa hsz2.1 pa ca _ cq hx hT oM co) ?_;intro _ _ _ a3 bw;have hx:=hx.mono a3;have hT:=hT.mono a3;have A:=a3 _ _ A;have a2:=a2.mono a3;obtain⟨_,h,G,rfl⟩:=bw;cases h;rcases id G with⟨rfl,cr⟩|⟨ab,am,ak,rfl,ct,cu⟩
 ·have hz:∀t,aJ L qa t=false:=cr;refine yU 3 ?_;refine Cj.join (ι:=Heap×Option Nat) (fun y=>MC y.1 (.map y.2) (aJ L qa)∧PS y.1 qb.ps pb∧OQ y.1 xv L∧NP y.1∧y.1 bl=some (.cells (dI cs') T fr)) (fun y=>[(0,xv),(3,ptr b1 0),(5,.map y.2)]) (fun y=>y.1) (fun y=>[(b1,yV 73 (BR q (some ⟨bl,off,none⟩) c))]) ?_ (fun a7=>?_)
  ·rintro⟨J6,oa⟩ ⟨G,a2,hx,hT,A⟩;dsimp only at G a2 hx hT A ⊢;refine zW (off+5) ?_;refine aT (CX CW AU (aF A) hcb) ?_;refine zX (ih qb hsz2.2 pb cb _ a2 hx hT oM bn) ?_;intro _ _ _ ax bx;have G:=G.mono ax;have A:=ax _ _ A;obtain⟨wb,h,M,rfl⟩:=bx;cases h;obtain⟨bo,rfl⟩:=M.shape;refine yU 1 ?_;intro ay an;refine yZ ?_ ?_<;>intro ao be
   ·have Q:q.k=2:=BP ao;refine yU 1 ?_;refine aO an (fun _ a8 N=>?_);have G:=G.mono a8;have A:=a8 _ _ A;have M:=M.mono a8;refine zX (ZG _ (aJ L qa) (aJ L qb) _ [ptr ay 0] _ G (fun t _=>b8c ay _ (aJ L qb) t _ N M)) ?_;intro _ _ _ az bz;have A:=az _ _ A;have N:=az _ _ N;obtain⟨wd,h,od,md,kd,rfl,a0,rfl⟩:=bz;cases h;refine yU 6 ?_;refine aG (aB (aC aH)) ?_;refine zM ?_;exact⟨_,rfl,.inl ⟨od,md,kd,rfl,a0.congr fun t=>by rw[Z t,Q];rfl,rfl⟩⟩
   have c3:q.k≠2:=CB ao;refine yZ ?_ ?_<;>intro ap bf
   ·have Q:q.k=4:=BP ap;refine yU 1 ?_;refine aO an (fun _ a9 N=>?_);have G:=G.mono a9;have A:=a9 _ _ A;have M:=M.mono a9;refine zX (ZG _ (aJ L qa) (fun t=> !aJ L qb t) _ [ptr ay 0] _ G (fun t _=>b7K ay _ (aJ L qb) t _ N M)) ?_;intro _ _ _ b0 c4;have A:=b0 _ _ A;have N:=b0 _ _ N;obtain⟨wd,h,od,md,kd,rfl,a0,rfl⟩:=c4;cases h;refine yU 6 ?_;refine aG (aB (aC aH)) ?_;refine zM ?_;exact⟨_,rfl,.inl ⟨od,md,kd,rfl,a0.congr fun t=>by rw[Z t,Q];rfl,rfl⟩⟩
   have c5:q.k≠4:=CB ap;refine yU 4 ?_;refine aO an (fun _ aa N=>?_);have G:=G.mono aa;have A:=aa _ _ A;have M:=M.mono aa;refine zX (ZG _ (aJ L qa) (fun _=>true) _ [] _ G (fun t _=>c1z t _)) ?_;intro _ _ _ hle47 c6;have A:=hle47 _ _ A;have M:=M.mono hle47;have N:=hle47 _ _ N;obtain⟨wd,h,od,md,kd,rfl,a0,rfl⟩:=c6;cases h;refine yU 7 ?_;rcases id M with⟨a4,b6⟩|⟨bb,bm,bk,a4,a1,a5⟩
   ·cases a4;refine aN rfl (OD rfl rfl rfl rfl LH ?_);intro _ _;refine yU 3 ?_;refine bV 1 ?_;refine dL ?_;refine yU 2 ?_;refine aN rfl (QM 0 rfl rfl rfl rfl rfl ?_);refine yU 17 ?_;refine aG (aC (aB (aC aH))) ?_;have Q:q.k=3:=oM;refine zM ?_;exact⟨_,rfl,.inl ⟨od,md,kd,rfl,a0.congr fun t=>by rw[Z t,Q,yO];show _=(_ || _);rw[b6 t,dZ],rfl⟩⟩
   cases a4;refine aN rfl (MJ (kv:=AB) (l:=bm) rfl rfl rfl rfl LH (aF a5) ?_);intro bp _;refine yU 3 ?_;refine dX (aB (aB (aC aH))) ?_;refine aZ (ι:=TC) (fun y=>(y.vis++y.rest).Perm bm∧IL y.l y.c (a0X y.vis (fun t=>aJ L qa t && true))) (fun y=>y.rest.length) (fun y=>[(7,.map (some od)),(54,ptr bp 0)]) (fun y=>_) (fun y=>[(bp,XZ bb bk y.vis bk),(od,zZ AB y.l y.c)]) ⟨[],bm,md,kd⟩ ⟨.refl _,a0.congr fun t=>by unfold a0X;simp⟩ rT rfl rfl ?_;rintro⟨vis,rest,l,cc⟩ ⟨hp,hM⟩;dsimp only at hp hM ⊢;refine yU 2 ?_;refine aN rfl (NW (kv:=AB) (l:=bm) 0 rfl rfl rfl rfl rfl (aF a5) a1.1.2.2 (tH _) a1.1.2.1 hp ?_ ?_)
   ·rintro x ac H9 b7 ai ⟨-,hset⟩;simp only[uM,uN]at hset;subst hset;have b8:x∈bm:=ai.mem_iff.1 (vZ _ (vY _ (.head _)));refine yU 10 ?_;refine aT (RQ (kv:=AB) (l:=bm) rfl rfl (yX.at 0 rfl) (aF a5) b8 a1.1.2.1) ?_;refine yU 2 ?_;intro _ _;refine yU 6 ?_;refine aN rfl (EY (kv:=AB) (a:=x.1) 2 (.inr rfl) rfl rfl rfl rfl rfl LH FQ rfl (cO (cO bG)) ?_);refine yU 2 ?_;refine aG (aC (aB (aB aH))) ?_;refine aS ⟨vis++[x],ac,_,_⟩ ⟨ai,hM.add x.1 a9j⟩ (by have h:=b7.length_eq;simp only[wU]at h;dsimp only;omega) rT rfl rfl
   intro aq;have b9:vis.Perm bm:=by rw[aq,yD]at hp;exact hp
   refine yU 17 ?_;refine aG (aC (aB aH)) ?_;have Q:q.k=3:=oM;refine zM ?_;exact⟨_,rfl,.inl ⟨od,l,cc,rfl,hM.congr fun t=>by rw[Z t,Q,b0W a1 b9,yO];rfl,rfl⟩⟩
  refine yU 3 ?_;refine aT (b4y rfl rfl LH) ?_;refine yZ ?_ ?_<;>intro ba bg
  ·refine yU 7 ?_;have hk3:q.k≠3:=bne_iff_ne.1 ba;refine zV ?_;exact⟨_,rfl,.inr ⟨.inl ⟨rfl,fun t=>by rw[Z t,hz t];unfold Ix.comb;rw[zD hk3];split<;>rfl⟩,rfl⟩⟩
  refine yU 1 ?_;exact a7 (_,none) _ _ _ ⟨G,a2,hx,hT,A⟩ rT rfl rfl

 refine yU 3 ?_;refine Cj.join (ι:=Heap×Option Nat) (fun y=>MC y.1 (.map y.2) (aJ L qa)∧PS y.1 qb.ps pb∧OQ y.1 xv L∧NP y.1∧y.1 bl=some (.cells (dI cs') T fr)) (fun y=>[(0,xv),(3,ptr b1 0),(5,.map y.2)]) (fun y=>y.1) (fun y=>[(b1,yV 73 (BR q (some ⟨bl,off,none⟩) c))]) ?_ (fun a7=>?_)
 ·rintro⟨J6,oa⟩ ⟨G,a2,hx,hT,A⟩;dsimp only at G a2 hx hT A ⊢;refine zW (off+5) ?_;refine aT (CX CW AU (aF A) hcb) ?_;refine zX (ih qb hsz2.2 pb cb _ a2 hx hT oM bn) ?_;intro _ _ _ hle59 c7;have G:=G.mono hle59;have A:=hle59 _ _ A;obtain⟨wb,h,M,rfl⟩:=c7;cases h;obtain⟨bo,rfl⟩:=M.shape;refine yU 1 ?_;intro b2 ar;refine yZ ?_ ?_<;>intro au bh
  ·have Q:q.k=2:=BP au;refine yU 1 ?_;refine aO ar (fun _ ad O=>?_);have G:=G.mono ad;have A:=ad _ _ A;have M:=M.mono ad;refine zX (ZG _ (aJ L qa) (aJ L qb) _ [ptr b2 0] _ G (fun t _=>b8c b2 _ (aJ L qb) t _ O M)) ?_;intro _ _ _ b3 c8;have A:=b3 _ _ A;have O:=b3 _ _ O;obtain⟨wd,h,od,md,kd,rfl,a0,rfl⟩:=c8;cases h;refine yU 6 ?_;refine aG (aB (aC aH)) ?_;refine zM ?_;exact⟨_,rfl,.inl ⟨od,md,kd,rfl,a0.congr fun t=>by rw[Z t,Q];rfl,rfl⟩⟩
  have c3:q.k≠2:=CB au;refine yZ ?_ ?_<;>intro av bi
  ·have Q:q.k=4:=BP av;refine yU 1 ?_;refine aO ar (fun _ ae O=>?_);have G:=G.mono ae;have A:=ae _ _ A;have M:=M.mono ae;refine zX (ZG _ (aJ L qa) (fun t=> !aJ L qb t) _ [ptr b2 0] _ G (fun t _=>b7K b2 _ (aJ L qb) t _ O M)) ?_;intro _ _ _ b4 c9;have A:=b4 _ _ A;have O:=b4 _ _ O;obtain⟨wd,h,od,md,kd,rfl,a0,rfl⟩:=c9;cases h;refine yU 6 ?_;refine aG (aB (aC aH)) ?_;refine zM ?_;exact⟨_,rfl,.inl ⟨od,md,kd,rfl,a0.congr fun t=>by rw[Z t,Q];rfl,rfl⟩⟩
  have c5:q.k≠4:=CB av;refine yU 4 ?_;refine aO ar (fun _ af O=>?_);have G:=G.mono af;have A:=af _ _ A;have M:=M.mono af;refine zX (ZG _ (aJ L qa) (fun _=>true) _ [] _ G (fun t _=>c1z t _)) ?_;intro _ _ _ ag hp84;have A:=ag _ _ A;have M:=M.mono ag;have O:=ag _ _ O;obtain⟨wd,h,od,md,kd,rfl,a0,rfl⟩:=hp84;cases h;refine yU 7 ?_;rcases id M with⟨a4,b6⟩|⟨bb,bm,bk,a4,a1,a5⟩
  ·cases a4;refine aN rfl (OD rfl rfl rfl rfl LH ?_);intro _ _;refine yU 3 ?_;refine bV 1 ?_;refine dL ?_;refine yU 2 ?_;refine aN rfl (QM 0 rfl rfl rfl rfl rfl ?_);refine yU 17 ?_;refine aG (aC (aB (aC aH))) ?_;have Q:q.k=3:=oM;refine zM ?_;exact⟨_,rfl,.inl ⟨od,md,kd,rfl,a0.congr fun t=>by rw[Z t,Q,yO];show _=(_ || _);rw[b6 t,dZ],rfl⟩⟩
  cases a4;refine aN rfl (MJ (kv:=AB) (l:=bm) rfl rfl rfl rfl LH (aF a5) ?_);intro bq _;refine yU 3 ?_;refine dX (aB (aB (aC aH))) ?_;refine aZ (ι:=TC) (fun y=>(y.vis++y.rest).Perm bm∧IL y.l y.c (a0X y.vis (fun t=>aJ L qa t && true))) (fun y=>y.rest.length) (fun y=>[(7,.map (some od)),(54,ptr bq 0)]) (fun y=>_) (fun y=>[(bq,XZ bb bk y.vis bk),(od,zZ AB y.l y.c)]) ⟨[],bm,md,kd⟩ ⟨.refl _,a0.congr fun t=>by unfold a0X;simp⟩ rT rfl rfl ?_;rintro⟨vis,rest,l,cc⟩ ⟨hp,hM⟩;dsimp only at hp hM ⊢;refine yU 2 ?_;refine aN rfl (NW (kv:=AB) (l:=bm) 0 rfl rfl rfl rfl rfl (aF a5) a1.1.2.2 (tH _) a1.1.2.1 hp ?_ ?_)
  ·rintro x ac H9 b7 ai ⟨-,hset⟩;simp only[uM,uN]at hset;subst hset;have b8:x∈bm:=ai.mem_iff.1 (vZ _ (vY _ (.head _)));refine yU 10 ?_;refine aT (RQ (kv:=AB) (l:=bm) rfl rfl (yX.at 0 rfl) (aF a5) b8 a1.1.2.1) ?_;refine yU 2 ?_;intro _ _;refine yU 6 ?_;refine aN rfl (EY (kv:=AB) (a:=x.1) 2 (.inr rfl) rfl rfl rfl rfl rfl LH FQ rfl (cO (cO bG)) ?_);refine yU 2 ?_;refine aG (aC (aB (aB aH))) ?_;refine aS ⟨vis++[x],ac,_,_⟩ ⟨ai,hM.add x.1 a9j⟩ (by have h:=b7.length_eq;simp only[wU]at h;dsimp only;omega) rT rfl rfl
  intro aq;have b9:vis.Perm bm:=by rw[aq,yD]at hp;exact hp
  refine yU 17 ?_;refine aG (aC (aB aH)) ?_;have Q:q.k=3:=oM;refine zM ?_;exact⟨_,rfl,.inl ⟨od,l,cc,rfl,hM.congr fun t=>by rw[Z t,Q,b0W a1 b9,yO];rfl,rfl⟩⟩
 refine yU 3 ?_;refine aT (WV (kv:=AB) (l:=am) rfl rfl LH (aF cu)) ?_;refine DZ ?_ ?_<;>intro bc bj
 ·refine yZ ?_ ?_<;>intro bd hc92p
  ·refine yU 7 ?_;have hz:∀t,aJ L qa t=false:=ct.empty (by have h:=BP bc;omega);have hk3:q.k≠3:=bne_iff_ne.1 bd;refine zV ?_;exact⟨_,rfl,.inr ⟨.inl ⟨rfl,fun t=>by rw[Z t,hz t];unfold Ix.comb;rw[zD hk3];split<;>rfl⟩,rfl⟩⟩
  refine yU 1 ?_;exact a7 (_,some ab) _ _ _ ⟨G,a2,hx,hT,A⟩ rT rfl rfl
 refine yU 8 ?_;exact a7 (_,some ab) _ _ _ ⟨G,a2,hx,hT,A⟩ rT rfl rfl
theorem b9E A L (G:bQ L) q:a6i A L q:=by
 suffices ∀n (q:dR),q.size<n→a6i A L q from this _ q (sZ _)
 intro n
 induction n with
 |zero=>intro q h;omega
 |succ n M=>intro q h;exact b4F A L G q fun N _=>M N oM
end Go.Proofs.YtalapkjmkjmpjaaGreatDoor
end
namespace Go.Proofs.YtalapkjmkjmpjaaGreatDoor
open Go Go.Shelf Go.RowKit Go.Lib Go.Sort
abbrev FW:=List UInt8×aW
abbrev QS (x:FW):List Value:=[Sx.str x.1,.int .i64 x.2.1,.int .i64 x.2.2]
theorem MB x:(QS x).length=3:=rfl
def b5o (x y:FW):Int:=LP (LY x.1 y.1) (a0g x.2 y.2)
def VH (x y:FW):Prop:=x.1<y.1∨(x.1=y.1∧Ix.FK x.2 y.2=true)
theorem c0Q x:¬VH x x:=by
 rintro(h|⟨_,h⟩)
 ·exact wH _ h
 rw[Ix.FU]at h;cases h
theorem a7d{x y z}(h1:VH x y)(h2:VH y z):VH x z:=by
 rcases h1 with h1|⟨h1,A⟩<;>rcases h2 with h2|⟨h2,G⟩
 ·exact .inl (List.lt_trans h1 h2)
 ·exact .inl (h2▸h1)
 ·exact .inl (h1▸h2)
 exact .inr ⟨h1.trans h2,Ix.MK A G⟩
theorem b2q x y:VH x y∨x=y∨VH y x:=by
 by_cases h:x.1<y.1
 ·exact .inl (.inl h)
 by_cases h2:y.1<x.1
 ·exact .inr (.inr (.inl h2))
 have A:x.1=y.1:=dN (vH.1 h2) (vH.1 h);rcases Ix.SB x.2 y.2 with g|g|g
 ·exact .inl (.inr ⟨A,g⟩)
 ·exact .inr (.inl (Prod.ext A g))
 exact .inr (.inr (.inr ⟨A.symm,g⟩))
theorem a1d x y:ltOf b5o x y=true↔VH x y:=by
 have A:=SQ x.2 y.2;unfold ltOf at A ⊢;unfold b5o VH LP LY;rw[zG]
 by_cases h:x.1<y.1
 ·rw[zF h];simp[h]
 rw[zD h]
 by_cases h2:y.1<x.1
 ·have G:x.1≠y.1:=fun e=>h (e▸h2);rw[zF h2];simp[h,G]
 have M:x.1=y.1:=dN (vH.1 h2) (vH.1 h);rw[zD h2,zD sI,←A,zG];exact⟨fun g=> .inr ⟨M,g⟩,fun g=>g.elim (fun g=>absurd g h) fun g=>g.2⟩
theorem c4H:SWO (ltOf b5o) where
 irrefl x:=yN.2 fun h=>c0Q x ((a1d x x).1 h)
 trans x y z h1 h2:=(a1d x z).2 (a7d ((a1d x y).1 h1) ((a1d y z).1 h2))
 ntrans x y z h1 h2:=by
  rw[yN,Ne,a1d]at *;intro h;rcases b2q x y with g|g|g
  ·exact h1 g
  ·subst g;exact h2 h
  exact h2 (a7d g h)
theorem a4I{base} l g (hg:Sx.AL base 3 l.length (l.flatMap QS) g)(hl:l.length≤100000000000000) I:Sx.yY aA 120 [Sx.gV l.length g,.func (.func 121) #[] #[]] I (Sx.gH 221 (l.flatMap QS) g)
 (fun e a1 H'=>∃l':List FW,l'.Perm l∧l'.Pairwise (fun p q=>¬VH q p)∧e= .returned (.tuple #[])∧H'=Sx.gH 221 (l'.flatMap QS) g):=by
 cases g with
 |none=>
  obtain⟨h1,h2⟩:=hg;have h0:l=[]:=wR.1 h1;subst h0;exact(dS (dJ fA dE rfl) (fun w _=>AnyF.slices_SortFunc_none Tryz.c7v none 0 (.func (.func 121) #[] #[]) w)).mono fun e _ H' _ ⟨h1,_,h3⟩=>⟨[],List.Perm.refl _,dM,h1,h3⟩
 |some q=>
  obtain⟨b,c,sp⟩:=q;refine⟨dJ fA dE rfl,fun w Q=>?_⟩;have G:=Q.2.1 _ (.head _);have Z:b<w.heap.size:=by
   rcases tC b w.heap.size with h|h
   ·exact h
   rw[yR h]at G;cases G
  have eg:∀args w,(callFunc 121 args).run aA w= .ok (.enter 121 args) w:=enters_of Tryz.func121 kR rfl;have hH:HoldsK QS 3 w b 0 l.toArray:=by
   unfold HoldsK;rw[Sx.KN MB];exact Sx.XM G
  have M:CmpLays aA 121 #[] QS 3 b5o b 0 l.toArray.size w:=fun m os _ _ x y=>c7S x.1 y.1 x.2.1 x.2.2 y.2.1 y.2.2 _;have N:=AnyQ.slices_SortFunc Tryz.c7v 3 Tryz.isAgg221 Tryz.sizeOf221 QS MB (fun x v hv=>by
   simp only[vX,vG,or_false]at hv;rcases hv with rfl|rfl|rfl<;>rfl) b5o c4H 121 #[] b 0 c l.toArray w eg M hH Z (by simp;omega)
  refine N.mono fun e w' ⟨h1,A,n,os,h2,h3,h4⟩=>?_;rw[List.size_toArray]at h2 h3;have O:=Sx.UJ h2;have a0:A.size=l.length:=by have:=O.length_eq;simpa using this
  rw[←a0]at h3;refine⟨I,_,?_,A.toList,O,(Sx.sorted_in h3).imp fun h=>?_,h1,rfl⟩
  ·rw[h4];unfold sortWorldK putRowK;rw[show A=A.toList.toArray from(Array.toArray_toList (xs:=A)).symm,Sx.KN MB];exact Sx.St.b3V n os Q (by rw[Sx.BZ MB,Sx.BZ MB,O.length_eq])
  exact fun g=>yN.1 h ((a1d _ _).2 g)
theorem c2V{L}{ts:List aW}(Z:ts.Nodup){l:List FW}(N:l.Perm (ts.map fun t=>(bU L t,t)))(ho:l.Pairwise fun p q=>¬VH q p):(l.map (·.2)).Pairwise (Ix.JK L)∧∀t,t∈l.map (·.2)↔t∈ts:=by
 have O:∀x∈l,x.1=bU L x.2:=fun x M=>by
  obtain⟨t,_,rfl⟩:=vU.1 (N.mem_iff.1 M);rfl
 have Q:(l.map (·.2)).Perm ts:=by
  have:=N.map (·.2);rw[wE]at this;exact this.trans (.of_eq (List.map_id _))
 refine⟨?_,fun t=>Q.mem_iff⟩;have G:=vI.1 (Q.nodup_iff.2 Z);rw[uV]at G ⊢;refine(uX.2 fun {x y} A=>?_);have h1:=uX.1 ho A;have h2:=uX.1 G A;have M:=O x (A.subset (.head _));have hy:=O y (A.subset (.tail _ (.head _)));rcases b2q x y with g|g|g
 ·unfold VH at g;unfold Ix.JK;rwa [M,hy]at g
 ·subst g;exact absurd rfl h2
 exact absurd g h1
end Go.Proofs.YtalapkjmkjmpjaaGreatDoor
section
namespace Go.Proofs.YtalapkjmkjmpjaaGreatDoor
open _root_.Go.Proofs.Tryz
open Go Go.Sx
theorem a6I l x v (Z:l.length≤1000000) I (G:IK 9 I l v):Pure aA 199 [v,str x] I (.bool (l.contains x)):=by
 obtain⟨b,c,sp,rfl,M⟩:=G;refine dS (dJ func199 dE rfl) fun w N=>?_;have h:=Tryz.slices_Contains_string b 0 l.length c (l.map fun y=>⟨y.toArray⟩) ⟨x.toArray⟩ w sI oM (fun j A=>by
  rw[sS];simp at A;refine cell_of_heap (N.1 _ _ M) ?_;rw[EL (x:=l[j]) (AA A)];simp[str,AA A])
 rw[tX sI]at h;have e:Lib.containsS (l.map fun y=>(⟨y.toArray⟩:ByteArray)) ⟨x.toArray⟩=l.contains x:=by
  rw[yM,Lib.containsS_iff,yB,vU];constructor
  ·rintro⟨y,O,Q⟩;have e:y=x:=by simpa using zC ByteArray.data Q
   exact e▸O
  exact fun h=>⟨x,h,rfl⟩
 rw[e]at h;exact h
def a3Y (q:dR):Prop:=∀(p:Option Addr) (c:Nat) (I:Heap),PS I q.ps p→q.size≤1000000000→q.wide≤1000000000→Pure aA 203 [.agg (BR q p c).toArray] I (i64 (bK q))
theorem b6G I:yY aA 200 [] I [] (fun e M H'=>(∃v,e= .returned v∧IK 9 M Cq.indexes v)∧H'=[]):=by
 refine zN func200 fun w0 _=>?_;refine yU 8 ?_;intro N G;refine yU 4 ?_;refine dB G (fun _ _ A=>?_);refine zM ?_;exact⟨⟨_,rfl,N,6,[],rfl,A⟩,rfl⟩
theorem b3h I:yY aA 268 [] I [] (fun e M H'=>(∃v,e= .returned v∧IK 9 M aY v)∧H'=[]):=by
 refine zN func268 fun w0 _=>?_;refine yU 8 ?_;intro N G;refine yU 4 ?_;refine dB G (fun _ _ A=>?_);refine zM ?_;exact⟨⟨_,rfl,N,6,[],rfl,A⟩,rfl⟩
theorem c3q q (ih:∀q',aP q'<q.size→a3Y q'):a3Y q:=by
 intro p c I ar _ au;have b4:q.i.length+q.r.length+q.t.length≤1000000000:=by unfold Cq.Qn.wide at au;omega
 refine aQ ?_;refine zN func203 fun w0 _=>?_;refine yU 3 ?_;intro _ _;refine yZ ?_ ?_<;>intro av af
 ·have G:q.k=1:=oM;refine yU 2 ?_;refine bC [0] [] 18 kR ?_;refine zX (b6G _) ?_;intro _ _ _ _ aw;obtain⟨⟨_,ax,ag⟩,rfl⟩:=aw;cases ax;refine zO (a6I Cq.indexes _ _ dE _ ag) ?_;refine yU 3 ?_;refine JA.split 13 rfl (fun ah=>?_) (fun ah=>?_)
  ·refine zV ?_;refine⟨?_,rfl⟩;rw[bT G]
   simp_all<;>omega
  refine zX (b3h _) ?_;intro _ _ _ _ ai;obtain⟨⟨_,aj,a8⟩,rfl⟩:=ai;cases aj;refine zO (a6I aY _ _ dE _ a8) ?_;refine yU 4 ?_;refine JA.split 20 rfl (fun al=>?_) (fun al=>?_)
  ·refine zV ?_;refine⟨?_,rfl⟩;rw[bT G]
   simp_all<;>omega
  refine yZ ?_ ?_<;>intro am a9
  ·refine zV ?_;refine⟨?_,rfl⟩;rw[bT G]
   simp_all<;>omega
  refine zV ?_;refine⟨?_,rfl⟩;rw[bT G]
  simp_all<;>omega
 have G:q.k≠1:=oM;refine EH ?_ ?_<;>intro O
 ·refine zV ?_;rw[bZ G (.inl (by have h:=O;simp at h;omega))];exact rT
 refine EH ?_ ?_<;>intro Q
 ·refine zV ?_;rw[bZ G (.inr (.inl (by have h:=Q;simp at h;omega)))];exact rT
 refine yU 4 ?_;refine J.zg (BQ rfl rfl rfl (by first|omega|(simp only[wV];omega)|(simp;omega))) ?_;refine yU 2 ?_;refine J.zg (BQ rfl rfl rfl (by first|omega|(simp only[wV];omega)|(simp;omega))) ?_;refine EH ?_ ?_<;>intro Z
 ·refine zV ?_;rw[bZ G (.inr (.inr (.inl (bne_iff_ne.1 Z))))];exact rT
 refine yZ ?_ ?_<;>intro a0 aa
 ·refine zV ?_;rw[bZ G (.inr (.inr (.inr (by have h:=a0;simp at h;omega))))];exact rT
 have an:=O;have ao:=Q;have a3:=Z;have ap:=a0;have ab:¬(q.k<2∨q.k>4∨q.i≠[]∨q.r≠[]∨q.t≠[]∨q.ps.len≠2):=by
  simp at an ao a3 ap;simp[a3];omega
 obtain⟨qa,N,M⟩:=Cq.Qs.a9s (ps:=q.ps) oM
 change q.Two qa N at M
 have a4:=Cq.c5Q G ab M;have a5:=M.size;have b3:=M.wide;have b5:=Cq.b7u N;have b6:=Cq.b7u qa;have b7:=Cq.b8d qa;have b8:=Cq.b8d N;have b9:=M.len;obtain⟨_,off,cs',T,fr,pa,ca,pb,cb,rfl,ae,ay,az,b0,b1,b2⟩:=ar.a5W M;refine yU 3 ?_;refine bC [0] [] 12 kR ?_;have a2:=ae;refine yU 2 ?_;refine JA.fix CP (fun A=>?_);refine bW 2 rfl A (FZ (off':=off) b0D AU) ?_;refine bW 3 rfl A (CX CW AU (yX.RU a2) ay) ?_;refine bW 5 rfl A (zY (off':=4) OH VU) ?_;refine bW 6 rfl A (BX isAgg71 (yX.NI 0 rfl)) ?_;refine bW 7 rfl A (FZ (off':=off+5) b0D AU) ?_;refine bW 8 rfl A (CX CW AU (yX.RU a2) az) ?_;refine qq2 4 rfl (EK rfl rfl rfl rfl rfl (ih qa a5.1 pa ca _ b1 oM oM) ?_);refine⟨⟨(bJ _),(dK 0 rfl fB),fC⟩,?_⟩;refine qq2 9 rfl (EK rfl rfl rfl rfl rfl (ih N a5.2 pb cb _ b2 oM oM) ?_);refine⟨⟨(bJ _),(dK 0 rfl fB),fC⟩,?_⟩;refine JA.fix CP (fun a6=>?_);refine bW 10 rfl a6 BI ?_;refine bW 11 rfl a6 BI ?_;refine JA.done kR ?_;refine Ej.seq (Cj.seq (Cj.sr (aT zS ?_)));refine aT zS ?_;refine aT (LJ rfl rfl rfl) ?_;refine bY 63 (i64 (min (bK qa) (bK N))) rfl (by congr 1;omega) ?_;refine yZ ?_ ?_<;>intro aq ac
 ·refine zV ?_;rw[a4,zF oM];exact rT
 refine zW (off+5) ?_;refine yU 1 ?_;refine aT (DI GZ (aF ae) b0) ?_;refine yZ ?_ ?_<;>intro a1 ad
 ·have a7:Cq.up N.k=1:=by have h:=a1;simp at h;simp[Cq.up,h]
  refine yU 10 ?_;refine aT (IE rfl rfl rfl) ?_;refine bY 75 (i64 (max (bK qa) (bK N+1))) rfl (by congr 1;omega) ?_;refine zV ?_;refine⟨?_,rfl⟩;rw[a4,zD oM,a7];simp
 have a7:Cq.up N.k=0:=by have h:=a1;simp at h;simp[Cq.up,h]
 refine yU 6 ?_;refine aT (IE rfl rfl rfl) ?_;refine bY 75 (i64 (max (bK qa) (bK N))) rfl (by congr 1;omega) ?_;refine zV ?_;refine⟨?_,rfl⟩;rw[a4,zD oM,a7];simp
theorem c9K q:a3Y q:=by
 suffices ∀n (q:dR),q.size<n→a3Y q from this _ q (sZ _)
 intro n
 induction n with
 |zero=>intro q h;omega
 |succ n A=>intro q h;exact c3q q fun G _=>A G oM
theorem c3x q p c (A:q.size≤1000000000)(G:q.wide≤1000000000) I (M:PS I q.ps p):Pure aA 117 [.agg (BR q p c).toArray] I (.bool (dP q)):=by
 refine aQ ?_;refine zN func117 fun w0 _=>?_;refine yU 3 ?_;intro _ _;refine zO (c9K q p c _ M A G) ?_;refine EH ?_ ?_<;>intro N
 ·refine zV ?_;refine⟨?_,rfl⟩;rw[←Cq.a9q]
  simp_all<;>omega
 refine zV ?_;refine⟨?_,rfl⟩;rw[←Cq.a9q]
 simp_all<;>omega
end Go.Proofs.YtalapkjmkjmpjaaGreatDoor
end
section
namespace Go.Proofs.YtalapkjmkjmpjaaGreatDoor
open _root_.Go.Proofs.Tryz
open Go Go.Sx
structure TF where
  vis:ML Ix.Rec
  rest:ML Ix.Rec
  g:Gs
def fnd (L:eF) (vis:ML aW):List FW:=(vis.map (·.1)).map fun t=>(bU L t,t)
theorem a7A L vis x:fnd L (vis++[x])=fnd L vis++[(bU L x.1,x.1)]:=by
 unfold fnd;rw[wG,wG];rfl
theorem c8A L vis:(fnd L vis).length=vis.length:=by unfold fnd;rw[wO,wO]
theorem b9F{L q}(A:cZ q=true)(h:∀t,aJ L q t=false):dD L q []:=
 Ix.b5z A dM fun t=>by rw[h t];simp
theorem c0d{L q}(N:cZ q=true){m k}(A:IL m k (aJ L q)){vis}(G:vis.Perm m){ls:List FW}(M:ls.Perm (fnd L vis))(O:ls.Pairwise fun p q=>¬VH q p):dD L q (ls.map (·.2)):=by
 have Q:(vis.map (·.1)).Nodup:=((G.map _).nodup_iff.2 A.1.1);obtain⟨h1,h2⟩:=c2V Q M O;exact Ix.b5z N h1 fun t=>by rw[h2,(G.map _).mem_iff,A.mem]
theorem a7V{ls:List FW}{k x}(h:ls[k]?=some x):(ls.take (k+1)).map (·.2)=(ls.take k).map (·.2)++[x.2]:=a0H _ h
theorem c3Q{ls:List FW}(h:ls.Perm []):ls=[]:=h.eq_nil
theorem c7F xv L q p c (aj:q.size≤1000000000)(al:q.wide≤10000000)(hR:dP q=true)(am:bQ L) I (a5:PS I q.ps p)(hx:OQ I xv L)(hT:NP I):yY aA 72 [xv,.agg (BR q p c).toArray] I []
 (fun e _ H'=>∃(r:List aW) (g:Gs),dD L q r∧AL 0 2 r.length (r.flatMap recC) g∧e= .returned (.tuple #[gV r.length g,i64 0])∧H'=gH 42 (r.flatMap recC) g):=by
 have G:cZ q=true:=by unfold dP at hR;rw[yP]at hR;exact hR.1
 have b2:=hx.big;refine zN func72 fun w0 _=>?_;refine yU 3 ?_;intro _ _;refine zO (c3x q p c aj oM _ a5) ?_;refine bY 12 (.bool true) rfl (zC dA hR) ?_;refine zX (b9E xv L am q p c _ a5 hx hT al G) ?_;intro _ _ _ ab an;have hx:=hx.mono ab;obtain⟨ws,h,hset,rfl⟩:=an;cases h;rcases id hset with⟨rfl,hS⟩|⟨sb,O,sk,rfl,hm,A⟩
 ·

  refine aN rfl (OD rfl rfl rfl rfl LH ?_);intro _ _;refine yU 3 ?_;refine bV 1 ?_;refine dL ?_;refine yU 2 ?_;refine aN rfl (QM 0 rfl rfl rfl rfl rfl ?_);refine RS [_,_] (a4I (base:=0) [] none rT dE _) ?_;rintro v9 I9 H9 a0 ⟨ls,Z,a6,h,rfl⟩;cases h;have ao:=c3Q Z;subst ao;have Q:dD L q (([]:List FW).map (·.2)):=b9F G hS;refine yU 16 ?_;refine bV 1 ?_;refine dL ?_;refine yU 6 ?_;refine Cj.cond rfl (fun a1=>Bool.noConfusion (Eq.trans (Eq.symm (by first|rfl|decide)) a1)) (fun a1=>?_);refine zV ?_;exact⟨_,none,Q,⟨rfl,rfl⟩,rfl,rfl⟩
 have b3:O.length≤100000:=by
  have h9:=hm.len (l:=L.map (·.1)) fun t ht=>Ix.a2Y L _ q (sZ _) G ht;rw[wO]at h9;omega
 refine aN rfl (MJ (kv:=AB) (l:=O) rfl rfl rfl rfl LH (aF A) ?_);intro a7 _;refine yU 3 ?_;refine dX (aB (aC aH)) ?_;refine aZ (ι:=TF) (fun y=>(y.vis++y.rest).Perm O∧AL w0.heap.size 3 (fnd L y.vis).length ((fnd L y.vis).flatMap QS) y.g) (fun y=>y.rest.length) (fun y=>[(0,xv),(6,gV (fnd L y.vis).length y.g),(17,ptr a7 0)]) (fun y=>_) (fun y=>(a7,XZ sb sk y.vis sk)::gH 221 ((fnd L y.vis).flatMap QS) y.g) ⟨[],O,none⟩ ⟨.refl _,rfl,rfl⟩ rT rfl rfl ?_;rintro⟨vis,rest,g⟩ ⟨hp,M⟩;dsimp only at hp M ⊢;have ac:=hp.length_eq;rw[wV]at ac;have b4:=c8A L vis;refine yU 2 ?_;refine aN rfl (NW (kv:=AB) (l:=O) 0 rfl rfl rfl rfl rfl (aF A) hm.1.2.2 (tH _) hm.1.2.1 hp ?_ ?_)
 ·rintro x a3 H9 ap a8 ⟨-,hset⟩;simp only[uM,uN]at hset;subst hset;have aq:x∈O:=a8.mem_iff.1 (vZ _ (vY _ (.head _)));refine yU 10 ?_;refine aT (RQ (kv:=AB) (l:=O) rfl rfl (yX.at 0 rfl) (aF A) aq hm.1.2.1) ?_;refine yU 2 ?_;intro _ _;refine yU 3 ?_;refine bC [0,1] [] 9 kR ?_;have b1:=A;refine zO (c5c xv L x.1 _ hx) ?_;refine⟨⟨(bJ _),(dK 0 rfl (dK 1 rfl fB)),fC⟩,?_⟩;refine JA.fix CP (fun ad=>?_);refine bW 5 rfl ad (zL (pl:= #[(0,1),(1,2)]) rfl rfl zeroValue221 rfl d1s (fun w=>by simp[BM,BD]) (GU.part rfl rfl rfl (AX.c AX.z) (GU.part rfl rfl rfl (AX.s (AX.c (AX.c AX.z))) GU.none))) ?_;refine qq2 6 rfl (CY b9w sizeOf221 zeroValue221 (DC.agg rfl DC.none) ?_);intro _ _;refine⟨⟨(bJ _),(dK 1 rfl (dK 2 rfl fB)),fC⟩,?_⟩;refine qq2 7 rfl (zT (by':=31) [_,_,_] rfl rfl rfl rfl rfl b9w (.inr ⟨_,b9w⟩) kR sizeOf221 zeroValue221 rfl M rfl (Src.slice (yX.at 0 rfl) rfl rfl rfl) oM ?_);intro ar ae;refine yU 4 ?_;refine aG (aC (aC (aB dV))) ?_;refine aS ⟨vis++[x],a3,ar⟩ ⟨a8,by dsimp only;rw[a7A,wV,xP];exact ae⟩ (by have h:=ap.length_eq;simp only[wU]at h;dsimp only;omega) ⟨rfl,by dsimp only;rw[a7A,wV];rfl,rfl,trivial⟩ rfl (by dsimp only;rw[a7A,xP];rfl)
 intro af;have au:vis.Perm O:=by rw[af,yD]at hp;exact hp
 refine RS [_] (a4I (fnd L vis) g M oM _) ?_;rintro v9 I9 H9 a0 ⟨ls,Z,a6,h,rfl⟩;cases h;have a2:(fnd L vis).length=ls.length:=Z.length_eq.symm;have av:AL w0.heap.size 3 ls.length (ls.flatMap QS) g:=by rw[←a2];exact PN M (by rw[BZ MB,BZ MB,a2])
 have Q:=c0d G hm au Z a6;have A:=a0 _ _ A;refine yU 3 ?_;refine Cj.perm (H':=gH 221 (ls.flatMap QS) g++[_]) uQ ?_;refine eH (f:=QS) MB dE av rfl (fun _ ag hv=>?_);have A:=ag _ _ A;obtain⟨pv,cv,a9⟩:=EF hv;refine Cj.ez 6 (.slice pv ls.length cv) rfl (by rw[a2];exact a9) ?_;rw[a9]at hv;refine yU 13 ?_;refine dX (aC aH) ?_;refine aZ (ι:=Nat×Gs) (fun y=>y.1≤ls.length∧AL w0.heap.size 2 ((ls.take y.1).map (·.2)).length (((ls.take y.1).map (·.2)).flatMap recC) y.2) (fun y=>ls.length-y.1) (fun y=>[(8,gV ((ls.take y.1).map (·.2)).length y.2),(32,.slice pv ls.length cv),(33,i64 (ls.length:Int)),(34,i64 (y.1:Int))]) (fun y=>_) (fun y=>gH 42 (((ls.take y.1).map (·.2)).flatMap recC) y.2) (0,none) ⟨sQ _,rfl,rfl⟩ rT rfl rfl ?_;clear M;rintro⟨j,g⟩ ⟨hj,M⟩;dsimp only at hj M ⊢;have b5:((ls.take j).map (·.2)).length=j:=by rw[wO,wI];omega
 refine yZ ?_ ?_<;>intro ah a4
 ·have aa:j<ls.length:=oM;obtain⟨x,N⟩:∃x,ls[j]?=some x:=⟨_,AA aa⟩;obtain⟨p1,c1,aw,_,ax⟩:=id hv;cases aw;obtain⟨_,fo,_,_,_,_,rfl,ay,az⟩:=ax (zK aa);refine zW (fo+j*3) ?_;refine aT (CX isAgg221 sizeOf221 (aF ay) (AY MB az N)) ?_;refine yU 1 ?_;intro _ _;refine yU 8 ?_;intro _ _;refine KT 15 [_,_] M ?_;intro b0 ai;refine yU 8 ?_;refine aG (aC (aC dV)) ?_;refine aS (j+1,b0) ⟨dO,by dsimp only;rw[a7V N,wV,xP];exact ai⟩ dO ⟨by dsimp only;rw[a7V N,wV];rfl,rfl,rfl,rfl,trivial⟩ rfl (by dsimp only;rw[a7V N,xP];rfl)
 refine yU 13 ?_;rw[tX (oM:ls.length≤j)]at M ⊢;refine zM ?_;exact⟨_,g,Q,a3N M,rfl,rfl⟩
theorem d0W A L q p c (G:q.size≤1000000000)(M:q.wide≤10000000)(Q:dP q=true)(N:bQ L) I (O:PS I q.ps p)(Z:OQ I A L)(hT:NP I):yY aA 72 [A,.agg (BR q p c).toArray] I []
 (fun e _ H'=>∃(w:Value) (r:List aW),e= .returned (.tuple #[w,i64 0])∧dD L q r∧a2F r w H'):=
 (c7F A L q p c G M Q N I O Z hT).mono fun _ _ _ _ ⟨r,g,h1,h2,h3,h4⟩=>⟨_,r,h3,h1,by rw[h4];exact a9d rfl h2⟩
end Go.Proofs.YtalapkjmkjmpjaaGreatDoor
end
namespace Bk
open Ix
def a5j:List UInt8:=[116,105,116,108,101,32]
def keyOf (fs:List Ke.FN):List UInt8:=match (Ke.all fs).getLast? with
 |some k=>if a5j.isPrefixOf k=true then k else[]
 |none=>[]
theorem a3r{fs k}(h:(Ke.all fs).getLast?=some k):keyOf fs=if a5j.isPrefixOf k=true then k else[]:=by unfold keyOf;rw[h]
theorem a9E{fs}(h:Ke.all fs=[]):keyOf fs=[]:=by unfold keyOf;rw[h];rfl
def a4y (es:List (Rec×List Ke.FN)) (t:Rec):Option (List UInt8):=es.foldl (fun o e=>if e.1=t then some (keyOf e.2)else o) none
theorem b1r es e t:a4y (es++[e]) t=if e.1=t then some (keyOf e.2)else a4y es t:=by
 unfold a4y;rw[xM];rfl
structure Lb where
  L:Ix
  key:Rec→List UInt8
def YF (es:List (Rec×List Ke.FN)):Lb:=⟨a0e (es.map fun e=>(e.1,vals e.2)) [],fun t=>(a4y es t).getD []⟩
def found (b:Lb) (r:List Rec) (k:Nat):List Fd:=r.map fun t=>⟨t,b.key t,[(k:Int)]⟩
def ans (p:dR×Nat×Nat) (o:Option Lb) (k:Nat) (fs:List Fd) (e:Int):Prop:=
 if p.2.2≠0 then fs=[]∧e=(p.2.2:Int)else match o with
  |none=>fs=[]∧e=32
  |some b=>e=0∧∃r,NK b.L p.1 r∧fs=found b r k
theorem d0m{p o k fs gs e d}(h:ans p o k fs e)(g:ans p o k gs d):fs=gs∧e=d:=by
 unfold ans at h g
 split at h
 ·rename_i A
  rw[zF A]at g;exact⟨h.1.trans g.1.symm,h.2.trans g.2.symm⟩
 rename_i A
 rw[zD A]at g;cases o with
 |none=>exact⟨h.1.trans g.1.symm,h.2.trans g.2.symm⟩
 |some b=>
  obtain⟨h1,r,h2,h3⟩:=h;obtain⟨M,s,N,O⟩:=g;have G:r=s:=h2.eq N;exact⟨by rw[h3,O,G],h1.trans M.symm⟩
theorem b3M t v:∀(L:Ix) (x:Rec×List V),x∈OM t v L→x=(t,v)∨x∈L
 |[],x,h=> .inl (by simpa[OM]using h)
 |(u,w)::r,x,h=>by
  unfold OM at h
  split at h
  ·rcases vX.1 h with g|g
   ·exact .inr (by rw[g];exact .head _)
   exact(b3M t v r x g).imp id (.tail _)
  split at h
  ·rcases vX.1 h with g|g
   ·exact .inl g
   exact .inr (.tail _ g)
  rcases vX.1 h with g|g
  ·exact .inl g
  exact .inr g
theorem a5o:∀(es L:Ix) (x:Rec×List V),x∈a0e es L→x∈es∨x∈L
 |[],_,_,h=> .inr h
 |e::es,L,x,h=>by
  have A:x∈a0e es (OM e.1 e.2 L):=h;rcases a5o es _ x A with g|g
  ·exact .inl (.tail _ g)
  rcases b3M _ _ _ _ g with g|g
  ·exact .inl (by rw[g];exact .head _)
  exact .inr g
theorem a8p b r k:OI (found b r k)=r.length:=by
 unfold OI found;rw[wE]
 induction r with
 |nil=>rfl
 |cons t r A=>rw[wF,uI,A,wU];show 1+_=_;omega
theorem c8O{p o k fs e}(h:ans p o k fs e)(A:∀b,o=some b→b.L.length≤100000):fs.length≤100000∧OI fs≤100000:=by
 unfold ans at h
 split at h
 ·obtain⟨rfl,-⟩:=h;exact⟨sQ _,sQ _⟩
 cases o with
 |none=>
  obtain⟨rfl,-⟩:=h;exact⟨sQ _,sQ _⟩
 |some b=>
  obtain⟨-,r,h2,rfl⟩:=h;have h3:=A b rfl;have G:r.length≤b.L.length:=h2.len;rw[a8p];exact⟨by unfold found;rw[wO];omega,oM⟩
end Bk
section

end
namespace Cq
def Fits (ts:List Tok):Res→Prop
 | .ok q ts2=>q.size+2+2*ts2.length≤2*ts.length
 | .err _ _=>True
theorem c7b k a b:(two k a b).size=a.size+b.size+2:=by
 simp only[two,aP,Qn.push,bH];omega
theorem fits:∀f,(∀deep ts,Fits ts (clause f deep ts))∧(∀deep ts,Fits ts (query f deep ts))∧∀deep q ts M A,more f deep q ts= .ok M A→M.size+2*A.length≤q.size+2*ts.length
 |0=>⟨fun _ _=>by simp[clause,Fits],fun _ _=>by simp[query,Fits],fun _ _ _ _ _ h=>by simp[more]at h⟩
 |f+1=>by
  obtain⟨N,hq,O⟩:=fits f;refine⟨fun deep ts=>?_,fun deep ts=>?_,fun deep q ts M A h=>?_⟩
  ·cases ts with
   |nil=>simp[clause,Fits]
   |cons t r=>
    unfold clause
    by_cases h1:lp t=true
    ·rw[zF h1]
     split
     ·trivial
     have:=hq (deep+1) r;cases hx:query f (deep+1) r with
     |err p e=>trivial
     |ok q A=>
      rw[hx]at this;cases A with
      |nil=>trivial
      |cons t2 Q=>
       simp only[]
       split
       ·simp only[Fits,wU]at this ⊢;omega
       trivial
    rw[zD h1]
    split
    ·trivial
    cases r with
    |nil=>cases t.kind == 3<;>simp[Fits,aP,bH]
    |cons t2 Q=>
     cases t.kind == 3 with
     |false=>simp[Fits,aP,bH];omega
     |true=>
      simp only[]
      split
      ·split
       ·trivial
       cases Q with
       |nil=>trivial
       |cons t3 r3=>
        simp only[]
        split
        ·simp[Fits,aP,bH];omega
        trivial
      simp[Fits,aP,bH];omega
  ·unfold query;have:=N deep ts;cases hx:clause f deep ts with
   |err p e=>trivial
   |ok q A=>
    rw[hx]at this;simp only[];cases hy:more f deep q A with
    |err p e=>trivial
    |ok Z G=>
     have h2:=O deep q A Z G hy;simp only[Fits]at this ⊢;omega
  cases ts with
  |nil=>simp[more]at h
  |cons t r=>
   unfold more at h
   by_cases h1:operator t=0
   ·rw[zF h1]at h;cases h;exact tH _
   rw[zD h1]at h;have:=N deep r;cases hx:clause f deep r with
   |err p e=>rw[hx]at h;cases h
   |ok Z G=>
    rw[hx]at h this;have h2:=O deep _ G M A h;rw[c7b]at h2;simp only[Fits,wU]at this ⊢;omega
theorem b9Y s:(parse s).1.size≤2*s.length:=by
 have h0:=(SH s (s.length+1) 0 oM oM).2.1;have h:=(fits (4*s.length+9)).2.1 0 (tokens s);unfold parse;cases hq:query (4*s.length+9) 0 (tokens s)with
 |err p e=>simp[zero,aP,bH]
 |ok q ts=>
  rw[hq]at h
  change q.size+2+2*ts.length≤2*(toks s (s.length+1) 0).length at h
  cases ts with
  |nil=>simp[zero,aP,bH]
  |cons t r=>
   simp only[]
   split
   ·simp only[wU]at h;show q.size≤_;omega
   simp[zero,aP,bH]
end Cq
namespace Cq
