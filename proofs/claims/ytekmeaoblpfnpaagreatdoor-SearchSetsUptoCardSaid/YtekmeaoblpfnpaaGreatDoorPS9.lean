/-
  Own texts on the laws of the seat, joined: the logic, and contracts of functions. Conditions: none.
-/
import Derived.Test.YtekmeaoblpfnpaaGreatDoorNmS
import Derived.Test.YtekmeaoblpfnpaaGreatDoorPS8
set_option linter.all false
set_option maxRecDepth 100000
set_option maxHeartbeats 40000000
open List renaming length_take -> aA,length_append -> aC,take_of_length_le -> aG,length_map -> aH,length_cons -> aI,append_nil -> aN,getElem?_eq_some_iff -> aO,mem_map -> aP,length_drop -> aQ,mem_of_mem_drop -> aV,take_succ_eq_append_getElem -> aX,mem_of_mem_take -> bD,mem_map_of_mem -> bH,flatMap_append -> bI,map_map -> bK,pairwise_iff_forall_sublist -> bU,length_singleton -> bW,perm_append_comm -> bY,mem_filter -> cZ,mem_append -> dD,getD_cons_zero -> dG,getD_cons_succ -> dH,nodup_iff_pairwise_ne -> dM,pairwise_map -> dP,map_append -> dU,length_nil -> dX,length_filter_le -> dZ,mem_append_right -> eH,mem_append_left -> eU,map_cons -> eY,getD_nil -> fA,take_succ_cons -> fB,filter_append -> fD,mem_singleton -> fG,flatMap -> fH,getElem?_take -> fK,getElem?_map -> fQ,map_take -> gX
open Go.Proofs.Tryz renaming prog -> aB
open Ix renaming oL -> aF,keyOf -> aK,b4Q -> bV,Rec -> cO,oH -> dI,yV -> dK,KY -> dS,oK -> fC,cnt -> fE,nK -> fF,scan -> fM,Pl -> fZ,vals -> gI,rM -> gW
open Ke renaming up -> aJ,digit -> aU,okb -> bF,val -> bM,QA -> bT,digits -> bZ,nb -> dF,NJ -> dY,EJ -> fJ,OD -> fP,WM -> gU
open Nat renaming le_refl -> aS,min_eq_right -> aW,zero_le -> bQ,min_eq_left -> dV,min_le_left -> dW
open Go.Sx.J renaming ev -> aT,z -> bJ,op -> dN
open Int renaming natCast_mul -> aY
open Go.Sx.Ej renaming round -> aZ,keep -> bP,keepR -> fV,perm -> gK,DT -> gQ
open Go.Sx.Keeps renaming d -> bC,r -> dJ,k -> dR
open UInt8 renaming ofNat -> bG,toNat_inj -> gG
open Go.Sx.jO renaming toPure -> dA
open Go.Sx.Cj renaming qJ -> dB,loop -> eG
open Go.Value renaming int -> dL,oneCell' -> gJ
open Classical renaming byContradiction -> dQ
open Go.Sx.jV renaming BU -> eF,BN -> eP
open Bool renaming true_and -> eX
open Go.Sx.Src renaming row -> fO
open Prod renaming ext -> fU
open Go.Sx.JA renaming zt -> gB
section
namespace Go.Proofs.YtekmeaoblpfnpaaGreatDoor
open _root_.Go.Proofs.Tryz
open Go Go.Sx
theorem b5k{I L t xs}(A:wB I xs ((Ix.qN L t).getD []))(h:xs.find? (fun x=>decide (x.1.name=gW))=none):fC L t=[]:=by
 rw[TW,←A.1,a3w,h];rfl
theorem b6c{I L t xs x}(A:wB I xs ((Ix.qN L t).getD []))(h:xs.find? (fun x=>decide (x.1.name=gW))=some x):fC L t=x.1.key:=by
 rw[TW,←A.1,a3w,h];rfl
abbrev isT (x:VW):Bool:=decide (x.1.name=gW)
abbrev lZ (x:List UInt8×Nat):List UInt8×Int:=(x.1,(x.2:Int))
abbrev a9n (l:List (List UInt8×Nat)) (v:Value) (H:HL):Prop:=xI 268 oU (l.map lZ) v H
def DJ (n b:List UInt8) (p:fZ):Bool:=decide (p.1=n) && !decide (p.2<b)
def zW (L:Ix.Ix) (n b:List UInt8) (vis:ML fZ):List (List UInt8×Nat):=(vis.filter fun x=>DJ n b x.1).map fun x=>(x.1.2,(dI L n x.1.2).length)
theorem vH L n b vis x:zW L n b (vis++[x])=zW L n b vis++if DJ n b x.1=true then[(x.1.2,(dI L n x.1.2).length)]else[]:=by
 unfold zW;rw[fD,dU]
 by_cases h:DJ n b x.1=true
 ·rw[zF h];simp[h]
 rw[zD h];simp[h]
theorem b6f L n b vis:(zW L n b vis).length≤vis.length:=by
 unfold zW;rw[aH];exact dZ _ _
structure TB where
  vis:ML Ix.Pl
  rest:ML Ix.Pl
  g:Gs
theorem b5h{I:Heap}{b l c N f}(h:lC l c N f)(O:∀q∈setH b l c N,I q.1=some q.2){x}(Q:x∈l):∃A m k,x.2.1= .map (some A)∧I A=some (kD jZ m k)∧MS m k∧m≠[]∧∀t,kE m t=cv (f x.1 t):=by
 have h1:kvp x∈N.map nvp:=by rw[←h.vals];exact bH Q
 obtain⟨⟨a,A,m,k⟩,G,M⟩:=aP.1 h1;have S:a=x.1:=zC (·.1) M;have W:Value.map (some A)=x.2.1:=zC (·.2) M;subst S;obtain⟨Z,g2,g3⟩:=h.inn _ G;exact⟨A,m,k,W.symm,O (A,_) (.tail _ (aP.2 ⟨_,G,rfl⟩)),Z,g2,g3⟩
theorem a6I{l:ML fZ}{c:Nat}{N:vY fZ cO}{f:fZ→cO→Nat}(h:lC l c N f)(p:fZ):p∈l.map (·.1)↔∃t,f p t≠0:=by
 rw[h.keys];constructor
 ·intro A;obtain⟨e,G,rfl⟩:=aP.1 A;obtain⟨_,M,O⟩:=h.inn e G;obtain⟨⟨t,v,n⟩,r,Q⟩:=List.exists_cons_of_ne_nil M;refine⟨t,fun S=>?_⟩;have h2:=O t;rw[S]at h2;have h3:kE e.2.2.1 t=none:=h2;exact pO.1 h3 (by rw[Q];exact .head _)
 rintro⟨t,W⟩;exact dQ fun g=>W (h.out p g t)
theorem keys_le{L l c N}(h:lC l c N (fE dS L))(Q:fF L)(S:L.length≤100000)(W:∀e∈L,qG e.2):l.length≤1000000000000:=by
 have h1:(l.map (·.1)).length≤(L.flatMap fun e=>dS e.2).length:=by
  refine OM h.ms.1 fun p Z=>?_;obtain⟨e,A,G⟩:=(Ix.LX Q).1 ((a6I h p).1 Z);exact List.mem_flatMap.2 ⟨e,A,G⟩
 have h2:∀M:Ix.Ix,(∀e∈M,qG e.2)→(M.flatMap fun e=>dS e.2).length≤M.length*10000000:=by
  intro M
  induction M with
  |nil=>intro _;simp
  |cons a r ih=>
   intro O;have:=ih fun e A=>O e (.tail _ A);have h3:=(O a (.head _)).k;rw[List.flatMap_cons,aC,aI,Nat.add_mul];omega
 rw[aH]at h1;exact mY (mY h1 (h2 L W)) (Nat.mul_le_mul_right 10000000 S)
theorem a4u{a b:List UInt8}(h:¬b<a)(A:a≠b):a<b:=Std.lt_of_le_of_ne (Std.not_lt.1 h) A
theorem b4w{L l c N}(h:lC l c N (fE dS L))(hs:fF L){n b vis}(W:vis.Perm l){ls}(S:ls.Perm ((zW L n b vis).map lZ))(ho:ls.Pairwise fun p q=>¬q.1<p.1):ls=((Ix.mJ L n b).map fun k=>(k,(dI L n k).length)).map lZ:=by
 have G:∀x∈vis.filter (fun x=>DJ n b x.1),x.1.1=n∧¬x.1.2<b:=fun x A=>by
  have:=(cZ.1 A).2;unfold DJ at this;rw[Bool.and_eq_true,zG,Bool.not_eq_true',decide_eq_false_iff_not]at this;exact this
 have a1:((zW L n b vis).map (·.1)).Nodup:=by
  unfold zW;rw[bK];have h1:((vis.filter fun x=>DJ n b x.1).map (·.1)).Nodup:=((W.map _).nodup_iff.2 h.ms.1).sublist (List.filter_sublist.map _);rw[dM,dP]at h1 ⊢;refine(bU.2 fun {x y} M=>?_);have A:=G x (M.subset (.head _));have O:=G y (M.subset (.tail _ (.head _)));have a2:=bU.1 h1 M;exact fun e=>a2 (fU (A.1.trans O.1.symm) e)
 have Q:∀x∈ls,x.2=((dI L n x.1).length:Int):=fun x A=>by
  obtain⟨y,O,rfl⟩:=aP.1 (S.mem_iff.1 A);obtain⟨z,_,rfl⟩:=aP.1 O;rfl
 have hk:(ls.map (·.1)).Perm ((zW L n b vis).map (·.1)):=by
  have:=S.map (·.1)
  rwa [bK]at this
 have Z:Ke.Inc (ls.map (·.1)):=by
  unfold Ke.Inc;have h1:=hk.nodup_iff.2 a1;rw[dM,dP]at h1;rw[dP];exact(List.pairwise_and_iff.2 ⟨ho,h1⟩).imp fun {x y} ⟨h2,h3⟩=>a4u h2 h3
 have a0:=Ix.zS hs (n:=n) (b:=b) (ls:=ls.map fun x=>(x.1,x.2.toNat)) (by rw[bK];exact Z) (fun k=>?_) (fun x A=>?_)
 ·rw[←a0,bK]
  conv=>lhs;rw[←List.map_id ls]
  refine List.map_congr_left fun x A=>?_;have:=Q x A;show x=(x.1,((x.2.toNat:Nat):Int));refine fU rfl ?_;show x.2=_;omega
 ·rw[bK];show k∈ls.map (·.1)↔_;rw[hk.mem_iff,←a6I h];unfold zW;rw[bK];constructor
  ·intro hm;obtain⟨x,A,rfl⟩:=aP.1 hm;obtain⟨h1,h2⟩:=G x A;refine⟨h2,?_⟩;show(n,x.1.2)∈_;rw[←h1,←(W.map (·.1)).mem_iff];exact bH (cZ.1 A).1
  rintro⟨h1,h2⟩;rw[←(W.map (·.1)).mem_iff]at h2;obtain⟨x,A,he⟩:=aP.1 h2;refine aP.2 ⟨x,cZ.2 ⟨A,?_⟩,?_⟩
  ·unfold DJ;rw[he,zH rfl,eX,zI h1];rfl
  show x.1.2=k;rw[he]
 obtain⟨y,O,rfl⟩:=aP.1 A;have:=Q y O;show y.2.toNat=_;rw[this];rfl
theorem b1y ib mb m k0 wm km L t I (a2:qG ((Ix.qN L t).getD []))(a3:I ib=some (jM 114 [.map (some mb),.map wm,.map km]))(Z:I mb=some (kD jZ m k0))(ab:MS m k0)(a4:BJ I m L):Pure aB 28 [ptr ib 0,jZ t] I (str (fC L t)):=by
 refine dA ?_;obtain⟨vv,M,xs,N,O⟩:=a4.at t;have ac:=O.len;have ad:=a2.1;refine jT func28 fun w0 _=>?_;refine jL 3 ?_;intro _ _;refine jL 14 ?_;refine dB [0] [] 8 kR ?_;have aa:=a3;have W:=Z;refine jL 5 ?_;refine gB 5 rfl (kM (kv:=jZ) (l:=m) (a:=t) rfl rfl rfl rfl xO nC FV (eP W)) ?_;refine JA.ev 13 vv rfl M ?_;refine kC (EY xs _ isT _ [] oM _ N.row O.2 (fun x hx=>by obtain⟨p9,c9,G⟩:=qL (O.2 x hx);exact b3t x p9 _ c9 G _)) ?_;refine jR ?_ ?_<;>intro Q a0
 ·have A:xs.find? isT=none:=((uN isT xs).resolve_right (fun⟨k,x,h,_⟩=>by have G:=lY Q;rw[h]at G;omega)).2;refine kF ?_;rw[b5k O A];exact rT
 obtain⟨k,x,a5,S,A⟩:=(uN isT xs).resolve_left (fun h=>by have G:=nD Q;rw[h.1]at G;exact G dE);have a1:=(aO.1 S).1;obtain⟨_,a6,a7,_,a8⟩:=id N;rw[a7]at M ⊢;obtain⟨rb,_,rfl,a9⟩:=a8 (jS a1);rw[a5];refine jL 3 ?_;refine dB [0] [] 11 kR ?_;refine jL 5 ?_;refine gB 5 rfl (kM (kv:=jZ) (l:=m) (a:=t) rfl rfl rfl rfl xO nC FV (eP Z)) ?_;refine JA.ev 22 (.slice (some ⟨rb,0,none⟩) xs.length a6) rfl M ?_;refine kG (0+k*3) ?_;refine gB 8 rfl (q2 (off':=0+k*3+1) KW kY) ?_;refine gB 9 rfl (jP rfl rfl lN (eP a9) (lK GZ (o:=0) rfl S 1 dE)) ?_;refine kF ?_;rw[b6c O A];exact rT
theorem a9W G O Q t I (M:I G=some (jM 114 [.map none,.map O,.map Q])):Pure aB 28 [ptr G 0,jZ t] I (str []):=by
 refine dA ?_;refine jT func28 fun w0 _=>?_;refine jL 3 ?_;intro _ _;refine jL 14 ?_;refine dB [0] [] 8 kR ?_;have N:=M;refine jL 5 ?_;refine gB 5 rfl (qP (kv:=jZ) (a:=t) rfl rfl rfl rfl xO nC FV) ?_;refine kC (EY [] _ isT _ [] dE _ jU.nil (fun x A=>by cases A) (fun x A=>by cases A)) ?_;refine jL 1 ?_;refine JA.ev 14 (i64 (-1)) rfl rfl ?_;refine kF ?_;exact rT
theorem b2v A L t I (G:BX I A L):Pure aB 28 [ptr A 0,jZ t] I (str (fC L t)):=by
 obtain⟨_,M,N,O,W,-,-⟩:=G.parts;rcases W with⟨rfl,rfl⟩|⟨b,l,c,rfl,Q,S,Z⟩
 ·exact a9W A M N t I O
 exact b1y A b l c M N L t I (a2R G t) O Z Q S
theorem a7e a n c (A:n≤c) I:Pure aB 222 [.slice a n c] I (.slice a n n):=by
 refine dA ?_;refine jT func222 fun w0 _=>?_;refine jL 12 ?_;refine bJ (a9E (k:=n) (m:=n) rfl rfl rfl rfl BD BH (aS _) A) ?_;refine jW ?_;exact rT
theorem b7T{α:Type}{T:TypeId}{f:α→List Value}{l:List α}{v:Value}{H:HL}(h:xI T f l v H):∃a c,v= .slice a l.length c∧l.length≤c:=by
 rcases h with⟨rfl,rfl,rfl⟩|⟨b,c,sp,rfl,A,rfl⟩
 ·exact⟨none,0,rfl,aS _⟩
 exact⟨_,c,rfl,A⟩
theorem b2S{α:Type}{T:TypeId}{f:α→List Value}{l:List α}{a:Option Addr}{c:Nat}{H:HL}(h:xI T f l (.slice a l.length c) H){k:Nat}(G:k≤l.length):xI T f (l.take k) (.slice a k k) H:=by
 rcases h with⟨rfl,A,rfl⟩|⟨b,c,sp,A,M,rfl⟩
 ·cases A;have:k=0:=by simpa using G
  subst this;exact .inl rT
 cases A;refine .inr ⟨b,k,(l.drop k).flatMap f++sp,by rw[aA,dV G],by rw[aA];omega,?_⟩;rw[←List.append_assoc,←bI,List.take_append_drop]
theorem b4b{L n s A ls a c v H}(G:ls=((Ix.mJ L n (aK n s)).map fun k=>(k,(dI L n k).length)).map lZ)(h:xI 268 oU ls v H)(M:v= .slice a ls.length c):a9n (fM L n s A) (.slice a (min ls.length A.toNat) (min ls.length A.toNat)) H:=by
 subst M;have h1:=b2S h (dW ls.length A.toNat);have h2:ls.take (min ls.length A.toNat)=(fM L n s A).map lZ:=by
  rw[←Ix.a1E,gX,←G];rcases Nat.le_total ls.length A.toNat with g|g
  ·rw[dV g,List.take_length,aG g]
  rw[aW g]
 rw[h2]at h1;exact h1
theorem b5A{L}(G:fF L){m k}(M:MS m k){p}(A:∀t,kE m t=cv (fE dS L p t)){n}(N:p.1=n):((m.length:Nat):Int)=((dI L n p.2).length:Int):=by
 subst N;have h:=Ix.b3R G (n:=p.1) (k:=p.2) (ts:=m.map (·.1)) M.1 fun t=>by
  constructor
  ·intro h1;have h2:kE m t≠none:=fun g=>pO.1 g h1;rw[A]at h2;exact fun g=>h2 (by rw[show fE dS L p t=0 from g];rfl)
  intro h1;refine dQ fun g=>?_;have h2:=pO.2 g;rw[A,b0k h1]at h2;cases h2
 rw[aH]at h;rw[h]
theorem b1J(n:Nat) A:(if (if (0:Int)>A then(0:Int)else A)<(n:Int)then(if (0:Int)>A then(0:Int)else A)else(n:Int))=((min n A.toNat:Nat):Int):=by
 repeat(first|omega|split)
theorem a9F ib kb vm wm l c N L n s (hs:s.length≤100000000) G I (Q:fF L)(S:lC l c N (fE dS L))(ao:l.length≤1000000000000)(aq:I ib=some (jM 114 [.map vm,.map wm,.map (some kb)]))(hI:∀q∈setH kb l c N,I q.1=some q.2):jO aB 160 [ptr ib 0,str n,str s,i64 G] I [] (fun e _ H'=>∃v,e= .returned v∧a9n (fM L n s G) v H'):=by
 have W:I kb=some (kD nH l c):=hI (kb,_) (.head _);refine jT func160 fun w0 _=>?_;refine kC (XI n s hs _) ?_;refine jL 15 ?_;refine dN rfl (vT (kv:=nH) (l:=l) rfl rfl rfl rfl qA (eF W) ?_);intro b2 _;refine jL 3 ?_;refine eG (ι:=TB) (fun y=>(y.vis++y.rest).Perm l∧kZ w0.heap.size 2 (zW L n (aK n s) y.vis).length (((zW L n (aK n s) y.vis).map lZ).flatMap oU) y.g) (fun y=>y.rest.length) (fun y=>[(1,str n),(3,i64 G),(9,str (aK n s)),(10,gV (zW L n (aK n s) y.vis).length y.g),(22,ptr b2 0)]) (fun y=>_) (fun y=>(b2,ET kb c y.vis c)::gH 268 (((zW L n (aK n s) y.vis).map lZ).flatMap oU) y.g) ⟨[],l,none⟩ ⟨.refl _,rfl,rfl⟩ rT rfl rfl ?_;rintro⟨vis,rest,g⟩ ⟨Z,hg⟩;dsimp only at Z hg ⊢;have ab:=Z.length_eq;rw[aC]at ab;have ap:=b6f L n (aK n s) vis;refine jL 2 ?_;refine dN rfl (xR (kv:=nH) (l:=l) 0 rfl rfl rfl rfl rfl (eF W) S.ms.2.2 (aS _) S.ms.2.1 Z ?_ ?_)
 ·rintro x M H9 a0 O ⟨-,hset⟩;simp only[List.set_cons_zero,List.set_cons_succ]at hset;subst hset;obtain⟨mb,m,k,ae,af,ag,_,ah⟩:=b5h S hI (O.mem_iff.1 (eU _ (eH _ (.head _))));refine jL 10 ?_;refine bJ (CP (kv:=nH) (l:=l) rfl rfl (jV.at 0 rfl) (eF W) (O.mem_iff.1 (eU _ (eH _ (.head _)))) S.ms.2.1) ?_;refine jL 2 ?_;refine aT 27 (.map (some mb)) rfl ae ?_;refine jL 1 ?_;intro _ _;refine mP ?_ ?_<;>intro a1 ac
  ·have a2:x.1.1=n:=lQ a1;refine jL 3 ?_;refine J.zg (a1H rfl rfl rfl) ?_;refine mQ ?_ ?_<;>intro a3
   ·have A:DJ n (aK n s) x.1=true:=by unfold DJ;rw[zH a2,eX];exact a3
    refine jL 5 ?_;refine bJ (zX (kv:=jZ) (l:=m) rfl rfl oO (eF af)) ?_;refine aT 42 (i64 ((dI L n x.1.2).length:Int)) rfl (zC i64 (b5A Q ag ah a2)) ?_;refine bJ (jX (pl:= #[(0,1),(1,1)]) rfl rfl UU rfl b4W (fun w=>by simp[oJ,kY]) (pU.part rfl rfl rfl (nV.c nV.z) (pU.part rfl rfl rfl (nV.s (nV.c nV.z)) pU.none))) ?_;refine dN rfl (q6 BD BH UU (xG.agg rfl xG.none) ?_);intro _ _;refine dN rfl (kK (by':=23) [_,_,_] rfl rfl rfl rfl rfl BD (.inr ⟨_,BD⟩) (by kernel_rfl) BH UU rfl hg rfl (Src.slice (jV.at 0 rfl) rfl rfl rfl) (by omega) ?_);intro g8 ai;refine jL 3 ?_;refine bP (bC (bC (dR dJ))) ?_;refine aZ ⟨vis++[x],M,g8⟩ ⟨O,by dsimp only;rw[vH,zF A,aC,dU,bI];exact ai⟩ (by have h:=a0.length_eq;simp only[aI]at h;dsimp only;omega) ⟨rfl,rfl,rfl,by dsimp only;rw[vH,zF A,aC];rfl,rfl,trivial⟩ rfl (by dsimp only;rw[vH,zF A,dU,bI];rfl)
   have A:¬DJ n (aK n s) x.1=true:=by unfold DJ;rw[zH a2,eX];exact fun e=>Bool.noConfusion (e.symm.trans a3)
   refine jL 2 ?_;refine bP (bC (dR dJ)) ?_;refine aZ ⟨vis++[x],M,g⟩ ⟨O,by dsimp only;rw[vH,zD A,aN];exact hg⟩ (by have h:=a0.length_eq;simp only[aI]at h;dsimp only;omega) ⟨rfl,rfl,rfl,by dsimp only;rw[vH,zD A,aN];rfl,rfl,trivial⟩ rfl (by dsimp only;rw[vH,zD A,aN])
  have A:¬DJ n (aK n s) x.1=true:=by unfold DJ;rw[zI (lW a1)];exact Bool.false_ne_true
  refine jL 10 ?_;refine bP (bC (dR dJ)) ?_;refine aZ ⟨vis++[x],M,g⟩ ⟨O,by dsimp only;rw[vH,zD A,aN];exact hg⟩ (by have h:=a0.length_eq;simp only[aI]at h;dsimp only;omega) ⟨rfl,rfl,rfl,by dsimp only;rw[vH,zD A,aN];rfl,rfl,trivial⟩ rfl (by dsimp only;rw[vH,zD A,aN])
 intro ad;refine jL 11 ?_;have aj:vis.Perm l:=by rw[ad,aN]at Z;exact Z
 have a6:kZ w0.heap.size 2 ((zW L n (aK n s) vis).map lZ).length (((zW L n (aK n s) vis).map lZ).flatMap oU) g:=by rw[aH];exact hg
 refine jL 2 ?_;refine aT 46 (gV ((zW L n (aK n s) vis).map lZ).length g) rfl (by rw[aH]) ?_;refine AV [_] (VQ ((zW L n (aK n s) vis).map lZ) g a6 (by rw[aH];omega) _) ?_;rintro _ _ H9 _ ⟨ls,a7,al,h,rfl⟩;cases h;have am:=b4w S Q aj a7 al;have a4:((zW L n (aK n s) vis).map lZ).length=ls.length:=a7.length_eq.symm;have an:kZ w0.heap.size 2 ls.length (ls.flatMap oU) g:=by rw[←a4];exact MF a6 (by rw[lS pK,lS pK,a4])
 refine jL 3 ?_;obtain⟨a5⟩:Nonempty (xI 268 oU ls (gV ls.length g) (gH 268 (ls.flatMap oU) g)):=⟨xI.b7B pK (by decide) rfl an⟩;obtain⟨sa,sc,a8,a9⟩:∃a c,gV ls.length g= .slice a ls.length c∧ls.length≤c:=b7T a5;have aa:gV (zW L n (aK n s) vis).length g= .slice sa ls.length sc:=by rw[←a8,←a4,aH]
 refine jL 2 ?_;refine aT 48 (.slice sa ls.length sc) rfl aa ?_;refine jL 1 ?_;refine aT 49 (.slice sa ls.length sc) rfl aa ?_;refine jL 2 ?_;refine bJ (rY rfl rfl rfl) ?_;refine bJ (rX rfl rfl rfl) ?_;refine aT 53 (i64 ((min ls.length G.toNat:Nat):Int)) rfl (zC i64 (b1J _ _)) ?_;refine bJ (qF (k:=(min ls.length G.toNat)) rfl rfl rfl BD BH rfl (mY (dW _ _) a9)) ?_;refine kC (a7e sa (min ls.length G.toNat) sc (mY (dW _ _) a9) _) ?_;refine jL 4 ?_;refine bP (H':=gH 268 (ls.flatMap oU) g) (List.sublist_append_right [_] _) ?_;refine jW ?_;exact⟨_,rfl,b4b am a5 a8⟩
theorem b1k G O Q n s (S:s.length≤100000000) A I (W:I G=some (jM 114 [.map O,.map Q,.map none])):jO aB 160 [ptr G 0,str n,str s,i64 A] I [] (fun e _ H'=>e= .returned (.slice none 0 0)∧H'=[]):=by
 refine jT func160 fun w0 _=>?_;refine kC (XI n s S _) ?_;refine jL 15 ?_;refine dN rfl (sW rfl rfl rfl rfl qA ?_);intro _ _;refine jL 3 ?_;refine Cj.rounds 1 ?_;refine Rj.succ ?_;refine jL 2 ?_;refine dN rfl (vF 0 rfl rfl rfl rfl rfl ?_);refine AV [_] (VQ (base:=0) [] none rT dE _) ?_;rintro _ _ _ _ ⟨ts,M,_,h,rfl⟩;cases h;have N:=M.eq_nil;subst N;refine jL 8 ?_;refine bJ (rY rfl rfl rfl) ?_;refine bJ (rX rfl rfl rfl) ?_;refine aT 53 (i64 ((0:Nat):Int)) rfl (zC i64 (b1J 0 A |>.trans (by rw[Nat.zero_min]))) ?_;refine bJ (qF (k:=0) rfl rfl rfl BD BH rfl (aS _)) ?_;refine kC (a7e none 0 0 (aS _) _) ?_;refine kF ?_;exact rT
theorem b0Z{L}(G:fF L)(M:∀p t,fE dS L p t=0) n s A:fM L n s A=[]:=by
 have h:=Ix.zS G (n:=n) (b:=aK n s) (ls:=[]) List.Pairwise.nil (fun k=>⟨fun h=>(by cases h),fun⟨_,t,N⟩=>absurd (M _ t) N⟩) (fun x O=>by cases O);rw[←Ix.a1E,←h,List.take_nil]
theorem b5x M L n s (O:s.length≤100000000) A I (G:BX I M L):jO aB 160 [ptr M 0,str n,str s,i64 A] I [] (fun e _ H'=>∃v,e= .returned v∧a9n (fM L n s A) v H'):=by
 obtain⟨Q,S,_,W,-,-,hK⟩:=G.parts;have hv:∀e∈L,qG e.2:=by
  obtain⟨o,h1,_⟩:=G;cases o with
  |none=>rw[show L=[] from h1];intro e he;cases he
  |some s=>exact oD.VN h1
 rcases hK with⟨rfl,hz⟩|⟨b,l,c,N,rfl,Z,hq⟩
 ·rw[b0Z G.oG hz];exact(b1k M Q S n s O A I W).mono fun e _ H' _ ⟨h1,h2⟩=>⟨_,h1,.inl ⟨rfl,rfl,h2⟩⟩
 exact a9F M b Q S l c N L n s O A I G.oG Z (keys_le Z G.oG G.big hv) W hq
theorem b2L n s (M:s.length≤100000000) I:jO aB 32 [.pointer none,str n,str s] I [] (fun e _ H'=>e= .returned (.slice none 0 0)∧H'=[]):=by
 refine jT func32 fun w0 _=>?_;refine kH (zN s oM _) ?_;intro _ _ _ _ A;obtain⟨_,h,G,rfl⟩:=A;cases h;obtain⟨wp,_,rfl⟩:=qL G;refine jW ?_;exact rT
theorem a8j n s (M:s.length≤100000000) I:jO aB 33 [.pointer none,str n,str s] I [] (fun e _ H'=>e= .returned (.slice none 0 0)∧H'=[]):=by
 refine jT func33 fun w0 _=>?_;refine jL 3 ?_;intro _ _;refine jL 1 ?_;intro _ _;refine kH (zN s oM _) ?_;intro _ _ _ _ A;obtain⟨_,h,G,rfl⟩:=A;cases h;obtain⟨wp,_,rfl⟩:=qL G;refine jL 1 ?_;intro _ _;refine kF ?_;exact rT
theorem b5P n s I:jO aB 34 [.pointer none,str n,str s] I [] (fun e _ H'=>e= .returned (.slice none 0 0)∧H'=[]):=by
 refine jT func34 fun w0 _=>?_;refine jW ?_;exact rT
theorem b3Z n s A I:jO aB 160 [.pointer none,str n,str s,i64 A] I [] (fun e _ H'=>e= .returned (.slice none 0 0)∧H'=[]):=by
 refine jT func160 fun w0 _=>?_;refine jW ?_;exact rT
theorem b3L t I:Pure aB 28 [.pointer none,jZ t] I (str []):=by
 refine dA ?_;refine jT func28 fun w0 _=>?_;refine jL 3 ?_;intro _ _;refine kF ?_;exact rT
abbrev jQ (e:nM):cO×List Ix.V:=(e.t,gI e.fs)
theorem a0m{es:List nM}{i e}(h:es[i]?=some e):bV ((es.take (i+1)).map jQ) []=Ix.sU e.t (gI e.fs) (bV ((es.take i).map jQ) []):=by
 rw[zV jQ h];unfold bV;rw[List.foldl_append];rfl
def nO (I:Heap) (es:List nM) (v:Value):Prop:=jU oI I es v∧∀e∈es,yJ I e.fs e.v
theorem nO.mono{I G es v}(h:nO I es v)(A:Le I G):nO G es v:=⟨h.1.mono A,fun e M=>(h.2 e M).mono A⟩
structure BA where
  i:Nat
  J:Heap
  o:Option Ist
theorem UK{e p n c}(h:e.v= .slice p n c):(oI e).all gJ=true:=by unfold oI;rw[h];rfl
theorem b2n es v (ab:es.length≤1000)(a5:∀e∈es,yE e.fs) I (Z:nO I es v):jO aB 48 [v] I [] (fun e I' H'=>∃ib o,e= .returned (ptr ib 0)∧vI I' o (bV (es.map jQ) [])∧H'=yF ib o):=by
 obtain⟨p,c,rfl,_,-⟩:=id Z.1;refine jT func48 fun w0 _=>?_;refine jL 7 ?_;refine bJ (jX (pl:= #[(0,1),(1,1),(2,1)]) rfl rfl zeroValue114 rfl JW (fun w=>by simp[FQ,GV]) pU.none) ?_;refine jL 1 ?_;intro b1 _;refine jL 12 ?_;refine eG (ι:=BA) (fun y=>y.i≤es.length∧Le I y.J∧vI y.J y.o (bV ((es.take y.i).map jQ) [])∧(bV ((es.take y.i).map jQ) []).length≤y.i) (fun y=>es.length-y.i) (fun y=>[(3,ptr b1 0),(8,.slice p es.length c),(9,i64 (es.length:Int)),(10,i64 (y.i:Int))]) (fun y=>y.J) (fun y=>yF b1 y.o) ⟨0,_,none⟩ ⟨bQ _,Le.refl _,rfl,aS _⟩ rT rfl rfl ?_;rintro⟨i,_,o⟩ ⟨hi,O,G,a2⟩;dsimp only at hi O G a2 ⊢;have hE:=Z.mono O;refine jR ?_ ?_<;>intro a6 a3
 ·have a0:i<es.length:=oM;obtain⟨S,M⟩:∃e,es[i]?=some e:=⟨_,kV a0⟩;have a1:=lV M;obtain⟨⟨p1,c1,a7,_,hp⟩,Q⟩:=id hE;cases a7;obtain⟨_,eo,_,_,_,_,rfl,W,a8⟩:=hp (jS a0);have N:=Q S a1;clear Q;obtain⟨_,_,a9,-,-⟩:=id N.1;refine kG (eo+i*5) ?_;refine bJ (q3 isAgg59 vZ (eF W) (kQ pJ a8 M)) ?_;refine jL 1 ?_;intro _ _;refine dN rfl (nS 0 rfl rfl rfl rfl rfl (UK a9) vZ rfl rfl lsA lF.z ?_);refine AV [_] (b0b b1 o (bV ((es.take i).map jQ) []) S _ G oM (a5 S a1) N) ?_;intro _ _ _ A aa;have hE:=hE.mono A;have G:=G.mono A;have O:=O.mono A;have W:=A _ _ W;have N:=N.mono A;obtain⟨o1,h,a4,rfl⟩:=aa;cases h;refine jL 7 ?_;refine bP (bC dJ) ?_;refine aZ ⟨i+1,_,o1⟩ ⟨dO,O,by dsimp only;rw[a0m M];exact a4,by dsimp only;rw[a0m M];have:=PU S.t (gI S.fs) (bV ((es.take i).map jQ) []);omega⟩ dO rT rfl rfl
 rw[aG (oM:es.length≤i)]at G;refine jW ?_;exact⟨_,o,rfl,G,rfl⟩
end Go.Proofs.YtekmeaoblpfnpaaGreatDoor
end
namespace Go.Sx
open Go
section
variable {P:Program} {K i j:TypeId} {f0 f1:Field}
def EqK {α:Type} [BEq α] (P:Program) (K:TypeId) (kv:α→Array Value):Prop:=∀a b w,(Op.equalIn 10000 K (.agg (kv a)) (.agg (kv b))).run P w= .ok (a == b) w
theorem EqK.a9p(N:P.underlying K=some (.struct #[f0,f1]))(O:P.stoodInHeld K=false)(Q:f0.name≠ "_")(S:f1.name≠ "_")(W:f0.offset=0)(Z:f1.offset=1)(t0:f0.type=i)(A:f1.type=i)(G:P.underlying i=some (.int .i64))(M:∀w,(isAgg i).run P w= .ok false w):
 EqK P K (fun a:Int×Int=> #[i64 a.1,i64 a.2]):=by
 subst t0;exact fun a b w=>LC N O Q S W Z M (A▸M) (x0:=i64 a.1) (x1:=i64 a.2) (y0:=i64 b.1) (y1:=i64 b.2) w (fun d w=>run_equalIn_int w d _ .i64 .i64 a.1 b.1 G) (fun d w=>run_equalIn_int w d _ .i64 .i64 a.2 b.2 (A▸G)) 9998
end
section
variable {cx:Cx} {S:World→Prop} {ev0:Env} {o:Oper} {α:Type} [BEq α] {t:TypeId} {kv:α→Array Value}
theorem a7O{x y U a b}{vs A:List Value}(Z:o.op= .binOp .eql t x y U)(M:ev ev0 x=some (.agg vs.toArray))(N:ev ev0 y=some (.agg A.toArray))(O:vs.toArray=kv a)(Q:A.toArray=kv b)
 (hK:EqK cx.P t kv)(hq:cx.P.eqGuardType cx.P.depth t=false):kW cx o ev0 S (.bool (a == b)):=by
 intro w0 w W _;have G:(eqGuard .eql t x y (.agg vs.toArray) (.agg A.toArray)).run cx.P w= .ok () w:=by
  simp[eqGuard,hq]
 have h1:=run_eql_struct (P:=cx.P) w t vs.toArray A.toArray;rw[O]at h1 G M;rw[Q]at h1 G N;rw[hK a b w]at h1;simp[execOp,Z,W.eval M,W.eval N,G,h1]
theorem b6R{x y U a b}{vs A:List Value}(Z:o.op= .binOp .neq t x y U)(M:ev ev0 x=some (.agg vs.toArray))(N:ev ev0 y=some (.agg A.toArray))(O:vs.toArray=kv a)(Q:A.toArray=kv b)
 (hK:EqK cx.P t kv)(hq:cx.P.eqGuardType cx.P.depth t=false):kW cx o ev0 S (.bool (a != b)):=by
 intro w0 w W _;have G:(eqGuard .neq t x y (.agg vs.toArray) (.agg A.toArray)).run cx.P w= .ok () w:=by
  simp[eqGuard,hq]
 have h1:=run_neq_struct (P:=cx.P) w t vs.toArray A.toArray;rw[O]at h1 G M;rw[Q]at h1 G N;rw[hK a b w]at h1;simp[execOp,Z,W.eval M,W.eval N,G,h1,bne]
end
section
variable {cx:Cx} {S:World→Prop} {ev0:Env} {o:Oper}
theorem a2E{x T k A v}(G:o.op= .field T x k)(M:ev ev0 x=some A)(N:∀w,(Instr.field T A k).run cx.P w= .ok v w):kW cx o ev0 S v:=by
 intro w0 w O _;simp[execOp,G,O.eval M,N]
end
theorem Pure.borrow{P f args I B v}(A:Enters P f)(h:∀J,Le I J→(∀p∈B,J p.1=some p.2)→Pure P f args J v):jO P f args I B (fun e _ H'=>e= .returned v∧H'=B):=by
 refine jO.UC A fun G M=>?_;refine(jO.borrow (h (yY B I) (DN M) (rQ G))).mono fun e _ H' _ ⟨J,K,⟨h1,h2,h3⟩,N,_,_⟩=>⟨h1,?_⟩;subst h3;rw[N,aN]
end Go.Sx
section
namespace Go.Proofs.YtekmeaoblpfnpaaGreatDoor
open _root_.Go.Proofs.Tryz
open Go Go.Sx
abbrev a9w (t:cO):Array Value:= #[i64 t.1,i64 t.2]
theorem a8p:EqK aB 54 a9w:=EqK.a9p a1v kR dE dE rfl rfl rfl rfl WR IY
theorem MO{cs sp:List Value}{o k}{es:List nM}{x}(h:cs.drop o=es.flatMap oI++sp)(A:es[k]?=some x):(cs.drop (o+k*5)).take 2=recC x.t:=by
 have h1:=kQ pJ h A;rw[show(cs.drop (o+k*5)).take 2=((cs.drop (o+k*5)).take 5).take 2 by rw[List.take_take,show min 2 5=2 from rfl],h1];rfl
theorem b2x{a b}(h:a.1≠b.1):aF a b=decide (a.1<b.1):=by unfold aF;rw[zI (p:=a.1=b.1) h];simp
theorem b3G{a b}(h:a.1=b.1):aF a b=decide (a.2<b.2):=by unfold aF;rw[zH h,h,zI (Int.lt_irrefl _)];simp
def lH (es:List nM) (t:cO):Nat:=(es.takeWhile fun x=>aF x.t t).length
def nN (es:List nM) (t:cO):Bool:=match es[lH es t]? with
 |none=>false
 |some x=>x.t == t
def yH (es:List nM) (e:nM):List nM:=es.take (lH es e.t)++[e]++es.drop (if nN es e.t then lH es e.t+1 else lH es e.t)
def rD (es:List nM) (t:cO):List nM:=if nN es t then es.take (lH es t)++es.drop (lH es t+1)else es
theorem wU x es t:lH (x::es) t=if aF x.t t then lH es t+1 else 0:=by
 unfold lH;rw[List.takeWhile_cons];split<;>simp_all
theorem MK:∀(es:List nM) (t:cO),lH es t≤es.length
 |[],_=>bQ _
 |x::r,t=>by rw[wU];have:=MK r t;split<;>simp<;>omega
theorem a1w:∀{es:List nM} {t:cO} {k:Nat},(∀x∈es.take k,aF x.t t=true)→(∀x,es[k]?=some x→aF x.t t=false)→k≤es.length→lH es t=k
 |[],_,k,_,_,hk=>by
  have:k=0:=by simpa using hk
  subst this;rfl
 |x::r,t,0,_,h2,_=>by rw[wU,zD (by rw[h2 x rfl];decide)]
 |x::r,t,k+1,h1,h2,hk=>by
  rw[wU,zF (h1 x (by rw[fB];exact .head _)),a1w (k:=k) (fun y A=>h1 y (by rw[fB];exact .tail _ A)) (fun y A=>h2 y (by rw[List.getElem?_cons_succ];exact A)) (by simpa using hk)]
theorem b0y{es t k x}(h:lH es t=k)(A:es[k]?=some x):nN es t=(x.t == t):=by unfold nN;rw[h,A]
theorem a2o{es t k}(h:lH es t=k)(A:es.length≤k):nN es t=false:=by unfold nN;rw[h,List.getElem?_eq_none A]
theorem b3S{es:List nM}{t k x}(h:∀y∈es.take k,aF y.t t=true)(A:es[k]?=some x)(M:aF x.t t=true):∀y∈es.take (k+1),aF y.t t=true:=by
 obtain⟨G,A⟩:=aO.1 A;rw[aX G,A];intro y N;rcases dD.1 N with g|g
 ·exact h y g
 rw[fG.1 g];exact M
theorem ED x es t:nN (x::es) t=if aF x.t t then nN es t else x.t == t:=by
 unfold nN;rw[wU]
 by_cases h:aF x.t t=true
 ·rw[zF h,zF h];rfl
 rw[zD h,zD h];rfl
theorem a4F e:∀es:List nM,(yH es e).map jQ=Ix.sU e.t (gI e.fs) (es.map jQ)
 |[]=>rfl
 |x::r=>by
  have A:=a4F e r;unfold yH at A ⊢;rw[wU,ED,eY];unfold Ix.sU
  by_cases h:aF x.t e.t=true
  ·rw[zF h,zF h,zF h,←A];have G:(if nN r e.t=true then lH r e.t+1+1 else lH r e.t+1)=(if nN r e.t=true then lH r e.t+1 else lH r e.t)+1:=by split<;>rfl
   rw[G];rfl
  rw[zD h,zD h,zD h]
  by_cases h2:x.t=e.t
  ·rw[zF h2,zF (by simpa using h2)];rfl
  rw[zD h2,zD (by simpa using h2)];rfl
theorem a3Y{t}{L:List nM}(h:∀x∈L,x.t≠t):dK t (L.map jQ)=L.map jQ:=by
 unfold dK;rw[List.filter_eq_self];intro y A;obtain⟨x,G,rfl⟩:=aP.1 A;exact zH (h x G)
theorem NZ t:∀es:List nM,fF (es.map jQ)→(rD es t).map jQ=dK t (es.map jQ)
 |[],_=>rfl
 |x::r,hs=>by
  have A:=List.pairwise_cons.1 hs;have N:=NZ t r A.2;unfold rD at N ⊢;rw[wU,ED,eY];have Q:dK t (jQ x::r.map jQ)=if x.t=t then dK t (r.map jQ)else jQ x::dK t (r.map jQ):=by
   unfold dK;rw[List.filter_cons]
   by_cases g:x.t=t
   ·rw[zF g,zD (by simp[jQ,g])]
   rw[zD g,zF (by simp[jQ,g])]
  have S:∀u:cO,aF u x.t=false→u≠x.t→True:=fun _ _ _=>trivial;rw[Q]
  by_cases h:aF x.t t=true
  ·have O:x.t≠t:=fun g=>by rw[g,Ix.nJ]at h;cases h
   rw[zF h,zF h,zD O,←N]
   split<;>rfl
  rw[zD h,zD h]
  by_cases g:x.t=t
  ·rw[zF g,zF (by simpa using g),a3Y fun y G M=>by
    have:=A.1 (jQ y) (bH G);simp only[jQ]at this;rw[M,←g,Ix.nJ]at this;cases this]
   rfl
  rw[zD g,zD (by simpa using g),a3Y fun y G M=>by
   have h1:=A.1 (jQ y) (bH G);simp only[jQ]at h1;rw[M]at h1;exact h h1]
  rfl
theorem b2P es e:(yH es e).length≤es.length+1:=by
 unfold yH;have:=MK es e.t;simp only[aC,aA,aQ,bW]
 split<;>omega
theorem a2d es t:(rD es t).length≤es.length:=by
 unfold rD
 split
 ·have:=MK es t;simp only[aC,aA,aQ];omega
 exact aS _
theorem a4o{es e x}(h:x∈yH es e):x=e∨x∈es:=by
 unfold yH at h;rcases dD.1 h with g|g
 ·rcases dD.1 g with g|g
  ·exact .inr (bD g)
  exact .inl (fG.1 g)
 exact .inr (aV g)
theorem QX{es t x}(h:x∈rD es t):x∈es:=by
 unfold rD at h
 split at h
 ·rcases dD.1 h with g|g
  ·exact bD g
  exact aV g
 exact h
theorem TV{es t}(h:nN es t=true):lH es t<es.length:=by
 rcases Nat.lt_or_ge (lH es t) es.length with g|g
 ·exact g
 rw[a2o rfl g]at h;cases h
theorem IJ{I es v}(h:nO I es v){l:List nM}(A:∀x∈l,x∈es):∀x∈l,(oI x).all gJ=true:=fun x G=>by
 obtain⟨p,c,M,-⟩:=(h.2 x (A x G)).1;exact UK M
theorem nO.nil{I}:nO I [] (.slice none 0 0):=⟨jU.nil,fun _ h=>by cases h⟩
theorem nO.len{I es v}(h:nO I es v):∃p c,v= .slice p es.length c∧es.length≤c:=let ⟨p,c,h,A,_⟩:=h.1;⟨p,c,h,A⟩
theorem a5w a b I:Pure aB 29 [jZ a,jZ b] I (.bool (aF a b)):=by
 refine dA ?_;refine jT func29 fun w0 _=>?_;refine jL 3 ?_;intro _ _;refine jL 1 ?_;intro _ _;refine jR ?_ ?_<;>intro A G
 ·have M:=b2x (bne_iff_ne.1 A);refine kF ?_;rw[M];exact rT
 have M:=b3G (sF A);refine kF ?_;rw[M];exact rT
theorem a5M rb w es t (hl:es.length≤1000000) I (a7:I rb=some (jM 50 [w]))(hE:nO I es w):Pure aB 92 [ptr rb 0,jZ t] I (.tuple #[i64 (lH es t:Int),.bool (nN es t)]):=by
 refine dA ?_;obtain⟨p,c,rfl,_,hp⟩:=id hE.1;refine jT func92 fun w0 _=>?_;refine jL 3 ?_;intro b1 _;refine jL 11 ?_;refine eG (ι:=Nat) (fun y=>y≤es.length∧∀x∈es.take y,aF x.t t=true) (fun y=>es.length-y) (fun y=>[(0,ptr rb 0),(3,ptr b1 0),(6,i64 (y:Int))]) (fun y=>_) (fun y=>[(b1,jM 54 [i64 t.1,i64 t.2])]) 0 ⟨bQ _,fun x hx=>by simp at hx⟩ rT rfl rfl ?_;rintro y ⟨hy,O⟩;refine jR ?_ ?_<;>intro a8 a4
 ·have a1:y<es.length:=oM;obtain⟨x,A⟩:∃x,es[y]?=some x:=⟨_,kV a1⟩;obtain⟨_,eo,_,_,_,_,rfl,a2,a3⟩:=hp (jS a1);refine jL 4 ?_;refine dB [0] [] 11 kR ?_;have a9:=a7;have a0:=a2;refine kG (eo+y*5) ?_;refine jL 1 ?_;refine gB 7 rfl (q3 oC kX (eP a0) (MO a3 A)) ?_;refine kC (a5w x.t t _) ?_;refine mQ ?_ ?_<;>intro Q
  ·have S:aF x.t t=false:=by have h:=Q;simpa using h
   refine jL 2 ?_;refine Ej.a4a rfl ?_;refine jL 4 ?_;have G:lH es t=y:=a1w O (fun z hz=>by rw[A]at hz;cases hz;exact S) hy;have W:=b0y G A;refine dB [0] [] 22 kR ?_;refine jL 9 ?_;refine JA.split 37 rfl (fun M=>?_) (fun M=>?_)
   rotate_left
   ·have a5:=nD M;omega
   have a5:=lY M;refine jL 5 ?_;refine JA.fix lG (fun N=>?_);refine JA.tkG 14 8 37 true _ rfl N rfl rfl M (q7 (off':=eo+y*5) vC vZ) ?_;refine jL 1 ?_;refine JA.fix lG (fun N=>?_);refine JA.tkG 16 8 37 true _ rfl N rfl rfl M (q3 oC kX (eP a2) (MO a3 A)) ?_;refine jL 1 ?_;refine JA.fix lG (fun N=>?_);refine JA.tkG 18 8 37 true _ rfl N rfl rfl M (a7O (kv:=a9w) (a:=x.t) (b:=t) rfl rfl rfl rfl rfl a8p kR) ?_;refine kF ?_;rw[G,W];exact rT
  have S:aF x.t t=true:=by have h:=Q;simpa using h
  refine jL 8 ?_;refine aZ (y+1) ⟨oM,b3S O A S⟩ oM rT rfl rfl
 refine jL 6 ?_;have G:lH es t=y:=a1w O (fun x hx=>absurd (aO.1 hx).1 oM) hy;have W:=a2o G oM;refine dB [0] [] 22 kR ?_;refine jL 9 ?_;refine JA.split 37 rfl (fun Z=>?_) (fun Z=>?_)
 ·have a6:=lY Z;omega
 have a6:=nD Z;refine kF ?_;rw[G,W];exact rT
theorem a2D A w es t (M:es.length≤1000000) I (N:nO I es w):jO aB 92 [ptr A 0,jZ t] I [(A,jM 50 [w])] (fun e _ H'=>e= .returned (.tuple #[i64 (lH es t:Int),.bool (nN es t)])∧H'=[(A,jM 50 [w])]):=
 Pure.borrow (Enters.of func92 dE rfl) fun J G O=>a5M A w es t M J (O (A,_) (.head _)) (N.mono G)
theorem jU.from{α:Type}{f:α→List Value}{sz:Nat}(A:∀x,(f x).length=sz){I l a c}(h:jU f I l (.slice a l.length c)){j:Nat}(G:j≤l.length):jU f I (l.drop j) (.slice (zQ a c j sz) (l.length-j) (c-j)):=by
 have h1:=jU.cut A h G (aS _)
 rwa [aG (by rw[aQ];omega)]at h1
theorem ZH a b e:((([]:List Value)++a.flatMap oI)++oI e)++b.flatMap oI=(a++[e]++b).flatMap oI:=sI
theorem b3C(a b:List nM):(([]:List Value)++a.flatMap oI)++b.flatMap oI=(a++b).flatMap oI:=sI
theorem nO.put{I G es e w v}(h:nO I es w)(M:yJ I e.fs e.v)(A:Le I G)(N:jU oI G (yH es e) v):nO G (yH es e) v:=⟨N,fun x O=>by
 rcases a4o O with rfl|g
 ·exact M.mono A
 exact(h.2 x g).mono A⟩
theorem nO.drop{I A es t w v}(h:nO I es w)(G:Le I A)(M:jU oI A (rD es t) v):nO A (rD es t) v:=⟨M,fun x N=>(h.2 x (QX N)).mono G⟩
theorem b5u Z w es e (hl:es.length≤1000000) I (G:nO I es w)(hr:yJ I e.fs e.v):jO aB 99 [ptr Z 0,.agg (oI e).toArray] I [(Z,jM 50 [w])] (fun ev I' H'=>∃w',ev= .returned (.tuple #[])∧nO I' (yH es e) w'∧H'=[(Z,jM 50 [w'])]):=by
 have A:=G.1;obtain⟨p,c,rfl,_⟩:=G.len;obtain⟨_,_,a6,-,-⟩:=id hr.1;have a2:=MK es e.t;have ad:(es.take (lH es e.t)).length=lH es e.t:=by rw[aA];omega
 refine jT func99 fun w0 _=>?_;refine jL 3 ?_;intro _ _;refine jL 7 ?_;refine J.pull (Pull.s Pull.z) ?_;refine kH (a2D Z _ es e.t hl _ G) ?_;intro _ _ _ O a7;have G:=G.mono O;have hr:=hr.mono O;have A:=A.mono O;obtain⟨h,rfl⟩:=a7;cases h;refine jL 20 ?_;refine bJ (qF (k:=lH es e.t) rfl rfl rfl vC vZ rfl oM) ?_;refine dN rfl (kK (by':=47) (n:=0) (g:=none) (xs:=[]) [_,_] rfl rfl rfl rfl rfl vC (.inr ⟨_,vC⟩) kR vZ LP rfl rT rfl (fO pJ (jU.take A a2) (IJ G (fun x hx=>bD hx))) oM ?_);intro _ a8;refine jL 8 ?_;intro _ _;refine dN rfl (kK (by':=47) [_,_,_] rfl rfl rfl rfl rfl vC (.inr ⟨_,vC⟩) kR vZ LP rfl a8 rfl (Src.slice (jV.at 0 rfl) rfl rfl (UK a6)) oM ?_);intro _ a3;refine mQ ?_ ?_<;>intro Q
 ·have W:nN es e.t=true:=Q;have a9:=TV W;have a0:lH es e.t+1≤es.length:=a9;have aa:(es.drop (lH es e.t+1)).length=es.length-(lH es e.t+1):=aQ;refine jL 14 ?_;refine bJ (qB (j:=(lH es e.t+1)) rfl rfl rfl vC vZ rfl oM oM) ?_;refine dN rfl (kK (by':=47) [_,_,_] rfl rfl rfl rfl rfl vC (.inr ⟨_,vC⟩) kR vZ LP rfl a3 rfl (fO pJ (jU.from pJ A (j:=lH es e.t+1) a0) (IJ G (fun x hx=>aV hx))) oM ?_);intro ab a4;refine jL 4 ?_;refine bP (bC (dR (bC dJ))) ?_;have M:es.take (lH es e.t)++[e]++es.drop (lH es e.t+1)=yH es e:=by unfold yH;rw[W];rfl
  have N:=(ZH (es.take (lH es e.t)) (es.drop (lH es e.t+1)) e).trans (zC (fH oI) M);refine gK (H':=gH 59 ((yH es e).flatMap oI) ab++[(Z,_)]) (by rw[←N];exact bY) ?_;refine fV pJ dE (by rw[←N];exact a4) (by rw[←M];simp only[aC,bW];omega) (fun I8 S a1=>?_);refine gQ rfl rfl ?_;exact⟨_,rfl,G.put hr S a1,rfl⟩
 have W:nN es e.t=false:=Q;have a0:=a2;have aa:(es.drop (lH es e.t)).length=es.length-lH es e.t:=aQ;refine jL 10 ?_;refine bJ (qB (j:=(lH es e.t)) rfl rfl rfl vC vZ rfl oM oM) ?_;refine dN rfl (kK (by':=47) [_,_,_] rfl rfl rfl rfl rfl vC (.inr ⟨_,vC⟩) kR vZ LP rfl a3 rfl (fO pJ (jU.from pJ A (j:=lH es e.t) a0) (IJ G (fun x hx=>aV hx))) oM ?_);intro ac a5;refine jL 4 ?_;refine bP (bC (dR (bC dJ))) ?_;have M:es.take (lH es e.t)++[e]++es.drop (lH es e.t)=yH es e:=by unfold yH;rw[W];rfl
 have N:=(ZH (es.take (lH es e.t)) (es.drop (lH es e.t)) e).trans (zC (fH oI) M);refine gK (H':=gH 59 ((yH es e).flatMap oI) ac++[(Z,_)]) (by rw[←N];exact bY) ?_;refine fV pJ dE (by rw[←N];exact a5) (by rw[←M];simp only[aC,bW];omega) (fun I8 S a1=>?_);refine gQ rfl rfl ?_;exact⟨_,rfl,G.put hr S a1,rfl⟩
theorem a4v N w es t (hl:es.length≤1000000) I (A:nO I es w):jO aB 44 [ptr N 0,jZ t] I [(N,jM 50 [w])] (fun ev I' H'=>∃w',ev= .returned (.tuple #[])∧nO I' (rD es t) w'∧H'=[(N,jM 50 [w'])]):=by
 have G:=A.1;obtain⟨p,c,rfl,_⟩:=A.len;have a1:=MK es t;have a8:(es.take (lH es t)).length=lH es t:=by rw[aA];omega
 refine jT func44 fun w0 _=>?_;refine jL 3 ?_;intro _ _;refine jL 6 ?_;refine J.pull (Pull.s Pull.z) ?_;refine kH (a2D N _ es t hl _ A) ?_;intro _ _ _ O a2;have A:=A.mono O;have G:=G.mono O;obtain⟨h,rfl⟩:=a2;cases h;refine mQ ?_ ?_<;>intro Q
 ·have M:nN es t=true:=Q;have a3:=TV M;have a4:lH es t+1≤es.length:=a3;have a9:(es.drop (lH es t+1)).length=es.length-(lH es t+1):=aQ;refine jL 13 ?_;refine bJ (qF (k:=lH es t) rfl rfl rfl vC vZ rfl oM) ?_;refine dN rfl (kK (by':=47) (n:=0) (g:=none) (xs:=[]) [_,_] rfl rfl rfl rfl rfl vC (.inr ⟨_,vC⟩) kR vZ LP rfl rT rfl (fO pJ (jU.take G a1) (IJ A (fun x Z=>bD Z))) oM ?_);intro _ a5;refine jL 12 ?_;refine bJ (qB (j:=(lH es t+1)) rfl rfl rfl vC vZ rfl oM oM) ?_;refine dN rfl (kK (by':=47) [_,_] rfl rfl rfl rfl rfl vC (.inr ⟨_,vC⟩) kR vZ LP rfl a5 rfl (fO pJ (jU.from pJ G (j:=lH es t+1) a4) (IJ A (fun x Z=>aV Z))) oM ?_);intro g9 a6;refine jL 4 ?_;refine bP (dR (bC dJ)) ?_;have S:es.take (lH es t)++es.drop (lH es t+1)=rD es t:=by unfold rD;rw[M];rfl
  have W:=(b3C (es.take (lH es t)) (es.drop (lH es t+1))).trans (zC (fH oI) S);refine gK (H':=gH 59 ((rD es t).flatMap oI) g9++[(N,_)]) (by rw[←W];exact bY) ?_;refine fV pJ dE (by rw[←W];exact a6) (by rw[←S];simp only[aC];omega) (fun _ a0 a7=>?_);refine gQ rfl rfl ?_;exact⟨_,rfl,A.drop a0 a7,rfl⟩
 have M:nN es t=false:=Q;refine jL 1 ?_;refine bP (dR (bC Keeps.n)) ?_;refine gQ rfl rfl ?_;exact⟨_,rfl,(show rD es t=es from by unfold rD;rw[M];rfl).symm▸A,rfl⟩
theorem b1e{α:Type}{f:α→List Value}{l:List α}{k x}(h:l[k]?=some x):(l.take (k+1)).flatMap f=(l.take k).flatMap f++f x:=by
 obtain⟨A,h⟩:=aO.1 h;rw[aX A,h,bI];simp
theorem YK W w es (hl:es.length≤1000000) I (a5:I W=some (jM 50 [w]))(hE:nO I es w):jO aB 62 [ptr W 0] I [] (fun e I' H'=>∃v,e= .returned v∧jU recC I' (es.map (·.t)) v∧H'=[]):=by
 obtain⟨p,c,rfl,_,hp⟩:=id hE.1;refine jT func62 fun w0 _=>?_;refine jL 17 ?_;refine eG (ι:=Nat×Gs) (fun y=>y.1≤es.length∧kZ w0.heap.size 2 (es.take y.1).length ((es.take y.1).flatMap fun x=>recC x.t) y.2) (fun y=>es.length-y.1) (fun y=>[(0,ptr W 0),(3,gV (es.take y.1).length y.2),(4,i64 (y.1:Int))]) (fun y=>_) (fun y=>gH 54 ((es.take y.1).flatMap fun x=>recC x.t) y.2) (0,none) ⟨bQ _,rfl,rfl⟩ rT rfl rfl ?_;rintro⟨y,g⟩ ⟨hy,G⟩;dsimp only at hy G ⊢;have a6:(es.take y).length=y:=by rw[aA];omega
 refine jR ?_ ?_<;>intro a0 Z
 ·have N:y<es.length:=oM;obtain⟨x,A⟩:∃x,es[y]?=some x:=⟨_,kV N⟩;obtain⟨_,eo,_,_,_,_,rfl,a1,a2⟩:=hp (jS N);have O:=b1e (f:=fun x:nM=>recC x.t) A;have Q:(es.take (y+1)).length=(es.take y).length+1:=by rw[aA,aA];omega
  refine kG (eo+y*5) ?_;refine jL 1 ?_;refine bJ (q3 oC kX (eF a1) (MO a2 A)) ?_;refine jL 1 ?_;intro _ _;refine yR 15 [_] G ?_;intro g3 a3;refine jL 9 ?_;refine bP (bC dJ) ?_;refine aZ (y+1,g3) ⟨dO,by dsimp only;rw[Q,O];exact a3⟩ dO ⟨rfl,by dsimp only;rw[Q];rfl,rfl,trivial⟩ rfl (by dsimp only;rw[O];rfl)
 refine jL 12 ?_;have M:es.take y=es:=aG oM;rw[M]at G ⊢;have S:(es.map (·.t)).flatMap recC=es.flatMap fun x=>recC x.t:=List.flatMap_map _ recC _;refine gK (H':=gH 54 ((es.map (·.t)).flatMap recC) g++[]) (.of_eq (by rw[S,aN])) ?_;refine fV jY dE (by rw[S];exact G) (by rw[aH]) (fun _ _ a4=>?_);refine jW ?_;exact⟨_,rfl,a4,rfl⟩
end Go.Proofs.YtekmeaoblpfnpaaGreatDoor
end
section
namespace Go.Proofs.YtekmeaoblpfnpaaGreatDoor
open _root_.Go.Proofs.Tryz
open Go Go.Sx
def rn (s:List UInt8):List UInt8:=(s.takeWhile bF).filter dF
theorem a8N{c}(h:c.toNat=88∨c.toNat=120):aJ c=88:=by
 rcases h with h|h
 ·rw[show c=88 from gG.1 (by rw[h];rfl)];rfl
 rw[show c=120 from gG.1 (by rw[h];rfl)];rfl
theorem a7P{c}(h:aU c=true):aJ c=c:=(Ke.digit_ok h).2.2
theorem a9C{c}(h:aU c=true):bM c=c.toNat-48:=by
 have:=fJ.1 h;unfold bM;rw[zD fun e=>by rw[e]at this;exact absurd this.2 dE]
theorem b8v{c}(h:(48≤c.toNat∧c.toNat≤57)∨c.toNat=88∨c.toNat=120):bF c=true∧dF c=true:=by
 revert h;exact dY (p:=fun c=>(48≤c.toNat∧c.toNat≤57)∨c.toNat=88∨c.toNat=120→bF c=true∧dF c=true) (by decide +kernel) c
theorem b4S{c}(h:c.toNat=32∨c.toNat=45):bF c=true∧dF c=false:=by
 revert h;exact dY (p:=fun c=>c.toNat=32∨c.toNat=45→bF c=true∧dF c=false) (by decide +kernel) c
theorem b7x{c}(h:¬((48≤c.toNat∧c.toNat≤57)∨c.toNat=88∨c.toNat=120∨c.toNat=32∨c.toNat=45)):bF c=false:=by
 revert h;exact dY (p:=fun c=>¬((48≤c.toNat∧c.toNat≤57)∨c.toNat=88∨c.toNat=120∨c.toNat=32∨c.toNat=45)→bF c=false) (by decide +kernel) c
theorem b2y s:∀c∈rn s,aU c=true∨c.toNat=88∨c.toNat=120:=fun c A=>by
 obtain⟨h1,h2⟩:=cZ.1 A;have h3:bF c=true:=List.all_eq_true.1 (List.all_takeWhile (p:=bF)) c h1;revert h2 h3;exact dY (p:=fun d=>dF d=true→bF d=true→aU d=true∨d.toNat=88∨d.toNat=120) (by decide +kernel) c
theorem b7s s:(rn s).length≤s.length:=mY (dZ _ _) (List.takeWhile_prefix _).length_le
theorem XP{s:List UInt8}{k c}(h:s[k]?=some c):(s.take (k+1)).filter dF=(s.take k).filter dF++(if dF c then[c]else[]):=by
 obtain⟨A,G⟩:=aO.1 h;rw[aX A,G,fD];cases hn:dF c<;>simp[hn]
theorem RQ{t}(h:∀c∈t,aU c=true∨c.toNat=88∨c.toNat=120):bZ (t.map aJ)=bZ t:=by
 induction t with
 |nil=>rfl
 |cons c r G=>
  rw[eY,gU,gU,G fun d A=>h d (.tail _ A)];rcases h c (.head _)with e|e
  ·rw[a7P e]
  rw[a8N e];have:aU c=false:=by
   rcases A:aU c with _|_
   ·rfl
   have:=fJ.1 A;omega
  rw[this];rfl
theorem AL{t}(h:bZ t=true):t.map aJ=t:=Ke.a8c h
theorem QJ{s:List UInt8}{j c}(G:j<9)(A:s[j]?=some c)(M:c.toNat=88∨c.toNat=120):bT (s.map aJ)=false:=by
 have h1:((s.map aJ).take 9)[j]?=some (aJ c):=by rw[fK,zF G,fQ,A];rfl
 have h2:bZ ((s.map aJ).take 9)=false:=by
  refine a1i h1 ?_;rw[a8N M];decide
 unfold bT;rw[h2,Bool.and_false]
theorem a2x s (a0:12≤s.length)(hs:s.length≤1000000000)(hd:bZ (s.take 12)=true) I:Pure aB 120 [str s] I (u8 (Ke.check s)):=by
 refine jT func120 fun w0 _=>?_;refine jL 17 ?_;refine eG (ι:=Nat) (fun j=>j≤12) (fun j=>12-j) (fun j=>[(0,str s),(3,i64 ((fP 0 ((s.take 12).take j):Nat):Int)),(4,i64 (j:Int))]) (fun j=>I) (fun j=>[]) 0 (bQ _) rT rfl rfl ?_;intro j _;have S:=a0A ((s.take 12).take j) 0;rw[aA,aA]at S;refine jR ?_ ?_<;>intro W O
 ·have Z:j<s.length:=oM;obtain⟨c,A⟩:∃c,s[j]?=some c:=⟨_,kV Z⟩;have G:(s.take 12)[j]?=some c:=by rw[fK,zF oM];exact A
  have hc:=a2F hd G;refine jL 8 ?_;refine bJ (lD rfl rfl rfl lJ oM A) ?_;refine bJ (MZ rfl rfl rfl (w8 oM)) ?_;refine jL 1 ?_;refine aT 14 (i64 ((c.toNat-48:Nat):Int)) rfl (zC i64 ((tV oM).trans oM)) ?_;refine jL 8 ?_;refine aT 16 (i64 ((j % 2:Nat):Int)) rfl rfl ?_;refine jR ?_ ?_<;>intro M Q
  ·have h2:j % 2=1:=by have h:=lQ M;omega
   refine jL 19 ?_;refine aZ (j+1) oM oM ⟨rfl,by rw[TJ G,h2];exact zC (fun z=>some (dL .i64 z)) oM,rfl,trivial⟩ rfl rfl
  have h2:j % 2=0:=by have h:=lW M;omega
  refine jL 15 ?_;refine aZ (j+1) oM oM ⟨rfl,by rw[TJ G,h2];exact zC (fun z=>some (dL .i64 z)) oM,rfl,trivial⟩ rfl rfl
 have N:(s.take 12).take j=s.take 12:=aG (by rw[aA];omega);refine jL 9 ?_;refine aT 24 (i64 ((fP 0 (s.take 12) % 10:Nat):Int)) rfl (by rw[N];rfl) ?_;refine jL 1 ?_;refine aT 25 (i64 ((10-fP 0 (s.take 12) % 10:Nat):Int)) rfl (zC i64 oM) ?_;refine jL 1 ?_;refine aT 26 (i64 (((10-fP 0 (s.take 12) % 10) % 10:Nat):Int)) rfl rfl ?_;refine jL 1 ?_;refine aT 27 (i64 ((48+(10-fP 0 (s.take 12) % 10) % 10:Nat):Int)) rfl (zC i64 oM) ?_;refine jL 1 ?_;refine aT 28 (u8 (Ke.check s)) rfl (zC (dL .u8) (KL oM)) ?_;refine jW ?_;exact rT
theorem b2h(a b:Nat):((a:Int) == (b:Int))=(a == b):=by
 rw[Bool.eq_iff_iff,beq_iff_eq,beq_iff_eq];omega
theorem b3j{s:List UInt8}{j c}(N:j≤10)(A:(s.take (min j 9)).all aU=true)(G:s[j]?=some c)(M:aU c=true):(s.take (min (j+1) 9)).all aU=true:=by
 rcases Nat.lt_or_ge j 9 with h|h
 ·rw[dV oM]at A ⊢;exact a9H A G M
 rw[aW oM]at A ⊢;exact A
theorem b7M s (a8:s.length=10)(hx:∀c∈s,aU c=true∨c.toNat=88∨c.toNat=120) I:Pure aB 119 [str s] I (.bool (bT (s.map aJ))):=by
 refine jT func119 fun w0 _=>?_;refine jL 17 ?_;refine eG (ι:=Nat) (fun j=>j≤10∧(s.take (min j 9)).all aU=true) (fun j=>10-j) (fun j=>[(0,str s),(3,i64 ((Ke.JG 0 ((s.map aJ).take j):Nat):Int)),(4,i64 (j:Int))]) (fun j=>I) (fun j=>[]) 0 ⟨bQ _,rfl⟩ rT rfl rfl ?_;rintro j ⟨hj,A⟩;have a9:=a0H ((s.map aJ).take j) 0;rw[aA,aH,a8]at a9;refine jR ?_ ?_<;>intro aa a4
 ·have ab:j<s.length:=oM;obtain⟨c,G⟩:∃c,s[j]?=some c:=⟨_,kV ab⟩;have M:(s.map aJ)[j]?=some (aJ c):=by rw[fQ,G];rfl
  have a2:=hx c (lV G);have ae:=c.toNat_lt;have af:48≤c.toNat:=a2.elim (fun h=>(fJ.1 h).1) (fun h=>oM);have hm:(10-j)*bM (aJ c)≤10*255:=Nat.mul_le_mul oM (a5A _);refine jL 8 ?_;refine bJ (lD rfl rfl rfl lJ oM G) ?_;refine jL 1 ?_;refine aT 13 (i64 (c.toNat:Int)) rfl (zC i64 (tV oM)) ?_;refine jL 1 ?_;refine aT 14 (i64 ((c.toNat-48:Nat):Int)) rfl (zC i64 oM) ?_;refine jL 8 ?_;refine bJ (lD rfl rfl rfl lJ oM G) ?_;refine pR ?_ ?_<;>intro N
  ·have ac:=lQ N;refine jL 9 ?_;have O:c.toNat=88∨c.toNat=120:=oM;have a3:bM (aJ c)=10:=by rw[a8N O];rfl
   refine jR ?_ ?_<;>intro Q a5
   ·have S:=lY Q;refine jW ?_;rw[QJ oM G O];exact rT
   have S:=nD Q;refine jL 6 ?_;refine aT 29 (i64 ((10-j:Nat):Int)) rfl (zC i64 oM) ?_;refine jL 1 ?_;refine aT 30 (i64 ((bM (aJ c):Nat):Int)) rfl (zC i64 oM) ?_;refine bJ (EG rfl rfl rfl (tV (by rw[←aY];omega))) ?_;refine aT 31 (i64 (((10-j)*bM (aJ c):Nat):Int)) rfl (zC i64 (aY _ _).symm) ?_;refine jL 10 ?_;refine aZ (j+1) ⟨oM,by rw[aW oM]at A ⊢;exact A⟩ oM ⟨rfl,by rw[EI M];exact zC (fun z=>some (dL .i64 z)) oM,rfl,trivial⟩ rfl rfl
  have ac:=lW N;refine jL 2 ?_;refine J.zg (lD rfl rfl rfl lJ oM G) ?_;refine jR ?_ ?_<;>intro W a6
  ·have ad:=lQ W;refine jL 1 ?_;have O:c.toNat=88∨c.toNat=120:=oM;have a3:bM (aJ c)=10:=by rw[a8N O];rfl
   refine jR ?_ ?_<;>intro Z a7
   ·have S:=lY Z;refine jW ?_;rw[QJ oM G O];exact rT
   have S:=nD Z;refine jL 6 ?_;refine aT 29 (i64 ((10-j:Nat):Int)) rfl (zC i64 oM) ?_;refine jL 1 ?_;refine aT 30 (i64 ((bM (aJ c):Nat):Int)) rfl (zC i64 oM) ?_;refine bJ (EG rfl rfl rfl (tV (by rw[←aY];omega))) ?_;refine aT 31 (i64 (((10-j)*bM (aJ c):Nat):Int)) rfl (zC i64 (aY _ _).symm) ?_;refine jL 10 ?_;refine aZ (j+1) ⟨oM,by rw[aW oM]at A ⊢;exact A⟩ oM ⟨rfl,by rw[EI M];exact zC (fun z=>some (dL .i64 z)) oM,rfl,trivial⟩ rfl rfl
  have ad:=lW W;have a0:aU c=true:=a2.resolve_right oM;have a3:bM (aJ c)=c.toNat-48:=by rw[a7P a0];exact a9C a0
  refine jL 6 ?_;refine aT 29 (i64 ((10-j:Nat):Int)) rfl (zC i64 oM) ?_;refine jL 1 ?_;refine aT 30 (i64 ((bM (aJ c):Nat):Int)) rfl (zC i64 oM) ?_;refine bJ (EG rfl rfl rfl (tV (by rw[←aY];omega))) ?_;refine aT 31 (i64 (((10-j)*bM (aJ c):Nat):Int)) rfl (zC i64 (aY _ _).symm) ?_;refine jL 10 ?_;refine aZ (j+1) ⟨oM,by exact b3j hj A G a0⟩ oM ⟨rfl,by rw[EI M];exact zC (fun z=>some (dL .i64 z)) oM,rfl,trivial⟩ rfl rfl
 have a1:(s.map aJ).take j=s.map aJ:=aG (by rw[aH];omega);refine jL 9 ?_;refine aT 34 (i64 ((Ke.JG 0 (s.map aJ) % 11:Nat):Int)) rfl (by rw[a1];rfl) ?_;refine jW ?_;have hr:bT (s.map aJ)=(Ke.JG 0 (s.map aJ) % 11 == 0):=by
  unfold bT;rw[←gX,AL (show bZ (s.take 9)=true by rw[aW oM]at A;exact A),show bZ (s.take 9)=true by rw[aW oM]at A;exact A,Bool.and_true]
 rw[hr];exact⟨zC (fun b=>Ending.returned (.bool b)) (b2h _ _),rfl,rfl⟩
theorem b5M{s j}(G:¬j<s.length)(A:(s.take j).all bF=true):(s.take j).filter dF=rn s:=by
 rw[aG oM]at A ⊢;unfold rn;rw[NG A]
theorem b8c{s j c}(A:(s.take j).all bF=true)(G:s[j]?=some c)(M:bF c=false):(s.take j).filter dF=rn s:=by
 unfold rn;rw[ZJ A G M]
theorem a3V s (hs : s.length ≤ 100000000) I : Pure Tryz.prog 67 [str s] I (.tuple #[str (Ke.EX s).1, .bool (Ke.EX s).2]) := by
 refine jO.toPure ?_
 have b8 := b7s s
 have a8 := b2y s
 have ab : Ke.EX s = Ke.a3p ((rn s).map Ke.up) := rfl
 have a9 : ((rn s).map Ke.up).length = (rn s).length := List.length_map _
 refine jT func67 fun w0 _ => ?_
 refine jL 11 ?_
 refine Cj.join (ι := Unit) (fun O => True) (fun O => [(4, str (rn s))]) (fun O => I) (fun O => []) ?_ (fun A => ?_)
 ·rintro _ -
  refine Cj.join (ι := Unit) (fun O => ¬ (((rn s).map Ke.up).length = 10 ∧ Ke.QA ((rn s).map Ke.up) = true)) (fun O => [(4, str (rn s))]) (fun O => I) (fun O => []) ?_ (fun A => ?_)
  ·rintro _ S
   refine kC (a0y (rn s) (by omega) _) ?_
   refine jL 3 ?_
   refine Cj.join (ι := Unit) (fun O => ¬ (((rn s).map Ke.up).length = 13 ∧ Ke.digits ((rn s).map Ke.up) = true ∧ Ke.check ((rn s).map Ke.up) = ((rn s).map Ke.up).getD 12 0)) (fun O => [(4, str (rn s))]) (fun O => I) (fun O => []) ?_ (fun A => ?_)
   ·rintro _ M
    refine jW ?_
    have he : Ke.EX s = ([], false) := by rw [ab]; unfold Ke.a3p; rw [if_neg S, if_neg M]
    rw [he]
    exact ⟨rfl, rfl⟩
   refine jL 1 ?_
   refine Cj.qJ [] [] 13 (by kernel_rfl) ?_
   refine jL 4 ?_
   refine JA.split 63 rfl (fun ac => ?_) (fun ac => ?_)
   rotate_left
   ·have M : ¬ (((rn s).map Ke.up).length = 13 ∧ Ke.digits ((rn s).map Ke.up) = true ∧ Ke.check ((rn s).map Ke.up) = ((rn s).map Ke.up).getD 12 0) := fun e => lW ac (by rw [← a9, e.1]; rfl)
    refine jL 13 ?_
    exact A () _ _ _ M ⟨rfl, trivial⟩ rfl rfl
   have ax : (rn s).length = 13 := by have h := lQ ac; omega
   refine jL 3 ?_
   refine JA.split 66 rfl (fun aa => ?_) (fun aa => ?_)
   rotate_left
   ·have M : ¬ (((rn s).map Ke.up).length = 13 ∧ Ke.digits ((rn s).map Ke.up) = true ∧ Ke.check ((rn s).map Ke.up) = ((rn s).map Ke.up).getD 12 0) := fun e => Bool.noConfusion (((RQ a8).symm.trans e.2.1).symm.trans aa)
    refine jL 10 ?_
    exact A () _ _ _ M ⟨rfl, trivial⟩ rfl rfl
   have W : Ke.digits (rn s) = true := aa
   have aq : Ke.digits ((rn s).take 12) = true := List.all_eq_true.2 fun c hc => List.all_eq_true.1 W c (List.mem_of_mem_take hc)
   obtain ⟨d, ad⟩ : ∃ c, (rn s)[12]? = some c := ⟨_, kV (by omega)⟩
   have am : ((rn s).map Ke.up).getD 12 0 = d := by rw [AL W, List.getD, ad]; rfl
   refine jL 2 ?_
   refine JA.fix lG (fun fx1 => ?_)
   refine JA.tkG 10 6 66 true _ rfl fx1 rfl rfl aa (lD rfl rfl rfl lJ (by omega) ad) ?_
   refine kC (a2x (rn s) (by omega) (by omega) aq _) ?_
   refine jR (fun ae ar => ?_) (fun ae ar => ?_)
   ·have ay : Ke.check ((rn s).map Ke.up) = ((rn s).map Ke.up).getD 12 0 := by have h := lQ ae; rw [am, AL W]; exact UInt8.toNat_inj.1 (by omega)
    refine jW ?_
    have he : Ke.EX s = (rn s, true) := by rw [ab]; unfold Ke.a3p; rw [if_neg S, if_pos ⟨a9.trans ax, (RQ a8).trans W, ay⟩, AL W]
    rw [he]
    exact ⟨rfl, rfl⟩
   ·have M : ¬ (((rn s).map Ke.up).length = 13 ∧ Ke.digits ((rn s).map Ke.up) = true ∧ Ke.check ((rn s).map Ke.up) = ((rn s).map Ke.up).getD 12 0) := fun e => lW ae (by have h := e.2.2; rw [am, AL W] at h; rw [h])
    refine jL 1 ?_
    exact A () _ _ _ M ⟨rfl, trivial⟩ rfl rfl
  refine jR (fun af au => ?_) (fun af au => ?_)
  ·have an : (rn s).length = 10 := by have h := lQ af; omega
   refine kC (b7M (rn s) an a8 _) ?_
   refine mQ (fun ag => ?_) (fun ag => ?_)
   ·have ao : Ke.QA ((rn s).map Ke.up) = true := ag
    have ap : Ke.digits ((rn s).take 9) = true := by rw [← RQ (fun c hc => a8 c (List.mem_of_mem_take hc)), List.map_take]; exact (Bool.and_eq_true_iff.1 ao).2
    have av : ((rn s).map Ke.up).take 9 = (rn s).take 9 := by rw [← List.map_take, AL ap]
    have ah := a2U (b := []) ap (by rw [List.length_take]; omega)
    rw [List.append_nil] at ah
    refine jL 3 ?_
    refine J.z (lM (p := 0) (q := 9) rfl rfl lJ rfl ⟨_, rfl⟩ (by omega) (by omega)) ?_
    refine J.ev 50 (str ((rn s).take 9)) rfl (by rw [List.drop_zero]) ?_
    refine J.z (oW rfl rfl rfl (by first | omega | (simp only [List.length_append]; omega) | (simp; omega))) ?_
    refine kC (a2x _ (by simp; omega) (by simp; omega) ah _) ?_
    refine jL 1 ?_
    intro _ _
    refine J.z (uV [Ke.check ([57, 55, 56] ++ (rn s).take 9)] rfl rfl rfl sD lJ LW (jV.at 0 rfl) rfl) ?_
    refine J.z (oW rfl rfl rfl (by first | omega | (simp only [List.length_append]; omega) | (simp; omega))) ?_
    refine kF ?_
    have he : Ke.EX s = ([57, 55, 56] ++ (rn s).take 9 ++ [Ke.check ([57, 55, 56] ++ (rn s).take 9)], true) := by rw [ab]; unfold Ke.a3p; rw [if_pos ⟨a9.trans an, ao⟩, av]
    rw [he]
    exact ⟨rfl, rfl⟩
   have S : ¬ (((rn s).map Ke.up).length = 10 ∧ Ke.QA ((rn s).map Ke.up) = true) := fun e => Bool.noConfusion (e.2.symm.trans ag)
   refine jL 1 ?_
   exact A () _ _ _ S ⟨rfl, trivial⟩ rfl rfl
  have S : ¬ (((rn s).map Ke.up).length = 10 ∧ Ke.QA ((rn s).map Ke.up) = true) := fun e => lW af (by rw [← a9, e.1]; rfl)
  refine jL 1 ?_
  exact A () _ _ _ S ⟨rfl, trivial⟩ rfl rfl
 refine jL 6 ?_
 refine Cj.loop (ι := Nat) (fun j => j ≤ s.length ∧ (s.take j).all Ke.okb = true) (fun j => s.length - j) (fun j => [(0, str s), (4, str ((s.take j).filter Ke.nb)), (5, i64 (j : Int))]) (fun j => _) (fun j => []) 0 ⟨Nat.zero_le _, rfl⟩ ⟨rfl, rfl, rfl, trivial⟩ rfl rfl ?_
 rintro j ⟨hj, Q⟩
 have az := List.length_filter_le Ke.nb (s.take j)
 rw [List.length_take, Nat.min_eq_left hj] at az
 refine jR (fun aw aj => ?_) (fun aw aj => ?_)
 ·have b0 : j < s.length := by omega
  obtain ⟨c, G⟩ : ∃ c, s[j]? = some c := ⟨_, kV b0⟩
  refine jL 8 ?_
  refine J.z (lD rfl rfl rfl lJ (by omega) G) ?_
  refine jL 3 ?_
  refine Cj.join (ι := Bool) (fun y => (y = true → ((48 ≤ (c.toNat : Int) ∧ (c.toNat : Int) ≤ 57) ∨ (c.toNat : Int) = 88 ∨ (c.toNat : Int) = 120)) ∧ (y = false → ¬ ((48 ≤ (c.toNat : Int) ∧ (c.toNat : Int) ≤ 57) ∨ (c.toNat : Int) = 88 ∨ (c.toNat : Int) = 120))) (fun y => [(0, str s), (4, str ((s.take j).filter Ke.nb)), (5, i64 (j : Int)), (6, u8 c), (31, .bool y)]) (fun y => I) (fun y => []) ?_ (fun A => ?_)
  ·rintro y ⟨b1, b2⟩
   refine mQ (fun a0 => ?_) (fun a0 => ?_)
   ·have b3 := b1 a0
    have Z := b8v (c := c) (by omega)
    refine jL 4 ?_
    intro _ _
    refine J.z (uV [c] rfl rfl rfl sD lJ LW (jV.at 0 rfl) rfl) ?_
    refine J.z (oW rfl rfl rfl (by first | omega | (simp only [List.length_append]; omega) | (simp; omega))) ?_
    refine jL 4 ?_
    have N := XP G
    rw [Z.2, if_pos rfl] at N
    refine jL 5 ?_
    refine Ej.keep (Keeps.d Keeps.n) ?_
    refine Ej.round (j + 1) ⟨by omega, PN Q G Z.1⟩ (by omega) ⟨rfl, by rw [N]; rfl, rfl, trivial⟩ rfl rfl
   have b3 := b2 a0
   refine pR (fun a1 => ?_) (fun a1 => ?_)
   ·have b4 := bne_iff_ne.1 a1
    refine jR (fun a2 al => ?_) (fun a2 al => ?_)
    ·have b5 := bne_iff_ne.1 a2
     have a3 := b8c Q G (b7x (by omega))
     rw [a3]
     refine jL 1 ?_
     refine Ej.a4a rfl ?_
     refine jL 3 ?_
     exact A () _ _ _ trivial ⟨rfl, trivial⟩ rfl rfl
    have b5 : (c.toNat : Int) = 45 := by have h := a2; rw [bne_eq_false_iff_eq] at h; exact h
    refine jL 3 ?_
    have Z := b4S (c := c) (by omega)
    have N := XP G
    rw [Z.2, if_neg (by decide), List.append_nil] at N
    refine jL 5 ?_
    refine Ej.round (j + 1) ⟨by omega, PN Q G Z.1⟩ (by omega) ⟨rfl, by rw [N]; rfl, rfl, trivial⟩ rfl rfl
   have b4 : (c.toNat : Int) = 32 := by have h := a1; rw [bne_eq_false_iff_eq] at h; exact h
   refine jL 9 ?_
   have Z := b4S (c := c) (by omega)
   have N := XP G
   rw [Z.2, if_neg (by decide), List.append_nil] at N
   refine jL 5 ?_
   refine Ej.round (j + 1) ⟨by omega, PN Q G Z.1⟩ (by omega) ⟨rfl, by rw [N]; rfl, rfl, trivial⟩ rfl rfl
  refine pR (fun a4 => ?_) (fun a4 => ?_)
  ·have b6 := lY a4
   refine pR (fun a5 => ?_) (fun a5 => ?_)
   ·have b7 := lY a5
    refine jL 8 ?_
    exact A _ _ _ _ ⟨fun h => by first | omega | (simp at h; omega) | (cases h; done), fun h => by first | omega | (simp at h; omega) | (cases h; done)⟩ ⟨rfl, rfl, rfl, rfl, rfl, trivial⟩ rfl rfl
   have b7 := nD a5
   refine pR (fun a6 => ?_) (fun a6 => ?_)
   ·have ai := lQ a6
    refine jL 4 ?_
    exact A _ _ _ _ ⟨fun h => by first | omega | (simp at h; omega) | (cases h; done), fun h => by first | omega | (simp at h; omega) | (cases h; done)⟩ ⟨rfl, rfl, rfl, rfl, rfl, trivial⟩ rfl rfl
   have ai := lW a6
   refine jL 4 ?_
   exact A _ _ _ _ ⟨fun h => by first | omega | (simp at h; omega) | (cases h; done), fun h => by first | omega | (simp at h; omega) | (cases h; done)⟩ ⟨rfl, rfl, rfl, rfl, rfl, trivial⟩ rfl rfl
  have b6 := nD a4
  refine pR (fun a7 => ?_) (fun a7 => ?_)
  ·have ai := lQ a7
   refine jL 4 ?_
   exact A _ _ _ _ ⟨fun h => by first | omega | (simp at h; omega) | (cases h; done), fun h => by first | omega | (simp at h; omega) | (cases h; done)⟩ ⟨rfl, rfl, rfl, rfl, rfl, trivial⟩ rfl rfl
  have ai := lW a7
  refine jL 4 ?_
  exact A _ _ _ _ ⟨fun h => by first | omega | (simp at h; omega) | (cases h; done), fun h => by first | omega | (simp at h; omega) | (cases h; done)⟩ ⟨rfl, rfl, rfl, rfl, rfl, trivial⟩ rfl rfl
 have a3 := b5M (s := s) (j := j) (by omega) Q
 rw [a3]
 refine jL 4 ?_
 exact A () _ _ _ trivial ⟨rfl, trivial⟩ rfl rfl
end Go.Proofs.YtekmeaoblpfnpaaGreatDoor
end
namespace Ke
open Go.Lib (decodeL decodeN)
def opens (t:Bs):Prop:=t=[]∨∃b r,t=b::r∧b.toNat / 64≠2
theorem BG{b r}(h:b.toNat / 64≠2):opens (b::r):= .inr ⟨b,r,rfl,h⟩
theorem a1V:opens []:= .inl rfl
theorem a2G{s t}(h:opens s)(A:s≠[]):opens (s++t):=by
 rcases h with h|⟨b,r,rfl,h⟩
 ·exact absurd h A
 exact .inr ⟨b,r++t,rfl,h⟩
theorem a9b{s t}(h:opens s)(A:opens t):opens (s++t):=by grind [a2G]
theorem WI l t (hl : l ≠ []) (ht : opens t) : decodeL (l ++ t) = decodeL l := by
  rw [Go.Lib.decodeL_N, Go.Lib.decodeL_N]
  rcases ht with rfl | ⟨b, r, rfl, hb⟩
  · rw [List.append_nil]
  rcases l with _ | ⟨a0, _ | ⟨a1, _ | ⟨a2, _ | ⟨a3, l⟩⟩⟩⟩
  · exact absurd rfl hl
  all_goals
    simp only [List.cons_append, List.nil_append, List.length_cons, List.length_nil, List.length_append, List.getD_cons_zero, List.getD_cons_succ, List.getD_nil]
    unfold decodeN
    first
      | (have e1 : (0 + 1 < 0 + 1) = False := by simp
         simp [hb, Nat.lt_irrefl])
      | (simp [hb, Nat.lt_irrefl]; done)
      | skip
theorem WO:∀(n:Nat) (s t:Bs),s.length≤n→opens t→runes (s++t)=runes s++runes t
 |_,[],t,_,_=>by simp[b1K]
 |0,a::r,t,h,_=>by simp at h
 |n+1,a::r,t,h,ht=>by
  have A:a::r≠[]:=sI;have M:=Go.Lib.decodeL_width (a::r);have G:=Go.Lib.decodeL_le (a::r) A;rw[BP (s:=(a::r)++t) sI,BP A,WI _ _ A ht,List.drop_append_of_le_length G,WO n _ t (by simp only[aQ];simp only[aI]at h;simp only[aI];omega) ht];rfl
theorem a1L s t (h:opens t):runes (s++t)=runes s++runes t:=WO _ s t (aS _) h
theorem a6i{c} r (h:c.toNat<128):runes (c::r)=c.toNat::runes r:=by
 rw[BP sI,Go.Lib.decodeL_ascii c r h];rfl
theorem toByte{n}(h:n<256):(bG n).toNat=n:=by simp;omega
theorem enc1{c}(h:c<128):enc c=[bG c]:=by
 unfold enc;rw[zF h]
theorem enc2{c}(h1:128≤c)(h:c<2048):enc c=[bG (192+c / 64),bG (128+c % 64)]:=by
 unfold enc;rw[zD oM,zF h]
theorem enc3{c}(h1:2048≤c)(h:wK c):enc c=[bG (224+c / 4096),bG (128+c / 64 % 64),bG (128+c % 64)]:=by grind [wK,enc]
theorem KQ{c}(h:wK c):opens (enc c)∧enc c≠[]:=by
 by_cases h1:c<128
 ·rw[enc1 h1];exact⟨BG (by rw[toByte oM];omega),sI⟩
 by_cases h2:c<2048
 ·rw[enc2 oM h2];exact⟨BG (by rw[toByte oM];omega),sI⟩
 rw[enc3 oM h];unfold wK at h;exact⟨BG (by rw[toByte oM];omega),sI⟩
theorem VY{c}(h:wK c):decodeL (enc c)=(c,(enc c).length):=by
 rw[Go.Lib.decodeL_N]
 by_cases h1:c<128
 ·rw[enc1 h1];simp only[aI,dX,dG,dH,fA];rw[toByte oM];unfold decodeN;rw[zF h1]
 by_cases h2:c<2048
 ·rw[enc2 oM h2];simp only[aI,dX,dG,dH,fA];rw[toByte oM,toByte oM];unfold decodeN;rw[zD oM,zF ⟨oM,oM,oM⟩,zF oM];refine fU ?_ rfl;show _=c;simp only;omega
 rw[enc3 oM h];unfold wK at h;simp only[aI,dX,dG,dH,fA];rw[toByte oM,toByte oM,toByte oM];unfold decodeN;rw[zD oM,zD oM,zF ⟨oM,⟨oM,oM⟩,oM,oM⟩,zF ⟨oM,oM⟩];refine fU ?_ rfl;show _=c;simp only;omega
theorem a1U{c}(h:wK c):runes (enc c)=[c]:=by
 rw[BP (KQ h).2,VY h,List.drop_eq_nil_of_le (aS _)];rfl
def encs (l:List Nat):Bs:=l.flatMap enc
theorem a0x:∀(l:List Nat),(∀c∈l,wK c)→opens (encs l)
 |[],_=>a1V
 |c::_r,h=>a2G (KQ (h c (.head _))).1 (KQ (h c (.head _))).2
theorem ZF:∀(l:List Nat),(∀c∈l,wK c)→runes (encs l)=l
 |[],_=>rfl
 |c::r,h=>by
  show runes (enc c++encs r)=_;rw[a1L _ _ (a0x r fun d A=>h d (.tail _ A)),a1U (h c (.head _)),ZF r fun d A=>h d (.tail _ A)];rfl
end Ke
namespace Ke
